/- Contracts of functions: each says what the function returns for all arguments that meet its premises. Printed by gen.py. -/
import Derived.Test.YtjgnlnlngcjfcaaMv
import Derived.Test.YtjgnlnlngcjfcaaFwN
import Derived.Test.YtjgnlnlngcjfcaaFwO
import Derived.Test.YtjgnlnlngcjfcaaT
import Derived.Test.YtjgnlnlngcjfcaaSa
import Derived.Test.YtjgnlnlngcjfcaaSb
import Derived.Test.YtjgnlnlngcjfcaaSc
import Derived.Test.YtjgnlnlngcjfcaaSd
import Derived.Test.YtjgnlnlngcjfcaaSf
import Derived.Test.YtjgnlnlngcjfcaaSn
import Derived.Test.YtjgnlnlngcjfcaaSp
import Derived.Test.YtjgnlnlngcjfcaaSt
import Derived.Test.YtjgnlnlngcjfcaaSw
import Derived.Test.YtjgnlnlngcjfcaaSx
import Derived.Test.YtjgnlnlngcjfcaaProg
namespace Go.Proofs.Ytjgnlnlngcjfcaa
open Go Go.RowKit
set_option linter.unusedVariables false
set_option linter.unusedSimpArgs false
attribute [local irreducible] LW
/- laws.a2Dot -/
set_option maxHeartbeats 4000000 in
set_option maxRecDepth 100000 in
theorem c_laws_a2Dot (w : World) (va : Value) (a : List Int) (vb : Value) (b : List Int) (ha : Rd (rdL rI) w.heap va a) (hb : Rd (rdL rI) w.heap vb b) (hl : b.length = a.length) :
    Calls Try.prog 41 #[va, vb] w (fun e w' => e = .returned (.int .i64 (dotN a b a.length)) ∧ Ext w w') := by
  refine calls_mk [va, vb] 31 Try.func41 rfl rfl (by simp) ?_
  have hE0 : Ext w w := Ext.refl w
  have hl_va := ha.lenle
  have hl_vb := hb.lenle
  refine wp_seq ?_
  refine wp_plain _ [0] rfl ?_
  refine q_assign (.int .i64 ((0 : Nat) : Int)) rfl up_none ?_
  refine lw_nil ?_
  refine wp_seq ?_
  refine wp_plain _ [0] rfl ?_
  refine q_assign (.int .i64 ((0 : Nat) : Int)) rfl up_none ?_
  refine lw_nil ?_
  refine wp_seq ?_
  refine wp_seq ?_
  refine wp_plain _ [0] rfl ?_
  refine q_assign (.int .i64 ((0 : Nat) : Int)) rfl up_none ?_
  refine lw_nil ?_
  refine wp_block ?_
  refine c_loop (S := Nat × Int) (fun (⟨k, s⟩ : Nat × Int) => ([(5, (.int .i64 s)), (6, (.int .i64 ((k : Nat) : Int))), (0, va), (1, vb)] : List (Nat × Value))) (fun (⟨k, s⟩ : Nat × Int) (W : World) => Ext w W ∧ k ≤ a.length ∧ s = dotN a b k ∧ (0 ≤ s ∧ s < 1000003)) (fun (⟨k, s⟩ : Nat × Int) => a.length - k) (0, ((0 : Nat) : Int)) ⟨rfl, rfl, rfl, rfl, trivial⟩ ⟨hE0, (by first | omega | assumption | (simp only [List.length_nil, List.length_cons, List.length_append, List.length_set, List.length_replicate]; omega) | (simp [List.length_nil, List.length_cons, List.length_append, List.length_set, List.length_replicate]; done) | (simp [List.length_nil, List.length_cons, List.length_append, List.length_set, List.length_replicate]; omega)), (by rfl), (by omega)⟩ ?_
  clear hE0
  rintro ⟨k, s⟩ ρ1 w1 ⟨hE1, hp1_0, hs, hsr9⟩
  have hzs1 : w.heap.size ≤ w1.heap.size := hE1.size
  refine wp_seq ?_
  refine wp_seq ?_
  refine wp_plain _ [0, 0, 0, 0, 0, 0, 0, 0, 0, 0] rfl ?_
  refine q_move (.int .i64 ((k : Nat) : Int)) rfl up_none ?_
  refine q_move va rfl up_none ?_
  refine q_len (v := va) u29 rfl ha.isSl up_none ?_
  by_cases hc2 : ((k : Nat) : Int) < ((a.length : Nat) : Int)
  ·
    refine q_lss true rfl rfl (decide_eq_true hc2) up_none ?_
    refine q_move (.bool true) rfl up_none ?_
    refine q_move (.int .i64 ((k : Nat) : Int)) rfl (up_some (e := 11) rfl rfl rfl) ?_
    refine q_move vb rfl (up_some (e := 11) rfl rfl rfl) ?_
    refine q_len (v := vb) u29 rfl hb.isSl (up_some (e := 11) rfl rfl rfl) ?_
    by_cases hc3 : ((k : Nat) : Int) < ((b.length : Nat) : Int)
    ·
      refine q_lss true rfl rfl (decide_eq_true hc3) (up_some (e := 11) rfl rfl rfl) ?_
      refine q_pick true (.bool true) rfl rfl up_none ?_
      refine lw_nil ?_
      refine c_cond_t rfl ?_
      refine wp_skip ?_
      refine wp_seq ?_
      refine wp_block ?_
      refine wp_draw _ [0, 0, 0, 0, 1, 0, 0, 0, 1, 0, 0, 0] mixed (by kernel_rfl) ?_
      refine q_move (.int .i64 s) rfl up_none ?_
      refine q_move va rfl up_none ?_
      refine q_move (.int .i64 ((k : Nat) : Int)) rfl up_none ?_
      refine q_idx (v := va) k u29 ti2 rfl rfl ha.isSl rfl (by first | omega | assumption | (simp only [List.length_nil, List.length_cons, List.length_append, List.length_set, List.length_replicate]; omega) | (simp [List.length_nil, List.length_cons, List.length_append, List.length_set, List.length_replicate]; done) | (simp [List.length_nil, List.length_cons, List.length_append, List.length_set, List.length_replicate]; omega)) up_none ?_
      refine q_load (p := eptr va k 1) (.inl rfl) (.int .i64 (a.getD k 0)) one2 rfl (ldH_ext hE1.drew (ha.getI (by first | omega | assumption | (simp only [List.length_nil, List.length_cons, List.length_append, List.length_set, List.length_replicate]; omega) | (simp [List.length_nil, List.length_cons, List.length_append, List.length_set, List.length_replicate]; done) | (simp [List.length_nil, List.length_cons, List.length_append, List.length_set, List.length_replicate]; omega))).1) up_none ?_
      refine q_move vb rfl up_none ?_
      refine q_move (.int .i64 ((k : Nat) : Int)) rfl up_none ?_
      refine q_idx (v := vb) k u29 ti2 rfl rfl hb.isSl rfl (by first | omega | assumption | (simp only [List.length_nil, List.length_cons, List.length_append, List.length_set, List.length_replicate]; omega) | (simp [List.length_nil, List.length_cons, List.length_append, List.length_set, List.length_replicate]; done) | (simp [List.length_nil, List.length_cons, List.length_append, List.length_set, List.length_replicate]; omega)) up_none ?_
      refine q_load (p := eptr vb k 1) (.inl rfl) (.int .i64 (b.getD k 0)) one2 rfl (ldH_ext hE1.drew (hb.getI (by first | omega | assumption | (simp only [List.length_nil, List.length_cons, List.length_append, List.length_set, List.length_replicate]; omega) | (simp [List.length_nil, List.length_cons, List.length_append, List.length_set, List.length_replicate]; done) | (simp [List.length_nil, List.length_cons, List.length_append, List.length_set, List.length_replicate]; omega))).1) up_none ?_
      refine lw_callq 40 [] [] [(.int .i64 (a.getD k 0)), (.int .i64 (b.getD k 0))] rfl rfl cf40 up_none (.int .i64 (md ((a.getD k 0) * (b.getD k 0)))) (fun wq => c_spec_Times wq _ _ (ha.getI (by first | omega | assumption | (simp only [List.length_nil, List.length_cons, List.length_append, List.length_set, List.length_replicate]; omega) | (simp [List.length_nil, List.length_cons, List.length_append, List.length_set, List.length_replicate]; done) | (simp [List.length_nil, List.length_cons, List.length_append, List.length_set, List.length_replicate]; omega))).2 (hb.getI (by first | omega | assumption | (simp only [List.length_nil, List.length_cons, List.length_append, List.length_set, List.length_replicate]; omega) | (simp [List.length_nil, List.length_cons, List.length_append, List.length_set, List.length_replicate]; done) | (simp [List.length_nil, List.length_cons, List.length_append, List.length_set, List.length_replicate]; omega))).2) ?_
      refine lw_callq 85 [] [] [(.int .i64 s), (.int .i64 (md ((a.getD k 0) * (b.getD k 0))))] rfl rfl cf85 up_none (.int .i64 (md (s + (md ((a.getD k 0) * (b.getD k 0)))))) (fun wq => c_spec_Plus wq _ _ (by omega) (md_rng _)) ?_
      refine q_assign (.int .i64 (md (s + (md ((a.getD k 0) * (b.getD k 0)))))) rfl up_none ?_
      refine lw_nil ?_
      refine wp_plain _ [0, 0, 0] rfl ?_
      refine q_move (.int .i64 ((k : Nat) : Int)) rfl up_none ?_
      refine q_add ((k + 1 : Nat) : Int) rfl rfl (w64n (by omega) (by first | omega | assumption | (simp only [List.length_nil, List.length_cons, List.length_append, List.length_set, List.length_replicate]; omega) | (simp [List.length_nil, List.length_cons, List.length_append, List.length_set, List.length_replicate]; done) | (simp [List.length_nil, List.length_cons, List.length_append, List.length_set, List.length_replicate]; omega))) up_none ?_
      refine q_assign (.int .i64 ((k + 1 : Nat) : Int)) rfl up_none ?_
      refine lw_nil ?_
      exact ⟨((k + 1), (md (s + (md ((a.getD k 0) * (b.getD k 0)))))), _, rfl, ⟨rfl, rfl, rfl, rfl, trivial⟩, ⟨hE1.drew, (by first | omega | assumption | (simp only [List.length_nil, List.length_cons, List.length_append, List.length_set, List.length_replicate]; omega) | (simp [List.length_nil, List.length_cons, List.length_append, List.length_set, List.length_replicate]; done) | (simp [List.length_nil, List.length_cons, List.length_append, List.length_set, List.length_replicate]; omega)), (by rw [hs]; exact dotN_step a b k), (by exact md_num _)⟩, by first | omega | (dsimp only; omega)⟩
    ·
      refine q_lss false rfl rfl (decide_eq_false hc3) (up_some (e := 11) rfl rfl rfl) ?_
      refine q_pick true (.bool false) rfl rfl up_none ?_
      refine lw_nil ?_
      refine c_cond_f rfl ?_
      refine wp_exit ?_
      refine t_exit ?_
      refine t_exit ?_
      refine c_exit_here ?_
      refine wp_seq ?_
      refine wp_plain _ [0, 0] rfl ?_
      refine q_move (.int .i64 s) rfl up_none ?_
      refine q_assign (.int .i64 s) rfl up_none ?_
      refine lw_nil ?_
      refine wp_ret ?_
      exact post_ret [4] rfl (.int .i64 s) rfl ⟨(ret_int (by rw [hs, show k = a.length by omega])), hE1⟩
  ·
    refine q_lss false rfl rfl (decide_eq_false hc2) up_none ?_
    refine q_move (.bool false) rfl up_none ?_
    refine lw_skip (e := 11) (c := false) rfl rfl rfl rfl ?_
    refine lw_skip (e := 11) (c := false) rfl rfl rfl rfl ?_
    refine lw_skip (e := 11) (c := false) rfl rfl rfl rfl ?_
    refine lw_skip (e := 11) (c := false) rfl rfl rfl rfl ?_
    refine q_pick false (.bool false) rfl rfl up_none ?_
    refine lw_nil ?_
    refine c_cond_f rfl ?_
    refine wp_exit ?_
    refine t_exit ?_
    refine t_exit ?_
    refine c_exit_here ?_
    refine wp_seq ?_
    refine wp_plain _ [0, 0] rfl ?_
    refine q_move (.int .i64 s) rfl up_none ?_
    refine q_assign (.int .i64 s) rfl up_none ?_
    refine lw_nil ?_
    refine wp_ret ?_
    exact post_ret [4] rfl (.int .i64 s) rfl ⟨(ret_int (by rw [hs, show k = a.length by omega])), hE1⟩

/- laws.FnLinear -/
theorem c_det_i (w : World) (va : Value) (a : List (List Int)) (ha : Rd (rdL (rdL rI)) w.heap va a) (hq : sqB a = true) : Calls Try.prog 14 #[va] w (fun e w' => e = .returned (.tuple #[.int .i64 (detM a), .int .i64 ((0 : Nat) : Int)]) ∧ Ext w w') := by
  have h := c_impl_DeterminantOf w va a ha
  simp only [hq, ↓reduceIte] at h
  exact h
theorem c_det_s (w : World) (va : Value) (a : List (List Int)) (ha : Rd (rdL (rdL rI)) w.heap va a) (hq : sqB a = true) : Calls Try.prog 12 #[va] w (fun e w' => e = .returned (.tuple #[.int .i64 (detM a), .int .i64 ((0 : Nat) : Int)]) ∧ Ext w w') := by
  have h := c_spec_DeterminantOf w va a ha
  simp only [hq, ↓reduceIte] at h
  exact h
theorem c_wide_g (w : World) (va : Value) (a : List (List Int)) (n m : Int) (ha : Rd (rdL (rdL rI)) w.heap va a) (_hn : -9223372036854775808 ≤ n ∧ n ≤ 9223372036854775807) (_hm : -9223372036854775808 ≤ m ∧ m ≤ 9223372036854775807)
    (hl : ((a.length : Nat) : Int) = n) (hr : ∀ k, k < a.length → (((a.getD k []).length : Nat) : Int) = m) : Calls Try.prog 35 #[va, .int .i64 n, .int .i64 m] w (fun e w' => e = .returned (.bool true) ∧ Ext w w') := by
  have h := c_laws_a2Wide w va a n m ha _hn _hm
  have hq : (decide (((a.length : Nat) : Int) = n) && a.all (fun r => decide (((r.length : Nat) : Int) = m))) = true := by
    rw [decide_eq_true hl, Bool.true_and, List.all_eq_true]
    intro r hr'
    obtain ⟨j, hj, rfl⟩ := List.mem_iff_getElem.1 hr'
    have h9 := hr j hj
    rw [gd_at hj] at h9
    exact decide_eq_true h9
  rw [hq] at h
  exact h

set_option maxHeartbeats 4000000 in
set_option maxRecDepth 100000 in
theorem c_laws_FnLinear (w : World) (vc : Value) (cs : List UInt8) (vd : Value) (ds : List UInt8) (hcs : Rd (rdL rU) w.heap vc cs) (hds : Rd (rdL rU) w.heap vd ds)  :
    Calls Try.prog 8 #[vc, vd] w (fun e w' => e = .returned (.bool true) ∧ Ext w w') := by
  refine calls_mk [vc, vd] 207 Try.func8 rfl rfl (by simp) ?_
  have hE0 : Ext w w := Ext.refl w
  have hl_vc := hcs.lenle
  have hl_vd := hds.lenle
  refine wp_seq ?_
  refine wp_plain _ [0] rfl ?_
  refine q_assign (.bool false) rfl up_none ?_
  refine lw_nil ?_
  refine wp_seq ?_
  refine wp_seq ?_
  refine wp_plain _ [0, 0, 3] rfl ?_
  refine q_move vc rfl up_none ?_
  refine q_move vd rfl up_none ?_
  refine lw_call 28 [] [] [vc, vd] rfl rfl cf28 up_none (c_laws_a2Long _ _ _ _ _ (hcs.ext good_u hE0) (hds.ext good_u hE0)) ?_
  rintro e1 w1 ⟨rfl, hX1⟩
  refine ⟨_, rfl, hX1, ?_⟩
  have hzs1 : w.heap.size ≤ w1.heap.size := hX1.size
  have hE1 : Ext w w1 := hE0.trans hX1
  refine lw_nil ?_
  cases hb2 : (decide (((3000 : Nat) : Int) < ((cs.length : Nat) : Int)) || decide (((3000 : Nat) : Int) < ((ds.length : Nat) : Int)))
  ·
    refine c_cond_f (by first | rfl | (show Value.bool _ = _; rw [hb2])) ?_
    refine wp_skip ?_
    refine wp_seq ?_
    refine wp_plain _ [0, 3, 0, 0, 0, 0, 0] rfl ?_
    refine q_move vc rfl up_none ?_
    refine lw_call 29 [] [] [vc] rfl rfl cf29 up_none (c_spec_A2Matrix _ _ _ (hcs.ext good_u hE1)) ?_
    rintro e3 w3 ⟨v3_0, v3_1, x3_0, x3_1, rfl, hX3, hO3_0, hO3_1, hp3_0, hp3_1⟩
    refine ⟨_, rfl, hX3, ?_⟩
    have hzs3 : w1.heap.size ≤ w3.heap.size := hX3.size
    have hE3 : Ext w w3 := hE1.trans hX3
    refine q_move (.tuple #[v3_0, v3_1]) rfl up_none ?_
    refine q_extract (vs := [v3_0, v3_1]) v3_0 rfl rfl up_none ?_
    refine q_extract (vs := [v3_0, v3_1]) v3_1 rfl rfl up_none ?_
    refine q_assign v3_0 rfl up_none ?_
    refine q_assign v3_1 rfl up_none ?_
    refine lw_nil ?_
    refine wp_seq ?_
    refine wp_plain _ [0, 0, 0] rfl ?_
    obtain ⟨hn1, hn5, hsq⟩ := hp3_0
    obtain ⟨hbl, hbn⟩ := hp3_1
    have hsb : sqB x3_0 = true := sqB_is hsq (by omega)
    have hok : slOk x3_0 x3_1 = true := by unfold slOk; simp only [Bool.and_eq_true, decide_eq_true_eq]; exact ⟨hsb, by omega, hbn⟩
    refine q_move v3_0 rfl up_none ?_
    refine q_len (v := v3_0) u22 rfl hO3_0.isSl up_none ?_
    refine q_assign (.int .i64 ((x3_0.length : Nat) : Int)) rfl up_none ?_
    refine lw_nil ?_
    refine wp_seq ?_
    refine wp_plain _ [0, 3, 0, 0, 0, 0, 0] rfl ?_
    refine q_move v3_0 rfl up_none ?_
    refine lw_call 14 [] [] [v3_0] rfl rfl cf14 up_none (c_det_i _ _ _ hO3_0.rd2 (by exact hsb)) ?_
    rintro e4 w4 ⟨rfl, hX4⟩
    refine ⟨_, rfl, hX4, ?_⟩
    have hzs4 : w3.heap.size ≤ w4.heap.size := hX4.size
    have hE4 : Ext w w4 := hE3.trans hX4
    have hO3_0x4 := hO3_0.ext (o2) hX4
    have hO3_1x4 := hO3_1.ext (o1) hX4
    refine q_move (.tuple #[(.int .i64 (detM x3_0)), (.int .i64 ((0 : Nat) : Int))]) rfl up_none ?_
    refine q_extract (vs := [(.int .i64 (detM x3_0)), (.int .i64 ((0 : Nat) : Int))]) (.int .i64 (detM x3_0)) rfl rfl up_none ?_
    refine q_extract (vs := [(.int .i64 (detM x3_0)), (.int .i64 ((0 : Nat) : Int))]) (.int .i64 ((0 : Nat) : Int)) rfl rfl up_none ?_
    refine q_assign (.int .i64 (detM x3_0)) rfl up_none ?_
    refine q_assign (.int .i64 ((0 : Nat) : Int)) rfl up_none ?_
    refine lw_nil ?_
    refine wp_seq ?_
    refine wp_plain _ [0, 0, 3, 0, 0, 0, 0, 0] rfl ?_
    refine q_move v3_0 rfl up_none ?_
    refine q_move v3_1 rfl up_none ?_
    refine lw_call 24 [] [] [v3_0, v3_1] rfl rfl cf24 up_none (c_impl_SolveLinear _ _ _ _ _ hO3_0x4.rd2 hO3_1x4.rd1) ?_
    rintro e5 w5 ⟨v5_0, rfl, hX5, hO5_0⟩
    refine ⟨_, rfl, hX5, ?_⟩
    have hzs5 : w4.heap.size ≤ w5.heap.size := hX5.size
    have hE5 : Ext w w5 := hE4.trans hX5
    have hO3_0x5 := hO3_0x4.ext (o2) hX5
    have hO3_1x5 := hO3_1x4.ext (o1) hX5
    refine q_move (.tuple #[v5_0, (.int .i64 (slC x3_0 x3_1))]) rfl up_none ?_
    refine q_extract (vs := [v5_0, (.int .i64 (slC x3_0 x3_1))]) v5_0 rfl rfl up_none ?_
    refine q_extract (vs := [v5_0, (.int .i64 (slC x3_0 x3_1))]) (.int .i64 (slC x3_0 x3_1)) rfl rfl up_none ?_
    refine q_assign v5_0 rfl up_none ?_
    refine q_assign (.int .i64 (slC x3_0 x3_1)) rfl up_none ?_
    refine lw_nil ?_
    refine wp_seq ?_
    refine wp_plain _ [0, 3, 0, 0, 0, 0, 0] rfl ?_
    refine q_move v3_0 rfl up_none ?_
    refine lw_call 27 [] [] [v3_0] rfl rfl cf27 up_none (c_impl_InverseMatrix _ _ _ hO3_0x5.rd2) ?_
    rintro e6 w6 ⟨v6_0, rfl, hX6, hO6_0⟩
    refine ⟨_, rfl, hX6, ?_⟩
    have hzs6 : w5.heap.size ≤ w6.heap.size := hX6.size
    have hE6 : Ext w w6 := hE5.trans hX6
    have hO3_0x6 := hO3_0x5.ext (o2) hX6
    have hO3_1x6 := hO3_1x5.ext (o1) hX6
    have hO5_0x6 := hO5_0.ext (o1) hX6
    refine q_move (.tuple #[v6_0, (.int .i64 (ivC x3_0))]) rfl up_none ?_
    refine q_extract (vs := [v6_0, (.int .i64 (ivC x3_0))]) v6_0 rfl rfl up_none ?_
    refine q_extract (vs := [v6_0, (.int .i64 (ivC x3_0))]) (.int .i64 (ivC x3_0)) rfl rfl up_none ?_
    refine q_assign v6_0 rfl up_none ?_
    refine q_assign (.int .i64 (ivC x3_0)) rfl up_none ?_
    refine lw_nil ?_
    refine wp_seq ?_
    refine wp_plain _ [0, 3, 0, 0, 0, 0, 0] rfl ?_
    refine q_move v3_0 rfl up_none ?_
    refine lw_call 12 [] [] [v3_0] rfl rfl cf12 up_none (c_det_s _ _ _ hO3_0x6.rd2 (by exact hsb)) ?_
    rintro e7 w7 ⟨rfl, hX7⟩
    refine ⟨_, rfl, hX7, ?_⟩
    have hzs7 : w6.heap.size ≤ w7.heap.size := hX7.size
    have hE7 : Ext w w7 := hE6.trans hX7
    have hO3_0x7 := hO3_0x6.ext (o2) hX7
    have hO3_1x7 := hO3_1x6.ext (o1) hX7
    have hO5_0x7 := hO5_0x6.ext (o1) hX7
    have hO6_0x7 := hO6_0.ext (o2) hX7
    refine q_move (.tuple #[(.int .i64 (detM x3_0)), (.int .i64 ((0 : Nat) : Int))]) rfl up_none ?_
    refine q_extract (vs := [(.int .i64 (detM x3_0)), (.int .i64 ((0 : Nat) : Int))]) (.int .i64 (detM x3_0)) rfl rfl up_none ?_
    refine q_extract (vs := [(.int .i64 (detM x3_0)), (.int .i64 ((0 : Nat) : Int))]) (.int .i64 ((0 : Nat) : Int)) rfl rfl up_none ?_
    refine q_assign (.int .i64 (detM x3_0)) rfl up_none ?_
    refine q_assign (.int .i64 ((0 : Nat) : Int)) rfl up_none ?_
    refine lw_nil ?_
    refine wp_seq ?_
    refine wp_seq ?_
    refine wp_plain _ [0, 0, 0, 0, 0, 0, 0, 0, 0] rfl ?_
    refine q_move (.int .i64 ((0 : Nat) : Int)) rfl up_none ?_
    refine q_neq false rfl rfl (by simp) up_none ?_
    refine q_move (.bool false) rfl up_none ?_
    refine q_move (.int .i64 (detM x3_0)) rfl (up_some (e := 58) rfl rfl rfl) ?_
    refine q_eql (decide (detM x3_0 = ((0 : Nat) : Int))) rfl rfl rfl (up_some (e := 58) rfl rfl rfl) ?_
    refine q_move (.int .i64 (detM x3_0)) rfl (up_some (e := 58) rfl rfl rfl) ?_
    refine q_eql (decide (detM x3_0 = ((0 : Nat) : Int))) rfl rfl rfl (up_some (e := 58) rfl rfl rfl) ?_
    have hc8 : (!((decide (detM x3_0 = ((0 : Nat) : Int))) == (decide (detM x3_0 = ((0 : Nat) : Int))))) = false := (by simp)
    refine q_neqb false u4 rfl rfl hc8 (up_some (e := 58) rfl rfl rfl) ?_
    refine q_pick false (.bool false) rfl rfl up_none ?_
    refine lw_nil ?_
    refine c_cond_f rfl ?_
    refine wp_skip ?_
    refine wp_seq ?_
    refine wp_draw _ [0, 0, 1, 0, 0, 0, 0, 1, 3, 3, 3, 0] mixed (by kernel_rfl) ?_
    have hr0 := hsq.row 0 (by omega)
    have hrn := hsq.row (x3_0.length - 1) (by omega)
    refine q_move v3_0 rfl up_none ?_
    refine q_idx (v := v3_0) 0 u22 ti29 rfl rfl hO3_0x7.isSl rfl (by first | omega | assumption | (simp only [List.length_nil, List.length_cons, List.length_append, List.length_set, List.length_replicate]; omega) | (simp [List.length_nil, List.length_cons, List.length_append, List.length_set, List.length_replicate]; done) | (simp [List.length_nil, List.length_cons, List.length_append, List.length_set, List.length_replicate]; omega)) up_none ?_
    obtain ⟨ue9, hl9, hd9⟩ := hO3_0x7.rd2.get (k := 0) [] (by first | omega | assumption | (simp only [List.length_nil, List.length_cons, List.length_append, List.length_set, List.length_replicate]; omega) | (simp [List.length_nil, List.length_cons, List.length_append, List.length_set, List.length_replicate]; done) | (simp [List.length_nil, List.length_cons, List.length_append, List.length_set, List.length_replicate]; omega))
    have hln9 := hd9.lenle
    refine q_load (p := eptr v3_0 0 1) (.inl rfl) ue9 one29 rfl hl9 up_none ?_
    refine q_move v3_0 rfl up_none ?_
    refine q_move (.int .i64 ((x3_0.length : Nat) : Int)) rfl up_none ?_
    refine q_sub ((x3_0.length - 1 : Nat) : Int) rfl rfl (w64n (by omega) (by omega)) up_none ?_
    refine q_idx (v := v3_0) (x3_0.length - 1) u22 ti29 rfl rfl hO3_0x7.isSl rfl (by first | omega | assumption | (simp only [List.length_nil, List.length_cons, List.length_append, List.length_set, List.length_replicate]; omega) | (simp [List.length_nil, List.length_cons, List.length_append, List.length_set, List.length_replicate]; done) | (simp [List.length_nil, List.length_cons, List.length_append, List.length_set, List.length_replicate]; omega)) up_none ?_
    obtain ⟨ue10, hl10, hd10⟩ := hO3_0x7.rd2.get (k := x3_0.length - 1) [] (by first | omega | assumption | (simp only [List.length_nil, List.length_cons, List.length_append, List.length_set, List.length_replicate]; omega) | (simp [List.length_nil, List.length_cons, List.length_append, List.length_set, List.length_replicate]; done) | (simp [List.length_nil, List.length_cons, List.length_append, List.length_set, List.length_replicate]; omega))
    have hln10 := hd10.lenle
    refine q_load (p := eptr v3_0 (x3_0.length - 1) 1) (.inl rfl) ue10 one29 rfl hl10 up_none ?_
    refine lw_call 39 [] [] [ue9, ue10] rfl rfl cf39 up_none (c_laws_a2Add _ _ _ _ _ hd9 hd10 (by omega) (by omega)) ?_
    rintro e11 w11 ⟨v11_0, rfl, hX11, hO11_0⟩
    refine ⟨_, rfl, hX11, ?_⟩
    replace hX11 := hX11.of_drew
    have hzs11 : w7.heap.size ≤ w11.heap.size := hX11.size
    have hE11 : Ext w w11 := hE7.trans hX11
    have hO3_0x11 := hO3_0x7.ext (o2) hX11
    have hO3_1x11 := hO3_1x7.ext (o1) hX11
    have hO5_0x11 := hO5_0x7.ext (o1) hX11
    have hO6_0x11 := hO6_0x7.ext (o2) hX11
    have hd9x11 := hd9.ext g1 hX11
    have hlx12 := ldH_ext hX11 hl9
    have hd10x11 := hd10.ext g1 hX11
    have hlx13 := ldH_ext hX11 hl10
    replace hO11_0 := hO11_0.low (B' := w7.heap.size) (Nat.le_refl _)
    refine lw_call 31 [] [] [v11_0, (.int .i64 ((3 : Nat) : Int))] rfl rfl cf31 up_none (c_laws_a2Scale _ _ _ _ hO11_0.rd1 (by omega) (by rw [show (addS (x3_0.getD 0 []) (x3_0.getD (x3_0.length - 1) [])).length = (x3_0.getD 0 []).length from tab_len _ _]; omega)) ?_
    rintro e14 w14 ⟨v14_0, rfl, hX14, hO14_0⟩
    refine ⟨_, rfl, hX14, ?_⟩
    have hzs14 : w11.heap.size ≤ w14.heap.size := hX14.size
    have hE14 : Ext w w14 := hE11.trans hX14
    have hO3_0x14 := hO3_0x11.ext (o2) hX14
    have hO3_1x14 := hO3_1x11.ext (o1) hX14
    have hO5_0x14 := hO5_0x11.ext (o1) hX14
    have hO6_0x14 := hO6_0x11.ext (o2) hX14
    have hd9x14 := hd9x11.ext g1 hX14
    have hlx15 := ldH_ext hX14 hlx12
    have hd10x14 := hd10x11.ext g1 hX14
    have hlx16 := ldH_ext hX14 hlx13
    have hO11_0x14 := hO11_0.ext (o1) hX14
    obtain ⟨us, hus, hul, hur⟩ := (hO3_0x14.rd2).heads g1 []
    obtain ⟨tr, htr⟩ : ∃ t, t = scl (addS (x3_0.getD 0 []) (x3_0.getD (x3_0.length - 1) [])) ((3 : Nat) : Int) := ⟨_, rfl⟩
    have hHd : HdL w14.heap [v14_0] ((x3_0.set 0 tr).take 1) := HdL.start (by rw [htr]; exact hO14_0.rd1) (by omega)
    have hK0 : Ext w14 w14 := Ext.refl _
    refine r_one (u := v14_0) (B := w14.heap.size) good_rV u22 ti29 rfl rfl (frV w14.heap.size w14.heap.size _ (isSl_cells hO14_0.isSl)) (Nat.le_refl _) up_none ?_
    intro v17 w17 hX17 hz17 hO17
    have hzs17 : w14.heap.size ≤ w17.heap.size := hX17.size
    have hE17 : Ext w w17 := hE14.trans hX17
    have hK17 := hK0.trans hX17
    have hO3_0x17 := hO3_0x14.ext (o2) hX17
    have hO3_1x17 := hO3_1x14.ext (o1) hX17
    have hO5_0x17 := hO5_0x14.ext (o1) hX17
    have hO6_0x17 := hO6_0x14.ext (o2) hX17
    have hd9x17 := hd9x14.ext g1 hX17
    have hlx18 := ldH_ext hX17 hlx15
    have hd10x17 := hd10x14.ext g1 hX17
    have hlx19 := ldH_ext hX17 hlx16
    have hO11_0x17 := hO11_0x14.ext (o1) hX17
    have hO14_0x17 := hO14_0.ext (o1) hX17
    refine q_assign v17 rfl up_none ?_
    refine lw_nil ?_
    refine wp_seq ?_
    refine wp_seq ?_
    refine wp_plain _ [0] rfl ?_
    refine q_assign (.int .i64 ((1 : Nat) : Int)) rfl up_none ?_
    refine lw_nil ?_
    refine wp_block ?_
    have kUv3_0 : w3.heap.size ≤ w14.heap.size := by omega
    have kUv3_1 : w3.heap.size ≤ w14.heap.size := by omega
    have kUv5_0 : w5.heap.size ≤ w14.heap.size := by omega
    have kUv6_0 : w6.heap.size ≤ w14.heap.size := by omega
    have kUv11_0 : w11.heap.size ≤ w14.heap.size := by omega
    have kUv14_0 : w14.heap.size ≤ w14.heap.size := by omega
    refine c_loop (S := Nat × Value × List Value) (fun (⟨i, vt, US⟩ : Nat × Value × List Value) => ([(16, vt), (17, (.int .i64 ((i : Nat) : Int))), (5, v3_0), (6, v3_1), (7, (.int .i64 ((x3_0.length : Nat) : Int))), (8, (.int .i64 (detM x3_0))), (10, v5_0), (11, (.int .i64 (slC x3_0 x3_1))), (12, v6_0), (13, (.int .i64 (ivC x3_0))), (14, (.int .i64 (detM x3_0)))] : List (Nat × Value))) (fun (⟨i, vt, US⟩ : Nat × Value × List Value) (W : World) => Ext w W ∧ Fr (owL rV 29) w14.heap.size W.heap.size W.heap vt US ∧ Fr (owL (owL rI 2) 29) w1.heap.size w3.heap.size W.heap v3_0 x3_0 ∧ Fr (owL rI 2) w1.heap.size w3.heap.size W.heap v3_1 x3_1 ∧ Fr (owL rI 2) w4.heap.size w5.heap.size W.heap v5_0 (slR x3_0 x3_1) ∧ Fr (owL (owL rI 2) 29) w5.heap.size w6.heap.size W.heap v6_0 (ivR x3_0) ∧ Ext w14 W ∧ i ≤ x3_0.length ∧ 1 ≤ i ∧ HdL w14.heap US ((x3_0.set 0 tr).take i) ∧ US.length ≤ i ∧ w14.heap.size ≤ W.heap.size) (fun (⟨i, vt, US⟩ : Nat × Value × List Value) => x3_0.length - i) (1, v17, ([v14_0])) ⟨rfl, rfl, rfl, rfl, rfl, rfl, rfl, rfl, rfl, rfl, rfl, trivial⟩ ⟨hE17, hO17.up oV, hO3_0x17, hO3_1x17, hO5_0x17, hO6_0x17, hK17, (by omega), (by omega), (by exact hHd), (by simp), (by omega)⟩ ?_
    clear hE0 hX1 hO3_1 hO3_0 hX3 hX4 hO3_0x4 hO3_1x4 hO5_0 hX5 hO3_0x5 hO3_1x5 hO6_0 hX6 hO3_0x6 hO3_1x6 hO5_0x6 hX7 hzs7 hE7 hO3_0x7 hO3_1x7 hO5_0x7 hO6_0x7 hln9 hln10 hO11_0 hX11 hzs11 hE11 hO3_0x11 hO3_1x11 hO5_0x11 hO6_0x11 hlx12 hlx13 hO14_0 hX14 hO3_0x14 hO3_1x14 hO5_0x14 hO6_0x14 hlx15 hlx16 hO11_0x14 hO17 hz17 hX17 hzs17 hE17 hO3_0x17 hO3_1x17 hO5_0x17 hO6_0x17 hlx18 hlx19 hO11_0x17 hO14_0x17
    rintro ⟨i, vt, US⟩ ρ20 w20 ⟨hE20, hL20_0, hL20_1, hL20_2, hL20_3, hL20_4, hL20_5, hp20_0, hp20_1, hHd, hUl, hkB21⟩
    have hzs20 : w.heap.size ≤ w20.heap.size := hE20.size
    refine wp_seq ?_
    refine wp_seq ?_
    refine wp_plain _ [0, 0, 0] rfl ?_
    refine q_move (.int .i64 ((i : Nat) : Int)) rfl up_none ?_
    refine q_move (.int .i64 ((x3_0.length : Nat) : Int)) rfl up_none ?_
    by_cases hc22 : ((i : Nat) : Int) < ((x3_0.length : Nat) : Int)
    ·
      refine q_lss true rfl rfl (decide_eq_true hc22) up_none ?_
      refine lw_nil ?_
      refine c_cond_t rfl ?_
      refine wp_skip ?_
      refine wp_seq ?_
      refine wp_block ?_
      refine wp_plain _ [0, 0, 0, 0, 2, 3, 4, 0] rfl ?_
      refine q_move vt rfl up_none ?_
      refine q_move v3_0 rfl up_none ?_
      refine q_move (.int .i64 ((i : Nat) : Int)) rfl up_none ?_
      refine q_idx (v := v3_0) i u22 ti29 rfl rfl hL20_1.isSl rfl (by first | omega | assumption | (simp only [List.length_nil, List.length_cons, List.length_append, List.length_set, List.length_replicate]; omega) | (simp [List.length_nil, List.length_cons, List.length_append, List.length_set, List.length_replicate]; done) | (simp [List.length_nil, List.length_cons, List.length_append, List.length_set, List.length_replicate]; omega)) up_none ?_
      obtain ⟨ue23, hl23, hd23⟩ := hL20_1.rd2.get (k := i) [] (by first | omega | assumption | (simp only [List.length_nil, List.length_cons, List.length_append, List.length_set, List.length_replicate]; omega) | (simp [List.length_nil, List.length_cons, List.length_append, List.length_set, List.length_replicate]; done) | (simp [List.length_nil, List.length_cons, List.length_append, List.length_set, List.length_replicate]; omega))
      have hln23 := hd23.lenle
      refine q_load (p := eptr v3_0 i 1) (.inr rfl) ue23 one29 rfl hl23 up_none ?_
      have hue : ue23 = us.getD i undef := Option.some.inj (hl23.symm.trans ((hus.ext gV hL20_5).getV (k := i) (by omega)).1)
      refine r_one (u := ue23) (B := w20.heap.size) good_rV u22 ti29 rfl rfl (frV w20.heap.size w20.heap.size _ (isSl_cells hd23.isSl)) (Nat.le_refl _) up_none ?_
      intro v24 w24 hX24 hz24 hO24
      have hzs24 : w20.heap.size ≤ w24.heap.size := hX24.size
      have hE24 : Ext w w24 := hE20.trans hX24
      have hK24 := hL20_5.trans hX24
      have hL20_0x24 := hL20_0.ext (oV) hX24
      have hL20_1x24 := hL20_1.ext (o2) hX24
      have hL20_2x24 := hL20_2.ext (o1) hX24
      have hL20_3x24 := hL20_3.ext (o1) hX24
      have hL20_4x24 := hL20_4.ext (o2) hX24
      have hd23x24 := hd23.ext g1 hX24
      have hlx25 := ldH_ext hX24 hl23
      refine e_appV (v := vt) (a := v24) u22 ti29 rfl rfl rfl hL20_0x24 (by omega) hO24.rdV1 (by first | omega | assumption | (simp only [List.length_nil, List.length_cons, List.length_append, List.length_set, List.length_replicate]; omega) | (simp [List.length_nil, List.length_cons, List.length_append, List.length_set, List.length_replicate]; done) | (simp [List.length_nil, List.length_cons, List.length_append, List.length_set, List.length_replicate]; omega)) (by unfold maxLen; first | omega | assumption | (simp only [List.length_nil, List.length_cons, List.length_append, List.length_set, List.length_replicate]; omega) | (simp [List.length_nil, List.length_cons, List.length_append, List.length_set, List.length_replicate]; done) | (simp [List.length_nil, List.length_cons, List.length_append, List.length_set, List.length_replicate]; omega)) up_none ?_
      intro v26 w26 F26 hC26 hF26 hO26
      have hE26 : Ext w w26 := hC26.below hE24 (fun c hc => Nat.le_trans hE14.size (hF26 c hc).1) hE24.size
      have hK26 : Ext w14 w26 := hC26.below hK24 (fun c hc => Nat.le_trans (by omega) (hF26 c hc).1) hK24.size
      have hzs26 : w24.heap.size ≤ w26.heap.size := hC26.size
      have hF27 := hL20_1x24.chg (o2) hC26 (fun c hc => by have := hF26 c hc; omega)
      have hF28 := hL20_2x24.chg (o1) hC26 (fun c hc => by have := hF26 c hc; omega)
      have hF29 := hL20_3x24.chg (o1) hC26 (fun c hc => by have := hF26 c hc; omega)
      have hF30 := hL20_4x24.chg (o2) hC26 (fun c hc => by have := hF26 c hc; omega)
      refine q_assign v26 rfl up_none ?_
      refine lw_nil ?_
      refine wp_plain _ [0, 0, 0] rfl ?_
      refine q_move (.int .i64 ((i : Nat) : Int)) rfl up_none ?_
      refine q_add ((i + 1 : Nat) : Int) rfl rfl (w64n (by omega) (by first | omega | assumption | (simp only [List.length_nil, List.length_cons, List.length_append, List.length_set, List.length_replicate]; omega) | (simp [List.length_nil, List.length_cons, List.length_append, List.length_set, List.length_replicate]; done) | (simp [List.length_nil, List.length_cons, List.length_append, List.length_set, List.length_replicate]; omega))) up_none ?_
      refine q_assign (.int .i64 ((i + 1 : Nat) : Int)) rfl up_none ?_
      refine lw_nil ?_
      exact ⟨((i + 1), v26, (US ++ [ue23])), _, rfl, ⟨rfl, rfl, rfl, rfl, rfl, rfl, rfl, rfl, rfl, rfl, rfl, trivial⟩, ⟨hE26, hO26.up oV, hF27, hF28, hF29, hF30, hK26, (by omega), (by omega), (by exact hHd.turn (by omega) (by omega) hue (fun k hk => hur k hk)), (by rw [List.length_append]; simp only [List.length_cons, List.length_nil]; omega), (by omega)⟩, by first | omega | (dsimp only; omega)⟩
    ·
      refine q_lss false rfl rfl (decide_eq_false hc22) up_none ?_
      refine lw_nil ?_
      refine c_cond_f rfl ?_
      refine wp_exit ?_
      refine t_exit ?_
      refine t_exit ?_
      refine c_exit_here ?_
      refine wp_seq ?_
      refine wp_plain _ [0, 3, 0, 0, 0, 0, 0] rfl ?_
      refine q_move vt rfl up_none ?_
      have htk : (x3_0.set 0 tr).take i = x3_0.set 0 tr := List.take_of_length_le (by rw [List.length_set]; omega)
      have hall := hHd.lift hL20_0 hL20_5
      rw [htk] at hall
      have hst : sqB (x3_0.set 0 tr) = true := by rw [htr]; exact turn_sq hsq (by omega) (by omega)
      refine lw_call 14 [] [] [vt] rfl rfl cf14 up_none (c_det_i _ _ _ hall (by exact hst)) ?_
      rintro e31 w31 ⟨rfl, hX31⟩
      refine ⟨_, rfl, hX31, ?_⟩
      have hzs31 : w20.heap.size ≤ w31.heap.size := hX31.size
      have hE31 : Ext w w31 := hE20.trans hX31
      have hallx31 := hall.ext g2 hX31
      have hL20_1x31 := hL20_1.ext (o2) hX31
      have hL20_2x31 := hL20_2.ext (o1) hX31
      have hL20_3x31 := hL20_3.ext (o1) hX31
      have hL20_4x31 := hL20_4.ext (o2) hX31
      refine q_move (.tuple #[(.int .i64 (detM (x3_0.set 0 tr))), (.int .i64 ((0 : Nat) : Int))]) rfl up_none ?_
      refine q_extract (vs := [(.int .i64 (detM (x3_0.set 0 tr))), (.int .i64 ((0 : Nat) : Int))]) (.int .i64 (detM (x3_0.set 0 tr))) rfl rfl up_none ?_
      refine q_extract (vs := [(.int .i64 (detM (x3_0.set 0 tr))), (.int .i64 ((0 : Nat) : Int))]) (.int .i64 ((0 : Nat) : Int)) rfl rfl up_none ?_
      refine q_assign (.int .i64 (detM (x3_0.set 0 tr))) rfl up_none ?_
      refine q_assign (.int .i64 ((0 : Nat) : Int)) rfl up_none ?_
      refine lw_nil ?_
      refine wp_seq ?_
      refine wp_plain _ [0] rfl ?_
      refine q_assign (.int .i64 ((3 : Nat) : Int)) rfl up_none ?_
      refine lw_nil ?_
      refine wp_seq ?_
      refine wp_seq ?_
      refine wp_plain _ [0, 0] rfl ?_
      refine q_move (.int .i64 ((x3_0.length : Nat) : Int)) rfl up_none ?_
      by_cases hc32 : ((x3_0.length : Nat) : Int) = ((1 : Nat) : Int)
      ·
        refine q_eql true rfl rfl (decide_eq_true hc32) up_none ?_
        refine lw_nil ?_
        refine c_cond_t rfl ?_
        refine wp_plain _ [0] rfl ?_
        refine q_assign (.int .i64 ((6 : Nat) : Int)) rfl up_none ?_
        refine lw_nil ?_
        refine wp_seq ?_
        refine wp_seq ?_
        refine wp_plain _ [0, 0, 0, 0, 0, 0, 0, 0, 0] rfl ?_
        have htd : detM (x3_0.set 0 tr) = md (detM x3_0 * ((6 : Nat) : Int)) := by rw [htr]; exact (turn_det hsq (by omega)).trans (by rw [if_pos (by omega)]; rfl)
        refine q_move (.int .i64 ((0 : Nat) : Int)) rfl up_none ?_
        refine q_neq false rfl rfl (by simp) up_none ?_
        refine q_move (.bool false) rfl up_none ?_
        refine q_move (.int .i64 (detM (x3_0.set 0 tr))) rfl (up_some (e := 97) rfl rfl rfl) ?_
        refine q_move (.int .i64 (detM x3_0)) rfl (up_some (e := 97) rfl rfl rfl) ?_
        refine q_move (.int .i64 ((6 : Nat) : Int)) rfl (up_some (e := 97) rfl rfl rfl) ?_
        refine lw_callq 40 [] [] [(.int .i64 (detM x3_0)), (.int .i64 ((6 : Nat) : Int))] rfl rfl cf40 (up_some (e := 97) rfl rfl rfl) (.int .i64 (md ((detM x3_0) * ((6 : Nat) : Int)))) (fun wq => c_spec_Times wq _ _ (detM_rng _) (by omega)) ?_
        have hc34 : ¬ (detM (x3_0.set 0 tr) ≠ md ((detM x3_0) * ((6 : Nat) : Int))) := (fun h => h htd)
        refine q_neq false rfl rfl (decide_eq_false hc34) (up_some (e := 97) rfl rfl rfl) ?_
        refine q_pick false (.bool false) rfl rfl up_none ?_
        refine lw_nil ?_
        refine c_cond_f rfl ?_
        refine wp_skip ?_
        refine wp_seq ?_
        refine wp_seq ?_
        refine wp_plain _ [0, 0] rfl ?_
        refine q_move (.int .i64 (detM x3_0)) rfl up_none ?_
        by_cases hc35 : detM x3_0 = ((0 : Nat) : Int)
        ·
          refine q_eql true rfl rfl (decide_eq_true hc35) up_none ?_
          refine lw_nil ?_
          refine c_cond_t rfl ?_
          refine wp_seq ?_
          refine wp_plain _ [0, 0, 0, 0, 0, 0, 0] rfl ?_
          have hz : detM x3_0 = 0 := by omega
          refine q_move (.int .i64 (slC x3_0 x3_1)) rfl up_none ?_
          have hc36 : slC x3_0 x3_1 = ((6 : Nat) : Int) := (sl_zero hok hz).2
          refine q_eql true rfl rfl (decide_eq_true hc36) up_none ?_
          refine q_move (.bool true) rfl up_none ?_
          refine q_move (.int .i64 (ivC x3_0)) rfl (up_some (e := 108) rfl rfl rfl) ?_
          refine q_eql (decide (ivC x3_0 = ((6 : Nat) : Int))) rfl rfl rfl (up_some (e := 108) rfl rfl rfl) ?_
          refine q_pick true (.bool (decide (ivC x3_0 = ((6 : Nat) : Int)))) rfl rfl up_none ?_
          refine q_assign (.bool (decide (ivC x3_0 = ((6 : Nat) : Int)))) rfl up_none ?_
          refine lw_nil ?_
          refine wp_ret ?_
          refine t_ret ?_
          exact post_ret [4] rfl (.bool (decide (ivC x3_0 = ((6 : Nat) : Int)))) rfl ⟨(by first | rfl | (exfalso; omega) | exact ret_bool (decide_eq_true hdi) | exact ret_bool (decide_eq_true (iv_zero hsb hz).2)), hE31⟩
        ·
          refine q_eql false rfl rfl (decide_eq_false hc35) up_none ?_
          refine lw_nil ?_
          refine c_cond_f rfl ?_
          refine wp_skip ?_
          refine wp_seq ?_
          refine wp_seq ?_
          refine wp_plain _ [0, 0, 0, 0, 0, 0, 0, 0, 0, 0, 0, 0, 0, 0, 0, 0, 3, 0, 0] rfl ?_
          have hd : detM x3_0 ≠ 0 := by omega
          have hj : ∀ b, allN b = true → jorN x3_0 b ≠ none := fun b hb hn => hd ((det_jorN hsq hb).2 hn)
          have hxe := (sl_good hok hd).1
          have hie := (iv_good hsb hd).1
          have hxl : (slR x3_0 x3_1).length = x3_0.length := by rw [hxe]; exact solN_len hsq hbn (hj _ hbn)
          have hil : (ivR x3_0).length = x3_0.length := by rw [hie]; exact tab_len _ _
          have hisq : Sq x3_0.length (ivR x3_0) := by rw [hie]; exact invN_sq hsq hj
          refine q_move (.int .i64 (slC x3_0 x3_1)) rfl up_none ?_
          have hc37 : ¬ (slC x3_0 x3_1 ≠ ((0 : Nat) : Int)) := (fun h => h (sl_good hok hd).2)
          refine q_neq false rfl rfl (decide_eq_false hc37) up_none ?_
          refine q_move (.bool false) rfl up_none ?_
          refine q_move (.int .i64 (ivC x3_0)) rfl (up_some (e := 114) rfl rfl rfl) ?_
          have hc38 : ¬ (ivC x3_0 ≠ ((0 : Nat) : Int)) := (fun h => h (iv_good hsb hd).2)
          refine q_neq false rfl rfl (decide_eq_false hc38) (up_some (e := 114) rfl rfl rfl) ?_
          refine q_pick false (.bool false) rfl rfl up_none ?_
          refine q_move (.bool false) rfl up_none ?_
          refine q_move v5_0 rfl (up_some (e := 118) rfl rfl rfl) ?_
          refine q_len (v := v5_0) u29 rfl hL20_3x31.isSl (up_some (e := 118) rfl rfl rfl) ?_
          refine q_move (.int .i64 ((x3_0.length : Nat) : Int)) rfl (up_some (e := 118) rfl rfl rfl) ?_
          have hc39 : ¬ ((((slR x3_0 x3_1).length : Nat) : Int) ≠ ((x3_0.length : Nat) : Int)) := (by omega)
          refine q_neq false rfl rfl (decide_eq_false hc39) (up_some (e := 118) rfl rfl rfl) ?_
          refine q_pick false (.bool false) rfl rfl up_none ?_
          refine q_move (.bool false) rfl up_none ?_
          refine q_move v6_0 rfl (up_some (e := 124) rfl rfl rfl) ?_
          refine q_move (.int .i64 ((x3_0.length : Nat) : Int)) rfl (up_some (e := 124) rfl rfl rfl) ?_
          refine q_move (.int .i64 ((x3_0.length : Nat) : Int)) rfl (up_some (e := 124) rfl rfl rfl) ?_
          refine lw_call 35 [] [] [v6_0, (.int .i64 ((x3_0.length : Nat) : Int)), (.int .i64 ((x3_0.length : Nat) : Int))] rfl rfl cf35 (up_some (e := 124) rfl rfl rfl) (c_wide_g _ _ _ _ _ hL20_4x31.rd2 (by omega) (by omega) (by omega) (by intro k hk; have := hisq.row k (by omega); omega)) ?_
          rintro e40 w40 ⟨rfl, hX40⟩
          refine ⟨_, rfl, hX40, ?_⟩
          have hzs40 : w31.heap.size ≤ w40.heap.size := hX40.size
          have hE40 : Ext w w40 := hE31.trans hX40
          have hallx40 := hallx31.ext g2 hX40
          have hL20_1x40 := hL20_1x31.ext (o2) hX40
          have hL20_2x40 := hL20_2x31.ext (o1) hX40
          have hL20_3x40 := hL20_3x31.ext (o1) hX40
          have hL20_4x40 := hL20_4x31.ext (o2) hX40
          refine q_not false rfl rfl (up_some (e := 124) rfl rfl rfl) ?_
          refine q_pick false (.bool false) rfl rfl up_none ?_
          refine lw_nil ?_
          refine c_cond_f rfl ?_
          refine wp_skip ?_
          refine wp_seq ?_
          refine wp_seq ?_
          refine wp_plain _ [0] rfl ?_
          refine q_assign (.int .i64 ((0 : Nat) : Int)) rfl up_none ?_
          refine lw_nil ?_
          refine wp_block ?_
          refine c_loop (S := Nat) (fun (i : Nat) => ([(21, (.int .i64 ((i : Nat) : Int))), (5, v3_0), (6, v3_1), (7, (.int .i64 ((x3_0.length : Nat) : Int))), (8, (.int .i64 (detM x3_0))), (10, v5_0), (12, v6_0)] : List (Nat × Value))) (fun (i : Nat) (W : World) => Ext w W ∧ Fr (owL (owL rI 2) 29) w1.heap.size w3.heap.size W.heap v3_0 x3_0 ∧ Fr (owL rI 2) w1.heap.size w3.heap.size W.heap v3_1 x3_1 ∧ Fr (owL rI 2) w4.heap.size w5.heap.size W.heap v5_0 (slR x3_0 x3_1) ∧ Fr (owL (owL rI 2) 29) w5.heap.size w6.heap.size W.heap v6_0 (ivR x3_0) ∧ i ≤ x3_0.length) (fun (i : Nat) => x3_0.length - i) 0 ⟨rfl, rfl, rfl, rfl, rfl, rfl, rfl, trivial⟩ ⟨hE40, hL20_1x40, hL20_2x40, hL20_3x40, hL20_4x40, (by omega)⟩ ?_
          clear hzs14 hE14 hL20_5 hL20_4 hL20_3 hL20_2 hL20_1 hL20_0 hE20 hzs20 hX31 hzs31 hE31 hL20_1x31 hL20_2x31 hL20_3x31 hL20_4x31 hX40 hzs40 hE40 hL20_1x40 hL20_2x40 hL20_3x40 hL20_4x40
          rintro i ρ41 w41 ⟨hE41, hL41_0, hL41_1, hL41_2, hL41_3, hp41_0⟩
          have hzs41 : w.heap.size ≤ w41.heap.size := hE41.size
          refine wp_seq ?_
          refine wp_seq ?_
          refine wp_plain _ [0, 0, 0] rfl ?_
          refine q_move (.int .i64 ((i : Nat) : Int)) rfl up_none ?_
          refine q_move (.int .i64 ((x3_0.length : Nat) : Int)) rfl up_none ?_
          by_cases hc42 : ((i : Nat) : Int) < ((x3_0.length : Nat) : Int)
          ·
            refine q_lss true rfl rfl (decide_eq_true hc42) up_none ?_
            refine lw_nil ?_
            refine c_cond_t rfl ?_
            refine wp_skip ?_
            refine wp_seq ?_
            refine wp_block ?_
            refine wp_seq ?_
            refine wp_seq ?_
            refine wp_draw _ [0, 0, 0, 1, 0, 3, 0, 0, 0, 1, 0, 0, 0, 0, 0, 2, 0, 3, 0, 0, 0, 1, 0, 0] mixed (by kernel_rfl) ?_
            have hri := hsq.row i (by omega)
            have hii := hisq.row i (by omega)
            have hd1 : dotN (x3_0.getD i []) (slR x3_0 x3_1) (x3_0.getD i []).length = x3_1.getD i 0 := by rw [hri, hxe]; exact solN_solves hsq hbl hbn (hj _ hbn) (by omega)
            have hd2 : dotN ((ivR x3_0).getD i []) x3_1 ((ivR x3_0).getD i []).length = (slR x3_0 x3_1).getD i 0 := by rw [hii, hxe, hie]; exact inv_sol hsq hj hbl hbn (by omega)
            refine q_move v3_0 rfl up_none ?_
            refine q_move (.int .i64 ((i : Nat) : Int)) rfl up_none ?_
            refine q_idx (v := v3_0) i u22 ti29 rfl rfl hL41_0.isSl rfl (by first | omega | assumption | (simp only [List.length_nil, List.length_cons, List.length_append, List.length_set, List.length_replicate]; omega) | (simp [List.length_nil, List.length_cons, List.length_append, List.length_set, List.length_replicate]; done) | (simp [List.length_nil, List.length_cons, List.length_append, List.length_set, List.length_replicate]; omega)) up_none ?_
            obtain ⟨ue43, hl43, hd43⟩ := hL41_0.rd2.get (k := i) [] (by first | omega | assumption | (simp only [List.length_nil, List.length_cons, List.length_append, List.length_set, List.length_replicate]; omega) | (simp [List.length_nil, List.length_cons, List.length_append, List.length_set, List.length_replicate]; done) | (simp [List.length_nil, List.length_cons, List.length_append, List.length_set, List.length_replicate]; omega))
            have hln43 := hd43.lenle
            refine q_load (p := eptr v3_0 i 1) (.inl rfl) ue43 one29 rfl hl43 up_none ?_
            refine q_move v5_0 rfl up_none ?_
            refine lw_call 41 [] [] [ue43, v5_0] rfl rfl cf41 up_none (c_laws_a2Dot _ _ _ _ _ hd43 hL41_2.rd1 (by omega)) ?_
            rintro e44 w44 ⟨rfl, hX44⟩
            refine ⟨_, rfl, hX44, ?_⟩
            replace hX44 := hX44.of_drew
            have hzs44 : w41.heap.size ≤ w44.heap.size := hX44.size
            have hE44 : Ext w w44 := hE41.trans hX44
            have hL41_0x44 := hL41_0.ext (o2) hX44
            have hL41_1x44 := hL41_1.ext (o1) hX44
            have hL41_2x44 := hL41_2.ext (o1) hX44
            have hL41_3x44 := hL41_3.ext (o2) hX44
            have hd43x44 := hd43.ext g1 hX44
            have hlx45 := ldH_ext hX44 hl43
            refine q_move v3_1 rfl up_none ?_
            refine q_move (.int .i64 ((i : Nat) : Int)) rfl up_none ?_
            refine q_idx (v := v3_1) i u29 ti2 rfl rfl hL41_1x44.isSl rfl (by first | omega | assumption | (simp only [List.length_nil, List.length_cons, List.length_append, List.length_set, List.length_replicate]; omega) | (simp [List.length_nil, List.length_cons, List.length_append, List.length_set, List.length_replicate]; done) | (simp [List.length_nil, List.length_cons, List.length_append, List.length_set, List.length_replicate]; omega)) up_none ?_
            refine q_load (p := eptr v3_1 i 1) (.inl rfl) (.int .i64 (x3_1.getD i 0)) one2 rfl (hL41_1.rd1.getI (by first | omega | assumption | (simp only [List.length_nil, List.length_cons, List.length_append, List.length_set, List.length_replicate]; omega) | (simp [List.length_nil, List.length_cons, List.length_append, List.length_set, List.length_replicate]; done) | (simp [List.length_nil, List.length_cons, List.length_append, List.length_set, List.length_replicate]; omega))).1 up_none ?_
            have hc46 : ¬ (dotN (x3_0.getD i []) (slR x3_0 x3_1) (x3_0.getD i []).length ≠ x3_1.getD i 0) := (fun h => h hd1)
            refine q_neq false rfl rfl (decide_eq_false hc46) up_none ?_
            refine q_move (.bool false) rfl up_none ?_
            refine q_move v6_0 rfl (up_some (e := 147) rfl rfl rfl) ?_
            refine q_move (.int .i64 ((i : Nat) : Int)) rfl (up_some (e := 147) rfl rfl rfl) ?_
            refine q_idx (v := v6_0) i u22 ti29 rfl rfl hL41_3x44.isSl rfl (by first | omega | assumption | (simp only [List.length_nil, List.length_cons, List.length_append, List.length_set, List.length_replicate]; omega) | (simp [List.length_nil, List.length_cons, List.length_append, List.length_set, List.length_replicate]; done) | (simp [List.length_nil, List.length_cons, List.length_append, List.length_set, List.length_replicate]; omega)) (up_some (e := 147) rfl rfl rfl) ?_
            obtain ⟨ue47, hl47, hd47⟩ := hL41_3x44.rd2.get (k := i) [] (by first | omega | assumption | (simp only [List.length_nil, List.length_cons, List.length_append, List.length_set, List.length_replicate]; omega) | (simp [List.length_nil, List.length_cons, List.length_append, List.length_set, List.length_replicate]; done) | (simp [List.length_nil, List.length_cons, List.length_append, List.length_set, List.length_replicate]; omega))
            have hln47 := hd47.lenle
            refine q_load (p := eptr v6_0 i 1) (.inr rfl) ue47 one29 rfl hl47 (up_some (e := 147) rfl rfl rfl) ?_
            refine q_move v3_1 rfl (up_some (e := 147) rfl rfl rfl) ?_
            refine lw_call 41 [] [] [ue47, v3_1] rfl rfl cf41 (up_some (e := 147) rfl rfl rfl) (c_laws_a2Dot _ _ _ _ _ hd47 hL41_1x44.rd1 (by omega)) ?_
            rintro e48 w48 ⟨rfl, hX48⟩
            refine ⟨_, rfl, hX48, ?_⟩
            have hzs48 : w44.heap.size ≤ w48.heap.size := hX48.size
            have hE48 : Ext w w48 := hE44.trans hX48
            have hL41_0x48 := hL41_0x44.ext (o2) hX48
            have hL41_1x48 := hL41_1x44.ext (o1) hX48
            have hL41_2x48 := hL41_2x44.ext (o1) hX48
            have hL41_3x48 := hL41_3x44.ext (o2) hX48
            have hd43x48 := hd43x44.ext g1 hX48
            have hlx49 := ldH_ext hX48 hlx45
            have hd47x48 := hd47.ext g1 hX48
            have hlx50 := ldH_ext hX48 hl47
            refine q_move v5_0 rfl (up_some (e := 147) rfl rfl rfl) ?_
            refine q_move (.int .i64 ((i : Nat) : Int)) rfl (up_some (e := 147) rfl rfl rfl) ?_
            refine q_idx (v := v5_0) i u29 ti2 rfl rfl hL41_2x48.isSl rfl (by first | omega | assumption | (simp only [List.length_nil, List.length_cons, List.length_append, List.length_set, List.length_replicate]; omega) | (simp [List.length_nil, List.length_cons, List.length_append, List.length_set, List.length_replicate]; done) | (simp [List.length_nil, List.length_cons, List.length_append, List.length_set, List.length_replicate]; omega)) (up_some (e := 147) rfl rfl rfl) ?_
            refine q_load (p := eptr v5_0 i 1) (.inl rfl) (.int .i64 ((slR x3_0 x3_1).getD i 0)) one2 rfl (hL41_2.rd1.getI (by first | omega | assumption | (simp only [List.length_nil, List.length_cons, List.length_append, List.length_set, List.length_replicate]; omega) | (simp [List.length_nil, List.length_cons, List.length_append, List.length_set, List.length_replicate]; done) | (simp [List.length_nil, List.length_cons, List.length_append, List.length_set, List.length_replicate]; omega))).1 (up_some (e := 147) rfl rfl rfl) ?_
            have hc51 : ¬ (dotN ((ivR x3_0).getD i []) x3_1 ((ivR x3_0).getD i []).length ≠ (slR x3_0 x3_1).getD i 0) := (fun h => h hd2)
            refine q_neq false rfl rfl (decide_eq_false hc51) (up_some (e := 147) rfl rfl rfl) ?_
            refine q_pick false (.bool false) rfl rfl up_none ?_
            refine lw_nil ?_
            refine c_cond_f rfl ?_
            refine wp_skip ?_
            refine wp_seq ?_
            refine wp_plain _ [0] rfl ?_
            refine q_assign (.int .i64 ((0 : Nat) : Int)) rfl up_none ?_
            refine lw_nil ?_
            refine wp_block ?_
            refine c_loop (S := Nat) (fun (k : Nat) => ([(22, (.int .i64 ((k : Nat) : Int))), (5, v3_0), (6, v3_1), (7, (.int .i64 ((x3_0.length : Nat) : Int))), (8, (.int .i64 (detM x3_0))), (10, v5_0), (12, v6_0), (21, (.int .i64 ((i : Nat) : Int)))] : List (Nat × Value))) (fun (k : Nat) (W : World) => Ext w W ∧ Fr (owL (owL rI 2) 29) w1.heap.size w3.heap.size W.heap v3_0 x3_0 ∧ Fr (owL rI 2) w1.heap.size w3.heap.size W.heap v3_1 x3_1 ∧ Fr (owL rI 2) w4.heap.size w5.heap.size W.heap v5_0 (slR x3_0 x3_1) ∧ Fr (owL (owL rI 2) 29) w5.heap.size w6.heap.size W.heap v6_0 (ivR x3_0) ∧ k ≤ x3_0.length) (fun (k : Nat) => x3_0.length - k) 0 ⟨rfl, rfl, rfl, rfl, rfl, rfl, rfl, rfl, trivial⟩ ⟨hE48, hL41_0x48, hL41_1x48, hL41_2x48, hL41_3x48, (by omega)⟩ ?_
            clear hL41_3 hL41_2 hL41_1 hL41_0 hE41 hzs41 hln43 hX44 hzs44 hE44 hL41_0x44 hL41_1x44 hL41_2x44 hL41_3x44 hlx45 hln47 hX48 hzs48 hE48 hL41_0x48 hL41_1x48 hL41_2x48 hL41_3x48 hlx49 hlx50
            rintro k ρ52 w52 ⟨hE52, hL52_0, hL52_1, hL52_2, hL52_3, hp52_0⟩
            have hzs52 : w.heap.size ≤ w52.heap.size := hE52.size
            refine wp_seq ?_
            refine wp_seq ?_
            refine wp_plain _ [0, 0, 0] rfl ?_
            refine q_move (.int .i64 ((k : Nat) : Int)) rfl up_none ?_
            refine q_move (.int .i64 ((x3_0.length : Nat) : Int)) rfl up_none ?_
            by_cases hc53 : ((k : Nat) : Int) < ((x3_0.length : Nat) : Int)
            ·
              refine q_lss true rfl rfl (decide_eq_true hc53) up_none ?_
              refine lw_nil ?_
              refine c_cond_t rfl ?_
              refine wp_skip ?_
              refine wp_seq ?_
              refine wp_block ?_
              refine wp_seq ?_
              refine wp_draw _ [0, 0, 0, 0, 0, 0, 1, 0, 0, 3, 3, 0, 0, 0, 0, 0, 0, 0, 0, 0, 0, 2, 0, 0, 3, 3, 0, 0, 0] mixed (by kernel_rfl) ?_
              have hii := hisq.row i (by omega)
              have hcl : ∀ r, r < x3_0.length → k < (x3_0.getD r []).length := fun r hr => by have := hsq.row r hr; omega
              have hd3 : dotN ((ivR x3_0).getD i []) (x3_0.map (fun r => r.getD k 0)) ((ivR x3_0).getD i []).length = if i = k then 1 else 0 := by rw [hii, hie]; exact inv_left hsq hj (by omega) (by omega)
              have hd4 : decide (((i : Nat) : Int) = ((k : Nat) : Int)) = decide (dotN ((ivR x3_0).getD i []) (x3_0.map (fun r => r.getD k 0)) ((ivR x3_0).getD i []).length = ((1 : Nat) : Int)) := by rw [hd3]; by_cases e : i = k; (rw [if_pos e, e]; simp); (rw [if_neg e, decide_eq_false (by omega)]; rfl)
              refine q_move (.int .i64 ((i : Nat) : Int)) rfl up_none ?_
              refine q_move (.int .i64 ((k : Nat) : Int)) rfl up_none ?_
              refine q_eql (decide (((i : Nat) : Int) = ((k : Nat) : Int))) rfl rfl rfl up_none ?_
              refine q_move v6_0 rfl up_none ?_
              refine q_move (.int .i64 ((i : Nat) : Int)) rfl up_none ?_
              refine q_idx (v := v6_0) i u22 ti29 rfl rfl hL52_3.isSl rfl (by first | omega | assumption | (simp only [List.length_nil, List.length_cons, List.length_append, List.length_set, List.length_replicate]; omega) | (simp [List.length_nil, List.length_cons, List.length_append, List.length_set, List.length_replicate]; done) | (simp [List.length_nil, List.length_cons, List.length_append, List.length_set, List.length_replicate]; omega)) up_none ?_
              obtain ⟨ue54, hl54, hd54⟩ := hL52_3.rd2.get (k := i) [] (by first | omega | assumption | (simp only [List.length_nil, List.length_cons, List.length_append, List.length_set, List.length_replicate]; omega) | (simp [List.length_nil, List.length_cons, List.length_append, List.length_set, List.length_replicate]; done) | (simp [List.length_nil, List.length_cons, List.length_append, List.length_set, List.length_replicate]; omega))
              have hln54 := hd54.lenle
              refine q_load (p := eptr v6_0 i 1) (.inl rfl) ue54 one29 rfl hl54 up_none ?_
              refine q_move v3_0 rfl up_none ?_
              refine q_move (.int .i64 ((k : Nat) : Int)) rfl up_none ?_
              refine lw_call 37 [] [] [v3_0, (.int .i64 ((k : Nat) : Int))] rfl rfl cf37 up_none (c_laws_a2Column _ _ _ (k) hL52_0.rd2 (by first | omega | assumption | (simp only [List.length_nil, List.length_cons, List.length_append, List.length_set, List.length_replicate]; omega) | (simp [List.length_nil, List.length_cons, List.length_append, List.length_set, List.length_replicate]; done) | (simp [List.length_nil, List.length_cons, List.length_append, List.length_set, List.length_replicate]; omega)) (by omega) (by exact hcl)) ?_
              rintro e55 w55 ⟨v55_0, rfl, hX55, hO55_0⟩
              refine ⟨_, rfl, hX55, ?_⟩
              replace hX55 := hX55.of_drew
              have hzs55 : w52.heap.size ≤ w55.heap.size := hX55.size
              have hE55 : Ext w w55 := hE52.trans hX55
              have hL52_0x55 := hL52_0.ext (o2) hX55
              have hL52_1x55 := hL52_1.ext (o1) hX55
              have hL52_2x55 := hL52_2.ext (o1) hX55
              have hL52_3x55 := hL52_3.ext (o2) hX55
              have hd54x55 := hd54.ext g1 hX55
              have hlx56 := ldH_ext hX55 hl54
              replace hO55_0 := hO55_0.low (B' := w52.heap.size) (Nat.le_refl _)
              refine lw_call 41 [] [] [ue54, v55_0] rfl rfl cf41 up_none (c_laws_a2Dot _ _ _ _ _ hd54x55 hO55_0.rd1 (by rw [List.length_map]; omega)) ?_
              rintro e57 w57 ⟨rfl, hX57⟩
              refine ⟨_, rfl, hX57, ?_⟩
              have hzs57 : w55.heap.size ≤ w57.heap.size := hX57.size
              have hE57 : Ext w w57 := hE55.trans hX57
              have hL52_0x57 := hL52_0x55.ext (o2) hX57
              have hL52_1x57 := hL52_1x55.ext (o1) hX57
              have hL52_2x57 := hL52_2x55.ext (o1) hX57
              have hL52_3x57 := hL52_3x55.ext (o2) hX57
              have hd54x57 := hd54x55.ext g1 hX57
              have hlx58 := ldH_ext hX57 hlx56
              have hO55_0x57 := hO55_0.ext (o1) hX57
              refine q_eql (decide (dotN ((ivR x3_0).getD i []) (x3_0.map (fun r => r.getD k 0)) ((ivR x3_0).getD i []).length = ((1 : Nat) : Int))) rfl rfl rfl up_none ?_
              have hc59 : (!((decide (((i : Nat) : Int) = ((k : Nat) : Int))) == (decide (dotN ((ivR x3_0).getD i []) (x3_0.map (fun r => r.getD k 0)) ((ivR x3_0).getD i []).length = ((1 : Nat) : Int))))) = false := (by rw [hd4]; simp)
              refine q_neqb false u4 rfl rfl hc59 up_none ?_
              refine q_move (.bool false) rfl up_none ?_
              refine q_move (.int .i64 ((i : Nat) : Int)) rfl (up_some (e := 178) rfl rfl rfl) ?_
              refine q_move (.int .i64 ((k : Nat) : Int)) rfl (up_some (e := 178) rfl rfl rfl) ?_
              by_cases hc60 : ((i : Nat) : Int) ≠ ((k : Nat) : Int)
              ·
                refine q_neq true rfl rfl (decide_eq_true hc60) (up_some (e := 178) rfl rfl rfl) ?_
                refine q_move (.bool true) rfl (up_some (e := 178) rfl rfl rfl) ?_
                refine q_move v6_0 rfl (up_some (e := 182) rfl rfl rfl) ?_
                refine q_move (.int .i64 ((i : Nat) : Int)) rfl (up_some (e := 182) rfl rfl rfl) ?_
                refine q_idx (v := v6_0) i u22 ti29 rfl rfl hL52_3x57.isSl rfl (by first | omega | assumption | (simp only [List.length_nil, List.length_cons, List.length_append, List.length_set, List.length_replicate]; omega) | (simp [List.length_nil, List.length_cons, List.length_append, List.length_set, List.length_replicate]; done) | (simp [List.length_nil, List.length_cons, List.length_append, List.length_set, List.length_replicate]; omega)) (up_some (e := 182) rfl rfl rfl) ?_
                obtain ⟨ue61, hl61, hd61⟩ := hL52_3x57.rd2.get (k := i) [] (by first | omega | assumption | (simp only [List.length_nil, List.length_cons, List.length_append, List.length_set, List.length_replicate]; omega) | (simp [List.length_nil, List.length_cons, List.length_append, List.length_set, List.length_replicate]; done) | (simp [List.length_nil, List.length_cons, List.length_append, List.length_set, List.length_replicate]; omega))
                have hln61 := hd61.lenle
                refine q_load (p := eptr v6_0 i 1) (.inr rfl) ue61 one29 rfl hl61 (up_some (e := 182) rfl rfl rfl) ?_
                refine q_move v3_0 rfl (up_some (e := 182) rfl rfl rfl) ?_
                refine q_move (.int .i64 ((k : Nat) : Int)) rfl (up_some (e := 182) rfl rfl rfl) ?_
                refine lw_call 37 [] [] [v3_0, (.int .i64 ((k : Nat) : Int))] rfl rfl cf37 (up_some (e := 182) rfl rfl rfl) (c_laws_a2Column _ _ _ (k) hL52_0x57.rd2 (by first | omega | assumption | (simp only [List.length_nil, List.length_cons, List.length_append, List.length_set, List.length_replicate]; omega) | (simp [List.length_nil, List.length_cons, List.length_append, List.length_set, List.length_replicate]; done) | (simp [List.length_nil, List.length_cons, List.length_append, List.length_set, List.length_replicate]; omega)) (by omega) (by exact hcl)) ?_
                rintro e62 w62 ⟨v62_0, rfl, hX62, hO62_0⟩
                refine ⟨_, rfl, hX62, ?_⟩
                have hzs62 : w57.heap.size ≤ w62.heap.size := hX62.size
                have hE62 : Ext w w62 := hE57.trans hX62
                have hL52_0x62 := hL52_0x57.ext (o2) hX62
                have hL52_1x62 := hL52_1x57.ext (o1) hX62
                have hL52_2x62 := hL52_2x57.ext (o1) hX62
                have hL52_3x62 := hL52_3x57.ext (o2) hX62
                have hd54x62 := hd54x57.ext g1 hX62
                have hlx63 := ldH_ext hX62 hlx58
                have hO55_0x62 := hO55_0x57.ext (o1) hX62
                have hd61x62 := hd61.ext g1 hX62
                have hlx64 := ldH_ext hX62 hl61
                refine lw_call 41 [] [] [ue61, v62_0] rfl rfl cf41 (up_some (e := 182) rfl rfl rfl) (c_laws_a2Dot _ _ _ _ _ hd61x62 hO62_0.rd1 (by rw [List.length_map]; omega)) ?_
                rintro e65 w65 ⟨rfl, hX65⟩
                refine ⟨_, rfl, hX65, ?_⟩
                have hzs65 : w62.heap.size ≤ w65.heap.size := hX65.size
                have hE65 : Ext w w65 := hE62.trans hX65
                have hL52_0x65 := hL52_0x62.ext (o2) hX65
                have hL52_1x65 := hL52_1x62.ext (o1) hX65
                have hL52_2x65 := hL52_2x62.ext (o1) hX65
                have hL52_3x65 := hL52_3x62.ext (o2) hX65
                have hd54x65 := hd54x62.ext g1 hX65
                have hlx66 := ldH_ext hX65 hlx63
                have hO55_0x65 := hO55_0x62.ext (o1) hX65
                have hd61x65 := hd61x62.ext g1 hX65
                have hlx67 := ldH_ext hX65 hlx64
                have hO62_0x65 := hO62_0.ext (o1) hX65
                have hc68 : ¬ (dotN ((ivR x3_0).getD i []) (x3_0.map (fun r => r.getD k 0)) ((ivR x3_0).getD i []).length ≠ ((0 : Nat) : Int)) := (fun h => h (by rw [hd3, if_neg (by omega)]; rfl))
                refine q_neq false rfl rfl (decide_eq_false hc68) (up_some (e := 182) rfl rfl rfl) ?_
                refine q_pick true (.bool false) rfl rfl (up_some (e := 178) rfl rfl rfl) ?_
                refine q_pick false (.bool false) rfl rfl up_none ?_
                refine lw_nil ?_
                refine c_cond_f rfl ?_
                refine wp_skip ?_
                refine wp_plain _ [0, 0, 0] rfl ?_
                refine q_move (.int .i64 ((k : Nat) : Int)) rfl up_none ?_
                refine q_add ((k + 1 : Nat) : Int) rfl rfl (w64n (by omega) (by first | omega | assumption | (simp only [List.length_nil, List.length_cons, List.length_append, List.length_set, List.length_replicate]; omega) | (simp [List.length_nil, List.length_cons, List.length_append, List.length_set, List.length_replicate]; done) | (simp [List.length_nil, List.length_cons, List.length_append, List.length_set, List.length_replicate]; omega))) up_none ?_
                refine q_assign (.int .i64 ((k + 1 : Nat) : Int)) rfl up_none ?_
                refine lw_nil ?_
                exact ⟨(k + 1), _, rfl, ⟨rfl, rfl, rfl, rfl, rfl, rfl, rfl, rfl, trivial⟩, ⟨hE65, hL52_0x65, hL52_1x65, hL52_2x65, hL52_3x65, (by omega)⟩, by first | omega | (dsimp only; omega)⟩
              ·
                refine q_neq false rfl rfl (decide_eq_false hc60) (up_some (e := 178) rfl rfl rfl) ?_
                refine q_move (.bool false) rfl (up_some (e := 178) rfl rfl rfl) ?_
                refine lw_skip (e := 182) (c := false) rfl rfl rfl rfl ?_
                refine lw_skip (e := 182) (c := false) rfl rfl rfl rfl ?_
                refine lw_skip (e := 182) (c := false) rfl rfl rfl rfl ?_
                refine lw_skip (e := 182) (c := false) rfl rfl rfl rfl ?_
                refine lw_skip (e := 182) (c := false) rfl rfl rfl rfl ?_
                refine lw_skip (e := 182) (c := false) rfl rfl rfl rfl ?_
                refine lw_skip (e := 182) (c := false) rfl rfl rfl rfl ?_
                refine lw_skip (e := 182) (c := false) rfl rfl rfl rfl ?_
                refine lw_skip (e := 182) (c := false) rfl rfl rfl rfl ?_
                refine q_pick false (.bool false) rfl rfl (up_some (e := 178) rfl rfl rfl) ?_
                refine q_pick false (.bool false) rfl rfl up_none ?_
                refine lw_nil ?_
                refine c_cond_f rfl ?_
                refine wp_skip ?_
                refine wp_plain _ [0, 0, 0] rfl ?_
                refine q_move (.int .i64 ((k : Nat) : Int)) rfl up_none ?_
                refine q_add ((k + 1 : Nat) : Int) rfl rfl (w64n (by omega) (by first | omega | assumption | (simp only [List.length_nil, List.length_cons, List.length_append, List.length_set, List.length_replicate]; omega) | (simp [List.length_nil, List.length_cons, List.length_append, List.length_set, List.length_replicate]; done) | (simp [List.length_nil, List.length_cons, List.length_append, List.length_set, List.length_replicate]; omega))) up_none ?_
                refine q_assign (.int .i64 ((k + 1 : Nat) : Int)) rfl up_none ?_
                refine lw_nil ?_
                exact ⟨(k + 1), _, rfl, ⟨rfl, rfl, rfl, rfl, rfl, rfl, rfl, rfl, trivial⟩, ⟨hE57, hL52_0x57, hL52_1x57, hL52_2x57, hL52_3x57, (by omega)⟩, by first | omega | (dsimp only; omega)⟩
            ·
              refine q_lss false rfl rfl (decide_eq_false hc53) up_none ?_
              refine lw_nil ?_
              refine c_cond_f rfl ?_
              refine wp_exit ?_
              refine t_exit ?_
              refine t_exit ?_
              refine c_exit_here ?_
              refine wp_plain _ [0, 0, 0] rfl ?_
              refine q_move (.int .i64 ((i : Nat) : Int)) rfl up_none ?_
              refine q_add ((i + 1 : Nat) : Int) rfl rfl (w64n (by omega) (by first | omega | assumption | (simp only [List.length_nil, List.length_cons, List.length_append, List.length_set, List.length_replicate]; omega) | (simp [List.length_nil, List.length_cons, List.length_append, List.length_set, List.length_replicate]; done) | (simp [List.length_nil, List.length_cons, List.length_append, List.length_set, List.length_replicate]; omega))) up_none ?_
              refine q_assign (.int .i64 ((i + 1 : Nat) : Int)) rfl up_none ?_
              refine lw_nil ?_
              exact ⟨(i + 1), _, rfl, ⟨rfl, rfl, rfl, rfl, rfl, rfl, rfl, trivial⟩, ⟨hE52, hL52_0, hL52_1, hL52_2, hL52_3, (by omega)⟩, by first | omega | (dsimp only; omega)⟩
          ·
            refine q_lss false rfl rfl (decide_eq_false hc42) up_none ?_
            refine lw_nil ?_
            refine c_cond_f rfl ?_
            refine wp_exit ?_
            refine t_exit ?_
            refine t_exit ?_
            refine c_exit_here ?_
            refine wp_seq ?_
            refine wp_plain _ [0, 3, 0, 0, 0, 0, 0] rfl ?_
            refine q_move v6_0 rfl up_none ?_
            refine lw_call 14 [] [] [v6_0] rfl rfl cf14 up_none (c_det_i _ _ _ hL41_3.rd2 (by exact sqB_is (by rw [hil]; exact hisq) (by omega))) ?_
            rintro e69 w69 ⟨rfl, hX69⟩
            refine ⟨_, rfl, hX69, ?_⟩
            have hzs69 : w41.heap.size ≤ w69.heap.size := hX69.size
            have hE69 : Ext w w69 := hE41.trans hX69
            have hL41_0x69 := hL41_0.ext (o2) hX69
            have hL41_1x69 := hL41_1.ext (o1) hX69
            have hL41_2x69 := hL41_2.ext (o1) hX69
            have hL41_3x69 := hL41_3.ext (o2) hX69
            refine q_move (.tuple #[(.int .i64 (detM (ivR x3_0))), (.int .i64 ((0 : Nat) : Int))]) rfl up_none ?_
            refine q_extract (vs := [(.int .i64 (detM (ivR x3_0))), (.int .i64 ((0 : Nat) : Int))]) (.int .i64 (detM (ivR x3_0))) rfl rfl up_none ?_
            refine q_extract (vs := [(.int .i64 (detM (ivR x3_0))), (.int .i64 ((0 : Nat) : Int))]) (.int .i64 ((0 : Nat) : Int)) rfl rfl up_none ?_
            refine q_assign (.int .i64 (detM (ivR x3_0))) rfl up_none ?_
            refine q_assign (.int .i64 ((0 : Nat) : Int)) rfl up_none ?_
            refine lw_nil ?_
            refine wp_seq ?_
            refine wp_plain _ [0, 0, 0, 0, 0, 0, 0, 0, 0] rfl ?_
            have hdi : md (detM (ivR x3_0) * detM x3_0) = 1 := by rw [hie]; exact inv_det hsq hj
            refine q_move (.int .i64 ((0 : Nat) : Int)) rfl up_none ?_
            refine q_eql true rfl rfl (by simp) up_none ?_
            refine q_move (.bool true) rfl up_none ?_
            refine q_move (.int .i64 (detM (ivR x3_0))) rfl (up_some (e := 201) rfl rfl rfl) ?_
            refine q_move (.int .i64 (detM x3_0)) rfl (up_some (e := 201) rfl rfl rfl) ?_
            refine lw_callq 40 [] [] [(.int .i64 (detM (ivR x3_0))), (.int .i64 (detM x3_0))] rfl rfl cf40 (up_some (e := 201) rfl rfl rfl) (.int .i64 (md ((detM (ivR x3_0)) * (detM x3_0)))) (fun wq => c_spec_Times wq _ _ (detM_rng _) (detM_rng _)) ?_
            refine q_eql (decide (md ((detM (ivR x3_0)) * (detM x3_0)) = ((1 : Nat) : Int))) rfl rfl rfl (up_some (e := 201) rfl rfl rfl) ?_
            refine q_pick true (.bool (decide (md ((detM (ivR x3_0)) * (detM x3_0)) = ((1 : Nat) : Int)))) rfl rfl up_none ?_
            refine q_assign (.bool (decide (md ((detM (ivR x3_0)) * (detM x3_0)) = ((1 : Nat) : Int)))) rfl up_none ?_
            refine lw_nil ?_
            refine wp_ret ?_
            exact post_ret [4] rfl (.bool (decide (md ((detM (ivR x3_0)) * (detM x3_0)) = ((1 : Nat) : Int)))) rfl ⟨(by first | rfl | (exfalso; omega) | exact ret_bool (decide_eq_true hdi) | exact ret_bool (decide_eq_true (iv_zero hsb hz).2)), hE69⟩
      ·
        refine q_eql false rfl rfl (decide_eq_false hc32) up_none ?_
        refine lw_nil ?_
        refine c_cond_f rfl ?_
        refine wp_skip ?_
        refine wp_seq ?_
        refine wp_seq ?_
        refine wp_plain _ [0, 0, 0, 0, 0, 0, 0, 0, 0] rfl ?_
        have htd : detM (x3_0.set 0 tr) = md (detM x3_0 * ((3 : Nat) : Int)) := by rw [htr]; exact (turn_det hsq (by omega)).trans (by rw [if_neg (by omega)]; rfl)
        refine q_move (.int .i64 ((0 : Nat) : Int)) rfl up_none ?_
        refine q_neq false rfl rfl (by simp) up_none ?_
        refine q_move (.bool false) rfl up_none ?_
        refine q_move (.int .i64 (detM (x3_0.set 0 tr))) rfl (up_some (e := 97) rfl rfl rfl) ?_
        refine q_move (.int .i64 (detM x3_0)) rfl (up_some (e := 97) rfl rfl rfl) ?_
        refine q_move (.int .i64 ((3 : Nat) : Int)) rfl (up_some (e := 97) rfl rfl rfl) ?_
        refine lw_callq 40 [] [] [(.int .i64 (detM x3_0)), (.int .i64 ((3 : Nat) : Int))] rfl rfl cf40 (up_some (e := 97) rfl rfl rfl) (.int .i64 (md ((detM x3_0) * ((3 : Nat) : Int)))) (fun wq => c_spec_Times wq _ _ (detM_rng _) (by omega)) ?_
        have hc72 : ¬ (detM (x3_0.set 0 tr) ≠ md ((detM x3_0) * ((3 : Nat) : Int))) := (fun h => h htd)
        refine q_neq false rfl rfl (decide_eq_false hc72) (up_some (e := 97) rfl rfl rfl) ?_
        refine q_pick false (.bool false) rfl rfl up_none ?_
        refine lw_nil ?_
        refine c_cond_f rfl ?_
        refine wp_skip ?_
        refine wp_seq ?_
        refine wp_seq ?_
        refine wp_plain _ [0, 0] rfl ?_
        refine q_move (.int .i64 (detM x3_0)) rfl up_none ?_
        by_cases hc73 : detM x3_0 = ((0 : Nat) : Int)
        ·
          refine q_eql true rfl rfl (decide_eq_true hc73) up_none ?_
          refine lw_nil ?_
          refine c_cond_t rfl ?_
          refine wp_seq ?_
          refine wp_plain _ [0, 0, 0, 0, 0, 0, 0] rfl ?_
          have hz : detM x3_0 = 0 := by omega
          refine q_move (.int .i64 (slC x3_0 x3_1)) rfl up_none ?_
          have hc74 : slC x3_0 x3_1 = ((6 : Nat) : Int) := (sl_zero hok hz).2
          refine q_eql true rfl rfl (decide_eq_true hc74) up_none ?_
          refine q_move (.bool true) rfl up_none ?_
          refine q_move (.int .i64 (ivC x3_0)) rfl (up_some (e := 108) rfl rfl rfl) ?_
          refine q_eql (decide (ivC x3_0 = ((6 : Nat) : Int))) rfl rfl rfl (up_some (e := 108) rfl rfl rfl) ?_
          refine q_pick true (.bool (decide (ivC x3_0 = ((6 : Nat) : Int)))) rfl rfl up_none ?_
          refine q_assign (.bool (decide (ivC x3_0 = ((6 : Nat) : Int)))) rfl up_none ?_
          refine lw_nil ?_
          refine wp_ret ?_
          refine t_ret ?_
          exact post_ret [4] rfl (.bool (decide (ivC x3_0 = ((6 : Nat) : Int)))) rfl ⟨(by first | rfl | (exfalso; omega) | exact ret_bool (decide_eq_true hdi) | exact ret_bool (decide_eq_true (iv_zero hsb hz).2)), hE31⟩
        ·
          refine q_eql false rfl rfl (decide_eq_false hc73) up_none ?_
          refine lw_nil ?_
          refine c_cond_f rfl ?_
          refine wp_skip ?_
          refine wp_seq ?_
          refine wp_seq ?_
          refine wp_plain _ [0, 0, 0, 0, 0, 0, 0, 0, 0, 0, 0, 0, 0, 0, 0, 0, 3, 0, 0] rfl ?_
          have hd : detM x3_0 ≠ 0 := by omega
          have hj : ∀ b, allN b = true → jorN x3_0 b ≠ none := fun b hb hn => hd ((det_jorN hsq hb).2 hn)
          have hxe := (sl_good hok hd).1
          have hie := (iv_good hsb hd).1
          have hxl : (slR x3_0 x3_1).length = x3_0.length := by rw [hxe]; exact solN_len hsq hbn (hj _ hbn)
          have hil : (ivR x3_0).length = x3_0.length := by rw [hie]; exact tab_len _ _
          have hisq : Sq x3_0.length (ivR x3_0) := by rw [hie]; exact invN_sq hsq hj
          refine q_move (.int .i64 (slC x3_0 x3_1)) rfl up_none ?_
          have hc75 : ¬ (slC x3_0 x3_1 ≠ ((0 : Nat) : Int)) := (fun h => h (sl_good hok hd).2)
          refine q_neq false rfl rfl (decide_eq_false hc75) up_none ?_
          refine q_move (.bool false) rfl up_none ?_
          refine q_move (.int .i64 (ivC x3_0)) rfl (up_some (e := 114) rfl rfl rfl) ?_
          have hc76 : ¬ (ivC x3_0 ≠ ((0 : Nat) : Int)) := (fun h => h (iv_good hsb hd).2)
          refine q_neq false rfl rfl (decide_eq_false hc76) (up_some (e := 114) rfl rfl rfl) ?_
          refine q_pick false (.bool false) rfl rfl up_none ?_
          refine q_move (.bool false) rfl up_none ?_
          refine q_move v5_0 rfl (up_some (e := 118) rfl rfl rfl) ?_
          refine q_len (v := v5_0) u29 rfl hL20_3x31.isSl (up_some (e := 118) rfl rfl rfl) ?_
          refine q_move (.int .i64 ((x3_0.length : Nat) : Int)) rfl (up_some (e := 118) rfl rfl rfl) ?_
          have hc77 : ¬ ((((slR x3_0 x3_1).length : Nat) : Int) ≠ ((x3_0.length : Nat) : Int)) := (by omega)
          refine q_neq false rfl rfl (decide_eq_false hc77) (up_some (e := 118) rfl rfl rfl) ?_
          refine q_pick false (.bool false) rfl rfl up_none ?_
          refine q_move (.bool false) rfl up_none ?_
          refine q_move v6_0 rfl (up_some (e := 124) rfl rfl rfl) ?_
          refine q_move (.int .i64 ((x3_0.length : Nat) : Int)) rfl (up_some (e := 124) rfl rfl rfl) ?_
          refine q_move (.int .i64 ((x3_0.length : Nat) : Int)) rfl (up_some (e := 124) rfl rfl rfl) ?_
          refine lw_call 35 [] [] [v6_0, (.int .i64 ((x3_0.length : Nat) : Int)), (.int .i64 ((x3_0.length : Nat) : Int))] rfl rfl cf35 (up_some (e := 124) rfl rfl rfl) (c_wide_g _ _ _ _ _ hL20_4x31.rd2 (by omega) (by omega) (by omega) (by intro k hk; have := hisq.row k (by omega); omega)) ?_
          rintro e78 w78 ⟨rfl, hX78⟩
          refine ⟨_, rfl, hX78, ?_⟩
          have hzs78 : w31.heap.size ≤ w78.heap.size := hX78.size
          have hE78 : Ext w w78 := hE31.trans hX78
          have hallx78 := hallx31.ext g2 hX78
          have hL20_1x78 := hL20_1x31.ext (o2) hX78
          have hL20_2x78 := hL20_2x31.ext (o1) hX78
          have hL20_3x78 := hL20_3x31.ext (o1) hX78
          have hL20_4x78 := hL20_4x31.ext (o2) hX78
          refine q_not false rfl rfl (up_some (e := 124) rfl rfl rfl) ?_
          refine q_pick false (.bool false) rfl rfl up_none ?_
          refine lw_nil ?_
          refine c_cond_f rfl ?_
          refine wp_skip ?_
          refine wp_seq ?_
          refine wp_seq ?_
          refine wp_plain _ [0] rfl ?_
          refine q_assign (.int .i64 ((0 : Nat) : Int)) rfl up_none ?_
          refine lw_nil ?_
          refine wp_block ?_
          refine c_loop (S := Nat) (fun (i : Nat) => ([(21, (.int .i64 ((i : Nat) : Int))), (5, v3_0), (6, v3_1), (7, (.int .i64 ((x3_0.length : Nat) : Int))), (8, (.int .i64 (detM x3_0))), (10, v5_0), (12, v6_0)] : List (Nat × Value))) (fun (i : Nat) (W : World) => Ext w W ∧ Fr (owL (owL rI 2) 29) w1.heap.size w3.heap.size W.heap v3_0 x3_0 ∧ Fr (owL rI 2) w1.heap.size w3.heap.size W.heap v3_1 x3_1 ∧ Fr (owL rI 2) w4.heap.size w5.heap.size W.heap v5_0 (slR x3_0 x3_1) ∧ Fr (owL (owL rI 2) 29) w5.heap.size w6.heap.size W.heap v6_0 (ivR x3_0) ∧ i ≤ x3_0.length) (fun (i : Nat) => x3_0.length - i) 0 ⟨rfl, rfl, rfl, rfl, rfl, rfl, rfl, trivial⟩ ⟨hE78, hL20_1x78, hL20_2x78, hL20_3x78, hL20_4x78, (by omega)⟩ ?_
          clear hzs14 hE14 hL20_5 hL20_4 hL20_3 hL20_2 hL20_1 hL20_0 hE20 hzs20 hX31 hzs31 hE31 hL20_1x31 hL20_2x31 hL20_3x31 hL20_4x31 hX78 hzs78 hE78 hL20_1x78 hL20_2x78 hL20_3x78 hL20_4x78
          rintro i ρ79 w79 ⟨hE79, hL79_0, hL79_1, hL79_2, hL79_3, hp79_0⟩
          have hzs79 : w.heap.size ≤ w79.heap.size := hE79.size
          refine wp_seq ?_
          refine wp_seq ?_
          refine wp_plain _ [0, 0, 0] rfl ?_
          refine q_move (.int .i64 ((i : Nat) : Int)) rfl up_none ?_
          refine q_move (.int .i64 ((x3_0.length : Nat) : Int)) rfl up_none ?_
          by_cases hc80 : ((i : Nat) : Int) < ((x3_0.length : Nat) : Int)
          ·
            refine q_lss true rfl rfl (decide_eq_true hc80) up_none ?_
            refine lw_nil ?_
            refine c_cond_t rfl ?_
            refine wp_skip ?_
            refine wp_seq ?_
            refine wp_block ?_
            refine wp_seq ?_
            refine wp_seq ?_
            refine wp_draw _ [0, 0, 0, 1, 0, 3, 0, 0, 0, 1, 0, 0, 0, 0, 0, 2, 0, 3, 0, 0, 0, 1, 0, 0] mixed (by kernel_rfl) ?_
            have hri := hsq.row i (by omega)
            have hii := hisq.row i (by omega)
            have hd1 : dotN (x3_0.getD i []) (slR x3_0 x3_1) (x3_0.getD i []).length = x3_1.getD i 0 := by rw [hri, hxe]; exact solN_solves hsq hbl hbn (hj _ hbn) (by omega)
            have hd2 : dotN ((ivR x3_0).getD i []) x3_1 ((ivR x3_0).getD i []).length = (slR x3_0 x3_1).getD i 0 := by rw [hii, hxe, hie]; exact inv_sol hsq hj hbl hbn (by omega)
            refine q_move v3_0 rfl up_none ?_
            refine q_move (.int .i64 ((i : Nat) : Int)) rfl up_none ?_
            refine q_idx (v := v3_0) i u22 ti29 rfl rfl hL79_0.isSl rfl (by first | omega | assumption | (simp only [List.length_nil, List.length_cons, List.length_append, List.length_set, List.length_replicate]; omega) | (simp [List.length_nil, List.length_cons, List.length_append, List.length_set, List.length_replicate]; done) | (simp [List.length_nil, List.length_cons, List.length_append, List.length_set, List.length_replicate]; omega)) up_none ?_
            obtain ⟨ue81, hl81, hd81⟩ := hL79_0.rd2.get (k := i) [] (by first | omega | assumption | (simp only [List.length_nil, List.length_cons, List.length_append, List.length_set, List.length_replicate]; omega) | (simp [List.length_nil, List.length_cons, List.length_append, List.length_set, List.length_replicate]; done) | (simp [List.length_nil, List.length_cons, List.length_append, List.length_set, List.length_replicate]; omega))
            have hln81 := hd81.lenle
            refine q_load (p := eptr v3_0 i 1) (.inl rfl) ue81 one29 rfl hl81 up_none ?_
            refine q_move v5_0 rfl up_none ?_
            refine lw_call 41 [] [] [ue81, v5_0] rfl rfl cf41 up_none (c_laws_a2Dot _ _ _ _ _ hd81 hL79_2.rd1 (by omega)) ?_
            rintro e82 w82 ⟨rfl, hX82⟩
            refine ⟨_, rfl, hX82, ?_⟩
            replace hX82 := hX82.of_drew
            have hzs82 : w79.heap.size ≤ w82.heap.size := hX82.size
            have hE82 : Ext w w82 := hE79.trans hX82
            have hL79_0x82 := hL79_0.ext (o2) hX82
            have hL79_1x82 := hL79_1.ext (o1) hX82
            have hL79_2x82 := hL79_2.ext (o1) hX82
            have hL79_3x82 := hL79_3.ext (o2) hX82
            have hd81x82 := hd81.ext g1 hX82
            have hlx83 := ldH_ext hX82 hl81
            refine q_move v3_1 rfl up_none ?_
            refine q_move (.int .i64 ((i : Nat) : Int)) rfl up_none ?_
            refine q_idx (v := v3_1) i u29 ti2 rfl rfl hL79_1x82.isSl rfl (by first | omega | assumption | (simp only [List.length_nil, List.length_cons, List.length_append, List.length_set, List.length_replicate]; omega) | (simp [List.length_nil, List.length_cons, List.length_append, List.length_set, List.length_replicate]; done) | (simp [List.length_nil, List.length_cons, List.length_append, List.length_set, List.length_replicate]; omega)) up_none ?_
            refine q_load (p := eptr v3_1 i 1) (.inl rfl) (.int .i64 (x3_1.getD i 0)) one2 rfl (hL79_1.rd1.getI (by first | omega | assumption | (simp only [List.length_nil, List.length_cons, List.length_append, List.length_set, List.length_replicate]; omega) | (simp [List.length_nil, List.length_cons, List.length_append, List.length_set, List.length_replicate]; done) | (simp [List.length_nil, List.length_cons, List.length_append, List.length_set, List.length_replicate]; omega))).1 up_none ?_
            have hc84 : ¬ (dotN (x3_0.getD i []) (slR x3_0 x3_1) (x3_0.getD i []).length ≠ x3_1.getD i 0) := (fun h => h hd1)
            refine q_neq false rfl rfl (decide_eq_false hc84) up_none ?_
            refine q_move (.bool false) rfl up_none ?_
            refine q_move v6_0 rfl (up_some (e := 147) rfl rfl rfl) ?_
            refine q_move (.int .i64 ((i : Nat) : Int)) rfl (up_some (e := 147) rfl rfl rfl) ?_
            refine q_idx (v := v6_0) i u22 ti29 rfl rfl hL79_3x82.isSl rfl (by first | omega | assumption | (simp only [List.length_nil, List.length_cons, List.length_append, List.length_set, List.length_replicate]; omega) | (simp [List.length_nil, List.length_cons, List.length_append, List.length_set, List.length_replicate]; done) | (simp [List.length_nil, List.length_cons, List.length_append, List.length_set, List.length_replicate]; omega)) (up_some (e := 147) rfl rfl rfl) ?_
            obtain ⟨ue85, hl85, hd85⟩ := hL79_3x82.rd2.get (k := i) [] (by first | omega | assumption | (simp only [List.length_nil, List.length_cons, List.length_append, List.length_set, List.length_replicate]; omega) | (simp [List.length_nil, List.length_cons, List.length_append, List.length_set, List.length_replicate]; done) | (simp [List.length_nil, List.length_cons, List.length_append, List.length_set, List.length_replicate]; omega))
            have hln85 := hd85.lenle
            refine q_load (p := eptr v6_0 i 1) (.inr rfl) ue85 one29 rfl hl85 (up_some (e := 147) rfl rfl rfl) ?_
            refine q_move v3_1 rfl (up_some (e := 147) rfl rfl rfl) ?_
            refine lw_call 41 [] [] [ue85, v3_1] rfl rfl cf41 (up_some (e := 147) rfl rfl rfl) (c_laws_a2Dot _ _ _ _ _ hd85 hL79_1x82.rd1 (by omega)) ?_
            rintro e86 w86 ⟨rfl, hX86⟩
            refine ⟨_, rfl, hX86, ?_⟩
            have hzs86 : w82.heap.size ≤ w86.heap.size := hX86.size
            have hE86 : Ext w w86 := hE82.trans hX86
            have hL79_0x86 := hL79_0x82.ext (o2) hX86
            have hL79_1x86 := hL79_1x82.ext (o1) hX86
            have hL79_2x86 := hL79_2x82.ext (o1) hX86
            have hL79_3x86 := hL79_3x82.ext (o2) hX86
            have hd81x86 := hd81x82.ext g1 hX86
            have hlx87 := ldH_ext hX86 hlx83
            have hd85x86 := hd85.ext g1 hX86
            have hlx88 := ldH_ext hX86 hl85
            refine q_move v5_0 rfl (up_some (e := 147) rfl rfl rfl) ?_
            refine q_move (.int .i64 ((i : Nat) : Int)) rfl (up_some (e := 147) rfl rfl rfl) ?_
            refine q_idx (v := v5_0) i u29 ti2 rfl rfl hL79_2x86.isSl rfl (by first | omega | assumption | (simp only [List.length_nil, List.length_cons, List.length_append, List.length_set, List.length_replicate]; omega) | (simp [List.length_nil, List.length_cons, List.length_append, List.length_set, List.length_replicate]; done) | (simp [List.length_nil, List.length_cons, List.length_append, List.length_set, List.length_replicate]; omega)) (up_some (e := 147) rfl rfl rfl) ?_
            refine q_load (p := eptr v5_0 i 1) (.inl rfl) (.int .i64 ((slR x3_0 x3_1).getD i 0)) one2 rfl (hL79_2.rd1.getI (by first | omega | assumption | (simp only [List.length_nil, List.length_cons, List.length_append, List.length_set, List.length_replicate]; omega) | (simp [List.length_nil, List.length_cons, List.length_append, List.length_set, List.length_replicate]; done) | (simp [List.length_nil, List.length_cons, List.length_append, List.length_set, List.length_replicate]; omega))).1 (up_some (e := 147) rfl rfl rfl) ?_
            have hc89 : ¬ (dotN ((ivR x3_0).getD i []) x3_1 ((ivR x3_0).getD i []).length ≠ (slR x3_0 x3_1).getD i 0) := (fun h => h hd2)
            refine q_neq false rfl rfl (decide_eq_false hc89) (up_some (e := 147) rfl rfl rfl) ?_
            refine q_pick false (.bool false) rfl rfl up_none ?_
            refine lw_nil ?_
            refine c_cond_f rfl ?_
            refine wp_skip ?_
            refine wp_seq ?_
            refine wp_plain _ [0] rfl ?_
            refine q_assign (.int .i64 ((0 : Nat) : Int)) rfl up_none ?_
            refine lw_nil ?_
            refine wp_block ?_
            refine c_loop (S := Nat) (fun (k : Nat) => ([(22, (.int .i64 ((k : Nat) : Int))), (5, v3_0), (6, v3_1), (7, (.int .i64 ((x3_0.length : Nat) : Int))), (8, (.int .i64 (detM x3_0))), (10, v5_0), (12, v6_0), (21, (.int .i64 ((i : Nat) : Int)))] : List (Nat × Value))) (fun (k : Nat) (W : World) => Ext w W ∧ Fr (owL (owL rI 2) 29) w1.heap.size w3.heap.size W.heap v3_0 x3_0 ∧ Fr (owL rI 2) w1.heap.size w3.heap.size W.heap v3_1 x3_1 ∧ Fr (owL rI 2) w4.heap.size w5.heap.size W.heap v5_0 (slR x3_0 x3_1) ∧ Fr (owL (owL rI 2) 29) w5.heap.size w6.heap.size W.heap v6_0 (ivR x3_0) ∧ k ≤ x3_0.length) (fun (k : Nat) => x3_0.length - k) 0 ⟨rfl, rfl, rfl, rfl, rfl, rfl, rfl, rfl, trivial⟩ ⟨hE86, hL79_0x86, hL79_1x86, hL79_2x86, hL79_3x86, (by omega)⟩ ?_
            clear hL79_3 hL79_2 hL79_1 hL79_0 hE79 hzs79 hln81 hX82 hzs82 hE82 hL79_0x82 hL79_1x82 hL79_2x82 hL79_3x82 hlx83 hln85 hX86 hzs86 hE86 hL79_0x86 hL79_1x86 hL79_2x86 hL79_3x86 hlx87 hlx88
            rintro k ρ90 w90 ⟨hE90, hL90_0, hL90_1, hL90_2, hL90_3, hp90_0⟩
            have hzs90 : w.heap.size ≤ w90.heap.size := hE90.size
            refine wp_seq ?_
            refine wp_seq ?_
            refine wp_plain _ [0, 0, 0] rfl ?_
            refine q_move (.int .i64 ((k : Nat) : Int)) rfl up_none ?_
            refine q_move (.int .i64 ((x3_0.length : Nat) : Int)) rfl up_none ?_
            by_cases hc91 : ((k : Nat) : Int) < ((x3_0.length : Nat) : Int)
            ·
              refine q_lss true rfl rfl (decide_eq_true hc91) up_none ?_
              refine lw_nil ?_
              refine c_cond_t rfl ?_
              refine wp_skip ?_
              refine wp_seq ?_
              refine wp_block ?_
              refine wp_seq ?_
              refine wp_draw _ [0, 0, 0, 0, 0, 0, 1, 0, 0, 3, 3, 0, 0, 0, 0, 0, 0, 0, 0, 0, 0, 2, 0, 0, 3, 3, 0, 0, 0] mixed (by kernel_rfl) ?_
              have hii := hisq.row i (by omega)
              have hcl : ∀ r, r < x3_0.length → k < (x3_0.getD r []).length := fun r hr => by have := hsq.row r hr; omega
              have hd3 : dotN ((ivR x3_0).getD i []) (x3_0.map (fun r => r.getD k 0)) ((ivR x3_0).getD i []).length = if i = k then 1 else 0 := by rw [hii, hie]; exact inv_left hsq hj (by omega) (by omega)
              have hd4 : decide (((i : Nat) : Int) = ((k : Nat) : Int)) = decide (dotN ((ivR x3_0).getD i []) (x3_0.map (fun r => r.getD k 0)) ((ivR x3_0).getD i []).length = ((1 : Nat) : Int)) := by rw [hd3]; by_cases e : i = k; (rw [if_pos e, e]; simp); (rw [if_neg e, decide_eq_false (by omega)]; rfl)
              refine q_move (.int .i64 ((i : Nat) : Int)) rfl up_none ?_
              refine q_move (.int .i64 ((k : Nat) : Int)) rfl up_none ?_
              refine q_eql (decide (((i : Nat) : Int) = ((k : Nat) : Int))) rfl rfl rfl up_none ?_
              refine q_move v6_0 rfl up_none ?_
              refine q_move (.int .i64 ((i : Nat) : Int)) rfl up_none ?_
              refine q_idx (v := v6_0) i u22 ti29 rfl rfl hL90_3.isSl rfl (by first | omega | assumption | (simp only [List.length_nil, List.length_cons, List.length_append, List.length_set, List.length_replicate]; omega) | (simp [List.length_nil, List.length_cons, List.length_append, List.length_set, List.length_replicate]; done) | (simp [List.length_nil, List.length_cons, List.length_append, List.length_set, List.length_replicate]; omega)) up_none ?_
              obtain ⟨ue92, hl92, hd92⟩ := hL90_3.rd2.get (k := i) [] (by first | omega | assumption | (simp only [List.length_nil, List.length_cons, List.length_append, List.length_set, List.length_replicate]; omega) | (simp [List.length_nil, List.length_cons, List.length_append, List.length_set, List.length_replicate]; done) | (simp [List.length_nil, List.length_cons, List.length_append, List.length_set, List.length_replicate]; omega))
              have hln92 := hd92.lenle
              refine q_load (p := eptr v6_0 i 1) (.inl rfl) ue92 one29 rfl hl92 up_none ?_
              refine q_move v3_0 rfl up_none ?_
              refine q_move (.int .i64 ((k : Nat) : Int)) rfl up_none ?_
              refine lw_call 37 [] [] [v3_0, (.int .i64 ((k : Nat) : Int))] rfl rfl cf37 up_none (c_laws_a2Column _ _ _ (k) hL90_0.rd2 (by first | omega | assumption | (simp only [List.length_nil, List.length_cons, List.length_append, List.length_set, List.length_replicate]; omega) | (simp [List.length_nil, List.length_cons, List.length_append, List.length_set, List.length_replicate]; done) | (simp [List.length_nil, List.length_cons, List.length_append, List.length_set, List.length_replicate]; omega)) (by omega) (by exact hcl)) ?_
              rintro e93 w93 ⟨v93_0, rfl, hX93, hO93_0⟩
              refine ⟨_, rfl, hX93, ?_⟩
              replace hX93 := hX93.of_drew
              have hzs93 : w90.heap.size ≤ w93.heap.size := hX93.size
              have hE93 : Ext w w93 := hE90.trans hX93
              have hL90_0x93 := hL90_0.ext (o2) hX93
              have hL90_1x93 := hL90_1.ext (o1) hX93
              have hL90_2x93 := hL90_2.ext (o1) hX93
              have hL90_3x93 := hL90_3.ext (o2) hX93
              have hd92x93 := hd92.ext g1 hX93
              have hlx94 := ldH_ext hX93 hl92
              replace hO93_0 := hO93_0.low (B' := w90.heap.size) (Nat.le_refl _)
              refine lw_call 41 [] [] [ue92, v93_0] rfl rfl cf41 up_none (c_laws_a2Dot _ _ _ _ _ hd92x93 hO93_0.rd1 (by rw [List.length_map]; omega)) ?_
              rintro e95 w95 ⟨rfl, hX95⟩
              refine ⟨_, rfl, hX95, ?_⟩
              have hzs95 : w93.heap.size ≤ w95.heap.size := hX95.size
              have hE95 : Ext w w95 := hE93.trans hX95
              have hL90_0x95 := hL90_0x93.ext (o2) hX95
              have hL90_1x95 := hL90_1x93.ext (o1) hX95
              have hL90_2x95 := hL90_2x93.ext (o1) hX95
              have hL90_3x95 := hL90_3x93.ext (o2) hX95
              have hd92x95 := hd92x93.ext g1 hX95
              have hlx96 := ldH_ext hX95 hlx94
              have hO93_0x95 := hO93_0.ext (o1) hX95
              refine q_eql (decide (dotN ((ivR x3_0).getD i []) (x3_0.map (fun r => r.getD k 0)) ((ivR x3_0).getD i []).length = ((1 : Nat) : Int))) rfl rfl rfl up_none ?_
              have hc97 : (!((decide (((i : Nat) : Int) = ((k : Nat) : Int))) == (decide (dotN ((ivR x3_0).getD i []) (x3_0.map (fun r => r.getD k 0)) ((ivR x3_0).getD i []).length = ((1 : Nat) : Int))))) = false := (by rw [hd4]; simp)
              refine q_neqb false u4 rfl rfl hc97 up_none ?_
              refine q_move (.bool false) rfl up_none ?_
              refine q_move (.int .i64 ((i : Nat) : Int)) rfl (up_some (e := 178) rfl rfl rfl) ?_
              refine q_move (.int .i64 ((k : Nat) : Int)) rfl (up_some (e := 178) rfl rfl rfl) ?_
              by_cases hc98 : ((i : Nat) : Int) ≠ ((k : Nat) : Int)
              ·
                refine q_neq true rfl rfl (decide_eq_true hc98) (up_some (e := 178) rfl rfl rfl) ?_
                refine q_move (.bool true) rfl (up_some (e := 178) rfl rfl rfl) ?_
                refine q_move v6_0 rfl (up_some (e := 182) rfl rfl rfl) ?_
                refine q_move (.int .i64 ((i : Nat) : Int)) rfl (up_some (e := 182) rfl rfl rfl) ?_
                refine q_idx (v := v6_0) i u22 ti29 rfl rfl hL90_3x95.isSl rfl (by first | omega | assumption | (simp only [List.length_nil, List.length_cons, List.length_append, List.length_set, List.length_replicate]; omega) | (simp [List.length_nil, List.length_cons, List.length_append, List.length_set, List.length_replicate]; done) | (simp [List.length_nil, List.length_cons, List.length_append, List.length_set, List.length_replicate]; omega)) (up_some (e := 182) rfl rfl rfl) ?_
                obtain ⟨ue99, hl99, hd99⟩ := hL90_3x95.rd2.get (k := i) [] (by first | omega | assumption | (simp only [List.length_nil, List.length_cons, List.length_append, List.length_set, List.length_replicate]; omega) | (simp [List.length_nil, List.length_cons, List.length_append, List.length_set, List.length_replicate]; done) | (simp [List.length_nil, List.length_cons, List.length_append, List.length_set, List.length_replicate]; omega))
                have hln99 := hd99.lenle
                refine q_load (p := eptr v6_0 i 1) (.inr rfl) ue99 one29 rfl hl99 (up_some (e := 182) rfl rfl rfl) ?_
                refine q_move v3_0 rfl (up_some (e := 182) rfl rfl rfl) ?_
                refine q_move (.int .i64 ((k : Nat) : Int)) rfl (up_some (e := 182) rfl rfl rfl) ?_
                refine lw_call 37 [] [] [v3_0, (.int .i64 ((k : Nat) : Int))] rfl rfl cf37 (up_some (e := 182) rfl rfl rfl) (c_laws_a2Column _ _ _ (k) hL90_0x95.rd2 (by first | omega | assumption | (simp only [List.length_nil, List.length_cons, List.length_append, List.length_set, List.length_replicate]; omega) | (simp [List.length_nil, List.length_cons, List.length_append, List.length_set, List.length_replicate]; done) | (simp [List.length_nil, List.length_cons, List.length_append, List.length_set, List.length_replicate]; omega)) (by omega) (by exact hcl)) ?_
                rintro e100 w100 ⟨v100_0, rfl, hX100, hO100_0⟩
                refine ⟨_, rfl, hX100, ?_⟩
                have hzs100 : w95.heap.size ≤ w100.heap.size := hX100.size
                have hE100 : Ext w w100 := hE95.trans hX100
                have hL90_0x100 := hL90_0x95.ext (o2) hX100
                have hL90_1x100 := hL90_1x95.ext (o1) hX100
                have hL90_2x100 := hL90_2x95.ext (o1) hX100
                have hL90_3x100 := hL90_3x95.ext (o2) hX100
                have hd92x100 := hd92x95.ext g1 hX100
                have hlx101 := ldH_ext hX100 hlx96
                have hO93_0x100 := hO93_0x95.ext (o1) hX100
                have hd99x100 := hd99.ext g1 hX100
                have hlx102 := ldH_ext hX100 hl99
                refine lw_call 41 [] [] [ue99, v100_0] rfl rfl cf41 (up_some (e := 182) rfl rfl rfl) (c_laws_a2Dot _ _ _ _ _ hd99x100 hO100_0.rd1 (by rw [List.length_map]; omega)) ?_
                rintro e103 w103 ⟨rfl, hX103⟩
                refine ⟨_, rfl, hX103, ?_⟩
                have hzs103 : w100.heap.size ≤ w103.heap.size := hX103.size
                have hE103 : Ext w w103 := hE100.trans hX103
                have hL90_0x103 := hL90_0x100.ext (o2) hX103
                have hL90_1x103 := hL90_1x100.ext (o1) hX103
                have hL90_2x103 := hL90_2x100.ext (o1) hX103
                have hL90_3x103 := hL90_3x100.ext (o2) hX103
                have hd92x103 := hd92x100.ext g1 hX103
                have hlx104 := ldH_ext hX103 hlx101
                have hO93_0x103 := hO93_0x100.ext (o1) hX103
                have hd99x103 := hd99x100.ext g1 hX103
                have hlx105 := ldH_ext hX103 hlx102
                have hO100_0x103 := hO100_0.ext (o1) hX103
                have hc106 : ¬ (dotN ((ivR x3_0).getD i []) (x3_0.map (fun r => r.getD k 0)) ((ivR x3_0).getD i []).length ≠ ((0 : Nat) : Int)) := (fun h => h (by rw [hd3, if_neg (by omega)]; rfl))
                refine q_neq false rfl rfl (decide_eq_false hc106) (up_some (e := 182) rfl rfl rfl) ?_
                refine q_pick true (.bool false) rfl rfl (up_some (e := 178) rfl rfl rfl) ?_
                refine q_pick false (.bool false) rfl rfl up_none ?_
                refine lw_nil ?_
                refine c_cond_f rfl ?_
                refine wp_skip ?_
                refine wp_plain _ [0, 0, 0] rfl ?_
                refine q_move (.int .i64 ((k : Nat) : Int)) rfl up_none ?_
                refine q_add ((k + 1 : Nat) : Int) rfl rfl (w64n (by omega) (by first | omega | assumption | (simp only [List.length_nil, List.length_cons, List.length_append, List.length_set, List.length_replicate]; omega) | (simp [List.length_nil, List.length_cons, List.length_append, List.length_set, List.length_replicate]; done) | (simp [List.length_nil, List.length_cons, List.length_append, List.length_set, List.length_replicate]; omega))) up_none ?_
                refine q_assign (.int .i64 ((k + 1 : Nat) : Int)) rfl up_none ?_
                refine lw_nil ?_
                exact ⟨(k + 1), _, rfl, ⟨rfl, rfl, rfl, rfl, rfl, rfl, rfl, rfl, trivial⟩, ⟨hE103, hL90_0x103, hL90_1x103, hL90_2x103, hL90_3x103, (by omega)⟩, by first | omega | (dsimp only; omega)⟩
              ·
                refine q_neq false rfl rfl (decide_eq_false hc98) (up_some (e := 178) rfl rfl rfl) ?_
                refine q_move (.bool false) rfl (up_some (e := 178) rfl rfl rfl) ?_
                refine lw_skip (e := 182) (c := false) rfl rfl rfl rfl ?_
                refine lw_skip (e := 182) (c := false) rfl rfl rfl rfl ?_
                refine lw_skip (e := 182) (c := false) rfl rfl rfl rfl ?_
                refine lw_skip (e := 182) (c := false) rfl rfl rfl rfl ?_
                refine lw_skip (e := 182) (c := false) rfl rfl rfl rfl ?_
                refine lw_skip (e := 182) (c := false) rfl rfl rfl rfl ?_
                refine lw_skip (e := 182) (c := false) rfl rfl rfl rfl ?_
                refine lw_skip (e := 182) (c := false) rfl rfl rfl rfl ?_
                refine lw_skip (e := 182) (c := false) rfl rfl rfl rfl ?_
                refine q_pick false (.bool false) rfl rfl (up_some (e := 178) rfl rfl rfl) ?_
                refine q_pick false (.bool false) rfl rfl up_none ?_
                refine lw_nil ?_
                refine c_cond_f rfl ?_
                refine wp_skip ?_
                refine wp_plain _ [0, 0, 0] rfl ?_
                refine q_move (.int .i64 ((k : Nat) : Int)) rfl up_none ?_
                refine q_add ((k + 1 : Nat) : Int) rfl rfl (w64n (by omega) (by first | omega | assumption | (simp only [List.length_nil, List.length_cons, List.length_append, List.length_set, List.length_replicate]; omega) | (simp [List.length_nil, List.length_cons, List.length_append, List.length_set, List.length_replicate]; done) | (simp [List.length_nil, List.length_cons, List.length_append, List.length_set, List.length_replicate]; omega))) up_none ?_
                refine q_assign (.int .i64 ((k + 1 : Nat) : Int)) rfl up_none ?_
                refine lw_nil ?_
                exact ⟨(k + 1), _, rfl, ⟨rfl, rfl, rfl, rfl, rfl, rfl, rfl, rfl, trivial⟩, ⟨hE95, hL90_0x95, hL90_1x95, hL90_2x95, hL90_3x95, (by omega)⟩, by first | omega | (dsimp only; omega)⟩
            ·
              refine q_lss false rfl rfl (decide_eq_false hc91) up_none ?_
              refine lw_nil ?_
              refine c_cond_f rfl ?_
              refine wp_exit ?_
              refine t_exit ?_
              refine t_exit ?_
              refine c_exit_here ?_
              refine wp_plain _ [0, 0, 0] rfl ?_
              refine q_move (.int .i64 ((i : Nat) : Int)) rfl up_none ?_
              refine q_add ((i + 1 : Nat) : Int) rfl rfl (w64n (by omega) (by first | omega | assumption | (simp only [List.length_nil, List.length_cons, List.length_append, List.length_set, List.length_replicate]; omega) | (simp [List.length_nil, List.length_cons, List.length_append, List.length_set, List.length_replicate]; done) | (simp [List.length_nil, List.length_cons, List.length_append, List.length_set, List.length_replicate]; omega))) up_none ?_
              refine q_assign (.int .i64 ((i + 1 : Nat) : Int)) rfl up_none ?_
              refine lw_nil ?_
              exact ⟨(i + 1), _, rfl, ⟨rfl, rfl, rfl, rfl, rfl, rfl, rfl, trivial⟩, ⟨hE90, hL90_0, hL90_1, hL90_2, hL90_3, (by omega)⟩, by first | omega | (dsimp only; omega)⟩
          ·
            refine q_lss false rfl rfl (decide_eq_false hc80) up_none ?_
            refine lw_nil ?_
            refine c_cond_f rfl ?_
            refine wp_exit ?_
            refine t_exit ?_
            refine t_exit ?_
            refine c_exit_here ?_
            refine wp_seq ?_
            refine wp_plain _ [0, 3, 0, 0, 0, 0, 0] rfl ?_
            refine q_move v6_0 rfl up_none ?_
            refine lw_call 14 [] [] [v6_0] rfl rfl cf14 up_none (c_det_i _ _ _ hL79_3.rd2 (by exact sqB_is (by rw [hil]; exact hisq) (by omega))) ?_
            rintro e107 w107 ⟨rfl, hX107⟩
            refine ⟨_, rfl, hX107, ?_⟩
            have hzs107 : w79.heap.size ≤ w107.heap.size := hX107.size
            have hE107 : Ext w w107 := hE79.trans hX107
            have hL79_0x107 := hL79_0.ext (o2) hX107
            have hL79_1x107 := hL79_1.ext (o1) hX107
            have hL79_2x107 := hL79_2.ext (o1) hX107
            have hL79_3x107 := hL79_3.ext (o2) hX107
            refine q_move (.tuple #[(.int .i64 (detM (ivR x3_0))), (.int .i64 ((0 : Nat) : Int))]) rfl up_none ?_
            refine q_extract (vs := [(.int .i64 (detM (ivR x3_0))), (.int .i64 ((0 : Nat) : Int))]) (.int .i64 (detM (ivR x3_0))) rfl rfl up_none ?_
            refine q_extract (vs := [(.int .i64 (detM (ivR x3_0))), (.int .i64 ((0 : Nat) : Int))]) (.int .i64 ((0 : Nat) : Int)) rfl rfl up_none ?_
            refine q_assign (.int .i64 (detM (ivR x3_0))) rfl up_none ?_
            refine q_assign (.int .i64 ((0 : Nat) : Int)) rfl up_none ?_
            refine lw_nil ?_
            refine wp_seq ?_
            refine wp_plain _ [0, 0, 0, 0, 0, 0, 0, 0, 0] rfl ?_
            have hdi : md (detM (ivR x3_0) * detM x3_0) = 1 := by rw [hie]; exact inv_det hsq hj
            refine q_move (.int .i64 ((0 : Nat) : Int)) rfl up_none ?_
            refine q_eql true rfl rfl (by simp) up_none ?_
            refine q_move (.bool true) rfl up_none ?_
            refine q_move (.int .i64 (detM (ivR x3_0))) rfl (up_some (e := 201) rfl rfl rfl) ?_
            refine q_move (.int .i64 (detM x3_0)) rfl (up_some (e := 201) rfl rfl rfl) ?_
            refine lw_callq 40 [] [] [(.int .i64 (detM (ivR x3_0))), (.int .i64 (detM x3_0))] rfl rfl cf40 (up_some (e := 201) rfl rfl rfl) (.int .i64 (md ((detM (ivR x3_0)) * (detM x3_0)))) (fun wq => c_spec_Times wq _ _ (detM_rng _) (detM_rng _)) ?_
            refine q_eql (decide (md ((detM (ivR x3_0)) * (detM x3_0)) = ((1 : Nat) : Int))) rfl rfl rfl (up_some (e := 201) rfl rfl rfl) ?_
            refine q_pick true (.bool (decide (md ((detM (ivR x3_0)) * (detM x3_0)) = ((1 : Nat) : Int)))) rfl rfl up_none ?_
            refine q_assign (.bool (decide (md ((detM (ivR x3_0)) * (detM x3_0)) = ((1 : Nat) : Int)))) rfl up_none ?_
            refine lw_nil ?_
            refine wp_ret ?_
            exact post_ret [4] rfl (.bool (decide (md ((detM (ivR x3_0)) * (detM x3_0)) = ((1 : Nat) : Int)))) rfl ⟨(by first | rfl | (exfalso; omega) | exact ret_bool (decide_eq_true hdi) | exact ret_bool (decide_eq_true (iv_zero hsb hz).2)), hE107⟩
  ·
    refine c_cond_t (by first | rfl | (show Value.bool _ = _; rw [hb2])) ?_
    refine wp_seq ?_
    refine wp_plain _ [0] rfl ?_
    refine q_assign (.bool true) rfl up_none ?_
    refine lw_nil ?_
    refine wp_ret ?_
    refine t_ret ?_
    exact post_ret [4] rfl (.bool true) rfl ⟨(by first | rfl | (exfalso; omega) | exact ret_bool (decide_eq_true hdi) | exact ret_bool (decide_eq_true (iv_zero hsb hz).2)), hE1⟩
end Go.Proofs.Ytjgnlnlngcjfcaa
