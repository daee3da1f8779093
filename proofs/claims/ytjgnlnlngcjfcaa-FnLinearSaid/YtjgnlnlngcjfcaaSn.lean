/- Contracts of functions: each says what the function returns for all arguments that meet its premises. Printed by gen.py. -/
import Derived.Test.YtjgnlnlngcjfcaaMh
import Derived.Test.YtjgnlnlngcjfcaaT
import Derived.Test.YtjgnlnlngcjfcaaSa
import Derived.Test.YtjgnlnlngcjfcaaSb
import Derived.Test.YtjgnlnlngcjfcaaSc
import Derived.Test.YtjgnlnlngcjfcaaSd
import Derived.Test.YtjgnlnlngcjfcaaSk
import Derived.Test.YtjgnlnlngcjfcaaSl
import Derived.Test.YtjgnlnlngcjfcaaSm
import Derived.Test.YtjgnlnlngcjfcaaProg
namespace Go.Proofs.Ytjgnlnlngcjfcaa
open Go Go.RowKit
set_option linter.unusedVariables false
set_option linter.unusedSimpArgs false
attribute [local irreducible] LW
/- spec.SolveLinear -/
set_option maxHeartbeats 4000000 in
set_option maxRecDepth 100000 in
theorem c_spec_SolveLinear (w : World) (va : Value) (a : List (List Int)) (vb : Value) (b : List Int) (ha : Rd (rdL (rdL rI)) w.heap va a) (hb : Rd (rdL rI) w.heap vb b)  :
    Calls Try.prog 23 #[va, vb] w (fun e w' => ∃ v0 : Value, e = .returned (.tuple #[v0, .int .i64 (slC a b)]) ∧ Ext w w' ∧ Fr (owL rI 2) w.heap.size w'.heap.size w'.heap v0 (slR a b)) := by
  refine calls_mk [va, vb] 29 Try.func23 rfl rfl (by simp) ?_
  have hE0 : Ext w w := Ext.refl w
  have hl_va := ha.lenle
  have hl_vb := hb.lenle
  refine wp_seq ?_
  refine wp_plain _ [0, 0] rfl ?_
  refine q_assign (.slice none 0 0) rfl up_none ?_
  refine q_assign (.int .i64 ((0 : Nat) : Int)) rfl up_none ?_
  refine lw_nil ?_
  refine wp_seq ?_
  refine wp_seq ?_
  refine wp_plain _ [0, 3, 0, 0, 0, 0, 0, 0, 0, 0, 0, 0, 3, 0, 0] rfl ?_
  refine q_move va rfl up_none ?_
  refine lw_call 52 [] [] [va] rfl rfl cf52 up_none (c_spec_l07Square _ _ _ (ha.ext g2 hE0)) ?_
  rintro e1 w1 ⟨rfl, hX1⟩
  refine ⟨_, rfl, hX1, ?_⟩
  have hzs1 : w.heap.size ≤ w1.heap.size := hX1.size
  have hE1 : Ext w w1 := hE0.trans hX1
  refine q_not (!(sqB a)) rfl rfl up_none ?_
  refine q_move (.bool (!(sqB a))) rfl up_none ?_
  cases hb2 : (!(sqB a))
  ·
    refine q_move vb rfl (up_some (e := 9) rfl rfl rfl) ?_
    refine q_len (v := vb) u29 rfl hb.isSl (up_some (e := 9) rfl rfl rfl) ?_
    refine q_move va rfl (up_some (e := 9) rfl rfl rfl) ?_
    refine q_len (v := va) u22 rfl ha.isSl (up_some (e := 9) rfl rfl rfl) ?_
    by_cases hc3 : ((b.length : Nat) : Int) ≠ ((a.length : Nat) : Int)
    ·
      refine q_neq true rfl rfl (decide_eq_true hc3) (up_some (e := 9) rfl rfl rfl) ?_
      refine q_pick false (.bool true) rfl rfl up_none ?_
      refine q_move (.bool true) rfl up_none ?_
      refine lw_skip (e := 16) (c := true) rfl rfl rfl rfl ?_
      refine lw_skip (e := 16) (c := true) rfl rfl rfl rfl ?_
      refine lw_skip (e := 16) (c := true) rfl rfl rfl rfl ?_
      refine q_pick true (.bool true) rfl rfl up_none ?_
      refine lw_nil ?_
      refine c_cond_t rfl ?_
      refine wp_seq ?_
      refine wp_plain _ [3, 0, 0] rfl ?_
      refine r_nil (rI) good_rI u29 ti2 up_none ?_
      intro v4 w4 hX4 hz4 hO4
      have hzs4 : w1.heap.size ≤ w4.heap.size := hX4.size
      have hE4 : Ext w w4 := hE1.trans hX4
      refine q_assign v4 rfl up_none ?_
      refine q_assign (.int .i64 ((1 : Nat) : Int)) rfl up_none ?_
      refine lw_nil ?_
      refine wp_ret ?_
      refine t_ret ?_
      have hno : slOk a b = false := by unfold slOk; simp_all <;> omega
      exact post_ret [4, 5] rfl (.tuple #[v4, (.int .i64 ((1 : Nat) : Int))]) rfl ⟨v4, (by rw [(sl_bad hno).2]; rfl), hE4, (by rw [(sl_bad hno).1]; exact (hO4.up o1).low hE1.size)⟩
    ·
      refine q_neq false rfl rfl (decide_eq_false hc3) (up_some (e := 9) rfl rfl rfl) ?_
      refine q_pick false (.bool false) rfl rfl up_none ?_
      refine q_move (.bool false) rfl up_none ?_
      refine q_move vb rfl (up_some (e := 16) rfl rfl rfl) ?_
      refine lw_call 69 [] [] [vb] rfl rfl cf69 (up_some (e := 16) rfl rfl rfl) (c_spec_l01Numbers _ _ _ (hb.ext g1 hE1)) ?_
      rintro e5 w5 ⟨rfl, hX5⟩
      refine ⟨_, rfl, hX5, ?_⟩
      have hzs5 : w1.heap.size ≤ w5.heap.size := hX5.size
      have hE5 : Ext w w5 := hE1.trans hX5
      refine q_not (!(allN b)) rfl rfl (up_some (e := 16) rfl rfl rfl) ?_
      refine q_pick false (.bool (!(allN b))) rfl rfl up_none ?_
      refine lw_nil ?_
      cases hb6 : (!(allN b))
      ·
        refine c_cond_f (by first | rfl | (show Value.bool _ = _; rw [hb6])) ?_
        refine wp_skip ?_
        refine wp_seq ?_
        refine wp_seq ?_
        refine wp_plain _ [0, 3, 0] rfl ?_
        have hok : slOk a b = true := by unfold slOk; simp_all <;> omega
        obtain ⟨hS, h6⟩ := sq_of (sl_sq hok)
        have hbl := sl_len hok
        have hnb := sl_num hok
        refine q_move va rfl up_none ?_
        refine lw_call 53 [] [] [va] rfl rfl cf53 up_none (c_spec_l07Det _ _ _ (ha.ext g2 hE5) (by exact hS) (by exact h6)) ?_
        rintro e7 w7 ⟨rfl, hX7⟩
        refine ⟨_, rfl, hX7, ?_⟩
        have hzs7 : w5.heap.size ≤ w7.heap.size := hX7.size
        have hE7 : Ext w w7 := hE5.trans hX7
        by_cases hc8 : detM a = ((0 : Nat) : Int)
        ·
          refine q_eql true rfl rfl (decide_eq_true hc8) up_none ?_
          refine lw_nil ?_
          refine c_cond_t rfl ?_
          refine wp_seq ?_
          refine wp_plain _ [3, 0, 0] rfl ?_
          refine r_nil (rI) good_rI u29 ti2 up_none ?_
          intro v9 w9 hX9 hz9 hO9
          have hzs9 : w7.heap.size ≤ w9.heap.size := hX9.size
          have hE9 : Ext w w9 := hE7.trans hX9
          refine q_assign v9 rfl up_none ?_
          refine q_assign (.int .i64 ((6 : Nat) : Int)) rfl up_none ?_
          refine lw_nil ?_
          refine wp_ret ?_
          refine t_ret ?_
          have hdz : detM a = 0 := by have h := ‹detM a = ((0 : Nat) : Int)›; exact h
          exact post_ret [4, 5] rfl (.tuple #[v9, (.int .i64 ((6 : Nat) : Int))]) rfl ⟨v9, (by rw [(sl_zero hok hdz).2]; rfl), hE9, (by rw [(sl_zero hok hdz).1]; exact (hO9.up o1).low hE7.size)⟩
        ·
          refine q_eql false rfl rfl (decide_eq_false hc8) up_none ?_
          refine lw_nil ?_
          refine c_cond_f rfl ?_
          refine wp_skip ?_
          refine wp_seq ?_
          refine wp_plain _ [0, 0, 3, 0, 0] rfl ?_
          have hdn : detM a ≠ 0 := by have h := ‹¬ detM a = ((0 : Nat) : Int)›; exact h
          refine q_move va rfl up_none ?_
          refine q_move vb rfl up_none ?_
          refine lw_call 70 [] [] [va, vb] rfl rfl cf70 up_none (c_spec_l07Solve _ _ _ _ _ (ha.ext g2 hE7) (hb.ext g1 hE7) (by exact hS) (by exact h6) (by exact hbl) (by exact hnb) (by exact sl_jor hok hdn)) ?_
          rintro e10 w10 ⟨v10_0, rfl, hX10, hO10_0⟩
          refine ⟨_, rfl, hX10, ?_⟩
          have hzs10 : w7.heap.size ≤ w10.heap.size := hX10.size
          have hE10 : Ext w w10 := hE7.trans hX10
          refine q_assign v10_0 rfl up_none ?_
          refine q_assign (.int .i64 ((0 : Nat) : Int)) rfl up_none ?_
          refine lw_nil ?_
          refine wp_ret ?_
          exact post_ret [4, 5] rfl (.tuple #[v10_0, (.int .i64 ((0 : Nat) : Int))]) rfl ⟨v10_0, (by rw [(sl_good hok hdn).2]; rfl), hE10, (by rw [(sl_good hok hdn).1]; exact (hO10_0.up o1).low hE7.size)⟩
      ·
        refine c_cond_t (by first | rfl | (show Value.bool _ = _; rw [hb6])) ?_
        refine wp_seq ?_
        refine wp_plain _ [3, 0, 0] rfl ?_
        refine r_nil (rI) good_rI u29 ti2 up_none ?_
        intro v11 w11 hX11 hz11 hO11
        have hzs11 : w5.heap.size ≤ w11.heap.size := hX11.size
        have hE11 : Ext w w11 := hE5.trans hX11
        refine q_assign v11 rfl up_none ?_
        refine q_assign (.int .i64 ((1 : Nat) : Int)) rfl up_none ?_
        refine lw_nil ?_
        refine wp_ret ?_
        refine t_ret ?_
        have hno : slOk a b = false := by unfold slOk; simp_all <;> omega
        exact post_ret [4, 5] rfl (.tuple #[v11, (.int .i64 ((1 : Nat) : Int))]) rfl ⟨v11, (by rw [(sl_bad hno).2]; rfl), hE11, (by rw [(sl_bad hno).1]; exact (hO11.up o1).low hE5.size)⟩
  ·
    refine lw_skip (e := 9) (c := true) rfl rfl rfl rfl ?_
    refine lw_skip (e := 9) (c := true) rfl rfl rfl rfl ?_
    refine lw_skip (e := 9) (c := true) rfl rfl rfl rfl ?_
    refine lw_skip (e := 9) (c := true) rfl rfl rfl rfl ?_
    refine lw_skip (e := 9) (c := true) rfl rfl rfl rfl ?_
    refine q_pick true (.bool true) rfl rfl up_none ?_
    refine q_move (.bool true) rfl up_none ?_
    refine lw_skip (e := 16) (c := true) rfl rfl rfl rfl ?_
    refine lw_skip (e := 16) (c := true) rfl rfl rfl rfl ?_
    refine lw_skip (e := 16) (c := true) rfl rfl rfl rfl ?_
    refine q_pick true (.bool true) rfl rfl up_none ?_
    refine lw_nil ?_
    refine c_cond_t rfl ?_
    refine wp_seq ?_
    refine wp_plain _ [3, 0, 0] rfl ?_
    refine r_nil (rI) good_rI u29 ti2 up_none ?_
    intro v12 w12 hX12 hz12 hO12
    have hzs12 : w1.heap.size ≤ w12.heap.size := hX12.size
    have hE12 : Ext w w12 := hE1.trans hX12
    refine q_assign v12 rfl up_none ?_
    refine q_assign (.int .i64 ((1 : Nat) : Int)) rfl up_none ?_
    refine lw_nil ?_
    refine wp_ret ?_
    refine t_ret ?_
    have hno : slOk a b = false := by unfold slOk; simp_all <;> omega
    exact post_ret [4, 5] rfl (.tuple #[v12, (.int .i64 ((1 : Nat) : Int))]) rfl ⟨v12, (by rw [(sl_bad hno).2]; rfl), hE12, (by rw [(sl_bad hno).1]; exact (hO12.up o1).low hE1.size)⟩

/- impl.SolveLinear -/
set_option maxHeartbeats 4000000 in
set_option maxRecDepth 100000 in
theorem c_impl_SolveLinear (w : World) (va : Value) (a : List (List Int)) (vb : Value) (b : List Int) (ha : Rd (rdL (rdL rI)) w.heap va a) (hb : Rd (rdL rI) w.heap vb b)  :
    Calls Try.prog 24 #[va, vb] w (fun e w' => ∃ v0 : Value, e = .returned (.tuple #[v0, .int .i64 (slC a b)]) ∧ Ext w w' ∧ Fr (owL rI 2) w.heap.size w'.heap.size w'.heap v0 (slR a b)) := by
  refine calls_mk [va, vb] 30 Try.func24 rfl rfl (by simp) ?_
  have hE0 : Ext w w := Ext.refl w
  have hl_va := ha.lenle
  have hl_vb := hb.lenle
  refine wp_seq ?_
  refine wp_plain _ [0, 0] rfl ?_
  refine q_assign (.slice none 0 0) rfl up_none ?_
  refine q_assign (.int .i64 ((0 : Nat) : Int)) rfl up_none ?_
  refine lw_nil ?_
  refine wp_seq ?_
  refine wp_seq ?_
  refine wp_plain _ [0, 3, 0, 0, 0, 0, 0, 3, 0, 0] rfl ?_
  refine q_move va rfl up_none ?_
  refine lw_call 54 [] [] [va] rfl rfl cf54 up_none (c_impl_isSquare _ _ _ (ha.ext g2 hE0)) ?_
  rintro e1 w1 ⟨rfl, hX1⟩
  refine ⟨_, rfl, hX1, ?_⟩
  have hzs1 : w.heap.size ≤ w1.heap.size := hX1.size
  have hE1 : Ext w w1 := hE0.trans hX1
  refine q_not (!(sqB a)) rfl rfl up_none ?_
  refine q_move (.bool (!(sqB a))) rfl up_none ?_
  cases hb2 : (!(sqB a))
  ·
    refine q_move vb rfl (up_some (e := 11) rfl rfl rfl) ?_
    refine q_move va rfl (up_some (e := 11) rfl rfl rfl) ?_
    refine q_len (v := va) u22 rfl ha.isSl (up_some (e := 11) rfl rfl rfl) ?_
    refine lw_call 62 [] [] [vb, (.int .i64 ((a.length : Nat) : Int))] rfl rfl cf62 (up_some (e := 11) rfl rfl rfl) (c_impl_areNumbers _ _ _ _ (hb.ext g1 hE1) (by omega)) ?_
    rintro e3 w3 ⟨rfl, hX3⟩
    refine ⟨_, rfl, hX3, ?_⟩
    have hzs3 : w1.heap.size ≤ w3.heap.size := hX3.size
    have hE3 : Ext w w3 := hE1.trans hX3
    refine q_not (!(decide (((b.length : Nat) : Int) = ((a.length : Nat) : Int)) && allN b)) rfl rfl (up_some (e := 11) rfl rfl rfl) ?_
    refine q_pick false (.bool (!(decide (((b.length : Nat) : Int) = ((a.length : Nat) : Int)) && allN b))) rfl rfl up_none ?_
    refine lw_nil ?_
    cases hb4 : (!(decide (((b.length : Nat) : Int) = ((a.length : Nat) : Int)) && allN b))
    ·
      refine c_cond_f (by first | rfl | (show Value.bool _ = _; rw [hb4])) ?_
      refine wp_skip ?_
      refine wp_seq ?_
      refine wp_plain _ [0, 3, 0, 3, 3, 0, 0, 0, 0, 0] rfl ?_
      have hok : slOk a b = true := by unfold slOk; simp_all <;> omega
      obtain ⟨hS, h6⟩ := sq_of (sl_sq hok)
      have hbl := sl_len hok
      have hnb := sl_num hok
      have hpre := one_pre hS hbl hnb
      have hsm := one_some hS hbl hnb
      refine q_move va rfl up_none ?_
      refine lw_call 72 [] [] [va] rfl rfl cf72 up_none (c_impl_constants _ _ _ (ha.ext g2 hE3) (by omega) (by intro k; by_cases hk : k < a.length; (have := hS.row k hk; omega); (rw [show a.getD k [] = [] from by simp [Nat.not_lt.1 hk]]; simp))) ?_
      rintro e5 w5 ⟨v5_0, rfl, hX5, hO5_0⟩
      refine ⟨_, rfl, hX5, ?_⟩
      have hzs5 : w3.heap.size ≤ w5.heap.size := hX5.size
      have hE5 : Ext w w5 := hE3.trans hX5
      refine q_move vb rfl up_none ?_
      refine lw_call 73 [] [] [vb] rfl rfl cf73 up_none (c_impl_singles _ _ _ (hb.ext g1 hE5) (by omega)) ?_
      rintro e6 w6 ⟨v6_0, rfl, hX6, hO6_0⟩
      refine ⟨_, rfl, hX6, ?_⟩
      have hzs6 : w5.heap.size ≤ w6.heap.size := hX6.size
      have hE6 : Ext w w6 := hE5.trans hX6
      have hO5_0x6 := hO5_0.ext (o3) hX6
      refine lw_call 71 [] [] [v5_0, v6_0] rfl rfl cf71 up_none (c_impl_solved _ _ _ _ _ hO5_0x6.rd3 hO6_0.rd2 (by rw [mm_len]; omega) (by rw [mm_len, sing_len]; exact hbl) (by exact hpre.1) (by exact hpre.2)) ?_
      rintro e7 w7 ⟨v7_0, rfl, hX7, hO7_0⟩
      refine ⟨_, rfl, hX7, ?_⟩
      have hzs7 : w6.heap.size ≤ w7.heap.size := hX7.size
      have hE7 : Ext w w7 := hE6.trans hX7
      have hO5_0x7 := hO5_0x6.ext (o3) hX7
      have hO6_0x7 := hO6_0.ext (o2) hX7
      refine q_move (.tuple #[v7_0, (.bool ((jorS (mm (fun x => [x]) a) (sing b)).isSome))]) rfl up_none ?_
      refine q_extract (vs := [v7_0, (.bool ((jorS (mm (fun x => [x]) a) (sing b)).isSome))]) v7_0 rfl rfl up_none ?_
      refine q_extract (vs := [v7_0, (.bool ((jorS (mm (fun x => [x]) a) (sing b)).isSome))]) (.bool ((jorS (mm (fun x => [x]) a) (sing b)).isSome)) rfl rfl up_none ?_
      refine q_assign v7_0 rfl up_none ?_
      refine q_assign (.bool ((jorS (mm (fun x => [x]) a) (sing b)).isSome)) rfl up_none ?_
      refine lw_nil ?_
      refine wp_seq ?_
      refine wp_seq ?_
      refine wp_plain _ [0, 0] rfl ?_
      refine q_move (.bool ((jorS (mm (fun x => [x]) a) (sing b)).isSome)) rfl up_none ?_
      refine q_not (!((jorS (mm (fun x => [x]) a) (sing b)).isSome)) rfl rfl up_none ?_
      refine lw_nil ?_
      cases hb8 : (!((jorS (mm (fun x => [x]) a) (sing b)).isSome))
      ·
        refine c_cond_f (by first | rfl | (show Value.bool _ = _; rw [hb8])) ?_
        refine wp_skip ?_
        refine wp_seq ?_
        refine wp_plain _ [0, 3, 0, 0] rfl ?_
        have hdn : detM a ≠ 0 := by simp_all
        have hjn := sl_jor hok hdn
        have hsol := sol_one hS hbl hnb hjn
        refine q_move v7_0 rfl up_none ?_
        refine lw_call 74 [] [] [v7_0] rfl rfl cf74 up_none (c_impl_firsts _ _ _ hO7_0.rd2 (by rw [hsol, sing_len, solN_len hS hnb hjn]; omega) (by rw [hsol, sing_len]; intro k hk; rw [sing_row _ hk]; simp)) ?_
        rintro e9 w9 ⟨v9_0, rfl, hX9, hO9_0⟩
        refine ⟨_, rfl, hX9, ?_⟩
        have hzs9 : w7.heap.size ≤ w9.heap.size := hX9.size
        have hE9 : Ext w w9 := hE7.trans hX9
        have hO5_0x9 := hO5_0x7.ext (o3) hX9
        have hO6_0x9 := hO6_0x7.ext (o2) hX9
        have hO7_0x9 := hO7_0.ext (o2) hX9
        refine q_assign v9_0 rfl up_none ?_
        refine q_assign (.int .i64 ((0 : Nat) : Int)) rfl up_none ?_
        refine lw_nil ?_
        refine wp_ret ?_
        exact post_ret [4, 5] rfl (.tuple #[v9_0, (.int .i64 ((0 : Nat) : Int))]) rfl ⟨v9_0, (by rw [(sl_good hok hdn).2]; rfl), hE9, (by rw [(sl_good hok hdn).1]; have h := (hO9_0.up o1).low hE7.size; rw [hsol, sing_first] at h; exact h)⟩
      ·
        refine c_cond_t (by first | rfl | (show Value.bool _ = _; rw [hb8])) ?_
        refine wp_seq ?_
        refine wp_plain _ [0, 0] rfl ?_
        refine q_assign (.slice none 0 0) rfl up_none ?_
        refine q_assign (.int .i64 ((6 : Nat) : Int)) rfl up_none ?_
        refine lw_nil ?_
        refine wp_ret ?_
        refine t_ret ?_
        have hdz : detM a = 0 := by simp_all
        exact post_ret [4, 5] rfl (.tuple #[(.slice none 0 0), (.int .i64 ((6 : Nat) : Int))]) rfl ⟨(.slice none 0 0), (by rw [(sl_zero hok hdz).2]; rfl), hE7, (by rw [(sl_zero hok hdz).1]; exact frNil _ _ _)⟩
    ·
      refine c_cond_t (by first | rfl | (show Value.bool _ = _; rw [hb4])) ?_
      refine wp_seq ?_
      refine wp_plain _ [0, 0] rfl ?_
      refine q_assign (.slice none 0 0) rfl up_none ?_
      refine q_assign (.int .i64 ((1 : Nat) : Int)) rfl up_none ?_
      refine lw_nil ?_
      refine wp_ret ?_
      refine t_ret ?_
      have hno : slOk a b = false := by first | (unfold slOk; simp_all; done) | (unfold slOk; rw [show (decide (b.length = a.length) && allN b) = false from by have h := ‹(!(decide (((b.length : Nat) : Int) = ((a.length : Nat) : Int)) && allN b)) = true›; rw [show decide (((b.length : Nat) : Int) = ((a.length : Nat) : Int)) = decide (b.length = a.length) from decide_eq_decide.2 (by omega)] at h; exact (Bool.not_eq_true' _).mp h]; simp)
      exact post_ret [4, 5] rfl (.tuple #[(.slice none 0 0), (.int .i64 ((1 : Nat) : Int))]) rfl ⟨(.slice none 0 0), (by rw [(sl_bad hno).2]; rfl), hE3, (by rw [(sl_bad hno).1]; exact frNil _ _ _)⟩
  ·
    refine lw_skip (e := 11) (c := true) rfl rfl rfl rfl ?_
    refine lw_skip (e := 11) (c := true) rfl rfl rfl rfl ?_
    refine lw_skip (e := 11) (c := true) rfl rfl rfl rfl ?_
    refine lw_skip (e := 11) (c := true) rfl rfl rfl rfl ?_
    refine lw_skip (e := 11) (c := true) rfl rfl rfl rfl ?_
    refine q_pick true (.bool true) rfl rfl up_none ?_
    refine lw_nil ?_
    refine c_cond_t rfl ?_
    refine wp_seq ?_
    refine wp_plain _ [0, 0] rfl ?_
    refine q_assign (.slice none 0 0) rfl up_none ?_
    refine q_assign (.int .i64 ((1 : Nat) : Int)) rfl up_none ?_
    refine lw_nil ?_
    refine wp_ret ?_
    refine t_ret ?_
    have hno : slOk a b = false := by first | (unfold slOk; simp_all; done) | (unfold slOk; rw [show (decide (b.length = a.length) && allN b) = false from by have h := ‹(!(decide (((b.length : Nat) : Int) = ((a.length : Nat) : Int)) && allN b)) = true›; rw [show decide (((b.length : Nat) : Int) = ((a.length : Nat) : Int)) = decide (b.length = a.length) from decide_eq_decide.2 (by omega)] at h; exact (Bool.not_eq_true' _).mp h]; simp)
    exact post_ret [4, 5] rfl (.tuple #[(.slice none 0 0), (.int .i64 ((1 : Nat) : Int))]) rfl ⟨(.slice none 0 0), (by rw [(sl_bad hno).2]; rfl), hE1, (by rw [(sl_bad hno).1]; exact frNil _ _ _)⟩
end Go.Proofs.Ytjgnlnlngcjfcaa
