/- Contracts of functions: each says what the function returns for all arguments that meet its premises. Printed by gen.py. -/
import Derived.Test.YtjgnlnlngcjfcaaFwM
import Derived.Test.YtjgnlnlngcjfcaaMq
import Derived.Test.YtjgnlnlngcjfcaaT
import Derived.Test.YtjgnlnlngcjfcaaSa
import Derived.Test.YtjgnlnlngcjfcaaSb
import Derived.Test.YtjgnlnlngcjfcaaSc
import Derived.Test.YtjgnlnlngcjfcaaSf
import Derived.Test.YtjgnlnlngcjfcaaSk
import Derived.Test.YtjgnlnlngcjfcaaSt
import Derived.Test.YtjgnlnlngcjfcaaProg
namespace Go.Proofs.Ytjgnlnlngcjfcaa
open Go Go.RowKit
set_option linter.unusedVariables false
set_option linter.unusedSimpArgs false
attribute [local irreducible] LW
/- laws.a2Long -/
set_option maxHeartbeats 4000000 in
set_option maxRecDepth 100000 in
theorem c_laws_a2Long (w : World) (vc : Value) (cs : List UInt8) (vd : Value) (ds : List UInt8) (hcs : Rd (rdL rU) w.heap vc cs) (hds : Rd (rdL rU) w.heap vd ds)  :
    Calls Try.prog 28 #[vc, vd] w (fun e w' => e = .returned (.bool (decide (((3000 : Nat) : Int) < ((cs.length : Nat) : Int)) || decide (((3000 : Nat) : Int) < ((ds.length : Nat) : Int)))) ∧ Ext w w') := by
  refine calls_mk [vc, vd] 13 Try.func28 rfl rfl (by simp) ?_
  have hE0 : Ext w w := Ext.refl w
  have hl_vc := hcs.lenle
  have hl_vd := hds.lenle
  refine wp_seq ?_
  refine wp_plain _ [0] rfl ?_
  refine q_assign (.bool false) rfl up_none ?_
  refine lw_nil ?_
  refine wp_seq ?_
  refine wp_plain _ [0, 0, 0, 0, 0, 0, 0, 0, 0] rfl ?_
  refine q_move vc rfl up_none ?_
  refine q_len (v := vc) u40 rfl hcs.isSl up_none ?_
  by_cases hc1 : ((3000 : Nat) : Int) < ((cs.length : Nat) : Int)
  ·
    refine q_gtr true rfl rfl (decide_eq_true hc1) up_none ?_
    refine q_move (.bool true) rfl up_none ?_
    refine lw_skip (e := 8) (c := true) rfl rfl rfl rfl ?_
    refine lw_skip (e := 8) (c := true) rfl rfl rfl rfl ?_
    refine lw_skip (e := 8) (c := true) rfl rfl rfl rfl ?_
    refine q_pick true (.bool true) rfl rfl up_none ?_
    refine q_assign (.bool true) rfl up_none ?_
    refine lw_nil ?_
    refine wp_ret ?_
    exact post_ret [4] rfl (.bool true) rfl ⟨(ret_bool (by first | (rw [decide_eq_true (show ((3000 : Nat) : Int) < ((cs.length : Nat) : Int) by assumption)]; rfl) | (rw [decide_eq_false (show ¬ ((3000 : Nat) : Int) < ((cs.length : Nat) : Int) by assumption), Bool.false_or]))), hE0⟩
  ·
    refine q_gtr false rfl rfl (decide_eq_false hc1) up_none ?_
    refine q_move (.bool false) rfl up_none ?_
    refine q_move vd rfl (up_some (e := 8) rfl rfl rfl) ?_
    refine q_len (v := vd) u40 rfl hds.isSl (up_some (e := 8) rfl rfl rfl) ?_
    refine q_gtr (decide (((3000 : Nat) : Int) < ((ds.length : Nat) : Int))) rfl rfl rfl (up_some (e := 8) rfl rfl rfl) ?_
    refine q_pick false (.bool (decide (((3000 : Nat) : Int) < ((ds.length : Nat) : Int)))) rfl rfl up_none ?_
    refine q_assign (.bool (decide (((3000 : Nat) : Int) < ((ds.length : Nat) : Int)))) rfl up_none ?_
    refine lw_nil ?_
    refine wp_ret ?_
    exact post_ret [4] rfl (.bool (decide (((3000 : Nat) : Int) < ((ds.length : Nat) : Int)))) rfl ⟨(ret_bool (by first | (rw [decide_eq_true (show ((3000 : Nat) : Int) < ((cs.length : Nat) : Int) by assumption)]; rfl) | (rw [decide_eq_false (show ¬ ((3000 : Nat) : Int) < ((cs.length : Nat) : Int) by assumption), Bool.false_or]))), hE0⟩

/- laws.a2At -/
def a2at (cs : List UInt8) (k n : Int) : Int := if ((cs.length : Nat) : Int) ≤ k ∨ n < 1 then 0 else (((cs.getD k.toNat 0).toNat : Nat) : Int) % n
theorem a2at_num (cs : List UInt8) (k n : Int) : 0 ≤ a2at cs k n ∧ (1 ≤ n → a2at cs k n < n) := by
  unfold a2at
  split
  · omega
  · rename_i h
    exact ⟨Int.emod_nonneg _ (by omega), fun _ => Int.emod_lt_of_pos _ (by omega)⟩
theorem a2at_rng (cs : List UInt8) (k n : Int) (h : 1 ≤ n ∧ n ≤ 1000000) : -9223372036854775808 ≤ a2at cs k n ∧ a2at cs k n ≤ 9223372036854775807 := by
  have := a2at_num cs k n; omega

set_option maxHeartbeats 4000000 in
set_option maxRecDepth 100000 in
theorem c_laws_a2At (w : World) (vc : Value) (cs : List UInt8) (k : Int) (n : Int) (hcs : Rd (rdL rU) w.heap vc cs) (_hk : -9223372036854775808 ≤ k ∧ k ≤ 9223372036854775807) (_hn : -9223372036854775808 ≤ n ∧ n ≤ 9223372036854775807) (hk : 0 ≤ k) :
    Calls Try.prog 30 #[vc, .int .i64 k, .int .i64 n] w (fun e w' => e = .returned (.int .i64 (a2at cs k n)) ∧ Ext w w') := by
  refine calls_mk [vc, .int .i64 k, .int .i64 n] 22 Try.func30 rfl rfl (by simp) ?_
  have hE0 : Ext w w := Ext.refl w
  have hl_vc := hcs.lenle
  refine wp_seq ?_
  refine wp_plain _ [0] rfl ?_
  refine q_assign (.int .i64 ((0 : Nat) : Int)) rfl up_none ?_
  refine lw_nil ?_
  refine wp_seq ?_
  refine wp_seq ?_
  refine wp_plain _ [0, 0, 0, 0, 0, 0, 0, 0] rfl ?_
  refine q_move (.int .i64 k) rfl up_none ?_
  refine q_move vc rfl up_none ?_
  refine q_len (v := vc) u40 rfl hcs.isSl up_none ?_
  by_cases hc1 : ((cs.length : Nat) : Int) ≤ k
  ·
    refine q_geq true rfl rfl (decide_eq_true hc1) up_none ?_
    refine q_move (.bool true) rfl up_none ?_
    refine lw_skip (e := 11) (c := true) rfl rfl rfl rfl ?_
    refine lw_skip (e := 11) (c := true) rfl rfl rfl rfl ?_
    refine q_pick true (.bool true) rfl rfl up_none ?_
    refine lw_nil ?_
    refine c_cond_t rfl ?_
    refine wp_seq ?_
    refine wp_plain _ [0] rfl ?_
    refine q_assign (.int .i64 ((0 : Nat) : Int)) rfl up_none ?_
    refine lw_nil ?_
    refine wp_ret ?_
    refine t_ret ?_
    exact post_ret [6] rfl (.int .i64 ((0 : Nat) : Int)) rfl ⟨(ret_int (by unfold a2at; split <;> first | rfl | (exfalso; omega))), hE0⟩
  ·
    refine q_geq false rfl rfl (decide_eq_false hc1) up_none ?_
    refine q_move (.bool false) rfl up_none ?_
    refine q_move (.int .i64 n) rfl (up_some (e := 11) rfl rfl rfl) ?_
    by_cases hc2 : n < ((1 : Nat) : Int)
    ·
      refine q_lss true rfl rfl (decide_eq_true hc2) (up_some (e := 11) rfl rfl rfl) ?_
      refine q_pick false (.bool true) rfl rfl up_none ?_
      refine lw_nil ?_
      refine c_cond_t rfl ?_
      refine wp_seq ?_
      refine wp_plain _ [0] rfl ?_
      refine q_assign (.int .i64 ((0 : Nat) : Int)) rfl up_none ?_
      refine lw_nil ?_
      refine wp_ret ?_
      refine t_ret ?_
      exact post_ret [6] rfl (.int .i64 ((0 : Nat) : Int)) rfl ⟨(ret_int (by unfold a2at; split <;> first | rfl | (exfalso; omega))), hE0⟩
    ·
      refine q_lss false rfl rfl (decide_eq_false hc2) (up_some (e := 11) rfl rfl rfl) ?_
      refine q_pick false (.bool false) rfl rfl up_none ?_
      refine lw_nil ?_
      refine c_cond_f rfl ?_
      refine wp_skip ?_
      refine wp_seq ?_
      refine wp_plain _ [0, 0, 0, 2, 0, 0, 0, 0] rfl ?_
      refine q_move vc rfl up_none ?_
      refine q_move (.int .i64 k) rfl up_none ?_
      refine q_idx (v := vc) ((k).toNat) u40 ti5 rfl rfl hcs.isSl (by omega) (by first | omega | assumption | (simp only [List.length_nil, List.length_cons, List.length_append, List.length_set, List.length_replicate]; omega) | (simp [List.length_nil, List.length_cons, List.length_append, List.length_set, List.length_replicate]; done) | (simp [List.length_nil, List.length_cons, List.length_append, List.length_set, List.length_replicate]; omega)) up_none ?_
      refine q_load (p := eptr vc ((k).toNat) 1) (.inr rfl) (.int .u8 ((cs.getD ((k).toNat) 0).toNat : Int)) one5 rfl (ldH_ext hE0 (hcs.getU (by first | omega | assumption | (simp only [List.length_nil, List.length_cons, List.length_append, List.length_set, List.length_replicate]; omega) | (simp [List.length_nil, List.length_cons, List.length_append, List.length_set, List.length_replicate]; done) | (simp [List.length_nil, List.length_cons, List.length_append, List.length_set, List.length_replicate]; omega))).1) up_none ?_
      refine q_conv ((cs.getD ((k).toNat) 0).toNat : Int) u5 u2 rfl (w8 _) up_none ?_
      refine q_move (.int .i64 n) rfl up_none ?_
      refine q_rem ((((cs.getD ((k).toNat) 0).toNat : Int)) % n) rfl rfl (by omega) (Int.tmod_eq_emod_of_nonneg (by omega)) up_none ?_
      refine q_assign (.int .i64 ((((cs.getD ((k).toNat) 0).toNat : Int)) % n)) rfl up_none ?_
      refine lw_nil ?_
      refine wp_ret ?_
      exact post_ret [6] rfl (.int .i64 ((((cs.getD ((k).toNat) 0).toNat : Int)) % n)) rfl ⟨(ret_int (by unfold a2at; split <;> first | rfl | (exfalso; omega))), hE0⟩

/- laws.a2Scale -/
set_option maxHeartbeats 4000000 in
set_option maxRecDepth 100000 in
theorem c_laws_a2Scale (w : World) (va : Value) (a : List Int) (y : Int) (ha : Rd (rdL rI) w.heap va a) (_hy : -9223372036854775808 ≤ y ∧ y ≤ 9223372036854775807) (hla : a.length ≤ 1000000000000) :
    Calls Try.prog 31 #[va, .int .i64 y] w (fun e w' => ∃ v0 : Value, e = .returned (v0) ∧ Ext w w' ∧ Fr (owL rI 2) w.heap.size w'.heap.size w'.heap v0 (scl a y)) := by
  refine calls_mk [va, .int .i64 y] 24 Try.func31 rfl rfl (by simp) ?_
  have hE0 : Ext w w := Ext.refl w
  have hl_va := ha.lenle
  refine wp_seq ?_
  refine wp_plain _ [0] rfl ?_
  refine q_assign (.slice none 0 0) rfl up_none ?_
  refine lw_nil ?_
  refine wp_seq ?_
  refine wp_plain _ [3, 0] rfl ?_
  refine r_nil (rI) good_rI u29 ti2 up_none ?_
  intro v1 w1 hX1 hz1 hO1
  have hzs1 : w.heap.size ≤ w1.heap.size := hX1.size
  have hE1 : Ext w w1 := hE0.trans hX1
  refine q_assign v1 rfl up_none ?_
  refine lw_nil ?_
  refine wp_seq ?_
  refine wp_seq ?_
  refine wp_plain _ [0] rfl ?_
  refine q_assign (.int .i64 ((0 : Nat) : Int)) rfl up_none ?_
  refine lw_nil ?_
  refine wp_block ?_
  refine c_loop (S := Nat × Value) (fun (⟨k, vo⟩ : Nat × Value) => ([(5, vo), (6, (.int .i64 ((k : Nat) : Int))), (0, va), (1, (.int .i64 y))] : List (Nat × Value))) (fun (⟨k, vo⟩ : Nat × Value) (W : World) => Ext w W ∧ Fr (owL rI 2) w.heap.size W.heap.size W.heap vo ((a.take k).map (fun x => md (x * y))) ∧ k ≤ a.length) (fun (⟨k, vo⟩ : Nat × Value) => a.length - k) (0, v1) ⟨rfl, rfl, rfl, rfl, trivial⟩ ⟨hE1, hO1.up o1, (by first | omega | assumption | (simp only [List.length_nil, List.length_cons, List.length_append, List.length_set, List.length_replicate]; omega) | (simp [List.length_nil, List.length_cons, List.length_append, List.length_set, List.length_replicate]; done) | (simp [List.length_nil, List.length_cons, List.length_append, List.length_set, List.length_replicate]; omega))⟩ ?_
  clear hE0 hO1 hz1 hX1 hzs1 hE1
  rintro ⟨k, vo⟩ ρ2 w2 ⟨hE2, hL2_0, hp2_0⟩
  have hzs2 : w.heap.size ≤ w2.heap.size := hE2.size
  refine wp_seq ?_
  refine wp_seq ?_
  refine wp_plain _ [0, 0, 0, 0] rfl ?_
  refine q_move (.int .i64 ((k : Nat) : Int)) rfl up_none ?_
  refine q_move va rfl up_none ?_
  refine q_len (v := va) u29 rfl ha.isSl up_none ?_
  by_cases hc3 : ((k : Nat) : Int) < ((a.length : Nat) : Int)
  ·
    refine q_lss true rfl rfl (decide_eq_true hc3) up_none ?_
    refine lw_nil ?_
    refine c_cond_t rfl ?_
    refine wp_skip ?_
    refine wp_seq ?_
    refine wp_block ?_
    refine wp_plain _ [0, 0, 0, 0, 2, 0, 0, 3, 4, 0] rfl ?_
    refine q_move vo rfl up_none ?_
    refine q_move va rfl up_none ?_
    refine q_move (.int .i64 ((k : Nat) : Int)) rfl up_none ?_
    refine q_idx (v := va) k u29 ti2 rfl rfl ha.isSl rfl (by first | omega | assumption | (simp only [List.length_nil, List.length_cons, List.length_append, List.length_set, List.length_replicate]; omega) | (simp [List.length_nil, List.length_cons, List.length_append, List.length_set, List.length_replicate]; done) | (simp [List.length_nil, List.length_cons, List.length_append, List.length_set, List.length_replicate]; omega)) up_none ?_
    refine q_load (p := eptr va k 1) (.inr rfl) (.int .i64 (a.getD k 0)) one2 rfl (ldH_ext hE2 (ha.getI (by first | omega | assumption | (simp only [List.length_nil, List.length_cons, List.length_append, List.length_set, List.length_replicate]; omega) | (simp [List.length_nil, List.length_cons, List.length_append, List.length_set, List.length_replicate]; done) | (simp [List.length_nil, List.length_cons, List.length_append, List.length_set, List.length_replicate]; omega))).1) up_none ?_
    refine q_move (.int .i64 y) rfl up_none ?_
    refine lw_callq 40 [] [] [(.int .i64 (a.getD k 0)), (.int .i64 y)] rfl rfl cf40 up_none (.int .i64 (md ((a.getD k 0) * y))) (fun wq => c_spec_Times wq _ _ (ha.getI (by first | omega | assumption | (simp only [List.length_nil, List.length_cons, List.length_append, List.length_set, List.length_replicate]; omega) | (simp [List.length_nil, List.length_cons, List.length_append, List.length_set, List.length_replicate]; done) | (simp [List.length_nil, List.length_cons, List.length_append, List.length_set, List.length_replicate]; omega))).2 _hy) ?_
    refine r_one (u := (.int .i64 (md ((a.getD k 0) * y)))) (B := w2.heap.size) good_rI u29 ti2 rfl rfl (frI w2.heap.size w2.heap.size _ _ (md_rng _)) (Nat.le_refl _) up_none ?_
    intro v5 w5 hX5 hz5 hO5
    have hzs5 : w2.heap.size ≤ w5.heap.size := hX5.size
    have hE5 : Ext w w5 := hE2.trans hX5
    have hL2_0x5 := hL2_0.ext (o1) hX5
    refine e_appI (v := vo) (a := v5) u29 ti2 rfl rfl rfl hL2_0x5 hE5.size hO5.rd1 (by first | omega | assumption | (simp only [List.length_nil, List.length_cons, List.length_append, List.length_set, List.length_replicate]; omega) | (simp [List.length_nil, List.length_cons, List.length_append, List.length_set, List.length_replicate]; done) | (simp [List.length_nil, List.length_cons, List.length_append, List.length_set, List.length_replicate]; omega)) (by unfold maxLen; first | omega | assumption | (simp only [List.length_nil, List.length_cons, List.length_append, List.length_set, List.length_replicate]; omega) | (simp [List.length_nil, List.length_cons, List.length_append, List.length_set, List.length_replicate]; done) | (simp [List.length_nil, List.length_cons, List.length_append, List.length_set, List.length_replicate]; omega)) up_none ?_
    intro v6 w6 F6 hC6 hF6 hO6
    have hE6 : Ext w w6 := hC6.below hE5 (fun c hc => Nat.le_trans (Nat.le_refl _) (hF6 c hc).1) hE5.size
    have hzs6 : w5.heap.size ≤ w6.heap.size := hC6.size
    have hF7 := hO5.chg (o1) hC6 (fun c hc => by have := hF6 c hc; omega)
    refine q_assign v6 rfl up_none ?_
    refine lw_nil ?_
    refine wp_plain _ [0, 0, 0] rfl ?_
    refine q_move (.int .i64 ((k : Nat) : Int)) rfl up_none ?_
    refine q_add ((k + 1 : Nat) : Int) rfl rfl (w64n (by omega) (by first | omega | assumption | (simp only [List.length_nil, List.length_cons, List.length_append, List.length_set, List.length_replicate]; omega) | (simp [List.length_nil, List.length_cons, List.length_append, List.length_set, List.length_replicate]; done) | (simp [List.length_nil, List.length_cons, List.length_append, List.length_set, List.length_replicate]; omega))) up_none ?_
    refine q_assign (.int .i64 ((k + 1 : Nat) : Int)) rfl up_none ?_
    refine lw_nil ?_
    exact ⟨((k + 1), v6), _, rfl, ⟨rfl, rfl, rfl, rfl, trivial⟩, ⟨hE6, (by rw [map_snoc 0 (by omega)]; exact hO6.up o1), (by first | omega | assumption | (simp only [List.length_nil, List.length_cons, List.length_append, List.length_set, List.length_replicate]; omega) | (simp [List.length_nil, List.length_cons, List.length_append, List.length_set, List.length_replicate]; done) | (simp [List.length_nil, List.length_cons, List.length_append, List.length_set, List.length_replicate]; omega))⟩, by first | omega | (dsimp only; omega)⟩
  ·
    refine q_lss false rfl rfl (decide_eq_false hc3) up_none ?_
    refine lw_nil ?_
    refine c_cond_f rfl ?_
    refine wp_exit ?_
    refine t_exit ?_
    refine t_exit ?_
    refine c_exit_here ?_
    refine wp_seq ?_
    refine wp_plain _ [0, 0] rfl ?_
    refine q_move vo rfl up_none ?_
    refine q_assign vo rfl up_none ?_
    refine lw_nil ?_
    refine wp_ret ?_
    exact post_ret [4] rfl vo rfl ⟨vo, rfl, hE2, (by have h := hL2_0.up o1; rwa [List.take_of_length_le (by omega)] at h)⟩

/- laws.a2Begin -/
set_option maxHeartbeats 4000000 in
set_option maxRecDepth 100000 in
theorem c_laws_a2Begin (w : World) (va : Value) (a : List Int) (x : Int) (ha : Rd (rdL rI) w.heap va a) (_hx : -9223372036854775808 ≤ x ∧ x ≤ 9223372036854775807) (hla : a.length ≤ 1000000000000) :
    Calls Try.prog 33 #[va, .int .i64 x] w (fun e w' => ∃ v0 : Value, e = .returned (v0) ∧ Ext w w' ∧ Fr (owL rI 2) w.heap.size w'.heap.size w'.heap v0 (a.set 0 x)) := by
  refine calls_mk [va, .int .i64 x] 16 Try.func33 rfl rfl (by simp) ?_
  have hE0 : Ext w w := Ext.refl w
  have hl_va := ha.lenle
  refine wp_seq ?_
  refine wp_plain _ [0] rfl ?_
  refine q_assign (.slice none 0 0) rfl up_none ?_
  refine lw_nil ?_
  refine wp_seq ?_
  refine wp_plain _ [3, 0, 4, 0] rfl ?_
  refine r_nil (rI) good_rI u29 ti2 up_none ?_
  intro v1 w1 hX1 hz1 hO1
  have hzs1 : w.heap.size ≤ w1.heap.size := hX1.size
  have hE1 : Ext w w1 := hE0.trans hX1
  refine q_move va rfl up_none ?_
  refine e_appI (v := v1) (a := va) u29 ti2 rfl rfl rfl hO1 hE1.size (ha.ext g1 hE1) (by first | omega | assumption | (simp only [List.length_nil, List.length_cons, List.length_append, List.length_set, List.length_replicate]; omega) | (simp [List.length_nil, List.length_cons, List.length_append, List.length_set, List.length_replicate]; done) | (simp [List.length_nil, List.length_cons, List.length_append, List.length_set, List.length_replicate]; omega)) (by unfold maxLen; first | omega | assumption | (simp only [List.length_nil, List.length_cons, List.length_append, List.length_set, List.length_replicate]; omega) | (simp [List.length_nil, List.length_cons, List.length_append, List.length_set, List.length_replicate]; done) | (simp [List.length_nil, List.length_cons, List.length_append, List.length_set, List.length_replicate]; omega)) up_none ?_
  intro v2 w2 F2 hC2 hF2 hO2
  have hE2 : Ext w w2 := hC2.below hE1 (fun c hc => Nat.le_trans (Nat.le_refl _) (hF2 c hc).1) hE1.size
  have hzs2 : w1.heap.size ≤ w2.heap.size := hC2.size
  refine q_assign v2 rfl up_none ?_
  refine lw_nil ?_
  refine wp_seq ?_
  refine wp_seq ?_
  refine wp_plain _ [0, 0, 0] rfl ?_
  refine q_move v2 rfl up_none ?_
  refine q_len (v := v2) u29 rfl hO2.isSl up_none ?_
  by_cases hc3 : ((0 : Nat) : Int) < (((([] : List Int) ++ a).length : Nat) : Int)
  ·
    refine q_gtr true rfl rfl (decide_eq_true hc3) up_none ?_
    refine lw_nil ?_
    refine c_cond_t rfl ?_
    refine wp_plain _ [0, 0, 0, 4] rfl ?_
    refine q_move v2 rfl up_none ?_
    refine q_move (.int .i64 x) rfl up_none ?_
    refine q_idx (v := v2) 0 u29 ti2 rfl rfl hO2.isSl rfl (by first | omega | assumption | (simp only [List.length_nil, List.length_cons, List.length_append, List.length_set, List.length_replicate]; omega) | (simp [List.length_nil, List.length_cons, List.length_append, List.length_set, List.length_replicate]; done) | (simp [List.length_nil, List.length_cons, List.length_append, List.length_set, List.length_replicate]; omega)) up_none ?_
    refine e_setI (v := v2) (w := w2) sz2 rfl rfl _hx hO2 (by first | omega | assumption | (simp only [List.length_nil, List.length_cons, List.length_append, List.length_set, List.length_replicate]; omega) | (simp [List.length_nil, List.length_cons, List.length_append, List.length_set, List.length_replicate]; done) | (simp [List.length_nil, List.length_cons, List.length_append, List.length_set, List.length_replicate]; omega)) up_none ?_
    intro w4 F4 hC4 hz4 hF4 hO4
    have hE4 : Ext w w4 := hC4.below hE2 (fun c hc => Nat.le_trans (Nat.le_refl _) (hF4 c hc).1) hE2.size
    have hzs4 : w2.heap.size ≤ w4.heap.size := hC4.size
    refine lw_nil ?_
    refine wp_seq ?_
    refine wp_plain _ [0, 0] rfl ?_
    refine q_move v2 rfl up_none ?_
    refine q_assign v2 rfl up_none ?_
    refine lw_nil ?_
    refine wp_ret ?_
    exact post_ret [4] rfl v2 rfl ⟨v2, rfl, hE4, (by exact hO4.up o1)⟩
  ·
    refine q_gtr false rfl rfl (decide_eq_false hc3) up_none ?_
    refine lw_nil ?_
    refine c_cond_f rfl ?_
    refine wp_skip ?_
    refine wp_seq ?_
    refine wp_plain _ [0, 0] rfl ?_
    refine q_move v2 rfl up_none ?_
    refine q_assign v2 rfl up_none ?_
    refine lw_nil ?_
    refine wp_ret ?_
    exact post_ret [4] rfl v2 rfl ⟨v2, rfl, hE2, (by have h := hO2.up o1; have hn : a = [] := List.eq_nil_of_length_eq_zero (by simp at *; omega); rw [hn] at h ⊢; exact h)⟩

/- laws.a2Wide -/
set_option maxHeartbeats 4000000 in
set_option maxRecDepth 100000 in
theorem c_laws_a2Wide (w : World) (va : Value) (a : List (List Int)) (n : Int) (m : Int) (ha : Rd (rdL (rdL rI)) w.heap va a) (_hn : -9223372036854775808 ≤ n ∧ n ≤ 9223372036854775807) (_hm : -9223372036854775808 ≤ m ∧ m ≤ 9223372036854775807)  :
    Calls Try.prog 35 #[va, .int .i64 n, .int .i64 m] w (fun e w' => e = .returned (.bool (decide (((a.length : Nat) : Int) = n) && a.all (fun r => decide (((r.length : Nat) : Int) = m)))) ∧ Ext w w') := by
  refine calls_mk [va, .int .i64 n, .int .i64 m] 25 Try.func35 rfl rfl (by simp) ?_
  have hE0 : Ext w w := Ext.refl w
  have hl_va := ha.lenle
  refine wp_seq ?_
  refine wp_plain _ [0] rfl ?_
  refine q_assign (.bool false) rfl up_none ?_
  refine lw_nil ?_
  refine wp_seq ?_
  refine wp_seq ?_
  refine wp_plain _ [0, 0, 0, 0] rfl ?_
  refine q_move va rfl up_none ?_
  refine q_len (v := va) u22 rfl ha.isSl up_none ?_
  refine q_move (.int .i64 n) rfl up_none ?_
  by_cases hc1 : ((a.length : Nat) : Int) ≠ n
  ·
    refine q_neq true rfl rfl (decide_eq_true hc1) up_none ?_
    refine lw_nil ?_
    refine c_cond_t rfl ?_
    refine wp_seq ?_
    refine wp_plain _ [0] rfl ?_
    refine q_assign (.bool false) rfl up_none ?_
    refine lw_nil ?_
    refine wp_ret ?_
    refine t_ret ?_
    exact post_ret [6] rfl (.bool false) rfl ⟨(ret_bool (by rw [decide_eq_false (by omega)]; rfl)), hE0⟩
  ·
    refine q_neq false rfl rfl (decide_eq_false hc1) up_none ?_
    refine lw_nil ?_
    refine c_cond_f rfl ?_
    refine wp_skip ?_
    refine wp_seq ?_
    refine wp_seq ?_
    refine wp_plain _ [0] rfl ?_
    refine q_assign (.int .i64 ((0 : Nat) : Int)) rfl up_none ?_
    refine lw_nil ?_
    refine wp_block ?_
    refine c_loop (S := Nat) (fun (k : Nat) => ([(7, (.int .i64 ((k : Nat) : Int))), (0, va), (2, (.int .i64 m))] : List (Nat × Value))) (fun (k : Nat) (W : World) => Ext w W ∧ k ≤ a.length ∧ ((a.take k).all (fun r => decide (((r.length : Nat) : Int) = m)) = true)) (fun (k : Nat) => a.length - k) 0 ⟨rfl, rfl, rfl, trivial⟩ ⟨hE0, (by first | omega | assumption | (simp only [List.length_nil, List.length_cons, List.length_append, List.length_set, List.length_replicate]; omega) | (simp [List.length_nil, List.length_cons, List.length_append, List.length_set, List.length_replicate]; done) | (simp [List.length_nil, List.length_cons, List.length_append, List.length_set, List.length_replicate]; omega)), (by exact rfl)⟩ ?_
    clear hE0
    rintro k ρ2 w2 ⟨hE2, hp2_0, hq⟩
    have hzs2 : w.heap.size ≤ w2.heap.size := hE2.size
    refine wp_seq ?_
    refine wp_seq ?_
    refine wp_plain _ [0, 0, 0, 0] rfl ?_
    refine q_move (.int .i64 ((k : Nat) : Int)) rfl up_none ?_
    refine q_move va rfl up_none ?_
    refine q_len (v := va) u22 rfl ha.isSl up_none ?_
    by_cases hc3 : ((k : Nat) : Int) < ((a.length : Nat) : Int)
    ·
      refine q_lss true rfl rfl (decide_eq_true hc3) up_none ?_
      refine lw_nil ?_
      refine c_cond_t rfl ?_
      refine wp_skip ?_
      refine wp_seq ?_
      refine wp_block ?_
      refine wp_seq ?_
      refine wp_plain _ [0, 0, 0, 2, 0, 0, 0] rfl ?_
      refine q_move va rfl up_none ?_
      refine q_move (.int .i64 ((k : Nat) : Int)) rfl up_none ?_
      refine q_idx (v := va) k u22 ti29 rfl rfl ha.isSl rfl (by first | omega | assumption | (simp only [List.length_nil, List.length_cons, List.length_append, List.length_set, List.length_replicate]; omega) | (simp [List.length_nil, List.length_cons, List.length_append, List.length_set, List.length_replicate]; done) | (simp [List.length_nil, List.length_cons, List.length_append, List.length_set, List.length_replicate]; omega)) up_none ?_
      obtain ⟨ue4, hl4, hd4⟩ := ha.get (k := k) [] (by first | omega | assumption | (simp only [List.length_nil, List.length_cons, List.length_append, List.length_set, List.length_replicate]; omega) | (simp [List.length_nil, List.length_cons, List.length_append, List.length_set, List.length_replicate]; done) | (simp [List.length_nil, List.length_cons, List.length_append, List.length_set, List.length_replicate]; omega))
      have hln4 := hd4.lenle
      refine q_load (p := eptr va k 1) (.inr rfl) ue4 one29 rfl (ldH_ext hE2 hl4) up_none ?_
      refine q_len (v := ue4) u29 rfl hd4.isSl up_none ?_
      refine q_move (.int .i64 m) rfl up_none ?_
      by_cases hc5 : (((a.getD k []).length : Nat) : Int) ≠ m
      ·
        refine q_neq true rfl rfl (decide_eq_true hc5) up_none ?_
        refine lw_nil ?_
        refine c_cond_t rfl ?_
        refine wp_seq ?_
        refine wp_plain _ [0] rfl ?_
        refine q_assign (.bool false) rfl up_none ?_
        refine lw_nil ?_
        refine wp_ret ?_
        refine b_ret ?_
        refine t_ret ?_
        refine t_ret ?_
        refine b_ret ?_
        refine t_ret ?_
        exact post_ret [6] rfl (.bool false) rfl ⟨(ret_bool (by rw [all_fail (f := fun r => decide (((r.length : Nat) : Int) = m)) (k := k) [] (by omega) (decide_eq_false (by omega)), Bool.and_false])), hE2⟩
      ·
        refine q_neq false rfl rfl (decide_eq_false hc5) up_none ?_
        refine lw_nil ?_
        refine c_cond_f rfl ?_
        refine wp_skip ?_
        refine wp_plain _ [0, 0, 0] rfl ?_
        refine q_move (.int .i64 ((k : Nat) : Int)) rfl up_none ?_
        refine q_add ((k + 1 : Nat) : Int) rfl rfl (w64n (by omega) (by first | omega | assumption | (simp only [List.length_nil, List.length_cons, List.length_append, List.length_set, List.length_replicate]; omega) | (simp [List.length_nil, List.length_cons, List.length_append, List.length_set, List.length_replicate]; done) | (simp [List.length_nil, List.length_cons, List.length_append, List.length_set, List.length_replicate]; omega))) up_none ?_
        refine q_assign (.int .i64 ((k + 1 : Nat) : Int)) rfl up_none ?_
        refine lw_nil ?_
        exact ⟨(k + 1), _, rfl, ⟨rfl, rfl, rfl, trivial⟩, ⟨hE2, (by first | omega | assumption | (simp only [List.length_nil, List.length_cons, List.length_append, List.length_set, List.length_replicate]; omega) | (simp [List.length_nil, List.length_cons, List.length_append, List.length_set, List.length_replicate]; done) | (simp [List.length_nil, List.length_cons, List.length_append, List.length_set, List.length_replicate]; omega)), (by exact all_succ (f := fun r => decide (((r.length : Nat) : Int) = m)) [] hq (by omega) (decide_eq_true (by omega)))⟩, by first | omega | (dsimp only; omega)⟩
    ·
      refine q_lss false rfl rfl (decide_eq_false hc3) up_none ?_
      refine lw_nil ?_
      refine c_cond_f rfl ?_
      refine wp_exit ?_
      refine t_exit ?_
      refine t_exit ?_
      refine c_exit_here ?_
      refine wp_seq ?_
      refine wp_plain _ [0] rfl ?_
      refine q_assign (.bool true) rfl up_none ?_
      refine lw_nil ?_
      refine wp_ret ?_
      exact post_ret [6] rfl (.bool true) rfl ⟨(ret_bool (by rw [all_done hq (by omega), decide_eq_true (by omega)]; rfl)), hE2⟩

/- laws.a2Same -/
set_option maxHeartbeats 4000000 in
set_option maxRecDepth 100000 in
theorem c_laws_a2Same (w : World) (va : Value) (a : List Int) (vb : Value) (b : List Int) (ha : Rd (rdL rI) w.heap va a) (hb : Rd (rdL rI) w.heap vb b)  :
    Calls Try.prog 36 #[va, vb] w (fun e w' => e = .returned (.bool (decide (a = b))) ∧ Ext w w') := by
  refine calls_mk [va, vb] 26 Try.func36 rfl rfl (by simp) ?_
  have hE0 : Ext w w := Ext.refl w
  have hl_va := ha.lenle
  have hl_vb := hb.lenle
  refine wp_seq ?_
  refine wp_plain _ [0] rfl ?_
  refine q_assign (.bool false) rfl up_none ?_
  refine lw_nil ?_
  refine wp_seq ?_
  refine wp_seq ?_
  refine wp_plain _ [0, 0, 0, 0, 0] rfl ?_
  refine q_move va rfl up_none ?_
  refine q_len (v := va) u29 rfl ha.isSl up_none ?_
  refine q_move vb rfl up_none ?_
  refine q_len (v := vb) u29 rfl hb.isSl up_none ?_
  by_cases hc1 : ((a.length : Nat) : Int) ≠ ((b.length : Nat) : Int)
  ·
    refine q_neq true rfl rfl (decide_eq_true hc1) up_none ?_
    refine lw_nil ?_
    refine c_cond_t rfl ?_
    refine wp_seq ?_
    refine wp_plain _ [0] rfl ?_
    refine q_assign (.bool false) rfl up_none ?_
    refine lw_nil ?_
    refine wp_ret ?_
    refine t_ret ?_
    exact post_ret [4] rfl (.bool false) rfl ⟨(ret_bool (decide_eq_false (leq_len (by omega))).symm), hE0⟩
  ·
    refine q_neq false rfl rfl (decide_eq_false hc1) up_none ?_
    refine lw_nil ?_
    refine c_cond_f rfl ?_
    refine wp_skip ?_
    refine wp_seq ?_
    refine wp_seq ?_
    refine wp_plain _ [0] rfl ?_
    refine q_assign (.int .i64 ((0 : Nat) : Int)) rfl up_none ?_
    refine lw_nil ?_
    refine wp_block ?_
    refine c_loop (S := Nat) (fun (k : Nat) => ([(5, (.int .i64 ((k : Nat) : Int))), (0, va), (1, vb)] : List (Nat × Value))) (fun (k : Nat) (W : World) => Ext w W ∧ k ≤ a.length ∧ (∀ j, j < k → a.getD j 0 = b.getD j 0)) (fun (k : Nat) => a.length - k) 0 ⟨rfl, rfl, rfl, trivial⟩ ⟨hE0, (by first | omega | assumption | (simp only [List.length_nil, List.length_cons, List.length_append, List.length_set, List.length_replicate]; omega) | (simp [List.length_nil, List.length_cons, List.length_append, List.length_set, List.length_replicate]; done) | (simp [List.length_nil, List.length_cons, List.length_append, List.length_set, List.length_replicate]; omega)), (by intro j hj; omega)⟩ ?_
    clear hE0
    rintro k ρ2 w2 ⟨hE2, hp2_0, hq⟩
    have hzs2 : w.heap.size ≤ w2.heap.size := hE2.size
    refine wp_seq ?_
    refine wp_seq ?_
    refine wp_plain _ [0, 0, 0, 0] rfl ?_
    refine q_move (.int .i64 ((k : Nat) : Int)) rfl up_none ?_
    refine q_move va rfl up_none ?_
    refine q_len (v := va) u29 rfl ha.isSl up_none ?_
    by_cases hc3 : ((k : Nat) : Int) < ((a.length : Nat) : Int)
    ·
      refine q_lss true rfl rfl (decide_eq_true hc3) up_none ?_
      refine lw_nil ?_
      refine c_cond_t rfl ?_
      refine wp_skip ?_
      refine wp_seq ?_
      refine wp_block ?_
      refine wp_seq ?_
      refine wp_draw _ [0, 0, 0, 1, 0, 0, 0, 1, 0] mixed (by kernel_rfl) ?_
      refine q_move va rfl up_none ?_
      refine q_move (.int .i64 ((k : Nat) : Int)) rfl up_none ?_
      refine q_idx (v := va) k u29 ti2 rfl rfl ha.isSl rfl (by first | omega | assumption | (simp only [List.length_nil, List.length_cons, List.length_append, List.length_set, List.length_replicate]; omega) | (simp [List.length_nil, List.length_cons, List.length_append, List.length_set, List.length_replicate]; done) | (simp [List.length_nil, List.length_cons, List.length_append, List.length_set, List.length_replicate]; omega)) up_none ?_
      refine q_load (p := eptr va k 1) (.inl rfl) (.int .i64 (a.getD k 0)) one2 rfl (ldH_ext hE2.drew (ha.getI (by first | omega | assumption | (simp only [List.length_nil, List.length_cons, List.length_append, List.length_set, List.length_replicate]; omega) | (simp [List.length_nil, List.length_cons, List.length_append, List.length_set, List.length_replicate]; done) | (simp [List.length_nil, List.length_cons, List.length_append, List.length_set, List.length_replicate]; omega))).1) up_none ?_
      refine q_move vb rfl up_none ?_
      refine q_move (.int .i64 ((k : Nat) : Int)) rfl up_none ?_
      refine q_idx (v := vb) k u29 ti2 rfl rfl hb.isSl rfl (by first | omega | assumption | (simp only [List.length_nil, List.length_cons, List.length_append, List.length_set, List.length_replicate]; omega) | (simp [List.length_nil, List.length_cons, List.length_append, List.length_set, List.length_replicate]; done) | (simp [List.length_nil, List.length_cons, List.length_append, List.length_set, List.length_replicate]; omega)) up_none ?_
      refine q_load (p := eptr vb k 1) (.inl rfl) (.int .i64 (b.getD k 0)) one2 rfl (ldH_ext hE2.drew (hb.getI (by first | omega | assumption | (simp only [List.length_nil, List.length_cons, List.length_append, List.length_set, List.length_replicate]; omega) | (simp [List.length_nil, List.length_cons, List.length_append, List.length_set, List.length_replicate]; done) | (simp [List.length_nil, List.length_cons, List.length_append, List.length_set, List.length_replicate]; omega))).1) up_none ?_
      by_cases hc4 : a.getD k 0 ≠ b.getD k 0
      ·
        refine q_neq true rfl rfl (decide_eq_true hc4) up_none ?_
        refine lw_nil ?_
        refine c_cond_t rfl ?_
        refine wp_seq ?_
        refine wp_plain _ [0] rfl ?_
        refine q_assign (.bool false) rfl up_none ?_
        refine lw_nil ?_
        refine wp_ret ?_
        refine b_ret ?_
        refine t_ret ?_
        refine t_ret ?_
        refine b_ret ?_
        refine t_ret ?_
        exact post_ret [4] rfl (.bool false) rfl ⟨(ret_bool (decide_eq_false (leq_fail (d := 0) (k := k) (by omega))).symm), hE2.drew⟩
      ·
        refine q_neq false rfl rfl (decide_eq_false hc4) up_none ?_
        refine lw_nil ?_
        refine c_cond_f rfl ?_
        refine wp_skip ?_
        refine wp_plain _ [0, 0, 0] rfl ?_
        refine q_move (.int .i64 ((k : Nat) : Int)) rfl up_none ?_
        refine q_add ((k + 1 : Nat) : Int) rfl rfl (w64n (by omega) (by first | omega | assumption | (simp only [List.length_nil, List.length_cons, List.length_append, List.length_set, List.length_replicate]; omega) | (simp [List.length_nil, List.length_cons, List.length_append, List.length_set, List.length_replicate]; done) | (simp [List.length_nil, List.length_cons, List.length_append, List.length_set, List.length_replicate]; omega))) up_none ?_
        refine q_assign (.int .i64 ((k + 1 : Nat) : Int)) rfl up_none ?_
        refine lw_nil ?_
        exact ⟨(k + 1), _, rfl, ⟨rfl, rfl, rfl, trivial⟩, ⟨hE2.drew, (by first | omega | assumption | (simp only [List.length_nil, List.length_cons, List.length_append, List.length_set, List.length_replicate]; omega) | (simp [List.length_nil, List.length_cons, List.length_append, List.length_set, List.length_replicate]; done) | (simp [List.length_nil, List.length_cons, List.length_append, List.length_set, List.length_replicate]; omega)), (by exact leq_step hq (by omega))⟩, by first | omega | (dsimp only; omega)⟩
    ·
      refine q_lss false rfl rfl (decide_eq_false hc3) up_none ?_
      refine lw_nil ?_
      refine c_cond_f rfl ?_
      refine wp_exit ?_
      refine t_exit ?_
      refine t_exit ?_
      refine c_exit_here ?_
      refine wp_seq ?_
      refine wp_plain _ [0] rfl ?_
      refine q_assign (.bool true) rfl up_none ?_
      refine lw_nil ?_
      refine wp_ret ?_
      exact post_ret [4] rfl (.bool true) rfl ⟨(ret_bool (decide_eq_true (leq_done hq (by omega) (by omega))).symm), hE2⟩

/- laws.a2Column -/
set_option maxHeartbeats 4000000 in
set_option maxRecDepth 100000 in
theorem c_laws_a2Column (w : World) (va : Value) (a : List (List Int)) (k : Nat) (ha : Rd (rdL (rdL rI)) w.heap va a) (_hk : k ≤ 1000000000000) (hla : a.length ≤ 1000000000000) (h1 : ∀ r, r < a.length → k < (a.getD r []).length) :
    Calls Try.prog 37 #[va, .int .i64 ((k : Nat) : Int)] w (fun e w' => ∃ v0 : Value, e = .returned (v0) ∧ Ext w w' ∧ Fr (owL rI 2) w.heap.size w'.heap.size w'.heap v0 (a.map (fun r => r.getD k 0))) := by
  refine calls_mk [va, .int .i64 ((k : Nat) : Int)] 32 Try.func37 rfl rfl (by simp) ?_
  have hE0 : Ext w w := Ext.refl w
  have hl_va := ha.lenle
  refine wp_seq ?_
  refine wp_plain _ [0] rfl ?_
  refine q_assign (.slice none 0 0) rfl up_none ?_
  refine lw_nil ?_
  refine wp_seq ?_
  refine wp_plain _ [3, 0] rfl ?_
  refine r_nil (rI) good_rI u29 ti2 up_none ?_
  intro v1 w1 hX1 hz1 hO1
  have hzs1 : w.heap.size ≤ w1.heap.size := hX1.size
  have hE1 : Ext w w1 := hE0.trans hX1
  refine q_assign v1 rfl up_none ?_
  refine lw_nil ?_
  refine wp_seq ?_
  refine wp_seq ?_
  refine wp_plain _ [0] rfl ?_
  refine q_assign (.int .i64 ((0 : Nat) : Int)) rfl up_none ?_
  refine lw_nil ?_
  refine wp_block ?_
  refine c_loop (S := Nat × Value) (fun (⟨j, vo⟩ : Nat × Value) => ([(5, vo), (6, (.int .i64 ((j : Nat) : Int))), (0, va), (1, (.int .i64 ((k : Nat) : Int)))] : List (Nat × Value))) (fun (⟨j, vo⟩ : Nat × Value) (W : World) => Ext w W ∧ Fr (owL rI 2) w.heap.size W.heap.size W.heap vo ((a.take j).map (fun r => r.getD k 0)) ∧ j ≤ a.length) (fun (⟨j, vo⟩ : Nat × Value) => a.length - j) (0, v1) ⟨rfl, rfl, rfl, rfl, trivial⟩ ⟨hE1, hO1.up o1, (by first | omega | assumption | (simp only [List.length_nil, List.length_cons, List.length_append, List.length_set, List.length_replicate]; omega) | (simp [List.length_nil, List.length_cons, List.length_append, List.length_set, List.length_replicate]; done) | (simp [List.length_nil, List.length_cons, List.length_append, List.length_set, List.length_replicate]; omega))⟩ ?_
  clear hE0 hO1 hz1 hX1 hzs1 hE1
  rintro ⟨j, vo⟩ ρ2 w2 ⟨hE2, hL2_0, hp2_0⟩
  have hzs2 : w.heap.size ≤ w2.heap.size := hE2.size
  refine wp_seq ?_
  refine wp_seq ?_
  refine wp_plain _ [0, 0, 0, 0] rfl ?_
  refine q_move (.int .i64 ((j : Nat) : Int)) rfl up_none ?_
  refine q_move va rfl up_none ?_
  refine q_len (v := va) u22 rfl ha.isSl up_none ?_
  by_cases hc3 : ((j : Nat) : Int) < ((a.length : Nat) : Int)
  ·
    refine q_lss true rfl rfl (decide_eq_true hc3) up_none ?_
    refine lw_nil ?_
    refine c_cond_t rfl ?_
    refine wp_skip ?_
    refine wp_seq ?_
    refine wp_block ?_
    refine wp_seq ?_
    refine wp_plain _ [0, 0, 0, 0, 2, 0, 0] rfl ?_
    have hr1 := h1 j (by omega)
    refine q_move (.int .i64 ((k : Nat) : Int)) rfl up_none ?_
    refine q_move va rfl up_none ?_
    refine q_move (.int .i64 ((j : Nat) : Int)) rfl up_none ?_
    refine q_idx (v := va) j u22 ti29 rfl rfl ha.isSl rfl (by first | omega | assumption | (simp only [List.length_nil, List.length_cons, List.length_append, List.length_set, List.length_replicate]; omega) | (simp [List.length_nil, List.length_cons, List.length_append, List.length_set, List.length_replicate]; done) | (simp [List.length_nil, List.length_cons, List.length_append, List.length_set, List.length_replicate]; omega)) up_none ?_
    obtain ⟨ue4, hl4, hd4⟩ := ha.get (k := j) [] (by first | omega | assumption | (simp only [List.length_nil, List.length_cons, List.length_append, List.length_set, List.length_replicate]; omega) | (simp [List.length_nil, List.length_cons, List.length_append, List.length_set, List.length_replicate]; done) | (simp [List.length_nil, List.length_cons, List.length_append, List.length_set, List.length_replicate]; omega))
    have hln4 := hd4.lenle
    refine q_load (p := eptr va j 1) (.inr rfl) ue4 one29 rfl (ldH_ext hE2 hl4) up_none ?_
    refine q_len (v := ue4) u29 rfl hd4.isSl up_none ?_
    by_cases hc5 : ((k : Nat) : Int) < (((a.getD j []).length : Nat) : Int)
    ·
      refine q_lss true rfl rfl (decide_eq_true hc5) up_none ?_
      refine lw_nil ?_
      refine c_cond_t rfl ?_
      refine wp_plain _ [0, 0, 0, 0, 2, 0, 0, 2, 3, 4, 0] rfl ?_
      refine q_move vo rfl up_none ?_
      refine q_move va rfl up_none ?_
      refine q_move (.int .i64 ((j : Nat) : Int)) rfl up_none ?_
      refine q_idx (v := va) j u22 ti29 rfl rfl ha.isSl rfl (by first | omega | assumption | (simp only [List.length_nil, List.length_cons, List.length_append, List.length_set, List.length_replicate]; omega) | (simp [List.length_nil, List.length_cons, List.length_append, List.length_set, List.length_replicate]; done) | (simp [List.length_nil, List.length_cons, List.length_append, List.length_set, List.length_replicate]; omega)) up_none ?_
      obtain ⟨ue6, hl6, hd6⟩ := ha.get (k := j) [] (by first | omega | assumption | (simp only [List.length_nil, List.length_cons, List.length_append, List.length_set, List.length_replicate]; omega) | (simp [List.length_nil, List.length_cons, List.length_append, List.length_set, List.length_replicate]; done) | (simp [List.length_nil, List.length_cons, List.length_append, List.length_set, List.length_replicate]; omega))
      have hln6 := hd6.lenle
      refine q_load (p := eptr va j 1) (.inr rfl) ue6 one29 rfl (ldH_ext hE2 hl6) up_none ?_
      refine q_move (.int .i64 ((k : Nat) : Int)) rfl up_none ?_
      refine q_idx (v := ue6) k u29 ti2 rfl rfl hd6.isSl rfl (by first | omega | assumption | (simp only [List.length_nil, List.length_cons, List.length_append, List.length_set, List.length_replicate]; omega) | (simp [List.length_nil, List.length_cons, List.length_append, List.length_set, List.length_replicate]; done) | (simp [List.length_nil, List.length_cons, List.length_append, List.length_set, List.length_replicate]; omega)) up_none ?_
      refine q_load (p := eptr ue6 k 1) (.inr rfl) (.int .i64 ((a.getD j []).getD k 0)) one2 rfl (ldH_ext hE2 (hd6.getI (by first | omega | assumption | (simp only [List.length_nil, List.length_cons, List.length_append, List.length_set, List.length_replicate]; omega) | (simp [List.length_nil, List.length_cons, List.length_append, List.length_set, List.length_replicate]; done) | (simp [List.length_nil, List.length_cons, List.length_append, List.length_set, List.length_replicate]; omega))).1) up_none ?_
      refine r_one (u := (.int .i64 ((a.getD j []).getD k 0))) (B := w2.heap.size) good_rI u29 ti2 rfl rfl (frI w2.heap.size w2.heap.size _ _ (hd6.getI (by first | omega | assumption | (simp only [List.length_nil, List.length_cons, List.length_append, List.length_set, List.length_replicate]; omega) | (simp [List.length_nil, List.length_cons, List.length_append, List.length_set, List.length_replicate]; done) | (simp [List.length_nil, List.length_cons, List.length_append, List.length_set, List.length_replicate]; omega))).2) (Nat.le_refl _) up_none ?_
      intro v7 w7 hX7 hz7 hO7
      have hzs7 : w2.heap.size ≤ w7.heap.size := hX7.size
      have hE7 : Ext w w7 := hE2.trans hX7
      have hL2_0x7 := hL2_0.ext (o1) hX7
      refine e_appI (v := vo) (a := v7) u29 ti2 rfl rfl rfl hL2_0x7 hE7.size hO7.rd1 (by first | omega | assumption | (simp only [List.length_nil, List.length_cons, List.length_append, List.length_set, List.length_replicate]; omega) | (simp [List.length_nil, List.length_cons, List.length_append, List.length_set, List.length_replicate]; done) | (simp [List.length_nil, List.length_cons, List.length_append, List.length_set, List.length_replicate]; omega)) (by unfold maxLen; first | omega | assumption | (simp only [List.length_nil, List.length_cons, List.length_append, List.length_set, List.length_replicate]; omega) | (simp [List.length_nil, List.length_cons, List.length_append, List.length_set, List.length_replicate]; done) | (simp [List.length_nil, List.length_cons, List.length_append, List.length_set, List.length_replicate]; omega)) up_none ?_
      intro v8 w8 F8 hC8 hF8 hO8
      have hE8 : Ext w w8 := hC8.below hE7 (fun c hc => Nat.le_trans (Nat.le_refl _) (hF8 c hc).1) hE7.size
      have hzs8 : w7.heap.size ≤ w8.heap.size := hC8.size
      have hF9 := hO7.chg (o1) hC8 (fun c hc => by have := hF8 c hc; omega)
      refine q_assign v8 rfl up_none ?_
      refine lw_nil ?_
      refine wp_plain _ [0, 0, 0] rfl ?_
      refine q_move (.int .i64 ((j : Nat) : Int)) rfl up_none ?_
      refine q_add ((j + 1 : Nat) : Int) rfl rfl (w64n (by omega) (by first | omega | assumption | (simp only [List.length_nil, List.length_cons, List.length_append, List.length_set, List.length_replicate]; omega) | (simp [List.length_nil, List.length_cons, List.length_append, List.length_set, List.length_replicate]; done) | (simp [List.length_nil, List.length_cons, List.length_append, List.length_set, List.length_replicate]; omega))) up_none ?_
      refine q_assign (.int .i64 ((j + 1 : Nat) : Int)) rfl up_none ?_
      refine lw_nil ?_
      exact ⟨((j + 1), v8), _, rfl, ⟨rfl, rfl, rfl, rfl, trivial⟩, ⟨hE8, (by rw [map_snoc [] (by omega)]; exact hO8.up o1), (by first | omega | assumption | (simp only [List.length_nil, List.length_cons, List.length_append, List.length_set, List.length_replicate]; omega) | (simp [List.length_nil, List.length_cons, List.length_append, List.length_set, List.length_replicate]; done) | (simp [List.length_nil, List.length_cons, List.length_append, List.length_set, List.length_replicate]; omega))⟩, by first | omega | (dsimp only; omega)⟩
    ·
      exact absurd (by omega) hc5
  ·
    refine q_lss false rfl rfl (decide_eq_false hc3) up_none ?_
    refine lw_nil ?_
    refine c_cond_f rfl ?_
    refine wp_exit ?_
    refine t_exit ?_
    refine t_exit ?_
    refine c_exit_here ?_
    refine wp_seq ?_
    refine wp_plain _ [0, 0] rfl ?_
    refine q_move vo rfl up_none ?_
    refine q_assign vo rfl up_none ?_
    refine lw_nil ?_
    refine wp_ret ?_
    exact post_ret [4] rfl vo rfl ⟨vo, rfl, hE2, (by have h := hL2_0.up o1; rwa [List.take_of_length_le (by omega)] at h)⟩

/- laws.a2Add -/
set_option maxHeartbeats 4000000 in
set_option maxRecDepth 100000 in
theorem c_laws_a2Add (w : World) (va : Value) (a : List Int) (vb : Value) (b : List Int) (ha : Rd (rdL rI) w.heap va a) (hb : Rd (rdL rI) w.heap vb b) (hla : a.length ≤ 1000000000000) (hl : b.length = a.length) :
    Calls Try.prog 39 #[va, vb] w (fun e w' => ∃ v0 : Value, e = .returned (v0) ∧ Ext w w' ∧ Fr (owL rI 2) w.heap.size w'.heap.size w'.heap v0 (addS a b)) := by
  refine calls_mk [va, vb] 33 Try.func39 rfl rfl (by simp) ?_
  have hE0 : Ext w w := Ext.refl w
  have hl_va := ha.lenle
  have hl_vb := hb.lenle
  refine wp_seq ?_
  refine wp_plain _ [0] rfl ?_
  refine q_assign (.slice none 0 0) rfl up_none ?_
  refine lw_nil ?_
  refine wp_seq ?_
  refine wp_plain _ [3, 0] rfl ?_
  refine r_nil (rI) good_rI u29 ti2 up_none ?_
  intro v1 w1 hX1 hz1 hO1
  have hzs1 : w.heap.size ≤ w1.heap.size := hX1.size
  have hE1 : Ext w w1 := hE0.trans hX1
  refine q_assign v1 rfl up_none ?_
  refine lw_nil ?_
  refine wp_seq ?_
  refine wp_seq ?_
  refine wp_plain _ [0] rfl ?_
  refine q_assign (.int .i64 ((0 : Nat) : Int)) rfl up_none ?_
  refine lw_nil ?_
  refine wp_block ?_
  refine c_loop (S := Nat × Value) (fun (⟨k, vo⟩ : Nat × Value) => ([(5, vo), (6, (.int .i64 ((k : Nat) : Int))), (0, va), (1, vb)] : List (Nat × Value))) (fun (⟨k, vo⟩ : Nat × Value) (W : World) => Ext w W ∧ Fr (owL rI 2) w.heap.size W.heap.size W.heap vo ((addS a b).take k) ∧ k ≤ a.length) (fun (⟨k, vo⟩ : Nat × Value) => a.length - k) (0, v1) ⟨rfl, rfl, rfl, rfl, trivial⟩ ⟨hE1, hO1.up o1, (by first | omega | assumption | (simp only [List.length_nil, List.length_cons, List.length_append, List.length_set, List.length_replicate]; omega) | (simp [List.length_nil, List.length_cons, List.length_append, List.length_set, List.length_replicate]; done) | (simp [List.length_nil, List.length_cons, List.length_append, List.length_set, List.length_replicate]; omega))⟩ ?_
  clear hE0 hO1 hz1 hX1 hzs1 hE1
  rintro ⟨k, vo⟩ ρ2 w2 ⟨hE2, hL2_0, hp2_0⟩
  have hzs2 : w.heap.size ≤ w2.heap.size := hE2.size
  refine wp_seq ?_
  refine wp_seq ?_
  refine wp_plain _ [0, 0, 0, 0, 0, 0, 0, 0, 0, 0] rfl ?_
  refine q_move (.int .i64 ((k : Nat) : Int)) rfl up_none ?_
  refine q_move va rfl up_none ?_
  refine q_len (v := va) u29 rfl ha.isSl up_none ?_
  by_cases hc3 : ((k : Nat) : Int) < ((a.length : Nat) : Int)
  ·
    refine q_lss true rfl rfl (decide_eq_true hc3) up_none ?_
    refine q_move (.bool true) rfl up_none ?_
    refine q_move (.int .i64 ((k : Nat) : Int)) rfl (up_some (e := 12) rfl rfl rfl) ?_
    refine q_move vb rfl (up_some (e := 12) rfl rfl rfl) ?_
    refine q_len (v := vb) u29 rfl hb.isSl (up_some (e := 12) rfl rfl rfl) ?_
    by_cases hc4 : ((k : Nat) : Int) < ((b.length : Nat) : Int)
    ·
      refine q_lss true rfl rfl (decide_eq_true hc4) (up_some (e := 12) rfl rfl rfl) ?_
      refine q_pick true (.bool true) rfl rfl up_none ?_
      refine lw_nil ?_
      refine c_cond_t rfl ?_
      refine wp_skip ?_
      refine wp_seq ?_
      refine wp_block ?_
      refine wp_draw _ [0, 0, 0, 0, 1, 0, 0, 0, 1, 0, 3, 4, 0] mixed (by kernel_rfl) ?_
      refine q_move vo rfl up_none ?_
      refine q_move va rfl up_none ?_
      refine q_move (.int .i64 ((k : Nat) : Int)) rfl up_none ?_
      refine q_idx (v := va) k u29 ti2 rfl rfl ha.isSl rfl (by first | omega | assumption | (simp only [List.length_nil, List.length_cons, List.length_append, List.length_set, List.length_replicate]; omega) | (simp [List.length_nil, List.length_cons, List.length_append, List.length_set, List.length_replicate]; done) | (simp [List.length_nil, List.length_cons, List.length_append, List.length_set, List.length_replicate]; omega)) up_none ?_
      refine q_load (p := eptr va k 1) (.inl rfl) (.int .i64 (a.getD k 0)) one2 rfl (ldH_ext hE2.drew (ha.getI (by first | omega | assumption | (simp only [List.length_nil, List.length_cons, List.length_append, List.length_set, List.length_replicate]; omega) | (simp [List.length_nil, List.length_cons, List.length_append, List.length_set, List.length_replicate]; done) | (simp [List.length_nil, List.length_cons, List.length_append, List.length_set, List.length_replicate]; omega))).1) up_none ?_
      refine q_move vb rfl up_none ?_
      refine q_move (.int .i64 ((k : Nat) : Int)) rfl up_none ?_
      refine q_idx (v := vb) k u29 ti2 rfl rfl hb.isSl rfl (by first | omega | assumption | (simp only [List.length_nil, List.length_cons, List.length_append, List.length_set, List.length_replicate]; omega) | (simp [List.length_nil, List.length_cons, List.length_append, List.length_set, List.length_replicate]; done) | (simp [List.length_nil, List.length_cons, List.length_append, List.length_set, List.length_replicate]; omega)) up_none ?_
      refine q_load (p := eptr vb k 1) (.inl rfl) (.int .i64 (b.getD k 0)) one2 rfl (ldH_ext hE2.drew (hb.getI (by first | omega | assumption | (simp only [List.length_nil, List.length_cons, List.length_append, List.length_set, List.length_replicate]; omega) | (simp [List.length_nil, List.length_cons, List.length_append, List.length_set, List.length_replicate]; done) | (simp [List.length_nil, List.length_cons, List.length_append, List.length_set, List.length_replicate]; omega))).1) up_none ?_
      refine lw_callq 85 [] [] [(.int .i64 (a.getD k 0)), (.int .i64 (b.getD k 0))] rfl rfl cf85 up_none (.int .i64 (md ((a.getD k 0) + (b.getD k 0)))) (fun wq => c_spec_Plus wq _ _ (ha.getI (by first | omega | assumption | (simp only [List.length_nil, List.length_cons, List.length_append, List.length_set, List.length_replicate]; omega) | (simp [List.length_nil, List.length_cons, List.length_append, List.length_set, List.length_replicate]; done) | (simp [List.length_nil, List.length_cons, List.length_append, List.length_set, List.length_replicate]; omega))).2 (hb.getI (by first | omega | assumption | (simp only [List.length_nil, List.length_cons, List.length_append, List.length_set, List.length_replicate]; omega) | (simp [List.length_nil, List.length_cons, List.length_append, List.length_set, List.length_replicate]; done) | (simp [List.length_nil, List.length_cons, List.length_append, List.length_set, List.length_replicate]; omega))).2) ?_
      refine r_one (u := (.int .i64 (md ((a.getD k 0) + (b.getD k 0))))) (B := w2.heap.size) good_rI u29 ti2 rfl rfl (frI w2.heap.size w2.heap.size _ _ (md_rng _)) (Nat.le_refl _) up_none ?_
      intro v6 w6 hX6 hz6 hO6
      replace hX6 := hX6.of_drew
      have hzs6 : w2.heap.size ≤ w6.heap.size := hX6.size
      have hE6 : Ext w w6 := hE2.trans hX6
      have hL2_0x6 := hL2_0.ext (o1) hX6
      refine e_appI (v := vo) (a := v6) u29 ti2 rfl rfl rfl hL2_0x6 hE6.size hO6.rd1 (by first | omega | assumption | (simp only [List.length_nil, List.length_cons, List.length_append, List.length_set, List.length_replicate]; omega) | (simp [List.length_nil, List.length_cons, List.length_append, List.length_set, List.length_replicate]; done) | (simp [List.length_nil, List.length_cons, List.length_append, List.length_set, List.length_replicate]; omega)) (by unfold maxLen; first | omega | assumption | (simp only [List.length_nil, List.length_cons, List.length_append, List.length_set, List.length_replicate]; omega) | (simp [List.length_nil, List.length_cons, List.length_append, List.length_set, List.length_replicate]; done) | (simp [List.length_nil, List.length_cons, List.length_append, List.length_set, List.length_replicate]; omega)) up_none ?_
      intro v7 w7 F7 hC7 hF7 hO7
      have hE7 : Ext w w7 := hC7.below hE6 (fun c hc => Nat.le_trans (Nat.le_refl _) (hF7 c hc).1) hE6.size
      have hzs7 : w6.heap.size ≤ w7.heap.size := hC7.size
      have hF8 := hO6.chg (o1) hC7 (fun c hc => by have := hF7 c hc; omega)
      refine q_assign v7 rfl up_none ?_
      refine lw_nil ?_
      refine wp_plain _ [0, 0, 0] rfl ?_
      refine q_move (.int .i64 ((k : Nat) : Int)) rfl up_none ?_
      refine q_add ((k + 1 : Nat) : Int) rfl rfl (w64n (by omega) (by first | omega | assumption | (simp only [List.length_nil, List.length_cons, List.length_append, List.length_set, List.length_replicate]; omega) | (simp [List.length_nil, List.length_cons, List.length_append, List.length_set, List.length_replicate]; done) | (simp [List.length_nil, List.length_cons, List.length_append, List.length_set, List.length_replicate]; omega))) up_none ?_
      refine q_assign (.int .i64 ((k + 1 : Nat) : Int)) rfl up_none ?_
      refine lw_nil ?_
      exact ⟨((k + 1), v7), _, rfl, ⟨rfl, rfl, rfl, rfl, trivial⟩, ⟨hE7, (by rw [take_snoc 0 (by simp; omega), show (addS a b).getD k 0 = _ from tab_get 0 (by omega)]; exact hO7.up o1), (by first | omega | assumption | (simp only [List.length_nil, List.length_cons, List.length_append, List.length_set, List.length_replicate]; omega) | (simp [List.length_nil, List.length_cons, List.length_append, List.length_set, List.length_replicate]; done) | (simp [List.length_nil, List.length_cons, List.length_append, List.length_set, List.length_replicate]; omega))⟩, by first | omega | (dsimp only; omega)⟩
    ·
      refine q_lss false rfl rfl (decide_eq_false hc4) (up_some (e := 12) rfl rfl rfl) ?_
      refine q_pick true (.bool false) rfl rfl up_none ?_
      refine lw_nil ?_
      refine c_cond_f rfl ?_
      refine wp_exit ?_
      refine t_exit ?_
      refine t_exit ?_
      refine c_exit_here ?_
      refine wp_seq ?_
      refine wp_plain _ [0, 0] rfl ?_
      refine q_move vo rfl up_none ?_
      refine q_assign vo rfl up_none ?_
      refine lw_nil ?_
      refine wp_ret ?_
      exact post_ret [4] rfl vo rfl ⟨vo, rfl, hE2, (by have h := hL2_0.up o1; rwa [List.take_of_length_le (by simp; omega)] at h)⟩
  ·
    refine q_lss false rfl rfl (decide_eq_false hc3) up_none ?_
    refine q_move (.bool false) rfl up_none ?_
    refine lw_skip (e := 12) (c := false) rfl rfl rfl rfl ?_
    refine lw_skip (e := 12) (c := false) rfl rfl rfl rfl ?_
    refine lw_skip (e := 12) (c := false) rfl rfl rfl rfl ?_
    refine lw_skip (e := 12) (c := false) rfl rfl rfl rfl ?_
    refine q_pick false (.bool false) rfl rfl up_none ?_
    refine lw_nil ?_
    refine c_cond_f rfl ?_
    refine wp_exit ?_
    refine t_exit ?_
    refine t_exit ?_
    refine c_exit_here ?_
    refine wp_seq ?_
    refine wp_plain _ [0, 0] rfl ?_
    refine q_move vo rfl up_none ?_
    refine q_assign vo rfl up_none ?_
    refine lw_nil ?_
    refine wp_ret ?_
    exact post_ret [4] rfl vo rfl ⟨vo, rfl, hE2, (by have h := hL2_0.up o1; rwa [List.take_of_length_le (by simp; omega)] at h)⟩

/- impl.areSeries -/
set_option maxHeartbeats 4000000 in
set_option maxRecDepth 100000 in
theorem c_impl_areSeries (w : World) (va : Value) (a : List Int) (vb : Value) (b : List Int) (ha : Rd (rdL rI) w.heap va a) (hb : Rd (rdL rI) w.heap vb b) (hka : okS a = true) (hkb : okS b = true) (hl : b.length = a.length) :
    Calls Try.prog 83 #[va, vb] w (fun e w' => e = .returned (.int .i64 0) ∧ Ext w w') := by
  refine calls_mk [va, vb] 20 Try.func83 rfl rfl (by simp) ?_
  have hE0 : Ext w w := Ext.refl w
  have hl_va := ha.lenle
  have hl_vb := hb.lenle
  refine wp_seq ?_
  refine wp_plain _ [0] rfl ?_
  refine q_assign (.int .i64 ((0 : Nat) : Int)) rfl up_none ?_
  refine lw_nil ?_
  refine wp_seq ?_
  refine wp_block ?_
  refine wp_seq ?_
  refine wp_plain _ [0, 3, 0, 0, 0, 3, 0, 0, 0] rfl ?_
  refine q_move va rfl up_none ?_
  refine lw_call 92 [] [] [va] rfl rfl cf92 up_none (c_impl_ValidSeries _ _ _ (ha.ext g1 hE0)) ?_
  rintro e1 w1 ⟨rfl, hX1⟩
  refine ⟨_, rfl, hX1, ?_⟩
  have hzs1 : w.heap.size ≤ w1.heap.size := hX1.size
  have hE1 : Ext w w1 := hE0.trans hX1
  refine q_not (!(okS a)) rfl rfl up_none ?_
  refine q_move (.bool (!(okS a))) rfl up_none ?_
  cases hb2 : (!(okS a))
  ·
    refine q_move vb rfl (up_some (e := 9) rfl rfl rfl) ?_
    refine lw_call 92 [] [] [vb] rfl rfl cf92 (up_some (e := 9) rfl rfl rfl) (c_impl_ValidSeries _ _ _ (hb.ext g1 hE1)) ?_
    rintro e3 w3 ⟨rfl, hX3⟩
    refine ⟨_, rfl, hX3, ?_⟩
    have hzs3 : w1.heap.size ≤ w3.heap.size := hX3.size
    have hE3 : Ext w w3 := hE1.trans hX3
    refine q_not (!(okS b)) rfl rfl (up_some (e := 9) rfl rfl rfl) ?_
    refine q_pick false (.bool (!(okS b))) rfl rfl up_none ?_
    refine q_assign (.bool (!(okS b))) rfl up_none ?_
    refine lw_nil ?_
    cases hb4 : (!(okS b))
    ·
      refine c_cond_f (by first | rfl | (show Value.bool _ = _; rw [hb4])) ?_
      refine wp_seq ?_
      refine wp_plain _ [0, 0, 0, 0, 0, 0] rfl ?_
      refine q_move va rfl up_none ?_
      refine q_len (v := va) u29 rfl ha.isSl up_none ?_
      refine q_move vb rfl up_none ?_
      refine q_len (v := vb) u29 rfl hb.isSl up_none ?_
      by_cases hc5 : ((a.length : Nat) : Int) ≠ ((b.length : Nat) : Int)
      ·
        refine q_neq true rfl rfl (decide_eq_true hc5) up_none ?_
        refine q_assign (.bool true) rfl up_none ?_
        refine lw_nil ?_
        refine c_cond_t rfl ?_
        refine wp_seq ?_
        refine wp_plain _ [0] rfl ?_
        refine q_assign (.int .i64 ((2 : Nat) : Int)) rfl up_none ?_
        refine lw_nil ?_
        refine wp_ret ?_
        refine b_ret ?_
        refine t_ret ?_
        exact post_ret [4] rfl (.int .i64 ((2 : Nat) : Int)) rfl ⟨(by first | rfl | (exfalso; simp_all)), hE3⟩
      ·
        refine q_neq false rfl rfl (decide_eq_false hc5) up_none ?_
        refine q_assign (.bool false) rfl up_none ?_
        refine lw_nil ?_
        refine c_cond_f rfl ?_
        refine wp_skip ?_
        refine wp_seq ?_
        refine wp_plain _ [0] rfl ?_
        refine q_assign (.int .i64 ((0 : Nat) : Int)) rfl up_none ?_
        refine lw_nil ?_
        refine wp_ret ?_
        exact post_ret [4] rfl (.int .i64 ((0 : Nat) : Int)) rfl ⟨(by first | rfl | (exfalso; simp_all)), hE3⟩
    ·
      refine c_cond_t (by first | rfl | (show Value.bool _ = _; rw [hb4])) ?_
      refine wp_seq ?_
      refine wp_plain _ [0] rfl ?_
      refine q_assign (.int .i64 ((1 : Nat) : Int)) rfl up_none ?_
      refine lw_nil ?_
      refine wp_ret ?_
      refine b_ret ?_
      refine t_ret ?_
      exact post_ret [4] rfl (.int .i64 ((1 : Nat) : Int)) rfl ⟨(by first | rfl | (exfalso; simp_all)), hE3⟩
  ·
    refine lw_skip (e := 9) (c := true) rfl rfl rfl rfl ?_
    refine lw_skip (e := 9) (c := true) rfl rfl rfl rfl ?_
    refine lw_skip (e := 9) (c := true) rfl rfl rfl rfl ?_
    refine q_pick true (.bool true) rfl rfl up_none ?_
    refine q_assign (.bool true) rfl up_none ?_
    refine lw_nil ?_
    refine c_cond_t rfl ?_
    refine wp_seq ?_
    refine wp_plain _ [0] rfl ?_
    refine q_assign (.int .i64 ((1 : Nat) : Int)) rfl up_none ?_
    refine lw_nil ?_
    refine wp_ret ?_
    refine b_ret ?_
    refine t_ret ?_
    exact post_ret [4] rfl (.int .i64 ((1 : Nat) : Int)) rfl ⟨(by first | rfl | (exfalso; simp_all)), hE1⟩

/- impl.MulSeries -/
set_option maxHeartbeats 4000000 in
set_option maxRecDepth 100000 in
theorem c_impl_MulSeries (w : World) (va : Value) (a : List Int) (vb : Value) (b : List Int) (ha : Rd (rdL rI) w.heap va a) (hb : Rd (rdL rI) w.heap vb b) (hka : okS a = true) (hkb : okS b = true) (hl : b.length = a.length) :
    Calls Try.prog 38 #[va, vb] w (fun e w' => ∃ v0 : Value, e = .returned (.tuple #[v0, .int .i64 0]) ∧ Ext w w' ∧ Fr (owL rI 2) w.heap.size w'.heap.size w'.heap v0 (proS a b)) := by
  refine calls_mk [va, vb] 16 Try.func38 rfl rfl (by simp) ?_
  have hE0 : Ext w w := Ext.refl w
  have hl_va := ha.lenle
  have hl_vb := hb.lenle
  refine wp_seq ?_
  refine wp_plain _ [0, 0] rfl ?_
  refine q_assign (.slice none 0 0) rfl up_none ?_
  refine q_assign (.int .i64 ((0 : Nat) : Int)) rfl up_none ?_
  refine lw_nil ?_
  refine wp_seq ?_
  refine wp_seq ?_
  refine wp_plain _ [0, 0, 3, 0] rfl ?_
  refine q_move va rfl up_none ?_
  refine q_move vb rfl up_none ?_
  refine lw_call 83 [] [] [va, vb] rfl rfl cf83 up_none (c_impl_areSeries _ _ _ _ _ (ha.ext g1 hE0) (hb.ext g1 hE0) (by exact hka) (by exact hkb) (by exact hl)) ?_
  rintro e1 w1 ⟨rfl, hX1⟩
  refine ⟨_, rfl, hX1, ?_⟩
  have hzs1 : w.heap.size ≤ w1.heap.size := hX1.size
  have hE1 : Ext w w1 := hE0.trans hX1
  refine q_assign (.int .i64 0) rfl up_none ?_
  refine lw_nil ?_
  refine wp_seq ?_
  refine wp_plain _ [0, 0] rfl ?_
  refine q_move (.int .i64 0) rfl up_none ?_
  by_cases hc2 : 0 ≠ ((0 : Nat) : Int)
  ·
    refine q_neq true rfl rfl (decide_eq_true hc2) up_none ?_
    refine lw_nil ?_
    refine c_cond_t rfl ?_
    refine wp_seq ?_
    refine wp_plain _ [0, 0, 0] rfl ?_
    refine q_move (.int .i64 0) rfl up_none ?_
    refine q_assign (.slice none 0 0) rfl up_none ?_
    refine q_assign (.int .i64 0) rfl up_none ?_
    refine lw_nil ?_
    refine wp_ret ?_
    refine t_ret ?_
    exact post_ret [4, 5] rfl (.tuple #[(.slice none 0 0), (.int .i64 0)]) rfl ⟨(.slice none 0 0), (by first | rfl | (exfalso; omega)), hE1, (by first | exact frNil _ _ _ | (exfalso; omega))⟩
  ·
    refine q_neq false rfl rfl (decide_eq_false hc2) up_none ?_
    refine lw_nil ?_
    refine c_cond_f rfl ?_
    refine wp_skip ?_
    refine wp_seq ?_
    refine wp_plain _ [0, 0, 3, 0, 0] rfl ?_
    have h1 := okS_iff.1 hka
    have h2 := okS_iff.1 hkb
    refine q_move va rfl up_none ?_
    refine q_move vb rfl up_none ?_
    refine lw_call 84 [] [] [va, vb] rfl rfl cf84 up_none (c_impl_product _ _ _ _ _ (ha.ext g1 hE1) (hb.ext g1 hE1) (by omega) (by omega) (by exact h1.2) (by exact h2.2)) ?_
    rintro e3 w3 ⟨v3_0, rfl, hX3, hO3_0⟩
    refine ⟨_, rfl, hX3, ?_⟩
    have hzs3 : w1.heap.size ≤ w3.heap.size := hX3.size
    have hE3 : Ext w w3 := hE1.trans hX3
    refine q_assign v3_0 rfl up_none ?_
    refine q_assign (.int .i64 ((0 : Nat) : Int)) rfl up_none ?_
    refine lw_nil ?_
    refine wp_ret ?_
    exact post_ret [4, 5] rfl (.tuple #[v3_0, (.int .i64 ((0 : Nat) : Int))]) rfl ⟨v3_0, (by first | rfl | (exfalso; omega)), hE3, (by first | exact (hO3_0.up o1).low hE1.size | (exfalso; omega))⟩
end Go.Proofs.Ytjgnlnlngcjfcaa
