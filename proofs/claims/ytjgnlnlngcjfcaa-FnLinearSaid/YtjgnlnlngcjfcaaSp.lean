/- Contracts of functions: each says what the function returns for all arguments that meet its premises. Printed by gen.py. -/
import Derived.Test.YtjgnlnlngcjfcaaMi
import Derived.Test.YtjgnlnlngcjfcaaT
import Derived.Test.YtjgnlnlngcjfcaaSa
import Derived.Test.YtjgnlnlngcjfcaaSb
import Derived.Test.YtjgnlnlngcjfcaaSc
import Derived.Test.YtjgnlnlngcjfcaaSd
import Derived.Test.YtjgnlnlngcjfcaaSk
import Derived.Test.YtjgnlnlngcjfcaaSl
import Derived.Test.YtjgnlnlngcjfcaaSm
import Derived.Test.YtjgnlnlngcjfcaaProg
namespace Go.Proofs.Ytjgnlnlngcjfcaa
open Go Go.RowKit
set_option linter.unusedVariables false
set_option linter.unusedSimpArgs false
attribute [local irreducible] LW
/- spec.l03Unit -/
set_option maxHeartbeats 4000000 in
set_option maxRecDepth 100000 in
theorem c_spec_l03Unit (w : World) (n : Nat) (k : Int) (_hn : n ≤ 1000000000000) (_hk : -9223372036854775808 ≤ k ∧ k ≤ 9223372036854775807) (hn : n ≤ 1000) (hk : 0 ≤ k ∧ k < (n : Int)) :
    Calls Try.prog 110 #[.int .i64 ((n : Nat) : Int), .int .i64 k] w (fun e w' => ∃ v0 : Value, e = .returned (v0) ∧ Ext w w' ∧ Fr (owL rI 2) w.heap.size w'.heap.size w'.heap v0 (uN n k.toNat)) := by
  refine calls_mk [.int .i64 ((n : Nat) : Int), .int .i64 k] 12 Try.func110 rfl rfl (by simp) ?_
  have hE0 : Ext w w := Ext.refl w
  refine wp_seq ?_
  refine wp_plain _ [0] rfl ?_
  refine q_assign (.slice none 0 0) rfl up_none ?_
  refine lw_nil ?_
  refine wp_seq ?_
  refine wp_plain _ [0, 3, 0] rfl ?_
  refine q_move (.int .i64 ((n : Nat) : Int)) rfl up_none ?_
  refine r_make (n := n) u29 ti2 rfl rfl rfl (by first | omega | assumption | (simp only [List.length_nil, List.length_cons, List.length_append, List.length_set, List.length_replicate]; omega) | (simp [List.length_nil, List.length_cons, List.length_append, List.length_set, List.length_replicate]; done) | (simp [List.length_nil, List.length_cons, List.length_append, List.length_set, List.length_replicate]; omega)) up_none ?_
  intro v1 w1 hX1 hz1 hO1
  have hzs1 : w.heap.size ≤ w1.heap.size := hX1.size
  have hE1 : Ext w w1 := hE0.trans hX1
  refine q_assign v1 rfl up_none ?_
  refine lw_nil ?_
  refine wp_seq ?_
  refine wp_plain _ [0, 0, 0, 4] rfl ?_
  refine q_move v1 rfl up_none ?_
  refine q_move (.int .i64 k) rfl up_none ?_
  refine q_idx (v := v1) ((k).toNat) u29 ti2 rfl rfl hO1.isSl (by omega) (by first | omega | assumption | (simp only [List.length_nil, List.length_cons, List.length_append, List.length_set, List.length_replicate]; omega) | (simp [List.length_nil, List.length_cons, List.length_append, List.length_set, List.length_replicate]; done) | (simp [List.length_nil, List.length_cons, List.length_append, List.length_set, List.length_replicate]; omega)) up_none ?_
  refine e_setI (v := v1) (w := w1) sz2 rfl rfl (by omega) hO1 (by first | omega | assumption | (simp only [List.length_nil, List.length_cons, List.length_append, List.length_set, List.length_replicate]; omega) | (simp [List.length_nil, List.length_cons, List.length_append, List.length_set, List.length_replicate]; done) | (simp [List.length_nil, List.length_cons, List.length_append, List.length_set, List.length_replicate]; omega)) up_none ?_
  intro w2 F2 hC2 hz2 hF2 hO2
  have hE2 : Ext w w2 := hC2.below hE1 (fun c hc => Nat.le_trans (Nat.le_refl _) (hF2 c hc).1) hE1.size
  have hzs2 : w1.heap.size ≤ w2.heap.size := hC2.size
  refine lw_nil ?_
  refine wp_seq ?_
  refine wp_plain _ [0, 0] rfl ?_
  refine q_move v1 rfl up_none ?_
  refine q_assign v1 rfl up_none ?_
  refine lw_nil ?_
  refine wp_ret ?_
  exact post_ret [4] rfl v1 rfl ⟨v1, rfl, hE2, (by exact hO2.up o1)⟩

/- impl.unit -/
set_option maxHeartbeats 4000000 in
set_option maxRecDepth 100000 in
theorem c_impl_unit (w : World) (n : Nat) (vp : Value) (ps : List Int) (_hn : n ≤ 1000000000000) (hps : Rd (rdL rI) w.heap vp ps) (hn : n ≤ 1000) (hl1 : ps.length = 1) (hk : 0 ≤ ps.getD 0 0 ∧ ps.getD 0 0 < (n : Int)) :
    Calls Try.prog 76 #[.int .i64 ((n : Nat) : Int), vp] w (fun e w' => ∃ v0 : Value, e = .returned (v0) ∧ Ext w w' ∧ Fr (owL rI 2) w.heap.size w'.heap.size w'.heap v0 (uN n (ps.getD 0 0).toNat)) := by
  refine calls_mk [.int .i64 ((n : Nat) : Int), vp] 27 Try.func76 rfl rfl (by simp) ?_
  have hE0 : Ext w w := Ext.refl w
  have hl_vp := hps.lenle
  refine wp_seq ?_
  refine wp_plain _ [0] rfl ?_
  refine q_assign (.slice none 0 0) rfl up_none ?_
  refine lw_nil ?_
  refine wp_seq ?_
  refine wp_plain _ [0, 3, 0] rfl ?_
  refine q_move (.int .i64 ((n : Nat) : Int)) rfl up_none ?_
  refine r_make (n := n) u29 ti2 rfl rfl rfl (by first | omega | assumption | (simp only [List.length_nil, List.length_cons, List.length_append, List.length_set, List.length_replicate]; omega) | (simp [List.length_nil, List.length_cons, List.length_append, List.length_set, List.length_replicate]; done) | (simp [List.length_nil, List.length_cons, List.length_append, List.length_set, List.length_replicate]; omega)) up_none ?_
  intro v1 w1 hX1 hz1 hO1
  have hzs1 : w.heap.size ≤ w1.heap.size := hX1.size
  have hE1 : Ext w w1 := hE0.trans hX1
  refine q_assign v1 rfl up_none ?_
  refine lw_nil ?_
  refine wp_seq ?_
  refine wp_seq ?_
  refine wp_plain _ [0, 0, 0] rfl ?_
  refine q_move vp rfl up_none ?_
  refine q_len (v := vp) u29 rfl hps.isSl up_none ?_
  refine q_move (.int .i64 ((0 : Nat) : Int)) rfl up_none ?_
  refine lw_nil ?_
  refine wp_block ?_
  refine c_loop (S := Nat) (fun (j : Nat) => ([(12, (.int .i64 ((j : Nat) : Int))), (5, v1), (10, vp), (11, (.int .i64 ((ps.length : Nat) : Int)))] : List (Nat × Value))) (fun (j : Nat) (W : World) => Ext w W ∧ Fr (owL rI 2) w.heap.size W.heap.size W.heap v1 (uniP n (ps.getD 0 0).toNat j) ∧ j ≤ 1) (fun (j : Nat) => 1 - j) 0 ⟨rfl, rfl, rfl, rfl, trivial⟩ ⟨hE1, (by exact hO1.up o1), (by first | omega | assumption | (simp only [List.length_nil, List.length_cons, List.length_append, List.length_set, List.length_replicate]; omega) | (simp [List.length_nil, List.length_cons, List.length_append, List.length_set, List.length_replicate]; done) | (simp [List.length_nil, List.length_cons, List.length_append, List.length_set, List.length_replicate]; omega))⟩ ?_
  clear hE0 hO1 hz1 hX1 hzs1 hE1
  rintro j ρ2 w2 ⟨hE2, hL2_0, hp2_0⟩
  have hzs2 : w.heap.size ≤ w2.heap.size := hE2.size
  have hul := uniP_len n (ps.getD 0 0).toNat j
  refine wp_seq ?_
  refine wp_plain _ [0] rfl ?_
  by_cases hc3 : ((j : Nat) : Int) < ((ps.length : Nat) : Int)
  ·
    refine q_lss true rfl rfl (decide_eq_true hc3) up_none ?_
    refine lw_nil ?_
    refine wp_seq ?_
    refine c_cond_t rfl ?_
    refine wp_skip ?_
    refine wp_seq ?_
    refine wp_block ?_
    refine wp_seq ?_
    refine wp_plain _ [0, 2, 0] rfl ?_
    have hj0 : j = 0 := by omega
    have hkj : 0 ≤ ps.getD j 0 ∧ ps.getD j 0 < (n : Int) := by rw [hj0]; exact hk
    refine q_idx (v := vp) j u29 ti2 rfl rfl hps.isSl rfl (by first | omega | assumption | (simp only [List.length_nil, List.length_cons, List.length_append, List.length_set, List.length_replicate]; omega) | (simp [List.length_nil, List.length_cons, List.length_append, List.length_set, List.length_replicate]; done) | (simp [List.length_nil, List.length_cons, List.length_append, List.length_set, List.length_replicate]; omega)) up_none ?_
    refine q_load (p := eptr vp j 1) (.inr rfl) (.int .i64 (ps.getD j 0)) one2 rfl (ldH_ext hE2 (hps.getI (by first | omega | assumption | (simp only [List.length_nil, List.length_cons, List.length_append, List.length_set, List.length_replicate]; omega) | (simp [List.length_nil, List.length_cons, List.length_append, List.length_set, List.length_replicate]; done) | (simp [List.length_nil, List.length_cons, List.length_append, List.length_set, List.length_replicate]; omega))).1) up_none ?_
    refine q_assign (.int .i64 (ps.getD j 0)) rfl up_none ?_
    refine lw_nil ?_
    refine wp_plain _ [0, 0, 0, 0, 0, 2, 0, 0, 0, 4] rfl ?_
    refine q_move v1 rfl up_none ?_
    refine q_move (.int .i64 (ps.getD j 0)) rfl up_none ?_
    refine q_move v1 rfl up_none ?_
    refine q_move (.int .i64 (ps.getD j 0)) rfl up_none ?_
    refine q_idx (v := v1) ((ps.getD j 0).toNat) u29 ti2 rfl rfl hL2_0.isSl (by omega) (by first | omega | assumption | (simp only [List.length_nil, List.length_cons, List.length_append, List.length_set, List.length_replicate]; omega) | (simp [List.length_nil, List.length_cons, List.length_append, List.length_set, List.length_replicate]; done) | (simp [List.length_nil, List.length_cons, List.length_append, List.length_set, List.length_replicate]; omega)) up_none ?_
    refine q_load (p := eptr v1 ((ps.getD j 0).toNat) 1) (.inr rfl) (.int .i64 ((uniP n (ps.getD 0 0).toNat j).getD ((ps.getD j 0).toNat) 0)) one2 rfl (hL2_0.rd1.getI (by first | omega | assumption | (simp only [List.length_nil, List.length_cons, List.length_append, List.length_set, List.length_replicate]; omega) | (simp [List.length_nil, List.length_cons, List.length_append, List.length_set, List.length_replicate]; done) | (simp [List.length_nil, List.length_cons, List.length_append, List.length_set, List.length_replicate]; omega))).1 up_none ?_
    refine q_add (wr (((uniP n (ps.getD 0 0).toNat j).getD ((ps.getD j 0).toNat) 0) + ((1 : Nat) : Int))) rfl rfl rfl up_none ?_
    refine q_rem 1 rfl rfl (by decide) (uni_rem hj0 _) up_none ?_
    refine q_idx (v := v1) ((ps.getD j 0).toNat) u29 ti2 rfl rfl hL2_0.isSl (by omega) (by first | omega | assumption | (simp only [List.length_nil, List.length_cons, List.length_append, List.length_set, List.length_replicate]; omega) | (simp [List.length_nil, List.length_cons, List.length_append, List.length_set, List.length_replicate]; done) | (simp [List.length_nil, List.length_cons, List.length_append, List.length_set, List.length_replicate]; omega)) up_none ?_
    refine e_setI (v := v1) (w := w2) sz2 rfl rfl (by omega) hL2_0 (by first | omega | assumption | (simp only [List.length_nil, List.length_cons, List.length_append, List.length_set, List.length_replicate]; omega) | (simp [List.length_nil, List.length_cons, List.length_append, List.length_set, List.length_replicate]; done) | (simp [List.length_nil, List.length_cons, List.length_append, List.length_set, List.length_replicate]; omega)) up_none ?_
    intro w4 F4 hC4 hz4 hF4 hO4
    have hE4 : Ext w w4 := hC4.below hE2 (fun c hc => Nat.le_trans (Nat.le_refl _) (hF4 c hc).1) hE2.size
    have hzs4 : w2.heap.size ≤ w4.heap.size := hC4.size
    refine lw_nil ?_
    refine wp_plain _ [0, 0] rfl ?_
    refine q_add ((j + 1 : Nat) : Int) rfl rfl (w64n (by omega) (by first | omega | assumption | (simp only [List.length_nil, List.length_cons, List.length_append, List.length_set, List.length_replicate]; omega) | (simp [List.length_nil, List.length_cons, List.length_append, List.length_set, List.length_replicate]; done) | (simp [List.length_nil, List.length_cons, List.length_append, List.length_set, List.length_replicate]; omega))) up_none ?_
    refine q_move (.int .i64 ((j + 1 : Nat) : Int)) rfl up_none ?_
    refine lw_nil ?_
    exact ⟨(j + 1), _, rfl, ⟨rfl, rfl, rfl, rfl, trivial⟩, ⟨hE4, (by have h := hO4.up o1; subst hj0; exact h), (by first | omega | assumption | (simp only [List.length_nil, List.length_cons, List.length_append, List.length_set, List.length_replicate]; omega) | (simp [List.length_nil, List.length_cons, List.length_append, List.length_set, List.length_replicate]; done) | (simp [List.length_nil, List.length_cons, List.length_append, List.length_set, List.length_replicate]; omega))⟩, by first | omega | (dsimp only; omega)⟩
  ·
    refine q_lss false rfl rfl (decide_eq_false hc3) up_none ?_
    refine lw_nil ?_
    refine wp_seq ?_
    refine c_cond_f rfl ?_
    refine wp_exit ?_
    refine t_exit ?_
    refine t_exit ?_
    refine c_exit_here ?_
    refine wp_seq ?_
    refine wp_plain _ [0, 0] rfl ?_
    refine q_move v1 rfl up_none ?_
    refine q_assign v1 rfl up_none ?_
    refine lw_nil ?_
    refine wp_ret ?_
    exact post_ret [4] rfl v1 rfl ⟨v1, rfl, hE2, (by have h := hL2_0.up o1; rw [show j = 1 from by omega] at h; exact h)⟩

/- spec.l07Inverse -/
set_option maxHeartbeats 4000000 in
set_option maxRecDepth 100000 in
theorem c_spec_l07Inverse (w : World) (va : Value) (a : List (List Int)) (ha : Rd (rdL (rdL rI)) w.heap va a) (hq : sqB a = true) (hd : detM a ≠ 0) :
    Calls Try.prog 75 #[va] w (fun e w' => ∃ v0 : Value, e = .returned (v0) ∧ Ext w w' ∧ Fr (owL (owL rI 2) 29) w.heap.size w'.heap.size w'.heap v0 (invN a)) := by
  refine calls_mk [va] 51 Try.func75 rfl rfl (by simp) ?_
  have hE0 : Ext w w := Ext.refl w
  have hl_va := ha.lenle
  obtain ⟨hS, h6⟩ := sq_of hq
  refine wp_seq ?_
  refine wp_plain _ [0] rfl ?_
  refine q_assign (.slice none 0 0) rfl up_none ?_
  refine lw_nil ?_
  refine wp_seq ?_
  refine wp_plain _ [3, 0] rfl ?_
  refine r_nil (owL rI 2) o1 u22 ti29 up_none ?_
  intro v1 w1 hX1 hz1 hO1
  have hzs1 : w.heap.size ≤ w1.heap.size := hX1.size
  have hE1 : Ext w w1 := hE0.trans hX1
  refine q_assign v1 rfl up_none ?_
  refine lw_nil ?_
  refine wp_seq ?_
  refine wp_seq ?_
  refine wp_plain _ [0] rfl ?_
  refine q_assign (.int .i64 ((0 : Nat) : Int)) rfl up_none ?_
  refine lw_nil ?_
  refine wp_block ?_
  refine c_loop (S := Nat × Value) (fun (⟨q, vo⟩ : Nat × Value) => ([(3, vo), (4, (.int .i64 ((q : Nat) : Int))), (0, va)] : List (Nat × Value))) (fun (⟨q, vo⟩ : Nat × Value) (W : World) => Ext w W ∧ Fr (owL (owL rI 2) 29) w.heap.size W.heap.size W.heap vo (List.replicate q ([] : List Int)) ∧ q ≤ a.length) (fun (⟨q, vo⟩ : Nat × Value) => a.length - q) (0, v1) ⟨rfl, rfl, rfl, trivial⟩ ⟨hE1, hO1.up o2, (by first | omega | assumption | (simp only [List.length_nil, List.length_cons, List.length_append, List.length_set, List.length_replicate, tab_len]; omega) | (simp [List.length_nil, List.length_cons, List.length_append, List.length_set, List.length_replicate, tab_len]; done) | (simp [List.length_nil, List.length_cons, List.length_append, List.length_set, List.length_replicate, tab_len]; omega))⟩ ?_
  clear hE0 hO1 hz1 hX1 hzs1 hE1
  rintro ⟨q, vo⟩ ρ2 w2 ⟨hE2, hL2_0, hp2_0⟩
  have hzs2 : w.heap.size ≤ w2.heap.size := hE2.size
  refine wp_seq ?_
  refine wp_seq ?_
  refine wp_plain _ [0, 0, 0, 0] rfl ?_
  refine q_move (.int .i64 ((q : Nat) : Int)) rfl up_none ?_
  refine q_move va rfl up_none ?_
  refine q_len (v := va) u22 rfl ha.isSl up_none ?_
  by_cases hc3 : ((q : Nat) : Int) < ((a.length : Nat) : Int)
  ·
    refine q_lss true rfl rfl (decide_eq_true hc3) up_none ?_
    refine lw_nil ?_
    refine c_cond_t rfl ?_
    refine wp_skip ?_
    refine wp_seq ?_
    refine wp_block ?_
    refine wp_plain _ [0, 3, 3, 4, 0] rfl ?_
    refine q_move vo rfl up_none ?_
    refine r_nil (rI) good_rI u29 ti2 up_none ?_
    intro v4 w4 hX4 hz4 hO4
    have hzs4 : w2.heap.size ≤ w4.heap.size := hX4.size
    have hE4 : Ext w w4 := hE2.trans hX4
    have hL2_0x4 := hL2_0.ext (o2) hX4
    refine r_one (u := v4) (B := w2.heap.size) o1 u22 ti29 rfl rfl hO4 (by first | exact Nat.le_refl _ | omega) up_none ?_
    intro v5 w5 hX5 hz5 hO5
    have hzs5 : w4.heap.size ≤ w5.heap.size := hX5.size
    have hE5 : Ext w w5 := hE4.trans hX5
    have hL2_0x5 := hL2_0x4.ext (o2) hX5
    refine e_appF o1 (v := vo) (a := v5) u22 ti29 rfl rfl rfl hL2_0x5 hE5.size hO5 (by omega) hE2.size (by first | omega | assumption | (simp only [List.length_nil, List.length_cons, List.length_append, List.length_set, List.length_replicate, tab_len]; omega) | (simp [List.length_nil, List.length_cons, List.length_append, List.length_set, List.length_replicate, tab_len]; done) | (simp [List.length_nil, List.length_cons, List.length_append, List.length_set, List.length_replicate, tab_len]; omega)) (by unfold maxLen; first | omega | assumption | (simp only [List.length_nil, List.length_cons, List.length_append, List.length_set, List.length_replicate, tab_len]; omega) | (simp [List.length_nil, List.length_cons, List.length_append, List.length_set, List.length_replicate, tab_len]; done) | (simp [List.length_nil, List.length_cons, List.length_append, List.length_set, List.length_replicate, tab_len]; omega)) up_none ?_
    intro v6 w6 F6 hC6 hF6 hO6
    have hE6 : Ext w w6 := hC6.below hE5 (fun c hc => Nat.le_trans (Nat.le_refl _) (hF6 c hc).1) hE5.size
    have hzs6 : w5.heap.size ≤ w6.heap.size := hC6.size
    refine q_assign v6 rfl up_none ?_
    refine lw_nil ?_
    refine wp_plain _ [0, 0, 0] rfl ?_
    refine q_move (.int .i64 ((q : Nat) : Int)) rfl up_none ?_
    refine q_add ((q + 1 : Nat) : Int) rfl rfl (w64n (by omega) (by first | omega | assumption | (simp only [List.length_nil, List.length_cons, List.length_append, List.length_set, List.length_replicate, tab_len]; omega) | (simp [List.length_nil, List.length_cons, List.length_append, List.length_set, List.length_replicate, tab_len]; done) | (simp [List.length_nil, List.length_cons, List.length_append, List.length_set, List.length_replicate, tab_len]; omega))) up_none ?_
    refine q_assign (.int .i64 ((q + 1 : Nat) : Int)) rfl up_none ?_
    refine lw_nil ?_
    exact ⟨((q + 1), v6), _, rfl, ⟨rfl, rfl, rfl, trivial⟩, ⟨hE6, (by rw [List.replicate_succ']; exact hO6.up o2), (by first | omega | assumption | (simp only [List.length_nil, List.length_cons, List.length_append, List.length_set, List.length_replicate, tab_len]; omega) | (simp [List.length_nil, List.length_cons, List.length_append, List.length_set, List.length_replicate, tab_len]; done) | (simp [List.length_nil, List.length_cons, List.length_append, List.length_set, List.length_replicate, tab_len]; omega))⟩, by first | omega | (dsimp only; omega)⟩
  ·
    refine q_lss false rfl rfl (decide_eq_false hc3) up_none ?_
    refine lw_nil ?_
    refine c_cond_f rfl ?_
    refine wp_exit ?_
    refine t_exit ?_
    refine t_exit ?_
    refine c_exit_here ?_
    refine wp_seq ?_
    refine wp_seq ?_
    refine wp_plain _ [0] rfl ?_
    refine q_assign (.int .i64 ((0 : Nat) : Int)) rfl up_none ?_
    refine lw_nil ?_
    refine wp_block ?_
    refine c_loop (S := Nat) (fun (k : Nat) => ([(5, (.int .i64 ((k : Nat) : Int))), (0, va), (3, vo)] : List (Nat × Value))) (fun (k : Nat) (W : World) => Ext w W ∧ Fr (owL (owL rI 2) 29) w.heap.size W.heap.size W.heap vo (tab a.length (invP a k)) ∧ k ≤ a.length) (fun (k : Nat) => a.length - k) 0 ⟨rfl, rfl, rfl, trivial⟩ ⟨hE2, (by have h := hL2_0.up o2; rw [show q = a.length from by omega, inv_zero] at h; exact h), (by first | omega | assumption | (simp only [List.length_nil, List.length_cons, List.length_append, List.length_set, List.length_replicate, tab_len]; omega) | (simp [List.length_nil, List.length_cons, List.length_append, List.length_set, List.length_replicate, tab_len]; done) | (simp [List.length_nil, List.length_cons, List.length_append, List.length_set, List.length_replicate, tab_len]; omega))⟩ ?_
    clear hL2_0 hE2 hzs2
    rintro k ρ7 w7 ⟨hE7, hL7_0, hp7_0⟩
    have hzs7 : w.heap.size ≤ w7.heap.size := hE7.size
    refine wp_seq ?_
    refine wp_seq ?_
    refine wp_plain _ [0, 0, 0, 0] rfl ?_
    refine q_move (.int .i64 ((k : Nat) : Int)) rfl up_none ?_
    refine q_move va rfl up_none ?_
    refine q_len (v := va) u22 rfl ha.isSl up_none ?_
    by_cases hc8 : ((k : Nat) : Int) < ((a.length : Nat) : Int)
    ·
      refine q_lss true rfl rfl (decide_eq_true hc8) up_none ?_
      refine lw_nil ?_
      refine c_cond_t rfl ?_
      refine wp_skip ?_
      refine wp_seq ?_
      refine wp_block ?_
      refine wp_seq ?_
      refine wp_plain _ [0, 0, 0, 0, 3, 3, 0] rfl ?_
      have hok := uN_ok hq k
      refine q_move va rfl up_none ?_
      refine q_move va rfl up_none ?_
      refine q_len (v := va) u22 rfl ha.isSl up_none ?_
      refine q_move (.int .i64 ((k : Nat) : Int)) rfl up_none ?_
      refine lw_call 110 [] [] [(.int .i64 ((a.length : Nat) : Int)), (.int .i64 ((k : Nat) : Int))] rfl rfl cf110 up_none (c_spec_l03Unit _ (a.length) _ (by first | omega | assumption | (simp only [List.length_nil, List.length_cons, List.length_append, List.length_set, List.length_replicate, tab_len]; omega) | (simp [List.length_nil, List.length_cons, List.length_append, List.length_set, List.length_replicate, tab_len]; done) | (simp [List.length_nil, List.length_cons, List.length_append, List.length_set, List.length_replicate, tab_len]; omega)) (by omega) (by omega) (by omega)) ?_
      rintro e9 w9 ⟨v9_0, rfl, hX9, hO9_0⟩
      refine ⟨_, rfl, hX9, ?_⟩
      have hzs9 : w7.heap.size ≤ w9.heap.size := hX9.size
      have hE9 : Ext w w9 := hE7.trans hX9
      have hL7_0x9 := hL7_0.ext (o2) hX9
      refine lw_call 70 [] [] [va, v9_0] rfl rfl cf70 up_none (c_spec_l07Solve _ _ _ _ _ (ha.ext g2 hE9) hO9_0.rd1 (by exact hS) (by exact h6) (by simp) (by exact uN_num _ _) (by exact sl_jor hok hd)) ?_
      rintro e10 w10 ⟨v10_0, rfl, hX10, hO10_0⟩
      refine ⟨_, rfl, hX10, ?_⟩
      have hzs10 : w9.heap.size ≤ w10.heap.size := hX10.size
      have hE10 : Ext w w10 := hE9.trans hX10
      have hL7_0x10 := hL7_0x9.ext (o2) hX10
      have hO9_0x10 := hO9_0.ext (o1) hX10
      refine q_assign v10_0 rfl up_none ?_
      refine lw_nil ?_
      refine wp_seq ?_
      refine wp_plain _ [0] rfl ?_
      have hcl : (solN a (uN a.length k)).length = a.length := solN_len hS (uN_num _ _) (sl_jor hok hd)
      refine q_assign (.int .i64 ((0 : Nat) : Int)) rfl up_none ?_
      refine lw_nil ?_
      refine wp_block ?_
      obtain ⟨Xn12, kO12, kN12, kR12⟩ := id hO10_0
      have kY12 := FrX.of hL7_0x10 (by omega) kR12
      refine c_loop (S := Nat) (fun (i : Nat) => ([(7, (.int .i64 ((i : Nat) : Int))), (0, va), (3, vo), (5, (.int .i64 ((k : Nat) : Int))), (6, v10_0)] : List (Nat × Value))) (fun (i : Nat) (W : World) => Ext w W ∧ FrX 2 29 w.heap.size Xn12 W.heap vo (mix i (tab a.length (invP a (k + 1))) (tab a.length (invP a k))) ∧ owL rI 2 W.heap v10_0 (solN a (uN a.length ((k : Nat) : Int).toNat)) Xn12 ∧ i ≤ a.length) (fun (i : Nat) => a.length - i) 0 ⟨rfl, rfl, rfl, rfl, rfl, trivial⟩ ⟨hE10, (by rw [mix_zero]; exact kY12), kO12, (by first | omega | assumption | (simp only [List.length_nil, List.length_cons, List.length_append, List.length_set, List.length_replicate, tab_len]; omega) | (simp [List.length_nil, List.length_cons, List.length_append, List.length_set, List.length_replicate, tab_len]; done) | (simp [List.length_nil, List.length_cons, List.length_append, List.length_set, List.length_replicate, tab_len]; omega))⟩ ?_
      clear hL7_0 hE7 hzs7 hO9_0 hX9 hL7_0x9 hO10_0 hX10 hL7_0x10 hO9_0x10
      rintro i ρ11 w11 ⟨hE11, hL11_0, hL11_1, hp11_0⟩
      have hzs11 : w.heap.size ≤ w11.heap.size := hE11.size
      have hlm := inv_mlen a k i
      refine wp_seq ?_
      refine wp_seq ?_
      refine wp_plain _ [0, 0, 0, 0] rfl ?_
      refine q_move (.int .i64 ((i : Nat) : Int)) rfl up_none ?_
      refine q_move va rfl up_none ?_
      refine q_len (v := va) u22 rfl ha.isSl up_none ?_
      by_cases hc13 : ((i : Nat) : Int) < ((a.length : Nat) : Int)
      ·
        refine q_lss true rfl rfl (decide_eq_true hc13) up_none ?_
        refine lw_nil ?_
        refine c_cond_t rfl ?_
        refine wp_skip ?_
        refine wp_seq ?_
        refine wp_block ?_
        refine wp_draw _ [0, 0, 0, 0, 0, 1, 0, 0, 0, 1, 3, 4, 0, 4] mixed (by kernel_rfl) ?_
        refine q_move vo rfl up_none ?_
        refine q_move (.int .i64 ((i : Nat) : Int)) rfl up_none ?_
        refine q_move vo rfl up_none ?_
        refine q_move (.int .i64 ((i : Nat) : Int)) rfl up_none ?_
        refine q_idx (v := vo) i u22 ti29 rfl rfl hL11_0.isSl rfl (by first | omega | assumption | (simp only [List.length_nil, List.length_cons, List.length_append, List.length_set, List.length_replicate, tab_len]; omega) | (simp [List.length_nil, List.length_cons, List.length_append, List.length_set, List.length_replicate, tab_len]; done) | (simp [List.length_nil, List.length_cons, List.length_append, List.length_set, List.length_replicate, tab_len]; omega)) up_none ?_
        obtain ⟨ue14, hl14, hd14⟩ := hL11_0.rd2.get (k := i) [] (by first | omega | assumption | (simp only [List.length_nil, List.length_cons, List.length_append, List.length_set, List.length_replicate, tab_len]; omega) | (simp [List.length_nil, List.length_cons, List.length_append, List.length_set, List.length_replicate, tab_len]; done) | (simp [List.length_nil, List.length_cons, List.length_append, List.length_set, List.length_replicate, tab_len]; omega))
        have hln14 := hd14.lenle
        refine q_load (p := eptr vo i 1) (.inl rfl) ue14 one29 rfl hl14 up_none ?_
        refine q_move v10_0 rfl up_none ?_
        refine q_move (.int .i64 ((i : Nat) : Int)) rfl up_none ?_
        refine q_idx (v := v10_0) i u29 ti2 rfl rfl (hL11_1.rd id).isSl rfl (by first | omega | assumption | (simp only [List.length_nil, List.length_cons, List.length_append, List.length_set, List.length_replicate, tab_len]; omega) | (simp [List.length_nil, List.length_cons, List.length_append, List.length_set, List.length_replicate, tab_len]; done) | (simp [List.length_nil, List.length_cons, List.length_append, List.length_set, List.length_replicate, tab_len]; omega)) up_none ?_
        refine q_load (p := eptr v10_0 i 1) (.inl rfl) (.int .i64 ((solN a (uN a.length ((k : Nat) : Int).toNat)).getD i 0)) one2 rfl ((own_rdI hL11_1).getI (by first | omega | assumption | (simp only [List.length_nil, List.length_cons, List.length_append, List.length_set, List.length_replicate, tab_len]; omega) | (simp [List.length_nil, List.length_cons, List.length_append, List.length_set, List.length_replicate, tab_len]; done) | (simp [List.length_nil, List.length_cons, List.length_append, List.length_set, List.length_replicate, tab_len]; omega))).1 up_none ?_
        refine r_one (u := (.int .i64 ((solN a (uN a.length ((k : Nat) : Int).toNat)).getD i 0))) (B := w11.heap.size) good_rI u29 ti2 rfl rfl (frI w11.heap.size w11.heap.size _ _ ((own_rdI hL11_1).getI (by first | omega | assumption | (simp only [List.length_nil, List.length_cons, List.length_append, List.length_set, List.length_replicate, tab_len]; omega) | (simp [List.length_nil, List.length_cons, List.length_append, List.length_set, List.length_replicate, tab_len]; done) | (simp [List.length_nil, List.length_cons, List.length_append, List.length_set, List.length_replicate, tab_len]; omega))).2) (Nat.le_refl _) up_none ?_
        intro v15 w15 hX15 hz15 hO15
        replace hX15 := hX15.of_drew
        have hzs15 : w11.heap.size ≤ w15.heap.size := hX15.size
        have hE15 : Ext w w15 := hE11.trans hX15
        have hL11_0x15 := hL11_0.ext (o2) hX15
        have hL11_1x15 := own_ext (o1) hL11_1 hX15
        have hd14x15 := hd14.ext g1 hX15
        have hlx16 := ldH_ext hX15 hl14
        refine e_appP (v := vo) (u := ue14) (a := v15) (r := i) u29 ti2 rfl rfl rfl hL11_0x15 hE15.size (o1.lt hL11_1x15) (by first | omega | assumption | (simp only [List.length_nil, List.length_cons, List.length_append, List.length_set, List.length_replicate, tab_len]; omega) | (simp [List.length_nil, List.length_cons, List.length_append, List.length_set, List.length_replicate, tab_len]; done) | (simp [List.length_nil, List.length_cons, List.length_append, List.length_set, List.length_replicate, tab_len]; omega)) hlx16 hO15.rd1 (by have h1 := inv_row (a := a) (k := k) (i := i) (by omega); rw [h1]; simp only [List.length_cons, List.length_nil]; omega) (by unfold maxLen; have h1 := inv_row (a := a) (k := k) (i := i) (by omega); rw [h1]; simp only [List.length_cons, List.length_nil]; omega) up_none ?_
        intro v17 w17 F17 hC17 hF17 hO17
        have hE17 : Ext w w17 := hC17.below hE15 (fun b hb => (hF17 b hb).1) hE15.size
        have hzs17 : w15.heap.size ≤ w17.heap.size := hC17.size
        have hF18 := own_keepG o1 hL11_1x15 hC17 (fun b hb => (hF17 b hb).2.1)
        refine q_idx (v := vo) i u22 ti29 rfl rfl hO17.isSl rfl (by first | omega | assumption | (simp only [List.length_nil, List.length_cons, List.length_append, List.length_set, List.length_replicate, tab_len]; omega) | (simp [List.length_nil, List.length_cons, List.length_append, List.length_set, List.length_replicate, tab_len]; done) | (simp [List.length_nil, List.length_cons, List.length_append, List.length_set, List.length_replicate, tab_len]; omega)) up_none ?_
        refine e_setP (v := vo) (u := v17) (w := w17) sz29 rfl rfl hO17 up_none ?_
        intro w19 F19 hC19 hz19 hF19 hO19
        have hE19 : Ext w w19 := hC19.below hE17 (fun b hb => (hF19 b hb).1) hE17.size
        have hzs19 : w17.heap.size ≤ w19.heap.size := hC19.size
        have hF20 := own_keepG o1 hF18 hC19 (fun b hb => (hF19 b hb).2.1)
        refine lw_nil ?_
        refine wp_plain _ [0, 0, 0] rfl ?_
        refine q_move (.int .i64 ((i : Nat) : Int)) rfl up_none ?_
        refine q_add ((i + 1 : Nat) : Int) rfl rfl (w64n (by omega) (by first | omega | assumption | (simp only [List.length_nil, List.length_cons, List.length_append, List.length_set, List.length_replicate, tab_len]; omega) | (simp [List.length_nil, List.length_cons, List.length_append, List.length_set, List.length_replicate, tab_len]; done) | (simp [List.length_nil, List.length_cons, List.length_append, List.length_set, List.length_replicate, tab_len]; omega))) up_none ?_
        refine q_assign (.int .i64 ((i + 1 : Nat) : Int)) rfl up_none ?_
        refine lw_nil ?_
        exact ⟨(i + 1), _, rfl, ⟨rfl, rfl, rfl, rfl, rfl, trivial⟩, ⟨hE19, (by rw [← inv_set (by omega)]; exact hO19), hF20, (by first | omega | assumption | (simp only [List.length_nil, List.length_cons, List.length_append, List.length_set, List.length_replicate, tab_len]; omega) | (simp [List.length_nil, List.length_cons, List.length_append, List.length_set, List.length_replicate, tab_len]; done) | (simp [List.length_nil, List.length_cons, List.length_append, List.length_set, List.length_replicate, tab_len]; omega))⟩, by first | omega | (dsimp only; omega)⟩
      ·
        refine q_lss false rfl rfl (decide_eq_false hc13) up_none ?_
        refine lw_nil ?_
        refine c_cond_f rfl ?_
        refine wp_exit ?_
        refine t_exit ?_
        refine t_exit ?_
        refine c_exit_here ?_
        refine wp_plain _ [0, 0, 0] rfl ?_
        refine q_move (.int .i64 ((k : Nat) : Int)) rfl up_none ?_
        refine q_add ((k + 1 : Nat) : Int) rfl rfl (w64n (by omega) (by first | omega | assumption | (simp only [List.length_nil, List.length_cons, List.length_append, List.length_set, List.length_replicate, tab_len]; omega) | (simp [List.length_nil, List.length_cons, List.length_append, List.length_set, List.length_replicate, tab_len]; done) | (simp [List.length_nil, List.length_cons, List.length_append, List.length_set, List.length_replicate, tab_len]; omega))) up_none ?_
        refine q_assign (.int .i64 ((k + 1 : Nat) : Int)) rfl up_none ?_
        refine lw_nil ?_
        exact ⟨(k + 1), _, rfl, ⟨rfl, rfl, rfl, trivial⟩, ⟨hE11, (by have h := hL11_0.fr; rwa [mix_all (by simp) (by simp; omega)] at h), (by first | omega | assumption | (simp only [List.length_nil, List.length_cons, List.length_append, List.length_set, List.length_replicate, tab_len]; omega) | (simp [List.length_nil, List.length_cons, List.length_append, List.length_set, List.length_replicate, tab_len]; done) | (simp [List.length_nil, List.length_cons, List.length_append, List.length_set, List.length_replicate, tab_len]; omega))⟩, by first | omega | (dsimp only; omega)⟩
    ·
      refine q_lss false rfl rfl (decide_eq_false hc8) up_none ?_
      refine lw_nil ?_
      refine c_cond_f rfl ?_
      refine wp_exit ?_
      refine t_exit ?_
      refine t_exit ?_
      refine c_exit_here ?_
      refine wp_seq ?_
      refine wp_plain _ [0, 0] rfl ?_
      refine q_move vo rfl up_none ?_
      refine q_assign vo rfl up_none ?_
      refine lw_nil ?_
      refine wp_ret ?_
      exact post_ret [2] rfl vo rfl ⟨vo, rfl, hE7, (by have h := hL7_0.up o2; rw [show k = a.length from by omega] at h; exact h)⟩

/- spec.InverseMatrix -/
set_option maxHeartbeats 4000000 in
set_option maxRecDepth 100000 in
theorem c_spec_InverseMatrix (w : World) (va : Value) (a : List (List Int)) (ha : Rd (rdL (rdL rI)) w.heap va a)  :
    Calls Try.prog 26 #[va] w (fun e w' => ∃ v0 : Value, e = .returned (.tuple #[v0, .int .i64 (ivC a)]) ∧ Ext w w' ∧ Fr (owL (owL rI 2) 29) w.heap.size w'.heap.size w'.heap v0 (ivR a)) := by
  refine calls_mk [va] 14 Try.func26 rfl rfl (by simp) ?_
  have hE0 : Ext w w := Ext.refl w
  have hl_va := ha.lenle
  refine wp_seq ?_
  refine wp_plain _ [0, 0] rfl ?_
  refine q_assign (.slice none 0 0) rfl up_none ?_
  refine q_assign (.int .i64 ((0 : Nat) : Int)) rfl up_none ?_
  refine lw_nil ?_
  refine wp_seq ?_
  refine wp_seq ?_
  refine wp_plain _ [0, 3, 0] rfl ?_
  refine q_move va rfl up_none ?_
  refine lw_call 52 [] [] [va] rfl rfl cf52 up_none (c_spec_l07Square _ _ _ (ha.ext g2 hE0)) ?_
  rintro e1 w1 ⟨rfl, hX1⟩
  refine ⟨_, rfl, hX1, ?_⟩
  have hzs1 : w.heap.size ≤ w1.heap.size := hX1.size
  have hE1 : Ext w w1 := hE0.trans hX1
  refine q_not (!(sqB a)) rfl rfl up_none ?_
  refine lw_nil ?_
  cases hb2 : (!(sqB a))
  ·
    refine c_cond_f (by first | rfl | (show Value.bool _ = _; rw [hb2])) ?_
    refine wp_skip ?_
    refine wp_seq ?_
    refine wp_seq ?_
    refine wp_plain _ [0, 3, 0] rfl ?_
    have hq : sqB a = true := by simpa using ‹(!sqB a) = false›
    obtain ⟨hS, h6⟩ := sq_of hq
    refine q_move va rfl up_none ?_
    refine lw_call 53 [] [] [va] rfl rfl cf53 up_none (c_spec_l07Det _ _ _ (ha.ext g2 hE1) (by exact hS) (by exact h6)) ?_
    rintro e3 w3 ⟨rfl, hX3⟩
    refine ⟨_, rfl, hX3, ?_⟩
    have hzs3 : w1.heap.size ≤ w3.heap.size := hX3.size
    have hE3 : Ext w w3 := hE1.trans hX3
    by_cases hc4 : detM a = ((0 : Nat) : Int)
    ·
      refine q_eql true rfl rfl (decide_eq_true hc4) up_none ?_
      refine lw_nil ?_
      refine c_cond_t rfl ?_
      refine wp_seq ?_
      refine wp_plain _ [3, 0, 0] rfl ?_
      refine r_nil (owL rI 2) o1 u22 ti29 up_none ?_
      intro v5 w5 hX5 hz5 hO5
      have hzs5 : w3.heap.size ≤ w5.heap.size := hX5.size
      have hE5 : Ext w w5 := hE3.trans hX5
      refine q_assign v5 rfl up_none ?_
      refine q_assign (.int .i64 ((6 : Nat) : Int)) rfl up_none ?_
      refine lw_nil ?_
      refine wp_ret ?_
      refine t_ret ?_
      have hdz : detM a = 0 := by have h := ‹detM a = ((0 : Nat) : Int)›; exact h
      exact post_ret [2, 3] rfl (.tuple #[v5, (.int .i64 ((6 : Nat) : Int))]) rfl ⟨v5, (by rw [(iv_zero hq hdz).2]; rfl), hE5, (by rw [(iv_zero hq hdz).1]; exact (hO5.up o2).low hE3.size)⟩
    ·
      refine q_eql false rfl rfl (decide_eq_false hc4) up_none ?_
      refine lw_nil ?_
      refine c_cond_f rfl ?_
      refine wp_skip ?_
      refine wp_seq ?_
      refine wp_plain _ [0, 3, 0, 0] rfl ?_
      have hdn : detM a ≠ 0 := by have h := ‹¬ detM a = ((0 : Nat) : Int)›; exact h
      refine q_move va rfl up_none ?_
      refine lw_call 75 [] [] [va] rfl rfl cf75 up_none (c_spec_l07Inverse _ _ _ (ha.ext g2 hE3) (by exact hq) (by exact hdn)) ?_
      rintro e6 w6 ⟨v6_0, rfl, hX6, hO6_0⟩
      refine ⟨_, rfl, hX6, ?_⟩
      have hzs6 : w3.heap.size ≤ w6.heap.size := hX6.size
      have hE6 : Ext w w6 := hE3.trans hX6
      refine q_assign v6_0 rfl up_none ?_
      refine q_assign (.int .i64 ((0 : Nat) : Int)) rfl up_none ?_
      refine lw_nil ?_
      refine wp_ret ?_
      exact post_ret [2, 3] rfl (.tuple #[v6_0, (.int .i64 ((0 : Nat) : Int))]) rfl ⟨v6_0, (by rw [(iv_good hq hdn).2]; rfl), hE6, (by rw [(iv_good hq hdn).1]; exact (hO6_0.up o2).low hE3.size)⟩
  ·
    refine c_cond_t (by first | rfl | (show Value.bool _ = _; rw [hb2])) ?_
    refine wp_seq ?_
    refine wp_plain _ [3, 0, 0] rfl ?_
    refine r_nil (owL rI 2) o1 u22 ti29 up_none ?_
    intro v7 w7 hX7 hz7 hO7
    have hzs7 : w1.heap.size ≤ w7.heap.size := hX7.size
    have hE7 : Ext w w7 := hE1.trans hX7
    refine q_assign v7 rfl up_none ?_
    refine q_assign (.int .i64 ((1 : Nat) : Int)) rfl up_none ?_
    refine lw_nil ?_
    refine wp_ret ?_
    refine t_ret ?_
    have hq : sqB a = false := by simpa using ‹(!sqB a) = true›
    exact post_ret [2, 3] rfl (.tuple #[v7, (.int .i64 ((1 : Nat) : Int))]) rfl ⟨v7, (by rw [(iv_bad hq).2]; rfl), hE7, (by rw [(iv_bad hq).1]; exact (hO7.up o2).low hE1.size)⟩

/- impl.InverseMatrix -/
set_option maxHeartbeats 4000000 in
set_option maxRecDepth 100000 in
theorem c_impl_InverseMatrix (w : World) (va : Value) (a : List (List Int)) (ha : Rd (rdL (rdL rI)) w.heap va a)  :
    Calls Try.prog 27 #[va] w (fun e w' => ∃ v0 : Value, e = .returned (.tuple #[v0, .int .i64 (ivC a)]) ∧ Ext w w' ∧ Fr (owL (owL rI 2) 29) w.heap.size w'.heap.size w'.heap v0 (ivR a)) := by
  refine calls_mk [va] 57 Try.func27 rfl rfl (by simp) ?_
  have hE0 : Ext w w := Ext.refl w
  have hl_va := ha.lenle
  refine wp_seq ?_
  refine wp_plain _ [0, 0] rfl ?_
  refine q_assign (.slice none 0 0) rfl up_none ?_
  refine q_assign (.int .i64 ((0 : Nat) : Int)) rfl up_none ?_
  refine lw_nil ?_
  refine wp_seq ?_
  refine wp_seq ?_
  refine wp_plain _ [0, 3, 0] rfl ?_
  refine q_move va rfl up_none ?_
  refine lw_call 54 [] [] [va] rfl rfl cf54 up_none (c_impl_isSquare _ _ _ (ha.ext g2 hE0)) ?_
  rintro e1 w1 ⟨rfl, hX1⟩
  refine ⟨_, rfl, hX1, ?_⟩
  have hzs1 : w.heap.size ≤ w1.heap.size := hX1.size
  have hE1 : Ext w w1 := hE0.trans hX1
  refine q_not (!(sqB a)) rfl rfl up_none ?_
  refine lw_nil ?_
  cases hb2 : (!(sqB a))
  ·
    refine c_cond_f (by first | rfl | (show Value.bool _ = _; rw [hb2])) ?_
    refine wp_skip ?_
    refine wp_seq ?_
    refine wp_plain _ [0, 0, 3, 0] rfl ?_
    have hq : sqB a = true := by simpa using ‹(!sqB a) = false›
    obtain ⟨hS, h6⟩ := sq_of hq
    refine q_move va rfl up_none ?_
    refine q_len (v := va) u22 rfl ha.isSl up_none ?_
    refine r_make2 (owL rI 2) o1 (fun _ => .inl ⟨rfl, rfl, rfl⟩) (n := a.length) u22 ti29 rfl rfl rfl (by first | omega | assumption | (simp only [List.length_nil, List.length_cons, List.length_append, List.length_set, List.length_replicate, tab_len]; omega) | (simp [List.length_nil, List.length_cons, List.length_append, List.length_set, List.length_replicate, tab_len]; done) | (simp [List.length_nil, List.length_cons, List.length_append, List.length_set, List.length_replicate, tab_len]; omega)) up_none ?_
    intro v3 w3 hX3 hz3 hO3
    have hzs3 : w1.heap.size ≤ w3.heap.size := hX3.size
    have hE3 : Ext w w3 := hE1.trans hX3
    refine q_assign v3 rfl up_none ?_
    refine lw_nil ?_
    refine wp_seq ?_
    refine wp_seq ?_
    refine wp_plain _ [0, 0, 0] rfl ?_
    refine q_move va rfl up_none ?_
    refine q_len (v := va) u22 rfl ha.isSl up_none ?_
    refine q_move (.int .i64 ((0 : Nat) : Int)) rfl up_none ?_
    refine lw_nil ?_
    refine wp_block ?_
    refine c_loop (S := Nat) (fun (k : Nat) => ([(18, (.int .i64 ((k : Nat) : Int))), (0, va), (4, v3), (17, (.int .i64 ((a.length : Nat) : Int)))] : List (Nat × Value))) (fun (k : Nat) (W : World) => Ext w W ∧ Fr (owL (owL rI 2) 29) w.heap.size W.heap.size W.heap v3 (tab a.length (invP a k)) ∧ k ≤ a.length ∧ (k = 0 ∨ detM a ≠ 0)) (fun (k : Nat) => a.length - k) 0 ⟨rfl, rfl, rfl, rfl, trivial⟩ ⟨hE3, (by rw [← inv_zero]; exact (hO3.up o2).low hE1.size), (by first | omega | assumption | (simp only [List.length_nil, List.length_cons, List.length_append, List.length_set, List.length_replicate, tab_len]; omega) | (simp [List.length_nil, List.length_cons, List.length_append, List.length_set, List.length_replicate, tab_len]; done) | (simp [List.length_nil, List.length_cons, List.length_append, List.length_set, List.length_replicate, tab_len]; omega)), (by exact .inl rfl)⟩ ?_
    clear hE0 hX1 hzs1 hE1 hO3 hz3 hX3 hzs3 hE3
    rintro k ρ4 w4 ⟨hE4, hL4_0, hp4_0, hkd⟩
    have hzs4 : w.heap.size ≤ w4.heap.size := hE4.size
    refine wp_seq ?_
    refine wp_plain _ [0] rfl ?_
    by_cases hc5 : ((k : Nat) : Int) < ((a.length : Nat) : Int)
    ·
      refine q_lss true rfl rfl (decide_eq_true hc5) up_none ?_
      refine lw_nil ?_
      refine wp_seq ?_
      refine c_cond_t rfl ?_
      refine wp_skip ?_
      refine wp_seq ?_
      refine wp_block ?_
      refine wp_seq ?_
      refine wp_plain _ [0, 0] rfl ?_
      refine q_move (.int .i64 ((k : Nat) : Int)) rfl up_none ?_
      refine q_assign (.int .i64 ((k : Nat) : Int)) rfl up_none ?_
      refine lw_nil ?_
      refine wp_seq ?_
      refine wp_plain _ [0, 3, 0, 0, 0, 3, 3, 3, 3, 0, 0, 0, 0, 0] rfl ?_
      have hok := uN_ok hq k
      have hbl := sl_len hok
      have hnb := sl_num hok
      have hpre := one_pre hS hbl hnb
      have hsm : (jorS (mm (fun x => [x]) a) (sing (uN a.length ([((k : Nat) : Int)].getD 0 0).toNat))).isSome = !decide (detM a = 0) := one_some hS hbl hnb
      refine q_move va rfl up_none ?_
      refine lw_call 72 [] [] [va] rfl rfl cf72 up_none (c_impl_constants _ _ _ (ha.ext g2 hE4) (by omega) (by intro k; by_cases hk : k < a.length; (have := hS.row k hk; omega); (rw [show a.getD k [] = [] from by simp [Nat.not_lt.1 hk]]; simp))) ?_
      rintro e6 w6 ⟨v6_0, rfl, hX6, hO6_0⟩
      refine ⟨_, rfl, hX6, ?_⟩
      have hzs6 : w4.heap.size ≤ w6.heap.size := hX6.size
      have hE6 : Ext w w6 := hE4.trans hX6
      have hL4_0x6 := hL4_0.ext (o2) hX6
      refine q_move va rfl up_none ?_
      refine q_len (v := va) u22 rfl ha.isSl up_none ?_
      refine q_move (.int .i64 ((k : Nat) : Int)) rfl up_none ?_
      refine r_one (u := (.int .i64 ((k : Nat) : Int))) (B := w6.heap.size) good_rI u29 ti2 rfl rfl (frI w6.heap.size w6.heap.size _ _ (by omega)) (Nat.le_refl _) up_none ?_
      intro v7 w7 hX7 hz7 hO7
      have hzs7 : w6.heap.size ≤ w7.heap.size := hX7.size
      have hE7 : Ext w w7 := hE6.trans hX7
      have hL4_0x7 := hL4_0x6.ext (o2) hX7
      have hO6_0x7 := hO6_0.ext (o3) hX7
      refine lw_call 76 [] [] [(.int .i64 ((a.length : Nat) : Int)), v7] rfl rfl cf76 up_none (c_impl_unit _ (a.length) _ _ (by first | omega | assumption | (simp only [List.length_nil, List.length_cons, List.length_append, List.length_set, List.length_replicate, tab_len]; omega) | (simp [List.length_nil, List.length_cons, List.length_append, List.length_set, List.length_replicate, tab_len]; done) | (simp [List.length_nil, List.length_cons, List.length_append, List.length_set, List.length_replicate, tab_len]; omega)) hO7.rd1 (by omega) (by rfl) (by show 0 ≤ ((k : Nat) : Int) ∧ ((k : Nat) : Int) < (a.length : Int); omega)) ?_
      rintro e8 w8 ⟨v8_0, rfl, hX8, hO8_0⟩
      refine ⟨_, rfl, hX8, ?_⟩
      have hzs8 : w7.heap.size ≤ w8.heap.size := hX8.size
      have hE8 : Ext w w8 := hE7.trans hX8
      have hL4_0x8 := hL4_0x7.ext (o2) hX8
      have hO6_0x8 := hO6_0x7.ext (o3) hX8
      have hO7x8 := hO7.ext (o1) hX8
      refine lw_call 73 [] [] [v8_0] rfl rfl cf73 up_none (c_impl_singles _ _ _ hO8_0.rd1 (by simp; omega)) ?_
      rintro e9 w9 ⟨v9_0, rfl, hX9, hO9_0⟩
      refine ⟨_, rfl, hX9, ?_⟩
      have hzs9 : w8.heap.size ≤ w9.heap.size := hX9.size
      have hE9 : Ext w w9 := hE8.trans hX9
      have hL4_0x9 := hL4_0x8.ext (o2) hX9
      have hO6_0x9 := hO6_0x8.ext (o3) hX9
      have hO7x9 := hO7x8.ext (o1) hX9
      have hO8_0x9 := hO8_0.ext (o1) hX9
      refine lw_call 71 [] [] [v6_0, v9_0] rfl rfl cf71 up_none (c_impl_solved _ _ _ _ _ hO6_0x9.rd3 hO9_0.rd2 (by rw [mm_len]; omega) (by rw [mm_len, sing_len]; exact hbl) (by exact hpre.1) (by exact hpre.2)) ?_
      rintro e10 w10 ⟨v10_0, rfl, hX10, hO10_0⟩
      refine ⟨_, rfl, hX10, ?_⟩
      have hzs10 : w9.heap.size ≤ w10.heap.size := hX10.size
      have hE10 : Ext w w10 := hE9.trans hX10
      have hL4_0x10 := hL4_0x9.ext (o2) hX10
      have hO6_0x10 := hO6_0x9.ext (o3) hX10
      have hO7x10 := hO7x9.ext (o1) hX10
      have hO8_0x10 := hO8_0x9.ext (o1) hX10
      have hO9_0x10 := hO9_0.ext (o2) hX10
      refine q_move (.tuple #[v10_0, (.bool ((jorS (mm (fun x => [x]) a) (sing (uN a.length (([((k : Nat) : Int)]).getD 0 0).toNat))).isSome))]) rfl up_none ?_
      refine q_extract (vs := [v10_0, (.bool ((jorS (mm (fun x => [x]) a) (sing (uN a.length (([((k : Nat) : Int)]).getD 0 0).toNat))).isSome))]) v10_0 rfl rfl up_none ?_
      refine q_extract (vs := [v10_0, (.bool ((jorS (mm (fun x => [x]) a) (sing (uN a.length (([((k : Nat) : Int)]).getD 0 0).toNat))).isSome))]) (.bool ((jorS (mm (fun x => [x]) a) (sing (uN a.length (([((k : Nat) : Int)]).getD 0 0).toNat))).isSome)) rfl rfl up_none ?_
      refine q_assign v10_0 rfl up_none ?_
      refine q_assign (.bool ((jorS (mm (fun x => [x]) a) (sing (uN a.length (([((k : Nat) : Int)]).getD 0 0).toNat))).isSome)) rfl up_none ?_
      refine lw_nil ?_
      refine wp_seq ?_
      refine wp_seq ?_
      refine wp_plain _ [0, 0] rfl ?_
      refine q_move (.bool ((jorS (mm (fun x => [x]) a) (sing (uN a.length (([((k : Nat) : Int)]).getD 0 0).toNat))).isSome)) rfl up_none ?_
      refine q_not (!((jorS (mm (fun x => [x]) a) (sing (uN a.length (([((k : Nat) : Int)]).getD 0 0).toNat))).isSome)) rfl rfl up_none ?_
      refine lw_nil ?_
      cases hb11 : (!((jorS (mm (fun x => [x]) a) (sing (uN a.length (([((k : Nat) : Int)]).getD 0 0).toNat))).isSome))
      ·
        refine c_cond_f (by first | rfl | (show Value.bool _ = _; rw [hb11])) ?_
        refine wp_skip ?_
        refine wp_seq ?_
        refine wp_plain _ [0, 0, 0] rfl ?_
        have hdn : detM a ≠ 0 := by simp_all
        have hjn := sl_jor hok hdn
        have hsol : solS (mm (fun x => [x]) a) (sing (uN a.length ([((k : Nat) : Int)].getD 0 0).toNat)) = sing (solN a (uN a.length k)) := sol_one hS hbl hnb hjn
        have hcl : (solN a (uN a.length k)).length = a.length := solN_len hS (uN_num _ _) hjn
        have hcs := sing_len (solN a (uN a.length k))
        have hcol12 := hO10_0
        rw [hsol] at hcol12
        refine q_move v10_0 rfl up_none ?_
        refine q_len (v := v10_0) u22 rfl hcol12.isSl up_none ?_
        refine q_move (.int .i64 ((0 : Nat) : Int)) rfl up_none ?_
        refine lw_nil ?_
        refine wp_block ?_
        obtain ⟨Xn14, kO14, kN14, kR14⟩ := id hcol12
        have kY14 := FrX.of hL4_0x10 (by omega) kR14
        refine c_loop (S := Nat) (fun (i : Nat) => ([(37, (.int .i64 ((i : Nat) : Int))), (0, va), (4, v3), (17, (.int .i64 ((a.length : Nat) : Int))), (18, (.int .i64 ((k : Nat) : Int))), (35, v10_0), (36, (.int .i64 (((sing (solN a (uN a.length k))).length : Nat) : Int)))] : List (Nat × Value))) (fun (i : Nat) (W : World) => Ext w W ∧ FrX 2 29 w.heap.size Xn14 W.heap v3 (mix i (tab a.length (invP a (k + 1))) (tab a.length (invP a k))) ∧ owL (owL rI 2) 29 W.heap v10_0 (sing (solN a (uN a.length k))) Xn14 ∧ i ≤ a.length) (fun (i : Nat) => a.length - i) 0 ⟨rfl, rfl, rfl, rfl, rfl, rfl, rfl, trivial⟩ ⟨hE10, (by rw [mix_zero]; exact kY14), kO14, (by first | omega | assumption | (simp only [List.length_nil, List.length_cons, List.length_append, List.length_set, List.length_replicate, tab_len]; omega) | (simp [List.length_nil, List.length_cons, List.length_append, List.length_set, List.length_replicate, tab_len]; done) | (simp [List.length_nil, List.length_cons, List.length_append, List.length_set, List.length_replicate, tab_len]; omega))⟩ ?_
        clear hL4_0 hE4 hzs4 hO6_0 hX6 hzs6 hE6 hL4_0x6 hO7 hz7 hX7 hzs7 hE7 hL4_0x7 hO6_0x7 hO8_0 hX8 hzs8 hE8 hL4_0x8 hO6_0x8 hO7x8 hO9_0 hX9 hL4_0x9 hO6_0x9 hO7x9 hO8_0x9 hO10_0 hX10 hL4_0x10 hO6_0x10 hO7x10 hO8_0x10 hO9_0x10
        rintro i ρ13 w13 ⟨hE13, hL13_0, hL13_1, hp13_0⟩
        have hzs13 : w.heap.size ≤ w13.heap.size := hE13.size
        have hlm := inv_mlen a k i
        refine wp_seq ?_
        refine wp_plain _ [0] rfl ?_
        by_cases hc15 : ((i : Nat) : Int) < (((sing (solN a (uN a.length k))).length : Nat) : Int)
        ·
          refine q_lss true rfl rfl (decide_eq_true hc15) up_none ?_
          refine lw_nil ?_
          refine wp_seq ?_
          refine c_cond_t rfl ?_
          refine wp_skip ?_
          refine wp_seq ?_
          refine wp_block ?_
          refine wp_seq ?_
          refine wp_plain _ [0, 0, 2, 0, 0] rfl ?_
          refine q_move (.int .i64 ((i : Nat) : Int)) rfl up_none ?_
          refine q_idx (v := v10_0) i u22 ti29 rfl rfl (own_rdI2 hL13_1).isSl rfl (by first | omega | assumption | (simp only [List.length_nil, List.length_cons, List.length_append, List.length_set, List.length_replicate, tab_len]; omega) | (simp [List.length_nil, List.length_cons, List.length_append, List.length_set, List.length_replicate, tab_len]; done) | (simp [List.length_nil, List.length_cons, List.length_append, List.length_set, List.length_replicate, tab_len]; omega)) up_none ?_
          obtain ⟨ue16, hl16, hd16⟩ := (own_rdI2 hL13_1).get (k := i) [] (by first | omega | assumption | (simp only [List.length_nil, List.length_cons, List.length_append, List.length_set, List.length_replicate, tab_len]; omega) | (simp [List.length_nil, List.length_cons, List.length_append, List.length_set, List.length_replicate, tab_len]; done) | (simp [List.length_nil, List.length_cons, List.length_append, List.length_set, List.length_replicate, tab_len]; omega))
          have hln16 := hd16.lenle
          refine q_load (p := eptr v10_0 i 1) (.inr rfl) ue16 one29 rfl hl16 up_none ?_
          refine q_assign (.int .i64 ((i : Nat) : Int)) rfl up_none ?_
          refine q_assign ue16 rfl up_none ?_
          refine lw_nil ?_
          refine wp_draw _ [0, 0, 0, 0, 0, 1, 0, 0, 1, 3, 4, 0, 4] mixed (by kernel_rfl) ?_
          have hsr := sing_row (solN a (uN a.length k)) (k := i) (by omega)
          have hsrl : ((sing (solN a (uN a.length k))).getD i []).length = 1 := by rw [hsr]; rfl
          refine q_move v3 rfl up_none ?_
          refine q_move (.int .i64 ((i : Nat) : Int)) rfl up_none ?_
          refine q_move v3 rfl up_none ?_
          refine q_move (.int .i64 ((i : Nat) : Int)) rfl up_none ?_
          refine q_idx (v := v3) i u22 ti29 rfl rfl hL13_0.isSl rfl (by first | omega | assumption | (simp only [List.length_nil, List.length_cons, List.length_append, List.length_set, List.length_replicate, tab_len]; omega) | (simp [List.length_nil, List.length_cons, List.length_append, List.length_set, List.length_replicate, tab_len]; done) | (simp [List.length_nil, List.length_cons, List.length_append, List.length_set, List.length_replicate, tab_len]; omega)) up_none ?_
          obtain ⟨ue17, hl17, hd17⟩ := hL13_0.rd2.get (k := i) [] (by first | omega | assumption | (simp only [List.length_nil, List.length_cons, List.length_append, List.length_set, List.length_replicate, tab_len]; omega) | (simp [List.length_nil, List.length_cons, List.length_append, List.length_set, List.length_replicate, tab_len]; done) | (simp [List.length_nil, List.length_cons, List.length_append, List.length_set, List.length_replicate, tab_len]; omega))
          have hln17 := hd17.lenle
          refine q_load (p := eptr v3 i 1) (.inl rfl) ue17 one29 rfl hl17 up_none ?_
          refine q_move ue16 rfl up_none ?_
          refine q_idx (v := ue16) 0 u29 ti2 rfl rfl hd16.isSl rfl (by first | omega | assumption | (simp only [List.length_nil, List.length_cons, List.length_append, List.length_set, List.length_replicate, tab_len]; omega) | (simp [List.length_nil, List.length_cons, List.length_append, List.length_set, List.length_replicate, tab_len]; done) | (simp [List.length_nil, List.length_cons, List.length_append, List.length_set, List.length_replicate, tab_len]; omega)) up_none ?_
          refine q_load (p := eptr ue16 0 1) (.inl rfl) (.int .i64 (((sing (solN a (uN a.length k))).getD i []).getD 0 0)) one2 rfl (hd16.getI (by first | omega | assumption | (simp only [List.length_nil, List.length_cons, List.length_append, List.length_set, List.length_replicate, tab_len]; omega) | (simp [List.length_nil, List.length_cons, List.length_append, List.length_set, List.length_replicate, tab_len]; done) | (simp [List.length_nil, List.length_cons, List.length_append, List.length_set, List.length_replicate, tab_len]; omega))).1 up_none ?_
          refine r_one (u := (.int .i64 (((sing (solN a (uN a.length k))).getD i []).getD 0 0))) (B := w13.heap.size) good_rI u29 ti2 rfl rfl (frI w13.heap.size w13.heap.size _ _ (hd16.getI (by first | omega | assumption | (simp only [List.length_nil, List.length_cons, List.length_append, List.length_set, List.length_replicate, tab_len]; omega) | (simp [List.length_nil, List.length_cons, List.length_append, List.length_set, List.length_replicate, tab_len]; done) | (simp [List.length_nil, List.length_cons, List.length_append, List.length_set, List.length_replicate, tab_len]; omega))).2) (Nat.le_refl _) up_none ?_
          intro v18 w18 hX18 hz18 hO18
          replace hX18 := hX18.of_drew
          have hzs18 : w13.heap.size ≤ w18.heap.size := hX18.size
          have hE18 : Ext w w18 := hE13.trans hX18
          have hL13_0x18 := hL13_0.ext (o2) hX18
          have hL13_1x18 := own_ext (o2) hL13_1 hX18
          have hd16x18 := hd16.ext g1 hX18
          have hlx19 := ldH_ext hX18 hl16
          have hd17x18 := hd17.ext g1 hX18
          have hlx20 := ldH_ext hX18 hl17
          refine e_appP (v := v3) (u := ue17) (a := v18) (r := i) u29 ti2 rfl rfl rfl hL13_0x18 hE18.size (o2.lt hL13_1x18) (by first | omega | assumption | (simp only [List.length_nil, List.length_cons, List.length_append, List.length_set, List.length_replicate, tab_len]; omega) | (simp [List.length_nil, List.length_cons, List.length_append, List.length_set, List.length_replicate, tab_len]; done) | (simp [List.length_nil, List.length_cons, List.length_append, List.length_set, List.length_replicate, tab_len]; omega)) hlx20 hO18.rd1 (by have h1 := inv_row (a := a) (k := k) (i := i) (by omega); rw [h1]; simp only [List.length_cons, List.length_nil]; omega) (by unfold maxLen; have h1 := inv_row (a := a) (k := k) (i := i) (by omega); rw [h1]; simp only [List.length_cons, List.length_nil]; omega) up_none ?_
          intro v21 w21 F21 hC21 hF21 hO21
          have hE21 : Ext w w21 := hC21.below hE18 (fun b hb => (hF21 b hb).1) hE18.size
          have hzs21 : w18.heap.size ≤ w21.heap.size := hC21.size
          have hF22 := own_keepG o2 hL13_1x18 hC21 (fun b hb => (hF21 b hb).2.1)
          refine q_idx (v := v3) i u22 ti29 rfl rfl hO21.isSl rfl (by first | omega | assumption | (simp only [List.length_nil, List.length_cons, List.length_append, List.length_set, List.length_replicate, tab_len]; omega) | (simp [List.length_nil, List.length_cons, List.length_append, List.length_set, List.length_replicate, tab_len]; done) | (simp [List.length_nil, List.length_cons, List.length_append, List.length_set, List.length_replicate, tab_len]; omega)) up_none ?_
          refine e_setP (v := v3) (u := v21) (w := w21) sz29 rfl rfl hO21 up_none ?_
          intro w23 F23 hC23 hz23 hF23 hO23
          have hE23 : Ext w w23 := hC23.below hE21 (fun b hb => (hF23 b hb).1) hE21.size
          have hzs23 : w21.heap.size ≤ w23.heap.size := hC23.size
          have hF24 := own_keepG o2 hF22 hC23 (fun b hb => (hF23 b hb).2.1)
          refine lw_nil ?_
          refine wp_plain _ [0, 0] rfl ?_
          refine q_add ((i + 1 : Nat) : Int) rfl rfl (w64n (by omega) (by first | omega | assumption | (simp only [List.length_nil, List.length_cons, List.length_append, List.length_set, List.length_replicate, tab_len]; omega) | (simp [List.length_nil, List.length_cons, List.length_append, List.length_set, List.length_replicate, tab_len]; done) | (simp [List.length_nil, List.length_cons, List.length_append, List.length_set, List.length_replicate, tab_len]; omega))) up_none ?_
          refine q_move (.int .i64 ((i + 1 : Nat) : Int)) rfl up_none ?_
          refine lw_nil ?_
          exact ⟨(i + 1), _, rfl, ⟨rfl, rfl, rfl, rfl, rfl, rfl, rfl, trivial⟩, ⟨hE23, (by rw [← inv_set (by omega)]; have h := hO23; rw [hsr] at h; exact h), hF24, (by first | omega | assumption | (simp only [List.length_nil, List.length_cons, List.length_append, List.length_set, List.length_replicate, tab_len]; omega) | (simp [List.length_nil, List.length_cons, List.length_append, List.length_set, List.length_replicate, tab_len]; done) | (simp [List.length_nil, List.length_cons, List.length_append, List.length_set, List.length_replicate, tab_len]; omega))⟩, by first | omega | (dsimp only; omega)⟩
        ·
          refine q_lss false rfl rfl (decide_eq_false hc15) up_none ?_
          refine lw_nil ?_
          refine wp_seq ?_
          refine c_cond_f rfl ?_
          refine wp_exit ?_
          refine t_exit ?_
          refine t_exit ?_
          refine c_exit_here ?_
          refine wp_plain _ [0, 0] rfl ?_
          refine q_add ((k + 1 : Nat) : Int) rfl rfl (w64n (by omega) (by first | omega | assumption | (simp only [List.length_nil, List.length_cons, List.length_append, List.length_set, List.length_replicate, tab_len]; omega) | (simp [List.length_nil, List.length_cons, List.length_append, List.length_set, List.length_replicate, tab_len]; done) | (simp [List.length_nil, List.length_cons, List.length_append, List.length_set, List.length_replicate, tab_len]; omega))) up_none ?_
          refine q_move (.int .i64 ((k + 1 : Nat) : Int)) rfl up_none ?_
          refine lw_nil ?_
          exact ⟨(k + 1), _, rfl, ⟨rfl, rfl, rfl, rfl, trivial⟩, ⟨hE13, (by have h := hL13_0.fr; rwa [mix_all (by simp) (by simp; omega)] at h), (by first | omega | assumption | (simp only [List.length_nil, List.length_cons, List.length_append, List.length_set, List.length_replicate, tab_len]; omega) | (simp [List.length_nil, List.length_cons, List.length_append, List.length_set, List.length_replicate, tab_len]; done) | (simp [List.length_nil, List.length_cons, List.length_append, List.length_set, List.length_replicate, tab_len]; omega)), (by exact .inr hdn)⟩, by first | omega | (dsimp only; omega)⟩
      ·
        refine c_cond_t (by first | rfl | (show Value.bool _ = _; rw [hb11])) ?_
        refine wp_seq ?_
        refine wp_plain _ [0, 0] rfl ?_
        refine q_assign (.slice none 0 0) rfl up_none ?_
        refine q_assign (.int .i64 ((6 : Nat) : Int)) rfl up_none ?_
        refine lw_nil ?_
        refine wp_ret ?_
        refine t_ret ?_
        refine b_ret ?_
        refine t_ret ?_
        refine t_ret ?_
        refine b_ret ?_
        refine t_ret ?_
        have hdz : detM a = 0 := by simp_all
        exact post_ret [2, 3] rfl (.tuple #[(.slice none 0 0), (.int .i64 ((6 : Nat) : Int))]) rfl ⟨(.slice none 0 0), (by rw [(iv_zero hq hdz).2]; rfl), hE10, (by rw [(iv_zero hq hdz).1]; exact frNil _ _ _)⟩
    ·
      refine q_lss false rfl rfl (decide_eq_false hc5) up_none ?_
      refine lw_nil ?_
      refine wp_seq ?_
      refine c_cond_f rfl ?_
      refine wp_exit ?_
      refine t_exit ?_
      refine t_exit ?_
      refine c_exit_here ?_
      refine wp_seq ?_
      refine wp_plain _ [0, 0, 0] rfl ?_
      refine q_move v3 rfl up_none ?_
      refine q_assign v3 rfl up_none ?_
      refine q_assign (.int .i64 ((0 : Nat) : Int)) rfl up_none ?_
      refine lw_nil ?_
      refine wp_ret ?_
      have hdn : detM a ≠ 0 := hkd.elim (fun h0 => det_nil (by omega)) id
      exact post_ret [2, 3] rfl (.tuple #[v3, (.int .i64 ((0 : Nat) : Int))]) rfl ⟨v3, (by rw [(iv_good hq hdn).2]; rfl), hE4, (by have h := hL4_0.up o2; rw [show k = a.length from by omega] at h; rw [(iv_good hq hdn).1]; exact h)⟩
  ·
    refine c_cond_t (by first | rfl | (show Value.bool _ = _; rw [hb2])) ?_
    refine wp_seq ?_
    refine wp_plain _ [0, 0] rfl ?_
    refine q_assign (.slice none 0 0) rfl up_none ?_
    refine q_assign (.int .i64 ((1 : Nat) : Int)) rfl up_none ?_
    refine lw_nil ?_
    refine wp_ret ?_
    refine t_ret ?_
    have hq : sqB a = false := by simpa using ‹(!sqB a) = true›
    exact post_ret [2, 3] rfl (.tuple #[(.slice none 0 0), (.int .i64 ((1 : Nat) : Int))]) rfl ⟨(.slice none 0 0), (by rw [(iv_bad hq).2]; rfl), hE1, (by rw [(iv_bad hq).1]; exact frNil _ _ _)⟩
end Go.Proofs.Ytjgnlnlngcjfcaa
