/- Contracts of functions: each says what the function returns for all arguments that meet its premises. Printed by gen.py. -/
import Derived.Test.YtjgnlnlngcjfcaaFwK
import Derived.Test.YtjgnlnlngcjfcaaMe
import Derived.Test.YtjgnlnlngcjfcaaT
import Derived.Test.YtjgnlnlngcjfcaaSa
import Derived.Test.YtjgnlnlngcjfcaaSb
import Derived.Test.YtjgnlnlngcjfcaaSc
import Derived.Test.YtjgnlnlngcjfcaaSf
import Derived.Test.YtjgnlnlngcjfcaaProg
namespace Go.Proofs.Ytjgnlnlngcjfcaa
open Go Go.RowKit
set_option linter.unusedVariables false
set_option linter.unusedSimpArgs false
attribute [local irreducible] LW
/- impl.scaled -/
set_option maxHeartbeats 4000000 in
set_option maxRecDepth 100000 in
theorem c_impl_scaled (w : World) (va : Value) (a : List Int) (y : Int) (ha : Rd (rdL rI) w.heap va a) (_hy : -9223372036854775808 ≤ y ∧ y ≤ 9223372036854775807) (hla : a.length ≤ 1000000000000) (hqa : allN a = true) (hy : 0 ≤ y ∧ y < 1000003) :
    Calls Try.prog 124 #[va, .int .i64 y] w (fun e w' => ∃ v0 : Value, e = .returned (v0) ∧ Ext w w' ∧ Fr (owL rI 2) w.heap.size w'.heap.size w'.heap v0 (sclS a y)) := by
  refine calls_mk [va, .int .i64 y] 27 Try.func124 rfl rfl (by simp) ?_
  have hE0 : Ext w w := Ext.refl w
  have hl_va := ha.lenle
  refine wp_seq ?_
  refine wp_plain _ [0] rfl ?_
  refine q_assign (.slice none 0 0) rfl up_none ?_
  refine lw_nil ?_
  refine wp_seq ?_
  refine wp_plain _ [0, 0, 3, 0] rfl ?_
  refine q_move va rfl up_none ?_
  refine q_len (v := va) u29 rfl ha.isSl up_none ?_
  refine r_make (n := a.length) u29 ti2 rfl rfl rfl (by first | omega | assumption | (simp only [List.length_nil, List.length_cons, List.length_append, List.length_set, List.length_replicate]; omega) | (simp [List.length_nil, List.length_cons, List.length_append, List.length_set, List.length_replicate]; done) | (simp [List.length_nil, List.length_cons, List.length_append, List.length_set, List.length_replicate]; omega)) up_none ?_
  intro v1 w1 hX1 hz1 hO1
  have hzs1 : w.heap.size ≤ w1.heap.size := hX1.size
  have hE1 : Ext w w1 := hE0.trans hX1
  refine q_assign v1 rfl up_none ?_
  refine lw_nil ?_
  refine wp_seq ?_
  refine wp_seq ?_
  refine wp_plain _ [0, 0, 0] rfl ?_
  refine q_move va rfl up_none ?_
  refine q_len (v := va) u29 rfl ha.isSl up_none ?_
  refine q_move (.int .i64 ((0 : Nat) : Int)) rfl up_none ?_
  refine lw_nil ?_
  refine wp_block ?_
  refine c_loop (S := Nat) (fun (k : Nat) => ([(12, (.int .i64 ((k : Nat) : Int))), (0, va), (1, (.int .i64 y)), (5, v1), (11, (.int .i64 ((a.length : Nat) : Int)))] : List (Nat × Value))) (fun (k : Nat) (W : World) => Ext w W ∧ Fr (owL rI 2) w.heap.size W.heap.size W.heap v1 (mix k (sclS a y) (List.replicate a.length 0)) ∧ k ≤ a.length) (fun (k : Nat) => a.length - k) 0 ⟨rfl, rfl, rfl, rfl, rfl, trivial⟩ ⟨hE1, (by rw [mix_zero]; exact hO1.up o1), (by first | omega | assumption | (simp only [List.length_nil, List.length_cons, List.length_append, List.length_set, List.length_replicate]; omega) | (simp [List.length_nil, List.length_cons, List.length_append, List.length_set, List.length_replicate]; done) | (simp [List.length_nil, List.length_cons, List.length_append, List.length_set, List.length_replicate]; omega))⟩ ?_
  clear hE0 hO1 hz1 hX1 hzs1 hE1
  rintro k ρ2 w2 ⟨hE2, hL2_0, hp2_0⟩
  have hzs2 : w.heap.size ≤ w2.heap.size := hE2.size
  have hml := mix_len k (sclS a y) (List.replicate a.length 0) (by simp)
  rw [List.length_replicate] at hml
  have hga := allN_get hqa k
  refine wp_seq ?_
  refine wp_plain _ [0] rfl ?_
  by_cases hc3 : ((k : Nat) : Int) < ((a.length : Nat) : Int)
  ·
    refine q_lss true rfl rfl (decide_eq_true hc3) up_none ?_
    refine lw_nil ?_
    refine wp_seq ?_
    refine c_cond_t rfl ?_
    refine wp_skip ?_
    refine wp_seq ?_
    refine wp_block ?_
    refine wp_seq ?_
    refine wp_plain _ [0, 0] rfl ?_
    refine q_move (.int .i64 ((k : Nat) : Int)) rfl up_none ?_
    refine q_assign (.int .i64 ((k : Nat) : Int)) rfl up_none ?_
    refine lw_nil ?_
    refine wp_plain _ [0, 0, 0, 0, 0, 2, 0, 0, 0, 0, 4] rfl ?_
    refine q_move v1 rfl up_none ?_
    refine q_move (.int .i64 ((k : Nat) : Int)) rfl up_none ?_
    refine q_move va rfl up_none ?_
    refine q_move (.int .i64 ((k : Nat) : Int)) rfl up_none ?_
    refine q_idx (v := va) k u29 ti2 rfl rfl ha.isSl rfl (by first | omega | assumption | (simp only [List.length_nil, List.length_cons, List.length_append, List.length_set, List.length_replicate]; omega) | (simp [List.length_nil, List.length_cons, List.length_append, List.length_set, List.length_replicate]; done) | (simp [List.length_nil, List.length_cons, List.length_append, List.length_set, List.length_replicate]; omega)) up_none ?_
    refine q_load (p := eptr va k 1) (.inr rfl) (.int .i64 (a.getD k 0)) one2 rfl (ldH_ext hE2 (ha.getI (by first | omega | assumption | (simp only [List.length_nil, List.length_cons, List.length_append, List.length_set, List.length_replicate]; omega) | (simp [List.length_nil, List.length_cons, List.length_append, List.length_set, List.length_replicate]; done) | (simp [List.length_nil, List.length_cons, List.length_append, List.length_set, List.length_replicate]; omega))).1) up_none ?_
    refine q_move (.int .i64 y) rfl up_none ?_
    refine q_mul (wr ((a.getD k 0) * y)) rfl rfl rfl up_none ?_
    refine q_rem (md (a.getD k 0 * y)) rfl rfl (by decide) (nm_eq hga hy) up_none ?_
    refine q_idx (v := v1) k u29 ti2 rfl rfl hL2_0.isSl rfl (by first | omega | assumption | (simp only [List.length_nil, List.length_cons, List.length_append, List.length_set, List.length_replicate]; omega) | (simp [List.length_nil, List.length_cons, List.length_append, List.length_set, List.length_replicate]; done) | (simp [List.length_nil, List.length_cons, List.length_append, List.length_set, List.length_replicate]; omega)) up_none ?_
    refine e_setI (v := v1) (w := w2) sz2 rfl rfl (md_rng _) hL2_0 (by first | omega | assumption | (simp only [List.length_nil, List.length_cons, List.length_append, List.length_set, List.length_replicate]; omega) | (simp [List.length_nil, List.length_cons, List.length_append, List.length_set, List.length_replicate]; done) | (simp [List.length_nil, List.length_cons, List.length_append, List.length_set, List.length_replicate]; omega)) up_none ?_
    intro w4 F4 hC4 hz4 hF4 hO4
    have hE4 : Ext w w4 := hC4.below hE2 (fun c hc => Nat.le_trans (Nat.le_refl _) (hF4 c hc).1) hE2.size
    have hzs4 : w2.heap.size ≤ w4.heap.size := hC4.size
    refine lw_nil ?_
    refine wp_plain _ [0, 0] rfl ?_
    refine q_add ((k + 1 : Nat) : Int) rfl rfl (w64n (by omega) (by first | omega | assumption | (simp only [List.length_nil, List.length_cons, List.length_append, List.length_set, List.length_replicate]; omega) | (simp [List.length_nil, List.length_cons, List.length_append, List.length_set, List.length_replicate]; done) | (simp [List.length_nil, List.length_cons, List.length_append, List.length_set, List.length_replicate]; omega))) up_none ?_
    refine q_move (.int .i64 ((k + 1 : Nat) : Int)) rfl up_none ?_
    refine lw_nil ?_
    exact ⟨(k + 1), _, rfl, ⟨rfl, rfl, rfl, rfl, rfl, trivial⟩, ⟨hE4, (by unfold sclS; rw [mix_tab (by simp) (by omega)]; exact hO4.up o1), (by first | omega | assumption | (simp only [List.length_nil, List.length_cons, List.length_append, List.length_set, List.length_replicate]; omega) | (simp [List.length_nil, List.length_cons, List.length_append, List.length_set, List.length_replicate]; done) | (simp [List.length_nil, List.length_cons, List.length_append, List.length_set, List.length_replicate]; omega))⟩, by first | omega | (dsimp only; omega)⟩
  ·
    refine q_lss false rfl rfl (decide_eq_false hc3) up_none ?_
    refine lw_nil ?_
    refine wp_seq ?_
    refine c_cond_f rfl ?_
    refine wp_exit ?_
    refine t_exit ?_
    refine t_exit ?_
    refine c_exit_here ?_
    refine wp_seq ?_
    refine wp_plain _ [0, 0] rfl ?_
    refine q_move v1 rfl up_none ?_
    refine q_assign v1 rfl up_none ?_
    refine lw_nil ?_
    refine wp_ret ?_
    exact post_ret [4] rfl v1 rfl ⟨v1, rfl, hE2, (by have h := hL2_0.up o1; rwa [mix_all (by simp) (by simp; omega)] at h)⟩

/- impl.added -/
set_option maxHeartbeats 4000000 in
set_option maxRecDepth 100000 in
theorem c_impl_added (w : World) (va : Value) (a : List Int) (vb : Value) (b : List Int) (ha : Rd (rdL rI) w.heap va a) (hb : Rd (rdL rI) w.heap vb b) (hla : a.length ≤ 1000000000000) (hl : a.length ≤ b.length) (hqa : allN a = true) (hqb : allN b = true) :
    Calls Try.prog 123 #[va, vb] w (fun e w' => ∃ v0 : Value, e = .returned (v0) ∧ Ext w w' ∧ Fr (owL rI 2) w.heap.size w'.heap.size w'.heap v0 (addS a b)) := by
  refine calls_mk [va, vb] 30 Try.func123 rfl rfl (by simp) ?_
  have hE0 : Ext w w := Ext.refl w
  have hl_va := ha.lenle
  have hl_vb := hb.lenle
  refine wp_seq ?_
  refine wp_plain _ [0] rfl ?_
  refine q_assign (.slice none 0 0) rfl up_none ?_
  refine lw_nil ?_
  refine wp_seq ?_
  refine wp_plain _ [0, 0, 3, 0] rfl ?_
  refine q_move va rfl up_none ?_
  refine q_len (v := va) u29 rfl ha.isSl up_none ?_
  refine r_make (n := a.length) u29 ti2 rfl rfl rfl (by first | omega | assumption | (simp only [List.length_nil, List.length_cons, List.length_append, List.length_set, List.length_replicate]; omega) | (simp [List.length_nil, List.length_cons, List.length_append, List.length_set, List.length_replicate]; done) | (simp [List.length_nil, List.length_cons, List.length_append, List.length_set, List.length_replicate]; omega)) up_none ?_
  intro v1 w1 hX1 hz1 hO1
  have hzs1 : w.heap.size ≤ w1.heap.size := hX1.size
  have hE1 : Ext w w1 := hE0.trans hX1
  refine q_assign v1 rfl up_none ?_
  refine lw_nil ?_
  refine wp_seq ?_
  refine wp_seq ?_
  refine wp_plain _ [0, 0, 0] rfl ?_
  refine q_move va rfl up_none ?_
  refine q_len (v := va) u29 rfl ha.isSl up_none ?_
  refine q_move (.int .i64 ((0 : Nat) : Int)) rfl up_none ?_
  refine lw_nil ?_
  refine wp_block ?_
  refine c_loop (S := Nat) (fun (k : Nat) => ([(12, (.int .i64 ((k : Nat) : Int))), (0, va), (1, vb), (5, v1), (11, (.int .i64 ((a.length : Nat) : Int)))] : List (Nat × Value))) (fun (k : Nat) (W : World) => Ext w W ∧ Fr (owL rI 2) w.heap.size W.heap.size W.heap v1 (mix k (addS a b) (List.replicate a.length 0)) ∧ k ≤ a.length) (fun (k : Nat) => a.length - k) 0 ⟨rfl, rfl, rfl, rfl, rfl, trivial⟩ ⟨hE1, (by rw [mix_zero]; exact hO1.up o1), (by first | omega | assumption | (simp only [List.length_nil, List.length_cons, List.length_append, List.length_set, List.length_replicate]; omega) | (simp [List.length_nil, List.length_cons, List.length_append, List.length_set, List.length_replicate]; done) | (simp [List.length_nil, List.length_cons, List.length_append, List.length_set, List.length_replicate]; omega))⟩ ?_
  clear hE0 hO1 hz1 hX1 hzs1 hE1
  rintro k ρ2 w2 ⟨hE2, hL2_0, hp2_0⟩
  have hzs2 : w.heap.size ≤ w2.heap.size := hE2.size
  have hml := mix_len k (addS a b) (List.replicate a.length 0) (by simp)
  rw [List.length_replicate] at hml
  have hga := allN_get hqa k
  have hgb := allN_get hqb k
  refine wp_seq ?_
  refine wp_plain _ [0] rfl ?_
  by_cases hc3 : ((k : Nat) : Int) < ((a.length : Nat) : Int)
  ·
    refine q_lss true rfl rfl (decide_eq_true hc3) up_none ?_
    refine lw_nil ?_
    refine wp_seq ?_
    refine c_cond_t rfl ?_
    refine wp_skip ?_
    refine wp_seq ?_
    refine wp_block ?_
    refine wp_seq ?_
    refine wp_plain _ [0, 0] rfl ?_
    refine q_move (.int .i64 ((k : Nat) : Int)) rfl up_none ?_
    refine q_assign (.int .i64 ((k : Nat) : Int)) rfl up_none ?_
    refine lw_nil ?_
    refine wp_draw _ [0, 0, 0, 0, 0, 1, 0, 0, 0, 1, 0, 0, 0, 4] mixed (by kernel_rfl) ?_
    refine q_move v1 rfl up_none ?_
    refine q_move (.int .i64 ((k : Nat) : Int)) rfl up_none ?_
    refine q_move va rfl up_none ?_
    refine q_move (.int .i64 ((k : Nat) : Int)) rfl up_none ?_
    refine q_idx (v := va) k u29 ti2 rfl rfl ha.isSl rfl (by first | omega | assumption | (simp only [List.length_nil, List.length_cons, List.length_append, List.length_set, List.length_replicate]; omega) | (simp [List.length_nil, List.length_cons, List.length_append, List.length_set, List.length_replicate]; done) | (simp [List.length_nil, List.length_cons, List.length_append, List.length_set, List.length_replicate]; omega)) up_none ?_
    refine q_load (p := eptr va k 1) (.inl rfl) (.int .i64 (a.getD k 0)) one2 rfl (ldH_ext hE2.drew (ha.getI (by first | omega | assumption | (simp only [List.length_nil, List.length_cons, List.length_append, List.length_set, List.length_replicate]; omega) | (simp [List.length_nil, List.length_cons, List.length_append, List.length_set, List.length_replicate]; done) | (simp [List.length_nil, List.length_cons, List.length_append, List.length_set, List.length_replicate]; omega))).1) up_none ?_
    refine q_move vb rfl up_none ?_
    refine q_move (.int .i64 ((k : Nat) : Int)) rfl up_none ?_
    refine q_idx (v := vb) k u29 ti2 rfl rfl hb.isSl rfl (by first | omega | assumption | (simp only [List.length_nil, List.length_cons, List.length_append, List.length_set, List.length_replicate]; omega) | (simp [List.length_nil, List.length_cons, List.length_append, List.length_set, List.length_replicate]; done) | (simp [List.length_nil, List.length_cons, List.length_append, List.length_set, List.length_replicate]; omega)) up_none ?_
    refine q_load (p := eptr vb k 1) (.inl rfl) (.int .i64 (b.getD k 0)) one2 rfl (ldH_ext hE2.drew (hb.getI (by first | omega | assumption | (simp only [List.length_nil, List.length_cons, List.length_append, List.length_set, List.length_replicate]; omega) | (simp [List.length_nil, List.length_cons, List.length_append, List.length_set, List.length_replicate]; done) | (simp [List.length_nil, List.length_cons, List.length_append, List.length_set, List.length_replicate]; omega))).1) up_none ?_
    refine q_add (wr ((a.getD k 0) + (b.getD k 0))) rfl rfl rfl up_none ?_
    refine q_rem (md (a.getD k 0 + b.getD k 0)) rfl rfl (by decide) (nadd_eq hga hgb) up_none ?_
    refine q_idx (v := v1) k u29 ti2 rfl rfl hL2_0.isSl rfl (by first | omega | assumption | (simp only [List.length_nil, List.length_cons, List.length_append, List.length_set, List.length_replicate]; omega) | (simp [List.length_nil, List.length_cons, List.length_append, List.length_set, List.length_replicate]; done) | (simp [List.length_nil, List.length_cons, List.length_append, List.length_set, List.length_replicate]; omega)) up_none ?_
    refine e_setI (v := v1) (w := w2.drew) sz2 rfl rfl (md_rng _) hL2_0 (by first | omega | assumption | (simp only [List.length_nil, List.length_cons, List.length_append, List.length_set, List.length_replicate]; omega) | (simp [List.length_nil, List.length_cons, List.length_append, List.length_set, List.length_replicate]; done) | (simp [List.length_nil, List.length_cons, List.length_append, List.length_set, List.length_replicate]; omega)) up_none ?_
    intro w4 F4 hC4 hz4 hF4 hO4
    replace hC4 := hC4.of_drew
    have hE4 : Ext w w4 := hC4.below hE2 (fun c hc => Nat.le_trans (Nat.le_refl _) (hF4 c hc).1) hE2.size
    have hzs4 : w2.heap.size ≤ w4.heap.size := hC4.size
    refine lw_nil ?_
    refine wp_plain _ [0, 0] rfl ?_
    refine q_add ((k + 1 : Nat) : Int) rfl rfl (w64n (by omega) (by first | omega | assumption | (simp only [List.length_nil, List.length_cons, List.length_append, List.length_set, List.length_replicate]; omega) | (simp [List.length_nil, List.length_cons, List.length_append, List.length_set, List.length_replicate]; done) | (simp [List.length_nil, List.length_cons, List.length_append, List.length_set, List.length_replicate]; omega))) up_none ?_
    refine q_move (.int .i64 ((k + 1 : Nat) : Int)) rfl up_none ?_
    refine lw_nil ?_
    exact ⟨(k + 1), _, rfl, ⟨rfl, rfl, rfl, rfl, rfl, trivial⟩, ⟨hE4, (by unfold addS; rw [mix_tab (by simp) (by omega)]; exact hO4.up o1), (by first | omega | assumption | (simp only [List.length_nil, List.length_cons, List.length_append, List.length_set, List.length_replicate]; omega) | (simp [List.length_nil, List.length_cons, List.length_append, List.length_set, List.length_replicate]; done) | (simp [List.length_nil, List.length_cons, List.length_append, List.length_set, List.length_replicate]; omega))⟩, by first | omega | (dsimp only; omega)⟩
  ·
    refine q_lss false rfl rfl (decide_eq_false hc3) up_none ?_
    refine lw_nil ?_
    refine wp_seq ?_
    refine c_cond_f rfl ?_
    refine wp_exit ?_
    refine t_exit ?_
    refine t_exit ?_
    refine c_exit_here ?_
    refine wp_seq ?_
    refine wp_plain _ [0, 0] rfl ?_
    refine q_move v1 rfl up_none ?_
    refine q_assign v1 rfl up_none ?_
    refine lw_nil ?_
    refine wp_ret ?_
    exact post_ret [4] rfl v1 rfl ⟨v1, rfl, hE2, (by have h := hL2_0.up o1; rwa [mix_all (by simp) (by simp; omega)] at h)⟩

/- impl.reduced -/
set_option maxHeartbeats 4000000 in
set_option maxRecDepth 100000 in
theorem c_impl_reduced (w : World) (va : Value) (a : List Int) (vb : Value) (b : List Int) (ha : Rd (rdL rI) w.heap va a) (hb : Rd (rdL rI) w.heap vb b) (hla : a.length ≤ 1000000000000) (hlb : b.length ≤ 1000000000000) (hl : a.length ≤ b.length) (hqa : allN a = true) (hqb : allN b = true) :
    Calls Try.prog 109 #[va, vb] w (fun e w' => ∃ v0 : Value, e = .returned (v0) ∧ Ext w w' ∧ Fr (owL rI 2) w.heap.size w'.heap.size w'.heap v0 (redS a b)) := by
  refine calls_mk [va, vb] 9 Try.func109 rfl rfl (by simp) ?_
  have hE0 : Ext w w := Ext.refl w
  have hl_va := ha.lenle
  have hl_vb := hb.lenle
  refine wp_seq ?_
  refine wp_plain _ [0] rfl ?_
  refine q_assign (.slice none 0 0) rfl up_none ?_
  refine lw_nil ?_
  refine wp_seq ?_
  refine wp_plain _ [0, 0, 3, 3, 0] rfl ?_
  refine q_move va rfl up_none ?_
  refine q_move vb rfl up_none ?_
  refine lw_call 124 [] [] [vb, (.int .i64 ((1000002 : Nat) : Int))] rfl rfl cf124 up_none (c_impl_scaled _ _ _ _ (hb.ext g1 hE0) (by omega) (by exact hlb) (by exact hqb) (by omega)) ?_
  rintro e1 w1 ⟨v1_0, rfl, hX1, hO1_0⟩
  refine ⟨_, rfl, hX1, ?_⟩
  have hzs1 : w.heap.size ≤ w1.heap.size := hX1.size
  have hE1 : Ext w w1 := hE0.trans hX1
  refine lw_call 123 [] [] [va, v1_0] rfl rfl cf123 up_none (c_impl_added _ _ _ _ _ (ha.ext g1 hE1) hO1_0.rd1 (by exact hla) (by simp; omega) (by exact hqa) (by exact sclS_num _ _)) ?_
  rintro e2 w2 ⟨v2_0, rfl, hX2, hO2_0⟩
  refine ⟨_, rfl, hX2, ?_⟩
  have hzs2 : w1.heap.size ≤ w2.heap.size := hX2.size
  have hE2 : Ext w w2 := hE1.trans hX2
  have hO1_0x2 := hO1_0.ext (o1) hX2
  refine q_assign v2_0 rfl up_none ?_
  refine lw_nil ?_
  refine wp_ret ?_
  exact post_ret [4] rfl v2_0 rfl ⟨v2_0, rfl, hE2, (by rw [← red_eq hl]; exact (hO2_0.up o1).low hE1.size)⟩

/- impl.product -/
set_option maxHeartbeats 4000000 in
set_option maxRecDepth 100000 in
theorem c_impl_product (w : World) (va : Value) (a : List Int) (vb : Value) (b : List Int) (ha : Rd (rdL rI) w.heap va a) (hb : Rd (rdL rI) w.heap vb b) (hla : a.length ≤ 1000000000000) (hl : a.length ≤ b.length) (hqa : allN a = true) (hqb : allN b = true) :
    Calls Try.prog 84 #[va, vb] w (fun e w' => ∃ v0 : Value, e = .returned (v0) ∧ Ext w w' ∧ Fr (owL rI 2) w.heap.size w'.heap.size w'.heap v0 (proS a b)) := by
  refine calls_mk [va, vb] 43 Try.func84 rfl rfl (by simp) ?_
  have hE0 : Ext w w := Ext.refl w
  have hl_va := ha.lenle
  have hl_vb := hb.lenle
  refine wp_seq ?_
  refine wp_plain _ [0] rfl ?_
  refine q_assign (.slice none 0 0) rfl up_none ?_
  refine lw_nil ?_
  refine wp_seq ?_
  refine wp_plain _ [0, 0, 3, 0] rfl ?_
  refine q_move va rfl up_none ?_
  refine q_len (v := va) u29 rfl ha.isSl up_none ?_
  refine r_make (n := a.length) u29 ti2 rfl rfl rfl (by first | omega | assumption | (simp only [List.length_nil, List.length_cons, List.length_append, List.length_set, List.length_replicate]; omega) | (simp [List.length_nil, List.length_cons, List.length_append, List.length_set, List.length_replicate]; done) | (simp [List.length_nil, List.length_cons, List.length_append, List.length_set, List.length_replicate]; omega)) up_none ?_
  intro v1 w1 hX1 hz1 hO1
  have hzs1 : w.heap.size ≤ w1.heap.size := hX1.size
  have hE1 : Ext w w1 := hE0.trans hX1
  refine q_assign v1 rfl up_none ?_
  refine lw_nil ?_
  refine wp_seq ?_
  refine wp_seq ?_
  refine wp_plain _ [0, 0, 0] rfl ?_
  refine q_move va rfl up_none ?_
  refine q_len (v := va) u29 rfl ha.isSl up_none ?_
  refine q_move (.int .i64 ((0 : Nat) : Int)) rfl up_none ?_
  refine lw_nil ?_
  refine wp_block ?_
  refine c_loop (S := Nat) (fun (k : Nat) => ([(13, (.int .i64 ((k : Nat) : Int))), (0, va), (1, vb), (5, v1), (12, (.int .i64 ((a.length : Nat) : Int)))] : List (Nat × Value))) (fun (k : Nat) (W : World) => Ext w W ∧ Fr (owL rI 2) w.heap.size W.heap.size W.heap v1 (mix k (proS a b) (List.replicate a.length 0)) ∧ k ≤ a.length) (fun (k : Nat) => a.length - k) 0 ⟨rfl, rfl, rfl, rfl, rfl, trivial⟩ ⟨hE1, (by rw [mix_zero]; exact hO1.up o1), (by first | omega | assumption | (simp only [List.length_nil, List.length_cons, List.length_append, List.length_set, List.length_replicate]; omega) | (simp [List.length_nil, List.length_cons, List.length_append, List.length_set, List.length_replicate]; done) | (simp [List.length_nil, List.length_cons, List.length_append, List.length_set, List.length_replicate]; omega))⟩ ?_
  clear hE0 hO1 hz1 hX1 hzs1 hE1
  rintro k ρ2 w2 ⟨hE2, hL2_0, hp2_0⟩
  have hzs2 : w.heap.size ≤ w2.heap.size := hE2.size
  have hml := mix_len k (proS a b) (List.replicate a.length 0) (by simp)
  rw [List.length_replicate] at hml
  have hga := allN_get hqa k
  refine wp_seq ?_
  refine wp_plain _ [0] rfl ?_
  by_cases hc3 : ((k : Nat) : Int) < ((a.length : Nat) : Int)
  ·
    refine q_lss true rfl rfl (decide_eq_true hc3) up_none ?_
    refine lw_nil ?_
    refine wp_seq ?_
    refine c_cond_t rfl ?_
    refine wp_skip ?_
    refine wp_seq ?_
    refine wp_block ?_
    refine wp_seq ?_
    refine wp_plain _ [0, 0] rfl ?_
    refine q_move (.int .i64 ((k : Nat) : Int)) rfl up_none ?_
    refine q_assign (.int .i64 ((k : Nat) : Int)) rfl up_none ?_
    refine lw_nil ?_
    refine wp_seq ?_
    refine wp_plain _ [0] rfl ?_
    refine q_assign (.int .i64 ((0 : Nat) : Int)) rfl up_none ?_
    refine lw_nil ?_
    refine wp_block ?_
    refine c_loop (S := Nat) (fun (i : Nat) => ([(7, (.int .i64 ((i : Nat) : Int))), (0, va), (1, vb), (5, v1), (6, (.int .i64 ((k : Nat) : Int))), (12, (.int .i64 ((a.length : Nat) : Int))), (13, (.int .i64 ((k : Nat) : Int)))] : List (Nat × Value))) (fun (i : Nat) (W : World) => Ext w W ∧ Fr (owL rI 2) w.heap.size W.heap.size W.heap v1 ((mix k (proS a b) (List.replicate a.length 0)).set k (prk a b k i)) ∧ i ≤ k + 1) (fun (i : Nat) => k + 1 - i) 0 ⟨rfl, rfl, rfl, rfl, rfl, rfl, rfl, trivial⟩ ⟨hE2, (by have h := hL2_0.up o1; rw [← mix_rep0 (T := proS a b) (by simp) (by omega)] at h; exact h), (by first | omega | assumption | (simp only [List.length_nil, List.length_cons, List.length_append, List.length_set, List.length_replicate]; omega) | (simp [List.length_nil, List.length_cons, List.length_append, List.length_set, List.length_replicate]; done) | (simp [List.length_nil, List.length_cons, List.length_append, List.length_set, List.length_replicate]; omega))⟩ ?_
    clear hL2_0 hE2 hzs2
    rintro i ρ4 w4 ⟨hE4, hL4_0, hp4_0⟩
    have hzs4 : w.heap.size ≤ w4.heap.size := hE4.size
    have hms : ((mix k (proS a b) (List.replicate a.length 0)).set k (prk a b k i)).length = a.length := by rw [List.length_set]; exact hml
    refine wp_seq ?_
    refine wp_seq ?_
    refine wp_plain _ [0, 0, 0] rfl ?_
    refine q_move (.int .i64 ((i : Nat) : Int)) rfl up_none ?_
    refine q_move (.int .i64 ((k : Nat) : Int)) rfl up_none ?_
    by_cases hc5 : ((i : Nat) : Int) ≤ ((k : Nat) : Int)
    ·
      refine q_leq true rfl rfl (decide_eq_true hc5) up_none ?_
      refine lw_nil ?_
      refine c_cond_t rfl ?_
      refine wp_skip ?_
      refine wp_seq ?_
      refine wp_block ?_
      refine wp_draw _ [0, 0, 0, 0, 0, 1, 0, 0, 0, 1, 0, 0, 0, 0, 0, 1, 0, 0, 0, 0, 4] mixed (by kernel_rfl) ?_
      refine q_move v1 rfl up_none ?_
      refine q_move (.int .i64 ((k : Nat) : Int)) rfl up_none ?_
      refine q_move v1 rfl up_none ?_
      refine q_move (.int .i64 ((k : Nat) : Int)) rfl up_none ?_
      refine q_idx (v := v1) k u29 ti2 rfl rfl hL4_0.isSl rfl (by first | omega | assumption | (simp only [List.length_nil, List.length_cons, List.length_append, List.length_set, List.length_replicate]; omega) | (simp [List.length_nil, List.length_cons, List.length_append, List.length_set, List.length_replicate]; done) | (simp [List.length_nil, List.length_cons, List.length_append, List.length_set, List.length_replicate]; omega)) up_none ?_
      refine q_load (p := eptr v1 k 1) (.inl rfl) (.int .i64 (((mix k (proS a b) (List.replicate a.length 0)).set k (prk a b k i)).getD k 0)) one2 rfl (hL4_0.rd1.getI (by first | omega | assumption | (simp only [List.length_nil, List.length_cons, List.length_append, List.length_set, List.length_replicate]; omega) | (simp [List.length_nil, List.length_cons, List.length_append, List.length_set, List.length_replicate]; done) | (simp [List.length_nil, List.length_cons, List.length_append, List.length_set, List.length_replicate]; omega))).1 up_none ?_
      refine q_move va rfl up_none ?_
      refine q_move (.int .i64 ((i : Nat) : Int)) rfl up_none ?_
      refine q_idx (v := va) i u29 ti2 rfl rfl ha.isSl rfl (by first | omega | assumption | (simp only [List.length_nil, List.length_cons, List.length_append, List.length_set, List.length_replicate]; omega) | (simp [List.length_nil, List.length_cons, List.length_append, List.length_set, List.length_replicate]; done) | (simp [List.length_nil, List.length_cons, List.length_append, List.length_set, List.length_replicate]; omega)) up_none ?_
      refine q_load (p := eptr va i 1) (.inl rfl) (.int .i64 (a.getD i 0)) one2 rfl (ldH_ext hE4.drew (ha.getI (by first | omega | assumption | (simp only [List.length_nil, List.length_cons, List.length_append, List.length_set, List.length_replicate]; omega) | (simp [List.length_nil, List.length_cons, List.length_append, List.length_set, List.length_replicate]; done) | (simp [List.length_nil, List.length_cons, List.length_append, List.length_set, List.length_replicate]; omega))).1) up_none ?_
      refine q_move vb rfl up_none ?_
      refine q_move (.int .i64 ((k : Nat) : Int)) rfl up_none ?_
      refine q_move (.int .i64 ((i : Nat) : Int)) rfl up_none ?_
      refine q_sub ((k - i : Nat) : Int) rfl rfl (w64n (by omega) (by omega)) up_none ?_
      refine q_idx (v := vb) (k - i) u29 ti2 rfl rfl hb.isSl rfl (by first | omega | assumption | (simp only [List.length_nil, List.length_cons, List.length_append, List.length_set, List.length_replicate]; omega) | (simp [List.length_nil, List.length_cons, List.length_append, List.length_set, List.length_replicate]; done) | (simp [List.length_nil, List.length_cons, List.length_append, List.length_set, List.length_replicate]; omega)) up_none ?_
      refine q_load (p := eptr vb (k - i) 1) (.inl rfl) (.int .i64 (b.getD (k - i) 0)) one2 rfl (ldH_ext hE4.drew (hb.getI (by first | omega | assumption | (simp only [List.length_nil, List.length_cons, List.length_append, List.length_set, List.length_replicate]; omega) | (simp [List.length_nil, List.length_cons, List.length_append, List.length_set, List.length_replicate]; done) | (simp [List.length_nil, List.length_cons, List.length_append, List.length_set, List.length_replicate]; omega))).1) up_none ?_
      refine q_mul (wr ((a.getD i 0) * (b.getD (k - i) 0))) rfl rfl rfl up_none ?_
      refine q_add (wr ((((mix k (proS a b) (List.replicate a.length 0)).set k (prk a b k i)).getD k 0) + (wr ((a.getD i 0) * (b.getD (k - i) 0))))) rfl rfl rfl up_none ?_
      refine q_rem (md (prk a b k i + a.getD i 0 * b.getD (k - i) 0)) rfl rfl (by decide) (by rw [getD_set _ _ _ _ _ (by omega), if_pos rfl]; exact dot_eq (prk_num _ _ _ _) (allN_get hqa _) (allN_get hqb _)) up_none ?_
      refine q_idx (v := v1) k u29 ti2 rfl rfl hL4_0.isSl rfl (by first | omega | assumption | (simp only [List.length_nil, List.length_cons, List.length_append, List.length_set, List.length_replicate]; omega) | (simp [List.length_nil, List.length_cons, List.length_append, List.length_set, List.length_replicate]; done) | (simp [List.length_nil, List.length_cons, List.length_append, List.length_set, List.length_replicate]; omega)) up_none ?_
      refine e_setI (v := v1) (w := w4.drew) sz2 rfl rfl (md_rng _) hL4_0 (by first | omega | assumption | (simp only [List.length_nil, List.length_cons, List.length_append, List.length_set, List.length_replicate]; omega) | (simp [List.length_nil, List.length_cons, List.length_append, List.length_set, List.length_replicate]; done) | (simp [List.length_nil, List.length_cons, List.length_append, List.length_set, List.length_replicate]; omega)) up_none ?_
      intro w6 F6 hC6 hz6 hF6 hO6
      replace hC6 := hC6.of_drew
      have hE6 : Ext w w6 := hC6.below hE4 (fun c hc => Nat.le_trans (Nat.le_refl _) (hF6 c hc).1) hE4.size
      have hzs6 : w4.heap.size ≤ w6.heap.size := hC6.size
      refine lw_nil ?_
      refine wp_plain _ [0, 0, 0] rfl ?_
      refine q_move (.int .i64 ((i : Nat) : Int)) rfl up_none ?_
      refine q_add ((i + 1 : Nat) : Int) rfl rfl (w64n (by omega) (by first | omega | assumption | (simp only [List.length_nil, List.length_cons, List.length_append, List.length_set, List.length_replicate]; omega) | (simp [List.length_nil, List.length_cons, List.length_append, List.length_set, List.length_replicate]; done) | (simp [List.length_nil, List.length_cons, List.length_append, List.length_set, List.length_replicate]; omega))) up_none ?_
      refine q_assign (.int .i64 ((i + 1 : Nat) : Int)) rfl up_none ?_
      refine lw_nil ?_
      exact ⟨(i + 1), _, rfl, ⟨rfl, rfl, rfl, rfl, rfl, rfl, rfl, trivial⟩, ⟨hE6, (by have h := hO6.up o1; rw [List.set_set] at h; exact h), (by first | omega | assumption | (simp only [List.length_nil, List.length_cons, List.length_append, List.length_set, List.length_replicate]; omega) | (simp [List.length_nil, List.length_cons, List.length_append, List.length_set, List.length_replicate]; done) | (simp [List.length_nil, List.length_cons, List.length_append, List.length_set, List.length_replicate]; omega))⟩, by first | omega | (dsimp only; omega)⟩
    ·
      refine q_leq false rfl rfl (decide_eq_false hc5) up_none ?_
      refine lw_nil ?_
      refine c_cond_f rfl ?_
      refine wp_exit ?_
      refine t_exit ?_
      refine t_exit ?_
      refine c_exit_here ?_
      refine wp_plain _ [0, 0] rfl ?_
      refine q_add ((k + 1 : Nat) : Int) rfl rfl (w64n (by omega) (by first | omega | assumption | (simp only [List.length_nil, List.length_cons, List.length_append, List.length_set, List.length_replicate]; omega) | (simp [List.length_nil, List.length_cons, List.length_append, List.length_set, List.length_replicate]; done) | (simp [List.length_nil, List.length_cons, List.length_append, List.length_set, List.length_replicate]; omega))) up_none ?_
      refine q_move (.int .i64 ((k + 1 : Nat) : Int)) rfl up_none ?_
      refine lw_nil ?_
      exact ⟨(k + 1), _, rfl, ⟨rfl, rfl, rfl, rfl, rfl, trivial⟩, ⟨hE4, (by have h := hL4_0.up o1; rw [show i = k + 1 from by omega] at h; unfold proS; rw [mix_tab (by simp) (by omega)]; exact h), (by first | omega | assumption | (simp only [List.length_nil, List.length_cons, List.length_append, List.length_set, List.length_replicate]; omega) | (simp [List.length_nil, List.length_cons, List.length_append, List.length_set, List.length_replicate]; done) | (simp [List.length_nil, List.length_cons, List.length_append, List.length_set, List.length_replicate]; omega))⟩, by first | omega | (dsimp only; omega)⟩
  ·
    refine q_lss false rfl rfl (decide_eq_false hc3) up_none ?_
    refine lw_nil ?_
    refine wp_seq ?_
    refine c_cond_f rfl ?_
    refine wp_exit ?_
    refine t_exit ?_
    refine t_exit ?_
    refine c_exit_here ?_
    refine wp_seq ?_
    refine wp_plain _ [0, 0] rfl ?_
    refine q_move v1 rfl up_none ?_
    refine q_assign v1 rfl up_none ?_
    refine lw_nil ?_
    refine wp_ret ?_
    exact post_ret [4] rfl v1 rfl ⟨v1, rfl, hE2, (by have h := hL2_0.up o1; rwa [mix_all (by simp) (by simp; omega)] at h)⟩

/- impl.quotient -/
set_option maxHeartbeats 4000000 in
set_option maxRecDepth 100000 in
theorem c_impl_quotient (w : World) (va : Value) (a : List Int) (vb : Value) (b : List Int) (ha : Rd (rdL rI) w.heap va a) (hb : Rd (rdL rI) w.heap vb b) (hla : a.length ≤ 1000000000000) (hl : a.length ≤ b.length) (h1 : 0 < b.length) (hqa : allN a = true) (hqb : allN b = true) :
    Calls Try.prog 108 #[va, vb] w (fun e w' => ∃ v0 : Value, e = .returned (v0) ∧ Ext w w' ∧ Fr (owL rI 2) w.heap.size w'.heap.size w'.heap v0 (quoS a b)) := by
  refine calls_mk [va, vb] 53 Try.func108 rfl rfl (by simp) ?_
  have hE0 : Ext w w := Ext.refl w
  have hl_va := ha.lenle
  have hl_vb := hb.lenle
  refine wp_seq ?_
  refine wp_plain _ [0] rfl ?_
  refine q_assign (.slice none 0 0) rfl up_none ?_
  refine lw_nil ?_
  refine wp_seq ?_
  refine wp_draw _ [0, 0, 3, 0, 0, 1, 0, 0, 0] mixed (by kernel_rfl) ?_
  refine q_move va rfl up_none ?_
  refine q_len (v := va) u29 rfl ha.isSl up_none ?_
  refine r_make (n := a.length) u29 ti2 rfl rfl rfl (by first | omega | assumption | (simp only [List.length_nil, List.length_cons, List.length_append, List.length_set, List.length_replicate]; omega) | (simp [List.length_nil, List.length_cons, List.length_append, List.length_set, List.length_replicate]; done) | (simp [List.length_nil, List.length_cons, List.length_append, List.length_set, List.length_replicate]; omega)) up_none ?_
  intro v1 w1 hX1 hz1 hO1
  replace hX1 := hX1.of_drew
  have hzs1 : w.heap.size ≤ w1.heap.size := hX1.size
  have hE1 : Ext w w1 := hE0.trans hX1
  refine q_move vb rfl up_none ?_
  refine q_idx (v := vb) 0 u29 ti2 rfl rfl hb.isSl rfl (by first | omega | assumption | (simp only [List.length_nil, List.length_cons, List.length_append, List.length_set, List.length_replicate]; omega) | (simp [List.length_nil, List.length_cons, List.length_append, List.length_set, List.length_replicate]; done) | (simp [List.length_nil, List.length_cons, List.length_append, List.length_set, List.length_replicate]; omega)) up_none ?_
  refine q_load (p := eptr vb 0 1) (.inl rfl) (.int .i64 (b.getD 0 0)) one2 rfl (ldH_ext hE0.drew (hb.getI (by first | omega | assumption | (simp only [List.length_nil, List.length_cons, List.length_append, List.length_set, List.length_replicate]; omega) | (simp [List.length_nil, List.length_cons, List.length_append, List.length_set, List.length_replicate]; done) | (simp [List.length_nil, List.length_cons, List.length_append, List.length_set, List.length_replicate]; omega))).1) up_none ?_
  refine lw_callq 68 [] [] [(.int .i64 (b.getD 0 0))] rfl rfl cf68 up_none (.int .i64 (inv (b.getD 0 0))) (fun wq => c_impl_inverse wq _ (hb.getI (by first | omega | assumption | (simp only [List.length_nil, List.length_cons, List.length_append, List.length_set, List.length_replicate]; omega) | (simp [List.length_nil, List.length_cons, List.length_append, List.length_set, List.length_replicate]; done) | (simp [List.length_nil, List.length_cons, List.length_append, List.length_set, List.length_replicate]; omega))).2) ?_
  refine q_assign v1 rfl up_none ?_
  refine q_assign (.int .i64 (inv (b.getD 0 0))) rfl up_none ?_
  refine lw_nil ?_
  refine wp_seq ?_
  refine wp_seq ?_
  refine wp_plain _ [0, 0, 0] rfl ?_
  refine q_move va rfl up_none ?_
  refine q_len (v := va) u29 rfl ha.isSl up_none ?_
  refine q_move (.int .i64 ((0 : Nat) : Int)) rfl up_none ?_
  refine lw_nil ?_
  refine wp_block ?_
  refine c_loop (S := Nat) (fun (k : Nat) => ([(19, (.int .i64 ((k : Nat) : Int))), (0, va), (1, vb), (5, v1), (6, (.int .i64 (inv (b.getD 0 0)))), (18, (.int .i64 ((a.length : Nat) : Int)))] : List (Nat × Value))) (fun (k : Nat) (W : World) => Ext w W ∧ Fr (owL rI 2) w.heap.size W.heap.size W.heap v1 (mix k (quoS a b) (List.replicate a.length 0)) ∧ k ≤ a.length) (fun (k : Nat) => a.length - k) 0 ⟨rfl, rfl, rfl, rfl, rfl, rfl, trivial⟩ ⟨hE1, (by rw [mix_zero]; exact hO1.up o1), (by first | omega | assumption | (simp only [List.length_nil, List.length_cons, List.length_append, List.length_set, List.length_replicate]; omega) | (simp [List.length_nil, List.length_cons, List.length_append, List.length_set, List.length_replicate]; done) | (simp [List.length_nil, List.length_cons, List.length_append, List.length_set, List.length_replicate]; omega))⟩ ?_
  clear hE0 hO1 hz1 hX1 hzs1 hE1
  rintro k ρ3 w3 ⟨hE3, hL3_0, hp3_0⟩
  have hzs3 : w.heap.size ≤ w3.heap.size := hE3.size
  have hml := mix_len k (quoS a b) (List.replicate a.length 0) (by simp)
  rw [List.length_replicate] at hml
  have hga := allN_get hqa k
  refine wp_seq ?_
  refine wp_plain _ [0] rfl ?_
  by_cases hc4 : ((k : Nat) : Int) < ((a.length : Nat) : Int)
  ·
    refine q_lss true rfl rfl (decide_eq_true hc4) up_none ?_
    refine lw_nil ?_
    refine wp_seq ?_
    refine c_cond_t rfl ?_
    refine wp_skip ?_
    refine wp_seq ?_
    refine wp_block ?_
    refine wp_seq ?_
    refine wp_plain _ [0, 0] rfl ?_
    refine q_move (.int .i64 ((k : Nat) : Int)) rfl up_none ?_
    refine q_assign (.int .i64 ((k : Nat) : Int)) rfl up_none ?_
    refine lw_nil ?_
    refine wp_seq ?_
    refine wp_plain _ [0, 0, 0, 2, 0] rfl ?_
    refine q_move va rfl up_none ?_
    refine q_move (.int .i64 ((k : Nat) : Int)) rfl up_none ?_
    refine q_idx (v := va) k u29 ti2 rfl rfl ha.isSl rfl (by first | omega | assumption | (simp only [List.length_nil, List.length_cons, List.length_append, List.length_set, List.length_replicate]; omega) | (simp [List.length_nil, List.length_cons, List.length_append, List.length_set, List.length_replicate]; done) | (simp [List.length_nil, List.length_cons, List.length_append, List.length_set, List.length_replicate]; omega)) up_none ?_
    refine q_load (p := eptr va k 1) (.inr rfl) (.int .i64 (a.getD k 0)) one2 rfl (ldH_ext hE3 (ha.getI (by first | omega | assumption | (simp only [List.length_nil, List.length_cons, List.length_append, List.length_set, List.length_replicate]; omega) | (simp [List.length_nil, List.length_cons, List.length_append, List.length_set, List.length_replicate]; done) | (simp [List.length_nil, List.length_cons, List.length_append, List.length_set, List.length_replicate]; omega))).1) up_none ?_
    refine q_assign (.int .i64 (a.getD k 0)) rfl up_none ?_
    refine lw_nil ?_
    refine wp_seq ?_
    refine wp_seq ?_
    refine wp_plain _ [0] rfl ?_
    refine q_assign (.int .i64 ((0 : Nat) : Int)) rfl up_none ?_
    refine lw_nil ?_
    refine wp_block ?_
    refine c_loop (S := Nat × Int) (fun (⟨i, t⟩ : Nat × Int) => ([(8, (.int .i64 t)), (9, (.int .i64 ((i : Nat) : Int))), (0, va), (1, vb), (5, v1), (6, (.int .i64 (inv (b.getD 0 0)))), (7, (.int .i64 ((k : Nat) : Int))), (18, (.int .i64 ((a.length : Nat) : Int))), (19, (.int .i64 ((k : Nat) : Int)))] : List (Nat × Value))) (fun (⟨i, t⟩ : Nat × Int) (W : World) => Ext w W ∧ Fr (owL rI 2) w.heap.size w3.heap.size W.heap v1 (mix k (quoS a b) (List.replicate a.length 0)) ∧ i ≤ k ∧ t = qrk a b (quoS a b) k i ∧ (0 ≤ t ∧ t < 1000003)) (fun (⟨i, t⟩ : Nat × Int) => k - i) (0, (a.getD k 0)) ⟨rfl, rfl, rfl, rfl, rfl, rfl, rfl, rfl, rfl, trivial⟩ ⟨hE3, hL3_0, (by first | omega | assumption | (simp only [List.length_nil, List.length_cons, List.length_append, List.length_set, List.length_replicate]; omega) | (simp [List.length_nil, List.length_cons, List.length_append, List.length_set, List.length_replicate]; done) | (simp [List.length_nil, List.length_cons, List.length_append, List.length_set, List.length_replicate]; omega)), (by rfl), (by exact allN_get hqa k)⟩ ?_
    clear hL3_0
    rintro ⟨i, t⟩ ρ5 w5 ⟨hE5, hL5_0, hp5_0, ht, htr⟩
    have hzs5 : w.heap.size ≤ w5.heap.size := hE5.size
    refine wp_seq ?_
    refine wp_seq ?_
    refine wp_plain _ [0, 0, 0] rfl ?_
    refine q_move (.int .i64 ((i : Nat) : Int)) rfl up_none ?_
    refine q_move (.int .i64 ((k : Nat) : Int)) rfl up_none ?_
    by_cases hc6 : ((i : Nat) : Int) < ((k : Nat) : Int)
    ·
      refine q_lss true rfl rfl (decide_eq_true hc6) up_none ?_
      refine lw_nil ?_
      refine c_cond_t rfl ?_
      refine wp_skip ?_
      refine wp_seq ?_
      refine wp_block ?_
      refine wp_draw _ [0, 0, 0, 0, 1, 0, 0, 0, 0, 0, 1, 0, 0, 0] mixed (by kernel_rfl) ?_
      refine q_move (.int .i64 t) rfl up_none ?_
      refine q_move v1 rfl up_none ?_
      refine q_move (.int .i64 ((i : Nat) : Int)) rfl up_none ?_
      refine q_idx (v := v1) i u29 ti2 rfl rfl hL5_0.isSl rfl (by first | omega | assumption | (simp only [List.length_nil, List.length_cons, List.length_append, List.length_set, List.length_replicate]; omega) | (simp [List.length_nil, List.length_cons, List.length_append, List.length_set, List.length_replicate]; done) | (simp [List.length_nil, List.length_cons, List.length_append, List.length_set, List.length_replicate]; omega)) up_none ?_
      refine q_load (p := eptr v1 i 1) (.inl rfl) (.int .i64 ((mix k (quoS a b) (List.replicate a.length 0)).getD i 0)) one2 rfl (hL5_0.rd1.getI (by first | omega | assumption | (simp only [List.length_nil, List.length_cons, List.length_append, List.length_set, List.length_replicate]; omega) | (simp [List.length_nil, List.length_cons, List.length_append, List.length_set, List.length_replicate]; done) | (simp [List.length_nil, List.length_cons, List.length_append, List.length_set, List.length_replicate]; omega))).1 up_none ?_
      refine q_move vb rfl up_none ?_
      refine q_move (.int .i64 ((k : Nat) : Int)) rfl up_none ?_
      refine q_move (.int .i64 ((i : Nat) : Int)) rfl up_none ?_
      refine q_sub ((k - i : Nat) : Int) rfl rfl (w64n (by omega) (by omega)) up_none ?_
      refine q_idx (v := vb) (k - i) u29 ti2 rfl rfl hb.isSl rfl (by first | omega | assumption | (simp only [List.length_nil, List.length_cons, List.length_append, List.length_set, List.length_replicate]; omega) | (simp [List.length_nil, List.length_cons, List.length_append, List.length_set, List.length_replicate]; done) | (simp [List.length_nil, List.length_cons, List.length_append, List.length_set, List.length_replicate]; omega)) up_none ?_
      refine q_load (p := eptr vb (k - i) 1) (.inl rfl) (.int .i64 (b.getD (k - i) 0)) one2 rfl (ldH_ext hE5.drew (hb.getI (by first | omega | assumption | (simp only [List.length_nil, List.length_cons, List.length_append, List.length_set, List.length_replicate]; omega) | (simp [List.length_nil, List.length_cons, List.length_append, List.length_set, List.length_replicate]; done) | (simp [List.length_nil, List.length_cons, List.length_append, List.length_set, List.length_replicate]; omega))).1) up_none ?_
      refine q_mul (wr (((mix k (quoS a b) (List.replicate a.length 0)).getD i 0) * (b.getD (k - i) 0))) rfl rfl rfl up_none ?_
      refine lw_callq 98 [] [] [(.int .i64 t), (.int .i64 (wr (((mix k (quoS a b) (List.replicate a.length 0)).getD i 0) * (b.getD (k - i) 0))))] rfl rfl cf98 up_none (.int .i64 (md (t - (wr (((mix k (quoS a b) (List.replicate a.length 0)).getD i 0) * (b.getD (k - i) 0)))))) (fun wq => c_impl_minus wq _ _ (by omega) (wr_rng _)) ?_
      refine q_assign (.int .i64 (md (t - (wr (((mix k (quoS a b) (List.replicate a.length 0)).getD i 0) * (b.getD (k - i) 0)))))) rfl up_none ?_
      refine lw_nil ?_
      refine wp_plain _ [0, 0, 0] rfl ?_
      refine q_move (.int .i64 ((i : Nat) : Int)) rfl up_none ?_
      refine q_add ((i + 1 : Nat) : Int) rfl rfl (w64n (by omega) (by first | omega | assumption | (simp only [List.length_nil, List.length_cons, List.length_append, List.length_set, List.length_replicate]; omega) | (simp [List.length_nil, List.length_cons, List.length_append, List.length_set, List.length_replicate]; done) | (simp [List.length_nil, List.length_cons, List.length_append, List.length_set, List.length_replicate]; omega))) up_none ?_
      refine q_assign (.int .i64 ((i + 1 : Nat) : Int)) rfl up_none ?_
      refine lw_nil ?_
      exact ⟨((i + 1), (md (t - (wr (((mix k (quoS a b) (List.replicate a.length 0)).getD i 0) * (b.getD (k - i) 0)))))), _, rfl, ⟨rfl, rfl, rfl, rfl, rfl, rfl, rfl, rfl, rfl, trivial⟩, ⟨hE5.drew, hL5_0, (by first | omega | assumption | (simp only [List.length_nil, List.length_cons, List.length_append, List.length_set, List.length_replicate]; omega) | (simp [List.length_nil, List.length_cons, List.length_append, List.length_set, List.length_replicate]; done) | (simp [List.length_nil, List.length_cons, List.length_append, List.length_set, List.length_replicate]; omega)), (by rw [ht, mix_lt 0 (by omega) (by simp; omega)]; exact quo_step (quoS_num a b) hqb), (by exact md_num _)⟩, by first | omega | (dsimp only; omega)⟩
    ·
      refine q_lss false rfl rfl (decide_eq_false hc6) up_none ?_
      refine lw_nil ?_
      refine c_cond_f rfl ?_
      refine wp_exit ?_
      refine t_exit ?_
      refine t_exit ?_
      refine c_exit_here ?_
      refine wp_plain _ [0, 0, 0, 0, 0, 0, 0, 4] rfl ?_
      refine q_move v1 rfl up_none ?_
      refine q_move (.int .i64 ((k : Nat) : Int)) rfl up_none ?_
      refine q_move (.int .i64 t) rfl up_none ?_
      refine q_move (.int .i64 (inv (b.getD 0 0))) rfl up_none ?_
      refine q_mul (wr (t * (inv (b.getD 0 0)))) rfl rfl rfl up_none ?_
      refine q_rem (md (t * inv (b.getD 0 0))) rfl rfl (by decide) (nm_eq htr (inv_num _)) up_none ?_
      refine q_idx (v := v1) k u29 ti2 rfl rfl hL5_0.isSl rfl (by first | omega | assumption | (simp only [List.length_nil, List.length_cons, List.length_append, List.length_set, List.length_replicate]; omega) | (simp [List.length_nil, List.length_cons, List.length_append, List.length_set, List.length_replicate]; done) | (simp [List.length_nil, List.length_cons, List.length_append, List.length_set, List.length_replicate]; omega)) up_none ?_
      refine e_setI (v := v1) (w := w5) sz2 rfl rfl (md_rng _) hL5_0 (by first | omega | assumption | (simp only [List.length_nil, List.length_cons, List.length_append, List.length_set, List.length_replicate]; omega) | (simp [List.length_nil, List.length_cons, List.length_append, List.length_set, List.length_replicate]; done) | (simp [List.length_nil, List.length_cons, List.length_append, List.length_set, List.length_replicate]; omega)) up_none ?_
      intro w8 F8 hC8 hz8 hF8 hO8
      have hE8 : Ext w w8 := hC8.below hE5 (fun c hc => Nat.le_trans (Nat.le_refl _) (hF8 c hc).1) hE5.size
      have hzs8 : w5.heap.size ≤ w8.heap.size := hC8.size
      refine lw_nil ?_
      refine wp_plain _ [0, 0] rfl ?_
      refine q_add ((k + 1 : Nat) : Int) rfl rfl (w64n (by omega) (by first | omega | assumption | (simp only [List.length_nil, List.length_cons, List.length_append, List.length_set, List.length_replicate]; omega) | (simp [List.length_nil, List.length_cons, List.length_append, List.length_set, List.length_replicate]; done) | (simp [List.length_nil, List.length_cons, List.length_append, List.length_set, List.length_replicate]; omega))) up_none ?_
      refine q_move (.int .i64 ((k + 1 : Nat) : Int)) rfl up_none ?_
      refine lw_nil ?_
      exact ⟨(k + 1), _, rfl, ⟨rfl, rfl, rfl, rfl, rfl, rfl, trivial⟩, ⟨hE8, (by have h := hO8.up o1; rw [ht, show i = k from by omega] at h; rw [← quo_set (by omega) (by simp)]; exact h), (by first | omega | assumption | (simp only [List.length_nil, List.length_cons, List.length_append, List.length_set, List.length_replicate]; omega) | (simp [List.length_nil, List.length_cons, List.length_append, List.length_set, List.length_replicate]; done) | (simp [List.length_nil, List.length_cons, List.length_append, List.length_set, List.length_replicate]; omega))⟩, by first | omega | (dsimp only; omega)⟩
  ·
    refine q_lss false rfl rfl (decide_eq_false hc4) up_none ?_
    refine lw_nil ?_
    refine wp_seq ?_
    refine c_cond_f rfl ?_
    refine wp_exit ?_
    refine t_exit ?_
    refine t_exit ?_
    refine c_exit_here ?_
    refine wp_seq ?_
    refine wp_plain _ [0, 0] rfl ?_
    refine q_move v1 rfl up_none ?_
    refine q_assign v1 rfl up_none ?_
    refine lw_nil ?_
    refine wp_ret ?_
    exact post_ret [4] rfl v1 rfl ⟨v1, rfl, hE3, (by have h := hL3_0.up o1; rwa [mix_all (by simp) (by simp; omega)] at h)⟩

/- impl.singles -/
set_option maxHeartbeats 4000000 in
set_option maxRecDepth 100000 in
theorem c_impl_singles (w : World) (va : Value) (a : List Int) (ha : Rd (rdL rI) w.heap va a) (hla : a.length ≤ 1000000000000) :
    Calls Try.prog 73 #[va] w (fun e w' => ∃ v0 : Value, e = .returned (v0) ∧ Ext w w' ∧ Fr (owL (owL rI 2) 29) w.heap.size w'.heap.size w'.heap v0 (sing a)) := by
  refine calls_mk [va] 20 Try.func73 rfl rfl (by simp) ?_
  have hE0 : Ext w w := Ext.refl w
  have hl_va := ha.lenle
  refine wp_seq ?_
  refine wp_plain _ [0] rfl ?_
  refine q_assign (.slice none 0 0) rfl up_none ?_
  refine lw_nil ?_
  refine wp_seq ?_
  refine wp_plain _ [3, 0] rfl ?_
  refine r_nil (owL rI 2) o1 u22 ti29 up_none ?_
  intro v1 w1 hX1 hz1 hO1
  have hzs1 : w.heap.size ≤ w1.heap.size := hX1.size
  have hE1 : Ext w w1 := hE0.trans hX1
  refine q_assign v1 rfl up_none ?_
  refine lw_nil ?_
  refine wp_seq ?_
  refine wp_seq ?_
  refine wp_plain _ [0, 0, 0] rfl ?_
  refine q_move va rfl up_none ?_
  refine q_len (v := va) u29 rfl ha.isSl up_none ?_
  refine q_move (.int .i64 ((0 : Nat) : Int)) rfl up_none ?_
  refine lw_nil ?_
  refine wp_block ?_
  refine c_loop (S := Nat × Value) (fun (⟨k, vo⟩ : Nat × Value) => ([(3, vo), (9, (.int .i64 ((k : Nat) : Int))), (7, va), (8, (.int .i64 ((a.length : Nat) : Int)))] : List (Nat × Value))) (fun (⟨k, vo⟩ : Nat × Value) (W : World) => Ext w W ∧ Fr (owL (owL rI 2) 29) w.heap.size W.heap.size W.heap vo ((a.take k).map (fun x => [x])) ∧ k ≤ a.length) (fun (⟨k, vo⟩ : Nat × Value) => a.length - k) (0, v1) ⟨rfl, rfl, rfl, rfl, trivial⟩ ⟨hE1, hO1.up o2, (by first | omega | assumption | (simp only [List.length_nil, List.length_cons, List.length_append, List.length_set, List.length_replicate]; omega) | (simp [List.length_nil, List.length_cons, List.length_append, List.length_set, List.length_replicate]; done) | (simp [List.length_nil, List.length_cons, List.length_append, List.length_set, List.length_replicate]; omega))⟩ ?_
  clear hE0 hO1 hz1 hX1 hzs1 hE1
  rintro ⟨k, vo⟩ ρ2 w2 ⟨hE2, hL2_0, hp2_0⟩
  have hzs2 : w.heap.size ≤ w2.heap.size := hE2.size
  refine wp_seq ?_
  refine wp_plain _ [0] rfl ?_
  by_cases hc3 : ((k : Nat) : Int) < ((a.length : Nat) : Int)
  ·
    refine q_lss true rfl rfl (decide_eq_true hc3) up_none ?_
    refine lw_nil ?_
    refine wp_seq ?_
    refine c_cond_t rfl ?_
    refine wp_skip ?_
    refine wp_seq ?_
    refine wp_block ?_
    refine wp_seq ?_
    refine wp_plain _ [0, 2, 0] rfl ?_
    refine q_idx (v := va) k u29 ti2 rfl rfl ha.isSl rfl (by first | omega | assumption | (simp only [List.length_nil, List.length_cons, List.length_append, List.length_set, List.length_replicate]; omega) | (simp [List.length_nil, List.length_cons, List.length_append, List.length_set, List.length_replicate]; done) | (simp [List.length_nil, List.length_cons, List.length_append, List.length_set, List.length_replicate]; omega)) up_none ?_
    refine q_load (p := eptr va k 1) (.inr rfl) (.int .i64 (a.getD k 0)) one2 rfl (ldH_ext hE2 (ha.getI (by first | omega | assumption | (simp only [List.length_nil, List.length_cons, List.length_append, List.length_set, List.length_replicate]; omega) | (simp [List.length_nil, List.length_cons, List.length_append, List.length_set, List.length_replicate]; done) | (simp [List.length_nil, List.length_cons, List.length_append, List.length_set, List.length_replicate]; omega))).1) up_none ?_
    refine q_assign (.int .i64 (a.getD k 0)) rfl up_none ?_
    refine lw_nil ?_
    refine wp_plain _ [0, 0, 3, 3, 4, 0] rfl ?_
    refine q_move vo rfl up_none ?_
    refine q_move (.int .i64 (a.getD k 0)) rfl up_none ?_
    refine r_one (u := (.int .i64 (a.getD k 0))) (B := w2.heap.size) good_rI u29 ti2 rfl rfl (frI w2.heap.size w2.heap.size _ _ (ha.getI (by first | omega | assumption | (simp only [List.length_nil, List.length_cons, List.length_append, List.length_set, List.length_replicate]; omega) | (simp [List.length_nil, List.length_cons, List.length_append, List.length_set, List.length_replicate]; done) | (simp [List.length_nil, List.length_cons, List.length_append, List.length_set, List.length_replicate]; omega))).2) (Nat.le_refl _) up_none ?_
    intro v4 w4 hX4 hz4 hO4
    have hzs4 : w2.heap.size ≤ w4.heap.size := hX4.size
    have hE4 : Ext w w4 := hE2.trans hX4
    have hL2_0x4 := hL2_0.ext (o2) hX4
    refine r_one (u := v4) (B := w2.heap.size) o1 u22 ti29 rfl rfl hO4 (by first | exact Nat.le_refl _ | omega) up_none ?_
    intro v5 w5 hX5 hz5 hO5
    have hzs5 : w4.heap.size ≤ w5.heap.size := hX5.size
    have hE5 : Ext w w5 := hE4.trans hX5
    have hL2_0x5 := hL2_0x4.ext (o2) hX5
    refine e_appF o1 (v := vo) (a := v5) u22 ti29 rfl rfl rfl hL2_0x5 hE5.size hO5 (by omega) hE2.size (by first | omega | assumption | (simp only [List.length_nil, List.length_cons, List.length_append, List.length_set, List.length_replicate]; omega) | (simp [List.length_nil, List.length_cons, List.length_append, List.length_set, List.length_replicate]; done) | (simp [List.length_nil, List.length_cons, List.length_append, List.length_set, List.length_replicate]; omega)) (by unfold maxLen; first | omega | assumption | (simp only [List.length_nil, List.length_cons, List.length_append, List.length_set, List.length_replicate]; omega) | (simp [List.length_nil, List.length_cons, List.length_append, List.length_set, List.length_replicate]; done) | (simp [List.length_nil, List.length_cons, List.length_append, List.length_set, List.length_replicate]; omega)) up_none ?_
    intro v6 w6 F6 hC6 hF6 hO6
    have hE6 : Ext w w6 := hC6.below hE5 (fun c hc => Nat.le_trans (Nat.le_refl _) (hF6 c hc).1) hE5.size
    have hzs6 : w5.heap.size ≤ w6.heap.size := hC6.size
    refine q_assign v6 rfl up_none ?_
    refine lw_nil ?_
    refine wp_plain _ [0, 0] rfl ?_
    refine q_add ((k + 1 : Nat) : Int) rfl rfl (w64n (by omega) (by first | omega | assumption | (simp only [List.length_nil, List.length_cons, List.length_append, List.length_set, List.length_replicate]; omega) | (simp [List.length_nil, List.length_cons, List.length_append, List.length_set, List.length_replicate]; done) | (simp [List.length_nil, List.length_cons, List.length_append, List.length_set, List.length_replicate]; omega))) up_none ?_
    refine q_move (.int .i64 ((k + 1 : Nat) : Int)) rfl up_none ?_
    refine lw_nil ?_
    exact ⟨((k + 1), v6), _, rfl, ⟨rfl, rfl, rfl, rfl, trivial⟩, ⟨hE6, (by rw [map_snoc 0 (by omega)]; exact hO6.up o2), (by first | omega | assumption | (simp only [List.length_nil, List.length_cons, List.length_append, List.length_set, List.length_replicate]; omega) | (simp [List.length_nil, List.length_cons, List.length_append, List.length_set, List.length_replicate]; done) | (simp [List.length_nil, List.length_cons, List.length_append, List.length_set, List.length_replicate]; omega))⟩, by first | omega | (dsimp only; omega)⟩
  ·
    refine q_lss false rfl rfl (decide_eq_false hc3) up_none ?_
    refine lw_nil ?_
    refine wp_seq ?_
    refine c_cond_f rfl ?_
    refine wp_exit ?_
    refine t_exit ?_
    refine t_exit ?_
    refine c_exit_here ?_
    refine wp_seq ?_
    refine wp_plain _ [0, 0] rfl ?_
    refine q_move vo rfl up_none ?_
    refine q_assign vo rfl up_none ?_
    refine lw_nil ?_
    refine wp_ret ?_
    exact post_ret [2] rfl vo rfl ⟨vo, rfl, hE2, (by have h := hL2_0.up o2; rwa [List.take_of_length_le (by omega)] at h)⟩

/- impl.constants -/
set_option maxHeartbeats 4000000 in
set_option maxRecDepth 100000 in
theorem c_impl_constants (w : World) (va : Value) (a : List (List Int)) (ha : Rd (rdL (rdL rI)) w.heap va a) (hla : a.length ≤ 1000000000000) (hlr : ∀ k, (a.getD k []).length ≤ 1000000000000) :
    Calls Try.prog 72 #[va] w (fun e w' => ∃ v0 : Value, e = .returned (v0) ∧ Ext w w' ∧ Fr (owL (owL (owL rI 2) 29) 22) w.heap.size w'.heap.size w'.heap v0 (mm (fun x => [x]) a)) := by
  refine calls_mk [va] 20 Try.func72 rfl rfl (by simp) ?_
  have hE0 : Ext w w := Ext.refl w
  have hl_va := ha.lenle
  refine wp_seq ?_
  refine wp_plain _ [0] rfl ?_
  refine q_assign (.slice none 0 0) rfl up_none ?_
  refine lw_nil ?_
  refine wp_seq ?_
  refine wp_plain _ [3, 0] rfl ?_
  refine r_nil (owL (owL rI 2) 29) o2 u45 ti22 up_none ?_
  intro v1 w1 hX1 hz1 hO1
  have hzs1 : w.heap.size ≤ w1.heap.size := hX1.size
  have hE1 : Ext w w1 := hE0.trans hX1
  refine q_assign v1 rfl up_none ?_
  refine lw_nil ?_
  refine wp_seq ?_
  refine wp_seq ?_
  refine wp_plain _ [0, 0, 0] rfl ?_
  refine q_move va rfl up_none ?_
  refine q_len (v := va) u22 rfl ha.isSl up_none ?_
  refine q_move (.int .i64 ((0 : Nat) : Int)) rfl up_none ?_
  refine lw_nil ?_
  refine wp_block ?_
  refine c_loop (S := Nat × Value) (fun (⟨k, vo⟩ : Nat × Value) => ([(3, vo), (9, (.int .i64 ((k : Nat) : Int))), (7, va), (8, (.int .i64 ((a.length : Nat) : Int)))] : List (Nat × Value))) (fun (⟨k, vo⟩ : Nat × Value) (W : World) => Ext w W ∧ Fr (owL (owL (owL rI 2) 29) 22) w.heap.size W.heap.size W.heap vo ((a.take k).map sing) ∧ k ≤ a.length) (fun (⟨k, vo⟩ : Nat × Value) => a.length - k) (0, v1) ⟨rfl, rfl, rfl, rfl, trivial⟩ ⟨hE1, hO1.up o3, (by first | omega | assumption | (simp only [List.length_nil, List.length_cons, List.length_append, List.length_set, List.length_replicate]; omega) | (simp [List.length_nil, List.length_cons, List.length_append, List.length_set, List.length_replicate]; done) | (simp [List.length_nil, List.length_cons, List.length_append, List.length_set, List.length_replicate]; omega))⟩ ?_
  clear hE0 hO1 hz1 hX1 hzs1 hE1
  rintro ⟨k, vo⟩ ρ2 w2 ⟨hE2, hL2_0, hp2_0⟩
  have hzs2 : w.heap.size ≤ w2.heap.size := hE2.size
  refine wp_seq ?_
  refine wp_plain _ [0] rfl ?_
  by_cases hc3 : ((k : Nat) : Int) < ((a.length : Nat) : Int)
  ·
    refine q_lss true rfl rfl (decide_eq_true hc3) up_none ?_
    refine lw_nil ?_
    refine wp_seq ?_
    refine c_cond_t rfl ?_
    refine wp_skip ?_
    refine wp_seq ?_
    refine wp_block ?_
    refine wp_seq ?_
    refine wp_plain _ [0, 2, 0] rfl ?_
    refine q_idx (v := va) k u22 ti29 rfl rfl ha.isSl rfl (by first | omega | assumption | (simp only [List.length_nil, List.length_cons, List.length_append, List.length_set, List.length_replicate]; omega) | (simp [List.length_nil, List.length_cons, List.length_append, List.length_set, List.length_replicate]; done) | (simp [List.length_nil, List.length_cons, List.length_append, List.length_set, List.length_replicate]; omega)) up_none ?_
    obtain ⟨ue4, hl4, hd4⟩ := ha.get (k := k) [] (by first | omega | assumption | (simp only [List.length_nil, List.length_cons, List.length_append, List.length_set, List.length_replicate]; omega) | (simp [List.length_nil, List.length_cons, List.length_append, List.length_set, List.length_replicate]; done) | (simp [List.length_nil, List.length_cons, List.length_append, List.length_set, List.length_replicate]; omega))
    have hln4 := hd4.lenle
    refine q_load (p := eptr va k 1) (.inr rfl) ue4 one29 rfl (ldH_ext hE2 hl4) up_none ?_
    refine q_assign ue4 rfl up_none ?_
    refine lw_nil ?_
    refine wp_plain _ [0, 0, 3, 3, 4, 0] rfl ?_
    refine q_move vo rfl up_none ?_
    refine q_move ue4 rfl up_none ?_
    refine lw_call 73 [] [] [ue4] rfl rfl cf73 up_none (c_impl_singles _ _ _ (hd4.ext g1 hE2) (by exact hlr _)) ?_
    rintro e5 w5 ⟨v5_0, rfl, hX5, hO5_0⟩
    refine ⟨_, rfl, hX5, ?_⟩
    have hzs5 : w2.heap.size ≤ w5.heap.size := hX5.size
    have hE5 : Ext w w5 := hE2.trans hX5
    have hL2_0x5 := hL2_0.ext (o3) hX5
    refine r_one (u := v5_0) (B := w2.heap.size) o2 u45 ti22 rfl rfl hO5_0 (by first | exact Nat.le_refl _ | omega) up_none ?_
    intro v6 w6 hX6 hz6 hO6
    have hzs6 : w5.heap.size ≤ w6.heap.size := hX6.size
    have hE6 : Ext w w6 := hE5.trans hX6
    have hL2_0x6 := hL2_0x5.ext (o3) hX6
    refine e_appF o2 (v := vo) (a := v6) u45 ti22 rfl rfl rfl hL2_0x6 hE6.size hO6 (by omega) hE2.size (by first | omega | assumption | (simp only [List.length_nil, List.length_cons, List.length_append, List.length_set, List.length_replicate]; omega) | (simp [List.length_nil, List.length_cons, List.length_append, List.length_set, List.length_replicate]; done) | (simp [List.length_nil, List.length_cons, List.length_append, List.length_set, List.length_replicate]; omega)) (by unfold maxLen; first | omega | assumption | (simp only [List.length_nil, List.length_cons, List.length_append, List.length_set, List.length_replicate]; omega) | (simp [List.length_nil, List.length_cons, List.length_append, List.length_set, List.length_replicate]; done) | (simp [List.length_nil, List.length_cons, List.length_append, List.length_set, List.length_replicate]; omega)) up_none ?_
    intro v7 w7 F7 hC7 hF7 hO7
    have hE7 : Ext w w7 := hC7.below hE6 (fun c hc => Nat.le_trans (Nat.le_refl _) (hF7 c hc).1) hE6.size
    have hzs7 : w6.heap.size ≤ w7.heap.size := hC7.size
    refine q_assign v7 rfl up_none ?_
    refine lw_nil ?_
    refine wp_plain _ [0, 0] rfl ?_
    refine q_add ((k + 1 : Nat) : Int) rfl rfl (w64n (by omega) (by first | omega | assumption | (simp only [List.length_nil, List.length_cons, List.length_append, List.length_set, List.length_replicate]; omega) | (simp [List.length_nil, List.length_cons, List.length_append, List.length_set, List.length_replicate]; done) | (simp [List.length_nil, List.length_cons, List.length_append, List.length_set, List.length_replicate]; omega))) up_none ?_
    refine q_move (.int .i64 ((k + 1 : Nat) : Int)) rfl up_none ?_
    refine lw_nil ?_
    exact ⟨((k + 1), v7), _, rfl, ⟨rfl, rfl, rfl, rfl, trivial⟩, ⟨hE7, (by rw [map_snoc [] (by omega)]; exact hO7.up o3), (by first | omega | assumption | (simp only [List.length_nil, List.length_cons, List.length_append, List.length_set, List.length_replicate]; omega) | (simp [List.length_nil, List.length_cons, List.length_append, List.length_set, List.length_replicate]; done) | (simp [List.length_nil, List.length_cons, List.length_append, List.length_set, List.length_replicate]; omega))⟩, by first | omega | (dsimp only; omega)⟩
  ·
    refine q_lss false rfl rfl (decide_eq_false hc3) up_none ?_
    refine lw_nil ?_
    refine wp_seq ?_
    refine c_cond_f rfl ?_
    refine wp_exit ?_
    refine t_exit ?_
    refine t_exit ?_
    refine c_exit_here ?_
    refine wp_seq ?_
    refine wp_plain _ [0, 0] rfl ?_
    refine q_move vo rfl up_none ?_
    refine q_assign vo rfl up_none ?_
    refine lw_nil ?_
    refine wp_ret ?_
    exact post_ret [2] rfl vo rfl ⟨vo, rfl, hE2, (by have h := hL2_0.up o3; rwa [List.take_of_length_le (by omega)] at h)⟩

/- impl.firsts -/
set_option maxHeartbeats 4000000 in
set_option maxRecDepth 100000 in
theorem c_impl_firsts (w : World) (va : Value) (a : List (List Int)) (ha : Rd (rdL (rdL rI)) w.heap va a) (hla : a.length ≤ 1000000000000) (h1 : ∀ k, k < a.length → 0 < (a.getD k []).length) :
    Calls Try.prog 74 #[va] w (fun e w' => ∃ v0 : Value, e = .returned (v0) ∧ Ext w w' ∧ Fr (owL rI 2) w.heap.size w'.heap.size w'.heap v0 (a.map (fun s => s.getD 0 0))) := by
  refine calls_mk [va] 21 Try.func74 rfl rfl (by simp) ?_
  have hE0 : Ext w w := Ext.refl w
  have hl_va := ha.lenle
  refine wp_seq ?_
  refine wp_plain _ [0] rfl ?_
  refine q_assign (.slice none 0 0) rfl up_none ?_
  refine lw_nil ?_
  refine wp_seq ?_
  refine wp_plain _ [3, 0] rfl ?_
  refine r_nil (rI) good_rI u29 ti2 up_none ?_
  intro v1 w1 hX1 hz1 hO1
  have hzs1 : w.heap.size ≤ w1.heap.size := hX1.size
  have hE1 : Ext w w1 := hE0.trans hX1
  refine q_assign v1 rfl up_none ?_
  refine lw_nil ?_
  refine wp_seq ?_
  refine wp_seq ?_
  refine wp_plain _ [0, 0, 0] rfl ?_
  refine q_move va rfl up_none ?_
  refine q_len (v := va) u22 rfl ha.isSl up_none ?_
  refine q_move (.int .i64 ((0 : Nat) : Int)) rfl up_none ?_
  refine lw_nil ?_
  refine wp_block ?_
  refine c_loop (S := Nat × Value) (fun (⟨k, vo⟩ : Nat × Value) => ([(3, vo), (9, (.int .i64 ((k : Nat) : Int))), (7, va), (8, (.int .i64 ((a.length : Nat) : Int)))] : List (Nat × Value))) (fun (⟨k, vo⟩ : Nat × Value) (W : World) => Ext w W ∧ Fr (owL rI 2) w.heap.size W.heap.size W.heap vo ((a.take k).map (fun s => s.getD 0 0)) ∧ k ≤ a.length) (fun (⟨k, vo⟩ : Nat × Value) => a.length - k) (0, v1) ⟨rfl, rfl, rfl, rfl, trivial⟩ ⟨hE1, hO1.up o1, (by first | omega | assumption | (simp only [List.length_nil, List.length_cons, List.length_append, List.length_set, List.length_replicate]; omega) | (simp [List.length_nil, List.length_cons, List.length_append, List.length_set, List.length_replicate]; done) | (simp [List.length_nil, List.length_cons, List.length_append, List.length_set, List.length_replicate]; omega))⟩ ?_
  clear hE0 hO1 hz1 hX1 hzs1 hE1
  rintro ⟨k, vo⟩ ρ2 w2 ⟨hE2, hL2_0, hp2_0⟩
  have hzs2 : w.heap.size ≤ w2.heap.size := hE2.size
  refine wp_seq ?_
  refine wp_plain _ [0] rfl ?_
  by_cases hc3 : ((k : Nat) : Int) < ((a.length : Nat) : Int)
  ·
    refine q_lss true rfl rfl (decide_eq_true hc3) up_none ?_
    refine lw_nil ?_
    refine wp_seq ?_
    refine c_cond_t rfl ?_
    refine wp_skip ?_
    refine wp_seq ?_
    refine wp_block ?_
    refine wp_seq ?_
    refine wp_plain _ [0, 2, 0] rfl ?_
    refine q_idx (v := va) k u22 ti29 rfl rfl ha.isSl rfl (by first | omega | assumption | (simp only [List.length_nil, List.length_cons, List.length_append, List.length_set, List.length_replicate]; omega) | (simp [List.length_nil, List.length_cons, List.length_append, List.length_set, List.length_replicate]; done) | (simp [List.length_nil, List.length_cons, List.length_append, List.length_set, List.length_replicate]; omega)) up_none ?_
    obtain ⟨ue4, hl4, hd4⟩ := ha.get (k := k) [] (by first | omega | assumption | (simp only [List.length_nil, List.length_cons, List.length_append, List.length_set, List.length_replicate]; omega) | (simp [List.length_nil, List.length_cons, List.length_append, List.length_set, List.length_replicate]; done) | (simp [List.length_nil, List.length_cons, List.length_append, List.length_set, List.length_replicate]; omega))
    have hln4 := hd4.lenle
    refine q_load (p := eptr va k 1) (.inr rfl) ue4 one29 rfl (ldH_ext hE2 hl4) up_none ?_
    refine q_assign ue4 rfl up_none ?_
    refine lw_nil ?_
    refine wp_plain _ [0, 0, 0, 2, 3, 4, 0] rfl ?_
    have hr1 := h1 k (by omega)
    refine q_move vo rfl up_none ?_
    refine q_move ue4 rfl up_none ?_
    refine q_idx (v := ue4) 0 u29 ti2 rfl rfl hd4.isSl rfl (by first | omega | assumption | (simp only [List.length_nil, List.length_cons, List.length_append, List.length_set, List.length_replicate]; omega) | (simp [List.length_nil, List.length_cons, List.length_append, List.length_set, List.length_replicate]; done) | (simp [List.length_nil, List.length_cons, List.length_append, List.length_set, List.length_replicate]; omega)) up_none ?_
    refine q_load (p := eptr ue4 0 1) (.inr rfl) (.int .i64 ((a.getD k []).getD 0 0)) one2 rfl (ldH_ext hE2 (hd4.getI (by first | omega | assumption | (simp only [List.length_nil, List.length_cons, List.length_append, List.length_set, List.length_replicate]; omega) | (simp [List.length_nil, List.length_cons, List.length_append, List.length_set, List.length_replicate]; done) | (simp [List.length_nil, List.length_cons, List.length_append, List.length_set, List.length_replicate]; omega))).1) up_none ?_
    refine r_one (u := (.int .i64 ((a.getD k []).getD 0 0))) (B := w2.heap.size) good_rI u29 ti2 rfl rfl (frI w2.heap.size w2.heap.size _ _ (hd4.getI (by first | omega | assumption | (simp only [List.length_nil, List.length_cons, List.length_append, List.length_set, List.length_replicate]; omega) | (simp [List.length_nil, List.length_cons, List.length_append, List.length_set, List.length_replicate]; done) | (simp [List.length_nil, List.length_cons, List.length_append, List.length_set, List.length_replicate]; omega))).2) (Nat.le_refl _) up_none ?_
    intro v5 w5 hX5 hz5 hO5
    have hzs5 : w2.heap.size ≤ w5.heap.size := hX5.size
    have hE5 : Ext w w5 := hE2.trans hX5
    have hL2_0x5 := hL2_0.ext (o1) hX5
    refine e_appI (v := vo) (a := v5) u29 ti2 rfl rfl rfl hL2_0x5 hE5.size hO5.rd1 (by first | omega | assumption | (simp only [List.length_nil, List.length_cons, List.length_append, List.length_set, List.length_replicate]; omega) | (simp [List.length_nil, List.length_cons, List.length_append, List.length_set, List.length_replicate]; done) | (simp [List.length_nil, List.length_cons, List.length_append, List.length_set, List.length_replicate]; omega)) (by unfold maxLen; first | omega | assumption | (simp only [List.length_nil, List.length_cons, List.length_append, List.length_set, List.length_replicate]; omega) | (simp [List.length_nil, List.length_cons, List.length_append, List.length_set, List.length_replicate]; done) | (simp [List.length_nil, List.length_cons, List.length_append, List.length_set, List.length_replicate]; omega)) up_none ?_
    intro v6 w6 F6 hC6 hF6 hO6
    have hE6 : Ext w w6 := hC6.below hE5 (fun c hc => Nat.le_trans (Nat.le_refl _) (hF6 c hc).1) hE5.size
    have hzs6 : w5.heap.size ≤ w6.heap.size := hC6.size
    have hF7 := hO5.chg (o1) hC6 (fun c hc => by have := hF6 c hc; omega)
    refine q_assign v6 rfl up_none ?_
    refine lw_nil ?_
    refine wp_plain _ [0, 0] rfl ?_
    refine q_add ((k + 1 : Nat) : Int) rfl rfl (w64n (by omega) (by first | omega | assumption | (simp only [List.length_nil, List.length_cons, List.length_append, List.length_set, List.length_replicate]; omega) | (simp [List.length_nil, List.length_cons, List.length_append, List.length_set, List.length_replicate]; done) | (simp [List.length_nil, List.length_cons, List.length_append, List.length_set, List.length_replicate]; omega))) up_none ?_
    refine q_move (.int .i64 ((k + 1 : Nat) : Int)) rfl up_none ?_
    refine lw_nil ?_
    exact ⟨((k + 1), v6), _, rfl, ⟨rfl, rfl, rfl, rfl, trivial⟩, ⟨hE6, (by rw [map_snoc [] (by omega)]; exact hO6.up o1), (by first | omega | assumption | (simp only [List.length_nil, List.length_cons, List.length_append, List.length_set, List.length_replicate]; omega) | (simp [List.length_nil, List.length_cons, List.length_append, List.length_set, List.length_replicate]; done) | (simp [List.length_nil, List.length_cons, List.length_append, List.length_set, List.length_replicate]; omega))⟩, by first | omega | (dsimp only; omega)⟩
  ·
    refine q_lss false rfl rfl (decide_eq_false hc3) up_none ?_
    refine lw_nil ?_
    refine wp_seq ?_
    refine c_cond_f rfl ?_
    refine wp_exit ?_
    refine t_exit ?_
    refine t_exit ?_
    refine c_exit_here ?_
    refine wp_seq ?_
    refine wp_plain _ [0, 0] rfl ?_
    refine q_move vo rfl up_none ?_
    refine q_assign vo rfl up_none ?_
    refine lw_nil ?_
    refine wp_ret ?_
    exact post_ret [2] rfl vo rfl ⟨vo, rfl, hE2, (by have h := hL2_0.up o1; rwa [List.take_of_length_le (by omega)] at h)⟩
end Go.Proofs.Ytjgnlnlngcjfcaa
