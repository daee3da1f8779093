/- Contracts of functions: each says what the function returns for all arguments that meet its premises. Printed by gen.py. -/
import Derived.Test.YtjgnlnlngcjfcaaFwK
import Derived.Test.YtjgnlnlngcjfcaaMf
import Derived.Test.YtjgnlnlngcjfcaaT
import Derived.Test.YtjgnlnlngcjfcaaSa
import Derived.Test.YtjgnlnlngcjfcaaSb
import Derived.Test.YtjgnlnlngcjfcaaSc
import Derived.Test.YtjgnlnlngcjfcaaSf
import Derived.Test.YtjgnlnlngcjfcaaProg
namespace Go.Proofs.Ytjgnlnlngcjfcaa
open Go Go.RowKit
set_option linter.unusedVariables false
set_option linter.unusedSimpArgs false
attribute [local irreducible] LW
/- spec.l07Solve -/
set_option maxHeartbeats 4000000 in
set_option maxRecDepth 100000 in
theorem c_spec_l07Solve (w : World) (va : Value) (a : List (List Int)) (vb : Value) (b : List Int) (ha : Rd (rdL (rdL rI)) w.heap va a) (hb : Rd (rdL rI) w.heap vb b) (hS : Sq a.length a) (h6 : a.length ≤ 6) (hbl : b.length = a.length) (hqb : allN b = true) (hok : jorN a b ≠ none) :
    Calls Try.prog 70 #[va, vb] w (fun e w' => ∃ v0 : Value, e = .returned (v0) ∧ Ext w w' ∧ Fr (owL rI 2) w.heap.size w'.heap.size w'.heap v0 (solN a b)) := by
  refine calls_mk [va, vb] 116 Try.func70 rfl rfl (by simp) ?_
  have hE0 : Ext w w := Ext.refl w
  have hl_va := ha.lenle
  have hl_vb := hb.lenle
  refine wp_seq ?_
  refine wp_plain _ [0] rfl ?_
  refine q_assign (.slice none 0 0) rfl up_none ?_
  refine lw_nil ?_
  refine wp_seq ?_
  refine wp_plain _ [0, 3, 0] rfl ?_
  refine q_move va rfl up_none ?_
  refine lw_call 93 [] [] [va] rfl rfl cf93 up_none (c_spec_l07Own _ _ _ (ha.ext g2 hE0) (by omega) (by intro k; by_cases hk : k < a.length; (have := hS.row k hk; omega); (rw [show a.getD k [] = [] from by simp [Nat.not_lt.1 hk]]; simp))) ?_
  rintro e1 w1 ⟨v1_0, rfl, hX1, hO1_0⟩
  refine ⟨_, rfl, hX1, ?_⟩
  have hzs1 : w.heap.size ≤ w1.heap.size := hX1.size
  have hE1 : Ext w w1 := hE0.trans hX1
  refine q_assign v1_0 rfl up_none ?_
  refine lw_nil ?_
  refine wp_seq ?_
  refine wp_seq ?_
  refine wp_plain _ [0] rfl ?_
  refine q_assign (.int .i64 ((0 : Nat) : Int)) rfl up_none ?_
  refine lw_nil ?_
  refine wp_block ?_
  have kY3 := FrX.of (X := []) (U' := 0) hO1_0 (Nat.le_refl _) (fun b hb => by cases hb)
  refine c_loop (S := Nat) (fun (i : Nat) => ([(6, (.int .i64 ((i : Nat) : Int))), (1, vb), (5, v1_0)] : List (Nat × Value))) (fun (i : Nat) (W : World) => Ext w W ∧ FrX 2 29 w.heap.size [] W.heap v1_0 (mix i (augN a b) a) ∧ i ≤ a.length) (fun (i : Nat) => a.length - i) 0 ⟨rfl, rfl, rfl, trivial⟩ ⟨hE1, (by rw [mix_zero]; exact kY3), (by first | omega | assumption | (simp only [List.length_nil, List.length_cons, List.length_append, List.length_set, List.length_replicate]; omega) | (simp [List.length_nil, List.length_cons, List.length_append, List.length_set, List.length_replicate]; done) | (simp [List.length_nil, List.length_cons, List.length_append, List.length_set, List.length_replicate]; omega))⟩ ?_
  clear hE0 hO1_0 hX1 hzs1 hE1
  rintro i ρ2 w2 ⟨hE2, hL2_0, hp2_0⟩
  have hzs2 : w.heap.size ≤ w2.heap.size := hE2.size
  have hml := augN_len a b i
  have hri : i < a.length → ((mix i (augN a b) a).getD i []).length = a.length := fun h => by rw [augN_at a b h]; exact hS.row i h
  refine wp_seq ?_
  refine wp_seq ?_
  refine wp_plain _ [0, 0, 0, 0] rfl ?_
  refine q_move (.int .i64 ((i : Nat) : Int)) rfl up_none ?_
  refine q_move v1_0 rfl up_none ?_
  refine q_len (v := v1_0) u22 rfl hL2_0.isSl up_none ?_
  by_cases hc4 : ((i : Nat) : Int) < (((mix i (augN a b) a).length : Nat) : Int)
  ·
    refine q_lss true rfl rfl (decide_eq_true hc4) up_none ?_
    refine lw_nil ?_
    refine c_cond_t rfl ?_
    refine wp_skip ?_
    refine wp_seq ?_
    refine wp_block ?_
    refine wp_draw _ [0, 0, 0, 0, 0, 1, 0, 0, 0, 1, 3, 4, 0, 4] mixed (by kernel_rfl) ?_
    refine q_move v1_0 rfl up_none ?_
    refine q_move (.int .i64 ((i : Nat) : Int)) rfl up_none ?_
    refine q_move v1_0 rfl up_none ?_
    refine q_move (.int .i64 ((i : Nat) : Int)) rfl up_none ?_
    refine q_idx (v := v1_0) i u22 ti29 rfl rfl hL2_0.isSl rfl (by first | omega | assumption | (simp only [List.length_nil, List.length_cons, List.length_append, List.length_set, List.length_replicate]; omega) | (simp [List.length_nil, List.length_cons, List.length_append, List.length_set, List.length_replicate]; done) | (simp [List.length_nil, List.length_cons, List.length_append, List.length_set, List.length_replicate]; omega)) up_none ?_
    obtain ⟨ue5, hl5, hd5⟩ := hL2_0.rd2.get (k := i) [] (by first | omega | assumption | (simp only [List.length_nil, List.length_cons, List.length_append, List.length_set, List.length_replicate]; omega) | (simp [List.length_nil, List.length_cons, List.length_append, List.length_set, List.length_replicate]; done) | (simp [List.length_nil, List.length_cons, List.length_append, List.length_set, List.length_replicate]; omega))
    have hln5 := hd5.lenle
    refine q_load (p := eptr v1_0 i 1) (.inl rfl) ue5 one29 rfl hl5 up_none ?_
    refine q_move vb rfl up_none ?_
    refine q_move (.int .i64 ((i : Nat) : Int)) rfl up_none ?_
    refine q_idx (v := vb) i u29 ti2 rfl rfl hb.isSl rfl (by first | omega | assumption | (simp only [List.length_nil, List.length_cons, List.length_append, List.length_set, List.length_replicate]; omega) | (simp [List.length_nil, List.length_cons, List.length_append, List.length_set, List.length_replicate]; done) | (simp [List.length_nil, List.length_cons, List.length_append, List.length_set, List.length_replicate]; omega)) up_none ?_
    refine q_load (p := eptr vb i 1) (.inl rfl) (.int .i64 (b.getD i 0)) one2 rfl (ldH_ext hE2.drew (hb.getI (by first | omega | assumption | (simp only [List.length_nil, List.length_cons, List.length_append, List.length_set, List.length_replicate]; omega) | (simp [List.length_nil, List.length_cons, List.length_append, List.length_set, List.length_replicate]; done) | (simp [List.length_nil, List.length_cons, List.length_append, List.length_set, List.length_replicate]; omega))).1) up_none ?_
    refine r_one (u := (.int .i64 (b.getD i 0))) (B := w2.heap.size) good_rI u29 ti2 rfl rfl (frI w2.heap.size w2.heap.size _ _ (hb.getI (by first | omega | assumption | (simp only [List.length_nil, List.length_cons, List.length_append, List.length_set, List.length_replicate]; omega) | (simp [List.length_nil, List.length_cons, List.length_append, List.length_set, List.length_replicate]; done) | (simp [List.length_nil, List.length_cons, List.length_append, List.length_set, List.length_replicate]; omega))).2) (Nat.le_refl _) up_none ?_
    intro v6 w6 hX6 hz6 hO6
    replace hX6 := hX6.of_drew
    have hzs6 : w2.heap.size ≤ w6.heap.size := hX6.size
    have hE6 : Ext w w6 := hE2.trans hX6
    have hL2_0x6 := hL2_0.ext (o2) hX6
    have hd5x6 := hd5.ext g1 hX6
    have hlx7 := ldH_ext hX6 hl5
    refine e_appP (v := v1_0) (u := ue5) (a := v6) (r := i) u29 ti2 rfl rfl rfl hL2_0x6 hE6.size (fun b hb => by cases hb) (by first | omega | assumption | (simp only [List.length_nil, List.length_cons, List.length_append, List.length_set, List.length_replicate]; omega) | (simp [List.length_nil, List.length_cons, List.length_append, List.length_set, List.length_replicate]; done) | (simp [List.length_nil, List.length_cons, List.length_append, List.length_set, List.length_replicate]; omega)) hlx7 hO6.rd1 (by have := hS.row i (by omega); rw [augN_at a b (by omega)]; simp only [List.length_cons, List.length_nil]; omega) (by unfold maxLen; have := hS.row i (by omega); rw [augN_at a b (by omega)]; simp only [List.length_cons, List.length_nil]; omega) up_none ?_
    intro v8 w8 F8 hC8 hF8 hO8
    have hE8 : Ext w w8 := hC8.below hE6 (fun b hb => (hF8 b hb).1) hE6.size
    have hzs8 : w6.heap.size ≤ w8.heap.size := hC8.size
    refine q_idx (v := v1_0) i u22 ti29 rfl rfl hO8.isSl rfl (by first | omega | assumption | (simp only [List.length_nil, List.length_cons, List.length_append, List.length_set, List.length_replicate]; omega) | (simp [List.length_nil, List.length_cons, List.length_append, List.length_set, List.length_replicate]; done) | (simp [List.length_nil, List.length_cons, List.length_append, List.length_set, List.length_replicate]; omega)) up_none ?_
    refine e_setP (v := v1_0) (u := v8) (w := w8) sz29 rfl rfl hO8 up_none ?_
    intro w9 F9 hC9 hz9 hF9 hO9
    have hE9 : Ext w w9 := hC9.below hE8 (fun b hb => (hF9 b hb).1) hE8.size
    have hzs9 : w8.heap.size ≤ w9.heap.size := hC9.size
    refine lw_nil ?_
    refine wp_plain _ [0, 0, 0] rfl ?_
    refine q_move (.int .i64 ((i : Nat) : Int)) rfl up_none ?_
    refine q_add ((i + 1 : Nat) : Int) rfl rfl (w64n (by omega) (by first | omega | assumption | (simp only [List.length_nil, List.length_cons, List.length_append, List.length_set, List.length_replicate]; omega) | (simp [List.length_nil, List.length_cons, List.length_append, List.length_set, List.length_replicate]; done) | (simp [List.length_nil, List.length_cons, List.length_append, List.length_set, List.length_replicate]; omega))) up_none ?_
    refine q_assign (.int .i64 ((i + 1 : Nat) : Int)) rfl up_none ?_
    refine lw_nil ?_
    exact ⟨(i + 1), _, rfl, ⟨rfl, rfl, rfl, trivial⟩, ⟨hE9, (by rw [← augN_row a b (by omega)]; exact hO9), (by first | omega | assumption | (simp only [List.length_nil, List.length_cons, List.length_append, List.length_set, List.length_replicate]; omega) | (simp [List.length_nil, List.length_cons, List.length_append, List.length_set, List.length_replicate]; done) | (simp [List.length_nil, List.length_cons, List.length_append, List.length_set, List.length_replicate]; omega))⟩, by first | omega | (dsimp only; omega)⟩
  ·
    refine q_lss false rfl rfl (decide_eq_false hc4) up_none ?_
    refine lw_nil ?_
    refine c_cond_f rfl ?_
    refine wp_exit ?_
    refine t_exit ?_
    refine t_exit ?_
    refine c_exit_here ?_
    refine wp_seq ?_
    refine wp_seq ?_
    refine wp_plain _ [0] rfl ?_
    refine q_assign (.int .i64 ((0 : Nat) : Int)) rfl up_none ?_
    refine lw_nil ?_
    refine wp_block ?_
    have kF11 := hL2_0.fr
    refine c_loop (S := Nat × List (List Int)) (fun (⟨c, M⟩ : Nat × List (List Int)) => ([(7, (.int .i64 ((c : Nat) : Int))), (5, v1_0)] : List (Nat × Value))) (fun (⟨c, M⟩ : Nat × List (List Int)) (W : World) => Ext w W ∧ Fr (owL (owL rI 2) 29) w.heap.size W.heap.size W.heap v1_0 M ∧ c ≤ a.length ∧ Sh Nm 0 a.length (a.length + 1) M ∧ Hid (jor nA a.length (a.length - c) c M = jorN a b)) (fun (⟨c, M⟩ : Nat × List (List Int)) => a.length - c) (0, augN a b) ⟨rfl, rfl, trivial⟩ ⟨hE2, (by have h := kF11.up o2; rw [mix_all (by simp [augN]) (by omega)] at h; exact h), (by first | omega | assumption | (simp only [List.length_nil, List.length_cons, List.length_append, List.length_set, List.length_replicate]; omega) | (simp [List.length_nil, List.length_cons, List.length_append, List.length_set, List.length_replicate]; done) | (simp [List.length_nil, List.length_cons, List.length_append, List.length_set, List.length_replicate]; omega)), (by exact aug_sh hS hqb), (by exact hidI rfl)⟩ ?_
    clear hL2_0 hE2 hzs2
    rintro ⟨c, M⟩ ρ10 w10 ⟨hE10, hL10_0, hp10_0, hSM, hJ⟩
    have hzs10 : w.heap.size ≤ w10.heap.size := hE10.size
    have hlM := hSM.len
    refine wp_seq ?_
    refine wp_seq ?_
    refine wp_plain _ [0, 0, 0, 0] rfl ?_
    refine q_move (.int .i64 ((c : Nat) : Int)) rfl up_none ?_
    refine q_move v1_0 rfl up_none ?_
    refine q_len (v := v1_0) u22 rfl hL10_0.isSl up_none ?_
    by_cases hc12 : ((c : Nat) : Int) < ((M.length : Nat) : Int)
    ·
      refine q_lss true rfl rfl (decide_eq_true hc12) up_none ?_
      refine lw_nil ?_
      refine c_cond_t rfl ?_
      refine wp_skip ?_
      refine wp_seq ?_
      refine wp_block ?_
      refine wp_seq ?_
      refine wp_plain _ [0, 0] rfl ?_
      refine q_move (.int .i64 ((c : Nat) : Int)) rfl up_none ?_
      refine q_assign (.int .i64 ((c : Nat) : Int)) rfl up_none ?_
      refine lw_nil ?_
      refine wp_seq ?_
      refine wp_block ?_
      have hne := jor_piv hJ.out (by omega) hok
      have hpl := pvJ_lt nA hne (by omega)
      refine c_loop (S := Nat) (fun (p : Nat) => ([(8, (.int .i64 ((p : Nat) : Int))), (5, v1_0), (7, (.int .i64 ((c : Nat) : Int)))] : List (Nat × Value))) (fun (p : Nat) (W : World) => Ext w W ∧ Fr (owL (owL rI 2) 29) w.heap.size W.heap.size W.heap v1_0 M ∧ c ≤ p ∧ p < a.length ∧ Hid (pvt (fun r => nA.z ((M.getD r []).getD c nA.d)) (a.length - p) p = pvJ nA a.length c M)) (fun (p : Nat) => a.length - p) c ⟨rfl, rfl, rfl, trivial⟩ ⟨hE10, hL10_0.up o2, (by first | omega | assumption | (simp only [List.length_nil, List.length_cons, List.length_append, List.length_set, List.length_replicate]; omega) | (simp [List.length_nil, List.length_cons, List.length_append, List.length_set, List.length_replicate]; done) | (simp [List.length_nil, List.length_cons, List.length_append, List.length_set, List.length_replicate]; omega)), (by omega), (by exact hidI rfl)⟩ ?_
      clear hL10_0 hE10 hzs10
      rintro p ρ13 w13 ⟨hE13, hL13_0, hp13_0, hp13_1, hpv⟩
      have hzs13 : w.heap.size ≤ w13.heap.size := hE13.size
      refine wp_seq ?_
      refine wp_seq ?_
      refine wp_plain _ [0, 0, 0, 2, 0, 0, 2, 0] rfl ?_
      have hrp := hSM.row p (by omega)
      have hrl := hrp.len
      refine q_move v1_0 rfl up_none ?_
      refine q_move (.int .i64 ((p : Nat) : Int)) rfl up_none ?_
      refine q_idx (v := v1_0) p u22 ti29 rfl rfl hL13_0.isSl rfl (by first | omega | assumption | (simp only [List.length_nil, List.length_cons, List.length_append, List.length_set, List.length_replicate]; omega) | (simp [List.length_nil, List.length_cons, List.length_append, List.length_set, List.length_replicate]; done) | (simp [List.length_nil, List.length_cons, List.length_append, List.length_set, List.length_replicate]; omega)) up_none ?_
      obtain ⟨ue14, hl14, hd14⟩ := hL13_0.rd2.get (k := p) [] (by first | omega | assumption | (simp only [List.length_nil, List.length_cons, List.length_append, List.length_set, List.length_replicate]; omega) | (simp [List.length_nil, List.length_cons, List.length_append, List.length_set, List.length_replicate]; done) | (simp [List.length_nil, List.length_cons, List.length_append, List.length_set, List.length_replicate]; omega))
      have hln14 := hd14.lenle
      refine q_load (p := eptr v1_0 p 1) (.inr rfl) ue14 one29 rfl hl14 up_none ?_
      refine q_move (.int .i64 ((c : Nat) : Int)) rfl up_none ?_
      refine q_idx (v := ue14) c u29 ti2 rfl rfl hd14.isSl rfl (by first | omega | assumption | (simp only [List.length_nil, List.length_cons, List.length_append, List.length_set, List.length_replicate]; omega) | (simp [List.length_nil, List.length_cons, List.length_append, List.length_set, List.length_replicate]; done) | (simp [List.length_nil, List.length_cons, List.length_append, List.length_set, List.length_replicate]; omega)) up_none ?_
      refine q_load (p := eptr ue14 c 1) (.inr rfl) (.int .i64 ((M.getD p []).getD c 0)) one2 rfl (hd14.getI (by first | omega | assumption | (simp only [List.length_nil, List.length_cons, List.length_append, List.length_set, List.length_replicate]; omega) | (simp [List.length_nil, List.length_cons, List.length_append, List.length_set, List.length_replicate]; done) | (simp [List.length_nil, List.length_cons, List.length_append, List.length_set, List.length_replicate]; omega))).1 up_none ?_
      by_cases hc15 : (M.getD p []).getD c 0 = ((0 : Nat) : Int)
      ·
        refine q_eql true rfl rfl (decide_eq_true hc15) up_none ?_
        refine lw_nil ?_
        refine c_cond_t rfl ?_
        refine wp_skip ?_
        refine wp_block ?_
        refine wp_plain _ [0, 0, 0] rfl ?_
        refine q_move (.int .i64 ((p : Nat) : Int)) rfl up_none ?_
        refine q_add ((p + 1 : Nat) : Int) rfl rfl (w64n (by omega) (by first | omega | assumption | (simp only [List.length_nil, List.length_cons, List.length_append, List.length_set, List.length_replicate]; omega) | (simp [List.length_nil, List.length_cons, List.length_append, List.length_set, List.length_replicate]; done) | (simp [List.length_nil, List.length_cons, List.length_append, List.length_set, List.length_replicate]; omega))) up_none ?_
        refine q_assign (.int .i64 ((p + 1 : Nat) : Int)) rfl up_none ?_
        refine lw_nil ?_
        exact ⟨(p + 1), _, rfl, ⟨rfl, rfl, rfl, trivial⟩, ⟨hE13, hL13_0.up o2, (by first | omega | assumption | (simp only [List.length_nil, List.length_cons, List.length_append, List.length_set, List.length_replicate]; omega) | (simp [List.length_nil, List.length_cons, List.length_append, List.length_set, List.length_replicate]; done) | (simp [List.length_nil, List.length_cons, List.length_append, List.length_set, List.length_replicate]; omega)), (by have e1 := hpv.out; rw [pvt_step (f := (fun r => nA.z ((M.getD r []).getD c nA.d))) (n := a.length) (p := p) (by omega) (decide_eq_true ‹(M.getD p []).getD c 0 = ((0 : Nat) : Int)›)] at e1; have e2 := (pvt_ge (fun r => nA.z ((M.getD r []).getD c nA.d)) (a.length - (p + 1)) (p + 1)).1; omega), (by exact hidI (by rw [← hpv.out, pvt_step (f := (fun r => nA.z ((M.getD r []).getD c nA.d))) (n := a.length) (p := p) (by omega) (decide_eq_true ‹(M.getD p []).getD c 0 = ((0 : Nat) : Int)›)]))⟩, by first | omega | (dsimp only; omega)⟩
      ·
        refine q_eql false rfl rfl (decide_eq_false hc15) up_none ?_
        refine lw_nil ?_
        refine c_cond_f rfl ?_
        refine wp_exit ?_
        refine t_exit ?_
        refine t_exit ?_
        refine c_exit_here ?_
        refine wp_seq ?_
        refine wp_plain _ [0, 0, 0, 2, 0] rfl ?_
        have hpe : p = pvJ nA a.length c M := by rw [← hpv.out]; exact (pvt_here (f := (fun r => nA.z ((M.getD r []).getD c nA.d))) (decide_eq_false ‹¬ (M.getD p []).getD c 0 = ((0 : Nat) : Int)›)).symm
        have hrp := hSM.row p (by omega)
        have hrl := hrp.len
        refine q_move v1_0 rfl up_none ?_
        refine q_move (.int .i64 ((p : Nat) : Int)) rfl up_none ?_
        refine q_idx (v := v1_0) p u22 ti29 rfl rfl hL13_0.isSl rfl (by first | omega | assumption | (simp only [List.length_nil, List.length_cons, List.length_append, List.length_set, List.length_replicate]; omega) | (simp [List.length_nil, List.length_cons, List.length_append, List.length_set, List.length_replicate]; done) | (simp [List.length_nil, List.length_cons, List.length_append, List.length_set, List.length_replicate]; omega)) up_none ?_
        obtain ⟨ue16, hl16, hd16⟩ := hL13_0.rd2.get (k := p) [] (by first | omega | assumption | (simp only [List.length_nil, List.length_cons, List.length_append, List.length_set, List.length_replicate]; omega) | (simp [List.length_nil, List.length_cons, List.length_append, List.length_set, List.length_replicate]; done) | (simp [List.length_nil, List.length_cons, List.length_append, List.length_set, List.length_replicate]; omega))
        have hln16 := hd16.lenle
        refine q_load (p := eptr v1_0 p 1) (.inr rfl) ue16 one29 rfl hl16 up_none ?_
        refine q_assign ue16 rfl up_none ?_
        refine lw_nil ?_
        refine wp_seq ?_
        refine wp_plain _ [0, 0, 0, 0, 0, 2, 0, 4] rfl ?_
        refine q_move v1_0 rfl up_none ?_
        refine q_move (.int .i64 ((p : Nat) : Int)) rfl up_none ?_
        refine q_move v1_0 rfl up_none ?_
        refine q_move (.int .i64 ((c : Nat) : Int)) rfl up_none ?_
        refine q_idx (v := v1_0) c u22 ti29 rfl rfl hL13_0.isSl rfl (by first | omega | assumption | (simp only [List.length_nil, List.length_cons, List.length_append, List.length_set, List.length_replicate]; omega) | (simp [List.length_nil, List.length_cons, List.length_append, List.length_set, List.length_replicate]; done) | (simp [List.length_nil, List.length_cons, List.length_append, List.length_set, List.length_replicate]; omega)) up_none ?_
        obtain ⟨ue17, hl17, hd17⟩ := hL13_0.rd2.get (k := c) [] (by first | omega | assumption | (simp only [List.length_nil, List.length_cons, List.length_append, List.length_set, List.length_replicate]; omega) | (simp [List.length_nil, List.length_cons, List.length_append, List.length_set, List.length_replicate]; done) | (simp [List.length_nil, List.length_cons, List.length_append, List.length_set, List.length_replicate]; omega))
        have hln17 := hd17.lenle
        refine q_load (p := eptr v1_0 c 1) (.inr rfl) ue17 one29 rfl hl17 up_none ?_
        refine q_idx (v := v1_0) p u22 ti29 rfl rfl hL13_0.isSl rfl (by first | omega | assumption | (simp only [List.length_nil, List.length_cons, List.length_append, List.length_set, List.length_replicate]; omega) | (simp [List.length_nil, List.length_cons, List.length_append, List.length_set, List.length_replicate]; done) | (simp [List.length_nil, List.length_cons, List.length_append, List.length_set, List.length_replicate]; omega)) up_none ?_
        have hcx18 := isSl_cells hd17.isSl
        have hcy18 := isSl_cells hd16.isSl
        obtain ⟨us18, hOp18, hUl18, hUs18⟩ := hL13_0.opn o1 (by omega)
        obtain ⟨ua18, hua18, hub18⟩ := hUs18 c (by first | omega | assumption | (simp only [List.length_nil, List.length_cons, List.length_append, List.length_set, List.length_replicate]; omega) | (simp [List.length_nil, List.length_cons, List.length_append, List.length_set, List.length_replicate]; done) | (simp [List.length_nil, List.length_cons, List.length_append, List.length_set, List.length_replicate]; omega))
        obtain ⟨uc18, huc18, hud18⟩ := hUs18 p (by first | omega | assumption | (simp only [List.length_nil, List.length_cons, List.length_append, List.length_set, List.length_replicate]; omega) | (simp [List.length_nil, List.length_cons, List.length_append, List.length_set, List.length_replicate]; done) | (simp [List.length_nil, List.length_cons, List.length_append, List.length_set, List.length_replicate]; omega))
        have hga18 := opn_get hua18 hub18 hl17
        have hgc18 := opn_get huc18 hud18 hl16
        refine e_setV o1 (v := v1_0) (u := ue17) (w := w13) sz29 rfl rfl hOp18 hcx18 (by rw [hUl18]; exact (by first | omega | assumption | (simp only [List.length_nil, List.length_cons, List.length_append, List.length_set, List.length_replicate]; omega) | (simp [List.length_nil, List.length_cons, List.length_append, List.length_set, List.length_replicate]; done) | (simp [List.length_nil, List.length_cons, List.length_append, List.length_set, List.length_replicate]; omega))) up_none ?_
        intro w18 F18 hC18 hz18 hF18 hO18
        have hE18 : Ext w w18 := hC18.below hE13 (fun c hc => Nat.le_trans (Nat.le_refl _) (hF18 c hc).1) hE13.size
        have hzs18 : w13.heap.size ≤ w18.heap.size := hC18.size
        have hR18 := own_rd1 (hO18.row [] (by first | omega | assumption | (simp only [List.length_nil, List.length_cons, List.length_append, List.length_set, List.length_replicate]; omega) | (simp [List.length_nil, List.length_cons, List.length_append, List.length_set, List.length_replicate]; done) | (simp [List.length_nil, List.length_cons, List.length_append, List.length_set, List.length_replicate]; omega)) hgc18)
        refine lw_nil ?_
        refine wp_seq ?_
        refine wp_plain _ [0, 0, 0, 0, 0, 0, 2, 0, 3, 0, 4] rfl ?_
        refine q_move v1_0 rfl up_none ?_
        refine q_move (.int .i64 ((c : Nat) : Int)) rfl up_none ?_
        refine q_move ue16 rfl up_none ?_
        refine q_move ue16 rfl up_none ?_
        refine q_move (.int .i64 ((c : Nat) : Int)) rfl up_none ?_
        refine q_idx (v := ue16) c u29 ti2 rfl rfl hR18.isSl rfl (by first | omega | assumption | (simp only [List.length_nil, List.length_cons, List.length_append, List.length_set, List.length_replicate]; omega) | (simp [List.length_nil, List.length_cons, List.length_append, List.length_set, List.length_replicate]; done) | (simp [List.length_nil, List.length_cons, List.length_append, List.length_set, List.length_replicate]; omega)) up_none ?_
        refine q_load (p := eptr ue16 c 1) (.inr rfl) (.int .i64 ((M.getD p []).getD c 0)) one2 rfl (hR18.getI (by first | omega | assumption | (simp only [List.length_nil, List.length_cons, List.length_append, List.length_set, List.length_replicate]; omega) | (simp [List.length_nil, List.length_cons, List.length_append, List.length_set, List.length_replicate]; done) | (simp [List.length_nil, List.length_cons, List.length_append, List.length_set, List.length_replicate]; omega))).1 up_none ?_
        refine lw_callq 61 [] [] [(.int .i64 ((M.getD p []).getD c 0))] rfl rfl cf61 up_none (.int .i64 (inv ((M.getD p []).getD c 0))) (fun wq => c_spec_l01Inv wq _ (hR18.getI (by first | omega | assumption | (simp only [List.length_nil, List.length_cons, List.length_append, List.length_set, List.length_replicate]; omega) | (simp [List.length_nil, List.length_cons, List.length_append, List.length_set, List.length_replicate]; done) | (simp [List.length_nil, List.length_cons, List.length_append, List.length_set, List.length_replicate]; omega))).2) ?_
        refine lw_call 59 [] [] [ue16, (.int .i64 (inv ((M.getD p []).getD c 0)))] rfl rfl cf59 up_none (c_spec_l01Scale _ _ _ _ hR18 (inv_rng _) (by have := hrp.len; omega)) ?_
        rintro e20 w20 ⟨v20_0, rfl, hX20, hO20_0⟩
        refine ⟨_, rfl, hX20, ?_⟩
        have hzs20 : w18.heap.size ≤ w20.heap.size := hX20.size
        have hE20 : Ext w w20 := hE18.trans hX20
        have hO18x20 := hO18.ext o1 hX20
        have hR18x20 := hR18.ext g1 hX20
        refine q_idx (v := v1_0) c u22 ti29 rfl rfl hL13_0.isSl rfl (by first | omega | assumption | (simp only [List.length_nil, List.length_cons, List.length_append, List.length_set, List.length_replicate]; omega) | (simp [List.length_nil, List.length_cons, List.length_append, List.length_set, List.length_replicate]; done) | (simp [List.length_nil, List.length_cons, List.length_append, List.length_set, List.length_replicate]; omega)) up_none ?_
        refine e_setV o1 (v := v1_0) (u := v20_0) (w := w20) sz29 rfl rfl hO18x20 (isSl_cells hO20_0.isSl) (by rw [List.length_set, hUl18]; exact (by first | omega | assumption | (simp only [List.length_nil, List.length_cons, List.length_append, List.length_set, List.length_replicate]; omega) | (simp [List.length_nil, List.length_cons, List.length_append, List.length_set, List.length_replicate]; done) | (simp [List.length_nil, List.length_cons, List.length_append, List.length_set, List.length_replicate]; omega))) up_none ?_
        intro w21 F21 hC21 hz21 hF21 hO21
        have hE21 : Ext w w21 := hC21.below hE20 (fun c hc => Nat.le_trans (Nat.le_refl _) (hF21 c hc).1) hE20.size
        have hzs21 : w20.heap.size ≤ w21.heap.size := hC21.size
        have hF22 := hO20_0.chg (o1) hC21 (fun c hc => by have := hF21 c hc; omega)
        have hM21 := hO21.rot o1 [] (c := c) (p := p) (by first | omega | assumption | (simp only [List.length_nil, List.length_cons, List.length_append, List.length_set, List.length_replicate]; omega) | (simp [List.length_nil, List.length_cons, List.length_append, List.length_set, List.length_replicate]; done) | (simp [List.length_nil, List.length_cons, List.length_append, List.length_set, List.length_replicate]; omega)) (by first | omega | assumption | (simp only [List.length_nil, List.length_cons, List.length_append, List.length_set, List.length_replicate]; omega) | (simp [List.length_nil, List.length_cons, List.length_append, List.length_set, List.length_replicate]; done) | (simp [List.length_nil, List.length_cons, List.length_append, List.length_set, List.length_replicate]; omega)) (by rw [hga18]) hF22 (by omega) hE18.size
        refine lw_nil ?_
        refine wp_seq ?_
        refine wp_plain _ [0] rfl ?_
        have hD : Sh Nm 0 a.length (a.length + 1) (divJ nA c p M) := hSM.div nA_V (by omega) (by omega) (by omega)
        have hlD := hD.len
        refine q_assign (.int .i64 ((0 : Nat) : Int)) rfl up_none ?_
        refine lw_nil ?_
        refine wp_block ?_
        refine c_loop (S := Nat) (fun (i : Nat) => ([(10, (.int .i64 ((i : Nat) : Int))), (5, v1_0), (7, (.int .i64 ((c : Nat) : Int)))] : List (Nat × Value))) (fun (i : Nat) (W : World) => Ext w W ∧ Fr (owL (owL rI 2) 29) w.heap.size W.heap.size W.heap v1_0 (mix i (rowsJ nA a.length c (divJ nA c p M)) (divJ nA c p M)) ∧ i ≤ a.length) (fun (i : Nat) => a.length - i) 0 ⟨rfl, rfl, rfl, trivial⟩ ⟨hE21, (by rw [mix_zero, ← divN (by omega) (by omega)]; exact hM21.up o2), (by first | omega | assumption | (simp only [List.length_nil, List.length_cons, List.length_append, List.length_set, List.length_replicate]; omega) | (simp [List.length_nil, List.length_cons, List.length_append, List.length_set, List.length_replicate]; done) | (simp [List.length_nil, List.length_cons, List.length_append, List.length_set, List.length_replicate]; omega))⟩ ?_
        clear hL13_0 hE13 hzs13 hln14 hln16 hln17 hO18 hF18 hz18 hC18 hE18 hzs18 hO20_0 hX20 hzs20 hE20 hO18x20 hO21 hF21 hz21 hC21 hE21 hzs21 hF22 hM21
        rintro i ρ23 w23 ⟨hE23, hL23_0, hp23_0⟩
        have hzs23 : w.heap.size ≤ w23.heap.size := hE23.size
        have hlr := rowsJ_len (R := nA) (c := c) hlD i
        refine wp_seq ?_
        refine wp_seq ?_
        refine wp_plain _ [0, 0, 0, 0] rfl ?_
        refine q_move (.int .i64 ((i : Nat) : Int)) rfl up_none ?_
        refine q_move v1_0 rfl up_none ?_
        refine q_len (v := v1_0) u22 rfl hL23_0.isSl up_none ?_
        by_cases hc24 : ((i : Nat) : Int) < (((mix i (rowsJ nA a.length c (divJ nA c p M)) (divJ nA c p M)).length : Nat) : Int)
        ·
          refine q_lss true rfl rfl (decide_eq_true hc24) up_none ?_
          refine lw_nil ?_
          refine c_cond_t rfl ?_
          refine wp_skip ?_
          refine wp_seq ?_
          refine wp_block ?_
          refine wp_seq ?_
          refine wp_plain _ [0, 0, 0] rfl ?_
          refine q_move (.int .i64 ((i : Nat) : Int)) rfl up_none ?_
          refine q_move (.int .i64 ((c : Nat) : Int)) rfl up_none ?_
          by_cases hc25 : ((i : Nat) : Int) ≠ ((c : Nat) : Int)
          ·
            refine q_neq true rfl rfl (decide_eq_true hc25) up_none ?_
            refine lw_nil ?_
            refine c_cond_t rfl ?_
            refine wp_draw _ [0, 0, 0, 1, 0, 0, 0, 1, 0, 0, 0, 1, 0, 0, 1, 4] mixed (by kernel_rfl) ?_
            have hrI := rowsJ_row nA_V hD (c := c) (by omega) (by omega) (show i ≤ a.length by omega) (show i < a.length by omega)
            have hrC := rowsJ_row nA_V hD (c := c) (by omega) (by omega) (show i ≤ a.length by omega) (show c < a.length by omega)
            have hrIl := hrI.len
            have hrCl := hrC.len
            refine q_move v1_0 rfl up_none ?_
            refine q_move (.int .i64 ((i : Nat) : Int)) rfl up_none ?_
            refine q_idx (v := v1_0) i u22 ti29 rfl rfl hL23_0.isSl rfl (by first | omega | assumption | (simp only [List.length_nil, List.length_cons, List.length_append, List.length_set, List.length_replicate]; omega) | (simp [List.length_nil, List.length_cons, List.length_append, List.length_set, List.length_replicate]; done) | (simp [List.length_nil, List.length_cons, List.length_append, List.length_set, List.length_replicate]; omega)) up_none ?_
            obtain ⟨ue26, hl26, hd26⟩ := hL23_0.rd2.get (k := i) [] (by first | omega | assumption | (simp only [List.length_nil, List.length_cons, List.length_append, List.length_set, List.length_replicate]; omega) | (simp [List.length_nil, List.length_cons, List.length_append, List.length_set, List.length_replicate]; done) | (simp [List.length_nil, List.length_cons, List.length_append, List.length_set, List.length_replicate]; omega))
            have hln26 := hd26.lenle
            refine q_load (p := eptr v1_0 i 1) (.inl rfl) ue26 one29 rfl hl26 up_none ?_
            refine q_move v1_0 rfl up_none ?_
            refine q_move (.int .i64 ((c : Nat) : Int)) rfl up_none ?_
            refine q_idx (v := v1_0) c u22 ti29 rfl rfl hL23_0.isSl rfl (by first | omega | assumption | (simp only [List.length_nil, List.length_cons, List.length_append, List.length_set, List.length_replicate]; omega) | (simp [List.length_nil, List.length_cons, List.length_append, List.length_set, List.length_replicate]; done) | (simp [List.length_nil, List.length_cons, List.length_append, List.length_set, List.length_replicate]; omega)) up_none ?_
            obtain ⟨ue27, hl27, hd27⟩ := hL23_0.rd2.get (k := c) [] (by first | omega | assumption | (simp only [List.length_nil, List.length_cons, List.length_append, List.length_set, List.length_replicate]; omega) | (simp [List.length_nil, List.length_cons, List.length_append, List.length_set, List.length_replicate]; done) | (simp [List.length_nil, List.length_cons, List.length_append, List.length_set, List.length_replicate]; omega))
            have hln27 := hd27.lenle
            refine q_load (p := eptr v1_0 c 1) (.inl rfl) ue27 one29 rfl hl27 up_none ?_
            refine q_move v1_0 rfl up_none ?_
            refine q_move (.int .i64 ((i : Nat) : Int)) rfl up_none ?_
            refine q_idx (v := v1_0) i u22 ti29 rfl rfl hL23_0.isSl rfl (by first | omega | assumption | (simp only [List.length_nil, List.length_cons, List.length_append, List.length_set, List.length_replicate]; omega) | (simp [List.length_nil, List.length_cons, List.length_append, List.length_set, List.length_replicate]; done) | (simp [List.length_nil, List.length_cons, List.length_append, List.length_set, List.length_replicate]; omega)) up_none ?_
            obtain ⟨ue28, hl28, hd28⟩ := hL23_0.rd2.get (k := i) [] (by first | omega | assumption | (simp only [List.length_nil, List.length_cons, List.length_append, List.length_set, List.length_replicate]; omega) | (simp [List.length_nil, List.length_cons, List.length_append, List.length_set, List.length_replicate]; done) | (simp [List.length_nil, List.length_cons, List.length_append, List.length_set, List.length_replicate]; omega))
            have hln28 := hd28.lenle
            refine q_load (p := eptr v1_0 i 1) (.inl rfl) ue28 one29 rfl hl28 up_none ?_
            refine q_move (.int .i64 ((c : Nat) : Int)) rfl up_none ?_
            refine q_idx (v := ue28) c u29 ti2 rfl rfl hd28.isSl rfl (by first | omega | assumption | (simp only [List.length_nil, List.length_cons, List.length_append, List.length_set, List.length_replicate]; omega) | (simp [List.length_nil, List.length_cons, List.length_append, List.length_set, List.length_replicate]; done) | (simp [List.length_nil, List.length_cons, List.length_append, List.length_set, List.length_replicate]; omega)) up_none ?_
            refine q_load (p := eptr ue28 c 1) (.inl rfl) (.int .i64 (((mix i (rowsJ nA a.length c (divJ nA c p M)) (divJ nA c p M)).getD i []).getD c 0)) one2 rfl (hd28.getI (by first | omega | assumption | (simp only [List.length_nil, List.length_cons, List.length_append, List.length_set, List.length_replicate]; omega) | (simp [List.length_nil, List.length_cons, List.length_append, List.length_set, List.length_replicate]; done) | (simp [List.length_nil, List.length_cons, List.length_append, List.length_set, List.length_replicate]; omega))).1 up_none ?_
            obtain ⟨G29, ha29, hb29, hc29, hd29, he29⟩ := hL23_0.row_two o1 [] (by first | omega | assumption | (simp only [List.length_nil, List.length_cons, List.length_append, List.length_set, List.length_replicate]; omega) | (simp [List.length_nil, List.length_cons, List.length_append, List.length_set, List.length_replicate]; done) | (simp [List.length_nil, List.length_cons, List.length_append, List.length_set, List.length_replicate]; omega)) hl26
            refine lw_callE 95 [] [] [ue26, ue27, (.int .i64 (((mix i (rowsJ nA a.length c (divJ nA c p M)) (divJ nA c p M)).getD i []).getD c 0))] rfl rfl cf95 up_none (c_spec_l07Take _ _ _ _ _ _ _ ha29 hb29 (fun w2 h2 => (he29 _ _ (by omega) (by first | omega | assumption | (simp only [List.length_nil, List.length_cons, List.length_append, List.length_set, List.length_replicate]; omega) | (simp [List.length_nil, List.length_cons, List.length_append, List.length_set, List.length_replicate]; done) | (simp [List.length_nil, List.length_cons, List.length_append, List.length_set, List.length_replicate]; omega)) hl27 w2 h2.of_drew).imp fun C h => h.rd id) (hd28.getI (by first | omega | assumption | (simp only [List.length_nil, List.length_cons, List.length_append, List.length_set, List.length_replicate]; omega) | (simp [List.length_nil, List.length_cons, List.length_append, List.length_set, List.length_replicate]; done) | (simp [List.length_nil, List.length_cons, List.length_append, List.length_set, List.length_replicate]; omega))).2 (by have := hrI.len; have := hrC.len; omega) (by exact rowV_num hrI) (by exact rowV_num hrC) (by exact hrI.val c (by omega))) ?_
            rintro e29 w29 ⟨rfl, hC29, hO29⟩
            replace hC29 := hC29.of_drew
            refine ⟨_, rfl, ?_⟩
            have hE29 : Ext w w29 := hC29.below hE23 (fun b hb => Nat.le_trans (Nat.le_refl _) (hc29 b hb).1) hE23.size
            have hF29 := hc29
            have hM29 := hd29 hC29 hO29
            have hzs29 : w23.heap.size ≤ w29.heap.size := hC29.size
            refine lw_nil ?_
            refine wp_plain _ [0, 0, 0] rfl ?_
            refine q_move (.int .i64 ((i : Nat) : Int)) rfl up_none ?_
            refine q_add ((i + 1 : Nat) : Int) rfl rfl (w64n (by omega) (by first | omega | assumption | (simp only [List.length_nil, List.length_cons, List.length_append, List.length_set, List.length_replicate]; omega) | (simp [List.length_nil, List.length_cons, List.length_append, List.length_set, List.length_replicate]; done) | (simp [List.length_nil, List.length_cons, List.length_append, List.length_set, List.length_replicate]; omega))) up_none ?_
            refine q_assign (.int .i64 ((i + 1 : Nat) : Int)) rfl up_none ?_
            refine lw_nil ?_
            exact ⟨(i + 1), _, rfl, ⟨rfl, rfl, rfl, trivial⟩, ⟨hE29, (by first | (rw [← row_take hlD (by omega) (by omega) (by omega)]; exact hM29.up o2) | (rw [rowsJ_skip hlD (by omega) (by omega)]; exact hM29.up o2)), (by first | omega | assumption | (simp only [List.length_nil, List.length_cons, List.length_append, List.length_set, List.length_replicate]; omega) | (simp [List.length_nil, List.length_cons, List.length_append, List.length_set, List.length_replicate]; done) | (simp [List.length_nil, List.length_cons, List.length_append, List.length_set, List.length_replicate]; omega))⟩, by first | omega | (dsimp only; omega)⟩
          ·
            refine q_neq false rfl rfl (decide_eq_false hc25) up_none ?_
            refine lw_nil ?_
            refine c_cond_f rfl ?_
            refine wp_skip ?_
            refine wp_plain _ [0, 0, 0] rfl ?_
            refine q_move (.int .i64 ((i : Nat) : Int)) rfl up_none ?_
            refine q_add ((i + 1 : Nat) : Int) rfl rfl (w64n (by omega) (by first | omega | assumption | (simp only [List.length_nil, List.length_cons, List.length_append, List.length_set, List.length_replicate]; omega) | (simp [List.length_nil, List.length_cons, List.length_append, List.length_set, List.length_replicate]; done) | (simp [List.length_nil, List.length_cons, List.length_append, List.length_set, List.length_replicate]; omega))) up_none ?_
            refine q_assign (.int .i64 ((i + 1 : Nat) : Int)) rfl up_none ?_
            refine lw_nil ?_
            exact ⟨(i + 1), _, rfl, ⟨rfl, rfl, rfl, trivial⟩, ⟨hE23, (by first | (rw [← row_take hlD (by omega) (by omega) (by omega)]; exact hL23_0.up o2) | (rw [rowsJ_skip hlD (by omega) (by omega)]; exact hL23_0.up o2)), (by first | omega | assumption | (simp only [List.length_nil, List.length_cons, List.length_append, List.length_set, List.length_replicate]; omega) | (simp [List.length_nil, List.length_cons, List.length_append, List.length_set, List.length_replicate]; done) | (simp [List.length_nil, List.length_cons, List.length_append, List.length_set, List.length_replicate]; omega))⟩, by first | omega | (dsimp only; omega)⟩
        ·
          refine q_lss false rfl rfl (decide_eq_false hc24) up_none ?_
          refine lw_nil ?_
          refine c_cond_f rfl ?_
          refine wp_exit ?_
          refine t_exit ?_
          refine t_exit ?_
          refine c_exit_here ?_
          refine wp_plain _ [0, 0, 0] rfl ?_
          refine q_move (.int .i64 ((c : Nat) : Int)) rfl up_none ?_
          refine q_add ((c + 1 : Nat) : Int) rfl rfl (w64n (by omega) (by first | omega | assumption | (simp only [List.length_nil, List.length_cons, List.length_append, List.length_set, List.length_replicate]; omega) | (simp [List.length_nil, List.length_cons, List.length_append, List.length_set, List.length_replicate]; done) | (simp [List.length_nil, List.length_cons, List.length_append, List.length_set, List.length_replicate]; omega))) up_none ?_
          refine q_assign (.int .i64 ((c + 1 : Nat) : Int)) rfl up_none ?_
          refine lw_nil ?_
          exact ⟨((c + 1), (mix i (rowsJ nA a.length c (divJ nA c p M)) (divJ nA c p M))), _, rfl, ⟨rfl, rfl, trivial⟩, ⟨hE23, (by have h := hL23_0.up o2; exact h), (by first | omega | assumption | (simp only [List.length_nil, List.length_cons, List.length_append, List.length_set, List.length_replicate]; omega) | (simp [List.length_nil, List.length_cons, List.length_append, List.length_set, List.length_replicate]; done) | (simp [List.length_nil, List.length_cons, List.length_append, List.length_set, List.length_replicate]; omega)), (by rw [mix_all (by simp [rowsJ, hlD]) (by omega)]; exact hD.rows nA_V (by omega) (by omega)), (by rw [mix_all (by simp [rowsJ, hlD]) (by omega)]; exact hidI (by have h := jor_step hJ.out (by omega) (by rw [← hpe]; omega); rw [← hpe] at h; exact h))⟩, by first | omega | (dsimp only; omega)⟩
    ·
      refine q_lss false rfl rfl (decide_eq_false hc12) up_none ?_
      refine lw_nil ?_
      refine c_cond_f rfl ?_
      refine wp_exit ?_
      refine t_exit ?_
      refine t_exit ?_
      refine c_exit_here ?_
      refine wp_seq ?_
      refine wp_plain _ [3, 0] rfl ?_
      refine r_nil (rI) good_rI u29 ti2 up_none ?_
      intro v30 w30 hX30 hz30 hO30
      have hzs30 : w10.heap.size ≤ w30.heap.size := hX30.size
      have hE30 : Ext w w30 := hE10.trans hX30
      have hL10_0x30 := hL10_0.ext (o2) hX30
      refine q_assign v30 rfl up_none ?_
      refine lw_nil ?_
      refine wp_seq ?_
      refine wp_seq ?_
      refine wp_plain _ [0] rfl ?_
      refine q_assign (.int .i64 ((0 : Nat) : Int)) rfl up_none ?_
      refine lw_nil ?_
      refine wp_block ?_
      have hsome := jor_end hJ.out (by omega)
      refine c_loop (S := Nat × Value) (fun (⟨k, vo⟩ : Nat × Value) => ([(11, vo), (12, (.int .i64 ((k : Nat) : Int))), (5, v1_0)] : List (Nat × Value))) (fun (⟨k, vo⟩ : Nat × Value) (W : World) => Ext w W ∧ Fr (owL rI 2) w10.heap.size W.heap.size W.heap vo ((M.take k).map (fun r => r.getD a.length 0)) ∧ Fr (owL (owL rI 2) 29) w.heap.size w10.heap.size W.heap v1_0 M ∧ k ≤ a.length ∧ w10.heap.size ≤ W.heap.size) (fun (⟨k, vo⟩ : Nat × Value) => a.length - k) (0, v30) ⟨rfl, rfl, rfl, trivial⟩ ⟨hE30, hO30.up o1, hL10_0x30, (by first | omega | assumption | (simp only [List.length_nil, List.length_cons, List.length_append, List.length_set, List.length_replicate]; omega) | (simp [List.length_nil, List.length_cons, List.length_append, List.length_set, List.length_replicate]; done) | (simp [List.length_nil, List.length_cons, List.length_append, List.length_set, List.length_replicate]; omega)), (by omega)⟩ ?_
      clear hL10_0 hO30 hz30 hX30 hzs30 hE30 hL10_0x30
      rintro ⟨k, vo⟩ ρ31 w31 ⟨hE31, hL31_0, hL31_1, hp31_0, hkB32⟩
      have hzs31 : w.heap.size ≤ w31.heap.size := hE31.size
      refine wp_seq ?_
      refine wp_seq ?_
      refine wp_plain _ [0, 0, 0, 0] rfl ?_
      refine q_move (.int .i64 ((k : Nat) : Int)) rfl up_none ?_
      refine q_move v1_0 rfl up_none ?_
      refine q_len (v := v1_0) u22 rfl hL31_1.isSl up_none ?_
      by_cases hc33 : ((k : Nat) : Int) < ((M.length : Nat) : Int)
      ·
        refine q_lss true rfl rfl (decide_eq_true hc33) up_none ?_
        refine lw_nil ?_
        refine c_cond_t rfl ?_
        refine wp_skip ?_
        refine wp_seq ?_
        refine wp_block ?_
        refine wp_plain _ [0, 0, 0, 0, 2, 0, 0, 0, 2, 3, 4, 0] rfl ?_
        have hrk := (hSM.row k (by omega)).len
        refine q_move vo rfl up_none ?_
        refine q_move v1_0 rfl up_none ?_
        refine q_move (.int .i64 ((k : Nat) : Int)) rfl up_none ?_
        refine q_idx (v := v1_0) k u22 ti29 rfl rfl hL31_1.isSl rfl (by first | omega | assumption | (simp only [List.length_nil, List.length_cons, List.length_append, List.length_set, List.length_replicate]; omega) | (simp [List.length_nil, List.length_cons, List.length_append, List.length_set, List.length_replicate]; done) | (simp [List.length_nil, List.length_cons, List.length_append, List.length_set, List.length_replicate]; omega)) up_none ?_
        obtain ⟨ue34, hl34, hd34⟩ := hL31_1.rd2.get (k := k) [] (by first | omega | assumption | (simp only [List.length_nil, List.length_cons, List.length_append, List.length_set, List.length_replicate]; omega) | (simp [List.length_nil, List.length_cons, List.length_append, List.length_set, List.length_replicate]; done) | (simp [List.length_nil, List.length_cons, List.length_append, List.length_set, List.length_replicate]; omega))
        have hln34 := hd34.lenle
        refine q_load (p := eptr v1_0 k 1) (.inr rfl) ue34 one29 rfl hl34 up_none ?_
        refine q_move v1_0 rfl up_none ?_
        refine q_len (v := v1_0) u22 rfl hL31_1.isSl up_none ?_
        refine q_idx (v := ue34) M.length u29 ti2 rfl rfl hd34.isSl rfl (by first | omega | assumption | (simp only [List.length_nil, List.length_cons, List.length_append, List.length_set, List.length_replicate]; omega) | (simp [List.length_nil, List.length_cons, List.length_append, List.length_set, List.length_replicate]; done) | (simp [List.length_nil, List.length_cons, List.length_append, List.length_set, List.length_replicate]; omega)) up_none ?_
        refine q_load (p := eptr ue34 M.length 1) (.inr rfl) (.int .i64 ((M.getD k []).getD M.length 0)) one2 rfl (hd34.getI (by first | omega | assumption | (simp only [List.length_nil, List.length_cons, List.length_append, List.length_set, List.length_replicate]; omega) | (simp [List.length_nil, List.length_cons, List.length_append, List.length_set, List.length_replicate]; done) | (simp [List.length_nil, List.length_cons, List.length_append, List.length_set, List.length_replicate]; omega))).1 up_none ?_
        refine r_one (u := (.int .i64 ((M.getD k []).getD M.length 0))) (B := w31.heap.size) good_rI u29 ti2 rfl rfl (frI w31.heap.size w31.heap.size _ _ (hd34.getI (by first | omega | assumption | (simp only [List.length_nil, List.length_cons, List.length_append, List.length_set, List.length_replicate]; omega) | (simp [List.length_nil, List.length_cons, List.length_append, List.length_set, List.length_replicate]; done) | (simp [List.length_nil, List.length_cons, List.length_append, List.length_set, List.length_replicate]; omega))).2) (Nat.le_refl _) up_none ?_
        intro v35 w35 hX35 hz35 hO35
        have hzs35 : w31.heap.size ≤ w35.heap.size := hX35.size
        have hE35 : Ext w w35 := hE31.trans hX35
        have hL31_0x35 := hL31_0.ext (o1) hX35
        have hL31_1x35 := hL31_1.ext (o2) hX35
        have hd34x35 := hd34.ext g1 hX35
        have hlx36 := ldH_ext hX35 hl34
        refine e_appI (v := vo) (a := v35) u29 ti2 rfl rfl rfl hL31_0x35 (by omega) hO35.rd1 (by first | omega | assumption | (simp only [List.length_nil, List.length_cons, List.length_append, List.length_set, List.length_replicate]; omega) | (simp [List.length_nil, List.length_cons, List.length_append, List.length_set, List.length_replicate]; done) | (simp [List.length_nil, List.length_cons, List.length_append, List.length_set, List.length_replicate]; omega)) (by unfold maxLen; first | omega | assumption | (simp only [List.length_nil, List.length_cons, List.length_append, List.length_set, List.length_replicate]; omega) | (simp [List.length_nil, List.length_cons, List.length_append, List.length_set, List.length_replicate]; done) | (simp [List.length_nil, List.length_cons, List.length_append, List.length_set, List.length_replicate]; omega)) up_none ?_
        intro v37 w37 F37 hC37 hF37 hO37
        have hE37 : Ext w w37 := hC37.below hE35 (fun c hc => Nat.le_trans hE10.size (hF37 c hc).1) hE35.size
        have hzs37 : w35.heap.size ≤ w37.heap.size := hC37.size
        have hF38 := hL31_1x35.chg (o2) hC37 (fun c hc => by have := hF37 c hc; omega)
        have hF39 := hO35.chg (o1) hC37 (fun c hc => by have := hF37 c hc; omega)
        refine q_assign v37 rfl up_none ?_
        refine lw_nil ?_
        refine wp_plain _ [0, 0, 0] rfl ?_
        refine q_move (.int .i64 ((k : Nat) : Int)) rfl up_none ?_
        refine q_add ((k + 1 : Nat) : Int) rfl rfl (w64n (by omega) (by first | omega | assumption | (simp only [List.length_nil, List.length_cons, List.length_append, List.length_set, List.length_replicate]; omega) | (simp [List.length_nil, List.length_cons, List.length_append, List.length_set, List.length_replicate]; done) | (simp [List.length_nil, List.length_cons, List.length_append, List.length_set, List.length_replicate]; omega))) up_none ?_
        refine q_assign (.int .i64 ((k + 1 : Nat) : Int)) rfl up_none ?_
        refine lw_nil ?_
        exact ⟨((k + 1), v37), _, rfl, ⟨rfl, rfl, rfl, trivial⟩, ⟨hE37, (by have h := hO37.up o1; rw [hlM] at h; rw [map_snoc [] (by omega)]; exact h), hF38, (by first | omega | assumption | (simp only [List.length_nil, List.length_cons, List.length_append, List.length_set, List.length_replicate]; omega) | (simp [List.length_nil, List.length_cons, List.length_append, List.length_set, List.length_replicate]; done) | (simp [List.length_nil, List.length_cons, List.length_append, List.length_set, List.length_replicate]; omega)), (by omega)⟩, by first | omega | (dsimp only; omega)⟩
      ·
        refine q_lss false rfl rfl (decide_eq_false hc33) up_none ?_
        refine lw_nil ?_
        refine c_cond_f rfl ?_
        refine wp_exit ?_
        refine t_exit ?_
        refine t_exit ?_
        refine c_exit_here ?_
        refine wp_seq ?_
        refine wp_plain _ [0, 0] rfl ?_
        refine q_move vo rfl up_none ?_
        refine q_assign vo rfl up_none ?_
        refine lw_nil ?_
        refine wp_ret ?_
        exact post_ret [4] rfl vo rfl ⟨vo, rfl, hE31, (by have h := (hL31_0.up o1).low hE10.size; rw [List.take_of_length_le (by omega)] at h; rw [solN_of hsome]; exact h)⟩
end Go.Proofs.Ytjgnlnlngcjfcaa
