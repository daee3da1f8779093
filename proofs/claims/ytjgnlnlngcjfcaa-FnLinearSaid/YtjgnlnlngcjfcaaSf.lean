/- Contracts of functions: each says what the function returns for all arguments that meet its premises. Printed by gen.py. -/
import Derived.Test.YtjgnlnlngcjfcaaMc
import Derived.Test.YtjgnlnlngcjfcaaFwJ
import Derived.Test.YtjgnlnlngcjfcaaT
import Derived.Test.YtjgnlnlngcjfcaaSa
import Derived.Test.YtjgnlnlngcjfcaaSb
import Derived.Test.YtjgnlnlngcjfcaaSc
import Derived.Test.YtjgnlnlngcjfcaaProg
namespace Go.Proofs.Ytjgnlnlngcjfcaa
open Go Go.RowKit
set_option linter.unusedVariables false
set_option linter.unusedSimpArgs false
attribute [local irreducible] LW
/- laws.markInt64S -/
set_option maxHeartbeats 4000000 in
set_option maxRecDepth 100000 in
theorem c_laws_markInt64S (w : World) (va : Value) (a : List Int) (Fa : List Nat) (k : Int) (ha : owL rI 2 w.heap va a Fa) (hna : Fa.Nodup) (_hk : -9223372036854775808 ≤ k ∧ k ≤ 9223372036854775807) (hk : 0 ≤ k ∧ k + (a.length : Int) ≤ 4611686018427387904) :
    Calls Try.prog 21 #[va, .int .i64 k] w (fun e w' => e = .returned (.int .i64 (k + ((a.length : Nat) : Int))) ∧ Chg Fa w w' ∧ owL rI 2 w'.heap va (up a.length k) Fa) := by
  refine calls_mk [va, .int .i64 k] 19 Try.func21 rfl rfl (by simp) ?_
  have hE0 : Chg Fa w w := Chg.refl Fa w
  have hl_va := ha.lenle
  unfold maxLen at hl_va
  refine wp_seq ?_
  refine wp_plain _ [0] rfl ?_
  refine q_assign (.int .i64 ((0 : Nat) : Int)) rfl up_none ?_
  refine lw_nil ?_
  refine wp_seq ?_
  refine wp_seq ?_
  refine wp_plain _ [0] rfl ?_
  refine q_assign (.int .i64 ((0 : Nat) : Int)) rfl up_none ?_
  refine lw_nil ?_
  refine wp_block ?_
  refine c_loop (S := Nat × Int) (fun (⟨j, l⟩ : Nat × Int) => ([(1, (.int .i64 l)), (5, (.int .i64 ((j : Nat) : Int))), (0, va)] : List (Nat × Value))) (fun (⟨j, l⟩ : Nat × Int) (W : World) => Chg Fa w W ∧ owL rI 2 W.heap va (mix j (up a.length k) a) Fa ∧ j ≤ a.length ∧ l = k + ((j : Nat) : Int)) (fun (⟨j, l⟩ : Nat × Int) => a.length - j) (0, k) ⟨rfl, rfl, rfl, trivial⟩ ⟨hE0, (by first | (rw [mix_zero]; exact ha) | (have h := ha; rw [hl] at h; unfold up; rw [mix_tab rfl (by omega)]; exact h)), (by first | omega | assumption | (simp only [List.length_nil, List.length_cons, List.length_append, List.length_set, List.length_replicate]; omega) | (simp [List.length_nil, List.length_cons, List.length_append, List.length_set, List.length_replicate]; done) | (simp [List.length_nil, List.length_cons, List.length_append, List.length_set, List.length_replicate]; omega)), (by omega)⟩ ?_
  clear hE0
  rintro ⟨j, l⟩ ρ1 w1 ⟨hE1, hL1_0, hp1_0, hl⟩
  have hzs1 : w.heap.size ≤ w1.heap.size := hE1.size
  have hml := mix_len j (up a.length k) a (up_len _ _)
  refine wp_seq ?_
  refine wp_seq ?_
  refine wp_plain _ [0, 0, 0, 0] rfl ?_
  refine q_move (.int .i64 ((j : Nat) : Int)) rfl up_none ?_
  refine q_move va rfl up_none ?_
  refine q_len (v := va) u29 rfl (hL1_0.rd id).isSl up_none ?_
  by_cases hc2 : ((j : Nat) : Int) < (((mix j (up a.length k) a).length : Nat) : Int)
  ·
    refine q_lss true rfl rfl (decide_eq_true hc2) up_none ?_
    refine lw_nil ?_
    refine c_cond_t rfl ?_
    refine wp_skip ?_
    refine wp_seq ?_
    refine wp_block ?_
    refine wp_seq ?_
    refine wp_plain _ [0, 0, 0, 0, 4] rfl ?_
    refine q_move va rfl up_none ?_
    refine q_move (.int .i64 ((j : Nat) : Int)) rfl up_none ?_
    refine q_move (.int .i64 l) rfl up_none ?_
    refine q_idx (v := va) j u29 ti2 rfl rfl (hL1_0.rd id).isSl rfl (by first | omega | assumption | (simp only [List.length_nil, List.length_cons, List.length_append, List.length_set, List.length_replicate]; omega) | (simp [List.length_nil, List.length_cons, List.length_append, List.length_set, List.length_replicate]; done) | (simp [List.length_nil, List.length_cons, List.length_append, List.length_set, List.length_replicate]; omega)) up_none ?_
    refine e_set0 (v := va) (w := w1) sz2 rfl rfl (by omega) hL1_0 hna (by first | omega | assumption | (simp only [List.length_nil, List.length_cons, List.length_append, List.length_set, List.length_replicate]; omega) | (simp [List.length_nil, List.length_cons, List.length_append, List.length_set, List.length_replicate]; done) | (simp [List.length_nil, List.length_cons, List.length_append, List.length_set, List.length_replicate]; omega)) up_none ?_
    intro w3 hC3 hz3 hO3
    have hE3 : Chg Fa w w3 := hE1.trans hC3
    refine lw_nil ?_
    refine wp_plain _ [0, 0, 0] rfl ?_
    refine q_move (.int .i64 l) rfl up_none ?_
    refine q_add (l + ((1 : Nat) : Int)) rfl rfl (w64 (by first | omega | assumption | (simp only [List.length_nil, List.length_cons, List.length_append, List.length_set, List.length_replicate]; omega) | (simp [List.length_nil, List.length_cons, List.length_append, List.length_set, List.length_replicate]; done) | (simp [List.length_nil, List.length_cons, List.length_append, List.length_set, List.length_replicate]; omega)) (by first | omega | assumption | (simp only [List.length_nil, List.length_cons, List.length_append, List.length_set, List.length_replicate]; omega) | (simp [List.length_nil, List.length_cons, List.length_append, List.length_set, List.length_replicate]; done) | (simp [List.length_nil, List.length_cons, List.length_append, List.length_set, List.length_replicate]; omega))) up_none ?_
    refine q_assign (.int .i64 (l + ((1 : Nat) : Int))) rfl up_none ?_
    refine lw_nil ?_
    refine wp_plain _ [0, 0, 0] rfl ?_
    refine q_move (.int .i64 ((j : Nat) : Int)) rfl up_none ?_
    refine q_add ((j + 1 : Nat) : Int) rfl rfl (w64n (by omega) (by first | omega | assumption | (simp only [List.length_nil, List.length_cons, List.length_append, List.length_set, List.length_replicate]; omega) | (simp [List.length_nil, List.length_cons, List.length_append, List.length_set, List.length_replicate]; done) | (simp [List.length_nil, List.length_cons, List.length_append, List.length_set, List.length_replicate]; omega))) up_none ?_
    refine q_assign (.int .i64 ((j + 1 : Nat) : Int)) rfl up_none ?_
    refine lw_nil ?_
    exact ⟨((j + 1), (l + ((1 : Nat) : Int))), _, rfl, ⟨rfl, rfl, rfl, trivial⟩, ⟨hE3, (by first | (rw [mix_zero]; exact hO3) | (have h := hO3; rw [hl] at h; unfold up; rw [mix_tab rfl (by omega)]; exact h)), (by first | omega | assumption | (simp only [List.length_nil, List.length_cons, List.length_append, List.length_set, List.length_replicate]; omega) | (simp [List.length_nil, List.length_cons, List.length_append, List.length_set, List.length_replicate]; done) | (simp [List.length_nil, List.length_cons, List.length_append, List.length_set, List.length_replicate]; omega)), (by omega)⟩, by first | omega | (dsimp only; omega)⟩
  ·
    refine q_lss false rfl rfl (decide_eq_false hc2) up_none ?_
    refine lw_nil ?_
    refine c_cond_f rfl ?_
    refine wp_exit ?_
    refine t_exit ?_
    refine t_exit ?_
    refine c_exit_here ?_
    refine wp_seq ?_
    refine wp_plain _ [0, 0] rfl ?_
    refine q_move (.int .i64 l) rfl up_none ?_
    refine q_assign (.int .i64 l) rfl up_none ?_
    refine lw_nil ?_
    refine wp_ret ?_
    exact post_ret [4] rfl (.int .i64 l) rfl ⟨(ret_int (by rw [hl, show j = a.length from by omega])), hE1, (by have h := hL1_0; rwa [mix_all (up_len _ _) (by omega)] at h)⟩

/- laws.heldInt64S -/
set_option maxHeartbeats 4000000 in
set_option maxRecDepth 100000 in
theorem c_laws_heldInt64S (w : World) (va : Value) (a : List Int) (k : Int) (ha : Rd (rdL rI) w.heap va a) (_hk : -9223372036854775808 ≤ k ∧ k ≤ 9223372036854775807) (hk : 0 ≤ k ∧ k + (a.length : Int) ≤ 4611686018427387904) (heq : ∀ i, i < a.length → a.getD i 0 = k + ((i : Nat) : Int)) :
    Calls Try.prog 25 #[va, .int .i64 k] w (fun e w' => e = .returned (.int .i64 (k + ((a.length : Nat) : Int))) ∧ Ext w w') := by
  refine calls_mk [va, .int .i64 k] 21 Try.func25 rfl rfl (by simp) ?_
  have hE0 : Ext w w := Ext.refl w
  have hl_va := ha.lenle
  refine wp_seq ?_
  refine wp_plain _ [0] rfl ?_
  refine q_assign (.int .i64 ((0 : Nat) : Int)) rfl up_none ?_
  refine lw_nil ?_
  refine wp_seq ?_
  refine wp_seq ?_
  refine wp_plain _ [0] rfl ?_
  refine q_assign (.int .i64 ((0 : Nat) : Int)) rfl up_none ?_
  refine lw_nil ?_
  refine wp_block ?_
  refine c_loop (S := Nat × Int) (fun (⟨j, l⟩ : Nat × Int) => ([(1, (.int .i64 l)), (5, (.int .i64 ((j : Nat) : Int))), (0, va)] : List (Nat × Value))) (fun (⟨j, l⟩ : Nat × Int) (W : World) => Ext w W ∧ j ≤ a.length ∧ l = k + ((j : Nat) : Int)) (fun (⟨j, l⟩ : Nat × Int) => a.length - j) (0, k) ⟨rfl, rfl, rfl, trivial⟩ ⟨hE0, (by first | omega | assumption | (simp only [List.length_nil, List.length_cons, List.length_append, List.length_set, List.length_replicate]; omega) | (simp [List.length_nil, List.length_cons, List.length_append, List.length_set, List.length_replicate]; done) | (simp [List.length_nil, List.length_cons, List.length_append, List.length_set, List.length_replicate]; omega)), (by omega)⟩ ?_
  clear hE0
  rintro ⟨j, l⟩ ρ1 w1 ⟨hE1, hp1_0, hl⟩
  have hzs1 : w.heap.size ≤ w1.heap.size := hE1.size
  refine wp_seq ?_
  refine wp_seq ?_
  refine wp_plain _ [0, 0, 0, 0] rfl ?_
  refine q_move (.int .i64 ((j : Nat) : Int)) rfl up_none ?_
  refine q_move va rfl up_none ?_
  refine q_len (v := va) u29 rfl ha.isSl up_none ?_
  by_cases hc2 : ((j : Nat) : Int) < ((a.length : Nat) : Int)
  ·
    refine q_lss true rfl rfl (decide_eq_true hc2) up_none ?_
    refine lw_nil ?_
    refine c_cond_t rfl ?_
    refine wp_skip ?_
    refine wp_seq ?_
    refine wp_block ?_
    refine wp_seq ?_
    refine wp_seq ?_
    refine wp_plain _ [0, 0, 0, 2, 0, 0] rfl ?_
    refine q_move va rfl up_none ?_
    refine q_move (.int .i64 ((j : Nat) : Int)) rfl up_none ?_
    refine q_idx (v := va) j u29 ti2 rfl rfl ha.isSl rfl (by first | omega | assumption | (simp only [List.length_nil, List.length_cons, List.length_append, List.length_set, List.length_replicate]; omega) | (simp [List.length_nil, List.length_cons, List.length_append, List.length_set, List.length_replicate]; done) | (simp [List.length_nil, List.length_cons, List.length_append, List.length_set, List.length_replicate]; omega)) up_none ?_
    refine q_load (p := eptr va j 1) (.inr rfl) (.int .i64 (a.getD j 0)) one2 rfl (ldH_ext hE1 (ha.getI (by first | omega | assumption | (simp only [List.length_nil, List.length_cons, List.length_append, List.length_set, List.length_replicate]; omega) | (simp [List.length_nil, List.length_cons, List.length_append, List.length_set, List.length_replicate]; done) | (simp [List.length_nil, List.length_cons, List.length_append, List.length_set, List.length_replicate]; omega))).1) up_none ?_
    refine q_move (.int .i64 l) rfl up_none ?_
    by_cases hc3 : a.getD j 0 ≠ l
    ·
      exact absurd (by rw [heq j (by omega)]; omega) hc3
    ·
      refine q_neq false rfl rfl (decide_eq_false hc3) up_none ?_
      refine lw_nil ?_
      refine c_cond_f rfl ?_
      refine wp_skip ?_
      refine wp_plain _ [0, 0, 0] rfl ?_
      refine q_move (.int .i64 l) rfl up_none ?_
      refine q_add (l + ((1 : Nat) : Int)) rfl rfl (w64 (by first | omega | assumption | (simp only [List.length_nil, List.length_cons, List.length_append, List.length_set, List.length_replicate]; omega) | (simp [List.length_nil, List.length_cons, List.length_append, List.length_set, List.length_replicate]; done) | (simp [List.length_nil, List.length_cons, List.length_append, List.length_set, List.length_replicate]; omega)) (by first | omega | assumption | (simp only [List.length_nil, List.length_cons, List.length_append, List.length_set, List.length_replicate]; omega) | (simp [List.length_nil, List.length_cons, List.length_append, List.length_set, List.length_replicate]; done) | (simp [List.length_nil, List.length_cons, List.length_append, List.length_set, List.length_replicate]; omega))) up_none ?_
      refine q_assign (.int .i64 (l + ((1 : Nat) : Int))) rfl up_none ?_
      refine lw_nil ?_
      refine wp_plain _ [0, 0, 0] rfl ?_
      refine q_move (.int .i64 ((j : Nat) : Int)) rfl up_none ?_
      refine q_add ((j + 1 : Nat) : Int) rfl rfl (w64n (by omega) (by first | omega | assumption | (simp only [List.length_nil, List.length_cons, List.length_append, List.length_set, List.length_replicate]; omega) | (simp [List.length_nil, List.length_cons, List.length_append, List.length_set, List.length_replicate]; done) | (simp [List.length_nil, List.length_cons, List.length_append, List.length_set, List.length_replicate]; omega))) up_none ?_
      refine q_assign (.int .i64 ((j + 1 : Nat) : Int)) rfl up_none ?_
      refine lw_nil ?_
      exact ⟨((j + 1), (l + ((1 : Nat) : Int))), _, rfl, ⟨rfl, rfl, rfl, trivial⟩, ⟨hE1, (by first | omega | assumption | (simp only [List.length_nil, List.length_cons, List.length_append, List.length_set, List.length_replicate]; omega) | (simp [List.length_nil, List.length_cons, List.length_append, List.length_set, List.length_replicate]; done) | (simp [List.length_nil, List.length_cons, List.length_append, List.length_set, List.length_replicate]; omega)), (by omega)⟩, by first | omega | (dsimp only; omega)⟩
  ·
    refine q_lss false rfl rfl (decide_eq_false hc2) up_none ?_
    refine lw_nil ?_
    refine c_cond_f rfl ?_
    refine wp_exit ?_
    refine t_exit ?_
    refine t_exit ?_
    refine c_exit_here ?_
    refine wp_seq ?_
    refine wp_plain _ [0, 0] rfl ?_
    refine q_move (.int .i64 l) rfl up_none ?_
    refine q_assign (.int .i64 l) rfl up_none ?_
    refine lw_nil ?_
    refine wp_ret ?_
    exact post_ret [4] rfl (.int .i64 l) rfl ⟨(ret_int (by rw [hl, show j = a.length from by omega])), hE1⟩

/- laws.markInt64SS -/
set_option maxHeartbeats 4000000 in
set_option maxRecDepth 100000 in
theorem c_laws_markInt64SS (w : World) (va : Value) (a : List (List Int)) (Fa : List Nat) (k : Int) (ha : owL (owL rI 2) 29 w.heap va a Fa) (hna : Fa.Nodup) (_hk : -9223372036854775808 ≤ k ∧ k ≤ 9223372036854775807) (hk : 0 ≤ k ∧ k + (tot a a.length : Int) ≤ 4611686018427387904) :
    Calls Try.prog 20 #[va, .int .i64 k] w (fun e w' => e = .returned (.int .i64 (k + ((tot a a.length : Nat) : Int))) ∧ Chg Fa w w' ∧ owL (owL rI 2) 29 w'.heap va (mk2 a k) Fa) := by
  refine calls_mk [va, .int .i64 k] 19 Try.func20 rfl rfl (by simp) ?_
  have hE0 : Chg Fa w w := Chg.refl Fa w
  have hl_va := ha.lenle
  unfold maxLen at hl_va
  refine wp_seq ?_
  refine wp_plain _ [0] rfl ?_
  refine q_assign (.int .i64 ((0 : Nat) : Int)) rfl up_none ?_
  refine lw_nil ?_
  refine wp_seq ?_
  refine wp_seq ?_
  refine wp_plain _ [0] rfl ?_
  refine q_assign (.int .i64 ((0 : Nat) : Int)) rfl up_none ?_
  refine lw_nil ?_
  refine wp_block ?_
  refine c_loop (S := Nat × Int) (fun (⟨j, l⟩ : Nat × Int) => ([(1, (.int .i64 l)), (5, (.int .i64 ((j : Nat) : Int))), (0, va)] : List (Nat × Value))) (fun (⟨j, l⟩ : Nat × Int) (W : World) => Chg Fa w W ∧ owL (owL rI 2) 29 W.heap va (mix j (mk2 a k) a) Fa ∧ j ≤ a.length ∧ l = k + ((tot a j : Nat) : Int)) (fun (⟨j, l⟩ : Nat × Int) => a.length - j) (0, k) ⟨rfl, rfl, rfl, trivial⟩ ⟨hE0, (by first | (rw [mix_zero]; exact ha) | (have h := ha; rw [hl, mix_ge [] (mk2_len _ _) (Nat.le_refl _) (by omega)] at h; unfold mk2; rw [mix_tab rfl (by omega)]; exact h)), (by first | omega | assumption | (simp only [List.length_nil, List.length_cons, List.length_append, List.length_set, List.length_replicate]; omega) | (simp [List.length_nil, List.length_cons, List.length_append, List.length_set, List.length_replicate]; done) | (simp [List.length_nil, List.length_cons, List.length_append, List.length_set, List.length_replicate]; omega)), (by rw [tot_zero]; omega)⟩ ?_
  clear hE0
  rintro ⟨j, l⟩ ρ1 w1 ⟨hE1, hL1_0, hp1_0, hl⟩
  have hzs1 : w.heap.size ≤ w1.heap.size := hE1.size
  have hml := mix_len j (mk2 a k) a (mk2_len _ _)
  have hmo := tot_mono a (j + 1)
  have hmi := tot_mono a j
  refine wp_seq ?_
  refine wp_seq ?_
  refine wp_plain _ [0, 0, 0, 0] rfl ?_
  refine q_move (.int .i64 ((j : Nat) : Int)) rfl up_none ?_
  refine q_move va rfl up_none ?_
  refine q_len (v := va) u22 rfl (own_rdI2 hL1_0).isSl up_none ?_
  by_cases hc2 : ((j : Nat) : Int) < (((mix j (mk2 a k) a).length : Nat) : Int)
  ·
    refine q_lss true rfl rfl (decide_eq_true hc2) up_none ?_
    refine lw_nil ?_
    refine c_cond_t rfl ?_
    refine wp_skip ?_
    refine wp_seq ?_
    refine wp_block ?_
    refine wp_plain _ [0, 0, 0, 2, 0, 4, 0] rfl ?_
    refine q_move va rfl up_none ?_
    refine q_move (.int .i64 ((j : Nat) : Int)) rfl up_none ?_
    refine q_idx (v := va) j u22 ti29 rfl rfl (own_rdI2 hL1_0).isSl rfl (by first | omega | assumption | (simp only [List.length_nil, List.length_cons, List.length_append, List.length_set, List.length_replicate]; omega) | (simp [List.length_nil, List.length_cons, List.length_append, List.length_set, List.length_replicate]; done) | (simp [List.length_nil, List.length_cons, List.length_append, List.length_set, List.length_replicate]; omega)) up_none ?_
    obtain ⟨ue3, hl3, hd3⟩ := (own_rdI2 hL1_0).get (k := j) [] (by first | omega | assumption | (simp only [List.length_nil, List.length_cons, List.length_append, List.length_set, List.length_replicate]; omega) | (simp [List.length_nil, List.length_cons, List.length_append, List.length_set, List.length_replicate]; done) | (simp [List.length_nil, List.length_cons, List.length_append, List.length_set, List.length_replicate]; omega))
    have hln3 := hd3.lenle
    refine q_load (p := eptr va j 1) (.inr rfl) ue3 one29 rfl hl3 up_none ?_
    refine q_move (.int .i64 l) rfl up_none ?_
    obtain ⟨G4, ha4, hb4, hc4, hd4⟩ := own_row o1 [] hL1_0 hna (by first | omega | assumption | (simp only [List.length_nil, List.length_cons, List.length_append, List.length_set, List.length_replicate]; omega) | (simp [List.length_nil, List.length_cons, List.length_append, List.length_set, List.length_replicate]; done) | (simp [List.length_nil, List.length_cons, List.length_append, List.length_set, List.length_replicate]; omega)) hl3
    refine lw_callE 21 [] [] [ue3, (.int .i64 l)] rfl rfl cf21 up_none (c_laws_markInt64S _ _ _ _ _ ha4 hb4 (by omega) (by rw [mix_ge [] (mk2_len _ _) (Nat.le_refl _) (by omega)]; have := tot_succ (a := a) (i := j) (by omega); omega)) ?_
    rintro e4 w4 ⟨rfl, hC4, hO4⟩
    refine ⟨_, rfl, ?_⟩
    have hE4 : Chg Fa w w4 := hE1.trans (hC4.sub hc4)
    have hM4 := hd4 hC4 hO4
    refine q_assign (.int .i64 (l + ((((mix j (mk2 a k) a).getD j []).length : Nat) : Int))) rfl up_none ?_
    refine lw_nil ?_
    refine wp_plain _ [0, 0, 0] rfl ?_
    refine q_move (.int .i64 ((j : Nat) : Int)) rfl up_none ?_
    refine q_add ((j + 1 : Nat) : Int) rfl rfl (w64n (by omega) (by first | omega | assumption | (simp only [List.length_nil, List.length_cons, List.length_append, List.length_set, List.length_replicate]; omega) | (simp [List.length_nil, List.length_cons, List.length_append, List.length_set, List.length_replicate]; done) | (simp [List.length_nil, List.length_cons, List.length_append, List.length_set, List.length_replicate]; omega))) up_none ?_
    refine q_assign (.int .i64 ((j + 1 : Nat) : Int)) rfl up_none ?_
    refine lw_nil ?_
    exact ⟨((j + 1), (l + ((((mix j (mk2 a k) a).getD j []).length : Nat) : Int))), _, rfl, ⟨rfl, rfl, rfl, trivial⟩, ⟨hE4, (by first | (rw [mix_zero]; exact hM4) | (have h := hM4; rw [hl, mix_ge [] (mk2_len _ _) (Nat.le_refl _) (by omega)] at h; unfold mk2; rw [mix_tab rfl (by omega)]; exact h)), (by first | omega | assumption | (simp only [List.length_nil, List.length_cons, List.length_append, List.length_set, List.length_replicate]; omega) | (simp [List.length_nil, List.length_cons, List.length_append, List.length_set, List.length_replicate]; done) | (simp [List.length_nil, List.length_cons, List.length_append, List.length_set, List.length_replicate]; omega)), (by rw [tot_succ (by omega), mix_ge [] (mk2_len _ _) (Nat.le_refl _) (by omega)]; omega)⟩, by first | omega | (dsimp only; omega)⟩
  ·
    refine q_lss false rfl rfl (decide_eq_false hc2) up_none ?_
    refine lw_nil ?_
    refine c_cond_f rfl ?_
    refine wp_exit ?_
    refine t_exit ?_
    refine t_exit ?_
    refine c_exit_here ?_
    refine wp_seq ?_
    refine wp_plain _ [0, 0] rfl ?_
    refine q_move (.int .i64 l) rfl up_none ?_
    refine q_assign (.int .i64 l) rfl up_none ?_
    refine lw_nil ?_
    refine wp_ret ?_
    exact post_ret [4] rfl (.int .i64 l) rfl ⟨(ret_int (by rw [hl, show j = a.length from by omega])), hE1, (by have h := hL1_0; rwa [mix_all (mk2_len _ _) (by omega)] at h)⟩

/- laws.heldInt64SS -/
set_option maxHeartbeats 4000000 in
set_option maxRecDepth 100000 in
theorem c_laws_heldInt64SS (w : World) (va : Value) (a : List (List Int)) (k : Int) (ha : Rd (rdL (rdL rI)) w.heap va a) (_hk : -9223372036854775808 ≤ k ∧ k ≤ 9223372036854775807) (hk : 0 ≤ k ∧ k + (tot a a.length : Int) ≤ 4611686018427387904) (heq : ∀ i, i < a.length → a.getD i [] = up (a.getD i []).length (k + ((tot a i : Nat) : Int))) :
    Calls Try.prog 22 #[va, .int .i64 k] w (fun e w' => e = .returned (.int .i64 (k + ((tot a a.length : Nat) : Int))) ∧ Ext w w') := by
  refine calls_mk [va, .int .i64 k] 21 Try.func22 rfl rfl (by simp) ?_
  have hE0 : Ext w w := Ext.refl w
  have hl_va := ha.lenle
  refine wp_seq ?_
  refine wp_plain _ [0] rfl ?_
  refine q_assign (.int .i64 ((0 : Nat) : Int)) rfl up_none ?_
  refine lw_nil ?_
  refine wp_seq ?_
  refine wp_seq ?_
  refine wp_plain _ [0] rfl ?_
  refine q_assign (.int .i64 ((0 : Nat) : Int)) rfl up_none ?_
  refine lw_nil ?_
  refine wp_block ?_
  refine c_loop (S := Nat × Int) (fun (⟨j, l⟩ : Nat × Int) => ([(1, (.int .i64 l)), (5, (.int .i64 ((j : Nat) : Int))), (0, va)] : List (Nat × Value))) (fun (⟨j, l⟩ : Nat × Int) (W : World) => Ext w W ∧ j ≤ a.length ∧ l = k + ((tot a j : Nat) : Int)) (fun (⟨j, l⟩ : Nat × Int) => a.length - j) (0, k) ⟨rfl, rfl, rfl, trivial⟩ ⟨hE0, (by first | omega | assumption | (simp only [List.length_nil, List.length_cons, List.length_append, List.length_set, List.length_replicate]; omega) | (simp [List.length_nil, List.length_cons, List.length_append, List.length_set, List.length_replicate]; done) | (simp [List.length_nil, List.length_cons, List.length_append, List.length_set, List.length_replicate]; omega)), (by rw [tot_zero]; omega)⟩ ?_
  clear hE0
  rintro ⟨j, l⟩ ρ1 w1 ⟨hE1, hp1_0, hl⟩
  have hzs1 : w.heap.size ≤ w1.heap.size := hE1.size
  have hmo := tot_mono a (j + 1)
  have hmi := tot_mono a j
  refine wp_seq ?_
  refine wp_seq ?_
  refine wp_plain _ [0, 0, 0, 0] rfl ?_
  refine q_move (.int .i64 ((j : Nat) : Int)) rfl up_none ?_
  refine q_move va rfl up_none ?_
  refine q_len (v := va) u22 rfl ha.isSl up_none ?_
  by_cases hc2 : ((j : Nat) : Int) < ((a.length : Nat) : Int)
  ·
    refine q_lss true rfl rfl (decide_eq_true hc2) up_none ?_
    refine lw_nil ?_
    refine c_cond_t rfl ?_
    refine wp_skip ?_
    refine wp_seq ?_
    refine wp_block ?_
    refine wp_seq ?_
    refine wp_plain _ [0, 0, 0, 2, 0, 3, 0] rfl ?_
    refine q_move va rfl up_none ?_
    refine q_move (.int .i64 ((j : Nat) : Int)) rfl up_none ?_
    refine q_idx (v := va) j u22 ti29 rfl rfl ha.isSl rfl (by first | omega | assumption | (simp only [List.length_nil, List.length_cons, List.length_append, List.length_set, List.length_replicate]; omega) | (simp [List.length_nil, List.length_cons, List.length_append, List.length_set, List.length_replicate]; done) | (simp [List.length_nil, List.length_cons, List.length_append, List.length_set, List.length_replicate]; omega)) up_none ?_
    obtain ⟨ue3, hl3, hd3⟩ := ha.get (k := j) [] (by first | omega | assumption | (simp only [List.length_nil, List.length_cons, List.length_append, List.length_set, List.length_replicate]; omega) | (simp [List.length_nil, List.length_cons, List.length_append, List.length_set, List.length_replicate]; done) | (simp [List.length_nil, List.length_cons, List.length_append, List.length_set, List.length_replicate]; omega))
    have hln3 := hd3.lenle
    refine q_load (p := eptr va j 1) (.inr rfl) ue3 one29 rfl (ldH_ext hE1 hl3) up_none ?_
    refine q_move (.int .i64 l) rfl up_none ?_
    refine lw_call 25 [] [] [ue3, (.int .i64 l)] rfl rfl cf25 up_none (c_laws_heldInt64S _ _ _ _ (hd3.ext g1 hE1) (by omega) (by have := tot_succ (a := a) (i := j) (by omega); omega) (by intro i hi; rw [heq j (by omega), up_get (by omega), hl])) ?_
    rintro e4 w4 ⟨rfl, hX4⟩
    refine ⟨_, rfl, hX4, ?_⟩
    have hzs4 : w1.heap.size ≤ w4.heap.size := hX4.size
    have hE4 : Ext w w4 := hE1.trans hX4
    refine q_assign (.int .i64 (l + (((a.getD j []).length : Nat) : Int))) rfl up_none ?_
    refine lw_nil ?_
    refine wp_seq ?_
    refine wp_plain _ [0, 0] rfl ?_
    refine q_move (.int .i64 (l + (((a.getD j []).length : Nat) : Int))) rfl up_none ?_
    by_cases hc5 : l + (((a.getD j []).length : Nat) : Int) < ((0 : Nat) : Int)
    ·
      exact absurd hc5 (by omega)
    ·
      refine q_lss false rfl rfl (decide_eq_false hc5) up_none ?_
      refine lw_nil ?_
      refine c_cond_f rfl ?_
      refine wp_skip ?_
      refine wp_plain _ [0, 0, 0] rfl ?_
      refine q_move (.int .i64 ((j : Nat) : Int)) rfl up_none ?_
      refine q_add ((j + 1 : Nat) : Int) rfl rfl (w64n (by omega) (by first | omega | assumption | (simp only [List.length_nil, List.length_cons, List.length_append, List.length_set, List.length_replicate]; omega) | (simp [List.length_nil, List.length_cons, List.length_append, List.length_set, List.length_replicate]; done) | (simp [List.length_nil, List.length_cons, List.length_append, List.length_set, List.length_replicate]; omega))) up_none ?_
      refine q_assign (.int .i64 ((j + 1 : Nat) : Int)) rfl up_none ?_
      refine lw_nil ?_
      exact ⟨((j + 1), (l + (((a.getD j []).length : Nat) : Int))), _, rfl, ⟨rfl, rfl, rfl, trivial⟩, ⟨hE4, (by first | omega | assumption | (simp only [List.length_nil, List.length_cons, List.length_append, List.length_set, List.length_replicate]; omega) | (simp [List.length_nil, List.length_cons, List.length_append, List.length_set, List.length_replicate]; done) | (simp [List.length_nil, List.length_cons, List.length_append, List.length_set, List.length_replicate]; omega)), (by rw [tot_succ (by omega)]; omega)⟩, by first | omega | (dsimp only; omega)⟩
  ·
    refine q_lss false rfl rfl (decide_eq_false hc2) up_none ?_
    refine lw_nil ?_
    refine c_cond_f rfl ?_
    refine wp_exit ?_
    refine t_exit ?_
    refine t_exit ?_
    refine c_exit_here ?_
    refine wp_seq ?_
    refine wp_plain _ [0, 0] rfl ?_
    refine q_move (.int .i64 l) rfl up_none ?_
    refine q_assign (.int .i64 l) rfl up_none ?_
    refine lw_nil ?_
    refine wp_ret ?_
    exact post_ret [4] rfl (.int .i64 l) rfl ⟨(ret_int (by rw [hl, show j = a.length from by omega])), hE1⟩

/- impl.dot -/
set_option maxHeartbeats 4000000 in
set_option maxRecDepth 100000 in
theorem c_impl_dot (w : World) (va : Value) (a : List Int) (vb : Value) (b : List Int) (ha : Rd (rdL rI) w.heap va a) (hb : Rd (rdL rI) w.heap vb b) (hl : a.length ≤ b.length) (hqa : allN a = true) (hqb : allN b = true) :
    Calls Try.prog 67 #[va, vb] w (fun e w' => e = .returned (.int .i64 (dotM a b)) ∧ Ext w w') := by
  refine calls_mk [va, vb] 26 Try.func67 rfl rfl (by simp) ?_
  have hE0 : Ext w w := Ext.refl w
  have hl_va := ha.lenle
  have hl_vb := hb.lenle
  refine wp_seq ?_
  refine wp_plain _ [0] rfl ?_
  refine q_assign (.int .i64 ((0 : Nat) : Int)) rfl up_none ?_
  refine lw_nil ?_
  refine wp_seq ?_
  refine wp_plain _ [0] rfl ?_
  refine q_assign (.int .i64 ((0 : Nat) : Int)) rfl up_none ?_
  refine lw_nil ?_
  refine wp_seq ?_
  refine wp_seq ?_
  refine wp_plain _ [0, 0, 0] rfl ?_
  refine q_move va rfl up_none ?_
  refine q_len (v := va) u29 rfl ha.isSl up_none ?_
  refine q_move (.int .i64 ((0 : Nat) : Int)) rfl up_none ?_
  refine lw_nil ?_
  refine wp_block ?_
  refine c_loop (S := Nat × Int) (fun (⟨k, s⟩ : Nat × Int) => ([(5, (.int .i64 s)), (9, (.int .i64 ((k : Nat) : Int))), (0, va), (1, vb), (8, (.int .i64 ((a.length : Nat) : Int)))] : List (Nat × Value))) (fun (⟨k, s⟩ : Nat × Int) (W : World) => Ext w W ∧ k ≤ a.length ∧ s = dots a b k ∧ (0 ≤ s ∧ s < 1000003)) (fun (⟨k, s⟩ : Nat × Int) => a.length - k) (0, ((0 : Nat) : Int)) ⟨rfl, rfl, rfl, rfl, rfl, trivial⟩ ⟨hE0, (by first | omega | assumption | (simp only [List.length_nil, List.length_cons, List.length_append, List.length_set, List.length_replicate]; omega) | (simp [List.length_nil, List.length_cons, List.length_append, List.length_set, List.length_replicate]; done) | (simp [List.length_nil, List.length_cons, List.length_append, List.length_set, List.length_replicate]; omega)), (by rfl), (by omega)⟩ ?_
  clear hE0
  rintro ⟨k, s⟩ ρ1 w1 ⟨hE1, hp1_0, hs, hsr⟩
  have hzs1 : w.heap.size ≤ w1.heap.size := hE1.size
  have hga := allN_get hqa k
  have hgb := allN_get hqb k
  refine wp_seq ?_
  refine wp_plain _ [0] rfl ?_
  by_cases hc2 : ((k : Nat) : Int) < ((a.length : Nat) : Int)
  ·
    refine q_lss true rfl rfl (decide_eq_true hc2) up_none ?_
    refine lw_nil ?_
    refine wp_seq ?_
    refine c_cond_t rfl ?_
    refine wp_skip ?_
    refine wp_seq ?_
    refine wp_block ?_
    refine wp_seq ?_
    refine wp_plain _ [0, 0] rfl ?_
    refine q_move (.int .i64 ((k : Nat) : Int)) rfl up_none ?_
    refine q_assign (.int .i64 ((k : Nat) : Int)) rfl up_none ?_
    refine lw_nil ?_
    refine wp_draw _ [0, 0, 0, 0, 1, 0, 0, 0, 1, 0, 0, 0, 0] mixed (by kernel_rfl) ?_
    refine q_move (.int .i64 s) rfl up_none ?_
    refine q_move va rfl up_none ?_
    refine q_move (.int .i64 ((k : Nat) : Int)) rfl up_none ?_
    refine q_idx (v := va) k u29 ti2 rfl rfl ha.isSl rfl (by first | omega | assumption | (simp only [List.length_nil, List.length_cons, List.length_append, List.length_set, List.length_replicate]; omega) | (simp [List.length_nil, List.length_cons, List.length_append, List.length_set, List.length_replicate]; done) | (simp [List.length_nil, List.length_cons, List.length_append, List.length_set, List.length_replicate]; omega)) up_none ?_
    refine q_load (p := eptr va k 1) (.inl rfl) (.int .i64 (a.getD k 0)) one2 rfl (ldH_ext hE1.drew (ha.getI (by first | omega | assumption | (simp only [List.length_nil, List.length_cons, List.length_append, List.length_set, List.length_replicate]; omega) | (simp [List.length_nil, List.length_cons, List.length_append, List.length_set, List.length_replicate]; done) | (simp [List.length_nil, List.length_cons, List.length_append, List.length_set, List.length_replicate]; omega))).1) up_none ?_
    refine q_move vb rfl up_none ?_
    refine q_move (.int .i64 ((k : Nat) : Int)) rfl up_none ?_
    refine q_idx (v := vb) k u29 ti2 rfl rfl hb.isSl rfl (by first | omega | assumption | (simp only [List.length_nil, List.length_cons, List.length_append, List.length_set, List.length_replicate]; omega) | (simp [List.length_nil, List.length_cons, List.length_append, List.length_set, List.length_replicate]; done) | (simp [List.length_nil, List.length_cons, List.length_append, List.length_set, List.length_replicate]; omega)) up_none ?_
    refine q_load (p := eptr vb k 1) (.inl rfl) (.int .i64 (b.getD k 0)) one2 rfl (ldH_ext hE1.drew (hb.getI (by first | omega | assumption | (simp only [List.length_nil, List.length_cons, List.length_append, List.length_set, List.length_replicate]; omega) | (simp [List.length_nil, List.length_cons, List.length_append, List.length_set, List.length_replicate]; done) | (simp [List.length_nil, List.length_cons, List.length_append, List.length_set, List.length_replicate]; omega))).1) up_none ?_
    refine q_mul (wr ((a.getD k 0) * (b.getD k 0))) rfl rfl rfl up_none ?_
    refine q_add (wr (s + (wr ((a.getD k 0) * (b.getD k 0))))) rfl rfl rfl up_none ?_
    refine q_rem (md (s + a.getD k 0 * b.getD k 0)) rfl rfl (by decide) (dot_eq hsr hga hgb) up_none ?_
    refine q_assign (.int .i64 (md (s + a.getD k 0 * b.getD k 0))) rfl up_none ?_
    refine lw_nil ?_
    refine wp_plain _ [0, 0] rfl ?_
    refine q_add ((k + 1 : Nat) : Int) rfl rfl (w64n (by omega) (by first | omega | assumption | (simp only [List.length_nil, List.length_cons, List.length_append, List.length_set, List.length_replicate]; omega) | (simp [List.length_nil, List.length_cons, List.length_append, List.length_set, List.length_replicate]; done) | (simp [List.length_nil, List.length_cons, List.length_append, List.length_set, List.length_replicate]; omega))) up_none ?_
    refine q_move (.int .i64 ((k + 1 : Nat) : Int)) rfl up_none ?_
    refine lw_nil ?_
    exact ⟨((k + 1), (md (s + a.getD k 0 * b.getD k 0))), _, rfl, ⟨rfl, rfl, rfl, rfl, rfl, trivial⟩, ⟨hE1.drew, (by first | omega | assumption | (simp only [List.length_nil, List.length_cons, List.length_append, List.length_set, List.length_replicate]; omega) | (simp [List.length_nil, List.length_cons, List.length_append, List.length_set, List.length_replicate]; done) | (simp [List.length_nil, List.length_cons, List.length_append, List.length_set, List.length_replicate]; omega)), (by rw [hs]; rfl), (by exact md_num _)⟩, by first | omega | (dsimp only; omega)⟩
  ·
    refine q_lss false rfl rfl (decide_eq_false hc2) up_none ?_
    refine lw_nil ?_
    refine wp_seq ?_
    refine c_cond_f rfl ?_
    refine wp_exit ?_
    refine t_exit ?_
    refine t_exit ?_
    refine c_exit_here ?_
    refine wp_seq ?_
    refine wp_plain _ [0, 0] rfl ?_
    refine q_move (.int .i64 s) rfl up_none ?_
    refine q_assign (.int .i64 s) rfl up_none ?_
    refine lw_nil ?_
    refine wp_ret ?_
    exact post_ret [4] rfl (.int .i64 s) rfl ⟨(ret_int (by rw [hs, show k = a.length from by omega]; rfl)), hE1⟩

/- spec.l03Dot -/
set_option maxHeartbeats 4000000 in
set_option maxRecDepth 100000 in
theorem c_spec_l03Dot (w : World) (va : Value) (a : List Int) (vb : Value) (b : List Int) (ha : Rd (rdL rI) w.heap va a) (hb : Rd (rdL rI) w.heap vb b) (hl : a.length ≤ b.length) (hqa : allN a = true) (hqb : allN b = true) :
    Calls Try.prog 99 #[va, vb] w (fun e w' => e = .returned (.int .i64 (dotM a b)) ∧ Ext w w') := by
  refine calls_mk [va, vb] 25 Try.func99 rfl rfl (by simp) ?_
  have hE0 : Ext w w := Ext.refl w
  have hl_va := ha.lenle
  have hl_vb := hb.lenle
  refine wp_seq ?_
  refine wp_plain _ [0] rfl ?_
  refine q_assign (.int .i64 ((0 : Nat) : Int)) rfl up_none ?_
  refine lw_nil ?_
  refine wp_seq ?_
  refine wp_plain _ [0] rfl ?_
  refine q_assign (.int .i64 ((0 : Nat) : Int)) rfl up_none ?_
  refine lw_nil ?_
  refine wp_seq ?_
  refine wp_seq ?_
  refine wp_plain _ [0] rfl ?_
  refine q_assign (.int .i64 ((0 : Nat) : Int)) rfl up_none ?_
  refine lw_nil ?_
  refine wp_block ?_
  refine c_loop (S := Nat × Int) (fun (⟨k, s⟩ : Nat × Int) => ([(5, (.int .i64 s)), (6, (.int .i64 ((k : Nat) : Int))), (0, va), (1, vb)] : List (Nat × Value))) (fun (⟨k, s⟩ : Nat × Int) (W : World) => Ext w W ∧ k ≤ a.length ∧ s = dots a b k ∧ (0 ≤ s ∧ s < 1000003)) (fun (⟨k, s⟩ : Nat × Int) => a.length - k) (0, ((0 : Nat) : Int)) ⟨rfl, rfl, rfl, rfl, trivial⟩ ⟨hE0, (by first | omega | assumption | (simp only [List.length_nil, List.length_cons, List.length_append, List.length_set, List.length_replicate]; omega) | (simp [List.length_nil, List.length_cons, List.length_append, List.length_set, List.length_replicate]; done) | (simp [List.length_nil, List.length_cons, List.length_append, List.length_set, List.length_replicate]; omega)), (by rfl), (by omega)⟩ ?_
  clear hE0
  rintro ⟨k, s⟩ ρ1 w1 ⟨hE1, hp1_0, hs, hsr⟩
  have hzs1 : w.heap.size ≤ w1.heap.size := hE1.size
  have hga := allN_get hqa k
  have hgb := allN_get hqb k
  refine wp_seq ?_
  refine wp_seq ?_
  refine wp_plain _ [0, 0, 0, 0] rfl ?_
  refine q_move (.int .i64 ((k : Nat) : Int)) rfl up_none ?_
  refine q_move va rfl up_none ?_
  refine q_len (v := va) u29 rfl ha.isSl up_none ?_
  by_cases hc2 : ((k : Nat) : Int) < ((a.length : Nat) : Int)
  ·
    refine q_lss true rfl rfl (decide_eq_true hc2) up_none ?_
    refine lw_nil ?_
    refine c_cond_t rfl ?_
    refine wp_skip ?_
    refine wp_seq ?_
    refine wp_block ?_
    refine wp_draw _ [0, 0, 0, 0, 1, 0, 0, 0, 1, 0, 0, 0] mixed (by kernel_rfl) ?_
    refine q_move (.int .i64 s) rfl up_none ?_
    refine q_move va rfl up_none ?_
    refine q_move (.int .i64 ((k : Nat) : Int)) rfl up_none ?_
    refine q_idx (v := va) k u29 ti2 rfl rfl ha.isSl rfl (by first | omega | assumption | (simp only [List.length_nil, List.length_cons, List.length_append, List.length_set, List.length_replicate]; omega) | (simp [List.length_nil, List.length_cons, List.length_append, List.length_set, List.length_replicate]; done) | (simp [List.length_nil, List.length_cons, List.length_append, List.length_set, List.length_replicate]; omega)) up_none ?_
    refine q_load (p := eptr va k 1) (.inl rfl) (.int .i64 (a.getD k 0)) one2 rfl (ldH_ext hE1.drew (ha.getI (by first | omega | assumption | (simp only [List.length_nil, List.length_cons, List.length_append, List.length_set, List.length_replicate]; omega) | (simp [List.length_nil, List.length_cons, List.length_append, List.length_set, List.length_replicate]; done) | (simp [List.length_nil, List.length_cons, List.length_append, List.length_set, List.length_replicate]; omega))).1) up_none ?_
    refine q_move vb rfl up_none ?_
    refine q_move (.int .i64 ((k : Nat) : Int)) rfl up_none ?_
    refine q_idx (v := vb) k u29 ti2 rfl rfl hb.isSl rfl (by first | omega | assumption | (simp only [List.length_nil, List.length_cons, List.length_append, List.length_set, List.length_replicate]; omega) | (simp [List.length_nil, List.length_cons, List.length_append, List.length_set, List.length_replicate]; done) | (simp [List.length_nil, List.length_cons, List.length_append, List.length_set, List.length_replicate]; omega)) up_none ?_
    refine q_load (p := eptr vb k 1) (.inl rfl) (.int .i64 (b.getD k 0)) one2 rfl (ldH_ext hE1.drew (hb.getI (by first | omega | assumption | (simp only [List.length_nil, List.length_cons, List.length_append, List.length_set, List.length_replicate]; omega) | (simp [List.length_nil, List.length_cons, List.length_append, List.length_set, List.length_replicate]; done) | (simp [List.length_nil, List.length_cons, List.length_append, List.length_set, List.length_replicate]; omega))).1) up_none ?_
    refine lw_callq 40 [] [] [(.int .i64 (a.getD k 0)), (.int .i64 (b.getD k 0))] rfl rfl cf40 up_none (.int .i64 (md ((a.getD k 0) * (b.getD k 0)))) (fun wq => c_spec_Times wq _ _ (ha.getI (by first | omega | assumption | (simp only [List.length_nil, List.length_cons, List.length_append, List.length_set, List.length_replicate]; omega) | (simp [List.length_nil, List.length_cons, List.length_append, List.length_set, List.length_replicate]; done) | (simp [List.length_nil, List.length_cons, List.length_append, List.length_set, List.length_replicate]; omega))).2 (hb.getI (by first | omega | assumption | (simp only [List.length_nil, List.length_cons, List.length_append, List.length_set, List.length_replicate]; omega) | (simp [List.length_nil, List.length_cons, List.length_append, List.length_set, List.length_replicate]; done) | (simp [List.length_nil, List.length_cons, List.length_append, List.length_set, List.length_replicate]; omega))).2) ?_
    refine lw_callq 85 [] [] [(.int .i64 s), (.int .i64 (md ((a.getD k 0) * (b.getD k 0))))] rfl rfl cf85 up_none (.int .i64 (md (s + (md ((a.getD k 0) * (b.getD k 0)))))) (fun wq => c_spec_Plus wq _ _ (by omega) (md_rng _)) ?_
    refine q_assign (.int .i64 (md (s + (md ((a.getD k 0) * (b.getD k 0)))))) rfl up_none ?_
    refine lw_nil ?_
    refine wp_plain _ [0, 0, 0] rfl ?_
    refine q_move (.int .i64 ((k : Nat) : Int)) rfl up_none ?_
    refine q_add ((k + 1 : Nat) : Int) rfl rfl (w64n (by omega) (by first | omega | assumption | (simp only [List.length_nil, List.length_cons, List.length_append, List.length_set, List.length_replicate]; omega) | (simp [List.length_nil, List.length_cons, List.length_append, List.length_set, List.length_replicate]; done) | (simp [List.length_nil, List.length_cons, List.length_append, List.length_set, List.length_replicate]; omega))) up_none ?_
    refine q_assign (.int .i64 ((k + 1 : Nat) : Int)) rfl up_none ?_
    refine lw_nil ?_
    exact ⟨((k + 1), (md (s + (md ((a.getD k 0) * (b.getD k 0)))))), _, rfl, ⟨rfl, rfl, rfl, rfl, trivial⟩, ⟨hE1.drew, (by first | omega | assumption | (simp only [List.length_nil, List.length_cons, List.length_append, List.length_set, List.length_replicate]; omega) | (simp [List.length_nil, List.length_cons, List.length_append, List.length_set, List.length_replicate]; done) | (simp [List.length_nil, List.length_cons, List.length_append, List.length_set, List.length_replicate]; omega)), (by rw [md_addr, hs]; rfl), (by exact md_num _)⟩, by first | omega | (dsimp only; omega)⟩
  ·
    refine q_lss false rfl rfl (decide_eq_false hc2) up_none ?_
    refine lw_nil ?_
    refine c_cond_f rfl ?_
    refine wp_exit ?_
    refine t_exit ?_
    refine t_exit ?_
    refine c_exit_here ?_
    refine wp_seq ?_
    refine wp_plain _ [0, 0] rfl ?_
    refine q_move (.int .i64 s) rfl up_none ?_
    refine q_assign (.int .i64 s) rfl up_none ?_
    refine lw_nil ?_
    refine wp_ret ?_
    exact post_ret [4] rfl (.int .i64 s) rfl ⟨(ret_int (by rw [hs, show k = a.length from by omega]; rfl)), hE1⟩

/- spec.l01Scale -/
set_option maxHeartbeats 4000000 in
set_option maxRecDepth 100000 in
theorem c_spec_l01Scale (w : World) (va : Value) (a : List Int) (y : Int) (ha : Rd (rdL rI) w.heap va a) (_hy : -9223372036854775808 ≤ y ∧ y ≤ 9223372036854775807) (hla : a.length ≤ 1000000000000) :
    Calls Try.prog 59 #[va, .int .i64 y] w (fun e w' => ∃ v0 : Value, e = .returned (v0) ∧ Ext w w' ∧ Fr (owL rI 2) w.heap.size w'.heap.size w'.heap v0 (scl a y)) := by
  refine calls_mk [va, .int .i64 y] 24 Try.func59 rfl rfl (by simp) ?_
  have hE0 : Ext w w := Ext.refl w
  have hl_va := ha.lenle
  refine wp_seq ?_
  refine wp_plain _ [0] rfl ?_
  refine q_assign (.slice none 0 0) rfl up_none ?_
  refine lw_nil ?_
  refine wp_seq ?_
  refine wp_plain _ [3, 0] rfl ?_
  refine r_nil (rI) good_rI u29 ti2 up_none ?_
  intro v1 w1 hX1 hz1 hO1
  have hzs1 : w.heap.size ≤ w1.heap.size := hX1.size
  have hE1 : Ext w w1 := hE0.trans hX1
  refine q_assign v1 rfl up_none ?_
  refine lw_nil ?_
  refine wp_seq ?_
  refine wp_seq ?_
  refine wp_plain _ [0] rfl ?_
  refine q_assign (.int .i64 ((0 : Nat) : Int)) rfl up_none ?_
  refine lw_nil ?_
  refine wp_block ?_
  refine c_loop (S := Nat × Value) (fun (⟨k, vo⟩ : Nat × Value) => ([(5, vo), (6, (.int .i64 ((k : Nat) : Int))), (0, va), (1, (.int .i64 y))] : List (Nat × Value))) (fun (⟨k, vo⟩ : Nat × Value) (W : World) => Ext w W ∧ Fr (owL rI 2) w.heap.size W.heap.size W.heap vo ((a.take k).map (fun x => md (x * y))) ∧ k ≤ a.length) (fun (⟨k, vo⟩ : Nat × Value) => a.length - k) (0, v1) ⟨rfl, rfl, rfl, rfl, trivial⟩ ⟨hE1, hO1.up o1, (by first | omega | assumption | (simp only [List.length_nil, List.length_cons, List.length_append, List.length_set, List.length_replicate]; omega) | (simp [List.length_nil, List.length_cons, List.length_append, List.length_set, List.length_replicate]; done) | (simp [List.length_nil, List.length_cons, List.length_append, List.length_set, List.length_replicate]; omega))⟩ ?_
  clear hE0 hO1 hz1 hX1 hzs1 hE1
  rintro ⟨k, vo⟩ ρ2 w2 ⟨hE2, hL2_0, hp2_0⟩
  have hzs2 : w.heap.size ≤ w2.heap.size := hE2.size
  refine wp_seq ?_
  refine wp_seq ?_
  refine wp_plain _ [0, 0, 0, 0] rfl ?_
  refine q_move (.int .i64 ((k : Nat) : Int)) rfl up_none ?_
  refine q_move va rfl up_none ?_
  refine q_len (v := va) u29 rfl ha.isSl up_none ?_
  by_cases hc3 : ((k : Nat) : Int) < ((a.length : Nat) : Int)
  ·
    refine q_lss true rfl rfl (decide_eq_true hc3) up_none ?_
    refine lw_nil ?_
    refine c_cond_t rfl ?_
    refine wp_skip ?_
    refine wp_seq ?_
    refine wp_block ?_
    refine wp_plain _ [0, 0, 0, 0, 2, 0, 0, 3, 4, 0] rfl ?_
    refine q_move vo rfl up_none ?_
    refine q_move va rfl up_none ?_
    refine q_move (.int .i64 ((k : Nat) : Int)) rfl up_none ?_
    refine q_idx (v := va) k u29 ti2 rfl rfl ha.isSl rfl (by first | omega | assumption | (simp only [List.length_nil, List.length_cons, List.length_append, List.length_set, List.length_replicate]; omega) | (simp [List.length_nil, List.length_cons, List.length_append, List.length_set, List.length_replicate]; done) | (simp [List.length_nil, List.length_cons, List.length_append, List.length_set, List.length_replicate]; omega)) up_none ?_
    refine q_load (p := eptr va k 1) (.inr rfl) (.int .i64 (a.getD k 0)) one2 rfl (ldH_ext hE2 (ha.getI (by first | omega | assumption | (simp only [List.length_nil, List.length_cons, List.length_append, List.length_set, List.length_replicate]; omega) | (simp [List.length_nil, List.length_cons, List.length_append, List.length_set, List.length_replicate]; done) | (simp [List.length_nil, List.length_cons, List.length_append, List.length_set, List.length_replicate]; omega))).1) up_none ?_
    refine q_move (.int .i64 y) rfl up_none ?_
    refine lw_callq 40 [] [] [(.int .i64 (a.getD k 0)), (.int .i64 y)] rfl rfl cf40 up_none (.int .i64 (md ((a.getD k 0) * y))) (fun wq => c_spec_Times wq _ _ (ha.getI (by first | omega | assumption | (simp only [List.length_nil, List.length_cons, List.length_append, List.length_set, List.length_replicate]; omega) | (simp [List.length_nil, List.length_cons, List.length_append, List.length_set, List.length_replicate]; done) | (simp [List.length_nil, List.length_cons, List.length_append, List.length_set, List.length_replicate]; omega))).2 _hy) ?_
    refine r_one (u := (.int .i64 (md ((a.getD k 0) * y)))) (B := w2.heap.size) good_rI u29 ti2 rfl rfl (frI w2.heap.size w2.heap.size _ _ (md_rng _)) (Nat.le_refl _) up_none ?_
    intro v5 w5 hX5 hz5 hO5
    have hzs5 : w2.heap.size ≤ w5.heap.size := hX5.size
    have hE5 : Ext w w5 := hE2.trans hX5
    have hL2_0x5 := hL2_0.ext (o1) hX5
    refine e_appI (v := vo) (a := v5) u29 ti2 rfl rfl rfl hL2_0x5 hE5.size hO5.rd1 (by first | omega | assumption | (simp only [List.length_nil, List.length_cons, List.length_append, List.length_set, List.length_replicate]; omega) | (simp [List.length_nil, List.length_cons, List.length_append, List.length_set, List.length_replicate]; done) | (simp [List.length_nil, List.length_cons, List.length_append, List.length_set, List.length_replicate]; omega)) (by unfold maxLen; first | omega | assumption | (simp only [List.length_nil, List.length_cons, List.length_append, List.length_set, List.length_replicate]; omega) | (simp [List.length_nil, List.length_cons, List.length_append, List.length_set, List.length_replicate]; done) | (simp [List.length_nil, List.length_cons, List.length_append, List.length_set, List.length_replicate]; omega)) up_none ?_
    intro v6 w6 F6 hC6 hF6 hO6
    have hE6 : Ext w w6 := hC6.below hE5 (fun c hc => Nat.le_trans (Nat.le_refl _) (hF6 c hc).1) hE5.size
    have hzs6 : w5.heap.size ≤ w6.heap.size := hC6.size
    have hF7 := hO5.chg (o1) hC6 (fun c hc => by have := hF6 c hc; omega)
    refine q_assign v6 rfl up_none ?_
    refine lw_nil ?_
    refine wp_plain _ [0, 0, 0] rfl ?_
    refine q_move (.int .i64 ((k : Nat) : Int)) rfl up_none ?_
    refine q_add ((k + 1 : Nat) : Int) rfl rfl (w64n (by omega) (by first | omega | assumption | (simp only [List.length_nil, List.length_cons, List.length_append, List.length_set, List.length_replicate]; omega) | (simp [List.length_nil, List.length_cons, List.length_append, List.length_set, List.length_replicate]; done) | (simp [List.length_nil, List.length_cons, List.length_append, List.length_set, List.length_replicate]; omega))) up_none ?_
    refine q_assign (.int .i64 ((k + 1 : Nat) : Int)) rfl up_none ?_
    refine lw_nil ?_
    exact ⟨((k + 1), v6), _, rfl, ⟨rfl, rfl, rfl, rfl, trivial⟩, ⟨hE6, (by rw [map_snoc 0 (by omega)]; exact hO6.up o1), (by first | omega | assumption | (simp only [List.length_nil, List.length_cons, List.length_append, List.length_set, List.length_replicate]; omega) | (simp [List.length_nil, List.length_cons, List.length_append, List.length_set, List.length_replicate]; done) | (simp [List.length_nil, List.length_cons, List.length_append, List.length_set, List.length_replicate]; omega))⟩, by first | omega | (dsimp only; omega)⟩
  ·
    refine q_lss false rfl rfl (decide_eq_false hc3) up_none ?_
    refine lw_nil ?_
    refine c_cond_f rfl ?_
    refine wp_exit ?_
    refine t_exit ?_
    refine t_exit ?_
    refine c_exit_here ?_
    refine wp_seq ?_
    refine wp_plain _ [0, 0] rfl ?_
    refine q_move vo rfl up_none ?_
    refine q_assign vo rfl up_none ?_
    refine lw_nil ?_
    refine wp_ret ?_
    exact post_ret [4] rfl vo rfl ⟨vo, rfl, hE2, (by have h := hL2_0.up o1; rwa [List.take_of_length_le (by omega)] at h)⟩

/- spec.l07Apply -/
set_option maxHeartbeats 4000000 in
set_option maxRecDepth 100000 in
theorem c_spec_l07Apply (w : World) (va : Value) (a : List (List Int)) (vb : Value) (b : List Int) (ha : Rd (rdL (rdL rI)) w.heap va a) (hb : Rd (rdL rI) w.heap vb b) (hla : a.length ≤ 1000000000000) (hlr : ∀ k, (a.getD k []).length ≤ b.length) (hqa : ∀ k, allN (a.getD k []) = true) (hqb : allN b = true) :
    Calls Try.prog 60 #[va, vb] w (fun e w' => ∃ v0 : Value, e = .returned (v0) ∧ Ext w w' ∧ Fr (owL rI 2) w.heap.size w'.heap.size w'.heap v0 (app a b)) := by
  refine calls_mk [va, vb] 24 Try.func60 rfl rfl (by simp) ?_
  have hE0 : Ext w w := Ext.refl w
  have hl_va := ha.lenle
  have hl_vb := hb.lenle
  refine wp_seq ?_
  refine wp_plain _ [0] rfl ?_
  refine q_assign (.slice none 0 0) rfl up_none ?_
  refine lw_nil ?_
  refine wp_seq ?_
  refine wp_plain _ [3, 0] rfl ?_
  refine r_nil (rI) good_rI u29 ti2 up_none ?_
  intro v1 w1 hX1 hz1 hO1
  have hzs1 : w.heap.size ≤ w1.heap.size := hX1.size
  have hE1 : Ext w w1 := hE0.trans hX1
  refine q_assign v1 rfl up_none ?_
  refine lw_nil ?_
  refine wp_seq ?_
  refine wp_seq ?_
  refine wp_plain _ [0] rfl ?_
  refine q_assign (.int .i64 ((0 : Nat) : Int)) rfl up_none ?_
  refine lw_nil ?_
  refine wp_block ?_
  refine c_loop (S := Nat × Value) (fun (⟨k, vo⟩ : Nat × Value) => ([(5, vo), (6, (.int .i64 ((k : Nat) : Int))), (0, va), (1, vb)] : List (Nat × Value))) (fun (⟨k, vo⟩ : Nat × Value) (W : World) => Ext w W ∧ Fr (owL rI 2) w.heap.size W.heap.size W.heap vo ((a.take k).map (fun r => dotM r b)) ∧ k ≤ a.length) (fun (⟨k, vo⟩ : Nat × Value) => a.length - k) (0, v1) ⟨rfl, rfl, rfl, rfl, trivial⟩ ⟨hE1, hO1.up o1, (by first | omega | assumption | (simp only [List.length_nil, List.length_cons, List.length_append, List.length_set, List.length_replicate]; omega) | (simp [List.length_nil, List.length_cons, List.length_append, List.length_set, List.length_replicate]; done) | (simp [List.length_nil, List.length_cons, List.length_append, List.length_set, List.length_replicate]; omega))⟩ ?_
  clear hE0 hO1 hz1 hX1 hzs1 hE1
  rintro ⟨k, vo⟩ ρ2 w2 ⟨hE2, hL2_0, hp2_0⟩
  have hzs2 : w.heap.size ≤ w2.heap.size := hE2.size
  refine wp_seq ?_
  refine wp_seq ?_
  refine wp_plain _ [0, 0, 0, 0] rfl ?_
  refine q_move (.int .i64 ((k : Nat) : Int)) rfl up_none ?_
  refine q_move va rfl up_none ?_
  refine q_len (v := va) u22 rfl ha.isSl up_none ?_
  by_cases hc3 : ((k : Nat) : Int) < ((a.length : Nat) : Int)
  ·
    refine q_lss true rfl rfl (decide_eq_true hc3) up_none ?_
    refine lw_nil ?_
    refine c_cond_t rfl ?_
    refine wp_skip ?_
    refine wp_seq ?_
    refine wp_block ?_
    refine wp_plain _ [0, 0, 0, 0, 2, 0, 3, 3, 4, 0] rfl ?_
    refine q_move vo rfl up_none ?_
    refine q_move va rfl up_none ?_
    refine q_move (.int .i64 ((k : Nat) : Int)) rfl up_none ?_
    refine q_idx (v := va) k u22 ti29 rfl rfl ha.isSl rfl (by first | omega | assumption | (simp only [List.length_nil, List.length_cons, List.length_append, List.length_set, List.length_replicate]; omega) | (simp [List.length_nil, List.length_cons, List.length_append, List.length_set, List.length_replicate]; done) | (simp [List.length_nil, List.length_cons, List.length_append, List.length_set, List.length_replicate]; omega)) up_none ?_
    obtain ⟨ue4, hl4, hd4⟩ := ha.get (k := k) [] (by first | omega | assumption | (simp only [List.length_nil, List.length_cons, List.length_append, List.length_set, List.length_replicate]; omega) | (simp [List.length_nil, List.length_cons, List.length_append, List.length_set, List.length_replicate]; done) | (simp [List.length_nil, List.length_cons, List.length_append, List.length_set, List.length_replicate]; omega))
    have hln4 := hd4.lenle
    refine q_load (p := eptr va k 1) (.inr rfl) ue4 one29 rfl (ldH_ext hE2 hl4) up_none ?_
    refine q_move vb rfl up_none ?_
    refine lw_call 99 [] [] [ue4, vb] rfl rfl cf99 up_none (c_spec_l03Dot _ _ _ _ _ (hd4.ext g1 hE2) (hb.ext g1 hE2) (by exact hlr _) (by exact hqa _) (by exact hqb)) ?_
    rintro e5 w5 ⟨rfl, hX5⟩
    refine ⟨_, rfl, hX5, ?_⟩
    have hzs5 : w2.heap.size ≤ w5.heap.size := hX5.size
    have hE5 : Ext w w5 := hE2.trans hX5
    have hL2_0x5 := hL2_0.ext (o1) hX5
    refine r_one (u := (.int .i64 (dotM (a.getD k []) b))) (B := w5.heap.size) good_rI u29 ti2 rfl rfl (frI w5.heap.size w5.heap.size _ _ (dotM_rng _ _)) (Nat.le_refl _) up_none ?_
    intro v6 w6 hX6 hz6 hO6
    have hzs6 : w5.heap.size ≤ w6.heap.size := hX6.size
    have hE6 : Ext w w6 := hE5.trans hX6
    have hL2_0x6 := hL2_0x5.ext (o1) hX6
    refine e_appI (v := vo) (a := v6) u29 ti2 rfl rfl rfl hL2_0x6 hE6.size hO6.rd1 (by first | omega | assumption | (simp only [List.length_nil, List.length_cons, List.length_append, List.length_set, List.length_replicate]; omega) | (simp [List.length_nil, List.length_cons, List.length_append, List.length_set, List.length_replicate]; done) | (simp [List.length_nil, List.length_cons, List.length_append, List.length_set, List.length_replicate]; omega)) (by unfold maxLen; first | omega | assumption | (simp only [List.length_nil, List.length_cons, List.length_append, List.length_set, List.length_replicate]; omega) | (simp [List.length_nil, List.length_cons, List.length_append, List.length_set, List.length_replicate]; done) | (simp [List.length_nil, List.length_cons, List.length_append, List.length_set, List.length_replicate]; omega)) up_none ?_
    intro v7 w7 F7 hC7 hF7 hO7
    have hE7 : Ext w w7 := hC7.below hE6 (fun c hc => Nat.le_trans (Nat.le_refl _) (hF7 c hc).1) hE6.size
    have hzs7 : w6.heap.size ≤ w7.heap.size := hC7.size
    have hF8 := hO6.chg (o1) hC7 (fun c hc => by have := hF7 c hc; omega)
    refine q_assign v7 rfl up_none ?_
    refine lw_nil ?_
    refine wp_plain _ [0, 0, 0] rfl ?_
    refine q_move (.int .i64 ((k : Nat) : Int)) rfl up_none ?_
    refine q_add ((k + 1 : Nat) : Int) rfl rfl (w64n (by omega) (by first | omega | assumption | (simp only [List.length_nil, List.length_cons, List.length_append, List.length_set, List.length_replicate]; omega) | (simp [List.length_nil, List.length_cons, List.length_append, List.length_set, List.length_replicate]; done) | (simp [List.length_nil, List.length_cons, List.length_append, List.length_set, List.length_replicate]; omega))) up_none ?_
    refine q_assign (.int .i64 ((k + 1 : Nat) : Int)) rfl up_none ?_
    refine lw_nil ?_
    exact ⟨((k + 1), v7), _, rfl, ⟨rfl, rfl, rfl, rfl, trivial⟩, ⟨hE7, (by rw [map_snoc [] (by omega)]; exact hO7.up o1), (by first | omega | assumption | (simp only [List.length_nil, List.length_cons, List.length_append, List.length_set, List.length_replicate]; omega) | (simp [List.length_nil, List.length_cons, List.length_append, List.length_set, List.length_replicate]; done) | (simp [List.length_nil, List.length_cons, List.length_append, List.length_set, List.length_replicate]; omega))⟩, by first | omega | (dsimp only; omega)⟩
  ·
    refine q_lss false rfl rfl (decide_eq_false hc3) up_none ?_
    refine lw_nil ?_
    refine c_cond_f rfl ?_
    refine wp_exit ?_
    refine t_exit ?_
    refine t_exit ?_
    refine c_exit_here ?_
    refine wp_seq ?_
    refine wp_plain _ [0, 0] rfl ?_
    refine q_move vo rfl up_none ?_
    refine q_assign vo rfl up_none ?_
    refine lw_nil ?_
    refine wp_ret ?_
    exact post_ret [4] rfl vo rfl ⟨vo, rfl, hE2, (by have h := hL2_0.up o1; rwa [List.take_of_length_le (by omega)] at h)⟩

/- spec.l07Numbers -/
set_option maxHeartbeats 4000000 in
set_option maxRecDepth 100000 in
theorem c_spec_l07Numbers (w : World) (va : Value) (a : List Int) (n : Int) (ha : Rd (rdL rI) w.heap va a) (_hn : -9223372036854775808 ≤ n ∧ n ≤ 9223372036854775807)  :
    Calls Try.prog 56 #[va, .int .i64 n] w (fun e w' => e = .returned (.bool (decide (((a.length : Nat) : Int) = n) && allN a)) ∧ Ext w w') := by
  refine calls_mk [va, .int .i64 n] 13 Try.func56 rfl rfl (by simp) ?_
  have hE0 : Ext w w := Ext.refl w
  have hl_va := ha.lenle
  refine wp_seq ?_
  refine wp_plain _ [0] rfl ?_
  refine q_assign (.bool false) rfl up_none ?_
  refine lw_nil ?_
  refine wp_seq ?_
  refine wp_plain _ [0, 0, 0, 0, 0, 0, 3, 0, 0] rfl ?_
  refine q_move va rfl up_none ?_
  refine q_len (v := va) u29 rfl ha.isSl up_none ?_
  refine q_move (.int .i64 n) rfl up_none ?_
  by_cases hc1 : ((a.length : Nat) : Int) = n
  ·
    refine q_eql true rfl rfl (decide_eq_true hc1) up_none ?_
    refine q_move (.bool true) rfl up_none ?_
    refine q_move va rfl (up_some (e := 9) rfl rfl rfl) ?_
    refine lw_call 69 [] [] [va] rfl rfl cf69 (up_some (e := 9) rfl rfl rfl) (c_spec_l01Numbers _ _ _ (ha.ext g1 hE0)) ?_
    rintro e2 w2 ⟨rfl, hX2⟩
    refine ⟨_, rfl, hX2, ?_⟩
    have hzs2 : w.heap.size ≤ w2.heap.size := hX2.size
    have hE2 : Ext w w2 := hE0.trans hX2
    refine q_pick true (.bool (allN a)) rfl rfl up_none ?_
    refine q_assign (.bool (allN a)) rfl up_none ?_
    refine lw_nil ?_
    refine wp_ret ?_
    exact post_ret [4] rfl (.bool (allN a)) rfl ⟨(ret_bool (by simp [*])), hE2⟩
  ·
    refine q_eql false rfl rfl (decide_eq_false hc1) up_none ?_
    refine q_move (.bool false) rfl up_none ?_
    refine lw_skip (e := 9) (c := false) rfl rfl rfl rfl ?_
    refine lw_skip (e := 9) (c := false) rfl rfl rfl rfl ?_
    refine q_pick false (.bool false) rfl rfl up_none ?_
    refine q_assign (.bool false) rfl up_none ?_
    refine lw_nil ?_
    refine wp_ret ?_
    exact post_ret [4] rfl (.bool false) rfl ⟨(ret_bool (by simp [*])), hE0⟩

/- impl.isOrder -/
set_option maxHeartbeats 4000000 in
set_option maxRecDepth 100000 in
theorem c_impl_isOrder (w : World) (n : Int) (_hn : -9223372036854775808 ≤ n ∧ n ≤ 9223372036854775807)  :
    Calls Try.prog 63 #[.int .i64 n] w (fun e w' => e = .returned (.bool (decide (((0 : Nat) : Int) ≤ n) && decide (n ≤ ((12 : Nat) : Int)))) ∧ Ext w w') := by
  refine calls_mk [.int .i64 n] 5 Try.func63 rfl rfl (by simp) ?_
  have hE0 : Ext w w := Ext.refl w
  refine wp_seq ?_
  refine wp_plain _ [0] rfl ?_
  refine q_assign (.bool false) rfl up_none ?_
  refine lw_nil ?_
  refine wp_seq ?_
  refine wp_plain _ [0, 0, 0] rfl ?_
  refine q_move (.int .i64 n) rfl up_none ?_
  refine lw_callq 104 [] [] [(.int .i64 n), (.int .i64 ((0 : Nat) : Int)), (.int .i64 ((12 : Nat) : Int))] rfl rfl cf104 up_none (.bool (decide (((0 : Nat) : Int) ≤ n) && decide (n ≤ ((12 : Nat) : Int)))) (fun wq => c_impl_within wq _ _ _ _hn (by omega) (by omega)) ?_
  refine q_assign (.bool (decide (((0 : Nat) : Int) ≤ n) && decide (n ≤ ((12 : Nat) : Int)))) rfl up_none ?_
  refine lw_nil ?_
  refine wp_ret ?_
  exact post_ret [2] rfl (.bool (decide (((0 : Nat) : Int) ≤ n) && decide (n ≤ ((12 : Nat) : Int)))) rfl ⟨rfl, hE0⟩

/- impl.extended -/
set_option maxHeartbeats 4000000 in
set_option maxRecDepth 100000 in
theorem c_impl_extended (w : World) (va : Value) (a : List Int) (o : Int) (ha : Rd (rdL rI) w.heap va a) (_ho : -9223372036854775808 ≤ o ∧ o ≤ 9223372036854775807) (hla : a.length ≤ 1000000000000) (ho : 0 ≤ o ∧ o ≤ 12) :
    Calls Try.prog 64 #[va, .int .i64 o] w (fun e w' => ∃ v0 : Value, e = .returned (v0) ∧ Ext w w' ∧ Fr (owL (owL rI 2) 29) w.heap.size w'.heap.size w'.heap v0 (a.map (fun x => (List.replicate (o.toNat + 1) 0).set 0 x))) := by
  refine calls_mk [va, .int .i64 o] 28 Try.func64 rfl rfl (by simp) ?_
  have hE0 : Ext w w := Ext.refl w
  have hl_va := ha.lenle
  refine wp_seq ?_
  refine wp_plain _ [0] rfl ?_
  refine q_assign (.slice none 0 0) rfl up_none ?_
  refine lw_nil ?_
  refine wp_seq ?_
  refine wp_plain _ [3, 0] rfl ?_
  refine r_nil (owL rI 2) o1 u22 ti29 up_none ?_
  intro v1 w1 hX1 hz1 hO1
  have hzs1 : w.heap.size ≤ w1.heap.size := hX1.size
  have hE1 : Ext w w1 := hE0.trans hX1
  refine q_assign v1 rfl up_none ?_
  refine lw_nil ?_
  refine wp_seq ?_
  refine wp_seq ?_
  refine wp_plain _ [0, 0, 0] rfl ?_
  refine q_move va rfl up_none ?_
  refine q_len (v := va) u29 rfl ha.isSl up_none ?_
  refine q_move (.int .i64 ((0 : Nat) : Int)) rfl up_none ?_
  refine lw_nil ?_
  refine wp_block ?_
  refine c_loop (S := Nat × Value) (fun (⟨k, vo⟩ : Nat × Value) => ([(5, vo), (12, (.int .i64 ((k : Nat) : Int))), (1, (.int .i64 o)), (10, va), (11, (.int .i64 ((a.length : Nat) : Int)))] : List (Nat × Value))) (fun (⟨k, vo⟩ : Nat × Value) (W : World) => Ext w W ∧ Fr (owL (owL rI 2) 29) w.heap.size W.heap.size W.heap vo ((a.take k).map (fun x => (List.replicate (o.toNat + 1) 0).set 0 x)) ∧ k ≤ a.length) (fun (⟨k, vo⟩ : Nat × Value) => a.length - k) (0, v1) ⟨rfl, rfl, rfl, rfl, rfl, trivial⟩ ⟨hE1, hO1.up o2, (by first | omega | assumption | (simp only [List.length_nil, List.length_cons, List.length_append, List.length_set, List.length_replicate]; omega) | (simp [List.length_nil, List.length_cons, List.length_append, List.length_set, List.length_replicate]; done) | (simp [List.length_nil, List.length_cons, List.length_append, List.length_set, List.length_replicate]; omega))⟩ ?_
  clear hE0 hO1 hz1 hX1 hzs1 hE1
  rintro ⟨k, vo⟩ ρ2 w2 ⟨hE2, hL2_0, hp2_0⟩
  have hzs2 : w.heap.size ≤ w2.heap.size := hE2.size
  refine wp_seq ?_
  refine wp_plain _ [0] rfl ?_
  by_cases hc3 : ((k : Nat) : Int) < ((a.length : Nat) : Int)
  ·
    refine q_lss true rfl rfl (decide_eq_true hc3) up_none ?_
    refine lw_nil ?_
    refine wp_seq ?_
    refine c_cond_t rfl ?_
    refine wp_skip ?_
    refine wp_seq ?_
    refine wp_block ?_
    refine wp_seq ?_
    refine wp_plain _ [0, 2, 0] rfl ?_
    refine q_idx (v := va) k u29 ti2 rfl rfl ha.isSl rfl (by first | omega | assumption | (simp only [List.length_nil, List.length_cons, List.length_append, List.length_set, List.length_replicate]; omega) | (simp [List.length_nil, List.length_cons, List.length_append, List.length_set, List.length_replicate]; done) | (simp [List.length_nil, List.length_cons, List.length_append, List.length_set, List.length_replicate]; omega)) up_none ?_
    refine q_load (p := eptr va k 1) (.inr rfl) (.int .i64 (a.getD k 0)) one2 rfl (ldH_ext hE2 (ha.getI (by first | omega | assumption | (simp only [List.length_nil, List.length_cons, List.length_append, List.length_set, List.length_replicate]; omega) | (simp [List.length_nil, List.length_cons, List.length_append, List.length_set, List.length_replicate]; done) | (simp [List.length_nil, List.length_cons, List.length_append, List.length_set, List.length_replicate]; omega))).1) up_none ?_
    refine q_assign (.int .i64 (a.getD k 0)) rfl up_none ?_
    refine lw_nil ?_
    refine wp_seq ?_
    refine wp_plain _ [0, 0, 3, 0] rfl ?_
    refine q_move (.int .i64 o) rfl up_none ?_
    refine q_add ((o.toNat + 1 : Nat) : Int) rfl rfl (w64n (by omega) (by omega)) up_none ?_
    refine r_make (n := o.toNat + 1) u29 ti2 rfl rfl rfl (by first | omega | assumption | (simp only [List.length_nil, List.length_cons, List.length_append, List.length_set, List.length_replicate]; omega) | (simp [List.length_nil, List.length_cons, List.length_append, List.length_set, List.length_replicate]; done) | (simp [List.length_nil, List.length_cons, List.length_append, List.length_set, List.length_replicate]; omega)) up_none ?_
    intro v4 w4 hX4 hz4 hO4
    have hzs4 : w2.heap.size ≤ w4.heap.size := hX4.size
    have hE4 : Ext w w4 := hE2.trans hX4
    have hL2_0x4 := hL2_0.ext (o2) hX4
    refine q_assign v4 rfl up_none ?_
    refine lw_nil ?_
    refine wp_seq ?_
    refine wp_plain _ [0, 0, 0, 4] rfl ?_
    refine q_move v4 rfl up_none ?_
    refine q_move (.int .i64 (a.getD k 0)) rfl up_none ?_
    refine q_idx (v := v4) 0 u29 ti2 rfl rfl hO4.isSl rfl (by first | omega | assumption | (simp only [List.length_nil, List.length_cons, List.length_append, List.length_set, List.length_replicate]; omega) | (simp [List.length_nil, List.length_cons, List.length_append, List.length_set, List.length_replicate]; done) | (simp [List.length_nil, List.length_cons, List.length_append, List.length_set, List.length_replicate]; omega)) up_none ?_
    refine e_setI (v := v4) (w := w4) sz2 rfl rfl (ha.getI (by first | omega | assumption | (simp only [List.length_nil, List.length_cons, List.length_append, List.length_set, List.length_replicate]; omega) | (simp [List.length_nil, List.length_cons, List.length_append, List.length_set, List.length_replicate]; done) | (simp [List.length_nil, List.length_cons, List.length_append, List.length_set, List.length_replicate]; omega))).2 hO4 (by first | omega | assumption | (simp only [List.length_nil, List.length_cons, List.length_append, List.length_set, List.length_replicate]; omega) | (simp [List.length_nil, List.length_cons, List.length_append, List.length_set, List.length_replicate]; done) | (simp [List.length_nil, List.length_cons, List.length_append, List.length_set, List.length_replicate]; omega)) up_none ?_
    intro w5 F5 hC5 hz5 hF5 hO5
    have hE5 : Ext w w5 := hC5.below hE4 (fun c hc => Nat.le_trans hE2.size (hF5 c hc).1) hE4.size
    have hzs5 : w4.heap.size ≤ w5.heap.size := hC5.size
    have hF6 := hL2_0x4.chg (o2) hC5 (fun c hc => by have := hF5 c hc; omega)
    refine lw_nil ?_
    refine wp_plain _ [0, 0, 3, 4, 0] rfl ?_
    refine q_move vo rfl up_none ?_
    refine q_move v4 rfl up_none ?_
    refine r_one (u := v4) (B := w2.heap.size) o1 u22 ti29 rfl rfl hO5 (by first | exact Nat.le_refl _ | omega) up_none ?_
    intro v7 w7 hX7 hz7 hO7
    have hzs7 : w5.heap.size ≤ w7.heap.size := hX7.size
    have hE7 : Ext w w7 := hE5.trans hX7
    have hF6x7 := hF6.ext (o2) hX7
    refine e_appF o1 (v := vo) (a := v7) u22 ti29 rfl rfl rfl hF6x7 hE7.size hO7 (by omega) hE2.size (by first | omega | assumption | (simp only [List.length_nil, List.length_cons, List.length_append, List.length_set, List.length_replicate]; omega) | (simp [List.length_nil, List.length_cons, List.length_append, List.length_set, List.length_replicate]; done) | (simp [List.length_nil, List.length_cons, List.length_append, List.length_set, List.length_replicate]; omega)) (by unfold maxLen; first | omega | assumption | (simp only [List.length_nil, List.length_cons, List.length_append, List.length_set, List.length_replicate]; omega) | (simp [List.length_nil, List.length_cons, List.length_append, List.length_set, List.length_replicate]; done) | (simp [List.length_nil, List.length_cons, List.length_append, List.length_set, List.length_replicate]; omega)) up_none ?_
    intro v8 w8 F8 hC8 hF8 hO8
    have hE8 : Ext w w8 := hC8.below hE7 (fun c hc => Nat.le_trans (Nat.le_refl _) (hF8 c hc).1) hE7.size
    have hzs8 : w7.heap.size ≤ w8.heap.size := hC8.size
    refine q_assign v8 rfl up_none ?_
    refine lw_nil ?_
    refine wp_plain _ [0, 0] rfl ?_
    refine q_add ((k + 1 : Nat) : Int) rfl rfl (w64n (by omega) (by first | omega | assumption | (simp only [List.length_nil, List.length_cons, List.length_append, List.length_set, List.length_replicate]; omega) | (simp [List.length_nil, List.length_cons, List.length_append, List.length_set, List.length_replicate]; done) | (simp [List.length_nil, List.length_cons, List.length_append, List.length_set, List.length_replicate]; omega))) up_none ?_
    refine q_move (.int .i64 ((k + 1 : Nat) : Int)) rfl up_none ?_
    refine lw_nil ?_
    exact ⟨((k + 1), v8), _, rfl, ⟨rfl, rfl, rfl, rfl, rfl, trivial⟩, ⟨hE8, (by rw [map_snoc 0 (by omega)]; exact hO8.up o2), (by first | omega | assumption | (simp only [List.length_nil, List.length_cons, List.length_append, List.length_set, List.length_replicate]; omega) | (simp [List.length_nil, List.length_cons, List.length_append, List.length_set, List.length_replicate]; done) | (simp [List.length_nil, List.length_cons, List.length_append, List.length_set, List.length_replicate]; omega))⟩, by first | omega | (dsimp only; omega)⟩
  ·
    refine q_lss false rfl rfl (decide_eq_false hc3) up_none ?_
    refine lw_nil ?_
    refine wp_seq ?_
    refine c_cond_f rfl ?_
    refine wp_exit ?_
    refine t_exit ?_
    refine t_exit ?_
    refine c_exit_here ?_
    refine wp_seq ?_
    refine wp_plain _ [0, 0] rfl ?_
    refine q_move vo rfl up_none ?_
    refine q_assign vo rfl up_none ?_
    refine lw_nil ?_
    refine wp_ret ?_
    exact post_ret [4] rfl vo rfl ⟨vo, rfl, hE2, (by have h := hL2_0.up o2; rwa [List.take_of_length_le (by omega)] at h)⟩
end Go.Proofs.Ytjgnlnlngcjfcaa
