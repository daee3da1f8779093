/- Sizes, marks and the form of systems of series. No condition. -/
import Derived.Test.YtjgnlnlngcjfcaaMo
import Derived.Test.YtjgnlnlngcjfcaaMi
namespace Go.Proofs.Ytjgnlnlngcjfcaa
open Go Go.RowKit
set_option linter.unusedVariables false
set_option linter.unusedSimpArgs false

def szQ : List (List (List Int)) → Int → Int
  | [], l => l
  | r :: rs, l => if szM r l < 0 then -1 else szQ rs (szM r l)
def szT (a : List (List (List Int))) (l : Int) : Int := if l - (a.length : Int) < 0 then -1 else szQ a (l - (a.length : Int))
theorem szM_top (a : List (List Int)) {l : Int} (h : 0 ≤ l ∧ l ≤ 1048576) : -1 ≤ szM a l ∧ szM a l ≤ 1048576 := by
  by_cases h0 : 0 ≤ szM a l
  · have := szM_le h0 h.2; omega
  · unfold szM at h0 ⊢
    split
    · omega
    · rename_i hh
      rw [if_neg hh] at h0
      have key : ∀ (rs : List (List Int)) (x : Int), 0 ≤ x → x ≤ 1048576 → -1 ≤ szR rs x := by
        intro rs
        induction rs with
        | nil => intro x h1 h2; unfold szR; omega
        | cons r rs ih =>
          intro x h1 h2
          unfold szR
          split
          · omega
          · rename_i h3
            have := szI_le (n := r.length) (l := x) (by omega)
            exact ih _ (by omega) (by omega)
      have := key a (l - (a.length : Int)) (by omega) (by omega)
      omega
theorem szQ_top : ∀ (a : List (List (List Int))) (l : Int), (0 ≤ l ∧ l ≤ 1048576) → -1 ≤ szQ a l ∧ szQ a l ≤ 1048576
  | [], l, h => by unfold szQ; omega
  | r :: rs, l, h => by
    unfold szQ
    split
    · omega
    · rename_i hh
      have := szM_top r h
      exact szQ_top rs _ (by omega)
theorem szT_rng (a : List (List (List Int))) {l : Int} (h : 0 ≤ l ∧ l ≤ 1048576) : -9223372036854775808 ≤ szT a l ∧ szT a l ≤ 9223372036854775807 := by
  unfold szT; split
  · omega
  · have := szQ_top a (l - (a.length : Int)) (by omega); omega
theorem szT_top (a : List (List (List Int))) {l : Int} (h : 0 ≤ l ∧ l ≤ 1048576) : szT a l ≤ 1048576 := by
  unfold szT; split
  · omega
  · have := szQ_top a (l - (a.length : Int)) (by omega); omega
theorem szQ_drop {a : List (List (List Int))} {k : Nat} {l : Int} (hk : k < a.length) : szQ (a.drop k) l = if szM (a.getD k []) l < 0 then -1 else szQ (a.drop (k + 1)) (szM (a.getD k []) l) := by
  rw [List.drop_eq_getElem_cons hk]
  have : a.getD k [] = a[k] := by simp [hk]
  rw [this]; rfl
theorem szQ_le : ∀ (a : List (List (List Int))) (l : Int), 0 ≤ szQ a l → 0 ≤ l → l ≤ 1048576 → ∀ r ∈ a, r.length ≤ 1048576 ∧ ∀ j, (r.getD j []).length ≤ 1048576
  | [], _, _, _, _, r, hr => by cases hr
  | m :: ms, l, h, h0, hl, r, hr => by
    unfold szQ at h
    split at h
    · omega
    · rename_i hh
      have h1 := szM_le (a := m) (l := l) (by omega) hl
      rcases List.mem_cons.1 hr with rfl | hr
      · exact h1.2
      · exact szQ_le ms _ h (by omega) (by omega) r hr
theorem szT_le {a : List (List (List Int))} {l : Int} (h : 0 ≤ szT a l) (hl : l ≤ 1048576) : a.length ≤ 1048576 ∧ ∀ k, (a.getD k []).length ≤ 1048576 ∧ ∀ j, ((a.getD k []).getD j []).length ≤ 1048576 := by
  unfold szT at h
  split at h
  · omega
  · rename_i hh
    refine ⟨by omega, fun k => ?_⟩
    by_cases hk : k < a.length
    · have := szQ_le a _ h (by omega) (by omega) a[k] (List.getElem_mem hk)
      rw [show a.getD k [] = a[k] from by simp [hk]]
      exact this
    · rw [show a.getD k [] = [] from by simp [Nat.not_lt.1 hk]]; simp

def tot3 (a : List (List (List Int))) (i : Nat) : Nat := ((a.take i).map fun m => tot m m.length).sum
theorem tot3_zero (a : List (List (List Int))) : tot3 a 0 = 0 := rfl
theorem tot3_succ {a : List (List (List Int))} {i : Nat} (h : i < a.length) : tot3 a (i + 1) = tot3 a i + tot (a.getD i []) (a.getD i []).length := by
  unfold tot3
  rw [map_snoc [] h, List.sum_append]
  simp
theorem tot3_mono (a : List (List (List Int))) (i : Nat) : tot3 a i ≤ tot3 a a.length := by
  unfold tot3
  rw [List.take_length]
  conv => rhs; rw [← List.take_append_drop i a]
  rw [List.map_append, List.sum_append]
  omega
theorem tot3_le {a : List (List (List Int))} {L : Nat} (h : ∀ k, tot (a.getD k []) (a.getD k []).length ≤ L) : ∀ i, i ≤ a.length → tot3 a i ≤ i * L
  | 0, _ => by simp [tot3_zero]
  | i + 1, hi => by
    have h1 := tot3_le h i (by omega)
    have h2 := h i
    rw [tot3_succ (by omega), Nat.succ_mul]
    omega
theorem tot3_bnd {a : List (List (List Int))} (h : a.length ≤ 1048576 ∧ ∀ k, (a.getD k []).length ≤ 1048576 ∧ ∀ j, ((a.getD k []).getD j []).length ≤ 1048576) : tot3 a a.length ≤ 1152921504606846976 := by
  have h2 : ∀ k, tot (a.getD k []) (a.getD k []).length ≤ 1048576 * 1048576 := fun k => Nat.le_trans (tot_le (h.2 k).2 _ (Nat.le_refl _)) (Nat.mul_le_mul_right _ (h.2 k).1)
  have h3 := tot3_le h2 _ (Nat.le_refl _)
  have h4 := Nat.mul_le_mul_right (1048576 * 1048576) h.1
  omega
def mk3 (a : List (List (List Int))) (k : Int) : List (List (List Int)) := tab a.length fun i => mk2 (a.getD i []) (k + (tot3 a i : Int))
@[simp] theorem mk3_len (a : List (List (List Int))) (k : Int) : (mk3 a k).length = a.length := by simp [mk3]
end Go.Proofs.Ytjgnlnlngcjfcaa
