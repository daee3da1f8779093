/- The inverse of a matrix, column by column. No condition. -/
import Derived.Test.YtjgnlnlngcjfcaaMh
namespace Go.Proofs.Ytjgnlnlngcjfcaa
open Go Go.RowKit
set_option linter.unusedVariables false
set_option linter.unusedSimpArgs false

/-- A row of the unit matrix. -/
def uN (n k : Nat) : List Int := (List.replicate n 0).set k 1
@[simp] theorem uN_len (n k : Nat) : (uN n k).length = n := by simp [uN]
theorem uN_num (n k : Nat) : allN (uN n k) = true := by
  unfold allN
  rw [List.all_eq_true]
  intro x hx
  rcases List.mem_or_eq_of_mem_set hx with hx | rfl
  · rw [List.eq_of_mem_replicate hx]; decide
  · decide
def uniP (n k : Nat) : Nat → List Int
  | 0 => List.replicate n 0
  | _ + 1 => uN n k
@[simp] theorem uniP_len (n k : Nat) : ∀ j, (uniP n k j).length = n
  | 0 => by simp [uniP]
  | _ + 1 => by simp [uniP]
theorem uni_rem {n k j : Nat} (hj : j = 0) (m : Nat) : (wr ((uniP n k j).getD m 0 + ((1 : Nat) : Int))).tmod ((1000003 : Nat) : Int) = 1 := by
  subst hj
  have : (uniP n k 0).getD m 0 = 0 := by
    unfold uniP
    by_cases h : m < n
    · simp [h]
    · simp [Nat.not_lt.1 h]
  rw [this]
  rw [wr_of (by omega) (by omega)]
  decide

/-- A row of the inverse, of which k columns are known. -/
def invP (a : List (List Int)) (k i : Nat) : List Int := tab k fun j => (solN a (uN a.length j)).getD i 0
@[simp] theorem invP_len (a : List (List Int)) (k i : Nat) : (invP a k i).length = k := by simp [invP]
def invN (a : List (List Int)) : List (List Int) := tab a.length (invP a a.length)
theorem inv_zero (a : List (List Int)) : List.replicate a.length ([] : List Int) = tab a.length (invP a 0) := by
  apply List.ext_getElem
  · simp
  · intro i h1 h2
    simp [tab, invP]
theorem inv_set {a : List (List Int)} {k i : Nat} (hi : i < a.length) :
    (mix i (tab a.length (invP a (k + 1))) (tab a.length (invP a k))).set i ((mix i (tab a.length (invP a (k + 1))) (tab a.length (invP a k))).getD i [] ++ [(solN a (uN a.length k)).getD i 0]) = mix (i + 1) (tab a.length (invP a (k + 1))) (tab a.length (invP a k)) := by
  rw [mix_ge [] (by simp) (Nat.le_refl _) (by simpa using hi), tab_get [] hi, mix_tab (by simp) hi]
  congr 1
  exact (tab_succ k fun j => (solN a (uN a.length j)).getD i 0).symm
theorem inv_row {a : List (List Int)} {k i : Nat} (hi : i < a.length) : ((mix i (tab a.length (invP a (k + 1))) (tab a.length (invP a k))).getD i []).length = k := by
  rw [mix_ge [] (by simp) (Nat.le_refl _) (by simpa using hi), tab_get [] hi, invP_len]
theorem inv_mlen (a : List (List Int)) (k i : Nat) : (mix i (tab a.length (invP a (k + 1))) (tab a.length (invP a k))).length = a.length := by
  rw [mix_len _ _ _ (by simp)]; simp
theorem uN_ok {a : List (List Int)} (hq : sqB a = true) (k : Nat) : slOk a (uN a.length k) = true := by
  unfold slOk; simp [hq, uN_num]
theorem det_nil {a : List (List Int)} (h : a.length = 0) : detM a ≠ 0 := by
  have : a = [] := List.eq_nil_of_length_eq_zero h
  subst this
  decide

def ivR (a : List (List Int)) : List (List Int) := if sqB a = true ∧ detM a ≠ 0 then invN a else []
def ivC (a : List (List Int)) : Int := if sqB a then (if detM a = 0 then 6 else 0) else 1
theorem ivC_rng (a : List (List Int)) : -9223372036854775808 ≤ ivC a ∧ ivC a ≤ 9223372036854775807 := by
  unfold ivC; split <;> (try split) <;> omega
theorem iv_bad {a : List (List Int)} (h : sqB a = false) : ivR a = [] ∧ ivC a = 1 := by simp [ivR, ivC, h]
theorem iv_zero {a : List (List Int)} (h : sqB a = true) (hd : detM a = 0) : ivR a = [] ∧ ivC a = 6 := by simp [ivR, ivC, h, hd]
theorem iv_good {a : List (List Int)} (h : sqB a = true) (hd : detM a ≠ 0) : ivR a = invN a ∧ ivC a = 0 := by simp [ivR, ivC, h, hd]
theorem ivR_tot (a : List (List Int)) : tot (ivR a) (ivR a).length ≤ 36 := by
  unfold ivR
  split
  · rename_i h
    have h6 := (sq_of h.1).2
    have hlen : (invN a).length = a.length := by simp [invN]
    have h1 : ∀ k, ((invN a).getD k []).length ≤ 6 := by
      intro k
      by_cases hk : k < a.length
      · rw [show (invN a).getD k [] = _ from tab_get [] hk, invP_len]; exact h6
      · rw [show (invN a).getD k [] = [] from by simp [hlen, Nat.not_lt.1 hk]]; simp
    have h2 := tot_le h1 _ (Nat.le_refl _)
    omega
  · decide
end Go.Proofs.Ytjgnlnlngcjfcaa
