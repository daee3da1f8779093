/- Steps of Gauss-Jordan elimination, row by row, as the programs make them. No condition. -/
import Derived.Test.YtjgnlnlngcjfcaaMe
namespace Go.Proofs.Ytjgnlnlngcjfcaa
open Go Go.RowKit
set_option linter.unusedVariables false
set_option linter.unusedSimpArgs false

section
variable {α : Type} {R : Ar α} {n c p : Nat} {M : List (List α)}
theorem jor_step {Z : Option (List (List α))} (h : jor R n (n - c) c M = Z) (hc : c < n) (hp : pvJ R n c M ≠ n) : jor R n (n - (c + 1)) (c + 1) (stepJ R n c (pvJ R n c M) M) = Z := by
  rw [← h, show n - c = (n - (c + 1)) + 1 from by omega]
  conv => rhs; unfold jor
  rw [if_neg hp]
theorem jor_none {Z : Option (List (List α))} (h : jor R n (n - c) c M = Z) (hc : c < n) (hp : pvJ R n c M = n) : Z = none := by
  rw [← h, show n - c = (n - (c + 1)) + 1 from by omega]
  unfold jor
  rw [if_pos hp]
theorem jor_end {Z : Option (List (List α))} (h : jor R n (n - c) c M = Z) (hc : n ≤ c) : Z = some M := by
  rw [← h, show n - c = 0 from by omega]; rfl
theorem jor_piv {Z : Option (List (List α))} (h : jor R n (n - c) c M = Z) (hc : c < n) (hz : Z ≠ none) : pvJ R n c M ≠ n := fun hp => hz (jor_none h hc hp)
theorem pvJ_le (R : Ar α) (n c : Nat) (M : List (List α)) (hc : c < n) : c ≤ pvJ R n c M ∧ pvJ R n c M ≤ n := by
  have := pvt_ge (fun r => R.z ((M.getD r []).getD c R.d)) (n - c) c
  unfold pvJ
  omega
/-- Rows done up to i; the next one. -/
theorem rowsJ_next {D : List (List α)} (hl : D.length = n) {i : Nat} (hi : i < n) (hic : i ≠ c) : (mix i (rowsJ R n c D) D).set i (rowT R c (D.getD i []) (D.getD c [])) = mix (i + 1) (rowsJ R n c D) D := by
  unfold rowsJ
  rw [mix_tab hl hi, if_neg hic]
theorem rowsJ_skip {D : List (List α)} (hl : D.length = n) {i : Nat} (hi : i < n) (hic : i = c) : mix (i + 1) (rowsJ R n c D) D = mix i (rowsJ R n c D) D := by
  unfold rowsJ
  rw [mix_tab hl hi, if_pos hic]
  subst hic
  have h1 : (mix i (tab n fun r => if r = i then D.getD i [] else rowT R i (D.getD r []) (D.getD i [])) D).length = n := by rw [mix_len _ _ _ (by simp [hl])]; exact hl
  have h2 : (mix i (tab n fun r => if r = i then D.getD i [] else rowT R i (D.getD r []) (D.getD i [])) D).getD i [] = D.getD i [] := mix_ge [] (by simp [hl]) (Nat.le_refl _) (by omega)
  have h3 := set_self_getD (mix i (tab n fun r => if r = i then D.getD i [] else rowT R i (D.getD r []) (D.getD i [])) D) (r := i) [] (by omega)
  rw [h2] at h3
  exact h3
theorem rowsJ_at {D : List (List α)} (hl : D.length = n) {i : Nat} (hi : i ≤ n) (hc : c < n) : (mix i (rowsJ R n c D) D).getD c [] = D.getD c [] := by
  by_cases h : i ≤ c
  · exact mix_ge [] (by simp [rowsJ, hl]) h (by omega)
  · rw [mix_lt [] (by omega) (by simp [rowsJ]; omega), rowsJ_get hc, if_pos rfl]
theorem rowsJ_ge {D : List (List α)} (hl : D.length = n) {i r : Nat} (hi : i ≤ r) (hr : r < n) : (mix i (rowsJ R n c D) D).getD r [] = D.getD r [] := mix_ge [] (by simp [rowsJ, hl]) hi (by omega)
theorem rowsJ_len {D : List (List α)} (hl : D.length = n) (i : Nat) : (mix i (rowsJ R n c D) D).length = n := by rw [mix_len _ _ _ (by simp [rowsJ, hl])]; exact hl
/-- Every row keeps its length. -/
theorem rowsJ_row {V : α → Prop} {m : Nat} {D : List (List α)} (hA : ArV R V) (h : Sh V R.d n m D) (hc : c < n) (hcm : c < m) {i r : Nat} (hi : i ≤ n) (hr : r < n) : RowV V R.d m ((mix i (rowsJ R n c D) D).getD r []) := by
  by_cases hx : r < i
  · rw [mix_lt [] hx (by simp [rowsJ]; omega)]; exact (h.rows hA hc hcm).row r hr
  · rw [rowsJ_ge h.len (by omega) hr]; exact h.row r hr
end

/-! ### Numbers -/
theorem augN_row (a : List (List Int)) (b : List Int) {i : Nat} (hi : i < a.length) : (mix i (augN a b) a).set i ((mix i (augN a b) a).getD i [] ++ [b.getD i 0]) = mix (i + 1) (augN a b) a := by
  unfold augN
  rw [mix_ge [] (by simp) (Nat.le_refl _) hi, mix_tab rfl hi]
theorem augN_at (a : List (List Int)) (b : List Int) {i : Nat} (hi : i < a.length) : (mix i (augN a b) a).getD i [] = a.getD i [] := mix_ge [] (by simp [augN]) (Nat.le_refl _) hi
theorem augN_len (a : List (List Int)) (b : List Int) (i : Nat) : (mix i (augN a b) a).length = a.length := mix_len _ _ _ (by simp [augN])
theorem solN_of {a : List (List Int)} {b : List Int} {M : List (List Int)} (h : jorN a b = some M) : solN a b = M.map fun r => r.getD a.length 0 := by
  unfold solN lastC; rw [h]; rfl
/-- One row of the elimination, as the reference makes it. -/
theorem row_take {n c i : Nat} {D : List (List Int)} (hl : D.length = n) (hi : i < n) (hc : c < n) (hic : i ≠ c) :
    (mix i (rowsJ nA n c D) D).set i (tkr ((mix i (rowsJ nA n c D) D).getD i []) ((mix i (rowsJ nA n c D) D).getD c []) (((mix i (rowsJ nA n c D) D).getD i []).getD c 0)) = mix (i + 1) (rowsJ nA n c D) D := by
  rw [rowsJ_at hl (by omega) hc, rowsJ_ge hl (Nat.le_refl _) hi]
  exact rowsJ_next (R := nA) hl hi hic
theorem divN {c p : Nat} {M : List (List Int)} (hc : c < M.length) (hp : p < M.length) : (swapL M c p []).set c (scl (M.getD p []) (inv ((M.getD p []).getD c 0))) = divJ nA c p M := by
  unfold divJ
  rw [swap_at hc hp]; rfl
theorem solN_len {a : List (List Int)} {b : List Int} (hS : Sq a.length a) (hb : allN b = true) (h : jorN a b ≠ none) : (solN a b).length = a.length := by
  obtain ⟨M, hM⟩ := Option.ne_none_iff_exists'.1 h
  rw [solN_of hM, List.length_map]
  exact (Sh.jor nA_V a.length 0 _ (by omega) (by omega) (aug_sh hS hb) hM).len
theorem solN_num {a : List (List Int)} {b : List Int} (hS : Sq a.length a) (hb : allN b = true) (h : jorN a b ≠ none) : allN (solN a b) = true := by
  obtain ⟨M, hM⟩ := Option.ne_none_iff_exists'.1 h
  have hs := Sh.jor nA_V a.length 0 _ (by omega) (by omega) (aug_sh hS hb) hM
  rw [solN_of hM]
  unfold allN
  rw [List.all_eq_true]
  intro x hx
  obtain ⟨r, hr, rfl⟩ := List.mem_map.1 hx
  obtain ⟨k, hk, rfl⟩ := List.getElem_of_mem hr
  have := (hs.row k (by rw [← hs.len]; exact hk)).val a.length (by omega)
  rw [show M.getD k [] = M[k] from by simp [hk]] at this
  exact isN_iff.2 this
end Go.Proofs.Ytjgnlnlngcjfcaa
