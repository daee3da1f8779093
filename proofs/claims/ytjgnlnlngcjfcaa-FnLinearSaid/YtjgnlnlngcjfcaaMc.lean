/- The plain law of linear flows, marks and products of rows and vectors. No condition. -/
import Derived.Test.YtjgnlnlngcjfcaaMb
namespace Go.Proofs.Ytjgnlnlngcjfcaa
set_option linter.unusedVariables false
set_option linter.unusedSimpArgs false
open Go Go.RowKit

theorem map_snoc {α β : Type} {f : α → β} {l : List α} {k : Nat} (d : α) (h : k < l.length) : (l.take (k + 1)).map f = (l.take k).map f ++ [f (l.getD k d)] := by
  rw [take_snoc d h, List.map_append]; rfl

def dots (a b : List Int) : Nat → Int
  | 0 => 0
  | k + 1 => md (dots a b k + a.getD k 0 * b.getD k 0)
theorem dots_num (a b : List Int) : ∀ k, 0 ≤ dots a b k ∧ dots a b k < 1000003
  | 0 => ⟨Int.le_refl _, by unfold dots; decide⟩
  | k + 1 => md_num _
def dotM (a b : List Int) : Int := dots a b a.length
theorem dotM_num (a b : List Int) : 0 ≤ dotM a b ∧ dotM a b < 1000003 := dots_num a b _
theorem dotM_rng (a b : List Int) : -9223372036854775808 ≤ dotM a b ∧ dotM a b ≤ 9223372036854775807 := by
  have := dotM_num a b; omega
theorem dot_eq {s x y : Int} (hs : 0 ≤ s ∧ s < 1000003) (hx : 0 ≤ x ∧ x < 1000003) (hy : 0 ≤ y ∧ y < 1000003) : (wr (s + wr (x * y))).tmod ((1000003 : Nat) : Int) = md (s + x * y) := by
  have h := mul_num hx.1 hx.2 hy.1 hy.2
  rw [wr_of (x := x * y) (by omega) (by omega), wr_of (by omega) (by omega)]
  exact Int.tmod_eq_emod_of_nonneg (by omega)

def scl (a : List Int) (y : Int) : List Int := a.map fun x => md (x * y)
@[simp] theorem scl_len (a : List Int) (y : Int) : (scl a y).length = a.length := by simp [scl]
theorem scl_num (a : List Int) (y : Int) : allN (scl a y) = true := by
  unfold allN scl
  rw [List.all_eq_true]
  intro x hx
  obtain ⟨z, _, rfl⟩ := List.mem_map.1 hx
  exact isN_iff.2 (md_num _)
def app (m : List (List Int)) (v : List Int) : List Int := m.map fun r => dotM r v
@[simp] theorem app_len (m : List (List Int)) (v : List Int) : (app m v).length = m.length := by simp [app]

def nw (a : List (List Int)) (s : List Int) : Nat → List Int
  | 0 => s
  | k + 1 => scl (app a (nw a s k)) (inv ((k + 1 : Nat) : Int))
theorem nw_len {a : List (List Int)} {s : List Int} (h : s.length = a.length) : ∀ k, (nw a s k).length = a.length
  | 0 => h
  | k + 1 => by simp [nw]
theorem nw_num {a : List (List Int)} {s : List Int} (h : allN s = true) : ∀ k, allN (nw a s k) = true
  | 0 => h
  | k + 1 => scl_num _ _
theorem nw_map (a : List (List Int)) (s : List Int) (k : Nat) : nw a s (k + 1) = a.map fun r => md (dotM r (nw a s k) * inv ((k + 1 : Nat) : Int)) := by
  simp [nw, scl, app, Function.comp_def]
def lf (a : List (List Int)) (s : List Int) (n : Nat) : List (List Int) := tab s.length fun i => tab (n + 1) fun j => (nw a s j).getD i 0
/-- The rows of a place that are filled up to k. -/
def rowP (a : List (List Int)) (s : List Int) (o k i : Nat) : List Int := tab (o + 1) fun j => if j ≤ k then (nw a s j).getD i 0 else 0
@[simp] theorem rowP_len (a : List (List Int)) (s : List Int) (o k i : Nat) : (rowP a s o k i).length = o + 1 := by simp [rowP]
theorem rowP_set {a : List (List Int)} {s : List Int} {o k i : Nat} (hk : k + 1 ≤ o) : (rowP a s o k i).set (k + 1) ((nw a s (k + 1)).getD i 0) = rowP a s o (k + 1) i := by
  apply List.ext_getElem
  · simp
  · intro j h1 h2
    simp only [rowP, tab, List.getElem_set, List.getElem_map, List.getElem_range]
    by_cases e : k + 1 = j
    · subst e; simp
    · rw [if_neg e]
      by_cases h : j ≤ k
      · rw [if_pos h, if_pos (by omega)]
      · rw [if_neg h, if_neg (by omega)]
theorem rowP_zero (a : List (List Int)) (s : List Int) (o i : Nat) : (List.replicate (o + 1) 0).set 0 (s.getD i 0) = rowP a s o 0 i := by
  apply List.ext_getElem
  · simp
  · intro j h1 h2
    simp only [rowP, tab, List.getElem_set, List.getElem_map, List.getElem_range, List.getElem_replicate]
    by_cases e : 0 = j
    · subst e; simp [nw]
    · rw [if_neg e, if_neg (by omega)]
theorem rowP_all (a : List (List Int)) (s : List Int) (o : Nat) : tab s.length (rowP a s o o) = lf a s o := by
  unfold lf rowP
  refine tab_ext fun i _ => tab_ext fun j hj => ?_
  rw [if_pos (by omega)]

def up (n : Nat) (k : Int) : List Int := tab n fun i => k + (i : Int)
@[simp] theorem up_len (n : Nat) (k : Int) : (up n k).length = n := by simp [up]
theorem up_get {n i : Nat} {k : Int} (h : i < n) : (up n k).getD i 0 = k + (i : Int) := tab_get 0 h
def tot (a : List (List Int)) (i : Nat) : Nat := ((a.take i).map List.length).sum
theorem tot_zero (a : List (List Int)) : tot a 0 = 0 := rfl
theorem tot_succ {a : List (List Int)} {i : Nat} (h : i < a.length) : tot a (i + 1) = tot a i + (a.getD i []).length := by
  unfold tot
  rw [map_snoc [] h, List.sum_append]
  simp
theorem tot_mono (a : List (List Int)) (i : Nat) : tot a i ≤ tot a a.length := by
  unfold tot
  rw [List.take_length]
  conv => rhs; rw [← List.take_append_drop i a]
  rw [List.map_append, List.sum_append]
  omega
theorem tot_le {a : List (List Int)} {L : Nat} (h : ∀ k, (a.getD k []).length ≤ L) : ∀ i, i ≤ a.length → tot a i ≤ i * L
  | 0, _ => by simp [tot_zero]
  | i + 1, hi => by
    have h1 := tot_le h i (by omega)
    have h2 := h i
    rw [tot_succ (by omega), Nat.succ_mul]
    omega
def mk2 (a : List (List Int)) (k : Int) : List (List Int) := tab a.length fun i => up (a.getD i []).length (k + (tot a i : Int))
@[simp] theorem mk2_len (a : List (List Int)) (k : Int) : (mk2 a k).length = a.length := by simp [mk2]
theorem mk2_get {a : List (List Int)} {k : Int} {i : Nat} (h : i < a.length) : (mk2 a k).getD i [] = up (a.getD i []).length (k + (tot a i : Int)) := tab_get [] h
theorem mk2_row (a : List (List Int)) (k : Int) (i : Nat) : ((mk2 a k).getD i []).length = (a.getD i []).length := by
  by_cases h : i < a.length
  · rw [mk2_get h, up_len]
  · rw [show (mk2 a k).getD i [] = [] from by simp [Nat.not_lt.1 h], show a.getD i [] = [] from by simp [Nat.not_lt.1 h]]
theorem mk2_tot (a : List (List Int)) (k : Int) : ∀ i, i ≤ a.length → tot (mk2 a k) i = tot a i
  | 0, _ => rfl
  | i + 1, hi => by rw [tot_succ (by simp; omega), tot_succ (by omega), mk2_tot a k i (by omega), mk2_row]
theorem ext_tab (a : List (List Int)) (s : List Int) (o : Nat) : s.map (fun x => (List.replicate (o + 1) 0).set 0 x) = tab s.length (rowP a s o 0) := by
  apply List.ext_getElem
  · simp
  · intro i h1 h2
    simp only [List.getElem_map, tab, List.getElem_range]
    rw [← rowP_zero]
    simp at h1
    simp [h1]
theorem lf_set {a : List (List Int)} {s : List Int} {o c i : Nat} (hi : i < s.length) (hc : c + 1 ≤ o) :
    (mix i (tab s.length (rowP a s o (c + 1))) (tab s.length (rowP a s o c))).set i (((mix i (tab s.length (rowP a s o (c + 1))) (tab s.length (rowP a s o c))).getD i []).set (c + 1) ((nw a s (c + 1)).getD i 0)) = mix (i + 1) (tab s.length (rowP a s o (c + 1))) (tab s.length (rowP a s o c)) := by
  rw [mix_ge [] (by simp) (Nat.le_refl _) (by simpa using hi), tab_get [] hi, rowP_set hc, mix_tab (by simp) hi]
theorem lf_row {a : List (List Int)} {s : List Int} {o c i : Nat} (hi : i < s.length) :
    ((mix i (tab s.length (rowP a s o (c + 1))) (tab s.length (rowP a s o c))).getD i []).length = o + 1 := by
  rw [mix_ge [] (by simp) (Nat.le_refl _) (by simpa using hi), tab_get [] hi, rowP_len]

/-- What both answer: the flow, or nothing with a code. -/
def lfOk (a : List (List Int)) (s : List Int) (o : Int) : Bool := sqB a && (decide (s.length = a.length) && allN s) && (decide (0 ≤ o) && decide (o ≤ 12))
def lfR (a : List (List Int)) (s : List Int) (o : Int) : List (List Int) := if lfOk a s o then lf a s o.toNat else []
def lfC (a : List (List Int)) (s : List Int) (o : Int) : Int := if sqB a then (if lfOk a s o then 0 else 2) else 1
theorem lfC_rng (a : List (List Int)) (s : List Int) (o : Int) : -9223372036854775808 ≤ lfC a s o ∧ lfC a s o ≤ 9223372036854775807 := by
  unfold lfC; split <;> (try split) <;> omega
theorem lf_bad1 {a : List (List Int)} {s : List Int} {o : Int} (h : sqB a = false) : lfR a s o = [] ∧ lfC a s o = 1 := by
  simp [lfR, lfC, lfOk, h]
theorem lf_bad2 {a : List (List Int)} {s : List Int} {o : Int} (h : sqB a = true) (h2 : lfOk a s o = false) : lfR a s o = [] ∧ lfC a s o = 2 := by
  simp [lfR, lfC, h, h2]
theorem lf_good {a : List (List Int)} {s : List Int} {o : Int} (h2 : lfOk a s o = true) : lfR a s o = lf a s o.toNat ∧ lfC a s o = 0 := by
  have h : sqB a = true := by unfold lfOk at h2; simp only [Bool.and_eq_true] at h2; exact h2.1.1
  simp [lfR, lfC, h, h2]
theorem lf_sq {a : List (List Int)} {s : List Int} {o : Int} (h : lfOk a s o = true) : sqB a = true := by
  unfold lfOk at h; simp only [Bool.and_eq_true] at h; exact h.1.1
theorem lf_len {a : List (List Int)} {s : List Int} {o : Int} (h : lfOk a s o = true) : s.length = a.length := by
  unfold lfOk at h; simp only [Bool.and_eq_true, decide_eq_true_eq] at h; exact h.1.2.1
theorem lf_num {a : List (List Int)} {s : List Int} {o : Int} (h : lfOk a s o = true) : allN s = true := by
  unfold lfOk at h; simp only [Bool.and_eq_true, decide_eq_true_eq] at h; exact h.1.2.2
theorem lf_ord {a : List (List Int)} {s : List Int} {o : Int} (h : lfOk a s o = true) : 0 ≤ o ∧ o ≤ 12 := by
  unfold lfOk at h; simp only [Bool.and_eq_true, decide_eq_true_eq] at h; exact h.2
def colP (a : List (List Int)) (s : List Int) (c i : Nat) : List Int := tab (c + 1) fun j => (nw a s j).getD i 0
@[simp] theorem colP_len (a : List (List Int)) (s : List Int) (c i : Nat) : (colP a s c i).length = c + 1 := by simp [colP]
theorem col_zero (a : List (List Int)) (s : List Int) : s.map (fun x => [x]) = tab s.length (colP a s 0) := by
  apply List.ext_getElem
  · simp
  · intro i h1 h2
    simp only [List.length_map] at h1
    simp [tab, colP, nw, h1]
theorem col_set {a : List (List Int)} {s : List Int} {c i : Nat} (hi : i < s.length) :
    (mix i (tab s.length (colP a s (c + 1))) (tab s.length (colP a s c))).set i ((mix i (tab s.length (colP a s (c + 1))) (tab s.length (colP a s c))).getD i [] ++ [(nw a s (c + 1)).getD i 0]) = mix (i + 1) (tab s.length (colP a s (c + 1))) (tab s.length (colP a s c)) := by
  rw [mix_ge [] (by simp) (Nat.le_refl _) (by simpa using hi), tab_get [] hi, mix_tab (by simp) hi]
  congr 1
  exact (tab_succ (c + 1) fun j => (nw a s j).getD i 0).symm
theorem col_row {a : List (List Int)} {s : List Int} {c i : Nat} (hi : i < s.length) :
    ((mix i (tab s.length (colP a s (c + 1))) (tab s.length (colP a s c))).getD i []).length = c + 1 := by
  rw [mix_ge [] (by simp) (Nat.le_refl _) (by simpa using hi), tab_get [] hi, colP_len]
theorem row_le {a : List (List Int)} {n : Nat} (h : Sq a.length a) (hn : n = a.length) (k : Nat) : (a.getD k []).length ≤ n := by
  by_cases hk : k < a.length
  · rw [h.row k hk]; omega
  · rw [show a.getD k [] = [] from by simp [Nat.not_lt.1 hk]]; simp
end Go.Proofs.Ytjgnlnlngcjfcaa
