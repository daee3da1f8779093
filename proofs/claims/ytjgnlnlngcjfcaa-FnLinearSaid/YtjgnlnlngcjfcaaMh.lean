/- What both solutions of a linear system answer. No condition. -/
import Derived.Test.YtjgnlnlngcjfcaaMg
namespace Go.Proofs.Ytjgnlnlngcjfcaa
open Go Go.RowKit
set_option linter.unusedVariables false
set_option linter.unusedSimpArgs false

def slOk (a : List (List Int)) (b : List Int) : Bool := sqB a && (decide (b.length = a.length) && allN b)
def slR (a : List (List Int)) (b : List Int) : List Int := if slOk a b = true ∧ detM a ≠ 0 then solN a b else []
def slC (a : List (List Int)) (b : List Int) : Int := if slOk a b then (if detM a = 0 then 6 else 0) else 1
theorem slC_rng (a : List (List Int)) (b : List Int) : -9223372036854775808 ≤ slC a b ∧ slC a b ≤ 9223372036854775807 := by
  unfold slC; split <;> (try split) <;> omega
theorem sl_bad {a : List (List Int)} {b : List Int} (h : slOk a b = false) : slR a b = [] ∧ slC a b = 1 := by
  simp [slR, slC, h]
theorem sl_zero {a : List (List Int)} {b : List Int} (h : slOk a b = true) (hd : detM a = 0) : slR a b = [] ∧ slC a b = 6 := by
  simp [slR, slC, h, hd]
theorem sl_good {a : List (List Int)} {b : List Int} (h : slOk a b = true) (hd : detM a ≠ 0) : slR a b = solN a b ∧ slC a b = 0 := by
  simp [slR, slC, h, hd]
theorem sl_sq {a : List (List Int)} {b : List Int} (h : slOk a b = true) : sqB a = true := by
  unfold slOk at h; simp only [Bool.and_eq_true] at h; exact h.1
theorem sl_len {a : List (List Int)} {b : List Int} (h : slOk a b = true) : b.length = a.length := by
  unfold slOk at h; simp only [Bool.and_eq_true, decide_eq_true_eq] at h; exact h.2.1
theorem sl_num {a : List (List Int)} {b : List Int} (h : slOk a b = true) : allN b = true := by
  unfold slOk at h; simp only [Bool.and_eq_true, decide_eq_true_eq] at h; exact h.2.2
theorem sl_jor {a : List (List Int)} {b : List Int} (h : slOk a b = true) (hd : detM a ≠ 0) : jorN a b ≠ none :=
  fun hn => hd ((det_jorN (sq_of (sl_sq h)).1 (sl_num h)).2 hn)
theorem slR_len (a : List (List Int)) (b : List Int) : (slR a b).length ≤ 6 := by
  unfold slR
  split
  · rename_i h
    rw [solN_len (sq_of (sl_sq h.1)).1 (sl_num h.1) (sl_jor h.1 h.2)]
    exact (sq_of (sl_sq h.1)).2
  · simp
theorem mm_len {α β : Type} (h : α → β) (M : List (List α)) : (mm h M).length = M.length := by simp [mm]
theorem sing_len (b : List Int) : (sing b).length = b.length := by simp [sing]
theorem mm_row {α β : Type} (h : α → β) (M : List (List α)) (r : Nat) : ((mm h M).getD r []).length = (M.getD r []).length := by rw [mm_get, List.length_map]
theorem one_sh {n m : Nat} {M : List (List Int)} (h : Sh Nm 0 n m M) : Sh (Ser1 1) [] n m (mm (fun x => [x]) M) := by
  refine ⟨by rw [mm_len]; exact h.len, fun r hr => ⟨by rw [mm_row]; exact (h.row r hr).len, fun k hk => ?_⟩⟩
  rw [mm_get, map_getD (d := 0) (by rw [(h.row r hr).len]; exact hk)]
  refine ⟨rfl, ?_⟩
  have := (h.row r hr).val k hk
  show ([_] : List Int).all isN = true
  simp only [List.all_cons, List.all_nil, Bool.and_true]
  exact isN_iff.2 this
/-- The premises of the solution of a system of series, for numbers. -/
theorem one_pre {a : List (List Int)} {b : List Int} (hS : Sq a.length a) (hl : b.length = a.length) (hb : allN b = true) :
    (∀ r, r < (mm (fun x : Int => [x]) a).length → ((mm (fun x : Int => [x]) a).getD r []).length = (mm (fun x : Int => [x]) a).length) ∧
    ∃ N, 1 ≤ N ∧ N ≤ 1000 ∧ Sh (Ser1 N) [] (mm (fun x : Int => [x]) a).length ((mm (fun x : Int => [x]) a).length + 1) (augS (mm (fun x => [x]) a) (sing b)) := by
  rw [mm_len]
  refine ⟨fun r hr => by rw [mm_row]; exact hS.row r hr, 1, by omega, by omega, ?_⟩
  rw [aug_one hS hl]
  exact one_sh (aug_sh hS hb)
theorem one_some {a : List (List Int)} {b : List Int} (hS : Sq a.length a) (hl : b.length = a.length) (hb : allN b = true) : (jorS (mm (fun x => [x]) a) (sing b)).isSome = !decide (detM a = 0) := by
  rw [jor_one hS hl hb, Option.isSome_map]
  have h := det_jorN (b := b) hS hb
  by_cases hd : detM a = 0
  · rw [h.1 hd]; simp [hd]
  · have : jorN a b ≠ none := fun hn => hd (h.2 hn)
    obtain ⟨M, hM⟩ := Option.ne_none_iff_exists'.1 this
    rw [hM]; simp [hd]
theorem sing_row (b : List Int) {k : Nat} (hk : k < b.length) : (sing b).getD k [] = [b.getD k 0] := by
  unfold sing; rw [map_getD (d := 0) hk]
theorem sing_first (b : List Int) : (sing b).map (fun s => s.getD 0 0) = b := by
  unfold sing
  rw [List.map_map]
  conv => rhs; rw [← List.map_id b]
  rfl
end Go.Proofs.Ytjgnlnlngcjfcaa
