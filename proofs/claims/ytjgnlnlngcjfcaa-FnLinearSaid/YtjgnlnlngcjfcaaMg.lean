/- Steps of Gauss-Jordan elimination on series, entry by entry. No condition. -/
import Derived.Test.YtjgnlnlngcjfcaaMf
namespace Go.Proofs.Ytjgnlnlngcjfcaa
open Go Go.RowKit
set_option linter.unusedVariables false
set_option linter.unusedSimpArgs false

theorem augS_get (a : List (List (List Int))) (b : List (List Int)) {i : Nat} (hi : i < a.length) : (augS a b).getD i [] = a.getD i [] ++ [b.getD i []] := tab_get _ hi
theorem augS_len (a : List (List (List Int))) (b : List (List Int)) : (augS a b).length = a.length := by simp [augS]
theorem solS_none {a : List (List (List Int))} {b : List (List Int)} (h : jorS a b = none) : solS a b = [] := by
  unfold solS; rw [h]; rfl
theorem solS_of {a : List (List (List Int))} {b : List (List Int)} {M : List (List (List Int))} (h : jorS a b = some M) : solS a b = M.map fun r => r.getD a.length [] := by
  unfold solS; rw [h]; rfl

theorem RowV.set {α : Type} {V : α → Prop} {d : α} {m k : Nat} {row : List α} {x : α} (h : RowV V d m row) (hx : V x) : RowV V d m (row.set k x) := by
  refine ⟨by rw [List.length_set]; exact h.len, fun j hj => ?_⟩
  by_cases hk : k < row.length
  · rw [getD_set _ _ _ _ _ hk]
    split
    · exact hx
    · exact h.val j hj
  · rw [List.set_eq_of_length_le (Nat.not_lt.1 hk)]; exact h.val j hj
theorem Sh.put {α : Type} {V : α → Prop} {d : α} {n m r k : Nat} {M : List (List α)} {x : α} (h : Sh V d n m M) (hr : r < n) (hx : V x) : Sh V d n m (M.set r ((M.getD r []).set k x)) := h.set hr ((h.row r hr).set hx)

section
variable {N n c k r : Nat} {X : List (List (List Int))}
/-- Row c, k entries divided. -/
def rowC (c k : Nat) (X : List (List (List Int))) : List (List (List Int)) := X.set c (mix k (rowQ sA c (X.getD c [])) (X.getD c []))
theorem rowC_zero (hc : c < X.length) : rowC c 0 X = X := by
  unfold rowC; rw [mix_zero, set_self_getD _ _ hc]
theorem rowC_x (h : Sh (Ser1 N) [] n (n + 1) X) (hc : c < n) (hk : k < n + 1) : ((rowC c k X).getD c []).getD k [] = (X.getD c []).getD k [] := by
  have hl := h.len
  have hr := (h.row c hc).len
  unfold rowC
  rw [getD_set _ _ _ _ _ (by omega), if_pos rfl, mix_ge [] (by simp) (Nat.le_refl _) (by omega)]
theorem rowC_step (h : Sh (Ser1 N) [] n (n + 1) X) (hc : c < n) (hk : k < n + 1) :
    (rowC c k X).set c (((rowC c k X).getD c []).set k (quoS (((rowC c k X).getD c []).getD k []) ((X.getD c []).getD c []))) = rowC c (k + 1) X := by
  have hl := h.len
  have hr := (h.row c hc).len
  rw [rowC_x h hc hk]
  unfold rowC
  rw [getD_set _ _ _ _ _ (by omega), if_pos rfl, List.set_set]
  congr 1
  have e := rowQ_get (R := sA) (c := c) (row := X.getD c []) (k := k) (by omega)
  have e' : quoS ((X.getD c []).getD k []) ((X.getD c []).getD c []) = (rowQ sA c (X.getD c [])).getD k [] := e.symm
  rw [e', mix_set [] (by simp) (by omega)]
theorem rowC_done {M : List (List (List Int))} {p : Nat} (h : Sh (Ser1 N) [] n (n + 1) (swapL M c p [])) (hc : c < n) (hk : n + 1 ≤ k) : rowC c k (swapL M c p []) = divJ sA c p M := by
  unfold rowC divJ
  have := (h.row c hc).len
  rw [mix_all (by simp) (by omega)]
/-- Row r, k entries done. -/
def rowE (c r k : Nat) (X : List (List (List Int))) : List (List (List Int)) := X.set r (mix k (rowT sA c (X.getD r []) (X.getD c [])) (X.getD r []))
theorem rowE_zero (hr : r < X.length) : rowE c r 0 X = X := by
  unfold rowE; rw [mix_zero, set_self_getD _ _ hr]
theorem rowE_x (hl : X.length = n) (hX : (X.getD r []).length = n + 1) (hr : r < n) (hk : k < n + 1) : ((rowE c r k X).getD r []).getD k [] = (X.getD r []).getD k [] := by
  unfold rowE
  rw [getD_set _ _ _ _ _ (by omega), if_pos rfl, mix_ge [] (by simp) (Nat.le_refl _) (by omega)]
theorem rowE_c (hl : X.length = n) (hr : r < n) (hne : r ≠ c) : (rowE c r k X).getD c [] = X.getD c [] := by
  unfold rowE
  rw [getD_set _ _ _ _ _ (by omega), if_neg (Ne.symm hne)]
theorem rowE_step (hl : X.length = n) (hX : (X.getD r []).length = n + 1) (hr : r < n) (hk : k < n + 1) (hne : r ≠ c) :
    (rowE c r k X).set r (((rowE c r k X).getD r []).set k (redS (((rowE c r k X).getD r []).getD k []) (proS ((X.getD r []).getD c []) (((rowE c r k X).getD c []).getD k [])))) = rowE c r (k + 1) X := by
  rw [rowE_x hl hX hr hk, rowE_c hl hr hne]
  unfold rowE
  rw [getD_set _ _ _ _ _ (by omega), if_pos rfl, List.set_set]
  congr 1
  have e := rowT_get (R := sA) (c := c) (row := X.getD r []) (other := X.getD c []) (k := k) (by omega)
  have e' : redS ((X.getD r []).getD k []) (proS ((X.getD r []).getD c []) ((X.getD c []).getD k [])) = (rowT sA c (X.getD r []) (X.getD c [])).getD k [] := e.symm
  rw [e', mix_set [] (by simp) (by omega)]
theorem rowE_done {D : List (List (List Int))} (hl : D.length = n) (hD : (D.getD r []).length = n + 1) (hr : r < n) (hc : c < n) (hne : r ≠ c) (hk : n + 1 ≤ k) : rowE c r k (mix r (rowsJ sA n c D) D) = mix (r + 1) (rowsJ sA n c D) D := by
  unfold rowE
  rw [rowsJ_at hl (by omega) hc, rowsJ_ge hl (Nat.le_refl _) hr]
  have e := mix_all (k := k) (t := rowT sA c (D.getD r []) (D.getD c [])) (z := D.getD r []) (by simp) (by omega)
  rw [e, rowsJ_next (R := sA) hl hr hne]
end
end Go.Proofs.Ytjgnlnlngcjfcaa
