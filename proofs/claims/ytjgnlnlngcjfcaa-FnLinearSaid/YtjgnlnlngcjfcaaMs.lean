/- What the law of statement 5 draws: matrices of series that begin with given numbers. No condition. -/
import Derived.Test.YtjgnlnlngcjfcaaMr
namespace Go.Proofs.Ytjgnlnlngcjfcaa
open Go Go.RowKit
set_option linter.unusedVariables false
set_option linter.unusedSimpArgs false

theorem gsn {α : Type} (l : List α) (x : α) (r : Nat) (d : α) : (l ++ [x]).getD r d = if r = l.length then x else l.getD r d := by
  by_cases h : r < l.length
  · rw [gd_left h, if_neg (by omega)]
  · by_cases e : r = l.length
    · subst e; simp
    · rw [if_neg e]; simp [List.getElem?_eq_none (show (l ++ [x]).length ≤ r by simp; omega), List.getElem?_eq_none (show l.length ≤ r by omega)]
theorem SysP.is {a : List (List (List Int))} {b : List (List Int)} {N : Nat} (h : SysP a b N) (h0 : 0 < a.length) : sysB a b = true := by
  have hN : (b.getD 0 []).length = N := (h.bser 0 h0).1
  have sb : ∀ s, Ser1 N s → serB N s = true := fun s hs => by
    have := h.n1; have := h.n13; have := hs.1
    unfold serB; simp only [Bool.and_eq_true, decide_eq_true_eq]
    exact ⟨okS_iff.2 ⟨by omega, hs.2⟩, hs.1⟩
  have bl := h.bl
  unfold sysB
  simp only [Bool.and_eq_true, decide_eq_true_eq, List.all_eq_true, hN]
  refine ⟨⟨⟨h.n6, h.bl⟩, fun r hr => ?_⟩, fun s hs => ?_⟩
  · obtain ⟨i, hi, rfl⟩ := List.mem_iff_getElem.1 hr
    rw [← gd_at (d := []) hi]
    unfold rowB; simp only [Bool.and_eq_true, decide_eq_true_eq, List.all_eq_true]
    refine ⟨h.row i hi, fun s hs => ?_⟩
    obtain ⟨j, hj, rfl⟩ := List.mem_iff_getElem.1 hs
    rw [← gd_at (d := []) hj]
    exact sb _ (h.ser i j hi (by have := h.row i hi; omega))
  · obtain ⟨i, hi, rfl⟩ := List.mem_iff_getElem.1 hs
    rw [← gd_at (d := []) hi]
    exact sb _ (h.bser i (by omega))

/-- A row of series so far. -/
structure Drw (F : List (List Int)) (i N k : Nat) (R : List (List Int)) : Prop where
  len : R.length = k
  at' : ∀ j, j < k → Ser1 N (R.getD j []) ∧ (R.getD j []).getD 0 0 = (F.getD i []).getD j 0
/-- Both sides so far. -/
structure Dr (F : List (List Int)) (b : List Int) (n N i : Nat) (A : List (List (List Int))) (B : List (List Int)) : Prop where
  la : A.length = i
  lb : B.length = i
  row : ∀ r, r < i → Drw F r N n (A.getD r [])
  br : ∀ r, r < i → Ser1 N (B.getD r []) ∧ (B.getD r []).getD 0 0 = b.getD r 0
section
variable {F : List (List Int)} {b : List Int} {n N i k : Nat} {A : List (List (List Int))} {B R : List (List Int)} {s : List Int}
theorem Drw.nil (F : List (List Int)) (i N : Nat) : Drw F i N 0 [] := ⟨rfl, fun j hj => by omega⟩
theorem Drw.snoc (h : Drw F i N k R) (hs : Ser1 N s ∧ s.getD 0 0 = (F.getD i []).getD k 0) : Drw F i N (k + 1) (R ++ [s]) := by
  refine ⟨by simp [h.len], fun j hj => ?_⟩
  rw [gsn, h.len]; split
  · rename_i e; rw [e]; exact hs
  · exact h.at' j (by omega)
theorem Dr.nil (F : List (List Int)) (b : List Int) (n N : Nat) : Dr F b n N 0 [] [] := ⟨rfl, rfl, fun r hr => by omega, fun r hr => by omega⟩
theorem Dr.snoc (h : Dr F b n N i A B) (hR : Drw F i N n R) (hs : Ser1 N s ∧ s.getD 0 0 = b.getD i 0) : Dr F b n N (i + 1) (A ++ [R]) (B ++ [s]) := by
  refine ⟨by simp [h.la], by simp [h.lb], fun r hr => ?_, fun r hr => ?_⟩
  · rw [gsn, h.la]; split
    · rename_i e; rw [e]; exact hR
    · exact h.row r (by omega)
  · rw [gsn, h.lb]; split
    · rename_i e; rw [e]; exact hs
    · exact h.br r (by omega)
theorem Dr.sys (h : Dr F b n N n A B) (hN : 1 ≤ N ∧ N ≤ 13) (hn : n ≤ 6) : SysP A B N :=
  have la := h.la
  have lb := h.lb
  ⟨by omega, by omega, fun r hr => by have := (h.row r (by omega)).len; omega, fun r j hr hj => ((h.row r (by omega)).at' j (by omega)).1, fun r hr => (h.br r (by omega)).1, hN.1, hN.2⟩
theorem Dr.beg (h : Dr F b n N n A B) (hb : b.length = n) : beg B = b := by
  have lb := h.lb
  refine leq_done (d := 0) (k := n) (fun j hj => ?_) (by rw [beg_len]; omega) (by rw [beg_len]; omega)
  unfold Go.Proofs.Ytjgnlnlngcjfcaa.beg
  rw [map_getD (d := []) (by omega)]
  exact (h.br j hj).2
theorem Dr.begA (h : Dr F b n N n A B) (hF : Sq n F) : begA A = F := by
  have la := h.la
  have lf := hF.len
  refine leq_done (d := []) (k := n) (fun r hr => ?_) (by rw [begA_len]; omega) (by rw [begA_len]; omega)
  have hrow := h.row r hr
  have hl := hrow.len
  have hl2 := hF.row r hr
  rw [begA_row]
  refine leq_done (d := 0) (k := n) (fun j hj => ?_) (by rw [beg_len]; omega) (by rw [beg_len]; omega)
  unfold Go.Proofs.Ytjgnlnlngcjfcaa.beg
  rw [map_getD (d := []) (by omega)]
  exact (hrow.at' j hj).2
end
theorem sqB_is {a : List (List Int)} (h : Sq a.length a) (h6 : a.length ≤ 6) : sqB a = true := by
  unfold sqB
  simp only [Bool.and_eq_true, decide_eq_true_eq, List.all_eq_true]
  refine ⟨h6, fun r hr => ?_⟩
  obtain ⟨i, hi, rfl⟩ := List.mem_iff_getElem.1 hr
  have e : a.getD i [] = a[i] := gd_at (d := []) hi
  rw [← e]
  exact ⟨h.row i hi, h.num i⟩
theorem Dr.codes {F : List (List Int)} {b : List Int} {n N : Nat} {A : List (List (List Int))} {B : List (List Int)} (h : Dr F b n N n A B) (hF : Sq n F) (hb : b.length = n) (hnb : allN b = true) (hN : 1 ≤ N ∧ N ≤ 13) (hn : 1 ≤ n ∧ n ≤ 5) :
    ssC A B = slC F b ∧ (slC F b = 0 → SysP A B N ∧ detM (Go.Proofs.Ytjgnlnlngcjfcaa.begA A) ≠ 0 ∧ ssR A B = solS A B ∧ slR F b = Go.Proofs.Ytjgnlnlngcjfcaa.beg (solS A B) ∧ (solS A B).length = A.length ∧ ∀ r, r < A.length → Ser1 N ((solS A B).getD r [])) := by
  have hs := h.sys hN (by omega)
  have la := h.la
  have lf := hF.len
  have hq := hs.is (by omega)
  have eF := h.begA hF
  have eb := h.beg hb
  have hok : slOk F b = true := by
    unfold slOk
    simp only [Bool.and_eq_true, decide_eq_true_eq]
    exact ⟨sqB_is (by rw [lf]; exact hF) (by omega), by omega, hnb⟩
  have ec : ssC A B = slC F b := by
    unfold ssC slC
    rw [hq, hok, eF]
  refine ⟨ec, fun h0 => ?_⟩
  have hd : detM (Go.Proofs.Ytjgnlnlngcjfcaa.begA A) ≠ 0 := by
    rw [eF]
    intro hz
    rw [(sl_zero hok hz).2] at h0
    omega
  have hj : jorS A B ≠ none := fun hh => hd (hs.jor.1 hh)
  refine ⟨hs, hd, (ss_good hq hd).1, ?_, (solS_ser hs hj).1, (solS_ser hs hj).2⟩
  rw [col_sol hs hd, eF, eb, (sl_good hok (by rw [← eF]; exact hd)).1]
/-- A drawn series with its first coefficient put in place. -/
theorem ser_begin {x : List Int} {y f : Int} {N : Nat} (hl : x.length = N) (hN : 1 ≤ N) (hf : 0 ≤ f ∧ f < 1000003) : Ser1 N ((scl x y).set 0 f) ∧ ((scl x y).set 0 f).getD 0 0 = f := by
  refine ⟨⟨by rw [List.length_set, scl_len]; exact hl, ?_⟩, ?_⟩
  · unfold allN
    rw [List.all_eq_true]
    intro z hz
    rcases List.mem_or_eq_of_mem_set hz with h | h
    · exact List.all_eq_true.1 (scl_num x y) z h
    · rw [h]; exact isN_iff.2 hf
  · have h0 : 0 < (scl x y).length := by rw [scl_len]; omega
    rw [gd_at (by rw [List.length_set]; exact h0), List.getElem_set_self]
theorem scl_zero {x : List Int} {N : Nat} (hl : x.length = N) : scl x 0 = List.replicate N 0 := by
  subst hl
  refine leq_done (d := 0) (k := x.length) (fun j hj => ?_) (by rw [scl_len]; simp) (by rw [scl_len]; omega)
  unfold scl
  rw [map_getD (d := 0) hj]
  simp [hj, md]
theorem addS_addL {a b : List Int} (h : b.length = a.length) : addS a b = addL a b := by
  unfold addS addL
  rw [h, Nat.min_self]
end Go.Proofs.Ytjgnlnlngcjfcaa
