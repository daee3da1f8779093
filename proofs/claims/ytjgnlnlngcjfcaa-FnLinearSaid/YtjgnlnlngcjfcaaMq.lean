/- Systems of series: coefficient by coefficient, and by elimination. No condition. -/
import Derived.Test.YtjgnlnlngcjfcaaMp
namespace Go.Proofs.Ytjgnlnlngcjfcaa
open Go Go.RowKit
set_option linter.unusedVariables false
set_option linter.unusedSimpArgs false

theorem gd_at {α : Type} {l : List α} {j : Nat} {d : α} (h : j < l.length) : l.getD j d = l[j] := by simp [h]
def okS (s : List Int) : Bool := (decide (((1 : Nat) : Int) ≤ ((s.length : Nat) : Int)) && decide (((s.length : Nat) : Int) ≤ ((13 : Nat) : Int))) && allN s
theorem okS_iff {s : List Int} : okS s = true ↔ (1 ≤ s.length ∧ s.length ≤ 13) ∧ allN s = true := by
  unfold okS
  simp only [Bool.and_eq_true, decide_eq_true_eq]
  constructor
  · rintro ⟨⟨h1, h2⟩, h3⟩; exact ⟨⟨by omega, by omega⟩, h3⟩
  · rintro ⟨⟨h1, h2⟩, h3⟩; exact ⟨⟨by omega, by omega⟩, h3⟩
def serB (N : Nat) (s : List Int) : Bool := okS s && decide (s.length = N)
def rowB (n N : Nat) (r : List (List Int)) : Bool := decide (r.length = n) && r.all (serB N)
/-- The form of a system of series. -/
def sysB (a : List (List (List Int))) (b : List (List Int)) : Bool :=
  decide (a.length ≤ 6) && decide (b.length = a.length) && a.all (rowB a.length (b.getD 0 []).length) && b.all (serB (b.getD 0 []).length)
structure SysP (a : List (List (List Int))) (b : List (List Int)) (N : Nat) : Prop where
  n6 : a.length ≤ 6
  bl : b.length = a.length
  row : ∀ r, r < a.length → (a.getD r []).length = a.length
  ser : ∀ r j, r < a.length → j < a.length → Ser1 N ((a.getD r []).getD j [])
  bser : ∀ r, r < a.length → Ser1 N (b.getD r [])
  n1 : 1 ≤ N
  n13 : N ≤ 13
theorem sys_of {a : List (List (List Int))} {b : List (List Int)} (h : sysB a b = true) : ∃ N, SysP a b N ∧ (0 < a.length → N = (b.getD 0 []).length) := by
  unfold sysB at h
  simp only [Bool.and_eq_true, decide_eq_true_eq, List.all_eq_true] at h
  obtain ⟨⟨⟨h1, h2⟩, h3⟩, h4⟩ := h
  have ser : ∀ {s N}, serB N s = true → Ser1 N s ∧ 1 ≤ N ∧ N ≤ 13 := by
    intro s N hs
    unfold serB at hs
    simp only [Bool.and_eq_true, decide_eq_true_eq] at hs
    have := okS_iff.1 hs.1
    exact ⟨⟨hs.2, this.2⟩, by omega, by omega⟩
  have gb : ∀ r, r < a.length → serB (b.getD 0 []).length (b.getD r []) = true := fun r hr => by
    have := h4 b[r] (List.getElem_mem (by omega))
    rwa [show b.getD r [] = b[r] from by simp [show r < b.length by omega]]
  have ga : ∀ r, r < a.length → rowB a.length (b.getD 0 []).length (a.getD r []) = true := fun r hr => by
    have := h3 a[r] (List.getElem_mem hr)
    rwa [show a.getD r [] = a[r] from by simp [hr]]
  have ga' : ∀ r, r < a.length → (a.getD r []).length = a.length ∧ ∀ j, j < a.length → serB (b.getD 0 []).length ((a.getD r []).getD j []) = true := fun r hr => by
    have := ga r hr
    unfold rowB at this
    simp only [Bool.and_eq_true, decide_eq_true_eq, List.all_eq_true] at this
    refine ⟨this.1, fun j hj => ?_⟩
    have h5 := this.2 (a.getD r [])[j] (List.getElem_mem (by omega))
    rwa [← gd_at (d := [])] at h5
  by_cases h0 : a.length = 0
  · exact ⟨1, ⟨h1, h2, fun r hr => by omega, fun r j hr => by omega, fun r hr => by omega, by omega, by omega⟩, fun hh => by omega⟩
  · have hN := ser (gb 0 (by omega))
    exact ⟨(b.getD 0 []).length, ⟨h1, h2, fun r hr => (ga' r hr).1, fun r j hr hj => (ser ((ga' r hr).2 j hj)).1, fun r hr => (ser (gb r hr)).1, hN.2.1, hN.2.2⟩, fun _ => rfl⟩
theorem SysP.sh {a : List (List (List Int))} {b : List (List Int)} {N : Nat} (h : SysP a b N) : Sh (Ser1 N) [] a.length (a.length + 1) (augS a b) := by
  refine ⟨by simp [augS], fun r hr => ?_⟩
  unfold augS
  rw [tab_get _ hr]
  have hl := h.row r hr
  refine ⟨by rw [List.length_append, hl]; rfl, fun k hk => ?_⟩
  by_cases e : k < a.length
  · rw [gd_left (by omega)]; exact h.ser r k hr e
  · rw [gd_right (by omega), show k - (a.getD r []).length = 0 from by omega]; exact h.bser r hr

/-- The coefficients of t^0. -/
def beg (y : List (List Int)) : List Int := y.map fun s => s.getD 0 0
def begA (a : List (List (List Int))) : List (List Int) := a.map beg
theorem beg_hom {N : Nat} (hN : 1 ≤ N) : Hom sA nA (Ser1 N) (fun s => s.getD 0 0) where
  q x y hx _ := by
    show (quoS x y).getD 0 0 = md (x.getD 0 0 * inv (y.getD 0 0))
    rw [quoS_at (by rw [hx.1]; omega)]; rfl
  t x y w hx hy _ := by
    show (redS x (proS y w)).getD 0 0 = md (x.getD 0 0 - md (y.getD 0 0 * w.getD 0 0))
    unfold redS
    rw [tab_get _ (by rw [hx.1]; omega)]
    unfold proS
    rw [tab_get _ (by rw [hy.1]; omega)]
    show md (x.getD 0 0 - md (0 + y.getD 0 0 * w.getD 0 0)) = _
    rw [Int.zero_add]
  z x _ := rfl
section
variable {a : List (List (List Int))} {b : List (List Int)} {N : Nat}
theorem beg_len (y : List (List Int)) : (beg y).length = y.length := by simp [beg]
theorem begA_len (a : List (List (List Int))) : (begA a).length = a.length := by simp [begA]
theorem begA_row (a : List (List (List Int))) (r : Nat) : (begA a).getD r [] = beg (a.getD r []) := mm_get (h := fun s : List Int => s.getD 0 0) (M := a) r
theorem SysP.sq (h : SysP a b N) : Sq a.length (begA a) := by
  have num : ∀ r, allN (beg (a.getD r [])) = true := by
    intro r
    by_cases hr : r < a.length
    · unfold allN beg
      rw [List.all_eq_true]
      intro x hx
      obtain ⟨s, hs, rfl⟩ := List.mem_map.1 hx
      obtain ⟨j, hj, rfl⟩ := List.getElem_of_mem hs
      have h1 := h.ser r j hr (by rw [← h.row r hr]; exact hj)
      rw [gd_at hj] at h1
      exact isN_iff.2 (allN_get h1.2 0)
    · rw [show a.getD r [] = [] from by simp [Nat.not_lt.1 hr]]; rfl
  exact ⟨begA_len a, fun r hr => by rw [begA_row, beg_len]; exact h.row r hr, fun r => by rw [begA_row]; exact num r⟩
theorem SysP.sq' (h : SysP a b N) : Sq (begA a).length (begA a) := by rw [begA_len]; exact h.sq
theorem SysP.bnum (h : SysP a b N) : allN (beg b) = true := by
  unfold allN beg
  rw [List.all_eq_true]
  intro x hx
  obtain ⟨s, hs, rfl⟩ := List.mem_map.1 hx
  obtain ⟨j, hj, rfl⟩ := List.getElem_of_mem hs
  have h1 := h.bser j (by rw [← h.bl]; exact hj)
  rw [show b.getD j [] = b[j] from by simp [hj]] at h1
  exact isN_iff.2 (allN_get h1.2 0)
theorem beg_aug (h : SysP a b N) : mm (fun s : List Int => s.getD 0 0) (augS a b) = augN (begA a) (beg b) := by
  refine map_ext2 (n := a.length) (by rw [mm_len]; simp [augS]) (by simp [augN, begA_len]) fun r hr => ?_
  rw [mm_get]
  unfold augS augN
  rw [tab_get _ hr, tab_get _ (by rw [begA_len]; exact hr), List.map_append, begA_row]
  congr 1
  have hb := h.bl
  show [(b.getD r []).getD 0 0] = [(beg b).getD r 0]
  unfold beg
  rw [map_getD (d := []) (by omega)]
/-- Pivots are there for the series just where they are for the numbers with which these begin. -/
theorem SysP.jor (h : SysP a b N) : jorS a b = none ↔ detM (begA a) = 0 := by
  rw [det_jorN (b := beg b) h.sq' h.bnum]
  have e := (beg_hom h.n1).jor (sA_V N) a.length 0 (augS a b) (by omega) (by omega) h.sh
  rw [beg_aug h] at e
  unfold jorN
  rw [begA_len, e]
  unfold jorS
  simp

/-- The sum of products of coefficients, as the reference adds them up. -/
def dotr (r y : List Int) (k : Nat) (s : Int) : Nat → Int
  | 0 => s
  | i + 1 => md (dotr r y k s i + r.getD i 0 * y.getD (k - i) 0)
def dotS (row x : List (List Int)) (k : Nat) : Nat → Int
  | 0 => 0
  | j + 1 => dotr (row.getD j []) (x.getD j []) k (dotS row x k j) (k + 1)
theorem dotr_num {r y : List Int} {k : Nat} {s : Int} (hs : 0 ≤ s ∧ s < 1000003) : ∀ i, 0 ≤ dotr r y k s i ∧ dotr r y k s i < 1000003
  | 0 => hs
  | i + 1 => md_num _
theorem dotS_num (row x : List (List Int)) (k : Nat) : ∀ j, 0 ≤ dotS row x k j ∧ dotS row x k j < 1000003
  | 0 => by unfold dotS; omega
  | j + 1 => dotr_num (dotS_num row x k j) _
theorem dotr_sm (r y : List Int) (k : Nat) (s : Int) : ∀ i, md (dotr r y k s i) = md (s + sm i fun j => r.getD j 0 * y.getD (k - j) 0)
  | 0 => by unfold dotr sm; rw [Int.add_zero]
  | i + 1 => by
    unfold dotr sm
    rw [md_md, ← md_addl, dotr_sm r y k s i, md_addl, Int.add_assoc]
theorem dotS_sm (row x : List (List Int)) (k : Nat) : ∀ j, md (dotS row x k j) = md (sm j fun i => cv (fnS (row.getD i [])) (fnS (x.getD i [])) k)
  | 0 => rfl
  | j + 1 => by
    unfold dotS sm
    rw [dotr_sm, ← md_addl, dotS_sm row x k j, md_addl, cv_sm]; rfl

/-- The right sides for the coefficient k. -/
def restS (a : List (List (List Int))) (b x : List (List Int)) (k : Nat) : List Int := tab a.length fun i => md ((b.getD i []).getD k 0 - dotS (a.getD i []) x k (a.getD i []).length)
theorem restS_len (a : List (List (List Int))) (b x : List (List Int)) (k : Nat) : (restS a b x k).length = a.length := by simp [restS]
theorem restS_num (a : List (List (List Int))) (b x : List (List Int)) (k : Nat) : allN (restS a b x k) = true := tab_num fun _ _ => md_num _
/-- The series of which k coefficients are known. -/
def xS (a : List (List (List Int))) (b : List (List Int)) (N : Nat) : Nat → List (List Int)
  | 0 => List.replicate a.length (List.replicate N 0)
  | k + 1 => tab a.length fun i => ((xS a b N k).getD i []).set k ((solN (begA a) (restS a b (xS a b N k) k)).getD i 0)
theorem xS_len (a : List (List (List Int))) (b : List (List Int)) (N : Nat) : ∀ k, (xS a b N k).length = a.length
  | 0 => by simp [xS]
  | k + 1 => by simp [xS]
theorem xS_row (a : List (List (List Int))) (b : List (List Int)) (N : Nat) {i : Nat} (hi : i < a.length) : ∀ k, ((xS a b N k).getD i []).length = N
  | 0 => by simp [xS, hi]
  | k + 1 => by
    unfold xS
    rw [tab_get _ hi, List.length_set]
    exact xS_row a b N hi k
theorem xS_next {i k : Nat} (hi : i < a.length) (hk : k < N) (j : Nat) : ((xS a b N (k + 1)).getD i []).getD j 0 = if j = k then (solN (begA a) (restS a b (xS a b N k) k)).getD i 0 else ((xS a b N k).getD i []).getD j 0 := by
  show ((tab a.length _).getD i []).getD j 0 = _
  rw [tab_get _ hi, getD_set _ _ _ _ _ (by rw [xS_row a b N hi]; exact hk)]
theorem xS_zero {i : Nat} (hi : i < a.length) : ∀ k j, k ≤ j → j < N → ((xS a b N k).getD i []).getD j 0 = 0
  | 0, j, _, hj => by simp [xS, hi, hj]
  | k + 1, j, hj, hN => by
    rw [xS_next hi (by omega), if_neg (by omega)]
    exact xS_zero hi k j (by omega) hN
theorem xS_old {i : Nat} (hi : i < a.length) : ∀ m k j, j < k → k ≤ m → m ≤ N → ((xS a b N m).getD i []).getD j 0 = ((xS a b N k).getD i []).getD j 0
  | 0, k, j, h1, h2, _ => by omega
  | m + 1, k, j, h1, h2, h3 => by
    by_cases e : k = m + 1
    · rw [e]
    · rw [xS_next hi (by omega), if_neg (by omega)]
      exact xS_old hi m k j h1 (by omega) (by omega)
theorem xS_num (h : SysP a b N) (hd : detM (begA a) ≠ 0) {i : Nat} (hi : i < a.length) : ∀ k, k ≤ N → ∀ j, 0 ≤ ((xS a b N k).getD i []).getD j 0 ∧ ((xS a b N k).getD i []).getD j 0 < 1000003
  | 0, _, j => by
    by_cases hj : j < N
    · rw [xS_zero hi 0 j (by omega) hj]; omega
    · have := xS_row a b N hi 0
      rw [show ((xS a b N 0).getD i []).getD j 0 = 0 from by rw [List.getD_eq_getElem?_getD, List.getElem?_eq_none (by omega)]; rfl]; omega
  | k + 1, hk, j => by
    rw [xS_next hi (by omega)]
    split
    · have hj : jorN (begA a) (restS a b (xS a b N k) k) ≠ none := fun hn => hd ((det_jorN h.sq' (restS_num _ _ _ _)).2 hn)
      exact allN_get (solN_num h.sq' (restS_num _ _ _ _) hj) i
    · exact xS_num h hd hi k (by omega) j
/-- What the reference finds solves the system. -/
theorem xS_solves (h : SysP a b N) (hd : detM (begA a) ≠ 0) : SolS N a.length (fun j => fnS ((xS a b N N).getD j [])) (augS a b) := by
  intro r hr k hk
  have hrl := h.row r hr
  have hS := h.sq'
  have hj : jorN (begA a) (restS a b (xS a b N k) k) ≠ none := fun hn => hd ((det_jorN hS (restS_num _ _ _ _)).2 hn)
  have hsol := solN_solves hS (by rw [restS_len, begA_len]) (restS_num a b (xS a b N k) k) hj (r := r) (by rw [begA_len]; exact hr)
  have eR : fnS (((augS a b).getD r []).getD a.length []) k = (b.getD r []).getD k 0 := by
    rw [augS_get a b hr, gd_right (by omega), show a.length - (a.getD r []).length = 0 from by omega]; rfl
  have eL : ∀ j, j < a.length → ((augS a b).getD r []).getD j [] = (a.getD r []).getD j [] := fun j hj => by rw [augS_get a b hr, gd_left (by omega)]
  have hb := allN_get (h.bser r hr).2 k
  rw [eR]
  unfold lhs
  -- each product: what is known before, and the new coefficient
  have split : ∀ j, j < a.length → cv (fnS ((a.getD r []).getD j [])) (fnS ((xS a b N N).getD j [])) k =
      cv (fnS ((a.getD r []).getD j [])) (fnS ((xS a b N k).getD j [])) k + ((begA a).getD r []).getD j 0 * (solN (begA a) (restS a b (xS a b N k) k)).getD j 0 := by
    intro j hj'
    have e0 : ((begA a).getD r []).getD j 0 = ((a.getD r []).getD j []).getD 0 0 := by
      rw [begA_row]; unfold beg; rw [map_getD (d := []) (by omega)]
    rw [e0, cv_sm, cv_sm, sm_head, sm_head]
    have x1 : fnS ((xS a b N N).getD j []) (k - 0) = (solN (begA a) (restS a b (xS a b N k) k)).getD j 0 := by
      show ((xS a b N N).getD j []).getD k 0 = _
      rw [xS_old hj' N (k + 1) k (by omega) (by omega) (Nat.le_refl _), xS_next hj' hk, if_pos rfl]
    have x2 : fnS ((xS a b N k).getD j []) (k - 0) = 0 := xS_zero hj' k k (Nat.le_refl _) hk
    have x3 : (sm k fun i => fnS ((a.getD r []).getD j []) (i + 1) * fnS ((xS a b N N).getD j []) (k - (i + 1))) = sm k fun i => fnS ((a.getD r []).getD j []) (i + 1) * fnS ((xS a b N k).getD j []) (k - (i + 1)) := by
      refine sm_congr fun i hi => ?_
      congr 1
      exact xS_old hj' N k (k - (i + 1)) (by omega) (by omega) (Nat.le_refl _)
    rw [x1, x2, x3, Int.mul_zero, Int.zero_add]
    show ((a.getD r []).getD j []).getD 0 0 * _ + _ = _
    omega
  have e1 : (sm a.length fun j => cv (fnS (((augS a b).getD r []).getD j [])) (fnS ((xS a b N N).getD j [])) k) =
      (sm a.length fun j => cv (fnS ((a.getD r []).getD j [])) (fnS ((xS a b N k).getD j [])) k) + sm a.length fun j => ((begA a).getD r []).getD j 0 * (solN (begA a) (restS a b (xS a b N k) k)).getD j 0 := by
    rw [← sm_add]
    exact sm_congr fun j hj' => by rw [eL j hj', split j hj']
  rw [e1]
  rw [begA_len] at hsol
  have hd1 := dotS_sm (a.getD r []) (xS a b N k) k a.length
  have er : (restS a b (xS a b N k) k).getD r 0 = md ((b.getD r []).getD k 0 - dotS (a.getD r []) (xS a b N k) k a.length) := by
    unfold restS
    rw [tab_get _ hr, hrl]
  rw [er] at hsol
  rw [← md_addr, hsol, md_addr, ← md_addl, ← hd1, md_addl]
  congr 1; omega
theorem solS_ser (h : SysP a b N) (hs : jorS a b ≠ none) : (solS a b).length = a.length ∧ ∀ r, r < a.length → Ser1 N ((solS a b).getD r []) := by
  obtain ⟨M, hM⟩ := Option.ne_none_iff_exists'.1 hs
  have hsh := Sh.jor (sA_V N) a.length 0 _ (by omega) (by omega) h.sh hM
  have hl := hsh.len
  rw [solS_of hM]
  refine ⟨by simp [hl], fun r hr => ?_⟩
  rw [map_getD (d := []) (by omega)]
  exact (hsh.row r hr).val a.length (by omega)
/-- Both solutions are the same. -/
theorem solS_xS (h : SysP a b N) (hd : detM (begA a) ≠ 0) : solS a b = xS a b N N := by
  have hs : jorS a b ≠ none := fun hn => hd (h.jor.1 hn)
  have h1 := (solS_iff (v := fun j => fnS ((xS a b N N).getD j [])) h.sh hs).1 (xS_solves h hd)
  obtain ⟨hl, hser⟩ := solS_ser h hs
  refine map_ext2 (n := a.length) hl (xS_len _ _ _ _) fun r hr => ?_
  refine leq_done (d := 0) (k := N) (fun k hk => ?_) (by rw [(hser r hr).1, xS_row a b N hr]) (by rw [(hser r hr).1]; omega)
  have h2 := h1 r hr k hk
  have h3 := allN_get (hser r hr).2 k
  have h4 := xS_num h hd hr N (Nat.le_refl _) k
  have h5 : md (((xS a b N N).getD r []).getD k 0) = md (((solS a b).getD r []).getD k 0) := h2
  rw [md_of h3.1 h3.2, md_of h4.1 h4.2] at h5
  exact h5.symm
end

/-! ### What both answer -/
def ssR (a : List (List (List Int))) (b : List (List Int)) : List (List Int) := if sysB a b = true ∧ detM (begA a) ≠ 0 then solS a b else []
def ssC (a : List (List (List Int))) (b : List (List Int)) : Int := if sysB a b then (if detM (begA a) = 0 then 6 else 0) else 1
theorem ssC_rng (a : List (List (List Int))) (b : List (List Int)) : -9223372036854775808 ≤ ssC a b ∧ ssC a b ≤ 9223372036854775807 := by
  unfold ssC; split <;> (try split) <;> omega
theorem ss_bad {a : List (List (List Int))} {b : List (List Int)} (h : sysB a b = false) : ssR a b = [] ∧ ssC a b = 1 := by simp [ssR, ssC, h]
theorem ss_zero {a : List (List (List Int))} {b : List (List Int)} (h : sysB a b = true) (hd : detM (begA a) = 0) : ssR a b = [] ∧ ssC a b = 6 := by simp [ssR, ssC, h, hd]
theorem ss_good {a : List (List (List Int))} {b : List (List Int)} (h : sysB a b = true) (hd : detM (begA a) ≠ 0) : ssR a b = solS a b ∧ ssC a b = 0 := by simp [ssR, ssC, h, hd]
theorem ssR_tot (a : List (List (List Int))) (b : List (List Int)) : tot (ssR a b) (ssR a b).length ≤ 78 := by
  unfold ssR
  split
  · rename_i h
    obtain ⟨N, hP, _⟩ := sys_of h.1
    have h6 := hP.n6
    have h13 := hP.n13
    obtain ⟨hl, hser⟩ := solS_ser hP (fun hn => h.2 (hP.jor.1 hn))
    have h1 : ∀ k, ((solS a b).getD k []).length ≤ 13 := by
      intro k
      by_cases hk : k < a.length
      · rw [(hser k hk).1]; exact h13
      · rw [show (solS a b).getD k [] = [] from by simp [hl, Nat.not_lt.1 hk]]; simp
    have h2 := tot_le h1 _ (Nat.le_refl _)
    omega
  · decide

/-! ### Steps -/
theorem xS_set {a : List (List (List Int))} {b : List (List Int)} {N i k : Nat} (hi : i < a.length) :
    (mix i (xS a b N (k + 1)) (xS a b N k)).set i (((mix i (xS a b N (k + 1)) (xS a b N k)).getD i []).set k ((solN (begA a) (restS a b (xS a b N k) k)).getD i 0)) = mix (i + 1) (xS a b N (k + 1)) (xS a b N k) := by
  rw [mix_ge [] (by simp [xS_len]) (Nat.le_refl _) (by rw [xS_len]; exact hi)]
  exact (mix_tab (f := fun i => ((xS a b N k).getD i []).set k ((solN (begA a) (restS a b (xS a b N k) k)).getD i 0)) (xS_len a b N k) hi).symm
theorem xS_mlen (a : List (List (List Int))) (b : List (List Int)) (N i k : Nat) : (mix i (xS a b N (k + 1)) (xS a b N k)).length = a.length := by
  rw [mix_len _ _ _ (by simp [xS_len])]; exact xS_len _ _ _ _
theorem xS_mrow {a : List (List (List Int))} {b : List (List Int)} {N i k : Nat} (hi : i < a.length) : ((mix i (xS a b N (k + 1)) (xS a b N k)).getD i []).length = N := by
  rw [mix_ge [] (by simp [xS_len]) (Nat.le_refl _) (by rw [xS_len]; exact hi)]; exact xS_row a b N hi k
theorem cst0 {K N : Nat} (h : K = N) : (List.replicate K (0 : Int)).set 0 ((0 : Nat) : Int) = List.replicate N 0 := by
  subst h
  cases K with
  | zero => rfl
  | succ K => rfl
theorem xS_nil {a : List (List (List Int))} {b : List (List Int)} {N k : Nat} (h : a.length = 0) : xS a b N k = [] := List.eq_nil_of_length_eq_zero (by rw [xS_len]; exact h)
def argB (xs : List (List Int)) : Bool := xs.all (serB (xs.getD 0 []).length)
theorem all_flat {α : Type} (f : α → Bool) : ∀ (a : List (List α)), a.flatten.all f = a.all fun r => r.all f
  | [] => rfl
  | r :: rs => by rw [List.flatten_cons, List.all_append, all_flat f rs, List.all_cons]
theorem sys_eq {a : List (List (List Int))} {b : List (List Int)} (h1 : a.length ≤ 6) (h2 : b.length = a.length) (h3 : (a.all fun r => decide (r.length = a.length)) = true) : sysB a b = argB (b ++ a.flatten) := by
  unfold sysB argB
  rw [decide_eq_true h1, decide_eq_true h2, Bool.true_and, Bool.true_and, List.all_append, all_flat]
  have hN : ((b ++ a.flatten).getD 0 []).length = (b.getD 0 []).length := by
    by_cases h0 : 0 < b.length
    · rw [gd_left h0]
    · have hb : b = [] := List.eq_nil_of_length_eq_zero (by omega)
      have ha : a = [] := List.eq_nil_of_length_eq_zero (by omega)
      subst hb; subst ha; rfl
  rw [hN, Bool.and_comm]
  congr 1
  have e : ∀ r ∈ a, rowB a.length (b.getD 0 []).length r = r.all (serB (b.getD 0 []).length) := by
    intro r hr
    have := List.all_eq_true.1 h3 r hr
    unfold rowB
    rw [this, Bool.true_and]
  rw [Bool.eq_iff_iff, List.all_eq_true, List.all_eq_true]
  exact ⟨fun h r hr => by rw [← e r hr]; exact h r hr, fun h r hr => by rw [e r hr]; exact h r hr⟩
theorem sys_row {a : List (List (List Int))} {b : List (List Int)} {k : Nat} (hk : k < a.length) (h : (a.getD k []).length ≠ a.length) : sysB a b = false := by
  cases hs : sysB a b with
  | false => rfl
  | true =>
    obtain ⟨N, hP, _⟩ := sys_of hs
    exact absurd (hP.row k hk) h
theorem sys_len {a : List (List (List Int))} {b : List (List Int)} (h : b.length ≠ a.length) : sysB a b = false := by
  cases hs : sysB a b with
  | false => rfl
  | true =>
    obtain ⟨N, hP, _⟩ := sys_of hs
    exact absurd hP.bl h
theorem sys_big {a : List (List (List Int))} {b : List (List Int)} (h : ¬ a.length ≤ 6) : sysB a b = false := by
  cases hs : sysB a b with
  | false => rfl
  | true =>
    obtain ⟨N, hP, _⟩ := sys_of hs
    exact absurd hP.n6 h
theorem jor_some {a : List (List (List Int))} {b : List (List Int)} {N : Nat} (h : SysP a b N) : (jorS a b).isSome = !decide (detM (begA a) = 0) := by
  have hj := h.jor
  by_cases hd : detM (begA a) = 0
  · rw [hj.2 hd]; simp [hd]
  · obtain ⟨M, hM⟩ := Option.ne_none_iff_exists'.1 (fun hn => hd (hj.1 hn))
    rw [hM]; simp [hd]
/-- Headers that read, in the call's first memory, as series. -/
structure HdL (H : Array Obj) (us : List Value) (xs : List (List Int)) : Prop where
  len : us.length = xs.length
  rd : ∀ j, j < xs.length → Rd (rdL rI) H (us.getD j undef) (xs.getD j [])
theorem HdL.app {H : Array Obj} {us vs : List Value} {xs ys : List (List Int)} (h : HdL H us xs) (hl : vs.length = ys.length) (hr : ∀ j, j < ys.length → Rd (rdL rI) H (vs.getD j undef) (ys.getD j [])) : HdL H (us ++ vs) (xs ++ ys) := by
  refine ⟨by simp [h.len, hl], fun j hj => ?_⟩
  have hl0 := h.len
  by_cases e : j < xs.length
  · rw [gd_left (by omega), gd_left e]; exact h.rd j e
  · rw [gd_right (by omega), gd_right (by omega), hl0]
    exact hr _ (by simp at hj; omega)
theorem els_rd {α : Type} {E : Stand α} {H : Array Obj} (d : α) : ∀ {us : List Value} {xs : List α}, us.length = xs.length → (∀ j, j < xs.length → Rd E H (us.getD j undef) (xs.getD j d)) → ∃ F, els E H us xs F
  | [], [], _, _ => ⟨[], rfl⟩
  | u :: us, x :: xs, hl, h => by
    obtain ⟨F1, h1⟩ := h 0 (by simp)
    obtain ⟨F2, h2⟩ := els_rd (us := us) (xs := xs) d (by simpa using hl) (fun j hj => by simpa using h (j + 1) (by simpa using hj))
    exact ⟨F1 ++ F2, F1, F2, rfl, h1, h2⟩
  | [], _ :: _, hl, _ => by simp at hl
  | _ :: _, [], hl, _ => by simp at hl
theorem HdL.lift {e : TypeId} {B U : Nat} {w w' : World} {v : Value} {us : List Value} {xs : List (List Int)} (h : HdL w.heap us xs) (hv : Fr (owL rV e) B U w'.heap v us) (k : Ext w w') : Rd (rdL (rdL rI)) w'.heap v xs := by
  obtain ⟨F, h1, _, _⟩ := hv
  have hl := h.len
  obtain ⟨F2, h2⟩ := els_rd (E := rdL rI) (H := w'.heap) ([] : List Int) hl fun j hj => (h.rd j hj).ext g1 k
  rcases h1 with ⟨rfl, rfl, rfl⟩ | ⟨us', g, cap, cur, F', hels, rfl, hg, r1, r2, r3, r4, rfl⟩
  · have : xs = [] := List.eq_nil_of_length_eq_zero (by simpa using hl.symm)
    subst this
    exact rdNil _
  · have hus : us' = us := by
      have : ∀ {us' us : List Value} {F : List Nat}, els rV w'.heap us' us F → us' = us := by
        intro us'
        induction us' with
        | nil => intro us F h; cases us with
          | nil => rfl
          | cons => exact h.elim
        | cons u us' ih =>
          intro us F h
          cases us with
          | nil => exact h.elim
          | cons x us => obtain ⟨A, C, rfl, p1, p2⟩ := h; rw [p1.1, ih p2]
      exact this hels
    subst hus
    exact ⟨_, .inr ⟨us', g, 0, cap, cur, e, (0, 0), F2, h2, by rw [hl], hg, by rw [← hl]; simpa using r4, by omega, rfl⟩⟩
end Go.Proofs.Ytjgnlnlngcjfcaa
