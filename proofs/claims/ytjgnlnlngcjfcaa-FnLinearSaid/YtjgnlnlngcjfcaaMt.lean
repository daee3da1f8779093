/- Determinants by expansion along the first column, their laws, and their tie to elimination. No condition. -/
import Derived.Test.YtjgnlnlngcjfcaaMs
import Derived.Test.YtjgnlnlngcjfcaaMi
namespace Go.Proofs.Ytjgnlnlngcjfcaa
open Go Go.RowKit
set_option linter.unusedVariables false
set_option linter.unusedSimpArgs false

theorem sm_zero {f : Nat → Int} : ∀ {n : Nat}, (∀ i, i < n → f i = 0) → sm n f = 0
  | 0, _ => rfl
  | n + 1, h => by unfold sm; rw [sm_zero (n := n) fun i hi => h i (by omega), h n (by omega)]; rfl
theorem sm_two {f : Nat → Int} {r : Nat} (h2 : f r + f (r + 1) = 0) : ∀ {n : Nat}, r + 1 < n → (∀ i, i < n → i ≠ r → i ≠ r + 1 → f i = 0) → sm n f = 0
  | 0, h, _ => by omega
  | n + 1, h, hz => by
    by_cases e : n = r + 1
    · subst e
      show sm r f + f r + f (r + 1) = 0
      rw [sm_zero (n := r) fun i hi => hz i (by omega) (by omega) (by omega)]
      omega
    · unfold sm
      rw [sm_two h2 (n := n) (by omega) fun i hi => hz i (by omega), hz n (by omega) (by omega) (by omega)]; rfl

/-- Without row i and the first column. -/
def mnr (A : Nat → Nat → Int) (i : Nat) : Nat → Nat → Int := fun r k => A (if r < i then r else r + 1) (k + 1)
def sg (i : Nat) : Int := if i % 2 = 0 then 1 else -1
/-- The determinant, by its first column. -/
def dt : Nat → (Nat → Nat → Int) → Int
  | 0, _ => 1
  | n + 1, A => sm (n + 1) fun i => sg i * A i 0 * dt n (mnr A i)
/-- A row put in. -/
def stR (A : Nat → Nat → Int) (r : Nat) (u : Nat → Int) : Nat → Nat → Int := fun i k => if i = r then u k else A i k
/-- Two rows exchanged. -/
def swR (A : Nat → Nat → Int) (r s : Nat) : Nat → Nat → Int := fun i k => if i = r then A s k else if i = s then A r k else A i k

theorem stR_self (A : Nat → Nat → Int) (r : Nat) : stR A r (fun k => A r k) = A := by
  funext i k; unfold stR; split
  · rename_i h; rw [h]
  · rfl
theorem stR_comm (A : Nat → Nat → Int) {r s : Nat} (h : r ≠ s) (u v : Nat → Int) : stR (stR A r u) s v = stR (stR A s v) r u := by
  funext i k; unfold stR
  by_cases h1 : i = s
  · rw [if_pos h1, if_neg (by omega), if_pos h1]
  · rw [if_neg h1, if_neg h1]
theorem sg_succ (i : Nat) : sg (i + 1) = - sg i := by
  unfold sg
  by_cases h : i % 2 = 0
  · rw [if_pos h, if_neg (by omega)]
  · rw [if_neg h, if_pos (by omega)]; rfl

theorem dt_lin : ∀ (n : Nat) (A : Nat → Nat → Int) (r : Nat) (u v : Nat → Int) (y : Int), r < n → dt n (stR A r fun k => u k + y * v k) = dt n (stR A r u) + y * dt n (stR A r v)
  | 0, _, _, _, _, _, h => by omega
  | n + 1, A, r, u, v, y, h => by
    unfold dt
    rw [← sm_mul, ← sm_add]
    refine sm_congr fun i hi => ?_
    by_cases e : i = r
    · subst e
      have m : ∀ w : Nat → Int, mnr (stR A i w) i = mnr A i := fun w => by
        funext s k; unfold mnr stR
        rw [if_neg (by split <;> omega)]
      have m2 : ∀ w : Nat → Int, stR A i w i 0 = w 0 := fun w => by unfold stR; rw [if_pos rfl]
      rw [m, m, m, m2, m2, m2, Int.mul_add, Int.add_mul]
      congr 1
      rw [← Int.mul_assoc, Int.mul_comm (sg i) y, Int.mul_assoc y, Int.mul_assoc y]
    · have m : ∀ w : Nat → Int, mnr (stR A r w) i = stR (mnr A i) (if r < i then r else r - 1) (fun k => w (k + 1)) := fun w => by
        funext s k; unfold mnr stR
        by_cases h1 : s < i
        · rw [if_pos h1]
          by_cases h2 : s = r
          · rw [if_pos h2, if_pos (by split <;> omega)]
          · rw [if_neg h2, if_neg (by split <;> omega)]; dsimp only; rw [if_pos h1]
        · rw [if_neg h1]
          by_cases h2 : s + 1 = r
          · rw [if_pos h2, if_pos (by split <;> omega)]
          · rw [if_neg h2, if_neg (by split <;> omega)]; dsimp only; rw [if_neg h1]
      have m2 : ∀ w : Nat → Int, stR A r w i 0 = A i 0 := fun w => by unfold stR; rw [if_neg e]
      rw [m, m, m, m2, m2, m2, dt_lin n (mnr A i) _ (fun k => u (k + 1)) (fun k => v (k + 1)) y (by split <;> omega), Int.mul_add]
      congr 1
      rw [← Int.mul_assoc, Int.mul_comm (sg i * A i 0) y, Int.mul_assoc y]
theorem dt_adj : ∀ (n : Nat) (A : Nat → Nat → Int) (r : Nat), r + 1 < n → (∀ k, A r k = A (r + 1) k) → dt n A = 0
  | 0, _, _, h, _ => by omega
  | n + 1, A, r, h, he => by
    unfold dt
    refine sm_two (r := r) ?_ h fun i hi h1 h2 => ?_
    · have m : mnr A (r + 1) = mnr A r := by
        funext s k; unfold mnr
        by_cases e : s = r
        · subst e; rw [if_pos (by omega), if_neg (by omega)]; exact he _
        · by_cases e2 : s < r
          · rw [if_pos (by omega), if_pos e2]
          · rw [if_neg (by omega), if_neg e2]
      rw [m, ← he 0, sg_succ, Int.neg_mul, Int.neg_mul]
      omega
    · rw [dt_adj n (mnr A i) (if r + 1 < i then r else r - 1) (by split <;> omega) fun k => ?_, Int.mul_zero]
      unfold mnr
      by_cases e : r + 1 < i
      · rw [if_pos e, if_pos (by omega), if_pos e]; exact he _
      · rw [if_neg e, if_neg (by omega), if_neg (by omega), show r - 1 + 1 = r from by omega]; exact he _
theorem swap_of {n : Nat} {F : (Nat → Nat → Int) → Int} (lin : ∀ A r u v y, r < n → F (stR A r fun k => u k + y * v k) = F (stR A r u) + y * F (stR A r v)) {r s : Nat} (hr : r < n) (hs : s < n) (hrs : r ≠ s)
    (h0 : ∀ A, (∀ k, A r k = A s k) → F A = 0) (A : Nat → Nat → Int) : F (swR A r s) = - F A := by
  have z : ∀ w : Nat → Int, F (stR (stR A r w) s w) = 0 := fun w => h0 _ fun k => by
    unfold stR; rw [if_neg hrs, if_pos rfl, if_pos rfl]
  have h1 := z fun k => A r k + 1 * A s k
  rw [lin _ _ _ _ _ hs, stR_comm _ hrs, lin _ _ _ _ _ hr, stR_comm _ hrs, lin _ _ _ _ _ hr] at h1
  rw [stR_comm _ hrs.symm, z, stR_comm _ hrs.symm, stR_comm _ hrs.symm, stR_comm _ hrs.symm, z] at h1
  have e1 : stR (stR A r fun k => A r k) s (fun k => A s k) = A := by rw [stR_self, stR_self]
  have e2 : stR (stR A r fun k => A s k) s (fun k => A r k) = swR A r s := by
    funext i k; unfold stR swR
    by_cases q : i = r
    · rw [if_neg (by omega), if_pos q, if_pos q]
    · rw [if_neg q, if_neg q]
  rw [e1, e2] at h1
  omega
theorem dt_eq : ∀ (d n : Nat) (A : Nat → Nat → Int) (r : Nat), r + (d + 1) < n → (∀ k, A r k = A (r + (d + 1)) k) → dt n A = 0
  | 0, n, A, r, h, he => dt_adj n A r h he
  | d + 1, n, A, r, h, he => by
    have h1 := swap_of (F := dt n) (r := r + (d + 1)) (s := r + (d + 1) + 1) (dt_lin n) (by omega) (by omega) (by omega) (fun B hB => dt_adj n B _ (by omega) hB) A
    have h2 := dt_eq d n (swR A (r + (d + 1)) (r + (d + 1) + 1)) r (by omega) fun k => by
      unfold swR
      rw [if_neg (by omega), if_neg (by omega), if_pos rfl]; exact he k
    omega
theorem dt_md : ∀ (n : Nat) (A B : Nat → Nat → Int), (∀ r k, r < n → k < n → md (A r k) = md (B r k)) → md (dt n A) = md (dt n B)
  | 0, _, _, _ => rfl
  | n + 1, A, B, h => by
    unfold dt
    refine sm_md fun i hi => ?_
    have e1 : md (dt n (mnr A i)) = md (dt n (mnr B i)) := dt_md n _ _ fun r k hr hk => h _ _ (by split <;> omega) (by omega)
    rw [← md_mul, ← md_mul (sg i) (A i 0), h i 0 hi (by omega), md_mul (sg i) (B i 0), e1, md_mul]

/-- Alternating and linear in each row, modulo the prime. -/
structure Alt (n : Nat) (F : (Nat → Nat → Int) → Int) : Prop where
  lin : ∀ A r u v y, r < n → F (stR A r fun k => u k + y * v k) = F (stR A r u) + y * F (stR A r v)
  eq : ∀ A r s, r < n → s < n → r ≠ s → (∀ k, A r k = A s k) → F A = 0
  cg : ∀ A B, (∀ r k, r < n → k < n → md (A r k) = md (B r k)) → md (F A) = md (F B)

theorem dt_alt (n : Nat) : Alt n (dt n) :=
  ⟨fun A r u v y h => dt_lin n A r u v y h, fun A r s hr hs hrs he => by
    by_cases h : r < s
    · exact dt_eq (s - r - 1) n A r (by omega) fun k => by rw [show r + (s - r - 1 + 1) = s from by omega]; exact he k
    · exact dt_eq (r - s - 1) n A s (by omega) fun k => by rw [show s + (r - s - 1 + 1) = r from by omega]; exact (he k).symm, dt_md n⟩

section alt
variable {n : Nat} {F : (Nat → Nat → Int) → Int} (hF : Alt n F)
include hF
theorem Alt.swap {r s : Nat} (hr : r < n) (hs : s < n) (hrs : r ≠ s) (A : Nat → Nat → Int) : F (swR A r s) = - F A :=
  swap_of hF.lin hr hs hrs (fun B hB => hF.eq B r s hr hs hrs hB) A
theorem Alt.scale {r : Nat} (hr : r < n) (y : Int) (A : Nat → Nat → Int) : F (stR A r fun k => y * A r k) = y * F A := by
  have h1 := hF.lin A r (fun _ => 0) (fun _ => 0) 1 hr
  have e1 : (fun k : Nat => (0 : Int) + 1 * 0) = fun _ => 0 := funext fun _ => rfl
  rw [e1] at h1
  have h2 := hF.lin A r (fun _ => 0) (fun k => A r k) y hr
  have e2 : (fun k : Nat => (0 : Int) + y * A r k) = fun k => y * A r k := funext fun _ => by rw [Int.zero_add]
  rw [e2, stR_self] at h2
  omega
theorem Alt.add {r s : Nat} (hr : r < n) (hs : s < n) (hrs : r ≠ s) (y : Int) (A : Nat → Nat → Int) : F (stR A r fun k => A r k + y * A s k) = F A := by
  rw [hF.lin _ _ _ _ _ hr, stR_self, hF.eq (stR A r fun k => A s k) r s hr hs hrs (fun k => by unfold stR; rw [if_pos rfl, if_neg hrs.symm]), Int.mul_zero, Int.add_zero]
theorem Alt.rows {c : Nat} (hc : c < n) (y : Nat → Int) (A : Nat → Nat → Int) : ∀ j, j ≤ n → F (fun r k => if r < j ∧ r ≠ c then A r k + y r * A c k else A r k) = F A
  | 0, _ => by
    simp
  | j + 1, hj => by
    rw [← Alt.rows hc y A j (by omega)]
    by_cases e : j = c
    · congr 1; funext r k
      by_cases q : r < j ∧ r ≠ c
      · rw [if_pos q, if_pos (by omega)]
      · rw [if_neg q, if_neg (by omega)]
    · rw [← hF.add (r := j) (s := c) (by omega) hc e (y j) (fun r k => if r < j ∧ r ≠ c then A r k + y r * A c k else A r k)]
      congr 1; funext r k
      unfold stR
      by_cases q : r = j
      · subst q
        rw [if_pos rfl, if_pos (by omega)]; dsimp only; rw [if_neg (by omega), if_neg (by omega)]
      · rw [if_neg q]; dsimp only
        by_cases q2 : r < j ∧ r ≠ c
        · rw [if_pos q2, if_pos (by omega)]
        · rw [if_neg q2, if_neg (by omega)]
end alt

/-- The product of matrices. -/
def mulF (n : Nat) (G X : Nat → Nat → Int) : Nat → Nat → Int := fun r k => sm n fun j => G r j * X j k
theorem mul_alt {n : Nat} {F : (Nat → Nat → Int) → Int} (hF : Alt n F) (X : Nat → Nat → Int) : Alt n fun G => F (mulF n G X) := by
  have e : ∀ A r w, mulF n (stR A r w) X = stR (mulF n A X) r fun k => sm n fun j => w j * X j k := fun A r w => by
    funext i k; unfold mulF stR
    by_cases h : i = r
    · simp only [h, if_true]
    · simp only [h, if_false]
  refine ⟨fun A r u v y hr => ?_, fun A r s hr hs hrs he => ?_, fun A B h => ?_⟩
  · simp only [e]
    rw [← hF.lin _ _ _ _ _ hr]
    congr 2; funext k
    rw [← sm_mul, ← sm_add]
    refine sm_congr fun j _ => ?_
    rw [Int.add_mul, Int.mul_assoc]
  · refine hF.eq _ r s hr hs hrs fun k => ?_
    unfold mulF
    exact sm_congr fun j _ => by rw [he j]
  · refine hF.cg _ _ fun r k hr hk => ?_
    unfold mulF
    exact sm_md fun j hj => by rw [← md_mull, h r j hr hj, md_mull]

/-! ### Elimination -/
/-- A matrix as a function. -/
def gM (M : List (List Int)) : Nat → Nat → Int := fun r k => (M.getD r []).getD k 0
theorem step_alt {n m c p : Nat} {M : List (List Int)} (h : Sh Nm 0 n m M) (hc : c < n) (hp : p < n) (hnm : n ≤ m) {F : (Nat → Nat → Int) → Int} (hF : Alt n F) :
    md (F (gM (stepJ nA n c p M))) = md ((if p = c then 1 else -1) * inv ((M.getD p []).getD c 0) * F (gM M)) := by
  have key : ∀ A1 : Nat → Nat → Int, (∀ r k, A1 r k = if r = c then gM M p k else if r = p then gM M c k else gM M r k) → md (F (gM (stepJ nA n c p M))) = md (inv (gM M p c) * F A1) := by
    intro A1 hA
    rw [← hF.scale hc, ← hF.rows hc (fun r => - (A1 r c)) (stR A1 c fun k => inv (gM M p c) * A1 c k) n (Nat.le_refl _)]
    refine hF.cg _ _ fun r k hr hk => ?_
    show md (((stepJ nA n c p M).getD r []).getD k 0) = _
    rw [stepJ_get h hc hp hr]
    have hpl := (h.row p hp).len
    have hq : (rowQ nA c (M.getD p [])).getD k 0 = md ((M.getD p []).getD k 0 * inv ((M.getD p []).getD c 0)) := rowQ_get (R := nA) (by omega)
    have hA1 : A1 c k = (M.getD p []).getD k 0 := by rw [hA, if_pos rfl]; rfl
    by_cases e : r = c
    · rw [if_pos e, if_neg (by omega), hq, md_md]
      unfold stR
      rw [if_pos e]; dsimp only; rw [hA1, Int.mul_comm]; rfl
    · rw [if_neg e, if_pos (show r < n ∧ r ≠ c from ⟨hr, e⟩)]
      have gen : ∀ X : List Int, X.length = m → (rowT nA c X (rowQ nA c (M.getD p []))).getD k 0 = md (X.getD k 0 - md (X.getD c 0 * md ((M.getD p []).getD k 0 * inv ((M.getD p []).getD c 0)))) := fun X hX => by
        rw [← hq]; exact rowT_get (R := nA) (by omega)
      have hst : ∀ k, stR A1 c (fun k => inv (gM M p c) * A1 c k) r k = A1 r k := fun k => by unfold stR; rw [if_neg e]
      have hst2 : stR A1 c (fun k => inv (gM M p c) * A1 c k) c k = inv (gM M p c) * A1 c k := by unfold stR; rw [if_pos rfl]
      rw [hst, hst2, hA1]
      have fin : ∀ x y : Int, md (md (x - md (y * md ((M.getD p []).getD k 0 * inv ((M.getD p []).getD c 0))))) = md (x + -y * (inv (gM M p c) * (M.getD p []).getD k 0)) := fun x y => by
        rw [md_md, md_subr, ← md_subr, md_mulr, md_subr]
        unfold gM
        rw [Int.neg_mul, Int.mul_comm ((M.getD p []).getD k 0)]
        congr 1
      by_cases e2 : r = p
      · rw [if_pos e2, gen _ (h.row c hc).len, fin]
        rw [hA r k, hA r c, if_neg e, if_pos e2, if_neg e, if_pos e2]; rfl
      · rw [if_neg e2, gen _ (h.row r hr).len, fin]
        rw [hA r k, hA r c, if_neg e, if_neg e2, if_neg e, if_neg e2]; rfl
  by_cases e : p = c
  · rw [key (gM M) fun r k => by
      by_cases e2 : r = c
      · rw [if_pos e2, e2, e]
      · rw [if_neg e2, if_neg (by omega)], if_pos e, Int.one_mul]; rfl
  · rw [key (swR (gM M) c p) fun r k => rfl, hF.swap hc hp (Ne.symm e), if_neg e]
    congr 1
    show inv ((M.getD p []).getD c 0) * _ = _
    rw [Int.mul_neg, Int.neg_mul, Int.neg_mul, Int.one_mul]
theorem jor_alt {n m : Nat} (hnm : n ≤ m) : ∀ (l c : Nat) (M : List (List Int)), c + l = n → Sh Nm 0 n m M → ∀ {M' : List (List Int)}, jor nA n l c M = some M' → ∃ f : Int, ∀ F, Alt n F → md (F (gM M')) = md (f * F (gM M))
  | 0, c, M, _, _, M', e => by cases e; exact ⟨1, fun F _ => by rw [Int.one_mul]⟩
  | l + 1, c, M, hl, h, M', e => by
    unfold jor at e
    split at e
    · cases e
    · rename_i hp
      obtain ⟨h1, h2, h3⟩ := pvJ_lt nA hp (by omega)
      obtain ⟨f, hf⟩ := jor_alt hnm l (c + 1) _ (by omega) (h.step nA_V (by omega) h2 (by omega)) e
      refine ⟨f * ((if pvJ nA n c M = c then 1 else -1) * inv ((M.getD (pvJ nA n c M) []).getD c 0)), fun F hF => ?_⟩
      rw [hf F hF, ← md_mulr, step_alt h (by omega) h2 hnm hF, md_mulr, Int.mul_assoc f]
/-- The first c columns are those of the unit matrix. -/
def IdnN (n c : Nat) (M : List (List Int)) : Prop := ∀ r, r < n → ∀ j, j < c → gM M r j = if r = j then 1 else 0
theorem idnN_step {n m c p : Nat} {M : List (List Int)} (h : Sh Nm 0 n m M) (hI : IdnN n c M) (hc : c < n) (hp : p < n) (hcp : c ≤ p) (hnm : n ≤ m) (hz : (M.getD p []).getD c 0 ≠ 0) : IdnN n (c + 1) (stepJ nA n c p M) := by
  intro r hr j hj
  have hpl := (h.row p hp).len
  have hpv := (h.row p hp).val c (by omega)
  have hq : ∀ k, k < n → (rowQ nA c (M.getD p [])).getD k 0 = md ((M.getD p []).getD k 0 * inv ((M.getD p []).getD c 0)) := fun k hk => rowQ_get (R := nA) (by omega)
  have hone : md ((M.getD p []).getD c 0 * inv ((M.getD p []).getD c 0)) = 1 := inv_mul (by have := hpv.1; omega) hpv.2
  have hrow : ∀ j, j < c + 1 → (rowQ nA c (M.getD p [])).getD j 0 = if c = j then 1 else 0 := by
    intro j hj
    rw [hq j (by omega)]
    by_cases e : c = j
    · subst e; rw [if_pos rfl]; exact hone
    · have h0 := hI p hp j (by omega)
      rw [if_neg (by omega)] at h0
      unfold gM at h0
      rw [if_neg e, h0, Int.zero_mul]; rfl
  unfold gM
  rw [stepJ_get h hc hp hr]
  by_cases hrc : r = c
  · rw [if_pos hrc, hrc]; exact hrow j hj
  · rw [if_neg hrc]
    have gen : ∀ X : List Int, RowV Nm 0 m X → (j < c → X.getD j 0 = if r = j then 1 else 0) → (rowT nA c X (rowQ nA c (M.getD p []))).getD j 0 = if r = j then 1 else 0 := by
      intro X hX hXj
      have e : (rowT nA c X (rowQ nA c (M.getD p []))).getD j 0 = md (X.getD j 0 - md (X.getD c 0 * (rowQ nA c (M.getD p [])).getD j 0)) := rowT_get (R := nA) (by rw [hX.len]; omega)
      rw [e, hrow j hj]
      have hx := hX.val j (by omega)
      by_cases hjc : j = c
      · subst hjc
        rw [if_pos rfl, if_neg hrc, Int.mul_one, md_subr, Int.sub_self]; rfl
      · rw [if_neg (Ne.symm hjc), Int.mul_zero, ← hXj (by omega)]
        rw [show md 0 = 0 from rfl, Int.sub_zero]; exact md_of hx.1 hx.2
    split
    · rename_i hrp
      refine gen _ (h.row c hc) fun hjc => ?_
      have h0 := hI c hc j hjc
      rw [if_neg (by omega)] at h0
      rw [if_neg (by omega)]; exact h0
    · exact gen _ (h.row r hr) fun hjc => hI r hr j hjc
theorem jor_idn {n m : Nat} (hnm : n ≤ m) : ∀ (l c : Nat) (M : List (List Int)), c + l = n → Sh Nm 0 n m M → IdnN n c M → ∀ {M' : List (List Int)}, jor nA n l c M = some M' → IdnN n n M'
  | 0, c, M, hl, _, hI, M', e => by
    cases e
    have : c = n := by omega
    subst this; exact hI
  | l + 1, c, M, hl, h, hI, M', e => by
    unfold jor at e
    split at e
    · cases e
    · rename_i hp
      obtain ⟨h1, h2, h3⟩ := pvJ_lt nA hp (by omega)
      have hz : (M.getD (pvJ nA n c M) []).getD c 0 ≠ 0 := by simpa [nA] using h3
      exact jor_idn hnm l (c + 1) _ (by omega) (h.step nA_V (by omega) h2 (by omega)) (idnN_step h hI (by omega) h2 h1 hnm hz) e
end Go.Proofs.Ytjgnlnlngcjfcaa
