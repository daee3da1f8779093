/- The plain law of Gauss-Jordan elimination over any entries, and its tie to the determinant. No condition. -/
import Derived.Test.YtjgnlnlngcjfcaaMc
namespace Go.Proofs.Ytjgnlnlngcjfcaa
set_option linter.unusedVariables false
set_option linter.unusedSimpArgs false
open Go Go.RowKit

theorem gd_left {α : Type} {l l' : List α} {k : Nat} {d : α} (h : k < l.length) : (l ++ l').getD k d = l.getD k d := by
  rw [List.getD_eq_getElem?_getD, List.getElem?_append_left h, List.getD_eq_getElem?_getD]
theorem gd_right {α : Type} {l l' : List α} {k : Nat} {d : α} (h : l.length ≤ k) : (l ++ l').getD k d = l'.getD (k - l.length) d := by
  rw [List.getD_eq_getElem?_getD, List.getElem?_append_right h, List.getD_eq_getElem?_getD]

/-! ### The modulus is a prime -/
theorem small_div : ∀ d, d < 1001 → 2 ≤ d → 1000003 % d ≠ 0 := by decide +kernel
theorem no_div {d : Nat} (h : d ∣ 1000003) (h2 : 2 ≤ d) : d = 1000003 := by
  obtain ⟨e, he⟩ := h
  by_cases h3 : d < 1001
  · exact absurd (by rw [he]; exact Nat.mul_mod_right d e) (small_div d h3 h2)
  · by_cases h4 : e < 1001
    · by_cases h5 : 2 ≤ e
      · exact absurd (by rw [he]; exact Nat.mul_mod_left d e) (small_div e h4 h5)
      · have : e = 0 ∨ e = 1 := by omega
        rcases this with rfl | rfl <;> omega
    · have : 1001 * 1001 ≤ d * e := Nat.mul_le_mul (by omega) (by omega)
      omega
theorem coprime_P {a : Nat} (h : 0 < a) (h' : a < 1000003) : Nat.Coprime 1000003 a := by
  have h1 : Nat.gcd 1000003 a ∣ 1000003 := Nat.gcd_dvd_left _ _
  have h2 : Nat.gcd 1000003 a ∣ a := Nat.gcd_dvd_right _ _
  have h3 := Nat.le_of_dvd h h2
  have h4 : 0 < Nat.gcd 1000003 a := Nat.gcd_pos_of_pos_right _ h
  unfold Nat.Coprime
  by_cases h5 : 2 ≤ Nat.gcd 1000003 a
  · have := no_div h1 h5; omega
  · omega
theorem zero_div {a b : Int} (ha : 0 < a ∧ a < 1000003) (hb : 0 < b ∧ b < 1000003) : md (a * b) ≠ 0 := by
  obtain ⟨x, rfl⟩ := Int.eq_ofNat_of_zero_le (show 0 ≤ a by omega)
  obtain ⟨y, rfl⟩ := Int.eq_ofNat_of_zero_le (show 0 ≤ b by omega)
  intro h
  unfold md at h
  have h1 : (1000003 : Nat) ∣ x * y := by
    apply Nat.dvd_of_mod_eq_zero
    have h2 : ((x * y : Nat) : Int) % 1000003 = 0 := by rw [Int.natCast_mul]; exact h
    omega
  have h3 : (1000003 : Nat) ∣ y := (coprime_P (a := x) (by omega) (by omega)).dvd_of_dvd_mul_left h1
  have := Nat.le_of_dvd (by omega) h3
  omega

/-! ### Elimination -/

/-- Operations on entries: a quotient, a difference with a product, a test for zero, a stand-in. -/
structure Ar (α : Type) where
  q : α → α → α
  t : α → α → α → α
  z : α → Bool
  d : α

section jor
variable {α : Type} (R : Ar α)
def rowQ (c : Nat) (row : List α) : List α := row.map fun x => R.q x (row.getD c R.d)
def rowT (c : Nat) (row other : List α) : List α := tab row.length fun k => R.t (row.getD k R.d) (row.getD c R.d) (other.getD k R.d)
def rowsJ (n c : Nat) (M : List (List α)) : List (List α) := tab n fun r => if r = c then M.getD c [] else rowT R c (M.getD r []) (M.getD c [])
def divJ (c p : Nat) (M : List (List α)) : List (List α) := (swapL M c p []).set c (rowQ R c ((swapL M c p []).getD c []))
def stepJ (n c p : Nat) (M : List (List α)) : List (List α) := rowsJ R n c (divJ R c p M)
def pvJ (n c : Nat) (M : List (List α)) : Nat := pvt (fun r => R.z ((M.getD r []).getD c R.d)) (n - c) c
def jor (n : Nat) : Nat → Nat → List (List α) → Option (List (List α))
  | 0, _, M => some M
  | m + 1, c, M => if pvJ R n c M = n then none else jor n m (c + 1) (stepJ R n c (pvJ R n c M) M)
end jor

/-- A row of m good entries. -/
structure RowV {α : Type} (V : α → Prop) (d : α) (m : Nat) (row : List α) : Prop where
  len : row.length = m
  val : ∀ k, k < m → V (row.getD k d)
/-- n rows of m good entries. -/
structure Sh {α : Type} (V : α → Prop) (d : α) (n m : Nat) (M : List (List α)) : Prop where
  len : M.length = n
  row : ∀ r, r < n → RowV V d m (M.getD r [])

section sh
variable {α : Type} {R : Ar α} {V : α → Prop} {n m c p : Nat} {M : List (List α)}
structure ArV (R : Ar α) (V : α → Prop) : Prop where
  q : ∀ x y, V x → V y → V (R.q x y)
  t : ∀ x y w, V x → V y → V w → V (R.t x y w)

theorem rowQ_get {row : List α} {k : Nat} (hk : k < row.length) : (rowQ R c row).getD k R.d = R.q (row.getD k R.d) (row.getD c R.d) := by
  simp [rowQ, hk]
theorem rowT_get {row other : List α} {k : Nat} (hk : k < row.length) : (rowT R c row other).getD k R.d = R.t (row.getD k R.d) (row.getD c R.d) (other.getD k R.d) := tab_get _ hk
@[simp] theorem rowQ_len (row : List α) : (rowQ R c row).length = row.length := by simp [rowQ]
@[simp] theorem rowT_len (row other : List α) : (rowT R c row other).length = row.length := by simp [rowT]
theorem RowV.q {row : List α} (hA : ArV R V) (h : RowV V R.d m row) (hc : c < m) : RowV V R.d m (rowQ R c row) :=
  ⟨by simp [h.len], fun k hk => by rw [rowQ_get (by rw [h.len]; exact hk)]; exact hA.q _ _ (h.val k hk) (h.val c hc)⟩
theorem RowV.t {row other : List α} (hA : ArV R V) (h : RowV V R.d m row) (h' : RowV V R.d m other) (hc : c < m) : RowV V R.d m (rowT R c row other) :=
  ⟨by simp [h.len], fun k hk => by rw [rowT_get (by rw [h.len]; exact hk)]; exact hA.t _ _ _ (h.val k hk) (h.val c hc) (h'.val k hk)⟩
theorem Sh.set {d : α} (h : Sh V d n m M) {r : Nat} (hr : r < n) {y : List α} (hy : RowV V d m y) : Sh V d n m (M.set r y) := by
  have hl := h.len
  refine ⟨by simp [hl], fun k hk => ?_⟩
  rw [getD_set _ _ _ _ _ (by omega)]
  split
  · exact hy
  · exact h.row k hk
theorem Sh.swap {d : α} (h : Sh V d n m M) {i j : Nat} (hi : i < n) (hj : j < n) : Sh V d n m (swapL M i j []) := by
  have hl := h.len
  refine ⟨by simp [length_swapL, hl], fun k hk => ?_⟩
  rw [getD_swap _ _ _ _ _ (by omega) (by omega)]
  split
  · exact h.row i hi
  · split
    · exact h.row j hj
    · exact h.row k hk
theorem swap_at {β : Type} {l : List β} {d : β} (hc : c < l.length) (hp : p < l.length) : (swapL l c p d).getD c d = l.getD p d := by
  rw [getD_swap _ _ _ _ _ hc hp]
  split
  · rename_i h; rw [h]
  · rw [if_pos rfl]
theorem Sh.div (hA : ArV R V) (h : Sh V R.d n m M) (hc : c < n) (hp : p < n) (hcm : c < m) : Sh V R.d n m (divJ R c p M) :=
  (h.swap hc hp).set hc (((h.swap hc hp).row c hc).q hA hcm)
theorem divJ_get (h : Sh V R.d n m M) (hc : c < n) (hp : p < n) (r : Nat) : (divJ R c p M).getD r [] = if r = c then rowQ R c (M.getD p []) else if r = p then M.getD c [] else M.getD r [] := by
  have hl := h.len
  unfold divJ
  rw [getD_set _ _ _ _ _ (by rw [length_swapL]; omega), swap_at (by omega) (by omega), getD_swap _ _ _ _ _ (by omega) (by omega)]
  by_cases h1 : r = c
  · rw [if_pos h1, if_pos h1]
  · rw [if_neg h1, if_neg h1, if_neg h1]
theorem rowsJ_get {r : Nat} (hr : r < n) : (rowsJ R n c M).getD r [] = if r = c then M.getD c [] else rowT R c (M.getD r []) (M.getD c []) := tab_get _ hr
theorem Sh.rows (hA : ArV R V) (h : Sh V R.d n m M) (hc : c < n) (hcm : c < m) : Sh V R.d n m (rowsJ R n c M) := by
  refine ⟨by simp [rowsJ], fun r hr => ?_⟩
  rw [rowsJ_get hr]
  split
  · exact h.row c hc
  · exact (h.row r hr).t hA (h.row c hc) hcm
theorem Sh.step (hA : ArV R V) (h : Sh V R.d n m M) (hc : c < n) (hp : p < n) (hcm : c < m) : Sh V R.d n m (stepJ R n c p M) := (h.div hA hc hp hcm).rows hA hc hcm
theorem stepJ_get (h : Sh V R.d n m M) (hc : c < n) (hp : p < n) {r : Nat} (hr : r < n) :
    (stepJ R n c p M).getD r [] = if r = c then rowQ R c (M.getD p []) else rowT R c (if r = p then M.getD c [] else M.getD r []) (rowQ R c (M.getD p [])) := by
  unfold stepJ
  rw [rowsJ_get hr]
  simp only [divJ_get h hc hp]
  by_cases hrc : r = c
  · subst hrc; simp
  · simp [hrc]
theorem pvJ_lt (R : Ar α) (h : pvJ R n c M ≠ n) (hc : c < n) : c ≤ pvJ R n c M ∧ pvJ R n c M < n ∧ R.z ((M.getD (pvJ R n c M) []).getD c R.d) = false := by
  have h1 := pvt_ge (fun r => R.z ((M.getD r []).getD c R.d)) (n - c) c
  have h2 := pvt_no (fun r => R.z ((M.getD r []).getD c R.d)) (n - c) c
  unfold pvJ at h ⊢
  refine ⟨h1.1, by omega, h2 (by omega)⟩
theorem Sh.jor (hA : ArV R V) : ∀ (l c : Nat) (M : List (List α)), c + l ≤ n → n ≤ m → Sh V R.d n m M → ∀ {M' : List (List α)}, jor R n l c M = some M' → Sh V R.d n m M'
  | 0, c, M, _, _, h, M', e => by cases e; exact h
  | l + 1, c, M, hl, hm, h, M', e => by
    unfold Go.Proofs.Ytjgnlnlngcjfcaa.jor at e
    split at e
    · cases e
    · rename_i hp
      obtain ⟨_, h2, _⟩ := pvJ_lt R hp (by omega)
      exact Sh.jor hA l (c + 1) _ (by omega) hm (h.step hA (by omega) h2 (by omega)) e
end sh

/-! ### Two kinds of entries -/
theorem pvt_congr {f g : Nat → Bool} : ∀ m r, (∀ i, r ≤ i → i < r + m → f i = g i) → pvt f m r = pvt g m r
  | 0, _, _ => rfl
  | m + 1, r, h => by
    unfold pvt
    rw [h r (Nat.le_refl _) (by omega), pvt_congr m (r + 1) fun i h1 h2 => h i (by omega) (by omega)]

structure Hom {α β : Type} (R : Ar α) (S : Ar β) (V : α → Prop) (h : α → β) : Prop where
  q : ∀ x y, V x → V y → h (R.q x y) = S.q (h x) (h y)
  t : ∀ x y w, V x → V y → V w → h (R.t x y w) = S.t (h x) (h y) (h w)
  z : ∀ x, V x → S.z (h x) = R.z x

section hom
variable {α β : Type} {R : Ar α} {S : Ar β} {V : α → Prop} {h : α → β} {n m c p : Nat} {M : List (List α)}
def mm (h : α → β) (M : List (List α)) : List (List β) := M.map (List.map h)
theorem mm_get (r : Nat) : (mm h M).getD r [] = (M.getD r []).map h := by
  unfold mm
  by_cases hr : r < M.length
  · simp [hr]
  · simp [Nat.not_lt.1 hr]
theorem map_getD {row : List α} {k : Nat} {d : α} {d' : β} (hk : k < row.length) : (row.map h).getD k d' = h (row.getD k d) := by simp [hk]
theorem map_ext2 {A B : List (List β)} {n : Nat} (ha : A.length = n) (hb : B.length = n) (he : ∀ r, r < n → A.getD r [] = B.getD r []) : A = B :=
  leq_done (k := n) (fun j hj => he j hj) (by omega) (by omega)
theorem Hom.rowQ (H : Hom R S V h) {row : List α} (hr : RowV V R.d m row) (hc : c < m) : (rowQ R c row).map h = Go.Proofs.Ytjgnlnlngcjfcaa.rowQ S c (row.map h) := by
  have hl := hr.len
  refine leq_done (d := S.d) (k := m) (fun k hk => ?_) (by simp) (by simp [hl])
  rw [map_getD (d := R.d) (by rw [rowQ_len]; omega), rowQ_get (by omega), rowQ_get (by simp; omega), map_getD (d := R.d) (by omega), map_getD (d := R.d) (by omega)]
  exact H.q _ _ (hr.val k hk) (hr.val c hc)
theorem Hom.rowT (H : Hom R S V h) {row other : List α} (hr : RowV V R.d m row) (ho : RowV V R.d m other) (hc : c < m) : (rowT R c row other).map h = Go.Proofs.Ytjgnlnlngcjfcaa.rowT S c (row.map h) (other.map h) := by
  have hl := hr.len
  have hl2 := ho.len
  refine leq_done (d := S.d) (k := m) (fun k hk => ?_) (by simp) (by simp [hl])
  rw [map_getD (d := R.d) (by rw [rowT_len]; omega), rowT_get (by omega), rowT_get (by simp; omega), map_getD (d := R.d) (by omega), map_getD (d := R.d) (by omega), map_getD (d := R.d) (by omega)]
  exact H.t _ _ _ (hr.val k hk) (hr.val c hc) (ho.val k hk)
theorem Hom.sh (hs : Sh V R.d n m M) : Sh (fun _ => True) S.d n m (mm h M) :=
  ⟨by simp [mm, hs.len], fun r hr => ⟨by rw [mm_get, List.length_map]; exact (hs.row r hr).len, fun _ _ => trivial⟩⟩
theorem Hom.step (H : Hom R S V h) (hA : ArV R V) (hs : Sh V R.d n m M) (hc : c < n) (hp : p < n) (hcm : c < m) : mm h (stepJ R n c p M) = stepJ S n c p (mm h M) := by
  refine map_ext2 (n := n) (by simp [mm, stepJ, rowsJ]) (by simp [stepJ, rowsJ]) fun r hr => ?_
  rw [mm_get, stepJ_get hs hc hp hr, stepJ_get (Hom.sh hs) hc hp hr]
  simp only [mm_get]
  have hq := H.rowQ (hs.row p hp) hcm
  by_cases hrc : r = c
  · simp only [hrc, if_pos]; exact hq
  · simp only [hrc, if_false]
    by_cases hrp : r = p
    · simp only [hrp, if_pos]
      rw [← hq]
      exact H.rowT (hs.row c hc) ((hs.row p hp).q hA hcm) hcm
    · simp only [hrp, if_false]
      rw [← hq]
      exact H.rowT (hs.row r hr) ((hs.row p hp).q hA hcm) hcm
theorem Hom.pv (H : Hom R S V h) (hs : Sh V R.d n m M) (hcm : c < m) : pvJ S n c (mm h M) = pvJ R n c M := by
  refine pvt_congr _ _ fun i h1 h2 => ?_
  have hi : i < n := by omega
  rw [mm_get, map_getD (d := R.d) (by rw [(hs.row i hi).len]; exact hcm)]
  exact H.z _ ((hs.row i hi).val c hcm)
theorem Hom.jor (H : Hom R S V h) (hA : ArV R V) : ∀ (l c : Nat) (M : List (List α)), c + l ≤ n → n ≤ m → Sh V R.d n m M → jor S n l c (mm h M) = (jor R n l c M).map (mm h)
  | 0, c, M, _, _, _ => rfl
  | l + 1, c, M, hl, hm, hs => by
    unfold Go.Proofs.Ytjgnlnlngcjfcaa.jor
    rw [H.pv hs (by omega)]
    split
    · rfl
    · rename_i hp
      obtain ⟨_, h2, _⟩ := pvJ_lt R hp (by omega)
      rw [← H.step hA hs (by omega) h2 (by omega)]
      exact Hom.jor H hA l (c + 1) _ (by omega) hm (hs.step hA (by omega) h2 (by omega))
end hom

/-! ### Numbers -/
def nA : Ar Int := ⟨fun x y => md (x * inv y), fun a f b => md (a - md (f * b)), fun x => decide (x = 0), 0⟩
def Nm (x : Int) : Prop := 0 ≤ x ∧ x < 1000003
theorem nA_V : ArV nA Nm := ⟨fun _ _ _ _ => md_num _, fun _ _ _ _ _ _ => md_num _⟩
theorem rowQ_nA (c : Nat) (row : List Int) : rowQ nA c row = scl row (inv (row.getD c 0)) := rfl
theorem rowT_nA (c : Nat) (row other : List Int) : rowT nA c row other = tkr row other (row.getD c 0) := rfl
theorem rowV_num {m : Nat} {row : List Int} (h : RowV Nm 0 m row) : allN row = true := by
  rw [eq_tab row 0]
  exact tab_num fun k hk => h.val k (by rw [← h.len]; exact hk)

theorem elim_get {n c : Nat} {rc : List Int} {iv : Int} {M : List (List Int)} (h : Sq n M) : ∀ j, c + 1 + j ≤ n → ∀ r, (elim c rc iv j M).getD r [] = if c < r ∧ r < c + 1 + j then tkr (M.getD r []) rc (md ((M.getD r []).getD c 0 * iv)) else M.getD r []
  | 0, _, r => by rw [if_neg (by omega)]; rfl
  | j + 1, hj, r => by
    have ih := elim_get (c := c) (rc := rc) (iv := iv) h j (by omega)
    have hs := elim_sq (c := c) (rc := rc) (iv := iv) h j (by omega)
    show ((elim c rc iv j M).set (c + 1 + j) (tkr ((elim c rc iv j M).getD (c + 1 + j) []) rc (md (((elim c rc iv j M).getD (c + 1 + j) []).getD c 0 * iv)))).getD r [] = _
    have hl : c + 1 + j < (elim c rc iv j M).length := by have := hs.len; omega
    rw [getD_set _ (c + 1 + j) r _ _ hl]
    have e1 := ih (c + 1 + j)
    rw [if_neg (by omega)] at e1
    rw [e1, ih r]
    by_cases e : r = c + 1 + j
    · subst e; rw [if_pos rfl, if_pos (by omega)]
    · rw [if_neg e]
      by_cases e2 : c < r ∧ r < c + 1 + j
      · rw [if_pos e2, if_pos (by omega)]
      · rw [if_neg e2, if_neg (by omega)]

/-- Below step c both eliminations hold the same numbers. -/
def RelJ (n c : Nat) (D G : List (List Int)) : Prop := ∀ r, c ≤ r → r < n → ∀ k, k < n → (D.getD r []).getD k 0 = (G.getD r []).getD k 0

theorem rel_pv {n c : Nat} {D G : List (List Int)} (h : RelJ n c D G) (hc : c < n) : piv n c D = pvJ nA n c G := by
  refine pvt_congr _ _ fun i h1 h2 => ?_
  show decide (_ = 0) = decide (_ = 0)
  rw [h i h1 (by omega) c hc]; rfl
theorem rel_step {n c p : Nat} {D G : List (List Int)} (hD : Sq n D) (hG : Sh Nm 0 n (n + 1) G) (h : RelJ n c D G) (hc : c < n) (hp : p < n) (hcp : c ≤ p) :
    RelJ n (c + 1) (elim c ((swapL D c p []).getD c []) (inv (((swapL D c p []).getD c []).getD c 0)) (n - (c + 1)) (swapL D c p [])) (stepJ nA n c p G) := by
  intro r hr1 hr2 k hk
  have hl := hD.len
  rw [elim_get (hD.swap hc hp) _ (by omega), if_pos (by omega), stepJ_get hG hc hp hr2, if_neg (by omega), swap_at (by omega) (by omega), getD_swap _ _ _ _ _ (by omega) (by omega)]
  have key : ∀ (D0 G0 : List Int), D0.length = n → G0.length = n + 1 → (∀ k, k < n → D0.getD k 0 = G0.getD k 0) →
      (tkr D0 (D.getD p []) (md (D0.getD c 0 * inv ((D.getD p []).getD c 0)))).getD k 0 = (rowT nA c G0 (rowQ nA c (G.getD p []))).getD k 0 := by
    intro D0 G0 h1 h2 h3
    have hpl := (hG.row p hp).len
    rw [show (0 : Int) = nA.d from rfl, rowT_get (by omega), rowQ_get (by omega)]
    show (tab D0.length fun k => md (D0.getD k 0 - md (md (D0.getD c 0 * inv ((D.getD p []).getD c 0)) * (D.getD p []).getD k 0))).getD k 0 = md (G0.getD k 0 - md (G0.getD c 0 * md ((G.getD p []).getD k 0 * inv ((G.getD p []).getD c 0))))
    rw [tab_get _ (by omega), h3 k hk, h3 c hc, h p hcp hp k hk, h p hcp hp c hc, md_subr, md_subr]
    rw [← md_sub, ← md_sub (G0.getD k 0) (_ * md _), md_mull, md_mulr]
    congr 3
    rw [Int.mul_assoc, Int.mul_comm (inv _)]
  by_cases e : r = p
  · subst e
    rw [if_pos rfl, if_pos rfl]
    exact key _ _ (hD.row c hc) (hG.row c hc).len fun k hk => h c (Nat.le_refl _) hc k hk
  · rw [if_neg e, if_neg (by omega), if_neg e]
    exact key _ _ (hD.row r hr2) (hG.row r hr2).len fun k hk => h r (by omega) hr2 k hk

theorem det_jor {n : Nat} : ∀ (l c : Nat) (D G : List (List Int)) (det : Int), c + l = n → Sq n D → Sh Nm 0 n (n + 1) G → RelJ n c D G → 0 < det → det < 1000003 → (detF n l c D det = 0 ↔ jor nA n l c G = none)
  | 0, c, D, G, det, _, _, _, _, h1, _ => by
    unfold detF jor
    constructor
    · intro h; omega
    · intro h; cases h
  | l + 1, c, D, G, det, hl, hD, hG, hr, h1, h2 => by
    have hc : c < n := by omega
    have hpv := rel_pv hr hc
    unfold detF jor
    rw [hpv]
    by_cases hp : pvJ nA n c G = n
    · rw [if_pos hp, if_pos hp]; simp
    · rw [if_neg hp, if_neg hp]
      obtain ⟨q1, q2, q3⟩ := pvJ_lt nA hp hc
      have hne : (D.getD (pvJ nA n c G) []).getD c 0 ≠ 0 := by
        rw [hr _ q1 q2 c hc]
        simpa [nA] using q3
      have hnum := hD.get (pvJ nA n c G) c
      have hdl := hD.len
      have hs := hD.swap hc q2
      have hdet : 0 < (if pvJ nA n c G ≠ c then md (-det) else det) ∧ (if pvJ nA n c G ≠ c then md (-det) else det) < 1000003 := by
        split
        · unfold md; omega
        · omega
      have hz := zero_div hdet (b := (D.getD (pvJ nA n c G) []).getD c 0) (by omega)
      have hm := md_num ((if pvJ nA n c G ≠ c then md (-det) else det) * (D.getD (pvJ nA n c G) []).getD c 0)
      have e := swap_at (d := []) (c := c) (p := pvJ nA n c G) (l := D) (by omega) (by omega)
      have ih := det_jor (n := n) l (c + 1) (elim c ((swapL D c (pvJ nA n c G) []).getD c []) (inv (((swapL D c (pvJ nA n c G) []).getD c []).getD c 0)) (n - (c + 1)) (swapL D c (pvJ nA n c G) [])) (stepJ nA n c (pvJ nA n c G) G)
        (md ((if pvJ nA n c G ≠ c then md (-det) else det) * ((swapL D c (pvJ nA n c G) []).getD c []).getD c 0)) (by omega) (elim_sq hs _ (by omega)) (hG.step nA_V hc q2 (by omega)) (rel_step hD hG hr hc q2 q1)
        (by rw [e]; omega) (by rw [e]; omega)
      exact ih

/-- The augmented matrix. -/
def augN (a : List (List Int)) (b : List Int) : List (List Int) := tab a.length fun i => a.getD i [] ++ [b.getD i 0]
theorem aug_sh {a : List (List Int)} {b : List Int} (hS : Sq a.length a) (hb : allN b = true) : Sh Nm 0 a.length (a.length + 1) (augN a b) := by
  refine ⟨by simp [augN], fun r hr => ?_⟩
  unfold augN
  rw [tab_get _ hr]
  have hl := hS.row r hr
  refine ⟨by rw [List.length_append, hl]; rfl, fun k hk => ?_⟩
  by_cases e : k < a.length
  · rw [gd_left (by omega)]; exact hS.get r k
  · rw [gd_right (by omega), show k - (a.getD r []).length = 0 from by omega]
    exact allN_get hb r
theorem aug_rel {a : List (List Int)} {b : List Int} (hS : Sq a.length a) : RelJ a.length 0 a (augN a b) := by
  intro r _ hr k hk
  unfold augN
  rw [tab_get _ hr, gd_left (by rw [hS.row r hr]; exact hk)]
/-- Gauss-Jordan on the augmented matrix. -/
def jorN (a : List (List Int)) (b : List Int) : Option (List (List Int)) := jor nA a.length a.length 0 (augN a b)
theorem det_jorN {a : List (List Int)} {b : List Int} (hS : Sq a.length a) (hb : allN b = true) : detM a = 0 ↔ jorN a b = none :=
  det_jor a.length 0 a (augN a b) 1 (by omega) hS (aug_sh hS hb) (aug_rel hS) (by decide) (by decide)
def lastC {α : Type} (n : Nat) (d : α) (M : List (List α)) : List α := M.map fun r => r.getD n d
/-- The solution. -/
def solN (a : List (List Int)) (b : List Int) : List Int := lastC a.length 0 ((jorN a b).getD [])
end Go.Proofs.Ytjgnlnlngcjfcaa
