/- Plain lists: tables, lists half done, rows, elimination. No condition. -/
import Derived.Test.YtjgnlnlngcjfcaaMa
namespace Go.Proofs.Ytjgnlnlngcjfcaa

theorem take_snoc {α : Type} {l : List α} {k : Nat} (d : α) (h : k < l.length) : l.take (k + 1) = l.take k ++ [l.getD k d] := by
  rw [List.take_succ_eq_append_getElem h]
  simp [h]

/-- A table. -/
def tab {α : Type} (n : Nat) (f : Nat → α) : List α := (List.range n).map f
@[simp] theorem tab_len {α : Type} (n : Nat) (f : Nat → α) : (tab n f).length = n := by simp [tab]
theorem tab_get {α : Type} {n : Nat} {f : Nat → α} {k : Nat} (d : α) (h : k < n) : (tab n f).getD k d = f k := by simp [tab, h]
theorem tab_succ {α : Type} (n : Nat) (f : Nat → α) : tab (n + 1) f = tab n f ++ [f n] := by simp [tab, List.range_succ]
theorem tab_ext {α : Type} {n : Nat} {f g : Nat → α} (h : ∀ k, k < n → f k = g k) : tab n f = tab n g := by
  unfold tab
  exact List.map_congr_left fun k hk => h k (List.mem_range.1 hk)
theorem eq_tab {α : Type} (l : List α) (d : α) : l = tab l.length (fun k => l.getD k d) := by
  apply List.ext_getElem
  · simp
  · intro i h1 h2
    simp [tab, h1]

/-- The first k of one list, the rest of the other. -/
def mix {α : Type} (k : Nat) (t z : List α) : List α := t.take k ++ z.drop k
theorem mix_zero {α : Type} (t z : List α) : mix 0 t z = z := by simp [mix]
theorem mix_all {α : Type} {k : Nat} {t z : List α} (h : t.length = z.length) (hk : z.length ≤ k) : mix k t z = t := by
  simp [mix, List.take_of_length_le (show t.length ≤ k by omega), List.drop_of_length_le hk]
@[simp] theorem mix_len {α : Type} (k : Nat) (t z : List α) (h : t.length = z.length) : (mix k t z).length = z.length := by
  simp [mix]; omega
theorem mix_set {α : Type} {k : Nat} {t z : List α} (d : α) (h : t.length = z.length) (hk : k < z.length) : (mix k t z).set k (t.getD k d) = mix (k + 1) t z := by
  unfold mix
  have hl : (t.take k).length = k := by simp; omega
  rw [take_snoc d (by omega), List.set_append_right _ _ (by omega), hl, Nat.sub_self, List.append_assoc]
  congr 1
  rw [List.drop_eq_getElem_cons hk]
  rfl
theorem mix_ge {α : Type} {k j : Nat} {t z : List α} (d : α) (h : t.length = z.length) (hkj : k ≤ j) (hj : j < z.length) : (mix k t z).getD j d = z.getD j d := by
  unfold mix
  have hl : (t.take k).length = k := by simp; omega
  rw [List.getD_eq_getElem?_getD, List.getElem?_append_right (by omega), hl, List.getElem?_drop, List.getD_eq_getElem?_getD]
  congr 2
  omega
theorem mix_lt {α : Type} {k j : Nat} {t z : List α} (d : α) (hkj : j < k) (hj : j < t.length) : (mix k t z).getD j d = t.getD j d := by
  unfold mix
  rw [List.getD_eq_getElem?_getD, List.getElem?_append_left (by simp; omega), List.getElem?_take, if_pos hkj, List.getD_eq_getElem?_getD]
theorem mix_tab {α : Type} {n k : Nat} {f : Nat → α} {z : List α} (hz : z.length = n) (hk : k < n) : mix (k + 1) (tab n f) z = (mix k (tab n f) z).set k (f k) := by
  rw [← mix_set (f k) (by simp [hz]) (by omega), tab_get _ hk]

theorem any_not (l : List Int) : (!l.any fun x => !isN x) = allN l := by
  unfold allN
  rw [← List.all_eq_not_any_not]

/-! ### Matrices -/

/-- A square matrix of numbers. -/
def sqB (a : List (List Int)) : Bool := decide (a.length ≤ 6) && a.all fun r => decide (r.length = a.length) && allN r

structure Sq (n : Nat) (M : List (List Int)) : Prop where
  len : M.length = n
  row : ∀ k, k < n → (M.getD k []).length = n
  num : ∀ k, allN (M.getD k []) = true

theorem sq_of {a : List (List Int)} (h : sqB a = true) : Sq a.length a ∧ a.length ≤ 6 := by
  simp only [sqB, Bool.and_eq_true, decide_eq_true_eq, List.all_eq_true] at h
  refine ⟨⟨rfl, fun k hk => ?_, fun k => ?_⟩, h.1⟩
  · have := h.2 a[k] (List.getElem_mem hk)
    simpa [hk] using this.1
  · by_cases hk : k < a.length
    · have := h.2 a[k] (List.getElem_mem hk)
      simpa [hk] using this.2
    · have e : a.getD k [] = [] := by simp [Nat.not_lt.1 hk]
      rw [e]; rfl

theorem Sq.get {n : Nat} {M : List (List Int)} (h : Sq n M) (r k : Nat) : 0 ≤ (M.getD r []).getD k 0 ∧ (M.getD r []).getD k 0 < 1000003 := allN_get (h.num r) k

theorem getD_set {α : Type} (l : List α) (i j : Nat) (x d : α) (hi : i < l.length) : (l.set i x).getD j d = if j = i then x else l.getD j d := by
  rw [List.getD_eq_getElem?_getD, List.getElem?_set]
  by_cases h : i = j
  · subst h; simp [hi]
  · simp [h, Ne.symm h]

theorem Sq.set {n : Nat} {M : List (List Int)} (h : Sq n M) {r : Nat} (hr : r < n) {y : List Int} (hy : y.length = n) (hn : allN y = true) : Sq n (M.set r y) := by
  have hl := h.len
  refine ⟨by simp [hl], fun k hk => ?_, fun k => ?_⟩
  · rw [getD_set _ _ _ _ _ (by omega)]
    split
    · exact hy
    · exact h.row k hk
  · rw [getD_set _ _ _ _ _ (by omega)]
    split
    · exact hn
    · exact h.num k

theorem getD_swap {α : Type} (l : List α) (i j k : Nat) (d : α) (hi : i < l.length) (hj : j < l.length) : (swapL l i j d).getD k d = if k = j then l.getD i d else if k = i then l.getD j d else l.getD k d := by
  unfold swapL
  rw [getD_set _ _ _ _ _ (by simpa using hj), getD_set _ _ _ _ _ hi]

theorem Sq.swap {n : Nat} {M : List (List Int)} (h : Sq n M) {i j : Nat} (hi : i < n) (hj : j < n) : Sq n (swapL M i j []) := by
  have hl := h.len
  refine ⟨by simp [length_swapL, hl], fun k hk => ?_, fun k => ?_⟩
  · rw [getD_swap _ _ _ _ _ (by omega) (by omega)]
    split
    · exact h.row i hi
    · split
      · exact h.row j hj
      · exact h.row k hk
  · rw [getD_swap _ _ _ _ _ (by omega) (by omega)]
    split
    · exact h.num i
    · split
      · exact h.num j
      · exact h.num k

/-- A row less a multiple of another one. -/
def tkr (a b : List Int) (y : Int) : List Int := tab a.length fun k => md (a.getD k 0 - md (y * b.getD k 0))
@[simp] theorem tkr_len (a b : List Int) (y : Int) : (tkr a b y).length = a.length := by simp [tkr]
theorem tab_num {n : Nat} {f : Nat → Int} (h : ∀ k, k < n → 0 ≤ f k ∧ f k < 1000003) : allN (tab n f) = true := by
  unfold allN tab
  rw [List.all_eq_true]
  intro x hx
  obtain ⟨k, hk, rfl⟩ := List.mem_map.1 hx
  exact isN_iff.2 (h k (List.mem_range.1 hk))
theorem tkr_num (a b : List Int) (y : Int) : allN (tkr a b y) = true := tab_num fun _ _ => md_num _

/-- From r on the first place below n at which f says no. -/
def pvt (f : Nat → Bool) : Nat → Nat → Nat
  | 0, r => r
  | m + 1, r => if f r then pvt f m (r + 1) else r
theorem pvt_ge (f : Nat → Bool) : ∀ m r, r ≤ pvt f m r ∧ pvt f m r ≤ r + m
  | 0, r => by simp [pvt]
  | m + 1, r => by
    unfold pvt
    split
    · have := pvt_ge f m (r + 1); omega
    · omega
theorem pvt_no (f : Nat → Bool) : ∀ m r, pvt f m r < r + m → f (pvt f m r) = false
  | 0, r, h => by simp [pvt] at h
  | m + 1, r, h => by
    unfold pvt at h ⊢
    split
    · rename_i hf
      rw [if_pos hf] at h
      exact pvt_no f m (r + 1) (by omega)
    · rename_i hf; simpa using hf

/-- Elimination below row c: j rows done; rc the row, iv the inverse of its first number. -/
def elim (c : Nat) (rc : List Int) (iv : Int) : Nat → List (List Int) → List (List Int) := it fun j M => M.set (c + 1 + j) (tkr (M.getD (c + 1 + j) []) rc (md ((M.getD (c + 1 + j) []).getD c 0 * iv)))

theorem elim_sq {n c : Nat} {rc : List Int} {iv : Int} {M : List (List Int)} (h : Sq n M) : ∀ j, c + 1 + j ≤ n → Sq n (elim c rc iv j M)
  | 0, _ => h
  | j + 1, hj => by
    have ih := elim_sq (c := c) (rc := rc) (iv := iv) h j (by omega)
    exact Sq.set (r := c + 1 + j) ih (by omega) (by rw [tkr_len]; exact ih.row _ (by omega)) (tkr_num _ _ _)
theorem elim_at {n c : Nat} {rc : List Int} {iv : Int} {M : List (List Int)} (h : Sq n M) (d : List Int) {k : Nat} (hk : k ≤ c) : ∀ j, c + 1 + j ≤ n → (elim c rc iv j M).getD k d = M.getD k d
  | 0, _ => rfl
  | j + 1, hj => by
    have ih := elim_at (rc := rc) (iv := iv) h d hk j (by omega)
    have hs := elim_sq (c := c) (rc := rc) (iv := iv) h j (by omega)
    show ((elim c rc iv j M).set (c + 1 + j) _).getD k d = _
    rw [getD_set _ (c + 1 + j) k _ d (by have := hs.len; omega), if_neg (by omega)]
    exact ih

/-- The pivot's row. -/
def piv (n c : Nat) (M : List (List Int)) : Nat := pvt (fun r => decide ((M.getD r []).getD c 0 = 0)) (n - c) c

/-- The determinant, from column c on, with m columns left. -/
def detF (n : Nat) : Nat → Nat → List (List Int) → Int → Int
  | 0, _, _, det => det
  | m + 1, c, M, det =>
    if piv n c M = n then 0 else
      let M1 := swapL M c (piv n c M) []
      let rc := M1.getD c []
      detF n m (c + 1) (elim c rc (inv (rc.getD c 0)) (n - (c + 1)) M1) (md ((if piv n c M ≠ c then md (-det) else det) * rc.getD c 0))
def detM (a : List (List Int)) : Int := detF a.length a.length 0 a 1

theorem detF_num (n : Nat) : ∀ m c M det, (0 ≤ det ∧ det < 1000003) → 0 ≤ detF n m c M det ∧ detF n m c M det < 1000003
  | 0, _, _, _, h => h
  | m + 1, c, M, det, h => by
    unfold detF
    split
    · omega
    · exact detF_num n m _ _ _ (md_num _)
theorem detM_num (a : List (List Int)) : 0 ≤ detM a ∧ detM a < 1000003 := detF_num _ _ _ _ _ (by omega)
theorem detM_rng (a : List (List Int)) : -9223372036854775808 ≤ detM a ∧ detM a ≤ 9223372036854775807 := by have := detM_num a; omega

theorem set_self_getD {α : Type} (l : List α) {r : Nat} (d : α) (h : r < l.length) : l.set r (l.getD r d) = l := by
  have : l.getD r d = l[r] := by simp [h]
  rw [this, List.set_getElem_self]

/-! ### Equality, size -/
theorem leq_step {α : Type} {a b : List α} {d : α} {k : Nat} (h : ∀ j, j < k → a.getD j d = b.getD j d) (hk : a.getD k d = b.getD k d) : ∀ j, j < k + 1 → a.getD j d = b.getD j d := by
  intro j hj
  by_cases e : j = k
  · subst e; exact hk
  · exact h j (by omega)
theorem leq_done {α : Type} {a b : List α} {d : α} {k : Nat} (h : ∀ j, j < k → a.getD j d = b.getD j d) (hl : a.length = b.length) (hk : a.length ≤ k) : a = b := by
  apply List.ext_getElem hl
  intro i h1 h2
  have := h i (by omega)
  simpa [h1, h2] using this
theorem leq_fail {α : Type} {a b : List α} {d : α} {k : Nat} (h : a.getD k d ≠ b.getD k d) : a ≠ b := fun e => h (by rw [e])
theorem leq_len {α : Type} {a b : List α} (h : a.length ≠ b.length) : a ≠ b := fun e => h (by rw [e])

def szI (n : Nat) (l : Int) : Int := if l - (n : Int) < 0 then -1 else l - (n : Int)
def szR : List (List Int) → Int → Int
  | [], l => l
  | r :: rs, l => if szI r.length l < 0 then -1 else szR rs (szI r.length l)
def szM (a : List (List Int)) (l : Int) : Int := if l - (a.length : Int) < 0 then -1 else szR a (l - (a.length : Int))
theorem szI_le {n : Nat} {l : Int} (h : 0 ≤ szI n l) : szI n l = l - (n : Int) ∧ (n : Int) ≤ l := by
  unfold szI at *; split at h
  · omega
  · rename_i hh; rw [if_neg hh]; omega
theorem szR_le : ∀ (a : List (List Int)) (l : Int), 0 ≤ szR a l → szR a l ≤ l ∧ ∀ r ∈ a, (r.length : Int) ≤ l
  | [], l, h => ⟨Int.le_refl _, fun r hr => by cases hr⟩
  | r :: rs, l, h => by
    unfold szR at h ⊢
    split at h
    · omega
    · rename_i hh
      rw [if_neg hh]
      obtain ⟨h1, h2⟩ := szR_le rs _ h
      obtain ⟨h3, h4⟩ := szI_le (n := r.length) (l := l) (by omega)
      refine ⟨by omega, fun x hx => ?_⟩
      rcases List.mem_cons.1 hx with rfl | hx
      · exact h4
      · have := h2 x hx; omega
theorem szM_le {a : List (List Int)} {l : Int} (h : 0 ≤ szM a l) (hl : l ≤ 1048576) : szM a l ≤ l ∧ a.length ≤ 1048576 ∧ ∀ k, (a.getD k []).length ≤ 1048576 := by
  unfold szM at h ⊢
  split at h
  · omega
  · rename_i hh
    rw [if_neg hh]
    obtain ⟨h1, h2⟩ := szR_le _ _ h
    refine ⟨by omega, by omega, fun k => ?_⟩
    by_cases hk : k < a.length
    · have := h2 a[k] (List.getElem_mem hk)
      simp [hk]; omega
    · simp [Nat.not_lt.1 hk]
theorem szR_drop {a : List (List Int)} {k : Nat} {l : Int} (hk : k < a.length) : szR (a.drop k) l = if szI (a.getD k []).length l < 0 then -1 else szR (a.drop (k + 1)) (szI (a.getD k []).length l) := by
  rw [List.drop_eq_getElem_cons hk]
  have : a.getD k [] = a[k] := by simp [hk]
  rw [this]; rfl

/-! ### Steps of the determinant -/
theorem pvt_step {f : Nat → Bool} {n p : Nat} (hp : p < n) (hf : f p = true) : pvt f (n - p) p = pvt f (n - (p + 1)) (p + 1) := by
  obtain ⟨m, hm⟩ : ∃ m, n - p = m + 1 := ⟨n - p - 1, by omega⟩
  rw [hm, show n - (p + 1) = m from by omega]
  show (if f p then _ else _) = _
  rw [if_pos hf]
theorem pvt_here {f : Nat → Bool} {n p : Nat} (hf : f p = false) : pvt f (n - p) p = p := by
  cases n - p with
  | zero => rfl
  | succ m => show (if f p then _ else _) = _; rw [if_neg (by simp [hf])]
theorem pvt_out {f : Nat → Bool} {n p : Nat} (hp : n ≤ p) : pvt f (n - p) p = p := by
  rw [show n - p = 0 from by omega]; rfl

theorem inner_len {n : Nat} {M : List (List Int)} (hS : Sq n M) {r c k : Nat} (hr : r < n) (hc : c < n) (hcr : c ≠ r) {T : List Int} (hT : T.length = n) :
    (M.set r (mix k T (M.getD r []))).length = n ∧ ((M.set r (mix k T (M.getD r []))).getD r []) = mix k T (M.getD r []) ∧ (mix k T (M.getD r [])).length = n ∧ (M.set r (mix k T (M.getD r []))).getD c [] = M.getD c [] ∧ (M.getD c []).length = n := by
  have h1 := hS.len
  have h2 := hS.row r hr
  refine ⟨by simp [h1], ?_, by rw [mix_len _ _ _ (by omega)]; exact h2, ?_, hS.row c hc⟩
  · rw [getD_set _ _ _ _ _ (by omega), if_pos rfl]
  · rw [getD_set _ _ _ _ _ (by omega), if_neg hcr]

theorem inner_step {n : Nat} {M : List (List Int)} (hS : Sq n M) {r c k : Nat} (hr : r < n) (hc : c < n) (hcr : c ≠ r) (hk : k < n) {y : Int} (hy : 0 ≤ y ∧ y < 1000003) :
    (M.set r (mix k (tkr (M.getD r []) (M.getD c []) y) (M.getD r []))).set r (((M.set r (mix k (tkr (M.getD r []) (M.getD c []) y) (M.getD r []))).getD r []).set k
      (md (((M.set r (mix k (tkr (M.getD r []) (M.getD c []) y) (M.getD r []))).getD r []).getD k 0 - wr (y * ((M.set r (mix k (tkr (M.getD r []) (M.getD c []) y) (M.getD r []))).getD c []).getD k 0)))) =
    M.set r (mix (k + 1) (tkr (M.getD r []) (M.getD c []) y) (M.getD r [])) := by
  have hrl := hS.row r hr
  obtain ⟨q1, q2, q3, q4, q5⟩ := inner_len (k := k) hS hr hc hcr (T := tkr (M.getD r []) (M.getD c []) y) (by rw [tkr_len]; exact hrl)
  rw [q2, q4, List.set_set, mix_ge 0 (by rw [tkr_len]) (Nat.le_refl _) (by omega)]
  congr 1
  have hg := hS.get c k
  have hm := mul_num hy.1 hy.2 hg.1 hg.2
  rw [wr_of (by omega) (by omega)]
  unfold tkr
  rw [mix_tab rfl (by omega), md_subr]

theorem inner_end {n : Nat} {M : List (List Int)} (hS : Sq n M) {r k : Nat} (hr : r < n) (hk : n ≤ k) {T : List Int} (hT : T.length = n) : M.set r (mix k T (M.getD r [])) = M.set r T := by
  rw [mix_all (by rw [hS.row r hr]; exact hT) (by rw [hS.row r hr]; exact hk)]
end Go.Proofs.Ytjgnlnlngcjfcaa
