/- Gauss-Jordan elimination solves: what solves the system solves each later one, and conversely. No condition. -/
import Derived.Test.YtjgnlnlngcjfcaaMl
import Derived.Test.YtjgnlnlngcjfcaaMh
namespace Go.Proofs.Ytjgnlnlngcjfcaa
open Go Go.RowKit
set_option linter.unusedVariables false
set_option linter.unusedSimpArgs false

/-- Equal modulo the prime, up to N. -/
def EN (N : Nat) (f g : Nat → Int) : Prop := ∀ k, k < N → md (f k) = md (g k)
theorem EN.rfl' {N : Nat} (f : Nat → Int) : EN N f f := fun _ _ => rfl
theorem EN.symm {N : Nat} {f g : Nat → Int} (h : EN N f g) : EN N g f := fun k hk => (h k hk).symm
theorem EN.trans {N : Nat} {f g h : Nat → Int} (h1 : EN N f g) (h2 : EN N g h) : EN N f h := fun k hk => (h1 k hk).trans (h2 k hk)
theorem EN.cv {N : Nat} {f f' g g' : Nat → Int} (hf : EN N f f') (hg : EN N g g') : EN N (cv f g) (Go.Proofs.Ytjgnlnlngcjfcaa.cv f' g') := fun k hk => cv_md (fun i hi => hf i (by omega)) (fun i hi => hg i (by omega))
theorem EN.sub {N : Nat} {f f' g g' : Nat → Int} (hf : EN N f f') (hg : EN N g g') : EN N (fun k => f k - g k) (fun k => f' k - g' k) := fun k hk => by rw [← md_sub, hf k hk, hg k hk, md_sub]
theorem EN.sm {N n : Nat} {F G : Nat → Nat → Int} (h : ∀ j, j < n → EN N (F j) (G j)) : EN N (fun k => sm n fun j => F j k) (fun k => Go.Proofs.Ytjgnlnlngcjfcaa.sm n fun j => G j k) := fun k hk => sm_md fun j hj => h j hj k hk

/-- A list as a function. -/
def fnS (s : List Int) : Nat → Int := fun i => s.getD i 0
def oneF : Nat → Int := fun i => if i = 0 then 1 else 0
def zerF : Nat → Int := fun _ => 0
theorem cv_zero (g : Nat → Int) : ∀ k, cv zerF g k = 0
  | 0 => by unfold cv zerF; rw [Int.zero_mul]
  | k + 1 => by
    unfold cv
    show 0 * g (k + 1) + cv zerF g k = 0
    rw [cv_zero g k, Int.zero_mul]; rfl
theorem cv_one (g : Nat → Int) : ∀ k, cv oneF g k = g k
  | 0 => by unfold cv oneF; simp
  | k + 1 => by
    unfold cv
    show oneF 0 * g (k + 1) + cv zerF g k = g (k + 1)
    rw [cv_zero]; simp [oneF]
theorem cv_sml (F : Nat → Nat → Int) (g : Nat → Int) (k : Nat) : ∀ n, cv (fun i => sm n fun j => F j i) g k = sm n fun j => cv (F j) g k
  | 0 => cv_zero g k
  | n + 1 => by
    show cv (fun i => (sm n fun j => F j i) + F n i) g k = (sm n fun j => cv (F j) g k) + cv (F n) g k
    rw [cv_addl, cv_sml F g k n]
theorem cv_smr (f : Nat → Int) (F : Nat → Nat → Int) (k n : Nat) : cv f (fun i => sm n fun j => F j i) k = sm n fun j => cv f (F j) k := by
  rw [cv_comm, cv_sml]
  exact sm_congr fun j _ => cv_comm _ _ _
theorem cv_subl (f f' g : Nat → Int) (k : Nat) : cv (fun i => f i - f' i) g k = cv f g k - cv f' g k := by
  have e : (fun i => f i - f' i) = fun i => f i + (-1) * f' i := funext fun i => by omega
  rw [e, cv_addl, cv_smull]; omega
theorem sm_sub (f g : Nat → Int) (n : Nat) : sm n (fun i => f i - g i) = sm n f - sm n g := by
  have e : (fun i => f i - g i) = fun i => f i + (-1) * g i := funext fun i => by omega
  rw [e, sm_add, sm_mul]; omega

section ops
variable {N : Nat} {a b : List Int}
theorem proE (ha : Ser1 N a) : EN N (fnS (proS a b)) (cv (fnS a) (fnS b)) := fun k hk => by
  show md ((proS a b).getD k 0) = _
  rw [proS_cv (by rw [ha.1]; exact hk), md_md]; rfl
theorem redE (ha : Ser1 N a) : EN N (fnS (redS a b)) (fun k => fnS a k - fnS b k) := fun k hk => by
  show md ((redS a b).getD k 0) = _
  unfold redS
  rw [tab_get _ (by rw [ha.1]; exact hk), md_md]; rfl
theorem qrk_sm (a b o : List Int) (k : Nat) : ∀ i, md (qrk a b o k i) = md (a.getD k 0 - sm i fun j => o.getD j 0 * b.getD (k - j) 0)
  | 0 => by unfold qrk sm; rw [Int.sub_zero]
  | i + 1 => by
    unfold qrk sm
    rw [md_md, ← md_subl, qrk_sm a b o k i, md_subl]
    congr 1; omega
theorem quoE (ha : Ser1 N a) (hb : Ser1 N b) (hz : b.getD 0 0 ≠ 0) : EN N (cv (fnS (quoS a b)) (fnS b)) (fnS a) := fun k hk => by
  have hb0 := allN_get hb.2 0
  have hi := inv_mul (a := b.getD 0 0) (by omega) (by omega)
  rw [cv_sm]
  show md (sm k _ + fnS (quoS a b) k * fnS b (k - k)) = md (a.getD k 0)
  rw [Nat.sub_self]
  show md ((sm k fun i => (quoS a b).getD i 0 * b.getD (k - i) 0) + (quoS a b).getD k 0 * b.getD 0 0) = _
  rw [quoS_at (by rw [ha.1]; exact hk), ← md_addr, md_mull]
  generalize hS : (sm k fun i => (quoS a b).getD i 0 * b.getD (k - i) 0) = S
  have h1 := qrk_sm a b (quoS a b) k k
  rw [hS] at h1
  rw [Int.mul_assoc, ← md_mul, h1, Int.mul_comm (inv _), hi, Int.mul_one, md_md, md_addr]
  congr 1; omega
theorem div_unique {s t d : Nat → Int} (hd : ∃ e : Int, md (d 0 * e) = 1) (h : EN N (cv s d) (cv t d)) : EN N s t := by
  obtain ⟨e, he⟩ := hd
  have key : ∀ m k, k ≤ m → k < N → md (s k) = md (t k) := by
    intro m
    induction m with
    | zero =>
      intro k hk hN
      have e0 : k = 0 := by omega
      subst e0
      have h0 := h 0 hN
      have h1 : md (s 0 * d 0) = md (t 0 * d 0) := h0
      have h2 : md (s 0 * d 0 * e) = md (t 0 * d 0 * e) := by rw [← md_mull, h1, md_mull]
      rw [Int.mul_assoc, Int.mul_assoc, ← md_mulr, he, ← md_mulr (t 0), he, Int.mul_one, Int.mul_one] at h2
      exact h2
    | succ m ih =>
      intro k hk hN
      by_cases hkm : k ≤ m
      · exact ih k hkm hN
      · have h0 := h k hN
        rw [cv_sm, cv_sm] at h0
        have h1 : md ((sm k fun i => s i * d (k - i)) + s k * d (k - k)) = md ((sm k fun i => t i * d (k - i)) + t k * d (k - k)) := h0
        have h2 : md (sm k fun i => s i * d (k - i)) = md (sm k fun i => t i * d (k - i)) := sm_md fun i hi => by rw [← md_mull, ih i (by omega) (by omega), md_mull]
        rw [Nat.sub_self] at h1
        have h3 : md (s k * d 0) = md (t k * d 0) := by
          have e1 : s k * d 0 = ((sm k fun i => s i * d (k - i)) + s k * d 0) - (sm k fun i => s i * d (k - i)) := by omega
          have e2 : t k * d 0 = ((sm k fun i => t i * d (k - i)) + t k * d 0) - (sm k fun i => t i * d (k - i)) := by omega
          rw [e1, e2, ← md_sub, h1, h2, md_sub]
        have h4 : md (s k * d 0 * e) = md (t k * d 0 * e) := by rw [← md_mull, h3, md_mull]
        rw [Int.mul_assoc, Int.mul_assoc, ← md_mulr, he, ← md_mulr (t k), he, Int.mul_one, Int.mul_one] at h4
        exact h4
  exact fun k hk => key k k (Nat.le_refl _) hk
theorem unit_of (hb : Ser1 N b) (hz : b.getD 0 0 ≠ 0) : ∃ e : Int, md (fnS b 0 * e) = 1 := by
  have hb0 := allN_get hb.2 0
  exact ⟨inv (b.getD 0 0), inv_mul (a := b.getD 0 0) (by omega) (by omega)⟩
end ops

/-! ### Rows and systems -/
section sys
variable {N n c p : Nat} {v : Nat → Nat → Int}
/-- The left side of a row. -/
def lhs (n : Nat) (v : Nat → Nat → Int) (row : List (List Int)) : Nat → Int := fun k => sm n fun j => cv (fnS (row.getD j [])) (v j) k
def rowSol (N n : Nat) (v : Nat → Nat → Int) (row : List (List Int)) : Prop := EN N (lhs n v row) (fnS (row.getD n []))
def SolS (N n : Nat) (v : Nat → Nat → Int) (M : List (List (List Int))) : Prop := ∀ r, r < n → rowSol N n v (M.getD r [])

theorem row_q {row : List (List Int)} (h : RowV (Ser1 N) [] (n + 1) row) (hc : c < n) (hz : (row.getD c []).getD 0 0 ≠ 0) : rowSol N n v row ↔ rowSol N n v (rowQ sA c row) := by
  have hd := h.val c (by omega)
  have hg : ∀ j, j < n + 1 → (rowQ sA c row).getD j [] = quoS (row.getD j []) (row.getD c []) := fun j hj => rowQ_get (R := sA) (by rw [h.len]; exact hj)
  have hq : ∀ j, j < n + 1 → EN N (cv (fnS ((rowQ sA c row).getD j [])) (fnS (row.getD c []))) (fnS (row.getD j [])) := fun j hj => by
    rw [hg j hj]; exact quoE (h.val j hj) hd hz
  have key : EN N (cv (lhs n v (rowQ sA c row)) (fnS (row.getD c []))) (lhs n v row) := by
    have e : cv (lhs n v (rowQ sA c row)) (fnS (row.getD c [])) = fun k => sm n fun j => cv (cv (fnS ((rowQ sA c row).getD j [])) (fnS (row.getD c []))) (v j) k := by
      funext k
      unfold lhs
      rw [cv_sml]
      refine sm_congr fun j _ => ?_
      rw [cv_assoc, cv_assoc]
      exact cv_congr (fun _ _ => rfl) fun i _ => cv_comm _ _ i
    rw [e]
    exact EN.sm fun j hj => (hq j (by omega)).cv (EN.rfl' _)
  have hn := hq n (by omega)
  constructor
  · intro hs
    exact div_unique (unit_of hd hz) (key.trans (EN.trans hs hn.symm))
  · intro hs
    exact key.symm.trans (EN.trans (EN.cv hs (EN.rfl' _)) hn)
theorem row_t {row other : List (List Int)} (h : RowV (Ser1 N) [] (n + 1) row) (ho : RowV (Ser1 N) [] (n + 1) other) (hc : c < n) (hs : rowSol N n v other) : rowSol N n v row ↔ rowSol N n v (rowT sA c row other) := by
  have hf := h.val c (by omega)
  have hg : ∀ j, j < n + 1 → (rowT sA c row other).getD j [] = redS (row.getD j []) (proS (row.getD c []) (other.getD j [])) := fun j hj => rowT_get (R := sA) (by rw [h.len]; exact hj)
  have ht : ∀ j, j < n + 1 → EN N (fnS ((rowT sA c row other).getD j [])) (fun k => fnS (row.getD j []) k - cv (fnS (row.getD c [])) (fnS (other.getD j [])) k) := fun j hj => by
    rw [hg j hj]
    exact (redE (h.val j hj)).trans (EN.sub (EN.rfl' _) (proE hf))
  have key : EN N (lhs n v (rowT sA c row other)) (fun k => lhs n v row k - cv (fnS (row.getD c [])) (lhs n v other) k) := by
    have e : (fun k => lhs n v row k - cv (fnS (row.getD c [])) (lhs n v other) k) = fun k => sm n fun j => cv (fun i => fnS (row.getD j []) i - cv (fnS (row.getD c [])) (fnS (other.getD j [])) i) (v j) k := by
      funext k
      unfold lhs
      rw [cv_smr, ← sm_sub]
      refine sm_congr fun j _ => ?_
      rw [cv_subl, cv_assoc]
    rw [e]
    exact EN.sm fun j hj => (ht j (by omega)).cv (EN.rfl' _)
  have hn := ht n (by omega)
  have hco : EN N (cv (fnS (row.getD c [])) (lhs n v other)) (cv (fnS (row.getD c [])) (fnS (other.getD n []))) := EN.cv (EN.rfl' _) hs
  constructor
  · intro hr
    exact key.trans (EN.trans (EN.sub hr hco) hn.symm)
  · intro hr k hk
    have h1 := (key.symm.trans (EN.trans hr hn)) k hk
    have h2 := hco k hk
    dsimp only at h1
    have e1 : lhs n v row k = (lhs n v row k - cv (fnS (row.getD c [])) (lhs n v other) k) + cv (fnS (row.getD c [])) (lhs n v other) k := by omega
    rw [e1, ← md_add, h1, h2, md_add]
    congr 1; omega
theorem sol_step {M : List (List (List Int))} (h : Sh (Ser1 N) [] n (n + 1) M) (hc : c < n) (hp : p < n) (hz : ((M.getD p []).getD c []).getD 0 0 ≠ 0) : SolS N n v M ↔ SolS N n v (stepJ sA n c p M) := by
  have hq := row_q (v := v) (h.row p hp) hc hz
  have hqv : RowV (Ser1 N) [] (n + 1) (rowQ sA c (M.getD p [])) := (h.row p hp).q (sA_V N) (by omega)
  constructor
  · intro hs r hr
    rw [stepJ_get h hc hp hr]
    have hc' := hq.1 (hs p hp)
    split
    · exact hc'
    · split
      · exact (row_t (h.row c hc) hqv hc hc').1 (hs c hc)
      · exact (row_t (h.row r hr) hqv hc hc').1 (hs r hr)
  · intro hs r hr
    have hc' : rowSol N n v (rowQ sA c (M.getD p [])) := by
      have := hs c hc
      rwa [stepJ_get h hc hp hc, if_pos rfl] at this
    have hp' := hq.2 hc'
    by_cases hrp : r = p
    · rw [hrp]; exact hp'
    · by_cases hrc : r = c
      · have hpc : p ≠ c := fun e => hrp (hrc.trans e.symm)
        have := hs p hp
        rw [stepJ_get h hc hp hp, if_neg hpc, if_pos rfl] at this
        rw [hrc]
        exact (row_t (h.row c hc) hqv hc hc').2 this
      · have := hs r hr
        rw [stepJ_get h hc hp hr, if_neg hrc, if_neg hrp] at this
        exact (row_t (h.row r hr) hqv hc hc').2 this

def delta (r j : Nat) : Nat → Int := if r = j then oneF else zerF
/-- The first c columns are those of the unit matrix. -/
def Idn (N n c : Nat) (M : List (List (List Int))) : Prop := ∀ r, r < n → ∀ j, j < c → EN N (fnS ((M.getD r []).getD j [])) (delta r j)
theorem idn_step {M : List (List (List Int))} (h : Sh (Ser1 N) [] n (n + 1) M) (hI : Idn N n c M) (hc : c < n) (hp : p < n) (hcp : c ≤ p) (hz : ((M.getD p []).getD c []).getD 0 0 ≠ 0) : Idn N n (c + 1) (stepJ sA n c p M) := by
  have hpr := h.row p hp
  have hd := hpr.val c (by omega)
  have hu := unit_of hd hz
  have hg : ∀ j, j < n + 1 → (rowQ sA c (M.getD p [])).getD j [] = quoS ((M.getD p []).getD j []) ((M.getD p []).getD c []) := fun j hj => rowQ_get (R := sA) (by rw [hpr.len]; exact hj)
  have hq : ∀ j, j < n + 1 → EN N (cv (fnS ((rowQ sA c (M.getD p [])).getD j [])) (fnS ((M.getD p []).getD c []))) (fnS ((M.getD p []).getD j [])) := fun j hj => by
    rw [hg j hj]; exact quoE (hpr.val j hj) hd hz
  have hrow : ∀ j, j < c + 1 → EN N (fnS ((rowQ sA c (M.getD p [])).getD j [])) (delta c j) := by
    intro j hj
    by_cases e : c = j
    · subst e
      unfold delta; rw [if_pos rfl]
      exact div_unique hu ((hq c (by omega)).trans fun k _ => by rw [cv_one])
    · unfold delta; rw [if_neg e]
      have h0 := hI p hp j (by omega)
      unfold delta at h0; rw [if_neg (by omega)] at h0
      exact div_unique hu ((hq j (by omega)).trans (h0.trans fun k _ => by rw [cv_zero]; rfl))
  intro r hr j hj
  rw [stepJ_get h hc hp hr]
  by_cases hrc : r = c
  · rw [if_pos hrc, hrc]; exact hrow j hj
  · rw [if_neg hrc]
    have gen : ∀ X : List (List Int), RowV (Ser1 N) [] (n + 1) X → (j < c → EN N (fnS (X.getD j [])) (delta r j)) → EN N (fnS ((rowT sA c X (rowQ sA c (M.getD p []))).getD j [])) (delta r j) := by
      intro X hX hXj
      have e := rowT_get (R := sA) (c := c) (row := X) (other := rowQ sA c (M.getD p [])) (k := j) (by rw [hX.len]; omega)
      have e' : (rowT sA c X (rowQ sA c (M.getD p []))).getD j [] = redS (X.getD j []) (proS (X.getD c []) ((rowQ sA c (M.getD p [])).getD j [])) := e
      rw [e']
      have h1 := (redE (b := proS (X.getD c []) ((rowQ sA c (M.getD p [])).getD j [])) (hX.val j (by omega))).trans (EN.sub (EN.rfl' _) (proE (b := (rowQ sA c (M.getD p [])).getD j []) (hX.val c (by omega))))
      have h2 := h1.trans (EN.sub (EN.rfl' _) (EN.cv (EN.rfl' _) (hrow j hj)))
      by_cases hjc : j = c
      · subst hjc
        refine h2.trans fun k hk => ?_
        unfold delta
        rw [if_pos rfl, if_neg hrc]
        have : cv (fnS (X.getD j [])) oneF k = fnS (X.getD j []) k := by rw [cv_comm, cv_one]
        dsimp only
        rw [this, Int.sub_self]; rfl
      · refine (h2.trans fun k hk => ?_).trans (hXj (by omega))
        unfold delta
        rw [if_neg (Ne.symm hjc)]
        have : cv (fnS (X.getD c [])) zerF k = 0 := by rw [cv_comm, cv_zero]
        rw [this, Int.sub_zero]
    split
    · rename_i hrp
      refine gen _ (h.row c hc) fun hjc => ?_
      have h0 := hI c hc j hjc
      unfold delta at h0 ⊢
      rw [if_neg (by omega)] at h0
      rw [if_neg (by omega)]; exact h0
    · exact gen _ (h.row r hr) fun hjc => hI r hr j hjc
theorem jor_sol : ∀ (l c : Nat) (M : List (List (List Int))), c + l = n → Sh (Ser1 N) [] n (n + 1) M → Idn N n c M → ∀ {M' : List (List (List Int))}, jor sA n l c M = some M' → (Idn N n n M' ∧ Sh (Ser1 N) [] n (n + 1) M' ∧ (SolS N n v M ↔ SolS N n v M'))
  | 0, c, M, hl, h, hI, M', e => by
    cases e
    have : c = n := by omega
    subst this
    exact ⟨hI, h, Iff.rfl⟩
  | l + 1, c, M, hl, h, hI, M', e => by
    unfold jor at e
    split at e
    · cases e
    · rename_i hp
      obtain ⟨h1, h2, h3⟩ := pvJ_lt sA hp (by omega)
      have hz : ((M.getD (pvJ sA n c M) []).getD c []).getD 0 0 ≠ 0 := by simpa [sA] using h3
      obtain ⟨q1, q2, q3⟩ := jor_sol l (c + 1) _ (by omega) (h.step (sA_V N) (by omega) h2 (by omega)) (idn_step h hI (by omega) h2 h1 hz) e
      exact ⟨q1, q2, (sol_step h (by omega) h2 hz).trans q3⟩
theorem sm_delta (r : Nat) (g : Nat → Int) : ∀ m, (sm m fun j => if r = j then g j else 0) = if r < m then g r else 0
  | 0 => by unfold sm; simp
  | m + 1 => by
    unfold sm
    rw [sm_delta r g m]
    by_cases h1 : r < m
    · rw [if_pos h1, if_neg (by omega), if_pos (by omega)]; omega
    · by_cases h2 : r = m
      · subst h2; rw [if_neg h1, if_pos rfl, if_pos (by omega)]; omega
      · rw [if_neg h1, if_neg h2, if_neg (by omega)]; rfl
theorem sol_idn {M : List (List (List Int))} (hI : Idn N n n M) : SolS N n v M ↔ ∀ r, r < n → EN N (v r) (fnS ((M.getD r []).getD n [])) := by
  have key : ∀ r, r < n → EN N (lhs n v (M.getD r [])) (v r) := by
    intro r hr
    have h1 : EN N (lhs n v (M.getD r [])) (fun k => sm n fun j => cv (delta r j) (v j) k) := EN.sm fun j hj => (hI r hr j hj).cv (EN.rfl' _)
    refine h1.trans fun k hk => ?_
    have e : (sm n fun j => cv (delta r j) (v j) k) = sm n fun j => if r = j then v j k else 0 := sm_congr fun j _ => by
      unfold delta
      split
      · rw [cv_one]
      · rw [cv_zero]
    dsimp only
    rw [e, sm_delta r (fun j => v j k) n, if_pos hr]
  constructor
  · exact fun hs r hr => (key r hr).symm.trans (hs r hr)
  · exact fun hs r hr => (key r hr).trans (hs r hr)
/-- What solves a system of series is what the elimination returns. -/
theorem solS_iff {a : List (List (List Int))} {b : List (List Int)} (hA : Sh (Ser1 N) [] a.length (a.length + 1) (augS a b)) (hs : jorS a b ≠ none) :
    SolS N a.length v (augS a b) ↔ ∀ r, r < a.length → EN N (v r) (fnS ((solS a b).getD r [])) := by
  obtain ⟨M, hM⟩ := Option.ne_none_iff_exists'.1 hs
  obtain ⟨q1, q2, q3⟩ := jor_sol (v := v) a.length 0 _ (by omega) hA (fun r hr j hj => by omega) hM
  rw [q3, sol_idn q1, show solS a b = lastC a.length [] M from by unfold solS; rw [hM]; rfl]
  have hl := q2.len
  have e : ∀ r, r < a.length → (lastC a.length [] M).getD r [] = (M.getD r []).getD a.length [] := fun r hr => by
    unfold lastC
    rw [map_getD (d := []) (by omega)]
  constructor
  · exact fun h r hr => by rw [e r hr]; exact h r hr
  · exact fun h r hr => by have := h r hr; rwa [e r hr] at this
end sys

/-! ### Numbers -/
/-- The solution of a system of numbers solves it. -/
theorem solN_solves {a : List (List Int)} {b : List Int} (hS : Sq a.length a) (hl : b.length = a.length) (hb : allN b = true) (hs : jorN a b ≠ none) {r : Nat} (hr : r < a.length) :
    md (sm a.length fun j => (a.getD r []).getD j 0 * (solN a b).getD j 0) = b.getD r 0 := by
  have hA : Sh (Ser1 1) [] (mm (fun x : Int => [x]) a).length ((mm (fun x : Int => [x]) a).length + 1) (augS (mm (fun x => [x]) a) (sing b)) := by
    rw [aug_one hS hl, mm_len]; exact one_sh (aug_sh hS hb)
  have hj : jorS (mm (fun x => [x]) a) (sing b) ≠ none := by
    rw [jor_one hS hl hb]
    obtain ⟨M, hM⟩ := Option.ne_none_iff_exists'.1 hs
    rw [hM]; simp
  have h := (solS_iff (v := fun j => fnS ((solS (mm (fun x => [x]) a) (sing b)).getD j [])) hA hj).2 (fun r hr => EN.rfl' _)
  rw [mm_len] at h
  have h0 := h r hr 0 (by omega)
  rw [sol_one hS hl hb hs] at h0
  have hln := solN_len hS hb hs
  unfold lhs at h0
  rw [aug_one hS hl, mm_get] at h0
  have hrow := (aug_sh hS hb).row r hr
  have hrl := hrow.len
  have e1 : (sm a.length fun j => cv (fnS ((((augN a b).getD r []).map fun x : Int => [x]).getD j [])) (fnS ((sing (solN a b)).getD j [])) 0) = sm a.length fun j => (a.getD r []).getD j 0 * (solN a b).getD j 0 := by
    refine sm_congr fun j hj' => ?_
    rw [map_getD (d := 0) (by omega), sing_row _ (by omega), ← aug_rel (b := b) hS r (Nat.zero_le _) hr j hj']
    rfl
  have e2 : fnS ((((augN a b).getD r []).map fun x : Int => [x]).getD a.length []) 0 = b.getD r 0 := by
    rw [map_getD (d := 0) (by omega)]
    unfold augN
    rw [tab_get _ hr, gd_right (by rw [hS.row r hr]; omega), hS.row r hr, Nat.sub_self]
    rfl
  rw [e1, e2] at h0
  rw [h0]
  have := allN_get hb r
  exact md_of this.1 this.2
end Go.Proofs.Ytjgnlnlngcjfcaa
