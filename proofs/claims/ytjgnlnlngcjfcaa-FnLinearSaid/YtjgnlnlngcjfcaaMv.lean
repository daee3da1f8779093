/- What the law of linear systems says of numbers: solutions are unique, the inverse matrix, determinants. No condition. -/
import Derived.Test.YtjgnlnlngcjfcaaMu
namespace Go.Proofs.Ytjgnlnlngcjfcaa
open Go Go.RowKit
set_option linter.unusedVariables false
set_option linter.unusedSimpArgs false

/-- What solves a system of numbers is what the elimination returns. -/
theorem solN_iff {a : List (List Int)} {b : List Int} (hS : Sq a.length a) (hl : b.length = a.length) (hb : allN b = true) (hs : jorN a b ≠ none) (v : Nat → Int)
    (hv : ∀ r, r < a.length → md (sm a.length fun j => gM a r j * v j) = b.getD r 0) : ∀ r, r < a.length → md (v r) = (solN a b).getD r 0 := by
  have hA : Sh (Ser1 1) [] (mm (fun x : Int => [x]) a).length ((mm (fun x : Int => [x]) a).length + 1) (augS (mm (fun x => [x]) a) (sing b)) := by
    rw [aug_one hS hl, mm_len]; exact one_sh (aug_sh hS hb)
  have hj : jorS (mm (fun x => [x]) a) (sing b) ≠ none := by
    rw [jor_one hS hl hb]
    obtain ⟨M, hM⟩ := Option.ne_none_iff_exists'.1 hs
    rw [hM]; simp
  have h := (solS_iff (v := fun j _ => v j) hA hj).1
  rw [mm_len, aug_one hS hl, sol_one hS hl hb hs] at h
  intro r hr
  have hln := solN_len hS hb hs
  have h0 := h (fun r hr k hk => ?_) r hr 0 (by omega)
  · have e : fnS ((sing (solN a b)).getD r []) 0 = (solN a b).getD r 0 := by
      rw [sing_row _ (by omega)]; rfl
    rw [e] at h0
    have hn := allN_get (solN_num hS hb hs) r
    rw [h0]; exact md_of hn.1 hn.2
  · have hk0 : k = 0 := by omega
    subst hk0
    have hrow := (aug_sh hS hb).row r hr
    have hrl := hrow.len
    rw [mm_get]
    unfold lhs
    have e1 : (sm a.length fun j => cv (fnS ((((augN a b).getD r []).map fun x : Int => [x]).getD j [])) (fun _ => v j) 0) = sm a.length fun j => gM a r j * v j := by
      refine sm_congr fun j hj' => ?_
      rw [map_getD (d := 0) (by omega), ← aug_rel (b := b) hS r (Nat.zero_le _) hr j hj']
      rfl
    have e2 : fnS ((((augN a b).getD r []).map fun x : Int => [x]).getD a.length []) 0 = b.getD r 0 := by
      rw [map_getD (d := 0) (by omega)]
      unfold augN
      rw [tab_get _ hr, gd_right (by rw [hS.row r hr]; omega), hS.row r hr, Nat.sub_self]
      rfl
    rw [e1, e2, hv r hr]
    have hn := allN_get hb r
    exact (md_of hn.1 hn.2).symm

/-- The sum of the products of elements. -/
def dotN (a b : List Int) (k : Nat) : Int := md (sm k fun j => a.getD j 0 * b.getD j 0)
theorem dotN_step (a b : List Int) (k : Nat) : md (dotN a b k + md (a.getD k 0 * b.getD k 0)) = dotN a b (k + 1) := by
  unfold dotN
  rw [md_add]; rfl
theorem sm_comm (f : Nat → Nat → Int) (m : Nat) : ∀ n, (sm n fun i => sm m fun j => f i j) = sm m fun j => sm n fun i => f i j
  | 0 => (sm_zero (f := fun j => sm 0 fun i => f i j) (fun _ _ => rfl)).symm
  | n + 1 => by
    show (sm n fun i => sm m fun j => f i j) + (sm m fun j => f n j) = _
    rw [sm_comm f m n, ← sm_add]
    exact sm_congr fun j _ => rfl

section inv
variable {a : List (List Int)} {b : List Int}
/-- The matrix times its inverse. -/
theorem inv_right (hS : Sq a.length a) (hj : ∀ b, allN b = true → jorN a b ≠ none) {r k : Nat} (hr : r < a.length) (hk : k < a.length) :
    md (sm a.length fun j => gM a r j * gM (invN a) j k) = if r = k then 1 else 0 := by
  have h := solN_solves (b := uN a.length k) hS (by simp) (uN_num _ _) (hj _ (uN_num _ _)) hr
  have e : (uN a.length k).getD r 0 = if r = k then 1 else 0 := by
    unfold uN
    rw [getD_set _ _ _ _ _ (by simpa using hk)]
    split
    · rfl
    · simp [hr]
  rw [← e, ← h]
  congr 1
  refine sm_congr fun j hj' => ?_
  show _ * ((invN a).getD j []).getD k 0 = _
  unfold invN
  rw [tab_get _ hj']
  unfold invP
  rw [tab_get _ hk]; rfl
/-- The inverse times a right side is the solution. -/
theorem inv_sol (hS : Sq a.length a) (hj : ∀ b, allN b = true → jorN a b ≠ none) (hl : b.length = a.length) (hb : allN b = true) {i : Nat} (hi : i < a.length) :
    md (sm a.length fun j => gM (invN a) i j * b.getD j 0) = (solN a b).getD i 0 := by
  refine solN_iff hS hl hb (hj b hb) (fun i => sm a.length fun j => gM (invN a) i j * b.getD j 0) (fun r hr => ?_) i hi
  have e1 : (sm a.length fun k => gM a r k * sm a.length fun j => gM (invN a) k j * b.getD j 0) = sm a.length fun j => (sm a.length fun k => gM a r k * gM (invN a) k j) * b.getD j 0 := by
    have e2 : (sm a.length fun k => gM a r k * sm a.length fun j => gM (invN a) k j * b.getD j 0) = sm a.length fun k => sm a.length fun j => gM a r k * gM (invN a) k j * b.getD j 0 := sm_congr fun k hk => by
      rw [← sm_mul]
      exact sm_congr fun j hj => by rw [Int.mul_assoc]
    rw [e2, sm_comm]
    refine sm_congr fun j hj => ?_
    rw [Int.mul_comm _ (b.getD j 0), ← sm_mul]
    exact sm_congr fun k hk => by rw [Int.mul_comm]
  rw [e1]
  have hn := allN_get hb r
  rw [sm_md (g := fun j => if r = j then b.getD j 0 else 0) fun j hj' => by
    rw [← md_mull, inv_right hS hj hr hj']
    split
    · rw [Int.one_mul]
    · rw [Int.zero_mul], sm_delta r (fun j => b.getD j 0), if_pos hr]
  exact md_of hn.1 hn.2
/-- The inverse times a column of the matrix. -/
theorem inv_left (hS : Sq a.length a) (hj : ∀ b, allN b = true → jorN a b ≠ none) {i k : Nat} (hi : i < a.length) (hk : k < a.length) :
    md (sm a.length fun j => gM (invN a) i j * (a.map fun r => r.getD k 0).getD j 0) = if i = k then 1 else 0 := by
  have hc : ∀ j, j < a.length → (a.map fun r => r.getD k 0).getD j 0 = gM a j k := fun j hj => map_getD (d := []) hj
  have hcn : allN (a.map fun r => r.getD k 0) = true := by
    unfold allN
    rw [List.all_eq_true]
    intro x hx
    obtain ⟨r, hr, rfl⟩ := List.mem_map.1 hx
    obtain ⟨q, hq, rfl⟩ := List.mem_iff_getElem.1 hr
    have := hS.get q k
    rw [gd_at hq] at this
    exact isN_iff.2 this
  rw [inv_sol hS hj (by simp) hcn hi, ← solN_iff hS (by simp) hcn (hj _ hcn) (fun j => if j = k then 1 else 0) (fun r hr => ?_) i hi]
  · split <;> rfl
  · rw [hc r hr]
    have e : (sm a.length fun j => gM a r j * if j = k then 1 else 0) = sm a.length fun j => if k = j then gM a r j else 0 := sm_congr fun j _ => by
      by_cases q : j = k
      · rw [if_pos q, if_pos q.symm, Int.mul_one]
      · rw [if_neg q, if_neg (Ne.symm q), Int.mul_zero]
    rw [e, sm_delta k (fun j => gM a r j), if_pos hk]
    have := hS.get r k
    exact md_of this.1 this.2
theorem inv_row_num (hS : Sq a.length a) (hj : ∀ b, allN b = true → jorN a b ≠ none) {i j : Nat} (hi : i < a.length) (hj' : j < a.length) : 0 ≤ gM (invN a) i j ∧ gM (invN a) i j < 1000003 := by
  have e : gM (invN a) i j = (solN a (uN a.length j)).getD i 0 := by
    unfold gM invN
    rw [tab_get _ hi]
    unfold invP
    rw [tab_get _ hj']
  rw [e]
  exact allN_get (solN_num hS (uN_num _ _) (hj _ (uN_num _ _))) i
theorem invN_sq (hS : Sq a.length a) (hj : ∀ b, allN b = true → jorN a b ≠ none) : Sq a.length (invN a) := by
  have hr : ∀ k, k < a.length → (invN a).getD k [] = invP a a.length k := fun k hk => tab_get _ hk
  refine ⟨by simp [invN], fun k hk => by rw [hr k hk]; simp, fun k => ?_⟩
  by_cases hk : k < a.length
  · rw [hr k hk]
    exact tab_num fun j hj' => by
      have := inv_row_num hS hj hk hj'
      unfold gM at this
      rw [hr k hk] at this
      unfold invP at this
      rwa [tab_get _ hj'] at this
  · rw [show (invN a).getD k [] = [] from by simp [invN, Nat.not_lt.1 hk]]; rfl
theorem dt_one (n : Nat) {A : Nat → Nat → Int} (h : ∀ r k, r < n → k < n → A r k = if r = k then 1 else 0) : dt n A = 1 := by
  induction n generalizing A with
  | zero => rfl
  | succ n ih =>
    have h1 : dt n (mnr A 0) = 1 := ih fun r k hr hk => by
      unfold mnr
      rw [if_neg (by omega), h _ _ (by omega) (by omega)]
      by_cases e : r = k
      · rw [if_pos e, if_pos (by omega)]
      · rw [if_neg e, if_neg (by omega)]
    rw [dt_succ, sm_head, h1, h 0 0 (by omega) (by omega), if_pos rfl, sm_zero fun i hi => by
      rw [h (i + 1) 0 (by omega) (by omega), if_neg (by omega), Int.mul_zero, Int.zero_mul]]
    rfl
/-- The determinant of the inverse. -/
theorem inv_det (hS : Sq a.length a) (hj : ∀ b, allN b = true → jorN a b ≠ none) : md (detM (invN a) * detM a) = 1 := by
  have hl : (invN a).length = a.length := by simp [invN]
  have hz : allN (List.replicate a.length (0 : Int)) = true := by
    unfold allN; rw [List.all_eq_true]; intro x hx; rw [List.eq_of_mem_replicate hx]; rfl
  obtain ⟨M, hM⟩ := Option.ne_none_iff_exists'.1 (hj _ hz)
  have hsh := aug_sh (b := List.replicate a.length 0) hS hz
  have hid := jor_idn (Nat.le_succ _) a.length 0 _ (by omega) hsh (fun r hr j hj => by omega) hM
  obtain ⟨f, hf⟩ := jor_alt (Nat.le_succ _) a.length 0 _ (by omega) hsh hM
  have hrel : ∀ r k, r < a.length → k < a.length → gM (augN a (List.replicate a.length 0)) r k = gM a r k := fun r k hr hk => (aug_rel hS r (Nat.zero_le _) hr k hk).symm
  have h1 := hf _ (dt_alt a.length)
  have h2 := hf _ (mul_alt (dt_alt a.length) (gM (invN a)))
  rw [dt_one a.length fun r k hr hk => hid r hr k hk] at h1
  have e3 : md (dt a.length (mulF a.length (gM M) (gM (invN a)))) = md (dt a.length (gM (invN a))) := dt_md _ _ _ fun r k hr hk => by
    unfold mulF
    rw [sm_congr (g := fun j => if r = j then gM (invN a) j k else 0) fun j hj' => by
      rw [hid r hr j hj']; split
      · rw [Int.one_mul]
      · rw [Int.zero_mul], sm_delta r (fun j => gM (invN a) j k), if_pos hr]
  have e4 : md (dt a.length (mulF a.length (gM (augN a (List.replicate a.length 0))) (gM (invN a)))) = md 1 := by
    rw [← dt_one a.length (A := fun r k => if r = k then 1 else 0) fun r k _ _ => rfl]
    refine dt_md _ _ _ fun r k hr hk => ?_
    unfold mulF
    rw [sm_congr (g := fun j => gM a r j * gM (invN a) j k) fun j hj' => by rw [hrel r j hr hj'], inv_right hS hj hr hk]
    split <;> rfl
  have e5 : md (dt a.length (gM (augN a (List.replicate a.length 0)))) = md (dt a.length (gM a)) := dt_md _ _ _ fun r k hr hk => by rw [hrel r k hr hk]
  rw [← md_mulr, e5, md_mulr] at h1
  rw [e3, ← md_mulr, e4, md_mulr, Int.mul_one] at h2
  have hSi := invN_sq hS hj
  rw [det_dt hS, det_dt (a := invN a) (by rw [hl]; exact hSi), hl, md_mul, ← md_mull, h2, md_mull, ← h1]
  rfl
end inv

/-- Three times the sum of two rows in place of the first one. -/
theorem turn_det {a : List (List Int)} (hS : Sq a.length a) (h0 : 0 < a.length) : detM (a.set 0 (scl (addS (a.getD 0 []) (a.getD (a.length - 1) [])) 3)) = md (detM a * (if a.length = 1 then 6 else 3)) := by
  have hr0 := hS.row 0 h0
  have hr1 := hS.row (a.length - 1) (by omega)
  have hsq : Sq a.length (a.set 0 (scl (addS (a.getD 0 []) (a.getD (a.length - 1) [])) 3)) := hS.set h0 (by rw [scl_len]; unfold addS; rw [tab_len]; omega) (scl_num _ _)
  have hl : (a.set 0 (scl (addS (a.getD 0 []) (a.getD (a.length - 1) [])) 3)).length = a.length := by simp
  rw [det_dt (a := a.set 0 _) (by rw [hl]; exact hsq), hl, det_dt hS, md_mull]
  have e : md (dt a.length (gM (a.set 0 (scl (addS (a.getD 0 []) (a.getD (a.length - 1) [])) 3)))) = md (dt a.length (stR (gM a) 0 fun k => 3 * (gM a 0 k + 1 * gM a (a.length - 1) k))) := dt_md _ _ _ fun r k hr hk => by
    unfold gM stR
    rw [getD_set _ _ _ _ _ h0]
    by_cases q : r = 0
    · rw [if_pos q, if_pos q]
      have hal : (addS (a.getD 0 []) (a.getD (a.length - 1) [])).length = a.length := by unfold addS; rw [tab_len]; omega
      unfold scl
      rw [map_getD (d := 0) (by omega), md_md]
      unfold addS
      rw [tab_get _ (by omega), md_mull, Int.mul_comm]; dsimp only; rw [Int.one_mul]
    · rw [if_neg q, if_neg q]
  rw [e]
  have hA := dt_alt a.length
  by_cases h1 : a.length = 1
  · rw [if_pos h1]
    have e2 : (stR (gM a) 0 fun k => 3 * (gM a 0 k + 1 * gM a (a.length - 1) k)) = stR (gM a) 0 fun k => 6 * gM a 0 k := by
      congr 1; funext k
      rw [show a.length - 1 = 0 from by omega]; omega
    rw [e2, hA.scale h0, Int.mul_comm]
  · rw [if_neg h1]
    have e2 : (stR (gM a) 0 fun k => 3 * (gM a 0 k + 1 * gM a (a.length - 1) k)) = stR (stR (gM a) 0 fun k => gM a 0 k + 1 * gM a (a.length - 1) k) 0 fun k => 3 * (stR (gM a) 0 fun k => gM a 0 k + 1 * gM a (a.length - 1) k) 0 k := by
      funext r k
      unfold stR
      by_cases q : r = 0
      · rw [if_pos q, if_pos q]; dsimp only; rw [if_pos rfl]
      · rw [if_neg q, if_neg q, if_neg q]
    rw [e2, hA.scale h0, hA.add h0 (by omega) (by omega), Int.mul_comm]
theorem turn_sq {a : List (List Int)} (hS : Sq a.length a) (h0 : 0 < a.length) (h6 : a.length ≤ 6) : sqB (a.set 0 (scl (addS (a.getD 0 []) (a.getD (a.length - 1) [])) 3)) = true := by
  have hr0 := hS.row 0 h0
  have hsq : Sq a.length (a.set 0 (scl (addS (a.getD 0 []) (a.getD (a.length - 1) [])) 3)) := hS.set h0 (by rw [scl_len]; unfold addS; rw [tab_len]; omega) (scl_num _ _)
  have hl : (a.set 0 (scl (addS (a.getD 0 []) (a.getD (a.length - 1) [])) 3)).length = a.length := by simp
  exact sqB_is (by rw [hl]; exact hsq) (by omega)

/-! ### Headers -/
theorem HdL.one {H : Array Obj} {us : List Value} {xs : List (List Int)} {u : Value} {x : List Int} (h : HdL H us xs) (hx : Rd (rdL rI) H u x) : HdL H (us ++ [u]) (xs ++ [x]) :=
  h.app rfl fun j hj => by
    have : j = 0 := by simpa using hj
    subst this; exact hx
theorem HdL.start {H : Array Obj} {a : List (List Int)} {u : Value} {t : List Int} (hr : Rd (rdL rI) H u t) (h0 : 0 < a.length) : HdL H [u] ((a.set 0 t).take 1) := by
  rw [take_snoc [] (by simpa using h0), List.take_zero, getD_set _ _ _ _ _ h0, if_pos rfl]
  exact (show HdL H [] [] from ⟨rfl, fun j hj => by simp at hj⟩).one hr
theorem HdL.turn {H : Array Obj} {US us : List Value} {a : List (List Int)} {t : List Int} {i : Nat} {u : Value} (h : HdL H US ((a.set 0 t).take i)) (h1 : 1 ≤ i) (hi : i < a.length) (hu : u = us.getD i undef)
    (hr : ∀ k, k < a.length → Rd (rdL rI) H (us.getD k undef) (a.getD k [])) : HdL H (US ++ [u]) ((a.set 0 t).take (i + 1)) := by
  rw [take_snoc [] (by simpa using hi), getD_set _ _ _ _ _ (by omega), if_neg (by omega), hu]
  exact h.one (hr i hi)
end Go.Proofs.Ytjgnlnlngcjfcaa
