/- The solution of a system of series satisfies it, and begins with the solution of the system with which it begins. No condition. -/
import Derived.Test.YtjgnlnlngcjfcaaMq
namespace Go.Proofs.Ytjgnlnlngcjfcaa
open Go Go.RowKit
set_option linter.unusedVariables false
set_option linter.unusedSimpArgs false

def addL (a b : List Int) : List Int := tab (min a.length b.length) fun t => md (a.getD t 0 + b.getD t 0)
/-- The sum of products of series, part by part. -/
def accS (r x : List (List Int)) (z : List Int) : Nat → List Int
  | 0 => z
  | k + 1 => addL (accS r x z k) (proS (r.getD k []) (x.getD k []))
section
variable {a : List (List (List Int))} {b : List (List Int)} {N : Nat}
theorem SysP.some (h : SysP a b N) (hd : detM (begA a) ≠ 0) : ∃ M, jorS a b = some M := Option.ne_none_iff_exists'.1 (fun hn => hd (h.jor.1 hn))
theorem acc_at (h : SysP a b N) (hd : detM (begA a) ≠ 0) {i : Nat} (hi : i < a.length) : ∀ k, k ≤ a.length → (accS (a.getD i []) (solS a b) (List.replicate N 0) k).length = N ∧
    ∀ t, t < N → (accS (a.getD i []) (solS a b) (List.replicate N 0) k).getD t 0 = md (sm k fun j => cv (fnS ((a.getD i []).getD j [])) (fnS ((solS a b).getD j [])) t)
  | 0, _ => ⟨by simp [accS], fun t ht => by
      unfold accS sm
      simp [ht, md]⟩
  | k + 1, hk => by
    obtain ⟨h1, h2⟩ := acc_at h hd hi k (by omega)
    have hser := h.ser i k hi (by omega)
    have hl : (addL (accS (a.getD i []) (solS a b) (List.replicate N 0) k) (proS ((a.getD i []).getD k []) ((solS a b).getD k []))).length = N := by
      unfold addL
      rw [tab_len, h1, proS_len, hser.1]; simp
    refine ⟨hl, fun t ht => ?_⟩
    show (addL _ _).getD t 0 = _
    unfold addL
    rw [tab_get _ (by rw [h1, proS_len, hser.1]; simpa using ht), h2 t ht, proS_cv (by rw [hser.1]; exact ht), md_add]
    rfl
/-- The solution satisfies the system. -/
theorem acc_sol (h : SysP a b N) (hd : detM (begA a) ≠ 0) {i : Nat} (hi : i < a.length) : accS (a.getD i []) (solS a b) (List.replicate N 0) a.length = b.getD i [] := by
  obtain ⟨h1, h2⟩ := acc_at h hd hi a.length (Nat.le_refl _)
  have hb := h.bser i hi
  have hs : jorS a b ≠ none := fun hn => hd (h.jor.1 hn)
  have hsol := (solS_iff (v := fun j => fnS ((solS a b).getD j [])) h.sh hs).2 (fun r hr => EN.rfl' _) i hi
  refine leq_done (d := 0) (k := N) (fun t ht => ?_) (by rw [h1, hb.1]) (by rw [h1]; omega)
  rw [h2 t ht]
  have h3 := hsol t ht
  have hr := h.row i hi
  have eR : fnS (((augS a b).getD i []).getD a.length []) t = (b.getD i []).getD t 0 := by
    rw [augS_get a b hi, gd_right (by omega), show a.length - (a.getD i []).length = 0 from by omega]; rfl
  rw [eR] at h3
  have eL : lhs a.length (fun j => fnS ((solS a b).getD j [])) ((augS a b).getD i []) t = sm a.length fun j => cv (fnS ((a.getD i []).getD j [])) (fnS ((solS a b).getD j [])) t := by
    unfold lhs
    refine sm_congr fun j hj => ?_
    rw [augS_get a b hi, gd_left (by omega)]
  rw [eL] at h3
  have hn := allN_get hb.2 t
  rw [md_of hn.1 hn.2] at h3
  exact h3
/-- Its first coefficients are the solution of the system of numbers. -/
theorem col_sol (h : SysP a b N) (hd : detM (begA a) ≠ 0) : beg (solS a b) = solN (begA a) (beg b) := by
  obtain ⟨M, hM⟩ := h.some hd
  have e := (beg_hom h.n1).jor (sA_V N) a.length 0 (augS a b) (by omega) (by omega) h.sh
  rw [beg_aug h] at e
  have hM' : jor sA a.length a.length 0 (augS a b) = Option.some M := hM
  have hsh := Sh.jor (sA_V N) a.length 0 _ (by omega) (by omega) h.sh hM'
  have hl := hsh.len
  rw [hM'] at e
  have eN : jorN (begA a) (beg b) = Option.some (mm (fun s : List Int => s.getD 0 0) M) := by
    unfold jorN
    rw [begA_len, e]; rfl
  rw [solS_of hM, solN_of eN]
  refine leq_done (d := 0) (k := a.length) (fun r hr => ?_) (by simp [beg, mm, hl]) (by simp [beg, hl])
  unfold beg
  rw [map_getD (d := []) (by rw [List.length_map]; omega), map_getD (d := []) (by omega), map_getD (d := []) (by rw [mm_len]; omega), mm_get, begA_len, map_getD (d := []) (by rw [(hsh.row r hr).len]; omega)]
end
end Go.Proofs.Ytjgnlnlngcjfcaa
