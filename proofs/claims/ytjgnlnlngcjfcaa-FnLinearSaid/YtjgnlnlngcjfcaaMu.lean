/- The determinant of elimination is that of the expansion; the inverse matrix; what the law of linear systems says. No condition. -/
import Derived.Test.YtjgnlnlngcjfcaaMt
namespace Go.Proofs.Ytjgnlnlngcjfcaa
open Go Go.RowKit
set_option linter.unusedVariables false
set_option linter.unusedSimpArgs false

theorem pvt_all (f : Nat → Bool) : ∀ m r, pvt f m r = r + m → ∀ i, r ≤ i → i < r + m → f i = true
  | 0, r, _, i, h1, h2 => by omega
  | m + 1, r, h, i, h1, h2 => by
    unfold pvt at h
    split at h
    · rename_i hf
      by_cases e : i = r
      · rw [e]; exact hf
      · exact pvt_all f m (r + 1) (by omega) i (by omega) (by omega)
    · omega
theorem dt_succ (n : Nat) (A : Nat → Nat → Int) : dt (n + 1) A = sm (n + 1) fun i => sg i * A i 0 * dt n (mnr A i) := rfl
theorem sm_first {f : Nat → Int} {n : Nat} (h : ∀ i, 1 ≤ i → i < n + 1 → md (f i) = 0) : md (sm (n + 1) f) = md (f 0) := by
  rw [sm_head, ← md_addr, sm_md (g := fun _ => 0) (fun i hi => by rw [h (i + 1) (by omega) (by omega)]; rfl), sm_zero (fun _ _ => rfl), show md 0 = 0 from rfl, Int.add_zero]
/-- The rows and columns from c on. -/
def trl (c : Nat) (M : List (List Int)) : Nat → Nat → Int := fun r k => (M.getD (c + r) []).getD (c + k) 0
theorem detF_dt {n : Nat} : ∀ (l c : Nat) (D : List (List Int)) (det : Int), c + l = n → Sq n D → (0 ≤ det ∧ det < 1000003) → detF n l c D det = md (det * dt l (trl c D))
  | 0, c, D, det, _, _, h => by
    unfold detF dt
    rw [Int.mul_one, md_of h.1 h.2]
  | l + 1, c, D, det, hl, hD, h => by
    have hc : c < n := by omega
    unfold detF
    by_cases hp : piv n c D = n
    · rw [if_pos hp]
      have hz := pvt_all _ (n - c) c (by rw [show c + (n - c) = n from by omega]; exact hp)
      have : dt (l + 1) (trl c D) = 0 := by
        unfold dt
        refine sm_zero fun i hi => ?_
        have h1 := hz (c + i) (by omega) (by omega)
        have h2 : trl c D i 0 = 0 := of_decide_eq_true h1
        rw [h2, Int.mul_zero, Int.zero_mul]
      rw [this, Int.mul_zero]; rfl
    · rw [if_neg hp]
      have hg := pvt_ge (fun r => decide ((D.getD r []).getD c 0 = 0)) (n - c) c
      have hpn : piv n c D < n := by unfold piv at hp ⊢; omega
      have hcp : c ≤ piv n c D := hg.1
      have hpv : (D.getD (piv n c D) []).getD c 0 ≠ 0 := by
        have := pvt_no (fun r => decide ((D.getD r []).getD c 0 = 0)) (n - c) c (by unfold piv at hpn; omega)
        simpa [piv] using this
      generalize piv n c D = p at hp hpn hcp hpv ⊢
      have hdl := hD.len
      have hs := hD.swap hc hpn
      have erc := swap_at (d := []) (c := c) (p := p) (l := D) (by omega) (by omega)
      dsimp only
      rw [erc]
      have hpl := hD.row p hpn
      have hnum := hD.get p c
      rw [detF_dt l (c + 1) _ _ (by omega) (elim_sq hs _ (by omega)) (md_num _)]
      -- the swapped block
      have hsw : dt (l + 1) (trl c (swapL D c p [])) = (if p ≠ c then -1 else 1) * dt (l + 1) (trl c D) := by
        by_cases e : p = c
        · subst e
          rw [swapL_self _ _ _ (by omega), if_neg (by omega), Int.one_mul]
        · rw [if_pos e]
          have e2 : trl c (swapL D c p []) = swR (trl c D) 0 (p - c) := by
            funext r k
            unfold trl swR
            rw [getD_swap _ _ _ _ _ (by omega) (by omega)]
            by_cases q : r = 0
            · subst q
              rw [if_neg (by omega), if_pos (by omega), if_pos rfl]
              show _ = (D.getD (c + (p - c)) []).getD (c + k) 0
              rw [show c + (p - c) = p from by omega]
            · rw [if_neg q]
              by_cases q2 : r = p - c
              · rw [if_pos (by omega), if_pos q2]; rfl
              · rw [if_neg (by omega), if_neg (by omega), if_neg q2]
          rw [e2, (dt_alt (l + 1)).swap (by omega) (by omega) (by omega)]
          omega
      -- the rows below are cleared
      have hiv : md ((D.getD p []).getD c 0 * inv ((D.getD p []).getD c 0)) = 1 := inv_mul (by omega) (by omega)
      generalize hT : trl c (swapL D c p []) = T at hsw
      have hT0 : ∀ k, T 0 k = (D.getD p []).getD (c + k) 0 := fun k => by
        rw [← hT]; unfold trl; rw [Nat.add_zero, erc]
      generalize hiv' : inv ((D.getD p []).getD c 0) = iv at hiv
      have hr := (dt_alt (l + 1)).rows (c := 0) (by omega) (fun r => -(T r 0 * iv)) T (l + 1) (Nat.le_refl _)
      have hone : md (dt (l + 1) (fun r k => if r < l + 1 ∧ r ≠ 0 then T r k + -(T r 0 * iv) * T 0 k else T r k)) = md ((D.getD p []).getD c 0 * dt l (trl (c + 1) (elim c (D.getD p []) iv (n - (c + 1)) (swapL D c p [])))) := by
        rw [dt_succ, sm_first]
        · have h0 : (D.getD p []).getD c 0 = T 0 0 := by rw [hT0, Nat.add_zero]
          rw [if_neg (by omega), show sg 0 = 1 from rfl, Int.one_mul, h0, ← md_mulr, ← md_mulr (T 0 0) (dt l (trl _ _))]
          congr 2
          refine dt_md l _ _ fun r k hr hk => ?_
          unfold mnr
          dsimp only
          rw [if_neg (show ¬ r < 0 by omega), if_pos (by omega)]
          unfold trl
          rw [elim_get hs _ (by omega), if_pos (by omega)]
          have hrl := hs.row (c + 1 + r) (by omega)
          unfold tkr
          rw [tab_get _ (by omega), md_md, md_subr, hT0]
          have ea : ((swapL D c p []).getD (c + 1 + r) []).getD (c + 1 + k) 0 = T (r + 1) (k + 1) := by rw [← hT]; unfold trl; rw [show c + 1 + r = c + (r + 1) from by omega, show c + 1 + k = c + (k + 1) from by omega]
          have eb : ((swapL D c p []).getD (c + 1 + r) []).getD c 0 = T (r + 1) 0 := by rw [← hT]; unfold trl; rw [show c + 1 + r = c + (r + 1) from by omega]; rfl
          rw [ea, eb, ← md_subr (T (r + 1) (k + 1)), md_mull, md_subr, show c + 1 + k = c + (k + 1) from by omega, Int.neg_mul]
          congr 1
        · intro i h1 h2
          rw [if_pos (by omega)]
          have : md (T i 0 + -(T i 0 * iv) * T 0 0) = 0 := by
            have e : T i 0 + -(T i 0 * iv) * T 0 0 = T i 0 - T i 0 * (T 0 0 * iv) := by
              rw [Int.neg_mul, Int.mul_assoc, Int.mul_comm iv]; rfl
            rw [e, ← md_subr, ← md_mulr, hT0, Nat.add_zero, hiv, Int.mul_one, md_subr, Int.sub_self]; rfl
          rw [← md_mull, ← md_mulr (sg i), this, Int.mul_zero, show md 0 = 0 from rfl, Int.zero_mul]; rfl
      rw [hr] at hone
      -- both together
      have hd2 : md (if p ≠ c then md (-det) else det) = md (det * (if p ≠ c then -1 else 1)) := by
        by_cases e : p = c
        · rw [if_neg (by omega), if_neg (by omega), Int.mul_one]
        · rw [if_pos e, if_pos e, md_md]; congr 1; omega
      rw [md_mull, Int.mul_assoc, ← md_mul, hd2, ← hone, hsw, md_mul, Int.mul_assoc, ← Int.mul_assoc (if p ≠ c then (-1 : Int) else 1)]
      have e1 : (if p ≠ c then (-1 : Int) else 1) * (if p ≠ c then (-1 : Int) else 1) = 1 := by
        split <;> rfl
      rw [e1, Int.one_mul]
theorem det_dt {a : List (List Int)} (h : Sq a.length a) : detM a = md (dt a.length (gM a)) := by
  unfold detM
  rw [detF_dt a.length 0 a 1 (by omega) h (by decide), Int.one_mul]
  congr 2
  funext r k
  unfold trl gM
  rw [Nat.zero_add, Nat.zero_add]
end Go.Proofs.Ytjgnlnlngcjfcaa
