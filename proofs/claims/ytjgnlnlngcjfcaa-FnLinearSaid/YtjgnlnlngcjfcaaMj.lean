/- The field of 1000003 elements: powers, inverses. No condition. -/
import Derived.Test.YtjgnlnlngcjfcaaMe
namespace Go.Proofs.Ytjgnlnlngcjfcaa
open Go Go.RowKit
set_option linter.unusedVariables false
set_option linter.unusedSimpArgs false

/-- A power modulo the prime, by squaring; so much fuel. -/
def pm : Nat → Nat → Nat → Nat → Nat
  | 0, _, _, acc => acc
  | f + 1, b, e, acc => pm f (b * b % 1000003) (e / 2) (if e % 2 = 1 then acc * b % 1000003 else acc)
theorem pm_spec : ∀ (f b e acc : Nat), e < 2 ^ f → pm f b e acc % 1000003 = acc * b ^ e % 1000003
  | 0, b, e, acc, h => by
    have : e = 0 := by simp at h; exact h
    subst this; simp [pm]
  | f + 1, b, e, acc, h => by
    unfold pm
    rw [pm_spec f _ _ _ (by rw [Nat.pow_succ] at h; omega)]
    have e1 : (b * b % 1000003) ^ (e / 2) % 1000003 = (b * b) ^ (e / 2) % 1000003 := (Nat.pow_mod ..).symm
    have e2 : (b * b) ^ (e / 2) = b ^ (2 * (e / 2)) := by rw [Nat.pow_mul]; congr 1; rw [Nat.pow_succ, Nat.pow_one]
    split
    · rename_i ho
      rw [Nat.mul_mod, e1, ← Nat.mul_mod, Nat.mul_mod (acc * b % 1000003), Nat.mod_mod, ← Nat.mul_mod, e2, Nat.mul_assoc, ← Nat.pow_succ']
      congr 3; omega
    · rw [Nat.mul_mod, e1, ← Nat.mul_mod, e2]
      congr 3; omega
theorem small_pow : ∀ a, a < 1001 → a = 0 ∨ pm 20 a 1000002 1 = 1 := by decide +kernel
theorem fermat_small {a e : Nat} (he : e = 1000002) (h : 0 < a) (h' : a < 1001) : a ^ e % 1000003 = 1 := by
  have h1 := (small_pow a h').resolve_left (by omega)
  have h2 : ∀ e, e < 2 ^ 20 → pm 20 a e 1 = 1 → a ^ e % 1000003 = 1 := fun e he h => by
    have h3 := pm_spec 20 a e 1 he
    rw [Nat.one_mul, h] at h3
    exact h3.symm
  exact h2 e (by subst he; decide) (by subst he; exact h1)

theorem md_pow_congr {x y : Int} (n : Nat) (h : md x = md y) : md (x ^ n) = md (y ^ n) := by rw [← md_pow, h, md_pow]
theorem neg_one_even (k : Nat) : (-1 : Int) ^ (2 * k) = 1 := by
  rw [Int.pow_mul]
  have : (-1 : Int) ^ 2 = 1 := by decide
  rw [this, Int.one_pow]
/-- The power with the exponent P - 1. -/
theorem fermat : ∀ (n a : Nat), a ≤ n → 0 < a → a < 1000003 → md ((a : Int) ^ 1000002) = 1
  | 0, a, h, h0, _ => by omega
  | n + 1, a, h, h0, h1 => by
    by_cases hs : a < 1001
    · have := fermat_small (e := 1000002) rfl h0 hs
      unfold md
      rw [← Int.natCast_pow]
      have e : ((a ^ 1000002 : Nat) : Int) % 1000003 = ((a ^ 1000002 % 1000003 : Nat) : Int) := by omega
      rw [e, this]; rfl
    · have hq : 1000003 / a < a := by rw [Nat.div_lt_iff_lt_mul (by omega)]; have := Nat.mul_le_mul (show 1001 ≤ a by omega) (show 1001 ≤ a by omega); omega
      have hq0 : 0 < 1000003 / a := Nat.div_pos (by omega) h0
      have hr : 1000003 % a < a := Nat.mod_lt _ h0
      have hr0 : 0 < 1000003 % a := by
        rcases Nat.eq_zero_or_pos (1000003 % a) with hz | hz
        · have := no_div (Nat.dvd_of_mod_eq_zero hz) (by omega); omega
        · exact hz
      have f1 := fermat n (1000003 / a) (by omega) hq0 (by omega)
      have f2 := fermat n (1000003 % a) (by omega) hr0 (by omega)
      have hdm := Nat.div_add_mod 1000003 a
      have key : md (((1000003 / a : Nat) : Int) * (a : Int)) = md (-1 * ((1000003 % a : Nat) : Int)) := by
        have e : ((1000003 / a : Nat) : Int) * (a : Int) = 1000003 + (-1 * ((1000003 % a : Nat) : Int)) := by
          have : ((a * (1000003 / a) + 1000003 % a : Nat) : Int) = 1000003 := by rw [hdm]; rfl
          rw [Int.natCast_add, Int.natCast_mul, Int.mul_comm] at this
          omega
        rw [e, Int.add_comm]; exact md_P _
      have k2 := md_pow_congr 1000002 key
      rw [Int.mul_pow, Int.mul_pow, ← md_mul, ← md_mul (_ ^ _) (((1000003 % a : Nat) : Int) ^ 1000002), f1, f2, show (1000002 : Nat) = 2 * 500001 from rfl, neg_one_even] at k2
      rw [show (2 * 500001 : Nat) = 1000002 from rfl, Int.one_mul, md_md] at k2
      rw [k2]; decide
theorem inv_mul {a : Int} (h : 0 < a) (h' : a < 1000003) : md (a * inv a) = 1 := by
  obtain ⟨x, rfl⟩ := Int.eq_ofNat_of_zero_le (show 0 ≤ a by omega)
  unfold inv pw
  rw [if_neg (by omega), md_mulr]
  have : (((1000001 : Nat) : Int)).toNat = 1000001 := rfl
  rw [this, ← Int.pow_succ']
  exact fermat x x (Nat.le_refl _) (by omega) (by omega)
end Go.Proofs.Ytjgnlnlngcjfcaa
