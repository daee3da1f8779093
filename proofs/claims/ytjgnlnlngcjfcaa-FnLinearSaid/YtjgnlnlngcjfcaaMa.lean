/- Plain arithmetic modulo 1000003. No condition. -/
import Derived.Test.YtjgnlnlngcjfcaaFwH
namespace Go.Proofs.Ytjgnlnlngcjfcaa

theorem hidI {p : Prop} (h : p) : RowKit.Hid p := h

/-- The residue. -/
def md (x : Int) : Int := x % 1000003
theorem md_nonneg (x : Int) : 0 ≤ md x := Int.emod_nonneg x (by decide)
theorem md_lt (x : Int) : md x < 1000003 := Int.emod_lt_of_pos x (by decide)
theorem md_rng (x : Int) : -9223372036854775808 ≤ md x ∧ md x ≤ 9223372036854775807 := by
  have := md_nonneg x; have := md_lt x; omega
theorem md_of {x : Int} (h : 0 ≤ x) (h' : x < 1000003) : md x = x := Int.emod_eq_of_lt h h'
theorem md_md (x : Int) : md (md x) = md x := md_of (md_nonneg x) (md_lt x)
theorem md_add (a b : Int) : md (md a + md b) = md (a + b) := by unfold md; rw [← Int.add_emod]
theorem md_mul (a b : Int) : md (md a * md b) = md (a * b) := by unfold md; rw [← Int.mul_emod]
theorem md_sub (a b : Int) : md (md a - md b) = md (a - b) := by unfold md; rw [← Int.sub_emod]
theorem md_addl (a b : Int) : md (md a + b) = md (a + b) := by rw [← md_add, md_md, md_add]
theorem md_addr (a b : Int) : md (a + md b) = md (a + b) := by rw [← md_add, md_md, md_add]
theorem md_mull (a b : Int) : md (md a * b) = md (a * b) := by rw [← md_mul, md_md, md_mul]
theorem md_mulr (a b : Int) : md (a * md b) = md (a * b) := by rw [← md_mul, md_md, md_mul]
theorem md_subl (a b : Int) : md (md a - b) = md (a - b) := by rw [← md_sub, md_md, md_sub]
theorem md_subr (a b : Int) : md (a - md b) = md (a - b) := by rw [← md_sub, md_md, md_sub]
theorem md_P (a : Int) : md (a + 1000003) = md a := by unfold md; omega
theorem md_neg (a : Int) : md (-(md a)) = md (-a) := by have := md_subr 0 a; simpa using this

/-- The residue is a number; numbers multiply without overflow. -/
theorem mul_num {a b : Int} (ha : 0 ≤ a) (ha' : a < 1000003) (hb : 0 ≤ b) (hb' : b < 1000003) : 0 ≤ a * b ∧ a * b ≤ 1000004000004 := by
  refine ⟨Int.mul_nonneg ha hb, ?_⟩
  have h1 : a * b ≤ 1000002 * b := Int.mul_le_mul_of_nonneg_right (by omega) hb
  have h2 : 1000002 * b ≤ 1000002 * 1000002 := Int.mul_le_mul_of_nonneg_left (by omega) (by decide)
  omega

theorem tm (x : Int) : x.tmod 1000003 = if 0 ≤ x then md x else -(md (-x)) := by
  unfold md
  split
  · rename_i h; exact Int.tmod_eq_emod_of_nonneg h
  · rename_i h
    have := Int.tmod_eq_emod_of_nonneg (a := -x) (b := 1000003) (by omega)
    rw [Int.neg_tmod] at this
    omega

theorem wr_of {x : Int} (h : -9223372036854775808 ≤ x) (h' : x ≤ 9223372036854775807) : wr x = x := w64 h h'

/-- impl.Residue. -/
theorem res_eq (n : Int) : (wr (n.tmod 1000003 + ((1000003 : Nat) : Int))).tmod 1000003 = md n := by
  have h1 := md_nonneg n; have h2 := md_lt n; have h3 := md_nonneg (-n); have h4 := md_lt (-n)
  rw [tm n]
  split
  · rw [wr_of (by omega) (by omega), tm, if_pos (by omega)]
    have := md_P (md n)
    rw [md_md] at this
    simpa using this
  · rw [wr_of (by omega) (by omega), tm, if_pos (by omega)]
    have e1 : md (-(md (-n)) + ((1000003 : Nat) : Int)) = md (-(md (-n))) := md_P _
    rw [e1, md_neg]
    simp

/-- A sum of residues. -/
theorem plus_eq (a b : Int) : (wr (md a + md b)).tmod 1000003 = md (a + b) := by
  have h1 := md_nonneg a; have h2 := md_lt a; have h3 := md_nonneg b; have h4 := md_lt b
  rw [wr_of (by omega) (by omega), tm, if_pos (by omega), md_add]
theorem times_eq (a b : Int) : (wr (md a * md b)).tmod 1000003 = md (a * b) := by
  have := mul_num (md_nonneg a) (md_lt a) (md_nonneg b) (md_lt b)
  rw [wr_of (by omega) (by omega), tm, if_pos (by omega), md_mul]
theorem minus_eq (a b : Int) : md (a + wr (((1000003 : Nat) : Int) - md b)) = md (a - b) := by
  have h3 := md_nonneg b; have h4 := md_lt b
  rw [wr_of (by omega) (by omega), show a + (((1000003 : Nat) : Int) - md b) = (a - md b) + 1000003 from by omega, md_P, md_subr]

theorem md_pow (a : Int) (k : Nat) : md ((md a) ^ k) = md (a ^ k) := by
  induction k with
  | zero => rw [Int.pow_zero, Int.pow_zero]
  | succ k ih => rw [Int.pow_succ, Int.pow_succ, ← md_mul, ih, md_md, md_mul]

/-- The power. -/
def pw (a n : Int) : Int := if n < 0 then 0 else md (a ^ n.toNat)
theorem pw_rng (a n : Int) : -9223372036854775808 ≤ pw a n ∧ pw a n ≤ 9223372036854775807 := by
  unfold pw; split
  · omega
  · exact md_rng _
theorem pw_num (a n : Int) : 0 ≤ pw a n ∧ pw a n < 1000003 := by
  unfold pw; split
  · omega
  · exact ⟨md_nonneg _, md_lt _⟩
/-- The inverse. -/
def inv (a : Int) : Int := pw a ((1000001 : Nat) : Int)
theorem inv_rng (a : Int) : -9223372036854775808 ≤ inv a ∧ inv a ≤ 9223372036854775807 := pw_rng _ _
theorem inv_num (a : Int) : 0 ≤ inv a ∧ inv a < 1000003 := pw_num _ _

theorem pw_start (a : Int) (k : Nat) : md (((1 : Nat) : Int) * (md a) ^ k) = md (a ^ k) := by
  rw [show ((1 : Nat) : Int) * (md a) ^ k = (md a) ^ k from Int.one_mul _, md_pow]
theorem pw_odd {x b m R : Int} (h : md (x * b ^ m.toNat) = R) (h0 : 0 < m) (h1 : m % 2 = 1) : md (md (x * b) * (md (b * b)) ^ (m / 2).toNat) = R := by
  rw [← h, ← md_mul, md_md, md_pow, md_mul]
  congr 1
  have e : m.toNat = 2 * (m / 2).toNat + 1 := by omega
  rw [e, Int.pow_succ, Int.pow_mul, show b ^ 2 = b * b from by rw [Int.pow_succ, Int.pow_succ, Int.pow_zero, Int.one_mul]]
  rw [Int.mul_comm ((b * b) ^ (m / 2).toNat) b, Int.mul_assoc]
theorem pw_even {x b m R : Int} (h : md (x * b ^ m.toNat) = R) (h0 : 0 < m) (h1 : ¬ m % 2 = 1) : md (x * (md (b * b)) ^ (m / 2).toNat) = R := by
  rw [← h, ← md_mul, md_pow, md_mul]
  congr 1
  have e : m.toNat = 2 * (m / 2).toNat := by omega
  rw [e, Int.pow_mul, show b ^ 2 = b * b from by rw [Int.pow_succ, Int.pow_succ, Int.pow_zero, Int.one_mul]]
theorem pw_end {x b m a n : Int} (h : md (x * b ^ m.toNat) = md (a ^ n.toNat)) (h0 : 0 ≤ m) (h1 : ¬ ((0 : Nat) : Int) < m) (hn : ¬ n < ((0 : Nat) : Int)) (hx : 0 ≤ x ∧ x < 1000003) : x = pw a n := by
  have e : m = 0 := by omega
  subst e
  unfold pw
  rw [if_neg (by omega), ← h]
  simp only [Int.toNat_zero, Int.pow_zero, Int.mul_one]
  rw [md_of hx.1 hx.2]
theorem pw_neg {a n : Int} (h : n < ((0 : Nat) : Int)) : ((0 : Nat) : Int) = pw a n := by
  unfold pw; rw [if_pos (by omega)]; rfl
theorem tm2 {m : Int} (h : 0 ≤ m) : m.tmod ((2 : Nat) : Int) = m % 2 := Int.tmod_eq_emod_of_nonneg h
theorem td2 {m : Int} (h : 0 ≤ m) (h' : m ≤ 9223372036854775807) : IntKind.i64.wrap (m.tdiv ((2 : Nat) : Int)) = m / 2 := by
  rw [Int.tdiv_eq_ediv_of_nonneg h]
  exact wr_of (x := m / 2) (by omega) (by omega)
theorem nm_eq {x b : Int} (hx : 0 ≤ x ∧ x < 1000003) (hb : 0 ≤ b ∧ b < 1000003) : (wr (x * b)).tmod ((1000003 : Nat) : Int) = md (x * b) := by
  have := mul_num hx.1 hx.2 hb.1 hb.2
  rw [wr_of (by omega) (by omega)]
  have := tm (x * b)
  rw [if_pos (by omega)] at this
  exact this
theorem md_num (x : Int) : 0 ≤ md x ∧ md x < 1000003 := ⟨md_nonneg x, md_lt x⟩

/-- A number, as the program says it. -/
def isN (n : Int) : Bool := decide (0 ≤ n) && decide (n ≤ 1000002)
theorem isN_iff {n : Int} : isN n = true ↔ 0 ≤ n ∧ n < 1000003 := by
  unfold isN; simp only [Bool.and_eq_true, decide_eq_true_eq]; omega
def allN (l : List Int) : Bool := l.all isN

theorem all_none (f : Int → Bool) (l : List Int) : (l.take 0).all f = true := rfl
theorem all_succ {α : Type} {f : α → Bool} {l : List α} {k : Nat} (d : α) (h : (l.take k).all f = true) (hk : k < l.length) (hf : f (l.getD k d) = true) : (l.take (k + 1)).all f = true := by
  rw [List.take_succ_eq_append_getElem hk, List.all_append, h]
  have e : l.getD k d = l[k] := by simp [hk]
  rw [e] at hf
  simp [hf]
theorem all_fail {α : Type} {f : α → Bool} {l : List α} {k : Nat} (d : α) (hk : k < l.length) (hf : f (l.getD k d) = false) : l.all f = false := by
  have e : l.getD k d = l[k] := by simp [hk]
  rw [e] at hf
  rw [List.all_eq_false]
  exact ⟨l[k], List.getElem_mem hk, by simp [hf]⟩
theorem all_done {α : Type} {f : α → Bool} {l : List α} {k : Nat} (h : (l.take k).all f = true) (hk : l.length ≤ k) : l.all f = true := by
  rwa [List.take_of_length_le hk] at h
theorem allN_get {l : List Int} (h : allN l = true) (k : Nat) : 0 ≤ l.getD k 0 ∧ l.getD k 0 < 1000003 := by
  by_cases hk : k < l.length
  · have e : l.getD k 0 = l[k] := by simp [hk]
    rw [e]
    exact isN_iff.1 (List.all_eq_true.1 h _ (List.getElem_mem hk))
  · have e : l.getD k 0 = 0 := by simp [Nat.not_lt.1 hk]
    rw [e]; omega
end Go.Proofs.Ytjgnlnlngcjfcaa
