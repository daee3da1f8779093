/- Series as functions: sums, products, their laws. No condition. -/
import Derived.Test.YtjgnlnlngcjfcaaMj
namespace Go.Proofs.Ytjgnlnlngcjfcaa
open Go Go.RowKit
set_option linter.unusedVariables false
set_option linter.unusedSimpArgs false

/-- The product of two series, coefficient by coefficient. -/
def cv (f g : Nat → Int) : Nat → Int
  | 0 => f 0 * g 0
  | k + 1 => f 0 * g (k + 1) + cv (fun i => f (i + 1)) g k
theorem cv_congr {f f' g g' : Nat → Int} : ∀ {k : Nat}, (∀ i, i ≤ k → f i = f' i) → (∀ i, i ≤ k → g i = g' i) → cv f g k = cv f' g' k
  | 0, hf, hg => by unfold cv; rw [hf 0 (Nat.le_refl _), hg 0 (Nat.le_refl _)]
  | k + 1, hf, hg => by
    unfold cv
    rw [hf 0 (by omega), hg (k + 1) (by omega), cv_congr (k := k) (fun i hi => hf (i + 1) (by omega)) (fun i hi => hg i (by omega))]
theorem cv_addl (f f' g : Nat → Int) : ∀ k, cv (fun i => f i + f' i) g k = cv f g k + cv f' g k
  | 0 => by unfold cv; rw [Int.add_mul]
  | k + 1 => by
    unfold cv
    rw [cv_addl (fun i => f (i + 1)) (fun i => f' (i + 1)) g k, Int.add_mul]
    omega
theorem cv_smull (c : Int) (f g : Nat → Int) : ∀ k, cv (fun i => c * f i) g k = c * cv f g k
  | 0 => by unfold cv; rw [Int.mul_assoc]
  | k + 1 => by
    unfold cv
    rw [cv_smull c (fun i => f (i + 1)) g k, Int.mul_add, Int.mul_assoc]
theorem cv_addr (f g g' : Nat → Int) : ∀ k, cv f (fun i => g i + g' i) k = cv f g k + cv f g' k
  | 0 => by unfold cv; rw [Int.mul_add]
  | k + 1 => by
    unfold cv
    rw [cv_addr (fun i => f (i + 1)) g g' k, Int.mul_add]
    omega
theorem cv_smulr (c : Int) (f g : Nat → Int) : ∀ k, cv f (fun i => c * g i) k = c * cv f g k
  | 0 => by unfold cv; rw [← Int.mul_assoc, Int.mul_comm (f 0) c, Int.mul_assoc]
  | k + 1 => by
    unfold cv
    rw [cv_smulr c (fun i => f (i + 1)) g k, Int.mul_add, ← Int.mul_assoc, Int.mul_comm (f 0) c, Int.mul_assoc]
/-- The product, taken apart at the last coefficient of the first factor. -/
theorem cv_last (f g : Nat → Int) : ∀ k, cv f g (k + 1) = f (k + 1) * g 0 + cv f (fun i => g (i + 1)) k
  | 0 => by
    show f 0 * g 1 + f 1 * g 0 = f 1 * g 0 + f 0 * g 1
    omega
  | k + 1 => by
    show f 0 * g (k + 2) + cv (fun i => f (i + 1)) g (k + 1) = f (k + 2) * g 0 + (f 0 * g (k + 2) + cv (fun i => f (i + 1)) (fun i => g (i + 1)) k)
    rw [cv_last (fun i => f (i + 1)) g k]
    show f 0 * g (k + 2) + (f (k + 2) * g 0 + _) = _
    omega
theorem cv_comm : ∀ (f g : Nat → Int) (k : Nat), cv f g k = cv g f k
  | f, g, 0 => by unfold cv; rw [Int.mul_comm]
  | f, g, k + 1 => by
    rw [cv_last g f k]
    show f 0 * g (k + 1) + cv (fun i => f (i + 1)) g k = _
    rw [cv_comm (fun i => f (i + 1)) g k, Int.mul_comm]
theorem cv_assoc : ∀ (f g h : Nat → Int) (k : Nat), cv (cv f g) h k = cv f (cv g h) k
  | f, g, h, 0 => by unfold cv; unfold cv; rw [Int.mul_assoc]
  | f, g, h, k + 1 => by
    show cv f g 0 * h (k + 1) + cv (fun i => cv f g (i + 1)) h k = f 0 * cv g h (k + 1) + cv (fun i => f (i + 1)) (cv g h) k
    have e : (fun i => cv f g (i + 1)) = fun i => f 0 * g (i + 1) + cv (fun i => f (i + 1)) g i := rfl
    rw [e, cv_addl, cv_smull, cv_assoc (fun i => f (i + 1)) g h k]
    show f 0 * g 0 * h (k + 1) + _ = f 0 * (g 0 * h (k + 1) + cv (fun i => g (i + 1)) h k) + _
    rw [Int.mul_add, Int.mul_assoc]
    omega
/-- The sum of the first n values. -/
def sm (n : Nat) (f : Nat → Int) : Int := match n with
  | 0 => 0
  | n + 1 => sm n f + f n
theorem sm_congr {f g : Nat → Int} : ∀ {n : Nat}, (∀ i, i < n → f i = g i) → sm n f = sm n g
  | 0, _ => rfl
  | n + 1, h => by unfold sm; rw [sm_congr (n := n) fun i hi => h i (by omega), h n (by omega)]
theorem sm_add (f g : Nat → Int) : ∀ n, sm n (fun i => f i + g i) = sm n f + sm n g
  | 0 => rfl
  | n + 1 => by unfold sm; rw [sm_add f g n]; omega
theorem sm_mul (c : Int) (f : Nat → Int) : ∀ n, sm n (fun i => c * f i) = c * sm n f
  | 0 => by unfold sm; rw [Int.mul_zero]
  | n + 1 => by unfold sm; rw [sm_mul c f n, Int.mul_add]
theorem sm_head (f : Nat → Int) : ∀ n, sm (n + 1) f = f 0 + sm n (fun i => f (i + 1))
  | 0 => by unfold sm; unfold sm; omega
  | n + 1 => by
    show sm (n + 1) f + f (n + 1) = f 0 + (sm n (fun i => f (i + 1)) + f (n + 1))
    rw [sm_head f n]; omega
/-- The product as a sum. -/
theorem cv_sm : ∀ (f g : Nat → Int) (k : Nat), cv f g k = sm (k + 1) fun i => f i * g (k - i)
  | f, g, 0 => by unfold cv sm; unfold sm; simp
  | f, g, k + 1 => by
    rw [sm_head]
    unfold cv
    rw [cv_sm (fun i => f (i + 1)) g k]
    congr 1
    exact sm_congr fun i hi => by rw [show k + 1 - (i + 1) = k - i from by omega]
theorem sm_md {f g : Nat → Int} : ∀ {n : Nat}, (∀ i, i < n → md (f i) = md (g i)) → md (sm n f) = md (sm n g)
  | 0, _ => rfl
  | n + 1, h => by
    unfold sm
    rw [← md_add, sm_md (n := n) fun i hi => h i (by omega), h n (by omega), md_add]
theorem cv_md {f f' g g' : Nat → Int} {k : Nat} (hf : ∀ i, i ≤ k → md (f i) = md (f' i)) (hg : ∀ i, i ≤ k → md (g i) = md (g' i)) : md (cv f g k) = md (cv f' g' k) := by
  rw [cv_sm, cv_sm]
  exact sm_md fun i hi => by rw [← md_mul, hf i (by omega), hg (k - i) (by omega), md_mul]
/-- The product of lists is that of functions. -/
theorem prk_sm (a b : List Int) (k : Nat) : ∀ i, prk a b k i = md (sm i fun j => a.getD j 0 * b.getD (k - j) 0)
  | 0 => by unfold prk sm; rfl
  | i + 1 => by unfold prk sm; rw [prk_sm a b k i, md_addl]
theorem proS_cv {a b : List Int} {k : Nat} (hk : k < a.length) : (proS a b).getD k 0 = md (cv (fun i => a.getD i 0) (fun i => b.getD i 0) k) := by
  unfold proS
  rw [tab_get _ hk, prk_sm, cv_sm]
end Go.Proofs.Ytjgnlnlngcjfcaa
