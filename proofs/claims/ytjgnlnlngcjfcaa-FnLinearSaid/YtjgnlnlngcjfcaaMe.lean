/- The plain law of series: products, quotients, differences, coefficient by coefficient. No condition. -/
import Derived.Test.YtjgnlnlngcjfcaaMd
namespace Go.Proofs.Ytjgnlnlngcjfcaa
set_option linter.unusedVariables false
set_option linter.unusedSimpArgs false
open Go Go.RowKit

/-- The sum of the first i products of the coefficient k. -/
def prk (a b : List Int) (k : Nat) : Nat → Int
  | 0 => 0
  | i + 1 => md (prk a b k i + a.getD i 0 * b.getD (k - i) 0)
theorem prk_num (a b : List Int) (k : Nat) : ∀ i, 0 ≤ prk a b k i ∧ prk a b k i < 1000003
  | 0 => by unfold prk; omega
  | i + 1 => md_num _
def proS (a b : List Int) : List Int := tab a.length fun k => prk a b k (k + 1)
@[simp] theorem proS_len (a b : List Int) : (proS a b).length = a.length := by simp [proS]
theorem proS_num (a b : List Int) : allN (proS a b) = true := tab_num fun _ _ => prk_num _ _ _ _
/-- What is left of the coefficient k when i products are taken off. -/
def qrk (a b o : List Int) (k : Nat) : Nat → Int
  | 0 => a.getD k 0
  | i + 1 => md (qrk a b o k i - o.getD i 0 * b.getD (k - i) 0)
def quL (a b : List Int) : Nat → List Int
  | 0 => []
  | k + 1 => quL a b k ++ [md (qrk a b (quL a b k) k k * inv (b.getD 0 0))]
def quoS (a b : List Int) : List Int := quL a b a.length
@[simp] theorem quL_len (a b : List Int) : ∀ k, (quL a b k).length = k
  | 0 => rfl
  | k + 1 => by simp [quL, quL_len a b k]
@[simp] theorem quoS_len (a b : List Int) : (quoS a b).length = a.length := quL_len _ _ _
theorem quL_num (a b : List Int) : ∀ k, allN (quL a b k) = true
  | 0 => rfl
  | k + 1 => by
    unfold quL allN
    rw [List.all_append]
    have h := quL_num a b k
    unfold allN at h
    simp only [h, List.all_cons, List.all_nil, Bool.and_true, Bool.true_and]
    exact isN_iff.2 (md_num _)
theorem quoS_num (a b : List Int) : allN (quoS a b) = true := quL_num _ _ _
theorem quL_get (a b : List Int) {i : Nat} : ∀ k m, i < k → k ≤ m → (quL a b m).getD i 0 = (quL a b k).getD i 0
  | k, m, h, hm => by
    induction m with
    | zero => omega
    | succ m ih =>
      by_cases e : k = m + 1
      · subst e; rfl
      · show (quL a b m ++ _).getD i 0 = _
        rw [gd_left (by rw [quL_len]; omega)]
        exact ih (by omega)
theorem qrk_congr {a b o o' : List Int} {k : Nat} : ∀ i, (∀ j, j < i → o.getD j 0 = o'.getD j 0) → qrk a b o k i = qrk a b o' k i
  | 0, _ => rfl
  | i + 1, h => by unfold qrk; rw [qrk_congr i fun j hj => h j (by omega), h i (by omega)]
theorem qrk_num {a b o : List Int} {k : Nat} (ha : allN a = true) : ∀ i, 0 ≤ qrk a b o k i ∧ qrk a b o k i < 1000003
  | 0 => allN_get ha k
  | i + 1 => md_num _
/-- A coefficient of the quotient. -/
theorem quoS_at {a b : List Int} {k : Nat} (hk : k < a.length) : (quoS a b).getD k 0 = md (qrk a b (quoS a b) k k * inv (b.getD 0 0)) := by
  unfold quoS
  rw [quL_get a b (k + 1) a.length (by omega) (by omega)]
  show (quL a b k ++ [_]).getD k 0 = _
  rw [gd_right (by simp), quL_len, Nat.sub_self]
  show md _ = _
  rw [qrk_congr (o := quL a b k) (o' := quL a b a.length) k fun j hj => (quL_get a b k a.length hj (by omega)).symm]
theorem quo_set {a b : List Int} {k : Nat} (hk : k < a.length) {z : List Int} (hz : z.length = a.length) :
    (mix k (quoS a b) z).set k (md (qrk a b (quoS a b) k k * inv (b.getD 0 0))) = mix (k + 1) (quoS a b) z := by
  rw [← quoS_at hk, mix_set 0 (by simp [hz]) (by omega)]
def addS (a b : List Int) : List Int := tab a.length fun k => md (a.getD k 0 + b.getD k 0)
def sclS (a : List Int) (n : Int) : List Int := tab a.length fun k => md (a.getD k 0 * n)
def redS (a b : List Int) : List Int := tab a.length fun k => md (a.getD k 0 - b.getD k 0)
@[simp] theorem addS_len (a b : List Int) : (addS a b).length = a.length := by simp [addS]
@[simp] theorem sclS_len (a : List Int) (n : Int) : (sclS a n).length = a.length := by simp [sclS]
@[simp] theorem redS_len (a b : List Int) : (redS a b).length = a.length := by simp [redS]
theorem addS_num (a b : List Int) : allN (addS a b) = true := tab_num fun _ _ => md_num _
theorem sclS_num (a : List Int) (n : Int) : allN (sclS a n) = true := tab_num fun _ _ => md_num _
theorem redS_num (a b : List Int) : allN (redS a b) = true := tab_num fun _ _ => md_num _
theorem red_eq {a b : List Int} (h : a.length ≤ b.length) : addS a (sclS b 1000002) = redS a b := by
  unfold addS redS
  refine tab_ext fun k hk => ?_
  unfold sclS
  rw [tab_get _ (by omega), md_addr]
  unfold md
  omega
theorem nadd_eq {x y : Int} (hx : 0 ≤ x ∧ x < 1000003) (hy : 0 ≤ y ∧ y < 1000003) : (wr (x + y)).tmod ((1000003 : Nat) : Int) = md (x + y) := by
  rw [wr_of (by omega) (by omega)]
  exact Int.tmod_eq_emod_of_nonneg (by omega)

theorem mix_rep0 {n k : Nat} {T : List Int} (hT : T.length = n) (hk : k < n) : (mix k T (List.replicate n 0)).set k 0 = mix k T (List.replicate n 0) := by
  have h1 : (mix k T (List.replicate n 0)).length = n := by rw [mix_len _ _ _ (by simp [hT])]; simp
  have h2 : (mix k T (List.replicate n 0)).getD k 0 = 0 := by rw [mix_ge 0 (by simp [hT]) (Nat.le_refl _) (by simpa using hk)]; simp [hk]
  have h3 := set_self_getD (mix k T (List.replicate n 0)) (r := k) 0 (by omega)
  rw [h2] at h3
  exact h3
theorem quo_step {a b q : List Int} {k i : Nat} (hq : allN q = true) (hb : allN b = true) : md (qrk a b q k i - wr (q.getD i 0 * b.getD (k - i) 0)) = qrk a b q k (i + 1) := by
  have h1 := allN_get hq i
  have h2 := allN_get hb (k - i)
  have h := mul_num h1.1 h1.2 h2.1 h2.2
  rw [wr_of (by omega) (by omega)]
  rfl
/-- A series of N coefficients. -/
def Ser1 (N : Nat) (s : List Int) : Prop := s.length = N ∧ allN s = true
def sA : Ar (List Int) := ⟨quoS, fun a f b => redS a (proS f b), fun s => decide (s.getD 0 0 = 0), []⟩
theorem sA_V (N : Nat) : ArV sA (Ser1 N) := ⟨fun _ _ h _ => ⟨by rw [← h.1]; exact quoS_len _ _, quoS_num _ _⟩, fun _ _ _ h _ _ => ⟨by rw [← h.1]; exact redS_len _ _, redS_num _ _⟩⟩
theorem one_hom : Hom nA sA Nm (fun x => [x]) where
  q x y _ _ := by simp [nA, sA, quoS, quL, qrk]
  t x y w _ _ _ := by simp [nA, sA, redS, proS, prk, tab]
  z x _ := by simp [nA, sA]
def augS (a : List (List (List Int))) (b : List (List Int)) : List (List (List Int)) := tab a.length fun i => a.getD i [] ++ [b.getD i []]
/-- Gauss-Jordan on the augmented matrix of series. -/
def jorS (a : List (List (List Int))) (b : List (List Int)) : Option (List (List (List Int))) := jor sA a.length a.length 0 (augS a b)
def solS (a : List (List (List Int))) (b : List (List Int)) : List (List Int) := lastC a.length [] ((jorS a b).getD [])
/-- Numbers as series of order 0. -/
def sing (b : List Int) : List (List Int) := b.map fun x => [x]
theorem aug_one {a : List (List Int)} {b : List Int} (hS : Sq a.length a) (hb : b.length = a.length) : augS (mm (fun x => [x]) a) (sing b) = mm (fun x => [x]) (augN a b) := by
  have h1 : (mm (fun x : Int => [x]) a).length = a.length := by simp [mm]
  unfold augS
  rw [h1]
  refine map_ext2 (n := a.length) (by simp) (by simp [mm, augN]) fun r hr => ?_
  rw [tab_get _ hr, mm_get, mm_get]
  unfold augN
  rw [tab_get _ hr, List.map_append, sing, map_getD (d := 0) (by omega)]
  rfl
theorem jor_one {a : List (List Int)} {b : List Int} (hS : Sq a.length a) (hb : b.length = a.length) (hn : allN b = true) :
    jorS (mm (fun x => [x]) a) (sing b) = (jorN a b).map (mm fun x => [x]) := by
  unfold jorS jorN
  rw [aug_one hS hb, show (mm (fun x : Int => [x]) a).length = a.length from by simp [mm]]
  exact one_hom.jor nA_V a.length 0 _ (by omega) (by omega) (aug_sh hS hn)
/-- The solution of a system of numbers is that of the series. -/
theorem sol_one {a : List (List Int)} {b : List Int} (hS : Sq a.length a) (hb : b.length = a.length) (hn : allN b = true) (hs : jorN a b ≠ none) :
    solS (mm (fun x => [x]) a) (sing b) = sing (solN a b) := by
  obtain ⟨M, hM⟩ := Option.ne_none_iff_exists'.1 hs
  have hsh := Sh.jor nA_V a.length 0 _ (by omega) (by omega) (aug_sh hS hn) hM
  have hl := hsh.len
  unfold solS solN
  rw [jor_one hS hb hn, hM, show (mm (fun x : Int => [x]) a).length = a.length from by simp [mm]]
  simp only [Option.map_some, Option.getD_some]
  unfold lastC sing
  refine leq_done (d := []) (k := a.length) (fun r hr => ?_) (by simp [mm, hl]) (by simp [mm, hl])
  have e1 : ((mm (fun x : Int => [x]) M).map fun r => r.getD a.length []).getD r [] = ((mm (fun x : Int => [x]) M).getD r []).getD a.length [] := by
    rw [map_getD (d := []) (by simp [mm, hl, hr])]
  have e2 : ((M.map fun r => r.getD a.length 0).map fun x : Int => [x]).getD r [] = [(M.getD r []).getD a.length 0] := by
    rw [map_getD (d := 0) (by simp [hl, hr]), map_getD (d := []) (by omega)]
  rw [e1, e2, mm_get, map_getD (d := 0) (by rw [(hsh.row r hr).len]; omega)]
end Go.Proofs.Ytjgnlnlngcjfcaa
