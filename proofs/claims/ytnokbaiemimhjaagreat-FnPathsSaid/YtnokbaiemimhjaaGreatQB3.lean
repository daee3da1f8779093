/- Gf, Gg, Gj, Gk, Gh, Gl, Gm, Gr, Go, Gp, Gs, Gt, T, Sa, Mr, Sb, Sf, Sk, Ve, Vf, Va: texts of this claim, joined; what the claim does not come to is left out. -/
import Derived.Test.YtnokbaiemimhjaaGreatQB2
import Derived.Test.YtnokbaiemimhjaaGreatProg
set_option linter.unusedVariables false
set_option linter.unusedSimpArgs false
namespace Go.Proofs.YtnokbaiemimhjaaGreat
open Go Go.RowKit
set_option linter.unusedVariables false
set_option linter.unusedSimpArgs false
/-- A drawn field, with numbers. -/
structure FldD (p : List Fn) (f : Int) (a b d : List Int) : Prop where
  ok : okP p = true
  len : 1 ≤ p.length ∧ p.length ≤ 12
  fe : f = ((p.length : Nat) : Int) - 1
  sq : (((p.getD f.toNat Fn.zero).outs.length : Nat) : Int) = (p.getD f.toNat Fn.zero).params
  par : 1 ≤ (p.getD f.toNat Fn.zero).params ∧ (p.getD f.toNat Fn.zero).params ≤ 3
  la : ((a.length : Nat) : Int) = (p.getD f.toNat Fn.zero).params
  na : allN a = true
  dr : DPr p false
theorem FldD.mk' {p : List Fn} {g : Fn} {f : Int} {i : Nat} {a b d : List Int} (h : DPr p false) (hd : Dn p) (hl : p.length ≤ 9) (hp : 1 ≤ g.params ∧ g.params ≤ 3) (ho : FOk p g.params false g.outs i) (hi : ((i : Nat) : Int) = g.params) (hn : g.name ∈ fixN)
    (hf : f = ((p.length : Nat) : Int)) (hla : ((a.length : Nat) : Int) = g.params) (hna : allN a = true) : FldD (p ++ [g]) f a b d := by
  have h1 := ho.fix h hd hl hp (by omega) hn
  have e : (p ++ [g]).getD f.toNat Fn.zero = g := gd_r (by omega)
  refine ⟨h1.ok, by rw [List.length_append, List.length_singleton]; omega, by rw [List.length_append, List.length_singleton]; omega, ?_, ?_, ?_, hna, h1⟩
  · rw [e, ho.len]; exact hi
  · rw [e]; exact hp
  · rw [e]; exact hla
theorem nmB_size {s : ByteArray} (h : nmB s = true) : s.size ≤ 12 := by
  unfold nmB at h
  simp only [Bool.and_eq_true, decide_eq_true_eq] at h
  exact h.1.2
theorem DPr.szp {p : List Fn} {pl : Bool} (h : DPr p pl) : SzP p := fun k hk => ⟨by have := h.sz k hk; omega, by have := h.outs k hk; omega, by have := nmB_size (h.nm k hk); omega⟩
section
variable {p : List Fn} {f o : Int} {a b d : List Int}
theorem FldD.shf (h : FldD p f a b d) : shF p f fldB = 0 := by
  have h1 := h.len; have h2 := h.fe; have h3 := h.par; have h4 := h.sq
  unfold shF isF fldB
  rw [if_pos h.ok, if_pos (by omega)]
  rw [if_pos]
  rw [Bool.and_eq_true, inB_iff, decide_eq_true_eq]
  exact ⟨by omega, by omega⟩
theorem FldD.stc (h : FldD p f a b d) (ho : 0 ≤ o ∧ o ≤ 12) : stC p f o [a] = 0 := by
  unfold stC
  rw [if_pos h.shf, if_pos]
  simp only [List.all_cons, List.all_nil, Bool.and_true, Bool.and_eq_true, decide_eq_true_eq, inB_iff]
  exact ⟨⟨h.la, h.na⟩, ho⟩
theorem argB_of {n : Nat} {y : List Sr} (hn : n ≤ 12) (h : SrE (n + 1) y) : argB y = true := by
  unfold argB
  rw [List.all_eq_true]
  intro s hs
  obtain ⟨k, hk, rfl⟩ := List.mem_iff_getElem.1 hs
  have h1 := h k hk; have h0 := h 0 (by omega)
  rw [← gd_at hk]
  unfold serB
  rw [Bool.and_eq_true, decide_eq_true_eq]
  exact ⟨okS_iff.2 ⟨by have := h1.1; omega, h1.2⟩, by rw [h1.1, h0.1]⟩
theorem FldD.gv (h : FldD p f a b d) {n : Nat} {y : List Sr} (hn : n ≤ 12) (hy : SrE (n + 1) y) (hl : y.length = a.length) : gvC p f y = 0 := by
  unfold gvC
  rw [if_pos h.shf, if_pos]
  rw [argB_of hn hy, Bool.true_and, decide_eq_true_eq, hl]
  exact h.la
theorem FldD.fld (h : FldD p f a b d) : Fld p f.toNat a := (fld_of (o := 0) (h.stc ⟨by omega, by omega⟩)).1
theorem FldD.nx (h : FldD p f a b d) (ho : 0 ≤ o ∧ o ≤ 12) (hc : foC p f a o = 0) : nxC p f.toNat a = 0 := by
  rw [foC_0 (h.stc ho), fl_code h.fld] at hc; exact hc
theorem FldD.flE (h : FldD p f a b d) (ho : 0 ≤ o ∧ o ≤ 12) (hc : foC p f a o = 0) : foR p f a o = flI p f.toNat (extS a (o.toNat + 1)) (o.toNat + 1) := by
  have hs := h.stc ho
  rw [foR_0 hs]
  rw [foC_0 hs] at hc
  exact if_pos hc
theorem FldD.fl (h : FldD p f a b d) (ho : 0 ≤ o ∧ o ≤ 12) (hc : foC p f a o = 0) : (foR p f a o).length = a.length ∧ SrE (o.toNat + 1) (foR p f a o) ∧ ag 1 (foR p f a o) (extS a (o.toNat + 1)) := by
  rw [h.flE ho hc]
  obtain ⟨h1, h2, h3, _⟩ := fl_all h.fld (h.nx ho hc) o.toNat (o.toNat + 1)
  exact ⟨h1, h2, h3⟩
theorem FldD.ps (h : FldD p f a b d) (ho : 0 ≤ o ∧ o ≤ 12) (hc : foC p f a o = 0) {y : List Sr} (hy : SrE (o.toNat + 1) y) (hl : y.length = a.length) (h1 : ag 1 y (extS a (o.toNat + 1))) :
    gvC p f y = 0 ∧ psC p f y = 0 ∧ psR p f y = picR p f.toNat y ∧ ckB (evR p (oOf y + 1) f.toNat y) y = decide (foR p f a o = y) := by
  have hg := h.gv (by omega) hy hl
  obtain ⟨q1, q2, _⟩ := pic_P h.fld hy hl h1
  refine ⟨hg, ?_, psR_0 hg, ?_⟩
  · rw [psC_0 hg]; unfold picC; rw [q1, q2]; exact h.nx ho hc
  · rw [q1, h.flE ho hc]; exact ck_flow h.fld (h.nx ho hc) (by omega) hy hl h1
theorem FldD.fix (h : FldD p f a b d) (ho : 0 ≤ o ∧ o ≤ 12) (hc : foC p f a o = 0) : psR p f (foR p f a o) = foR p f a o := by
  obtain ⟨h1, h2, h3⟩ := h.fl ho hc
  rw [(h.ps ho hc h2 h1 h3).2.2.1, h.flE ho hc]
  exact fl_fix h.fld (h.nx ho hc)
/-- A guess that agrees with rows in its first m coefficients. -/
structure GuB (y : List Sr) (m : Int) (g : List Sr) : Prop where
  len : g.length = y.length
  row : ∀ i, i < y.length → (g.getD i []).length = (y.getD i []).length ∧ allN (g.getD i []) = true ∧ ∀ j, ((j : Nat) : Int) < m → j < (y.getD i []).length → (g.getD i []).getD j 0 = (y.getD i []).getD j 0
theorem GuB.ag {y g : List Sr} {m : Int} {n : Nat} (h : GuB y m g) (hy : SrE n y) (hm : 0 ≤ m ∧ m ≤ ((n : Nat) : Int)) : SrE n g ∧ Go.Proofs.YtnokbaiemimhjaaGreat.ag m.toNat g y := by
  refine ⟨fun i hi => ?_, h.len, fun i j hj => ?_⟩
  · have h1 := h.row i (by rw [← h.len]; exact hi)
    exact ⟨by rw [h1.1]; exact (hy i (by rw [← h.len]; exact hi)).1, h1.2.1⟩
  · by_cases hi : i < y.length
    · exact (h.row i hi).2.2 j (by omega) (by rw [(hy i hi).1]; omega)
    · have e1 : g.getD i [] = [] := by rw [List.getD_eq_getElem?_getD, List.getElem?_eq_none (by rw [h.len]; omega)]; rfl
      have e2 : y.getD i [] = [] := by rw [List.getD_eq_getElem?_getD, List.getElem?_eq_none (by omega)]; rfl
      rw [e1, e2]
end
/-- A row that agrees with another one in its first m coefficients. -/
def GuR (r : Sr) (m : Int) (x : Sr) : Prop := x.length = r.length ∧ allN x = true ∧ ∀ j, ((j : Nat) : Int) < m → j < r.length → x.getD j 0 = r.getD j 0
def GuS (y : List Sr) (m : Int) (ys : List Sr) (i : Nat) : Prop := ys.length = i ∧ ∀ r, r < i → GuR (y.getD r []) m (ys.getD r [])
def GuK (r : Sr) (x : Sr) (k : Nat) : Prop := x.length = r.length ∧ allN x = true ∧ ∀ j, j < k → x.getD j 0 = r.getD j 0
theorem GuS.nil (y : List Sr) (m : Int) : GuS y m [] 0 := ⟨rfl, fun r hr => by omega⟩
theorem GuS.snoc {y ys : List Sr} {m : Int} {i : Nat} {x : Sr} (h : GuS y m ys i) (hx : GuR (y.getD i []) m x) : GuS y m (ys ++ [x]) (i + 1) := by
  refine ⟨by rw [List.length_append, h.1]; rfl, fun r hr => ?_⟩
  by_cases e : r = i
  · subst e; rw [gd_r h.1.symm]; exact hx
  · rw [gd_l (by rw [h.1]; omega)]; exact h.2 r (by omega)
theorem GuS.done {y ys : List Sr} {m : Int} {i : Nat} (h : GuS y m ys i) (hi : i = y.length) : GuB y m ys := by
  subst hi
  exact ⟨h.1, fun r hr => h.2 r hr⟩
theorem GuK.done {r x : Sr} {m : Int} {k : Nat} (h : GuK r x k) (hk : x.length ≤ k ∨ m ≤ ((k : Nat) : Int)) : GuR r m x := ⟨h.1, h.2.1, fun j hj hl => h.2.2 j (by have := h.1; omega)⟩
end Go.Proofs.YtnokbaiemimhjaaGreat
namespace Go.Proofs.YtnokbaiemimhjaaGreat
open Go Go.RowKit
set_option linter.unusedVariables false
set_option linter.unusedSimpArgs false
/-- A value after d steps, or a code after d steps; beyond 3000 steps the code 7. -/
def Shf {α : Type} (f : Nat → Rs α) (r : Rs α) (d : Nat) : Prop := ∀ s, s ≤ 3000 → f s = if s + d ≤ 3000 then (match r with | .ok x _ => .ok x (s + d) | .err c => .err c) else .err 7
def Shift {α : Type} (f : Nat → Rs α) : Prop := ∃ r d, Shf f r d
theorem Shf.ok {α : Type} {f : Nat → Rs α} {x : α} {t d : Nat} (h : Shf f (.ok x t) d) {s : Nat} (hs : s ≤ 3000) : f s = if s + d ≤ 3000 then .ok x (s + d) else .err 7 := h s hs
theorem Shf.bind_err {α β : Type} {f : Nat → Rs α} {c : Int} {d : Nat} (h : Shf f (.err c) d) (g : α → Nat → Rs β) : Shf (fun s => (f s).bind g) (.err c) d := by
  intro s hs
  show (f s).bind g = _
  rw [h s hs]
  split <;> rfl
theorem Shf.bind_ok {α β : Type} {f : Nat → Rs α} {x : α} {t d : Nat} (h : Shf f (.ok x t) d) {g : α → Nat → Rs β} {r : Rs β} {e : Nat} (hg : Shf (g x) r e) : Shf (fun s => (f s).bind g) r (d + e) := by
  intro s hs
  show (f s).bind g = _
  rw [h s hs]
  by_cases h1 : s + d ≤ 3000
  · rw [if_pos h1]
    show g x (s + d) = _
    rw [hg (s + d) h1]
    by_cases h2 : s + d + e ≤ 3000
    · rw [if_pos h2, if_pos (by omega), show s + d + e = s + (d + e) from by omega]
    · rw [if_neg h2, if_neg (by omega)]
  · rw [if_neg h1, if_neg (by omega)]; rfl
theorem Shift.bind {α β : Type} {f : Nat → Rs α} (h : Shift f) {g : α → Nat → Rs β} (hg : ∀ x, Shift (g x)) : Shift (fun s => (f s).bind g) := by
  obtain ⟨r, d, h⟩ := h
  cases r with
  | err c => exact ⟨_, _, h.bind_err g⟩
  | ok x t =>
    obtain ⟨r', e, h'⟩ := hg x
    exact ⟨_, _, h.bind_ok h'⟩
theorem Shf.one {α : Type} {f : Nat → Rs α} {r : Rs α} {d : Nat} (h : Shf f r d) : Shf (fun s => if 3000 ≤ s then .err 7 else f (s + 1)) r (1 + d) := by
  intro s hs
  show (if 3000 ≤ s then _ else _) = _
  by_cases h1 : 3000 ≤ s
  · rw [if_pos h1, if_neg (by omega)]
  · rw [if_neg h1, h (s + 1) (by omega)]
    by_cases h2 : s + 1 + d ≤ 3000
    · rw [if_pos h2, if_pos (by omega), show s + 1 + d = s + (1 + d) from by omega]
    · rw [if_neg h2, if_neg (by omega)]
theorem Shift.one {α : Type} {f : Nat → Rs α} (h : Shift f) : Shift (fun s => if 3000 ≤ s then .err 7 else f (s + 1)) := by
  obtain ⟨r, d, h⟩ := h
  exact ⟨_, _, h.one⟩
theorem Shf.ret {α : Type} (x : α) : Shf (fun s => Rs.ok x s) (.ok x 0) 0 := fun s hs => by rw [if_pos (by omega)]; rfl
theorem Shift.ret {α : Type} (x : α) : Shift (fun s => Rs.ok x s) := ⟨_, _, Shf.ret x⟩
theorem Shift.fail {α : Type} (c : Int) : Shift (fun _ => (Rs.err c : Rs α)) := ⟨.err c, 0, fun s hs => by rw [if_pos (by omega)]⟩
theorem Shift.lop {f : List Sr → Nat → Rs (List Sr)} (hf : ∀ a, Shift (f a)) : ∀ (k : Nat) (a : List Sr), Shift (lop f k a)
  | 0, a => Shift.ret a
  | k + 1, a => (Shift.lop hf k a).bind hf
theorem Shift.opV (k : Int) (xs : List Sr) : Shift (opV k xs) := by
  unfold Go.Proofs.YtnokbaiemimhjaaGreat.opV
  by_cases h3 : k = 3
  · simp only [h3, if_true]; exact Shift.ret _
  · by_cases h4 : k = 4
    · simp only [h4]; exact Shift.ret _
    · by_cases h5 : k = 5
      · simp only [h5]; exact Shift.ret _
      · by_cases h7 : k = 7
        · simp only [h7]; exact Shift.ret _
        · simp only [if_neg h3, if_neg h4, if_neg h5, if_neg h7]
          by_cases h : (xs.getD 1 []).getD 0 0 = 0
          · simp only [h, if_true]; exact Shift.fail 6
          · simp only [if_neg h]; exact Shift.ret _
section
variable {n : Nat} {C : Ca}
end
section
variable {n : Nat} {C D : Ca} {env : List Sr} {f m : Nat}
end
/-- The code of a program, a function and numbers. -/
def arC (p : List Fn) (f : Int) (a : Sr) : Int := if isF p f = 0 then (if (decide (((a.length : Nat) : Int) = (p.getD f.toNat Fn.zero).params) && allN a) = true then 0 else 2) else isF p f
def euC (p : List Fn) (f : Int) (a : Sr) : Int := if arC p f a = 0 then nxC p f.toNat a else arC p f a
def euR (p : List Fn) (f : Int) (a : Sr) : Sr := if arC p f a = 0 then nxR p f.toNat a else []
def euT (p : List Fn) (f : Int) (a : Sr) : Nat := if arC p f a = 0 then evT p 1 f.toNat (sing a) else 0
section
variable {p : List Fn} {f : Int} {a : Sr}
theorem arC_rng (p : List Fn) (f : Int) (a : Sr) : 0 ≤ arC p f a ∧ arC p f a ≤ 2 := by
  have := isF_rng p f
  unfold arC; split <;> (try split) <;> omega
theorem arC_0 (h : arC p f a = 0) : okP p = true ∧ (0 ≤ f ∧ f < ((p.length : Nat) : Int)) ∧ ((a.length : Nat) : Int) = (p.getD f.toNat Fn.zero).params ∧ allN a = true := by
  unfold arC at h
  split at h
  · rename_i h1
    split at h
    · rename_i h2
      rw [Bool.and_eq_true, decide_eq_true_eq] at h2
      obtain ⟨q1, q2, q3⟩ := isF_0 h1
      exact ⟨q1, ⟨q2, q3⟩, h2.1, h2.2⟩
    · omega
  · rename_i h1; exact absurd h h1
theorem ar_n (h : isF p f ≠ 0) : isF p f = arC p f a := by unfold arC; rw [if_neg h]
theorem ar_2 (h : isF p f = 0) (h2 : (decide (((a.length : Nat) : Int) = (p.getD f.toNat Fn.zero).params) && allN a) = false) : 2 = arC p f a := by unfold arC; rw [if_pos h, h2]; rfl
theorem ar_0 (h : isF p f = 0) (h2 : (decide (((a.length : Nat) : Int) = (p.getD f.toNat Fn.zero).params) && allN a) = true) : 0 = arC p f a := by unfold arC; rw [if_pos h, h2]; rfl
theorem euC_n (h : arC p f a ≠ 0) : euC p f a = arC p f a := if_neg h
theorem euR_n (h : arC p f a ≠ 0) : euR p f a = [] := if_neg h
theorem euT_n (h : arC p f a ≠ 0) : euT p f a = 0 := if_neg h
theorem euC_0 (h : arC p f a = 0) : euC p f a = nxC p f.toNat a := if_pos h
theorem euR_0 (h : arC p f a = 0) : euR p f a = nxR p f.toNat a := if_pos h
theorem euT_0 (h : arC p f a = 0) : euT p f a = evT p 1 f.toNat (sing a) := if_pos h
/-- What is known of an evaluation. -/
structure EuP (p : List Fn) (f : Int) (a : Sr) : Prop where
  code : 0 ≤ euC p f a ∧ euC p f a ≤ 9
  steps : euT p f a ≤ 3000
  num : allN (euR p f a) = true
  bnd : (euR p f a).length ≤ 12
theorem EuP.all (p : List Fn) (f : Int) (a : Sr) : EuP p f a := by
  by_cases h : arC p f a = 0
  · obtain ⟨h1, h2, h3, h4⟩ := arC_0 h
    have hv := okP_vpr h1
    have he := ev_P hv (n := 1) (f := f.toNat) (a := sing a) (by omega) (sing_ser h4) (by unfold sing; rw [List.length_map]; exact h3)
    have hn := NxP.mk' he
    refine ⟨by rw [euC_0 h]; exact hn.code, by rw [euT_0 h]; exact he.steps, by rw [euR_0 h]; exact hn.num, ?_⟩
    rw [euR_0 h]
    by_cases hc : nxC p f.toNat a = 0
    · have := hv.outs f.toNat (by omega)
      rw [hn.len hc]; omega
    · rw [hn.non hc]; simp
  · have := arC_rng p f a
    exact ⟨by rw [euC_n h]; omega, by rw [euT_n h]; omega, by rw [euR_n h]; rfl, by rw [euR_n h]; simp⟩
end
end Go.Proofs.YtnokbaiemimhjaaGreat
namespace Go.Proofs.YtnokbaiemimhjaaGreat
open Go Go.RowKit
set_option linter.unusedVariables false
set_option linter.unusedSimpArgs false
/-- All runs come to related values after the same steps, or to the same code. -/
def RRs {α : Type} (K : Nat) (R : (Nat → α) → α → Prop) (r : Nat → Rs α) (rz : Rs α) : Prop := match rz with
  | .ok z t => ∃ x, (∀ k, k < K → r k = .ok (x k) t) ∧ R x z
  | .err c => ∀ k, k < K → r k = .err c
theorem RRs.congr {α : Type} {K : Nat} {R : (Nat → α) → α → Prop} {r r' : Nat → Rs α} {rz : Rs α} (h : RRs K R r rz) (e : ∀ k, k < K → r' k = r k) : RRs K R r' rz := by
  cases rz with
  | ok z t => obtain ⟨x, h1, h2⟩ := h; exact ⟨x, fun k hk => (e k hk).trans (h1 k hk), h2⟩
  | err c => exact fun k hk => (e k hk).trans (h k hk)
theorem RRs.bind {α β : Type} {K : Nat} {R : (Nat → α) → α → Prop} {R' : (Nat → β) → β → Prop} {r : Nat → Rs α} {rz : Rs α} {g : Nat → α → Nat → Rs β} {gz : α → Nat → Rs β} (h : RRs K R r rz)
    (hg : ∀ x z t, R x z → RRs K R' (fun k => g k (x k) t) (gz z t)) : RRs K R' (fun k => (r k).bind (g k)) (rz.bind gz) := by
  cases rz with
  | ok z t =>
    obtain ⟨x, h1, h2⟩ := h
    exact (hg x z t h2).congr fun k hk => by rw [h1 k hk]; rfl
  | err c => exact fun k hk => by show (r k).bind _ = _; rw [h k hk]; rfl
theorem RRs.ret {α : Type} {K : Nat} {R : (Nat → α) → α → Prop} {x : Nat → α} {z : α} {t : Nat} (h : R x z) : RRs K R (fun k => .ok (x k) t) (.ok z t) := ⟨x, fun _ _ => rfl, h⟩
theorem RRs.fail {α : Type} {K : Nat} {R : (Nat → α) → α → Prop} {c : Int} : RRs K R (fun _ => .err c) (.err c) := fun _ _ => rfl
/-- A relation between series that all operations keep. -/
structure OpR (K : Nat) (n : Nat → Nat) (nz : Nat) (R : (Nat → Sr) → Sr → Prop) : Prop where
  zero : ∀ x z, R x z → ∀ k, k < K → ((x k).getD 0 0 = 0 ↔ z.getD 0 0 = 0)
  cst : ∀ c, isN c = true → R (fun k => cst (n k) c) (Go.Proofs.YtnokbaiemimhjaaGreat.cst nz c)
  add : ∀ x z y w, R x z → R y w → R (fun k => addS (x k) (y k)) (addS z w)
  red : ∀ x z y w, R x z → R y w → R (fun k => redS (x k) (y k)) (redS z w)
  pro : ∀ x z y w, R x z → R y w → R (fun k => proS (x k) (y k)) (proS z w)
  scl : ∀ x z, R x z → R (fun k => sclS (x k) 1000002) (sclS z 1000002)
  quo : ∀ x z y w, R x z → R y w → w.getD 0 0 ≠ 0 → R (fun k => quoS (x k) (y k)) (quoS z w)
/-- Lists of series, place by place. -/
def RLs (K : Nat) (R : (Nat → Sr) → Sr → Prop) (m : Nat) (xs : Nat → List Sr) (zs : List Sr) : Prop := zs.length = m ∧ (∀ k, k < K → (xs k).length = m) ∧ ∀ i, i < m → ∃ x, (∀ k, k < K → (xs k).getD i [] = x k) ∧ R x (zs.getD i [])
section
variable {K : Nat} {n : Nat → Nat} {nz : Nat} {R : (Nat → Sr) → Sr → Prop} {p : List Fn}
theorem RLs.nil : RLs K R 0 (fun _ => []) [] := ⟨rfl, fun _ _ => rfl, fun i hi => by omega⟩
theorem RLs.cons {m : Nat} {x : Nat → Sr} {z : Sr} {xs : Nat → List Sr} {zs : List Sr} (h1 : R x z) (h : RLs K R m xs zs) : RLs K R (m + 1) (fun k => x k :: xs k) (z :: zs) := by
  refine ⟨by rw [List.length_cons, h.1], fun k hk => by rw [List.length_cons, h.2.1 k hk], fun i hi => ?_⟩
  cases i with
  | zero => exact ⟨x, fun _ _ => rfl, h1⟩
  | succ i =>
    obtain ⟨y, h3, h4⟩ := h.2.2 i (by omega)
    exact ⟨y, fun k hk => by simpa using h3 k hk, by simpa using h4⟩
theorem RLs.snoc {m : Nat} {x : Nat → Sr} {z : Sr} {xs : Nat → List Sr} {zs : List Sr} (h : RLs K R m xs zs) (h1 : R x z) : RLs K R (m + 1) (fun k => xs k ++ [x k]) (zs ++ [z]) := by
  refine ⟨by simp [h.1], fun k hk => by simp [h.2.1 k hk], fun i hi => ?_⟩
  by_cases e : i = m
  · exact ⟨x, fun k hk => gd_r (by rw [h.2.1 k hk]; exact e), by rw [gd_r (by rw [h.1]; exact e)]; exact h1⟩
  · obtain ⟨y, h3, h4⟩ := h.2.2 i (by omega)
    exact ⟨y, fun k hk => by rw [gd_l (by rw [h.2.1 k hk]; omega)]; exact h3 k hk, by rw [gd_l (by rw [h.1]; omega)]; exact h4⟩
/-- Calls of the functions before F. -/
structure CaR (K : Nat) (R : (Nat → Sr) → Sr → Prop) (p : List Fn) (F : Nat) (C : Nat → Ca) (Cz : Ca) : Prop where
  one : ∀ f j m xs zs t, f < F → j < (p.getD f Fn.zero).outs.length → RLs K R m xs zs → ((m : Nat) : Int) = (p.getD f Fn.zero).params → RRs K R (fun k => (C k).one f j (xs k) t) (Cz.one f j zs t)
  all : ∀ f m xs zs t, f < F → RLs K R m xs zs → ((m : Nat) : Int) = (p.getD f Fn.zero).params → RRs K (RLs K R (p.getD f Fn.zero).outs.length) (fun k => (C k).all f (xs k) t) (Cz.all f zs t)
theorem evs_R {C : Nat → Ca} {Cz : Ca} {env : Nat → List Sr} {ez : List Sr} : ∀ (l : List Ex), (∀ e ∈ l, ∀ s, RRs K R (fun k => evE (n k) (C k) e (env k) s) (evE nz Cz e ez s)) → ∀ s, RRs K (RLs K R l.length) (fun k => evs (n k) (C k) l (env k) s) (evs nz Cz l ez s)
  | [], _, s => by
    simp only [evs]
    exact RRs.ret RLs.nil
  | e :: l, h, s => by
    simp only [evs]
    exact (h e (List.mem_cons_self ..) s).bind fun x z t hx => (evs_R l (fun e he => h e (List.mem_cons_of_mem _ he)) t).bind fun xs zs u hxs => RRs.ret (hxs.cons hx)
theorem lop_R {F f : Nat} {C : Nat → Ca} {Cz : Ca} (hC : CaR K R p F C Cz) (hf : f < F) (ho : (((p.getD f Fn.zero).outs.length : Nat) : Int) = (p.getD f Fn.zero).params) : ∀ (c : Nat) (xs : Nat → List Sr) (zs : List Sr) (t : Nat), RLs K R (p.getD f Fn.zero).outs.length xs zs →
    RRs K (RLs K R (p.getD f Fn.zero).outs.length) (fun k => lop ((C k).all f) c (xs k) t) (lop (Cz.all f) c zs t)
  | 0, xs, zs, t, h => RRs.ret h
  | c + 1, xs, zs, t, h => (lop_R hC hf ho c xs zs t h).bind fun ys ws u hy => hC.all f _ ys ws u hf hy ho
theorem RLs.at {m i : Nat} {xs : Nat → List Sr} {zs : List Sr} {t : Nat} (h : RLs K R m xs zs) (hi : i < m) : RRs K R (fun k => .ok ((xs k).getD i []) t) (.ok (zs.getD i []) t) := by
  obtain ⟨x, h1, h2⟩ := h.2.2 i hi
  exact (RRs.ret h2).congr fun k hk => by rw [h1 k hk]
theorem RLs.two {m t t' : Nat} {xs : Nat → List Sr} {zs : List Sr} {o : Sr → Sr → Sr} (h : RLs K R m xs zs) (hm : 2 ≤ m) (ho : ∀ x z y w, R x z → R y w → R (fun k => o (x k) (y k)) (o z w)) :
    RRs K R (fun k => .ok (o ((xs k).getD 0 []) ((xs k).getD 1 [])) t) (.ok (o (zs.getD 0 []) (zs.getD 1 [])) t) := by
  obtain ⟨x, h1, h2⟩ := h.2.2 0 (by omega)
  obtain ⟨y, h3, h4⟩ := h.2.2 1 (by omega)
  exact (RRs.ret (ho x _ y _ h2 h4)).congr fun k hk => by rw [h1 k hk, h3 k hk]
theorem opV_R (hR : OpR K n nz R) {kd : Int} {m t : Nat} {xs : Nat → List Sr} {zs : List Sr} (h : RLs K R m xs zs) (h1 : kd = 7 → 1 ≤ m) (h2 : kd ≠ 7 → 2 ≤ m) : RRs K R (fun k => opV kd (xs k) t) (opV kd zs t) := by
  unfold opV
  by_cases k3 : kd = 3
  · simp only [if_pos k3]; exact h.two (t' := 0) (h2 (by omega)) hR.add
  simp only [if_neg k3]
  by_cases k4 : kd = 4
  · simp only [if_pos k4]; exact h.two (t' := 0) (h2 (by omega)) hR.red
  simp only [if_neg k4]
  by_cases k5 : kd = 5
  · simp only [if_pos k5]; exact h.two (t' := 0) (h2 (by omega)) hR.pro
  simp only [if_neg k5]
  by_cases k7 : kd = 7
  · simp only [if_pos k7]
    obtain ⟨x, q1, q2⟩ := h.2.2 0 (h1 k7)
    exact (RRs.ret (hR.scl x _ q2)).congr fun k hk => by rw [q1 k hk]
  simp only [if_neg k7]
  obtain ⟨x, q1, q2⟩ := h.2.2 0 (by have := h2 k7; omega)
  obtain ⟨y, q3, q4⟩ := h.2.2 1 (by have := h2 k7; omega)
  have hz := hR.zero y _ q4
  by_cases h0 : (zs.getD 1 []).getD 0 0 = 0
  · simp only [if_pos h0]
    exact fun k hk => by
      show (if List.getD ((xs k).getD 1 []) 0 0 = 0 then _ else _) = _
      rw [q3 k hk, if_pos ((hz k hk).2 h0)]
  · simp only [if_neg h0]
    exact (RRs.ret (hR.quo x _ y _ q2 q4 h0)).congr fun k hk => by rw [q3 k hk, q1 k hk, if_neg fun h => h0 ((hz k hk).1 h)]
theorem evE_R (hR : OpR K n nz R) {F : Nat} {C : Nat → Ca} {Cz : Ca} (hC : CaR K R p F C Cz) : ∀ (z : Nat) (e : Ex), e.size ≤ z → ∀ (m : Nat) (env : Nat → List Sr) (ez : List Sr) (s : Nat), wf p ((F : Nat) : Int) e ((m : Nat) : Int) = true → RLs K R m env ez → RRs K R (fun k => evE (n k) (C k) e (env k) s) (evE nz Cz e ez s)
  | 0, e, h, _, _, _, _, _, _ => by have := size_kids e; omega
  | z + 1, e, h, m, env, ez, s, hw, he => by
    obtain ⟨w1, w2, w3, w4, w5, w6, w7, w8⟩ := wfN_all (wf_node hw)
    have hz : ∀ j, j < e.kids.length → (e.kids.getD j Ex.zero).size ≤ z := fun j hj => by
      have := size_kids e; have := sizes_at hj; omega
    have hk : ∀ j, j < e.kids.length → ¬ (e.kind = 9 ∧ j = 1) → ∀ t, RRs K R (fun k => evK (n k) (C k) e.kids j (env k) t) (evK nz Cz e.kids j ez t) := fun j hj hn t => by
      simp only [evK_at _ _ _ _ _ _ hj]
      exact evE_R hR hC z _ (hz j hj) m env ez t (wf_at0 hw hj hn) he
    simp only [evE_eq]
    by_cases hs3 : 3000 ≤ s
    · simp only [if_pos hs3]; exact RRs.fail
    simp only [if_neg hs3]
    by_cases k1 : e.kind = 1
    · simp only [if_pos k1]; exact RRs.ret (hR.cst _ (isN_iff.2 (w8 k1)))
    simp only [if_neg k1]
    by_cases k2 : e.kind = 2
    · simp only [if_pos k2]; exact he.at (by have := w2 k2; omega)
    simp only [if_neg k2]
    by_cases k8 : e.kind = 8
    · simp only [if_pos k8]
      have h3 := w5 k8
      refine (hk 0 (by omega) (by omega) (s + 1)).bind fun x y t hx => ?_
      have hq := hR.zero x y hx
      by_cases h0 : y.getD 0 0 = 0
      · simp only [if_pos h0]
        exact (hk 1 (by omega) (by omega) t).congr fun k hk => by rw [if_pos ((hq k hk).2 h0)]
      · simp only [if_neg h0]
        exact (hk 2 (by omega) (by omega) t).congr fun k hk => by rw [if_neg fun h => h0 ((hq k hk).1 h)]
    simp only [if_neg k8]
    by_cases k9 : e.kind = 9
    · simp only [if_pos k9]
      have h3 := w3 (by omega)
      refine (hk 0 (by omega) (by omega) (s + 1)).bind fun x y t hx => ?_
      simp only [evK_at _ _ _ _ _ _ (show 1 < e.kids.length by omega)]
      refine evE_R hR hC z _ (hz 1 (by omega)) (m + 1) (fun k => env k ++ [x k]) (ez ++ [y]) t ?_ (he.snoc hx)
      have := wf_at1 hw (by omega) k9
      rw [Int.natCast_add]; exact this
    simp only [if_neg k9]
    have hc := evs_R (n := n) (C := C) (nz := nz) (Cz := Cz) (env := env) (ez := ez) e.kids (fun x hx t => by
      obtain ⟨j, hj, rfl⟩ := List.mem_iff_getElem.1 hx
      have := hk j hj (by omega) t
      simp only [evK_at _ _ _ _ _ _ hj, gd_at hj] at this
      exact this) (s + 1)
    refine hc.bind fun xs zs t hx => ?_
    by_cases k10 : e.kind = 10
    · simp only [if_pos k10]
      have h6 := w6 (.inl k10)
      exact hC.one _ _ _ xs zs t (by omega) (by omega) hx (by exact h6.2.2.1)
    simp only [if_neg k10]
    by_cases k11 : e.kind = 11
    · simp only [if_pos k11]
      have h6 := w6 (.inr k11); have h7 := w7 k11
      have hl : e.kids.length = (p.getD e.num.toNat Fn.zero).outs.length := by omega
      rw [hl] at hx
      exact (lop_R hC (f := e.num.toNat) (by omega) h7.1 e.count.toNat xs zs t hx).bind fun ys ws u hy => hy.at (by omega)
    simp only [if_neg k11]
    exact opV_R hR hx (fun h7 => by rw [w4 h7]; decide) (fun h7 => by rw [w3 (by omega)]; decide)
theorem evC_R (hR : OpR K n nz R) (hv : VPr p) : ∀ F, F ≤ p.length → CaR K R p F (fun k => evC p (n k) F) (evC p nz F)
  | 0, _ => ⟨fun f j m xs zs t h => by omega, fun f m xs zs t h => by omega⟩
  | F + 1, hF => by
    have ih := evC_R hR hv F (by omega)
    have hO : ∀ j m xs zs t, j < (p.getD F Fn.zero).outs.length → RLs K R m xs zs → ((m : Nat) : Int) = (p.getD F Fn.zero).params → RRs K R (fun k => evE (n k) (evC p (n k) F) ((p.getD F Fn.zero).outs.getD j Ex.zero) (xs k) t) (evE nz (evC p nz F) ((p.getD F Fn.zero).outs.getD j Ex.zero) zs t) := fun j m xs zs t h2 h3 h4 =>
      evE_R hR ih _ _ (Nat.le_refl _) m xs zs t (by rw [h4]; exact hv.wf F (by omega) j h2) h3
    refine ⟨fun f j m xs zs t h1 h2 h3 h4 => ?_, fun f m xs zs t h1 h3 h4 => ?_⟩
    · show RRs K R (fun k => if f = F then _ else _) (if f = F then _ else _)
      by_cases e : f = F
      · subst e; simp only [if_true]; exact hO j m xs zs t h2 h3 h4
      · simp only [if_neg e]; exact ih.one f j m xs zs t (by omega) h2 h3 h4
    · show RRs K _ (fun k => if f = F then _ else _) (if f = F then _ else _)
      by_cases e : f = F
      · subst e; simp only [if_true]
        refine evs_R _ (fun e he s => ?_) t
        obtain ⟨j, hj, rfl⟩ := List.mem_iff_getElem.1 he
        have := hO j m xs zs s hj h3 h4
        rwa [gd_at hj] at this
      · simp only [if_neg e]; exact ih.all f m xs zs t (by omega) h3 h4
/-- Runs of a function. -/
theorem ev_R (hR : OpR K n nz R) (hv : VPr p) {f m : Nat} {a : Nat → List Sr} {az : List Sr} (hf : f < p.length) (ha : RLs K R m a az) (hl : ((m : Nat) : Int) = (p.getD f Fn.zero).params) :
    RRs K (RLs K R (p.getD f Fn.zero).outs.length) (fun k => ev p (n k) f (a k)) (ev p nz f az) := by
  have h := (evC_R hR hv (f + 1) (by omega)).all f m a az 0 (by omega) ha hl
  simp only [evC_all (show f < f + 1 by omega)] at h
  exact h
end
end Go.Proofs.YtnokbaiemimhjaaGreat
namespace Go.Proofs.YtnokbaiemimhjaaGreat
open Go Go.RowKit
set_option linter.unusedVariables false
set_option linter.unusedSimpArgs false
/-- A sum. -/
def smK (f : Nat → Int) : Nat → Int
  | 0 => 0
  | k + 1 => smK f k + f k
theorem smK_mod {f g : Nat → Int} : ∀ K, (∀ k, k < K → md (f k) = md (g k)) → md (smK f K) = md (smK g K)
  | 0, _ => rfl
  | K + 1, h => by
    show md (smK f K + f K) = md (smK g K + g K)
    rw [← md_add, smK_mod K (fun k hk => h k (by omega)), h K (by omega), md_add]
theorem smK_lin (A B : Int) (f g : Nat → Int) : ∀ K, smK (fun k => A * f k + B * g k) K = A * smK f K + B * smK g K
  | 0 => by show (0 : Int) = A * 0 + B * 0; simp
  | K + 1 => by
    show smK _ K + (A * f K + B * g K) = A * (smK f K + f K) + B * (smK g K + g K)
    rw [smK_lin A B f g K, Int.mul_add, Int.mul_add]; omega
/-- Slopes that are a combination of others. -/
structure Rl (K : Nat) (c : Nat → Int) (x : Nat → Sr) (z : Sr) : Prop where
  sz : Ser1 2 z
  sx : ∀ k, k < K → Ser1 2 (x k)
  v : ∀ k, k < K → (x k).getD 0 0 = z.getD 0 0
  d : z.getD 1 0 = md (smK (fun k => c k * (x k).getD 1 0) K)
theorem Rl.op {K : Nat} {c : Nat → Int} {xa xb out : Nat → Sr} {za zb oz : Sr} {A B : Int} (ha : Rl K c xa za) (hb : Rl K c xb zb) (hz : Ser1 2 oz) (hx : ∀ k, k < K → Ser1 2 (out k)) (hv : ∀ k, k < K → (out k).getD 0 0 = oz.getD 0 0)
    (h1 : oz.getD 1 0 = md (A * za.getD 1 0 + B * zb.getD 1 0)) (h2 : ∀ k, k < K → (out k).getD 1 0 = md (A * (xa k).getD 1 0 + B * (xb k).getD 1 0)) : Rl K c out oz := by
  refine ⟨hz, hx, hv, ?_⟩
  rw [h1, ha.d, hb.d, ← md_add, md_mulr, md_mulr, md_add, ← smK_lin]
  refine smK_mod K fun k hk => ?_
  rw [h2 k hk, md_mulr]
  congr 1
  rw [Int.mul_add, Int.mul_left_comm, Int.mul_left_comm B]
theorem add_k {a b : Sr} {k : Nat} (h : k < a.length) : (addS a b).getD k 0 = md (a.getD k 0 + b.getD k 0) := tab_get 0 h
theorem red_k {a b : Sr} {k : Nat} (h : k < a.length) : (redS a b).getD k 0 = md (a.getD k 0 - b.getD k 0) := tab_get 0 h
theorem scl_k {a : Sr} {y : Int} {k : Nat} (h : k < a.length) : (sclS a y).getD k 0 = md (a.getD k 0 * y) := tab_get 0 h
theorem pro_0 {a b : Sr} (h : 0 < a.length) : (proS a b).getD 0 0 = md (0 + a.getD 0 0 * b.getD 0 0) := tab_get 0 h
theorem pro_1 {a b : Sr} (h : 1 < a.length) : (proS a b).getD 1 0 = md (md (0 + a.getD 0 0 * b.getD 1 0) + a.getD 1 0 * b.getD 0 0) := tab_get 0 h
theorem quo_0 {a b : Sr} (h : 0 < a.length) : (quoS a b).getD 0 0 = md (a.getD 0 0 * inv (b.getD 0 0)) := quoS_at h
theorem quo_1 {a b : Sr} (h : 1 < a.length) : (quoS a b).getD 1 0 = md (md (a.getD 1 0 - (quoS a b).getD 0 0 * b.getD 1 0) * inv (b.getD 0 0)) := quoS_at h
theorem cst_at0 {n : Nat} {c : Int} (h : 0 < n) : (cst n c).getD 0 0 = c := by
  obtain ⟨n, rfl⟩ : ∃ k, n = k + 1 := ⟨n - 1, by omega⟩
  unfold cst; rw [List.replicate_succ]; rfl
theorem cst_2 (c : Int) : (cst 2 c).getD 1 0 = 0 := rfl
/-- All operations keep it. -/
theorem Rl.all (K : Nat) (c : Nat → Int) : OpR K (fun _ => 2) 2 (Rl K c) where
  zero := fun x z h k hk => by rw [h.v k hk]
  cst := fun a ha => ⟨cst_ser ha, fun _ _ => cst_ser ha, fun _ _ => rfl, by
    have : ∀ K, smK (fun k => c k * (Go.Proofs.YtnokbaiemimhjaaGreat.cst 2 a).getD 1 0) K = 0 := fun K => by
      induction K with
      | zero => rfl
      | succ K ih => show smK _ K + c K * (Go.Proofs.YtnokbaiemimhjaaGreat.cst 2 a).getD 1 0 = 0; rw [ih, cst_2]; simp
    rw [this, cst_2]; rfl⟩
  add := fun x z y w hx hy => Rl.op (A := 1) (B := 1) hx hy ⟨by rw [addS_len]; exact hx.sz.1, addS_num _ _⟩ (fun k hk => ⟨by rw [addS_len]; exact (hx.sx k hk).1, addS_num _ _⟩)
    (fun k hk => by rw [add_k (by rw [(hx.sx k hk).1]; decide), add_k (by rw [hx.sz.1]; decide), hx.v k hk, hy.v k hk]) (by rw [add_k (by rw [hx.sz.1]; decide), Int.one_mul, Int.one_mul]) (fun k hk => by rw [add_k (by rw [(hx.sx k hk).1]; decide), Int.one_mul, Int.one_mul])
  red := fun x z y w hx hy => Rl.op (A := 1) (B := -1) hx hy ⟨by rw [redS_len]; exact hx.sz.1, redS_num _ _⟩ (fun k hk => ⟨by rw [redS_len]; exact (hx.sx k hk).1, redS_num _ _⟩)
    (fun k hk => by rw [red_k (by rw [(hx.sx k hk).1]; decide), red_k (by rw [hx.sz.1]; decide), hx.v k hk, hy.v k hk]) (by rw [red_k (by rw [hx.sz.1]; decide)]; congr 1; omega) (fun k hk => by rw [red_k (by rw [(hx.sx k hk).1]; decide)]; congr 1; omega)
  pro := fun x z y w hx hy => Rl.op (A := w.getD 0 0) (B := z.getD 0 0) hx hy ⟨by rw [proS_len]; exact hx.sz.1, proS_num _ _⟩ (fun k hk => ⟨by rw [proS_len]; exact (hx.sx k hk).1, proS_num _ _⟩)
    (fun k hk => by rw [pro_0 (by rw [(hx.sx k hk).1]; decide), pro_0 (by rw [hx.sz.1]; decide), hx.v k hk, hy.v k hk])
    (by rw [pro_1 (by rw [hx.sz.1]; decide), md_addl, Int.zero_add, Int.add_comm, Int.mul_comm (z.getD 1 0)])
    (fun k hk => by rw [pro_1 (by rw [(hx.sx k hk).1]; decide), md_addl, Int.zero_add, Int.add_comm, Int.mul_comm ((x k).getD 1 0), hx.v k hk, hy.v k hk])
  scl := fun x z hx => Rl.op (A := 1000002) (B := 0) hx hx ⟨by rw [sclS_len]; exact hx.sz.1, sclS_num _ _⟩ (fun k hk => ⟨by rw [sclS_len]; exact (hx.sx k hk).1, sclS_num _ _⟩)
    (fun k hk => by rw [scl_k (by rw [(hx.sx k hk).1]; decide), scl_k (by rw [hx.sz.1]; decide), hx.v k hk]) (by rw [scl_k (by rw [hx.sz.1]; decide)]; congr 1; omega) (fun k hk => by rw [scl_k (by rw [(hx.sx k hk).1]; decide)]; congr 1; omega)
  quo := fun x z y w hx hy h0 => by
    have hq : ∀ k, k < K → (quoS (x k) (y k)).getD 0 0 = (quoS z w).getD 0 0 := fun k hk => by rw [quo_0 (by rw [(hx.sx k hk).1]; decide), quo_0 (by rw [hx.sz.1]; decide), hx.v k hk, hy.v k hk]
    have hf : ∀ a q b i : Int, md (md (a - q * b) * i) = md (i * a + (-(q * i)) * b) := fun a q b i => by
      rw [md_mull]; congr 1
      rw [Int.sub_mul, Int.neg_mul, Int.mul_comm a i, Int.mul_assoc, Int.mul_assoc, Int.mul_comm b i]; omega
    exact Rl.op (A := inv (w.getD 0 0)) (B := -((quoS z w).getD 0 0 * inv (w.getD 0 0))) hx hy ⟨by rw [quoS_len]; exact hx.sz.1, quoS_num _ _⟩ (fun k hk => ⟨by rw [quoS_len]; exact (hx.sx k hk).1, quoS_num _ _⟩) hq
      (by rw [quo_1 (by rw [hx.sz.1]; decide), hf]) (fun k hk => by rw [quo_1 (by rw [(hx.sx k hk).1]; decide), hf, hq k hk, hy.v k hk])
end Go.Proofs.YtnokbaiemimhjaaGreat
namespace Go.Proofs.YtnokbaiemimhjaaGreat
open Go Go.RowKit
set_option linter.unusedVariables false
set_option linter.unusedSimpArgs false
section ops
variable {P : Program} {ops : Array Oper} {w0 : World} {Q : Act → World → Prop} {os : List Oper} {ks : List Nat} {N : Nat} {ρ : Nat → Value} {w : World}
  {d : Nat} {ty : TypeId} {pos : String} {aft : Array Edge} {g : Option (Nat × Bool)} {t e : TypeId} {z : Value} {b s : Nat} {α : Type} {E : StandN α}
end ops
theorem FrP.ext {α : Type} {E : Stand α} (hE : Good E) {S : Nat → Prop} {w w' : World} {v : Value} {x : α} (h : FrP E S w.heap v x) (c : Ext w w') : FrP E S w'.heap v x := by
  obtain ⟨G, h1, h2, h3⟩ := h
  exact ⟨G, hE.stable h1 fun b hb => c.heap (hE.lt h1 b hb), h2, h3⟩
/-- A drawn call: a program, a function, an output, numbers, a direction. -/
structure CallD (p : List Fn) (f pk : Int) (a b : List Int) : Prop where
  dr : DPr p false
  dn : Dn p
  len : 1 ≤ p.length ∧ p.length ≤ 3
  fe : f = ((p.length : Nat) : Int) - 1
  pk : 0 ≤ pk ∧ pk < (((p.getD f.toNat Fn.zero).outs.length : Nat) : Int)
  la : ((a.length : Nat) : Int) = (p.getD f.toNat Fn.zero).params ∧ allN a = true
  lb : ((b.length : Nat) : Int) = (p.getD f.toNat Fn.zero).params ∧ allN b = true
/-- A drawn function that can be repeated. -/
structure LoopD (p : List Fn) (f : Int) (a : List Int) : Prop where
  dr : DPr p false
  dn : ∀ k, k < p.length → (∃ s ∈ four, ∃ i : Fin 10, (p.getD k Fn.zero).name = s ++ dig i.val) ∨ (p.getD k Fn.zero).name = ⟨#[116, 117, 114, 110]⟩
  len : 1 ≤ p.length ∧ p.length ≤ 3
  fe : f = ((p.length : Nat) : Int) - 1
  sq : (((p.getD f.toNat Fn.zero).outs.length : Nat) : Int) = (p.getD f.toNat Fn.zero).params
  la : ((a.length : Nat) : Int) = (p.getD f.toNat Fn.zero).params ∧ allN a = true
theorem LoopD.mk' {p : List Fn} {g : Fn} {f : Int} {i : Nat} {a : List Int} (h : DPr p false) (hd : Dn p) (hl : p.length ≤ 2) (hp : 1 ≤ g.params ∧ g.params ≤ 3) (ho : FOk p g.params false g.outs i) (hi : ((i : Nat) : Int) = g.params) (hn : g.name = ⟨#[116, 117, 114, 110]⟩)
    (hf : f = ((p.length : Nat) : Int)) (hla : ((a.length : Nat) : Int) = g.params) (hna : allN a = true) : LoopD (p ++ [g]) f a := by
  have h1 := ho.fix h hd (by omega) hp (by omega) (by rw [hn]; unfold fixN; simp)
  have e : (p ++ [g]).getD f.toNat Fn.zero = g := gd_r (by omega)
  refine ⟨h1, fun k hk => ?_, by rw [List.length_append, List.length_singleton]; omega, by rw [List.length_append, List.length_singleton]; omega, by rw [e, ho.len]; exact hi, by rw [e]; exact ⟨hla, hna⟩⟩
  rw [List.length_append, List.length_singleton] at hk
  by_cases hk' : k < p.length
  · obtain ⟨t, ht, e2⟩ := hd k hk'
    rw [gd_l hk']; exact .inl ⟨t, ht, ⟨k, by omega⟩, e2⟩
  · rw [gd_r (by omega)]; exact .inr hn
theorem ar_ok {p : List Fn} {f : Int} {a : Sr} (h : okP p = true) (hf : 0 ≤ f ∧ f < ((p.length : Nat) : Int)) (hl : ((a.length : Nat) : Int) = (p.getD f.toNat Fn.zero).params) (hn : allN a = true) : arC p f a = 0 := by
  unfold arC isF
  rw [if_pos h, if_pos (by omega)]
  rw [if_pos]
  rw [Bool.and_eq_true, decide_eq_true_eq]; exact ⟨hl, hn⟩
theorem ev_cases {p : List Fn} (hv : VPr p) {n f : Nat} {a : List Sr} (hf : f < p.length) (ha : SrE n a) (hl : ((a.length : Nat) : Int) = (p.getD f Fn.zero).params) :
    (∃ x s, ev p n f a = .ok x s ∧ x.length = (p.getD f Fn.zero).outs.length ∧ SrE n x) ∨ ev p n f a = .err 6 ∨ ev p n f a = .err 7 := by
  have h := (evC_P hv n (f + 1) (by omega)).all f a 0 (by omega) ha hl (by omega)
  rw [evC_all (by omega)] at h
  have e : ev p n f a = evs n (evC p n f) (p.getD f Fn.zero).outs a 0 := rfl
  rw [← e] at h
  cases h2 : ev p n f a with
  | err c =>
    rw [h2] at h; have h : c = 6 ∨ c = 7 := h
    rcases h with rfl | rfl
    · exact .inr (.inl rfl)
    · exact .inr (.inr rfl)
  | ok xs s =>
    rw [h2] at h; have h : xs.length = _ ∧ SrE n xs ∧ s ≤ 3000 := h
    exact .inl ⟨xs, s, rfl, h.1, h.2.1⟩
section
variable {p : List Fn} {f : Int} {a : List Int}
end
end Go.Proofs.YtnokbaiemimhjaaGreat
namespace Go.Proofs.YtnokbaiemimhjaaGreat
open Go Go.RowKit
set_option linter.unusedVariables false
set_option linter.unusedSimpArgs false
/-- Numbers and directions asq series. -/
def alS (a d : List Int) (n : Nat) : List Sr := tab a.length fun i => (cst n (a.getD i 0)).set 1 (d.getD i 0)
@[simp] theorem alS_len (a d : List Int) (n : Nat) : (alS a d n).length = a.length := by simp [alS]
theorem alS_at {a d : List Int} {n k : Nat} (h : k < a.length) : (alS a d n).getD k [] = (cst n (a.getD k 0)).set 1 (d.getD k 0) := tab_get [] h
theorem alS_ser {a d : List Int} {n : Nat} (ha : allN a = true) (hd : allN d = true) : SrE n (alS a d n) := fun k hk => by
  rw [alS_len] at hk
  rw [alS_at hk]
  refine ⟨by rw [List.length_set, cst_len], ?_⟩
  have h1 := cst_ser (n := n) (isN_iff.2 (allN_get ha k))
  unfold allN
  rw [List.all_eq_true]
  intro y hy
  rcases List.mem_or_eq_of_mem_set hy with hy | rfl
  · have := h1.2; unfold allN at this; exact List.all_eq_true.1 this y hy
  · exact isN_iff.2 (allN_get hd k)
/-- The code of a function, numbers and a direction. -/
def liC (p : List Fn) (f : Int) (a d : Sr) : Int := if isF p f = 0 then (if ((decide (((a.length : Nat) : Int) = (p.getD f.toNat Fn.zero).params) && allN a) && (decide (((d.length : Nat) : Int) = (p.getD f.toNat Fn.zero).params) && allN d)) = true then 0 else 2) else isF p f
theorem liC_0 {p : List Fn} {f : Int} {a d : Sr} (h : liC p f a d = 0) : okP p = true ∧ (0 ≤ f ∧ f < ((p.length : Nat) : Int)) ∧ (((a.length : Nat) : Int) = (p.getD f.toNat Fn.zero).params ∧ allN a = true) ∧ ((d.length : Nat) : Int) = (p.getD f.toNat Fn.zero).params ∧ allN d = true := by
  unfold liC at h
  split at h
  · rename_i h1
    split at h
    · rename_i h2
      simp only [Bool.and_eq_true, decide_eq_true_eq] at h2
      obtain ⟨q1, q2, q3⟩ := isF_0 h1
      exact ⟨q1, ⟨q2, q3⟩, h2.1, h2.2⟩
    · omega
  · rename_i h1; exact absurd h h1
/-- Values and slopes along a direction. -/
def drR (p : List Fn) (f : Nat) (a d : List Int) : List Sr := evR p 2 f (alS a d 2)
def drC (p : List Fn) (f : Nat) (a d : List Int) : Int := evD p 2 f (alS a d 2)
theorem rd_nilI {H : Array Obj} : Rd (rdL rI) H (.slice none 0 0) [] := ⟨[], .inl ⟨none, 0, rfl, rfl, rfl⟩⟩
/-- The sum of the unit vectors of j parameters. -/
def uniG (n : Nat) (ps : List Int) : Nat → List Int
  | 0 => List.replicate n 0
  | j + 1 => (uniG n ps j).set (ps.getD j 0).toNat (md ((uniG n ps j).getD (ps.getD j 0).toNat 0 + 1))
theorem uniG_len (n : Nat) (ps : List Int) : ∀ j, (uniG n ps j).length = n
  | 0 => List.length_replicate ..
  | j + 1 => by show (List.set _ _ _).length = n; rw [List.length_set, uniG_len n ps j]
theorem uniG_num (n : Nat) (ps : List Int) : ∀ j, allN (uniG n ps j) = true
  | 0 => allN_rep n
  | j + 1 => by
    have h := uniG_num n ps j
    unfold allN at h ⊢
    rw [List.all_eq_true] at h ⊢
    intro y hy
    rcases List.mem_or_eq_of_mem_set hy with hy | rfl
    · exact h y hy
    · exact isN_iff.2 (md_num _)
/-- The rows of the Jacobian after i columns. -/
def jaP (p : List Fn) (f : Nat) (a : List Int) (i r : Nat) : List Int := tab i fun c => ((drR p f a (uniG a.length [((c : Nat) : Int)] 1)).getD r []).getD 1 0
@[simp] theorem jaP_len (p : List Fn) (f : Nat) (a : List Int) (i r : Nat) : (jaP p f a i r).length = i := by simp [jaP]
def jaT (p : List Fn) (f : Nat) (a : List Int) (K i : Nat) : List (List Int) := tab K (jaP p f a i)
@[simp] theorem jaT_len (p : List Fn) (f : Nat) (a : List Int) (K i : Nat) : (jaT p f a K i).length = K := by simp [jaT]
theorem ja_set {p : List Fn} {f : Nat} {a : List Int} {K i r : Nat} (hr : r < K) :
    (mix r (jaT p f a K (i + 1)) (jaT p f a K i)).set r ((mix r (jaT p f a K (i + 1)) (jaT p f a K i)).getD r [] ++ [((drR p f a (uniG a.length [((i : Nat) : Int)] 1)).getD r []).getD 1 0]) = mix (r + 1) (jaT p f a K (i + 1)) (jaT p f a K i) := by
  unfold jaT
  rw [mix_ge [] (by simp) (Nat.le_refl _) (by simpa using hr), tab_get [] hr, mix_tab (by simp) hr]
  congr 1
  exact (tab_succ i fun c => ((drR p f a (uniG a.length [((c : Nat) : Int)] 1)).getD r []).getD 1 0).symm
theorem ja_row {p : List Fn} {f : Nat} {a : List Int} {K i r : Nat} (hr : r < K) : ((mix r (jaT p f a K (i + 1)) (jaT p f a K i)).getD r []).length = i := by
  unfold jaT
  rw [mix_ge [] (by simp) (Nat.le_refl _) (by simpa using hr), tab_get [] hr, jaP_len]
/-- Codes do not depend on directions. -/
theorem al_cut (a d : List Int) : (alS a d 2).map (cut 1) = sing a := by
  refine extR (by rw [List.length_map, alS_len]; unfold sing; rw [List.length_map]) fun k hk => ?_
  rw [List.length_map, alS_len] at hk
  rw [map_getD (d := []) (by rw [alS_len]; exact hk), alS_at hk]
  unfold sing
  rw [map_getD (d := 0) hk]
  rfl
theorem dr_c (p : List Fn) (f : Nat) (a d : List Int) : drC p f a d = nxC p f a := by
  unfold drC nxC
  rw [← evD_cut p (Nat.le_refl 1) (show 1 ≤ 2 by decide), al_cut]
theorem ja_0 (p : List Fn) (f : Nat) (a : List Int) (K : Nat) : jaT p f a K 0 = List.replicate K [] := by
  refine extR (by simp) fun i hi => ?_
  rw [jaT_len] at hi
  unfold jaT
  rw [tab_get [] hi, List.getD_eq_getElem?_getD, List.getElem?_replicate, if_pos hi]; rfl
end Go.Proofs.YtnokbaiemimhjaaGreat
namespace Go.Proofs.YtnokbaiemimhjaaGreat
open Go Go.RowKit
set_option linter.unusedVariables false
set_option linter.unusedSimpArgs false
/-- The unit vector of a parameter. -/
def eV (n k : Nat) : List Int := uniG n [((k : Nat) : Int)] 1
theorem rep_0 (n j : Nat) : (List.replicate n (0 : Int)).getD j 0 = 0 := by
  rw [List.getD_eq_getElem?_getD, List.getElem?_replicate]; split <;> rfl
theorem eV_get {n k j : Nat} (hk : k < n) : (eV n k).getD j 0 = if k = j then 1 else 0 := by
  show ((List.replicate n (0 : Int)).set (((k : Nat) : Int)).toNat (md ((List.replicate n (0 : Int)).getD (((k : Nat) : Int)).toNat 0 + 1))).getD j 0 = _
  rw [Int.toNat_natCast, set_at, List.length_replicate, rep_0, rep_0]
  by_cases e : k = j
  · subst e; rw [if_pos ⟨rfl, hk⟩, if_pos rfl]; rfl
  · rw [if_neg (by omega), if_neg e]
theorem eV_num (n k : Nat) : allN (eV n k) = true := uniG_num _ _ _
@[simp] theorem eV_len (n k : Nat) : (eV n k).length = n := uniG_len _ _ _
/-- The sum of the products of elements. -/
def dotG (a b : List Int) (k : Nat) : Int := md (sm k fun j => a.getD j 0 * b.getD j 0)
theorem dotG_step (a b : List Int) (k : Nat) : md (dotG a b k + md (a.getD k 0 * b.getD k 0)) = dotG a b (k + 1) := by
  unfold dotG
  rw [md_add]; rfl
theorem smK_sm (f : Nat → Int) : ∀ n, smK f n = sm n f
  | 0 => rfl
  | n + 1 => by show smK f n + f n = sm n f + f n; rw [smK_sm f n]
theorem alS_0 {a d : List Int} {i : Nat} (h : i < a.length) : ((alS a d 2).getD i []).getD 0 0 = a.getD i 0 := by rw [alS_at h]; rfl
theorem alS_1 {a d : List Int} {i : Nat} (h : i < a.length) : ((alS a d 2).getD i []).getD 1 0 = d.getD i 0 := by rw [alS_at h]; rfl
theorem ev_ok0 {p : List Fn} (hv : VPr p) {n f : Nat} {a : List Sr} (hf : f < p.length) (ha : SrE n a) (hl : ((a.length : Nat) : Int) = (p.getD f Fn.zero).params) (h0 : evD p n f a = 0) : ∃ x t, ev p n f a = .ok x t ∧ x.length = (p.getD f Fn.zero).outs.length ∧ SrE n x := by
  rcases ev_cases hv hf ha hl with ⟨x, s, h1, h2, h3⟩ | h1 | h1
  · exact ⟨x, s, h1, h2, h3⟩
  · rw [evD_e h1] at h0; omega
  · rw [evD_e h1] at h0; omega
/-- Runs along many directions and along a combination of them. -/
theorem dir_comb {p : List Fn} {f : Nat} {a d : List Int} {K : Nat} {D : Nat → List Int} {c : Nat → Int} (hv : VPr p) (hf : f < p.length) (hl : ((a.length : Nat) : Int) = (p.getD f Fn.zero).params) (hna : allN a = true) (hnd : allN d = true)
    (hD : ∀ k, k < K → allN (D k) = true) (hc : ∀ i, i < a.length → d.getD i 0 = md (smK (fun k => c k * (D k).getD i 0) K)) (h0 : nxC p f a = 0) {r : Nat} (hr : r < (p.getD f Fn.zero).outs.length) :
    ((drR p f a d).getD r []).getD 1 0 = md (smK (fun k => c k * ((drR p f a (D k)).getD r []).getD 1 0) K) := by
  have h := ev_R (Rl.all K c) hv (m := a.length) (a := fun k => alS a (D k) 2) (az := alS a d 2) hf
    ⟨alS_len _ _ _, fun k _ => alS_len _ _ _, fun i hi => ⟨fun k => (alS a (D k) 2).getD i [], fun _ _ => rfl,
      ⟨alS_ser hna hnd i (by rw [alS_len]; exact hi), fun k hk => alS_ser hna (hD k hk) i (by rw [alS_len]; exact hi), fun k _ => by rw [alS_0 hi, alS_0 hi], by
        rw [alS_1 hi, hc i hi]
        refine smK_mod K fun k _ => ?_
        rw [alS_1 hi]⟩⟩⟩ hl
  have hdc : evD p 2 f (alS a d 2) = 0 := (dr_c p f a d).trans h0
  obtain ⟨z, t, he, _, _⟩ := ev_ok0 hv hf (alS_ser (n := 2) hna hnd) (by rw [alS_len]; exact hl) hdc
  rw [he] at h
  obtain ⟨x, h1, h2⟩ := h
  obtain ⟨y, h3, h4⟩ := h2.2.2 r hr
  unfold drR
  rw [evR_o he, h4.d]
  refine smK_mod K fun k hk => ?_
  rw [← h3 k hk, evR_o (h1 k hk)]
/-- A function that has values at numbers. -/
structure AtP (p : List Fn) (f : Nat) (a : List Int) : Prop where
  v : VPr p
  lt : f < p.length
  l : ((a.length : Nat) : Int) = (p.getD f Fn.zero).params
  n : allN a = true
  z : nxC p f a = 0
section
variable {p : List Fn} {f : Nat} {a d e : List Int}
/-- The product of the Jacobian and a direction. -/
theorem dir_lin (h : AtP p f a) (hnd : allN d = true) (hld : d.length = a.length) {r : Nat} (hr : r < (p.getD f Fn.zero).outs.length) :
    ((drR p f a d).getD r []).getD 1 0 = md (sm a.length fun k => ((drR p f a (eV a.length k)).getD r []).getD 1 0 * d.getD k 0) := by
  rw [dir_comb (K := a.length) (D := fun k => eV a.length k) (c := fun k => d.getD k 0) h.v h.lt h.l h.n hnd (fun k _ => eV_num _ _) (fun i hi => ?_) h.z hr, smK_sm]
  · refine congrArg md (sm_congr fun k _ => ?_)
    rw [Int.mul_comm]
  · have h1 : (sm a.length fun k => d.getD k 0 * (eV a.length k).getD i 0) = sm a.length fun k => if i = k then d.getD k 0 else 0 := sm_congr fun k hk => by
      rw [eV_get hk]
      by_cases e : k = i
      · subst e; rw [if_pos rfl, if_pos rfl, Int.mul_one]
      · rw [if_neg e, if_neg fun h => e h.symm, Int.mul_zero]
    rw [smK_sm, h1, sm_delta, if_pos hi]
    have := allN_get hnd i
    exact (md_of this.1 this.2).symm
end
end Go.Proofs.YtnokbaiemimhjaaGreat
namespace Go.Proofs.YtnokbaiemimhjaaGreat
open Go Go.RowKit
set_option linter.unusedVariables false
set_option linter.unusedSimpArgs false
/-- The coefficients of a composition by Horner's scheme, n coefficients of the outer series. -/
def cmF (g : Nat → Int) : Nat → (Nat → Int) → Nat → Int
  | 0, _ => fun _ => 0
  | n + 1, f => fun k => (if k = 0 then f 0 else 0) + cv g (cmF g n fun i => f (i + 1)) k
theorem cv_low {g a b : Nat → Int} {k : Nat} (hg : g 0 = 0) (h : ∀ i, i < k → a i = b i) : cv g a k = cv g b k := by
  rw [cv_sm, cv_sm]
  refine sm_congr fun i hi => ?_
  by_cases e : i = 0
  · subst e; rw [hg, Int.zero_mul, Int.zero_mul]
  · rw [h (k - i) (by omega)]
theorem cmF_add (g : Nat → Int) : ∀ (n : Nat) (f f' : Nat → Int) (k : Nat), cmF g n (fun i => f i + f' i) k = cmF g n f k + cmF g n f' k
  | 0, _, _, _ => rfl
  | n + 1, f, f', k => by
    show (if k = 0 then f 0 + f' 0 else 0) + cv g (cmF g n fun i => f (i + 1) + f' (i + 1)) k = ((if k = 0 then f 0 else 0) + cv g (cmF g n fun i => f (i + 1)) k) + ((if k = 0 then f' 0 else 0) + cv g (cmF g n fun i => f' (i + 1)) k)
    rw [show (cmF g n fun i => f (i + 1) + f' (i + 1)) = fun k => cmF g n (fun i => f (i + 1)) k + cmF g n (fun i => f' (i + 1)) k from funext fun k => cmF_add g n _ _ k, cv_addr]
    split <;> omega
theorem cmF_mul1 (g : Nat → Int) (c : Int) : ∀ (n : Nat) (f : Nat → Int) (k : Nat), cmF g n (fun i => c * f i) k = c * cmF g n f k
  | 0, _, _ => (Int.mul_zero c).symm
  | n + 1, f, k => by
    show (if k = 0 then c * f 0 else 0) + cv g (cmF g n fun i => c * f (i + 1)) k = c * ((if k = 0 then f 0 else 0) + cv g (cmF g n fun i => f (i + 1)) k)
    rw [show (cmF g n fun i => c * f (i + 1)) = fun k => c * cmF g n (fun i => f (i + 1)) k from funext fun k => cmF_mul1 g c n _ k, cv_smulr, Int.mul_add]
    split
    · rfl
    · rw [Int.mul_zero]
theorem cmF_up {g : Nat → Int} (hg : g 0 = 0) : ∀ (n : Nat) (f : Nat → Int) (k : Nat), k < n → cmF g (n + 1) f k = cmF g n f k
  | 0, _, k, h => absurd h (Nat.not_lt_zero k)
  | n + 1, f, k, h => by
    show _ + cv g (cmF g (n + 1) fun i => f (i + 1)) k = _ + cv g (cmF g n fun i => f (i + 1)) k
    rw [cv_low hg fun i hi => cmF_up hg n _ i (by omega)]
/-- A composition of a product is the product of the compositions. -/
theorem cmF_pro {g : Nat → Int} (hg : g 0 = 0) : ∀ (n : Nat) (f h : Nat → Int) (k : Nat), k < n → cmF g n (cv f h) k = cv (cmF g n f) (cmF g n h) k
  | 0, _, _, k, hk => absurd hk (Nat.not_lt_zero k)
  | n + 1, f, h, k, hk => by
    have e1 : ∀ i, i < k → cmF g n (fun i => cv f h (i + 1)) i = f 0 * cmF g n (fun i => h (i + 1)) i + cv (cmF g n fun i => f (i + 1)) (cmF g (n + 1) h) i := fun i hi => by
      show cmF g n (fun i => f 0 * h (i + 1) + cv (fun i => f (i + 1)) h i) i = _
      rw [cmF_add, cmF_mul1, cmF_pro hg n _ h i (by omega)]
      congr 1
      exact cv_congr (fun _ _ => rfl) fun j hj => (cmF_up hg n h j (by omega)).symm
    show (if k = 0 then f 0 * h 0 else 0) + cv g (cmF g n fun i => cv f h (i + 1)) k = cv (fun k => (if k = 0 then f 0 else 0) + cv g (cmF g n fun i => f (i + 1)) k) (cmF g (n + 1) h) k
    rw [cv_low hg e1, cv_addr, cv_smulr, cv_addl, show (cv fun i => cv g (cmF g n fun i => f (i + 1)) i) = cv (cv g (cmF g n fun i => f (i + 1))) from rfl, cv_assoc]
    have e2 : cv (fun i => if i = 0 then f 0 else 0) (cmF g (n + 1) h) k = f 0 * cmF g (n + 1) h k := by
      rw [show (fun i : Nat => if i = 0 then f 0 else 0) = fun i => f 0 * oneF i from funext fun i => by unfold oneF; split <;> simp, cv_smull, cv_one]
    rw [e2]
    show _ = f 0 * ((if k = 0 then h 0 else 0) + cv g (cmF g n fun i => h (i + 1)) k) + _
    rw [Int.mul_add]
    split
    · omega
    · rw [Int.mul_zero]; omega
theorem cmF_md (g : Nat → Int) : ∀ (n : Nat) {f f' : Nat → Int}, EN n f f' → ∀ k, md (cmF g n f k) = md (cmF g n f' k)
  | 0, _, _, _, _ => rfl
  | n + 1, f, f', h, k => by
    show md ((if k = 0 then f 0 else 0) + cv g (cmF g n fun i => f (i + 1)) k) = md ((if k = 0 then f' 0 else 0) + cv g (cmF g n fun i => f' (i + 1)) k)
    rw [← md_add, cv_md (g' := cmF g n fun i => f' (i + 1)) (fun i _ => rfl) (fun i _ => cmF_md g n (fun j hj => h (j + 1) (by omega)) i)]
    rw [show md (if k = 0 then f 0 else 0) = md (if k = 0 then f' 0 else 0) by split; exact h 0 (by omega); rfl, md_add]
theorem cmF_0 {g : Nat → Int} (hg : g 0 = 0) {n : Nat} (hn : 0 < n) (f : Nat → Int) : cmF g n f 0 = f 0 := by
  obtain ⟨n, rfl⟩ : ∃ k, n = k + 1 := ⟨n - 1, by omega⟩
  show f 0 + g 0 * _ = f 0
  rw [hg, Int.zero_mul, Int.add_zero]
theorem cst_at {n k : Nat} {c : Int} (h : 0 < n) : (cst n c).getD k 0 = if k = 0 then c else 0 := by
  by_cases e : k = 0
  · subst e; rw [if_pos rfl, cst_at0 h]
  · unfold cst
    rw [if_neg e, set_at, if_neg (by omega), rep_0]
theorem cmF_cst {g : Nat → Int} {n : Nat} (hn : 0 < n) (c : Int) (k : Nat) : cmF g n (fnS (cst n c)) k = if k = 0 then c else 0 := by
  have e : fnS (cst n c) = fun i => c * oneF i := funext fun i => by show (cst n c).getD i 0 = _; rw [cst_at hn]; unfold oneF; split <;> simp
  obtain ⟨n, rfl⟩ : ∃ k, n = k + 1 := ⟨n - 1, by omega⟩
  rw [e]
  show (if k = 0 then c * oneF 0 else 0) + cv g (cmF g n fun i => c * oneF (i + 1)) k = _
  rw [show (cmF g n fun i => c * oneF (i + 1)) = fun k => 0 * cmF g n zerF k from funext fun k => by
    rw [← cmF_mul1]; congr 1; funext i; show c * 0 = 0 * _; simp, cv_smulr, Int.zero_mul, Int.add_zero]
  show (if k = 0 then c * 1 else 0) = _
  rw [Int.mul_one]
/-- A series that is another one after a third. -/
structure Rcm (m : Nat) (g : Nat → Int) (x : Nat → Sr) (z : Sr) : Prop where
  sz : Ser1 m z
  sx : Ser1 m (x 0)
  v : EN m (fnS z) (cmF g m (fnS (x 0)))
theorem addE {N : Nat} {a b : Sr} (ha : Ser1 N a) : EN N (fnS (addS a b)) (fun k => fnS a k + fnS b k) := fun k hk => by
  show md ((addS a b).getD k 0) = _
  rw [add_k (by rw [ha.1]; exact hk), md_md]; rfl
theorem sclE {N : Nat} {a : Sr} {y : Int} (ha : Ser1 N a) : EN N (fnS (sclS a y)) (fun k => y * fnS a k) := fun k hk => by
  show md ((sclS a y).getD k 0) = _
  rw [scl_k (by rw [ha.1]; exact hk), md_md, Int.mul_comm]; rfl
theorem cmE {m : Nat} {g : Nat → Int} {f f' : Nat → Int} (h : EN m f f') : EN m (cmF g m f) (cmF g m f') := fun k _ => cmF_md g m h k
theorem EN.add {N : Nat} {f f' g g' : Nat → Int} (hf : EN N f f') (hg : EN N g g') : EN N (fun k => f k + g k) (fun k => f' k + g' k) := fun k hk => by rw [← md_add, hf k hk, hg k hk, md_add]
theorem EN.mul1 {N : Nat} {f f' : Nat → Int} (c : Int) (hf : EN N f f') : EN N (fun k => c * f k) (fun k => c * f' k) := fun k hk => by rw [← md_mulr, hf k hk, md_mulr]
theorem Rcm.all {m : Nat} {g : Nat → Int} (hm : 0 < m) (hg : g 0 = 0) : OpR 1 (fun _ => m) m (Rcm m g) where
  zero := fun x z h k hk => by
    obtain rfl : k = 0 := by omega
    have h1 := h.v 0 hm
    rw [cmF_0 hg hm] at h1
    have h2 : md (z.getD 0 0) = md ((x 0).getD 0 0) := h1
    have h3 := allN_get h.sz.2 0
    have h4 := allN_get h.sx.2 0
    rw [md_of h3.1 h3.2, md_of h4.1 h4.2] at h2
    rw [h2]
  cst := fun c hc => ⟨cst_ser hc, cst_ser hc, fun k hk => by rw [cmF_cst hm]; show md ((cst m c).getD k 0) = _; rw [cst_at hm]⟩
  add := fun x z y w hx hy => ⟨⟨by rw [addS_len]; exact hx.sz.1, addS_num _ _⟩, ⟨by rw [addS_len]; exact hx.sx.1, addS_num _ _⟩,
    (addE hx.sz).trans ((hx.v.add hy.v).trans fun k hk => by
      show md (cmF g m (fnS (x 0)) k + cmF g m (fnS (y 0)) k) = _
      rw [← cmF_add]; exact (cmF_md g m (addE hx.sx) k).symm)⟩
  red := fun x z y w hx hy => ⟨⟨by rw [redS_len]; exact hx.sz.1, redS_num _ _⟩, ⟨by rw [redS_len]; exact hx.sx.1, redS_num _ _⟩,
    (redE hx.sz).trans ((hx.v.sub hy.v).trans fun k hk => by
      show md (cmF g m (fnS (x 0)) k - cmF g m (fnS (y 0)) k) = _
      rw [show cmF g m (fnS (x 0)) k - cmF g m (fnS (y 0)) k = cmF g m (fun i => fnS (x 0) i + (-1) * fnS (y 0) i) k by rw [cmF_add, cmF_mul1]; omega]
      refine (cmF_md g m (fun i hi => ?_) k).symm
      rw [redE hx.sx i hi]; congr 1; dsimp only; omega)⟩
  pro := fun x z y w hx hy => ⟨⟨by rw [proS_len]; exact hx.sz.1, proS_num _ _⟩, ⟨by rw [proS_len]; exact hx.sx.1, proS_num _ _⟩,
    (proE hx.sz).trans ((hx.v.cv hy.v).trans fun k hk => by
      rw [← cmF_pro hg m _ _ k hk]; exact (cmF_md g m (proE hx.sx) k).symm)⟩
  scl := fun x z hx => ⟨⟨by rw [sclS_len]; exact hx.sz.1, sclS_num _ _⟩, ⟨by rw [sclS_len]; exact hx.sx.1, sclS_num _ _⟩,
    (sclE hx.sz).trans ((hx.v.mul1 _).trans fun k hk => by
      show md (_ * cmF g m (fnS (x 0)) k) = _
      rw [← cmF_mul1]; exact (cmF_md g m (sclE hx.sx) k).symm)⟩
  quo := fun x z y w hx hy h0 => ⟨⟨by rw [quoS_len]; exact hx.sz.1, quoS_num _ _⟩, ⟨by rw [quoS_len]; exact hx.sx.1, quoS_num _ _⟩, by
    have hy0 : (y 0).getD 0 0 ≠ 0 := fun h => h0 (by
      have h1 := hy.v 0 hm
      rw [cmF_0 hg hm] at h1
      have h2 : md (w.getD 0 0) = md ((y 0).getD 0 0) := h1
      have h3 := allN_get hy.sz.2 0
      rw [h, md_of h3.1 h3.2] at h2
      exact h2)
    refine div_unique (unit_of hy.sz h0) ((quoE hx.sz hy.sz h0).trans (hx.v.trans ?_))
    have h1 : EN m (cmF g m (fnS (x 0))) (cmF g m (cv (fnS (quoS (x 0) (y 0))) (fnS (y 0)))) := (cmE (quoE hx.sx hy.sx hy0)).symm
    refine h1.trans (fun k hk => ?_)
    rw [cmF_pro hg m _ _ k hk]
    exact (EN.cv (EN.rfl' _) hy.v).symm k hk⟩
/-- Composition asq the program makes it: j steps. -/
def cpL (a b : Sr) : Nat → Sr
  | 0 => List.replicate a.length 0
  | j + 1 => (proS (cpL a b j) b).set 0 (md ((proS (cpL a b j) b).getD 0 0 + a.getD (a.length - (j + 1)) 0))
def cpS (a b : Sr) : Sr := cpL a b a.length
@[simp] theorem cpL_len (a b : Sr) : ∀ j, (cpL a b j).length = a.length
  | 0 => by show (List.replicate _ _).length = _; simp
  | j + 1 => by show (List.set _ _ _).length = _; rw [List.length_set, proS_len, cpL_len a b j]
@[simp] theorem cpS_len (a b : Sr) : (cpS a b).length = a.length := cpL_len a b _
theorem cpL_num (a b : Sr) : ∀ j, allN (cpL a b j) = true
  | 0 => allN_rep _
  | j + 1 => by
    have h := proS_num (cpL a b j) b
    show allN (List.set _ _ _) = true
    unfold allN at h ⊢
    rw [List.all_eq_true] at h ⊢
    intro y hy
    rcases List.mem_or_eq_of_mem_set hy with hy | rfl
    · exact h y hy
    · exact isN_iff.2 (md_num _)
theorem cpS_num (a b : Sr) : allN (cpS a b) = true := cpL_num a b _
theorem cpL_at {a b : Sr} (hb : b.getD 0 0 = 0) : ∀ j, j ≤ a.length → ∀ k, k < a.length → (cpL a b j).getD k 0 = md (cmF (fnS b) j (fun i => fnS a (a.length - j + i)) k)
  | 0, _, k, hk => by show (List.replicate _ _).getD k 0 = md 0; rw [rep_0]; rfl
  | j + 1, hj, k, hk => by
    have ih := cpL_at (a := a) hb j (by omega)
    have hp : ∀ k, k < a.length → (proS (cpL a b j) b).getD k 0 = md (cv (fnS b) (cmF (fnS b) j fun i => fnS a (a.length - (j + 1) + (i + 1))) k) := fun k hk => by
      rw [proS_cv (by rw [cpL_len]; exact hk), cv_comm]
      refine cv_md (fun i _ => rfl) fun i hi => ?_
      show md ((cpL a b j).getD i 0) = _
      rw [ih i (by omega), md_md, show (fun i => fnS a (a.length - j + i)) = fun i => fnS a (a.length - (j + 1) + (i + 1)) from funext fun i => by congr 1; omega]
    show (List.set _ 0 _).getD k 0 = md ((if k = 0 then fnS a (a.length - (j + 1) + 0) else 0) + cv (fnS b) (cmF (fnS b) j fun i => fnS a (a.length - (j + 1) + (i + 1))) k)
    by_cases e : k = 0
    · subst e
      rw [set_at, if_pos ⟨rfl, by rw [proS_len, cpL_len]; exact hk⟩, if_pos rfl, hp 0 hk, md_addl, Int.add_comm]; rfl
    · rw [set_at, if_neg (by omega), if_neg e, hp k hk, Int.zero_add]
theorem cpS_at {a b : Sr} (hb : b.getD 0 0 = 0) {k : Nat} (hk : k < a.length) : (cpS a b).getD k 0 = md (cmF (fnS b) a.length (fnS a) k) := by
  unfold cpS
  rw [cpL_at hb _ (Nat.le_refl _) k hk, show (fun i => fnS a (a.length - a.length + i)) = fnS a from funext fun i => by congr 1; omega]
theorem cpS_R {m : Nat} {x b : Sr} (hx : Ser1 m x) (hb : b.getD 0 0 = 0) : Rcm m (fnS b) (fun _ => x) (cpS x b) :=
  ⟨⟨(cpS_len x b).trans hx.1, cpS_num x b⟩, hx, fun k hk => by
    show md ((cpS x b).getD k 0) = _
    rw [cpS_at hb (by rw [hx.1]; exact hk), md_md, hx.1]⟩
theorem Rcm.eq {m : Nat} {x : Nat → Sr} {z b : Sr} (h : Rcm m (fnS b) x z) (hb : b.getD 0 0 = 0) : z = cpS (x 0) b := by
  refine ext0 (by rw [cpS_len, h.sz.1, h.sx.1]) fun k hk => ?_
  rw [h.sz.1] at hk
  rw [cpS_at hb (by rw [h.sx.1]; exact hk), h.sx.1, ← h.v k hk]
  have h3 := allN_get h.sz.2 k
  exact (md_of h3.1 h3.2).symm
/-- Evaluation along a path that is reparametrized. -/
theorem path_turn {p : List Fn} {f m : Nat} {a : List Sr} {b : Sr} (hv : VPr p) (hf : f < p.length) (hm : 0 < m) (ha : SrE m a) (hl : ((a.length : Nat) : Int) = (p.getD f Fn.zero).params) (hb : b.getD 0 0 = 0) :
    evD p m f (a.map fun s => cpS s b) = evD p m f a ∧ (evD p m f a = 0 → evR p m f (a.map fun s => cpS s b) = (evR p m f a).map fun s => cpS s b) := by
  have h := ev_R (Rcm.all hm (g := fnS b) hb) hv (m := a.length) (a := fun _ => a) (az := a.map fun s => cpS s b) hf
    ⟨List.length_map .., fun _ _ => rfl, fun i hi => ⟨fun _ => a.getD i [], fun _ _ => rfl, by rw [map_getD (d := []) hi]; exact cpS_R (ha i hi) hb⟩⟩ hl
  unfold RRs at h
  rcases ev_cases hv hf ha hl with ⟨x, s, h1, h2, h3⟩ | h1 | h1
  all_goals
    split at h
    · rename_i z t hz
      obtain ⟨y, q1, q2⟩ := h
      have q0 := q1 0 (by decide)
      first
      | (rw [h1] at q0; cases q0)
      | skip
      try
        refine ⟨by rw [evD_o hz, evD_o (q1 0 (by decide))], fun _ => ?_⟩
        rw [evR_o hz, evR_o (q1 0 (by decide))]
        refine extR (by rw [q2.1, List.length_map, q2.2.1 0 (by decide)]) fun i hi => ?_
        rw [q2.1] at hi
        obtain ⟨u, r1, r2⟩ := q2.2.2 i hi
        rw [map_getD (d := []) (by rw [q2.2.1 0 (by decide)]; exact hi), r1 0 (by decide)]
        exact r2.eq hb
    · rename_i c hz
      have q1 := h 0 (by decide)
      refine ⟨by rw [evD_e hz, evD_e q1], fun h9 => ?_⟩
      rw [evD_e q1] at h9
      rw [h1] at q1
      cases q1 <;> omega
end Go.Proofs.YtnokbaiemimhjaaGreat
namespace Go.Proofs.YtnokbaiemimhjaaGreat
open Go Go.RowKit
set_option linter.unusedVariables false
set_option linter.unusedSimpArgs false
/-- A linear form and a quadratic form of n numbers. -/
def lnF (n : Nat) (c : Nat → Int) (d : List Int) : Int := sm n fun i => c i * d.getD i 0
def qdF (n : Nat) (b : Nat → Nat → Int) (d : List Int) : Int := sm n fun i => sm n fun k => b i k * (d.getD i 0 * d.getD k 0)
theorem lnF_lin (n : Nat) (A B : Int) (c c' : Nat → Int) (d : List Int) : lnF n (fun i => A * c i + B * c' i) d = A * lnF n c d + B * lnF n c' d := by
  unfold lnF
  rw [← sm_mul, ← sm_mul, ← sm_add]
  exact sm_congr fun i _ => by rw [Int.add_mul, Int.mul_assoc, Int.mul_assoc]
theorem sm_mulr (c : Int) (f : Nat → Int) (n : Nat) : sm n f * c = sm n fun i => f i * c := by
  rw [Int.mul_comm, ← sm_mul]
  exact sm_congr fun i _ => Int.mul_comm _ _
theorem lnF_mul (n : Nat) (c c' : Nat → Int) (d : List Int) : lnF n c d * lnF n c' d = qdF n (fun i k => c i * c' k) d := by
  unfold lnF qdF
  rw [sm_mulr]
  refine sm_congr fun i _ => ?_
  rw [← sm_mul]
  refine sm_congr fun k _ => ?_
  rw [Int.mul_assoc, Int.mul_assoc, Int.mul_left_comm (d.getD i 0)]
theorem qdF_add (n : Nat) (b b' : Nat → Nat → Int) (d : List Int) : qdF n (fun i k => b i k + b' i k) d = qdF n b d + qdF n b' d := by
  unfold qdF
  rw [← sm_add]
  refine sm_congr fun i _ => ?_
  rw [← sm_add]
  exact sm_congr fun k _ => Int.add_mul _ _ _
theorem qdF_mul (n : Nat) (A : Int) (b : Nat → Nat → Int) (d : List Int) : qdF n (fun i k => A * b i k) d = A * qdF n b d := by
  unfold qdF
  rw [← sm_mul]
  refine sm_congr fun i _ => ?_
  rw [← sm_mul]
  exact sm_congr fun k _ => Int.mul_assoc _ _ _
/-- Runs along directions: first coefficients are a linear form of the direction, second ones a quadratic form. -/
structure Q2 (n K : Nat) (D : Nat → List Int) (x : Nat → Sr) (z : Sr) : Prop where
  sx : ∀ k, k < K → Ser1 3 (x k)
  sz : Ser1 1 z
  v : ∀ k, k < K → (x k).getD 0 0 = z.getD 0 0
  q : ∃ c b, ∀ k, k < K → (x k).getD 1 0 = md (lnF n c (D k)) ∧ (x k).getD 2 0 = md (qdF n b (D k))
theorem pro_2 {a b : Sr} (h : 2 < a.length) : (proS a b).getD 2 0 = md (a.getD 0 0 * b.getD 2 0 + a.getD 1 0 * b.getD 1 0 + a.getD 2 0 * b.getD 0 0) := by
  rw [show (proS a b).getD 2 0 = _ from tab_get 0 h]
  show md (md (md (0 + a.getD 0 0 * b.getD 2 0) + a.getD 1 0 * b.getD 1 0) + a.getD 2 0 * b.getD 0 0) = _
  generalize a.getD 0 0 * b.getD 2 0 = x
  generalize a.getD 1 0 * b.getD 1 0 = y
  generalize a.getD 2 0 * b.getD 0 0 = z
  unfold md; omega
theorem quo_2 {a b : Sr} (h : 2 < a.length) : (quoS a b).getD 2 0 = md ((a.getD 2 0 - (quoS a b).getD 0 0 * b.getD 2 0 - (quoS a b).getD 1 0 * b.getD 1 0) * inv (b.getD 0 0)) := by
  rw [quoS_at h]
  show md (md (md (a.getD 2 0 - (quoS a b).getD 0 0 * b.getD 2 0) - (quoS a b).getD 1 0 * b.getD 1 0) * inv (b.getD 0 0)) = _
  rw [md_mull, ← md_mul, md_subl, md_mul]
theorem Q2.op {n K : Nat} {D : Nat → List Int} {xa xb out : Nat → Sr} {za zb oz : Sr} {A B E F : Int} (ha : Q2 n K D xa za) (hb : Q2 n K D xb zb) (hz : Ser1 1 oz) (hx : ∀ k, k < K → Ser1 3 (out k)) (hv : ∀ k, k < K → (out k).getD 0 0 = oz.getD 0 0)
    (h1 : ∀ k, k < K → (out k).getD 1 0 = md (A * (xa k).getD 1 0 + B * (xb k).getD 1 0))
    (h2 : ∀ k, k < K → (out k).getD 2 0 = md ((A * (xa k).getD 2 0 + B * (xb k).getD 2 0) + (E * ((xa k).getD 1 0 * (xb k).getD 1 0) + F * ((xb k).getD 1 0 * (xb k).getD 1 0)))) : Q2 n K D out oz := by
  obtain ⟨ca, ba, qa⟩ := ha.q
  obtain ⟨cb, bb, qb⟩ := hb.q
  refine ⟨hx, hz, hv, fun i => A * ca i + B * cb i, fun i k => (A * ba i k + B * bb i k) + (E * (ca i * cb k) + F * (cb i * cb k)), fun k hk => ⟨?_, ?_⟩⟩
  · rw [h1 k hk, (qa k hk).1, (qb k hk).1, lnF_lin, ← md_add, md_mulr, md_mulr, md_add]
  · rw [h2 k hk, (qa k hk).1, (qb k hk).1, (qa k hk).2, (qb k hk).2, qdF_add, qdF_add, qdF_add, qdF_mul, qdF_mul, qdF_mul, qdF_mul, ← lnF_mul, ← lnF_mul]
    have e : ∀ x y u v p q : Int, md (A * md x + B * md y + (E * (md u * md v) + F * (md p * md q))) = md (A * x + B * y + (E * (u * v) + F * (p * q))) := fun x y u v p q => by
      rw [← md_add, ← md_add (A * md x), ← md_add (E * _), md_mulr A, md_mulr B, ← md_mulr E, ← md_mulr F, md_mul, md_mul, md_mulr E, md_mulr F, md_add (A * x), md_add (E * _), md_add]
    exact e _ _ _ _ _ _
theorem cst_3 (c : Int) : (cst 3 c).getD 1 0 = 0 ∧ (cst 3 c).getD 2 0 = 0 := ⟨rfl, rfl⟩
theorem Q2.all (n K : Nat) (D : Nat → List Int) : OpR K (fun _ => 3) 1 (Q2 n K D) where
  zero := fun x z h k hk => by rw [h.v k hk]
  cst := fun a ha => ⟨fun _ _ => cst_ser ha, cst_ser ha, fun _ _ => rfl, fun _ => 0, fun _ _ => 0, fun k _ => by
    have e1 : lnF n (fun _ => 0) (D k) = 0 := by
      unfold lnF; refine (sm_congr (g := fun _ => 0 * 0) fun i _ => by rw [Int.zero_mul, Int.zero_mul]).trans ?_
      rw [sm_mul, Int.zero_mul]
    have e2 : qdF n (fun _ _ => 0) (D k) = 0 := by
      have := qdF_mul n 0 (fun _ _ => 0) (D k)
      simpa using this
    rw [e1, e2]
    exact ⟨(cst_3 a).1, (cst_3 a).2⟩⟩
  add := fun x z y w hx hy => Q2.op (A := 1) (B := 1) (E := 0) (F := 0) hx hy ⟨by rw [addS_len]; exact hx.sz.1, addS_num _ _⟩ (fun k hk => ⟨by rw [addS_len]; exact (hx.sx k hk).1, addS_num _ _⟩)
    (fun k hk => by rw [add_k (by rw [(hx.sx k hk).1]; decide), add_k (by rw [hx.sz.1]; decide), hx.v k hk, hy.v k hk]) (fun k hk => by rw [add_k (by rw [(hx.sx k hk).1]; decide), Int.one_mul, Int.one_mul])
    (fun k hk => by rw [add_k (by rw [(hx.sx k hk).1]; decide), Int.one_mul, Int.one_mul, Int.zero_mul, Int.zero_mul, Int.add_zero, Int.add_zero])
  red := fun x z y w hx hy => Q2.op (A := 1) (B := -1) (E := 0) (F := 0) hx hy ⟨by rw [redS_len]; exact hx.sz.1, redS_num _ _⟩ (fun k hk => ⟨by rw [redS_len]; exact (hx.sx k hk).1, redS_num _ _⟩)
    (fun k hk => by rw [red_k (by rw [(hx.sx k hk).1]; decide), red_k (by rw [hx.sz.1]; decide), hx.v k hk, hy.v k hk]) (fun k hk => by rw [red_k (by rw [(hx.sx k hk).1]; decide)]; congr 1; omega)
    (fun k hk => by rw [red_k (by rw [(hx.sx k hk).1]; decide), Int.zero_mul, Int.zero_mul]; congr 1; omega)
  pro := fun x z y w hx hy => Q2.op (A := w.getD 0 0) (B := z.getD 0 0) (E := 1) (F := 0) hx hy ⟨by rw [proS_len]; exact hx.sz.1, proS_num _ _⟩ (fun k hk => ⟨by rw [proS_len]; exact (hx.sx k hk).1, proS_num _ _⟩)
    (fun k hk => by rw [pro_0 (by rw [(hx.sx k hk).1]; decide), pro_0 (by rw [hx.sz.1]; decide), hx.v k hk, hy.v k hk])
    (fun k hk => by rw [pro_1 (by rw [(hx.sx k hk).1]; decide), md_addl, Int.zero_add, Int.add_comm, Int.mul_comm ((x k).getD 1 0), hx.v k hk, hy.v k hk])
    (fun k hk => by rw [pro_2 (by rw [(hx.sx k hk).1]; decide), hx.v k hk, hy.v k hk, Int.one_mul, Int.zero_mul, Int.mul_comm ((x k).getD 2 0)]; congr 1; omega)
  scl := fun x z hx => Q2.op (A := 1000002) (B := 0) (E := 0) (F := 0) hx hx ⟨by rw [sclS_len]; exact hx.sz.1, sclS_num _ _⟩ (fun k hk => ⟨by rw [sclS_len]; exact (hx.sx k hk).1, sclS_num _ _⟩)
    (fun k hk => by rw [scl_k (by rw [(hx.sx k hk).1]; decide), scl_k (by rw [hx.sz.1]; decide), hx.v k hk]) (fun k hk => by rw [scl_k (by rw [(hx.sx k hk).1]; decide)]; congr 1; omega)
    (fun k hk => by rw [scl_k (by rw [(hx.sx k hk).1]; decide), Int.zero_mul, Int.zero_mul]; congr 1; omega)
  quo := fun x z y w hx hy h0 => by
    have hq : ∀ k, k < K → (quoS (x k) (y k)).getD 0 0 = (quoS z w).getD 0 0 := fun k hk => by rw [quo_0 (by rw [(hx.sx k hk).1]; decide), quo_0 (by rw [hx.sz.1]; decide), hx.v k hk, hy.v k hk]
    have hf : ∀ a q b i : Int, md (md (a - q * b) * i) = md (i * a + (-(q * i)) * b) := fun a q b i => by
      rw [md_mull]; congr 1
      rw [Int.sub_mul, Int.neg_mul, Int.mul_comm a i, Int.mul_assoc, Int.mul_assoc, Int.mul_comm b i]; omega
    have h1 : ∀ k, k < K → (quoS (x k) (y k)).getD 1 0 = md (inv (w.getD 0 0) * (x k).getD 1 0 + (-((quoS z w).getD 0 0 * inv (w.getD 0 0))) * (y k).getD 1 0) := fun k hk => by rw [quo_1 (by rw [(hx.sx k hk).1]; decide), hf, hq k hk, hy.v k hk]
    refine Q2.op (A := inv (w.getD 0 0)) (B := -((quoS z w).getD 0 0 * inv (w.getD 0 0))) (E := -(inv (w.getD 0 0) * inv (w.getD 0 0))) (F := (quoS z w).getD 0 0 * inv (w.getD 0 0) * inv (w.getD 0 0)) hx hy ⟨by rw [quoS_len]; exact hx.sz.1, quoS_num _ _⟩ (fun k hk => ⟨by rw [quoS_len]; exact (hx.sx k hk).1, quoS_num _ _⟩) hq h1 fun k hk => ?_
    rw [quo_2 (by rw [(hx.sx k hk).1]; decide), h1 k hk, hq k hk, hy.v k hk]
    generalize inv (w.getD 0 0) = i
    generalize (quoS z w).getD 0 0 = q
    generalize (x k).getD 2 0 = a2
    generalize (x k).getD 1 0 = a1
    generalize (y k).getD 2 0 = b2
    generalize (y k).getD 1 0 = b1
    have e : ∀ s t u : Int, md ((s - md t * u) * i) = md ((s - t * u) * i) := fun s t u => by
      rw [← md_mull, ← md_subr, md_mull t, md_subr, md_mull]
    rw [e]
    congr 1
    simp only [Int.sub_mul, Int.add_mul, Int.mul_sub, Int.mul_add, Int.neg_mul, Int.mul_neg, Int.mul_assoc, Int.mul_comm, Int.mul_left_comm]
    omega
end Go.Proofs.YtnokbaiemimhjaaGreat
namespace Go.Proofs.YtnokbaiemimhjaaGreat
open Go Go.RowKit
set_option linter.unusedVariables false
set_option linter.unusedSimpArgs false
/-- A coefficient of an output along a direction. -/
def cfR (p : List Fn) (f pk : Nat) (a d : List Int) (o : Nat) : Int := ((evR p (o + 1) f (alS a d (o + 1))).getD pk []).getD o 0
def dl (i : Nat) (j : Nat) : Int := if i = j then 1 else 0
/-- The table of second derivatives. -/
def heV (p : List Fn) (f pk : Nat) (a : List Int) (i k : Nat) : Int := if i = k then md (2 * cfR p f pk a (uniG a.length [((i : Nat) : Int)] 1) 2) else md (cfR p f pk a (uniG a.length [((i : Nat) : Int), ((k : Nat) : Int)] 2) 2 - (cfR p f pk a (uniG a.length [((i : Nat) : Int)] 1) 2 + cfR p f pk a (uniG a.length [((k : Nat) : Int)] 1) 2))
def heP (p : List Fn) (f pk : Nat) (a : List Int) (i k : Nat) : List Int := tab k (heV p f pk a i)
def heT (p : List Fn) (f pk : Nat) (a : List Int) (i : Nat) : List (List Int) := tab i fun i => heP p f pk a i a.length
@[simp] theorem heP_len (p : List Fn) (f pk : Nat) (a : List Int) (i k : Nat) : (heP p f pk a i k).length = k := by simp [heP]
@[simp] theorem heT_len (p : List Fn) (f pk : Nat) (a : List Int) (i : Nat) : (heT p f pk a i).length = i := by simp [heT]
end Go.Proofs.YtnokbaiemimhjaaGreat
namespace Go.Proofs.YtnokbaiemimhjaaGreat
open Go Go.RowKit
set_option linter.unusedVariables false
set_option linter.unusedSimpArgs false
/-- The derivative of a series, k coefficients of it. -/
def derL (a : Sr) (k : Nat) : Sr := tab a.length fun i => if i < k then md (((i + 1 : Nat) : Int) * a.getD (i + 1) 0) else 0
def derS (a : Sr) : Sr := derL a (a.length - 1)
@[simp] theorem derL_len (a : Sr) (k : Nat) : (derL a k).length = a.length := by simp [derL]
@[simp] theorem derS_len (a : Sr) : (derS a).length = a.length := derL_len a _
theorem derL_zero (a : Sr) : derL a 0 = List.replicate a.length 0 :=
  ext0 (by simp) fun i hi => by rw [derL_len] at hi; unfold derL; rw [tab_get 0 hi, rep_0, if_neg (Nat.not_lt_zero i)]
theorem derL_set {a : Sr} {k : Nat} (hk : k < a.length) : (derL a k).set k (md (((k + 1 : Nat) : Int) * a.getD (k + 1) 0)) = derL a (k + 1) :=
  ext0 (by simp) fun i hi => by
    rw [List.length_set, derL_len] at hi
    rw [set_at, derL_len]
    unfold derL
    rw [tab_get 0 hi, tab_get 0 hi]
    by_cases e : i = k
    · subst e; rw [if_pos ⟨rfl, hi⟩, if_pos (by omega)]
    · rw [if_neg (by omega)]
      by_cases h : i < k
      · rw [if_pos h, if_pos (by omega)]
      · rw [if_neg h, if_neg (by omega)]
theorem derS_0 {a : Sr} (h : 2 ≤ a.length) (hn : allN a = true) : (derS a).getD 0 0 = a.getD 1 0 := by
  unfold derS derL
  rw [tab_get 0 (by omega), if_pos (by omega)]
  have := allN_get hn 1
  rw [show (((0 + 1 : Nat) : Int)) = 1 from rfl, Int.one_mul, md_of this.1 this.2]
/-- A path of series that begins at a point. -/
structure PthD (m : Nat) (a : List Int) (X : List Sr) : Prop where
  len : X.length = a.length
  ser : ∀ i, i < a.length → Ser1 m (X.getD i [])
  at0 : ∀ i, i < a.length → (X.getD i []).getD 0 0 = a.getD i 0
section
variable {p : List Fn} {f m : Nat} {a : List Int} {X : List Sr} {b : Sr}
theorem PthD.se (h : PthD m a X) : SrE m X := fun i hi => h.ser i (h.len ▸ hi)
theorem PthD.turn (h : PthD m a X) (hb : b.getD 0 0 = 0) (hm : 0 < m) : PthD m a (X.map fun s => cpS s b) :=
  ⟨by rw [List.length_map, h.len], fun i hi => by
    rw [map_getD (d := []) (by rw [h.len]; exact hi)]
    exact ⟨(cpS_len _ _).trans (h.ser i hi).1, cpS_num _ _⟩, fun i hi => by
    rw [map_getD (d := []) (by rw [h.len]; exact hi)]
    have h1 := (h.ser i hi).1
    rw [cpS_at hb (by omega), cmF_0 hb (by omega)]
    show md ((X.getD i []).getD 0 0) = _
    have := allN_get (h.ser i hi).2 0
    rw [md_of this.1 this.2, h.at0 i hi]⟩
theorem PthD.one (h : PthD m a X) (hm : 0 < m) : X.map (cut 1) = sing a := by
  refine extR (by rw [List.length_map, h.len]; unfold sing; rw [List.length_map]) fun i hi => ?_
  rw [List.length_map, h.len] at hi
  rw [map_getD (d := []) (by rw [h.len]; exact hi)]
  unfold sing
  rw [map_getD (d := 0) hi, ← h.at0 i hi]
  have h1 := (h.ser i hi).1
  generalize X.getD i [] = s at h1 ⊢
  cases s with
  | nil => simp at h1; omega
  | cons x s => rfl
theorem PthD.two (h : PthD m a X) (hm : 2 ≤ m) : X.map (cut 2) = alS a (X.map fun s => s.getD 1 0) 2 := by
  refine extR (by rw [List.length_map, h.len, alS_len]) fun i hi => ?_
  rw [List.length_map, h.len] at hi
  rw [map_getD (d := []) (by rw [h.len]; exact hi), alS_at hi, map_getD (d := []) (by rw [h.len]; exact hi), ← h.at0 i hi]
  have h1 := (h.ser i hi).1
  generalize X.getD i [] = s at h1 ⊢
  match s, h1 with
  | [], h1 => simp at h1; omega
  | [x], h1 => simp at h1; omega
  | x :: y :: s, _ => rfl
theorem PthD.code (h : PthD m a X) (hm : 0 < m) : evD p m f X = nxC p f a := by
  unfold nxC
  rw [← h.one hm, evD_cut p (Nat.le_refl 1) hm]
theorem PthD.slope (h : PthD m a X) (hm : 2 ≤ m) (hA : AtP p f a) {r : Nat} (hr : r < (p.getD f Fn.zero).outs.length) :
    (derS ((evR p m f X).getD r [])).getD 0 0 = dotG ((jaT p f a (p.getD f Fn.zero).outs.length a.length).getD r []) (X.map fun s => s.getD 1 0) a.length := by
  have hP := ev_P hA.v hA.lt h.se (by rw [h.len]; exact hA.l)
  have hl := hP.len ((h.code (by omega)).trans hA.z)
  have hs := hP.ser r (by omega)
  have hD : allN (X.map fun s => s.getD 1 0) = true := by
    unfold allN
    rw [List.all_eq_true]
    intro y hy
    rw [List.mem_map] at hy
    obtain ⟨s, hs, rfl⟩ := hy
    obtain ⟨j, hj, rfl⟩ := List.mem_iff_getElem.1 hs
    have h1 := h.ser j (h.len ▸ hj)
    rw [gd_at hj] at h1
    exact isN_iff.2 (allN_get h1.2 1)
  rw [derS_0 (by have := hs.1; omega) hs.2]
  have e : drR p f a (X.map fun s => s.getD 1 0) = (evR p m f X).map (cut 2) := by
    unfold drR
    rw [← h.two hm, evR_cut p (by omega) hm]
  have e2 : ((evR p m f X).getD r []).getD 1 0 = ((drR p f a (X.map fun s => s.getD 1 0)).getD r []).getD 1 0 := by
    rw [e, map_getD (d := []) (by omega)]
    generalize (evR p m f X).getD r [] = s
    match s with
    | [] => rfl
    | [x] => rfl
    | x :: y :: s => rfl
  rw [e2, dir_lin hA hD (by rw [List.length_map, h.len]) hr]
  unfold dotG jaT
  rw [tab_get [] hr]
  refine congrArg md (sm_congr fun k hk => ?_)
  rw [show (jaP p f a a.length r).getD k 0 = _ from tab_get 0 hk]; rfl
end
end Go.Proofs.YtnokbaiemimhjaaGreat
namespace Go.Proofs.YtnokbaiemimhjaaGreat
open Go Go.RowKit
set_option linter.unusedVariables false
set_option linter.unusedSimpArgs false
/-- An owned list of which the elements lie between B and U. -/
def Els {α : Type} (E : Stand α) (e : TypeId) (B U : Nat) (H : Array Obj) (v : Value) (xs : List α) : Prop := ∃ G, owL E e H v xs G ∧ (G.drop 1).Nodup ∧ ∀ b ∈ G.drop 1, B ≤ b ∧ b < U
section ops
variable {P : Program} {ops : Array Oper} {w0 : World} {Q : Act → World → Prop} {os : List Oper} {ks : List Nat} {N : Nat} {ρ : Nat → Value} {w : World}
  {d : Nat} {ty : TypeId} {pos : String} {aft : Array Edge} {g : Option (Nat × Bool)} {t e : TypeId} {z : Value} {b : Nat}
/-- A list of one owned element. -/
theorem r_oneE {α : Type} {E : Stand α} (hE : Good E) {x : Operand} {u : Value} {y : α} {B U : Nat} (ht : P.underlying t = some (.slice e)) (hi : TI P e 1 z b) (hz : z.cells = #[z]) (hx : evF N ρ x = u) (hy : Fr E B U w.heap u y)
    (hu : Up ops N ρ ⟨some d, .buildSlice t 1 #[(0, x)], ty, pos, aft, g⟩)
    (h : ∀ v w1, Ext w w1 → w1.heap.size = w.heap.size + 1 → Els E e B U w1.heap v [y] → LW P ops w0 Q os ks (mk N (upd ρ d v)) w1) :
    LW P ops w0 Q (⟨some d, .buildSlice t 1 #[(0, x)], ty, pos, aft, g⟩ :: os) (3 :: ks) (mk N ρ) w := by
  obtain ⟨F, h1, h2, h3⟩ := hy
  have hr := run_bs1 (P := P) (w := w) ht hi (hE.cells h1) hz
  have hrun : (execOp (evF N ρ) ⟨some d, .buildSlice t 1 #[(0, x)], ty, pos, aft, g⟩).run P w = .ok (.value (.slice (some ⟨w.heap.size, 0, none⟩) 1 1)) (w.alloc (.cells #[u] e)) := by
    simp only [execOp, List.map_toArray, List.map_cons, List.map_nil, Sem.run_bind, hx, hr, Result.andThen_ok, Sem.run_pure]
  refine lw_r rfl hu _ _ hrun (ext_alloc _ _) (h _ _ (ext_alloc _ _) (by simp) ?_)
  have hn := owL_new (e := e) (w := w) hE (us := [u]) (xs := [y]) (F := F ++ []) (cur := #[u]) ⟨F, [], rfl, h1, rfl⟩ (by simp [maxLen]) rfl (by simp)
  rw [List.append_nil] at hn
  exact ⟨_, hn, h2, fun c hc => h3 c hc⟩
/-- append of such a list to an owned slice that is known by its blocks. -/
theorem e_appE {α : Type} {E : Stand α} (hE : Good E) {x y : Operand} {v a : Value} {xs ys : List α} {B T B' U' : Nat} {F : List Nat} (ht : P.underlying t = some (.slice e)) (hi : TI P e 1 z b) (hz : z.cells = #[z]) (hx : evF N ρ x = v) (hy : evF N ρ y = a) (hv : Ow (owL E e) B T w.heap v xs F)
    (ha : Els E e B' U' w.heap a ys) (hT : T ≤ B') (hBB : B ≤ B') (hBw : B' ≤ w.heap.size) (hbytes : (xs.length + ys.length) * b ≤ 140737488355328) (hmx : xs.length + ys.length ≤ maxLen) (hu : Up ops N ρ ⟨some d, .call ⟨.builtin .append, #[x, y], #[t, t]⟩, ty, pos, aft, g⟩)
    (h : ∀ v1 w1 F1, Chg (F.take 1) w w1 → Ow (owL E e) B w1.heap.size w1.heap v1 (xs ++ ys) F1 → (∀ c ∈ F1, c ∈ F ∨ (B' ≤ c ∧ c < U') ∨ w.heap.size ≤ c) → LW P ops w0 Q os ks (mk N (upd ρ d v1)) w1) :
    LW P ops w0 Q (⟨some d, .call ⟨.builtin .append, #[x, y], #[t, t]⟩, ty, pos, aft, g⟩ :: os) (4 :: ks) (mk N ρ) w := by
  obtain ⟨h1, h2, h3, h4⟩ := hv
  obtain ⟨G, g1, g2, g3⟩ := ha
  obtain ⟨v', w', F', r1, r2, r3, r4, r5⟩ := run_app (P := P) (ty := ty) hE ht hi hz h1 h2 (g1.rd id) rfl hbytes hmx (fun c hc hF => by have := g3 c hc; have := h4 c hF; omega) g2
  refine lw_e rfl hu v' w' (by simp only [execOp, resolve, invoke, builtin, List.map_toArray, List.map_cons, List.map_nil, Sem.run_bind, Sem.run_pure, Result.andThen_ok, hx, hy, r1]) (h v' w' F' r5 ⟨r2, r3, fun c hc => ?_, fun c hc => (good_owL hE).lt r2 c hc⟩ fun c hc => ?_)
  · rcases r4 c hc with hh | hh | hh
    · exact h3 c hh
    · have := g3 c hh; omega
    · omega
  · rcases r4 c hc with hh | hh | hh
    · exact .inl hh
    · exact .inr (.inl (g3 c hh))
    · exact .inr (.inr (by omega))
end ops
end Go.Proofs.YtnokbaiemimhjaaGreat
namespace Go.Proofs.YtnokbaiemimhjaaGreat
open Go Go.RowKit
theorem mixed : Tryz.prog.follows .mixedOrders = true := by kernel_rfl
theorem cf11 : ((Tryz.prog.funcs[11]?).map fun fn => (fn.name != "runtime.NumGoroutine") && fn.body.isSome) = some true := by kernel_rfl
theorem cf12 : ((Tryz.prog.funcs[12]?).map fun fn => (fn.name != "runtime.NumGoroutine") && fn.body.isSome) = some true := by kernel_rfl
theorem cf13 : ((Tryz.prog.funcs[13]?).map fun fn => (fn.name != "runtime.NumGoroutine") && fn.body.isSome) = some true := by kernel_rfl
theorem cf18 : ((Tryz.prog.funcs[18]?).map fun fn => (fn.name != "runtime.NumGoroutine") && fn.body.isSome) = some true := by kernel_rfl
theorem cf19 : ((Tryz.prog.funcs[19]?).map fun fn => (fn.name != "runtime.NumGoroutine") && fn.body.isSome) = some true := by kernel_rfl
theorem cf20 : ((Tryz.prog.funcs[20]?).map fun fn => (fn.name != "runtime.NumGoroutine") && fn.body.isSome) = some true := by kernel_rfl
theorem cf23 : ((Tryz.prog.funcs[23]?).map fun fn => (fn.name != "runtime.NumGoroutine") && fn.body.isSome) = some true := by kernel_rfl
theorem cf24 : ((Tryz.prog.funcs[24]?).map fun fn => (fn.name != "runtime.NumGoroutine") && fn.body.isSome) = some true := by kernel_rfl
theorem cf25 : ((Tryz.prog.funcs[25]?).map fun fn => (fn.name != "runtime.NumGoroutine") && fn.body.isSome) = some true := by kernel_rfl
theorem cf26 : ((Tryz.prog.funcs[26]?).map fun fn => (fn.name != "runtime.NumGoroutine") && fn.body.isSome) = some true := by kernel_rfl
theorem cf27 : ((Tryz.prog.funcs[27]?).map fun fn => (fn.name != "runtime.NumGoroutine") && fn.body.isSome) = some true := by kernel_rfl
theorem cf28 : ((Tryz.prog.funcs[28]?).map fun fn => (fn.name != "runtime.NumGoroutine") && fn.body.isSome) = some true := by kernel_rfl
theorem cf29 : ((Tryz.prog.funcs[29]?).map fun fn => (fn.name != "runtime.NumGoroutine") && fn.body.isSome) = some true := by kernel_rfl
theorem cf30 : ((Tryz.prog.funcs[30]?).map fun fn => (fn.name != "runtime.NumGoroutine") && fn.body.isSome) = some true := by kernel_rfl
theorem cf64 : ((Tryz.prog.funcs[64]?).map fun fn => (fn.name != "runtime.NumGoroutine") && fn.body.isSome) = some true := by kernel_rfl
theorem cf65 : ((Tryz.prog.funcs[65]?).map fun fn => (fn.name != "runtime.NumGoroutine") && fn.body.isSome) = some true := by kernel_rfl
theorem cf66 : ((Tryz.prog.funcs[66]?).map fun fn => (fn.name != "runtime.NumGoroutine") && fn.body.isSome) = some true := by kernel_rfl
theorem cf67 : ((Tryz.prog.funcs[67]?).map fun fn => (fn.name != "runtime.NumGoroutine") && fn.body.isSome) = some true := by kernel_rfl
theorem cf68 : ((Tryz.prog.funcs[68]?).map fun fn => (fn.name != "runtime.NumGoroutine") && fn.body.isSome) = some true := by kernel_rfl
theorem cf69 : ((Tryz.prog.funcs[69]?).map fun fn => (fn.name != "runtime.NumGoroutine") && fn.body.isSome) = some true := by kernel_rfl
theorem cf72 : ((Tryz.prog.funcs[72]?).map fun fn => (fn.name != "runtime.NumGoroutine") && fn.body.isSome) = some true := by kernel_rfl
theorem cf75 : ((Tryz.prog.funcs[75]?).map fun fn => (fn.name != "runtime.NumGoroutine") && fn.body.isSome) = some true := by kernel_rfl
theorem cf76 : ((Tryz.prog.funcs[76]?).map fun fn => (fn.name != "runtime.NumGoroutine") && fn.body.isSome) = some true := by kernel_rfl
theorem cf77 : ((Tryz.prog.funcs[77]?).map fun fn => (fn.name != "runtime.NumGoroutine") && fn.body.isSome) = some true := by kernel_rfl
theorem cf78 : ((Tryz.prog.funcs[78]?).map fun fn => (fn.name != "runtime.NumGoroutine") && fn.body.isSome) = some true := by kernel_rfl
theorem cf79 : ((Tryz.prog.funcs[79]?).map fun fn => (fn.name != "runtime.NumGoroutine") && fn.body.isSome) = some true := by kernel_rfl
theorem cf80 : ((Tryz.prog.funcs[80]?).map fun fn => (fn.name != "runtime.NumGoroutine") && fn.body.isSome) = some true := by kernel_rfl
theorem cf81 : ((Tryz.prog.funcs[81]?).map fun fn => (fn.name != "runtime.NumGoroutine") && fn.body.isSome) = some true := by kernel_rfl
theorem cf82 : ((Tryz.prog.funcs[82]?).map fun fn => (fn.name != "runtime.NumGoroutine") && fn.body.isSome) = some true := by kernel_rfl
theorem cf83 : ((Tryz.prog.funcs[83]?).map fun fn => (fn.name != "runtime.NumGoroutine") && fn.body.isSome) = some true := by kernel_rfl
theorem cf84 : ((Tryz.prog.funcs[84]?).map fun fn => (fn.name != "runtime.NumGoroutine") && fn.body.isSome) = some true := by kernel_rfl
theorem cf85 : ((Tryz.prog.funcs[85]?).map fun fn => (fn.name != "runtime.NumGoroutine") && fn.body.isSome) = some true := by kernel_rfl
theorem cf86 : ((Tryz.prog.funcs[86]?).map fun fn => (fn.name != "runtime.NumGoroutine") && fn.body.isSome) = some true := by kernel_rfl
theorem cf87 : ((Tryz.prog.funcs[87]?).map fun fn => (fn.name != "runtime.NumGoroutine") && fn.body.isSome) = some true := by kernel_rfl
theorem cf88 : ((Tryz.prog.funcs[88]?).map fun fn => (fn.name != "runtime.NumGoroutine") && fn.body.isSome) = some true := by kernel_rfl
theorem cf89 : ((Tryz.prog.funcs[89]?).map fun fn => (fn.name != "runtime.NumGoroutine") && fn.body.isSome) = some true := by kernel_rfl
theorem cf90 : ((Tryz.prog.funcs[90]?).map fun fn => (fn.name != "runtime.NumGoroutine") && fn.body.isSome) = some true := by kernel_rfl
theorem cf91 : ((Tryz.prog.funcs[91]?).map fun fn => (fn.name != "runtime.NumGoroutine") && fn.body.isSome) = some true := by kernel_rfl
theorem cf92 : ((Tryz.prog.funcs[92]?).map fun fn => (fn.name != "runtime.NumGoroutine") && fn.body.isSome) = some true := by kernel_rfl
theorem cf95 : ((Tryz.prog.funcs[95]?).map fun fn => (fn.name != "runtime.NumGoroutine") && fn.body.isSome) = some true := by kernel_rfl
theorem cf96 : ((Tryz.prog.funcs[96]?).map fun fn => (fn.name != "runtime.NumGoroutine") && fn.body.isSome) = some true := by kernel_rfl
theorem cf97 : ((Tryz.prog.funcs[97]?).map fun fn => (fn.name != "runtime.NumGoroutine") && fn.body.isSome) = some true := by kernel_rfl
theorem cf99 : ((Tryz.prog.funcs[99]?).map fun fn => (fn.name != "runtime.NumGoroutine") && fn.body.isSome) = some true := by kernel_rfl
theorem cf100 : ((Tryz.prog.funcs[100]?).map fun fn => (fn.name != "runtime.NumGoroutine") && fn.body.isSome) = some true := by kernel_rfl
theorem cf101 : ((Tryz.prog.funcs[101]?).map fun fn => (fn.name != "runtime.NumGoroutine") && fn.body.isSome) = some true := by kernel_rfl
theorem cf102 : ((Tryz.prog.funcs[102]?).map fun fn => (fn.name != "runtime.NumGoroutine") && fn.body.isSome) = some true := by kernel_rfl
theorem cf103 : ((Tryz.prog.funcs[103]?).map fun fn => (fn.name != "runtime.NumGoroutine") && fn.body.isSome) = some true := by kernel_rfl
theorem cf104 : ((Tryz.prog.funcs[104]?).map fun fn => (fn.name != "runtime.NumGoroutine") && fn.body.isSome) = some true := by kernel_rfl
theorem cf105 : ((Tryz.prog.funcs[105]?).map fun fn => (fn.name != "runtime.NumGoroutine") && fn.body.isSome) = some true := by kernel_rfl
theorem cf106 : ((Tryz.prog.funcs[106]?).map fun fn => (fn.name != "runtime.NumGoroutine") && fn.body.isSome) = some true := by kernel_rfl
theorem cf122 : ((Tryz.prog.funcs[122]?).map fun fn => (fn.name != "runtime.NumGoroutine") && fn.body.isSome) = some true := by kernel_rfl
theorem cf124 : ((Tryz.prog.funcs[124]?).map fun fn => (fn.name != "runtime.NumGoroutine") && fn.body.isSome) = some true := by kernel_rfl
theorem cf132 : ((Tryz.prog.funcs[132]?).map fun fn => (fn.name != "runtime.NumGoroutine") && fn.body.isSome) = some true := by kernel_rfl
theorem cf143 : ((Tryz.prog.funcs[143]?).map fun fn => (fn.name != "runtime.NumGoroutine") && fn.body.isSome) = some true := by kernel_rfl
theorem cf144 : ((Tryz.prog.funcs[144]?).map fun fn => (fn.name != "runtime.NumGoroutine") && fn.body.isSome) = some true := by kernel_rfl
theorem cf145 : ((Tryz.prog.funcs[145]?).map fun fn => (fn.name != "runtime.NumGoroutine") && fn.body.isSome) = some true := by kernel_rfl
theorem cf148 : ((Tryz.prog.funcs[148]?).map fun fn => (fn.name != "runtime.NumGoroutine") && fn.body.isSome) = some true := by kernel_rfl
theorem cf149 : ((Tryz.prog.funcs[149]?).map fun fn => (fn.name != "runtime.NumGoroutine") && fn.body.isSome) = some true := by kernel_rfl
theorem cf150 : ((Tryz.prog.funcs[150]?).map fun fn => (fn.name != "runtime.NumGoroutine") && fn.body.isSome) = some true := by kernel_rfl
theorem cf151 : ((Tryz.prog.funcs[151]?).map fun fn => (fn.name != "runtime.NumGoroutine") && fn.body.isSome) = some true := by kernel_rfl
theorem cf152 : ((Tryz.prog.funcs[152]?).map fun fn => (fn.name != "runtime.NumGoroutine") && fn.body.isSome) = some true := by kernel_rfl
theorem cf153 : ((Tryz.prog.funcs[153]?).map fun fn => (fn.name != "runtime.NumGoroutine") && fn.body.isSome) = some true := by kernel_rfl
theorem cf154 : ((Tryz.prog.funcs[154]?).map fun fn => (fn.name != "runtime.NumGoroutine") && fn.body.isSome) = some true := by kernel_rfl
theorem cf155 : ((Tryz.prog.funcs[155]?).map fun fn => (fn.name != "runtime.NumGoroutine") && fn.body.isSome) = some true := by kernel_rfl
theorem cf156 : ((Tryz.prog.funcs[156]?).map fun fn => (fn.name != "runtime.NumGoroutine") && fn.body.isSome) = some true := by kernel_rfl
theorem cf157 : ((Tryz.prog.funcs[157]?).map fun fn => (fn.name != "runtime.NumGoroutine") && fn.body.isSome) = some true := by kernel_rfl
theorem cf159 : ((Tryz.prog.funcs[159]?).map fun fn => (fn.name != "runtime.NumGoroutine") && fn.body.isSome) = some true := by kernel_rfl
theorem cf160 : ((Tryz.prog.funcs[160]?).map fun fn => (fn.name != "runtime.NumGoroutine") && fn.body.isSome) = some true := by kernel_rfl
theorem cf161 : ((Tryz.prog.funcs[161]?).map fun fn => (fn.name != "runtime.NumGoroutine") && fn.body.isSome) = some true := by kernel_rfl
theorem cf162 : ((Tryz.prog.funcs[162]?).map fun fn => (fn.name != "runtime.NumGoroutine") && fn.body.isSome) = some true := by kernel_rfl
theorem cf175 : ((Tryz.prog.funcs[175]?).map fun fn => (fn.name != "runtime.NumGoroutine") && fn.body.isSome) = some true := by kernel_rfl
theorem cf176 : ((Tryz.prog.funcs[176]?).map fun fn => (fn.name != "runtime.NumGoroutine") && fn.body.isSome) = some true := by kernel_rfl
theorem cf185 : ((Tryz.prog.funcs[185]?).map fun fn => (fn.name != "runtime.NumGoroutine") && fn.body.isSome) = some true := by kernel_rfl
theorem cf192 : ((Tryz.prog.funcs[192]?).map fun fn => (fn.name != "runtime.NumGoroutine") && fn.body.isSome) = some true := by kernel_rfl
theorem cf193 : ((Tryz.prog.funcs[193]?).map fun fn => (fn.name != "runtime.NumGoroutine") && fn.body.isSome) = some true := by kernel_rfl
theorem cf194 : ((Tryz.prog.funcs[194]?).map fun fn => (fn.name != "runtime.NumGoroutine") && fn.body.isSome) = some true := by kernel_rfl
theorem cf195 : ((Tryz.prog.funcs[195]?).map fun fn => (fn.name != "runtime.NumGoroutine") && fn.body.isSome) = some true := by kernel_rfl
theorem cf196 : ((Tryz.prog.funcs[196]?).map fun fn => (fn.name != "runtime.NumGoroutine") && fn.body.isSome) = some true := by kernel_rfl
theorem cf197 : ((Tryz.prog.funcs[197]?).map fun fn => (fn.name != "runtime.NumGoroutine") && fn.body.isSome) = some true := by kernel_rfl
theorem cf198 : ((Tryz.prog.funcs[198]?).map fun fn => (fn.name != "runtime.NumGoroutine") && fn.body.isSome) = some true := by kernel_rfl
theorem cf199 : ((Tryz.prog.funcs[199]?).map fun fn => (fn.name != "runtime.NumGoroutine") && fn.body.isSome) = some true := by kernel_rfl
theorem cf200 : ((Tryz.prog.funcs[200]?).map fun fn => (fn.name != "runtime.NumGoroutine") && fn.body.isSome) = some true := by kernel_rfl
theorem cf201 : ((Tryz.prog.funcs[201]?).map fun fn => (fn.name != "runtime.NumGoroutine") && fn.body.isSome) = some true := by kernel_rfl
theorem cf202 : ((Tryz.prog.funcs[202]?).map fun fn => (fn.name != "runtime.NumGoroutine") && fn.body.isSome) = some true := by kernel_rfl
theorem cf203 : ((Tryz.prog.funcs[203]?).map fun fn => (fn.name != "runtime.NumGoroutine") && fn.body.isSome) = some true := by kernel_rfl
theorem cf210 : ((Tryz.prog.funcs[210]?).map fun fn => (fn.name != "runtime.NumGoroutine") && fn.body.isSome) = some true := by kernel_rfl
theorem cf216 : ((Tryz.prog.funcs[216]?).map fun fn => (fn.name != "runtime.NumGoroutine") && fn.body.isSome) = some true := by kernel_rfl
theorem cf221 : ((Tryz.prog.funcs[221]?).map fun fn => (fn.name != "runtime.NumGoroutine") && fn.body.isSome) = some true := by kernel_rfl
theorem cf222 : ((Tryz.prog.funcs[222]?).map fun fn => (fn.name != "runtime.NumGoroutine") && fn.body.isSome) = some true := by kernel_rfl
theorem cf223 : ((Tryz.prog.funcs[223]?).map fun fn => (fn.name != "runtime.NumGoroutine") && fn.body.isSome) = some true := by kernel_rfl
theorem cf224 : ((Tryz.prog.funcs[224]?).map fun fn => (fn.name != "runtime.NumGoroutine") && fn.body.isSome) = some true := by kernel_rfl
theorem cf225 : ((Tryz.prog.funcs[225]?).map fun fn => (fn.name != "runtime.NumGoroutine") && fn.body.isSome) = some true := by kernel_rfl
theorem cf226 : ((Tryz.prog.funcs[226]?).map fun fn => (fn.name != "runtime.NumGoroutine") && fn.body.isSome) = some true := by kernel_rfl
theorem cf227 : ((Tryz.prog.funcs[227]?).map fun fn => (fn.name != "runtime.NumGoroutine") && fn.body.isSome) = some true := by kernel_rfl
theorem cf228 : ((Tryz.prog.funcs[228]?).map fun fn => (fn.name != "runtime.NumGoroutine") && fn.body.isSome) = some true := by kernel_rfl
theorem cf229 : ((Tryz.prog.funcs[229]?).map fun fn => (fn.name != "runtime.NumGoroutine") && fn.body.isSome) = some true := by kernel_rfl
theorem cf230 : ((Tryz.prog.funcs[230]?).map fun fn => (fn.name != "runtime.NumGoroutine") && fn.body.isSome) = some true := by kernel_rfl
theorem cf231 : ((Tryz.prog.funcs[231]?).map fun fn => (fn.name != "runtime.NumGoroutine") && fn.body.isSome) = some true := by kernel_rfl
theorem cf232 : ((Tryz.prog.funcs[232]?).map fun fn => (fn.name != "runtime.NumGoroutine") && fn.body.isSome) = some true := by kernel_rfl
theorem cf233 : ((Tryz.prog.funcs[233]?).map fun fn => (fn.name != "runtime.NumGoroutine") && fn.body.isSome) = some true := by kernel_rfl
theorem cf234 : ((Tryz.prog.funcs[234]?).map fun fn => (fn.name != "runtime.NumGoroutine") && fn.body.isSome) = some true := by kernel_rfl
theorem cf235 : ((Tryz.prog.funcs[235]?).map fun fn => (fn.name != "runtime.NumGoroutine") && fn.body.isSome) = some true := by kernel_rfl
theorem cf236 : ((Tryz.prog.funcs[236]?).map fun fn => (fn.name != "runtime.NumGoroutine") && fn.body.isSome) = some true := by kernel_rfl
theorem cf245 : ((Tryz.prog.funcs[245]?).map fun fn => (fn.name != "runtime.NumGoroutine") && fn.body.isSome) = some true := by kernel_rfl
theorem cf246 : ((Tryz.prog.funcs[246]?).map fun fn => (fn.name != "runtime.NumGoroutine") && fn.body.isSome) = some true := by kernel_rfl
theorem cf247 : ((Tryz.prog.funcs[247]?).map fun fn => (fn.name != "runtime.NumGoroutine") && fn.body.isSome) = some true := by kernel_rfl
theorem cf252 : ((Tryz.prog.funcs[252]?).map fun fn => (fn.name != "runtime.NumGoroutine") && fn.body.isSome) = some true := by kernel_rfl
theorem cf253 : ((Tryz.prog.funcs[253]?).map fun fn => (fn.name != "runtime.NumGoroutine") && fn.body.isSome) = some true := by kernel_rfl
theorem one2 : oneTy Tryz.prog 2 := by unfold oneTy; kernel_rfl
theorem one3 : oneTy Tryz.prog 3 := by unfold oneTy; kernel_rfl
theorem one4 : oneTy Tryz.prog 4 := by unfold oneTy; kernel_rfl
theorem one5 : oneTy Tryz.prog 5 := by unfold oneTy; kernel_rfl
theorem one9 : oneTy Tryz.prog 9 := by unfold oneTy; kernel_rfl
theorem one22 : oneTy Tryz.prog 22 := by unfold oneTy; kernel_rfl
theorem one24 : oneTy Tryz.prog 24 := by unfold oneTy; kernel_rfl
theorem one27 : oneTy Tryz.prog 27 := by unfold oneTy; kernel_rfl
theorem one53 : oneTy Tryz.prog 53 := by unfold oneTy; kernel_rfl
theorem one88 : oneTy Tryz.prog 88 := by unfold oneTy; kernel_rfl
theorem one93 : oneTy Tryz.prog 93 := by unfold oneTy; kernel_rfl
theorem one152 : oneTy Tryz.prog 152 := by unfold oneTy; kernel_rfl
theorem sz2 : (Tryz.prog.info? 2).map (·.size) = some 1 := by kernel_rfl
theorem sz3 : (Tryz.prog.info? 3).map (·.size) = some 1 := by kernel_rfl
theorem sz24 : (Tryz.prog.info? 24).map (·.size) = some 1 := by kernel_rfl
theorem sz27 : (Tryz.prog.info? 27).map (·.size) = some 1 := by kernel_rfl
theorem sz53 : (Tryz.prog.info? 53).map (·.size) = some 1 := by kernel_rfl
theorem sz152 : (Tryz.prog.info? 152).map (·.size) = some 1 := by kernel_rfl
theorem ti2 : TI Tryz.prog 2 1 (.int .i64 0) 8 := by unfold TI; kernel_rfl
theorem ti5 : TI Tryz.prog 5 1 (.int .u8 0) 1 := by unfold TI; kernel_rfl
theorem ti9 : TI Tryz.prog 9 1 (.string ByteArray.empty) 16 := by unfold TI; kernel_rfl
theorem ti27 : TI Tryz.prog 27 1 (.slice none 0 0) 24 := by unfold TI; kernel_rfl
theorem u2 : Tryz.prog.underlying 2 = some (.int .i64) := by kernel_rfl
theorem u3 : Tryz.prog.underlying 3 = some (.int .i64) := by kernel_rfl
theorem u4 : Tryz.prog.underlying 4 = some (.bool) := by kernel_rfl
theorem u5 : Tryz.prog.underlying 5 = some (.int .u8) := by kernel_rfl
theorem u9 : Tryz.prog.underlying 9 = some (.string) := by kernel_rfl
theorem u22 : Tryz.prog.underlying 22 = some (.slice 5) := by kernel_rfl
theorem u24 : Tryz.prog.underlying 24 = some (.slice 55) := by kernel_rfl
theorem u27 : Tryz.prog.underlying 27 = some (.slice 2) := by kernel_rfl
theorem u32 : Tryz.prog.underlying 32 = some (.slice 27) := by kernel_rfl
theorem u53 : Tryz.prog.underlying 53 = some (.slice 174) := by kernel_rfl
theorem u152 : Tryz.prog.underlying 152 = some (.int .u64) := by kernel_rfl
theorem u168 : Tryz.prog.underlying 168 = some (.slice 9) := by kernel_rfl
theorem agg26 : aggTy Tryz.prog 26 1 = true := by kernel_rfl
theorem zr26 : (Tryz.prog.info? 26).map (·.zero) = some (some (.agg #[.slice none 0 0])) := by kernel_rfl
theorem fd26_0 : fdO Tryz.prog 26 0 0 = true := by kernel_rfl
theorem agg55 : aggTy Tryz.prog 55 3 = true := by kernel_rfl
theorem zr55 : (Tryz.prog.info? 55).map (·.zero) = some (some (.agg #[.string ByteArray.empty, .int .i64 0, .slice none 0 0])) := by kernel_rfl
theorem tiS55 : TI Tryz.prog 55 3 (.agg #[.string ByteArray.empty, .int .i64 0, .slice none 0 0]) 48 := by unfold TI; kernel_rfl
theorem fd55_0 : fdO Tryz.prog 55 0 0 = true := by kernel_rfl
theorem fd55_1 : fdO Tryz.prog 55 1 1 = true := by kernel_rfl
theorem fd55_2 : fdO Tryz.prog 55 2 2 = true := by kernel_rfl
theorem fd157_0 : fdO Tryz.prog 157 0 0 = true := by kernel_rfl
theorem fd157_1 : fdO Tryz.prog 157 1 1 = true := by kernel_rfl
theorem fd157_2 : fdO Tryz.prog 157 2 2 = true := by kernel_rfl
theorem fd157_3 : fdO Tryz.prog 157 3 3 = true := by kernel_rfl
theorem fd165_0 : fdO Tryz.prog 165 0 0 = true := by kernel_rfl
theorem fd165_1 : fdO Tryz.prog 165 1 1 = true := by kernel_rfl
theorem fd165_2 : fdO Tryz.prog 165 2 2 = true := by kernel_rfl
theorem fd165_3 : fdO Tryz.prog 165 3 3 = true := by kernel_rfl
theorem fd172_0 : fdO Tryz.prog 172 0 0 = true := by kernel_rfl
theorem fd172_1 : fdO Tryz.prog 172 1 1 = true := by kernel_rfl
theorem fd172_2 : fdO Tryz.prog 172 2 2 = true := by kernel_rfl
theorem fd172_3 : fdO Tryz.prog 172 3 3 = true := by kernel_rfl
theorem agg174 : aggTy Tryz.prog 174 5 = true := by kernel_rfl
theorem zr174 : (Tryz.prog.info? 174).map (·.zero) = some (some (.agg #[.int .i64 0, .int .i64 0, .int .i64 0, .int .i64 0, .slice none 0 0])) := by kernel_rfl
theorem tiS174 : TI Tryz.prog 174 5 (.agg #[.int .i64 0, .int .i64 0, .int .i64 0, .int .i64 0, .slice none 0 0]) 56 := by unfold TI; kernel_rfl
theorem fd174_0 : fdO Tryz.prog 174 0 0 = true := by kernel_rfl
theorem fd174_1 : fdO Tryz.prog 174 1 1 = true := by kernel_rfl
theorem fd174_2 : fdO Tryz.prog 174 2 2 = true := by kernel_rfl
theorem fd174_3 : fdO Tryz.prog 174 3 3 = true := by kernel_rfl
theorem fd174_4 : fdO Tryz.prog 174 4 4 = true := by kernel_rfl
theorem agg237 : aggTy Tryz.prog 237 2 = true := by kernel_rfl
theorem fd237_0 : fdO Tryz.prog 237 0 0 = true := by kernel_rfl
theorem fd237_1 : fdO Tryz.prog 237 1 1 = true := by kernel_rfl
end Go.Proofs.YtnokbaiemimhjaaGreat
namespace Go.Proofs.YtnokbaiemimhjaaGreat
open Go Go.RowKit
set_option linter.unusedVariables false
set_option linter.unusedSimpArgs false
set_option maxHeartbeats 4000000
set_option maxRecDepth 100000
attribute [local irreducible] LW
theorem c_impl_within (w : World) (n : Int) (low : Int) (high : Int) (_hn : -9223372036854775808 ≤ n ∧ n ≤ 9223372036854775807) (_hlow : -9223372036854775808 ≤ low ∧ low ≤ 9223372036854775807) (_hhigh : -9223372036854775808 ≤ high ∧ high ≤ 9223372036854775807)  :
  Calls Tryz.prog 72 #[.int .i64 n,.int .i64 low,.int .i64 high] w (fun e w' => e = .returned (.bool (decide (low ≤ n) && decide (n ≤ high))) ∧ w' = w) := by
 refine calls_mk [.int .i64 n,.int .i64 low,.int .i64 high] 15 Tryz.func72 rfl rfl sM ?_
 have hE0 : w = w := rfl
 refine wp_seq (wp_plain _ [0] rfl (lw_tvn 1 rfl (wp_seq (wp_plain _ [0,0,0,0,0,0,0,0,0] rfl (lw_tv 2 rfl ?_)))))
 by_cases hc1 : low ≤ n
 ·
  exact q_geq true rfl rfl (decide_eq_true hc1) zN (lw_tv 3 rfl (q_leq (decide (n ≤ high)) rfl rfl rfl (zS (e := 10) rfl rfl rfl) (lw_tvn 2 rfl (wp_ret (post_ret [6] rfl (.bool (decide (n ≤ high))) rfl ⟨(ret_bool (by simp [*])),hE0⟩)))))
 ·
  exact q_geq false rfl rfl (decide_eq_false hc1) zN (lw_tvn 6 rfl (wp_ret (post_ret [6] rfl (.bool false) rfl ⟨(ret_bool (by simp [*])),hE0⟩)))
theorem c_spec_l00In (w : World) (n : Int) (low : Int) (high : Int) (_hn : -9223372036854775808 ≤ n ∧ n ≤ 9223372036854775807) (_hlow : -9223372036854775808 ≤ low ∧ low ≤ 9223372036854775807) (_hhigh : -9223372036854775808 ≤ high ∧ high ≤ 9223372036854775807)  :
  Calls Tryz.prog 92 #[.int .i64 n,.int .i64 low,.int .i64 high] w (fun e w' => e = .returned (.bool (decide (low ≤ n) && decide (n ≤ high))) ∧ w' = w) := by
 refine calls_mk [.int .i64 n,.int .i64 low,.int .i64 high] 15 Tryz.func92 rfl rfl sM ?_
 have hE0 : w = w := rfl
 refine wp_seq (wp_plain _ [0] rfl (lw_tvn 1 rfl (wp_seq (wp_plain _ [0,0,0,0,0,0,0,0,0] rfl (lw_tv 2 rfl ?_)))))
 by_cases hc1 : low ≤ n
 ·
  exact q_geq true rfl rfl (decide_eq_true hc1) zN (lw_tv 3 rfl (q_leq (decide (n ≤ high)) rfl rfl rfl (zS (e := 10) rfl rfl rfl) (lw_tvn 2 rfl (wp_ret (post_ret [6] rfl (.bool (decide (n ≤ high))) rfl ⟨(ret_bool (by simp [*])),hE0⟩)))))
 ·
  exact q_geq false rfl rfl (decide_eq_false hc1) zN (lw_tvn 6 rfl (wp_ret (post_ret [6] rfl (.bool false) rfl ⟨(ret_bool (by simp [*])),hE0⟩)))
theorem c_impl_Residue (w : World) (n : Int) (_hn : -9223372036854775808 ≤ n ∧ n ≤ 9223372036854775807)  :
  Calls Tryz.prog 106 #[.int .i64 n] w (fun e w' => e = .returned (.int .i64 (md n)) ∧ w' = w) := by
 refine calls_mk [.int .i64 n] 7 Tryz.func106 rfl rfl sM ?_
 have hE0 : w = w := rfl
 exact wp_seq (wp_plain _ [0] rfl (lw_tvn 1 rfl (wp_seq (wp_plain _ [0,0,0,0,0] rfl (lw_tv 1 rfl (q_rem (n.tmod 1000003) rfl rfl (by decide) rfl zN (q_add (wr ((n.tmod 1000003) + ((1000003 :Nat):Int))) rfl rfl rfl zN (q_rem ((wr ((n.tmod 1000003) + ((1000003 :Nat):Int))).tmod 1000003) rfl rfl (by decide) rfl zN (lw_tvn 1 rfl (wp_ret (post_ret [2] rfl (.int .i64 ((wr ((n.tmod 1000003) + ((1000003 :Nat):Int))).tmod 1000003)) rfl ⟨(ret_int (res_eq n)),hE0⟩)))))))))))
theorem c_impl_Plus (w : World) (a : Int) (b : Int) (_ha : -9223372036854775808 ≤ a ∧ a ≤ 9223372036854775807) (_hb : -9223372036854775808 ≤ b ∧ b ≤ 9223372036854775807)  :
  Calls Tryz.prog 79 #[.int .i64 a,.int .i64 b] w (fun e w' => e = .returned (.int .i64 (md (a + b))) ∧ w' = w) := by
 refine calls_mk [.int .i64 a,.int .i64 b] 11 Tryz.func79 rfl rfl sM ?_
 have hE0 : w = w := rfl
 exact wp_seq (wp_plain _ [0] rfl (lw_tvn 1 rfl (wp_seq (wp_plain _ [0,0,0,0,0,0,0] rfl (lw_tv 1 rfl (lw_callq 106 [] [] [(.int .i64 a)] rfl rfl cf106 zN (.int .i64 (md a)) (fun wq => c_impl_Residue wq _ _ha) (lw_tv 1 rfl (lw_callq 106 [] [] [(.int .i64 b)] rfl rfl cf106 zN (.int .i64 (md b)) (fun wq => c_impl_Residue wq _ _hb) (q_add (wr ((md a) + (md b))) rfl rfl rfl zN (q_rem ((wr ((md a) + (md b))).tmod 1000003) rfl rfl (by decide) rfl zN (lw_tvn 1 rfl (wp_ret (post_ret [4] rfl (.int .i64 ((wr ((md a) + (md b))).tmod 1000003)) rfl ⟨(ret_int (plus_eq a b)),hE0⟩)))))))))))))
theorem c_impl_minus (w : World) (a : Int) (b : Int) (_ha : -9223372036854775808 ≤ a ∧ a ≤ 9223372036854775807) (_hb : -9223372036854775808 ≤ b ∧ b ≤ 9223372036854775807)  :
  Calls Tryz.prog 78 #[.int .i64 a,.int .i64 b] w (fun e w' => e = .returned (.int .i64 (md (a - b))) ∧ w' = w) := by
 refine calls_mk [.int .i64 a,.int .i64 b] 10 Tryz.func78 rfl rfl sM ?_
 have hE0 : w = w := rfl
 exact wp_seq (wp_plain _ [0] rfl (lw_tvn 1 rfl (wp_seq (wp_plain _ [0,0,0,0,0,0] rfl (lw_tv 2 rfl (lw_callq 106 [] [] [(.int .i64 b)] rfl rfl cf106 zN (.int .i64 (md b)) (fun wq => c_impl_Residue wq _ _hb) (q_sub (wr (((1000003 :Nat):Int) - (md b))) rfl rfl rfl zN (lw_callq 79 [] [] [(.int .i64 a),(.int .i64 (wr (((1000003 :Nat):Int) - (md b))))] rfl rfl cf79 zN (.int .i64 (md (a + (wr (((1000003 :Nat):Int) - (md b)))))) (fun wq => c_impl_Plus wq _ _ _ha (wr_rng _)) (lw_tvn 1 rfl (wp_ret (post_ret [4] rfl (.int .i64 (md (a + (wr (((1000003 :Nat):Int) - (md b)))))) rfl ⟨(ret_int (minus_eq a b)),hE0⟩)))))))))))
theorem sres_a (n : Int) (h : n.tmod 1000003 < ((0 : Nat) : Int)) : wr (n.tmod 1000003 + ((1000003 : Nat) : Int)) = md n := by
  have h1 := md_nonneg n; have h2 := md_lt n; have h3 := md_nonneg (-n); have h4 := md_lt (-n)
  rw [tm n] at h ⊢
  split at h
  · omega
  · rename_i h0
    rw [if_neg h0, wr_of (by omega) (by omega)]
    have e1 : md (-(md (-n)) + ((1000003 : Nat) : Int)) = md (-(md (-n))) := md_P _
    rw [md_neg, Int.neg_neg, md_of (by omega) (by omega)] at e1
    exact e1
theorem sres_b (n : Int) (h : ¬ n.tmod 1000003 < ((0 : Nat) : Int)) : n.tmod 1000003 = md n := by
  have h1 := md_nonneg n; have h2 := md_lt n; have h3 := md_nonneg (-n); have h4 := md_lt (-n)
  rw [tm n] at h ⊢
  split
  · rfl
  · rename_i h0
    rw [if_neg h0] at h
    have e0 : md (-n) = 0 := by omega
    have e1 := md_neg (-n)
    rw [e0, Int.neg_neg] at e1
    rw [e0, ← e1]
    rfl
theorem z148_0 {p : Prop} (h : p := by first | exact ret_int (sres_a n (by assumption)) | exact ret_int (sres_b n (by assumption))) : p := h
theorem c_spec_Residue (w : World) (n : Int) (_hn : -9223372036854775808 ≤ n ∧ n ≤ 9223372036854775807)  :
  Calls Tryz.prog 148 #[.int .i64 n] w (fun e w' => e = .returned (.int .i64 (md n)) ∧ w' = w) := by
 refine calls_mk [.int .i64 n] 11 Tryz.func148 rfl rfl sM ?_
 have hE0 : w = w := rfl
 refine wp_seq (wp_plain _ [0] rfl (lw_tvn 1 rfl (wp_seq (wp_plain _ [0,0,0] rfl (lw_tv 1 rfl (q_rem (n.tmod 1000003) rfl rfl (by decide) rfl zN (lw_tvn 1 rfl (wp_seq (wp_seq (wp_plain _ [0,0] rfl (lw_tv 1 rfl ?_)))))))))))
 by_cases hc1 : n.tmod 1000003 < ((0 :Nat):Int)
 ·
  exact q_lss true rfl rfl (decide_eq_true hc1) zN (lw_nil (c_cond_t rfl (wp_plain _ [0,0,0] rfl (lw_tv 1 rfl (q_add (wr ((n.tmod 1000003) + ((1000003 :Nat):Int))) rfl rfl rfl zN (lw_tvn 1 rfl (wp_seq (wp_plain _ [0,0] rfl (lw_tvn 2 rfl (wp_ret (post_ret [2] rfl (.int .i64 (wr ((n.tmod 1000003) + ((1000003 :Nat):Int)))) rfl ⟨z148_0,hE0⟩)))))))))))
 ·
  exact q_lss false rfl rfl (decide_eq_false hc1) zN (lw_nil (c_cond_f rfl (wp_skip (wp_seq (wp_plain _ [0,0] rfl (lw_tvn 2 rfl (wp_ret (post_ret [2] rfl (.int .i64 (n.tmod 1000003)) rfl ⟨z148_0,hE0⟩))))))))
theorem c_spec_Plus (w : World) (a : Int) (b : Int) (_ha : -9223372036854775808 ≤ a ∧ a ≤ 9223372036854775807) (_hb : -9223372036854775808 ≤ b ∧ b ≤ 9223372036854775807)  :
  Calls Tryz.prog 75 #[.int .i64 a,.int .i64 b] w (fun e w' => e = .returned (.int .i64 (md (a + b))) ∧ w' = w) := by
 refine calls_mk [.int .i64 a,.int .i64 b] 11 Tryz.func75 rfl rfl sM ?_
 have hE0 : w = w := rfl
 exact wp_seq (wp_plain _ [0] rfl (lw_tvn 1 rfl (wp_seq (wp_plain _ [0,0,0,0,0,0,0] rfl (lw_tv 1 rfl (lw_callq 148 [] [] [(.int .i64 a)] rfl rfl cf148 zN (.int .i64 (md a)) (fun wq => c_spec_Residue wq _ _ha) (lw_tv 1 rfl (lw_callq 148 [] [] [(.int .i64 b)] rfl rfl cf148 zN (.int .i64 (md b)) (fun wq => c_spec_Residue wq _ _hb) (q_add (wr ((md a) + (md b))) rfl rfl rfl zN (q_rem ((wr ((md a) + (md b))).tmod 1000003) rfl rfl (by decide) rfl zN (lw_tvn 1 rfl (wp_ret (post_ret [4] rfl (.int .i64 ((wr ((md a) + (md b))).tmod 1000003)) rfl ⟨(ret_int (plus_eq a b)),hE0⟩)))))))))))))
theorem c_spec_Times (w : World) (a : Int) (b : Int) (_ha : -9223372036854775808 ≤ a ∧ a ≤ 9223372036854775807) (_hb : -9223372036854775808 ≤ b ∧ b ≤ 9223372036854775807)  :
  Calls Tryz.prog 76 #[.int .i64 a,.int .i64 b] w (fun e w' => e = .returned (.int .i64 (md (a * b))) ∧ w' = w) := by
 refine calls_mk [.int .i64 a,.int .i64 b] 11 Tryz.func76 rfl rfl sM ?_
 have hE0 : w = w := rfl
 exact wp_seq (wp_plain _ [0] rfl (lw_tvn 1 rfl (wp_seq (wp_plain _ [0,0,0,0,0,0,0] rfl (lw_tv 1 rfl (lw_callq 148 [] [] [(.int .i64 a)] rfl rfl cf148 zN (.int .i64 (md a)) (fun wq => c_spec_Residue wq _ _ha) (lw_tv 1 rfl (lw_callq 148 [] [] [(.int .i64 b)] rfl rfl cf148 zN (.int .i64 (md b)) (fun wq => c_spec_Residue wq _ _hb) (q_mul (wr ((md a) * (md b))) rfl rfl rfl zN (q_rem ((wr ((md a) * (md b))).tmod 1000003) rfl rfl (by decide) rfl zN (lw_tvn 1 rfl (wp_ret (post_ret [4] rfl (.int .i64 ((wr ((md a) * (md b))).tmod 1000003)) rfl ⟨(ret_int (times_eq a b)),hE0⟩)))))))))))))
theorem c_spec_l01Minus (w : World) (a : Int) (b : Int) (_ha : -9223372036854775808 ≤ a ∧ a ≤ 9223372036854775807) (_hb : -9223372036854775808 ≤ b ∧ b ≤ 9223372036854775807) (hs : -9223372036854775808 ≤ a - b ∧ a - b ≤ 9223372036854775807) :
  Calls Tryz.prog 124 #[.int .i64 a,.int .i64 b] w (fun e w' => e = .returned (.int .i64 (md (a - b))) ∧ w' = w) := by
 refine calls_mk [.int .i64 a,.int .i64 b] 9 Tryz.func124 rfl rfl sM ?_
 have hE0 : w = w := rfl
 exact wp_seq (wp_plain _ [0] rfl (lw_tvn 1 rfl (wp_seq (wp_plain _ [0,0,0,0,0] rfl (lw_tv 2 rfl (q_sub (wr (a - b)) rfl rfl rfl zN (lw_callq 148 [] [] [(.int .i64 (wr (a - b)))] rfl rfl cf148 zN (.int .i64 (md (wr (a - b)))) (fun wq => c_spec_Residue wq _ (wr_rng _)) (lw_tvn 1 rfl (wp_ret (post_ret [4] rfl (.int .i64 (md (wr (a - b)))) rfl ⟨(ret_int (by rw [wr_of hs.1 hs.2])),hE0⟩))))))))))
theorem z216_0 {p : Prop} (h : p := by exact ⟨by omega, by first | exact pw_odd hI.2 oM (by assumption) | exact pw_even hI.2 oM (by assumption)⟩) : p := h
theorem c_spec_Power (w : World) (a : Int) (n : Int) (_ha : -9223372036854775808 ≤ a ∧ a ≤ 9223372036854775807) (_hn : -9223372036854775808 ≤ n ∧ n ≤ 9223372036854775807)  :
  Calls Tryz.prog 216 #[.int .i64 a,.int .i64 n] w (fun e w' => e = .returned (.int .i64 (pw a n)) ∧ w' = w) := by
 refine calls_mk [.int .i64 a,.int .i64 n] 25 Tryz.func216 rfl rfl sM ?_
 have hE0 : w = w := rfl
 refine wp_seq (wp_plain _ [0] rfl (lw_tvn 1 rfl (wp_seq (wp_seq (wp_plain _ [0,0] rfl (lw_tv 1 rfl ?_))))))
 by_cases hc1 : n < ((0 :Nat):Int)
 ·
  exact q_lss true rfl rfl (decide_eq_true hc1) zN (lw_nil (c_cond_t rfl (wp_seq (wp_plain _ [0] rfl (lw_tvn 1 rfl (wp_ret (t_ret (post_ret [4] rfl (.int .i64 ((0 :Nat):Int)) rfl ⟨(ret_int (pw_neg (by assumption))),hE0⟩))))))))
 ·
  refine q_lss false rfl rfl (decide_eq_false hc1) zN (lw_nil (c_cond_f rfl (wp_skip (wp_seq (wp_plain _ [0] rfl (lw_tvn 1 rfl (wp_seq (wp_plain _ [0,0,0] rfl (lw_tv 1 rfl (lw_callq 148 [] [] [(.int .i64 a)] rfl rfl cf148 zN (.int .i64 (md a)) (fun wq => c_spec_Residue wq _ _ha) (lw_tvn 1 rfl (wp_seq (wp_block ?_)))))))))))))
  refine c_loop (S := Int × Int × Int) (fun (⟨m,x,b⟩ : Int × Int × Int) => ([(1,(.int .i64 m)),(5,(.int .i64 x)),(6,(.int .i64 b))] : List (Nat × Value))) (fun (⟨m,x,b⟩ : Int × Int × Int) (W : World) => W = w ∧ (0 ≤ m ∧ md (x * b ^ m.toNat) = md (a ^ n.toNat)) ∧ m ≤ 9223372036854775807 ∧ (0 ≤ x ∧ x < 1000003) ∧ (0 ≤ b ∧ b < 1000003)) (fun (⟨m,x,b⟩ : Int × Int × Int) => m.toNat) (n,((1 :Nat):Int),(md a)) ⟨rfl,rfl,rfl,trivial⟩ ⟨hE0,(by exact ⟨by omega,pw_start a n.toNat⟩),oM,oM,(by exact md_num _)⟩ ?_
  clear hE0
  rintro ⟨m,x,b⟩ ρ3 w3 ⟨hE3,hI,hm,hx,hb⟩
  refine wp_seq (wp_seq (wp_plain _ [0,0] rfl (lw_tv 1 rfl ?_)))
  by_cases hc4 : ((0 :Nat):Int) < m
  ·
   refine q_gtr true rfl rfl (decide_eq_true hc4) zN (lw_nil (c_cond_t rfl (wp_skip (wp_block (wp_seq (wp_seq (wp_plain _ [0,0,0] rfl (lw_tv 1 rfl (q_rem (m % 2) rfl rfl (by decide) (tm2 hI.1) zN ?_)))))))))
   by_cases hc5 : m % 2 = ((1 :Nat):Int)
   ·
    refine q_eql true rfl rfl (decide_eq_true hc5) zN (lw_nil (c_cond_t rfl (wp_plain _ [0,0,0,0] rfl (lw_tv 2 rfl (lw_callq 76 [] [] [(.int .i64 x),(.int .i64 b)] rfl rfl cf76 zN (.int .i64 (md (x * b))) (fun wq => c_spec_Times wq _ _ oM oM) (lw_tvn 1 rfl (wp_seq (wp_plain _ [0,0,0,0] rfl (lw_tv 2 rfl (lw_callq 76 [] [] [(.int .i64 b),(.int .i64 b)] rfl rfl cf76 zN (.int .i64 (md (b * b))) (fun wq => c_spec_Times wq _ _ oM oM) (lw_tvn 1 rfl (wp_plain _ [0,0,0] rfl (lw_tv 1 rfl (q_quo (m / 2) rfl rfl (by decide) (td2 hI.1 hm) zN (lw_tvn 1 rfl ?_)))))))))))))))
    exact ⟨((m / 2),(md (x * b)),(md (b * b))),_,rfl,⟨rfl,rfl,rfl,trivial⟩,⟨hE3,z216_0,oM,(by first | exact hx | exact md_num _),(by exact md_num _)⟩,by first | omega | (dsimp only; omega)⟩
   ·
    exact q_eql false rfl rfl (decide_eq_false hc5) zN (lw_nil (c_cond_f rfl (wp_skip (wp_seq (wp_plain _ [0,0,0,0] rfl (lw_tv 2 rfl (lw_callq 76 [] [] [(.int .i64 b),(.int .i64 b)] rfl rfl cf76 zN (.int .i64 (md (b * b))) (fun wq => c_spec_Times wq _ _ oM oM) (lw_tvn 1 rfl (wp_plain _ [0,0,0] rfl (lw_tv 1 rfl (q_quo (m / 2) rfl rfl (by decide) (td2 hI.1 hm) zN (lw_tvn 1 rfl ⟨((m / 2),x,(md (b * b))),_,rfl,⟨rfl,rfl,rfl,trivial⟩,⟨hE3,z216_0,oM,(by first | exact hx | exact md_num _),(by exact md_num _)⟩,by first | omega | (dsimp only; omega)⟩))))))))))))
  ·
   exact q_gtr false rfl rfl (decide_eq_false hc4) zN (lw_nil (c_cond_f rfl (wp_exit (t_exit (t_exit (c_exit_here (wp_seq (wp_plain _ [0,0] rfl (lw_tvn 2 rfl (wp_ret (post_ret [4] rfl (.int .i64 x) rfl ⟨(ret_int (pw_end hI.2 hI.1 (by assumption) (by assumption) hx)),hE3⟩)))))))))))
theorem z162_0 {p : Prop} (h : p := by exact ⟨by omega, by first | exact pw_odd hI.2 oM (by assumption) | exact pw_even hI.2 oM (by assumption)⟩) : p := h
theorem c_impl_Power (w : World) (a : Int) (n : Int) (_ha : -9223372036854775808 ≤ a ∧ a ≤ 9223372036854775807) (_hn : -9223372036854775808 ≤ n ∧ n ≤ 9223372036854775807)  :
  Calls Tryz.prog 162 #[.int .i64 a,.int .i64 n] w (fun e w' => e = .returned (.int .i64 (pw a n)) ∧ w' = w) := by
 refine calls_mk [.int .i64 a,.int .i64 n] 27 Tryz.func162 rfl rfl sM ?_
 have hE0 : w = w := rfl
 refine wp_seq (wp_plain _ [0] rfl (lw_tvn 1 rfl (wp_seq (wp_seq (wp_plain _ [0,0] rfl (lw_tv 1 rfl ?_))))))
 by_cases hc1 : n < ((0 :Nat):Int)
 ·
  exact q_lss true rfl rfl (decide_eq_true hc1) zN (lw_nil (c_cond_t rfl (wp_seq (wp_plain _ [0] rfl (lw_tvn 1 rfl (wp_ret (t_ret (post_ret [4] rfl (.int .i64 ((0 :Nat):Int)) rfl ⟨(ret_int (pw_neg (by assumption))),hE0⟩))))))))
 ·
  refine q_lss false rfl rfl (decide_eq_false hc1) zN (lw_nil (c_cond_f rfl (wp_skip (wp_seq (wp_plain _ [0] rfl (lw_tvn 1 rfl (wp_seq (wp_seq (wp_plain _ [0,0,0] rfl (lw_tv 1 rfl (lw_callq 106 [] [] [(.int .i64 a)] rfl rfl cf106 zN (.int .i64 (md a)) (fun wq => c_impl_Residue wq _ _ha) (lw_tvn 1 rfl (wp_block ?_)))))))))))))
  refine c_loop (S := Int × Int × Int) (fun (⟨m,x,b⟩ : Int × Int × Int) => ([(1,(.int .i64 m)),(5,(.int .i64 x)),(6,(.int .i64 b))] : List (Nat × Value))) (fun (⟨m,x,b⟩ : Int × Int × Int) (W : World) => W = w ∧ (0 ≤ m ∧ md (x * b ^ m.toNat) = md (a ^ n.toNat)) ∧ m ≤ 9223372036854775807 ∧ (0 ≤ x ∧ x < 1000003) ∧ (0 ≤ b ∧ b < 1000003)) (fun (⟨m,x,b⟩ : Int × Int × Int) => m.toNat) (n,((1 :Nat):Int),(md a)) ⟨rfl,rfl,rfl,trivial⟩ ⟨hE0,(by exact ⟨by omega,pw_start a n.toNat⟩),oM,oM,(by exact md_num _)⟩ ?_
  clear hE0
  rintro ⟨m,x,b⟩ ρ3 w3 ⟨hE3,hI,hm,hx,hb⟩
  refine wp_seq (wp_seq (wp_plain _ [0,0] rfl (lw_tv 1 rfl ?_)))
  by_cases hc4 : ((0 :Nat):Int) < m
  ·
   refine q_gtr true rfl rfl (decide_eq_true hc4) zN (lw_nil (c_cond_t rfl (wp_skip (wp_seq (wp_block (wp_seq (wp_seq (wp_plain _ [0,0,0] rfl (lw_tv 1 rfl (q_rem (m % 2) rfl rfl (by decide) (tm2 hI.1) zN ?_))))))))))
   by_cases hc5 : m % 2 = ((1 :Nat):Int)
   ·
    refine q_eql true rfl rfl (decide_eq_true hc5) zN (lw_nil (c_cond_t rfl (wp_plain _ [0,0,0,0,0] rfl (lw_tv 2 rfl (q_mul (wr (x * b)) rfl rfl rfl zN (q_rem (md (x * b)) rfl rfl (by decide) (nm_eq hx hb) zN (lw_tvn 1 rfl (wp_plain _ [0,0,0,0,0] rfl (lw_tv 2 rfl (q_mul (wr (b * b)) rfl rfl rfl zN (q_rem (md (b * b)) rfl rfl (by decide) (nm_eq hb hb) zN (lw_tvn 1 rfl (wp_plain _ [0,0,0] rfl (lw_tv 1 rfl (q_quo (m / 2) rfl rfl (by decide) (td2 hI.1 hm) zN (lw_tvn 1 rfl ?_))))))))))))))))
    exact ⟨((m / 2),(md (x * b)),(md (b * b))),_,rfl,⟨rfl,rfl,rfl,trivial⟩,⟨hE3,z162_0,oM,(by first | exact hx | exact md_num _),(by exact md_num _)⟩,by first | omega | (dsimp only; omega)⟩
   ·
    exact q_eql false rfl rfl (decide_eq_false hc5) zN (lw_nil (c_cond_f rfl (wp_skip (wp_plain _ [0,0,0,0,0] rfl (lw_tv 2 rfl (q_mul (wr (b * b)) rfl rfl rfl zN (q_rem (md (b * b)) rfl rfl (by decide) (nm_eq hb hb) zN (lw_tvn 1 rfl (wp_plain _ [0,0,0] rfl (lw_tv 1 rfl (q_quo (m / 2) rfl rfl (by decide) (td2 hI.1 hm) zN (lw_tvn 1 rfl ⟨((m / 2),x,(md (b * b))),_,rfl,⟨rfl,rfl,rfl,trivial⟩,⟨hE3,z162_0,oM,(by first | exact hx | exact md_num _),(by exact md_num _)⟩,by first | omega | (dsimp only; omega)⟩))))))))))))
  ·
   exact q_gtr false rfl rfl (decide_eq_false hc4) zN (lw_nil (c_cond_f rfl (wp_exit (t_exit (t_exit (c_exit_here (wp_seq (wp_plain _ [0,0] rfl (lw_tvn 2 rfl (wp_ret (post_ret [4] rfl (.int .i64 x) rfl ⟨(ret_int (pw_end hI.2 hI.1 (by assumption) (by assumption) hx)),hE3⟩)))))))))))
theorem c_spec_l01Inv (w : World) (a : Int) (_ha : -9223372036854775808 ≤ a ∧ a ≤ 9223372036854775807)  :
  Calls Tryz.prog 175 #[.int .i64 a] w (fun e w' => e = .returned (.int .i64 (inv a)) ∧ w' = w) := by
 refine calls_mk [.int .i64 a] 5 Tryz.func175 rfl rfl sM ?_
 have hE0 : w = w := rfl
 exact wp_seq (wp_plain _ [0] rfl (lw_tvn 1 rfl (wp_seq (wp_plain _ [0,0,0] rfl (lw_tv 1 rfl (lw_callq 216 [] [] [(.int .i64 a),(.int .i64 ((1000001 :Nat):Int))] rfl rfl cf216 zN (.int .i64 (pw a ((1000001 :Nat):Int))) (fun wq => c_spec_Power wq _ _ _ha oM) (lw_tvn 1 rfl (wp_ret (post_ret [2] rfl (.int .i64 (pw a ((1000001 :Nat):Int))) rfl ⟨rfl,hE0⟩)))))))))
theorem c_impl_inverse (w : World) (a : Int) (_ha : -9223372036854775808 ≤ a ∧ a ≤ 9223372036854775807)  :
  Calls Tryz.prog 104 #[.int .i64 a] w (fun e w' => e = .returned (.int .i64 (inv a)) ∧ w' = w) := by
 refine calls_mk [.int .i64 a] 5 Tryz.func104 rfl rfl sM ?_
 have hE0 : w = w := rfl
 exact wp_seq (wp_plain _ [0] rfl (lw_tvn 1 rfl (wp_seq (wp_plain _ [0,0,0] rfl (lw_tv 1 rfl (lw_callq 162 [] [] [(.int .i64 a),(.int .i64 ((1000001 :Nat):Int))] rfl rfl cf162 zN (.int .i64 (pw a ((1000001 :Nat):Int))) (fun wq => c_impl_Power wq _ _ _ha oM) (lw_tvn 1 rfl (wp_ret (post_ret [2] rfl (.int .i64 (pw a ((1000001 :Nat):Int))) rfl ⟨rfl,hE0⟩)))))))))
theorem c_impl_isNumber (w : World) (n : Int) (_hn : -9223372036854775808 ≤ n ∧ n ≤ 9223372036854775807)  :
  Calls Tryz.prog 161 #[.int .i64 n] w (fun e w' => e = .returned (.bool (isN n)) ∧ w' = w) := by
 refine calls_mk [.int .i64 n] 5 Tryz.func161 rfl rfl sM ?_
 have hE0 : w = w := rfl
 exact wp_seq (wp_plain _ [0] rfl (lw_tvn 1 rfl (wp_seq (wp_plain _ [0,0,0] rfl (lw_tv 1 rfl (lw_callq 72 [] [] [(.int .i64 n),(.int .i64 ((0 :Nat):Int)),(.int .i64 ((1000002 :Nat):Int))] rfl rfl cf72 zN (.bool (decide (((0 :Nat):Int) ≤ n) && decide (n ≤ ((1000002 :Nat):Int)))) (fun wq => c_impl_within wq _ _ _ _hn oM oM) (lw_tvn 1 rfl (wp_ret (post_ret [2] rfl (.bool (decide (((0 :Nat):Int) ≤ n) && decide (n ≤ ((1000002 :Nat):Int)))) rfl ⟨(ret_bool (by unfold isN; rfl)),hE0⟩)))))))))
theorem c_spec_l01Number (w : World) (n : Int) (_hn : -9223372036854775808 ≤ n ∧ n ≤ 9223372036854775807)  :
  Calls Tryz.prog 192 #[.int .i64 n] w (fun e w' => e = .returned (.bool (isN n)) ∧ w' = w) := by
 refine calls_mk [.int .i64 n] 5 Tryz.func192 rfl rfl sM ?_
 have hE0 : w = w := rfl
 exact wp_seq (wp_plain _ [0] rfl (lw_tvn 1 rfl (wp_seq (wp_plain _ [0,0,0] rfl (lw_tv 1 rfl (lw_callq 92 [] [] [(.int .i64 n),(.int .i64 ((0 :Nat):Int)),(.int .i64 ((1000002 :Nat):Int))] rfl rfl cf92 zN (.bool (decide (((0 :Nat):Int) ≤ n) && decide (n ≤ ((1000002 :Nat):Int)))) (fun wq => c_spec_l00In wq _ _ _ _hn oM oM) (lw_tvn 1 rfl (wp_ret (post_ret [2] rfl (.bool (decide (((0 :Nat):Int) ≤ n) && decide (n ≤ ((1000002 :Nat):Int)))) rfl ⟨(ret_bool (by unfold isN; rfl)),hE0⟩)))))))))
theorem c_impl_areNumbers_1 (w : World) (n : Int) (_hn : -9223372036854775808 ≤ n ∧ n ≤ 9223372036854775807)  :
  Calls Tryz.prog 160 #[.int .i64 n] w (fun e w' => e = .returned (.bool (!isN n)) ∧ Ext w w') := by
 refine calls_mk [.int .i64 n] 6 Tryz.func160 rfl rfl sM ?_
 have hE0 : Ext w w := Ext.refl w
 exact wp_seq (wp_plain _ [0] rfl (lw_tvn 1 rfl (wp_seq (wp_plain _ [0,0,0,0] rfl (lw_tv 1 rfl (lw_callq 161 [] [] [(.int .i64 n)] rfl rfl cf161 zN (.bool (isN n)) (fun wq => c_impl_isNumber wq _ _hn) (q_not (!(isN n)) rfl rfl zN (lw_tvn 1 rfl (wp_ret (post_ret [2] rfl (.bool (!(isN n))) rfl ⟨rfl,hE0⟩))))))))))
end Go.Proofs.YtnokbaiemimhjaaGreat
namespace Go.Proofs.YtnokbaiemimhjaaGreat
open Go Go.RowKit
set_option linter.unusedVariables false
set_option linter.unusedSimpArgs false
section
variable {a : List (List (List Int))} {b : List (List Int)} {N : Nat}
theorem SysP.some (h : SysP a b N) (hd : detM (begA a) ≠ 0) : ∃ M, jorS a b = some M := Option.ne_none_iff_exists'.1 (fun hn => hd (h.jor.1 hn))
end
end Go.Proofs.YtnokbaiemimhjaaGreat
namespace Go.Proofs.YtnokbaiemimhjaaGreat
open Go Go.RowKit
set_option linter.unusedVariables false
set_option linter.unusedSimpArgs false
set_option maxHeartbeats 4000000
set_option maxRecDepth 100000
attribute [local irreducible] LW
def ixF {α : Type} (p : α → Bool) (l : List α) : Int := if l.any p then ((l.findIdx p : Nat) : Int) else -1
theorem ix_yes {α : Type} {p : α → Bool} {l : List α} {k : Nat} (d : α) (h : ∀ j, j < k → p (l.getD j d) = false) (hk : k < l.length) (hp : p (l.getD k d) = true) : ((k : Nat) : Int) = ixF p l := by
  have e : ∀ j, (hj : j < l.length) → l.getD j d = l[j] := fun j hj => by simp [hj]
  have h1 : l.any p = true := List.any_eq_true.2 ⟨l[k], List.getElem_mem hk, by rw [← e k hk]; exact hp⟩
  have h2 : l.findIdx p = k := by
    rw [List.findIdx_eq hk]
    refine ⟨by rw [← e k hk]; exact hp, fun j hj => ?_⟩
    have := h j hj
    rw [e j (by omega)] at this
    exact this
  unfold ixF; rw [if_pos h1, h2]
theorem ix_no {α : Type} {p : α → Bool} {l : List α} {k : Nat} (d : α) (h : ∀ j, j < k → p (l.getD j d) = false) (hk : l.length ≤ k) : (-1 : Int) = ixF p l := by
  have h1 : l.any p = false := by
    rw [List.any_eq_false]
    intro x hx
    obtain ⟨j, hj, rfl⟩ := List.getElem_of_mem hx
    have := h j (by omega)
    have e : l.getD j d = l[j] := by simp [hj]
    rw [e] at this
    simp [this]
  unfold ixF; rw [h1]; rfl
theorem ix_ge {α : Type} (p : α → Bool) (l : List α) : decide (((0 : Nat) : Int) ≤ ixF p l) = l.any p := by
  unfold ixF
  split
  · rename_i h; rw [h]; exact decide_eq_true (by omega)
  · rename_i h; rw [Bool.not_eq_true] at h; rw [h]; exact decide_eq_false (by omega)
theorem ix_step {α : Type} {p : α → Bool} {l : List α} {k : Nat} {d : α} (h : ∀ j, j < k → p (l.getD j d) = false) (hp : p (l.getD k d) = false) : ∀ j, j < k + 1 → p (l.getD j d) = false := by
  intro j hj
  by_cases e : j = k
  · subst e; exact hp
  · exact h j (by omega)
theorem c_slices_IndexFunc___int64_int64_ (w : World) (va : Value) (a : List Int) (q : Nat) (qf qc : List Value) (p : Int → Bool) (ha : Rd (rdL rI) w.heap va a) (hcf_q : ((Tryz.prog.funcs[q]?).map fun fn => (fn.name != "runtime.NumGoroutine") && fn.body.isSome) = some true) (hp : ∀ (x : Int),-9223372036854775808 ≤ x ∧ x ≤ 9223372036854775807 → ∀ w1,Ext w w1 → Calls Tryz.prog q (qf ++ [Value.int .i64 x] ++ qc).toArray w1 (fun e w2 => e = .returned (.bool (p x)) ∧ Ext w1 w2))  :
  Calls Tryz.prog 210 #[va,.func (.func q) qf.toArray qc.toArray] w (fun e w' => e = .returned (.int .i64 (ixF p a)) ∧ Ext w w') := by
 refine calls_mk [va,.func (.func q) qf.toArray qc.toArray] 19 Tryz.func210 rfl rfl sM ?_
 have hE0 : Ext w w := Ext.refl w
 have hl_va := ha.lenle
 refine wp_seq (wp_plain _ [0] rfl (lw_tvn 1 rfl (wp_seq (wp_seq (wp_plain _ [0,0,0] rfl (lw_tv 1 rfl (q_len (v := va) u27 rfl ha.isSl zN (lw_tvn 1 rfl (wp_block ?_)))))))))
 refine c_loop (S := Nat) (fun (k : Nat) => ([(8,(.int .i64 ((k :Nat):Int))),(0,va),(1,(.func (.func q) qf.toArray qc.toArray)),(7,(.int .i64 ((a.length :Nat):Int)))] : List (Nat × Value))) (fun (k : Nat) (W : World) => Ext w W ∧ k ≤ a.length ∧ (∀ j,j < k → p (a.getD j 0) = false)) (fun (k : Nat) => a.length - k) 0 ⟨rfl,rfl,rfl,rfl,trivial⟩ ⟨hE0,sD,(by intro j hj; omega)⟩ ?_
 clear hE0
 rintro k ρ1 w1 ⟨hE1,hp1_0,hq⟩
 have hzs1 : w.heap.size ≤ w1.heap.size := hE1.size
 refine wp_seq (wp_plain _ [0] rfl ?_)
 by_cases hc2 : ((k :Nat):Int) < ((a.length :Nat):Int)
 ·
  refine q_lss true rfl rfl (decide_eq_true hc2) zN (lw_nil (wp_seq (c_cond_t rfl (wp_skip (wp_seq (wp_block (wp_seq (wp_plain _ [0,0] rfl (lw_tvn 2 rfl (wp_seq (wp_plain _ [0,0,0,0,2,3] rfl (lw_tv 3 rfl (q_idx (v := va) k u27 ti2 rfl rfl ha.isSl rfl sD zN ?_)))))))))))))
  refine q_load (p := eptr va k 1) (.inr rfl) (.int .i64 (a.getD k 0)) one2 rfl (ldH_ext hE1 (ha.getI sD).1) zN ?_
  have hcall3 := hp (a.getD k 0) (ha.getI sD).2 _ hE1
  refine lw_call q qf qc _ rfl rfl hcf_q zN hcall3 ?_
  rintro e3 w3 ⟨rfl,hX3⟩
  refine ⟨_,rfl,hX3,?_⟩
  have hzs3:=hX3.size
  have hE3:=hE1.trans hX3
  cases hc3 : p (a.getD k 0)
  ·
   refine lw_nil (c_cond_f rfl (wp_skip (wp_plain _ [0,0] rfl (q_add ((k + 1 :Nat):Int) rfl rfl (w64n oM sD) zN (lw_tvn 1 rfl ?_)))))
   exact ⟨(k + 1),_,rfl,⟨rfl,rfl,rfl,rfl,trivial⟩,⟨hE3,sD,(by exact ix_step hq (by assumption))⟩,by first | omega | (dsimp only; omega)⟩
  ·
   exact lw_nil (c_cond_t rfl (wp_seq (wp_plain _ [0,0] rfl (lw_tvn 2 rfl (wp_ret (b_ret (t_ret (t_ret (b_ret (t_ret (post_ret [4] rfl (.int .i64 ((k :Nat):Int)) rfl ⟨(ret_int (ix_yes 0 hq oM (by assumption))),hE3⟩)))))))))))
 ·
  exact q_lss false rfl rfl (decide_eq_false hc2) zN (lw_nil (wp_seq (c_cond_f rfl (wp_exit (t_exit (t_exit (c_exit_here (wp_seq (wp_plain _ [0] rfl (lw_tvn 1 rfl (wp_ret (post_ret [4] rfl (.int .i64 (-1)) rfl ⟨(ret_int (ix_no 0 hq oM)),hE1⟩))))))))))))
theorem c_slices_ContainsFunc___int64_int64_ (w : World) (va : Value) (a : List Int) (q : Nat) (qf qc : List Value) (p : Int → Bool) (ha : Rd (rdL rI) w.heap va a) (hcf_q : ((Tryz.prog.funcs[q]?).map fun fn => (fn.name != "runtime.NumGoroutine") && fn.body.isSome) = some true) (hp : ∀ (x : Int),-9223372036854775808 ≤ x ∧ x ≤ 9223372036854775807 → ∀ w1,Ext w w1 → Calls Tryz.prog q (qf ++ [Value.int .i64 x] ++ qc).toArray w1 (fun e w2 => e = .returned (.bool (p x)) ∧ Ext w1 w2))  :
  Calls Tryz.prog 159 #[va,.func (.func q) qf.toArray qc.toArray] w (fun e w' => e = .returned (.bool (a.any p)) ∧ Ext w w') := by
 refine calls_mk [va,.func (.func q) qf.toArray qc.toArray] 9 Tryz.func159 rfl rfl sM ?_
 have hE0 : Ext w w := Ext.refl w
 have hl_va := ha.lenle
 refine wp_seq (wp_plain _ [0] rfl (lw_tvn 1 rfl (wp_seq (wp_plain _ [0,0,3,0,0] rfl (lw_tv 2 rfl (lw_call 210 [] [] [va,(.func (.func q) qf.toArray qc.toArray)] rfl rfl cf210 zN (c_slices_IndexFunc___int64_int64_ _ _ _ q qf qc p (ha.ext g1 hE0) hcf_q (fun x hx w1 hw => hp x hx w1 (hE0.trans hw))) ?_))))))
 rintro e1 w1 ⟨rfl,hX1⟩
 refine ⟨_,rfl,hX1,?_⟩
 have hzs1:=hX1.size
 have hE1:=hE0.trans hX1
 exact q_geq (decide (((0 :Nat):Int) ≤ ixF p a)) rfl rfl rfl zN (lw_tvn 1 rfl (wp_ret (post_ret [4] rfl (.bool (decide (((0 :Nat):Int) ≤ ixF p a))) rfl ⟨(ret_bool (ix_ge p a)),hE1⟩)))
theorem c_slices_Clone___int64_int64_ (w : World) (va : Value) (a : List Int) (ha : Rd (rdL rI) w.heap va a) (hla : a.length ≤ 1000000000000) :
  Calls Tryz.prog 101 #[va] w (fun e w' => ∃ v0 : Value,e = .returned (v0) ∧ Ext w w' ∧ Fr (owL rI 2) w.heap.size w'.heap.size w'.heap v0 a) := by
 refine calls_mk [va] 8 Tryz.func101 rfl rfl sM ?_
 have hE0 : Ext w w := Ext.refl w
 have hl_va := ha.lenle
 refine wp_seq (wp_plain _ [0] rfl (lw_tvn 1 rfl (wp_seq (wp_seq (wp_plain _ [0,0] rfl (lw_tv 1 rfl ?_))))))
 cases hc1 : isNilV va
 ·
  refine q_nilq (v := va) false u27 rfl rfl ha.isSl hc1 zN (lw_nil (c_cond_f rfl (wp_skip (wp_seq (wp_plain _ [3,0,4,0] rfl (r_nil (rI) good_rI u27 ti2 zN fun v2 w2 hX2 hz2 hO2 => ?_))))))
  have hzs2:=hX2.size
  have hE2:=hE0.trans hX2
  refine lw_tv 1 rfl (e_appI (v := v2) (a := va) u27 ti2 rfl rfl rfl hO2 hE2.size (ha.ext g1 hE2) sD (by unfold maxLen; first | omega | assumption | (simp; done) | (simp; omega)) zN fun v3 w3 F3 hC3 hF3 hO3 => ?_)
  have hE3 : Ext w w3 := hC3.below hE2 (fun c hc => Nat.le_trans (Nat.le_refl _) (hF3 c hc).1) hE2.size
  have hzs3:=hC3.size
  exact lw_tvn 1 rfl (wp_ret (post_ret [2] rfl v3 rfl ⟨v3,rfl,hE3,hO3.up o1⟩))
 ·
  refine q_nilq (v := va) true u27 rfl rfl ha.isSl hc1 zN (lw_nil (c_cond_t rfl (wp_seq (wp_plain _ [0] rfl (lw_tvn 1 rfl (wp_ret (t_ret ?_)))))))
  have hnil : a = [] := ha.nil_of (by assumption)
  subst hnil
  exact post_ret [2] rfl (.slice none 0 0) rfl ⟨(.slice none 0 0),rfl,hE0,frNil _ _ _⟩
theorem c_impl_areNumbers (w : World) (va : Value) (a : List Int) (count : Int) (ha : Rd (rdL rI) w.heap va a) (_hcount : -9223372036854775808 ≤ count ∧ count ≤ 9223372036854775807)  :
  Calls Tryz.prog 97 #[va,.int .i64 count] w (fun e w' => e = .returned (.bool (decide (((a.length :Nat):Int) = count) && allN a)) ∧ Ext w w') := by
 refine calls_mk [va,.int .i64 count] 14 Tryz.func97 rfl rfl sM ?_
 have hE0 : Ext w w := Ext.refl w
 have hl_va := ha.lenle
 refine wp_seq (wp_plain _ [0] rfl (lw_tvn 1 rfl (wp_seq (wp_plain _ [0,0,0,0,0,0,3,0,0,0] rfl (lw_tv 1 rfl (q_len (v := va) u27 rfl ha.isSl zN (lw_tv 1 rfl ?_)))))))
 by_cases hc1 : ((a.length :Nat):Int) = count
 ·
  refine q_eql true rfl rfl (decide_eq_true hc1) zN (lw_tv 2 rfl (lw_call 159 [] [] [va,(.func (.func 160) #[] #[])] rfl rfl cf159 (zS (e := 9) rfl rfl rfl) (c_slices_ContainsFunc___int64_int64_ _ _ _ 160 [] [] (fun x => !isN x) (ha.ext g1 hE0) cf160 (fun x hx w1 hw => c_impl_areNumbers_1 w1 x hx)) ?_))
  rintro e2 w2 ⟨rfl,hX2⟩
  refine ⟨_,rfl,hX2,?_⟩
  have hzs2:=hX2.size
  have hE2:=hE0.trans hX2
  exact q_not (!(a.any (fun x => !isN x))) rfl rfl (zS (e := 9) rfl rfl rfl) (lw_tvn 2 rfl (wp_ret (post_ret [4] rfl (.bool (!(a.any (fun x => !isN x)))) rfl ⟨(ret_bool (by first | (rw [any_not]; simp [*]; done) | simp [*])),hE2⟩)))
 ·
  exact q_eql false rfl rfl (decide_eq_false hc1) zN (lw_tvn 6 rfl (wp_ret (post_ret [4] rfl (.bool false) rfl ⟨(ret_bool (by first | (rw [any_not]; simp [*]; done) | simp [*])),hE0⟩)))
theorem c_spec_l01Numbers (w : World) (va : Value) (a : List Int) (ha : Rd (rdL rI) w.heap va a)  :
  Calls Tryz.prog 144 #[va] w (fun e w' => e = .returned (.bool (allN a)) ∧ Ext w w') := by
 refine calls_mk [va] 16 Tryz.func144 rfl rfl sM ?_
 have hE0 : Ext w w := Ext.refl w
 have hl_va := ha.lenle
 refine wp_seq (wp_plain _ [0] rfl (lw_tvn 1 rfl (wp_seq (wp_seq (wp_plain _ [0] rfl (lw_tvn 1 rfl (wp_block (c_loop (S := Nat) (fun (k : Nat) => ([(3,(.int .i64 ((k :Nat):Int))),(0,va)] : List (Nat × Value))) (fun (k : Nat) (W : World) => Ext w W ∧ k ≤ a.length ∧ ((a.take k).all isN = true)) (fun (k : Nat) => a.length - k) 0 ⟨rfl,rfl,trivial⟩ ⟨hE0,sD,(by exact all_none _ _)⟩ ?_))))))))
 clear hE0
 rintro k ρ1 w1 ⟨hE1,hp1_0,hq⟩
 have hzs1 : w.heap.size ≤ w1.heap.size := hE1.size
 refine wp_seq (wp_seq (wp_plain _ [0,0,0,0] rfl (lw_tv 2 rfl (q_len (v := va) u27 rfl ha.isSl zN ?_))))
 by_cases hc2 : ((k :Nat):Int) < ((a.length :Nat):Int)
 ·
  refine q_lss true rfl rfl (decide_eq_true hc2) zN (lw_nil (c_cond_t rfl (wp_skip (wp_seq (wp_block (wp_seq (wp_plain _ [0,0,0,2,0,0] rfl (lw_tv 2 rfl (q_idx (v := va) k u27 ti2 rfl rfl ha.isSl rfl sD zN ?_)))))))))
  refine q_load (p := eptr va k 1) (.inr rfl) (.int .i64 (a.getD k 0)) one2 rfl (ldH_ext hE1 (ha.getI sD).1) zN ?_
  refine lw_callq 192 [] [] [(.int .i64 (a.getD k 0))] rfl rfl cf192 zN (.bool (isN (a.getD k 0))) (fun wq => c_spec_l01Number wq _ (ha.getI sD).2) (q_not (!(isN (a.getD k 0))) rfl rfl zN (lw_nil ?_))
  cases hb4 : (!(isN (a.getD k 0)))
  ·
   refine c_cond_f (by first | rfl | (show Value.bool _ = _; rw [hb4])) (wp_skip (wp_plain _ [0,0,0] rfl (lw_tv 1 rfl (q_add ((k + 1 :Nat):Int) rfl rfl (w64n oM sD) zN (lw_tvn 1 rfl ?_)))))
   exact ⟨(k + 1),_,rfl,⟨rfl,rfl,trivial⟩,⟨hE1,sD,(by exact all_succ 0 hq oM (by simpa using ‹(!isN (a.getD k 0)) = false›))⟩,by first | omega | (dsimp only; omega)⟩
  ·
   exact c_cond_t (by first | rfl | (show Value.bool _ = _; rw [hb4])) (wp_seq (wp_plain _ [0] rfl (lw_tvn 1 rfl (wp_ret (b_ret (t_ret (t_ret (b_ret (t_ret (post_ret [2] rfl (.bool false) rfl ⟨(ret_bool (all_fail (k := k) 0 oM (by simpa using ‹(!isN (a.getD k 0)) = true›)).symm),hE1⟩))))))))))
 ·
  exact q_lss false rfl rfl (decide_eq_false hc2) zN (lw_nil (c_cond_f rfl (wp_exit (t_exit (t_exit (c_exit_here (wp_seq (wp_plain _ [0] rfl (lw_tvn 1 rfl (wp_ret (post_ret [2] rfl (.bool true) rfl ⟨(ret_bool (all_done hq oM).symm),hE1⟩)))))))))))
end Go.Proofs.YtnokbaiemimhjaaGreat
namespace Go.Proofs.YtnokbaiemimhjaaGreat
open Go Go.RowKit
set_option linter.unusedVariables false
set_option linter.unusedSimpArgs false
set_option maxHeartbeats 4000000
set_option maxRecDepth 100000
attribute [local irreducible] LW
theorem c_spec_l01Scale (w : World) (va : Value) (a : List Int) (y : Int) (ha : Rd (rdL rI) w.heap va a) (_hy : -9223372036854775808 ≤ y ∧ y ≤ 9223372036854775807) (hla : a.length ≤ 1000000000000) :
  Calls Tryz.prog 176 #[va,.int .i64 y] w (fun e w' => ∃ v0 : Value,e = .returned (v0) ∧ Ext w w' ∧ Fr (owL rI 2) w.heap.size w'.heap.size w'.heap v0 (scl a y)) := by
 refine calls_mk [va,.int .i64 y] 24 Tryz.func176 rfl rfl sM ?_
 have hE0 : Ext w w := Ext.refl w
 have hl_va := ha.lenle
 refine wp_seq (wp_plain _ [0] rfl (lw_tvn 1 rfl (wp_seq (wp_plain _ [3,0] rfl (r_nil (rI) good_rI u27 ti2 zN fun v1 w1 hX1 hz1 hO1 => ?_)))))
 have hzs1:=hX1.size
 have hE1:=hE0.trans hX1
 refine lw_tvn 1 rfl (wp_seq (wp_seq (wp_plain _ [0] rfl (lw_tvn 1 rfl (wp_block ?_)))))
 refine c_loop (S := Nat × Value) (fun (⟨k,vo⟩ : Nat × Value) => ([(5,vo),(6,(.int .i64 ((k :Nat):Int))),(0,va),(1,(.int .i64 y))] : List (Nat × Value))) (fun (⟨k,vo⟩ : Nat × Value) (W : World) => Ext w W ∧ Fr (owL rI 2) w.heap.size W.heap.size W.heap vo ((a.take k).map (fun x => md (x * y))) ∧ k ≤ a.length) (fun (⟨k,vo⟩ : Nat × Value) => a.length - k) (0,v1) ⟨rfl,rfl,rfl,rfl,trivial⟩ ⟨hE1,hO1.up o1,sD⟩ ?_
 clear hE0 hO1 hz1 hX1 hzs1 hE1
 rintro ⟨k,vo⟩ ρ2 w2 ⟨hE2,hL2_0,hp2_0⟩
 have hzs2 : w.heap.size ≤ w2.heap.size := hE2.size
 refine wp_seq (wp_seq (wp_plain _ [0,0,0,0] rfl (lw_tv 2 rfl (q_len (v := va) u27 rfl ha.isSl zN ?_))))
 by_cases hc3 : ((k :Nat):Int) < ((a.length :Nat):Int)
 ·
  refine q_lss true rfl rfl (decide_eq_true hc3) zN (lw_nil (c_cond_t rfl (wp_skip (wp_seq (wp_block (wp_plain _ [0,0,0,0,2,0,0,3,4,0] rfl (lw_tv 3 rfl (q_idx (v := va) k u27 ti2 rfl rfl ha.isSl rfl sD zN ?_))))))))
  refine q_load (p := eptr va k 1) (.inr rfl) (.int .i64 (a.getD k 0)) one2 rfl (ldH_ext hE2 (ha.getI sD).1) zN (lw_tv 1 rfl ?_)
  refine lw_callq 76 [] [] [(.int .i64 (a.getD k 0)),(.int .i64 y)] rfl rfl cf76 zN (.int .i64 (md ((a.getD k 0) * y))) (fun wq => c_spec_Times wq _ _ (ha.getI sD).2 _hy) (r_one (u := (.int .i64 (md ((a.getD k 0) * y)))) (B := w2.heap.size) good_rI u27 ti2 rfl rfl (frI w2.heap.size w2.heap.size _ _ (md_rng _)) (Nat.le_refl _) zN fun v5 w5 hX5 hz5 hO5 => ?_)
  have hzs5:=hX5.size
  have hE5:=hE2.trans hX5
  have hL2_0x5 := hL2_0.ext (o1) hX5
  refine e_appI (v := vo) (a := v5) u27 ti2 rfl rfl rfl hL2_0x5 hE5.size hO5.rd1 sD (by unfold maxLen; first | omega | assumption | (simp; done) | (simp; omega)) zN fun v6 w6 F6 hC6 hF6 hO6 => ?_
  have hE6 : Ext w w6 := hC6.below hE5 (fun c hc => Nat.le_trans (Nat.le_refl _) (hF6 c hc).1) hE5.size
  have hzs6:=hC6.size
  have hF7 := hO5.chg (o1) hC6 (fun c hc => by have := hF6 c hc; omega)
  refine lw_tvn 1 rfl (wp_plain _ [0,0,0] rfl (lw_tv 1 rfl (q_add ((k + 1 :Nat):Int) rfl rfl (w64n oM sD) zN (lw_tvn 1 rfl ?_))))
  exact ⟨((k + 1),v6),_,rfl,⟨rfl,rfl,rfl,rfl,trivial⟩,⟨hE6,(by rw [map_snoc 0 oM]; exact hO6.up o1),sD⟩,by first | omega | (dsimp only; omega)⟩
 ·
  exact q_lss false rfl rfl (decide_eq_false hc3) zN (lw_nil (c_cond_f rfl (wp_exit (t_exit (t_exit (c_exit_here (wp_seq (wp_plain _ [0,0] rfl (lw_tvn 2 rfl (wp_ret (post_ret [4] rfl vo rfl ⟨vo,rfl,hE2,(by have h := hL2_0.up o1; rwa [List.take_of_length_le oM] at h)⟩)))))))))))
end Go.Proofs.YtnokbaiemimhjaaGreat
namespace Go.Proofs.YtnokbaiemimhjaaGreat
open Go Go.RowKit
set_option linter.unusedVariables false
set_option linter.unusedSimpArgs false
set_option maxHeartbeats 4000000
set_option maxRecDepth 100000
attribute [local irreducible] LW
theorem c_impl_scaled (w : World) (va : Value) (a : List Int) (y : Int) (ha : Rd (rdL rI) w.heap va a) (_hy : -9223372036854775808 ≤ y ∧ y ≤ 9223372036854775807) (hla : a.length ≤ 1000000000000) (hqa : allN a = true) (hy : 0 ≤ y ∧ y < 1000003) :
  Calls Tryz.prog 103 #[va,.int .i64 y] w (fun e w' => ∃ v0 : Value,e = .returned (v0) ∧ Ext w w' ∧ Fr (owL rI 2) w.heap.size w'.heap.size w'.heap v0 (sclS a y)) := by
 refine calls_mk [va,.int .i64 y] 27 Tryz.func103 rfl rfl sM ?_
 have hE0 : Ext w w := Ext.refl w
 have hl_va := ha.lenle
 refine wp_seq (wp_plain _ [0] rfl (lw_tvn 1 rfl (wp_seq (wp_plain _ [0,0,3,0] rfl (lw_tv 1 rfl (q_len (v := va) u27 rfl ha.isSl zN (r_make (n := a.length) u27 ti2 rfl rfl rfl sD zN fun v1 w1 hX1 hz1 hO1 => ?_)))))))
 have hzs1:=hX1.size
 have hE1:=hE0.trans hX1
 refine lw_tvn 1 rfl (wp_seq (wp_seq (wp_plain _ [0,0,0] rfl (lw_tv 1 rfl (q_len (v := va) u27 rfl ha.isSl zN (lw_tvn 1 rfl (wp_block ?_)))))))
 refine c_loop (S := Nat) (fun (k : Nat) => ([(12,(.int .i64 ((k :Nat):Int))),(0,va),(1,(.int .i64 y)),(5,v1),(11,(.int .i64 ((a.length :Nat):Int)))] : List (Nat × Value))) (fun (k : Nat) (W : World) => Ext w W ∧ Fr (owL rI 2) w.heap.size W.heap.size W.heap v1 (mix k (sclS a y) (List.replicate a.length 0)) ∧ k ≤ a.length) (fun (k : Nat) => a.length - k) 0 ⟨rfl,rfl,rfl,rfl,rfl,trivial⟩ ⟨hE1,(by rw [mix_zero]; exact hO1.up o1),sD⟩ ?_
 clear hE0 hO1 hz1 hX1 hzs1 hE1
 rintro k ρ2 w2 ⟨hE2,hL2_0,hp2_0⟩
 have hzs2 : w.heap.size ≤ w2.heap.size := hE2.size
 have hml := mix_len k (sclS a y) (List.replicate a.length 0) sM
 rw [List.length_replicate] at hml
 have hga := allN_get hqa k
 refine wp_seq (wp_plain _ [0] rfl ?_)
 by_cases hc3 : ((k :Nat):Int) < ((a.length :Nat):Int)
 ·
  refine q_lss true rfl rfl (decide_eq_true hc3) zN (lw_nil (wp_seq (c_cond_t rfl (wp_skip (wp_seq (wp_block (wp_seq (wp_plain _ [0,0] rfl (lw_tvn 2 rfl (wp_plain _ [0,0,0,0,0,2,0,0,0,0,4] rfl (lw_tv 4 rfl (q_idx (v := va) k u27 ti2 rfl rfl ha.isSl rfl sD zN ?_))))))))))))
  refine q_load (p := eptr va k 1) (.inr rfl) (.int .i64 (a.getD k 0)) one2 rfl (ldH_ext hE2 (ha.getI sD).1) zN (lw_tv 1 rfl (q_mul (wr ((a.getD k 0) * y)) rfl rfl rfl zN (q_rem (md (a.getD k 0 * y)) rfl rfl (by decide) (nm_eq hga hy) zN ?_)))
  refine q_idx (v := v1) k u27 ti2 rfl rfl hL2_0.isSl rfl sD zN (e_setI (v := v1) (w := w2) sz2 rfl rfl (md_rng _) hL2_0 sD zN fun w4 F4 hC4 hz4 hF4 hO4 => ?_)
  have hE4 : Ext w w4 := hC4.below hE2 (fun c hc => Nat.le_trans (Nat.le_refl _) (hF4 c hc).1) hE2.size
  have hzs4:=hC4.size
  refine lw_nil (wp_plain _ [0,0] rfl (q_add ((k + 1 :Nat):Int) rfl rfl (w64n oM sD) zN (lw_tvn 1 rfl ?_)))
  exact ⟨(k + 1),_,rfl,⟨rfl,rfl,rfl,rfl,rfl,trivial⟩,⟨hE4,(by unfold sclS; rw [mix_tab sM oM]; exact hO4.up o1),sD⟩,by first | omega | (dsimp only; omega)⟩
 ·
  exact q_lss false rfl rfl (decide_eq_false hc3) zN (lw_nil (wp_seq (c_cond_f rfl (wp_exit (t_exit (t_exit (c_exit_here (wp_seq (wp_plain _ [0,0] rfl (lw_tvn 2 rfl (wp_ret (post_ret [4] rfl v1 rfl ⟨v1,rfl,hE2,(by have h := hL2_0.up o1; rwa [mix_all sM (by simp; omega)] at h)⟩))))))))))))
theorem c_impl_added (w : World) (va : Value) (a : List Int) (vb : Value) (b : List Int) (ha : Rd (rdL rI) w.heap va a) (hb : Rd (rdL rI) w.heap vb b) (hla : a.length ≤ 1000000000000) (hl : a.length ≤ b.length) (hqa : allN a = true) (hqb : allN b = true) :
  Calls Tryz.prog 102 #[va,vb] w (fun e w' => ∃ v0 : Value,e = .returned (v0) ∧ Ext w w' ∧ Fr (owL rI 2) w.heap.size w'.heap.size w'.heap v0 (addS a b)) := by
 refine calls_mk [va,vb] 30 Tryz.func102 rfl rfl sM ?_
 have hE0 : Ext w w := Ext.refl w
 have hl_va := ha.lenle
 have hl_vb := hb.lenle
 refine wp_seq (wp_plain _ [0] rfl (lw_tvn 1 rfl (wp_seq (wp_plain _ [0,0,3,0] rfl (lw_tv 1 rfl (q_len (v := va) u27 rfl ha.isSl zN (r_make (n := a.length) u27 ti2 rfl rfl rfl sD zN fun v1 w1 hX1 hz1 hO1 => ?_)))))))
 have hzs1:=hX1.size
 have hE1:=hE0.trans hX1
 refine lw_tvn 1 rfl (wp_seq (wp_seq (wp_plain _ [0,0,0] rfl (lw_tv 1 rfl (q_len (v := va) u27 rfl ha.isSl zN (lw_tvn 1 rfl (wp_block ?_)))))))
 refine c_loop (S := Nat) (fun (k : Nat) => ([(12,(.int .i64 ((k :Nat):Int))),(0,va),(1,vb),(5,v1),(11,(.int .i64 ((a.length :Nat):Int)))] : List (Nat × Value))) (fun (k : Nat) (W : World) => Ext w W ∧ Fr (owL rI 2) w.heap.size W.heap.size W.heap v1 (mix k (addS a b) (List.replicate a.length 0)) ∧ k ≤ a.length) (fun (k : Nat) => a.length - k) 0 ⟨rfl,rfl,rfl,rfl,rfl,trivial⟩ ⟨hE1,(by rw [mix_zero]; exact hO1.up o1),sD⟩ ?_
 clear hE0 hO1 hz1 hX1 hzs1 hE1
 rintro k ρ2 w2 ⟨hE2,hL2_0,hp2_0⟩
 have hzs2 : w.heap.size ≤ w2.heap.size := hE2.size
 have hml := mix_len k (addS a b) (List.replicate a.length 0) sM
 rw [List.length_replicate] at hml
 have hga := allN_get hqa k
 have hgb := allN_get hqb k
 refine wp_seq (wp_plain _ [0] rfl ?_)
 by_cases hc3 : ((k :Nat):Int) < ((a.length :Nat):Int)
 ·
  refine q_lss true rfl rfl (decide_eq_true hc3) zN (lw_nil (wp_seq (c_cond_t rfl (wp_skip (wp_seq (wp_block (wp_seq (wp_plain _ [0,0] rfl (lw_tvn 2 rfl (wp_draw _ [0,0,0,0,0,1,0,0,0,1,0,0,0,4] mixed (by kernel_rfl) (lw_tv 4 rfl (q_idx (v := va) k u27 ti2 rfl rfl ha.isSl rfl sD zN ?_))))))))))))
  refine q_load (p := eptr va k 1) (.inl rfl) (.int .i64 (a.getD k 0)) one2 rfl (ldH_ext hE2.drew (ha.getI sD).1) zN (lw_tv 2 rfl ?_)
  refine q_idx (v := vb) k u27 ti2 rfl rfl hb.isSl rfl sD zN ?_
  refine q_load (p := eptr vb k 1) (.inl rfl) (.int .i64 (b.getD k 0)) one2 rfl (ldH_ext hE2.drew (hb.getI sD).1) zN (q_add (wr ((a.getD k 0) + (b.getD k 0))) rfl rfl rfl zN (q_rem (md (a.getD k 0 + b.getD k 0)) rfl rfl (by decide) (nadd_eq hga hgb) zN ?_))
  refine q_idx (v := v1) k u27 ti2 rfl rfl hL2_0.isSl rfl sD zN (e_setI (v := v1) (w := w2.drew) sz2 rfl rfl (md_rng _) hL2_0 sD zN fun w4 F4 hC4 hz4 hF4 hO4 => ?_)
  replace hC4 := hC4.of_drew
  have hE4 : Ext w w4 := hC4.below hE2 (fun c hc => Nat.le_trans (Nat.le_refl _) (hF4 c hc).1) hE2.size
  have hzs4:=hC4.size
  refine lw_nil (wp_plain _ [0,0] rfl (q_add ((k + 1 :Nat):Int) rfl rfl (w64n oM sD) zN (lw_tvn 1 rfl ?_)))
  exact ⟨(k + 1),_,rfl,⟨rfl,rfl,rfl,rfl,rfl,trivial⟩,⟨hE4,(by unfold addS; rw [mix_tab sM oM]; exact hO4.up o1),sD⟩,by first | omega | (dsimp only; omega)⟩
 ·
  exact q_lss false rfl rfl (decide_eq_false hc3) zN (lw_nil (wp_seq (c_cond_f rfl (wp_exit (t_exit (t_exit (c_exit_here (wp_seq (wp_plain _ [0,0] rfl (lw_tvn 2 rfl (wp_ret (post_ret [4] rfl v1 rfl ⟨v1,rfl,hE2,(by have h := hL2_0.up o1; rwa [mix_all sM (by simp; omega)] at h)⟩))))))))))))
theorem c_impl_reduced (w : World) (va : Value) (a : List Int) (vb : Value) (b : List Int) (ha : Rd (rdL rI) w.heap va a) (hb : Rd (rdL rI) w.heap vb b) (hla : a.length ≤ 1000000000000) (hlb : b.length ≤ 1000000000000) (hl : a.length ≤ b.length) (hqa : allN a = true) (hqb : allN b = true) :
  Calls Tryz.prog 132 #[va,vb] w (fun e w' => ∃ v0 : Value,e = .returned (v0) ∧ Ext w w' ∧ Fr (owL rI 2) w.heap.size w'.heap.size w'.heap v0 (redS a b)) := by
 refine calls_mk [va,vb] 9 Tryz.func132 rfl rfl sM ?_
 have hE0 : Ext w w := Ext.refl w
 have hl_va := ha.lenle
 have hl_vb := hb.lenle
 refine wp_seq (wp_plain _ [0] rfl (lw_tvn 1 rfl (wp_seq (wp_plain _ [0,0,3,3,0] rfl (lw_tv 2 rfl (lw_call 103 [] [] [vb,(.int .i64 ((1000002 :Nat):Int))] rfl rfl cf103 zN (c_impl_scaled _ _ _ _ (hb.ext g1 hE0) oM (by exact hlb) (by exact hqb) oM) ?_))))))
 rintro e1 w1 ⟨v1_0,rfl,hX1,hO1_0⟩
 refine ⟨_,rfl,hX1,?_⟩
 have hzs1:=hX1.size
 have hE1:=hE0.trans hX1
 refine lw_call 102 [] [] [va,v1_0] rfl rfl cf102 zN (c_impl_added _ _ _ _ _ (ha.ext g1 hE1) hO1_0.rd1 (by exact hla) (by simp; omega) (by exact hqa) (by exact sclS_num _ _)) ?_
 rintro e2 w2 ⟨v2_0,rfl,hX2,hO2_0⟩
 refine ⟨_,rfl,hX2,?_⟩
 have hzs2:=hX2.size
 have hE2:=hE1.trans hX2
 have hO1_0x2 := hO1_0.ext (o1) hX2
 exact lw_tvn 1 rfl (wp_ret (post_ret [4] rfl v2_0 rfl ⟨v2_0,rfl,hE2,(by rw [← red_eq hl]; exact (hO2_0.up o1).low hE1.size)⟩))
theorem c_impl_product (w : World) (va : Value) (a : List Int) (vb : Value) (b : List Int) (ha : Rd (rdL rI) w.heap va a) (hb : Rd (rdL rI) w.heap vb b) (hla : a.length ≤ 1000000000000) (hl : a.length ≤ b.length) (hqa : allN a = true) (hqb : allN b = true) :
  Calls Tryz.prog 151 #[va,vb] w (fun e w' => ∃ v0 : Value,e = .returned (v0) ∧ Ext w w' ∧ Fr (owL rI 2) w.heap.size w'.heap.size w'.heap v0 (proS a b)) := by
 refine calls_mk [va,vb] 43 Tryz.func151 rfl rfl sM ?_
 have hE0 : Ext w w := Ext.refl w
 have hl_va := ha.lenle
 have hl_vb := hb.lenle
 refine wp_seq (wp_plain _ [0] rfl (lw_tvn 1 rfl (wp_seq (wp_plain _ [0,0,3,0] rfl (lw_tv 1 rfl (q_len (v := va) u27 rfl ha.isSl zN (r_make (n := a.length) u27 ti2 rfl rfl rfl sD zN fun v1 w1 hX1 hz1 hO1 => ?_)))))))
 have hzs1:=hX1.size
 have hE1:=hE0.trans hX1
 refine lw_tvn 1 rfl (wp_seq (wp_seq (wp_plain _ [0,0,0] rfl (lw_tv 1 rfl (q_len (v := va) u27 rfl ha.isSl zN (lw_tvn 1 rfl (wp_block ?_)))))))
 refine c_loop (S := Nat) (fun (k : Nat) => ([(13,(.int .i64 ((k :Nat):Int))),(0,va),(1,vb),(5,v1),(12,(.int .i64 ((a.length :Nat):Int)))] : List (Nat × Value))) (fun (k : Nat) (W : World) => Ext w W ∧ Fr (owL rI 2) w.heap.size W.heap.size W.heap v1 (mix k (proS a b) (List.replicate a.length 0)) ∧ k ≤ a.length) (fun (k : Nat) => a.length - k) 0 ⟨rfl,rfl,rfl,rfl,rfl,trivial⟩ ⟨hE1,(by rw [mix_zero]; exact hO1.up o1),sD⟩ ?_
 clear hE0 hO1 hz1 hX1 hzs1 hE1
 rintro k ρ2 w2 ⟨hE2,hL2_0,hp2_0⟩
 have hzs2 : w.heap.size ≤ w2.heap.size := hE2.size
 have hml := mix_len k (proS a b) (List.replicate a.length 0) sM
 rw [List.length_replicate] at hml
 have hga := allN_get hqa k
 refine wp_seq (wp_plain _ [0] rfl ?_)
 by_cases hc3 : ((k :Nat):Int) < ((a.length :Nat):Int)
 ·
  refine q_lss true rfl rfl (decide_eq_true hc3) zN (lw_nil (wp_seq (c_cond_t rfl (wp_skip (wp_seq (wp_block (wp_seq (wp_plain _ [0,0] rfl (lw_tvn 2 rfl (wp_seq (wp_plain _ [0] rfl (lw_tvn 1 rfl (wp_block ?_)))))))))))))
  refine c_loop (S := Nat) (fun (i : Nat) => ([(7,(.int .i64 ((i :Nat):Int))),(0,va),(1,vb),(5,v1),(6,(.int .i64 ((k :Nat):Int))),(12,(.int .i64 ((a.length :Nat):Int))),(13,(.int .i64 ((k :Nat):Int)))] : List (Nat × Value))) (fun (i : Nat) (W : World) => Ext w W ∧ Fr (owL rI 2) w.heap.size W.heap.size W.heap v1 ((mix k (proS a b) (List.replicate a.length 0)).set k (prk a b k i)) ∧ i ≤ k + 1) (fun (i : Nat) => k + 1 - i) 0 ⟨rfl,rfl,rfl,rfl,rfl,rfl,rfl,trivial⟩ ⟨hE2,(by have h := hL2_0.up o1; rw [← mix_rep0 (T := proS a b) sM oM] at h; exact h),sD⟩ ?_
  clear hL2_0 hE2 hzs2
  rintro i ρ4 w4 ⟨hE4,hL4_0,hp4_0⟩
  have hzs4 : w.heap.size ≤ w4.heap.size := hE4.size
  have hms : ((mix k (proS a b) (List.replicate a.length 0)).set k (prk a b k i)).length = a.length := by rw [List.length_set]; exact hml
  refine wp_seq (wp_seq (wp_plain _ [0,0,0] rfl (lw_tv 2 rfl ?_)))
  by_cases hc5 : ((i :Nat):Int) ≤ ((k :Nat):Int)
  ·
   refine q_leq true rfl rfl (decide_eq_true hc5) zN (lw_nil (c_cond_t rfl (wp_skip (wp_seq (wp_block (wp_draw _ [0,0,0,0,0,1,0,0,0,1,0,0,0,0,0,1,0,0,0,0,4] mixed (by kernel_rfl) (lw_tv 4 rfl (q_idx (v := v1) k u27 ti2 rfl rfl hL4_0.isSl rfl sD zN ?_))))))))
   refine q_load (p := eptr v1 k 1) (.inl rfl) (.int .i64 (((mix k (proS a b) (List.replicate a.length 0)).set k (prk a b k i)).getD k 0)) one2 rfl (hL4_0.rd1.getI sD).1 zN (lw_tv 2 rfl ?_)
   refine q_idx (v := va) i u27 ti2 rfl rfl ha.isSl rfl sD zN ?_
   refine q_load (p := eptr va i 1) (.inl rfl) (.int .i64 (a.getD i 0)) one2 rfl (ldH_ext hE4.drew (ha.getI sD).1) zN (lw_tv 3 rfl (q_sub ((k - i :Nat):Int) rfl rfl (w64n oM oM) zN ?_))
   refine q_idx (v := vb) (k - i) u27 ti2 rfl rfl hb.isSl rfl sD zN ?_
   refine q_load (p := eptr vb (k - i) 1) (.inl rfl) (.int .i64 (b.getD (k - i) 0)) one2 rfl (ldH_ext hE4.drew (hb.getI sD).1) zN (q_mul (wr ((a.getD i 0) * (b.getD (k - i) 0))) rfl rfl rfl zN (q_add (wr ((((mix k (proS a b) (List.replicate a.length 0)).set k (prk a b k i)).getD k 0) + (wr ((a.getD i 0) * (b.getD (k - i) 0))))) rfl rfl rfl zN ?_))
   refine q_rem (md (prk a b k i + a.getD i 0 * b.getD (k - i) 0)) rfl rfl (by decide) (by rw [getD_set _ _ _ _ _ oM,if_pos rfl]; exact dot_eq (prk_num _ _ _ _) (allN_get hqa _) (allN_get hqb _)) zN (q_idx (v := v1) k u27 ti2 rfl rfl hL4_0.isSl rfl sD zN ?_)
   refine e_setI (v := v1) (w := w4.drew) sz2 rfl rfl (md_rng _) hL4_0 sD zN fun w6 F6 hC6 hz6 hF6 hO6 => ?_
   replace hC6 := hC6.of_drew
   have hE6 : Ext w w6 := hC6.below hE4 (fun c hc => Nat.le_trans (Nat.le_refl _) (hF6 c hc).1) hE4.size
   have hzs6:=hC6.size
   refine lw_nil (wp_plain _ [0,0,0] rfl (lw_tv 1 rfl (q_add ((i + 1 :Nat):Int) rfl rfl (w64n oM sD) zN (lw_tvn 1 rfl ?_))))
   exact ⟨(i + 1),_,rfl,⟨rfl,rfl,rfl,rfl,rfl,rfl,rfl,trivial⟩,⟨hE6,(by have h := hO6.up o1; rw [List.set_set] at h; exact h),sD⟩,by first | omega | (dsimp only; omega)⟩
  ·
   refine q_leq false rfl rfl (decide_eq_false hc5) zN (lw_nil (c_cond_f rfl (wp_exit (t_exit (t_exit (c_exit_here (wp_plain _ [0,0] rfl (q_add ((k + 1 :Nat):Int) rfl rfl (w64n oM sD) zN (lw_tvn 1 rfl ?_)))))))))
   exact ⟨(k + 1),_,rfl,⟨rfl,rfl,rfl,rfl,rfl,trivial⟩,⟨hE4,(by have h := hL4_0.up o1; rw [show i = k + 1 from by omega] at h; unfold proS; rw [mix_tab sM oM]; exact h),sD⟩,by first | omega | (dsimp only; omega)⟩
 ·
  exact q_lss false rfl rfl (decide_eq_false hc3) zN (lw_nil (wp_seq (c_cond_f rfl (wp_exit (t_exit (t_exit (c_exit_here (wp_seq (wp_plain _ [0,0] rfl (lw_tvn 2 rfl (wp_ret (post_ret [4] rfl v1 rfl ⟨v1,rfl,hE2,(by have h := hL2_0.up o1; rwa [mix_all sM (by simp; omega)] at h)⟩))))))))))))
theorem c_impl_quotient (w : World) (va : Value) (a : List Int) (vb : Value) (b : List Int) (ha : Rd (rdL rI) w.heap va a) (hb : Rd (rdL rI) w.heap vb b) (hla : a.length ≤ 1000000000000) (hl : a.length ≤ b.length) (h1 : 0 < b.length) (hqa : allN a = true) (hqb : allN b = true) :
  Calls Tryz.prog 185 #[va,vb] w (fun e w' => ∃ v0 : Value,e = .returned (v0) ∧ Ext w w' ∧ Fr (owL rI 2) w.heap.size w'.heap.size w'.heap v0 (quoS a b)) := by
 refine calls_mk [va,vb] 53 Tryz.func185 rfl rfl sM ?_
 have hE0 : Ext w w := Ext.refl w
 have hl_va := ha.lenle
 have hl_vb := hb.lenle
 refine wp_seq (wp_plain _ [0] rfl (lw_tvn 1 rfl (wp_seq (wp_draw _ [0,0,3,0,0,1,0,0,0] mixed (by kernel_rfl) (lw_tv 1 rfl (q_len (v := va) u27 rfl ha.isSl zN (r_make (n := a.length) u27 ti2 rfl rfl rfl sD zN fun v1 w1 hX1 hz1 hO1 => ?_)))))))
 replace hX1 := hX1.of_drew
 have hzs1:=hX1.size
 have hE1:=hE0.trans hX1
 refine lw_tv 1 rfl (q_idx (v := vb) 0 u27 ti2 rfl rfl hb.isSl rfl sD zN ?_)
 refine q_load (p := eptr vb 0 1) (.inl rfl) (.int .i64 (b.getD 0 0)) one2 rfl (ldH_ext hE0.drew (hb.getI sD).1) zN ?_
 refine lw_callq 104 [] [] [(.int .i64 (b.getD 0 0))] rfl rfl cf104 zN (.int .i64 (inv (b.getD 0 0))) (fun wq => c_impl_inverse wq _ (hb.getI sD).2) (lw_tvn 2 rfl (wp_seq (wp_seq (wp_plain _ [0,0,0] rfl (lw_tv 1 rfl (q_len (v := va) u27 rfl ha.isSl zN (lw_tvn 1 rfl (wp_block ?_))))))))
 refine c_loop (S := Nat) (fun (k : Nat) => ([(19,(.int .i64 ((k :Nat):Int))),(0,va),(1,vb),(5,v1),(6,(.int .i64 (inv (b.getD 0 0)))),(18,(.int .i64 ((a.length :Nat):Int)))] : List (Nat × Value))) (fun (k : Nat) (W : World) => Ext w W ∧ Fr (owL rI 2) w.heap.size W.heap.size W.heap v1 (mix k (quoS a b) (List.replicate a.length 0)) ∧ k ≤ a.length) (fun (k : Nat) => a.length - k) 0 ⟨rfl,rfl,rfl,rfl,rfl,rfl,trivial⟩ ⟨hE1,(by rw [mix_zero]; exact hO1.up o1),sD⟩ ?_
 clear hE0 hO1 hz1 hX1 hzs1 hE1
 rintro k ρ3 w3 ⟨hE3,hL3_0,hp3_0⟩
 have hzs3 : w.heap.size ≤ w3.heap.size := hE3.size
 have hml := mix_len k (quoS a b) (List.replicate a.length 0) sM
 rw [List.length_replicate] at hml
 have hga := allN_get hqa k
 refine wp_seq (wp_plain _ [0] rfl ?_)
 by_cases hc4 : ((k :Nat):Int) < ((a.length :Nat):Int)
 ·
  refine q_lss true rfl rfl (decide_eq_true hc4) zN (lw_nil (wp_seq (c_cond_t rfl (wp_skip (wp_seq (wp_block (wp_seq (wp_plain _ [0,0] rfl (lw_tvn 2 rfl (wp_seq (wp_plain _ [0,0,0,2,0] rfl (lw_tv 2 rfl (q_idx (v := va) k u27 ti2 rfl rfl ha.isSl rfl sD zN ?_)))))))))))))
  refine q_load (p := eptr va k 1) (.inr rfl) (.int .i64 (a.getD k 0)) one2 rfl (ldH_ext hE3 (ha.getI sD).1) zN (lw_tvn 1 rfl (wp_seq (wp_seq (wp_plain _ [0] rfl (lw_tvn 1 rfl (wp_block ?_))))))
  refine c_loop (S := Nat × Int) (fun (⟨i,t⟩ : Nat × Int) => ([(8,(.int .i64 t)),(9,(.int .i64 ((i :Nat):Int))),(0,va),(1,vb),(5,v1),(6,(.int .i64 (inv (b.getD 0 0)))),(7,(.int .i64 ((k :Nat):Int))),(18,(.int .i64 ((a.length :Nat):Int))),(19,(.int .i64 ((k :Nat):Int)))] : List (Nat × Value))) (fun (⟨i,t⟩ : Nat × Int) (W : World) => Ext w W ∧ Fr (owL rI 2) w.heap.size w3.heap.size W.heap v1 (mix k (quoS a b) (List.replicate a.length 0)) ∧ i ≤ k ∧ t = qrk a b (quoS a b) k i ∧ (0 ≤ t ∧ t < 1000003)) (fun (⟨i,t⟩ : Nat × Int) => k - i) (0,(a.getD k 0)) ⟨rfl,rfl,rfl,rfl,rfl,rfl,rfl,rfl,rfl,trivial⟩ ⟨hE3,hL3_0,sD,(by rfl),(by exact allN_get hqa k)⟩ ?_
  clear hL3_0
  rintro ⟨i,t⟩ ρ5 w5 ⟨hE5,hL5_0,hp5_0,ht,htr⟩
  have hzs5 : w.heap.size ≤ w5.heap.size := hE5.size
  refine wp_seq (wp_seq (wp_plain _ [0,0,0] rfl (lw_tv 2 rfl ?_)))
  by_cases hc6 : ((i :Nat):Int) < ((k :Nat):Int)
  ·
   refine q_lss true rfl rfl (decide_eq_true hc6) zN (lw_nil (c_cond_t rfl (wp_skip (wp_seq (wp_block (wp_draw _ [0,0,0,0,1,0,0,0,0,0,1,0,0,0] mixed (by kernel_rfl) (lw_tv 3 rfl (q_idx (v := v1) i u27 ti2 rfl rfl hL5_0.isSl rfl sD zN ?_))))))))
   refine q_load (p := eptr v1 i 1) (.inl rfl) (.int .i64 ((mix k (quoS a b) (List.replicate a.length 0)).getD i 0)) one2 rfl (hL5_0.rd1.getI sD).1 zN (lw_tv 3 rfl (q_sub ((k - i :Nat):Int) rfl rfl (w64n oM oM) zN ?_))
   refine q_idx (v := vb) (k - i) u27 ti2 rfl rfl hb.isSl rfl sD zN ?_
   refine q_load (p := eptr vb (k - i) 1) (.inl rfl) (.int .i64 (b.getD (k - i) 0)) one2 rfl (ldH_ext hE5.drew (hb.getI sD).1) zN (q_mul (wr (((mix k (quoS a b) (List.replicate a.length 0)).getD i 0) * (b.getD (k - i) 0))) rfl rfl rfl zN ?_)
   refine lw_callq 78 [] [] [(.int .i64 t),(.int .i64 (wr (((mix k (quoS a b) (List.replicate a.length 0)).getD i 0) * (b.getD (k - i) 0))))] rfl rfl cf78 zN (.int .i64 (md (t - (wr (((mix k (quoS a b) (List.replicate a.length 0)).getD i 0) * (b.getD (k - i) 0)))))) (fun wq => c_impl_minus wq _ _ oM (wr_rng _)) (lw_tvn 1 rfl (wp_plain _ [0,0,0] rfl (lw_tv 1 rfl (q_add ((i + 1 :Nat):Int) rfl rfl (w64n oM sD) zN (lw_tvn 1 rfl ?_)))))
   exact ⟨((i + 1),(md (t - (wr (((mix k (quoS a b) (List.replicate a.length 0)).getD i 0) * (b.getD (k - i) 0)))))),_,rfl,⟨rfl,rfl,rfl,rfl,rfl,rfl,rfl,rfl,rfl,trivial⟩,⟨hE5.drew,hL5_0,sD,(by rw [ht,mix_lt 0 oM (by simp; omega)]; exact quo_step (quoS_num a b) hqb),(by exact md_num _)⟩,by first | omega | (dsimp only; omega)⟩
  ·
   refine q_lss false rfl rfl (decide_eq_false hc6) zN (lw_nil (c_cond_f rfl (wp_exit (t_exit (t_exit (c_exit_here (wp_plain _ [0,0,0,0,0,0,0,4] rfl (lw_tv 4 rfl (q_mul (wr (t * (inv (b.getD 0 0)))) rfl rfl rfl zN (q_rem (md (t * inv (b.getD 0 0))) rfl rfl (by decide) (nm_eq htr (inv_num _)) zN (q_idx (v := v1) k u27 ti2 rfl rfl hL5_0.isSl rfl sD zN ?_)))))))))))
   refine e_setI (v := v1) (w := w5) sz2 rfl rfl (md_rng _) hL5_0 sD zN fun w8 F8 hC8 hz8 hF8 hO8 => ?_
   have hE8 : Ext w w8 := hC8.below hE5 (fun c hc => Nat.le_trans (Nat.le_refl _) (hF8 c hc).1) hE5.size
   have hzs8:=hC8.size
   refine lw_nil (wp_plain _ [0,0] rfl (q_add ((k + 1 :Nat):Int) rfl rfl (w64n oM sD) zN (lw_tvn 1 rfl ?_)))
   exact ⟨(k + 1),_,rfl,⟨rfl,rfl,rfl,rfl,rfl,rfl,trivial⟩,⟨hE8,(by have h := hO8.up o1; rw [ht,show i = k from by omega] at h; rw [← quo_set oM sM]; exact h),sD⟩,by first | omega | (dsimp only; omega)⟩
 ·
  exact q_lss false rfl rfl (decide_eq_false hc4) zN (lw_nil (wp_seq (c_cond_f rfl (wp_exit (t_exit (t_exit (c_exit_here (wp_seq (wp_plain _ [0,0] rfl (lw_tvn 2 rfl (wp_ret (post_ret [4] rfl v1 rfl ⟨v1,rfl,hE3,(by have h := hL3_0.up o1; rwa [mix_all sM (by simp; omega)] at h)⟩))))))))))))
theorem c_impl_firsts (w : World) (va : Value) (a : List (List Int)) (ha : Rd (rdL (rdL rI)) w.heap va a) (hla : a.length ≤ 1000000000000) (h1 : ∀ k,k < a.length → 0 < (a.getD k []).length) :
  Calls Tryz.prog 99 #[va] w (fun e w' => ∃ v0 : Value,e = .returned (v0) ∧ Ext w w' ∧ Fr (owL rI 2) w.heap.size w'.heap.size w'.heap v0 (a.map (fun s => s.getD 0 0))) := by
 refine calls_mk [va] 21 Tryz.func99 rfl rfl sM ?_
 have hE0 : Ext w w := Ext.refl w
 have hl_va := ha.lenle
 refine wp_seq (wp_plain _ [0] rfl (lw_tvn 1 rfl (wp_seq (wp_plain _ [3,0] rfl (r_nil (rI) good_rI u27 ti2 zN fun v1 w1 hX1 hz1 hO1 => ?_)))))
 have hzs1:=hX1.size
 have hE1:=hE0.trans hX1
 refine lw_tvn 1 rfl (wp_seq (wp_seq (wp_plain _ [0,0,0] rfl (lw_tv 1 rfl (q_len (v := va) u32 rfl ha.isSl zN (lw_tvn 1 rfl (wp_block ?_)))))))
 refine c_loop (S := Nat × Value) (fun (⟨k,vo⟩ : Nat × Value) => ([(3,vo),(9,(.int .i64 ((k :Nat):Int))),(7,va),(8,(.int .i64 ((a.length :Nat):Int)))] : List (Nat × Value))) (fun (⟨k,vo⟩ : Nat × Value) (W : World) => Ext w W ∧ Fr (owL rI 2) w.heap.size W.heap.size W.heap vo ((a.take k).map (fun s => s.getD 0 0)) ∧ k ≤ a.length) (fun (⟨k,vo⟩ : Nat × Value) => a.length - k) (0,v1) ⟨rfl,rfl,rfl,rfl,trivial⟩ ⟨hE1,hO1.up o1,sD⟩ ?_
 clear hE0 hO1 hz1 hX1 hzs1 hE1
 rintro ⟨k,vo⟩ ρ2 w2 ⟨hE2,hL2_0,hp2_0⟩
 have hzs2 : w.heap.size ≤ w2.heap.size := hE2.size
 refine wp_seq (wp_plain _ [0] rfl ?_)
 by_cases hc3 : ((k :Nat):Int) < ((a.length :Nat):Int)
 ·
  refine q_lss true rfl rfl (decide_eq_true hc3) zN (lw_nil (wp_seq (c_cond_t rfl (wp_skip (wp_seq (wp_block (wp_seq (wp_plain _ [0,2,0] rfl (q_idx (v := va) k u32 ti27 rfl rfl ha.isSl rfl sD zN ?_)))))))))
  obtain ⟨ue4,hl4,hd4⟩ := ha.get (k := k) [] sD
  have hln4 := hd4.lenle
  refine q_load (p := eptr va k 1) (.inr rfl) ue4 one27 rfl (ldH_ext hE2 hl4) zN (lw_tvn 1 rfl (wp_plain _ [0,0,0,2,3,4,0] rfl ?_))
  have hr1 := h1 k oM
  refine lw_tv 2 rfl (q_idx (v := ue4) 0 u27 ti2 rfl rfl hd4.isSl rfl sD zN ?_)
  refine q_load (p := eptr ue4 0 1) (.inr rfl) (.int .i64 ((a.getD k []).getD 0 0)) one2 rfl (ldH_ext hE2 (hd4.getI sD).1) zN ?_
  refine r_one (u := (.int .i64 ((a.getD k []).getD 0 0))) (B := w2.heap.size) good_rI u27 ti2 rfl rfl (frI w2.heap.size w2.heap.size _ _ (hd4.getI sD).2) (Nat.le_refl _) zN fun v5 w5 hX5 hz5 hO5 => ?_
  have hzs5:=hX5.size
  have hE5:=hE2.trans hX5
  have hL2_0x5 := hL2_0.ext (o1) hX5
  refine e_appI (v := vo) (a := v5) u27 ti2 rfl rfl rfl hL2_0x5 hE5.size hO5.rd1 sD (by unfold maxLen; first | omega | assumption | (simp; done) | (simp; omega)) zN fun v6 w6 F6 hC6 hF6 hO6 => ?_
  have hE6 : Ext w w6 := hC6.below hE5 (fun c hc => Nat.le_trans (Nat.le_refl _) (hF6 c hc).1) hE5.size
  have hzs6:=hC6.size
  have hF7 := hO5.chg (o1) hC6 (fun c hc => by have := hF6 c hc; omega)
  refine lw_tvn 1 rfl (wp_plain _ [0,0] rfl (q_add ((k + 1 :Nat):Int) rfl rfl (w64n oM sD) zN (lw_tvn 1 rfl ?_)))
  exact ⟨((k + 1),v6),_,rfl,⟨rfl,rfl,rfl,rfl,trivial⟩,⟨hE6,(by rw [map_snoc [] oM]; exact hO6.up o1),sD⟩,by first | omega | (dsimp only; omega)⟩
 ·
  exact q_lss false rfl rfl (decide_eq_false hc3) zN (lw_nil (wp_seq (c_cond_f rfl (wp_exit (t_exit (t_exit (c_exit_here (wp_seq (wp_plain _ [0,0] rfl (lw_tvn 2 rfl (wp_ret (post_ret [2] rfl vo rfl ⟨vo,rfl,hE2,(by have h := hL2_0.up o1; rwa [List.take_of_length_le oM] at h)⟩))))))))))))
end Go.Proofs.YtnokbaiemimhjaaGreat
namespace Go.Proofs.YtnokbaiemimhjaaGreat
open Go Go.RowKit
set_option linter.unusedVariables false
set_option linter.unusedSimpArgs false
set_option maxHeartbeats 4000000
set_option maxRecDepth 100000
attribute [local irreducible] LW
/-- What the program does when it evaluates an expression. -/
def PV (F d : Nat) : Prop := ∀ (w : World) (S : List Nat) (g : Nat) (vp : Value) (dp o s0 : Nat) (c0 : Int) (p : List Fn) (ve : Value) (ex : Ex) (vv : Value) (env : List (List Int)) (hS : ∀ b ∈ S, b < w.heap.size) (hgS : g ∈ S) (hB0 : BX w.heap g [vp, .int .i64 ((o : Nat) : Int), .int .i64 ((s0 : Nat) : Int), .int .i64 c0]) (hp : RP S dp w.heap vp p) (ho : o ≤ 12) (hs0 : s0 ≤ 3000) (hc0 : 0 ≤ c0 ∧ c0 ≤ 9) (hex : RX S d w.heap ve ex) (henv : RN S (rdL (rdL rI)) w.heap vv env) (hqenv : CapS vv)
  (hvp : VPr p) (hF : F ≤ p.length) (hwf : wf p ((F : Nat) : Int) ex ((env.length : Nat) : Int) = true) (hse : SrE (o + 1) env) (hdp : env.length + ex.deep ≤ 1000000),
  Calls Tryz.prog 199 #[.pointer (some ⟨g, 0, none⟩), .agg #[.int .i64 ex.kind, .int .i64 ex.num, .int .i64 ex.pick, .int .i64 ex.count, ve], vv] w (fun e w' => ∃ (v : Value) (x : List Int) (s1 : Nat) (c1 : Int), e = .returned v ∧ Chg [g] w w' ∧ BX w'.heap g [vp, .int .i64 ((o : Nat) : Int), .int .i64 ((s1 : Nat) : Int), .int .i64 c1] ∧ RN S (rdL rI) w'.heap v x ∧ Ser1 (o + 1) x ∧ s1 ≤ 3000 ∧ (0 ≤ c1 ∧ c1 ≤ 9) ∧ RelV (go c0 (evE (o + 1) (evC p (o + 1) F) ex env s0)) x s1 c1)
def PA (F d : Nat) : Prop := ∀ (w : World) (S : List Nat) (g : Nat) (vp : Value) (dp o s0 : Nat) (c0 : Int) (p : List Fn) (vl : Value) (l : List Ex) (vv : Value) (env : List (List Int)) (hS : ∀ b ∈ S, b < w.heap.size) (hgS : g ∈ S) (hB0 : BX w.heap g [vp, .int .i64 ((o : Nat) : Int), .int .i64 ((s0 : Nat) : Int), .int .i64 c0]) (hp : RP S dp w.heap vp p) (ho : o ≤ 12) (hs0 : s0 ≤ 3000) (hc0 : 0 ≤ c0 ∧ c0 ≤ 9) (hl : RN S (rdS 5 (rEx d)) w.heap vl l) (henv : RN S (rdL (rdL rI)) w.heap vv env) (hqenv : CapS vv)
  (hvp : VPr p) (hF : F ≤ p.length) (hwf : ∀ k, k < l.length → wf p ((F : Nat) : Int) (l.getD k Ex.zero) ((env.length : Nat) : Int) = true) (hse : SrE (o + 1) env) (hdp : ∀ k, k < l.length → env.length + (l.getD k Ex.zero).deep ≤ 1000000) (hll : l.length ≤ 1000000),
  Calls Tryz.prog 153 #[.pointer (some ⟨g, 0, none⟩), vl, vv] w (fun e w' => ∃ (v : Value) (x : List (List Int)) (s1 : Nat) (c1 : Int), e = .returned v ∧ Chg [g] w w' ∧ BX w'.heap g [vp, .int .i64 ((o : Nat) : Int), .int .i64 ((s1 : Nat) : Int), .int .i64 c1] ∧ RN S (rdL (rdL rI)) w'.heap v x ∧ (CapS v ∧ x.length = l.length ∧ SrE (o + 1) x) ∧ s1 ≤ 3000 ∧ (0 ≤ c1 ∧ c1 ≤ 9) ∧ RelV (go c0 (evs (o + 1) (evC p (o + 1) F) l env s0)) x s1 c1)
theorem c_slices_Clip_____int64___int64_ (w : World) (v : Value) (n : Nat) (hs : isSl v n) (hcs : CapS v)  :
  Calls Tryz.prog 233 #[v] w (fun e w' => e = .returned (clipV v) ∧ w' = w) := by
 refine calls_mk [v] 9 Tryz.func233 rfl rfl sM ?_
 have hE0 : w = w := rfl
 exact wp_seq (wp_plain _ [0] rfl (lw_tvn 1 rfl (wp_seq (wp_plain _ [0,0,0,0,0,0,0] rfl (lw_tv 2 rfl (q_len (v := v) u32 rfl hs zN (lw_tv 1 rfl (q_len (v := v) u32 rfl hs zN (q_clip (v := v) u32 ti27 rfl hs rfl rfl hcs zN (lw_tvn 1 rfl (wp_ret (post_ret [2] rfl (clipV v) rfl ⟨rfl,hE0⟩))))))))))))
theorem c_impl_evaluation_constant (w : World) (S : List Nat) (g : Nat) (vp : Value) (dp o s0 : Nat) (c0 : Int) (p : List Fn) (n : Int) (hS : ∀ b ∈ S,b < w.heap.size) (hgS : g ∈ S) (hB0 : BX w.heap g [vp,.int .i64 ((o :Nat):Int),.int .i64 ((s0 :Nat):Int),.int .i64 c0]) (hp : RP S dp w.heap vp p) (ho : o ≤ 12) (hs0 : s0 ≤ 3000) (hc0 : 0 ≤ c0 ∧ c0 ≤ 9) (_hn : -9223372036854775808 ≤ n ∧ n ≤ 9223372036854775807)  :
  Calls Tryz.prog 232 #[.pointer (some ⟨g,0,none⟩),.int .i64 n] w (fun e w' => ∃ v0 : Value,e = .returned (v0) ∧ Ext w w' ∧ Fr (owL rI 2) w.heap.size w'.heap.size w'.heap v0 (cst (o + 1) n)) := by
 refine calls_mk [.pointer (some ⟨g,0,none⟩),.int .i64 n] 16 Tryz.func232 rfl rfl sM ?_
 have hE0 : Ext w w := Ext.refl w
 have hl_vp := hp.lenle
 unfold maxLen at hl_vp
 have hgl := hB0.lt
 refine wp_seq (wp_plain _ [0] rfl (lw_tvn 1 rfl (wp_seq (wp_plain _ [0,0,0,2,0,3,0] rfl (lw_tv 1 rfl (q_nil rfl zN (q_fldP (p := (.pointer (some ⟨g,0,none⟩))) (b := g) (o := 0) 1 fd165_1 rfl rfl zN (q_load (p := (padd (.pointer (some ⟨g,0,none⟩)) 1)) (.inr rfl) (.int .i64 ((o :Nat):Int)) one3 rfl (hB0.ldp (i := 1) sM) zN (q_add ((o + 1 :Nat):Int) rfl rfl (w64n oM oM) zN ?_)))))))))
 refine r_make (n := o + 1) u27 ti2 rfl rfl rfl sD zN fun v1 w1 hX1 hz1 hO1 => ?_
 have hzs1:=hX1.size
 have hE1:=hE0.trans hX1
 have hB0x1 := hB0.ext hX1
 refine lw_tvn 1 rfl (wp_seq (wp_plain _ [0,0,0,4] rfl (lw_tv 2 rfl (q_idx (v := v1) 0 u27 ti2 rfl rfl hO1.isSl rfl sM zN (e_setI (v := v1) (w := w1) sz2 rfl rfl _hn hO1 sM zN fun w2 F2 hC2 hz2 hF2 hO2 => ?_)))))
 have hE2 : Ext w w2 := hC2.below hE1 (fun c hc => Nat.le_trans (Nat.le_refl _) (hF2 c hc).1) hE1.size
 have hzs2:=hC2.size
 have hF3 := hB0x1.chg hC2 (fun hm => by have := hF2 _ hm; omega)
 exact lw_nil (wp_seq (wp_plain _ [0,0] rfl (lw_tvn 2 rfl (wp_ret (post_ret [4] rfl v1 rfl ⟨v1,rfl,hE2,hO2.up o1⟩)))))
theorem c_impl_evaluation_all (w : World) (S : List Nat) (F : Nat) (g : Nat) (vp : Value) (dp o s0 : Nat) (c0 : Int) (p : List Fn) (dl : Nat) (vl : Value) (l : List Ex) (vv : Value) (env : List (List Int)) (hS : ∀ b ∈ S,b < w.heap.size) (hgS : g ∈ S) (hB0 : BX w.heap g [vp,.int .i64 ((o :Nat):Int),.int .i64 ((s0 :Nat):Int),.int .i64 c0]) (hp : RP S dp w.heap vp p) (ho : o ≤ 12) (hs0 : s0 ≤ 3000) (hc0 : 0 ≤ c0 ∧ c0 ≤ 9) (hl : RN S (rdS 5 (rEx dl)) w.heap vl l) (henv : RN S (rdL (rdL rI)) w.heap vv env) (hqenv : CapS vv) (hvp : VPr p) (hF : F ≤ p.length) (hwf : ∀ k,k < l.length → wf p ((F :Nat):Int) (l.getD k Ex.zero) ((env.length :Nat):Int) = true) (hse : SrE (o + 1) env) (hdp : ∀ k,k < l.length → env.length + (l.getD k Ex.zero).deep ≤ 1000000) (hll : l.length ≤ 1000000) (IHv : ∀ d',d' < dl → PV F d') :
  Calls Tryz.prog 153 #[.pointer (some ⟨g,0,none⟩),vl,vv] w (fun e w' => ∃ (v : Value) (x : List (List Int)) (s1 : Nat) (c1 : Int),e = .returned v ∧ Chg [g] w w' ∧ BX w'.heap g [vp,.int .i64 ((o :Nat):Int),.int .i64 ((s1 :Nat):Int),.int .i64 c1] ∧ RN S (rdL (rdL rI)) w'.heap v x ∧ (CapS v ∧ x.length = l.length ∧ SrE (o + 1) x) ∧ s1 ≤ 3000 ∧ (0 ≤ c1 ∧ c1 ≤ 9) ∧ RelV (go c0 (evs (o + 1) (evC p (o + 1) F) l env s0)) x s1 c1) := by
 refine calls_mk [.pointer (some ⟨g,0,none⟩),vl,vv] 26 Tryz.func153 rfl rfl sM ?_
 have hE0 : Chg [g] w w := Chg.refl [g] w
 have hl_vp := hp.lenle
 unfold maxLen at hl_vp
 have hl_vl := hl.lenle
 unfold maxLen at hl_vl
 have hl_vv := henv.lenL
 unfold maxLen at hl_vv
 have hgl := hB0.lt
 refine wp_seq (wp_plain _ [0] rfl (lw_tvn 1 rfl (wp_seq (wp_plain _ [3,0] rfl (r_nil rV good_rV u32 ti27 zN fun v1 w1 hX1 hz1 hO1 => ?_)))))
 have hzs1:=hX1.size
 have hE1 : Chg [g] w w1 := hE0.ext hX1
 have hB0x1 := hB0.ext hX1
 obtain ⟨us1,F1,hb1⟩ := Bld.nil (S := S) (hO1.low (B' := w.heap.size) (Nat.le_refl _))
 refine lw_tvn 1 rfl (wp_seq (wp_seq (wp_plain _ [0,0,0] rfl (lw_tv 1 rfl (q_len (v := vl) u53 rfl hl.isSl zN (lw_tvn 1 rfl (wp_block ?_)))))))
 refine c_loop (S := Nat × Value × List (List Int) × Nat × Int) (fun (⟨k,vo,xs,s9,c9⟩ : Nat × Value × List (List Int) × Nat × Int) => ([(7,vo),(13,(.int .i64 ((k :Nat):Int))),(0,(.pointer (some ⟨g,0,none⟩))),(2,vv),(11,vl),(12,(.int .i64 ((l.length :Nat):Int)))] : List (Nat × Value))) (fun (⟨k,vo,xs,s9,c9⟩ : Nat × Value × List (List Int) × Nat × Int) (W : World) => Chg [g] w W ∧ BX W.heap g [vp,.int .i64 ((o :Nat):Int),.int .i64 ((s9 :Nat):Int),.int .i64 c9] ∧ k ≤ l.length ∧ BldE 27 S w.heap.size W.heap vo xs ∧ xs.length = k ∧ SrE (o + 1) xs ∧ s9 ≤ 3000 ∧ (0 ≤ c9 ∧ c9 ≤ 9) ∧ RelV (go c0 (evs (o + 1) (evC p (o + 1) F) (l.take k) env s0)) xs s9 c9) (fun (⟨k,vo,xs,s9,c9⟩ : Nat × Value × List (List Int) × Nat × Int) => l.length - k) (0,v1,([] : List (List Int)),s0,c0) ⟨rfl,rfl,rfl,rfl,rfl,rfl,trivial⟩ ⟨hE1,hB0x1,sD,(by exact ⟨_,_,by assumption⟩),(by rfl),(by intro j hj; simp at hj),oM,oM,(by exact all_start _ _ _ _ _ _)⟩ ?_
 clear hE0 hO1 hz1 hX1 hzs1 hE1
 rintro ⟨k,vo,xs,s9,c9⟩ ρ2 w2 ⟨hE2,hL2_0,hp2_0,hbld,hxl,hxs,hp2_4,hp2_5,hrl⟩
 have hzs2 : w.heap.size ≤ w2.heap.size := hE2.size
 have hq3 := hL2_0.lt
 obtain ⟨us5,F5,hbl4⟩ := hbld
 refine wp_seq (wp_plain _ [0] rfl ?_)
 by_cases hc6 : ((k :Nat):Int) < ((l.length :Nat):Int)
 ·
  refine q_lss true rfl rfl (decide_eq_true hc6) zN (lw_nil (wp_seq (c_cond_t rfl (wp_skip (wp_seq (wp_block (wp_seq (wp_plain _ [0,2,3,4] rfl ?_))))))))
  have hkl : k < l.length := by omega
  refine q_idx (v := vl) k u53 tiS174 rfl rfl hl.isSl rfl sD zN ?_
  obtain ⟨cs7,hr7,hl7⟩ := hl.get (good_rEx dl) Ex.zero (k := k) sD
  obtain ⟨dd7,ve7,hd7,rfl,hx7⟩ := RX.of hr7
  have hln7 := hx7.rn.lenle
  unfold maxLen at hln7
  refine q_loadA (p := eptr vl k 5) (.inr rfl) [(.int .i64 ((l.getD k Ex.zero).kind)),(.int .i64 ((l.getD k Ex.zero).num)),(.int .i64 ((l.getD k Ex.zero).pick)),(.int .i64 ((l.getD k Ex.zero).count)),ve7] agg174 rfl (fun wq9 hw9 => hl7 wq9 ((hE2.sub (subS hgS)).ext hw9)) rfl zN ?_
  have hq9 := hL2_0.lt
  refine r_allocA (z := .agg #[.int .i64 0,.int .i64 0,.int .i64 0,.int .i64 0,.slice none 0 0]) zr174 zN fun w8 hX8 hz8 hB8 => ?_
  have hzs8:=hX8.size
  have hE8 : Chg [g] w w8 := hE2.ext hX8
  have hL2_0x8 := hL2_0.ext hX8
  have hN10 := hbl4.ext hX8
  replace hB8 : BX w8.heap w2.heap.size [(.int .i64 0),(.int .i64 0),(.int .i64 0),(.int .i64 0),(.slice none 0 0)] := hB8
  refine e_setA (vs := [(.int .i64 ((l.getD k Ex.zero).kind)),(.int .i64 ((l.getD k Ex.zero).num)),(.int .i64 ((l.getD k Ex.zero).pick)),(.int .i64 ((l.getD k Ex.zero).count)),ve7]) agg174 rfl rfl hx7.ones hB8 rfl rfl zN fun w11 hC11 hz11 hB11 => ?_
  replace hB11 : BX w11.heap w2.heap.size [(.int .i64 ((l.getD k Ex.zero).kind)),(.int .i64 ((l.getD k Ex.zero).num)),(.int .i64 ((l.getD k Ex.zero).pick)),(.int .i64 ((l.getD k Ex.zero).count)),ve7] := hB11
  have hE11 : Chg [g] w w11 := hE8.fresh hC11 (fun c hc => by have := List.mem_singleton.1 hc; omega)
  have hzs11:=hC11.size
  have hF12 := hL2_0x8.chg hC11 (fun hm => by have := List.mem_singleton.1 hm; omega)
  have hN13 := hbl4.ext (hC11.below hX8 (fun c hc => by have := List.mem_singleton.1 hc; omega) hX8.size)
  refine lw_nil (wp_plain _ [0,0,2,0,4,3,4,0] rfl (lw_tv 2 rfl (q_loadA (p := (.pointer (some ⟨w2.heap.size,0,none⟩))) (.inr rfl) [(.int .i64 ((l.getD k Ex.zero).kind)),(.int .i64 ((l.getD k Ex.zero).num)),(.int .i64 ((l.getD k Ex.zero).pick)),(.int .i64 ((l.getD k Ex.zero).count)),ve7] agg174 rfl (fun wq9 hw9 => LD.of_box (BX.ext (w := w11) hB11 hw9)) rfl zN (lw_tv 1 rfl ?_))))
  refine lw_callE 199 [] [] [(.pointer (some ⟨g,0,none⟩)),(.agg #[(.int .i64 ((l.getD k Ex.zero).kind)),(.int .i64 ((l.getD k Ex.zero).num)),(.int .i64 ((l.getD k Ex.zero).pick)),(.int .i64 ((l.getD k Ex.zero).count)),ve7]),vv] rfl rfl cf199 zN (IHv dd7 oM _ (S ++ F5) g vp dp (o) (s9) (c9) (p) ve7 (l.getD k Ex.zero) vv (env) (fun b hb => (by rcases List.mem_append.1 hb with hb | hb; (have := hS b hb; omega); exact hN13.lt b hb : b < w11.heap.size)) (List.mem_append_left _ hgS) hF12 ((hp.add (F := F5) (good_rdS (good_rFn dp)) hN13.low).chg (good_rdS (good_rFn dp)) (hE11.sub (subA hgS))) oM oM oM ⟨hx7.rng,((hx7.rn.add (F := F5) (good_rdS (good_rEx dd7)) hN13.low).chg (good_rdS (good_rEx dd7)) (hE11.sub (subA hgS)))⟩ ((henv.add (F := F5) g2 hN13.low).chg g2 (hE11.sub (subA hgS))) hqenv (by exact hvp) oM (by exact hwf k hkl) (by exact hse) (by exact hdp k hkl)) ?_
  rintro e14 w14 ⟨v14,x14,s14,c14,rfl,hC14,hB14,hr14,hse14,hsb14,hcb14,hrl14⟩
  refine ⟨_,rfl,?_⟩
  have hzs14:=hC14.size
  have hE14 : Chg [g] w w14 := hE11.trans hC14
  have hF19 := hB11.chg hC14 (fun hm => by have := List.mem_singleton.1 hm; omega)
  have hF20 := hN13.run hgS oM hC14
  have hsn14 := hse14.1
  replace hr14 : RN (S ++ F5) (rdL rI) w14.heap v14 x14 := hr14
  refine r_one (u := v14) (B := w14.heap.size) good_rV u32 ti27 rfl rfl (frV w14.heap.size w14.heap.size _ (hr14.one1 g1)) (Nat.le_refl _) zN fun v21 w21 hX21 hz21 hO21 => ?_
  have hzs21:=hX21.size
  have hE21 : Chg [g] w w21 := hE14.ext hX21
  have hB14x21 := hB14.ext hX21
  have hF19x21 := hF19.ext hX21
  have hN22 := hF20.ext hX21
  have hN23 := hr14.ext g1 hX21
  refine e_appB (v := vo) (a := v21) (u := v14) u32 ti27 rfl rfl rfl hN22 oM hO21 hN23 sD (by unfold maxLen; first | omega | assumption | (simp; done) | (simp; omega)) zN ?_
  rintro v24 w24 G24 hC24 hF24 ⟨us24,F24,hb24⟩
  have hzs24:=hC24.size
  have hE24 : Chg [g] w w24 := hE21.fresh hC24 (fun c hc => hN22.low c (hF24 c hc))
  have hF25 := hB14x21.chg hC24 (fun hm => by have := hN22.low _ (hF24 _ hm); have := hN22.lt _ (hF24 _ hm); omega)
  refine lw_tvn 1 rfl (wp_plain _ [0,0] rfl (q_add ((k + 1 :Nat):Int) rfl rfl (w64n oM sD) zN (lw_tvn 1 rfl ?_)))
  exact ⟨((k + 1),v24,(xs ++ [x14]),s14,c14),_,rfl,⟨rfl,rfl,rfl,rfl,rfl,rfl,trivial⟩,⟨hE24,hF25,sD,(by exact ⟨_,_,by assumption⟩),(by rw [List.length_append,List.length_singleton,hxl]),(by exact SrE.snoc hxs (by assumption)),oM,oM,(by exact rel_snoc oM hrl (by assumption))⟩,by first | omega | (dsimp only; omega)⟩
 ·
  exact q_lss false rfl rfl (decide_eq_false hc6) zN (lw_nil (wp_seq (c_cond_f rfl (wp_exit (t_exit (t_exit (c_exit_here (wp_seq (wp_plain _ [0,0] rfl (lw_tvn 2 rfl (wp_ret (post_ret [6] rfl vo rfl ⟨vo,xs,s9,c9,rfl,hE2,hL2_0,(hbl4.done hS),(by exact ⟨hbl4.cap,by omega,hxs⟩),oM,oM,(by rw [List.take_of_length_le oM] at hrl; exact hrl)⟩))))))))))))
theorem c_all (F d : Nat) (IH : ∀ d',d' < d → PV F d') : PA F d := by
 intro w S g vp dp o s0 c0 p vl l vv env hS hgS hB0 hp ho hs0 hc0 hl henv hqenv hvp hF hwf hse hdp hll
 exact c_impl_evaluation_all w S F g vp dp o s0 c0 p d vl l vv env hS hgS hB0 hp ho hs0 hc0 hl henv hqenv hvp hF hwf hse hdp hll IH
theorem z199_0 {p : Prop} (h : p := by first | exact rel_code oM | exact rel_budget oM oM | exact rel_num hc00 hs1 oM | exact rel_var hc00 hs1 oM | exact rel_if0 hc00 hs1 oM oM ‹RelV (go c0 (evE _ _ (ex.kids.getD 0 _) _ _)) _ _ _› oM (by assumption) | exact rel_if1 hc00 hs1 oM oM ‹RelV (go c0 (evE _ _ (ex.kids.getD 0 _) _ _)) _ _ _› oM (by assumption) | exact rel_let hc00 hs1 oM oM ‹RelV (go c0 (evE _ _ (ex.kids.getD 0 _) _ _)) _ _ _› (by assumption) | exact rel_kidsE hc00 hs1 hkg.1 hkg.2.1 hkg.2.2.1 hkg.2.2.2 hKr oM | exact rel_call hc00 hs1 oM oM hKr oM (by assumption) | exact rel_loop hc00 hs1 oM oM hKr oM (rel_stop hrl9 oM oM) | exact rel_op hc00 hs1 hkg.1 hkg.2.1 hkg.2.2.1 hkg.2.2.2 oM oM hKr oM (by rw [show c66 = 0 from by omega]; exact op_add oM) | exact rel_op hc00 hs1 hkg.1 hkg.2.1 hkg.2.2.1 hkg.2.2.2 oM oM hKr oM (by rw [show c66 = 0 from by omega]; exact op_sub oM) | exact rel_op hc00 hs1 hkg.1 hkg.2.1 hkg.2.2.1 hkg.2.2.2 oM oM hKr oM (by rw [show c66 = 0 from by omega]; exact op_mul oM) | exact rel_op hc00 hs1 hkg.1 hkg.2.1 hkg.2.2.1 hkg.2.2.2 oM oM hKr oM (by rw [show c66 = 0 from by omega]; exact op_neg oM) | exact rel_op hc00 hs1 hkg.1 hkg.2.1 hkg.2.2.1 hkg.2.2.2 oM oM hKr oM (by rw [show c66 = 0 from by omega]; exact op_div oM oM) | exact rel_op hc00 hs1 hkg.1 hkg.2.1 hkg.2.2.1 hkg.2.2.2 oM oM hKr oM (op_div0 oM oM)) : p := h
theorem z199_1 {p : Prop} (h : p := by first | exact rel_code oM | exact rel_budget oM oM | exact rel_num hc00 hs1 oM | exact rel_var hc00 hs1 oM | exact rel_if0 hc00 hs1 oM oM ‹RelV (go c0 (evE _ _ (ex.kids.getD 0 _) _ _)) _ _ _› oM (by assumption) | exact rel_if1 hc00 hs1 oM oM ‹RelV (go c0 (evE _ _ (ex.kids.getD 0 _) _ _)) _ _ _› oM (by assumption) | exact rel_let hc00 hs1 oM oM ‹RelV (go c0 (evE _ _ (ex.kids.getD 0 _) _ _)) _ _ _› (by assumption) | exact rel_kidsE hc00 hs1 hkg.1 hkg.2.1 hkg.2.2.1 hkg.2.2.2 hKr oM | exact rel_call hc00 hs1 oM oM hKr oM (by assumption) | exact rel_loop hc00 hs1 oM oM hKr oM (rel_stop hrl9 oM oM) | exact rel_op hc00 hs1 hkg.1 hkg.2.1 hkg.2.2.1 hkg.2.2.2 oM oM hKr oM (by rw [show c0 = 0 from by omega]; exact op_add oM) | exact rel_op hc00 hs1 hkg.1 hkg.2.1 hkg.2.2.1 hkg.2.2.2 oM oM hKr oM (by rw [show c0 = 0 from by omega]; exact op_sub oM) | exact rel_op hc00 hs1 hkg.1 hkg.2.1 hkg.2.2.1 hkg.2.2.2 oM oM hKr oM (by rw [show c0 = 0 from by omega]; exact op_mul oM) | exact rel_op hc00 hs1 hkg.1 hkg.2.1 hkg.2.2.1 hkg.2.2.2 oM oM hKr oM (by rw [show c0 = 0 from by omega]; exact op_neg oM) | exact rel_op hc00 hs1 hkg.1 hkg.2.1 hkg.2.2.1 hkg.2.2.2 oM oM hKr oM (by rw [show c0 = 0 from by omega]; exact op_div oM oM) | exact rel_op hc00 hs1 hkg.1 hkg.2.1 hkg.2.2.1 hkg.2.2.2 oM oM hKr oM (op_div0 oM oM)) : p := h
theorem z199_2 {p : Prop} (h : p := by first | exact rel_code oM | exact rel_budget oM oM | exact rel_num hc00 hs1 oM | exact rel_var hc00 hs1 oM | exact rel_if0 hc00 hs1 oM oM ‹RelV (go c0 (evE _ _ (ex.kids.getD 0 _) _ _)) _ _ _› oM (by assumption) | exact rel_if1 hc00 hs1 oM oM ‹RelV (go c0 (evE _ _ (ex.kids.getD 0 _) _ _)) _ _ _› oM (by assumption) | exact rel_let hc00 hs1 oM oM ‹RelV (go c0 (evE _ _ (ex.kids.getD 0 _) _ _)) _ _ _› (by assumption) | exact rel_kidsE hc00 hs1 hkg.1 hkg.2.1 hkg.2.2.1 hkg.2.2.2 hKr oM | exact rel_call hc00 hs1 oM oM hKr oM (by assumption) | exact rel_loop hc00 hs1 oM oM hKr oM (rel_stop hrl9 oM oM) | exact rel_op hc00 hs1 hkg.1 hkg.2.1 hkg.2.2.1 hkg.2.2.2 oM oM hKr oM (by rw [show c9 = 0 from by omega]; exact op_add oM) | exact rel_op hc00 hs1 hkg.1 hkg.2.1 hkg.2.2.1 hkg.2.2.2 oM oM hKr oM (by rw [show c9 = 0 from by omega]; exact op_sub oM) | exact rel_op hc00 hs1 hkg.1 hkg.2.1 hkg.2.2.1 hkg.2.2.2 oM oM hKr oM (by rw [show c9 = 0 from by omega]; exact op_mul oM) | exact rel_op hc00 hs1 hkg.1 hkg.2.1 hkg.2.2.1 hkg.2.2.2 oM oM hKr oM (by rw [show c9 = 0 from by omega]; exact op_neg oM) | exact rel_op hc00 hs1 hkg.1 hkg.2.1 hkg.2.2.1 hkg.2.2.2 oM oM hKr oM (by rw [show c9 = 0 from by omega]; exact op_div oM oM) | exact rel_op hc00 hs1 hkg.1 hkg.2.1 hkg.2.2.1 hkg.2.2.2 oM oM hKr oM (op_div0 oM oM)) : p := h
theorem z199_3 {p : Prop} (h : p := by first | assumption | exact cst_ser (by decide) | exact cst_ser (isN_iff.2 oM) | exact hse _ oM | exact hks _ oM | exact addS_ser hK0 | exact redS_ser hK0 | exact proS_ser hK0 | exact sclS_ser hK0 | exact quoS_ser hK0) : p := h
theorem z199_4 {p : Prop} (h : p := by have := hK0.1; have := hK1.1; omega) : p := h
theorem z199_5 {p : Prop} (h : p := by have := hK0.1; omega) : p := h
theorem c_impl_evaluation_value (w : World) (S : List Nat) (F : Nat) (g : Nat) (vp : Value) (dp o s0 : Nat) (c0 : Int) (p : List Fn) (dex : Nat) (ve : Value) (ex : Ex) (vv : Value) (env : List (List Int)) (hS : ∀ b ∈ S,b < w.heap.size) (hgS : g ∈ S) (hB0 : BX w.heap g [vp,.int .i64 ((o :Nat):Int),.int .i64 ((s0 :Nat):Int),.int .i64 c0]) (hp : RP S dp w.heap vp p) (ho : o ≤ 12) (hs0 : s0 ≤ 3000) (hc0 : 0 ≤ c0 ∧ c0 ≤ 9) (hex : RX S dex w.heap ve ex) (henv : RN S (rdL (rdL rI)) w.heap vv env) (hqenv : CapS vv) (hvp : VPr p) (hF : F ≤ p.length) (hwf : wf p ((F :Nat):Int) ex ((env.length :Nat):Int) = true) (hse : SrE (o + 1) env) (hdp : env.length + ex.deep ≤ 1000000) (IH1 : ∀ F',F' < F → ∀ d,PV F' d) (IH2 : ∀ d',d' < dex → PV F d') :
  Calls Tryz.prog 199 #[.pointer (some ⟨g,0,none⟩),(.agg #[(.int .i64 ex.kind),(.int .i64 ex.num),(.int .i64 ex.pick),(.int .i64 ex.count),ve]),vv] w (fun e w' => ∃ (v : Value) (x : List Int) (s1 : Nat) (c1 : Int),e = .returned v ∧ Chg [g] w w' ∧ BX w'.heap g [vp,.int .i64 ((o :Nat):Int),.int .i64 ((s1 :Nat):Int),.int .i64 c1] ∧ RN S (rdL rI) w'.heap v x ∧ Ser1 (o + 1) x ∧ s1 ≤ 3000 ∧ (0 ≤ c1 ∧ c1 ≤ 9) ∧ RelV (go c0 (evE (o + 1) (evC p (o + 1) F) ex env s0)) x s1 c1) := by
 refine calls_mk [.pointer (some ⟨g,0,none⟩),(.agg #[(.int .i64 ex.kind),(.int .i64 ex.num),(.int .i64 ex.pick),(.int .i64 ex.count),ve]),vv] 210 Tryz.func199 rfl rfl sM ?_
 have hE0 : Chg [g] w w := Chg.refl [g] w
 have hl_vp := hp.lenle
 unfold maxLen at hl_vp
 have hl_ve := hex.rn.lenle
 unfold maxLen at hl_ve
 have hl_vv := henv.lenL
 unfold maxLen at hl_vv
 have hgl := hB0.lt
 have hdk := deep_kids ex
 refine wp_seq (wp_plain _ [3,0] rfl ?_)
 have hq2 := hB0.lt
 refine r_boxA (cs := #[(.int .i64 ex.kind),(.int .i64 ex.num),(.int .i64 ex.pick),(.int .i64 ex.count),ve]) rfl zN fun w1 hX1 hz1 hB1 => ?_
 have hzs1:=hX1.size
 have hE1 : Chg [g] w w1 := hE0.ext hX1
 have hB0x1 := hB0.ext hX1
 replace hB1 : BX w1.heap w.heap.size [(.int .i64 ex.kind),(.int .i64 ex.num),(.int .i64 ex.pick),(.int .i64 ex.count),ve] := hB1
 refine lw_tvn 1 rfl (wp_seq (wp_seq (wp_plain _ [0,0,0,2,0] rfl (lw_tv 1 rfl (q_nil rfl zN (q_fldP (p := (.pointer (some ⟨g,0,none⟩))) (b := g) (o := 0) 3 fd165_3 rfl rfl zN (q_load (p := (padd (.pointer (some ⟨g,0,none⟩)) 3)) (.inr rfl) (.int .i64 c0) one2 rfl (hB0x1.ldp (i := 3) sM) zN ?_)))))))
 by_cases hc3 : c0 ≠ ((0 :Nat):Int)
 ·
  refine q_neq true rfl rfl (decide_eq_true hc3) zN (lw_nil (c_cond_t rfl (wp_seq (wp_plain _ [0,3,0] rfl (lw_tv 1 rfl (lw_call 232 [] [] [(.pointer (some ⟨g,0,none⟩)),(.int .i64 ((0 :Nat):Int))] rfl rfl cf232 zN (c_impl_evaluation_constant _ S g vp dp (o) (s0) (c0) (p) _ (fun b hb => (by have := hS b hb; omega : b < w1.heap.size)) hgS hB0x1 (hp.chg (good_rdS (good_rFn dp)) (hE1.sub (subS hgS))) oM oM oM oM) ?_))))))
  rintro e4 w4 ⟨v4_0,rfl,hX4,hO4_0⟩
  refine ⟨_,rfl,hX4,?_⟩
  have hzs4:=hX4.size
  have hE4 : Chg [g] w w4 := hE1.ext hX4
  have hB0x4 := hB0x1.ext hX4
  have hB1x4 := hB1.ext hX4
  refine lw_tvn 1 rfl (wp_ret (t_ret ?_))
  exact post_ret [6] rfl v4_0 rfl ⟨v4_0,cst (o + 1) ((0 :Nat):Int),s0,c0,rfl,hE4,hB0x4,(RN.of_fr1 hO4_0 (fun b hb => by have := hS b hb; omega)),z199_3,oM,oM,z199_1⟩
 ·
  refine q_neq false rfl rfl (decide_eq_false hc3) zN (lw_nil (c_cond_f rfl (wp_skip (wp_seq (wp_seq (wp_plain _ [0,0,0,2,0] rfl (lw_tv 1 rfl (q_nil rfl zN (q_fldP (p := (.pointer (some ⟨g,0,none⟩))) (b := g) (o := 0) 2 fd165_2 rfl rfl zN (q_load (p := (padd (.pointer (some ⟨g,0,none⟩)) 2)) (.inr rfl) (.int .i64 ((s0 :Nat):Int)) one2 rfl (hB0x1.ldp (i := 2) sM) zN ?_))))))))))
  by_cases hc5 : ((s0 :Nat):Int) = ((3000 :Nat):Int)
  ·
   refine q_eql true rfl rfl (decide_eq_true hc5) zN (lw_nil (c_cond_t rfl (wp_seq (wp_plain _ [0,0,0,4] rfl (lw_tv 1 rfl (q_nil rfl zN (q_fldP (p := (.pointer (some ⟨g,0,none⟩))) (b := g) (o := 0) 3 fd165_3 rfl rfl zN (e_setB (k := 3) (w := w1) sz2 rfl rfl ⟨rfl,rfl⟩ hB0x1 sM zN fun w6 hC6 hz6 hB6 => ?_))))))))
   replace hB6 : BX w6.heap g [vp,(.int .i64 ((o :Nat):Int)),(.int .i64 ((s0 :Nat):Int)),(.int .i64 ((7 :Nat):Int))] := hB6
   have hE6 : Chg [g] w w6 := hE1.trans hC6
   have hzs6:=hC6.size
   have hF7 := hB1.chg hC6 (fun hm => by have := List.mem_singleton.1 hm; omega)
   refine lw_nil (wp_seq (wp_plain _ [0,3,0] rfl (lw_tv 1 rfl (lw_call 232 [] [] [(.pointer (some ⟨g,0,none⟩)),(.int .i64 ((0 :Nat):Int))] rfl rfl cf232 zN (c_impl_evaluation_constant _ S g vp dp (o) (s0) (((7 :Nat):Int)) (p) _ (fun b hb => (by have := hS b hb; omega : b < w6.heap.size)) hgS hB6 (hp.chg (good_rdS (good_rFn dp)) (hE6.sub (subS hgS))) oM oM oM oM) ?_))))
   rintro e8 w8 ⟨v8_0,rfl,hX8,hO8_0⟩
   refine ⟨_,rfl,hX8,?_⟩
   have hzs8:=hX8.size
   have hE8 : Chg [g] w w8 := hE6.ext hX8
   have hB6x8 := hB6.ext hX8
   have hF7x8 := hF7.ext hX8
   refine lw_tvn 1 rfl (wp_ret (t_ret ?_))
   exact post_ret [6] rfl v8_0 rfl ⟨v8_0,cst (o + 1) ((0 :Nat):Int),s0,((7 :Nat):Int),rfl,hE8,hB6x8,(RN.of_fr1 hO8_0 (fun b hb => by have := hS b hb; omega)),z199_3,oM,oM,(by first | exact rel_code oM | exact rel_budget oM oM | exact rel_num hc00 hs1 oM | exact rel_var hc00 hs1 oM | exact rel_if0 hc00 hs1 oM oM ‹RelV (go c0 (evE _ _ (ex.kids.getD 0 _) _ _)) _ _ _› oM (by assumption) | exact rel_if1 hc00 hs1 oM oM ‹RelV (go c0 (evE _ _ (ex.kids.getD 0 _) _ _)) _ _ _› oM (by assumption) | exact rel_let hc00 hs1 oM oM ‹RelV (go c0 (evE _ _ (ex.kids.getD 0 _) _ _)) _ _ _› (by assumption) | exact rel_kidsE hc00 hs1 hkg.1 hkg.2.1 hkg.2.2.1 hkg.2.2.2 hKr oM | exact rel_call hc00 hs1 oM oM hKr oM (by assumption) | exact rel_loop hc00 hs1 oM oM hKr oM (rel_stop hrl9 oM oM) | exact rel_op hc00 hs1 hkg.1 hkg.2.1 hkg.2.2.1 hkg.2.2.2 oM oM hKr oM (by rw [show ((7 :Nat):Int) = 0 from by omega]; exact op_add oM) | exact rel_op hc00 hs1 hkg.1 hkg.2.1 hkg.2.2.1 hkg.2.2.2 oM oM hKr oM (by rw [show ((7 :Nat):Int) = 0 from by omega]; exact op_sub oM) | exact rel_op hc00 hs1 hkg.1 hkg.2.1 hkg.2.2.1 hkg.2.2.2 oM oM hKr oM (by rw [show ((7 :Nat):Int) = 0 from by omega]; exact op_mul oM) | exact rel_op hc00 hs1 hkg.1 hkg.2.1 hkg.2.2.1 hkg.2.2.2 oM oM hKr oM (by rw [show ((7 :Nat):Int) = 0 from by omega]; exact op_neg oM) | exact rel_op hc00 hs1 hkg.1 hkg.2.1 hkg.2.2.1 hkg.2.2.2 oM oM hKr oM (by rw [show ((7 :Nat):Int) = 0 from by omega]; exact op_div oM oM) | exact rel_op hc00 hs1 hkg.1 hkg.2.1 hkg.2.2.1 hkg.2.2.2 oM oM hKr oM (op_div0 oM oM))⟩
  ·
   refine q_eql false rfl rfl (decide_eq_false hc5) zN (lw_nil (c_cond_f rfl (wp_skip (wp_seq (wp_plain _ [0,0,0,2,0,0,0,4] rfl (lw_tv 1 rfl (q_nil rfl zN (q_fldP (p := (.pointer (some ⟨g,0,none⟩))) (b := g) (o := 0) 2 fd165_2 rfl rfl zN (q_load (p := (padd (.pointer (some ⟨g,0,none⟩)) 2)) (.inr rfl) (.int .i64 ((s0 :Nat):Int)) one2 rfl (hB0x1.ldp (i := 2) sM) zN (q_add ((s0 + 1 :Nat):Int) rfl rfl (w64n oM oM) zN (q_nil rfl zN (q_fldP (p := (.pointer (some ⟨g,0,none⟩))) (b := g) (o := 0) 2 fd165_2 rfl rfl zN (e_setB (k := 2) (w := w1) sz2 rfl rfl ⟨rfl,rfl⟩ hB0x1 sM zN fun w9 hC9 hz9 hB9 => ?_)))))))))))))
   replace hB9 : BX w9.heap g [vp,(.int .i64 ((o :Nat):Int)),(.int .i64 ((s0 + 1 :Nat):Int)),(.int .i64 c0)] := hB9
   have hE9 : Chg [g] w w9 := hE1.trans hC9
   have hzs9:=hC9.size
   have hF10 := hB1.chg hC9 (fun hm => by have := List.mem_singleton.1 hm; omega)
   refine lw_nil (wp_seq (wp_seq (wp_plain _ [0,2] rfl ?_)))
   have hc00 : c0 = 0 := by omega
   have hs1 : s0 + 1 ≤ 3000 := by omega
   refine q_fldP (p := (.pointer (some ⟨w.heap.size,0,none⟩))) (b := w.heap.size) (o := 0) 0 fd174_0 rfl rfl zN (q_load (p := (padd (.pointer (some ⟨w.heap.size,0,none⟩)) 0)) (.inr rfl) (.int .i64 ex.kind) one2 rfl (hF10.ldp (i := 0) sM) zN (lw_nil (wp_block (wp_seq (wp_plain _ [0,0] rfl ?_)))))
   by_cases hc11 : ex.kind = ((1 :Nat):Int)
   ·
    refine q_eql true rfl rfl (decide_eq_true hc11) zN (lw_tvn 1 rfl (c_cond_t rfl (wp_seq (wp_plain _ [0,0,2,3,0] rfl ?_))))
    have hwk := wk_num hwf oM
    refine lw_tv 1 rfl (q_fldP (p := (.pointer (some ⟨w.heap.size,0,none⟩))) (b := w.heap.size) (o := 0) 1 fd174_1 rfl rfl zN (q_load (p := (padd (.pointer (some ⟨w.heap.size,0,none⟩)) 1)) (.inr rfl) (.int .i64 ex.num) one2 rfl (hF10.ldp (i := 1) sM) zN (lw_call 232 [] [] [(.pointer (some ⟨g,0,none⟩)),(.int .i64 ex.num)] rfl rfl cf232 zN (c_impl_evaluation_constant _ S g vp dp (o) (s0 + 1) (c0) (p) _ (fun b hb => (by have := hS b hb; omega : b < w9.heap.size)) hgS hB9 (hp.chg (good_rdS (good_rFn dp)) (hE9.sub (subS hgS))) oM oM oM hex.rng.num) ?_)))
    rintro e12 w12 ⟨v12_0,rfl,hX12,hO12_0⟩
    refine ⟨_,rfl,hX12,?_⟩
    have hzs12:=hX12.size
    have hE12 : Chg [g] w w12 := hE9.ext hX12
    have hB9x12 := hB9.ext hX12
    have hF10x12 := hF10.ext hX12
    refine lw_tvn 1 rfl (wp_ret (b_ret (t_ret ?_)))
    exact post_ret [6] rfl v12_0 rfl ⟨v12_0,cst (o + 1) ex.num,s0 + 1,c0,rfl,hE12,hB9x12,(RN.of_fr1 hO12_0 (fun b hb => by have := hS b hb; omega)),z199_3,oM,oM,z199_1⟩
   ·
    refine q_eql false rfl rfl (decide_eq_false hc11) zN (lw_tvn 1 rfl (c_cond_f rfl (wp_seq (wp_plain _ [0,0] rfl ?_))))
    by_cases hc13 : ex.kind = ((2 :Nat):Int)
    ·
     refine q_eql true rfl rfl (decide_eq_true hc13) zN (lw_tvn 1 rfl (c_cond_t rfl (wp_seq (wp_plain _ [0,0,2,0,2,0] rfl ?_))))
     have hwk := wk_var hwf oM
     refine lw_tv 1 rfl (q_fldP (p := (.pointer (some ⟨w.heap.size,0,none⟩))) (b := w.heap.size) (o := 0) 1 fd174_1 rfl rfl zN (q_load (p := (padd (.pointer (some ⟨w.heap.size,0,none⟩)) 1)) (.inr rfl) (.int .i64 ex.num) one2 rfl (hF10.ldp (i := 1) sM) zN (q_idx (v := vv) ((ex.num).toNat) u32 ti27 rfl rfl henv.slL oM sD zN ?_)))
     obtain ⟨ue14,hl14,hr14⟩ := RN.getL (w := w) g1 [] (k := (ex.num).toNat) henv sD
     have hln14 := hr14.lenL
     unfold maxLen at hln14
     refine q_load (p := eptr vv ((ex.num).toNat) 1) (.inr rfl) ue14 one27 rfl (hl14 _ (hE9.sub (subS hgS))) zN (lw_tvn 1 rfl (wp_ret (b_ret (t_ret ?_))))
     exact post_ret [6] rfl ue14 rfl ⟨ue14,env.getD ((ex.num).toNat) [],s0 + 1,c0,rfl,hE9,hB9,(hr14.chg g1 (hE9.sub (subS hgS))),z199_3,oM,oM,z199_1⟩
    ·
     refine q_eql false rfl rfl (decide_eq_false hc13) zN (lw_tvn 1 rfl (c_cond_f rfl (wp_seq (wp_plain _ [0,0] rfl ?_))))
     by_cases hc15 : ex.kind = ((8 :Nat):Int)
     ·
      refine q_eql true rfl rfl (decide_eq_true hc15) zN (lw_tvn 1 rfl (c_cond_t rfl (wp_seq (wp_seq (wp_plain _ [0,0,2,0,2,0,4,0,2,0] rfl ?_)))))
      have hwk := wk_if hwf oM
      refine lw_tv 1 rfl (q_fldP (p := (.pointer (some ⟨w.heap.size,0,none⟩))) (b := w.heap.size) (o := 0) 4 fd174_4 rfl rfl zN (q_load (p := (padd (.pointer (some ⟨w.heap.size,0,none⟩)) 4)) (.inr rfl) ve one53 rfl (hF10.ldp (i := 4) sM) zN (q_idx (v := ve) 0 u53 tiS174 rfl rfl hex.rn.isSl rfl sD zN ?_)))
      obtain ⟨cs16,hr16,hl16⟩ := hex.rn.get (good_rEx dex) Ex.zero (k := 0) sD
      obtain ⟨dd16,ve16,hd16,rfl,hx16⟩ := RX.of hr16
      have hln16 := hx16.rn.lenle
      unfold maxLen at hln16
      refine q_loadA (p := eptr ve 0 5) (.inr rfl) [(.int .i64 ((ex.kids.getD 0 Ex.zero).kind)),(.int .i64 ((ex.kids.getD 0 Ex.zero).num)),(.int .i64 ((ex.kids.getD 0 Ex.zero).pick)),(.int .i64 ((ex.kids.getD 0 Ex.zero).count)),ve16] agg174 rfl (fun wq9 hw9 => hl16 wq9 ((hE9.sub (subS hgS)).ext hw9)) rfl zN (lw_tv 1 rfl ?_)
      refine lw_callE 199 [] [] [(.pointer (some ⟨g,0,none⟩)),(.agg #[(.int .i64 ((ex.kids.getD 0 Ex.zero).kind)),(.int .i64 ((ex.kids.getD 0 Ex.zero).num)),(.int .i64 ((ex.kids.getD 0 Ex.zero).pick)),(.int .i64 ((ex.kids.getD 0 Ex.zero).count)),ve16]),vv] rfl rfl cf199 zN (IH2 dd16 oM _ S g vp dp (o) (s0 + 1) (c0) (p) ve16 (ex.kids.getD 0 Ex.zero) vv (env) (fun b hb => (by have := hS b hb; omega : b < w9.heap.size)) hgS hB9 (hp.chg (good_rdS (good_rFn dp)) (hE9.sub (subS hgS))) oM oM oM ⟨hx16.rng,(hx16.rn.chg (good_rdS (good_rEx dd16)) (hE9.sub (subS hgS)))⟩ (henv.chg g2 (hE9.sub (subS hgS))) hqenv (by exact hvp) oM (by exact wf_at0 hwf oM oM) (by exact hse) (by have := kd_at (l := ex.kids) (k := 0) oM; omega)) ?_
      rintro e17 w17 ⟨v17,x17,s17,c17,rfl,hC17,hB17,hr17,hse17,hsb17,hcb17,hrl17⟩
      refine ⟨_,rfl,?_⟩
      have hzs17:=hC17.size
      have hE17 : Chg [g] w w17 := hE9.trans hC17
      have hF21 := hF10.chg hC17 (fun hm => by have := List.mem_singleton.1 hm; omega)
      have hsn17 := hse17.1
      refine q_idx (v := v17) 0 u27 ti2 rfl rfl hr17.slL rfl sD zN ?_
      have hg23 := RN.getI (w := w17) (k := 0) hr17 sD
      refine q_load (p := eptr v17 0 1) (.inr rfl) (.int .i64 (x17.getD 0 0)) one2 rfl (hg23.1 _ (Chg.refl _ _)) zN ?_
      by_cases hc24 : x17.getD 0 0 = ((0 :Nat):Int)
      ·
       refine q_eql true rfl rfl (decide_eq_true hc24) zN (lw_nil (c_cond_t rfl (wp_seq (wp_plain _ [0,0,2,0,2,0,4,0] rfl (lw_tv 1 rfl (q_fldP (p := (.pointer (some ⟨w.heap.size,0,none⟩))) (b := w.heap.size) (o := 0) 4 fd174_4 rfl rfl zN (q_load (p := (padd (.pointer (some ⟨w.heap.size,0,none⟩)) 4)) (.inr rfl) ve one53 rfl (hF21.ldp (i := 4) sM) zN (q_idx (v := ve) 1 u53 tiS174 rfl rfl hex.rn.isSl rfl sD zN ?_))))))))
       obtain ⟨cs25,hr25,hl25⟩ := hex.rn.get (good_rEx dex) Ex.zero (k := 1) sD
       obtain ⟨dd25,ve25,hd25,rfl,hx25⟩ := RX.of hr25
       have hln25 := hx25.rn.lenle
       unfold maxLen at hln25
       refine q_loadA (p := eptr ve 1 5) (.inr rfl) [(.int .i64 ((ex.kids.getD 1 Ex.zero).kind)),(.int .i64 ((ex.kids.getD 1 Ex.zero).num)),(.int .i64 ((ex.kids.getD 1 Ex.zero).pick)),(.int .i64 ((ex.kids.getD 1 Ex.zero).count)),ve25] agg174 rfl (fun wq9 hw9 => hl25 wq9 ((hE17.sub (subS hgS)).ext hw9)) rfl zN (lw_tv 1 rfl ?_)
       refine lw_callE 199 [] [] [(.pointer (some ⟨g,0,none⟩)),(.agg #[(.int .i64 ((ex.kids.getD 1 Ex.zero).kind)),(.int .i64 ((ex.kids.getD 1 Ex.zero).num)),(.int .i64 ((ex.kids.getD 1 Ex.zero).pick)),(.int .i64 ((ex.kids.getD 1 Ex.zero).count)),ve25]),vv] rfl rfl cf199 zN (IH2 dd25 oM _ S g vp dp (o) (s17) (c17) (p) ve25 (ex.kids.getD 1 Ex.zero) vv (env) (fun b hb => (by have := hS b hb; omega : b < w17.heap.size)) hgS hB17 (hp.chg (good_rdS (good_rFn dp)) (hE17.sub (subS hgS))) oM oM oM ⟨hx25.rng,(hx25.rn.chg (good_rdS (good_rEx dd25)) (hE17.sub (subS hgS)))⟩ (henv.chg g2 (hE17.sub (subS hgS))) hqenv (by exact hvp) oM (by exact wf_at0 hwf oM oM) (by exact hse) (by have := kd_at (l := ex.kids) (k := 1) oM; omega)) ?_
       rintro e26 w26 ⟨v26,x26,s26,c26,rfl,hC26,hB26,hr26,hse26,hsb26,hcb26,hrl26⟩
       refine ⟨_,rfl,?_⟩
       have hzs26:=hC26.size
       have hE26 : Chg [g] w w26 := hE17.trans hC26
       have hF30 := hF21.chg hC26 (fun hm => by have := List.mem_singleton.1 hm; omega)
       have hF32 := hr17.run g1 hgS hC26
       have hsn26 := hse26.1
       refine lw_tvn 1 rfl (wp_ret (t_ret (b_ret (t_ret ?_))))
       exact post_ret [6] rfl v26 rfl ⟨v26,x26,s26,c26,rfl,hE26,hB26,hr26,z199_3,oM,oM,(by first | exact rel_code oM | exact rel_budget oM oM | exact rel_num hc00 hs1 oM | exact rel_var hc00 hs1 oM | exact rel_if0 hc00 hs1 oM oM ‹RelV (go c0 (evE _ _ (ex.kids.getD 0 _) _ _)) _ _ _› oM (by assumption) | exact rel_if1 hc00 hs1 oM oM ‹RelV (go c0 (evE _ _ (ex.kids.getD 0 _) _ _)) _ _ _› oM (by assumption) | exact rel_let hc00 hs1 oM oM ‹RelV (go c0 (evE _ _ (ex.kids.getD 0 _) _ _)) _ _ _› (by assumption) | exact rel_kidsE hc00 hs1 hkg.1 hkg.2.1 hkg.2.2.1 hkg.2.2.2 hKr oM | exact rel_call hc00 hs1 oM oM hKr oM (by assumption) | exact rel_loop hc00 hs1 oM oM hKr oM (rel_stop hrl9 oM oM) | exact rel_op hc00 hs1 hkg.1 hkg.2.1 hkg.2.2.1 hkg.2.2.2 oM oM hKr oM (by rw [show c26 = 0 from by omega]; exact op_add oM) | exact rel_op hc00 hs1 hkg.1 hkg.2.1 hkg.2.2.1 hkg.2.2.2 oM oM hKr oM (by rw [show c26 = 0 from by omega]; exact op_sub oM) | exact rel_op hc00 hs1 hkg.1 hkg.2.1 hkg.2.2.1 hkg.2.2.2 oM oM hKr oM (by rw [show c26 = 0 from by omega]; exact op_mul oM) | exact rel_op hc00 hs1 hkg.1 hkg.2.1 hkg.2.2.1 hkg.2.2.2 oM oM hKr oM (by rw [show c26 = 0 from by omega]; exact op_neg oM) | exact rel_op hc00 hs1 hkg.1 hkg.2.1 hkg.2.2.1 hkg.2.2.2 oM oM hKr oM (by rw [show c26 = 0 from by omega]; exact op_div oM oM) | exact rel_op hc00 hs1 hkg.1 hkg.2.1 hkg.2.2.1 hkg.2.2.2 oM oM hKr oM (op_div0 oM oM))⟩
      ·
       refine q_eql false rfl rfl (decide_eq_false hc24) zN (lw_nil (c_cond_f rfl (wp_skip (wp_seq (wp_plain _ [0,0,2,0,2,0,4,0] rfl (lw_tv 1 rfl (q_fldP (p := (.pointer (some ⟨w.heap.size,0,none⟩))) (b := w.heap.size) (o := 0) 4 fd174_4 rfl rfl zN (q_load (p := (padd (.pointer (some ⟨w.heap.size,0,none⟩)) 4)) (.inr rfl) ve one53 rfl (hF21.ldp (i := 4) sM) zN (q_idx (v := ve) 2 u53 tiS174 rfl rfl hex.rn.isSl rfl sD zN ?_)))))))))
       obtain ⟨cs34,hr34,hl34⟩ := hex.rn.get (good_rEx dex) Ex.zero (k := 2) sD
       obtain ⟨dd34,ve34,hd34,rfl,hx34⟩ := RX.of hr34
       have hln34 := hx34.rn.lenle
       unfold maxLen at hln34
       refine q_loadA (p := eptr ve 2 5) (.inr rfl) [(.int .i64 ((ex.kids.getD 2 Ex.zero).kind)),(.int .i64 ((ex.kids.getD 2 Ex.zero).num)),(.int .i64 ((ex.kids.getD 2 Ex.zero).pick)),(.int .i64 ((ex.kids.getD 2 Ex.zero).count)),ve34] agg174 rfl (fun wq9 hw9 => hl34 wq9 ((hE17.sub (subS hgS)).ext hw9)) rfl zN (lw_tv 1 rfl ?_)
       refine lw_callE 199 [] [] [(.pointer (some ⟨g,0,none⟩)),(.agg #[(.int .i64 ((ex.kids.getD 2 Ex.zero).kind)),(.int .i64 ((ex.kids.getD 2 Ex.zero).num)),(.int .i64 ((ex.kids.getD 2 Ex.zero).pick)),(.int .i64 ((ex.kids.getD 2 Ex.zero).count)),ve34]),vv] rfl rfl cf199 zN (IH2 dd34 oM _ S g vp dp (o) (s17) (c17) (p) ve34 (ex.kids.getD 2 Ex.zero) vv (env) (fun b hb => (by have := hS b hb; omega : b < w17.heap.size)) hgS hB17 (hp.chg (good_rdS (good_rFn dp)) (hE17.sub (subS hgS))) oM oM oM ⟨hx34.rng,(hx34.rn.chg (good_rdS (good_rEx dd34)) (hE17.sub (subS hgS)))⟩ (henv.chg g2 (hE17.sub (subS hgS))) hqenv (by exact hvp) oM (by exact wf_at0 hwf oM oM) (by exact hse) (by have := kd_at (l := ex.kids) (k := 2) oM; omega)) ?_
       rintro e35 w35 ⟨v35,x35,s35,c35,rfl,hC35,hB35,hr35,hse35,hsb35,hcb35,hrl35⟩
       refine ⟨_,rfl,?_⟩
       have hzs35:=hC35.size
       have hE35 : Chg [g] w w35 := hE17.trans hC35
       have hF39 := hF21.chg hC35 (fun hm => by have := List.mem_singleton.1 hm; omega)
       have hF41 := hr17.run g1 hgS hC35
       have hsn35 := hse35.1
       refine lw_tvn 1 rfl (wp_ret (b_ret (t_ret ?_)))
       exact post_ret [6] rfl v35 rfl ⟨v35,x35,s35,c35,rfl,hE35,hB35,hr35,z199_3,oM,oM,(by first | exact rel_code oM | exact rel_budget oM oM | exact rel_num hc00 hs1 oM | exact rel_var hc00 hs1 oM | exact rel_if0 hc00 hs1 oM oM ‹RelV (go c0 (evE _ _ (ex.kids.getD 0 _) _ _)) _ _ _› oM (by assumption) | exact rel_if1 hc00 hs1 oM oM ‹RelV (go c0 (evE _ _ (ex.kids.getD 0 _) _ _)) _ _ _› oM (by assumption) | exact rel_let hc00 hs1 oM oM ‹RelV (go c0 (evE _ _ (ex.kids.getD 0 _) _ _)) _ _ _› (by assumption) | exact rel_kidsE hc00 hs1 hkg.1 hkg.2.1 hkg.2.2.1 hkg.2.2.2 hKr oM | exact rel_call hc00 hs1 oM oM hKr oM (by assumption) | exact rel_loop hc00 hs1 oM oM hKr oM (rel_stop hrl9 oM oM) | exact rel_op hc00 hs1 hkg.1 hkg.2.1 hkg.2.2.1 hkg.2.2.2 oM oM hKr oM (by rw [show c35 = 0 from by omega]; exact op_add oM) | exact rel_op hc00 hs1 hkg.1 hkg.2.1 hkg.2.2.1 hkg.2.2.2 oM oM hKr oM (by rw [show c35 = 0 from by omega]; exact op_sub oM) | exact rel_op hc00 hs1 hkg.1 hkg.2.1 hkg.2.2.1 hkg.2.2.2 oM oM hKr oM (by rw [show c35 = 0 from by omega]; exact op_mul oM) | exact rel_op hc00 hs1 hkg.1 hkg.2.1 hkg.2.2.1 hkg.2.2.2 oM oM hKr oM (by rw [show c35 = 0 from by omega]; exact op_neg oM) | exact rel_op hc00 hs1 hkg.1 hkg.2.1 hkg.2.2.1 hkg.2.2.2 oM oM hKr oM (by rw [show c35 = 0 from by omega]; exact op_div oM oM) | exact rel_op hc00 hs1 hkg.1 hkg.2.1 hkg.2.2.1 hkg.2.2.2 oM oM hKr oM (op_div0 oM oM))⟩
     ·
      refine q_eql false rfl rfl (decide_eq_false hc15) zN (lw_tvn 1 rfl (c_cond_f rfl (wp_seq (wp_plain _ [0,0] rfl ?_))))
      by_cases hc43 : ex.kind = ((9 :Nat):Int)
      ·
       refine q_eql true rfl rfl (decide_eq_true hc43) zN (lw_tvn 1 rfl (c_cond_t rfl (wp_seq ?_)))
       letI : JR := jrC [g]
       refine Jx.wp_draw _ [0,0,1,0,1,0,0,0,0,1,0,1,0,3,3,3,3,0] mixed (by kernel_rfl) ?_
       have hwk := wk_let hwf oM
       refine Jx.q_move (.pointer (some ⟨g,0,none⟩)) rfl zN (Jx.q_fldP (p := (.pointer (some ⟨w.heap.size,0,none⟩))) (b := w.heap.size) (o := 0) 4 fd174_4 rfl rfl zN (Jx.q_loadJ (p := (padd (.pointer (some ⟨w.heap.size,0,none⟩)) 4)) ve one53 rfl (fun wj hj => (BX.chg (w := w9.drew) (F := [g]) hF10 hj (fun hm => by have := List.mem_singleton.1 hm; omega)).ldp (i := 4) sM) zN (Jx.q_idx (v := ve) 1 u53 tiS174 rfl rfl hex.rn.isSl rfl sD zN ?_)))
       obtain ⟨cs44,hr44,hl44⟩ := hex.rn.get (good_rEx dex) Ex.zero (k := 1) sD
       obtain ⟨dd44,ve44,hd44,rfl,hx44⟩ := RX.of hr44
       have hln44 := hx44.rn.lenle
       unfold maxLen at hln44
       refine Jx.q_loadAJ (p := eptr ve 1 5) [(.int .i64 ((ex.kids.getD 1 Ex.zero).kind)),(.int .i64 ((ex.kids.getD 1 Ex.zero).num)),(.int .i64 ((ex.kids.getD 1 Ex.zero).pick)),(.int .i64 ((ex.kids.getD 1 Ex.zero).count)),ve44] agg174 rfl (fun wj hj => hl44 wj (Chg.trans (hE9.drew.sub (subS hgS)) (Chg.sub (show Chg [g] w9.drew wj from hj) (subS hgS)))) rfl zN (Jx.q_move vv rfl zN (Jx.lw_callq 233 [] [] [vv] rfl rfl cf233 zN (clipV vv) (fun wq => c_slices_Clip_____int64___int64_ wq vv _ henv.slL hqenv) (Jx.q_move (.pointer (some ⟨g,0,none⟩)) rfl zN (Jx.q_fldP (p := (.pointer (some ⟨w.heap.size,0,none⟩))) (b := w.heap.size) (o := 0) 4 fd174_4 rfl rfl zN ?_))))
       refine Jx.q_loadJ (p := (padd (.pointer (some ⟨w.heap.size,0,none⟩)) 4)) ve one53 rfl (fun wj hj => (BX.chg (w := w9.drew) (F := [g]) hF10 hj (fun hm => by have := List.mem_singleton.1 hm; omega)).ldp (i := 4) sM) zN (Jx.q_idx (v := ve) 0 u53 tiS174 rfl rfl hex.rn.isSl rfl sD zN ?_)
       obtain ⟨cs45,hr45,hl45⟩ := hex.rn.get (good_rEx dex) Ex.zero (k := 0) sD
       obtain ⟨dd45,ve45,hd45,rfl,hx45⟩ := RX.of hr45
       have hln45 := hx45.rn.lenle
       unfold maxLen at hln45
       refine Jx.q_loadAJ (p := eptr ve 0 5) [(.int .i64 ((ex.kids.getD 0 Ex.zero).kind)),(.int .i64 ((ex.kids.getD 0 Ex.zero).num)),(.int .i64 ((ex.kids.getD 0 Ex.zero).pick)),(.int .i64 ((ex.kids.getD 0 Ex.zero).count)),ve45] agg174 rfl (fun wj hj => hl45 wj (Chg.trans (hE9.drew.sub (subS hgS)) (Chg.sub (show Chg [g] w9.drew wj from hj) (subS hgS)))) rfl zN (Jx.q_move vv rfl zN ?_)
       refine Jx.lw_call 199 [] [] [(.pointer (some ⟨g,0,none⟩)),(.agg #[(.int .i64 ((ex.kids.getD 0 Ex.zero).kind)),(.int .i64 ((ex.kids.getD 0 Ex.zero).num)),(.int .i64 ((ex.kids.getD 0 Ex.zero).pick)),(.int .i64 ((ex.kids.getD 0 Ex.zero).count)),ve45]),vv] rfl rfl cf199 zN (IH2 dd45 oM _ S g vp dp (o) (s0 + 1) (c0) (p) ve45 (ex.kids.getD 0 Ex.zero) vv (env) (fun b hb => (by have := hS b hb; omega : b < w9.heap.size)) hgS hB9 (hp.chg (good_rdS (good_rFn dp)) (hE9.drew.sub (subS hgS))) oM oM oM ⟨hx45.rng,(hx45.rn.chg (good_rdS (good_rEx dd45)) (hE9.drew.sub (subS hgS)))⟩ (henv.chg g2 (hE9.drew.sub (subS hgS))) hqenv (by exact hvp) oM (by exact wf_at0 hwf oM oM) (by exact hse) (by have := kd_at (l := ex.kids) (k := 0) oM; omega)) ?_
       rintro e46 w46 ⟨v46,x46,s46,c46,rfl,hC46,hB46,hr46,hse46,hsb46,hcb46,hrl46⟩
       refine ⟨_,rfl,hC46,?_⟩
       replace hC46 := hC46.of_drew
       have hzs46:=hC46.size
       have hE46 : Chg [g] w w46 := hE9.trans hC46
       have hF50 := hF10.chg hC46 (fun hm => by have := List.mem_singleton.1 hm; omega)
       have hsn46 := hse46.1
       refine Jx.r_one (u := v46) (B := w46.heap.size) good_rV u32 ti27 rfl rfl (frV w46.heap.size w46.heap.size _ (hr46.one1 g1)) (Nat.le_refl _) zN fun v53 w53 hX53 hz53 hO53 => ?_
       have hzs53:=hX53.size
       have hE53 : Chg [g] w w53 := hE46.ext hX53
       have hB46x53 := hB46.ext hX53
       have hF50x53 := hF50.ext hX53
       have hN54 := hr46.ext g1 hX53
       refine Jx.e_appC (v := vv) (a := v53) (u := v46) u32 ti27 rfl rfl rfl (henv.chg g2 (hE53.sub (subS hgS))) hO53 hN54 (fun b hb => (by have := hS b hb; omega : b < w53.heap.size)) sD (by unfold maxLen; first | omega | assumption | (simp; done) | (simp; omega)) zN fun v55 w55 hX55 hr55 hcp55 => ?_
       have hzs55:=hX55.size
       have hE55 : Chg [g] w w55 := hE53.ext hX55
       have hB46x55 := hB46x53.ext hX55
       have hF50x55 := hF50x53.ext hX55
       have hN56 := hN54.ext g1 hX55
       refine Jx.lw_call 199 [] [] [(.pointer (some ⟨g,0,none⟩)),(.agg #[(.int .i64 ((ex.kids.getD 1 Ex.zero).kind)),(.int .i64 ((ex.kids.getD 1 Ex.zero).num)),(.int .i64 ((ex.kids.getD 1 Ex.zero).pick)),(.int .i64 ((ex.kids.getD 1 Ex.zero).count)),ve44]),v55] rfl rfl cf199 zN (IH2 dd44 oM _ S g vp dp (o) (s46) (c46) (p) ve44 (ex.kids.getD 1 Ex.zero) v55 (env ++ [x46]) (fun b hb => (by have := hS b hb; omega : b < w55.heap.size)) hgS hB46x55 (hp.chg (good_rdS (good_rFn dp)) (hE55.sub (subS hgS))) oM oM oM ⟨hx44.rng,(hx44.rn.chg (good_rdS (good_rEx dd44)) (hE55.sub (subS hgS)))⟩ hr55 hcp55 (by exact hvp) oM (by have h9 := wf_at1 hwf oM oM; rw [List.length_append,List.length_singleton]; exact h9) (by exact hse.snoc (by assumption)) (by have := kd_at (l := ex.kids) (k := 1) oM; rw [List.length_append,List.length_singleton]; omega)) ?_
       rintro e57 w57 ⟨v57,x57,s57,c57,rfl,hC57,hB57,hr57,hse57,hsb57,hcb57,hrl57⟩
       refine ⟨_,rfl,hC57,?_⟩
       have hzs57:=hC57.size
       have hE57 : Chg [g] w w57 := hE55.trans hC57
       have hF61 := hF50x55.chg hC57 (fun hm => by have := List.mem_singleton.1 hm; omega)
       have hF64 := hN56.run g1 hgS hC57
       have hF65 := hr55.run g2 hgS hC57
       have hsn57 := hse57.1
       refine Jx.q_assign v57 rfl zN (Jx.lw_nil (wp_ret (b_ret (t_ret ?_))))
       exact post_ret [6] rfl v57 rfl ⟨v57,x57,s57,c57,rfl,hE57,hB57,hr57,z199_3,oM,oM,(by first | exact rel_code oM | exact rel_budget oM oM | exact rel_num hc00 hs1 oM | exact rel_var hc00 hs1 oM | exact rel_if0 hc00 hs1 oM oM ‹RelV (go c0 (evE _ _ (ex.kids.getD 0 _) _ _)) _ _ _› oM (by assumption) | exact rel_if1 hc00 hs1 oM oM ‹RelV (go c0 (evE _ _ (ex.kids.getD 0 _) _ _)) _ _ _› oM (by assumption) | exact rel_let hc00 hs1 oM oM ‹RelV (go c0 (evE _ _ (ex.kids.getD 0 _) _ _)) _ _ _› (by assumption) | exact rel_kidsE hc00 hs1 hkg.1 hkg.2.1 hkg.2.2.1 hkg.2.2.2 hKr oM | exact rel_call hc00 hs1 oM oM hKr oM (by assumption) | exact rel_loop hc00 hs1 oM oM hKr oM (rel_stop hrl9 oM oM) | exact rel_op hc00 hs1 hkg.1 hkg.2.1 hkg.2.2.1 hkg.2.2.2 oM oM hKr oM (by rw [show c57 = 0 from by omega]; exact op_add oM) | exact rel_op hc00 hs1 hkg.1 hkg.2.1 hkg.2.2.1 hkg.2.2.2 oM oM hKr oM (by rw [show c57 = 0 from by omega]; exact op_sub oM) | exact rel_op hc00 hs1 hkg.1 hkg.2.1 hkg.2.2.1 hkg.2.2.2 oM oM hKr oM (by rw [show c57 = 0 from by omega]; exact op_mul oM) | exact rel_op hc00 hs1 hkg.1 hkg.2.1 hkg.2.2.1 hkg.2.2.2 oM oM hKr oM (by rw [show c57 = 0 from by omega]; exact op_neg oM) | exact rel_op hc00 hs1 hkg.1 hkg.2.1 hkg.2.2.1 hkg.2.2.2 oM oM hKr oM (by rw [show c57 = 0 from by omega]; exact op_div oM oM) | exact rel_op hc00 hs1 hkg.1 hkg.2.1 hkg.2.2.1 hkg.2.2.2 oM oM hKr oM (op_div0 oM oM))⟩
      ·
       refine q_eql false rfl rfl (decide_eq_false hc43) zN (lw_tvn 1 rfl (c_cond_f rfl (wp_skip (wp_seq (wp_plain _ [0,0,2,0,4,0] rfl ?_)))))
       have hkg : ex.kind ≠ 1 ∧ ex.kind ≠ 2 ∧ ex.kind ≠ 8 ∧ ex.kind ≠ 9 := by omega
       have hk6 := wk_len hwf hvp hF
       refine lw_tv 1 rfl (q_fldP (p := (.pointer (some ⟨w.heap.size,0,none⟩))) (b := w.heap.size) (o := 0) 4 fd174_4 rfl rfl zN (q_load (p := (padd (.pointer (some ⟨w.heap.size,0,none⟩)) 4)) (.inr rfl) ve one53 rfl (hF10.ldp (i := 4) sM) zN (lw_tv 1 rfl ?_)))
       refine lw_callE 153 [] [] [(.pointer (some ⟨g,0,none⟩)),ve,vv] rfl rfl cf153 zN (c_all F dex (fun d9 h9 => IH2 d9 oM) _ S g vp dp (o) (s0 + 1) (c0) (p) ve (ex.kids) vv (env) (fun b hb => (by have := hS b hb; omega : b < w9.heap.size)) hgS hB9 (hp.chg (good_rdS (good_rFn dp)) (hE9.sub (subS hgS))) oM oM oM (hex.rn.chg (good_rdS (good_rEx dex)) (hE9.sub (subS hgS))) (henv.chg g2 (hE9.sub (subS hgS))) hqenv (by exact hvp) oM (by intro k hk; exact wf_at0 hwf hk oM) (by exact hse) (by intro k hk; have := kd_at (l := ex.kids) (k := k) hk; omega) oM) ?_
       rintro e66 w66 ⟨v66,x66,s66,c66,rfl,hC66,hB66,hr66,hse66,hsb66,hcb66,hrl66⟩
       refine ⟨_,rfl,?_⟩
       have hzs66:=hC66.size
       have hE66 : Chg [g] w w66 := hE9.trans hC66
       have hF70 := hF10.chg hC66 (fun hm => by have := List.mem_singleton.1 hm; omega)
       have hsn66 := hse66.2.1
       have hsr66 := hse66.2.2
       have hcp66 := hse66.1
       have hK := hse66.2.2
       have hKr := hrl66
       refine lw_tvn 1 rfl (wp_seq (wp_seq (wp_plain _ [0,0,0,2,0] rfl (lw_tv 1 rfl (q_nil rfl zN (q_fldP (p := (.pointer (some ⟨g,0,none⟩))) (b := g) (o := 0) 3 fd165_3 rfl rfl zN (q_load (p := (padd (.pointer (some ⟨g,0,none⟩)) 3)) (.inr rfl) (.int .i64 c66) one2 rfl (hB66.ldp (i := 3) sM) zN ?_)))))))
       by_cases hc71 : c66 ≠ ((0 :Nat):Int)
       ·
        refine q_neq true rfl rfl (decide_eq_true hc71) zN (lw_nil (c_cond_t rfl (wp_seq (wp_plain _ [0,3,0] rfl (lw_tv 1 rfl (lw_call 232 [] [] [(.pointer (some ⟨g,0,none⟩)),(.int .i64 ((0 :Nat):Int))] rfl rfl cf232 zN (c_impl_evaluation_constant _ S g vp dp (o) (s66) (c66) (p) _ (fun b hb => (by have := hS b hb; omega : b < w66.heap.size)) hgS hB66 (hp.chg (good_rdS (good_rFn dp)) (hE66.sub (subS hgS))) oM oM oM oM) ?_))))))
        rintro e72 w72 ⟨v72_0,rfl,hX72,hO72_0⟩
        refine ⟨_,rfl,hX72,?_⟩
        have hzs72:=hX72.size
        have hE72 : Chg [g] w w72 := hE66.ext hX72
        have hB66x72 := hB66.ext hX72
        have hF70x72 := hF70.ext hX72
        have hN73 := hr66.ext g2 hX72
        refine lw_tvn 1 rfl (wp_ret (t_ret ?_))
        exact post_ret [6] rfl v72_0 rfl ⟨v72_0,cst (o + 1) ((0 :Nat):Int),s66,c66,rfl,hE72,hB66x72,(RN.of_fr1 hO72_0 (fun b hb => by have := hS b hb; omega)),z199_3,oM,oM,z199_0⟩
       ·
        refine q_neq false rfl rfl (decide_eq_false hc71) zN (lw_nil (c_cond_f rfl (wp_skip (wp_seq (wp_seq (wp_plain _ [0,2] rfl (q_fldP (p := (.pointer (some ⟨w.heap.size,0,none⟩))) (b := w.heap.size) (o := 0) 0 fd174_0 rfl rfl zN (q_load (p := (padd (.pointer (some ⟨w.heap.size,0,none⟩)) 0)) (.inr rfl) (.int .i64 ex.kind) one2 rfl (hF70.ldp (i := 0) sM) zN (lw_nil (wp_block (wp_seq (wp_plain _ [0,0] rfl ?_))))))))))))
        by_cases hc74 : ex.kind = ((10 :Nat):Int)
        ·
         refine q_eql true rfl rfl (decide_eq_true hc74) zN (lw_tvn 1 rfl (c_cond_t rfl (wp_seq (wp_draw _ [0,0,0,0,0,1,0,1,0,0,1,0,1,0,1,0,4,0] mixed (by kernel_rfl) ?_))))
         have hwk := wk_call hwf oM
         refine lw_tv 2 rfl ?_
         have hvo := hvp.outs (ex.num).toNat oM
         have hvd := hvp.deep (ex.num).toNat oM (ex.pick).toNat oM
         refine q_nil rfl zN (q_fldP (p := (.pointer (some ⟨g,0,none⟩))) (b := g) (o := 0) 0 fd165_0 rfl rfl zN (q_fldP (p := (padd (.pointer (some ⟨g,0,none⟩)) 0)) (b := g) (o := 0) 0 fd26_0 rfl rfl zN (q_load (p := (padd (padd (.pointer (some ⟨g,0,none⟩)) 0) 0)) (.inl rfl) vp one24 rfl (hB66.ldp (i := 0) sM) zN (q_fldP (p := (.pointer (some ⟨w.heap.size,0,none⟩))) (b := w.heap.size) (o := 0) 1 fd174_1 rfl rfl zN (q_load (p := (padd (.pointer (some ⟨w.heap.size,0,none⟩)) 1)) (.inl rfl) (.int .i64 ex.num) one2 rfl (hF70.ldp (i := 1) sM) zN ?_)))))
         refine q_idx (v := vp) ((ex.num).toNat) u24 tiS55 rfl rfl hp.isSl oM sD zN ?_
         obtain ⟨cs75,hr75,hl75⟩ := hp.get (good_rFn dp) Fn.zero (k := ((ex.num).toNat)) sD
         obtain ⟨ve75,rfl,hx75⟩ := RF.of hr75
         have hln75 := hx75.rn.lenle
         unfold maxLen at hln75
         refine q_fldL (p := eptr vp ((ex.num).toNat) 3) 2 fd55_2 rfl (hl75 _ (hE66.drew.sub (subS hgS))) zN (q_load (p := (padd (eptr vp ((ex.num).toNat) 3) 2)) (.inl rfl) ve75 one53 rfl ((hl75 _ (hE66.drew.sub (subS hgS))).ld (i := 2) (by simp [exC,fnC])) zN (q_fldP (p := (.pointer (some ⟨w.heap.size,0,none⟩))) (b := w.heap.size) (o := 0) 2 fd174_2 rfl rfl zN (q_load (p := (padd (.pointer (some ⟨w.heap.size,0,none⟩)) 2)) (.inl rfl) (.int .i64 ex.pick) one2 rfl (hF70.ldp (i := 2) sM) zN ?_)))
         refine q_idx (v := ve75) ((ex.pick).toNat) u53 tiS174 rfl rfl hx75.rn.isSl oM sD zN ?_
         obtain ⟨cs76,hr76,hl76⟩ := hx75.rn.get (good_rEx dp) Ex.zero (k := ((ex.pick).toNat)) sD
         obtain ⟨dd76,ve76,hd76,rfl,hx76⟩ := RX.of hr76
         have hln76 := hx76.rn.lenle
         unfold maxLen at hln76
         refine q_loadA (p := eptr ve75 ((ex.pick).toNat) 5) (.inl rfl) [(.int .i64 ((((p.getD ((ex.num).toNat) Fn.zero).outs).getD ((ex.pick).toNat) Ex.zero).kind)),(.int .i64 ((((p.getD ((ex.num).toNat) Fn.zero).outs).getD ((ex.pick).toNat) Ex.zero).num)),(.int .i64 ((((p.getD ((ex.num).toNat) Fn.zero).outs).getD ((ex.pick).toNat) Ex.zero).pick)),(.int .i64 ((((p.getD ((ex.num).toNat) Fn.zero).outs).getD ((ex.pick).toNat) Ex.zero).count)),ve76] agg174 rfl (fun wq9 hw9 => hl76 wq9 ((hE66.drew.sub (subS hgS)).ext hw9)) rfl zN (lw_tv 1 rfl ?_)
         refine lw_callE 199 [] [] [(.pointer (some ⟨g,0,none⟩)),(.agg #[(.int .i64 ((((p.getD ((ex.num).toNat) Fn.zero).outs).getD ((ex.pick).toNat) Ex.zero).kind)),(.int .i64 ((((p.getD ((ex.num).toNat) Fn.zero).outs).getD ((ex.pick).toNat) Ex.zero).num)),(.int .i64 ((((p.getD ((ex.num).toNat) Fn.zero).outs).getD ((ex.pick).toNat) Ex.zero).pick)),(.int .i64 ((((p.getD ((ex.num).toNat) Fn.zero).outs).getD ((ex.pick).toNat) Ex.zero).count)),ve76]),v66] rfl rfl cf199 zN (IH1 (ex.num).toNat oM dd76 _ S g vp dp (o) (s66) (c66) (p) ve76 (((p.getD ((ex.num).toNat) Fn.zero).outs).getD ((ex.pick).toNat) Ex.zero) v66 (x66) (fun b hb => (by have := hS b hb; omega : b < w66.heap.size)) hgS hB66 (hp.chg (good_rdS (good_rFn dp)) (hE66.drew.sub (subS hgS))) oM oM oM ⟨hx76.rng,(hx76.rn.chg (good_rdS (good_rEx dd76)) (hE66.drew.sub (subS hgS)))⟩ hr66 hse66.1 (by exact hvp) oM (by have h9 := hvp.wf (ex.num).toNat oM (ex.pick).toNat oM; rw [show ((x66.length :Nat):Int) = (p.getD (ex.num).toNat Fn.zero).params from by omega]; exact h9) (by exact hK) oM) ?_
         rintro e77 w77 ⟨v77,x77,s77,c77,rfl,hC77,hB77,hr77,hse77,hsb77,hcb77,hrl77⟩
         refine ⟨_,rfl,?_⟩
         replace hC77 := hC77.of_drew
         have hzs77:=hC77.size
         have hE77 : Chg [g] w w77 := hE66.trans hC77
         have hF81 := hF70.chg hC77 (fun hm => by have := List.mem_singleton.1 hm; omega)
         have hF82 := hr66.run g2 hgS hC77
         have hsn77 := hse77.1
         refine lw_tvn 1 rfl (wp_ret (b_ret (t_ret ?_)))
         exact post_ret [6] rfl v77 rfl ⟨v77,x77,s77,c77,rfl,hE77,hB77,hr77,z199_3,oM,oM,(by first | exact rel_code oM | exact rel_budget oM oM | exact rel_num hc00 hs1 oM | exact rel_var hc00 hs1 oM | exact rel_if0 hc00 hs1 oM oM ‹RelV (go c0 (evE _ _ (ex.kids.getD 0 _) _ _)) _ _ _› oM (by assumption) | exact rel_if1 hc00 hs1 oM oM ‹RelV (go c0 (evE _ _ (ex.kids.getD 0 _) _ _)) _ _ _› oM (by assumption) | exact rel_let hc00 hs1 oM oM ‹RelV (go c0 (evE _ _ (ex.kids.getD 0 _) _ _)) _ _ _› (by assumption) | exact rel_kidsE hc00 hs1 hkg.1 hkg.2.1 hkg.2.2.1 hkg.2.2.2 hKr oM | exact rel_call hc00 hs1 oM oM hKr oM (by assumption) | exact rel_loop hc00 hs1 oM oM hKr oM (rel_stop hrl9 oM oM) | exact rel_op hc00 hs1 hkg.1 hkg.2.1 hkg.2.2.1 hkg.2.2.2 oM oM hKr oM (by rw [show c77 = 0 from by omega]; exact op_add oM) | exact rel_op hc00 hs1 hkg.1 hkg.2.1 hkg.2.2.1 hkg.2.2.2 oM oM hKr oM (by rw [show c77 = 0 from by omega]; exact op_sub oM) | exact rel_op hc00 hs1 hkg.1 hkg.2.1 hkg.2.2.1 hkg.2.2.2 oM oM hKr oM (by rw [show c77 = 0 from by omega]; exact op_mul oM) | exact rel_op hc00 hs1 hkg.1 hkg.2.1 hkg.2.2.1 hkg.2.2.2 oM oM hKr oM (by rw [show c77 = 0 from by omega]; exact op_neg oM) | exact rel_op hc00 hs1 hkg.1 hkg.2.1 hkg.2.2.1 hkg.2.2.2 oM oM hKr oM (by rw [show c77 = 0 from by omega]; exact op_div oM oM) | exact rel_op hc00 hs1 hkg.1 hkg.2.1 hkg.2.2.1 hkg.2.2.2 oM oM hKr oM (op_div0 oM oM))⟩
        ·
         refine q_eql false rfl rfl (decide_eq_false hc74) zN (lw_tvn 1 rfl (c_cond_f rfl (wp_seq (wp_plain _ [0,0] rfl ?_))))
         by_cases hc85 : ex.kind = ((11 :Nat):Int)
         ·
          refine q_eql true rfl rfl (decide_eq_true hc85) zN (lw_tvn 1 rfl (c_cond_t rfl (wp_seq (wp_seq (wp_plain _ [0] rfl ?_)))))
          have hwk := wk_call hwf oM
          have hwl := wk_loop hwf oM
          refine lw_tvn 1 rfl (wp_block ?_)
          refine c_loop (S := Nat × Value × List (List Int) × Nat × Int) (fun (⟨i,vk,ks,s9,c9⟩ : Nat × Value × List (List Int) × Nat × Int) => ([(7,vk),(8,(.int .i64 ((i :Nat):Int))),(0,(.pointer (some ⟨g,0,none⟩))),(4,(.pointer (some ⟨w.heap.size,0,none⟩)))] : List (Nat × Value))) (fun (⟨i,vk,ks,s9,c9⟩ : Nat × Value × List (List Int) × Nat × Int) (W : World) => Chg [g] w W ∧ BX W.heap g [vp,.int .i64 ((o :Nat):Int),.int .i64 ((s9 :Nat):Int),.int .i64 c9] ∧ BX W.heap w.heap.size [(.int .i64 ex.kind),(.int .i64 ex.num),(.int .i64 ex.pick),(.int .i64 ex.count),ve] ∧ i ≤ (ex.count).toNat ∧ RN S (rdL (rdL rI)) W.heap vk ks ∧ CapS vk ∧ ks.length = (p.getD (ex.num).toNat Fn.zero).outs.length ∧ SrE (o + 1) ks ∧ s9 ≤ 3000 ∧ (0 ≤ c9 ∧ c9 ≤ 9) ∧ RelV (lop (fun a t => evs (o + 1) (evC p (o + 1) (ex.num).toNat) (p.getD (ex.num).toNat Fn.zero).outs a t) i x66 s66) ks s9 c9) (fun (⟨i,vk,ks,s9,c9⟩ : Nat × Value × List (List Int) × Nat × Int) => (ex.count).toNat - i) (0,v66,x66,s66,c66) ⟨rfl,rfl,rfl,rfl,trivial⟩ ⟨hE66,hB66,hF70,oM,(by assumption),(by assumption),oM,(by assumption),oM,oM,(by exact ⟨rfl,rfl,by omega⟩)⟩ ?_
          clear hE0 hz1 hX1 hzs1 hE1 hz9 hC9 hE9 hzs9 hF10 hC66 hzs66 hE66 hF70
          rintro ⟨i,vk,ks,s9,c9⟩ ρ86 w86 ⟨hE86,hL86_0,hL86_1,hp86_0,hrk,hck,hkl,hks,hp86_5,hp86_6,hrl9⟩
          have hzs86 : w.heap.size ≤ w86.heap.size := hE86.size
          have hq87 := hL86_0.lt
          have hq88 := hL86_1.lt
          refine wp_seq (wp_seq (wp_plain _ [0,0,2,0,0,0,0,0,2,0,0] rfl (lw_tv 1 rfl (q_fldP (p := (.pointer (some ⟨w.heap.size,0,none⟩))) (b := w.heap.size) (o := 0) 3 fd174_3 rfl rfl zN (q_load (p := (padd (.pointer (some ⟨w.heap.size,0,none⟩)) 3)) (.inr rfl) (.int .i64 ex.count) one2 rfl (hL86_1.ldp (i := 3) sM) zN ?_)))))
          by_cases hc89 : ((i :Nat):Int) < ex.count
          ·
           refine q_lss true rfl rfl (decide_eq_true hc89) zN (lw_tv 2 rfl (q_nil rfl (zS (e := 132) rfl rfl rfl) (q_fldP (p := (.pointer (some ⟨g,0,none⟩))) (b := g) (o := 0) 3 fd165_3 rfl rfl (zS (e := 132) rfl rfl rfl) (q_load (p := (padd (.pointer (some ⟨g,0,none⟩)) 3)) (.inr rfl) (.int .i64 c9) one2 rfl (hL86_0.ldp (i := 3) sM) (zS (e := 132) rfl rfl rfl) ?_))))
           by_cases hc90 : c9 = ((0 :Nat):Int)
           ·
            refine q_eql true rfl rfl (decide_eq_true hc90) (zS (e := 132) rfl rfl rfl) (lw_tvn 1 rfl (c_cond_t rfl (wp_skip (wp_seq (wp_block (wp_draw _ [0,0,0,0,0,1,0,1,0,0,1,0,4,0] mixed (by kernel_rfl) (lw_tv 2 rfl ?_)))))))
            have hvo := hvp.outs (ex.num).toNat oM
            refine q_nil rfl zN (q_fldP (p := (.pointer (some ⟨g,0,none⟩))) (b := g) (o := 0) 0 fd165_0 rfl rfl zN (q_fldP (p := (padd (.pointer (some ⟨g,0,none⟩)) 0)) (b := g) (o := 0) 0 fd26_0 rfl rfl zN (q_load (p := (padd (padd (.pointer (some ⟨g,0,none⟩)) 0) 0)) (.inl rfl) vp one24 rfl (hL86_0.ldp (i := 0) sM) zN (q_fldP (p := (.pointer (some ⟨w.heap.size,0,none⟩))) (b := w.heap.size) (o := 0) 1 fd174_1 rfl rfl zN (q_load (p := (padd (.pointer (some ⟨w.heap.size,0,none⟩)) 1)) (.inl rfl) (.int .i64 ex.num) one2 rfl (hL86_1.ldp (i := 1) sM) zN ?_)))))
            refine q_idx (v := vp) ((ex.num).toNat) u24 tiS55 rfl rfl hp.isSl oM sD zN ?_
            obtain ⟨cs91,hr91,hl91⟩ := hp.get (good_rFn dp) Fn.zero (k := ((ex.num).toNat)) sD
            obtain ⟨ve91,rfl,hx91⟩ := RF.of hr91
            have hln91 := hx91.rn.lenle
            unfold maxLen at hln91
            refine q_fldL (p := eptr vp ((ex.num).toNat) 3) 2 fd55_2 rfl (hl91 _ (hE86.drew.sub (subS hgS))) zN (q_load (p := (padd (eptr vp ((ex.num).toNat) 3) 2)) (.inl rfl) ve91 one53 rfl ((hl91 _ (hE86.drew.sub (subS hgS))).ld (i := 2) (by simp [exC,fnC])) zN (lw_tv 1 rfl ?_))
            refine lw_callE 153 [] [] [(.pointer (some ⟨g,0,none⟩)),ve91,vk] rfl rfl cf153 zN (c_all (ex.num).toNat dp (fun d9 h9 => IH1 (ex.num).toNat oM d9) _ S g vp dp (o) (s9) (c9) (p) ve91 ((p.getD ((ex.num).toNat) Fn.zero).outs) vk (ks) (fun b hb => (by have := hS b hb; omega : b < w86.heap.size)) hgS hL86_0 (hp.chg (good_rdS (good_rFn dp)) (hE86.drew.sub (subS hgS))) oM oM oM (hx91.rn.chg (good_rdS (good_rEx dp)) (hE86.drew.sub (subS hgS))) hrk hck (by exact hvp) oM (by intro k hk; have h9 := hvp.wf (ex.num).toNat oM k hk; rw [show ((ks.length :Nat):Int) = (p.getD (ex.num).toNat Fn.zero).params from by omega]; exact h9) (by exact hks) (by intro k hk; have := hvp.deep (ex.num).toNat oM k hk; omega) oM) ?_
            rintro e92 w92 ⟨v92,x92,s92,c92,rfl,hC92,hB92,hr92,hse92,hsb92,hcb92,hrl92⟩
            refine ⟨_,rfl,?_⟩
            replace hC92 := hC92.of_drew
            have hzs92:=hC92.size
            have hE92 : Chg [g] w w92 := hE86.trans hC92
            have hF96 := hL86_1.chg hC92 (fun hm => by have := List.mem_singleton.1 hm; omega)
            have hF97 := hrk.run g2 hgS hC92
            have hsn92 := hse92.2.1
            have hsr92 := hse92.2.2
            have hcp92 := hse92.1
            exact lw_tvn 1 rfl (wp_plain _ [0,0,0] rfl (lw_tv 1 rfl (q_add ((i + 1 :Nat):Int) rfl rfl (w64n oM oM) zN (lw_tvn 1 rfl ⟨((i + 1),v92,x92,s92,c92),_,rfl,⟨rfl,rfl,rfl,rfl,trivial⟩,⟨hE92,hB92,hF96,oM,(by assumption),(by assumption),oM,(by assumption),oM,oM,(by exact rel_lop hrl9 oM (by assumption))⟩,by first | omega | (dsimp only; omega)⟩))))
           ·
            refine q_eql false rfl rfl (decide_eq_false hc90) (zS (e := 132) rfl rfl rfl) (lw_tvn 1 rfl (c_cond_f rfl (wp_exit (t_exit (t_exit (c_exit_here (wp_seq (wp_plain _ [0,0,2,0,2,0] rfl (lw_tv 1 rfl (q_fldP (p := (.pointer (some ⟨w.heap.size,0,none⟩))) (b := w.heap.size) (o := 0) 2 fd174_2 rfl rfl zN (q_load (p := (padd (.pointer (some ⟨w.heap.size,0,none⟩)) 2)) (.inr rfl) (.int .i64 ex.pick) one2 rfl (hL86_1.ldp (i := 2) sM) zN ?_)))))))))))
            refine q_idx (v := vk) ((ex.pick).toNat) u32 ti27 rfl rfl hrk.slL oM sD zN ?_
            obtain ⟨ue99,hl99,hr99⟩ := RN.getL (w := w86) g1 [] (k := (ex.pick).toNat) hrk sD
            have hln99 := hr99.lenL
            unfold maxLen at hln99
            refine q_load (p := eptr vk ((ex.pick).toNat) 1) (.inr rfl) ue99 one27 rfl (hl99 _ (Chg.refl _ _)) zN (lw_tvn 1 rfl (wp_ret (b_ret (t_ret ?_))))
            exact post_ret [6] rfl ue99 rfl ⟨ue99,ks.getD ((ex.pick).toNat) [],s9,c9,rfl,hE86,hL86_0,hr99,z199_3,oM,oM,z199_2⟩
          ·
           refine q_lss false rfl rfl (decide_eq_false hc89) zN (lw_tvn 7 rfl (c_cond_f rfl (wp_exit (t_exit (t_exit (c_exit_here (wp_seq (wp_plain _ [0,0,2,0,2,0] rfl (lw_tv 1 rfl (q_fldP (p := (.pointer (some ⟨w.heap.size,0,none⟩))) (b := w.heap.size) (o := 0) 2 fd174_2 rfl rfl zN (q_load (p := (padd (.pointer (some ⟨w.heap.size,0,none⟩)) 2)) (.inr rfl) (.int .i64 ex.pick) one2 rfl (hL86_1.ldp (i := 2) sM) zN ?_)))))))))))
           refine q_idx (v := vk) ((ex.pick).toNat) u32 ti27 rfl rfl hrk.slL oM sD zN ?_
           obtain ⟨ue100,hl100,hr100⟩ := RN.getL (w := w86) g1 [] (k := (ex.pick).toNat) hrk sD
           have hln100 := hr100.lenL
           unfold maxLen at hln100
           refine q_load (p := eptr vk ((ex.pick).toNat) 1) (.inr rfl) ue100 one27 rfl (hl100 _ (Chg.refl _ _)) zN (lw_tvn 1 rfl (wp_ret (b_ret (t_ret ?_))))
           exact post_ret [6] rfl ue100 rfl ⟨ue100,ks.getD ((ex.pick).toNat) [],s9,c9,rfl,hE86,hL86_0,hr100,z199_3,oM,oM,z199_2⟩
         ·
          refine q_eql false rfl rfl (decide_eq_false hc85) zN (lw_tvn 1 rfl (c_cond_f rfl (wp_seq (wp_plain _ [0,0] rfl ?_))))
          by_cases hc101 : ex.kind = ((3 :Nat):Int)
          ·
           refine q_eql true rfl rfl (decide_eq_true hc101) zN (lw_tvn 1 rfl (c_cond_t rfl (wp_seq (wp_draw _ [0,0,1,0,0,1,3,0] mixed (by kernel_rfl) ?_))))
           have hwk := wk_op2 hwf oM
           have hK0 := hK 0 oM
           have hK1 := hK 1 oM
           have hK1l := hK1.1
           refine lw_tv 1 rfl (q_idx (v := v66) 0 u32 ti27 rfl rfl hr66.slL rfl sD zN ?_)
           obtain ⟨ue102,hl102,hr102⟩ := RN.getL (w := w66) g1 [] (k := 0) hr66 sD
           have hln102 := hr102.lenL
           unfold maxLen at hln102
           refine q_load (p := eptr v66 0 1) (.inl rfl) ue102 one27 rfl (hl102 _ (Chg.refl _ _).drew) zN (lw_tv 1 rfl (q_idx (v := v66) 1 u32 ti27 rfl rfl hr66.slL rfl sD zN ?_))
           obtain ⟨ue103,hl103,hr103⟩ := RN.getL (w := w66) g1 [] (k := 1) hr66 sD
           have hln103 := hr103.lenL
           unfold maxLen at hln103
           refine q_load (p := eptr v66 1 1) (.inl rfl) ue103 one27 rfl (hl103 _ (Chg.refl _ _).drew) zN (lw_call 102 [] [] [ue102,ue103] rfl rfl cf102 zN (c_impl_added _ _ _ _ _ (hr102).rd (hr103).rd z199_5 z199_4 (by exact hK0.2) (by exact hK1.2)) ?_)
           rintro e104 w104 ⟨v104_0,rfl,hX104,hO104_0⟩
           refine ⟨_,rfl,hX104,?_⟩
           replace hX104 := hX104.of_drew
           have hzs104:=hX104.size
           have hE104 : Chg [g] w w104 := hE66.ext hX104
           have hB66x104 := hB66.ext hX104
           have hF70x104 := hF70.ext hX104
           have hN105 := hr66.ext g2 hX104
           have hN106 := hr102.ext g1 hX104
           have hN107 := hr103.ext g1 hX104
           replace hO104_0 := hO104_0.low (B' := w66.heap.size) (Nat.le_refl _)
           refine lw_tvn 1 rfl (wp_ret (b_ret (t_ret ?_)))
           exact post_ret [6] rfl v104_0 rfl ⟨v104_0,addS (x66.getD 0 []) (x66.getD 1 []),s66,c66,rfl,hE104,hB66x104,(RN.of_fr1 hO104_0 (fun b hb => by have := hS b hb; omega)),z199_3,oM,oM,z199_0⟩
          ·
           refine q_eql false rfl rfl (decide_eq_false hc101) zN (lw_tvn 1 rfl (c_cond_f rfl (wp_seq (wp_plain _ [0,0] rfl ?_))))
           by_cases hc108 : ex.kind = ((4 :Nat):Int)
           ·
            refine q_eql true rfl rfl (decide_eq_true hc108) zN (lw_tvn 1 rfl (c_cond_t rfl (wp_seq (wp_draw _ [0,0,1,0,0,1,3,0] mixed (by kernel_rfl) ?_))))
            have hwk := wk_op2 hwf oM
            have hK0 := hK 0 oM
            have hK1 := hK 1 oM
            have hK1l := hK1.1
            refine lw_tv 1 rfl (q_idx (v := v66) 0 u32 ti27 rfl rfl hr66.slL rfl sD zN ?_)
            obtain ⟨ue109,hl109,hr109⟩ := RN.getL (w := w66) g1 [] (k := 0) hr66 sD
            have hln109 := hr109.lenL
            unfold maxLen at hln109
            refine q_load (p := eptr v66 0 1) (.inl rfl) ue109 one27 rfl (hl109 _ (Chg.refl _ _).drew) zN (lw_tv 1 rfl (q_idx (v := v66) 1 u32 ti27 rfl rfl hr66.slL rfl sD zN ?_))
            obtain ⟨ue110,hl110,hr110⟩ := RN.getL (w := w66) g1 [] (k := 1) hr66 sD
            have hln110 := hr110.lenL
            unfold maxLen at hln110
            refine q_load (p := eptr v66 1 1) (.inl rfl) ue110 one27 rfl (hl110 _ (Chg.refl _ _).drew) zN (lw_call 132 [] [] [ue109,ue110] rfl rfl cf132 zN (c_impl_reduced _ _ _ _ _ (hr109).rd (hr110).rd z199_5 (by have := hK1.1; omega) z199_4 (by exact hK0.2) (by exact hK1.2)) ?_)
            rintro e111 w111 ⟨v111_0,rfl,hX111,hO111_0⟩
            refine ⟨_,rfl,hX111,?_⟩
            replace hX111 := hX111.of_drew
            have hzs111:=hX111.size
            have hE111 : Chg [g] w w111 := hE66.ext hX111
            have hB66x111 := hB66.ext hX111
            have hF70x111 := hF70.ext hX111
            have hN112 := hr66.ext g2 hX111
            have hN113 := hr109.ext g1 hX111
            have hN114 := hr110.ext g1 hX111
            replace hO111_0 := hO111_0.low (B' := w66.heap.size) (Nat.le_refl _)
            refine lw_tvn 1 rfl (wp_ret (b_ret (t_ret ?_)))
            exact post_ret [6] rfl v111_0 rfl ⟨v111_0,redS (x66.getD 0 []) (x66.getD 1 []),s66,c66,rfl,hE111,hB66x111,(RN.of_fr1 hO111_0 (fun b hb => by have := hS b hb; omega)),z199_3,oM,oM,z199_0⟩
           ·
            refine q_eql false rfl rfl (decide_eq_false hc108) zN (lw_tvn 1 rfl (c_cond_f rfl (wp_seq (wp_plain _ [0,0] rfl ?_))))
            by_cases hc115 : ex.kind = ((5 :Nat):Int)
            ·
             refine q_eql true rfl rfl (decide_eq_true hc115) zN (lw_tvn 1 rfl (c_cond_t rfl (wp_seq (wp_draw _ [0,0,1,0,0,1,3,0] mixed (by kernel_rfl) ?_))))
             have hwk := wk_op2 hwf oM
             have hK0 := hK 0 oM
             have hK1 := hK 1 oM
             have hK1l := hK1.1
             refine lw_tv 1 rfl (q_idx (v := v66) 0 u32 ti27 rfl rfl hr66.slL rfl sD zN ?_)
             obtain ⟨ue116,hl116,hr116⟩ := RN.getL (w := w66) g1 [] (k := 0) hr66 sD
             have hln116 := hr116.lenL
             unfold maxLen at hln116
             refine q_load (p := eptr v66 0 1) (.inl rfl) ue116 one27 rfl (hl116 _ (Chg.refl _ _).drew) zN (lw_tv 1 rfl (q_idx (v := v66) 1 u32 ti27 rfl rfl hr66.slL rfl sD zN ?_))
             obtain ⟨ue117,hl117,hr117⟩ := RN.getL (w := w66) g1 [] (k := 1) hr66 sD
             have hln117 := hr117.lenL
             unfold maxLen at hln117
             refine q_load (p := eptr v66 1 1) (.inl rfl) ue117 one27 rfl (hl117 _ (Chg.refl _ _).drew) zN (lw_call 151 [] [] [ue116,ue117] rfl rfl cf151 zN (c_impl_product _ _ _ _ _ (hr116).rd (hr117).rd z199_5 z199_4 (by exact hK0.2) (by exact hK1.2)) ?_)
             rintro e118 w118 ⟨v118_0,rfl,hX118,hO118_0⟩
             refine ⟨_,rfl,hX118,?_⟩
             replace hX118 := hX118.of_drew
             have hzs118:=hX118.size
             have hE118 : Chg [g] w w118 := hE66.ext hX118
             have hB66x118 := hB66.ext hX118
             have hF70x118 := hF70.ext hX118
             have hN119 := hr66.ext g2 hX118
             have hN120 := hr116.ext g1 hX118
             have hN121 := hr117.ext g1 hX118
             replace hO118_0 := hO118_0.low (B' := w66.heap.size) (Nat.le_refl _)
             refine lw_tvn 1 rfl (wp_ret (b_ret (t_ret ?_)))
             exact post_ret [6] rfl v118_0 rfl ⟨v118_0,proS (x66.getD 0 []) (x66.getD 1 []),s66,c66,rfl,hE118,hB66x118,(RN.of_fr1 hO118_0 (fun b hb => by have := hS b hb; omega)),z199_3,oM,oM,z199_0⟩
            ·
             refine q_eql false rfl rfl (decide_eq_false hc115) zN (lw_tvn 1 rfl (c_cond_f rfl (wp_seq (wp_plain _ [0,0] rfl ?_))))
             by_cases hc122 : ex.kind = ((7 :Nat):Int)
             ·
              refine q_eql true rfl rfl (decide_eq_true hc122) zN (lw_tvn 1 rfl (c_cond_t rfl (wp_seq (wp_plain _ [0,0,2,3,0] rfl ?_))))
              have hwk := wk_neg hwf oM
              have hK0 := hK 0 oM
              refine lw_tv 1 rfl (q_idx (v := v66) 0 u32 ti27 rfl rfl hr66.slL rfl sD zN ?_)
              obtain ⟨ue123,hl123,hr123⟩ := RN.getL (w := w66) g1 [] (k := 0) hr66 sD
              have hln123 := hr123.lenL
              unfold maxLen at hln123
              refine q_load (p := eptr v66 0 1) (.inr rfl) ue123 one27 rfl (hl123 _ (Chg.refl _ _)) zN (lw_call 103 [] [] [ue123,(.int .i64 ((1000002 :Nat):Int))] rfl rfl cf103 zN (c_impl_scaled _ _ _ _ (hr123).rd oM z199_5 (by exact hK0.2) oM) ?_)
              rintro e124 w124 ⟨v124_0,rfl,hX124,hO124_0⟩
              refine ⟨_,rfl,hX124,?_⟩
              have hzs124:=hX124.size
              have hE124 : Chg [g] w w124 := hE66.ext hX124
              have hB66x124 := hB66.ext hX124
              have hF70x124 := hF70.ext hX124
              have hN125 := hr66.ext g2 hX124
              have hN126 := hr123.ext g1 hX124
              refine lw_tvn 1 rfl (wp_ret (b_ret (t_ret ?_)))
              exact post_ret [6] rfl v124_0 rfl ⟨v124_0,sclS (x66.getD 0 []) ((1000002 :Nat):Int),s66,c66,rfl,hE124,hB66x124,(RN.of_fr1 hO124_0 (fun b hb => by have := hS b hb; omega)),z199_3,oM,oM,z199_0⟩
             ·
              refine q_eql false rfl rfl (decide_eq_false hc122) zN (lw_tvn 1 rfl (c_cond_f rfl (wp_skip (wp_seq (wp_seq (wp_plain _ [0,0,2,0,2,0] rfl ?_))))))
              have hkd6 := wk_div hwf ⟨hkg,by omega⟩
              have hwk := wk_op2 hwf (.inr (.inr (.inr hkd6)))
              have hK0 := hK 0 oM
              have hK1 := hK 1 oM
              have hK1l := hK1.1
              refine lw_tv 1 rfl (q_idx (v := v66) 1 u32 ti27 rfl rfl hr66.slL rfl sD zN ?_)
              obtain ⟨ue127,hl127,hr127⟩ := RN.getL (w := w66) g1 [] (k := 1) hr66 sD
              have hln127 := hr127.lenL
              unfold maxLen at hln127
              refine q_load (p := eptr v66 1 1) (.inr rfl) ue127 one27 rfl (hl127 _ (Chg.refl _ _)) zN (q_idx (v := ue127) 0 u27 ti2 rfl rfl hr127.slL rfl sD zN ?_)
              have hg128 := RN.getI (w := w66) (k := 0) hr127 sD
              refine q_load (p := eptr ue127 0 1) (.inr rfl) (.int .i64 ((x66.getD 1 []).getD 0 0)) one2 rfl (hg128.1 _ (Chg.refl _ _)) zN ?_
              by_cases hc129 : (x66.getD 1 []).getD 0 0 = ((0 :Nat):Int)
              ·
               refine q_eql true rfl rfl (decide_eq_true hc129) zN (lw_nil (c_cond_t rfl (wp_seq (wp_plain _ [0,0,0,4] rfl (lw_tv 1 rfl (q_nil rfl zN (q_fldP (p := (.pointer (some ⟨g,0,none⟩))) (b := g) (o := 0) 3 fd165_3 rfl rfl zN (e_setB (k := 3) (w := w66) sz2 rfl rfl ⟨rfl,rfl⟩ hB66 sM zN fun w130 hC130 hz130 hB130 => ?_))))))))
               replace hB130 : BX w130.heap g [vp,(.int .i64 ((o :Nat):Int)),(.int .i64 ((s66 :Nat):Int)),(.int .i64 ((6 :Nat):Int))] := hB130
               have hE130 : Chg [g] w w130 := hE66.trans hC130
               have hzs130:=hC130.size
               have hF131 := hF70.chg hC130 (fun hm => by have := List.mem_singleton.1 hm; omega)
               have hN132 := hr66.run g2 hgS hC130
               have hN133 := hr127.run g1 hgS hC130
               refine lw_nil (wp_seq (wp_plain _ [0,3,0] rfl (lw_tv 1 rfl (lw_call 232 [] [] [(.pointer (some ⟨g,0,none⟩)),(.int .i64 ((0 :Nat):Int))] rfl rfl cf232 zN (c_impl_evaluation_constant _ S g vp dp (o) (s66) (((6 :Nat):Int)) (p) _ (fun b hb => (by have := hS b hb; omega : b < w130.heap.size)) hgS hB130 (hp.chg (good_rdS (good_rFn dp)) (hE130.sub (subS hgS))) oM oM oM oM) ?_))))
               rintro e134 w134 ⟨v134_0,rfl,hX134,hO134_0⟩
               refine ⟨_,rfl,hX134,?_⟩
               have hzs134:=hX134.size
               have hE134 : Chg [g] w w134 := hE130.ext hX134
               have hB130x134 := hB130.ext hX134
               have hF131x134 := hF131.ext hX134
               have hN135 := hN132.ext g2 hX134
               have hN136 := hN133.ext g1 hX134
               refine lw_tvn 1 rfl (wp_ret (t_ret ?_))
               exact post_ret [6] rfl v134_0 rfl ⟨v134_0,cst (o + 1) ((0 :Nat):Int),s66,((6 :Nat):Int),rfl,hE134,hB130x134,(RN.of_fr1 hO134_0 (fun b hb => by have := hS b hb; omega)),z199_3,oM,oM,(by first | exact rel_code oM | exact rel_budget oM oM | exact rel_num hc00 hs1 oM | exact rel_var hc00 hs1 oM | exact rel_if0 hc00 hs1 oM oM ‹RelV (go c0 (evE _ _ (ex.kids.getD 0 _) _ _)) _ _ _› oM (by assumption) | exact rel_if1 hc00 hs1 oM oM ‹RelV (go c0 (evE _ _ (ex.kids.getD 0 _) _ _)) _ _ _› oM (by assumption) | exact rel_let hc00 hs1 oM oM ‹RelV (go c0 (evE _ _ (ex.kids.getD 0 _) _ _)) _ _ _› (by assumption) | exact rel_kidsE hc00 hs1 hkg.1 hkg.2.1 hkg.2.2.1 hkg.2.2.2 hKr oM | exact rel_call hc00 hs1 oM oM hKr oM (by assumption) | exact rel_loop hc00 hs1 oM oM hKr oM (rel_stop hrl9 oM oM) | exact rel_op hc00 hs1 hkg.1 hkg.2.1 hkg.2.2.1 hkg.2.2.2 oM oM hKr oM (by rw [show ((6 :Nat):Int) = 0 from by omega]; exact op_add oM) | exact rel_op hc00 hs1 hkg.1 hkg.2.1 hkg.2.2.1 hkg.2.2.2 oM oM hKr oM (by rw [show ((6 :Nat):Int) = 0 from by omega]; exact op_sub oM) | exact rel_op hc00 hs1 hkg.1 hkg.2.1 hkg.2.2.1 hkg.2.2.2 oM oM hKr oM (by rw [show ((6 :Nat):Int) = 0 from by omega]; exact op_mul oM) | exact rel_op hc00 hs1 hkg.1 hkg.2.1 hkg.2.2.1 hkg.2.2.2 oM oM hKr oM (by rw [show ((6 :Nat):Int) = 0 from by omega]; exact op_neg oM) | exact rel_op hc00 hs1 hkg.1 hkg.2.1 hkg.2.2.1 hkg.2.2.2 oM oM hKr oM (by rw [show ((6 :Nat):Int) = 0 from by omega]; exact op_div oM oM) | exact rel_op hc00 hs1 hkg.1 hkg.2.1 hkg.2.2.1 hkg.2.2.2 oM oM hKr oM (op_div0 oM oM))⟩
              ·
               refine q_eql false rfl rfl (decide_eq_false hc129) zN (lw_nil (c_cond_f rfl (wp_skip (wp_seq (wp_draw _ [0,0,1,0,0,1,3,0] mixed (by kernel_rfl) (lw_tv 1 rfl (q_idx (v := v66) 0 u32 ti27 rfl rfl hr66.slL rfl sD zN ?_)))))))
               obtain ⟨ue137,hl137,hr137⟩ := RN.getL (w := w66) g1 [] (k := 0) hr66 sD
               have hln137 := hr137.lenL
               unfold maxLen at hln137
               refine q_load (p := eptr v66 0 1) (.inl rfl) ue137 one27 rfl (hl137 _ (Chg.refl _ _).drew) zN (lw_tv 1 rfl (q_idx (v := v66) 1 u32 ti27 rfl rfl hr66.slL rfl sD zN ?_))
               obtain ⟨ue138,hl138,hr138⟩ := RN.getL (w := w66) g1 [] (k := 1) hr66 sD
               have hln138 := hr138.lenL
               unfold maxLen at hln138
               refine q_load (p := eptr v66 1 1) (.inl rfl) ue138 one27 rfl (hl138 _ (Chg.refl _ _).drew) zN (lw_call 185 [] [] [ue137,ue138] rfl rfl cf185 zN (c_impl_quotient _ _ _ _ _ (hr137).rd (hr138).rd z199_5 z199_4 (by have := hK1.1; omega) (by exact hK0.2) (by exact hK1.2)) ?_)
               rintro e139 w139 ⟨v139_0,rfl,hX139,hO139_0⟩
               refine ⟨_,rfl,hX139,?_⟩
               replace hX139 := hX139.of_drew
               have hzs139:=hX139.size
               have hE139 : Chg [g] w w139 := hE66.ext hX139
               have hB66x139 := hB66.ext hX139
               have hF70x139 := hF70.ext hX139
               have hN140 := hr66.ext g2 hX139
               have hN141 := hr127.ext g1 hX139
               have hN142 := hr137.ext g1 hX139
               have hN143 := hr138.ext g1 hX139
               replace hO139_0 := hO139_0.low (B' := w66.heap.size) (Nat.le_refl _)
               refine lw_tvn 1 rfl (wp_ret ?_)
               exact post_ret [6] rfl v139_0 rfl ⟨v139_0,quoS (x66.getD 0 []) (x66.getD 1 []),s66,c66,rfl,hE139,hB66x139,(RN.of_fr1 hO139_0 (fun b hb => by have := hS b hb; omega)),z199_3,oM,oM,z199_0⟩
end Go.Proofs.YtnokbaiemimhjaaGreat
namespace Go.Proofs.YtnokbaiemimhjaaGreat
open Go Go.RowKit
set_option linter.unusedVariables false
set_option linter.unusedSimpArgs false
set_option maxHeartbeats 4000000
set_option maxRecDepth 100000
attribute [local irreducible] LW
theorem c_value : ∀ F d,PV F d := by
 intro F
 induction F using Nat.strongRecOn with
 | _ F ihF =>
  intro d
  induction d using Nat.strongRecOn with
  | _ d ihd =>
   intro w S g vp dp o s0 c0 p ve ex vv env hS hgS hB0 hp ho hs0 hc0 hex henv hqenv hvp hF hwf hse hdp
   exact c_impl_evaluation_value w S F g vp dp o s0 c0 p d ve ex vv env hS hgS hB0 hp ho hs0 hc0 hex henv hqenv hvp hF hwf hse hdp ihF ihd
theorem c_alls (F d : Nat) : PA F d := c_all F d fun d' _ => c_value F d'
theorem c_impl_Program_evaluated (w : World) (dp : Nat) (vp : Value) (p : List Fn) (f : Int) (va : Value) (a : List (List Int)) (o : Nat) (hp : RP [] dp w.heap vp p) (_hf : -9223372036854775808 ≤ f ∧ f ≤ 9223372036854775807) (ha : RN [] (rdL (rdL rI)) w.heap va a) (hqa : CapS va) (hvp : VPr p) (hf : 0 ≤ f ∧ f < ((p.length :Nat):Int)) (hl : ((a.length :Nat):Int) = (p.getD f.toNat Fn.zero).params) (hse : SrE (o + 1) a) (ho : o ≤ 12) :
  Calls Tryz.prog 86 #[(.agg #[vp]),.int .i64 f,va,.int .i64 ((o :Nat):Int)] w (fun e w' => ∃ v0 : Value,e = .returned (.tuple #[v0,.int .i64 ((evT p (o + 1) f.toNat a :Nat):Int),.int .i64 (evD p (o + 1) f.toNat a)]) ∧ Ext w w' ∧ Fr (owL (owL rI 2) 27) w.heap.size w'.heap.size w'.heap v0 (evR p (o + 1) f.toNat a) ∧ EvP p (o + 1) f.toNat a) := by
 refine calls_mk [(.agg #[vp]),.int .i64 f,va,.int .i64 ((o :Nat):Int)] 56 Tryz.func86 rfl rfl sM ?_
 have hE0 : Ext w w := Ext.refl w
 have hl_vp := hp.lenle
 unfold maxLen at hl_vp
 have hl_va := ha.lenL
 unfold maxLen at hl_va
 refine wp_seq (wp_plain _ [3,0,0,0] rfl (r_boxA (cs := #[vp]) rfl zN fun w1 hX1 hz1 hB1 => ?_))
 have hzs1:=hX1.size
 have hE1:=hE0.trans hX1
 replace hB1 : BX w1.heap w.heap.size [vp] := hB1
 refine lw_tvn 3 rfl (wp_seq (wp_plain _ [2,0,0,3,0] rfl (q_loadA (p := (.pointer (some ⟨w.heap.size,0,none⟩))) (.inr rfl) [vp] agg26 rfl (fun wq9 hw9 => LD.of_box (BX.ext (w := w1) hB1 hw9)) rfl zN (lw_tv 1 rfl ?_))))
 have hbd2 : ∀ (vp : Value) (m2_0 : Nat) (h2_0 : isSl vp m2_0) (wq : World),(Instr.build 165 #[(0,(.agg #[vp])),(1,(.int .i64 ((o :Nat):Int)))]).run Tryz.prog wq = .ok (.agg #[vp,(.int .i64 ((o :Nat):Int)),(.int .i64 0),(.int .i64 0)]) wq := by intro vp m2_0 h2_0 wq; obtain ⟨a2_0,c2_0,rfl,_⟩ := h2_0; kernel_rfl
 refine q_build (ps := #[(0,(.agg #[vp])),(1,(.int .i64 ((o :Nat):Int)))]) (.agg #[vp,(.int .i64 ((o :Nat):Int)),(.int .i64 0),(.int .i64 0)]) (by simp only [List.map_toArray,List.map_cons,List.map_nil]; rfl) (fun wq => hbd2 vp _ hp.isSl wq) zN ?_
 have hq4 := hB1.lt
 refine r_boxA (cs := #[vp,(.int .i64 ((o :Nat):Int)),(.int .i64 0),(.int .i64 0)]) rfl zN fun w3 hX3 hz3 hB3 => ?_
 have hzs3:=hX3.size
 have hE3:=hE1.trans hX3
 have hB1x3 := hB1.ext hX3
 replace hB3 : BX w3.heap w1.heap.size [vp,(.int .i64 ((o :Nat):Int)),(.int .i64 0),(.int .i64 0)] := hB3
 refine lw_tvn 1 rfl (wp_seq (wp_plain _ [0,0,2,0,0,0,2,0,4,0] rfl ?_))
 have hpr := hvp.par f.toNat oM
 have hou := hvp.outs f.toNat oM
 refine lw_tv 1 rfl (q_fldP (p := (.pointer (some ⟨w.heap.size,0,none⟩))) (b := w.heap.size) (o := 0) 0 fd26_0 rfl rfl zN (q_load (p := (padd (.pointer (some ⟨w.heap.size,0,none⟩)) 0)) (.inr rfl) vp one24 rfl (hB1x3.ldp (i := 0) sM) zN (lw_tv 1 rfl (q_idx (v := vp) ((f).toNat) u24 tiS55 rfl rfl hp.isSl oM sD zN ?_))))
 obtain ⟨cs5,hr5,hl5⟩ := hp.get (good_rFn dp) Fn.zero (k := ((f).toNat)) sD
 obtain ⟨ve5,rfl,hx5⟩ := RF.of hr5
 have hln5 := hx5.rn.lenle
 unfold maxLen at hln5
 refine q_fldL (p := eptr vp ((f).toNat) 3) 2 fd55_2 rfl (hl5 _ (Chg.of_ext [] hE3)) zN (q_load (p := (padd (eptr vp ((f).toNat) 3) 2)) (.inr rfl) ve5 one53 rfl ((hl5 _ (Chg.of_ext [] hE3)).ld (i := 2) (by simp [exC,fnC])) zN (lw_tv 1 rfl ?_))
 refine lw_callE 153 [] [] [(.pointer (some ⟨w1.heap.size,0,none⟩)),ve5,va] rfl rfl cf153 zN (c_alls (f.toNat) dp _ [w1.heap.size] w1.heap.size vp dp (o) (0) (0) (p) ve5 ((p.getD ((f).toNat) Fn.zero).outs) va (a) (fun b hb => (by have := List.mem_singleton.1 hb; omega : b < w3.heap.size)) (List.mem_singleton.2 rfl) hB3 ((hp.add (F := [w1.heap.size]) (good_rdS (good_rFn dp)) (fun b hb => by have := List.mem_singleton.1 hb; omega)).ext (good_rdS (good_rFn dp)) hE3) oM oM oM ((hx5.rn.add (F := [w1.heap.size]) (good_rdS (good_rEx dp)) (fun b hb => by have := List.mem_singleton.1 hb; omega)).ext (good_rdS (good_rEx dp)) hE3) ((ha.add (F := [w1.heap.size]) g2 (fun b hb => by have := List.mem_singleton.1 hb; omega)).ext g2 hE3) hqa (by exact hvp) oM (by intro k hk; have h9 := hvp.wf f.toNat oM k hk; rw [hl]; exact h9) (by exact hse) (by intro k hk; have := hvp.deep f.toNat oM k hk; omega) oM) ?_
 rintro e6 w6 ⟨v6,x6,s6,c6,rfl,hC6,hB6,hr6,hse6,hsb6,hcb6,hrl6⟩
 refine ⟨_,rfl,?_⟩
 have hzs6:=hC6.size
 have hE6 : Ext w w6 := hC6.below hE3 (fun b hb => by have : b = w1.heap.size := (by simpa using hb); omega) hE3.size
 have hF9 := hB1x3.chg hC6 (fun hm => by have := List.mem_singleton.1 hm; omega)
 have hsn6 := hse6.2.1
 have hsr6 := hse6.2.2
 have hcp6 := hse6.1
 have hrt6 := hr6.rt g2
 have hRL := hrl6
 have hCB := hcb6
 have hEP := EvP.mk' hRL hCB hsb6 hsn6 hsr6
 have hXS := hsr6
 have hXL := hsn6
 refine lw_tvn 1 rfl (wp_seq (wp_seq (wp_plain _ [0,0,0,2,0] rfl (lw_tv 1 rfl (q_nil rfl zN (q_fldP (p := (.pointer (some ⟨w1.heap.size,0,none⟩))) (b := w1.heap.size) (o := 0) 3 fd165_3 rfl rfl zN (q_load (p := (padd (.pointer (some ⟨w1.heap.size,0,none⟩)) 3)) (.inr rfl) (.int .i64 c6) one2 rfl (hB6.ldp (i := 3) sM) zN ?_)))))))
 by_cases hc11 : c6 ≠ ((0 :Nat):Int)
 ·
  exact q_neq true rfl rfl (decide_eq_true hc11) zN (lw_nil (c_cond_t rfl (wp_seq (wp_draw _ [0,0,0,1,0,0,0] mixed (by kernel_rfl) (lw_tv 1 rfl (q_nil rfl zN (q_fldP (p := (.pointer (some ⟨w1.heap.size,0,none⟩))) (b := w1.heap.size) (o := 0) 3 fd165_3 rfl rfl zN (q_load (p := (padd (.pointer (some ⟨w1.heap.size,0,none⟩)) 3)) (.inl rfl) (.int .i64 c6) one2 rfl (hB6.ldp (i := 3) sM) zN (lw_tvn 3 rfl (wp_ret (t_ret (post_ret [8,9,10] rfl (.tuple #[(.slice none 0 0),(.int .i64 ((0 :Nat):Int)),(.int .i64 c6)]) rfl ⟨(.slice none 0 0),(by rw [evT_e (ev_err hRL oM),evD_e (ev_err hRL oM)] <;> rfl),hE6.drew,(by rw [evR_e (ev_err hRL oM)]; exact frNil _ _ _),hEP⟩))))))))))))
 ·
  refine q_neq false rfl rfl (decide_eq_false hc11) zN (lw_nil (c_cond_f rfl (wp_skip (wp_seq (wp_plain _ [3,0] rfl (r_nil (owL rI 2) o1 u32 ti27 zN fun v12 w12 hX12 hz12 hO12 => ?_))))))
  have hzs12:=hX12.size
  have hE12:=hE6.trans hX12
  have hF9x12 := hF9.ext hX12
  have hB6x12 := hB6.ext hX12
  have hN13 := hrt6.ext g2 hX12
  refine lw_tvn 1 rfl (wp_seq (wp_seq (wp_plain _ [0,0,0] rfl (lw_tv 1 rfl (q_len (v := v6) u32 rfl hN13.slL zN (lw_tvn 1 rfl (wp_block ?_)))))))
  refine c_loop (S := Nat × Value) (fun (⟨k,vo⟩ : Nat × Value) => ([(13,vo),(41,(.int .i64 ((k :Nat):Int))),(11,(.pointer (some ⟨w1.heap.size,0,none⟩))),(39,v6),(40,(.int .i64 ((x6.length :Nat):Int)))] : List (Nat × Value))) (fun (⟨k,vo⟩ : Nat × Value) (W : World) => Ext w W ∧ Fr (owL (owL rI 2) 27) w6.heap.size W.heap.size W.heap vo ((x6).take k) ∧ BX W.heap w1.heap.size [vp,(.int .i64 ((o :Nat):Int)),(.int .i64 ((s6 :Nat):Int)),(.int .i64 c6)] ∧ k ≤ (x6).length ∧ RT w6.heap.size (rdL (rdL rI)) W.heap v6 x6 ∧ w6.heap.size ≤ W.heap.size ∧ w1.heap.size < w6.heap.size ∧ w6.heap.size ≤ w6.heap.size ∧ w6.heap.size ≤ W.heap.size) (fun (⟨k,vo⟩ : Nat × Value) => (x6).length - k) (0,v12) ⟨rfl,rfl,rfl,rfl,rfl,trivial⟩ ⟨hE12,hO12.up o2,hB6x12,sD,(by assumption),oM,oM,oM,oM⟩ ?_
  clear hE0 hz1 hX1 hzs1 hE1 hz3 hX3 hzs3 hE3 hln5 hC6 hF9 hO12 hz12 hX12 hzs12 hE12 hF9x12
  rintro ⟨k,vo⟩ ρ18 w18 ⟨hE18,hL18_0,hL18_1,hp18_0,hrk14,hkB15,hkg16,hkt17,hkB19⟩
  have hzs18 : w.heap.size ≤ w18.heap.size := hE18.size
  have hq20 := hL18_1.lt
  refine wp_seq (wp_plain _ [0] rfl ?_)
  by_cases hc21 : ((k :Nat):Int) < ((x6.length :Nat):Int)
  ·
   refine q_lss true rfl rfl (decide_eq_true hc21) zN (lw_nil (wp_seq (c_cond_t rfl (wp_skip (wp_seq (wp_block (wp_seq (wp_plain _ [0,2,0] rfl ?_))))))))
   have hkx := hXS k oM
   have hkl := hkx.1
   refine q_idx (v := v6) k u32 ti27 rfl rfl hrk14.slL rfl sD zN ?_
   obtain ⟨ue22,hl22,hr22⟩ := RT.getL g1 [] (k := k) hrk14 sD
   have hln22 := hr22.lenL
   unfold maxLen at hln22
   refine q_load (p := eptr v6 k 1) (.inr rfl) ue22 one27 rfl hl22 zN (lw_tvn 1 rfl (wp_plain _ [0,0,3,3,4,0] rfl (lw_tv 2 rfl (lw_call 101 [] [] [ue22] rfl rfl cf101 zN (c_slices_Clone___int64_int64_ _ _ _ hr22.rd oM) ?_))))
   rintro e23 w23 ⟨v23_0,rfl,hX23,hO23_0⟩
   refine ⟨_,rfl,hX23,?_⟩
   have hzs23:=hX23.size
   have hE23:=hE18.trans hX23
   have hL18_0x23 := hL18_0.ext (o2) hX23
   have hL18_1x23 := hL18_1.ext hX23
   have hN24 := hrk14.ext g2 hX23
   have hN25 := hr22.ext g1 hX23
   refine r_one (u := v23_0) (B := w18.heap.size) o1 u32 ti27 rfl rfl hO23_0 (by first | exact Nat.le_refl _ | omega) zN fun v26 w26 hX26 hz26 hO26 => ?_
   have hzs26:=hX26.size
   have hE26:=hE23.trans hX26
   have hL18_0x26 := hL18_0x23.ext (o2) hX26
   have hL18_1x26 := hL18_1x23.ext hX26
   have hN27 := hN24.ext g2 hX26
   have hN28 := hN25.ext g1 hX26
   refine e_appF o1 (v := vo) (a := v26) u32 ti27 rfl rfl rfl hL18_0x26 oM hO26 oM oM sD (by unfold maxLen; first | omega | assumption | (simp; done) | (simp; omega)) zN fun v29 w29 F29 hC29 hF29 hO29 => ?_
   have hE29 : Ext w w29 := hC29.below hE26 (fun c hc => Nat.le_trans hE6.size (hF29 c hc).1) hE26.size
   have hzs29:=hC29.size
   have hN30 := hN27.chg g2 hC29 (fun c hc => by have := hF29 c hc; omega)
   have hN31 := hN28.chg g1 hC29 (fun c hc => by have := hF29 c hc; omega)
   have hF32 := hL18_1x26.chg hC29 (fun hm => by have := hF29 _ hm; omega)
   refine lw_tvn 1 rfl (wp_plain _ [0,0] rfl (q_add ((k + 1 :Nat):Int) rfl rfl (w64n oM sD) zN (lw_tvn 1 rfl ?_)))
   exact ⟨((k + 1),v29),_,rfl,⟨rfl,rfl,rfl,rfl,rfl,trivial⟩,⟨hE29,(by rw [take_snoc [] oM]; exact hO29.up o2),hF32,sD,(by assumption),oM,oM,oM,oM⟩,by first | omega | (dsimp only; omega)⟩
  ·
   refine q_lss false rfl rfl (decide_eq_false hc21) zN (lw_nil (wp_seq (c_cond_f rfl (wp_exit (t_exit (t_exit (c_exit_here (wp_seq (wp_draw _ [0,0,0,0,1,0,0,0] mixed (by kernel_rfl) (lw_tv 2 rfl (q_nil rfl zN (q_fldP (p := (.pointer (some ⟨w1.heap.size,0,none⟩))) (b := w1.heap.size) (o := 0) 2 fd165_2 rfl rfl zN (q_load (p := (padd (.pointer (some ⟨w1.heap.size,0,none⟩)) 2)) (.inl rfl) (.int .i64 ((s6 :Nat):Int)) one2 rfl (hL18_1.ldp (i := 2) sM) zN (lw_tvn 3 rfl (wp_ret ?_)))))))))))))))
   exact post_ret [8,9,10] rfl (.tuple #[vo,(.int .i64 ((s6 :Nat):Int)),(.int .i64 ((0 :Nat):Int))]) rfl ⟨vo,(by rw [evT_o (ev_ok hRL oM),evD_o (ev_ok hRL oM)] <;> rfl),hE18.drew,(by have h := (hL18_0.up o2).low hE6.size; rw [evR_o (ev_ok hRL oM)]; rwa [List.take_of_length_le oM] at h),hEP⟩
end Go.Proofs.YtnokbaiemimhjaaGreat
namespace Go.Proofs.YtnokbaiemimhjaaGreat
open Go Go.RowKit
set_option linter.unusedVariables false
set_option linter.unusedSimpArgs false
set_option maxHeartbeats 4000000
set_option maxRecDepth 100000
attribute [local irreducible] LW
theorem c_impl_ExprSize (w : World) (dex : Nat) (ve : Value) (ex : Ex) (hex : RX [] dex w.heap ve ex) (hs : ex.size ≤ 1000000000) :
  Calls Tryz.prog 198 #[(.agg #[(.int .i64 ex.kind),(.int .i64 ex.num),(.int .i64 ex.pick),(.int .i64 ex.count),ve])] w (fun e w' => e = .returned (.int .i64 ((ex.size :Nat):Int)) ∧ Ext w w') := by
 induction dex using Nat.strongRecOn generalizing w ve ex
 rename_i dex ih
 refine calls_mk [(.agg #[(.int .i64 ex.kind),(.int .i64 ex.num),(.int .i64 ex.pick),(.int .i64 ex.count),ve])] 19 Tryz.func198 rfl rfl sM ?_
 have hE0 : Ext w w := Ext.refl w
 have hl_ve := hex.rn.lenle
 unfold maxLen at hl_ve
 have hsk := size_kids ex
 refine wp_seq (wp_plain _ [3,0] rfl (r_boxA (cs := #[(.int .i64 ex.kind),(.int .i64 ex.num),(.int .i64 ex.pick),(.int .i64 ex.count),ve]) rfl zN fun w1 hX1 hz1 hB1 => ?_))
 have hzs1:=hX1.size
 have hE1:=hE0.trans hX1
 replace hB1 : BX w1.heap w.heap.size [(.int .i64 ex.kind),(.int .i64 ex.num),(.int .i64 ex.pick),(.int .i64 ex.count),ve] := hB1
 refine lw_tvn 1 rfl (wp_seq (wp_plain _ [0] rfl (lw_tvn 1 rfl (wp_seq (wp_seq (wp_plain _ [0,2,0,0] rfl (q_fldP (p := (.pointer (some ⟨w.heap.size,0,none⟩))) (b := w.heap.size) (o := 0) 4 fd174_4 rfl rfl zN (q_load (p := (padd (.pointer (some ⟨w.heap.size,0,none⟩)) 4)) (.inr rfl) ve one53 rfl (hB1.ldp (i := 4) sM) zN (q_len (v := ve) u53 rfl hex.rn.isSl zN (lw_tvn 1 rfl (wp_block ?_)))))))))))
 refine c_loop (S := Nat × Nat) (fun (⟨k,sz⟩ : Nat × Nat) => ([(3,(.int .i64 ((sz :Nat):Int))),(9,(.int .i64 ((k :Nat):Int))),(7,ve),(8,(.int .i64 ((ex.kids.length :Nat):Int)))] : List (Nat × Value))) (fun (⟨k,sz⟩ : Nat × Nat) (W : World) => Ext w W ∧ k ≤ ex.kids.length ∧ sz = 1 + Ex.sizes (ex.kids.take k)) (fun (⟨k,sz⟩ : Nat × Nat) => ex.kids.length - k) (0,1) ⟨rfl,rfl,rfl,rfl,trivial⟩ ⟨hE1,sD,(by rw [List.take_zero,sizes_nil])⟩ ?_
 clear hE0 hz1 hX1 hzs1 hE1
 rintro ⟨k,sz⟩ ρ2 w2 ⟨hE2,hp2_0,hsz⟩
 have hzs2 : w.heap.size ≤ w2.heap.size := hE2.size
 refine wp_seq (wp_plain _ [0] rfl ?_)
 by_cases hc3 : ((k :Nat):Int) < ((ex.kids.length :Nat):Int)
 ·
  refine q_lss true rfl rfl (decide_eq_true hc3) zN (lw_nil (wp_seq (c_cond_t rfl (wp_skip (wp_seq (wp_block (wp_seq (wp_plain _ [0,2,3,4] rfl ?_))))))))
  have hst := sizes_step (l := ex.kids) (k := k) oM
  have hle := sizes_take ex.kids (k + 1)
  have hdt := deeps_step (l := ex.kids) (k := k) oM
  have hda := deep_size (ex.kids.getD k Ex.zero)
  refine q_idx (v := ve) k u53 tiS174 rfl rfl hex.rn.isSl rfl sD zN ?_
  obtain ⟨cs4,hr4,hl4⟩ := hex.rn.get (good_rEx dex) Ex.zero (k := k) sD
  obtain ⟨dd4,ve4,hd4,rfl,hx4⟩ := RX.of hr4
  have hln4 := hx4.rn.lenle
  unfold maxLen at hln4
  refine q_loadA (p := eptr ve k 5) (.inr rfl) [(.int .i64 ((ex.kids.getD k Ex.zero).kind)),(.int .i64 ((ex.kids.getD k Ex.zero).num)),(.int .i64 ((ex.kids.getD k Ex.zero).pick)),(.int .i64 ((ex.kids.getD k Ex.zero).count)),ve4] agg174 rfl (fun wq9 hw9 => hl4 wq9 (Chg.of_ext [] (hE2.trans hw9))) rfl zN (r_allocA (z := .agg #[.int .i64 0,.int .i64 0,.int .i64 0,.int .i64 0,.slice none 0 0]) zr174 zN fun w5 hX5 hz5 hB5 => ?_)
  have hzs5:=hX5.size
  have hE5:=hE2.trans hX5
  replace hB5 : BX w5.heap w2.heap.size [(.int .i64 0),(.int .i64 0),(.int .i64 0),(.int .i64 0),(.slice none 0 0)] := hB5
  refine e_setA (vs := [(.int .i64 ((ex.kids.getD k Ex.zero).kind)),(.int .i64 ((ex.kids.getD k Ex.zero).num)),(.int .i64 ((ex.kids.getD k Ex.zero).pick)),(.int .i64 ((ex.kids.getD k Ex.zero).count)),ve4]) agg174 rfl rfl hx4.ones hB5 rfl rfl zN fun w6 hC6 hz6 hB6 => ?_
  replace hB6 : BX w6.heap w2.heap.size [(.int .i64 ((ex.kids.getD k Ex.zero).kind)),(.int .i64 ((ex.kids.getD k Ex.zero).num)),(.int .i64 ((ex.kids.getD k Ex.zero).pick)),(.int .i64 ((ex.kids.getD k Ex.zero).count)),ve4] := hB6
  have hE6 : Ext w w6 := hC6.below hE5 (fun c hc => by have := List.mem_singleton.1 hc; omega) hE5.size
  have hzs6:=hC6.size
  refine lw_nil (wp_plain _ [0,2,3,0,0] rfl (lw_tv 1 rfl (q_loadA (p := (.pointer (some ⟨w2.heap.size,0,none⟩))) (.inr rfl) [(.int .i64 ((ex.kids.getD k Ex.zero).kind)),(.int .i64 ((ex.kids.getD k Ex.zero).num)),(.int .i64 ((ex.kids.getD k Ex.zero).pick)),(.int .i64 ((ex.kids.getD k Ex.zero).count)),ve4] agg174 rfl (fun wq9 hw9 => LD.of_box (BX.ext (w := w6) hB6 hw9)) rfl zN (lw_call 198 [] [] [(.agg #[(.int .i64 ((ex.kids.getD k Ex.zero).kind)),(.int .i64 ((ex.kids.getD k Ex.zero).num)),(.int .i64 ((ex.kids.getD k Ex.zero).pick)),(.int .i64 ((ex.kids.getD k Ex.zero).count)),ve4])] rfl rfl cf198 zN (ih dd4 oM _ ve4 (ex.kids.getD k Ex.zero) (hx4.ext hE6) oM) ?_))))
  rintro e7 w7 ⟨rfl,hX7⟩
  refine ⟨_,rfl,hX7,?_⟩
  have hzs7:=hX7.size
  have hE7:=hE6.trans hX7
  have hB6x7 := hB6.ext hX7
  refine q_add ((sz + (ex.kids.getD k Ex.zero).size :Nat):Int) rfl rfl (w64n oM oM) zN (lw_tvn 1 rfl (wp_plain _ [0,0] rfl (q_add ((k + 1 :Nat):Int) rfl rfl (w64n oM sD) zN (lw_tvn 1 rfl ?_))))
  exact ⟨((k + 1),(sz + (ex.kids.getD k Ex.zero).size)),_,rfl,⟨rfl,rfl,rfl,rfl,trivial⟩,⟨hE7,sD,oM⟩,by first | omega | (dsimp only; omega)⟩
 ·
  exact q_lss false rfl rfl (decide_eq_false hc3) zN (lw_nil (wp_seq (c_cond_f rfl (wp_exit (t_exit (t_exit (c_exit_here (wp_seq (wp_plain _ [0,0] rfl (lw_tvn 2 rfl (wp_ret (post_ret [2] rfl (.int .i64 ((sz :Nat):Int)) rfl ⟨(ret_int (by rw [hsz,sizes_all oM,hsk])),hE2⟩))))))))))))
theorem c_impl_ExprDepth (w : World) (dex : Nat) (ve : Value) (ex : Ex) (hex : RX [] dex w.heap ve ex) (hs : ex.size ≤ 1000000000) :
  Calls Tryz.prog 230 #[(.agg #[(.int .i64 ex.kind),(.int .i64 ex.num),(.int .i64 ex.pick),(.int .i64 ex.count),ve])] w (fun e w' => e = .returned (.int .i64 ((ex.deep :Nat):Int)) ∧ Ext w w') := by
 induction dex using Nat.strongRecOn generalizing w ve ex
 rename_i dex ih
 refine calls_mk [(.agg #[(.int .i64 ex.kind),(.int .i64 ex.num),(.int .i64 ex.pick),(.int .i64 ex.count),ve])] 20 Tryz.func230 rfl rfl sM ?_
 have hE0 : Ext w w := Ext.refl w
 have hl_ve := hex.rn.lenle
 unfold maxLen at hl_ve
 have hsk := size_kids ex
 have hdk := deep_kids ex
 refine wp_seq (wp_plain _ [3,0] rfl (r_boxA (cs := #[(.int .i64 ex.kind),(.int .i64 ex.num),(.int .i64 ex.pick),(.int .i64 ex.count),ve]) rfl zN fun w1 hX1 hz1 hB1 => ?_))
 have hzs1:=hX1.size
 have hE1:=hE0.trans hX1
 replace hB1 : BX w1.heap w.heap.size [(.int .i64 ex.kind),(.int .i64 ex.num),(.int .i64 ex.pick),(.int .i64 ex.count),ve] := hB1
 refine lw_tvn 1 rfl (wp_seq (wp_plain _ [0] rfl (lw_tvn 1 rfl (wp_seq (wp_seq (wp_plain _ [0,2,0,0] rfl (q_fldP (p := (.pointer (some ⟨w.heap.size,0,none⟩))) (b := w.heap.size) (o := 0) 4 fd174_4 rfl rfl zN (q_load (p := (padd (.pointer (some ⟨w.heap.size,0,none⟩)) 4)) (.inr rfl) ve one53 rfl (hB1.ldp (i := 4) sM) zN (q_len (v := ve) u53 rfl hex.rn.isSl zN (lw_tvn 1 rfl (wp_block ?_)))))))))))
 refine c_loop (S := Nat × Nat) (fun (⟨k,sz⟩ : Nat × Nat) => ([(3,(.int .i64 ((sz :Nat):Int))),(9,(.int .i64 ((k :Nat):Int))),(7,ve),(8,(.int .i64 ((ex.kids.length :Nat):Int)))] : List (Nat × Value))) (fun (⟨k,sz⟩ : Nat × Nat) (W : World) => Ext w W ∧ k ≤ ex.kids.length ∧ sz = Ex.deeps (ex.kids.take k)) (fun (⟨k,sz⟩ : Nat × Nat) => ex.kids.length - k) (0,0) ⟨rfl,rfl,rfl,rfl,trivial⟩ ⟨hE1,sD,(by rw [List.take_zero,deeps_nil])⟩ ?_
 clear hE0 hz1 hX1 hzs1 hE1
 rintro ⟨k,sz⟩ ρ2 w2 ⟨hE2,hp2_0,hsz⟩
 have hzs2 : w.heap.size ≤ w2.heap.size := hE2.size
 refine wp_seq (wp_plain _ [0] rfl ?_)
 by_cases hc3 : ((k :Nat):Int) < ((ex.kids.length :Nat):Int)
 ·
  refine q_lss true rfl rfl (decide_eq_true hc3) zN (lw_nil (wp_seq (c_cond_t rfl (wp_skip (wp_seq (wp_block (wp_seq (wp_plain _ [0,2,3,4] rfl ?_))))))))
  have hst := sizes_step (l := ex.kids) (k := k) oM
  have hle := sizes_take ex.kids (k + 1)
  have hdt := deeps_step (l := ex.kids) (k := k) oM
  have hda := deep_size (ex.kids.getD k Ex.zero)
  refine q_idx (v := ve) k u53 tiS174 rfl rfl hex.rn.isSl rfl sD zN ?_
  obtain ⟨cs4,hr4,hl4⟩ := hex.rn.get (good_rEx dex) Ex.zero (k := k) sD
  obtain ⟨dd4,ve4,hd4,rfl,hx4⟩ := RX.of hr4
  have hln4 := hx4.rn.lenle
  unfold maxLen at hln4
  refine q_loadA (p := eptr ve k 5) (.inr rfl) [(.int .i64 ((ex.kids.getD k Ex.zero).kind)),(.int .i64 ((ex.kids.getD k Ex.zero).num)),(.int .i64 ((ex.kids.getD k Ex.zero).pick)),(.int .i64 ((ex.kids.getD k Ex.zero).count)),ve4] agg174 rfl (fun wq9 hw9 => hl4 wq9 (Chg.of_ext [] (hE2.trans hw9))) rfl zN (r_allocA (z := .agg #[.int .i64 0,.int .i64 0,.int .i64 0,.int .i64 0,.slice none 0 0]) zr174 zN fun w5 hX5 hz5 hB5 => ?_)
  have hzs5:=hX5.size
  have hE5:=hE2.trans hX5
  replace hB5 : BX w5.heap w2.heap.size [(.int .i64 0),(.int .i64 0),(.int .i64 0),(.int .i64 0),(.slice none 0 0)] := hB5
  refine e_setA (vs := [(.int .i64 ((ex.kids.getD k Ex.zero).kind)),(.int .i64 ((ex.kids.getD k Ex.zero).num)),(.int .i64 ((ex.kids.getD k Ex.zero).pick)),(.int .i64 ((ex.kids.getD k Ex.zero).count)),ve4]) agg174 rfl rfl hx4.ones hB5 rfl rfl zN fun w6 hC6 hz6 hB6 => ?_
  replace hB6 : BX w6.heap w2.heap.size [(.int .i64 ((ex.kids.getD k Ex.zero).kind)),(.int .i64 ((ex.kids.getD k Ex.zero).num)),(.int .i64 ((ex.kids.getD k Ex.zero).pick)),(.int .i64 ((ex.kids.getD k Ex.zero).count)),ve4] := hB6
  have hE6 : Ext w w6 := hC6.below hE5 (fun c hc => by have := List.mem_singleton.1 hc; omega) hE5.size
  have hzs6:=hC6.size
  refine lw_nil (wp_plain _ [0,2,3,0,0] rfl (lw_tv 1 rfl (q_loadA (p := (.pointer (some ⟨w2.heap.size,0,none⟩))) (.inr rfl) [(.int .i64 ((ex.kids.getD k Ex.zero).kind)),(.int .i64 ((ex.kids.getD k Ex.zero).num)),(.int .i64 ((ex.kids.getD k Ex.zero).pick)),(.int .i64 ((ex.kids.getD k Ex.zero).count)),ve4] agg174 rfl (fun wq9 hw9 => LD.of_box (BX.ext (w := w6) hB6 hw9)) rfl zN (lw_call 230 [] [] [(.agg #[(.int .i64 ((ex.kids.getD k Ex.zero).kind)),(.int .i64 ((ex.kids.getD k Ex.zero).num)),(.int .i64 ((ex.kids.getD k Ex.zero).pick)),(.int .i64 ((ex.kids.getD k Ex.zero).count)),ve4])] rfl rfl cf230 zN (ih dd4 oM _ ve4 (ex.kids.getD k Ex.zero) (hx4.ext hE6) oM) ?_))))
  rintro e7 w7 ⟨rfl,hX7⟩
  refine ⟨_,rfl,hX7,?_⟩
  have hzs7:=hX7.size
  have hE7:=hE6.trans hX7
  have hB6x7 := hB6.ext hX7
  refine q_max ((max sz ((ex.kids.getD k Ex.zero).deep) :Nat):Int) oM rfl rfl zN (lw_tvn 1 rfl (wp_plain _ [0,0] rfl (q_add ((k + 1 :Nat):Int) rfl rfl (w64n oM sD) zN (lw_tvn 1 rfl ?_))))
  exact ⟨((k + 1),(max sz ((ex.kids.getD k Ex.zero).deep))),_,rfl,⟨rfl,rfl,rfl,rfl,trivial⟩,⟨hE7,sD,oM⟩,by first | omega | (dsimp only; omega)⟩
 ·
  refine q_lss false rfl rfl (decide_eq_false hc3) zN (lw_nil (wp_seq (c_cond_f rfl (wp_exit (t_exit (t_exit (c_exit_here (wp_seq (wp_plain _ [0,0,0] rfl ?_)))))))))
  have h8 := deeps_all (l := ex.kids) (k := k) oM
  have h9 := deep_size ex
  exact lw_tv 1 rfl (q_add ((sz + 1 :Nat):Int) rfl rfl (w64n oM oM) zN (lw_tvn 1 rfl (wp_ret (post_ret [2] rfl (.int .i64 ((sz + 1 :Nat):Int)) rfl ⟨(ret_int (by rw [hsz,deeps_all oM,hdk])),hE2⟩))))
end Go.Proofs.YtnokbaiemimhjaaGreat
