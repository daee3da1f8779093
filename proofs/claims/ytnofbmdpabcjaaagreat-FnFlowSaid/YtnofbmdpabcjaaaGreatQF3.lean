/- No, Gf, T, Sa, Mr, Sb, Sf, Sk, Sx, Ve, Vf, Va, Vb: texts of this claim, joined; what the claim does not come to is left out. -/
import Derived.Test.YtnofbmdpabcjaaaGreatQF2
import Derived.Test.YtnofbmdpabcjaaaGreatProg
set_option linter.unusedVariables false
set_option linter.unusedSimpArgs false
namespace Go.Proofs.YtnofbmdpabcjaaaGreat
open Go Go.RowKit
set_option linter.unusedVariables false
set_option linter.unusedSimpArgs false
/-- The derivative of a series. -/
def drv (a : Sr) : Sr := tab a.length fun k => if k + 1 < a.length then md (((k + 1 : Nat) : Int) * a.getD (k + 1) 0) else 0
@[simp] theorem drv_len (a : Sr) : (drv a).length = a.length := by simp [drv]
theorem drv_at {a : Sr} {k : Nat} (h : k + 1 < a.length) : (drv a).getD k 0 = md (((k + 1 : Nat) : Int) * a.getD (k + 1) 0) := by
  unfold drv; rw [tab_get _ (by omega), if_pos h]
def ckB (v y : List Sr) : Bool := (List.range y.length).all fun i => (List.range ((y.getD i []).length - 1)).all fun k => decide ((drv (y.getD i [])).getD k 0 = (v.getD i []).getD k 0)
theorem inv_back {m x y : Int} (hm : 0 < m) (hm2 : m < 1000003) (hy : 0 ≤ y ∧ y < 1000003) (hx : 0 ≤ x ∧ x < 1000003) : md (m * y) = x ↔ md (x * inv m) = y := by
  constructor
  · intro h
    rw [← h, md_mull, Int.mul_assoc, Int.mul_comm y, ← Int.mul_assoc, ← md_mull, inv_mul hm hm2, Int.one_mul, md_of hy.1 hy.2]
  · intro h
    rw [← h, md_mulr, Int.mul_comm m, Int.mul_assoc, Int.mul_comm (inv m), ← md_mulr, inv_mul hm hm2, Int.mul_one, md_of hx.1 hx.2]
theorem ckB_iff {o : Nat} (ho : o ≤ 12) {v y : List Sr} (hy : SrE (o + 1) y) (hv : SrE (o + 1) v) (hl : v.length = y.length) : ckB v y = true ↔ picS v y = y := by
  unfold ckB
  rw [List.all_eq_true]
  have key : ∀ i, i < y.length → ∀ k, k < o → ((drv (y.getD i [])).getD k 0 = (v.getD i []).getD k 0 ↔ ((picS v y).getD i []).getD (k + 1) 0 = (y.getD i []).getD (k + 1) 0) := fun i hi k hk => by
    rw [drv_at (by rw [(hy i hi).1]; omega), picS_at (by omega), (hv i (by omega)).1, if_pos (by omega), if_neg (by omega)]
    exact inv_back (by omega) (by omega) (allN_get (hy i hi).2 _) (allN_get (hv i (by omega)).2 _)
  constructor
  · intro h
    refine extR (by rw [picS_len, hl]) fun i hi => ?_
    rw [picS_len, hl] at hi
    have h1 := h i (List.mem_range.2 hi)
    have hr : ((picS v y).getD i []).length = o + 1 := by
      have := (picS_ser (by omega) hv hy (by omega) i (by rw [picS_len]; omega)).1
      exact this
    refine ext0 (by rw [hr, (hy i hi).1]) fun j hj => ?_
    rw [hr] at hj
    cases j with
    | zero => rw [picS_at (by omega), (hv i (by omega)).1, if_pos (by omega), if_pos rfl]
    | succ k =>
      refine (key i hi k (by omega)).1 ?_
      have h2 := List.all_eq_true.1 h1 k (List.mem_range.2 (by rw [(hy i hi).1]; omega))
      exact of_decide_eq_true h2
  · intro h i hi
    have hi' := List.mem_range.1 hi
    rw [List.all_eq_true]
    intro k hk
    have hk' := List.mem_range.1 hk
    rw [(hy i hi').1] at hk'
    exact decide_eq_true ((key i hi' k (by omega)).2 (by rw [h]))
/-- The check says whether the series are the flow. -/
theorem ck_flow {p : List Fn} {f o : Nat} {a : List Int} (h : Fld p f a) (hc : nxC p f a = 0) (ho : o ≤ 12) {y : List Sr} (hy : SrE (o + 1) y) (hl : y.length = a.length) (h1 : ag 1 y (extS a (o + 1))) :
    ckB (evR p (o + 1) f y) y = decide (flI p f (extS a (o + 1)) (o + 1) = y) := by
  obtain ⟨q1, q2, q3⟩ := pic_P h hy hl h1
  have hvl : (evR p (o + 1) f y).length = y.length := by have := q3.len (by rw [q2, hc]); have := h.hl; have := h.ho; omega
  have e : picR p f y = picS (evR p (o + 1) f y) y := by unfold picR; rw [q1]
  have hi := ckB_iff ho hy q3.ser hvl
  rw [← e] at hi
  by_cases hf : flI p f (extS a (o + 1)) (o + 1) = y
  · rw [decide_eq_true hf, hi, ← hf]; exact fl_fix h hc
  · rw [decide_eq_false hf]
    cases hb : ckB (evR p (o + 1) f y) y with
    | false => rfl
    | true => exact absurd (fl_uniq h hc hy hl h1 (hi.1 hb)).symm hf
theorem ag_firsts {o : Nat} {y : List Sr} : ag 1 y (extS (y.map fun s => s.getD 0 0) (o + 1)) := by
  refine ⟨by rw [extS_len, List.length_map], fun i j hj => ?_⟩
  by_cases hi : i < y.length
  · rw [extS_at (by rw [List.length_map]; exact hi), map_getD (d := []) hi, show j = 0 from by omega]
    unfold cst; rw [List.replicate_succ]; rfl
  · have e1 : y.getD i [] = [] := by rw [List.getD_eq_getElem?_getD, List.getElem?_eq_none (by omega)]; rfl
    have e2 : (extS (y.map fun s => s.getD 0 0) (o + 1)).getD i [] = [] := by rw [List.getD_eq_getElem?_getD, List.getElem?_eq_none (by rw [extS_len, List.length_map]; omega)]; rfl
    rw [e1, e2]
/-- Two lists of rows, compared row by row. -/
def eqL (pr : Sr → Sr → Bool) (a b : List Sr) : Bool := decide (a.length = b.length) && (List.range a.length).all fun i => pr (a.getD i []) (b.getD i [])
theorem eqL_eq (a b : List Sr) : eqL (fun x y => decide (x = y)) a b = decide (a = b) := by
  unfold eqL
  by_cases h : a = b
  · subst h
    rw [decide_eq_true rfl, decide_eq_true rfl, Bool.true_and, List.all_eq_true]
    exact fun i _ => decide_eq_true rfl
  · rw [decide_eq_false h]
    by_cases hl : a.length = b.length
    · rw [decide_eq_true hl, Bool.true_and]
      cases hb : (List.range a.length).all fun i => decide (a.getD i [] = b.getD i []) with
      | false => rfl
      | true =>
        exact absurd (extR hl fun i hi => of_decide_eq_true (List.all_eq_true.1 hb i (List.mem_range.2 hi))) h
    · rw [decide_eq_false hl]; rfl
section
variable {p : List Fn} {f g o pk : Int} {a : Sr}
theorem fld_of {p : List Fn} {f o : Int} {a : Sr} (h : stC p f o [a] = 0) : Fld p f.toNat a ∧ (0 ≤ f ∧ f < ((p.length : Nat) : Int)) ∧ (0 ≤ o ∧ o ≤ 12) := by
  obtain ⟨q1, q2, q3, q4, q5, q6⟩ := stC_one h
  exact ⟨⟨okP_vpr q1, by omega, q4.2, q4.1, by omega, q5⟩, q2, q6⟩
end
end Go.Proofs.YtnofbmdpabcjaaaGreat
namespace Go.Proofs.YtnofbmdpabcjaaaGreat
open Go Go.RowKit
set_option linter.unusedVariables false
set_option linter.unusedSimpArgs false
/-- A drawn field, with numbers. -/
structure FldD (p : List Fn) (f : Int) (a b d : List Int) : Prop where
  ok : okP p = true
  len : 1 ≤ p.length ∧ p.length ≤ 12
  fe : f = ((p.length : Nat) : Int) - 1
  sq : (((p.getD f.toNat Fn.zero).outs.length : Nat) : Int) = (p.getD f.toNat Fn.zero).params
  par : 1 ≤ (p.getD f.toNat Fn.zero).params ∧ (p.getD f.toNat Fn.zero).params ≤ 3
  la : ((a.length : Nat) : Int) = (p.getD f.toNat Fn.zero).params
  na : allN a = true
  dr : DPr p false
theorem FldD.mk' {p : List Fn} {g : Fn} {f : Int} {i : Nat} {a b d : List Int} (h : DPr p false) (hd : Dn p) (hl : p.length ≤ 9) (hp : 1 ≤ g.params ∧ g.params ≤ 3) (ho : FOk p g.params false g.outs i) (hi : ((i : Nat) : Int) = g.params) (hn : g.name ∈ fixN)
    (hf : f = ((p.length : Nat) : Int)) (hla : ((a.length : Nat) : Int) = g.params) (hna : allN a = true) : FldD (p ++ [g]) f a b d := by
  have h1 := ho.fix h hd hl hp (by omega) hn
  have e : (p ++ [g]).getD f.toNat Fn.zero = g := gd_r (by omega)
  refine ⟨h1.ok, by rw [List.length_append, List.length_singleton]; omega, by rw [List.length_append, List.length_singleton]; omega, ?_, ?_, ?_, hna, h1⟩
  · rw [e, ho.len]; exact hi
  · rw [e]; exact hp
  · rw [e]; exact hla
theorem nmB_size {s : ByteArray} (h : nmB s = true) : s.size ≤ 12 := by
  unfold nmB at h
  simp only [Bool.and_eq_true, decide_eq_true_eq] at h
  exact h.1.2
theorem DPr.szp {p : List Fn} {pl : Bool} (h : DPr p pl) : SzP p := fun k hk => ⟨by have := h.sz k hk; omega, by have := h.outs k hk; omega, by have := nmB_size (h.nm k hk); omega⟩
section
variable {p : List Fn} {f o : Int} {a b d : List Int}
theorem FldD.shf (h : FldD p f a b d) : shF p f fldB = 0 := by
  have h1 := h.len; have h2 := h.fe; have h3 := h.par; have h4 := h.sq
  unfold shF isF fldB
  rw [if_pos h.ok, if_pos (by omega)]
  rw [if_pos]
  rw [Bool.and_eq_true, inB_iff, decide_eq_true_eq]
  exact ⟨by omega, by omega⟩
theorem FldD.stc (h : FldD p f a b d) (ho : 0 ≤ o ∧ o ≤ 12) : stC p f o [a] = 0 := by
  unfold stC
  rw [if_pos h.shf, if_pos]
  simp only [List.all_cons, List.all_nil, Bool.and_true, Bool.and_eq_true, decide_eq_true_eq, inB_iff]
  exact ⟨⟨h.la, h.na⟩, ho⟩
theorem argB_of {n : Nat} {y : List Sr} (hn : n ≤ 12) (h : SrE (n + 1) y) : argB y = true := by
  unfold argB
  rw [List.all_eq_true]
  intro s hs
  obtain ⟨k, hk, rfl⟩ := List.mem_iff_getElem.1 hs
  have h1 := h k hk; have h0 := h 0 (by omega)
  rw [← gd_at hk]
  unfold serB
  rw [Bool.and_eq_true, decide_eq_true_eq]
  exact ⟨okS_iff.2 ⟨by have := h1.1; omega, h1.2⟩, by rw [h1.1, h0.1]⟩
theorem FldD.gv (h : FldD p f a b d) {n : Nat} {y : List Sr} (hn : n ≤ 12) (hy : SrE (n + 1) y) (hl : y.length = a.length) : gvC p f y = 0 := by
  unfold gvC
  rw [if_pos h.shf, if_pos]
  rw [argB_of hn hy, Bool.true_and, decide_eq_true_eq, hl]
  exact h.la
theorem FldD.fld (h : FldD p f a b d) : Fld p f.toNat a := (fld_of (o := 0) (h.stc ⟨by omega, by omega⟩)).1
theorem FldD.nx (h : FldD p f a b d) (ho : 0 ≤ o ∧ o ≤ 12) (hc : foC p f a o = 0) : nxC p f.toNat a = 0 := by
  rw [foC_0 (h.stc ho), fl_code h.fld] at hc; exact hc
theorem FldD.flE (h : FldD p f a b d) (ho : 0 ≤ o ∧ o ≤ 12) (hc : foC p f a o = 0) : foR p f a o = flI p f.toNat (extS a (o.toNat + 1)) (o.toNat + 1) := by
  have hs := h.stc ho
  rw [foR_0 hs]
  rw [foC_0 hs] at hc
  exact if_pos hc
theorem FldD.fl (h : FldD p f a b d) (ho : 0 ≤ o ∧ o ≤ 12) (hc : foC p f a o = 0) : (foR p f a o).length = a.length ∧ SrE (o.toNat + 1) (foR p f a o) ∧ ag 1 (foR p f a o) (extS a (o.toNat + 1)) := by
  rw [h.flE ho hc]
  obtain ⟨h1, h2, h3, _⟩ := fl_all h.fld (h.nx ho hc) o.toNat (o.toNat + 1)
  exact ⟨h1, h2, h3⟩
theorem FldD.ps (h : FldD p f a b d) (ho : 0 ≤ o ∧ o ≤ 12) (hc : foC p f a o = 0) {y : List Sr} (hy : SrE (o.toNat + 1) y) (hl : y.length = a.length) (h1 : ag 1 y (extS a (o.toNat + 1))) :
    gvC p f y = 0 ∧ psC p f y = 0 ∧ psR p f y = picR p f.toNat y ∧ ckB (evR p (oOf y + 1) f.toNat y) y = decide (foR p f a o = y) := by
  have hg := h.gv (by omega) hy hl
  obtain ⟨q1, q2, _⟩ := pic_P h.fld hy hl h1
  refine ⟨hg, ?_, psR_0 hg, ?_⟩
  · rw [psC_0 hg]; unfold picC; rw [q1, q2]; exact h.nx ho hc
  · rw [q1, h.flE ho hc]; exact ck_flow h.fld (h.nx ho hc) (by omega) hy hl h1
theorem FldD.fix (h : FldD p f a b d) (ho : 0 ≤ o ∧ o ≤ 12) (hc : foC p f a o = 0) : psR p f (foR p f a o) = foR p f a o := by
  obtain ⟨h1, h2, h3⟩ := h.fl ho hc
  rw [(h.ps ho hc h2 h1 h3).2.2.1, h.flE ho hc]
  exact fl_fix h.fld (h.nx ho hc)
/-- A guess that agrees with rows in its first m coefficients. -/
structure GuB (y : List Sr) (m : Int) (g : List Sr) : Prop where
  len : g.length = y.length
  row : ∀ i, i < y.length → (g.getD i []).length = (y.getD i []).length ∧ allN (g.getD i []) = true ∧ ∀ j, ((j : Nat) : Int) < m → j < (y.getD i []).length → (g.getD i []).getD j 0 = (y.getD i []).getD j 0
theorem GuB.ag {y g : List Sr} {m : Int} {n : Nat} (h : GuB y m g) (hy : SrE n y) (hm : 0 ≤ m ∧ m ≤ ((n : Nat) : Int)) : SrE n g ∧ Go.Proofs.YtnofbmdpabcjaaaGreat.ag m.toNat g y := by
  refine ⟨fun i hi => ?_, h.len, fun i j hj => ?_⟩
  · have h1 := h.row i (by rw [← h.len]; exact hi)
    exact ⟨by rw [h1.1]; exact (hy i (by rw [← h.len]; exact hi)).1, h1.2.1⟩
  · by_cases hi : i < y.length
    · exact (h.row i hi).2.2 j (by omega) (by rw [(hy i hi).1]; omega)
    · have e1 : g.getD i [] = [] := by rw [List.getD_eq_getElem?_getD, List.getElem?_eq_none (by rw [h.len]; omega)]; rfl
      have e2 : y.getD i [] = [] := by rw [List.getD_eq_getElem?_getD, List.getElem?_eq_none (by omega)]; rfl
      rw [e1, e2]
theorem FldD.gu (h : FldD p f a b d) (ho : 1 ≤ o ∧ o ≤ 12) (hc : foC p f a o = 0) {m : Int} (hm : 1 ≤ m ∧ m ≤ o) {g : List Sr} (hg : GuB (foR p f a o) m g) :
    SrE (o.toNat + 1) g ∧ g.length = a.length ∧ Go.Proofs.YtnofbmdpabcjaaaGreat.ag 1 g (extS a (o.toNat + 1)) ∧ Go.Proofs.YtnofbmdpabcjaaaGreat.ag (m.toNat + 1) (psR p f g) (foR p f a o) ∧ SrE (o.toNat + 1) (psR p f g) ∧ (psR p f g).length = a.length := by
  have ho' : 0 ≤ o ∧ o ≤ 12 := by omega
  obtain ⟨h1, h2, h3⟩ := h.fl ho' hc
  obtain ⟨h4, h5⟩ := hg.ag h2 (by omega)
  have h6 : g.length = a.length := by rw [hg.len, h1]
  have h7 : Go.Proofs.YtnofbmdpabcjaaaGreat.ag 1 g (extS a (o.toNat + 1)) := (h5.low (by omega)).trans h3
  have h8 := h.ps ho' hc h4 h6 h7
  have h9 := pic_agr h.fld (k := m.toNat) (by omega) (by omega) h4 h6 h7 h2 h1 h5
  rw [← h8.2.2.1, ← (h.ps ho' hc h2 h1 h3).2.2.1, h.fix ho' hc] at h9
  have hq := pic_Q h.fld (h.nx ho' hc) h4 h6 h7
  rw [← h8.2.2.1] at hq
  exact ⟨h4, h6, h7, h9, hq.2.1, hq.1⟩
end
/-- A row that agrees with another one in its first m coefficients. -/
def GuR (r : Sr) (m : Int) (x : Sr) : Prop := x.length = r.length ∧ allN x = true ∧ ∀ j, ((j : Nat) : Int) < m → j < r.length → x.getD j 0 = r.getD j 0
def GuS (y : List Sr) (m : Int) (ys : List Sr) (i : Nat) : Prop := ys.length = i ∧ ∀ r, r < i → GuR (y.getD r []) m (ys.getD r [])
def GuK (r : Sr) (x : Sr) (k : Nat) : Prop := x.length = r.length ∧ allN x = true ∧ ∀ j, j < k → x.getD j 0 = r.getD j 0
theorem GuS.nil (y : List Sr) (m : Int) : GuS y m [] 0 := ⟨rfl, fun r hr => by omega⟩
theorem GuS.snoc {y ys : List Sr} {m : Int} {i : Nat} {x : Sr} (h : GuS y m ys i) (hx : GuR (y.getD i []) m x) : GuS y m (ys ++ [x]) (i + 1) := by
  refine ⟨by rw [List.length_append, h.1]; rfl, fun r hr => ?_⟩
  by_cases e : r = i
  · subst e; rw [gd_r h.1.symm]; exact hx
  · rw [gd_l (by rw [h.1]; omega)]; exact h.2 r (by omega)
theorem GuS.done {y ys : List Sr} {m : Int} {i : Nat} (h : GuS y m ys i) (hi : i = y.length) : GuB y m ys := by
  subst hi
  exact ⟨h.1, fun r hr => h.2 r hr⟩
theorem GuK.start {r x : Sr} (h1 : x.length = r.length) (h2 : allN x = true) : GuK r x 0 := ⟨h1, h2, fun j hj => by omega⟩
theorem GuK.step {r x : Sr} {k : Nat} (h : GuK r x k) (hr : allN r = true) (hk : k < x.length) : GuK r (x.set k (r.getD k 0)) (k + 1) := by
  obtain ⟨h1, h2, h3⟩ := h
  have hv : isN (r.getD k 0) = true := by
    have hk' : k < r.length := by omega
    unfold allN at hr
    rw [gd_at hk']; exact List.all_eq_true.1 hr _ (List.getElem_mem hk')
  refine ⟨by rw [List.length_set]; exact h1, ?_, fun j hj => ?_⟩
  · unfold allN
    rw [List.all_eq_true]
    intro y hy
    rcases List.mem_or_eq_of_mem_set hy with hy | rfl
    · unfold allN at h2; exact List.all_eq_true.1 h2 y hy
    · exact hv
  · rw [set_at]
    by_cases e : j = k
    · rw [if_pos ⟨e, hk⟩, e]
    · rw [if_neg (by omega)]; exact h3 j (by omega)
theorem GuK.done {r x : Sr} {m : Int} {k : Nat} (h : GuK r x k) (hk : x.length ≤ k ∨ m ≤ ((k : Nat) : Int)) : GuR r m x := ⟨h.1, h.2.1, fun j hj hl => h.2.2 j (by have := h.1; omega)⟩
theorem i64_nn {n : Int} (h : 0 ≤ n) : Value.int .i64 n = .int .i64 ((n.toNat : Nat) : Int) := by rw [Int.toNat_of_nonneg h]
end Go.Proofs.YtnofbmdpabcjaaaGreat
namespace Go.Proofs.YtnofbmdpabcjaaaGreat
open Go Go.RowKit
theorem mixed : Tryz.prog.follows .mixedOrders = true := by kernel_rfl
theorem cf24 : ((Tryz.prog.funcs[24]?).map fun fn => (fn.name != "runtime.NumGoroutine") && fn.body.isSome) = some true := by kernel_rfl
theorem cf26 : ((Tryz.prog.funcs[26]?).map fun fn => (fn.name != "runtime.NumGoroutine") && fn.body.isSome) = some true := by kernel_rfl
theorem cf30 : ((Tryz.prog.funcs[30]?).map fun fn => (fn.name != "runtime.NumGoroutine") && fn.body.isSome) = some true := by kernel_rfl
theorem cf31 : ((Tryz.prog.funcs[31]?).map fun fn => (fn.name != "runtime.NumGoroutine") && fn.body.isSome) = some true := by kernel_rfl
theorem cf32 : ((Tryz.prog.funcs[32]?).map fun fn => (fn.name != "runtime.NumGoroutine") && fn.body.isSome) = some true := by kernel_rfl
theorem cf33 : ((Tryz.prog.funcs[33]?).map fun fn => (fn.name != "runtime.NumGoroutine") && fn.body.isSome) = some true := by kernel_rfl
theorem cf34 : ((Tryz.prog.funcs[34]?).map fun fn => (fn.name != "runtime.NumGoroutine") && fn.body.isSome) = some true := by kernel_rfl
theorem cf35 : ((Tryz.prog.funcs[35]?).map fun fn => (fn.name != "runtime.NumGoroutine") && fn.body.isSome) = some true := by kernel_rfl
theorem cf36 : ((Tryz.prog.funcs[36]?).map fun fn => (fn.name != "runtime.NumGoroutine") && fn.body.isSome) = some true := by kernel_rfl
theorem cf37 : ((Tryz.prog.funcs[37]?).map fun fn => (fn.name != "runtime.NumGoroutine") && fn.body.isSome) = some true := by kernel_rfl
theorem cf38 : ((Tryz.prog.funcs[38]?).map fun fn => (fn.name != "runtime.NumGoroutine") && fn.body.isSome) = some true := by kernel_rfl
theorem cf39 : ((Tryz.prog.funcs[39]?).map fun fn => (fn.name != "runtime.NumGoroutine") && fn.body.isSome) = some true := by kernel_rfl
theorem cf40 : ((Tryz.prog.funcs[40]?).map fun fn => (fn.name != "runtime.NumGoroutine") && fn.body.isSome) = some true := by kernel_rfl
theorem cf53 : ((Tryz.prog.funcs[53]?).map fun fn => (fn.name != "runtime.NumGoroutine") && fn.body.isSome) = some true := by kernel_rfl
theorem cf54 : ((Tryz.prog.funcs[54]?).map fun fn => (fn.name != "runtime.NumGoroutine") && fn.body.isSome) = some true := by kernel_rfl
theorem cf55 : ((Tryz.prog.funcs[55]?).map fun fn => (fn.name != "runtime.NumGoroutine") && fn.body.isSome) = some true := by kernel_rfl
theorem cf56 : ((Tryz.prog.funcs[56]?).map fun fn => (fn.name != "runtime.NumGoroutine") && fn.body.isSome) = some true := by kernel_rfl
theorem cf57 : ((Tryz.prog.funcs[57]?).map fun fn => (fn.name != "runtime.NumGoroutine") && fn.body.isSome) = some true := by kernel_rfl
theorem cf58 : ((Tryz.prog.funcs[58]?).map fun fn => (fn.name != "runtime.NumGoroutine") && fn.body.isSome) = some true := by kernel_rfl
theorem cf59 : ((Tryz.prog.funcs[59]?).map fun fn => (fn.name != "runtime.NumGoroutine") && fn.body.isSome) = some true := by kernel_rfl
theorem cf61 : ((Tryz.prog.funcs[61]?).map fun fn => (fn.name != "runtime.NumGoroutine") && fn.body.isSome) = some true := by kernel_rfl
theorem cf62 : ((Tryz.prog.funcs[62]?).map fun fn => (fn.name != "runtime.NumGoroutine") && fn.body.isSome) = some true := by kernel_rfl
theorem cf63 : ((Tryz.prog.funcs[63]?).map fun fn => (fn.name != "runtime.NumGoroutine") && fn.body.isSome) = some true := by kernel_rfl
theorem cf64 : ((Tryz.prog.funcs[64]?).map fun fn => (fn.name != "runtime.NumGoroutine") && fn.body.isSome) = some true := by kernel_rfl
theorem cf65 : ((Tryz.prog.funcs[65]?).map fun fn => (fn.name != "runtime.NumGoroutine") && fn.body.isSome) = some true := by kernel_rfl
theorem cf66 : ((Tryz.prog.funcs[66]?).map fun fn => (fn.name != "runtime.NumGoroutine") && fn.body.isSome) = some true := by kernel_rfl
theorem cf67 : ((Tryz.prog.funcs[67]?).map fun fn => (fn.name != "runtime.NumGoroutine") && fn.body.isSome) = some true := by kernel_rfl
theorem cf68 : ((Tryz.prog.funcs[68]?).map fun fn => (fn.name != "runtime.NumGoroutine") && fn.body.isSome) = some true := by kernel_rfl
theorem cf69 : ((Tryz.prog.funcs[69]?).map fun fn => (fn.name != "runtime.NumGoroutine") && fn.body.isSome) = some true := by kernel_rfl
theorem cf70 : ((Tryz.prog.funcs[70]?).map fun fn => (fn.name != "runtime.NumGoroutine") && fn.body.isSome) = some true := by kernel_rfl
theorem cf71 : ((Tryz.prog.funcs[71]?).map fun fn => (fn.name != "runtime.NumGoroutine") && fn.body.isSome) = some true := by kernel_rfl
theorem cf72 : ((Tryz.prog.funcs[72]?).map fun fn => (fn.name != "runtime.NumGoroutine") && fn.body.isSome) = some true := by kernel_rfl
theorem cf73 : ((Tryz.prog.funcs[73]?).map fun fn => (fn.name != "runtime.NumGoroutine") && fn.body.isSome) = some true := by kernel_rfl
theorem cf74 : ((Tryz.prog.funcs[74]?).map fun fn => (fn.name != "runtime.NumGoroutine") && fn.body.isSome) = some true := by kernel_rfl
theorem cf75 : ((Tryz.prog.funcs[75]?).map fun fn => (fn.name != "runtime.NumGoroutine") && fn.body.isSome) = some true := by kernel_rfl
theorem cf77 : ((Tryz.prog.funcs[77]?).map fun fn => (fn.name != "runtime.NumGoroutine") && fn.body.isSome) = some true := by kernel_rfl
theorem cf79 : ((Tryz.prog.funcs[79]?).map fun fn => (fn.name != "runtime.NumGoroutine") && fn.body.isSome) = some true := by kernel_rfl
theorem cf80 : ((Tryz.prog.funcs[80]?).map fun fn => (fn.name != "runtime.NumGoroutine") && fn.body.isSome) = some true := by kernel_rfl
theorem cf81 : ((Tryz.prog.funcs[81]?).map fun fn => (fn.name != "runtime.NumGoroutine") && fn.body.isSome) = some true := by kernel_rfl
theorem cf83 : ((Tryz.prog.funcs[83]?).map fun fn => (fn.name != "runtime.NumGoroutine") && fn.body.isSome) = some true := by kernel_rfl
theorem cf85 : ((Tryz.prog.funcs[85]?).map fun fn => (fn.name != "runtime.NumGoroutine") && fn.body.isSome) = some true := by kernel_rfl
theorem cf86 : ((Tryz.prog.funcs[86]?).map fun fn => (fn.name != "runtime.NumGoroutine") && fn.body.isSome) = some true := by kernel_rfl
theorem cf91 : ((Tryz.prog.funcs[91]?).map fun fn => (fn.name != "runtime.NumGoroutine") && fn.body.isSome) = some true := by kernel_rfl
theorem cf93 : ((Tryz.prog.funcs[93]?).map fun fn => (fn.name != "runtime.NumGoroutine") && fn.body.isSome) = some true := by kernel_rfl
theorem cf94 : ((Tryz.prog.funcs[94]?).map fun fn => (fn.name != "runtime.NumGoroutine") && fn.body.isSome) = some true := by kernel_rfl
theorem cf95 : ((Tryz.prog.funcs[95]?).map fun fn => (fn.name != "runtime.NumGoroutine") && fn.body.isSome) = some true := by kernel_rfl
theorem cf96 : ((Tryz.prog.funcs[96]?).map fun fn => (fn.name != "runtime.NumGoroutine") && fn.body.isSome) = some true := by kernel_rfl
theorem cf97 : ((Tryz.prog.funcs[97]?).map fun fn => (fn.name != "runtime.NumGoroutine") && fn.body.isSome) = some true := by kernel_rfl
theorem cf98 : ((Tryz.prog.funcs[98]?).map fun fn => (fn.name != "runtime.NumGoroutine") && fn.body.isSome) = some true := by kernel_rfl
theorem cf99 : ((Tryz.prog.funcs[99]?).map fun fn => (fn.name != "runtime.NumGoroutine") && fn.body.isSome) = some true := by kernel_rfl
theorem cf100 : ((Tryz.prog.funcs[100]?).map fun fn => (fn.name != "runtime.NumGoroutine") && fn.body.isSome) = some true := by kernel_rfl
theorem cf101 : ((Tryz.prog.funcs[101]?).map fun fn => (fn.name != "runtime.NumGoroutine") && fn.body.isSome) = some true := by kernel_rfl
theorem cf102 : ((Tryz.prog.funcs[102]?).map fun fn => (fn.name != "runtime.NumGoroutine") && fn.body.isSome) = some true := by kernel_rfl
theorem cf103 : ((Tryz.prog.funcs[103]?).map fun fn => (fn.name != "runtime.NumGoroutine") && fn.body.isSome) = some true := by kernel_rfl
theorem cf104 : ((Tryz.prog.funcs[104]?).map fun fn => (fn.name != "runtime.NumGoroutine") && fn.body.isSome) = some true := by kernel_rfl
theorem cf105 : ((Tryz.prog.funcs[105]?).map fun fn => (fn.name != "runtime.NumGoroutine") && fn.body.isSome) = some true := by kernel_rfl
theorem cf106 : ((Tryz.prog.funcs[106]?).map fun fn => (fn.name != "runtime.NumGoroutine") && fn.body.isSome) = some true := by kernel_rfl
theorem cf107 : ((Tryz.prog.funcs[107]?).map fun fn => (fn.name != "runtime.NumGoroutine") && fn.body.isSome) = some true := by kernel_rfl
theorem cf108 : ((Tryz.prog.funcs[108]?).map fun fn => (fn.name != "runtime.NumGoroutine") && fn.body.isSome) = some true := by kernel_rfl
theorem cf109 : ((Tryz.prog.funcs[109]?).map fun fn => (fn.name != "runtime.NumGoroutine") && fn.body.isSome) = some true := by kernel_rfl
theorem cf110 : ((Tryz.prog.funcs[110]?).map fun fn => (fn.name != "runtime.NumGoroutine") && fn.body.isSome) = some true := by kernel_rfl
theorem cf111 : ((Tryz.prog.funcs[111]?).map fun fn => (fn.name != "runtime.NumGoroutine") && fn.body.isSome) = some true := by kernel_rfl
theorem cf113 : ((Tryz.prog.funcs[113]?).map fun fn => (fn.name != "runtime.NumGoroutine") && fn.body.isSome) = some true := by kernel_rfl
theorem cf114 : ((Tryz.prog.funcs[114]?).map fun fn => (fn.name != "runtime.NumGoroutine") && fn.body.isSome) = some true := by kernel_rfl
theorem cf116 : ((Tryz.prog.funcs[116]?).map fun fn => (fn.name != "runtime.NumGoroutine") && fn.body.isSome) = some true := by kernel_rfl
theorem cf117 : ((Tryz.prog.funcs[117]?).map fun fn => (fn.name != "runtime.NumGoroutine") && fn.body.isSome) = some true := by kernel_rfl
theorem cf118 : ((Tryz.prog.funcs[118]?).map fun fn => (fn.name != "runtime.NumGoroutine") && fn.body.isSome) = some true := by kernel_rfl
theorem cf119 : ((Tryz.prog.funcs[119]?).map fun fn => (fn.name != "runtime.NumGoroutine") && fn.body.isSome) = some true := by kernel_rfl
theorem cf120 : ((Tryz.prog.funcs[120]?).map fun fn => (fn.name != "runtime.NumGoroutine") && fn.body.isSome) = some true := by kernel_rfl
theorem cf121 : ((Tryz.prog.funcs[121]?).map fun fn => (fn.name != "runtime.NumGoroutine") && fn.body.isSome) = some true := by kernel_rfl
theorem cf122 : ((Tryz.prog.funcs[122]?).map fun fn => (fn.name != "runtime.NumGoroutine") && fn.body.isSome) = some true := by kernel_rfl
theorem cf123 : ((Tryz.prog.funcs[123]?).map fun fn => (fn.name != "runtime.NumGoroutine") && fn.body.isSome) = some true := by kernel_rfl
theorem cf126 : ((Tryz.prog.funcs[126]?).map fun fn => (fn.name != "runtime.NumGoroutine") && fn.body.isSome) = some true := by kernel_rfl
theorem cf128 : ((Tryz.prog.funcs[128]?).map fun fn => (fn.name != "runtime.NumGoroutine") && fn.body.isSome) = some true := by kernel_rfl
theorem cf129 : ((Tryz.prog.funcs[129]?).map fun fn => (fn.name != "runtime.NumGoroutine") && fn.body.isSome) = some true := by kernel_rfl
theorem cf130 : ((Tryz.prog.funcs[130]?).map fun fn => (fn.name != "runtime.NumGoroutine") && fn.body.isSome) = some true := by kernel_rfl
theorem cf131 : ((Tryz.prog.funcs[131]?).map fun fn => (fn.name != "runtime.NumGoroutine") && fn.body.isSome) = some true := by kernel_rfl
theorem cf132 : ((Tryz.prog.funcs[132]?).map fun fn => (fn.name != "runtime.NumGoroutine") && fn.body.isSome) = some true := by kernel_rfl
theorem cf133 : ((Tryz.prog.funcs[133]?).map fun fn => (fn.name != "runtime.NumGoroutine") && fn.body.isSome) = some true := by kernel_rfl
theorem cf134 : ((Tryz.prog.funcs[134]?).map fun fn => (fn.name != "runtime.NumGoroutine") && fn.body.isSome) = some true := by kernel_rfl
theorem cf135 : ((Tryz.prog.funcs[135]?).map fun fn => (fn.name != "runtime.NumGoroutine") && fn.body.isSome) = some true := by kernel_rfl
theorem cf137 : ((Tryz.prog.funcs[137]?).map fun fn => (fn.name != "runtime.NumGoroutine") && fn.body.isSome) = some true := by kernel_rfl
theorem cf138 : ((Tryz.prog.funcs[138]?).map fun fn => (fn.name != "runtime.NumGoroutine") && fn.body.isSome) = some true := by kernel_rfl
theorem cf139 : ((Tryz.prog.funcs[139]?).map fun fn => (fn.name != "runtime.NumGoroutine") && fn.body.isSome) = some true := by kernel_rfl
theorem cf141 : ((Tryz.prog.funcs[141]?).map fun fn => (fn.name != "runtime.NumGoroutine") && fn.body.isSome) = some true := by kernel_rfl
theorem cf142 : ((Tryz.prog.funcs[142]?).map fun fn => (fn.name != "runtime.NumGoroutine") && fn.body.isSome) = some true := by kernel_rfl
theorem cf143 : ((Tryz.prog.funcs[143]?).map fun fn => (fn.name != "runtime.NumGoroutine") && fn.body.isSome) = some true := by kernel_rfl
theorem cf144 : ((Tryz.prog.funcs[144]?).map fun fn => (fn.name != "runtime.NumGoroutine") && fn.body.isSome) = some true := by kernel_rfl
theorem cf145 : ((Tryz.prog.funcs[145]?).map fun fn => (fn.name != "runtime.NumGoroutine") && fn.body.isSome) = some true := by kernel_rfl
theorem cf147 : ((Tryz.prog.funcs[147]?).map fun fn => (fn.name != "runtime.NumGoroutine") && fn.body.isSome) = some true := by kernel_rfl
theorem cf148 : ((Tryz.prog.funcs[148]?).map fun fn => (fn.name != "runtime.NumGoroutine") && fn.body.isSome) = some true := by kernel_rfl
theorem cf149 : ((Tryz.prog.funcs[149]?).map fun fn => (fn.name != "runtime.NumGoroutine") && fn.body.isSome) = some true := by kernel_rfl
theorem cf150 : ((Tryz.prog.funcs[150]?).map fun fn => (fn.name != "runtime.NumGoroutine") && fn.body.isSome) = some true := by kernel_rfl
theorem cf151 : ((Tryz.prog.funcs[151]?).map fun fn => (fn.name != "runtime.NumGoroutine") && fn.body.isSome) = some true := by kernel_rfl
theorem cf152 : ((Tryz.prog.funcs[152]?).map fun fn => (fn.name != "runtime.NumGoroutine") && fn.body.isSome) = some true := by kernel_rfl
theorem cf153 : ((Tryz.prog.funcs[153]?).map fun fn => (fn.name != "runtime.NumGoroutine") && fn.body.isSome) = some true := by kernel_rfl
theorem cf154 : ((Tryz.prog.funcs[154]?).map fun fn => (fn.name != "runtime.NumGoroutine") && fn.body.isSome) = some true := by kernel_rfl
theorem cf155 : ((Tryz.prog.funcs[155]?).map fun fn => (fn.name != "runtime.NumGoroutine") && fn.body.isSome) = some true := by kernel_rfl
theorem cf156 : ((Tryz.prog.funcs[156]?).map fun fn => (fn.name != "runtime.NumGoroutine") && fn.body.isSome) = some true := by kernel_rfl
theorem cf157 : ((Tryz.prog.funcs[157]?).map fun fn => (fn.name != "runtime.NumGoroutine") && fn.body.isSome) = some true := by kernel_rfl
theorem cf158 : ((Tryz.prog.funcs[158]?).map fun fn => (fn.name != "runtime.NumGoroutine") && fn.body.isSome) = some true := by kernel_rfl
theorem cf159 : ((Tryz.prog.funcs[159]?).map fun fn => (fn.name != "runtime.NumGoroutine") && fn.body.isSome) = some true := by kernel_rfl
theorem cf160 : ((Tryz.prog.funcs[160]?).map fun fn => (fn.name != "runtime.NumGoroutine") && fn.body.isSome) = some true := by kernel_rfl
theorem cf161 : ((Tryz.prog.funcs[161]?).map fun fn => (fn.name != "runtime.NumGoroutine") && fn.body.isSome) = some true := by kernel_rfl
theorem cf162 : ((Tryz.prog.funcs[162]?).map fun fn => (fn.name != "runtime.NumGoroutine") && fn.body.isSome) = some true := by kernel_rfl
theorem cf163 : ((Tryz.prog.funcs[163]?).map fun fn => (fn.name != "runtime.NumGoroutine") && fn.body.isSome) = some true := by kernel_rfl
theorem cf164 : ((Tryz.prog.funcs[164]?).map fun fn => (fn.name != "runtime.NumGoroutine") && fn.body.isSome) = some true := by kernel_rfl
theorem cf165 : ((Tryz.prog.funcs[165]?).map fun fn => (fn.name != "runtime.NumGoroutine") && fn.body.isSome) = some true := by kernel_rfl
theorem cf166 : ((Tryz.prog.funcs[166]?).map fun fn => (fn.name != "runtime.NumGoroutine") && fn.body.isSome) = some true := by kernel_rfl
theorem cf167 : ((Tryz.prog.funcs[167]?).map fun fn => (fn.name != "runtime.NumGoroutine") && fn.body.isSome) = some true := by kernel_rfl
theorem cf168 : ((Tryz.prog.funcs[168]?).map fun fn => (fn.name != "runtime.NumGoroutine") && fn.body.isSome) = some true := by kernel_rfl
theorem cf169 : ((Tryz.prog.funcs[169]?).map fun fn => (fn.name != "runtime.NumGoroutine") && fn.body.isSome) = some true := by kernel_rfl
theorem cf170 : ((Tryz.prog.funcs[170]?).map fun fn => (fn.name != "runtime.NumGoroutine") && fn.body.isSome) = some true := by kernel_rfl
theorem cf171 : ((Tryz.prog.funcs[171]?).map fun fn => (fn.name != "runtime.NumGoroutine") && fn.body.isSome) = some true := by kernel_rfl
theorem cf172 : ((Tryz.prog.funcs[172]?).map fun fn => (fn.name != "runtime.NumGoroutine") && fn.body.isSome) = some true := by kernel_rfl
theorem one2 : oneTy Tryz.prog 2 := by unfold oneTy; kernel_rfl
theorem one3 : oneTy Tryz.prog 3 := by unfold oneTy; kernel_rfl
theorem one4 : oneTy Tryz.prog 4 := by unfold oneTy; kernel_rfl
theorem one5 : oneTy Tryz.prog 5 := by unfold oneTy; kernel_rfl
theorem one9 : oneTy Tryz.prog 9 := by unfold oneTy; kernel_rfl
theorem one25 : oneTy Tryz.prog 25 := by unfold oneTy; kernel_rfl
theorem one30 : oneTy Tryz.prog 30 := by unfold oneTy; kernel_rfl
theorem one50 : oneTy Tryz.prog 50 := by unfold oneTy; kernel_rfl
theorem one61 : oneTy Tryz.prog 61 := by unfold oneTy; kernel_rfl
theorem one78 : oneTy Tryz.prog 78 := by unfold oneTy; kernel_rfl
theorem one86 : oneTy Tryz.prog 86 := by unfold oneTy; kernel_rfl
theorem one130 : oneTy Tryz.prog 130 := by unfold oneTy; kernel_rfl
theorem sz2 : (Tryz.prog.info? 2).map (·.size) = some 1 := by kernel_rfl
theorem sz3 : (Tryz.prog.info? 3).map (·.size) = some 1 := by kernel_rfl
theorem sz30 : (Tryz.prog.info? 30).map (·.size) = some 1 := by kernel_rfl
theorem sz78 : (Tryz.prog.info? 78).map (·.size) = some 1 := by kernel_rfl
theorem sz130 : (Tryz.prog.info? 130).map (·.size) = some 1 := by kernel_rfl
theorem ti2 : TI Tryz.prog 2 1 (.int .i64 0) 8 := by unfold TI; kernel_rfl
theorem ti5 : TI Tryz.prog 5 1 (.int .u8 0) 1 := by unfold TI; kernel_rfl
theorem ti9 : TI Tryz.prog 9 1 (.string ByteArray.empty) 16 := by unfold TI; kernel_rfl
theorem ti25 : TI Tryz.prog 25 1 (.slice none 0 0) 24 := by unfold TI; kernel_rfl
theorem u2 : Tryz.prog.underlying 2 = some (.int .i64) := by kernel_rfl
theorem u3 : Tryz.prog.underlying 3 = some (.int .i64) := by kernel_rfl
theorem u4 : Tryz.prog.underlying 4 = some (.bool) := by kernel_rfl
theorem u5 : Tryz.prog.underlying 5 = some (.int .u8) := by kernel_rfl
theorem u9 : Tryz.prog.underlying 9 = some (.string) := by kernel_rfl
theorem u25 : Tryz.prog.underlying 25 = some (.slice 2) := by kernel_rfl
theorem u27 : Tryz.prog.underlying 27 = some (.slice 25) := by kernel_rfl
theorem u30 : Tryz.prog.underlying 30 = some (.slice 80) := by kernel_rfl
theorem u50 : Tryz.prog.underlying 50 = some (.slice 5) := by kernel_rfl
theorem u78 : Tryz.prog.underlying 78 = some (.slice 94) := by kernel_rfl
theorem u130 : Tryz.prog.underlying 130 = some (.int .u64) := by kernel_rfl
theorem u134 : Tryz.prog.underlying 134 = some (.slice 9) := by kernel_rfl
theorem agg32 : aggTy Tryz.prog 32 1 = true := by kernel_rfl
theorem zr32 : (Tryz.prog.info? 32).map (·.zero) = some (some (.agg #[.slice none 0 0])) := by kernel_rfl
theorem fd32_0 : fdO Tryz.prog 32 0 0 = true := by kernel_rfl
theorem agg80 : aggTy Tryz.prog 80 3 = true := by kernel_rfl
theorem zr80 : (Tryz.prog.info? 80).map (·.zero) = some (some (.agg #[.string ByteArray.empty, .int .i64 0, .slice none 0 0])) := by kernel_rfl
theorem tiS80 : TI Tryz.prog 80 3 (.agg #[.string ByteArray.empty, .int .i64 0, .slice none 0 0]) 48 := by unfold TI; kernel_rfl
theorem fd80_0 : fdO Tryz.prog 80 0 0 = true := by kernel_rfl
theorem fd80_1 : fdO Tryz.prog 80 1 1 = true := by kernel_rfl
theorem fd80_2 : fdO Tryz.prog 80 2 2 = true := by kernel_rfl
theorem fd92_0 : fdO Tryz.prog 92 0 0 = true := by kernel_rfl
theorem fd92_1 : fdO Tryz.prog 92 1 1 = true := by kernel_rfl
theorem fd92_2 : fdO Tryz.prog 92 2 2 = true := by kernel_rfl
theorem fd92_3 : fdO Tryz.prog 92 3 3 = true := by kernel_rfl
theorem agg94 : aggTy Tryz.prog 94 5 = true := by kernel_rfl
theorem zr94 : (Tryz.prog.info? 94).map (·.zero) = some (some (.agg #[.int .i64 0, .int .i64 0, .int .i64 0, .int .i64 0, .slice none 0 0])) := by kernel_rfl
theorem tiS94 : TI Tryz.prog 94 5 (.agg #[.int .i64 0, .int .i64 0, .int .i64 0, .int .i64 0, .slice none 0 0]) 56 := by unfold TI; kernel_rfl
theorem fd94_0 : fdO Tryz.prog 94 0 0 = true := by kernel_rfl
theorem fd94_1 : fdO Tryz.prog 94 1 1 = true := by kernel_rfl
theorem fd94_2 : fdO Tryz.prog 94 2 2 = true := by kernel_rfl
theorem fd94_3 : fdO Tryz.prog 94 3 3 = true := by kernel_rfl
theorem fd94_4 : fdO Tryz.prog 94 4 4 = true := by kernel_rfl
theorem fd123_0 : fdO Tryz.prog 123 0 0 = true := by kernel_rfl
theorem fd123_1 : fdO Tryz.prog 123 1 1 = true := by kernel_rfl
theorem fd123_2 : fdO Tryz.prog 123 2 2 = true := by kernel_rfl
theorem fd123_3 : fdO Tryz.prog 123 3 3 = true := by kernel_rfl
theorem fd128_0 : fdO Tryz.prog 128 0 0 = true := by kernel_rfl
theorem fd128_1 : fdO Tryz.prog 128 1 1 = true := by kernel_rfl
theorem fd128_2 : fdO Tryz.prog 128 2 2 = true := by kernel_rfl
theorem fd128_3 : fdO Tryz.prog 128 3 3 = true := by kernel_rfl
theorem agg166 : aggTy Tryz.prog 166 2 = true := by kernel_rfl
theorem fd166_0 : fdO Tryz.prog 166 0 0 = true := by kernel_rfl
theorem fd166_1 : fdO Tryz.prog 166 1 1 = true := by kernel_rfl
end Go.Proofs.YtnofbmdpabcjaaaGreat
namespace Go.Proofs.YtnofbmdpabcjaaaGreat
open Go Go.RowKit
set_option linter.unusedVariables false
set_option linter.unusedSimpArgs false
set_option maxHeartbeats 4000000
set_option maxRecDepth 100000
attribute [local irreducible] LW
theorem c_impl_within (w : World) (n : Int) (low : Int) (high : Int) (_hn : -9223372036854775808 ≤ n ∧ n ≤ 9223372036854775807) (_hlow : -9223372036854775808 ≤ low ∧ low ≤ 9223372036854775807) (_hhigh : -9223372036854775808 ≤ high ∧ high ≤ 9223372036854775807)  :
  Calls Tryz.prog 68 #[.int .i64 n,.int .i64 low,.int .i64 high] w (fun e w' => e = .returned (.bool (decide (low ≤ n) && decide (n ≤ high))) ∧ w' = w) := by
 refine calls_mk [.int .i64 n,.int .i64 low,.int .i64 high] 15 Tryz.func68 rfl rfl sM ?_
 have hE0 : w = w := rfl
 refine wp_seq (wp_plain _ [0] rfl (lw_tvn 1 rfl (wp_seq (wp_plain _ [0,0,0,0,0,0,0,0,0] rfl (lw_tv 2 rfl ?_)))))
 by_cases hc1 : low ≤ n
 ·
  exact q_geq true rfl rfl (decide_eq_true hc1) zN (lw_tv 3 rfl (q_leq (decide (n ≤ high)) rfl rfl rfl (zS (e := 10) rfl rfl rfl) (lw_tvn 2 rfl (wp_ret (post_ret [6] rfl (.bool (decide (n ≤ high))) rfl ⟨(ret_bool (by simp [*])),hE0⟩)))))
 ·
  exact q_geq false rfl rfl (decide_eq_false hc1) zN (lw_tvn 6 rfl (wp_ret (post_ret [6] rfl (.bool false) rfl ⟨(ret_bool (by simp [*])),hE0⟩)))
theorem c_spec_l00In (w : World) (n : Int) (low : Int) (high : Int) (_hn : -9223372036854775808 ≤ n ∧ n ≤ 9223372036854775807) (_hlow : -9223372036854775808 ≤ low ∧ low ≤ 9223372036854775807) (_hhigh : -9223372036854775808 ≤ high ∧ high ≤ 9223372036854775807)  :
  Calls Tryz.prog 63 #[.int .i64 n,.int .i64 low,.int .i64 high] w (fun e w' => e = .returned (.bool (decide (low ≤ n) && decide (n ≤ high))) ∧ w' = w) := by
 refine calls_mk [.int .i64 n,.int .i64 low,.int .i64 high] 15 Tryz.func63 rfl rfl sM ?_
 have hE0 : w = w := rfl
 refine wp_seq (wp_plain _ [0] rfl (lw_tvn 1 rfl (wp_seq (wp_plain _ [0,0,0,0,0,0,0,0,0] rfl (lw_tv 2 rfl ?_)))))
 by_cases hc1 : low ≤ n
 ·
  exact q_geq true rfl rfl (decide_eq_true hc1) zN (lw_tv 3 rfl (q_leq (decide (n ≤ high)) rfl rfl rfl (zS (e := 10) rfl rfl rfl) (lw_tvn 2 rfl (wp_ret (post_ret [6] rfl (.bool (decide (n ≤ high))) rfl ⟨(ret_bool (by simp [*])),hE0⟩)))))
 ·
  exact q_geq false rfl rfl (decide_eq_false hc1) zN (lw_tvn 6 rfl (wp_ret (post_ret [6] rfl (.bool false) rfl ⟨(ret_bool (by simp [*])),hE0⟩)))
theorem c_impl_Residue (w : World) (n : Int) (_hn : -9223372036854775808 ≤ n ∧ n ≤ 9223372036854775807)  :
  Calls Tryz.prog 166 #[.int .i64 n] w (fun e w' => e = .returned (.int .i64 (md n)) ∧ w' = w) := by
 refine calls_mk [.int .i64 n] 7 Tryz.func166 rfl rfl sM ?_
 have hE0 : w = w := rfl
 exact wp_seq (wp_plain _ [0] rfl (lw_tvn 1 rfl (wp_seq (wp_plain _ [0,0,0,0,0] rfl (lw_tv 1 rfl (q_rem (n.tmod 1000003) rfl rfl (by decide) rfl zN (q_add (wr ((n.tmod 1000003) + ((1000003 :Nat):Int))) rfl rfl rfl zN (q_rem ((wr ((n.tmod 1000003) + ((1000003 :Nat):Int))).tmod 1000003) rfl rfl (by decide) rfl zN (lw_tvn 1 rfl (wp_ret (post_ret [2] rfl (.int .i64 ((wr ((n.tmod 1000003) + ((1000003 :Nat):Int))).tmod 1000003)) rfl ⟨(ret_int (res_eq n)),hE0⟩)))))))))))
theorem c_impl_Plus (w : World) (a : Int) (b : Int) (_ha : -9223372036854775808 ≤ a ∧ a ≤ 9223372036854775807) (_hb : -9223372036854775808 ≤ b ∧ b ≤ 9223372036854775807)  :
  Calls Tryz.prog 172 #[.int .i64 a,.int .i64 b] w (fun e w' => e = .returned (.int .i64 (md (a + b))) ∧ w' = w) := by
 refine calls_mk [.int .i64 a,.int .i64 b] 11 Tryz.func172 rfl rfl sM ?_
 have hE0 : w = w := rfl
 exact wp_seq (wp_plain _ [0] rfl (lw_tvn 1 rfl (wp_seq (wp_plain _ [0,0,0,0,0,0,0] rfl (lw_tv 1 rfl (lw_callq 166 [] [] [(.int .i64 a)] rfl rfl cf166 zN (.int .i64 (md a)) (fun wq => c_impl_Residue wq _ _ha) (lw_tv 1 rfl (lw_callq 166 [] [] [(.int .i64 b)] rfl rfl cf166 zN (.int .i64 (md b)) (fun wq => c_impl_Residue wq _ _hb) (q_add (wr ((md a) + (md b))) rfl rfl rfl zN (q_rem ((wr ((md a) + (md b))).tmod 1000003) rfl rfl (by decide) rfl zN (lw_tvn 1 rfl (wp_ret (post_ret [4] rfl (.int .i64 ((wr ((md a) + (md b))).tmod 1000003)) rfl ⟨(ret_int (plus_eq a b)),hE0⟩)))))))))))))
theorem c_impl_minus (w : World) (a : Int) (b : Int) (_ha : -9223372036854775808 ≤ a ∧ a ≤ 9223372036854775807) (_hb : -9223372036854775808 ≤ b ∧ b ≤ 9223372036854775807)  :
  Calls Tryz.prog 169 #[.int .i64 a,.int .i64 b] w (fun e w' => e = .returned (.int .i64 (md (a - b))) ∧ w' = w) := by
 refine calls_mk [.int .i64 a,.int .i64 b] 10 Tryz.func169 rfl rfl sM ?_
 have hE0 : w = w := rfl
 exact wp_seq (wp_plain _ [0] rfl (lw_tvn 1 rfl (wp_seq (wp_plain _ [0,0,0,0,0,0] rfl (lw_tv 2 rfl (lw_callq 166 [] [] [(.int .i64 b)] rfl rfl cf166 zN (.int .i64 (md b)) (fun wq => c_impl_Residue wq _ _hb) (q_sub (wr (((1000003 :Nat):Int) - (md b))) rfl rfl rfl zN (lw_callq 172 [] [] [(.int .i64 a),(.int .i64 (wr (((1000003 :Nat):Int) - (md b))))] rfl rfl cf172 zN (.int .i64 (md (a + (wr (((1000003 :Nat):Int) - (md b)))))) (fun wq => c_impl_Plus wq _ _ _ha (wr_rng _)) (lw_tvn 1 rfl (wp_ret (post_ret [4] rfl (.int .i64 (md (a + (wr (((1000003 :Nat):Int) - (md b)))))) rfl ⟨(ret_int (minus_eq a b)),hE0⟩)))))))))))
theorem sres_a (n : Int) (h : n.tmod 1000003 < ((0 : Nat) : Int)) : wr (n.tmod 1000003 + ((1000003 : Nat) : Int)) = md n := by
  have h1 := md_nonneg n; have h2 := md_lt n; have h3 := md_nonneg (-n); have h4 := md_lt (-n)
  rw [tm n] at h ⊢
  split at h
  · omega
  · rename_i h0
    rw [if_neg h0, wr_of (by omega) (by omega)]
    have e1 : md (-(md (-n)) + ((1000003 : Nat) : Int)) = md (-(md (-n))) := md_P _
    rw [md_neg, Int.neg_neg, md_of (by omega) (by omega)] at e1
    exact e1
theorem sres_b (n : Int) (h : ¬ n.tmod 1000003 < ((0 : Nat) : Int)) : n.tmod 1000003 = md n := by
  have h1 := md_nonneg n; have h2 := md_lt n; have h3 := md_nonneg (-n); have h4 := md_lt (-n)
  rw [tm n] at h ⊢
  split
  · rfl
  · rename_i h0
    rw [if_neg h0] at h
    have e0 : md (-n) = 0 := by omega
    have e1 := md_neg (-n)
    rw [e0, Int.neg_neg] at e1
    rw [e0, ← e1]
    rfl
theorem z128_0 {p : Prop} (h : p := by first | exact ret_int (sres_a n (by assumption)) | exact ret_int (sres_b n (by assumption))) : p := h
theorem c_spec_Residue (w : World) (n : Int) (_hn : -9223372036854775808 ≤ n ∧ n ≤ 9223372036854775807)  :
  Calls Tryz.prog 128 #[.int .i64 n] w (fun e w' => e = .returned (.int .i64 (md n)) ∧ w' = w) := by
 refine calls_mk [.int .i64 n] 11 Tryz.func128 rfl rfl sM ?_
 have hE0 : w = w := rfl
 refine wp_seq (wp_plain _ [0] rfl (lw_tvn 1 rfl (wp_seq (wp_plain _ [0,0,0] rfl (lw_tv 1 rfl (q_rem (n.tmod 1000003) rfl rfl (by decide) rfl zN (lw_tvn 1 rfl (wp_seq (wp_seq (wp_plain _ [0,0] rfl (lw_tv 1 rfl ?_)))))))))))
 by_cases hc1 : n.tmod 1000003 < ((0 :Nat):Int)
 ·
  exact q_lss true rfl rfl (decide_eq_true hc1) zN (lw_nil (c_cond_t rfl (wp_plain _ [0,0,0] rfl (lw_tv 1 rfl (q_add (wr ((n.tmod 1000003) + ((1000003 :Nat):Int))) rfl rfl rfl zN (lw_tvn 1 rfl (wp_seq (wp_plain _ [0,0] rfl (lw_tvn 2 rfl (wp_ret (post_ret [2] rfl (.int .i64 (wr ((n.tmod 1000003) + ((1000003 :Nat):Int)))) rfl ⟨z128_0,hE0⟩)))))))))))
 ·
  exact q_lss false rfl rfl (decide_eq_false hc1) zN (lw_nil (c_cond_f rfl (wp_skip (wp_seq (wp_plain _ [0,0] rfl (lw_tvn 2 rfl (wp_ret (post_ret [2] rfl (.int .i64 (n.tmod 1000003)) rfl ⟨z128_0,hE0⟩))))))))
theorem c_spec_Plus (w : World) (a : Int) (b : Int) (_ha : -9223372036854775808 ≤ a ∧ a ≤ 9223372036854775807) (_hb : -9223372036854775808 ≤ b ∧ b ≤ 9223372036854775807)  :
  Calls Tryz.prog 167 #[.int .i64 a,.int .i64 b] w (fun e w' => e = .returned (.int .i64 (md (a + b))) ∧ w' = w) := by
 refine calls_mk [.int .i64 a,.int .i64 b] 11 Tryz.func167 rfl rfl sM ?_
 have hE0 : w = w := rfl
 exact wp_seq (wp_plain _ [0] rfl (lw_tvn 1 rfl (wp_seq (wp_plain _ [0,0,0,0,0,0,0] rfl (lw_tv 1 rfl (lw_callq 128 [] [] [(.int .i64 a)] rfl rfl cf128 zN (.int .i64 (md a)) (fun wq => c_spec_Residue wq _ _ha) (lw_tv 1 rfl (lw_callq 128 [] [] [(.int .i64 b)] rfl rfl cf128 zN (.int .i64 (md b)) (fun wq => c_spec_Residue wq _ _hb) (q_add (wr ((md a) + (md b))) rfl rfl rfl zN (q_rem ((wr ((md a) + (md b))).tmod 1000003) rfl rfl (by decide) rfl zN (lw_tvn 1 rfl (wp_ret (post_ret [4] rfl (.int .i64 ((wr ((md a) + (md b))).tmod 1000003)) rfl ⟨(ret_int (plus_eq a b)),hE0⟩)))))))))))))
theorem c_spec_Times (w : World) (a : Int) (b : Int) (_ha : -9223372036854775808 ≤ a ∧ a ≤ 9223372036854775807) (_hb : -9223372036854775808 ≤ b ∧ b ≤ 9223372036854775807)  :
  Calls Tryz.prog 94 #[.int .i64 a,.int .i64 b] w (fun e w' => e = .returned (.int .i64 (md (a * b))) ∧ w' = w) := by
 refine calls_mk [.int .i64 a,.int .i64 b] 11 Tryz.func94 rfl rfl sM ?_
 have hE0 : w = w := rfl
 exact wp_seq (wp_plain _ [0] rfl (lw_tvn 1 rfl (wp_seq (wp_plain _ [0,0,0,0,0,0,0] rfl (lw_tv 1 rfl (lw_callq 128 [] [] [(.int .i64 a)] rfl rfl cf128 zN (.int .i64 (md a)) (fun wq => c_spec_Residue wq _ _ha) (lw_tv 1 rfl (lw_callq 128 [] [] [(.int .i64 b)] rfl rfl cf128 zN (.int .i64 (md b)) (fun wq => c_spec_Residue wq _ _hb) (q_mul (wr ((md a) * (md b))) rfl rfl rfl zN (q_rem ((wr ((md a) * (md b))).tmod 1000003) rfl rfl (by decide) rfl zN (lw_tvn 1 rfl (wp_ret (post_ret [4] rfl (.int .i64 ((wr ((md a) * (md b))).tmod 1000003)) rfl ⟨(ret_int (times_eq a b)),hE0⟩)))))))))))))
theorem c_spec_l01Minus (w : World) (a : Int) (b : Int) (_ha : -9223372036854775808 ≤ a ∧ a ≤ 9223372036854775807) (_hb : -9223372036854775808 ≤ b ∧ b ≤ 9223372036854775807) (hs : -9223372036854775808 ≤ a - b ∧ a - b ≤ 9223372036854775807) :
  Calls Tryz.prog 168 #[.int .i64 a,.int .i64 b] w (fun e w' => e = .returned (.int .i64 (md (a - b))) ∧ w' = w) := by
 refine calls_mk [.int .i64 a,.int .i64 b] 9 Tryz.func168 rfl rfl sM ?_
 have hE0 : w = w := rfl
 exact wp_seq (wp_plain _ [0] rfl (lw_tvn 1 rfl (wp_seq (wp_plain _ [0,0,0,0,0] rfl (lw_tv 2 rfl (q_sub (wr (a - b)) rfl rfl rfl zN (lw_callq 128 [] [] [(.int .i64 (wr (a - b)))] rfl rfl cf128 zN (.int .i64 (md (wr (a - b)))) (fun wq => c_spec_Residue wq _ (wr_rng _)) (lw_tvn 1 rfl (wp_ret (post_ret [4] rfl (.int .i64 (md (wr (a - b)))) rfl ⟨(ret_int (by rw [wr_of hs.1 hs.2])),hE0⟩))))))))))
theorem z132_0 {p : Prop} (h : p := by exact ⟨by omega, by first | exact pw_odd hI.2 oM (by assumption) | exact pw_even hI.2 oM (by assumption)⟩) : p := h
theorem c_spec_Power (w : World) (a : Int) (n : Int) (_ha : -9223372036854775808 ≤ a ∧ a ≤ 9223372036854775807) (_hn : -9223372036854775808 ≤ n ∧ n ≤ 9223372036854775807)  :
  Calls Tryz.prog 132 #[.int .i64 a,.int .i64 n] w (fun e w' => e = .returned (.int .i64 (pw a n)) ∧ w' = w) := by
 refine calls_mk [.int .i64 a,.int .i64 n] 25 Tryz.func132 rfl rfl sM ?_
 have hE0 : w = w := rfl
 refine wp_seq (wp_plain _ [0] rfl (lw_tvn 1 rfl (wp_seq (wp_seq (wp_plain _ [0,0] rfl (lw_tv 1 rfl ?_))))))
 by_cases hc1 : n < ((0 :Nat):Int)
 ·
  exact q_lss true rfl rfl (decide_eq_true hc1) zN (lw_nil (c_cond_t rfl (wp_seq (wp_plain _ [0] rfl (lw_tvn 1 rfl (wp_ret (t_ret (post_ret [4] rfl (.int .i64 ((0 :Nat):Int)) rfl ⟨(ret_int (pw_neg (by assumption))),hE0⟩))))))))
 ·
  refine q_lss false rfl rfl (decide_eq_false hc1) zN (lw_nil (c_cond_f rfl (wp_skip (wp_seq (wp_plain _ [0] rfl (lw_tvn 1 rfl (wp_seq (wp_plain _ [0,0,0] rfl (lw_tv 1 rfl (lw_callq 128 [] [] [(.int .i64 a)] rfl rfl cf128 zN (.int .i64 (md a)) (fun wq => c_spec_Residue wq _ _ha) (lw_tvn 1 rfl (wp_seq (wp_block ?_)))))))))))))
  refine c_loop (S := Int × Int × Int) (fun (⟨m,x,b⟩ : Int × Int × Int) => ([(1,(.int .i64 m)),(5,(.int .i64 x)),(6,(.int .i64 b))] : List (Nat × Value))) (fun (⟨m,x,b⟩ : Int × Int × Int) (W : World) => W = w ∧ (0 ≤ m ∧ md (x * b ^ m.toNat) = md (a ^ n.toNat)) ∧ m ≤ 9223372036854775807 ∧ (0 ≤ x ∧ x < 1000003) ∧ (0 ≤ b ∧ b < 1000003)) (fun (⟨m,x,b⟩ : Int × Int × Int) => m.toNat) (n,((1 :Nat):Int),(md a)) ⟨rfl,rfl,rfl,trivial⟩ ⟨hE0,(by exact ⟨by omega,pw_start a n.toNat⟩),oM,oM,(by exact md_num _)⟩ ?_
  clear hE0
  rintro ⟨m,x,b⟩ ρ3 w3 ⟨hE3,hI,hm,hx,hb⟩
  refine wp_seq (wp_seq (wp_plain _ [0,0] rfl (lw_tv 1 rfl ?_)))
  by_cases hc4 : ((0 :Nat):Int) < m
  ·
   refine q_gtr true rfl rfl (decide_eq_true hc4) zN (lw_nil (c_cond_t rfl (wp_skip (wp_block (wp_seq (wp_seq (wp_plain _ [0,0,0] rfl (lw_tv 1 rfl (q_rem (m % 2) rfl rfl (by decide) (tm2 hI.1) zN ?_)))))))))
   by_cases hc5 : m % 2 = ((1 :Nat):Int)
   ·
    refine q_eql true rfl rfl (decide_eq_true hc5) zN (lw_nil (c_cond_t rfl (wp_plain _ [0,0,0,0] rfl (lw_tv 2 rfl (lw_callq 94 [] [] [(.int .i64 x),(.int .i64 b)] rfl rfl cf94 zN (.int .i64 (md (x * b))) (fun wq => c_spec_Times wq _ _ oM oM) (lw_tvn 1 rfl (wp_seq (wp_plain _ [0,0,0,0] rfl (lw_tv 2 rfl (lw_callq 94 [] [] [(.int .i64 b),(.int .i64 b)] rfl rfl cf94 zN (.int .i64 (md (b * b))) (fun wq => c_spec_Times wq _ _ oM oM) (lw_tvn 1 rfl (wp_plain _ [0,0,0] rfl (lw_tv 1 rfl (q_quo (m / 2) rfl rfl (by decide) (td2 hI.1 hm) zN (lw_tvn 1 rfl ?_)))))))))))))))
    exact ⟨((m / 2),(md (x * b)),(md (b * b))),_,rfl,⟨rfl,rfl,rfl,trivial⟩,⟨hE3,z132_0,oM,(by first | exact hx | exact md_num _),(by exact md_num _)⟩,by first | omega | (dsimp only; omega)⟩
   ·
    exact q_eql false rfl rfl (decide_eq_false hc5) zN (lw_nil (c_cond_f rfl (wp_skip (wp_seq (wp_plain _ [0,0,0,0] rfl (lw_tv 2 rfl (lw_callq 94 [] [] [(.int .i64 b),(.int .i64 b)] rfl rfl cf94 zN (.int .i64 (md (b * b))) (fun wq => c_spec_Times wq _ _ oM oM) (lw_tvn 1 rfl (wp_plain _ [0,0,0] rfl (lw_tv 1 rfl (q_quo (m / 2) rfl rfl (by decide) (td2 hI.1 hm) zN (lw_tvn 1 rfl ⟨((m / 2),x,(md (b * b))),_,rfl,⟨rfl,rfl,rfl,trivial⟩,⟨hE3,z132_0,oM,(by first | exact hx | exact md_num _),(by exact md_num _)⟩,by first | omega | (dsimp only; omega)⟩))))))))))))
  ·
   exact q_gtr false rfl rfl (decide_eq_false hc4) zN (lw_nil (c_cond_f rfl (wp_exit (t_exit (t_exit (c_exit_here (wp_seq (wp_plain _ [0,0] rfl (lw_tvn 2 rfl (wp_ret (post_ret [4] rfl (.int .i64 x) rfl ⟨(ret_int (pw_end hI.2 hI.1 (by assumption) (by assumption) hx)),hE3⟩)))))))))))
theorem z147_0 {p : Prop} (h : p := by exact ⟨by omega, by first | exact pw_odd hI.2 oM (by assumption) | exact pw_even hI.2 oM (by assumption)⟩) : p := h
theorem c_impl_Power (w : World) (a : Int) (n : Int) (_ha : -9223372036854775808 ≤ a ∧ a ≤ 9223372036854775807) (_hn : -9223372036854775808 ≤ n ∧ n ≤ 9223372036854775807)  :
  Calls Tryz.prog 147 #[.int .i64 a,.int .i64 n] w (fun e w' => e = .returned (.int .i64 (pw a n)) ∧ w' = w) := by
 refine calls_mk [.int .i64 a,.int .i64 n] 27 Tryz.func147 rfl rfl sM ?_
 have hE0 : w = w := rfl
 refine wp_seq (wp_plain _ [0] rfl (lw_tvn 1 rfl (wp_seq (wp_seq (wp_plain _ [0,0] rfl (lw_tv 1 rfl ?_))))))
 by_cases hc1 : n < ((0 :Nat):Int)
 ·
  exact q_lss true rfl rfl (decide_eq_true hc1) zN (lw_nil (c_cond_t rfl (wp_seq (wp_plain _ [0] rfl (lw_tvn 1 rfl (wp_ret (t_ret (post_ret [4] rfl (.int .i64 ((0 :Nat):Int)) rfl ⟨(ret_int (pw_neg (by assumption))),hE0⟩))))))))
 ·
  refine q_lss false rfl rfl (decide_eq_false hc1) zN (lw_nil (c_cond_f rfl (wp_skip (wp_seq (wp_plain _ [0] rfl (lw_tvn 1 rfl (wp_seq (wp_seq (wp_plain _ [0,0,0] rfl (lw_tv 1 rfl (lw_callq 166 [] [] [(.int .i64 a)] rfl rfl cf166 zN (.int .i64 (md a)) (fun wq => c_impl_Residue wq _ _ha) (lw_tvn 1 rfl (wp_block ?_)))))))))))))
  refine c_loop (S := Int × Int × Int) (fun (⟨m,x,b⟩ : Int × Int × Int) => ([(1,(.int .i64 m)),(5,(.int .i64 x)),(6,(.int .i64 b))] : List (Nat × Value))) (fun (⟨m,x,b⟩ : Int × Int × Int) (W : World) => W = w ∧ (0 ≤ m ∧ md (x * b ^ m.toNat) = md (a ^ n.toNat)) ∧ m ≤ 9223372036854775807 ∧ (0 ≤ x ∧ x < 1000003) ∧ (0 ≤ b ∧ b < 1000003)) (fun (⟨m,x,b⟩ : Int × Int × Int) => m.toNat) (n,((1 :Nat):Int),(md a)) ⟨rfl,rfl,rfl,trivial⟩ ⟨hE0,(by exact ⟨by omega,pw_start a n.toNat⟩),oM,oM,(by exact md_num _)⟩ ?_
  clear hE0
  rintro ⟨m,x,b⟩ ρ3 w3 ⟨hE3,hI,hm,hx,hb⟩
  refine wp_seq (wp_seq (wp_plain _ [0,0] rfl (lw_tv 1 rfl ?_)))
  by_cases hc4 : ((0 :Nat):Int) < m
  ·
   refine q_gtr true rfl rfl (decide_eq_true hc4) zN (lw_nil (c_cond_t rfl (wp_skip (wp_seq (wp_block (wp_seq (wp_seq (wp_plain _ [0,0,0] rfl (lw_tv 1 rfl (q_rem (m % 2) rfl rfl (by decide) (tm2 hI.1) zN ?_))))))))))
   by_cases hc5 : m % 2 = ((1 :Nat):Int)
   ·
    refine q_eql true rfl rfl (decide_eq_true hc5) zN (lw_nil (c_cond_t rfl (wp_plain _ [0,0,0,0,0] rfl (lw_tv 2 rfl (q_mul (wr (x * b)) rfl rfl rfl zN (q_rem (md (x * b)) rfl rfl (by decide) (nm_eq hx hb) zN (lw_tvn 1 rfl (wp_plain _ [0,0,0,0,0] rfl (lw_tv 2 rfl (q_mul (wr (b * b)) rfl rfl rfl zN (q_rem (md (b * b)) rfl rfl (by decide) (nm_eq hb hb) zN (lw_tvn 1 rfl (wp_plain _ [0,0,0] rfl (lw_tv 1 rfl (q_quo (m / 2) rfl rfl (by decide) (td2 hI.1 hm) zN (lw_tvn 1 rfl ?_))))))))))))))))
    exact ⟨((m / 2),(md (x * b)),(md (b * b))),_,rfl,⟨rfl,rfl,rfl,trivial⟩,⟨hE3,z147_0,oM,(by first | exact hx | exact md_num _),(by exact md_num _)⟩,by first | omega | (dsimp only; omega)⟩
   ·
    exact q_eql false rfl rfl (decide_eq_false hc5) zN (lw_nil (c_cond_f rfl (wp_skip (wp_plain _ [0,0,0,0,0] rfl (lw_tv 2 rfl (q_mul (wr (b * b)) rfl rfl rfl zN (q_rem (md (b * b)) rfl rfl (by decide) (nm_eq hb hb) zN (lw_tvn 1 rfl (wp_plain _ [0,0,0] rfl (lw_tv 1 rfl (q_quo (m / 2) rfl rfl (by decide) (td2 hI.1 hm) zN (lw_tvn 1 rfl ⟨((m / 2),x,(md (b * b))),_,rfl,⟨rfl,rfl,rfl,trivial⟩,⟨hE3,z147_0,oM,(by first | exact hx | exact md_num _),(by exact md_num _)⟩,by first | omega | (dsimp only; omega)⟩))))))))))))
  ·
   exact q_gtr false rfl rfl (decide_eq_false hc4) zN (lw_nil (c_cond_f rfl (wp_exit (t_exit (t_exit (c_exit_here (wp_seq (wp_plain _ [0,0] rfl (lw_tvn 2 rfl (wp_ret (post_ret [4] rfl (.int .i64 x) rfl ⟨(ret_int (pw_end hI.2 hI.1 (by assumption) (by assumption) hx)),hE3⟩)))))))))))
theorem c_spec_l01Inv (w : World) (a : Int) (_ha : -9223372036854775808 ≤ a ∧ a ≤ 9223372036854775807)  :
  Calls Tryz.prog 98 #[.int .i64 a] w (fun e w' => e = .returned (.int .i64 (inv a)) ∧ w' = w) := by
 refine calls_mk [.int .i64 a] 5 Tryz.func98 rfl rfl sM ?_
 have hE0 : w = w := rfl
 exact wp_seq (wp_plain _ [0] rfl (lw_tvn 1 rfl (wp_seq (wp_plain _ [0,0,0] rfl (lw_tv 1 rfl (lw_callq 132 [] [] [(.int .i64 a),(.int .i64 ((1000001 :Nat):Int))] rfl rfl cf132 zN (.int .i64 (pw a ((1000001 :Nat):Int))) (fun wq => c_spec_Power wq _ _ _ha oM) (lw_tvn 1 rfl (wp_ret (post_ret [2] rfl (.int .i64 (pw a ((1000001 :Nat):Int))) rfl ⟨rfl,hE0⟩)))))))))
theorem c_impl_inverse (w : World) (a : Int) (_ha : -9223372036854775808 ≤ a ∧ a ≤ 9223372036854775807)  :
  Calls Tryz.prog 133 #[.int .i64 a] w (fun e w' => e = .returned (.int .i64 (inv a)) ∧ w' = w) := by
 refine calls_mk [.int .i64 a] 5 Tryz.func133 rfl rfl sM ?_
 have hE0 : w = w := rfl
 exact wp_seq (wp_plain _ [0] rfl (lw_tvn 1 rfl (wp_seq (wp_plain _ [0,0,0] rfl (lw_tv 1 rfl (lw_callq 147 [] [] [(.int .i64 a),(.int .i64 ((1000001 :Nat):Int))] rfl rfl cf147 zN (.int .i64 (pw a ((1000001 :Nat):Int))) (fun wq => c_impl_Power wq _ _ _ha oM) (lw_tvn 1 rfl (wp_ret (post_ret [2] rfl (.int .i64 (pw a ((1000001 :Nat):Int))) rfl ⟨rfl,hE0⟩)))))))))
theorem c_impl_isNumber (w : World) (n : Int) (_hn : -9223372036854775808 ≤ n ∧ n ≤ 9223372036854775807)  :
  Calls Tryz.prog 123 #[.int .i64 n] w (fun e w' => e = .returned (.bool (isN n)) ∧ w' = w) := by
 refine calls_mk [.int .i64 n] 5 Tryz.func123 rfl rfl sM ?_
 have hE0 : w = w := rfl
 exact wp_seq (wp_plain _ [0] rfl (lw_tvn 1 rfl (wp_seq (wp_plain _ [0,0,0] rfl (lw_tv 1 rfl (lw_callq 68 [] [] [(.int .i64 n),(.int .i64 ((0 :Nat):Int)),(.int .i64 ((1000002 :Nat):Int))] rfl rfl cf68 zN (.bool (decide (((0 :Nat):Int) ≤ n) && decide (n ≤ ((1000002 :Nat):Int)))) (fun wq => c_impl_within wq _ _ _ _hn oM oM) (lw_tvn 1 rfl (wp_ret (post_ret [2] rfl (.bool (decide (((0 :Nat):Int) ≤ n) && decide (n ≤ ((1000002 :Nat):Int)))) rfl ⟨(ret_bool (by unfold isN; rfl)),hE0⟩)))))))))
theorem c_spec_l01Number (w : World) (n : Int) (_hn : -9223372036854775808 ≤ n ∧ n ≤ 9223372036854775807)  :
  Calls Tryz.prog 114 #[.int .i64 n] w (fun e w' => e = .returned (.bool (isN n)) ∧ w' = w) := by
 refine calls_mk [.int .i64 n] 5 Tryz.func114 rfl rfl sM ?_
 have hE0 : w = w := rfl
 exact wp_seq (wp_plain _ [0] rfl (lw_tvn 1 rfl (wp_seq (wp_plain _ [0,0,0] rfl (lw_tv 1 rfl (lw_callq 63 [] [] [(.int .i64 n),(.int .i64 ((0 :Nat):Int)),(.int .i64 ((1000002 :Nat):Int))] rfl rfl cf63 zN (.bool (decide (((0 :Nat):Int) ≤ n) && decide (n ≤ ((1000002 :Nat):Int)))) (fun wq => c_spec_l00In wq _ _ _ _hn oM oM) (lw_tvn 1 rfl (wp_ret (post_ret [2] rfl (.bool (decide (((0 :Nat):Int) ≤ n) && decide (n ≤ ((1000002 :Nat):Int)))) rfl ⟨(ret_bool (by unfold isN; rfl)),hE0⟩)))))))))
theorem c_impl_areNumbers_1 (w : World) (n : Int) (_hn : -9223372036854775808 ≤ n ∧ n ≤ 9223372036854775807)  :
  Calls Tryz.prog 122 #[.int .i64 n] w (fun e w' => e = .returned (.bool (!isN n)) ∧ Ext w w') := by
 refine calls_mk [.int .i64 n] 6 Tryz.func122 rfl rfl sM ?_
 have hE0 : Ext w w := Ext.refl w
 exact wp_seq (wp_plain _ [0] rfl (lw_tvn 1 rfl (wp_seq (wp_plain _ [0,0,0,0] rfl (lw_tv 1 rfl (lw_callq 123 [] [] [(.int .i64 n)] rfl rfl cf123 zN (.bool (isN n)) (fun wq => c_impl_isNumber wq _ _hn) (q_not (!(isN n)) rfl rfl zN (lw_tvn 1 rfl (wp_ret (post_ret [2] rfl (.bool (!(isN n))) rfl ⟨rfl,hE0⟩))))))))))
end Go.Proofs.YtnofbmdpabcjaaaGreat
namespace Go.Proofs.YtnofbmdpabcjaaaGreat
open Go Go.RowKit
set_option linter.unusedVariables false
set_option linter.unusedSimpArgs false
section
variable {a : List (List (List Int))} {b : List (List Int)} {N : Nat}
theorem SysP.some (h : SysP a b N) (hd : detM (begA a) ≠ 0) : ∃ M, jorS a b = some M := Option.ne_none_iff_exists'.1 (fun hn => hd (h.jor.1 hn))
end
end Go.Proofs.YtnofbmdpabcjaaaGreat
namespace Go.Proofs.YtnofbmdpabcjaaaGreat
open Go Go.RowKit
set_option linter.unusedVariables false
set_option linter.unusedSimpArgs false
set_option maxHeartbeats 4000000
set_option maxRecDepth 100000
attribute [local irreducible] LW
def ixF {α : Type} (p : α → Bool) (l : List α) : Int := if l.any p then ((l.findIdx p : Nat) : Int) else -1
theorem ix_yes {α : Type} {p : α → Bool} {l : List α} {k : Nat} (d : α) (h : ∀ j, j < k → p (l.getD j d) = false) (hk : k < l.length) (hp : p (l.getD k d) = true) : ((k : Nat) : Int) = ixF p l := by
  have e : ∀ j, (hj : j < l.length) → l.getD j d = l[j] := fun j hj => by simp [hj]
  have h1 : l.any p = true := List.any_eq_true.2 ⟨l[k], List.getElem_mem hk, by rw [← e k hk]; exact hp⟩
  have h2 : l.findIdx p = k := by
    rw [List.findIdx_eq hk]
    refine ⟨by rw [← e k hk]; exact hp, fun j hj => ?_⟩
    have := h j hj
    rw [e j (by omega)] at this
    exact this
  unfold ixF; rw [if_pos h1, h2]
theorem ix_no {α : Type} {p : α → Bool} {l : List α} {k : Nat} (d : α) (h : ∀ j, j < k → p (l.getD j d) = false) (hk : l.length ≤ k) : (-1 : Int) = ixF p l := by
  have h1 : l.any p = false := by
    rw [List.any_eq_false]
    intro x hx
    obtain ⟨j, hj, rfl⟩ := List.getElem_of_mem hx
    have := h j (by omega)
    have e : l.getD j d = l[j] := by simp [hj]
    rw [e] at this
    simp [this]
  unfold ixF; rw [h1]; rfl
theorem ix_ge {α : Type} (p : α → Bool) (l : List α) : decide (((0 : Nat) : Int) ≤ ixF p l) = l.any p := by
  unfold ixF
  split
  · rename_i h; rw [h]; exact decide_eq_true (by omega)
  · rename_i h; rw [Bool.not_eq_true] at h; rw [h]; exact decide_eq_false (by omega)
theorem ix_step {α : Type} {p : α → Bool} {l : List α} {k : Nat} {d : α} (h : ∀ j, j < k → p (l.getD j d) = false) (hp : p (l.getD k d) = false) : ∀ j, j < k + 1 → p (l.getD j d) = false := by
  intro j hj
  by_cases e : j = k
  · subst e; exact hp
  · exact h j (by omega)
theorem c_slices_IndexFunc___int64_int64_ (w : World) (va : Value) (a : List Int) (q : Nat) (qf qc : List Value) (p : Int → Bool) (ha : Rd (rdL rI) w.heap va a) (hcf_q : ((Tryz.prog.funcs[q]?).map fun fn => (fn.name != "runtime.NumGoroutine") && fn.body.isSome) = some true) (hp : ∀ (x : Int),-9223372036854775808 ≤ x ∧ x ≤ 9223372036854775807 → ∀ w1,Ext w w1 → Calls Tryz.prog q (qf ++ [Value.int .i64 x] ++ qc).toArray w1 (fun e w2 => e = .returned (.bool (p x)) ∧ Ext w1 w2))  :
  Calls Tryz.prog 145 #[va,.func (.func q) qf.toArray qc.toArray] w (fun e w' => e = .returned (.int .i64 (ixF p a)) ∧ Ext w w') := by
 refine calls_mk [va,.func (.func q) qf.toArray qc.toArray] 19 Tryz.func145 rfl rfl sM ?_
 have hE0 : Ext w w := Ext.refl w
 have hl_va := ha.lenle
 refine wp_seq (wp_plain _ [0] rfl (lw_tvn 1 rfl (wp_seq (wp_seq (wp_plain _ [0,0,0] rfl (lw_tv 1 rfl (q_len (v := va) u25 rfl ha.isSl zN (lw_tvn 1 rfl (wp_block ?_)))))))))
 refine c_loop (S := Nat) (fun (k : Nat) => ([(8,(.int .i64 ((k :Nat):Int))),(0,va),(1,(.func (.func q) qf.toArray qc.toArray)),(7,(.int .i64 ((a.length :Nat):Int)))] : List (Nat × Value))) (fun (k : Nat) (W : World) => Ext w W ∧ k ≤ a.length ∧ (∀ j,j < k → p (a.getD j 0) = false)) (fun (k : Nat) => a.length - k) 0 ⟨rfl,rfl,rfl,rfl,trivial⟩ ⟨hE0,sD,(by intro j hj; omega)⟩ ?_
 clear hE0
 rintro k ρ1 w1 ⟨hE1,hp1_0,hq⟩
 have hzs1 : w.heap.size ≤ w1.heap.size := hE1.size
 refine wp_seq (wp_plain _ [0] rfl ?_)
 by_cases hc2 : ((k :Nat):Int) < ((a.length :Nat):Int)
 ·
  refine q_lss true rfl rfl (decide_eq_true hc2) zN (lw_nil (wp_seq (c_cond_t rfl (wp_skip (wp_seq (wp_block (wp_seq (wp_plain _ [0,0] rfl (lw_tvn 2 rfl (wp_seq (wp_plain _ [0,0,0,0,2,3] rfl (lw_tv 3 rfl (q_idx (v := va) k u25 ti2 rfl rfl ha.isSl rfl sD zN ?_)))))))))))))
  refine q_load (p := eptr va k 1) (.inr rfl) (.int .i64 (a.getD k 0)) one2 rfl (ldH_ext hE1 (ha.getI sD).1) zN ?_
  have hcall3 := hp (a.getD k 0) (ha.getI sD).2 _ hE1
  refine lw_call q qf qc _ rfl rfl hcf_q zN hcall3 ?_
  rintro e3 w3 ⟨rfl,hX3⟩
  refine ⟨_,rfl,hX3,?_⟩
  have hzs3:=hX3.size
  have hE3:=hE1.trans hX3
  cases hc3 : p (a.getD k 0)
  ·
   refine lw_nil (c_cond_f rfl (wp_skip (wp_plain _ [0,0] rfl (q_add ((k + 1 :Nat):Int) rfl rfl (w64n oM sD) zN (lw_tvn 1 rfl ?_)))))
   exact ⟨(k + 1),_,rfl,⟨rfl,rfl,rfl,rfl,trivial⟩,⟨hE3,sD,(by exact ix_step hq (by assumption))⟩,by first | omega | (dsimp only; omega)⟩
  ·
   exact lw_nil (c_cond_t rfl (wp_seq (wp_plain _ [0,0] rfl (lw_tvn 2 rfl (wp_ret (b_ret (t_ret (t_ret (b_ret (t_ret (post_ret [4] rfl (.int .i64 ((k :Nat):Int)) rfl ⟨(ret_int (ix_yes 0 hq oM (by assumption))),hE3⟩)))))))))))
 ·
  exact q_lss false rfl rfl (decide_eq_false hc2) zN (lw_nil (wp_seq (c_cond_f rfl (wp_exit (t_exit (t_exit (c_exit_here (wp_seq (wp_plain _ [0] rfl (lw_tvn 1 rfl (wp_ret (post_ret [4] rfl (.int .i64 (-1)) rfl ⟨(ret_int (ix_no 0 hq oM)),hE1⟩))))))))))))
theorem c_slices_ContainsFunc___int64_int64_ (w : World) (va : Value) (a : List Int) (q : Nat) (qf qc : List Value) (p : Int → Bool) (ha : Rd (rdL rI) w.heap va a) (hcf_q : ((Tryz.prog.funcs[q]?).map fun fn => (fn.name != "runtime.NumGoroutine") && fn.body.isSome) = some true) (hp : ∀ (x : Int),-9223372036854775808 ≤ x ∧ x ≤ 9223372036854775807 → ∀ w1,Ext w w1 → Calls Tryz.prog q (qf ++ [Value.int .i64 x] ++ qc).toArray w1 (fun e w2 => e = .returned (.bool (p x)) ∧ Ext w1 w2))  :
  Calls Tryz.prog 121 #[va,.func (.func q) qf.toArray qc.toArray] w (fun e w' => e = .returned (.bool (a.any p)) ∧ Ext w w') := by
 refine calls_mk [va,.func (.func q) qf.toArray qc.toArray] 9 Tryz.func121 rfl rfl sM ?_
 have hE0 : Ext w w := Ext.refl w
 have hl_va := ha.lenle
 refine wp_seq (wp_plain _ [0] rfl (lw_tvn 1 rfl (wp_seq (wp_plain _ [0,0,3,0,0] rfl (lw_tv 2 rfl (lw_call 145 [] [] [va,(.func (.func q) qf.toArray qc.toArray)] rfl rfl cf145 zN (c_slices_IndexFunc___int64_int64_ _ _ _ q qf qc p (ha.ext g1 hE0) hcf_q (fun x hx w1 hw => hp x hx w1 (hE0.trans hw))) ?_))))))
 rintro e1 w1 ⟨rfl,hX1⟩
 refine ⟨_,rfl,hX1,?_⟩
 have hzs1:=hX1.size
 have hE1:=hE0.trans hX1
 exact q_geq (decide (((0 :Nat):Int) ≤ ixF p a)) rfl rfl rfl zN (lw_tvn 1 rfl (wp_ret (post_ret [4] rfl (.bool (decide (((0 :Nat):Int) ≤ ixF p a))) rfl ⟨(ret_bool (ix_ge p a)),hE1⟩)))
theorem c_slices_Clone___int64_int64_ (w : World) (va : Value) (a : List Int) (ha : Rd (rdL rI) w.heap va a) (hla : a.length ≤ 1000000000000) :
  Calls Tryz.prog 86 #[va] w (fun e w' => ∃ v0 : Value,e = .returned (v0) ∧ Ext w w' ∧ Fr (owL rI 2) w.heap.size w'.heap.size w'.heap v0 a) := by
 refine calls_mk [va] 8 Tryz.func86 rfl rfl sM ?_
 have hE0 : Ext w w := Ext.refl w
 have hl_va := ha.lenle
 refine wp_seq (wp_plain _ [0] rfl (lw_tvn 1 rfl (wp_seq (wp_seq (wp_plain _ [0,0] rfl (lw_tv 1 rfl ?_))))))
 cases hc1 : isNilV va
 ·
  refine q_nilq (v := va) false u25 rfl rfl ha.isSl hc1 zN (lw_nil (c_cond_f rfl (wp_skip (wp_seq (wp_plain _ [3,0,4,0] rfl (r_nil (rI) good_rI u25 ti2 zN fun v2 w2 hX2 hz2 hO2 => ?_))))))
  have hzs2:=hX2.size
  have hE2:=hE0.trans hX2
  refine lw_tv 1 rfl (e_appI (v := v2) (a := va) u25 ti2 rfl rfl rfl hO2 hE2.size (ha.ext g1 hE2) sD (by unfold maxLen; first | omega | assumption | (simp; done) | (simp; omega)) zN fun v3 w3 F3 hC3 hF3 hO3 => ?_)
  have hE3 : Ext w w3 := hC3.below hE2 (fun c hc => Nat.le_trans (Nat.le_refl _) (hF3 c hc).1) hE2.size
  have hzs3:=hC3.size
  exact lw_tvn 1 rfl (wp_ret (post_ret [2] rfl v3 rfl ⟨v3,rfl,hE3,hO3.up o1⟩))
 ·
  refine q_nilq (v := va) true u25 rfl rfl ha.isSl hc1 zN (lw_nil (c_cond_t rfl (wp_seq (wp_plain _ [0] rfl (lw_tvn 1 rfl (wp_ret (t_ret ?_)))))))
  have hnil : a = [] := ha.nil_of (by assumption)
  subst hnil
  exact post_ret [2] rfl (.slice none 0 0) rfl ⟨(.slice none 0 0),rfl,hE0,frNil _ _ _⟩
theorem c_impl_areNumbers (w : World) (va : Value) (a : List Int) (count : Int) (ha : Rd (rdL rI) w.heap va a) (_hcount : -9223372036854775808 ≤ count ∧ count ≤ 9223372036854775807)  :
  Calls Tryz.prog 85 #[va,.int .i64 count] w (fun e w' => e = .returned (.bool (decide (((a.length :Nat):Int) = count) && allN a)) ∧ Ext w w') := by
 refine calls_mk [va,.int .i64 count] 14 Tryz.func85 rfl rfl sM ?_
 have hE0 : Ext w w := Ext.refl w
 have hl_va := ha.lenle
 refine wp_seq (wp_plain _ [0] rfl (lw_tvn 1 rfl (wp_seq (wp_plain _ [0,0,0,0,0,0,3,0,0,0] rfl (lw_tv 1 rfl (q_len (v := va) u25 rfl ha.isSl zN (lw_tv 1 rfl ?_)))))))
 by_cases hc1 : ((a.length :Nat):Int) = count
 ·
  refine q_eql true rfl rfl (decide_eq_true hc1) zN (lw_tv 2 rfl (lw_call 121 [] [] [va,(.func (.func 122) #[] #[])] rfl rfl cf121 (zS (e := 9) rfl rfl rfl) (c_slices_ContainsFunc___int64_int64_ _ _ _ 122 [] [] (fun x => !isN x) (ha.ext g1 hE0) cf122 (fun x hx w1 hw => c_impl_areNumbers_1 w1 x hx)) ?_))
  rintro e2 w2 ⟨rfl,hX2⟩
  refine ⟨_,rfl,hX2,?_⟩
  have hzs2:=hX2.size
  have hE2:=hE0.trans hX2
  exact q_not (!(a.any (fun x => !isN x))) rfl rfl (zS (e := 9) rfl rfl rfl) (lw_tvn 2 rfl (wp_ret (post_ret [4] rfl (.bool (!(a.any (fun x => !isN x)))) rfl ⟨(ret_bool (by first | (rw [any_not]; simp [*]; done) | simp [*])),hE2⟩)))
 ·
  exact q_eql false rfl rfl (decide_eq_false hc1) zN (lw_tvn 6 rfl (wp_ret (post_ret [4] rfl (.bool false) rfl ⟨(ret_bool (by first | (rw [any_not]; simp [*]; done) | simp [*])),hE0⟩)))
theorem c_spec_l01Numbers (w : World) (va : Value) (a : List Int) (ha : Rd (rdL rI) w.heap va a)  :
  Calls Tryz.prog 79 #[va] w (fun e w' => e = .returned (.bool (allN a)) ∧ Ext w w') := by
 refine calls_mk [va] 16 Tryz.func79 rfl rfl sM ?_
 have hE0 : Ext w w := Ext.refl w
 have hl_va := ha.lenle
 refine wp_seq (wp_plain _ [0] rfl (lw_tvn 1 rfl (wp_seq (wp_seq (wp_plain _ [0] rfl (lw_tvn 1 rfl (wp_block (c_loop (S := Nat) (fun (k : Nat) => ([(3,(.int .i64 ((k :Nat):Int))),(0,va)] : List (Nat × Value))) (fun (k : Nat) (W : World) => Ext w W ∧ k ≤ a.length ∧ ((a.take k).all isN = true)) (fun (k : Nat) => a.length - k) 0 ⟨rfl,rfl,trivial⟩ ⟨hE0,sD,(by exact all_none _ _)⟩ ?_))))))))
 clear hE0
 rintro k ρ1 w1 ⟨hE1,hp1_0,hq⟩
 have hzs1 : w.heap.size ≤ w1.heap.size := hE1.size
 refine wp_seq (wp_seq (wp_plain _ [0,0,0,0] rfl (lw_tv 2 rfl (q_len (v := va) u25 rfl ha.isSl zN ?_))))
 by_cases hc2 : ((k :Nat):Int) < ((a.length :Nat):Int)
 ·
  refine q_lss true rfl rfl (decide_eq_true hc2) zN (lw_nil (c_cond_t rfl (wp_skip (wp_seq (wp_block (wp_seq (wp_plain _ [0,0,0,2,0,0] rfl (lw_tv 2 rfl (q_idx (v := va) k u25 ti2 rfl rfl ha.isSl rfl sD zN ?_)))))))))
  refine q_load (p := eptr va k 1) (.inr rfl) (.int .i64 (a.getD k 0)) one2 rfl (ldH_ext hE1 (ha.getI sD).1) zN ?_
  refine lw_callq 114 [] [] [(.int .i64 (a.getD k 0))] rfl rfl cf114 zN (.bool (isN (a.getD k 0))) (fun wq => c_spec_l01Number wq _ (ha.getI sD).2) (q_not (!(isN (a.getD k 0))) rfl rfl zN (lw_nil ?_))
  cases hb4 : (!(isN (a.getD k 0)))
  ·
   refine c_cond_f (by first | rfl | (show Value.bool _ = _; rw [hb4])) (wp_skip (wp_plain _ [0,0,0] rfl (lw_tv 1 rfl (q_add ((k + 1 :Nat):Int) rfl rfl (w64n oM sD) zN (lw_tvn 1 rfl ?_)))))
   exact ⟨(k + 1),_,rfl,⟨rfl,rfl,trivial⟩,⟨hE1,sD,(by exact all_succ 0 hq oM (by simpa using ‹(!isN (a.getD k 0)) = false›))⟩,by first | omega | (dsimp only; omega)⟩
  ·
   exact c_cond_t (by first | rfl | (show Value.bool _ = _; rw [hb4])) (wp_seq (wp_plain _ [0] rfl (lw_tvn 1 rfl (wp_ret (b_ret (t_ret (t_ret (b_ret (t_ret (post_ret [2] rfl (.bool false) rfl ⟨(ret_bool (all_fail (k := k) 0 oM (by simpa using ‹(!isN (a.getD k 0)) = true›)).symm),hE1⟩))))))))))
 ·
  exact q_lss false rfl rfl (decide_eq_false hc2) zN (lw_nil (c_cond_f rfl (wp_exit (t_exit (t_exit (c_exit_here (wp_seq (wp_plain _ [0] rfl (lw_tvn 1 rfl (wp_ret (post_ret [2] rfl (.bool true) rfl ⟨(ret_bool (all_done hq oM).symm),hE1⟩)))))))))))
theorem c_spec_l00Own (w : World) (va : Value) (a : List Int) (ha : Rd (rdL rI) w.heap va a) (hla : a.length ≤ 1000000000000) :
  Calls Tryz.prog 80 #[va] w (fun e w' => ∃ v0 : Value,e = .returned (v0) ∧ Ext w w' ∧ Fr (owL rI 2) w.heap.size w'.heap.size w'.heap v0 a) := by
 refine calls_mk [va] 6 Tryz.func80 rfl rfl sM ?_
 have hE0 : Ext w w := Ext.refl w
 have hl_va := ha.lenle
 refine wp_seq (wp_plain _ [0] rfl (lw_tvn 1 rfl (wp_seq (wp_plain _ [3,0,4,0] rfl (r_nil (rI) good_rI u25 ti2 zN fun v1 w1 hX1 hz1 hO1 => ?_)))))
 have hzs1:=hX1.size
 have hE1:=hE0.trans hX1
 refine lw_tv 1 rfl (e_appI (v := v1) (a := va) u25 ti2 rfl rfl rfl hO1 hE1.size (ha.ext g1 hE1) sD (by unfold maxLen; first | omega | assumption | (simp; done) | (simp; omega)) zN fun v2 w2 F2 hC2 hF2 hO2 => ?_)
 have hE2 : Ext w w2 := hC2.below hE1 (fun c hc => Nat.le_trans (Nat.le_refl _) (hF2 c hc).1) hE1.size
 have hzs2:=hC2.size
 exact lw_tvn 1 rfl (wp_ret (post_ret [2] rfl v2 rfl ⟨v2,rfl,hE2,hO2.up o1⟩))
end Go.Proofs.YtnofbmdpabcjaaaGreat
namespace Go.Proofs.YtnofbmdpabcjaaaGreat
open Go Go.RowKit
set_option linter.unusedVariables false
set_option linter.unusedSimpArgs false
set_option maxHeartbeats 4000000
set_option maxRecDepth 100000
attribute [local irreducible] LW
theorem c_spec_l01Scale (w : World) (va : Value) (a : List Int) (y : Int) (ha : Rd (rdL rI) w.heap va a) (_hy : -9223372036854775808 ≤ y ∧ y ≤ 9223372036854775807) (hla : a.length ≤ 1000000000000) :
  Calls Tryz.prog 149 #[va,.int .i64 y] w (fun e w' => ∃ v0 : Value,e = .returned (v0) ∧ Ext w w' ∧ Fr (owL rI 2) w.heap.size w'.heap.size w'.heap v0 (scl a y)) := by
 refine calls_mk [va,.int .i64 y] 24 Tryz.func149 rfl rfl sM ?_
 have hE0 : Ext w w := Ext.refl w
 have hl_va := ha.lenle
 refine wp_seq (wp_plain _ [0] rfl (lw_tvn 1 rfl (wp_seq (wp_plain _ [3,0] rfl (r_nil (rI) good_rI u25 ti2 zN fun v1 w1 hX1 hz1 hO1 => ?_)))))
 have hzs1:=hX1.size
 have hE1:=hE0.trans hX1
 refine lw_tvn 1 rfl (wp_seq (wp_seq (wp_plain _ [0] rfl (lw_tvn 1 rfl (wp_block ?_)))))
 refine c_loop (S := Nat × Value) (fun (⟨k,vo⟩ : Nat × Value) => ([(5,vo),(6,(.int .i64 ((k :Nat):Int))),(0,va),(1,(.int .i64 y))] : List (Nat × Value))) (fun (⟨k,vo⟩ : Nat × Value) (W : World) => Ext w W ∧ Fr (owL rI 2) w.heap.size W.heap.size W.heap vo ((a.take k).map (fun x => md (x * y))) ∧ k ≤ a.length) (fun (⟨k,vo⟩ : Nat × Value) => a.length - k) (0,v1) ⟨rfl,rfl,rfl,rfl,trivial⟩ ⟨hE1,hO1.up o1,sD⟩ ?_
 clear hE0 hO1 hz1 hX1 hzs1 hE1
 rintro ⟨k,vo⟩ ρ2 w2 ⟨hE2,hL2_0,hp2_0⟩
 have hzs2 : w.heap.size ≤ w2.heap.size := hE2.size
 refine wp_seq (wp_seq (wp_plain _ [0,0,0,0] rfl (lw_tv 2 rfl (q_len (v := va) u25 rfl ha.isSl zN ?_))))
 by_cases hc3 : ((k :Nat):Int) < ((a.length :Nat):Int)
 ·
  refine q_lss true rfl rfl (decide_eq_true hc3) zN (lw_nil (c_cond_t rfl (wp_skip (wp_seq (wp_block (wp_plain _ [0,0,0,0,2,0,0,3,4,0] rfl (lw_tv 3 rfl (q_idx (v := va) k u25 ti2 rfl rfl ha.isSl rfl sD zN ?_))))))))
  refine q_load (p := eptr va k 1) (.inr rfl) (.int .i64 (a.getD k 0)) one2 rfl (ldH_ext hE2 (ha.getI sD).1) zN (lw_tv 1 rfl ?_)
  refine lw_callq 94 [] [] [(.int .i64 (a.getD k 0)),(.int .i64 y)] rfl rfl cf94 zN (.int .i64 (md ((a.getD k 0) * y))) (fun wq => c_spec_Times wq _ _ (ha.getI sD).2 _hy) (r_one (u := (.int .i64 (md ((a.getD k 0) * y)))) (B := w2.heap.size) good_rI u25 ti2 rfl rfl (frI w2.heap.size w2.heap.size _ _ (md_rng _)) (Nat.le_refl _) zN fun v5 w5 hX5 hz5 hO5 => ?_)
  have hzs5:=hX5.size
  have hE5:=hE2.trans hX5
  have hL2_0x5 := hL2_0.ext (o1) hX5
  refine e_appI (v := vo) (a := v5) u25 ti2 rfl rfl rfl hL2_0x5 hE5.size hO5.rd1 sD (by unfold maxLen; first | omega | assumption | (simp; done) | (simp; omega)) zN fun v6 w6 F6 hC6 hF6 hO6 => ?_
  have hE6 : Ext w w6 := hC6.below hE5 (fun c hc => Nat.le_trans (Nat.le_refl _) (hF6 c hc).1) hE5.size
  have hzs6:=hC6.size
  have hF7 := hO5.chg (o1) hC6 (fun c hc => by have := hF6 c hc; omega)
  refine lw_tvn 1 rfl (wp_plain _ [0,0,0] rfl (lw_tv 1 rfl (q_add ((k + 1 :Nat):Int) rfl rfl (w64n oM sD) zN (lw_tvn 1 rfl ?_))))
  exact ⟨((k + 1),v6),_,rfl,⟨rfl,rfl,rfl,rfl,trivial⟩,⟨hE6,(by rw [map_snoc 0 oM]; exact hO6.up o1),sD⟩,by first | omega | (dsimp only; omega)⟩
 ·
  exact q_lss false rfl rfl (decide_eq_false hc3) zN (lw_nil (c_cond_f rfl (wp_exit (t_exit (t_exit (c_exit_here (wp_seq (wp_plain _ [0,0] rfl (lw_tvn 2 rfl (wp_ret (post_ret [4] rfl vo rfl ⟨vo,rfl,hE2,(by have h := hL2_0.up o1; rwa [List.take_of_length_le oM] at h)⟩)))))))))))
theorem c_spec_l07Numbers (w : World) (va : Value) (a : List Int) (n : Int) (ha : Rd (rdL rI) w.heap va a) (_hn : -9223372036854775808 ≤ n ∧ n ≤ 9223372036854775807)  :
  Calls Tryz.prog 100 #[va,.int .i64 n] w (fun e w' => e = .returned (.bool (decide (((a.length :Nat):Int) = n) && allN a)) ∧ Ext w w') := by
 refine calls_mk [va,.int .i64 n] 13 Tryz.func100 rfl rfl sM ?_
 have hE0 : Ext w w := Ext.refl w
 have hl_va := ha.lenle
 refine wp_seq (wp_plain _ [0] rfl (lw_tvn 1 rfl (wp_seq (wp_plain _ [0,0,0,0,0,0,3,0,0] rfl (lw_tv 1 rfl (q_len (v := va) u25 rfl ha.isSl zN (lw_tv 1 rfl ?_)))))))
 by_cases hc1 : ((a.length :Nat):Int) = n
 ·
  refine q_eql true rfl rfl (decide_eq_true hc1) zN (lw_tv 2 rfl (lw_call 79 [] [] [va] rfl rfl cf79 (zS (e := 9) rfl rfl rfl) (c_spec_l01Numbers _ _ _ (ha.ext g1 hE0)) ?_))
  rintro e2 w2 ⟨rfl,hX2⟩
  refine ⟨_,rfl,hX2,?_⟩
  have hzs2:=hX2.size
  have hE2:=hE0.trans hX2
  exact lw_tvn 2 rfl (wp_ret (post_ret [4] rfl (.bool (allN a)) rfl ⟨(ret_bool (by simp [*])),hE2⟩))
 ·
  exact q_eql false rfl rfl (decide_eq_false hc1) zN (lw_tvn 5 rfl (wp_ret (post_ret [4] rfl (.bool false) rfl ⟨(ret_bool (by simp [*])),hE0⟩)))
theorem c_impl_isOrder (w : World) (n : Int) (_hn : -9223372036854775808 ≤ n ∧ n ≤ 9223372036854775807)  :
  Calls Tryz.prog 103 #[.int .i64 n] w (fun e w' => e = .returned (.bool (decide (((0 :Nat):Int) ≤ n) && decide (n ≤ ((12 :Nat):Int)))) ∧ Ext w w') := by
 refine calls_mk [.int .i64 n] 5 Tryz.func103 rfl rfl sM ?_
 have hE0 : Ext w w := Ext.refl w
 exact wp_seq (wp_plain _ [0] rfl (lw_tvn 1 rfl (wp_seq (wp_plain _ [0,0,0] rfl (lw_tv 1 rfl (lw_callq 68 [] [] [(.int .i64 n),(.int .i64 ((0 :Nat):Int)),(.int .i64 ((12 :Nat):Int))] rfl rfl cf68 zN (.bool (decide (((0 :Nat):Int) ≤ n) && decide (n ≤ ((12 :Nat):Int)))) (fun wq => c_impl_within wq _ _ _ _hn oM oM) (lw_tvn 1 rfl (wp_ret (post_ret [2] rfl (.bool (decide (((0 :Nat):Int) ≤ n) && decide (n ≤ ((12 :Nat):Int)))) rfl ⟨rfl,hE0⟩)))))))))
theorem c_impl_extended (w : World) (va : Value) (a : List Int) (o : Int) (ha : Rd (rdL rI) w.heap va a) (_ho : -9223372036854775808 ≤ o ∧ o ≤ 9223372036854775807) (hla : a.length ≤ 1000000000000) (ho : 0 ≤ o ∧ o ≤ 12) :
  Calls Tryz.prog 97 #[va,.int .i64 o] w (fun e w' => ∃ v0 : Value,e = .returned (v0) ∧ Ext w w' ∧ Fr (owL (owL rI 2) 25) w.heap.size w'.heap.size w'.heap v0 (a.map (fun x => (List.replicate (o.toNat + 1) 0).set 0 x))) := by
 refine calls_mk [va,.int .i64 o] 28 Tryz.func97 rfl rfl sM ?_
 have hE0 : Ext w w := Ext.refl w
 have hl_va := ha.lenle
 refine wp_seq (wp_plain _ [0] rfl (lw_tvn 1 rfl (wp_seq (wp_plain _ [3,0] rfl (r_nil (owL rI 2) o1 u27 ti25 zN fun v1 w1 hX1 hz1 hO1 => ?_)))))
 have hzs1:=hX1.size
 have hE1:=hE0.trans hX1
 refine lw_tvn 1 rfl (wp_seq (wp_seq (wp_plain _ [0,0,0] rfl (lw_tv 1 rfl (q_len (v := va) u25 rfl ha.isSl zN (lw_tvn 1 rfl (wp_block ?_)))))))
 refine c_loop (S := Nat × Value) (fun (⟨k,vo⟩ : Nat × Value) => ([(5,vo),(12,(.int .i64 ((k :Nat):Int))),(1,(.int .i64 o)),(10,va),(11,(.int .i64 ((a.length :Nat):Int)))] : List (Nat × Value))) (fun (⟨k,vo⟩ : Nat × Value) (W : World) => Ext w W ∧ Fr (owL (owL rI 2) 25) w.heap.size W.heap.size W.heap vo ((a.take k).map (fun x => (List.replicate (o.toNat + 1) 0).set 0 x)) ∧ k ≤ a.length) (fun (⟨k,vo⟩ : Nat × Value) => a.length - k) (0,v1) ⟨rfl,rfl,rfl,rfl,rfl,trivial⟩ ⟨hE1,hO1.up o2,sD⟩ ?_
 clear hE0 hO1 hz1 hX1 hzs1 hE1
 rintro ⟨k,vo⟩ ρ2 w2 ⟨hE2,hL2_0,hp2_0⟩
 have hzs2 : w.heap.size ≤ w2.heap.size := hE2.size
 refine wp_seq (wp_plain _ [0] rfl ?_)
 by_cases hc3 : ((k :Nat):Int) < ((a.length :Nat):Int)
 ·
  refine q_lss true rfl rfl (decide_eq_true hc3) zN (lw_nil (wp_seq (c_cond_t rfl (wp_skip (wp_seq (wp_block (wp_seq (wp_plain _ [0,2,0] rfl (q_idx (v := va) k u25 ti2 rfl rfl ha.isSl rfl sD zN ?_)))))))))
  refine q_load (p := eptr va k 1) (.inr rfl) (.int .i64 (a.getD k 0)) one2 rfl (ldH_ext hE2 (ha.getI sD).1) zN (lw_tvn 1 rfl (wp_seq (wp_plain _ [0,0,3,0] rfl (lw_tv 1 rfl (q_add ((o.toNat + 1 :Nat):Int) rfl rfl (w64n oM oM) zN ?_)))))
  refine r_make (n := o.toNat + 1) u25 ti2 rfl rfl rfl sD zN fun v4 w4 hX4 hz4 hO4 => ?_
  have hzs4:=hX4.size
  have hE4:=hE2.trans hX4
  have hL2_0x4 := hL2_0.ext (o2) hX4
  refine lw_tvn 1 rfl (wp_seq (wp_plain _ [0,0,0,4] rfl (lw_tv 2 rfl (q_idx (v := v4) 0 u25 ti2 rfl rfl hO4.isSl rfl sD zN ?_))))
  refine e_setI (v := v4) (w := w4) sz2 rfl rfl (ha.getI sD).2 hO4 sD zN fun w5 F5 hC5 hz5 hF5 hO5 => ?_
  have hE5 : Ext w w5 := hC5.below hE4 (fun c hc => Nat.le_trans hE2.size (hF5 c hc).1) hE4.size
  have hzs5:=hC5.size
  have hF6 := hL2_0x4.chg (o2) hC5 (fun c hc => by have := hF5 c hc; omega)
  refine lw_nil (wp_plain _ [0,0,3,4,0] rfl (lw_tv 2 rfl (r_one (u := v4) (B := w2.heap.size) o1 u27 ti25 rfl rfl hO5 (by first | exact Nat.le_refl _ | omega) zN fun v7 w7 hX7 hz7 hO7 => ?_)))
  have hzs7:=hX7.size
  have hE7:=hE5.trans hX7
  have hF6x7 := hF6.ext (o2) hX7
  refine e_appF o1 (v := vo) (a := v7) u27 ti25 rfl rfl rfl hF6x7 hE7.size hO7 oM hE2.size sD (by unfold maxLen; first | omega | assumption | (simp; done) | (simp; omega)) zN fun v8 w8 F8 hC8 hF8 hO8 => ?_
  have hE8 : Ext w w8 := hC8.below hE7 (fun c hc => Nat.le_trans (Nat.le_refl _) (hF8 c hc).1) hE7.size
  have hzs8:=hC8.size
  refine lw_tvn 1 rfl (wp_plain _ [0,0] rfl (q_add ((k + 1 :Nat):Int) rfl rfl (w64n oM sD) zN (lw_tvn 1 rfl ?_)))
  exact ⟨((k + 1),v8),_,rfl,⟨rfl,rfl,rfl,rfl,rfl,trivial⟩,⟨hE8,(by rw [map_snoc 0 oM]; exact hO8.up o2),sD⟩,by first | omega | (dsimp only; omega)⟩
 ·
  exact q_lss false rfl rfl (decide_eq_false hc3) zN (lw_nil (wp_seq (c_cond_f rfl (wp_exit (t_exit (t_exit (c_exit_here (wp_seq (wp_plain _ [0,0] rfl (lw_tvn 2 rfl (wp_ret (post_ret [4] rfl vo rfl ⟨vo,rfl,hE2,(by have h := hL2_0.up o2; rwa [List.take_of_length_le oM] at h)⟩))))))))))))
end Go.Proofs.YtnofbmdpabcjaaaGreat
namespace Go.Proofs.YtnofbmdpabcjaaaGreat
open Go Go.RowKit
set_option linter.unusedVariables false
set_option linter.unusedSimpArgs false
set_option maxHeartbeats 4000000
set_option maxRecDepth 100000
attribute [local irreducible] LW
theorem c_impl_scaled (w : World) (va : Value) (a : List Int) (y : Int) (ha : Rd (rdL rI) w.heap va a) (_hy : -9223372036854775808 ≤ y ∧ y ≤ 9223372036854775807) (hla : a.length ≤ 1000000000000) (hqa : allN a = true) (hy : 0 ≤ y ∧ y < 1000003) :
  Calls Tryz.prog 161 #[va,.int .i64 y] w (fun e w' => ∃ v0 : Value,e = .returned (v0) ∧ Ext w w' ∧ Fr (owL rI 2) w.heap.size w'.heap.size w'.heap v0 (sclS a y)) := by
 refine calls_mk [va,.int .i64 y] 27 Tryz.func161 rfl rfl sM ?_
 have hE0 : Ext w w := Ext.refl w
 have hl_va := ha.lenle
 refine wp_seq (wp_plain _ [0] rfl (lw_tvn 1 rfl (wp_seq (wp_plain _ [0,0,3,0] rfl (lw_tv 1 rfl (q_len (v := va) u25 rfl ha.isSl zN (r_make (n := a.length) u25 ti2 rfl rfl rfl sD zN fun v1 w1 hX1 hz1 hO1 => ?_)))))))
 have hzs1:=hX1.size
 have hE1:=hE0.trans hX1
 refine lw_tvn 1 rfl (wp_seq (wp_seq (wp_plain _ [0,0,0] rfl (lw_tv 1 rfl (q_len (v := va) u25 rfl ha.isSl zN (lw_tvn 1 rfl (wp_block ?_)))))))
 refine c_loop (S := Nat) (fun (k : Nat) => ([(12,(.int .i64 ((k :Nat):Int))),(0,va),(1,(.int .i64 y)),(5,v1),(11,(.int .i64 ((a.length :Nat):Int)))] : List (Nat × Value))) (fun (k : Nat) (W : World) => Ext w W ∧ Fr (owL rI 2) w.heap.size W.heap.size W.heap v1 (mix k (sclS a y) (List.replicate a.length 0)) ∧ k ≤ a.length) (fun (k : Nat) => a.length - k) 0 ⟨rfl,rfl,rfl,rfl,rfl,trivial⟩ ⟨hE1,(by rw [mix_zero]; exact hO1.up o1),sD⟩ ?_
 clear hE0 hO1 hz1 hX1 hzs1 hE1
 rintro k ρ2 w2 ⟨hE2,hL2_0,hp2_0⟩
 have hzs2 : w.heap.size ≤ w2.heap.size := hE2.size
 have hml := mix_len k (sclS a y) (List.replicate a.length 0) sM
 rw [List.length_replicate] at hml
 have hga := allN_get hqa k
 refine wp_seq (wp_plain _ [0] rfl ?_)
 by_cases hc3 : ((k :Nat):Int) < ((a.length :Nat):Int)
 ·
  refine q_lss true rfl rfl (decide_eq_true hc3) zN (lw_nil (wp_seq (c_cond_t rfl (wp_skip (wp_seq (wp_block (wp_seq (wp_plain _ [0,0] rfl (lw_tvn 2 rfl (wp_plain _ [0,0,0,0,0,2,0,0,0,0,4] rfl (lw_tv 4 rfl (q_idx (v := va) k u25 ti2 rfl rfl ha.isSl rfl sD zN ?_))))))))))))
  refine q_load (p := eptr va k 1) (.inr rfl) (.int .i64 (a.getD k 0)) one2 rfl (ldH_ext hE2 (ha.getI sD).1) zN (lw_tv 1 rfl (q_mul (wr ((a.getD k 0) * y)) rfl rfl rfl zN (q_rem (md (a.getD k 0 * y)) rfl rfl (by decide) (nm_eq hga hy) zN ?_)))
  refine q_idx (v := v1) k u25 ti2 rfl rfl hL2_0.isSl rfl sD zN (e_setI (v := v1) (w := w2) sz2 rfl rfl (md_rng _) hL2_0 sD zN fun w4 F4 hC4 hz4 hF4 hO4 => ?_)
  have hE4 : Ext w w4 := hC4.below hE2 (fun c hc => Nat.le_trans (Nat.le_refl _) (hF4 c hc).1) hE2.size
  have hzs4:=hC4.size
  refine lw_nil (wp_plain _ [0,0] rfl (q_add ((k + 1 :Nat):Int) rfl rfl (w64n oM sD) zN (lw_tvn 1 rfl ?_)))
  exact ⟨(k + 1),_,rfl,⟨rfl,rfl,rfl,rfl,rfl,trivial⟩,⟨hE4,(by unfold sclS; rw [mix_tab sM oM]; exact hO4.up o1),sD⟩,by first | omega | (dsimp only; omega)⟩
 ·
  exact q_lss false rfl rfl (decide_eq_false hc3) zN (lw_nil (wp_seq (c_cond_f rfl (wp_exit (t_exit (t_exit (c_exit_here (wp_seq (wp_plain _ [0,0] rfl (lw_tvn 2 rfl (wp_ret (post_ret [4] rfl v1 rfl ⟨v1,rfl,hE2,(by have h := hL2_0.up o1; rwa [mix_all sM (by simp; omega)] at h)⟩))))))))))))
theorem c_impl_added (w : World) (va : Value) (a : List Int) (vb : Value) (b : List Int) (ha : Rd (rdL rI) w.heap va a) (hb : Rd (rdL rI) w.heap vb b) (hla : a.length ≤ 1000000000000) (hl : a.length ≤ b.length) (hqa : allN a = true) (hqb : allN b = true) :
  Calls Tryz.prog 158 #[va,vb] w (fun e w' => ∃ v0 : Value,e = .returned (v0) ∧ Ext w w' ∧ Fr (owL rI 2) w.heap.size w'.heap.size w'.heap v0 (addS a b)) := by
 refine calls_mk [va,vb] 30 Tryz.func158 rfl rfl sM ?_
 have hE0 : Ext w w := Ext.refl w
 have hl_va := ha.lenle
 have hl_vb := hb.lenle
 refine wp_seq (wp_plain _ [0] rfl (lw_tvn 1 rfl (wp_seq (wp_plain _ [0,0,3,0] rfl (lw_tv 1 rfl (q_len (v := va) u25 rfl ha.isSl zN (r_make (n := a.length) u25 ti2 rfl rfl rfl sD zN fun v1 w1 hX1 hz1 hO1 => ?_)))))))
 have hzs1:=hX1.size
 have hE1:=hE0.trans hX1
 refine lw_tvn 1 rfl (wp_seq (wp_seq (wp_plain _ [0,0,0] rfl (lw_tv 1 rfl (q_len (v := va) u25 rfl ha.isSl zN (lw_tvn 1 rfl (wp_block ?_)))))))
 refine c_loop (S := Nat) (fun (k : Nat) => ([(12,(.int .i64 ((k :Nat):Int))),(0,va),(1,vb),(5,v1),(11,(.int .i64 ((a.length :Nat):Int)))] : List (Nat × Value))) (fun (k : Nat) (W : World) => Ext w W ∧ Fr (owL rI 2) w.heap.size W.heap.size W.heap v1 (mix k (addS a b) (List.replicate a.length 0)) ∧ k ≤ a.length) (fun (k : Nat) => a.length - k) 0 ⟨rfl,rfl,rfl,rfl,rfl,trivial⟩ ⟨hE1,(by rw [mix_zero]; exact hO1.up o1),sD⟩ ?_
 clear hE0 hO1 hz1 hX1 hzs1 hE1
 rintro k ρ2 w2 ⟨hE2,hL2_0,hp2_0⟩
 have hzs2 : w.heap.size ≤ w2.heap.size := hE2.size
 have hml := mix_len k (addS a b) (List.replicate a.length 0) sM
 rw [List.length_replicate] at hml
 have hga := allN_get hqa k
 have hgb := allN_get hqb k
 refine wp_seq (wp_plain _ [0] rfl ?_)
 by_cases hc3 : ((k :Nat):Int) < ((a.length :Nat):Int)
 ·
  refine q_lss true rfl rfl (decide_eq_true hc3) zN (lw_nil (wp_seq (c_cond_t rfl (wp_skip (wp_seq (wp_block (wp_seq (wp_plain _ [0,0] rfl (lw_tvn 2 rfl (wp_draw _ [0,0,0,0,0,1,0,0,0,1,0,0,0,4] mixed (by kernel_rfl) (lw_tv 4 rfl (q_idx (v := va) k u25 ti2 rfl rfl ha.isSl rfl sD zN ?_))))))))))))
  refine q_load (p := eptr va k 1) (.inl rfl) (.int .i64 (a.getD k 0)) one2 rfl (ldH_ext hE2.drew (ha.getI sD).1) zN (lw_tv 2 rfl ?_)
  refine q_idx (v := vb) k u25 ti2 rfl rfl hb.isSl rfl sD zN ?_
  refine q_load (p := eptr vb k 1) (.inl rfl) (.int .i64 (b.getD k 0)) one2 rfl (ldH_ext hE2.drew (hb.getI sD).1) zN (q_add (wr ((a.getD k 0) + (b.getD k 0))) rfl rfl rfl zN (q_rem (md (a.getD k 0 + b.getD k 0)) rfl rfl (by decide) (nadd_eq hga hgb) zN ?_))
  refine q_idx (v := v1) k u25 ti2 rfl rfl hL2_0.isSl rfl sD zN (e_setI (v := v1) (w := w2.drew) sz2 rfl rfl (md_rng _) hL2_0 sD zN fun w4 F4 hC4 hz4 hF4 hO4 => ?_)
  replace hC4 := hC4.of_drew
  have hE4 : Ext w w4 := hC4.below hE2 (fun c hc => Nat.le_trans (Nat.le_refl _) (hF4 c hc).1) hE2.size
  have hzs4:=hC4.size
  refine lw_nil (wp_plain _ [0,0] rfl (q_add ((k + 1 :Nat):Int) rfl rfl (w64n oM sD) zN (lw_tvn 1 rfl ?_)))
  exact ⟨(k + 1),_,rfl,⟨rfl,rfl,rfl,rfl,rfl,trivial⟩,⟨hE4,(by unfold addS; rw [mix_tab sM oM]; exact hO4.up o1),sD⟩,by first | omega | (dsimp only; omega)⟩
 ·
  exact q_lss false rfl rfl (decide_eq_false hc3) zN (lw_nil (wp_seq (c_cond_f rfl (wp_exit (t_exit (t_exit (c_exit_here (wp_seq (wp_plain _ [0,0] rfl (lw_tvn 2 rfl (wp_ret (post_ret [4] rfl v1 rfl ⟨v1,rfl,hE2,(by have h := hL2_0.up o1; rwa [mix_all sM (by simp; omega)] at h)⟩))))))))))))
theorem c_impl_reduced (w : World) (va : Value) (a : List Int) (vb : Value) (b : List Int) (ha : Rd (rdL rI) w.heap va a) (hb : Rd (rdL rI) w.heap vb b) (hla : a.length ≤ 1000000000000) (hlb : b.length ≤ 1000000000000) (hl : a.length ≤ b.length) (hqa : allN a = true) (hqb : allN b = true) :
  Calls Tryz.prog 159 #[va,vb] w (fun e w' => ∃ v0 : Value,e = .returned (v0) ∧ Ext w w' ∧ Fr (owL rI 2) w.heap.size w'.heap.size w'.heap v0 (redS a b)) := by
 refine calls_mk [va,vb] 9 Tryz.func159 rfl rfl sM ?_
 have hE0 : Ext w w := Ext.refl w
 have hl_va := ha.lenle
 have hl_vb := hb.lenle
 refine wp_seq (wp_plain _ [0] rfl (lw_tvn 1 rfl (wp_seq (wp_plain _ [0,0,3,3,0] rfl (lw_tv 2 rfl (lw_call 161 [] [] [vb,(.int .i64 ((1000002 :Nat):Int))] rfl rfl cf161 zN (c_impl_scaled _ _ _ _ (hb.ext g1 hE0) oM (by exact hlb) (by exact hqb) oM) ?_))))))
 rintro e1 w1 ⟨v1_0,rfl,hX1,hO1_0⟩
 refine ⟨_,rfl,hX1,?_⟩
 have hzs1:=hX1.size
 have hE1:=hE0.trans hX1
 refine lw_call 158 [] [] [va,v1_0] rfl rfl cf158 zN (c_impl_added _ _ _ _ _ (ha.ext g1 hE1) hO1_0.rd1 (by exact hla) (by simp; omega) (by exact hqa) (by exact sclS_num _ _)) ?_
 rintro e2 w2 ⟨v2_0,rfl,hX2,hO2_0⟩
 refine ⟨_,rfl,hX2,?_⟩
 have hzs2:=hX2.size
 have hE2:=hE1.trans hX2
 have hO1_0x2 := hO1_0.ext (o1) hX2
 exact lw_tvn 1 rfl (wp_ret (post_ret [4] rfl v2_0 rfl ⟨v2_0,rfl,hE2,(by rw [← red_eq hl]; exact (hO2_0.up o1).low hE1.size)⟩))
theorem c_impl_product (w : World) (va : Value) (a : List Int) (vb : Value) (b : List Int) (ha : Rd (rdL rI) w.heap va a) (hb : Rd (rdL rI) w.heap vb b) (hla : a.length ≤ 1000000000000) (hl : a.length ≤ b.length) (hqa : allN a = true) (hqb : allN b = true) :
  Calls Tryz.prog 160 #[va,vb] w (fun e w' => ∃ v0 : Value,e = .returned (v0) ∧ Ext w w' ∧ Fr (owL rI 2) w.heap.size w'.heap.size w'.heap v0 (proS a b)) := by
 refine calls_mk [va,vb] 43 Tryz.func160 rfl rfl sM ?_
 have hE0 : Ext w w := Ext.refl w
 have hl_va := ha.lenle
 have hl_vb := hb.lenle
 refine wp_seq (wp_plain _ [0] rfl (lw_tvn 1 rfl (wp_seq (wp_plain _ [0,0,3,0] rfl (lw_tv 1 rfl (q_len (v := va) u25 rfl ha.isSl zN (r_make (n := a.length) u25 ti2 rfl rfl rfl sD zN fun v1 w1 hX1 hz1 hO1 => ?_)))))))
 have hzs1:=hX1.size
 have hE1:=hE0.trans hX1
 refine lw_tvn 1 rfl (wp_seq (wp_seq (wp_plain _ [0,0,0] rfl (lw_tv 1 rfl (q_len (v := va) u25 rfl ha.isSl zN (lw_tvn 1 rfl (wp_block ?_)))))))
 refine c_loop (S := Nat) (fun (k : Nat) => ([(13,(.int .i64 ((k :Nat):Int))),(0,va),(1,vb),(5,v1),(12,(.int .i64 ((a.length :Nat):Int)))] : List (Nat × Value))) (fun (k : Nat) (W : World) => Ext w W ∧ Fr (owL rI 2) w.heap.size W.heap.size W.heap v1 (mix k (proS a b) (List.replicate a.length 0)) ∧ k ≤ a.length) (fun (k : Nat) => a.length - k) 0 ⟨rfl,rfl,rfl,rfl,rfl,trivial⟩ ⟨hE1,(by rw [mix_zero]; exact hO1.up o1),sD⟩ ?_
 clear hE0 hO1 hz1 hX1 hzs1 hE1
 rintro k ρ2 w2 ⟨hE2,hL2_0,hp2_0⟩
 have hzs2 : w.heap.size ≤ w2.heap.size := hE2.size
 have hml := mix_len k (proS a b) (List.replicate a.length 0) sM
 rw [List.length_replicate] at hml
 have hga := allN_get hqa k
 refine wp_seq (wp_plain _ [0] rfl ?_)
 by_cases hc3 : ((k :Nat):Int) < ((a.length :Nat):Int)
 ·
  refine q_lss true rfl rfl (decide_eq_true hc3) zN (lw_nil (wp_seq (c_cond_t rfl (wp_skip (wp_seq (wp_block (wp_seq (wp_plain _ [0,0] rfl (lw_tvn 2 rfl (wp_seq (wp_plain _ [0] rfl (lw_tvn 1 rfl (wp_block ?_)))))))))))))
  refine c_loop (S := Nat) (fun (i : Nat) => ([(7,(.int .i64 ((i :Nat):Int))),(0,va),(1,vb),(5,v1),(6,(.int .i64 ((k :Nat):Int))),(12,(.int .i64 ((a.length :Nat):Int))),(13,(.int .i64 ((k :Nat):Int)))] : List (Nat × Value))) (fun (i : Nat) (W : World) => Ext w W ∧ Fr (owL rI 2) w.heap.size W.heap.size W.heap v1 ((mix k (proS a b) (List.replicate a.length 0)).set k (prk a b k i)) ∧ i ≤ k + 1) (fun (i : Nat) => k + 1 - i) 0 ⟨rfl,rfl,rfl,rfl,rfl,rfl,rfl,trivial⟩ ⟨hE2,(by have h := hL2_0.up o1; rw [← mix_rep0 (T := proS a b) sM oM] at h; exact h),sD⟩ ?_
  clear hL2_0 hE2 hzs2
  rintro i ρ4 w4 ⟨hE4,hL4_0,hp4_0⟩
  have hzs4 : w.heap.size ≤ w4.heap.size := hE4.size
  have hms : ((mix k (proS a b) (List.replicate a.length 0)).set k (prk a b k i)).length = a.length := by rw [List.length_set]; exact hml
  refine wp_seq (wp_seq (wp_plain _ [0,0,0] rfl (lw_tv 2 rfl ?_)))
  by_cases hc5 : ((i :Nat):Int) ≤ ((k :Nat):Int)
  ·
   refine q_leq true rfl rfl (decide_eq_true hc5) zN (lw_nil (c_cond_t rfl (wp_skip (wp_seq (wp_block (wp_draw _ [0,0,0,0,0,1,0,0,0,1,0,0,0,0,0,1,0,0,0,0,4] mixed (by kernel_rfl) (lw_tv 4 rfl (q_idx (v := v1) k u25 ti2 rfl rfl hL4_0.isSl rfl sD zN ?_))))))))
   refine q_load (p := eptr v1 k 1) (.inl rfl) (.int .i64 (((mix k (proS a b) (List.replicate a.length 0)).set k (prk a b k i)).getD k 0)) one2 rfl (hL4_0.rd1.getI sD).1 zN (lw_tv 2 rfl ?_)
   refine q_idx (v := va) i u25 ti2 rfl rfl ha.isSl rfl sD zN ?_
   refine q_load (p := eptr va i 1) (.inl rfl) (.int .i64 (a.getD i 0)) one2 rfl (ldH_ext hE4.drew (ha.getI sD).1) zN (lw_tv 3 rfl (q_sub ((k - i :Nat):Int) rfl rfl (w64n oM oM) zN ?_))
   refine q_idx (v := vb) (k - i) u25 ti2 rfl rfl hb.isSl rfl sD zN ?_
   refine q_load (p := eptr vb (k - i) 1) (.inl rfl) (.int .i64 (b.getD (k - i) 0)) one2 rfl (ldH_ext hE4.drew (hb.getI sD).1) zN (q_mul (wr ((a.getD i 0) * (b.getD (k - i) 0))) rfl rfl rfl zN (q_add (wr ((((mix k (proS a b) (List.replicate a.length 0)).set k (prk a b k i)).getD k 0) + (wr ((a.getD i 0) * (b.getD (k - i) 0))))) rfl rfl rfl zN ?_))
   refine q_rem (md (prk a b k i + a.getD i 0 * b.getD (k - i) 0)) rfl rfl (by decide) (by rw [getD_set _ _ _ _ _ oM,if_pos rfl]; exact dot_eq (prk_num _ _ _ _) (allN_get hqa _) (allN_get hqb _)) zN (q_idx (v := v1) k u25 ti2 rfl rfl hL4_0.isSl rfl sD zN ?_)
   refine e_setI (v := v1) (w := w4.drew) sz2 rfl rfl (md_rng _) hL4_0 sD zN fun w6 F6 hC6 hz6 hF6 hO6 => ?_
   replace hC6 := hC6.of_drew
   have hE6 : Ext w w6 := hC6.below hE4 (fun c hc => Nat.le_trans (Nat.le_refl _) (hF6 c hc).1) hE4.size
   have hzs6:=hC6.size
   refine lw_nil (wp_plain _ [0,0,0] rfl (lw_tv 1 rfl (q_add ((i + 1 :Nat):Int) rfl rfl (w64n oM sD) zN (lw_tvn 1 rfl ?_))))
   exact ⟨(i + 1),_,rfl,⟨rfl,rfl,rfl,rfl,rfl,rfl,rfl,trivial⟩,⟨hE6,(by have h := hO6.up o1; rw [List.set_set] at h; exact h),sD⟩,by first | omega | (dsimp only; omega)⟩
  ·
   refine q_leq false rfl rfl (decide_eq_false hc5) zN (lw_nil (c_cond_f rfl (wp_exit (t_exit (t_exit (c_exit_here (wp_plain _ [0,0] rfl (q_add ((k + 1 :Nat):Int) rfl rfl (w64n oM sD) zN (lw_tvn 1 rfl ?_)))))))))
   exact ⟨(k + 1),_,rfl,⟨rfl,rfl,rfl,rfl,rfl,trivial⟩,⟨hE4,(by have h := hL4_0.up o1; rw [show i = k + 1 from by omega] at h; unfold proS; rw [mix_tab sM oM]; exact h),sD⟩,by first | omega | (dsimp only; omega)⟩
 ·
  exact q_lss false rfl rfl (decide_eq_false hc3) zN (lw_nil (wp_seq (c_cond_f rfl (wp_exit (t_exit (t_exit (c_exit_here (wp_seq (wp_plain _ [0,0] rfl (lw_tvn 2 rfl (wp_ret (post_ret [4] rfl v1 rfl ⟨v1,rfl,hE2,(by have h := hL2_0.up o1; rwa [mix_all sM (by simp; omega)] at h)⟩))))))))))))
theorem c_impl_quotient (w : World) (va : Value) (a : List Int) (vb : Value) (b : List Int) (ha : Rd (rdL rI) w.heap va a) (hb : Rd (rdL rI) w.heap vb b) (hla : a.length ≤ 1000000000000) (hl : a.length ≤ b.length) (h1 : 0 < b.length) (hqa : allN a = true) (hqb : allN b = true) :
  Calls Tryz.prog 162 #[va,vb] w (fun e w' => ∃ v0 : Value,e = .returned (v0) ∧ Ext w w' ∧ Fr (owL rI 2) w.heap.size w'.heap.size w'.heap v0 (quoS a b)) := by
 refine calls_mk [va,vb] 53 Tryz.func162 rfl rfl sM ?_
 have hE0 : Ext w w := Ext.refl w
 have hl_va := ha.lenle
 have hl_vb := hb.lenle
 refine wp_seq (wp_plain _ [0] rfl (lw_tvn 1 rfl (wp_seq (wp_draw _ [0,0,3,0,0,1,0,0,0] mixed (by kernel_rfl) (lw_tv 1 rfl (q_len (v := va) u25 rfl ha.isSl zN (r_make (n := a.length) u25 ti2 rfl rfl rfl sD zN fun v1 w1 hX1 hz1 hO1 => ?_)))))))
 replace hX1 := hX1.of_drew
 have hzs1:=hX1.size
 have hE1:=hE0.trans hX1
 refine lw_tv 1 rfl (q_idx (v := vb) 0 u25 ti2 rfl rfl hb.isSl rfl sD zN ?_)
 refine q_load (p := eptr vb 0 1) (.inl rfl) (.int .i64 (b.getD 0 0)) one2 rfl (ldH_ext hE0.drew (hb.getI sD).1) zN ?_
 refine lw_callq 133 [] [] [(.int .i64 (b.getD 0 0))] rfl rfl cf133 zN (.int .i64 (inv (b.getD 0 0))) (fun wq => c_impl_inverse wq _ (hb.getI sD).2) (lw_tvn 2 rfl (wp_seq (wp_seq (wp_plain _ [0,0,0] rfl (lw_tv 1 rfl (q_len (v := va) u25 rfl ha.isSl zN (lw_tvn 1 rfl (wp_block ?_))))))))
 refine c_loop (S := Nat) (fun (k : Nat) => ([(19,(.int .i64 ((k :Nat):Int))),(0,va),(1,vb),(5,v1),(6,(.int .i64 (inv (b.getD 0 0)))),(18,(.int .i64 ((a.length :Nat):Int)))] : List (Nat × Value))) (fun (k : Nat) (W : World) => Ext w W ∧ Fr (owL rI 2) w.heap.size W.heap.size W.heap v1 (mix k (quoS a b) (List.replicate a.length 0)) ∧ k ≤ a.length) (fun (k : Nat) => a.length - k) 0 ⟨rfl,rfl,rfl,rfl,rfl,rfl,trivial⟩ ⟨hE1,(by rw [mix_zero]; exact hO1.up o1),sD⟩ ?_
 clear hE0 hO1 hz1 hX1 hzs1 hE1
 rintro k ρ3 w3 ⟨hE3,hL3_0,hp3_0⟩
 have hzs3 : w.heap.size ≤ w3.heap.size := hE3.size
 have hml := mix_len k (quoS a b) (List.replicate a.length 0) sM
 rw [List.length_replicate] at hml
 have hga := allN_get hqa k
 refine wp_seq (wp_plain _ [0] rfl ?_)
 by_cases hc4 : ((k :Nat):Int) < ((a.length :Nat):Int)
 ·
  refine q_lss true rfl rfl (decide_eq_true hc4) zN (lw_nil (wp_seq (c_cond_t rfl (wp_skip (wp_seq (wp_block (wp_seq (wp_plain _ [0,0] rfl (lw_tvn 2 rfl (wp_seq (wp_plain _ [0,0,0,2,0] rfl (lw_tv 2 rfl (q_idx (v := va) k u25 ti2 rfl rfl ha.isSl rfl sD zN ?_)))))))))))))
  refine q_load (p := eptr va k 1) (.inr rfl) (.int .i64 (a.getD k 0)) one2 rfl (ldH_ext hE3 (ha.getI sD).1) zN (lw_tvn 1 rfl (wp_seq (wp_seq (wp_plain _ [0] rfl (lw_tvn 1 rfl (wp_block ?_))))))
  refine c_loop (S := Nat × Int) (fun (⟨i,t⟩ : Nat × Int) => ([(8,(.int .i64 t)),(9,(.int .i64 ((i :Nat):Int))),(0,va),(1,vb),(5,v1),(6,(.int .i64 (inv (b.getD 0 0)))),(7,(.int .i64 ((k :Nat):Int))),(18,(.int .i64 ((a.length :Nat):Int))),(19,(.int .i64 ((k :Nat):Int)))] : List (Nat × Value))) (fun (⟨i,t⟩ : Nat × Int) (W : World) => Ext w W ∧ Fr (owL rI 2) w.heap.size w3.heap.size W.heap v1 (mix k (quoS a b) (List.replicate a.length 0)) ∧ i ≤ k ∧ t = qrk a b (quoS a b) k i ∧ (0 ≤ t ∧ t < 1000003)) (fun (⟨i,t⟩ : Nat × Int) => k - i) (0,(a.getD k 0)) ⟨rfl,rfl,rfl,rfl,rfl,rfl,rfl,rfl,rfl,trivial⟩ ⟨hE3,hL3_0,sD,(by rfl),(by exact allN_get hqa k)⟩ ?_
  clear hL3_0
  rintro ⟨i,t⟩ ρ5 w5 ⟨hE5,hL5_0,hp5_0,ht,htr⟩
  have hzs5 : w.heap.size ≤ w5.heap.size := hE5.size
  refine wp_seq (wp_seq (wp_plain _ [0,0,0] rfl (lw_tv 2 rfl ?_)))
  by_cases hc6 : ((i :Nat):Int) < ((k :Nat):Int)
  ·
   refine q_lss true rfl rfl (decide_eq_true hc6) zN (lw_nil (c_cond_t rfl (wp_skip (wp_seq (wp_block (wp_draw _ [0,0,0,0,1,0,0,0,0,0,1,0,0,0] mixed (by kernel_rfl) (lw_tv 3 rfl (q_idx (v := v1) i u25 ti2 rfl rfl hL5_0.isSl rfl sD zN ?_))))))))
   refine q_load (p := eptr v1 i 1) (.inl rfl) (.int .i64 ((mix k (quoS a b) (List.replicate a.length 0)).getD i 0)) one2 rfl (hL5_0.rd1.getI sD).1 zN (lw_tv 3 rfl (q_sub ((k - i :Nat):Int) rfl rfl (w64n oM oM) zN ?_))
   refine q_idx (v := vb) (k - i) u25 ti2 rfl rfl hb.isSl rfl sD zN ?_
   refine q_load (p := eptr vb (k - i) 1) (.inl rfl) (.int .i64 (b.getD (k - i) 0)) one2 rfl (ldH_ext hE5.drew (hb.getI sD).1) zN (q_mul (wr (((mix k (quoS a b) (List.replicate a.length 0)).getD i 0) * (b.getD (k - i) 0))) rfl rfl rfl zN ?_)
   refine lw_callq 169 [] [] [(.int .i64 t),(.int .i64 (wr (((mix k (quoS a b) (List.replicate a.length 0)).getD i 0) * (b.getD (k - i) 0))))] rfl rfl cf169 zN (.int .i64 (md (t - (wr (((mix k (quoS a b) (List.replicate a.length 0)).getD i 0) * (b.getD (k - i) 0)))))) (fun wq => c_impl_minus wq _ _ oM (wr_rng _)) (lw_tvn 1 rfl (wp_plain _ [0,0,0] rfl (lw_tv 1 rfl (q_add ((i + 1 :Nat):Int) rfl rfl (w64n oM sD) zN (lw_tvn 1 rfl ?_)))))
   exact ⟨((i + 1),(md (t - (wr (((mix k (quoS a b) (List.replicate a.length 0)).getD i 0) * (b.getD (k - i) 0)))))),_,rfl,⟨rfl,rfl,rfl,rfl,rfl,rfl,rfl,rfl,rfl,trivial⟩,⟨hE5.drew,hL5_0,sD,(by rw [ht,mix_lt 0 oM (by simp; omega)]; exact quo_step (quoS_num a b) hqb),(by exact md_num _)⟩,by first | omega | (dsimp only; omega)⟩
  ·
   refine q_lss false rfl rfl (decide_eq_false hc6) zN (lw_nil (c_cond_f rfl (wp_exit (t_exit (t_exit (c_exit_here (wp_plain _ [0,0,0,0,0,0,0,4] rfl (lw_tv 4 rfl (q_mul (wr (t * (inv (b.getD 0 0)))) rfl rfl rfl zN (q_rem (md (t * inv (b.getD 0 0))) rfl rfl (by decide) (nm_eq htr (inv_num _)) zN (q_idx (v := v1) k u25 ti2 rfl rfl hL5_0.isSl rfl sD zN ?_)))))))))))
   refine e_setI (v := v1) (w := w5) sz2 rfl rfl (md_rng _) hL5_0 sD zN fun w8 F8 hC8 hz8 hF8 hO8 => ?_
   have hE8 : Ext w w8 := hC8.below hE5 (fun c hc => Nat.le_trans (Nat.le_refl _) (hF8 c hc).1) hE5.size
   have hzs8:=hC8.size
   refine lw_nil (wp_plain _ [0,0] rfl (q_add ((k + 1 :Nat):Int) rfl rfl (w64n oM sD) zN (lw_tvn 1 rfl ?_)))
   exact ⟨(k + 1),_,rfl,⟨rfl,rfl,rfl,rfl,rfl,rfl,trivial⟩,⟨hE8,(by have h := hO8.up o1; rw [ht,show i = k from by omega] at h; rw [← quo_set oM sM]; exact h),sD⟩,by first | omega | (dsimp only; omega)⟩
 ·
  exact q_lss false rfl rfl (decide_eq_false hc4) zN (lw_nil (wp_seq (c_cond_f rfl (wp_exit (t_exit (t_exit (c_exit_here (wp_seq (wp_plain _ [0,0] rfl (lw_tvn 2 rfl (wp_ret (post_ret [4] rfl v1 rfl ⟨v1,rfl,hE3,(by have h := hL3_0.up o1; rwa [mix_all sM (by simp; omega)] at h)⟩))))))))))))
theorem c_impl_firsts (w : World) (va : Value) (a : List (List Int)) (ha : Rd (rdL (rdL rI)) w.heap va a) (hla : a.length ≤ 1000000000000) (h1 : ∀ k,k < a.length → 0 < (a.getD k []).length) :
  Calls Tryz.prog 55 #[va] w (fun e w' => ∃ v0 : Value,e = .returned (v0) ∧ Ext w w' ∧ Fr (owL rI 2) w.heap.size w'.heap.size w'.heap v0 (a.map (fun s => s.getD 0 0))) := by
 refine calls_mk [va] 21 Tryz.func55 rfl rfl sM ?_
 have hE0 : Ext w w := Ext.refl w
 have hl_va := ha.lenle
 refine wp_seq (wp_plain _ [0] rfl (lw_tvn 1 rfl (wp_seq (wp_plain _ [3,0] rfl (r_nil (rI) good_rI u25 ti2 zN fun v1 w1 hX1 hz1 hO1 => ?_)))))
 have hzs1:=hX1.size
 have hE1:=hE0.trans hX1
 refine lw_tvn 1 rfl (wp_seq (wp_seq (wp_plain _ [0,0,0] rfl (lw_tv 1 rfl (q_len (v := va) u27 rfl ha.isSl zN (lw_tvn 1 rfl (wp_block ?_)))))))
 refine c_loop (S := Nat × Value) (fun (⟨k,vo⟩ : Nat × Value) => ([(3,vo),(9,(.int .i64 ((k :Nat):Int))),(7,va),(8,(.int .i64 ((a.length :Nat):Int)))] : List (Nat × Value))) (fun (⟨k,vo⟩ : Nat × Value) (W : World) => Ext w W ∧ Fr (owL rI 2) w.heap.size W.heap.size W.heap vo ((a.take k).map (fun s => s.getD 0 0)) ∧ k ≤ a.length) (fun (⟨k,vo⟩ : Nat × Value) => a.length - k) (0,v1) ⟨rfl,rfl,rfl,rfl,trivial⟩ ⟨hE1,hO1.up o1,sD⟩ ?_
 clear hE0 hO1 hz1 hX1 hzs1 hE1
 rintro ⟨k,vo⟩ ρ2 w2 ⟨hE2,hL2_0,hp2_0⟩
 have hzs2 : w.heap.size ≤ w2.heap.size := hE2.size
 refine wp_seq (wp_plain _ [0] rfl ?_)
 by_cases hc3 : ((k :Nat):Int) < ((a.length :Nat):Int)
 ·
  refine q_lss true rfl rfl (decide_eq_true hc3) zN (lw_nil (wp_seq (c_cond_t rfl (wp_skip (wp_seq (wp_block (wp_seq (wp_plain _ [0,2,0] rfl (q_idx (v := va) k u27 ti25 rfl rfl ha.isSl rfl sD zN ?_)))))))))
  obtain ⟨ue4,hl4,hd4⟩ := ha.get (k := k) [] sD
  have hln4 := hd4.lenle
  refine q_load (p := eptr va k 1) (.inr rfl) ue4 one25 rfl (ldH_ext hE2 hl4) zN (lw_tvn 1 rfl (wp_plain _ [0,0,0,2,3,4,0] rfl ?_))
  have hr1 := h1 k oM
  refine lw_tv 2 rfl (q_idx (v := ue4) 0 u25 ti2 rfl rfl hd4.isSl rfl sD zN ?_)
  refine q_load (p := eptr ue4 0 1) (.inr rfl) (.int .i64 ((a.getD k []).getD 0 0)) one2 rfl (ldH_ext hE2 (hd4.getI sD).1) zN ?_
  refine r_one (u := (.int .i64 ((a.getD k []).getD 0 0))) (B := w2.heap.size) good_rI u25 ti2 rfl rfl (frI w2.heap.size w2.heap.size _ _ (hd4.getI sD).2) (Nat.le_refl _) zN fun v5 w5 hX5 hz5 hO5 => ?_
  have hzs5:=hX5.size
  have hE5:=hE2.trans hX5
  have hL2_0x5 := hL2_0.ext (o1) hX5
  refine e_appI (v := vo) (a := v5) u25 ti2 rfl rfl rfl hL2_0x5 hE5.size hO5.rd1 sD (by unfold maxLen; first | omega | assumption | (simp; done) | (simp; omega)) zN fun v6 w6 F6 hC6 hF6 hO6 => ?_
  have hE6 : Ext w w6 := hC6.below hE5 (fun c hc => Nat.le_trans (Nat.le_refl _) (hF6 c hc).1) hE5.size
  have hzs6:=hC6.size
  have hF7 := hO5.chg (o1) hC6 (fun c hc => by have := hF6 c hc; omega)
  refine lw_tvn 1 rfl (wp_plain _ [0,0] rfl (q_add ((k + 1 :Nat):Int) rfl rfl (w64n oM sD) zN (lw_tvn 1 rfl ?_)))
  exact ⟨((k + 1),v6),_,rfl,⟨rfl,rfl,rfl,rfl,trivial⟩,⟨hE6,(by rw [map_snoc [] oM]; exact hO6.up o1),sD⟩,by first | omega | (dsimp only; omega)⟩
 ·
  exact q_lss false rfl rfl (decide_eq_false hc3) zN (lw_nil (wp_seq (c_cond_f rfl (wp_exit (t_exit (t_exit (c_exit_here (wp_seq (wp_plain _ [0,0] rfl (lw_tvn 2 rfl (wp_ret (post_ret [2] rfl vo rfl ⟨vo,rfl,hE2,(by have h := hL2_0.up o1; rwa [List.take_of_length_le oM] at h)⟩))))))))))))
end Go.Proofs.YtnofbmdpabcjaaaGreat
namespace Go.Proofs.YtnofbmdpabcjaaaGreat
open Go Go.RowKit
set_option linter.unusedVariables false
set_option linter.unusedSimpArgs false
set_option maxHeartbeats 4000000
set_option maxRecDepth 100000
attribute [local irreducible] LW
theorem z32_0 {p : Prop} (h : p := by first | (rw [decide_eq_true (show ((3000 : Nat) : Int) < ((cs.length : Nat) : Int) by assumption)]; rfl) | (rw [decide_eq_false (show ¬ ((3000 : Nat) : Int) < ((cs.length : Nat) : Int) by assumption), Bool.false_or])) : p := h
theorem c_laws_a2Long (w : World) (vc : Value) (cs : List UInt8) (vd : Value) (ds : List UInt8) (hcs : Rd (rdL rU) w.heap vc cs) (hds : Rd (rdL rU) w.heap vd ds)  :
  Calls Tryz.prog 32 #[vc,vd] w (fun e w' => e = .returned (.bool (decide (((3000 :Nat):Int) < ((cs.length :Nat):Int)) || decide (((3000 :Nat):Int) < ((ds.length :Nat):Int)))) ∧ Ext w w') := by
 refine calls_mk [vc,vd] 13 Tryz.func32 rfl rfl sM ?_
 have hE0 : Ext w w := Ext.refl w
 have hl_vc := hcs.lenle
 have hl_vd := hds.lenle
 refine wp_seq (wp_plain _ [0] rfl (lw_tvn 1 rfl (wp_seq (wp_plain _ [0,0,0,0,0,0,0,0,0] rfl (lw_tv 1 rfl (q_len (v := vc) u50 rfl hcs.isSl zN ?_))))))
 by_cases hc1 : ((3000 :Nat):Int) < ((cs.length :Nat):Int)
 ·
  exact q_gtr true rfl rfl (decide_eq_true hc1) zN (lw_tvn 6 rfl (wp_ret (post_ret [4] rfl (.bool true) rfl ⟨(ret_bool z32_0),hE0⟩)))
 ·
  exact q_gtr false rfl rfl (decide_eq_false hc1) zN (lw_tv 2 rfl (q_len (v := vd) u50 rfl hds.isSl (zS (e := 8) rfl rfl rfl) (q_gtr (decide (((3000 :Nat):Int) < ((ds.length :Nat):Int))) rfl rfl rfl (zS (e := 8) rfl rfl rfl) (lw_tvn 2 rfl (wp_ret (post_ret [4] rfl (.bool (decide (((3000 :Nat):Int) < ((ds.length :Nat):Int)))) rfl ⟨(ret_bool z32_0),hE0⟩))))))
def a2at (cs : List UInt8) (k n : Int) : Int := if ((cs.length : Nat) : Int) ≤ k ∨ n < 1 then 0 else (((cs.getD k.toNat 0).toNat : Nat) : Int) % n
theorem a2at_num (cs : List UInt8) (k n : Int) : 0 ≤ a2at cs k n ∧ (1 ≤ n → a2at cs k n < n) := by
  unfold a2at
  split
  · omega
  · rename_i h
    exact ⟨Int.emod_nonneg _ (by omega), fun _ => Int.emod_lt_of_pos _ (by omega)⟩
theorem z34_0 {p : Prop} (h : p := by unfold a2at; split <;> first | rfl | (exfalso; omega)) : p := h
theorem c_laws_a2At (w : World) (vc : Value) (cs : List UInt8) (k : Int) (n : Int) (hcs : Rd (rdL rU) w.heap vc cs) (_hk : -9223372036854775808 ≤ k ∧ k ≤ 9223372036854775807) (_hn : -9223372036854775808 ≤ n ∧ n ≤ 9223372036854775807) (hk : 0 ≤ k) :
  Calls Tryz.prog 34 #[vc,.int .i64 k,.int .i64 n] w (fun e w' => e = .returned (.int .i64 (a2at cs k n)) ∧ Ext w w') := by
 refine calls_mk [vc,.int .i64 k,.int .i64 n] 22 Tryz.func34 rfl rfl sM ?_
 have hE0 : Ext w w := Ext.refl w
 have hl_vc := hcs.lenle
 refine wp_seq (wp_plain _ [0] rfl (lw_tvn 1 rfl (wp_seq (wp_seq (wp_plain _ [0,0,0,0,0,0,0,0] rfl (lw_tv 2 rfl (q_len (v := vc) u50 rfl hcs.isSl zN ?_)))))))
 by_cases hc1 : ((cs.length :Nat):Int) ≤ k
 ·
  exact q_geq true rfl rfl (decide_eq_true hc1) zN (lw_tvn 4 rfl (c_cond_t rfl (wp_seq (wp_plain _ [0] rfl (lw_tvn 1 rfl (wp_ret (t_ret (post_ret [6] rfl (.int .i64 ((0 :Nat):Int)) rfl ⟨(ret_int z34_0),hE0⟩))))))))
 ·
  refine q_geq false rfl rfl (decide_eq_false hc1) zN (lw_tv 2 rfl ?_)
  by_cases hc2 : n < ((1 :Nat):Int)
  ·
   exact q_lss true rfl rfl (decide_eq_true hc2) (zS (e := 11) rfl rfl rfl) (lw_tvn 1 rfl (c_cond_t rfl (wp_seq (wp_plain _ [0] rfl (lw_tvn 1 rfl (wp_ret (t_ret (post_ret [6] rfl (.int .i64 ((0 :Nat):Int)) rfl ⟨(ret_int z34_0),hE0⟩))))))))
  ·
   refine q_lss false rfl rfl (decide_eq_false hc2) (zS (e := 11) rfl rfl rfl) (lw_tvn 1 rfl (c_cond_f rfl (wp_skip (wp_seq (wp_plain _ [0,0,0,2,0,0,0,0] rfl (lw_tv 2 rfl (q_idx (v := vc) ((k).toNat) u50 ti5 rfl rfl hcs.isSl oM sD zN ?_)))))))
   refine q_load (p := eptr vc ((k).toNat) 1) (.inr rfl) (.int .u8 ((cs.getD ((k).toNat) 0).toNat : Int)) one5 rfl (ldH_ext hE0 (hcs.getU sD).1) zN (q_conv ((cs.getD ((k).toNat) 0).toNat : Int) u5 u2 rfl (w8 _) zN (lw_tv 1 rfl (q_rem ((((cs.getD ((k).toNat) 0).toNat : Int)) % n) rfl rfl oM (Int.tmod_eq_emod_of_nonneg oM) zN (lw_tvn 1 rfl (wp_ret ?_)))))
   exact post_ret [6] rfl (.int .i64 ((((cs.getD ((k).toNat) 0).toNat : Int)) % n)) rfl ⟨(ret_int z34_0),hE0⟩
theorem c_laws_a2Wide (w : World) (va : Value) (a : List (List Int)) (n : Int) (m : Int) (ha : Rd (rdL (rdL rI)) w.heap va a) (_hn : -9223372036854775808 ≤ n ∧ n ≤ 9223372036854775807) (_hm : -9223372036854775808 ≤ m ∧ m ≤ 9223372036854775807)  :
  Calls Tryz.prog 35 #[va,.int .i64 n,.int .i64 m] w (fun e w' => e = .returned (.bool (decide (((a.length :Nat):Int) = n) && a.all (fun r => decide (((r.length :Nat):Int) = m)))) ∧ Ext w w') := by
 refine calls_mk [va,.int .i64 n,.int .i64 m] 25 Tryz.func35 rfl rfl sM ?_
 have hE0 : Ext w w := Ext.refl w
 have hl_va := ha.lenle
 refine wp_seq (wp_plain _ [0] rfl (lw_tvn 1 rfl (wp_seq (wp_seq (wp_plain _ [0,0,0,0] rfl (lw_tv 1 rfl (q_len (v := va) u27 rfl ha.isSl zN (lw_tv 1 rfl ?_))))))))
 by_cases hc1 : ((a.length :Nat):Int) ≠ n
 ·
  exact q_neq true rfl rfl (decide_eq_true hc1) zN (lw_nil (c_cond_t rfl (wp_seq (wp_plain _ [0] rfl (lw_tvn 1 rfl (wp_ret (t_ret (post_ret [6] rfl (.bool false) rfl ⟨(ret_bool (by rw [decide_eq_false oM]; rfl)),hE0⟩))))))))
 ·
  refine q_neq false rfl rfl (decide_eq_false hc1) zN (lw_nil (c_cond_f rfl (wp_skip (wp_seq (wp_seq (wp_plain _ [0] rfl (lw_tvn 1 rfl (wp_block ?_))))))))
  refine c_loop (S := Nat) (fun (k : Nat) => ([(7,(.int .i64 ((k :Nat):Int))),(0,va),(2,(.int .i64 m))] : List (Nat × Value))) (fun (k : Nat) (W : World) => Ext w W ∧ k ≤ a.length ∧ ((a.take k).all (fun r => decide (((r.length :Nat):Int) = m)) = true)) (fun (k : Nat) => a.length - k) 0 ⟨rfl,rfl,rfl,trivial⟩ ⟨hE0,sD,(by exact rfl)⟩ ?_
  clear hE0
  rintro k ρ2 w2 ⟨hE2,hp2_0,hq⟩
  have hzs2 : w.heap.size ≤ w2.heap.size := hE2.size
  refine wp_seq (wp_seq (wp_plain _ [0,0,0,0] rfl (lw_tv 2 rfl (q_len (v := va) u27 rfl ha.isSl zN ?_))))
  by_cases hc3 : ((k :Nat):Int) < ((a.length :Nat):Int)
  ·
   refine q_lss true rfl rfl (decide_eq_true hc3) zN (lw_nil (c_cond_t rfl (wp_skip (wp_seq (wp_block (wp_seq (wp_plain _ [0,0,0,2,0,0,0] rfl (lw_tv 2 rfl (q_idx (v := va) k u27 ti25 rfl rfl ha.isSl rfl sD zN ?_)))))))))
   obtain ⟨ue4,hl4,hd4⟩ := ha.get (k := k) [] sD
   have hln4 := hd4.lenle
   refine q_load (p := eptr va k 1) (.inr rfl) ue4 one25 rfl (ldH_ext hE2 hl4) zN (q_len (v := ue4) u25 rfl hd4.isSl zN (lw_tv 1 rfl ?_))
   by_cases hc5 : (((a.getD k []).length :Nat):Int) ≠ m
   ·
    exact q_neq true rfl rfl (decide_eq_true hc5) zN (lw_nil (c_cond_t rfl (wp_seq (wp_plain _ [0] rfl (lw_tvn 1 rfl (wp_ret (b_ret (t_ret (t_ret (b_ret (t_ret (post_ret [6] rfl (.bool false) rfl ⟨(ret_bool (by rw [all_fail (f := fun r => decide (((r.length :Nat):Int) = m)) (k := k) [] oM (decide_eq_false oM),Bool.and_false])),hE2⟩))))))))))))
   ·
    refine q_neq false rfl rfl (decide_eq_false hc5) zN (lw_nil (c_cond_f rfl (wp_skip (wp_plain _ [0,0,0] rfl (lw_tv 1 rfl (q_add ((k + 1 :Nat):Int) rfl rfl (w64n oM sD) zN (lw_tvn 1 rfl ?_)))))))
    exact ⟨(k + 1),_,rfl,⟨rfl,rfl,rfl,trivial⟩,⟨hE2,sD,(by exact all_succ (f := fun r => decide (((r.length :Nat):Int) = m)) [] hq oM (decide_eq_true oM))⟩,by first | omega | (dsimp only; omega)⟩
  ·
   exact q_lss false rfl rfl (decide_eq_false hc3) zN (lw_nil (c_cond_f rfl (wp_exit (t_exit (t_exit (c_exit_here (wp_seq (wp_plain _ [0] rfl (lw_tvn 1 rfl (wp_ret (post_ret [6] rfl (.bool true) rfl ⟨(ret_bool (by rw [all_done hq oM,decide_eq_true oM]; rfl)),hE2⟩)))))))))))
theorem c_laws_a2Same (w : World) (va : Value) (a : List Int) (vb : Value) (b : List Int) (ha : Rd (rdL rI) w.heap va a) (hb : Rd (rdL rI) w.heap vb b)  :
  Calls Tryz.prog 36 #[va,vb] w (fun e w' => e = .returned (.bool (decide (a = b))) ∧ Ext w w') := by
 refine calls_mk [va,vb] 26 Tryz.func36 rfl rfl sM ?_
 have hE0 : Ext w w := Ext.refl w
 have hl_va := ha.lenle
 have hl_vb := hb.lenle
 refine wp_seq (wp_plain _ [0] rfl (lw_tvn 1 rfl (wp_seq (wp_seq (wp_plain _ [0,0,0,0,0] rfl (lw_tv 1 rfl (q_len (v := va) u25 rfl ha.isSl zN (lw_tv 1 rfl (q_len (v := vb) u25 rfl hb.isSl zN ?_)))))))))
 by_cases hc1 : ((a.length :Nat):Int) ≠ ((b.length :Nat):Int)
 ·
  exact q_neq true rfl rfl (decide_eq_true hc1) zN (lw_nil (c_cond_t rfl (wp_seq (wp_plain _ [0] rfl (lw_tvn 1 rfl (wp_ret (t_ret (post_ret [4] rfl (.bool false) rfl ⟨(ret_bool (decide_eq_false (leq_len oM)).symm),hE0⟩))))))))
 ·
  refine q_neq false rfl rfl (decide_eq_false hc1) zN (lw_nil (c_cond_f rfl (wp_skip (wp_seq (wp_seq (wp_plain _ [0] rfl (lw_tvn 1 rfl (wp_block (c_loop (S := Nat) (fun (k : Nat) => ([(5,(.int .i64 ((k :Nat):Int))),(0,va),(1,vb)] : List (Nat × Value))) (fun (k : Nat) (W : World) => Ext w W ∧ k ≤ a.length ∧ (∀ j,j < k → a.getD j 0 = b.getD j 0)) (fun (k : Nat) => a.length - k) 0 ⟨rfl,rfl,rfl,trivial⟩ ⟨hE0,sD,(by intro j hj; omega)⟩ ?_)))))))))
  clear hE0
  rintro k ρ2 w2 ⟨hE2,hp2_0,hq⟩
  have hzs2 : w.heap.size ≤ w2.heap.size := hE2.size
  refine wp_seq (wp_seq (wp_plain _ [0,0,0,0] rfl (lw_tv 2 rfl (q_len (v := va) u25 rfl ha.isSl zN ?_))))
  by_cases hc3 : ((k :Nat):Int) < ((a.length :Nat):Int)
  ·
   refine q_lss true rfl rfl (decide_eq_true hc3) zN (lw_nil (c_cond_t rfl (wp_skip (wp_seq (wp_block (wp_seq (wp_draw _ [0,0,0,1,0,0,0,1,0] mixed (by kernel_rfl) (lw_tv 2 rfl (q_idx (v := va) k u25 ti2 rfl rfl ha.isSl rfl sD zN ?_)))))))))
   refine q_load (p := eptr va k 1) (.inl rfl) (.int .i64 (a.getD k 0)) one2 rfl (ldH_ext hE2.drew (ha.getI sD).1) zN (lw_tv 2 rfl ?_)
   refine q_idx (v := vb) k u25 ti2 rfl rfl hb.isSl rfl sD zN ?_
   refine q_load (p := eptr vb k 1) (.inl rfl) (.int .i64 (b.getD k 0)) one2 rfl (ldH_ext hE2.drew (hb.getI sD).1) zN ?_
   by_cases hc4 : a.getD k 0 ≠ b.getD k 0
   ·
    exact q_neq true rfl rfl (decide_eq_true hc4) zN (lw_nil (c_cond_t rfl (wp_seq (wp_plain _ [0] rfl (lw_tvn 1 rfl (wp_ret (b_ret (t_ret (t_ret (b_ret (t_ret (post_ret [4] rfl (.bool false) rfl ⟨(ret_bool (decide_eq_false (leq_fail (d := 0) (k := k) oM)).symm),hE2.drew⟩))))))))))))
   ·
    refine q_neq false rfl rfl (decide_eq_false hc4) zN (lw_nil (c_cond_f rfl (wp_skip (wp_plain _ [0,0,0] rfl (lw_tv 1 rfl (q_add ((k + 1 :Nat):Int) rfl rfl (w64n oM sD) zN (lw_tvn 1 rfl ?_)))))))
    exact ⟨(k + 1),_,rfl,⟨rfl,rfl,rfl,trivial⟩,⟨hE2.drew,sD,(by exact leq_step hq oM)⟩,by first | omega | (dsimp only; omega)⟩
  ·
   exact q_lss false rfl rfl (decide_eq_false hc3) zN (lw_nil (c_cond_f rfl (wp_exit (t_exit (t_exit (c_exit_here (wp_seq (wp_plain _ [0] rfl (lw_tvn 1 rfl (wp_ret (post_ret [4] rfl (.bool true) rfl ⟨(ret_bool (decide_eq_true (leq_done hq oM oM)).symm),hE2⟩)))))))))))
theorem c_laws_a2Column (w : World) (va : Value) (a : List (List Int)) (k : Nat) (ha : Rd (rdL (rdL rI)) w.heap va a) (_hk : k ≤ 1000000000000) (hla : a.length ≤ 1000000000000) (h1 : ∀ r,r < a.length → k < (a.getD r []).length) :
  Calls Tryz.prog 37 #[va,.int .i64 ((k :Nat):Int)] w (fun e w' => ∃ v0 : Value,e = .returned (v0) ∧ Ext w w' ∧ Fr (owL rI 2) w.heap.size w'.heap.size w'.heap v0 (a.map (fun r => r.getD k 0))) := by
 refine calls_mk [va,.int .i64 ((k :Nat):Int)] 32 Tryz.func37 rfl rfl sM ?_
 have hE0 : Ext w w := Ext.refl w
 have hl_va := ha.lenle
 refine wp_seq (wp_plain _ [0] rfl (lw_tvn 1 rfl (wp_seq (wp_plain _ [3,0] rfl (r_nil (rI) good_rI u25 ti2 zN fun v1 w1 hX1 hz1 hO1 => ?_)))))
 have hzs1:=hX1.size
 have hE1:=hE0.trans hX1
 refine lw_tvn 1 rfl (wp_seq (wp_seq (wp_plain _ [0] rfl (lw_tvn 1 rfl (wp_block ?_)))))
 refine c_loop (S := Nat × Value) (fun (⟨j,vo⟩ : Nat × Value) => ([(5,vo),(6,(.int .i64 ((j :Nat):Int))),(0,va),(1,(.int .i64 ((k :Nat):Int)))] : List (Nat × Value))) (fun (⟨j,vo⟩ : Nat × Value) (W : World) => Ext w W ∧ Fr (owL rI 2) w.heap.size W.heap.size W.heap vo ((a.take j).map (fun r => r.getD k 0)) ∧ j ≤ a.length) (fun (⟨j,vo⟩ : Nat × Value) => a.length - j) (0,v1) ⟨rfl,rfl,rfl,rfl,trivial⟩ ⟨hE1,hO1.up o1,sD⟩ ?_
 clear hE0 hO1 hz1 hX1 hzs1 hE1
 rintro ⟨j,vo⟩ ρ2 w2 ⟨hE2,hL2_0,hp2_0⟩
 have hzs2 : w.heap.size ≤ w2.heap.size := hE2.size
 refine wp_seq (wp_seq (wp_plain _ [0,0,0,0] rfl (lw_tv 2 rfl (q_len (v := va) u27 rfl ha.isSl zN ?_))))
 by_cases hc3 : ((j :Nat):Int) < ((a.length :Nat):Int)
 ·
  refine q_lss true rfl rfl (decide_eq_true hc3) zN (lw_nil (c_cond_t rfl (wp_skip (wp_seq (wp_block (wp_seq (wp_plain _ [0,0,0,0,2,0,0] rfl ?_)))))))
  have hr1 := h1 j oM
  refine lw_tv 3 rfl (q_idx (v := va) j u27 ti25 rfl rfl ha.isSl rfl sD zN ?_)
  obtain ⟨ue4,hl4,hd4⟩ := ha.get (k := j) [] sD
  have hln4 := hd4.lenle
  refine q_load (p := eptr va j 1) (.inr rfl) ue4 one25 rfl (ldH_ext hE2 hl4) zN (q_len (v := ue4) u25 rfl hd4.isSl zN ?_)
  by_cases hc5 : ((k :Nat):Int) < (((a.getD j []).length :Nat):Int)
  ·
   refine q_lss true rfl rfl (decide_eq_true hc5) zN (lw_nil (c_cond_t rfl (wp_plain _ [0,0,0,0,2,0,0,2,3,4,0] rfl (lw_tv 3 rfl (q_idx (v := va) j u27 ti25 rfl rfl ha.isSl rfl sD zN ?_)))))
   obtain ⟨ue6,hl6,hd6⟩ := ha.get (k := j) [] sD
   have hln6 := hd6.lenle
   refine q_load (p := eptr va j 1) (.inr rfl) ue6 one25 rfl (ldH_ext hE2 hl6) zN (lw_tv 1 rfl (q_idx (v := ue6) k u25 ti2 rfl rfl hd6.isSl rfl sD zN ?_))
   refine q_load (p := eptr ue6 k 1) (.inr rfl) (.int .i64 ((a.getD j []).getD k 0)) one2 rfl (ldH_ext hE2 (hd6.getI sD).1) zN ?_
   refine r_one (u := (.int .i64 ((a.getD j []).getD k 0))) (B := w2.heap.size) good_rI u25 ti2 rfl rfl (frI w2.heap.size w2.heap.size _ _ (hd6.getI sD).2) (Nat.le_refl _) zN fun v7 w7 hX7 hz7 hO7 => ?_
   have hzs7:=hX7.size
   have hE7:=hE2.trans hX7
   have hL2_0x7 := hL2_0.ext (o1) hX7
   refine e_appI (v := vo) (a := v7) u25 ti2 rfl rfl rfl hL2_0x7 hE7.size hO7.rd1 sD (by unfold maxLen; first | omega | assumption | (simp; done) | (simp; omega)) zN fun v8 w8 F8 hC8 hF8 hO8 => ?_
   have hE8 : Ext w w8 := hC8.below hE7 (fun c hc => Nat.le_trans (Nat.le_refl _) (hF8 c hc).1) hE7.size
   have hzs8:=hC8.size
   have hF9 := hO7.chg (o1) hC8 (fun c hc => by have := hF8 c hc; omega)
   refine lw_tvn 1 rfl (wp_plain _ [0,0,0] rfl (lw_tv 1 rfl (q_add ((j + 1 :Nat):Int) rfl rfl (w64n oM sD) zN (lw_tvn 1 rfl ?_))))
   exact ⟨((j + 1),v8),_,rfl,⟨rfl,rfl,rfl,rfl,trivial⟩,⟨hE8,(by rw [map_snoc [] oM]; exact hO8.up o1),sD⟩,by first | omega | (dsimp only; omega)⟩
  ·
   exact absurd oM hc5
 ·
  exact q_lss false rfl rfl (decide_eq_false hc3) zN (lw_nil (c_cond_f rfl (wp_exit (t_exit (t_exit (c_exit_here (wp_seq (wp_plain _ [0,0] rfl (lw_tvn 2 rfl (wp_ret (post_ret [4] rfl vo rfl ⟨vo,rfl,hE2,(by have h := hL2_0.up o1; rwa [List.take_of_length_le oM] at h)⟩)))))))))))
end Go.Proofs.YtnofbmdpabcjaaaGreat
namespace Go.Proofs.YtnofbmdpabcjaaaGreat
open Go Go.RowKit
set_option linter.unusedVariables false
set_option linter.unusedSimpArgs false
set_option maxHeartbeats 4000000
set_option maxRecDepth 100000
attribute [local irreducible] LW
/-- What the program does when it evaluates an expression. -/
def PV (F d : Nat) : Prop := ∀ (w : World) (S : List Nat) (g : Nat) (vp : Value) (dp o s0 : Nat) (c0 : Int) (p : List Fn) (ve : Value) (ex : Ex) (vv : Value) (env : List (List Int)) (hS : ∀ b ∈ S, b < w.heap.size) (hgS : g ∈ S) (hB0 : BX w.heap g [vp, .int .i64 ((o : Nat) : Int), .int .i64 ((s0 : Nat) : Int), .int .i64 c0]) (hp : RP S dp w.heap vp p) (ho : o ≤ 12) (hs0 : s0 ≤ 3000) (hc0 : 0 ≤ c0 ∧ c0 ≤ 9) (hex : RX S d w.heap ve ex) (henv : RN S (rdL (rdL rI)) w.heap vv env) (hqenv : CapS vv)
  (hvp : VPr p) (hF : F ≤ p.length) (hwf : wf p ((F : Nat) : Int) ex ((env.length : Nat) : Int) = true) (hse : SrE (o + 1) env) (hdp : env.length + ex.deep ≤ 1000000),
  Calls Tryz.prog 135 #[.pointer (some ⟨g, 0, none⟩), .agg #[.int .i64 ex.kind, .int .i64 ex.num, .int .i64 ex.pick, .int .i64 ex.count, ve], vv] w (fun e w' => ∃ (v : Value) (x : List Int) (s1 : Nat) (c1 : Int), e = .returned v ∧ Chg [g] w w' ∧ BX w'.heap g [vp, .int .i64 ((o : Nat) : Int), .int .i64 ((s1 : Nat) : Int), .int .i64 c1] ∧ RN S (rdL rI) w'.heap v x ∧ Ser1 (o + 1) x ∧ s1 ≤ 3000 ∧ (0 ≤ c1 ∧ c1 ≤ 9) ∧ RelV (go c0 (evE (o + 1) (evC p (o + 1) F) ex env s0)) x s1 c1)
def PA (F d : Nat) : Prop := ∀ (w : World) (S : List Nat) (g : Nat) (vp : Value) (dp o s0 : Nat) (c0 : Int) (p : List Fn) (vl : Value) (l : List Ex) (vv : Value) (env : List (List Int)) (hS : ∀ b ∈ S, b < w.heap.size) (hgS : g ∈ S) (hB0 : BX w.heap g [vp, .int .i64 ((o : Nat) : Int), .int .i64 ((s0 : Nat) : Int), .int .i64 c0]) (hp : RP S dp w.heap vp p) (ho : o ≤ 12) (hs0 : s0 ≤ 3000) (hc0 : 0 ≤ c0 ∧ c0 ≤ 9) (hl : RN S (rdS 5 (rEx d)) w.heap vl l) (henv : RN S (rdL (rdL rI)) w.heap vv env) (hqenv : CapS vv)
  (hvp : VPr p) (hF : F ≤ p.length) (hwf : ∀ k, k < l.length → wf p ((F : Nat) : Int) (l.getD k Ex.zero) ((env.length : Nat) : Int) = true) (hse : SrE (o + 1) env) (hdp : ∀ k, k < l.length → env.length + (l.getD k Ex.zero).deep ≤ 1000000) (hll : l.length ≤ 1000000),
  Calls Tryz.prog 104 #[.pointer (some ⟨g, 0, none⟩), vl, vv] w (fun e w' => ∃ (v : Value) (x : List (List Int)) (s1 : Nat) (c1 : Int), e = .returned v ∧ Chg [g] w w' ∧ BX w'.heap g [vp, .int .i64 ((o : Nat) : Int), .int .i64 ((s1 : Nat) : Int), .int .i64 c1] ∧ RN S (rdL (rdL rI)) w'.heap v x ∧ (CapS v ∧ x.length = l.length ∧ SrE (o + 1) x) ∧ s1 ≤ 3000 ∧ (0 ≤ c1 ∧ c1 ≤ 9) ∧ RelV (go c0 (evs (o + 1) (evC p (o + 1) F) l env s0)) x s1 c1)
theorem c_slices_Clip_____int64___int64_ (w : World) (v : Value) (n : Nat) (hs : isSl v n) (hcs : CapS v)  :
  Calls Tryz.prog 157 #[v] w (fun e w' => e = .returned (clipV v) ∧ w' = w) := by
 refine calls_mk [v] 9 Tryz.func157 rfl rfl sM ?_
 have hE0 : w = w := rfl
 exact wp_seq (wp_plain _ [0] rfl (lw_tvn 1 rfl (wp_seq (wp_plain _ [0,0,0,0,0,0,0] rfl (lw_tv 2 rfl (q_len (v := v) u27 rfl hs zN (lw_tv 1 rfl (q_len (v := v) u27 rfl hs zN (q_clip (v := v) u27 ti25 rfl hs rfl rfl hcs zN (lw_tvn 1 rfl (wp_ret (post_ret [2] rfl (clipV v) rfl ⟨rfl,hE0⟩))))))))))))
theorem c_impl_evaluation_constant (w : World) (S : List Nat) (g : Nat) (vp : Value) (dp o s0 : Nat) (c0 : Int) (p : List Fn) (n : Int) (hS : ∀ b ∈ S,b < w.heap.size) (hgS : g ∈ S) (hB0 : BX w.heap g [vp,.int .i64 ((o :Nat):Int),.int .i64 ((s0 :Nat):Int),.int .i64 c0]) (hp : RP S dp w.heap vp p) (ho : o ≤ 12) (hs0 : s0 ≤ 3000) (hc0 : 0 ≤ c0 ∧ c0 ≤ 9) (_hn : -9223372036854775808 ≤ n ∧ n ≤ 9223372036854775807)  :
  Calls Tryz.prog 156 #[.pointer (some ⟨g,0,none⟩),.int .i64 n] w (fun e w' => ∃ v0 : Value,e = .returned (v0) ∧ Ext w w' ∧ Fr (owL rI 2) w.heap.size w'.heap.size w'.heap v0 (cst (o + 1) n)) := by
 refine calls_mk [.pointer (some ⟨g,0,none⟩),.int .i64 n] 16 Tryz.func156 rfl rfl sM ?_
 have hE0 : Ext w w := Ext.refl w
 have hl_vp := hp.lenle
 unfold maxLen at hl_vp
 have hgl := hB0.lt
 refine wp_seq (wp_plain _ [0] rfl (lw_tvn 1 rfl (wp_seq (wp_plain _ [0,0,0,2,0,3,0] rfl (lw_tv 1 rfl (q_nil rfl zN (q_fldP (p := (.pointer (some ⟨g,0,none⟩))) (b := g) (o := 0) 1 fd128_1 rfl rfl zN (q_load (p := (padd (.pointer (some ⟨g,0,none⟩)) 1)) (.inr rfl) (.int .i64 ((o :Nat):Int)) one3 rfl (hB0.ldp (i := 1) sM) zN (q_add ((o + 1 :Nat):Int) rfl rfl (w64n oM oM) zN ?_)))))))))
 refine r_make (n := o + 1) u25 ti2 rfl rfl rfl sD zN fun v1 w1 hX1 hz1 hO1 => ?_
 have hzs1:=hX1.size
 have hE1:=hE0.trans hX1
 have hB0x1 := hB0.ext hX1
 refine lw_tvn 1 rfl (wp_seq (wp_plain _ [0,0,0,4] rfl (lw_tv 2 rfl (q_idx (v := v1) 0 u25 ti2 rfl rfl hO1.isSl rfl sM zN (e_setI (v := v1) (w := w1) sz2 rfl rfl _hn hO1 sM zN fun w2 F2 hC2 hz2 hF2 hO2 => ?_)))))
 have hE2 : Ext w w2 := hC2.below hE1 (fun c hc => Nat.le_trans (Nat.le_refl _) (hF2 c hc).1) hE1.size
 have hzs2:=hC2.size
 have hF3 := hB0x1.chg hC2 (fun hm => by have := hF2 _ hm; omega)
 exact lw_nil (wp_seq (wp_plain _ [0,0] rfl (lw_tvn 2 rfl (wp_ret (post_ret [4] rfl v1 rfl ⟨v1,rfl,hE2,hO2.up o1⟩)))))
theorem c_impl_evaluation_all (w : World) (S : List Nat) (F : Nat) (g : Nat) (vp : Value) (dp o s0 : Nat) (c0 : Int) (p : List Fn) (dl : Nat) (vl : Value) (l : List Ex) (vv : Value) (env : List (List Int)) (hS : ∀ b ∈ S,b < w.heap.size) (hgS : g ∈ S) (hB0 : BX w.heap g [vp,.int .i64 ((o :Nat):Int),.int .i64 ((s0 :Nat):Int),.int .i64 c0]) (hp : RP S dp w.heap vp p) (ho : o ≤ 12) (hs0 : s0 ≤ 3000) (hc0 : 0 ≤ c0 ∧ c0 ≤ 9) (hl : RN S (rdS 5 (rEx dl)) w.heap vl l) (henv : RN S (rdL (rdL rI)) w.heap vv env) (hqenv : CapS vv) (hvp : VPr p) (hF : F ≤ p.length) (hwf : ∀ k,k < l.length → wf p ((F :Nat):Int) (l.getD k Ex.zero) ((env.length :Nat):Int) = true) (hse : SrE (o + 1) env) (hdp : ∀ k,k < l.length → env.length + (l.getD k Ex.zero).deep ≤ 1000000) (hll : l.length ≤ 1000000) (IHv : ∀ d',d' < dl → PV F d') :
  Calls Tryz.prog 104 #[.pointer (some ⟨g,0,none⟩),vl,vv] w (fun e w' => ∃ (v : Value) (x : List (List Int)) (s1 : Nat) (c1 : Int),e = .returned v ∧ Chg [g] w w' ∧ BX w'.heap g [vp,.int .i64 ((o :Nat):Int),.int .i64 ((s1 :Nat):Int),.int .i64 c1] ∧ RN S (rdL (rdL rI)) w'.heap v x ∧ (CapS v ∧ x.length = l.length ∧ SrE (o + 1) x) ∧ s1 ≤ 3000 ∧ (0 ≤ c1 ∧ c1 ≤ 9) ∧ RelV (go c0 (evs (o + 1) (evC p (o + 1) F) l env s0)) x s1 c1) := by
 refine calls_mk [.pointer (some ⟨g,0,none⟩),vl,vv] 26 Tryz.func104 rfl rfl sM ?_
 have hE0 : Chg [g] w w := Chg.refl [g] w
 have hl_vp := hp.lenle
 unfold maxLen at hl_vp
 have hl_vl := hl.lenle
 unfold maxLen at hl_vl
 have hl_vv := henv.lenL
 unfold maxLen at hl_vv
 have hgl := hB0.lt
 refine wp_seq (wp_plain _ [0] rfl (lw_tvn 1 rfl (wp_seq (wp_plain _ [3,0] rfl (r_nil rV good_rV u27 ti25 zN fun v1 w1 hX1 hz1 hO1 => ?_)))))
 have hzs1:=hX1.size
 have hE1 : Chg [g] w w1 := hE0.ext hX1
 have hB0x1 := hB0.ext hX1
 obtain ⟨us1,F1,hb1⟩ := Bld.nil (S := S) (hO1.low (B' := w.heap.size) (Nat.le_refl _))
 refine lw_tvn 1 rfl (wp_seq (wp_seq (wp_plain _ [0,0,0] rfl (lw_tv 1 rfl (q_len (v := vl) u78 rfl hl.isSl zN (lw_tvn 1 rfl (wp_block ?_)))))))
 refine c_loop (S := Nat × Value × List (List Int) × Nat × Int) (fun (⟨k,vo,xs,s9,c9⟩ : Nat × Value × List (List Int) × Nat × Int) => ([(7,vo),(13,(.int .i64 ((k :Nat):Int))),(0,(.pointer (some ⟨g,0,none⟩))),(2,vv),(11,vl),(12,(.int .i64 ((l.length :Nat):Int)))] : List (Nat × Value))) (fun (⟨k,vo,xs,s9,c9⟩ : Nat × Value × List (List Int) × Nat × Int) (W : World) => Chg [g] w W ∧ BX W.heap g [vp,.int .i64 ((o :Nat):Int),.int .i64 ((s9 :Nat):Int),.int .i64 c9] ∧ k ≤ l.length ∧ BldE 25 S w.heap.size W.heap vo xs ∧ xs.length = k ∧ SrE (o + 1) xs ∧ s9 ≤ 3000 ∧ (0 ≤ c9 ∧ c9 ≤ 9) ∧ RelV (go c0 (evs (o + 1) (evC p (o + 1) F) (l.take k) env s0)) xs s9 c9) (fun (⟨k,vo,xs,s9,c9⟩ : Nat × Value × List (List Int) × Nat × Int) => l.length - k) (0,v1,([] : List (List Int)),s0,c0) ⟨rfl,rfl,rfl,rfl,rfl,rfl,trivial⟩ ⟨hE1,hB0x1,sD,(by exact ⟨_,_,by assumption⟩),(by rfl),(by intro j hj; simp at hj),oM,oM,(by exact all_start _ _ _ _ _ _)⟩ ?_
 clear hE0 hO1 hz1 hX1 hzs1 hE1
 rintro ⟨k,vo,xs,s9,c9⟩ ρ2 w2 ⟨hE2,hL2_0,hp2_0,hbld,hxl,hxs,hp2_4,hp2_5,hrl⟩
 have hzs2 : w.heap.size ≤ w2.heap.size := hE2.size
 have hq3 := hL2_0.lt
 obtain ⟨us5,F5,hbl4⟩ := hbld
 refine wp_seq (wp_plain _ [0] rfl ?_)
 by_cases hc6 : ((k :Nat):Int) < ((l.length :Nat):Int)
 ·
  refine q_lss true rfl rfl (decide_eq_true hc6) zN (lw_nil (wp_seq (c_cond_t rfl (wp_skip (wp_seq (wp_block (wp_seq (wp_plain _ [0,2,3,4] rfl ?_))))))))
  have hkl : k < l.length := by omega
  refine q_idx (v := vl) k u78 tiS94 rfl rfl hl.isSl rfl sD zN ?_
  obtain ⟨cs7,hr7,hl7⟩ := hl.get (good_rEx dl) Ex.zero (k := k) sD
  obtain ⟨dd7,ve7,hd7,rfl,hx7⟩ := RX.of hr7
  have hln7 := hx7.rn.lenle
  unfold maxLen at hln7
  refine q_loadA (p := eptr vl k 5) (.inr rfl) [(.int .i64 ((l.getD k Ex.zero).kind)),(.int .i64 ((l.getD k Ex.zero).num)),(.int .i64 ((l.getD k Ex.zero).pick)),(.int .i64 ((l.getD k Ex.zero).count)),ve7] agg94 rfl (fun w9 hw9 => hl7 w9 ((hE2.sub (subS hgS)).ext hw9)) rfl zN ?_
  have hq9 := hL2_0.lt
  refine r_allocA (z := .agg #[.int .i64 0,.int .i64 0,.int .i64 0,.int .i64 0,.slice none 0 0]) zr94 zN fun w8 hX8 hz8 hB8 => ?_
  have hzs8:=hX8.size
  have hE8 : Chg [g] w w8 := hE2.ext hX8
  have hL2_0x8 := hL2_0.ext hX8
  have hN10 := hbl4.ext hX8
  replace hB8 : BX w8.heap w2.heap.size [(.int .i64 0),(.int .i64 0),(.int .i64 0),(.int .i64 0),(.slice none 0 0)] := hB8
  refine e_setA (vs := [(.int .i64 ((l.getD k Ex.zero).kind)),(.int .i64 ((l.getD k Ex.zero).num)),(.int .i64 ((l.getD k Ex.zero).pick)),(.int .i64 ((l.getD k Ex.zero).count)),ve7]) agg94 rfl rfl hx7.ones hB8 rfl rfl zN fun w11 hC11 hz11 hB11 => ?_
  replace hB11 : BX w11.heap w2.heap.size [(.int .i64 ((l.getD k Ex.zero).kind)),(.int .i64 ((l.getD k Ex.zero).num)),(.int .i64 ((l.getD k Ex.zero).pick)),(.int .i64 ((l.getD k Ex.zero).count)),ve7] := hB11
  have hE11 : Chg [g] w w11 := hE8.fresh hC11 (fun c hc => by have := List.mem_singleton.1 hc; omega)
  have hzs11:=hC11.size
  have hF12 := hL2_0x8.chg hC11 (fun hm => by have := List.mem_singleton.1 hm; omega)
  have hN13 := hbl4.ext (hC11.below hX8 (fun c hc => by have := List.mem_singleton.1 hc; omega) hX8.size)
  refine lw_nil (wp_plain _ [0,0,2,0,4,3,4,0] rfl (lw_tv 2 rfl (q_loadA (p := (.pointer (some ⟨w2.heap.size,0,none⟩))) (.inr rfl) [(.int .i64 ((l.getD k Ex.zero).kind)),(.int .i64 ((l.getD k Ex.zero).num)),(.int .i64 ((l.getD k Ex.zero).pick)),(.int .i64 ((l.getD k Ex.zero).count)),ve7] agg94 rfl (fun w9 hw9 => LD.of_box (BX.ext (w := w11) hB11 hw9)) rfl zN (lw_tv 1 rfl ?_))))
  refine lw_callE 135 [] [] [(.pointer (some ⟨g,0,none⟩)),(.agg #[(.int .i64 ((l.getD k Ex.zero).kind)),(.int .i64 ((l.getD k Ex.zero).num)),(.int .i64 ((l.getD k Ex.zero).pick)),(.int .i64 ((l.getD k Ex.zero).count)),ve7]),vv] rfl rfl cf135 zN (IHv dd7 oM _ (S ++ F5) g vp dp (o) (s9) (c9) (p) ve7 (l.getD k Ex.zero) vv (env) (fun b hb => (by rcases List.mem_append.1 hb with hb | hb; (have := hS b hb; omega); exact hN13.lt b hb : b < w11.heap.size)) (List.mem_append_left _ hgS) hF12 ((hp.add (F := F5) (good_rdS (good_rFn dp)) hN13.low).chg (good_rdS (good_rFn dp)) (hE11.sub (subA hgS))) oM oM oM ⟨hx7.rng,((hx7.rn.add (F := F5) (good_rdS (good_rEx dd7)) hN13.low).chg (good_rdS (good_rEx dd7)) (hE11.sub (subA hgS)))⟩ ((henv.add (F := F5) g2 hN13.low).chg g2 (hE11.sub (subA hgS))) hqenv (by exact hvp) oM (by exact hwf k hkl) (by exact hse) (by exact hdp k hkl)) ?_
  rintro e14 w14 ⟨v14,x14,s14,c14,rfl,hC14,hB14,hr14,hse14,hsb14,hcb14,hrl14⟩
  refine ⟨_,rfl,?_⟩
  have hzs14:=hC14.size
  have hE14 : Chg [g] w w14 := hE11.trans hC14
  have hF19 := hB11.chg hC14 (fun hm => by have := List.mem_singleton.1 hm; omega)
  have hF20 := hN13.run hgS oM hC14
  have hsn14 := hse14.1
  replace hr14 : RN (S ++ F5) (rdL rI) w14.heap v14 x14 := hr14
  refine r_one (u := v14) (B := w14.heap.size) good_rV u27 ti25 rfl rfl (frV w14.heap.size w14.heap.size _ (hr14.one1 g1)) (Nat.le_refl _) zN fun v21 w21 hX21 hz21 hO21 => ?_
  have hzs21:=hX21.size
  have hE21 : Chg [g] w w21 := hE14.ext hX21
  have hB14x21 := hB14.ext hX21
  have hF19x21 := hF19.ext hX21
  have hN22 := hF20.ext hX21
  have hN23 := hr14.ext g1 hX21
  refine e_appB (v := vo) (a := v21) (u := v14) u27 ti25 rfl rfl rfl hN22 oM hO21 hN23 sD (by unfold maxLen; first | omega | assumption | (simp; done) | (simp; omega)) zN ?_
  rintro v24 w24 G24 hC24 hF24 ⟨us24,F24,hb24⟩
  have hzs24:=hC24.size
  have hE24 : Chg [g] w w24 := hE21.fresh hC24 (fun c hc => hN22.low c (hF24 c hc))
  have hF25 := hB14x21.chg hC24 (fun hm => by have := hN22.low _ (hF24 _ hm); have := hN22.lt _ (hF24 _ hm); omega)
  refine lw_tvn 1 rfl (wp_plain _ [0,0] rfl (q_add ((k + 1 :Nat):Int) rfl rfl (w64n oM sD) zN (lw_tvn 1 rfl ?_)))
  exact ⟨((k + 1),v24,(xs ++ [x14]),s14,c14),_,rfl,⟨rfl,rfl,rfl,rfl,rfl,rfl,trivial⟩,⟨hE24,hF25,sD,(by exact ⟨_,_,by assumption⟩),(by rw [List.length_append,List.length_singleton,hxl]),(by exact SrE.snoc hxs (by assumption)),oM,oM,(by exact rel_snoc oM hrl (by assumption))⟩,by first | omega | (dsimp only; omega)⟩
 ·
  exact q_lss false rfl rfl (decide_eq_false hc6) zN (lw_nil (wp_seq (c_cond_f rfl (wp_exit (t_exit (t_exit (c_exit_here (wp_seq (wp_plain _ [0,0] rfl (lw_tvn 2 rfl (wp_ret (post_ret [6] rfl vo rfl ⟨vo,xs,s9,c9,rfl,hE2,hL2_0,(hbl4.done hS),(by exact ⟨hbl4.cap,by omega,hxs⟩),oM,oM,(by rw [List.take_of_length_le oM] at hrl; exact hrl)⟩))))))))))))
theorem c_all (F d : Nat) (IH : ∀ d',d' < d → PV F d') : PA F d := by
 intro w S g vp dp o s0 c0 p vl l vv env hS hgS hB0 hp ho hs0 hc0 hl henv hqenv hvp hF hwf hse hdp hll
 exact c_impl_evaluation_all w S F g vp dp o s0 c0 p d vl l vv env hS hgS hB0 hp ho hs0 hc0 hl henv hqenv hvp hF hwf hse hdp hll IH
theorem z135_0 {p : Prop} (h : p := by first | exact rel_code oM | exact rel_budget oM oM | exact rel_num hc00 hs1 oM | exact rel_var hc00 hs1 oM | exact rel_if0 hc00 hs1 oM oM ‹RelV (go c0 (evE _ _ (ex.kids.getD 0 _) _ _)) _ _ _› oM (by assumption) | exact rel_if1 hc00 hs1 oM oM ‹RelV (go c0 (evE _ _ (ex.kids.getD 0 _) _ _)) _ _ _› oM (by assumption) | exact rel_let hc00 hs1 oM oM ‹RelV (go c0 (evE _ _ (ex.kids.getD 0 _) _ _)) _ _ _› (by assumption) | exact rel_kidsE hc00 hs1 hkg.1 hkg.2.1 hkg.2.2.1 hkg.2.2.2 hKr oM | exact rel_call hc00 hs1 oM oM hKr oM (by assumption) | exact rel_loop hc00 hs1 oM oM hKr oM (rel_stop hrl9 oM oM) | exact rel_op hc00 hs1 hkg.1 hkg.2.1 hkg.2.2.1 hkg.2.2.2 oM oM hKr oM (by rw [show c66 = 0 from by omega]; exact op_add oM) | exact rel_op hc00 hs1 hkg.1 hkg.2.1 hkg.2.2.1 hkg.2.2.2 oM oM hKr oM (by rw [show c66 = 0 from by omega]; exact op_sub oM) | exact rel_op hc00 hs1 hkg.1 hkg.2.1 hkg.2.2.1 hkg.2.2.2 oM oM hKr oM (by rw [show c66 = 0 from by omega]; exact op_mul oM) | exact rel_op hc00 hs1 hkg.1 hkg.2.1 hkg.2.2.1 hkg.2.2.2 oM oM hKr oM (by rw [show c66 = 0 from by omega]; exact op_neg oM) | exact rel_op hc00 hs1 hkg.1 hkg.2.1 hkg.2.2.1 hkg.2.2.2 oM oM hKr oM (by rw [show c66 = 0 from by omega]; exact op_div oM oM) | exact rel_op hc00 hs1 hkg.1 hkg.2.1 hkg.2.2.1 hkg.2.2.2 oM oM hKr oM (op_div0 oM oM)) : p := h
theorem z135_1 {p : Prop} (h : p := by first | exact rel_code oM | exact rel_budget oM oM | exact rel_num hc00 hs1 oM | exact rel_var hc00 hs1 oM | exact rel_if0 hc00 hs1 oM oM ‹RelV (go c0 (evE _ _ (ex.kids.getD 0 _) _ _)) _ _ _› oM (by assumption) | exact rel_if1 hc00 hs1 oM oM ‹RelV (go c0 (evE _ _ (ex.kids.getD 0 _) _ _)) _ _ _› oM (by assumption) | exact rel_let hc00 hs1 oM oM ‹RelV (go c0 (evE _ _ (ex.kids.getD 0 _) _ _)) _ _ _› (by assumption) | exact rel_kidsE hc00 hs1 hkg.1 hkg.2.1 hkg.2.2.1 hkg.2.2.2 hKr oM | exact rel_call hc00 hs1 oM oM hKr oM (by assumption) | exact rel_loop hc00 hs1 oM oM hKr oM (rel_stop hrl9 oM oM) | exact rel_op hc00 hs1 hkg.1 hkg.2.1 hkg.2.2.1 hkg.2.2.2 oM oM hKr oM (by rw [show c0 = 0 from by omega]; exact op_add oM) | exact rel_op hc00 hs1 hkg.1 hkg.2.1 hkg.2.2.1 hkg.2.2.2 oM oM hKr oM (by rw [show c0 = 0 from by omega]; exact op_sub oM) | exact rel_op hc00 hs1 hkg.1 hkg.2.1 hkg.2.2.1 hkg.2.2.2 oM oM hKr oM (by rw [show c0 = 0 from by omega]; exact op_mul oM) | exact rel_op hc00 hs1 hkg.1 hkg.2.1 hkg.2.2.1 hkg.2.2.2 oM oM hKr oM (by rw [show c0 = 0 from by omega]; exact op_neg oM) | exact rel_op hc00 hs1 hkg.1 hkg.2.1 hkg.2.2.1 hkg.2.2.2 oM oM hKr oM (by rw [show c0 = 0 from by omega]; exact op_div oM oM) | exact rel_op hc00 hs1 hkg.1 hkg.2.1 hkg.2.2.1 hkg.2.2.2 oM oM hKr oM (op_div0 oM oM)) : p := h
theorem z135_2 {p : Prop} (h : p := by first | exact rel_code oM | exact rel_budget oM oM | exact rel_num hc00 hs1 oM | exact rel_var hc00 hs1 oM | exact rel_if0 hc00 hs1 oM oM ‹RelV (go c0 (evE _ _ (ex.kids.getD 0 _) _ _)) _ _ _› oM (by assumption) | exact rel_if1 hc00 hs1 oM oM ‹RelV (go c0 (evE _ _ (ex.kids.getD 0 _) _ _)) _ _ _› oM (by assumption) | exact rel_let hc00 hs1 oM oM ‹RelV (go c0 (evE _ _ (ex.kids.getD 0 _) _ _)) _ _ _› (by assumption) | exact rel_kidsE hc00 hs1 hkg.1 hkg.2.1 hkg.2.2.1 hkg.2.2.2 hKr oM | exact rel_call hc00 hs1 oM oM hKr oM (by assumption) | exact rel_loop hc00 hs1 oM oM hKr oM (rel_stop hrl9 oM oM) | exact rel_op hc00 hs1 hkg.1 hkg.2.1 hkg.2.2.1 hkg.2.2.2 oM oM hKr oM (by rw [show c9 = 0 from by omega]; exact op_add oM) | exact rel_op hc00 hs1 hkg.1 hkg.2.1 hkg.2.2.1 hkg.2.2.2 oM oM hKr oM (by rw [show c9 = 0 from by omega]; exact op_sub oM) | exact rel_op hc00 hs1 hkg.1 hkg.2.1 hkg.2.2.1 hkg.2.2.2 oM oM hKr oM (by rw [show c9 = 0 from by omega]; exact op_mul oM) | exact rel_op hc00 hs1 hkg.1 hkg.2.1 hkg.2.2.1 hkg.2.2.2 oM oM hKr oM (by rw [show c9 = 0 from by omega]; exact op_neg oM) | exact rel_op hc00 hs1 hkg.1 hkg.2.1 hkg.2.2.1 hkg.2.2.2 oM oM hKr oM (by rw [show c9 = 0 from by omega]; exact op_div oM oM) | exact rel_op hc00 hs1 hkg.1 hkg.2.1 hkg.2.2.1 hkg.2.2.2 oM oM hKr oM (op_div0 oM oM)) : p := h
theorem z135_3 {p : Prop} (h : p := by first | assumption | exact cst_ser (by decide) | exact cst_ser (isN_iff.2 oM) | exact hse _ oM | exact hks _ oM | exact addS_ser hK0 | exact redS_ser hK0 | exact proS_ser hK0 | exact sclS_ser hK0 | exact quoS_ser hK0) : p := h
theorem z135_4 {p : Prop} (h : p := by have := hK0.1; have := hK1.1; omega) : p := h
theorem z135_5 {p : Prop} (h : p := by have := hK0.1; omega) : p := h
theorem c_impl_evaluation_value (w : World) (S : List Nat) (F : Nat) (g : Nat) (vp : Value) (dp o s0 : Nat) (c0 : Int) (p : List Fn) (dex : Nat) (ve : Value) (ex : Ex) (vv : Value) (env : List (List Int)) (hS : ∀ b ∈ S,b < w.heap.size) (hgS : g ∈ S) (hB0 : BX w.heap g [vp,.int .i64 ((o :Nat):Int),.int .i64 ((s0 :Nat):Int),.int .i64 c0]) (hp : RP S dp w.heap vp p) (ho : o ≤ 12) (hs0 : s0 ≤ 3000) (hc0 : 0 ≤ c0 ∧ c0 ≤ 9) (hex : RX S dex w.heap ve ex) (henv : RN S (rdL (rdL rI)) w.heap vv env) (hqenv : CapS vv) (hvp : VPr p) (hF : F ≤ p.length) (hwf : wf p ((F :Nat):Int) ex ((env.length :Nat):Int) = true) (hse : SrE (o + 1) env) (hdp : env.length + ex.deep ≤ 1000000) (IH1 : ∀ F',F' < F → ∀ d,PV F' d) (IH2 : ∀ d',d' < dex → PV F d') :
  Calls Tryz.prog 135 #[.pointer (some ⟨g,0,none⟩),(.agg #[(.int .i64 ex.kind),(.int .i64 ex.num),(.int .i64 ex.pick),(.int .i64 ex.count),ve]),vv] w (fun e w' => ∃ (v : Value) (x : List Int) (s1 : Nat) (c1 : Int),e = .returned v ∧ Chg [g] w w' ∧ BX w'.heap g [vp,.int .i64 ((o :Nat):Int),.int .i64 ((s1 :Nat):Int),.int .i64 c1] ∧ RN S (rdL rI) w'.heap v x ∧ Ser1 (o + 1) x ∧ s1 ≤ 3000 ∧ (0 ≤ c1 ∧ c1 ≤ 9) ∧ RelV (go c0 (evE (o + 1) (evC p (o + 1) F) ex env s0)) x s1 c1) := by
 refine calls_mk [.pointer (some ⟨g,0,none⟩),(.agg #[(.int .i64 ex.kind),(.int .i64 ex.num),(.int .i64 ex.pick),(.int .i64 ex.count),ve]),vv] 210 Tryz.func135 rfl rfl sM ?_
 have hE0 : Chg [g] w w := Chg.refl [g] w
 have hl_vp := hp.lenle
 unfold maxLen at hl_vp
 have hl_ve := hex.rn.lenle
 unfold maxLen at hl_ve
 have hl_vv := henv.lenL
 unfold maxLen at hl_vv
 have hgl := hB0.lt
 have hdk := deep_kids ex
 refine wp_seq (wp_plain _ [3,0] rfl ?_)
 have hq2 := hB0.lt
 refine r_boxA (cs := #[(.int .i64 ex.kind),(.int .i64 ex.num),(.int .i64 ex.pick),(.int .i64 ex.count),ve]) rfl zN fun w1 hX1 hz1 hB1 => ?_
 have hzs1:=hX1.size
 have hE1 : Chg [g] w w1 := hE0.ext hX1
 have hB0x1 := hB0.ext hX1
 replace hB1 : BX w1.heap w.heap.size [(.int .i64 ex.kind),(.int .i64 ex.num),(.int .i64 ex.pick),(.int .i64 ex.count),ve] := hB1
 refine lw_tvn 1 rfl (wp_seq (wp_seq (wp_plain _ [0,0,0,2,0] rfl (lw_tv 1 rfl (q_nil rfl zN (q_fldP (p := (.pointer (some ⟨g,0,none⟩))) (b := g) (o := 0) 3 fd128_3 rfl rfl zN (q_load (p := (padd (.pointer (some ⟨g,0,none⟩)) 3)) (.inr rfl) (.int .i64 c0) one2 rfl (hB0x1.ldp (i := 3) sM) zN ?_)))))))
 by_cases hc3 : c0 ≠ ((0 :Nat):Int)
 ·
  refine q_neq true rfl rfl (decide_eq_true hc3) zN (lw_nil (c_cond_t rfl (wp_seq (wp_plain _ [0,3,0] rfl (lw_tv 1 rfl (lw_call 156 [] [] [(.pointer (some ⟨g,0,none⟩)),(.int .i64 ((0 :Nat):Int))] rfl rfl cf156 zN (c_impl_evaluation_constant _ S g vp dp (o) (s0) (c0) (p) _ (fun b hb => (by have := hS b hb; omega : b < w1.heap.size)) hgS hB0x1 (hp.chg (good_rdS (good_rFn dp)) (hE1.sub (subS hgS))) oM oM oM oM) ?_))))))
  rintro e4 w4 ⟨v4_0,rfl,hX4,hO4_0⟩
  refine ⟨_,rfl,hX4,?_⟩
  have hzs4:=hX4.size
  have hE4 : Chg [g] w w4 := hE1.ext hX4
  have hB0x4 := hB0x1.ext hX4
  have hB1x4 := hB1.ext hX4
  refine lw_tvn 1 rfl (wp_ret (t_ret ?_))
  exact post_ret [6] rfl v4_0 rfl ⟨v4_0,cst (o + 1) ((0 :Nat):Int),s0,c0,rfl,hE4,hB0x4,(RN.of_fr1 hO4_0 (fun b hb => by have := hS b hb; omega)),z135_3,oM,oM,z135_1⟩
 ·
  refine q_neq false rfl rfl (decide_eq_false hc3) zN (lw_nil (c_cond_f rfl (wp_skip (wp_seq (wp_seq (wp_plain _ [0,0,0,2,0] rfl (lw_tv 1 rfl (q_nil rfl zN (q_fldP (p := (.pointer (some ⟨g,0,none⟩))) (b := g) (o := 0) 2 fd128_2 rfl rfl zN (q_load (p := (padd (.pointer (some ⟨g,0,none⟩)) 2)) (.inr rfl) (.int .i64 ((s0 :Nat):Int)) one2 rfl (hB0x1.ldp (i := 2) sM) zN ?_))))))))))
  by_cases hc5 : ((s0 :Nat):Int) = ((3000 :Nat):Int)
  ·
   refine q_eql true rfl rfl (decide_eq_true hc5) zN (lw_nil (c_cond_t rfl (wp_seq (wp_plain _ [0,0,0,4] rfl (lw_tv 1 rfl (q_nil rfl zN (q_fldP (p := (.pointer (some ⟨g,0,none⟩))) (b := g) (o := 0) 3 fd128_3 rfl rfl zN (e_setB (k := 3) (w := w1) sz2 rfl rfl ⟨rfl,rfl⟩ hB0x1 sM zN fun w6 hC6 hz6 hB6 => ?_))))))))
   replace hB6 : BX w6.heap g [vp,(.int .i64 ((o :Nat):Int)),(.int .i64 ((s0 :Nat):Int)),(.int .i64 ((7 :Nat):Int))] := hB6
   have hE6 : Chg [g] w w6 := hE1.trans hC6
   have hzs6:=hC6.size
   have hF7 := hB1.chg hC6 (fun hm => by have := List.mem_singleton.1 hm; omega)
   refine lw_nil (wp_seq (wp_plain _ [0,3,0] rfl (lw_tv 1 rfl (lw_call 156 [] [] [(.pointer (some ⟨g,0,none⟩)),(.int .i64 ((0 :Nat):Int))] rfl rfl cf156 zN (c_impl_evaluation_constant _ S g vp dp (o) (s0) (((7 :Nat):Int)) (p) _ (fun b hb => (by have := hS b hb; omega : b < w6.heap.size)) hgS hB6 (hp.chg (good_rdS (good_rFn dp)) (hE6.sub (subS hgS))) oM oM oM oM) ?_))))
   rintro e8 w8 ⟨v8_0,rfl,hX8,hO8_0⟩
   refine ⟨_,rfl,hX8,?_⟩
   have hzs8:=hX8.size
   have hE8 : Chg [g] w w8 := hE6.ext hX8
   have hB6x8 := hB6.ext hX8
   have hF7x8 := hF7.ext hX8
   refine lw_tvn 1 rfl (wp_ret (t_ret ?_))
   exact post_ret [6] rfl v8_0 rfl ⟨v8_0,cst (o + 1) ((0 :Nat):Int),s0,((7 :Nat):Int),rfl,hE8,hB6x8,(RN.of_fr1 hO8_0 (fun b hb => by have := hS b hb; omega)),z135_3,oM,oM,(by first | exact rel_code oM | exact rel_budget oM oM | exact rel_num hc00 hs1 oM | exact rel_var hc00 hs1 oM | exact rel_if0 hc00 hs1 oM oM ‹RelV (go c0 (evE _ _ (ex.kids.getD 0 _) _ _)) _ _ _› oM (by assumption) | exact rel_if1 hc00 hs1 oM oM ‹RelV (go c0 (evE _ _ (ex.kids.getD 0 _) _ _)) _ _ _› oM (by assumption) | exact rel_let hc00 hs1 oM oM ‹RelV (go c0 (evE _ _ (ex.kids.getD 0 _) _ _)) _ _ _› (by assumption) | exact rel_kidsE hc00 hs1 hkg.1 hkg.2.1 hkg.2.2.1 hkg.2.2.2 hKr oM | exact rel_call hc00 hs1 oM oM hKr oM (by assumption) | exact rel_loop hc00 hs1 oM oM hKr oM (rel_stop hrl9 oM oM) | exact rel_op hc00 hs1 hkg.1 hkg.2.1 hkg.2.2.1 hkg.2.2.2 oM oM hKr oM (by rw [show ((7 :Nat):Int) = 0 from by omega]; exact op_add oM) | exact rel_op hc00 hs1 hkg.1 hkg.2.1 hkg.2.2.1 hkg.2.2.2 oM oM hKr oM (by rw [show ((7 :Nat):Int) = 0 from by omega]; exact op_sub oM) | exact rel_op hc00 hs1 hkg.1 hkg.2.1 hkg.2.2.1 hkg.2.2.2 oM oM hKr oM (by rw [show ((7 :Nat):Int) = 0 from by omega]; exact op_mul oM) | exact rel_op hc00 hs1 hkg.1 hkg.2.1 hkg.2.2.1 hkg.2.2.2 oM oM hKr oM (by rw [show ((7 :Nat):Int) = 0 from by omega]; exact op_neg oM) | exact rel_op hc00 hs1 hkg.1 hkg.2.1 hkg.2.2.1 hkg.2.2.2 oM oM hKr oM (by rw [show ((7 :Nat):Int) = 0 from by omega]; exact op_div oM oM) | exact rel_op hc00 hs1 hkg.1 hkg.2.1 hkg.2.2.1 hkg.2.2.2 oM oM hKr oM (op_div0 oM oM))⟩
  ·
   refine q_eql false rfl rfl (decide_eq_false hc5) zN (lw_nil (c_cond_f rfl (wp_skip (wp_seq (wp_plain _ [0,0,0,2,0,0,0,4] rfl (lw_tv 1 rfl (q_nil rfl zN (q_fldP (p := (.pointer (some ⟨g,0,none⟩))) (b := g) (o := 0) 2 fd128_2 rfl rfl zN (q_load (p := (padd (.pointer (some ⟨g,0,none⟩)) 2)) (.inr rfl) (.int .i64 ((s0 :Nat):Int)) one2 rfl (hB0x1.ldp (i := 2) sM) zN (q_add ((s0 + 1 :Nat):Int) rfl rfl (w64n oM oM) zN (q_nil rfl zN (q_fldP (p := (.pointer (some ⟨g,0,none⟩))) (b := g) (o := 0) 2 fd128_2 rfl rfl zN (e_setB (k := 2) (w := w1) sz2 rfl rfl ⟨rfl,rfl⟩ hB0x1 sM zN fun w9 hC9 hz9 hB9 => ?_)))))))))))))
   replace hB9 : BX w9.heap g [vp,(.int .i64 ((o :Nat):Int)),(.int .i64 ((s0 + 1 :Nat):Int)),(.int .i64 c0)] := hB9
   have hE9 : Chg [g] w w9 := hE1.trans hC9
   have hzs9:=hC9.size
   have hF10 := hB1.chg hC9 (fun hm => by have := List.mem_singleton.1 hm; omega)
   refine lw_nil (wp_seq (wp_seq (wp_plain _ [0,2] rfl ?_)))
   have hc00 : c0 = 0 := by omega
   have hs1 : s0 + 1 ≤ 3000 := by omega
   refine q_fldP (p := (.pointer (some ⟨w.heap.size,0,none⟩))) (b := w.heap.size) (o := 0) 0 fd94_0 rfl rfl zN (q_load (p := (padd (.pointer (some ⟨w.heap.size,0,none⟩)) 0)) (.inr rfl) (.int .i64 ex.kind) one2 rfl (hF10.ldp (i := 0) sM) zN (lw_nil (wp_block (wp_seq (wp_plain _ [0,0] rfl ?_)))))
   by_cases hc11 : ex.kind = ((1 :Nat):Int)
   ·
    refine q_eql true rfl rfl (decide_eq_true hc11) zN (lw_tvn 1 rfl (c_cond_t rfl (wp_seq (wp_plain _ [0,0,2,3,0] rfl ?_))))
    have hwk := wk_num hwf oM
    refine lw_tv 1 rfl (q_fldP (p := (.pointer (some ⟨w.heap.size,0,none⟩))) (b := w.heap.size) (o := 0) 1 fd94_1 rfl rfl zN (q_load (p := (padd (.pointer (some ⟨w.heap.size,0,none⟩)) 1)) (.inr rfl) (.int .i64 ex.num) one2 rfl (hF10.ldp (i := 1) sM) zN (lw_call 156 [] [] [(.pointer (some ⟨g,0,none⟩)),(.int .i64 ex.num)] rfl rfl cf156 zN (c_impl_evaluation_constant _ S g vp dp (o) (s0 + 1) (c0) (p) _ (fun b hb => (by have := hS b hb; omega : b < w9.heap.size)) hgS hB9 (hp.chg (good_rdS (good_rFn dp)) (hE9.sub (subS hgS))) oM oM oM hex.rng.num) ?_)))
    rintro e12 w12 ⟨v12_0,rfl,hX12,hO12_0⟩
    refine ⟨_,rfl,hX12,?_⟩
    have hzs12:=hX12.size
    have hE12 : Chg [g] w w12 := hE9.ext hX12
    have hB9x12 := hB9.ext hX12
    have hF10x12 := hF10.ext hX12
    refine lw_tvn 1 rfl (wp_ret (b_ret (t_ret ?_)))
    exact post_ret [6] rfl v12_0 rfl ⟨v12_0,cst (o + 1) ex.num,s0 + 1,c0,rfl,hE12,hB9x12,(RN.of_fr1 hO12_0 (fun b hb => by have := hS b hb; omega)),z135_3,oM,oM,z135_1⟩
   ·
    refine q_eql false rfl rfl (decide_eq_false hc11) zN (lw_tvn 1 rfl (c_cond_f rfl (wp_seq (wp_plain _ [0,0] rfl ?_))))
    by_cases hc13 : ex.kind = ((2 :Nat):Int)
    ·
     refine q_eql true rfl rfl (decide_eq_true hc13) zN (lw_tvn 1 rfl (c_cond_t rfl (wp_seq (wp_plain _ [0,0,2,0,2,0] rfl ?_))))
     have hwk := wk_var hwf oM
     refine lw_tv 1 rfl (q_fldP (p := (.pointer (some ⟨w.heap.size,0,none⟩))) (b := w.heap.size) (o := 0) 1 fd94_1 rfl rfl zN (q_load (p := (padd (.pointer (some ⟨w.heap.size,0,none⟩)) 1)) (.inr rfl) (.int .i64 ex.num) one2 rfl (hF10.ldp (i := 1) sM) zN (q_idx (v := vv) ((ex.num).toNat) u27 ti25 rfl rfl henv.slL oM sD zN ?_)))
     obtain ⟨ue14,hl14,hr14⟩ := RN.getL (w := w) g1 [] (k := (ex.num).toNat) henv sD
     have hln14 := hr14.lenL
     unfold maxLen at hln14
     refine q_load (p := eptr vv ((ex.num).toNat) 1) (.inr rfl) ue14 one25 rfl (hl14 _ (hE9.sub (subS hgS))) zN (lw_tvn 1 rfl (wp_ret (b_ret (t_ret ?_))))
     exact post_ret [6] rfl ue14 rfl ⟨ue14,env.getD ((ex.num).toNat) [],s0 + 1,c0,rfl,hE9,hB9,(hr14.chg g1 (hE9.sub (subS hgS))),z135_3,oM,oM,z135_1⟩
    ·
     refine q_eql false rfl rfl (decide_eq_false hc13) zN (lw_tvn 1 rfl (c_cond_f rfl (wp_seq (wp_plain _ [0,0] rfl ?_))))
     by_cases hc15 : ex.kind = ((8 :Nat):Int)
     ·
      refine q_eql true rfl rfl (decide_eq_true hc15) zN (lw_tvn 1 rfl (c_cond_t rfl (wp_seq (wp_seq (wp_plain _ [0,0,2,0,2,0,4,0,2,0] rfl ?_)))))
      have hwk := wk_if hwf oM
      refine lw_tv 1 rfl (q_fldP (p := (.pointer (some ⟨w.heap.size,0,none⟩))) (b := w.heap.size) (o := 0) 4 fd94_4 rfl rfl zN (q_load (p := (padd (.pointer (some ⟨w.heap.size,0,none⟩)) 4)) (.inr rfl) ve one78 rfl (hF10.ldp (i := 4) sM) zN (q_idx (v := ve) 0 u78 tiS94 rfl rfl hex.rn.isSl rfl sD zN ?_)))
      obtain ⟨cs16,hr16,hl16⟩ := hex.rn.get (good_rEx dex) Ex.zero (k := 0) sD
      obtain ⟨dd16,ve16,hd16,rfl,hx16⟩ := RX.of hr16
      have hln16 := hx16.rn.lenle
      unfold maxLen at hln16
      refine q_loadA (p := eptr ve 0 5) (.inr rfl) [(.int .i64 ((ex.kids.getD 0 Ex.zero).kind)),(.int .i64 ((ex.kids.getD 0 Ex.zero).num)),(.int .i64 ((ex.kids.getD 0 Ex.zero).pick)),(.int .i64 ((ex.kids.getD 0 Ex.zero).count)),ve16] agg94 rfl (fun w9 hw9 => hl16 w9 ((hE9.sub (subS hgS)).ext hw9)) rfl zN (lw_tv 1 rfl ?_)
      refine lw_callE 135 [] [] [(.pointer (some ⟨g,0,none⟩)),(.agg #[(.int .i64 ((ex.kids.getD 0 Ex.zero).kind)),(.int .i64 ((ex.kids.getD 0 Ex.zero).num)),(.int .i64 ((ex.kids.getD 0 Ex.zero).pick)),(.int .i64 ((ex.kids.getD 0 Ex.zero).count)),ve16]),vv] rfl rfl cf135 zN (IH2 dd16 oM _ S g vp dp (o) (s0 + 1) (c0) (p) ve16 (ex.kids.getD 0 Ex.zero) vv (env) (fun b hb => (by have := hS b hb; omega : b < w9.heap.size)) hgS hB9 (hp.chg (good_rdS (good_rFn dp)) (hE9.sub (subS hgS))) oM oM oM ⟨hx16.rng,(hx16.rn.chg (good_rdS (good_rEx dd16)) (hE9.sub (subS hgS)))⟩ (henv.chg g2 (hE9.sub (subS hgS))) hqenv (by exact hvp) oM (by exact wf_at0 hwf oM oM) (by exact hse) (by have := kd_at (l := ex.kids) (k := 0) oM; omega)) ?_
      rintro e17 w17 ⟨v17,x17,s17,c17,rfl,hC17,hB17,hr17,hse17,hsb17,hcb17,hrl17⟩
      refine ⟨_,rfl,?_⟩
      have hzs17:=hC17.size
      have hE17 : Chg [g] w w17 := hE9.trans hC17
      have hF21 := hF10.chg hC17 (fun hm => by have := List.mem_singleton.1 hm; omega)
      have hsn17 := hse17.1
      refine q_idx (v := v17) 0 u25 ti2 rfl rfl hr17.slL rfl sD zN ?_
      have hg23 := RN.getI (w := w17) (k := 0) hr17 sD
      refine q_load (p := eptr v17 0 1) (.inr rfl) (.int .i64 (x17.getD 0 0)) one2 rfl (hg23.1 _ (Chg.refl _ _)) zN ?_
      by_cases hc24 : x17.getD 0 0 = ((0 :Nat):Int)
      ·
       refine q_eql true rfl rfl (decide_eq_true hc24) zN (lw_nil (c_cond_t rfl (wp_seq (wp_plain _ [0,0,2,0,2,0,4,0] rfl (lw_tv 1 rfl (q_fldP (p := (.pointer (some ⟨w.heap.size,0,none⟩))) (b := w.heap.size) (o := 0) 4 fd94_4 rfl rfl zN (q_load (p := (padd (.pointer (some ⟨w.heap.size,0,none⟩)) 4)) (.inr rfl) ve one78 rfl (hF21.ldp (i := 4) sM) zN (q_idx (v := ve) 1 u78 tiS94 rfl rfl hex.rn.isSl rfl sD zN ?_))))))))
       obtain ⟨cs25,hr25,hl25⟩ := hex.rn.get (good_rEx dex) Ex.zero (k := 1) sD
       obtain ⟨dd25,ve25,hd25,rfl,hx25⟩ := RX.of hr25
       have hln25 := hx25.rn.lenle
       unfold maxLen at hln25
       refine q_loadA (p := eptr ve 1 5) (.inr rfl) [(.int .i64 ((ex.kids.getD 1 Ex.zero).kind)),(.int .i64 ((ex.kids.getD 1 Ex.zero).num)),(.int .i64 ((ex.kids.getD 1 Ex.zero).pick)),(.int .i64 ((ex.kids.getD 1 Ex.zero).count)),ve25] agg94 rfl (fun w9 hw9 => hl25 w9 ((hE17.sub (subS hgS)).ext hw9)) rfl zN (lw_tv 1 rfl ?_)
       refine lw_callE 135 [] [] [(.pointer (some ⟨g,0,none⟩)),(.agg #[(.int .i64 ((ex.kids.getD 1 Ex.zero).kind)),(.int .i64 ((ex.kids.getD 1 Ex.zero).num)),(.int .i64 ((ex.kids.getD 1 Ex.zero).pick)),(.int .i64 ((ex.kids.getD 1 Ex.zero).count)),ve25]),vv] rfl rfl cf135 zN (IH2 dd25 oM _ S g vp dp (o) (s17) (c17) (p) ve25 (ex.kids.getD 1 Ex.zero) vv (env) (fun b hb => (by have := hS b hb; omega : b < w17.heap.size)) hgS hB17 (hp.chg (good_rdS (good_rFn dp)) (hE17.sub (subS hgS))) oM oM oM ⟨hx25.rng,(hx25.rn.chg (good_rdS (good_rEx dd25)) (hE17.sub (subS hgS)))⟩ (henv.chg g2 (hE17.sub (subS hgS))) hqenv (by exact hvp) oM (by exact wf_at0 hwf oM oM) (by exact hse) (by have := kd_at (l := ex.kids) (k := 1) oM; omega)) ?_
       rintro e26 w26 ⟨v26,x26,s26,c26,rfl,hC26,hB26,hr26,hse26,hsb26,hcb26,hrl26⟩
       refine ⟨_,rfl,?_⟩
       have hzs26:=hC26.size
       have hE26 : Chg [g] w w26 := hE17.trans hC26
       have hF30 := hF21.chg hC26 (fun hm => by have := List.mem_singleton.1 hm; omega)
       have hF32 := hr17.run g1 hgS hC26
       have hsn26 := hse26.1
       refine lw_tvn 1 rfl (wp_ret (t_ret (b_ret (t_ret ?_))))
       exact post_ret [6] rfl v26 rfl ⟨v26,x26,s26,c26,rfl,hE26,hB26,hr26,z135_3,oM,oM,(by first | exact rel_code oM | exact rel_budget oM oM | exact rel_num hc00 hs1 oM | exact rel_var hc00 hs1 oM | exact rel_if0 hc00 hs1 oM oM ‹RelV (go c0 (evE _ _ (ex.kids.getD 0 _) _ _)) _ _ _› oM (by assumption) | exact rel_if1 hc00 hs1 oM oM ‹RelV (go c0 (evE _ _ (ex.kids.getD 0 _) _ _)) _ _ _› oM (by assumption) | exact rel_let hc00 hs1 oM oM ‹RelV (go c0 (evE _ _ (ex.kids.getD 0 _) _ _)) _ _ _› (by assumption) | exact rel_kidsE hc00 hs1 hkg.1 hkg.2.1 hkg.2.2.1 hkg.2.2.2 hKr oM | exact rel_call hc00 hs1 oM oM hKr oM (by assumption) | exact rel_loop hc00 hs1 oM oM hKr oM (rel_stop hrl9 oM oM) | exact rel_op hc00 hs1 hkg.1 hkg.2.1 hkg.2.2.1 hkg.2.2.2 oM oM hKr oM (by rw [show c26 = 0 from by omega]; exact op_add oM) | exact rel_op hc00 hs1 hkg.1 hkg.2.1 hkg.2.2.1 hkg.2.2.2 oM oM hKr oM (by rw [show c26 = 0 from by omega]; exact op_sub oM) | exact rel_op hc00 hs1 hkg.1 hkg.2.1 hkg.2.2.1 hkg.2.2.2 oM oM hKr oM (by rw [show c26 = 0 from by omega]; exact op_mul oM) | exact rel_op hc00 hs1 hkg.1 hkg.2.1 hkg.2.2.1 hkg.2.2.2 oM oM hKr oM (by rw [show c26 = 0 from by omega]; exact op_neg oM) | exact rel_op hc00 hs1 hkg.1 hkg.2.1 hkg.2.2.1 hkg.2.2.2 oM oM hKr oM (by rw [show c26 = 0 from by omega]; exact op_div oM oM) | exact rel_op hc00 hs1 hkg.1 hkg.2.1 hkg.2.2.1 hkg.2.2.2 oM oM hKr oM (op_div0 oM oM))⟩
      ·
       refine q_eql false rfl rfl (decide_eq_false hc24) zN (lw_nil (c_cond_f rfl (wp_skip (wp_seq (wp_plain _ [0,0,2,0,2,0,4,0] rfl (lw_tv 1 rfl (q_fldP (p := (.pointer (some ⟨w.heap.size,0,none⟩))) (b := w.heap.size) (o := 0) 4 fd94_4 rfl rfl zN (q_load (p := (padd (.pointer (some ⟨w.heap.size,0,none⟩)) 4)) (.inr rfl) ve one78 rfl (hF21.ldp (i := 4) sM) zN (q_idx (v := ve) 2 u78 tiS94 rfl rfl hex.rn.isSl rfl sD zN ?_)))))))))
       obtain ⟨cs34,hr34,hl34⟩ := hex.rn.get (good_rEx dex) Ex.zero (k := 2) sD
       obtain ⟨dd34,ve34,hd34,rfl,hx34⟩ := RX.of hr34
       have hln34 := hx34.rn.lenle
       unfold maxLen at hln34
       refine q_loadA (p := eptr ve 2 5) (.inr rfl) [(.int .i64 ((ex.kids.getD 2 Ex.zero).kind)),(.int .i64 ((ex.kids.getD 2 Ex.zero).num)),(.int .i64 ((ex.kids.getD 2 Ex.zero).pick)),(.int .i64 ((ex.kids.getD 2 Ex.zero).count)),ve34] agg94 rfl (fun w9 hw9 => hl34 w9 ((hE17.sub (subS hgS)).ext hw9)) rfl zN (lw_tv 1 rfl ?_)
       refine lw_callE 135 [] [] [(.pointer (some ⟨g,0,none⟩)),(.agg #[(.int .i64 ((ex.kids.getD 2 Ex.zero).kind)),(.int .i64 ((ex.kids.getD 2 Ex.zero).num)),(.int .i64 ((ex.kids.getD 2 Ex.zero).pick)),(.int .i64 ((ex.kids.getD 2 Ex.zero).count)),ve34]),vv] rfl rfl cf135 zN (IH2 dd34 oM _ S g vp dp (o) (s17) (c17) (p) ve34 (ex.kids.getD 2 Ex.zero) vv (env) (fun b hb => (by have := hS b hb; omega : b < w17.heap.size)) hgS hB17 (hp.chg (good_rdS (good_rFn dp)) (hE17.sub (subS hgS))) oM oM oM ⟨hx34.rng,(hx34.rn.chg (good_rdS (good_rEx dd34)) (hE17.sub (subS hgS)))⟩ (henv.chg g2 (hE17.sub (subS hgS))) hqenv (by exact hvp) oM (by exact wf_at0 hwf oM oM) (by exact hse) (by have := kd_at (l := ex.kids) (k := 2) oM; omega)) ?_
       rintro e35 w35 ⟨v35,x35,s35,c35,rfl,hC35,hB35,hr35,hse35,hsb35,hcb35,hrl35⟩
       refine ⟨_,rfl,?_⟩
       have hzs35:=hC35.size
       have hE35 : Chg [g] w w35 := hE17.trans hC35
       have hF39 := hF21.chg hC35 (fun hm => by have := List.mem_singleton.1 hm; omega)
       have hF41 := hr17.run g1 hgS hC35
       have hsn35 := hse35.1
       refine lw_tvn 1 rfl (wp_ret (b_ret (t_ret ?_)))
       exact post_ret [6] rfl v35 rfl ⟨v35,x35,s35,c35,rfl,hE35,hB35,hr35,z135_3,oM,oM,(by first | exact rel_code oM | exact rel_budget oM oM | exact rel_num hc00 hs1 oM | exact rel_var hc00 hs1 oM | exact rel_if0 hc00 hs1 oM oM ‹RelV (go c0 (evE _ _ (ex.kids.getD 0 _) _ _)) _ _ _› oM (by assumption) | exact rel_if1 hc00 hs1 oM oM ‹RelV (go c0 (evE _ _ (ex.kids.getD 0 _) _ _)) _ _ _› oM (by assumption) | exact rel_let hc00 hs1 oM oM ‹RelV (go c0 (evE _ _ (ex.kids.getD 0 _) _ _)) _ _ _› (by assumption) | exact rel_kidsE hc00 hs1 hkg.1 hkg.2.1 hkg.2.2.1 hkg.2.2.2 hKr oM | exact rel_call hc00 hs1 oM oM hKr oM (by assumption) | exact rel_loop hc00 hs1 oM oM hKr oM (rel_stop hrl9 oM oM) | exact rel_op hc00 hs1 hkg.1 hkg.2.1 hkg.2.2.1 hkg.2.2.2 oM oM hKr oM (by rw [show c35 = 0 from by omega]; exact op_add oM) | exact rel_op hc00 hs1 hkg.1 hkg.2.1 hkg.2.2.1 hkg.2.2.2 oM oM hKr oM (by rw [show c35 = 0 from by omega]; exact op_sub oM) | exact rel_op hc00 hs1 hkg.1 hkg.2.1 hkg.2.2.1 hkg.2.2.2 oM oM hKr oM (by rw [show c35 = 0 from by omega]; exact op_mul oM) | exact rel_op hc00 hs1 hkg.1 hkg.2.1 hkg.2.2.1 hkg.2.2.2 oM oM hKr oM (by rw [show c35 = 0 from by omega]; exact op_neg oM) | exact rel_op hc00 hs1 hkg.1 hkg.2.1 hkg.2.2.1 hkg.2.2.2 oM oM hKr oM (by rw [show c35 = 0 from by omega]; exact op_div oM oM) | exact rel_op hc00 hs1 hkg.1 hkg.2.1 hkg.2.2.1 hkg.2.2.2 oM oM hKr oM (op_div0 oM oM))⟩
     ·
      refine q_eql false rfl rfl (decide_eq_false hc15) zN (lw_tvn 1 rfl (c_cond_f rfl (wp_seq (wp_plain _ [0,0] rfl ?_))))
      by_cases hc43 : ex.kind = ((9 :Nat):Int)
      ·
       refine q_eql true rfl rfl (decide_eq_true hc43) zN (lw_tvn 1 rfl (c_cond_t rfl (wp_seq ?_)))
       letI : JR := jrC [g]
       refine Jx.wp_draw _ [0,0,1,0,1,0,0,0,0,1,0,1,0,3,3,3,3,0] mixed (by kernel_rfl) ?_
       have hwk := wk_let hwf oM
       refine Jx.q_move (.pointer (some ⟨g,0,none⟩)) rfl zN (Jx.q_fldP (p := (.pointer (some ⟨w.heap.size,0,none⟩))) (b := w.heap.size) (o := 0) 4 fd94_4 rfl rfl zN (Jx.q_loadJ (p := (padd (.pointer (some ⟨w.heap.size,0,none⟩)) 4)) ve one78 rfl (fun wj hj => (BX.chg (w := w9.drew) (F := [g]) hF10 hj (fun hm => by have := List.mem_singleton.1 hm; omega)).ldp (i := 4) sM) zN (Jx.q_idx (v := ve) 1 u78 tiS94 rfl rfl hex.rn.isSl rfl sD zN ?_)))
       obtain ⟨cs44,hr44,hl44⟩ := hex.rn.get (good_rEx dex) Ex.zero (k := 1) sD
       obtain ⟨dd44,ve44,hd44,rfl,hx44⟩ := RX.of hr44
       have hln44 := hx44.rn.lenle
       unfold maxLen at hln44
       refine Jx.q_loadAJ (p := eptr ve 1 5) [(.int .i64 ((ex.kids.getD 1 Ex.zero).kind)),(.int .i64 ((ex.kids.getD 1 Ex.zero).num)),(.int .i64 ((ex.kids.getD 1 Ex.zero).pick)),(.int .i64 ((ex.kids.getD 1 Ex.zero).count)),ve44] agg94 rfl (fun wj hj => hl44 wj (Chg.trans (hE9.drew.sub (subS hgS)) (Chg.sub (show Chg [g] w9.drew wj from hj) (subS hgS)))) rfl zN (Jx.q_move vv rfl zN (Jx.lw_callq 157 [] [] [vv] rfl rfl cf157 zN (clipV vv) (fun wq => c_slices_Clip_____int64___int64_ wq vv _ henv.slL hqenv) (Jx.q_move (.pointer (some ⟨g,0,none⟩)) rfl zN (Jx.q_fldP (p := (.pointer (some ⟨w.heap.size,0,none⟩))) (b := w.heap.size) (o := 0) 4 fd94_4 rfl rfl zN ?_))))
       refine Jx.q_loadJ (p := (padd (.pointer (some ⟨w.heap.size,0,none⟩)) 4)) ve one78 rfl (fun wj hj => (BX.chg (w := w9.drew) (F := [g]) hF10 hj (fun hm => by have := List.mem_singleton.1 hm; omega)).ldp (i := 4) sM) zN (Jx.q_idx (v := ve) 0 u78 tiS94 rfl rfl hex.rn.isSl rfl sD zN ?_)
       obtain ⟨cs45,hr45,hl45⟩ := hex.rn.get (good_rEx dex) Ex.zero (k := 0) sD
       obtain ⟨dd45,ve45,hd45,rfl,hx45⟩ := RX.of hr45
       have hln45 := hx45.rn.lenle
       unfold maxLen at hln45
       refine Jx.q_loadAJ (p := eptr ve 0 5) [(.int .i64 ((ex.kids.getD 0 Ex.zero).kind)),(.int .i64 ((ex.kids.getD 0 Ex.zero).num)),(.int .i64 ((ex.kids.getD 0 Ex.zero).pick)),(.int .i64 ((ex.kids.getD 0 Ex.zero).count)),ve45] agg94 rfl (fun wj hj => hl45 wj (Chg.trans (hE9.drew.sub (subS hgS)) (Chg.sub (show Chg [g] w9.drew wj from hj) (subS hgS)))) rfl zN (Jx.q_move vv rfl zN ?_)
       refine Jx.lw_call 135 [] [] [(.pointer (some ⟨g,0,none⟩)),(.agg #[(.int .i64 ((ex.kids.getD 0 Ex.zero).kind)),(.int .i64 ((ex.kids.getD 0 Ex.zero).num)),(.int .i64 ((ex.kids.getD 0 Ex.zero).pick)),(.int .i64 ((ex.kids.getD 0 Ex.zero).count)),ve45]),vv] rfl rfl cf135 zN (IH2 dd45 oM _ S g vp dp (o) (s0 + 1) (c0) (p) ve45 (ex.kids.getD 0 Ex.zero) vv (env) (fun b hb => (by have := hS b hb; omega : b < w9.heap.size)) hgS hB9 (hp.chg (good_rdS (good_rFn dp)) (hE9.drew.sub (subS hgS))) oM oM oM ⟨hx45.rng,(hx45.rn.chg (good_rdS (good_rEx dd45)) (hE9.drew.sub (subS hgS)))⟩ (henv.chg g2 (hE9.drew.sub (subS hgS))) hqenv (by exact hvp) oM (by exact wf_at0 hwf oM oM) (by exact hse) (by have := kd_at (l := ex.kids) (k := 0) oM; omega)) ?_
       rintro e46 w46 ⟨v46,x46,s46,c46,rfl,hC46,hB46,hr46,hse46,hsb46,hcb46,hrl46⟩
       refine ⟨_,rfl,hC46,?_⟩
       replace hC46 := hC46.of_drew
       have hzs46:=hC46.size
       have hE46 : Chg [g] w w46 := hE9.trans hC46
       have hF50 := hF10.chg hC46 (fun hm => by have := List.mem_singleton.1 hm; omega)
       have hsn46 := hse46.1
       refine Jx.r_one (u := v46) (B := w46.heap.size) good_rV u27 ti25 rfl rfl (frV w46.heap.size w46.heap.size _ (hr46.one1 g1)) (Nat.le_refl _) zN fun v53 w53 hX53 hz53 hO53 => ?_
       have hzs53:=hX53.size
       have hE53 : Chg [g] w w53 := hE46.ext hX53
       have hB46x53 := hB46.ext hX53
       have hF50x53 := hF50.ext hX53
       have hN54 := hr46.ext g1 hX53
       refine Jx.e_appC (v := vv) (a := v53) (u := v46) u27 ti25 rfl rfl rfl (henv.chg g2 (hE53.sub (subS hgS))) hO53 hN54 (fun b hb => (by have := hS b hb; omega : b < w53.heap.size)) sD (by unfold maxLen; first | omega | assumption | (simp; done) | (simp; omega)) zN fun v55 w55 hX55 hr55 hcp55 => ?_
       have hzs55:=hX55.size
       have hE55 : Chg [g] w w55 := hE53.ext hX55
       have hB46x55 := hB46x53.ext hX55
       have hF50x55 := hF50x53.ext hX55
       have hN56 := hN54.ext g1 hX55
       refine Jx.lw_call 135 [] [] [(.pointer (some ⟨g,0,none⟩)),(.agg #[(.int .i64 ((ex.kids.getD 1 Ex.zero).kind)),(.int .i64 ((ex.kids.getD 1 Ex.zero).num)),(.int .i64 ((ex.kids.getD 1 Ex.zero).pick)),(.int .i64 ((ex.kids.getD 1 Ex.zero).count)),ve44]),v55] rfl rfl cf135 zN (IH2 dd44 oM _ S g vp dp (o) (s46) (c46) (p) ve44 (ex.kids.getD 1 Ex.zero) v55 (env ++ [x46]) (fun b hb => (by have := hS b hb; omega : b < w55.heap.size)) hgS hB46x55 (hp.chg (good_rdS (good_rFn dp)) (hE55.sub (subS hgS))) oM oM oM ⟨hx44.rng,(hx44.rn.chg (good_rdS (good_rEx dd44)) (hE55.sub (subS hgS)))⟩ hr55 hcp55 (by exact hvp) oM (by have h9 := wf_at1 hwf oM oM; rw [List.length_append,List.length_singleton]; exact h9) (by exact hse.snoc (by assumption)) (by have := kd_at (l := ex.kids) (k := 1) oM; rw [List.length_append,List.length_singleton]; omega)) ?_
       rintro e57 w57 ⟨v57,x57,s57,c57,rfl,hC57,hB57,hr57,hse57,hsb57,hcb57,hrl57⟩
       refine ⟨_,rfl,hC57,?_⟩
       have hzs57:=hC57.size
       have hE57 : Chg [g] w w57 := hE55.trans hC57
       have hF61 := hF50x55.chg hC57 (fun hm => by have := List.mem_singleton.1 hm; omega)
       have hF64 := hN56.run g1 hgS hC57
       have hF65 := hr55.run g2 hgS hC57
       have hsn57 := hse57.1
       refine Jx.q_assign v57 rfl zN (Jx.lw_nil (wp_ret (b_ret (t_ret ?_))))
       exact post_ret [6] rfl v57 rfl ⟨v57,x57,s57,c57,rfl,hE57,hB57,hr57,z135_3,oM,oM,(by first | exact rel_code oM | exact rel_budget oM oM | exact rel_num hc00 hs1 oM | exact rel_var hc00 hs1 oM | exact rel_if0 hc00 hs1 oM oM ‹RelV (go c0 (evE _ _ (ex.kids.getD 0 _) _ _)) _ _ _› oM (by assumption) | exact rel_if1 hc00 hs1 oM oM ‹RelV (go c0 (evE _ _ (ex.kids.getD 0 _) _ _)) _ _ _› oM (by assumption) | exact rel_let hc00 hs1 oM oM ‹RelV (go c0 (evE _ _ (ex.kids.getD 0 _) _ _)) _ _ _› (by assumption) | exact rel_kidsE hc00 hs1 hkg.1 hkg.2.1 hkg.2.2.1 hkg.2.2.2 hKr oM | exact rel_call hc00 hs1 oM oM hKr oM (by assumption) | exact rel_loop hc00 hs1 oM oM hKr oM (rel_stop hrl9 oM oM) | exact rel_op hc00 hs1 hkg.1 hkg.2.1 hkg.2.2.1 hkg.2.2.2 oM oM hKr oM (by rw [show c57 = 0 from by omega]; exact op_add oM) | exact rel_op hc00 hs1 hkg.1 hkg.2.1 hkg.2.2.1 hkg.2.2.2 oM oM hKr oM (by rw [show c57 = 0 from by omega]; exact op_sub oM) | exact rel_op hc00 hs1 hkg.1 hkg.2.1 hkg.2.2.1 hkg.2.2.2 oM oM hKr oM (by rw [show c57 = 0 from by omega]; exact op_mul oM) | exact rel_op hc00 hs1 hkg.1 hkg.2.1 hkg.2.2.1 hkg.2.2.2 oM oM hKr oM (by rw [show c57 = 0 from by omega]; exact op_neg oM) | exact rel_op hc00 hs1 hkg.1 hkg.2.1 hkg.2.2.1 hkg.2.2.2 oM oM hKr oM (by rw [show c57 = 0 from by omega]; exact op_div oM oM) | exact rel_op hc00 hs1 hkg.1 hkg.2.1 hkg.2.2.1 hkg.2.2.2 oM oM hKr oM (op_div0 oM oM))⟩
      ·
       refine q_eql false rfl rfl (decide_eq_false hc43) zN (lw_tvn 1 rfl (c_cond_f rfl (wp_skip (wp_seq (wp_plain _ [0,0,2,0,4,0] rfl ?_)))))
       have hkg : ex.kind ≠ 1 ∧ ex.kind ≠ 2 ∧ ex.kind ≠ 8 ∧ ex.kind ≠ 9 := by omega
       have hk6 := wk_len hwf hvp hF
       refine lw_tv 1 rfl (q_fldP (p := (.pointer (some ⟨w.heap.size,0,none⟩))) (b := w.heap.size) (o := 0) 4 fd94_4 rfl rfl zN (q_load (p := (padd (.pointer (some ⟨w.heap.size,0,none⟩)) 4)) (.inr rfl) ve one78 rfl (hF10.ldp (i := 4) sM) zN (lw_tv 1 rfl ?_)))
       refine lw_callE 104 [] [] [(.pointer (some ⟨g,0,none⟩)),ve,vv] rfl rfl cf104 zN (c_all F dex (fun d9 h9 => IH2 d9 oM) _ S g vp dp (o) (s0 + 1) (c0) (p) ve (ex.kids) vv (env) (fun b hb => (by have := hS b hb; omega : b < w9.heap.size)) hgS hB9 (hp.chg (good_rdS (good_rFn dp)) (hE9.sub (subS hgS))) oM oM oM (hex.rn.chg (good_rdS (good_rEx dex)) (hE9.sub (subS hgS))) (henv.chg g2 (hE9.sub (subS hgS))) hqenv (by exact hvp) oM (by intro k hk; exact wf_at0 hwf hk oM) (by exact hse) (by intro k hk; have := kd_at (l := ex.kids) (k := k) hk; omega) oM) ?_
       rintro e66 w66 ⟨v66,x66,s66,c66,rfl,hC66,hB66,hr66,hse66,hsb66,hcb66,hrl66⟩
       refine ⟨_,rfl,?_⟩
       have hzs66:=hC66.size
       have hE66 : Chg [g] w w66 := hE9.trans hC66
       have hF70 := hF10.chg hC66 (fun hm => by have := List.mem_singleton.1 hm; omega)
       have hsn66 := hse66.2.1
       have hsr66 := hse66.2.2
       have hcp66 := hse66.1
       have hK := hse66.2.2
       have hKr := hrl66
       refine lw_tvn 1 rfl (wp_seq (wp_seq (wp_plain _ [0,0,0,2,0] rfl (lw_tv 1 rfl (q_nil rfl zN (q_fldP (p := (.pointer (some ⟨g,0,none⟩))) (b := g) (o := 0) 3 fd128_3 rfl rfl zN (q_load (p := (padd (.pointer (some ⟨g,0,none⟩)) 3)) (.inr rfl) (.int .i64 c66) one2 rfl (hB66.ldp (i := 3) sM) zN ?_)))))))
       by_cases hc71 : c66 ≠ ((0 :Nat):Int)
       ·
        refine q_neq true rfl rfl (decide_eq_true hc71) zN (lw_nil (c_cond_t rfl (wp_seq (wp_plain _ [0,3,0] rfl (lw_tv 1 rfl (lw_call 156 [] [] [(.pointer (some ⟨g,0,none⟩)),(.int .i64 ((0 :Nat):Int))] rfl rfl cf156 zN (c_impl_evaluation_constant _ S g vp dp (o) (s66) (c66) (p) _ (fun b hb => (by have := hS b hb; omega : b < w66.heap.size)) hgS hB66 (hp.chg (good_rdS (good_rFn dp)) (hE66.sub (subS hgS))) oM oM oM oM) ?_))))))
        rintro e72 w72 ⟨v72_0,rfl,hX72,hO72_0⟩
        refine ⟨_,rfl,hX72,?_⟩
        have hzs72:=hX72.size
        have hE72 : Chg [g] w w72 := hE66.ext hX72
        have hB66x72 := hB66.ext hX72
        have hF70x72 := hF70.ext hX72
        have hN73 := hr66.ext g2 hX72
        refine lw_tvn 1 rfl (wp_ret (t_ret ?_))
        exact post_ret [6] rfl v72_0 rfl ⟨v72_0,cst (o + 1) ((0 :Nat):Int),s66,c66,rfl,hE72,hB66x72,(RN.of_fr1 hO72_0 (fun b hb => by have := hS b hb; omega)),z135_3,oM,oM,z135_0⟩
       ·
        refine q_neq false rfl rfl (decide_eq_false hc71) zN (lw_nil (c_cond_f rfl (wp_skip (wp_seq (wp_seq (wp_plain _ [0,2] rfl (q_fldP (p := (.pointer (some ⟨w.heap.size,0,none⟩))) (b := w.heap.size) (o := 0) 0 fd94_0 rfl rfl zN (q_load (p := (padd (.pointer (some ⟨w.heap.size,0,none⟩)) 0)) (.inr rfl) (.int .i64 ex.kind) one2 rfl (hF70.ldp (i := 0) sM) zN (lw_nil (wp_block (wp_seq (wp_plain _ [0,0] rfl ?_))))))))))))
        by_cases hc74 : ex.kind = ((10 :Nat):Int)
        ·
         refine q_eql true rfl rfl (decide_eq_true hc74) zN (lw_tvn 1 rfl (c_cond_t rfl (wp_seq (wp_draw _ [0,0,0,0,0,1,0,1,0,0,1,0,1,0,1,0,4,0] mixed (by kernel_rfl) ?_))))
         have hwk := wk_call hwf oM
         refine lw_tv 2 rfl ?_
         have hvo := hvp.outs (ex.num).toNat oM
         have hvd := hvp.deep (ex.num).toNat oM (ex.pick).toNat oM
         refine q_nil rfl zN (q_fldP (p := (.pointer (some ⟨g,0,none⟩))) (b := g) (o := 0) 0 fd128_0 rfl rfl zN (q_fldP (p := (padd (.pointer (some ⟨g,0,none⟩)) 0)) (b := g) (o := 0) 0 fd32_0 rfl rfl zN (q_load (p := (padd (padd (.pointer (some ⟨g,0,none⟩)) 0) 0)) (.inl rfl) vp one30 rfl (hB66.ldp (i := 0) sM) zN (q_fldP (p := (.pointer (some ⟨w.heap.size,0,none⟩))) (b := w.heap.size) (o := 0) 1 fd94_1 rfl rfl zN (q_load (p := (padd (.pointer (some ⟨w.heap.size,0,none⟩)) 1)) (.inl rfl) (.int .i64 ex.num) one2 rfl (hF70.ldp (i := 1) sM) zN ?_)))))
         refine q_idx (v := vp) ((ex.num).toNat) u30 tiS80 rfl rfl hp.isSl oM sD zN ?_
         obtain ⟨cs75,hr75,hl75⟩ := hp.get (good_rFn dp) Fn.zero (k := ((ex.num).toNat)) sD
         obtain ⟨ve75,rfl,hx75⟩ := RF.of hr75
         have hln75 := hx75.rn.lenle
         unfold maxLen at hln75
         refine q_fldL (p := eptr vp ((ex.num).toNat) 3) 2 fd80_2 rfl (hl75 _ (hE66.drew.sub (subS hgS))) zN (q_load (p := (padd (eptr vp ((ex.num).toNat) 3) 2)) (.inl rfl) ve75 one78 rfl ((hl75 _ (hE66.drew.sub (subS hgS))).ld (i := 2) (by simp [exC,fnC])) zN (q_fldP (p := (.pointer (some ⟨w.heap.size,0,none⟩))) (b := w.heap.size) (o := 0) 2 fd94_2 rfl rfl zN (q_load (p := (padd (.pointer (some ⟨w.heap.size,0,none⟩)) 2)) (.inl rfl) (.int .i64 ex.pick) one2 rfl (hF70.ldp (i := 2) sM) zN ?_)))
         refine q_idx (v := ve75) ((ex.pick).toNat) u78 tiS94 rfl rfl hx75.rn.isSl oM sD zN ?_
         obtain ⟨cs76,hr76,hl76⟩ := hx75.rn.get (good_rEx dp) Ex.zero (k := ((ex.pick).toNat)) sD
         obtain ⟨dd76,ve76,hd76,rfl,hx76⟩ := RX.of hr76
         have hln76 := hx76.rn.lenle
         unfold maxLen at hln76
         refine q_loadA (p := eptr ve75 ((ex.pick).toNat) 5) (.inl rfl) [(.int .i64 ((((p.getD ((ex.num).toNat) Fn.zero).outs).getD ((ex.pick).toNat) Ex.zero).kind)),(.int .i64 ((((p.getD ((ex.num).toNat) Fn.zero).outs).getD ((ex.pick).toNat) Ex.zero).num)),(.int .i64 ((((p.getD ((ex.num).toNat) Fn.zero).outs).getD ((ex.pick).toNat) Ex.zero).pick)),(.int .i64 ((((p.getD ((ex.num).toNat) Fn.zero).outs).getD ((ex.pick).toNat) Ex.zero).count)),ve76] agg94 rfl (fun w9 hw9 => hl76 w9 ((hE66.drew.sub (subS hgS)).ext hw9)) rfl zN (lw_tv 1 rfl ?_)
         refine lw_callE 135 [] [] [(.pointer (some ⟨g,0,none⟩)),(.agg #[(.int .i64 ((((p.getD ((ex.num).toNat) Fn.zero).outs).getD ((ex.pick).toNat) Ex.zero).kind)),(.int .i64 ((((p.getD ((ex.num).toNat) Fn.zero).outs).getD ((ex.pick).toNat) Ex.zero).num)),(.int .i64 ((((p.getD ((ex.num).toNat) Fn.zero).outs).getD ((ex.pick).toNat) Ex.zero).pick)),(.int .i64 ((((p.getD ((ex.num).toNat) Fn.zero).outs).getD ((ex.pick).toNat) Ex.zero).count)),ve76]),v66] rfl rfl cf135 zN (IH1 (ex.num).toNat oM dd76 _ S g vp dp (o) (s66) (c66) (p) ve76 (((p.getD ((ex.num).toNat) Fn.zero).outs).getD ((ex.pick).toNat) Ex.zero) v66 (x66) (fun b hb => (by have := hS b hb; omega : b < w66.heap.size)) hgS hB66 (hp.chg (good_rdS (good_rFn dp)) (hE66.drew.sub (subS hgS))) oM oM oM ⟨hx76.rng,(hx76.rn.chg (good_rdS (good_rEx dd76)) (hE66.drew.sub (subS hgS)))⟩ hr66 hse66.1 (by exact hvp) oM (by have h9 := hvp.wf (ex.num).toNat oM (ex.pick).toNat oM; rw [show ((x66.length :Nat):Int) = (p.getD (ex.num).toNat Fn.zero).params from by omega]; exact h9) (by exact hK) oM) ?_
         rintro e77 w77 ⟨v77,x77,s77,c77,rfl,hC77,hB77,hr77,hse77,hsb77,hcb77,hrl77⟩
         refine ⟨_,rfl,?_⟩
         replace hC77 := hC77.of_drew
         have hzs77:=hC77.size
         have hE77 : Chg [g] w w77 := hE66.trans hC77
         have hF81 := hF70.chg hC77 (fun hm => by have := List.mem_singleton.1 hm; omega)
         have hF82 := hr66.run g2 hgS hC77
         have hsn77 := hse77.1
         refine lw_tvn 1 rfl (wp_ret (b_ret (t_ret ?_)))
         exact post_ret [6] rfl v77 rfl ⟨v77,x77,s77,c77,rfl,hE77,hB77,hr77,z135_3,oM,oM,(by first | exact rel_code oM | exact rel_budget oM oM | exact rel_num hc00 hs1 oM | exact rel_var hc00 hs1 oM | exact rel_if0 hc00 hs1 oM oM ‹RelV (go c0 (evE _ _ (ex.kids.getD 0 _) _ _)) _ _ _› oM (by assumption) | exact rel_if1 hc00 hs1 oM oM ‹RelV (go c0 (evE _ _ (ex.kids.getD 0 _) _ _)) _ _ _› oM (by assumption) | exact rel_let hc00 hs1 oM oM ‹RelV (go c0 (evE _ _ (ex.kids.getD 0 _) _ _)) _ _ _› (by assumption) | exact rel_kidsE hc00 hs1 hkg.1 hkg.2.1 hkg.2.2.1 hkg.2.2.2 hKr oM | exact rel_call hc00 hs1 oM oM hKr oM (by assumption) | exact rel_loop hc00 hs1 oM oM hKr oM (rel_stop hrl9 oM oM) | exact rel_op hc00 hs1 hkg.1 hkg.2.1 hkg.2.2.1 hkg.2.2.2 oM oM hKr oM (by rw [show c77 = 0 from by omega]; exact op_add oM) | exact rel_op hc00 hs1 hkg.1 hkg.2.1 hkg.2.2.1 hkg.2.2.2 oM oM hKr oM (by rw [show c77 = 0 from by omega]; exact op_sub oM) | exact rel_op hc00 hs1 hkg.1 hkg.2.1 hkg.2.2.1 hkg.2.2.2 oM oM hKr oM (by rw [show c77 = 0 from by omega]; exact op_mul oM) | exact rel_op hc00 hs1 hkg.1 hkg.2.1 hkg.2.2.1 hkg.2.2.2 oM oM hKr oM (by rw [show c77 = 0 from by omega]; exact op_neg oM) | exact rel_op hc00 hs1 hkg.1 hkg.2.1 hkg.2.2.1 hkg.2.2.2 oM oM hKr oM (by rw [show c77 = 0 from by omega]; exact op_div oM oM) | exact rel_op hc00 hs1 hkg.1 hkg.2.1 hkg.2.2.1 hkg.2.2.2 oM oM hKr oM (op_div0 oM oM))⟩
        ·
         refine q_eql false rfl rfl (decide_eq_false hc74) zN (lw_tvn 1 rfl (c_cond_f rfl (wp_seq (wp_plain _ [0,0] rfl ?_))))
         by_cases hc85 : ex.kind = ((11 :Nat):Int)
         ·
          refine q_eql true rfl rfl (decide_eq_true hc85) zN (lw_tvn 1 rfl (c_cond_t rfl (wp_seq (wp_seq (wp_plain _ [0] rfl ?_)))))
          have hwk := wk_call hwf oM
          have hwl := wk_loop hwf oM
          refine lw_tvn 1 rfl (wp_block ?_)
          refine c_loop (S := Nat × Value × List (List Int) × Nat × Int) (fun (⟨i,vk,ks,s9,c9⟩ : Nat × Value × List (List Int) × Nat × Int) => ([(7,vk),(8,(.int .i64 ((i :Nat):Int))),(0,(.pointer (some ⟨g,0,none⟩))),(4,(.pointer (some ⟨w.heap.size,0,none⟩)))] : List (Nat × Value))) (fun (⟨i,vk,ks,s9,c9⟩ : Nat × Value × List (List Int) × Nat × Int) (W : World) => Chg [g] w W ∧ BX W.heap g [vp,.int .i64 ((o :Nat):Int),.int .i64 ((s9 :Nat):Int),.int .i64 c9] ∧ BX W.heap w.heap.size [(.int .i64 ex.kind),(.int .i64 ex.num),(.int .i64 ex.pick),(.int .i64 ex.count),ve] ∧ i ≤ (ex.count).toNat ∧ RN S (rdL (rdL rI)) W.heap vk ks ∧ CapS vk ∧ ks.length = (p.getD (ex.num).toNat Fn.zero).outs.length ∧ SrE (o + 1) ks ∧ s9 ≤ 3000 ∧ (0 ≤ c9 ∧ c9 ≤ 9) ∧ RelV (lop (fun a t => evs (o + 1) (evC p (o + 1) (ex.num).toNat) (p.getD (ex.num).toNat Fn.zero).outs a t) i x66 s66) ks s9 c9) (fun (⟨i,vk,ks,s9,c9⟩ : Nat × Value × List (List Int) × Nat × Int) => (ex.count).toNat - i) (0,v66,x66,s66,c66) ⟨rfl,rfl,rfl,rfl,trivial⟩ ⟨hE66,hB66,hF70,oM,(by assumption),(by assumption),oM,(by assumption),oM,oM,(by exact ⟨rfl,rfl,by omega⟩)⟩ ?_
          clear hE0 hz1 hX1 hzs1 hE1 hz9 hC9 hE9 hzs9 hF10 hC66 hzs66 hE66 hF70
          rintro ⟨i,vk,ks,s9,c9⟩ ρ86 w86 ⟨hE86,hL86_0,hL86_1,hp86_0,hrk,hck,hkl,hks,hp86_5,hp86_6,hrl9⟩
          have hzs86 : w.heap.size ≤ w86.heap.size := hE86.size
          have hq87 := hL86_0.lt
          have hq88 := hL86_1.lt
          refine wp_seq (wp_seq (wp_plain _ [0,0,2,0,0,0,0,0,2,0,0] rfl (lw_tv 1 rfl (q_fldP (p := (.pointer (some ⟨w.heap.size,0,none⟩))) (b := w.heap.size) (o := 0) 3 fd94_3 rfl rfl zN (q_load (p := (padd (.pointer (some ⟨w.heap.size,0,none⟩)) 3)) (.inr rfl) (.int .i64 ex.count) one2 rfl (hL86_1.ldp (i := 3) sM) zN ?_)))))
          by_cases hc89 : ((i :Nat):Int) < ex.count
          ·
           refine q_lss true rfl rfl (decide_eq_true hc89) zN (lw_tv 2 rfl (q_nil rfl (zS (e := 132) rfl rfl rfl) (q_fldP (p := (.pointer (some ⟨g,0,none⟩))) (b := g) (o := 0) 3 fd128_3 rfl rfl (zS (e := 132) rfl rfl rfl) (q_load (p := (padd (.pointer (some ⟨g,0,none⟩)) 3)) (.inr rfl) (.int .i64 c9) one2 rfl (hL86_0.ldp (i := 3) sM) (zS (e := 132) rfl rfl rfl) ?_))))
           by_cases hc90 : c9 = ((0 :Nat):Int)
           ·
            refine q_eql true rfl rfl (decide_eq_true hc90) (zS (e := 132) rfl rfl rfl) (lw_tvn 1 rfl (c_cond_t rfl (wp_skip (wp_seq (wp_block (wp_draw _ [0,0,0,0,0,1,0,1,0,0,1,0,4,0] mixed (by kernel_rfl) (lw_tv 2 rfl ?_)))))))
            have hvo := hvp.outs (ex.num).toNat oM
            refine q_nil rfl zN (q_fldP (p := (.pointer (some ⟨g,0,none⟩))) (b := g) (o := 0) 0 fd128_0 rfl rfl zN (q_fldP (p := (padd (.pointer (some ⟨g,0,none⟩)) 0)) (b := g) (o := 0) 0 fd32_0 rfl rfl zN (q_load (p := (padd (padd (.pointer (some ⟨g,0,none⟩)) 0) 0)) (.inl rfl) vp one30 rfl (hL86_0.ldp (i := 0) sM) zN (q_fldP (p := (.pointer (some ⟨w.heap.size,0,none⟩))) (b := w.heap.size) (o := 0) 1 fd94_1 rfl rfl zN (q_load (p := (padd (.pointer (some ⟨w.heap.size,0,none⟩)) 1)) (.inl rfl) (.int .i64 ex.num) one2 rfl (hL86_1.ldp (i := 1) sM) zN ?_)))))
            refine q_idx (v := vp) ((ex.num).toNat) u30 tiS80 rfl rfl hp.isSl oM sD zN ?_
            obtain ⟨cs91,hr91,hl91⟩ := hp.get (good_rFn dp) Fn.zero (k := ((ex.num).toNat)) sD
            obtain ⟨ve91,rfl,hx91⟩ := RF.of hr91
            have hln91 := hx91.rn.lenle
            unfold maxLen at hln91
            refine q_fldL (p := eptr vp ((ex.num).toNat) 3) 2 fd80_2 rfl (hl91 _ (hE86.drew.sub (subS hgS))) zN (q_load (p := (padd (eptr vp ((ex.num).toNat) 3) 2)) (.inl rfl) ve91 one78 rfl ((hl91 _ (hE86.drew.sub (subS hgS))).ld (i := 2) (by simp [exC,fnC])) zN (lw_tv 1 rfl ?_))
            refine lw_callE 104 [] [] [(.pointer (some ⟨g,0,none⟩)),ve91,vk] rfl rfl cf104 zN (c_all (ex.num).toNat dp (fun d9 h9 => IH1 (ex.num).toNat oM d9) _ S g vp dp (o) (s9) (c9) (p) ve91 ((p.getD ((ex.num).toNat) Fn.zero).outs) vk (ks) (fun b hb => (by have := hS b hb; omega : b < w86.heap.size)) hgS hL86_0 (hp.chg (good_rdS (good_rFn dp)) (hE86.drew.sub (subS hgS))) oM oM oM (hx91.rn.chg (good_rdS (good_rEx dp)) (hE86.drew.sub (subS hgS))) hrk hck (by exact hvp) oM (by intro k hk; have h9 := hvp.wf (ex.num).toNat oM k hk; rw [show ((ks.length :Nat):Int) = (p.getD (ex.num).toNat Fn.zero).params from by omega]; exact h9) (by exact hks) (by intro k hk; have := hvp.deep (ex.num).toNat oM k hk; omega) oM) ?_
            rintro e92 w92 ⟨v92,x92,s92,c92,rfl,hC92,hB92,hr92,hse92,hsb92,hcb92,hrl92⟩
            refine ⟨_,rfl,?_⟩
            replace hC92 := hC92.of_drew
            have hzs92:=hC92.size
            have hE92 : Chg [g] w w92 := hE86.trans hC92
            have hF96 := hL86_1.chg hC92 (fun hm => by have := List.mem_singleton.1 hm; omega)
            have hF97 := hrk.run g2 hgS hC92
            have hsn92 := hse92.2.1
            have hsr92 := hse92.2.2
            have hcp92 := hse92.1
            exact lw_tvn 1 rfl (wp_plain _ [0,0,0] rfl (lw_tv 1 rfl (q_add ((i + 1 :Nat):Int) rfl rfl (w64n oM oM) zN (lw_tvn 1 rfl ⟨((i + 1),v92,x92,s92,c92),_,rfl,⟨rfl,rfl,rfl,rfl,trivial⟩,⟨hE92,hB92,hF96,oM,(by assumption),(by assumption),oM,(by assumption),oM,oM,(by exact rel_lop hrl9 oM (by assumption))⟩,by first | omega | (dsimp only; omega)⟩))))
           ·
            refine q_eql false rfl rfl (decide_eq_false hc90) (zS (e := 132) rfl rfl rfl) (lw_tvn 1 rfl (c_cond_f rfl (wp_exit (t_exit (t_exit (c_exit_here (wp_seq (wp_plain _ [0,0,2,0,2,0] rfl (lw_tv 1 rfl (q_fldP (p := (.pointer (some ⟨w.heap.size,0,none⟩))) (b := w.heap.size) (o := 0) 2 fd94_2 rfl rfl zN (q_load (p := (padd (.pointer (some ⟨w.heap.size,0,none⟩)) 2)) (.inr rfl) (.int .i64 ex.pick) one2 rfl (hL86_1.ldp (i := 2) sM) zN ?_)))))))))))
            refine q_idx (v := vk) ((ex.pick).toNat) u27 ti25 rfl rfl hrk.slL oM sD zN ?_
            obtain ⟨ue99,hl99,hr99⟩ := RN.getL (w := w86) g1 [] (k := (ex.pick).toNat) hrk sD
            have hln99 := hr99.lenL
            unfold maxLen at hln99
            refine q_load (p := eptr vk ((ex.pick).toNat) 1) (.inr rfl) ue99 one25 rfl (hl99 _ (Chg.refl _ _)) zN (lw_tvn 1 rfl (wp_ret (b_ret (t_ret ?_))))
            exact post_ret [6] rfl ue99 rfl ⟨ue99,ks.getD ((ex.pick).toNat) [],s9,c9,rfl,hE86,hL86_0,hr99,z135_3,oM,oM,z135_2⟩
          ·
           refine q_lss false rfl rfl (decide_eq_false hc89) zN (lw_tvn 7 rfl (c_cond_f rfl (wp_exit (t_exit (t_exit (c_exit_here (wp_seq (wp_plain _ [0,0,2,0,2,0] rfl (lw_tv 1 rfl (q_fldP (p := (.pointer (some ⟨w.heap.size,0,none⟩))) (b := w.heap.size) (o := 0) 2 fd94_2 rfl rfl zN (q_load (p := (padd (.pointer (some ⟨w.heap.size,0,none⟩)) 2)) (.inr rfl) (.int .i64 ex.pick) one2 rfl (hL86_1.ldp (i := 2) sM) zN ?_)))))))))))
           refine q_idx (v := vk) ((ex.pick).toNat) u27 ti25 rfl rfl hrk.slL oM sD zN ?_
           obtain ⟨ue100,hl100,hr100⟩ := RN.getL (w := w86) g1 [] (k := (ex.pick).toNat) hrk sD
           have hln100 := hr100.lenL
           unfold maxLen at hln100
           refine q_load (p := eptr vk ((ex.pick).toNat) 1) (.inr rfl) ue100 one25 rfl (hl100 _ (Chg.refl _ _)) zN (lw_tvn 1 rfl (wp_ret (b_ret (t_ret ?_))))
           exact post_ret [6] rfl ue100 rfl ⟨ue100,ks.getD ((ex.pick).toNat) [],s9,c9,rfl,hE86,hL86_0,hr100,z135_3,oM,oM,z135_2⟩
         ·
          refine q_eql false rfl rfl (decide_eq_false hc85) zN (lw_tvn 1 rfl (c_cond_f rfl (wp_seq (wp_plain _ [0,0] rfl ?_))))
          by_cases hc101 : ex.kind = ((3 :Nat):Int)
          ·
           refine q_eql true rfl rfl (decide_eq_true hc101) zN (lw_tvn 1 rfl (c_cond_t rfl (wp_seq (wp_draw _ [0,0,1,0,0,1,3,0] mixed (by kernel_rfl) ?_))))
           have hwk := wk_op2 hwf oM
           have hK0 := hK 0 oM
           have hK1 := hK 1 oM
           have hK1l := hK1.1
           refine lw_tv 1 rfl (q_idx (v := v66) 0 u27 ti25 rfl rfl hr66.slL rfl sD zN ?_)
           obtain ⟨ue102,hl102,hr102⟩ := RN.getL (w := w66) g1 [] (k := 0) hr66 sD
           have hln102 := hr102.lenL
           unfold maxLen at hln102
           refine q_load (p := eptr v66 0 1) (.inl rfl) ue102 one25 rfl (hl102 _ (Chg.refl _ _).drew) zN (lw_tv 1 rfl (q_idx (v := v66) 1 u27 ti25 rfl rfl hr66.slL rfl sD zN ?_))
           obtain ⟨ue103,hl103,hr103⟩ := RN.getL (w := w66) g1 [] (k := 1) hr66 sD
           have hln103 := hr103.lenL
           unfold maxLen at hln103
           refine q_load (p := eptr v66 1 1) (.inl rfl) ue103 one25 rfl (hl103 _ (Chg.refl _ _).drew) zN (lw_call 158 [] [] [ue102,ue103] rfl rfl cf158 zN (c_impl_added _ _ _ _ _ (hr102).rd (hr103).rd z135_5 z135_4 (by exact hK0.2) (by exact hK1.2)) ?_)
           rintro e104 w104 ⟨v104_0,rfl,hX104,hO104_0⟩
           refine ⟨_,rfl,hX104,?_⟩
           replace hX104 := hX104.of_drew
           have hzs104:=hX104.size
           have hE104 : Chg [g] w w104 := hE66.ext hX104
           have hB66x104 := hB66.ext hX104
           have hF70x104 := hF70.ext hX104
           have hN105 := hr66.ext g2 hX104
           have hN106 := hr102.ext g1 hX104
           have hN107 := hr103.ext g1 hX104
           replace hO104_0 := hO104_0.low (B' := w66.heap.size) (Nat.le_refl _)
           refine lw_tvn 1 rfl (wp_ret (b_ret (t_ret ?_)))
           exact post_ret [6] rfl v104_0 rfl ⟨v104_0,addS (x66.getD 0 []) (x66.getD 1 []),s66,c66,rfl,hE104,hB66x104,(RN.of_fr1 hO104_0 (fun b hb => by have := hS b hb; omega)),z135_3,oM,oM,z135_0⟩
          ·
           refine q_eql false rfl rfl (decide_eq_false hc101) zN (lw_tvn 1 rfl (c_cond_f rfl (wp_seq (wp_plain _ [0,0] rfl ?_))))
           by_cases hc108 : ex.kind = ((4 :Nat):Int)
           ·
            refine q_eql true rfl rfl (decide_eq_true hc108) zN (lw_tvn 1 rfl (c_cond_t rfl (wp_seq (wp_draw _ [0,0,1,0,0,1,3,0] mixed (by kernel_rfl) ?_))))
            have hwk := wk_op2 hwf oM
            have hK0 := hK 0 oM
            have hK1 := hK 1 oM
            have hK1l := hK1.1
            refine lw_tv 1 rfl (q_idx (v := v66) 0 u27 ti25 rfl rfl hr66.slL rfl sD zN ?_)
            obtain ⟨ue109,hl109,hr109⟩ := RN.getL (w := w66) g1 [] (k := 0) hr66 sD
            have hln109 := hr109.lenL
            unfold maxLen at hln109
            refine q_load (p := eptr v66 0 1) (.inl rfl) ue109 one25 rfl (hl109 _ (Chg.refl _ _).drew) zN (lw_tv 1 rfl (q_idx (v := v66) 1 u27 ti25 rfl rfl hr66.slL rfl sD zN ?_))
            obtain ⟨ue110,hl110,hr110⟩ := RN.getL (w := w66) g1 [] (k := 1) hr66 sD
            have hln110 := hr110.lenL
            unfold maxLen at hln110
            refine q_load (p := eptr v66 1 1) (.inl rfl) ue110 one25 rfl (hl110 _ (Chg.refl _ _).drew) zN (lw_call 159 [] [] [ue109,ue110] rfl rfl cf159 zN (c_impl_reduced _ _ _ _ _ (hr109).rd (hr110).rd z135_5 (by have := hK1.1; omega) z135_4 (by exact hK0.2) (by exact hK1.2)) ?_)
            rintro e111 w111 ⟨v111_0,rfl,hX111,hO111_0⟩
            refine ⟨_,rfl,hX111,?_⟩
            replace hX111 := hX111.of_drew
            have hzs111:=hX111.size
            have hE111 : Chg [g] w w111 := hE66.ext hX111
            have hB66x111 := hB66.ext hX111
            have hF70x111 := hF70.ext hX111
            have hN112 := hr66.ext g2 hX111
            have hN113 := hr109.ext g1 hX111
            have hN114 := hr110.ext g1 hX111
            replace hO111_0 := hO111_0.low (B' := w66.heap.size) (Nat.le_refl _)
            refine lw_tvn 1 rfl (wp_ret (b_ret (t_ret ?_)))
            exact post_ret [6] rfl v111_0 rfl ⟨v111_0,redS (x66.getD 0 []) (x66.getD 1 []),s66,c66,rfl,hE111,hB66x111,(RN.of_fr1 hO111_0 (fun b hb => by have := hS b hb; omega)),z135_3,oM,oM,z135_0⟩
           ·
            refine q_eql false rfl rfl (decide_eq_false hc108) zN (lw_tvn 1 rfl (c_cond_f rfl (wp_seq (wp_plain _ [0,0] rfl ?_))))
            by_cases hc115 : ex.kind = ((5 :Nat):Int)
            ·
             refine q_eql true rfl rfl (decide_eq_true hc115) zN (lw_tvn 1 rfl (c_cond_t rfl (wp_seq (wp_draw _ [0,0,1,0,0,1,3,0] mixed (by kernel_rfl) ?_))))
             have hwk := wk_op2 hwf oM
             have hK0 := hK 0 oM
             have hK1 := hK 1 oM
             have hK1l := hK1.1
             refine lw_tv 1 rfl (q_idx (v := v66) 0 u27 ti25 rfl rfl hr66.slL rfl sD zN ?_)
             obtain ⟨ue116,hl116,hr116⟩ := RN.getL (w := w66) g1 [] (k := 0) hr66 sD
             have hln116 := hr116.lenL
             unfold maxLen at hln116
             refine q_load (p := eptr v66 0 1) (.inl rfl) ue116 one25 rfl (hl116 _ (Chg.refl _ _).drew) zN (lw_tv 1 rfl (q_idx (v := v66) 1 u27 ti25 rfl rfl hr66.slL rfl sD zN ?_))
             obtain ⟨ue117,hl117,hr117⟩ := RN.getL (w := w66) g1 [] (k := 1) hr66 sD
             have hln117 := hr117.lenL
             unfold maxLen at hln117
             refine q_load (p := eptr v66 1 1) (.inl rfl) ue117 one25 rfl (hl117 _ (Chg.refl _ _).drew) zN (lw_call 160 [] [] [ue116,ue117] rfl rfl cf160 zN (c_impl_product _ _ _ _ _ (hr116).rd (hr117).rd z135_5 z135_4 (by exact hK0.2) (by exact hK1.2)) ?_)
             rintro e118 w118 ⟨v118_0,rfl,hX118,hO118_0⟩
             refine ⟨_,rfl,hX118,?_⟩
             replace hX118 := hX118.of_drew
             have hzs118:=hX118.size
             have hE118 : Chg [g] w w118 := hE66.ext hX118
             have hB66x118 := hB66.ext hX118
             have hF70x118 := hF70.ext hX118
             have hN119 := hr66.ext g2 hX118
             have hN120 := hr116.ext g1 hX118
             have hN121 := hr117.ext g1 hX118
             replace hO118_0 := hO118_0.low (B' := w66.heap.size) (Nat.le_refl _)
             refine lw_tvn 1 rfl (wp_ret (b_ret (t_ret ?_)))
             exact post_ret [6] rfl v118_0 rfl ⟨v118_0,proS (x66.getD 0 []) (x66.getD 1 []),s66,c66,rfl,hE118,hB66x118,(RN.of_fr1 hO118_0 (fun b hb => by have := hS b hb; omega)),z135_3,oM,oM,z135_0⟩
            ·
             refine q_eql false rfl rfl (decide_eq_false hc115) zN (lw_tvn 1 rfl (c_cond_f rfl (wp_seq (wp_plain _ [0,0] rfl ?_))))
             by_cases hc122 : ex.kind = ((7 :Nat):Int)
             ·
              refine q_eql true rfl rfl (decide_eq_true hc122) zN (lw_tvn 1 rfl (c_cond_t rfl (wp_seq (wp_plain _ [0,0,2,3,0] rfl ?_))))
              have hwk := wk_neg hwf oM
              have hK0 := hK 0 oM
              refine lw_tv 1 rfl (q_idx (v := v66) 0 u27 ti25 rfl rfl hr66.slL rfl sD zN ?_)
              obtain ⟨ue123,hl123,hr123⟩ := RN.getL (w := w66) g1 [] (k := 0) hr66 sD
              have hln123 := hr123.lenL
              unfold maxLen at hln123
              refine q_load (p := eptr v66 0 1) (.inr rfl) ue123 one25 rfl (hl123 _ (Chg.refl _ _)) zN (lw_call 161 [] [] [ue123,(.int .i64 ((1000002 :Nat):Int))] rfl rfl cf161 zN (c_impl_scaled _ _ _ _ (hr123).rd oM z135_5 (by exact hK0.2) oM) ?_)
              rintro e124 w124 ⟨v124_0,rfl,hX124,hO124_0⟩
              refine ⟨_,rfl,hX124,?_⟩
              have hzs124:=hX124.size
              have hE124 : Chg [g] w w124 := hE66.ext hX124
              have hB66x124 := hB66.ext hX124
              have hF70x124 := hF70.ext hX124
              have hN125 := hr66.ext g2 hX124
              have hN126 := hr123.ext g1 hX124
              refine lw_tvn 1 rfl (wp_ret (b_ret (t_ret ?_)))
              exact post_ret [6] rfl v124_0 rfl ⟨v124_0,sclS (x66.getD 0 []) ((1000002 :Nat):Int),s66,c66,rfl,hE124,hB66x124,(RN.of_fr1 hO124_0 (fun b hb => by have := hS b hb; omega)),z135_3,oM,oM,z135_0⟩
             ·
              refine q_eql false rfl rfl (decide_eq_false hc122) zN (lw_tvn 1 rfl (c_cond_f rfl (wp_skip (wp_seq (wp_seq (wp_plain _ [0,0,2,0,2,0] rfl ?_))))))
              have hkd6 := wk_div hwf ⟨hkg,by omega⟩
              have hwk := wk_op2 hwf (.inr (.inr (.inr hkd6)))
              have hK0 := hK 0 oM
              have hK1 := hK 1 oM
              have hK1l := hK1.1
              refine lw_tv 1 rfl (q_idx (v := v66) 1 u27 ti25 rfl rfl hr66.slL rfl sD zN ?_)
              obtain ⟨ue127,hl127,hr127⟩ := RN.getL (w := w66) g1 [] (k := 1) hr66 sD
              have hln127 := hr127.lenL
              unfold maxLen at hln127
              refine q_load (p := eptr v66 1 1) (.inr rfl) ue127 one25 rfl (hl127 _ (Chg.refl _ _)) zN (q_idx (v := ue127) 0 u25 ti2 rfl rfl hr127.slL rfl sD zN ?_)
              have hg128 := RN.getI (w := w66) (k := 0) hr127 sD
              refine q_load (p := eptr ue127 0 1) (.inr rfl) (.int .i64 ((x66.getD 1 []).getD 0 0)) one2 rfl (hg128.1 _ (Chg.refl _ _)) zN ?_
              by_cases hc129 : (x66.getD 1 []).getD 0 0 = ((0 :Nat):Int)
              ·
               refine q_eql true rfl rfl (decide_eq_true hc129) zN (lw_nil (c_cond_t rfl (wp_seq (wp_plain _ [0,0,0,4] rfl (lw_tv 1 rfl (q_nil rfl zN (q_fldP (p := (.pointer (some ⟨g,0,none⟩))) (b := g) (o := 0) 3 fd128_3 rfl rfl zN (e_setB (k := 3) (w := w66) sz2 rfl rfl ⟨rfl,rfl⟩ hB66 sM zN fun w130 hC130 hz130 hB130 => ?_))))))))
               replace hB130 : BX w130.heap g [vp,(.int .i64 ((o :Nat):Int)),(.int .i64 ((s66 :Nat):Int)),(.int .i64 ((6 :Nat):Int))] := hB130
               have hE130 : Chg [g] w w130 := hE66.trans hC130
               have hzs130:=hC130.size
               have hF131 := hF70.chg hC130 (fun hm => by have := List.mem_singleton.1 hm; omega)
               have hN132 := hr66.run g2 hgS hC130
               have hN133 := hr127.run g1 hgS hC130
               refine lw_nil (wp_seq (wp_plain _ [0,3,0] rfl (lw_tv 1 rfl (lw_call 156 [] [] [(.pointer (some ⟨g,0,none⟩)),(.int .i64 ((0 :Nat):Int))] rfl rfl cf156 zN (c_impl_evaluation_constant _ S g vp dp (o) (s66) (((6 :Nat):Int)) (p) _ (fun b hb => (by have := hS b hb; omega : b < w130.heap.size)) hgS hB130 (hp.chg (good_rdS (good_rFn dp)) (hE130.sub (subS hgS))) oM oM oM oM) ?_))))
               rintro e134 w134 ⟨v134_0,rfl,hX134,hO134_0⟩
               refine ⟨_,rfl,hX134,?_⟩
               have hzs134:=hX134.size
               have hE134 : Chg [g] w w134 := hE130.ext hX134
               have hB130x134 := hB130.ext hX134
               have hF131x134 := hF131.ext hX134
               have hN135 := hN132.ext g2 hX134
               have hN136 := hN133.ext g1 hX134
               refine lw_tvn 1 rfl (wp_ret (t_ret ?_))
               exact post_ret [6] rfl v134_0 rfl ⟨v134_0,cst (o + 1) ((0 :Nat):Int),s66,((6 :Nat):Int),rfl,hE134,hB130x134,(RN.of_fr1 hO134_0 (fun b hb => by have := hS b hb; omega)),z135_3,oM,oM,(by first | exact rel_code oM | exact rel_budget oM oM | exact rel_num hc00 hs1 oM | exact rel_var hc00 hs1 oM | exact rel_if0 hc00 hs1 oM oM ‹RelV (go c0 (evE _ _ (ex.kids.getD 0 _) _ _)) _ _ _› oM (by assumption) | exact rel_if1 hc00 hs1 oM oM ‹RelV (go c0 (evE _ _ (ex.kids.getD 0 _) _ _)) _ _ _› oM (by assumption) | exact rel_let hc00 hs1 oM oM ‹RelV (go c0 (evE _ _ (ex.kids.getD 0 _) _ _)) _ _ _› (by assumption) | exact rel_kidsE hc00 hs1 hkg.1 hkg.2.1 hkg.2.2.1 hkg.2.2.2 hKr oM | exact rel_call hc00 hs1 oM oM hKr oM (by assumption) | exact rel_loop hc00 hs1 oM oM hKr oM (rel_stop hrl9 oM oM) | exact rel_op hc00 hs1 hkg.1 hkg.2.1 hkg.2.2.1 hkg.2.2.2 oM oM hKr oM (by rw [show ((6 :Nat):Int) = 0 from by omega]; exact op_add oM) | exact rel_op hc00 hs1 hkg.1 hkg.2.1 hkg.2.2.1 hkg.2.2.2 oM oM hKr oM (by rw [show ((6 :Nat):Int) = 0 from by omega]; exact op_sub oM) | exact rel_op hc00 hs1 hkg.1 hkg.2.1 hkg.2.2.1 hkg.2.2.2 oM oM hKr oM (by rw [show ((6 :Nat):Int) = 0 from by omega]; exact op_mul oM) | exact rel_op hc00 hs1 hkg.1 hkg.2.1 hkg.2.2.1 hkg.2.2.2 oM oM hKr oM (by rw [show ((6 :Nat):Int) = 0 from by omega]; exact op_neg oM) | exact rel_op hc00 hs1 hkg.1 hkg.2.1 hkg.2.2.1 hkg.2.2.2 oM oM hKr oM (by rw [show ((6 :Nat):Int) = 0 from by omega]; exact op_div oM oM) | exact rel_op hc00 hs1 hkg.1 hkg.2.1 hkg.2.2.1 hkg.2.2.2 oM oM hKr oM (op_div0 oM oM))⟩
              ·
               refine q_eql false rfl rfl (decide_eq_false hc129) zN (lw_nil (c_cond_f rfl (wp_skip (wp_seq (wp_draw _ [0,0,1,0,0,1,3,0] mixed (by kernel_rfl) (lw_tv 1 rfl (q_idx (v := v66) 0 u27 ti25 rfl rfl hr66.slL rfl sD zN ?_)))))))
               obtain ⟨ue137,hl137,hr137⟩ := RN.getL (w := w66) g1 [] (k := 0) hr66 sD
               have hln137 := hr137.lenL
               unfold maxLen at hln137
               refine q_load (p := eptr v66 0 1) (.inl rfl) ue137 one25 rfl (hl137 _ (Chg.refl _ _).drew) zN (lw_tv 1 rfl (q_idx (v := v66) 1 u27 ti25 rfl rfl hr66.slL rfl sD zN ?_))
               obtain ⟨ue138,hl138,hr138⟩ := RN.getL (w := w66) g1 [] (k := 1) hr66 sD
               have hln138 := hr138.lenL
               unfold maxLen at hln138
               refine q_load (p := eptr v66 1 1) (.inl rfl) ue138 one25 rfl (hl138 _ (Chg.refl _ _).drew) zN (lw_call 162 [] [] [ue137,ue138] rfl rfl cf162 zN (c_impl_quotient _ _ _ _ _ (hr137).rd (hr138).rd z135_5 z135_4 (by have := hK1.1; omega) (by exact hK0.2) (by exact hK1.2)) ?_)
               rintro e139 w139 ⟨v139_0,rfl,hX139,hO139_0⟩
               refine ⟨_,rfl,hX139,?_⟩
               replace hX139 := hX139.of_drew
               have hzs139:=hX139.size
               have hE139 : Chg [g] w w139 := hE66.ext hX139
               have hB66x139 := hB66.ext hX139
               have hF70x139 := hF70.ext hX139
               have hN140 := hr66.ext g2 hX139
               have hN141 := hr127.ext g1 hX139
               have hN142 := hr137.ext g1 hX139
               have hN143 := hr138.ext g1 hX139
               replace hO139_0 := hO139_0.low (B' := w66.heap.size) (Nat.le_refl _)
               refine lw_tvn 1 rfl (wp_ret ?_)
               exact post_ret [6] rfl v139_0 rfl ⟨v139_0,quoS (x66.getD 0 []) (x66.getD 1 []),s66,c66,rfl,hE139,hB66x139,(RN.of_fr1 hO139_0 (fun b hb => by have := hS b hb; omega)),z135_3,oM,oM,z135_0⟩
end Go.Proofs.YtnofbmdpabcjaaaGreat
namespace Go.Proofs.YtnofbmdpabcjaaaGreat
open Go Go.RowKit
set_option linter.unusedVariables false
set_option linter.unusedSimpArgs false
set_option maxHeartbeats 4000000
set_option maxRecDepth 100000
attribute [local irreducible] LW
theorem c_value : ∀ F d,PV F d := by
 intro F
 induction F using Nat.strongRecOn with
 | _ F ihF =>
  intro d
  induction d using Nat.strongRecOn with
  | _ d ihd =>
   intro w S g vp dp o s0 c0 p ve ex vv env hS hgS hB0 hp ho hs0 hc0 hex henv hqenv hvp hF hwf hse hdp
   exact c_impl_evaluation_value w S F g vp dp o s0 c0 p d ve ex vv env hS hgS hB0 hp ho hs0 hc0 hex henv hqenv hvp hF hwf hse hdp ihF ihd
theorem c_alls (F d : Nat) : PA F d := c_all F d fun d' _ => c_value F d'
theorem c_impl_Program_evaluated (w : World) (dp : Nat) (vp : Value) (p : List Fn) (f : Int) (va : Value) (a : List (List Int)) (o : Nat) (hp : RP [] dp w.heap vp p) (_hf : -9223372036854775808 ≤ f ∧ f ≤ 9223372036854775807) (ha : RN [] (rdL (rdL rI)) w.heap va a) (hqa : CapS va) (hvp : VPr p) (hf : 0 ≤ f ∧ f < ((p.length :Nat):Int)) (hl : ((a.length :Nat):Int) = (p.getD f.toNat Fn.zero).params) (hse : SrE (o + 1) a) (ho : o ≤ 12) :
  Calls Tryz.prog 69 #[(.agg #[vp]),.int .i64 f,va,.int .i64 ((o :Nat):Int)] w (fun e w' => ∃ v0 : Value,e = .returned (.tuple #[v0,.int .i64 ((evT p (o + 1) f.toNat a :Nat):Int),.int .i64 (evD p (o + 1) f.toNat a)]) ∧ Ext w w' ∧ Fr (owL (owL rI 2) 25) w.heap.size w'.heap.size w'.heap v0 (evR p (o + 1) f.toNat a) ∧ EvP p (o + 1) f.toNat a) := by
 refine calls_mk [(.agg #[vp]),.int .i64 f,va,.int .i64 ((o :Nat):Int)] 56 Tryz.func69 rfl rfl sM ?_
 have hE0 : Ext w w := Ext.refl w
 have hl_vp := hp.lenle
 unfold maxLen at hl_vp
 have hl_va := ha.lenL
 unfold maxLen at hl_va
 refine wp_seq (wp_plain _ [3,0,0,0] rfl (r_boxA (cs := #[vp]) rfl zN fun w1 hX1 hz1 hB1 => ?_))
 have hzs1:=hX1.size
 have hE1:=hE0.trans hX1
 replace hB1 : BX w1.heap w.heap.size [vp] := hB1
 refine lw_tvn 3 rfl (wp_seq (wp_plain _ [2,0,0,3,0] rfl (q_loadA (p := (.pointer (some ⟨w.heap.size,0,none⟩))) (.inr rfl) [vp] agg32 rfl (fun w9 hw9 => LD.of_box (BX.ext (w := w1) hB1 hw9)) rfl zN (lw_tv 1 rfl ?_))))
 have hbd2 : ∀ (vp : Value) (m2_0 : Nat) (h2_0 : isSl vp m2_0) (wq : World),(Instr.build 128 #[(0,(.agg #[vp])),(1,(.int .i64 ((o :Nat):Int)))]).run Tryz.prog wq = .ok (.agg #[vp,(.int .i64 ((o :Nat):Int)),(.int .i64 0),(.int .i64 0)]) wq := by intro vp m2_0 h2_0 wq; obtain ⟨a2_0,c2_0,rfl,_⟩ := h2_0; kernel_rfl
 refine q_build (ps := #[(0,(.agg #[vp])),(1,(.int .i64 ((o :Nat):Int)))]) (.agg #[vp,(.int .i64 ((o :Nat):Int)),(.int .i64 0),(.int .i64 0)]) (by simp only [List.map_toArray,List.map_cons,List.map_nil]; rfl) (fun wq => hbd2 vp _ hp.isSl wq) zN ?_
 have hq4 := hB1.lt
 refine r_boxA (cs := #[vp,(.int .i64 ((o :Nat):Int)),(.int .i64 0),(.int .i64 0)]) rfl zN fun w3 hX3 hz3 hB3 => ?_
 have hzs3:=hX3.size
 have hE3:=hE1.trans hX3
 have hB1x3 := hB1.ext hX3
 replace hB3 : BX w3.heap w1.heap.size [vp,(.int .i64 ((o :Nat):Int)),(.int .i64 0),(.int .i64 0)] := hB3
 refine lw_tvn 1 rfl (wp_seq (wp_plain _ [0,0,2,0,0,0,2,0,4,0] rfl ?_))
 have hpr := hvp.par f.toNat oM
 have hou := hvp.outs f.toNat oM
 refine lw_tv 1 rfl (q_fldP (p := (.pointer (some ⟨w.heap.size,0,none⟩))) (b := w.heap.size) (o := 0) 0 fd32_0 rfl rfl zN (q_load (p := (padd (.pointer (some ⟨w.heap.size,0,none⟩)) 0)) (.inr rfl) vp one30 rfl (hB1x3.ldp (i := 0) sM) zN (lw_tv 1 rfl (q_idx (v := vp) ((f).toNat) u30 tiS80 rfl rfl hp.isSl oM sD zN ?_))))
 obtain ⟨cs5,hr5,hl5⟩ := hp.get (good_rFn dp) Fn.zero (k := ((f).toNat)) sD
 obtain ⟨ve5,rfl,hx5⟩ := RF.of hr5
 have hln5 := hx5.rn.lenle
 unfold maxLen at hln5
 refine q_fldL (p := eptr vp ((f).toNat) 3) 2 fd80_2 rfl (hl5 _ (Chg.of_ext [] hE3)) zN (q_load (p := (padd (eptr vp ((f).toNat) 3) 2)) (.inr rfl) ve5 one78 rfl ((hl5 _ (Chg.of_ext [] hE3)).ld (i := 2) (by simp [exC,fnC])) zN (lw_tv 1 rfl ?_))
 refine lw_callE 104 [] [] [(.pointer (some ⟨w1.heap.size,0,none⟩)),ve5,va] rfl rfl cf104 zN (c_alls (f.toNat) dp _ [w1.heap.size] w1.heap.size vp dp (o) (0) (0) (p) ve5 ((p.getD ((f).toNat) Fn.zero).outs) va (a) (fun b hb => (by have := List.mem_singleton.1 hb; omega : b < w3.heap.size)) (List.mem_singleton.2 rfl) hB3 ((hp.add (F := [w1.heap.size]) (good_rdS (good_rFn dp)) (fun b hb => by have := List.mem_singleton.1 hb; omega)).ext (good_rdS (good_rFn dp)) hE3) oM oM oM ((hx5.rn.add (F := [w1.heap.size]) (good_rdS (good_rEx dp)) (fun b hb => by have := List.mem_singleton.1 hb; omega)).ext (good_rdS (good_rEx dp)) hE3) ((ha.add (F := [w1.heap.size]) g2 (fun b hb => by have := List.mem_singleton.1 hb; omega)).ext g2 hE3) hqa (by exact hvp) oM (by intro k hk; have h9 := hvp.wf f.toNat oM k hk; rw [hl]; exact h9) (by exact hse) (by intro k hk; have := hvp.deep f.toNat oM k hk; omega) oM) ?_
 rintro e6 w6 ⟨v6,x6,s6,c6,rfl,hC6,hB6,hr6,hse6,hsb6,hcb6,hrl6⟩
 refine ⟨_,rfl,?_⟩
 have hzs6:=hC6.size
 have hE6 : Ext w w6 := hC6.below hE3 (fun b hb => by have : b = w1.heap.size := (by simpa using hb); omega) hE3.size
 have hF9 := hB1x3.chg hC6 (fun hm => by have := List.mem_singleton.1 hm; omega)
 have hsn6 := hse6.2.1
 have hsr6 := hse6.2.2
 have hcp6 := hse6.1
 have hrt6 := hr6.rt g2
 have hRL := hrl6
 have hCB := hcb6
 have hEP := EvP.mk' hRL hCB hsb6 hsn6 hsr6
 have hXS := hsr6
 have hXL := hsn6
 refine lw_tvn 1 rfl (wp_seq (wp_seq (wp_plain _ [0,0,0,2,0] rfl (lw_tv 1 rfl (q_nil rfl zN (q_fldP (p := (.pointer (some ⟨w1.heap.size,0,none⟩))) (b := w1.heap.size) (o := 0) 3 fd128_3 rfl rfl zN (q_load (p := (padd (.pointer (some ⟨w1.heap.size,0,none⟩)) 3)) (.inr rfl) (.int .i64 c6) one2 rfl (hB6.ldp (i := 3) sM) zN ?_)))))))
 by_cases hc11 : c6 ≠ ((0 :Nat):Int)
 ·
  exact q_neq true rfl rfl (decide_eq_true hc11) zN (lw_nil (c_cond_t rfl (wp_seq (wp_draw _ [0,0,0,1,0,0,0] mixed (by kernel_rfl) (lw_tv 1 rfl (q_nil rfl zN (q_fldP (p := (.pointer (some ⟨w1.heap.size,0,none⟩))) (b := w1.heap.size) (o := 0) 3 fd128_3 rfl rfl zN (q_load (p := (padd (.pointer (some ⟨w1.heap.size,0,none⟩)) 3)) (.inl rfl) (.int .i64 c6) one2 rfl (hB6.ldp (i := 3) sM) zN (lw_tvn 3 rfl (wp_ret (t_ret (post_ret [8,9,10] rfl (.tuple #[(.slice none 0 0),(.int .i64 ((0 :Nat):Int)),(.int .i64 c6)]) rfl ⟨(.slice none 0 0),(by rw [evT_e (ev_err hRL oM),evD_e (ev_err hRL oM)] <;> rfl),hE6.drew,(by rw [evR_e (ev_err hRL oM)]; exact frNil _ _ _),hEP⟩))))))))))))
 ·
  refine q_neq false rfl rfl (decide_eq_false hc11) zN (lw_nil (c_cond_f rfl (wp_skip (wp_seq (wp_plain _ [3,0] rfl (r_nil (owL rI 2) o1 u27 ti25 zN fun v12 w12 hX12 hz12 hO12 => ?_))))))
  have hzs12:=hX12.size
  have hE12:=hE6.trans hX12
  have hF9x12 := hF9.ext hX12
  have hB6x12 := hB6.ext hX12
  have hN13 := hrt6.ext g2 hX12
  refine lw_tvn 1 rfl (wp_seq (wp_seq (wp_plain _ [0,0,0] rfl (lw_tv 1 rfl (q_len (v := v6) u27 rfl hN13.slL zN (lw_tvn 1 rfl (wp_block ?_)))))))
  refine c_loop (S := Nat × Value) (fun (⟨k,vo⟩ : Nat × Value) => ([(13,vo),(41,(.int .i64 ((k :Nat):Int))),(11,(.pointer (some ⟨w1.heap.size,0,none⟩))),(39,v6),(40,(.int .i64 ((x6.length :Nat):Int)))] : List (Nat × Value))) (fun (⟨k,vo⟩ : Nat × Value) (W : World) => Ext w W ∧ Fr (owL (owL rI 2) 25) w6.heap.size W.heap.size W.heap vo ((x6).take k) ∧ BX W.heap w1.heap.size [vp,(.int .i64 ((o :Nat):Int)),(.int .i64 ((s6 :Nat):Int)),(.int .i64 c6)] ∧ k ≤ (x6).length ∧ RT w6.heap.size (rdL (rdL rI)) W.heap v6 x6 ∧ w6.heap.size ≤ W.heap.size ∧ w1.heap.size < w6.heap.size ∧ w6.heap.size ≤ w6.heap.size ∧ w6.heap.size ≤ W.heap.size) (fun (⟨k,vo⟩ : Nat × Value) => (x6).length - k) (0,v12) ⟨rfl,rfl,rfl,rfl,rfl,trivial⟩ ⟨hE12,hO12.up o2,hB6x12,sD,(by assumption),oM,oM,oM,oM⟩ ?_
  clear hE0 hz1 hX1 hzs1 hE1 hz3 hX3 hzs3 hE3 hln5 hC6 hF9 hO12 hz12 hX12 hzs12 hE12 hF9x12
  rintro ⟨k,vo⟩ ρ18 w18 ⟨hE18,hL18_0,hL18_1,hp18_0,hrk14,hkB15,hkg16,hkt17,hkB19⟩
  have hzs18 : w.heap.size ≤ w18.heap.size := hE18.size
  have hq20 := hL18_1.lt
  refine wp_seq (wp_plain _ [0] rfl ?_)
  by_cases hc21 : ((k :Nat):Int) < ((x6.length :Nat):Int)
  ·
   refine q_lss true rfl rfl (decide_eq_true hc21) zN (lw_nil (wp_seq (c_cond_t rfl (wp_skip (wp_seq (wp_block (wp_seq (wp_plain _ [0,2,0] rfl ?_))))))))
   have hkx := hXS k oM
   have hkl := hkx.1
   refine q_idx (v := v6) k u27 ti25 rfl rfl hrk14.slL rfl sD zN ?_
   obtain ⟨ue22,hl22,hr22⟩ := RT.getL g1 [] (k := k) hrk14 sD
   have hln22 := hr22.lenL
   unfold maxLen at hln22
   refine q_load (p := eptr v6 k 1) (.inr rfl) ue22 one25 rfl hl22 zN (lw_tvn 1 rfl (wp_plain _ [0,0,3,3,4,0] rfl (lw_tv 2 rfl (lw_call 86 [] [] [ue22] rfl rfl cf86 zN (c_slices_Clone___int64_int64_ _ _ _ hr22.rd oM) ?_))))
   rintro e23 w23 ⟨v23_0,rfl,hX23,hO23_0⟩
   refine ⟨_,rfl,hX23,?_⟩
   have hzs23:=hX23.size
   have hE23:=hE18.trans hX23
   have hL18_0x23 := hL18_0.ext (o2) hX23
   have hL18_1x23 := hL18_1.ext hX23
   have hN24 := hrk14.ext g2 hX23
   have hN25 := hr22.ext g1 hX23
   refine r_one (u := v23_0) (B := w18.heap.size) o1 u27 ti25 rfl rfl hO23_0 (by first | exact Nat.le_refl _ | omega) zN fun v26 w26 hX26 hz26 hO26 => ?_
   have hzs26:=hX26.size
   have hE26:=hE23.trans hX26
   have hL18_0x26 := hL18_0x23.ext (o2) hX26
   have hL18_1x26 := hL18_1x23.ext hX26
   have hN27 := hN24.ext g2 hX26
   have hN28 := hN25.ext g1 hX26
   refine e_appF o1 (v := vo) (a := v26) u27 ti25 rfl rfl rfl hL18_0x26 oM hO26 oM oM sD (by unfold maxLen; first | omega | assumption | (simp; done) | (simp; omega)) zN fun v29 w29 F29 hC29 hF29 hO29 => ?_
   have hE29 : Ext w w29 := hC29.below hE26 (fun c hc => Nat.le_trans hE6.size (hF29 c hc).1) hE26.size
   have hzs29:=hC29.size
   have hN30 := hN27.chg g2 hC29 (fun c hc => by have := hF29 c hc; omega)
   have hN31 := hN28.chg g1 hC29 (fun c hc => by have := hF29 c hc; omega)
   have hF32 := hL18_1x26.chg hC29 (fun hm => by have := hF29 _ hm; omega)
   refine lw_tvn 1 rfl (wp_plain _ [0,0] rfl (q_add ((k + 1 :Nat):Int) rfl rfl (w64n oM sD) zN (lw_tvn 1 rfl ?_)))
   exact ⟨((k + 1),v29),_,rfl,⟨rfl,rfl,rfl,rfl,rfl,trivial⟩,⟨hE29,(by rw [take_snoc [] oM]; exact hO29.up o2),hF32,sD,(by assumption),oM,oM,oM,oM⟩,by first | omega | (dsimp only; omega)⟩
  ·
   refine q_lss false rfl rfl (decide_eq_false hc21) zN (lw_nil (wp_seq (c_cond_f rfl (wp_exit (t_exit (t_exit (c_exit_here (wp_seq (wp_draw _ [0,0,0,0,1,0,0,0] mixed (by kernel_rfl) (lw_tv 2 rfl (q_nil rfl zN (q_fldP (p := (.pointer (some ⟨w1.heap.size,0,none⟩))) (b := w1.heap.size) (o := 0) 2 fd128_2 rfl rfl zN (q_load (p := (padd (.pointer (some ⟨w1.heap.size,0,none⟩)) 2)) (.inl rfl) (.int .i64 ((s6 :Nat):Int)) one2 rfl (hL18_1.ldp (i := 2) sM) zN (lw_tvn 3 rfl (wp_ret ?_)))))))))))))))
   exact post_ret [8,9,10] rfl (.tuple #[vo,(.int .i64 ((s6 :Nat):Int)),(.int .i64 ((0 :Nat):Int))]) rfl ⟨vo,(by rw [evT_o (ev_ok hRL oM),evD_o (ev_ok hRL oM)] <;> rfl),hE18.drew,(by have h := (hL18_0.up o2).low hE6.size; rw [evR_o (ev_ok hRL oM)]; rwa [List.take_of_length_le oM] at h),hEP⟩
end Go.Proofs.YtnofbmdpabcjaaaGreat
namespace Go.Proofs.YtnofbmdpabcjaaaGreat
open Go Go.RowKit
set_option linter.unusedVariables false
set_option linter.unusedSimpArgs false
set_option maxHeartbeats 4000000
set_option maxRecDepth 100000
attribute [local irreducible] LW
theorem c_impl_ExprSize (w : World) (dex : Nat) (ve : Value) (ex : Ex) (hex : RX [] dex w.heap ve ex) (hs : ex.size ≤ 1000000000) :
  Calls Tryz.prog 120 #[(.agg #[(.int .i64 ex.kind),(.int .i64 ex.num),(.int .i64 ex.pick),(.int .i64 ex.count),ve])] w (fun e w' => e = .returned (.int .i64 ((ex.size :Nat):Int)) ∧ Ext w w') := by
 induction dex using Nat.strongRecOn generalizing w ve ex
 rename_i dex ih
 refine calls_mk [(.agg #[(.int .i64 ex.kind),(.int .i64 ex.num),(.int .i64 ex.pick),(.int .i64 ex.count),ve])] 19 Tryz.func120 rfl rfl sM ?_
 have hE0 : Ext w w := Ext.refl w
 have hl_ve := hex.rn.lenle
 unfold maxLen at hl_ve
 have hsk := size_kids ex
 refine wp_seq (wp_plain _ [3,0] rfl (r_boxA (cs := #[(.int .i64 ex.kind),(.int .i64 ex.num),(.int .i64 ex.pick),(.int .i64 ex.count),ve]) rfl zN fun w1 hX1 hz1 hB1 => ?_))
 have hzs1:=hX1.size
 have hE1:=hE0.trans hX1
 replace hB1 : BX w1.heap w.heap.size [(.int .i64 ex.kind),(.int .i64 ex.num),(.int .i64 ex.pick),(.int .i64 ex.count),ve] := hB1
 refine lw_tvn 1 rfl (wp_seq (wp_plain _ [0] rfl (lw_tvn 1 rfl (wp_seq (wp_seq (wp_plain _ [0,2,0,0] rfl (q_fldP (p := (.pointer (some ⟨w.heap.size,0,none⟩))) (b := w.heap.size) (o := 0) 4 fd94_4 rfl rfl zN (q_load (p := (padd (.pointer (some ⟨w.heap.size,0,none⟩)) 4)) (.inr rfl) ve one78 rfl (hB1.ldp (i := 4) sM) zN (q_len (v := ve) u78 rfl hex.rn.isSl zN (lw_tvn 1 rfl (wp_block ?_)))))))))))
 refine c_loop (S := Nat × Nat) (fun (⟨k,sz⟩ : Nat × Nat) => ([(3,(.int .i64 ((sz :Nat):Int))),(9,(.int .i64 ((k :Nat):Int))),(7,ve),(8,(.int .i64 ((ex.kids.length :Nat):Int)))] : List (Nat × Value))) (fun (⟨k,sz⟩ : Nat × Nat) (W : World) => Ext w W ∧ k ≤ ex.kids.length ∧ sz = 1 + Ex.sizes (ex.kids.take k)) (fun (⟨k,sz⟩ : Nat × Nat) => ex.kids.length - k) (0,1) ⟨rfl,rfl,rfl,rfl,trivial⟩ ⟨hE1,sD,(by rw [List.take_zero,sizes_nil])⟩ ?_
 clear hE0 hz1 hX1 hzs1 hE1
 rintro ⟨k,sz⟩ ρ2 w2 ⟨hE2,hp2_0,hsz⟩
 have hzs2 : w.heap.size ≤ w2.heap.size := hE2.size
 refine wp_seq (wp_plain _ [0] rfl ?_)
 by_cases hc3 : ((k :Nat):Int) < ((ex.kids.length :Nat):Int)
 ·
  refine q_lss true rfl rfl (decide_eq_true hc3) zN (lw_nil (wp_seq (c_cond_t rfl (wp_skip (wp_seq (wp_block (wp_seq (wp_plain _ [0,2,3,4] rfl ?_))))))))
  have hst := sizes_step (l := ex.kids) (k := k) oM
  have hle := sizes_take ex.kids (k + 1)
  have hdt := deeps_step (l := ex.kids) (k := k) oM
  have hda := deep_size (ex.kids.getD k Ex.zero)
  refine q_idx (v := ve) k u78 tiS94 rfl rfl hex.rn.isSl rfl sD zN ?_
  obtain ⟨cs4,hr4,hl4⟩ := hex.rn.get (good_rEx dex) Ex.zero (k := k) sD
  obtain ⟨dd4,ve4,hd4,rfl,hx4⟩ := RX.of hr4
  have hln4 := hx4.rn.lenle
  unfold maxLen at hln4
  refine q_loadA (p := eptr ve k 5) (.inr rfl) [(.int .i64 ((ex.kids.getD k Ex.zero).kind)),(.int .i64 ((ex.kids.getD k Ex.zero).num)),(.int .i64 ((ex.kids.getD k Ex.zero).pick)),(.int .i64 ((ex.kids.getD k Ex.zero).count)),ve4] agg94 rfl (fun w9 hw9 => hl4 w9 (Chg.of_ext [] (hE2.trans hw9))) rfl zN (r_allocA (z := .agg #[.int .i64 0,.int .i64 0,.int .i64 0,.int .i64 0,.slice none 0 0]) zr94 zN fun w5 hX5 hz5 hB5 => ?_)
  have hzs5:=hX5.size
  have hE5:=hE2.trans hX5
  replace hB5 : BX w5.heap w2.heap.size [(.int .i64 0),(.int .i64 0),(.int .i64 0),(.int .i64 0),(.slice none 0 0)] := hB5
  refine e_setA (vs := [(.int .i64 ((ex.kids.getD k Ex.zero).kind)),(.int .i64 ((ex.kids.getD k Ex.zero).num)),(.int .i64 ((ex.kids.getD k Ex.zero).pick)),(.int .i64 ((ex.kids.getD k Ex.zero).count)),ve4]) agg94 rfl rfl hx4.ones hB5 rfl rfl zN fun w6 hC6 hz6 hB6 => ?_
  replace hB6 : BX w6.heap w2.heap.size [(.int .i64 ((ex.kids.getD k Ex.zero).kind)),(.int .i64 ((ex.kids.getD k Ex.zero).num)),(.int .i64 ((ex.kids.getD k Ex.zero).pick)),(.int .i64 ((ex.kids.getD k Ex.zero).count)),ve4] := hB6
  have hE6 : Ext w w6 := hC6.below hE5 (fun c hc => by have := List.mem_singleton.1 hc; omega) hE5.size
  have hzs6:=hC6.size
  refine lw_nil (wp_plain _ [0,2,3,0,0] rfl (lw_tv 1 rfl (q_loadA (p := (.pointer (some ⟨w2.heap.size,0,none⟩))) (.inr rfl) [(.int .i64 ((ex.kids.getD k Ex.zero).kind)),(.int .i64 ((ex.kids.getD k Ex.zero).num)),(.int .i64 ((ex.kids.getD k Ex.zero).pick)),(.int .i64 ((ex.kids.getD k Ex.zero).count)),ve4] agg94 rfl (fun w9 hw9 => LD.of_box (BX.ext (w := w6) hB6 hw9)) rfl zN (lw_call 120 [] [] [(.agg #[(.int .i64 ((ex.kids.getD k Ex.zero).kind)),(.int .i64 ((ex.kids.getD k Ex.zero).num)),(.int .i64 ((ex.kids.getD k Ex.zero).pick)),(.int .i64 ((ex.kids.getD k Ex.zero).count)),ve4])] rfl rfl cf120 zN (ih dd4 oM _ ve4 (ex.kids.getD k Ex.zero) (hx4.ext hE6) oM) ?_))))
  rintro e7 w7 ⟨rfl,hX7⟩
  refine ⟨_,rfl,hX7,?_⟩
  have hzs7:=hX7.size
  have hE7:=hE6.trans hX7
  have hB6x7 := hB6.ext hX7
  refine q_add ((sz + (ex.kids.getD k Ex.zero).size :Nat):Int) rfl rfl (w64n oM oM) zN (lw_tvn 1 rfl (wp_plain _ [0,0] rfl (q_add ((k + 1 :Nat):Int) rfl rfl (w64n oM sD) zN (lw_tvn 1 rfl ?_))))
  exact ⟨((k + 1),(sz + (ex.kids.getD k Ex.zero).size)),_,rfl,⟨rfl,rfl,rfl,rfl,trivial⟩,⟨hE7,sD,oM⟩,by first | omega | (dsimp only; omega)⟩
 ·
  exact q_lss false rfl rfl (decide_eq_false hc3) zN (lw_nil (wp_seq (c_cond_f rfl (wp_exit (t_exit (t_exit (c_exit_here (wp_seq (wp_plain _ [0,0] rfl (lw_tvn 2 rfl (wp_ret (post_ret [2] rfl (.int .i64 ((sz :Nat):Int)) rfl ⟨(ret_int (by rw [hsz,sizes_all oM,hsk])),hE2⟩))))))))))))
theorem c_impl_ExprDepth (w : World) (dex : Nat) (ve : Value) (ex : Ex) (hex : RX [] dex w.heap ve ex) (hs : ex.size ≤ 1000000000) :
  Calls Tryz.prog 143 #[(.agg #[(.int .i64 ex.kind),(.int .i64 ex.num),(.int .i64 ex.pick),(.int .i64 ex.count),ve])] w (fun e w' => e = .returned (.int .i64 ((ex.deep :Nat):Int)) ∧ Ext w w') := by
 induction dex using Nat.strongRecOn generalizing w ve ex
 rename_i dex ih
 refine calls_mk [(.agg #[(.int .i64 ex.kind),(.int .i64 ex.num),(.int .i64 ex.pick),(.int .i64 ex.count),ve])] 20 Tryz.func143 rfl rfl sM ?_
 have hE0 : Ext w w := Ext.refl w
 have hl_ve := hex.rn.lenle
 unfold maxLen at hl_ve
 have hsk := size_kids ex
 have hdk := deep_kids ex
 refine wp_seq (wp_plain _ [3,0] rfl (r_boxA (cs := #[(.int .i64 ex.kind),(.int .i64 ex.num),(.int .i64 ex.pick),(.int .i64 ex.count),ve]) rfl zN fun w1 hX1 hz1 hB1 => ?_))
 have hzs1:=hX1.size
 have hE1:=hE0.trans hX1
 replace hB1 : BX w1.heap w.heap.size [(.int .i64 ex.kind),(.int .i64 ex.num),(.int .i64 ex.pick),(.int .i64 ex.count),ve] := hB1
 refine lw_tvn 1 rfl (wp_seq (wp_plain _ [0] rfl (lw_tvn 1 rfl (wp_seq (wp_seq (wp_plain _ [0,2,0,0] rfl (q_fldP (p := (.pointer (some ⟨w.heap.size,0,none⟩))) (b := w.heap.size) (o := 0) 4 fd94_4 rfl rfl zN (q_load (p := (padd (.pointer (some ⟨w.heap.size,0,none⟩)) 4)) (.inr rfl) ve one78 rfl (hB1.ldp (i := 4) sM) zN (q_len (v := ve) u78 rfl hex.rn.isSl zN (lw_tvn 1 rfl (wp_block ?_)))))))))))
 refine c_loop (S := Nat × Nat) (fun (⟨k,sz⟩ : Nat × Nat) => ([(3,(.int .i64 ((sz :Nat):Int))),(9,(.int .i64 ((k :Nat):Int))),(7,ve),(8,(.int .i64 ((ex.kids.length :Nat):Int)))] : List (Nat × Value))) (fun (⟨k,sz⟩ : Nat × Nat) (W : World) => Ext w W ∧ k ≤ ex.kids.length ∧ sz = Ex.deeps (ex.kids.take k)) (fun (⟨k,sz⟩ : Nat × Nat) => ex.kids.length - k) (0,0) ⟨rfl,rfl,rfl,rfl,trivial⟩ ⟨hE1,sD,(by rw [List.take_zero,deeps_nil])⟩ ?_
 clear hE0 hz1 hX1 hzs1 hE1
 rintro ⟨k,sz⟩ ρ2 w2 ⟨hE2,hp2_0,hsz⟩
 have hzs2 : w.heap.size ≤ w2.heap.size := hE2.size
 refine wp_seq (wp_plain _ [0] rfl ?_)
 by_cases hc3 : ((k :Nat):Int) < ((ex.kids.length :Nat):Int)
 ·
  refine q_lss true rfl rfl (decide_eq_true hc3) zN (lw_nil (wp_seq (c_cond_t rfl (wp_skip (wp_seq (wp_block (wp_seq (wp_plain _ [0,2,3,4] rfl ?_))))))))
  have hst := sizes_step (l := ex.kids) (k := k) oM
  have hle := sizes_take ex.kids (k + 1)
  have hdt := deeps_step (l := ex.kids) (k := k) oM
  have hda := deep_size (ex.kids.getD k Ex.zero)
  refine q_idx (v := ve) k u78 tiS94 rfl rfl hex.rn.isSl rfl sD zN ?_
  obtain ⟨cs4,hr4,hl4⟩ := hex.rn.get (good_rEx dex) Ex.zero (k := k) sD
  obtain ⟨dd4,ve4,hd4,rfl,hx4⟩ := RX.of hr4
  have hln4 := hx4.rn.lenle
  unfold maxLen at hln4
  refine q_loadA (p := eptr ve k 5) (.inr rfl) [(.int .i64 ((ex.kids.getD k Ex.zero).kind)),(.int .i64 ((ex.kids.getD k Ex.zero).num)),(.int .i64 ((ex.kids.getD k Ex.zero).pick)),(.int .i64 ((ex.kids.getD k Ex.zero).count)),ve4] agg94 rfl (fun w9 hw9 => hl4 w9 (Chg.of_ext [] (hE2.trans hw9))) rfl zN (r_allocA (z := .agg #[.int .i64 0,.int .i64 0,.int .i64 0,.int .i64 0,.slice none 0 0]) zr94 zN fun w5 hX5 hz5 hB5 => ?_)
  have hzs5:=hX5.size
  have hE5:=hE2.trans hX5
  replace hB5 : BX w5.heap w2.heap.size [(.int .i64 0),(.int .i64 0),(.int .i64 0),(.int .i64 0),(.slice none 0 0)] := hB5
  refine e_setA (vs := [(.int .i64 ((ex.kids.getD k Ex.zero).kind)),(.int .i64 ((ex.kids.getD k Ex.zero).num)),(.int .i64 ((ex.kids.getD k Ex.zero).pick)),(.int .i64 ((ex.kids.getD k Ex.zero).count)),ve4]) agg94 rfl rfl hx4.ones hB5 rfl rfl zN fun w6 hC6 hz6 hB6 => ?_
  replace hB6 : BX w6.heap w2.heap.size [(.int .i64 ((ex.kids.getD k Ex.zero).kind)),(.int .i64 ((ex.kids.getD k Ex.zero).num)),(.int .i64 ((ex.kids.getD k Ex.zero).pick)),(.int .i64 ((ex.kids.getD k Ex.zero).count)),ve4] := hB6
  have hE6 : Ext w w6 := hC6.below hE5 (fun c hc => by have := List.mem_singleton.1 hc; omega) hE5.size
  have hzs6:=hC6.size
  refine lw_nil (wp_plain _ [0,2,3,0,0] rfl (lw_tv 1 rfl (q_loadA (p := (.pointer (some ⟨w2.heap.size,0,none⟩))) (.inr rfl) [(.int .i64 ((ex.kids.getD k Ex.zero).kind)),(.int .i64 ((ex.kids.getD k Ex.zero).num)),(.int .i64 ((ex.kids.getD k Ex.zero).pick)),(.int .i64 ((ex.kids.getD k Ex.zero).count)),ve4] agg94 rfl (fun w9 hw9 => LD.of_box (BX.ext (w := w6) hB6 hw9)) rfl zN (lw_call 143 [] [] [(.agg #[(.int .i64 ((ex.kids.getD k Ex.zero).kind)),(.int .i64 ((ex.kids.getD k Ex.zero).num)),(.int .i64 ((ex.kids.getD k Ex.zero).pick)),(.int .i64 ((ex.kids.getD k Ex.zero).count)),ve4])] rfl rfl cf143 zN (ih dd4 oM _ ve4 (ex.kids.getD k Ex.zero) (hx4.ext hE6) oM) ?_))))
  rintro e7 w7 ⟨rfl,hX7⟩
  refine ⟨_,rfl,hX7,?_⟩
  have hzs7:=hX7.size
  have hE7:=hE6.trans hX7
  have hB6x7 := hB6.ext hX7
  refine q_max ((max sz ((ex.kids.getD k Ex.zero).deep) :Nat):Int) oM rfl rfl zN (lw_tvn 1 rfl (wp_plain _ [0,0] rfl (q_add ((k + 1 :Nat):Int) rfl rfl (w64n oM sD) zN (lw_tvn 1 rfl ?_))))
  exact ⟨((k + 1),(max sz ((ex.kids.getD k Ex.zero).deep))),_,rfl,⟨rfl,rfl,rfl,rfl,trivial⟩,⟨hE7,sD,oM⟩,by first | omega | (dsimp only; omega)⟩
 ·
  refine q_lss false rfl rfl (decide_eq_false hc3) zN (lw_nil (wp_seq (c_cond_f rfl (wp_exit (t_exit (t_exit (c_exit_here (wp_seq (wp_plain _ [0,0,0] rfl ?_)))))))))
  have h8 := deeps_all (l := ex.kids) (k := k) oM
  have h9 := deep_size ex
  exact lw_tv 1 rfl (q_add ((sz + 1 :Nat):Int) rfl rfl (w64n oM oM) zN (lw_tvn 1 rfl (wp_ret (post_ret [2] rfl (.int .i64 ((sz + 1 :Nat):Int)) rfl ⟨(ret_int (by rw [hsz,deeps_all oM,hdk])),hE2⟩))))
end Go.Proofs.YtnofbmdpabcjaaaGreat
namespace Go.Proofs.YtnofbmdpabcjaaaGreat
open Go Go.RowKit
set_option linter.unusedVariables false
set_option linter.unusedSimpArgs false
set_option maxHeartbeats 4000000
set_option maxRecDepth 100000
attribute [local irreducible] LW
theorem not_f {b : Bool} (h : (!b) = false) : b = true := by cases b <;> simp_all
theorem not_t {b : Bool} (h : (!b) = true) : b = false := by cases b <;> simp_all
theorem wf_ret {p : List Fn} {funcs vars : Int} {e : Ex} {b : Bool} (h : e.kids.length = 0 ∨ b = false) (hb : wfN p funcs vars e = b) : Ending.returned (.bool b) = .returned (.bool (wf p funcs e vars)) := by
  rcases h with h | h
  · rw [wf_leaf h, hb]
  · subst h; rw [← wf_bad hb]
theorem z144_0 {p : Prop} (h : p := by first | exact ret_bool (wf_good hwn fun j hj => hall j oM) | exact ret_bool (wf_kid (k := k) oM (by first | (rw [if_pos oM]) | (rw [if_neg oM])) (not_t ‹_›)) | exact wf_ret (by first | exact .inr rfl | (left; omega) | (left; simp_all <;> omega)) (by (have hp9 := hpl.symm; clear hpl; unfold wfN inB; first | (simp [*]; done) | (simp [*]; omega) | (simp [*] <;> intros <;> omega) | (simp_all <;> omega)))) : p := h
theorem z144_1 {p : Prop} (h : p := by (have hp9 := hpl.symm; clear hpl; unfold wfN inB; first | (simp [*]; done) | (simp [*]; omega) | (simp [*] <;> intros <;> omega) | (simp_all <;> omega))) : p := h
theorem z144_2 {p : Prop} (h : p := by intro j hj; by_cases e9 : j = k; (rw [e9]; first | (rw [if_pos oM]; exact not_f ‹_›) | (rw [if_neg oM]; exact not_f ‹_›)); exact hall j oM) : p := h
theorem z144_3 {p : Prop} (h : p := by unfold plainB; first | (simp [*]; done) | (simp [*]; intros; omega) | (simp [*]; omega)) : p := h
theorem z144_4 {p : Prop} (h : p := by first | exact (decide_eq_true oM).symm | exact decide_eq_decide.2 oM) : p := h
theorem c_impl_checker_isFormed (w : World) (dp : Nat) (vp : Value) (p : List Fn) (funcs : Int) (dex : Nat) (ve : Value) (ex : Ex) (vars : Int) (hp : RP [] dp w.heap vp p) (_hfuncs : -9223372036854775808 ≤ funcs ∧ funcs ≤ 9223372036854775807) (hex : RX [] dex w.heap ve ex) (_hvars : -9223372036854775808 ≤ vars ∧ vars ≤ 9223372036854775807) (hs : 0 ≤ vars ∧ vars + (ex.deep : Int) ≤ 2000000000) (hf : 0 ≤ funcs ∧ funcs ≤ (p.length : Int)) :
  Calls Tryz.prog 144 #[(.agg #[vp,(.int .i64 funcs)]),(.agg #[(.int .i64 ex.kind),(.int .i64 ex.num),(.int .i64 ex.pick),(.int .i64 ex.count),ve]),.int .i64 vars] w (fun e w' => e = .returned (.bool (wf p funcs ex vars)) ∧ Ext w w') := by
 induction dex using Nat.strongRecOn generalizing w dp vp p funcs ve ex vars
 rename_i dex ih
 refine calls_mk [(.agg #[vp,(.int .i64 funcs)]),(.agg #[(.int .i64 ex.kind),(.int .i64 ex.num),(.int .i64 ex.pick),(.int .i64 ex.count),ve]),.int .i64 vars] 177 Tryz.func144 rfl rfl sM ?_
 have hE0 : Ext w w := Ext.refl w
 have hl_vp := hp.lenle
 unfold maxLen at hl_vp
 have hl_ve := hex.rn.lenle
 unfold maxLen at hl_ve
 have hdk := deep_kids ex
 refine wp_seq (wp_plain _ [3,3,0] rfl (r_boxA (cs := #[vp,(.int .i64 funcs)]) rfl zN fun w1 hX1 hz1 hB1 => ?_))
 have hzs1:=hX1.size
 have hE1:=hE0.trans hX1
 replace hB1 : BX w1.heap w.heap.size [vp,(.int .i64 funcs)] := hB1
 have hq3 := hB1.lt
 refine r_boxA (cs := #[(.int .i64 ex.kind),(.int .i64 ex.num),(.int .i64 ex.pick),(.int .i64 ex.count),ve]) rfl zN fun w2 hX2 hz2 hB2 => ?_
 have hzs2:=hX2.size
 have hE2:=hE1.trans hX2
 have hB1x2 := hB1.ext hX2
 replace hB2 : BX w2.heap w1.heap.size [(.int .i64 ex.kind),(.int .i64 ex.num),(.int .i64 ex.pick),(.int .i64 ex.count),ve] := hB2
 refine lw_tvn 1 rfl (wp_seq (wp_plain _ [0,2,0,0] rfl (q_fldP (p := (.pointer (some ⟨w1.heap.size,0,none⟩))) (b := w1.heap.size) (o := 0) 4 fd94_4 rfl rfl zN (q_load (p := (padd (.pointer (some ⟨w1.heap.size,0,none⟩)) 4)) (.inr rfl) ve one78 rfl (hB2.ldp (i := 4) sM) zN (q_len (v := ve) u78 rfl hex.rn.isSl zN (lw_tvn 1 rfl (wp_seq (c_cut (S := Bool) (fun (pl : Bool) => ([(8,(.bool pl)),(2,(.int .i64 vars)),(3,(.pointer (some ⟨w.heap.size,0,none⟩))),(4,(.pointer (some ⟨w1.heap.size,0,none⟩))),(7,(.int .i64 ((ex.kids.length :Nat):Int)))] : List (Nat × Value))) (fun (pl : Bool) (W : World) => Ext w W ∧ BX W.heap w.heap.size [vp,(.int .i64 funcs)] ∧ BX W.heap w1.heap.size [(.int .i64 ex.kind),(.int .i64 ex.num),(.int .i64 ex.pick),(.int .i64 ex.count),ve] ∧ pl = plainB ex) ?_ ?_))))))))
 ·
  refine wp_plain _ [0,2,0,0,0,2,0,0,0] rfl (q_fldP (p := (.pointer (some ⟨w1.heap.size,0,none⟩))) (b := w1.heap.size) (o := 0) 2 fd94_2 rfl rfl zN (q_load (p := (padd (.pointer (some ⟨w1.heap.size,0,none⟩)) 2)) (.inr rfl) (.int .i64 ex.pick) one2 rfl (hB2.ldp (i := 2) sM) zN ?_))
  by_cases hc5 : ex.pick = ((0 :Nat):Int)
  ·
   exact q_eql true rfl rfl (decide_eq_true hc5) zN (lw_tv 1 rfl (q_fldP (p := (.pointer (some ⟨w1.heap.size,0,none⟩))) (b := w1.heap.size) (o := 0) 3 fd94_3 rfl rfl (zS (e := 19) rfl rfl rfl) (q_load (p := (padd (.pointer (some ⟨w1.heap.size,0,none⟩)) 3)) (.inr rfl) (.int .i64 ex.count) one2 rfl (hB2.ldp (i := 3) sM) (zS (e := 19) rfl rfl rfl) (q_eql (decide (ex.count = ((0 :Nat):Int))) rfl rfl rfl (zS (e := 19) rfl rfl rfl) (lw_tvn 2 rfl ⟨(decide (ex.count = ((0 :Nat):Int))),_,rfl,⟨rfl,rfl,rfl,rfl,rfl,trivial⟩,⟨hE2,hB1x2,hB2,z144_3⟩⟩)))))
  ·
   exact q_eql false rfl rfl (decide_eq_false hc5) zN (lw_tvn 6 rfl ⟨false,_,rfl,⟨rfl,rfl,rfl,rfl,rfl,trivial⟩,⟨hE2,hB1x2,hB2,z144_3⟩⟩)
 ·
  clear hE0 hz1 hX1 hzs1 hE1 hz2 hX2 hzs2 hE2
  rintro pl ρ4 w4 ⟨hE4,hL4_0,hL4_1,hpl⟩
  have hzs4 : w.heap.size ≤ w4.heap.size := hE4.size
  have hq6 := hL4_0.lt
  have hq7 := hL4_1.lt
  refine wp_seq (c_cut (S := Unit) (fun (u : Unit) => ([(2,(.int .i64 vars)),(3,(.pointer (some ⟨w.heap.size,0,none⟩))),(4,(.pointer (some ⟨w1.heap.size,0,none⟩)))] : List (Nat × Value))) (fun (u : Unit) (W : World) => Ext w W ∧ BX W.heap w.heap.size [vp,(.int .i64 funcs)] ∧ BX W.heap w1.heap.size [(.int .i64 ex.kind),(.int .i64 ex.num),(.int .i64 ex.pick),(.int .i64 ex.count),ve] ∧ wfN p funcs vars ex = true) ?_ ?_)
  ·
   refine wp_seq (wp_plain _ [0,2] rfl (q_fldP (p := (.pointer (some ⟨w1.heap.size,0,none⟩))) (b := w1.heap.size) (o := 0) 0 fd94_0 rfl rfl zN (q_load (p := (padd (.pointer (some ⟨w1.heap.size,0,none⟩)) 0)) (.inr rfl) (.int .i64 ex.kind) one2 rfl (hL4_1.ldp (i := 0) sM) zN (lw_nil (wp_block (wp_seq (wp_plain _ [0,0] rfl ?_)))))))
   by_cases hc9 : ex.kind = ((1 :Nat):Int)
   ·
    refine q_eql true rfl rfl (decide_eq_true hc9) zN (lw_tvn 1 rfl (c_cond_t rfl (wp_seq (wp_plain _ [0,0,0,0,0,0,0,2,0,0,0] rfl (lw_tv 2 rfl ?_)))))
    cases hb10 : pl
    ·
     exact lw_tvn 9 rfl (wp_ret (b_ret (t_ret (post_ret [6] rfl (.bool false) rfl ⟨z144_0,hE4⟩))))
    ·
     refine lw_tv 1 rfl ?_
     by_cases hc11 : ((ex.kids.length :Nat):Int) = ((0 :Nat):Int)
     ·
      refine q_eql true rfl rfl (decide_eq_true hc11) (zS (e := 29) rfl rfl rfl) (lw_tv 2 rfl (q_fldP (p := (.pointer (some ⟨w1.heap.size,0,none⟩))) (b := w1.heap.size) (o := 0) 1 fd94_1 rfl rfl (zS (e := 33) rfl rfl rfl) (q_load (p := (padd (.pointer (some ⟨w1.heap.size,0,none⟩)) 1)) (.inr rfl) (.int .i64 ex.num) one2 rfl (hL4_1.ldp (i := 1) sM) (zS (e := 33) rfl rfl rfl) (lw_callq 123 [] [] [(.int .i64 ex.num)] rfl rfl cf123 (zS (e := 33) rfl rfl rfl) (.bool (isN ex.num)) (fun wq => c_impl_isNumber wq _ hex.rng.num) (lw_tvn 2 rfl (wp_ret (b_ret (t_ret ?_))))))))
      exact post_ret [6] rfl (.bool (isN ex.num)) rfl ⟨z144_0,hE4⟩
     ·
      exact q_eql false rfl rfl (decide_eq_false hc11) (zS (e := 29) rfl rfl rfl) (lw_tvn 7 rfl (wp_ret (b_ret (t_ret (post_ret [6] rfl (.bool false) rfl ⟨z144_0,hE4⟩)))))
   ·
    refine q_eql false rfl rfl (decide_eq_false hc9) zN (lw_tvn 1 rfl (c_cond_f rfl (wp_seq (wp_plain _ [0,0] rfl ?_))))
    by_cases hc13 : ex.kind = ((2 :Nat):Int)
    ·
     refine q_eql true rfl rfl (decide_eq_true hc13) zN (lw_tvn 1 rfl (c_cond_t rfl (wp_seq (wp_plain _ [0,0,0,0,0,0,0,2,0,0,0,0,0] rfl (lw_tv 2 rfl ?_)))))
     cases hb14 : pl
     ·
      exact lw_tvn 11 rfl (wp_ret (b_ret (t_ret (post_ret [6] rfl (.bool false) rfl ⟨z144_0,hE4⟩))))
     ·
      refine lw_tv 1 rfl ?_
      by_cases hc15 : ((ex.kids.length :Nat):Int) = ((0 :Nat):Int)
      ·
       refine q_eql true rfl rfl (decide_eq_true hc15) (zS (e := 41) rfl rfl rfl) (lw_tv 2 rfl (q_fldP (p := (.pointer (some ⟨w1.heap.size,0,none⟩))) (b := w1.heap.size) (o := 0) 1 fd94_1 rfl rfl (zS (e := 45) rfl rfl rfl) (q_load (p := (padd (.pointer (some ⟨w1.heap.size,0,none⟩)) 1)) (.inr rfl) (.int .i64 ex.num) one2 rfl (hL4_1.ldp (i := 1) sM) (zS (e := 45) rfl rfl rfl) (lw_tv 1 rfl (q_sub (vars - 1) rfl rfl (w64 oM oM) (zS (e := 45) rfl rfl rfl) (lw_callq 68 [] [] [(.int .i64 ex.num),(.int .i64 ((0 :Nat):Int)),(.int .i64 (vars - 1))] rfl rfl cf68 (zS (e := 45) rfl rfl rfl) (.bool (decide (((0 :Nat):Int) ≤ ex.num) && decide (ex.num ≤ (vars - 1)))) (fun wq => c_impl_within wq _ _ _ hex.rng.num oM oM) (lw_tvn 2 rfl (wp_ret (b_ret ?_)))))))))
       exact t_ret (post_ret [6] rfl (.bool (decide (((0 :Nat):Int) ≤ ex.num) && decide (ex.num ≤ (vars - 1)))) rfl ⟨z144_0,hE4⟩)
      ·
       exact q_eql false rfl rfl (decide_eq_false hc15) (zS (e := 41) rfl rfl rfl) (lw_tvn 9 rfl (wp_ret (b_ret (t_ret (post_ret [6] rfl (.bool false) rfl ⟨z144_0,hE4⟩)))))
    ·
     refine q_eql false rfl rfl (decide_eq_false hc13) zN (lw_tvn 1 rfl (c_cond_f rfl (wp_seq (c_cut (S := Bool) (fun (b5 : Bool) => ([(52,(.bool b5)),(2,(.int .i64 vars)),(3,(.pointer (some ⟨w.heap.size,0,none⟩))),(4,(.pointer (some ⟨w1.heap.size,0,none⟩))),(7,(.int .i64 ((ex.kids.length :Nat):Int))),(8,(.bool pl)),(25,(.int .i64 ex.kind))] : List (Nat × Value))) (fun (b5 : Bool) (W : World) => Ext w W ∧ BX W.heap w.heap.size [vp,(.int .i64 funcs)] ∧ BX W.heap w1.heap.size [(.int .i64 ex.kind),(.int .i64 ex.num),(.int .i64 ex.pick),(.int .i64 ex.count),ve] ∧ b5 = decide (ex.kind = 3 ∨ ex.kind = 4 ∨ ex.kind = 5 ∨ ex.kind = 6 ∨ ex.kind = 9)) ?_ ?_))))
     ·
      refine wp_seq (wp_plain _ [0,0] rfl ?_)
      by_cases hc18 : ex.kind = ((3 :Nat):Int)
      ·
       exact q_eql true rfl rfl (decide_eq_true hc18) zN (lw_tvn 1 rfl (c_cond_t rfl (wp_skip ⟨true,_,rfl,⟨rfl,rfl,rfl,rfl,rfl,rfl,rfl,trivial⟩,⟨hE4,hL4_0,hL4_1,z144_4⟩⟩)))
      ·
       refine q_eql false rfl rfl (decide_eq_false hc18) zN (lw_tvn 1 rfl (c_cond_f rfl (wp_seq (wp_plain _ [0,0] rfl ?_))))
       by_cases hc19 : ex.kind = ((4 :Nat):Int)
       ·
        exact q_eql true rfl rfl (decide_eq_true hc19) zN (lw_tvn 1 rfl (c_cond_t rfl (wp_skip ⟨true,_,rfl,⟨rfl,rfl,rfl,rfl,rfl,rfl,rfl,trivial⟩,⟨hE4,hL4_0,hL4_1,z144_4⟩⟩)))
       ·
        refine q_eql false rfl rfl (decide_eq_false hc19) zN (lw_tvn 1 rfl (c_cond_f rfl (wp_seq (wp_plain _ [0,0] rfl ?_))))
        by_cases hc20 : ex.kind = ((5 :Nat):Int)
        ·
         exact q_eql true rfl rfl (decide_eq_true hc20) zN (lw_tvn 1 rfl (c_cond_t rfl (wp_skip ⟨true,_,rfl,⟨rfl,rfl,rfl,rfl,rfl,rfl,rfl,trivial⟩,⟨hE4,hL4_0,hL4_1,z144_4⟩⟩)))
        ·
         refine q_eql false rfl rfl (decide_eq_false hc20) zN (lw_tvn 1 rfl (c_cond_f rfl (wp_seq (wp_plain _ [0,0] rfl ?_))))
         by_cases hc21 : ex.kind = ((6 :Nat):Int)
         ·
          exact q_eql true rfl rfl (decide_eq_true hc21) zN (lw_tvn 1 rfl (c_cond_t rfl (wp_skip ⟨true,_,rfl,⟨rfl,rfl,rfl,rfl,rfl,rfl,rfl,trivial⟩,⟨hE4,hL4_0,hL4_1,z144_4⟩⟩)))
         ·
          exact q_eql false rfl rfl (decide_eq_false hc21) zN (lw_tvn 1 rfl (c_cond_f rfl (wp_plain _ [0,0] rfl (q_eql (decide (ex.kind = ((9 :Nat):Int))) rfl rfl rfl zN (lw_tvn 1 rfl ⟨(decide (ex.kind = ((9 :Nat):Int))),_,rfl,⟨rfl,rfl,rfl,rfl,rfl,rfl,rfl,trivial⟩,⟨hE4,hL4_0,hL4_1,z144_4⟩⟩)))))
     ·
      clear hL4_1 hL4_0 hE4 hzs4
      rintro b5 ρ17 w17 ⟨hE17,hL17_0,hL17_1,h5b⟩
      have hzs17 : w.heap.size ≤ w17.heap.size := hE17.size
      have hq22 := hL17_0.lt
      have hq23 := hL17_1.lt
      cases hb24 : b5
      ·
       refine c_cond_f (by first | rfl | (show Value.bool _ = _; rw [hb24])) (wp_seq (wp_plain _ [0,0] rfl ?_))
       have h5n := of_decide_eq_false (h5b.symm.trans ‹_›)
       clear h5b
       by_cases hc25 : ex.kind = ((7 :Nat):Int)
       ·
        refine q_eql true rfl rfl (decide_eq_true hc25) zN (lw_tvn 1 rfl (c_cond_t rfl (wp_seq (wp_plain _ [0,0,0,0,2,0,0,0,0,0,0] rfl (lw_tv 1 rfl (q_not (!pl) rfl rfl zN (lw_tv 1 rfl ?_)))))))
        cases hb26 : (!pl)
        ·
         refine q_fldP (p := (.pointer (some ⟨w1.heap.size,0,none⟩))) (b := w1.heap.size) (o := 0) 1 fd94_1 rfl rfl (zS (e := 73) rfl rfl rfl) (q_load (p := (padd (.pointer (some ⟨w1.heap.size,0,none⟩)) 1)) (.inr rfl) (.int .i64 ex.num) one2 rfl (hL17_1.ldp (i := 1) sM) (zS (e := 73) rfl rfl rfl) ?_)
         by_cases hc27 : ex.num ≠ ((0 :Nat):Int)
         ·
          exact q_neq true rfl rfl (decide_eq_true hc27) (zS (e := 73) rfl rfl rfl) (lw_tvn 5 rfl (c_cond_t rfl (wp_seq (wp_plain _ [0] rfl (lw_tvn 1 rfl (wp_ret (b_ret (t_ret (post_ret [6] rfl (.bool false) rfl ⟨z144_0,hE17⟩)))))))))
         ·
          refine q_neq false rfl rfl (decide_eq_false hc27) (zS (e := 73) rfl rfl rfl) (lw_tv 3 rfl ?_)
          by_cases hc28 : ((ex.kids.length :Nat):Int) ≠ ((1 :Nat):Int)
          ·
           exact q_neq true rfl rfl (decide_eq_true hc28) (zS (e := 78) rfl rfl rfl) (lw_tvn 1 rfl (c_cond_t rfl (wp_seq (wp_plain _ [0] rfl (lw_tvn 1 rfl (wp_ret (b_ret (t_ret (post_ret [6] rfl (.bool false) rfl ⟨z144_0,hE17⟩)))))))))
          ·
           exact q_neq false rfl rfl (decide_eq_false hc28) (zS (e := 78) rfl rfl rfl) (lw_tvn 1 rfl (c_cond_f rfl (wp_skip ⟨(),_,rfl,⟨rfl,rfl,rfl,trivial⟩,⟨hE17,hL17_0,hL17_1,z144_1⟩⟩)))
        ·
         exact lw_tvn 8 rfl (c_cond_t rfl (wp_seq (wp_plain _ [0] rfl (lw_tvn 1 rfl (wp_ret (b_ret (t_ret (post_ret [6] rfl (.bool false) rfl ⟨z144_0,hE17⟩))))))))
       ·
        refine q_eql false rfl rfl (decide_eq_false hc25) zN (lw_tvn 1 rfl (c_cond_f rfl (wp_seq (wp_plain _ [0,0] rfl ?_))))
        by_cases hc29 : ex.kind = ((8 :Nat):Int)
        ·
         refine q_eql true rfl rfl (decide_eq_true hc29) zN (lw_tvn 1 rfl (c_cond_t rfl (wp_seq (wp_plain _ [0,0,0,0,2,0,0,0,0,0,0] rfl (lw_tv 1 rfl (q_not (!pl) rfl rfl zN (lw_tv 1 rfl ?_)))))))
         cases hb30 : (!pl)
         ·
          refine q_fldP (p := (.pointer (some ⟨w1.heap.size,0,none⟩))) (b := w1.heap.size) (o := 0) 1 fd94_1 rfl rfl (zS (e := 86) rfl rfl rfl) (q_load (p := (padd (.pointer (some ⟨w1.heap.size,0,none⟩)) 1)) (.inr rfl) (.int .i64 ex.num) one2 rfl (hL17_1.ldp (i := 1) sM) (zS (e := 86) rfl rfl rfl) ?_)
          by_cases hc31 : ex.num ≠ ((0 :Nat):Int)
          ·
           exact q_neq true rfl rfl (decide_eq_true hc31) (zS (e := 86) rfl rfl rfl) (lw_tvn 5 rfl (c_cond_t rfl (wp_seq (wp_plain _ [0] rfl (lw_tvn 1 rfl (wp_ret (b_ret (t_ret (post_ret [6] rfl (.bool false) rfl ⟨z144_0,hE17⟩)))))))))
          ·
           refine q_neq false rfl rfl (decide_eq_false hc31) (zS (e := 86) rfl rfl rfl) (lw_tv 3 rfl ?_)
           by_cases hc32 : ((ex.kids.length :Nat):Int) ≠ ((3 :Nat):Int)
           ·
            exact q_neq true rfl rfl (decide_eq_true hc32) (zS (e := 91) rfl rfl rfl) (lw_tvn 1 rfl (c_cond_t rfl (wp_seq (wp_plain _ [0] rfl (lw_tvn 1 rfl (wp_ret (b_ret (t_ret (post_ret [6] rfl (.bool false) rfl ⟨z144_0,hE17⟩)))))))))
           ·
            exact q_neq false rfl rfl (decide_eq_false hc32) (zS (e := 91) rfl rfl rfl) (lw_tvn 1 rfl (c_cond_f rfl (wp_skip ⟨(),_,rfl,⟨rfl,rfl,rfl,trivial⟩,⟨hE17,hL17_0,hL17_1,z144_1⟩⟩)))
         ·
          exact lw_tvn 8 rfl (c_cond_t rfl (wp_seq (wp_plain _ [0] rfl (lw_tvn 1 rfl (wp_ret (b_ret (t_ret (post_ret [6] rfl (.bool false) rfl ⟨z144_0,hE17⟩))))))))
        ·
         refine q_eql false rfl rfl (decide_eq_false hc29) zN (lw_tvn 1 rfl (c_cond_f rfl (wp_seq (c_cut (S := Bool) (fun (b10 : Bool) => ([(95,(.bool b10)),(2,(.int .i64 vars)),(3,(.pointer (some ⟨w.heap.size,0,none⟩))),(4,(.pointer (some ⟨w1.heap.size,0,none⟩))),(7,(.int .i64 ((ex.kids.length :Nat):Int)))] : List (Nat × Value))) (fun (b10 : Bool) (W : World) => Ext w W ∧ BX W.heap w.heap.size [vp,(.int .i64 funcs)] ∧ BX W.heap w1.heap.size [(.int .i64 ex.kind),(.int .i64 ex.num),(.int .i64 ex.pick),(.int .i64 ex.count),ve] ∧ b10 = decide (ex.kind = 10 ∨ ex.kind = 11)) ?_ ?_))))
         ·
          refine wp_seq (wp_plain _ [0,0] rfl ?_)
          by_cases hc34 : ex.kind = ((10 :Nat):Int)
          ·
           exact q_eql true rfl rfl (decide_eq_true hc34) zN (lw_tvn 1 rfl (c_cond_t rfl (wp_skip ⟨true,_,rfl,⟨rfl,rfl,rfl,rfl,rfl,trivial⟩,⟨hE17,hL17_0,hL17_1,z144_4⟩⟩)))
          ·
           exact q_eql false rfl rfl (decide_eq_false hc34) zN (lw_tvn 1 rfl (c_cond_f rfl (wp_plain _ [0,0] rfl (q_eql (decide (ex.kind = ((11 :Nat):Int))) rfl rfl rfl zN (lw_tvn 1 rfl ⟨(decide (ex.kind = ((11 :Nat):Int))),_,rfl,⟨rfl,rfl,rfl,rfl,rfl,trivial⟩,⟨hE17,hL17_0,hL17_1,z144_4⟩⟩)))))
         ·
          clear hL17_1 hL17_0 hE17 hzs17
          rintro b10 ρ33 w33 ⟨hE33,hL33_0,hL33_1,h10b⟩
          have hzs33 : w.heap.size ≤ w33.heap.size := hE33.size
          have hq35 := hL33_0.lt
          have hq36 := hL33_1.lt
          cases hb37 : b10
          ·
           refine c_cond_f (by first | rfl | (show Value.bool _ = _; rw [hb37])) (wp_seq (wp_plain _ [0] rfl ?_))
           have h10n := of_decide_eq_false (h10b.symm.trans ‹_›)
           clear h10b
           exact lw_tvn 1 rfl (wp_ret (b_ret (t_ret (post_ret [6] rfl (.bool false) rfl ⟨z144_0,hE33⟩))))
          ·
           refine c_cond_t (by first | rfl | (show Value.bool _ = _; rw [hb37])) (wp_seq (wp_seq (wp_plain _ [0,2,0,2,0,0,0] rfl ?_)))
           have h5k := of_decide_eq_true (h10b.symm.trans ‹_›)
           clear h10b
           refine q_fldP (p := (.pointer (some ⟨w1.heap.size,0,none⟩))) (b := w1.heap.size) (o := 0) 1 fd94_1 rfl rfl zN (q_load (p := (padd (.pointer (some ⟨w1.heap.size,0,none⟩)) 1)) (.inr rfl) (.int .i64 ex.num) one2 rfl (hL33_1.ldp (i := 1) sM) zN (q_fldP (p := (.pointer (some ⟨w.heap.size,0,none⟩))) (b := w.heap.size) (o := 0) 1 fd166_1 rfl rfl zN (q_load (p := (padd (.pointer (some ⟨w.heap.size,0,none⟩)) 1)) (.inr rfl) (.int .i64 funcs) one2 rfl (hL33_0.ldp (i := 1) sM) zN (q_sub (funcs - 1) rfl rfl (w64 oM oM) zN (lw_callq 68 [] [] [(.int .i64 ex.num),(.int .i64 ((0 :Nat):Int)),(.int .i64 (funcs - 1))] rfl rfl cf68 zN (.bool (decide (((0 :Nat):Int) ≤ ex.num) && decide (ex.num ≤ (funcs - 1)))) (fun wq => c_impl_within wq _ _ _ hex.rng.num oM oM) ?_)))))
           refine q_not (!(decide (((0 :Nat):Int) ≤ ex.num) && decide (ex.num ≤ (funcs - 1)))) rfl rfl zN (lw_nil ?_)
           cases hb39 : (!(decide (((0 :Nat):Int) ≤ ex.num) && decide (ex.num ≤ (funcs - 1))))
           ·
            refine c_cond_f (by first | rfl | (show Value.bool _ = _; rw [hb39])) (wp_skip (wp_seq (wp_plain _ [0,0,2,0,2,0,2,3,4] rfl ?_)))
            have hnr : 0 ≤ ex.num ∧ ex.num ≤ funcs - 1 := by have h9 := ‹(!(decide (((0 :Nat):Int) ≤ ex.num) && decide (ex.num ≤ funcs - 1))) = false›; simpa using h9
            refine q_fldP (p := (.pointer (some ⟨w.heap.size,0,none⟩))) (b := w.heap.size) (o := 0) 0 fd166_0 rfl rfl zN (q_fldP (p := (padd (.pointer (some ⟨w.heap.size,0,none⟩)) 0)) (b := w.heap.size) (o := 0) 0 fd32_0 rfl rfl zN (q_load (p := (padd (padd (.pointer (some ⟨w.heap.size,0,none⟩)) 0) 0)) (.inr rfl) vp one30 rfl (hL33_0.ldp (i := 0) sM) zN (q_fldP (p := (.pointer (some ⟨w1.heap.size,0,none⟩))) (b := w1.heap.size) (o := 0) 1 fd94_1 rfl rfl zN (q_load (p := (padd (.pointer (some ⟨w1.heap.size,0,none⟩)) 1)) (.inr rfl) (.int .i64 ex.num) one2 rfl (hL33_1.ldp (i := 1) sM) zN ?_))))
            refine q_idx (v := vp) ((ex.num).toNat) u30 tiS80 rfl rfl hp.isSl oM sD zN ?_
            obtain ⟨cs40,hr40,hl40⟩ := hp.get (good_rFn dp) Fn.zero (k := ((ex.num).toNat)) sD
            obtain ⟨ve40,rfl,hx40⟩ := RF.of hr40
            have hln40 := hx40.rn.lenle
            unfold maxLen at hln40
            refine q_loadA (p := eptr vp ((ex.num).toNat) 3) (.inr rfl) [(.string ((p.getD ((ex.num).toNat) Fn.zero).name)),(.int .i64 ((p.getD ((ex.num).toNat) Fn.zero).params)),ve40] agg80 rfl (fun w9 hw9 => hl40 w9 (Chg.of_ext [] (hE33.trans hw9))) rfl zN ?_
            have hq42 := hL33_0.lt
            have hq43 := hL33_1.lt
            refine r_allocA (z := .agg #[.string ByteArray.empty,.int .i64 0,.slice none 0 0]) zr80 zN fun w41 hX41 hz41 hB41 => ?_
            have hzs41:=hX41.size
            have hE41:=hE33.trans hX41
            have hL33_0x41 := hL33_0.ext hX41
            have hL33_1x41 := hL33_1.ext hX41
            replace hB41 : BX w41.heap w33.heap.size [(.string ByteArray.empty),(.int .i64 0),(.slice none 0 0)] := hB41
            refine e_setA (vs := [(.string ((p.getD ((ex.num).toNat) Fn.zero).name)),(.int .i64 ((p.getD ((ex.num).toNat) Fn.zero).params)),ve40]) agg80 rfl rfl hx40.ones hB41 rfl rfl zN fun w44 hC44 hz44 hB44 => ?_
            replace hB44 : BX w44.heap w33.heap.size [(.string ((p.getD ((ex.num).toNat) Fn.zero).name)),(.int .i64 ((p.getD ((ex.num).toNat) Fn.zero).params)),ve40] := hB44
            have hE44 : Ext w w44 := hC44.below hE41 (fun c hc => by have := List.mem_singleton.1 hc; omega) hE41.size
            have hzs44:=hC44.size
            have hF45 := hL33_0x41.chg hC44 (fun hm => by have := List.mem_singleton.1 hm; omega)
            have hF46 := hL33_1x41.chg hC44 (fun hm => by have := List.mem_singleton.1 hm; omega)
            refine lw_nil (wp_seq (wp_seq (wp_plain _ [0,0,2,0,0,0,2,0,2,0,0,0,0,0] rfl (lw_tv 1 rfl (q_fldP (p := (.pointer (some ⟨w33.heap.size,0,none⟩))) (b := w33.heap.size) (o := 0) 1 fd80_1 rfl rfl zN (q_load (p := (padd (.pointer (some ⟨w33.heap.size,0,none⟩)) 1)) (.inr rfl) (.int .i64 ((p.getD ((ex.num).toNat) Fn.zero).params)) one2 rfl (hB44.ldp (i := 1) sM) zN ?_))))))
            by_cases hc47 : ((ex.kids.length :Nat):Int) ≠ (p.getD ((ex.num).toNat) Fn.zero).params
            ·
             exact q_neq true rfl rfl (decide_eq_true hc47) zN (lw_tvn 10 rfl (c_cond_t rfl (wp_seq (wp_plain _ [0] rfl (lw_tvn 1 rfl (wp_ret (t_ret (b_ret (t_ret (post_ret [6] rfl (.bool false) rfl ⟨z144_0,hE44⟩))))))))))
            ·
             refine q_neq false rfl rfl (decide_eq_false hc47) zN (lw_tv 1 rfl (q_fldP (p := (.pointer (some ⟨w1.heap.size,0,none⟩))) (b := w1.heap.size) (o := 0) 2 fd94_2 rfl rfl (zS (e := 116) rfl rfl rfl) (q_load (p := (padd (.pointer (some ⟨w1.heap.size,0,none⟩)) 2)) (.inr rfl) (.int .i64 ex.pick) one2 rfl (hF46.ldp (i := 2) sM) (zS (e := 116) rfl rfl rfl) (q_fldP (p := (.pointer (some ⟨w33.heap.size,0,none⟩))) (b := w33.heap.size) (o := 0) 2 fd80_2 rfl rfl (zS (e := 116) rfl rfl rfl) (q_load (p := (padd (.pointer (some ⟨w33.heap.size,0,none⟩)) 2)) (.inr rfl) ve40 one78 rfl (hB44.ldp (i := 2) sM) (zS (e := 116) rfl rfl rfl) (q_len (v := ve40) u78 rfl hx40.rn.isSl (zS (e := 116) rfl rfl rfl) ?_))))))
             refine q_sub (((p.getD (ex.num).toNat Fn.zero).outs.length : Int) - 1) rfl rfl (w64 oM oM) (zS (e := 116) rfl rfl rfl) (lw_callq 68 [] [] [(.int .i64 ex.pick),(.int .i64 ((0 :Nat):Int)),(.int .i64 (((p.getD (ex.num).toNat Fn.zero).outs.length : Int) - 1))] rfl rfl cf68 (zS (e := 116) rfl rfl rfl) (.bool (decide (((0 :Nat):Int) ≤ ex.pick) && decide (ex.pick ≤ (((p.getD (ex.num).toNat Fn.zero).outs.length : Int) - 1)))) (fun wq => c_impl_within wq _ _ _ hex.rng.pick oM oM) (q_not (!(decide (((0 :Nat):Int) ≤ ex.pick) && decide (ex.pick ≤ (((p.getD (ex.num).toNat Fn.zero).outs.length : Int) - 1)))) rfl rfl (zS (e := 116) rfl rfl rfl) (lw_tvn 1 rfl ?_)))
             cases hb49 : (!(decide (((0 :Nat):Int) ≤ ex.pick) && decide (ex.pick ≤ (((p.getD (ex.num).toNat Fn.zero).outs.length : Int) - 1))))
             ·
              refine c_cond_f (by first | rfl | (show Value.bool _ = _; rw [hb49])) (wp_skip (wp_seq (wp_plain _ [0,2,0,0,0,2,0,0,0,0,2,0,0,0,2,0,0,2,0,0,0,2,0,0,0,0,0] rfl (q_fldP (p := (.pointer (some ⟨w1.heap.size,0,none⟩))) (b := w1.heap.size) (o := 0) 0 fd94_0 rfl rfl zN (q_load (p := (padd (.pointer (some ⟨w1.heap.size,0,none⟩)) 0)) (.inr rfl) (.int .i64 ex.kind) one2 rfl (hF46.ldp (i := 0) sM) zN ?_)))))
              by_cases hc50 : ex.kind = ((10 :Nat):Int)
              ·
               refine q_eql true rfl rfl (decide_eq_true hc50) zN (lw_tv 1 rfl (q_fldP (p := (.pointer (some ⟨w1.heap.size,0,none⟩))) (b := w1.heap.size) (o := 0) 3 fd94_3 rfl rfl (zS (e := 129) rfl rfl rfl) (q_load (p := (padd (.pointer (some ⟨w1.heap.size,0,none⟩)) 3)) (.inr rfl) (.int .i64 ex.count) one2 rfl (hF46.ldp (i := 3) sM) (zS (e := 129) rfl rfl rfl) ?_)))
               by_cases hc51 : ex.count ≠ ((0 :Nat):Int)
               ·
                exact q_neq true rfl rfl (decide_eq_true hc51) (zS (e := 129) rfl rfl rfl) (lw_tvn 20 rfl (c_cond_t rfl (wp_seq (wp_plain _ [0] rfl (lw_tvn 1 rfl (wp_ret (b_ret (t_ret (post_ret [6] rfl (.bool false) rfl ⟨z144_0,hE44⟩)))))))))
               ·
                refine q_neq false rfl rfl (decide_eq_false hc51) (zS (e := 129) rfl rfl rfl) (lw_tv 2 rfl (q_fldP (p := (.pointer (some ⟨w1.heap.size,0,none⟩))) (b := w1.heap.size) (o := 0) 0 fd94_0 rfl rfl (zS (e := 134) rfl rfl rfl) (q_load (p := (padd (.pointer (some ⟨w1.heap.size,0,none⟩)) 0)) (.inr rfl) (.int .i64 ex.kind) one2 rfl (hF46.ldp (i := 0) sM) (zS (e := 134) rfl rfl rfl) ?_)))
                by_cases hc52 : ex.kind = ((11 :Nat):Int)
                ·
                 refine q_eql true rfl rfl (decide_eq_true hc52) (zS (e := 134) rfl rfl rfl) (lw_tv 1 rfl (q_fldP (p := (.pointer (some ⟨w33.heap.size,0,none⟩))) (b := w33.heap.size) (o := 0) 2 fd80_2 rfl rfl (zS (e := 138) rfl rfl rfl) (q_load (p := (padd (.pointer (some ⟨w33.heap.size,0,none⟩)) 2)) (.inr rfl) ve40 one78 rfl (hB44.ldp (i := 2) sM) (zS (e := 138) rfl rfl rfl) (q_len (v := ve40) u78 rfl hx40.rn.isSl (zS (e := 138) rfl rfl rfl) (q_fldP (p := (.pointer (some ⟨w33.heap.size,0,none⟩))) (b := w33.heap.size) (o := 0) 1 fd80_1 rfl rfl (zS (e := 138) rfl rfl rfl) (q_load (p := (padd (.pointer (some ⟨w33.heap.size,0,none⟩)) 1)) (.inr rfl) (.int .i64 ((p.getD ((ex.num).toNat) Fn.zero).params)) one2 rfl (hB44.ldp (i := 1) sM) (zS (e := 138) rfl rfl rfl) ?_))))))
                 by_cases hc53 : ((((p.getD ((ex.num).toNat) Fn.zero).outs).length :Nat):Int) ≠ (p.getD ((ex.num).toNat) Fn.zero).params
                 ·
                  exact q_neq true rfl rfl (decide_eq_true hc53) (zS (e := 138) rfl rfl rfl) (lw_tvn 8 rfl (c_cond_t rfl (wp_seq (wp_plain _ [0] rfl (lw_tvn 1 rfl (wp_ret (b_ret (t_ret (post_ret [6] rfl (.bool false) rfl ⟨z144_0,hE44⟩)))))))))
                 ·
                  refine q_neq false rfl rfl (decide_eq_false hc53) (zS (e := 138) rfl rfl rfl) (lw_tv 1 rfl (q_fldP (p := (.pointer (some ⟨w1.heap.size,0,none⟩))) (b := w1.heap.size) (o := 0) 3 fd94_3 rfl rfl (zS (e := 145) rfl rfl rfl) (q_load (p := (padd (.pointer (some ⟨w1.heap.size,0,none⟩)) 3)) (.inr rfl) (.int .i64 ex.count) one2 rfl (hF46.ldp (i := 3) sM) (zS (e := 145) rfl rfl rfl) (lw_callq 68 [] [] [(.int .i64 ex.count),(.int .i64 ((0 :Nat):Int)),(.int .i64 ((8 :Nat):Int))] rfl rfl cf68 (zS (e := 145) rfl rfl rfl) (.bool (decide (((0 :Nat):Int) ≤ ex.count) && decide (ex.count ≤ ((8 :Nat):Int)))) (fun wq => c_impl_within wq _ _ _ hex.rng.count oM oM) (q_not (!(decide (((0 :Nat):Int) ≤ ex.count) && decide (ex.count ≤ ((8 :Nat):Int)))) rfl rfl (zS (e := 145) rfl rfl rfl) ?_)))))
                  refine lw_tvn 3 rfl ?_
                  cases hb55 : (!(decide (((0 :Nat):Int) ≤ ex.count) && decide (ex.count ≤ ((8 :Nat):Int))))
                  ·
                   exact c_cond_f (by first | rfl | (show Value.bool _ = _; rw [hb55])) (wp_skip ⟨(),_,rfl,⟨rfl,rfl,rfl,trivial⟩,⟨hE44,hF45,hF46,z144_1⟩⟩)
                  ·
                   exact c_cond_t (by first | rfl | (show Value.bool _ = _; rw [hb55])) (wp_seq (wp_plain _ [0] rfl (lw_tvn 1 rfl (wp_ret (b_ret (t_ret (post_ret [6] rfl (.bool false) rfl ⟨z144_0,hE44⟩)))))))
                ·
                 exact q_eql false rfl rfl (decide_eq_false hc52) (zS (e := 134) rfl rfl rfl) (lw_tvn 15 rfl (c_cond_f rfl (wp_skip ⟨(),_,rfl,⟨rfl,rfl,rfl,trivial⟩,⟨hE44,hF45,hF46,z144_1⟩⟩)))
              ·
               refine q_eql false rfl rfl (decide_eq_false hc50) zN (lw_tv 6 rfl (q_fldP (p := (.pointer (some ⟨w1.heap.size,0,none⟩))) (b := w1.heap.size) (o := 0) 0 fd94_0 rfl rfl (zS (e := 134) rfl rfl rfl) (q_load (p := (padd (.pointer (some ⟨w1.heap.size,0,none⟩)) 0)) (.inr rfl) (.int .i64 ex.kind) one2 rfl (hF46.ldp (i := 0) sM) (zS (e := 134) rfl rfl rfl) ?_)))
               by_cases hc56 : ex.kind = ((11 :Nat):Int)
               ·
                refine q_eql true rfl rfl (decide_eq_true hc56) (zS (e := 134) rfl rfl rfl) (lw_tv 1 rfl (q_fldP (p := (.pointer (some ⟨w33.heap.size,0,none⟩))) (b := w33.heap.size) (o := 0) 2 fd80_2 rfl rfl (zS (e := 138) rfl rfl rfl) (q_load (p := (padd (.pointer (some ⟨w33.heap.size,0,none⟩)) 2)) (.inr rfl) ve40 one78 rfl (hB44.ldp (i := 2) sM) (zS (e := 138) rfl rfl rfl) (q_len (v := ve40) u78 rfl hx40.rn.isSl (zS (e := 138) rfl rfl rfl) (q_fldP (p := (.pointer (some ⟨w33.heap.size,0,none⟩))) (b := w33.heap.size) (o := 0) 1 fd80_1 rfl rfl (zS (e := 138) rfl rfl rfl) (q_load (p := (padd (.pointer (some ⟨w33.heap.size,0,none⟩)) 1)) (.inr rfl) (.int .i64 ((p.getD ((ex.num).toNat) Fn.zero).params)) one2 rfl (hB44.ldp (i := 1) sM) (zS (e := 138) rfl rfl rfl) ?_))))))
                by_cases hc57 : ((((p.getD ((ex.num).toNat) Fn.zero).outs).length :Nat):Int) ≠ (p.getD ((ex.num).toNat) Fn.zero).params
                ·
                 exact q_neq true rfl rfl (decide_eq_true hc57) (zS (e := 138) rfl rfl rfl) (lw_tvn 8 rfl (c_cond_t rfl (wp_seq (wp_plain _ [0] rfl (lw_tvn 1 rfl (wp_ret (b_ret (t_ret (post_ret [6] rfl (.bool false) rfl ⟨z144_0,hE44⟩)))))))))
                ·
                 refine q_neq false rfl rfl (decide_eq_false hc57) (zS (e := 138) rfl rfl rfl) (lw_tv 1 rfl (q_fldP (p := (.pointer (some ⟨w1.heap.size,0,none⟩))) (b := w1.heap.size) (o := 0) 3 fd94_3 rfl rfl (zS (e := 145) rfl rfl rfl) (q_load (p := (padd (.pointer (some ⟨w1.heap.size,0,none⟩)) 3)) (.inr rfl) (.int .i64 ex.count) one2 rfl (hF46.ldp (i := 3) sM) (zS (e := 145) rfl rfl rfl) (lw_callq 68 [] [] [(.int .i64 ex.count),(.int .i64 ((0 :Nat):Int)),(.int .i64 ((8 :Nat):Int))] rfl rfl cf68 (zS (e := 145) rfl rfl rfl) (.bool (decide (((0 :Nat):Int) ≤ ex.count) && decide (ex.count ≤ ((8 :Nat):Int)))) (fun wq => c_impl_within wq _ _ _ hex.rng.count oM oM) (q_not (!(decide (((0 :Nat):Int) ≤ ex.count) && decide (ex.count ≤ ((8 :Nat):Int)))) rfl rfl (zS (e := 145) rfl rfl rfl) ?_)))))
                 refine lw_tvn 3 rfl ?_
                 cases hb59 : (!(decide (((0 :Nat):Int) ≤ ex.count) && decide (ex.count ≤ ((8 :Nat):Int))))
                 ·
                  exact c_cond_f (by first | rfl | (show Value.bool _ = _; rw [hb59])) (wp_skip ⟨(),_,rfl,⟨rfl,rfl,rfl,trivial⟩,⟨hE44,hF45,hF46,z144_1⟩⟩)
                 ·
                  exact c_cond_t (by first | rfl | (show Value.bool _ = _; rw [hb59])) (wp_seq (wp_plain _ [0] rfl (lw_tvn 1 rfl (wp_ret (b_ret (t_ret (post_ret [6] rfl (.bool false) rfl ⟨z144_0,hE44⟩)))))))
               ·
                exact q_eql false rfl rfl (decide_eq_false hc56) (zS (e := 134) rfl rfl rfl) (lw_tvn 15 rfl (c_cond_f rfl (wp_skip ⟨(),_,rfl,⟨rfl,rfl,rfl,trivial⟩,⟨hE44,hF45,hF46,z144_1⟩⟩)))
             ·
              exact c_cond_t (by first | rfl | (show Value.bool _ = _; rw [hb49])) (wp_seq (wp_plain _ [0] rfl (lw_tvn 1 rfl (wp_ret (t_ret (b_ret (t_ret (post_ret [6] rfl (.bool false) rfl ⟨z144_0,hE44⟩))))))))
           ·
            exact c_cond_t (by first | rfl | (show Value.bool _ = _; rw [hb39])) (wp_seq (wp_plain _ [0] rfl (lw_tvn 1 rfl (wp_ret (t_ret (b_ret (t_ret (post_ret [6] rfl (.bool false) rfl ⟨z144_0,hE33⟩))))))))
      ·
       refine c_cond_t (by first | rfl | (show Value.bool _ = _; rw [hb24])) (wp_seq (wp_plain _ [0,0,0,0,2,0,0,0,0,0,0] rfl ?_))
       have h5k := of_decide_eq_true (h5b.symm.trans ‹_›)
       clear h5b
       refine lw_tv 1 rfl (q_not (!pl) rfl rfl zN (lw_tv 1 rfl ?_))
       cases hb60 : (!pl)
       ·
        refine q_fldP (p := (.pointer (some ⟨w1.heap.size,0,none⟩))) (b := w1.heap.size) (o := 0) 1 fd94_1 rfl rfl (zS (e := 60) rfl rfl rfl) (q_load (p := (padd (.pointer (some ⟨w1.heap.size,0,none⟩)) 1)) (.inr rfl) (.int .i64 ex.num) one2 rfl (hL17_1.ldp (i := 1) sM) (zS (e := 60) rfl rfl rfl) ?_)
        by_cases hc61 : ex.num ≠ ((0 :Nat):Int)
        ·
         exact q_neq true rfl rfl (decide_eq_true hc61) (zS (e := 60) rfl rfl rfl) (lw_tvn 5 rfl (c_cond_t rfl (wp_seq (wp_plain _ [0] rfl (lw_tvn 1 rfl (wp_ret (b_ret (t_ret (post_ret [6] rfl (.bool false) rfl ⟨z144_0,hE17⟩)))))))))
        ·
         refine q_neq false rfl rfl (decide_eq_false hc61) (zS (e := 60) rfl rfl rfl) (lw_tv 3 rfl ?_)
         by_cases hc62 : ((ex.kids.length :Nat):Int) ≠ ((2 :Nat):Int)
         ·
          exact q_neq true rfl rfl (decide_eq_true hc62) (zS (e := 65) rfl rfl rfl) (lw_tvn 1 rfl (c_cond_t rfl (wp_seq (wp_plain _ [0] rfl (lw_tvn 1 rfl (wp_ret (b_ret (t_ret (post_ret [6] rfl (.bool false) rfl ⟨z144_0,hE17⟩)))))))))
         ·
          exact q_neq false rfl rfl (decide_eq_false hc62) (zS (e := 65) rfl rfl rfl) (lw_tvn 1 rfl (c_cond_f rfl (wp_skip ⟨(),_,rfl,⟨rfl,rfl,rfl,trivial⟩,⟨hE17,hL17_0,hL17_1,z144_1⟩⟩)))
       ·
        exact lw_tvn 8 rfl (c_cond_t rfl (wp_seq (wp_plain _ [0] rfl (lw_tvn 1 rfl (wp_ret (b_ret (t_ret (post_ret [6] rfl (.bool false) rfl ⟨z144_0,hE17⟩))))))))
  ·
   clear hL4_1 hL4_0 hE4 hzs4
   rintro u ρ8 w8 ⟨hE8,hL8_0,hL8_1,hwn⟩
   have hzs8 : w.heap.size ≤ w8.heap.size := hE8.size
   have hq63 := hL8_0.lt
   have hq64 := hL8_1.lt
   refine wp_seq (wp_seq (wp_plain _ [0,2,0,0] rfl (q_fldP (p := (.pointer (some ⟨w1.heap.size,0,none⟩))) (b := w1.heap.size) (o := 0) 4 fd94_4 rfl rfl zN (q_load (p := (padd (.pointer (some ⟨w1.heap.size,0,none⟩)) 4)) (.inr rfl) ve one78 rfl (hL8_1.ldp (i := 4) sM) zN (q_len (v := ve) u78 rfl hex.rn.isSl zN (lw_tvn 1 rfl (wp_block ?_)))))))
   refine c_loop (S := Nat) (fun (k : Nat) => ([(156,(.int .i64 ((k :Nat):Int))),(2,(.int .i64 vars)),(3,(.pointer (some ⟨w.heap.size,0,none⟩))),(4,(.pointer (some ⟨w1.heap.size,0,none⟩))),(154,ve),(155,(.int .i64 ((ex.kids.length :Nat):Int)))] : List (Nat × Value))) (fun (k : Nat) (W : World) => Ext w W ∧ BX W.heap w.heap.size [vp,(.int .i64 funcs)] ∧ BX W.heap w1.heap.size [(.int .i64 ex.kind),(.int .i64 ex.num),(.int .i64 ex.pick),(.int .i64 ex.count),ve] ∧ k ≤ ex.kids.length ∧ (∀ j,j < k → wf p funcs (ex.kids.getD j Ex.zero) (if ex.kind = 9 ∧ j = 1 then vars + 1 else vars) = true)) (fun (k : Nat) => ex.kids.length - k) 0 ⟨rfl,rfl,rfl,rfl,rfl,rfl,trivial⟩ ⟨hE8,hL8_0,hL8_1,sD,(by intro j hj; omega)⟩ ?_
   clear hL8_1 hL8_0 hE8 hzs8
   rintro k ρ65 w65 ⟨hE65,hL65_0,hL65_1,hp65_0,hall⟩
   have hzs65 : w.heap.size ≤ w65.heap.size := hE65.size
   have hq66 := hL65_0.lt
   have hq67 := hL65_1.lt
   refine wp_seq (wp_plain _ [0] rfl ?_)
   by_cases hc68 : ((k :Nat):Int) < ((ex.kids.length :Nat):Int)
   ·
    refine q_lss true rfl rfl (decide_eq_true hc68) zN (lw_nil (wp_seq (c_cond_t rfl (wp_skip (wp_seq (wp_block (wp_seq (wp_plain _ [0,0,2,3,0,4] rfl ?_))))))))
    have hkd := kd_at (l := ex.kids) (k := k) oM
    refine lw_tv 1 rfl (q_idx (v := ve) k u78 tiS94 rfl rfl hex.rn.isSl rfl sD zN ?_)
    obtain ⟨cs69,hr69,hl69⟩ := hex.rn.get (good_rEx dex) Ex.zero (k := k) sD
    obtain ⟨dd69,ve69,hd69,rfl,hx69⟩ := RX.of hr69
    have hln69 := hx69.rn.lenle
    unfold maxLen at hln69
    refine q_loadA (p := eptr ve k 5) (.inr rfl) [(.int .i64 ((ex.kids.getD k Ex.zero).kind)),(.int .i64 ((ex.kids.getD k Ex.zero).num)),(.int .i64 ((ex.kids.getD k Ex.zero).pick)),(.int .i64 ((ex.kids.getD k Ex.zero).count)),ve69] agg94 rfl (fun w9 hw9 => hl69 w9 (Chg.of_ext [] (hE65.trans hw9))) rfl zN ?_
    have hq71 := hL65_0.lt
    have hq72 := hL65_1.lt
    refine r_allocA (z := .agg #[.int .i64 0,.int .i64 0,.int .i64 0,.int .i64 0,.slice none 0 0]) zr94 zN fun w70 hX70 hz70 hB70 => ?_
    have hzs70:=hX70.size
    have hE70:=hE65.trans hX70
    have hL65_0x70 := hL65_0.ext hX70
    have hL65_1x70 := hL65_1.ext hX70
    replace hB70 : BX w70.heap w65.heap.size [(.int .i64 0),(.int .i64 0),(.int .i64 0),(.int .i64 0),(.slice none 0 0)] := hB70
    refine lw_tv 1 rfl (e_setA (vs := [(.int .i64 ((ex.kids.getD k Ex.zero).kind)),(.int .i64 ((ex.kids.getD k Ex.zero).num)),(.int .i64 ((ex.kids.getD k Ex.zero).pick)),(.int .i64 ((ex.kids.getD k Ex.zero).count)),ve69]) agg94 rfl rfl hx69.ones hB70 rfl rfl zN fun w73 hC73 hz73 hB73 => ?_)
    replace hB73 : BX w73.heap w65.heap.size [(.int .i64 ((ex.kids.getD k Ex.zero).kind)),(.int .i64 ((ex.kids.getD k Ex.zero).num)),(.int .i64 ((ex.kids.getD k Ex.zero).pick)),(.int .i64 ((ex.kids.getD k Ex.zero).count)),ve69] := hB73
    have hE73 : Ext w w73 := hC73.below hE70 (fun c hc => by have := List.mem_singleton.1 hc; omega) hE70.size
    have hzs73:=hC73.size
    have hF74 := hL65_0x70.chg hC73 (fun hm => by have := List.mem_singleton.1 hm; omega)
    have hF75 := hL65_1x70.chg hC73 (fun hm => by have := List.mem_singleton.1 hm; omega)
    refine lw_nil (wp_seq (wp_plain _ [0,0] rfl (lw_tvn 2 rfl (wp_seq (wp_seq (wp_plain _ [0,2,0,0,0,0,0] rfl (q_fldP (p := (.pointer (some ⟨w1.heap.size,0,none⟩))) (b := w1.heap.size) (o := 0) 0 fd94_0 rfl rfl zN (q_load (p := (padd (.pointer (some ⟨w1.heap.size,0,none⟩)) 0)) (.inr rfl) (.int .i64 ex.kind) one2 rfl (hF75.ldp (i := 0) sM) zN ?_))))))))
    by_cases hc76 : ex.kind = ((9 :Nat):Int)
    ·
     refine q_eql true rfl rfl (decide_eq_true hc76) zN (lw_tv 2 rfl ?_)
     by_cases hc77 : ((k :Nat):Int) = ((1 :Nat):Int)
     ·
      refine q_eql true rfl rfl (decide_eq_true hc77) (zS (e := 165) rfl rfl rfl) (lw_tvn 1 rfl (c_cond_t rfl (wp_plain _ [0,0,0] rfl (lw_tv 1 rfl (q_add (vars + 1) rfl rfl (w64 oM oM) zN (lw_tvn 1 rfl (wp_seq (wp_plain _ [2,2,0,3,0] rfl (q_loadA (p := (.pointer (some ⟨w.heap.size,0,none⟩))) (.inr rfl) [vp,(.int .i64 funcs)] agg166 rfl (fun w9 hw9 => LD.of_box (BX.ext (w := w73) hF74 hw9)) rfl zN (q_loadA (p := (.pointer (some ⟨w65.heap.size,0,none⟩))) (.inr rfl) [(.int .i64 ((ex.kids.getD k Ex.zero).kind)),(.int .i64 ((ex.kids.getD k Ex.zero).num)),(.int .i64 ((ex.kids.getD k Ex.zero).pick)),(.int .i64 ((ex.kids.getD k Ex.zero).count)),ve69] agg94 rfl (fun w9 hw9 => LD.of_box (BX.ext (w := w73) hB73 hw9)) rfl zN (lw_tv 1 rfl ?_)))))))))))
      refine lw_call 144 [] [] [(.agg #[vp,(.int .i64 funcs)]),(.agg #[(.int .i64 ((ex.kids.getD k Ex.zero).kind)),(.int .i64 ((ex.kids.getD k Ex.zero).num)),(.int .i64 ((ex.kids.getD k Ex.zero).pick)),(.int .i64 ((ex.kids.getD k Ex.zero).count)),ve69]),(.int .i64 (vars + 1))] rfl rfl cf144 zN (ih dd69 oM _ dp vp (p) (funcs) ve69 (ex.kids.getD k Ex.zero) _ (hp.ext (good_rdS (good_rFn dp)) hE73) _hfuncs (hx69.ext hE73) oM oM oM) ?_
      rintro e78 w78 ⟨rfl,hX78⟩
      refine ⟨_,rfl,hX78,?_⟩
      have hzs78:=hX78.size
      have hE78:=hE73.trans hX78
      have hF74x78 := hF74.ext hX78
      have hF75x78 := hF75.ext hX78
      have hB73x78 := hB73.ext hX78
      refine q_not (!(wf p funcs (ex.kids.getD k Ex.zero) (vars + 1))) rfl rfl zN (lw_nil ?_)
      cases hb79 : (!(wf p funcs (ex.kids.getD k Ex.zero) (vars + 1)))
      ·
       refine c_cond_f (by first | rfl | (show Value.bool _ = _; rw [hb79])) (wp_skip (wp_plain _ [0,0] rfl (q_add ((k + 1 :Nat):Int) rfl rfl (w64n oM sD) zN (lw_tvn 1 rfl ?_))))
       exact ⟨(k + 1),_,rfl,⟨rfl,rfl,rfl,rfl,rfl,rfl,trivial⟩,⟨hE78,hF74x78,hF75x78,sD,z144_2⟩,by first | omega | (dsimp only; omega)⟩
      ·
       exact c_cond_t (by first | rfl | (show Value.bool _ = _; rw [hb79])) (wp_seq (wp_plain _ [0] rfl (lw_tvn 1 rfl (wp_ret (b_ret (t_ret (t_ret (b_ret (t_ret (post_ret [6] rfl (.bool false) rfl ⟨z144_0,hE78⟩))))))))))
     ·
      refine q_eql false rfl rfl (decide_eq_false hc77) (zS (e := 165) rfl rfl rfl) (lw_tvn 1 rfl (c_cond_f rfl (wp_skip (wp_seq (wp_plain _ [2,2,0,3,0] rfl (q_loadA (p := (.pointer (some ⟨w.heap.size,0,none⟩))) (.inr rfl) [vp,(.int .i64 funcs)] agg166 rfl (fun w9 hw9 => LD.of_box (BX.ext (w := w73) hF74 hw9)) rfl zN (q_loadA (p := (.pointer (some ⟨w65.heap.size,0,none⟩))) (.inr rfl) [(.int .i64 ((ex.kids.getD k Ex.zero).kind)),(.int .i64 ((ex.kids.getD k Ex.zero).num)),(.int .i64 ((ex.kids.getD k Ex.zero).pick)),(.int .i64 ((ex.kids.getD k Ex.zero).count)),ve69] agg94 rfl (fun w9 hw9 => LD.of_box (BX.ext (w := w73) hB73 hw9)) rfl zN (lw_tv 1 rfl ?_))))))))
      refine lw_call 144 [] [] [(.agg #[vp,(.int .i64 funcs)]),(.agg #[(.int .i64 ((ex.kids.getD k Ex.zero).kind)),(.int .i64 ((ex.kids.getD k Ex.zero).num)),(.int .i64 ((ex.kids.getD k Ex.zero).pick)),(.int .i64 ((ex.kids.getD k Ex.zero).count)),ve69]),(.int .i64 vars)] rfl rfl cf144 zN (ih dd69 oM _ dp vp (p) (funcs) ve69 (ex.kids.getD k Ex.zero) _ (hp.ext (good_rdS (good_rFn dp)) hE73) _hfuncs (hx69.ext hE73) _hvars oM oM) ?_
      rintro e80 w80 ⟨rfl,hX80⟩
      refine ⟨_,rfl,hX80,?_⟩
      have hzs80:=hX80.size
      have hE80:=hE73.trans hX80
      have hF74x80 := hF74.ext hX80
      have hF75x80 := hF75.ext hX80
      have hB73x80 := hB73.ext hX80
      refine q_not (!(wf p funcs (ex.kids.getD k Ex.zero) vars)) rfl rfl zN (lw_nil ?_)
      cases hb81 : (!(wf p funcs (ex.kids.getD k Ex.zero) vars))
      ·
       refine c_cond_f (by first | rfl | (show Value.bool _ = _; rw [hb81])) (wp_skip (wp_plain _ [0,0] rfl (q_add ((k + 1 :Nat):Int) rfl rfl (w64n oM sD) zN (lw_tvn 1 rfl ?_))))
       exact ⟨(k + 1),_,rfl,⟨rfl,rfl,rfl,rfl,rfl,rfl,trivial⟩,⟨hE80,hF74x80,hF75x80,sD,z144_2⟩,by first | omega | (dsimp only; omega)⟩
      ·
       exact c_cond_t (by first | rfl | (show Value.bool _ = _; rw [hb81])) (wp_seq (wp_plain _ [0] rfl (lw_tvn 1 rfl (wp_ret (b_ret (t_ret (t_ret (b_ret (t_ret (post_ret [6] rfl (.bool false) rfl ⟨z144_0,hE80⟩))))))))))
    ·
     refine q_eql false rfl rfl (decide_eq_false hc76) zN (lw_tvn 4 rfl (c_cond_f rfl (wp_skip (wp_seq (wp_plain _ [2,2,0,3,0] rfl (q_loadA (p := (.pointer (some ⟨w.heap.size,0,none⟩))) (.inr rfl) [vp,(.int .i64 funcs)] agg166 rfl (fun w9 hw9 => LD.of_box (BX.ext (w := w73) hF74 hw9)) rfl zN (q_loadA (p := (.pointer (some ⟨w65.heap.size,0,none⟩))) (.inr rfl) [(.int .i64 ((ex.kids.getD k Ex.zero).kind)),(.int .i64 ((ex.kids.getD k Ex.zero).num)),(.int .i64 ((ex.kids.getD k Ex.zero).pick)),(.int .i64 ((ex.kids.getD k Ex.zero).count)),ve69] agg94 rfl (fun w9 hw9 => LD.of_box (BX.ext (w := w73) hB73 hw9)) rfl zN (lw_tv 1 rfl ?_))))))))
     refine lw_call 144 [] [] [(.agg #[vp,(.int .i64 funcs)]),(.agg #[(.int .i64 ((ex.kids.getD k Ex.zero).kind)),(.int .i64 ((ex.kids.getD k Ex.zero).num)),(.int .i64 ((ex.kids.getD k Ex.zero).pick)),(.int .i64 ((ex.kids.getD k Ex.zero).count)),ve69]),(.int .i64 vars)] rfl rfl cf144 zN (ih dd69 oM _ dp vp (p) (funcs) ve69 (ex.kids.getD k Ex.zero) _ (hp.ext (good_rdS (good_rFn dp)) hE73) _hfuncs (hx69.ext hE73) _hvars oM oM) ?_
     rintro e82 w82 ⟨rfl,hX82⟩
     refine ⟨_,rfl,hX82,?_⟩
     have hzs82:=hX82.size
     have hE82:=hE73.trans hX82
     have hF74x82 := hF74.ext hX82
     have hF75x82 := hF75.ext hX82
     have hB73x82 := hB73.ext hX82
     refine q_not (!(wf p funcs (ex.kids.getD k Ex.zero) vars)) rfl rfl zN (lw_nil ?_)
     cases hb83 : (!(wf p funcs (ex.kids.getD k Ex.zero) vars))
     ·
      refine c_cond_f (by first | rfl | (show Value.bool _ = _; rw [hb83])) (wp_skip (wp_plain _ [0,0] rfl (q_add ((k + 1 :Nat):Int) rfl rfl (w64n oM sD) zN (lw_tvn 1 rfl ?_))))
      exact ⟨(k + 1),_,rfl,⟨rfl,rfl,rfl,rfl,rfl,rfl,trivial⟩,⟨hE82,hF74x82,hF75x82,sD,z144_2⟩,by first | omega | (dsimp only; omega)⟩
     ·
      exact c_cond_t (by first | rfl | (show Value.bool _ = _; rw [hb83])) (wp_seq (wp_plain _ [0] rfl (lw_tvn 1 rfl (wp_ret (b_ret (t_ret (t_ret (b_ret (t_ret (post_ret [6] rfl (.bool false) rfl ⟨z144_0,hE82⟩))))))))))
   ·
    exact q_lss false rfl rfl (decide_eq_false hc68) zN (lw_nil (wp_seq (c_cond_f rfl (wp_exit (t_exit (t_exit (c_exit_here (wp_seq (wp_plain _ [0] rfl (lw_tvn 1 rfl (wp_ret (post_ret [6] rfl (.bool true) rfl ⟨z144_0,hE65⟩))))))))))))
end Go.Proofs.YtnofbmdpabcjaaaGreat
