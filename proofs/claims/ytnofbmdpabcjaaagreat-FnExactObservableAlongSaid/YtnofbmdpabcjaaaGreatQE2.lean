/- FwS, Nb, Nc, Nd, FwT, FwU, FwV, Ne, Nf, Ng, Nh, Ni, FwW, FwX, Nj, FwY, T, Sa, Sb, Sc, Sf, Sk: texts of this claim, joined; what the claim does not come to is left out. -/
import Derived.Test.YtnofbmdpabcjaaaGreatQE1
import Derived.Test.YtnofbmdpabcjaaaGreatProg
set_option linter.unusedVariables false
set_option linter.unusedSimpArgs false
namespace Go.Proofs.YtnofbmdpabcjaaaGreat
open Go Go.RowKit
set_option linter.unusedVariables false
set_option linter.unusedSimpArgs false
theorem gd_l {β : Type} {l r : List β} {k : Nat} {d : β} (h : k < l.length) : (l ++ r).getD k d = l.getD k d := by
  rw [List.getD_eq_getElem?_getD, List.getD_eq_getElem?_getD, List.getElem?_append_left h]
theorem gd_r {β : Type} {l : List β} {x d : β} {k : Nat} (h : k = l.length) : (l ++ [x]).getD k d = x := by
  subst h
  rw [List.getD_eq_getElem?_getD, List.getElem?_append_right (Nat.le_refl _)]
  simp
theorem subS {g : Nat} {S : List Nat} (hg : g ∈ S) : ∀ x ∈ [g], x ∈ S := fun x hx => by rw [List.mem_singleton.1 hx]; exact hg
theorem subA {g : Nat} {S F : List Nat} (hg : g ∈ S) : ∀ x ∈ [g], x ∈ S ++ F := fun x hx => List.mem_append_left _ (subS hg x hx)
theorem rdL.get2 {α : Type} {E : Stand α} {H : Array Obj} {v : Value} {xs : List α} {F : List Nat} (d : α) {k : Nat} (h : rdL E H v xs F) (hk : k < xs.length) :
    ∃ u F1, (∀ H' : Array Obj, (∀ b ∈ F, H'[b]? = H[b]?) → ldH H' (eptr v k 1) = some u) ∧ E H u (xs.getD k d) F1 ∧ ∀ b ∈ F1, b ∈ F := by
  rcases h with ⟨a, cap, rfl, rfl, _⟩ | ⟨us, g, off, cap, cur, e, fr, F', h, rfl, hg, hw, _, rfl⟩
  · simp at hk
  · obtain ⟨u, F1, hu, hx, hb⟩ := h.get d hk
    refine ⟨u, F1, fun H' hH => ?_, hx, fun b hh => List.mem_cons_of_mem _ (hb b hh)⟩
    rw [eptr_mk]
    simp only [ldH, cellH, hH g (List.mem_cons_self ..), hg]
    rw [← hw, List.getElem?_take, if_pos hk, List.getElem?_drop] at hu
    simpa using hu
section rn
variable {α : Type} {S F : List Nat} {w w' : World} {E : Stand α} {v : Value} {xs : List α} {x : α} {g : Nat}
theorem RN.run (hE : Good E) (h : RN S E w.heap v x) (hg : g ∈ S) (c : Chg [g] w w') : RN S E w'.heap v x := h.chg hE (c.sub (subS hg))
theorem RN.add (hE : Good E) (h : RN S E w.heap v x) (hF : ∀ b ∈ F, w.heap.size ≤ b) : RN (S ++ F) E w.heap v x := by
  obtain ⟨G, h1, h2⟩ := h
  refine ⟨G, h1, fun b hb hm => (List.mem_append.1 hm).elim (h2 b hb) fun hf => ?_⟩
  have := hE.lt h1 b hb
  have := hF b hf
  omega
theorem RN.getL (hE : Good E) (d : α) {k : Nat} (h : RN S (rdL E) w.heap v xs) (hk : k < xs.length) :
    ∃ u, (∀ w', Chg S w w' → ldH w'.heap (eptr v k 1) = some u) ∧ RN S E w.heap u (xs.getD k d) := by
  obtain ⟨F, h, hb⟩ := h
  have hlt := (good_rdL hE).lt h
  obtain ⟨u, F1, h1, h2, h3⟩ := rdL.get2 d h hk
  exact ⟨u, fun w' c => h1 _ fun b hm => c.block b (hlt b hm) (hb b hm), F1, h2, fun b hm => hb b (h3 b hm)⟩
theorem RN.getI {xs : List Int} {k : Nat} (h : RN S (rdL rI) w.heap v xs) (hk : k < xs.length) :
    (∀ w', Chg S w w' → ldH w'.heap (eptr v k 1) = some (.int .i64 (xs.getD k 0))) ∧ -9223372036854775808 ≤ xs.getD k 0 ∧ xs.getD k 0 ≤ 9223372036854775807 := by
  obtain ⟨u, h1, F1, h2, _⟩ := h.getL good_rI 0 hk
  rw [h2.1] at h1
  exact ⟨h1, h2.2.2⟩
theorem RN.slL {H : Array Obj} (h : RN S (rdL E) H v xs) : Go.Proofs.YtnofbmdpabcjaaaGreat.isSl v xs.length := by obtain ⟨F, h, _⟩ := h; exact rdL.isSl h
theorem RN.lenL {H : Array Obj} (h : RN S (rdL E) H v xs) : xs.length ≤ maxLen := by obtain ⟨F, h, _⟩ := h; exact h.lenle
theorem RN.of_fr1 {e : TypeId} {B U : Nat} {H : Array Obj} {xs : List Int} (h : Fr (owL rI e) B U H v xs) (hS : ∀ b ∈ S, b < B) : RN S (rdL rI) H v xs := by
  obtain ⟨F, h1, _, h3⟩ := h
  exact ⟨F, h1.rd id, fun b hb hm => by have := h3 b hb; have := hS b hm; omega⟩
theorem RN.of_fr2 {e e' : TypeId} {B U : Nat} {H : Array Obj} {xs : List (List Int)} (h : Fr (owL (owL rI e) e') B U H v xs) (hS : ∀ b ∈ S, b < B) : RN S (rdL (rdL rI)) H v xs := by
  obtain ⟨F, h1, _, h3⟩ := h
  exact ⟨F, h1.rd fun h => h.rd id, fun b hb hm => by have := h3 b hb; have := hS b hm; omega⟩
theorem RN.one1 {H : Array Obj} (hE : Good E) (h : RN S E H v x) : v.cells = #[v] ∧ v.oneCell' = true := by obtain ⟨F, h, _⟩ := h; exact ⟨hE.cells h, hE.one h⟩
/-- Blocks that were made later. -/
theorem RN.mem {T : List Nat} {H : Array Obj} (h : RN S E H v x) (hT : ∀ b ∈ T, b ∈ S) : RN T E H v x := by
  obtain ⟨F, h1, h2⟩ := h
  exact ⟨F, h1, fun b hb hm => h2 b hb (hT b hm)⟩
end rn
def rP {α : Type} (E : StandN α) : Stand α := fun H v x F => ∃ cs F' g o, v = .pointer (some ⟨g, o, none⟩) ∧ g < H.size ∧ (∀ i, i < cs.length → cellH H g (o + i) = some (cs.getD i undef)) ∧ E H cs x F' ∧ F = g :: F'
theorem good_rP {α : Type} {s : Nat} {E : StandN α} (hE : GoodN s E) : Good (rP E) where
  cells := by rintro H v x F ⟨cs, F', g, o, rfl, _⟩; rfl
  one := by rintro H v x F ⟨cs, F', g, o, rfl, _⟩; rfl
  lt := by
    rintro H v x F ⟨cs, F', g, o, rfl, hg, hc, he, rfl⟩ b hb
    rcases List.mem_cons.1 hb with rfl | hb
    · exact hg
    · exact hE.lt he b hb
  stable := by
    rintro H H' v x F ⟨cs, F', g, o, rfl, hg, hc, he, rfl⟩ hb
    refine ⟨cs, F', g, o, rfl, ?_, fun i hi => ?_, hE.stable he fun b hm => hb b (List.mem_cons_of_mem _ hm), rfl⟩
    · have := hb g (List.mem_cons_self ..)
      rcases Nat.lt_or_ge g H'.size with h | h
      · exact h
      · rw [Array.getElem?_eq_none h, Array.getElem?_eq_getElem hg] at this; cases this
    · have := hc i hi
      unfold cellH at this ⊢
      rw [hb g (List.mem_cons_self ..)]; exact this
section rp
variable {α : Type} {S : List Nat} {w w' : World} {s : Nat} {E : StandN α} {v p : Value} {xs : List α} {x : α}
/-- The pointer to an element. -/
theorem RN.ptr (hE : GoodN s E) (hs : 0 < s) (d : α) {k : Nat} {H : Array Obj} (h : RN S (rdS s E) H v xs) (hk : k < xs.length) : RN S (rP E) H (eptr v k s) (xs.getD k d) := by
  obtain ⟨F, h, hb⟩ := h
  rcases h with ⟨a, cap, rfl, rfl, _⟩ | ⟨css, g, off, cap, cur, e, fr, F', h, rfl, hg, hw, _, rfl⟩
  · simp at hk
  · obtain ⟨cs, F1, q1, q2, q3⟩ := h.get hE d hk
    rw [eptr_s]
    refine ⟨g :: F1, ⟨cs, F1, g, off + k * s, rfl, getElem?_lt hg, fun i hi => ?_, q1, rfl⟩, fun b hm => ?_⟩
    · rw [hE.len q1] at hi
      have h1 := q3 i hi
      have hlt : k * s + i < xs.length * s := by
        have : (k + 1) * s ≤ xs.length * s := Nat.mul_le_mul_right s hk
        rw [Nat.succ_mul] at this; omega
      rw [← hw, List.getElem?_take, if_pos hlt, List.getElem?_drop] at h1
      simp only [cellH, hg]
      rw [Nat.add_assoc]
      simpa using h1
    · rcases List.mem_cons.1 hm with rfl | hm
      · exact hb _ (List.mem_cons_self ..)
      · exact hb b (List.mem_cons_of_mem _ (q2 b hm))
/-- What a pointer points to. -/
theorem RN.at (hE : GoodN s E) (h : RN S (rP E) w.heap p x) : ∃ cs, RN S E w.heap cs x ∧ ∀ w', Chg S w w' → LD w'.heap p cs := by
  obtain ⟨F, h, hb⟩ := h
  have hlt := (good_rP hE).lt h
  obtain ⟨cs, F', g, o, rfl, hg, hc, he, rfl⟩ := h
  refine ⟨cs, ⟨F', he, fun b hm => hb b (List.mem_cons_of_mem _ hm)⟩, fun w' c => ⟨g, o, rfl, fun i hi => ?_⟩⟩
  have := hc i hi
  unfold cellH at this ⊢
  rw [c.block g hg (hb g (List.mem_cons_self ..))]; exact this
theorem RN.isPtr {H : Array Obj} (h : RN S (rP E) H p x) : ∃ g o, p = .pointer (some ⟨g, o, Option.none⟩) := by
  obtain ⟨F, ⟨cs, F', g, o, rfl, _⟩, _⟩ := h
  exact ⟨g, o, rfl⟩
/-- A new box. -/
theorem RN.box {b : Nat} {H : Array Obj} {cs : List Value} (hB : BX H b cs) (h : RN S E H cs x) (hb : b ∉ S) : RN S (rP E) H (.pointer (some ⟨b, 0, Option.none⟩)) x := by
  have hl := hB.lt
  obtain ⟨e, hB⟩ := hB
  obtain ⟨F, h1, h2⟩ := h
  refine ⟨b :: F, ⟨cs, F, b, 0, rfl, hl, fun i hi => ?_, h1, rfl⟩, fun c hc => ?_⟩
  · simp only [cellH, hB]; simp [hi]
  · rcases List.mem_cons.1 hc with rfl | hc
    · exact hb
    · exact h2 c hc
end rp
/-- A program in a struct. -/
def rPr (d : Nat) : StandN (List Fn) := fun H cs p F => ∃ v, cs = [v] ∧ rdS 3 (rFn d) H v p F
theorem good_rPr (d : Nat) : GoodN 1 (rPr d) := by
  have ih := good_rdS (good_rFn d)
  refine ⟨?_, ?_, ?_, ?_⟩
  · rintro H cs e F ⟨v, rfl, _⟩; rfl
  · rintro H cs e F ⟨v, rfl, h⟩ u hu
    rw [List.mem_singleton.1 hu]
    exact ⟨ih.cells h, ih.one h⟩
  · rintro H cs e F ⟨v, rfl, h⟩ b hb
    exact ih.lt h b hb
  · rintro H H' cs e F ⟨v, rfl, h⟩ hb
    exact ⟨v, rfl, ih.stable h hb⟩
theorem RPr.of {S : List Nat} {d : Nat} {H : Array Obj} {cs : List Value} {p : List Fn} (h : RN S (rPr d) H cs p) : ∃ v, cs = [v] ∧ RP S d H v p := by
  obtain ⟨F, ⟨v, rfl, h⟩, hb⟩ := h
  exact ⟨v, rfl, F, h, hb⟩
theorem RP.mk' {S : List Nat} {d : Nat} {H : Array Obj} {v : Value} {p : List Fn} (h : RP S d H v p) : RN S (rPr d) H [v] p := by
  obtain ⟨F, h, hb⟩ := h
  exact ⟨F, ⟨v, rfl, h⟩, hb⟩
theorem RF.mk' {S : List Nat} {d : Nat} {H : Array Obj} {v : Value} {f : Fn} (h : RF S d H v f) : RN S (rFn d) H (fnC f v) f := by
  obtain ⟨hr, F, h, hb⟩ := h
  exact ⟨F, ⟨v, rfl, hr, h⟩, hb⟩
structure Bld (e : TypeId) (S : List Nat) (B : Nat) (H : Array Obj) (v : Value) (xs : List (List Int)) (us : List Value) (F : List Nat) : Prop where
  own : owL rV e H v us F
  nd : F.Nodup
  low : ∀ b ∈ F, B ≤ b
  len : us.length = xs.length
  els : ∀ k, k < xs.length → RN (S ++ F) (rdL rI) H (us.getD k undef) (xs.getD k [])
def BldE (e : TypeId) (S : List Nat) (B : Nat) (H : Array Obj) (v : Value) (xs : List (List Int)) : Prop := ∃ us F, Bld e S B H v xs us F
section bld
variable {e : TypeId} {S F : List Nat} {B : Nat} {w w' : World} {v : Value} {xs : List (List Int)} {us : List Value} {g : Nat}
theorem Bld.nil {U : Nat} {H : Array Obj} (h : Fr (owL rV e) B U H v []) : BldE e S B H v [] := by
  obtain ⟨F, h1, h2, h3⟩ := h
  exact ⟨[], F, h1, h2, fun b hb => (h3 b hb).1, rfl, fun k hk => by simp at hk⟩
theorem Bld.isSl {H : Array Obj} (h : Bld e S B H v xs us F) : Go.Proofs.YtnofbmdpabcjaaaGreat.isSl v xs.length := by
  have := (h.own.rd id : rdL rV H v us F).isSl
  rwa [h.len] at this
theorem Bld.lenle {H : Array Obj} (h : Bld e S B H v xs us F) : xs.length ≤ maxLen := by
  have := (h.own.rd id : rdL rV H v us F).lenle
  rwa [h.len] at this
theorem Bld.lt {H : Array Obj} (h : Bld e S B H v xs us F) : ∀ b ∈ F, b < H.size := (good_owL good_rV).lt h.own
theorem Bld.ext (h : Bld e S B w.heap v xs us F) (k : Ext w w') : Bld e S B w'.heap v xs us F :=
  ⟨(good_owL good_rV).stable h.own fun b hb => k.heap (h.lt b hb), h.nd, h.low, h.len, fun i hi => (h.els i hi).ext g1 k⟩
theorem Bld.run (h : Bld e S B w.heap v xs us F) (hg : g ∈ S) (hgB : g < B) (c : Chg [g] w w') : Bld e S B w'.heap v xs us F :=
  ⟨(good_owL good_rV).stable h.own fun b hb => c.block b (h.lt b hb) fun hm => by have := h.low b hb; rw [List.mem_singleton.1 hm] at this; omega, h.nd, h.low, h.len,
   fun i hi => (h.els i hi).chg g1 (c.sub (subA hg))⟩
theorem els_of_RN {S : List Nat} {H : Array Obj} : ∀ {us : List Value} {xs : List (List Int)}, us.length = xs.length → (∀ k, k < xs.length → RN S (rdL rI) H (us.getD k undef) (xs.getD k [])) → ∃ G, els (rdL rI) H us xs G ∧ ∀ b ∈ G, b ∉ S
  | [], [], _, _ => ⟨[], rfl, fun b hb => by cases hb⟩
  | u :: us, x :: xs, hl, h => by
    obtain ⟨G1, q1, q2⟩ := h 0 (by simp)
    obtain ⟨G2, r1, r2⟩ := els_of_RN (us := us) (xs := xs) (by simpa using hl) fun k hk => by
      have := h (k + 1) (by simpa using hk)
      simpa using this
    exact ⟨G1 ++ G2, ⟨G1, G2, rfl, by simpa using q1, r1⟩, fun b hb => (List.mem_append.1 hb).elim (q2 b) (r2 b)⟩
theorem els_rVe {H : Array Obj} : ∀ {us vs : List Value} {F : List Nat}, els rV H us vs F → us = vs ∧ F = []
  | [], [], _, h => ⟨rfl, h⟩
  | _ :: _, _ :: _, _, ⟨F1, F2, rfl, h1, h2⟩ => by
    obtain ⟨rfl, rfl⟩ := els_rVe h2
    rw [h1.1, h1.2.1]; exact ⟨rfl, rfl⟩
  | [], _ :: _, _, h => h.elim
  | _ :: _, [], _, h => h.elim
theorem Bld.done {H : Array Obj} (h : Bld e S B H v xs us F) (hS : ∀ b ∈ S, b < B) : RN S (rdL (rdL rI)) H v xs := by
  obtain ⟨G, g1, g2⟩ := els_of_RN h.len h.els
  have g2' : ∀ b ∈ G, b ∉ S := fun b hb hm => g2 b hb (List.mem_append_left _ hm)
  rcases h.own with ⟨rfl, hus, rfl⟩ | ⟨vs, gb, cap, cur, F', hels, rfl, hg, r1, r2, r3, r4, hF⟩
  · have : xs = [] := List.eq_nil_of_length_eq_zero (by rw [← h.len, hus]; rfl)
    subst this
    exact ⟨[], .inl ⟨none, 0, rfl, rfl, rfl⟩, fun b hb => by cases hb⟩
  · obtain ⟨hv, hF0⟩ := els_rVe hels
    subst hv
    have hl := h.len
    refine ⟨gb :: G, .inr ⟨vs, gb, 0, cap, cur, e, (0, 0), G, g1, by rw [hl], hg, by simpa [hl] using r4, by omega, rfl⟩, fun b hb hm => ?_⟩
    rcases List.mem_cons.1 hb with rfl | hb
    · have := h.low b (by rw [hF]; exact List.mem_cons_self ..)
      have := hS b hm
      omega
    · exact g2' b hb hm
end bld
section ops
variable {P : Program} {ops : Array Oper} {w0 : World} {Q : Act → World → Prop} {os : List Oper} {ks : List Nat} {N : Nat} {ρ : Nat → Value} {w : World}
  {d : Nat} {ty : TypeId} {pos : String} {aft : Array Edge} {g : Option (Nat × Bool)} {t e : TypeId} {z : Value} {b : Nat}
/-- append of one thing that is read. -/
theorem e_appB {x y : Operand} {v a u : Value} {xs : List (List Int)} {r : List Int} {us : List Value} {S F : List Nat} {B B' U' : Nat} (ht : P.underlying t = some (.slice e)) (hi : TI P e 1 z b) (hz : z.cells = #[z]) (hx : evF N ρ x = v) (hy : evF N ρ y = a)
    (hv : Bld e S B w.heap v xs us F) (hB : B ≤ w.heap.size) (ha : Fr (owL rV e) B' U' w.heap a [u]) (hr : RN (S ++ F) (rdL rI) w.heap u r) (hbytes : (xs.length + 1) * b ≤ 140737488355328) (hmx : xs.length + 1 ≤ maxLen)
    (hu : Up ops N ρ ⟨some d, .call ⟨.builtin .append, #[x, y], #[t, t]⟩, ty, pos, aft, g⟩)
    (h : ∀ v1 w1 F0, Chg F0 w w1 → (∀ c ∈ F0, c ∈ F) → BldE e S B w1.heap v1 (xs ++ [r]) → LW P ops w0 Q os ks (mk N (upd ρ d v1)) w1) :
    LW P ops w0 Q (⟨some d, .call ⟨.builtin .append, #[x, y], #[t, t]⟩, ty, pos, aft, g⟩ :: os) (4 :: ks) (mk N ρ) w := by
  obtain ⟨G, g1', g2', g3'⟩ := ha
  have hG1 : G.drop 1 = [] := by
    rcases g1' with ⟨_, hc, _⟩ | ⟨vs, gb, cap, cur, F', hels, _, _, _, _, _, _, rfl⟩
    · cases hc
    · rw [(els_rVe hels).2]; rfl
  obtain ⟨v', w', F', r1, r2, r3, r4, r5⟩ := run_app (P := P) (ty := ty) good_rV ht hi hz hv.own hv.nd (g1'.rd id) rfl (by rw [hv.len]; exact hbytes) (by rw [hv.len]; exact hmx) (by rw [hG1]; intro c hc; cases hc) (by rw [hG1]; exact List.nodup_nil)
  rw [hG1] at r4
  refine lw_e rfl hu v' w' (by simp only [execOp, resolve, invoke, builtin, List.map_toArray, List.map_cons, List.map_nil, Sem.run_bind, Sem.run_pure, Result.andThen_ok, hx, hy, r1]) (h v' w' (F.take 1) r5 (fun c hc => List.mem_of_mem_take hc) ⟨us ++ [u], F', r2, r3, fun c hc => ?_, by simp [hv.len], fun k hk => ?_⟩)
  · rcases r4 c hc with hh | hh | hh
    · exact hv.low c hh
    · cases hh
    · omega
  · have key : ∀ {v0 : Value} {x0 : List Int}, RN (S ++ F) (rdL rI) w.heap v0 x0 → RN (S ++ F') (rdL rI) w'.heap v0 x0 := by
      rintro v0 x0 ⟨K, k1, k2⟩
      have hlt := g1.lt k1
      refine ⟨K, g1.stable k1 fun c hc => r5.block c (hlt c hc) fun hm => k2 c hc (List.mem_append_right _ (List.mem_of_mem_take hm)), fun c hc hm => ?_⟩
      rcases List.mem_append.1 hm with hm | hm
      · exact k2 c hc (List.mem_append_left _ hm)
      · rcases r4 c hm with hh | hh | hh
        · exact k2 c hc (List.mem_append_right _ hh)
        · cases hh
        · have := hlt c hc; omega
    rw [List.length_append, List.length_singleton] at hk
    by_cases hkx : k < xs.length
    · have h1 := key (hv.els k hkx)
      have hku : k < us.length := by rw [hv.len]; exact hkx
      rw [gd_l hku, gd_l hkx]
      exact h1
    · have e1 : k = xs.length := by omega
      have e2 : k = us.length := by rw [hv.len]; exact e1
      rw [gd_r e2, gd_r e1]
      exact key hr
/-- The length of a slice is at most its capacity. -/
def CapS : Value → Prop
  | .slice _ n c => n ≤ c
  | _ => False
theorem owL.cap {α : Type} {E : Stand α} {e : TypeId} {H : Array Obj} {v : Value} {xs : List α} {F : List Nat} (h : owL E e H v xs F) : CapS v := by
  rcases h with ⟨rfl, _⟩ | ⟨us, g, cap, cur, F', _, rfl, _, h, _⟩
  · exact Nat.le_refl _
  · exact h
theorem Fr.cap {α : Type} {E : Stand α} {e : TypeId} {B U : Nat} {H : Array Obj} {v : Value} {xs : List α} (h : Fr (owL E e) B U H v xs) : CapS v := by
  obtain ⟨F, h, _⟩ := h; exact h.cap
theorem Bld.cap {e : TypeId} {S F : List Nat} {B : Nat} {H : Array Obj} {v : Value} {xs : List (List Int)} {us : List Value} (h : Bld e S B H v xs us F) : CapS v := h.own.cap
/-- append to a slice without a spare place, which makes a new row. -/
def clipV : Value → Value
  | .slice a n _ => .slice a n n
  | v => v
theorem e_appC {x y : Operand} {v a u : Value} {xs : List (List Int)} {r : List Int} {S : List Nat} {B' U' : Nat} (ht : P.underlying t = some (.slice e)) (hi : TI P e 1 z b) (hz : z.cells = #[z]) (hx : evF N ρ x = clipV v) (hy : evF N ρ y = a)
    (hv : RN S (rdL (rdL rI)) w.heap v xs) (ha : Fr (owL rV e) B' U' w.heap a [u]) (hr : RN S (rdL rI) w.heap u r) (hS : ∀ c ∈ S, c < w.heap.size) (hbytes : (xs.length + 1) * b ≤ 140737488355328) (hmx : xs.length + 1 ≤ maxLen)
    (hu : Up ops N ρ ⟨some d, .call ⟨.builtin .append, #[x, y], #[t, t]⟩, ty, pos, aft, g⟩)
    (h : ∀ v1 w1, Ext w w1 → RN S (rdL (rdL rI)) w1.heap v1 (xs ++ [r]) → CapS v1 → LW P ops w0 Q os ks (mk N (upd ρ d v1)) w1) :
    LW P ops w0 Q (⟨some d, .call ⟨.builtin .append, #[x, y], #[t, t]⟩, ty, pos, aft, g⟩ :: os) (4 :: ks) (mk N ρ) w := by
  obtain ⟨G, g1', g2', g3'⟩ := ha
  obtain ⟨K, k1, k2⟩ := hv
  obtain ⟨R, r1, r2⟩ := hr
  obtain ⟨i, h1, h2, h3, h4⟩ := hi.get
  subst h4
  have hone := g1.one r1
  rcases g1' with ⟨_, hc, _⟩ | ⟨asq, ga, capa, cura, Fa, helsa, hav, hga, qa1, qa2, qa3, qa4, rfl⟩
  · cases hc
  · obtain ⟨hq, hFa⟩ := els_rVe helsa
    subst hq
    subst hav
    have hnews : ∀ j q, [u][j]? = some q → w.cell? ((⟨ga, 0, none⟩ : Addr).add j) = some q := by
      intro j q hj
      rw [add_mk, cell_cellH]
      simp only [cellH, hga]
      rw [← qa4, List.getElem?_take] at hj
      split at hj
      · simpa using hj
      · cases hj
    have made : ∀ (w1 : World) (ous : List Value) (K0 : List Nat) (rest : Nat), w1.heap = w.heap → w1.os = w.os → w1.tape = w.tape → w1.output = w.output → els (rdL rI) w.heap ous xs K0 → (∀ c ∈ K0, c ∈ K) → xs.length + 1 + rest ≤ maxLen →
        Ext w (w1.alloc (.cells (ous.toArray ++ [u].toArray ++ Builtin.zeroCells z.cells rest) e)) ∧ RN S (rdL (rdL rI)) (w1.alloc (.cells (ous.toArray ++ [u].toArray ++ Builtin.zeroCells z.cells rest) e)).heap (.slice (some ⟨w.heap.size, 0, none⟩) (xs.length + 1) (xs.length + 1 + rest)) (xs ++ [r]) := by
      intro w1 ous K0 rest hh ho htp hop hou hsub hmax
      have hE : Ext w (w1.alloc (.cells (ous.toArray ++ [u].toArray ++ Builtin.zeroCells z.cells rest) e)) := by
        refine ⟨ho, htp, hop, ?_, fun k hk => ?_⟩
        · show w.heap.size ≤ (w1.heap.push _).size
          rw [hh]; simp
        · have := Below.heap_alloc w1 (.cells (ous.toArray ++ [u].toArray ++ Builtin.zeroCells z.cells rest) e) k (by rw [hh]; exact hk)
          rw [this, hh]
      refine ⟨hE, w.heap.size :: (K0 ++ R), .inr ⟨ous ++ [u], w.heap.size, 0, xs.length + 1 + rest, (ous.toArray ++ [u].toArray ++ Builtin.zeroCells z.cells rest), e, (0, 0), K0 ++ R, ?_, by simp, ?_, ?_, by simp; omega, rfl⟩, ?_⟩
      · refine els.stable g1 (hou.append (show els (rdL rI) w.heap [u] [r] R from ⟨R, [], by simp, r1, rfl⟩)) fun c hc => hE.heap ?_
        exact (hou.append (show els (rdL rI) w.heap [u] [r] R from ⟨R, [], by simp, r1, rfl⟩)).lt g1 c hc
      · have := heap_alloc_new w1 (.cells (ous.toArray ++ [u].toArray ++ Builtin.zeroCells z.cells rest) e)
        rw [hh] at this; exact this
      · have hl := hou.length
        simp only [Array.toList_append, List.drop_zero]
        rw [show (xs ++ [r]).length = (ous ++ [u]).length from by simp [hl]]
        exact List.take_left
      · intro c hc hm
        rcases List.mem_cons.1 hc with rfl | hc
        · have := hS _ hm; omega
        · rcases List.mem_append.1 hc with hc | hc
          · exact k2 c (hsub c hc) hm
          · exact r2 c hc hm
    have hone1 : [u].length = [u].length * i.size := by rw [h3, Nat.mul_one]
    rcases k1 with ⟨a0, cap0, rfl, rfl, rfl⟩ | ⟨ous, gv, off, cap, cur, e', fr, K', hels, rfl, hg, hw, _, rfl⟩
    · -- nothing so far
      cases a0 with
      | none =>
        have hrr := run_append_nil (P := P) w t ty e i z ht h1 h2 ⟨ga, 0, none⟩ 1 capa [u] hone1 hnews (by decide) (by decide) (by simp at hbytes; omega)
        have hge := grownCap_ge w 1 0 e
        have hgm := grownCap_le_maxLen w 1 0 e (by simpa using hmx)
        obtain ⟨q1, q2⟩ := made w.drew [] [] (grownCap w 1 0 e - 1) rfl rfl rfl rfl rfl (fun c hc => by cases hc) (by simp; omega)
        refine lw_e rfl hu _ _ (by simp only [execOp, resolve, invoke, builtin, List.map_toArray, List.map_cons, List.map_nil, Sem.run_bind, Sem.run_pure, Result.andThen_ok, hx, hy, clipV]; rw [show [u].length = 1 from rfl, hrr]; rfl) (h _ _ ?_ ?_ ?_)
        · simpa using q1
        · have ea : (([] : List (List Int)).length + 1 + (grownCap w 1 0 e - 1)) = grownCap w 1 0 e := by simp; omega
          rw [ea] at q2
          simpa using q2
        · exact hge
      | some a1 =>
        have hrr := run_append_grow (P := P) w t ty e i z ht h1 h2 a1 0 0 [] (by rw [h3]; rfl) (by intro j q hj; cases hj) ⟨ga, 0, none⟩ 1 capa [u] hone1 hnews (by omega) (by decide) (growslice_fits (by omega) (by simpa using hbytes))
        have hge := grownCap_ge w (0 + 1) 0 e
        have hgm := grownCap_le_maxLen w (0 + 1) 0 e (by simpa using hmx)
        obtain ⟨q1, q2⟩ := made w.drew [] [] (grownCap w (0 + 1) 0 e - (0 + 1)) rfl rfl rfl rfl rfl (fun c hc => by cases hc) (by show 0 + 1 + (grownCap w (0 + 1) 0 e - (0 + 1)) ≤ maxLen; omega)
        refine lw_e rfl hu _ _ (by simp only [execOp, resolve, invoke, builtin, List.map_toArray, List.map_cons, List.map_nil, Sem.run_bind, Sem.run_pure, Result.andThen_ok, hx, hy, clipV]; rw [show [u].length = 1 from rfl, hrr]; rfl) (h _ _ q1 ?_ ?_)
        rotate_left
        · exact hge
        have ea : (([] : List (List Int)).length + 1 + (grownCap w (0 + 1) 0 e - (0 + 1))) = grownCap w (0 + 1) 0 e := by show 0 + 1 + (grownCap w (0 + 1) 0 e - (0 + 1)) = _; omega
        rw [ea] at q2
        simpa using q2
    · have holds : ∀ j q, ous[j]? = some q → w.cell? ((⟨gv, off, none⟩ : Addr).add j) = some q := by
        intro j q hj
        rw [add_mk, cell_cellH]
        simp only [cellH, hg]
        rw [← hw, List.getElem?_take] at hj
        split at hj
        · rw [List.getElem?_drop] at hj; simpa using hj
        · cases hj
      have hrr := run_append_grow (P := P) w t ty e i z ht h1 h2 ⟨gv, off, none⟩ xs.length xs.length ous (by rw [h3, hels.length]; omega) holds ⟨ga, 0, none⟩ 1 capa [u] hone1 hnews (by omega) (by simp only [maxLen] at hmx; omega) (growslice_fits (by omega) hbytes)
      have hge := grownCap_ge w (xs.length + 1) xs.length e
      have hgm := grownCap_le_maxLen w (xs.length + 1) xs.length e hmx
      obtain ⟨q1, q2⟩ := made w.drew ous K' (grownCap w (xs.length + 1) xs.length e - (xs.length + 1)) rfl rfl rfl rfl hels (fun c hc => List.mem_cons_of_mem _ hc) (by omega)
      refine lw_e rfl hu _ _ (by simp only [execOp, resolve, invoke, builtin, List.map_toArray, List.map_cons, List.map_nil, Sem.run_bind, Sem.run_pure, Result.andThen_ok, hx, hy, clipV]; rw [show [u].length = 1 from rfl, hrr]; rfl) (h _ _ q1 ?_ ?_)
      rotate_left
      · exact hge
      have ea : (xs.length + 1 + (grownCap w (xs.length + 1) xs.length e - (xs.length + 1))) = grownCap w (xs.length + 1) xs.length e := by omega
      rw [ea] at q2
      exact q2
end ops
end Go.Proofs.YtnofbmdpabcjaaaGreat
namespace Go.Proofs.YtnofbmdpabcjaaaGreat
open Go Go.RowKit
set_option linter.unusedVariables false
set_option linter.unusedSimpArgs false
abbrev Sr := List Int
/-- The series of n coefficients that begins with a number. -/
def cst (n : Nat) (x : Int) : Sr := (List.replicate n 0).set 0 x
/-- What an evaluation comes to: a value and a number of steps, or a code. -/
inductive Rs (α : Type) where
  | ok (x : α) (s : Nat)
  | err (c : Int)
/-- How calls are read: one output, all outputs. -/
structure Ca where
  one : Nat → Nat → List Sr → Nat → Rs Sr
  all : Nat → List Sr → Nat → Rs (List Sr)
def Rs.bind {α β : Type} (r : Rs α) (f : α → Nat → Rs β) : Rs β := match r with
  | .ok x s => f x s
  | .err c => .err c
theorem Rs.bind_ok {α β : Type} (x : α) (s : Nat) (f : α → Nat → Rs β) : (Rs.ok x s).bind f = f x s := rfl
theorem Rs.bind_err {α β : Type} (c : Int) (f : α → Nat → Rs β) : (Rs.err c : Rs α).bind f = .err c := rfl
theorem Rs.bind_assoc {α β γ : Type} (r : Rs α) (f : α → Nat → Rs β) (h : β → Nat → Rs γ) : (r.bind f).bind h = r.bind fun x s => (f x s).bind h := by cases r <;> rfl
def lop (f : List Sr → Nat → Rs (List Sr)) : Nat → List Sr → Nat → Rs (List Sr)
  | 0, a, s => .ok a s
  | k + 1, a, s => (lop f k a s).bind f
/-- The value of an operation. -/
def opV (k : Int) (xs : List Sr) (t : Nat) : Rs Sr :=
  if k = 3 then .ok (addS (xs.getD 0 []) (xs.getD 1 [])) t
  else if k = 4 then .ok (redS (xs.getD 0 []) (xs.getD 1 [])) t
  else if k = 5 then .ok (proS (xs.getD 0 []) (xs.getD 1 [])) t
  else if k = 7 then .ok (sclS (xs.getD 0 []) 1000002) t
  else if (xs.getD 1 []).getD 0 0 = 0 then .err 6 else .ok (quoS (xs.getD 0 []) (xs.getD 1 [])) t
mutual
def evE (n : Nat) (C : Ca) : Ex → List Sr → Nat → Rs Sr
  | .mk k num pick cnt l, env, s =>
    if 3000 ≤ s then .err 7
    else if k = 1 then .ok (cst n num) (s + 1)
    else if k = 2 then .ok (env.getD num.toNat []) (s + 1)
    else if k = 8 then (evK n C l 0 env (s + 1)).bind fun x t => if x.getD 0 0 = 0 then evK n C l 1 env t else evK n C l 2 env t
    else if k = 9 then (evK n C l 0 env (s + 1)).bind fun x t => evK n C l 1 (env ++ [x]) t
    else (evs n C l env (s + 1)).bind fun xs t =>
      if k = 10 then C.one num.toNat pick.toNat xs t
      else if k = 11 then (lop (C.all num.toNat) cnt.toNat xs t).bind fun ys u => .ok (ys.getD pick.toNat []) u
      else opV k xs t
def evK (n : Nat) (C : Ca) : List Ex → Nat → List Sr → Nat → Rs Sr
  | [], _, _, _ => .err 0
  | e :: _, 0, env, s => evE n C e env s
  | _ :: l, j + 1, env, s => evK n C l j env s
def evs (n : Nat) (C : Ca) : List Ex → List Sr → Nat → Rs (List Sr)
  | [], _, s => .ok [] s
  | e :: l, env, s => (evE n C e env s).bind fun x t => (evs n C l env t).bind fun xs u => .ok (x :: xs) u
end
theorem evK_at (n : Nat) (C : Ca) (env : List Sr) (s : Nat) : ∀ (l : List Ex) (j : Nat), j < l.length → evK n C l j env s = evE n C (l.getD j Ex.zero) env s
  | [], j, h => by simp at h
  | e :: l, 0, _ => by rw [evK]; rfl
  | e :: l, j + 1, h => by rw [evK, evK_at n C env s l j (by simpa using h)]; simp
theorem evs_snoc (n : Nat) (C : Ca) (env : List Sr) (e : Ex) : ∀ (l : List Ex) (s : Nat), evs n C (l ++ [e]) env s = (evs n C l env s).bind fun xs t => (evE n C e env t).bind fun x u => .ok (xs ++ [x]) u
  | [], s => by
    rw [List.nil_append, evs, evs]
    simp only [Rs.bind_ok]
    cases evE n C e env s <;> simp only [Rs.bind_ok, Rs.bind_err, evs] <;> rfl
  | a :: l, s => by
    rw [List.cons_append, evs, evs]
    cases evE n C a env s with
    | err c => rfl
    | ok x t =>
      simp only [Rs.bind_ok]
      rw [evs_snoc n C env e l t]
      simp only [Rs.bind_assoc]
      cases evs n C l env t with
      | err c => rfl
      | ok xs u =>
        simp only [Rs.bind_ok]
        cases evE n C e env u <;> rfl
theorem evs_step {n : Nat} {C : Ca} {env : List Sr} {s : Nat} {l : List Ex} {k : Nat} (hk : k < l.length) : evs n C (l.take (k + 1)) env s = (evs n C (l.take k) env s).bind fun xs t => (evE n C (l.getD k Ex.zero) env t).bind fun x u => .ok (xs ++ [x]) u := by
  rw [List.take_succ_eq_append_getElem hk, evs_snoc]
  simp [hk]
theorem evE_eq (n : Nat) (C : Ca) (e : Ex) (env : List Sr) (s : Nat) : evE n C e env s =
    if 3000 ≤ s then .err 7
    else if e.kind = 1 then .ok (cst n e.num) (s + 1)
    else if e.kind = 2 then .ok (env.getD e.num.toNat []) (s + 1)
    else if e.kind = 8 then (evK n C e.kids 0 env (s + 1)).bind fun x t => if x.getD 0 0 = 0 then evK n C e.kids 1 env t else evK n C e.kids 2 env t
    else if e.kind = 9 then (evK n C e.kids 0 env (s + 1)).bind fun x t => evK n C e.kids 1 (env ++ [x]) t
    else (evs n C e.kids env (s + 1)).bind fun xs t =>
      if e.kind = 10 then C.one e.num.toNat e.pick.toNat xs t
      else if e.kind = 11 then (lop (C.all e.num.toNat) e.count.toNat xs t).bind fun ys u => .ok (ys.getD e.pick.toNat []) u
      else opV e.kind xs t := by cases e; rw [evE]; rfl
/-- Calls of the functions before a function. -/
def evC (p : List Fn) (n : Nat) : Nat → Ca
  | 0 => ⟨fun _ _ _ _ => .err 0, fun _ _ _ => .err 0⟩
  | k + 1 => ⟨fun f j a s => if f = k then evE n (evC p n k) ((p.getD k Fn.zero).outs.getD j Ex.zero) a s else (evC p n k).one f j a s,
      fun f a s => if f = k then evs n (evC p n k) (p.getD k Fn.zero).outs a s else (evC p n k).all f a s⟩
theorem evC_one {p : List Fn} {n f j : Nat} {a : List Sr} {s : Nat} : ∀ {F : Nat}, f < F → (evC p n F).one f j a s = evE n (evC p n f) ((p.getD f Fn.zero).outs.getD j Ex.zero) a s
  | 0, h => by omega
  | F + 1, h => by
    show (if f = F then _ else _) = _
    split
    · rename_i e; rw [e]
    · exact evC_one (by omega)
theorem evC_all {p : List Fn} {n f : Nat} {a : List Sr} {s : Nat} : ∀ {F : Nat}, f < F → (evC p n F).all f a s = evs n (evC p n f) (p.getD f Fn.zero).outs a s
  | 0, h => by omega
  | F + 1, h => by
    show (if f = F then _ else _) = _
    split
    · rename_i e; rw [e]
    · exact evC_all (by omega)
/-- The values of all outputs of a function. -/
def ev (p : List Fn) (n f : Nat) (a : List Sr) : Rs (List Sr) := evs n (evC p n f) (p.getD f Fn.zero).outs a 0
/-- A run goes on only where there is no code yet. -/
def go {α : Type} (c : Int) (r : Rs α) : Rs α := if c = 0 then r else .err c
theorem go_0 {α : Type} (r : Rs α) : go 0 r = r := rfl
theorem go_ne {α : Type} {c : Int} (h : c ≠ 0) (r : Rs α) : go c r = .err c := if_neg h
def SrE (n : Nat) (env : List Sr) : Prop := ∀ k, k < env.length → Ser1 n (env.getD k [])
/-- A value, steps and a code are what an evaluation comes to. -/
def RelV {α : Type} (r : Rs α) (x : α) (s : Nat) (c : Int) : Prop := match r with
  | .ok y t => x = y ∧ s = t ∧ c = 0
  | .err d => c = d ∧ d ≠ 0
theorem RelV.ok {α : Type} {r : Rs α} {x : α} {s : Nat} (h : RelV r x s 0) : r = .ok x s := by
  cases r with
  | ok y t => obtain ⟨rfl, rfl, _⟩ := h; rfl
  | err d => exact absurd h.1.symm h.2
theorem RelV.err {α : Type} {r : Rs α} {x : α} {s : Nat} {c : Int} (h : RelV r x s c) (hc : c ≠ 0) : r = .err c := by
  cases r with
  | ok y t => exact absurd h.2.2 hc
  | err d => rw [h.1]
theorem RelV.mk_ok {α : Type} {r : Rs α} {x : α} {s : Nat} (h : r = .ok x s) : RelV r x s 0 := by subst h; exact ⟨rfl, rfl, rfl⟩
theorem RelV.mk_err {α : Type} {r : Rs α} {x : α} {s : Nat} {c : Int} (h : r = .err c) (hc : c ≠ 0) : RelV r x s c := by subst h; exact ⟨rfl, hc⟩
theorem RelV.bindE {α β : Type} {r : Rs α} {x : α} {s : Nat} {c : Int} (h : RelV r x s c) (hc : c ≠ 0) {f : α → Nat → Rs β} : r.bind f = .err c := by rw [h.err hc]; rfl
theorem RelV.bindO {α β : Type} {r : Rs α} {x : α} {s : Nat} (h : RelV r x s 0) {f : α → Nat → Rs β} : r.bind f = f x s := by rw [h.ok]; rfl
theorem cst_len (n : Nat) (x : Int) : (cst n x).length = n := by simp [cst]
theorem cst_ser {n : Nat} {x : Int} (h : isN x = true) : Ser1 n (cst n x) := by
  refine ⟨cst_len n x, ?_⟩
  unfold cst allN
  rw [List.all_eq_true]
  intro y hy
  rcases List.mem_or_eq_of_mem_set hy with hy | rfl
  · rw [List.eq_of_mem_replicate hy]; decide
  · exact h
theorem SrE.snoc {n : Nat} {env : List Sr} {x : Sr} (h : SrE n env) (hx : Ser1 n x) : SrE n (env ++ [x]) := by
  intro k hk
  rw [List.length_append, List.length_singleton] at hk
  by_cases e : k < env.length
  · rw [gd_l e]; exact h k e
  · have : k = env.length := by omega
    rw [gd_r this]; exact hx
end Go.Proofs.YtnofbmdpabcjaaaGreat
namespace Go.Proofs.YtnofbmdpabcjaaaGreat
open Go Go.RowKit
set_option linter.unusedVariables false
set_option linter.unusedSimpArgs false
/-- What is asked of a program that is evaluated. -/
structure VPr (p : List Fn) : Prop where
  par : ∀ k, k < p.length → 0 ≤ (p.getD k Fn.zero).params ∧ (p.getD k Fn.zero).params ≤ 12
  outs : ∀ k, k < p.length → 1 ≤ (p.getD k Fn.zero).outs.length ∧ (p.getD k Fn.zero).outs.length ≤ 12
  deep : ∀ k, k < p.length → ∀ j, j < (p.getD k Fn.zero).outs.length → ((p.getD k Fn.zero).outs.getD j Ex.zero).deep ≤ 60
  wf : ∀ k, k < p.length → ∀ j, j < (p.getD k Fn.zero).outs.length → wf p ((k : Nat) : Int) ((p.getD k Fn.zero).outs.getD j Ex.zero) (p.getD k Fn.zero).params = true
theorem inB_iff {x a b : Int} : inB x a b = true ↔ a ≤ x ∧ x ≤ b := by unfold inB; simp
/-- What the form of a node says. -/
theorem wfN_all {p : List Fn} {F vars : Int} {e : Ex} (h : wfN p F vars e = true) :
    (e.kind = 1 ∨ e.kind = 2 ∨ e.kind = 3 ∨ e.kind = 4 ∨ e.kind = 5 ∨ e.kind = 6 ∨ e.kind = 7 ∨ e.kind = 8 ∨ e.kind = 9 ∨ e.kind = 10 ∨ e.kind = 11) ∧
    (e.kind = 2 → 0 ≤ e.num ∧ e.num ≤ vars - 1) ∧ (e.kind = 3 ∨ e.kind = 4 ∨ e.kind = 5 ∨ e.kind = 6 ∨ e.kind = 9 → e.kids.length = 2) ∧ (e.kind = 7 → e.kids.length = 1) ∧ (e.kind = 8 → e.kids.length = 3) ∧
    (e.kind = 10 ∨ e.kind = 11 → 0 ≤ e.num ∧ e.num ≤ F - 1 ∧ (e.kids.length : Int) = (p.getD e.num.toNat Fn.zero).params ∧ 0 ≤ e.pick ∧ e.pick ≤ ((p.getD e.num.toNat Fn.zero).outs.length : Int) - 1) ∧
    (e.kind = 11 → ((p.getD e.num.toNat Fn.zero).outs.length : Int) = (p.getD e.num.toNat Fn.zero).params ∧ 0 ≤ e.count ∧ e.count ≤ 8) ∧ (e.kind = 1 → 0 ≤ e.num ∧ e.num < 1000003) := by
  unfold wfN at h
  split at h
  · simp only [Bool.and_eq_true, decide_eq_true_eq, isN_iff] at h; omega
  · split at h
    · simp only [Bool.and_eq_true, decide_eq_true_eq, inB_iff] at h; omega
    · split at h
      · simp only [Bool.and_eq_true, decide_eq_true_eq] at h; omega
      · split at h
        · simp only [Bool.and_eq_true, decide_eq_true_eq] at h; omega
        · split at h
          · simp only [Bool.and_eq_true, decide_eq_true_eq] at h; omega
          · split at h
            · simp only [Bool.and_eq_true, decide_eq_true_eq, inB_iff] at h
              obtain ⟨h1, h2, h3, h4⟩ := h
              split at h4
              · simp only [decide_eq_true_eq] at h4; omega
              · simp only [Bool.and_eq_true, decide_eq_true_eq, inB_iff] at h4; omega
            · cases h
theorem wf_node {p : List Fn} {F vars : Int} {e : Ex} (h : wf p F e vars = true) : wfN p F vars e = true := by
  rw [wf_eq, Bool.and_eq_true] at h; exact h.1
theorem wf_at {p : List Fn} {F vars : Int} {e : Ex} (h : wf p F e vars = true) {j : Nat} (hj : j < e.kids.length) : wf p F (e.kids.getD j Ex.zero) (if e.kind = 9 ∧ j = 1 then vars + 1 else vars) = true := by
  rw [wf_eq, Bool.and_eq_true] at h
  have := (wfs_iff p F _ vars e.kids 0).1 h.2 j hj
  rw [Nat.zero_add] at this
  simpa only [decide_eq_true_eq] using this
theorem wf_at0 {p : List Fn} {F vars : Int} {e : Ex} (h : wf p F e vars = true) {j : Nat} (hj : j < e.kids.length) (hn : ¬ (e.kind = 9 ∧ j = 1)) : wf p F (e.kids.getD j Ex.zero) vars = true := by
  have := wf_at h hj
  rwa [if_neg hn] at this
theorem wf_at1 {p : List Fn} {F vars : Int} {e : Ex} (h : wf p F e vars = true) (hj : 1 < e.kids.length) (hk : e.kind = 9) : wf p F (e.kids.getD 1 Ex.zero) (vars + 1) = true := by
  have := wf_at h hj
  rwa [if_pos ⟨hk, rfl⟩] at this
section
variable {p : List Fn} {F : Nat} {vars : Int} {e : Ex}
theorem wk_num (h : wf p ((F : Nat) : Int) e vars = true) (hk : e.kind = 1) : 0 ≤ e.num ∧ e.num < 1000003 := (wfN_all (wf_node h)).2.2.2.2.2.2.2 hk
theorem wk_var (h : wf p ((F : Nat) : Int) e vars = true) (hk : e.kind = 2) : 0 ≤ e.num ∧ e.num ≤ vars - 1 := (wfN_all (wf_node h)).2.1 hk
theorem wk_if (h : wf p ((F : Nat) : Int) e vars = true) (hk : e.kind = 8) : e.kids.length = 3 := (wfN_all (wf_node h)).2.2.2.2.1 hk
theorem wk_let (h : wf p ((F : Nat) : Int) e vars = true) (hk : e.kind = 9) : e.kids.length = 2 := (wfN_all (wf_node h)).2.2.1 (by omega)
theorem wk_neg (h : wf p ((F : Nat) : Int) e vars = true) (hk : e.kind = 7) : e.kids.length = 1 := (wfN_all (wf_node h)).2.2.2.1 hk
theorem wk_op2 (h : wf p ((F : Nat) : Int) e vars = true) (hk : e.kind = 3 ∨ e.kind = 4 ∨ e.kind = 5 ∨ e.kind = 6) : e.kids.length = 2 := (wfN_all (wf_node h)).2.2.1 (by omega)
theorem wk_call (h : wf p ((F : Nat) : Int) e vars = true) (hk : e.kind = 10 ∨ e.kind = 11) : (0 ≤ e.num ∧ e.num ≤ ((F : Nat) : Int) - 1) ∧ (e.kids.length : Int) = (p.getD e.num.toNat Fn.zero).params ∧ (0 ≤ e.pick ∧ e.pick ≤ ((p.getD e.num.toNat Fn.zero).outs.length : Int) - 1) := by
  have := (wfN_all (wf_node h)).2.2.2.2.2.1 hk
  exact ⟨⟨this.1, this.2.1⟩, this.2.2.1, this.2.2.2⟩
theorem wk_loop (h : wf p ((F : Nat) : Int) e vars = true) (hk : e.kind = 11) : ((p.getD e.num.toNat Fn.zero).outs.length : Int) = (p.getD e.num.toNat Fn.zero).params ∧ (0 ≤ e.count ∧ e.count ≤ 8) := (wfN_all (wf_node h)).2.2.2.2.2.2.1 hk
theorem wk_div (h : wf p ((F : Nat) : Int) e vars = true) (hk : (e.kind ≠ 1 ∧ e.kind ≠ 2 ∧ e.kind ≠ 8 ∧ e.kind ≠ 9) ∧ (e.kind ≠ 10 ∧ e.kind ≠ 11 ∧ e.kind ≠ 3 ∧ e.kind ≠ 4 ∧ e.kind ≠ 5 ∧ e.kind ≠ 7)) : e.kind = 6 := by
  have := (wfN_all (wf_node h)).1
  omega
theorem wk_bin (h : wf p ((F : Nat) : Int) e vars = true) (hk : (e.kind ≠ 1 ∧ e.kind ≠ 2 ∧ e.kind ≠ 7 ∧ e.kind ≠ 8) ∧ (e.kind ≠ 9 ∧ e.kind ≠ 10 ∧ e.kind ≠ 11)) : e.kind = 3 ∨ e.kind = 4 ∨ e.kind = 5 ∨ e.kind = 6 := by
  have := (wfN_all (wf_node h)).1
  omega
theorem wk_len (h : wf p ((F : Nat) : Int) e vars = true) (hv : VPr p) (hF : F ≤ p.length) : e.kids.length ≤ 12 := by
  have hq := wfN_all (wf_node h)
  by_cases h10 : e.kind = 10 ∨ e.kind = 11
  · have h1 := wk_call h h10
    have := hv.par e.num.toNat (by omega)
    omega
  · have h1 := hq.1; have h2 := hq.2.2.1; have h3 := hq.2.2.2.1; have h4 := hq.2.2.2.2.1
    by_cases hl : e.kind = 1 ∨ e.kind = 2
    · have h5 := wf_node h
      unfold wfN at h5
      rcases hl with hl | hl
      · rw [if_pos hl] at h5; simp only [Bool.and_eq_true, decide_eq_true_eq] at h5; omega
      · rw [if_neg (by omega), if_pos hl] at h5; simp only [Bool.and_eq_true, decide_eq_true_eq] at h5; omega
    · omega
end
section
variable {n : Nat} {C : Ca} {e : Ex} {env : List Sr} {s s1 s2 : Nat} {c c1 c2 : Int} {x y : Sr} {xs ys : List Sr}
theorem rel_code (hc : c ≠ 0) {r : Rs Sr} : RelV (go c r) x s c := RelV.mk_err (go_ne hc r) hc
theorem rel_budget (hc : c = 0) (hs : s = 3000) : RelV (go c (evE n C e env s)) x s1 7 := by
  subst hc; rw [go_0, evE_eq, if_pos (by omega)]; exact RelV.mk_err rfl (by decide)
theorem rel_num (hc : c = 0) (hs : s + 1 ≤ 3000) (hk : e.kind = 1) : RelV (go c (evE n C e env s)) (cst n e.num) (s + 1) c := by
  subst hc; rw [go_0, evE_eq, if_neg (by omega), if_pos hk]; exact RelV.mk_ok rfl
theorem rel_var (hc : c = 0) (hs : s + 1 ≤ 3000) (hk : e.kind = 2) : RelV (go c (evE n C e env s)) (env.getD e.num.toNat []) (s + 1) c := by
  subst hc; rw [go_0, evE_eq, if_neg (by omega), if_neg (by omega), if_pos hk]; exact RelV.mk_ok rfl
theorem rel_if0 (hc : c = 0) (hs : s + 1 ≤ 3000) (hk : e.kind = 8) (hl : e.kids.length = 3) (h1 : RelV (go c (evE n C (e.kids.getD 0 Ex.zero) env (s + 1))) x s1 c1) (hx : x.getD 0 0 = 0)
    (h2 : RelV (go c1 (evE n C (e.kids.getD 1 Ex.zero) env s1)) y s2 c2) : RelV (go c (evE n C e env s)) y s2 c2 := by
  subst hc
  rw [go_0, evE_eq, if_neg (by omega), if_neg (by omega), if_neg (by omega), if_pos hk, evK_at _ _ _ _ _ _ (by omega)]
  rw [go_0] at h1
  by_cases h0 : c1 = 0
  · subst h0; rw [h1.bindO, if_pos hx, evK_at _ _ _ _ _ _ (by omega)]; exact h2
  · rw [h1.bindE h0]; rw [go_ne h0] at h2; exact h2
theorem rel_if1 (hc : c = 0) (hs : s + 1 ≤ 3000) (hk : e.kind = 8) (hl : e.kids.length = 3) (h1 : RelV (go c (evE n C (e.kids.getD 0 Ex.zero) env (s + 1))) x s1 c1) (hx : ¬ x.getD 0 0 = 0)
    (h2 : RelV (go c1 (evE n C (e.kids.getD 2 Ex.zero) env s1)) y s2 c2) : RelV (go c (evE n C e env s)) y s2 c2 := by
  subst hc
  rw [go_0, evE_eq, if_neg (by omega), if_neg (by omega), if_neg (by omega), if_pos hk, evK_at _ _ _ _ _ _ (by omega)]
  rw [go_0] at h1
  by_cases h0 : c1 = 0
  · subst h0; rw [h1.bindO, if_neg hx, evK_at _ _ _ _ _ _ (by omega)]; exact h2
  · rw [h1.bindE h0]; rw [go_ne h0] at h2; exact h2
theorem rel_let (hc : c = 0) (hs : s + 1 ≤ 3000) (hk : e.kind = 9) (hl : e.kids.length = 2) (h1 : RelV (go c (evE n C (e.kids.getD 0 Ex.zero) env (s + 1))) x s1 c1)
    (h2 : RelV (go c1 (evE n C (e.kids.getD 1 Ex.zero) (env ++ [x]) s1)) y s2 c2) : RelV (go c (evE n C e env s)) y s2 c2 := by
  subst hc
  rw [go_0, evE_eq, if_neg (by omega), if_neg (by omega), if_neg (by omega), if_neg (by omega), if_pos hk, evK_at _ _ _ _ _ _ (by omega)]
  rw [go_0] at h1
  by_cases h0 : c1 = 0
  · subst h0; rw [h1.bindO, evK_at _ _ _ _ _ _ (by omega)]; exact h2
  · rw [h1.bindE h0]; rw [go_ne h0] at h2; exact h2
/-- Kids first. -/
theorem evE_kids (hs : s + 1 ≤ 3000) (h1 : e.kind ≠ 1) (h2 : e.kind ≠ 2) (h8 : e.kind ≠ 8) (h9 : e.kind ≠ 9) : evE n C e env s = (evs n C e.kids env (s + 1)).bind fun xs t =>
      if e.kind = 10 then C.one e.num.toNat e.pick.toNat xs t
      else if e.kind = 11 then (lop (C.all e.num.toNat) e.count.toNat xs t).bind fun ys u => .ok (ys.getD e.pick.toNat []) u
      else opV e.kind xs t := by
  rw [evE_eq, if_neg (by omega), if_neg h1, if_neg h2, if_neg h8, if_neg h9]
theorem rel_kidsE (hc : c = 0) (hs : s + 1 ≤ 3000) (h1 : e.kind ≠ 1) (h2 : e.kind ≠ 2) (h8 : e.kind ≠ 8) (h9 : e.kind ≠ 9) (hr : RelV (go c (evs n C e.kids env (s + 1))) xs s1 c1) (hc1 : c1 ≠ 0) : RelV (go c (evE n C e env s)) x s2 c1 := by
  subst hc
  rw [go_0] at hr ⊢
  rw [evE_kids hs h1 h2 h8 h9, hr.bindE hc1]; exact RelV.mk_err rfl hc1
theorem rel_call {p : List Fn} {F : Nat} (hc : c = 0) (hs : s + 1 ≤ 3000) (hk : e.kind = 10) (hF : e.num.toNat < F) (hr : RelV (go c (evs n (evC p n F) e.kids env (s + 1))) xs s1 c1) (hc1 : c1 = 0)
    (h2 : RelV (go c1 (evE n (evC p n e.num.toNat) ((p.getD e.num.toNat Fn.zero).outs.getD e.pick.toNat Ex.zero) xs s1)) y s2 c2) : RelV (go c (evE n (evC p n F) e env s)) y s2 c2 := by
  subst hc; subst hc1
  rw [go_0] at hr h2 ⊢
  rw [evE_kids hs (by omega) (by omega) (by omega) (by omega), hr.bindO, if_pos hk, evC_one hF]; exact h2
theorem rel_loop {p : List Fn} {F : Nat} (hc : c = 0) (hs : s + 1 ≤ 3000) (hk : e.kind = 11) (hF : e.num.toNat < F) (hr : RelV (go c (evs n (evC p n F) e.kids env (s + 1))) xs s1 c1) (hc1 : c1 = 0)
    (h2 : RelV (lop (fun a t => evs n (evC p n e.num.toNat) (p.getD e.num.toNat Fn.zero).outs a t) e.count.toNat xs s1) ys s2 c2) : RelV (go c (evE n (evC p n F) e env s)) (ys.getD e.pick.toNat []) s2 c2 := by
  subst hc; subst hc1
  rw [go_0] at hr ⊢
  rw [evE_kids hs (by omega) (by omega) (by omega) (by omega), hr.bindO, if_neg (by omega), if_pos hk]
  have hl : (evC p n F).all e.num.toNat = fun a t => evs n (evC p n e.num.toNat) (p.getD e.num.toNat Fn.zero).outs a t := funext fun a => funext fun t => evC_all hF
  rw [hl]
  by_cases h0 : c2 = 0
  · subst h0; rw [h2.bindO]; exact RelV.mk_ok rfl
  · rw [h2.bindE h0]; exact RelV.mk_err rfl h0
theorem rel_op (hc : c = 0) (hs : s + 1 ≤ 3000) (h1 : e.kind ≠ 1) (h2 : e.kind ≠ 2) (h8 : e.kind ≠ 8) (h9 : e.kind ≠ 9) (h10 : e.kind ≠ 10) (h11 : e.kind ≠ 11) (hr : RelV (go c (evs n C e.kids env (s + 1))) xs s1 c1) (hc1 : c1 = 0)
    (h : RelV (opV e.kind xs s1) y s2 c2) : RelV (go c (evE n C e env s)) y s2 c2 := by
  subst hc; subst hc1
  rw [go_0] at hr ⊢
  rw [evE_kids hs h1 h2 h8 h9, hr.bindO, if_neg h10, if_neg h11]; exact h
theorem op_add {k : Int} (hk : k = 3) : RelV (opV k xs s) (addS (xs.getD 0 []) (xs.getD 1 [])) s 0 := by subst hk; exact RelV.mk_ok rfl
theorem op_sub {k : Int} (hk : k = 4) : RelV (opV k xs s) (redS (xs.getD 0 []) (xs.getD 1 [])) s 0 := by subst hk; exact RelV.mk_ok rfl
theorem op_mul {k : Int} (hk : k = 5) : RelV (opV k xs s) (proS (xs.getD 0 []) (xs.getD 1 [])) s 0 := by subst hk; exact RelV.mk_ok rfl
theorem op_neg {k : Int} (hk : k = 7) : RelV (opV k xs s) (sclS (xs.getD 0 []) 1000002) s 0 := by subst hk; exact RelV.mk_ok rfl
theorem op_div0 {k : Int} (hk : k = 6) (hz : (xs.getD 1 []).getD 0 0 = 0) : RelV (opV k xs s) x s1 6 := by
  subst hk
  have : opV 6 xs s = .err 6 := by
    show (if (xs.getD 1 []).getD 0 0 = 0 then _ else _) = _
    rw [if_pos hz]
  exact RelV.mk_err this (by decide)
theorem op_div {k : Int} (hk : k = 6) (hz : ¬ (xs.getD 1 []).getD 0 0 = 0) : RelV (opV k xs s) (quoS (xs.getD 0 []) (xs.getD 1 [])) s 0 := by
  subst hk
  have : opV 6 xs s = .ok (quoS (xs.getD 0 []) (xs.getD 1 [])) s := by
    show (if (xs.getD 1 []).getD 0 0 = 0 then _ else _) = _
    rw [if_neg hz]
  exact RelV.mk_ok this
theorem rel_snoc {l : List Ex} {k : Nat} (hk : k < l.length) (h : RelV (go c (evs n C (l.take k) env s)) xs s1 c1) (h2 : RelV (go c1 (evE n C (l.getD k Ex.zero) env s1)) x s2 c2) :
    RelV (go c (evs n C (l.take (k + 1)) env s)) (xs ++ [x]) s2 c2 := by
  by_cases hc : c = 0
  · subst hc
    rw [go_0] at h ⊢
    rw [evs_step hk]
    by_cases h0 : c1 = 0
    · subst h0
      rw [go_0] at h2
      rw [h.bindO]
      by_cases h3 : c2 = 0
      · subst h3; rw [h2.bindO]; exact RelV.mk_ok rfl
      · rw [h2.bindE h3]; exact RelV.mk_err rfl h3
    · rw [h.bindE h0]; rw [go_ne h0] at h2; exact RelV.mk_err (by rw [h2.1]) (by rw [h2.1]; exact h2.2)
  · rw [go_ne hc] at h ⊢
    have hc1 : c1 ≠ 0 := by rw [h.1]; exact hc
    rw [go_ne hc1] at h2
    exact RelV.mk_err (by rw [h2.1, h.1]) (by rw [h2.1]; exact hc1)
theorem rel_lop {f : List Sr → Nat → Rs (List Sr)} {k : Nat} (h : RelV (lop f k xs s) ys s1 c1) (hc : c1 = 0) {zs : List Sr} (h2 : RelV (go c1 (f ys s1)) zs s2 c2) : RelV (lop f (k + 1) xs s) zs s2 c2 := by
  subst hc
  show RelV ((lop f k xs s).bind f) _ _ _
  rw [h.bindO]; rw [go_0] at h2; exact h2
/-- A loop that stopped. -/
theorem lop_err {f : List Sr → Nat → Rs (List Sr)} {d : Int} : ∀ {m k : Nat}, lop f k xs s = .err d → k ≤ m → lop f m xs s = .err d
  | 0, k, h, hk => by have : k = 0 := by omega
                      subst this; exact h
  | m + 1, k, h, hk => by
    by_cases e : k = m + 1
    · subst e; exact h
    · show (lop f m xs s).bind f = _
      rw [lop_err h (by omega)]; rfl
theorem rel_stop {f : List Sr → Nat → Rs (List Sr)} {k m : Nat} (h : RelV (lop f k xs s) ys s1 c1) (hk : k ≤ m) (hs : k = m ∨ c1 ≠ 0) : RelV (lop f m xs s) ys s1 c1 := by
  by_cases hc : c1 = 0
  · rcases hs with rfl | hh
    · exact h
    · exact absurd hc hh
  · exact RelV.mk_err (lop_err (h.err hc) hk) hc
end
theorem all_start (n : Nat) (C : Ca) (l : List Ex) (env : List Sr) (s : Nat) (c : Int) : RelV (go c (evs n C (l.take 0) env s)) [] s c := by
  rw [List.take_zero, evs]
  by_cases h : c = 0
  · subst h; exact RelV.mk_ok rfl
  · exact RelV.mk_err (go_ne h _) h
theorem addS_ser {n : Nat} {a b : Sr} (ha : Ser1 n a) : Ser1 n (addS a b) := ⟨by unfold addS; rw [tab_len]; exact ha.1, addS_num _ _⟩
theorem redS_ser {n : Nat} {a b : Sr} (ha : Ser1 n a) : Ser1 n (redS a b) := ⟨by rw [redS_len]; exact ha.1, redS_num _ _⟩
theorem proS_ser {n : Nat} {a b : Sr} (ha : Ser1 n a) : Ser1 n (proS a b) := ⟨by unfold proS; rw [tab_len]; exact ha.1, proS_num _ _⟩
theorem quoS_ser {n : Nat} {a b : Sr} (ha : Ser1 n a) : Ser1 n (quoS a b) := ⟨by rw [quoS_len]; exact ha.1, quoS_num _ _⟩
theorem sclS_ser {n : Nat} {a : Sr} {y : Int} (ha : Ser1 n a) : Ser1 n (sclS a y) := ⟨by unfold sclS; rw [tab_len]; exact ha.1, sclS_num _ _⟩
end Go.Proofs.YtnofbmdpabcjaaaGreat
namespace Go.Proofs.YtnofbmdpabcjaaaGreat
open Go Go.RowKit
set_option linter.unusedVariables false
set_option linter.unusedSimpArgs false
def evR (p : List Fn) (n f : Nat) (a : List Sr) : List Sr := match ev p n f a with
  | .ok xs _ => xs
  | .err _ => []
def evT (p : List Fn) (n f : Nat) (a : List Sr) : Nat := match ev p n f a with
  | .ok _ s => s
  | .err _ => 0
def evD (p : List Fn) (n f : Nat) (a : List Sr) : Int := match ev p n f a with
  | .ok _ _ => 0
  | .err c => c
section
variable {p : List Fn} {n f s : Nat} {a x : List Sr} {c : Int}
theorem ev_ok (h : RelV (go 0 (evs n (evC p n f) (p.getD f Fn.zero).outs a 0)) x s c) (hc : c = 0) : ev p n f a = .ok x s := by subst hc; exact h.ok
theorem ev_err (h : RelV (go 0 (evs n (evC p n f) (p.getD f Fn.zero).outs a 0)) x s c) (hc : c ≠ 0) : ev p n f a = .err c := h.err hc
theorem evR_o (h : ev p n f a = .ok x s) : evR p n f a = x := by unfold evR; rw [h]
theorem evT_o (h : ev p n f a = .ok x s) : evT p n f a = s := by unfold evT; rw [h]
theorem evD_o (h : ev p n f a = .ok x s) : evD p n f a = 0 := by unfold evD; rw [h]
theorem evR_e (h : ev p n f a = .err c) : evR p n f a = [] := by unfold evR; rw [h]
theorem evT_e (h : ev p n f a = .err c) : evT p n f a = 0 := by unfold evT; rw [h]
theorem evD_e (h : ev p n f a = .err c) : evD p n f a = c := by unfold evD; rw [h]
end
/-- What is known of the outcome of an evaluation. -/
structure EvP (p : List Fn) (n f : Nat) (a : List Sr) : Prop where
  code : 0 ≤ evD p n f a ∧ evD p n f a ≤ 9
  steps : evT p n f a ≤ 3000
  len : evD p n f a = 0 → (evR p n f a).length = (p.getD f Fn.zero).outs.length
  ser : SrE n (evR p n f a)
  non : evD p n f a ≠ 0 → evR p n f a = []
theorem EvP.mk' {p : List Fn} {n f s : Nat} {a x : List Sr} {c : Int} (h : RelV (go 0 (evs n (evC p n f) (p.getD f Fn.zero).outs a 0)) x s c) (hc : 0 ≤ c ∧ c ≤ 9) (hs : s ≤ 3000) (hl : x.length = (p.getD f Fn.zero).outs.length) (hx : SrE n x) : EvP p n f a := by
  by_cases h0 : c = 0
  · have e := ev_ok h h0
    exact ⟨by rw [evD_o e]; omega, by rw [evT_o e]; exact hs, fun _ => by rw [evR_o e]; exact hl, by rw [evR_o e]; exact hx, fun hh => absurd (evD_o e) hh⟩
  · have e := ev_err h h0
    exact ⟨by rw [evD_e e]; exact hc, by rw [evT_e e]; omega, fun hh => absurd (by rw [← hh, evD_e e]) h0, by rw [evR_e e]; intro k hk; simp at hk, fun _ => evR_e e⟩
end Go.Proofs.YtnofbmdpabcjaaaGreat
namespace Go.Proofs.YtnofbmdpabcjaaaGreat
open Go Go.RowKit
set_option linter.unusedVariables false
set_option linter.unusedSimpArgs false
set_option linter.unusedSectionVars false
/-- A relation between worlds: what stays. -/
class JR where
  rel : World → World → Prop
  refl : ∀ w, rel w w
  trans : ∀ {a b c}, rel a b → rel b c → rel a c
  ext : ∀ {a b}, Ext a b → rel a b
/-- Only some blocks change. -/
@[reducible] def jrC (F : List Nat) : JR := ⟨Chg F, Chg.refl F, Chg.trans, Chg.of_ext F⟩
namespace Jx
variable [J : JR]
def Ext (w w' : World) : Prop := J.rel w w'
theorem Ext.refl (w : World) : Ext w w := J.refl w
theorem Ext.trans {a b c : World} (h : Ext a b) (k : Ext b c) : Ext a c := J.trans h k
section
variable {P : Program} {ops : Array Oper} {md : Region.Mode}
def Cl (w0 w : World) : Nat → World → Prop
  | 0, _ => True
  | 1, w' => Ext w0 w'
  | _, w' => Ext w w'
def OneOp (P : Program) (w0 : World) (o : Oper) (k : Nat) (a : Act) (w : World) (K : Act → World → Prop) : Prop :=
  if k ≤ 2 then ∃ v, (∀ w', Cl w0 w k w' → YA P o a w' v) ∧ K (a.put o.dst v) w
  else if k = 3 then o.wp P a w (fun a' w' => Ext w w' ∧ K a' w') (NQ fun _ _ => False)
  else o.wp P a w K (NQ fun _ _ => False)
def LW (P : Program) (ops : Array Oper) (w0 : World) (Q : Act → World → Prop) : List Oper → List Nat → Act → World → Prop
  | [], _, a, w => Q a w
  | _ :: _, [], _, _ => False
  | o :: os, k :: ks, a, w =>
    if Region.wanted o (yielded ops a.tmps) = true then OneOp P w0 o k a w (LW P ops w0 Q os ks) else LW P ops w0 Q os ks (a.put o.dst undef) w
theorem OneOp.mono {w0 : World} {o : Oper} {k : Nat} {a : Act} {w : World} {K K' : Act → World → Prop} (h : ∀ a w, K a w → K' a w)
    (hh : OneOp P w0 o k a w K) : OneOp P w0 o k a w K' := by
  unfold OneOp at *
  split
  · rename_i hk
    rw [if_pos hk] at hh
    obtain ⟨v, h1, h2⟩ := hh
    exact ⟨v, h1, h _ _ h2⟩
  · rename_i hk
    rw [if_neg hk] at hh
    split
    · rename_i h3
      rw [if_pos h3] at hh
      exact Oper.wp_mono (fun a w hx => ⟨hx.1, h _ _ hx.2⟩) hh
    · rename_i h3
      rw [if_neg h3] at hh
      exact Oper.wp_mono h hh
variable (P ops) in
def LI (kd : Nat → Nat) (w0 : World) (Q : Act → World → Prop) : List Nat → Act → World → Prop
  | [], a, w => Q a w
  | i :: l, a, w =>
    match ops[i]? with
    | none => False
    | some o => if Region.wanted o (yielded ops a.tmps) = true then OneOp P w0 o (kd i) a w (LI kd w0 Q l) else LI kd w0 Q l (a.put o.dst undef) w
def Inv1 (kd : Nat → Nat) (w0 w : World) (l : List Nat) : Prop := (∃ j ∈ l, kd j = 1) → Ext w0 w
def Yv (P : Program) (ops : Array Oper) (w0 : World) (k : Nat) (o : Oper) (a : Act) (w : World) (v : Value) : Prop :=
  (Region.wanted o (yielded ops a.tmps) = true ∧ ∀ w', Cl w0 w k w' → YA P o a w' v) ∨ (Region.wanted o (yielded ops a.tmps) = false ∧ v = undef)
theorem Cl.self {w0 w : World} {k : Nat} (h : k = 1 → Ext w0 w) : Cl w0 w k w := by
  match k, h with
  | 0, _ => exact trivial
  | 1, h => exact h rfl
  | _ + 2, _ => exact Ext.refl w
theorem Yv.unique {w0 w : World} {k : Nat} {o : Oper} {a : Act} {v u : Value} (hk : k = 1 → Ext w0 w) (h : Yv P ops w0 k o a w v) (h' : Yv P ops w0 k o a w u) : v = u := by
  rcases h with ⟨h1, h2⟩ | ⟨h1, h2⟩ <;> rcases h' with ⟨g1, g2⟩ | ⟨g1, g2⟩
  · exact (h2 w (Cl.self hk)).unique (g2 w (Cl.self hk))
  · rw [h1] at g1; cases g1
  · rw [h1] at g1; cases g1
  · rw [h2, g2]
theorem Yv.apart {w0 w : World} {k : Nat} {o : Oper} (hs : ∀ cs b, o.op ≠ .select cs b) {a : Act} {d : Option Tmp} {u v : Value}
    (h1 : ∀ x, d = some x → x ∉ o.looksAt ops) : Yv P ops w0 k o (a.put d u) w v ↔ Yv P ops w0 k o a w v := by
  unfold Yv
  rw [wanted_put (ops := ops) o a d u h1]
  simp only [YA.apart (ops := ops) (P := P) hs h1]
theorem Yv.defers {w0 w : World} {k : Nat} {o : Oper} {a : Act} {l : List Deferred} {v : Value} : Yv P ops w0 k o { a with defers := l } w v ↔ Yv P ops w0 k o a w v := by
  have he : Act.eval { a with defers := l } = Act.eval a := funext fun x => by cases x <;> rfl
  unfold Yv YA
  rw [he]
theorem Yv.shape {w0 w : World} {k : Nat} {o : Oper} (hs : ∀ cs b, o.op ≠ .select cs b) {a a' : Act} {d : Option Tmp} {v : Value}
    (h1 : ∀ x, d = some x → x ∉ o.looksAt ops) (h : Shape a d a') : Yv P ops w0 k o a' w v ↔ Yv P ops w0 k o a w v := by
  obtain ⟨u, rfl | ⟨x, rfl⟩⟩ := h
  · exact Yv.apart hs h1
  · rw [Yv.apart hs h1]; exact Yv.defers
section main
variable {kd bs : Nat → Nat} {w0 : World} {Q : Act → World → Prop}
theorem takeQ (hsel : ∀ (j : Nat) (o : Oper) cs b, ops[j]? = some o → o.op ≠ .select cs b) {j : Nat} {oj : Oper} (hj : ops[j]? = some oj) (hk : kd j ≤ 2) :
    ∀ (l1 l2 : List Nat) (a : Act) (w : World), (∀ i ∈ l1, ∀ oi, ops[i]? = some oi → oi.apart ops oj = true ∧ okPair (kd i) (kd j) = true) → (kd j = 1 → Ext w0 w) →
      LI P ops kd w0 Q (l1 ++ j :: l2) a w → ∃ v, Yv P ops w0 (kd j) oj a w v ∧ LI P ops kd w0 Q (l1 ++ l2) (a.put oj.dst v) w
  | [], l2, a, w, _, _, h => by
    simp only [List.nil_append, LI, hj] at h ⊢
    split at h
    · rename_i hw
      unfold OneOp at h
      rw [if_pos hk] at h
      obtain ⟨v, h1, h2⟩ := h
      exact ⟨v, .inl ⟨hw, h1⟩, h2⟩
    · rename_i hw
      exact ⟨undef, .inr ⟨by simpa using hw, rfl⟩, h⟩
  | i :: l1, l2, a, w, hl, hx, h => by
    have hi := hl i (List.mem_cons_self ..)
    have hl' : ∀ x ∈ l1, ∀ ox, ops[x]? = some ox → ox.apart ops oj = true ∧ okPair (kd x) (kd j) = true := fun x hx => hl x (List.mem_cons_of_mem _ hx)
    simp only [List.cons_append, LI] at h ⊢
    cases hoi : ops[i]? with
    | none => rw [hoi] at h; exact h.elim
    | some oi =>
      rw [hoi] at h
      simp only at h ⊢
      obtain ⟨hap, hok⟩ := hi oi hoi
      obtain ⟨p1, p2, p3⟩ := Oper.apart_spec hap
      have p2' : ∀ d, oj.dst = some d → oi.dst ≠ some d := fun d hd he => p2 d he hd
      have si := fun cs b => hsel i oi cs b hoi
      have sj := fun cs b => hsel j oj cs b hj
      by_cases hw : Region.wanted oi (yielded ops a.tmps) = true
      · rw [if_pos hw] at h
        unfold OneOp at h
        by_cases hki : kd i ≤ 2
        · rw [if_pos hki] at h
          obtain ⟨vi, hy, h⟩ := h
          obtain ⟨v, h1, h2⟩ := takeQ hsel hj hk l1 l2 (a.put oi.dst vi) w hl' hx h
          refine ⟨v, (Yv.apart sj p1).1 h1, ?_⟩
          rw [wanted_put oi a oj.dst v p3, if_pos hw]
          unfold OneOp
          rw [if_pos hki]
          refine ⟨vi, fun w' hc => (YA.apart (ops := ops) si p3).2 (hy w' hc), ?_⟩
          rw [Act.put_comm a v vi p2']
          exact h2
        · rw [if_neg hki] at h
          have gen : ∀ (G : World → Prop), (∀ w', G w' → kd j = 1 → Ext w0 w') → (kd j = 2 → False) →
              oi.wp P a w (fun a' w' => G w' ∧ LI P ops kd w0 Q (l1 ++ j :: l2) a' w') (NQ fun _ _ => False) →
              ∃ v, Yv P ops w0 (kd j) oj a w v ∧ oi.wp P (a.put oj.dst v) w (fun a' w' => G w' ∧ LI P ops kd w0 Q (l1 ++ l2) a' w') (NQ fun _ _ => False) := by
            intro G hG hn2 hh
            have hcl : ∀ w1 w2, Cl w0 w1 (kd j) w2 → Cl w0 w (kd j) w2 := by
              intro w1 w2 hc
              match hkj : kd j, hk, hn2 with
              | 0, _, _ => trivial
              | 1, _, _ => rw [hkj] at hc; exact hc
              | 2, _, hn => exact (hn rfl).elim
              | _ + 3, hle, _ => omega
            have hcl' : ∀ w1 w2, Cl w0 w (kd j) w2 → Cl w0 w1 (kd j) w2 := by
              intro w1 w2 hc
              match hkj : kd j, hk, hn2 with
              | 0, _, _ => trivial
              | 1, _, _ => rw [hkj] at hc; exact hc
              | 2, _, hn => exact (hn rfl).elim
              | _ + 3, hle, _ => omega
            have hs := wp_shape hh
            have step : ∀ a' w', ((G w' ∧ LI P ops kd w0 Q (l1 ++ j :: l2) a' w') ∧ Shape a oi.dst a') →
                ∃ v, Yv P ops w0 (kd j) oj a w v ∧ LI P ops kd w0 Q (l1 ++ l2) (a'.put oj.dst v) w' := by
              rintro a' w' ⟨⟨hg, hL⟩, hsh⟩
              obtain ⟨v, h1, h2⟩ := takeQ hsel hj hk l1 l2 a' w' hl' (hG w' hg) hL
              have h1' := (Yv.shape sj p1 hsh).1 h1
              refine ⟨v, ?_, h2⟩
              rcases h1' with ⟨q1, q2⟩ | ⟨q1, q2⟩
              · exact .inl ⟨q1, fun w2 hc => q2 w2 (hcl' w' w2 hc)⟩
              · exact .inr ⟨q1, q2⟩
            obtain ⟨v, hv⟩ : ∃ v, Yv P ops w0 (kd j) oj a w v := by
              obtain ⟨u, w', hK | ⟨d, hK⟩⟩ := wp_some hs
              · obtain ⟨v, h1, _⟩ := step _ _ hK; exact ⟨v, h1⟩
              · obtain ⟨v, h1, _⟩ := step _ _ hK; exact ⟨v, h1⟩
            refine ⟨v, hv, wp_unapart (ops := ops) si p3 p2' ?_⟩
            refine Oper.wp_mono (fun a' w' hK => ?_) hs
            obtain ⟨v', h1, h2⟩ := step a' w' hK
            have : v' = v := h1.unique hx hv
            subst this
            exact ⟨hK.1.1, h2⟩
          by_cases h3 : kd i = 3
          · rw [if_pos h3] at h
            have hj1 := ok3 hok h3
            obtain ⟨v, hv, hwp⟩ := gen (fun w' => Ext w w') (fun w' hg h1 => (hx h1).trans hg) (fun h2 => by omega) h
            refine ⟨v, hv, ?_⟩
            rw [wanted_put oi a oj.dst v p3, if_pos hw]
            unfold OneOp
            rw [if_neg hki, if_pos h3]
            exact hwp
          · rw [if_neg h3] at h
            have hj0 := ok4 hok (by omega)
            obtain ⟨v, hv, hwp⟩ := gen (fun _ => True) (fun w' _ h1 => by omega) (fun h2 => by omega) (Oper.wp_mono (fun a w hh => ⟨trivial, hh⟩) h)
            refine ⟨v, hv, ?_⟩
            rw [wanted_put oi a oj.dst v p3, if_pos hw]
            unfold OneOp
            rw [if_neg hki, if_neg h3]
            exact Oper.wp_mono (fun a w hh => hh.2) hwp
      · rw [if_neg hw] at h
        obtain ⟨v, h1, h2⟩ := takeQ hsel hj hk l1 l2 (a.put oi.dst undef) w hl' hx h
        refine ⟨v, (Yv.apart sj p1).1 h1, ?_⟩
        rw [wanted_put oi a oj.dst v p3, if_neg hw, Act.put_comm a v undef p2']
        exact h2
theorem takeR (hsel : ∀ (j : Nat) (o : Oper) cs b, ops[j]? = some o → o.op ≠ .select cs b) {j : Nat} {oj : Oper} (hj : ops[j]? = some oj) (hk : 3 ≤ kd j) :
    ∀ (l1 l2 : List Nat) (a : Act) (w : World), (∀ i ∈ l1, ∀ oi, ops[i]? = some oi → oi.apart ops oj = true ∧ okPair (kd i) (kd j) = true) → LI P ops kd w0 Q (l1 ++ j :: l2) a w →
      (Region.wanted oj (yielded ops a.tmps) = true → oj.wp P a w (fun a' w' => (kd j = 3 → Ext w w') ∧ LI P ops kd w0 Q (l1 ++ l2) a' w') (NQ fun _ _ => False)) ∧
      (Region.wanted oj (yielded ops a.tmps) = false → LI P ops kd w0 Q (l1 ++ l2) (a.put oj.dst undef) w)
  | [], l2, a, w, _, h => by
    simp only [List.nil_append, LI, hj] at h ⊢
    refine ⟨fun hw => ?_, fun hw => ?_⟩
    · rw [if_pos hw] at h
      unfold OneOp at h
      rw [if_neg (by omega)] at h
      split at h
      · exact Oper.wp_mono (fun _ _ hh => ⟨fun _ => hh.1, hh.2⟩) h
      · rename_i h3; exact Oper.wp_mono (fun _ _ hh => ⟨fun h' => (h3 h').elim, hh⟩) h
    · rw [if_neg (by simp [hw])] at h; exact h
  | i :: l1, l2, a, w, hl, h => by
    have hi := hl i (List.mem_cons_self ..)
    have hl' : ∀ x ∈ l1, ∀ ox, ops[x]? = some ox → ox.apart ops oj = true ∧ okPair (kd x) (kd j) = true := fun x hx => hl x (List.mem_cons_of_mem _ hx)
    simp only [List.cons_append, LI] at h ⊢
    cases hoi : ops[i]? with
    | none => rw [hoi] at h; exact h.elim
    | some oi =>
      rw [hoi] at h
      simp only at h ⊢
      obtain ⟨hap, hok⟩ := hi oi hoi
      obtain ⟨p1, p2, p3⟩ := Oper.apart_spec hap
      have p2' : ∀ d, oj.dst = some d → oi.dst ≠ some d := fun d hd he => p2 d he hd
      have si := fun cs b => hsel i oi cs b hoi
      have sj := fun cs b => hsel j oj cs b hj
      obtain ⟨hki, hk4⟩ := okj hok hk
      by_cases hw : Region.wanted oi (yielded ops a.tmps) = true
      · rw [if_pos hw] at h
        unfold OneOp at h
        rw [if_pos hki] at h
        obtain ⟨vi, hy, h⟩ := h
        obtain ⟨g1, g2⟩ := takeR hsel hj hk l1 l2 (a.put oi.dst vi) w hl' h
        rw [wanted_put oj a oi.dst vi p1] at g1 g2
        refine ⟨fun hwj => ?_, fun hwj => ?_⟩
        · have g := wp_apart (ops := ops) (Q := fun _ _ => False) sj p1 p2 (g1 hwj)
          refine Oper.wp_mono (fun a' w' hK => ?_) (wp_shape g)
          obtain ⟨⟨hE, hL⟩, hsh⟩ := hK
          refine ⟨hE, ?_⟩
          rw [wanted_shape p3 hsh, if_pos hw]
          unfold OneOp
          rw [if_pos hki]
          refine ⟨vi, fun w'' hc => ?_, hL⟩
          have hya : YA P oi a w'' vi := by
            refine hy w'' ?_
            match hki' : kd i, hki, hk4 with
            | 0, _, _ => trivial
            | 1, _, _ => rw [hki'] at hc; exact hc
            | 2, _, h4 => rw [hki'] at hc; exact (hE (by have : ¬ 4 ≤ kd j := fun hh => by have := h4 hh; omega
                                                         omega)).trans hc
            | _ + 3, hle, _ => omega
          have he : ∀ b, YA P oi b w'' vi ↔ YR P ((execOp b.eval oi).run P w'') w'' vi := fun _ => Iff.rfl
          obtain ⟨u, rfl | ⟨x, rfl⟩⟩ := hsh
          · exact (YA.apart (ops := ops) si p3).2 hya
          · refine (YA.apart (ops := ops) si p3).2 ?_
            have hee : Act.eval { a with defers := x :: a.defers } = Act.eval a := funext fun y => by cases y <;> rfl
            rw [he, hee, ← he]; exact hya
        · rw [wanted_put oi a oj.dst undef p3, if_pos hw]
          unfold OneOp
          rw [if_pos hki]
          refine ⟨vi, fun w' hc => (YA.apart (ops := ops) si p3).2 (hy w' hc), ?_⟩
          rw [Act.put_comm a undef vi p2']
          exact g2 hwj
      · rw [if_neg hw] at h
        obtain ⟨g1, g2⟩ := takeR hsel hj hk l1 l2 (a.put oi.dst undef) w hl' h
        rw [wanted_put oj a oi.dst undef p1] at g1 g2
        refine ⟨fun hwj => ?_, fun hwj => ?_⟩
        · have g := wp_apart (ops := ops) (Q := fun _ _ => False) sj p1 p2 (g1 hwj)
          refine Oper.wp_mono (fun a' w' hK => ?_) (wp_shape g)
          obtain ⟨⟨hE, hL⟩, hsh⟩ := hK
          refine ⟨hE, ?_⟩
          rw [wanted_shape p3 hsh, if_neg hw]
          exact hL
        · rw [wanted_put oi a oj.dst undef p3, if_neg hw, Act.put_comm a undef undef p2']
          exact g2 hwj
end main
end
section
variable {P : Program} {ops : Array Oper} {md : Region.Mode} {kd bs : Nat → Nat} {w0 : World} {Q : Act → World → Prop}
theorem any_of_LI (hsel : ∀ (j : Nat) (o : Oper) cs b, ops[j]? = some o → o.op ≠ .select cs b) (hS : Sound md ops bs)
    (hlex : ∀ j oj, ops[j]? = some oj → ∀ e ∈ oj.after, Region.binds md e = true → e.on < j) :
    ∀ (n : Nat) (l : List Nat) (listed : Array Bool) (a : Act) (w : World), l.length = n → l.Pairwise (PairOK md ops kd bs) → l.Nodup → listed.size = ops.size →
      (∀ i, i ∈ l ↔ listed.getD i true = false) → Closed bs listed → No14 kd l → Inv1 kd w0 w l → LI P ops kd w0 Q l a w → wpAny P md ops (NQ Q) n listed a w
  | 0, l, listed, a, w, hn, _, _, _, hm, _, _, _, h => by
    have hl : l = [] := List.eq_nil_of_length_eq_zero hn
    subst hl
    refine ⟨?_, h⟩
    cases hr : Region.ready md ops listed with
    | nil => rfl
    | cons x xs =>
      have := (mem_ready.1 (by rw [hr]; exact List.mem_cons_self .. : x ∈ Region.ready md ops listed)).1
      exact absurd ((hm x).2 this) (by simp)
  | n + 1, l, listed, a, w, hn, hs, hd, hz, hm, hc, h14, hi1, h => by
    refine ⟨fun h0 => ?_, fun i hi => ?_⟩
    · exfalso
      match l, hn with
      | i :: l, hn =>
        have hready := head_ready (md := md) hz hm hlex (fun y hy ox hox => ((List.pairwise_cons.1 hs).1 y hy).2 ox hox)
        rw [h0] at hready
        cases hready
    · obtain ⟨hun, oi, hoi, hall⟩ := mem_ready.1 hi
      obtain ⟨l1, l2, rfl⟩ := List.append_of_mem ((hm i).2 hun)
      have hbits := bits_of_ready hS hc hoi hall
      have hpi : ∀ x ∈ l1, PairOK md ops kd bs x i := fun x hx => (List.pairwise_append.1 hs).2.2 x hx i (List.mem_cons_self ..)
      have hfree := prefix_free (kd := kd) (l1 := l1) hoi (fun x hx => (hpi x hx).1) (fun x hx => (hm x).1 (List.mem_append_left _ hx)) hbits
      have hsz := lt_of_unlisted hun
      have hsub0 : (l1 ++ l2).Sublist (l1 ++ i :: l2) := List.Sublist.append_left (List.sublist_cons_self _ _) _
      have hnd : i ∉ l1 ++ l2 := by
        have h1 := List.nodup_append.1 hd
        intro hmem
        rcases List.mem_append.1 hmem with hh | hh
        · exact h1.2.2 i hh i (List.mem_cons_self ..) rfl
        · exact (List.nodup_cons.1 h1.2.1).1 hh
      have hn' : (l1 ++ l2).length = n := by simp at hn ⊢; omega
      have rec_ : ∀ a' w', Inv1 kd w0 w' (l1 ++ l2) → LI P ops kd w0 Q (l1 ++ l2) a' w' → wpAny P md ops (NQ Q) n (listed.setIfInBounds i true) a' w' := fun a' w' hi' hL =>
        any_of_LI hsel hS hlex n (l1 ++ l2) _ a' w' hn' (hs.sublist hsub0) (hd.sublist hsub0) (by simpa using hz) (mem_erase hm hnd hsz) (closed_set hc hbits) (No14.erase h14) hi' hL
      have hsub : Inv1 kd w0 w (l1 ++ l2) := fun ⟨j, hj, hk⟩ => hi1 ⟨j, hsub0.subset hj, hk⟩
      by_cases hk : kd i ≤ 2
      · obtain ⟨v, hv, hL⟩ := takeQ hsel hoi hk l1 l2 a w hfree (fun h1 => hi1 ⟨i, by simp, h1⟩) h
        unfold wpOp
        rw [hoi]
        rcases hv with ⟨hw, hy⟩ | ⟨hw, rfl⟩
        · simp only [hw, if_true]
          exact .inl (wp_of_YA (hy w (Cl.self fun h1 => hi1 ⟨i, by simp, h1⟩)) (rec_ _ _ hsub hL))
        · simp only [hw, Bool.false_eq_true, if_false]
          exact rec_ _ _ hsub hL
      · obtain ⟨g1, g2⟩ := takeR hsel hoi (by omega) l1 l2 a w hfree h
        unfold wpOp
        rw [hoi]
        by_cases hw : Region.wanted oi (yielded ops a.tmps) = true
        · simp only [hw, if_true]
          refine .inl (Oper.wp_mono (fun a' w' hK => rec_ a' w' ?_ hK.2) (wp_weak (g1 hw)))
          rintro ⟨j, hj, hkj⟩
          by_cases h3 : kd i = 3
          · exact (hsub ⟨j, hj, hkj⟩).trans (hK.1 h3)
          · exfalso
            rcases List.mem_append.1 hj with hh | hh
            · obtain ⟨oj, hoj⟩ : ∃ oj, ops[j]? = some oj := by
                have := lt_of_unlisted ((hm j).1 (List.mem_append_left _ hh))
                exact ⟨ops[j]'(by omega), by simp [show j < ops.size by omega]⟩
              have := (okj (hfree j hh oj hoj).2 (by omega)).2 (by omega)
              omega
            · exact h14 l1 i l2 rfl (by omega) j hh hkj
        · simp only [hw, Bool.false_eq_true, if_false]
          exact rec_ _ _ hsub (g2 (by simpa using hw))
theorem LI_of_LW (ks : List Nat) : ∀ (os : List Oper) (k : Nat) (a : Act) (w : World), (∀ j, os[j]? = ops[k + j]?) →
    LW P ops w0 Q os (ks.drop k) a w → LI P ops (fun i => ks.getD i 0) w0 Q (List.range' k os.length) a w
  | [], _, _, _, _, h => by simpa [LI, LW] using h
  | o :: os, k, a, w, ho, h => by
    have h0 : ops[k]? = some o := by simpa using (ho 0).symm
    have hr : ∀ a w, LW P ops w0 Q os (ks.drop (k + 1)) a w → LI P ops (fun i => ks.getD i 0) w0 Q (List.range' (k + 1) os.length) a w := fun a w hh =>
      LI_of_LW ks os (k + 1) a w (fun j => by have := ho (j + 1); simpa [Nat.add_assoc, Nat.add_comm 1 j] using this) hh
    have hlt : k < ks.length := by
      rcases Nat.lt_or_ge k ks.length with hh | hh
      · exact hh
      · rw [List.drop_of_length_le hh] at h; exact h.elim
    have hd : ks.drop k = ks[k] :: ks.drop (k + 1) := List.drop_eq_getElem_cons hlt
    rw [hd] at h
    simp only [List.length_cons, List.range'_succ, LI, h0, LW] at h ⊢
    have hg : ks.getD k 0 = ks[k] := by simp [hlt]
    split
    · rename_i hw
      rw [if_pos hw] at h
      rw [hg]
      exact h.mono hr
    · rename_i hw
      rw [if_neg hw] at h
      exact hr _ _ h
theorem wp_draw {id : Nat} {Q : Exit → Act → World → Prop} {a : Act} {w : World} (os : List Oper) (ks : List Nat) (hm : P.follows .mixedOrders = true) (hB : chk os.toArray ks = true)
    (h : LW P os.toArray w.drew (fun a w => Q .normal a w) os ks a w.drew) : (Code.region id os.toArray true).wp P Q a w := by
  refine wp_region_any hm ?_
  simp only [chk, Bool.and_eq_true] at hB
  obtain ⟨⟨hsel, hpl⟩, h14⟩ := hB
  have hz : ∀ {j : Nat} {o : Oper}, os.toArray[j]? = some o → (o, j) ∈ os.toArray.toList.zipIdx := by
    intro j o ho
    rw [List.mem_zipIdx_iff_getElem?]
    simpa using ho
  have hall : ∀ j oj, os.toArray[j]? = some oj → _ := fun j oj hj => List.all_eq_true.1 hpl _ (hz hj)
  have hF : Free os.toArray (fun i => ks.getD i 0) (fun j => (Region.before os.toArray).toList.getD j 0) := by
    intro i j oi oj hij hi hj
    have h3 := (Bool.and_eq_true _ _ ▸ hall j oj hj : _ ∧ _).2
    have h4 := List.all_eq_true.1 h3 _ (hz hi)
    simp only [Bool.or_eq_true, Bool.not_eq_true', decide_eq_false_iff_not, Bool.and_eq_true] at h4
    rcases h4 with (h4 | h4) | h4
    · exact absurd hij h4
    · exact .inl h4
    · exact .inr h4
  have hlex : ∀ j oj, os.toArray[j]? = some oj → ∀ e ∈ oj.after, Region.binds .any e = true → e.on < j := by
    intro j oj hj e he hb
    have h1 := (Bool.and_eq_true _ _ ▸ (Bool.and_eq_true _ _ ▸ hall j oj hj : _ ∧ _).1 : _ ∧ _).1
    have h2 := (Array.all_eq_true_iff_forall_mem.1 h1) e he
    simpa [hb] using h2
  have key := any_of_LI (P := P) (ops := os.toArray) (md := .any) (kd := fun i => ks.getD i 0) (bs := fun j => (Region.before os.toArray).toList.getD j 0) (w0 := w.drew) (Q := fun a w => Q .normal a w)
    (Region.noSelect_spec hsel) ?_ ?_ os.length (List.range' 0 os.length) (Array.replicate os.length false) a w.drew (by simp) ?_ List.nodup_range' (by simp) ?_ ?_ ?_ (fun _ => Ext.refl _) ?_
  · have := wpAny_weak _ _ _ _ key
    simpa using this
  · intro j oj hj i hb
    have h3 := (Bool.and_eq_true _ _ ▸ (Bool.and_eq_true _ _ ▸ hall j oj hj : _ ∧ _).1 : _ ∧ _).2
    have h5 : (Region.before os.toArray).toList.getD j 0 = oj.after.foldl (fun s e => if Region.binds .any e then s ||| 2 ^ e.on ||| (Region.before os.toArray).toList.getD e.on 0 else s) 0 := by simpa using h3
    dsimp only at hb
    rw [h5, ← Array.foldl_toList] at hb
    rcases foldl_bits _ _ _ _ hb with hb | ⟨e, he, hbb, hh⟩
    · simp at hb
    · exact ⟨e, Array.mem_toList_iff.1 he, hbb, hh⟩
  · exact hlex
  · exact pairs_sorted hF hlex List.pairwise_lt_range'
  · intro i
    simp only [List.mem_range', Nat.zero_add, Nat.one_mul]
    constructor
    · rintro ⟨x, hx, rfl⟩; simp [hx]
    · intro hh
      rcases Nat.lt_or_ge i os.length with h' | h'
      · exact ⟨i, h', rfl⟩
      · simp [Array.getElem?_eq_none (show (Array.replicate os.length false).size ≤ i by simpa using h')] at hh
  · intro i hi
    rcases Nat.lt_or_ge i os.length with h' | h'
    · simp [h'] at hi
    · simp [Array.getElem?_eq_none (show (Array.replicate os.length false).size ≤ i by simpa using h')] at hi
  · intro l1 i l2 hl hk j hj
    have hs : (l1 ++ i :: l2).Pairwise (· < ·) := hl ▸ List.pairwise_lt_range'
    have hij : i < j := List.rel_of_pairwise_cons (List.pairwise_append.1 hs).2.1 hj
    have mem : ∀ x ∈ l1 ++ i :: l2, x < os.length := by
      intro x hx
      rw [← hl] at hx
      simp only [List.mem_range', Nat.zero_add, Nat.one_mul] at hx
      obtain ⟨y, hy, rfl⟩ := hx
      exact hy
    have hi := mem i (by simp)
    have hj' := mem j (by simp [hj])
    have h1 := List.all_eq_true.1 h14 _ (hz (j := i) (o := os[i]) (by simp [hi]))
    simp only [Bool.or_eq_true, Bool.not_eq_true', decide_eq_false_iff_not] at h1
    rcases h1 with h1 | h1
    · exact absurd hk h1
    · have h2 := List.all_eq_true.1 h1 _ (hz (j := j) (o := os[j]) (by simp [hj']))
      simp only [Bool.or_eq_true, Bool.not_eq_true', decide_eq_false_iff_not] at h2
      rcases h2 with h2 | h2
      · exact absurd hij h2
      · simpa using h2
  · exact LI_of_LW ks os 0 a w.drew (by simp) (by simpa using h)
end
section
variable {P : Program} {ops : Array Oper} {w0 : World} {Q : Act → World → Prop} {os : List Oper} {ks : List Nat} {N : Nat} {ρ : Nat → Value} {w : World}
theorem lw_nil {a : Act} (h : Q a w) : LW P ops w0 Q [] ks a w := h
theorem lw_q {o : Oper} {k d : Nat} (hk : k ≤ 2) (hd : o.dst = some d) (hu : Up ops N ρ o) (v : Value) (hr : ∀ w', Cl w0 w k w' → (execOp (evF N ρ) o).run P w' = .ok (.value v) w')
    (h : LW P ops w0 Q os ks (mk N (upd ρ d v)) w) : LW P ops w0 Q (o :: os) (k :: ks) (mk N ρ) w := by
  simp only [LW]
  rw [if_pos hu]
  unfold OneOp
  rw [if_pos hk]
  refine ⟨v, fun w' hc => .inl ?_, ?_⟩
  · rw [mk_eval]; exact hr w' hc
  · rw [hd, mk_put]; exact h
theorem lw_r {o : Oper} {d : Nat} (hd : o.dst = some d) (hu : Up ops N ρ o)
    (v : Value) (w1 : World) (hr : (execOp (evF N ρ) o).run P w = .ok (.value v) w1) (hE : Ext w w1) (h : LW P ops w0 Q os ks (mk N (upd ρ d v)) w1) : LW P ops w0 Q (o :: os) (3 :: ks) (mk N ρ) w := by
  simp only [LW]
  rw [if_pos hu]
  unfold OneOp
  rw [if_neg (by decide), if_pos rfl]
  unfold Oper.wp
  rw [mk_eval, hr]
  show Ext w w1 ∧ LW P ops w0 Q os ks ((mk N ρ).put o.dst v) w1
  rw [hd, mk_put]
  exact ⟨hE, h⟩
theorem lw_call {d : Nat} {x : Operand} {xs : Array Operand} {ats : Array TypeId} {ty : TypeId} {pos : String} {aft : Array Edge} {g : Option (Nat × Bool)} (f : FuncId) (first cap : List Value) (args : List Value)
    (hx : evF N ρ x = .func (.func f) first.toArray cap.toArray) (hxs : first ++ (xs.toList.map (evF N ρ)) ++ cap = args) (hf : ((P.funcs[f]?).map fun fn => (fn.name != "runtime.NumGoroutine") && fn.body.isSome) = some true)
    (hu : Up ops N ρ ⟨some d, .call ⟨.value x, xs, ats⟩, ty, pos, aft, g⟩) {R : Ending → World → Prop} (hc : Calls P f args.toArray w R)
    (h : ∀ e w1, R e w1 → ∃ v, e = .returned v ∧ Ext w w1 ∧ LW P ops w0 Q os ks (mk N (upd ρ d v)) w1) :
    LW P ops w0 Q (⟨some d, .call ⟨.value x, xs, ats⟩, ty, pos, aft, g⟩ :: os) (3 :: ks) (mk N ρ) w := by
  simp only [LW]
  rw [if_pos hu]
  unfold OneOp
  rw [if_neg (by decide), if_pos rfl]
  unfold Oper.wp
  rw [mk_eval]
  have hrun : (execOp (evF N ρ) ⟨some d, .call ⟨.value x, xs, ats⟩, ty, pos, aft, g⟩).run P w = .ok (.enter f args.toArray) w := by
    obtain ⟨fn, hfn, hb⟩ := Option.map_eq_some_iff.1 hf
    simp only [Bool.and_eq_true, bne_iff_ne, ne_eq] at hb
    have hargs : first.toArray ++ xs.map (evF N ρ) ++ cap.toArray = args.toArray := by
      rw [← hxs]; apply Array.ext'; simp
    obtain ⟨c, hbc⟩ := Option.isSome_iff_exists.1 hb.2
    have hcf : (callFunc f args.toArray).run P w = .ok (.enter f args.toArray) w := by
      simp [callFunc, hfn, hb.1, hbc]
    simp [execOp, resolve, hargs, hx, Deferred.ofValue, invoke, hcf]
  rw [hrun]
  refine Calls.mono hc (fun e w1 he => ?_)
  obtain ⟨v, rfl, hE, hL⟩ := h e w1 he
  show Ext w w1 ∧ LW P ops w0 Q os ks ((mk N ρ).put (some d) v) w1
  rw [mk_put]
  exact ⟨hE, hL⟩
theorem lw_callq {d : Nat} {x : Operand} {xs : Array Operand} {ats : Array TypeId} {ty : TypeId} {pos : String} {aft : Array Edge} {g : Option (Nat × Bool)} (f : FuncId) (first cap : List Value) (args : List Value)
    (hx : evF N ρ x = .func (.func f) first.toArray cap.toArray) (hxs : first ++ (xs.toList.map (evF N ρ)) ++ cap = args) (hf : ((P.funcs[f]?).map fun fn => (fn.name != "runtime.NumGoroutine") && fn.body.isSome) = some true)
    (hu : Up ops N ρ ⟨some d, .call ⟨.value x, xs, ats⟩, ty, pos, aft, g⟩) (v : Value) (hc : ∀ w', Calls P f args.toArray w' (fun e w'' => e = .returned v ∧ w'' = w'))
    (h : LW P ops w0 Q os ks (mk N (upd ρ d v)) w) :
    LW P ops w0 Q (⟨some d, .call ⟨.value x, xs, ats⟩, ty, pos, aft, g⟩ :: os) (0 :: ks) (mk N ρ) w := by
  simp only [LW]
  rw [if_pos hu]
  unfold OneOp
  rw [if_pos (by decide)]
  have hrun : ∀ w, (execOp (evF N ρ) ⟨some d, .call ⟨.value x, xs, ats⟩, ty, pos, aft, g⟩).run P w = .ok (.enter f args.toArray) w := by
    intro w
    obtain ⟨fn, hfn, hb⟩ := Option.map_eq_some_iff.1 hf
    simp only [Bool.and_eq_true, bne_iff_ne, ne_eq] at hb
    have hargs : first.toArray ++ xs.map (evF N ρ) ++ cap.toArray = args.toArray := by
      rw [← hxs]; apply Array.ext'; simp
    obtain ⟨c, hbc⟩ := Option.isSome_iff_exists.1 hb.2
    have hcf : (callFunc f args.toArray).run P w = .ok (.enter f args.toArray) w := by
      simp [callFunc, hfn, hb.1, hbc]
    simp [execOp, resolve, hargs, hx, Deferred.ofValue, invoke, hcf]
  refine ⟨v, fun w' _ => .inr (.inr ⟨f, args.toArray, ?_, hc w'⟩), ?_⟩
  · rw [mk_eval]; exact hrun w'
  · show LW P ops w0 Q os ks ((mk N ρ).put (some d) v) w
    rw [mk_put]; exact h
end
section
variable {P : Program} {ops : Array Oper} {w0 : World} {Q : Act → World → Prop} {os : List Oper} {ks : List Nat} {N : Nat} {ρ : Nat → Value} {w : World}
  {d : Nat} {ty : TypeId} {pos : String} {aft : Array Edge} {g : Option (Nat × Bool)} {t e : TypeId}
theorem q_move {x : Operand} (v : Value) (hx : evF N ρ x = v) (hu : Up ops N ρ ⟨some d, .move x, ty, pos, aft, g⟩) (h : LW P ops w0 Q os ks (mk N (upd ρ d v)) w) :
    LW P ops w0 Q (⟨some d, .move x, ty, pos, aft, g⟩ :: os) (0 :: ks) (mk N ρ) w :=
  lw_q (by decide) rfl hu v (fun w' _ => by simp [execOp, hx]) h
theorem q_assign {x : Operand} (v : Value) (hx : evF N ρ x = v) (hu : Up ops N ρ ⟨some d, .assign x, ty, pos, aft, g⟩) (h : LW P ops w0 Q os ks (mk N (upd ρ d v)) w) :
    LW P ops w0 Q (⟨some d, .assign x, ty, pos, aft, g⟩ :: os) (0 :: ks) (mk N ρ) w :=
  lw_q (by decide) rfl hu v (fun w' _ => by simp [execOp, hx]) h
theorem q_idx {t e : TypeId} {x y : Operand} {v : Value} {n s : Nat} {k : IntKind} {i : Int} (j : Nat) (ht : P.underlying t = some (.slice e)) {z : Value} {b : Nat} (hi : TI P e s z b) (hx : evF N ρ x = v) (hy : evF N ρ y = .int k i)
    (hs : isSl v n) (hj : i = (j : Int)) (hlt : j < n) (hu : Up ops N ρ ⟨some d, .indexAddr t x y, ty, pos, aft, g⟩)
    (h : LW P ops w0 Q os ks (mk N (upd ρ d (eptr v j s))) w) : LW P ops w0 Q (⟨some d, .indexAddr t x y, ty, pos, aft, g⟩ :: os) (0 :: ks) (mk N ρ) w :=
  lw_q (by decide) rfl hu _ (fun w' _ => by
    obtain ⟨a, c, rfl, ha⟩ := hs
    obtain ⟨inf, h1, _, h3, _⟩ := hi.get
    subst hj
    cases a with
    | none => have := ha rfl; omega
    | some a =>
      have hlt' : (j : Int) < (n : Int) := by omega
      simp [execOp, hx, hy, Instr.indexAt, asIntOf, run_underlying ht, sizeOf, typeInfo, h1, h3, eptr, hlt]) h
theorem q_fldP {s : TypeId} {x : Operand} {i : Nat} {p : Value} {b o : Nat} (off : Nat) (hf : fdO P s i off = true) (hx : evF N ρ x = p) (hp : p = .pointer (some ⟨b, o, none⟩)) (hu : Up ops N ρ ⟨some d, .fieldAddr s x i, ty, pos, aft, g⟩)
    (h : LW P ops w0 Q os ks (mk N (upd ρ d (padd p off))) w) : LW P ops w0 Q (⟨some d, .fieldAddr s x i, ty, pos, aft, g⟩ :: os) (0 :: ks) (mk N ρ) w :=
  lw_q (by decide) rfl hu _ (fun w' _ => by
    subst hp
    unfold fdO at hf
    split at hf
    · rename_i fs hfs
      split at hf
      · rename_i f hff
        simp only [Bool.and_eq_true, beq_iff_eq] at hf
        obtain ⟨rfl, hf2⟩ := hf
        split at hf2
        · rename_i inf hin
          have hne : inf.size ≠ 0 := by simpa using hf2
          simp [execOp, Instr.fieldAt, Instr.sureAddr, run_underlying hfs, hff, hx, fieldPlace, sizeOf, typeInfo, hin, hne, add_mk, padd]
        · cases hf2
      · cases hf
    · cases hf) h
theorem q_loadJ {x : Operand} {p : Value} (u : Value) (ht : oneTy P t) (hx : evF N ρ x = p) (hc : ∀ w', Ext w0 w' → ldH w'.heap p = some u) (hu : Up ops N ρ ⟨some d, .load t x, ty, pos, aft, g⟩)
    (h : LW P ops w0 Q os ks (mk N (upd ρ d u)) w) : LW P ops w0 Q (⟨some d, .load t x, ty, pos, aft, g⟩ :: os) (1 :: ks) (mk N ρ) w :=
  lw_q (by decide) rfl hu _ (fun w' hcl => by simp [execOp, hx, run_load1 ht (hc w' hcl)]) h
theorem q_loadAJ {s : Nat} {x : Operand} {p : Value} (cs : List Value) (ht : aggTy P t s = true) (hx : evF N ρ x = p) (hc : ∀ w', Ext w0 w' → LD w'.heap p cs) (hl : cs.length = s)
    (hu : Up ops N ρ ⟨some d, .load t x, ty, pos, aft, g⟩)
    (h : LW P ops w0 Q os ks (mk N (upd ρ d (.agg cs.toArray))) w) : LW P ops w0 Q (⟨some d, .load t x, ty, pos, aft, g⟩ :: os) (1 :: ks) (mk N ρ) w :=
  lw_q (by decide) rfl hu _ (fun w' hcl => by simp [execOp, hx, run_loadA ht (hc w' hcl) hl]) h
end
section
variable {P : Program} {ops : Array Oper} {w0 : World} {Q : Act → World → Prop} {os : List Oper} {ks : List Nat} {N : Nat} {ρ : Nat → Value} {w : World}
  {d : Nat} {ty : TypeId} {pos : String} {aft : Array Edge} {g : Option (Nat × Bool)} {t e : TypeId} {z : Value} {b : Nat}
theorem r_one {α : Type} {E : Stand α} (hE : Good E) {x : Operand} {u : Value} {y : α} {B U : Nat} (ht : P.underlying t = some (.slice e)) (hi : TI P e 1 z b) (hz : z.cells = #[z]) (hx : evF N ρ x = u) (hy : Fr E B U w.heap u y) (hB : B ≤ w.heap.size)
    (hu : Up ops N ρ ⟨some d, .buildSlice t 1 #[(0, x)], ty, pos, aft, g⟩)
    (h : ∀ v w1, _root_.Go.Proofs.YtnofbmdpabcjaaaGreat.Ext w w1 → w1.heap.size = w.heap.size + 1 → Fr (owL E e) B w1.heap.size w1.heap v [y] → LW P ops w0 Q os ks (mk N (upd ρ d v)) w1) :
    LW P ops w0 Q (⟨some d, .buildSlice t 1 #[(0, x)], ty, pos, aft, g⟩ :: os) (3 :: ks) (mk N ρ) w := by
  obtain ⟨F, h1, h2, h3⟩ := hy
  have hr := run_bs1 (P := P) (w := w) ht hi (hE.cells h1) hz
  have hrun : (execOp (evF N ρ) ⟨some d, .buildSlice t 1 #[(0, x)], ty, pos, aft, g⟩).run P w = .ok (.value (.slice (some ⟨w.heap.size, 0, none⟩) 1 1)) (w.alloc (.cells #[u] e)) := by
    simp only [execOp, List.map_toArray, List.map_cons, List.map_nil, Sem.run_bind, hx, hr, Result.andThen_ok, Sem.run_pure]
  refine lw_r rfl hu _ _ hrun (J.ext (ext_alloc _ _)) (h _ _ (ext_alloc _ _) (by simp) ?_)
  have hn := owL_new (e := e) (w := w) hE (us := [u]) (xs := [y]) (F := F ++ []) (cur := #[u]) ⟨F, [], rfl, h1, rfl⟩ (by simp [maxLen]) rfl (by simp)
  refine ⟨_, hn, ?_, fun c hc => ?_⟩
  · rw [List.append_nil, List.nodup_cons]
    exact ⟨fun hm => by have := hE.lt h1 _ hm; omega, h2⟩
  · have hlt := (good_owL hE).lt hn c hc
    refine ⟨?_, hlt⟩
    rcases List.mem_cons.1 hc with rfl | hc
    · exact hB
    · exact (h3 c (by simpa using hc)).1
theorem e_appC {x y : Operand} {v a u : Value} {xs : List (List Int)} {r : List Int} {S : List Nat} {B' U' : Nat} (ht : P.underlying t = some (.slice e)) (hi : TI P e 1 z b) (hz : z.cells = #[z]) (hx : evF N ρ x = clipV v) (hy : evF N ρ y = a)
    (hv : RN S (rdL (rdL rI)) w.heap v xs) (ha : Fr (owL rV e) B' U' w.heap a [u]) (hr : RN S (rdL rI) w.heap u r) (hS : ∀ c ∈ S, c < w.heap.size) (hbytes : (xs.length + 1) * b ≤ 140737488355328) (hmx : xs.length + 1 ≤ maxLen)
    (hu : Up ops N ρ ⟨some d, .call ⟨.builtin .append, #[x, y], #[t, t]⟩, ty, pos, aft, g⟩)
    (h : ∀ v1 w1, _root_.Go.Proofs.YtnofbmdpabcjaaaGreat.Ext w w1 → RN S (rdL (rdL rI)) w1.heap v1 (xs ++ [r]) → CapS v1 → LW P ops w0 Q os ks (mk N (upd ρ d v1)) w1) :
    LW P ops w0 Q (⟨some d, .call ⟨.builtin .append, #[x, y], #[t, t]⟩, ty, pos, aft, g⟩ :: os) (3 :: ks) (mk N ρ) w := by
  obtain ⟨G, g1', g2', g3'⟩ := ha
  obtain ⟨K, k1, k2⟩ := hv
  obtain ⟨R, r1, r2⟩ := hr
  obtain ⟨i, h1, h2, h3, h4⟩ := hi.get
  subst h4
  have hone := g1.one r1
  rcases g1' with ⟨_, hc, _⟩ | ⟨asq, ga, capa, cura, Fa, helsa, hav, hga, qa1, qa2, qa3, qa4, rfl⟩
  · cases hc
  · obtain ⟨hq, hFa⟩ := els_rVe helsa
    subst hq
    subst hav
    have hnews : ∀ j q, [u][j]? = some q → w.cell? ((⟨ga, 0, none⟩ : Addr).add j) = some q := by
      intro j q hj
      rw [add_mk, cell_cellH]
      simp only [cellH, hga]
      rw [← qa4, List.getElem?_take] at hj
      split at hj
      · simpa using hj
      · cases hj
    have made : ∀ (w1 : World) (ous : List Value) (K0 : List Nat) (rest : Nat), w1.heap = w.heap → w1.os = w.os → w1.tape = w.tape → w1.output = w.output → els (rdL rI) w.heap ous xs K0 → (∀ c ∈ K0, c ∈ K) → xs.length + 1 + rest ≤ maxLen →
        _root_.Go.Proofs.YtnofbmdpabcjaaaGreat.Ext w (w1.alloc (.cells (ous.toArray ++ [u].toArray ++ Builtin.zeroCells z.cells rest) e)) ∧ RN S (rdL (rdL rI)) (w1.alloc (.cells (ous.toArray ++ [u].toArray ++ Builtin.zeroCells z.cells rest) e)).heap (.slice (some ⟨w.heap.size, 0, none⟩) (xs.length + 1) (xs.length + 1 + rest)) (xs ++ [r]) := by
      intro w1 ous K0 rest hh ho htp hop hou hsub hmax
      have hE : _root_.Go.Proofs.YtnofbmdpabcjaaaGreat.Ext w (w1.alloc (.cells (ous.toArray ++ [u].toArray ++ Builtin.zeroCells z.cells rest) e)) := by
        refine ⟨ho, htp, hop, ?_, fun k hk => ?_⟩
        · show w.heap.size ≤ (w1.heap.push _).size
          rw [hh]; simp
        · have := Below.heap_alloc w1 (.cells (ous.toArray ++ [u].toArray ++ Builtin.zeroCells z.cells rest) e) k (by rw [hh]; exact hk)
          rw [this, hh]
      refine ⟨hE, w.heap.size :: (K0 ++ R), .inr ⟨ous ++ [u], w.heap.size, 0, xs.length + 1 + rest, (ous.toArray ++ [u].toArray ++ Builtin.zeroCells z.cells rest), e, (0, 0), K0 ++ R, ?_, by simp, ?_, ?_, by simp; omega, rfl⟩, ?_⟩
      · refine els.stable g1 (hou.append (show els (rdL rI) w.heap [u] [r] R from ⟨R, [], by simp, r1, rfl⟩)) fun c hc => hE.heap ?_
        exact (hou.append (show els (rdL rI) w.heap [u] [r] R from ⟨R, [], by simp, r1, rfl⟩)).lt g1 c hc
      · have := heap_alloc_new w1 (.cells (ous.toArray ++ [u].toArray ++ Builtin.zeroCells z.cells rest) e)
        rw [hh] at this; exact this
      · have hl := hou.length
        simp only [Array.toList_append, List.drop_zero]
        rw [show (xs ++ [r]).length = (ous ++ [u]).length from by simp [hl]]
        exact List.take_left
      · intro c hc hm
        rcases List.mem_cons.1 hc with rfl | hc
        · have := hS _ hm; omega
        · rcases List.mem_append.1 hc with hc | hc
          · exact k2 c (hsub c hc) hm
          · exact r2 c hc hm
    have hone1 : [u].length = [u].length * i.size := by rw [h3, Nat.mul_one]
    rcases k1 with ⟨a0, cap0, rfl, rfl, rfl⟩ | ⟨ous, gv, off, cap, cur, e', fr, K', hels, rfl, hg, hw, _, rfl⟩
    · -- nothing so far
      cases a0 with
      | none =>
        have hrr := run_append_nil (P := P) w t ty e i z ht h1 h2 ⟨ga, 0, none⟩ 1 capa [u] hone1 hnews (by decide) (by decide) (by simp at hbytes; omega)
        have hge := grownCap_ge w 1 0 e
        have hgm := grownCap_le_maxLen w 1 0 e (by simpa using hmx)
        obtain ⟨q1, q2⟩ := made w.drew [] [] (grownCap w 1 0 e - 1) rfl rfl rfl rfl rfl (fun c hc => by cases hc) (by simp; omega)
        refine lw_r rfl hu _ _ (by simp only [execOp, resolve, invoke, builtin, List.map_toArray, List.map_cons, List.map_nil, Sem.run_bind, Sem.run_pure, Result.andThen_ok, hx, hy, clipV]; rw [show [u].length = 1 from rfl, hrr]; rfl) (J.ext (by simpa using q1)) (h _ _ ?_ ?_ ?_)
        · simpa using q1
        · have ea : (([] : List (List Int)).length + 1 + (grownCap w 1 0 e - 1)) = grownCap w 1 0 e := by simp; omega
          rw [ea] at q2
          simpa using q2
        · exact hge
      | some a1 =>
        have hrr := run_append_grow (P := P) w t ty e i z ht h1 h2 a1 0 0 [] (by rw [h3]; rfl) (by intro j q hj; cases hj) ⟨ga, 0, none⟩ 1 capa [u] hone1 hnews (by omega) (by decide) (growslice_fits (by omega) (by simpa using hbytes))
        have hge := grownCap_ge w (0 + 1) 0 e
        have hgm := grownCap_le_maxLen w (0 + 1) 0 e (by simpa using hmx)
        obtain ⟨q1, q2⟩ := made w.drew [] [] (grownCap w (0 + 1) 0 e - (0 + 1)) rfl rfl rfl rfl rfl (fun c hc => by cases hc) (by show 0 + 1 + (grownCap w (0 + 1) 0 e - (0 + 1)) ≤ maxLen; omega)
        refine lw_r rfl hu _ _ (by simp only [execOp, resolve, invoke, builtin, List.map_toArray, List.map_cons, List.map_nil, Sem.run_bind, Sem.run_pure, Result.andThen_ok, hx, hy, clipV]; rw [show [u].length = 1 from rfl, hrr]; rfl) (J.ext (by simpa using q1)) (h _ _ q1 ?_ ?_)
        rotate_left
        · exact hge
        have ea : (([] : List (List Int)).length + 1 + (grownCap w (0 + 1) 0 e - (0 + 1))) = grownCap w (0 + 1) 0 e := by show 0 + 1 + (grownCap w (0 + 1) 0 e - (0 + 1)) = _; omega
        rw [ea] at q2
        simpa using q2
    · have holds : ∀ j q, ous[j]? = some q → w.cell? ((⟨gv, off, none⟩ : Addr).add j) = some q := by
        intro j q hj
        rw [add_mk, cell_cellH]
        simp only [cellH, hg]
        rw [← hw, List.getElem?_take] at hj
        split at hj
        · rw [List.getElem?_drop] at hj; simpa using hj
        · cases hj
      have hrr := run_append_grow (P := P) w t ty e i z ht h1 h2 ⟨gv, off, none⟩ xs.length xs.length ous (by rw [h3, hels.length]; omega) holds ⟨ga, 0, none⟩ 1 capa [u] hone1 hnews (by omega) (by simp only [maxLen] at hmx; omega) (growslice_fits (by omega) hbytes)
      have hge := grownCap_ge w (xs.length + 1) xs.length e
      have hgm := grownCap_le_maxLen w (xs.length + 1) xs.length e hmx
      obtain ⟨q1, q2⟩ := made w.drew ous K' (grownCap w (xs.length + 1) xs.length e - (xs.length + 1)) rfl rfl rfl rfl hels (fun c hc => List.mem_cons_of_mem _ hc) (by omega)
      refine lw_r rfl hu _ _ (by simp only [execOp, resolve, invoke, builtin, List.map_toArray, List.map_cons, List.map_nil, Sem.run_bind, Sem.run_pure, Result.andThen_ok, hx, hy, clipV]; rw [show [u].length = 1 from rfl, hrr]; rfl) (J.ext (by simpa using q1)) (h _ _ q1 ?_ ?_)
      rotate_left
      · exact hge
      have ea : (xs.length + 1 + (grownCap w (xs.length + 1) xs.length e - (xs.length + 1))) = grownCap w (xs.length + 1) xs.length e := by omega
      rw [ea] at q2
      exact q2
end
end Jx
end Go.Proofs.YtnofbmdpabcjaaaGreat
namespace Go.Proofs.YtnofbmdpabcjaaaGreat
open Go Go.RowKit
set_option linter.unusedVariables false
set_option linter.unusedSimpArgs false
/-- Read by blocks below T. -/
def RT {α : Type} (T : Nat) (E : Stand α) (H : Array Obj) (v : Value) (x : α) : Prop := ∃ F, E H v x F ∧ ∀ b ∈ F, b < T
section rt
variable {α : Type} {E : Stand α} {T : Nat} {w w' : World} {v : Value} {x : α} {xs : List α} {F S : List Nat}
theorem RN.rt (hE : Good E) (h : RN S E w.heap v x) : RT w.heap.size E w.heap v x := by
  obtain ⟨F, h, _⟩ := h
  exact ⟨F, h, hE.lt h⟩
theorem RT.ext (hE : Good E) (h : RT T E w.heap v x) (k : Ext w w') : RT T E w'.heap v x := by
  obtain ⟨F, h, hb⟩ := h
  exact ⟨F, hE.stable h fun b hm => k.heap (hE.lt h b hm), hb⟩
theorem RT.chg (hE : Good E) (h : RT T E w.heap v x) (c : Chg F w w') (hF : ∀ b ∈ F, T ≤ b) : RT T E w'.heap v x := by
  obtain ⟨G, h, hb⟩ := h
  exact ⟨G, hE.stable h fun b hm => c.block b (hE.lt h b hm) fun hf => by have := hF b hf; have := hb b hm; omega, hb⟩
theorem RT.rd {H : Array Obj} (h : RT T E H v x) : Rd E H v x := by obtain ⟨F, h, _⟩ := h; exact ⟨F, h⟩
theorem RT.rn {H : Array Obj} (h : RT T E H v x) : RN [] E H v x := by obtain ⟨F, h, _⟩ := h; exact ⟨F, h, fun b _ hm => by cases hm⟩
theorem RT.slL {H : Array Obj} (h : RT T (rdL E) H v xs) : Go.Proofs.YtnofbmdpabcjaaaGreat.isSl v xs.length := h.rn.slL
theorem RT.lenL {H : Array Obj} (h : RT T (rdL E) H v xs) : xs.length ≤ maxLen := h.rn.lenL
theorem RT.getL {H : Array Obj} (hE : Good E) (d : α) {k : Nat} (h : RT T (rdL E) H v xs) (hk : k < xs.length) : ∃ u, ldH H (eptr v k 1) = some u ∧ RT T E H u (xs.getD k d) := by
  obtain ⟨F, h, hb⟩ := h
  obtain ⟨u, F1, h1, h2, h3⟩ := rdL.get2 d h hk
  exact ⟨u, h1 _ fun _ _ => rfl, F1, h2, fun b hm => hb b (h3 b hm)⟩
theorem RT.getI {H : Array Obj} {xs : List Int} {k : Nat} (h : RT T (rdL rI) H v xs) (hk : k < xs.length) : ldH H (eptr v k 1) = some (.int .i64 (xs.getD k 0)) ∧ -9223372036854775808 ≤ xs.getD k 0 ∧ xs.getD k 0 ≤ 9223372036854775807 := h.rd.getI hk
end rt
section ops
variable {P : Program} {ops : Array Oper} {w0 : World} {Q : Act → World → Prop} {os : List Oper} {ks : List Nat} {N : Nat} {ρ : Nat → Value} {w : World}
  {d : Nat} {ty : TypeId} {pos : String} {aft : Array Edge} {g : Option (Nat × Bool)} {t e : TypeId}
theorem q_nilP {x : Operand} {p : Value} (hp : ∃ g o, p = .pointer (some ⟨g, o, none⟩)) (hx : evF N ρ x = p) (hu : Up ops N ρ ⟨some d, .nilCheck x, ty, pos, aft, g⟩)
    (h : LW P ops w0 Q os ks (mk N (upd ρ d p)) w) : LW P ops w0 Q (⟨some d, .nilCheck x, ty, pos, aft, g⟩ :: os) (0 :: ks) (mk N ρ) w := by
  obtain ⟨b, o, rfl⟩ := hp
  exact lw_q (by decide) rfl hu _ (fun w' _ => by simp [execOp, hx]) h
theorem addr_add0 (a : Addr) : a.add 0 = a := by
  obtain ⟨b, o, s⟩ := a
  unfold Addr.add
  simp
theorem q_clip {x y z : Operand} {v u : Value} {n s b : Nat} (ht : P.underlying t = some (.slice e)) (hi : TI P e s u b) (hx : evF N ρ x = v) (hs : isSl v n) (hy : evF N ρ y = .int .i64 (n : Int)) (hz : evF N ρ z = .int .i64 (n : Int)) (hc : CapS v)
    (hu : Up ops N ρ ⟨some d, .slice t x none (some y) (some z), ty, pos, aft, g⟩)
    (h : LW P ops w0 Q os ks (mk N (upd ρ d (clipV v))) w) : LW P ops w0 Q (⟨some d, .slice t x none (some y) (some z), ty, pos, aft, g⟩ :: os) (0 :: ks) (mk N ρ) w := by
  obtain ⟨a, cap, rfl, _⟩ := hs
  obtain ⟨inf, h1, _, h3, _⟩ := hi.get
  refine lw_q (by decide) rfl hu _ (fun w' _ => ?_) h
  have hl' : n ≤ cap := hc
  have hmap : ∀ a : Option Addr, a.map (·.add 0) = a := fun a => by cases a <;> simp [addr_add0]
  simp [execOp, hx, hy, hz, Instr.sliceAt, Instr.slice, Instr.sliceBounds, Instr.sliceBound, asIntOf, run_underlying ht, sizeOf, typeInfo, h1, h3, clipV, hl', hmap]
end ops
end Go.Proofs.YtnofbmdpabcjaaaGreat
namespace Go.Proofs.YtnofbmdpabcjaaaGreat
open Go Go.RowKit
set_option linter.unusedVariables false
set_option linter.unusedSimpArgs false
/-- Two strings have the same bytes. -/
def strE (a b : ByteArray) : Bool := a.toList == b.toList
section ops
variable {P : Program} {ops : Array Oper} {w0 : World} {Q : Act → World → Prop} {os : List Oper} {ks : List Nat} {N : Nat} {ρ : Nat → Value} {w : World}
  {d : Nat} {ty : TypeId} {pos : String} {aft : Array Edge} {g : Option (Nat × Bool)} {t e : TypeId}
theorem q_eqls {xt yt : TypeId} {x y : Operand} {a b : ByteArray} (c : Bool) (ht : P.underlying xt = some .string) (hx : evF N ρ x = .string a) (hy : evF N ρ y = .string b) (hc : strE a b = c) (hu : Up ops N ρ ⟨some d, .binOp .eql xt x y yt, ty, pos, aft, g⟩)
    (h : LW P ops w0 Q os ks (mk N (upd ρ d (.bool c))) w) : LW P ops w0 Q (⟨some d, .binOp .eql xt x y yt, ty, pos, aft, g⟩ :: os) (0 :: ks) (mk N ρ) w :=
  lw_q (by decide) rfl hu _ (fun w' _ => by
    have he : (eqGuard .eql xt x y (.string a) (.string b)).run P w' = .ok () w' := rfl
    have hr : (binOp .eql xt (.string a) (.string b)).run P w' = .ok (.bool (strE a b)) w' := by simp [binOp, Op.stringOp, strE]
    simp only [execOp, hx, hy, Sem.run_bind, he, Result.andThen_ok, hr, hc, Sem.run_pure]) h
theorem q_neqs {xt yt : TypeId} {x y : Operand} {a b : ByteArray} (c : Bool) (ht : P.underlying xt = some .string) (hx : evF N ρ x = .string a) (hy : evF N ρ y = .string b) (hc : (!strE a b) = c) (hu : Up ops N ρ ⟨some d, .binOp .neq xt x y yt, ty, pos, aft, g⟩)
    (h : LW P ops w0 Q os ks (mk N (upd ρ d (.bool c))) w) : LW P ops w0 Q (⟨some d, .binOp .neq xt x y yt, ty, pos, aft, g⟩ :: os) (0 :: ks) (mk N ρ) w :=
  lw_q (by decide) rfl hu _ (fun w' _ => by
    have he : (eqGuard .neq xt x y (.string a) (.string b)).run P w' = .ok () w' := rfl
    have hr : (binOp .neq xt (.string a) (.string b)).run P w' = .ok (.bool (!strE a b)) w' := by simp [binOp, Op.stringOp, strE]
    simp only [execOp, hx, hy, Sem.run_bind, he, Result.andThen_ok, hr, hc, Sem.run_pure]) h
/-- The first k elements of a slice of structs. -/
def prefV : Value → Nat → Value
  | .slice a _ c, k => .slice a k c
  | v, _ => v
theorem RN.pref {α : Type} {S : List Nat} {s : Nat} {E : StandN α} {H : Array Obj} {v : Value} {xs : List α} (hE : GoodN s E) {k : Nat} (h : RN S (rdS s E) H v xs) (hk : k ≤ xs.length) : RN S (rdS s E) H (prefV v k) (xs.take k) := by
  obtain ⟨F, h, hb⟩ := h
  obtain ⟨a, c, rfl, _⟩ := h.cap
  obtain ⟨G, g1, g2⟩ := h.take hE hk
  exact ⟨G, g1, fun b hm => hb b (g2 b hm)⟩
theorem RN.capS {α : Type} {S : List Nat} {s : Nat} {E : StandN α} {H : Array Obj} {v : Value} {xs : List α} (h : RN S (rdS s E) H v xs) : CapS v := by
  obtain ⟨F, h, hb⟩ := h
  obtain ⟨a, c, rfl, hl⟩ := h.cap
  exact hl
theorem q_pref {x y : Operand} {v z : Value} {n s b k : Nat} (ht : P.underlying t = some (.slice e)) (hi : TI P e s z b) (hx : evF N ρ x = v) (hs : isSl v n) (hc : CapS v) (hy : evF N ρ y = .int .i64 (k : Int)) (hk : k ≤ n) (hu : Up ops N ρ ⟨some d, .slice t x none (some y) none, ty, pos, aft, g⟩)
    (h : LW P ops w0 Q os ks (mk N (upd ρ d (prefV v k))) w) : LW P ops w0 Q (⟨some d, .slice t x none (some y) none, ty, pos, aft, g⟩ :: os) (0 :: ks) (mk N ρ) w := by
  obtain ⟨a, cap, rfl, _⟩ := hs
  obtain ⟨inf, h1, _, h3, _⟩ := hi.get
  refine lw_q (by decide) rfl hu _ (fun w' _ => ?_) h
  have hl : n ≤ cap := hc
  have hl' : k ≤ cap := by omega
  have hmap : ∀ a : Option Addr, a.map (·.add 0) = a := fun a => by cases a <;> simp [addr_add0]
  simp [execOp, hx, hy, Instr.sliceAt, Instr.slice, Instr.sliceBounds, Instr.sliceBound, asIntOf, run_underlying ht, sizeOf, typeInfo, h1, h3, hl', hmap, prefV]
end ops
end Go.Proofs.YtnofbmdpabcjaaaGreat
namespace Go.Proofs.YtnofbmdpabcjaaaGreat
open Go Go.RowKit
set_option linter.unusedVariables false
set_option linter.unusedSimpArgs false
/-- A byte of a name. -/
def chB (s : ByteArray) (i : Nat) : Bool := (decide (97 ≤ sAt s i) && decide (sAt s i ≤ 122)) || (decide (i ≠ 0) && (decide (48 ≤ sAt s i) && decide (sAt s i ≤ 57)))
def nmB (s : ByteArray) : Bool := (decide (1 ≤ s.size) && decide (s.size ≤ 12)) && (List.range s.size).all (chB s)
/-- A valid expression. -/
def exB (p : List Fn) (e : Ex) (vars funcs : Int) : Bool :=
  inB vars 0 412 && (inB funcs 0 ((p.length : Nat) : Int) && (decide (e.size ≤ 400) && (decide (e.deep ≤ 60) && wf p funcs e vars)))
def newB (p : List Fn) (k : Nat) : Bool := !((p.take k).any fun g => strE g.name (p.getD k Fn.zero).name)
def fnB (p : List Fn) (k : Nat) : Bool :=
  (nmB (p.getD k Fn.zero).name && newB p k) && ((inB (p.getD k Fn.zero).params 0 12 && inB (((p.getD k Fn.zero).outs.length : Nat) : Int) 1 12) &&
    ((List.range (p.getD k Fn.zero).outs.length).all (fun j => exB p ((p.getD k Fn.zero).outs.getD j Ex.zero) (p.getD k Fn.zero).params ((k : Nat) : Int)) && decide (Ex.sizes (p.getD k Fn.zero).outs ≤ 400)))
def okP (p : List Fn) : Bool := decide (p.length ≤ 16) && (List.range p.length).all (fnB p)
/-- Programs of a size that can be counted. -/
def SzP (p : List Fn) : Prop := ∀ k, k < p.length → Ex.sizes (p.getD k Fn.zero).outs ≤ 2000000 ∧ (p.getD k Fn.zero).outs.length ≤ 2000000 ∧ (p.getD k Fn.zero).name.size ≤ 2000000
theorem allR_succ {f : Nat → Bool} {k : Nat} (h : (List.range k).all f = true) (hk : f k = true) : (List.range (k + 1)).all f = true := by
  rw [List.range_succ, List.all_append, h]; simp [hk]
theorem allR_fail {f : Nat → Bool} {k n : Nat} (hk : k < n) (h : f k = false) : (List.range n).all f = false := by
  rw [List.all_eq_false]
  exact ⟨k, List.mem_range.2 hk, by simp [h]⟩
theorem allR_at {f : Nat → Bool} {k n : Nat} (h : (List.range n).all f = true) (hk : k < n) : f k = true := List.all_eq_true.1 h k (List.mem_range.2 hk)
theorem okP_at {p : List Fn} (h : okP p = true) {k : Nat} (hk : k < p.length) : fnB p k = true := by
  unfold okP at h
  rw [Bool.and_eq_true] at h
  exact allR_at h.2 hk
theorem okP_vpr {p : List Fn} (h : okP p = true) : VPr p := by
  have h1 : ∀ k, k < p.length → (0 ≤ (p.getD k Fn.zero).params ∧ (p.getD k Fn.zero).params ≤ 12) ∧ (1 ≤ (p.getD k Fn.zero).outs.length ∧ (p.getD k Fn.zero).outs.length ≤ 12) ∧
      ∀ j, j < (p.getD k Fn.zero).outs.length → exB p ((p.getD k Fn.zero).outs.getD j Ex.zero) (p.getD k Fn.zero).params ((k : Nat) : Int) = true := by
    intro k hk
    have := okP_at h hk
    unfold fnB at this
    simp only [Bool.and_eq_true, inB_iff] at this
    exact ⟨this.2.1.1, by omega, fun j hj => allR_at this.2.2.1 hj⟩
  have h2 : ∀ k, k < p.length → ∀ j, j < (p.getD k Fn.zero).outs.length → ((p.getD k Fn.zero).outs.getD j Ex.zero).deep ≤ 60 ∧ wf p ((k : Nat) : Int) ((p.getD k Fn.zero).outs.getD j Ex.zero) (p.getD k Fn.zero).params = true := by
    intro k hk j hj
    have := (h1 k hk).2.2 j hj
    unfold exB at this
    simp only [Bool.and_eq_true, decide_eq_true_eq] at this
    exact ⟨this.2.2.2.1, this.2.2.2.2⟩
  exact ⟨fun k hk => (h1 k hk).1, fun k hk => (h1 k hk).2.1, fun k hk j hj => (h2 k hk j hj).1, fun k hk j hj => (h2 k hk j hj).2⟩
end Go.Proofs.YtnofbmdpabcjaaaGreat
namespace Go.Proofs.YtnofbmdpabcjaaaGreat
open Go Go.RowKit
set_option linter.unusedVariables false
set_option linter.unusedSimpArgs false
/-- The code of a program and the index of a function. -/
def isF (p : List Fn) (f : Int) : Int := if okP p = true then (if 0 ≤ f ∧ f ≤ ((p.length : Nat) : Int) - 1 then 0 else 2) else 1
def shF (p : List Fn) (f : Int) (pr : Int → Int → Bool) : Int :=
  if isF p f = 0 then (if pr (p.getD f.toNat Fn.zero).params (((p.getD f.toNat Fn.zero).outs.length : Nat) : Int) = true then 0 else 2) else isF p f
def fldB (a b : Int) : Bool := inB a 1 12 && decide (b = a)
theorem isF_rng (p : List Fn) (f : Int) : 0 ≤ isF p f ∧ isF p f ≤ 2 := by unfold isF; split <;> (try split) <;> omega
theorem shF_rng (p : List Fn) (f : Int) (pr : Int → Int → Bool) : 0 ≤ shF p f pr ∧ shF p f pr ≤ 2 := by
  have := isF_rng p f
  unfold shF; split <;> (try split) <;> omega
theorem isF_0 {p : List Fn} {f : Int} (h : isF p f = 0) : okP p = true ∧ 0 ≤ f ∧ f < ((p.length : Nat) : Int) := by
  unfold isF at h
  split at h
  · split at h
    · rename_i h1 h2; exact ⟨h1, h2.1, by omega⟩
    · omega
  · omega
theorem shF_0 {p : List Fn} {f : Int} {pr : Int → Int → Bool} (h : shF p f pr = 0) : isF p f = 0 ∧ pr (p.getD f.toNat Fn.zero).params (((p.getD f.toNat Fn.zero).outs.length : Nat) : Int) = true := by
  unfold shF at h
  split at h
  · rename_i h1
    split at h
    · rename_i h2; exact ⟨h1, h2⟩
    · omega
  · rename_i h1; exact absurd h h1
theorem fld_0 {p : List Fn} {f : Int} (h : shF p f fldB = 0) : okP p = true ∧ (0 ≤ f ∧ f < ((p.length : Nat) : Int)) ∧ (1 ≤ (p.getD f.toNat Fn.zero).params ∧ (p.getD f.toNat Fn.zero).params ≤ 12) ∧ (((p.getD f.toNat Fn.zero).outs.length : Nat) : Int) = (p.getD f.toNat Fn.zero).params := by
  obtain ⟨h1, h2⟩ := shF_0 h
  obtain ⟨h3, h4⟩ := isF_0 h1
  unfold fldB at h2
  rw [Bool.and_eq_true, inB_iff, decide_eq_true_eq] at h2
  exact ⟨h3, h4, h2.1, h2.2⟩
/-- A slice of one thing that is read. -/
theorem RN.ofOne {S : List Nat} {e : TypeId} {B U : Nat} {H : Array Obj} {v u : Value} {r : List Int} (h : Fr (owL rV e) B U H v [u]) (hr : RN S (rdL rI) H u r) (hS : ∀ b ∈ S, b < B) : RN S (rdL (rdL rI)) H v [r] := by
  obtain ⟨F, h1, h2, h3⟩ := h
  obtain ⟨G, g1', g2'⟩ := hr
  rcases h1 with ⟨_, hc, _⟩ | ⟨us, g, cap, cur, F', hels, rfl, hg, q1, q2, q3, q4, rfl⟩
  · cases hc
  · obtain ⟨rfl, rfl⟩ := els_rVe hels
    refine ⟨g :: (G ++ []), .inr ⟨[u], g, 0, cap, cur, e, (0, 0), G ++ [], ⟨G, [], rfl, g1', rfl⟩, rfl, hg, by simpa using q4, by simp [maxLen], rfl⟩, fun b hb hm => ?_⟩
    rcases List.mem_cons.1 hb with rfl | hb
    · have := (h3 b (List.mem_cons_self ..)).1; have := hS b hm; omega
    · rw [List.append_nil] at hb; exact g2' b hb hm
theorem one_cap {e : TypeId} {B U : Nat} {H : Array Obj} {v u : Value} (h : Fr (owL rV e) B U H v [u]) : CapS v := h.cap
/-- The order of series. -/
def oOf (a : List Sr) : Nat := (a.getD 0 []).length - 1
/-- The integral of a series. -/
def itg (a : Sr) : Sr := tab a.length fun k => if k = 0 then 0 else md (a.getD (k - 1) 0 * inv ((k : Nat) : Int))
theorem itg_len (a : Sr) : (itg a).length = a.length := by simp [itg]
theorem itg_num (a : Sr) : allN (itg a) = true := tab_num fun k _ => by split; exact ⟨by omega, by omega⟩; exact md_num _
/-- A step of Picard's method, with the values of the field. -/
def picS (v y : List Sr) : List Sr := tab v.length fun i => (itg (v.getD i [])).set 0 ((y.getD i []).getD 0 0)
def picR (p : List Fn) (f : Nat) (y : List Sr) : List Sr := picS (evR p (oOf y + 1) f y) y
def picC (p : List Fn) (f : Nat) (y : List Sr) : Int := evD p (oOf y + 1) f y
/-- Steps of Picard's method, one after the other, until there is a code. -/
def flI (p : List Fn) (f : Nat) (y : List Sr) : Nat → List Sr
  | 0 => y
  | k + 1 => picR p f (flI p f y k)
def flC (p : List Fn) (f : Nat) (y : List Sr) : Nat → Int
  | 0 => 0
  | k + 1 => if flC p f y k = 0 then picC p f (flI p f y k) else flC p f y k
/-- A flow: its series, if there is no code. -/
def flR (p : List Fn) (f : Nat) (y : List Sr) (n : Nat) : List Sr := if flC p f y n = 0 then flI p f y n else []
/-- What is known of a flow. -/
structure FlP (p : List Fn) (f : Nat) (y : List Sr) (n o : Nat) : Prop where
  code : 0 ≤ flC p f y n ∧ flC p f y n ≤ 9
  len : flC p f y n = 0 → (flR p f y n).length = y.length
  ser : SrE (o + 1) (flR p f y n)
theorem flC_stop {p : List Fn} {f : Nat} {y : List Sr} {k : Nat} (h : flC p f y k ≠ 0) : ∀ {n : Nat}, k ≤ n → flC p f y n = flC p f y k
  | 0, hk => by have : k = 0 := by omega
                subst this; rfl
  | n + 1, hk => by
    by_cases e : k = n + 1
    · subst e; rfl
    · have ih := flC_stop h (n := n) (by omega)
      show (if flC p f y n = 0 then _ else _) = _
      rw [if_neg (by rw [ih]; exact h)]; exact ih
theorem flC_succ {p : List Fn} {f : Nat} {y : List Sr} {k : Nat} (h : flC p f y k = 0) : flC p f y (k + 1) = picC p f (flI p f y k) := if_pos h
theorem FlP.ok {p : List Fn} {f : Nat} {y ys : List Sr} {n o : Nat} (h : flC p f y n = 0) (he : ys = flI p f y n) (hl : ys.length = y.length) (hs : SrE (o + 1) ys) : FlP p f y n o := by
  have e : flR p f y n = ys := by unfold flR; rw [if_pos h, he]
  exact ⟨by omega, fun _ => by rw [e]; exact hl, by rw [e]; exact hs⟩
theorem flR_e {p : List Fn} {f : Nat} {y : List Sr} {n : Nat} (h : flC p f y n ≠ 0) : flR p f y n = [] := if_neg h
theorem FlP.err {p : List Fn} {f : Nat} {y : List Sr} {n o : Nat} {c : Int} (h : flC p f y n = c) (h0 : c ≠ 0) (hc : 0 ≤ c ∧ c ≤ 9) : FlP p f y n o :=
  ⟨by omega, fun hh => by omega, by rw [flR_e (by omega)]; intro k hk; simp at hk⟩
/-- Numbers asq series. -/
def extS (a : List Int) (n : Nat) : List Sr := a.map fun x => (List.replicate n 0).set 0 x
theorem set0_ser {n : Nat} {s : Sr} {x : Int} (h : Ser1 n s) (hx : isN x = true) : Ser1 n (s.set 0 x) := by
  refine ⟨by rw [List.length_set]; exact h.1, ?_⟩
  unfold allN
  rw [List.all_eq_true]
  intro y hy
  rcases List.mem_or_eq_of_mem_set hy with hy | rfl
  · have := h.2; unfold allN at this; exact List.all_eq_true.1 this y hy
  · exact hx
theorem ser_at {n k : Nat} {s : Sr} (h : Ser1 n s) (hk : k < n) : isN (s.getD k 0) = true := by
  have hk' : k < s.length := by rw [h.1]; exact hk
  have := h.2
  unfold allN at this
  have h2 := List.all_eq_true.1 this s[k] (List.getElem_mem hk')
  rwa [show s.getD k 0 = s[k] from by simp [hk']]
theorem picS_len (v y : List Sr) : (picS v y).length = v.length := by simp [picS]
theorem picS_ser {n : Nat} {v y : List Sr} (hn : 0 < n) (hv : SrE n v) (hy : SrE n y) (hl : v.length ≤ y.length) : SrE n (picS v y) := by
  intro k hk
  rw [picS_len] at hk
  have e : (picS v y).getD k [] = (itg (v.getD k [])).set 0 ((y.getD k []).getD 0 0) := by unfold picS; rw [tab_get _ hk]
  rw [e]
  exact set0_ser ⟨by rw [itg_len]; exact (hv k hk).1, itg_num _⟩ (ser_at (hy k (by omega)) hn)
theorem extS_ser {n : Nat} {a : List Int} (h : allN a = true) : SrE n (extS a n) := by
  intro k hk
  unfold extS at hk ⊢
  rw [List.length_map] at hk
  rw [List.getD_eq_getElem?_getD, List.getElem?_map, List.getElem?_eq_getElem hk]
  refine cst_ser ?_
  unfold allN at h
  exact List.all_eq_true.1 h _ (List.getElem_mem hk)
theorem extS_len (a : List Int) (n : Nat) : (extS a n).length = a.length := by simp [extS]
theorem oOf_ser {n : Nat} {y : List Sr} (h : SrE (n + 1) y) (hl : 0 < y.length) : oOf y = n := by
  have := (h 0 hl).1
  unfold oOf; omega
/-- The code of a field, of lists of numbers and of an order. -/
def stC (p : List Fn) (f o : Int) (l : List Sr) : Int :=
  if shF p f fldB = 0 then (if (l.all (fun s => decide (((s.length : Nat) : Int) = (p.getD f.toNat Fn.zero).params) && allN s) && inB o 0 12) = true then 0 else 2) else shF p f fldB
theorem stC_rng (p : List Fn) (f o : Int) (l : List Sr) : 0 ≤ stC p f o l ∧ stC p f o l ≤ 2 := by
  have := shF_rng p f fldB
  unfold stC; split <;> (try split) <;> omega
theorem stC_one {p : List Fn} {f o : Int} {a : Sr} (h : stC p f o [a] = 0) : okP p = true ∧ (0 ≤ f ∧ f < ((p.length : Nat) : Int)) ∧ (1 ≤ (p.getD f.toNat Fn.zero).params ∧ (p.getD f.toNat Fn.zero).params ≤ 12) ∧ ((((p.getD f.toNat Fn.zero).outs.length : Nat) : Int) = (p.getD f.toNat Fn.zero).params ∧ ((a.length : Nat) : Int) = (p.getD f.toNat Fn.zero).params) ∧ allN a = true ∧ (0 ≤ o ∧ o ≤ 12) := by
  unfold stC at h
  split at h
  · rename_i h1
    split at h
    · rename_i h2
      simp only [List.all_cons, List.all_nil, Bool.and_true, Bool.and_eq_true, decide_eq_true_eq, inB_iff] at h2
      obtain ⟨q1, q2, q3, q4⟩ := fld_0 h1
      exact ⟨q1, q2, q3, ⟨q4, h2.1.1⟩, h2.1.2, h2.2⟩
    · omega
  · rename_i h1; exact absurd h h1
section
variable {p : List Fn} {f o : Int} {a : Sr}
end
end Go.Proofs.YtnofbmdpabcjaaaGreat
namespace Go.Proofs.YtnofbmdpabcjaaaGreat
open Go Go.RowKit
set_option linter.unusedVariables false
set_option linter.unusedSimpArgs false
mutual
def lftE : Ex → Int → Int
  | .mk _ _ _ _ l, x => lfts l (x - 1)
def lfts : List Ex → Int → Int
  | [], x => x
  | e :: l, x => if 0 ≤ x then lfts l (lftE e x) else x
end
theorem lftE_eq (e : Ex) (x : Int) : lftE e x = lfts e.kids (x - 1) := by cases e; rw [lftE]; rfl
theorem lfts_neg {l : List Ex} {x : Int} (h : x < 0) : lfts l x = x := by
  cases l with
  | nil => rw [lfts]
  | cons e l => rw [lfts, if_neg (by omega)]
mutual
theorem lft_spec : ∀ (e : Ex) (x : Int), 0 ≤ x → (lftE e x = x - (e.size : Int) ∧ (e.size : Int) ≤ x) ∨ (lftE e x = -1 ∧ x < (e.size : Int))
  | .mk k n q c l, x, h => by
    rw [lftE, Ex.size]
    by_cases h0 : x = 0
    · subst h0
      right
      rw [lfts_neg (by omega)]
      refine ⟨by omega, by omega⟩
    · rcases lfts_spec l (x - 1) (by omega) with h1 | h1
      · left; omega
      · right; omega
theorem lfts_spec : ∀ (l : List Ex) (x : Int), 0 ≤ x → (lfts l x = x - (Ex.sizes l : Int) ∧ (Ex.sizes l : Int) ≤ x) ∨ (lfts l x = -1 ∧ x < (Ex.sizes l : Int))
  | [], x, h => by rw [lfts, Ex.sizes]; left; omega
  | e :: l, x, h => by
    rw [lfts, if_pos h, Ex.sizes]
    rcases lft_spec e x h with h1 | h1
    · rw [h1.1]
      rcases lfts_spec l (x - (e.size : Int)) (by omega) with h2 | h2
      · left; omega
      · right; omega
    · rw [h1.1, lfts_neg (by omega)]
      right; omega
end
theorem lfts_snoc (e : Ex) : ∀ (l : List Ex) (x : Int), lfts (l ++ [e]) x = if 0 ≤ lfts l x then lftE e (lfts l x) else lfts l x
  | [], x => by
    rw [List.nil_append, lfts, lfts]
    split
    · rw [lfts]
    · rfl
  | a :: l, x => by
    rw [List.cons_append, lfts, lfts]
    by_cases h : 0 ≤ x
    · rw [if_pos h, if_pos h, lfts_snoc e l]
    · rw [if_neg h, if_neg h, if_neg h]
theorem lfts_step {l : List Ex} {k : Nat} (hk : k < l.length) {x : Int} (h : 0 ≤ lfts (l.take k) x) : lfts (l.take (k + 1)) x = lftE (l.getD k Ex.zero) (lfts (l.take k) x) := by
  rw [List.take_succ_eq_append_getElem hk, lfts_snoc, if_pos h]
  simp [hk]
theorem lfts_app : ∀ (l r : List Ex) (x : Int), lfts l x < 0 → lfts (l ++ r) x = lfts l x
  | [], r, x, h => by rw [lfts] at h ⊢; rw [List.nil_append, lfts_neg h]
  | a :: l, r, x, h => by
    rw [lfts] at h ⊢
    rw [List.cons_append, lfts]
    split
    · rename_i h0; rw [if_pos h0] at h; exact lfts_app l r _ h
    · rfl
theorem lfts_stop {l : List Ex} {k : Nat} {x : Int} (h : lfts (l.take k) x < 0) : lfts l x = lfts (l.take k) x := by
  have := lfts_app (l.take k) (l.drop k) x h
  rwa [List.take_append_drop] at this
theorem lftE_rng {e : Ex} {x : Int} (h : 0 ≤ x) : -1 ≤ lftE e x ∧ lftE e x ≤ x := by
  rcases lft_spec e x h with h1 | h1 <;> omega
theorem lftE_pos {e : Ex} {x : Int} (h : 0 ≤ x) : 0 ≤ lftE e x ↔ (e.size : Int) ≤ x := by
  rcases lft_spec e x h with h1 | h1 <;> omega
def kdN (k : Int) : Int := if k = 1 ∨ k = 2 then 0 else if k = 3 ∨ k = 4 ∨ k = 5 ∨ k = 6 ∨ k = 9 then 2 else if k = 7 then 1 else if k = 8 then 3 else -1
theorem decide_congr {p q : Prop} [Decidable p] [Decidable q] (h : p ↔ q) : decide p = decide q := decide_eq_decide.2 h
section
variable {p : List Fn} {F vars : Int} {e : Ex}
theorem wfN_plain (h : wfN p F vars e = true) (h10 : e.kind ≠ 10) (h11 : e.kind ≠ 11) : e.pick = 0 ∧ e.count = 0 ∧ kdN e.kind = ((e.kids.length : Nat) : Int) ∧ (e.kind ≠ 1 → e.kind ≠ 2 → e.num = 0) := by
  unfold wfN plainB at h
  unfold kdN
  split at h
  · rename_i h1
    simp only [Bool.and_eq_true, decide_eq_true_eq] at h
    rw [if_pos (by omega)]
    exact ⟨h.1.1, h.1.2, by omega, fun hh => absurd h1 hh⟩
  · split at h
    · rename_i h1
      simp only [Bool.and_eq_true, decide_eq_true_eq] at h
      rw [if_pos (by omega)]
      exact ⟨h.1.1, h.1.2, by omega, fun _ hh => absurd h1 hh⟩
    · split at h
      · simp only [Bool.and_eq_true, decide_eq_true_eq] at h
        rw [if_neg (by omega), if_pos (by omega)]
        exact ⟨h.1.1, h.1.2, by omega, fun _ _ => h.2.1⟩
      · split at h
        · simp only [Bool.and_eq_true, decide_eq_true_eq] at h
          rw [if_neg (by omega), if_neg (by omega), if_pos (by omega)]
          exact ⟨h.1.1, h.1.2, by omega, fun _ _ => h.2.1⟩
        · split at h
          · simp only [Bool.and_eq_true, decide_eq_true_eq] at h
            rw [if_neg (by omega), if_neg (by omega), if_neg (by omega), if_pos (by omega)]
            exact ⟨h.1.1, h.1.2, by omega, fun _ _ => h.2.1⟩
          · split at h
            · omega
            · cases h
theorem nd_bad (h10 : e.kind ≠ 10) (h11 : e.kind ≠ 11) (h : kdN e.kind ≠ ((e.kids.length : Nat) : Int) ∨ e.pick ≠ 0 ∨ e.count ≠ 0) : false = wfN p F vars e := by
  cases hw : wfN p F vars e with
  | false => rfl
  | true =>
    have := wfN_plain hw h10 h11
    omega
theorem nd_1 (hk : kdN e.kind = ((e.kids.length : Nat) : Int)) (h1 : e.kind = 1) (hp : e.pick = 0) (hc : e.count = 0) : isN e.num = wfN p F vars e := by
  have hl : e.kids.length = 0 := by unfold kdN at hk; rw [if_pos (by omega)] at hk; omega
  unfold wfN plainB
  rw [if_pos h1, decide_eq_true hp, decide_eq_true hc, decide_eq_true hl]; rfl
theorem nd_2 (hk : kdN e.kind = ((e.kids.length : Nat) : Int)) (h1 : e.kind = 2) (hp : e.pick = 0) (hc : e.count = 0) : (decide (((0 : Nat) : Int) ≤ e.num) && decide (e.num ≤ vars - 1)) = wfN p F vars e := by
  have hl : e.kids.length = 0 := by unfold kdN at hk; rw [if_pos (by omega)] at hk; omega
  unfold wfN plainB inB
  rw [if_neg (by omega), if_pos h1, decide_eq_true hp, decide_eq_true hc, decide_eq_true hl]; rfl
theorem nd_o (hk : kdN e.kind = ((e.kids.length : Nat) : Int)) (h1 : e.kind ≠ 1) (h2 : e.kind ≠ 2) (h10 : e.kind ≠ 10) (h11 : e.kind ≠ 11) (hp : e.pick = 0) (hc : e.count = 0) : decide (e.num = 0) = wfN p F vars e := by
  unfold kdN at hk
  unfold wfN plainB
  rw [if_neg h1, if_neg h2, decide_eq_true hp, decide_eq_true hc]
  rw [if_neg (by omega)] at hk
  split at hk
  · rename_i h3
    rw [if_pos h3, decide_eq_true (show e.kids.length = 2 by omega)]; simp
  · rename_i h3
    rw [if_neg h3]
    split at hk
    · rename_i h4
      rw [if_pos h4, decide_eq_true (show e.kids.length = 1 by omega)]; simp
    · rename_i h4
      rw [if_neg h4]
      split at hk
      · rename_i h5
        rw [if_pos h5, decide_eq_true (show e.kids.length = 3 by omega)]; simp
      · omega
end
end Go.Proofs.YtnofbmdpabcjaaaGreat
namespace Go.Proofs.YtnofbmdpabcjaaaGreat
open Go Go.RowKit
set_option linter.unusedVariables false
set_option linter.unusedSimpArgs false
/-- What a call comes to. -/
def callV (n : Nat) (C : Ca) (e : Ex) (env : List Sr) (s : Nat) : Rs Sr := (evs n C e.kids env s).bind fun xs t =>
  if e.kind = 10 then C.one e.num.toNat e.pick.toNat xs t else (lop (C.all e.num.toNat) e.count.toNat xs t).bind fun ys u => .ok (ys.getD e.pick.toNat []) u
section
variable {n : Nat} {C : Ca} {e : Ex} {env : List Sr} {s s1 s2 : Nat} {c c1 c2 : Int} {x y : Sr} {xs ys : List Sr}
theorem rel_callV (hc : c = 0) (hs : s + 1 ≤ 3000) (hk : e.kind = 10 ∨ e.kind = 11) (h : RelV (go c (callV n C e env (s + 1))) y s2 c2) : RelV (go c (evE n C e env s)) y s2 c2 := by
  subst hc
  rw [go_0] at h ⊢
  rw [evE_kids hs (by omega) (by omega) (by omega) (by omega)]
  unfold callV at h
  cases hv : evs n C e.kids env (s + 1) with
  | err d => rw [hv] at h; exact h
  | ok zs t =>
    rw [hv] at h
    rw [Rs.bind_ok] at h ⊢
    by_cases h10 : e.kind = 10
    · rw [if_pos h10] at h ⊢; exact h
    · rw [if_neg h10] at h; rw [if_neg h10, if_pos (by omega)]; exact h
theorem relgo {α : Type} {r : Rs α} {v : α} (h : RelV (go c r) v s1 c1) (hc : c ≠ 0) : c1 = c := by
  rw [go_ne hc] at h; exact h.1
/-- The first kid of one, the first two of two. -/
theorem rel_k1 (hl : e.kids.length = 1) (h : RelV (go c (evE n C (e.kids.getD 0 Ex.zero) env s)) x s1 c1) : RelV (go c (evs n C e.kids env s)) [x] s1 c1 := by
  have h1 := rel_snoc (l := e.kids) (k := 0) (by omega) (all_start n C e.kids env s c) h
  rwa [List.take_of_length_le (by omega)] at h1
theorem rel_k2 (hl : e.kids.length = 2) (h : RelV (go c (evE n C (e.kids.getD 0 Ex.zero) env s)) x s1 c1) (h2 : RelV (go c1 (evE n C (e.kids.getD 1 Ex.zero) env s1)) y s2 c2) : RelV (go c (evs n C e.kids env s)) [x, y] s2 c2 := by
  have h1 := rel_snoc (l := e.kids) (k := 0) (by omega) (all_start n C e.kids env s c) h
  have h3 := rel_snoc (l := e.kids) (k := 1) (by omega) h1 h2
  rwa [List.take_of_length_le (by omega)] at h3
theorem rel_ops (hc : c = 0) (hs : s + 1 ≤ 3000) (hk : e.kind = 3 ∨ e.kind = 4 ∨ e.kind = 5 ∨ e.kind = 6 ∨ e.kind = 7) (hr : RelV (go c (evs n C e.kids env (s + 1))) xs s1 c1)
    (h : c1 = 0 → RelV (opV e.kind xs s1) y s1 c2) (h0 : c1 ≠ 0 → c2 = c1) : RelV (go c (evE n C e env s)) y s1 c2 := by
  by_cases hc1 : c1 = 0
  · exact rel_op hc hs (by omega) (by omega) (by omega) (by omega) (by omega) (by omega) hr hc1 (h hc1)
  · rw [h0 hc1]; exact rel_kidsE hc hs (by omega) (by omega) (by omega) (by omega) hr hc1
theorem rel_cone {p : List Fn} {F : Nat} (hk : e.kind = 10) (hF : e.num.toNat < F) (hr : RelV (go c (evs n (evC p n F) e.kids env s)) xs s1 c1)
    (h2 : RelV (go c1 (evE n (evC p n e.num.toNat) ((p.getD e.num.toNat Fn.zero).outs.getD e.pick.toNat Ex.zero) xs s1)) y s2 c2) : RelV (go c (callV n (evC p n F) e env s)) y s2 c2 := by
  by_cases hc : c = 0
  · subst hc
    rw [go_0] at hr ⊢
    unfold callV
    by_cases hc1 : c1 = 0
    · subst hc1; rw [hr.bindO, if_pos hk, evC_one hF]; rw [go_0] at h2; exact h2
    · rw [hr.bindE hc1]; rw [go_ne hc1] at h2; exact h2
  · have e1 := relgo hr hc
    subst e1
    rw [go_ne hc] at h2 ⊢; exact h2
theorem rel_lop' {f : List Sr → Nat → Rs (List Sr)} {k : Nat} (h : RelV (go c (lop f k xs s)) ys s1 c1) {zs : List Sr} (h2 : RelV (go c1 (f ys s1)) zs s2 c2) : RelV (go c (lop f (k + 1) xs s)) zs s2 c2 := by
  by_cases hc : c = 0
  · subst hc
    rw [go_0] at h ⊢
    show RelV ((lop f k xs s).bind f) _ _ _
    by_cases hc1 : c1 = 0
    · subst hc1; rw [h.bindO]; rw [go_0] at h2; exact h2
    · rw [h.bindE hc1]; rw [go_ne hc1] at h2; exact h2
  · have e1 := relgo h hc
    subst e1
    rw [go_ne hc] at h2 ⊢; exact h2
theorem rel_lop0 {f : List Sr → Nat → Rs (List Sr)} (hc : 0 = 0) : RelV (go c (lop f 0 xs s)) xs s c := by
  by_cases h : c = 0
  · subst h; exact ⟨rfl, rfl, rfl⟩
  · exact RelV.mk_err (go_ne h _) h
theorem rel_clop {p : List Fn} {F : Nat} (hk : e.kind ≠ 10) (hF : e.num.toNat < F) (hr : RelV (go c (evs n (evC p n F) e.kids env s)) xs s1 c1)
    (h2 : RelV (go c1 (lop (fun a t => evs n (evC p n e.num.toNat) (p.getD e.num.toNat Fn.zero).outs a t) e.count.toNat xs s1)) ys s2 c2) : RelV (go c (callV n (evC p n F) e env s)) (ys.getD e.pick.toNat []) s2 c2 := by
  have hl : (evC p n F).all e.num.toNat = fun a t => evs n (evC p n e.num.toNat) (p.getD e.num.toNat Fn.zero).outs a t := funext fun a => funext fun t => evC_all hF
  by_cases hc : c = 0
  · subst hc
    rw [go_0] at hr ⊢
    unfold callV
    by_cases hc1 : c1 = 0
    · subst hc1
      rw [hr.bindO, if_neg hk, hl]
      rw [go_0] at h2
      by_cases h0 : c2 = 0
      · subst h0; rw [h2.bindO]; exact RelV.mk_ok rfl
      · rw [h2.bindE h0]; exact RelV.mk_err rfl h0
    · rw [hr.bindE hc1]
      rw [go_ne hc1] at h2
      exact RelV.mk_err (by rw [h2.1]) (by rw [h2.1]; exact hc1)
  · have e1 := relgo hr hc
    subst e1
    rw [go_ne hc] at h2 ⊢
    exact RelV.mk_err (by rw [h2.1]) (by rw [h2.1]; exact hc)
end
end Go.Proofs.YtnofbmdpabcjaaaGreat
namespace Go.Proofs.YtnofbmdpabcjaaaGreat
open Go Go.RowKit
set_option linter.unusedVariables false
set_option linter.unusedSimpArgs false
section
variable {p : List Fn} {f : Int} {y : List Sr}
end
/-- The state behind a round, the states of a chain. -/
def nxC (p : List Fn) (f : Nat) (s : Sr) : Int := evD p 1 f (sing s)
def nxR (p : List Fn) (f : Nat) (s : Sr) : Sr := (evR p 1 f (sing s)).map fun s => s.getD 0 0
def rsI (p : List Fn) (f : Nat) (a : Sr) : Nat → Sr
  | 0 => a
  | k + 1 => nxR p f (rsI p f a k)
def rsK (p : List Fn) (f : Nat) (a : Sr) : Nat → Int
  | 0 => 0
  | k + 1 => if rsK p f a k = 0 then nxC p f (rsI p f a k) else rsK p f a k
def rsR (p : List Fn) (f : Nat) (a : Sr) (n : Nat) : List Sr := if rsK p f a n = 0 then tab (n + 1) (rsI p f a) else []
theorem sing_ser {a : Sr} (h : allN a = true) : SrE 1 (sing a) := by
  intro k hk
  unfold sing at hk ⊢
  rw [List.length_map] at hk
  rw [List.getD_eq_getElem?_getD, List.getElem?_map, List.getElem?_eq_getElem hk]
  refine ⟨rfl, ?_⟩
  unfold allN at h ⊢
  have := List.all_eq_true.1 h _ (List.getElem_mem hk)
  simpa using this
theorem firsts_num {x : List Sr} {n : Nat} (h : SrE (n + 1) x) : allN (x.map fun s => s.getD 0 0) = true := by
  unfold allN
  rw [List.all_eq_true]
  intro y hy
  obtain ⟨s, hs, rfl⟩ := List.mem_map.1 hy
  obtain ⟨k, hk, rfl⟩ := List.mem_iff_getElem.1 hs
  have h2 := h k hk
  rw [gd_at hk] at h2
  exact ser_at h2 (by omega)
section
variable {p : List Fn} {f : Nat} {a s : Sr} {k n : Nat}
theorem rsR_e (h : rsK p f a n ≠ 0) : rsR p f a n = [] := if_neg h
theorem rsR_o (h : rsK p f a n = 0) : rsR p f a n = tab (n + 1) (rsI p f a) := if_pos h
/-- What is known of the state behind a round. -/
structure NxP (p : List Fn) (f : Nat) (s : Sr) : Prop where
  code : 0 ≤ nxC p f s ∧ nxC p f s ≤ 9
  len : nxC p f s = 0 → (nxR p f s).length = (p.getD f Fn.zero).outs.length
  num : allN (nxR p f s) = true
  non : nxC p f s ≠ 0 → nxR p f s = []
theorem NxP.mk' (h : EvP p 1 f (sing s)) : NxP p f s :=
  ⟨h.code, fun h0 => by unfold nxR; rw [List.length_map]; exact h.len h0, firsts_num h.ser, fun h0 => by unfold nxR; rw [h.non h0]; rfl⟩
/-- What is known of the states of a chain. -/
structure RsP (p : List Fn) (f : Nat) (a : Sr) (n : Nat) : Prop where
  code : 0 ≤ rsK p f a n ∧ rsK p f a n ≤ 9
  len : (rsR p f a n).length ≤ n + 1
  rows : ∀ k, ((rsR p f a n).getD k []).length ≤ a.length
theorem RsP.err {c : Int} (h : rsK p f a n = c) (h0 : c ≠ 0) (hc : 0 ≤ c ∧ c ≤ 9) : RsP p f a n := ⟨by omega, by rw [rsR_e (by omega)]; simp, fun k => by rw [rsR_e (by omega)]; simp⟩
theorem RsP.ok (h : rsK p f a n = 0) (hr : ∀ k, k ≤ n → (rsI p f a k).length = a.length) : RsP p f a n := ⟨by omega, by rw [rsR_o h]; simp [tab], fun k => by
  rw [rsR_o h]
  by_cases hk : k < n + 1
  · rw [tab_get _ hk, hr k (by omega)]; exact Nat.le_refl _
  · rw [List.getD_eq_getElem?_getD, List.getElem?_eq_none (by simp [tab]; omega)]; simp⟩
end
section
variable {p : List Fn} {f n : Int} {a : Sr}
end
end Go.Proofs.YtnofbmdpabcjaaaGreat
namespace Go.Proofs.YtnofbmdpabcjaaaGreat
open Go Go.RowKit
set_option linter.unusedVariables false
set_option linter.unusedSimpArgs false
/-- A slice of structs of s cells that is owned. -/
def owS {α : Type} (s : Nat) (E : StandN α) (e : TypeId) : Stand (List α) := fun H v xs F =>
  (v = .slice none 0 0 ∧ xs = [] ∧ F = []) ∨
  ∃ css g cur F', elsN E H css xs F' ∧ v = .slice (some ⟨g, 0, none⟩) xs.length xs.length ∧ H[g]? = some (.cells cur e (0, 0)) ∧ cur.toList = css.flatten ∧ xs.length ≤ maxLen ∧ F = g :: F'
section owS
variable {α : Type} {E : StandN α} {s : Nat} {e : TypeId} {H H' : Array Obj} {v : Value} {xs : List α} {F : List Nat}
theorem good_owS (hE : GoodN s E) : Good (owS s E e) where
  cells := by
    rintro H v xs F (⟨rfl, _⟩ | ⟨us, g, cur, F', _, rfl, _⟩) <;> rfl
  one := by
    rintro H v xs F (⟨rfl, _⟩ | ⟨us, g, cur, F', _, rfl, _⟩) <;> rfl
  lt := by
    rintro H v xs F (⟨rfl, _, rfl⟩ | ⟨us, g, cur, F', h, rfl, hg, _, _, rfl⟩) b hb
    · cases hb
    · rcases List.mem_cons.1 hb with rfl | hb
      · exact getElem?_lt hg
      · exact h.lt hE b hb
  stable := by
    rintro H H' v xs F (⟨rfl, h1, h2⟩ | ⟨us, g, cur, F', h, rfl, hg, r1, r2, rfl⟩) hb
    · exact .inl ⟨rfl, h1, h2⟩
    · exact .inr ⟨us, g, cur, F', h.stable hE fun b hh => hb b (List.mem_cons_of_mem _ hh), rfl, by rw [hb g (List.mem_cons_self ..)]; exact hg, r1, r2, rfl⟩
theorem elsN.imp {E' : StandN α} (hi : ∀ {H cs x F}, E H cs x F → E' H cs x F) : ∀ {css : List (List Value)} {xs : List α} {F : List Nat}, elsN E H css xs F → elsN E' H css xs F
  | [], [], _, h => h
  | _ :: _, _ :: _, _, ⟨F1, F2, rfl, h1, h2⟩ => ⟨F1, F2, rfl, hi h1, elsN.imp hi h2⟩
  | [], _ :: _, _, h => h.elim
  | _ :: _, [], _, h => h.elim
theorem owS.imp {E' : StandN α} (hi : ∀ {H cs x F}, E H cs x F → E' H cs x F) (h : owS s E e H v xs F) : owS s E' e H v xs F := by
  rcases h with h | ⟨us, g, cur, F', h, rfl, hg, r1, r2, rfl⟩
  · exact .inl h
  · exact .inr ⟨us, g, cur, F', h.imp hi, rfl, hg, r1, r2, rfl⟩
theorem owS.rd (hE : GoodN s E) (h : owS s E e H v xs F) : rdS s E H v xs F := by
  rcases h with ⟨rfl, rfl, rfl⟩ | ⟨us, g, cur, F', h, rfl, hg, r1, r2, rfl⟩
  · exact .inl ⟨none, 0, rfl, rfl, rfl⟩
  · refine .inr ⟨us, g, 0, xs.length, cur, e, (0, 0), F', h, rfl, hg, ?_, ⟨r2, Nat.le_refl _⟩, rfl⟩
    rw [List.drop_zero, r1, ← h.flen hE, List.take_length]
theorem owS.isSl (h : owS s E e H v xs F) : isSl v xs.length := by
  rcases h with ⟨rfl, rfl, _⟩ | ⟨us, g, cur, F', _, rfl, _⟩
  · exact ⟨none, 0, rfl, fun _ => rfl⟩
  · exact ⟨_, _, rfl, fun h => by cases h⟩
theorem owS.lenle (h : owS s E e H v xs F) : xs.length ≤ maxLen := by
  rcases h with ⟨_, rfl, _⟩ | ⟨us, g, cur, F', _, _, _, _, h, _⟩
  · simp
  · exact h
theorem elsN.set : ∀ {css : List (List Value)} {xs : List α} {F G : List Nat} {k : Nat} {cs : List Value} {y : α}, elsN E H css xs F → k < xs.length → F.Nodup → E H cs y G → G.Nodup → (∀ b ∈ G, b ∉ F) →
    ∃ F', elsN E H (css.set k cs) (xs.set k y) F' ∧ F'.Nodup ∧ ∀ b ∈ F', b ∈ F ∨ b ∈ G
  | u0 :: us, x :: xs, _, G, 0, u, y, ⟨F1, F2, rfl, h1, h2⟩, _, hn, hy, hg, hd => by
    have hn' := List.nodup_append.1 hn
    refine ⟨G ++ F2, ⟨G, F2, rfl, hy, h2⟩, List.nodup_append.2 ⟨hg, hn'.2.1, ?_⟩, fun b hb => (List.mem_append.1 hb).elim .inr fun h => .inl (List.mem_append_right _ h)⟩
    rintro a ha b hb rfl
    exact hd a ha (List.mem_append_right _ hb)
  | u0 :: us, x :: xs, _, G, k + 1, u, y, ⟨F1, F2, rfl, h1, h2⟩, hk, hn, hy, hg, hd => by
    have hn' := List.nodup_append.1 hn
    obtain ⟨F', q1, q2, q3⟩ := elsN.set h2 (by simpa using hk) hn'.2.1 hy hg fun b hb hc => hd b hb (List.mem_append_right _ hc)
    refine ⟨F1 ++ F', ⟨F1, F', rfl, h1, q1⟩, List.nodup_append.2 ⟨hn'.1, q2, ?_⟩, fun b hb => ?_⟩
    · rintro a ha b hb rfl
      rcases q3 a hb with hh | hh
      · exact hn'.2.2 a ha a hh rfl
      · exact hd a hh (List.mem_append_left _ ha)
    · rcases List.mem_append.1 hb with hh | hh
      · exact .inl (List.mem_append_left _ hh)
      · rcases q3 b hh with h' | h'
        · exact .inl (List.mem_append_right _ h')
        · exact .inr h'
  | [], [], _, _, _, _, _, _, hk, _, _, _, _ => by simp at hk
  | [], _ :: _, _, _, _, _, _, h, _, _, _, _, _ => h.elim
  | _ :: _, [], _, _, _, _, _, h, _, _, _, _, _ => h.elim
/-- An element, and what becomes of all when it is changed. -/
theorem elsN.upd : ∀ {css : List (List Value)} {xs : List α} {F : List Nat} {k : Nat} (d : α), elsN E H css xs F → k < xs.length → F.Nodup →
    ∃ cs G, css[k]? = some cs ∧ E H cs (xs.getD k d) G ∧ G.Nodup ∧ (∀ b ∈ G, b ∈ F) ∧
      (∀ {H' : Array Obj} {cs' : List Value}, (∀ {c x C}, E H c x C → (∀ b ∈ C, b ∈ F ∧ b ∉ G) → E H' c x C) → E H' cs' (xs.getD k d) G → elsN E H' (css.set k cs') xs F)
  | c :: css, x :: xs, _, 0, d, ⟨F1, F2, rfl, h1, h2⟩, _, hn => by
    have hn' := List.nodup_append.1 hn
    refine ⟨c, F1, rfl, h1, hn'.1, fun b hb => List.mem_append_left _ hb, fun {H' cs'} hE hu => ⟨F1, F2, rfl, hu, ?_⟩⟩
    have key : ∀ {us : List (List Value)} {xs : List α} {F : List Nat}, elsN E H us xs F → (∀ b ∈ F, b ∈ F2) → elsN E H' us xs F := by
      intro us
      induction us with
      | nil => intro xs F h _; cases xs with
        | nil => exact h
        | cons => exact h.elim
      | cons u us ih =>
        intro xs F h hs
        cases xs with
        | nil => exact h.elim
        | cons x xs =>
          obtain ⟨A, C, rfl, q1, q2⟩ := h
          exact ⟨A, C, rfl, hE q1 fun b hb => ⟨List.mem_append_right _ (hs b (List.mem_append_left _ hb)), fun hc => hn'.2.2 b hc b (hs b (List.mem_append_left _ hb)) rfl⟩, ih q2 fun b hb => hs b (List.mem_append_right _ hb)⟩
    exact key h2 fun b hb => hb
  | c :: css, x :: xs, _, k + 1, d, ⟨F1, F2, rfl, h1, h2⟩, hk, hn => by
    have hn' := List.nodup_append.1 hn
    obtain ⟨cs, G, hu, hx, hg, hb, hc⟩ := elsN.upd d h2 (by simpa using hk) hn'.2.1
    refine ⟨cs, G, by simpa using hu, by simpa using hx, hg, fun b hh => List.mem_append_right _ (hb b hh), fun hE hy => ⟨F1, F2, rfl, hE h1 fun b hb' => ⟨List.mem_append_left _ hb', fun hc' => hn'.2.2 b hb' b (hb b hc') rfl⟩, ?_⟩⟩
    exact hc (fun q hs => hE q fun b hb' => ⟨List.mem_append_right _ (hs b hb').1, (hs b hb').2⟩) (by simpa using hy)
  | [], [], _, _, _, _, hk, _ => by simp at hk
  | [], _ :: _, _, _, _, h, _, _ => h.elim
  | _ :: _, [], _, _, _, h, _, _ => h.elim
end owS
theorem flat_set {s : Nat} {vs : List Value} : ∀ {css : List (List Value)} {k : Nat}, (∀ c ∈ css, c.length = s) → vs.length = s → k < css.length → css.flatten.take (k * s) ++ vs ++ css.flatten.drop (k * s + vs.length) = (css.set k vs).flatten
  | [], _, _, _, hk => by simp at hk
  | c :: css, 0, h, hv, _ => by
    have hc := h c (List.mem_cons_self ..)
    simp [hv, ← hc]
  | c :: css, k + 1, h, hv, hk => by
    have hc := h c (List.mem_cons_self ..)
    have ih := flat_set (s := s) (vs := vs) (css := css) (k := k) (fun c hc => h c (List.mem_cons_of_mem _ hc)) hv (by simpa using hk)
    have e1 : (k + 1) * s = c.length + k * s := by rw [Nat.succ_mul, hc]; omega
    have e2 : (k + 1) * s + vs.length = c.length + (k * s + vs.length) := by omega
    rw [e2, e1, List.set_cons_succ, List.flatten_cons, List.flatten_cons, List.take_length_add_append, List.drop_length_add_append, ← ih]
    simp [List.append_assoc]
theorem flat_set1 {s : Nat} {u : Value} : ∀ {css : List (List Value)} {k c : Nat} {cs : List Value}, (∀ c ∈ css, c.length = s) → css[k]? = some cs → c < s → css.flatten.set (k * s + c) u = (css.set k (cs.set c u)).flatten
  | [], _, _, _, _, hk, _ => by simp at hk
  | x :: css, 0, c, cs, h, hk, hc => by
    have hx := h x (List.mem_cons_self ..)
    have : x = cs := by simpa using hk
    subst this
    rw [Nat.zero_mul, Nat.zero_add, List.flatten_cons, List.set_append, if_pos (by omega), List.set_cons_zero, List.flatten_cons]
  | x :: css, k + 1, c, cs, h, hk, hc => by
    have hx := h x (List.mem_cons_self ..)
    have ih := flat_set1 (s := s) (u := u) (css := css) (k := k) (c := c) (cs := cs) (fun c hc => h c (List.mem_cons_of_mem _ hc)) (by simpa using hk) hc
    have e1 : (k + 1) * s + c = x.length + (k * s + c) := by rw [Nat.succ_mul, hx]; omega
    rw [e1, List.flatten_cons, List.set_append, if_neg (by omega), Nat.add_sub_cancel_left, ih, List.set_cons_succ, List.flatten_cons]
theorem elsN.lens {α : Type} {E : StandN α} {s : Nat} {H : Array Obj} (hE : GoodN s E) : ∀ {css : List (List Value)} {xs : List α} {F : List Nat}, elsN E H css xs F → ∀ c ∈ css, c.length = s
  | [], [], _, _, c, hc => by cases hc
  | _ :: _, _ :: _, _, ⟨F1, F2, rfl, h1, h2⟩, c, hc => (List.mem_cons.1 hc).elim (fun h => by rw [h]; exact hE.len h1) (elsN.lens hE h2 c)
  | [], _ :: _, _, h, _, _ => h.elim
  | _ :: _, [], _, h, _, _ => h.elim
section ops
variable {P : Program} {ops : Array Oper} {w0 : World} {Q : Act → World → Prop} {os : List Oper} {ks : List Nat} {N : Nat} {ρ : Nat → Value} {w : World}
  {d : Nat} {ty : TypeId} {pos : String} {aft : Array Edge} {g : Option (Nat × Bool)} {t e : TypeId} {α : Type} {E : StandN α} {s : Nat}
theorem made_flat {zs : List Value} {s : Nat} (hz : zs.length = s) (n : Nat) : (madeCells zs.toArray (n * s)).toList = (List.replicate n zs).flatten := by
  apply List.ext_getElem?
  intro i
  by_cases hi : i < n * s
  · have hs : 0 < s := by
      rcases Nat.eq_zero_or_pos s with h | h
      · rw [h, Nat.mul_zero] at hi; omega
      · exact h
    have hm : i % s < zs.length := by rw [hz]; exact Nat.mod_lt _ hs
    have e1 : (madeCells zs.toArray (n * s)).toList[i]? = some (zs[i % s]) := by
      simp only [madeCells, Array.toList_map, List.getElem?_map]
      rw [show (Array.range (n * s)).toList[i]? = some i from by simp [hi]]
      simp only [Option.map_some, List.size_toArray, hz]
      rw [getElem!_pos zs.toArray (i % s) (by simpa using hm)]
      simp
    have e2 : ∀ (n i : Nat), i < n * s → (List.replicate n zs).flatten[i]? = zs[i % s]? := by
      intro n
      induction n with
      | zero => intro i hi; omega
      | succ n ih =>
        intro i hi
        rw [List.replicate_succ, List.flatten_cons]
        by_cases h : i < s
        · rw [List.getElem?_append_left (by omega), Nat.mod_eq_of_lt h]
        · rw [List.getElem?_append_right (by omega), hz, ih (i - s) (by rw [Nat.succ_mul] at hi; omega), ← Nat.mod_eq_sub_mod (by omega)]
    rw [e1, e2 n i hi, List.getElem?_eq_getElem hm]
  · rw [List.getElem?_eq_none (by simp [madeCells]; omega), List.getElem?_eq_none (by simp [List.length_flatten, hz]; omega)]
/-- make of structs. -/
theorem r_makeS {x y : Operand} {n b : Nat} {c : Int} {z : Value} {zs : List Value} {z0 : α} (hE : GoodN s E) (ht : P.underlying t = some (.slice e)) (hi : TI P e s z b) (hzc : z.cells = zs.toArray) (hzl : zs.length = s) (hx : evF N ρ x = .int .i64 c) (hy : evF N ρ y = .int .i64 c) (hc : c = (n : Int)) (hb : b ≤ 1000) (hn : n ≤ 1000000000)
    (h0 : 0 < n → ∀ H, E H zs z0 []) (hu : Up ops N ρ ⟨some d, .makeSlice t x y, ty, pos, aft, g⟩)
    (h : ∀ v w1, Ext w w1 → w1.heap.size = w.heap.size + 1 → Fr (owS s E e) w.heap.size w1.heap.size w1.heap v (List.replicate n z0) → LW P ops w0 Q os ks (mk N (upd ρ d v)) w1) :
    LW P ops w0 Q (⟨some d, .makeSlice t x y, ty, pos, aft, g⟩ :: os) (3 :: ks) (mk N ρ) w := by
  subst hc
  obtain ⟨i, h1, h2, h3, h4⟩ := hi.get
  have hbn : b * n ≤ 1000 * 1000000000 := Nat.mul_le_mul hb hn
  have hr := run_make (P := P) w t e i _ ht h1 h2 .i64 .i64 n n (by omega) (by omega) (by rw [h4]; have : ((b * n : Nat) : Int) ≤ 281474976710656 := (by omega); rw [Int.natCast_mul] at this; exact this) (by omega)
  have hrun : (execOp (evF N ρ) ⟨some d, .makeSlice t x y, ty, pos, aft, g⟩).run P w = .ok (.value (.slice (some ⟨w.heap.size, 0, none⟩) n n)) (w.alloc (.cells (madeCells z.cells ((n : Int).toNat * i.size)) e)) := by
    simp only [execOp, Sem.run_bind, hx, hy, hr, Result.andThen_ok, Sem.run_pure, Int.toNat_natCast]
  refine lw_r rfl hu _ _ hrun (ext_alloc _ _) (h _ _ (ext_alloc _ _) (by simp) ?_)
  refine ⟨[w.heap.size], .inr ⟨List.replicate n zs, w.heap.size, _, [], ?_, by simp, heap_alloc_new _ _, ?_, by rw [List.length_replicate]; unfold maxLen; omega, rfl⟩, by simp, fun c hc => ?_⟩
  · have : ∀ m, m ≤ n → elsN E (w.alloc (.cells (madeCells z.cells ((n : Int).toNat * i.size)) e)).heap (List.replicate m zs) (List.replicate m z0) [] := by
      intro m
      induction m with
      | zero => intro _; rfl
      | succ m ih => intro hm; exact ⟨[], [], rfl, h0 (by omega) _, ih (by omega)⟩
    exact this n (Nat.le_refl _)
  · rw [h3, hzc, Int.toNat_natCast]; exact made_flat hzl n
  · rw [List.mem_singleton] at hc
    subst hc
    simp
/-- A new struct is stored asq an element. -/
theorem e_setS {st : TypeId} {x y : Operand} {v : Value} {cs : List Value} {n : α} {xs : List α} {B U B' U' j : Nat} (hE : GoodN s E) (hst : aggTy P st s = true) (hx : evF N ρ x = eptr v j s) (hy : evF N ρ y = .agg cs.toArray)
    (hv : Fr (owS s E e) B U w.heap v xs) (hn : ∃ G, E w.heap cs n G ∧ G.Nodup ∧ ∀ b ∈ G, B' ≤ b ∧ b < U') (hU : U ≤ B') (hBB : B ≤ B') (hj : j < xs.length) (hu : Up ops N ρ ⟨none, .store st x y, ty, pos, aft, g⟩)
    (h : ∀ w1 F, Chg F w w1 → w1.heap.size = w.heap.size → (∀ c ∈ F, B ≤ c ∧ c < U) → Fr (owS s E e) B w1.heap.size w1.heap v (xs.set j n) → LW P ops w0 Q os ks (mk N ρ) w1) :
    LW P ops w0 Q (⟨none, .store st x y, ty, pos, aft, g⟩ :: os) (4 :: ks) (mk N ρ) w := by
  obtain ⟨F, h1, h2, h3⟩ := hv
  obtain ⟨G, n1, n2, n3⟩ := hn
  rcases h1 with ⟨rfl, rfl, rfl⟩ | ⟨css, b, cur, F0, hels, rfl, hgc, r1, r2, rfl⟩
  · simp at hj
  · have hn' := List.nodup_cons.1 h2
    obtain ⟨F', q1, q2, q3⟩ := hels.set hj hn'.2 n1 n2 fun c hc hm => by have := n3 c hc; have := h3 c (List.mem_cons_of_mem _ hm); omega
    have hbF' : b ∉ F' := fun hm => (q3 b hm).elim hn'.1 fun h => by have := n3 b h; have := h3 b (List.mem_cons_self ..); omega
    have hlen := hels.lens hE
    have hcl : cs.length = s := hE.len n1
    have hfl := hels.flen hE
    have hcs : cur.size = xs.length * s := by rw [← Array.length_toList, r1, hfl]
    have hjs : j * s + s ≤ xs.length * s := by rw [← Nat.succ_mul]; exact Nat.mul_le_mul_right s hj
    have hst1 := run_storeCells_at (P := P) b (j * s) e cs 0 cur w hgc (by omega) (fun u hu => (hE.one n1 u hu).2)
    rw [Nat.add_zero, r1, flat_set hlen hcl (by rw [hels.length]; exact hj)] at hst1
    unfold aggTy at hst
    simp only [Bool.and_eq_true] at hst
    obtain ⟨_, p2⟩ := hst
    split at p2
    · rename_i inf hin
      have hs : inf.size = s := by simpa using p2
      have hr : (Instr.storeAt st (.pointer (some ⟨b, j * s, none⟩)) (.agg cs.toArray)).run P w = .ok () (w.setRow b ((css.set j cs).flatten).toArray) := by
        simp [Instr.storeAt, Instr.sureAddr, storeVar, sizeOf, typeInfo, hin, Value.cells, hcl, hs, hst1]
      have hgn := setRow_heap w b cur (css.set j cs).flatten.toArray e (0, 0) hgc
      refine lw_s rfl hu _ (exec_store (by rw [hx, eptr_s, Nat.zero_add]) hy hr) (h _ [b] ⟨rfl, rfl, rfl, by simp, fun k _ hk => setRow_other w b k _ (by simpa using hk)⟩ (by simp) (fun c hc => by rw [List.mem_singleton.1 hc]; exact h3 b (List.mem_cons_self ..)) ⟨b :: F', .inr ⟨css.set j cs, b, _, F', q1.stable hE fun c hc => setRow_other w b c _ (fun he => hbF' (he ▸ hc)), by simp, hgn, by simp, by rw [List.length_set]; exact r2, rfl⟩, List.nodup_cons.2 ⟨hbF', q2⟩, fun c hc => ?_⟩)
      rcases List.mem_cons.1 hc with rfl | hc
      · exact ⟨(h3 c (List.mem_cons_self ..)).1, by rw [show (w.setRow c ((css.set j cs).flatten).toArray).heap.size = w.heap.size from by simp]; exact getElem?_lt hgc⟩
      · have hlt := q1.lt hE c hc
        rcases q3 c hc with hh | hh
        · exact ⟨(h3 c (List.mem_cons_of_mem _ hh)).1, by simpa using hlt⟩
        · exact ⟨by have := n3 c hh; omega, by simpa using hlt⟩
    · cases p2
end ops
end Go.Proofs.YtnofbmdpabcjaaaGreat
namespace Go.Proofs.YtnofbmdpabcjaaaGreat
open Go Go.RowKit
set_option linter.unusedVariables false
set_option linter.unusedSimpArgs false
theorem rdS.imp {α : Type} {E E' : StandN α} {s : Nat} {H : Array Obj} {v : Value} {xs : List α} {F : List Nat} (hi : ∀ {H cs x F}, E H cs x F → E' H cs x F) (h : rdS s E H v xs F) : rdS s E' H v xs F := by
  rcases h with h | ⟨css, g, off, cap, cur, e, fr, F', h1, h2⟩
  · exact .inl h
  · exact .inr ⟨css, g, off, cap, cur, e, fr, F', h1.imp hi, h2⟩
/-- An expression that is owned, of a depth of at most d. -/
def oEx (e : TypeId) : Nat → StandN Ex
  | 0 => fun _ _ _ _ => False
  | d + 1 => fun H cs x F => ∃ v, cs = exC x v ∧ exR x ∧ owS 5 (oEx e d) e H v x.kids F
theorem good_oEx (e : TypeId) : ∀ d, GoodN 5 (oEx e d)
  | 0 => ⟨fun h => h.elim, fun h => h.elim, fun h => h.elim, fun h => h.elim⟩
  | d + 1 => by
    have ih := good_oEx e d
    refine ⟨?_, ?_, ?_, ?_⟩
    · rintro H cs e F ⟨v, rfl, _, _⟩; rfl
    · rintro H cs e F ⟨v, rfl, _, h⟩ u hu
      unfold exC at hu
      simp only [List.mem_cons, List.not_mem_nil, or_false] at hu
      rcases hu with rfl | rfl | rfl | rfl | rfl
      · exact ⟨rfl, rfl⟩
      · exact ⟨rfl, rfl⟩
      · exact ⟨rfl, rfl⟩
      · exact ⟨rfl, rfl⟩
      · exact ⟨(good_owS ih).cells h, (good_owS ih).one h⟩
    · rintro H cs e F ⟨v, rfl, _, h⟩ b hb
      exact (good_owS ih).lt h b hb
    · rintro H H' cs e F ⟨v, rfl, hr, h⟩ hb
      exact ⟨v, rfl, hr, (good_owS ih).stable h hb⟩
theorem oEx_rd (e : TypeId) : ∀ {d : Nat} {H : Array Obj} {cs : List Value} {x : Ex} {F : List Nat}, oEx e d H cs x F → rEx d H cs x F
  | 0, _, _, _, _, h => h.elim
  | d + 1, _, _, _, _, ⟨v, h1, h2, h3⟩ => ⟨v, h1, h2, (h3.rd (good_oEx e d)).imp fun h => oEx_rd e h⟩
def oFn (e : TypeId) (d : Nat) : StandN Fn := fun H cs f F => ∃ v, cs = fnC f v ∧ i64 f.params ∧ owS 5 (oEx e d) e H v f.outs F
theorem good_oFn (e : TypeId) (d : Nat) : GoodN 3 (oFn e d) := by
  have ih := good_owS (e := e) (good_oEx e d)
  refine ⟨?_, ?_, ?_, ?_⟩
  · rintro H cs e F ⟨v, rfl, _, _⟩; rfl
  · rintro H cs e F ⟨v, rfl, _, h⟩ u hu
    unfold fnC at hu
    simp only [List.mem_cons, List.not_mem_nil, or_false] at hu
    rcases hu with rfl | rfl | rfl
    · exact ⟨rfl, rfl⟩
    · exact ⟨rfl, rfl⟩
    · exact ⟨ih.cells h, ih.one h⟩
  · rintro H cs e F ⟨v, rfl, _, h⟩ b hb
    exact ih.lt h b hb
  · rintro H H' cs e F ⟨v, rfl, hr, h⟩ hb
    exact ⟨v, rfl, hr, ih.stable h hb⟩
theorem oFn_rd (e : TypeId) {d : Nat} {H : Array Obj} {cs : List Value} {x : Fn} {F : List Nat} (h : oFn e d H cs x F) : rFn d H cs x F := by
  obtain ⟨v, h1, h2, h3⟩ := h
  exact ⟨v, h1, h2, (h3.rd (good_oEx e d)).imp fun h => oEx_rd e h⟩
/-- The shape of an expression, whatever its numbers are. -/
def hEx (e : TypeId) : Nat → StandN Ex
  | 0 => fun _ _ _ _ => False
  | d + 1 => fun H cs x F => ∃ a b c k v, cs = [.int .i64 a, .int .i64 b, .int .i64 c, .int .i64 k, v] ∧ owS 5 (hEx e d) e H v x.kids F
theorem good_hEx (e : TypeId) : ∀ d, GoodN 5 (hEx e d)
  | 0 => ⟨fun h => h.elim, fun h => h.elim, fun h => h.elim, fun h => h.elim⟩
  | d + 1 => by
    have ih := good_hEx e d
    refine ⟨?_, ?_, ?_, ?_⟩
    · rintro H cs e F ⟨a, b, c, k, v, rfl, _⟩; rfl
    · rintro H cs e F ⟨a, b, c, k, v, rfl, h⟩ u hu
      simp only [List.mem_cons, List.not_mem_nil, or_false] at hu
      rcases hu with rfl | rfl | rfl | rfl | rfl
      · exact ⟨rfl, rfl⟩
      · exact ⟨rfl, rfl⟩
      · exact ⟨rfl, rfl⟩
      · exact ⟨rfl, rfl⟩
      · exact ⟨(good_owS ih).cells h, (good_owS ih).one h⟩
    · rintro H cs e F ⟨a, b', c, k, v, rfl, h⟩ b hb
      exact (good_owS ih).lt h b hb
    · rintro H H' cs e F ⟨a, b, c, k, v, rfl, h⟩ hb
      exact ⟨a, b, c, k, v, rfl, (good_owS ih).stable h hb⟩
theorem oEx_h (e : TypeId) : ∀ {d : Nat} {H : Array Obj} {cs : List Value} {x : Ex} {F : List Nat}, oEx e d H cs x F → hEx e d H cs x F
  | 0, _, _, _, _, h => h.elim
  | d + 1, _, _, _, _, ⟨v, h1, h2, h3⟩ => ⟨_, _, _, _, v, h1, h3.imp fun h => oEx_h e h⟩
def hFn (e : TypeId) (d : Nat) : StandN Fn := fun H cs f F => ∃ s a v, cs = [.string s, .int .i64 a, v] ∧ owS 5 (hEx e d) e H v f.outs F
theorem good_hFn (e : TypeId) (d : Nat) : GoodN 3 (hFn e d) := by
  have ih := good_owS (e := e) (good_hEx e d)
  refine ⟨?_, ?_, ?_, ?_⟩
  · rintro H cs e F ⟨s, a, v, rfl, _⟩; rfl
  · rintro H cs e F ⟨s, a, v, rfl, h⟩ u hu
    simp only [List.mem_cons, List.not_mem_nil, or_false] at hu
    rcases hu with rfl | rfl | rfl
    · exact ⟨rfl, rfl⟩
    · exact ⟨rfl, rfl⟩
    · exact ⟨ih.cells h, ih.one h⟩
  · rintro H cs e F ⟨s, a, v, rfl, h⟩ b hb
    exact ih.lt h b hb
  · rintro H H' cs e F ⟨s, a, v, rfl, h⟩ hb
    exact ⟨s, a, v, rfl, ih.stable h hb⟩
theorem oFn_h (e : TypeId) {d : Nat} {H : Array Obj} {cs : List Value} {x : Fn} {F : List Nat} (h : oFn e d H cs x F) : hFn e d H cs x F := by
  obtain ⟨v, h1, h2, h3⟩ := h
  exact ⟨_, _, v, h1, h3.imp fun h => oEx_h e h⟩
section el
variable {α : Type} {E : StandN α} {s : Nat} {e : TypeId} {H : Array Obj} {v : Value} {xs : List α} {F : List Nat}
theorem owS.at_ (hE : GoodN s E) (d : α) {k : Nat} (h : owS s E e H v xs F) (hn : F.Nodup) (hk : k < xs.length) :
    ∃ cs G, LD H (eptr v k s) cs ∧ E H cs (xs.getD k d) G ∧ G.Nodup ∧ (∀ b ∈ G, b ∈ F) ∧
      ∀ H' : Array Obj, (∀ b, b ∈ F → b ∉ G → H'[b]? = H[b]?) → E H' cs (xs.getD k d) G → owS s E e H' v xs F := by
  rcases h with ⟨rfl, rfl, rfl⟩ | ⟨css, g, cur, F', h, rfl, hg, r1, r2, rfl⟩
  · simp at hk
  · have hn' := List.nodup_cons.1 hn
    obtain ⟨cs, G, q1, q2, q3, q4, q5⟩ := h.upd d hk hn'.2
    have hgG : g ∉ G := fun hm => hn'.1 (q4 g hm)
    refine ⟨cs, G, ⟨g, 0 + k * s, eptr_s .., fun i hi => ?_⟩, q2, q3, fun b hb => List.mem_cons_of_mem _ (q4 b hb), fun H' hH hy => .inr ⟨css, g, cur, F', ?_, rfl, by rw [hH g (List.mem_cons_self ..) hgG]; exact hg, r1, r2, rfl⟩⟩
    · obtain ⟨cs', G', t1, t2, t3⟩ := h.get hE d hk
      have hl := hE.len q2
      have hcc : cs' = cs := by
        have hlen := h.lens hE
        have hkl : k < css.length := by rw [h.length]; exact hk
        have e0 : css[k] = cs := by rw [List.getElem?_eq_getElem hkl] at q1; exact Option.some.inj q1
        have e1 : ∀ i, i < s → css.flatten[k * s + i]? = some (cs.getD i undef) := by
          intro i hi
          have h1 := flat_set (vs := cs) hlen hl hkl
          have h2 : (css.set k cs) = css := by rw [← e0]; simp
          rw [h2] at h1
          have hfl := h.flen hE
          have hks : k * s + s ≤ xs.length * s := by rw [← Nat.succ_mul]; exact Nat.mul_le_mul_right s hk
          rw [← h1, List.append_assoc, List.getElem?_append_right (by rw [List.length_take]; omega), List.length_take, List.getElem?_append_left (by omega)]
          rw [show k * s + i - min (k * s) css.flatten.length = i from by omega]
          simp [hl, hi]
        apply List.ext_getElem (by rw [hE.len t1, hl])
        intro i p1 p2
        have h3 := t3 i (by omega)
        rw [e1 i (by omega)] at h3
        have h4 := Option.some.inj h3
        simpa [p1, p2] using h4.symm
      subst hcc
      simp only [cellH, hg]
      have h3 := t3 i (by omega)
      rw [← r1] at h3
      rw [Nat.zero_add]
      simpa using h3
    · have h2 : (css.set k cs) = css := by
        have hkl : k < css.length := by rw [h.length]; exact hk
        have e0 : css[k] = cs := by rw [List.getElem?_eq_getElem hkl] at q1; exact Option.some.inj q1
        rw [← e0]; simp
      have h3 := q5 (H' := H') (cs' := cs) (fun {c x C} hc hb => hE.stable hc fun b hm => hH b (List.mem_cons_of_mem _ (hb b hm).1) (hb b hm).2) hy
      rwa [h2] at h3
end el
section ops
variable {P : Program} {ops : Array Oper} {w0 : World} {Q : Act → World → Prop} {os : List Oper} {ks : List Nat} {N : Nat} {ρ : Nat → Value} {w : World}
  {d : Nat} {ty : TypeId} {pos : String} {aft : Array Edge} {g : Option (Nat × Bool)} {t e : TypeId} {α : Type} {E : StandN α} {s : Nat}
/-- A cell of an element is written, which the shape allows. -/
theorem e_setC {st : TypeId} {x y : Operand} {v u : Value} {xs : List α} {F : List Nat} {k c : Nat} (hE : GoodN s E) (hst : (P.info? st).map (·.size) = some 1) (hx : evF N ρ x = padd (eptr v k s) c) (hy : evF N ρ y = u) (hu1 : u.cells = #[u] ∧ u.oneCell' = true)
    (hv : owS s E e w.heap v xs F) (hn : F.Nodup) (hk : k < xs.length) (hc : c < s) (hEc : ∀ {H cs x G}, E H cs x G → E H (cs.set c u) x G) (hu : Up ops N ρ ⟨none, .store st x y, ty, pos, aft, g⟩)
    (h : ∀ w1, Chg F w w1 → w1.heap.size = w.heap.size → owS s E e w1.heap v xs F → LW P ops w0 Q os ks (mk N ρ) w1) :
    LW P ops w0 Q (⟨none, .store st x y, ty, pos, aft, g⟩ :: os) (4 :: ks) (mk N ρ) w := by
  rcases hv with ⟨rfl, rfl, rfl⟩ | ⟨css, b, cur, F', hels, rfl, hg, r1, r2, rfl⟩
  · simp at hk
  · have hn' := List.nodup_cons.1 hn
    have hfl := hels.flen hE
    have hlen := hels.lens hE
    have hkl : k < css.length := by rw [hels.length]; exact hk
    have hcs : cur.size = xs.length * s := by rw [← Array.length_toList, r1, hfl]
    have hjs : k * s + s ≤ xs.length * s := by rw [← Nat.succ_mul]; exact Nat.mul_le_mul_right s hk
    have hel : ∀ {css : List (List Value)} {xs : List α} {F : List Nat} {k : Nat}, elsN E w.heap css xs F → ∀ cs, css[k]? = some cs → elsN E w.heap (css.set k (cs.set c u)) xs F := by
      intro css
      induction css with
      | nil => intro xs F k h cs hk; simp at hk
      | cons a css ih =>
        intro xs F k h cs hk
        cases xs with
        | nil => exact h.elim
        | cons x xs =>
          obtain ⟨A, C, rfl, q1, q2⟩ := h
          cases k with
          | zero =>
            have : a = cs := by simpa using hk
            subst this
            exact ⟨A, C, rfl, hEc q1, q2⟩
          | succ k => exact ⟨A, C, rfl, q1, ih q2 cs (by simpa using hk)⟩
    have hq := List.getElem?_eq_getElem hkl
    have h2 := hel hels _ hq
    refine lw_s rfl hu _ (exec_store (p := .pointer (some ⟨b, k * s + c, none⟩)) (by rw [hx, eptr_s, Nat.zero_add]; rfl) hy (run_store1 hst hg (by omega) hu1.1 hu1.2)) (h _ ((chg_set w b (k * s + c) u).sub fun x hx => by rw [List.mem_singleton.1 hx]; exact List.mem_cons_self ..) (by simp [World.setCell]) (.inr ⟨css.set k (css[k].set c u), b, _, F', ?_, rfl, heap_set hg, ?_, r2, rfl⟩))
    · exact h2.stable hE fun z hz => Below.heap_setCell _ _ _ _ fun he => by
        simp only at he
        subst he
        exact hn'.1 hz
    · rw [Array.toList_setIfInBounds, r1]; exact flat_set1 hlen hq hc
end ops
/-- The kids of an element, and the whole when they have been marked. -/
theorem owS.kidE {e : TypeId} {d k : Nat} {w : World} {v : Value} {xs : List Ex} {F : List Nat} (h : owS 5 (hEx e d) e w.heap v xs F) (hn : F.Nodup) (hk : k < xs.length) :
    ∃ d' u G, d = d' + 1 ∧ ldH w.heap (padd (eptr v k 5) 4) = some u ∧ owS 5 (hEx e d') e w.heap u (xs.getD k Ex.zero).kids G ∧ G.Nodup ∧ (∀ b ∈ G, b ∈ F) ∧
      ∀ w', Chg G w w' → owS 5 (hEx e d') e w'.heap u (xs.getD k Ex.zero).kids G → owS 5 (hEx e d) e w'.heap v xs F := by
  have hlt := (good_owS (good_hEx e d)).lt h
  obtain ⟨cs, G, h1, h2, h3, h4, h5⟩ := h.at_ (good_hEx e d) Ex.zero hn hk
  cases d with
  | zero => exact h2.elim
  | succ d =>
    obtain ⟨a, b, c, q, u, rfl, h2⟩ := h2
    exact ⟨d, u, G, rfl, h1.ld (i := 4) (by simp), h2, h3, h4, fun w' hc hu => h5 _ (fun b hb hg => hc.block b (hlt b hb) hg) ⟨a, b, c, q, u, rfl, hu⟩⟩
theorem owS.kidF {e e' : TypeId} {d k : Nat} {w : World} {v : Value} {xs : List Fn} {F : List Nat} (h : owS 3 (hFn e d) e' w.heap v xs F) (hn : F.Nodup) (hk : k < xs.length) :
    ∃ u G, ldH w.heap (padd (eptr v k 3) 2) = some u ∧ owS 5 (hEx e d) e w.heap u (xs.getD k Fn.zero).outs G ∧ G.Nodup ∧ (∀ b ∈ G, b ∈ F) ∧
      ∀ w', Chg G w w' → owS 5 (hEx e d) e w'.heap u (xs.getD k Fn.zero).outs G → owS 3 (hFn e d) e' w'.heap v xs F := by
  have hlt := (good_owS (good_hFn e d)).lt h
  obtain ⟨cs, G, h1, h2, h3, h4, h5⟩ := h.at_ (good_hFn e d) Fn.zero hn hk
  obtain ⟨s, a, u, rfl, h2⟩ := h2
  exact ⟨u, G, h1.ld (i := 2) (by simp), h2, h3, h4, fun w' hc hu => h5 _ (fun b hb hg => hc.block b (hlt b hb) hg) ⟨s, a, u, rfl, hu⟩⟩
theorem owS.isPtr {α : Type} {E : StandN α} {s k : Nat} {e : TypeId} {H : Array Obj} {v : Value} {xs : List α} {F : List Nat} (h : owS s E e H v xs F) (hk : k < xs.length) : ∃ b o, eptr v k s = .pointer (some ⟨b, o, none⟩) := by
  rcases h with ⟨rfl, rfl, rfl⟩ | ⟨css, g, cur, F', h, rfl, hg, r1, r2, rfl⟩
  · simp at hk
  · exact ⟨_, _, eptr_s ..⟩
theorem hEx_set {e : TypeId} {d c : Nat} {n : Int} (hc : c < 4) {H : Array Obj} {cs : List Value} {x : Ex} {G : List Nat} (h : hEx e d H cs x G) : hEx e d H (cs.set c (.int .i64 n)) x G := by
  cases d with
  | zero => exact h.elim
  | succ d =>
    obtain ⟨a, b, c', q, u, rfl, h2⟩ := h
    rcases c with _ | _ | _ | _ | c
    · exact ⟨n, b, c', q, u, rfl, h2⟩
    · exact ⟨a, n, c', q, u, rfl, h2⟩
    · exact ⟨a, b, n, q, u, rfl, h2⟩
    · exact ⟨a, b, c', n, u, rfl, h2⟩
    · omega
theorem hFn_set0 {e : TypeId} {d : Nat} {n : ByteArray} {H : Array Obj} {cs : List Value} {x : Fn} {G : List Nat} (h : hFn e d H cs x G) : hFn e d H (cs.set 0 (.string n)) x G := by
  obtain ⟨s, a, u, rfl, h2⟩ := h
  exact ⟨n, a, u, rfl, h2⟩
theorem hFn_set1 {e : TypeId} {d : Nat} {n : Int} {H : Array Obj} {cs : List Value} {x : Fn} {G : List Nat} (h : hFn e d H cs x G) : hFn e d H (cs.set 1 (.int .i64 n)) x G := by
  obtain ⟨s, a, u, rfl, h2⟩ := h
  exact ⟨s, n, u, rfl, h2⟩
end Go.Proofs.YtnofbmdpabcjaaaGreat
namespace Go.Proofs.YtnofbmdpabcjaaaGreat
open Go Go.RowKit
set_option linter.unusedVariables false
set_option linter.unusedSimpArgs false
/-- What is left when so many are taken away. -/
def szV (t : Nat) (x : Int) : Int := if ((t : Nat) : Int) ≤ x then x - ((t : Nat) : Int) else -1
theorem szV_rng (t : Nat) {x : Int} (h : 0 ≤ x) : -1 ≤ szV t x ∧ szV t x ≤ x := by unfold szV; split <;> omega
theorem szV_pos {t : Nat} {x : Int} (h : 0 ≤ szV t x) : szV t x = x - ((t : Nat) : Int) ∧ ((t : Nat) : Int) ≤ x := by
  unfold szV at h ⊢
  split at h
  · rename_i h1; rw [if_pos h1]; exact ⟨rfl, h1⟩
  · omega
theorem szV_neg {t : Nat} {x : Int} (h0 : 0 ≤ x) (h : szV t x < 0) : x < ((t : Nat) : Int) := by
  unfold szV at h
  split at h <;> omega
theorem szV_0 {t : Nat} {x y : Int} (h : ((t : Nat) : Int) ≤ x) (hy : y = x - ((t : Nat) : Int)) : y = szV t x := by unfold szV; rw [if_pos h, hy]
theorem szV_1 {t : Nat} {x : Int} (h : x < ((t : Nat) : Int)) : -1 = szV t x := by unfold szV; rw [if_neg (by omega)]
theorem sizes_ge : ∀ (l : List Ex) (k : Nat), Ex.sizes (l.take k) + (l.length - k) ≤ Ex.sizes l
  | [], k => by simp [Ex.sizes]
  | e :: l, 0 => by
    have h := sizes_ge l 0
    have := size_kids e
    rw [List.take_zero] at h ⊢
    rw [Ex.sizes] at h ⊢
    rw [List.length_cons, Ex.sizes]; omega
  | e :: l, k + 1 => by
    have h := sizes_ge l k
    rw [List.take_succ_cons, Ex.sizes, Ex.sizes, List.length_cons]; omega
def Fn.sz (f : Fn) : Nat := f.name.size + Ex.sizes f.outs
def Fn.szs : List Fn → Nat
  | [] => 0
  | f :: l => f.sz + Fn.szs l
theorem szs_nil : Fn.szs [] = 0 := rfl
theorem szs_snoc (l : List Fn) (f : Fn) : Fn.szs (l ++ [f]) = Fn.szs l + f.sz := by
  induction l with
  | nil => simp [Fn.szs]
  | cons g l ih => rw [List.cons_append, Fn.szs, Fn.szs, ih]; omega
theorem szs_step {l : List Fn} {k : Nat} (hk : k < l.length) : Fn.szs (l.take (k + 1)) = Fn.szs (l.take k) + (l.getD k Fn.zero).sz := by
  rw [List.take_succ_eq_append_getElem hk, szs_snoc]
  simp [hk]
theorem szs_take : ∀ (l : List Fn) (k : Nat), Fn.szs (l.take k) ≤ Fn.szs l
  | l, 0 => by rw [List.take_zero, szs_nil]; omega
  | [], k + 1 => by simp [Fn.szs]
  | f :: l, k + 1 => by rw [List.take_succ_cons, Fn.szs, Fn.szs]; have := szs_take l k; omega
theorem szs_at {l : List Fn} {k : Nat} (hk : k < l.length) : (l.getD k Fn.zero).sz ≤ Fn.szs l := by
  have h1 := szs_step hk
  have h2 := szs_take l (k + 1)
  omega
def szP (p : List Fn) : Nat := p.length + Fn.szs p
theorem szP_ok {p : List Fn} (h : szP p ≤ 1048576) : SzP p := by
  intro k hk
  have h1 := szs_at hk
  have h2 : (p.getD k Fn.zero).sz = (p.getD k Fn.zero).name.size + Ex.sizes (p.getD k Fn.zero).outs := rfl
  have h3 : szP p = p.length + Fn.szs p := rfl
  have h4 := sizes_ge (p.getD k Fn.zero).outs 0
  exact ⟨by omega, by omega, by omega⟩
end Go.Proofs.YtnofbmdpabcjaaaGreat
namespace Go.Proofs.YtnofbmdpabcjaaaGreat
open Go Go.RowKit
set_option linter.unusedVariables false
set_option linter.unusedSimpArgs false
section res
variable {P : Program} {N : Nat} {ρ : Nat → Value} {w : World} {t : TypeId}
theorem run_loadVarA {s b o : Nat} (ht : aggTy P t s = true) {cs : List Value} (h : LD w.heap (.pointer (some ⟨b, o, none⟩)) cs) (hl : cs.length = s) : (loadVar t ⟨b, o, none⟩).run P w = .ok (.agg cs.toArray) w := by
  obtain ⟨b', o', he, h⟩ := h
  injection he with he
  injection he with he
  injection he with hb ho _
  subst hb; subst ho
  unfold aggTy at ht
  simp only [Bool.and_eq_true] at ht
  obtain ⟨h1, h2⟩ := ht
  split at h1
  · rename_i fs hfs
    split at h2
    · rename_i inf hin
      have hs : inf.size = s := by simpa using h2
      have hag : (isAgg t).run P w = .ok true w := by
        unfold isAgg
        simp only [Sem.run_bind, run_underlying hfs, Result.andThen_ok]
        rfl
      have hlc := run_loadCells_list (P := P) w ⟨b, o, none⟩ cs (fun j v hj => by
        rw [add_mk, cell_cellH]
        have hjl : j < cs.length := (List.getElem?_eq_some_iff.1 hj).1
        rw [h j hjl]
        simp [List.getD, hj])
      rw [hl, ← hs] at hlc
      simp [loadVar, hag, sizeOf, typeInfo, hin, hlc]
    · cases h2
  · cases h1
theorem post_retA {fn : Func} {R : Ending → World → Prop} {k s b : Nat} {ty : TypeId} {cs : List Value} (hr : fn.results = #[.cell k ty]) (ha : aggTy P ty s = true) (hv : evF N ρ (.tmp k) = .pointer (some ⟨b, 0, none⟩)) (hb : BX w.heap b cs) (hl : cs.length = s)
    (h : R (.returned (.agg cs.toArray)) w) : bodyPost P fn R .ret (mk N ρ) w := by
  refine ⟨rfl, _, ?_, h⟩
  have hld := run_loadVarA (P := P) ha (LD.of_box hb) hl
  have hg : (mk N ρ).tmps.getD k undef = .pointer (some ⟨b, 0, none⟩) := by rw [mk_getD, hv]
  have hi : (asAddr (.pointer (some ⟨b, 0, none⟩))).run P w = .ok ⟨b, 0, none⟩ w := rfl
  unfold results
  rw [hr]
  have hg' : (mk N ρ).tmps[k]?.getD undef = .pointer (some ⟨b, 0, none⟩) := by simpa using hg
  simp [Sem.run_bind, hg', hi, hld, Result.andThen]
end res
section fr
variable {α : Type} {E : StandN α} {s : Nat} {e e' : TypeId} {B U d : Nat} {H : Array Obj} {v : Value}
theorem Fr.isSlS {xs : List α} (h : Fr (owS s E e) B U H v xs) : Go.Proofs.YtnofbmdpabcjaaaGreat.isSl v xs.length := by obtain ⟨F, h, _⟩ := h; exact h.isSl
theorem RN.of_frF {S : List Nat} {xs : List Fn} (h : Fr (owS 3 (oFn e d) e') B U H v xs) (hS : ∀ b ∈ S, b < B) : RP S d H v xs := by
  obtain ⟨F, h1, _, h3⟩ := h
  exact ⟨F, (h1.rd (good_oFn e d)).imp fun h => oFn_rd e h, fun b hb hm => by have := h3 b hb; have := hS b hm; omega⟩
theorem RN.exPos {S : List Nat} {xs : List Ex} (h : RN S (rdS 5 (rEx d)) H v xs) (h0 : 0 < xs.length) : 0 < d := by
  obtain ⟨F, h, _⟩ := h
  obtain ⟨cs, G, q, _⟩ := rdS.get (good_rEx d) Ex.zero h h0
  cases d with
  | zero => exact q.elim
  | succ d => omega
theorem oEx_zero (hd : 0 < d) (H : Array Obj) : oEx e d H (exC Ex.zero (.slice none 0 0)) Ex.zero [] := by
  cases d with
  | zero => omega
  | succ d => exact ⟨_, rfl, by constructor <;> (unfold i64; decide), .inl ⟨rfl, rfl, rfl⟩⟩
theorem oFn_zero (H : Array Obj) : oFn e d H (fnC Fn.zero (.slice none 0 0)) Fn.zero [] := ⟨_, rfl, by unfold i64; decide, .inl ⟨rfl, rfl, rfl⟩⟩
theorem oEx_mk {d' : Nat} {x : Ex} (hd : d = d' + 1) (hr : exR x) (h : Fr (owS 5 (oEx e d') e) B U H v x.kids) : ∃ G, oEx e d H (exC x v) x G ∧ G.Nodup ∧ ∀ b ∈ G, B ≤ b ∧ b < U := by
  subst hd
  obtain ⟨G, h1, h2, h3⟩ := h
  exact ⟨G, ⟨v, rfl, hr, h1⟩, h2, h3⟩
theorem oFn_mk {x : Fn} (hr : i64 x.params) (h : Fr (owS 5 (oEx e d) e) B U H v x.outs) : ∃ G, oFn e d H (fnC x v) x G ∧ G.Nodup ∧ ∀ b ∈ G, B ≤ b ∧ b < U := by
  obtain ⟨G, h1, h2, h3⟩ := h
  exact ⟨G, ⟨v, rfl, hr, h1⟩, h2, h3⟩
theorem set_zero {xs : List α} {z : α} {k : Nat} (hk : k < xs.length) (d : α) : (xs.take k ++ List.replicate (xs.length - k) z).set k (xs.getD k d) = xs.take (k + 1) ++ List.replicate (xs.length - (k + 1)) z := by
  have h1 : (xs.take k).length = k := by rw [List.length_take]; omega
  rw [List.set_append, if_neg (by omega), h1, Nat.sub_self, show xs.length - k = (xs.length - (k + 1)) + 1 from by omega, List.replicate_succ, List.set_cons_zero, show xs.take (k + 1) = xs.take k ++ [xs.getD k d] from by rw [List.take_succ_eq_append_getElem hk]; simp [hk], List.append_assoc]
  rfl
end fr
section str
variable {P : Program} {ops : Array Oper} {w0 : World} {Q : Act → World → Prop} {os : List Oper} {ks : List Nat} {N : Nat} {ρ : Nat → Value} {w : World}
  {d : Nat} {ty : TypeId} {pos : String} {aft : Array Edge} {g : Option (Nat × Bool)} {t e : TypeId}
/-- Strings one behind the other. -/
theorem q_adds {xt yt : TypeId} {x y : Operand} {a b : ByteArray} (hx : evF N ρ x = .string a) (hy : evF N ρ y = .string b) (hl : a.size + b.size ≤ 9223372036854775807) (hu : Up ops N ρ ⟨some d, .binOp .add xt x y yt, ty, pos, aft, g⟩)
    (h : LW P ops w0 Q os ks (mk N (upd ρ d (.string (a ++ b)))) w) : LW P ops w0 Q (⟨some d, .binOp .add xt x y yt, ty, pos, aft, g⟩ :: os) (0 :: ks) (mk N ρ) w :=
  lw_q (by decide) rfl hu _ (fun w' _ => by
    have he : (eqGuard .add xt x y (.string a) (.string b)).run P w' = .ok () w' := rfl
    have hr : (binOp .add xt (.string a) (.string b)).run P w' = .ok (.string (a ++ b)) w' := by
      have h2 := run_string_add_sum (P := P) w' a b hl
      simpa [binOp] using h2
    simp only [execOp, hx, hy, Sem.run_bind, he, Result.andThen_ok, hr, Sem.run_pure]) h
/-- One byte asq a string. -/
theorem q_byte {st dt : TypeId} {x : Operand} {v : Value} {n : Int} {B U : Nat} (hs : P.underlying st = some (.slice e)) (he : P.underlying e = some (.int .u8)) (hd : P.underlying dt = some .string) (hx : evF N ρ x = v) (hv : Fr (owL rV e) B U w.heap v [.int .u8 n])
    (hu : Up ops N ρ ⟨some d, .convert st dt x, ty, pos, aft, g⟩) (h : ∀ s : ByteArray, s.size = 1 → LW P ops w0 Q os ks (mk N (upd ρ d (.string s))) w) :
    LW P ops w0 Q (⟨some d, .convert st dt x, ty, pos, aft, g⟩ :: os) (2 :: ks) (mk N ρ) w := by
  obtain ⟨F, hv, _, _⟩ := hv
  rcases hv with ⟨_, hc, _⟩ | ⟨us, b, cap, cur, F', hels, rfl, hg, q1, q2, q3, q4, rfl⟩
  · cases hc
  · obtain ⟨rfl, rfl⟩ := els_rVe hels
    refine lw_q (by decide) rfl hu _ (fun w' hcl => ?_) (h ⟨#[UInt8.ofNat n.toNat]⟩ rfl)
    have hcl : Ext w w' := hcl
    have hcb : w'.heap[b]? = w.heap[b]? := hcl.heap (getElem?_lt hg)
    have hlc := run_loadCells_list (P := P) w' ⟨b, 0, none⟩ [.int .u8 n] (fun j u hj => by
      rw [add_mk, cell_cellH]
      simp only [cellH, hcb, hg]
      have hj0 : j = 0 := by have := (List.getElem?_eq_some_iff.1 hj).1; simpa using this
      subst hj0
      have e1 : cur.toList[0]? = some (.int .u8 n) := by
        have : (cur.toList.take 1)[0]? = some (.int .u8 n) := by rw [show cur.toList.take 1 = [.int .u8 n] from q4]; rfl
        rwa [List.getElem?_take, if_pos (by decide)] at this
      have e2 : u = .int .u8 n := by simpa using hj.symm
      rw [e2]
      simpa using e1)
    have hb := run_bytesToString (P := P) w' ⟨b, 0, none⟩ 1 cap [n] (by simpa using hlc)
    have hr := run_convert_bytes_string (P := P) w' st dt e (some ⟨b, 0, none⟩) 1 cap hs he hd
    simp only [execOp, hx, List.length_singleton, Sem.run_bind, hr, hb, Result.andThen_ok, Sem.run_pure]
    rfl
end str
end Go.Proofs.YtnofbmdpabcjaaaGreat
namespace Go.Proofs.YtnofbmdpabcjaaaGreat
open Go Go.RowKit
theorem mixed : Tryz.prog.follows .mixedOrders = true := by kernel_rfl
theorem cf9 : ((Tryz.prog.funcs[9]?).map fun fn => (fn.name != "runtime.NumGoroutine") && fn.body.isSome) = some true := by kernel_rfl
theorem cf11 : ((Tryz.prog.funcs[11]?).map fun fn => (fn.name != "runtime.NumGoroutine") && fn.body.isSome) = some true := by kernel_rfl
theorem cf12 : ((Tryz.prog.funcs[12]?).map fun fn => (fn.name != "runtime.NumGoroutine") && fn.body.isSome) = some true := by kernel_rfl
theorem cf15 : ((Tryz.prog.funcs[15]?).map fun fn => (fn.name != "runtime.NumGoroutine") && fn.body.isSome) = some true := by kernel_rfl
theorem cf16 : ((Tryz.prog.funcs[16]?).map fun fn => (fn.name != "runtime.NumGoroutine") && fn.body.isSome) = some true := by kernel_rfl
theorem cf17 : ((Tryz.prog.funcs[17]?).map fun fn => (fn.name != "runtime.NumGoroutine") && fn.body.isSome) = some true := by kernel_rfl
theorem cf18 : ((Tryz.prog.funcs[18]?).map fun fn => (fn.name != "runtime.NumGoroutine") && fn.body.isSome) = some true := by kernel_rfl
theorem cf27 : ((Tryz.prog.funcs[27]?).map fun fn => (fn.name != "runtime.NumGoroutine") && fn.body.isSome) = some true := by kernel_rfl
theorem cf28 : ((Tryz.prog.funcs[28]?).map fun fn => (fn.name != "runtime.NumGoroutine") && fn.body.isSome) = some true := by kernel_rfl
theorem cf29 : ((Tryz.prog.funcs[29]?).map fun fn => (fn.name != "runtime.NumGoroutine") && fn.body.isSome) = some true := by kernel_rfl
theorem cf41 : ((Tryz.prog.funcs[41]?).map fun fn => (fn.name != "runtime.NumGoroutine") && fn.body.isSome) = some true := by kernel_rfl
theorem cf44 : ((Tryz.prog.funcs[44]?).map fun fn => (fn.name != "runtime.NumGoroutine") && fn.body.isSome) = some true := by kernel_rfl
theorem cf48 : ((Tryz.prog.funcs[48]?).map fun fn => (fn.name != "runtime.NumGoroutine") && fn.body.isSome) = some true := by kernel_rfl
theorem cf49 : ((Tryz.prog.funcs[49]?).map fun fn => (fn.name != "runtime.NumGoroutine") && fn.body.isSome) = some true := by kernel_rfl
theorem cf54 : ((Tryz.prog.funcs[54]?).map fun fn => (fn.name != "runtime.NumGoroutine") && fn.body.isSome) = some true := by kernel_rfl
theorem cf56 : ((Tryz.prog.funcs[56]?).map fun fn => (fn.name != "runtime.NumGoroutine") && fn.body.isSome) = some true := by kernel_rfl
theorem cf61 : ((Tryz.prog.funcs[61]?).map fun fn => (fn.name != "runtime.NumGoroutine") && fn.body.isSome) = some true := by kernel_rfl
theorem cf62 : ((Tryz.prog.funcs[62]?).map fun fn => (fn.name != "runtime.NumGoroutine") && fn.body.isSome) = some true := by kernel_rfl
theorem cf63 : ((Tryz.prog.funcs[63]?).map fun fn => (fn.name != "runtime.NumGoroutine") && fn.body.isSome) = some true := by kernel_rfl
theorem cf64 : ((Tryz.prog.funcs[64]?).map fun fn => (fn.name != "runtime.NumGoroutine") && fn.body.isSome) = some true := by kernel_rfl
theorem cf65 : ((Tryz.prog.funcs[65]?).map fun fn => (fn.name != "runtime.NumGoroutine") && fn.body.isSome) = some true := by kernel_rfl
theorem cf66 : ((Tryz.prog.funcs[66]?).map fun fn => (fn.name != "runtime.NumGoroutine") && fn.body.isSome) = some true := by kernel_rfl
theorem cf67 : ((Tryz.prog.funcs[67]?).map fun fn => (fn.name != "runtime.NumGoroutine") && fn.body.isSome) = some true := by kernel_rfl
theorem cf68 : ((Tryz.prog.funcs[68]?).map fun fn => (fn.name != "runtime.NumGoroutine") && fn.body.isSome) = some true := by kernel_rfl
theorem cf69 : ((Tryz.prog.funcs[69]?).map fun fn => (fn.name != "runtime.NumGoroutine") && fn.body.isSome) = some true := by kernel_rfl
theorem cf76 : ((Tryz.prog.funcs[76]?).map fun fn => (fn.name != "runtime.NumGoroutine") && fn.body.isSome) = some true := by kernel_rfl
theorem cf77 : ((Tryz.prog.funcs[77]?).map fun fn => (fn.name != "runtime.NumGoroutine") && fn.body.isSome) = some true := by kernel_rfl
theorem cf79 : ((Tryz.prog.funcs[79]?).map fun fn => (fn.name != "runtime.NumGoroutine") && fn.body.isSome) = some true := by kernel_rfl
theorem cf80 : ((Tryz.prog.funcs[80]?).map fun fn => (fn.name != "runtime.NumGoroutine") && fn.body.isSome) = some true := by kernel_rfl
theorem cf81 : ((Tryz.prog.funcs[81]?).map fun fn => (fn.name != "runtime.NumGoroutine") && fn.body.isSome) = some true := by kernel_rfl
theorem cf82 : ((Tryz.prog.funcs[82]?).map fun fn => (fn.name != "runtime.NumGoroutine") && fn.body.isSome) = some true := by kernel_rfl
theorem cf83 : ((Tryz.prog.funcs[83]?).map fun fn => (fn.name != "runtime.NumGoroutine") && fn.body.isSome) = some true := by kernel_rfl
theorem cf85 : ((Tryz.prog.funcs[85]?).map fun fn => (fn.name != "runtime.NumGoroutine") && fn.body.isSome) = some true := by kernel_rfl
theorem cf86 : ((Tryz.prog.funcs[86]?).map fun fn => (fn.name != "runtime.NumGoroutine") && fn.body.isSome) = some true := by kernel_rfl
theorem cf88 : ((Tryz.prog.funcs[88]?).map fun fn => (fn.name != "runtime.NumGoroutine") && fn.body.isSome) = some true := by kernel_rfl
theorem cf89 : ((Tryz.prog.funcs[89]?).map fun fn => (fn.name != "runtime.NumGoroutine") && fn.body.isSome) = some true := by kernel_rfl
theorem cf90 : ((Tryz.prog.funcs[90]?).map fun fn => (fn.name != "runtime.NumGoroutine") && fn.body.isSome) = some true := by kernel_rfl
theorem cf91 : ((Tryz.prog.funcs[91]?).map fun fn => (fn.name != "runtime.NumGoroutine") && fn.body.isSome) = some true := by kernel_rfl
theorem cf93 : ((Tryz.prog.funcs[93]?).map fun fn => (fn.name != "runtime.NumGoroutine") && fn.body.isSome) = some true := by kernel_rfl
theorem cf94 : ((Tryz.prog.funcs[94]?).map fun fn => (fn.name != "runtime.NumGoroutine") && fn.body.isSome) = some true := by kernel_rfl
theorem cf95 : ((Tryz.prog.funcs[95]?).map fun fn => (fn.name != "runtime.NumGoroutine") && fn.body.isSome) = some true := by kernel_rfl
theorem cf97 : ((Tryz.prog.funcs[97]?).map fun fn => (fn.name != "runtime.NumGoroutine") && fn.body.isSome) = some true := by kernel_rfl
theorem cf98 : ((Tryz.prog.funcs[98]?).map fun fn => (fn.name != "runtime.NumGoroutine") && fn.body.isSome) = some true := by kernel_rfl
theorem cf99 : ((Tryz.prog.funcs[99]?).map fun fn => (fn.name != "runtime.NumGoroutine") && fn.body.isSome) = some true := by kernel_rfl
theorem cf100 : ((Tryz.prog.funcs[100]?).map fun fn => (fn.name != "runtime.NumGoroutine") && fn.body.isSome) = some true := by kernel_rfl
theorem cf101 : ((Tryz.prog.funcs[101]?).map fun fn => (fn.name != "runtime.NumGoroutine") && fn.body.isSome) = some true := by kernel_rfl
theorem cf102 : ((Tryz.prog.funcs[102]?).map fun fn => (fn.name != "runtime.NumGoroutine") && fn.body.isSome) = some true := by kernel_rfl
theorem cf103 : ((Tryz.prog.funcs[103]?).map fun fn => (fn.name != "runtime.NumGoroutine") && fn.body.isSome) = some true := by kernel_rfl
theorem cf104 : ((Tryz.prog.funcs[104]?).map fun fn => (fn.name != "runtime.NumGoroutine") && fn.body.isSome) = some true := by kernel_rfl
theorem cf110 : ((Tryz.prog.funcs[110]?).map fun fn => (fn.name != "runtime.NumGoroutine") && fn.body.isSome) = some true := by kernel_rfl
theorem cf112 : ((Tryz.prog.funcs[112]?).map fun fn => (fn.name != "runtime.NumGoroutine") && fn.body.isSome) = some true := by kernel_rfl
theorem cf113 : ((Tryz.prog.funcs[113]?).map fun fn => (fn.name != "runtime.NumGoroutine") && fn.body.isSome) = some true := by kernel_rfl
theorem cf114 : ((Tryz.prog.funcs[114]?).map fun fn => (fn.name != "runtime.NumGoroutine") && fn.body.isSome) = some true := by kernel_rfl
theorem cf115 : ((Tryz.prog.funcs[115]?).map fun fn => (fn.name != "runtime.NumGoroutine") && fn.body.isSome) = some true := by kernel_rfl
theorem cf116 : ((Tryz.prog.funcs[116]?).map fun fn => (fn.name != "runtime.NumGoroutine") && fn.body.isSome) = some true := by kernel_rfl
theorem cf117 : ((Tryz.prog.funcs[117]?).map fun fn => (fn.name != "runtime.NumGoroutine") && fn.body.isSome) = some true := by kernel_rfl
theorem cf118 : ((Tryz.prog.funcs[118]?).map fun fn => (fn.name != "runtime.NumGoroutine") && fn.body.isSome) = some true := by kernel_rfl
theorem cf119 : ((Tryz.prog.funcs[119]?).map fun fn => (fn.name != "runtime.NumGoroutine") && fn.body.isSome) = some true := by kernel_rfl
theorem cf120 : ((Tryz.prog.funcs[120]?).map fun fn => (fn.name != "runtime.NumGoroutine") && fn.body.isSome) = some true := by kernel_rfl
theorem cf121 : ((Tryz.prog.funcs[121]?).map fun fn => (fn.name != "runtime.NumGoroutine") && fn.body.isSome) = some true := by kernel_rfl
theorem cf122 : ((Tryz.prog.funcs[122]?).map fun fn => (fn.name != "runtime.NumGoroutine") && fn.body.isSome) = some true := by kernel_rfl
theorem cf123 : ((Tryz.prog.funcs[123]?).map fun fn => (fn.name != "runtime.NumGoroutine") && fn.body.isSome) = some true := by kernel_rfl
theorem cf125 : ((Tryz.prog.funcs[125]?).map fun fn => (fn.name != "runtime.NumGoroutine") && fn.body.isSome) = some true := by kernel_rfl
theorem cf126 : ((Tryz.prog.funcs[126]?).map fun fn => (fn.name != "runtime.NumGoroutine") && fn.body.isSome) = some true := by kernel_rfl
theorem cf128 : ((Tryz.prog.funcs[128]?).map fun fn => (fn.name != "runtime.NumGoroutine") && fn.body.isSome) = some true := by kernel_rfl
theorem cf129 : ((Tryz.prog.funcs[129]?).map fun fn => (fn.name != "runtime.NumGoroutine") && fn.body.isSome) = some true := by kernel_rfl
theorem cf130 : ((Tryz.prog.funcs[130]?).map fun fn => (fn.name != "runtime.NumGoroutine") && fn.body.isSome) = some true := by kernel_rfl
theorem cf132 : ((Tryz.prog.funcs[132]?).map fun fn => (fn.name != "runtime.NumGoroutine") && fn.body.isSome) = some true := by kernel_rfl
theorem cf133 : ((Tryz.prog.funcs[133]?).map fun fn => (fn.name != "runtime.NumGoroutine") && fn.body.isSome) = some true := by kernel_rfl
theorem cf134 : ((Tryz.prog.funcs[134]?).map fun fn => (fn.name != "runtime.NumGoroutine") && fn.body.isSome) = some true := by kernel_rfl
theorem cf135 : ((Tryz.prog.funcs[135]?).map fun fn => (fn.name != "runtime.NumGoroutine") && fn.body.isSome) = some true := by kernel_rfl
theorem cf136 : ((Tryz.prog.funcs[136]?).map fun fn => (fn.name != "runtime.NumGoroutine") && fn.body.isSome) = some true := by kernel_rfl
theorem cf137 : ((Tryz.prog.funcs[137]?).map fun fn => (fn.name != "runtime.NumGoroutine") && fn.body.isSome) = some true := by kernel_rfl
theorem cf138 : ((Tryz.prog.funcs[138]?).map fun fn => (fn.name != "runtime.NumGoroutine") && fn.body.isSome) = some true := by kernel_rfl
theorem cf139 : ((Tryz.prog.funcs[139]?).map fun fn => (fn.name != "runtime.NumGoroutine") && fn.body.isSome) = some true := by kernel_rfl
theorem cf140 : ((Tryz.prog.funcs[140]?).map fun fn => (fn.name != "runtime.NumGoroutine") && fn.body.isSome) = some true := by kernel_rfl
theorem cf141 : ((Tryz.prog.funcs[141]?).map fun fn => (fn.name != "runtime.NumGoroutine") && fn.body.isSome) = some true := by kernel_rfl
theorem cf142 : ((Tryz.prog.funcs[142]?).map fun fn => (fn.name != "runtime.NumGoroutine") && fn.body.isSome) = some true := by kernel_rfl
theorem cf143 : ((Tryz.prog.funcs[143]?).map fun fn => (fn.name != "runtime.NumGoroutine") && fn.body.isSome) = some true := by kernel_rfl
theorem cf144 : ((Tryz.prog.funcs[144]?).map fun fn => (fn.name != "runtime.NumGoroutine") && fn.body.isSome) = some true := by kernel_rfl
theorem cf145 : ((Tryz.prog.funcs[145]?).map fun fn => (fn.name != "runtime.NumGoroutine") && fn.body.isSome) = some true := by kernel_rfl
theorem cf146 : ((Tryz.prog.funcs[146]?).map fun fn => (fn.name != "runtime.NumGoroutine") && fn.body.isSome) = some true := by kernel_rfl
theorem cf147 : ((Tryz.prog.funcs[147]?).map fun fn => (fn.name != "runtime.NumGoroutine") && fn.body.isSome) = some true := by kernel_rfl
theorem cf148 : ((Tryz.prog.funcs[148]?).map fun fn => (fn.name != "runtime.NumGoroutine") && fn.body.isSome) = some true := by kernel_rfl
theorem cf149 : ((Tryz.prog.funcs[149]?).map fun fn => (fn.name != "runtime.NumGoroutine") && fn.body.isSome) = some true := by kernel_rfl
theorem cf150 : ((Tryz.prog.funcs[150]?).map fun fn => (fn.name != "runtime.NumGoroutine") && fn.body.isSome) = some true := by kernel_rfl
theorem cf151 : ((Tryz.prog.funcs[151]?).map fun fn => (fn.name != "runtime.NumGoroutine") && fn.body.isSome) = some true := by kernel_rfl
theorem cf152 : ((Tryz.prog.funcs[152]?).map fun fn => (fn.name != "runtime.NumGoroutine") && fn.body.isSome) = some true := by kernel_rfl
theorem cf153 : ((Tryz.prog.funcs[153]?).map fun fn => (fn.name != "runtime.NumGoroutine") && fn.body.isSome) = some true := by kernel_rfl
theorem cf154 : ((Tryz.prog.funcs[154]?).map fun fn => (fn.name != "runtime.NumGoroutine") && fn.body.isSome) = some true := by kernel_rfl
theorem cf155 : ((Tryz.prog.funcs[155]?).map fun fn => (fn.name != "runtime.NumGoroutine") && fn.body.isSome) = some true := by kernel_rfl
theorem cf156 : ((Tryz.prog.funcs[156]?).map fun fn => (fn.name != "runtime.NumGoroutine") && fn.body.isSome) = some true := by kernel_rfl
theorem cf157 : ((Tryz.prog.funcs[157]?).map fun fn => (fn.name != "runtime.NumGoroutine") && fn.body.isSome) = some true := by kernel_rfl
theorem cf158 : ((Tryz.prog.funcs[158]?).map fun fn => (fn.name != "runtime.NumGoroutine") && fn.body.isSome) = some true := by kernel_rfl
theorem cf159 : ((Tryz.prog.funcs[159]?).map fun fn => (fn.name != "runtime.NumGoroutine") && fn.body.isSome) = some true := by kernel_rfl
theorem cf160 : ((Tryz.prog.funcs[160]?).map fun fn => (fn.name != "runtime.NumGoroutine") && fn.body.isSome) = some true := by kernel_rfl
theorem cf161 : ((Tryz.prog.funcs[161]?).map fun fn => (fn.name != "runtime.NumGoroutine") && fn.body.isSome) = some true := by kernel_rfl
theorem cf162 : ((Tryz.prog.funcs[162]?).map fun fn => (fn.name != "runtime.NumGoroutine") && fn.body.isSome) = some true := by kernel_rfl
theorem cf163 : ((Tryz.prog.funcs[163]?).map fun fn => (fn.name != "runtime.NumGoroutine") && fn.body.isSome) = some true := by kernel_rfl
theorem cf164 : ((Tryz.prog.funcs[164]?).map fun fn => (fn.name != "runtime.NumGoroutine") && fn.body.isSome) = some true := by kernel_rfl
theorem cf165 : ((Tryz.prog.funcs[165]?).map fun fn => (fn.name != "runtime.NumGoroutine") && fn.body.isSome) = some true := by kernel_rfl
theorem cf166 : ((Tryz.prog.funcs[166]?).map fun fn => (fn.name != "runtime.NumGoroutine") && fn.body.isSome) = some true := by kernel_rfl
theorem cf167 : ((Tryz.prog.funcs[167]?).map fun fn => (fn.name != "runtime.NumGoroutine") && fn.body.isSome) = some true := by kernel_rfl
theorem cf168 : ((Tryz.prog.funcs[168]?).map fun fn => (fn.name != "runtime.NumGoroutine") && fn.body.isSome) = some true := by kernel_rfl
theorem cf169 : ((Tryz.prog.funcs[169]?).map fun fn => (fn.name != "runtime.NumGoroutine") && fn.body.isSome) = some true := by kernel_rfl
theorem cf170 : ((Tryz.prog.funcs[170]?).map fun fn => (fn.name != "runtime.NumGoroutine") && fn.body.isSome) = some true := by kernel_rfl
theorem cf171 : ((Tryz.prog.funcs[171]?).map fun fn => (fn.name != "runtime.NumGoroutine") && fn.body.isSome) = some true := by kernel_rfl
theorem cf172 : ((Tryz.prog.funcs[172]?).map fun fn => (fn.name != "runtime.NumGoroutine") && fn.body.isSome) = some true := by kernel_rfl
theorem one2 : oneTy Tryz.prog 2 := by unfold oneTy; kernel_rfl
theorem one3 : oneTy Tryz.prog 3 := by unfold oneTy; kernel_rfl
theorem one9 : oneTy Tryz.prog 9 := by unfold oneTy; kernel_rfl
theorem one22 : oneTy Tryz.prog 22 := by unfold oneTy; kernel_rfl
theorem one25 : oneTy Tryz.prog 25 := by unfold oneTy; kernel_rfl
theorem one30 : oneTy Tryz.prog 30 := by unfold oneTy; kernel_rfl
theorem one61 : oneTy Tryz.prog 61 := by unfold oneTy; kernel_rfl
theorem one78 : oneTy Tryz.prog 78 := by unfold oneTy; kernel_rfl
theorem one98 : oneTy Tryz.prog 98 := by unfold oneTy; kernel_rfl
theorem sz2 : (Tryz.prog.info? 2).map (·.size) = some 1 := by kernel_rfl
theorem sz9 : (Tryz.prog.info? 9).map (·.size) = some 1 := by kernel_rfl
theorem sz30 : (Tryz.prog.info? 30).map (·.size) = some 1 := by kernel_rfl
theorem sz78 : (Tryz.prog.info? 78).map (·.size) = some 1 := by kernel_rfl
theorem ti2 : TI Tryz.prog 2 1 (.int .i64 0) 8 := by unfold TI; kernel_rfl
theorem ti5 : TI Tryz.prog 5 1 (.int .u8 0) 1 := by unfold TI; kernel_rfl
theorem ti25 : TI Tryz.prog 25 1 (.slice none 0 0) 24 := by unfold TI; kernel_rfl
theorem u2 : Tryz.prog.underlying 2 = some (.int .i64) := by kernel_rfl
theorem u3 : Tryz.prog.underlying 3 = some (.int .i64) := by kernel_rfl
theorem u4 : Tryz.prog.underlying 4 = some (.bool) := by kernel_rfl
theorem u5 : Tryz.prog.underlying 5 = some (.int .u8) := by kernel_rfl
theorem u9 : Tryz.prog.underlying 9 = some (.string) := by kernel_rfl
theorem u22 : Tryz.prog.underlying 22 = some (.slice 100) := by kernel_rfl
theorem u25 : Tryz.prog.underlying 25 = some (.slice 2) := by kernel_rfl
theorem u27 : Tryz.prog.underlying 27 = some (.slice 25) := by kernel_rfl
theorem u30 : Tryz.prog.underlying 30 = some (.slice 80) := by kernel_rfl
theorem u50 : Tryz.prog.underlying 50 = some (.slice 5) := by kernel_rfl
theorem u78 : Tryz.prog.underlying 78 = some (.slice 94) := by kernel_rfl
theorem u98 : Tryz.prog.underlying 98 = some (.slice 160) := by kernel_rfl
theorem agg24 : aggTy Tryz.prog 24 1 = true := by kernel_rfl
theorem fd24_0 : fdO Tryz.prog 24 0 0 = true := by kernel_rfl
theorem agg32 : aggTy Tryz.prog 32 1 = true := by kernel_rfl
theorem zr32 : (Tryz.prog.info? 32).map (·.zero) = some (some (.agg #[.slice none 0 0])) := by kernel_rfl
theorem fd32_0 : fdO Tryz.prog 32 0 0 = true := by kernel_rfl
theorem agg80 : aggTy Tryz.prog 80 3 = true := by kernel_rfl
theorem zr80 : (Tryz.prog.info? 80).map (·.zero) = some (some (.agg #[.string ByteArray.empty, .int .i64 0, .slice none 0 0])) := by kernel_rfl
theorem tiS80 : TI Tryz.prog 80 3 (.agg #[.string ByteArray.empty, .int .i64 0, .slice none 0 0]) 48 := by unfold TI; kernel_rfl
theorem fd80_0 : fdO Tryz.prog 80 0 0 = true := by kernel_rfl
theorem fd80_1 : fdO Tryz.prog 80 1 1 = true := by kernel_rfl
theorem fd80_2 : fdO Tryz.prog 80 2 2 = true := by kernel_rfl
theorem agg94 : aggTy Tryz.prog 94 5 = true := by kernel_rfl
theorem zr94 : (Tryz.prog.info? 94).map (·.zero) = some (some (.agg #[.int .i64 0, .int .i64 0, .int .i64 0, .int .i64 0, .slice none 0 0])) := by kernel_rfl
theorem tiS94 : TI Tryz.prog 94 5 (.agg #[.int .i64 0, .int .i64 0, .int .i64 0, .int .i64 0, .slice none 0 0]) 56 := by unfold TI; kernel_rfl
theorem fd94_0 : fdO Tryz.prog 94 0 0 = true := by kernel_rfl
theorem fd94_1 : fdO Tryz.prog 94 1 1 = true := by kernel_rfl
theorem fd94_2 : fdO Tryz.prog 94 2 2 = true := by kernel_rfl
theorem fd94_3 : fdO Tryz.prog 94 3 3 = true := by kernel_rfl
theorem fd94_4 : fdO Tryz.prog 94 4 4 = true := by kernel_rfl
theorem agg100 : aggTy Tryz.prog 100 3 = true := by kernel_rfl
theorem tiS100 : TI Tryz.prog 100 3 (.agg #[.string ByteArray.empty, .int .i64 0, .slice none 0 0]) 48 := by unfold TI; kernel_rfl
theorem fd100_0 : fdO Tryz.prog 100 0 0 = true := by kernel_rfl
theorem fd100_1 : fdO Tryz.prog 100 1 1 = true := by kernel_rfl
theorem fd100_2 : fdO Tryz.prog 100 2 2 = true := by kernel_rfl
theorem fd123_0 : fdO Tryz.prog 123 0 0 = true := by kernel_rfl
theorem fd123_1 : fdO Tryz.prog 123 1 1 = true := by kernel_rfl
theorem fd123_2 : fdO Tryz.prog 123 2 2 = true := by kernel_rfl
theorem fd123_3 : fdO Tryz.prog 123 3 3 = true := by kernel_rfl
theorem fd128_0 : fdO Tryz.prog 128 0 0 = true := by kernel_rfl
theorem fd128_1 : fdO Tryz.prog 128 1 1 = true := by kernel_rfl
theorem fd128_2 : fdO Tryz.prog 128 2 2 = true := by kernel_rfl
theorem fd128_3 : fdO Tryz.prog 128 3 3 = true := by kernel_rfl
theorem agg160 : aggTy Tryz.prog 160 5 = true := by kernel_rfl
theorem tiS160 : TI Tryz.prog 160 5 (.agg #[.int .i64 0, .int .i64 0, .int .i64 0, .int .i64 0, .slice none 0 0]) 56 := by unfold TI; kernel_rfl
theorem fd160_0 : fdO Tryz.prog 160 0 0 = true := by kernel_rfl
theorem fd160_1 : fdO Tryz.prog 160 1 1 = true := by kernel_rfl
theorem fd160_2 : fdO Tryz.prog 160 2 2 = true := by kernel_rfl
theorem fd160_3 : fdO Tryz.prog 160 3 3 = true := by kernel_rfl
theorem fd160_4 : fdO Tryz.prog 160 4 4 = true := by kernel_rfl
theorem agg166 : aggTy Tryz.prog 166 2 = true := by kernel_rfl
theorem fd166_0 : fdO Tryz.prog 166 0 0 = true := by kernel_rfl
theorem fd166_1 : fdO Tryz.prog 166 1 1 = true := by kernel_rfl
end Go.Proofs.YtnofbmdpabcjaaaGreat
namespace Go.Proofs.YtnofbmdpabcjaaaGreat
open Go Go.RowKit
set_option linter.unusedVariables false
set_option linter.unusedSimpArgs false
set_option maxHeartbeats 4000000
set_option maxRecDepth 100000
attribute [local irreducible] LW
theorem c_impl_within (w : World) (n : Int) (low : Int) (high : Int) (_hn : -9223372036854775808 ≤ n ∧ n ≤ 9223372036854775807) (_hlow : -9223372036854775808 ≤ low ∧ low ≤ 9223372036854775807) (_hhigh : -9223372036854775808 ≤ high ∧ high ≤ 9223372036854775807)  :
  Calls Tryz.prog 68 #[.int .i64 n,.int .i64 low,.int .i64 high] w (fun e w' => e = .returned (.bool (decide (low ≤ n) && decide (n ≤ high))) ∧ w' = w) := by
 refine calls_mk [.int .i64 n,.int .i64 low,.int .i64 high] 15 Tryz.func68 rfl rfl sM ?_
 have hE0 : w = w := rfl
 refine wp_seq (wp_plain _ [0] rfl (lw_tvn 1 rfl (wp_seq (wp_plain _ [0,0,0,0,0,0,0,0,0] rfl (lw_tv 2 rfl ?_)))))
 by_cases hc1 : low ≤ n
 ·
  exact q_geq true rfl rfl (decide_eq_true hc1) zN (lw_tv 3 rfl (q_leq (decide (n ≤ high)) rfl rfl rfl (zS (e := 10) rfl rfl rfl) (lw_tvn 2 rfl (wp_ret (post_ret [6] rfl (.bool (decide (n ≤ high))) rfl ⟨(ret_bool (by simp [*])),hE0⟩)))))
 ·
  exact q_geq false rfl rfl (decide_eq_false hc1) zN (lw_tvn 6 rfl (wp_ret (post_ret [6] rfl (.bool false) rfl ⟨(ret_bool (by simp [*])),hE0⟩)))
theorem c_spec_l00In (w : World) (n : Int) (low : Int) (high : Int) (_hn : -9223372036854775808 ≤ n ∧ n ≤ 9223372036854775807) (_hlow : -9223372036854775808 ≤ low ∧ low ≤ 9223372036854775807) (_hhigh : -9223372036854775808 ≤ high ∧ high ≤ 9223372036854775807)  :
  Calls Tryz.prog 63 #[.int .i64 n,.int .i64 low,.int .i64 high] w (fun e w' => e = .returned (.bool (decide (low ≤ n) && decide (n ≤ high))) ∧ w' = w) := by
 refine calls_mk [.int .i64 n,.int .i64 low,.int .i64 high] 15 Tryz.func63 rfl rfl sM ?_
 have hE0 : w = w := rfl
 refine wp_seq (wp_plain _ [0] rfl (lw_tvn 1 rfl (wp_seq (wp_plain _ [0,0,0,0,0,0,0,0,0] rfl (lw_tv 2 rfl ?_)))))
 by_cases hc1 : low ≤ n
 ·
  exact q_geq true rfl rfl (decide_eq_true hc1) zN (lw_tv 3 rfl (q_leq (decide (n ≤ high)) rfl rfl rfl (zS (e := 10) rfl rfl rfl) (lw_tvn 2 rfl (wp_ret (post_ret [6] rfl (.bool (decide (n ≤ high))) rfl ⟨(ret_bool (by simp [*])),hE0⟩)))))
 ·
  exact q_geq false rfl rfl (decide_eq_false hc1) zN (lw_tvn 6 rfl (wp_ret (post_ret [6] rfl (.bool false) rfl ⟨(ret_bool (by simp [*])),hE0⟩)))
theorem c_impl_Residue (w : World) (n : Int) (_hn : -9223372036854775808 ≤ n ∧ n ≤ 9223372036854775807)  :
  Calls Tryz.prog 166 #[.int .i64 n] w (fun e w' => e = .returned (.int .i64 (md n)) ∧ w' = w) := by
 refine calls_mk [.int .i64 n] 7 Tryz.func166 rfl rfl sM ?_
 have hE0 : w = w := rfl
 exact wp_seq (wp_plain _ [0] rfl (lw_tvn 1 rfl (wp_seq (wp_plain _ [0,0,0,0,0] rfl (lw_tv 1 rfl (q_rem (n.tmod 1000003) rfl rfl (by decide) rfl zN (q_add (wr ((n.tmod 1000003) + ((1000003 :Nat):Int))) rfl rfl rfl zN (q_rem ((wr ((n.tmod 1000003) + ((1000003 :Nat):Int))).tmod 1000003) rfl rfl (by decide) rfl zN (lw_tvn 1 rfl (wp_ret (post_ret [2] rfl (.int .i64 ((wr ((n.tmod 1000003) + ((1000003 :Nat):Int))).tmod 1000003)) rfl ⟨(ret_int (res_eq n)),hE0⟩)))))))))))
theorem c_impl_Plus (w : World) (a : Int) (b : Int) (_ha : -9223372036854775808 ≤ a ∧ a ≤ 9223372036854775807) (_hb : -9223372036854775808 ≤ b ∧ b ≤ 9223372036854775807)  :
  Calls Tryz.prog 172 #[.int .i64 a,.int .i64 b] w (fun e w' => e = .returned (.int .i64 (md (a + b))) ∧ w' = w) := by
 refine calls_mk [.int .i64 a,.int .i64 b] 11 Tryz.func172 rfl rfl sM ?_
 have hE0 : w = w := rfl
 exact wp_seq (wp_plain _ [0] rfl (lw_tvn 1 rfl (wp_seq (wp_plain _ [0,0,0,0,0,0,0] rfl (lw_tv 1 rfl (lw_callq 166 [] [] [(.int .i64 a)] rfl rfl cf166 zN (.int .i64 (md a)) (fun wq => c_impl_Residue wq _ _ha) (lw_tv 1 rfl (lw_callq 166 [] [] [(.int .i64 b)] rfl rfl cf166 zN (.int .i64 (md b)) (fun wq => c_impl_Residue wq _ _hb) (q_add (wr ((md a) + (md b))) rfl rfl rfl zN (q_rem ((wr ((md a) + (md b))).tmod 1000003) rfl rfl (by decide) rfl zN (lw_tvn 1 rfl (wp_ret (post_ret [4] rfl (.int .i64 ((wr ((md a) + (md b))).tmod 1000003)) rfl ⟨(ret_int (plus_eq a b)),hE0⟩)))))))))))))
theorem c_impl_minus (w : World) (a : Int) (b : Int) (_ha : -9223372036854775808 ≤ a ∧ a ≤ 9223372036854775807) (_hb : -9223372036854775808 ≤ b ∧ b ≤ 9223372036854775807)  :
  Calls Tryz.prog 169 #[.int .i64 a,.int .i64 b] w (fun e w' => e = .returned (.int .i64 (md (a - b))) ∧ w' = w) := by
 refine calls_mk [.int .i64 a,.int .i64 b] 10 Tryz.func169 rfl rfl sM ?_
 have hE0 : w = w := rfl
 exact wp_seq (wp_plain _ [0] rfl (lw_tvn 1 rfl (wp_seq (wp_plain _ [0,0,0,0,0,0] rfl (lw_tv 2 rfl (lw_callq 166 [] [] [(.int .i64 b)] rfl rfl cf166 zN (.int .i64 (md b)) (fun wq => c_impl_Residue wq _ _hb) (q_sub (wr (((1000003 :Nat):Int) - (md b))) rfl rfl rfl zN (lw_callq 172 [] [] [(.int .i64 a),(.int .i64 (wr (((1000003 :Nat):Int) - (md b))))] rfl rfl cf172 zN (.int .i64 (md (a + (wr (((1000003 :Nat):Int) - (md b)))))) (fun wq => c_impl_Plus wq _ _ _ha (wr_rng _)) (lw_tvn 1 rfl (wp_ret (post_ret [4] rfl (.int .i64 (md (a + (wr (((1000003 :Nat):Int) - (md b)))))) rfl ⟨(ret_int (minus_eq a b)),hE0⟩)))))))))))
theorem sres_a (n : Int) (h : n.tmod 1000003 < ((0 : Nat) : Int)) : wr (n.tmod 1000003 + ((1000003 : Nat) : Int)) = md n := by
  have h1 := md_nonneg n; have h2 := md_lt n; have h3 := md_nonneg (-n); have h4 := md_lt (-n)
  rw [tm n] at h ⊢
  split at h
  · omega
  · rename_i h0
    rw [if_neg h0, wr_of (by omega) (by omega)]
    have e1 : md (-(md (-n)) + ((1000003 : Nat) : Int)) = md (-(md (-n))) := md_P _
    rw [md_neg, Int.neg_neg, md_of (by omega) (by omega)] at e1
    exact e1
theorem sres_b (n : Int) (h : ¬ n.tmod 1000003 < ((0 : Nat) : Int)) : n.tmod 1000003 = md n := by
  have h1 := md_nonneg n; have h2 := md_lt n; have h3 := md_nonneg (-n); have h4 := md_lt (-n)
  rw [tm n] at h ⊢
  split
  · rfl
  · rename_i h0
    rw [if_neg h0] at h
    have e0 : md (-n) = 0 := by omega
    have e1 := md_neg (-n)
    rw [e0, Int.neg_neg] at e1
    rw [e0, ← e1]
    rfl
theorem z128_0 {p : Prop} (h : p := by first | exact ret_int (sres_a n (by assumption)) | exact ret_int (sres_b n (by assumption))) : p := h
theorem c_spec_Residue (w : World) (n : Int) (_hn : -9223372036854775808 ≤ n ∧ n ≤ 9223372036854775807)  :
  Calls Tryz.prog 128 #[.int .i64 n] w (fun e w' => e = .returned (.int .i64 (md n)) ∧ w' = w) := by
 refine calls_mk [.int .i64 n] 11 Tryz.func128 rfl rfl sM ?_
 have hE0 : w = w := rfl
 refine wp_seq (wp_plain _ [0] rfl (lw_tvn 1 rfl (wp_seq (wp_plain _ [0,0,0] rfl (lw_tv 1 rfl (q_rem (n.tmod 1000003) rfl rfl (by decide) rfl zN (lw_tvn 1 rfl (wp_seq (wp_seq (wp_plain _ [0,0] rfl (lw_tv 1 rfl ?_)))))))))))
 by_cases hc1 : n.tmod 1000003 < ((0 :Nat):Int)
 ·
  exact q_lss true rfl rfl (decide_eq_true hc1) zN (lw_nil (c_cond_t rfl (wp_plain _ [0,0,0] rfl (lw_tv 1 rfl (q_add (wr ((n.tmod 1000003) + ((1000003 :Nat):Int))) rfl rfl rfl zN (lw_tvn 1 rfl (wp_seq (wp_plain _ [0,0] rfl (lw_tvn 2 rfl (wp_ret (post_ret [2] rfl (.int .i64 (wr ((n.tmod 1000003) + ((1000003 :Nat):Int)))) rfl ⟨z128_0,hE0⟩)))))))))))
 ·
  exact q_lss false rfl rfl (decide_eq_false hc1) zN (lw_nil (c_cond_f rfl (wp_skip (wp_seq (wp_plain _ [0,0] rfl (lw_tvn 2 rfl (wp_ret (post_ret [2] rfl (.int .i64 (n.tmod 1000003)) rfl ⟨z128_0,hE0⟩))))))))
theorem c_spec_Plus (w : World) (a : Int) (b : Int) (_ha : -9223372036854775808 ≤ a ∧ a ≤ 9223372036854775807) (_hb : -9223372036854775808 ≤ b ∧ b ≤ 9223372036854775807)  :
  Calls Tryz.prog 167 #[.int .i64 a,.int .i64 b] w (fun e w' => e = .returned (.int .i64 (md (a + b))) ∧ w' = w) := by
 refine calls_mk [.int .i64 a,.int .i64 b] 11 Tryz.func167 rfl rfl sM ?_
 have hE0 : w = w := rfl
 exact wp_seq (wp_plain _ [0] rfl (lw_tvn 1 rfl (wp_seq (wp_plain _ [0,0,0,0,0,0,0] rfl (lw_tv 1 rfl (lw_callq 128 [] [] [(.int .i64 a)] rfl rfl cf128 zN (.int .i64 (md a)) (fun wq => c_spec_Residue wq _ _ha) (lw_tv 1 rfl (lw_callq 128 [] [] [(.int .i64 b)] rfl rfl cf128 zN (.int .i64 (md b)) (fun wq => c_spec_Residue wq _ _hb) (q_add (wr ((md a) + (md b))) rfl rfl rfl zN (q_rem ((wr ((md a) + (md b))).tmod 1000003) rfl rfl (by decide) rfl zN (lw_tvn 1 rfl (wp_ret (post_ret [4] rfl (.int .i64 ((wr ((md a) + (md b))).tmod 1000003)) rfl ⟨(ret_int (plus_eq a b)),hE0⟩)))))))))))))
theorem c_spec_Times (w : World) (a : Int) (b : Int) (_ha : -9223372036854775808 ≤ a ∧ a ≤ 9223372036854775807) (_hb : -9223372036854775808 ≤ b ∧ b ≤ 9223372036854775807)  :
  Calls Tryz.prog 94 #[.int .i64 a,.int .i64 b] w (fun e w' => e = .returned (.int .i64 (md (a * b))) ∧ w' = w) := by
 refine calls_mk [.int .i64 a,.int .i64 b] 11 Tryz.func94 rfl rfl sM ?_
 have hE0 : w = w := rfl
 exact wp_seq (wp_plain _ [0] rfl (lw_tvn 1 rfl (wp_seq (wp_plain _ [0,0,0,0,0,0,0] rfl (lw_tv 1 rfl (lw_callq 128 [] [] [(.int .i64 a)] rfl rfl cf128 zN (.int .i64 (md a)) (fun wq => c_spec_Residue wq _ _ha) (lw_tv 1 rfl (lw_callq 128 [] [] [(.int .i64 b)] rfl rfl cf128 zN (.int .i64 (md b)) (fun wq => c_spec_Residue wq _ _hb) (q_mul (wr ((md a) * (md b))) rfl rfl rfl zN (q_rem ((wr ((md a) * (md b))).tmod 1000003) rfl rfl (by decide) rfl zN (lw_tvn 1 rfl (wp_ret (post_ret [4] rfl (.int .i64 ((wr ((md a) * (md b))).tmod 1000003)) rfl ⟨(ret_int (times_eq a b)),hE0⟩)))))))))))))
theorem c_spec_l01Minus (w : World) (a : Int) (b : Int) (_ha : -9223372036854775808 ≤ a ∧ a ≤ 9223372036854775807) (_hb : -9223372036854775808 ≤ b ∧ b ≤ 9223372036854775807) (hs : -9223372036854775808 ≤ a - b ∧ a - b ≤ 9223372036854775807) :
  Calls Tryz.prog 168 #[.int .i64 a,.int .i64 b] w (fun e w' => e = .returned (.int .i64 (md (a - b))) ∧ w' = w) := by
 refine calls_mk [.int .i64 a,.int .i64 b] 9 Tryz.func168 rfl rfl sM ?_
 have hE0 : w = w := rfl
 exact wp_seq (wp_plain _ [0] rfl (lw_tvn 1 rfl (wp_seq (wp_plain _ [0,0,0,0,0] rfl (lw_tv 2 rfl (q_sub (wr (a - b)) rfl rfl rfl zN (lw_callq 128 [] [] [(.int .i64 (wr (a - b)))] rfl rfl cf128 zN (.int .i64 (md (wr (a - b)))) (fun wq => c_spec_Residue wq _ (wr_rng _)) (lw_tvn 1 rfl (wp_ret (post_ret [4] rfl (.int .i64 (md (wr (a - b)))) rfl ⟨(ret_int (by rw [wr_of hs.1 hs.2])),hE0⟩))))))))))
theorem z132_0 {p : Prop} (h : p := by exact ⟨by omega, by first | exact pw_odd hI.2 oM (by assumption) | exact pw_even hI.2 oM (by assumption)⟩) : p := h
theorem c_spec_Power (w : World) (a : Int) (n : Int) (_ha : -9223372036854775808 ≤ a ∧ a ≤ 9223372036854775807) (_hn : -9223372036854775808 ≤ n ∧ n ≤ 9223372036854775807)  :
  Calls Tryz.prog 132 #[.int .i64 a,.int .i64 n] w (fun e w' => e = .returned (.int .i64 (pw a n)) ∧ w' = w) := by
 refine calls_mk [.int .i64 a,.int .i64 n] 25 Tryz.func132 rfl rfl sM ?_
 have hE0 : w = w := rfl
 refine wp_seq (wp_plain _ [0] rfl (lw_tvn 1 rfl (wp_seq (wp_seq (wp_plain _ [0,0] rfl (lw_tv 1 rfl ?_))))))
 by_cases hc1 : n < ((0 :Nat):Int)
 ·
  exact q_lss true rfl rfl (decide_eq_true hc1) zN (lw_nil (c_cond_t rfl (wp_seq (wp_plain _ [0] rfl (lw_tvn 1 rfl (wp_ret (t_ret (post_ret [4] rfl (.int .i64 ((0 :Nat):Int)) rfl ⟨(ret_int (pw_neg (by assumption))),hE0⟩))))))))
 ·
  refine q_lss false rfl rfl (decide_eq_false hc1) zN (lw_nil (c_cond_f rfl (wp_skip (wp_seq (wp_plain _ [0] rfl (lw_tvn 1 rfl (wp_seq (wp_plain _ [0,0,0] rfl (lw_tv 1 rfl (lw_callq 128 [] [] [(.int .i64 a)] rfl rfl cf128 zN (.int .i64 (md a)) (fun wq => c_spec_Residue wq _ _ha) (lw_tvn 1 rfl (wp_seq (wp_block ?_)))))))))))))
  refine c_loop (S := Int × Int × Int) (fun (⟨m,x,b⟩ : Int × Int × Int) => ([(1,(.int .i64 m)),(5,(.int .i64 x)),(6,(.int .i64 b))] : List (Nat × Value))) (fun (⟨m,x,b⟩ : Int × Int × Int) (W : World) => W = w ∧ (0 ≤ m ∧ md (x * b ^ m.toNat) = md (a ^ n.toNat)) ∧ m ≤ 9223372036854775807 ∧ (0 ≤ x ∧ x < 1000003) ∧ (0 ≤ b ∧ b < 1000003)) (fun (⟨m,x,b⟩ : Int × Int × Int) => m.toNat) (n,((1 :Nat):Int),(md a)) ⟨rfl,rfl,rfl,trivial⟩ ⟨hE0,(by exact ⟨by omega,pw_start a n.toNat⟩),oM,oM,(by exact md_num _)⟩ ?_
  clear hE0
  rintro ⟨m,x,b⟩ ρ3 w3 ⟨hE3,hI,hm,hx,hb⟩
  refine wp_seq (wp_seq (wp_plain _ [0,0] rfl (lw_tv 1 rfl ?_)))
  by_cases hc4 : ((0 :Nat):Int) < m
  ·
   refine q_gtr true rfl rfl (decide_eq_true hc4) zN (lw_nil (c_cond_t rfl (wp_skip (wp_block (wp_seq (wp_seq (wp_plain _ [0,0,0] rfl (lw_tv 1 rfl (q_rem (m % 2) rfl rfl (by decide) (tm2 hI.1) zN ?_)))))))))
   by_cases hc5 : m % 2 = ((1 :Nat):Int)
   ·
    refine q_eql true rfl rfl (decide_eq_true hc5) zN (lw_nil (c_cond_t rfl (wp_plain _ [0,0,0,0] rfl (lw_tv 2 rfl (lw_callq 94 [] [] [(.int .i64 x),(.int .i64 b)] rfl rfl cf94 zN (.int .i64 (md (x * b))) (fun wq => c_spec_Times wq _ _ oM oM) (lw_tvn 1 rfl (wp_seq (wp_plain _ [0,0,0,0] rfl (lw_tv 2 rfl (lw_callq 94 [] [] [(.int .i64 b),(.int .i64 b)] rfl rfl cf94 zN (.int .i64 (md (b * b))) (fun wq => c_spec_Times wq _ _ oM oM) (lw_tvn 1 rfl (wp_plain _ [0,0,0] rfl (lw_tv 1 rfl (q_quo (m / 2) rfl rfl (by decide) (td2 hI.1 hm) zN (lw_tvn 1 rfl ?_)))))))))))))))
    exact ⟨((m / 2),(md (x * b)),(md (b * b))),_,rfl,⟨rfl,rfl,rfl,trivial⟩,⟨hE3,z132_0,oM,(by first | exact hx | exact md_num _),(by exact md_num _)⟩,by first | omega | (dsimp only; omega)⟩
   ·
    exact q_eql false rfl rfl (decide_eq_false hc5) zN (lw_nil (c_cond_f rfl (wp_skip (wp_seq (wp_plain _ [0,0,0,0] rfl (lw_tv 2 rfl (lw_callq 94 [] [] [(.int .i64 b),(.int .i64 b)] rfl rfl cf94 zN (.int .i64 (md (b * b))) (fun wq => c_spec_Times wq _ _ oM oM) (lw_tvn 1 rfl (wp_plain _ [0,0,0] rfl (lw_tv 1 rfl (q_quo (m / 2) rfl rfl (by decide) (td2 hI.1 hm) zN (lw_tvn 1 rfl ⟨((m / 2),x,(md (b * b))),_,rfl,⟨rfl,rfl,rfl,trivial⟩,⟨hE3,z132_0,oM,(by first | exact hx | exact md_num _),(by exact md_num _)⟩,by first | omega | (dsimp only; omega)⟩))))))))))))
  ·
   exact q_gtr false rfl rfl (decide_eq_false hc4) zN (lw_nil (c_cond_f rfl (wp_exit (t_exit (t_exit (c_exit_here (wp_seq (wp_plain _ [0,0] rfl (lw_tvn 2 rfl (wp_ret (post_ret [4] rfl (.int .i64 x) rfl ⟨(ret_int (pw_end hI.2 hI.1 (by assumption) (by assumption) hx)),hE3⟩)))))))))))
theorem z147_0 {p : Prop} (h : p := by exact ⟨by omega, by first | exact pw_odd hI.2 oM (by assumption) | exact pw_even hI.2 oM (by assumption)⟩) : p := h
theorem c_impl_Power (w : World) (a : Int) (n : Int) (_ha : -9223372036854775808 ≤ a ∧ a ≤ 9223372036854775807) (_hn : -9223372036854775808 ≤ n ∧ n ≤ 9223372036854775807)  :
  Calls Tryz.prog 147 #[.int .i64 a,.int .i64 n] w (fun e w' => e = .returned (.int .i64 (pw a n)) ∧ w' = w) := by
 refine calls_mk [.int .i64 a,.int .i64 n] 27 Tryz.func147 rfl rfl sM ?_
 have hE0 : w = w := rfl
 refine wp_seq (wp_plain _ [0] rfl (lw_tvn 1 rfl (wp_seq (wp_seq (wp_plain _ [0,0] rfl (lw_tv 1 rfl ?_))))))
 by_cases hc1 : n < ((0 :Nat):Int)
 ·
  exact q_lss true rfl rfl (decide_eq_true hc1) zN (lw_nil (c_cond_t rfl (wp_seq (wp_plain _ [0] rfl (lw_tvn 1 rfl (wp_ret (t_ret (post_ret [4] rfl (.int .i64 ((0 :Nat):Int)) rfl ⟨(ret_int (pw_neg (by assumption))),hE0⟩))))))))
 ·
  refine q_lss false rfl rfl (decide_eq_false hc1) zN (lw_nil (c_cond_f rfl (wp_skip (wp_seq (wp_plain _ [0] rfl (lw_tvn 1 rfl (wp_seq (wp_seq (wp_plain _ [0,0,0] rfl (lw_tv 1 rfl (lw_callq 166 [] [] [(.int .i64 a)] rfl rfl cf166 zN (.int .i64 (md a)) (fun wq => c_impl_Residue wq _ _ha) (lw_tvn 1 rfl (wp_block ?_)))))))))))))
  refine c_loop (S := Int × Int × Int) (fun (⟨m,x,b⟩ : Int × Int × Int) => ([(1,(.int .i64 m)),(5,(.int .i64 x)),(6,(.int .i64 b))] : List (Nat × Value))) (fun (⟨m,x,b⟩ : Int × Int × Int) (W : World) => W = w ∧ (0 ≤ m ∧ md (x * b ^ m.toNat) = md (a ^ n.toNat)) ∧ m ≤ 9223372036854775807 ∧ (0 ≤ x ∧ x < 1000003) ∧ (0 ≤ b ∧ b < 1000003)) (fun (⟨m,x,b⟩ : Int × Int × Int) => m.toNat) (n,((1 :Nat):Int),(md a)) ⟨rfl,rfl,rfl,trivial⟩ ⟨hE0,(by exact ⟨by omega,pw_start a n.toNat⟩),oM,oM,(by exact md_num _)⟩ ?_
  clear hE0
  rintro ⟨m,x,b⟩ ρ3 w3 ⟨hE3,hI,hm,hx,hb⟩
  refine wp_seq (wp_seq (wp_plain _ [0,0] rfl (lw_tv 1 rfl ?_)))
  by_cases hc4 : ((0 :Nat):Int) < m
  ·
   refine q_gtr true rfl rfl (decide_eq_true hc4) zN (lw_nil (c_cond_t rfl (wp_skip (wp_seq (wp_block (wp_seq (wp_seq (wp_plain _ [0,0,0] rfl (lw_tv 1 rfl (q_rem (m % 2) rfl rfl (by decide) (tm2 hI.1) zN ?_))))))))))
   by_cases hc5 : m % 2 = ((1 :Nat):Int)
   ·
    refine q_eql true rfl rfl (decide_eq_true hc5) zN (lw_nil (c_cond_t rfl (wp_plain _ [0,0,0,0,0] rfl (lw_tv 2 rfl (q_mul (wr (x * b)) rfl rfl rfl zN (q_rem (md (x * b)) rfl rfl (by decide) (nm_eq hx hb) zN (lw_tvn 1 rfl (wp_plain _ [0,0,0,0,0] rfl (lw_tv 2 rfl (q_mul (wr (b * b)) rfl rfl rfl zN (q_rem (md (b * b)) rfl rfl (by decide) (nm_eq hb hb) zN (lw_tvn 1 rfl (wp_plain _ [0,0,0] rfl (lw_tv 1 rfl (q_quo (m / 2) rfl rfl (by decide) (td2 hI.1 hm) zN (lw_tvn 1 rfl ?_))))))))))))))))
    exact ⟨((m / 2),(md (x * b)),(md (b * b))),_,rfl,⟨rfl,rfl,rfl,trivial⟩,⟨hE3,z147_0,oM,(by first | exact hx | exact md_num _),(by exact md_num _)⟩,by first | omega | (dsimp only; omega)⟩
   ·
    exact q_eql false rfl rfl (decide_eq_false hc5) zN (lw_nil (c_cond_f rfl (wp_skip (wp_plain _ [0,0,0,0,0] rfl (lw_tv 2 rfl (q_mul (wr (b * b)) rfl rfl rfl zN (q_rem (md (b * b)) rfl rfl (by decide) (nm_eq hb hb) zN (lw_tvn 1 rfl (wp_plain _ [0,0,0] rfl (lw_tv 1 rfl (q_quo (m / 2) rfl rfl (by decide) (td2 hI.1 hm) zN (lw_tvn 1 rfl ⟨((m / 2),x,(md (b * b))),_,rfl,⟨rfl,rfl,rfl,trivial⟩,⟨hE3,z147_0,oM,(by first | exact hx | exact md_num _),(by exact md_num _)⟩,by first | omega | (dsimp only; omega)⟩))))))))))))
  ·
   exact q_gtr false rfl rfl (decide_eq_false hc4) zN (lw_nil (c_cond_f rfl (wp_exit (t_exit (t_exit (c_exit_here (wp_seq (wp_plain _ [0,0] rfl (lw_tvn 2 rfl (wp_ret (post_ret [4] rfl (.int .i64 x) rfl ⟨(ret_int (pw_end hI.2 hI.1 (by assumption) (by assumption) hx)),hE3⟩)))))))))))
theorem c_spec_l01Inv (w : World) (a : Int) (_ha : -9223372036854775808 ≤ a ∧ a ≤ 9223372036854775807)  :
  Calls Tryz.prog 98 #[.int .i64 a] w (fun e w' => e = .returned (.int .i64 (inv a)) ∧ w' = w) := by
 refine calls_mk [.int .i64 a] 5 Tryz.func98 rfl rfl sM ?_
 have hE0 : w = w := rfl
 exact wp_seq (wp_plain _ [0] rfl (lw_tvn 1 rfl (wp_seq (wp_plain _ [0,0,0] rfl (lw_tv 1 rfl (lw_callq 132 [] [] [(.int .i64 a),(.int .i64 ((1000001 :Nat):Int))] rfl rfl cf132 zN (.int .i64 (pw a ((1000001 :Nat):Int))) (fun wq => c_spec_Power wq _ _ _ha oM) (lw_tvn 1 rfl (wp_ret (post_ret [2] rfl (.int .i64 (pw a ((1000001 :Nat):Int))) rfl ⟨rfl,hE0⟩)))))))))
theorem c_impl_inverse (w : World) (a : Int) (_ha : -9223372036854775808 ≤ a ∧ a ≤ 9223372036854775807)  :
  Calls Tryz.prog 133 #[.int .i64 a] w (fun e w' => e = .returned (.int .i64 (inv a)) ∧ w' = w) := by
 refine calls_mk [.int .i64 a] 5 Tryz.func133 rfl rfl sM ?_
 have hE0 : w = w := rfl
 exact wp_seq (wp_plain _ [0] rfl (lw_tvn 1 rfl (wp_seq (wp_plain _ [0,0,0] rfl (lw_tv 1 rfl (lw_callq 147 [] [] [(.int .i64 a),(.int .i64 ((1000001 :Nat):Int))] rfl rfl cf147 zN (.int .i64 (pw a ((1000001 :Nat):Int))) (fun wq => c_impl_Power wq _ _ _ha oM) (lw_tvn 1 rfl (wp_ret (post_ret [2] rfl (.int .i64 (pw a ((1000001 :Nat):Int))) rfl ⟨rfl,hE0⟩)))))))))
theorem c_impl_isNumber (w : World) (n : Int) (_hn : -9223372036854775808 ≤ n ∧ n ≤ 9223372036854775807)  :
  Calls Tryz.prog 123 #[.int .i64 n] w (fun e w' => e = .returned (.bool (isN n)) ∧ w' = w) := by
 refine calls_mk [.int .i64 n] 5 Tryz.func123 rfl rfl sM ?_
 have hE0 : w = w := rfl
 exact wp_seq (wp_plain _ [0] rfl (lw_tvn 1 rfl (wp_seq (wp_plain _ [0,0,0] rfl (lw_tv 1 rfl (lw_callq 68 [] [] [(.int .i64 n),(.int .i64 ((0 :Nat):Int)),(.int .i64 ((1000002 :Nat):Int))] rfl rfl cf68 zN (.bool (decide (((0 :Nat):Int) ≤ n) && decide (n ≤ ((1000002 :Nat):Int)))) (fun wq => c_impl_within wq _ _ _ _hn oM oM) (lw_tvn 1 rfl (wp_ret (post_ret [2] rfl (.bool (decide (((0 :Nat):Int) ≤ n) && decide (n ≤ ((1000002 :Nat):Int)))) rfl ⟨(ret_bool (by unfold isN; rfl)),hE0⟩)))))))))
theorem c_spec_l01Number (w : World) (n : Int) (_hn : -9223372036854775808 ≤ n ∧ n ≤ 9223372036854775807)  :
  Calls Tryz.prog 114 #[.int .i64 n] w (fun e w' => e = .returned (.bool (isN n)) ∧ w' = w) := by
 refine calls_mk [.int .i64 n] 5 Tryz.func114 rfl rfl sM ?_
 have hE0 : w = w := rfl
 exact wp_seq (wp_plain _ [0] rfl (lw_tvn 1 rfl (wp_seq (wp_plain _ [0,0,0] rfl (lw_tv 1 rfl (lw_callq 63 [] [] [(.int .i64 n),(.int .i64 ((0 :Nat):Int)),(.int .i64 ((1000002 :Nat):Int))] rfl rfl cf63 zN (.bool (decide (((0 :Nat):Int) ≤ n) && decide (n ≤ ((1000002 :Nat):Int)))) (fun wq => c_spec_l00In wq _ _ _ _hn oM oM) (lw_tvn 1 rfl (wp_ret (post_ret [2] rfl (.bool (decide (((0 :Nat):Int) ≤ n) && decide (n ≤ ((1000002 :Nat):Int)))) rfl ⟨(ret_bool (by unfold isN; rfl)),hE0⟩)))))))))
theorem c_impl_areNumbers_1 (w : World) (n : Int) (_hn : -9223372036854775808 ≤ n ∧ n ≤ 9223372036854775807)  :
  Calls Tryz.prog 122 #[.int .i64 n] w (fun e w' => e = .returned (.bool (!isN n)) ∧ Ext w w') := by
 refine calls_mk [.int .i64 n] 6 Tryz.func122 rfl rfl sM ?_
 have hE0 : Ext w w := Ext.refl w
 exact wp_seq (wp_plain _ [0] rfl (lw_tvn 1 rfl (wp_seq (wp_plain _ [0,0,0,0] rfl (lw_tv 1 rfl (lw_callq 123 [] [] [(.int .i64 n)] rfl rfl cf123 zN (.bool (isN n)) (fun wq => c_impl_isNumber wq _ _hn) (q_not (!(isN n)) rfl rfl zN (lw_tvn 1 rfl (wp_ret (post_ret [2] rfl (.bool (!(isN n))) rfl ⟨rfl,hE0⟩))))))))))
end Go.Proofs.YtnofbmdpabcjaaaGreat
namespace Go.Proofs.YtnofbmdpabcjaaaGreat
open Go Go.RowKit
set_option linter.unusedVariables false
set_option linter.unusedSimpArgs false
set_option maxHeartbeats 4000000
set_option maxRecDepth 100000
attribute [local irreducible] LW
def ixF {α : Type} (p : α → Bool) (l : List α) : Int := if l.any p then ((l.findIdx p : Nat) : Int) else -1
theorem ix_yes {α : Type} {p : α → Bool} {l : List α} {k : Nat} (d : α) (h : ∀ j, j < k → p (l.getD j d) = false) (hk : k < l.length) (hp : p (l.getD k d) = true) : ((k : Nat) : Int) = ixF p l := by
  have e : ∀ j, (hj : j < l.length) → l.getD j d = l[j] := fun j hj => by simp [hj]
  have h1 : l.any p = true := List.any_eq_true.2 ⟨l[k], List.getElem_mem hk, by rw [← e k hk]; exact hp⟩
  have h2 : l.findIdx p = k := by
    rw [List.findIdx_eq hk]
    refine ⟨by rw [← e k hk]; exact hp, fun j hj => ?_⟩
    have := h j hj
    rw [e j (by omega)] at this
    exact this
  unfold ixF; rw [if_pos h1, h2]
theorem ix_no {α : Type} {p : α → Bool} {l : List α} {k : Nat} (d : α) (h : ∀ j, j < k → p (l.getD j d) = false) (hk : l.length ≤ k) : (-1 : Int) = ixF p l := by
  have h1 : l.any p = false := by
    rw [List.any_eq_false]
    intro x hx
    obtain ⟨j, hj, rfl⟩ := List.getElem_of_mem hx
    have := h j (by omega)
    have e : l.getD j d = l[j] := by simp [hj]
    rw [e] at this
    simp [this]
  unfold ixF; rw [h1]; rfl
theorem ix_ge {α : Type} (p : α → Bool) (l : List α) : decide (((0 : Nat) : Int) ≤ ixF p l) = l.any p := by
  unfold ixF
  split
  · rename_i h; rw [h]; exact decide_eq_true (by omega)
  · rename_i h; rw [Bool.not_eq_true] at h; rw [h]; exact decide_eq_false (by omega)
theorem ix_step {α : Type} {p : α → Bool} {l : List α} {k : Nat} {d : α} (h : ∀ j, j < k → p (l.getD j d) = false) (hp : p (l.getD k d) = false) : ∀ j, j < k + 1 → p (l.getD j d) = false := by
  intro j hj
  by_cases e : j = k
  · subst e; exact hp
  · exact h j (by omega)
theorem c_slices_IndexFunc___int64_int64_ (w : World) (va : Value) (a : List Int) (q : Nat) (qf qc : List Value) (p : Int → Bool) (ha : Rd (rdL rI) w.heap va a) (hcf_q : ((Tryz.prog.funcs[q]?).map fun fn => (fn.name != "runtime.NumGoroutine") && fn.body.isSome) = some true) (hp : ∀ (x : Int),-9223372036854775808 ≤ x ∧ x ≤ 9223372036854775807 → ∀ w1,Ext w w1 → Calls Tryz.prog q (qf ++ [Value.int .i64 x] ++ qc).toArray w1 (fun e w2 => e = .returned (.bool (p x)) ∧ Ext w1 w2))  :
  Calls Tryz.prog 145 #[va,.func (.func q) qf.toArray qc.toArray] w (fun e w' => e = .returned (.int .i64 (ixF p a)) ∧ Ext w w') := by
 refine calls_mk [va,.func (.func q) qf.toArray qc.toArray] 19 Tryz.func145 rfl rfl sM ?_
 have hE0 : Ext w w := Ext.refl w
 have hl_va := ha.lenle
 refine wp_seq (wp_plain _ [0] rfl (lw_tvn 1 rfl (wp_seq (wp_seq (wp_plain _ [0,0,0] rfl (lw_tv 1 rfl (q_len (v := va) u25 rfl ha.isSl zN (lw_tvn 1 rfl (wp_block ?_)))))))))
 refine c_loop (S := Nat) (fun (k : Nat) => ([(8,(.int .i64 ((k :Nat):Int))),(0,va),(1,(.func (.func q) qf.toArray qc.toArray)),(7,(.int .i64 ((a.length :Nat):Int)))] : List (Nat × Value))) (fun (k : Nat) (W : World) => Ext w W ∧ k ≤ a.length ∧ (∀ j,j < k → p (a.getD j 0) = false)) (fun (k : Nat) => a.length - k) 0 ⟨rfl,rfl,rfl,rfl,trivial⟩ ⟨hE0,sD,(by intro j hj; omega)⟩ ?_
 clear hE0
 rintro k ρ1 w1 ⟨hE1,hp1_0,hq⟩
 have hzs1 : w.heap.size ≤ w1.heap.size := hE1.size
 refine wp_seq (wp_plain _ [0] rfl ?_)
 by_cases hc2 : ((k :Nat):Int) < ((a.length :Nat):Int)
 ·
  refine q_lss true rfl rfl (decide_eq_true hc2) zN (lw_nil (wp_seq (c_cond_t rfl (wp_skip (wp_seq (wp_block (wp_seq (wp_plain _ [0,0] rfl (lw_tvn 2 rfl (wp_seq (wp_plain _ [0,0,0,0,2,3] rfl (lw_tv 3 rfl (q_idx (v := va) k u25 ti2 rfl rfl ha.isSl rfl sD zN ?_)))))))))))))
  refine q_load (p := eptr va k 1) (.inr rfl) (.int .i64 (a.getD k 0)) one2 rfl (ldH_ext hE1 (ha.getI sD).1) zN ?_
  have hcall3 := hp (a.getD k 0) (ha.getI sD).2 _ hE1
  refine lw_call q qf qc _ rfl rfl hcf_q zN hcall3 ?_
  rintro e3 w3 ⟨rfl,hX3⟩
  refine ⟨_,rfl,hX3,?_⟩
  have hzs3:=hX3.size
  have hE3:=hE1.trans hX3
  cases hc3 : p (a.getD k 0)
  ·
   refine lw_nil (c_cond_f rfl (wp_skip (wp_plain _ [0,0] rfl (q_add ((k + 1 :Nat):Int) rfl rfl (w64n oM sD) zN (lw_tvn 1 rfl ?_)))))
   exact ⟨(k + 1),_,rfl,⟨rfl,rfl,rfl,rfl,trivial⟩,⟨hE3,sD,(by exact ix_step hq (by assumption))⟩,by first | omega | (dsimp only; omega)⟩
  ·
   exact lw_nil (c_cond_t rfl (wp_seq (wp_plain _ [0,0] rfl (lw_tvn 2 rfl (wp_ret (b_ret (t_ret (t_ret (b_ret (t_ret (post_ret [4] rfl (.int .i64 ((k :Nat):Int)) rfl ⟨(ret_int (ix_yes 0 hq oM (by assumption))),hE3⟩)))))))))))
 ·
  exact q_lss false rfl rfl (decide_eq_false hc2) zN (lw_nil (wp_seq (c_cond_f rfl (wp_exit (t_exit (t_exit (c_exit_here (wp_seq (wp_plain _ [0] rfl (lw_tvn 1 rfl (wp_ret (post_ret [4] rfl (.int .i64 (-1)) rfl ⟨(ret_int (ix_no 0 hq oM)),hE1⟩))))))))))))
theorem c_slices_ContainsFunc___int64_int64_ (w : World) (va : Value) (a : List Int) (q : Nat) (qf qc : List Value) (p : Int → Bool) (ha : Rd (rdL rI) w.heap va a) (hcf_q : ((Tryz.prog.funcs[q]?).map fun fn => (fn.name != "runtime.NumGoroutine") && fn.body.isSome) = some true) (hp : ∀ (x : Int),-9223372036854775808 ≤ x ∧ x ≤ 9223372036854775807 → ∀ w1,Ext w w1 → Calls Tryz.prog q (qf ++ [Value.int .i64 x] ++ qc).toArray w1 (fun e w2 => e = .returned (.bool (p x)) ∧ Ext w1 w2))  :
  Calls Tryz.prog 121 #[va,.func (.func q) qf.toArray qc.toArray] w (fun e w' => e = .returned (.bool (a.any p)) ∧ Ext w w') := by
 refine calls_mk [va,.func (.func q) qf.toArray qc.toArray] 9 Tryz.func121 rfl rfl sM ?_
 have hE0 : Ext w w := Ext.refl w
 have hl_va := ha.lenle
 refine wp_seq (wp_plain _ [0] rfl (lw_tvn 1 rfl (wp_seq (wp_plain _ [0,0,3,0,0] rfl (lw_tv 2 rfl (lw_call 145 [] [] [va,(.func (.func q) qf.toArray qc.toArray)] rfl rfl cf145 zN (c_slices_IndexFunc___int64_int64_ _ _ _ q qf qc p (ha.ext g1 hE0) hcf_q (fun x hx w1 hw => hp x hx w1 (hE0.trans hw))) ?_))))))
 rintro e1 w1 ⟨rfl,hX1⟩
 refine ⟨_,rfl,hX1,?_⟩
 have hzs1:=hX1.size
 have hE1:=hE0.trans hX1
 exact q_geq (decide (((0 :Nat):Int) ≤ ixF p a)) rfl rfl rfl zN (lw_tvn 1 rfl (wp_ret (post_ret [4] rfl (.bool (decide (((0 :Nat):Int) ≤ ixF p a))) rfl ⟨(ret_bool (ix_ge p a)),hE1⟩)))
theorem c_slices_Clone___int64_int64_ (w : World) (va : Value) (a : List Int) (ha : Rd (rdL rI) w.heap va a) (hla : a.length ≤ 1000000000000) :
  Calls Tryz.prog 86 #[va] w (fun e w' => ∃ v0 : Value,e = .returned (v0) ∧ Ext w w' ∧ Fr (owL rI 2) w.heap.size w'.heap.size w'.heap v0 a) := by
 refine calls_mk [va] 8 Tryz.func86 rfl rfl sM ?_
 have hE0 : Ext w w := Ext.refl w
 have hl_va := ha.lenle
 refine wp_seq (wp_plain _ [0] rfl (lw_tvn 1 rfl (wp_seq (wp_seq (wp_plain _ [0,0] rfl (lw_tv 1 rfl ?_))))))
 cases hc1 : isNilV va
 ·
  refine q_nilq (v := va) false u25 rfl rfl ha.isSl hc1 zN (lw_nil (c_cond_f rfl (wp_skip (wp_seq (wp_plain _ [3,0,4,0] rfl (r_nil (rI) good_rI u25 ti2 zN fun v2 w2 hX2 hz2 hO2 => ?_))))))
  have hzs2:=hX2.size
  have hE2:=hE0.trans hX2
  refine lw_tv 1 rfl (e_appI (v := v2) (a := va) u25 ti2 rfl rfl rfl hO2 hE2.size (ha.ext g1 hE2) sD (by unfold maxLen; first | omega | assumption | (simp; done) | (simp; omega)) zN fun v3 w3 F3 hC3 hF3 hO3 => ?_)
  have hE3 : Ext w w3 := hC3.below hE2 (fun c hc => Nat.le_trans (Nat.le_refl _) (hF3 c hc).1) hE2.size
  have hzs3:=hC3.size
  exact lw_tvn 1 rfl (wp_ret (post_ret [2] rfl v3 rfl ⟨v3,rfl,hE3,hO3.up o1⟩))
 ·
  refine q_nilq (v := va) true u25 rfl rfl ha.isSl hc1 zN (lw_nil (c_cond_t rfl (wp_seq (wp_plain _ [0] rfl (lw_tvn 1 rfl (wp_ret (t_ret ?_)))))))
  have hnil : a = [] := ha.nil_of (by assumption)
  subst hnil
  exact post_ret [2] rfl (.slice none 0 0) rfl ⟨(.slice none 0 0),rfl,hE0,frNil _ _ _⟩
theorem c_impl_areNumbers (w : World) (va : Value) (a : List Int) (count : Int) (ha : Rd (rdL rI) w.heap va a) (_hcount : -9223372036854775808 ≤ count ∧ count ≤ 9223372036854775807)  :
  Calls Tryz.prog 85 #[va,.int .i64 count] w (fun e w' => e = .returned (.bool (decide (((a.length :Nat):Int) = count) && allN a)) ∧ Ext w w') := by
 refine calls_mk [va,.int .i64 count] 14 Tryz.func85 rfl rfl sM ?_
 have hE0 : Ext w w := Ext.refl w
 have hl_va := ha.lenle
 refine wp_seq (wp_plain _ [0] rfl (lw_tvn 1 rfl (wp_seq (wp_plain _ [0,0,0,0,0,0,3,0,0,0] rfl (lw_tv 1 rfl (q_len (v := va) u25 rfl ha.isSl zN (lw_tv 1 rfl ?_)))))))
 by_cases hc1 : ((a.length :Nat):Int) = count
 ·
  refine q_eql true rfl rfl (decide_eq_true hc1) zN (lw_tv 2 rfl (lw_call 121 [] [] [va,(.func (.func 122) #[] #[])] rfl rfl cf121 (zS (e := 9) rfl rfl rfl) (c_slices_ContainsFunc___int64_int64_ _ _ _ 122 [] [] (fun x => !isN x) (ha.ext g1 hE0) cf122 (fun x hx w1 hw => c_impl_areNumbers_1 w1 x hx)) ?_))
  rintro e2 w2 ⟨rfl,hX2⟩
  refine ⟨_,rfl,hX2,?_⟩
  have hzs2:=hX2.size
  have hE2:=hE0.trans hX2
  exact q_not (!(a.any (fun x => !isN x))) rfl rfl (zS (e := 9) rfl rfl rfl) (lw_tvn 2 rfl (wp_ret (post_ret [4] rfl (.bool (!(a.any (fun x => !isN x)))) rfl ⟨(ret_bool (by first | (rw [any_not]; simp [*]; done) | simp [*])),hE2⟩)))
 ·
  exact q_eql false rfl rfl (decide_eq_false hc1) zN (lw_tvn 6 rfl (wp_ret (post_ret [4] rfl (.bool false) rfl ⟨(ret_bool (by first | (rw [any_not]; simp [*]; done) | simp [*])),hE0⟩)))
theorem c_spec_l01Numbers (w : World) (va : Value) (a : List Int) (ha : Rd (rdL rI) w.heap va a)  :
  Calls Tryz.prog 79 #[va] w (fun e w' => e = .returned (.bool (allN a)) ∧ Ext w w') := by
 refine calls_mk [va] 16 Tryz.func79 rfl rfl sM ?_
 have hE0 : Ext w w := Ext.refl w
 have hl_va := ha.lenle
 refine wp_seq (wp_plain _ [0] rfl (lw_tvn 1 rfl (wp_seq (wp_seq (wp_plain _ [0] rfl (lw_tvn 1 rfl (wp_block (c_loop (S := Nat) (fun (k : Nat) => ([(3,(.int .i64 ((k :Nat):Int))),(0,va)] : List (Nat × Value))) (fun (k : Nat) (W : World) => Ext w W ∧ k ≤ a.length ∧ ((a.take k).all isN = true)) (fun (k : Nat) => a.length - k) 0 ⟨rfl,rfl,trivial⟩ ⟨hE0,sD,(by exact all_none _ _)⟩ ?_))))))))
 clear hE0
 rintro k ρ1 w1 ⟨hE1,hp1_0,hq⟩
 have hzs1 : w.heap.size ≤ w1.heap.size := hE1.size
 refine wp_seq (wp_seq (wp_plain _ [0,0,0,0] rfl (lw_tv 2 rfl (q_len (v := va) u25 rfl ha.isSl zN ?_))))
 by_cases hc2 : ((k :Nat):Int) < ((a.length :Nat):Int)
 ·
  refine q_lss true rfl rfl (decide_eq_true hc2) zN (lw_nil (c_cond_t rfl (wp_skip (wp_seq (wp_block (wp_seq (wp_plain _ [0,0,0,2,0,0] rfl (lw_tv 2 rfl (q_idx (v := va) k u25 ti2 rfl rfl ha.isSl rfl sD zN ?_)))))))))
  refine q_load (p := eptr va k 1) (.inr rfl) (.int .i64 (a.getD k 0)) one2 rfl (ldH_ext hE1 (ha.getI sD).1) zN ?_
  refine lw_callq 114 [] [] [(.int .i64 (a.getD k 0))] rfl rfl cf114 zN (.bool (isN (a.getD k 0))) (fun wq => c_spec_l01Number wq _ (ha.getI sD).2) (q_not (!(isN (a.getD k 0))) rfl rfl zN (lw_nil ?_))
  cases hb4 : (!(isN (a.getD k 0)))
  ·
   refine c_cond_f (by first | rfl | (show Value.bool _ = _; rw [hb4])) (wp_skip (wp_plain _ [0,0,0] rfl (lw_tv 1 rfl (q_add ((k + 1 :Nat):Int) rfl rfl (w64n oM sD) zN (lw_tvn 1 rfl ?_)))))
   exact ⟨(k + 1),_,rfl,⟨rfl,rfl,trivial⟩,⟨hE1,sD,(by exact all_succ 0 hq oM (by simpa using ‹(!isN (a.getD k 0)) = false›))⟩,by first | omega | (dsimp only; omega)⟩
  ·
   exact c_cond_t (by first | rfl | (show Value.bool _ = _; rw [hb4])) (wp_seq (wp_plain _ [0] rfl (lw_tvn 1 rfl (wp_ret (b_ret (t_ret (t_ret (b_ret (t_ret (post_ret [2] rfl (.bool false) rfl ⟨(ret_bool (all_fail (k := k) 0 oM (by simpa using ‹(!isN (a.getD k 0)) = true›)).symm),hE1⟩))))))))))
 ·
  exact q_lss false rfl rfl (decide_eq_false hc2) zN (lw_nil (c_cond_f rfl (wp_exit (t_exit (t_exit (c_exit_here (wp_seq (wp_plain _ [0] rfl (lw_tvn 1 rfl (wp_ret (post_ret [2] rfl (.bool true) rfl ⟨(ret_bool (all_done hq oM).symm),hE1⟩)))))))))))
theorem c_spec_l00Own (w : World) (va : Value) (a : List Int) (ha : Rd (rdL rI) w.heap va a) (hla : a.length ≤ 1000000000000) :
  Calls Tryz.prog 80 #[va] w (fun e w' => ∃ v0 : Value,e = .returned (v0) ∧ Ext w w' ∧ Fr (owL rI 2) w.heap.size w'.heap.size w'.heap v0 a) := by
 refine calls_mk [va] 6 Tryz.func80 rfl rfl sM ?_
 have hE0 : Ext w w := Ext.refl w
 have hl_va := ha.lenle
 refine wp_seq (wp_plain _ [0] rfl (lw_tvn 1 rfl (wp_seq (wp_plain _ [3,0,4,0] rfl (r_nil (rI) good_rI u25 ti2 zN fun v1 w1 hX1 hz1 hO1 => ?_)))))
 have hzs1:=hX1.size
 have hE1:=hE0.trans hX1
 refine lw_tv 1 rfl (e_appI (v := v1) (a := va) u25 ti2 rfl rfl rfl hO1 hE1.size (ha.ext g1 hE1) sD (by unfold maxLen; first | omega | assumption | (simp; done) | (simp; omega)) zN fun v2 w2 F2 hC2 hF2 hO2 => ?_)
 have hE2 : Ext w w2 := hC2.below hE1 (fun c hc => Nat.le_trans (Nat.le_refl _) (hF2 c hc).1) hE1.size
 have hzs2:=hC2.size
 exact lw_tvn 1 rfl (wp_ret (post_ret [2] rfl v2 rfl ⟨v2,rfl,hE2,hO2.up o1⟩))
end Go.Proofs.YtnofbmdpabcjaaaGreat
namespace Go.Proofs.YtnofbmdpabcjaaaGreat
open Go Go.RowKit
set_option linter.unusedVariables false
set_option linter.unusedSimpArgs false
set_option maxHeartbeats 4000000
set_option maxRecDepth 100000
attribute [local irreducible] LW
theorem c_laws_eqInt64S (w : World) (va : Value) (a : List Int) (vb : Value) (b : List Int) (ha : Rd (rdL rI) w.heap va a) (hb : Rd (rdL rI) w.heap vb b)  :
  Calls Tryz.prog 16 #[va,vb] w (fun e w' => e = .returned (.bool (decide (a = b))) ∧ Ext w w') := by
 refine calls_mk [va,vb] 26 Tryz.func16 rfl rfl sM ?_
 have hE0 : Ext w w := Ext.refl w
 have hl_va := ha.lenle
 have hl_vb := hb.lenle
 refine wp_seq (wp_plain _ [0] rfl (lw_tvn 1 rfl (wp_seq (wp_seq (wp_plain _ [0,0,0,0,0] rfl (lw_tv 1 rfl (q_len (v := va) u25 rfl ha.isSl zN (lw_tv 1 rfl (q_len (v := vb) u25 rfl hb.isSl zN ?_)))))))))
 by_cases hc1 : ((a.length :Nat):Int) ≠ ((b.length :Nat):Int)
 ·
  exact q_neq true rfl rfl (decide_eq_true hc1) zN (lw_nil (c_cond_t rfl (wp_seq (wp_plain _ [0] rfl (lw_tvn 1 rfl (wp_ret (t_ret (post_ret [4] rfl (.bool false) rfl ⟨(ret_bool (decide_eq_false (leq_len oM)).symm),hE0⟩))))))))
 ·
  refine q_neq false rfl rfl (decide_eq_false hc1) zN (lw_nil (c_cond_f rfl (wp_skip (wp_seq (wp_seq (wp_plain _ [0] rfl (lw_tvn 1 rfl (wp_block (c_loop (S := Nat) (fun (k : Nat) => ([(5,(.int .i64 ((k :Nat):Int))),(0,va),(1,vb)] : List (Nat × Value))) (fun (k : Nat) (W : World) => Ext w W ∧ k ≤ a.length ∧ (∀ j,j < k → a.getD j 0 = b.getD j 0)) (fun (k : Nat) => a.length - k) 0 ⟨rfl,rfl,rfl,trivial⟩ ⟨hE0,sD,(by intro j hj; omega)⟩ ?_)))))))))
  clear hE0
  rintro k ρ2 w2 ⟨hE2,hp2_0,hq⟩
  have hzs2 : w.heap.size ≤ w2.heap.size := hE2.size
  refine wp_seq (wp_seq (wp_plain _ [0,0,0,0] rfl (lw_tv 2 rfl (q_len (v := va) u25 rfl ha.isSl zN ?_))))
  by_cases hc3 : ((k :Nat):Int) < ((a.length :Nat):Int)
  ·
   refine q_lss true rfl rfl (decide_eq_true hc3) zN (lw_nil (c_cond_t rfl (wp_skip (wp_seq (wp_block (wp_seq (wp_draw _ [0,0,0,1,0,0,0,1,0] mixed (by kernel_rfl) (lw_tv 2 rfl (q_idx (v := va) k u25 ti2 rfl rfl ha.isSl rfl sD zN ?_)))))))))
   refine q_load (p := eptr va k 1) (.inl rfl) (.int .i64 (a.getD k 0)) one2 rfl (ldH_ext hE2.drew (ha.getI sD).1) zN (lw_tv 2 rfl ?_)
   refine q_idx (v := vb) k u25 ti2 rfl rfl hb.isSl rfl sD zN ?_
   refine q_load (p := eptr vb k 1) (.inl rfl) (.int .i64 (b.getD k 0)) one2 rfl (ldH_ext hE2.drew (hb.getI sD).1) zN ?_
   by_cases hc4 : a.getD k 0 ≠ b.getD k 0
   ·
    exact q_neq true rfl rfl (decide_eq_true hc4) zN (lw_nil (c_cond_t rfl (wp_seq (wp_plain _ [0] rfl (lw_tvn 1 rfl (wp_ret (b_ret (t_ret (t_ret (b_ret (t_ret (post_ret [4] rfl (.bool false) rfl ⟨(ret_bool (decide_eq_false (leq_fail (d := 0) (k := k) oM)).symm),hE2.drew⟩))))))))))))
   ·
    refine q_neq false rfl rfl (decide_eq_false hc4) zN (lw_nil (c_cond_f rfl (wp_skip (wp_plain _ [0,0,0] rfl (lw_tv 1 rfl (q_add ((k + 1 :Nat):Int) rfl rfl (w64n oM sD) zN (lw_tvn 1 rfl ?_)))))))
    exact ⟨(k + 1),_,rfl,⟨rfl,rfl,rfl,trivial⟩,⟨hE2.drew,sD,(by exact leq_step hq oM)⟩,by first | omega | (dsimp only; omega)⟩
  ·
   exact q_lss false rfl rfl (decide_eq_false hc3) zN (lw_nil (c_cond_f rfl (wp_exit (t_exit (t_exit (c_exit_here (wp_seq (wp_plain _ [0] rfl (lw_tvn 1 rfl (wp_ret (post_ret [4] rfl (.bool true) rfl ⟨(ret_bool (decide_eq_true (leq_done hq oM oM)).symm),hE2⟩)))))))))))
theorem c_laws_toInt64S (w : World) (va : Value) (a : List Int) (ha : Rd (rdL rI) w.heap va a) (hla : a.length ≤ 1000000000000) :
  Calls Tryz.prog 12 #[va] w (fun e w' => ∃ v0 : Value,e = .returned (v0) ∧ Ext w w' ∧ Fr (owL rI 2) w.heap.size w'.heap.size w'.heap v0 a) := by
 refine calls_mk [va] 22 Tryz.func12 rfl rfl sM ?_
 have hE0 : Ext w w := Ext.refl w
 have hl_va := ha.lenle
 refine wp_seq (wp_plain _ [0] rfl (lw_tvn 1 rfl (wp_seq (wp_plain _ [0,0,3,0] rfl (lw_tv 1 rfl (q_len (v := va) u25 rfl ha.isSl zN (r_make (n := a.length) u25 ti2 rfl rfl rfl sD zN fun v1 w1 hX1 hz1 hO1 => ?_)))))))
 have hzs1:=hX1.size
 have hE1:=hE0.trans hX1
 refine lw_tvn 1 rfl (wp_seq (wp_seq (wp_plain _ [0] rfl (lw_tvn 1 rfl (wp_block (c_loop (S := Nat) (fun (k : Nat) => ([(4,(.int .i64 ((k :Nat):Int))),(0,va),(3,v1)] : List (Nat × Value))) (fun (k : Nat) (W : World) => Ext w W ∧ Fr (owL rI 2) w.heap.size W.heap.size W.heap v1 (mix k a (List.replicate a.length 0)) ∧ k ≤ a.length) (fun (k : Nat) => a.length - k) 0 ⟨rfl,rfl,rfl,trivial⟩ ⟨hE1,(by rw [mix_zero]; exact hO1.up o1),sD⟩ ?_))))))
 clear hE0 hO1 hz1 hX1 hzs1 hE1
 rintro k ρ2 w2 ⟨hE2,hL2_0,hp2_0⟩
 have hzs2 : w.heap.size ≤ w2.heap.size := hE2.size
 have hml := mix_len k a (List.replicate a.length 0) sM
 rw [List.length_replicate] at hml
 refine wp_seq (wp_seq (wp_plain _ [0,0,0,0] rfl (lw_tv 2 rfl (q_len (v := va) u25 rfl ha.isSl zN ?_))))
 by_cases hc3 : ((k :Nat):Int) < ((a.length :Nat):Int)
 ·
  refine q_lss true rfl rfl (decide_eq_true hc3) zN (lw_nil (c_cond_t rfl (wp_skip (wp_seq (wp_block (wp_plain _ [0,0,0,0,0,2,0,4] rfl (lw_tv 4 rfl (q_idx (v := va) k u25 ti2 rfl rfl ha.isSl rfl sD zN ?_))))))))
  refine q_load (p := eptr va k 1) (.inr rfl) (.int .i64 (a.getD k 0)) one2 rfl (ldH_ext hE2 (ha.getI sD).1) zN ?_
  refine q_idx (v := v1) k u25 ti2 rfl rfl hL2_0.isSl rfl sD zN ?_
  refine e_setI (v := v1) (w := w2) sz2 rfl rfl (ha.getI sD).2 hL2_0 sD zN fun w4 F4 hC4 hz4 hF4 hO4 => ?_
  have hE4 : Ext w w4 := hC4.below hE2 (fun c hc => Nat.le_trans (Nat.le_refl _) (hF4 c hc).1) hE2.size
  have hzs4:=hC4.size
  refine lw_nil (wp_plain _ [0,0,0] rfl (lw_tv 1 rfl (q_add ((k + 1 :Nat):Int) rfl rfl (w64n oM sD) zN (lw_tvn 1 rfl ?_))))
  exact ⟨(k + 1),_,rfl,⟨rfl,rfl,rfl,trivial⟩,⟨hE4,(by rw [← mix_set 0 sM (by simp; omega)]; exact hO4.up o1),sD⟩,by first | omega | (dsimp only; omega)⟩
 ·
  exact q_lss false rfl rfl (decide_eq_false hc3) zN (lw_nil (c_cond_f rfl (wp_exit (t_exit (t_exit (c_exit_here (wp_seq (wp_plain _ [0,0] rfl (lw_tvn 2 rfl (wp_ret (post_ret [2] rfl v1 rfl ⟨v1,rfl,hE2,(by have h := hL2_0.up o1; rwa [mix_all sM (by simp; omega)] at h)⟩)))))))))))
end Go.Proofs.YtnofbmdpabcjaaaGreat
namespace Go.Proofs.YtnofbmdpabcjaaaGreat
open Go Go.RowKit
set_option linter.unusedVariables false
set_option linter.unusedSimpArgs false
set_option maxHeartbeats 4000000
set_option maxRecDepth 100000
attribute [local irreducible] LW
theorem c_laws_markInt64S (w : World) (va : Value) (a : List Int) (Fa : List Nat) (k : Int) (ha : owL rI 2 w.heap va a Fa) (hna : Fa.Nodup) (_hk : -9223372036854775808 ≤ k ∧ k ≤ 9223372036854775807) (hk : 0 ≤ k ∧ k + (a.length : Int) ≤ 4611686018427387904) :
  Calls Tryz.prog 18 #[va,.int .i64 k] w (fun e w' => e = .returned (.int .i64 (k + ((a.length :Nat):Int))) ∧ Chg Fa w w' ∧ owL rI 2 w'.heap va (up a.length k) Fa) := by
 refine calls_mk [va,.int .i64 k] 19 Tryz.func18 rfl rfl sM ?_
 have hE0 : Chg Fa w w := Chg.refl Fa w
 have hl_va := ha.lenle
 unfold maxLen at hl_va
 refine wp_seq (wp_plain _ [0] rfl (lw_tvn 1 rfl (wp_seq (wp_seq (wp_plain _ [0] rfl (lw_tvn 1 rfl (wp_block ?_)))))))
 refine c_loop (S := Nat × Int) (fun (⟨j,l⟩ : Nat × Int) => ([(1,(.int .i64 l)),(5,(.int .i64 ((j :Nat):Int))),(0,va)] : List (Nat × Value))) (fun (⟨j,l⟩ : Nat × Int) (W : World) => Chg Fa w W ∧ owL rI 2 W.heap va (mix j (up a.length k) a) Fa ∧ j ≤ a.length ∧ l = k + ((j :Nat):Int)) (fun (⟨j,l⟩ : Nat × Int) => a.length - j) (0,k) ⟨rfl,rfl,rfl,trivial⟩ ⟨hE0,(by first | (rw [mix_zero]; exact ha) | (have h := ha; rw [hl] at h; unfold up; rw [mix_tab rfl oM]; exact h)),sD,oM⟩ ?_
 clear hE0
 rintro ⟨j,l⟩ ρ1 w1 ⟨hE1,hL1_0,hp1_0,hl⟩
 have hzs1 : w.heap.size ≤ w1.heap.size := hE1.size
 have hml := mix_len j (up a.length k) a (up_len _ _)
 refine wp_seq (wp_seq (wp_plain _ [0,0,0,0] rfl (lw_tv 2 rfl (q_len (v := va) u25 rfl (hL1_0.rd id).isSl zN ?_))))
 by_cases hc2 : ((j :Nat):Int) < (((mix j (up a.length k) a).length :Nat):Int)
 ·
  refine q_lss true rfl rfl (decide_eq_true hc2) zN (lw_nil (c_cond_t rfl (wp_skip (wp_seq (wp_block (wp_seq (wp_plain _ [0,0,0,0,4] rfl (lw_tv 3 rfl (q_idx (v := va) j u25 ti2 rfl rfl (hL1_0.rd id).isSl rfl sD zN ?_)))))))))
  refine e_set0 (v := va) (w := w1) sz2 rfl rfl oM hL1_0 hna sD zN fun w3 hC3 hz3 hO3 => ?_
  have hE3 : Chg Fa w w3 := hE1.trans hC3
  refine lw_nil (wp_plain _ [0,0,0] rfl (lw_tv 1 rfl (q_add (l + ((1 :Nat):Int)) rfl rfl (w64 sD sD) zN (lw_tvn 1 rfl ?_))))
  refine wp_plain _ [0,0,0] rfl (lw_tv 1 rfl (q_add ((j + 1 :Nat):Int) rfl rfl (w64n oM sD) zN (lw_tvn 1 rfl ?_)))
  exact ⟨((j + 1),(l + ((1 :Nat):Int))),_,rfl,⟨rfl,rfl,rfl,trivial⟩,⟨hE3,(by first | (rw [mix_zero]; exact hO3) | (have h := hO3; rw [hl] at h; unfold up; rw [mix_tab rfl oM]; exact h)),sD,oM⟩,by first | omega | (dsimp only; omega)⟩
 ·
  exact q_lss false rfl rfl (decide_eq_false hc2) zN (lw_nil (c_cond_f rfl (wp_exit (t_exit (t_exit (c_exit_here (wp_seq (wp_plain _ [0,0] rfl (lw_tvn 2 rfl (wp_ret (post_ret [4] rfl (.int .i64 l) rfl ⟨(ret_int (by rw [hl,show j = a.length from by omega])),hE1,(by have h := hL1_0; rwa [mix_all (up_len _ _) oM] at h)⟩)))))))))))
theorem c_laws_heldInt64S (w : World) (va : Value) (a : List Int) (k : Int) (ha : Rd (rdL rI) w.heap va a) (_hk : -9223372036854775808 ≤ k ∧ k ≤ 9223372036854775807) (hk : 0 ≤ k ∧ k + (a.length : Int) ≤ 4611686018427387904) (heq : ∀ i,i < a.length → a.getD i 0 = k + ((i :Nat):Int)) :
  Calls Tryz.prog 29 #[va,.int .i64 k] w (fun e w' => e = .returned (.int .i64 (k + ((a.length :Nat):Int))) ∧ Ext w w') := by
 refine calls_mk [va,.int .i64 k] 21 Tryz.func29 rfl rfl sM ?_
 have hE0 : Ext w w := Ext.refl w
 have hl_va := ha.lenle
 refine wp_seq (wp_plain _ [0] rfl (lw_tvn 1 rfl (wp_seq (wp_seq (wp_plain _ [0] rfl (lw_tvn 1 rfl (wp_block (c_loop (S := Nat × Int) (fun (⟨j,l⟩ : Nat × Int) => ([(1,(.int .i64 l)),(5,(.int .i64 ((j :Nat):Int))),(0,va)] : List (Nat × Value))) (fun (⟨j,l⟩ : Nat × Int) (W : World) => Ext w W ∧ j ≤ a.length ∧ l = k + ((j :Nat):Int)) (fun (⟨j,l⟩ : Nat × Int) => a.length - j) (0,k) ⟨rfl,rfl,rfl,trivial⟩ ⟨hE0,sD,oM⟩ ?_))))))))
 clear hE0
 rintro ⟨j,l⟩ ρ1 w1 ⟨hE1,hp1_0,hl⟩
 have hzs1 : w.heap.size ≤ w1.heap.size := hE1.size
 refine wp_seq (wp_seq (wp_plain _ [0,0,0,0] rfl (lw_tv 2 rfl (q_len (v := va) u25 rfl ha.isSl zN ?_))))
 by_cases hc2 : ((j :Nat):Int) < ((a.length :Nat):Int)
 ·
  refine q_lss true rfl rfl (decide_eq_true hc2) zN (lw_nil (c_cond_t rfl (wp_skip (wp_seq (wp_block (wp_seq (wp_seq (wp_plain _ [0,0,0,2,0,0] rfl (lw_tv 2 rfl (q_idx (v := va) j u25 ti2 rfl rfl ha.isSl rfl sD zN ?_))))))))))
  refine q_load (p := eptr va j 1) (.inr rfl) (.int .i64 (a.getD j 0)) one2 rfl (ldH_ext hE1 (ha.getI sD).1) zN (lw_tv 1 rfl ?_)
  by_cases hc3 : a.getD j 0 ≠ l
  ·
   exact absurd (by rw [heq j oM]; omega) hc3
  ·
   refine q_neq false rfl rfl (decide_eq_false hc3) zN (lw_nil (c_cond_f rfl (wp_skip (wp_plain _ [0,0,0] rfl (lw_tv 1 rfl ?_)))))
   refine q_add (l + ((1 :Nat):Int)) rfl rfl (w64 sD sD) zN (lw_tvn 1 rfl (wp_plain _ [0,0,0] rfl (lw_tv 1 rfl ?_)))
   refine q_add ((j + 1 :Nat):Int) rfl rfl (w64n oM sD) zN (lw_tvn 1 rfl ?_)
   exact ⟨((j + 1),(l + ((1 :Nat):Int))),_,rfl,⟨rfl,rfl,rfl,trivial⟩,⟨hE1,sD,oM⟩,by first | omega | (dsimp only; omega)⟩
 ·
  exact q_lss false rfl rfl (decide_eq_false hc2) zN (lw_nil (c_cond_f rfl (wp_exit (t_exit (t_exit (c_exit_here (wp_seq (wp_plain _ [0,0] rfl (lw_tvn 2 rfl (wp_ret (post_ret [4] rfl (.int .i64 l) rfl ⟨(ret_int (by rw [hl,show j = a.length from by omega])),hE1⟩)))))))))))
theorem c_spec_l01Scale (w : World) (va : Value) (a : List Int) (y : Int) (ha : Rd (rdL rI) w.heap va a) (_hy : -9223372036854775808 ≤ y ∧ y ≤ 9223372036854775807) (hla : a.length ≤ 1000000000000) :
  Calls Tryz.prog 149 #[va,.int .i64 y] w (fun e w' => ∃ v0 : Value,e = .returned (v0) ∧ Ext w w' ∧ Fr (owL rI 2) w.heap.size w'.heap.size w'.heap v0 (scl a y)) := by
 refine calls_mk [va,.int .i64 y] 24 Tryz.func149 rfl rfl sM ?_
 have hE0 : Ext w w := Ext.refl w
 have hl_va := ha.lenle
 refine wp_seq (wp_plain _ [0] rfl (lw_tvn 1 rfl (wp_seq (wp_plain _ [3,0] rfl (r_nil (rI) good_rI u25 ti2 zN fun v1 w1 hX1 hz1 hO1 => ?_)))))
 have hzs1:=hX1.size
 have hE1:=hE0.trans hX1
 refine lw_tvn 1 rfl (wp_seq (wp_seq (wp_plain _ [0] rfl (lw_tvn 1 rfl (wp_block ?_)))))
 refine c_loop (S := Nat × Value) (fun (⟨k,vo⟩ : Nat × Value) => ([(5,vo),(6,(.int .i64 ((k :Nat):Int))),(0,va),(1,(.int .i64 y))] : List (Nat × Value))) (fun (⟨k,vo⟩ : Nat × Value) (W : World) => Ext w W ∧ Fr (owL rI 2) w.heap.size W.heap.size W.heap vo ((a.take k).map (fun x => md (x * y))) ∧ k ≤ a.length) (fun (⟨k,vo⟩ : Nat × Value) => a.length - k) (0,v1) ⟨rfl,rfl,rfl,rfl,trivial⟩ ⟨hE1,hO1.up o1,sD⟩ ?_
 clear hE0 hO1 hz1 hX1 hzs1 hE1
 rintro ⟨k,vo⟩ ρ2 w2 ⟨hE2,hL2_0,hp2_0⟩
 have hzs2 : w.heap.size ≤ w2.heap.size := hE2.size
 refine wp_seq (wp_seq (wp_plain _ [0,0,0,0] rfl (lw_tv 2 rfl (q_len (v := va) u25 rfl ha.isSl zN ?_))))
 by_cases hc3 : ((k :Nat):Int) < ((a.length :Nat):Int)
 ·
  refine q_lss true rfl rfl (decide_eq_true hc3) zN (lw_nil (c_cond_t rfl (wp_skip (wp_seq (wp_block (wp_plain _ [0,0,0,0,2,0,0,3,4,0] rfl (lw_tv 3 rfl (q_idx (v := va) k u25 ti2 rfl rfl ha.isSl rfl sD zN ?_))))))))
  refine q_load (p := eptr va k 1) (.inr rfl) (.int .i64 (a.getD k 0)) one2 rfl (ldH_ext hE2 (ha.getI sD).1) zN (lw_tv 1 rfl ?_)
  refine lw_callq 94 [] [] [(.int .i64 (a.getD k 0)),(.int .i64 y)] rfl rfl cf94 zN (.int .i64 (md ((a.getD k 0) * y))) (fun wq => c_spec_Times wq _ _ (ha.getI sD).2 _hy) (r_one (u := (.int .i64 (md ((a.getD k 0) * y)))) (B := w2.heap.size) good_rI u25 ti2 rfl rfl (frI w2.heap.size w2.heap.size _ _ (md_rng _)) (Nat.le_refl _) zN fun v5 w5 hX5 hz5 hO5 => ?_)
  have hzs5:=hX5.size
  have hE5:=hE2.trans hX5
  have hL2_0x5 := hL2_0.ext (o1) hX5
  refine e_appI (v := vo) (a := v5) u25 ti2 rfl rfl rfl hL2_0x5 hE5.size hO5.rd1 sD (by unfold maxLen; first | omega | assumption | (simp; done) | (simp; omega)) zN fun v6 w6 F6 hC6 hF6 hO6 => ?_
  have hE6 : Ext w w6 := hC6.below hE5 (fun c hc => Nat.le_trans (Nat.le_refl _) (hF6 c hc).1) hE5.size
  have hzs6:=hC6.size
  have hF7 := hO5.chg (o1) hC6 (fun c hc => by have := hF6 c hc; omega)
  refine lw_tvn 1 rfl (wp_plain _ [0,0,0] rfl (lw_tv 1 rfl (q_add ((k + 1 :Nat):Int) rfl rfl (w64n oM sD) zN (lw_tvn 1 rfl ?_))))
  exact ⟨((k + 1),v6),_,rfl,⟨rfl,rfl,rfl,rfl,trivial⟩,⟨hE6,(by rw [map_snoc 0 oM]; exact hO6.up o1),sD⟩,by first | omega | (dsimp only; omega)⟩
 ·
  exact q_lss false rfl rfl (decide_eq_false hc3) zN (lw_nil (c_cond_f rfl (wp_exit (t_exit (t_exit (c_exit_here (wp_seq (wp_plain _ [0,0] rfl (lw_tvn 2 rfl (wp_ret (post_ret [4] rfl vo rfl ⟨vo,rfl,hE2,(by have h := hL2_0.up o1; rwa [List.take_of_length_le oM] at h)⟩)))))))))))
theorem c_spec_l07Numbers (w : World) (va : Value) (a : List Int) (n : Int) (ha : Rd (rdL rI) w.heap va a) (_hn : -9223372036854775808 ≤ n ∧ n ≤ 9223372036854775807)  :
  Calls Tryz.prog 100 #[va,.int .i64 n] w (fun e w' => e = .returned (.bool (decide (((a.length :Nat):Int) = n) && allN a)) ∧ Ext w w') := by
 refine calls_mk [va,.int .i64 n] 13 Tryz.func100 rfl rfl sM ?_
 have hE0 : Ext w w := Ext.refl w
 have hl_va := ha.lenle
 refine wp_seq (wp_plain _ [0] rfl (lw_tvn 1 rfl (wp_seq (wp_plain _ [0,0,0,0,0,0,3,0,0] rfl (lw_tv 1 rfl (q_len (v := va) u25 rfl ha.isSl zN (lw_tv 1 rfl ?_)))))))
 by_cases hc1 : ((a.length :Nat):Int) = n
 ·
  refine q_eql true rfl rfl (decide_eq_true hc1) zN (lw_tv 2 rfl (lw_call 79 [] [] [va] rfl rfl cf79 (zS (e := 9) rfl rfl rfl) (c_spec_l01Numbers _ _ _ (ha.ext g1 hE0)) ?_))
  rintro e2 w2 ⟨rfl,hX2⟩
  refine ⟨_,rfl,hX2,?_⟩
  have hzs2:=hX2.size
  have hE2:=hE0.trans hX2
  exact lw_tvn 2 rfl (wp_ret (post_ret [4] rfl (.bool (allN a)) rfl ⟨(ret_bool (by simp [*])),hE2⟩))
 ·
  exact q_eql false rfl rfl (decide_eq_false hc1) zN (lw_tvn 5 rfl (wp_ret (post_ret [4] rfl (.bool false) rfl ⟨(ret_bool (by simp [*])),hE0⟩)))
theorem c_impl_isOrder (w : World) (n : Int) (_hn : -9223372036854775808 ≤ n ∧ n ≤ 9223372036854775807)  :
  Calls Tryz.prog 103 #[.int .i64 n] w (fun e w' => e = .returned (.bool (decide (((0 :Nat):Int) ≤ n) && decide (n ≤ ((12 :Nat):Int)))) ∧ Ext w w') := by
 refine calls_mk [.int .i64 n] 5 Tryz.func103 rfl rfl sM ?_
 have hE0 : Ext w w := Ext.refl w
 exact wp_seq (wp_plain _ [0] rfl (lw_tvn 1 rfl (wp_seq (wp_plain _ [0,0,0] rfl (lw_tv 1 rfl (lw_callq 68 [] [] [(.int .i64 n),(.int .i64 ((0 :Nat):Int)),(.int .i64 ((12 :Nat):Int))] rfl rfl cf68 zN (.bool (decide (((0 :Nat):Int) ≤ n) && decide (n ≤ ((12 :Nat):Int)))) (fun wq => c_impl_within wq _ _ _ _hn oM oM) (lw_tvn 1 rfl (wp_ret (post_ret [2] rfl (.bool (decide (((0 :Nat):Int) ≤ n) && decide (n ≤ ((12 :Nat):Int)))) rfl ⟨rfl,hE0⟩)))))))))
theorem c_impl_extended (w : World) (va : Value) (a : List Int) (o : Int) (ha : Rd (rdL rI) w.heap va a) (_ho : -9223372036854775808 ≤ o ∧ o ≤ 9223372036854775807) (hla : a.length ≤ 1000000000000) (ho : 0 ≤ o ∧ o ≤ 12) :
  Calls Tryz.prog 97 #[va,.int .i64 o] w (fun e w' => ∃ v0 : Value,e = .returned (v0) ∧ Ext w w' ∧ Fr (owL (owL rI 2) 25) w.heap.size w'.heap.size w'.heap v0 (a.map (fun x => (List.replicate (o.toNat + 1) 0).set 0 x))) := by
 refine calls_mk [va,.int .i64 o] 28 Tryz.func97 rfl rfl sM ?_
 have hE0 : Ext w w := Ext.refl w
 have hl_va := ha.lenle
 refine wp_seq (wp_plain _ [0] rfl (lw_tvn 1 rfl (wp_seq (wp_plain _ [3,0] rfl (r_nil (owL rI 2) o1 u27 ti25 zN fun v1 w1 hX1 hz1 hO1 => ?_)))))
 have hzs1:=hX1.size
 have hE1:=hE0.trans hX1
 refine lw_tvn 1 rfl (wp_seq (wp_seq (wp_plain _ [0,0,0] rfl (lw_tv 1 rfl (q_len (v := va) u25 rfl ha.isSl zN (lw_tvn 1 rfl (wp_block ?_)))))))
 refine c_loop (S := Nat × Value) (fun (⟨k,vo⟩ : Nat × Value) => ([(5,vo),(12,(.int .i64 ((k :Nat):Int))),(1,(.int .i64 o)),(10,va),(11,(.int .i64 ((a.length :Nat):Int)))] : List (Nat × Value))) (fun (⟨k,vo⟩ : Nat × Value) (W : World) => Ext w W ∧ Fr (owL (owL rI 2) 25) w.heap.size W.heap.size W.heap vo ((a.take k).map (fun x => (List.replicate (o.toNat + 1) 0).set 0 x)) ∧ k ≤ a.length) (fun (⟨k,vo⟩ : Nat × Value) => a.length - k) (0,v1) ⟨rfl,rfl,rfl,rfl,rfl,trivial⟩ ⟨hE1,hO1.up o2,sD⟩ ?_
 clear hE0 hO1 hz1 hX1 hzs1 hE1
 rintro ⟨k,vo⟩ ρ2 w2 ⟨hE2,hL2_0,hp2_0⟩
 have hzs2 : w.heap.size ≤ w2.heap.size := hE2.size
 refine wp_seq (wp_plain _ [0] rfl ?_)
 by_cases hc3 : ((k :Nat):Int) < ((a.length :Nat):Int)
 ·
  refine q_lss true rfl rfl (decide_eq_true hc3) zN (lw_nil (wp_seq (c_cond_t rfl (wp_skip (wp_seq (wp_block (wp_seq (wp_plain _ [0,2,0] rfl (q_idx (v := va) k u25 ti2 rfl rfl ha.isSl rfl sD zN ?_)))))))))
  refine q_load (p := eptr va k 1) (.inr rfl) (.int .i64 (a.getD k 0)) one2 rfl (ldH_ext hE2 (ha.getI sD).1) zN (lw_tvn 1 rfl (wp_seq (wp_plain _ [0,0,3,0] rfl (lw_tv 1 rfl (q_add ((o.toNat + 1 :Nat):Int) rfl rfl (w64n oM oM) zN ?_)))))
  refine r_make (n := o.toNat + 1) u25 ti2 rfl rfl rfl sD zN fun v4 w4 hX4 hz4 hO4 => ?_
  have hzs4:=hX4.size
  have hE4:=hE2.trans hX4
  have hL2_0x4 := hL2_0.ext (o2) hX4
  refine lw_tvn 1 rfl (wp_seq (wp_plain _ [0,0,0,4] rfl (lw_tv 2 rfl (q_idx (v := v4) 0 u25 ti2 rfl rfl hO4.isSl rfl sD zN ?_))))
  refine e_setI (v := v4) (w := w4) sz2 rfl rfl (ha.getI sD).2 hO4 sD zN fun w5 F5 hC5 hz5 hF5 hO5 => ?_
  have hE5 : Ext w w5 := hC5.below hE4 (fun c hc => Nat.le_trans hE2.size (hF5 c hc).1) hE4.size
  have hzs5:=hC5.size
  have hF6 := hL2_0x4.chg (o2) hC5 (fun c hc => by have := hF5 c hc; omega)
  refine lw_nil (wp_plain _ [0,0,3,4,0] rfl (lw_tv 2 rfl (r_one (u := v4) (B := w2.heap.size) o1 u27 ti25 rfl rfl hO5 (by first | exact Nat.le_refl _ | omega) zN fun v7 w7 hX7 hz7 hO7 => ?_)))
  have hzs7:=hX7.size
  have hE7:=hE5.trans hX7
  have hF6x7 := hF6.ext (o2) hX7
  refine e_appF o1 (v := vo) (a := v7) u27 ti25 rfl rfl rfl hF6x7 hE7.size hO7 oM hE2.size sD (by unfold maxLen; first | omega | assumption | (simp; done) | (simp; omega)) zN fun v8 w8 F8 hC8 hF8 hO8 => ?_
  have hE8 : Ext w w8 := hC8.below hE7 (fun c hc => Nat.le_trans (Nat.le_refl _) (hF8 c hc).1) hE7.size
  have hzs8:=hC8.size
  refine lw_tvn 1 rfl (wp_plain _ [0,0] rfl (q_add ((k + 1 :Nat):Int) rfl rfl (w64n oM sD) zN (lw_tvn 1 rfl ?_)))
  exact ⟨((k + 1),v8),_,rfl,⟨rfl,rfl,rfl,rfl,rfl,trivial⟩,⟨hE8,(by rw [map_snoc 0 oM]; exact hO8.up o2),sD⟩,by first | omega | (dsimp only; omega)⟩
 ·
  exact q_lss false rfl rfl (decide_eq_false hc3) zN (lw_nil (wp_seq (c_cond_f rfl (wp_exit (t_exit (t_exit (c_exit_here (wp_seq (wp_plain _ [0,0] rfl (lw_tvn 2 rfl (wp_ret (post_ret [4] rfl vo rfl ⟨vo,rfl,hE2,(by have h := hL2_0.up o2; rwa [List.take_of_length_le oM] at h)⟩))))))))))))
end Go.Proofs.YtnofbmdpabcjaaaGreat
namespace Go.Proofs.YtnofbmdpabcjaaaGreat
open Go Go.RowKit
set_option linter.unusedVariables false
set_option linter.unusedSimpArgs false
set_option maxHeartbeats 4000000
set_option maxRecDepth 100000
attribute [local irreducible] LW
theorem c_impl_scaled (w : World) (va : Value) (a : List Int) (y : Int) (ha : Rd (rdL rI) w.heap va a) (_hy : -9223372036854775808 ≤ y ∧ y ≤ 9223372036854775807) (hla : a.length ≤ 1000000000000) (hqa : allN a = true) (hy : 0 ≤ y ∧ y < 1000003) :
  Calls Tryz.prog 161 #[va,.int .i64 y] w (fun e w' => ∃ v0 : Value,e = .returned (v0) ∧ Ext w w' ∧ Fr (owL rI 2) w.heap.size w'.heap.size w'.heap v0 (sclS a y)) := by
 refine calls_mk [va,.int .i64 y] 27 Tryz.func161 rfl rfl sM ?_
 have hE0 : Ext w w := Ext.refl w
 have hl_va := ha.lenle
 refine wp_seq (wp_plain _ [0] rfl (lw_tvn 1 rfl (wp_seq (wp_plain _ [0,0,3,0] rfl (lw_tv 1 rfl (q_len (v := va) u25 rfl ha.isSl zN (r_make (n := a.length) u25 ti2 rfl rfl rfl sD zN fun v1 w1 hX1 hz1 hO1 => ?_)))))))
 have hzs1:=hX1.size
 have hE1:=hE0.trans hX1
 refine lw_tvn 1 rfl (wp_seq (wp_seq (wp_plain _ [0,0,0] rfl (lw_tv 1 rfl (q_len (v := va) u25 rfl ha.isSl zN (lw_tvn 1 rfl (wp_block ?_)))))))
 refine c_loop (S := Nat) (fun (k : Nat) => ([(12,(.int .i64 ((k :Nat):Int))),(0,va),(1,(.int .i64 y)),(5,v1),(11,(.int .i64 ((a.length :Nat):Int)))] : List (Nat × Value))) (fun (k : Nat) (W : World) => Ext w W ∧ Fr (owL rI 2) w.heap.size W.heap.size W.heap v1 (mix k (sclS a y) (List.replicate a.length 0)) ∧ k ≤ a.length) (fun (k : Nat) => a.length - k) 0 ⟨rfl,rfl,rfl,rfl,rfl,trivial⟩ ⟨hE1,(by rw [mix_zero]; exact hO1.up o1),sD⟩ ?_
 clear hE0 hO1 hz1 hX1 hzs1 hE1
 rintro k ρ2 w2 ⟨hE2,hL2_0,hp2_0⟩
 have hzs2 : w.heap.size ≤ w2.heap.size := hE2.size
 have hml := mix_len k (sclS a y) (List.replicate a.length 0) sM
 rw [List.length_replicate] at hml
 have hga := allN_get hqa k
 refine wp_seq (wp_plain _ [0] rfl ?_)
 by_cases hc3 : ((k :Nat):Int) < ((a.length :Nat):Int)
 ·
  refine q_lss true rfl rfl (decide_eq_true hc3) zN (lw_nil (wp_seq (c_cond_t rfl (wp_skip (wp_seq (wp_block (wp_seq (wp_plain _ [0,0] rfl (lw_tvn 2 rfl (wp_plain _ [0,0,0,0,0,2,0,0,0,0,4] rfl (lw_tv 4 rfl (q_idx (v := va) k u25 ti2 rfl rfl ha.isSl rfl sD zN ?_))))))))))))
  refine q_load (p := eptr va k 1) (.inr rfl) (.int .i64 (a.getD k 0)) one2 rfl (ldH_ext hE2 (ha.getI sD).1) zN (lw_tv 1 rfl (q_mul (wr ((a.getD k 0) * y)) rfl rfl rfl zN (q_rem (md (a.getD k 0 * y)) rfl rfl (by decide) (nm_eq hga hy) zN ?_)))
  refine q_idx (v := v1) k u25 ti2 rfl rfl hL2_0.isSl rfl sD zN (e_setI (v := v1) (w := w2) sz2 rfl rfl (md_rng _) hL2_0 sD zN fun w4 F4 hC4 hz4 hF4 hO4 => ?_)
  have hE4 : Ext w w4 := hC4.below hE2 (fun c hc => Nat.le_trans (Nat.le_refl _) (hF4 c hc).1) hE2.size
  have hzs4:=hC4.size
  refine lw_nil (wp_plain _ [0,0] rfl (q_add ((k + 1 :Nat):Int) rfl rfl (w64n oM sD) zN (lw_tvn 1 rfl ?_)))
  exact ⟨(k + 1),_,rfl,⟨rfl,rfl,rfl,rfl,rfl,trivial⟩,⟨hE4,(by unfold sclS; rw [mix_tab sM oM]; exact hO4.up o1),sD⟩,by first | omega | (dsimp only; omega)⟩
 ·
  exact q_lss false rfl rfl (decide_eq_false hc3) zN (lw_nil (wp_seq (c_cond_f rfl (wp_exit (t_exit (t_exit (c_exit_here (wp_seq (wp_plain _ [0,0] rfl (lw_tvn 2 rfl (wp_ret (post_ret [4] rfl v1 rfl ⟨v1,rfl,hE2,(by have h := hL2_0.up o1; rwa [mix_all sM (by simp; omega)] at h)⟩))))))))))))
theorem c_impl_added (w : World) (va : Value) (a : List Int) (vb : Value) (b : List Int) (ha : Rd (rdL rI) w.heap va a) (hb : Rd (rdL rI) w.heap vb b) (hla : a.length ≤ 1000000000000) (hl : a.length ≤ b.length) (hqa : allN a = true) (hqb : allN b = true) :
  Calls Tryz.prog 158 #[va,vb] w (fun e w' => ∃ v0 : Value,e = .returned (v0) ∧ Ext w w' ∧ Fr (owL rI 2) w.heap.size w'.heap.size w'.heap v0 (addS a b)) := by
 refine calls_mk [va,vb] 30 Tryz.func158 rfl rfl sM ?_
 have hE0 : Ext w w := Ext.refl w
 have hl_va := ha.lenle
 have hl_vb := hb.lenle
 refine wp_seq (wp_plain _ [0] rfl (lw_tvn 1 rfl (wp_seq (wp_plain _ [0,0,3,0] rfl (lw_tv 1 rfl (q_len (v := va) u25 rfl ha.isSl zN (r_make (n := a.length) u25 ti2 rfl rfl rfl sD zN fun v1 w1 hX1 hz1 hO1 => ?_)))))))
 have hzs1:=hX1.size
 have hE1:=hE0.trans hX1
 refine lw_tvn 1 rfl (wp_seq (wp_seq (wp_plain _ [0,0,0] rfl (lw_tv 1 rfl (q_len (v := va) u25 rfl ha.isSl zN (lw_tvn 1 rfl (wp_block ?_)))))))
 refine c_loop (S := Nat) (fun (k : Nat) => ([(12,(.int .i64 ((k :Nat):Int))),(0,va),(1,vb),(5,v1),(11,(.int .i64 ((a.length :Nat):Int)))] : List (Nat × Value))) (fun (k : Nat) (W : World) => Ext w W ∧ Fr (owL rI 2) w.heap.size W.heap.size W.heap v1 (mix k (addS a b) (List.replicate a.length 0)) ∧ k ≤ a.length) (fun (k : Nat) => a.length - k) 0 ⟨rfl,rfl,rfl,rfl,rfl,trivial⟩ ⟨hE1,(by rw [mix_zero]; exact hO1.up o1),sD⟩ ?_
 clear hE0 hO1 hz1 hX1 hzs1 hE1
 rintro k ρ2 w2 ⟨hE2,hL2_0,hp2_0⟩
 have hzs2 : w.heap.size ≤ w2.heap.size := hE2.size
 have hml := mix_len k (addS a b) (List.replicate a.length 0) sM
 rw [List.length_replicate] at hml
 have hga := allN_get hqa k
 have hgb := allN_get hqb k
 refine wp_seq (wp_plain _ [0] rfl ?_)
 by_cases hc3 : ((k :Nat):Int) < ((a.length :Nat):Int)
 ·
  refine q_lss true rfl rfl (decide_eq_true hc3) zN (lw_nil (wp_seq (c_cond_t rfl (wp_skip (wp_seq (wp_block (wp_seq (wp_plain _ [0,0] rfl (lw_tvn 2 rfl (wp_draw _ [0,0,0,0,0,1,0,0,0,1,0,0,0,4] mixed (by kernel_rfl) (lw_tv 4 rfl (q_idx (v := va) k u25 ti2 rfl rfl ha.isSl rfl sD zN ?_))))))))))))
  refine q_load (p := eptr va k 1) (.inl rfl) (.int .i64 (a.getD k 0)) one2 rfl (ldH_ext hE2.drew (ha.getI sD).1) zN (lw_tv 2 rfl ?_)
  refine q_idx (v := vb) k u25 ti2 rfl rfl hb.isSl rfl sD zN ?_
  refine q_load (p := eptr vb k 1) (.inl rfl) (.int .i64 (b.getD k 0)) one2 rfl (ldH_ext hE2.drew (hb.getI sD).1) zN (q_add (wr ((a.getD k 0) + (b.getD k 0))) rfl rfl rfl zN (q_rem (md (a.getD k 0 + b.getD k 0)) rfl rfl (by decide) (nadd_eq hga hgb) zN ?_))
  refine q_idx (v := v1) k u25 ti2 rfl rfl hL2_0.isSl rfl sD zN (e_setI (v := v1) (w := w2.drew) sz2 rfl rfl (md_rng _) hL2_0 sD zN fun w4 F4 hC4 hz4 hF4 hO4 => ?_)
  replace hC4 := hC4.of_drew
  have hE4 : Ext w w4 := hC4.below hE2 (fun c hc => Nat.le_trans (Nat.le_refl _) (hF4 c hc).1) hE2.size
  have hzs4:=hC4.size
  refine lw_nil (wp_plain _ [0,0] rfl (q_add ((k + 1 :Nat):Int) rfl rfl (w64n oM sD) zN (lw_tvn 1 rfl ?_)))
  exact ⟨(k + 1),_,rfl,⟨rfl,rfl,rfl,rfl,rfl,trivial⟩,⟨hE4,(by unfold addS; rw [mix_tab sM oM]; exact hO4.up o1),sD⟩,by first | omega | (dsimp only; omega)⟩
 ·
  exact q_lss false rfl rfl (decide_eq_false hc3) zN (lw_nil (wp_seq (c_cond_f rfl (wp_exit (t_exit (t_exit (c_exit_here (wp_seq (wp_plain _ [0,0] rfl (lw_tvn 2 rfl (wp_ret (post_ret [4] rfl v1 rfl ⟨v1,rfl,hE2,(by have h := hL2_0.up o1; rwa [mix_all sM (by simp; omega)] at h)⟩))))))))))))
theorem c_impl_reduced (w : World) (va : Value) (a : List Int) (vb : Value) (b : List Int) (ha : Rd (rdL rI) w.heap va a) (hb : Rd (rdL rI) w.heap vb b) (hla : a.length ≤ 1000000000000) (hlb : b.length ≤ 1000000000000) (hl : a.length ≤ b.length) (hqa : allN a = true) (hqb : allN b = true) :
  Calls Tryz.prog 159 #[va,vb] w (fun e w' => ∃ v0 : Value,e = .returned (v0) ∧ Ext w w' ∧ Fr (owL rI 2) w.heap.size w'.heap.size w'.heap v0 (redS a b)) := by
 refine calls_mk [va,vb] 9 Tryz.func159 rfl rfl sM ?_
 have hE0 : Ext w w := Ext.refl w
 have hl_va := ha.lenle
 have hl_vb := hb.lenle
 refine wp_seq (wp_plain _ [0] rfl (lw_tvn 1 rfl (wp_seq (wp_plain _ [0,0,3,3,0] rfl (lw_tv 2 rfl (lw_call 161 [] [] [vb,(.int .i64 ((1000002 :Nat):Int))] rfl rfl cf161 zN (c_impl_scaled _ _ _ _ (hb.ext g1 hE0) oM (by exact hlb) (by exact hqb) oM) ?_))))))
 rintro e1 w1 ⟨v1_0,rfl,hX1,hO1_0⟩
 refine ⟨_,rfl,hX1,?_⟩
 have hzs1:=hX1.size
 have hE1:=hE0.trans hX1
 refine lw_call 158 [] [] [va,v1_0] rfl rfl cf158 zN (c_impl_added _ _ _ _ _ (ha.ext g1 hE1) hO1_0.rd1 (by exact hla) (by simp; omega) (by exact hqa) (by exact sclS_num _ _)) ?_
 rintro e2 w2 ⟨v2_0,rfl,hX2,hO2_0⟩
 refine ⟨_,rfl,hX2,?_⟩
 have hzs2:=hX2.size
 have hE2:=hE1.trans hX2
 have hO1_0x2 := hO1_0.ext (o1) hX2
 exact lw_tvn 1 rfl (wp_ret (post_ret [4] rfl v2_0 rfl ⟨v2_0,rfl,hE2,(by rw [← red_eq hl]; exact (hO2_0.up o1).low hE1.size)⟩))
theorem c_impl_product (w : World) (va : Value) (a : List Int) (vb : Value) (b : List Int) (ha : Rd (rdL rI) w.heap va a) (hb : Rd (rdL rI) w.heap vb b) (hla : a.length ≤ 1000000000000) (hl : a.length ≤ b.length) (hqa : allN a = true) (hqb : allN b = true) :
  Calls Tryz.prog 160 #[va,vb] w (fun e w' => ∃ v0 : Value,e = .returned (v0) ∧ Ext w w' ∧ Fr (owL rI 2) w.heap.size w'.heap.size w'.heap v0 (proS a b)) := by
 refine calls_mk [va,vb] 43 Tryz.func160 rfl rfl sM ?_
 have hE0 : Ext w w := Ext.refl w
 have hl_va := ha.lenle
 have hl_vb := hb.lenle
 refine wp_seq (wp_plain _ [0] rfl (lw_tvn 1 rfl (wp_seq (wp_plain _ [0,0,3,0] rfl (lw_tv 1 rfl (q_len (v := va) u25 rfl ha.isSl zN (r_make (n := a.length) u25 ti2 rfl rfl rfl sD zN fun v1 w1 hX1 hz1 hO1 => ?_)))))))
 have hzs1:=hX1.size
 have hE1:=hE0.trans hX1
 refine lw_tvn 1 rfl (wp_seq (wp_seq (wp_plain _ [0,0,0] rfl (lw_tv 1 rfl (q_len (v := va) u25 rfl ha.isSl zN (lw_tvn 1 rfl (wp_block ?_)))))))
 refine c_loop (S := Nat) (fun (k : Nat) => ([(13,(.int .i64 ((k :Nat):Int))),(0,va),(1,vb),(5,v1),(12,(.int .i64 ((a.length :Nat):Int)))] : List (Nat × Value))) (fun (k : Nat) (W : World) => Ext w W ∧ Fr (owL rI 2) w.heap.size W.heap.size W.heap v1 (mix k (proS a b) (List.replicate a.length 0)) ∧ k ≤ a.length) (fun (k : Nat) => a.length - k) 0 ⟨rfl,rfl,rfl,rfl,rfl,trivial⟩ ⟨hE1,(by rw [mix_zero]; exact hO1.up o1),sD⟩ ?_
 clear hE0 hO1 hz1 hX1 hzs1 hE1
 rintro k ρ2 w2 ⟨hE2,hL2_0,hp2_0⟩
 have hzs2 : w.heap.size ≤ w2.heap.size := hE2.size
 have hml := mix_len k (proS a b) (List.replicate a.length 0) sM
 rw [List.length_replicate] at hml
 have hga := allN_get hqa k
 refine wp_seq (wp_plain _ [0] rfl ?_)
 by_cases hc3 : ((k :Nat):Int) < ((a.length :Nat):Int)
 ·
  refine q_lss true rfl rfl (decide_eq_true hc3) zN (lw_nil (wp_seq (c_cond_t rfl (wp_skip (wp_seq (wp_block (wp_seq (wp_plain _ [0,0] rfl (lw_tvn 2 rfl (wp_seq (wp_plain _ [0] rfl (lw_tvn 1 rfl (wp_block ?_)))))))))))))
  refine c_loop (S := Nat) (fun (i : Nat) => ([(7,(.int .i64 ((i :Nat):Int))),(0,va),(1,vb),(5,v1),(6,(.int .i64 ((k :Nat):Int))),(12,(.int .i64 ((a.length :Nat):Int))),(13,(.int .i64 ((k :Nat):Int)))] : List (Nat × Value))) (fun (i : Nat) (W : World) => Ext w W ∧ Fr (owL rI 2) w.heap.size W.heap.size W.heap v1 ((mix k (proS a b) (List.replicate a.length 0)).set k (prk a b k i)) ∧ i ≤ k + 1) (fun (i : Nat) => k + 1 - i) 0 ⟨rfl,rfl,rfl,rfl,rfl,rfl,rfl,trivial⟩ ⟨hE2,(by have h := hL2_0.up o1; rw [← mix_rep0 (T := proS a b) sM oM] at h; exact h),sD⟩ ?_
  clear hL2_0 hE2 hzs2
  rintro i ρ4 w4 ⟨hE4,hL4_0,hp4_0⟩
  have hzs4 : w.heap.size ≤ w4.heap.size := hE4.size
  have hms : ((mix k (proS a b) (List.replicate a.length 0)).set k (prk a b k i)).length = a.length := by rw [List.length_set]; exact hml
  refine wp_seq (wp_seq (wp_plain _ [0,0,0] rfl (lw_tv 2 rfl ?_)))
  by_cases hc5 : ((i :Nat):Int) ≤ ((k :Nat):Int)
  ·
   refine q_leq true rfl rfl (decide_eq_true hc5) zN (lw_nil (c_cond_t rfl (wp_skip (wp_seq (wp_block (wp_draw _ [0,0,0,0,0,1,0,0,0,1,0,0,0,0,0,1,0,0,0,0,4] mixed (by kernel_rfl) (lw_tv 4 rfl (q_idx (v := v1) k u25 ti2 rfl rfl hL4_0.isSl rfl sD zN ?_))))))))
   refine q_load (p := eptr v1 k 1) (.inl rfl) (.int .i64 (((mix k (proS a b) (List.replicate a.length 0)).set k (prk a b k i)).getD k 0)) one2 rfl (hL4_0.rd1.getI sD).1 zN (lw_tv 2 rfl ?_)
   refine q_idx (v := va) i u25 ti2 rfl rfl ha.isSl rfl sD zN ?_
   refine q_load (p := eptr va i 1) (.inl rfl) (.int .i64 (a.getD i 0)) one2 rfl (ldH_ext hE4.drew (ha.getI sD).1) zN (lw_tv 3 rfl (q_sub ((k - i :Nat):Int) rfl rfl (w64n oM oM) zN ?_))
   refine q_idx (v := vb) (k - i) u25 ti2 rfl rfl hb.isSl rfl sD zN ?_
   refine q_load (p := eptr vb (k - i) 1) (.inl rfl) (.int .i64 (b.getD (k - i) 0)) one2 rfl (ldH_ext hE4.drew (hb.getI sD).1) zN (q_mul (wr ((a.getD i 0) * (b.getD (k - i) 0))) rfl rfl rfl zN (q_add (wr ((((mix k (proS a b) (List.replicate a.length 0)).set k (prk a b k i)).getD k 0) + (wr ((a.getD i 0) * (b.getD (k - i) 0))))) rfl rfl rfl zN ?_))
   refine q_rem (md (prk a b k i + a.getD i 0 * b.getD (k - i) 0)) rfl rfl (by decide) (by rw [getD_set _ _ _ _ _ oM,if_pos rfl]; exact dot_eq (prk_num _ _ _ _) (allN_get hqa _) (allN_get hqb _)) zN (q_idx (v := v1) k u25 ti2 rfl rfl hL4_0.isSl rfl sD zN ?_)
   refine e_setI (v := v1) (w := w4.drew) sz2 rfl rfl (md_rng _) hL4_0 sD zN fun w6 F6 hC6 hz6 hF6 hO6 => ?_
   replace hC6 := hC6.of_drew
   have hE6 : Ext w w6 := hC6.below hE4 (fun c hc => Nat.le_trans (Nat.le_refl _) (hF6 c hc).1) hE4.size
   have hzs6:=hC6.size
   refine lw_nil (wp_plain _ [0,0,0] rfl (lw_tv 1 rfl (q_add ((i + 1 :Nat):Int) rfl rfl (w64n oM sD) zN (lw_tvn 1 rfl ?_))))
   exact ⟨(i + 1),_,rfl,⟨rfl,rfl,rfl,rfl,rfl,rfl,rfl,trivial⟩,⟨hE6,(by have h := hO6.up o1; rw [List.set_set] at h; exact h),sD⟩,by first | omega | (dsimp only; omega)⟩
  ·
   refine q_leq false rfl rfl (decide_eq_false hc5) zN (lw_nil (c_cond_f rfl (wp_exit (t_exit (t_exit (c_exit_here (wp_plain _ [0,0] rfl (q_add ((k + 1 :Nat):Int) rfl rfl (w64n oM sD) zN (lw_tvn 1 rfl ?_)))))))))
   exact ⟨(k + 1),_,rfl,⟨rfl,rfl,rfl,rfl,rfl,trivial⟩,⟨hE4,(by have h := hL4_0.up o1; rw [show i = k + 1 from by omega] at h; unfold proS; rw [mix_tab sM oM]; exact h),sD⟩,by first | omega | (dsimp only; omega)⟩
 ·
  exact q_lss false rfl rfl (decide_eq_false hc3) zN (lw_nil (wp_seq (c_cond_f rfl (wp_exit (t_exit (t_exit (c_exit_here (wp_seq (wp_plain _ [0,0] rfl (lw_tvn 2 rfl (wp_ret (post_ret [4] rfl v1 rfl ⟨v1,rfl,hE2,(by have h := hL2_0.up o1; rwa [mix_all sM (by simp; omega)] at h)⟩))))))))))))
theorem c_impl_quotient (w : World) (va : Value) (a : List Int) (vb : Value) (b : List Int) (ha : Rd (rdL rI) w.heap va a) (hb : Rd (rdL rI) w.heap vb b) (hla : a.length ≤ 1000000000000) (hl : a.length ≤ b.length) (h1 : 0 < b.length) (hqa : allN a = true) (hqb : allN b = true) :
  Calls Tryz.prog 162 #[va,vb] w (fun e w' => ∃ v0 : Value,e = .returned (v0) ∧ Ext w w' ∧ Fr (owL rI 2) w.heap.size w'.heap.size w'.heap v0 (quoS a b)) := by
 refine calls_mk [va,vb] 53 Tryz.func162 rfl rfl sM ?_
 have hE0 : Ext w w := Ext.refl w
 have hl_va := ha.lenle
 have hl_vb := hb.lenle
 refine wp_seq (wp_plain _ [0] rfl (lw_tvn 1 rfl (wp_seq (wp_draw _ [0,0,3,0,0,1,0,0,0] mixed (by kernel_rfl) (lw_tv 1 rfl (q_len (v := va) u25 rfl ha.isSl zN (r_make (n := a.length) u25 ti2 rfl rfl rfl sD zN fun v1 w1 hX1 hz1 hO1 => ?_)))))))
 replace hX1 := hX1.of_drew
 have hzs1:=hX1.size
 have hE1:=hE0.trans hX1
 refine lw_tv 1 rfl (q_idx (v := vb) 0 u25 ti2 rfl rfl hb.isSl rfl sD zN ?_)
 refine q_load (p := eptr vb 0 1) (.inl rfl) (.int .i64 (b.getD 0 0)) one2 rfl (ldH_ext hE0.drew (hb.getI sD).1) zN ?_
 refine lw_callq 133 [] [] [(.int .i64 (b.getD 0 0))] rfl rfl cf133 zN (.int .i64 (inv (b.getD 0 0))) (fun wq => c_impl_inverse wq _ (hb.getI sD).2) (lw_tvn 2 rfl (wp_seq (wp_seq (wp_plain _ [0,0,0] rfl (lw_tv 1 rfl (q_len (v := va) u25 rfl ha.isSl zN (lw_tvn 1 rfl (wp_block ?_))))))))
 refine c_loop (S := Nat) (fun (k : Nat) => ([(19,(.int .i64 ((k :Nat):Int))),(0,va),(1,vb),(5,v1),(6,(.int .i64 (inv (b.getD 0 0)))),(18,(.int .i64 ((a.length :Nat):Int)))] : List (Nat × Value))) (fun (k : Nat) (W : World) => Ext w W ∧ Fr (owL rI 2) w.heap.size W.heap.size W.heap v1 (mix k (quoS a b) (List.replicate a.length 0)) ∧ k ≤ a.length) (fun (k : Nat) => a.length - k) 0 ⟨rfl,rfl,rfl,rfl,rfl,rfl,trivial⟩ ⟨hE1,(by rw [mix_zero]; exact hO1.up o1),sD⟩ ?_
 clear hE0 hO1 hz1 hX1 hzs1 hE1
 rintro k ρ3 w3 ⟨hE3,hL3_0,hp3_0⟩
 have hzs3 : w.heap.size ≤ w3.heap.size := hE3.size
 have hml := mix_len k (quoS a b) (List.replicate a.length 0) sM
 rw [List.length_replicate] at hml
 have hga := allN_get hqa k
 refine wp_seq (wp_plain _ [0] rfl ?_)
 by_cases hc4 : ((k :Nat):Int) < ((a.length :Nat):Int)
 ·
  refine q_lss true rfl rfl (decide_eq_true hc4) zN (lw_nil (wp_seq (c_cond_t rfl (wp_skip (wp_seq (wp_block (wp_seq (wp_plain _ [0,0] rfl (lw_tvn 2 rfl (wp_seq (wp_plain _ [0,0,0,2,0] rfl (lw_tv 2 rfl (q_idx (v := va) k u25 ti2 rfl rfl ha.isSl rfl sD zN ?_)))))))))))))
  refine q_load (p := eptr va k 1) (.inr rfl) (.int .i64 (a.getD k 0)) one2 rfl (ldH_ext hE3 (ha.getI sD).1) zN (lw_tvn 1 rfl (wp_seq (wp_seq (wp_plain _ [0] rfl (lw_tvn 1 rfl (wp_block ?_))))))
  refine c_loop (S := Nat × Int) (fun (⟨i,t⟩ : Nat × Int) => ([(8,(.int .i64 t)),(9,(.int .i64 ((i :Nat):Int))),(0,va),(1,vb),(5,v1),(6,(.int .i64 (inv (b.getD 0 0)))),(7,(.int .i64 ((k :Nat):Int))),(18,(.int .i64 ((a.length :Nat):Int))),(19,(.int .i64 ((k :Nat):Int)))] : List (Nat × Value))) (fun (⟨i,t⟩ : Nat × Int) (W : World) => Ext w W ∧ Fr (owL rI 2) w.heap.size w3.heap.size W.heap v1 (mix k (quoS a b) (List.replicate a.length 0)) ∧ i ≤ k ∧ t = qrk a b (quoS a b) k i ∧ (0 ≤ t ∧ t < 1000003)) (fun (⟨i,t⟩ : Nat × Int) => k - i) (0,(a.getD k 0)) ⟨rfl,rfl,rfl,rfl,rfl,rfl,rfl,rfl,rfl,trivial⟩ ⟨hE3,hL3_0,sD,(by rfl),(by exact allN_get hqa k)⟩ ?_
  clear hL3_0
  rintro ⟨i,t⟩ ρ5 w5 ⟨hE5,hL5_0,hp5_0,ht,htr⟩
  have hzs5 : w.heap.size ≤ w5.heap.size := hE5.size
  refine wp_seq (wp_seq (wp_plain _ [0,0,0] rfl (lw_tv 2 rfl ?_)))
  by_cases hc6 : ((i :Nat):Int) < ((k :Nat):Int)
  ·
   refine q_lss true rfl rfl (decide_eq_true hc6) zN (lw_nil (c_cond_t rfl (wp_skip (wp_seq (wp_block (wp_draw _ [0,0,0,0,1,0,0,0,0,0,1,0,0,0] mixed (by kernel_rfl) (lw_tv 3 rfl (q_idx (v := v1) i u25 ti2 rfl rfl hL5_0.isSl rfl sD zN ?_))))))))
   refine q_load (p := eptr v1 i 1) (.inl rfl) (.int .i64 ((mix k (quoS a b) (List.replicate a.length 0)).getD i 0)) one2 rfl (hL5_0.rd1.getI sD).1 zN (lw_tv 3 rfl (q_sub ((k - i :Nat):Int) rfl rfl (w64n oM oM) zN ?_))
   refine q_idx (v := vb) (k - i) u25 ti2 rfl rfl hb.isSl rfl sD zN ?_
   refine q_load (p := eptr vb (k - i) 1) (.inl rfl) (.int .i64 (b.getD (k - i) 0)) one2 rfl (ldH_ext hE5.drew (hb.getI sD).1) zN (q_mul (wr (((mix k (quoS a b) (List.replicate a.length 0)).getD i 0) * (b.getD (k - i) 0))) rfl rfl rfl zN ?_)
   refine lw_callq 169 [] [] [(.int .i64 t),(.int .i64 (wr (((mix k (quoS a b) (List.replicate a.length 0)).getD i 0) * (b.getD (k - i) 0))))] rfl rfl cf169 zN (.int .i64 (md (t - (wr (((mix k (quoS a b) (List.replicate a.length 0)).getD i 0) * (b.getD (k - i) 0)))))) (fun wq => c_impl_minus wq _ _ oM (wr_rng _)) (lw_tvn 1 rfl (wp_plain _ [0,0,0] rfl (lw_tv 1 rfl (q_add ((i + 1 :Nat):Int) rfl rfl (w64n oM sD) zN (lw_tvn 1 rfl ?_)))))
   exact ⟨((i + 1),(md (t - (wr (((mix k (quoS a b) (List.replicate a.length 0)).getD i 0) * (b.getD (k - i) 0)))))),_,rfl,⟨rfl,rfl,rfl,rfl,rfl,rfl,rfl,rfl,rfl,trivial⟩,⟨hE5.drew,hL5_0,sD,(by rw [ht,mix_lt 0 oM (by simp; omega)]; exact quo_step (quoS_num a b) hqb),(by exact md_num _)⟩,by first | omega | (dsimp only; omega)⟩
  ·
   refine q_lss false rfl rfl (decide_eq_false hc6) zN (lw_nil (c_cond_f rfl (wp_exit (t_exit (t_exit (c_exit_here (wp_plain _ [0,0,0,0,0,0,0,4] rfl (lw_tv 4 rfl (q_mul (wr (t * (inv (b.getD 0 0)))) rfl rfl rfl zN (q_rem (md (t * inv (b.getD 0 0))) rfl rfl (by decide) (nm_eq htr (inv_num _)) zN (q_idx (v := v1) k u25 ti2 rfl rfl hL5_0.isSl rfl sD zN ?_)))))))))))
   refine e_setI (v := v1) (w := w5) sz2 rfl rfl (md_rng _) hL5_0 sD zN fun w8 F8 hC8 hz8 hF8 hO8 => ?_
   have hE8 : Ext w w8 := hC8.below hE5 (fun c hc => Nat.le_trans (Nat.le_refl _) (hF8 c hc).1) hE5.size
   have hzs8:=hC8.size
   refine lw_nil (wp_plain _ [0,0] rfl (q_add ((k + 1 :Nat):Int) rfl rfl (w64n oM sD) zN (lw_tvn 1 rfl ?_)))
   exact ⟨(k + 1),_,rfl,⟨rfl,rfl,rfl,rfl,rfl,rfl,trivial⟩,⟨hE8,(by have h := hO8.up o1; rw [ht,show i = k from by omega] at h; rw [← quo_set oM sM]; exact h),sD⟩,by first | omega | (dsimp only; omega)⟩
 ·
  exact q_lss false rfl rfl (decide_eq_false hc4) zN (lw_nil (wp_seq (c_cond_f rfl (wp_exit (t_exit (t_exit (c_exit_here (wp_seq (wp_plain _ [0,0] rfl (lw_tvn 2 rfl (wp_ret (post_ret [4] rfl v1 rfl ⟨v1,rfl,hE3,(by have h := hL3_0.up o1; rwa [mix_all sM (by simp; omega)] at h)⟩))))))))))))
end Go.Proofs.YtnofbmdpabcjaaaGreat
