/- Rows of a matrix that a function is handed to write: taken out and laid back. No condition. -/
import Derived.Test.YtjgnlnlngcjfcaaFwH
namespace Go.Proofs.Ytjgnlnlngcjfcaa
open Go Go.RowKit

theorem own_rdI2 {e e' : TypeId} {H : Array Obj} {v : Value} {xs : List (List Int)} {F : List Nat} (h : owL (owL rI e) e' H v xs F) : Rd (rdL (rdL rI)) H v xs := ⟨F, h.rd fun h => h.rd id⟩

/-- One row of a matrix that is known by its blocks. -/
theorem own_row {α : Type} {E : Stand α} {e : TypeId} (hE : Good E) {w : World} {v : Value} {xs : List α} {F0 : List Nat} (d : α) (h1 : owL E e w.heap v xs F0) (h2 : F0.Nodup) {r : Nat} (hr : r < xs.length) {u : Value} (hu : ldH w.heap (eptr v r 1) = some u) :
    ∃ G, E w.heap u (xs.getD r d) G ∧ G.Nodup ∧ (∀ b ∈ G, b ∈ F0) ∧ ∀ {w' : World} {y : α}, Chg G w w' → E w'.heap u y G → owL E e w'.heap v (xs.set r y) F0 := by
  rcases h1 with ⟨rfl, rfl, rfl⟩ | ⟨us, g, cap, cur, F', hels, rfl, hg, r1, r2, r3, r4, rfl⟩
  · simp at hr
  · have hn := List.nodup_cons.1 h2
    have ld : ∀ c, c < xs.length → ldH w.heap (eptr (.slice (some ⟨g, 0, none⟩) xs.length cap) c 1) = us[c]? := by
      intro c hc
      rw [eptr_mk]
      simp only [ldH, cellH, hg, Nat.zero_add]
      rw [← r4, List.getElem?_take, if_pos hc]
      simp
    obtain ⟨Fs, q1, q2, rfl, q4⟩ := els.perm.1 hels
    have hus : us[r]'(by omega) = u := by
      rw [ld r hr] at hu
      have : us[r]? = some (us[r]'(by omega)) := by simp
      rw [this] at hu
      exact Option.some.inj hu
    have hget : ∀ c (hc : c < xs.length), xs.getD c d = xs[c] := fun c hc => by simp [hc]
    have hmem : ∀ c (hc : c < Fs.length), ∀ b ∈ Fs[c], b ∈ Fs.flatten := fun c hc b hb => List.mem_flatten.2 ⟨_, List.getElem_mem hc, hb⟩
    have hdis : ∀ c c' (hc : c < Fs.length) (hc' : c' < Fs.length), c ≠ c' → ∀ b ∈ Fs[c], b ∉ Fs[c'] := by
      intro c c' hc hc' hne b hb hb'
      have hp := (List.pairwise_flatten.1 hn.2).2
      rcases Nat.lt_or_gt_of_ne hne with hh | hh
      · exact (List.pairwise_iff_getElem.1 hp c c' hc hc' hh) b hb b hb' rfl
      · exact (List.pairwise_iff_getElem.1 hp c' c hc' hc hh) b hb' b hb rfl
    refine ⟨Fs[r]'(by omega), by rw [← hus, hget r hr]; exact q4 r _ _ _, (List.pairwise_flatten.1 hn.2).1 _ (List.getElem_mem _), fun b hb => List.mem_cons_of_mem _ (hmem r (by omega) b hb), ?_⟩
    intro w' y hc hy
    refine .inr ⟨us, g, cap, cur, Fs.flatten, els.perm.2 ⟨Fs, by simpa using q1, by simpa using q2, rfl, fun k k1 k2 k3 => ?_⟩, by simp, ?_, by simpa using r1, r2, r3, by simpa using r4, rfl⟩
    · by_cases hk : r = k
      · subst hk
        simp only [List.getElem_set_self, hus]
        exact hy
      · simp only [List.getElem_set_ne hk]
        exact hE.stable (q4 k _ (by simpa using k2) k3) fun b hb => hc.block b (hels.lt hE b (hmem k k3 b hb)) (hdis k r k3 (by omega) (Ne.symm hk) b hb)
    · rw [hc.block g (getElem?_lt hg) fun hm => hn.1 (hmem r (by omega) g hm)]; exact hg
/-- A matrix that is owned, beside blocks that it does not touch. -/
def FrX (e e' : TypeId) (B : Nat) (X : List Nat) (H : Array Obj) (v : Value) (M : List (List Int)) : Prop := ∃ F, owL (owL rI e) e' H v M F ∧ F.Nodup ∧ ∀ b ∈ F, B ≤ b ∧ b ∉ X

/-- The same, where row r is about to be replaced by u. -/
def Pnd (e e' : TypeId) (B : Nat) (X : List Nat) (H : Array Obj) (v : Value) (r : Nat) (u : Value) (M : List (List Int)) : Prop :=
  ∃ us g cap cur F, els (owL rI e) H (us.set r u) M F ∧ r < us.length ∧ us.length = M.length ∧ v = .slice (some ⟨g, 0, none⟩) M.length cap ∧ H[g]? = some (.cells cur e' (0, 0)) ∧ M.length ≤ cap ∧ cap ≤ maxLen ∧ cur.size = cap ∧
    cur.toList.take M.length = us ∧ (g :: F).Nodup ∧ ∀ b ∈ g :: F, B ≤ b ∧ b ∉ X

theorem int_blocks {H : Array Obj} {v : Value} {xs : List Int} {G : List Nat} (hG : rdL rI H v xs G) : G.drop 1 = [] := by
  rcases hG with ⟨_, _, _, _, rfl⟩ | ⟨us, g, off, cap, cur, e', fr, F', hels, _, _, _, _, rfl⟩
  · rfl
  · show F' = []
    have : ∀ {us : List Value} {xs : List Int} {F : List Nat}, els rI H us xs F → F = [] := by
      intro us xs
      induction us generalizing xs with
      | nil => intro F h; cases xs with
        | nil => exact h
        | cons => exact h.elim
      | cons u us ih =>
        intro F h
        cases xs with
        | nil => exact h.elim
        | cons x xs =>
          obtain ⟨F1, F2, rfl, q1, q2⟩ := h
          rw [q1.2.1, ih q2]; rfl
    exact this hels

section run
variable {P : Program} {w : World} {e e' t : TypeId} {B : Nat} {X : List Nat} {v u a z : Value} {M : List (List Int)} {ys : List Int} {r b : Nat} {ty : TypeId}

theorem run_setP {st : TypeId} (hst : (P.info? st).map (·.size) = some 1) (h : Pnd e e' B X w.heap v r u M) :
    ∃ w' G, (Instr.storeAt st (eptr v r 1) u).run P w = .ok () w' ∧ FrX e e' B X w'.heap v M ∧ Chg G w w' ∧ (∀ b ∈ G, B ≤ b ∧ b ∉ X ∧ b < w.heap.size) ∧ w'.heap.size = w.heap.size := by
  obtain ⟨us, g, cap, cur, F, hels, hr, hl, rfl, hgc, r1, r2, r3, r4, hn, hX⟩ := h
  have hn' := List.nodup_cons.1 hn
  obtain ⟨Fs, q1, q2, hF, q4⟩ := els.perm.1 hels
  have hE := q4 r (by simp; omega) (by omega) (by omega)
  simp only [List.getElem_set_self] at hE
  rw [eptr_mk, Nat.zero_add]
  refine ⟨_, [g], run_store1 hst hgc (by omega) (o1.cells hE) (o1.one hE), ⟨g :: F, .inr ⟨us.set r u, g, cap, _, F, ?_, rfl, heap_set hgc, r1, r2, by simpa using r3, ?_, rfl⟩, hn, hX⟩, chg_set _ _ _ _, ?_, by simp [World.setCell]⟩
  · exact hels.stable o1 fun c hc => Below.heap_setCell _ _ _ _ fun he => by
      simp only at he
      subst he
      exact hn'.1 hc
  · rw [Array.toList_setIfInBounds, List.take_set, r4]
  · intro c hc
    have : c = g := by simpa using hc
    subst this
    exact ⟨(hX c (List.mem_cons_self ..)).1, (hX c (List.mem_cons_self ..)).2, getElem?_lt hgc⟩

theorem run_appP (ht : P.underlying t = some (.slice e)) (hi : TI P e 1 z b) (hz : z.cells = #[z]) (hx : FrX e e' B X w.heap v M) (hB : B ≤ w.heap.size) (hXs : ∀ b ∈ X, b < w.heap.size) (hr : r < M.length) (hu : ldH w.heap (eptr v r 1) = some u)
    (ha : Rd (rdL rI) w.heap a ys) (hbytes : ((M.getD r []).length + ys.length) * b ≤ 140737488355328) (hmx : (M.getD r []).length + ys.length ≤ maxLen) :
    ∃ u' w' G, (Builtin.append_ #[t, t] ty #[u, a]).run P w = .ok u' w' ∧ Pnd e e' B X w'.heap v r u' (M.set r (M.getD r [] ++ ys)) ∧ Chg G w w' ∧ ∀ b ∈ G, B ≤ b ∧ b ∉ X ∧ b < w.heap.size := by
  obtain ⟨F, h1, h2, h3⟩ := hx
  obtain ⟨G, hG⟩ := ha
  have hGe := int_blocks hG
  rcases h1 with ⟨rfl, rfl, rfl⟩ | ⟨us, g, cap, cur, F', hels, rfl, hg, r1, r2, r3, r4, rfl⟩
  · simp at hr
  · have hn := List.nodup_cons.1 h2
    obtain ⟨Fs, q1, q2, rfl, q4⟩ := els.perm.1 hels
    have hus : us[r]'(by omega) = u := by
      rw [eptr_mk] at hu
      simp only [ldH, cellH, hg, Nat.zero_add] at hu
      have ld : cur[r]? = us[r]? := by rw [← r4, List.getElem?_take, if_pos hr]; simp
      rw [ld] at hu
      have hs : us[r]? = some (us[r]'(by omega)) := by simp
      rw [hs] at hu
      exact Option.some.inj hu
    have hget : M.getD r [] = M[r] := by simp [hr]
    have hrow := q4 r (by omega) hr (by omega)
    rw [hus] at hrow
    have hpw := List.pairwise_flatten.1 hn.2
    have hmem : ∀ c (hc : c < Fs.length), ∀ b ∈ Fs[c], b ∈ Fs.flatten := fun c hc b hb => List.mem_flatten.2 ⟨_, List.getElem_mem hc, hb⟩
    have hdis : ∀ c c' (hc : c < Fs.length) (hc' : c' < Fs.length), c ≠ c' → ∀ b ∈ Fs[c], b ∉ Fs[c'] := by
      intro c c' hc hc' hne b hb hb'
      rcases Nat.lt_or_gt_of_ne hne with hh | hh
      · exact (List.pairwise_iff_getElem.1 hpw.2 c c' hc hc' hh) b hb b hb' rfl
      · exact (List.pairwise_iff_getElem.1 hpw.2 c' c hc' hc hh) b hb' b hb rfl
    have hlt : ∀ c (hc : c < Fs.length), ∀ b ∈ Fs[c], b < w.heap.size := fun c hc b hb => hels.lt o1 b (hmem c hc b hb)
    obtain ⟨u', w', F2, p1, p2, p3, p4, p5⟩ := run_app (P := P) (ty := ty) good_rI ht hi hz hrow (hpw.1 _ (List.getElem_mem (show r < Fs.length by omega))) hG rfl (by rw [← hget]; exact hbytes) (by rw [← hget]; exact hmx) (by rw [hGe]; intro c hc; cases hc) (by rw [hGe]; exact List.nodup_nil)
    have hF2 : ∀ c ∈ F2, c ∈ Fs[r]'(by omega) ∨ c = w.heap.size := fun c hc => by
      rcases p4 c hc with hh | hh | hh
      · exact .inl hh
      · rw [hGe] at hh; cases hh
      · exact .inr hh
    have hgsz := getElem?_lt hg
    refine ⟨u', w', (Fs[r]'(by omega)).take 1, p1, ⟨us, g, cap, cur, (Fs.set r F2).flatten, els.perm.2 ⟨Fs.set r F2, by simpa using q1, by simpa using q2, rfl, fun k k1 k2 k3 => ?_⟩, by omega, by simpa using q2, by simp, ?_, by simpa using r1, r2, r3, by simpa using r4, ?_, ?_⟩, p5, ?_⟩
    · by_cases hk : r = k
      · subst hk
        simp only [List.getElem_set_self]
        rw [hget]; exact p2
      · simp only [List.getElem_set_ne hk]
        simp only [List.length_set] at k1 k2 k3
        exact o1.stable (q4 k k1 k2 k3) fun b hb => p5.block b (hlt k k3 b hb) fun hm => hdis k r k3 (by omega) (Ne.symm hk) b hb (List.mem_of_mem_take hm)
    · rw [p5.block g hgsz fun hm => hn.1 (hmem r (by omega) g (List.mem_of_mem_take hm))]; exact hg
    · have hmem2 : ∀ b ∈ (Fs.set r F2).flatten, b ∈ Fs.flatten ∨ b = w.heap.size := by
        intro b hb
        obtain ⟨l, hl, hbl⟩ := List.mem_flatten.1 hb
        rcases List.mem_or_eq_of_mem_set hl with hh | rfl
        · exact .inl (List.mem_flatten.2 ⟨l, hh, hbl⟩)
        · exact (hF2 b hbl).imp (hmem r (by omega) b) id
      refine List.nodup_cons.2 ⟨fun hm => (hmem2 g hm).elim hn.1 fun h => by omega, List.pairwise_flatten.2 ⟨fun l hl => ?_, List.pairwise_iff_getElem.2 fun i j hi hj hij x hx y hy => ?_⟩⟩
      · rcases List.mem_or_eq_of_mem_set hl with hh | rfl
        · exact hpw.1 l hh
        · exact p3
      · simp only [List.length_set] at hi hj
        rintro rfl
        by_cases h1 : r = i
        · subst h1
          simp only [List.getElem_set_self, List.getElem_set_ne (show r ≠ j by omega)] at hx hy
          rcases hF2 _ hx with hh | hh
          · exact hdis r j hi hj (by omega) _ hh hy
          · have := hlt j hj _ hy; omega
        · by_cases h2 : r = j
          · subst h2
            simp only [List.getElem_set_self, List.getElem_set_ne h1] at hx hy
            rcases hF2 _ hy with hh | hh
            · exact hdis i r hi hj (by omega) _ hx hh
            · have := hlt i hi _ hx; omega
          · simp only [List.getElem_set_ne h1, List.getElem_set_ne h2] at hx hy
            exact hdis i j hi hj (by omega) _ hx hy
    · intro b hb
      rcases List.mem_cons.1 hb with rfl | hb
      · exact h3 _ (List.mem_cons_self ..)
      · obtain ⟨l, hl, hbl⟩ := List.mem_flatten.1 hb
        rcases List.mem_or_eq_of_mem_set hl with hh | rfl
        · exact h3 b (List.mem_cons_of_mem _ (List.mem_flatten.2 ⟨l, hh, hbl⟩))
        · rcases hF2 b hbl with hh | hh
          · exact h3 b (List.mem_cons_of_mem _ (hmem r (by omega) b hh))
          · exact ⟨by omega, fun hm => by have := hXs b hm; omega⟩
    · intro b hb
      have hb' := List.mem_of_mem_take hb
      have := h3 b (List.mem_cons_of_mem _ (hmem r (by omega) b hb'))
      exact ⟨this.1, this.2, hlt r (by omega) b hb'⟩
end run
theorem FrX.of {e e' : TypeId} {B U B' U' : Nat} {H : Array Obj} {v : Value} {M : List (List Int)} {X : List Nat} (h : Fr (owL (owL rI e) e') B U H v M) (hU : U ≤ B') (hX : ∀ b ∈ X, B' ≤ b ∧ b < U') : FrX e e' B X H v M := by
  obtain ⟨F, h1, h2, h3⟩ := h
  exact ⟨F, h1, h2, fun b hb => ⟨(h3 b hb).1, fun hm => by have := (h3 b hb).2; have := (hX b hm).1; omega⟩⟩
theorem FrX.fr {e e' : TypeId} {B : Nat} {H : Array Obj} {v : Value} {M : List (List Int)} {X : List Nat} (h : FrX e e' B X H v M) : Fr (owL (owL rI e) e') B H.size H v M := by
  obtain ⟨F, h1, h2, h3⟩ := h
  exact ⟨F, h1, h2, fun b hb => ⟨(h3 b hb).1, o2.lt h1 b hb⟩⟩
theorem FrX.rd2 {e e' : TypeId} {B : Nat} {H : Array Obj} {v : Value} {M : List (List Int)} {X : List Nat} (h : FrX e e' B X H v M) : Rd (rdL (rdL rI)) H v M := h.fr.rd2
theorem FrX.ext {e e' : TypeId} {B : Nat} {w w' : World} {v : Value} {M : List (List Int)} {X : List Nat} (_ : Good (owL (owL rI e) e')) (h : FrX e e' B X w.heap v M) (k : Ext w w') : FrX e e' B X w'.heap v M := by
  obtain ⟨F, h1, h2, h3⟩ := h
  exact ⟨F, o2.stable h1 fun b hb => k.heap (o2.lt h1 b hb), h2, h3⟩
theorem FrX.isSl {e e' : TypeId} {B : Nat} {H : Array Obj} {v : Value} {M : List (List Int)} {X : List Nat} (h : FrX e e' B X H v M) : isSl v M.length := h.fr.isSl
theorem Pnd.isSl {e e' : TypeId} {B r : Nat} {H : Array Obj} {v u : Value} {M : List (List Int)} {X : List Nat} (h : Pnd e e' B X H v r u M) : isSl v M.length := by
  obtain ⟨us, g, cap, cur, F, _, _, _, rfl, _⟩ := h
  exact ⟨_, _, rfl, fun h => by cases h⟩
theorem own_fr {e : TypeId} {H : Array Obj} {v : Value} {xs : List Int} {X : List Nat} {B B' U : Nat} (h : owL rI e H v xs X) (hn : X.Nodup) (hX : ∀ b ∈ X, B' ≤ b ∧ b < U) (hB : B ≤ B') : Fr (owL rI e) B H.size H v xs :=
  ⟨X, h, hn, fun b hb => ⟨Nat.le_trans hB (hX b hb).1, o1.lt h b hb⟩⟩
theorem own_keep {e : TypeId} {w w' : World} {v : Value} {xs : List Int} {X G : List Nat} (h : owL rI e w.heap v xs X) (c : Chg G w w') (hG : ∀ b ∈ G, b ∉ X) : owL rI e w'.heap v xs X :=
  o1.stable h fun b hb => c.block b (o1.lt h b hb) fun hm => hG b hm hb

section ops
variable {P : Program} {ops : Array Oper} {w0 : World} {Q : Act → World → Prop} {os : List Oper} {ks : List Nat} {N : Nat} {ρ : Nat → Value} {w : World}
  {d : Nat} {ty : TypeId} {pos : String} {aft : Array Edge} {g : Option (Nat × Bool)} {t e e' : TypeId} {z v u a : Value} {b B r : Nat} {X : List Nat} {M : List (List Int)} {ys : List Int}

theorem e_appP {x y : Operand} (ht : P.underlying t = some (.slice e)) (hi : TI P e 1 z b) (hz : z.cells = #[z]) (hx : evF N ρ x = u) (hy : evF N ρ y = a) (hv : FrX e e' B X w.heap v M) (hB : B ≤ w.heap.size) (hXs : ∀ b ∈ X, b < w.heap.size) (hr : r < M.length)
    (hl : ldH w.heap (eptr v r 1) = some u) (ha : Rd (rdL rI) w.heap a ys) (hbytes : ((M.getD r []).length + ys.length) * b ≤ 140737488355328) (hmx : (M.getD r []).length + ys.length ≤ maxLen)
    (hu : Up ops N ρ ⟨some d, .call ⟨.builtin .append, #[x, y], #[t, t]⟩, ty, pos, aft, g⟩)
    (h : ∀ u1 w1 G, Chg G w w1 → (∀ b ∈ G, B ≤ b ∧ b ∉ X ∧ b < w.heap.size) → Pnd e e' B X w1.heap v r u1 (M.set r (M.getD r [] ++ ys)) → LW P ops w0 Q os ks (mk N (upd ρ d u1)) w1) :
    LW P ops w0 Q (⟨some d, .call ⟨.builtin .append, #[x, y], #[t, t]⟩, ty, pos, aft, g⟩ :: os) (4 :: ks) (mk N ρ) w := by
  obtain ⟨v1, w1, F, r1, r2, r3, r4⟩ := run_appP (P := P) (ty := ty) ht hi hz hv hB hXs hr hl ha hbytes hmx
  exact lw_e rfl hu v1 w1 (by simp only [execOp, resolve, invoke, builtin, List.map_toArray, List.map_cons, List.map_nil, Sem.run_bind, Sem.run_pure, Result.andThen_ok, hx, hy, r1]) (h v1 w1 F r3 r4 r2)

theorem e_setP {st : TypeId} {x y : Operand} (hst : (P.info? st).map (·.size) = some 1) (hx : evF N ρ x = eptr v r 1) (hy : evF N ρ y = u) (hv : Pnd e e' B X w.heap v r u M) (hu : Up ops N ρ ⟨none, .store st x y, ty, pos, aft, g⟩)
    (h : ∀ w1 G, Chg G w w1 → w1.heap.size = w.heap.size → (∀ b ∈ G, B ≤ b ∧ b ∉ X ∧ b < w.heap.size) → FrX e e' B X w1.heap v M → LW P ops w0 Q os ks (mk N ρ) w1) :
    LW P ops w0 Q (⟨none, .store st x y, ty, pos, aft, g⟩ :: os) (4 :: ks) (mk N ρ) w := by
  obtain ⟨w1, F, q1, q2, q3, q4, q5⟩ := run_setP (P := P) hst hv
  exact lw_s rfl hu w1 (exec_store hx hy q1) (h w1 F q3 q5 q4 q2)
end ops
end Go.Proofs.Ytjgnlnlngcjfcaa
