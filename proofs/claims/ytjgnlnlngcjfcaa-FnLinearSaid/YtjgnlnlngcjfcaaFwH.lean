/- Functions that write into a row that they are handed. No condition. -/
import Derived.Test.YtjgnlnlngcjfcaaFwG
namespace Go.Proofs.Ytjgnlnlngcjfcaa
open Go Go.RowKit

theorem Chg.refl (F : List Nat) (w : World) : Chg F w w := ⟨rfl, rfl, rfl, Nat.le_refl _, fun _ _ _ => rfl⟩
theorem Chg.ext {F : List Nat} {a b c : World} (h : Chg F a b) (k : Ext b c) : Chg F a c :=
  ⟨k.os.trans h.os, k.tape.trans h.tape, k.output.trans h.output, Nat.le_trans h.size k.size, fun i hi hm => (k.heap (Nat.lt_of_lt_of_le hi h.size)).trans (h.block i hi hm)⟩
theorem Chg.trans {F : List Nat} {a b c : World} (h : Chg F a b) (k : Chg F b c) : Chg F a c :=
  ⟨k.os.trans h.os, k.tape.trans h.tape, k.output.trans h.output, Nat.le_trans h.size k.size, fun i hi hm => (k.block i (Nat.lt_of_lt_of_le hi h.size) hm).trans (h.block i hi hm)⟩
theorem Chg.drew {F : List Nat} {a b : World} (h : Chg F a b) : Chg F a b.drew := ⟨h.os, h.tape, h.output, h.size, h.block⟩
theorem Chg.of_drew {F : List Nat} {a b : World} (h : Chg F a.drew b) : Chg F a b := ⟨h.os, h.tape, h.output, h.size, h.block⟩
theorem Chg.sub {F G : List Nat} {a b : World} (h : Chg F a b) (hs : ∀ x ∈ F, x ∈ G) : Chg G a b := ⟨h.os, h.tape, h.output, h.size, fun k hk hm => h.block k hk fun hh => hm (hs k hh)⟩
theorem Ext.chg {F : List Nat} {a b : World} (h : Ext a b) : Chg F a b := ⟨h.os, h.tape, h.output, h.size, fun _ hi _ => h.heap hi⟩

theorem own_rdI {e : TypeId} {H : Array Obj} {v : Value} {xs : List Int} {F : List Nat} (h : owL rI e H v xs F) : Rd (rdL rI) H v xs := ⟨F, h.rd id⟩
theorem own_rdII {e e' : TypeId} {H : Array Obj} {v : Value} {xs : List (List Int)} {F : List Nat} (h : owL (owL rI e) e' H v xs F) : Rd (rdL (rdL rI)) H v xs := ⟨F, h.rd fun h => h.rd id⟩
theorem own_ext {α : Type} {E : Stand α} (hE : Good E) {w w' : World} {v : Value} {x : α} {F : List Nat} (h : E w.heap v x F) (k : Ext w w') : E w'.heap v x F := hE.stable h fun b hb => k.heap (hE.lt h b hb)

theorem els_rI_nil : ∀ {us : List Value} {xs : List Int} {F : List Nat} {H : Array Obj}, els rI H us xs F → F = [] := by
  intro us
  induction us with
  | nil => intro xs F H h; cases xs with
    | nil => exact h
    | cons => exact h.elim
  | cons u us ih =>
    intro xs F H h
    cases xs with
    | nil => exact h.elim
    | cons x xs => obtain ⟨A, C, rfl, p1, p2⟩ := h; rw [p1.2.1, ih p2]; rfl

theorem run_setI {P : Program} {w : World} {st e : TypeId} {u : Value} {n : Int} {xs : List Int} {G : List Nat} {j : Nat} (hst : (P.info? st).map (·.size) = some 1) (q1 : owL rI e w.heap u xs G) (q2 : G.Nodup) (hj : j < xs.length) (hn : -9223372036854775808 ≤ n ∧ n ≤ 9223372036854775807) :
    ∃ w1, (Instr.storeAt st (eptr u j 1) (.int .i64 n)).run P w = .ok () w1 ∧ owL rI e w1.heap u (xs.set j n) G ∧ Chg G w w1 ∧ w1.heap.size = w.heap.size := by
  obtain ⟨w1, F', p1, p2, p3, p4, p5, p6⟩ := run_set (P := P) good_rI hst q1 q2 hj (u := .int .i64 n) (y := n) (G := []) ⟨rfl, rfl, hn.1, hn.2⟩ List.nodup_nil (fun b hb => by cases hb)
  refine ⟨w1, p1, ?_, p5.sub fun x hx => List.mem_of_mem_take hx, p6⟩
  rcases q1 with ⟨rfl, hx0, rfl⟩ | ⟨us, g1, cap, cur, F1, hels, rfl, _, _, _, _, _, rfl⟩
  · rw [hx0] at hj; simp at hj
  · rw [els_rI_nil hels]
    rcases p2 with ⟨hh, _⟩ | ⟨us2, g2, cap2, cur2, F2, hels2, hv2, r⟩
    · cases hh
    · rw [els_rI_nil hels2] at hels2
      have : g2 = g1 := by injection hv2 with hv2 _ _; injection hv2 with hv2; injection hv2 with hv2 _; exact hv2.symm
      subst this
      exact .inr ⟨us2, g2, cap2, cur2, [], hels2, hv2, r.1, r.2.1, r.2.2.1, r.2.2.2.1, r.2.2.2.2.1, rfl⟩

theorem Rd.nil_of {α : Type} {E : Stand α} {H : Array Obj} {v : Value} {xs : List α} (h : Rd (rdL E) H v xs) (hv : isNilV v = true) : xs = [] := by
  obtain ⟨F, ⟨a, cap, rfl, hx, _⟩ | ⟨us, g, off, cap, cur, e, fr, F', _, rfl, _⟩⟩ := h
  · exact hx
  · cases hv

/-- One row of a matrix is written, another one is read. -/
theorem Fr.row_two {α : Type} {E : Stand α} {e : TypeId} (hE : Good E) {B U : Nat} {w : World} {v : Value} {xs : List α} (d : α) (h : Fr (owL E e) B U w.heap v xs) {r : Nat} (hr : r < xs.length) {u : Value} (hu : ldH w.heap (eptr v r 1) = some u) :
    ∃ G, E w.heap u (xs.getD r d) G ∧ G.Nodup ∧ (∀ b ∈ G, B ≤ b ∧ b < U) ∧
      (∀ {w' : World} {y : α}, Chg G w w' → E w'.heap u y G → Fr (owL E e) B U w'.heap v (xs.set r y)) ∧
      ∀ c u', c ≠ r → c < xs.length → ldH w.heap (eptr v c 1) = some u' → ∀ w', Chg G w w' → ∃ C, E w'.heap u' (xs.getD c d) C := by
  obtain ⟨F, h1, h2, h3⟩ := h
  rcases h1 with ⟨rfl, rfl, rfl⟩ | ⟨us, g, cap, cur, F', hels, rfl, hg, r1, r2, r3, r4, rfl⟩
  · simp at hr
  · have hn := List.nodup_cons.1 h2
    have ld : ∀ c, c < xs.length → ldH w.heap (eptr (.slice (some ⟨g, 0, none⟩) xs.length cap) c 1) = us[c]? := by
      intro c hc
      rw [eptr_mk]
      simp only [ldH, cellH, hg, Nat.zero_add]
      rw [← r4, List.getElem?_take, if_pos hc]
      simp
    obtain ⟨Fs, q1, q2, rfl, q4⟩ := els.perm.1 hels
    have hus : us[r]'(by omega) = u := by
      rw [ld r hr] at hu
      have : us[r]? = some (us[r]'(by omega)) := by simp
      rw [this] at hu
      exact Option.some.inj hu
    have hget : ∀ c (hc : c < xs.length), xs.getD c d = xs[c] := fun c hc => by simp [hc]
    have hmem : ∀ c (hc : c < Fs.length), ∀ b ∈ Fs[c], b ∈ Fs.flatten := fun c hc b hb => List.mem_flatten.2 ⟨_, List.getElem_mem hc, hb⟩
    have hdis : ∀ c c' (hc : c < Fs.length) (hc' : c' < Fs.length), c ≠ c' → ∀ b ∈ Fs[c], b ∉ Fs[c'] := by
      intro c c' hc hc' hne b hb hb'
      have hp := (List.pairwise_flatten.1 hn.2).2
      rcases Nat.lt_or_gt_of_ne hne with hh | hh
      · exact (List.pairwise_iff_getElem.1 hp c c' hc hc' hh) b hb b hb' rfl
      · exact (List.pairwise_iff_getElem.1 hp c' c hc' hc hh) b hb' b hb rfl
    refine ⟨Fs[r]'(by omega), by rw [← hus, hget r hr]; exact q4 r _ _ _, (List.pairwise_flatten.1 hn.2).1 _ (List.getElem_mem _), fun b hb => h3 b (List.mem_cons_of_mem _ (hmem r (by omega) b hb)), ?_, ?_⟩
    · intro w' y hc hy
      refine ⟨g :: Fs.flatten, .inr ⟨us, g, cap, cur, Fs.flatten, els.perm.2 ⟨Fs, by simpa using q1, by simpa using q2, rfl, fun k k1 k2 k3 => ?_⟩, by simp, ?_, by simpa using r1, r2, r3, by simpa using r4, rfl⟩, h2, h3⟩
      · by_cases hk : r = k
        · subst hk
          simp only [List.getElem_set_self, hus]
          exact hy
        · simp only [List.getElem_set_ne hk]
          exact hE.stable (q4 k _ (by simpa using k2) k3) fun b hb => hc.block b (hels.lt hE b (hmem k k3 b hb)) (hdis k r k3 (by omega) (Ne.symm hk) b hb)
      · rw [hc.block g (getElem?_lt hg) fun hm => hn.1 (hmem r (by omega) g hm)]; exact hg
    · intro c u' hcr hc hl w' hch
      rw [ld c hc] at hl
      have : us[c]? = some (us[c]'(by omega)) := by simp [q2, hc]
      rw [this] at hl
      have hcu : us[c]'(by omega) = u' := Option.some.inj hl
      refine ⟨Fs[c]'(by omega), ?_⟩
      rw [← hcu, hget c hc]
      exact hE.stable (q4 c (by omega) hc (by omega)) fun b hb => hch.block b (hels.lt hE b (hmem c (by omega) b hb)) (hdis c r (by omega) (by omega) hcr b hb)

section ops
variable {P : Program} {ops : Array Oper} {w0 : World} {Q : Act → World → Prop} {os : List Oper} {ks : List Nat} {N : Nat} {ρ : Nat → Value} {w : World}
  {d : Nat} {ty : TypeId} {pos : String} {aft : Array Edge} {g : Option (Nat × Bool)} {t e : TypeId} {z : Value} {b : Nat}

theorem e_set0 {st : TypeId} {x y : Operand} {v : Value} {n : Int} {xs : List Int} {F : List Nat} {j : Nat} (hst : (P.info? st).map (·.size) = some 1) (hx : evF N ρ x = eptr v j 1) (hy : evF N ρ y = .int .i64 n) (hn : -9223372036854775808 ≤ n ∧ n ≤ 9223372036854775807)
    (hv : owL rI e w.heap v xs F) (hnd : F.Nodup) (hj : j < xs.length) (hu : Up ops N ρ ⟨none, .store st x y, ty, pos, aft, g⟩)
    (h : ∀ w1, Chg F w w1 → w1.heap.size = w.heap.size → owL rI e w1.heap v (xs.set j n) F → LW P ops w0 Q os ks (mk N ρ) w1) :
    LW P ops w0 Q (⟨none, .store st x y, ty, pos, aft, g⟩ :: os) (4 :: ks) (mk N ρ) w := by
  obtain ⟨w1, p1, p2, p3, p4⟩ := run_setI (P := P) hst hv hnd hj hn
  exact lw_s rfl hu w1 (exec_store hx hy p1) (h w1 p3 p4 p2)

theorem lw_nil {a : Act} (h : Q a w) : LW P ops w0 Q [] ks a w := h

end ops
end Go.Proofs.Ytjgnlnlngcjfcaa
