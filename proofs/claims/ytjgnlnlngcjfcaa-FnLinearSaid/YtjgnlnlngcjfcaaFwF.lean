/- Operations that make or write memory. No condition. -/
import Derived.Test.YtjgnlnlngcjfcaaFwE
namespace Go.Proofs.Ytjgnlnlngcjfcaa
open Go Go.RowKit

theorem ext_alloc (w : World) (o : Obj) : Ext w (w.alloc o) := (Below.refl _ _).alloc (Nat.le_refl _) o

theorem owL_new {α : Type} {E : Stand α} (hE : Good E) {e : TypeId} {w : World} {us : List Value} {xs : List α} {F : List Nat} {cur : Array Value} (h : els E w.heap us xs F) (hm : cur.size ≤ maxLen)
    (hc : cur.toList.take xs.length = us) (hl : xs.length ≤ cur.size) :
    owL E e (w.alloc (.cells cur e)).heap (.slice (some ⟨w.heap.size, 0, none⟩) xs.length cur.size) xs (w.heap.size :: F) := by
  refine .inr ⟨us, w.heap.size, cur.size, cur, F, h.stable hE fun b hb => ?_, rfl, ?_, hl, hm, rfl, hc, rfl⟩
  · exact Below.heap_alloc _ _ _ (h.lt hE b hb)
  · show (w.heap.push _)[w.heap.size]? = _
    simp

theorem mapRange {f : Nat → Value} (n : Nat) : Array.map f (Array.range n) = ((List.range n).map f).toArray := by
  apply Array.ext'; simp

section run
variable {P : Program} {w : World}

theorem run_bs0 {t e : TypeId} {s b : Nat} {z : Value} (ht : P.underlying t = some (.slice e)) (hi : TI P e s z b) :
    (Instr.buildSlice t 0 #[]).run P w = .ok (.slice (some ⟨w.heap.size, 0, none⟩) 0 0) (w.alloc (.cells #[] e)) := by
  obtain ⟨i, h1, h2, h3, h4⟩ := hi.get
  simp [Instr.buildSlice, run_underlying ht, sizeOf, typeInfo, h1, Instr.fill, newRow, mapRange]

theorem run_bs1 {t e : TypeId} {b : Nat} {z u : Value} (ht : P.underlying t = some (.slice e)) (hi : TI P e 1 z b) (hu : u.cells = #[u]) (hz : z.cells = #[z]) :
    (Instr.buildSlice t 1 #[(0, u)]).run P w = .ok (.slice (some ⟨w.heap.size, 0, none⟩) 1 1) (w.alloc (.cells #[u] e)) := by
  obtain ⟨i, h1, h2, h3, h4⟩ := hi.get
  simp [Instr.buildSlice, run_underlying ht, sizeOf, typeInfo, zeroValue, h1, h2, h3, Instr.fill, newRow, hu, hz, mapRange, List.range_succ]

theorem run_bs2 {t e : TypeId} {b : Nat} {z u v : Value} (ht : P.underlying t = some (.slice e)) (hi : TI P e 1 z b) (hu : u.cells = #[u]) (hv : v.cells = #[v]) (hz : z.cells = #[z]) :
    (Instr.buildSlice t 2 #[(0, u), (1, v)]).run P w = .ok (.slice (some ⟨w.heap.size, 0, none⟩) 2 2) (w.alloc (.cells #[u, v] e)) := by
  obtain ⟨i, h1, h2, h3, h4⟩ := hi.get
  simp [Instr.buildSlice, run_underlying ht, sizeOf, typeInfo, zeroValue, h1, h2, h3, Instr.fill, newRow, hu, hv, hz, mapRange, List.range_succ]

end run

section append
variable {P : Program} {w : World} {α : Type} {E : Stand α} {t ty e : TypeId} {b : Nat} {z : Value}

/-- append, an owned slice and what is read. -/
theorem run_app (hE : Good E) (ht : P.underlying t = some (.slice e)) (hi : TI P e 1 z b) (hz : z.cells = #[z]) {v : Value} {xs : List α} {F : List Nat} (hv : owL E e w.heap v xs F) (hn : F.Nodup)
    {a : Value} {ys : List α} {G us : List Nat} (ha : rdL E w.heap a ys G) (hus : us = G.drop 1) (hbytes : (xs.length + ys.length) * b ≤ 140737488355328) (hmx : xs.length + ys.length ≤ maxLen)
    (hdis : ∀ c ∈ us, c ∉ F) (hnu : us.Nodup) :
    ∃ v' w' F', (Builtin.append_ #[t, t] ty #[v, a]).run P w = .ok v' w' ∧ owL E e w'.heap v' (xs ++ ys) F' ∧ F'.Nodup ∧ (∀ c ∈ F', c ∈ F ∨ c ∈ us ∨ c = w.heap.size) ∧ Chg (F.take 1) w w' := by
  obtain ⟨i, h1, h2, h3, h4⟩ := hi.get
  subst h4
  have hsmall : xs.length + ys.length ≤ 9223372036854775807 := by simp only [maxLen] at hmx; omega
  rcases ha with ⟨a0, cap0, rfl, rfl, rfl⟩ | ⟨as, g, off, cap, cur, e', fr, G', hels, rfl, hg, hw, _, rfl⟩
  · -- nothing is appended
    have hle : owL E e w.heap v xs F := hv
    have hsl : ∃ b0 c0, v = .slice b0 xs.length c0 ∧ xs.length ≤ c0 ∧ (b0 = none → xs.length = 0) := by
      rcases hv with ⟨rfl, rfl, _⟩ | ⟨_, g, cap, cur, F', _, rfl, _, hh, _⟩
      · exact ⟨none, 0, rfl, by simp, fun _ => rfl⟩
      · exact ⟨_, cap, rfl, hh, fun h => by cases h⟩
    obtain ⟨b0, c0, rfl, hc0, hb0⟩ := hsl
    refine ⟨_, w, F, ?_, by simpa using hle, hn, fun c hc => .inl hc, ⟨rfl, rfl, rfl, Nat.le_refl _, fun _ _ _ => rfl⟩⟩
    have hf : (Builtin.firstCells 1 0 (.slice a0 0 cap0)).run P w = .ok #[] w := by
      cases a0 <;> simp [Builtin.firstCells, loadCells, loadCellsFrom]
    cases b0 with
    | none => simp [Builtin.append_, run_underlying ht, sizeOf, typeInfo, h1, h3, Builtin.lenOf, hc0, hf]
    | some a1 => simp [Builtin.append_, run_underlying ht, sizeOf, typeInfo, h1, h3, Builtin.lenOf, hc0, hf, storeCells]
  · simp only [List.drop_succ_cons, List.drop_zero] at hus
    subst hus
    have hasl : as.length = ys.length := hels.length
    have hnews : ∀ j u, as[j]? = some u → w.cell? ((⟨g, off, none⟩ : Addr).add j) = some u := by
      intro j u hj
      have e1 : (⟨g, off, none⟩ : Addr).add j = ⟨g, off + j, none⟩ := by
        unfold Addr.add
        split
        · rename_i hh; subst hh; rfl
        · rfl
      rw [e1, cell_cellH]
      simp only [cellH, hg]
      rw [← hw, List.getElem?_take] at hj
      split at hj
      · rw [List.getElem?_drop] at hj; simpa using hj
      · cases hj
    have h1c : ∀ u ∈ as, u.oneCell' = true := hels.one hE
    have hl1 : as.length = ys.length * i.size := by rw [h3, hasl]; omega
    -- the new block
    have made : ∀ (w1 : World) (ous : List Value) (F0 : List Nat) (rest : Nat), w1.heap = w.heap → w1.os = w.os → w1.tape = w.tape → w1.output = w.output → els E w.heap ous xs F0 → (∀ c ∈ F0, c ∈ F) → F0.Nodup →
        (xs.length + ys.length + rest) ≤ maxLen → ∀ (ow : List Nat),
        ∃ F', owL E e (w1.alloc (.cells (ous.toArray ++ as.toArray ++ Builtin.zeroCells z.cells rest) e)).heap (.slice (some ⟨w.heap.size, 0, none⟩) (xs.length + ys.length) (xs.length + ys.length + rest)) (xs ++ ys) F' ∧ F'.Nodup ∧
          (∀ c ∈ F', c ∈ F ∨ c ∈ us ∨ c = w.heap.size) ∧ Chg ow w (w1.alloc (.cells (ous.toArray ++ as.toArray ++ Builtin.zeroCells z.cells rest) e)) := by
      intro w1 ous F0 rest hh ho htp hop hou hsub hnd hmax ow
      have happ := hou.append hels
      have hzc : (Builtin.zeroCells z.cells rest).size = rest := by simp [Builtin.zeroCells, hz]
      have hsz : (ous.toArray ++ as.toArray ++ Builtin.zeroCells z.cells rest).size = xs.length + ys.length + rest := by
        simp only [Array.size_append, List.size_toArray, hzc, hasl, hou.length]
      have hnew := owL_new (e := e) (w := w1) hE (us := ous ++ as) (xs := xs ++ ys) (F := F0 ++ us) (cur := ous.toArray ++ as.toArray ++ Builtin.zeroCells z.cells rest)
        (by rw [hh]; exact happ) (by rw [hsz]; exact hmax) (by
          rw [Array.toList_append, Array.toList_append]
          rw [show (xs ++ ys).length = (ous ++ as).length from by simp [hou.length, hasl]]
          exact List.take_left) (by rw [hsz, List.length_append]; omega)
      rw [hh, hsz, List.length_append] at hnew
      refine ⟨_, hnew, ?_, ?_, ?_⟩
      · rw [List.nodup_cons]
        refine ⟨fun hm => ?_, ?_⟩
        · have := happ.lt hE _ hm; omega
        · rw [List.nodup_append]
          refine ⟨hnd, hnu, ?_⟩
          rintro x hx y hy rfl
          exact hdis x hy (hsub x hx)
      · intro c hc
        rcases List.mem_cons.1 hc with rfl | hc
        · exact .inr (.inr rfl)
        · rcases List.mem_append.1 hc with hc | hc
          · exact .inl (hsub c hc)
          · exact .inr (.inl hc)
      · refine ⟨ho, htp, hop, ?_, fun k hk _ => ?_⟩
        · show w.heap.size ≤ (w1.heap.push _).size
          rw [hh]; simp
        · have := Below.heap_alloc w1 (.cells (ous.toArray ++ as.toArray ++ Builtin.zeroCells z.cells rest) e) k (by rw [hh]; exact hk)
          rw [this, hh]
    rcases hv with ⟨rfl, rfl, rfl⟩ | ⟨ous, gv, capv, curv, F0, hels0, rfl, hgv, hle, hcm, hcs, htk, rfl⟩
    · -- nil
      by_cases hy : ys.length = 0
      · have hy0 : ys = [] := List.eq_nil_of_length_eq_zero hy
        subst hy0
        have has0 : as = [] := List.eq_nil_of_length_eq_zero hasl
        subst has0
        rw [show us = [] from hels]
        refine ⟨.slice none 0 0, w, [], ?_, .inl ⟨rfl, rfl, rfl⟩, List.nodup_nil, fun c hc => (by cases hc), ⟨rfl, rfl, rfl, Nat.le_refl _, fun _ _ _ => rfl⟩⟩
        simp [Builtin.append_, run_underlying ht, sizeOf, typeInfo, h1, Builtin.lenOf, Builtin.firstCells, loadCells, loadCellsFrom]
      · have hr := run_append_nil (P := P) w t ty e i z ht h1 h2 ⟨g, off, none⟩ ys.length cap as hl1 hnews (by omega) (by simp at hsmall; omega) (by simp only [List.length_nil, Nat.zero_add] at hbytes; omega)
        have hge := grownCap_ge w ys.length 0 e
        have hgm := grownCap_le_maxLen w ys.length 0 e (by simpa using hmx)
        obtain ⟨F', q1, q2, q3, q4⟩ := made w.drew [] [] (grownCap w ys.length 0 e - ys.length) rfl rfl rfl rfl rfl (fun c hc => by cases hc) List.nodup_nil (by simp; omega) (List.take 1 [])
        refine ⟨_, _, F', hr, ?_, q2, q3, ?_⟩
        · have ea : (([] : List α).length + ys.length + (grownCap w ys.length 0 e - ys.length)) = grownCap w ys.length 0 e := by simp; omega
          rw [ea] at q1
          simpa using q1
        · simpa using q4
    · by_cases hroom : xs.length + ys.length ≤ capv
      · -- room
        have hr := run_append_room (P := P) w t ty e i ht h1 gv xs.length capv curv hgv ⟨g, off, none⟩ ys.length cap as hl1 hnews h1c hroom (by rw [h3, hasl, hcs]; omega)
        rw [h3] at hr
        refine ⟨_, _, gv :: (F0 ++ us), hr, ?_, ?_, ?_, ?_⟩
        · have hgF : gv ∉ F0 := (List.nodup_cons.1 hn).1
          have hgU : gv ∉ us := fun hm => hdis gv hm (List.mem_cons_self ..)
          refine .inr ⟨ous ++ as, gv, capv, _, F0 ++ us, ?_, by rw [List.length_append], setRow_heap w gv curv _ e _ hgv, by rw [List.length_append]; exact hroom, hcm, ?_, ?_, rfl⟩
          · refine (hels0.append hels).stable hE fun c hc => setRow_other w gv c _ fun hcg => ?_
            subst hcg
            rcases List.mem_append.1 hc with hc | hc
            · exact hgF hc
            · exact hgU hc
          · simp only [List.size_toArray, List.length_append, List.length_take, List.length_drop, Array.length_toList]
            omega
          · rw [List.length_append]
            simp only [Nat.mul_one]
            rw [htk, show xs.length + ys.length = (ous ++ as).length from by simp [hels0.length, hasl]]
            exact List.take_left
        · rw [List.nodup_cons, List.nodup_append]
          have hn' := List.nodup_cons.1 hn
          refine ⟨?_, hn'.2, hnu, ?_⟩
          · intro hm
            rcases List.mem_append.1 hm with hm | hm
            · exact hn'.1 hm
            · exact hdis gv hm (List.mem_cons_self ..)
          · rintro x hx y hy rfl
            exact hdis x hy (List.mem_cons_of_mem _ hx)
        · intro c hc
          rcases List.mem_cons.1 hc with rfl | hc
          · exact .inl (List.mem_cons_self ..)
          · rcases List.mem_append.1 hc with hc | hc
            · exact .inl (List.mem_cons_of_mem _ hc)
            · exact .inr (.inl hc)
        · refine ⟨rfl, rfl, rfl, by simp, fun k _ hk => setRow_other w gv k _ fun hh => hk (by simp [hh])⟩
      · -- grown
        have holds : ∀ j u, ous[j]? = some u → w.cell? ((⟨gv, 0, none⟩ : Addr).add j) = some u := by
          intro j u hj
          have e1 : (⟨gv, 0, none⟩ : Addr).add j = ⟨gv, j, none⟩ := by
            unfold Addr.add
            split
            · rename_i hh; subst hh; rfl
            · simp
          rw [e1, cell_cellH]
          simp only [cellH, hgv]
          rw [← htk, List.getElem?_take] at hj
          split at hj
          · simpa using hj
          · cases hj
        have hr := run_append_grow (P := P) w t ty e i z ht h1 h2 ⟨gv, 0, none⟩ xs.length capv ous (by rw [h3, hels0.length]; omega) holds ⟨g, off, none⟩ ys.length cap as hl1 hnews (by omega) (by omega) (growslice_fits (by omega) hbytes)
        have hge := grownCap_ge w (xs.length + ys.length) capv e
        have hgm := grownCap_le_maxLen w (xs.length + ys.length) capv e hmx
        obtain ⟨F', q1, q2, q3, q4⟩ := made w.drew ous F0 (grownCap w (xs.length + ys.length) capv e - (xs.length + ys.length)) rfl rfl rfl rfl hels0 (fun c hc => List.mem_cons_of_mem _ hc) (List.nodup_cons.1 hn).2 (by omega) (List.take 1 (gv :: F0))
        refine ⟨_, _, F', hr, ?_, q2, q3, q4⟩
        have ea : (xs.length + ys.length + (grownCap w (xs.length + ys.length) capv e - (xs.length + ys.length))) = grownCap w (xs.length + ys.length) capv e := by omega
        rw [ea] at q1
        exact q1

/-- append of integers. -/
theorem run_appI (ht : P.underlying t = some (.slice e)) (hi : TI P e 1 z b) (hz : z.cells = #[z]) {v : Value} {xs : List Int} {B U : Nat} (hv : Fr (owL rI e) B U w.heap v xs) (hB : B ≤ w.heap.size)
    {a : Value} {ys : List Int} (ha : Rd (rdL rI) w.heap a ys) (hbytes : (xs.length + ys.length) * b ≤ 140737488355328) (hmx : xs.length + ys.length ≤ maxLen) :
    ∃ v' w' F, (Builtin.append_ #[t, t] ty #[v, a]).run P w = .ok v' w' ∧ Fr (owL rI e) B w'.heap.size w'.heap v' (xs ++ ys) ∧ Chg F w w' ∧ ∀ c ∈ F, B ≤ c ∧ c < U := by
  obtain ⟨F, h1, h2, h3⟩ := hv
  obtain ⟨G, hG⟩ := ha
  have hGe : G.drop 1 = [] := by
    rcases hG with ⟨_, _, _, _, rfl⟩ | ⟨us, g, off, cap, cur, e', fr, F', hels, _, _, _, _, rfl⟩
    · rfl
    · show F' = []
      have : ∀ {us : List Value} {xs : List Int} {F : List Nat}, els rI w.heap us xs F → F = [] := by
        intro us xs
        induction us generalizing xs with
        | nil => intro F h; cases xs with
          | nil => exact h
          | cons => exact h.elim
        | cons u us ih =>
          intro F h
          cases xs with
          | nil => exact h.elim
          | cons x xs =>
            obtain ⟨F1, F2, rfl, q1, q2⟩ := h
            rw [q1.2.1, ih q2]; rfl
      exact this hels
  obtain ⟨v', w', F', r1, r2, r3, r4, r5⟩ := run_app (P := P) (ty := ty) good_rI ht hi hz h1 h2 hG rfl hbytes hmx (by rw [hGe]; intro c hc; cases hc) (by rw [hGe]; exact List.nodup_nil)
  refine ⟨v', w', F.take 1, r1, ⟨F', r2, r3, fun c hc => ?_⟩, r5, fun c hc => h3 c (List.mem_of_mem_take hc)⟩
  have hlt := o1.lt r2 c hc
  refine ⟨?_, hlt⟩
  rcases r4 c hc with hh | hh | hh
  · exact (h3 c hh).1
  · rw [hGe] at hh; cases hh
  · omega

/-- append of owned elements, which lie behind the slice. -/
theorem run_appF (hE : Good E) (ht : P.underlying t = some (.slice e)) (hi : TI P e 1 z b) (hz : z.cells = #[z]) {v : Value} {xs : List α} {B U : Nat} (hv : Fr (owL E e) B U w.heap v xs) (hB : B ≤ w.heap.size)
    {a : Value} {ys : List α} {B' U' : Nat} (ha : Fr (owL E e) B' U' w.heap a ys) (hU : U ≤ B') (hBB : B ≤ B') (hbytes : (xs.length + ys.length) * b ≤ 140737488355328) (hmx : xs.length + ys.length ≤ maxLen) :
    ∃ v' w' F, (Builtin.append_ #[t, t] ty #[v, a]).run P w = .ok v' w' ∧ Fr (owL E e) B w'.heap.size w'.heap v' (xs ++ ys) ∧ Chg F w w' ∧ ∀ c ∈ F, B ≤ c ∧ c < U := by
  obtain ⟨F, h1, h2, h3⟩ := hv
  obtain ⟨G, g1, g2, g3⟩ := ha
  have gd : ∀ c ∈ G.drop 1, c ∈ G := fun c hc => List.mem_of_mem_drop hc
  obtain ⟨v', w', F', r1, r2, r3, r4, r5⟩ := run_app (P := P) (ty := ty) hE ht hi hz h1 h2 (g1.rd id) rfl hbytes hmx (fun c hc hF => by have := g3 c (gd c hc); have := h3 c hF; omega)
    ((List.drop_sublist 1 G).nodup g2)
  refine ⟨v', w', F.take 1, r1, ⟨F', r2, r3, fun c hc => ?_⟩, r5, fun c hc => h3 c (List.mem_of_mem_take hc)⟩
  have hlt := (good_owL hE).lt r2 c hc
  refine ⟨?_, hlt⟩
  rcases r4 c hc with hh | hh | hh
  · exact (h3 c hh).1
  · have := g3 c (gd c hh); omega
  · omega

end append

section ops
variable {P : Program} {ops : Array Oper} {w0 : World} {Q : Act → World → Prop} {os : List Oper} {ks : List Nat} {N : Nat} {ρ : Nat → Value} {w : World}
  {d : Nat} {ty : TypeId} {pos : String} {aft : Array Edge} {g : Option (Nat × Bool)} {t e : TypeId} {z : Value} {b : Nat}

/-- A new slice of nothing. -/
theorem r_nil {α : Type} (E : Stand α) (hE : Good E) {s : Nat} (ht : P.underlying t = some (.slice e)) (hi : TI P e s z b) (hu : Up ops N ρ ⟨some d, .buildSlice t 0 #[], ty, pos, aft, g⟩)
    (h : ∀ v w1, Ext w w1 → w1.heap.size = w.heap.size + 1 → Fr (owL E e) w.heap.size w1.heap.size w1.heap v ([] : List α) → LW P ops w0 Q os ks (mk N (upd ρ d v)) w1) :
    LW P ops w0 Q (⟨some d, .buildSlice t 0 #[], ty, pos, aft, g⟩ :: os) (3 :: ks) (mk N ρ) w := by
  have hrun : (execOp (evF N ρ) ⟨some d, .buildSlice t 0 #[], ty, pos, aft, g⟩).run P w = .ok (.value (.slice (some ⟨w.heap.size, 0, none⟩) 0 0)) (w.alloc (.cells #[] e)) := by
    simp only [execOp, List.map_toArray, List.map_nil, Sem.run_bind, run_bs0 ht hi, Result.andThen_ok, Sem.run_pure]
  refine lw_r rfl hu _ _ hrun (ext_alloc _ _) (h _ _ (ext_alloc _ _) (by simp) ?_)
  refine ⟨_, owL_new (e := e) (w := w) hE (us := []) (xs := ([] : List α)) (F := []) (cur := #[]) rfl (by simp) rfl (by simp), by simp, fun c hc => ?_⟩
  simp at hc
  subst hc
  simp

/-- A new slice of one thing. -/
theorem r_one {α : Type} {E : Stand α} (hE : Good E) {x : Operand} {u : Value} {y : α} {B U : Nat} (ht : P.underlying t = some (.slice e)) (hi : TI P e 1 z b) (hz : z.cells = #[z]) (hx : evF N ρ x = u) (hy : Fr E B U w.heap u y) (hB : B ≤ w.heap.size)
    (hu : Up ops N ρ ⟨some d, .buildSlice t 1 #[(0, x)], ty, pos, aft, g⟩)
    (h : ∀ v w1, Ext w w1 → w1.heap.size = w.heap.size + 1 → Fr (owL E e) B w1.heap.size w1.heap v [y] → LW P ops w0 Q os ks (mk N (upd ρ d v)) w1) :
    LW P ops w0 Q (⟨some d, .buildSlice t 1 #[(0, x)], ty, pos, aft, g⟩ :: os) (3 :: ks) (mk N ρ) w := by
  obtain ⟨F, h1, h2, h3⟩ := hy
  have hr := run_bs1 (P := P) (w := w) ht hi (hE.cells h1) hz
  have hrun : (execOp (evF N ρ) ⟨some d, .buildSlice t 1 #[(0, x)], ty, pos, aft, g⟩).run P w = .ok (.value (.slice (some ⟨w.heap.size, 0, none⟩) 1 1)) (w.alloc (.cells #[u] e)) := by
    simp only [execOp, List.map_toArray, List.map_cons, List.map_nil, Sem.run_bind, hx, hr, Result.andThen_ok, Sem.run_pure]
  refine lw_r rfl hu _ _ hrun (ext_alloc _ _) (h _ _ (ext_alloc _ _) (by simp) ?_)
  have hn := owL_new (e := e) (w := w) hE (us := [u]) (xs := [y]) (F := F ++ []) (cur := #[u]) ⟨F, [], rfl, h1, rfl⟩ (by simp [maxLen]) rfl (by simp)
  refine ⟨_, hn, ?_, fun c hc => ?_⟩
  · rw [List.append_nil, List.nodup_cons]
    exact ⟨fun hm => by have := hE.lt h1 _ hm; omega, h2⟩
  · have hlt := (good_owL hE).lt hn c hc
    refine ⟨?_, hlt⟩
    rcases List.mem_cons.1 hc with rfl | hc
    · exact hB
    · exact (h3 c (by simpa using hc)).1

theorem frI (B U : Nat) (H : Array Obj) (x : Int) (h : -9223372036854775808 ≤ x ∧ x ≤ 9223372036854775807) : Fr rI B U H (.int .i64 x) x := ⟨[], ⟨rfl, rfl, h.1, h.2⟩, List.nodup_nil, fun c hc => by cases hc⟩

/-- make. -/
theorem r_make {x y : Operand} {n : Nat} {c : Int} (ht : P.underlying t = some (.slice e)) (hi : TI P e 1 (.int .i64 0) 8) (hx : evF N ρ x = .int .i64 c) (hy : evF N ρ y = .int .i64 c) (hc : c = (n : Int)) (hn : n ≤ 35184372088832)
    (hu : Up ops N ρ ⟨some d, .makeSlice t x y, ty, pos, aft, g⟩)
    (h : ∀ v w1, Ext w w1 → w1.heap.size = w.heap.size + 1 → Fr (owL rI e) w.heap.size w1.heap.size w1.heap v (List.replicate n 0) → LW P ops w0 Q os ks (mk N (upd ρ d v)) w1) :
    LW P ops w0 Q (⟨some d, .makeSlice t x y, ty, pos, aft, g⟩ :: os) (3 :: ks) (mk N ρ) w := by
  subst hc
  obtain ⟨i, h1, h2, h3, h4⟩ := hi.get
  have hr := run_make (P := P) w t e i _ ht h1 h2 .i64 .i64 n n (by omega) (by omega) (by rw [h4]; omega) (by omega)
  have hrun : (execOp (evF N ρ) ⟨some d, .makeSlice t x y, ty, pos, aft, g⟩).run P w = .ok (.value (.slice (some ⟨w.heap.size, 0, none⟩) n n)) (w.alloc (.cells (madeCells (Value.int .i64 0).cells ((n : Int).toNat * i.size)) e)) := by
    simp only [execOp, Sem.run_bind, hx, hy, hr, Result.andThen_ok, Sem.run_pure, Int.toNat_natCast]
  refine lw_r rfl hu _ _ hrun (ext_alloc _ _) (h _ _ (ext_alloc _ _) (by simp) ?_)
  have hels : ∀ n, els rI w.heap (List.replicate n (.int .i64 0)) (List.replicate n (0 : Int)) [] := by
    intro n
    induction n with
    | zero => rfl
    | succ n ih => exact ⟨[], [], rfl, ⟨rfl, rfl, by omega, by omega⟩, ih⟩
  have hmc : (madeCells (Value.int .i64 0).cells ((n : Int).toNat * i.size)).toList = List.replicate n (.int .i64 0) := by
    rw [h3]
    simp only [Int.toNat_natCast, Nat.mul_one, madeCells, Value.cells]
    apply List.ext_getElem
    · simp
    · intro j q1 q2
      simp [Nat.mod_one]
  have hcs : (madeCells (Value.int .i64 0).cells ((n : Int).toNat * i.size)).size = n := by rw [size_madeCells, h3]; simp
  have hn' := owL_new (e := e) (w := w) good_rI (us := List.replicate n (.int .i64 0)) (xs := List.replicate n (0 : Int)) (F := []) (cur := madeCells (Value.int .i64 0).cells ((n : Int).toNat * i.size)) (hels n) (by rw [hcs]; simp only [maxLen]; omega)
    (by rw [hmc, List.length_replicate]; exact List.take_of_length_le (by simp)) (by rw [hcs]; simp)
  rw [hcs] at hn'
  simp only [List.length_replicate] at hn'
  refine ⟨_, by simpa using hn', by simp, fun c hc => ?_⟩
  simp at hc
  subst hc
  simp

theorem e_appI {x y : Operand} {v a : Value} {xs ys : List Int} {B U : Nat} (ht : P.underlying t = some (.slice e)) (hi : TI P e 1 z b) (hz : z.cells = #[z]) (hx : evF N ρ x = v) (hy : evF N ρ y = a) (hv : Fr (owL rI e) B U w.heap v xs) (hB : B ≤ w.heap.size)
    (ha : Rd (rdL rI) w.heap a ys) (hbytes : (xs.length + ys.length) * b ≤ 140737488355328) (hmx : xs.length + ys.length ≤ maxLen) (hu : Up ops N ρ ⟨some d, .call ⟨.builtin .append, #[x, y], #[t, t]⟩, ty, pos, aft, g⟩)
    (h : ∀ v1 w1 F, Chg F w w1 → (∀ c ∈ F, B ≤ c ∧ c < U) → Fr (owL rI e) B w1.heap.size w1.heap v1 (xs ++ ys) → LW P ops w0 Q os ks (mk N (upd ρ d v1)) w1) :
    LW P ops w0 Q (⟨some d, .call ⟨.builtin .append, #[x, y], #[t, t]⟩, ty, pos, aft, g⟩ :: os) (4 :: ks) (mk N ρ) w := by
  obtain ⟨v1, w1, F, r1, r2, r3, r4⟩ := run_appI (P := P) (ty := ty) ht hi hz hv hB ha hbytes hmx
  exact lw_e rfl hu v1 w1 (by simp only [execOp, resolve, invoke, builtin, List.map_toArray, List.map_cons, List.map_nil, Sem.run_bind, Sem.run_pure, Result.andThen_ok, hx, hy, r1]) (h v1 w1 F r3 r4 r2)

theorem e_appF {α : Type} {E : Stand α} (hE : Good E) {x y : Operand} {v a : Value} {xs ys : List α} {B U B' U' : Nat} (ht : P.underlying t = some (.slice e)) (hi : TI P e 1 z b) (hz : z.cells = #[z]) (hx : evF N ρ x = v) (hy : evF N ρ y = a) (hv : Fr (owL E e) B U w.heap v xs) (hB : B ≤ w.heap.size)
    (ha : Fr (owL E e) B' U' w.heap a ys) (hU : U ≤ B') (hBB : B ≤ B') (hbytes : (xs.length + ys.length) * b ≤ 140737488355328) (hmx : xs.length + ys.length ≤ maxLen) (hu : Up ops N ρ ⟨some d, .call ⟨.builtin .append, #[x, y], #[t, t]⟩, ty, pos, aft, g⟩)
    (h : ∀ v1 w1 F, Chg F w w1 → (∀ c ∈ F, B ≤ c ∧ c < U) → Fr (owL E e) B w1.heap.size w1.heap v1 (xs ++ ys) → LW P ops w0 Q os ks (mk N (upd ρ d v1)) w1) :
    LW P ops w0 Q (⟨some d, .call ⟨.builtin .append, #[x, y], #[t, t]⟩, ty, pos, aft, g⟩ :: os) (4 :: ks) (mk N ρ) w := by
  obtain ⟨v1, w1, F, r1, r2, r3, r4⟩ := run_appF (P := P) (ty := ty) hE ht hi hz hv hB ha hU hBB hbytes hmx
  exact lw_e rfl hu v1 w1 (by simp only [execOp, resolve, invoke, builtin, List.map_toArray, List.map_cons, List.map_nil, Sem.run_bind, Sem.run_pure, Result.andThen_ok, hx, hy, r1]) (h v1 w1 F r3 r4 r2)

/-- A store into owned integers. -/
theorem e_setI {st : TypeId} {x y : Operand} {v : Value} {n : Int} {xs : List Int} {B U j : Nat} (hst : (P.info? st).map (·.size) = some 1) (hx : evF N ρ x = eptr v j 1) (hy : evF N ρ y = .int .i64 n) (hn : -9223372036854775808 ≤ n ∧ n ≤ 9223372036854775807)
    (hv : Fr (owL rI e) B U w.heap v xs) (hj : j < xs.length) (hu : Up ops N ρ ⟨none, .store st x y, ty, pos, aft, g⟩)
    (h : ∀ w1 F, Chg F w w1 → w1.heap.size = w.heap.size → (∀ c ∈ F, B ≤ c ∧ c < U) → Fr (owL rI e) B U w1.heap v (xs.set j n) → LW P ops w0 Q os ks (mk N ρ) w1) :
    LW P ops w0 Q (⟨none, .store st x y, ty, pos, aft, g⟩ :: os) (4 :: ks) (mk N ρ) w := by
  obtain ⟨F, h1, h2, h3⟩ := hv
  rcases h1 with ⟨rfl, rfl, rfl⟩ | ⟨us, gb, cap, cur, F', hels, rfl, hg, r1, r2, r3, r4, rfl⟩
  · simp at hj
  · obtain ⟨i, hi1, hi2⟩ := Option.map_eq_some_iff.1 hst
    rw [eptr_mk] at hx
    have hsz : j < cur.size := by omega
    have hcell : w.cell? ⟨gb, j, none⟩ = some cur[j] := by
      rw [cell_cellH]; simp [cellH, hg, hsz]
    have hfz : w.frozen? ⟨gb, j, none⟩ = false := by
      simp only [World.frozen?, hg]; simp
    have hrun : (Instr.storeAt st (.pointer (some ⟨gb, 0 + j, none⟩)) (.int .i64 n)).run P w = .ok () (w.setCell ⟨gb, j, none⟩ (.int .i64 n)) := by
      have hadd : (⟨gb, j, none⟩ : Addr).add 0 = ⟨gb, j, none⟩ := rfl
      rw [Nat.zero_add]
      simp only [Instr.storeAt, Instr.sureAddr, Sem.run_bind, Sem.run_pure, Result.andThen_ok, storeVar, sizeOf, typeInfo, run_program, hi1, hi2, Value.cells]
      have hst1 : (store ⟨gb, j, none⟩ (.int .i64 n)).run P w = .ok () (w.setCell ⟨gb, j, none⟩ (.int .i64 n)) := by
        rw [run_store P w _ _ _ rfl, hcell]
        simp only [hfz]
        rfl
      simp [storeCells, hadd, hst1]
    have hrun2 : (execOp (evF N ρ) ⟨none, .store st x y, ty, pos, aft, g⟩).run P w = .ok .skip (w.setCell ⟨gb, j, none⟩ (.int .i64 n)) := by
      simp only [execOp, hx, hy, Sem.run_bind, hrun, Result.andThen_ok, Sem.run_pure]
    refine lw_s rfl hu _ hrun2 (h _ [gb] ?_ (by simp [World.setCell]) (fun c hc => by simp at hc; subst hc; exact h3 _ (List.mem_cons_self ..)) ?_)
    · refine ⟨rfl, rfl, rfl, by simp [World.setCell], fun k hk hne => Below.heap_setCell _ _ _ _ (by simpa using hne)⟩
    · have hheap : (w.setCell ⟨gb, j, none⟩ (.int .i64 n)).heap[gb]? = some (.cells (cur.setIfInBounds j (.int .i64 n)) e (0, 0)) := by
        simp only [World.setCell, Array.getElem?_modify]
        simp [hg]
      have hset : ∀ {us : List Value} {xs : List Int} {F : List Nat} {k : Nat} {H : Array Obj}, els rI H us xs F → k < xs.length → els rI H (us.set k (.int .i64 n)) (xs.set k n) F := by
        intro us
        induction us with
        | nil => intro xs F k H hh hk; cases xs with
          | nil => simp at hk
          | cons => exact hh.elim
        | cons u us ih =>
          intro xs F k H hh hk
          cases xs with
          | nil => exact hh.elim
          | cons x xs =>
            obtain ⟨F1, F2, rfl, q1, q2⟩ := hh
            cases k with
            | zero => exact ⟨F1, F2, rfl, ⟨rfl, q1.2.1, hn.1, hn.2⟩, q2⟩
            | succ k => exact ⟨F1, F2, rfl, q1, ih q2 (by simpa using hk)⟩
      refine ⟨gb :: F', .inr ⟨us.set j (.int .i64 n), gb, cap, _, F', ?_, by simp, hheap, by simpa using r1, r2, by simpa using r3, ?_, rfl⟩, h2, h3⟩
      · exact (hset hels hj).stable good_rI fun c hc => Below.heap_setCell _ _ _ _ fun he => by
          simp only at he
          subst he
          exact (List.nodup_cons.1 h2).1 hc
      · rw [List.length_set, Array.toList_setIfInBounds, List.take_set, r4]

end ops
end Go.Proofs.Ytjgnlnlngcjfcaa
