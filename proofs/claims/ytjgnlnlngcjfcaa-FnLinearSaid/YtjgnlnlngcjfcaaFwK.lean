/- Matrices of headers: rows that are owned, whose elements are shared and only read. No condition. -/
import Derived.Test.YtjgnlnlngcjfcaaFwJ
namespace Go.Proofs.Ytjgnlnlngcjfcaa
open Go Go.RowKit
set_option linter.unusedVariables false
set_option linter.unusedSimpArgs false

theorem frV (B U : Nat) (H : Array Obj) {u : Value} (h : u.cells = #[u] ∧ u.oneCell' = true) : Fr rV B U H u u := ⟨[], ⟨rfl, rfl, h.1, h.2⟩, List.nodup_nil, fun c hc => by cases hc⟩
theorem gV : Good (rdL rV) := good_rdL good_rV
theorem gV2 : Good (rdL (rdL rV)) := good_rdL gV
theorem oV {e : TypeId} : Good (owL rV e) := good_owL good_rV
theorem oV2 {e e' : TypeId} : Good (owL (owL rV e) e') := good_owL oV

section rd
variable {e e' : TypeId} {B U : Nat} {H : Array Obj} {v : Value}
theorem Fr.rdV1 {us : List Value} (h : Fr (owL rV e) B U H v us) : Rd (rdL rV) H v us := h.rd id
theorem Fr.rdV2 {M : List (List Value)} (h : Fr (owL (owL rV e) e') B U H v M) : Rd (rdL (rdL rV)) H v M := h.rd fun h => h.rd id
theorem els_rV_nil : ∀ {us xs : List Value} {F : List Nat} {H : Array Obj}, els rV H us xs F → F = [] := by
  intro us
  induction us with
  | nil => intro xs F H h; cases xs with
    | nil => exact h
    | cons => exact h.elim
  | cons u us ih =>
    intro xs F H h
    cases xs with
    | nil => exact h.elim
    | cons x xs => obtain ⟨A, C, rfl, p1, p2⟩ := h; rw [p1.2.1, ih p2]; rfl
theorem els.rd_at {α : Type} {E : Stand α} {H : Array Obj} {us : List Value} {xs : List α} {F : List Nat} {k : Nat} (d : α) (h : els E H us xs F) (hk : k < xs.length) : Rd E H (us.getD k undef) (xs.getD k d) := by
  obtain ⟨u, F1, h1, h2, _⟩ := h.get d hk
  rw [List.getD_eq_getElem?_getD, h1]
  exact ⟨F1, h2⟩
/-- The headers of a list that is read. -/
theorem Rd.heads {α : Type} {E : Stand α} (hE : Good E) (d : α) {xs : List α} (h : Rd (rdL E) H v xs) : ∃ us, Rd (rdL rV) H v us ∧ us.length = xs.length ∧ ∀ k, k < xs.length → Rd E H (us.getD k undef) (xs.getD k d) := by
  obtain ⟨F, h⟩ := h
  rcases h with ⟨a, cap, rfl, rfl, _⟩ | ⟨us, g, off, cap, cur, e, fr, F', hels, rfl, hg, hw, hm, rfl⟩
  · exact ⟨[], ⟨[], .inl ⟨a, cap, rfl, rfl, rfl⟩⟩, rfl, fun k hk => by simp at hk⟩
  · have hl := hels.length
    exact ⟨us, ⟨[g], .inr ⟨us, g, off, cap, cur, e, fr, [], els_rV (hels.cells1 hE), by rw [hl], hg, by rw [hl]; exact hw, by omega, rfl⟩⟩, hl, fun k hk => hels.rd_at d hk⟩
theorem Rd.getV {us : List Value} {k : Nat} (h : Rd (rdL rV) H v us) (hk : k < us.length) : ldH H (eptr v k 1) = some (us.getD k undef) ∧ (us.getD k undef).cells = #[us.getD k undef] ∧ (us.getD k undef).oneCell' = true := by
  obtain ⟨u, h1, F, h2, _, h3, h4⟩ := Rd.get undef h hk
  rw [← h2]
  exact ⟨h1, h3, h4⟩
end rd

theorem own_keepG {α : Type} {E : Stand α} (hE : Good E) {w w' : World} {v : Value} {x : α} {X G : List Nat} (h : E w.heap v x X) (c : Chg G w w') (hG : ∀ b ∈ G, b ∉ X) : E w'.heap v x X :=
  hE.stable h fun b hb => c.block b (hE.lt h b hb) fun hm => hG b hm hb
theorem own_rdI3 {e e' e'' : TypeId} {H : Array Obj} {v : Value} {xs : List (List (List Int))} {F : List Nat} (h : owL (owL (owL rI e) e') e'' H v xs F) : Rd (rdL (rdL (rdL rI))) H v xs := ⟨F, h.rd fun h => h.rd fun h => h.rd id⟩
/-! ### Series that are shared -/
/-- A series that is read, apart from the blocks from B to U. -/
def Ser (B U : Nat) (H : Array Obj) (u : Value) (s : List Int) : Prop := ∃ F, rdL rI H u s F ∧ ∀ b ∈ F, b < B ∨ U ≤ b
section ser
variable {B U : Nat} {w w' : World} {H : Array Obj} {u : Value} {s : List Int}
theorem Ser.rd (h : Ser B U H u s) : Rd (rdL rI) H u s := by obtain ⟨F, h, _⟩ := h; exact ⟨F, h⟩
theorem Ser.ext (h : Ser B U w.heap u s) (k : Ext w w') : Ser B U w'.heap u s := by
  obtain ⟨F, h, hb⟩ := h
  exact ⟨F, g1.stable h fun b hb => k.heap (g1.lt h b hb), hb⟩
theorem Ser.chg {G : List Nat} (h : Ser B U w.heap u s) (c : Chg G w w') (hG : ∀ b ∈ G, B ≤ b ∧ b < U) : Ser B U w'.heap u s := by
  obtain ⟨F, h, hb⟩ := h
  exact ⟨F, g1.stable h fun b hm => c.block b (g1.lt h b hm) fun hg => by have := hG b hg; have := hb b hm; omega, hb⟩
theorem Ser.old (h : Rd (rdL rI) w.heap u s) (hB : w.heap.size ≤ B) (k : Ext w w') : Ser B U w'.heap u s := by
  obtain ⟨F, h⟩ := h
  exact ⟨F, g1.stable h fun b hb => k.heap (g1.lt h b hb), fun b hb => by have := g1.lt h b hb; omega⟩
theorem Ser.cells (h : Ser B U H u s) : u.cells = #[u] ∧ u.oneCell' = true := by obtain ⟨F, h, _⟩ := h; exact ⟨g1.cells h, g1.one h⟩
theorem Ser.of_own {e : TypeId} {G : List Nat} (h : owL rI e H u s G) (hb : ∀ b ∈ G, U ≤ b) : Ser B U H u s := ⟨G, h.rd id, fun b hm => .inr (hb b hm)⟩
end ser

/-- The same, bounded. -/
def SerT (B U T : Nat) (H : Array Obj) (u : Value) (s : List Int) : Prop := ∃ F, rdL rI H u s F ∧ ∀ b ∈ F, b < B ∨ (U ≤ b ∧ b < T)
section sert
variable {B U T : Nat} {w w' : World} {H : Array Obj} {u : Value} {s : List Int}
theorem SerT.ser (h : SerT B U T H u s) : Ser B U H u s := by
  obtain ⟨F, h, hb⟩ := h
  exact ⟨F, h, fun b hm => (hb b hm).imp id And.left⟩
theorem SerT.ext (h : SerT B U T w.heap u s) (k : Ext w w') : SerT B U T w'.heap u s := by
  obtain ⟨F, h, hb⟩ := h
  exact ⟨F, g1.stable h fun b hb => k.heap (g1.lt h b hb), hb⟩
theorem SerT.keep {G : List Nat} (h : SerT B U T w.heap u s) (c : Chg G w w') (hG : ∀ b ∈ G, b < B ∨ (U ≤ b ∧ b < T) → False) : SerT B U T w'.heap u s := by
  obtain ⟨F, h, hb⟩ := h
  exact ⟨F, g1.stable h fun b hm => c.block b (g1.lt h b hm) fun hg => hG b hg (hb b hm), hb⟩
theorem SerT.weak {T' : Nat} (h : SerT B U T H u s) (hT : T ≤ T') : SerT B U T' H u s := by
  obtain ⟨F, h, hb⟩ := h
  exact ⟨F, h, fun b hm => (hb b hm).imp id fun h => ⟨h.1, Nat.lt_of_lt_of_le h.2 hT⟩⟩
theorem SerT.old (h : Rd (rdL rI) w.heap u s) (hB : w.heap.size ≤ B) (k : Ext w w') : SerT B U T w'.heap u s := by
  obtain ⟨F, h⟩ := h
  exact ⟨F, g1.stable h fun b hb => k.heap (g1.lt h b hb), fun b hb => by have := g1.lt h b hb; omega⟩
theorem SerT.of_own {e : TypeId} {G : List Nat} (h : owL rI e H u s G) (hb : ∀ b ∈ G, U ≤ b ∧ b < T) : SerT B U T H u s := ⟨G, h.rd id, fun b hm => .inr (hb b hm)⟩
end sert

/-- What the last column owns. -/
def Cols (e : TypeId) (n : Nat) (U T : Nat) (S : Nat → Prop) (H : Array Obj) (VM : List (List Value)) (M : List (List (List Int))) (G : Nat → List Nat) : Prop :=
  ∀ r, r < n → S r → owL rI e H ((VM.getD r []).getD n undef) ((M.getD r []).getD n []) (G r) ∧ (G r).Nodup ∧ (∀ b ∈ G r, U ≤ b ∧ b < T) ∧ ∀ r', r' < n → S r' → r' ≠ r → ∀ b ∈ G r, b ∉ G r'
/-- n rows of n + 1 headers; what they stand for; the rows of S own their last series. -/
structure SM (e : TypeId) (n : Nat) (B U T : Nat) (S : Nat → Prop) (H : Array Obj) (VM : List (List Value)) (M : List (List (List Int))) : Prop where
  len : VM.length = n
  row : ∀ r, r < n → (VM.getD r []).length = n + 1
  len2 : M.length = n
  row2 : ∀ r, r < n → (M.getD r []).length = n + 1
  srt : ∀ r k, r < n → k < n + 1 → SerT B U T H ((VM.getD r []).getD k undef) ((M.getD r []).getD k [])
  col : ∃ G : Nat → List Nat, Cols e n U T S H VM M G

theorem gset {α : Type} (l : List α) (i j : Nat) (x d : α) (hi : i < l.length) : (l.set i x).getD j d = if j = i then x else l.getD j d := by
  rw [List.getD_eq_getElem?_getD, List.getElem?_set]
  by_cases h : i = j
  · subst h; simp [hi]
  · simp [h, Ne.symm h]
theorem gswap {α : Type} (l : List α) (i j k : Nat) (d : α) (hi : i < l.length) (hj : j < l.length) : (swapL l i j d).getD k d = if k = j then l.getD i d else if k = i then l.getD j d else l.getD k d := by
  unfold swapL
  rw [gset _ _ _ _ _ (by simpa using hj), gset _ _ _ _ _ hi]

section sm
variable {e : TypeId} {n B U T : Nat} {S : Nat → Prop} {w w' : World} {VM : List (List Value)} {M : List (List (List Int))}
theorem SM.ext (h : SM e n B U T S w.heap VM M) (k : Ext w w') : SM e n B U T S w'.heap VM M := by
  obtain ⟨h1, h2, h3, h4, h5, G, h6⟩ := h
  exact ⟨h1, h2, h3, h4, fun r k' hr hk => (h5 r k' hr hk).ext k, G, fun r hr hs => ⟨own_ext o1 (h6 r hr hs).1 k, (h6 r hr hs).2⟩⟩
theorem SM.ser {H : Array Obj} (h : SM e n B U T S H VM M) (r k : Nat) (hr : r < n) (hk : k < n + 1) : Ser B U H ((VM.getD r []).getD k undef) ((M.getD r []).getD k []) := (h.srt r k hr hk).ser
theorem SM.chg2 {F : List Nat} (h : SM e n B U T S w.heap VM M) (c : Chg F w w') (hF : ∀ b ∈ F, T ≤ b ∧ B ≤ b) : SM e n B U T S w'.heap VM M := by
  obtain ⟨h1, h2, h3, h4, h5, G, h6⟩ := h
  exact ⟨h1, h2, h3, h4, fun r k' hr hk => (h5 r k' hr hk).keep c fun b hb hx => by have := hF b hb; omega, G, fun r hr hs => ⟨own_keep (h6 r hr hs).1 c fun b hb hm => by have := hF b hb; have := (h6 r hr hs).2.2.1 b hm; omega, (h6 r hr hs).2⟩⟩
theorem SM.chg {F : List Nat} (h : SM e n B U T S w.heap VM M) (c : Chg F w w') (hF : ∀ b ∈ F, B ≤ b ∧ b < U) : SM e n B U T S w'.heap VM M := by
  obtain ⟨h1, h2, h3, h4, h5, G, h6⟩ := h
  exact ⟨h1, h2, h3, h4, fun r k' hr hk => (h5 r k' hr hk).keep c fun b hb hx => by have := hF b hb; omega, G, fun r hr hs => ⟨own_keep (h6 r hr hs).1 c fun b hb hm => by have := hF b hb; have := (h6 r hr hs).2.2.1 b hm; omega, (h6 r hr hs).2⟩⟩
theorem SM.weak {H : Array Obj} {S' : Nat → Prop} {T' : Nat} (h : SM e n B U T S H VM M) (hS : ∀ r, r < n → S' r → S r) (hT : T ≤ T') : SM e n B U T' S' H VM M := by
  obtain ⟨h1, h2, h3, h4, h5, G, h6⟩ := h
  refine ⟨h1, h2, h3, h4, fun r k hr hk => (h5 r k hr hk).weak hT, G, fun r hr hs => ?_⟩
  obtain ⟨q1, q2, q3, q4⟩ := h6 r hr (hS r hr hs)
  exact ⟨q1, q2, fun b hb => ⟨(q3 b hb).1, Nat.lt_of_lt_of_le (q3 b hb).2 hT⟩, fun r' hr' hs' => q4 r' hr' (hS r' hr' hs')⟩
theorem SM.swap {H : Array Obj} (h : SM e n B U T S H VM M) (hS : ∀ r r', S r → S r') {c p : Nat} (hc : c < n) (hp : p < n) : SM e n B U T S H (swapL VM c p []) (swapL M c p []) := by
  obtain ⟨h1, h2, h3, h4, h5, G, h6⟩ := h
  have eV := fun k => gswap VM c p k [] (by omega) (by omega)
  have eM := fun k => gswap M c p k [] (by omega) (by omega)
  refine ⟨by simp [length_swapL, h1], fun r hr => ?_, by simp [length_swapL, h3], fun r hr => ?_, fun r k hr hk => ?_, fun r => if r = p then G c else if r = c then G p else G r, fun r hr hs => ?_⟩
  · rw [eV]; split
    · exact h2 c hc
    · split
      · exact h2 p hp
      · exact h2 r hr
  · rw [eM]; split
    · exact h4 c hc
    · split
      · exact h4 p hp
      · exact h4 r hr
  · rw [eV, eM]; split
    · exact h5 c k hc hk
    · split
      · exact h5 p k hp hk
      · exact h5 r k hr hk
  · have key : ∀ a, a < n → ∃ b, b < n ∧ (swapL VM c p []).getD a [] = VM.getD b [] ∧ (swapL M c p []).getD a [] = M.getD b [] ∧ (if a = p then G c else if a = c then G p else G a) = G b ∧ b = (if a = p then c else if a = c then p else a) := by
      intro a ha
      rw [eV, eM]
      by_cases x1 : a = p
      · simp only [x1, if_pos]; exact ⟨c, hc, rfl, rfl, rfl, rfl⟩
      · by_cases x2 : a = c
        · simp only [x1, x2, if_neg, if_pos, if_false]
          by_cases x3 : c = p
          · exact absurd (x2.trans x3) x1
          · simp only [x3, if_false, if_true]; exact ⟨p, hp, rfl, rfl, rfl, rfl⟩
        · simp only [x1, x2, if_false]; exact ⟨a, ha, rfl, rfl, rfl, rfl⟩
    obtain ⟨b, hb, f1, f2, f3, f4⟩ := key r hr
    obtain ⟨q1, q2, q3, q4⟩ := h6 b hb (hS r b hs)
    rw [f1, f2]
    simp only [f3]
    refine ⟨q1, q2, q3, fun r' hr' hs' hne => ?_⟩
    obtain ⟨b', hb', _, _, f3', f4'⟩ := key r' hr'
    simp only [f3']
    refine q4 b' hb' (hS r' b' hs') ?_
    intro hbb
    apply hne
    rw [f4, f4'] at hbb
    repeat' split at hbb
    all_goals omega
theorem SM.put {T' B' U' : Nat} {u : Value} {s : List Int} {r k : Nat} (h : SM e n B U T S w.heap VM M) (hr : r < n) (hk : k < n + 1) (hu : Fr (owL rI e) B' U' w.heap u s) (hT : T ≤ B') (hU : U ≤ B') (hU' : U' ≤ T') (hTT : T ≤ T') :
    SM e n B U T' (fun r' => S r' ∨ (r' = r ∧ k = n)) w.heap (VM.set r ((VM.getD r []).set k u)) (M.set r ((M.getD r []).set k s)) := by
  obtain ⟨h1, h2, h3, h4, h5, G, h6⟩ := h
  obtain ⟨F, f1, f2, f3⟩ := hu
  have eV := fun j => gset VM r j ((VM.getD r []).set k u) [] (by omega)
  have eM := fun j => gset M r j ((M.getD r []).set k s) [] (by omega)
  have hv := h2 r hr
  have hm := h4 r hr
  have e1 := fun j => gset (VM.getD r []) k j u undef (by omega)
  have e2 := fun j => gset (M.getD r []) k j s [] (by omega)
  refine ⟨by simp [h1], fun a ha => ?_, by simp [h3], fun a ha => ?_, fun a j ha hj => ?_, fun a => if a = r ∧ k = n then F else G a, fun a ha hs => ?_⟩
  · rw [eV]; split
    · rw [List.length_set]; exact hv
    · exact h2 a ha
  · rw [eM]; split
    · rw [List.length_set]; exact hm
    · exact h4 a ha
  · rw [eV, eM]
    by_cases hx : a = r
    · rw [if_pos hx, if_pos hx, e1, e2]
      by_cases hy : j = k
      · rw [if_pos hy, if_pos hy]
        exact SerT.of_own f1 fun b hb => by have := f3 b hb; omega
      · rw [if_neg hy, if_neg hy]; exact (h5 r j hr hj).weak hTT
    · rw [if_neg hx, if_neg hx]; exact (h5 a j ha hj).weak hTT
  · have other : ∀ a', a' < n → ¬ (a' = r ∧ k = n) → ((VM.set r ((VM.getD r []).set k u)).getD a' []).getD n undef = (VM.getD a' []).getD n undef ∧ ((M.set r ((M.getD r []).set k s)).getD a' []).getD n [] = (M.getD a' []).getD n [] := by
      intro a' ha' hne
      rw [eV, eM]
      by_cases hx : a' = r
      · rw [if_pos hx, if_pos hx, e1, e2, if_neg (by omega), if_neg (by omega), hx]; exact ⟨rfl, rfl⟩
      · rw [if_neg hx, if_neg hx]; exact ⟨rfl, rfl⟩
    by_cases hx : a = r ∧ k = n
    · simp only [hx, and_self, if_true]
      obtain ⟨rfl, rfl⟩ := hx
      rw [eV, eM, if_pos rfl, if_pos rfl, e1, e2, if_pos rfl, if_pos rfl]
      refine ⟨f1, f2, fun b hb => by have := f3 b hb; omega, fun r' hr' hs' hne b hb => ?_⟩
      rw [if_neg (by omega)]
      intro hm2
      have hs2 : S r' := hs'.elim id fun h => absurd h.1 hne
      have := (h6 r' hr' hs2).2.2.1 b hm2
      have := f3 b hb
      omega
    · have hsa : S a := hs.elim id fun h => absurd h hx
      obtain ⟨q1, q2, q3, q4⟩ := h6 a ha hsa
      obtain ⟨g1', g2'⟩ := other a ha hx
      simp only [hx, if_false]
      rw [g1', g2']
      refine ⟨q1, q2, fun b hb => by have := q3 b hb; omega, fun r' hr' hs' hne b hb => ?_⟩
      by_cases hx' : r' = r ∧ k = n
      · rw [if_pos hx']
        intro hm2
        have := f3 b hm2
        have := q3 b hb
        omega
      · rw [if_neg hx']
        exact q4 r' hr' (hs'.elim id fun h => absurd h hx') hne b hb
/-- The last column, owned. -/
theorem SM.cols {H : Array Obj} (h : SM e n B U T S H VM M) (hS : ∀ r, r < n → S r) :
    ∃ F, els (owL rI e) H (VM.map fun r => r.getD n undef) (M.map fun r => r.getD n []) F ∧ F.Nodup ∧ ∀ b ∈ F, U ≤ b ∧ b < T := by
  obtain ⟨h1, h2, h3, h4, h5, G, h6⟩ := h
  have hd : ∀ {β : Type} {l : List (List β)} {x : β} {i : Nat} (hi : i < l.length), (l.map fun r => r.getD n x)[i]'(by simpa using hi) = (l.getD i []).getD n x := by
    intro β l x i hi
    simp [hi]
  refine ⟨((List.range n).map G).flatten, els.perm.2 ⟨(List.range n).map G, by simp [h3], by simp [h1, h3], rfl, fun k k1 k2 k3 => ?_⟩, ?_, fun b hb => ?_⟩
  · simp only [List.length_map, List.length_range] at k1 k2 k3
    rw [hd (by omega), hd (by omega), List.getElem_map, List.getElem_range]
    exact (h6 k k3 (hS k k3)).1
  · refine List.pairwise_flatten.2 ⟨fun l hl => ?_, List.pairwise_iff_getElem.2 fun i j hi hj hij x hx y hy => ?_⟩
    · obtain ⟨k, hk, rfl⟩ := List.mem_map.1 hl
      have hk := List.mem_range.1 hk
      exact (h6 k hk (hS k hk)).2.1
    · simp only [List.length_map, List.length_range] at hi hj
      rw [List.getElem_map, List.getElem_range] at hx hy
      rintro rfl
      exact (h6 i hi (hS i hi)).2.2.2 j hj (hS j hj) (by omega) x hx hy
  · obtain ⟨l, hl, hb⟩ := List.mem_flatten.1 hb
    obtain ⟨k, hk, rfl⟩ := List.mem_map.1 hl
    have hk := List.mem_range.1 hk
    exact (h6 k hk (hS k hk)).2.2.1 b hb
end sm

/-- A list of headers whose elements are owned, as a list that owns them. -/
theorem own_lift {e e' : TypeId} {B B' : Nat} {H : Array Obj} {v : Value} {us : List Value} {xs : List (List Int)} {F : List Nat} (h : Fr (owL rV e') B' H.size H v us) (hx : els (owL rI e) H us xs F) (hn : F.Nodup) (hF : ∀ b ∈ F, B ≤ b ∧ b < B') (hB : B ≤ B') :
    Fr (owL (owL rI e) e') B H.size H v xs := by
  obtain ⟨F0, h1, h2, h3⟩ := h
  have hl := hx.length
  rcases h1 with ⟨rfl, rfl, rfl⟩ | ⟨us', g, cap, cur, F', hels, rfl, hg, r1, r2, r3, r4, rfl⟩
  · cases xs with
    | nil => exact frNil _ _ _
    | cons => simp at hl
  · have : F' = [] := els_rV_nil hels
    subst this
    have hm := owL_rV_mk (e := e') (v := .slice (some ⟨g, 0, none⟩) us.length cap) (us := us) (g := g) (H := H) (.inr ⟨us', g, cap, cur, [], hels, rfl, hg, r1, r2, r3, r4, rfl⟩) hl.symm hx
    refine ⟨_, hm, List.nodup_cons.2 ⟨fun hh => ?_, hn⟩, fun b hb => ⟨?_, o2.lt hm b hb⟩⟩
    · have := hF g hh; have := h3 g (List.mem_cons_self ..); omega
    · rcases List.mem_cons.1 hb with rfl | hb
      · have := h3 b (List.mem_cons_self ..); omega
      · exact (hF b hb).1

/-! ### Rows moved about -/
theorem Opn.row {α : Type} {E : Stand α} {e : TypeId} {B U : Nat} {H : Array Obj} {v : Value} {us us0 : List Value} {xs : List α} (d : α) (h : Opn E e B U H v us us0 xs) {j : Nat} (hj : j < xs.length) {u : Value} (hu : us0.getD j undef = u) : Rd E H u (xs.getD j d) := by
  obtain ⟨g, F, _, h2, _⟩ := h
  have := h2.rd_at d hj
  rwa [hu] at this
theorem own_rd1 {e : TypeId} {H : Array Obj} {v : Value} {xs : List Int} (h : Rd (owL rI e) H v xs) : Rd (rdL rI) H v xs := by obtain ⟨F, h⟩ := h; exact own_rdI h
/-- Row c is laid on row p, then a new row on row c. -/
theorem Opn.rot {α : Type} {E : Stand α} (hE : Good E) {e : TypeId} {B U B' U' : Nat} {H : Array Obj} {v : Value} {us us0 : List Value} {xs : List α} (d : α) {c p : Nat} {u : Value} {y : α} (h : Opn E e B U H v us us0 xs) (hc : c < xs.length) (hp : p < xs.length)
    (hus : us = (us0.set p (us0.getD c undef)).set c u) (hy : Fr E B' U' H u y) (hU : U ≤ B') (hB : B ≤ B') : Fr (owL E e) B H.size H v ((swapL xs c p d).set c y) := by
  obtain ⟨g, F, h1, h2, h3, h4⟩ := h
  obtain ⟨G, y1, y2, y3⟩ := hy
  obtain ⟨Fs, q1, q2, rfl, q4⟩ := els.perm.1 h2
  have hn := List.nodup_cons.1 h3
  have hpw := List.pairwise_flatten.1 hn.2
  have hdis : ∀ i j (hi : i < Fs.length) (hj : j < Fs.length), i ≠ j → ∀ b ∈ Fs[i], b ∉ Fs[j] := by
    intro i j hi hj hne b hb hb'
    rcases Nat.lt_or_gt_of_ne hne with hh | hh
    · exact (List.pairwise_iff_getElem.1 hpw.2 i j hi hj hh) b hb b hb' rfl
    · exact (List.pairwise_iff_getElem.1 hpw.2 j i hj hi hh) b hb' b hb rfl
  have hmem : ∀ i (hi : i < Fs.length), ∀ b ∈ Fs[i], b ∈ Fs.flatten := fun i hi b hb => List.mem_flatten.2 ⟨_, List.getElem_mem hi, hb⟩
  have hsw : (swapL xs c p d).length = xs.length := length_swapL ..
  let src : Nat → Nat := fun k => if k = p then c else k
  have hsrc : ∀ k, k < xs.length → src k < xs.length := fun k hk => by show (if k = p then c else k) < _; split <;> omega
  let Gs : List (List Nat) := (List.range xs.length).map fun k => if k = c then G else Fs.getD (src k) []
  have hgl : Gs.length = xs.length := by simp [Gs]
  have hgk : ∀ k (hk : k < Gs.length), Gs[k] = if k = c then G else Fs.getD (src k) [] := fun k hk => by simp [Gs]
  have hels : els E H us ((swapL xs c p d).set c y) Gs.flatten := by
    subst hus
    refine els.perm.2 ⟨Gs, by simp [hgl, hsw], by simp [hsw, q2], rfl, fun k k1 k2 k3 => ?_⟩
    rw [hgk k k3]
    have hk : k < xs.length := by omega
    by_cases hkc : k = c
    · subst hkc
      simp only [List.getElem_set_self, if_pos]
      exact y1
    · simp only [List.getElem_set_ne (Ne.symm hkc), if_neg hkc]
      rw [getElem_swapL xs c p d hc hp k _ hk]
      by_cases hkp : k = p
      · subst hkp
        have e0 : src k = c := by show (if k = k then c else k) = c; rw [if_pos rfl]
        rw [e0, if_pos rfl]
        simp only [List.getElem_set_self]
        rw [show us0.getD c undef = us0[c]'(by omega) from by simp [show c < us0.length by omega], show Fs.getD c [] = Fs[c]'(by omega) from by simp [show c < Fs.length by omega]]
        exact q4 c _ _ _
      · have e0 : src k = k := by show (if k = p then c else k) = k; rw [if_neg hkp]
        rw [e0, if_neg hkp, if_neg hkc]
        simp only [List.getElem_set_ne (Ne.symm hkp)]
        rw [show Fs.getD k [] = Fs[k]'(by omega) from by simp [show k < Fs.length by omega]]
        exact q4 k _ _ _
  have hm := owL_rV_mk h1 (by subst hus; simp [hsw, q2]) hels
  have hfs : ∀ k (hk : k < xs.length), Fs.getD k [] = Fs[k]'(by omega) := fun k hk => by simp [show k < Fs.length by omega]
  have hin : ∀ b ∈ Gs.flatten, b ∈ Fs.flatten ∨ b ∈ G := by
    intro b hb
    obtain ⟨l, hl, hbl⟩ := List.mem_flatten.1 hb
    obtain ⟨k, hk, rfl⟩ := List.mem_map.1 hl
    have hk := List.mem_range.1 hk
    by_cases hkc : k = c
    · rw [if_pos hkc] at hbl; exact .inr hbl
    · rw [if_neg hkc, hfs _ (hsrc k hk)] at hbl
      exact .inl (hmem _ _ b hbl)
  refine ⟨_, hm, List.nodup_cons.2 ⟨fun hh => ?_, List.pairwise_flatten.2 ⟨fun l hl => ?_, List.pairwise_iff_getElem.2 fun i j hi hj hij x hx z hz => ?_⟩⟩, fun b hb => ⟨?_, (good_owL hE).lt hm b hb⟩⟩
  · rcases hin g hh with hh | hh
    · exact hn.1 hh
    · have := y3 g hh; have := h4 g (List.mem_cons_self ..); omega
  · obtain ⟨k, hk, rfl⟩ := List.mem_map.1 hl
    have hk := List.mem_range.1 hk
    by_cases hkc : k = c
    · rw [if_pos hkc]; exact y2
    · rw [if_neg hkc, hfs _ (hsrc k hk)]; exact hpw.1 _ (List.getElem_mem _)
  · have hi' : i < xs.length := by omega
    have hj' : j < xs.length := by omega
    rw [hgk i hi] at hx
    rw [hgk j hj] at hz
    rintro rfl
    by_cases hic : i = c
    · rw [if_pos hic] at hx
      rw [if_neg (by omega), hfs _ (hsrc j hj')] at hz
      have := y3 x hx
      have := h4 x (List.mem_cons_of_mem _ (hmem _ _ x hz))
      omega
    · rw [if_neg hic, hfs _ (hsrc i hi')] at hx
      by_cases hjc : j = c
      · rw [if_pos hjc] at hz
        have := y3 x hz
        have := h4 x (List.mem_cons_of_mem _ (hmem _ _ x hx))
        omega
      · rw [if_neg hjc, hfs _ (hsrc j hj')] at hz
        refine hdis (src i) (src j) (by have := hsrc i hi'; omega) (by have := hsrc j hj'; omega) ?_ x hx hz
        show (if i = p then c else i) ≠ (if j = p then c else j)
        split <;> split <;> omega
  · rcases List.mem_cons.1 hb with rfl | hb
    · exact (h4 _ (List.mem_cons_self ..)).1
    · rcases hin b hb with hh | hh
      · exact (h4 b (List.mem_cons_of_mem _ hh)).1
      · have := y3 b hh; omega

section ops
variable {P : Program} {ops : Array Oper} {w0 : World} {Q : Act → World → Prop} {os : List Oper} {ks : List Nat} {N : Nat} {ρ : Nat → Value} {w : World}
  {d : Nat} {ty : TypeId} {pos : String} {aft : Array Edge} {g : Option (Nat × Bool)} {t e : TypeId} {z : Value} {b : Nat}

/-- A store of a header into a row of a matrix of headers. -/
theorem e_setMV {e' : TypeId} {st : TypeId} {x y : Operand} {v u a : Value} {xs : List (List Value)} {B U r j : Nat} (hst : (P.info? st).map (·.size) = some 1) (hx : evF N ρ x = eptr u j 1) (hy : evF N ρ y = a) (ha : a.cells = #[a] ∧ a.oneCell' = true)
    (hv : Fr (owL (owL rV e) e') B U w.heap v xs) (hr : r < xs.length) (hl : ldH w.heap (eptr v r 1) = some u) (hj : j < (xs.getD r []).length) (hu : Up ops N ρ ⟨none, .store st x y, ty, pos, aft, g⟩)
    (h : ∀ w1 F, Chg F w w1 → w1.heap.size = w.heap.size → (∀ c ∈ F, B ≤ c ∧ c < U) → Fr (owL (owL rV e) e') B U w1.heap v (xs.set r ((xs.getD r []).set j a)) → LW P ops w0 Q os ks (mk N ρ) w1) :
    LW P ops w0 Q (⟨none, .store st x y, ty, pos, aft, g⟩ :: os) (4 :: ks) (mk N ρ) w := by
  obtain ⟨G, q1, q2, q3, q4⟩ := hv.row_at oV [] hr hl
  obtain ⟨w1, F', p1, p2, p3, p4, p5, p6⟩ := run_set (P := P) good_rV hst q1 q2 hj (u := a) (y := a) (G := []) ⟨rfl, rfl, ha.1, ha.2⟩ List.nodup_nil (fun b hb => by cases hb)
  have hF' : owL rV e w1.heap u ((xs.getD r []).set j a) G := by
    rcases q1 with ⟨rfl, hx0, rfl⟩ | ⟨us, g1, cap, cur, F1, hels, rfl, _, _, _, _, _, rfl⟩
    · rw [hx0] at hj; simp at hj
    · rw [els_rV_nil hels] at p4 ⊢
      rcases p2 with ⟨hh, _⟩ | ⟨us2, g2, cap2, cur2, F2, hels2, hv2, r⟩
      · cases hh
      · rw [els_rV_nil hels2] at hels2
        have : g2 = g1 := by injection hv2 with hv2 _ _; injection hv2 with hv2; injection hv2 with hv2 _; exact hv2.symm
        subst this
        exact .inr ⟨us2, g2, cap2, cur2, [], hels2, hv2, r.1, r.2.1, r.2.2.1, r.2.2.2.1, r.2.2.2.2.1, rfl⟩
  have hch : Chg G w w1 := ⟨p5.os, p5.tape, p5.output, p5.size, fun k hk hm => p5.block k hk fun hmm => hm (List.mem_of_mem_take hmm)⟩
  exact lw_s rfl hu w1 (exec_store hx hy p1) (h w1 G hch p6 q3 (q4 hch hF'))

theorem rV_blocks {H : Array Obj} {v : Value} {xs : List Value} {G : List Nat} (hG : rdL rV H v xs G) : G.drop 1 = [] := by
  rcases hG with ⟨_, _, _, _, rfl⟩ | ⟨us, g, off, cap, cur, e', fr, F', hels, _, _, _, _, rfl⟩
  · rfl
  · exact els_rV_nil hels
/-- append of headers that are read. -/
theorem e_appV {x y : Operand} {v a : Value} {xs ys : List Value} {B U : Nat} (ht : P.underlying t = some (.slice e)) (hi : TI P e 1 z b) (hz : z.cells = #[z]) (hx : evF N ρ x = v) (hy : evF N ρ y = a) (hv : Fr (owL rV e) B U w.heap v xs) (hB : B ≤ w.heap.size)
    (ha : Rd (rdL rV) w.heap a ys) (hbytes : (xs.length + ys.length) * b ≤ 140737488355328) (hmx : xs.length + ys.length ≤ maxLen) (hu : Up ops N ρ ⟨some d, .call ⟨.builtin .append, #[x, y], #[t, t]⟩, ty, pos, aft, g⟩)
    (h : ∀ v1 w1 F, Chg F w w1 → (∀ c ∈ F, B ≤ c ∧ c < U) → Fr (owL rV e) B w1.heap.size w1.heap v1 (xs ++ ys) → LW P ops w0 Q os ks (mk N (upd ρ d v1)) w1) :
    LW P ops w0 Q (⟨some d, .call ⟨.builtin .append, #[x, y], #[t, t]⟩, ty, pos, aft, g⟩ :: os) (4 :: ks) (mk N ρ) w := by
  obtain ⟨F, h1, h2, h3⟩ := hv
  obtain ⟨G, hG⟩ := ha
  have hGe := rV_blocks hG
  obtain ⟨v', w', F', r1, r2, r3, r4, r5⟩ := run_app (P := P) (ty := ty) good_rV ht hi hz h1 h2 hG rfl hbytes hmx (by rw [hGe]; intro c hc; cases hc) (by rw [hGe]; exact List.nodup_nil)
  refine lw_e rfl hu v' w' (by simp only [execOp, resolve, invoke, builtin, List.map_toArray, List.map_cons, List.map_nil, Sem.run_bind, Sem.run_pure, Result.andThen_ok, hx, hy, r1]) (h v' w' (F.take 1) r5 (fun c hc => h3 c (List.mem_of_mem_take hc)) ⟨F', r2, r3, fun c hc => ?_⟩)
  have hlt := oV.lt r2 c hc
  refine ⟨?_, hlt⟩
  rcases r4 c hc with hh | hh | hh
  · exact (h3 c hh).1
  · rw [hGe] at hh; cases hh
  · omega
end ops

/-- k rows of n + 1 headers that read, in the call's first memory, as the rows of M. -/
structure HdB (H : Array Obj) (n : Nat) (VM : List (List Value)) (M : List (List (List Int))) (k : Nat) : Prop where
  len : VM.length = k
  row : ∀ r, r < k → (VM.getD r []).length = n + 1
  rd : ∀ r j, r < k → j < n + 1 → Rd (rdL rI) H ((VM.getD r []).getD j undef) ((M.getD r []).getD j [])
theorem HdB.zero (H : Array Obj) (n : Nat) (M : List (List (List Int))) : HdB H n [] M 0 := ⟨rfl, fun r h => by omega, fun r j h => by omega⟩
theorem gsnoc {α : Type} {l : List α} {x d : α} {r : Nat} : (l ++ [x]).getD r d = if r = l.length then x else l.getD r d := by
  rw [List.getD_eq_getElem?_getD, List.getD_eq_getElem?_getD]
  by_cases h : r < l.length
  · rw [List.getElem?_append_left h, if_neg (by omega)]
  · rw [List.getElem?_append_right (by omega)]
    by_cases e : r = l.length
    · subst e; simp
    · rw [if_neg e]
      have h1 : [x][r - l.length]? = none := List.getElem?_eq_none (by simp; omega)
      have h2 : l[r]? = none := List.getElem?_eq_none (by omega)
      rw [h1, h2]
theorem HdB.snoc {H : Array Obj} {n k : Nat} {VM : List (List Value)} {M : List (List (List Int))} {us : List Value} {u : Value} {a : List (List Int)} {b : List Int} (h : HdB H n VM M k) (hM : M.getD k [] = a ++ [b]) (ha : a.length = n) (hul : us.length = a.length)
    (hus : ∀ j, j < a.length → Rd (rdL rI) H (us.getD j undef) (a.getD j [])) (hu : Rd (rdL rI) H u b) : HdB H n (VM ++ [us ++ [u]]) M (k + 1) := by
  obtain ⟨h1, h2, h3⟩ := h
  refine ⟨by simp [h1], fun r hr => ?_, fun r j hr hj => ?_⟩
  · rw [gsnoc]; split
    · simp [hul, ha]
    · exact h2 r (by omega)
  · rw [gsnoc]
    by_cases e : r = VM.length
    · rw [if_pos e, show r = k from by omega, hM, gsnoc, gsnoc]
      by_cases e2 : j = us.length
      · rw [if_pos e2, if_pos (by omega)]; exact hu
      · rw [if_neg e2, if_neg (by omega)]; exact hus j (by omega)
    · rw [if_neg e]; exact h3 r j (by omega) hj
theorem HdB.sm {w w' : World} {n U T : Nat} {S : Nat → Prop} {e : TypeId} {VM : List (List Value)} {M : List (List (List Int))} (h : HdB w.heap n VM M n) (hM : M.length = n) (hr : ∀ r, r < n → (M.getD r []).length = n + 1) (hS : ∀ r, ¬ S r) (k : Ext w w') :
    SM e n w.heap.size U T S w'.heap VM M :=
  ⟨h.len, h.row, hM, hr, fun r j h1 h2 => SerT.old (h.rd r j h1 h2) (Nat.le_refl _) k, fun _ => [], fun r _ hs => absurd hs (hS r)⟩
end Go.Proofs.Ytjgnlnlngcjfcaa
