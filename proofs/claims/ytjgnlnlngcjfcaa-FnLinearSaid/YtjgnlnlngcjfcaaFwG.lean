/- Slices whose elements own memory; boxes; calls that write. No condition. -/
import Derived.Test.YtjgnlnlngcjfcaaFwF
namespace Go.Proofs.Ytjgnlnlngcjfcaa
open Go Go.RowKit

section els
variable {α : Type} {E : Stand α} {H : Array Obj}

theorem els.at_ : ∀ {us : List Value} {xs : List α} {F : List Nat} {k : Nat} (d : α), els E H us xs F → k < xs.length → F.Nodup →
    ∃ u G, us[k]? = some u ∧ E H u (xs.getD k d) G ∧ G.Nodup ∧ (∀ b ∈ G, b ∈ F) ∧
      (∀ {E' : Stand α} {H' : Array Obj} {y : α}, (∀ {v x C}, E H v x C → (∀ b ∈ C, b ∈ F ∧ b ∉ G) → E' H' v x C) → E' H' u y G → els E' H' us (xs.set k y) F)
  | u :: us, x :: xs, _, 0, d, ⟨F1, F2, rfl, h1, h2⟩, _, hn => by
    have hn' := List.nodup_append.1 hn
    refine ⟨u, F1, rfl, h1, hn'.1, fun b hb => List.mem_append_left _ hb, fun {E' H' y} hE hu => ⟨F1, F2, rfl, hu, ?_⟩⟩
    have key : ∀ {us : List Value} {xs : List α} {F : List Nat}, els E H us xs F → (∀ b ∈ F, b ∈ F2) → els E' H' us xs F := by
      intro us
      induction us with
      | nil => intro xs F h _; cases xs with
        | nil => exact h
        | cons => exact h.elim
      | cons u us ih =>
        intro xs F h hs
        cases xs with
        | nil => exact h.elim
        | cons x xs =>
          obtain ⟨A, C, rfl, q1, q2⟩ := h
          exact ⟨A, C, rfl, hE q1 fun b hb => ⟨List.mem_append_right _ (hs b (List.mem_append_left _ hb)), fun hc => hn'.2.2 b hc b (hs b (List.mem_append_left _ hb)) rfl⟩, ih q2 fun b hb => hs b (List.mem_append_right _ hb)⟩
    exact key h2 fun b hb => hb
  | u :: us, x :: xs, _, k + 1, d, ⟨F1, F2, rfl, h1, h2⟩, hk, hn => by
    have hn' := List.nodup_append.1 hn
    obtain ⟨u', G, hu, hx, hg, hb, hc⟩ := els.at_ d h2 (by simpa using hk) hn'.2.1
    refine ⟨u', G, by simpa using hu, by simpa using hx, hg, fun b hh => List.mem_append_right _ (hb b hh), fun hE hy => ⟨F1, F2, rfl, hE h1 fun b hb' => ⟨List.mem_append_left _ hb', fun hc' => hn'.2.2 b hb' b (hb b hc') rfl⟩, ?_⟩⟩
    exact hc (fun q hs => hE q fun b hb' => ⟨List.mem_append_right _ (hs b hb').1, (hs b hb').2⟩) hy
  | [], [], _, _, _, _, hk, _ => by simp at hk
  | [], _ :: _, _, _, _, h, _, _ => h.elim
  | _ :: _, [], _, _, _, h, _, _ => h.elim

theorem els.set : ∀ {us : List Value} {xs : List α} {F G : List Nat} {k : Nat} {u : Value} {y : α}, els E H us xs F → k < xs.length → F.Nodup → E H u y G → G.Nodup → (∀ b ∈ G, b ∉ F) →
    ∃ F', els E H (us.set k u) (xs.set k y) F' ∧ F'.Nodup ∧ ∀ b ∈ F', b ∈ F ∨ b ∈ G
  | u0 :: us, x :: xs, _, G, 0, u, y, ⟨F1, F2, rfl, h1, h2⟩, _, hn, hy, hg, hd => by
    have hn' := List.nodup_append.1 hn
    refine ⟨G ++ F2, ⟨G, F2, rfl, hy, h2⟩, List.nodup_append.2 ⟨hg, hn'.2.1, ?_⟩, fun b hb => (List.mem_append.1 hb).elim .inr fun h => .inl (List.mem_append_right _ h)⟩
    rintro a ha b hb rfl
    exact hd a ha (List.mem_append_right _ hb)
  | u0 :: us, x :: xs, _, G, k + 1, u, y, ⟨F1, F2, rfl, h1, h2⟩, hk, hn, hy, hg, hd => by
    have hn' := List.nodup_append.1 hn
    obtain ⟨F', q1, q2, q3⟩ := els.set h2 (by simpa using hk) hn'.2.1 hy hg fun b hb hc => hd b hb (List.mem_append_right _ hc)
    refine ⟨F1 ++ F', ⟨F1, F', rfl, h1, q1⟩, List.nodup_append.2 ⟨hn'.1, q2, ?_⟩, fun b hb => ?_⟩
    · rintro a ha b hb rfl
      rcases q3 a hb with hh | hh
      · exact hn'.2.2 a ha a hh rfl
      · exact hd a hh (List.mem_append_left _ ha)
    · rcases List.mem_append.1 hb with hh | hh
      · exact .inl (List.mem_append_left _ hh)
      · rcases q3 b hh with h' | h'
        · exact .inl (List.mem_append_right _ h')
        · exact .inr h'
  | [], [], _, _, _, _, _, _, hk, _, _, _, _ => by simp at hk
  | [], _ :: _, _, _, _, _, _, h, _, _, _, _, _ => h.elim
  | _ :: _, [], _, _, _, _, _, h, _, _, _, _, _ => h.elim
end els

/-- A value for itself. -/
def rV : Stand Value := fun _ v x F => v = x ∧ F = [] ∧ v.cells = #[v] ∧ v.oneCell' = true
theorem good_rV : Good rV := ⟨fun h => h.2.2.1, fun h => h.2.2.2, fun h b hb => (by rw [h.2.1] at hb; cases hb), fun h _ => h⟩

/-- One element of an owned slice: taken out, written, put back. -/
theorem Fr.row {α : Type} {E : Stand α} {e : TypeId} (hE : Good E) {B U : Nat} {w : World} {v : Value} {xs : List α} (d : α) (h : Fr (owL E e) B U w.heap v xs) {r : Nat} (hr : r < xs.length) :
    ∃ u G, ldH w.heap (eptr v r 1) = some u ∧ E w.heap u (xs.getD r d) G ∧ G.Nodup ∧ (∀ b ∈ G, B ≤ b ∧ b < U) ∧
      ∀ {w' : World} {y : α}, Chg G w w' → E w'.heap u y G → Fr (owL E e) B U w'.heap v (xs.set r y) := by
  obtain ⟨F, h1, h2, h3⟩ := h
  rcases h1 with ⟨rfl, rfl, rfl⟩ | ⟨us, g, cap, cur, F', hels, rfl, hg, r1, r2, r3, r4, rfl⟩
  · simp at hr
  · have hn := List.nodup_cons.1 h2
    obtain ⟨u, G, hu, hx, hgn, hsub, hput⟩ := hels.at_ d hr hn.2
    refine ⟨u, G, ?_, hx, hgn, fun b hb => h3 b (List.mem_cons_of_mem _ (hsub b hb)), ?_⟩
    · rw [eptr_mk]
      simp only [ldH, cellH, hg, Nat.zero_add]
      rw [← r4, List.getElem?_take, if_pos hr] at hu
      simpa using hu
    · intro w' y hc hy
      refine ⟨g :: F', .inr ⟨us, g, cap, cur, F', ?_, by simp, ?_, by simpa using r1, r2, r3, by simpa using r4, rfl⟩, h2, h3⟩
      · exact hput (fun q hs => hE.stable q fun b hb => hc.block b (hels.lt hE b (hs b hb).1) (hs b hb).2) hy
      · rw [hc.block g (getElem?_lt hg) fun hm => hn.1 (hsub g hm)]; exact hg

theorem Fr.row_at {α : Type} {E : Stand α} {e : TypeId} (hE : Good E) {B U : Nat} {w : World} {v : Value} {xs : List α} (d : α) (h : Fr (owL E e) B U w.heap v xs) {r : Nat} (hr : r < xs.length) {u : Value} (hu : ldH w.heap (eptr v r 1) = some u) :
    ∃ G, E w.heap u (xs.getD r d) G ∧ G.Nodup ∧ (∀ b ∈ G, B ≤ b ∧ b < U) ∧
      ∀ {w' : World} {y : α}, Chg G w w' → E w'.heap u y G → Fr (owL E e) B U w'.heap v (xs.set r y) := by
  obtain ⟨u', G, q0, q1, q2, q3, q4⟩ := h.row hE d hr
  rw [hu] at q0
  cases q0
  exact ⟨G, q1, q2, q3, q4⟩

section run
variable {P : Program} {w : World}

/-- A store of one cell into a block that is not frozen. -/
theorem run_store1 {st : TypeId} (hst : (P.info? st).map (·.size) = some 1) {g j : Nat} {cur : Array Value} {e : TypeId} (hg : w.heap[g]? = some (.cells cur e (0, 0))) (hj : j < cur.size) {u : Value} (hc : u.cells = #[u]) (h1 : u.oneCell' = true) :
    (Instr.storeAt st (.pointer (some ⟨g, j, none⟩)) u).run P w = .ok () (w.setCell ⟨g, j, none⟩ u) := by
  obtain ⟨i, hi1, hi2⟩ := Option.map_eq_some_iff.1 hst
  have hcell : w.cell? ⟨g, j, none⟩ = some cur[j] := by
    rw [cell_cellH]; simp [cellH, hg, hj]
  have hfz : w.frozen? ⟨g, j, none⟩ = false := by
    simp only [World.frozen?, hg]; simp
  have hadd : (⟨g, j, none⟩ : Addr).add 0 = ⟨g, j, none⟩ := rfl
  have hst1 : (store ⟨g, j, none⟩ u).run P w = .ok () (w.setCell ⟨g, j, none⟩ u) := by
    rw [run_store P w _ _ _ h1, hcell]
    simp only [hfz]
    rfl
  simp only [Instr.storeAt, Instr.sureAddr, Sem.run_bind, Sem.run_pure, Result.andThen_ok, storeVar, sizeOf, typeInfo, run_program, hi1, hi2, hc]
  simp [storeCells, hadd, hst1]

theorem chg_set (w : World) (g j : Nat) (u : Value) : Chg [g] w (w.setCell ⟨g, j, none⟩ u) :=
  ⟨rfl, rfl, rfl, by simp [World.setCell], fun k hk hne => Below.heap_setCell _ _ _ _ (by simpa using hne)⟩

theorem heap_set {w : World} {g j : Nat} {u : Value} {cur : Array Value} {e : TypeId} (hg : w.heap[g]? = some (.cells cur e (0, 0))) : (w.setCell ⟨g, j, none⟩ u).heap[g]? = some (.cells (cur.setIfInBounds j u) e (0, 0)) := by
  simp only [World.setCell, Array.getElem?_modify]
  simp [hg]

/-- An element of an owned slice is replaced by another one. -/
theorem run_set {α : Type} {E : Stand α} (hE : Good E) {st e : TypeId} (hst : (P.info? st).map (·.size) = some 1) {v : Value} {xs : List α} {F : List Nat} (hv : owL E e w.heap v xs F) (hn : F.Nodup) {j : Nat} (hj : j < xs.length)
    {u : Value} {y : α} {G : List Nat} (hy : E w.heap u y G) (hg : G.Nodup) (hd : ∀ b ∈ G, b ∉ F) :
    ∃ w' F', (Instr.storeAt st (eptr v j 1) u).run P w = .ok () w' ∧ owL E e w'.heap v (xs.set j y) F' ∧ F'.Nodup ∧ (∀ b ∈ F', b ∈ F ∨ b ∈ G) ∧ Chg (F.take 1) w w' ∧ w'.heap.size = w.heap.size := by
  rcases hv with ⟨rfl, rfl, rfl⟩ | ⟨us, g, cap, cur, F0, hels, rfl, hgc, r1, r2, r3, r4, rfl⟩
  · simp at hj
  · have hn' := List.nodup_cons.1 hn
    obtain ⟨F', q1, q2, q3⟩ := hels.set hj hn'.2 hy hg fun b hb hc => hd b hb (List.mem_cons_of_mem _ hc)
    have hgF' : g ∉ F' := fun hm => (q3 g hm).elim hn'.1 fun h => hd g h (List.mem_cons_self ..)
    rw [eptr_mk, Nat.zero_add]
    refine ⟨_, g :: F', run_store1 hst hgc (by omega) (hE.cells hy) (hE.one hy), .inr ⟨us.set j u, g, cap, _, F', ?_, by simp, heap_set hgc, by simpa using r1, r2, by simpa using r3, ?_, rfl⟩, List.nodup_cons.2 ⟨hgF', q2⟩, fun b hb => ?_, chg_set _ _ _ _, by simp [World.setCell]⟩
    · exact q1.stable hE fun c hc => Below.heap_setCell _ _ _ _ fun he => by
        simp only at he
        subst he
        exact hgF' hc
    · rw [List.length_set, Array.toList_setIfInBounds, List.take_set, r4]
    · rcases List.mem_cons.1 hb with rfl | hb
      · exact .inl (List.mem_cons_self ..)
      · exact (q3 b hb).elim (fun h => .inl (List.mem_cons_of_mem _ h)) .inr
end run

/-- A slice whose row has been opened: the row holds 'us', the elements 'xs' stand as 'us0'. -/
def Opn {α : Type} (E : Stand α) (e : TypeId) (B U : Nat) (H : Array Obj) (v : Value) (us us0 : List Value) (xs : List α) : Prop :=
  ∃ g F, owL rV e H v us [g] ∧ els E H us0 xs F ∧ (g :: F).Nodup ∧ ∀ b ∈ g :: F, B ≤ b ∧ b < U

section opn
variable {α : Type} {E : Stand α} {e : TypeId} {B U : Nat} {v : Value}

theorem els_rV {H : Array Obj} : ∀ {us : List Value}, (∀ u ∈ us, u.cells = #[u] ∧ u.oneCell' = true) → els rV H us us []
  | [], _ => rfl
  | u :: _, h => ⟨[], [], rfl, ⟨rfl, rfl, h u (List.mem_cons_self ..)⟩, els_rV fun x hx => h x (List.mem_cons_of_mem _ hx)⟩

theorem els.cells1 (hE : Good E) {H : Array Obj} : ∀ {us : List Value} {xs : List α} {F : List Nat}, els E H us xs F → ∀ u ∈ us, u.cells = #[u] ∧ u.oneCell' = true
  | [], [], _, _, u, hu => by cases hu
  | _ :: _, _ :: _, _, ⟨F1, F2, rfl, h1, h2⟩, v, hv => (List.mem_cons.1 hv).elim (fun e => e ▸ ⟨hE.cells h1, hE.one h1⟩) (els.cells1 hE h2 v)
  | [], _ :: _, _, h, _, _ => h.elim
  | _ :: _, [], _, h, _, _ => h.elim

theorem Fr.opn (hE : Good E) {H : Array Obj} {xs : List α} (h : Fr (owL E e) B U H v xs) (hne : 0 < xs.length) : ∃ us, Opn E e B U H v us us xs ∧ us.length = xs.length ∧ ∀ j, j < xs.length → ∃ u, us[j]? = some u ∧ ldH H (eptr v j 1) = some u := by
  obtain ⟨F, h1, h2, h3⟩ := h
  rcases h1 with ⟨rfl, rfl, rfl⟩ | ⟨us, g, cap, cur, F', hels, rfl, hg, r1, r2, r3, r4, rfl⟩
  · simp at hne
  · have hl := hels.length
    refine ⟨us, ⟨g, F', .inr ⟨us, g, cap, cur, [], els_rV (hels.cells1 hE), by rw [hl], hg, by omega, r2, r3, by rw [hl]; exact r4, rfl⟩, hels, h2, h3⟩, hl, fun j hj => ?_⟩
    obtain ⟨u, G, hu, _⟩ := hels.at_ (xs[0]'hne) hj (List.nodup_cons.1 h2).2
    refine ⟨u, hu, ?_⟩
    rw [eptr_mk]
    simp only [ldH, cellH, hg, Nat.zero_add]
    rw [← r4, List.getElem?_take, if_pos hj] at hu
    simpa using hu

theorem Opn.ext (hE : Good E) {w w' : World} {us us0 : List Value} {xs : List α} (h : Opn E e B U w.heap v us us0 xs) (k : Ext w w') : Opn E e B U w'.heap v us us0 xs := by
  obtain ⟨g, F, h1, h2, h3, h4⟩ := h
  exact ⟨g, F, (good_owL good_rV).stable h1 fun b hb => k.heap ((good_owL good_rV).lt h1 b hb), h2.stable hE fun b hb => k.heap (h2.lt hE b hb), h3, h4⟩

/-- A raw store into an opened row. -/
theorem run_setV {P : Program} (hE : Good E) {st : TypeId} (hst : (P.info? st).map (·.size) = some 1) {w : World} {us us0 : List Value} {xs : List α} (h : Opn E e B U w.heap v us us0 xs) {j : Nat} (hj : j < us.length) {u : Value} (hu : u.cells = #[u] ∧ u.oneCell' = true) :
    ∃ w' G, (Instr.storeAt st (eptr v j 1) u).run P w = .ok () w' ∧ Opn E e B U w'.heap v (us.set j u) us0 xs ∧ Chg G w w' ∧ (∀ c ∈ G, B ≤ c ∧ c < U) ∧ w'.heap.size = w.heap.size := by
  obtain ⟨g, F, h1, h2, h3, h4⟩ := h
  have hn := List.nodup_cons.1 h3
  obtain ⟨w', F', q1, q2, q3, q4, q5, q6⟩ := run_set (P := P) good_rV hst h1 (by simp) hj (u := u) (y := u) (G := []) ⟨rfl, rfl, hu.1, hu.2⟩ List.nodup_nil (fun b hb => by cases hb)
  have hF' : F' = [g] := by
    rcases q2 with ⟨rfl, hx, rfl⟩ | ⟨us', g', cap, cur, F1, hels, hv, _, _, _, _, _, rfl⟩
    · exfalso
      have := congrArg List.length hx
      rw [List.length_set] at this
      simp only [List.length_nil] at this
      omega
    · have : ∀ {us : List Value} {xs : List Value} {F : List Nat}, els rV w'.heap us xs F → F = [] := by
        intro us
        induction us with
        | nil => intro xs F h; cases xs with
          | nil => exact h
          | cons => exact h.elim
        | cons u us ih =>
          intro xs F h
          cases xs with
          | nil => exact h.elim
          | cons x xs => obtain ⟨A, C, rfl, p1, p2⟩ := h; rw [p1.2.1, ih p2]; rfl
      rw [this hels]
      rcases q4 g' (List.mem_cons_self ..) with hh | hh
      · simp at hh; rw [hh]
      · cases hh
  subst hF'
  refine ⟨w', [g], q1, ⟨g, F, q2, h2.stable hE fun b hb => q5.block b (h2.lt hE b hb) fun hm => ?_, h3, h4⟩, q5, fun c hc => by simp at hc; subst hc; exact h4 _ (List.mem_cons_self ..), q6⟩
  simp at hm
  subst hm
  exact hn.1 hb

theorem owL_rV_mk {H : Array Obj} {us : List Value} {g : Nat} (h : owL rV e H v us [g]) {xs : List α} {F : List Nat} (hl : xs.length = us.length) (hx : els E H us xs F) : owL E e H v xs (g :: F) := by
  rcases h with ⟨_, _, h⟩ | ⟨us', g', cap, cur, F1, hels, hv, hg, r1, r2, r3, r4, hF⟩
  · cases h
  · simp only [List.cons.injEq] at hF
    obtain ⟨rfl, _⟩ := hF
    have : ∀ {us us' : List Value} {F : List Nat}, els rV H us' us F → us' = us := by
      intro us us'
      induction us' generalizing us with
      | nil => intro F h; cases us with
        | nil => rfl
        | cons => exact h.elim
      | cons u us' ih =>
        intro F h
        cases us with
        | nil => exact h.elim
        | cons x us => obtain ⟨A, C, rfl, p1, p2⟩ := h; rw [p1.1, ih p2]
    have hus := this hels
    subst hus
    exact .inr ⟨us', g, cap, cur, F, hx, by rw [hv, hl], hg, by omega, r2, r3, by rw [hl]; exact r4, rfl⟩

def swapL {β : Type} (l : List β) (i j : Nat) (d : β) : List β := (l.set i (l.getD j d)).set j (l.getD i d)

theorem length_swapL {β : Type} (l : List β) (i j : Nat) (d : β) : (swapL l i j d).length = l.length := by simp [swapL]

theorem els.perm {H : Array Obj} : ∀ {us : List Value} {xs : List α} {F : List Nat}, els E H us xs F ↔ ∃ Fs : List (List Nat), Fs.length = xs.length ∧ us.length = xs.length ∧ F = Fs.flatten ∧ ∀ k (h1 : k < us.length) (h2 : k < xs.length) (h3 : k < Fs.length), E H us[k] xs[k] Fs[k]
  | [], [], F => by
    constructor
    · intro h; exact ⟨[], rfl, rfl, h, fun k h => by simp at h⟩
    · rintro ⟨Fs, h1, _, rfl, _⟩
      have : Fs = [] := List.eq_nil_of_length_eq_zero h1
      subst this; rfl
  | u :: us, x :: xs, F => by
    constructor
    · rintro ⟨F1, F2, rfl, h1, h2⟩
      obtain ⟨Fs, q1, q2, q3, q4⟩ := els.perm.1 h2
      refine ⟨F1 :: Fs, by simp [q1], by simp [q2], by rw [q3]; rfl, fun k k1 k2 k3 => ?_⟩
      cases k with
      | zero => exact h1
      | succ k => exact q4 k (by simpa using k1) (by simpa using k2) (by simpa using k3)
    · rintro ⟨Fs, h1, h2, rfl, h3⟩
      cases Fs with
      | nil => simp at h1
      | cons F1 Fs =>
        refine ⟨F1, Fs.flatten, by simp, h3 0 (by simp) (by simp) (by simp), els.perm.2 ⟨Fs, by simpa using h1, by simpa using h2, rfl, fun k k1 k2 k3 => h3 (k + 1) (by simpa using k1) (by simpa using k2) (by simpa using k3)⟩⟩
  | [], _ :: _, F => by
    constructor
    · exact fun h => h.elim
    · rintro ⟨_, _, h, _⟩; simp at h
  | _ :: _, [], F => by
    constructor
    · exact fun h => h.elim
    · rintro ⟨_, _, h, _⟩; simp at h

theorem swap_perm (l : List (List Nat)) (i j : Nat) (hi : i < l.length) (hj : j < l.length) : List.Perm (swapL l i j []) l := by
  rw [List.perm_iff_count]
  intro a
  unfold swapL
  have e1 : l.getD j [] = l[j] := by simp [hj]
  have e2 : l.getD i [] = l[i] := by simp [hi]
  rw [e1, e2, List.count_set (by simpa using hj), List.count_set hi]
  have e3 : (l.set i l[j])[j]'(by simpa using hj) = l[j] := by
    rw [List.getElem_set]; split <;> rfl
  rw [e3]
  have h1 : (if (l[i] == a) = true then 1 else 0) ≤ l.count a := by
    split
    · rename_i h
      have : l[i] = a := by simpa using h
      rw [← this]
      exact List.count_pos_iff.2 (List.getElem_mem hi)
    · omega
  omega

theorem getElem_swapL {β : Type} (l : List β) (i j : Nat) (d : β) (hi : i < l.length) (hj : j < l.length) (k : Nat) (h : k < (swapL l i j d).length) (h' : k < l.length) :
    (swapL l i j d)[k] = if k = j then l[i] else if k = i then l[j] else l[k] := by
  unfold swapL
  have e1 : l.getD j d = l[j] := by simp [hj]
  have e2 : l.getD i d = l[i] := by simp [hi]
  simp only [e1, e2, List.getElem_set]
  by_cases h1 : j = k
  · simp [h1]
  · by_cases h2 : i = k
    · simp [h1, h2, Ne.symm h1]
    · simp [h1, h2, Ne.symm h1, Ne.symm h2]

/-- Rows are exchanged. -/
theorem Opn.swap {H : Array Obj} {us us0 : List Value} {xs : List α} (d : α) {i j : Nat} (h : Opn E e B U H v us us0 xs) (hi : i < xs.length) (hj : j < xs.length) (hus : us = swapL us0 i j undef) :
    Fr (owL E e) B U H v (swapL xs i j d) := by
  obtain ⟨g, F, h1, h2, h3, h4⟩ := h
  obtain ⟨Fs, q1, q2, rfl, q4⟩ := els.perm.1 h2
  have hp : List.Perm ((swapL Fs i j []).flatten) Fs.flatten := (swap_perm Fs i j (by omega) (by omega)).flatten
  have hels : els E H us (swapL xs i j d) (swapL Fs i j []).flatten := by
    subst hus
    refine els.perm.2 ⟨swapL Fs i j [], by simp [length_swapL, q1], by simp [length_swapL, q2], rfl, fun k k1 k2 k3 => ?_⟩
    simp only [length_swapL] at k1 k2 k3
    rw [getElem_swapL us0 i j undef (by omega) (by omega) k _ k1, getElem_swapL xs i j d hi hj k _ k2, getElem_swapL Fs i j [] (by omega) (by omega) k _ k3]
    split
    · exact q4 i _ _ _
    · split
      · exact q4 j _ _ _
      · exact q4 k _ _ _
  refine ⟨_, owL_rV_mk h1 ?_ hels, ?_, fun b hb => ?_⟩
  · subst hus; simp [length_swapL, q2]
  · rw [List.nodup_cons] at h3 ⊢
    exact ⟨fun hm => h3.1 (hp.mem_iff.1 hm), hp.nodup_iff.2 h3.2⟩
  · rcases List.mem_cons.1 hb with rfl | hb
    · exact h4 _ (List.mem_cons_self ..)
    · exact h4 b (List.mem_cons_of_mem _ (hp.mem_iff.1 hb))

end opn

theorem isSl_cells {v : Value} {n : Nat} (h : isSl v n) : v.cells = #[v] ∧ v.oneCell' = true := by
  obtain ⟨a, c, rfl, _⟩ := h; exact ⟨rfl, rfl⟩
theorem opn_get {us : List Value} {j : Nat} {u u' : Value} {H : Array Obj} {p : Value} (h : us[j]? = some u) (h1 : ldH H p = some u) (h2 : ldH H p = some u') : us.getD j undef = u' := by
  rw [h2] at h1
  cases h1
  rw [List.getD_eq_getElem?_getD, h]; rfl
theorem swapL_self {β : Type} (l : List β) (i : Nat) (d : β) (hi : i < l.length) : swapL l i i d = l := by
  unfold swapL
  have : l.getD i d = l[i] := by simp [hi]
  rw [this]
  simp

section ops
variable {P : Program} {ops : Array Oper} {w0 : World} {Q : Act → World → Prop} {os : List Oper} {ks : List Nat} {N : Nat} {ρ : Nat → Value} {w : World}
  {d : Nat} {ty : TypeId} {pos : String} {aft : Array Edge} {g : Option (Nat × Bool)} {t e : TypeId} {z : Value} {b : Nat}

theorem exec_store {st : TypeId} {x y : Operand} {p u : Value} {w1 : World} (hx : evF N ρ x = p) (hy : evF N ρ y = u) (hr : (Instr.storeAt st p u).run P w = .ok () w1) :
    (execOp (evF N ρ) ⟨none, .store st x y, ty, pos, aft, g⟩).run P w = .ok .skip w1 := by
  simp only [execOp, hx, hy, Sem.run_bind, hr, Result.andThen_ok, Sem.run_pure]

/-- A store of a new owned thing, which lies behind the slice, into an owned slice. -/
theorem e_setF {α : Type} {E : Stand α} (hE : Good E) {st : TypeId} {x y : Operand} {v u : Value} {n : α} {xs : List α} {B U B' U' j : Nat} (hst : (P.info? st).map (·.size) = some 1) (hx : evF N ρ x = eptr v j 1) (hy : evF N ρ y = u)
    (hv : Fr (owL E e) B U w.heap v xs) (hn : Fr E B' U' w.heap u n) (hU : U ≤ B') (hBB : B ≤ B') (hj : j < xs.length) (hu : Up ops N ρ ⟨none, .store st x y, ty, pos, aft, g⟩)
    (h : ∀ w1 F, Chg F w w1 → w1.heap.size = w.heap.size → (∀ c ∈ F, B ≤ c ∧ c < U) → Fr (owL E e) B w1.heap.size w1.heap v (xs.set j n) → LW P ops w0 Q os ks (mk N ρ) w1) :
    LW P ops w0 Q (⟨none, .store st x y, ty, pos, aft, g⟩ :: os) (4 :: ks) (mk N ρ) w := by
  obtain ⟨F, h1, h2, h3⟩ := hv
  obtain ⟨G, n1, n2, n3⟩ := hn
  obtain ⟨w1, F', q1, q2, q3, q4, q5, q6⟩ := run_set (P := P) hE hst h1 h2 hj n1 n2 (fun b hb hc => by have := n3 b hb; have := h3 b hc; omega)
  refine lw_s rfl hu w1 (exec_store hx hy q1) (h w1 _ q5 q6 (fun c hc => h3 c (List.mem_of_mem_take hc)) ⟨F', q2, q3, fun c hc => ?_⟩)
  have hlt := (good_owL hE).lt q2 c hc
  refine ⟨?_, hlt⟩
  rcases q4 c hc with hh | hh
  · exact (h3 c hh).1
  · have := n3 c hh; omega

/-- A raw store into an opened row. -/
theorem e_setV {α : Type} {E : Stand α} (hE : Good E) {st : TypeId} {x y : Operand} {v u : Value} {us us0 : List Value} {xs : List α} {B U j : Nat} (hst : (P.info? st).map (·.size) = some 1) (hx : evF N ρ x = eptr v j 1) (hy : evF N ρ y = u)
    (hv : Opn E e B U w.heap v us us0 xs) (hc : u.cells = #[u] ∧ u.oneCell' = true) (hj : j < us.length) (hu : Up ops N ρ ⟨none, .store st x y, ty, pos, aft, g⟩)
    (h : ∀ w1 F, Chg F w w1 → w1.heap.size = w.heap.size → (∀ c ∈ F, B ≤ c ∧ c < U) → Opn E e B U w1.heap v (us.set j u) us0 xs → LW P ops w0 Q os ks (mk N ρ) w1) :
    LW P ops w0 Q (⟨none, .store st x y, ty, pos, aft, g⟩ :: os) (4 :: ks) (mk N ρ) w := by
  obtain ⟨w1, F, q1, q2, q3, q4, q5⟩ := run_setV (P := P) hE hst hv hj hc
  exact lw_s rfl hu w1 (exec_store hx hy q1) (h w1 F q3 q5 q4 q2)

/-- A store of an integer into a row of a matrix. -/
theorem e_setM {e' : TypeId} {st : TypeId} {x y : Operand} {v u : Value} {n : Int} {xs : List (List Int)} {B U r j : Nat} (hst : (P.info? st).map (·.size) = some 1) (hx : evF N ρ x = eptr u j 1) (hy : evF N ρ y = .int .i64 n) (hn : -9223372036854775808 ≤ n ∧ n ≤ 9223372036854775807)
    (hv : Fr (owL (owL rI e) e') B U w.heap v xs) (hr : r < xs.length) (hl : ldH w.heap (eptr v r 1) = some u) (hj : j < (xs.getD r []).length) (hu : Up ops N ρ ⟨none, .store st x y, ty, pos, aft, g⟩)
    (h : ∀ w1 F, Chg F w w1 → w1.heap.size = w.heap.size → (∀ c ∈ F, B ≤ c ∧ c < U) → Fr (owL (owL rI e) e') B U w1.heap v (xs.set r ((xs.getD r []).set j n)) → LW P ops w0 Q os ks (mk N ρ) w1) :
    LW P ops w0 Q (⟨none, .store st x y, ty, pos, aft, g⟩ :: os) (4 :: ks) (mk N ρ) w := by
  obtain ⟨G, q1, q2, q3, q4⟩ := hv.row_at o1 [] hr hl
  obtain ⟨w1, F', p1, p2, p3, p4, p5, p6⟩ := run_set (P := P) good_rI hst q1 q2 hj (u := .int .i64 n) (y := n) (G := []) ⟨rfl, rfl, hn.1, hn.2⟩ List.nodup_nil (fun b hb => by cases hb)
  have hF' : owL rI e w1.heap u ((xs.getD r []).set j n) G := by
    have hnil : ∀ {us : List Value} {xs : List Int} {F : List Nat} {H : Array Obj}, els rI H us xs F → F = [] := by
      intro us
      induction us with
      | nil => intro xs F H h; cases xs with
        | nil => exact h
        | cons => exact h.elim
      | cons u us ih =>
        intro xs F H h
        cases xs with
        | nil => exact h.elim
        | cons x xs => obtain ⟨A, C, rfl, p1, p2⟩ := h; rw [p1.2.1, ih p2]; rfl
    rcases q1 with ⟨rfl, hx0, rfl⟩ | ⟨us, g1, cap, cur, F1, hels, rfl, _, _, _, _, _, rfl⟩
    · rw [hx0] at hj; simp at hj
    · rw [hnil hels] at p4 ⊢
      rcases p2 with ⟨hh, _⟩ | ⟨us2, g2, cap2, cur2, F2, hels2, hv2, r⟩
      · cases hh
      · rw [hnil hels2] at hels2
        have : g2 = g1 := by injection hv2 with hv2 _ _; injection hv2 with hv2; injection hv2 with hv2 _; exact hv2.symm
        subst this
        exact .inr ⟨us2, g2, cap2, cur2, [], hels2, hv2, r.1, r.2.1, r.2.2.1, r.2.2.2.1, r.2.2.2.2.1, rfl⟩
  have hch : Chg G w w1 := ⟨p5.os, p5.tape, p5.output, p5.size, fun k hk hm => p5.block k hk fun hmm => hm (List.mem_of_mem_take hmm)⟩
  exact lw_s rfl hu w1 (exec_store hx hy p1) (h w1 G hch p6 q3 (q4 hch hF'))

/-- make of slices. -/
theorem r_make2 {α : Type} (E : Stand (List α)) (hE : Good E) (hnil : ∀ H, E H (.slice none 0 0) [] []) {x y : Operand} {n : Nat} {c : Int} (ht : P.underlying t = some (.slice e)) (hi : TI P e 1 (.slice none 0 0) 24) (hx : evF N ρ x = .int .i64 c) (hy : evF N ρ y = .int .i64 c) (hc : c = (n : Int)) (hn : n ≤ 8796093022208)
    (hu : Up ops N ρ ⟨some d, .makeSlice t x y, ty, pos, aft, g⟩)
    (h : ∀ v w1, Ext w w1 → w1.heap.size = w.heap.size + 1 → Fr (owL E e) w.heap.size w1.heap.size w1.heap v (List.replicate n []) → LW P ops w0 Q os ks (mk N (upd ρ d v)) w1) :
    LW P ops w0 Q (⟨some d, .makeSlice t x y, ty, pos, aft, g⟩ :: os) (3 :: ks) (mk N ρ) w := by
  subst hc
  obtain ⟨i, h1, h2, h3, h4⟩ := hi.get
  have hr := run_make (P := P) w t e i _ ht h1 h2 .i64 .i64 n n (by omega) (by omega) (by rw [h4]; omega) (by omega)
  have hrun : (execOp (evF N ρ) ⟨some d, .makeSlice t x y, ty, pos, aft, g⟩).run P w = .ok (.value (.slice (some ⟨w.heap.size, 0, none⟩) n n)) (w.alloc (.cells (madeCells (Value.slice none 0 0).cells ((n : Int).toNat * i.size)) e)) := by
    simp only [execOp, Sem.run_bind, hx, hy, hr, Result.andThen_ok, Sem.run_pure, Int.toNat_natCast]
  refine lw_r rfl hu _ _ hrun (ext_alloc _ _) (h _ _ (ext_alloc _ _) (by simp) ?_)
  have hels : ∀ n, els E w.heap (List.replicate n (.slice none 0 0)) (List.replicate n []) [] := by
    intro n
    induction n with
    | zero => rfl
    | succ n ih => exact ⟨[], [], rfl, hnil _, ih⟩
  have hmc : (madeCells (Value.slice none 0 0).cells ((n : Int).toNat * i.size)).toList = List.replicate n (.slice none 0 0) := by
    rw [h3]
    simp only [Int.toNat_natCast, Nat.mul_one, madeCells, Value.cells]
    apply List.ext_getElem
    · simp
    · intro j q1 q2
      simp [Nat.mod_one]
  have hcs : (madeCells (Value.slice none 0 0).cells ((n : Int).toNat * i.size)).size = n := by rw [size_madeCells, h3]; simp
  have hn' := owL_new (e := e) (w := w) hE (us := List.replicate n (.slice none 0 0)) (xs := List.replicate n ([] : List α)) (F := []) (cur := madeCells (Value.slice none 0 0).cells ((n : Int).toNat * i.size)) (hels n) (by rw [hcs]; simp only [maxLen]; omega)
    (by rw [hmc, List.length_replicate]; exact List.take_of_length_le (by simp)) (by rw [hcs]; simp)
  rw [hcs] at hn'
  simp only [List.length_replicate] at hn'
  refine ⟨_, by simpa using hn', by simp, fun c hc => ?_⟩
  simp at hc
  subst hc
  simp

/-- A variable of its own, on the heap. -/
theorem r_box {x : Operand} {u : Value} (hx : evF N ρ x = u) (hc : u.cells = #[u]) (hu : Up ops N ρ ⟨some d, .box t x, ty, pos, aft, g⟩)
    (h : ∀ w1, Ext w w1 → w1.heap.size = w.heap.size + 1 → ldH w1.heap (.pointer (some ⟨w.heap.size, 0, none⟩)) = some u → LW P ops w0 Q os ks (mk N (upd ρ d (.pointer (some ⟨w.heap.size, 0, none⟩)))) w1) :
    LW P ops w0 Q (⟨some d, .box t x, ty, pos, aft, g⟩ :: os) (3 :: ks) (mk N ρ) w := by
  have hrun : (execOp (evF N ρ) ⟨some d, .box t x, ty, pos, aft, g⟩).run P w = .ok (.value (.pointer (some ⟨w.heap.size, 0, none⟩))) (w.alloc (.cells #[u] t)) := by
    simp [execOp, Instr.box, newVar, newRow, hx, hc]
  refine lw_r rfl hu _ _ hrun (ext_alloc _ _) (h _ (ext_alloc _ _) (by simp) ?_)
  have := heap_alloc_new w (.cells #[u] t)
  simp only [ldH, cellH, this]
  rfl

/-- A call that may write. -/
theorem lw_callE {x : Operand} {xs : Array Operand} {ats : Array TypeId} (f : FuncId) (first cap : List Value) (args : List Value)
    (hx : evF N ρ x = .func (.func f) first.toArray cap.toArray) (hxs : first ++ (xs.toList.map (evF N ρ)) ++ cap = args) (hf : ((P.funcs[f]?).map fun fn => (fn.name != "runtime.NumGoroutine") && fn.body.isSome) = some true)
    (hu : Up ops N ρ ⟨some d, .call ⟨.value x, xs, ats⟩, ty, pos, aft, g⟩) {R : Ending → World → Prop} (hc : Calls P f args.toArray w R)
    (h : ∀ e w1, R e w1 → ∃ v, e = .returned v ∧ LW P ops w0 Q os ks (mk N (upd ρ d v)) w1) :
    LW P ops w0 Q (⟨some d, .call ⟨.value x, xs, ats⟩, ty, pos, aft, g⟩ :: os) (4 :: ks) (mk N ρ) w := by
  simp only [LW]
  rw [if_pos hu]
  unfold OneOp
  rw [if_neg (by decide), if_neg (by decide)]
  unfold Oper.wp
  rw [mk_eval]
  have hrun : (execOp (evF N ρ) ⟨some d, .call ⟨.value x, xs, ats⟩, ty, pos, aft, g⟩).run P w = .ok (.enter f args.toArray) w := by
    obtain ⟨fn, hfn, hb⟩ := Option.map_eq_some_iff.1 hf
    simp only [Bool.and_eq_true, bne_iff_ne, ne_eq] at hb
    have hargs : first.toArray ++ xs.map (evF N ρ) ++ cap.toArray = args.toArray := by
      rw [← hxs]; apply Array.ext'; simp
    obtain ⟨c, hbc⟩ := Option.isSome_iff_exists.1 hb.2
    have hcf : (callFunc f args.toArray).run P w = .ok (.enter f args.toArray) w := by
      simp [callFunc, hfn, hb.1, hbc]
    simp [execOp, resolve, hargs, hx, Deferred.ofValue, invoke, hcf]
  rw [hrun]
  refine Calls.mono hc (fun e w1 he => ?_)
  obtain ⟨v, rfl, hL⟩ := h e w1 he
  show LW P ops w0 Q os ks ((mk N ρ).put (some d) v) w1
  rw [mk_put]
  exact hL

def isNilV : Value → Bool
  | .slice none _ _ => true
  | _ => false

/-- '==' of a slice with nil. -/
theorem q_nilq {x y : Operand} {xt yt : TypeId} {v : Value} {n : Nat} (c : Bool) (ht : P.underlying xt = some (.slice e)) (hx : evF N ρ x = v) (hy : evF N ρ y = .slice none 0 0) (hs : isSl v n) (hc : isNilV v = c) (hu : Up ops N ρ ⟨some d, .binOp .eql xt x y yt, ty, pos, aft, g⟩)
    (h : LW P ops w0 Q os ks (mk N (upd ρ d (.bool c))) w) : LW P ops w0 Q (⟨some d, .binOp .eql xt x y yt, ty, pos, aft, g⟩ :: os) (0 :: ks) (mk N ρ) w :=
  lw_q (by decide) rfl hu _ (fun w' _ => by
    obtain ⟨a, cp, rfl, _⟩ := hs
    subst hc
    have he : (eqGuard .eql xt x y (.slice a n cp) (.slice none 0 0)).run P w' = .ok () w' := rfl
    have hq : ∀ k, (Op.equalIn (k + 1) xt (.slice a n cp) (.slice none 0 0)).run P w' = .ok a.isNone w' := by
      intro k
      cases a <;> simp only [Op.equalIn, Sem.run_bind, run_underlying ht, Result.andThen_ok, Sem.run_pure] <;> rfl
    simp only [execOp, hx, hy, Sem.run_bind, he, Result.andThen_ok, binOp, Op.equal]
    rw [show Op.maxDepth = 9999 + 1 from rfl, hq]
    cases a <;> rfl) h

end ops
end Go.Proofs.Ytjgnlnlngcjfcaa
