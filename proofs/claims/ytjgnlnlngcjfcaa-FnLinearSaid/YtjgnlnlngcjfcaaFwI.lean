/- From a row's premise to the contracts: arguments that can be read, opened; what the row asks behind a call that only makes new memory. No condition. -/
import Derived.Test.YtjgnlnlngcjfcaaFwH
import Derived.ProofKit
import Derived.Carry
import Derived.Deep.Matrix
namespace Go.Proofs.Ytjgnlnlngcjfcaa
open Go Go.ChangeShapes Go.WideShapes Go.RowKit Go.Deep

theorem els_of {α : Type} {E : Stand α} {H : Array Obj} (U : Nat → Value) (X : Nat → α) : ∀ (n : Nat), (∀ i, i < n → Rd E H (U i) (X i)) → ∃ F, els E H ((List.range n).map U) ((List.range n).map X) F
  | 0, _ => ⟨[], rfl⟩
  | n + 1, h => by
    obtain ⟨F, hF⟩ := els_of U X n fun i hi => h i (by omega)
    obtain ⟨G, hG⟩ := h n (by omega)
    refine ⟨F ++ (G ++ []), ?_⟩
    rw [List.range_succ, List.map_append, List.map_append]
    exact els.append hF ⟨G, [], rfl, hG, rfl⟩

theorem rd_row {α : Type} {E : Stand α} {W : World} {a : Option Addr} {n cap : Nat} (ha : a = none → n = 0) (hm : n ≤ maxLen) (U : Nat → Value) (X : Nat → α)
    (hc : ∀ a' i, a = some a' → i < n → W.cell? (a'.add i) = some (U i)) (hE : ∀ i, i < n → Rd E W.heap (U i) (X i)) : Rd (rdL E) W.heap (.slice a n cap) ((List.range n).map X) := by
  by_cases h0 : n = 0
  · subst h0
    exact ⟨[], .inl ⟨a, cap, rfl, rfl, rfl⟩⟩
  · obtain ⟨F, hF⟩ := els_of U X n hE
    cases a with
    | none => exact absurd (ha rfl) h0
    | some a' =>
      obtain ⟨g, off, spot⟩ := a'
      have h1 := hc _ 0 rfl (by omega)
      have hs : spot = none := by simpa [Addr.add] using World.cell?_spot h1
      subst hs
      have hcell : ∀ i, i < n → cellH W.heap g (off + i) = some (U i) := fun i hi => by
        have := hc _ i rfl hi
        rw [add_plain, cell_cellH] at this
        exact this
      have h2 := hcell 0 (by omega)
      unfold cellH at h2
      cases hg : W.heap[g]? with
      | none => rw [hg] at h2; cases h2
      | some o =>
        cases o with
        | cells cur e fr =>
          refine ⟨g :: F, .inr ⟨(List.range n).map U, g, off, cap, cur, e, fr, F, hF, by simp, hg, ?_, by simpa using hm, rfl⟩⟩
          apply List.ext_getElem?
          intro i
          simp only [List.length_map, List.length_range, List.getElem?_take, List.getElem?_drop]
          by_cases hi : i < n
          · have := hcell i hi
            unfold cellH at this
            rw [hg] at this
            simp only [Array.getElem?_toList] at *
            rw [if_pos hi, this]
            simp [hi]
          · rw [if_neg hi]
            simp [hi]
        | _ => rw [hg] at h2; cases h2

theorem wf_i64 {n : Int} (h : (Lit.int .i64 n).wf = true) : -9223372036854775808 ≤ n ∧ n ≤ 9223372036854775807 := by
  simp only [Lit.wf, Bool.and_eq_true, decide_eq_true_eq] at h
  exact h

section
variable {H : Type} {enc : TypeId × Value → H} {P : Program} {W : World}

/-- An argument that is a slice of int64. -/
theorem open_rdI {t e : TypeId} {base : Nat} {held : Bool} {v : Value} {d : DataW H} {ps : List MemPlace} (ht : P.underlying t = some (.slice e)) (he : P.underlying e = some (.int .i64)) (ce : P.cellsOf e = 1)
    (hv : ∃ a len cap, v = .slice a len cap) (h : DataW.Trod enc P W base (fun _ => true) held t v d ps) : ∃ zs : List Int, Rd (rdL rI) W.heap v zs := by
  obtain ⟨a0, n0, c0, rfl⟩ := hv
  obtain ⟨fuel, hf⟩ := h
  rcases open_ints ht he ce hf with ⟨hcs, _⟩ | ⟨a, len, cap, zs, hcs, _, hl, hm, hz, _, hc, hw⟩
  · simp [Value.cells] at hcs
    obtain ⟨rfl, rfl, rfl⟩ := hcs
    exact ⟨[], [], .inl ⟨none, 0, rfl, rfl, rfl⟩⟩
  · simp [Value.cells] at hcs
    obtain ⟨rfl, rfl, rfl⟩ := hcs
    simp only [if_true] at hz
    refine ⟨(List.range n0).map fun i => zs.getD i 0, rd_row (fun h => by cases h) (by omega) (fun i => .int .i64 (zs.getD i 0)) _ (fun a' i ea hi => by cases ea; exact hc i (by omega)) fun i hi => ⟨[], rfl, rfl, ?_⟩⟩
    refine wf_i64 (hw _ ?_)
    rw [List.getD_eq_getElem?_getD, List.getElem?_eq_getElem (show i < zs.length by omega)]
    exact List.getElem_mem _

/-- An argument that is a slice of slices of int64. -/
theorem open_rdI2 {t e q : TypeId} {base : Nat} {held : Bool} {v : Value} {d : DataW H} {ps : List MemPlace} (ht : P.underlying t = some (.slice e)) (he : P.underlying e = some (.slice q)) (hq : P.underlying q = some (.int .i64)) (ce : P.cellsOf e = 1) (cq : P.cellsOf q = 1)
    (hv : ∃ a len cap, v = .slice a len cap) (h : DataW.Trod enc P W base (fun _ => true) held t v d ps) : ∃ zs : List (List Int), Rd (rdL (rdL rI)) W.heap v zs := by
  obtain ⟨a0, n0, c0, rfl⟩ := hv
  obtain ⟨fuel, hf⟩ := h
  rcases open_int_rows ht he hq ce cq hf with ⟨hcs, _⟩ | ⟨a, len, cap, A, L, C, Z, hcs, _, hl, hm, _, hr⟩
  · simp [Value.cells] at hcs
    obtain ⟨rfl, rfl, rfl⟩ := hcs
    exact ⟨[], [], .inl ⟨none, 0, rfl, rfl, rfl⟩⟩
  · simp [Value.cells] at hcs
    obtain ⟨rfl, rfl, rfl⟩ := hcs
    refine ⟨(List.range n0).map fun r => (List.range (L r)).map fun i => (Z r).getD i 0, rd_row (fun h => by cases h) (by omega) (fun r => .slice (A r) (L r) (C r)) _ (fun a' i ea hi => by cases ea; exact (hr i (by omega)).1) fun r hi => ?_⟩
    obtain ⟨_, h1, h2, h3, h4, h5, h6⟩ := hr r (by omega)
    refine rd_row (fun h => by have := h5 h; omega) (by omega) (fun i => .int .i64 ((Z r).getD i 0)) _ (fun a' i ea hi => (h6 a' ea).2 i (by omega)) fun i hi => ⟨[], rfl, rfl, ?_⟩
    refine wf_i64 (h4 _ ?_)
    rw [List.getD_eq_getElem?_getD, List.getElem?_eq_getElem (show i < (Z r).length by omega)]
    exact List.getElem_mem _

theorem Ext.trodAll (hl : laidOutB P = true) {W' : World} (hx : Ext W W') : ∀ {ts : List TypeId} {vs : List Value} {ds : List (DataW H)} {ps : List MemPlace}, (∀ t ∈ ts, P.readableRec t = true ∧ t < P.types.size) → (∀ x ∈ ps, x.block < W.heap.size) →
    DataW.TrodAll enc P W 0 (fun _ => true) true ts vs ds ps → DataW.TrodAll enc P W' 0 (fun b => decide (b < W.heap.size)) true ts vs ds ps
  | [], [], [], _, _, _, h => h
  | t :: ts, v :: vs, d :: ds, ps, hr, hlt, ⟨p, q, h1, h2, e⟩ => by
    subst e
    exact ⟨p, q, Below.trod hl (hr t (List.mem_cons_self ..)).1 (hr t (List.mem_cons_self ..)).2 h1 hx fun x hx => hlt x (List.mem_append_left _ hx),
      Ext.trodAll hl hx (fun t ht => hr t (List.mem_cons_of_mem _ ht)) (fun x hx => hlt x (List.mem_append_right _ hx)) h2, rfl⟩
  | [], [], _ :: _, _, _, _, h => h.elim
  | [], _ :: _, _, _, _, _, h => h.elim
  | _ :: _, [], _, _, _, _, h => h.elim
  | _ :: _, _ :: _, [], _, _, _, h => h.elim

/-- WHAT A LAW's ROW ASKS, where the call answers true and only makes new memory. -/
theorem law_post {fn : Func} {s : ChangeSpec} {W' : World} {args : Array Value} {ds : List (DataW H)} {before : List MemPlace} {tb : TypeId} (hl : laidOutB P = true)
    (hr : ∀ t ∈ fn.params.toList, P.readableRec t = true ∧ t < P.types.size) (hv : s.vars = []) (hres : fn.resultTypes = #[tb]) (hb : P.underlying tb = some .bool)
    (hW : DataW.Whole enc P fn.params.toList s.vars false W args.toList ds [] before) (he : s.fn H (ds ++ []) = { results := [.lit (.bool true)], args := ds }) (hx : Ext W W') :
    s.post enc P fn false true false false W args (.bool true) W' := by
  have hW' := hW
  obtain ⟨p, q, hA, hV, rfl, hfz, hnd⟩ := hW
  have hlt : ∀ x ∈ p ++ q, x.block < W.heap.size := fun x hx => hW'.lt x hx
  rw [hv] at hV
  obtain ⟨_, rfl⟩ := trodVars_none hV
  refine ⟨ds, [], _, [], p, [], hW', ?_, ?_, ?_, Below.frame hx _, fun h => by cases h⟩
  · rw [he, hres]; exact trodAll_mk1 (shut_bool hb true)
  · rw [he]; exact Ext.trodAll hl hx hr (fun x hx => hlt x (List.mem_append_left _ hx)) hA
  · rw [he, hv]; rfl
end
end Go.Proofs.Ytjgnlnlngcjfcaa
