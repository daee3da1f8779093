/- Arguments that are slices of anything that can be read, opened. No condition. -/
import Derived.Test.YtjgnlnlngcjfcaaFwI
namespace Go.Proofs.Ytjgnlnlngcjfcaa
open Go Go.ChangeShapes Go.WideShapes Go.RowKit Go.Deep
set_option linter.unusedVariables false
set_option linter.unusedSimpArgs false

section
variable {H : Type} {enc : TypeId × Value → H} {P : Program} {W : World}

/-- A slice whose elements can be opened. -/
theorem open_rdG {α : Type} [Inhabited α] {E : Stand α} {t e : TypeId} {base fuel : Nat} {held : Bool} {u : Value} {x : DataW H × List MemPlace} (ht : P.underlying t = some (.slice e)) (ce : P.cellsOf e = 1)
    (hE : ∀ {n : Nat} {u : Value} {x : DataW H × List MemPlace}, DataW.trod enc P W base (fun _ => true) held n e [u] = some x → ∃ y : α, Rd E W.heap u y)
    (hf : DataW.trod enc P W base (fun _ => true) held fuel t [u] = some x) : ∃ zs : List α, Rd (rdL E) W.heap u zs := by
  rcases open_slice1 ht ce hf with ⟨hcs, _⟩ | ⟨a, len, cap, m, n, V, D, Pl, hcs, _, hl, hm, hmm, _, hx⟩
  · simp only [List.cons.injEq, and_true] at hcs
    subst hcs
    exact ⟨[], [], .inl ⟨none, 0, rfl, rfl, rfl⟩⟩
  · simp only [List.cons.injEq, and_true] at hcs
    subst hcs
    simp only [if_true] at hmm
    obtain ⟨X, hX⟩ := choose_lt (α := α) (n := len) (p := fun i y => Rd E W.heap (V i) y) (fun i hi => hE (hx i (by omega)).2)
    exact ⟨(List.range len).map X, rd_row (fun h => by cases h) (by omega) V X (fun a' i ea hi => by cases ea; exact (hx i (by omega)).1) hX⟩
theorem open_int_el {q : TypeId} {base fuel : Nat} {held : Bool} {u : Value} {x : DataW H × List MemPlace} {t : TypeId} (ht : P.underlying t = some (.slice q)) (hq : P.underlying q = some (.int .i64)) (cq : P.cellsOf q = 1)
    (hf : DataW.trod enc P W base (fun _ => true) held fuel t [u] = some x) : ∃ zs : List Int, Rd (rdL rI) W.heap u zs := by
  rcases open_ints ht hq cq hf with ⟨hcs, _⟩ | ⟨a, len, cap, zs, hcs, _, hl, hm, hz, _, hc, hw⟩
  · simp only [List.cons.injEq, and_true] at hcs
    subst hcs
    exact ⟨[], [], .inl ⟨none, 0, rfl, rfl, rfl⟩⟩
  · simp only [List.cons.injEq, and_true] at hcs
    subst hcs
    simp only [if_true] at hz
    refine ⟨(List.range len).map fun i => zs.getD i 0, rd_row (fun h => by cases h) (by omega) (fun i => .int .i64 (zs.getD i 0)) _ (fun a' i ea hi => by cases ea; exact hc i (by omega)) fun i hi => ⟨[], rfl, rfl, ?_⟩⟩
    refine wf_i64 (hw _ ?_)
    rw [List.getD_eq_getElem?_getD, List.getElem?_eq_getElem (show i < zs.length by omega)]
    exact List.getElem_mem _
/-- An argument that is a slice of slices of slices of int64. -/
theorem open_rdI3 {t e q s : TypeId} {base : Nat} {held : Bool} {v : Value} {d : DataW H} {ps : List MemPlace} (ht : P.underlying t = some (.slice e)) (he : P.underlying e = some (.slice q)) (hq : P.underlying q = some (.slice s)) (hs : P.underlying s = some (.int .i64))
    (ce : P.cellsOf e = 1) (cq : P.cellsOf q = 1) (cs : P.cellsOf s = 1) (hv : ∃ a len cap, v = .slice a len cap) (h : DataW.Trod enc P W base (fun _ => true) held t v d ps) : ∃ zs : List (List (List Int)), Rd (rdL (rdL (rdL rI))) W.heap v zs := by
  obtain ⟨a0, n0, c0, rfl⟩ := hv
  obtain ⟨fuel, hf⟩ := h
  exact open_rdG (E := rdL (rdL rI)) ht ce (fun h1 => open_rdG (E := rdL rI) he cq (fun h2 => open_int_el hq hs cs h2) h1) hf
end
end Go.Proofs.Ytjgnlnlngcjfcaa
