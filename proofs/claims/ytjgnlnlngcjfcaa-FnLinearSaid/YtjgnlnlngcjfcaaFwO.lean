/- Arguments that are slices of bytes, opened. No condition. -/
import Derived.Test.YtjgnlnlngcjfcaaFwL
namespace Go.Proofs.Ytjgnlnlngcjfcaa
open Go Go.ChangeShapes Go.WideShapes Go.RowKit Go.Deep
set_option linter.unusedVariables false
set_option linter.unusedSimpArgs false

section
variable {H : Type} {enc : TypeId × Value → H} {P : Program} {W : World}
theorem u8_back {z : Int} (h : 0 ≤ z ∧ z ≤ 255) : (((UInt8.ofNat z.toNat).toNat : Nat) : Int) = z := by
  rw [UInt8.toNat_ofNat']
  omega
theorem open_u8_el {q : TypeId} {base fuel : Nat} {held : Bool} {u : Value} {x : DataW H × List MemPlace} {t : TypeId} (ht : P.underlying t = some (.slice q)) (hq : P.underlying q = some (.int .u8)) (cq : P.cellsOf q = 1)
    (hf : DataW.trod enc P W base (fun _ => true) held fuel t [u] = some x) : ∃ zs : List UInt8, Rd (rdL rU) W.heap u zs := by
  rcases open_ints ht hq cq hf with ⟨hcs, _⟩ | ⟨a, len, cap, zs, hcs, _, hl, hm, hz, _, hc, hw⟩
  · simp only [List.cons.injEq, and_true] at hcs
    subst hcs
    exact ⟨[], [], .inl ⟨none, 0, rfl, rfl, rfl⟩⟩
  · simp only [List.cons.injEq, and_true] at hcs
    subst hcs
    simp only [if_true] at hz
    refine ⟨(List.range len).map fun i => UInt8.ofNat (zs.getD i 0).toNat, rd_row (fun h => by cases h) (by omega) (fun i => .int .u8 (zs.getD i 0)) _ (fun a' i ea hi => by cases ea; exact hc i (by omega)) fun i hi => ⟨[], ?_, rfl⟩⟩
    have hb : 0 ≤ zs.getD i 0 ∧ zs.getD i 0 ≤ 255 := by
      have h := hw (zs.getD i 0) (by
        rw [List.getD_eq_getElem?_getD, List.getElem?_eq_getElem (show i < zs.length by omega)]
        exact List.getElem_mem _)
      simp only [Lit.wf, Bool.and_eq_true, decide_eq_true_eq] at h
      exact h
    rw [u8_back hb]
/-- An argument that is a slice of bytes. -/
theorem open_rdU {t q : TypeId} {base : Nat} {held : Bool} {v : Value} {d : DataW H} {ps : List MemPlace} (ht : P.underlying t = some (.slice q)) (hq : P.underlying q = some (.int .u8)) (cq : P.cellsOf q = 1)
    (hv : ∃ a len cap, v = .slice a len cap) (h : DataW.Trod enc P W base (fun _ => true) held t v d ps) : ∃ zs : List UInt8, Rd (rdL rU) W.heap v zs := by
  obtain ⟨a0, n0, c0, rfl⟩ := hv
  obtain ⟨fuel, hf⟩ := h
  exact open_u8_el ht hq cq hf
end

/-! ### Guards that were skipped themselves -/
theorem yielded_undef {ops : Array Oper} {N : Nat} {ρ : Nat → Value} {j d : Nat} (hd : (ops[j]?).bind (·.dst) = some d) (hlt : Nat.blt d N = true) (hv : ρ d = undef) : yielded ops (mk N ρ).tmps j = none := by
  have h : d < N := by simpa using hlt
  unfold yielded
  rw [hd]
  simp [mk, h, hv, undef]
theorem lw_skipU {P : Program} {ops : Array Oper} {w0 : World} {Q : Act → World → Prop} {os : List Oper} {ks : List Nat} {N : Nat} {ρ : Nat → Value} {w : World} {d : Nat} {op : Op} {ty : TypeId} {pos : String} {aft : Array Edge} {j e k : Nat} {b : Bool}
    (hd : (ops[j]?).bind (·.dst) = some e) (hlt : Nat.blt e N = true) (hv : ρ e = undef)
    (h : LW P ops w0 Q os ks (mk N (upd ρ d undef)) w) : LW P ops w0 Q (⟨some d, op, ty, pos, aft, some (j, b)⟩ :: os) (k :: ks) (mk N ρ) w := by
  simp only [LW]
  have hw : Region.wanted (⟨some d, op, ty, pos, aft, some (j, b)⟩ : Oper) (yielded ops (mk N ρ).tmps) = false := by
    unfold Region.wanted
    simp [yielded_undef hd hlt hv]
  rw [hw, if_neg (by simp), mk_put]
  exact h
end Go.Proofs.Ytjgnlnlngcjfcaa
