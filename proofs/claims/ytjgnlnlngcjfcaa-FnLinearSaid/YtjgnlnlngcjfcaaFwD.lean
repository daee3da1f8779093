/- A lemma for each operation that neither makes nor writes memory. No condition. -/
import Derived.Test.YtjgnlnlngcjfcaaFwC
namespace Go.Proofs.Ytjgnlnlngcjfcaa
open Go Go.RowKit

theorem w64 {x : Int} (h : -9223372036854775808 ≤ x) (h' : x ≤ 9223372036854775807) : IntKind.i64.wrap x = x := IntWalk.i64_in x ⟨h, h'⟩
theorem w64n {x : Int} {n : Nat} (h : x = (n : Int)) (h' : x ≤ 9223372036854775807) : IntKind.i64.wrap x = (n : Int) := by rw [w64 (by omega) h', h]
theorem w64e {x y : Int} (h : x = y) (h0 : -9223372036854775808 ≤ y) (h' : y ≤ 9223372036854775807) : IntKind.i64.wrap x = y := by rw [h]; exact w64 h0 h'

/-- What the table of types says of an element type. -/
def TI (P : Program) (e : TypeId) (s : Nat) (z : Value) (b : Nat) : Prop := (P.info? e).map (fun i => (i.zero, i.size, i.bytes)) = some (some z, s, b)

theorem TI.get {P : Program} {e : TypeId} {s : Nat} {z : Value} {b : Nat} (h : TI P e s z b) : ∃ i, P.info? e = some i ∧ i.zero = some z ∧ i.size = s ∧ i.bytes = b := by
  obtain ⟨i, hi, hh⟩ := Option.map_eq_some_iff.1 h
  simp only [Prod.mk.injEq] at hh
  exact ⟨i, hi, hh⟩

/-- A slice value of a length. -/
def isSl (v : Value) (n : Nat) : Prop := ∃ a c, v = .slice a n c ∧ (a = none → n = 0)

/-- The place of an element. -/
def eptr (v : Value) (i s : Nat) : Value :=
  match v with
  | .slice (some a) _ _ => .pointer (some (a.add (i * s)))
  | _ => undef

def cellH (H : Array Obj) (g o : Nat) : Option Value :=
  match H[g]? with
  | some (.cells c _ _) => c[o]?
  | _ => none

theorem cell_cellH (w : World) (g o : Nat) : w.cell? ⟨g, o, none⟩ = cellH w.heap g o := by
  unfold World.cell? cellH
  cases w.heap[g]? with
  | none => rfl
  | some o => cases o <;> rfl

def ldH (H : Array Obj) (p : Value) : Option Value :=
  match p with
  | .pointer (some ⟨g, o, none⟩) => cellH H g o
  | _ => none

theorem Ext.heap {w w' : World} (h : Ext w w') {k : Nat} (hk : k < w.heap.size) : w'.heap[k]? = w.heap[k]? := Below.block h k hk

theorem cellH_lt {H : Array Obj} {g o : Nat} {v : Value} (h : cellH H g o = some v) : g < H.size := by
  unfold cellH at h
  rcases Nat.lt_or_ge g H.size with hh | hh
  · exact hh
  · simp [Array.getElem?_eq_none hh] at h

theorem cellH_ext {w w' : World} (h : Ext w w') {g o : Nat} {v : Value} (hc : cellH w.heap g o = some v) : cellH w'.heap g o = some v := by
  have := h.heap (cellH_lt hc)
  unfold cellH at *
  rw [this]; exact hc

theorem ldH_ext {w w' : World} (h : Ext w w') {p v : Value} (hc : ldH w.heap p = some v) : ldH w'.heap p = some v := by
  unfold ldH at *
  split at hc
  · exact cellH_ext h hc
  · cases hc

/-- The type is loaded in one cell. -/
def oneTy (P : Program) (t : TypeId) : Prop := ((P.underlying t).map fun d => match d with | .struct _ => false | .array _ _ => false | _ => true) = some true

theorem run_load1 {P : Program} {t : TypeId} (ht : oneTy P t) {p v : Value} {w : World} (h : ldH w.heap p = some v) : (Instr.loadAt t p).run P w = .ok v w := by
  unfold ldH at h
  split at h
  · rename_i g o
    rw [← cell_cellH] at h
    obtain ⟨d, hd, hh⟩ := Option.map_eq_some_iff.1 ht
    have hag : (isAgg t).run P w = .ok false w := by
      unfold isAgg
      simp only [Sem.run_bind, run_underlying hd, Result.andThen_ok]
      cases d <;> first | rfl | simp at hh
    simp [Instr.loadAt, Instr.sureAddr, loadVar, hag, h]
  · cases h

section ops
variable {P : Program} {ops : Array Oper} {w0 : World} {Q : Act → World → Prop} {os : List Oper} {ks : List Nat} {N : Nat} {ρ : Nat → Value} {w : World}
  {d : Nat} {ty : TypeId} {pos : String} {aft : Array Edge} {g : Option (Nat × Bool)}

theorem q_move {x : Operand} (v : Value) (hx : evF N ρ x = v) (hu : Up ops N ρ ⟨some d, .move x, ty, pos, aft, g⟩) (h : LW P ops w0 Q os ks (mk N (upd ρ d v)) w) :
    LW P ops w0 Q (⟨some d, .move x, ty, pos, aft, g⟩ :: os) (0 :: ks) (mk N ρ) w :=
  lw_q (by decide) rfl hu v (fun w' _ => by simp [execOp, hx]) h

theorem q_assign {x : Operand} (v : Value) (hx : evF N ρ x = v) (hu : Up ops N ρ ⟨some d, .assign x, ty, pos, aft, g⟩) (h : LW P ops w0 Q os ks (mk N (upd ρ d v)) w) :
    LW P ops w0 Q (⟨some d, .assign x, ty, pos, aft, g⟩ :: os) (0 :: ks) (mk N ρ) w :=
  lw_q (by decide) rfl hu v (fun w' _ => by simp [execOp, hx]) h

theorem q_pick {c x y : Operand} (t : Bool) (v : Value) (hc : evF N ρ c = .bool t) (hv : (if t then evF N ρ x else evF N ρ y) = v) (hu : Up ops N ρ ⟨some d, .pick c x y, ty, pos, aft, g⟩)
    (h : LW P ops w0 Q os ks (mk N (upd ρ d v)) w) : LW P ops w0 Q (⟨some d, .pick c x y, ty, pos, aft, g⟩ :: os) (0 :: ks) (mk N ρ) w :=
  lw_q (by decide) rfl hu v (fun w' _ => by
    subst hv
    cases t <;> simp [execOp, hc, asBool]) h

section bin
variable {xt yt : TypeId} {x y : Operand} {k : IntKind} {a b : Int}

theorem run_eqg {op : BinOp} {w : World} : (eqGuard op xt x y (.int k a) (.int k b)).run P w = .ok () w := by
  unfold eqGuard
  cases op <;> rfl

theorem q_add (c : Int) (hx : evF N ρ x = .int k a) (hy : evF N ρ y = .int k b) (hc : k.wrap (a + b) = c) (hu : Up ops N ρ ⟨some d, .binOp .add xt x y yt, ty, pos, aft, g⟩)
    (h : LW P ops w0 Q os ks (mk N (upd ρ d (.int k c))) w) : LW P ops w0 Q (⟨some d, .binOp .add xt x y yt, ty, pos, aft, g⟩ :: os) (0 :: ks) (mk N ρ) w :=
  lw_q (by decide) rfl hu _ (fun w' _ => by simp [execOp, hx, hy, run_eqg, binOp, Op.intArith, hc]) h
theorem q_sub (c : Int) (hx : evF N ρ x = .int k a) (hy : evF N ρ y = .int k b) (hc : k.wrap (a - b) = c) (hu : Up ops N ρ ⟨some d, .binOp .sub xt x y yt, ty, pos, aft, g⟩)
    (h : LW P ops w0 Q os ks (mk N (upd ρ d (.int k c))) w) : LW P ops w0 Q (⟨some d, .binOp .sub xt x y yt, ty, pos, aft, g⟩ :: os) (0 :: ks) (mk N ρ) w :=
  lw_q (by decide) rfl hu _ (fun w' _ => by simp [execOp, hx, hy, run_eqg, binOp, Op.intArith, hc]) h
theorem q_mul (c : Int) (hx : evF N ρ x = .int k a) (hy : evF N ρ y = .int k b) (hc : k.wrap (a * b) = c) (hu : Up ops N ρ ⟨some d, .binOp .mul xt x y yt, ty, pos, aft, g⟩)
    (h : LW P ops w0 Q os ks (mk N (upd ρ d (.int k c))) w) : LW P ops w0 Q (⟨some d, .binOp .mul xt x y yt, ty, pos, aft, g⟩ :: os) (0 :: ks) (mk N ρ) w :=
  lw_q (by decide) rfl hu _ (fun w' _ => by simp [execOp, hx, hy, run_eqg, binOp, Op.intArith, hc]) h
theorem q_rem (c : Int) (hx : evF N ρ x = .int k a) (hy : evF N ρ y = .int k b) (hb : b ≠ 0) (hc : a.tmod b = c) (hu : Up ops N ρ ⟨some d, .binOp .rem xt x y yt, ty, pos, aft, g⟩)
    (h : LW P ops w0 Q os ks (mk N (upd ρ d (.int k c))) w) : LW P ops w0 Q (⟨some d, .binOp .rem xt x y yt, ty, pos, aft, g⟩ :: os) (0 :: ks) (mk N ρ) w :=
  lw_q (by decide) rfl hu _ (fun w' _ => by simp [execOp, hx, hy, run_eqg, binOp, Op.intDiv, hb, hc]) h
theorem q_quo (c : Int) (hx : evF N ρ x = .int k a) (hy : evF N ρ y = .int k b) (hb : b ≠ 0) (hc : k.wrap (a.tdiv b) = c) (hu : Up ops N ρ ⟨some d, .binOp .quo xt x y yt, ty, pos, aft, g⟩)
    (h : LW P ops w0 Q os ks (mk N (upd ρ d (.int k c))) w) : LW P ops w0 Q (⟨some d, .binOp .quo xt x y yt, ty, pos, aft, g⟩ :: os) (0 :: ks) (mk N ρ) w :=
  lw_q (by decide) rfl hu _ (fun w' _ => by simp [execOp, hx, hy, run_eqg, binOp, Op.intDiv, hb, hc]) h
theorem q_lss (c : Bool) (hx : evF N ρ x = .int k a) (hy : evF N ρ y = .int k b) (hc : decide (a < b) = c) (hu : Up ops N ρ ⟨some d, .binOp .lss xt x y yt, ty, pos, aft, g⟩)
    (h : LW P ops w0 Q os ks (mk N (upd ρ d (.bool c))) w) : LW P ops w0 Q (⟨some d, .binOp .lss xt x y yt, ty, pos, aft, g⟩ :: os) (0 :: ks) (mk N ρ) w :=
  lw_q (by decide) rfl hu _ (fun w' _ => by simp [execOp, hx, hy, run_eqg, binOp, Op.intCmp, ← hc]) h
theorem q_leq (c : Bool) (hx : evF N ρ x = .int k a) (hy : evF N ρ y = .int k b) (hc : decide (a ≤ b) = c) (hu : Up ops N ρ ⟨some d, .binOp .leq xt x y yt, ty, pos, aft, g⟩)
    (h : LW P ops w0 Q os ks (mk N (upd ρ d (.bool c))) w) : LW P ops w0 Q (⟨some d, .binOp .leq xt x y yt, ty, pos, aft, g⟩ :: os) (0 :: ks) (mk N ρ) w :=
  lw_q (by decide) rfl hu _ (fun w' _ => by simp [execOp, hx, hy, run_eqg, binOp, Op.intCmp, ← hc]) h
theorem q_gtr (c : Bool) (hx : evF N ρ x = .int k a) (hy : evF N ρ y = .int k b) (hc : decide (b < a) = c) (hu : Up ops N ρ ⟨some d, .binOp .gtr xt x y yt, ty, pos, aft, g⟩)
    (h : LW P ops w0 Q os ks (mk N (upd ρ d (.bool c))) w) : LW P ops w0 Q (⟨some d, .binOp .gtr xt x y yt, ty, pos, aft, g⟩ :: os) (0 :: ks) (mk N ρ) w :=
  lw_q (by decide) rfl hu _ (fun w' _ => by simp [execOp, hx, hy, run_eqg, binOp, Op.intCmp, ← hc]) h
theorem q_geq (c : Bool) (hx : evF N ρ x = .int k a) (hy : evF N ρ y = .int k b) (hc : decide (b ≤ a) = c) (hu : Up ops N ρ ⟨some d, .binOp .geq xt x y yt, ty, pos, aft, g⟩)
    (h : LW P ops w0 Q os ks (mk N (upd ρ d (.bool c))) w) : LW P ops w0 Q (⟨some d, .binOp .geq xt x y yt, ty, pos, aft, g⟩ :: os) (0 :: ks) (mk N ρ) w :=
  lw_q (by decide) rfl hu _ (fun w' _ => by simp [execOp, hx, hy, run_eqg, binOp, Op.intCmp, ← hc]) h
theorem q_eql (c : Bool) (hx : evF N ρ x = .int k a) (hy : evF N ρ y = .int k b) (hc : decide (a = b) = c) (hu : Up ops N ρ ⟨some d, .binOp .eql xt x y yt, ty, pos, aft, g⟩)
    (h : LW P ops w0 Q os ks (mk N (upd ρ d (.bool c))) w) : LW P ops w0 Q (⟨some d, .binOp .eql xt x y yt, ty, pos, aft, g⟩ :: os) (0 :: ks) (mk N ρ) w :=
  lw_q (by decide) rfl hu _ (fun w' _ => by
    have : (a == b) = c := by rw [← hc]; rfl
    simp [execOp, hx, hy, run_eqg, binOp, Op.intCmp, this]) h
theorem q_neq (c : Bool) (hx : evF N ρ x = .int k a) (hy : evF N ρ y = .int k b) (hc : decide (a ≠ b) = c) (hu : Up ops N ρ ⟨some d, .binOp .neq xt x y yt, ty, pos, aft, g⟩)
    (h : LW P ops w0 Q os ks (mk N (upd ρ d (.bool c))) w) : LW P ops w0 Q (⟨some d, .binOp .neq xt x y yt, ty, pos, aft, g⟩ :: os) (0 :: ks) (mk N ρ) w :=
  lw_q (by decide) rfl hu _ (fun w' _ => by
    have : (a != b) = c := by rw [← hc]; simp [bne, BEq.beq]
    simp [execOp, hx, hy, run_eqg, binOp, Op.intCmp, this]) h
end bin

theorem run_equalIn_bool {xt : TypeId} {n : Nat} {a b : Bool} {w : World} (ht : P.underlying xt = some .bool) : (Op.equalIn (n + 1) xt (.bool a) (.bool b)).run P w = .ok (a == b) w := by
  simp only [Op.equalIn, Sem.run_bind, run_underlying ht, Result.andThen_ok, Sem.run_pure]
theorem run_eql_bool {xt : TypeId} {a b : Bool} {w : World} (ht : P.underlying xt = some .bool) : (binOp .eql xt (.bool a) (.bool b)).run P w = .ok (.bool (a == b)) w := by
  simp only [binOp, Op.equal, Sem.run_bind]
  rw [show Op.maxDepth = 9999 + 1 from rfl, run_equalIn_bool ht]
  rfl
theorem run_neq_bool {xt : TypeId} {a b : Bool} {w : World} (ht : P.underlying xt = some .bool) : (binOp .neq xt (.bool a) (.bool b)).run P w = .ok (.bool (!(a == b))) w := by
  simp only [binOp, Op.equal, Sem.run_bind]
  rw [show Op.maxDepth = 9999 + 1 from rfl, run_equalIn_bool ht]
  rfl

/-- '==' and '!=' on bools. -/
theorem q_eqlb {xt yt : TypeId} {x y : Operand} {a b : Bool} (c : Bool) (ht : P.underlying xt = some .bool) (hx : evF N ρ x = .bool a) (hy : evF N ρ y = .bool b) (hc : (a == b) = c) (hu : Up ops N ρ ⟨some d, .binOp .eql xt x y yt, ty, pos, aft, g⟩)
    (h : LW P ops w0 Q os ks (mk N (upd ρ d (.bool c))) w) : LW P ops w0 Q (⟨some d, .binOp .eql xt x y yt, ty, pos, aft, g⟩ :: os) (0 :: ks) (mk N ρ) w :=
  lw_q (by decide) rfl hu _ (fun w' _ => by
    have he : (eqGuard .eql xt x y (.bool a) (.bool b)).run P w' = .ok () w' := rfl
    simp only [execOp, hx, hy, Sem.run_bind, he, Result.andThen_ok, run_eql_bool ht, hc, Sem.run_pure]) h
theorem q_neqb {xt yt : TypeId} {x y : Operand} {a b : Bool} (c : Bool) (ht : P.underlying xt = some .bool) (hx : evF N ρ x = .bool a) (hy : evF N ρ y = .bool b) (hc : (!(a == b)) = c) (hu : Up ops N ρ ⟨some d, .binOp .neq xt x y yt, ty, pos, aft, g⟩)
    (h : LW P ops w0 Q os ks (mk N (upd ρ d (.bool c))) w) : LW P ops w0 Q (⟨some d, .binOp .neq xt x y yt, ty, pos, aft, g⟩ :: os) (0 :: ks) (mk N ρ) w :=
  lw_q (by decide) rfl hu _ (fun w' _ => by
    have he : (eqGuard .neq xt x y (.bool a) (.bool b)).run P w' = .ok () w' := rfl
    simp only [execOp, hx, hy, Sem.run_bind, he, Result.andThen_ok, run_neq_bool ht, hc, Sem.run_pure]) h

theorem q_not {xt : TypeId} {x : Operand} {a : Bool} (c : Bool) (hx : evF N ρ x = .bool a) (hc : (!a) = c) (hu : Up ops N ρ ⟨some d, .unOp .not xt x, ty, pos, aft, g⟩)
    (h : LW P ops w0 Q os ks (mk N (upd ρ d (.bool c))) w) : LW P ops w0 Q (⟨some d, .unOp .not xt x, ty, pos, aft, g⟩ :: os) (0 :: ks) (mk N ρ) w :=
  lw_q (by decide) rfl hu _ (fun w' _ => by simp [execOp, hx, Op.unary, ← hc]) h
theorem q_neg {xt : TypeId} {x : Operand} {k : IntKind} {a : Int} (c : Int) (hx : evF N ρ x = .int k a) (hc : k.wrap (-a) = c) (hu : Up ops N ρ ⟨some d, .unOp .neg xt x, ty, pos, aft, g⟩)
    (h : LW P ops w0 Q os ks (mk N (upd ρ d (.int k c))) w) : LW P ops w0 Q (⟨some d, .unOp .neg xt x, ty, pos, aft, g⟩ :: os) (0 :: ks) (mk N ρ) w :=
  lw_q (by decide) rfl hu _ (fun w' _ => by simp [execOp, hx, Op.unary, Op.intArith, hc]) h

theorem q_len {t e : TypeId} {x : Operand} {v : Value} {n : Nat} (ht : P.underlying t = some (.slice e)) (hx : evF N ρ x = v) (hs : isSl v n) (hu : Up ops N ρ ⟨some d, .call ⟨.builtin .len, #[x], #[t]⟩, ty, pos, aft, g⟩)
    (h : LW P ops w0 Q os ks (mk N (upd ρ d (.int .i64 (n : Int)))) w) : LW P ops w0 Q (⟨some d, .call ⟨.builtin .len, #[x], #[t]⟩, ty, pos, aft, g⟩ :: os) (0 :: ks) (mk N ρ) w :=
  lw_q (by decide) rfl hu _ (fun w' _ => by
    obtain ⟨a, c, rfl, _⟩ := hs
    simp [execOp, resolve, invoke, builtin, hx, Builtin.len_, run_underlying ht, goInt]) h
theorem q_lens {t : TypeId} {x : Operand} {s : ByteArray} (ht : P.underlying t = some .string) (hx : evF N ρ x = .string s) (hu : Up ops N ρ ⟨some d, .call ⟨.builtin .len, #[x], #[t]⟩, ty, pos, aft, g⟩)
    (h : LW P ops w0 Q os ks (mk N (upd ρ d (.int .i64 (s.size : Int)))) w) : LW P ops w0 Q (⟨some d, .call ⟨.builtin .len, #[x], #[t]⟩, ty, pos, aft, g⟩ :: os) (0 :: ks) (mk N ρ) w :=
  lw_q (by decide) rfl hu _ (fun w' _ => by
    simp [execOp, resolve, invoke, builtin, hx, Builtin.len_, run_underlying ht, goInt]) h

theorem q_idx {t e : TypeId} {x y : Operand} {v : Value} {n s : Nat} {k : IntKind} {i : Int} (j : Nat) (ht : P.underlying t = some (.slice e)) {z : Value} {b : Nat} (hi : TI P e s z b) (hx : evF N ρ x = v) (hy : evF N ρ y = .int k i)
    (hs : isSl v n) (hj : i = (j : Int)) (hlt : j < n) (hu : Up ops N ρ ⟨some d, .indexAddr t x y, ty, pos, aft, g⟩)
    (h : LW P ops w0 Q os ks (mk N (upd ρ d (eptr v j s))) w) : LW P ops w0 Q (⟨some d, .indexAddr t x y, ty, pos, aft, g⟩ :: os) (0 :: ks) (mk N ρ) w :=
  lw_q (by decide) rfl hu _ (fun w' _ => by
    obtain ⟨a, c, rfl, ha⟩ := hs
    obtain ⟨inf, h1, _, h3, _⟩ := hi.get
    subst hj
    cases a with
    | none => have := ha rfl; omega
    | some a =>
      have hlt' : (j : Int) < (n : Int) := by omega
      simp [execOp, hx, hy, Instr.indexAt, asIntOf, run_underlying ht, sizeOf, typeInfo, h1, h3, eptr, hlt]) h

theorem q_load {k : Nat} (hk : k = 1 ∨ k = 2) {t : TypeId} {x : Operand} {p : Value} (u : Value) (ht : oneTy P t) (hx : evF N ρ x = p) (hc : ldH (if k = 1 then w0.heap else w.heap) p = some u) (hu : Up ops N ρ ⟨some d, .load t x, ty, pos, aft, g⟩)
    (h : LW P ops w0 Q os ks (mk N (upd ρ d u)) w) : LW P ops w0 Q (⟨some d, .load t x, ty, pos, aft, g⟩ :: os) (k :: ks) (mk N ρ) w :=
  lw_q (by omega) rfl hu _ (fun w' hcl => by
    have hl : ldH w'.heap p = some u := by
      rcases hk with rfl | rfl
      · exact ldH_ext (w := w0) hcl hc
      · exact ldH_ext (w := w) hcl hc
    simp [execOp, hx, run_load1 ht hl]) h

theorem q_extract {x : Operand} {vs : List Value} {i : Nat} (v : Value) (hx : evF N ρ x = .tuple vs.toArray) (hv : vs[i]? = some v) (hu : Up ops N ρ ⟨some d, .extract x i, ty, pos, aft, g⟩)
    (h : LW P ops w0 Q os ks (mk N (upd ρ d v)) w) : LW P ops w0 Q (⟨some d, .extract x i, ty, pos, aft, g⟩ :: os) (0 :: ks) (mk N ρ) w :=
  lw_q (by decide) rfl hu _ (fun w' _ => by simp [execOp, hx, Instr.extract, hv]) h

theorem q_conv {st dt : TypeId} {x : Operand} {k k' : IntKind} {a : Int} (c : Int) {sd : TypeDesc} (hst : P.underlying st = some sd) (hdt : P.underlying dt = some (.int k')) (hx : evF N ρ x = .int k a) (hc : k'.wrap a = c) (hu : Up ops N ρ ⟨some d, .convert st dt x, ty, pos, aft, g⟩)
    (h : LW P ops w0 Q os ks (mk N (upd ρ d (.int k' c))) w) : LW P ops w0 Q (⟨some d, .convert st dt x, ty, pos, aft, g⟩ :: os) (0 :: ks) (mk N ρ) w :=
  lw_q (by decide) rfl hu _ (fun w' _ => by
    simp [execOp, hx, convert, run_underlying hst, run_underlying hdt, Conv.intToInt, hc]) h

theorem q_func {fn : Fn} {first cap : Array Operand} (fs cs : List Value) (h1 : first.toList.map (evF N ρ) = fs) (h2 : cap.toList.map (evF N ρ) = cs) (hu : Up ops N ρ ⟨some d, .makeFunc fn first cap, ty, pos, aft, g⟩)
    (h : LW P ops w0 Q os ks (mk N (upd ρ d (.func fn fs.toArray cs.toArray))) w) : LW P ops w0 Q (⟨some d, .makeFunc fn first cap, ty, pos, aft, g⟩ :: os) (0 :: ks) (mk N ρ) w :=
  lw_q (by decide) rfl hu _ (fun w' _ => by
    have e1 : first.map (evF N ρ) = fs.toArray := by rw [← h1]; apply Array.ext'; simp
    have e2 : cap.map (evF N ρ) = cs.toArray := by rw [← h2]; apply Array.ext'; simp
    simp [execOp, Instr.makeFunc, e1, e2]) h

end ops
end Go.Proofs.Ytjgnlnlngcjfcaa
