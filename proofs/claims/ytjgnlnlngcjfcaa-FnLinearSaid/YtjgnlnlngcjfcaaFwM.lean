/- A struct in a box: its fields read and written. No condition. -/
import Derived.Test.YtjgnlnlngcjfcaaFwK
namespace Go.Proofs.Ytjgnlnlngcjfcaa
open Go Go.RowKit
set_option linter.unusedVariables false
set_option linter.unusedSimpArgs false

/-- What the table of types says of a field. -/
def fdB (P : Program) (s : TypeId) (i off : Nat) : Bool :=
  match P.underlying s with
  | some (.struct fs) =>
    match fs[i]? with
    | some f => (f.offset == off) && (match P.info? f.type with | some inf => inf.size != 0 | none => false)
    | none => false
  | _ => false

/-- A block that holds these cells. -/
def BX (H : Array Obj) (g : Nat) (cs : List Value) : Prop := ∃ e, H[g]? = some (.cells cs.toArray e (0, 0))
theorem BX.lt {H : Array Obj} {g : Nat} {cs : List Value} (h : BX H g cs) : g < H.size := by obtain ⟨e, h⟩ := h; exact getElem?_lt h
theorem BX.ext {w w' : World} {g : Nat} {cs : List Value} (h : BX w.heap g cs) (k : Ext w w') : BX w'.heap g cs := by
  have hl := h.lt
  obtain ⟨e, h⟩ := h
  exact ⟨e, by rw [k.heap hl]; exact h⟩
theorem BX.chg {w w' : World} {g : Nat} {cs : List Value} {F : List Nat} (h : BX w.heap g cs) (k : Chg F w w') (hg : g ∉ F) : BX w'.heap g cs := by
  have hl := h.lt
  obtain ⟨e, h⟩ := h
  exact ⟨e, by rw [k.block g hl hg]; exact h⟩
theorem BX.ld {H : Array Obj} {g k : Nat} {cs : List Value} (h : BX H g cs) (hk : k < cs.length) : ldH H (.pointer (some ⟨g, k, none⟩)) = some (cs.getD k undef) := by
  obtain ⟨e, h⟩ := h
  simp only [ldH, cellH, h]
  simp [hk]

theorem Chg.fresh {F G : List Nat} {a b c : World} (h : Chg F a b) (k : Chg G b c) (hG : ∀ x ∈ G, a.heap.size ≤ x) : Chg F a c :=
  ⟨k.os.trans h.os, k.tape.trans h.tape, k.output.trans h.output, Nat.le_trans h.size k.size, fun i hi hm => (k.block i (Nat.lt_of_lt_of_le hi h.size) fun hg => by have := hG i hg; omega).trans (h.block i hi hm)⟩
/-- A source of choices: the struct in block g holds the slice v, which reads as bytes, n choices made; the bytes lie before it. -/
def Src (H : Array Obj) (g : Nat) (v : Value) (cs : List UInt8) (n : Nat) : Prop := ∃ sd : Int, BX H g [v, .int .i64 ((n : Nat) : Int), .int .u64 sd] ∧ ∃ F, rdL rU H v cs F ∧ ∀ b ∈ F, b < g
theorem Src.lt {H : Array Obj} {g n : Nat} {v : Value} {cs : List UInt8} (h : Src H g v cs n) : g < H.size := by obtain ⟨sd, h, _⟩ := h; exact h.lt
theorem Src.ext {w w' : World} {g n : Nat} {v : Value} {cs : List UInt8} (h : Src w.heap g v cs n) (k : Ext w w') : Src w'.heap g v cs n := by
  obtain ⟨sd, h, F, h1, h2⟩ := h
  exact ⟨sd, h.ext k, F, good_u.stable h1 fun b hb => k.heap (good_u.lt h1 b hb), h2⟩
theorem Src.chg {w w' : World} {g n : Nat} {v : Value} {cs : List UInt8} {G : List Nat} (h : Src w.heap g v cs n) (k : Chg G w w') (hG : ∀ b ∈ G, g < b) : Src w'.heap g v cs n := by
  obtain ⟨sd, h, F, h1, h2⟩ := h
  exact ⟨sd, h.chg k fun hm => by have := hG g hm; omega, F, good_u.stable h1 fun b hb => k.block b (good_u.lt h1 b hb) fun hm => by have := hG b hm; have := h2 b hb; omega, h2⟩
theorem Src.parts {w : World} {g n : Nat} {v : Value} {cs : List UInt8} (h : Src w.heap g v cs n) : ∃ sd : Int, BX w.heap g [v, .int .i64 ((n : Nat) : Int), .int .u64 sd] ∧ ∀ w', Chg [g] w w' → Rd (rdL rU) w'.heap v cs := by
  obtain ⟨sd, h, F, h1, h2⟩ := h
  refine ⟨sd, h, fun w' k => ⟨F, good_u.stable h1 fun b hb => k.block b (good_u.lt h1 b hb) fun hm => ?_⟩⟩
  have : b = g := by simpa using hm
  have := h2 b hb
  omega
theorem Src.close {w w' : World} {g n n' : Nat} {v : Value} {cs : List UInt8} {sd : Int} (h : Src w.heap g v cs n) (k : Chg [g] w w') (hb : BX w'.heap g [v, .int .i64 ((n' : Nat) : Int), .int .u64 sd]) : Src w'.heap g v cs n' := by
  obtain ⟨sd0, h, F, h1, h2⟩ := h
  refine ⟨sd, hb, F, good_u.stable h1 fun b hb => k.block b (good_u.lt h1 b hb) fun hm => ?_, h2⟩
  have : b = g := by simpa using hm
  have := h2 b hb
  omega
theorem Src.new {w w' : World} {g : Nat} {v : Value} {cs : List UInt8} (h : Rd (rdL rU) w.heap v cs) (k : Ext w w') (hb : BX w'.heap g [v, .int .i64 0, .int .u64 0]) (hg : w.heap.size ≤ g) : Src w'.heap g v cs 0 := by
  obtain ⟨F, h⟩ := h
  exact ⟨0, hb, F, good_u.stable h fun b hb => k.heap (good_u.lt h b hb), fun b hb => by have := good_u.lt h b hb; omega⟩
theorem w8r (x : UInt8) : -9223372036854775808 ≤ ((x.toNat : Nat) : Int) ∧ ((x.toNat : Nat) : Int) ≤ 9223372036854775807 := by
  have := x.toNat_lt; omega
theorem w8 (x : UInt8) : IntKind.i64.wrap ((x.toNat : Nat) : Int) = ((x.toNat : Nat) : Int) := w64 (w8r x).1 (w8r x).2
theorem u8_lt (x : UInt8) : x.toNat < 256 := x.toNat_lt

section ops
variable {P : Program} {ops : Array Oper} {w0 : World} {Q : Act → World → Prop} {os : List Oper} {ks : List Nat} {N : Nat} {ρ : Nat → Value} {w : World}
  {d : Nat} {ty : TypeId} {pos : String} {aft : Array Edge} {g : Option (Nat × Bool)} {t e : TypeId}

theorem q_nil {x : Operand} {a : Addr} (hx : evF N ρ x = .pointer (some a)) (hu : Up ops N ρ ⟨some d, .nilCheck x, ty, pos, aft, g⟩)
    (h : LW P ops w0 Q os ks (mk N (upd ρ d (.pointer (some a)))) w) : LW P ops w0 Q (⟨some d, .nilCheck x, ty, pos, aft, g⟩ :: os) (0 :: ks) (mk N ρ) w :=
  lw_q (by decide) rfl hu _ (fun w' _ => by simp [execOp, hx]) h

theorem q_fld {s : TypeId} {x : Operand} {b i : Nat} (off : Nat) (hf : fdB P s i off = true) (hx : evF N ρ x = .pointer (some ⟨b, 0, none⟩)) (hu : Up ops N ρ ⟨some d, .fieldAddr s x i, ty, pos, aft, g⟩)
    (h : LW P ops w0 Q os ks (mk N (upd ρ d (.pointer (some ⟨b, off, none⟩)))) w) : LW P ops w0 Q (⟨some d, .fieldAddr s x i, ty, pos, aft, g⟩ :: os) (0 :: ks) (mk N ρ) w :=
  lw_q (by decide) rfl hu _ (fun w' _ => by
    unfold fdB at hf
    split at hf
    · rename_i fs hfs
      split at hf
      · rename_i f hff
        simp only [Bool.and_eq_true, beq_iff_eq] at hf
        obtain ⟨rfl, hf2⟩ := hf
        split at hf2
        · rename_i inf hin
          have hne : inf.size ≠ 0 := by simpa using hf2
          have ha : (⟨b, 0, none⟩ : Addr).add f.offset = ⟨b, f.offset, none⟩ := by
            unfold Addr.add
            split
            · rename_i h0; rw [h0]
            · simp
          simp [execOp, Instr.fieldAt, Instr.sureAddr, run_underlying hfs, hff, hx, fieldPlace, sizeOf, typeInfo, hin, hne, ha]
        · cases hf2
      · cases hf
    · cases hf) h

theorem q_shr {xt yt : TypeId} {x y : Operand} {k k' : IntKind} {a b : Int} (c : Int) (hx : evF N ρ x = .int k a) (hy : evF N ρ y = .int k' b) (hb : 0 ≤ b) (hc : a.fdiv (2 ^ (min b.toNat k.bits)) = c) (hu : Up ops N ρ ⟨some d, .binOp .shr xt x y yt, ty, pos, aft, g⟩)
    (h : LW P ops w0 Q os ks (mk N (upd ρ d (.int k c))) w) : LW P ops w0 Q (⟨some d, .binOp .shr xt x y yt, ty, pos, aft, g⟩ :: os) (0 :: ks) (mk N ρ) w :=
  lw_q (by decide) rfl hu _ (fun w' _ => by
    have he : (eqGuard .shr xt x y (.int k a) (.int k' b)).run P w' = .ok () w' := rfl
    simp [execOp, hx, hy, he, binOp, Op.shift, Int.not_lt.2 hb, hc]) h
/-- The bits that two numbers share. -/
def andV (k : IntKind) (a b : Int) : Int := k.wrap ((BitVec.ofInt k.bits a &&& BitVec.ofInt k.bits b).toNat : Int)
theorem and_255 (a : Int) : 0 ≤ andV .u64 a 255 ∧ andV .u64 a 255 ≤ 255 := by
  have h : (BitVec.ofInt 64 a &&& BitVec.ofInt 64 255).toNat ≤ 255 := by
    rw [BitVec.toNat_and]
    exact Nat.le_trans Nat.and_le_right (by decide)
  have hw : ∀ m : Nat, m ≤ 255 → IntKind.u64.wrap (m : Int) = (m : Int) := fun m hm => IntWalk.u64_in _ (by omega)
  have e : andV .u64 a 255 = (((BitVec.ofInt 64 a &&& BitVec.ofInt 64 255).toNat : Nat) : Int) := hw _ h
  rw [e]
  generalize (BitVec.ofInt 64 a &&& BitVec.ofInt 64 255).toNat = m at h
  omega
theorem wandr (a : Int) : -9223372036854775808 ≤ andV .u64 a 255 ∧ andV .u64 a 255 ≤ 9223372036854775807 := by have := and_255 a; omega
theorem wand (a : Int) : IntKind.i64.wrap (andV .u64 a 255) = andV .u64 a 255 := w64 (wandr a).1 (wandr a).2
theorem q_and {xt yt : TypeId} {x y : Operand} {k : IntKind} {a b : Int} (hx : evF N ρ x = .int k a) (hy : evF N ρ y = .int k b) (hu : Up ops N ρ ⟨some d, .binOp .and xt x y yt, ty, pos, aft, g⟩)
    (h : LW P ops w0 Q os ks (mk N (upd ρ d (.int k (andV k a b)))) w) : LW P ops w0 Q (⟨some d, .binOp .and xt x y yt, ty, pos, aft, g⟩ :: os) (0 :: ks) (mk N ρ) w :=
  lw_q (by decide) rfl hu _ (fun w' _ => by
    have he : (eqGuard .and xt x y (.int k a) (.int k b)).run P w' = .ok () w' := rfl
    simp [execOp, hx, hy, he, binOp, Op.intBits, andV]) h

/-- A store of one cell into a box. -/
theorem e_setB {st : TypeId} {x y : Operand} {b k : Nat} {u : Value} {cs : List Value} (hst : (P.info? st).map (·.size) = some 1) (hx : evF N ρ x = .pointer (some ⟨b, k, none⟩)) (hy : evF N ρ y = u) (hc : u.cells = #[u] ∧ u.oneCell' = true)
    (hb : BX w.heap b cs) (hk : k < cs.length) (hu : Up ops N ρ ⟨none, .store st x y, ty, pos, aft, g⟩)
    (h : ∀ w1, Chg [b] w w1 → w1.heap.size = w.heap.size → BX w1.heap b (cs.set k u) → LW P ops w0 Q os ks (mk N ρ) w1) :
    LW P ops w0 Q (⟨none, .store st x y, ty, pos, aft, g⟩ :: os) (4 :: ks) (mk N ρ) w := by
  obtain ⟨e, hb⟩ := hb
  have hr := run_store1 (P := P) hst hb (j := k) (by simpa using hk) hc.1 hc.2
  refine lw_s rfl hu _ (exec_store hx hy hr) (h _ (chg_set _ _ _ _) (by simp [World.setCell]) ⟨e, ?_⟩)
  rw [heap_set hb]
  simp

/-- A struct is built. -/
theorem q_build {parts : Array (Nat × Operand)} {ps : Array (Nat × Value)} (u : Value) (hp : (parts.map fun (i, x) => (i, evF N ρ x)) = ps) (hr : ∀ w', (Instr.build t ps).run P w' = .ok u w') (hu : Up ops N ρ ⟨some d, .build t parts, ty, pos, aft, g⟩)
    (h : LW P ops w0 Q os ks (mk N (upd ρ d u)) w) : LW P ops w0 Q (⟨some d, .build t parts, ty, pos, aft, g⟩ :: os) (0 :: ks) (mk N ρ) w :=
  lw_q (by decide) rfl hu _ (fun w' _ => by subst hp; simp [execOp, hr w']) h

/-- A struct is boxed. -/
theorem r_boxA {x : Operand} {cs : Array Value} (hx : evF N ρ x = .agg cs) (hu : Up ops N ρ ⟨some d, .box t x, ty, pos, aft, g⟩)
    (h : ∀ w1, Ext w w1 → w1.heap.size = w.heap.size + 1 → BX w1.heap w.heap.size cs.toList → LW P ops w0 Q os ks (mk N (upd ρ d (.pointer (some ⟨w.heap.size, 0, none⟩)))) w1) :
    LW P ops w0 Q (⟨some d, .box t x, ty, pos, aft, g⟩ :: os) (3 :: ks) (mk N ρ) w := by
  have hrun : (execOp (evF N ρ) ⟨some d, .box t x, ty, pos, aft, g⟩).run P w = .ok (.value (.pointer (some ⟨w.heap.size, 0, none⟩))) (w.alloc (.cells cs t)) := by
    simp [execOp, Instr.box, newVar, newRow, hx, Value.cells]
  refine lw_r rfl hu _ _ hrun (ext_alloc _ _) (h _ (ext_alloc _ _) (by simp) ⟨t, ?_⟩)
  have := heap_alloc_new w (.cells cs t)
  simpa using this
end ops
end Go.Proofs.Ytjgnlnlngcjfcaa
