/- Slices in memory: read ones and owned ones. No condition. -/
import Derived.Test.YtjgnlnlngcjfcaaFwD
namespace Go.Proofs.Ytjgnlnlngcjfcaa
open Go Go.RowKit

/-- How a value stands for a datum: in which memory, and by which blocks. -/
abbrev Stand (α : Type) := Array Obj → Value → α → List Nat → Prop

structure Good {α : Type} (E : Stand α) : Prop where
  cells : ∀ {H v x F}, E H v x F → v.cells = #[v]
  one : ∀ {H v x F}, E H v x F → v.oneCell' = true
  lt : ∀ {H v x F}, E H v x F → ∀ b ∈ F, b < H.size
  stable : ∀ {H H' v x F}, E H v x F → (∀ b ∈ F, H'[b]? = H[b]?) → E H' v x F

def els {α : Type} (E : Stand α) (H : Array Obj) : List Value → List α → List Nat → Prop
  | [], [], F => F = []
  | u :: us, x :: xs, F => ∃ F1 F2, F = F1 ++ F2 ∧ E H u x F1 ∧ els E H us xs F2
  | _, _, _ => False

section els
variable {α : Type} {E : Stand α} {H H' : Array Obj}

theorem els.length : ∀ {us : List Value} {xs : List α} {F : List Nat}, els E H us xs F → us.length = xs.length
  | [], [], _, _ => rfl
  | _ :: _, _ :: _, _, ⟨_, _, _, _, h⟩ => by simp [els.length h]
  | [], _ :: _, _, h => h.elim
  | _ :: _, [], _, h => h.elim

theorem els.stable (hE : Good E) : ∀ {us : List Value} {xs : List α} {F : List Nat}, els E H us xs F → (∀ b ∈ F, H'[b]? = H[b]?) → els E H' us xs F
  | [], [], _, h, _ => h
  | _ :: _, _ :: _, _, ⟨F1, F2, rfl, h1, h2⟩, hb =>
    ⟨F1, F2, rfl, hE.stable h1 fun b hh => hb b (List.mem_append_left _ hh), els.stable hE h2 fun b hh => hb b (List.mem_append_right _ hh)⟩
  | [], _ :: _, _, h, _ => h.elim
  | _ :: _, [], _, h, _ => h.elim

theorem els.lt (hE : Good E) : ∀ {us : List Value} {xs : List α} {F : List Nat}, els E H us xs F → ∀ b ∈ F, b < H.size
  | [], [], _, h, b, hb => by rw [show _ = [] from h] at hb; cases hb
  | _ :: _, _ :: _, _, ⟨F1, F2, rfl, h1, h2⟩, b, hb => (List.mem_append.1 hb).elim (hE.lt h1 b) (els.lt hE h2 b)
  | [], _ :: _, _, h, _, _ => h.elim
  | _ :: _, [], _, h, _, _ => h.elim

theorem els.get : ∀ {us : List Value} {xs : List α} {F : List Nat} {k : Nat} (d : α), els E H us xs F → k < xs.length →
    ∃ u F1, us[k]? = some u ∧ E H u (xs.getD k d) F1 ∧ ∀ b ∈ F1, b ∈ F
  | u :: us, x :: xs, _, 0, d, ⟨F1, F2, rfl, h1, h2⟩, _ => ⟨u, F1, rfl, h1, fun b hb => List.mem_append_left _ hb⟩
  | u :: us, x :: xs, _, k + 1, d, ⟨F1, F2, rfl, h1, h2⟩, hk => by
    obtain ⟨u', G, hu, hx, hb⟩ := els.get d h2 (by simpa using hk)
    exact ⟨u', G, by simpa using hu, by simpa using hx, fun b hh => List.mem_append_right _ (hb b hh)⟩
  | [], [], _, _, _, _, hk => by simp at hk
  | [], _ :: _, _, _, _, h, _ => h.elim

theorem els.append : ∀ {us vs : List Value} {xs ys : List α} {F G : List Nat}, els E H us xs F → els E H vs ys G → els E H (us ++ vs) (xs ++ ys) (F ++ G)
  | [], _, [], _, _, _, h, k => by rw [show _ = [] from h]; exact k
  | _ :: _, _, _ :: _, _, _, _, ⟨F1, F2, rfl, h1, h2⟩, k => ⟨F1, _, by rw [List.append_assoc], h1, els.append h2 k⟩
  | [], _, _ :: _, _, _, _, h, _ => h.elim
  | _ :: _, _, [], _, _, _, h, _ => h.elim

theorem els.imp {E' : Stand α} (h : ∀ {H v x F}, E H v x F → E' H v x F) : ∀ {us : List Value} {xs : List α} {F : List Nat}, els E H us xs F → els E' H us xs F
  | [], [], _, hh => hh
  | _ :: _, _ :: _, _, ⟨F1, F2, e, h1, h2⟩ => ⟨F1, F2, e, h h1, els.imp h h2⟩
  | [], _ :: _, _, hh => hh.elim
  | _ :: _, [], _, hh => hh.elim

theorem els.flat (hE : Good E) : ∀ {us : List Value} {xs : List α} {F : List Nat}, els E H us xs F → us.flatMap (fun u => u.cells.toList) = us
  | [], [], _, _ => rfl
  | u :: us, x :: xs, _, ⟨F1, F2, rfl, h1, h2⟩ => by
    simp only [List.flatMap_cons, hE.cells h1, els.flat hE h2]; rfl
  | [], _ :: _, _, h => h.elim
  | _ :: _, [], _, h => h.elim

theorem els.one (hE : Good E) : ∀ {us : List Value} {xs : List α} {F : List Nat}, els E H us xs F → ∀ u ∈ us, u.oneCell' = true
  | [], [], _, _, u, hu => by cases hu
  | _ :: _, _ :: _, _, ⟨F1, F2, rfl, h1, h2⟩, v, hv => (List.mem_cons.1 hv).elim (fun e => e ▸ hE.one h1) (els.one hE h2 v)
  | [], _ :: _, _, h, _, _ => h.elim
  | _ :: _, [], _, h, _, _ => h.elim
end els

/-- An int64 (or int). -/
def rI : Stand Int := fun _ v x F => v = .int .i64 x ∧ F = [] ∧ -9223372036854775808 ≤ x ∧ x ≤ 9223372036854775807
/-- A byte. -/
def rU : Stand UInt8 := fun _ v x F => v = .int .u8 (x.toNat : Int) ∧ F = []
def rB : Stand Bool := fun _ v x F => v = .bool x ∧ F = []

theorem good_rI : Good rI := ⟨fun h => by rw [h.1]; rfl, fun h => by rw [h.1]; rfl, fun h b hb => (by rw [h.2.1] at hb; cases hb), fun h _ => h⟩
theorem good_rU : Good rU := ⟨fun h => by rw [h.1]; rfl, fun h => by rw [h.1]; rfl, fun h b hb => (by rw [h.2] at hb; cases hb), fun h _ => h⟩
theorem good_rB : Good rB := ⟨fun h => by rw [h.1]; rfl, fun h => by rw [h.1]; rfl, fun h b hb => (by rw [h.2] at hb; cases hb), fun h _ => h⟩

/-- A slice that is read. -/
def rdL {α : Type} (E : Stand α) : Stand (List α) := fun H v xs F =>
  (∃ a cap, v = .slice a 0 cap ∧ xs = [] ∧ F = []) ∨
  ∃ us g off cap cur e fr F', els E H us xs F' ∧ v = .slice (some ⟨g, off, none⟩) xs.length cap ∧ H[g]? = some (.cells cur e fr) ∧ (cur.toList.drop off).take xs.length = us ∧ xs.length ≤ maxLen ∧ F = g :: F'

/-- A slice that is owned: its row lies alone in a block, with its spare places. -/
def owL {α : Type} (E : Stand α) (e : TypeId) : Stand (List α) := fun H v xs F =>
  (v = .slice none 0 0 ∧ xs = [] ∧ F = []) ∨
  ∃ us g cap cur F', els E H us xs F' ∧ v = .slice (some ⟨g, 0, none⟩) xs.length cap ∧ H[g]? = some (.cells cur e (0, 0)) ∧ xs.length ≤ cap ∧ cap ≤ maxLen ∧ cur.size = cap ∧ cur.toList.take xs.length = us ∧ F = g :: F'

theorem getElem?_lt {H : Array Obj} {g : Nat} {o : Obj} (h : H[g]? = some o) : g < H.size := (Array.getElem?_eq_some_iff.1 h).1

section lists
variable {α : Type} {E : Stand α} {e : TypeId} {H : Array Obj} {v : Value} {xs : List α} {F : List Nat}

theorem good_rdL (hE : Good E) : Good (rdL E) where
  cells := by
    rintro H v xs F (⟨a, cap, rfl, _⟩ | ⟨us, g, off, cap, cur, e, fr, F', _, rfl, _⟩) <;> rfl
  one := by
    rintro H v xs F (⟨a, cap, rfl, _⟩ | ⟨us, g, off, cap, cur, e, fr, F', _, rfl, _⟩) <;> rfl
  lt := by
    rintro H v xs F (⟨a, cap, rfl, _, rfl⟩ | ⟨us, g, off, cap, cur, e, fr, F', h, rfl, hg, _, _, rfl⟩) b hb
    · cases hb
    · rcases List.mem_cons.1 hb with rfl | hb
      · exact getElem?_lt hg
      · exact h.lt hE b hb
  stable := by
    rintro H H' v xs F (⟨a, cap, rfl, h1, h2⟩ | ⟨us, g, off, cap, cur, e, fr, F', h, rfl, hg, hw, hml, rfl⟩) hb
    · exact .inl ⟨a, cap, rfl, h1, h2⟩
    · exact .inr ⟨us, g, off, cap, cur, e, fr, F', h.stable hE fun b hh => hb b (List.mem_cons_of_mem _ hh), rfl, by rw [hb g (List.mem_cons_self ..)]; exact hg, hw, hml, rfl⟩

theorem good_owL (hE : Good E) : Good (owL E e) where
  cells := by
    rintro H v xs F (⟨rfl, _⟩ | ⟨us, g, cap, cur, F', _, rfl, _⟩) <;> rfl
  one := by
    rintro H v xs F (⟨rfl, _⟩ | ⟨us, g, cap, cur, F', _, rfl, _⟩) <;> rfl
  lt := by
    rintro H v xs F (⟨rfl, _, rfl⟩ | ⟨us, g, cap, cur, F', h, rfl, hg, _, _, _, _, rfl⟩) b hb
    · cases hb
    · rcases List.mem_cons.1 hb with rfl | hb
      · exact getElem?_lt hg
      · exact h.lt hE b hb
  stable := by
    rintro H H' v xs F (⟨rfl, h1, h2⟩ | ⟨us, g, cap, cur, F', h, rfl, hg, r1, r2, r3, r4, rfl⟩) hb
    · exact .inl ⟨rfl, h1, h2⟩
    · exact .inr ⟨us, g, cap, cur, F', h.stable hE fun b hh => hb b (List.mem_cons_of_mem _ hh), rfl, by rw [hb g (List.mem_cons_self ..)]; exact hg, r1, r2, r3, r4, rfl⟩

theorem owL.rd {E' : Stand α} (hi : ∀ {H v x F}, E H v x F → E' H v x F) (h : owL E e H v xs F) : rdL E' H v xs F := by
  rcases h with ⟨rfl, rfl, rfl⟩ | ⟨us, g, cap, cur, F', h, rfl, hg, r1, r2, r3, r4, rfl⟩
  · exact .inl ⟨none, 0, rfl, rfl, rfl⟩
  · exact .inr ⟨us, g, 0, cap, cur, e, (0, 0), F', h.imp hi, rfl, hg, by simpa using r4, by omega, rfl⟩

theorem rdL.isSl (h : rdL E H v xs F) : isSl v xs.length := by
  rcases h with ⟨a, cap, rfl, rfl, _⟩ | ⟨us, g, off, cap, cur, e, fr, F', _, rfl, _⟩
  · exact ⟨a, cap, rfl, fun _ => rfl⟩
  · exact ⟨_, cap, rfl, fun h => by cases h⟩

theorem eptr_mk (g off n cap k : Nat) : eptr (.slice (some ⟨g, off, none⟩) n cap) k 1 = .pointer (some ⟨g, off + k, none⟩) := by
  unfold eptr Addr.add
  simp only [Nat.mul_one]
  split
  · rename_i h; subst h; rfl
  · rfl

theorem rdL.get (d : α) {k : Nat} (h : rdL E H v xs F) (hk : k < xs.length) : ∃ u F1, ldH H (eptr v k 1) = some u ∧ E H u (xs.getD k d) F1 ∧ ∀ b ∈ F1, b ∈ F := by
  rcases h with ⟨a, cap, rfl, rfl, _⟩ | ⟨us, g, off, cap, cur, e, fr, F', h, rfl, hg, hw, _, rfl⟩
  · simp at hk
  · obtain ⟨u, F1, hu, hx, hb⟩ := h.get d hk
    refine ⟨u, F1, ?_, hx, fun b hh => List.mem_cons_of_mem _ (hb b hh)⟩
    rw [eptr_mk]
    simp only [ldH, cellH, hg]
    rw [← hw, List.getElem?_take, if_pos hk, List.getElem?_drop] at hu
    simpa using hu

theorem rdL.lenle (h : rdL E H v xs F) : xs.length ≤ maxLen := by
  rcases h with ⟨a, cap, _, rfl, _⟩ | ⟨us, g, off, cap, cur, e, fr, F', _, _, _, _, h, _⟩
  · simp
  · exact h
theorem owL.lenle (h : owL E e H v xs F) : xs.length ≤ maxLen := by
  rcases h with ⟨_, rfl, _⟩ | ⟨us, g, cap, cur, F', _, _, _, r1, r2, _⟩
  · simp
  · omega
end lists

/-! ### What has changed -/

structure Chg (F : List Nat) (w w' : World) : Prop where
  os : w'.os = w.os
  tape : w'.tape = w.tape
  output : w'.output = w.output
  size : w.heap.size ≤ w'.heap.size
  block : ∀ k, k < w.heap.size → k ∉ F → w'.heap[k]? = w.heap[k]?

theorem Chg.below {F : List Nat} {w0 w w' : World} {B : Nat} (h : Below B w0 w) (c : Chg F w w') (hF : ∀ b ∈ F, B ≤ b) (hB : B ≤ w.heap.size) : Below B w0 w' :=
  h.trans ⟨c.os, c.tape, c.output, c.size, fun k hk => c.block k (by omega) fun hm => by have := hF k hm; omega⟩

theorem Ext.below {w0 w w' : World} {B : Nat} (h : Below B w0 w) (k : Ext w w') (hB : B ≤ w.heap.size) : Below B w0 w' := h.trans (Below.mono k hB)
theorem Ext.drew {w w' : World} (h : Ext w w') : Ext w w'.drew := ⟨h.os, h.tape, h.output, h.size, h.block⟩
theorem Ext.of_drew {w w' : World} (h : Ext w.drew w') : Ext w w' := ⟨h.os, h.tape, h.output, h.size, h.block⟩

/-- Owned memory of the call's own: all its blocks lie from B on and below U, each is met once. -/
def Fr {α : Type} (E : Stand α) (B U : Nat) (H : Array Obj) (v : Value) (x : α) : Prop := ∃ F, E H v x F ∧ F.Nodup ∧ ∀ b ∈ F, B ≤ b ∧ b < U
/-- What is read. -/
def Rd {α : Type} (E : Stand α) (H : Array Obj) (v : Value) (x : α) : Prop := ∃ F, E H v x F

section
variable {α : Type} {E : Stand α} {B U : Nat} {v : Value} {x : α} {w w' : World}

theorem Fr.ext (hE : Good E) (h : Fr E B U w.heap v x) (k : Ext w w') : Fr E B U w'.heap v x := by
  obtain ⟨F, h1, h2, h3⟩ := h
  exact ⟨F, hE.stable h1 fun b hb => k.heap (hE.lt h1 b hb), h2, h3⟩
theorem Fr.up (hE : Good E) {H : Array Obj} (h : Fr E B U H v x) : Fr E B H.size H v x := by
  obtain ⟨F, h1, h2, h3⟩ := h
  exact ⟨F, h1, h2, fun b hb => ⟨(h3 b hb).1, hE.lt h1 b hb⟩⟩
theorem Fr.low {H : Array Obj} {B' : Nat} (h : Fr E B U H v x) (hB : B' ≤ B) : Fr E B' U H v x := by
  obtain ⟨F, h1, h2, h3⟩ := h
  exact ⟨F, h1, h2, fun b hb => ⟨Nat.le_trans hB (h3 b hb).1, (h3 b hb).2⟩⟩
theorem Fr.mono {H : Array Obj} {U' : Nat} (h : Fr E B U H v x) (hU : U ≤ U') : Fr E B U' H v x := by
  obtain ⟨F, h1, h2, h3⟩ := h
  exact ⟨F, h1, h2, fun b hb => ⟨(h3 b hb).1, Nat.lt_of_lt_of_le (h3 b hb).2 hU⟩⟩
theorem Fr.chg (hE : Good E) {F : List Nat} (h : Fr E B U w.heap v x) (c : Chg F w w') (hF : ∀ b ∈ F, b < B ∨ U ≤ b) : Fr E B U w'.heap v x := by
  obtain ⟨G, h1, h2, h3⟩ := h
  refine ⟨G, hE.stable h1 fun b hb => c.block b (hE.lt h1 b hb) fun hm => ?_, h2, h3⟩
  have := h3 b hb
  have := hF b hm
  omega
theorem Rd.ext (hE : Good E) (h : Rd E w.heap v x) (k : Ext w w') : Rd E w'.heap v x := by
  obtain ⟨F, h1⟩ := h
  exact ⟨F, hE.stable h1 fun b hb => k.heap (hE.lt h1 b hb)⟩
end

section
variable {α : Type} {E : Stand α} {e : TypeId} {B U : Nat} {H : Array Obj} {v : Value} {xs : List α}
theorem Rd.lenle (h : Rd (rdL E) H v xs) : xs.length ≤ 9223372036854775807 := by
  obtain ⟨F, h⟩ := h
  have := rdL.lenle h
  simp only [maxLen] at this
  omega
theorem Fr.lenle (h : Fr (owL E e) B U H v xs) : xs.length ≤ 9223372036854775807 := by
  obtain ⟨F, h, _⟩ := h
  have := owL.lenle h
  simp only [maxLen] at this
  omega
theorem Rd.isSl (h : Rd (rdL E) H v xs) : isSl v xs.length := by obtain ⟨F, h⟩ := h; exact rdL.isSl h
theorem Rd.get (d : α) {k : Nat} (h : Rd (rdL E) H v xs) (hk : k < xs.length) : ∃ u, ldH H (eptr v k 1) = some u ∧ Rd E H u (xs.getD k d) := by
  obtain ⟨F, h⟩ := h
  obtain ⟨u, F1, h1, h2, _⟩ := rdL.get d h hk
  exact ⟨u, h1, F1, h2⟩
theorem Rd.getI {xs : List Int} {k : Nat} (h : Rd (rdL rI) H v xs) (hk : k < xs.length) : ldH H (eptr v k 1) = some (.int .i64 (xs.getD k 0)) ∧ -9223372036854775808 ≤ xs.getD k 0 ∧ xs.getD k 0 ≤ 9223372036854775807 := by
  obtain ⟨u, h1, F, h2, _, h3, h4⟩ := Rd.get (0 : Int) h hk
  rw [h1, h2]
  exact ⟨rfl, h3, h4⟩
theorem Fr.rd {E' : Stand α} (hi : ∀ {H v x F}, E H v x F → E' H v x F) (h : Fr (owL E e) B U H v xs) : Rd (rdL E') H v xs := by
  obtain ⟨F, h, _⟩ := h
  exact ⟨F, h.rd hi⟩
/-- Owned integers, read. -/
theorem Fr.rd1 {xs : List Int} (h : Fr (owL rI e) B U H v xs) : Rd (rdL rI) H v xs := h.rd id
/-- Owned rows of integers, read. -/
theorem Fr.rd2 {e' : TypeId} {xs : List (List Int)} (h : Fr (owL (owL rI e) e') B U H v xs) : Rd (rdL (rdL rI)) H v xs := h.rd fun h => h.rd id
theorem Fr.rd3 {e' e'' : TypeId} {xs : List (List (List Int))} (h : Fr (owL (owL (owL rI e) e') e'') B U H v xs) : Rd (rdL (rdL (rdL rI))) H v xs := h.rd fun h => h.rd fun h => h.rd id
theorem Fr.isSl (h : Fr (owL E e) B U H v xs) : isSl v xs.length := by obtain ⟨F, h, _⟩ := h; exact (h.rd id : rdL E H v xs F).isSl
end

theorem frNil {α : Type} {E : Stand α} {e : TypeId} (B U : Nat) (H : Array Obj) : Fr (owL E e) B U H (.slice none 0 0) [] := ⟨[], .inl ⟨rfl, rfl, rfl⟩, List.nodup_nil, fun c hc => (by cases hc)⟩
theorem rdNil {α : Type} {E : Stand α} (H : Array Obj) : Rd (rdL E) H (.slice none 0 0) [] := ⟨[], .inl ⟨none, 0, rfl, rfl, rfl⟩⟩
theorem Rd.getU {H : Array Obj} {v : Value} {xs : List UInt8} {k : Nat} (h : Rd (rdL rU) H v xs) (hk : k < xs.length) : ldH H (eptr v k 1) = some (.int .u8 ((xs.getD k 0).toNat : Int)) ∧ 0 ≤ k := by
  obtain ⟨u, h1, F, h2, _⟩ := Rd.get (0 : UInt8) h hk
  rw [h1, h2]
  exact ⟨rfl, Nat.zero_le _⟩
theorem ret_int {a b : Int} (h : a = b) : Ending.returned (.int .i64 a) = .returned (.int .i64 b) := by rw [h]
theorem ret_bool {a b : Bool} (h : a = b) : Ending.returned (.bool a) = .returned (.bool b) := by rw [h]

theorem good_u : Good (rdL rU) := good_rdL good_rU
theorem g1 : Good (rdL rI) := good_rdL good_rI
theorem g2 : Good (rdL (rdL rI)) := good_rdL g1
theorem g3 : Good (rdL (rdL (rdL rI))) := good_rdL g2
theorem o1 {e : TypeId} : Good (owL rI e) := good_owL good_rI
theorem o2 {e e' : TypeId} : Good (owL (owL rI e) e') := good_owL o1
theorem o3 {e e' e'' : TypeId} : Good (owL (owL (owL rI e) e') e'') := good_owL o2

end Go.Proofs.Ytjgnlnlngcjfcaa
