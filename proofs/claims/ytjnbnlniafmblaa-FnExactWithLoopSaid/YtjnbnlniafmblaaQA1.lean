/- FwA, FwB, FwC, FwD, FwE, FwF, FwG, FwH, FwK, FwM, FwP, FwQ, FwI, FwR, Ma, Mb, Na, Mc, FwS, Nb, Nc, FwT, FwU, FwV, Ne, Nf, Ng, Ni, FwW, FwX, Nj, FwY, Ib, FwZ: texts of this claim, joined; what the claim does not come to is left out. -/
import Derived.Test.YtjnbnlniafmblaaProg
import Derived.Still
import Derived.Below
import Derived.WalkKit
import Derived.IntWalk
import Derived.Laws.CopyRow
import Derived.ProofKit
import Derived.Carry
import Derived.Deep.Matrix
import Derived.Deep.Strs
set_option linter.unusedVariables false
set_option linter.unusedSimpArgs false
namespace Go.Proofs.Ytjnbnlniafmblaa
open Go Go.RowKit
/-- What existed stays asq it was; the streams too. -/
def Ext (w w' : World) : Prop := Below w.heap.size w w'
theorem Ext.refl (w : World) : Ext w w := Below.refl _ _
theorem Ext.trans {a b c : World} (h : Ext a b) (k : Ext b c) : Ext a c := Below.trans h (k.mono h.size)
section
variable {P : Program} {ops : Array Oper} {md : Region.Mode}
/-- What a run of an operation yields when it leaves the world asq it is: a value, nothing, or the value of a call. -/
def YR (P : Program) (r : Result Next) (w : World) (v : Value) : Prop :=
  r = .ok (.value v) w ∨ (r = .ok .skip w ∧ v = undef) ∨ ∃ f args, r = .ok (.enter f args) w ∧ Calls P f args w (fun e w' => e = .returned v ∧ w' = w)
/-- In state a, in world w, the operation yields v and leaves the world. -/
def YA (P : Program) (o : Oper) (a : Act) (w : World) (v : Value) : Prop := YR P ((execOp a.eval o).run P w) w v
/-- A frame that ends when it is come back to, and keeps what it is told. -/
def endFrame (P : Program) : Frame := { fn := P.funcs.size, tmps := #[undef], todo := [.inRegion #[⟨some 0, .move (.tmp 0), 0, "", #[], none⟩] [0]], defers := [], mode := .returning, kind := .report }
theorem endFrame_step (P : Program) (v : Value) (w : World) : ∃ o, step P (lone ((endFrame P).finish v) [] w) = .ended o w := by
  have hf : P.funcs[P.funcs.size]? = none := by simp
  refine ⟨.stuck "report: Error or String returned no string" "", step_lone_ended ?_⟩
  simp [stepG, unwind, doReturn, endFrame, Frame.finish]
theorem runN_next_end {P : Program} {n k : Nat} {m x y : Machine} {o : Outcome} {w : World} (hx : runN P n m = .next x) (hy : runN P (n + k) m = .next y) (he : step P x = .ended o w) : x = y := by
  rw [runN_add, hx] at hy
  cases k with
  | zero => simp only [runN] at hy; injection hy
  | succ k => simp only [runN, he] at hy; cases hy
theorem calls_unique {P : Program} {f : FuncId} {args : Array Value} {w : World} {v u : Value} (h : Calls P f args w (fun e w' => e = .returned v ∧ w' = w)) (k : Calls P f args w (fun e w' => e = .returned u ∧ w' = w)) : v = u := by
  have go : ∀ {x : Value}, Calls P f args w (fun e w' => e = .returned x ∧ w' = w) → Steps P (lone (Frame.enter P f args .normal) [endFrame P] w) (lone ((endFrame P).finish x) [] w) := by
    intro x hx
    obtain ⟨e, w', fr, ⟨rfl, rfl⟩, hs, _, hl⟩ := hx [endFrame P]
    exact Steps.trans hs (Steps.one (step_leave_returned hl))
  obtain ⟨n, hn⟩ := go h
  obtain ⟨m, hm⟩ := go k
  obtain ⟨o1, e1⟩ := endFrame_step P v w
  obtain ⟨o2, e2⟩ := endFrame_step P u w
  have he : lone ((endFrame P).finish v) [] w = lone ((endFrame P).finish u) [] w := by
    rcases Nat.le_total n m with hle | hle
    · obtain ⟨k, rfl⟩ := Nat.le.dest hle
      exact runN_next_end hn hm e1
    · obtain ⟨k, rfl⟩ := Nat.le.dest hle
      exact (runN_next_end hm hn e2).symm
  simpa [lone, endFrame, Frame.finish] using he
theorem YA.unique {o : Oper} {a : Act} {w : World} {v u : Value} (h : YA P o a w v) (k : YA P o a w u) : v = u := by
  unfold YA at h k
  rcases h with h | ⟨h, rfl⟩ | ⟨f, args, h, hc⟩ <;> rcases k with k | ⟨k, rfl⟩ | ⟨f', args', k, kc⟩ <;> rw [h] at k
  · injection k with k _; injection k
  · injection k with k _; cases k
  · injection k with k _; cases k
  · injection k with k _; cases k
  · injection k with k _; cases k
  · injection k with k _; cases k
  · injection k with k _; cases k
  · injection k with k _
    injection k with k1 k2
    subst k1; subst k2
    exact calls_unique hc kc
/-- The end of a region: only the normal one. -/
def NQ (Q : Act → World → Prop) : Exit → Act → World → Prop
  | .normal, a, w => Q a w
  | _, _, _ => False
/-- The class of worlds in which a reading operation of a kind must yield its value: 0 any, 1 those that extend the region's first world, 2 those that extend the present one. -/
def Cl (w0 w : World) : Nat → World → Prop
  | 0, _ => True
  | 1, w' => Ext w0 w'
  | _, w' => Ext w w'
/-- One operation with its kind: 0, 1, 2: reads; 3: makes memory alone; 4: anything. -/
def OneOp (P : Program) (w0 : World) (o : Oper) (k : Nat) (a : Act) (w : World) (K : Act → World → Prop) : Prop :=
  if k ≤ 2 then ∃ v, (∀ w', Cl w0 w k w' → YA P o a w' v) ∧ K (a.put o.dst v) w
  else if k = 3 then o.wp P a w (fun a' w' => Ext w w' ∧ K a' w') (NQ fun _ _ => False)
  else o.wp P a w K (NQ fun _ _ => False)
/-- The lexical walk. -/
def LW (P : Program) (ops : Array Oper) (w0 : World) (Q : Act → World → Prop) : List Oper → List Nat → Act → World → Prop
  | [], _, a, w => Q a w
  | _ :: _, [], _, _ => False
  | o :: os, k :: ks, a, w =>
    if Region.wanted o (yielded ops a.tmps) = true then OneOp P w0 o k a w (LW P ops w0 Q os ks) else LW P ops w0 Q os ks (a.put o.dst undef) w
theorem OneOp.mono {w0 : World} {o : Oper} {k : Nat} {a : Act} {w : World} {K K' : Act → World → Prop} (h : ∀ a w, K a w → K' a w)
    (hh : OneOp P w0 o k a w K) : OneOp P w0 o k a w K' := by
  unfold OneOp at *
  split
  · rename_i hk
    rw [if_pos hk] at hh
    obtain ⟨v, h1, h2⟩ := hh
    exact ⟨v, h1, h _ _ h2⟩
  · rename_i hk
    rw [if_neg hk] at hh
    split
    · rename_i h3
      rw [if_pos h3] at hh
      exact Oper.wp_mono (fun a w hx => ⟨hx.1, h _ _ hx.2⟩) hh
    · rename_i h3
      rw [if_neg h3] at hh
      exact Oper.wp_mono h hh
/-- A wp with no other end has an outcome. -/
theorem wp_some {o : Oper} {a : Act} {w : World} {K : Act → World → Prop} (h : o.wp P a w K (NQ fun _ _ => False)) : ∃ v w', K (a.put o.dst v) w' ∨ ∃ d, K ({ a with defers := d :: a.defers }.put o.dst v) w' := by
  unfold Oper.wp at h
  generalize (execOp a.eval o).run P w = r at h
  cases r with
  | ok n w' =>
    cases n <;> simp only [Oper.upon] at h
    case value v => exact ⟨v, w', .inl h⟩
    case skip => exact ⟨undef, w', .inl h⟩
    case defer d => exact ⟨undef, w', .inr ⟨d, h⟩⟩
    case enter f args =>
      obtain ⟨e, w1, fr, hR, _⟩ := h []
      cases e with
      | returned v => exact ⟨v, w1, .inl hR⟩
      | panicked c => exact hR.elim
      | outgrown => obtain ⟨a1, w2, hf⟩ := hR; exact hf.elim
    case row row args =>
      obtain ⟨v, w1, hR, _⟩ := h default []
      exact ⟨v, w1, .inl hR⟩
  | halt x w' => cases x <;> simp only [Oper.upon] at h; exact h.elim
/-- The state of another temporary does not matter to an operation. -/
theorem wp_apart {o : Oper} (hs : ∀ cs b, o.op ≠ .select cs b) {a : Act} {d : Option Tmp} {v : Value} {w : World} {K : Act → World → Prop} {Q : Act → World → Prop}
    (h1 : ∀ x, d = some x → x ∉ o.looksAt ops) (h2 : ∀ x, d = some x → o.dst ≠ some x)
    (h : o.wp P (a.put d v) w K (NQ Q)) : o.wp P a w (fun a' w' => K (a'.put d v) w') (NQ fun _ _ => False) := by
  unfold Oper.wp at *
  rw [execOp_put (ops := ops) o hs a d v h1] at h
  generalize (execOp a.eval o).run P w = r at *
  have hc : ∀ u, (a.put d v).put o.dst u = (a.put o.dst u).put d v := fun u => Act.put_comm a v u h2
  cases r with
  | ok n w' =>
    cases n <;> simp only [Oper.upon] at h ⊢
    case value u => rw [← hc]; exact h
    case skip => rw [← hc]; exact h
    case defer dd =>
      rw [Act.put_defers] at h
      have := Act.put_comm ({ a with defers := dd :: a.defers } : Act) v undef h2
      rw [← this]; exact h
    case enter f args =>
      refine Calls.mono h (fun e w'' he => ?_)
      cases e with
      | returned u => show K _ _; rw [← hc]; exact he
      | panicked c => exact he
      | outgrown => obtain ⟨_, _, hf⟩ := he; exact hf.elim
    case row row args => exact Rows.mono h (fun u w'' he => by show K _ _; rw [← hc]; exact he)
  | halt x w' => cases x <;> simp only [Oper.upon] at h ⊢; exact h
theorem wp_unapart {o : Oper} (hs : ∀ cs b, o.op ≠ .select cs b) {a : Act} {d : Option Tmp} {v : Value} {w : World} {K : Act → World → Prop}
    (h1 : ∀ x, d = some x → x ∉ o.looksAt ops) (h2 : ∀ x, d = some x → o.dst ≠ some x)
    (h : o.wp P a w (fun a' w' => K (a'.put d v) w') (NQ fun _ _ => False)) : o.wp P (a.put d v) w K (NQ fun _ _ => False) := by
  unfold Oper.wp at *
  rw [execOp_put (ops := ops) o hs a d v h1]
  generalize (execOp a.eval o).run P w = r at *
  have hc : ∀ u, (a.put d v).put o.dst u = (a.put o.dst u).put d v := fun u => Act.put_comm a v u h2
  cases r with
  | ok n w' =>
    cases n <;> simp only [Oper.upon] at h ⊢
    case value u => rw [hc]; exact h
    case skip => rw [hc]; exact h
    case defer dd =>
      rw [Act.put_defers]
      have := Act.put_comm ({ a with defers := dd :: a.defers } : Act) v undef h2
      rw [this]; exact h
    case enter f args =>
      refine Calls.mono h (fun e w'' he => ?_)
      cases e with
      | returned u => show K _ _; rw [hc]; exact he
      | panicked c => exact he
      | outgrown => obtain ⟨_, _, hf⟩ := he; exact hf.elim
    case row row args => exact Rows.mono h (fun u w'' he => by show K _ _; rw [hc]; exact he)
  | halt x w' => cases x <;> simp only [Oper.upon] at h ⊢; exact h
theorem YA.apart {o : Oper} (hs : ∀ cs b, o.op ≠ .select cs b) {a : Act} {d : Option Tmp} {v u : Value} {w : World}
    (h1 : ∀ x, d = some x → x ∉ o.looksAt ops) : YA P o (a.put d v) w u ↔ YA P o a w u := by
  unfold YA
  rw [execOp_put (ops := ops) o hs a d v h1]
variable (P ops) in
/-- The walk over a list of places of the region, the kinds by 'kd'. -/
def LI (kd : Nat → Nat) (w0 : World) (Q : Act → World → Prop) : List Nat → Act → World → Prop
  | [], a, w => Q a w
  | i :: l, a, w =>
    match ops[i]? with
    | none => False
    | some o => if Region.wanted o (yielded ops a.tmps) = true then OneOp P w0 o (kd i) a w (LI kd w0 Q l) else LI kd w0 Q l (a.put o.dst undef) w
/-- Two places that may come in either order: their kinds let them. i is the earlier one in the text. -/
def okPair (ki kj : Nat) : Bool :=
  (ki ≤ 2 && kj ≤ 2) || (ki ≤ 2 && kj == 3) || (ki == 0 && kj == 4) || (ki == 3 && kj ≤ 1) || (ki == 4 && kj == 0)
/-- What is asked of each pair of places: the later one waits for the earlier one, or they are apart and their kinds let them. -/
def Free (ops : Array Oper) (kd : Nat → Nat) (bs : Nat → Nat) : Prop :=
  ∀ i j oi oj, i < j → ops[i]? = some oi → ops[j]? = some oj → (bs j).testBit i = true ∨ (oi.apart ops oj = true ∧ okPair (kd i) (kd j) = true)
/-- 'bs' tells some of what each place waits for. -/
def Sound (md : Region.Mode) (ops : Array Oper) (bs : Nat → Nat) : Prop :=
  ∀ j oj, ops[j]? = some oj → ∀ i, (bs j).testBit i = true → ∃ e ∈ oj.after, Region.binds md e = true ∧ (i = e.on ∨ (bs e.on).testBit i = true)
/-- The present world extends the first one asq long asq a place of kind 1 is to come. -/
def Inv1 (kd : Nat → Nat) (w0 w : World) (l : List Nat) : Prop := (∃ j ∈ l, kd j = 1) → Ext w0 w
/-- No place of kind 1 stands behind one of kind 4. -/
def No14 (kd : Nat → Nat) (l : List Nat) : Prop := ∀ l1 i l2, l = l1 ++ i :: l2 → 4 ≤ kd i → ∀ j ∈ l2, kd j ≠ 1
theorem No14.erase {kd : Nat → Nat} {l1 l2 : List Nat} {i : Nat} (h : No14 kd (l1 ++ i :: l2)) : No14 kd (l1 ++ l2) := by
  intro m1 j m2 e hj x hx
  by_cases hlt : m1.length < l1.length
  · have e1 : l1 = m1 ++ j :: (m2.take (l1.length - m1.length - 1)) := by
      have := congrArg (List.take l1.length) e
      rw [List.take_left, List.take_append, List.take_of_length_le (by omega)] at this
      rw [this]
      congr 1
      obtain ⟨n, hn⟩ : ∃ n, l1.length - m1.length = n + 1 := ⟨l1.length - m1.length - 1, by omega⟩
      rw [hn]; simp
    have e2 : l2 = m2.drop (l1.length - m1.length - 1) := by
      have := congrArg (List.drop l1.length) e
      rw [List.drop_left, List.drop_append] at this
      rw [this, List.drop_of_length_le (by omega), List.nil_append]
      obtain ⟨n, hn⟩ : ∃ n, l1.length - m1.length = n + 1 := ⟨l1.length - m1.length - 1, by omega⟩
      rw [hn]; simp
    refine h m1 j (m2.take (l1.length - m1.length - 1) ++ i :: l2) (by rw [e1]; simp [List.append_assoc]) hj x ?_
    have hx' : x ∈ m2.take (l1.length - m1.length - 1) ++ m2.drop (l1.length - m1.length - 1) := by rw [List.take_append_drop]; exact hx
    rw [← e2] at hx'
    simp only [List.mem_append, List.mem_cons] at hx' ⊢
    rcases hx' with hx' | hx'
    · exact .inl hx'
    · exact .inr (.inr hx')
  · have e2 : l2 = m1.drop l1.length ++ j :: m2 := by
      have := congrArg (List.drop l1.length) e
      rw [List.drop_left, List.drop_append_of_le_length (by omega)] at this
      exact this
    exact h (l1 ++ i :: m1.drop l1.length) j m2 (by rw [e2]; simp) hj x hx
/-- What the operation leaves in its temporary, in every world of its class. -/
def Yv (P : Program) (ops : Array Oper) (w0 : World) (k : Nat) (o : Oper) (a : Act) (w : World) (v : Value) : Prop :=
  (Region.wanted o (yielded ops a.tmps) = true ∧ ∀ w', Cl w0 w k w' → YA P o a w' v) ∨ (Region.wanted o (yielded ops a.tmps) = false ∧ v = undef)
theorem Cl.self {w0 w : World} {k : Nat} (h : k = 1 → Ext w0 w) : Cl w0 w k w := by
  match k, h with
  | 0, _ => exact trivial
  | 1, h => exact h rfl
  | _ + 2, _ => exact Ext.refl w
theorem Yv.unique {w0 w : World} {k : Nat} {o : Oper} {a : Act} {v u : Value} (hk : k = 1 → Ext w0 w) (h : Yv P ops w0 k o a w v) (h' : Yv P ops w0 k o a w u) : v = u := by
  rcases h with ⟨h1, h2⟩ | ⟨h1, h2⟩ <;> rcases h' with ⟨g1, g2⟩ | ⟨g1, g2⟩
  · exact (h2 w (Cl.self hk)).unique (g2 w (Cl.self hk))
  · rw [h1] at g1; cases g1
  · rw [h1] at g1; cases g1
  · rw [h2, g2]
theorem Yv.apart {w0 w : World} {k : Nat} {o : Oper} (hs : ∀ cs b, o.op ≠ .select cs b) {a : Act} {d : Option Tmp} {u v : Value}
    (h1 : ∀ x, d = some x → x ∉ o.looksAt ops) : Yv P ops w0 k o (a.put d u) w v ↔ Yv P ops w0 k o a w v := by
  unfold Yv
  rw [wanted_put (ops := ops) o a d u h1]
  simp only [YA.apart (ops := ops) (P := P) hs h1]
theorem Yv.defers {w0 w : World} {k : Nat} {o : Oper} {a : Act} {l : List Deferred} {v : Value} : Yv P ops w0 k o { a with defers := l } w v ↔ Yv P ops w0 k o a w v := by
  have he : Act.eval { a with defers := l } = Act.eval a := funext fun x => by cases x <;> rfl
  unfold Yv YA
  rw [he]
/-- The outcome of a wp has its shape. -/
def Shape (a : Act) (d : Option Tmp) (a' : Act) : Prop := ∃ u, a' = a.put d u ∨ ∃ x, a' = ({ a with defers := x :: a.defers } : Act).put d u
theorem wp_shape {o : Oper} {a : Act} {w : World} {K : Act → World → Prop} {Q : Exit → Act → World → Prop} (h : o.wp P a w K Q) :
    o.wp P a w (fun a' w' => K a' w' ∧ Shape a o.dst a') Q := by
  unfold Oper.wp at *
  generalize (execOp a.eval o).run P w = r at *
  cases r with
  | ok n w' =>
    cases n <;> simp only [Oper.upon] at h ⊢
    case value u => exact ⟨h, u, .inl rfl⟩
    case skip => exact ⟨h, undef, .inl rfl⟩
    case defer dd => exact ⟨h, undef, .inr ⟨dd, rfl⟩⟩
    case enter f args =>
      refine Calls.mono h (fun e w'' he => ?_)
      cases e with
      | returned u => exact ⟨he, u, .inl rfl⟩
      | panicked c => exact he
      | outgrown => exact he
    case row row args => exact Rows.mono h (fun u w'' he => ⟨he, u, .inl rfl⟩)
  | halt x w' => cases x <;> simp only [Oper.upon] at h ⊢; exact h
theorem Yv.shape {w0 w : World} {k : Nat} {o : Oper} (hs : ∀ cs b, o.op ≠ .select cs b) {a a' : Act} {d : Option Tmp} {v : Value}
    (h1 : ∀ x, d = some x → x ∉ o.looksAt ops) (h : Shape a d a') : Yv P ops w0 k o a' w v ↔ Yv P ops w0 k o a w v := by
  obtain ⟨u, rfl | ⟨x, rfl⟩⟩ := h
  · exact Yv.apart hs h1
  · rw [Yv.apart hs h1]; exact Yv.defers
theorem wanted_shape {o : Oper} {a a' : Act} {d : Option Tmp} (h1 : ∀ x, d = some x → x ∉ o.looksAt ops) (h : Shape a d a') :
    Region.wanted o (yielded ops a'.tmps) = Region.wanted o (yielded ops a.tmps) := by
  obtain ⟨u, rfl | ⟨x, rfl⟩⟩ := h
  · exact wanted_put o a d u h1
  · rw [wanted_put o _ d u h1]
section main
variable {kd bs : Nat → Nat} {w0 : World} {Q : Act → World → Prop}
theorem ok3 {ki kj : Nat} (h : okPair ki kj = true) (hk : ki = 3) : kj ≤ 1 := by simp [okPair] at h; omega
theorem ok4 {ki kj : Nat} (h : okPair ki kj = true) (hk : 4 ≤ ki) : kj = 0 := by simp [okPair] at h; omega
theorem okj {ki kj : Nat} (h : okPair ki kj = true) (hk : 3 ≤ kj) : ki ≤ 2 ∧ (4 ≤ kj → ki = 0) := by simp [okPair] at h; omega
/-- An operation that reads may be taken out of the walk. -/
theorem takeQ (hsel : ∀ (j : Nat) (o : Oper) cs b, ops[j]? = some o → o.op ≠ .select cs b) {j : Nat} {oj : Oper} (hj : ops[j]? = some oj) (hk : kd j ≤ 2) :
    ∀ (l1 l2 : List Nat) (a : Act) (w : World), (∀ i ∈ l1, ∀ oi, ops[i]? = some oi → oi.apart ops oj = true ∧ okPair (kd i) (kd j) = true) → (kd j = 1 → Ext w0 w) →
      LI P ops kd w0 Q (l1 ++ j :: l2) a w → ∃ v, Yv P ops w0 (kd j) oj a w v ∧ LI P ops kd w0 Q (l1 ++ l2) (a.put oj.dst v) w
  | [], l2, a, w, _, _, h => by
    simp only [List.nil_append, LI, hj] at h ⊢
    split at h
    · rename_i hw
      unfold OneOp at h
      rw [if_pos hk] at h
      obtain ⟨v, h1, h2⟩ := h
      exact ⟨v, .inl ⟨hw, h1⟩, h2⟩
    · rename_i hw
      exact ⟨undef, .inr ⟨by simpa using hw, rfl⟩, h⟩
  | i :: l1, l2, a, w, hl, hx, h => by
    have hi := hl i (List.mem_cons_self ..)
    have hl' : ∀ x ∈ l1, ∀ ox, ops[x]? = some ox → ox.apart ops oj = true ∧ okPair (kd x) (kd j) = true := fun x hx => hl x (List.mem_cons_of_mem _ hx)
    simp only [List.cons_append, LI] at h ⊢
    cases hoi : ops[i]? with
    | none => rw [hoi] at h; exact h.elim
    | some oi =>
      rw [hoi] at h
      simp only at h ⊢
      obtain ⟨hap, hok⟩ := hi oi hoi
      obtain ⟨p1, p2, p3⟩ := Oper.apart_spec hap
      have p2' : ∀ d, oj.dst = some d → oi.dst ≠ some d := fun d hd he => p2 d he hd
      have si := fun cs b => hsel i oi cs b hoi
      have sj := fun cs b => hsel j oj cs b hj
      by_cases hw : Region.wanted oi (yielded ops a.tmps) = true
      · rw [if_pos hw] at h
        unfold OneOp at h
        by_cases hki : kd i ≤ 2
        · rw [if_pos hki] at h
          obtain ⟨vi, hy, h⟩ := h
          obtain ⟨v, h1, h2⟩ := takeQ hsel hj hk l1 l2 (a.put oi.dst vi) w hl' hx h
          refine ⟨v, (Yv.apart sj p1).1 h1, ?_⟩
          rw [wanted_put oi a oj.dst v p3, if_pos hw]
          unfold OneOp
          rw [if_pos hki]
          refine ⟨vi, fun w' hc => (YA.apart (ops := ops) si p3).2 (hy w' hc), ?_⟩
          rw [Act.put_comm a v vi p2']
          exact h2
        · rw [if_neg hki] at h
          have gen : ∀ (G : World → Prop), (∀ w', G w' → kd j = 1 → Ext w0 w') → (kd j = 2 → False) →
              oi.wp P a w (fun a' w' => G w' ∧ LI P ops kd w0 Q (l1 ++ j :: l2) a' w') (NQ fun _ _ => False) →
              ∃ v, Yv P ops w0 (kd j) oj a w v ∧ oi.wp P (a.put oj.dst v) w (fun a' w' => G w' ∧ LI P ops kd w0 Q (l1 ++ l2) a' w') (NQ fun _ _ => False) := by
            intro G hG hn2 hh
            have hcl : ∀ w1 w2, Cl w0 w1 (kd j) w2 → Cl w0 w (kd j) w2 := by
              intro w1 w2 hc
              match hkj : kd j, hk, hn2 with
              | 0, _, _ => trivial
              | 1, _, _ => rw [hkj] at hc; exact hc
              | 2, _, hn => exact (hn rfl).elim
              | _ + 3, hle, _ => omega
            have hcl' : ∀ w1 w2, Cl w0 w (kd j) w2 → Cl w0 w1 (kd j) w2 := by
              intro w1 w2 hc
              match hkj : kd j, hk, hn2 with
              | 0, _, _ => trivial
              | 1, _, _ => rw [hkj] at hc; exact hc
              | 2, _, hn => exact (hn rfl).elim
              | _ + 3, hle, _ => omega
            have hs := wp_shape hh
            have step : ∀ a' w', ((G w' ∧ LI P ops kd w0 Q (l1 ++ j :: l2) a' w') ∧ Shape a oi.dst a') →
                ∃ v, Yv P ops w0 (kd j) oj a w v ∧ LI P ops kd w0 Q (l1 ++ l2) (a'.put oj.dst v) w' := by
              rintro a' w' ⟨⟨hg, hL⟩, hsh⟩
              obtain ⟨v, h1, h2⟩ := takeQ hsel hj hk l1 l2 a' w' hl' (hG w' hg) hL
              have h1' := (Yv.shape sj p1 hsh).1 h1
              refine ⟨v, ?_, h2⟩
              rcases h1' with ⟨q1, q2⟩ | ⟨q1, q2⟩
              · exact .inl ⟨q1, fun w2 hc => q2 w2 (hcl' w' w2 hc)⟩
              · exact .inr ⟨q1, q2⟩
            obtain ⟨v, hv⟩ : ∃ v, Yv P ops w0 (kd j) oj a w v := by
              obtain ⟨u, w', hK | ⟨d, hK⟩⟩ := wp_some hs
              · obtain ⟨v, h1, _⟩ := step _ _ hK; exact ⟨v, h1⟩
              · obtain ⟨v, h1, _⟩ := step _ _ hK; exact ⟨v, h1⟩
            refine ⟨v, hv, wp_unapart (ops := ops) si p3 p2' ?_⟩
            refine Oper.wp_mono (fun a' w' hK => ?_) hs
            obtain ⟨v', h1, h2⟩ := step a' w' hK
            have : v' = v := h1.unique hx hv
            subst this
            exact ⟨hK.1.1, h2⟩
          by_cases h3 : kd i = 3
          · rw [if_pos h3] at h
            have hj1 := ok3 hok h3
            obtain ⟨v, hv, hwp⟩ := gen (fun w' => Ext w w') (fun w' hg h1 => (hx h1).trans hg) (fun h2 => by omega) h
            refine ⟨v, hv, ?_⟩
            rw [wanted_put oi a oj.dst v p3, if_pos hw]
            unfold OneOp
            rw [if_neg hki, if_pos h3]
            exact hwp
          · rw [if_neg h3] at h
            have hj0 := ok4 hok (by omega)
            obtain ⟨v, hv, hwp⟩ := gen (fun _ => True) (fun w' _ h1 => by omega) (fun h2 => by omega) (Oper.wp_mono (fun a w hh => ⟨trivial, hh⟩) h)
            refine ⟨v, hv, ?_⟩
            rw [wanted_put oi a oj.dst v p3, if_pos hw]
            unfold OneOp
            rw [if_neg hki, if_neg h3]
            exact Oper.wp_mono (fun a w hh => hh.2) hwp
      · rw [if_neg hw] at h
        obtain ⟨v, h1, h2⟩ := takeQ hsel hj hk l1 l2 (a.put oi.dst undef) w hl' hx h
        refine ⟨v, (Yv.apart sj p1).1 h1, ?_⟩
        rw [wanted_put oi a oj.dst v p3, if_neg hw, Act.put_comm a v undef p2']
        exact h2
/-- An operation that makes or writes memory may be brought to the front of those that need not come before it. -/
theorem takeR (hsel : ∀ (j : Nat) (o : Oper) cs b, ops[j]? = some o → o.op ≠ .select cs b) {j : Nat} {oj : Oper} (hj : ops[j]? = some oj) (hk : 3 ≤ kd j) :
    ∀ (l1 l2 : List Nat) (a : Act) (w : World), (∀ i ∈ l1, ∀ oi, ops[i]? = some oi → oi.apart ops oj = true ∧ okPair (kd i) (kd j) = true) → LI P ops kd w0 Q (l1 ++ j :: l2) a w →
      (Region.wanted oj (yielded ops a.tmps) = true → oj.wp P a w (fun a' w' => (kd j = 3 → Ext w w') ∧ LI P ops kd w0 Q (l1 ++ l2) a' w') (NQ fun _ _ => False)) ∧
      (Region.wanted oj (yielded ops a.tmps) = false → LI P ops kd w0 Q (l1 ++ l2) (a.put oj.dst undef) w)
  | [], l2, a, w, _, h => by
    simp only [List.nil_append, LI, hj] at h ⊢
    refine ⟨fun hw => ?_, fun hw => ?_⟩
    · rw [if_pos hw] at h
      unfold OneOp at h
      rw [if_neg (by omega)] at h
      split at h
      · exact Oper.wp_mono (fun _ _ hh => ⟨fun _ => hh.1, hh.2⟩) h
      · rename_i h3; exact Oper.wp_mono (fun _ _ hh => ⟨fun h' => (h3 h').elim, hh⟩) h
    · rw [if_neg (by simp [hw])] at h; exact h
  | i :: l1, l2, a, w, hl, h => by
    have hi := hl i (List.mem_cons_self ..)
    have hl' : ∀ x ∈ l1, ∀ ox, ops[x]? = some ox → ox.apart ops oj = true ∧ okPair (kd x) (kd j) = true := fun x hx => hl x (List.mem_cons_of_mem _ hx)
    simp only [List.cons_append, LI] at h ⊢
    cases hoi : ops[i]? with
    | none => rw [hoi] at h; exact h.elim
    | some oi =>
      rw [hoi] at h
      simp only at h ⊢
      obtain ⟨hap, hok⟩ := hi oi hoi
      obtain ⟨p1, p2, p3⟩ := Oper.apart_spec hap
      have p2' : ∀ d, oj.dst = some d → oi.dst ≠ some d := fun d hd he => p2 d he hd
      have si := fun cs b => hsel i oi cs b hoi
      have sj := fun cs b => hsel j oj cs b hj
      obtain ⟨hki, hk4⟩ := okj hok hk
      by_cases hw : Region.wanted oi (yielded ops a.tmps) = true
      · rw [if_pos hw] at h
        unfold OneOp at h
        rw [if_pos hki] at h
        obtain ⟨vi, hy, h⟩ := h
        obtain ⟨g1, g2⟩ := takeR hsel hj hk l1 l2 (a.put oi.dst vi) w hl' h
        rw [wanted_put oj a oi.dst vi p1] at g1 g2
        refine ⟨fun hwj => ?_, fun hwj => ?_⟩
        · have g := wp_apart (ops := ops) (Q := fun _ _ => False) sj p1 p2 (g1 hwj)
          refine Oper.wp_mono (fun a' w' hK => ?_) (wp_shape g)
          obtain ⟨⟨hE, hL⟩, hsh⟩ := hK
          refine ⟨hE, ?_⟩
          rw [wanted_shape p3 hsh, if_pos hw]
          unfold OneOp
          rw [if_pos hki]
          refine ⟨vi, fun w'' hc => ?_, hL⟩
          have hya : YA P oi a w'' vi := by
            refine hy w'' ?_
            match hki' : kd i, hki, hk4 with
            | 0, _, _ => trivial
            | 1, _, _ => rw [hki'] at hc; exact hc
            | 2, _, h4 => rw [hki'] at hc; exact (hE (by have : ¬ 4 ≤ kd j := (fun hh => by have := h4 hh; omega); omega)).trans hc
            | _ + 3, hle, _ => omega
          have he : ∀ b, YA P oi b w'' vi ↔ YR P ((execOp b.eval oi).run P w'') w'' vi := fun _ => Iff.rfl
          obtain ⟨u, rfl | ⟨x, rfl⟩⟩ := hsh
          · exact (YA.apart (ops := ops) si p3).2 hya
          · refine (YA.apart (ops := ops) si p3).2 ?_
            have hee : Act.eval { a with defers := x :: a.defers } = Act.eval a := funext fun y => by cases y <;> rfl
            rw [he, hee, ← he]; exact hya
        · rw [wanted_put oi a oj.dst undef p3, if_pos hw]
          unfold OneOp
          rw [if_pos hki]
          refine ⟨vi, fun w' hc => (YA.apart (ops := ops) si p3).2 (hy w' hc), ?_⟩
          rw [Act.put_comm a undef vi p2']
          exact g2 hwj
      · rw [if_neg hw] at h
        obtain ⟨g1, g2⟩ := takeR hsel hj hk l1 l2 (a.put oi.dst undef) w hl' h
        rw [wanted_put oj a oi.dst undef p1] at g1 g2
        refine ⟨fun hwj => ?_, fun hwj => ?_⟩
        · have g := wp_apart (ops := ops) (Q := fun _ _ => False) sj p1 p2 (g1 hwj)
          refine Oper.wp_mono (fun a' w' hK => ?_) (wp_shape g)
          obtain ⟨⟨hE, hL⟩, hsh⟩ := hK
          refine ⟨hE, ?_⟩
          rw [wanted_shape p3 hsh, if_neg hw]
          exact hL
        · rw [wanted_put oi a oj.dst undef p3, if_neg hw, Act.put_comm a undef undef p2']
          exact g2 hwj
end main
end
end Go.Proofs.Ytjnbnlniafmblaa
namespace Go.Proofs.Ytjnbnlniafmblaa
open Go Go.RowKit
section
variable {P : Program} {ops : Array Oper} {md : Region.Mode} {kd bs : Nat → Nat} {w0 : World} {Q : Act → World → Prop}
theorem wp_weak {o : Oper} {a : Act} {w : World} {K : Act → World → Prop} {Q' : Exit → Act → World → Prop} (h : o.wp P a w K (NQ fun _ _ => False)) : o.wp P a w K Q' := by
  unfold Oper.wp at *
  generalize (execOp a.eval o).run P w = r at *
  cases r with
  | ok n w' =>
    cases n <;> simp only [Oper.upon] at h ⊢ <;> try exact h
    case enter f args =>
      refine Calls.mono h (fun e w'' he => ?_)
      cases e with
      | returned u => exact he
      | panicked c => exact he.elim
      | outgrown => obtain ⟨_, _, hf⟩ := he; exact hf.elim
  | halt x w' => cases x <;> simp only [Oper.upon] at h ⊢; exact h.elim
theorem wp_of_YA {o : Oper} {a : Act} {w : World} {v : Value} {K : Act → World → Prop} {Q' : Exit → Act → World → Prop} (h : YA P o a w v) (hK : K (a.put o.dst v) w) : o.wp P a w K Q' := by
  unfold Oper.wp
  unfold YA at h
  rcases h with h | ⟨h, rfl⟩ | ⟨f, args, h, hc⟩ <;> rw [h]
  · exact hK
  · exact hK
  · exact Calls.mono hc fun e w' he => by
      obtain ⟨rfl, rfl⟩ := he
      exact hK
/-- All places that wait are listed before. -/
def Closed (bs : Nat → Nat) (listed : Array Bool) : Prop := ∀ i, listed.getD i false = true → ∀ j, (bs i).testBit j = true → listed.getD j false = true
theorem getD_false_of_true {l : Array Bool} {i : Nat} (h : l.getD i true = false) : l.getD i false = false := by
  by_cases hi : i < l.size
  · simpa [hi] using h
  · simp [hi] at h
/-- x stands before y in the list: y waits for x, or they are apart and their kinds let them; and x does not wait for y. -/
def PairOK (md : Region.Mode) (ops : Array Oper) (kd bs : Nat → Nat) (x y : Nat) : Prop :=
  (∀ ox oy, ops[x]? = some ox → ops[y]? = some oy → (bs y).testBit x = true ∨ (ox.apart ops oy = true ∧ okPair (kd x) (kd y) = true)) ∧
  (∀ ox, ops[x]? = some ox → ∀ e ∈ ox.after, Region.binds md e = true → e.on ≠ y)
section lists
variable {l1 l2 : List Nat} {i : Nat} {listed : Array Bool}
theorem head_ready (hz : listed.size = ops.size) {l : List Nat} (hm : ∀ x, x ∈ i :: l ↔ listed.getD x true = false) (hself : ∀ x ox, ops[x]? = some ox → ∀ e ∈ ox.after, Region.binds md e = true → e.on < x)
    (hs : ∀ y ∈ l, ∀ ox, ops[i]? = some ox → ∀ e ∈ ox.after, Region.binds md e = true → e.on ≠ y) : i ∈ Region.ready md ops listed := by
  have hil := (hm i).1 (List.mem_cons_self ..)
  have hlt : i < ops.size := by
    rw [← hz]
    rcases Nat.lt_or_ge i listed.size with h' | h'
    · exact h'
    · simp [Array.getElem?_eq_none h'] at hil
  refine mem_ready.2 ⟨hil, ops[i], by simp [hlt], fun e he hb => ?_⟩
  have hlt' := hself i ops[i] (by simp [hlt]) e he hb
  have hnot : e.on ∉ i :: l := by
    intro hmem
    rcases List.mem_cons.1 hmem with hh | hh
    · omega
    · exact hs _ hh ops[i] (by simp [hlt]) e he hb rfl
  have : listed.getD e.on true = true := by
    cases hb' : listed.getD e.on true with
    | true => rfl
    | false => exact absurd ((hm e.on).2 hb') hnot
  have hlt2 : e.on < listed.size := by omega
  simpa [hlt2] using this
theorem mem_erase (hm : ∀ x, x ∈ l1 ++ i :: l2 ↔ listed.getD x true = false) (hnd : i ∉ l1 ++ l2) (hsz : i < listed.size) : ∀ x, x ∈ l1 ++ l2 ↔ (listed.setIfInBounds i true).getD x true = false := by
  intro x
  by_cases hxi : x = i
  · subst hxi
    constructor
    · exact fun hh => absurd hh hnd
    · intro hh; simp [hsz] at hh
  · rw [getD_set_ne true (Ne.symm hxi), ← hm x]
    simp only [List.mem_append, List.mem_cons]
    constructor
    · exact fun hh => hh.elim .inl fun y => .inr (.inr y)
    · exact fun hh => hh.elim .inl fun y => y.elim (fun z => absurd z hxi) .inr
theorem closed_set (hc : Closed bs listed) (hbits : ∀ j, (bs i).testBit j = true → listed.getD j false = true) : Closed bs (listed.setIfInBounds i true) := by
  intro x hx j hj
  by_cases hxi : x = i
  · subst hxi; exact getD_set_true (hbits j hj)
  · rw [getD_set_ne false (Ne.symm hxi)] at hx; exact getD_set_true (hc x hx j hj)
theorem bits_of_ready (hS : Sound md ops bs) (hc : Closed bs listed) {oi : Oper} (hoi : ops[i]? = some oi) (hall : ∀ e ∈ oi.after, Region.binds md e = true → listed.getD e.on false = true) : ∀ j, (bs i).testBit j = true → listed.getD j false = true := by
  intro j hj
  obtain ⟨e, he, hb, hh⟩ := hS i oi hoi j hj
  have hl := hall e he hb
  rcases hh with rfl | hh
  · exact hl
  · exact hc e.on hl j hh
/-- What stands before a ready place in the list is free of it. -/
theorem prefix_free {oi : Oper} (hoi : ops[i]? = some oi) (hp : ∀ x ∈ l1, (∀ ox oy, ops[x]? = some ox → ops[i]? = some oy → (bs i).testBit x = true ∨ (ox.apart ops oy = true ∧ okPair (kd x) (kd i) = true)))
    (hm : ∀ x ∈ l1, listed.getD x true = false) (hbits : ∀ j, (bs i).testBit j = true → listed.getD j false = true) : ∀ x ∈ l1, ∀ ox, ops[x]? = some ox → ox.apart ops oi = true ∧ okPair (kd x) (kd i) = true := by
  intro x hx ox hox
  rcases hp x hx ox oi hox hoi with hb | hb
  · have h1 := hbits x hb
    have h2 := getD_false_of_true (hm x hx)
    rw [h1] at h2; cases h2
  · exact hb
theorem lt_of_unlisted (h : listed.getD i true = false) : i < listed.size := by
  rcases Nat.lt_or_ge i listed.size with h' | h'
  · exact h'
  · simp [Array.getElem?_eq_none h'] at h
end lists
theorem any_of_LI (hsel : ∀ (j : Nat) (o : Oper) cs b, ops[j]? = some o → o.op ≠ .select cs b) (hS : Sound md ops bs)
    (hlex : ∀ j oj, ops[j]? = some oj → ∀ e ∈ oj.after, Region.binds md e = true → e.on < j) :
    ∀ (n : Nat) (l : List Nat) (listed : Array Bool) (a : Act) (w : World), l.length = n → l.Pairwise (PairOK md ops kd bs) → l.Nodup → listed.size = ops.size →
      (∀ i, i ∈ l ↔ listed.getD i true = false) → Closed bs listed → No14 kd l → Inv1 kd w0 w l → LI P ops kd w0 Q l a w → wpAny P md ops (NQ Q) n listed a w
  | 0, l, listed, a, w, hn, _, _, _, hm, _, _, _, h => by
    have hl : l = [] := List.eq_nil_of_length_eq_zero hn
    subst hl
    refine ⟨?_, h⟩
    cases hr : Region.ready md ops listed with
    | nil => rfl
    | cons x xs =>
      have := (mem_ready.1 (by rw [hr]; exact List.mem_cons_self .. : x ∈ Region.ready md ops listed)).1
      exact absurd ((hm x).2 this) (by simp)
  | n + 1, l, listed, a, w, hn, hs, hd, hz, hm, hc, h14, hi1, h => by
    refine ⟨fun h0 => ?_, fun i hi => ?_⟩
    · exfalso
      match l, hn with
      | i :: l, hn =>
        have hready := head_ready (md := md) hz hm hlex (fun y hy ox hox => ((List.pairwise_cons.1 hs).1 y hy).2 ox hox)
        rw [h0] at hready
        cases hready
    · obtain ⟨hun, oi, hoi, hall⟩ := mem_ready.1 hi
      obtain ⟨l1, l2, rfl⟩ := List.append_of_mem ((hm i).2 hun)
      have hbits := bits_of_ready hS hc hoi hall
      have hpi : ∀ x ∈ l1, PairOK md ops kd bs x i := fun x hx => (List.pairwise_append.1 hs).2.2 x hx i (List.mem_cons_self ..)
      have hfree := prefix_free (kd := kd) (l1 := l1) hoi (fun x hx => (hpi x hx).1) (fun x hx => (hm x).1 (List.mem_append_left _ hx)) hbits
      have hsz := lt_of_unlisted hun
      have hsub0 : (l1 ++ l2).Sublist (l1 ++ i :: l2) := List.Sublist.append_left (List.sublist_cons_self _ _) _
      have hnd : i ∉ l1 ++ l2 := by
        have h1 := List.nodup_append.1 hd
        intro hmem
        rcases List.mem_append.1 hmem with hh | hh
        · exact h1.2.2 i hh i (List.mem_cons_self ..) rfl
        · exact (List.nodup_cons.1 h1.2.1).1 hh
      have hn' : (l1 ++ l2).length = n := by simp at hn ⊢; omega
      have rec_ : ∀ a' w', Inv1 kd w0 w' (l1 ++ l2) → LI P ops kd w0 Q (l1 ++ l2) a' w' → wpAny P md ops (NQ Q) n (listed.setIfInBounds i true) a' w' := fun a' w' hi' hL =>
        any_of_LI hsel hS hlex n (l1 ++ l2) _ a' w' hn' (hs.sublist hsub0) (hd.sublist hsub0) (by simpa using hz) (mem_erase hm hnd hsz) (closed_set hc hbits) (No14.erase h14) hi' hL
      have hsub : Inv1 kd w0 w (l1 ++ l2) := fun ⟨j, hj, hk⟩ => hi1 ⟨j, hsub0.subset hj, hk⟩
      by_cases hk : kd i ≤ 2
      · obtain ⟨v, hv, hL⟩ := takeQ hsel hoi hk l1 l2 a w hfree (fun h1 => hi1 ⟨i, by simp, h1⟩) h
        unfold wpOp
        rw [hoi]
        rcases hv with ⟨hw, hy⟩ | ⟨hw, rfl⟩
        · simp only [hw, if_true]
          exact .inl (wp_of_YA (hy w (Cl.self fun h1 => hi1 ⟨i, by simp, h1⟩)) (rec_ _ _ hsub hL))
        · simp only [hw, Bool.false_eq_true, if_false]
          exact rec_ _ _ hsub hL
      · obtain ⟨g1, g2⟩ := takeR hsel hoi (by omega) l1 l2 a w hfree h
        unfold wpOp
        rw [hoi]
        by_cases hw : Region.wanted oi (yielded ops a.tmps) = true
        · simp only [hw, if_true]
          refine .inl (Oper.wp_mono (fun a' w' hK => rec_ a' w' ?_ hK.2) (wp_weak (g1 hw)))
          rintro ⟨j, hj, hkj⟩
          by_cases h3 : kd i = 3
          · exact (hsub ⟨j, hj, hkj⟩).trans (hK.1 h3)
          · exfalso
            rcases List.mem_append.1 hj with hh | hh
            · obtain ⟨oj, hoj⟩ : ∃ oj, ops[j]? = some oj := by
                have := lt_of_unlisted ((hm j).1 (List.mem_append_left _ hh))
                exact ⟨ops[j]'(by omega), by simp [show j < ops.size by omega]⟩
              have := (okj (hfree j hh oj hoj).2 (by omega)).2 (by omega)
              omega
            · exact h14 l1 i l2 rfl (by omega) j hh hkj
        · simp only [hw, Bool.false_eq_true, if_false]
          exact rec_ _ _ hsub (g2 (by simpa using hw))
/-- The text's order, and the order with place i laid behind place j. -/
def Two (i j : Nat) (l1 l2 : List Nat) : Prop := ∃ A M C, l1 = A ++ i :: (M ++ j :: C) ∧ l2 = A ++ (M ++ j :: i :: C)
theorem LI_of_LW (ks : List Nat) : ∀ (os : List Oper) (k : Nat) (a : Act) (w : World), (∀ j, os[j]? = ops[k + j]?) →
    LW P ops w0 Q os (ks.drop k) a w → LI P ops (fun i => ks.getD i 0) w0 Q (List.range' k os.length) a w
  | [], _, _, _, _, h => by simpa [LI, LW] using h
  | o :: os, k, a, w, ho, h => by
    have h0 : ops[k]? = some o := by simpa using (ho 0).symm
    have hr : ∀ a w, LW P ops w0 Q os (ks.drop (k + 1)) a w → LI P ops (fun i => ks.getD i 0) w0 Q (List.range' (k + 1) os.length) a w := fun a w hh =>
      LI_of_LW ks os (k + 1) a w (fun j => by have := ho (j + 1); simpa [Nat.add_assoc, Nat.add_comm 1 j] using this) hh
    have hlt : k < ks.length := by
      rcases Nat.lt_or_ge k ks.length with hh | hh
      · exact hh
      · rw [List.drop_of_length_le hh] at h; exact h.elim
    have hd : ks.drop k = ks[k] :: ks.drop (k + 1) := List.drop_eq_getElem_cons hlt
    rw [hd] at h
    simp only [List.length_cons, List.range'_succ, LI, h0, LW] at h ⊢
    have hg : ks.getD k 0 = ks[k] := by simp [hlt]
    split
    · rename_i hw
      rw [if_pos hw] at h
      rw [hg]
      exact h.mono hr
    · rename_i hw
      rw [if_neg hw] at h
      exact hr _ _ h
/-- The closed check of a region's edges and kinds. -/
def chk (ops : Array Oper) (ks : List Nat) : Bool :=
  let b := (Region.before ops).toList
  let os := ops.toList
  Region.noSelect ops &&
  (os.zipIdx.all fun (o, j) =>
    (o.after.all fun e => !Region.binds .any e || decide (e.on < j)) &&
    (let m := o.after.foldl (fun s e => if Region.binds .any e then s ||| 2 ^ e.on ||| b.getD e.on 0 else s) 0
     (b.getD j 0 == m)) &&
    (os.zipIdx.all fun (p, i) => !(decide (i < j)) || (b.getD j 0).testBit i || (p.apart ops o && okPair (ks.getD i 0) (ks.getD j 0)))) &&
  (os.zipIdx.all fun (_, i) => !(decide (4 ≤ ks.getD i 0)) || os.zipIdx.all fun (_, j) => !(decide (i < j)) || ks.getD j 0 != 1)
theorem foldl_bits (f : Edge → Nat) : ∀ (l : List Edge) (s : Nat) (i : Nat), (l.foldl (fun s e => if Region.binds .any e then s ||| 2 ^ e.on ||| f e else s) s).testBit i = true →
    s.testBit i = true ∨ ∃ e ∈ l, Region.binds .any e = true ∧ (i = e.on ∨ (f e).testBit i = true)
  | [], s, i, h => .inl h
  | e :: l, s, i, h => by
    rcases foldl_bits f l _ i h with h | ⟨x, hx, hb⟩
    · dsimp only at h
      split at h
      · rename_i hb
        simp only [Nat.testBit_or, Bool.or_eq_true] at h
        rcases h with (h | h) | h
        · exact .inl h
        · refine .inr ⟨e, List.mem_cons_self .., hb, .inl ?_⟩
          simp [Nat.testBit_two_pow] at h
          exact h.symm
        · exact .inr ⟨e, List.mem_cons_self .., hb, .inr h⟩
      · exact .inl h
    · exact .inr ⟨x, List.mem_cons_of_mem _ hx, hb⟩
theorem wpAny_weak {os : List Oper} {Q : Exit → Act → World → Prop} : ∀ (n : Nat) (listed : Array Bool) (a : Act) (w : World), wpAny P .any os.toArray (NQ fun a w => Q .normal a w) n listed a w → wpAny P .any os.toArray Q n listed a w := by
  intro n
  induction n with
  | zero => exact fun listed a w h => h
  | succ n ih =>
    intro listed a w h
    refine ⟨h.1, fun i hi => ?_⟩
    have := wpOp_mono (fun a w => ih _ a w) (h.2 i hi)
    unfold wpOp at this ⊢
    split
    · rename_i ho; rw [ho] at this; exact this
    · rename_i o ho
      rw [ho] at this
      split
      · rename_i hw
        simp only [hw, if_true] at this
        rcases this with this | ⟨_, _, _, hf⟩
        · left
          unfold Oper.wp at *
          generalize (execOp a.eval o).run P w = r at *
          cases r with
          | ok m w' =>
            cases m <;> simp only [Oper.upon] at this ⊢ <;> try exact this
            case enter f args =>
              refine Calls.mono this (fun e w'' he => ?_)
              cases e with
              | returned u => exact he
              | panicked c => exact he.elim
              | outgrown => obtain ⟨_, _, hf⟩ := he; exact hf.elim
          | halt x w' => cases x <;> simp only [Oper.upon] at this ⊢; exact this.elim
        · exact hf.elim
      · rename_i hw
        simp only [hw] at this
        exact this
theorem pairs_sorted {md : Region.Mode} (hF : Free ops kd bs) (hlex : ∀ j oj, ops[j]? = some oj → ∀ e ∈ oj.after, Region.binds md e = true → e.on < j) {l : List Nat} (h : l.Pairwise (· < ·)) : l.Pairwise (PairOK md ops kd bs) :=
  h.imp fun {x y} hxy => ⟨fun ox oy hox hoy => hF x y ox oy hxy hox hoy, fun ox hox e he hb => by have := hlex x ox hox e he hb; omega⟩
/-- A REGION THAT DRAWS ITS ORDER: walked once. -/
theorem wp_draw {id : Nat} {Q : Exit → Act → World → Prop} {a : Act} {w : World} (os : List Oper) (ks : List Nat) (hm : P.follows .mixedOrders = true) (hB : chk os.toArray ks = true)
    (h : LW P os.toArray w.drew (fun a w => Q .normal a w) os ks a w.drew) : (Code.region id os.toArray true).wp P Q a w := by
  refine wp_region_any hm ?_
  simp only [chk, Bool.and_eq_true] at hB
  obtain ⟨⟨hsel, hpl⟩, h14⟩ := hB
  have hz : ∀ {j : Nat} {o : Oper}, os.toArray[j]? = some o → (o, j) ∈ os.toArray.toList.zipIdx := by
    intro j o ho
    rw [List.mem_zipIdx_iff_getElem?]
    simpa using ho
  have hall : ∀ j oj, os.toArray[j]? = some oj → _ := fun j oj hj => List.all_eq_true.1 hpl _ (hz hj)
  have hF : Free os.toArray (fun i => ks.getD i 0) (fun j => (Region.before os.toArray).toList.getD j 0) := by
    intro i j oi oj hij hi hj
    have h3 := (Bool.and_eq_true _ _ ▸ hall j oj hj : _ ∧ _).2
    have h4 := List.all_eq_true.1 h3 _ (hz hi)
    simp only [Bool.or_eq_true, Bool.not_eq_true', decide_eq_false_iff_not, Bool.and_eq_true] at h4
    rcases h4 with (h4 | h4) | h4
    · exact absurd hij h4
    · exact .inl h4
    · exact .inr h4
  have hlex : ∀ j oj, os.toArray[j]? = some oj → ∀ e ∈ oj.after, Region.binds .any e = true → e.on < j := by
    intro j oj hj e he hb
    have h1 := (Bool.and_eq_true _ _ ▸ (Bool.and_eq_true _ _ ▸ hall j oj hj : _ ∧ _).1 : _ ∧ _).1
    have h2 := (Array.all_eq_true_iff_forall_mem.1 h1) e he
    simpa [hb] using h2
  have key := any_of_LI (P := P) (ops := os.toArray) (md := .any) (kd := fun i => ks.getD i 0) (bs := fun j => (Region.before os.toArray).toList.getD j 0) (w0 := w.drew) (Q := fun a w => Q .normal a w)
    (Region.noSelect_spec hsel) ?_ ?_ os.length (List.range' 0 os.length) (Array.replicate os.length false) a w.drew (by simp) ?_ List.nodup_range' (by simp) ?_ ?_ ?_ (fun _ => Ext.refl _) ?_
  · have := wpAny_weak _ _ _ _ key
    simpa using this
  · intro j oj hj i hb
    have h3 := (Bool.and_eq_true _ _ ▸ (Bool.and_eq_true _ _ ▸ hall j oj hj : _ ∧ _).1 : _ ∧ _).2
    have h5 : (Region.before os.toArray).toList.getD j 0 = oj.after.foldl (fun s e => if Region.binds .any e then s ||| 2 ^ e.on ||| (Region.before os.toArray).toList.getD e.on 0 else s) 0 := by simpa using h3
    dsimp only at hb
    rw [h5, ← Array.foldl_toList] at hb
    rcases foldl_bits _ _ _ _ hb with hb | ⟨e, he, hbb, hh⟩
    · simp at hb
    · exact ⟨e, Array.mem_toList_iff.1 he, hbb, hh⟩
  · exact hlex
  · exact pairs_sorted hF hlex List.pairwise_lt_range'
  · intro i
    simp only [List.mem_range', Nat.zero_add, Nat.one_mul]
    constructor
    · rintro ⟨x, hx, rfl⟩; simp [hx]
    · intro hh
      rcases Nat.lt_or_ge i os.length with h' | h'
      · exact ⟨i, h', rfl⟩
      · simp [Array.getElem?_eq_none (show (Array.replicate os.length false).size ≤ i by simpa using h')] at hh
  · intro i hi
    rcases Nat.lt_or_ge i os.length with h' | h'
    · simp [h'] at hi
    · simp [Array.getElem?_eq_none (show (Array.replicate os.length false).size ≤ i by simpa using h')] at hi
  · intro l1 i l2 hl hk j hj
    have hs : (l1 ++ i :: l2).Pairwise (· < ·) := hl ▸ List.pairwise_lt_range'
    have hij : i < j := List.rel_of_pairwise_cons (List.pairwise_append.1 hs).2.1 hj
    have mem : ∀ x ∈ l1 ++ i :: l2, x < os.length := by
      intro x hx
      rw [← hl] at hx
      simp only [List.mem_range', Nat.zero_add, Nat.one_mul] at hx
      obtain ⟨y, hy, rfl⟩ := hx
      exact hy
    have hi := mem i (by simp)
    have hj' := mem j (by simp [hj])
    have h1 := List.all_eq_true.1 h14 _ (hz (j := i) (o := os[i]) (by simp [hi]))
    simp only [Bool.or_eq_true, Bool.not_eq_true', decide_eq_false_iff_not] at h1
    rcases h1 with h1 | h1
    · exact absurd hk h1
    · have h2 := List.all_eq_true.1 h1 _ (hz (j := j) (o := os[j]) (by simp [hj']))
      simp only [Bool.or_eq_true, Bool.not_eq_true', decide_eq_false_iff_not] at h2
      rcases h2 with h2 | h2
      · exact absurd hij h2
      · simpa using h2
  · exact LI_of_LW ks os 0 a w.drew (by simp) (by simpa using h)
/-- A REGION WITHOUT A DRAW: kinds 0, 2, 3, 4. -/
theorem wpl_of_LW : ∀ (rest : List Oper) (ks : List Nat) (a : Act) (w : World) (Q : Exit → Act → World → Prop), (∀ k ∈ ks, k ≠ 1) → LW P ops w0 (fun a w => Q .normal a w) rest ks a w → wpList P ops Q rest a w
  | [], _, _, _, _, _, h => h
  | _ :: _, [], _, _, _, _, h => h.elim
  | o :: os, k :: ks, a, w, Q, hk, h => by
    have hk' : ∀ x ∈ ks, x ≠ 1 := fun x hx => hk x (List.mem_cons_of_mem _ hx)
    have hk1 := hk k (List.mem_cons_self ..)
    refine wpList_step fun K hK => ?_
    simp only [LW] at h
    split
    · rename_i hw
      rw [if_pos hw] at h
      unfold OneOp at h
      split at h
      · obtain ⟨v, h1, h2⟩ := h
        exact wp_of_YA (h1 w (Cl.self fun hh => absurd hh hk1)) (hK _ _ (wpl_of_LW os ks _ _ Q hk' h2))
      · split at h
        · exact Oper.wp_mono (fun a w hh => hK _ _ (wpl_of_LW os ks _ _ Q hk' hh.2)) (wp_weak h)
        · exact Oper.wp_mono (fun a w hh => hK _ _ (wpl_of_LW os ks _ _ Q hk' hh)) (wp_weak h)
    · rename_i hw
      rw [if_neg hw] at h
      exact hK _ _ (wpl_of_LW os ks _ _ Q hk' h)
theorem wp_plain {id : Nat} {Q : Exit → Act → World → Prop} {a : Act} {w : World} (os : List Oper) (ks : List Nat) (hk : ks.all (· != 1) = true)
    (h : LW P os.toArray w (fun a w => Q .normal a w) os ks a w) : (Code.region id os.toArray false).wp P Q a w :=
  wp_region_lit (wpl_of_LW os ks a w Q (fun k hh => by simpa using List.all_eq_true.1 hk k hh) h)
end
end Go.Proofs.Ytjnbnlniafmblaa
namespace Go.Proofs.Ytjnbnlniafmblaa
open Go Go.RowKit
def upd (ρ : Nat → Value) (d : Nat) (v : Value) : Nat → Value := fun i => cond (Nat.beq i d) v (ρ i)
def ini (l : List Value) : Nat → Value := fun i => l.getD i undef
def mk (N : Nat) (ρ : Nat → Value) : Act := ⟨((List.range N).map ρ).toArray, []⟩
def evF (N : Nat) (ρ : Nat → Value) : Operand → Value
  | .tmp t => cond (Nat.blt t N) (ρ t) undef
  | .const v => v
  | .global g => .pointer (some ⟨g, 0, none⟩)
  | .func f => .func (.func f) #[] #[]
theorem upd_same (ρ : Nat → Value) (d : Nat) (v : Value) : upd ρ d v d = v := by simp [upd]
theorem upd_ne (ρ : Nat → Value) {d i : Nat} (v : Value) (h : i ≠ d) : upd ρ d v i = ρ i := by
  have : Nat.beq i d = false := by
    cases hb : Nat.beq i d with
    | false => rfl
    | true => exact absurd (Nat.eq_of_beq_eq_true hb) h
  simp [upd, this]
theorem mk_eval (N : Nat) (ρ : Nat → Value) : (mk N ρ).eval = evF N ρ := by
  funext x
  cases x with
  | tmp t =>
    simp only [Act.eval, evF, mk]
    by_cases h : t < N
    · have : Nat.blt t N = true := by simpa using h
      simp [h, this]
    · have : Nat.blt t N = false := by
        cases hb : Nat.blt t N with
        | false => rfl
        | true => exact absurd (by simpa using hb) h
      simp [this, Nat.not_lt.1 h]
  | _ => rfl
theorem mk_put (N : Nat) (ρ : Nat → Value) (d : Nat) (v : Value) : (mk N ρ).put (some d) v = mk N (upd ρ d v) := by
  simp only [Act.put, mk, Act.mk.injEq, and_true]
  apply Array.ext
  · simp
  · intro i h1 h2
    simp at h1
    by_cases hi : i = d
    · subst hi; simp [upd_same]
    · simp [Ne.symm hi, upd_ne _ _ hi]
theorem calls_mk {P : Program} {f : FuncId} {fn : Func} {c : Code} {w : World} {R : Ending → World → Prop} (args : List Value) (N : Nat)
    (hf : P.funcs[f]? = some fn) (hb : fn.body = some c) (hN : fn.ntmps = N) (hl : args.length ≤ N)
    (h : c.wp P (bodyPost P fn R) (mk N (ini args)) w) : Calls P f args.toArray w R := by
  refine calls_of_wp hf hb ?_
  have : (mk N (ini args)) = { tmps := args.toArray ++ Array.replicate (fn.ntmps - args.toArray.size) undef, defers := [] } := by
    simp only [mk, Act.mk.injEq, and_true]
    apply Array.ext
    · simp; omega
    · intro i h1 h2
      simp at h1
      by_cases hi : i < args.length
      · simp [ini, hi]
      · simp [ini, hi, Array.getElem_append]
  rw [← this]; exact h
/-- The results of a function whose result variables are temporaries. -/
def resF (N : Nat) (ρ : Nat → Value) : List Nat → Value
  | [t] => evF N ρ (.tmp t)
  | ts => .tuple (ts.map fun t => evF N ρ (.tmp t)).toArray
theorem mk_getD (N : Nat) (ρ : Nat → Value) (t : Nat) : (mk N ρ).tmps.getD t undef = evF N ρ (.tmp t) := by
  rw [← mk_eval]; rfl
theorem run_results {P : Program} {fn : Func} {N : Nat} {ρ : Nat → Value} {w : World} (ts : List Nat) (hr : fn.results = (ts.map ResultVar.tmp).toArray) :
    (results fn (mk N ρ).tmps).run P w = .ok (resF N ρ ts) w := by
  have key : ∀ (l : List Nat), (((l.map ResultVar.tmp).mapM (m := Sem) fun
    | .tmp t => pure ((mk N ρ).tmps.getD t undef)
    | .cell a t => do loadVar t (← asAddr ((mk N ρ).tmps.getD a undef)))).run P w = .ok (l.map fun t => evF N ρ (.tmp t)) w := by
    intro l
    induction l with
    | nil => rfl
    | cons t l ih =>
      simp only [List.map_cons, List.mapM_cons, Sem.run_bind, Sem.run_pure, Result.andThen_ok, mk_getD] at ih ⊢
      rw [ih]
      rfl
  unfold results
  rw [hr]
  simp only [List.mapM_toArray, Sem.run_bind, Sem.run_map]
  refine (congrArg (fun r => (Result.andThen (Result.andThen r fun a w' => Result.ok a.toArray w') fun a w' => Result.ok (if h : a.size = 1 then a[0] else Value.tuple a) w')) (key ts)).trans ?_
  simp only [Result.andThen_ok]
  match ts with
  | [] => rfl
  | [t] => rfl
  | _ :: _ :: _ => rfl
theorem post_ret {P : Program} {fn : Func} {N : Nat} {ρ : Nat → Value} {w : World} {R : Ending → World → Prop} (ts : List Nat) (hr : fn.results = (ts.map ResultVar.tmp).toArray) (v : Value) (hv : resF N ρ ts = v)
    (h : R (.returned v) w) : bodyPost P fn R .ret (mk N ρ) w := ⟨rfl, v, by rw [← hv]; exact run_results ts hr, h⟩
section code
variable {P : Program} {N : Nat} {ρ : Nat → Value} {Q : Exit → Act → World → Prop} {w : World}
theorem c_cond_t {c : Operand} {x y : Code} (hc : evF N ρ c = .bool true) (h : x.wp P Q (mk N ρ) w) : (Code.cond c x y).wp P Q (mk N ρ) w :=
  wp_cond_true (by rw [mk_eval]; exact hc) h
theorem c_cond_f {c : Operand} {x y : Code} (hc : evF N ρ c = .bool false) (h : y.wp P Q (mk N ρ) w) : (Code.cond c x y).wp P Q (mk N ρ) w :=
  wp_cond_false (by rw [mk_eval]; exact hc) h
theorem c_exit_here {id : Nat} {a : Act} (h : Q .normal a w) : Exit.inBlock id Q (.exit id) a w := by
  simpa [Exit.inBlock] using h
theorem t_exit {id : Nat} {a : Act} {K : Act → World → Prop} (h : Q (.exit id) a w) : Exit.then K Q (.exit id) a w := h
theorem t_ret {a : Act} {K : Act → World → Prop} (h : Q .ret a w) : Exit.then K Q .ret a w := h
theorem b_ret {id : Nat} {a : Act} (h : Q .ret a w) : Exit.inBlock id Q .ret a w := h
/-- The frame where the slots of a list hold given values. -/
def over : List (Nat × Value) → (Nat → Value) → Nat → Value
  | [], ρ => ρ
  | (i, v) :: l, ρ => upd (over l ρ) i v
def agrees (ρ : Nat → Value) : List (Nat × Value) → Prop
  | [] => True
  | (i, v) :: l => ρ i = v ∧ agrees ρ l
theorem over_of_agrees {ρ : Nat → Value} : ∀ {l : List (Nat × Value)}, agrees ρ l → over l ρ = ρ
  | [], _ => rfl
  | (i, v) :: l, h => by
    simp only [over, over_of_agrees h.2]
    funext j
    by_cases hj : j = i
    · subst hj; rw [upd_same]; exact h.1.symm
    · rw [upd_ne _ _ hj]
/-- A LOOP: a state s for each round; 'fr s' the slots that count, 'I s' what holds of the world, 'm s' goes down. -/
theorem c_loop {S : Type} (fr : S → List (Nat × Value)) (I : S → World → Prop) (m : S → Nat) (s0 : S) {body : Code} (hfr : agrees ρ (fr s0)) (h0 : I s0 w)
    (round : ∀ s ρ w, I s w → body.wp P (Exit.then (fun a' w' => ∃ s' ρ', a' = mk N ρ' ∧ agrees ρ' (fr s') ∧ I s' w' ∧ m s' < m s) Q) (mk N (over (fr s) ρ)) w) :
    (Code.loop body).wp P Q (mk N ρ) w := by
  intro b k cs
  have key : ∀ n s ρ w, m s = n → agrees ρ (fr s) → I s w → ∃ e a' w', Q e a' w' ∧ Arrives P (lone (b.at (mk N ρ) (.code body :: .inLoop body :: k)) cs w) b k cs e a' w' := by
    intro n
    induction n using Nat.strongRecOn with
    | _ n ih =>
      intro s ρ w hn hfr hI
      have hr := round s ρ w hI
      rw [over_of_agrees hfr] at hr
      obtain ⟨e, a₁, w₁, hq, harr⟩ := hr b (.inLoop body :: k) cs
      cases e with
      | normal =>
        obtain ⟨s', ρ', rfl, hfr', hI', hlt⟩ := hq
        obtain ⟨e₂, a₂, w₂, hq₂, harr₂⟩ := ih (m s') (hn ▸ hlt) s' ρ' w₁ rfl hfr' hI'
        exact ⟨e₂, a₂, w₂, hq₂, .of_steps (Steps.trans harr (.one step_inLoop)) harr₂⟩
      | exit id => exact ⟨_, a₁, w₁, hq, .pass (x := .inLoop body) rfl (fun _ _ => .inl (by simp)) harr⟩
      | goto l => exact ⟨_, a₁, w₁, hq, .pass (x := .inLoop body) rfl (fun _ _ => .inl (by simp)) harr⟩
      | ret => exact ⟨_, a₁, w₁, hq, .pass (x := .inLoop body) rfl (fun _ _ => .inl (by simp)) harr⟩
      | panic ch => exact ⟨_, a₁, w₁, hq, .pass (x := .inLoop body) rfl (fun _ _ => .inl (by simp)) harr⟩
      | outgrown => exact ⟨_, a₁, w₁, hq, .pass (x := .inLoop body) rfl (fun _ _ => .inl (by simp)) harr⟩
  obtain ⟨e, a', w', hq, harr⟩ := key _ s0 ρ w rfl hfr h0
  exact ⟨e, a', w', hq, .of_steps (.one step_loop) harr⟩
/-- A CUT: the code comes to its normal end in one of the states of S, or to another end. -/
theorem c_cut {S : Type} (fr : S → List (Nat × Value)) (I : S → World → Prop) {c : Code} {K : Act → World → Prop} {Q' : Exit → Act → World → Prop}
    (h : c.wp P (Exit.then (fun a' w' => ∃ s' ρ', a' = mk N ρ' ∧ agrees ρ' (fr s') ∧ I s' w') Q') (mk N ρ) w)
    (hn : ∀ s ρ w, I s w → K (mk N (over (fr s) ρ)) w) : c.wp P (Exit.then K Q') (mk N ρ) w := by
  refine wp_mono h ?_
  intro e a w hh
  cases e with
  | normal =>
    obtain ⟨s, ρ', rfl, h1, h2⟩ := hh
    have := hn s ρ' w h2
    rw [over_of_agrees h1] at this
    exact this
  | _ => exact hh
end code
section ops
variable {P : Program} {ops : Array Oper} {w0 : World} {Q : Act → World → Prop} {os : List Oper} {ks : List Nat} {N : Nat} {ρ : Nat → Value} {w : World}
/-- 'The operation comes up.' -/
abbrev Up (ops : Array Oper) (N : Nat) (ρ : Nat → Value) (o : Oper) : Prop := Region.wanted o (yielded ops (mk N ρ).tmps) = true
theorem zN {d : Option Tmp} {op : Op} {ty : TypeId} {pos : String} {aft : Array Edge} : Up ops N ρ ⟨d, op, ty, pos, aft, none⟩ := rfl
theorem yielded_mk {j d : Nat} {b : Bool} (hd : (ops[j]?).bind (·.dst) = some d) (hlt : Nat.blt d N = true) (hv : ρ d = .bool b) : yielded ops (mk N ρ).tmps j = some b := by
  have h : d < N := by simpa using hlt
  unfold yielded
  rw [hd]
  simp [mk, h, hv]
theorem zS {d : Option Tmp} {op : Op} {ty : TypeId} {pos : String} {aft : Array Edge} {j e : Nat} {b : Bool} (hd : (ops[j]?).bind (·.dst) = some e) (hlt : Nat.blt e N = true) (hv : ρ e = .bool b) :
    Up ops N ρ ⟨d, op, ty, pos, aft, some (j, b)⟩ := by
  unfold Up Region.wanted
  simp [yielded_mk hd hlt hv]
/-- A reading operation, whatever its kind. -/
theorem lw_q {o : Oper} {k d : Nat} (hk : k ≤ 2) (hd : o.dst = some d) (hu : Up ops N ρ o) (v : Value) (hr : ∀ w', Cl w0 w k w' → (execOp (evF N ρ) o).run P w' = .ok (.value v) w')
    (h : LW P ops w0 Q os ks (mk N (upd ρ d v)) w) : LW P ops w0 Q (o :: os) (k :: ks) (mk N ρ) w := by
  simp only [LW]
  rw [if_pos hu]
  unfold OneOp
  rw [if_pos hk]
  refine ⟨v, fun w' hc => .inl ?_, ?_⟩
  · rw [mk_eval]; exact hr w' hc
  · rw [hd, mk_put]; exact h
/-- A making operation. -/
theorem lw_r {o : Oper} {d : Nat} (hd : o.dst = some d) (hu : Up ops N ρ o)
    (v : Value) (w1 : World) (hr : (execOp (evF N ρ) o).run P w = .ok (.value v) w1) (hE : Ext w w1) (h : LW P ops w0 Q os ks (mk N (upd ρ d v)) w1) : LW P ops w0 Q (o :: os) (3 :: ks) (mk N ρ) w := by
  simp only [LW]
  rw [if_pos hu]
  unfold OneOp
  rw [if_neg (by decide), if_pos rfl]
  unfold Oper.wp
  rw [mk_eval, hr]
  show Ext w w1 ∧ LW P ops w0 Q os ks ((mk N ρ).put o.dst v) w1
  rw [hd, mk_put]
  exact ⟨hE, h⟩
/-- A writing operation with a value. -/
theorem lw_e {o : Oper} {d : Nat} (hd : o.dst = some d) (hu : Up ops N ρ o)
    (v : Value) (w1 : World) (hr : (execOp (evF N ρ) o).run P w = .ok (.value v) w1) (h : LW P ops w0 Q os ks (mk N (upd ρ d v)) w1) : LW P ops w0 Q (o :: os) (4 :: ks) (mk N ρ) w := by
  simp only [LW]
  rw [if_pos hu]
  unfold OneOp
  rw [if_neg (by decide), if_neg (by decide)]
  unfold Oper.wp
  rw [mk_eval, hr]
  show LW P ops w0 Q os ks ((mk N ρ).put o.dst v) w1
  rw [hd, mk_put]
  exact h
/-- A writing operation without a value. -/
theorem lw_s {o : Oper} (hd : o.dst = none) (hu : Up ops N ρ o)
    (w1 : World) (hr : (execOp (evF N ρ) o).run P w = .ok .skip w1) (h : LW P ops w0 Q os ks (mk N ρ) w1) : LW P ops w0 Q (o :: os) (4 :: ks) (mk N ρ) w := by
  simp only [LW]
  rw [if_pos hu]
  unfold OneOp
  rw [if_neg (by decide), if_neg (by decide)]
  unfold Oper.wp
  rw [mk_eval, hr]
  show LW P ops w0 Q os ks ((mk N ρ).put o.dst undef) w1
  rw [hd]
  exact h
theorem lw_call {d : Nat} {x : Operand} {xs : Array Operand} {ats : Array TypeId} {ty : TypeId} {pos : String} {aft : Array Edge} {g : Option (Nat × Bool)} (f : FuncId) (first cap : List Value) (args : List Value)
    (hx : evF N ρ x = .func (.func f) first.toArray cap.toArray) (hxs : first ++ (xs.toList.map (evF N ρ)) ++ cap = args) (hf : ((P.funcs[f]?).map fun fn => (fn.name != "runtime.NumGoroutine") && fn.body.isSome) = some true)
    (hu : Up ops N ρ ⟨some d, .call ⟨.value x, xs, ats⟩, ty, pos, aft, g⟩) {R : Ending → World → Prop} (hc : Calls P f args.toArray w R)
    (h : ∀ e w1, R e w1 → ∃ v, e = .returned v ∧ Ext w w1 ∧ LW P ops w0 Q os ks (mk N (upd ρ d v)) w1) :
    LW P ops w0 Q (⟨some d, .call ⟨.value x, xs, ats⟩, ty, pos, aft, g⟩ :: os) (3 :: ks) (mk N ρ) w := by
  simp only [LW]
  rw [if_pos hu]
  unfold OneOp
  rw [if_neg (by decide), if_pos rfl]
  unfold Oper.wp
  rw [mk_eval]
  have hrun : (execOp (evF N ρ) ⟨some d, .call ⟨.value x, xs, ats⟩, ty, pos, aft, g⟩).run P w = .ok (.enter f args.toArray) w := by
    obtain ⟨fn, hfn, hb⟩ := Option.map_eq_some_iff.1 hf
    simp only [Bool.and_eq_true, bne_iff_ne, ne_eq] at hb
    have hargs : first.toArray ++ xs.map (evF N ρ) ++ cap.toArray = args.toArray := by
      rw [← hxs]; apply Array.ext'; simp
    obtain ⟨c, hbc⟩ := Option.isSome_iff_exists.1 hb.2
    have hcf : (callFunc f args.toArray).run P w = .ok (.enter f args.toArray) w := by
      simp [callFunc, hfn, hb.1, hbc]
    simp [execOp, resolve, hargs, hx, Deferred.ofValue, invoke, hcf]
  rw [hrun]
  refine Calls.mono hc (fun e w1 he => ?_)
  obtain ⟨v, rfl, hE, hL⟩ := h e w1 he
  show Ext w w1 ∧ LW P ops w0 Q os ks ((mk N ρ).put (some d) v) w1
  rw [mk_put]
  exact ⟨hE, hL⟩
/-- A call that leaves the world asq it is. -/
theorem lw_callq {d : Nat} {x : Operand} {xs : Array Operand} {ats : Array TypeId} {ty : TypeId} {pos : String} {aft : Array Edge} {g : Option (Nat × Bool)} (f : FuncId) (first cap : List Value) (args : List Value)
    (hx : evF N ρ x = .func (.func f) first.toArray cap.toArray) (hxs : first ++ (xs.toList.map (evF N ρ)) ++ cap = args) (hf : ((P.funcs[f]?).map fun fn => (fn.name != "runtime.NumGoroutine") && fn.body.isSome) = some true)
    (hu : Up ops N ρ ⟨some d, .call ⟨.value x, xs, ats⟩, ty, pos, aft, g⟩) (v : Value) (hc : ∀ w', Calls P f args.toArray w' (fun e w'' => e = .returned v ∧ w'' = w'))
    (h : LW P ops w0 Q os ks (mk N (upd ρ d v)) w) :
    LW P ops w0 Q (⟨some d, .call ⟨.value x, xs, ats⟩, ty, pos, aft, g⟩ :: os) (0 :: ks) (mk N ρ) w := by
  simp only [LW]
  rw [if_pos hu]
  unfold OneOp
  rw [if_pos (by decide)]
  have hrun : ∀ w, (execOp (evF N ρ) ⟨some d, .call ⟨.value x, xs, ats⟩, ty, pos, aft, g⟩).run P w = .ok (.enter f args.toArray) w := by
    intro w
    obtain ⟨fn, hfn, hb⟩ := Option.map_eq_some_iff.1 hf
    simp only [Bool.and_eq_true, bne_iff_ne, ne_eq] at hb
    have hargs : first.toArray ++ xs.map (evF N ρ) ++ cap.toArray = args.toArray := by
      rw [← hxs]; apply Array.ext'; simp
    obtain ⟨c, hbc⟩ := Option.isSome_iff_exists.1 hb.2
    have hcf : (callFunc f args.toArray).run P w = .ok (.enter f args.toArray) w := by
      simp [callFunc, hfn, hb.1, hbc]
    simp [execOp, resolve, hargs, hx, Deferred.ofValue, invoke, hcf]
  refine ⟨v, fun w' _ => .inr (.inr ⟨f, args.toArray, ?_, hc w'⟩), ?_⟩
  · rw [mk_eval]; exact hrun w'
  · show LW P ops w0 Q os ks ((mk N ρ).put (some d) v) w
    rw [mk_put]; exact h
end ops
/-- So many rounds. -/
def it {σ : Type} (f : Nat → σ → σ) : Nat → σ → σ
  | 0, s => s
  | k + 1, s => f k (it f k s)
end Go.Proofs.Ytjnbnlniafmblaa
namespace Go.Proofs.Ytjnbnlniafmblaa
open Go Go.RowKit
theorem w64 {x : Int} (h : -9223372036854775808 ≤ x) (h' : x ≤ 9223372036854775807) : IntKind.i64.wrap x = x := IntWalk.i64_in x ⟨h, h'⟩
theorem w64n {x : Int} {n : Nat} (h : x = (n : Int)) (h' : x ≤ 9223372036854775807) : IntKind.i64.wrap x = (n : Int) := by rw [w64 (by omega) h', h]
/-- What the table of types says of an element type. -/
def TI (P : Program) (e : TypeId) (s : Nat) (z : Value) (b : Nat) : Prop := (P.info? e).map (fun i => (i.zero, i.size, i.bytes)) = some (some z, s, b)
theorem TI.get {P : Program} {e : TypeId} {s : Nat} {z : Value} {b : Nat} (h : TI P e s z b) : ∃ i, P.info? e = some i ∧ i.zero = some z ∧ i.size = s ∧ i.bytes = b := by
  obtain ⟨i, hi, hh⟩ := Option.map_eq_some_iff.1 h
  simp only [Prod.mk.injEq] at hh
  exact ⟨i, hi, hh⟩
/-- A slice value of a length. -/
def isSl (v : Value) (n : Nat) : Prop := ∃ a c, v = .slice a n c ∧ (a = none → n = 0)
/-- The place of an element. -/
def eptr (v : Value) (i s : Nat) : Value :=
  match v with
  | .slice (some a) _ _ => .pointer (some (a.add (i * s)))
  | _ => undef
def cellH (H : Array Obj) (g o : Nat) : Option Value :=
  match H[g]? with
  | some (.cells c _ _) => c[o]?
  | _ => none
theorem cell_cellH (w : World) (g o : Nat) : w.cell? ⟨g, o, none⟩ = cellH w.heap g o := by
  unfold World.cell? cellH
  cases w.heap[g]? with
  | none => rfl
  | some o => cases o <;> rfl
def ldH (H : Array Obj) (p : Value) : Option Value :=
  match p with
  | .pointer (some ⟨g, o, none⟩) => cellH H g o
  | _ => none
theorem Ext.heap {w w' : World} (h : Ext w w') {k : Nat} (hk : k < w.heap.size) : w'.heap[k]? = w.heap[k]? := Below.block h k hk
theorem cellH_lt {H : Array Obj} {g o : Nat} {v : Value} (h : cellH H g o = some v) : g < H.size := by
  unfold cellH at h
  rcases Nat.lt_or_ge g H.size with hh | hh
  · exact hh
  · simp [Array.getElem?_eq_none hh] at h
theorem cellH_ext {w w' : World} (h : Ext w w') {g o : Nat} {v : Value} (hc : cellH w.heap g o = some v) : cellH w'.heap g o = some v := by
  have := h.heap (cellH_lt hc)
  unfold cellH at *
  rw [this]; exact hc
theorem ldH_ext {w w' : World} (h : Ext w w') {p v : Value} (hc : ldH w.heap p = some v) : ldH w'.heap p = some v := by
  unfold ldH at *
  split at hc
  · exact cellH_ext h hc
  · cases hc
/-- The type is loaded in one cell. -/
def oneTy (P : Program) (t : TypeId) : Prop := ((P.underlying t).map fun d => match d with | .struct _ => false | .array _ _ => false | _ => true) = some true
theorem run_load1 {P : Program} {t : TypeId} (ht : oneTy P t) {p v : Value} {w : World} (h : ldH w.heap p = some v) : (Instr.loadAt t p).run P w = .ok v w := by
  unfold ldH at h
  split at h
  · rename_i g o
    rw [← cell_cellH] at h
    obtain ⟨d, hd, hh⟩ := Option.map_eq_some_iff.1 ht
    have hag : (isAgg t).run P w = .ok false w := by
      unfold isAgg
      simp only [Sem.run_bind, run_underlying hd, Result.andThen_ok]
      cases d <;> first | rfl | simp at hh
    simp [Instr.loadAt, Instr.sureAddr, loadVar, hag, h]
  · cases h
section ops
variable {P : Program} {ops : Array Oper} {w0 : World} {Q : Act → World → Prop} {os : List Oper} {ks : List Nat} {N : Nat} {ρ : Nat → Value} {w : World}
  {d : Nat} {ty : TypeId} {pos : String} {aft : Array Edge} {g : Option (Nat × Bool)}
section bin
variable {xt yt : TypeId} {x y : Operand} {k : IntKind} {a b : Int}
theorem run_eqg {op : BinOp} {w : World} : (eqGuard op xt x y (.int k a) (.int k b)).run P w = .ok () w := by
  unfold eqGuard
  cases op <;> rfl
theorem q_add (c : Int) (hx : evF N ρ x = .int k a) (hy : evF N ρ y = .int k b) (hc : k.wrap (a + b) = c) (hu : Up ops N ρ ⟨some d, .binOp .add xt x y yt, ty, pos, aft, g⟩)
    (h : LW P ops w0 Q os ks (mk N (upd ρ d (.int k c))) w) : LW P ops w0 Q (⟨some d, .binOp .add xt x y yt, ty, pos, aft, g⟩ :: os) (0 :: ks) (mk N ρ) w :=
  lw_q (by decide) rfl hu _ (fun w' _ => by simp [execOp, hx, hy, run_eqg, binOp, Op.intArith, hc]) h
theorem q_sub (c : Int) (hx : evF N ρ x = .int k a) (hy : evF N ρ y = .int k b) (hc : k.wrap (a - b) = c) (hu : Up ops N ρ ⟨some d, .binOp .sub xt x y yt, ty, pos, aft, g⟩)
    (h : LW P ops w0 Q os ks (mk N (upd ρ d (.int k c))) w) : LW P ops w0 Q (⟨some d, .binOp .sub xt x y yt, ty, pos, aft, g⟩ :: os) (0 :: ks) (mk N ρ) w :=
  lw_q (by decide) rfl hu _ (fun w' _ => by simp [execOp, hx, hy, run_eqg, binOp, Op.intArith, hc]) h
theorem q_rem (c : Int) (hx : evF N ρ x = .int k a) (hy : evF N ρ y = .int k b) (hb : b ≠ 0) (hc : a.tmod b = c) (hu : Up ops N ρ ⟨some d, .binOp .rem xt x y yt, ty, pos, aft, g⟩)
    (h : LW P ops w0 Q os ks (mk N (upd ρ d (.int k c))) w) : LW P ops w0 Q (⟨some d, .binOp .rem xt x y yt, ty, pos, aft, g⟩ :: os) (0 :: ks) (mk N ρ) w :=
  lw_q (by decide) rfl hu _ (fun w' _ => by simp [execOp, hx, hy, run_eqg, binOp, Op.intDiv, hb, hc]) h
theorem q_quo (c : Int) (hx : evF N ρ x = .int k a) (hy : evF N ρ y = .int k b) (hb : b ≠ 0) (hc : k.wrap (a.tdiv b) = c) (hu : Up ops N ρ ⟨some d, .binOp .quo xt x y yt, ty, pos, aft, g⟩)
    (h : LW P ops w0 Q os ks (mk N (upd ρ d (.int k c))) w) : LW P ops w0 Q (⟨some d, .binOp .quo xt x y yt, ty, pos, aft, g⟩ :: os) (0 :: ks) (mk N ρ) w :=
  lw_q (by decide) rfl hu _ (fun w' _ => by simp [execOp, hx, hy, run_eqg, binOp, Op.intDiv, hb, hc]) h
theorem q_lss (c : Bool) (hx : evF N ρ x = .int k a) (hy : evF N ρ y = .int k b) (hc : decide (a < b) = c) (hu : Up ops N ρ ⟨some d, .binOp .lss xt x y yt, ty, pos, aft, g⟩)
    (h : LW P ops w0 Q os ks (mk N (upd ρ d (.bool c))) w) : LW P ops w0 Q (⟨some d, .binOp .lss xt x y yt, ty, pos, aft, g⟩ :: os) (0 :: ks) (mk N ρ) w :=
  lw_q (by decide) rfl hu _ (fun w' _ => by simp [execOp, hx, hy, run_eqg, binOp, Op.intCmp, ← hc]) h
theorem q_leq (c : Bool) (hx : evF N ρ x = .int k a) (hy : evF N ρ y = .int k b) (hc : decide (a ≤ b) = c) (hu : Up ops N ρ ⟨some d, .binOp .leq xt x y yt, ty, pos, aft, g⟩)
    (h : LW P ops w0 Q os ks (mk N (upd ρ d (.bool c))) w) : LW P ops w0 Q (⟨some d, .binOp .leq xt x y yt, ty, pos, aft, g⟩ :: os) (0 :: ks) (mk N ρ) w :=
  lw_q (by decide) rfl hu _ (fun w' _ => by simp [execOp, hx, hy, run_eqg, binOp, Op.intCmp, ← hc]) h
theorem q_gtr (c : Bool) (hx : evF N ρ x = .int k a) (hy : evF N ρ y = .int k b) (hc : decide (b < a) = c) (hu : Up ops N ρ ⟨some d, .binOp .gtr xt x y yt, ty, pos, aft, g⟩)
    (h : LW P ops w0 Q os ks (mk N (upd ρ d (.bool c))) w) : LW P ops w0 Q (⟨some d, .binOp .gtr xt x y yt, ty, pos, aft, g⟩ :: os) (0 :: ks) (mk N ρ) w :=
  lw_q (by decide) rfl hu _ (fun w' _ => by simp [execOp, hx, hy, run_eqg, binOp, Op.intCmp, ← hc]) h
theorem q_geq (c : Bool) (hx : evF N ρ x = .int k a) (hy : evF N ρ y = .int k b) (hc : decide (b ≤ a) = c) (hu : Up ops N ρ ⟨some d, .binOp .geq xt x y yt, ty, pos, aft, g⟩)
    (h : LW P ops w0 Q os ks (mk N (upd ρ d (.bool c))) w) : LW P ops w0 Q (⟨some d, .binOp .geq xt x y yt, ty, pos, aft, g⟩ :: os) (0 :: ks) (mk N ρ) w :=
  lw_q (by decide) rfl hu _ (fun w' _ => by simp [execOp, hx, hy, run_eqg, binOp, Op.intCmp, ← hc]) h
theorem q_eql (c : Bool) (hx : evF N ρ x = .int k a) (hy : evF N ρ y = .int k b) (hc : decide (a = b) = c) (hu : Up ops N ρ ⟨some d, .binOp .eql xt x y yt, ty, pos, aft, g⟩)
    (h : LW P ops w0 Q os ks (mk N (upd ρ d (.bool c))) w) : LW P ops w0 Q (⟨some d, .binOp .eql xt x y yt, ty, pos, aft, g⟩ :: os) (0 :: ks) (mk N ρ) w :=
  lw_q (by decide) rfl hu _ (fun w' _ => by
    have : (a == b) = c := by rw [← hc]; rfl
    simp [execOp, hx, hy, run_eqg, binOp, Op.intCmp, this]) h
theorem q_neq (c : Bool) (hx : evF N ρ x = .int k a) (hy : evF N ρ y = .int k b) (hc : decide (a ≠ b) = c) (hu : Up ops N ρ ⟨some d, .binOp .neq xt x y yt, ty, pos, aft, g⟩)
    (h : LW P ops w0 Q os ks (mk N (upd ρ d (.bool c))) w) : LW P ops w0 Q (⟨some d, .binOp .neq xt x y yt, ty, pos, aft, g⟩ :: os) (0 :: ks) (mk N ρ) w :=
  lw_q (by decide) rfl hu _ (fun w' _ => by
    have : (a != b) = c := by rw [← hc]; simp [bne, BEq.beq]
    simp [execOp, hx, hy, run_eqg, binOp, Op.intCmp, this]) h
end bin
theorem q_not {xt : TypeId} {x : Operand} {a : Bool} (c : Bool) (hx : evF N ρ x = .bool a) (hc : (!a) = c) (hu : Up ops N ρ ⟨some d, .unOp .not xt x, ty, pos, aft, g⟩)
    (h : LW P ops w0 Q os ks (mk N (upd ρ d (.bool c))) w) : LW P ops w0 Q (⟨some d, .unOp .not xt x, ty, pos, aft, g⟩ :: os) (0 :: ks) (mk N ρ) w :=
  lw_q (by decide) rfl hu _ (fun w' _ => by simp [execOp, hx, Op.unary, ← hc]) h
theorem q_len {t e : TypeId} {x : Operand} {v : Value} {n : Nat} (ht : P.underlying t = some (.slice e)) (hx : evF N ρ x = v) (hs : isSl v n) (hu : Up ops N ρ ⟨some d, .call ⟨.builtin .len, #[x], #[t]⟩, ty, pos, aft, g⟩)
    (h : LW P ops w0 Q os ks (mk N (upd ρ d (.int .i64 (n : Int)))) w) : LW P ops w0 Q (⟨some d, .call ⟨.builtin .len, #[x], #[t]⟩, ty, pos, aft, g⟩ :: os) (0 :: ks) (mk N ρ) w :=
  lw_q (by decide) rfl hu _ (fun w' _ => by
    obtain ⟨a, c, rfl, _⟩ := hs
    simp [execOp, resolve, invoke, builtin, hx, Builtin.len_, run_underlying ht, goInt]) h
theorem q_lens {t : TypeId} {x : Operand} {s : ByteArray} (ht : P.underlying t = some .string) (hx : evF N ρ x = .string s) (hu : Up ops N ρ ⟨some d, .call ⟨.builtin .len, #[x], #[t]⟩, ty, pos, aft, g⟩)
    (h : LW P ops w0 Q os ks (mk N (upd ρ d (.int .i64 (s.size : Int)))) w) : LW P ops w0 Q (⟨some d, .call ⟨.builtin .len, #[x], #[t]⟩, ty, pos, aft, g⟩ :: os) (0 :: ks) (mk N ρ) w :=
  lw_q (by decide) rfl hu _ (fun w' _ => by
    simp [execOp, resolve, invoke, builtin, hx, Builtin.len_, run_underlying ht, goInt]) h
theorem q_idx {t e : TypeId} {x y : Operand} {v : Value} {n s : Nat} {k : IntKind} {i : Int} (j : Nat) (ht : P.underlying t = some (.slice e)) {z : Value} {b : Nat} (hi : TI P e s z b) (hx : evF N ρ x = v) (hy : evF N ρ y = .int k i)
    (hs : isSl v n) (hj : i = (j : Int)) (hlt : j < n) (hu : Up ops N ρ ⟨some d, .indexAddr t x y, ty, pos, aft, g⟩)
    (h : LW P ops w0 Q os ks (mk N (upd ρ d (eptr v j s))) w) : LW P ops w0 Q (⟨some d, .indexAddr t x y, ty, pos, aft, g⟩ :: os) (0 :: ks) (mk N ρ) w :=
  lw_q (by decide) rfl hu _ (fun w' _ => by
    obtain ⟨a, c, rfl, ha⟩ := hs
    obtain ⟨inf, h1, _, h3, _⟩ := hi.get
    subst hj
    cases a with
    | none => have := ha rfl; omega
    | some a =>
      have hlt' : (j : Int) < (n : Int) := by omega
      simp [execOp, hx, hy, Instr.indexAt, asIntOf, run_underlying ht, sizeOf, typeInfo, h1, h3, eptr, hlt]) h
theorem q_load {k : Nat} (hk : k = 1 ∨ k = 2) {t : TypeId} {x : Operand} {p : Value} (u : Value) (ht : oneTy P t) (hx : evF N ρ x = p) (hc : ldH (if k = 1 then w0.heap else w.heap) p = some u) (hu : Up ops N ρ ⟨some d, .load t x, ty, pos, aft, g⟩)
    (h : LW P ops w0 Q os ks (mk N (upd ρ d u)) w) : LW P ops w0 Q (⟨some d, .load t x, ty, pos, aft, g⟩ :: os) (k :: ks) (mk N ρ) w :=
  lw_q (by omega) rfl hu _ (fun w' hcl => by
    have hl : ldH w'.heap p = some u := by
      rcases hk with rfl | rfl
      · exact ldH_ext (w := w0) hcl hc
      · exact ldH_ext (w := w) hcl hc
    simp [execOp, hx, run_load1 ht hl]) h
theorem q_extract {x : Operand} {vs : List Value} {i : Nat} (v : Value) (hx : evF N ρ x = .tuple vs.toArray) (hv : vs[i]? = some v) (hu : Up ops N ρ ⟨some d, .extract x i, ty, pos, aft, g⟩)
    (h : LW P ops w0 Q os ks (mk N (upd ρ d v)) w) : LW P ops w0 Q (⟨some d, .extract x i, ty, pos, aft, g⟩ :: os) (0 :: ks) (mk N ρ) w :=
  lw_q (by decide) rfl hu _ (fun w' _ => by simp [execOp, hx, Instr.extract, hv]) h
theorem q_conv {st dt : TypeId} {x : Operand} {k k' : IntKind} {a : Int} (c : Int) {sd : TypeDesc} (hst : P.underlying st = some sd) (hdt : P.underlying dt = some (.int k')) (hx : evF N ρ x = .int k a) (hc : k'.wrap a = c) (hu : Up ops N ρ ⟨some d, .convert st dt x, ty, pos, aft, g⟩)
    (h : LW P ops w0 Q os ks (mk N (upd ρ d (.int k' c))) w) : LW P ops w0 Q (⟨some d, .convert st dt x, ty, pos, aft, g⟩ :: os) (0 :: ks) (mk N ρ) w :=
  lw_q (by decide) rfl hu _ (fun w' _ => by
    simp [execOp, hx, convert, run_underlying hst, run_underlying hdt, Conv.intToInt, hc]) h
theorem q_func {fn : Fn} {first cap : Array Operand} (fs cs : List Value) (h1 : first.toList.map (evF N ρ) = fs) (h2 : cap.toList.map (evF N ρ) = cs) (hu : Up ops N ρ ⟨some d, .makeFunc fn first cap, ty, pos, aft, g⟩)
    (h : LW P ops w0 Q os ks (mk N (upd ρ d (.func fn fs.toArray cs.toArray))) w) : LW P ops w0 Q (⟨some d, .makeFunc fn first cap, ty, pos, aft, g⟩ :: os) (0 :: ks) (mk N ρ) w :=
  lw_q (by decide) rfl hu _ (fun w' _ => by
    have e1 : first.map (evF N ρ) = fs.toArray := by rw [← h1]; apply Array.ext'; simp
    have e2 : cap.map (evF N ρ) = cs.toArray := by rw [← h2]; apply Array.ext'; simp
    simp [execOp, Instr.makeFunc, e1, e2]) h
end ops
end Go.Proofs.Ytjnbnlniafmblaa
namespace Go.Proofs.Ytjnbnlniafmblaa
open Go Go.RowKit
/-- How a value stands for a datum: in which memory, and by which blocks. -/
abbrev Stand (α : Type) := Array Obj → Value → α → List Nat → Prop
structure Good {α : Type} (E : Stand α) : Prop where
  cells : ∀ {H v x F}, E H v x F → v.cells = #[v]
  one : ∀ {H v x F}, E H v x F → v.oneCell' = true
  lt : ∀ {H v x F}, E H v x F → ∀ b ∈ F, b < H.size
  stable : ∀ {H H' v x F}, E H v x F → (∀ b ∈ F, H'[b]? = H[b]?) → E H' v x F
def els {α : Type} (E : Stand α) (H : Array Obj) : List Value → List α → List Nat → Prop
  | [], [], F => F = []
  | u :: us, x :: xs, F => ∃ F1 F2, F = F1 ++ F2 ∧ E H u x F1 ∧ els E H us xs F2
  | _, _, _ => False
section els
variable {α : Type} {E : Stand α} {H H' : Array Obj}
theorem els.stable (hE : Good E) : ∀ {us : List Value} {xs : List α} {F : List Nat}, els E H us xs F → (∀ b ∈ F, H'[b]? = H[b]?) → els E H' us xs F
  | [], [], _, h, _ => h
  | _ :: _, _ :: _, _, ⟨F1, F2, rfl, h1, h2⟩, hb =>
    ⟨F1, F2, rfl, hE.stable h1 fun b hh => hb b (List.mem_append_left _ hh), els.stable hE h2 fun b hh => hb b (List.mem_append_right _ hh)⟩
  | [], _ :: _, _, h, _ => h.elim
  | _ :: _, [], _, h, _ => h.elim
theorem els.lt (hE : Good E) : ∀ {us : List Value} {xs : List α} {F : List Nat}, els E H us xs F → ∀ b ∈ F, b < H.size
  | [], [], _, h, b, hb => by rw [show _ = [] from h] at hb; cases hb
  | _ :: _, _ :: _, _, ⟨F1, F2, rfl, h1, h2⟩, b, hb => (List.mem_append.1 hb).elim (hE.lt h1 b) (els.lt hE h2 b)
  | [], _ :: _, _, h, _, _ => h.elim
  | _ :: _, [], _, h, _, _ => h.elim
theorem els.get : ∀ {us : List Value} {xs : List α} {F : List Nat} {k : Nat} (d : α), els E H us xs F → k < xs.length →
    ∃ u F1, us[k]? = some u ∧ E H u (xs.getD k d) F1 ∧ ∀ b ∈ F1, b ∈ F
  | u :: us, x :: xs, _, 0, d, ⟨F1, F2, rfl, h1, h2⟩, _ => ⟨u, F1, rfl, h1, fun b hb => List.mem_append_left _ hb⟩
  | u :: us, x :: xs, _, k + 1, d, ⟨F1, F2, rfl, h1, h2⟩, hk => by
    obtain ⟨u', G, hu, hx, hb⟩ := els.get d h2 (by simpa using hk)
    exact ⟨u', G, by simpa using hu, by simpa using hx, fun b hh => List.mem_append_right _ (hb b hh)⟩
  | [], [], _, _, _, _, hk => by simp at hk
  | [], _ :: _, _, _, _, h, _ => h.elim
end els
/-- An int64 (or int). -/
def rI : Stand Int := fun _ v x F => v = .int .i64 x ∧ F = [] ∧ -9223372036854775808 ≤ x ∧ x ≤ 9223372036854775807
theorem good_rI : Good rI := ⟨fun h => by rw [h.1]; rfl, fun h => by rw [h.1]; rfl, fun h b hb => (by rw [h.2.1] at hb; cases hb), fun h _ => h⟩
/-- A slice that is read. -/
def rdL {α : Type} (E : Stand α) : Stand (List α) := fun H v xs F =>
  (∃ a cap, v = .slice a 0 cap ∧ xs = [] ∧ F = []) ∨
  ∃ us g off cap cur e fr F', els E H us xs F' ∧ v = .slice (some ⟨g, off, none⟩) xs.length cap ∧ H[g]? = some (.cells cur e fr) ∧ (cur.toList.drop off).take xs.length = us ∧ xs.length ≤ maxLen ∧ F = g :: F'
/-- A slice that is owned: its row lies alone in a block, with its spare places. -/
def owL {α : Type} (E : Stand α) (e : TypeId) : Stand (List α) := fun H v xs F =>
  (v = .slice none 0 0 ∧ xs = [] ∧ F = []) ∨
  ∃ us g cap cur F', els E H us xs F' ∧ v = .slice (some ⟨g, 0, none⟩) xs.length cap ∧ H[g]? = some (.cells cur e (0, 0)) ∧ xs.length ≤ cap ∧ cap ≤ maxLen ∧ cur.size = cap ∧ cur.toList.take xs.length = us ∧ F = g :: F'
theorem getElem?_lt {H : Array Obj} {g : Nat} {o : Obj} (h : H[g]? = some o) : g < H.size := (Array.getElem?_eq_some_iff.1 h).1
section lists
variable {α : Type} {E : Stand α} {e : TypeId} {H : Array Obj} {v : Value} {xs : List α} {F : List Nat}
theorem good_rdL (hE : Good E) : Good (rdL E) where
  cells := by
    rintro H v xs F (⟨a, cap, rfl, _⟩ | ⟨us, g, off, cap, cur, e, fr, F', _, rfl, _⟩) <;> rfl
  one := by
    rintro H v xs F (⟨a, cap, rfl, _⟩ | ⟨us, g, off, cap, cur, e, fr, F', _, rfl, _⟩) <;> rfl
  lt := by
    rintro H v xs F (⟨a, cap, rfl, _, rfl⟩ | ⟨us, g, off, cap, cur, e, fr, F', h, rfl, hg, _, _, rfl⟩) b hb
    · cases hb
    · rcases List.mem_cons.1 hb with rfl | hb
      · exact getElem?_lt hg
      · exact h.lt hE b hb
  stable := by
    rintro H H' v xs F (⟨a, cap, rfl, h1, h2⟩ | ⟨us, g, off, cap, cur, e, fr, F', h, rfl, hg, hw, hml, rfl⟩) hb
    · exact .inl ⟨a, cap, rfl, h1, h2⟩
    · exact .inr ⟨us, g, off, cap, cur, e, fr, F', h.stable hE fun b hh => hb b (List.mem_cons_of_mem _ hh), rfl, by rw [hb g (List.mem_cons_self ..)]; exact hg, hw, hml, rfl⟩
theorem good_owL (hE : Good E) : Good (owL E e) where
  cells := by
    rintro H v xs F (⟨rfl, _⟩ | ⟨us, g, cap, cur, F', _, rfl, _⟩) <;> rfl
  one := by
    rintro H v xs F (⟨rfl, _⟩ | ⟨us, g, cap, cur, F', _, rfl, _⟩) <;> rfl
  lt := by
    rintro H v xs F (⟨rfl, _, rfl⟩ | ⟨us, g, cap, cur, F', h, rfl, hg, _, _, _, _, rfl⟩) b hb
    · cases hb
    · rcases List.mem_cons.1 hb with rfl | hb
      · exact getElem?_lt hg
      · exact h.lt hE b hb
  stable := by
    rintro H H' v xs F (⟨rfl, h1, h2⟩ | ⟨us, g, cap, cur, F', h, rfl, hg, r1, r2, r3, r4, rfl⟩) hb
    · exact .inl ⟨rfl, h1, h2⟩
    · exact .inr ⟨us, g, cap, cur, F', h.stable hE fun b hh => hb b (List.mem_cons_of_mem _ hh), rfl, by rw [hb g (List.mem_cons_self ..)]; exact hg, r1, r2, r3, r4, rfl⟩
theorem rdL.isSl (h : rdL E H v xs F) : isSl v xs.length := by
  rcases h with ⟨a, cap, rfl, rfl, _⟩ | ⟨us, g, off, cap, cur, e, fr, F', _, rfl, _⟩
  · exact ⟨a, cap, rfl, fun _ => rfl⟩
  · exact ⟨_, cap, rfl, fun h => by cases h⟩
theorem eptr_mk (g off n cap k : Nat) : eptr (.slice (some ⟨g, off, none⟩) n cap) k 1 = .pointer (some ⟨g, off + k, none⟩) := by
  unfold eptr Addr.add
  simp only [Nat.mul_one]
  split
  · rename_i h; subst h; rfl
  · rfl
theorem rdL.get (d : α) {k : Nat} (h : rdL E H v xs F) (hk : k < xs.length) : ∃ u F1, ldH H (eptr v k 1) = some u ∧ E H u (xs.getD k d) F1 ∧ ∀ b ∈ F1, b ∈ F := by
  rcases h with ⟨a, cap, rfl, rfl, _⟩ | ⟨us, g, off, cap, cur, e, fr, F', h, rfl, hg, hw, _, rfl⟩
  · simp at hk
  · obtain ⟨u, F1, hu, hx, hb⟩ := h.get d hk
    refine ⟨u, F1, ?_, hx, fun b hh => List.mem_cons_of_mem _ (hb b hh)⟩
    rw [eptr_mk]
    simp only [ldH, cellH, hg]
    rw [← hw, List.getElem?_take, if_pos hk, List.getElem?_drop] at hu
    simpa using hu
theorem rdL.lenle (h : rdL E H v xs F) : xs.length ≤ maxLen := by
  rcases h with ⟨a, cap, _, rfl, _⟩ | ⟨us, g, off, cap, cur, e, fr, F', _, _, _, _, h, _⟩
  · simp
  · exact h
end lists
structure Chg (F : List Nat) (w w' : World) : Prop where
  os : w'.os = w.os
  tape : w'.tape = w.tape
  output : w'.output = w.output
  size : w.heap.size ≤ w'.heap.size
  block : ∀ k, k < w.heap.size → k ∉ F → w'.heap[k]? = w.heap[k]?
theorem Chg.below {F : List Nat} {w0 w w' : World} {B : Nat} (h : Below B w0 w) (c : Chg F w w') (hF : ∀ b ∈ F, B ≤ b) (hB : B ≤ w.heap.size) : Below B w0 w' :=
  h.trans ⟨c.os, c.tape, c.output, c.size, fun k hk => c.block k (by omega) fun hm => by have := hF k hm; omega⟩
theorem Ext.drew {w w' : World} (h : Ext w w') : Ext w w'.drew := ⟨h.os, h.tape, h.output, h.size, h.block⟩
theorem Ext.of_drew {w w' : World} (h : Ext w.drew w') : Ext w w' := ⟨h.os, h.tape, h.output, h.size, h.block⟩
/-- Owned memory of the call's own: all its blocks lie from B on and below U, each is met once. -/
def Fr {α : Type} (E : Stand α) (B U : Nat) (H : Array Obj) (v : Value) (x : α) : Prop := ∃ F, E H v x F ∧ F.Nodup ∧ ∀ b ∈ F, B ≤ b ∧ b < U
/-- What is read. -/
def Rd {α : Type} (E : Stand α) (H : Array Obj) (v : Value) (x : α) : Prop := ∃ F, E H v x F
section
variable {α : Type} {E : Stand α} {B U : Nat} {v : Value} {x : α} {w w' : World}
theorem Fr.ext (hE : Good E) (h : Fr E B U w.heap v x) (k : Ext w w') : Fr E B U w'.heap v x := by
  obtain ⟨F, h1, h2, h3⟩ := h
  exact ⟨F, hE.stable h1 fun b hb => k.heap (hE.lt h1 b hb), h2, h3⟩
theorem Fr.up (hE : Good E) {H : Array Obj} (h : Fr E B U H v x) : Fr E B H.size H v x := by
  obtain ⟨F, h1, h2, h3⟩ := h
  exact ⟨F, h1, h2, fun b hb => ⟨(h3 b hb).1, hE.lt h1 b hb⟩⟩
theorem Fr.low {H : Array Obj} {B' : Nat} (h : Fr E B U H v x) (hB : B' ≤ B) : Fr E B' U H v x := by
  obtain ⟨F, h1, h2, h3⟩ := h
  exact ⟨F, h1, h2, fun b hb => ⟨Nat.le_trans hB (h3 b hb).1, (h3 b hb).2⟩⟩
theorem Fr.chg (hE : Good E) {F : List Nat} (h : Fr E B U w.heap v x) (c : Chg F w w') (hF : ∀ b ∈ F, b < B ∨ U ≤ b) : Fr E B U w'.heap v x := by
  obtain ⟨G, h1, h2, h3⟩ := h
  refine ⟨G, hE.stable h1 fun b hb => c.block b (hE.lt h1 b hb) fun hm => ?_, h2, h3⟩
  have := h3 b hb
  have := hF b hm
  omega
theorem Rd.ext (hE : Good E) (h : Rd E w.heap v x) (k : Ext w w') : Rd E w'.heap v x := by
  obtain ⟨F, h1⟩ := h
  exact ⟨F, hE.stable h1 fun b hb => k.heap (hE.lt h1 b hb)⟩
end
section
variable {α : Type} {E : Stand α} {e : TypeId} {B U : Nat} {H : Array Obj} {v : Value} {xs : List α}
theorem Rd.lenle (h : Rd (rdL E) H v xs) : xs.length ≤ 9223372036854775807 := by
  obtain ⟨F, h⟩ := h
  have := rdL.lenle h
  simp only [maxLen] at this
  omega
theorem Rd.isSl (h : Rd (rdL E) H v xs) : isSl v xs.length := by obtain ⟨F, h⟩ := h; exact rdL.isSl h
theorem Rd.get (d : α) {k : Nat} (h : Rd (rdL E) H v xs) (hk : k < xs.length) : ∃ u, ldH H (eptr v k 1) = some u ∧ Rd E H u (xs.getD k d) := by
  obtain ⟨F, h⟩ := h
  obtain ⟨u, F1, h1, h2, _⟩ := rdL.get d h hk
  exact ⟨u, h1, F1, h2⟩
theorem Rd.getI {xs : List Int} {k : Nat} (h : Rd (rdL rI) H v xs) (hk : k < xs.length) : ldH H (eptr v k 1) = some (.int .i64 (xs.getD k 0)) ∧ -9223372036854775808 ≤ xs.getD k 0 ∧ xs.getD k 0 ≤ 9223372036854775807 := by
  obtain ⟨u, h1, F, h2, _, h3, h4⟩ := Rd.get (0 : Int) h hk
  rw [h1, h2]
  exact ⟨rfl, h3, h4⟩
end
theorem ret_int {a b : Int} (h : a = b) : Ending.returned (.int .i64 a) = .returned (.int .i64 b) := by rw [h]
theorem ret_bool {a b : Bool} (h : a = b) : Ending.returned (.bool a) = .returned (.bool b) := by rw [h]
theorem g1 : Good (rdL rI) := good_rdL good_rI
theorem g2 : Good (rdL (rdL rI)) := good_rdL g1
end Go.Proofs.Ytjnbnlniafmblaa
namespace Go.Proofs.Ytjnbnlniafmblaa
open Go Go.RowKit
theorem ext_alloc (w : World) (o : Obj) : Ext w (w.alloc o) := (Below.refl _ _).alloc (Nat.le_refl _) o
theorem owL_new {α : Type} {E : Stand α} (hE : Good E) {e : TypeId} {w : World} {us : List Value} {xs : List α} {F : List Nat} {cur : Array Value} (h : els E w.heap us xs F) (hm : cur.size ≤ maxLen)
    (hc : cur.toList.take xs.length = us) (hl : xs.length ≤ cur.size) :
    owL E e (w.alloc (.cells cur e)).heap (.slice (some ⟨w.heap.size, 0, none⟩) xs.length cur.size) xs (w.heap.size :: F) := by
  refine .inr ⟨us, w.heap.size, cur.size, cur, F, h.stable hE fun b hb => ?_, rfl, ?_, hl, hm, rfl, hc, rfl⟩
  · exact Below.heap_alloc _ _ _ (h.lt hE b hb)
  · show (w.heap.push _)[w.heap.size]? = _
    simp
theorem mapRange {f : Nat → Value} (n : Nat) : Array.map f (Array.range n) = ((List.range n).map f).toArray := by
  apply Array.ext'; simp
section run
variable {P : Program} {w : World}
theorem run_bs1 {t e : TypeId} {b : Nat} {z u : Value} (ht : P.underlying t = some (.slice e)) (hi : TI P e 1 z b) (hu : u.cells = #[u]) (hz : z.cells = #[z]) :
    (Instr.buildSlice t 1 #[(0, u)]).run P w = .ok (.slice (some ⟨w.heap.size, 0, none⟩) 1 1) (w.alloc (.cells #[u] e)) := by
  obtain ⟨i, h1, h2, h3, h4⟩ := hi.get
  simp [Instr.buildSlice, run_underlying ht, sizeOf, typeInfo, zeroValue, h1, h2, h3, Instr.fill, newRow, hu, hz, mapRange, List.range_succ]
end run
section ops
variable {P : Program} {ops : Array Oper} {w0 : World} {Q : Act → World → Prop} {os : List Oper} {ks : List Nat} {N : Nat} {ρ : Nat → Value} {w : World}
  {d : Nat} {ty : TypeId} {pos : String} {aft : Array Edge} {g : Option (Nat × Bool)} {t e : TypeId} {z : Value} {b : Nat}
/-- A new slice of one thing. -/
theorem r_one {α : Type} {E : Stand α} (hE : Good E) {x : Operand} {u : Value} {y : α} {B U : Nat} (ht : P.underlying t = some (.slice e)) (hi : TI P e 1 z b) (hz : z.cells = #[z]) (hx : evF N ρ x = u) (hy : Fr E B U w.heap u y) (hB : B ≤ w.heap.size)
    (hu : Up ops N ρ ⟨some d, .buildSlice t 1 #[(0, x)], ty, pos, aft, g⟩)
    (h : ∀ v w1, Ext w w1 → w1.heap.size = w.heap.size + 1 → Fr (owL E e) B w1.heap.size w1.heap v [y] → LW P ops w0 Q os ks (mk N (upd ρ d v)) w1) :
    LW P ops w0 Q (⟨some d, .buildSlice t 1 #[(0, x)], ty, pos, aft, g⟩ :: os) (3 :: ks) (mk N ρ) w := by
  obtain ⟨F, h1, h2, h3⟩ := hy
  have hr := run_bs1 (P := P) (w := w) ht hi (hE.cells h1) hz
  have hrun : (execOp (evF N ρ) ⟨some d, .buildSlice t 1 #[(0, x)], ty, pos, aft, g⟩).run P w = .ok (.value (.slice (some ⟨w.heap.size, 0, none⟩) 1 1)) (w.alloc (.cells #[u] e)) := by
    simp only [execOp, List.map_toArray, List.map_cons, List.map_nil, Sem.run_bind, hx, hr, Result.andThen_ok, Sem.run_pure]
  refine lw_r rfl hu _ _ hrun (ext_alloc _ _) (h _ _ (ext_alloc _ _) (by simp) ?_)
  have hn := owL_new (e := e) (w := w) hE (us := [u]) (xs := [y]) (F := F ++ []) (cur := #[u]) ⟨F, [], rfl, h1, rfl⟩ (by simp [maxLen]) rfl (by simp)
  refine ⟨_, hn, ?_, fun c hc => ?_⟩
  · rw [List.append_nil, List.nodup_cons]
    exact ⟨fun hm => by have := hE.lt h1 _ hm; omega, h2⟩
  · have hlt := (good_owL hE).lt hn c hc
    refine ⟨?_, hlt⟩
    rcases List.mem_cons.1 hc with rfl | hc
    · exact hB
    · exact (h3 c (by simpa using hc)).1
end ops
end Go.Proofs.Ytjnbnlniafmblaa
namespace Go.Proofs.Ytjnbnlniafmblaa
open Go Go.RowKit
/-- A value for itself. -/
def rV : Stand Value := fun _ v x F => v = x ∧ F = [] ∧ v.cells = #[v] ∧ v.oneCell' = true
theorem good_rV : Good rV := ⟨fun h => h.2.2.1, fun h => h.2.2.2, fun h b hb => (by rw [h.2.1] at hb; cases hb), fun h _ => h⟩
section run
variable {P : Program} {w : World}
/-- A store of one cell into a block that is not frozen. -/
theorem run_store1 {st : TypeId} (hst : (P.info? st).map (·.size) = some 1) {g j : Nat} {cur : Array Value} {e : TypeId} (hg : w.heap[g]? = some (.cells cur e (0, 0))) (hj : j < cur.size) {u : Value} (hc : u.cells = #[u]) (h1 : u.oneCell' = true) :
    (Instr.storeAt st (.pointer (some ⟨g, j, none⟩)) u).run P w = .ok () (w.setCell ⟨g, j, none⟩ u) := by
  obtain ⟨i, hi1, hi2⟩ := Option.map_eq_some_iff.1 hst
  have hcell : w.cell? ⟨g, j, none⟩ = some cur[j] := by
    rw [cell_cellH]; simp [cellH, hg, hj]
  have hfz : w.frozen? ⟨g, j, none⟩ = false := by
    simp only [World.frozen?, hg]; simp
  have hadd : (⟨g, j, none⟩ : Addr).add 0 = ⟨g, j, none⟩ := rfl
  have hst1 : (store ⟨g, j, none⟩ u).run P w = .ok () (w.setCell ⟨g, j, none⟩ u) := by
    rw [run_store P w _ _ _ h1, hcell]
    simp only [hfz]
    rfl
  simp only [Instr.storeAt, Instr.sureAddr, Sem.run_bind, Sem.run_pure, Result.andThen_ok, storeVar, sizeOf, typeInfo, run_program, hi1, hi2, hc]
  simp [storeCells, hadd, hst1]
theorem chg_set (w : World) (g j : Nat) (u : Value) : Chg [g] w (w.setCell ⟨g, j, none⟩ u) :=
  ⟨rfl, rfl, rfl, by simp [World.setCell], fun k hk hne => Below.heap_setCell _ _ _ _ (by simpa using hne)⟩
theorem heap_set {w : World} {g j : Nat} {u : Value} {cur : Array Value} {e : TypeId} (hg : w.heap[g]? = some (.cells cur e (0, 0))) : (w.setCell ⟨g, j, none⟩ u).heap[g]? = some (.cells (cur.setIfInBounds j u) e (0, 0)) := by
  simp only [World.setCell, Array.getElem?_modify]
  simp [hg]
end run
section ops
variable {P : Program} {ops : Array Oper} {w0 : World} {Q : Act → World → Prop} {os : List Oper} {ks : List Nat} {N : Nat} {ρ : Nat → Value} {w : World}
  {d : Nat} {ty : TypeId} {pos : String} {aft : Array Edge} {g : Option (Nat × Bool)} {t e : TypeId} {z : Value} {b : Nat}
theorem exec_store {st : TypeId} {x y : Operand} {p u : Value} {w1 : World} (hx : evF N ρ x = p) (hy : evF N ρ y = u) (hr : (Instr.storeAt st p u).run P w = .ok () w1) :
    (execOp (evF N ρ) ⟨none, .store st x y, ty, pos, aft, g⟩).run P w = .ok .skip w1 := by
  simp only [execOp, hx, hy, Sem.run_bind, hr, Result.andThen_ok, Sem.run_pure]
/-- A call that may write. -/
theorem lw_callE {x : Operand} {xs : Array Operand} {ats : Array TypeId} (f : FuncId) (first cap : List Value) (args : List Value)
    (hx : evF N ρ x = .func (.func f) first.toArray cap.toArray) (hxs : first ++ (xs.toList.map (evF N ρ)) ++ cap = args) (hf : ((P.funcs[f]?).map fun fn => (fn.name != "runtime.NumGoroutine") && fn.body.isSome) = some true)
    (hu : Up ops N ρ ⟨some d, .call ⟨.value x, xs, ats⟩, ty, pos, aft, g⟩) {R : Ending → World → Prop} (hc : Calls P f args.toArray w R)
    (h : ∀ e w1, R e w1 → ∃ v, e = .returned v ∧ LW P ops w0 Q os ks (mk N (upd ρ d v)) w1) :
    LW P ops w0 Q (⟨some d, .call ⟨.value x, xs, ats⟩, ty, pos, aft, g⟩ :: os) (4 :: ks) (mk N ρ) w := by
  simp only [LW]
  rw [if_pos hu]
  unfold OneOp
  rw [if_neg (by decide), if_neg (by decide)]
  unfold Oper.wp
  rw [mk_eval]
  have hrun : (execOp (evF N ρ) ⟨some d, .call ⟨.value x, xs, ats⟩, ty, pos, aft, g⟩).run P w = .ok (.enter f args.toArray) w := by
    obtain ⟨fn, hfn, hb⟩ := Option.map_eq_some_iff.1 hf
    simp only [Bool.and_eq_true, bne_iff_ne, ne_eq] at hb
    have hargs : first.toArray ++ xs.map (evF N ρ) ++ cap.toArray = args.toArray := by
      rw [← hxs]; apply Array.ext'; simp
    obtain ⟨c, hbc⟩ := Option.isSome_iff_exists.1 hb.2
    have hcf : (callFunc f args.toArray).run P w = .ok (.enter f args.toArray) w := by
      simp [callFunc, hfn, hb.1, hbc]
    simp [execOp, resolve, hargs, hx, Deferred.ofValue, invoke, hcf]
  rw [hrun]
  refine Calls.mono hc (fun e w1 he => ?_)
  obtain ⟨v, rfl, hL⟩ := h e w1 he
  show LW P ops w0 Q os ks ((mk N ρ).put (some d) v) w1
  rw [mk_put]
  exact hL
end ops
end Go.Proofs.Ytjnbnlniafmblaa
namespace Go.Proofs.Ytjnbnlniafmblaa
open Go Go.RowKit
theorem oM {p : Prop} (h : p := by omega) : p := h
theorem sM {p : Prop} (h : p := by simp) : p := h
theorem sD {p : Prop} (h : p := by first | omega | assumption | (simp only [List.length_nil, List.length_cons, List.length_append, List.length_set, List.length_replicate]; omega) | (simp [List.length_nil, List.length_cons, List.length_append, List.length_set, List.length_replicate]; done) | (simp [List.length_nil, List.length_cons, List.length_append, List.length_set, List.length_replicate]; omega)) : p := h
theorem Chg.refl (F : List Nat) (w : World) : Chg F w w := ⟨rfl, rfl, rfl, Nat.le_refl _, fun _ _ _ => rfl⟩
theorem Chg.ext {F : List Nat} {a b c : World} (h : Chg F a b) (k : Ext b c) : Chg F a c :=
  ⟨k.os.trans h.os, k.tape.trans h.tape, k.output.trans h.output, Nat.le_trans h.size k.size, fun i hi hm => (k.heap (Nat.lt_of_lt_of_le hi h.size)).trans (h.block i hi hm)⟩
theorem Chg.trans {F : List Nat} {a b c : World} (h : Chg F a b) (k : Chg F b c) : Chg F a c :=
  ⟨k.os.trans h.os, k.tape.trans h.tape, k.output.trans h.output, Nat.le_trans h.size k.size, fun i hi hm => (k.block i (Nat.lt_of_lt_of_le hi h.size) hm).trans (h.block i hi hm)⟩
theorem Chg.of_drew {F : List Nat} {a b : World} (h : Chg F a.drew b) : Chg F a b := ⟨h.os, h.tape, h.output, h.size, h.block⟩
theorem Chg.sub {F G : List Nat} {a b : World} (h : Chg F a b) (hs : ∀ x ∈ F, x ∈ G) : Chg G a b := ⟨h.os, h.tape, h.output, h.size, fun k hk hm => h.block k hk fun hh => hm (hs k hh)⟩
theorem own_ext {α : Type} {E : Stand α} (hE : Good E) {w w' : World} {v : Value} {x : α} {F : List Nat} (h : E w.heap v x F) (k : Ext w w') : E w'.heap v x F := hE.stable h fun b hb => k.heap (hE.lt h b hb)
section ops
variable {P : Program} {ops : Array Oper} {w0 : World} {Q : Act → World → Prop} {os : List Oper} {ks : List Nat} {N : Nat} {ρ : Nat → Value} {w : World}
  {d : Nat} {ty : TypeId} {pos : String} {aft : Array Edge} {g : Option (Nat × Bool)} {t e : TypeId} {z : Value} {b : Nat}
theorem lw_nil {a : Act} (h : Q a w) : LW P ops w0 Q [] ks a w := h
def yv (ops : Array Oper) (N : Nat) (ρ : Nat → Value) (j : Nat) : Option Bool := match (ops[j]?).bind (·.dst) with
  | some e => match cond (Nat.blt e N) (ρ e) undef with
    | .bool c => some c
    | _ => none
  | none => none
theorem yv_eq (ops : Array Oper) (N : Nat) (ρ : Nat → Value) (j : Nat) : yielded ops (mk N ρ).tmps j = yv ops N ρ j := by
  unfold yv yielded
  cases (ops[j]?).bind (·.dst) with
  | none => rfl
  | some e =>
    by_cases h : e < N
    · have hb : Nat.blt e N = true := by simpa using h
      simp only [mk, hb, cond_true]
      have e1 : ((List.range N).map ρ).toArray[e]? = some (ρ e) := by simp [h]
      show (match ((List.range N).map ρ).toArray[e]? with | some (.bool b) => some b | _ => none) = _
      rw [e1]
      cases ρ e <;> rfl
    · have hb : Nat.blt e N = false := by
        cases hb : Nat.blt e N with
        | false => rfl
        | true => exact absurd (by simpa using hb) h
      simp [mk, Nat.not_lt.1 h, hb, undef]
def gdB (ops : Array Oper) (N : Nat) (ρ : Nat → Value) : Option (Nat × Bool) → Bool
  | none => true
  | some (j, b) => match yv ops N ρ j with
    | some c => cond b c (!c)
    | none => false
theorem gdB_eq (ops : Array Oper) (N : Nat) (ρ : Nat → Value) (o : Oper) : Region.wanted o (yielded ops (mk N ρ).tmps) = gdB ops N ρ o.guard := by
  unfold Region.wanted gdB
  cases o.guard with
  | none => rfl
  | some x =>
    obtain ⟨j, b⟩ := x
    simp only [yv_eq]
    cases yv ops N ρ j with
    | none => rfl
    | some c => cases c <;> cases b <;> rfl
/-- A slot is given what an operand is. -/
def mvF (N : Nat) (ρ : Nat → Value) (d : Nat) (x : Operand) : Nat → Value := fun i => cond (Nat.beq i d) (evF N ρ x) (ρ i)
def skF (ρ : Nat → Value) (d : Nat) : Nat → Value := fun i => cond (Nat.beq i d) undef (ρ i)
def pkF (N : Nat) (ρ : Nat → Value) (d : Nat) (c x y : Operand) : Nat → Value := fun i => cond (Nat.beq i d) (match evF N ρ c with
  | .bool true => evF N ρ x
  | _ => evF N ρ y) (ρ i)
def tv1 (ops : Array Oper) (N : Nat) (o : Oper) (k : Nat) (ρ : Nat → Value) : Option (Nat → Value) :=
  cond (gdB ops N ρ o.guard)
    (cond (Nat.ble k 2)
      (match o.dst with
      | none => none
      | some d => match o.op with
        | .move x => some (mvF N ρ d x)
        | .assign x => some (mvF N ρ d x)
        | .pick c x y => match evF N ρ c with
          | .bool _ => some (pkF N ρ d c x y)
          | _ => none
        | _ => none) none)
    (match o.dst with
    | none => some ρ
    | some d => some (skF ρ d))
def tv (ops : Array Oper) (N : Nat) : Nat → List Oper → List Nat → (Nat → Value) → Option (List Oper × List Nat × (Nat → Value))
  | 0, os, ks, ρ => some (os, ks, ρ)
  | n + 1, o :: os, k :: ks, ρ => match tv1 ops N o k ρ with
    | some ρ' => tv ops N n os ks ρ'
    | none => none
  | _ + 1, _, _, _ => none
theorem lw_tv1 {o : Oper} {k : Nat} {ρ' : Nat → Value} (h : tv1 ops N o k ρ = some ρ') (hn : LW P ops w0 Q os ks (mk N ρ') w) : LW P ops w0 Q (o :: os) (k :: ks) (mk N ρ) w := by
  simp only [LW]
  rw [gdB_eq]
  unfold tv1 at h
  cases hg : gdB ops N ρ o.guard with
  | false =>
    rw [hg] at h
    rw [if_neg (by simp)]
    cases hd : o.dst with
    | none => rw [hd] at h; cases h; exact hn
    | some d => rw [hd] at h; injection h with h; rw [mk_put, show upd ρ d undef = ρ' from h]; exact hn
  | true =>
    rw [hg] at h
    rw [if_pos rfl]
    cases hk : Nat.ble k 2 with
    | false => rw [hk] at h; cases h
    | true =>
      rw [hk] at h
      have hk2 : k ≤ 2 := by simpa using hk
      unfold OneOp
      rw [if_pos hk2]
      cases hd : o.dst with
      | none => rw [hd] at h; cases h
      | some d =>
        rw [hd] at h
        have key : ∀ v, ρ' = upd ρ d v → (∀ w', (execOp (evF N ρ) o).run P w' = .ok (.value v) w') → ∃ v, (∀ w', Cl w0 w k w' → YA P o (mk N ρ) w' v) ∧ LW P ops w0 Q os ks ((mk N ρ).put (some d) v) w := fun v hv hr =>
          ⟨v, fun w' _ => .inl (by rw [mk_eval]; exact hr w'), by rw [mk_put, ← hv]; exact hn⟩
        obtain ⟨od, oop, oty, opos, oaft, og⟩ := o
        dsimp only at h
        cases oop with
        | move x => injection h with h; exact key (evF N ρ x) h.symm fun w' => by simp [execOp]
        | assign x => injection h with h; exact key (evF N ρ x) h.symm fun w' => by simp [execOp]
        | pick c x y =>
          dsimp only at h
          split at h
          · rename_i bb hc; injection h with h
            refine key (match evF N ρ c with
              | .bool true => evF N ρ x
              | _ => evF N ρ y) h.symm fun w' => ?_
            rw [hc]
            cases bb <;> simp [execOp, hc, asBool]
          · cases h
        | _ => cases h
theorem lw_tv {os' : List Oper} {ks' : List Nat} {ρ' : Nat → Value} (n : Nat) (h : tv ops N n os ks ρ = some (os', ks', ρ')) (hn : LW P ops w0 Q os' ks' (mk N ρ') w) : LW P ops w0 Q os ks (mk N ρ) w := by
  induction n generalizing os ks ρ with
  | zero =>
    have h' : (os, ks, ρ) = (os', ks', ρ') := by injection h
    cases h'; exact hn
  | succ n ih =>
    cases os with
    | nil => cases ks <;> cases h
    | cons o os =>
      cases ks with
      | nil => cases h
      | cons k ks =>
        have h' : (match tv1 ops N o k ρ with | some ρ' => tv ops N n os ks ρ' | none => none) = some (os', ks', ρ') := h
        split at h'
        · rename_i r hr; exact lw_tv1 hr (ih h')
        · cases h'
theorem lw_tvn {ks' : List Nat} {ρ' : Nat → Value} (n : Nat) (h : tv ops N n os ks ρ = some ([], ks', ρ')) (hn : Q (mk N ρ') w) : LW P ops w0 Q os ks (mk N ρ) w :=
  lw_tv n h (show LW P ops w0 Q [] ks' (mk N ρ') w from hn)
end ops
end Go.Proofs.Ytjnbnlniafmblaa
namespace Go.Proofs.Ytjnbnlniafmblaa
open Go Go.RowKit
set_option linter.unusedVariables false
set_option linter.unusedSimpArgs false
theorem frV (B U : Nat) (H : Array Obj) {u : Value} (h : u.cells = #[u] ∧ u.oneCell' = true) : Fr rV B U H u u := ⟨[], ⟨rfl, rfl, h.1, h.2⟩, List.nodup_nil, fun c hc => by cases hc⟩
end Go.Proofs.Ytjnbnlniafmblaa
namespace Go.Proofs.Ytjnbnlniafmblaa
open Go Go.RowKit
set_option linter.unusedVariables false
set_option linter.unusedSimpArgs false
/-- A block that holds these cells. -/
def BX (H : Array Obj) (g : Nat) (cs : List Value) : Prop := ∃ e, H[g]? = some (.cells cs.toArray e (0, 0))
theorem BX.lt {H : Array Obj} {g : Nat} {cs : List Value} (h : BX H g cs) : g < H.size := by obtain ⟨e, h⟩ := h; exact getElem?_lt h
theorem BX.ext {w w' : World} {g : Nat} {cs : List Value} (h : BX w.heap g cs) (k : Ext w w') : BX w'.heap g cs := by
  have hl := h.lt
  obtain ⟨e, h⟩ := h
  exact ⟨e, by rw [k.heap hl]; exact h⟩
theorem BX.chg {w w' : World} {g : Nat} {cs : List Value} {F : List Nat} (h : BX w.heap g cs) (k : Chg F w w') (hg : g ∉ F) : BX w'.heap g cs := by
  have hl := h.lt
  obtain ⟨e, h⟩ := h
  exact ⟨e, by rw [k.block g hl hg]; exact h⟩
theorem w8r (x : UInt8) : -9223372036854775808 ≤ ((x.toNat : Nat) : Int) ∧ ((x.toNat : Nat) : Int) ≤ 9223372036854775807 := by
  have := x.toNat_lt; omega
theorem w8 (x : UInt8) : IntKind.i64.wrap ((x.toNat : Nat) : Int) = ((x.toNat : Nat) : Int) := w64 (w8r x).1 (w8r x).2
section ops
variable {P : Program} {ops : Array Oper} {w0 : World} {Q : Act → World → Prop} {os : List Oper} {ks : List Nat} {N : Nat} {ρ : Nat → Value} {w : World}
  {d : Nat} {ty : TypeId} {pos : String} {aft : Array Edge} {g : Option (Nat × Bool)} {t e : TypeId}
/-- A store of one cell into a box. -/
theorem e_setB {st : TypeId} {x y : Operand} {b k : Nat} {u : Value} {cs : List Value} (hst : (P.info? st).map (·.size) = some 1) (hx : evF N ρ x = .pointer (some ⟨b, k, none⟩)) (hy : evF N ρ y = u) (hc : u.cells = #[u] ∧ u.oneCell' = true)
    (hb : BX w.heap b cs) (hk : k < cs.length) (hu : Up ops N ρ ⟨none, .store st x y, ty, pos, aft, g⟩)
    (h : ∀ w1, Chg [b] w w1 → w1.heap.size = w.heap.size → BX w1.heap b (cs.set k u) → LW P ops w0 Q os ks (mk N ρ) w1) :
    LW P ops w0 Q (⟨none, .store st x y, ty, pos, aft, g⟩ :: os) (4 :: ks) (mk N ρ) w := by
  obtain ⟨e, hb⟩ := hb
  have hr := run_store1 (P := P) hst hb (j := k) (by simpa using hk) hc.1 hc.2
  refine lw_s rfl hu _ (exec_store hx hy hr) (h _ (chg_set _ _ _ _) (by simp [World.setCell]) ⟨e, ?_⟩)
  rw [heap_set hb]
  simp
/-- A struct is built. -/
theorem q_build {parts : Array (Nat × Operand)} {ps : Array (Nat × Value)} (u : Value) (hp : (parts.map fun (i, x) => (i, evF N ρ x)) = ps) (hr : ∀ w', (Instr.build t ps).run P w' = .ok u w') (hu : Up ops N ρ ⟨some d, .build t parts, ty, pos, aft, g⟩)
    (h : LW P ops w0 Q os ks (mk N (upd ρ d u)) w) : LW P ops w0 Q (⟨some d, .build t parts, ty, pos, aft, g⟩ :: os) (0 :: ks) (mk N ρ) w :=
  lw_q (by decide) rfl hu _ (fun w' _ => by subst hp; simp [execOp, hr w']) h
/-- A struct is boxed. -/
theorem r_boxA {x : Operand} {cs : Array Value} (hx : evF N ρ x = .agg cs) (hu : Up ops N ρ ⟨some d, .box t x, ty, pos, aft, g⟩)
    (h : ∀ w1, Ext w w1 → w1.heap.size = w.heap.size + 1 → BX w1.heap w.heap.size cs.toList → LW P ops w0 Q os ks (mk N (upd ρ d (.pointer (some ⟨w.heap.size, 0, none⟩)))) w1) :
    LW P ops w0 Q (⟨some d, .box t x, ty, pos, aft, g⟩ :: os) (3 :: ks) (mk N ρ) w := by
  have hrun : (execOp (evF N ρ) ⟨some d, .box t x, ty, pos, aft, g⟩).run P w = .ok (.value (.pointer (some ⟨w.heap.size, 0, none⟩))) (w.alloc (.cells cs t)) := by
    simp [execOp, Instr.box, newVar, newRow, hx, Value.cells]
  refine lw_r rfl hu _ _ hrun (ext_alloc _ _) (h _ (ext_alloc _ _) (by simp) ⟨t, ?_⟩)
  have := heap_alloc_new w (.cells cs t)
  simpa using this
end ops
end Go.Proofs.Ytjnbnlniafmblaa
namespace Go.Proofs.Ytjnbnlniafmblaa
open Go Go.RowKit
set_option linter.unusedVariables false
set_option linter.unusedSimpArgs false
/-- How cells stand for a datum: in which memory, and by which blocks. -/
abbrev StandN (α : Type) := Array Obj → List Value → α → List Nat → Prop
structure GoodN {α : Type} (s : Nat) (E : StandN α) : Prop where
  len : ∀ {H cs x F}, E H cs x F → cs.length = s
  one : ∀ {H cs x F}, E H cs x F → ∀ u ∈ cs, u.cells = #[u] ∧ u.oneCell' = true
  lt : ∀ {H cs x F}, E H cs x F → ∀ b ∈ F, b < H.size
  stable : ∀ {H H' cs x F}, E H cs x F → (∀ b ∈ F, H'[b]? = H[b]?) → E H' cs x F
def elsN {α : Type} (E : StandN α) (H : Array Obj) : List (List Value) → List α → List Nat → Prop
  | [], [], F => F = []
  | c :: css, x :: xs, F => ∃ F1 F2, F = F1 ++ F2 ∧ E H c x F1 ∧ elsN E H css xs F2
  | _, _, _ => False
section elsN
variable {α : Type} {E : StandN α} {s : Nat} {H H' : Array Obj}
theorem elsN.length : ∀ {css : List (List Value)} {xs : List α} {F : List Nat}, elsN E H css xs F → css.length = xs.length
  | [], [], _, _ => rfl
  | _ :: _, _ :: _, _, ⟨_, _, _, _, h⟩ => by simp [elsN.length h]
  | [], _ :: _, _, h => h.elim
  | _ :: _, [], _, h => h.elim
theorem elsN.stable (hE : GoodN s E) : ∀ {css : List (List Value)} {xs : List α} {F : List Nat}, elsN E H css xs F → (∀ b ∈ F, H'[b]? = H[b]?) → elsN E H' css xs F
  | [], [], _, h, _ => h
  | _ :: _, _ :: _, _, ⟨F1, F2, rfl, h1, h2⟩, hb =>
    ⟨F1, F2, rfl, hE.stable h1 fun b hh => hb b (List.mem_append_left _ hh), elsN.stable hE h2 fun b hh => hb b (List.mem_append_right _ hh)⟩
  | [], _ :: _, _, h, _ => h.elim
  | _ :: _, [], _, h, _ => h.elim
theorem elsN.lt (hE : GoodN s E) : ∀ {css : List (List Value)} {xs : List α} {F : List Nat}, elsN E H css xs F → ∀ b ∈ F, b < H.size
  | [], [], _, h, b, hb => by rw [show _ = [] from h] at hb; cases hb
  | _ :: _, _ :: _, _, ⟨F1, F2, rfl, h1, h2⟩, b, hb => (List.mem_append.1 hb).elim (hE.lt h1 b) (elsN.lt hE h2 b)
  | [], _ :: _, _, h, _, _ => h.elim
  | _ :: _, [], _, h, _, _ => h.elim
theorem elsN.get (hE : GoodN s E) : ∀ {css : List (List Value)} {xs : List α} {F : List Nat} {k : Nat} (d : α), elsN E H css xs F → k < xs.length →
    ∃ cs F1, E H cs (xs.getD k d) F1 ∧ (∀ b ∈ F1, b ∈ F) ∧ ∀ i, i < s → css.flatten[k * s + i]? = some (cs.getD i undef)
  | c :: css, x :: xs, _, 0, d, ⟨F1, F2, rfl, h1, h2⟩, _ => ⟨c, F1, h1, fun b hb => List.mem_append_left _ hb, fun i hi => by
      have hl := hE.len h1
      rw [List.flatten_cons, Nat.zero_mul, Nat.zero_add, List.getElem?_append_left (by omega)]
      simp [hl, hi]⟩
  | c :: css, x :: xs, _, k + 1, d, ⟨F1, F2, rfl, h1, h2⟩, hk => by
    obtain ⟨cs, G, q1, q2, q3⟩ := elsN.get hE d h2 (by simpa using hk)
    refine ⟨cs, G, by simpa using q1, fun b hh => List.mem_append_right _ (q2 b hh), fun i hi => ?_⟩
    have hl := hE.len h1
    have e : (k + 1) * s + i = c.length + (k * s + i) := by rw [Nat.succ_mul, hl]; omega
    rw [List.flatten_cons, e, List.getElem?_append_right (by omega), Nat.add_sub_cancel_left]
    exact q3 i hi
  | [], [], _, _, _, _, hk => by simp at hk
  | [], _ :: _, _, _, _, h, _ => h.elim
theorem elsN.append : ∀ {us vs : List (List Value)} {xs ys : List α} {F G : List Nat}, elsN E H us xs F → elsN E H vs ys G → elsN E H (us ++ vs) (xs ++ ys) (F ++ G)
  | [], _, [], _, _, _, h, k => by rw [show _ = [] from h]; exact k
  | _ :: _, _, _ :: _, _, _, _, ⟨F1, F2, rfl, h1, h2⟩, k => ⟨F1, _, by rw [List.append_assoc], h1, elsN.append h2 k⟩
  | [], _, _ :: _, _, _, _, h, _ => h.elim
  | _ :: _, _, [], _, _, _, h, _ => h.elim
theorem elsN.flen (hE : GoodN s E) : ∀ {css : List (List Value)} {xs : List α} {F : List Nat}, elsN E H css xs F → css.flatten.length = xs.length * s
  | [], [], _, _ => by simp
  | c :: css, x :: xs, _, ⟨F1, F2, rfl, h1, h2⟩ => by
    rw [List.flatten_cons, List.length_append, hE.len h1, elsN.flen hE h2, List.length_cons, Nat.succ_mul]; omega
  | [], _ :: _, _, h => h.elim
  | _ :: _, [], _, h => h.elim
theorem elsN.one (hE : GoodN s E) : ∀ {css : List (List Value)} {xs : List α} {F : List Nat}, elsN E H css xs F → ∀ u ∈ css.flatten, u.cells = #[u] ∧ u.oneCell' = true
  | [], [], _, _, u, hu => by cases hu
  | _ :: _, _ :: _, _, ⟨F1, F2, rfl, h1, h2⟩, v, hv => by
    rw [List.flatten_cons] at hv
    exact (List.mem_append.1 hv).elim (hE.one h1 v) (elsN.one hE h2 v)
  | [], _ :: _, _, h, _, _ => h.elim
  | _ :: _, [], _, h, _, _ => h.elim
end elsN
/-- A slice of structs of s cells. -/
def rdS {α : Type} (s : Nat) (E : StandN α) : Stand (List α) := fun H v xs F =>
  (∃ a cap, v = .slice a 0 cap ∧ xs = [] ∧ F = []) ∨
  ∃ css g off cap cur e fr F', elsN E H css xs F' ∧ v = .slice (some ⟨g, off, none⟩) xs.length cap ∧ H[g]? = some (.cells cur e fr) ∧ (cur.toList.drop off).take (xs.length * s) = css.flatten ∧ (xs.length ≤ maxLen ∧ xs.length ≤ cap) ∧ F = g :: F'
/-- The cells that lie at a pointer. -/
def LD (H : Array Obj) (p : Value) (cs : List Value) : Prop := ∃ g o, p = .pointer (some ⟨g, o, none⟩) ∧ ∀ i, i < cs.length → cellH H g (o + i) = some (cs.getD i undef)
def padd (p : Value) (k : Nat) : Value :=
  match p with
  | .pointer (some ⟨g, o, none⟩) => .pointer (some ⟨g, o + k, none⟩)
  | _ => undef
theorem LD.ld {H : Array Obj} {p : Value} {cs : List Value} (h : LD H p cs) {i : Nat} (hi : i < cs.length) : ldH H (padd p i) = some (cs.getD i undef) := by
  obtain ⟨g, o, rfl, h⟩ := h
  exact h i hi
theorem eptr_s (g off n cap k s : Nat) : eptr (.slice (some ⟨g, off, none⟩) n cap) k s = .pointer (some ⟨g, off + k * s, none⟩) := by
  unfold eptr Addr.add
  simp only
  split
  · rename_i h; rw [h]; rfl
  · rfl
section rdS
variable {α : Type} {E : StandN α} {s : Nat} {H H' : Array Obj} {v : Value} {xs : List α} {F : List Nat}
theorem good_rdS (hE : GoodN s E) : Good (rdS s E) where
  cells := by
    rintro H v xs F (⟨a, cap, rfl, _⟩ | ⟨us, g, off, cap, cur, e, fr, F', _, rfl, _⟩) <;> rfl
  one := by
    rintro H v xs F (⟨a, cap, rfl, _⟩ | ⟨us, g, off, cap, cur, e, fr, F', _, rfl, _⟩) <;> rfl
  lt := by
    rintro H v xs F (⟨a, cap, rfl, _, rfl⟩ | ⟨us, g, off, cap, cur, e, fr, F', h, rfl, hg, _, _, rfl⟩) b hb
    · cases hb
    · rcases List.mem_cons.1 hb with rfl | hb
      · exact getElem?_lt hg
      · exact h.lt hE b hb
  stable := by
    rintro H H' v xs F (⟨a, cap, rfl, h1, h2⟩ | ⟨us, g, off, cap, cur, e, fr, F', h, rfl, hg, hw, hml, rfl⟩) hb
    · exact .inl ⟨a, cap, rfl, h1, h2⟩
    · exact .inr ⟨us, g, off, cap, cur, e, fr, F', h.stable hE fun b hh => hb b (List.mem_cons_of_mem _ hh), rfl, by rw [hb g (List.mem_cons_self ..)]; exact hg, hw, hml, rfl⟩
theorem rdS.isSl (h : rdS s E H v xs F) : isSl v xs.length := by
  rcases h with ⟨a, cap, rfl, rfl, _⟩ | ⟨us, g, off, cap, cur, e, fr, F', _, rfl, _⟩
  · exact ⟨a, cap, rfl, fun _ => rfl⟩
  · exact ⟨_, cap, rfl, fun h => by cases h⟩
theorem rdS.lenle (h : rdS s E H v xs F) : xs.length ≤ maxLen := by
  rcases h with ⟨a, cap, _, rfl, _⟩ | ⟨us, g, off, cap, cur, e, fr, F', _, _, _, _, h, _⟩
  · simp
  · exact h.1
theorem rdS.cap (h : rdS s E H v xs F) : ∃ a c, v = .slice a xs.length c ∧ xs.length ≤ c := by
  rcases h with ⟨a, cap, rfl, rfl, _⟩ | ⟨us, g, off, cap, cur, e, fr, F', _, rfl, _, _, h, _⟩
  · exact ⟨a, cap, rfl, Nat.zero_le _⟩
  · exact ⟨_, cap, rfl, h.2⟩
/-- The first ones. -/
theorem elsN_take (hE : GoodN s E) : ∀ {css : List (List Value)} {xs : List α} {F : List Nat} (k : Nat), elsN E H css xs F → ∃ G, elsN E H (css.take k) (xs.take k) G ∧ ∀ b ∈ G, b ∈ F
  | [], [], F, k, h => ⟨[], by simp [elsN], fun b hb => by cases hb⟩
  | c :: css, x :: xs, F, 0, h => ⟨[], by simp [elsN], fun b hb => by cases hb⟩
  | c :: css, x :: xs, _, k + 1, ⟨F1, F2, rfl, h1, h2⟩ => by
    obtain ⟨G, g1, g2⟩ := elsN_take hE k h2
    exact ⟨F1 ++ G, ⟨F1, G, rfl, h1, g1⟩, fun b hb => (List.mem_append.1 hb).elim (fun h => List.mem_append_left _ h) (fun h => List.mem_append_right _ (g2 b h))⟩
  | [], _ :: _, _, _, h => h.elim
  | _ :: _, [], _, _, h => h.elim
theorem rdS.take (hE : GoodN s E) {k : Nat} {a : Option Addr} {n c : Nat} (h : rdS s E H (.slice a n c) xs F) (hk : k ≤ xs.length) : ∃ G, rdS s E H (.slice a k c) (xs.take k) G ∧ ∀ b ∈ G, b ∈ F := by
  rcases h with ⟨a', cap, hv, rfl, _⟩ | ⟨us, g, off, cap, cur, e, fr, F', h, hv, hg, hw, hl, rfl⟩
  · have : k = 0 := by simpa using hk
    subst this
    exact ⟨[], .inl ⟨a, c, rfl, by simp, rfl⟩, fun b hb => by cases hb⟩
  · injection hv with h1 h2 h3
    subst h1; subst h2; subst h3
    obtain ⟨G, g1, g2⟩ := elsN_take hE k h
    have hkl : (xs.take k).length = k := by rw [List.length_take]; omega
    refine ⟨g :: G, .inr ⟨us.take k, g, off, c, cur, e, fr, G, g1, by rw [hkl], hg, ?_, by rw [hkl]; omega, rfl⟩, fun b hb => ?_⟩
    · have hf := h.flen hE
      have ht := g1.flen hE
      rw [hkl] at ht
      rw [hkl]
      have e1 : us.flatten = (us.take k).flatten ++ (us.drop k).flatten := by rw [← List.flatten_append, List.take_append_drop]
      have e2 : (cur.toList.drop off).take (k * s) = ((cur.toList.drop off).take (xs.length * s)).take (k * s) := by
        rw [List.take_take, Nat.min_eq_left (Nat.mul_le_mul_right s hk)]
      rw [e2, hw, e1, ← ht, List.take_left]
    · rcases List.mem_cons.1 hb with rfl | hb
      · exact List.mem_cons_self ..
      · exact List.mem_cons_of_mem _ (g2 b hb)
theorem rdS.get (hE : GoodN s E) (d : α) {k : Nat} (h : rdS s E H v xs F) (hk : k < xs.length) :
    ∃ cs F1, E H cs (xs.getD k d) F1 ∧ (∀ b ∈ F1, b ∈ F) ∧ ∀ H' : Array Obj, (∀ b ∈ F, H'[b]? = H[b]?) → LD H' (eptr v k s) cs := by
  rcases h with ⟨a, cap, rfl, rfl, _⟩ | ⟨css, g, off, cap, cur, e, fr, F', h, rfl, hg, hw, _, rfl⟩
  · simp at hk
  · obtain ⟨cs, F1, q1, q2, q3⟩ := h.get hE d hk
    refine ⟨cs, F1, q1, fun b hb => List.mem_cons_of_mem _ (q2 b hb), fun H' hH => ⟨g, off + k * s, eptr_s .., fun i hi => ?_⟩⟩
    rw [hE.len q1] at hi
    have h1 := q3 i hi
    have hlt : k * s + i < xs.length * s := by
      have : (k + 1) * s ≤ xs.length * s := Nat.mul_le_mul_right s hk
      rw [Nat.succ_mul] at this; omega
    rw [← hw, List.getElem?_take, if_pos hlt, List.getElem?_drop] at h1
    simp only [cellH, hH g (List.mem_cons_self ..), hg]
    rw [Nat.add_assoc]
    simpa using h1
end rdS
/-- A value is read asq x, by blocks that do not lie in S. -/
def RN {β α : Type} (S : List Nat) (E : Array Obj → β → α → List Nat → Prop) (H : Array Obj) (v : β) (x : α) : Prop := ∃ F, E H v x F ∧ ∀ b ∈ F, b ∉ S
section rn
variable {α : Type} {S : List Nat} {w w' : World} {s : Nat} {E : StandN α} {v : Value} {xs : List α} {cs : List Value} {x : α}
theorem RN.ext {E : Stand α} (hE : Good E) (h : RN S E w.heap v x) (c : Ext w w') : RN S E w'.heap v x := by
  obtain ⟨F, h, hb⟩ := h
  exact ⟨F, hE.stable h fun b hm => c.heap (hE.lt h b hm), hb⟩
theorem RN.rd {E : Stand α} {H : Array Obj} (h : RN S E H v x) : Rd E H v x := by obtain ⟨F, h, _⟩ := h; exact ⟨F, h⟩
theorem RN.isSl {H : Array Obj} (h : RN S (rdS s E) H v xs) : isSl v xs.length := by obtain ⟨F, h, _⟩ := h; exact h.isSl
theorem RN.lenle {H : Array Obj} (h : RN S (rdS s E) H v xs) : xs.length ≤ maxLen := by obtain ⟨F, h, _⟩ := h; exact h.lenle
/-- An element, at all later times. -/
theorem RN.get (hE : GoodN s E) (d : α) {k : Nat} (h : RN S (rdS s E) w.heap v xs) (hk : k < xs.length) :
    ∃ cs, RN S E w.heap cs (xs.getD k d) ∧ ∀ w', Chg S w w' → LD w'.heap (eptr v k s) cs := by
  obtain ⟨F, h, hb⟩ := h
  have hlt := (good_rdS hE).lt h
  obtain ⟨cs, F1, q1, q2, q3⟩ := rdS.get hE d h hk
  exact ⟨cs, ⟨F1, q1, fun b hm => hb b (q2 b hm)⟩, fun w' c => q3 _ fun b hm => c.block b (hlt b hm) (hb b hm)⟩
end rn
theorem Chg.of_ext {w w' : World} (S : List Nat) (h : Ext w w') : Chg S w w' := ⟨h.os, h.tape, h.output, h.size, fun k hk _ => h.heap hk⟩
/-- What the table of types says of a struct: so many cells. -/
def aggTy (P : Program) (t : TypeId) (s : Nat) : Bool :=
  (match P.underlying t with | some (.struct _) => true | _ => false) && (match P.info? t with | some i => i.size == s | none => false)
/-- What the table of types says of a field's place. -/
def fdO (P : Program) (s : TypeId) (i off : Nat) : Bool :=
  match P.underlying s with
  | some (.struct fs) =>
    match fs[i]? with
    | some f => (f.offset == off) && (match P.info? f.type with | some inf => inf.size != 0 | none => false)
    | none => false
  | _ => false
section ops
variable {P : Program} {ops : Array Oper} {w0 : World} {Q : Act → World → Prop} {os : List Oper} {ks : List Nat} {N : Nat} {ρ : Nat → Value} {w : World}
  {d : Nat} {ty : TypeId} {pos : String} {aft : Array Edge} {g : Option (Nat × Bool)} {t e : TypeId}
theorem add_mk (b o k : Nat) : (⟨b, o, none⟩ : Addr).add k = ⟨b, o + k, none⟩ := by
  unfold Addr.add
  split
  · rename_i h; rw [h]; rfl
  · rfl
/-- A field of a struct that a pointer points to. -/
theorem q_fldP {s : TypeId} {x : Operand} {i : Nat} {p : Value} {b o : Nat} (off : Nat) (hf : fdO P s i off = true) (hx : evF N ρ x = p) (hp : p = .pointer (some ⟨b, o, none⟩)) (hu : Up ops N ρ ⟨some d, .fieldAddr s x i, ty, pos, aft, g⟩)
    (h : LW P ops w0 Q os ks (mk N (upd ρ d (padd p off))) w) : LW P ops w0 Q (⟨some d, .fieldAddr s x i, ty, pos, aft, g⟩ :: os) (0 :: ks) (mk N ρ) w :=
  lw_q (by decide) rfl hu _ (fun w' _ => by
    subst hp
    unfold fdO at hf
    split at hf
    · rename_i fs hfs
      split at hf
      · rename_i f hff
        simp only [Bool.and_eq_true, beq_iff_eq] at hf
        obtain ⟨rfl, hf2⟩ := hf
        split at hf2
        · rename_i inf hin
          have hne : inf.size ≠ 0 := by simpa using hf2
          simp [execOp, Instr.fieldAt, Instr.sureAddr, run_underlying hfs, hff, hx, fieldPlace, sizeOf, typeInfo, hin, hne, add_mk, padd]
        · cases hf2
      · cases hf
    · cases hf) h
theorem LD.ptr {H : Array Obj} {p : Value} {cs : List Value} (h : LD H p cs) : ∃ b o, p = .pointer (some ⟨b, o, none⟩) := by obtain ⟨b, o, h, _⟩ := h; exact ⟨b, o, h⟩
theorem q_fldL {s : TypeId} {x : Operand} {i : Nat} {p : Value} {H : Array Obj} {cs : List Value} (off : Nat) (hf : fdO P s i off = true) (hx : evF N ρ x = p) (hp : LD H p cs) (hu : Up ops N ρ ⟨some d, .fieldAddr s x i, ty, pos, aft, g⟩)
    (h : LW P ops w0 Q os ks (mk N (upd ρ d (padd p off))) w) : LW P ops w0 Q (⟨some d, .fieldAddr s x i, ty, pos, aft, g⟩ :: os) (0 :: ks) (mk N ρ) w := by
  obtain ⟨b, o, hp⟩ := hp.ptr
  exact q_fldP off hf hx hp hu h
theorem run_loadA {s : Nat} (ht : aggTy P t s = true) {p : Value} {cs : List Value} (h : LD w.heap p cs) (hl : cs.length = s) : (Instr.loadAt t p).run P w = .ok (.agg cs.toArray) w := by
  obtain ⟨b, o, rfl, h⟩ := h
  unfold aggTy at ht
  simp only [Bool.and_eq_true] at ht
  obtain ⟨h1, h2⟩ := ht
  split at h1
  · rename_i fs hfs
    split at h2
    · rename_i inf hin
      have hs : inf.size = s := by simpa using h2
      have hag : (isAgg t).run P w = .ok true w := by
        unfold isAgg
        simp only [Sem.run_bind, run_underlying hfs, Result.andThen_ok]
        rfl
      have hlc := run_loadCells_list (P := P) w ⟨b, o, none⟩ cs (fun j v hj => by
        rw [add_mk, cell_cellH]
        have hjl : j < cs.length := (List.getElem?_eq_some_iff.1 hj).1
        rw [h j hjl]
        simp [List.getD, hj])
      rw [hl, ← hs] at hlc
      simp [Instr.loadAt, Instr.sureAddr, loadVar, hag, sizeOf, typeInfo, hin, hlc]
    · cases h2
  · cases h1
/-- A struct is loaded. -/
theorem q_loadA {k s : Nat} (hk : k = 1 ∨ k = 2) {x : Operand} {p : Value} (cs : List Value) (ht : aggTy P t s = true) (hx : evF N ρ x = p) (hc : ∀ w', Ext (if k = 1 then w0 else w) w' → LD w'.heap p cs) (hl : cs.length = s)
    (hu : Up ops N ρ ⟨some d, .load t x, ty, pos, aft, g⟩)
    (h : LW P ops w0 Q os ks (mk N (upd ρ d (.agg cs.toArray))) w) : LW P ops w0 Q (⟨some d, .load t x, ty, pos, aft, g⟩ :: os) (k :: ks) (mk N ρ) w :=
  lw_q (by omega) rfl hu _ (fun w' hcl => by
    have hld : LD w'.heap p cs := by
      rcases hk with rfl | rfl
      · exact hc w' hcl
      · exact hc w' hcl
    simp [execOp, hx, run_loadA ht hld hl]) h
theorem LD.of_box {H : Array Obj} {b : Nat} {cs : List Value} (h : BX H b cs) : LD H (.pointer (some ⟨b, 0, none⟩)) cs := by
  obtain ⟨e, h⟩ := h
  refine ⟨b, 0, rfl, fun i hi => ?_⟩
  simp only [cellH, h]
  simp [hi]
theorem BX.ldp {H : Array Obj} {b : Nat} {cs : List Value} (h : BX H b cs) {i : Nat} (hi : i < cs.length) : ldH H (padd (.pointer (some ⟨b, 0, none⟩)) i) = some (cs.getD i undef) := (LD.of_box h).ld hi
/-- A struct variable with its zero. -/
theorem r_allocA {z : Value} (hz : (P.info? t).map (·.zero) = some (some z)) (hu : Up ops N ρ ⟨some d, .alloc t, ty, pos, aft, g⟩)
    (h : ∀ w1, Ext w w1 → w1.heap.size = w.heap.size + 1 → BX w1.heap w.heap.size z.cells.toList → LW P ops w0 Q os ks (mk N (upd ρ d (.pointer (some ⟨w.heap.size, 0, none⟩)))) w1) :
    LW P ops w0 Q (⟨some d, .alloc t, ty, pos, aft, g⟩ :: os) (3 :: ks) (mk N ρ) w := by
  obtain ⟨i, hi1, hi2⟩ := Option.map_eq_some_iff.1 hz
  have hrun : (execOp (evF N ρ) ⟨some d, .alloc t, ty, pos, aft, g⟩).run P w = .ok (.value (.pointer (some ⟨w.heap.size, 0, none⟩))) (w.alloc (.cells z.cells t)) := by
    simp [execOp, Instr.alloc, zeroValue, typeInfo, hi1, hi2, newVar, newRow]
  refine lw_r rfl hu _ _ hrun (ext_alloc _ _) (h _ (ext_alloc _ _) (by simp) ⟨t, ?_⟩)
  have := heap_alloc_new w (.cells z.cells t)
  simpa using this
/-- A struct is stored into a box. -/
theorem e_setA {x y : Operand} {b s : Nat} {vs cs : List Value} (ht : aggTy P t s = true) (hx : evF N ρ x = .pointer (some ⟨b, 0, none⟩)) (hy : evF N ρ y = .agg vs.toArray) (h1 : ∀ u ∈ vs, u.cells = #[u] ∧ u.oneCell' = true)
    (hb : BX w.heap b cs) (hl : vs.length = s) (hl2 : cs.length = s) (hu : Up ops N ρ ⟨none, .store t x y, ty, pos, aft, g⟩)
    (h : ∀ w1, Chg [b] w w1 → w1.heap.size = w.heap.size → BX w1.heap b vs → LW P ops w0 Q os ks (mk N ρ) w1) :
    LW P ops w0 Q (⟨none, .store t x y, ty, pos, aft, g⟩ :: os) (4 :: ks) (mk N ρ) w := by
  obtain ⟨e, hb⟩ := hb
  unfold aggTy at ht
  simp only [Bool.and_eq_true] at ht
  obtain ⟨q1, q2⟩ := ht
  split at q2
  · rename_i inf hin
    have hs : inf.size = s := by simpa using q2
    have hst := run_storeCells_at (P := P) b 0 e vs 0 cs.toArray w hb (by simp; omega) (fun v hv => (h1 v hv).2)
    have hcs : (cs.toArray.toList.take (0 + 0) ++ vs ++ cs.toArray.toList.drop (0 + 0 + vs.length)) = vs := by
      simp [List.drop_of_length_le (show cs.length ≤ vs.length by omega)]
    rw [hcs] at hst
    have hr : (Instr.storeAt t (.pointer (some ⟨b, 0, none⟩)) (.agg vs.toArray)).run P w = .ok () (w.setRow b vs.toArray) := by
      simp [Instr.storeAt, Instr.sureAddr, storeVar, sizeOf, typeInfo, hin, Value.cells, hl, hs, hst]
    refine lw_s rfl hu _ (exec_store hx hy hr) (h _ ⟨rfl, rfl, rfl, by simp, fun k _ hk => setRow_other w b k _ (by simpa using hk)⟩ (by simp) ⟨e, setRow_heap w b _ _ _ _ hb⟩)
  · cases q2
end ops
end Go.Proofs.Ytjnbnlniafmblaa
namespace Go.Proofs.Ytjnbnlniafmblaa
open Go Go.RowKit
set_option linter.unusedVariables false
set_option linter.unusedSimpArgs false
/-- An expression. -/
inductive Ex where
  | mk (kind num pick count : Int) (kids : List Ex)
namespace Ex
def kind : Ex → Int | mk k _ _ _ _ => k
def num : Ex → Int | mk _ n _ _ _ => n
def pick : Ex → Int | mk _ _ p _ _ => p
def count : Ex → Int | mk _ _ _ c _ => c
def kids : Ex → List Ex | mk _ _ _ _ l => l
def zero : Ex := mk 0 0 0 0 []
end Ex
abbrev i64 (x : Int) : Prop := -9223372036854775808 ≤ x ∧ x ≤ 9223372036854775807
def exC (e : Ex) (v : Value) : List Value := [.int .i64 e.kind, .int .i64 e.num, .int .i64 e.pick, .int .i64 e.count, v]
structure exR (e : Ex) : Prop where
  kind : i64 e.kind
  num : i64 e.num
  pick : i64 e.pick
  count : i64 e.count
/-- An expression of a depth of at most d. -/
def rEx : Nat → StandN Ex
  | 0 => fun _ _ _ _ => False
  | d + 1 => fun H cs e F => ∃ v, cs = exC e v ∧ exR e ∧ rdS 5 (rEx d) H v e.kids F
theorem good_rEx : ∀ d, GoodN 5 (rEx d)
  | 0 => ⟨fun h => h.elim, fun h => h.elim, fun h => h.elim, fun h => h.elim⟩
  | d + 1 => by
    have ih := good_rEx d
    refine ⟨?_, ?_, ?_, ?_⟩
    · rintro H cs e F ⟨v, rfl, _, _⟩; rfl
    · rintro H cs e F ⟨v, rfl, _, h⟩ u hu
      unfold exC at hu
      simp only [List.mem_cons, List.not_mem_nil, or_false] at hu
      rcases hu with rfl | rfl | rfl | rfl | rfl
      · exact ⟨rfl, rfl⟩
      · exact ⟨rfl, rfl⟩
      · exact ⟨rfl, rfl⟩
      · exact ⟨rfl, rfl⟩
      · exact ⟨(good_rdS ih).cells h, (good_rdS ih).one h⟩
    · rintro H cs e F ⟨v, rfl, _, h⟩ b hb
      exact (good_rdS ih).lt h b hb
    · rintro H H' cs e F ⟨v, rfl, hr, h⟩ hb
      exact ⟨v, rfl, hr, (good_rdS ih).stable h hb⟩
/-- The slice of the kids of e is v. -/
structure RX (S : List Nat) (d : Nat) (H : Array Obj) (v : Value) (e : Ex) : Prop where
  rng : exR e
  rn : RN S (rdS 5 (rEx d)) H v e.kids
theorem RX.of {S : List Nat} {d : Nat} {H : Array Obj} {cs : List Value} {e : Ex} (h : RN S (rEx d) H cs e) : ∃ d' v, d = d' + 1 ∧ cs = exC e v ∧ RX S d' H v e := by
  obtain ⟨F, h, hb⟩ := h
  cases d with
  | zero => exact h.elim
  | succ d =>
    obtain ⟨v, rfl, hr, h⟩ := h
    exact ⟨d, v, rfl, rfl, hr, F, h, hb⟩
theorem RX.mk' {S : List Nat} {d : Nat} {H : Array Obj} {v : Value} {e : Ex} (h : RX S d H v e) : RN S (rEx (d + 1)) H (exC e v) e := by
  obtain ⟨hr, F, h, hb⟩ := h
  exact ⟨F, ⟨v, rfl, hr, h⟩, hb⟩
section rx
variable {S : List Nat} {d : Nat} {w w' : World} {v : Value} {e : Ex}
theorem RX.ext (h : RX S d w.heap v e) (k : Ext w w') : RX S d w'.heap v e := ⟨h.rng, h.rn.ext (good_rdS (good_rEx d)) k⟩
theorem RX.ones {H : Array Obj} (h : RX S d H v e) : ∀ u ∈ exC e v, u.cells = #[u] ∧ u.oneCell' = true := by
  obtain ⟨F, h, _⟩ := h.mk'
  exact (good_rEx (d + 1)).one h
end rx
/-- A function of a program. -/
structure Fn where
  name : ByteArray
  params : Int
  outs : List Ex
def Fn.zero : Fn := ⟨.empty, 0, []⟩
def fnC (f : Fn) (v : Value) : List Value := [.string f.name, .int .i64 f.params, v]
def rFn (d : Nat) : StandN Fn := fun H cs f F => ∃ v, cs = fnC f v ∧ i64 f.params ∧ rdS 5 (rEx d) H v f.outs F
theorem good_rFn (d : Nat) : GoodN 3 (rFn d) := by
  have ih := good_rdS (good_rEx d)
  refine ⟨?_, ?_, ?_, ?_⟩
  · rintro H cs e F ⟨v, rfl, _, _⟩; rfl
  · rintro H cs e F ⟨v, rfl, _, h⟩ u hu
    unfold fnC at hu
    simp only [List.mem_cons, List.not_mem_nil, or_false] at hu
    rcases hu with rfl | rfl | rfl
    · exact ⟨rfl, rfl⟩
    · exact ⟨rfl, rfl⟩
    · exact ⟨ih.cells h, ih.one h⟩
  · rintro H cs e F ⟨v, rfl, _, h⟩ b hb
    exact ih.lt h b hb
  · rintro H H' cs e F ⟨v, rfl, hr, h⟩ hb
    exact ⟨v, rfl, hr, ih.stable h hb⟩
structure RF (S : List Nat) (d : Nat) (H : Array Obj) (v : Value) (f : Fn) : Prop where
  rng : i64 f.params
  rn : RN S (rdS 5 (rEx d)) H v f.outs
theorem RF.of {S : List Nat} {d : Nat} {H : Array Obj} {cs : List Value} {f : Fn} (h : RN S (rFn d) H cs f) : ∃ v, cs = fnC f v ∧ RF S d H v f := by
  obtain ⟨F, ⟨v, rfl, hr, h⟩, hb⟩ := h
  exact ⟨v, rfl, hr, F, h, hb⟩
theorem RF.one {S : List Nat} {d : Nat} {H : Array Obj} {v : Value} {f : Fn} (h : RF S d H v f) : v.cells = #[v] ∧ v.oneCell' = true := by
  obtain ⟨_, F, h, _⟩ := h
  exact ⟨(good_rdS (good_rEx d)).cells h, (good_rdS (good_rEx d)).one h⟩
theorem RF.ones {S : List Nat} {d : Nat} {H : Array Obj} {v : Value} {f : Fn} (h : RF S d H v f) : ∀ u ∈ fnC f v, u.cells = #[u] ∧ u.oneCell' = true := by
  intro u hu
  unfold fnC at hu
  simp only [List.mem_cons, List.not_mem_nil, or_false] at hu
  rcases hu with rfl | rfl | rfl
  · exact ⟨rfl, rfl⟩
  · exact ⟨rfl, rfl⟩
  · exact h.one
/-- The functions of a program. -/
abbrev RP (S : List Nat) (d : Nat) (H : Array Obj) (v : Value) (p : List Fn) : Prop := RN S (rdS 3 (rFn d)) H v p
theorem isSl_one {v : Value} {n : Nat} (h : isSl v n) : v.cells = #[v] ∧ v.oneCell' = true := by
  obtain ⟨a, c, rfl, _⟩ := h; exact ⟨rfl, rfl⟩
mutual
def Ex.size : Ex → Nat
  | .mk _ _ _ _ l => 1 + Ex.sizes l
def Ex.sizes : List Ex → Nat
  | [] => 0
  | e :: l => e.size + Ex.sizes l
end
mutual
def Ex.deep : Ex → Nat
  | .mk _ _ _ _ l => Ex.deeps l + 1
def Ex.deeps : List Ex → Nat
  | [] => 0
  | e :: l => max e.deep (Ex.deeps l)
end
theorem size_kids (e : Ex) : e.size = 1 + Ex.sizes e.kids := by cases e; rw [Ex.size]; rfl
theorem deep_kids (e : Ex) : e.deep = Ex.deeps e.kids + 1 := by cases e; rw [Ex.deep]; rfl
theorem sizes_snoc (l : List Ex) (e : Ex) : Ex.sizes (l ++ [e]) = Ex.sizes l + e.size := by
  induction l with
  | nil => rw [List.nil_append, Ex.sizes, Ex.sizes, Ex.sizes]; omega
  | cons x l ih => rw [List.cons_append, Ex.sizes, Ex.sizes, ih]; omega
theorem deeps_snoc (l : List Ex) (e : Ex) : Ex.deeps (l ++ [e]) = max (Ex.deeps l) e.deep := by
  induction l with
  | nil => rw [List.nil_append, Ex.deeps, Ex.deeps, Ex.deeps]; omega
  | cons x l ih => rw [List.cons_append, Ex.deeps, Ex.deeps, ih]; omega
theorem sizes_step {l : List Ex} {k : Nat} (hk : k < l.length) : Ex.sizes (l.take (k + 1)) = Ex.sizes (l.take k) + (l.getD k Ex.zero).size := by
  rw [List.take_succ_eq_append_getElem hk, sizes_snoc]
  simp [hk]
theorem deeps_step {l : List Ex} {k : Nat} (hk : k < l.length) : Ex.deeps (l.take (k + 1)) = max (Ex.deeps (l.take k)) (l.getD k Ex.zero).deep := by
  rw [List.take_succ_eq_append_getElem hk, deeps_snoc]
  simp [hk]
theorem sizes_take : ∀ (l : List Ex) (k : Nat), Ex.sizes (l.take k) ≤ Ex.sizes l
  | l, 0 => by rw [List.take_zero, Ex.sizes]; omega
  | [], k + 1 => by simp
  | e :: l, k + 1 => by rw [List.take_succ_cons, Ex.sizes, Ex.sizes]; have := sizes_take l k; omega
theorem sizes_at {l : List Ex} {k : Nat} (hk : k < l.length) : (l.getD k Ex.zero).size ≤ Ex.sizes l := by
  have h1 := sizes_step hk
  have h2 := sizes_take l (k + 1)
  omega
theorem sizes_nil : Ex.sizes [] = 0 := by rw [Ex.sizes]
theorem deeps_nil : Ex.deeps [] = 0 := by rw [Ex.deeps]
theorem sizes_all {l : List Ex} {k : Nat} (hk : l.length ≤ k) : Ex.sizes (l.take k) = Ex.sizes l := by rw [List.take_of_length_le hk]
theorem deeps_all {l : List Ex} {k : Nat} (hk : l.length ≤ k) : Ex.deeps (l.take k) = Ex.deeps l := by rw [List.take_of_length_le hk]
mutual
theorem deep_size : ∀ e : Ex, e.deep ≤ e.size
  | .mk _ _ _ _ l => by rw [Ex.deep, Ex.size]; have := deeps_size l; omega
theorem deeps_size : ∀ l : List Ex, Ex.deeps l ≤ Ex.sizes l
  | [] => by rw [Ex.deeps, Ex.sizes]; omega
  | e :: l => by rw [Ex.deeps, Ex.sizes]; have := deep_size e; have := deeps_size l; omega
end
section ops
variable {P : Program} {ops : Array Oper} {w0 : World} {Q : Act → World → Prop} {os : List Oper} {ks : List Nat} {N : Nat} {ρ : Nat → Value} {w : World}
  {d : Nat} {ty : TypeId} {pos : String} {aft : Array Edge} {g : Option (Nat × Bool)}
theorem q_max {t t' : TypeId} {x y : Operand} {k : IntKind} {a b : Int} (c : Int) (hc : max a b = c) (hx : evF N ρ x = .int k a) (hy : evF N ρ y = .int k b) (hu : Up ops N ρ ⟨some d, .call ⟨.builtin .max, #[x, y], #[t, t']⟩, ty, pos, aft, g⟩)
    (h : LW P ops w0 Q os ks (mk N (upd ρ d (.int k c))) w) : LW P ops w0 Q (⟨some d, .call ⟨.builtin .max, #[x, y], #[t, t']⟩, ty, pos, aft, g⟩ :: os) (0 :: ks) (mk N ρ) w :=
  lw_q (by decide) rfl hu _ (fun w' _ => by
    have e : (if b > a then b else a) = c := by omega
    simp [execOp, resolve, invoke, builtin, hx, hy, Builtin.max_, Builtin.max2, List.foldlM, e]) h
end ops
end Go.Proofs.Ytjnbnlniafmblaa
namespace Go.Proofs.Ytjnbnlniafmblaa
open Go Go.ChangeShapes Go.WideShapes Go.RowKit Go.Deep
theorem wf_i64 {n : Int} (h : (Lit.int .i64 n).wf = true) : -9223372036854775808 ≤ n ∧ n ≤ 9223372036854775807 := by
  simp only [Lit.wf, Bool.and_eq_true, decide_eq_true_eq] at h
  exact h
section
variable {H : Type} {enc : TypeId × Value → H} {P : Program} {W : World}
theorem Ext.trodAll (hl : laidOutB P = true) {W' : World} (hx : Ext W W') : ∀ {ts : List TypeId} {vs : List Value} {ds : List (DataW H)} {ps : List MemPlace}, (∀ t ∈ ts, P.readableRec t = true ∧ t < P.types.size) → (∀ x ∈ ps, x.block < W.heap.size) →
    DataW.TrodAll enc P W 0 (fun _ => true) true ts vs ds ps → DataW.TrodAll enc P W' 0 (fun b => decide (b < W.heap.size)) true ts vs ds ps
  | [], [], [], _, _, _, h => h
  | t :: ts, v :: vs, d :: ds, ps, hr, hlt, ⟨p, q, h1, h2, e⟩ => by
    subst e
    exact ⟨p, q, Below.trod hl (hr t (List.mem_cons_self ..)).1 (hr t (List.mem_cons_self ..)).2 h1 hx fun x hx => hlt x (List.mem_append_left _ hx),
      Ext.trodAll hl hx (fun t ht => hr t (List.mem_cons_of_mem _ ht)) (fun x hx => hlt x (List.mem_append_right _ hx)) h2, rfl⟩
  | [], [], _ :: _, _, _, _, h => h.elim
  | [], _ :: _, _, _, _, _, h => h.elim
  | _ :: _, [], _, _, _, _, h => h.elim
  | _ :: _, _ :: _, [], _, _, _, h => h.elim
/-- WHAT A LAW's ROW ASKS, where the call answers true and only makes new memory. -/
theorem law_post {fn : Func} {s : ChangeSpec} {W' : World} {args : Array Value} {ds : List (DataW H)} {before : List MemPlace} {tb : TypeId} (hl : laidOutB P = true)
    (hr : ∀ t ∈ fn.params.toList, P.readableRec t = true ∧ t < P.types.size) (hv : s.vars = []) (hres : fn.resultTypes = #[tb]) (hb : P.underlying tb = some .bool)
    (hW : DataW.Whole enc P fn.params.toList s.vars false W args.toList ds [] before) (he : s.fn H (ds ++ []) = { results := [.lit (.bool true)], args := ds }) (hx : Ext W W') :
    s.post enc P fn false true false false W args (.bool true) W' := by
  have hW' := hW
  obtain ⟨p, q, hA, hV, rfl, hfz, hnd⟩ := hW
  have hlt : ∀ x ∈ p ++ q, x.block < W.heap.size := fun x hx => hW'.lt x hx
  rw [hv] at hV
  obtain ⟨_, rfl⟩ := trodVars_none hV
  refine ⟨ds, [], _, [], p, [], hW', ?_, ?_, ?_, Below.frame hx _, fun h => by cases h⟩
  · rw [he, hres]; exact trodAll_mk1 (shut_bool hb true)
  · rw [he]; exact Ext.trodAll hl hx hr (fun x hx => hlt x (List.mem_append_left _ hx)) hA
  · rw [he, hv]; rfl
end
end Go.Proofs.Ytjnbnlniafmblaa
namespace Go.Proofs.Ytjnbnlniafmblaa
open Go Go.RowKit
set_option linter.unusedVariables false
set_option linter.unusedSimpArgs false
/-- A byte of a string. -/
def sAt (s : ByteArray) (i : Nat) : Nat := ((s[i]?).getD 0).toNat
section ops
variable {P : Program} {ops : Array Oper} {w0 : World} {Q : Act → World → Prop} {os : List Oper} {ks : List Nat} {N : Nat} {ρ : Nat → Value} {w : World}
  {d : Nat} {ty : TypeId} {pos : String} {aft : Array Edge} {g : Option (Nat × Bool)}
theorem q_index {t : TypeId} {x y : Operand} {s : ByteArray} {i : Int} (j : Nat) (ht : P.underlying t = some .string) (hx : evF N ρ x = .string s) (hy : evF N ρ y = .int .i64 i) (hj : i = (j : Int)) (hlt : j < s.size) (hu : Up ops N ρ ⟨some d, .index t x y, ty, pos, aft, g⟩)
    (h : LW P ops w0 Q os ks (mk N (upd ρ d (.int .u8 ((sAt s j : Nat) : Int)))) w) : LW P ops w0 Q (⟨some d, .index t x y, ty, pos, aft, g⟩ :: os) (0 :: ks) (mk N ρ) w :=
  lw_q (by decide) rfl hu _ (fun w' _ => by
    subst hj
    have e : s[j]? = some s[j] := getElem?_pos s j hlt
    simp [execOp, hx, hy, Instr.index, asIntOf, run_underlying ht, e, sAt]) h
end ops
end Go.Proofs.Ytjnbnlniafmblaa
namespace Go.Proofs.Ytjnbnlniafmblaa
/-- The residue. -/
def md (x : Int) : Int := x % 1000003
/-- A number, asq the program says it. -/
def isN (n : Int) : Bool := decide (0 ≤ n) && decide (n ≤ 1000002)
def allN (l : List Int) : Bool := l.all isN
theorem all_succ {α : Type} {f : α → Bool} {l : List α} {k : Nat} (d : α) (h : (l.take k).all f = true) (hk : k < l.length) (hf : f (l.getD k d) = true) : (l.take (k + 1)).all f = true := by
  rw [List.take_succ_eq_append_getElem hk, List.all_append, h]
  have e : l.getD k d = l[k] := by simp [hk]
  rw [e] at hf
  simp [hf]
theorem all_fail {α : Type} {f : α → Bool} {l : List α} {k : Nat} (d : α) (hk : k < l.length) (hf : f (l.getD k d) = false) : l.all f = false := by
  have e : l.getD k d = l[k] := by simp [hk]
  rw [e] at hf
  rw [List.all_eq_false]
  exact ⟨l[k], List.getElem_mem hk, by simp [hf]⟩
theorem all_done {α : Type} {f : α → Bool} {l : List α} {k : Nat} (h : (l.take k).all f = true) (hk : l.length ≤ k) : l.all f = true := by
  rwa [List.take_of_length_le hk] at h
end Go.Proofs.Ytjnbnlniafmblaa
namespace Go.Proofs.Ytjnbnlniafmblaa
theorem take_snoc {α : Type} {l : List α} {k : Nat} (d : α) (h : k < l.length) : l.take (k + 1) = l.take k ++ [l.getD k d] := by
  rw [List.take_succ_eq_append_getElem h]
  simp [h]
/-- A table. -/
def tab {α : Type} (n : Nat) (f : Nat → α) : List α := (List.range n).map f
theorem any_not (l : List Int) : (!l.any fun x => !isN x) = allN l := by
  unfold allN
  rw [← List.all_eq_not_any_not]
/-- A row less a multiple of another one. -/
def tkr (a b : List Int) (y : Int) : List Int := tab a.length fun k => md (a.getD k 0 - md (y * b.getD k 0))
/-- Elimination below row c: j rows done; rc the row, iv the inverse of its first number. -/
def elim (c : Nat) (rc : List Int) (iv : Int) : Nat → List (List Int) → List (List Int) := it fun j M => M.set (c + 1 + j) (tkr (M.getD (c + 1 + j) []) rc (md ((M.getD (c + 1 + j) []).getD c 0 * iv)))
end Go.Proofs.Ytjnbnlniafmblaa
namespace Go.Proofs.Ytjnbnlniafmblaa
open Go Go.RowKit
set_option linter.unusedVariables false
set_option linter.unusedSimpArgs false
def inB (x a b : Int) : Bool := decide (a ≤ x) && decide (x ≤ b)
def plainB (e : Ex) : Bool := decide (e.pick = 0) && decide (e.count = 0)
/-- The form of a node. -/
def wfN (p : List Fn) (funcs vars : Int) (e : Ex) : Bool :=
  if e.kind = 1 then plainB e && (decide (e.kids.length = 0) && isN e.num)
  else if e.kind = 2 then plainB e && (decide (e.kids.length = 0) && inB e.num 0 (vars - 1))
  else if e.kind = 3 ∨ e.kind = 4 ∨ e.kind = 5 ∨ e.kind = 6 ∨ e.kind = 9 then plainB e && (decide (e.num = 0) && decide (e.kids.length = 2))
  else if e.kind = 7 then plainB e && (decide (e.num = 0) && decide (e.kids.length = 1))
  else if e.kind = 8 then plainB e && (decide (e.num = 0) && decide (e.kids.length = 3))
  else if e.kind = 10 ∨ e.kind = 11 then
    inB e.num 0 (funcs - 1) && (decide ((e.kids.length : Int) = (p.getD e.num.toNat Fn.zero).params) && (inB e.pick 0 (((p.getD e.num.toNat Fn.zero).outs.length : Int) - 1) &&
      (if e.kind = 10 then decide (e.count = 0) else decide (((p.getD e.num.toNat Fn.zero).outs.length : Int) = (p.getD e.num.toNat Fn.zero).params) && inB e.count 0 8)))
  else false
mutual
/-- The form of an expression. -/
def wf (p : List Fn) (funcs : Int) : Ex → Int → Bool
  | .mk k n q c l, vars => wfN p funcs vars (.mk k n q c l) && wfs p funcs (decide (k = 9)) 0 l vars
def wfs (p : List Fn) (funcs : Int) (b : Bool) : Nat → List Ex → Int → Bool
  | _, [], _ => true
  | i, e :: l, vars => wf p funcs e (if b = true ∧ i = 1 then vars + 1 else vars) && wfs p funcs b (i + 1) l vars
end
theorem wf_eq (p : List Fn) (funcs : Int) (e : Ex) (vars : Int) : wf p funcs e vars = (wfN p funcs vars e && wfs p funcs (decide (e.kind = 9)) 0 e.kids vars) := by
  cases e; rw [wf]; rfl
theorem wfs_iff (p : List Fn) (funcs : Int) (b : Bool) (vars : Int) : ∀ (l : List Ex) (i : Nat), wfs p funcs b i l vars = true ↔ ∀ j, j < l.length → wf p funcs (l.getD j Ex.zero) (if b = true ∧ i + j = 1 then vars + 1 else vars) = true
  | [], i => by rw [wfs]; simp
  | e :: l, i => by
    rw [wfs, Bool.and_eq_true, wfs_iff p funcs b vars l (i + 1)]
    constructor
    · rintro ⟨h1, h2⟩ j hj
      cases j with
      | zero => simpa using h1
      | succ j =>
        have := h2 j (by simpa using hj)
        rw [show i + 1 + j = i + (j + 1) from by omega] at this
        simpa using this
    · intro h
      refine ⟨by simpa using h 0 (by simp), fun j hj => ?_⟩
      have := h (j + 1) (by simpa using hj)
      rw [show i + (j + 1) = i + 1 + j from by omega] at this
      simpa using this
theorem wf_leaf {p : List Fn} {funcs vars : Int} {e : Ex} (h : e.kids.length = 0) : wf p funcs e vars = wfN p funcs vars e := by
  rw [wf_eq]
  have : e.kids = [] := List.eq_nil_of_length_eq_zero h
  rw [this, wfs, Bool.and_true]
theorem wf_bad {p : List Fn} {funcs vars : Int} {e : Ex} (h : wfN p funcs vars e = false) : false = wf p funcs e vars := by
  rw [wf_eq, h]; rfl
theorem wf_kid {p : List Fn} {funcs vars own : Int} {e : Ex} {k : Nat} (hk : k < e.kids.length) (ho : own = if e.kind = 9 ∧ k = 1 then vars + 1 else vars) (h : wf p funcs (e.kids.getD k Ex.zero) own = false) : false = wf p funcs e vars := by
  rw [wf_eq]
  cases hw : wfs p funcs (decide (e.kind = 9)) 0 e.kids vars with
  | false => rw [Bool.and_false]
  | true =>
    have := (wfs_iff p funcs _ vars e.kids 0).1 hw k hk
    rw [Nat.zero_add] at this
    simp only [decide_eq_true_eq] at this
    rw [← ho, h] at this
    cases this
theorem wf_good {p : List Fn} {funcs vars : Int} {e : Ex} (hn : wfN p funcs vars e = true) (h : ∀ j, j < e.kids.length → wf p funcs (e.kids.getD j Ex.zero) (if e.kind = 9 ∧ j = 1 then vars + 1 else vars) = true) : true = wf p funcs e vars := by
  rw [wf_eq, hn, Bool.true_and]
  refine ((wfs_iff p funcs _ vars e.kids 0).2 fun j hj => ?_).symm
  rw [Nat.zero_add]
  simp only [decide_eq_true_eq]
  exact h j hj
theorem kd_at {l : List Ex} {k : Nat} (hk : k < l.length) : (l.getD k Ex.zero).deep ≤ Ex.deeps l := by
  have h1 := deeps_step hk
  have h2 : ∀ (l : List Ex) (k : Nat), Ex.deeps (l.take k) ≤ Ex.deeps l := by
    intro l
    induction l with
    | nil => intro k; simp
    | cons e l ih =>
      intro k
      cases k with
      | zero => rw [List.take_zero, Ex.deeps]; omega
      | succ k => rw [List.take_succ_cons, Ex.deeps, Ex.deeps]; have := ih k; omega
  have h3 := h2 l (k + 1)
  omega
end Go.Proofs.Ytjnbnlniafmblaa
namespace Go.Proofs.Ytjnbnlniafmblaa
set_option linter.unusedVariables false
set_option linter.unusedSimpArgs false
open Go Go.RowKit
def up (n : Nat) (k : Int) : List Int := tab n fun i => k + (i : Int)
end Go.Proofs.Ytjnbnlniafmblaa
namespace Go.Proofs.Ytjnbnlniafmblaa
open Go Go.RowKit
set_option linter.unusedVariables false
set_option linter.unusedSimpArgs false
theorem gd_l {β : Type} {l r : List β} {k : Nat} {d : β} (h : k < l.length) : (l ++ r).getD k d = l.getD k d := by
  rw [List.getD_eq_getElem?_getD, List.getD_eq_getElem?_getD, List.getElem?_append_left h]
theorem gd_r {β : Type} {l : List β} {x d : β} {k : Nat} (h : k = l.length) : (l ++ [x]).getD k d = x := by
  subst h
  rw [List.getD_eq_getElem?_getD, List.getElem?_append_right (Nat.le_refl _)]
  simp
theorem rdL.get2 {α : Type} {E : Stand α} {H : Array Obj} {v : Value} {xs : List α} {F : List Nat} (d : α) {k : Nat} (h : rdL E H v xs F) (hk : k < xs.length) :
    ∃ u F1, (∀ H' : Array Obj, (∀ b ∈ F, H'[b]? = H[b]?) → ldH H' (eptr v k 1) = some u) ∧ E H u (xs.getD k d) F1 ∧ ∀ b ∈ F1, b ∈ F := by
  rcases h with ⟨a, cap, rfl, rfl, _⟩ | ⟨us, g, off, cap, cur, e, fr, F', h, rfl, hg, hw, _, rfl⟩
  · simp at hk
  · obtain ⟨u, F1, hu, hx, hb⟩ := h.get d hk
    refine ⟨u, F1, fun H' hH => ?_, hx, fun b hh => List.mem_cons_of_mem _ (hb b hh)⟩
    rw [eptr_mk]
    simp only [ldH, cellH, hH g (List.mem_cons_self ..), hg]
    rw [← hw, List.getElem?_take, if_pos hk, List.getElem?_drop] at hu
    simpa using hu
section rn
variable {α : Type} {S F : List Nat} {w w' : World} {E : Stand α} {v : Value} {xs : List α} {x : α} {g : Nat}
theorem RN.getL (hE : Good E) (d : α) {k : Nat} (h : RN S (rdL E) w.heap v xs) (hk : k < xs.length) :
    ∃ u, (∀ w', Chg S w w' → ldH w'.heap (eptr v k 1) = some u) ∧ RN S E w.heap u (xs.getD k d) := by
  obtain ⟨F, h, hb⟩ := h
  have hlt := (good_rdL hE).lt h
  obtain ⟨u, F1, h1, h2, h3⟩ := rdL.get2 d h hk
  exact ⟨u, fun w' c => h1 _ fun b hm => c.block b (hlt b hm) (hb b hm), F1, h2, fun b hm => hb b (h3 b hm)⟩
theorem RN.slL {H : Array Obj} (h : RN S (rdL E) H v xs) : Go.Proofs.Ytjnbnlniafmblaa.isSl v xs.length := by obtain ⟨F, h, _⟩ := h; exact rdL.isSl h
theorem RN.lenL {H : Array Obj} (h : RN S (rdL E) H v xs) : xs.length ≤ maxLen := by obtain ⟨F, h, _⟩ := h; exact h.lenle
end rn
def rP {α : Type} (E : StandN α) : Stand α := fun H v x F => ∃ cs F' g o, v = .pointer (some ⟨g, o, none⟩) ∧ g < H.size ∧ (∀ i, i < cs.length → cellH H g (o + i) = some (cs.getD i undef)) ∧ E H cs x F' ∧ F = g :: F'
theorem good_rP {α : Type} {s : Nat} {E : StandN α} (hE : GoodN s E) : Good (rP E) where
  cells := by rintro H v x F ⟨cs, F', g, o, rfl, _⟩; rfl
  one := by rintro H v x F ⟨cs, F', g, o, rfl, _⟩; rfl
  lt := by
    rintro H v x F ⟨cs, F', g, o, rfl, hg, hc, he, rfl⟩ b hb
    rcases List.mem_cons.1 hb with rfl | hb
    · exact hg
    · exact hE.lt he b hb
  stable := by
    rintro H H' v x F ⟨cs, F', g, o, rfl, hg, hc, he, rfl⟩ hb
    refine ⟨cs, F', g, o, rfl, ?_, fun i hi => ?_, hE.stable he fun b hm => hb b (List.mem_cons_of_mem _ hm), rfl⟩
    · have := hb g (List.mem_cons_self ..)
      rcases Nat.lt_or_ge g H'.size with h | h
      · exact h
      · rw [Array.getElem?_eq_none h, Array.getElem?_eq_getElem hg] at this; cases this
    · have := hc i hi
      unfold cellH at this ⊢
      rw [hb g (List.mem_cons_self ..)]; exact this
section rp
variable {α : Type} {S : List Nat} {w w' : World} {s : Nat} {E : StandN α} {v p : Value} {xs : List α} {x : α}
/-- The pointer to an element. -/
theorem RN.ptr (hE : GoodN s E) (hs : 0 < s) (d : α) {k : Nat} {H : Array Obj} (h : RN S (rdS s E) H v xs) (hk : k < xs.length) : RN S (rP E) H (eptr v k s) (xs.getD k d) := by
  obtain ⟨F, h, hb⟩ := h
  rcases h with ⟨a, cap, rfl, rfl, _⟩ | ⟨css, g, off, cap, cur, e, fr, F', h, rfl, hg, hw, _, rfl⟩
  · simp at hk
  · obtain ⟨cs, F1, q1, q2, q3⟩ := h.get hE d hk
    rw [eptr_s]
    refine ⟨g :: F1, ⟨cs, F1, g, off + k * s, rfl, getElem?_lt hg, fun i hi => ?_, q1, rfl⟩, fun b hm => ?_⟩
    · rw [hE.len q1] at hi
      have h1 := q3 i hi
      have hlt : k * s + i < xs.length * s := by
        have : (k + 1) * s ≤ xs.length * s := Nat.mul_le_mul_right s hk
        rw [Nat.succ_mul] at this; omega
      rw [← hw, List.getElem?_take, if_pos hlt, List.getElem?_drop] at h1
      simp only [cellH, hg]
      rw [Nat.add_assoc]
      simpa using h1
    · rcases List.mem_cons.1 hm with rfl | hm
      · exact hb _ (List.mem_cons_self ..)
      · exact hb b (List.mem_cons_of_mem _ (q2 b hm))
/-- What a pointer points to. -/
theorem RN.at (hE : GoodN s E) (h : RN S (rP E) w.heap p x) : ∃ cs, RN S E w.heap cs x ∧ ∀ w', Chg S w w' → LD w'.heap p cs := by
  obtain ⟨F, h, hb⟩ := h
  have hlt := (good_rP hE).lt h
  obtain ⟨cs, F', g, o, rfl, hg, hc, he, rfl⟩ := h
  refine ⟨cs, ⟨F', he, fun b hm => hb b (List.mem_cons_of_mem _ hm)⟩, fun w' c => ⟨g, o, rfl, fun i hi => ?_⟩⟩
  have := hc i hi
  unfold cellH at this ⊢
  rw [c.block g hg (hb g (List.mem_cons_self ..))]; exact this
theorem RN.isPtr {H : Array Obj} (h : RN S (rP E) H p x) : ∃ g o, p = .pointer (some ⟨g, o, Option.none⟩) := by
  obtain ⟨F, ⟨cs, F', g, o, rfl, _⟩, _⟩ := h
  exact ⟨g, o, rfl⟩
/-- A new box. -/
theorem RN.box {b : Nat} {H : Array Obj} {cs : List Value} (hB : BX H b cs) (h : RN S E H cs x) (hb : b ∉ S) : RN S (rP E) H (.pointer (some ⟨b, 0, Option.none⟩)) x := by
  have hl := hB.lt
  obtain ⟨e, hB⟩ := hB
  obtain ⟨F, h1, h2⟩ := h
  refine ⟨b :: F, ⟨cs, F, b, 0, rfl, hl, fun i hi => ?_, h1, rfl⟩, fun c hc => ?_⟩
  · simp only [cellH, hB]; simp [hi]
  · rcases List.mem_cons.1 hc with rfl | hc
    · exact hb
    · exact h2 c hc
end rp
/-- A program in a struct. -/
def rPr (d : Nat) : StandN (List Fn) := fun H cs p F => ∃ v, cs = [v] ∧ rdS 3 (rFn d) H v p F
theorem good_rPr (d : Nat) : GoodN 1 (rPr d) := by
  have ih := good_rdS (good_rFn d)
  refine ⟨?_, ?_, ?_, ?_⟩
  · rintro H cs e F ⟨v, rfl, _⟩; rfl
  · rintro H cs e F ⟨v, rfl, h⟩ u hu
    rw [List.mem_singleton.1 hu]
    exact ⟨ih.cells h, ih.one h⟩
  · rintro H cs e F ⟨v, rfl, h⟩ b hb
    exact ih.lt h b hb
  · rintro H H' cs e F ⟨v, rfl, h⟩ hb
    exact ⟨v, rfl, ih.stable h hb⟩
theorem RPr.of {S : List Nat} {d : Nat} {H : Array Obj} {cs : List Value} {p : List Fn} (h : RN S (rPr d) H cs p) : ∃ v, cs = [v] ∧ RP S d H v p := by
  obtain ⟨F, ⟨v, rfl, h⟩, hb⟩ := h
  exact ⟨v, rfl, F, h, hb⟩
theorem RP.mk' {S : List Nat} {d : Nat} {H : Array Obj} {v : Value} {p : List Fn} (h : RP S d H v p) : RN S (rPr d) H [v] p := by
  obtain ⟨F, h, hb⟩ := h
  exact ⟨F, ⟨v, rfl, h⟩, hb⟩
section bld
variable {e : TypeId} {S F : List Nat} {B : Nat} {w w' : World} {v : Value} {xs : List (List Int)} {us : List Value} {g : Nat}
theorem els_rVe {H : Array Obj} : ∀ {us vs : List Value} {F : List Nat}, els rV H us vs F → us = vs ∧ F = []
  | [], [], _, h => ⟨rfl, h⟩
  | _ :: _, _ :: _, _, ⟨F1, F2, rfl, h1, h2⟩ => by
    obtain ⟨rfl, rfl⟩ := els_rVe h2
    rw [h1.1, h1.2.1]; exact ⟨rfl, rfl⟩
  | [], _ :: _, _, h => h.elim
  | _ :: _, [], _, h => h.elim
end bld
section ops
variable {P : Program} {ops : Array Oper} {w0 : World} {Q : Act → World → Prop} {os : List Oper} {ks : List Nat} {N : Nat} {ρ : Nat → Value} {w : World}
  {d : Nat} {ty : TypeId} {pos : String} {aft : Array Edge} {g : Option (Nat × Bool)} {t e : TypeId} {z : Value} {b : Nat}
/-- The length of a slice is at most its capacity. -/
def CapS : Value → Prop
  | .slice _ n c => n ≤ c
  | _ => False
end ops
end Go.Proofs.Ytjnbnlniafmblaa
namespace Go.Proofs.Ytjnbnlniafmblaa
open Go Go.RowKit
set_option linter.unusedVariables false
set_option linter.unusedSimpArgs false
abbrev Sr := List Int
end Go.Proofs.Ytjnbnlniafmblaa
namespace Go.Proofs.Ytjnbnlniafmblaa
open Go Go.RowKit
set_option linter.unusedVariables false
set_option linter.unusedSimpArgs false
/-- What is asked of a program that is evaluated. -/
structure VPr (p : List Fn) : Prop where
  par : ∀ k, k < p.length → 0 ≤ (p.getD k Fn.zero).params ∧ (p.getD k Fn.zero).params ≤ 12
  outs : ∀ k, k < p.length → 1 ≤ (p.getD k Fn.zero).outs.length ∧ (p.getD k Fn.zero).outs.length ≤ 12
  deep : ∀ k, k < p.length → ∀ j, j < (p.getD k Fn.zero).outs.length → ((p.getD k Fn.zero).outs.getD j Ex.zero).deep ≤ 60
  wf : ∀ k, k < p.length → ∀ j, j < (p.getD k Fn.zero).outs.length → wf p ((k : Nat) : Int) ((p.getD k Fn.zero).outs.getD j Ex.zero) (p.getD k Fn.zero).params = true
theorem inB_iff {x a b : Int} : inB x a b = true ↔ a ≤ x ∧ x ≤ b := by unfold inB; simp
end Go.Proofs.Ytjnbnlniafmblaa
namespace Go.Proofs.Ytjnbnlniafmblaa
open Go Go.RowKit
set_option linter.unusedVariables false
set_option linter.unusedSimpArgs false
set_option linter.unusedSectionVars false
/-- A relation between worlds: what stays. -/
class JR where
  rel : World → World → Prop
  refl : ∀ w, rel w w
  trans : ∀ {a b c}, rel a b → rel b c → rel a c
  ext : ∀ {a b}, Ext a b → rel a b
namespace Jx
variable [J : JR]
def Ext (w w' : World) : Prop := J.rel w w'
theorem Ext.refl (w : World) : Ext w w := J.refl w
theorem Ext.trans {a b c : World} (h : Ext a b) (k : Ext b c) : Ext a c := J.trans h k
section
variable {P : Program} {ops : Array Oper} {md : Region.Mode}
def Cl (w0 w : World) : Nat → World → Prop
  | 0, _ => True
  | 1, w' => Ext w0 w'
  | _, w' => Ext w w'
def OneOp (P : Program) (w0 : World) (o : Oper) (k : Nat) (a : Act) (w : World) (K : Act → World → Prop) : Prop :=
  if k ≤ 2 then ∃ v, (∀ w', Cl w0 w k w' → YA P o a w' v) ∧ K (a.put o.dst v) w
  else if k = 3 then o.wp P a w (fun a' w' => Ext w w' ∧ K a' w') (NQ fun _ _ => False)
  else o.wp P a w K (NQ fun _ _ => False)
def LW (P : Program) (ops : Array Oper) (w0 : World) (Q : Act → World → Prop) : List Oper → List Nat → Act → World → Prop
  | [], _, a, w => Q a w
  | _ :: _, [], _, _ => False
  | o :: os, k :: ks, a, w =>
    if Region.wanted o (yielded ops a.tmps) = true then OneOp P w0 o k a w (LW P ops w0 Q os ks) else LW P ops w0 Q os ks (a.put o.dst undef) w
theorem OneOp.mono {w0 : World} {o : Oper} {k : Nat} {a : Act} {w : World} {K K' : Act → World → Prop} (h : ∀ a w, K a w → K' a w)
    (hh : OneOp P w0 o k a w K) : OneOp P w0 o k a w K' := by
  unfold OneOp at *
  split
  · rename_i hk
    rw [if_pos hk] at hh
    obtain ⟨v, h1, h2⟩ := hh
    exact ⟨v, h1, h _ _ h2⟩
  · rename_i hk
    rw [if_neg hk] at hh
    split
    · rename_i h3
      rw [if_pos h3] at hh
      exact Oper.wp_mono (fun a w hx => ⟨hx.1, h _ _ hx.2⟩) hh
    · rename_i h3
      rw [if_neg h3] at hh
      exact Oper.wp_mono h hh
variable (P ops) in
def LI (kd : Nat → Nat) (w0 : World) (Q : Act → World → Prop) : List Nat → Act → World → Prop
  | [], a, w => Q a w
  | i :: l, a, w =>
    match ops[i]? with
    | none => False
    | some o => if Region.wanted o (yielded ops a.tmps) = true then OneOp P w0 o (kd i) a w (LI kd w0 Q l) else LI kd w0 Q l (a.put o.dst undef) w
def Inv1 (kd : Nat → Nat) (w0 w : World) (l : List Nat) : Prop := (∃ j ∈ l, kd j = 1) → Ext w0 w
def Yv (P : Program) (ops : Array Oper) (w0 : World) (k : Nat) (o : Oper) (a : Act) (w : World) (v : Value) : Prop :=
  (Region.wanted o (yielded ops a.tmps) = true ∧ ∀ w', Cl w0 w k w' → YA P o a w' v) ∨ (Region.wanted o (yielded ops a.tmps) = false ∧ v = undef)
theorem Cl.self {w0 w : World} {k : Nat} (h : k = 1 → Ext w0 w) : Cl w0 w k w := by
  match k, h with
  | 0, _ => exact trivial
  | 1, h => exact h rfl
  | _ + 2, _ => exact Ext.refl w
theorem Yv.unique {w0 w : World} {k : Nat} {o : Oper} {a : Act} {v u : Value} (hk : k = 1 → Ext w0 w) (h : Yv P ops w0 k o a w v) (h' : Yv P ops w0 k o a w u) : v = u := by
  rcases h with ⟨h1, h2⟩ | ⟨h1, h2⟩ <;> rcases h' with ⟨g1, g2⟩ | ⟨g1, g2⟩
  · exact (h2 w (Cl.self hk)).unique (g2 w (Cl.self hk))
  · rw [h1] at g1; cases g1
  · rw [h1] at g1; cases g1
  · rw [h2, g2]
theorem Yv.apart {w0 w : World} {k : Nat} {o : Oper} (hs : ∀ cs b, o.op ≠ .select cs b) {a : Act} {d : Option Tmp} {u v : Value}
    (h1 : ∀ x, d = some x → x ∉ o.looksAt ops) : Yv P ops w0 k o (a.put d u) w v ↔ Yv P ops w0 k o a w v := by
  unfold Yv
  rw [wanted_put (ops := ops) o a d u h1]
  simp only [YA.apart (ops := ops) (P := P) hs h1]
theorem Yv.defers {w0 w : World} {k : Nat} {o : Oper} {a : Act} {l : List Deferred} {v : Value} : Yv P ops w0 k o { a with defers := l } w v ↔ Yv P ops w0 k o a w v := by
  have he : Act.eval { a with defers := l } = Act.eval a := funext fun x => by cases x <;> rfl
  unfold Yv YA
  rw [he]
theorem Yv.shape {w0 w : World} {k : Nat} {o : Oper} (hs : ∀ cs b, o.op ≠ .select cs b) {a a' : Act} {d : Option Tmp} {v : Value}
    (h1 : ∀ x, d = some x → x ∉ o.looksAt ops) (h : Shape a d a') : Yv P ops w0 k o a' w v ↔ Yv P ops w0 k o a w v := by
  obtain ⟨u, rfl | ⟨x, rfl⟩⟩ := h
  · exact Yv.apart hs h1
  · rw [Yv.apart hs h1]; exact Yv.defers
section main
variable {kd bs : Nat → Nat} {w0 : World} {Q : Act → World → Prop}
theorem takeQ (hsel : ∀ (j : Nat) (o : Oper) cs b, ops[j]? = some o → o.op ≠ .select cs b) {j : Nat} {oj : Oper} (hj : ops[j]? = some oj) (hk : kd j ≤ 2) :
    ∀ (l1 l2 : List Nat) (a : Act) (w : World), (∀ i ∈ l1, ∀ oi, ops[i]? = some oi → oi.apart ops oj = true ∧ okPair (kd i) (kd j) = true) → (kd j = 1 → Ext w0 w) →
      LI P ops kd w0 Q (l1 ++ j :: l2) a w → ∃ v, Yv P ops w0 (kd j) oj a w v ∧ LI P ops kd w0 Q (l1 ++ l2) (a.put oj.dst v) w
  | [], l2, a, w, _, _, h => by
    simp only [List.nil_append, LI, hj] at h ⊢
    split at h
    · rename_i hw
      unfold OneOp at h
      rw [if_pos hk] at h
      obtain ⟨v, h1, h2⟩ := h
      exact ⟨v, .inl ⟨hw, h1⟩, h2⟩
    · rename_i hw
      exact ⟨undef, .inr ⟨by simpa using hw, rfl⟩, h⟩
  | i :: l1, l2, a, w, hl, hx, h => by
    have hi := hl i (List.mem_cons_self ..)
    have hl' : ∀ x ∈ l1, ∀ ox, ops[x]? = some ox → ox.apart ops oj = true ∧ okPair (kd x) (kd j) = true := fun x hx => hl x (List.mem_cons_of_mem _ hx)
    simp only [List.cons_append, LI] at h ⊢
    cases hoi : ops[i]? with
    | none => rw [hoi] at h; exact h.elim
    | some oi =>
      rw [hoi] at h
      simp only at h ⊢
      obtain ⟨hap, hok⟩ := hi oi hoi
      obtain ⟨p1, p2, p3⟩ := Oper.apart_spec hap
      have p2' : ∀ d, oj.dst = some d → oi.dst ≠ some d := fun d hd he => p2 d he hd
      have si := fun cs b => hsel i oi cs b hoi
      have sj := fun cs b => hsel j oj cs b hj
      by_cases hw : Region.wanted oi (yielded ops a.tmps) = true
      · rw [if_pos hw] at h
        unfold OneOp at h
        by_cases hki : kd i ≤ 2
        · rw [if_pos hki] at h
          obtain ⟨vi, hy, h⟩ := h
          obtain ⟨v, h1, h2⟩ := takeQ hsel hj hk l1 l2 (a.put oi.dst vi) w hl' hx h
          refine ⟨v, (Yv.apart sj p1).1 h1, ?_⟩
          rw [wanted_put oi a oj.dst v p3, if_pos hw]
          unfold OneOp
          rw [if_pos hki]
          refine ⟨vi, fun w' hc => (YA.apart (ops := ops) si p3).2 (hy w' hc), ?_⟩
          rw [Act.put_comm a v vi p2']
          exact h2
        · rw [if_neg hki] at h
          have gen : ∀ (G : World → Prop), (∀ w', G w' → kd j = 1 → Ext w0 w') → (kd j = 2 → False) →
              oi.wp P a w (fun a' w' => G w' ∧ LI P ops kd w0 Q (l1 ++ j :: l2) a' w') (NQ fun _ _ => False) →
              ∃ v, Yv P ops w0 (kd j) oj a w v ∧ oi.wp P (a.put oj.dst v) w (fun a' w' => G w' ∧ LI P ops kd w0 Q (l1 ++ l2) a' w') (NQ fun _ _ => False) := by
            intro G hG hn2 hh
            have hcl : ∀ w1 w2, Cl w0 w1 (kd j) w2 → Cl w0 w (kd j) w2 := by
              intro w1 w2 hc
              match hkj : kd j, hk, hn2 with
              | 0, _, _ => trivial
              | 1, _, _ => rw [hkj] at hc; exact hc
              | 2, _, hn => exact (hn rfl).elim
              | _ + 3, hle, _ => omega
            have hcl' : ∀ w1 w2, Cl w0 w (kd j) w2 → Cl w0 w1 (kd j) w2 := by
              intro w1 w2 hc
              match hkj : kd j, hk, hn2 with
              | 0, _, _ => trivial
              | 1, _, _ => rw [hkj] at hc; exact hc
              | 2, _, hn => exact (hn rfl).elim
              | _ + 3, hle, _ => omega
            have hs := wp_shape hh
            have step : ∀ a' w', ((G w' ∧ LI P ops kd w0 Q (l1 ++ j :: l2) a' w') ∧ Shape a oi.dst a') →
                ∃ v, Yv P ops w0 (kd j) oj a w v ∧ LI P ops kd w0 Q (l1 ++ l2) (a'.put oj.dst v) w' := by
              rintro a' w' ⟨⟨hg, hL⟩, hsh⟩
              obtain ⟨v, h1, h2⟩ := takeQ hsel hj hk l1 l2 a' w' hl' (hG w' hg) hL
              have h1' := (Yv.shape sj p1 hsh).1 h1
              refine ⟨v, ?_, h2⟩
              rcases h1' with ⟨q1, q2⟩ | ⟨q1, q2⟩
              · exact .inl ⟨q1, fun w2 hc => q2 w2 (hcl' w' w2 hc)⟩
              · exact .inr ⟨q1, q2⟩
            obtain ⟨v, hv⟩ : ∃ v, Yv P ops w0 (kd j) oj a w v := by
              obtain ⟨u, w', hK | ⟨d, hK⟩⟩ := wp_some hs
              · obtain ⟨v, h1, _⟩ := step _ _ hK; exact ⟨v, h1⟩
              · obtain ⟨v, h1, _⟩ := step _ _ hK; exact ⟨v, h1⟩
            refine ⟨v, hv, wp_unapart (ops := ops) si p3 p2' ?_⟩
            refine Oper.wp_mono (fun a' w' hK => ?_) hs
            obtain ⟨v', h1, h2⟩ := step a' w' hK
            have : v' = v := h1.unique hx hv
            subst this
            exact ⟨hK.1.1, h2⟩
          by_cases h3 : kd i = 3
          · rw [if_pos h3] at h
            have hj1 := ok3 hok h3
            obtain ⟨v, hv, hwp⟩ := gen (fun w' => Ext w w') (fun w' hg h1 => (hx h1).trans hg) (fun h2 => by omega) h
            refine ⟨v, hv, ?_⟩
            rw [wanted_put oi a oj.dst v p3, if_pos hw]
            unfold OneOp
            rw [if_neg hki, if_pos h3]
            exact hwp
          · rw [if_neg h3] at h
            have hj0 := ok4 hok (by omega)
            obtain ⟨v, hv, hwp⟩ := gen (fun _ => True) (fun w' _ h1 => by omega) (fun h2 => by omega) (Oper.wp_mono (fun a w hh => ⟨trivial, hh⟩) h)
            refine ⟨v, hv, ?_⟩
            rw [wanted_put oi a oj.dst v p3, if_pos hw]
            unfold OneOp
            rw [if_neg hki, if_neg h3]
            exact Oper.wp_mono (fun a w hh => hh.2) hwp
      · rw [if_neg hw] at h
        obtain ⟨v, h1, h2⟩ := takeQ hsel hj hk l1 l2 (a.put oi.dst undef) w hl' hx h
        refine ⟨v, (Yv.apart sj p1).1 h1, ?_⟩
        rw [wanted_put oi a oj.dst v p3, if_neg hw, Act.put_comm a v undef p2']
        exact h2
theorem takeR (hsel : ∀ (j : Nat) (o : Oper) cs b, ops[j]? = some o → o.op ≠ .select cs b) {j : Nat} {oj : Oper} (hj : ops[j]? = some oj) (hk : 3 ≤ kd j) :
    ∀ (l1 l2 : List Nat) (a : Act) (w : World), (∀ i ∈ l1, ∀ oi, ops[i]? = some oi → oi.apart ops oj = true ∧ okPair (kd i) (kd j) = true) → LI P ops kd w0 Q (l1 ++ j :: l2) a w →
      (Region.wanted oj (yielded ops a.tmps) = true → oj.wp P a w (fun a' w' => (kd j = 3 → Ext w w') ∧ LI P ops kd w0 Q (l1 ++ l2) a' w') (NQ fun _ _ => False)) ∧
      (Region.wanted oj (yielded ops a.tmps) = false → LI P ops kd w0 Q (l1 ++ l2) (a.put oj.dst undef) w)
  | [], l2, a, w, _, h => by
    simp only [List.nil_append, LI, hj] at h ⊢
    refine ⟨fun hw => ?_, fun hw => ?_⟩
    · rw [if_pos hw] at h
      unfold OneOp at h
      rw [if_neg (by omega)] at h
      split at h
      · exact Oper.wp_mono (fun _ _ hh => ⟨fun _ => hh.1, hh.2⟩) h
      · rename_i h3; exact Oper.wp_mono (fun _ _ hh => ⟨fun h' => (h3 h').elim, hh⟩) h
    · rw [if_neg (by simp [hw])] at h; exact h
  | i :: l1, l2, a, w, hl, h => by
    have hi := hl i (List.mem_cons_self ..)
    have hl' : ∀ x ∈ l1, ∀ ox, ops[x]? = some ox → ox.apart ops oj = true ∧ okPair (kd x) (kd j) = true := fun x hx => hl x (List.mem_cons_of_mem _ hx)
    simp only [List.cons_append, LI] at h ⊢
    cases hoi : ops[i]? with
    | none => rw [hoi] at h; exact h.elim
    | some oi =>
      rw [hoi] at h
      simp only at h ⊢
      obtain ⟨hap, hok⟩ := hi oi hoi
      obtain ⟨p1, p2, p3⟩ := Oper.apart_spec hap
      have p2' : ∀ d, oj.dst = some d → oi.dst ≠ some d := fun d hd he => p2 d he hd
      have si := fun cs b => hsel i oi cs b hoi
      have sj := fun cs b => hsel j oj cs b hj
      obtain ⟨hki, hk4⟩ := okj hok hk
      by_cases hw : Region.wanted oi (yielded ops a.tmps) = true
      · rw [if_pos hw] at h
        unfold OneOp at h
        rw [if_pos hki] at h
        obtain ⟨vi, hy, h⟩ := h
        obtain ⟨g1, g2⟩ := takeR hsel hj hk l1 l2 (a.put oi.dst vi) w hl' h
        rw [wanted_put oj a oi.dst vi p1] at g1 g2
        refine ⟨fun hwj => ?_, fun hwj => ?_⟩
        · have g := wp_apart (ops := ops) (Q := fun _ _ => False) sj p1 p2 (g1 hwj)
          refine Oper.wp_mono (fun a' w' hK => ?_) (wp_shape g)
          obtain ⟨⟨hE, hL⟩, hsh⟩ := hK
          refine ⟨hE, ?_⟩
          rw [wanted_shape p3 hsh, if_pos hw]
          unfold OneOp
          rw [if_pos hki]
          refine ⟨vi, fun w'' hc => ?_, hL⟩
          have hya : YA P oi a w'' vi := by
            refine hy w'' ?_
            match hki' : kd i, hki, hk4 with
            | 0, _, _ => trivial
            | 1, _, _ => rw [hki'] at hc; exact hc
            | 2, _, h4 => rw [hki'] at hc; exact (hE (by have : ¬ 4 ≤ kd j := (fun hh => by have := h4 hh; omega); omega)).trans hc
            | _ + 3, hle, _ => omega
          have he : ∀ b, YA P oi b w'' vi ↔ YR P ((execOp b.eval oi).run P w'') w'' vi := fun _ => Iff.rfl
          obtain ⟨u, rfl | ⟨x, rfl⟩⟩ := hsh
          · exact (YA.apart (ops := ops) si p3).2 hya
          · refine (YA.apart (ops := ops) si p3).2 ?_
            have hee : Act.eval { a with defers := x :: a.defers } = Act.eval a := funext fun y => by cases y <;> rfl
            rw [he, hee, ← he]; exact hya
        · rw [wanted_put oi a oj.dst undef p3, if_pos hw]
          unfold OneOp
          rw [if_pos hki]
          refine ⟨vi, fun w' hc => (YA.apart (ops := ops) si p3).2 (hy w' hc), ?_⟩
          rw [Act.put_comm a undef vi p2']
          exact g2 hwj
      · rw [if_neg hw] at h
        obtain ⟨g1, g2⟩ := takeR hsel hj hk l1 l2 (a.put oi.dst undef) w hl' h
        rw [wanted_put oj a oi.dst undef p1] at g1 g2
        refine ⟨fun hwj => ?_, fun hwj => ?_⟩
        · have g := wp_apart (ops := ops) (Q := fun _ _ => False) sj p1 p2 (g1 hwj)
          refine Oper.wp_mono (fun a' w' hK => ?_) (wp_shape g)
          obtain ⟨⟨hE, hL⟩, hsh⟩ := hK
          refine ⟨hE, ?_⟩
          rw [wanted_shape p3 hsh, if_neg hw]
          exact hL
        · rw [wanted_put oi a oj.dst undef p3, if_neg hw, Act.put_comm a undef undef p2']
          exact g2 hwj
end main
end
section
variable {P : Program} {ops : Array Oper} {md : Region.Mode} {kd bs : Nat → Nat} {w0 : World} {Q : Act → World → Prop}
theorem any_of_LI (hsel : ∀ (j : Nat) (o : Oper) cs b, ops[j]? = some o → o.op ≠ .select cs b) (hS : Sound md ops bs)
    (hlex : ∀ j oj, ops[j]? = some oj → ∀ e ∈ oj.after, Region.binds md e = true → e.on < j) :
    ∀ (n : Nat) (l : List Nat) (listed : Array Bool) (a : Act) (w : World), l.length = n → l.Pairwise (PairOK md ops kd bs) → l.Nodup → listed.size = ops.size →
      (∀ i, i ∈ l ↔ listed.getD i true = false) → Closed bs listed → No14 kd l → Inv1 kd w0 w l → LI P ops kd w0 Q l a w → wpAny P md ops (NQ Q) n listed a w
  | 0, l, listed, a, w, hn, _, _, _, hm, _, _, _, h => by
    have hl : l = [] := List.eq_nil_of_length_eq_zero hn
    subst hl
    refine ⟨?_, h⟩
    cases hr : Region.ready md ops listed with
    | nil => rfl
    | cons x xs =>
      have := (mem_ready.1 (by rw [hr]; exact List.mem_cons_self .. : x ∈ Region.ready md ops listed)).1
      exact absurd ((hm x).2 this) (by simp)
  | n + 1, l, listed, a, w, hn, hs, hd, hz, hm, hc, h14, hi1, h => by
    refine ⟨fun h0 => ?_, fun i hi => ?_⟩
    · exfalso
      match l, hn with
      | i :: l, hn =>
        have hready := head_ready (md := md) hz hm hlex (fun y hy ox hox => ((List.pairwise_cons.1 hs).1 y hy).2 ox hox)
        rw [h0] at hready
        cases hready
    · obtain ⟨hun, oi, hoi, hall⟩ := mem_ready.1 hi
      obtain ⟨l1, l2, rfl⟩ := List.append_of_mem ((hm i).2 hun)
      have hbits := bits_of_ready hS hc hoi hall
      have hpi : ∀ x ∈ l1, PairOK md ops kd bs x i := fun x hx => (List.pairwise_append.1 hs).2.2 x hx i (List.mem_cons_self ..)
      have hfree := prefix_free (kd := kd) (l1 := l1) hoi (fun x hx => (hpi x hx).1) (fun x hx => (hm x).1 (List.mem_append_left _ hx)) hbits
      have hsz := lt_of_unlisted hun
      have hsub0 : (l1 ++ l2).Sublist (l1 ++ i :: l2) := List.Sublist.append_left (List.sublist_cons_self _ _) _
      have hnd : i ∉ l1 ++ l2 := by
        have h1 := List.nodup_append.1 hd
        intro hmem
        rcases List.mem_append.1 hmem with hh | hh
        · exact h1.2.2 i hh i (List.mem_cons_self ..) rfl
        · exact (List.nodup_cons.1 h1.2.1).1 hh
      have hn' : (l1 ++ l2).length = n := by simp at hn ⊢; omega
      have rec_ : ∀ a' w', Inv1 kd w0 w' (l1 ++ l2) → LI P ops kd w0 Q (l1 ++ l2) a' w' → wpAny P md ops (NQ Q) n (listed.setIfInBounds i true) a' w' := fun a' w' hi' hL =>
        any_of_LI hsel hS hlex n (l1 ++ l2) _ a' w' hn' (hs.sublist hsub0) (hd.sublist hsub0) (by simpa using hz) (mem_erase hm hnd hsz) (closed_set hc hbits) (No14.erase h14) hi' hL
      have hsub : Inv1 kd w0 w (l1 ++ l2) := fun ⟨j, hj, hk⟩ => hi1 ⟨j, hsub0.subset hj, hk⟩
      by_cases hk : kd i ≤ 2
      · obtain ⟨v, hv, hL⟩ := takeQ hsel hoi hk l1 l2 a w hfree (fun h1 => hi1 ⟨i, by simp, h1⟩) h
        unfold wpOp
        rw [hoi]
        rcases hv with ⟨hw, hy⟩ | ⟨hw, rfl⟩
        · simp only [hw, if_true]
          exact .inl (wp_of_YA (hy w (Cl.self fun h1 => hi1 ⟨i, by simp, h1⟩)) (rec_ _ _ hsub hL))
        · simp only [hw, Bool.false_eq_true, if_false]
          exact rec_ _ _ hsub hL
      · obtain ⟨g1, g2⟩ := takeR hsel hoi (by omega) l1 l2 a w hfree h
        unfold wpOp
        rw [hoi]
        by_cases hw : Region.wanted oi (yielded ops a.tmps) = true
        · simp only [hw, if_true]
          refine .inl (Oper.wp_mono (fun a' w' hK => rec_ a' w' ?_ hK.2) (wp_weak (g1 hw)))
          rintro ⟨j, hj, hkj⟩
          by_cases h3 : kd i = 3
          · exact (hsub ⟨j, hj, hkj⟩).trans (hK.1 h3)
          · exfalso
            rcases List.mem_append.1 hj with hh | hh
            · obtain ⟨oj, hoj⟩ : ∃ oj, ops[j]? = some oj := by
                have := lt_of_unlisted ((hm j).1 (List.mem_append_left _ hh))
                exact ⟨ops[j]'(by omega), by simp [show j < ops.size by omega]⟩
              have := (okj (hfree j hh oj hoj).2 (by omega)).2 (by omega)
              omega
            · exact h14 l1 i l2 rfl (by omega) j hh hkj
        · simp only [hw, Bool.false_eq_true, if_false]
          exact rec_ _ _ hsub (g2 (by simpa using hw))
theorem LI_of_LW (ks : List Nat) : ∀ (os : List Oper) (k : Nat) (a : Act) (w : World), (∀ j, os[j]? = ops[k + j]?) →
    LW P ops w0 Q os (ks.drop k) a w → LI P ops (fun i => ks.getD i 0) w0 Q (List.range' k os.length) a w
  | [], _, _, _, _, h => by simpa [LI, LW] using h
  | o :: os, k, a, w, ho, h => by
    have h0 : ops[k]? = some o := by simpa using (ho 0).symm
    have hr : ∀ a w, LW P ops w0 Q os (ks.drop (k + 1)) a w → LI P ops (fun i => ks.getD i 0) w0 Q (List.range' (k + 1) os.length) a w := fun a w hh =>
      LI_of_LW ks os (k + 1) a w (fun j => by have := ho (j + 1); simpa [Nat.add_assoc, Nat.add_comm 1 j] using this) hh
    have hlt : k < ks.length := by
      rcases Nat.lt_or_ge k ks.length with hh | hh
      · exact hh
      · rw [List.drop_of_length_le hh] at h; exact h.elim
    have hd : ks.drop k = ks[k] :: ks.drop (k + 1) := List.drop_eq_getElem_cons hlt
    rw [hd] at h
    simp only [List.length_cons, List.range'_succ, LI, h0, LW] at h ⊢
    have hg : ks.getD k 0 = ks[k] := by simp [hlt]
    split
    · rename_i hw
      rw [if_pos hw] at h
      rw [hg]
      exact h.mono hr
    · rename_i hw
      rw [if_neg hw] at h
      exact hr _ _ h
theorem wp_draw {id : Nat} {Q : Exit → Act → World → Prop} {a : Act} {w : World} (os : List Oper) (ks : List Nat) (hm : P.follows .mixedOrders = true) (hB : chk os.toArray ks = true)
    (h : LW P os.toArray w.drew (fun a w => Q .normal a w) os ks a w.drew) : (Code.region id os.toArray true).wp P Q a w := by
  refine wp_region_any hm ?_
  simp only [chk, Bool.and_eq_true] at hB
  obtain ⟨⟨hsel, hpl⟩, h14⟩ := hB
  have hz : ∀ {j : Nat} {o : Oper}, os.toArray[j]? = some o → (o, j) ∈ os.toArray.toList.zipIdx := by
    intro j o ho
    rw [List.mem_zipIdx_iff_getElem?]
    simpa using ho
  have hall : ∀ j oj, os.toArray[j]? = some oj → _ := fun j oj hj => List.all_eq_true.1 hpl _ (hz hj)
  have hF : Free os.toArray (fun i => ks.getD i 0) (fun j => (Region.before os.toArray).toList.getD j 0) := by
    intro i j oi oj hij hi hj
    have h3 := (Bool.and_eq_true _ _ ▸ hall j oj hj : _ ∧ _).2
    have h4 := List.all_eq_true.1 h3 _ (hz hi)
    simp only [Bool.or_eq_true, Bool.not_eq_true', decide_eq_false_iff_not, Bool.and_eq_true] at h4
    rcases h4 with (h4 | h4) | h4
    · exact absurd hij h4
    · exact .inl h4
    · exact .inr h4
  have hlex : ∀ j oj, os.toArray[j]? = some oj → ∀ e ∈ oj.after, Region.binds .any e = true → e.on < j := by
    intro j oj hj e he hb
    have h1 := (Bool.and_eq_true _ _ ▸ (Bool.and_eq_true _ _ ▸ hall j oj hj : _ ∧ _).1 : _ ∧ _).1
    have h2 := (Array.all_eq_true_iff_forall_mem.1 h1) e he
    simpa [hb] using h2
  have key := any_of_LI (P := P) (ops := os.toArray) (md := .any) (kd := fun i => ks.getD i 0) (bs := fun j => (Region.before os.toArray).toList.getD j 0) (w0 := w.drew) (Q := fun a w => Q .normal a w)
    (Region.noSelect_spec hsel) ?_ ?_ os.length (List.range' 0 os.length) (Array.replicate os.length false) a w.drew (by simp) ?_ List.nodup_range' (by simp) ?_ ?_ ?_ (fun _ => Ext.refl _) ?_
  · have := wpAny_weak _ _ _ _ key
    simpa using this
  · intro j oj hj i hb
    have h3 := (Bool.and_eq_true _ _ ▸ (Bool.and_eq_true _ _ ▸ hall j oj hj : _ ∧ _).1 : _ ∧ _).2
    have h5 : (Region.before os.toArray).toList.getD j 0 = oj.after.foldl (fun s e => if Region.binds .any e then s ||| 2 ^ e.on ||| (Region.before os.toArray).toList.getD e.on 0 else s) 0 := by simpa using h3
    dsimp only at hb
    rw [h5, ← Array.foldl_toList] at hb
    rcases foldl_bits _ _ _ _ hb with hb | ⟨e, he, hbb, hh⟩
    · simp at hb
    · exact ⟨e, Array.mem_toList_iff.1 he, hbb, hh⟩
  · exact hlex
  · exact pairs_sorted hF hlex List.pairwise_lt_range'
  · intro i
    simp only [List.mem_range', Nat.zero_add, Nat.one_mul]
    constructor
    · rintro ⟨x, hx, rfl⟩; simp [hx]
    · intro hh
      rcases Nat.lt_or_ge i os.length with h' | h'
      · exact ⟨i, h', rfl⟩
      · simp [Array.getElem?_eq_none (show (Array.replicate os.length false).size ≤ i by simpa using h')] at hh
  · intro i hi
    rcases Nat.lt_or_ge i os.length with h' | h'
    · simp [h'] at hi
    · simp [Array.getElem?_eq_none (show (Array.replicate os.length false).size ≤ i by simpa using h')] at hi
  · intro l1 i l2 hl hk j hj
    have hs : (l1 ++ i :: l2).Pairwise (· < ·) := hl ▸ List.pairwise_lt_range'
    have hij : i < j := List.rel_of_pairwise_cons (List.pairwise_append.1 hs).2.1 hj
    have mem : ∀ x ∈ l1 ++ i :: l2, x < os.length := by
      intro x hx
      rw [← hl] at hx
      simp only [List.mem_range', Nat.zero_add, Nat.one_mul] at hx
      obtain ⟨y, hy, rfl⟩ := hx
      exact hy
    have hi := mem i (by simp)
    have hj' := mem j (by simp [hj])
    have h1 := List.all_eq_true.1 h14 _ (hz (j := i) (o := os[i]) (by simp [hi]))
    simp only [Bool.or_eq_true, Bool.not_eq_true', decide_eq_false_iff_not] at h1
    rcases h1 with h1 | h1
    · exact absurd hk h1
    · have h2 := List.all_eq_true.1 h1 _ (hz (j := j) (o := os[j]) (by simp [hj']))
      simp only [Bool.or_eq_true, Bool.not_eq_true', decide_eq_false_iff_not] at h2
      rcases h2 with h2 | h2
      · exact absurd hij h2
      · simpa using h2
  · exact LI_of_LW ks os 0 a w.drew (by simp) (by simpa using h)
end
section
variable {P : Program} {ops : Array Oper} {w0 : World} {Q : Act → World → Prop} {os : List Oper} {ks : List Nat} {N : Nat} {ρ : Nat → Value} {w : World}
theorem lw_nil {a : Act} (h : Q a w) : LW P ops w0 Q [] ks a w := h
theorem lw_q {o : Oper} {k d : Nat} (hk : k ≤ 2) (hd : o.dst = some d) (hu : Up ops N ρ o) (v : Value) (hr : ∀ w', Cl w0 w k w' → (execOp (evF N ρ) o).run P w' = .ok (.value v) w')
    (h : LW P ops w0 Q os ks (mk N (upd ρ d v)) w) : LW P ops w0 Q (o :: os) (k :: ks) (mk N ρ) w := by
  simp only [LW]
  rw [if_pos hu]
  unfold OneOp
  rw [if_pos hk]
  refine ⟨v, fun w' hc => .inl ?_, ?_⟩
  · rw [mk_eval]; exact hr w' hc
  · rw [hd, mk_put]; exact h
theorem lw_r {o : Oper} {d : Nat} (hd : o.dst = some d) (hu : Up ops N ρ o)
    (v : Value) (w1 : World) (hr : (execOp (evF N ρ) o).run P w = .ok (.value v) w1) (hE : Ext w w1) (h : LW P ops w0 Q os ks (mk N (upd ρ d v)) w1) : LW P ops w0 Q (o :: os) (3 :: ks) (mk N ρ) w := by
  simp only [LW]
  rw [if_pos hu]
  unfold OneOp
  rw [if_neg (by decide), if_pos rfl]
  unfold Oper.wp
  rw [mk_eval, hr]
  show Ext w w1 ∧ LW P ops w0 Q os ks ((mk N ρ).put o.dst v) w1
  rw [hd, mk_put]
  exact ⟨hE, h⟩
theorem lw_call {d : Nat} {x : Operand} {xs : Array Operand} {ats : Array TypeId} {ty : TypeId} {pos : String} {aft : Array Edge} {g : Option (Nat × Bool)} (f : FuncId) (first cap : List Value) (args : List Value)
    (hx : evF N ρ x = .func (.func f) first.toArray cap.toArray) (hxs : first ++ (xs.toList.map (evF N ρ)) ++ cap = args) (hf : ((P.funcs[f]?).map fun fn => (fn.name != "runtime.NumGoroutine") && fn.body.isSome) = some true)
    (hu : Up ops N ρ ⟨some d, .call ⟨.value x, xs, ats⟩, ty, pos, aft, g⟩) {R : Ending → World → Prop} (hc : Calls P f args.toArray w R)
    (h : ∀ e w1, R e w1 → ∃ v, e = .returned v ∧ Ext w w1 ∧ LW P ops w0 Q os ks (mk N (upd ρ d v)) w1) :
    LW P ops w0 Q (⟨some d, .call ⟨.value x, xs, ats⟩, ty, pos, aft, g⟩ :: os) (3 :: ks) (mk N ρ) w := by
  simp only [LW]
  rw [if_pos hu]
  unfold OneOp
  rw [if_neg (by decide), if_pos rfl]
  unfold Oper.wp
  rw [mk_eval]
  have hrun : (execOp (evF N ρ) ⟨some d, .call ⟨.value x, xs, ats⟩, ty, pos, aft, g⟩).run P w = .ok (.enter f args.toArray) w := by
    obtain ⟨fn, hfn, hb⟩ := Option.map_eq_some_iff.1 hf
    simp only [Bool.and_eq_true, bne_iff_ne, ne_eq] at hb
    have hargs : first.toArray ++ xs.map (evF N ρ) ++ cap.toArray = args.toArray := by
      rw [← hxs]; apply Array.ext'; simp
    obtain ⟨c, hbc⟩ := Option.isSome_iff_exists.1 hb.2
    have hcf : (callFunc f args.toArray).run P w = .ok (.enter f args.toArray) w := by
      simp [callFunc, hfn, hb.1, hbc]
    simp [execOp, resolve, hargs, hx, Deferred.ofValue, invoke, hcf]
  rw [hrun]
  refine Calls.mono hc (fun e w1 he => ?_)
  obtain ⟨v, rfl, hE, hL⟩ := h e w1 he
  show Ext w w1 ∧ LW P ops w0 Q os ks ((mk N ρ).put (some d) v) w1
  rw [mk_put]
  exact ⟨hE, hL⟩
theorem lw_callq {d : Nat} {x : Operand} {xs : Array Operand} {ats : Array TypeId} {ty : TypeId} {pos : String} {aft : Array Edge} {g : Option (Nat × Bool)} (f : FuncId) (first cap : List Value) (args : List Value)
    (hx : evF N ρ x = .func (.func f) first.toArray cap.toArray) (hxs : first ++ (xs.toList.map (evF N ρ)) ++ cap = args) (hf : ((P.funcs[f]?).map fun fn => (fn.name != "runtime.NumGoroutine") && fn.body.isSome) = some true)
    (hu : Up ops N ρ ⟨some d, .call ⟨.value x, xs, ats⟩, ty, pos, aft, g⟩) (v : Value) (hc : ∀ w', Calls P f args.toArray w' (fun e w'' => e = .returned v ∧ w'' = w'))
    (h : LW P ops w0 Q os ks (mk N (upd ρ d v)) w) :
    LW P ops w0 Q (⟨some d, .call ⟨.value x, xs, ats⟩, ty, pos, aft, g⟩ :: os) (0 :: ks) (mk N ρ) w := by
  simp only [LW]
  rw [if_pos hu]
  unfold OneOp
  rw [if_pos (by decide)]
  have hrun : ∀ w, (execOp (evF N ρ) ⟨some d, .call ⟨.value x, xs, ats⟩, ty, pos, aft, g⟩).run P w = .ok (.enter f args.toArray) w := by
    intro w
    obtain ⟨fn, hfn, hb⟩ := Option.map_eq_some_iff.1 hf
    simp only [Bool.and_eq_true, bne_iff_ne, ne_eq] at hb
    have hargs : first.toArray ++ xs.map (evF N ρ) ++ cap.toArray = args.toArray := by
      rw [← hxs]; apply Array.ext'; simp
    obtain ⟨c, hbc⟩ := Option.isSome_iff_exists.1 hb.2
    have hcf : (callFunc f args.toArray).run P w = .ok (.enter f args.toArray) w := by
      simp [callFunc, hfn, hb.1, hbc]
    simp [execOp, resolve, hargs, hx, Deferred.ofValue, invoke, hcf]
  refine ⟨v, fun w' _ => .inr (.inr ⟨f, args.toArray, ?_, hc w'⟩), ?_⟩
  · rw [mk_eval]; exact hrun w'
  · show LW P ops w0 Q os ks ((mk N ρ).put (some d) v) w
    rw [mk_put]; exact h
end
section
variable {P : Program} {ops : Array Oper} {w0 : World} {Q : Act → World → Prop} {os : List Oper} {ks : List Nat} {N : Nat} {ρ : Nat → Value} {w : World}
  {d : Nat} {ty : TypeId} {pos : String} {aft : Array Edge} {g : Option (Nat × Bool)} {t e : TypeId}
theorem q_idx {t e : TypeId} {x y : Operand} {v : Value} {n s : Nat} {k : IntKind} {i : Int} (j : Nat) (ht : P.underlying t = some (.slice e)) {z : Value} {b : Nat} (hi : TI P e s z b) (hx : evF N ρ x = v) (hy : evF N ρ y = .int k i)
    (hs : isSl v n) (hj : i = (j : Int)) (hlt : j < n) (hu : Up ops N ρ ⟨some d, .indexAddr t x y, ty, pos, aft, g⟩)
    (h : LW P ops w0 Q os ks (mk N (upd ρ d (eptr v j s))) w) : LW P ops w0 Q (⟨some d, .indexAddr t x y, ty, pos, aft, g⟩ :: os) (0 :: ks) (mk N ρ) w :=
  lw_q (by decide) rfl hu _ (fun w' _ => by
    obtain ⟨a, c, rfl, ha⟩ := hs
    obtain ⟨inf, h1, _, h3, _⟩ := hi.get
    subst hj
    cases a with
    | none => have := ha rfl; omega
    | some a =>
      have hlt' : (j : Int) < (n : Int) := by omega
      simp [execOp, hx, hy, Instr.indexAt, asIntOf, run_underlying ht, sizeOf, typeInfo, h1, h3, eptr, hlt]) h
theorem q_fldP {s : TypeId} {x : Operand} {i : Nat} {p : Value} {b o : Nat} (off : Nat) (hf : fdO P s i off = true) (hx : evF N ρ x = p) (hp : p = .pointer (some ⟨b, o, none⟩)) (hu : Up ops N ρ ⟨some d, .fieldAddr s x i, ty, pos, aft, g⟩)
    (h : LW P ops w0 Q os ks (mk N (upd ρ d (padd p off))) w) : LW P ops w0 Q (⟨some d, .fieldAddr s x i, ty, pos, aft, g⟩ :: os) (0 :: ks) (mk N ρ) w :=
  lw_q (by decide) rfl hu _ (fun w' _ => by
    subst hp
    unfold fdO at hf
    split at hf
    · rename_i fs hfs
      split at hf
      · rename_i f hff
        simp only [Bool.and_eq_true, beq_iff_eq] at hf
        obtain ⟨rfl, hf2⟩ := hf
        split at hf2
        · rename_i inf hin
          have hne : inf.size ≠ 0 := by simpa using hf2
          simp [execOp, Instr.fieldAt, Instr.sureAddr, run_underlying hfs, hff, hx, fieldPlace, sizeOf, typeInfo, hin, hne, add_mk, padd]
        · cases hf2
      · cases hf
    · cases hf) h
end
section
variable {P : Program} {ops : Array Oper} {w0 : World} {Q : Act → World → Prop} {os : List Oper} {ks : List Nat} {N : Nat} {ρ : Nat → Value} {w : World}
  {d : Nat} {ty : TypeId} {pos : String} {aft : Array Edge} {g : Option (Nat × Bool)} {t e : TypeId} {z : Value} {b : Nat}
theorem r_one {α : Type} {E : Stand α} (hE : Good E) {x : Operand} {u : Value} {y : α} {B U : Nat} (ht : P.underlying t = some (.slice e)) (hi : TI P e 1 z b) (hz : z.cells = #[z]) (hx : evF N ρ x = u) (hy : Fr E B U w.heap u y) (hB : B ≤ w.heap.size)
    (hu : Up ops N ρ ⟨some d, .buildSlice t 1 #[(0, x)], ty, pos, aft, g⟩)
    (h : ∀ v w1, _root_.Go.Proofs.Ytjnbnlniafmblaa.Ext w w1 → w1.heap.size = w.heap.size + 1 → Fr (owL E e) B w1.heap.size w1.heap v [y] → LW P ops w0 Q os ks (mk N (upd ρ d v)) w1) :
    LW P ops w0 Q (⟨some d, .buildSlice t 1 #[(0, x)], ty, pos, aft, g⟩ :: os) (3 :: ks) (mk N ρ) w := by
  obtain ⟨F, h1, h2, h3⟩ := hy
  have hr := run_bs1 (P := P) (w := w) ht hi (hE.cells h1) hz
  have hrun : (execOp (evF N ρ) ⟨some d, .buildSlice t 1 #[(0, x)], ty, pos, aft, g⟩).run P w = .ok (.value (.slice (some ⟨w.heap.size, 0, none⟩) 1 1)) (w.alloc (.cells #[u] e)) := by
    simp only [execOp, List.map_toArray, List.map_cons, List.map_nil, Sem.run_bind, hx, hr, Result.andThen_ok, Sem.run_pure]
  refine lw_r rfl hu _ _ hrun (J.ext (ext_alloc _ _)) (h _ _ (ext_alloc _ _) (by simp) ?_)
  have hn := owL_new (e := e) (w := w) hE (us := [u]) (xs := [y]) (F := F ++ []) (cur := #[u]) ⟨F, [], rfl, h1, rfl⟩ (by simp [maxLen]) rfl (by simp)
  refine ⟨_, hn, ?_, fun c hc => ?_⟩
  · rw [List.append_nil, List.nodup_cons]
    exact ⟨fun hm => by have := hE.lt h1 _ hm; omega, h2⟩
  · have hlt := (good_owL hE).lt hn c hc
    refine ⟨?_, hlt⟩
    rcases List.mem_cons.1 hc with rfl | hc
    · exact hB
    · exact (h3 c (by simpa using hc)).1
end
end Jx
end Go.Proofs.Ytjnbnlniafmblaa
namespace Go.Proofs.Ytjnbnlniafmblaa
open Go Go.RowKit
set_option linter.unusedVariables false
set_option linter.unusedSimpArgs false
section ops
variable {P : Program} {ops : Array Oper} {w0 : World} {Q : Act → World → Prop} {os : List Oper} {ks : List Nat} {N : Nat} {ρ : Nat → Value} {w : World}
  {d : Nat} {ty : TypeId} {pos : String} {aft : Array Edge} {g : Option (Nat × Bool)} {t e : TypeId}
theorem q_nilP {x : Operand} {p : Value} (hp : ∃ g o, p = .pointer (some ⟨g, o, none⟩)) (hx : evF N ρ x = p) (hu : Up ops N ρ ⟨some d, .nilCheck x, ty, pos, aft, g⟩)
    (h : LW P ops w0 Q os ks (mk N (upd ρ d p)) w) : LW P ops w0 Q (⟨some d, .nilCheck x, ty, pos, aft, g⟩ :: os) (0 :: ks) (mk N ρ) w := by
  obtain ⟨b, o, rfl⟩ := hp
  exact lw_q (by decide) rfl hu _ (fun w' _ => by simp [execOp, hx]) h
theorem addr_add0 (a : Addr) : a.add 0 = a := by
  obtain ⟨b, o, s⟩ := a
  unfold Addr.add
  simp
end ops
end Go.Proofs.Ytjnbnlniafmblaa
namespace Go.Proofs.Ytjnbnlniafmblaa
open Go Go.RowKit
set_option linter.unusedVariables false
set_option linter.unusedSimpArgs false
/-- Two strings have the same bytes. -/
def strE (a b : ByteArray) : Bool := a.toList == b.toList
section ops
variable {P : Program} {ops : Array Oper} {w0 : World} {Q : Act → World → Prop} {os : List Oper} {ks : List Nat} {N : Nat} {ρ : Nat → Value} {w : World}
  {d : Nat} {ty : TypeId} {pos : String} {aft : Array Edge} {g : Option (Nat × Bool)} {t e : TypeId}
theorem q_eqls {xt yt : TypeId} {x y : Operand} {a b : ByteArray} (c : Bool) (ht : P.underlying xt = some .string) (hx : evF N ρ x = .string a) (hy : evF N ρ y = .string b) (hc : strE a b = c) (hu : Up ops N ρ ⟨some d, .binOp .eql xt x y yt, ty, pos, aft, g⟩)
    (h : LW P ops w0 Q os ks (mk N (upd ρ d (.bool c))) w) : LW P ops w0 Q (⟨some d, .binOp .eql xt x y yt, ty, pos, aft, g⟩ :: os) (0 :: ks) (mk N ρ) w :=
  lw_q (by decide) rfl hu _ (fun w' _ => by
    have he : (eqGuard .eql xt x y (.string a) (.string b)).run P w' = .ok () w' := rfl
    have hr : (binOp .eql xt (.string a) (.string b)).run P w' = .ok (.bool (strE a b)) w' := by simp [binOp, Op.stringOp, strE]
    simp only [execOp, hx, hy, Sem.run_bind, he, Result.andThen_ok, hr, hc, Sem.run_pure]) h
theorem q_neqs {xt yt : TypeId} {x y : Operand} {a b : ByteArray} (c : Bool) (ht : P.underlying xt = some .string) (hx : evF N ρ x = .string a) (hy : evF N ρ y = .string b) (hc : (!strE a b) = c) (hu : Up ops N ρ ⟨some d, .binOp .neq xt x y yt, ty, pos, aft, g⟩)
    (h : LW P ops w0 Q os ks (mk N (upd ρ d (.bool c))) w) : LW P ops w0 Q (⟨some d, .binOp .neq xt x y yt, ty, pos, aft, g⟩ :: os) (0 :: ks) (mk N ρ) w :=
  lw_q (by decide) rfl hu _ (fun w' _ => by
    have he : (eqGuard .neq xt x y (.string a) (.string b)).run P w' = .ok () w' := rfl
    have hr : (binOp .neq xt (.string a) (.string b)).run P w' = .ok (.bool (!strE a b)) w' := by simp [binOp, Op.stringOp, strE]
    simp only [execOp, hx, hy, Sem.run_bind, he, Result.andThen_ok, hr, hc, Sem.run_pure]) h
/-- The first k elements of a slice of structs. -/
def prefV : Value → Nat → Value
  | .slice a _ c, k => .slice a k c
  | v, _ => v
theorem RN.pref {α : Type} {S : List Nat} {s : Nat} {E : StandN α} {H : Array Obj} {v : Value} {xs : List α} (hE : GoodN s E) {k : Nat} (h : RN S (rdS s E) H v xs) (hk : k ≤ xs.length) : RN S (rdS s E) H (prefV v k) (xs.take k) := by
  obtain ⟨F, h, hb⟩ := h
  obtain ⟨a, c, rfl, _⟩ := h.cap
  obtain ⟨G, g1, g2⟩ := h.take hE hk
  exact ⟨G, g1, fun b hm => hb b (g2 b hm)⟩
theorem RN.capS {α : Type} {S : List Nat} {s : Nat} {E : StandN α} {H : Array Obj} {v : Value} {xs : List α} (h : RN S (rdS s E) H v xs) : CapS v := by
  obtain ⟨F, h, hb⟩ := h
  obtain ⟨a, c, rfl, hl⟩ := h.cap
  exact hl
theorem q_pref {x y : Operand} {v z : Value} {n s b k : Nat} (ht : P.underlying t = some (.slice e)) (hi : TI P e s z b) (hx : evF N ρ x = v) (hs : isSl v n) (hc : CapS v) (hy : evF N ρ y = .int .i64 (k : Int)) (hk : k ≤ n) (hu : Up ops N ρ ⟨some d, .slice t x none (some y) none, ty, pos, aft, g⟩)
    (h : LW P ops w0 Q os ks (mk N (upd ρ d (prefV v k))) w) : LW P ops w0 Q (⟨some d, .slice t x none (some y) none, ty, pos, aft, g⟩ :: os) (0 :: ks) (mk N ρ) w := by
  obtain ⟨a, cap, rfl, _⟩ := hs
  obtain ⟨inf, h1, _, h3, _⟩ := hi.get
  refine lw_q (by decide) rfl hu _ (fun w' _ => ?_) h
  have hl : n ≤ cap := hc
  have hl' : k ≤ cap := by omega
  have hmap : ∀ a : Option Addr, a.map (·.add 0) = a := fun a => by cases a <;> simp [addr_add0]
  simp [execOp, hx, hy, Instr.sliceAt, Instr.slice, Instr.sliceBounds, Instr.sliceBound, asIntOf, run_underlying ht, sizeOf, typeInfo, h1, h3, hl', hmap, prefV]
end ops
end Go.Proofs.Ytjnbnlniafmblaa
namespace Go.Proofs.Ytjnbnlniafmblaa
open Go Go.RowKit
set_option linter.unusedVariables false
set_option linter.unusedSimpArgs false
/-- A byte of a name. -/
def chB (s : ByteArray) (i : Nat) : Bool := (decide (97 ≤ sAt s i) && decide (sAt s i ≤ 122)) || (decide (i ≠ 0) && (decide (48 ≤ sAt s i) && decide (sAt s i ≤ 57)))
def nmB (s : ByteArray) : Bool := (decide (1 ≤ s.size) && decide (s.size ≤ 12)) && (List.range s.size).all (chB s)
/-- A valid expression. -/
def exB (p : List Fn) (e : Ex) (vars funcs : Int) : Bool :=
  inB vars 0 412 && (inB funcs 0 ((p.length : Nat) : Int) && (decide (e.size ≤ 400) && (decide (e.deep ≤ 60) && wf p funcs e vars)))
def newB (p : List Fn) (k : Nat) : Bool := !((p.take k).any fun g => strE g.name (p.getD k Fn.zero).name)
def fnB (p : List Fn) (k : Nat) : Bool :=
  (nmB (p.getD k Fn.zero).name && newB p k) && ((inB (p.getD k Fn.zero).params 0 12 && inB (((p.getD k Fn.zero).outs.length : Nat) : Int) 1 12) &&
    ((List.range (p.getD k Fn.zero).outs.length).all (fun j => exB p ((p.getD k Fn.zero).outs.getD j Ex.zero) (p.getD k Fn.zero).params ((k : Nat) : Int)) && decide (Ex.sizes (p.getD k Fn.zero).outs ≤ 400)))
def okP (p : List Fn) : Bool := decide (p.length ≤ 16) && (List.range p.length).all (fnB p)
/-- Programs of a size that can be counted. -/
def SzP (p : List Fn) : Prop := ∀ k, k < p.length → Ex.sizes (p.getD k Fn.zero).outs ≤ 2000000 ∧ (p.getD k Fn.zero).outs.length ≤ 2000000 ∧ (p.getD k Fn.zero).name.size ≤ 2000000
theorem allR_succ {f : Nat → Bool} {k : Nat} (h : (List.range k).all f = true) (hk : f k = true) : (List.range (k + 1)).all f = true := by
  rw [List.range_succ, List.all_append, h]; simp [hk]
theorem allR_fail {f : Nat → Bool} {k n : Nat} (hk : k < n) (h : f k = false) : (List.range n).all f = false := by
  rw [List.all_eq_false]
  exact ⟨k, List.mem_range.2 hk, by simp [h]⟩
theorem allR_at {f : Nat → Bool} {k n : Nat} (h : (List.range n).all f = true) (hk : k < n) : f k = true := List.all_eq_true.1 h k (List.mem_range.2 hk)
theorem okP_at {p : List Fn} (h : okP p = true) {k : Nat} (hk : k < p.length) : fnB p k = true := by
  unfold okP at h
  rw [Bool.and_eq_true] at h
  exact allR_at h.2 hk
theorem okP_vpr {p : List Fn} (h : okP p = true) : VPr p := by
  have h1 : ∀ k, k < p.length → (0 ≤ (p.getD k Fn.zero).params ∧ (p.getD k Fn.zero).params ≤ 12) ∧ (1 ≤ (p.getD k Fn.zero).outs.length ∧ (p.getD k Fn.zero).outs.length ≤ 12) ∧
      ∀ j, j < (p.getD k Fn.zero).outs.length → exB p ((p.getD k Fn.zero).outs.getD j Ex.zero) (p.getD k Fn.zero).params ((k : Nat) : Int) = true := by
    intro k hk
    have := okP_at h hk
    unfold fnB at this
    simp only [Bool.and_eq_true, inB_iff] at this
    exact ⟨this.2.1.1, by omega, fun j hj => allR_at this.2.2.1 hj⟩
  have h2 : ∀ k, k < p.length → ∀ j, j < (p.getD k Fn.zero).outs.length → ((p.getD k Fn.zero).outs.getD j Ex.zero).deep ≤ 60 ∧ wf p ((k : Nat) : Int) ((p.getD k Fn.zero).outs.getD j Ex.zero) (p.getD k Fn.zero).params = true := by
    intro k hk j hj
    have := (h1 k hk).2.2 j hj
    unfold exB at this
    simp only [Bool.and_eq_true, decide_eq_true_eq] at this
    exact ⟨this.2.2.2.1, this.2.2.2.2⟩
  exact ⟨fun k hk => (h1 k hk).1, fun k hk => (h1 k hk).2.1, fun k hk j hj => (h2 k hk j hj).1, fun k hk j hj => (h2 k hk j hj).2⟩
theorem okP_len {p : List Fn} (h : okP p = true) : p.length ≤ 16 := by
  unfold okP at h; simp only [Bool.and_eq_true, decide_eq_true_eq] at h; exact h.1
end Go.Proofs.Ytjnbnlniafmblaa
namespace Go.Proofs.Ytjnbnlniafmblaa
open Go Go.RowKit
set_option linter.unusedVariables false
set_option linter.unusedSimpArgs false
/-- The code of a program and the index of a function. -/
def isF (p : List Fn) (f : Int) : Int := if okP p = true then (if 0 ≤ f ∧ f ≤ ((p.length : Nat) : Int) - 1 then 0 else 2) else 1
theorem isF_0 {p : List Fn} {f : Int} (h : isF p f = 0) : okP p = true ∧ 0 ≤ f ∧ f < ((p.length : Nat) : Int) := by
  unfold isF at h
  split at h
  · split at h
    · rename_i h1 h2; exact ⟨h1, h2.1, by omega⟩
    · omega
  · omega
end Go.Proofs.Ytjnbnlniafmblaa
namespace Go.Proofs.Ytjnbnlniafmblaa
open Go Go.RowKit
set_option linter.unusedVariables false
set_option linter.unusedSimpArgs false
mutual
def lftE : Ex → Int → Int
  | .mk _ _ _ _ l, x => lfts l (x - 1)
def lfts : List Ex → Int → Int
  | [], x => x
  | e :: l, x => if 0 ≤ x then lfts l (lftE e x) else x
end
theorem lftE_eq (e : Ex) (x : Int) : lftE e x = lfts e.kids (x - 1) := by cases e; rw [lftE]; rfl
theorem lfts_neg {l : List Ex} {x : Int} (h : x < 0) : lfts l x = x := by
  cases l with
  | nil => rw [lfts]
  | cons e l => rw [lfts, if_neg (by omega)]
mutual
theorem lft_spec : ∀ (e : Ex) (x : Int), 0 ≤ x → (lftE e x = x - (e.size : Int) ∧ (e.size : Int) ≤ x) ∨ (lftE e x = -1 ∧ x < (e.size : Int))
  | .mk k n q c l, x, h => by
    rw [lftE, Ex.size]
    by_cases h0 : x = 0
    · subst h0
      right
      rw [lfts_neg (by omega)]
      refine ⟨by omega, by omega⟩
    · rcases lfts_spec l (x - 1) (by omega) with h1 | h1
      · left; omega
      · right; omega
theorem lfts_spec : ∀ (l : List Ex) (x : Int), 0 ≤ x → (lfts l x = x - (Ex.sizes l : Int) ∧ (Ex.sizes l : Int) ≤ x) ∨ (lfts l x = -1 ∧ x < (Ex.sizes l : Int))
  | [], x, h => by rw [lfts, Ex.sizes]; left; omega
  | e :: l, x, h => by
    rw [lfts, if_pos h, Ex.sizes]
    rcases lft_spec e x h with h1 | h1
    · rw [h1.1]
      rcases lfts_spec l (x - (e.size : Int)) (by omega) with h2 | h2
      · left; omega
      · right; omega
    · rw [h1.1, lfts_neg (by omega)]
      right; omega
end
theorem lfts_snoc (e : Ex) : ∀ (l : List Ex) (x : Int), lfts (l ++ [e]) x = if 0 ≤ lfts l x then lftE e (lfts l x) else lfts l x
  | [], x => by
    rw [List.nil_append, lfts, lfts]
    split
    · rw [lfts]
    · rfl
  | a :: l, x => by
    rw [List.cons_append, lfts, lfts]
    by_cases h : 0 ≤ x
    · rw [if_pos h, if_pos h, lfts_snoc e l]
    · rw [if_neg h, if_neg h, if_neg h]
theorem lfts_step {l : List Ex} {k : Nat} (hk : k < l.length) {x : Int} (h : 0 ≤ lfts (l.take k) x) : lfts (l.take (k + 1)) x = lftE (l.getD k Ex.zero) (lfts (l.take k) x) := by
  rw [List.take_succ_eq_append_getElem hk, lfts_snoc, if_pos h]
  simp [hk]
theorem lfts_app : ∀ (l r : List Ex) (x : Int), lfts l x < 0 → lfts (l ++ r) x = lfts l x
  | [], r, x, h => by rw [lfts] at h ⊢; rw [List.nil_append, lfts_neg h]
  | a :: l, r, x, h => by
    rw [lfts] at h ⊢
    rw [List.cons_append, lfts]
    split
    · rename_i h0; rw [if_pos h0] at h; exact lfts_app l r _ h
    · rfl
theorem lfts_stop {l : List Ex} {k : Nat} {x : Int} (h : lfts (l.take k) x < 0) : lfts l x = lfts (l.take k) x := by
  have := lfts_app (l.take k) (l.drop k) x h
  rwa [List.take_append_drop] at this
theorem lftE_rng {e : Ex} {x : Int} (h : 0 ≤ x) : -1 ≤ lftE e x ∧ lftE e x ≤ x := by
  rcases lft_spec e x h with h1 | h1 <;> omega
theorem lftE_pos {e : Ex} {x : Int} (h : 0 ≤ x) : 0 ≤ lftE e x ↔ (e.size : Int) ≤ x := by
  rcases lft_spec e x h with h1 | h1 <;> omega
def kdN (k : Int) : Int := if k = 1 ∨ k = 2 then 0 else if k = 3 ∨ k = 4 ∨ k = 5 ∨ k = 6 ∨ k = 9 then 2 else if k = 7 then 1 else if k = 8 then 3 else -1
theorem decide_congr {p q : Prop} [Decidable p] [Decidable q] (h : p ↔ q) : decide p = decide q := decide_eq_decide.2 h
section
variable {p : List Fn} {F vars : Int} {e : Ex}
theorem wfN_plain (h : wfN p F vars e = true) (h10 : e.kind ≠ 10) (h11 : e.kind ≠ 11) : e.pick = 0 ∧ e.count = 0 ∧ kdN e.kind = ((e.kids.length : Nat) : Int) ∧ (e.kind ≠ 1 → e.kind ≠ 2 → e.num = 0) := by
  unfold wfN plainB at h
  unfold kdN
  split at h
  · rename_i h1
    simp only [Bool.and_eq_true, decide_eq_true_eq] at h
    rw [if_pos (by omega)]
    exact ⟨h.1.1, h.1.2, by omega, fun hh => absurd h1 hh⟩
  · split at h
    · rename_i h1
      simp only [Bool.and_eq_true, decide_eq_true_eq] at h
      rw [if_pos (by omega)]
      exact ⟨h.1.1, h.1.2, by omega, fun _ hh => absurd h1 hh⟩
    · split at h
      · simp only [Bool.and_eq_true, decide_eq_true_eq] at h
        rw [if_neg (by omega), if_pos (by omega)]
        exact ⟨h.1.1, h.1.2, by omega, fun _ _ => h.2.1⟩
      · split at h
        · simp only [Bool.and_eq_true, decide_eq_true_eq] at h
          rw [if_neg (by omega), if_neg (by omega), if_pos (by omega)]
          exact ⟨h.1.1, h.1.2, by omega, fun _ _ => h.2.1⟩
        · split at h
          · simp only [Bool.and_eq_true, decide_eq_true_eq] at h
            rw [if_neg (by omega), if_neg (by omega), if_neg (by omega), if_pos (by omega)]
            exact ⟨h.1.1, h.1.2, by omega, fun _ _ => h.2.1⟩
          · split at h
            · omega
            · cases h
theorem nd_bad (h10 : e.kind ≠ 10) (h11 : e.kind ≠ 11) (h : kdN e.kind ≠ ((e.kids.length : Nat) : Int) ∨ e.pick ≠ 0 ∨ e.count ≠ 0) : false = wfN p F vars e := by
  cases hw : wfN p F vars e with
  | false => rfl
  | true =>
    have := wfN_plain hw h10 h11
    omega
theorem nd_1 (hk : kdN e.kind = ((e.kids.length : Nat) : Int)) (h1 : e.kind = 1) (hp : e.pick = 0) (hc : e.count = 0) : isN e.num = wfN p F vars e := by
  have hl : e.kids.length = 0 := by unfold kdN at hk; rw [if_pos (by omega)] at hk; omega
  unfold wfN plainB
  rw [if_pos h1, decide_eq_true hp, decide_eq_true hc, decide_eq_true hl]; rfl
theorem nd_2 (hk : kdN e.kind = ((e.kids.length : Nat) : Int)) (h1 : e.kind = 2) (hp : e.pick = 0) (hc : e.count = 0) : (decide (((0 : Nat) : Int) ≤ e.num) && decide (e.num ≤ vars - 1)) = wfN p F vars e := by
  have hl : e.kids.length = 0 := by unfold kdN at hk; rw [if_pos (by omega)] at hk; omega
  unfold wfN plainB inB
  rw [if_neg (by omega), if_pos h1, decide_eq_true hp, decide_eq_true hc, decide_eq_true hl]; rfl
theorem nd_o (hk : kdN e.kind = ((e.kids.length : Nat) : Int)) (h1 : e.kind ≠ 1) (h2 : e.kind ≠ 2) (h10 : e.kind ≠ 10) (h11 : e.kind ≠ 11) (hp : e.pick = 0) (hc : e.count = 0) : decide (e.num = 0) = wfN p F vars e := by
  unfold kdN at hk
  unfold wfN plainB
  rw [if_neg h1, if_neg h2, decide_eq_true hp, decide_eq_true hc]
  rw [if_neg (by omega)] at hk
  split at hk
  · rename_i h3
    rw [if_pos h3, decide_eq_true (show e.kids.length = 2 by omega)]; simp
  · rename_i h3
    rw [if_neg h3]
    split at hk
    · rename_i h4
      rw [if_pos h4, decide_eq_true (show e.kids.length = 1 by omega)]; simp
    · rename_i h4
      rw [if_neg h4]
      split at hk
      · rename_i h5
        rw [if_pos h5, decide_eq_true (show e.kids.length = 3 by omega)]; simp
      · omega
end
end Go.Proofs.Ytjnbnlniafmblaa
namespace Go.Proofs.Ytjnbnlniafmblaa
open Go Go.RowKit
set_option linter.unusedVariables false
set_option linter.unusedSimpArgs false
/-- A round: a function that takes states to states. -/
def rnF (p : List Fn) (f : Int) : Bool := inB f 0 (((p.length : Nat) : Int) - 1) && (decide (1 ≤ (p.getD f.toNat Fn.zero).params) && decide ((((p.getD f.toNat Fn.zero).outs.length : Nat) : Int) = (p.getD f.toNat Fn.zero).params))
def rnB (p : List Fn) (f : Int) : Bool := okP p && rnF p f
/-- The code of a round and of lists of numbers. -/
def chC (p : List Fn) (f : Int) (l : List Sr) : Int :=
  if okP p = true then (if rnF p f = true then (if l.all (fun s => decide (((s.length : Nat) : Int) = (p.getD f.toNat Fn.zero).params) && allN s) = true then 0 else 2) else 2) else 1
theorem chC_rng (p : List Fn) (f : Int) (l : List Sr) : 0 ≤ chC p f l ∧ chC p f l ≤ 2 := by
  unfold chC; split <;> (try split) <;> (try split) <;> omega
theorem rnF_iff {p : List Fn} {f : Int} : rnF p f = true ↔ (0 ≤ f ∧ f ≤ ((p.length : Nat) : Int) - 1) ∧ 1 ≤ (p.getD f.toNat Fn.zero).params ∧ (((p.getD f.toNat Fn.zero).outs.length : Nat) : Int) = (p.getD f.toNat Fn.zero).params := by
  unfold rnF; rw [Bool.and_eq_true, Bool.and_eq_true, inB_iff, decide_eq_true_eq, decide_eq_true_eq]
end Go.Proofs.Ytjnbnlniafmblaa
namespace Go.Proofs.Ytjnbnlniafmblaa
open Go Go.RowKit
set_option linter.unusedVariables false
set_option linter.unusedSimpArgs false
/-- A slice of structs of s cells that is owned. -/
def owS {α : Type} (s : Nat) (E : StandN α) (e : TypeId) : Stand (List α) := fun H v xs F =>
  (v = .slice none 0 0 ∧ xs = [] ∧ F = []) ∨
  ∃ css g cap cur F', elsN E H css xs F' ∧ v = .slice (some ⟨g, 0, none⟩) xs.length cap ∧ H[g]? = some (.cells cur e (0, 0)) ∧ xs.length ≤ cap ∧ cap ≤ maxLen ∧ cur.size = cap * s ∧ cur.toList.take (xs.length * s) = css.flatten ∧ F = g :: F'
section owS
variable {α : Type} {E : StandN α} {s : Nat} {e : TypeId} {H H' : Array Obj} {v : Value} {xs : List α} {F : List Nat}
theorem good_owS (hE : GoodN s E) : Good (owS s E e) where
  cells := by
    rintro H v xs F (⟨rfl, _⟩ | ⟨us, g, cap, cur, F', _, rfl, _⟩) <;> rfl
  one := by
    rintro H v xs F (⟨rfl, _⟩ | ⟨us, g, cap, cur, F', _, rfl, _⟩) <;> rfl
  lt := by
    rintro H v xs F (⟨rfl, _, rfl⟩ | ⟨us, g, cap, cur, F', h, rfl, hg, _, _, _, _, rfl⟩) b hb
    · cases hb
    · rcases List.mem_cons.1 hb with rfl | hb
      · exact getElem?_lt hg
      · exact h.lt hE b hb
  stable := by
    rintro H H' v xs F (⟨rfl, h1, h2⟩ | ⟨us, g, cap, cur, F', h, rfl, hg, r1, r2, r3, r4, rfl⟩) hb
    · exact .inl ⟨rfl, h1, h2⟩
    · exact .inr ⟨us, g, cap, cur, F', h.stable hE fun b hh => hb b (List.mem_cons_of_mem _ hh), rfl, by rw [hb g (List.mem_cons_self ..)]; exact hg, r1, r2, r3, r4, rfl⟩
theorem elsN.imp {E' : StandN α} (hi : ∀ {H cs x F}, E H cs x F → E' H cs x F) : ∀ {css : List (List Value)} {xs : List α} {F : List Nat}, elsN E H css xs F → elsN E' H css xs F
  | [], [], _, h => h
  | _ :: _, _ :: _, _, ⟨F1, F2, rfl, h1, h2⟩ => ⟨F1, F2, rfl, hi h1, elsN.imp hi h2⟩
  | [], _ :: _, _, h => h.elim
  | _ :: _, [], _, h => h.elim
theorem owS.imp {E' : StandN α} (hi : ∀ {H cs x F}, E H cs x F → E' H cs x F) (h : owS s E e H v xs F) : owS s E' e H v xs F := by
  rcases h with h | ⟨us, g, cap, cur, F', h, rfl, hg, r1, r2, r3, r4, rfl⟩
  · exact .inl h
  · exact .inr ⟨us, g, cap, cur, F', h.imp hi, rfl, hg, r1, r2, r3, r4, rfl⟩
theorem owS.rd (hE : GoodN s E) (h : owS s E e H v xs F) : rdS s E H v xs F := by
  rcases h with ⟨rfl, rfl, rfl⟩ | ⟨us, g, cap, cur, F', h, rfl, hg, r1, r2, r3, r4, rfl⟩
  · exact .inl ⟨none, 0, rfl, rfl, rfl⟩
  · refine .inr ⟨us, g, 0, cap, cur, e, (0, 0), F', h, rfl, hg, ?_, ⟨Nat.le_trans r1 r2, r1⟩, rfl⟩
    rw [List.drop_zero]; exact r4
theorem owS.isSl (h : owS s E e H v xs F) : isSl v xs.length := by
  rcases h with ⟨rfl, rfl, _⟩ | ⟨us, g, cap, cur, F', _, rfl, _⟩
  · exact ⟨none, 0, rfl, fun _ => rfl⟩
  · exact ⟨_, _, rfl, fun h => by cases h⟩
theorem owS.lenle (h : owS s E e H v xs F) : xs.length ≤ maxLen := by
  rcases h with ⟨_, rfl, _⟩ | ⟨us, g, cap, cur, F', _, _, _, r1, r2, _⟩
  · simp
  · exact Nat.le_trans r1 r2
theorem elsN.set : ∀ {css : List (List Value)} {xs : List α} {F G : List Nat} {k : Nat} {cs : List Value} {y : α}, elsN E H css xs F → k < xs.length → F.Nodup → E H cs y G → G.Nodup → (∀ b ∈ G, b ∉ F) →
    ∃ F', elsN E H (css.set k cs) (xs.set k y) F' ∧ F'.Nodup ∧ ∀ b ∈ F', b ∈ F ∨ b ∈ G
  | u0 :: us, x :: xs, _, G, 0, u, y, ⟨F1, F2, rfl, h1, h2⟩, _, hn, hy, hg, hd => by
    have hn' := List.nodup_append.1 hn
    refine ⟨G ++ F2, ⟨G, F2, rfl, hy, h2⟩, List.nodup_append.2 ⟨hg, hn'.2.1, ?_⟩, fun b hb => (List.mem_append.1 hb).elim .inr fun h => .inl (List.mem_append_right _ h)⟩
    rintro a ha b hb rfl
    exact hd a ha (List.mem_append_right _ hb)
  | u0 :: us, x :: xs, _, G, k + 1, u, y, ⟨F1, F2, rfl, h1, h2⟩, hk, hn, hy, hg, hd => by
    have hn' := List.nodup_append.1 hn
    obtain ⟨F', q1, q2, q3⟩ := elsN.set h2 (by simpa using hk) hn'.2.1 hy hg fun b hb hc => hd b hb (List.mem_append_right _ hc)
    refine ⟨F1 ++ F', ⟨F1, F', rfl, h1, q1⟩, List.nodup_append.2 ⟨hn'.1, q2, ?_⟩, fun b hb => ?_⟩
    · rintro a ha b hb rfl
      rcases q3 a hb with hh | hh
      · exact hn'.2.2 a ha a hh rfl
      · exact hd a hh (List.mem_append_left _ ha)
    · rcases List.mem_append.1 hb with hh | hh
      · exact .inl (List.mem_append_left _ hh)
      · rcases q3 b hh with h' | h'
        · exact .inl (List.mem_append_right _ h')
        · exact .inr h'
  | [], [], _, _, _, _, _, _, hk, _, _, _, _ => by simp at hk
  | [], _ :: _, _, _, _, _, _, h, _, _, _, _, _ => h.elim
  | _ :: _, [], _, _, _, _, _, h, _, _, _, _, _ => h.elim
/-- An element, and what becomes of all when it is changed. -/
theorem elsN.upd : ∀ {css : List (List Value)} {xs : List α} {F : List Nat} {k : Nat} (d : α), elsN E H css xs F → k < xs.length → F.Nodup →
    ∃ cs G, css[k]? = some cs ∧ E H cs (xs.getD k d) G ∧ G.Nodup ∧ (∀ b ∈ G, b ∈ F) ∧
      (∀ {H' : Array Obj} {cs' : List Value}, (∀ {c x C}, E H c x C → (∀ b ∈ C, b ∈ F ∧ b ∉ G) → E H' c x C) → E H' cs' (xs.getD k d) G → elsN E H' (css.set k cs') xs F)
  | c :: css, x :: xs, _, 0, d, ⟨F1, F2, rfl, h1, h2⟩, _, hn => by
    have hn' := List.nodup_append.1 hn
    refine ⟨c, F1, rfl, h1, hn'.1, fun b hb => List.mem_append_left _ hb, fun {H' cs'} hE hu => ⟨F1, F2, rfl, hu, ?_⟩⟩
    have key : ∀ {us : List (List Value)} {xs : List α} {F : List Nat}, elsN E H us xs F → (∀ b ∈ F, b ∈ F2) → elsN E H' us xs F := by
      intro us
      induction us with
      | nil => intro xs F h _; cases xs with
        | nil => exact h
        | cons => exact h.elim
      | cons u us ih =>
        intro xs F h hs
        cases xs with
        | nil => exact h.elim
        | cons x xs =>
          obtain ⟨A, C, rfl, q1, q2⟩ := h
          exact ⟨A, C, rfl, hE q1 fun b hb => ⟨List.mem_append_right _ (hs b (List.mem_append_left _ hb)), fun hc => hn'.2.2 b hc b (hs b (List.mem_append_left _ hb)) rfl⟩, ih q2 fun b hb => hs b (List.mem_append_right _ hb)⟩
    exact key h2 fun b hb => hb
  | c :: css, x :: xs, _, k + 1, d, ⟨F1, F2, rfl, h1, h2⟩, hk, hn => by
    have hn' := List.nodup_append.1 hn
    obtain ⟨cs, G, hu, hx, hg, hb, hc⟩ := elsN.upd d h2 (by simpa using hk) hn'.2.1
    refine ⟨cs, G, by simpa using hu, by simpa using hx, hg, fun b hh => List.mem_append_right _ (hb b hh), fun hE hy => ⟨F1, F2, rfl, hE h1 fun b hb' => ⟨List.mem_append_left _ hb', fun hc' => hn'.2.2 b hb' b (hb b hc') rfl⟩, ?_⟩⟩
    exact hc (fun q hs => hE q fun b hb' => ⟨List.mem_append_right _ (hs b hb').1, (hs b hb').2⟩) (by simpa using hy)
  | [], [], _, _, _, _, hk, _ => by simp at hk
  | [], _ :: _, _, _, _, h, _, _ => h.elim
  | _ :: _, [], _, _, _, h, _, _ => h.elim
end owS
theorem flat_set {s : Nat} {vs : List Value} : ∀ {css : List (List Value)} {k : Nat}, (∀ c ∈ css, c.length = s) → vs.length = s → k < css.length → css.flatten.take (k * s) ++ vs ++ css.flatten.drop (k * s + vs.length) = (css.set k vs).flatten
  | [], _, _, _, hk => by simp at hk
  | c :: css, 0, h, hv, _ => by
    have hc := h c (List.mem_cons_self ..)
    simp [hv, ← hc]
  | c :: css, k + 1, h, hv, hk => by
    have hc := h c (List.mem_cons_self ..)
    have ih := flat_set (s := s) (vs := vs) (css := css) (k := k) (fun c hc => h c (List.mem_cons_of_mem _ hc)) hv (by simpa using hk)
    have e1 : (k + 1) * s = c.length + k * s := by rw [Nat.succ_mul, hc]; omega
    have e2 : (k + 1) * s + vs.length = c.length + (k * s + vs.length) := by omega
    rw [e2, e1, List.set_cons_succ, List.flatten_cons, List.flatten_cons, List.take_length_add_append, List.drop_length_add_append, ← ih]
    simp [List.append_assoc]
theorem flat_set1 {s : Nat} {u : Value} : ∀ {css : List (List Value)} {k c : Nat} {cs : List Value}, (∀ c ∈ css, c.length = s) → css[k]? = some cs → c < s → css.flatten.set (k * s + c) u = (css.set k (cs.set c u)).flatten
  | [], _, _, _, _, hk, _ => by simp at hk
  | x :: css, 0, c, cs, h, hk, hc => by
    have hx := h x (List.mem_cons_self ..)
    have : x = cs := by simpa using hk
    subst this
    rw [Nat.zero_mul, Nat.zero_add, List.flatten_cons, List.set_append, if_pos (by omega), List.set_cons_zero, List.flatten_cons]
  | x :: css, k + 1, c, cs, h, hk, hc => by
    have hx := h x (List.mem_cons_self ..)
    have ih := flat_set1 (s := s) (u := u) (css := css) (k := k) (c := c) (cs := cs) (fun c hc => h c (List.mem_cons_of_mem _ hc)) (by simpa using hk) hc
    have e1 : (k + 1) * s + c = x.length + (k * s + c) := by rw [Nat.succ_mul, hx]; omega
    rw [e1, List.flatten_cons, List.set_append, if_neg (by omega), Nat.add_sub_cancel_left, ih, List.set_cons_succ, List.flatten_cons]
theorem elsN.lens {α : Type} {E : StandN α} {s : Nat} {H : Array Obj} (hE : GoodN s E) : ∀ {css : List (List Value)} {xs : List α} {F : List Nat}, elsN E H css xs F → ∀ c ∈ css, c.length = s
  | [], [], _, _, c, hc => by cases hc
  | _ :: _, _ :: _, _, ⟨F1, F2, rfl, h1, h2⟩, c, hc => (List.mem_cons.1 hc).elim (fun h => by rw [h]; exact hE.len h1) (elsN.lens hE h2 c)
  | [], _ :: _, _, h, _, _ => h.elim
  | _ :: _, [], _, h, _, _ => h.elim
theorem take_setp {L vs : List Value} {a M : Nat} (h : a + vs.length ≤ M) (hM : M ≤ L.length) : (L.take a ++ vs ++ L.drop (a + vs.length)).take M = (L.take M).take a ++ vs ++ (L.take M).drop (a + vs.length) := by
  have h1 : (L.take a ++ vs).length = a + vs.length := by rw [List.length_append, List.length_take]; omega
  rw [List.take_append, h1, List.take_of_length_le (by omega), List.take_take, Nat.min_eq_left (by omega), List.drop_take]
section ops
variable {P : Program} {ops : Array Oper} {w0 : World} {Q : Act → World → Prop} {os : List Oper} {ks : List Nat} {N : Nat} {ρ : Nat → Value} {w : World}
  {d : Nat} {ty : TypeId} {pos : String} {aft : Array Edge} {g : Option (Nat × Bool)} {t e : TypeId} {α : Type} {E : StandN α} {s : Nat}
theorem made_flat {zs : List Value} {s : Nat} (hz : zs.length = s) (n : Nat) : (madeCells zs.toArray (n * s)).toList = (List.replicate n zs).flatten := by
  apply List.ext_getElem?
  intro i
  by_cases hi : i < n * s
  · have hs : 0 < s := by
      rcases Nat.eq_zero_or_pos s with h | h
      · rw [h, Nat.mul_zero] at hi; omega
      · exact h
    have hm : i % s < zs.length := by rw [hz]; exact Nat.mod_lt _ hs
    have e1 : (madeCells zs.toArray (n * s)).toList[i]? = some (zs[i % s]) := by
      simp only [madeCells, Array.toList_map, List.getElem?_map]
      rw [show (Array.range (n * s)).toList[i]? = some i from by simp [hi]]
      simp only [Option.map_some, List.size_toArray, hz]
      rw [getElem!_pos zs.toArray (i % s) (by simpa using hm)]
      simp
    have e2 : ∀ (n i : Nat), i < n * s → (List.replicate n zs).flatten[i]? = zs[i % s]? := by
      intro n
      induction n with
      | zero => intro i hi; omega
      | succ n ih =>
        intro i hi
        rw [List.replicate_succ, List.flatten_cons]
        by_cases h : i < s
        · rw [List.getElem?_append_left (by omega), Nat.mod_eq_of_lt h]
        · rw [List.getElem?_append_right (by omega), hz, ih (i - s) (by rw [Nat.succ_mul] at hi; omega), ← Nat.mod_eq_sub_mod (by omega)]
    rw [e1, e2 n i hi, List.getElem?_eq_getElem hm]
  · rw [List.getElem?_eq_none (by simp [madeCells]; omega), List.getElem?_eq_none (by simp [List.length_flatten, hz]; omega)]
/-- make of structs. -/
theorem r_makeS {x y : Operand} {n b : Nat} {c : Int} {z : Value} {zs : List Value} {z0 : α} (hE : GoodN s E) (ht : P.underlying t = some (.slice e)) (hi : TI P e s z b) (hzc : z.cells = zs.toArray) (hzl : zs.length = s) (hx : evF N ρ x = .int .i64 c) (hy : evF N ρ y = .int .i64 c) (hc : c = (n : Int)) (hb : b ≤ 1000) (hn : n ≤ 1000000000)
    (h0 : 0 < n → ∀ H, E H zs z0 []) (hu : Up ops N ρ ⟨some d, .makeSlice t x y, ty, pos, aft, g⟩)
    (h : ∀ v w1, Ext w w1 → w1.heap.size = w.heap.size + 1 → Fr (owS s E e) w.heap.size w1.heap.size w1.heap v (List.replicate n z0) → LW P ops w0 Q os ks (mk N (upd ρ d v)) w1) :
    LW P ops w0 Q (⟨some d, .makeSlice t x y, ty, pos, aft, g⟩ :: os) (3 :: ks) (mk N ρ) w := by
  subst hc
  obtain ⟨i, h1, h2, h3, h4⟩ := hi.get
  have hbn : b * n ≤ 1000 * 1000000000 := Nat.mul_le_mul hb hn
  have hr := run_make (P := P) w t e i _ ht h1 h2 .i64 .i64 n n (by omega) (by omega) (by rw [h4]; have : ((b * n : Nat) : Int) ≤ 281474976710656 := (by omega); rw [Int.natCast_mul] at this; exact this) (by omega)
  have hrun : (execOp (evF N ρ) ⟨some d, .makeSlice t x y, ty, pos, aft, g⟩).run P w = .ok (.value (.slice (some ⟨w.heap.size, 0, none⟩) n n)) (w.alloc (.cells (madeCells z.cells ((n : Int).toNat * i.size)) e)) := by
    simp only [execOp, Sem.run_bind, hx, hy, hr, Result.andThen_ok, Sem.run_pure, Int.toNat_natCast]
  refine lw_r rfl hu _ _ hrun (ext_alloc _ _) (h _ _ (ext_alloc _ _) (by simp) ?_)
  refine ⟨[w.heap.size], .inr ⟨List.replicate n zs, w.heap.size, n, _, [], ?_, by simp, heap_alloc_new _ _, by simp, by unfold maxLen; omega, ?_, ?_, rfl⟩, by simp, fun c hc => ?_⟩
  · have : ∀ m, m ≤ n → elsN E (w.alloc (.cells (madeCells z.cells ((n : Int).toNat * i.size)) e)).heap (List.replicate m zs) (List.replicate m z0) [] := by
      intro m
      induction m with
      | zero => intro _; rfl
      | succ m ih => intro hm; exact ⟨[], [], rfl, h0 (by omega) _, ih (by omega)⟩
    exact this n (Nat.le_refl _)
  · rw [h3, hzc, Int.toNat_natCast]; simp [madeCells]
  · rw [h3, hzc, Int.toNat_natCast, made_flat hzl n, List.length_replicate]
    exact List.take_of_length_le (by rw [← made_flat hzl n]; simp [madeCells])
  · rw [List.mem_singleton] at hc
    subst hc
    simp
/-- A new struct is stored asq an element. -/
theorem e_setS {st : TypeId} {x y : Operand} {v : Value} {cs : List Value} {n : α} {xs : List α} {B U B' U' j : Nat} (hE : GoodN s E) (hst : aggTy P st s = true) (hx : evF N ρ x = eptr v j s) (hy : evF N ρ y = .agg cs.toArray)
    (hv : Fr (owS s E e) B U w.heap v xs) (hn : ∃ G, E w.heap cs n G ∧ G.Nodup ∧ ∀ b ∈ G, B' ≤ b ∧ b < U') (hU : U ≤ B') (hBB : B ≤ B') (hj : j < xs.length) (hu : Up ops N ρ ⟨none, .store st x y, ty, pos, aft, g⟩)
    (h : ∀ w1 F, Chg F w w1 → w1.heap.size = w.heap.size → (∀ c ∈ F, B ≤ c ∧ c < U) → Fr (owS s E e) B w1.heap.size w1.heap v (xs.set j n) → LW P ops w0 Q os ks (mk N ρ) w1) :
    LW P ops w0 Q (⟨none, .store st x y, ty, pos, aft, g⟩ :: os) (4 :: ks) (mk N ρ) w := by
  obtain ⟨F, h1, h2, h3⟩ := hv
  obtain ⟨G, n1, n2, n3⟩ := hn
  rcases h1 with ⟨rfl, rfl, rfl⟩ | ⟨css, b, cap, cur, F0, hels, rfl, hgc, r1, r2, r3, r4, rfl⟩
  · simp at hj
  · have hn' := List.nodup_cons.1 h2
    obtain ⟨F', q1, q2, q3⟩ := hels.set hj hn'.2 n1 n2 fun c hc hm => by have := n3 c hc; have := h3 c (List.mem_cons_of_mem _ hm); omega
    have hbF' : b ∉ F' := fun hm => (q3 b hm).elim hn'.1 fun h => by have := n3 b h; have := h3 b (List.mem_cons_self ..); omega
    have hlen := hels.lens hE
    have hcl : cs.length = s := hE.len n1
    have hfl := hels.flen hE
    have hjs : j * s + s ≤ xs.length * s := by rw [← Nat.succ_mul]; exact Nat.mul_le_mul_right s hj
    have hcs : xs.length * s ≤ cur.size := by rw [r3]; exact Nat.mul_le_mul_right s r1
    have hst1 := run_storeCells_at (P := P) b (j * s) e cs 0 cur w hgc (by omega) (fun u hu => (hE.one n1 u hu).2)
    rw [Nat.add_zero] at hst1
    have htk : (cur.toList.take (j * s) ++ cs ++ cur.toList.drop (j * s + cs.length)).take (xs.length * s) = (css.set j cs).flatten := by
      rw [take_setp (by omega) (by rw [Array.length_toList]; omega), r4, flat_set hlen hcl (by rw [hels.length]; exact hj)]
    unfold aggTy at hst
    simp only [Bool.and_eq_true] at hst
    obtain ⟨_, p2⟩ := hst
    split at p2
    · rename_i inf hin
      have hs : inf.size = s := by simpa using p2
      have hr : (Instr.storeAt st (.pointer (some ⟨b, j * s, none⟩)) (.agg cs.toArray)).run P w = .ok () (w.setRow b (cur.toList.take (j * s) ++ cs ++ cur.toList.drop (j * s + cs.length)).toArray) := by
        simp [Instr.storeAt, Instr.sureAddr, storeVar, sizeOf, typeInfo, hin, Value.cells, hcl, hs, hst1]
      have hgn := setRow_heap w b cur (cur.toList.take (j * s) ++ cs ++ cur.toList.drop (j * s + cs.length)).toArray e (0, 0) hgc
      refine lw_s rfl hu _ (exec_store (by rw [hx, eptr_s, Nat.zero_add]) hy hr) (h _ [b] ⟨rfl, rfl, rfl, by simp, fun k _ hk => setRow_other w b k _ (by simpa using hk)⟩ (by simp) (fun c hc => by rw [List.mem_singleton.1 hc]; exact h3 b (List.mem_cons_self ..)) ⟨b :: F', .inr ⟨css.set j cs, b, cap, _, F', q1.stable hE fun c hc => setRow_other w b c _ (fun he => hbF' (he ▸ hc)), by simp, hgn, by rw [List.length_set]; exact r1, r2, by rw [← r3, List.size_toArray]; simp only [List.length_append, List.length_take, List.length_drop, Array.length_toList]; omega, by rw [List.length_set]; exact htk, rfl⟩, List.nodup_cons.2 ⟨hbF', q2⟩, fun c hc => ?_⟩)
      rcases List.mem_cons.1 hc with rfl | hc
      · exact ⟨(h3 c (List.mem_cons_self ..)).1, by rw [show (w.setRow c (cur.toList.take (j * s) ++ cs ++ cur.toList.drop (j * s + cs.length)).toArray).heap.size = w.heap.size from by simp]; exact getElem?_lt hgc⟩
      · have hlt := q1.lt hE c hc
        rcases q3 c hc with hh | hh
        · exact ⟨(h3 c (List.mem_cons_of_mem _ hh)).1, by simpa using hlt⟩
        · exact ⟨by have := n3 c hh; omega, by simpa using hlt⟩
    · cases p2
end ops
end Go.Proofs.Ytjnbnlniafmblaa
namespace Go.Proofs.Ytjnbnlniafmblaa
open Go Go.RowKit
set_option linter.unusedVariables false
set_option linter.unusedSimpArgs false
theorem rdS.imp {α : Type} {E E' : StandN α} {s : Nat} {H : Array Obj} {v : Value} {xs : List α} {F : List Nat} (hi : ∀ {H cs x F}, E H cs x F → E' H cs x F) (h : rdS s E H v xs F) : rdS s E' H v xs F := by
  rcases h with h | ⟨css, g, off, cap, cur, e, fr, F', h1, h2⟩
  · exact .inl h
  · exact .inr ⟨css, g, off, cap, cur, e, fr, F', h1.imp hi, h2⟩
/-- An expression that is owned, of a depth of at most d. -/
def oEx (e : TypeId) : Nat → StandN Ex
  | 0 => fun _ _ _ _ => False
  | d + 1 => fun H cs x F => ∃ v, cs = exC x v ∧ exR x ∧ owS 5 (oEx e d) e H v x.kids F
theorem good_oEx (e : TypeId) : ∀ d, GoodN 5 (oEx e d)
  | 0 => ⟨fun h => h.elim, fun h => h.elim, fun h => h.elim, fun h => h.elim⟩
  | d + 1 => by
    have ih := good_oEx e d
    refine ⟨?_, ?_, ?_, ?_⟩
    · rintro H cs e F ⟨v, rfl, _, _⟩; rfl
    · rintro H cs e F ⟨v, rfl, _, h⟩ u hu
      unfold exC at hu
      simp only [List.mem_cons, List.not_mem_nil, or_false] at hu
      rcases hu with rfl | rfl | rfl | rfl | rfl
      · exact ⟨rfl, rfl⟩
      · exact ⟨rfl, rfl⟩
      · exact ⟨rfl, rfl⟩
      · exact ⟨rfl, rfl⟩
      · exact ⟨(good_owS ih).cells h, (good_owS ih).one h⟩
    · rintro H cs e F ⟨v, rfl, _, h⟩ b hb
      exact (good_owS ih).lt h b hb
    · rintro H H' cs e F ⟨v, rfl, hr, h⟩ hb
      exact ⟨v, rfl, hr, (good_owS ih).stable h hb⟩
theorem oEx_rd (e : TypeId) : ∀ {d : Nat} {H : Array Obj} {cs : List Value} {x : Ex} {F : List Nat}, oEx e d H cs x F → rEx d H cs x F
  | 0, _, _, _, _, h => h.elim
  | d + 1, _, _, _, _, ⟨v, h1, h2, h3⟩ => ⟨v, h1, h2, (h3.rd (good_oEx e d)).imp fun h => oEx_rd e h⟩
def oFn (e : TypeId) (d : Nat) : StandN Fn := fun H cs f F => ∃ v, cs = fnC f v ∧ i64 f.params ∧ owS 5 (oEx e d) e H v f.outs F
theorem good_oFn (e : TypeId) (d : Nat) : GoodN 3 (oFn e d) := by
  have ih := good_owS (e := e) (good_oEx e d)
  refine ⟨?_, ?_, ?_, ?_⟩
  · rintro H cs e F ⟨v, rfl, _, _⟩; rfl
  · rintro H cs e F ⟨v, rfl, _, h⟩ u hu
    unfold fnC at hu
    simp only [List.mem_cons, List.not_mem_nil, or_false] at hu
    rcases hu with rfl | rfl | rfl
    · exact ⟨rfl, rfl⟩
    · exact ⟨rfl, rfl⟩
    · exact ⟨ih.cells h, ih.one h⟩
  · rintro H cs e F ⟨v, rfl, _, h⟩ b hb
    exact ih.lt h b hb
  · rintro H H' cs e F ⟨v, rfl, hr, h⟩ hb
    exact ⟨v, rfl, hr, ih.stable h hb⟩
theorem oFn_rd (e : TypeId) {d : Nat} {H : Array Obj} {cs : List Value} {x : Fn} {F : List Nat} (h : oFn e d H cs x F) : rFn d H cs x F := by
  obtain ⟨v, h1, h2, h3⟩ := h
  exact ⟨v, h1, h2, (h3.rd (good_oEx e d)).imp fun h => oEx_rd e h⟩
section el
variable {α : Type} {E : StandN α} {s : Nat} {e : TypeId} {H : Array Obj} {v : Value} {xs : List α} {F : List Nat}
theorem owS.at_ (hE : GoodN s E) (d : α) {k : Nat} (h : owS s E e H v xs F) (hn : F.Nodup) (hk : k < xs.length) :
    ∃ cs G, LD H (eptr v k s) cs ∧ E H cs (xs.getD k d) G ∧ G.Nodup ∧ (∀ b ∈ G, b ∈ F) ∧
      ∀ H' : Array Obj, (∀ b, b ∈ F → b ∉ G → H'[b]? = H[b]?) → E H' cs (xs.getD k d) G → owS s E e H' v xs F := by
  rcases h with ⟨rfl, rfl, rfl⟩ | ⟨css, g, cap, cur, F', h, rfl, hg, r1, r2, r3, r4, rfl⟩
  · simp at hk
  · have hn' := List.nodup_cons.1 hn
    obtain ⟨cs, G, q1, q2, q3, q4, q5⟩ := h.upd d hk hn'.2
    have hgG : g ∉ G := fun hm => hn'.1 (q4 g hm)
    refine ⟨cs, G, ⟨g, 0 + k * s, eptr_s .., fun i hi => ?_⟩, q2, q3, fun b hb => List.mem_cons_of_mem _ (q4 b hb), fun H' hH hy => .inr ⟨css, g, cap, cur, F', ?_, rfl, by rw [hH g (List.mem_cons_self ..) hgG]; exact hg, r1, r2, r3, r4, rfl⟩⟩
    · obtain ⟨cs', G', t1, t2, t3⟩ := h.get hE d hk
      have hl := hE.len q2
      have hcc : cs' = cs := by
        have hlen := h.lens hE
        have hkl : k < css.length := by rw [h.length]; exact hk
        have e0 : css[k] = cs := by rw [List.getElem?_eq_getElem hkl] at q1; exact Option.some.inj q1
        have e1 : ∀ i, i < s → css.flatten[k * s + i]? = some (cs.getD i undef) := by
          intro i hi
          have h1 := flat_set (vs := cs) hlen hl hkl
          have h2 : (css.set k cs) = css := by rw [← e0]; simp
          rw [h2] at h1
          have hfl := h.flen hE
          have hks : k * s + s ≤ xs.length * s := by rw [← Nat.succ_mul]; exact Nat.mul_le_mul_right s hk
          rw [← h1, List.append_assoc, List.getElem?_append_right (by rw [List.length_take]; omega), List.length_take, List.getElem?_append_left (by omega)]
          rw [show k * s + i - min (k * s) css.flatten.length = i from by omega]
          simp [hl, hi]
        apply List.ext_getElem (by rw [hE.len t1, hl])
        intro i p1 p2
        have h3 := t3 i (by omega)
        rw [e1 i (by omega)] at h3
        have h4 := Option.some.inj h3
        simpa [p1, p2] using h4.symm
      subst hcc
      simp only [cellH, hg]
      have h3 := t3 i (by omega)
      have hks : k * s + s ≤ xs.length * s := by rw [← Nat.succ_mul]; exact Nat.mul_le_mul_right s hk
      have hl := hE.len q2
      rw [← r4, List.getElem?_take, if_pos (by omega)] at h3
      rw [Nat.zero_add]
      simpa using h3
    · have h2 : (css.set k cs) = css := by
        have hkl : k < css.length := by rw [h.length]; exact hk
        have e0 : css[k] = cs := by rw [List.getElem?_eq_getElem hkl] at q1; exact Option.some.inj q1
        rw [← e0]; simp
      have h3 := q5 (H' := H') (cs' := cs) (fun {c x C} hc hb => hE.stable hc fun b hm => hH b (List.mem_cons_of_mem _ (hb b hm).1) (hb b hm).2) hy
      rwa [h2] at h3
end el
theorem owS.isPtr {α : Type} {E : StandN α} {s k : Nat} {e : TypeId} {H : Array Obj} {v : Value} {xs : List α} {F : List Nat} (h : owS s E e H v xs F) (hk : k < xs.length) : ∃ b o, eptr v k s = .pointer (some ⟨b, o, none⟩) := by
  rcases h with ⟨rfl, rfl, rfl⟩ | ⟨css, g, cap, cur, F', h, rfl, hg, r1, r2, r3, r4, rfl⟩
  · simp at hk
  · exact ⟨_, _, eptr_s ..⟩
end Go.Proofs.Ytjnbnlniafmblaa
namespace Go.Proofs.Ytjnbnlniafmblaa
open Go Go.RowKit
set_option linter.unusedVariables false
set_option linter.unusedSimpArgs false
/-- What is left when so many are taken away. -/
def szV (t : Nat) (x : Int) : Int := if ((t : Nat) : Int) ≤ x then x - ((t : Nat) : Int) else -1
theorem szV_rng (t : Nat) {x : Int} (h : 0 ≤ x) : -1 ≤ szV t x ∧ szV t x ≤ x := by unfold szV; split <;> omega
theorem szV_pos {t : Nat} {x : Int} (h : 0 ≤ szV t x) : szV t x = x - ((t : Nat) : Int) ∧ ((t : Nat) : Int) ≤ x := by
  unfold szV at h ⊢
  split at h
  · rename_i h1; rw [if_pos h1]; exact ⟨rfl, h1⟩
  · omega
theorem szV_neg {t : Nat} {x : Int} (h0 : 0 ≤ x) (h : szV t x < 0) : x < ((t : Nat) : Int) := by
  unfold szV at h
  split at h <;> omega
theorem szV_0 {t : Nat} {x y : Int} (h : ((t : Nat) : Int) ≤ x) (hy : y = x - ((t : Nat) : Int)) : y = szV t x := by unfold szV; rw [if_pos h, hy]
theorem szV_1 {t : Nat} {x : Int} (h : x < ((t : Nat) : Int)) : -1 = szV t x := by unfold szV; rw [if_neg (by omega)]
theorem sizes_ge : ∀ (l : List Ex) (k : Nat), Ex.sizes (l.take k) + (l.length - k) ≤ Ex.sizes l
  | [], k => by simp [Ex.sizes]
  | e :: l, 0 => by
    have h := sizes_ge l 0
    have := size_kids e
    rw [List.take_zero] at h ⊢
    rw [Ex.sizes] at h ⊢
    rw [List.length_cons, Ex.sizes]; omega
  | e :: l, k + 1 => by
    have h := sizes_ge l k
    rw [List.take_succ_cons, Ex.sizes, Ex.sizes, List.length_cons]; omega
def Fn.sz (f : Fn) : Nat := f.name.size + Ex.sizes f.outs
def Fn.szs : List Fn → Nat
  | [] => 0
  | f :: l => f.sz + Fn.szs l
theorem szs_nil : Fn.szs [] = 0 := rfl
theorem szs_snoc (l : List Fn) (f : Fn) : Fn.szs (l ++ [f]) = Fn.szs l + f.sz := by
  induction l with
  | nil => simp [Fn.szs]
  | cons g l ih => rw [List.cons_append, Fn.szs, Fn.szs, ih]; omega
theorem szs_step {l : List Fn} {k : Nat} (hk : k < l.length) : Fn.szs (l.take (k + 1)) = Fn.szs (l.take k) + (l.getD k Fn.zero).sz := by
  rw [List.take_succ_eq_append_getElem hk, szs_snoc]
  simp [hk]
theorem szs_take : ∀ (l : List Fn) (k : Nat), Fn.szs (l.take k) ≤ Fn.szs l
  | l, 0 => by rw [List.take_zero, szs_nil]; omega
  | [], k + 1 => by simp [Fn.szs]
  | f :: l, k + 1 => by rw [List.take_succ_cons, Fn.szs, Fn.szs]; have := szs_take l k; omega
theorem szs_at {l : List Fn} {k : Nat} (hk : k < l.length) : (l.getD k Fn.zero).sz ≤ Fn.szs l := by
  have h1 := szs_step hk
  have h2 := szs_take l (k + 1)
  omega
def szP (p : List Fn) : Nat := p.length + Fn.szs p
theorem szP_ok {p : List Fn} (h : szP p ≤ 1048576) : SzP p := by
  intro k hk
  have h1 := szs_at hk
  have h2 : (p.getD k Fn.zero).sz = (p.getD k Fn.zero).name.size + Ex.sizes (p.getD k Fn.zero).outs := rfl
  have h3 : szP p = p.length + Fn.szs p := rfl
  have h4 := sizes_ge (p.getD k Fn.zero).outs 0
  exact ⟨by omega, by omega, by omega⟩
end Go.Proofs.Ytjnbnlniafmblaa
namespace Go.Proofs.Ytjnbnlniafmblaa
open Go Go.RowKit
set_option linter.unusedVariables false
set_option linter.unusedSimpArgs false
section res
variable {P : Program} {N : Nat} {ρ : Nat → Value} {w : World} {t : TypeId}
theorem run_loadVarA {s b o : Nat} (ht : aggTy P t s = true) {cs : List Value} (h : LD w.heap (.pointer (some ⟨b, o, none⟩)) cs) (hl : cs.length = s) : (loadVar t ⟨b, o, none⟩).run P w = .ok (.agg cs.toArray) w := by
  obtain ⟨b', o', he, h⟩ := h
  injection he with he
  injection he with he
  injection he with hb ho _
  subst hb; subst ho
  unfold aggTy at ht
  simp only [Bool.and_eq_true] at ht
  obtain ⟨h1, h2⟩ := ht
  split at h1
  · rename_i fs hfs
    split at h2
    · rename_i inf hin
      have hs : inf.size = s := by simpa using h2
      have hag : (isAgg t).run P w = .ok true w := by
        unfold isAgg
        simp only [Sem.run_bind, run_underlying hfs, Result.andThen_ok]
        rfl
      have hlc := run_loadCells_list (P := P) w ⟨b, o, none⟩ cs (fun j v hj => by
        rw [add_mk, cell_cellH]
        have hjl : j < cs.length := (List.getElem?_eq_some_iff.1 hj).1
        rw [h j hjl]
        simp [List.getD, hj])
      rw [hl, ← hs] at hlc
      simp [loadVar, hag, sizeOf, typeInfo, hin, hlc]
    · cases h2
  · cases h1
theorem post_retA {fn : Func} {R : Ending → World → Prop} {k s b : Nat} {ty : TypeId} {cs : List Value} (hr : fn.results = #[.cell k ty]) (ha : aggTy P ty s = true) (hv : evF N ρ (.tmp k) = .pointer (some ⟨b, 0, none⟩)) (hb : BX w.heap b cs) (hl : cs.length = s)
    (h : R (.returned (.agg cs.toArray)) w) : bodyPost P fn R .ret (mk N ρ) w := by
  refine ⟨rfl, _, ?_, h⟩
  have hld := run_loadVarA (P := P) ha (LD.of_box hb) hl
  have hg : (mk N ρ).tmps.getD k undef = .pointer (some ⟨b, 0, none⟩) := by rw [mk_getD, hv]
  have hi : (asAddr (.pointer (some ⟨b, 0, none⟩))).run P w = .ok ⟨b, 0, none⟩ w := rfl
  unfold results
  rw [hr]
  have hg' : (mk N ρ).tmps[k]?.getD undef = .pointer (some ⟨b, 0, none⟩) := by simpa using hg
  simp [Sem.run_bind, hg', hi, hld, Result.andThen]
end res
section fr
variable {α : Type} {E : StandN α} {s : Nat} {e e' : TypeId} {B U d : Nat} {H : Array Obj} {v : Value}
theorem Fr.isSlS {xs : List α} (h : Fr (owS s E e) B U H v xs) : Go.Proofs.Ytjnbnlniafmblaa.isSl v xs.length := by obtain ⟨F, h, _⟩ := h; exact h.isSl
theorem RN.of_frF {S : List Nat} {xs : List Fn} (h : Fr (owS 3 (oFn e d) e') B U H v xs) (hS : ∀ b ∈ S, b < B) : RP S d H v xs := by
  obtain ⟨F, h1, _, h3⟩ := h
  exact ⟨F, (h1.rd (good_oFn e d)).imp fun h => oFn_rd e h, fun b hb hm => by have := h3 b hb; have := hS b hm; omega⟩
theorem RN.exPos {S : List Nat} {xs : List Ex} (h : RN S (rdS 5 (rEx d)) H v xs) (h0 : 0 < xs.length) : 0 < d := by
  obtain ⟨F, h, _⟩ := h
  obtain ⟨cs, G, q, _⟩ := rdS.get (good_rEx d) Ex.zero h h0
  cases d with
  | zero => exact q.elim
  | succ d => omega
theorem oEx_zero (hd : 0 < d) (H : Array Obj) : oEx e d H (exC Ex.zero (.slice none 0 0)) Ex.zero [] := by
  cases d with
  | zero => omega
  | succ d => exact ⟨_, rfl, by constructor <;> (unfold i64; decide), .inl ⟨rfl, rfl, rfl⟩⟩
theorem oFn_zero (H : Array Obj) : oFn e d H (fnC Fn.zero (.slice none 0 0)) Fn.zero [] := ⟨_, rfl, by unfold i64; decide, .inl ⟨rfl, rfl, rfl⟩⟩
theorem oEx_mk {d' : Nat} {x : Ex} (hd : d = d' + 1) (hr : exR x) (h : Fr (owS 5 (oEx e d') e) B U H v x.kids) : ∃ G, oEx e d H (exC x v) x G ∧ G.Nodup ∧ ∀ b ∈ G, B ≤ b ∧ b < U := by
  subst hd
  obtain ⟨G, h1, h2, h3⟩ := h
  exact ⟨G, ⟨v, rfl, hr, h1⟩, h2, h3⟩
theorem oFn_mk {x : Fn} (hr : i64 x.params) (h : Fr (owS 5 (oEx e d) e) B U H v x.outs) : ∃ G, oFn e d H (fnC x v) x G ∧ G.Nodup ∧ ∀ b ∈ G, B ≤ b ∧ b < U := by
  obtain ⟨G, h1, h2, h3⟩ := h
  exact ⟨G, ⟨v, rfl, hr, h1⟩, h2, h3⟩
theorem set_zero {xs : List α} {z : α} {k : Nat} (hk : k < xs.length) (d : α) : (xs.take k ++ List.replicate (xs.length - k) z).set k (xs.getD k d) = xs.take (k + 1) ++ List.replicate (xs.length - (k + 1)) z := by
  have h1 : (xs.take k).length = k := by rw [List.length_take]; omega
  rw [List.set_append, if_neg (by omega), h1, Nat.sub_self, show xs.length - k = (xs.length - (k + 1)) + 1 from by omega, List.replicate_succ, List.set_cons_zero, show xs.take (k + 1) = xs.take k ++ [xs.getD k d] from by rw [List.take_succ_eq_append_getElem hk]; simp [hk], List.append_assoc]
  rfl
end fr
section str
variable {P : Program} {ops : Array Oper} {w0 : World} {Q : Act → World → Prop} {os : List Oper} {ks : List Nat} {N : Nat} {ρ : Nat → Value} {w : World}
  {d : Nat} {ty : TypeId} {pos : String} {aft : Array Edge} {g : Option (Nat × Bool)} {t e : TypeId}
/-- Strings one behind the other. -/
theorem q_adds {xt yt : TypeId} {x y : Operand} {a b : ByteArray} (hx : evF N ρ x = .string a) (hy : evF N ρ y = .string b) (hl : a.size + b.size ≤ 9223372036854775807) (hu : Up ops N ρ ⟨some d, .binOp .add xt x y yt, ty, pos, aft, g⟩)
    (h : LW P ops w0 Q os ks (mk N (upd ρ d (.string (a ++ b)))) w) : LW P ops w0 Q (⟨some d, .binOp .add xt x y yt, ty, pos, aft, g⟩ :: os) (0 :: ks) (mk N ρ) w :=
  lw_q (by decide) rfl hu _ (fun w' _ => by
    have he : (eqGuard .add xt x y (.string a) (.string b)).run P w' = .ok () w' := rfl
    have hr : (binOp .add xt (.string a) (.string b)).run P w' = .ok (.string (a ++ b)) w' := by
      have h2 := run_string_add_sum (P := P) w' a b hl
      simpa [binOp] using h2
    simp only [execOp, hx, hy, Sem.run_bind, he, Result.andThen_ok, hr, Sem.run_pure]) h
end str
end Go.Proofs.Ytjnbnlniafmblaa
namespace Go.Proofs.Ytjnbnlniafmblaa
open Go Go.RowKit
set_option linter.unusedVariables false
set_option linter.unusedSimpArgs false
/-- The digits of a mark, put ahead of a text. -/
def mtl : Nat → Int → ByteArray → ByteArray
  | 0, _, s => s
  | n + 1, l, s => if 0 < l then mtl n (l / 10) ((⟨#[UInt8.ofNat (IntKind.u8.wrap (((48 : Nat) : Int) + l.tmod ((10 : Nat) : Int))).toNat]⟩ : ByteArray) ++ s) else s
theorem mtl_0 : ∀ {n : Nat} {l : Int} {s : ByteArray}, ¬ 0 < l → mtl n l s = s
  | 0, _, _, _ => rfl
  | n + 1, l, s, h => if_neg h
theorem mtl_up : ∀ {n m : Nat} {l : Int} {s : ByteArray}, l.toNat ≤ n → l.toNat ≤ m → mtl n l s = mtl m l s
  | 0, m, l, s, h1, h2 => by rw [mtl_0 (by omega), mtl_0 (by omega)]
  | n + 1, 0, l, s, h1, h2 => by rw [mtl_0 (by omega), mtl_0 (by omega)]
  | n + 1, m + 1, l, s, h1, h2 => by
    unfold mtl
    by_cases h : 0 < l
    · rw [if_pos h, if_pos h]; exact mtl_up (by omega) (by omega)
    · rw [if_neg h, if_neg h]
theorem mtl_s {l : Int} {s : ByteArray} (h : 0 < l) : mtl l.toNat l s = mtl (l / 10).toNat (l / 10) ((⟨#[UInt8.ofNat (IntKind.u8.wrap (((48 : Nat) : Int) + l.tmod ((10 : Nat) : Int))).toNat]⟩ : ByteArray) ++ s) := by
  obtain ⟨n, hn⟩ : ∃ n, l.toNat = n + 1 := ⟨l.toNat - 1, by omega⟩
  rw [hn]
  show (if 0 < l then _ else _) = _
  rw [if_pos h]
  exact mtl_up (by omega) (Nat.le_refl _)
/-- The text of a mark. -/
def mtx (k : Int) : ByteArray := if k ≤ 0 then ⟨#[109, 48]⟩ else (⟨#[109]⟩ : ByteArray) ++ mtl k.toNat k (⟨#[]⟩ : ByteArray)
mutual
def mkX (k : Int) : Ex → Ex
  | .mk _ _ _ _ l => .mk k (k + 1) (k + 2) (k + 3) (mkL (k + 4) l)
def mkL (k : Int) : List Ex → List Ex
  | [] => []
  | e :: l => mkX k e :: mkL (k + 4 * ((e.size : Nat) : Int)) l
end
theorem mkX_eq (k : Int) (e : Ex) : mkX k e = .mk k (k + 1) (k + 2) (k + 3) (mkL (k + 4) e.kids) := by cases e; rw [mkX]; rfl
theorem mkL_nil (k : Int) : mkL k [] = [] := by rw [mkL]
mutual
theorem mkX_size (k : Int) : ∀ e : Ex, (mkX k e).size = e.size
  | .mk _ _ _ _ l => by rw [mkX, Ex.size, Ex.size, mkL_sizes]
theorem mkL_sizes (k : Int) : ∀ l : List Ex, Ex.sizes (mkL k l) = Ex.sizes l
  | [] => by rw [mkL]
  | e :: l => by rw [mkL, Ex.sizes, Ex.sizes, mkX_size, mkL_sizes]
end
theorem mkL_len (k : Int) : ∀ l : List Ex, (mkL k l).length = l.length
  | [] => by rw [mkL]
  | e :: l => by rw [mkL, List.length_cons, List.length_cons, mkL_len]
theorem mkL_app (k : Int) : ∀ (l : List Ex) (e : Ex), mkL k (l ++ [e]) = mkL k l ++ [mkX (k + 4 * ((Ex.sizes l : Nat) : Int)) e]
  | [], e => by
    rw [mkL_nil, List.nil_append, List.nil_append, sizes_nil, mkL, mkL_nil]
    simp
  | x :: l, e => by
    rw [List.cons_append, mkL, mkL, mkL_app, Ex.sizes, List.cons_append]
    rw [show k + 4 * ((x.size : Nat) : Int) + 4 * ((Ex.sizes l : Nat) : Int) = k + 4 * ((x.size + Ex.sizes l : Nat) : Int) from by omega]
theorem mkL_succ (k : Int) {l : List Ex} {j : Nat} (hj : j < l.length) : mkL k (l.take (j + 1)) = mkL k (l.take j) ++ [mkX (k + 4 * ((Ex.sizes (l.take j) : Nat) : Int)) (l.getD j Ex.zero)] := by
  rw [← mkL_app, List.take_succ_eq_append_getElem hj]
  simp [hj]
theorem mkL_get (k : Int) : ∀ {l : List Ex} {j : Nat}, j < l.length → (mkL k l).getD j Ex.zero = mkX (k + 4 * ((Ex.sizes (l.take j) : Nat) : Int)) (l.getD j Ex.zero)
  | [], _, h => by simp at h
  | x :: l, 0, _ => by
    rw [mkL, List.take_zero, sizes_nil]
    simp
  | x :: l, j + 1, h => by
    have ih := mkL_get (k + 4 * ((x.size : Nat) : Int)) (l := l) (j := j) (by simpa using h)
    rw [mkL, List.take_succ_cons, Ex.sizes]
    rw [show k + 4 * ((x.size + Ex.sizes (l.take j) : Nat) : Int) = k + 4 * ((x.size : Nat) : Int) + 4 * ((Ex.sizes (l.take j) : Nat) : Int) from by omega]
    simpa using ih
theorem mkL_tak (k : Int) : ∀ (l : List Ex) (j : Nat), Ex.sizes ((mkL k l).take j) = Ex.sizes (l.take j)
  | l, 0 => by rw [List.take_zero, List.take_zero]
  | [], j + 1 => by rw [mkL]
  | e :: l, j + 1 => by rw [mkL, List.take_succ_cons, List.take_succ_cons, Ex.sizes, Ex.sizes, mkX_size, mkL_tak]
/-- How many marks a program takes. -/
def mkN : List Fn → Nat
  | [] => 0
  | f :: l => 2 + 4 * Ex.sizes f.outs + mkN l
def mkF (k : Int) (f : Fn) : Fn := ⟨mtx k, k + 1, mkL (k + 2) f.outs⟩
def mkP (k : Int) : List Fn → List Fn
  | [] => []
  | f :: l => mkF k f :: mkP (k + ((2 + 4 * Ex.sizes f.outs : Nat) : Int)) l
theorem mkP_len (k : Int) : ∀ l : List Fn, (mkP k l).length = l.length
  | [] => rfl
  | f :: l => by rw [mkP, List.length_cons, List.length_cons, mkP_len]
theorem mkN_snoc : ∀ (l : List Fn) (f : Fn), mkN (l ++ [f]) = mkN l + (2 + 4 * Ex.sizes f.outs)
  | [], f => by simp [mkN]
  | x :: l, f => by rw [List.cons_append, mkN, mkN, mkN_snoc]; omega
theorem mkN_succ {l : List Fn} {j : Nat} (hj : j < l.length) : mkN (l.take (j + 1)) = mkN (l.take j) + (2 + 4 * Ex.sizes (l.getD j Fn.zero).outs) := by
  rw [← mkN_snoc, List.take_succ_eq_append_getElem hj]
  simp [hj]
theorem mkN_take : ∀ (l : List Fn) (j : Nat), mkN (l.take j) ≤ mkN l
  | l, 0 => by rw [List.take_zero]; exact Nat.zero_le _
  | [], j + 1 => by simp
  | f :: l, j + 1 => by rw [List.take_succ_cons, mkN, mkN]; have := mkN_take l j; omega
theorem mkP_app (k : Int) : ∀ (l : List Fn) (f : Fn), mkP k (l ++ [f]) = mkP k l ++ [mkF (k + ((mkN l : Nat) : Int)) f]
  | [], f => by simp [mkP, mkN]
  | x :: l, f => by
    rw [List.cons_append, mkP, mkP, mkP_app, mkN, List.cons_append]
    rw [show k + ((2 + 4 * Ex.sizes x.outs : Nat) : Int) + ((mkN l : Nat) : Int) = k + ((2 + 4 * Ex.sizes x.outs + mkN l : Nat) : Int) from by omega]
theorem mkP_succ (k : Int) {l : List Fn} {j : Nat} (hj : j < l.length) : mkP k (l.take (j + 1)) = mkP k (l.take j) ++ [mkF (k + ((mkN (l.take j) : Nat) : Int)) (l.getD j Fn.zero)] := by
  rw [← mkP_app, List.take_succ_eq_append_getElem hj]
  simp [hj]
theorem mkP_get (k : Int) : ∀ {l : List Fn} {j : Nat}, j < l.length → (mkP k l).getD j Fn.zero = mkF (k + ((mkN (l.take j) : Nat) : Int)) (l.getD j Fn.zero)
  | [], _, h => by simp at h
  | x :: l, 0, _ => by simp [mkP, mkN]
  | x :: l, j + 1, h => by
    have ih := mkP_get (k + ((2 + 4 * Ex.sizes x.outs : Nat) : Int)) (l := l) (j := j) (by simpa using h)
    rw [mkP, List.take_succ_cons, mkN]
    rw [show k + ((2 + 4 * Ex.sizes x.outs + mkN (l.take j) : Nat) : Int) = k + ((2 + 4 * Ex.sizes x.outs : Nat) : Int) + ((mkN (l.take j) : Nat) : Int) from by omega]
    simpa using ih
theorem mkN_mk (k : Int) : ∀ l : List Fn, mkN (mkP k l) = mkN l
  | [] => rfl
  | f :: l => by
    rw [mkP, mkN, mkN, mkN_mk]
    show 2 + 4 * Ex.sizes (mkL (k + 2) f.outs) + _ = _
    rw [mkL_sizes]
theorem mkN_tak (k : Int) : ∀ (l : List Fn) (j : Nat), mkN ((mkP k l).take j) = mkN (l.take j)
  | l, 0 => by rw [List.take_zero, List.take_zero]
  | [], j + 1 => rfl
  | f :: l, j + 1 => by
    rw [mkP, List.take_succ_cons, List.take_succ_cons, mkN, mkN, mkN_tak]
    show 2 + 4 * Ex.sizes (mkL (k + 2) f.outs) + _ = _
    rw [mkL_sizes]
theorem mkN_szs : ∀ l : List Fn, mkN l ≤ 2 * l.length + 4 * Fn.szs l
  | [] => by simp [mkN]
  | f :: l => by
    have := mkN_szs l
    have h : f.sz = f.name.size + Ex.sizes f.outs := rfl
    rw [mkN, Fn.szs, List.length_cons]; omega
theorem mkN_szP (l : List Fn) : mkN l ≤ 4 * szP l := by
  have := mkN_szs l
  have h : szP l = l.length + Fn.szs l := rfl
  omega
theorem drop_at9 {α : Type} {l : List α} {j : Nat} (d : α) (hj : j < l.length) : l.drop j = l.getD j d :: l.drop (j + 1) := by
  rw [List.drop_eq_getElem_cons hj]
  simp [List.getD_eq_getElem?_getD, hj]
section el
variable {α : Type} {E : StandN α} {s : Nat} {e : TypeId} {H : Array Obj} {v : Value} {F : List Nat}
theorem elsN.updO : ∀ {css : List (List Value)} {L R : List α} {F : List Nat} {y : α}, elsN E H css (L ++ y :: R) F → F.Nodup →
    ∃ cs G, css[L.length]? = some cs ∧ E H cs y G ∧ G.Nodup ∧ (∀ b ∈ G, b ∈ F) ∧
      (∀ {H' : Array Obj} {cs' : List Value} {y' : α}, (∀ {c x C}, E H c x C → (∀ b ∈ C, b ∈ F ∧ b ∉ G) → E H' c x C) → E H' cs' y' G → elsN E H' (css.set L.length cs') (L ++ y' :: R) F)
  | c :: css, [], R, _, y, ⟨F1, F2, rfl, h1, h2⟩, hn => by
    have hn' := List.nodup_append.1 hn
    refine ⟨c, F1, rfl, h1, hn'.1, fun b hb => List.mem_append_left _ hb, fun {H' cs' y'} hE hu => ⟨F1, F2, rfl, hu, ?_⟩⟩
    have key : ∀ {us : List (List Value)} {xs : List α} {F : List Nat}, elsN E H us xs F → (∀ b ∈ F, b ∈ F2) → elsN E H' us xs F := by
      intro us
      induction us with
      | nil => intro xs F h _; cases xs with
        | nil => exact h
        | cons => exact h.elim
      | cons u us ih =>
        intro xs F h hs
        cases xs with
        | nil => exact h.elim
        | cons x xs =>
          obtain ⟨A, C, rfl, q1, q2⟩ := h
          exact ⟨A, C, rfl, hE q1 fun b hb => ⟨List.mem_append_right _ (hs b (List.mem_append_left _ hb)), fun hc => hn'.2.2 b hc b (hs b (List.mem_append_left _ hb)) rfl⟩, ih q2 fun b hb => hs b (List.mem_append_right _ hb)⟩
    exact key h2 fun b hb => hb
  | c :: css, x :: L, R, _, y, ⟨F1, F2, rfl, h1, h2⟩, hn => by
    have hn' := List.nodup_append.1 hn
    obtain ⟨cs, G, hu, hx, hg, hb, hc⟩ := elsN.updO (L := L) (R := R) (y := y) h2 hn'.2.1
    refine ⟨cs, G, by simpa using hu, hx, hg, fun b hh => List.mem_append_right _ (hb b hh), fun hE hy => ⟨F1, F2, rfl, hE h1 fun b hb' => ⟨List.mem_append_left _ hb', fun hc' => hn'.2.2 b hb' b (hb b hc') rfl⟩, ?_⟩⟩
    exact hc (fun q hs => hE q fun b hb' => ⟨List.mem_append_right _ (hs b hb').1, (hs b hb').2⟩) hy
  | [], [], _, _, _, h, _ => h.elim
  | [], _ :: _, _, _, _, h, _ => h.elim
theorem owS.len_eq {xs ys : List α} {F : List Nat} (h : owS s E e H v xs F) (hl : ys.length = xs.length) (hx : xs ≠ []) : ∃ css g cap cur F', elsN E H css xs F' ∧ v = .slice (some ⟨g, 0, none⟩) ys.length cap ∧ H[g]? = some (.cells cur e (0, 0)) ∧ ys.length ≤ cap ∧ cap ≤ maxLen ∧ cur.size = cap * s ∧ cur.toList.take (ys.length * s) = css.flatten ∧ F = g :: F' := by
  rcases h with ⟨_, rfl, _⟩ | ⟨css, g, cap, cur, F', h1, h2⟩
  · exact absurd rfl hx
  · rw [hl]; exact ⟨css, g, cap, cur, F', h1, h2⟩
/-- An element of what is owned, and the whole when that element has become another one in its own blocks. -/
theorem owS.updO (hE : GoodN s E) {L R : List α} {y : α} (h : owS s E e H v (L ++ y :: R) F) (hn : F.Nodup) :
    ∃ cs G, LD H (eptr v L.length s) cs ∧ E H cs y G ∧ G.Nodup ∧ (∀ b ∈ G, b ∈ F) ∧
      ∀ (H' : Array Obj) (y' : α), (∀ b, b ∈ F → b ∉ G → H'[b]? = H[b]?) → E H' cs y' G → owS s E e H' v (L ++ y' :: R) F := by
  have hk : L.length < (L ++ y :: R).length := by simp
  have hgd : (L ++ y :: R).getD L.length y = y := by simp [List.getD_eq_getElem?_getD]
  obtain ⟨cs, G, p1, p2, p3, p4, _⟩ := h.at_ hE y hn hk
  rw [hgd] at p2
  have hlen : ∀ y' : α, (L ++ y' :: R).length = (L ++ y :: R).length := fun y' => by simp
  obtain ⟨css, g, cap, cur, F', h1, rfl, hg, r1, r2, r3, r4, rfl⟩ := h.len_eq (ys := L ++ y :: R) rfl (by simp)
  have hn' := List.nodup_cons.1 hn
  obtain ⟨cs2, G2, q1, q2, q3, q4, q5⟩ := h1.updO hn'.2
  have hgG : g ∉ G2 := fun hm => hn'.1 (q4 g hm)
  refine ⟨cs2, G2, ⟨g, 0 + L.length * s, eptr_s .., fun i hi => ?_⟩, q2, q3, fun b hb => List.mem_cons_of_mem _ (q4 b hb), fun H' y' hH hy => .inr ⟨css, g, cap, cur, F', ?_, by rw [hlen y'], by rw [hH g (List.mem_cons_self ..) hgG]; exact hg, by rw [hlen y']; exact r1, r2, r3, by rw [hlen y']; exact r4, rfl⟩⟩
  · have hl := hE.len q2
    have hlens := h1.lens hE
    have hkl : L.length < css.length := by rw [h1.length]; exact hk
    have e0 : css[L.length] = cs2 := by rw [List.getElem?_eq_getElem hkl] at q1; exact Option.some.inj q1
    have e1 : ∀ i, i < s → css.flatten[L.length * s + i]? = some (cs2.getD i undef) := by
      intro i hi
      have h1' := flat_set (vs := cs2) hlens hl hkl
      have h2' : (css.set L.length cs2) = css := by rw [← e0]; simp
      rw [h2'] at h1'
      have hfl := h1.flen hE
      have hks : L.length * s + s ≤ (L ++ y :: R).length * s := by rw [← Nat.succ_mul]; exact Nat.mul_le_mul_right s hk
      rw [← h1', List.append_assoc, List.getElem?_append_right (by rw [List.length_take]; omega), List.length_take, List.getElem?_append_left (by omega)]
      rw [show L.length * s + i - min (L.length * s) css.flatten.length = i from by omega]
      simp [hl, hi]
    simp only [cellH, hg]
    have h3 := e1 i (by omega)
    have hks : L.length * s + s ≤ (L ++ y :: R).length * s := by rw [← Nat.succ_mul]; exact Nat.mul_le_mul_right s hk
    rw [← r4, List.getElem?_take, if_pos (by omega)] at h3
    rw [Nat.zero_add]
    simpa using h3
  · have h2 : (css.set L.length cs2) = css := by
      have hkl : L.length < css.length := by rw [h1.length]; exact hk
      have e0 : css[L.length] = cs2 := by rw [List.getElem?_eq_getElem hkl] at q1; exact Option.some.inj q1
      rw [← e0]; simp
    have h3 := q5 (H' := H') (cs' := cs2) (y' := y') (fun {c x C} hc hb => hE.stable hc fun b hm => hH b (List.mem_cons_of_mem _ (hb b hm).1) (hb b hm).2) hy
    rwa [h2] at h3
end el
section ops
variable {P : Program} {ops : Array Oper} {w0 : World} {Q : Act → World → Prop} {os : List Oper} {ks : List Nat} {N : Nat} {ρ : Nat → Value} {w : World}
  {d : Nat} {ty : TypeId} {pos : String} {aft : Array Edge} {g : Option (Nat × Bool)} {t e : TypeId} {α : Type} {E : StandN α} {s : Nat}
/-- A cell of an element is written: the element is another one then. -/
theorem e_setCO {st : TypeId} {x y : Operand} {v u : Value} {L R : List α} {z z' : α} {F : List Nat} {k c : Nat} (hE : GoodN s E) (hst : (P.info? st).map (·.size) = some 1) (hx : evF N ρ x = padd (eptr v k s) c) (hy : evF N ρ y = u) (hu1 : u.cells = #[u] ∧ u.oneCell' = true)
    (hv : owS s E e w.heap v (L ++ z :: R) F) (hn : F.Nodup) (hk : k = L.length) (hc : c < s) (hEc : ∀ {H cs G}, E H cs z G → E H (cs.set c u) z' G) (hu : Up ops N ρ ⟨none, .store st x y, ty, pos, aft, g⟩)
    (h : ∀ w1, Chg F w w1 → w1.heap.size = w.heap.size → owS s E e w1.heap v (L ++ z' :: R) F → LW P ops w0 Q os ks (mk N ρ) w1) :
    LW P ops w0 Q (⟨none, .store st x y, ty, pos, aft, g⟩ :: os) (4 :: ks) (mk N ρ) w := by
  subst hk
  obtain ⟨css, b, cap, cur, F', hels, rfl, hg, r1, r2, r3, r4, rfl⟩ := hv.len_eq (ys := L ++ z' :: R) (by simp) (by simp)
  have hn' := List.nodup_cons.1 hn
  have hfl := hels.flen hE
  have hlen := hels.lens hE
  have hkl : L.length < css.length := by rw [hels.length]; simp
  have hll : (L ++ z :: R).length = (L ++ z' :: R).length := by simp
  have hcs : (L ++ z' :: R).length * s ≤ cur.size := by rw [r3]; exact Nat.mul_le_mul_right s r1
  have hjs : L.length * s + s ≤ (L ++ z' :: R).length * s := by rw [← Nat.succ_mul]; exact Nat.mul_le_mul_right s (by simp)
  have hel : ∀ {css : List (List Value)} {L : List α} {F : List Nat}, elsN E w.heap css (L ++ z :: R) F → ∀ cs, css[L.length]? = some cs → elsN E w.heap (css.set L.length (cs.set c u)) (L ++ z' :: R) F := by
    intro css
    induction css with
    | nil => intro L F h cs hk; simp at hk
    | cons a css ih =>
      intro L F h cs hk
      cases L with
      | nil =>
        obtain ⟨A, C, rfl, q1, q2⟩ := h
        have : a = cs := by simpa using hk
        subst this
        exact ⟨A, C, rfl, hEc q1, q2⟩
      | cons x L =>
        obtain ⟨A, C, rfl, q1, q2⟩ := h
        exact ⟨A, C, rfl, q1, ih q2 cs (by simpa using hk)⟩
  have hq := List.getElem?_eq_getElem hkl
  have h2 := hel hels _ hq
  refine lw_s rfl hu _ (exec_store (p := .pointer (some ⟨b, L.length * s + c, none⟩)) (by rw [hx, eptr_s, Nat.zero_add]; rfl) hy (run_store1 hst hg (by omega) hu1.1 hu1.2)) (h _ ((chg_set w b (L.length * s + c) u).sub fun x hx => by rw [List.mem_singleton.1 hx]; exact List.mem_cons_self ..) (by simp [World.setCell]) (.inr ⟨css.set L.length (css[L.length].set c u), b, cap, _, F', ?_, rfl, heap_set hg, r1, r2, by simpa using r3, ?_, rfl⟩))
  · exact h2.stable hE fun z hz => Below.heap_setCell _ _ _ _ fun he => by
      simp only at he
      subst he
      exact hn'.1 hz
  · rw [Array.toList_setIfInBounds, List.take_set, r4]; exact flat_set1 hlen hq hc
end ops
theorem owS.kidEO {e : TypeId} {d k : Nat} {w : World} {v : Value} {L R : List Ex} {y : Ex} {F : List Nat} (h : owS 5 (oEx e d) e w.heap v (L ++ y :: R) F) (hn : F.Nodup) (hk : k = L.length) :
    ∃ d' u G, d = d' + 1 ∧ ldH w.heap (padd (eptr v k 5) 4) = some u ∧ owS 5 (oEx e d') e w.heap u y.kids G ∧ G.Nodup ∧ (∀ b ∈ G, b ∈ F) ∧
      ∀ w' ys, Chg G w w' → owS 5 (oEx e d') e w'.heap u ys G → owS 5 (oEx e d) e w'.heap v (L ++ (.mk y.kind y.num y.pick y.count ys) :: R) F := by
  subst hk
  have hlt := (good_owS (good_oEx e d)).lt h
  obtain ⟨cs, G, h1, h2, h3, h4, h5⟩ := h.updO (good_oEx e d) hn
  cases d with
  | zero => exact h2.elim
  | succ d =>
    obtain ⟨u, rfl, hr, h2⟩ := h2
    exact ⟨d, u, G, rfl, h1.ld (i := 4) (by simp [exC]), h2, h3, h4, fun w' ys hc hu => h5 _ (.mk y.kind y.num y.pick y.count ys) (fun b hb hg => hc.block b (hlt b hb) hg) ⟨u, rfl, ⟨hr.1, hr.2, hr.3, hr.4⟩, hu⟩⟩
theorem owS.kidFO {e e' : TypeId} {d k : Nat} {w : World} {v : Value} {L R : List Fn} {y : Fn} {F : List Nat} (h : owS 3 (oFn e d) e' w.heap v (L ++ y :: R) F) (hn : F.Nodup) (hk : k = L.length) :
    ∃ u G, ldH w.heap (padd (eptr v k 3) 2) = some u ∧ owS 5 (oEx e d) e w.heap u y.outs G ∧ G.Nodup ∧ (∀ b ∈ G, b ∈ F) ∧
      ∀ w' ys, Chg G w w' → owS 5 (oEx e d) e w'.heap u ys G → owS 3 (oFn e d) e' w'.heap v (L ++ ⟨y.name, y.params, ys⟩ :: R) F := by
  subst hk
  have hlt := (good_owS (good_oFn e d)).lt h
  obtain ⟨cs, G, h1, h2, h3, h4, h5⟩ := h.updO (good_oFn e d) hn
  obtain ⟨u, rfl, hr, h2⟩ := h2
  exact ⟨u, G, h1.ld (i := 2) (by simp [fnC]), h2, h3, h4, fun w' ys hc hu => h5 _ ⟨y.name, y.params, ys⟩ (fun b hb hg => hc.block b (hlt b hb) hg) ⟨u, rfl, hr, hu⟩⟩
section set
variable {e : TypeId} {d : Nat} {H : Array Obj} {cs : List Value} {a b c q n : Int} {ks : List Ex} {G : List Nat}
theorem oEx_set0 (hn : i64 n) (h : oEx e d H cs (.mk a b c q ks) G) : oEx e d H (cs.set 0 (.int .i64 n)) (.mk n b c q ks) G := by
  cases d with
  | zero => exact h.elim
  | succ d => obtain ⟨u, rfl, hr, h2⟩ := h; exact ⟨u, rfl, ⟨hn, hr.2, hr.3, hr.4⟩, h2⟩
theorem oEx_set1 (hn : i64 n) (h : oEx e d H cs (.mk a b c q ks) G) : oEx e d H (cs.set 1 (.int .i64 n)) (.mk a n c q ks) G := by
  cases d with
  | zero => exact h.elim
  | succ d => obtain ⟨u, rfl, hr, h2⟩ := h; exact ⟨u, rfl, ⟨hr.1, hn, hr.3, hr.4⟩, h2⟩
theorem oEx_set2 (hn : i64 n) (h : oEx e d H cs (.mk a b c q ks) G) : oEx e d H (cs.set 2 (.int .i64 n)) (.mk a b n q ks) G := by
  cases d with
  | zero => exact h.elim
  | succ d => obtain ⟨u, rfl, hr, h2⟩ := h; exact ⟨u, rfl, ⟨hr.1, hr.2, hn, hr.4⟩, h2⟩
theorem oEx_set3 (hn : i64 n) (h : oEx e d H cs (.mk a b c q ks) G) : oEx e d H (cs.set 3 (.int .i64 n)) (.mk a b c n ks) G := by
  cases d with
  | zero => exact h.elim
  | succ d => obtain ⟨u, rfl, hr, h2⟩ := h; exact ⟨u, rfl, ⟨hr.1, hr.2, hr.3, hn⟩, h2⟩
theorem oFn_set0 {f : Fn} {s : ByteArray} (h : oFn e d H cs f G) : oFn e d H (cs.set 0 (.string s)) ⟨s, f.params, f.outs⟩ G := by
  obtain ⟨u, rfl, hr, h2⟩ := h; exact ⟨u, rfl, hr, h2⟩
theorem oFn_set1 {f : Fn} (hn : i64 n) (h : oFn e d H cs f G) : oFn e d H (cs.set 1 (.int .i64 n)) ⟨f.name, n, f.outs⟩ G := by
  obtain ⟨u, rfl, hr, h2⟩ := h; exact ⟨u, rfl, hn, h2⟩
end set
theorem ex_eta (x : Ex) : x = .mk x.kind x.num x.pick x.count x.kids := by cases x; rfl
end Go.Proofs.Ytjnbnlniafmblaa
namespace Go.Proofs.Ytjnbnlniafmblaa
open Go Go.RowKit Go.ChangeShapes Go.WideShapes Go.Deep
set_option linter.unusedVariables false
set_option linter.unusedSimpArgs false
theorem flat_get {s : Nat} : ∀ {css : List (List Value)} (k : Nat) {j : Nat}, (∀ c ∈ css, c.length = s) → j < s → css.flatten[k * s + j]? = (css[k]?).bind fun c => c[j]?
  | [], k, j, _, _ => by simp
  | c :: css, 0, j, h, hj => by
    have hc := h c (List.mem_cons_self ..)
    rw [Nat.zero_mul, Nat.zero_add, List.flatten_cons, List.getElem?_append_left (by omega)]
    simp
  | c :: css, k + 1, j, h, hj => by
    have hc := h c (List.mem_cons_self ..)
    rw [List.flatten_cons, List.getElem?_append_right (by rw [Nat.succ_mul]; omega), show (k + 1) * s + j - c.length = k * s + j from by rw [Nat.succ_mul]; omega,
      flat_get k (fun c hc => h c (List.mem_cons_of_mem _ hc)) hj]
    simp
theorem elsN_of {α : Type} {E : StandN α} {H : Array Obj} (U : Nat → List Value) (X : Nat → α) : ∀ (n : Nat), (∀ i, i < n → ∃ F, E H (U i) (X i) F) → ∃ F, elsN E H ((List.range n).map U) ((List.range n).map X) F
  | 0, _ => ⟨[], rfl⟩
  | n + 1, h => by
    obtain ⟨F, hF⟩ := elsN_of U X n fun i hi => h i (by omega)
    obtain ⟨G, hG⟩ := h n (by omega)
    rw [List.range_succ, List.map_append, List.map_append]
    exact ⟨F ++ (G ++ []), hF.append ⟨G, [], rfl, hG, rfl⟩⟩
theorem rdS_row {α : Type} {E : StandN α} {s : Nat} (hE : GoodN s E) (hs : 0 < s) {W : World} {a : Addr} {n cap : Nat} (hn : n ≤ maxLen) (hnc : n ≤ cap) (U : Nat → List Value) (X : Nat → α)
    (hc : ∀ i, i < n → ∀ j, j < s → W.cell? (a.add (i * s + j)) = (U i)[j]?) (hX : ∀ i, i < n → ∃ F, E W.heap (U i) (X i) F) : ∃ F, rdS s E W.heap (.slice (some a) n cap) ((List.range n).map X) F := by
  by_cases h0 : n = 0
  · subst h0
    exact ⟨[], .inl ⟨some a, cap, rfl, rfl, rfl⟩⟩
  · obtain ⟨F, hF⟩ := elsN_of U X n hX
    have hlU : ∀ i, i < n → (U i).length = s := fun i hi => by obtain ⟨G, hG⟩ := hX i hi; exact hE.len hG
    obtain ⟨g, off, spot⟩ := a
    have h1 := hc 0 (by omega) 0 hs
    rw [List.getElem?_eq_getElem (by rw [hlU 0 (by omega)]; exact hs)] at h1
    have hsp : spot = none := by simpa [Addr.add] using World.cell?_spot h1
    subst hsp
    have hcell : ∀ i, i < n → ∀ j, j < s → cellH W.heap g (off + (i * s + j)) = (U i)[j]? := fun i hi j hj => by
      have := hc i hi j hj
      rw [add_plain, cell_cellH] at this
      exact this
    have h2 := hcell 0 (by omega) 0 hs
    rw [List.getElem?_eq_getElem (by rw [hlU 0 (by omega)]; exact hs)] at h2
    unfold cellH at h2
    cases hg : W.heap[g]? with
    | none => rw [hg] at h2; cases h2
    | some o =>
      cases o with
      | cells cur e fr =>
        refine ⟨g :: F, .inr ⟨(List.range n).map U, g, off, cap, cur, e, fr, F, hF, by simp, hg, ?_, ⟨by simpa using hn, by simpa using hnc⟩, rfl⟩⟩
        have hlen : ∀ c ∈ (List.range n).map U, c.length = s := fun c hc => by
          obtain ⟨i, hi, rfl⟩ := List.mem_map.1 hc
          exact hlU i (List.mem_range.1 hi)
        have hfl := hF.flen hE
        apply List.ext_getElem?
        intro q
        rw [List.getElem?_take, List.getElem?_drop]
        simp only [List.length_map, List.length_range] at hfl ⊢
        by_cases hq : q < n * s
        · have e1 : q = q / s * s + q % s := by rw [Nat.mul_comm, Nat.div_add_mod]
          have hj : q % s < s := Nat.mod_lt _ hs
          have hi : q / s < n := (Nat.div_lt_iff_lt_mul hs).2 hq
          have h3 := hcell (q / s) hi (q % s) hj
          unfold cellH at h3
          rw [hg, ← e1] at h3
          have h4 := flat_get (css := (List.range n).map U) (q / s) hlen hj
          rw [← e1] at h4
          rw [if_pos hq, h4]
          simp only [Array.getElem?_toList] at *
          rw [h3]
          simp [hi]
        · rw [if_neg hq, List.getElem?_eq_none (by omega)]
      | _ => rw [hg] at h2; cases h2
/-- What the table of types says of a struct: places and types. -/
def stTy (P : Program) (t : TypeId) (l : List (Nat × TypeId)) : Bool :=
  match P.underlying t with
  | some (.struct fs) => decide (fs.toList.map (fun f => (f.offset, f.type)) = l)
  | _ => false
section
variable {H : Type} {enc : TypeId × Value → H} {P : Program} {W : World} {base : Nat} {held : Bool} {sp : Nat → Bool}
theorem st_field {t : TypeId} {l : List (Nat × TypeId)} {fuel : Nat} {cs : List Value} {x : DataW H × List MemPlace} (ht : stTy P t l = true) (h : DataW.trod enc P W base sp held fuel t cs = some x) :
    ∃ n, fuel = n + 1 ∧ cs.length = P.cellsOf t ∧ ∀ (i o : Nat) (ty : TypeId), l[i]? = some (o, ty) → ∃ y, DataW.trod enc P W base sp held n ty ((cs.drop o).take (P.cellsOf ty)) = some y := by
  unfold stTy at ht
  split at ht
  · rename_i fs hfs
    have hl := of_decide_eq_true ht
    obtain ⟨xs, n, hfu, _, hlen, hxl, hf⟩ := DataW.trod_struct hfs h
    refine ⟨n, hfu, hlen, fun i o ty hi => ?_⟩
    rw [← hl, List.getElem?_map] at hi
    obtain ⟨f, hf1, hf2⟩ := Option.map_eq_some_iff.1 hi
    have hf3 : fs[i]? = some f := by simpa using hf1
    have hil : i < xs.length := by
      rw [hxl]
      exact (Array.getElem?_eq_some_iff.1 hf3).1
    have h2 := hf i f hf3
    injection hf2 with e1 e2
    rw [← e1, ← e2, h2]
    exact ⟨xs[i], List.getElem?_eq_getElem hil⟩
  · cases ht
theorem rEx_up : ∀ {d : Nat} {H : Array Obj} {cs : List Value} {x : Ex} {F : List Nat}, rEx d H cs x F → rEx (d + 1) H cs x F
  | 0, _, _, _, _, h => h.elim
  | d + 1, _, _, _, _, ⟨v, h1, h2, h3⟩ => ⟨v, h1, h2, h3.imp fun h => rEx_up h⟩
/-- A slice of structs, opened. -/
theorem open_rdS {α : Type} [Inhabited α] {E : StandN α} {t e : TypeId} {s fuel : Nat} {u : Value} {x : DataW H × List MemPlace} (hE : GoodN s E) (hs : 0 < s) (ht : P.underlying t = some (.slice e)) (ce : P.cellsOf e = s)
    (hel : ∀ {n : Nat} {cs : List Value} {x : DataW H × List MemPlace}, fuel = n + 1 → DataW.trod enc P W base (fun _ => true) held n e cs = some x → ∃ (y : α) (F : List Nat), E W.heap cs y F)
    (hf : DataW.trod enc P W base (fun _ => true) held fuel t [u] = some x) : ∃ (zs : List α) (F : List Nat), rdS s E W.heap u zs F := by
  rcases DataW.trod_slice ht hf with ⟨hcs, _⟩ | ⟨a, len, cap, elems, rest, n, hfu, hcs, _, _, hl, hm, hlen, helm, _, _⟩
  · simp only [List.cons.injEq, and_true] at hcs
    subst hcs
    exact ⟨[], [], .inl ⟨none, 0, rfl, rfl, rfl⟩⟩
  · simp only [List.cons.injEq, and_true] at hcs
    subst hcs
    have h1 : ∀ i, i < len → ∃ c : List Value × α, (∀ j, j < s → W.cell? (a.add (i * s + j)) = c.1[j]?) ∧ ∃ F, E W.heap c.1 c.2 F := by
      intro i hi
      have h2 := helm i hi
      rw [List.getElem?_eq_getElem (by omega)] at h2
      obtain ⟨cs', q1, q2⟩ := Option.bind_eq_some_iff.1 h2
      obtain ⟨_, ql, qc⟩ := World.cells?_some q1
      obtain ⟨y, F, hy⟩ := hel hfu q2
      refine ⟨(cs', y), fun j hj => ?_, F, hy⟩
      have := qc j (by rw [ce]; exact hj)
      rwa [add_add, ce] at this
    obtain ⟨C, hC⟩ := choose_lt (α := List Value × α) (n := len) h1
    obtain ⟨F, hF⟩ := rdS_row hE hs (W := W) (a := a) (n := len) (cap := cap) (by omega) hl (fun i => (C i).1) (fun i => (C i).2) (fun i hi => (hC i hi).1) (fun i hi => (hC i hi).2)
    exact ⟨_, F, hF⟩
instance : Inhabited Ex := ⟨Ex.zero⟩
instance : Inhabited Fn := ⟨Fn.zero⟩
/-- Expressions, opened. -/
theorem open_exs {tS tE ti : TypeId} (hS : P.underlying tS = some (.slice tE)) (hE : stTy P tE [(0, ti), (1, ti), (2, ti), (3, ti), (4, tS)] = true) (hi : P.underlying ti = some (.int .i64)) (cE : P.cellsOf tE = 5) (ci : P.cellsOf ti = 1) (cS : P.cellsOf tS = 1) :
    ∀ (fuel : Nat) (u : Value) (x : DataW H × List MemPlace), DataW.trod enc P W base (fun _ => true) held fuel tS [u] = some x → ∃ (zs : List Ex) (F : List Nat), rdS 5 (rEx fuel) W.heap u zs F := by
  intro fuel
  induction fuel using Nat.strongRecOn with
  | _ fuel ih =>
    intro u x hf
    refine open_rdS (good_rEx fuel) (by decide) hS cE ?_ hf
    intro n cs y hfu hy
    obtain ⟨m, hm, hlen, hfd⟩ := st_field hE hy
    have num : ∀ o, o < 4 → ∃ z : Int, (cs.drop o).take 1 = [.int .i64 z] ∧ i64 z := by
      intro o ho
      obtain ⟨y', hy'⟩ := hfd o o ti (by match o, ho with | 0, _ => rfl | 1, _ => rfl | 2, _ => rfl | 3, _ => rfl)
      rw [ci] at hy'
      obtain ⟨z, hz, _, hw⟩ := DataW.trod_int hi hy'
      exact ⟨z, hz, wf_i64 hw⟩
    obtain ⟨y4, hy4⟩ := hfd 4 4 tS rfl
    rw [cS] at hy4
    rw [cE] at hlen
    match cs, hlen with
    | [c0, c1, c2, c3, c4], _ =>
      obtain ⟨z0, e0, r0⟩ := num 0 (by decide)
      obtain ⟨z1, e1, r1⟩ := num 1 (by decide)
      obtain ⟨z2, e2, r2⟩ := num 2 (by decide)
      obtain ⟨z3, e3, r3⟩ := num 3 (by decide)
      have q0 : c0 = .int .i64 z0 := by simpa using e0
      have q1 : c1 = .int .i64 z1 := by simpa using e1
      have q2 : c2 = .int .i64 z2 := by simpa using e2
      have q3 : c3 = .int .i64 z3 := by simpa using e3
      subst q0; subst q1; subst q2; subst q3
      obtain ⟨zs, F, hz⟩ := ih m (by omega) c4 y4 hy4
      subst hm
      subst hfu
      exact ⟨.mk z0 z1 z2 z3 zs, F, rEx_up (d := m + 1) ⟨c4, rfl, ⟨r0, r1, r2, r3⟩, hz⟩⟩
/-- A program, opened. -/
theorem open_prog {t tF tN tS tE ti tz : TypeId} {d : DataW H} {ps : List MemPlace} {v : Value} {b0 : Nat} {r : Reach} (hP : stTy P t [(0, tF)] = true) (hF : P.underlying tF = some (.slice tN)) (hN : stTy P tN [(0, tz), (1, ti), (2, tS)] = true)
    (hS : P.underlying tS = some (.slice tE)) (hE : stTy P tE [(0, ti), (1, ti), (2, ti), (3, ti), (4, tS)] = true) (hi : P.underlying ti = some (.int .i64)) (hz : P.underlying tz = some .string)
    (cP : P.cellsOf t = 1) (cF : P.cellsOf tF = 1) (cN : P.cellsOf tN = 3) (cE : P.cellsOf tE = 5) (ci : P.cellsOf ti = 1) (cS : P.cellsOf tS = 1) (cz : P.cellsOf tz = 1)
    (hval : Value.okWide P W r b0 t v) (hd : DataW.Trod enc P W base (fun _ => true) held t v d ps) :
    ∃ (u : Value) (dp : Nat) (p : List Fn), v = .agg #[u] ∧ RP [] dp W.heap u p ∧ ∀ k, k < p.length → (p.getD k Fn.zero).name.size ≤ 9223372036854775807 := by
  have hstr : ∃ fs, P.underlying t = some (.struct fs) := by
    unfold stTy at hP
    split at hP
    · rename_i fs hfs; exact ⟨fs, hfs⟩
    · cases hP
  obtain ⟨fs, hfs⟩ := hstr
  obtain ⟨cs, rfl, hcs⟩ := okWide_struct hfs hval
  obtain ⟨fuel, hf⟩ := hd
  obtain ⟨n, hfu, hlen, hfd⟩ := st_field hP hf
  obtain ⟨y, hy⟩ := hfd 0 0 tF rfl
  rw [cF] at hy
  rw [cP] at hlen
  have hlen' : cs.toList.length = 1 := hlen
  match hcl : cs.toList, hlen' with
  | [u], _ =>
    have hcu : cs = #[u] := by apply Array.ext'; simpa using hcl
    subst hcu
    have hy' : DataW.trod enc P W base (fun _ => true) held n tF [u] = some y := hy
    obtain ⟨zs, F, hzs⟩ := open_rdS (E := fun H cs f F => rFn n H cs f F ∧ f.name.size ≤ 9223372036854775807) (s := 3)
      ⟨fun h => (good_rFn n).len h.1, fun h => (good_rFn n).one h.1, fun h => (good_rFn n).lt h.1, fun h hb => ⟨(good_rFn n).stable h.1 hb, h.2⟩⟩ (by decide) hF cN (by
        intro m cs y hm hy
        obtain ⟨q, hq, hlen, hfd⟩ := st_field hN hy
        rw [cN] at hlen
        obtain ⟨y0, h0⟩ := hfd 0 0 tz rfl
        obtain ⟨y1, h1⟩ := hfd 1 1 ti rfl
        obtain ⟨y2, h2⟩ := hfd 2 2 tS rfl
        rw [cz] at h0
        rw [ci] at h1
        rw [cS] at h2
        match cs, hlen with
        | [c0, c1, c2], _ =>
          obtain ⟨s, e0, _, hs⟩ := DataW.trod_string hz h0
          obtain ⟨z, e1, _, hw⟩ := DataW.trod_int hi h1
          have q0 : c0 = .string s := by simpa using e0
          have q1 : c1 = .int .i64 z := by simpa using e1
          subst q0; subst q1
          obtain ⟨es, F, hes⟩ := open_exs (enc := enc) (W := W) (base := base) (held := held) hS hE hi cE ci cS q c2 y2 h2
          have hup : ∀ k, rdS 5 (rEx (q + k)) W.heap c2 es F := by
            intro k
            induction k with
            | zero => exact hes
            | succ k ih => exact ih.imp fun h => rEx_up h
          have hn : rdS 5 (rEx n) W.heap c2 es F := by
            have := hup (n - q)
            rwa [show q + (n - q) = n from by omega] at this
          exact ⟨⟨s, z, es⟩, F, ⟨c2, rfl, wf_i64 hw, hn⟩, by unfold maxLen at hs; exact hs⟩) hy'
    refine ⟨u, n, zs, rfl, ⟨F, hzs.imp fun h => h.1, fun b hb hm => by cases hm⟩, fun k hk => ?_⟩
    obtain ⟨cs, G, hg, _⟩ := rdS.get (E := fun H cs f F => rFn n H cs f F ∧ f.name.size ≤ 9223372036854775807) (s := 3) ⟨fun h => (good_rFn n).len h.1, fun h => (good_rFn n).one h.1, fun h => (good_rFn n).lt h.1, fun h hb => ⟨(good_rFn n).stable h.1 hb, h.2⟩⟩ Fn.zero hzs hk
    exact hg.2
end
end Go.Proofs.Ytjnbnlniafmblaa
