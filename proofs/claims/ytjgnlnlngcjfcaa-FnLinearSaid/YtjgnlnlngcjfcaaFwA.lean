/- The region rule: one lexical walk of a region serves every order that its edges allow. No condition. -/
import Derived.Still
import Derived.Below
import Derived.WalkKit
namespace Go.Proofs.Ytjgnlnlngcjfcaa
open Go Go.RowKit

/-- What existed stays as it was; the streams too. -/
def Ext (w w' : World) : Prop := Below w.heap.size w w'

theorem Ext.refl (w : World) : Ext w w := Below.refl _ _
theorem Ext.trans {a b c : World} (h : Ext a b) (k : Ext b c) : Ext a c := Below.trans h (k.mono h.size)

section
variable {P : Program} {ops : Array Oper} {md : Region.Mode}

/-- What a run of an operation yields when it leaves the world as it is: a value, nothing, or the value of a call. -/
def YR (P : Program) (r : Result Next) (w : World) (v : Value) : Prop :=
  r = .ok (.value v) w ∨ (r = .ok .skip w ∧ v = undef) ∨ ∃ f args, r = .ok (.enter f args) w ∧ Calls P f args w (fun e w' => e = .returned v ∧ w' = w)

/-- In state a, in world w, the operation yields v and leaves the world. -/
def YA (P : Program) (o : Oper) (a : Act) (w : World) (v : Value) : Prop := YR P ((execOp a.eval o).run P w) w v

/-- A frame that ends when it is come back to, and keeps what it is told. -/
def endFrame (P : Program) : Frame := { fn := P.funcs.size, tmps := #[undef], todo := [.inRegion #[⟨some 0, .move (.tmp 0), 0, "", #[], none⟩] [0]], defers := [], mode := .returning, kind := .report }

theorem endFrame_step (P : Program) (v : Value) (w : World) : ∃ o, step P (lone ((endFrame P).finish v) [] w) = .ended o w := by
  have hf : P.funcs[P.funcs.size]? = none := by simp
  refine ⟨.stuck "report: Error or String returned no string" "", step_lone_ended ?_⟩
  simp [stepG, unwind, doReturn, endFrame, Frame.finish]

theorem runN_next_end {P : Program} {n k : Nat} {m x y : Machine} {o : Outcome} {w : World} (hx : runN P n m = .next x) (hy : runN P (n + k) m = .next y) (he : step P x = .ended o w) : x = y := by
  rw [runN_add, hx] at hy
  cases k with
  | zero => simp only [runN] at hy; injection hy
  | succ k => simp only [runN, he] at hy; cases hy

theorem calls_unique {P : Program} {f : FuncId} {args : Array Value} {w : World} {v u : Value} (h : Calls P f args w (fun e w' => e = .returned v ∧ w' = w)) (k : Calls P f args w (fun e w' => e = .returned u ∧ w' = w)) : v = u := by
  have go : ∀ {x : Value}, Calls P f args w (fun e w' => e = .returned x ∧ w' = w) → Steps P (lone (Frame.enter P f args .normal) [endFrame P] w) (lone ((endFrame P).finish x) [] w) := by
    intro x hx
    obtain ⟨e, w', fr, ⟨rfl, rfl⟩, hs, _, hl⟩ := hx [endFrame P]
    exact Steps.trans hs (Steps.one (step_leave_returned hl))
  obtain ⟨n, hn⟩ := go h
  obtain ⟨m, hm⟩ := go k
  obtain ⟨o1, e1⟩ := endFrame_step P v w
  obtain ⟨o2, e2⟩ := endFrame_step P u w
  have he : lone ((endFrame P).finish v) [] w = lone ((endFrame P).finish u) [] w := by
    rcases Nat.le_total n m with hle | hle
    · obtain ⟨k, rfl⟩ := Nat.le.dest hle
      exact runN_next_end hn hm e1
    · obtain ⟨k, rfl⟩ := Nat.le.dest hle
      exact (runN_next_end hm hn e2).symm
  simpa [lone, endFrame, Frame.finish] using he

theorem YA.unique {o : Oper} {a : Act} {w : World} {v u : Value} (h : YA P o a w v) (k : YA P o a w u) : v = u := by
  unfold YA at h k
  rcases h with h | ⟨h, rfl⟩ | ⟨f, args, h, hc⟩ <;> rcases k with k | ⟨k, rfl⟩ | ⟨f', args', k, kc⟩ <;> rw [h] at k
  · injection k with k _; injection k
  · injection k with k _; cases k
  · injection k with k _; cases k
  · injection k with k _; cases k
  · injection k with k _; cases k
  · injection k with k _; cases k
  · injection k with k _; cases k
  · injection k with k _
    injection k with k1 k2
    subst k1; subst k2
    exact calls_unique hc kc

/-- The end of a region: only the normal one. -/
def NQ (Q : Act → World → Prop) : Exit → Act → World → Prop
  | .normal, a, w => Q a w
  | _, _, _ => False

/-- The class of worlds in which a reading operation of a kind must yield its value: 0 any, 1 those that extend the region's first world, 2 those that extend the present one. -/
def Cl (w0 w : World) : Nat → World → Prop
  | 0, _ => True
  | 1, w' => Ext w0 w'
  | _, w' => Ext w w'

/-- One operation with its kind: 0, 1, 2: reads; 3: makes memory alone; 4: anything. -/
def OneOp (P : Program) (w0 : World) (o : Oper) (k : Nat) (a : Act) (w : World) (K : Act → World → Prop) : Prop :=
  if k ≤ 2 then ∃ v, (∀ w', Cl w0 w k w' → YA P o a w' v) ∧ K (a.put o.dst v) w
  else if k = 3 then o.wp P a w (fun a' w' => Ext w w' ∧ K a' w') (NQ fun _ _ => False)
  else o.wp P a w K (NQ fun _ _ => False)

/-- The lexical walk. -/
def LW (P : Program) (ops : Array Oper) (w0 : World) (Q : Act → World → Prop) : List Oper → List Nat → Act → World → Prop
  | [], _, a, w => Q a w
  | _ :: _, [], _, _ => False
  | o :: os, k :: ks, a, w =>
    if Region.wanted o (yielded ops a.tmps) = true then OneOp P w0 o k a w (LW P ops w0 Q os ks) else LW P ops w0 Q os ks (a.put o.dst undef) w

theorem wp_mono1 {o : Oper} {a : Act} {w : World} {K K' : Act → World → Prop} {Q : Exit → Act → World → Prop} (h : ∀ a w, K a w → K' a w)
    (hh : o.wp P a w K Q) : o.wp P a w K' Q := Oper.wp_mono h hh

theorem OneOp.mono {w0 : World} {o : Oper} {k : Nat} {a : Act} {w : World} {K K' : Act → World → Prop} (h : ∀ a w, K a w → K' a w)
    (hh : OneOp P w0 o k a w K) : OneOp P w0 o k a w K' := by
  unfold OneOp at *
  split
  · rename_i hk
    rw [if_pos hk] at hh
    obtain ⟨v, h1, h2⟩ := hh
    exact ⟨v, h1, h _ _ h2⟩
  · rename_i hk
    rw [if_neg hk] at hh
    split
    · rename_i h3
      rw [if_pos h3] at hh
      exact Oper.wp_mono (fun a w hx => ⟨hx.1, h _ _ hx.2⟩) hh
    · rename_i h3
      rw [if_neg h3] at hh
      exact Oper.wp_mono h hh

/-- A wp with no other end has an outcome. -/
theorem wp_some {o : Oper} {a : Act} {w : World} {K : Act → World → Prop} (h : o.wp P a w K (NQ fun _ _ => False)) : ∃ v w', K (a.put o.dst v) w' ∨ ∃ d, K ({ a with defers := d :: a.defers }.put o.dst v) w' := by
  unfold Oper.wp at h
  generalize (execOp a.eval o).run P w = r at h
  cases r with
  | ok n w' =>
    cases n <;> simp only [Oper.upon] at h
    case value v => exact ⟨v, w', .inl h⟩
    case skip => exact ⟨undef, w', .inl h⟩
    case defer d => exact ⟨undef, w', .inr ⟨d, h⟩⟩
    case enter f args =>
      obtain ⟨e, w1, fr, hR, _⟩ := h []
      cases e with
      | returned v => exact ⟨v, w1, .inl hR⟩
      | panicked c => exact hR.elim
      | outgrown => obtain ⟨a1, w2, hf⟩ := hR; exact hf.elim
    case row row args =>
      obtain ⟨v, w1, hR, _⟩ := h default []
      exact ⟨v, w1, .inl hR⟩
  | halt x w' => cases x <;> simp only [Oper.upon] at h; exact h.elim

/-- The state of another temporary does not matter to an operation. -/
theorem wp_apart {o : Oper} (hs : ∀ cs b, o.op ≠ .select cs b) {a : Act} {d : Option Tmp} {v : Value} {w : World} {K : Act → World → Prop} {Q : Act → World → Prop}
    (h1 : ∀ x, d = some x → x ∉ o.looksAt ops) (h2 : ∀ x, d = some x → o.dst ≠ some x)
    (h : o.wp P (a.put d v) w K (NQ Q)) : o.wp P a w (fun a' w' => K (a'.put d v) w') (NQ fun _ _ => False) := by
  unfold Oper.wp at *
  rw [execOp_put (ops := ops) o hs a d v h1] at h
  generalize (execOp a.eval o).run P w = r at *
  have hc : ∀ u, (a.put d v).put o.dst u = (a.put o.dst u).put d v := fun u => Act.put_comm a v u h2
  cases r with
  | ok n w' =>
    cases n <;> simp only [Oper.upon] at h ⊢
    case value u => rw [← hc]; exact h
    case skip => rw [← hc]; exact h
    case defer dd =>
      rw [Act.put_defers] at h
      have := Act.put_comm ({ a with defers := dd :: a.defers } : Act) v undef h2
      rw [← this]; exact h
    case enter f args =>
      refine Calls.mono h (fun e w'' he => ?_)
      cases e with
      | returned u => show K _ _; rw [← hc]; exact he
      | panicked c => exact he
      | outgrown => obtain ⟨_, _, hf⟩ := he; exact hf.elim
    case row row args => exact Rows.mono h (fun u w'' he => by show K _ _; rw [← hc]; exact he)
  | halt x w' => cases x <;> simp only [Oper.upon] at h ⊢; exact h

theorem wp_unapart {o : Oper} (hs : ∀ cs b, o.op ≠ .select cs b) {a : Act} {d : Option Tmp} {v : Value} {w : World} {K : Act → World → Prop}
    (h1 : ∀ x, d = some x → x ∉ o.looksAt ops) (h2 : ∀ x, d = some x → o.dst ≠ some x)
    (h : o.wp P a w (fun a' w' => K (a'.put d v) w') (NQ fun _ _ => False)) : o.wp P (a.put d v) w K (NQ fun _ _ => False) := by
  unfold Oper.wp at *
  rw [execOp_put (ops := ops) o hs a d v h1]
  generalize (execOp a.eval o).run P w = r at *
  have hc : ∀ u, (a.put d v).put o.dst u = (a.put o.dst u).put d v := fun u => Act.put_comm a v u h2
  cases r with
  | ok n w' =>
    cases n <;> simp only [Oper.upon] at h ⊢
    case value u => rw [hc]; exact h
    case skip => rw [hc]; exact h
    case defer dd =>
      rw [Act.put_defers]
      have := Act.put_comm ({ a with defers := dd :: a.defers } : Act) v undef h2
      rw [this]; exact h
    case enter f args =>
      refine Calls.mono h (fun e w'' he => ?_)
      cases e with
      | returned u => show K _ _; rw [hc]; exact he
      | panicked c => exact he
      | outgrown => obtain ⟨_, _, hf⟩ := he; exact hf.elim
    case row row args => exact Rows.mono h (fun u w'' he => by show K _ _; rw [hc]; exact he)
  | halt x w' => cases x <;> simp only [Oper.upon] at h ⊢; exact h

theorem YA.apart {o : Oper} (hs : ∀ cs b, o.op ≠ .select cs b) {a : Act} {d : Option Tmp} {v u : Value} {w : World}
    (h1 : ∀ x, d = some x → x ∉ o.looksAt ops) : YA P o (a.put d v) w u ↔ YA P o a w u := by
  unfold YA
  rw [execOp_put (ops := ops) o hs a d v h1]

/-! ### The lexical walk over places -/

variable (P ops) in
/-- The walk over a list of places of the region, the kinds by 'kd'. -/
def LI (kd : Nat → Nat) (w0 : World) (Q : Act → World → Prop) : List Nat → Act → World → Prop
  | [], a, w => Q a w
  | i :: l, a, w =>
    match ops[i]? with
    | none => False
    | some o => if Region.wanted o (yielded ops a.tmps) = true then OneOp P w0 o (kd i) a w (LI kd w0 Q l) else LI kd w0 Q l (a.put o.dst undef) w

/-- Two places that may come in either order: their kinds let them. i is the earlier one in the text. -/
def okPair (ki kj : Nat) : Bool :=
  (ki ≤ 2 && kj ≤ 2) || (ki ≤ 2 && kj == 3) || (ki == 0 && kj == 4) || (ki == 3 && kj ≤ 1) || (ki == 4 && kj == 0)

/-- What is asked of each pair of places: the later one waits for the earlier one, or they are apart and their kinds let them. -/
def Free (ops : Array Oper) (kd : Nat → Nat) (bs : Nat → Nat) : Prop :=
  ∀ i j oi oj, i < j → ops[i]? = some oi → ops[j]? = some oj → (bs j).testBit i = true ∨ (oi.apart ops oj = true ∧ okPair (kd i) (kd j) = true)

/-- 'bs' tells some of what each place waits for. -/
def Sound (md : Region.Mode) (ops : Array Oper) (bs : Nat → Nat) : Prop :=
  ∀ j oj, ops[j]? = some oj → ∀ i, (bs j).testBit i = true → ∃ e ∈ oj.after, Region.binds md e = true ∧ (i = e.on ∨ (bs e.on).testBit i = true)

/-- The present world extends the first one as long as a place of kind 1 is to come. -/
def Inv1 (kd : Nat → Nat) (w0 w : World) (l : List Nat) : Prop := (∃ j ∈ l, kd j = 1) → Ext w0 w

/-- No place of kind 1 stands behind one of kind 4. -/
def No14 (kd : Nat → Nat) (l : List Nat) : Prop := ∀ l1 i l2, l = l1 ++ i :: l2 → 4 ≤ kd i → ∀ j ∈ l2, kd j ≠ 1

theorem No14.tail {kd : Nat → Nat} {i : Nat} {l : List Nat} (h : No14 kd (i :: l)) : No14 kd l :=
  fun l1 j l2 e => h (i :: l1) j l2 (by rw [e]; rfl)

theorem No14.erase {kd : Nat → Nat} {l1 l2 : List Nat} {i : Nat} (h : No14 kd (l1 ++ i :: l2)) : No14 kd (l1 ++ l2) := by
  intro m1 j m2 e hj x hx
  by_cases hlt : m1.length < l1.length
  · have e1 : l1 = m1 ++ j :: (m2.take (l1.length - m1.length - 1)) := by
      have := congrArg (List.take l1.length) e
      rw [List.take_left, List.take_append, List.take_of_length_le (by omega)] at this
      rw [this]
      congr 1
      obtain ⟨n, hn⟩ : ∃ n, l1.length - m1.length = n + 1 := ⟨l1.length - m1.length - 1, by omega⟩
      rw [hn]; simp
    have e2 : l2 = m2.drop (l1.length - m1.length - 1) := by
      have := congrArg (List.drop l1.length) e
      rw [List.drop_left, List.drop_append] at this
      rw [this, List.drop_of_length_le (by omega), List.nil_append]
      obtain ⟨n, hn⟩ : ∃ n, l1.length - m1.length = n + 1 := ⟨l1.length - m1.length - 1, by omega⟩
      rw [hn]; simp
    refine h m1 j (m2.take (l1.length - m1.length - 1) ++ i :: l2) (by rw [e1]; simp [List.append_assoc]) hj x ?_
    have hx' : x ∈ m2.take (l1.length - m1.length - 1) ++ m2.drop (l1.length - m1.length - 1) := by rw [List.take_append_drop]; exact hx
    rw [← e2] at hx'
    simp only [List.mem_append, List.mem_cons] at hx' ⊢
    rcases hx' with hx' | hx'
    · exact .inl hx'
    · exact .inr (.inr hx')
  · have e2 : l2 = m1.drop l1.length ++ j :: m2 := by
      have := congrArg (List.drop l1.length) e
      rw [List.drop_left, List.drop_append_of_le_length (by omega)] at this
      exact this
    exact h (l1 ++ i :: m1.drop l1.length) j m2 (by rw [e2]; simp) hj x hx

/-- What the operation leaves in its temporary, in every world of its class. -/
def Yv (P : Program) (ops : Array Oper) (w0 : World) (k : Nat) (o : Oper) (a : Act) (w : World) (v : Value) : Prop :=
  (Region.wanted o (yielded ops a.tmps) = true ∧ ∀ w', Cl w0 w k w' → YA P o a w' v) ∨ (Region.wanted o (yielded ops a.tmps) = false ∧ v = undef)

theorem Cl.self {w0 w : World} {k : Nat} (h : k = 1 → Ext w0 w) : Cl w0 w k w := by
  match k, h with
  | 0, _ => exact trivial
  | 1, h => exact h rfl
  | _ + 2, _ => exact Ext.refl w

theorem Yv.unique {w0 w : World} {k : Nat} {o : Oper} {a : Act} {v u : Value} (hk : k = 1 → Ext w0 w) (h : Yv P ops w0 k o a w v) (h' : Yv P ops w0 k o a w u) : v = u := by
  rcases h with ⟨h1, h2⟩ | ⟨h1, h2⟩ <;> rcases h' with ⟨g1, g2⟩ | ⟨g1, g2⟩
  · exact (h2 w (Cl.self hk)).unique (g2 w (Cl.self hk))
  · rw [h1] at g1; cases g1
  · rw [h1] at g1; cases g1
  · rw [h2, g2]

theorem Yv.apart {w0 w : World} {k : Nat} {o : Oper} (hs : ∀ cs b, o.op ≠ .select cs b) {a : Act} {d : Option Tmp} {u v : Value}
    (h1 : ∀ x, d = some x → x ∉ o.looksAt ops) : Yv P ops w0 k o (a.put d u) w v ↔ Yv P ops w0 k o a w v := by
  unfold Yv
  rw [wanted_put (ops := ops) o a d u h1]
  simp only [YA.apart (ops := ops) (P := P) hs h1]

theorem Yv.defers {w0 w : World} {k : Nat} {o : Oper} {a : Act} {l : List Deferred} {v : Value} : Yv P ops w0 k o { a with defers := l } w v ↔ Yv P ops w0 k o a w v := by
  have he : Act.eval { a with defers := l } = Act.eval a := funext fun x => by cases x <;> rfl
  unfold Yv YA
  rw [he]

/-- The outcome of a wp has its shape. -/
def Shape (a : Act) (d : Option Tmp) (a' : Act) : Prop := ∃ u, a' = a.put d u ∨ ∃ x, a' = ({ a with defers := x :: a.defers } : Act).put d u

theorem wp_shape {o : Oper} {a : Act} {w : World} {K : Act → World → Prop} {Q : Exit → Act → World → Prop} (h : o.wp P a w K Q) :
    o.wp P a w (fun a' w' => K a' w' ∧ Shape a o.dst a') Q := by
  unfold Oper.wp at *
  generalize (execOp a.eval o).run P w = r at *
  cases r with
  | ok n w' =>
    cases n <;> simp only [Oper.upon] at h ⊢
    case value u => exact ⟨h, u, .inl rfl⟩
    case skip => exact ⟨h, undef, .inl rfl⟩
    case defer dd => exact ⟨h, undef, .inr ⟨dd, rfl⟩⟩
    case enter f args =>
      refine Calls.mono h (fun e w'' he => ?_)
      cases e with
      | returned u => exact ⟨he, u, .inl rfl⟩
      | panicked c => exact he
      | outgrown => exact he
    case row row args => exact Rows.mono h (fun u w'' he => ⟨he, u, .inl rfl⟩)
  | halt x w' => cases x <;> simp only [Oper.upon] at h ⊢; exact h

theorem Yv.shape {w0 w : World} {k : Nat} {o : Oper} (hs : ∀ cs b, o.op ≠ .select cs b) {a a' : Act} {d : Option Tmp} {v : Value}
    (h1 : ∀ x, d = some x → x ∉ o.looksAt ops) (h : Shape a d a') : Yv P ops w0 k o a' w v ↔ Yv P ops w0 k o a w v := by
  obtain ⟨u, rfl | ⟨x, rfl⟩⟩ := h
  · exact Yv.apart hs h1
  · rw [Yv.apart hs h1]; exact Yv.defers

theorem wanted_shape {o : Oper} {a a' : Act} {d : Option Tmp} (h1 : ∀ x, d = some x → x ∉ o.looksAt ops) (h : Shape a d a') :
    Region.wanted o (yielded ops a'.tmps) = Region.wanted o (yielded ops a.tmps) := by
  obtain ⟨u, rfl | ⟨x, rfl⟩⟩ := h
  · exact wanted_put o a d u h1
  · rw [wanted_put o _ d u h1]

theorem Shape.put_comm {a a' : Act} {d e : Option Tmp} {v : Value} (hne : ∀ x, d = some x → e ≠ some x) (h : Shape (a.put d v) e a') : ∃ b, a' = b.put d v ∧ Shape a e b := by
  obtain ⟨u, rfl | ⟨x, rfl⟩⟩ := h
  · exact ⟨a.put e u, Act.put_comm a v u hne, u, .inl rfl⟩
  · refine ⟨({ a with defers := x :: a.defers } : Act).put e u, ?_, u, .inr ⟨x, rfl⟩⟩
    rw [Act.put_defers]
    exact Act.put_comm _ v u hne

section main
variable {kd bs : Nat → Nat} {w0 : World} {Q : Act → World → Prop}

theorem ok3 {ki kj : Nat} (h : okPair ki kj = true) (hk : ki = 3) : kj ≤ 1 := by simp [okPair] at h; omega
theorem ok4 {ki kj : Nat} (h : okPair ki kj = true) (hk : 4 ≤ ki) : kj = 0 := by simp [okPair] at h; omega
theorem okj {ki kj : Nat} (h : okPair ki kj = true) (hk : 3 ≤ kj) : ki ≤ 2 ∧ (4 ≤ kj → ki = 0) := by simp [okPair] at h; omega

/-- An operation that reads may be taken out of the walk. -/
theorem takeQ (hsel : ∀ (j : Nat) (o : Oper) cs b, ops[j]? = some o → o.op ≠ .select cs b) {j : Nat} {oj : Oper} (hj : ops[j]? = some oj) (hk : kd j ≤ 2) :
    ∀ (l1 l2 : List Nat) (a : Act) (w : World), (∀ i ∈ l1, ∀ oi, ops[i]? = some oi → oi.apart ops oj = true ∧ okPair (kd i) (kd j) = true) → (kd j = 1 → Ext w0 w) →
      LI P ops kd w0 Q (l1 ++ j :: l2) a w → ∃ v, Yv P ops w0 (kd j) oj a w v ∧ LI P ops kd w0 Q (l1 ++ l2) (a.put oj.dst v) w
  | [], l2, a, w, _, _, h => by
    simp only [List.nil_append, LI, hj] at h ⊢
    split at h
    · rename_i hw
      unfold OneOp at h
      rw [if_pos hk] at h
      obtain ⟨v, h1, h2⟩ := h
      exact ⟨v, .inl ⟨hw, h1⟩, h2⟩
    · rename_i hw
      exact ⟨undef, .inr ⟨by simpa using hw, rfl⟩, h⟩
  | i :: l1, l2, a, w, hl, hx, h => by
    have hi := hl i (List.mem_cons_self ..)
    have hl' : ∀ x ∈ l1, ∀ ox, ops[x]? = some ox → ox.apart ops oj = true ∧ okPair (kd x) (kd j) = true := fun x hx => hl x (List.mem_cons_of_mem _ hx)
    simp only [List.cons_append, LI] at h ⊢
    cases hoi : ops[i]? with
    | none => rw [hoi] at h; exact h.elim
    | some oi =>
      rw [hoi] at h
      simp only at h ⊢
      obtain ⟨hap, hok⟩ := hi oi hoi
      obtain ⟨p1, p2, p3⟩ := Oper.apart_spec hap
      have p2' : ∀ d, oj.dst = some d → oi.dst ≠ some d := fun d hd he => p2 d he hd
      have si := fun cs b => hsel i oi cs b hoi
      have sj := fun cs b => hsel j oj cs b hj
      by_cases hw : Region.wanted oi (yielded ops a.tmps) = true
      · rw [if_pos hw] at h
        unfold OneOp at h
        by_cases hki : kd i ≤ 2
        · rw [if_pos hki] at h
          obtain ⟨vi, hy, h⟩ := h
          obtain ⟨v, h1, h2⟩ := takeQ hsel hj hk l1 l2 (a.put oi.dst vi) w hl' hx h
          refine ⟨v, (Yv.apart sj p1).1 h1, ?_⟩
          rw [wanted_put oi a oj.dst v p3, if_pos hw]
          unfold OneOp
          rw [if_pos hki]
          refine ⟨vi, fun w' hc => (YA.apart (ops := ops) si p3).2 (hy w' hc), ?_⟩
          rw [Act.put_comm a v vi p2']
          exact h2
        · rw [if_neg hki] at h
          have gen : ∀ (G : World → Prop), (∀ w', G w' → kd j = 1 → Ext w0 w') → (kd j = 2 → False) →
              oi.wp P a w (fun a' w' => G w' ∧ LI P ops kd w0 Q (l1 ++ j :: l2) a' w') (NQ fun _ _ => False) →
              ∃ v, Yv P ops w0 (kd j) oj a w v ∧ oi.wp P (a.put oj.dst v) w (fun a' w' => G w' ∧ LI P ops kd w0 Q (l1 ++ l2) a' w') (NQ fun _ _ => False) := by
            intro G hG hn2 hh
            have hcl : ∀ w1 w2, Cl w0 w1 (kd j) w2 → Cl w0 w (kd j) w2 := by
              intro w1 w2 hc
              match hkj : kd j, hk, hn2 with
              | 0, _, _ => trivial
              | 1, _, _ => rw [hkj] at hc; exact hc
              | 2, _, hn => exact (hn rfl).elim
              | _ + 3, hle, _ => omega
            have hcl' : ∀ w1 w2, Cl w0 w (kd j) w2 → Cl w0 w1 (kd j) w2 := by
              intro w1 w2 hc
              match hkj : kd j, hk, hn2 with
              | 0, _, _ => trivial
              | 1, _, _ => rw [hkj] at hc; exact hc
              | 2, _, hn => exact (hn rfl).elim
              | _ + 3, hle, _ => omega
            have hs := wp_shape hh
            have step : ∀ a' w', ((G w' ∧ LI P ops kd w0 Q (l1 ++ j :: l2) a' w') ∧ Shape a oi.dst a') →
                ∃ v, Yv P ops w0 (kd j) oj a w v ∧ LI P ops kd w0 Q (l1 ++ l2) (a'.put oj.dst v) w' := by
              rintro a' w' ⟨⟨hg, hL⟩, hsh⟩
              obtain ⟨v, h1, h2⟩ := takeQ hsel hj hk l1 l2 a' w' hl' (hG w' hg) hL
              have h1' := (Yv.shape sj p1 hsh).1 h1
              refine ⟨v, ?_, h2⟩
              rcases h1' with ⟨q1, q2⟩ | ⟨q1, q2⟩
              · exact .inl ⟨q1, fun w2 hc => q2 w2 (hcl' w' w2 hc)⟩
              · exact .inr ⟨q1, q2⟩
            obtain ⟨v, hv⟩ : ∃ v, Yv P ops w0 (kd j) oj a w v := by
              obtain ⟨u, w', hK | ⟨d, hK⟩⟩ := wp_some hs
              · obtain ⟨v, h1, _⟩ := step _ _ hK; exact ⟨v, h1⟩
              · obtain ⟨v, h1, _⟩ := step _ _ hK; exact ⟨v, h1⟩
            refine ⟨v, hv, wp_unapart (ops := ops) si p3 p2' ?_⟩
            refine Oper.wp_mono (fun a' w' hK => ?_) hs
            obtain ⟨v', h1, h2⟩ := step a' w' hK
            have : v' = v := h1.unique hx hv
            subst this
            exact ⟨hK.1.1, h2⟩
          by_cases h3 : kd i = 3
          · rw [if_pos h3] at h
            have hj1 := ok3 hok h3
            obtain ⟨v, hv, hwp⟩ := gen (fun w' => Ext w w') (fun w' hg h1 => (hx h1).trans hg) (fun h2 => by omega) h
            refine ⟨v, hv, ?_⟩
            rw [wanted_put oi a oj.dst v p3, if_pos hw]
            unfold OneOp
            rw [if_neg hki, if_pos h3]
            exact hwp
          · rw [if_neg h3] at h
            have hj0 := ok4 hok (by omega)
            obtain ⟨v, hv, hwp⟩ := gen (fun _ => True) (fun w' _ h1 => by omega) (fun h2 => by omega) (Oper.wp_mono (fun a w hh => ⟨trivial, hh⟩) h)
            refine ⟨v, hv, ?_⟩
            rw [wanted_put oi a oj.dst v p3, if_pos hw]
            unfold OneOp
            rw [if_neg hki, if_neg h3]
            exact Oper.wp_mono (fun a w hh => hh.2) hwp
      · rw [if_neg hw] at h
        obtain ⟨v, h1, h2⟩ := takeQ hsel hj hk l1 l2 (a.put oi.dst undef) w hl' hx h
        refine ⟨v, (Yv.apart sj p1).1 h1, ?_⟩
        rw [wanted_put oi a oj.dst v p3, if_neg hw, Act.put_comm a v undef p2']
        exact h2

/-- An operation that makes or writes memory may be brought to the front of those that need not come before it. -/
theorem takeR (hsel : ∀ (j : Nat) (o : Oper) cs b, ops[j]? = some o → o.op ≠ .select cs b) {j : Nat} {oj : Oper} (hj : ops[j]? = some oj) (hk : 3 ≤ kd j) :
    ∀ (l1 l2 : List Nat) (a : Act) (w : World), (∀ i ∈ l1, ∀ oi, ops[i]? = some oi → oi.apart ops oj = true ∧ okPair (kd i) (kd j) = true) → LI P ops kd w0 Q (l1 ++ j :: l2) a w →
      (Region.wanted oj (yielded ops a.tmps) = true → oj.wp P a w (fun a' w' => (kd j = 3 → Ext w w') ∧ LI P ops kd w0 Q (l1 ++ l2) a' w') (NQ fun _ _ => False)) ∧
      (Region.wanted oj (yielded ops a.tmps) = false → LI P ops kd w0 Q (l1 ++ l2) (a.put oj.dst undef) w)
  | [], l2, a, w, _, h => by
    simp only [List.nil_append, LI, hj] at h ⊢
    refine ⟨fun hw => ?_, fun hw => ?_⟩
    · rw [if_pos hw] at h
      unfold OneOp at h
      rw [if_neg (by omega)] at h
      split at h
      · exact Oper.wp_mono (fun _ _ hh => ⟨fun _ => hh.1, hh.2⟩) h
      · rename_i h3; exact Oper.wp_mono (fun _ _ hh => ⟨fun h' => (h3 h').elim, hh⟩) h
    · rw [if_neg (by simp [hw])] at h; exact h
  | i :: l1, l2, a, w, hl, h => by
    have hi := hl i (List.mem_cons_self ..)
    have hl' : ∀ x ∈ l1, ∀ ox, ops[x]? = some ox → ox.apart ops oj = true ∧ okPair (kd x) (kd j) = true := fun x hx => hl x (List.mem_cons_of_mem _ hx)
    simp only [List.cons_append, LI] at h ⊢
    cases hoi : ops[i]? with
    | none => rw [hoi] at h; exact h.elim
    | some oi =>
      rw [hoi] at h
      simp only at h ⊢
      obtain ⟨hap, hok⟩ := hi oi hoi
      obtain ⟨p1, p2, p3⟩ := Oper.apart_spec hap
      have p2' : ∀ d, oj.dst = some d → oi.dst ≠ some d := fun d hd he => p2 d he hd
      have si := fun cs b => hsel i oi cs b hoi
      have sj := fun cs b => hsel j oj cs b hj
      obtain ⟨hki, hk4⟩ := okj hok hk
      by_cases hw : Region.wanted oi (yielded ops a.tmps) = true
      · rw [if_pos hw] at h
        unfold OneOp at h
        rw [if_pos hki] at h
        obtain ⟨vi, hy, h⟩ := h
        obtain ⟨g1, g2⟩ := takeR hsel hj hk l1 l2 (a.put oi.dst vi) w hl' h
        rw [wanted_put oj a oi.dst vi p1] at g1 g2
        refine ⟨fun hwj => ?_, fun hwj => ?_⟩
        · have g := wp_apart (ops := ops) (Q := fun _ _ => False) sj p1 p2 (g1 hwj)
          refine Oper.wp_mono (fun a' w' hK => ?_) (wp_shape g)
          obtain ⟨⟨hE, hL⟩, hsh⟩ := hK
          refine ⟨hE, ?_⟩
          rw [wanted_shape p3 hsh, if_pos hw]
          unfold OneOp
          rw [if_pos hki]
          refine ⟨vi, fun w'' hc => ?_, hL⟩
          have hya : YA P oi a w'' vi := by
            refine hy w'' ?_
            match hki' : kd i, hki, hk4 with
            | 0, _, _ => trivial
            | 1, _, _ => rw [hki'] at hc; exact hc
            | 2, _, h4 => rw [hki'] at hc; exact (hE (by have : ¬ 4 ≤ kd j := fun hh => by have := h4 hh; omega
                                                         omega)).trans hc
            | _ + 3, hle, _ => omega
          have he : ∀ b, YA P oi b w'' vi ↔ YR P ((execOp b.eval oi).run P w'') w'' vi := fun _ => Iff.rfl
          obtain ⟨u, rfl | ⟨x, rfl⟩⟩ := hsh
          · exact (YA.apart (ops := ops) si p3).2 hya
          · refine (YA.apart (ops := ops) si p3).2 ?_
            have hee : Act.eval { a with defers := x :: a.defers } = Act.eval a := funext fun y => by cases y <;> rfl
            rw [he, hee, ← he]; exact hya
        · rw [wanted_put oi a oj.dst undef p3, if_pos hw]
          unfold OneOp
          rw [if_pos hki]
          refine ⟨vi, fun w' hc => (YA.apart (ops := ops) si p3).2 (hy w' hc), ?_⟩
          rw [Act.put_comm a undef vi p2']
          exact g2 hwj
      · rw [if_neg hw] at h
        obtain ⟨g1, g2⟩ := takeR hsel hj hk l1 l2 (a.put oi.dst undef) w hl' h
        rw [wanted_put oj a oi.dst undef p1] at g1 g2
        refine ⟨fun hwj => ?_, fun hwj => ?_⟩
        · have g := wp_apart (ops := ops) (Q := fun _ _ => False) sj p1 p2 (g1 hwj)
          refine Oper.wp_mono (fun a' w' hK => ?_) (wp_shape g)
          obtain ⟨⟨hE, hL⟩, hsh⟩ := hK
          refine ⟨hE, ?_⟩
          rw [wanted_shape p3 hsh, if_neg hw]
          exact hL
        · rw [wanted_put oi a oj.dst undef p3, if_neg hw, Act.put_comm a undef undef p2']
          exact g2 hwj

end main
end
end Go.Proofs.Ytjgnlnlngcjfcaa
