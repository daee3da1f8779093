/- Frames as functions, and a lemma for each operation. No condition. -/
import Derived.Test.YtjgnlnlngcjfcaaFwB
import Derived.IntWalk
namespace Go.Proofs.Ytjgnlnlngcjfcaa
open Go Go.RowKit

/-! ### Frames -/

def upd (ρ : Nat → Value) (d : Nat) (v : Value) : Nat → Value := fun i => cond (Nat.beq i d) v (ρ i)
def ini (l : List Value) : Nat → Value := fun i => l.getD i undef
def mk (N : Nat) (ρ : Nat → Value) : Act := ⟨((List.range N).map ρ).toArray, []⟩
def evF (N : Nat) (ρ : Nat → Value) : Operand → Value
  | .tmp t => cond (Nat.blt t N) (ρ t) undef
  | .const v => v
  | .global g => .pointer (some ⟨g, 0, none⟩)
  | .func f => .func (.func f) #[] #[]

theorem upd_same (ρ : Nat → Value) (d : Nat) (v : Value) : upd ρ d v d = v := by simp [upd]
theorem upd_ne (ρ : Nat → Value) {d i : Nat} (v : Value) (h : i ≠ d) : upd ρ d v i = ρ i := by
  have : Nat.beq i d = false := by
    cases hb : Nat.beq i d with
    | false => rfl
    | true => exact absurd (Nat.eq_of_beq_eq_true hb) h
  simp [upd, this]

theorem mk_eval (N : Nat) (ρ : Nat → Value) : (mk N ρ).eval = evF N ρ := by
  funext x
  cases x with
  | tmp t =>
    simp only [Act.eval, evF, mk]
    by_cases h : t < N
    · have : Nat.blt t N = true := by simpa using h
      simp [h, this]
    · have : Nat.blt t N = false := by
        cases hb : Nat.blt t N with
        | false => rfl
        | true => exact absurd (by simpa using hb) h
      simp [this, Nat.not_lt.1 h]
  | _ => rfl

theorem mk_put (N : Nat) (ρ : Nat → Value) (d : Nat) (v : Value) : (mk N ρ).put (some d) v = mk N (upd ρ d v) := by
  simp only [Act.put, mk, Act.mk.injEq, and_true]
  apply Array.ext
  · simp
  · intro i h1 h2
    simp at h1
    by_cases hi : i = d
    · subst hi; simp [upd_same]
    · simp [Ne.symm hi, upd_ne _ _ hi]

theorem mk_put_none (N : Nat) (ρ : Nat → Value) (v : Value) : (mk N ρ).put none v = mk N ρ := rfl

theorem mk_congr {N : Nat} {ρ ρ' : Nat → Value} (h : ∀ i, ρ i = ρ' i) : mk N ρ = mk N ρ' := by rw [show ρ = ρ' from funext h]

theorem calls_mk {P : Program} {f : FuncId} {fn : Func} {c : Code} {w : World} {R : Ending → World → Prop} (args : List Value) (N : Nat)
    (hf : P.funcs[f]? = some fn) (hb : fn.body = some c) (hN : fn.ntmps = N) (hl : args.length ≤ N)
    (h : c.wp P (bodyPost P fn R) (mk N (ini args)) w) : Calls P f args.toArray w R := by
  refine calls_of_wp hf hb ?_
  have : (mk N (ini args)) = { tmps := args.toArray ++ Array.replicate (fn.ntmps - args.toArray.size) undef, defers := [] } := by
    simp only [mk, Act.mk.injEq, and_true]
    apply Array.ext
    · simp; omega
    · intro i h1 h2
      simp at h1
      by_cases hi : i < args.length
      · simp [ini, hi]
      · simp [ini, hi, Array.getElem_append]
  rw [← this]; exact h

/-- The results of a function whose result variables are temporaries. -/
def resF (N : Nat) (ρ : Nat → Value) : List Nat → Value
  | [t] => evF N ρ (.tmp t)
  | ts => .tuple (ts.map fun t => evF N ρ (.tmp t)).toArray

theorem mk_getD (N : Nat) (ρ : Nat → Value) (t : Nat) : (mk N ρ).tmps.getD t undef = evF N ρ (.tmp t) := by
  rw [← mk_eval]; rfl

theorem run_results {P : Program} {fn : Func} {N : Nat} {ρ : Nat → Value} {w : World} (ts : List Nat) (hr : fn.results = (ts.map ResultVar.tmp).toArray) :
    (results fn (mk N ρ).tmps).run P w = .ok (resF N ρ ts) w := by
  have key : ∀ (l : List Nat), (((l.map ResultVar.tmp).mapM (m := Sem) fun
    | .tmp t => pure ((mk N ρ).tmps.getD t undef)
    | .cell a t => do loadVar t (← asAddr ((mk N ρ).tmps.getD a undef)))).run P w = .ok (l.map fun t => evF N ρ (.tmp t)) w := by
    intro l
    induction l with
    | nil => rfl
    | cons t l ih =>
      simp only [List.map_cons, List.mapM_cons, Sem.run_bind, Sem.run_pure, Result.andThen_ok, mk_getD] at ih ⊢
      rw [ih]
      rfl
  unfold results
  rw [hr]
  simp only [List.mapM_toArray, Sem.run_bind, Sem.run_map]
  refine (congrArg (fun r => (Result.andThen (Result.andThen r fun a w' => Result.ok a.toArray w') fun a w' => Result.ok (if h : a.size = 1 then a[0] else Value.tuple a) w')) (key ts)).trans ?_
  simp only [Result.andThen_ok]
  match ts with
  | [] => rfl
  | [t] => rfl
  | _ :: _ :: _ => rfl

theorem post_ret {P : Program} {fn : Func} {N : Nat} {ρ : Nat → Value} {w : World} {R : Ending → World → Prop} (ts : List Nat) (hr : fn.results = (ts.map ResultVar.tmp).toArray) (v : Value) (hv : resF N ρ ts = v)
    (h : R (.returned v) w) : bodyPost P fn R .ret (mk N ρ) w := ⟨rfl, v, by rw [← hv]; exact run_results ts hr, h⟩
theorem post_end {P : Program} {fn : Func} {N : Nat} {ρ : Nat → Value} {w : World} {R : Ending → World → Prop} (ts : List Nat) (hr : fn.results = (ts.map ResultVar.tmp).toArray) (v : Value) (hv : resF N ρ ts = v)
    (h : R (.returned v) w) : bodyPost P fn R .normal (mk N ρ) w := ⟨rfl, v, by rw [← hv]; exact run_results ts hr, h⟩

/-! ### Codes -/
section code
variable {P : Program} {N : Nat} {ρ : Nat → Value} {Q : Exit → Act → World → Prop} {w : World}

theorem c_cond_t {c : Operand} {x y : Code} (hc : evF N ρ c = .bool true) (h : x.wp P Q (mk N ρ) w) : (Code.cond c x y).wp P Q (mk N ρ) w :=
  wp_cond_true (by rw [mk_eval]; exact hc) h
theorem c_cond_f {c : Operand} {x y : Code} (hc : evF N ρ c = .bool false) (h : y.wp P Q (mk N ρ) w) : (Code.cond c x y).wp P Q (mk N ρ) w :=
  wp_cond_false (by rw [mk_eval]; exact hc) h

theorem c_exit_here {id : Nat} {a : Act} (h : Q .normal a w) : Exit.inBlock id Q (.exit id) a w := by
  simpa [Exit.inBlock] using h
theorem c_exit_out {id id' : Nat} {a : Act} (hne : Nat.beq id' id = false) (h : Q (.exit id') a w) : Exit.inBlock id Q (.exit id') a w := by
  have : id' ≠ id := fun e => by rw [e, Nat.beq_refl] at hne; cases hne
  simpa [Exit.inBlock, this] using h

theorem t_exit {id : Nat} {a : Act} {K : Act → World → Prop} (h : Q (.exit id) a w) : Exit.then K Q (.exit id) a w := h
theorem t_ret {a : Act} {K : Act → World → Prop} (h : Q .ret a w) : Exit.then K Q .ret a w := h
theorem b_ret {id : Nat} {a : Act} (h : Q .ret a w) : Exit.inBlock id Q .ret a w := h

/-- The frame where the slots of a list hold given values. -/
def over : List (Nat × Value) → (Nat → Value) → Nat → Value
  | [], ρ => ρ
  | (i, v) :: l, ρ => upd (over l ρ) i v
def agrees (ρ : Nat → Value) : List (Nat × Value) → Prop
  | [] => True
  | (i, v) :: l => ρ i = v ∧ agrees ρ l

theorem over_of_agrees {ρ : Nat → Value} : ∀ {l : List (Nat × Value)}, agrees ρ l → over l ρ = ρ
  | [], _ => rfl
  | (i, v) :: l, h => by
    simp only [over, over_of_agrees h.2]
    funext j
    by_cases hj : j = i
    · subst hj; rw [upd_same]; exact h.1.symm
    · rw [upd_ne _ _ hj]

/-- A LOOP: a state s for each round; 'fr s' the slots that count, 'I s' what holds of the world, 'm s' goes down. -/
theorem c_loop {S : Type} (fr : S → List (Nat × Value)) (I : S → World → Prop) (m : S → Nat) (s0 : S) {body : Code} (hfr : agrees ρ (fr s0)) (h0 : I s0 w)
    (round : ∀ s ρ w, I s w → body.wp P (Exit.then (fun a' w' => ∃ s' ρ', a' = mk N ρ' ∧ agrees ρ' (fr s') ∧ I s' w' ∧ m s' < m s) Q) (mk N (over (fr s) ρ)) w) :
    (Code.loop body).wp P Q (mk N ρ) w := by
  intro b k cs
  have key : ∀ n s ρ w, m s = n → agrees ρ (fr s) → I s w → ∃ e a' w', Q e a' w' ∧ Arrives P (lone (b.at (mk N ρ) (.code body :: .inLoop body :: k)) cs w) b k cs e a' w' := by
    intro n
    induction n using Nat.strongRecOn with
    | _ n ih =>
      intro s ρ w hn hfr hI
      have hr := round s ρ w hI
      rw [over_of_agrees hfr] at hr
      obtain ⟨e, a₁, w₁, hq, harr⟩ := hr b (.inLoop body :: k) cs
      cases e with
      | normal =>
        obtain ⟨s', ρ', rfl, hfr', hI', hlt⟩ := hq
        obtain ⟨e₂, a₂, w₂, hq₂, harr₂⟩ := ih (m s') (hn ▸ hlt) s' ρ' w₁ rfl hfr' hI'
        exact ⟨e₂, a₂, w₂, hq₂, .of_steps (Steps.trans harr (.one step_inLoop)) harr₂⟩
      | exit id => exact ⟨_, a₁, w₁, hq, .pass (x := .inLoop body) rfl (fun _ _ => .inl (by simp)) harr⟩
      | goto l => exact ⟨_, a₁, w₁, hq, .pass (x := .inLoop body) rfl (fun _ _ => .inl (by simp)) harr⟩
      | ret => exact ⟨_, a₁, w₁, hq, .pass (x := .inLoop body) rfl (fun _ _ => .inl (by simp)) harr⟩
      | panic ch => exact ⟨_, a₁, w₁, hq, .pass (x := .inLoop body) rfl (fun _ _ => .inl (by simp)) harr⟩
      | outgrown => exact ⟨_, a₁, w₁, hq, .pass (x := .inLoop body) rfl (fun _ _ => .inl (by simp)) harr⟩
  obtain ⟨e, a', w', hq, harr⟩ := key _ s0 ρ w rfl hfr h0
  exact ⟨e, a', w', hq, .of_steps (.one step_loop) harr⟩

/-- A CUT: the code comes to its normal end in one of the states of S, or to another end. -/
theorem c_cut {S : Type} (fr : S → List (Nat × Value)) (I : S → World → Prop) {c : Code} {K : Act → World → Prop} {Q' : Exit → Act → World → Prop}
    (h : c.wp P (Exit.then (fun a' w' => ∃ s' ρ', a' = mk N ρ' ∧ agrees ρ' (fr s') ∧ I s' w') Q') (mk N ρ) w)
    (hn : ∀ s ρ w, I s w → K (mk N (over (fr s) ρ)) w) : c.wp P (Exit.then K Q') (mk N ρ) w := by
  refine wp_mono h ?_
  intro e a w hh
  cases e with
  | normal =>
    obtain ⟨s, ρ', rfl, h1, h2⟩ := hh
    have := hn s ρ' w h2
    rw [over_of_agrees h1] at this
    exact this
  | _ => exact hh
end code

/-! ### Operations -/
section ops
variable {P : Program} {ops : Array Oper} {w0 : World} {Q : Act → World → Prop} {os : List Oper} {ks : List Nat} {N : Nat} {ρ : Nat → Value} {w : World}

/-- 'The operation comes up.' -/
abbrev Up (ops : Array Oper) (N : Nat) (ρ : Nat → Value) (o : Oper) : Prop := Region.wanted o (yielded ops (mk N ρ).tmps) = true

theorem up_none {d : Option Tmp} {op : Op} {ty : TypeId} {pos : String} {aft : Array Edge} : Up ops N ρ ⟨d, op, ty, pos, aft, none⟩ := rfl

theorem yielded_mk {j d : Nat} {b : Bool} (hd : (ops[j]?).bind (·.dst) = some d) (hlt : Nat.blt d N = true) (hv : ρ d = .bool b) : yielded ops (mk N ρ).tmps j = some b := by
  have h : d < N := by simpa using hlt
  unfold yielded
  rw [hd]
  simp [mk, h, hv]

theorem up_some {d : Option Tmp} {op : Op} {ty : TypeId} {pos : String} {aft : Array Edge} {j e : Nat} {b : Bool} (hd : (ops[j]?).bind (·.dst) = some e) (hlt : Nat.blt e N = true) (hv : ρ e = .bool b) :
    Up ops N ρ ⟨d, op, ty, pos, aft, some (j, b)⟩ := by
  unfold Up Region.wanted
  simp [yielded_mk hd hlt hv]

/-- An operation behind a guard that says no. -/
theorem lw_skip {d : Nat} {op : Op} {ty : TypeId} {pos : String} {aft : Array Edge} {j e k : Nat} {b c : Bool} (hd : (ops[j]?).bind (·.dst) = some e) (hlt : Nat.blt e N = true) (hv : ρ e = .bool c) (hne : (c == b) = false)
    (h : LW P ops w0 Q os ks (mk N (upd ρ d undef)) w) : LW P ops w0 Q (⟨some d, op, ty, pos, aft, some (j, b)⟩ :: os) (k :: ks) (mk N ρ) w := by
  simp only [LW]
  have hw : Region.wanted (⟨some d, op, ty, pos, aft, some (j, b)⟩ : Oper) (yielded ops (mk N ρ).tmps) = false := by
    unfold Region.wanted
    simp only [yielded_mk hd hlt hv]
    simpa using hne
  rw [hw, if_neg (by simp), mk_put]
  exact h

theorem lw_skip0 {op : Op} {ty : TypeId} {pos : String} {aft : Array Edge} {j e k : Nat} {b c : Bool} (hd : (ops[j]?).bind (·.dst) = some e) (hlt : Nat.blt e N = true) (hv : ρ e = .bool c) (hne : (c == b) = false)
    (h : LW P ops w0 Q os ks (mk N ρ) w) : LW P ops w0 Q (⟨none, op, ty, pos, aft, some (j, b)⟩ :: os) (k :: ks) (mk N ρ) w := by
  simp only [LW]
  have hw : Region.wanted (⟨none, op, ty, pos, aft, some (j, b)⟩ : Oper) (yielded ops (mk N ρ).tmps) = false := by
    unfold Region.wanted
    simp only [yielded_mk hd hlt hv]
    simpa using hne
  rw [hw, if_neg (by simp)]
  exact h

/-- A reading operation, whatever its kind. -/
theorem lw_q {o : Oper} {k d : Nat} (hk : k ≤ 2) (hd : o.dst = some d) (hu : Up ops N ρ o) (v : Value) (hr : ∀ w', Cl w0 w k w' → (execOp (evF N ρ) o).run P w' = .ok (.value v) w')
    (h : LW P ops w0 Q os ks (mk N (upd ρ d v)) w) : LW P ops w0 Q (o :: os) (k :: ks) (mk N ρ) w := by
  simp only [LW]
  rw [if_pos hu]
  unfold OneOp
  rw [if_pos hk]
  refine ⟨v, fun w' hc => .inl ?_, ?_⟩
  · rw [mk_eval]; exact hr w' hc
  · rw [hd, mk_put]; exact h

/-- A making operation. -/
theorem lw_r {o : Oper} {d : Nat} (hd : o.dst = some d) (hu : Up ops N ρ o)
    (v : Value) (w1 : World) (hr : (execOp (evF N ρ) o).run P w = .ok (.value v) w1) (hE : Ext w w1) (h : LW P ops w0 Q os ks (mk N (upd ρ d v)) w1) : LW P ops w0 Q (o :: os) (3 :: ks) (mk N ρ) w := by
  simp only [LW]
  rw [if_pos hu]
  unfold OneOp
  rw [if_neg (by decide), if_pos rfl]
  unfold Oper.wp
  rw [mk_eval, hr]
  show Ext w w1 ∧ LW P ops w0 Q os ks ((mk N ρ).put o.dst v) w1
  rw [hd, mk_put]
  exact ⟨hE, h⟩

/-- A writing operation with a value. -/
theorem lw_e {o : Oper} {d : Nat} (hd : o.dst = some d) (hu : Up ops N ρ o)
    (v : Value) (w1 : World) (hr : (execOp (evF N ρ) o).run P w = .ok (.value v) w1) (h : LW P ops w0 Q os ks (mk N (upd ρ d v)) w1) : LW P ops w0 Q (o :: os) (4 :: ks) (mk N ρ) w := by
  simp only [LW]
  rw [if_pos hu]
  unfold OneOp
  rw [if_neg (by decide), if_neg (by decide)]
  unfold Oper.wp
  rw [mk_eval, hr]
  show LW P ops w0 Q os ks ((mk N ρ).put o.dst v) w1
  rw [hd, mk_put]
  exact h

/-- A writing operation without a value. -/
theorem lw_s {o : Oper} (hd : o.dst = none) (hu : Up ops N ρ o)
    (w1 : World) (hr : (execOp (evF N ρ) o).run P w = .ok .skip w1) (h : LW P ops w0 Q os ks (mk N ρ) w1) : LW P ops w0 Q (o :: os) (4 :: ks) (mk N ρ) w := by
  simp only [LW]
  rw [if_pos hu]
  unfold OneOp
  rw [if_neg (by decide), if_neg (by decide)]
  unfold Oper.wp
  rw [mk_eval, hr]
  show LW P ops w0 Q os ks ((mk N ρ).put o.dst undef) w1
  rw [hd]
  exact h

/-! A call: of a function with a body. -/
theorem lw_call {d : Nat} {x : Operand} {xs : Array Operand} {ats : Array TypeId} {ty : TypeId} {pos : String} {aft : Array Edge} {g : Option (Nat × Bool)} (f : FuncId) (first cap : List Value) (args : List Value)
    (hx : evF N ρ x = .func (.func f) first.toArray cap.toArray) (hxs : first ++ (xs.toList.map (evF N ρ)) ++ cap = args) (hf : ((P.funcs[f]?).map fun fn => (fn.name != "runtime.NumGoroutine") && fn.body.isSome) = some true)
    (hu : Up ops N ρ ⟨some d, .call ⟨.value x, xs, ats⟩, ty, pos, aft, g⟩) {R : Ending → World → Prop} (hc : Calls P f args.toArray w R)
    (h : ∀ e w1, R e w1 → ∃ v, e = .returned v ∧ Ext w w1 ∧ LW P ops w0 Q os ks (mk N (upd ρ d v)) w1) :
    LW P ops w0 Q (⟨some d, .call ⟨.value x, xs, ats⟩, ty, pos, aft, g⟩ :: os) (3 :: ks) (mk N ρ) w := by
  simp only [LW]
  rw [if_pos hu]
  unfold OneOp
  rw [if_neg (by decide), if_pos rfl]
  unfold Oper.wp
  rw [mk_eval]
  have hrun : (execOp (evF N ρ) ⟨some d, .call ⟨.value x, xs, ats⟩, ty, pos, aft, g⟩).run P w = .ok (.enter f args.toArray) w := by
    obtain ⟨fn, hfn, hb⟩ := Option.map_eq_some_iff.1 hf
    simp only [Bool.and_eq_true, bne_iff_ne, ne_eq] at hb
    have hargs : first.toArray ++ xs.map (evF N ρ) ++ cap.toArray = args.toArray := by
      rw [← hxs]; apply Array.ext'; simp
    obtain ⟨c, hbc⟩ := Option.isSome_iff_exists.1 hb.2
    have hcf : (callFunc f args.toArray).run P w = .ok (.enter f args.toArray) w := by
      simp [callFunc, hfn, hb.1, hbc]
    simp [execOp, resolve, hargs, hx, Deferred.ofValue, invoke, hcf]
  rw [hrun]
  refine Calls.mono hc (fun e w1 he => ?_)
  obtain ⟨v, rfl, hE, hL⟩ := h e w1 he
  show Ext w w1 ∧ LW P ops w0 Q os ks ((mk N ρ).put (some d) v) w1
  rw [mk_put]
  exact ⟨hE, hL⟩

/-- A call that leaves the world as it is. -/
theorem lw_callq {d : Nat} {x : Operand} {xs : Array Operand} {ats : Array TypeId} {ty : TypeId} {pos : String} {aft : Array Edge} {g : Option (Nat × Bool)} (f : FuncId) (first cap : List Value) (args : List Value)
    (hx : evF N ρ x = .func (.func f) first.toArray cap.toArray) (hxs : first ++ (xs.toList.map (evF N ρ)) ++ cap = args) (hf : ((P.funcs[f]?).map fun fn => (fn.name != "runtime.NumGoroutine") && fn.body.isSome) = some true)
    (hu : Up ops N ρ ⟨some d, .call ⟨.value x, xs, ats⟩, ty, pos, aft, g⟩) (v : Value) (hc : ∀ w', Calls P f args.toArray w' (fun e w'' => e = .returned v ∧ w'' = w'))
    (h : LW P ops w0 Q os ks (mk N (upd ρ d v)) w) :
    LW P ops w0 Q (⟨some d, .call ⟨.value x, xs, ats⟩, ty, pos, aft, g⟩ :: os) (0 :: ks) (mk N ρ) w := by
  simp only [LW]
  rw [if_pos hu]
  unfold OneOp
  rw [if_pos (by decide)]
  have hrun : ∀ w, (execOp (evF N ρ) ⟨some d, .call ⟨.value x, xs, ats⟩, ty, pos, aft, g⟩).run P w = .ok (.enter f args.toArray) w := by
    intro w
    obtain ⟨fn, hfn, hb⟩ := Option.map_eq_some_iff.1 hf
    simp only [Bool.and_eq_true, bne_iff_ne, ne_eq] at hb
    have hargs : first.toArray ++ xs.map (evF N ρ) ++ cap.toArray = args.toArray := by
      rw [← hxs]; apply Array.ext'; simp
    obtain ⟨c, hbc⟩ := Option.isSome_iff_exists.1 hb.2
    have hcf : (callFunc f args.toArray).run P w = .ok (.enter f args.toArray) w := by
      simp [callFunc, hfn, hb.1, hbc]
    simp [execOp, resolve, hargs, hx, Deferred.ofValue, invoke, hcf]
  refine ⟨v, fun w' _ => .inr (.inr ⟨f, args.toArray, ?_, hc w'⟩), ?_⟩
  · rw [mk_eval]; exact hrun w'
  · show LW P ops w0 Q os ks ((mk N ρ).put (some d) v) w
    rw [mk_put]; exact h

end ops

theorem wp_scope1 {P : Program} {c : Code} {Q : Exit → Act → World → Prop} {a : Act} {w : World} (h : c.wp P Q a w) : c.wp P Q a w := h

/-- So many rounds. -/
def it {σ : Type} (f : Nat → σ → σ) : Nat → σ → σ
  | 0, s => s
  | k + 1, s => f k (it f k s)
def wr (x : Int) : Int := IntKind.i64.wrap x
theorem wr_rng (x : Int) : -9223372036854775808 ≤ wr x ∧ wr x ≤ 9223372036854775807 := by
  unfold wr; rw [IntKind.wrap_i64]; omega
theorem mod_rng (x : Int) : -9223372036854775808 ≤ x.tmod 1000003 ∧ x.tmod 1000003 ≤ 9223372036854775807 := by
  have h1 := Int.tmod_lt_of_pos x (show (0 : Int) < 1000003 by omega)
  have h2 := Int.lt_tmod_of_pos x (show (0 : Int) < 1000003 by omega)
  omega
end Go.Proofs.Ytjgnlnlngcjfcaa
