/- Gg, Gj, Gk, Gh, Gl, Gm, Gn, T, Sa, Mr, Sb, Sf, Sk, Sx, Sv, Sw, Ve: texts of this claim, joined; what the claim does not come to is left out. -/
import Derived.Test.YtnokbaiemimhjaaQB2
import Derived.Test.YtnokbaiemimhjaaProg
set_option linter.unusedVariables false
set_option linter.unusedSimpArgs false
namespace Go.Proofs.Ytnokbaiemimhjaa
open Go Go.RowKit
set_option linter.unusedVariables false
set_option linter.unusedSimpArgs false
/-- A value after d steps, or a code after d steps; beyond 3000 steps the code 7. -/
def Shf {α : Type} (f : Nat → Rs α) (r : Rs α) (d : Nat) : Prop := ∀ s, s ≤ 3000 → f s = if s + d ≤ 3000 then (match r with | .ok x _ => .ok x (s + d) | .err c => .err c) else .err 7
def Shift {α : Type} (f : Nat → Rs α) : Prop := ∃ r d, Shf f r d
theorem Shf.ok {α : Type} {f : Nat → Rs α} {x : α} {t d : Nat} (h : Shf f (.ok x t) d) {s : Nat} (hs : s ≤ 3000) : f s = if s + d ≤ 3000 then .ok x (s + d) else .err 7 := h s hs
theorem Shf.bind_err {α β : Type} {f : Nat → Rs α} {c : Int} {d : Nat} (h : Shf f (.err c) d) (g : α → Nat → Rs β) : Shf (fun s => (f s).bind g) (.err c) d := by
  intro s hs
  show (f s).bind g = _
  rw [h s hs]
  split <;> rfl
theorem Shf.bind_ok {α β : Type} {f : Nat → Rs α} {x : α} {t d : Nat} (h : Shf f (.ok x t) d) {g : α → Nat → Rs β} {r : Rs β} {e : Nat} (hg : Shf (g x) r e) : Shf (fun s => (f s).bind g) r (d + e) := by
  intro s hs
  show (f s).bind g = _
  rw [h s hs]
  by_cases h1 : s + d ≤ 3000
  · rw [if_pos h1]
    show g x (s + d) = _
    rw [hg (s + d) h1]
    by_cases h2 : s + d + e ≤ 3000
    · rw [if_pos h2, if_pos (by omega), show s + d + e = s + (d + e) from by omega]
    · rw [if_neg h2, if_neg (by omega)]
  · rw [if_neg h1, if_neg (by omega)]; rfl
theorem Shift.bind {α β : Type} {f : Nat → Rs α} (h : Shift f) {g : α → Nat → Rs β} (hg : ∀ x, Shift (g x)) : Shift (fun s => (f s).bind g) := by
  obtain ⟨r, d, h⟩ := h
  cases r with
  | err c => exact ⟨_, _, h.bind_err g⟩
  | ok x t =>
    obtain ⟨r', e, h'⟩ := hg x
    exact ⟨_, _, h.bind_ok h'⟩
theorem Shf.one {α : Type} {f : Nat → Rs α} {r : Rs α} {d : Nat} (h : Shf f r d) : Shf (fun s => if 3000 ≤ s then .err 7 else f (s + 1)) r (1 + d) := by
  intro s hs
  show (if 3000 ≤ s then _ else _) = _
  by_cases h1 : 3000 ≤ s
  · rw [if_pos h1, if_neg (by omega)]
  · rw [if_neg h1, h (s + 1) (by omega)]
    by_cases h2 : s + 1 + d ≤ 3000
    · rw [if_pos h2, if_pos (by omega), show s + 1 + d = s + (1 + d) from by omega]
    · rw [if_neg h2, if_neg (by omega)]
theorem Shift.one {α : Type} {f : Nat → Rs α} (h : Shift f) : Shift (fun s => if 3000 ≤ s then .err 7 else f (s + 1)) := by
  obtain ⟨r, d, h⟩ := h
  exact ⟨_, _, h.one⟩
theorem Shf.ret {α : Type} (x : α) : Shf (fun s => Rs.ok x s) (.ok x 0) 0 := fun s hs => by rw [if_pos (by omega)]; rfl
theorem Shift.ret {α : Type} (x : α) : Shift (fun s => Rs.ok x s) := ⟨_, _, Shf.ret x⟩
theorem Shift.fail {α : Type} (c : Int) : Shift (fun _ => (Rs.err c : Rs α)) := ⟨.err c, 0, fun s hs => by rw [if_pos (by omega)]⟩
theorem Shift.lop {f : List Sr → Nat → Rs (List Sr)} (hf : ∀ a, Shift (f a)) : ∀ (k : Nat) (a : List Sr), Shift (lop f k a)
  | 0, a => Shift.ret a
  | k + 1, a => (Shift.lop hf k a).bind hf
theorem Shift.opV (k : Int) (xs : List Sr) : Shift (opV k xs) := by
  unfold Go.Proofs.Ytnokbaiemimhjaa.opV
  by_cases h3 : k = 3
  · simp only [h3, if_true]; exact Shift.ret _
  · by_cases h4 : k = 4
    · simp only [h4]; exact Shift.ret _
    · by_cases h5 : k = 5
      · simp only [h5]; exact Shift.ret _
      · by_cases h7 : k = 7
        · simp only [h7]; exact Shift.ret _
        · simp only [if_neg h3, if_neg h4, if_neg h5, if_neg h7]
          by_cases h : (xs.getD 1 []).getD 0 0 = 0
          · simp only [h, if_true]; exact Shift.fail 6
          · simp only [if_neg h]; exact Shift.ret _
/-- An evaluation behind its own step. -/
def bodyE (n : Nat) (C : Ca) (e : Ex) (env : List Sr) (t : Nat) : Rs Sr :=
  if e.kind = 1 then Rs.ok (cst n e.num) t
        else if e.kind = 2 then .ok (env.getD e.num.toNat []) t
        else if e.kind = 8 then (evK n C e.kids 0 env t).bind fun x t => if x.getD 0 0 = 0 then evK n C e.kids 1 env t else evK n C e.kids 2 env t
        else if e.kind = 9 then (evK n C e.kids 0 env t).bind fun x t => evK n C e.kids 1 (env ++ [x]) t
        else (evs n C e.kids env t).bind fun xs t =>
          if e.kind = 10 then C.one e.num.toNat e.pick.toNat xs t
          else if e.kind = 11 then (lop (C.all e.num.toNat) e.count.toNat xs t).bind fun ys u => .ok (ys.getD e.pick.toNat []) u
          else opV e.kind xs t
section
variable {n : Nat} {C : Ca}
theorem evs_shift {env : List Sr} : ∀ (l : List Ex), (∀ e ∈ l, Shift (evE n C e env)) → Shift (evs n C l env)
  | [], _ => by
    have : evs n C [] env = fun s => Rs.ok [] s := funext fun s => by rw [evs]
    rw [this]; exact Shift.ret _
  | e :: l, h => by
    have : evs n C (e :: l) env = fun s => (evE n C e env s).bind fun x t => (evs n C l env t).bind fun xs u => .ok (x :: xs) u := funext fun s => by rw [evs]
    rw [this]
    exact (h e (List.mem_cons_self ..)).bind fun x => (evs_shift l fun e he => h e (List.mem_cons_of_mem _ he)).bind fun xs => Shift.ret _
theorem evK_shift {env : List Sr} : ∀ (l : List Ex) (j : Nat), (∀ e ∈ l, Shift (evE n C e env)) → Shift (evK n C l j env)
  | [], j, _ => by
    have : evK n C [] j env = fun s => Rs.err 0 := funext fun s => by rw [evK]
    rw [this]; exact Shift.fail 0
  | e :: l, 0, h => by
    have : evK n C (e :: l) 0 env = evE n C e env := funext fun s => by rw [evK]
    rw [this]; exact h e (List.mem_cons_self ..)
  | e :: l, j + 1, h => by
    have : evK n C (e :: l) (j + 1) env = evK n C l j env := funext fun s => by rw [evK]
    rw [this]; exact evK_shift l j fun e he => h e (List.mem_cons_of_mem _ he)
theorem evE_shift (h1 : ∀ f j a, Shift (C.one f j a)) (h2 : ∀ f a, Shift (C.all f a)) : ∀ (z : Nat) (e : Ex), e.size ≤ z → ∀ env, Shift (evE n C e env) := by
  intro z
  induction z with
  | zero => intro e he; have := size_kids e; omega
  | succ z ih =>
    intro e he env
    have hk : ∀ env, ∀ x ∈ e.kids, Shift (evE n C x env) := fun env x hx => by
      obtain ⟨k, hk, rfl⟩ := List.mem_iff_getElem.1 hx
      have h3 := sizes_at (l := e.kids) (k := k) hk
      have h4 := size_kids e
      rw [List.getD_eq_getElem?_getD, List.getElem?_eq_getElem hk, Option.getD_some] at h3
      exact ih _ (by omega) env
    have hE : evE n C e env = fun s => if 3000 ≤ s then .err 7 else bodyE n C e env (s + 1) := funext fun s => evE_eq n C e env s
    rw [hE]
    refine Shift.one (f := bodyE n C e env) ?_
    unfold bodyE
    by_cases k1 : e.kind = 1
    · simp only [if_pos k1]; exact Shift.ret _
    simp only [if_neg k1]
    by_cases k2 : e.kind = 2
    · simp only [if_pos k2]; exact Shift.ret _
    simp only [if_neg k2]
    by_cases k8 : e.kind = 8
    · simp only [if_pos k8]
      refine (evK_shift _ _ (hk env)).bind fun x => ?_
      by_cases hx : x.getD 0 0 = 0
      · simp only [if_pos hx]; exact evK_shift _ _ (hk env)
      · simp only [if_neg hx]; exact evK_shift _ _ (hk env)
    simp only [if_neg k8]
    by_cases k9 : e.kind = 9
    · simp only [if_pos k9]
      exact (evK_shift _ _ (hk env)).bind fun x => evK_shift _ _ (hk _)
    simp only [if_neg k9]
    refine (evs_shift _ (hk env)).bind fun xs => ?_
    by_cases k10 : e.kind = 10
    · simp only [if_pos k10]; exact h1 _ _ _
    simp only [if_neg k10]
    by_cases k11 : e.kind = 11
    · simp only [if_pos k11]
      exact (Shift.lop (h2 _) _ _).bind fun ys => Shift.ret _
    simp only [if_neg k11]
    exact Shift.opV _ _
end
theorem evC_shift (p : List Fn) (n : Nat) : ∀ F, (∀ f j a, Shift ((evC p n F).one f j a)) ∧ ∀ f a, Shift ((evC p n F).all f a)
  | 0 => ⟨fun _ _ _ => Shift.fail 0, fun _ _ => Shift.fail 0⟩
  | F + 1 => by
    obtain ⟨h1, h2⟩ := evC_shift p n F
    refine ⟨fun f j a => ?_, fun f a => ?_⟩
    · show Shift (fun s => if f = F then _ else _)
      by_cases e : f = F
      · simp only [if_pos e]; exact evE_shift h1 h2 _ _ (Nat.le_refl _) _
      · simp only [if_neg e]; exact h1 f j a
    · show Shift (fun s => if f = F then _ else _)
      by_cases e : f = F
      · simp only [if_pos e]; exact evs_shift _ fun x hx => evE_shift h1 h2 _ _ (Nat.le_refl _) _
      · simp only [if_neg e]; exact h2 f a
theorem outE_shift (p : List Fn) (n F : Nat) (e : Ex) (env : List Sr) : Shift (evE n (evC p n F) e env) := evE_shift (evC_shift p n F).1 (evC_shift p n F).2 _ _ (Nat.le_refl _) _
/-- The functions before do not see what is behind. -/
theorem evC_app (p r : List Fn) (n : Nat) : ∀ F, F ≤ p.length → evC (p ++ r) n F = evC p n F
  | 0, _ => rfl
  | F + 1, h => by
    have h1 := evC_app p r n F (by omega)
    have h2 : (p ++ r).getD F Fn.zero = p.getD F Fn.zero := gd_l (by omega)
    show (⟨_, _⟩ : Ca) = ⟨_, _⟩
    rw [h1, h2]
/-- So many variables asq kids. -/
def varL (i : Nat) : Nat → List Ex
  | 0 => []
  | r + 1 => .mk 2 ((i : Nat) : Int) 0 0 [] :: varL (i + 1) r
theorem varL_len : ∀ (r i : Nat), (varL i r).length = r
  | 0, _ => rfl
  | r + 1, i => by show (varL (i + 1) r).length + 1 = _; rw [varL_len r]
theorem varL_snoc : ∀ (r i : Nat), varL i (r + 1) = varL i r ++ [.mk 2 ((i + r : Nat) : Int) 0 0 []]
  | 0, i => rfl
  | r + 1, i => by
    show _ :: varL (i + 1) (r + 1) = _ :: varL (i + 1) r ++ _
    rw [varL_snoc r (i + 1), show i + 1 + r = i + (r + 1) from by omega]; rfl
theorem evs_vars {n : Nat} {C : Ca} {env : List Sr} : ∀ (r i : Nat), i + r ≤ env.length → Shf (evs n C (varL i r) env) (.ok ((env.drop i).take r) 0) r
  | 0, i, h => by
    intro s hs
    show evs n C [] env s = _
    rw [evs, if_pos (by omega)]; rfl
  | r + 1, i, h => by
    have hv : evE n C (.mk 2 ((i : Nat) : Int) 0 0 []) env = fun s => if 3000 ≤ s then .err 7 else (fun t => Rs.ok (env.getD i []) t) (s + 1) := funext fun s => by
      rw [evE_eq]
      show (if 3000 ≤ s then _ else _) = _
      simp [Ex.kind, Ex.num]
    have he : evs n C (varL i (r + 1)) env = fun s => (evE n C (.mk 2 ((i : Nat) : Int) 0 0 []) env s).bind fun x t => (evs n C (varL (i + 1) r) env t).bind fun xs u => .ok (x :: xs) u := funext fun s => by
      show evs n C (_ :: varL (i + 1) r) env s = _
      rw [evs]
    rw [he, hv]
    have h1 := Shf.one (f := fun t => Rs.ok (env.getD i []) t) (Shf.ret (env.getD i []))
    have h2 := evs_vars (n := n) (C := C) (env := env) r (i + 1) (by omega)
    have h3 := h1.bind_ok (g := fun x t => (evs n C (varL (i + 1) r) env t).bind fun xs u => .ok (x :: xs) u) (h2.bind_ok (g := fun xs u => .ok (env.getD i [] :: xs) u) (Shf.ret _))
    have e1 : (env.drop i).take (r + 1) = env.getD i [] :: (env.drop (i + 1)).take r := by
      rw [List.drop_eq_getElem_cons (by omega), List.take_succ_cons, List.getD_eq_getElem?_getD, List.getElem?_eq_getElem (by omega), Option.getD_some]
    rw [e1]
    intro s hs
    rw [h3 s hs, show 1 + 0 + (r + 0) = r + 1 from by omega]
def callL (f m : Nat) (i : Nat) : Nat → List Ex
  | 0 => []
  | r + 1 => .mk 10 ((f : Nat) : Int) ((i : Nat) : Int) 0 (varL 0 m) :: callL f m (i + 1) r
theorem callL_len (f m : Nat) : ∀ (r i : Nat), (callL f m i r).length = r
  | 0, _ => rfl
  | r + 1, i => by show (callL f m (i + 1) r).length + 1 = _; rw [callL_len f m r]
theorem callL_snoc (f m : Nat) : ∀ (r i : Nat), callL f m i (r + 1) = callL f m i r ++ [.mk 10 ((f : Nat) : Int) ((i + r : Nat) : Int) 0 (varL 0 m)]
  | 0, i => rfl
  | r + 1, i => by
    show _ :: callL f m (i + 1) (r + 1) = _ :: callL f m (i + 1) r ++ _
    rw [callL_snoc f m r (i + 1), show i + 1 + r = i + (r + 1) from by omega]; rfl
section
variable {n : Nat} {C D : Ca} {env : List Sr} {f m : Nat}
theorem call_shf {j d : Nat} {r : Rs Sr} (hm : env.length = m) (h : Shf (C.one f j env) r d) : Shf (evE n C (.mk 10 ((f : Nat) : Int) ((j : Nat) : Int) 0 (varL 0 m)) env) r (1 + (m + d)) := by
  have hE : evE n C (.mk 10 ((f : Nat) : Int) ((j : Nat) : Int) 0 (varL 0 m)) env = fun s => if 3000 ≤ s then .err 7 else (fun t => (evs n C (varL 0 m) env t).bind fun xs u => C.one f j xs u) (s + 1) := funext fun s => by
    rw [evE_eq]; simp [Ex.kind, Ex.num, Ex.pick, Ex.kids]
  rw [hE]
  have hv := evs_vars (n := n) (C := C) (env := env) m 0 (by omega)
  rw [List.drop_zero, List.take_of_length_le (by omega)] at hv
  exact Shf.one (f := fun t => (evs n C (varL 0 m) env t).bind fun xs u => C.one f j xs u) (hv.bind_ok (g := fun xs u => C.one f j xs u) h)
/-- All calls, beside the outputs themselves. -/
theorem calls_shf (hm : env.length = m) (hD : ∀ e, Shift (evE n D e env)) : ∀ (l : List Ex) (i : Nat), (∀ j, j < l.length → C.one f (i + j) env = evE n D (l.getD j Ex.zero) env) →
    ∃ (r : Rs (List Sr)) (d e : Nat), Shf (evs n D l env) r d ∧ Shf (evs n C (callL f m i l.length) env) r e ∧ d ≤ e ∧ ∀ x t, r = .ok x t → e = d + l.length * (1 + m)
  | [], i, _ => by
    have h : ∀ G : Ca, evs n G [] env = fun s => Rs.ok [] s := fun G => funext fun s => by rw [evs]
    refine ⟨.ok [] 0, 0, 0, by rw [h]; exact Shf.ret _, ?_, Nat.le_refl _, fun _ _ _ => by simp⟩
    show Shf (evs n C [] env) _ _
    rw [h]; exact Shf.ret _
  | a :: l, i, hl => by
    obtain ⟨r, d, e, h1, h2, h3, h4⟩ := calls_shf hm hD l (i + 1) fun j hj => by
      have := hl (j + 1) (by simpa using hj)
      rw [show i + 1 + j = i + (j + 1) from by omega, this]; simp
    obtain ⟨ra, da, ha⟩ := hD a
    have hc0 : C.one f i env = evE n D a env := by simpa using hl 0 (by simp)
    have hc := call_shf (n := n) (C := C) (j := i) hm (by rw [hc0]; exact ha)
    have e1 : evs n D (a :: l) env = fun s => (evE n D a env s).bind fun x t => (evs n D l env t).bind fun xs u => .ok (x :: xs) u := funext fun s => by rw [evs]
    have e2 : evs n C (callL f m i (a :: l).length) env = fun s => (evE n C (.mk 10 ((f : Nat) : Int) ((i : Nat) : Int) 0 (varL 0 m)) env s).bind fun x t => (evs n C (callL f m (i + 1) l.length) env t).bind fun xs u => .ok (x :: xs) u := funext fun s => by
      show evs n C (_ :: callL f m (i + 1) l.length) env s = _
      rw [evs]
    rw [e1, e2]
    cases ra with
    | err c => exact ⟨.err c, da, 1 + (m + da), ha.bind_err _, hc.bind_err _, by omega, fun _ _ hh => by cases hh⟩
    | ok x t =>
      cases r with
      | err c =>
        exact ⟨.err c, da + d, 1 + (m + da) + e, ha.bind_ok (h1.bind_err _), hc.bind_ok (h2.bind_err _), by omega, fun _ _ hh => by cases hh⟩
      | ok xs u =>
        have hk := h4 xs u rfl
        refine ⟨.ok (x :: xs) 0, da + (d + 0), 1 + (m + da) + (e + 0), ha.bind_ok (h1.bind_ok (Shf.ret _)), hc.bind_ok (h2.bind_ok (Shf.ret _)), by omega, fun _ _ _ => ?_⟩
        rw [List.length_cons, Nat.succ_mul]; omega
end
/-- The outputs of a function, asq calls see them. -/
theorem one_at {p r : List Fn} {n f j F : Nat} {env : List Sr} (hf : f < F) (hp : f < p.length) : (evC (p ++ r) n F).one f j env = evE n (evC p n f) ((p.getD f Fn.zero).outs.getD j Ex.zero) env := funext fun s => by
  rw [evC_one hf, evC_app p r n f (by omega), gd_l hp]
/-- What calls of all outputs come to. -/
theorem calls_law {p : List Fn} {g : Fn} {n f m : Nat} {a : List Sr} (hf : f < p.length) (hm : a.length = m) (hg : g.outs = callL f m 0 (p.getD f Fn.zero).outs.length) :
    (∀ y t, ev p n f a = .ok y t → ev (p ++ [g]) n p.length a = if t + (p.getD f Fn.zero).outs.length * (1 + m) ≤ 3000 then .ok y (t + (p.getD f Fn.zero).outs.length * (1 + m)) else .err 7) ∧
    (∀ c, ev p n f a = .err c → ev (p ++ [g]) n p.length a = .err c ∨ ev (p ++ [g]) n p.length a = .err 7) := by
  obtain ⟨r, d, e, h1, h2, h3, h4⟩ := calls_shf (n := n) (C := evC (p ++ [g]) n p.length) (D := evC p n f) (f := f) hm (fun e => outE_shift p n f e a) (p.getD f Fn.zero).outs 0 fun j hj => by rw [Nat.zero_add]; exact one_at hf hf
  have q1 : ev p n f a = evs n (evC p n f) (p.getD f Fn.zero).outs a 0 := rfl
  have q2 : ev (p ++ [g]) n p.length a = evs n (evC (p ++ [g]) n p.length) (callL f m 0 (p.getD f Fn.zero).outs.length) a 0 := by
    unfold ev
    rw [gd_r rfl, hg]
  rw [q1, q2, h1 0 (by omega), h2 0 (by omega)]
  refine ⟨fun y t hy => ?_, fun c hc => ?_⟩
  · by_cases hd : 0 + d ≤ 3000
    · rw [if_pos hd] at hy
      cases r with
      | err c => cases hy
      | ok x u =>
        simp only [Rs.ok.injEq] at hy
        obtain ⟨rfl, rfl⟩ := hy
        have := h4 x u rfl
        rw [this, show 0 + (d + (p.getD f Fn.zero).outs.length * (1 + m)) = 0 + d + (p.getD f Fn.zero).outs.length * (1 + m) from by omega]
    · rw [if_neg hd] at hy; cases hy
  · by_cases hd : 0 + d ≤ 3000
    · rw [if_pos hd] at hc
      cases r with
      | ok x u => cases hc
      | err c' =>
        simp only [Rs.err.injEq] at hc
        subst hc
        by_cases he : 0 + e ≤ 3000
        · rw [if_pos he]; exact .inl rfl
        · rw [if_neg he]; exact .inr rfl
    · rw [if_neg hd] at hc
      rw [if_neg (by omega)]; exact .inr rfl
/-- The code of a program, a function and numbers. -/
def arC (p : List Fn) (f : Int) (a : Sr) : Int := if isF p f = 0 then (if (decide (((a.length : Nat) : Int) = (p.getD f.toNat Fn.zero).params) && allN a) = true then 0 else 2) else isF p f
def euC (p : List Fn) (f : Int) (a : Sr) : Int := if arC p f a = 0 then nxC p f.toNat a else arC p f a
def euR (p : List Fn) (f : Int) (a : Sr) : Sr := if arC p f a = 0 then nxR p f.toNat a else []
def euT (p : List Fn) (f : Int) (a : Sr) : Nat := if arC p f a = 0 then evT p 1 f.toNat (sing a) else 0
section
variable {p : List Fn} {f : Int} {a : Sr}
theorem arC_rng (p : List Fn) (f : Int) (a : Sr) : 0 ≤ arC p f a ∧ arC p f a ≤ 2 := by
  have := isF_rng p f
  unfold arC; split <;> (try split) <;> omega
theorem arC_0 (h : arC p f a = 0) : okP p = true ∧ (0 ≤ f ∧ f < ((p.length : Nat) : Int)) ∧ ((a.length : Nat) : Int) = (p.getD f.toNat Fn.zero).params ∧ allN a = true := by
  unfold arC at h
  split at h
  · rename_i h1
    split at h
    · rename_i h2
      rw [Bool.and_eq_true, decide_eq_true_eq] at h2
      obtain ⟨q1, q2, q3⟩ := isF_0 h1
      exact ⟨q1, ⟨q2, q3⟩, h2.1, h2.2⟩
    · omega
  · rename_i h1; exact absurd h h1
theorem ar_n (h : isF p f ≠ 0) : isF p f = arC p f a := by unfold arC; rw [if_neg h]
theorem ar_2 (h : isF p f = 0) (h2 : (decide (((a.length : Nat) : Int) = (p.getD f.toNat Fn.zero).params) && allN a) = false) : 2 = arC p f a := by unfold arC; rw [if_pos h, h2]; rfl
theorem ar_0 (h : isF p f = 0) (h2 : (decide (((a.length : Nat) : Int) = (p.getD f.toNat Fn.zero).params) && allN a) = true) : 0 = arC p f a := by unfold arC; rw [if_pos h, h2]; rfl
theorem euC_n (h : arC p f a ≠ 0) : euC p f a = arC p f a := if_neg h
theorem euR_n (h : arC p f a ≠ 0) : euR p f a = [] := if_neg h
theorem euT_n (h : arC p f a ≠ 0) : euT p f a = 0 := if_neg h
theorem euC_0 (h : arC p f a = 0) : euC p f a = nxC p f.toNat a := if_pos h
theorem euR_0 (h : arC p f a = 0) : euR p f a = nxR p f.toNat a := if_pos h
theorem euT_0 (h : arC p f a = 0) : euT p f a = evT p 1 f.toNat (sing a) := if_pos h
/-- What is known of an evaluation. -/
structure EuP (p : List Fn) (f : Int) (a : Sr) : Prop where
  code : 0 ≤ euC p f a ∧ euC p f a ≤ 9
  steps : euT p f a ≤ 3000
  num : allN (euR p f a) = true
  bnd : (euR p f a).length ≤ 12
theorem EuP.all (p : List Fn) (f : Int) (a : Sr) : EuP p f a := by
  by_cases h : arC p f a = 0
  · obtain ⟨h1, h2, h3, h4⟩ := arC_0 h
    have hv := okP_vpr h1
    have he := ev_P hv (n := 1) (f := f.toNat) (a := sing a) (by omega) (sing_ser h4) (by unfold sing; rw [List.length_map]; exact h3)
    have hn := NxP.mk' he
    refine ⟨by rw [euC_0 h]; exact hn.code, by rw [euT_0 h]; exact he.steps, by rw [euR_0 h]; exact hn.num, ?_⟩
    rw [euR_0 h]
    by_cases hc : nxC p f.toNat a = 0
    · have := hv.outs f.toNat (by omega)
      rw [hn.len hc]; omega
    · rw [hn.non hc]; simp
  · have := arC_rng p f a
    exact ⟨by rw [euC_n h]; omega, by rw [euT_n h]; omega, by rw [euR_n h]; rfl, by rw [euR_n h]; simp⟩
end
end Go.Proofs.Ytnokbaiemimhjaa
namespace Go.Proofs.Ytnokbaiemimhjaa
open Go Go.RowKit
set_option linter.unusedVariables false
set_option linter.unusedSimpArgs false
/-- All runs come to related values after the same steps, or to the same code. -/
def RRs {α : Type} (K : Nat) (R : (Nat → α) → α → Prop) (r : Nat → Rs α) (rz : Rs α) : Prop := match rz with
  | .ok z t => ∃ x, (∀ k, k < K → r k = .ok (x k) t) ∧ R x z
  | .err c => ∀ k, k < K → r k = .err c
theorem RRs.congr {α : Type} {K : Nat} {R : (Nat → α) → α → Prop} {r r' : Nat → Rs α} {rz : Rs α} (h : RRs K R r rz) (e : ∀ k, k < K → r' k = r k) : RRs K R r' rz := by
  cases rz with
  | ok z t => obtain ⟨x, h1, h2⟩ := h; exact ⟨x, fun k hk => (e k hk).trans (h1 k hk), h2⟩
  | err c => exact fun k hk => (e k hk).trans (h k hk)
theorem RRs.bind {α β : Type} {K : Nat} {R : (Nat → α) → α → Prop} {R' : (Nat → β) → β → Prop} {r : Nat → Rs α} {rz : Rs α} {g : Nat → α → Nat → Rs β} {gz : α → Nat → Rs β} (h : RRs K R r rz)
    (hg : ∀ x z t, R x z → RRs K R' (fun k => g k (x k) t) (gz z t)) : RRs K R' (fun k => (r k).bind (g k)) (rz.bind gz) := by
  cases rz with
  | ok z t =>
    obtain ⟨x, h1, h2⟩ := h
    exact (hg x z t h2).congr fun k hk => by rw [h1 k hk]; rfl
  | err c => exact fun k hk => by show (r k).bind _ = _; rw [h k hk]; rfl
theorem RRs.ret {α : Type} {K : Nat} {R : (Nat → α) → α → Prop} {x : Nat → α} {z : α} {t : Nat} (h : R x z) : RRs K R (fun k => .ok (x k) t) (.ok z t) := ⟨x, fun _ _ => rfl, h⟩
theorem RRs.fail {α : Type} {K : Nat} {R : (Nat → α) → α → Prop} {c : Int} : RRs K R (fun _ => .err c) (.err c) := fun _ _ => rfl
/-- A relation between series that all operations keep. -/
structure OpR (K : Nat) (n : Nat → Nat) (nz : Nat) (R : (Nat → Sr) → Sr → Prop) : Prop where
  zero : ∀ x z, R x z → ∀ k, k < K → ((x k).getD 0 0 = 0 ↔ z.getD 0 0 = 0)
  cst : ∀ c, isN c = true → R (fun k => cst (n k) c) (Go.Proofs.Ytnokbaiemimhjaa.cst nz c)
  add : ∀ x z y w, R x z → R y w → R (fun k => addS (x k) (y k)) (addS z w)
  red : ∀ x z y w, R x z → R y w → R (fun k => redS (x k) (y k)) (redS z w)
  pro : ∀ x z y w, R x z → R y w → R (fun k => proS (x k) (y k)) (proS z w)
  scl : ∀ x z, R x z → R (fun k => sclS (x k) 1000002) (sclS z 1000002)
  quo : ∀ x z y w, R x z → R y w → w.getD 0 0 ≠ 0 → R (fun k => quoS (x k) (y k)) (quoS z w)
/-- Lists of series, place by place. -/
def RLs (K : Nat) (R : (Nat → Sr) → Sr → Prop) (m : Nat) (xs : Nat → List Sr) (zs : List Sr) : Prop := zs.length = m ∧ (∀ k, k < K → (xs k).length = m) ∧ ∀ i, i < m → ∃ x, (∀ k, k < K → (xs k).getD i [] = x k) ∧ R x (zs.getD i [])
section
variable {K : Nat} {n : Nat → Nat} {nz : Nat} {R : (Nat → Sr) → Sr → Prop} {p : List Fn}
theorem RLs.nil : RLs K R 0 (fun _ => []) [] := ⟨rfl, fun _ _ => rfl, fun i hi => by omega⟩
theorem RLs.cons {m : Nat} {x : Nat → Sr} {z : Sr} {xs : Nat → List Sr} {zs : List Sr} (h1 : R x z) (h : RLs K R m xs zs) : RLs K R (m + 1) (fun k => x k :: xs k) (z :: zs) := by
  refine ⟨by rw [List.length_cons, h.1], fun k hk => by rw [List.length_cons, h.2.1 k hk], fun i hi => ?_⟩
  cases i with
  | zero => exact ⟨x, fun _ _ => rfl, h1⟩
  | succ i =>
    obtain ⟨y, h3, h4⟩ := h.2.2 i (by omega)
    exact ⟨y, fun k hk => by simpa using h3 k hk, by simpa using h4⟩
theorem RLs.snoc {m : Nat} {x : Nat → Sr} {z : Sr} {xs : Nat → List Sr} {zs : List Sr} (h : RLs K R m xs zs) (h1 : R x z) : RLs K R (m + 1) (fun k => xs k ++ [x k]) (zs ++ [z]) := by
  refine ⟨by simp [h.1], fun k hk => by simp [h.2.1 k hk], fun i hi => ?_⟩
  by_cases e : i = m
  · exact ⟨x, fun k hk => gd_r (by rw [h.2.1 k hk]; exact e), by rw [gd_r (by rw [h.1]; exact e)]; exact h1⟩
  · obtain ⟨y, h3, h4⟩ := h.2.2 i (by omega)
    exact ⟨y, fun k hk => by rw [gd_l (by rw [h.2.1 k hk]; omega)]; exact h3 k hk, by rw [gd_l (by rw [h.1]; omega)]; exact h4⟩
/-- Calls of the functions before F. -/
structure CaR (K : Nat) (R : (Nat → Sr) → Sr → Prop) (p : List Fn) (F : Nat) (C : Nat → Ca) (Cz : Ca) : Prop where
  one : ∀ f j m xs zs t, f < F → j < (p.getD f Fn.zero).outs.length → RLs K R m xs zs → ((m : Nat) : Int) = (p.getD f Fn.zero).params → RRs K R (fun k => (C k).one f j (xs k) t) (Cz.one f j zs t)
  all : ∀ f m xs zs t, f < F → RLs K R m xs zs → ((m : Nat) : Int) = (p.getD f Fn.zero).params → RRs K (RLs K R (p.getD f Fn.zero).outs.length) (fun k => (C k).all f (xs k) t) (Cz.all f zs t)
theorem evs_R {C : Nat → Ca} {Cz : Ca} {env : Nat → List Sr} {ez : List Sr} : ∀ (l : List Ex), (∀ e ∈ l, ∀ s, RRs K R (fun k => evE (n k) (C k) e (env k) s) (evE nz Cz e ez s)) → ∀ s, RRs K (RLs K R l.length) (fun k => evs (n k) (C k) l (env k) s) (evs nz Cz l ez s)
  | [], _, s => by
    simp only [evs]
    exact RRs.ret RLs.nil
  | e :: l, h, s => by
    simp only [evs]
    exact (h e (List.mem_cons_self ..) s).bind fun x z t hx => (evs_R l (fun e he => h e (List.mem_cons_of_mem _ he)) t).bind fun xs zs u hxs => RRs.ret (hxs.cons hx)
theorem lop_R {F f : Nat} {C : Nat → Ca} {Cz : Ca} (hC : CaR K R p F C Cz) (hf : f < F) (ho : (((p.getD f Fn.zero).outs.length : Nat) : Int) = (p.getD f Fn.zero).params) : ∀ (c : Nat) (xs : Nat → List Sr) (zs : List Sr) (t : Nat), RLs K R (p.getD f Fn.zero).outs.length xs zs →
    RRs K (RLs K R (p.getD f Fn.zero).outs.length) (fun k => lop ((C k).all f) c (xs k) t) (lop (Cz.all f) c zs t)
  | 0, xs, zs, t, h => RRs.ret h
  | c + 1, xs, zs, t, h => (lop_R hC hf ho c xs zs t h).bind fun ys ws u hy => hC.all f _ ys ws u hf hy ho
theorem RLs.at {m i : Nat} {xs : Nat → List Sr} {zs : List Sr} {t : Nat} (h : RLs K R m xs zs) (hi : i < m) : RRs K R (fun k => .ok ((xs k).getD i []) t) (.ok (zs.getD i []) t) := by
  obtain ⟨x, h1, h2⟩ := h.2.2 i hi
  exact (RRs.ret h2).congr fun k hk => by rw [h1 k hk]
theorem RLs.two {m t t' : Nat} {xs : Nat → List Sr} {zs : List Sr} {o : Sr → Sr → Sr} (h : RLs K R m xs zs) (hm : 2 ≤ m) (ho : ∀ x z y w, R x z → R y w → R (fun k => o (x k) (y k)) (o z w)) :
    RRs K R (fun k => .ok (o ((xs k).getD 0 []) ((xs k).getD 1 [])) t) (.ok (o (zs.getD 0 []) (zs.getD 1 [])) t) := by
  obtain ⟨x, h1, h2⟩ := h.2.2 0 (by omega)
  obtain ⟨y, h3, h4⟩ := h.2.2 1 (by omega)
  exact (RRs.ret (ho x _ y _ h2 h4)).congr fun k hk => by rw [h1 k hk, h3 k hk]
theorem opV_R (hR : OpR K n nz R) {kd : Int} {m t : Nat} {xs : Nat → List Sr} {zs : List Sr} (h : RLs K R m xs zs) (h1 : kd = 7 → 1 ≤ m) (h2 : kd ≠ 7 → 2 ≤ m) : RRs K R (fun k => opV kd (xs k) t) (opV kd zs t) := by
  unfold opV
  by_cases k3 : kd = 3
  · simp only [if_pos k3]; exact h.two (t' := 0) (h2 (by omega)) hR.add
  simp only [if_neg k3]
  by_cases k4 : kd = 4
  · simp only [if_pos k4]; exact h.two (t' := 0) (h2 (by omega)) hR.red
  simp only [if_neg k4]
  by_cases k5 : kd = 5
  · simp only [if_pos k5]; exact h.two (t' := 0) (h2 (by omega)) hR.pro
  simp only [if_neg k5]
  by_cases k7 : kd = 7
  · simp only [if_pos k7]
    obtain ⟨x, q1, q2⟩ := h.2.2 0 (h1 k7)
    exact (RRs.ret (hR.scl x _ q2)).congr fun k hk => by rw [q1 k hk]
  simp only [if_neg k7]
  obtain ⟨x, q1, q2⟩ := h.2.2 0 (by have := h2 k7; omega)
  obtain ⟨y, q3, q4⟩ := h.2.2 1 (by have := h2 k7; omega)
  have hz := hR.zero y _ q4
  by_cases h0 : (zs.getD 1 []).getD 0 0 = 0
  · simp only [if_pos h0]
    exact fun k hk => by
      show (if List.getD ((xs k).getD 1 []) 0 0 = 0 then _ else _) = _
      rw [q3 k hk, if_pos ((hz k hk).2 h0)]
  · simp only [if_neg h0]
    exact (RRs.ret (hR.quo x _ y _ q2 q4 h0)).congr fun k hk => by rw [q3 k hk, q1 k hk, if_neg fun h => h0 ((hz k hk).1 h)]
theorem evE_R (hR : OpR K n nz R) {F : Nat} {C : Nat → Ca} {Cz : Ca} (hC : CaR K R p F C Cz) : ∀ (z : Nat) (e : Ex), e.size ≤ z → ∀ (m : Nat) (env : Nat → List Sr) (ez : List Sr) (s : Nat), wf p ((F : Nat) : Int) e ((m : Nat) : Int) = true → RLs K R m env ez → RRs K R (fun k => evE (n k) (C k) e (env k) s) (evE nz Cz e ez s)
  | 0, e, h, _, _, _, _, _, _ => by have := size_kids e; omega
  | z + 1, e, h, m, env, ez, s, hw, he => by
    obtain ⟨w1, w2, w3, w4, w5, w6, w7, w8⟩ := wfN_all (wf_node hw)
    have hz : ∀ j, j < e.kids.length → (e.kids.getD j Ex.zero).size ≤ z := fun j hj => by
      have := size_kids e; have := sizes_at hj; omega
    have hk : ∀ j, j < e.kids.length → ¬ (e.kind = 9 ∧ j = 1) → ∀ t, RRs K R (fun k => evK (n k) (C k) e.kids j (env k) t) (evK nz Cz e.kids j ez t) := fun j hj hn t => by
      simp only [evK_at _ _ _ _ _ _ hj]
      exact evE_R hR hC z _ (hz j hj) m env ez t (wf_at0 hw hj hn) he
    simp only [evE_eq]
    by_cases hs3 : 3000 ≤ s
    · simp only [if_pos hs3]; exact RRs.fail
    simp only [if_neg hs3]
    by_cases k1 : e.kind = 1
    · simp only [if_pos k1]; exact RRs.ret (hR.cst _ (isN_iff.2 (w8 k1)))
    simp only [if_neg k1]
    by_cases k2 : e.kind = 2
    · simp only [if_pos k2]; exact he.at (by have := w2 k2; omega)
    simp only [if_neg k2]
    by_cases k8 : e.kind = 8
    · simp only [if_pos k8]
      have h3 := w5 k8
      refine (hk 0 (by omega) (by omega) (s + 1)).bind fun x y t hx => ?_
      have hq := hR.zero x y hx
      by_cases h0 : y.getD 0 0 = 0
      · simp only [if_pos h0]
        exact (hk 1 (by omega) (by omega) t).congr fun k hk => by rw [if_pos ((hq k hk).2 h0)]
      · simp only [if_neg h0]
        exact (hk 2 (by omega) (by omega) t).congr fun k hk => by rw [if_neg fun h => h0 ((hq k hk).1 h)]
    simp only [if_neg k8]
    by_cases k9 : e.kind = 9
    · simp only [if_pos k9]
      have h3 := w3 (by omega)
      refine (hk 0 (by omega) (by omega) (s + 1)).bind fun x y t hx => ?_
      simp only [evK_at _ _ _ _ _ _ (show 1 < e.kids.length by omega)]
      refine evE_R hR hC z _ (hz 1 (by omega)) (m + 1) (fun k => env k ++ [x k]) (ez ++ [y]) t ?_ (he.snoc hx)
      have := wf_at1 hw (by omega) k9
      rw [Int.natCast_add]; exact this
    simp only [if_neg k9]
    have hc := evs_R (n := n) (C := C) (nz := nz) (Cz := Cz) (env := env) (ez := ez) e.kids (fun x hx t => by
      obtain ⟨j, hj, rfl⟩ := List.mem_iff_getElem.1 hx
      have := hk j hj (by omega) t
      simp only [evK_at _ _ _ _ _ _ hj, gd_at hj] at this
      exact this) (s + 1)
    refine hc.bind fun xs zs t hx => ?_
    by_cases k10 : e.kind = 10
    · simp only [if_pos k10]
      have h6 := w6 (.inl k10)
      exact hC.one _ _ _ xs zs t (by omega) (by omega) hx (by exact h6.2.2.1)
    simp only [if_neg k10]
    by_cases k11 : e.kind = 11
    · simp only [if_pos k11]
      have h6 := w6 (.inr k11); have h7 := w7 k11
      have hl : e.kids.length = (p.getD e.num.toNat Fn.zero).outs.length := by omega
      rw [hl] at hx
      exact (lop_R hC (f := e.num.toNat) (by omega) h7.1 e.count.toNat xs zs t hx).bind fun ys ws u hy => hy.at (by omega)
    simp only [if_neg k11]
    exact opV_R hR hx (fun h7 => by rw [w4 h7]; decide) (fun h7 => by rw [w3 (by omega)]; decide)
theorem evC_R (hR : OpR K n nz R) (hv : VPr p) : ∀ F, F ≤ p.length → CaR K R p F (fun k => evC p (n k) F) (evC p nz F)
  | 0, _ => ⟨fun f j m xs zs t h => by omega, fun f m xs zs t h => by omega⟩
  | F + 1, hF => by
    have ih := evC_R hR hv F (by omega)
    have hO : ∀ j m xs zs t, j < (p.getD F Fn.zero).outs.length → RLs K R m xs zs → ((m : Nat) : Int) = (p.getD F Fn.zero).params → RRs K R (fun k => evE (n k) (evC p (n k) F) ((p.getD F Fn.zero).outs.getD j Ex.zero) (xs k) t) (evE nz (evC p nz F) ((p.getD F Fn.zero).outs.getD j Ex.zero) zs t) := fun j m xs zs t h2 h3 h4 =>
      evE_R hR ih _ _ (Nat.le_refl _) m xs zs t (by rw [h4]; exact hv.wf F (by omega) j h2) h3
    refine ⟨fun f j m xs zs t h1 h2 h3 h4 => ?_, fun f m xs zs t h1 h3 h4 => ?_⟩
    · show RRs K R (fun k => if f = F then _ else _) (if f = F then _ else _)
      by_cases e : f = F
      · subst e; simp only [if_true]; exact hO j m xs zs t h2 h3 h4
      · simp only [if_neg e]; exact ih.one f j m xs zs t (by omega) h2 h3 h4
    · show RRs K _ (fun k => if f = F then _ else _) (if f = F then _ else _)
      by_cases e : f = F
      · subst e; simp only [if_true]
        refine evs_R _ (fun e he s => ?_) t
        obtain ⟨j, hj, rfl⟩ := List.mem_iff_getElem.1 he
        have := hO j m xs zs s hj h3 h4
        rwa [gd_at hj] at this
      · simp only [if_neg e]; exact ih.all f m xs zs t (by omega) h3 h4
/-- Runs of a function. -/
theorem ev_R (hR : OpR K n nz R) (hv : VPr p) {f m : Nat} {a : Nat → List Sr} {az : List Sr} (hf : f < p.length) (ha : RLs K R m a az) (hl : ((m : Nat) : Int) = (p.getD f Fn.zero).params) :
    RRs K (RLs K R (p.getD f Fn.zero).outs.length) (fun k => ev p (n k) f (a k)) (ev p nz f az) := by
  have h := (evC_R hR hv (f + 1) (by omega)).all f m a az 0 (by omega) ha hl
  simp only [evC_all (show f < f + 1 by omega)] at h
  exact h
end
end Go.Proofs.Ytnokbaiemimhjaa
namespace Go.Proofs.Ytnokbaiemimhjaa
open Go Go.RowKit
set_option linter.unusedVariables false
set_option linter.unusedSimpArgs false
/-- A sum. -/
def smK (f : Nat → Int) : Nat → Int
  | 0 => 0
  | k + 1 => smK f k + f k
theorem smK_mod {f g : Nat → Int} : ∀ K, (∀ k, k < K → md (f k) = md (g k)) → md (smK f K) = md (smK g K)
  | 0, _ => rfl
  | K + 1, h => by
    show md (smK f K + f K) = md (smK g K + g K)
    rw [← md_add, smK_mod K (fun k hk => h k (by omega)), h K (by omega), md_add]
theorem smK_lin (A B : Int) (f g : Nat → Int) : ∀ K, smK (fun k => A * f k + B * g k) K = A * smK f K + B * smK g K
  | 0 => by show (0 : Int) = A * 0 + B * 0; simp
  | K + 1 => by
    show smK _ K + (A * f K + B * g K) = A * (smK f K + f K) + B * (smK g K + g K)
    rw [smK_lin A B f g K, Int.mul_add, Int.mul_add]; omega
/-- Slopes that are a combination of others. -/
structure Rl (K : Nat) (c : Nat → Int) (x : Nat → Sr) (z : Sr) : Prop where
  sz : Ser1 2 z
  sx : ∀ k, k < K → Ser1 2 (x k)
  v : ∀ k, k < K → (x k).getD 0 0 = z.getD 0 0
  d : z.getD 1 0 = md (smK (fun k => c k * (x k).getD 1 0) K)
theorem Rl.op {K : Nat} {c : Nat → Int} {xa xb out : Nat → Sr} {za zb oz : Sr} {A B : Int} (ha : Rl K c xa za) (hb : Rl K c xb zb) (hz : Ser1 2 oz) (hx : ∀ k, k < K → Ser1 2 (out k)) (hv : ∀ k, k < K → (out k).getD 0 0 = oz.getD 0 0)
    (h1 : oz.getD 1 0 = md (A * za.getD 1 0 + B * zb.getD 1 0)) (h2 : ∀ k, k < K → (out k).getD 1 0 = md (A * (xa k).getD 1 0 + B * (xb k).getD 1 0)) : Rl K c out oz := by
  refine ⟨hz, hx, hv, ?_⟩
  rw [h1, ha.d, hb.d, ← md_add, md_mulr, md_mulr, md_add, ← smK_lin]
  refine smK_mod K fun k hk => ?_
  rw [h2 k hk, md_mulr]
  congr 1
  rw [Int.mul_add, Int.mul_left_comm, Int.mul_left_comm B]
theorem add_k {a b : Sr} {k : Nat} (h : k < a.length) : (addS a b).getD k 0 = md (a.getD k 0 + b.getD k 0) := tab_get 0 h
theorem red_k {a b : Sr} {k : Nat} (h : k < a.length) : (redS a b).getD k 0 = md (a.getD k 0 - b.getD k 0) := tab_get 0 h
theorem scl_k {a : Sr} {y : Int} {k : Nat} (h : k < a.length) : (sclS a y).getD k 0 = md (a.getD k 0 * y) := tab_get 0 h
theorem pro_0 {a b : Sr} (h : 0 < a.length) : (proS a b).getD 0 0 = md (0 + a.getD 0 0 * b.getD 0 0) := tab_get 0 h
theorem pro_1 {a b : Sr} (h : 1 < a.length) : (proS a b).getD 1 0 = md (md (0 + a.getD 0 0 * b.getD 1 0) + a.getD 1 0 * b.getD 0 0) := tab_get 0 h
theorem quo_0 {a b : Sr} (h : 0 < a.length) : (quoS a b).getD 0 0 = md (a.getD 0 0 * inv (b.getD 0 0)) := quoS_at h
theorem quo_1 {a b : Sr} (h : 1 < a.length) : (quoS a b).getD 1 0 = md (md (a.getD 1 0 - (quoS a b).getD 0 0 * b.getD 1 0) * inv (b.getD 0 0)) := quoS_at h
theorem cst_2 (c : Int) : (cst 2 c).getD 1 0 = 0 := rfl
/-- All operations keep it. -/
theorem Rl.all (K : Nat) (c : Nat → Int) : OpR K (fun _ => 2) 2 (Rl K c) where
  zero := fun x z h k hk => by rw [h.v k hk]
  cst := fun a ha => ⟨cst_ser ha, fun _ _ => cst_ser ha, fun _ _ => rfl, by
    have : ∀ K, smK (fun k => c k * (Go.Proofs.Ytnokbaiemimhjaa.cst 2 a).getD 1 0) K = 0 := fun K => by
      induction K with
      | zero => rfl
      | succ K ih => show smK _ K + c K * (Go.Proofs.Ytnokbaiemimhjaa.cst 2 a).getD 1 0 = 0; rw [ih, cst_2]; simp
    rw [this, cst_2]; rfl⟩
  add := fun x z y w hx hy => Rl.op (A := 1) (B := 1) hx hy ⟨by rw [addS_len]; exact hx.sz.1, addS_num _ _⟩ (fun k hk => ⟨by rw [addS_len]; exact (hx.sx k hk).1, addS_num _ _⟩)
    (fun k hk => by rw [add_k (by rw [(hx.sx k hk).1]; decide), add_k (by rw [hx.sz.1]; decide), hx.v k hk, hy.v k hk]) (by rw [add_k (by rw [hx.sz.1]; decide), Int.one_mul, Int.one_mul]) (fun k hk => by rw [add_k (by rw [(hx.sx k hk).1]; decide), Int.one_mul, Int.one_mul])
  red := fun x z y w hx hy => Rl.op (A := 1) (B := -1) hx hy ⟨by rw [redS_len]; exact hx.sz.1, redS_num _ _⟩ (fun k hk => ⟨by rw [redS_len]; exact (hx.sx k hk).1, redS_num _ _⟩)
    (fun k hk => by rw [red_k (by rw [(hx.sx k hk).1]; decide), red_k (by rw [hx.sz.1]; decide), hx.v k hk, hy.v k hk]) (by rw [red_k (by rw [hx.sz.1]; decide)]; congr 1; omega) (fun k hk => by rw [red_k (by rw [(hx.sx k hk).1]; decide)]; congr 1; omega)
  pro := fun x z y w hx hy => Rl.op (A := w.getD 0 0) (B := z.getD 0 0) hx hy ⟨by rw [proS_len]; exact hx.sz.1, proS_num _ _⟩ (fun k hk => ⟨by rw [proS_len]; exact (hx.sx k hk).1, proS_num _ _⟩)
    (fun k hk => by rw [pro_0 (by rw [(hx.sx k hk).1]; decide), pro_0 (by rw [hx.sz.1]; decide), hx.v k hk, hy.v k hk])
    (by rw [pro_1 (by rw [hx.sz.1]; decide), md_addl, Int.zero_add, Int.add_comm, Int.mul_comm (z.getD 1 0)])
    (fun k hk => by rw [pro_1 (by rw [(hx.sx k hk).1]; decide), md_addl, Int.zero_add, Int.add_comm, Int.mul_comm ((x k).getD 1 0), hx.v k hk, hy.v k hk])
  scl := fun x z hx => Rl.op (A := 1000002) (B := 0) hx hx ⟨by rw [sclS_len]; exact hx.sz.1, sclS_num _ _⟩ (fun k hk => ⟨by rw [sclS_len]; exact (hx.sx k hk).1, sclS_num _ _⟩)
    (fun k hk => by rw [scl_k (by rw [(hx.sx k hk).1]; decide), scl_k (by rw [hx.sz.1]; decide), hx.v k hk]) (by rw [scl_k (by rw [hx.sz.1]; decide)]; congr 1; omega) (fun k hk => by rw [scl_k (by rw [(hx.sx k hk).1]; decide)]; congr 1; omega)
  quo := fun x z y w hx hy h0 => by
    have hq : ∀ k, k < K → (quoS (x k) (y k)).getD 0 0 = (quoS z w).getD 0 0 := fun k hk => by rw [quo_0 (by rw [(hx.sx k hk).1]; decide), quo_0 (by rw [hx.sz.1]; decide), hx.v k hk, hy.v k hk]
    have hf : ∀ a q b i : Int, md (md (a - q * b) * i) = md (i * a + (-(q * i)) * b) := fun a q b i => by
      rw [md_mull]; congr 1
      rw [Int.sub_mul, Int.neg_mul, Int.mul_comm a i, Int.mul_assoc, Int.mul_assoc, Int.mul_comm b i]; omega
    exact Rl.op (A := inv (w.getD 0 0)) (B := -((quoS z w).getD 0 0 * inv (w.getD 0 0))) hx hy ⟨by rw [quoS_len]; exact hx.sz.1, quoS_num _ _⟩ (fun k hk => ⟨by rw [quoS_len]; exact (hx.sx k hk).1, quoS_num _ _⟩) hq
      (by rw [quo_1 (by rw [hx.sz.1]; decide), hf]) (fun k hk => by rw [quo_1 (by rw [(hx.sx k hk).1]; decide), hf, hq k hk, hy.v k hk])
end Go.Proofs.Ytnokbaiemimhjaa
namespace Go.Proofs.Ytnokbaiemimhjaa
open Go Go.RowKit
set_option linter.unusedVariables false
set_option linter.unusedSimpArgs false
section ops
variable {P : Program} {ops : Array Oper} {w0 : World} {Q : Act → World → Prop} {os : List Oper} {ks : List Nat} {N : Nat} {ρ : Nat → Value} {w : World}
  {d : Nat} {ty : TypeId} {pos : String} {aft : Array Edge} {g : Option (Nat × Bool)} {t e : TypeId} {z : Value} {b s : Nat} {α : Type} {E : StandN α}
/-- An empty slice of structs. -/
theorem r_nilS (hE : GoodN s E) (ht : P.underlying t = some (.slice e)) (hi : TI P e s z b) (hu : Up ops N ρ ⟨some d, .buildSlice t 0 #[], ty, pos, aft, g⟩)
    (h : ∀ v w1, Ext w w1 → w1.heap.size = w.heap.size + 1 → Fr (owS s E e) w.heap.size w1.heap.size w1.heap v ([] : List α) → LW P ops w0 Q os ks (mk N (upd ρ d v)) w1) :
    LW P ops w0 Q (⟨some d, .buildSlice t 0 #[], ty, pos, aft, g⟩ :: os) (3 :: ks) (mk N ρ) w := by
  have hr := run_bs0 (P := P) (w := w) ht hi
  have hrun : (execOp (evF N ρ) ⟨some d, .buildSlice t 0 #[], ty, pos, aft, g⟩).run P w = .ok (.value (.slice (some ⟨w.heap.size, 0, none⟩) 0 0)) (w.alloc (.cells #[] e)) := by
    simp only [execOp, List.map_toArray, List.map_nil, Sem.run_bind, hr, Result.andThen_ok, Sem.run_pure]
  refine lw_r rfl hu _ _ hrun (ext_alloc _ _) (h _ _ (ext_alloc _ _) (by simp) ?_)
  have hn := owS_new (e := e) (w := w) hE (css := []) (xs := ([] : List α)) (F := []) (cur := #[]) (cap := 0) rfl (by simp) (by simp [maxLen]) (by simp) (by simp)
  refine ⟨_, hn, by simp, fun c hc => ?_⟩
  have hlt := (good_owS hE).lt hn c hc
  refine ⟨?_, hlt⟩
  rcases List.mem_cons.1 hc with rfl | hc
  · exact Nat.le_refl _
  · cases hc
end ops
theorem FrP.ext {α : Type} {E : Stand α} (hE : Good E) {S : Nat → Prop} {w w' : World} {v : Value} {x : α} (h : FrP E S w.heap v x) (c : Ext w w') : FrP E S w'.heap v x := by
  obtain ⟨G, h1, h2, h3⟩ := h
  exact ⟨G, hE.stable h1 fun b hb => c.heap (hE.lt h1 b hb), h2, h3⟩
/-- A drawn call: a program, a function, an output, numbers, a direction. -/
structure CallD (p : List Fn) (f pk : Int) (a b : List Int) : Prop where
  dr : DPr p false
  dn : Dn p
  len : 1 ≤ p.length ∧ p.length ≤ 3
  fe : f = ((p.length : Nat) : Int) - 1
  pk : 0 ≤ pk ∧ pk < (((p.getD f.toNat Fn.zero).outs.length : Nat) : Int)
  la : ((a.length : Nat) : Int) = (p.getD f.toNat Fn.zero).params ∧ allN a = true
  lb : ((b.length : Nat) : Int) = (p.getD f.toNat Fn.zero).params ∧ allN b = true
/-- A drawn function that can be repeated. -/
structure LoopD (p : List Fn) (f : Int) (a : List Int) : Prop where
  dr : DPr p false
  dn : ∀ k, k < p.length → (∃ s ∈ four, ∃ i : Fin 10, (p.getD k Fn.zero).name = s ++ dig i.val) ∨ (p.getD k Fn.zero).name = ⟨#[116, 117, 114, 110]⟩
  len : 1 ≤ p.length ∧ p.length ≤ 3
  fe : f = ((p.length : Nat) : Int) - 1
  sq : (((p.getD f.toNat Fn.zero).outs.length : Nat) : Int) = (p.getD f.toNat Fn.zero).params
  la : ((a.length : Nat) : Int) = (p.getD f.toNat Fn.zero).params ∧ allN a = true
theorem LoopD.mk' {p : List Fn} {g : Fn} {f : Int} {i : Nat} {a : List Int} (h : DPr p false) (hd : Dn p) (hl : p.length ≤ 2) (hp : 1 ≤ g.params ∧ g.params ≤ 3) (ho : FOk p g.params false g.outs i) (hi : ((i : Nat) : Int) = g.params) (hn : g.name = ⟨#[116, 117, 114, 110]⟩)
    (hf : f = ((p.length : Nat) : Int)) (hla : ((a.length : Nat) : Int) = g.params) (hna : allN a = true) : LoopD (p ++ [g]) f a := by
  have h1 := ho.fix h hd (by omega) hp (by omega) (by rw [hn]; unfold fixN; simp)
  have e : (p ++ [g]).getD f.toNat Fn.zero = g := gd_r (by omega)
  refine ⟨h1, fun k hk => ?_, by rw [List.length_append, List.length_singleton]; omega, by rw [List.length_append, List.length_singleton]; omega, by rw [e, ho.len]; exact hi, by rw [e]; exact ⟨hla, hna⟩⟩
  rw [List.length_append, List.length_singleton] at hk
  by_cases hk' : k < p.length
  · obtain ⟨t, ht, e2⟩ := hd k hk'
    rw [gd_l hk']; exact .inl ⟨t, ht, ⟨k, by omega⟩, e2⟩
  · rw [gd_r (by omega)]; exact .inr hn
theorem wf_var {p : List Fn} {F v n : Int} (h : 0 ≤ n ∧ n < v) : wf p F (.mk 2 n 0 0 []) v = true := (LOk.var (p := p) h).wf F
theorem varL_at {j : Nat} : ∀ (r i : Nat), j < r → (varL i r).getD j Ex.zero = .mk 2 ((i + j : Nat) : Int) 0 0 []
  | 0, i, h => by omega
  | r + 1, i, h => by
    cases j with
    | zero => rfl
    | succ j =>
      show (varL (i + 1) r).getD j Ex.zero = _
      rw [varL_at (j := j) r (i + 1) (by omega), show i + 1 + j = i + (j + 1) from by omega]
theorem varL_sz : ∀ (r i : Nat), Ex.sizes (varL i r) = r
  | 0, _ => by show Ex.sizes [] = 0; rw [Ex.sizes]
  | r + 1, i => by
    show Ex.sizes (_ :: varL (i + 1) r) = _
    rw [Ex.sizes, varL_sz r, Ex.size, Ex.sizes]; omega
theorem varL_dp : ∀ (r i : Nat), Ex.deeps (varL i r) ≤ 1
  | 0, _ => by show Ex.deeps [] ≤ 1; rw [Ex.deeps]; omega
  | r + 1, i => by
    have := varL_dp r (i + 1)
    show Ex.deeps (_ :: varL (i + 1) r) ≤ _
    rw [Ex.deeps, Ex.deep, Ex.deeps]; omega
/-- One call or loop of a function, with the variables asq kids. -/
theorem wf_cl {p : List Fn} {f m pick cnt k : Nat} (hf : f < p.length) (hm : ((m : Nat) : Int) = (p.getD f Fn.zero).params) (hp : pick < (p.getD f Fn.zero).outs.length)
    (hk : (k = 10 ∧ cnt = 0) ∨ (k = 11 ∧ (((p.getD f Fn.zero).outs.length : Nat) : Int) = (p.getD f Fn.zero).params ∧ cnt ≤ 8)) :
    wf p ((p.length : Nat) : Int) (.mk ((k : Nat) : Int) ((f : Nat) : Int) ((pick : Nat) : Int) ((cnt : Nat) : Int) (varL 0 m)) ((m : Nat) : Int) = true := by
  refine (wf_good (wfN_cl ?_ ⟨by omega, by omega⟩ ?_ ⟨by omega, ?_⟩) fun j hj => ?_).symm
  · rcases hk with ⟨rfl, rfl⟩ | ⟨rfl, h1, h2⟩
    · exact .inl ⟨rfl, rfl⟩
    · exact .inr ⟨rfl, by rw [Int.toNat_natCast]; exact h1, by omega, by omega⟩
  · rw [varL_len, Int.toNat_natCast]; exact hm
  · rw [Int.toNat_natCast]; omega
  · have hj : j < (varL 0 m).length := hj
    rw [varL_len] at hj
    show wf p _ ((varL 0 m).getD j Ex.zero) _ = true
    rw [varL_at m 0 hj, if_neg (by show ¬ (((k : Nat) : Int) = 9 ∧ j = 1); omega)]
    exact wf_var ⟨by omega, by omega⟩
theorem callL_FOk {p : List Fn} {f m : Nat} (hf : f < p.length) (hm : ((m : Nat) : Int) = (p.getD f Fn.zero).params) (hm3 : m ≤ 3) : ∀ r, r ≤ (p.getD f Fn.zero).outs.length → FOk p ((m : Nat) : Int) false (callL f m 0 r) r
  | 0, _ => FOk.nil _ _ _
  | r + 1, h => by
    have ih := callL_FOk hf hm hm3 r (by omega)
    have hw := wf_cl (pick := r) (cnt := 0) (k := 10) hf hm (by omega) (.inl ⟨rfl, rfl⟩)
    have hlen := ih.len
    rw [callL_snoc, Nat.zero_add]
    refine ⟨by simp [hlen], fun j hj => ?_, ?_, ?_, fun hp => by cases hp⟩
    · by_cases e : j = r
      · subst e; rw [gd_r hlen.symm]; exact hw
      · rw [gd_l (by omega)]; exact ih.wf j (by omega)
    · have h1 := ih.dp; have h2 := varL_dp m 0
      rw [deeps_snoc, Ex.deep]; omega
    · have h1 := ih.sz; have h2 := varL_sz m 0
      rw [sizes_snoc, Ex.size, h2]; omega
theorem ar_ok {p : List Fn} {f : Int} {a : Sr} (h : okP p = true) (hf : 0 ≤ f ∧ f < ((p.length : Nat) : Int)) (hl : ((a.length : Nat) : Int) = (p.getD f.toNat Fn.zero).params) (hn : allN a = true) : arC p f a = 0 := by
  unfold arC isF
  rw [if_pos h, if_pos (by omega)]
  rw [if_pos]
  rw [Bool.and_eq_true, decide_eq_true_eq]; exact ⟨hl, hn⟩
theorem ev_cases {p : List Fn} (hv : VPr p) {n f : Nat} {a : List Sr} (hf : f < p.length) (ha : SrE n a) (hl : ((a.length : Nat) : Int) = (p.getD f Fn.zero).params) :
    (∃ x s, ev p n f a = .ok x s ∧ x.length = (p.getD f Fn.zero).outs.length ∧ SrE n x) ∨ ev p n f a = .err 6 ∨ ev p n f a = .err 7 := by
  have h := (evC_P hv n (f + 1) (by omega)).all f a 0 (by omega) ha hl (by omega)
  rw [evC_all (by omega)] at h
  have e : ev p n f a = evs n (evC p n f) (p.getD f Fn.zero).outs a 0 := rfl
  rw [← e] at h
  cases h2 : ev p n f a with
  | err c =>
    rw [h2] at h; have h : c = 6 ∨ c = 7 := h
    rcases h with rfl | rfl
    · exact .inr (.inl rfl)
    · exact .inr (.inr rfl)
  | ok xs s =>
    rw [h2] at h; have h : xs.length = _ ∧ SrE n xs ∧ s ≤ 3000 := h
    exact .inl ⟨xs, s, rfl, h.1, h.2.1⟩
/-- An evaluation at numbers. -/
theorem eu_cases {p : List Fn} {f : Int} {a : Sr} (h : arC p f a = 0) :
    (∃ x, ev p 1 f.toNat (sing a) = .ok x (euT p f a) ∧ euC p f a = 0 ∧ euR p f a = x.map (fun s => s.getD 0 0) ∧ x.length = (p.getD f.toNat Fn.zero).outs.length ∧ SrE 1 x) ∨
    (ev p 1 f.toNat (sing a) = .err 6 ∧ euC p f a = 6) ∨ (ev p 1 f.toNat (sing a) = .err 7 ∧ euC p f a = 7) := by
  have h0 := arC_0 h
  rw [euC_0 h, euT_0 h, euR_0 h]
  rcases ev_cases (okP_vpr h0.1) (n := 1) (f := f.toNat) (a := sing a) (by omega) (sing_ser h0.2.2.2) (by unfold sing; rw [List.length_map]; exact h0.2.2.1) with ⟨x, s, h1, h2, h3⟩ | h1 | h1
  · exact .inl ⟨x, by rw [evT_o h1]; exact h1, evD_o h1, by unfold nxR; rw [evR_o h1], h2, h3⟩
  · exact .inr (.inl ⟨h1, evD_e h1⟩)
  · exact .inr (.inr ⟨h1, evD_e h1⟩)
theorem eu_of {p : List Fn} {f : Int} {a : Sr} (h : arC p f a = 0) {x : List Sr} {t : Nat} (he : ev p 1 f.toNat (sing a) = .ok x t) : euC p f a = 0 ∧ euT p f a = t ∧ euR p f a = x.map (fun s => s.getD 0 0) := by
  rw [euC_0 h, euT_0 h, euR_0 h]
  exact ⟨evD_o he, evT_o he, by unfold nxR; rw [evR_o he]⟩
theorem eu_er {p : List Fn} {f : Int} {a : Sr} (h : arC p f a = 0) {c : Int} (he : ev p 1 f.toNat (sing a) = .err c) : euC p f a = c := by rw [euC_0 h]; exact evD_e he
/-- What the law of calls wants. -/
structure CallsL (p : List Fn) (f : Int) (a : Sr) (q : List Fn) (f1 : Int) (k m : Nat) : Prop where
  ok : euC p f a = 0 → euT p f a + k * (1 + m) ≤ 3000 → euC q f1 a = 0 ∧ euR q f1 a = euR p f a ∧ euT q f1 a = euT p f a + k * (1 + m)
  big : euC p f a = 0 → ¬ euT p f a + k * (1 + m) ≤ 3000 → euC q f1 a = 7
  e7 : euC p f a = 7 → euC q f1 a = 7
  e6 : euC p f a = 6 → euC q f1 a = 6 ∨ euC q f1 a = 7
  all : euC p f a = 0 ∨ euC p f a = 6 ∨ euC p f a = 7
  len : euC p f a = 0 → (euR p f a).length = k
theorem CallD.calls {p : List Fn} {f pk : Int} {a b : List Int} (h : CallD p f pk a b) {g : Fn} {k : Nat} {f1 : Int} (h1 : f1 = f + 1) (hk : k = (p.getD f.toNat Fn.zero).outs.length) (hp : g.params = (p.getD f.toNat Fn.zero).params) (hn : g.name ∈ fixN)
    (ho : g.outs = callL f.toNat (p.getD f.toNat Fn.zero).params.toNat 0 k) : DPr (p ++ [g]) false ∧ CallsL p f a (p ++ [g]) f1 k (p.getD f.toNat Fn.zero).params.toNat := by
  have hl := h.len; have hfe := h.fe; have hla := h.la
  have hpar := h.dr.par f.toNat (by omega); have hou := h.dr.outs f.toNat (by omega)
  subst hk
  subst h1
  have hF := callL_FOk (p := p) (f := f.toNat) (m := (p.getD f.toNat Fn.zero).params.toNat) (by omega) (by omega) (by omega) _ (Nat.le_refl _)
  rw [← ho, show (((p.getD f.toNat Fn.zero).params.toNat : Nat) : Int) = g.params from by omega] at hF
  have hq := hF.fix h.dr h.dn (by omega) (by omega) (by omega) hn
  have e1 : (p ++ [g]).getD (f + 1).toNat Fn.zero = g := gd_r (by omega)
  have hqf : (f + 1).toNat = p.length := by omega
  have a1 := ar_ok (p := p) (f := f) (a := a) h.dr.ok (by omega) hla.1 hla.2
  have a2 := ar_ok (p := p ++ [g]) (f := f + 1) (a := a) hq.ok (by rw [List.length_append, List.length_singleton]; omega) (by rw [e1, hp]; exact hla.1) hla.2
  have hlaw := calls_law (p := p) (g := g) (n := 1) (f := f.toNat) (m := (p.getD f.toNat Fn.zero).params.toNat) (a := sing a) (by omega) (by unfold sing; rw [List.length_map]; omega) ho
  rw [← hqf] at hlaw
  refine ⟨hq, ?_⟩
  rcases eu_cases a1 with ⟨x, h1, h2, h3, h4, h5⟩ | ⟨h1, h2⟩ | ⟨h1, h2⟩
  · have h6 := hlaw.1 _ _ h1
    refine ⟨fun _ hs => ?_, fun _ hs => ?_, fun h9 => by omega, fun h9 => by omega, .inl h2, fun _ => by rw [h3, List.length_map, h4]⟩
    · rw [if_pos hs] at h6
      obtain ⟨q1, q2, q3⟩ := eu_of a2 h6
      exact ⟨q1, by rw [q3, h3], q2⟩
    · rw [if_neg hs] at h6
      exact eu_er a2 h6
  · refine ⟨fun h9 => by omega, fun h9 => by omega, fun h9 => by omega, fun _ => ?_, .inr (.inl h2), fun h9 => by omega⟩
    rcases hlaw.2 _ h1 with h6 | h6
    · exact .inl (eu_er a2 h6)
    · exact .inr (eu_er a2 h6)
  · refine ⟨fun h9 => by omega, fun h9 => by omega, fun _ => ?_, fun h9 => by omega, .inr (.inr h2), fun h9 => by omega⟩
    rcases hlaw.2 _ h1 with h6 | h6
    · exact eu_er a2 h6
    · exact eu_er a2 h6
theorem sing_firsts {x : List Sr} (h : SrE 1 x) : sing (x.map fun s => s.getD 0 0) = x := by
  unfold sing
  rw [List.map_map]
  refine extR (by rw [List.length_map]) fun i hi => ?_
  rw [List.length_map] at hi
  have h1 := (h i hi).1
  rw [map_getD (d := []) hi]
  show [(x.getD i []).getD 0 0] = x.getD i []
  match hx : x.getD i [] with
  | [] => rw [hx] at h1; simp at h1
  | [y] => rfl
  | _ :: _ :: _ => rw [hx] at h1; simp at h1
section
variable {p : List Fn} {f : Int} {a : List Int}
end
end Go.Proofs.Ytnokbaiemimhjaa
namespace Go.Proofs.Ytnokbaiemimhjaa
open Go Go.RowKit
set_option linter.unusedVariables false
set_option linter.unusedSimpArgs false
/-- Numbers and directions asq series. -/
def alS (a d : List Int) (n : Nat) : List Sr := tab a.length fun i => (cst n (a.getD i 0)).set 1 (d.getD i 0)
@[simp] theorem alS_len (a d : List Int) (n : Nat) : (alS a d n).length = a.length := by simp [alS]
theorem alS_at {a d : List Int} {n k : Nat} (h : k < a.length) : (alS a d n).getD k [] = (cst n (a.getD k 0)).set 1 (d.getD k 0) := tab_get [] h
theorem alS_ser {a d : List Int} {n : Nat} (ha : allN a = true) (hd : allN d = true) : SrE n (alS a d n) := fun k hk => by
  rw [alS_len] at hk
  rw [alS_at hk]
  refine ⟨by rw [List.length_set, cst_len], ?_⟩
  have h1 := cst_ser (n := n) (isN_iff.2 (allN_get ha k))
  unfold allN
  rw [List.all_eq_true]
  intro y hy
  rcases List.mem_or_eq_of_mem_set hy with hy | rfl
  · have := h1.2; unfold allN at this; exact List.all_eq_true.1 this y hy
  · exact isN_iff.2 (allN_get hd k)
/-- The code of a function, numbers and a direction. -/
def liC (p : List Fn) (f : Int) (a d : Sr) : Int := if isF p f = 0 then (if ((decide (((a.length : Nat) : Int) = (p.getD f.toNat Fn.zero).params) && allN a) && (decide (((d.length : Nat) : Int) = (p.getD f.toNat Fn.zero).params) && allN d)) = true then 0 else 2) else isF p f
/-- Values and slopes along a direction. -/
def drR (p : List Fn) (f : Nat) (a d : List Int) : List Sr := evR p 2 f (alS a d 2)
def drC (p : List Fn) (f : Nat) (a d : List Int) : Int := evD p 2 f (alS a d 2)
theorem rd_nilI {H : Array Obj} : Rd (rdL rI) H (.slice none 0 0) [] := ⟨[], .inl ⟨none, 0, rfl, rfl, rfl⟩⟩
/-- The sum of the unit vectors of j parameters. -/
def uniG (n : Nat) (ps : List Int) : Nat → List Int
  | 0 => List.replicate n 0
  | j + 1 => (uniG n ps j).set (ps.getD j 0).toNat (md ((uniG n ps j).getD (ps.getD j 0).toNat 0 + 1))
theorem uniG_len (n : Nat) (ps : List Int) : ∀ j, (uniG n ps j).length = n
  | 0 => List.length_replicate ..
  | j + 1 => by show (List.set _ _ _).length = n; rw [List.length_set, uniG_len n ps j]
theorem uniG_num (n : Nat) (ps : List Int) : ∀ j, allN (uniG n ps j) = true
  | 0 => allN_rep n
  | j + 1 => by
    have h := uniG_num n ps j
    unfold allN at h ⊢
    rw [List.all_eq_true] at h ⊢
    intro y hy
    rcases List.mem_or_eq_of_mem_set hy with hy | rfl
    · exact h y hy
    · exact isN_iff.2 (md_num _)
/-- The rows of the Jacobian after i columns. -/
def jaP (p : List Fn) (f : Nat) (a : List Int) (i r : Nat) : List Int := tab i fun c => ((drR p f a (uniG a.length [((c : Nat) : Int)] 1)).getD r []).getD 1 0
@[simp] theorem jaP_len (p : List Fn) (f : Nat) (a : List Int) (i r : Nat) : (jaP p f a i r).length = i := by simp [jaP]
def jaT (p : List Fn) (f : Nat) (a : List Int) (K i : Nat) : List (List Int) := tab K (jaP p f a i)
@[simp] theorem jaT_len (p : List Fn) (f : Nat) (a : List Int) (K i : Nat) : (jaT p f a K i).length = K := by simp [jaT]
theorem ja_set {p : List Fn} {f : Nat} {a : List Int} {K i r : Nat} (hr : r < K) :
    (mix r (jaT p f a K (i + 1)) (jaT p f a K i)).set r ((mix r (jaT p f a K (i + 1)) (jaT p f a K i)).getD r [] ++ [((drR p f a (uniG a.length [((i : Nat) : Int)] 1)).getD r []).getD 1 0]) = mix (r + 1) (jaT p f a K (i + 1)) (jaT p f a K i) := by
  unfold jaT
  rw [mix_ge [] (by simp) (Nat.le_refl _) (by simpa using hr), tab_get [] hr, mix_tab (by simp) hr]
  congr 1
  exact (tab_succ i fun c => ((drR p f a (uniG a.length [((c : Nat) : Int)] 1)).getD r []).getD 1 0).symm
theorem ja_row {p : List Fn} {f : Nat} {a : List Int} {K i r : Nat} (hr : r < K) : ((mix r (jaT p f a K (i + 1)) (jaT p f a K i)).getD r []).length = i := by
  unfold jaT
  rw [mix_ge [] (by simp) (Nat.le_refl _) (by simpa using hr), tab_get [] hr, jaP_len]
/-- Codes do not depend on directions. -/
theorem al_cut (a d : List Int) : (alS a d 2).map (cut 1) = sing a := by
  refine extR (by rw [List.length_map, alS_len]; unfold sing; rw [List.length_map]) fun k hk => ?_
  rw [List.length_map, alS_len] at hk
  rw [map_getD (d := []) (by rw [alS_len]; exact hk), alS_at hk]
  unfold sing
  rw [map_getD (d := 0) hk]
  rfl
theorem dr_c (p : List Fn) (f : Nat) (a d : List Int) : drC p f a d = nxC p f a := by
  unfold drC nxC
  rw [← evD_cut p (Nat.le_refl 1) (show 1 ≤ 2 by decide), al_cut]
theorem dr_v (p : List Fn) (f : Nat) (a d : List Int) : (drR p f a d).map (fun s => s.getD 0 0) = nxR p f a := by
  unfold drR nxR
  rw [← al_cut a d, evR_cut p (Nat.le_refl 1) (show 1 ≤ 2 by decide), List.map_map]
  refine List.map_congr_left fun s hs => ?_
  show _ = (s.take 1).getD 0 0
  cases s <;> rfl
theorem ja_0 (p : List Fn) (f : Nat) (a : List Int) (K : Nat) : jaT p f a K 0 = List.replicate K [] := by
  refine extR (by simp) fun i hi => ?_
  rw [jaT_len] at hi
  unfold jaT
  rw [tab_get [] hi, List.getD_eq_getElem?_getD, List.getElem?_replicate, if_pos hi]; rfl
end Go.Proofs.Ytnokbaiemimhjaa
namespace Go.Proofs.Ytnokbaiemimhjaa
open Go Go.RowKit
set_option linter.unusedVariables false
set_option linter.unusedSimpArgs false
/-- The unit vector of a parameter. -/
def eV (n k : Nat) : List Int := uniG n [((k : Nat) : Int)] 1
theorem rep_0 (n j : Nat) : (List.replicate n (0 : Int)).getD j 0 = 0 := by
  rw [List.getD_eq_getElem?_getD, List.getElem?_replicate]; split <;> rfl
theorem eV_get {n k j : Nat} (hk : k < n) : (eV n k).getD j 0 = if k = j then 1 else 0 := by
  show ((List.replicate n (0 : Int)).set (((k : Nat) : Int)).toNat (md ((List.replicate n (0 : Int)).getD (((k : Nat) : Int)).toNat 0 + 1))).getD j 0 = _
  rw [Int.toNat_natCast, set_at, List.length_replicate, rep_0, rep_0]
  by_cases e : k = j
  · subst e; rw [if_pos ⟨rfl, hk⟩, if_pos rfl]; rfl
  · rw [if_neg (by omega), if_neg e]
theorem eV_num (n k : Nat) : allN (eV n k) = true := uniG_num _ _ _
@[simp] theorem eV_len (n k : Nat) : (eV n k).length = n := uniG_len _ _ _
/-- The sum of the products of elements. -/
def dotG (a b : List Int) (k : Nat) : Int := md (sm k fun j => a.getD j 0 * b.getD j 0)
theorem dotG_step (a b : List Int) (k : Nat) : md (dotG a b k + md (a.getD k 0 * b.getD k 0)) = dotG a b (k + 1) := by
  unfold dotG
  rw [md_add]; rfl
theorem smK_sm (f : Nat → Int) : ∀ n, smK f n = sm n f
  | 0 => rfl
  | n + 1 => by show smK f n + f n = sm n f + f n; rw [smK_sm f n]
theorem alS_0 {a d : List Int} {i : Nat} (h : i < a.length) : ((alS a d 2).getD i []).getD 0 0 = a.getD i 0 := by rw [alS_at h]; rfl
theorem alS_1 {a d : List Int} {i : Nat} (h : i < a.length) : ((alS a d 2).getD i []).getD 1 0 = d.getD i 0 := by rw [alS_at h]; rfl
theorem ev_ok0 {p : List Fn} (hv : VPr p) {n f : Nat} {a : List Sr} (hf : f < p.length) (ha : SrE n a) (hl : ((a.length : Nat) : Int) = (p.getD f Fn.zero).params) (h0 : evD p n f a = 0) : ∃ x t, ev p n f a = .ok x t ∧ x.length = (p.getD f Fn.zero).outs.length ∧ SrE n x := by
  rcases ev_cases hv hf ha hl with ⟨x, s, h1, h2, h3⟩ | h1 | h1
  · exact ⟨x, s, h1, h2, h3⟩
  · rw [evD_e h1] at h0; omega
  · rw [evD_e h1] at h0; omega
/-- Runs along many directions and along a combination of them. -/
theorem dir_comb {p : List Fn} {f : Nat} {a d : List Int} {K : Nat} {D : Nat → List Int} {c : Nat → Int} (hv : VPr p) (hf : f < p.length) (hl : ((a.length : Nat) : Int) = (p.getD f Fn.zero).params) (hna : allN a = true) (hnd : allN d = true)
    (hD : ∀ k, k < K → allN (D k) = true) (hc : ∀ i, i < a.length → d.getD i 0 = md (smK (fun k => c k * (D k).getD i 0) K)) (h0 : nxC p f a = 0) {r : Nat} (hr : r < (p.getD f Fn.zero).outs.length) :
    ((drR p f a d).getD r []).getD 1 0 = md (smK (fun k => c k * ((drR p f a (D k)).getD r []).getD 1 0) K) := by
  have h := ev_R (Rl.all K c) hv (m := a.length) (a := fun k => alS a (D k) 2) (az := alS a d 2) hf
    ⟨alS_len _ _ _, fun k _ => alS_len _ _ _, fun i hi => ⟨fun k => (alS a (D k) 2).getD i [], fun _ _ => rfl,
      ⟨alS_ser hna hnd i (by rw [alS_len]; exact hi), fun k hk => alS_ser hna (hD k hk) i (by rw [alS_len]; exact hi), fun k _ => by rw [alS_0 hi, alS_0 hi], by
        rw [alS_1 hi, hc i hi]
        refine smK_mod K fun k _ => ?_
        rw [alS_1 hi]⟩⟩⟩ hl
  have hdc : evD p 2 f (alS a d 2) = 0 := (dr_c p f a d).trans h0
  obtain ⟨z, t, he, _, _⟩ := ev_ok0 hv hf (alS_ser (n := 2) hna hnd) (by rw [alS_len]; exact hl) hdc
  rw [he] at h
  obtain ⟨x, h1, h2⟩ := h
  obtain ⟨y, h3, h4⟩ := h2.2.2 r hr
  unfold drR
  rw [evR_o he, h4.d]
  refine smK_mod K fun k hk => ?_
  rw [← h3 k hk, evR_o (h1 k hk)]
/-- A function that has values at numbers. -/
structure AtP (p : List Fn) (f : Nat) (a : List Int) : Prop where
  v : VPr p
  lt : f < p.length
  l : ((a.length : Nat) : Int) = (p.getD f Fn.zero).params
  n : allN a = true
  z : nxC p f a = 0
section
variable {p : List Fn} {f : Nat} {a d e : List Int}
/-- The product of the Jacobian and a direction. -/
theorem dir_lin (h : AtP p f a) (hnd : allN d = true) (hld : d.length = a.length) {r : Nat} (hr : r < (p.getD f Fn.zero).outs.length) :
    ((drR p f a d).getD r []).getD 1 0 = md (sm a.length fun k => ((drR p f a (eV a.length k)).getD r []).getD 1 0 * d.getD k 0) := by
  rw [dir_comb (K := a.length) (D := fun k => eV a.length k) (c := fun k => d.getD k 0) h.v h.lt h.l h.n hnd (fun k _ => eV_num _ _) (fun i hi => ?_) h.z hr, smK_sm]
  · refine congrArg md (sm_congr fun k _ => ?_)
    rw [Int.mul_comm]
  · have h1 : (sm a.length fun k => d.getD k 0 * (eV a.length k).getD i 0) = sm a.length fun k => if i = k then d.getD k 0 else 0 := sm_congr fun k hk => by
      rw [eV_get hk]
      by_cases e : k = i
      · subst e; rw [if_pos rfl, if_pos rfl, Int.mul_one]
      · rw [if_neg e, if_neg fun h => e h.symm, Int.mul_zero]
    rw [smK_sm, h1, sm_delta, if_pos hi]
    have := allN_get hnd i
    exact (md_of this.1 this.2).symm
end
end Go.Proofs.Ytnokbaiemimhjaa
namespace Go.Proofs.Ytnokbaiemimhjaa
open Go Go.RowKit
set_option linter.unusedVariables false
set_option linter.unusedSimpArgs false
/-- Calls of the outputs of a function, all with the same arguments. -/
def chL (f : Nat) (ks : List Ex) (i : Nat) : Nat → List Ex
  | 0 => []
  | r + 1 => .mk 10 ((f : Nat) : Int) ((i : Nat) : Int) 0 ks :: chL f ks (i + 1) r
theorem chL_len (f : Nat) (ks : List Ex) : ∀ (r i : Nat), (chL f ks i r).length = r
  | 0, _ => rfl
  | r + 1, i => by show (chL f ks (i + 1) r).length + 1 = _; rw [chL_len f ks r]
theorem chL_snoc (f : Nat) (ks : List Ex) : ∀ (r i : Nat), chL f ks i (r + 1) = chL f ks i r ++ [.mk 10 ((f : Nat) : Int) ((i + r : Nat) : Int) 0 ks]
  | 0, i => rfl
  | r + 1, i => by
    show _ :: chL f ks (i + 1) (r + 1) = _ :: chL f ks (i + 1) r ++ _
    rw [chL_snoc f ks r (i + 1), show i + 1 + r = i + (r + 1) from by omega]; rfl
section
variable {n : Nat} {C D : Ca} {env ys : List Sr} {f q : Nat} {ks : List Ex}
theorem call2_shf {j d : Nat} {r : Rs Sr} (hk : Shf (evs n C ks env) (.ok ys 0) q) (h : Shf (C.one f j ys) r d) : Shf (evE n C (.mk 10 ((f : Nat) : Int) ((j : Nat) : Int) 0 ks) env) r (1 + (q + d)) := by
  have hE : evE n C (.mk 10 ((f : Nat) : Int) ((j : Nat) : Int) 0 ks) env = fun s => if 3000 ≤ s then .err 7 else (fun t => (evs n C ks env t).bind fun xs u => C.one f j xs u) (s + 1) := funext fun s => by
    rw [evE_eq]; simp [Ex.kind, Ex.num, Ex.pick, Ex.kids]
  rw [hE]
  exact Shf.one (f := fun t => (evs n C ks env t).bind fun xs u => C.one f j xs u) (hk.bind_ok (g := fun xs u => C.one f j xs u) h)
/-- All calls, beside the outputs themselves. -/
theorem chain_shf (hk : Shf (evs n C ks env) (.ok ys 0) q) (hD : ∀ e, Shift (evE n D e ys)) : ∀ (l : List Ex) (i : Nat), (∀ j, j < l.length → C.one f (i + j) ys = evE n D (l.getD j Ex.zero) ys) →
    ∃ (r : Rs (List Sr)) (d e : Nat), Shf (evs n D l ys) r d ∧ Shf (evs n C (chL f ks i l.length) env) r e ∧ d ≤ e
  | [], i, _ => by
    have h : ∀ (G : Ca) (v : List Sr), evs n G [] v = fun s => Rs.ok [] s := fun G v => funext fun s => by rw [evs]
    refine ⟨.ok [] 0, 0, 0, by rw [h]; exact Shf.ret _, ?_, Nat.le_refl _⟩
    show Shf (evs n C [] env) _ _
    rw [h]; exact Shf.ret _
  | a :: l, i, hl => by
    obtain ⟨r, d, e, h1, h2, h3⟩ := chain_shf hk hD l (i + 1) fun j hj => by
      have := hl (j + 1) (by simpa using hj)
      rw [show i + 1 + j = i + (j + 1) from by omega, this]; simp
    obtain ⟨ra, da, ha⟩ := hD a
    have hc0 : C.one f i ys = evE n D a ys := by simpa using hl 0 (by simp)
    have hc := call2_shf (n := n) (C := C) (j := i) hk (by rw [hc0]; exact ha)
    have e1 : evs n D (a :: l) ys = fun s => (evE n D a ys s).bind fun x t => (evs n D l ys t).bind fun xs u => .ok (x :: xs) u := funext fun s => by rw [evs]
    have e2 : evs n C (chL f ks i (a :: l).length) env = fun s => (evE n C (.mk 10 ((f : Nat) : Int) ((i : Nat) : Int) 0 ks) env s).bind fun x t => (evs n C (chL f ks (i + 1) l.length) env t).bind fun xs u => .ok (x :: xs) u := funext fun s => by
      show evs n C (_ :: chL f ks (i + 1) l.length) env s = _
      rw [evs]
    rw [e1, e2]
    cases ra with
    | err c => exact ⟨.err c, da, 1 + (q + da), ha.bind_err _, hc.bind_err _, by omega⟩
    | ok x t =>
      cases r with
      | err c => exact ⟨.err c, da + d, 1 + (q + da) + e, ha.bind_ok (h1.bind_err _), hc.bind_ok (h2.bind_err _), by omega⟩
      | ok xs u => exact ⟨.ok (x :: xs) 0, da + (d + 0), 1 + (q + da) + (e + 0), ha.bind_ok (h1.bind_ok (Shf.ret _)), hc.bind_ok (h2.bind_ok (Shf.ret _)), by omega⟩
end
theorem shf_rs {α : Type} {f : Nat → Rs α} {r : Rs α} {d : Nat} (h : Shf f r d) : (∀ y t, f 0 = .ok y t → ∃ u, r = .ok y u ∧ d ≤ 3000) ∧ (∀ c, f 0 = .err c → (r = .err c ∧ d ≤ 3000) ∨ (c = 7 ∧ 3000 < d)) := by
  have h0 := h 0 (by omega)
  by_cases hd : 0 + d ≤ 3000
  · rw [if_pos hd] at h0
    cases r with
    | ok x u =>
      refine ⟨fun y t hy => ?_, fun c hc => ?_⟩
      · rw [h0] at hy; simp only [Rs.ok.injEq] at hy; exact ⟨u, by rw [hy.1], by omega⟩
      · rw [h0] at hc; cases hc
    | err c' =>
      refine ⟨fun y t hy => ?_, fun c hc => ?_⟩
      · rw [h0] at hy; cases hy
      · rw [h0] at hc; simp only [Rs.err.injEq] at hc; exact .inl ⟨by rw [hc], by omega⟩
  · rw [if_neg hd] at h0
    refine ⟨fun y t hy => ?_, fun c hc => ?_⟩
    · rw [h0] at hy; cases hy
    · rw [h0] at hc; simp only [Rs.err.injEq] at hc; exact .inr ⟨hc.symm, by omega⟩
/-- A chain of two functions. -/
structure Chn (P : List Fn) (m : Nat) : Prop where
  o : (P.getD 2 Fn.zero).outs = chL 1 (callL 0 m 0 (P.getD 0 Fn.zero).outs.length) 0 (P.getD 1 Fn.zero).outs.length
theorem Chn.law {P : List Fn} {m n : Nat} {a ys : List Sr} {t : Nat} (h : Chn P m) (hm : a.length = m) (h0 : ev P n 0 a = .ok ys t) :
    (∀ y u, ev P n 1 ys = .ok y u → (∃ v, ev P n 2 a = .ok y v) ∨ ev P n 2 a = .err 7) ∧ (∀ c, ev P n 1 ys = .err c → ev P n 2 a = .err c ∨ ev P n 2 a = .err 7) := by
  obtain ⟨r0, d0, e0, a1, a2, a3, a4⟩ := calls_shf (n := n) (C := evC P n 2) (D := evC P n 0) (f := 0) hm (fun e => outE_shift P n 0 e a) (P.getD 0 Fn.zero).outs 0 fun j hj => by
    rw [Nat.zero_add]; exact funext fun s => evC_one (by omega)
  obtain ⟨u0, hr0, _⟩ := (shf_rs a1).1 ys t h0
  subst hr0
  have hk : Shf (evs n (evC P n 2) (callL 0 m 0 (P.getD 0 Fn.zero).outs.length) a) (.ok ys 0) e0 := fun s hs => a2 s hs
  obtain ⟨r, d, e, b1, b2, b3⟩ := chain_shf (f := 1) (D := evC P n 1) hk (fun e => outE_shift P n 1 e ys) (P.getD 1 Fn.zero).outs 0 fun j hj => by
    rw [Nat.zero_add]; exact funext fun s => evC_one (by omega)
  rw [← h.o] at b2
  have c2 := b2 0 (by omega)
  have q2 : ev P n 2 a = evs n (evC P n 2) (P.getD 2 Fn.zero).outs a 0 := rfl
  rw [← q2] at c2
  refine ⟨fun y u hy => ?_, fun c hc => ?_⟩
  · obtain ⟨u1, hr, _⟩ := (shf_rs b1).1 y u hy
    subst hr
    by_cases he : 0 + e ≤ 3000
    · rw [if_pos he] at c2; exact .inl ⟨_, c2⟩
    · rw [if_neg he] at c2; exact .inr c2
  · rcases (shf_rs b1).2 c hc with ⟨hr, _⟩ | ⟨rfl, hd⟩
    · subst hr
      by_cases he : 0 + e ≤ 3000
      · rw [if_pos he] at c2; exact .inl c2
      · rw [if_neg he] at c2; exact .inr c2
    · rw [if_neg (by omega)] at c2; exact .inr c2
/-- Numbers and slopes, asq series. -/
theorem pairs {y : List Sr} (h : SrE 2 y) : y = alS (y.map fun s => s.getD 0 0) (y.map fun s => s.getD 1 0) 2 := by
  refine extR (by simp) fun i hi => ?_
  rw [alS_at (by simpa using hi), map_getD (d := []) hi, map_getD (d := []) hi]
  have := (h i hi).1
  match hy : y.getD i [], this with
  | [x, z], _ => rfl
section
variable {P : List Fn} {m : Nat} {a d : List Int}
/-- Codes along a chain. -/
theorem Chn.code (h : Chn P m) (hm : a.length = m) (hA : AtP P 0 a) : nxC P 2 a = nxC P 1 (nxR P 0 a) ∨ nxC P 2 a = 7 := by
  have hd0 := hA.z
  unfold nxC at hd0
  obtain ⟨y, t, he, _, hy⟩ := ev_ok0 hA.v hA.lt (sing_ser hA.n) (by rw [sing_len]; exact hA.l) hd0
  · have hr : sing (nxR P 0 a) = y := by
      unfold nxR; rw [evR_o he]; exact sing_firsts hy
    have hL := h.law (n := 1) (a := sing a) (by rw [sing_len]; exact hm) he
    unfold nxC
    rw [hr]
    cases he1 : ev P 1 1 y with
    | ok z u =>
      rcases hL.1 z u he1 with ⟨v, h2⟩ | h2
      · left; rw [evD_o he1, evD_o h2]
      · right; rw [evD_e h2]
    | err c =>
      rcases hL.2 c he1 with h2 | h2
      · left; rw [evD_e he1, evD_e h2]
      · right; rw [evD_e h2]
/-- Slopes along a chain. -/
theorem Chn.slope (h : Chn P m) (hm : a.length = m) (hA : AtP P 0 a) (hnd : allN d = true) (h2 : nxC P 2 a = 0) :
    drR P 2 a d = drR P 1 (nxR P 0 a) ((drR P 0 a d).map fun s => s.getD 1 0) := by
  have hd0 := (dr_c P 0 a d).trans hA.z
  have hd2 := (dr_c P 2 a d).trans h2
  unfold drC at hd0 hd2
  have hS := alS_ser (n := 2) hA.n hnd
  have hL0 : (((alS a d 2).length : Nat) : Int) = (P.getD 0 Fn.zero).params := by rw [alS_len]; exact hA.l
  obtain ⟨y, t, he, _, hy⟩ := ev_ok0 hA.v hA.lt hS hL0 hd0
  · have hR : drR P 0 a d = y := evR_o he
    have hp := pairs hy
    rw [← dr_v P 0 a d, hR]
    show evR P 2 2 (alS a d 2) = evR P 2 1 (alS _ _ 2)
    rw [← hp]
    have hL := h.law (n := 2) (a := alS a d 2) (by rw [alS_len]; exact hm) he
    cases he1 : ev P 2 1 y with
    | ok z u =>
      rcases hL.1 z u he1 with ⟨v, h2⟩ | h2
      · rw [evR_o he1, evR_o h2]
      · rw [evD_e h2] at hd2; omega
    | err c =>
      rcases hL.2 c he1 with h2 | h2
      · rw [evR_e he1, evR_e h2]
      · rw [evR_e he1, evR_e h2]
end
theorem callL_sz (f m : Nat) : ∀ r i, Ex.sizes (callL f m i r) = r * (1 + m) := fun r => by
  induction r with
  | zero => intro i; show Ex.sizes [] = _; rw [Ex.sizes]; omega
  | succ r ih => intro i; show Ex.sizes (_ :: callL f m (i + 1) r) = _; rw [Ex.sizes, Ex.size, ih, varL_sz, Nat.succ_mul]; omega
theorem wf_ch {p : List Fn} {f pick : Nat} {ks : List Ex} {v : Int} (hf : f < p.length) (hm : ((ks.length : Nat) : Int) = (p.getD f Fn.zero).params) (hp : pick < (p.getD f Fn.zero).outs.length) (hk : ∀ j, j < ks.length → wf p ((p.length : Nat) : Int) (ks.getD j Ex.zero) v = true) :
    wf p ((p.length : Nat) : Int) (.mk 10 ((f : Nat) : Int) ((pick : Nat) : Int) 0 ks) v = true := by
  refine (wf_good (wfN_cl (.inl ⟨rfl, rfl⟩) ⟨by omega, by omega⟩ ?_ ⟨by omega, ?_⟩) fun j hj => ?_).symm
  · rw [Int.toNat_natCast]; exact hm
  · rw [Int.toNat_natCast]; omega
  · have hj : j < ks.length := hj
    show wf p _ (ks.getD j Ex.zero) _ = true
    rw [if_neg (by show ¬ ((10 : Int) = 9 ∧ j = 1); omega)]
    exact hk j hj
theorem chL_FOk {p : List Fn} {f : Nat} {ks : List Ex} {v : Int} (hf : f < p.length) (hm : ((ks.length : Nat) : Int) = (p.getD f Fn.zero).params) (hk : ∀ j, j < ks.length → wf p ((p.length : Nat) : Int) (ks.getD j Ex.zero) v = true) (hd : Ex.deeps ks ≤ 4) (hs : Ex.sizes ks ≤ 100) :
    ∀ r, r ≤ (p.getD f Fn.zero).outs.length → FOk p v false (chL f ks 0 r) r
  | 0, _ => FOk.nil _ _ _
  | r + 1, h => by
    have ih := chL_FOk hf hm hk hd hs r (by omega)
    have hw := wf_ch (pick := r) hf hm (by omega) hk
    have hlen := ih.len
    rw [chL_snoc, Nat.zero_add]
    refine ⟨by simp [hlen], fun j hj => ?_, ?_, ?_, fun hp => by cases hp⟩
    · by_cases e : j = r
      · subst e; rw [gd_r hlen.symm]; exact hw
      · rw [gd_l (by omega)]; exact ih.wf j (by omega)
    · have h1 := ih.dp
      rw [deeps_snoc, Ex.deep]; omega
    · have h1 := ih.sz
      rw [sizes_snoc, Ex.size]; omega
/-- A drawn chain of two functions. -/
structure ChnD (p : List Fn) (a : List Int) : Prop where
  dr : DPr p false
  len : p.length = 3
  ch : Chn p a.length
  la : ((a.length : Nat) : Int) = (p.getD 0 Fn.zero).params ∧ allN a = true
  mid : (((p.getD 0 Fn.zero).outs.length : Nat) : Int) = (p.getD 1 Fn.zero).params
  p2 : (p.getD 2 Fn.zero).params = (p.getD 0 Fn.zero).params
  o2 : (p.getD 2 Fn.zero).outs.length = (p.getD 1 Fn.zero).outs.length
theorem ChnD.mk' {p : List Fn} {g : Fn} {a : List Int} {m K0 K1 : Nat} (h : DPr p false) (hd : Dn p) (hl : p.length = 2) (hm : ((m : Nat) : Int) = (p.getD 0 Fn.zero).params) (h0 : (p.getD 0 Fn.zero).outs.length = K0) (h1 : (p.getD 1 Fn.zero).outs.length = K1)
    (hmid : ((K0 : Nat) : Int) = (p.getD 1 Fn.zero).params) (hg : g.params = ((m : Nat) : Int)) (hn : g.name = ⟨#[98, 111, 116, 104]⟩) (ho : g.outs = chL 1 (callL 0 m 0 K0) 0 K1) (ha : a.length = m) (hna : allN a = true) : ChnD (p ++ [g]) a := by
  have q0 := h.par 0 (by omega)
  have q1 := h.outs 0 (by omega)
  have q2 := h.outs 1 (by omega)
  have hk := callL_FOk (p := p) (f := 0) (by omega) hm (by omega) K0 (by omega)
  have hc := chL_FOk (p := p) (f := 1) (ks := callL 0 m 0 K0) (v := ((m : Nat) : Int)) (by omega) (by rw [callL_len]; exact hmid) (fun j hj => hk.wf j (by rw [callL_len] at hj; exact hj)) (by
      have : ∀ r i, Ex.deeps (callL 0 m i r) ≤ 4 := fun r => by
        induction r with
        | zero => intro i; show Ex.deeps [] ≤ 4; rw [Ex.deeps]; omega
        | succ r ih => intro i; have := ih (i + 1); have := varL_dp m 0; show Ex.deeps (_ :: callL 0 m (i + 1) r) ≤ 4; rw [Ex.deeps, Ex.deep]; omega
      exact this _ _) (by
      have : ∀ r i, Ex.sizes (callL 0 m i r) = r * (1 + m) := fun r => by
        induction r with
        | zero => intro i; show Ex.sizes [] = _; rw [Ex.sizes]; omega
        | succ r ih => intro i; show Ex.sizes (_ :: callL 0 m (i + 1) r) = _; rw [Ex.sizes, Ex.size, ih, varL_sz, Nat.succ_mul]; omega
      rw [this]
      have := Nat.mul_le_mul (show K0 ≤ 3 by omega) (show 1 + m ≤ 4 by omega)
      omega) K1 (by omega)
  have e0 : (p ++ [g]).getD 0 Fn.zero = p.getD 0 Fn.zero := gd_l (by omega)
  have e1 : (p ++ [g]).getD 1 Fn.zero = p.getD 1 Fn.zero := gd_l (by omega)
  have e2 : (p ++ [g]).getD 2 Fn.zero = g := gd_r (by omega)
  rw [← ho, ← hg] at hc
  have hD := hc.fix h hd (by omega) (by omega) (by omega) (by rw [hn]; unfold fixN; simp)
  exact ⟨hD, by rw [List.length_append, List.length_singleton, hl], ⟨by rw [e0, e1, e2, ho, ha, h0, h1]⟩, by rw [e0]; exact ⟨by omega, hna⟩, by rw [e0, e1, h0]; exact hmid, by rw [e0, e2, hg]; exact hm, by rw [e1, e2, ho, chL_len, h1]⟩
section
variable {p : List Fn} {a : List Int}
theorem ChnD.at0 (h : ChnD p a) (hc : nxC p 0 a = 0) : AtP p 0 a := ⟨okP_vpr h.dr.ok, by have := h.len; omega, h.la.1, h.la.2, hc⟩
theorem ChnD.mid_len (h : ChnD p a) (hc : nxC p 0 a = 0) : (nxR p 0 a).length = (p.getD 0 Fn.zero).outs.length ∧ allN (nxR p 0 a) = true := by
  have hA := h.at0 hc
  have he := NxP.mk' (ev_P hA.v (n := 1) hA.lt (sing_ser hA.n) (by rw [sing_len]; exact hA.l))
  exact ⟨he.len hc, he.num⟩
theorem ChnD.at1 (h : ChnD p a) (hc : nxC p 0 a = 0) (h1 : nxC p 1 (nxR p 0 a) = 0) : AtP p 1 (nxR p 0 a) := ⟨okP_vpr h.dr.ok, by have := h.len; omega, by rw [(h.mid_len hc).1]; exact h.mid, (h.mid_len hc).2, h1⟩
/-- The product of both Jacobians. -/
theorem ChnD.rule (h : ChnD p a) (hc : nxC p 0 a = 0) (h1 : nxC p 1 (nxR p 0 a) = 0) (h2 : nxC p 2 a = 0) {i k : Nat} (hi : i < (p.getD 1 Fn.zero).outs.length) (hk : k < a.length) :
    ((drR p 2 a (eV a.length k)).getD i []).getD 1 0 = md (sm (nxR p 0 a).length fun j => ((drR p 1 (nxR p 0 a) (eV (nxR p 0 a).length j)).getD i []).getD 1 0 * ((drR p 0 a (eV a.length k)).map fun s => s.getD 1 0).getD j 0) := by
  have hA := h.at0 hc
  have hP := ev_P hA.v (n := 2) hA.lt (alS_ser (n := 2) hA.n (eV_num a.length k)) (by rw [alS_len]; exact hA.l)
  have hl : (drR p 0 a (eV a.length k)).length = (p.getD 0 Fn.zero).outs.length := hP.len ((dr_c p 0 a _).trans hc)
  have hs : SrE 2 (drR p 0 a (eV a.length k)) := hP.ser
  rw [h.ch.slope rfl hA (eV_num _ _) h2]
  refine dir_lin (h.at1 hc h1) ?_ (by rw [List.length_map, hl, (h.mid_len hc).1]) hi
  unfold allN
  rw [List.all_eq_true]
  intro y hy
  rw [List.mem_map] at hy
  obtain ⟨s, hs1, rfl⟩ := hy
  obtain ⟨j, hj, rfl⟩ := List.mem_iff_getElem.1 hs1
  have := (hs j hj).2
  rw [gd_at hj] at this
  exact isN_iff.2 (allN_get this 1)
end
end Go.Proofs.Ytnokbaiemimhjaa
namespace Go.Proofs.Ytnokbaiemimhjaa
open Go Go.RowKit
theorem mixed : Try.prog.follows .mixedOrders = true := by kernel_rfl
theorem cf7 : ((Try.prog.funcs[7]?).map fun fn => (fn.name != "runtime.NumGoroutine") && fn.body.isSome) = some true := by kernel_rfl
theorem cf13 : ((Try.prog.funcs[13]?).map fun fn => (fn.name != "runtime.NumGoroutine") && fn.body.isSome) = some true := by kernel_rfl
theorem cf15 : ((Try.prog.funcs[15]?).map fun fn => (fn.name != "runtime.NumGoroutine") && fn.body.isSome) = some true := by kernel_rfl
theorem cf26 : ((Try.prog.funcs[26]?).map fun fn => (fn.name != "runtime.NumGoroutine") && fn.body.isSome) = some true := by kernel_rfl
theorem cf27 : ((Try.prog.funcs[27]?).map fun fn => (fn.name != "runtime.NumGoroutine") && fn.body.isSome) = some true := by kernel_rfl
theorem cf28 : ((Try.prog.funcs[28]?).map fun fn => (fn.name != "runtime.NumGoroutine") && fn.body.isSome) = some true := by kernel_rfl
theorem cf29 : ((Try.prog.funcs[29]?).map fun fn => (fn.name != "runtime.NumGoroutine") && fn.body.isSome) = some true := by kernel_rfl
theorem cf30 : ((Try.prog.funcs[30]?).map fun fn => (fn.name != "runtime.NumGoroutine") && fn.body.isSome) = some true := by kernel_rfl
theorem cf36 : ((Try.prog.funcs[36]?).map fun fn => (fn.name != "runtime.NumGoroutine") && fn.body.isSome) = some true := by kernel_rfl
theorem cf37 : ((Try.prog.funcs[37]?).map fun fn => (fn.name != "runtime.NumGoroutine") && fn.body.isSome) = some true := by kernel_rfl
theorem cf38 : ((Try.prog.funcs[38]?).map fun fn => (fn.name != "runtime.NumGoroutine") && fn.body.isSome) = some true := by kernel_rfl
theorem cf39 : ((Try.prog.funcs[39]?).map fun fn => (fn.name != "runtime.NumGoroutine") && fn.body.isSome) = some true := by kernel_rfl
theorem cf40 : ((Try.prog.funcs[40]?).map fun fn => (fn.name != "runtime.NumGoroutine") && fn.body.isSome) = some true := by kernel_rfl
theorem cf42 : ((Try.prog.funcs[42]?).map fun fn => (fn.name != "runtime.NumGoroutine") && fn.body.isSome) = some true := by kernel_rfl
theorem cf45 : ((Try.prog.funcs[45]?).map fun fn => (fn.name != "runtime.NumGoroutine") && fn.body.isSome) = some true := by kernel_rfl
theorem cf48 : ((Try.prog.funcs[48]?).map fun fn => (fn.name != "runtime.NumGoroutine") && fn.body.isSome) = some true := by kernel_rfl
theorem cf51 : ((Try.prog.funcs[51]?).map fun fn => (fn.name != "runtime.NumGoroutine") && fn.body.isSome) = some true := by kernel_rfl
theorem cf54 : ((Try.prog.funcs[54]?).map fun fn => (fn.name != "runtime.NumGoroutine") && fn.body.isSome) = some true := by kernel_rfl
theorem cf56 : ((Try.prog.funcs[56]?).map fun fn => (fn.name != "runtime.NumGoroutine") && fn.body.isSome) = some true := by kernel_rfl
theorem cf60 : ((Try.prog.funcs[60]?).map fun fn => (fn.name != "runtime.NumGoroutine") && fn.body.isSome) = some true := by kernel_rfl
theorem cf61 : ((Try.prog.funcs[61]?).map fun fn => (fn.name != "runtime.NumGoroutine") && fn.body.isSome) = some true := by kernel_rfl
theorem cf65 : ((Try.prog.funcs[65]?).map fun fn => (fn.name != "runtime.NumGoroutine") && fn.body.isSome) = some true := by kernel_rfl
theorem cf69 : ((Try.prog.funcs[69]?).map fun fn => (fn.name != "runtime.NumGoroutine") && fn.body.isSome) = some true := by kernel_rfl
theorem cf70 : ((Try.prog.funcs[70]?).map fun fn => (fn.name != "runtime.NumGoroutine") && fn.body.isSome) = some true := by kernel_rfl
theorem cf71 : ((Try.prog.funcs[71]?).map fun fn => (fn.name != "runtime.NumGoroutine") && fn.body.isSome) = some true := by kernel_rfl
theorem cf72 : ((Try.prog.funcs[72]?).map fun fn => (fn.name != "runtime.NumGoroutine") && fn.body.isSome) = some true := by kernel_rfl
theorem cf73 : ((Try.prog.funcs[73]?).map fun fn => (fn.name != "runtime.NumGoroutine") && fn.body.isSome) = some true := by kernel_rfl
theorem cf74 : ((Try.prog.funcs[74]?).map fun fn => (fn.name != "runtime.NumGoroutine") && fn.body.isSome) = some true := by kernel_rfl
theorem cf75 : ((Try.prog.funcs[75]?).map fun fn => (fn.name != "runtime.NumGoroutine") && fn.body.isSome) = some true := by kernel_rfl
theorem cf76 : ((Try.prog.funcs[76]?).map fun fn => (fn.name != "runtime.NumGoroutine") && fn.body.isSome) = some true := by kernel_rfl
theorem cf77 : ((Try.prog.funcs[77]?).map fun fn => (fn.name != "runtime.NumGoroutine") && fn.body.isSome) = some true := by kernel_rfl
theorem cf80 : ((Try.prog.funcs[80]?).map fun fn => (fn.name != "runtime.NumGoroutine") && fn.body.isSome) = some true := by kernel_rfl
theorem cf81 : ((Try.prog.funcs[81]?).map fun fn => (fn.name != "runtime.NumGoroutine") && fn.body.isSome) = some true := by kernel_rfl
theorem cf82 : ((Try.prog.funcs[82]?).map fun fn => (fn.name != "runtime.NumGoroutine") && fn.body.isSome) = some true := by kernel_rfl
theorem cf83 : ((Try.prog.funcs[83]?).map fun fn => (fn.name != "runtime.NumGoroutine") && fn.body.isSome) = some true := by kernel_rfl
theorem cf86 : ((Try.prog.funcs[86]?).map fun fn => (fn.name != "runtime.NumGoroutine") && fn.body.isSome) = some true := by kernel_rfl
theorem cf87 : ((Try.prog.funcs[87]?).map fun fn => (fn.name != "runtime.NumGoroutine") && fn.body.isSome) = some true := by kernel_rfl
theorem cf88 : ((Try.prog.funcs[88]?).map fun fn => (fn.name != "runtime.NumGoroutine") && fn.body.isSome) = some true := by kernel_rfl
theorem cf89 : ((Try.prog.funcs[89]?).map fun fn => (fn.name != "runtime.NumGoroutine") && fn.body.isSome) = some true := by kernel_rfl
theorem cf90 : ((Try.prog.funcs[90]?).map fun fn => (fn.name != "runtime.NumGoroutine") && fn.body.isSome) = some true := by kernel_rfl
theorem cf94 : ((Try.prog.funcs[94]?).map fun fn => (fn.name != "runtime.NumGoroutine") && fn.body.isSome) = some true := by kernel_rfl
theorem cf97 : ((Try.prog.funcs[97]?).map fun fn => (fn.name != "runtime.NumGoroutine") && fn.body.isSome) = some true := by kernel_rfl
theorem cf99 : ((Try.prog.funcs[99]?).map fun fn => (fn.name != "runtime.NumGoroutine") && fn.body.isSome) = some true := by kernel_rfl
theorem cf100 : ((Try.prog.funcs[100]?).map fun fn => (fn.name != "runtime.NumGoroutine") && fn.body.isSome) = some true := by kernel_rfl
theorem cf101 : ((Try.prog.funcs[101]?).map fun fn => (fn.name != "runtime.NumGoroutine") && fn.body.isSome) = some true := by kernel_rfl
theorem cf102 : ((Try.prog.funcs[102]?).map fun fn => (fn.name != "runtime.NumGoroutine") && fn.body.isSome) = some true := by kernel_rfl
theorem cf107 : ((Try.prog.funcs[107]?).map fun fn => (fn.name != "runtime.NumGoroutine") && fn.body.isSome) = some true := by kernel_rfl
theorem cf108 : ((Try.prog.funcs[108]?).map fun fn => (fn.name != "runtime.NumGoroutine") && fn.body.isSome) = some true := by kernel_rfl
theorem cf109 : ((Try.prog.funcs[109]?).map fun fn => (fn.name != "runtime.NumGoroutine") && fn.body.isSome) = some true := by kernel_rfl
theorem cf110 : ((Try.prog.funcs[110]?).map fun fn => (fn.name != "runtime.NumGoroutine") && fn.body.isSome) = some true := by kernel_rfl
theorem cf111 : ((Try.prog.funcs[111]?).map fun fn => (fn.name != "runtime.NumGoroutine") && fn.body.isSome) = some true := by kernel_rfl
theorem cf112 : ((Try.prog.funcs[112]?).map fun fn => (fn.name != "runtime.NumGoroutine") && fn.body.isSome) = some true := by kernel_rfl
theorem cf113 : ((Try.prog.funcs[113]?).map fun fn => (fn.name != "runtime.NumGoroutine") && fn.body.isSome) = some true := by kernel_rfl
theorem cf114 : ((Try.prog.funcs[114]?).map fun fn => (fn.name != "runtime.NumGoroutine") && fn.body.isSome) = some true := by kernel_rfl
theorem cf116 : ((Try.prog.funcs[116]?).map fun fn => (fn.name != "runtime.NumGoroutine") && fn.body.isSome) = some true := by kernel_rfl
theorem cf117 : ((Try.prog.funcs[117]?).map fun fn => (fn.name != "runtime.NumGoroutine") && fn.body.isSome) = some true := by kernel_rfl
theorem cf119 : ((Try.prog.funcs[119]?).map fun fn => (fn.name != "runtime.NumGoroutine") && fn.body.isSome) = some true := by kernel_rfl
theorem cf122 : ((Try.prog.funcs[122]?).map fun fn => (fn.name != "runtime.NumGoroutine") && fn.body.isSome) = some true := by kernel_rfl
theorem cf126 : ((Try.prog.funcs[126]?).map fun fn => (fn.name != "runtime.NumGoroutine") && fn.body.isSome) = some true := by kernel_rfl
theorem cf127 : ((Try.prog.funcs[127]?).map fun fn => (fn.name != "runtime.NumGoroutine") && fn.body.isSome) = some true := by kernel_rfl
theorem cf128 : ((Try.prog.funcs[128]?).map fun fn => (fn.name != "runtime.NumGoroutine") && fn.body.isSome) = some true := by kernel_rfl
theorem cf130 : ((Try.prog.funcs[130]?).map fun fn => (fn.name != "runtime.NumGoroutine") && fn.body.isSome) = some true := by kernel_rfl
theorem cf131 : ((Try.prog.funcs[131]?).map fun fn => (fn.name != "runtime.NumGoroutine") && fn.body.isSome) = some true := by kernel_rfl
theorem cf132 : ((Try.prog.funcs[132]?).map fun fn => (fn.name != "runtime.NumGoroutine") && fn.body.isSome) = some true := by kernel_rfl
theorem cf134 : ((Try.prog.funcs[134]?).map fun fn => (fn.name != "runtime.NumGoroutine") && fn.body.isSome) = some true := by kernel_rfl
theorem cf135 : ((Try.prog.funcs[135]?).map fun fn => (fn.name != "runtime.NumGoroutine") && fn.body.isSome) = some true := by kernel_rfl
theorem cf137 : ((Try.prog.funcs[137]?).map fun fn => (fn.name != "runtime.NumGoroutine") && fn.body.isSome) = some true := by kernel_rfl
theorem cf139 : ((Try.prog.funcs[139]?).map fun fn => (fn.name != "runtime.NumGoroutine") && fn.body.isSome) = some true := by kernel_rfl
theorem cf140 : ((Try.prog.funcs[140]?).map fun fn => (fn.name != "runtime.NumGoroutine") && fn.body.isSome) = some true := by kernel_rfl
theorem cf141 : ((Try.prog.funcs[141]?).map fun fn => (fn.name != "runtime.NumGoroutine") && fn.body.isSome) = some true := by kernel_rfl
theorem cf144 : ((Try.prog.funcs[144]?).map fun fn => (fn.name != "runtime.NumGoroutine") && fn.body.isSome) = some true := by kernel_rfl
theorem cf145 : ((Try.prog.funcs[145]?).map fun fn => (fn.name != "runtime.NumGoroutine") && fn.body.isSome) = some true := by kernel_rfl
theorem cf146 : ((Try.prog.funcs[146]?).map fun fn => (fn.name != "runtime.NumGoroutine") && fn.body.isSome) = some true := by kernel_rfl
theorem cf147 : ((Try.prog.funcs[147]?).map fun fn => (fn.name != "runtime.NumGoroutine") && fn.body.isSome) = some true := by kernel_rfl
theorem cf148 : ((Try.prog.funcs[148]?).map fun fn => (fn.name != "runtime.NumGoroutine") && fn.body.isSome) = some true := by kernel_rfl
theorem cf149 : ((Try.prog.funcs[149]?).map fun fn => (fn.name != "runtime.NumGoroutine") && fn.body.isSome) = some true := by kernel_rfl
theorem cf150 : ((Try.prog.funcs[150]?).map fun fn => (fn.name != "runtime.NumGoroutine") && fn.body.isSome) = some true := by kernel_rfl
theorem cf151 : ((Try.prog.funcs[151]?).map fun fn => (fn.name != "runtime.NumGoroutine") && fn.body.isSome) = some true := by kernel_rfl
theorem cf152 : ((Try.prog.funcs[152]?).map fun fn => (fn.name != "runtime.NumGoroutine") && fn.body.isSome) = some true := by kernel_rfl
theorem cf153 : ((Try.prog.funcs[153]?).map fun fn => (fn.name != "runtime.NumGoroutine") && fn.body.isSome) = some true := by kernel_rfl
theorem cf154 : ((Try.prog.funcs[154]?).map fun fn => (fn.name != "runtime.NumGoroutine") && fn.body.isSome) = some true := by kernel_rfl
theorem cf155 : ((Try.prog.funcs[155]?).map fun fn => (fn.name != "runtime.NumGoroutine") && fn.body.isSome) = some true := by kernel_rfl
theorem cf156 : ((Try.prog.funcs[156]?).map fun fn => (fn.name != "runtime.NumGoroutine") && fn.body.isSome) = some true := by kernel_rfl
theorem cf157 : ((Try.prog.funcs[157]?).map fun fn => (fn.name != "runtime.NumGoroutine") && fn.body.isSome) = some true := by kernel_rfl
theorem cf158 : ((Try.prog.funcs[158]?).map fun fn => (fn.name != "runtime.NumGoroutine") && fn.body.isSome) = some true := by kernel_rfl
theorem cf159 : ((Try.prog.funcs[159]?).map fun fn => (fn.name != "runtime.NumGoroutine") && fn.body.isSome) = some true := by kernel_rfl
theorem cf160 : ((Try.prog.funcs[160]?).map fun fn => (fn.name != "runtime.NumGoroutine") && fn.body.isSome) = some true := by kernel_rfl
theorem cf161 : ((Try.prog.funcs[161]?).map fun fn => (fn.name != "runtime.NumGoroutine") && fn.body.isSome) = some true := by kernel_rfl
theorem cf162 : ((Try.prog.funcs[162]?).map fun fn => (fn.name != "runtime.NumGoroutine") && fn.body.isSome) = some true := by kernel_rfl
theorem cf163 : ((Try.prog.funcs[163]?).map fun fn => (fn.name != "runtime.NumGoroutine") && fn.body.isSome) = some true := by kernel_rfl
theorem cf164 : ((Try.prog.funcs[164]?).map fun fn => (fn.name != "runtime.NumGoroutine") && fn.body.isSome) = some true := by kernel_rfl
theorem cf165 : ((Try.prog.funcs[165]?).map fun fn => (fn.name != "runtime.NumGoroutine") && fn.body.isSome) = some true := by kernel_rfl
theorem cf166 : ((Try.prog.funcs[166]?).map fun fn => (fn.name != "runtime.NumGoroutine") && fn.body.isSome) = some true := by kernel_rfl
theorem one2 : oneTy Try.prog 2 := by unfold oneTy; kernel_rfl
theorem one3 : oneTy Try.prog 3 := by unfold oneTy; kernel_rfl
theorem one4 : oneTy Try.prog 4 := by unfold oneTy; kernel_rfl
theorem one5 : oneTy Try.prog 5 := by unfold oneTy; kernel_rfl
theorem one9 : oneTy Try.prog 9 := by unfold oneTy; kernel_rfl
theorem one22 : oneTy Try.prog 22 := by unfold oneTy; kernel_rfl
theorem one25 : oneTy Try.prog 25 := by unfold oneTy; kernel_rfl
theorem one29 : oneTy Try.prog 29 := by unfold oneTy; kernel_rfl
theorem one35 : oneTy Try.prog 35 := by unfold oneTy; kernel_rfl
theorem one72 : oneTy Try.prog 72 := by unfold oneTy; kernel_rfl
theorem one86 : oneTy Try.prog 86 := by unfold oneTy; kernel_rfl
theorem one116 : oneTy Try.prog 116 := by unfold oneTy; kernel_rfl
theorem sz2 : (Try.prog.info? 2).map (·.size) = some 1 := by kernel_rfl
theorem sz3 : (Try.prog.info? 3).map (·.size) = some 1 := by kernel_rfl
theorem sz25 : (Try.prog.info? 25).map (·.size) = some 1 := by kernel_rfl
theorem sz29 : (Try.prog.info? 29).map (·.size) = some 1 := by kernel_rfl
theorem sz35 : (Try.prog.info? 35).map (·.size) = some 1 := by kernel_rfl
theorem sz116 : (Try.prog.info? 116).map (·.size) = some 1 := by kernel_rfl
theorem ti2 : TI Try.prog 2 1 (.int .i64 0) 8 := by unfold TI; kernel_rfl
theorem ti5 : TI Try.prog 5 1 (.int .u8 0) 1 := by unfold TI; kernel_rfl
theorem ti25 : TI Try.prog 25 1 (.slice none 0 0) 24 := by unfold TI; kernel_rfl
theorem u2 : Try.prog.underlying 2 = some (.int .i64) := by kernel_rfl
theorem u3 : Try.prog.underlying 3 = some (.int .i64) := by kernel_rfl
theorem u4 : Try.prog.underlying 4 = some (.bool) := by kernel_rfl
theorem u5 : Try.prog.underlying 5 = some (.int .u8) := by kernel_rfl
theorem u9 : Try.prog.underlying 9 = some (.string) := by kernel_rfl
theorem u22 : Try.prog.underlying 22 = some (.slice 5) := by kernel_rfl
theorem u24 : Try.prog.underlying 24 = some (.slice 25) := by kernel_rfl
theorem u25 : Try.prog.underlying 25 = some (.slice 2) := by kernel_rfl
theorem u29 : Try.prog.underlying 29 = some (.slice 31) := by kernel_rfl
theorem u35 : Try.prog.underlying 35 = some (.slice 34) := by kernel_rfl
theorem u116 : Try.prog.underlying 116 = some (.int .u64) := by kernel_rfl
theorem agg31 : aggTy Try.prog 31 5 = true := by kernel_rfl
theorem zr31 : (Try.prog.info? 31).map (·.zero) = some (some (.agg #[.int .i64 0, .int .i64 0, .int .i64 0, .int .i64 0, .slice none 0 0])) := by kernel_rfl
theorem tiS31 : TI Try.prog 31 5 (.agg #[.int .i64 0, .int .i64 0, .int .i64 0, .int .i64 0, .slice none 0 0]) 56 := by unfold TI; kernel_rfl
theorem fd31_0 : fdO Try.prog 31 0 0 = true := by kernel_rfl
theorem fd31_1 : fdO Try.prog 31 1 1 = true := by kernel_rfl
theorem fd31_2 : fdO Try.prog 31 2 2 = true := by kernel_rfl
theorem fd31_3 : fdO Try.prog 31 3 3 = true := by kernel_rfl
theorem fd31_4 : fdO Try.prog 31 4 4 = true := by kernel_rfl
theorem agg34 : aggTy Try.prog 34 3 = true := by kernel_rfl
theorem zr34 : (Try.prog.info? 34).map (·.zero) = some (some (.agg #[.string ByteArray.empty, .int .i64 0, .slice none 0 0])) := by kernel_rfl
theorem tiS34 : TI Try.prog 34 3 (.agg #[.string ByteArray.empty, .int .i64 0, .slice none 0 0]) 48 := by unfold TI; kernel_rfl
theorem fd34_0 : fdO Try.prog 34 0 0 = true := by kernel_rfl
theorem fd34_1 : fdO Try.prog 34 1 1 = true := by kernel_rfl
theorem fd34_2 : fdO Try.prog 34 2 2 = true := by kernel_rfl
theorem agg37 : aggTy Try.prog 37 1 = true := by kernel_rfl
theorem zr37 : (Try.prog.info? 37).map (·.zero) = some (some (.agg #[.slice none 0 0])) := by kernel_rfl
theorem fd37_0 : fdO Try.prog 37 0 0 = true := by kernel_rfl
theorem fd102_0 : fdO Try.prog 102 0 0 = true := by kernel_rfl
theorem fd102_1 : fdO Try.prog 102 1 1 = true := by kernel_rfl
theorem fd102_2 : fdO Try.prog 102 2 2 = true := by kernel_rfl
theorem fd102_3 : fdO Try.prog 102 3 3 = true := by kernel_rfl
theorem fd144_0 : fdO Try.prog 144 0 0 = true := by kernel_rfl
theorem fd144_1 : fdO Try.prog 144 1 1 = true := by kernel_rfl
theorem fd144_2 : fdO Try.prog 144 2 2 = true := by kernel_rfl
theorem fd144_3 : fdO Try.prog 144 3 3 = true := by kernel_rfl
theorem agg163 : aggTy Try.prog 163 2 = true := by kernel_rfl
theorem fd163_0 : fdO Try.prog 163 0 0 = true := by kernel_rfl
theorem fd163_1 : fdO Try.prog 163 1 1 = true := by kernel_rfl
theorem fd171_0 : fdO Try.prog 171 0 0 = true := by kernel_rfl
theorem fd171_1 : fdO Try.prog 171 1 1 = true := by kernel_rfl
theorem fd171_2 : fdO Try.prog 171 2 2 = true := by kernel_rfl
theorem fd171_3 : fdO Try.prog 171 3 3 = true := by kernel_rfl
end Go.Proofs.Ytnokbaiemimhjaa
namespace Go.Proofs.Ytnokbaiemimhjaa
open Go Go.RowKit
set_option linter.unusedVariables false
set_option linter.unusedSimpArgs false
set_option maxHeartbeats 4000000
set_option maxRecDepth 100000
attribute [local irreducible] LW
theorem c_impl_within (w : World) (n : Int) (low : Int) (high : Int) (_hn : -9223372036854775808 ≤ n ∧ n ≤ 9223372036854775807) (_hlow : -9223372036854775808 ≤ low ∧ low ≤ 9223372036854775807) (_hhigh : -9223372036854775808 ≤ high ∧ high ≤ 9223372036854775807)  :
  Calls Try.prog 60 #[.int .i64 n,.int .i64 low,.int .i64 high] w (fun e w' => e = .returned (.bool (decide (low ≤ n) && decide (n ≤ high))) ∧ w' = w) := by
 refine calls_mk [.int .i64 n,.int .i64 low,.int .i64 high] 15 Try.func60 rfl rfl sM ?_
 have hE0 : w = w := rfl
 refine wp_seq (wp_plain _ [0] rfl (lw_tvn 1 rfl (wp_seq (wp_plain _ [0,0,0,0,0,0,0,0,0] rfl (lw_tv 2 rfl ?_)))))
 by_cases hc1 : low ≤ n
 ·
  exact q_geq true rfl rfl (decide_eq_true hc1) zN (lw_tv 3 rfl (q_leq (decide (n ≤ high)) rfl rfl rfl (zS (e := 10) rfl rfl rfl) (lw_tvn 2 rfl (wp_ret (post_ret [6] rfl (.bool (decide (n ≤ high))) rfl ⟨(ret_bool (by simp [*])),hE0⟩)))))
 ·
  exact q_geq false rfl rfl (decide_eq_false hc1) zN (lw_tvn 6 rfl (wp_ret (post_ret [6] rfl (.bool false) rfl ⟨(ret_bool (by simp [*])),hE0⟩)))
theorem c_spec_l00In (w : World) (n : Int) (low : Int) (high : Int) (_hn : -9223372036854775808 ≤ n ∧ n ≤ 9223372036854775807) (_hlow : -9223372036854775808 ≤ low ∧ low ≤ 9223372036854775807) (_hhigh : -9223372036854775808 ≤ high ∧ high ≤ 9223372036854775807)  :
  Calls Try.prog 56 #[.int .i64 n,.int .i64 low,.int .i64 high] w (fun e w' => e = .returned (.bool (decide (low ≤ n) && decide (n ≤ high))) ∧ w' = w) := by
 refine calls_mk [.int .i64 n,.int .i64 low,.int .i64 high] 15 Try.func56 rfl rfl sM ?_
 have hE0 : w = w := rfl
 refine wp_seq (wp_plain _ [0] rfl (lw_tvn 1 rfl (wp_seq (wp_plain _ [0,0,0,0,0,0,0,0,0] rfl (lw_tv 2 rfl ?_)))))
 by_cases hc1 : low ≤ n
 ·
  exact q_geq true rfl rfl (decide_eq_true hc1) zN (lw_tv 3 rfl (q_leq (decide (n ≤ high)) rfl rfl rfl (zS (e := 10) rfl rfl rfl) (lw_tvn 2 rfl (wp_ret (post_ret [6] rfl (.bool (decide (n ≤ high))) rfl ⟨(ret_bool (by simp [*])),hE0⟩)))))
 ·
  exact q_geq false rfl rfl (decide_eq_false hc1) zN (lw_tvn 6 rfl (wp_ret (post_ret [6] rfl (.bool false) rfl ⟨(ret_bool (by simp [*])),hE0⟩)))
theorem c_impl_Residue (w : World) (n : Int) (_hn : -9223372036854775808 ≤ n ∧ n ≤ 9223372036854775807)  :
  Calls Try.prog 89 #[.int .i64 n] w (fun e w' => e = .returned (.int .i64 (md n)) ∧ w' = w) := by
 refine calls_mk [.int .i64 n] 7 Try.func89 rfl rfl sM ?_
 have hE0 : w = w := rfl
 exact wp_seq (wp_plain _ [0] rfl (lw_tvn 1 rfl (wp_seq (wp_plain _ [0,0,0,0,0] rfl (lw_tv 1 rfl (q_rem (n.tmod 1000003) rfl rfl (by decide) rfl zN (q_add (wr ((n.tmod 1000003) + ((1000003 :Nat):Int))) rfl rfl rfl zN (q_rem ((wr ((n.tmod 1000003) + ((1000003 :Nat):Int))).tmod 1000003) rfl rfl (by decide) rfl zN (lw_tvn 1 rfl (wp_ret (post_ret [2] rfl (.int .i64 ((wr ((n.tmod 1000003) + ((1000003 :Nat):Int))).tmod 1000003)) rfl ⟨(ret_int (res_eq n)),hE0⟩)))))))))))
theorem c_impl_Plus (w : World) (a : Int) (b : Int) (_ha : -9223372036854775808 ≤ a ∧ a ≤ 9223372036854775807) (_hb : -9223372036854775808 ≤ b ∧ b ≤ 9223372036854775807)  :
  Calls Try.prog 166 #[.int .i64 a,.int .i64 b] w (fun e w' => e = .returned (.int .i64 (md (a + b))) ∧ w' = w) := by
 refine calls_mk [.int .i64 a,.int .i64 b] 11 Try.func166 rfl rfl sM ?_
 have hE0 : w = w := rfl
 exact wp_seq (wp_plain _ [0] rfl (lw_tvn 1 rfl (wp_seq (wp_plain _ [0,0,0,0,0,0,0] rfl (lw_tv 1 rfl (lw_callq 89 [] [] [(.int .i64 a)] rfl rfl cf89 zN (.int .i64 (md a)) (fun wq => c_impl_Residue wq _ _ha) (lw_tv 1 rfl (lw_callq 89 [] [] [(.int .i64 b)] rfl rfl cf89 zN (.int .i64 (md b)) (fun wq => c_impl_Residue wq _ _hb) (q_add (wr ((md a) + (md b))) rfl rfl rfl zN (q_rem ((wr ((md a) + (md b))).tmod 1000003) rfl rfl (by decide) rfl zN (lw_tvn 1 rfl (wp_ret (post_ret [4] rfl (.int .i64 ((wr ((md a) + (md b))).tmod 1000003)) rfl ⟨(ret_int (plus_eq a b)),hE0⟩)))))))))))))
theorem c_impl_minus (w : World) (a : Int) (b : Int) (_ha : -9223372036854775808 ≤ a ∧ a ≤ 9223372036854775807) (_hb : -9223372036854775808 ≤ b ∧ b ≤ 9223372036854775807)  :
  Calls Try.prog 165 #[.int .i64 a,.int .i64 b] w (fun e w' => e = .returned (.int .i64 (md (a - b))) ∧ w' = w) := by
 refine calls_mk [.int .i64 a,.int .i64 b] 10 Try.func165 rfl rfl sM ?_
 have hE0 : w = w := rfl
 exact wp_seq (wp_plain _ [0] rfl (lw_tvn 1 rfl (wp_seq (wp_plain _ [0,0,0,0,0,0] rfl (lw_tv 2 rfl (lw_callq 89 [] [] [(.int .i64 b)] rfl rfl cf89 zN (.int .i64 (md b)) (fun wq => c_impl_Residue wq _ _hb) (q_sub (wr (((1000003 :Nat):Int) - (md b))) rfl rfl rfl zN (lw_callq 166 [] [] [(.int .i64 a),(.int .i64 (wr (((1000003 :Nat):Int) - (md b))))] rfl rfl cf166 zN (.int .i64 (md (a + (wr (((1000003 :Nat):Int) - (md b)))))) (fun wq => c_impl_Plus wq _ _ _ha (wr_rng _)) (lw_tvn 1 rfl (wp_ret (post_ret [4] rfl (.int .i64 (md (a + (wr (((1000003 :Nat):Int) - (md b)))))) rfl ⟨(ret_int (minus_eq a b)),hE0⟩)))))))))))
theorem sres_a (n : Int) (h : n.tmod 1000003 < ((0 : Nat) : Int)) : wr (n.tmod 1000003 + ((1000003 : Nat) : Int)) = md n := by
  have h1 := md_nonneg n; have h2 := md_lt n; have h3 := md_nonneg (-n); have h4 := md_lt (-n)
  rw [tm n] at h ⊢
  split at h
  · omega
  · rename_i h0
    rw [if_neg h0, wr_of (by omega) (by omega)]
    have e1 : md (-(md (-n)) + ((1000003 : Nat) : Int)) = md (-(md (-n))) := md_P _
    rw [md_neg, Int.neg_neg, md_of (by omega) (by omega)] at e1
    exact e1
theorem sres_b (n : Int) (h : ¬ n.tmod 1000003 < ((0 : Nat) : Int)) : n.tmod 1000003 = md n := by
  have h1 := md_nonneg n; have h2 := md_lt n; have h3 := md_nonneg (-n); have h4 := md_lt (-n)
  rw [tm n] at h ⊢
  split
  · rfl
  · rename_i h0
    rw [if_neg h0] at h
    have e0 : md (-n) = 0 := by omega
    have e1 := md_neg (-n)
    rw [e0, Int.neg_neg] at e1
    rw [e0, ← e1]
    rfl
theorem z51_0 {p : Prop} (h : p := by first | exact ret_int (sres_a n (by assumption)) | exact ret_int (sres_b n (by assumption))) : p := h
theorem c_spec_Residue (w : World) (n : Int) (_hn : -9223372036854775808 ≤ n ∧ n ≤ 9223372036854775807)  :
  Calls Try.prog 51 #[.int .i64 n] w (fun e w' => e = .returned (.int .i64 (md n)) ∧ w' = w) := by
 refine calls_mk [.int .i64 n] 11 Try.func51 rfl rfl sM ?_
 have hE0 : w = w := rfl
 refine wp_seq (wp_plain _ [0] rfl (lw_tvn 1 rfl (wp_seq (wp_plain _ [0,0,0] rfl (lw_tv 1 rfl (q_rem (n.tmod 1000003) rfl rfl (by decide) rfl zN (lw_tvn 1 rfl (wp_seq (wp_seq (wp_plain _ [0,0] rfl (lw_tv 1 rfl ?_)))))))))))
 by_cases hc1 : n.tmod 1000003 < ((0 :Nat):Int)
 ·
  exact q_lss true rfl rfl (decide_eq_true hc1) zN (lw_nil (c_cond_t rfl (wp_plain _ [0,0,0] rfl (lw_tv 1 rfl (q_add (wr ((n.tmod 1000003) + ((1000003 :Nat):Int))) rfl rfl rfl zN (lw_tvn 1 rfl (wp_seq (wp_plain _ [0,0] rfl (lw_tvn 2 rfl (wp_ret (post_ret [2] rfl (.int .i64 (wr ((n.tmod 1000003) + ((1000003 :Nat):Int)))) rfl ⟨z51_0,hE0⟩)))))))))))
 ·
  exact q_lss false rfl rfl (decide_eq_false hc1) zN (lw_nil (c_cond_f rfl (wp_skip (wp_seq (wp_plain _ [0,0] rfl (lw_tvn 2 rfl (wp_ret (post_ret [2] rfl (.int .i64 (n.tmod 1000003)) rfl ⟨z51_0,hE0⟩))))))))
theorem c_spec_Plus (w : World) (a : Int) (b : Int) (_ha : -9223372036854775808 ≤ a ∧ a ≤ 9223372036854775807) (_hb : -9223372036854775808 ≤ b ∧ b ≤ 9223372036854775807)  :
  Calls Try.prog 77 #[.int .i64 a,.int .i64 b] w (fun e w' => e = .returned (.int .i64 (md (a + b))) ∧ w' = w) := by
 refine calls_mk [.int .i64 a,.int .i64 b] 11 Try.func77 rfl rfl sM ?_
 have hE0 : w = w := rfl
 exact wp_seq (wp_plain _ [0] rfl (lw_tvn 1 rfl (wp_seq (wp_plain _ [0,0,0,0,0,0,0] rfl (lw_tv 1 rfl (lw_callq 51 [] [] [(.int .i64 a)] rfl rfl cf51 zN (.int .i64 (md a)) (fun wq => c_spec_Residue wq _ _ha) (lw_tv 1 rfl (lw_callq 51 [] [] [(.int .i64 b)] rfl rfl cf51 zN (.int .i64 (md b)) (fun wq => c_spec_Residue wq _ _hb) (q_add (wr ((md a) + (md b))) rfl rfl rfl zN (q_rem ((wr ((md a) + (md b))).tmod 1000003) rfl rfl (by decide) rfl zN (lw_tvn 1 rfl (wp_ret (post_ret [4] rfl (.int .i64 ((wr ((md a) + (md b))).tmod 1000003)) rfl ⟨(ret_int (plus_eq a b)),hE0⟩)))))))))))))
theorem c_spec_Times (w : World) (a : Int) (b : Int) (_ha : -9223372036854775808 ≤ a ∧ a ≤ 9223372036854775807) (_hb : -9223372036854775808 ≤ b ∧ b ≤ 9223372036854775807)  :
  Calls Try.prog 15 #[.int .i64 a,.int .i64 b] w (fun e w' => e = .returned (.int .i64 (md (a * b))) ∧ w' = w) := by
 refine calls_mk [.int .i64 a,.int .i64 b] 11 Try.func15 rfl rfl sM ?_
 have hE0 : w = w := rfl
 exact wp_seq (wp_plain _ [0] rfl (lw_tvn 1 rfl (wp_seq (wp_plain _ [0,0,0,0,0,0,0] rfl (lw_tv 1 rfl (lw_callq 51 [] [] [(.int .i64 a)] rfl rfl cf51 zN (.int .i64 (md a)) (fun wq => c_spec_Residue wq _ _ha) (lw_tv 1 rfl (lw_callq 51 [] [] [(.int .i64 b)] rfl rfl cf51 zN (.int .i64 (md b)) (fun wq => c_spec_Residue wq _ _hb) (q_mul (wr ((md a) * (md b))) rfl rfl rfl zN (q_rem ((wr ((md a) * (md b))).tmod 1000003) rfl rfl (by decide) rfl zN (lw_tvn 1 rfl (wp_ret (post_ret [4] rfl (.int .i64 ((wr ((md a) * (md b))).tmod 1000003)) rfl ⟨(ret_int (times_eq a b)),hE0⟩)))))))))))))
theorem c_spec_l01Minus (w : World) (a : Int) (b : Int) (_ha : -9223372036854775808 ≤ a ∧ a ≤ 9223372036854775807) (_hb : -9223372036854775808 ≤ b ∧ b ≤ 9223372036854775807) (hs : -9223372036854775808 ≤ a - b ∧ a - b ≤ 9223372036854775807) :
  Calls Try.prog 156 #[.int .i64 a,.int .i64 b] w (fun e w' => e = .returned (.int .i64 (md (a - b))) ∧ w' = w) := by
 refine calls_mk [.int .i64 a,.int .i64 b] 9 Try.func156 rfl rfl sM ?_
 have hE0 : w = w := rfl
 exact wp_seq (wp_plain _ [0] rfl (lw_tvn 1 rfl (wp_seq (wp_plain _ [0,0,0,0,0] rfl (lw_tv 2 rfl (q_sub (wr (a - b)) rfl rfl rfl zN (lw_callq 51 [] [] [(.int .i64 (wr (a - b)))] rfl rfl cf51 zN (.int .i64 (md (wr (a - b)))) (fun wq => c_spec_Residue wq _ (wr_rng _)) (lw_tvn 1 rfl (wp_ret (post_ret [4] rfl (.int .i64 (md (wr (a - b)))) rfl ⟨(ret_int (by rw [wr_of hs.1 hs.2])),hE0⟩))))))))))
theorem z164_0 {p : Prop} (h : p := by exact ⟨by omega, by first | exact pw_odd hI.2 oM (by assumption) | exact pw_even hI.2 oM (by assumption)⟩) : p := h
theorem c_spec_Power (w : World) (a : Int) (n : Int) (_ha : -9223372036854775808 ≤ a ∧ a ≤ 9223372036854775807) (_hn : -9223372036854775808 ≤ n ∧ n ≤ 9223372036854775807)  :
  Calls Try.prog 164 #[.int .i64 a,.int .i64 n] w (fun e w' => e = .returned (.int .i64 (pw a n)) ∧ w' = w) := by
 refine calls_mk [.int .i64 a,.int .i64 n] 25 Try.func164 rfl rfl sM ?_
 have hE0 : w = w := rfl
 refine wp_seq (wp_plain _ [0] rfl (lw_tvn 1 rfl (wp_seq (wp_seq (wp_plain _ [0,0] rfl (lw_tv 1 rfl ?_))))))
 by_cases hc1 : n < ((0 :Nat):Int)
 ·
  exact q_lss true rfl rfl (decide_eq_true hc1) zN (lw_nil (c_cond_t rfl (wp_seq (wp_plain _ [0] rfl (lw_tvn 1 rfl (wp_ret (t_ret (post_ret [4] rfl (.int .i64 ((0 :Nat):Int)) rfl ⟨(ret_int (pw_neg (by assumption))),hE0⟩))))))))
 ·
  refine q_lss false rfl rfl (decide_eq_false hc1) zN (lw_nil (c_cond_f rfl (wp_skip (wp_seq (wp_plain _ [0] rfl (lw_tvn 1 rfl (wp_seq (wp_plain _ [0,0,0] rfl (lw_tv 1 rfl (lw_callq 51 [] [] [(.int .i64 a)] rfl rfl cf51 zN (.int .i64 (md a)) (fun wq => c_spec_Residue wq _ _ha) (lw_tvn 1 rfl (wp_seq (wp_block ?_)))))))))))))
  refine c_loop (S := Int × Int × Int) (fun (⟨m,x,b⟩ : Int × Int × Int) => ([(1,(.int .i64 m)),(5,(.int .i64 x)),(6,(.int .i64 b))] : List (Nat × Value))) (fun (⟨m,x,b⟩ : Int × Int × Int) (W : World) => W = w ∧ (0 ≤ m ∧ md (x * b ^ m.toNat) = md (a ^ n.toNat)) ∧ m ≤ 9223372036854775807 ∧ (0 ≤ x ∧ x < 1000003) ∧ (0 ≤ b ∧ b < 1000003)) (fun (⟨m,x,b⟩ : Int × Int × Int) => m.toNat) (n,((1 :Nat):Int),(md a)) ⟨rfl,rfl,rfl,trivial⟩ ⟨hE0,(by exact ⟨by omega,pw_start a n.toNat⟩),oM,oM,(by exact md_num _)⟩ ?_
  clear hE0
  rintro ⟨m,x,b⟩ ρ3 w3 ⟨hE3,hI,hm,hx,hb⟩
  refine wp_seq (wp_seq (wp_plain _ [0,0] rfl (lw_tv 1 rfl ?_)))
  by_cases hc4 : ((0 :Nat):Int) < m
  ·
   refine q_gtr true rfl rfl (decide_eq_true hc4) zN (lw_nil (c_cond_t rfl (wp_skip (wp_block (wp_seq (wp_seq (wp_plain _ [0,0,0] rfl (lw_tv 1 rfl (q_rem (m % 2) rfl rfl (by decide) (tm2 hI.1) zN ?_)))))))))
   by_cases hc5 : m % 2 = ((1 :Nat):Int)
   ·
    refine q_eql true rfl rfl (decide_eq_true hc5) zN (lw_nil (c_cond_t rfl (wp_plain _ [0,0,0,0] rfl (lw_tv 2 rfl (lw_callq 15 [] [] [(.int .i64 x),(.int .i64 b)] rfl rfl cf15 zN (.int .i64 (md (x * b))) (fun wq => c_spec_Times wq _ _ oM oM) (lw_tvn 1 rfl (wp_seq (wp_plain _ [0,0,0,0] rfl (lw_tv 2 rfl (lw_callq 15 [] [] [(.int .i64 b),(.int .i64 b)] rfl rfl cf15 zN (.int .i64 (md (b * b))) (fun wq => c_spec_Times wq _ _ oM oM) (lw_tvn 1 rfl (wp_plain _ [0,0,0] rfl (lw_tv 1 rfl (q_quo (m / 2) rfl rfl (by decide) (td2 hI.1 hm) zN (lw_tvn 1 rfl ?_)))))))))))))))
    exact ⟨((m / 2),(md (x * b)),(md (b * b))),_,rfl,⟨rfl,rfl,rfl,trivial⟩,⟨hE3,z164_0,oM,(by first | exact hx | exact md_num _),(by exact md_num _)⟩,by first | omega | (dsimp only; omega)⟩
   ·
    exact q_eql false rfl rfl (decide_eq_false hc5) zN (lw_nil (c_cond_f rfl (wp_skip (wp_seq (wp_plain _ [0,0,0,0] rfl (lw_tv 2 rfl (lw_callq 15 [] [] [(.int .i64 b),(.int .i64 b)] rfl rfl cf15 zN (.int .i64 (md (b * b))) (fun wq => c_spec_Times wq _ _ oM oM) (lw_tvn 1 rfl (wp_plain _ [0,0,0] rfl (lw_tv 1 rfl (q_quo (m / 2) rfl rfl (by decide) (td2 hI.1 hm) zN (lw_tvn 1 rfl ⟨((m / 2),x,(md (b * b))),_,rfl,⟨rfl,rfl,rfl,trivial⟩,⟨hE3,z164_0,oM,(by first | exact hx | exact md_num _),(by exact md_num _)⟩,by first | omega | (dsimp only; omega)⟩))))))))))))
  ·
   exact q_gtr false rfl rfl (decide_eq_false hc4) zN (lw_nil (c_cond_f rfl (wp_exit (t_exit (t_exit (c_exit_here (wp_seq (wp_plain _ [0,0] rfl (lw_tvn 2 rfl (wp_ret (post_ret [4] rfl (.int .i64 x) rfl ⟨(ret_int (pw_end hI.2 hI.1 (by assumption) (by assumption) hx)),hE3⟩)))))))))))
theorem z90_0 {p : Prop} (h : p := by exact ⟨by omega, by first | exact pw_odd hI.2 oM (by assumption) | exact pw_even hI.2 oM (by assumption)⟩) : p := h
theorem c_impl_Power (w : World) (a : Int) (n : Int) (_ha : -9223372036854775808 ≤ a ∧ a ≤ 9223372036854775807) (_hn : -9223372036854775808 ≤ n ∧ n ≤ 9223372036854775807)  :
  Calls Try.prog 90 #[.int .i64 a,.int .i64 n] w (fun e w' => e = .returned (.int .i64 (pw a n)) ∧ w' = w) := by
 refine calls_mk [.int .i64 a,.int .i64 n] 27 Try.func90 rfl rfl sM ?_
 have hE0 : w = w := rfl
 refine wp_seq (wp_plain _ [0] rfl (lw_tvn 1 rfl (wp_seq (wp_seq (wp_plain _ [0,0] rfl (lw_tv 1 rfl ?_))))))
 by_cases hc1 : n < ((0 :Nat):Int)
 ·
  exact q_lss true rfl rfl (decide_eq_true hc1) zN (lw_nil (c_cond_t rfl (wp_seq (wp_plain _ [0] rfl (lw_tvn 1 rfl (wp_ret (t_ret (post_ret [4] rfl (.int .i64 ((0 :Nat):Int)) rfl ⟨(ret_int (pw_neg (by assumption))),hE0⟩))))))))
 ·
  refine q_lss false rfl rfl (decide_eq_false hc1) zN (lw_nil (c_cond_f rfl (wp_skip (wp_seq (wp_plain _ [0] rfl (lw_tvn 1 rfl (wp_seq (wp_seq (wp_plain _ [0,0,0] rfl (lw_tv 1 rfl (lw_callq 89 [] [] [(.int .i64 a)] rfl rfl cf89 zN (.int .i64 (md a)) (fun wq => c_impl_Residue wq _ _ha) (lw_tvn 1 rfl (wp_block ?_)))))))))))))
  refine c_loop (S := Int × Int × Int) (fun (⟨m,x,b⟩ : Int × Int × Int) => ([(1,(.int .i64 m)),(5,(.int .i64 x)),(6,(.int .i64 b))] : List (Nat × Value))) (fun (⟨m,x,b⟩ : Int × Int × Int) (W : World) => W = w ∧ (0 ≤ m ∧ md (x * b ^ m.toNat) = md (a ^ n.toNat)) ∧ m ≤ 9223372036854775807 ∧ (0 ≤ x ∧ x < 1000003) ∧ (0 ≤ b ∧ b < 1000003)) (fun (⟨m,x,b⟩ : Int × Int × Int) => m.toNat) (n,((1 :Nat):Int),(md a)) ⟨rfl,rfl,rfl,trivial⟩ ⟨hE0,(by exact ⟨by omega,pw_start a n.toNat⟩),oM,oM,(by exact md_num _)⟩ ?_
  clear hE0
  rintro ⟨m,x,b⟩ ρ3 w3 ⟨hE3,hI,hm,hx,hb⟩
  refine wp_seq (wp_seq (wp_plain _ [0,0] rfl (lw_tv 1 rfl ?_)))
  by_cases hc4 : ((0 :Nat):Int) < m
  ·
   refine q_gtr true rfl rfl (decide_eq_true hc4) zN (lw_nil (c_cond_t rfl (wp_skip (wp_seq (wp_block (wp_seq (wp_seq (wp_plain _ [0,0,0] rfl (lw_tv 1 rfl (q_rem (m % 2) rfl rfl (by decide) (tm2 hI.1) zN ?_))))))))))
   by_cases hc5 : m % 2 = ((1 :Nat):Int)
   ·
    refine q_eql true rfl rfl (decide_eq_true hc5) zN (lw_nil (c_cond_t rfl (wp_plain _ [0,0,0,0,0] rfl (lw_tv 2 rfl (q_mul (wr (x * b)) rfl rfl rfl zN (q_rem (md (x * b)) rfl rfl (by decide) (nm_eq hx hb) zN (lw_tvn 1 rfl (wp_plain _ [0,0,0,0,0] rfl (lw_tv 2 rfl (q_mul (wr (b * b)) rfl rfl rfl zN (q_rem (md (b * b)) rfl rfl (by decide) (nm_eq hb hb) zN (lw_tvn 1 rfl (wp_plain _ [0,0,0] rfl (lw_tv 1 rfl (q_quo (m / 2) rfl rfl (by decide) (td2 hI.1 hm) zN (lw_tvn 1 rfl ?_))))))))))))))))
    exact ⟨((m / 2),(md (x * b)),(md (b * b))),_,rfl,⟨rfl,rfl,rfl,trivial⟩,⟨hE3,z90_0,oM,(by first | exact hx | exact md_num _),(by exact md_num _)⟩,by first | omega | (dsimp only; omega)⟩
   ·
    exact q_eql false rfl rfl (decide_eq_false hc5) zN (lw_nil (c_cond_f rfl (wp_skip (wp_plain _ [0,0,0,0,0] rfl (lw_tv 2 rfl (q_mul (wr (b * b)) rfl rfl rfl zN (q_rem (md (b * b)) rfl rfl (by decide) (nm_eq hb hb) zN (lw_tvn 1 rfl (wp_plain _ [0,0,0] rfl (lw_tv 1 rfl (q_quo (m / 2) rfl rfl (by decide) (td2 hI.1 hm) zN (lw_tvn 1 rfl ⟨((m / 2),x,(md (b * b))),_,rfl,⟨rfl,rfl,rfl,trivial⟩,⟨hE3,z90_0,oM,(by first | exact hx | exact md_num _),(by exact md_num _)⟩,by first | omega | (dsimp only; omega)⟩))))))))))))
  ·
   exact q_gtr false rfl rfl (decide_eq_false hc4) zN (lw_nil (c_cond_f rfl (wp_exit (t_exit (t_exit (c_exit_here (wp_seq (wp_plain _ [0,0] rfl (lw_tvn 2 rfl (wp_ret (post_ret [4] rfl (.int .i64 x) rfl ⟨(ret_int (pw_end hI.2 hI.1 (by assumption) (by assumption) hx)),hE3⟩)))))))))))
theorem c_spec_l01Inv (w : World) (a : Int) (_ha : -9223372036854775808 ≤ a ∧ a ≤ 9223372036854775807)  :
  Calls Try.prog 155 #[.int .i64 a] w (fun e w' => e = .returned (.int .i64 (inv a)) ∧ w' = w) := by
 refine calls_mk [.int .i64 a] 5 Try.func155 rfl rfl sM ?_
 have hE0 : w = w := rfl
 exact wp_seq (wp_plain _ [0] rfl (lw_tvn 1 rfl (wp_seq (wp_plain _ [0,0,0] rfl (lw_tv 1 rfl (lw_callq 164 [] [] [(.int .i64 a),(.int .i64 ((1000001 :Nat):Int))] rfl rfl cf164 zN (.int .i64 (pw a ((1000001 :Nat):Int))) (fun wq => c_spec_Power wq _ _ _ha oM) (lw_tvn 1 rfl (wp_ret (post_ret [2] rfl (.int .i64 (pw a ((1000001 :Nat):Int))) rfl ⟨rfl,hE0⟩)))))))))
theorem c_impl_inverse (w : World) (a : Int) (_ha : -9223372036854775808 ≤ a ∧ a ≤ 9223372036854775807)  :
  Calls Try.prog 48 #[.int .i64 a] w (fun e w' => e = .returned (.int .i64 (inv a)) ∧ w' = w) := by
 refine calls_mk [.int .i64 a] 5 Try.func48 rfl rfl sM ?_
 have hE0 : w = w := rfl
 exact wp_seq (wp_plain _ [0] rfl (lw_tvn 1 rfl (wp_seq (wp_plain _ [0,0,0] rfl (lw_tv 1 rfl (lw_callq 90 [] [] [(.int .i64 a),(.int .i64 ((1000001 :Nat):Int))] rfl rfl cf90 zN (.int .i64 (pw a ((1000001 :Nat):Int))) (fun wq => c_impl_Power wq _ _ _ha oM) (lw_tvn 1 rfl (wp_ret (post_ret [2] rfl (.int .i64 (pw a ((1000001 :Nat):Int))) rfl ⟨rfl,hE0⟩)))))))))
theorem c_impl_isNumber (w : World) (n : Int) (_hn : -9223372036854775808 ≤ n ∧ n ≤ 9223372036854775807)  :
  Calls Try.prog 88 #[.int .i64 n] w (fun e w' => e = .returned (.bool (isN n)) ∧ w' = w) := by
 refine calls_mk [.int .i64 n] 5 Try.func88 rfl rfl sM ?_
 have hE0 : w = w := rfl
 exact wp_seq (wp_plain _ [0] rfl (lw_tvn 1 rfl (wp_seq (wp_plain _ [0,0,0] rfl (lw_tv 1 rfl (lw_callq 60 [] [] [(.int .i64 n),(.int .i64 ((0 :Nat):Int)),(.int .i64 ((1000002 :Nat):Int))] rfl rfl cf60 zN (.bool (decide (((0 :Nat):Int) ≤ n) && decide (n ≤ ((1000002 :Nat):Int)))) (fun wq => c_impl_within wq _ _ _ _hn oM oM) (lw_tvn 1 rfl (wp_ret (post_ret [2] rfl (.bool (decide (((0 :Nat):Int) ≤ n) && decide (n ≤ ((1000002 :Nat):Int)))) rfl ⟨(ret_bool (by unfold isN; rfl)),hE0⟩)))))))))
theorem c_spec_l01Number (w : World) (n : Int) (_hn : -9223372036854775808 ≤ n ∧ n ≤ 9223372036854775807)  :
  Calls Try.prog 134 #[.int .i64 n] w (fun e w' => e = .returned (.bool (isN n)) ∧ w' = w) := by
 refine calls_mk [.int .i64 n] 5 Try.func134 rfl rfl sM ?_
 have hE0 : w = w := rfl
 exact wp_seq (wp_plain _ [0] rfl (lw_tvn 1 rfl (wp_seq (wp_plain _ [0,0,0] rfl (lw_tv 1 rfl (lw_callq 56 [] [] [(.int .i64 n),(.int .i64 ((0 :Nat):Int)),(.int .i64 ((1000002 :Nat):Int))] rfl rfl cf56 zN (.bool (decide (((0 :Nat):Int) ≤ n) && decide (n ≤ ((1000002 :Nat):Int)))) (fun wq => c_spec_l00In wq _ _ _ _hn oM oM) (lw_tvn 1 rfl (wp_ret (post_ret [2] rfl (.bool (decide (((0 :Nat):Int) ≤ n) && decide (n ≤ ((1000002 :Nat):Int)))) rfl ⟨(ret_bool (by unfold isN; rfl)),hE0⟩)))))))))
theorem c_impl_areNumbers_1 (w : World) (n : Int) (_hn : -9223372036854775808 ≤ n ∧ n ≤ 9223372036854775807)  :
  Calls Try.prog 87 #[.int .i64 n] w (fun e w' => e = .returned (.bool (!isN n)) ∧ Ext w w') := by
 refine calls_mk [.int .i64 n] 6 Try.func87 rfl rfl sM ?_
 have hE0 : Ext w w := Ext.refl w
 exact wp_seq (wp_plain _ [0] rfl (lw_tvn 1 rfl (wp_seq (wp_plain _ [0,0,0,0] rfl (lw_tv 1 rfl (lw_callq 88 [] [] [(.int .i64 n)] rfl rfl cf88 zN (.bool (isN n)) (fun wq => c_impl_isNumber wq _ _hn) (q_not (!(isN n)) rfl rfl zN (lw_tvn 1 rfl (wp_ret (post_ret [2] rfl (.bool (!(isN n))) rfl ⟨rfl,hE0⟩))))))))))
end Go.Proofs.Ytnokbaiemimhjaa
namespace Go.Proofs.Ytnokbaiemimhjaa
open Go Go.RowKit
set_option linter.unusedVariables false
set_option linter.unusedSimpArgs false
section
variable {a : List (List (List Int))} {b : List (List Int)} {N : Nat}
theorem SysP.some (h : SysP a b N) (hd : detM (begA a) ≠ 0) : ∃ M, jorS a b = some M := Option.ne_none_iff_exists'.1 (fun hn => hd (h.jor.1 hn))
end
end Go.Proofs.Ytnokbaiemimhjaa
namespace Go.Proofs.Ytnokbaiemimhjaa
open Go Go.RowKit
set_option linter.unusedVariables false
set_option linter.unusedSimpArgs false
set_option maxHeartbeats 4000000
set_option maxRecDepth 100000
attribute [local irreducible] LW
def ixF {α : Type} (p : α → Bool) (l : List α) : Int := if l.any p then ((l.findIdx p : Nat) : Int) else -1
theorem ix_yes {α : Type} {p : α → Bool} {l : List α} {k : Nat} (d : α) (h : ∀ j, j < k → p (l.getD j d) = false) (hk : k < l.length) (hp : p (l.getD k d) = true) : ((k : Nat) : Int) = ixF p l := by
  have e : ∀ j, (hj : j < l.length) → l.getD j d = l[j] := fun j hj => by simp [hj]
  have h1 : l.any p = true := List.any_eq_true.2 ⟨l[k], List.getElem_mem hk, by rw [← e k hk]; exact hp⟩
  have h2 : l.findIdx p = k := by
    rw [List.findIdx_eq hk]
    refine ⟨by rw [← e k hk]; exact hp, fun j hj => ?_⟩
    have := h j hj
    rw [e j (by omega)] at this
    exact this
  unfold ixF; rw [if_pos h1, h2]
theorem ix_no {α : Type} {p : α → Bool} {l : List α} {k : Nat} (d : α) (h : ∀ j, j < k → p (l.getD j d) = false) (hk : l.length ≤ k) : (-1 : Int) = ixF p l := by
  have h1 : l.any p = false := by
    rw [List.any_eq_false]
    intro x hx
    obtain ⟨j, hj, rfl⟩ := List.getElem_of_mem hx
    have := h j (by omega)
    have e : l.getD j d = l[j] := by simp [hj]
    rw [e] at this
    simp [this]
  unfold ixF; rw [h1]; rfl
theorem ix_ge {α : Type} (p : α → Bool) (l : List α) : decide (((0 : Nat) : Int) ≤ ixF p l) = l.any p := by
  unfold ixF
  split
  · rename_i h; rw [h]; exact decide_eq_true (by omega)
  · rename_i h; rw [Bool.not_eq_true] at h; rw [h]; exact decide_eq_false (by omega)
theorem ix_step {α : Type} {p : α → Bool} {l : List α} {k : Nat} {d : α} (h : ∀ j, j < k → p (l.getD j d) = false) (hp : p (l.getD k d) = false) : ∀ j, j < k + 1 → p (l.getD j d) = false := by
  intro j hj
  by_cases e : j = k
  · subst e; exact hp
  · exact h j (by omega)
theorem c_slices_IndexFunc___int64_int64_ (w : World) (va : Value) (a : List Int) (q : Nat) (qf qc : List Value) (p : Int → Bool) (ha : Rd (rdL rI) w.heap va a) (hcf_q : ((Try.prog.funcs[q]?).map fun fn => (fn.name != "runtime.NumGoroutine") && fn.body.isSome) = some true) (hp : ∀ (x : Int),-9223372036854775808 ≤ x ∧ x ≤ 9223372036854775807 → ∀ w1,Ext w w1 → Calls Try.prog q (qf ++ [Value.int .i64 x] ++ qc).toArray w1 (fun e w2 => e = .returned (.bool (p x)) ∧ Ext w1 w2))  :
  Calls Try.prog 119 #[va,.func (.func q) qf.toArray qc.toArray] w (fun e w' => e = .returned (.int .i64 (ixF p a)) ∧ Ext w w') := by
 refine calls_mk [va,.func (.func q) qf.toArray qc.toArray] 19 Try.func119 rfl rfl sM ?_
 have hE0 : Ext w w := Ext.refl w
 have hl_va := ha.lenle
 refine wp_seq (wp_plain _ [0] rfl (lw_tvn 1 rfl (wp_seq (wp_seq (wp_plain _ [0,0,0] rfl (lw_tv 1 rfl (q_len (v := va) u25 rfl ha.isSl zN (lw_tvn 1 rfl (wp_block ?_)))))))))
 refine c_loop (S := Nat) (fun (k : Nat) => ([(8,(.int .i64 ((k :Nat):Int))),(0,va),(1,(.func (.func q) qf.toArray qc.toArray)),(7,(.int .i64 ((a.length :Nat):Int)))] : List (Nat × Value))) (fun (k : Nat) (W : World) => Ext w W ∧ k ≤ a.length ∧ (∀ j,j < k → p (a.getD j 0) = false)) (fun (k : Nat) => a.length - k) 0 ⟨rfl,rfl,rfl,rfl,trivial⟩ ⟨hE0,sD,(by intro j hj; omega)⟩ ?_
 clear hE0
 rintro k ρ1 w1 ⟨hE1,hp1_0,hq⟩
 have hzs1 : w.heap.size ≤ w1.heap.size := hE1.size
 refine wp_seq (wp_plain _ [0] rfl ?_)
 by_cases hc2 : ((k :Nat):Int) < ((a.length :Nat):Int)
 ·
  refine q_lss true rfl rfl (decide_eq_true hc2) zN (lw_nil (wp_seq (c_cond_t rfl (wp_skip (wp_seq (wp_block (wp_seq (wp_plain _ [0,0] rfl (lw_tvn 2 rfl (wp_seq (wp_plain _ [0,0,0,0,2,3] rfl (lw_tv 3 rfl (q_idx (v := va) k u25 ti2 rfl rfl ha.isSl rfl sD zN ?_)))))))))))))
  refine q_load (p := eptr va k 1) (.inr rfl) (.int .i64 (a.getD k 0)) one2 rfl (ldH_ext hE1 (ha.getI sD).1) zN ?_
  have hcall3 := hp (a.getD k 0) (ha.getI sD).2 _ hE1
  refine lw_call q qf qc _ rfl rfl hcf_q zN hcall3 ?_
  rintro e3 w3 ⟨rfl,hX3⟩
  refine ⟨_,rfl,hX3,?_⟩
  have hzs3:=hX3.size
  have hE3:=hE1.trans hX3
  cases hc3 : p (a.getD k 0)
  ·
   refine lw_nil (c_cond_f rfl (wp_skip (wp_plain _ [0,0] rfl (q_add ((k + 1 :Nat):Int) rfl rfl (w64n oM sD) zN (lw_tvn 1 rfl ?_)))))
   exact ⟨(k + 1),_,rfl,⟨rfl,rfl,rfl,rfl,trivial⟩,⟨hE3,sD,(by exact ix_step hq (by assumption))⟩,by first | omega | (dsimp only; omega)⟩
  ·
   exact lw_nil (c_cond_t rfl (wp_seq (wp_plain _ [0,0] rfl (lw_tvn 2 rfl (wp_ret (b_ret (t_ret (t_ret (b_ret (t_ret (post_ret [4] rfl (.int .i64 ((k :Nat):Int)) rfl ⟨(ret_int (ix_yes 0 hq oM (by assumption))),hE3⟩)))))))))))
 ·
  exact q_lss false rfl rfl (decide_eq_false hc2) zN (lw_nil (wp_seq (c_cond_f rfl (wp_exit (t_exit (t_exit (c_exit_here (wp_seq (wp_plain _ [0] rfl (lw_tvn 1 rfl (wp_ret (post_ret [4] rfl (.int .i64 (-1)) rfl ⟨(ret_int (ix_no 0 hq oM)),hE1⟩))))))))))))
theorem c_slices_ContainsFunc___int64_int64_ (w : World) (va : Value) (a : List Int) (q : Nat) (qf qc : List Value) (p : Int → Bool) (ha : Rd (rdL rI) w.heap va a) (hcf_q : ((Try.prog.funcs[q]?).map fun fn => (fn.name != "runtime.NumGoroutine") && fn.body.isSome) = some true) (hp : ∀ (x : Int),-9223372036854775808 ≤ x ∧ x ≤ 9223372036854775807 → ∀ w1,Ext w w1 → Calls Try.prog q (qf ++ [Value.int .i64 x] ++ qc).toArray w1 (fun e w2 => e = .returned (.bool (p x)) ∧ Ext w1 w2))  :
  Calls Try.prog 86 #[va,.func (.func q) qf.toArray qc.toArray] w (fun e w' => e = .returned (.bool (a.any p)) ∧ Ext w w') := by
 refine calls_mk [va,.func (.func q) qf.toArray qc.toArray] 9 Try.func86 rfl rfl sM ?_
 have hE0 : Ext w w := Ext.refl w
 have hl_va := ha.lenle
 refine wp_seq (wp_plain _ [0] rfl (lw_tvn 1 rfl (wp_seq (wp_plain _ [0,0,3,0,0] rfl (lw_tv 2 rfl (lw_call 119 [] [] [va,(.func (.func q) qf.toArray qc.toArray)] rfl rfl cf119 zN (c_slices_IndexFunc___int64_int64_ _ _ _ q qf qc p (ha.ext g1 hE0) hcf_q (fun x hx w1 hw => hp x hx w1 (hE0.trans hw))) ?_))))))
 rintro e1 w1 ⟨rfl,hX1⟩
 refine ⟨_,rfl,hX1,?_⟩
 have hzs1:=hX1.size
 have hE1:=hE0.trans hX1
 exact q_geq (decide (((0 :Nat):Int) ≤ ixF p a)) rfl rfl rfl zN (lw_tvn 1 rfl (wp_ret (post_ret [4] rfl (.bool (decide (((0 :Nat):Int) ≤ ixF p a))) rfl ⟨(ret_bool (ix_ge p a)),hE1⟩)))
theorem c_slices_Clone___int64_int64_ (w : World) (va : Value) (a : List Int) (ha : Rd (rdL rI) w.heap va a) (hla : a.length ≤ 1000000000000) :
  Calls Try.prog 45 #[va] w (fun e w' => ∃ v0 : Value,e = .returned (v0) ∧ Ext w w' ∧ Fr (owL rI 2) w.heap.size w'.heap.size w'.heap v0 a) := by
 refine calls_mk [va] 8 Try.func45 rfl rfl sM ?_
 have hE0 : Ext w w := Ext.refl w
 have hl_va := ha.lenle
 refine wp_seq (wp_plain _ [0] rfl (lw_tvn 1 rfl (wp_seq (wp_seq (wp_plain _ [0,0] rfl (lw_tv 1 rfl ?_))))))
 cases hc1 : isNilV va
 ·
  refine q_nilq (v := va) false u25 rfl rfl ha.isSl hc1 zN (lw_nil (c_cond_f rfl (wp_skip (wp_seq (wp_plain _ [3,0,4,0] rfl (r_nil (rI) good_rI u25 ti2 zN fun v2 w2 hX2 hz2 hO2 => ?_))))))
  have hzs2:=hX2.size
  have hE2:=hE0.trans hX2
  refine lw_tv 1 rfl (e_appI (v := v2) (a := va) u25 ti2 rfl rfl rfl hO2 hE2.size (ha.ext g1 hE2) sD (by unfold maxLen; first | omega | assumption | (simp; done) | (simp; omega)) zN fun v3 w3 F3 hC3 hF3 hO3 => ?_)
  have hE3 : Ext w w3 := hC3.below hE2 (fun c hc => Nat.le_trans (Nat.le_refl _) (hF3 c hc).1) hE2.size
  have hzs3:=hC3.size
  exact lw_tvn 1 rfl (wp_ret (post_ret [2] rfl v3 rfl ⟨v3,rfl,hE3,hO3.up o1⟩))
 ·
  refine q_nilq (v := va) true u25 rfl rfl ha.isSl hc1 zN (lw_nil (c_cond_t rfl (wp_seq (wp_plain _ [0] rfl (lw_tvn 1 rfl (wp_ret (t_ret ?_)))))))
  have hnil : a = [] := ha.nil_of (by assumption)
  subst hnil
  exact post_ret [2] rfl (.slice none 0 0) rfl ⟨(.slice none 0 0),rfl,hE0,frNil _ _ _⟩
theorem c_impl_areNumbers (w : World) (va : Value) (a : List Int) (count : Int) (ha : Rd (rdL rI) w.heap va a) (_hcount : -9223372036854775808 ≤ count ∧ count ≤ 9223372036854775807)  :
  Calls Try.prog 42 #[va,.int .i64 count] w (fun e w' => e = .returned (.bool (decide (((a.length :Nat):Int) = count) && allN a)) ∧ Ext w w') := by
 refine calls_mk [va,.int .i64 count] 14 Try.func42 rfl rfl sM ?_
 have hE0 : Ext w w := Ext.refl w
 have hl_va := ha.lenle
 refine wp_seq (wp_plain _ [0] rfl (lw_tvn 1 rfl (wp_seq (wp_plain _ [0,0,0,0,0,0,3,0,0,0] rfl (lw_tv 1 rfl (q_len (v := va) u25 rfl ha.isSl zN (lw_tv 1 rfl ?_)))))))
 by_cases hc1 : ((a.length :Nat):Int) = count
 ·
  refine q_eql true rfl rfl (decide_eq_true hc1) zN (lw_tv 2 rfl (lw_call 86 [] [] [va,(.func (.func 87) #[] #[])] rfl rfl cf86 (zS (e := 9) rfl rfl rfl) (c_slices_ContainsFunc___int64_int64_ _ _ _ 87 [] [] (fun x => !isN x) (ha.ext g1 hE0) cf87 (fun x hx w1 hw => c_impl_areNumbers_1 w1 x hx)) ?_))
  rintro e2 w2 ⟨rfl,hX2⟩
  refine ⟨_,rfl,hX2,?_⟩
  have hzs2:=hX2.size
  have hE2:=hE0.trans hX2
  exact q_not (!(a.any (fun x => !isN x))) rfl rfl (zS (e := 9) rfl rfl rfl) (lw_tvn 2 rfl (wp_ret (post_ret [4] rfl (.bool (!(a.any (fun x => !isN x)))) rfl ⟨(ret_bool (by first | (rw [any_not]; simp [*]; done) | simp [*])),hE2⟩)))
 ·
  exact q_eql false rfl rfl (decide_eq_false hc1) zN (lw_tvn 6 rfl (wp_ret (post_ret [4] rfl (.bool false) rfl ⟨(ret_bool (by first | (rw [any_not]; simp [*]; done) | simp [*])),hE0⟩)))
theorem c_spec_l01Numbers (w : World) (va : Value) (a : List Int) (ha : Rd (rdL rI) w.heap va a)  :
  Calls Try.prog 112 #[va] w (fun e w' => e = .returned (.bool (allN a)) ∧ Ext w w') := by
 refine calls_mk [va] 16 Try.func112 rfl rfl sM ?_
 have hE0 : Ext w w := Ext.refl w
 have hl_va := ha.lenle
 refine wp_seq (wp_plain _ [0] rfl (lw_tvn 1 rfl (wp_seq (wp_seq (wp_plain _ [0] rfl (lw_tvn 1 rfl (wp_block (c_loop (S := Nat) (fun (k : Nat) => ([(3,(.int .i64 ((k :Nat):Int))),(0,va)] : List (Nat × Value))) (fun (k : Nat) (W : World) => Ext w W ∧ k ≤ a.length ∧ ((a.take k).all isN = true)) (fun (k : Nat) => a.length - k) 0 ⟨rfl,rfl,trivial⟩ ⟨hE0,sD,(by exact all_none _ _)⟩ ?_))))))))
 clear hE0
 rintro k ρ1 w1 ⟨hE1,hp1_0,hq⟩
 have hzs1 : w.heap.size ≤ w1.heap.size := hE1.size
 refine wp_seq (wp_seq (wp_plain _ [0,0,0,0] rfl (lw_tv 2 rfl (q_len (v := va) u25 rfl ha.isSl zN ?_))))
 by_cases hc2 : ((k :Nat):Int) < ((a.length :Nat):Int)
 ·
  refine q_lss true rfl rfl (decide_eq_true hc2) zN (lw_nil (c_cond_t rfl (wp_skip (wp_seq (wp_block (wp_seq (wp_plain _ [0,0,0,2,0,0] rfl (lw_tv 2 rfl (q_idx (v := va) k u25 ti2 rfl rfl ha.isSl rfl sD zN ?_)))))))))
  refine q_load (p := eptr va k 1) (.inr rfl) (.int .i64 (a.getD k 0)) one2 rfl (ldH_ext hE1 (ha.getI sD).1) zN ?_
  refine lw_callq 134 [] [] [(.int .i64 (a.getD k 0))] rfl rfl cf134 zN (.bool (isN (a.getD k 0))) (fun wq => c_spec_l01Number wq _ (ha.getI sD).2) (q_not (!(isN (a.getD k 0))) rfl rfl zN (lw_nil ?_))
  cases hb4 : (!(isN (a.getD k 0)))
  ·
   refine c_cond_f (by first | rfl | (show Value.bool _ = _; rw [hb4])) (wp_skip (wp_plain _ [0,0,0] rfl (lw_tv 1 rfl (q_add ((k + 1 :Nat):Int) rfl rfl (w64n oM sD) zN (lw_tvn 1 rfl ?_)))))
   exact ⟨(k + 1),_,rfl,⟨rfl,rfl,trivial⟩,⟨hE1,sD,(by exact all_succ 0 hq oM (by simpa using ‹(!isN (a.getD k 0)) = false›))⟩,by first | omega | (dsimp only; omega)⟩
  ·
   exact c_cond_t (by first | rfl | (show Value.bool _ = _; rw [hb4])) (wp_seq (wp_plain _ [0] rfl (lw_tvn 1 rfl (wp_ret (b_ret (t_ret (t_ret (b_ret (t_ret (post_ret [2] rfl (.bool false) rfl ⟨(ret_bool (all_fail (k := k) 0 oM (by simpa using ‹(!isN (a.getD k 0)) = true›)).symm),hE1⟩))))))))))
 ·
  exact q_lss false rfl rfl (decide_eq_false hc2) zN (lw_nil (c_cond_f rfl (wp_exit (t_exit (t_exit (c_exit_here (wp_seq (wp_plain _ [0] rfl (lw_tvn 1 rfl (wp_ret (post_ret [2] rfl (.bool true) rfl ⟨(ret_bool (all_done hq oM).symm),hE1⟩)))))))))))
end Go.Proofs.Ytnokbaiemimhjaa
namespace Go.Proofs.Ytnokbaiemimhjaa
open Go Go.RowKit
set_option linter.unusedVariables false
set_option linter.unusedSimpArgs false
set_option maxHeartbeats 4000000
set_option maxRecDepth 100000
attribute [local irreducible] LW
theorem c_spec_l01Scale (w : World) (va : Value) (a : List Int) (y : Int) (ha : Rd (rdL rI) w.heap va a) (_hy : -9223372036854775808 ≤ y ∧ y ≤ 9223372036854775807) (hla : a.length ≤ 1000000000000) :
  Calls Try.prog 40 #[va,.int .i64 y] w (fun e w' => ∃ v0 : Value,e = .returned (v0) ∧ Ext w w' ∧ Fr (owL rI 2) w.heap.size w'.heap.size w'.heap v0 (scl a y)) := by
 refine calls_mk [va,.int .i64 y] 24 Try.func40 rfl rfl sM ?_
 have hE0 : Ext w w := Ext.refl w
 have hl_va := ha.lenle
 refine wp_seq (wp_plain _ [0] rfl (lw_tvn 1 rfl (wp_seq (wp_plain _ [3,0] rfl (r_nil (rI) good_rI u25 ti2 zN fun v1 w1 hX1 hz1 hO1 => ?_)))))
 have hzs1:=hX1.size
 have hE1:=hE0.trans hX1
 refine lw_tvn 1 rfl (wp_seq (wp_seq (wp_plain _ [0] rfl (lw_tvn 1 rfl (wp_block ?_)))))
 refine c_loop (S := Nat × Value) (fun (⟨k,vo⟩ : Nat × Value) => ([(5,vo),(6,(.int .i64 ((k :Nat):Int))),(0,va),(1,(.int .i64 y))] : List (Nat × Value))) (fun (⟨k,vo⟩ : Nat × Value) (W : World) => Ext w W ∧ Fr (owL rI 2) w.heap.size W.heap.size W.heap vo ((a.take k).map (fun x => md (x * y))) ∧ k ≤ a.length) (fun (⟨k,vo⟩ : Nat × Value) => a.length - k) (0,v1) ⟨rfl,rfl,rfl,rfl,trivial⟩ ⟨hE1,hO1.up o1,sD⟩ ?_
 clear hE0 hO1 hz1 hX1 hzs1 hE1
 rintro ⟨k,vo⟩ ρ2 w2 ⟨hE2,hL2_0,hp2_0⟩
 have hzs2 : w.heap.size ≤ w2.heap.size := hE2.size
 refine wp_seq (wp_seq (wp_plain _ [0,0,0,0] rfl (lw_tv 2 rfl (q_len (v := va) u25 rfl ha.isSl zN ?_))))
 by_cases hc3 : ((k :Nat):Int) < ((a.length :Nat):Int)
 ·
  refine q_lss true rfl rfl (decide_eq_true hc3) zN (lw_nil (c_cond_t rfl (wp_skip (wp_seq (wp_block (wp_plain _ [0,0,0,0,2,0,0,3,4,0] rfl (lw_tv 3 rfl (q_idx (v := va) k u25 ti2 rfl rfl ha.isSl rfl sD zN ?_))))))))
  refine q_load (p := eptr va k 1) (.inr rfl) (.int .i64 (a.getD k 0)) one2 rfl (ldH_ext hE2 (ha.getI sD).1) zN (lw_tv 1 rfl ?_)
  refine lw_callq 15 [] [] [(.int .i64 (a.getD k 0)),(.int .i64 y)] rfl rfl cf15 zN (.int .i64 (md ((a.getD k 0) * y))) (fun wq => c_spec_Times wq _ _ (ha.getI sD).2 _hy) (r_one (u := (.int .i64 (md ((a.getD k 0) * y)))) (B := w2.heap.size) good_rI u25 ti2 rfl rfl (frI w2.heap.size w2.heap.size _ _ (md_rng _)) (Nat.le_refl _) zN fun v5 w5 hX5 hz5 hO5 => ?_)
  have hzs5:=hX5.size
  have hE5:=hE2.trans hX5
  have hL2_0x5 := hL2_0.ext (o1) hX5
  refine e_appI (v := vo) (a := v5) u25 ti2 rfl rfl rfl hL2_0x5 hE5.size hO5.rd1 sD (by unfold maxLen; first | omega | assumption | (simp; done) | (simp; omega)) zN fun v6 w6 F6 hC6 hF6 hO6 => ?_
  have hE6 : Ext w w6 := hC6.below hE5 (fun c hc => Nat.le_trans (Nat.le_refl _) (hF6 c hc).1) hE5.size
  have hzs6:=hC6.size
  have hF7 := hO5.chg (o1) hC6 (fun c hc => by have := hF6 c hc; omega)
  refine lw_tvn 1 rfl (wp_plain _ [0,0,0] rfl (lw_tv 1 rfl (q_add ((k + 1 :Nat):Int) rfl rfl (w64n oM sD) zN (lw_tvn 1 rfl ?_))))
  exact ⟨((k + 1),v6),_,rfl,⟨rfl,rfl,rfl,rfl,trivial⟩,⟨hE6,(by rw [map_snoc 0 oM]; exact hO6.up o1),sD⟩,by first | omega | (dsimp only; omega)⟩
 ·
  exact q_lss false rfl rfl (decide_eq_false hc3) zN (lw_nil (c_cond_f rfl (wp_exit (t_exit (t_exit (c_exit_here (wp_seq (wp_plain _ [0,0] rfl (lw_tvn 2 rfl (wp_ret (post_ret [4] rfl vo rfl ⟨vo,rfl,hE2,(by have h := hL2_0.up o1; rwa [List.take_of_length_le oM] at h)⟩)))))))))))
end Go.Proofs.Ytnokbaiemimhjaa
namespace Go.Proofs.Ytnokbaiemimhjaa
open Go Go.RowKit
set_option linter.unusedVariables false
set_option linter.unusedSimpArgs false
set_option maxHeartbeats 4000000
set_option maxRecDepth 100000
attribute [local irreducible] LW
theorem c_impl_scaled (w : World) (va : Value) (a : List Int) (y : Int) (ha : Rd (rdL rI) w.heap va a) (_hy : -9223372036854775808 ≤ y ∧ y ≤ 9223372036854775807) (hla : a.length ≤ 1000000000000) (hqa : allN a = true) (hy : 0 ≤ y ∧ y < 1000003) :
  Calls Try.prog 162 #[va,.int .i64 y] w (fun e w' => ∃ v0 : Value,e = .returned (v0) ∧ Ext w w' ∧ Fr (owL rI 2) w.heap.size w'.heap.size w'.heap v0 (sclS a y)) := by
 refine calls_mk [va,.int .i64 y] 27 Try.func162 rfl rfl sM ?_
 have hE0 : Ext w w := Ext.refl w
 have hl_va := ha.lenle
 refine wp_seq (wp_plain _ [0] rfl (lw_tvn 1 rfl (wp_seq (wp_plain _ [0,0,3,0] rfl (lw_tv 1 rfl (q_len (v := va) u25 rfl ha.isSl zN (r_make (n := a.length) u25 ti2 rfl rfl rfl sD zN fun v1 w1 hX1 hz1 hO1 => ?_)))))))
 have hzs1:=hX1.size
 have hE1:=hE0.trans hX1
 refine lw_tvn 1 rfl (wp_seq (wp_seq (wp_plain _ [0,0,0] rfl (lw_tv 1 rfl (q_len (v := va) u25 rfl ha.isSl zN (lw_tvn 1 rfl (wp_block ?_)))))))
 refine c_loop (S := Nat) (fun (k : Nat) => ([(12,(.int .i64 ((k :Nat):Int))),(0,va),(1,(.int .i64 y)),(5,v1),(11,(.int .i64 ((a.length :Nat):Int)))] : List (Nat × Value))) (fun (k : Nat) (W : World) => Ext w W ∧ Fr (owL rI 2) w.heap.size W.heap.size W.heap v1 (mix k (sclS a y) (List.replicate a.length 0)) ∧ k ≤ a.length) (fun (k : Nat) => a.length - k) 0 ⟨rfl,rfl,rfl,rfl,rfl,trivial⟩ ⟨hE1,(by rw [mix_zero]; exact hO1.up o1),sD⟩ ?_
 clear hE0 hO1 hz1 hX1 hzs1 hE1
 rintro k ρ2 w2 ⟨hE2,hL2_0,hp2_0⟩
 have hzs2 : w.heap.size ≤ w2.heap.size := hE2.size
 have hml := mix_len k (sclS a y) (List.replicate a.length 0) sM
 rw [List.length_replicate] at hml
 have hga := allN_get hqa k
 refine wp_seq (wp_plain _ [0] rfl ?_)
 by_cases hc3 : ((k :Nat):Int) < ((a.length :Nat):Int)
 ·
  refine q_lss true rfl rfl (decide_eq_true hc3) zN (lw_nil (wp_seq (c_cond_t rfl (wp_skip (wp_seq (wp_block (wp_seq (wp_plain _ [0,0] rfl (lw_tvn 2 rfl (wp_plain _ [0,0,0,0,0,2,0,0,0,0,4] rfl (lw_tv 4 rfl (q_idx (v := va) k u25 ti2 rfl rfl ha.isSl rfl sD zN ?_))))))))))))
  refine q_load (p := eptr va k 1) (.inr rfl) (.int .i64 (a.getD k 0)) one2 rfl (ldH_ext hE2 (ha.getI sD).1) zN (lw_tv 1 rfl (q_mul (wr ((a.getD k 0) * y)) rfl rfl rfl zN (q_rem (md (a.getD k 0 * y)) rfl rfl (by decide) (nm_eq hga hy) zN ?_)))
  refine q_idx (v := v1) k u25 ti2 rfl rfl hL2_0.isSl rfl sD zN (e_setI (v := v1) (w := w2) sz2 rfl rfl (md_rng _) hL2_0 sD zN fun w4 F4 hC4 hz4 hF4 hO4 => ?_)
  have hE4 : Ext w w4 := hC4.below hE2 (fun c hc => Nat.le_trans (Nat.le_refl _) (hF4 c hc).1) hE2.size
  have hzs4:=hC4.size
  refine lw_nil (wp_plain _ [0,0] rfl (q_add ((k + 1 :Nat):Int) rfl rfl (w64n oM sD) zN (lw_tvn 1 rfl ?_)))
  exact ⟨(k + 1),_,rfl,⟨rfl,rfl,rfl,rfl,rfl,trivial⟩,⟨hE4,(by unfold sclS; rw [mix_tab sM oM]; exact hO4.up o1),sD⟩,by first | omega | (dsimp only; omega)⟩
 ·
  exact q_lss false rfl rfl (decide_eq_false hc3) zN (lw_nil (wp_seq (c_cond_f rfl (wp_exit (t_exit (t_exit (c_exit_here (wp_seq (wp_plain _ [0,0] rfl (lw_tvn 2 rfl (wp_ret (post_ret [4] rfl v1 rfl ⟨v1,rfl,hE2,(by have h := hL2_0.up o1; rwa [mix_all sM (by simp; omega)] at h)⟩))))))))))))
theorem c_impl_added (w : World) (va : Value) (a : List Int) (vb : Value) (b : List Int) (ha : Rd (rdL rI) w.heap va a) (hb : Rd (rdL rI) w.heap vb b) (hla : a.length ≤ 1000000000000) (hl : a.length ≤ b.length) (hqa : allN a = true) (hqb : allN b = true) :
  Calls Try.prog 159 #[va,vb] w (fun e w' => ∃ v0 : Value,e = .returned (v0) ∧ Ext w w' ∧ Fr (owL rI 2) w.heap.size w'.heap.size w'.heap v0 (addS a b)) := by
 refine calls_mk [va,vb] 30 Try.func159 rfl rfl sM ?_
 have hE0 : Ext w w := Ext.refl w
 have hl_va := ha.lenle
 have hl_vb := hb.lenle
 refine wp_seq (wp_plain _ [0] rfl (lw_tvn 1 rfl (wp_seq (wp_plain _ [0,0,3,0] rfl (lw_tv 1 rfl (q_len (v := va) u25 rfl ha.isSl zN (r_make (n := a.length) u25 ti2 rfl rfl rfl sD zN fun v1 w1 hX1 hz1 hO1 => ?_)))))))
 have hzs1:=hX1.size
 have hE1:=hE0.trans hX1
 refine lw_tvn 1 rfl (wp_seq (wp_seq (wp_plain _ [0,0,0] rfl (lw_tv 1 rfl (q_len (v := va) u25 rfl ha.isSl zN (lw_tvn 1 rfl (wp_block ?_)))))))
 refine c_loop (S := Nat) (fun (k : Nat) => ([(12,(.int .i64 ((k :Nat):Int))),(0,va),(1,vb),(5,v1),(11,(.int .i64 ((a.length :Nat):Int)))] : List (Nat × Value))) (fun (k : Nat) (W : World) => Ext w W ∧ Fr (owL rI 2) w.heap.size W.heap.size W.heap v1 (mix k (addS a b) (List.replicate a.length 0)) ∧ k ≤ a.length) (fun (k : Nat) => a.length - k) 0 ⟨rfl,rfl,rfl,rfl,rfl,trivial⟩ ⟨hE1,(by rw [mix_zero]; exact hO1.up o1),sD⟩ ?_
 clear hE0 hO1 hz1 hX1 hzs1 hE1
 rintro k ρ2 w2 ⟨hE2,hL2_0,hp2_0⟩
 have hzs2 : w.heap.size ≤ w2.heap.size := hE2.size
 have hml := mix_len k (addS a b) (List.replicate a.length 0) sM
 rw [List.length_replicate] at hml
 have hga := allN_get hqa k
 have hgb := allN_get hqb k
 refine wp_seq (wp_plain _ [0] rfl ?_)
 by_cases hc3 : ((k :Nat):Int) < ((a.length :Nat):Int)
 ·
  refine q_lss true rfl rfl (decide_eq_true hc3) zN (lw_nil (wp_seq (c_cond_t rfl (wp_skip (wp_seq (wp_block (wp_seq (wp_plain _ [0,0] rfl (lw_tvn 2 rfl (wp_draw _ [0,0,0,0,0,1,0,0,0,1,0,0,0,4] mixed (by kernel_rfl) (lw_tv 4 rfl (q_idx (v := va) k u25 ti2 rfl rfl ha.isSl rfl sD zN ?_))))))))))))
  refine q_load (p := eptr va k 1) (.inl rfl) (.int .i64 (a.getD k 0)) one2 rfl (ldH_ext hE2.drew (ha.getI sD).1) zN (lw_tv 2 rfl ?_)
  refine q_idx (v := vb) k u25 ti2 rfl rfl hb.isSl rfl sD zN ?_
  refine q_load (p := eptr vb k 1) (.inl rfl) (.int .i64 (b.getD k 0)) one2 rfl (ldH_ext hE2.drew (hb.getI sD).1) zN (q_add (wr ((a.getD k 0) + (b.getD k 0))) rfl rfl rfl zN (q_rem (md (a.getD k 0 + b.getD k 0)) rfl rfl (by decide) (nadd_eq hga hgb) zN ?_))
  refine q_idx (v := v1) k u25 ti2 rfl rfl hL2_0.isSl rfl sD zN (e_setI (v := v1) (w := w2.drew) sz2 rfl rfl (md_rng _) hL2_0 sD zN fun w4 F4 hC4 hz4 hF4 hO4 => ?_)
  replace hC4 := hC4.of_drew
  have hE4 : Ext w w4 := hC4.below hE2 (fun c hc => Nat.le_trans (Nat.le_refl _) (hF4 c hc).1) hE2.size
  have hzs4:=hC4.size
  refine lw_nil (wp_plain _ [0,0] rfl (q_add ((k + 1 :Nat):Int) rfl rfl (w64n oM sD) zN (lw_tvn 1 rfl ?_)))
  exact ⟨(k + 1),_,rfl,⟨rfl,rfl,rfl,rfl,rfl,trivial⟩,⟨hE4,(by unfold addS; rw [mix_tab sM oM]; exact hO4.up o1),sD⟩,by first | omega | (dsimp only; omega)⟩
 ·
  exact q_lss false rfl rfl (decide_eq_false hc3) zN (lw_nil (wp_seq (c_cond_f rfl (wp_exit (t_exit (t_exit (c_exit_here (wp_seq (wp_plain _ [0,0] rfl (lw_tvn 2 rfl (wp_ret (post_ret [4] rfl v1 rfl ⟨v1,rfl,hE2,(by have h := hL2_0.up o1; rwa [mix_all sM (by simp; omega)] at h)⟩))))))))))))
theorem c_impl_reduced (w : World) (va : Value) (a : List Int) (vb : Value) (b : List Int) (ha : Rd (rdL rI) w.heap va a) (hb : Rd (rdL rI) w.heap vb b) (hla : a.length ≤ 1000000000000) (hlb : b.length ≤ 1000000000000) (hl : a.length ≤ b.length) (hqa : allN a = true) (hqb : allN b = true) :
  Calls Try.prog 160 #[va,vb] w (fun e w' => ∃ v0 : Value,e = .returned (v0) ∧ Ext w w' ∧ Fr (owL rI 2) w.heap.size w'.heap.size w'.heap v0 (redS a b)) := by
 refine calls_mk [va,vb] 9 Try.func160 rfl rfl sM ?_
 have hE0 : Ext w w := Ext.refl w
 have hl_va := ha.lenle
 have hl_vb := hb.lenle
 refine wp_seq (wp_plain _ [0] rfl (lw_tvn 1 rfl (wp_seq (wp_plain _ [0,0,3,3,0] rfl (lw_tv 2 rfl (lw_call 162 [] [] [vb,(.int .i64 ((1000002 :Nat):Int))] rfl rfl cf162 zN (c_impl_scaled _ _ _ _ (hb.ext g1 hE0) oM (by exact hlb) (by exact hqb) oM) ?_))))))
 rintro e1 w1 ⟨v1_0,rfl,hX1,hO1_0⟩
 refine ⟨_,rfl,hX1,?_⟩
 have hzs1:=hX1.size
 have hE1:=hE0.trans hX1
 refine lw_call 159 [] [] [va,v1_0] rfl rfl cf159 zN (c_impl_added _ _ _ _ _ (ha.ext g1 hE1) hO1_0.rd1 (by exact hla) (by simp; omega) (by exact hqa) (by exact sclS_num _ _)) ?_
 rintro e2 w2 ⟨v2_0,rfl,hX2,hO2_0⟩
 refine ⟨_,rfl,hX2,?_⟩
 have hzs2:=hX2.size
 have hE2:=hE1.trans hX2
 have hO1_0x2 := hO1_0.ext (o1) hX2
 exact lw_tvn 1 rfl (wp_ret (post_ret [4] rfl v2_0 rfl ⟨v2_0,rfl,hE2,(by rw [← red_eq hl]; exact (hO2_0.up o1).low hE1.size)⟩))
theorem c_impl_product (w : World) (va : Value) (a : List Int) (vb : Value) (b : List Int) (ha : Rd (rdL rI) w.heap va a) (hb : Rd (rdL rI) w.heap vb b) (hla : a.length ≤ 1000000000000) (hl : a.length ≤ b.length) (hqa : allN a = true) (hqb : allN b = true) :
  Calls Try.prog 161 #[va,vb] w (fun e w' => ∃ v0 : Value,e = .returned (v0) ∧ Ext w w' ∧ Fr (owL rI 2) w.heap.size w'.heap.size w'.heap v0 (proS a b)) := by
 refine calls_mk [va,vb] 43 Try.func161 rfl rfl sM ?_
 have hE0 : Ext w w := Ext.refl w
 have hl_va := ha.lenle
 have hl_vb := hb.lenle
 refine wp_seq (wp_plain _ [0] rfl (lw_tvn 1 rfl (wp_seq (wp_plain _ [0,0,3,0] rfl (lw_tv 1 rfl (q_len (v := va) u25 rfl ha.isSl zN (r_make (n := a.length) u25 ti2 rfl rfl rfl sD zN fun v1 w1 hX1 hz1 hO1 => ?_)))))))
 have hzs1:=hX1.size
 have hE1:=hE0.trans hX1
 refine lw_tvn 1 rfl (wp_seq (wp_seq (wp_plain _ [0,0,0] rfl (lw_tv 1 rfl (q_len (v := va) u25 rfl ha.isSl zN (lw_tvn 1 rfl (wp_block ?_)))))))
 refine c_loop (S := Nat) (fun (k : Nat) => ([(13,(.int .i64 ((k :Nat):Int))),(0,va),(1,vb),(5,v1),(12,(.int .i64 ((a.length :Nat):Int)))] : List (Nat × Value))) (fun (k : Nat) (W : World) => Ext w W ∧ Fr (owL rI 2) w.heap.size W.heap.size W.heap v1 (mix k (proS a b) (List.replicate a.length 0)) ∧ k ≤ a.length) (fun (k : Nat) => a.length - k) 0 ⟨rfl,rfl,rfl,rfl,rfl,trivial⟩ ⟨hE1,(by rw [mix_zero]; exact hO1.up o1),sD⟩ ?_
 clear hE0 hO1 hz1 hX1 hzs1 hE1
 rintro k ρ2 w2 ⟨hE2,hL2_0,hp2_0⟩
 have hzs2 : w.heap.size ≤ w2.heap.size := hE2.size
 have hml := mix_len k (proS a b) (List.replicate a.length 0) sM
 rw [List.length_replicate] at hml
 have hga := allN_get hqa k
 refine wp_seq (wp_plain _ [0] rfl ?_)
 by_cases hc3 : ((k :Nat):Int) < ((a.length :Nat):Int)
 ·
  refine q_lss true rfl rfl (decide_eq_true hc3) zN (lw_nil (wp_seq (c_cond_t rfl (wp_skip (wp_seq (wp_block (wp_seq (wp_plain _ [0,0] rfl (lw_tvn 2 rfl (wp_seq (wp_plain _ [0] rfl (lw_tvn 1 rfl (wp_block ?_)))))))))))))
  refine c_loop (S := Nat) (fun (i : Nat) => ([(7,(.int .i64 ((i :Nat):Int))),(0,va),(1,vb),(5,v1),(6,(.int .i64 ((k :Nat):Int))),(12,(.int .i64 ((a.length :Nat):Int))),(13,(.int .i64 ((k :Nat):Int)))] : List (Nat × Value))) (fun (i : Nat) (W : World) => Ext w W ∧ Fr (owL rI 2) w.heap.size W.heap.size W.heap v1 ((mix k (proS a b) (List.replicate a.length 0)).set k (prk a b k i)) ∧ i ≤ k + 1) (fun (i : Nat) => k + 1 - i) 0 ⟨rfl,rfl,rfl,rfl,rfl,rfl,rfl,trivial⟩ ⟨hE2,(by have h := hL2_0.up o1; rw [← mix_rep0 (T := proS a b) sM oM] at h; exact h),sD⟩ ?_
  clear hL2_0 hE2 hzs2
  rintro i ρ4 w4 ⟨hE4,hL4_0,hp4_0⟩
  have hzs4 : w.heap.size ≤ w4.heap.size := hE4.size
  have hms : ((mix k (proS a b) (List.replicate a.length 0)).set k (prk a b k i)).length = a.length := by rw [List.length_set]; exact hml
  refine wp_seq (wp_seq (wp_plain _ [0,0,0] rfl (lw_tv 2 rfl ?_)))
  by_cases hc5 : ((i :Nat):Int) ≤ ((k :Nat):Int)
  ·
   refine q_leq true rfl rfl (decide_eq_true hc5) zN (lw_nil (c_cond_t rfl (wp_skip (wp_seq (wp_block (wp_draw _ [0,0,0,0,0,1,0,0,0,1,0,0,0,0,0,1,0,0,0,0,4] mixed (by kernel_rfl) (lw_tv 4 rfl (q_idx (v := v1) k u25 ti2 rfl rfl hL4_0.isSl rfl sD zN ?_))))))))
   refine q_load (p := eptr v1 k 1) (.inl rfl) (.int .i64 (((mix k (proS a b) (List.replicate a.length 0)).set k (prk a b k i)).getD k 0)) one2 rfl (hL4_0.rd1.getI sD).1 zN (lw_tv 2 rfl ?_)
   refine q_idx (v := va) i u25 ti2 rfl rfl ha.isSl rfl sD zN ?_
   refine q_load (p := eptr va i 1) (.inl rfl) (.int .i64 (a.getD i 0)) one2 rfl (ldH_ext hE4.drew (ha.getI sD).1) zN (lw_tv 3 rfl (q_sub ((k - i :Nat):Int) rfl rfl (w64n oM oM) zN ?_))
   refine q_idx (v := vb) (k - i) u25 ti2 rfl rfl hb.isSl rfl sD zN ?_
   refine q_load (p := eptr vb (k - i) 1) (.inl rfl) (.int .i64 (b.getD (k - i) 0)) one2 rfl (ldH_ext hE4.drew (hb.getI sD).1) zN (q_mul (wr ((a.getD i 0) * (b.getD (k - i) 0))) rfl rfl rfl zN (q_add (wr ((((mix k (proS a b) (List.replicate a.length 0)).set k (prk a b k i)).getD k 0) + (wr ((a.getD i 0) * (b.getD (k - i) 0))))) rfl rfl rfl zN ?_))
   refine q_rem (md (prk a b k i + a.getD i 0 * b.getD (k - i) 0)) rfl rfl (by decide) (by rw [getD_set _ _ _ _ _ oM,if_pos rfl]; exact dot_eq (prk_num _ _ _ _) (allN_get hqa _) (allN_get hqb _)) zN (q_idx (v := v1) k u25 ti2 rfl rfl hL4_0.isSl rfl sD zN ?_)
   refine e_setI (v := v1) (w := w4.drew) sz2 rfl rfl (md_rng _) hL4_0 sD zN fun w6 F6 hC6 hz6 hF6 hO6 => ?_
   replace hC6 := hC6.of_drew
   have hE6 : Ext w w6 := hC6.below hE4 (fun c hc => Nat.le_trans (Nat.le_refl _) (hF6 c hc).1) hE4.size
   have hzs6:=hC6.size
   refine lw_nil (wp_plain _ [0,0,0] rfl (lw_tv 1 rfl (q_add ((i + 1 :Nat):Int) rfl rfl (w64n oM sD) zN (lw_tvn 1 rfl ?_))))
   exact ⟨(i + 1),_,rfl,⟨rfl,rfl,rfl,rfl,rfl,rfl,rfl,trivial⟩,⟨hE6,(by have h := hO6.up o1; rw [List.set_set] at h; exact h),sD⟩,by first | omega | (dsimp only; omega)⟩
  ·
   refine q_leq false rfl rfl (decide_eq_false hc5) zN (lw_nil (c_cond_f rfl (wp_exit (t_exit (t_exit (c_exit_here (wp_plain _ [0,0] rfl (q_add ((k + 1 :Nat):Int) rfl rfl (w64n oM sD) zN (lw_tvn 1 rfl ?_)))))))))
   exact ⟨(k + 1),_,rfl,⟨rfl,rfl,rfl,rfl,rfl,trivial⟩,⟨hE4,(by have h := hL4_0.up o1; rw [show i = k + 1 from by omega] at h; unfold proS; rw [mix_tab sM oM]; exact h),sD⟩,by first | omega | (dsimp only; omega)⟩
 ·
  exact q_lss false rfl rfl (decide_eq_false hc3) zN (lw_nil (wp_seq (c_cond_f rfl (wp_exit (t_exit (t_exit (c_exit_here (wp_seq (wp_plain _ [0,0] rfl (lw_tvn 2 rfl (wp_ret (post_ret [4] rfl v1 rfl ⟨v1,rfl,hE2,(by have h := hL2_0.up o1; rwa [mix_all sM (by simp; omega)] at h)⟩))))))))))))
theorem c_impl_quotient (w : World) (va : Value) (a : List Int) (vb : Value) (b : List Int) (ha : Rd (rdL rI) w.heap va a) (hb : Rd (rdL rI) w.heap vb b) (hla : a.length ≤ 1000000000000) (hl : a.length ≤ b.length) (h1 : 0 < b.length) (hqa : allN a = true) (hqb : allN b = true) :
  Calls Try.prog 163 #[va,vb] w (fun e w' => ∃ v0 : Value,e = .returned (v0) ∧ Ext w w' ∧ Fr (owL rI 2) w.heap.size w'.heap.size w'.heap v0 (quoS a b)) := by
 refine calls_mk [va,vb] 53 Try.func163 rfl rfl sM ?_
 have hE0 : Ext w w := Ext.refl w
 have hl_va := ha.lenle
 have hl_vb := hb.lenle
 refine wp_seq (wp_plain _ [0] rfl (lw_tvn 1 rfl (wp_seq (wp_draw _ [0,0,3,0,0,1,0,0,0] mixed (by kernel_rfl) (lw_tv 1 rfl (q_len (v := va) u25 rfl ha.isSl zN (r_make (n := a.length) u25 ti2 rfl rfl rfl sD zN fun v1 w1 hX1 hz1 hO1 => ?_)))))))
 replace hX1 := hX1.of_drew
 have hzs1:=hX1.size
 have hE1:=hE0.trans hX1
 refine lw_tv 1 rfl (q_idx (v := vb) 0 u25 ti2 rfl rfl hb.isSl rfl sD zN ?_)
 refine q_load (p := eptr vb 0 1) (.inl rfl) (.int .i64 (b.getD 0 0)) one2 rfl (ldH_ext hE0.drew (hb.getI sD).1) zN ?_
 refine lw_callq 48 [] [] [(.int .i64 (b.getD 0 0))] rfl rfl cf48 zN (.int .i64 (inv (b.getD 0 0))) (fun wq => c_impl_inverse wq _ (hb.getI sD).2) (lw_tvn 2 rfl (wp_seq (wp_seq (wp_plain _ [0,0,0] rfl (lw_tv 1 rfl (q_len (v := va) u25 rfl ha.isSl zN (lw_tvn 1 rfl (wp_block ?_))))))))
 refine c_loop (S := Nat) (fun (k : Nat) => ([(19,(.int .i64 ((k :Nat):Int))),(0,va),(1,vb),(5,v1),(6,(.int .i64 (inv (b.getD 0 0)))),(18,(.int .i64 ((a.length :Nat):Int)))] : List (Nat × Value))) (fun (k : Nat) (W : World) => Ext w W ∧ Fr (owL rI 2) w.heap.size W.heap.size W.heap v1 (mix k (quoS a b) (List.replicate a.length 0)) ∧ k ≤ a.length) (fun (k : Nat) => a.length - k) 0 ⟨rfl,rfl,rfl,rfl,rfl,rfl,trivial⟩ ⟨hE1,(by rw [mix_zero]; exact hO1.up o1),sD⟩ ?_
 clear hE0 hO1 hz1 hX1 hzs1 hE1
 rintro k ρ3 w3 ⟨hE3,hL3_0,hp3_0⟩
 have hzs3 : w.heap.size ≤ w3.heap.size := hE3.size
 have hml := mix_len k (quoS a b) (List.replicate a.length 0) sM
 rw [List.length_replicate] at hml
 have hga := allN_get hqa k
 refine wp_seq (wp_plain _ [0] rfl ?_)
 by_cases hc4 : ((k :Nat):Int) < ((a.length :Nat):Int)
 ·
  refine q_lss true rfl rfl (decide_eq_true hc4) zN (lw_nil (wp_seq (c_cond_t rfl (wp_skip (wp_seq (wp_block (wp_seq (wp_plain _ [0,0] rfl (lw_tvn 2 rfl (wp_seq (wp_plain _ [0,0,0,2,0] rfl (lw_tv 2 rfl (q_idx (v := va) k u25 ti2 rfl rfl ha.isSl rfl sD zN ?_)))))))))))))
  refine q_load (p := eptr va k 1) (.inr rfl) (.int .i64 (a.getD k 0)) one2 rfl (ldH_ext hE3 (ha.getI sD).1) zN (lw_tvn 1 rfl (wp_seq (wp_seq (wp_plain _ [0] rfl (lw_tvn 1 rfl (wp_block ?_))))))
  refine c_loop (S := Nat × Int) (fun (⟨i,t⟩ : Nat × Int) => ([(8,(.int .i64 t)),(9,(.int .i64 ((i :Nat):Int))),(0,va),(1,vb),(5,v1),(6,(.int .i64 (inv (b.getD 0 0)))),(7,(.int .i64 ((k :Nat):Int))),(18,(.int .i64 ((a.length :Nat):Int))),(19,(.int .i64 ((k :Nat):Int)))] : List (Nat × Value))) (fun (⟨i,t⟩ : Nat × Int) (W : World) => Ext w W ∧ Fr (owL rI 2) w.heap.size w3.heap.size W.heap v1 (mix k (quoS a b) (List.replicate a.length 0)) ∧ i ≤ k ∧ t = qrk a b (quoS a b) k i ∧ (0 ≤ t ∧ t < 1000003)) (fun (⟨i,t⟩ : Nat × Int) => k - i) (0,(a.getD k 0)) ⟨rfl,rfl,rfl,rfl,rfl,rfl,rfl,rfl,rfl,trivial⟩ ⟨hE3,hL3_0,sD,(by rfl),(by exact allN_get hqa k)⟩ ?_
  clear hL3_0
  rintro ⟨i,t⟩ ρ5 w5 ⟨hE5,hL5_0,hp5_0,ht,htr⟩
  have hzs5 : w.heap.size ≤ w5.heap.size := hE5.size
  refine wp_seq (wp_seq (wp_plain _ [0,0,0] rfl (lw_tv 2 rfl ?_)))
  by_cases hc6 : ((i :Nat):Int) < ((k :Nat):Int)
  ·
   refine q_lss true rfl rfl (decide_eq_true hc6) zN (lw_nil (c_cond_t rfl (wp_skip (wp_seq (wp_block (wp_draw _ [0,0,0,0,1,0,0,0,0,0,1,0,0,0] mixed (by kernel_rfl) (lw_tv 3 rfl (q_idx (v := v1) i u25 ti2 rfl rfl hL5_0.isSl rfl sD zN ?_))))))))
   refine q_load (p := eptr v1 i 1) (.inl rfl) (.int .i64 ((mix k (quoS a b) (List.replicate a.length 0)).getD i 0)) one2 rfl (hL5_0.rd1.getI sD).1 zN (lw_tv 3 rfl (q_sub ((k - i :Nat):Int) rfl rfl (w64n oM oM) zN ?_))
   refine q_idx (v := vb) (k - i) u25 ti2 rfl rfl hb.isSl rfl sD zN ?_
   refine q_load (p := eptr vb (k - i) 1) (.inl rfl) (.int .i64 (b.getD (k - i) 0)) one2 rfl (ldH_ext hE5.drew (hb.getI sD).1) zN (q_mul (wr (((mix k (quoS a b) (List.replicate a.length 0)).getD i 0) * (b.getD (k - i) 0))) rfl rfl rfl zN ?_)
   refine lw_callq 165 [] [] [(.int .i64 t),(.int .i64 (wr (((mix k (quoS a b) (List.replicate a.length 0)).getD i 0) * (b.getD (k - i) 0))))] rfl rfl cf165 zN (.int .i64 (md (t - (wr (((mix k (quoS a b) (List.replicate a.length 0)).getD i 0) * (b.getD (k - i) 0)))))) (fun wq => c_impl_minus wq _ _ oM (wr_rng _)) (lw_tvn 1 rfl (wp_plain _ [0,0,0] rfl (lw_tv 1 rfl (q_add ((i + 1 :Nat):Int) rfl rfl (w64n oM sD) zN (lw_tvn 1 rfl ?_)))))
   exact ⟨((i + 1),(md (t - (wr (((mix k (quoS a b) (List.replicate a.length 0)).getD i 0) * (b.getD (k - i) 0)))))),_,rfl,⟨rfl,rfl,rfl,rfl,rfl,rfl,rfl,rfl,rfl,trivial⟩,⟨hE5.drew,hL5_0,sD,(by rw [ht,mix_lt 0 oM (by simp; omega)]; exact quo_step (quoS_num a b) hqb),(by exact md_num _)⟩,by first | omega | (dsimp only; omega)⟩
  ·
   refine q_lss false rfl rfl (decide_eq_false hc6) zN (lw_nil (c_cond_f rfl (wp_exit (t_exit (t_exit (c_exit_here (wp_plain _ [0,0,0,0,0,0,0,4] rfl (lw_tv 4 rfl (q_mul (wr (t * (inv (b.getD 0 0)))) rfl rfl rfl zN (q_rem (md (t * inv (b.getD 0 0))) rfl rfl (by decide) (nm_eq htr (inv_num _)) zN (q_idx (v := v1) k u25 ti2 rfl rfl hL5_0.isSl rfl sD zN ?_)))))))))))
   refine e_setI (v := v1) (w := w5) sz2 rfl rfl (md_rng _) hL5_0 sD zN fun w8 F8 hC8 hz8 hF8 hO8 => ?_
   have hE8 : Ext w w8 := hC8.below hE5 (fun c hc => Nat.le_trans (Nat.le_refl _) (hF8 c hc).1) hE5.size
   have hzs8:=hC8.size
   refine lw_nil (wp_plain _ [0,0] rfl (q_add ((k + 1 :Nat):Int) rfl rfl (w64n oM sD) zN (lw_tvn 1 rfl ?_)))
   exact ⟨(k + 1),_,rfl,⟨rfl,rfl,rfl,rfl,rfl,rfl,trivial⟩,⟨hE8,(by have h := hO8.up o1; rw [ht,show i = k from by omega] at h; rw [← quo_set oM sM]; exact h),sD⟩,by first | omega | (dsimp only; omega)⟩
 ·
  exact q_lss false rfl rfl (decide_eq_false hc4) zN (lw_nil (wp_seq (c_cond_f rfl (wp_exit (t_exit (t_exit (c_exit_here (wp_seq (wp_plain _ [0,0] rfl (lw_tvn 2 rfl (wp_ret (post_ret [4] rfl v1 rfl ⟨v1,rfl,hE3,(by have h := hL3_0.up o1; rwa [mix_all sM (by simp; omega)] at h)⟩))))))))))))
theorem c_impl_firsts (w : World) (va : Value) (a : List (List Int)) (ha : Rd (rdL (rdL rI)) w.heap va a) (hla : a.length ≤ 1000000000000) (h1 : ∀ k,k < a.length → 0 < (a.getD k []).length) :
  Calls Try.prog 117 #[va] w (fun e w' => ∃ v0 : Value,e = .returned (v0) ∧ Ext w w' ∧ Fr (owL rI 2) w.heap.size w'.heap.size w'.heap v0 (a.map (fun s => s.getD 0 0))) := by
 refine calls_mk [va] 21 Try.func117 rfl rfl sM ?_
 have hE0 : Ext w w := Ext.refl w
 have hl_va := ha.lenle
 refine wp_seq (wp_plain _ [0] rfl (lw_tvn 1 rfl (wp_seq (wp_plain _ [3,0] rfl (r_nil (rI) good_rI u25 ti2 zN fun v1 w1 hX1 hz1 hO1 => ?_)))))
 have hzs1:=hX1.size
 have hE1:=hE0.trans hX1
 refine lw_tvn 1 rfl (wp_seq (wp_seq (wp_plain _ [0,0,0] rfl (lw_tv 1 rfl (q_len (v := va) u24 rfl ha.isSl zN (lw_tvn 1 rfl (wp_block ?_)))))))
 refine c_loop (S := Nat × Value) (fun (⟨k,vo⟩ : Nat × Value) => ([(3,vo),(9,(.int .i64 ((k :Nat):Int))),(7,va),(8,(.int .i64 ((a.length :Nat):Int)))] : List (Nat × Value))) (fun (⟨k,vo⟩ : Nat × Value) (W : World) => Ext w W ∧ Fr (owL rI 2) w.heap.size W.heap.size W.heap vo ((a.take k).map (fun s => s.getD 0 0)) ∧ k ≤ a.length) (fun (⟨k,vo⟩ : Nat × Value) => a.length - k) (0,v1) ⟨rfl,rfl,rfl,rfl,trivial⟩ ⟨hE1,hO1.up o1,sD⟩ ?_
 clear hE0 hO1 hz1 hX1 hzs1 hE1
 rintro ⟨k,vo⟩ ρ2 w2 ⟨hE2,hL2_0,hp2_0⟩
 have hzs2 : w.heap.size ≤ w2.heap.size := hE2.size
 refine wp_seq (wp_plain _ [0] rfl ?_)
 by_cases hc3 : ((k :Nat):Int) < ((a.length :Nat):Int)
 ·
  refine q_lss true rfl rfl (decide_eq_true hc3) zN (lw_nil (wp_seq (c_cond_t rfl (wp_skip (wp_seq (wp_block (wp_seq (wp_plain _ [0,2,0] rfl (q_idx (v := va) k u24 ti25 rfl rfl ha.isSl rfl sD zN ?_)))))))))
  obtain ⟨ue4,hl4,hd4⟩ := ha.get (k := k) [] sD
  have hln4 := hd4.lenle
  refine q_load (p := eptr va k 1) (.inr rfl) ue4 one25 rfl (ldH_ext hE2 hl4) zN (lw_tvn 1 rfl (wp_plain _ [0,0,0,2,3,4,0] rfl ?_))
  have hr1 := h1 k oM
  refine lw_tv 2 rfl (q_idx (v := ue4) 0 u25 ti2 rfl rfl hd4.isSl rfl sD zN ?_)
  refine q_load (p := eptr ue4 0 1) (.inr rfl) (.int .i64 ((a.getD k []).getD 0 0)) one2 rfl (ldH_ext hE2 (hd4.getI sD).1) zN ?_
  refine r_one (u := (.int .i64 ((a.getD k []).getD 0 0))) (B := w2.heap.size) good_rI u25 ti2 rfl rfl (frI w2.heap.size w2.heap.size _ _ (hd4.getI sD).2) (Nat.le_refl _) zN fun v5 w5 hX5 hz5 hO5 => ?_
  have hzs5:=hX5.size
  have hE5:=hE2.trans hX5
  have hL2_0x5 := hL2_0.ext (o1) hX5
  refine e_appI (v := vo) (a := v5) u25 ti2 rfl rfl rfl hL2_0x5 hE5.size hO5.rd1 sD (by unfold maxLen; first | omega | assumption | (simp; done) | (simp; omega)) zN fun v6 w6 F6 hC6 hF6 hO6 => ?_
  have hE6 : Ext w w6 := hC6.below hE5 (fun c hc => Nat.le_trans (Nat.le_refl _) (hF6 c hc).1) hE5.size
  have hzs6:=hC6.size
  have hF7 := hO5.chg (o1) hC6 (fun c hc => by have := hF6 c hc; omega)
  refine lw_tvn 1 rfl (wp_plain _ [0,0] rfl (q_add ((k + 1 :Nat):Int) rfl rfl (w64n oM sD) zN (lw_tvn 1 rfl ?_)))
  exact ⟨((k + 1),v6),_,rfl,⟨rfl,rfl,rfl,rfl,trivial⟩,⟨hE6,(by rw [map_snoc [] oM]; exact hO6.up o1),sD⟩,by first | omega | (dsimp only; omega)⟩
 ·
  exact q_lss false rfl rfl (decide_eq_false hc3) zN (lw_nil (wp_seq (c_cond_f rfl (wp_exit (t_exit (t_exit (c_exit_here (wp_seq (wp_plain _ [0,0] rfl (lw_tvn 2 rfl (wp_ret (post_ret [2] rfl vo rfl ⟨vo,rfl,hE2,(by have h := hL2_0.up o1; rwa [List.take_of_length_le oM] at h)⟩))))))))))))
end Go.Proofs.Ytnokbaiemimhjaa
namespace Go.Proofs.Ytnokbaiemimhjaa
open Go Go.RowKit
set_option linter.unusedVariables false
set_option linter.unusedSimpArgs false
set_option maxHeartbeats 4000000
set_option maxRecDepth 100000
attribute [local irreducible] LW
theorem z7_0 {p : Prop} (h : p := by first | (rw [decide_eq_true (show ((3000 : Nat) : Int) < ((cs.length : Nat) : Int) by assumption)]; rfl) | (rw [decide_eq_false (show ¬ ((3000 : Nat) : Int) < ((cs.length : Nat) : Int) by assumption), Bool.false_or])) : p := h
theorem c_laws_a2Long (w : World) (vc : Value) (cs : List UInt8) (vd : Value) (ds : List UInt8) (hcs : Rd (rdL rU) w.heap vc cs) (hds : Rd (rdL rU) w.heap vd ds)  :
  Calls Try.prog 7 #[vc,vd] w (fun e w' => e = .returned (.bool (decide (((3000 :Nat):Int) < ((cs.length :Nat):Int)) || decide (((3000 :Nat):Int) < ((ds.length :Nat):Int)))) ∧ Ext w w') := by
 refine calls_mk [vc,vd] 13 Try.func7 rfl rfl sM ?_
 have hE0 : Ext w w := Ext.refl w
 have hl_vc := hcs.lenle
 have hl_vd := hds.lenle
 refine wp_seq (wp_plain _ [0] rfl (lw_tvn 1 rfl (wp_seq (wp_plain _ [0,0,0,0,0,0,0,0,0] rfl (lw_tv 1 rfl (q_len (v := vc) u22 rfl hcs.isSl zN ?_))))))
 by_cases hc1 : ((3000 :Nat):Int) < ((cs.length :Nat):Int)
 ·
  exact q_gtr true rfl rfl (decide_eq_true hc1) zN (lw_tvn 6 rfl (wp_ret (post_ret [4] rfl (.bool true) rfl ⟨(ret_bool z7_0),hE0⟩)))
 ·
  exact q_gtr false rfl rfl (decide_eq_false hc1) zN (lw_tv 2 rfl (q_len (v := vd) u22 rfl hds.isSl (zS (e := 8) rfl rfl rfl) (q_gtr (decide (((3000 :Nat):Int) < ((ds.length :Nat):Int))) rfl rfl rfl (zS (e := 8) rfl rfl rfl) (lw_tvn 2 rfl (wp_ret (post_ret [4] rfl (.bool (decide (((3000 :Nat):Int) < ((ds.length :Nat):Int)))) rfl ⟨(ret_bool z7_0),hE0⟩))))))
theorem c_laws_a2Wide (w : World) (va : Value) (a : List (List Int)) (n : Int) (m : Int) (ha : Rd (rdL (rdL rI)) w.heap va a) (_hn : -9223372036854775808 ≤ n ∧ n ≤ 9223372036854775807) (_hm : -9223372036854775808 ≤ m ∧ m ≤ 9223372036854775807)  :
  Calls Try.prog 13 #[va,.int .i64 n,.int .i64 m] w (fun e w' => e = .returned (.bool (decide (((a.length :Nat):Int) = n) && a.all (fun r => decide (((r.length :Nat):Int) = m)))) ∧ Ext w w') := by
 refine calls_mk [va,.int .i64 n,.int .i64 m] 25 Try.func13 rfl rfl sM ?_
 have hE0 : Ext w w := Ext.refl w
 have hl_va := ha.lenle
 refine wp_seq (wp_plain _ [0] rfl (lw_tvn 1 rfl (wp_seq (wp_seq (wp_plain _ [0,0,0,0] rfl (lw_tv 1 rfl (q_len (v := va) u24 rfl ha.isSl zN (lw_tv 1 rfl ?_))))))))
 by_cases hc1 : ((a.length :Nat):Int) ≠ n
 ·
  exact q_neq true rfl rfl (decide_eq_true hc1) zN (lw_nil (c_cond_t rfl (wp_seq (wp_plain _ [0] rfl (lw_tvn 1 rfl (wp_ret (t_ret (post_ret [6] rfl (.bool false) rfl ⟨(ret_bool (by rw [decide_eq_false oM]; rfl)),hE0⟩))))))))
 ·
  refine q_neq false rfl rfl (decide_eq_false hc1) zN (lw_nil (c_cond_f rfl (wp_skip (wp_seq (wp_seq (wp_plain _ [0] rfl (lw_tvn 1 rfl (wp_block ?_))))))))
  refine c_loop (S := Nat) (fun (k : Nat) => ([(7,(.int .i64 ((k :Nat):Int))),(0,va),(2,(.int .i64 m))] : List (Nat × Value))) (fun (k : Nat) (W : World) => Ext w W ∧ k ≤ a.length ∧ ((a.take k).all (fun r => decide (((r.length :Nat):Int) = m)) = true)) (fun (k : Nat) => a.length - k) 0 ⟨rfl,rfl,rfl,trivial⟩ ⟨hE0,sD,(by exact rfl)⟩ ?_
  clear hE0
  rintro k ρ2 w2 ⟨hE2,hp2_0,hq⟩
  have hzs2 : w.heap.size ≤ w2.heap.size := hE2.size
  refine wp_seq (wp_seq (wp_plain _ [0,0,0,0] rfl (lw_tv 2 rfl (q_len (v := va) u24 rfl ha.isSl zN ?_))))
  by_cases hc3 : ((k :Nat):Int) < ((a.length :Nat):Int)
  ·
   refine q_lss true rfl rfl (decide_eq_true hc3) zN (lw_nil (c_cond_t rfl (wp_skip (wp_seq (wp_block (wp_seq (wp_plain _ [0,0,0,2,0,0,0] rfl (lw_tv 2 rfl (q_idx (v := va) k u24 ti25 rfl rfl ha.isSl rfl sD zN ?_)))))))))
   obtain ⟨ue4,hl4,hd4⟩ := ha.get (k := k) [] sD
   have hln4 := hd4.lenle
   refine q_load (p := eptr va k 1) (.inr rfl) ue4 one25 rfl (ldH_ext hE2 hl4) zN (q_len (v := ue4) u25 rfl hd4.isSl zN (lw_tv 1 rfl ?_))
   by_cases hc5 : (((a.getD k []).length :Nat):Int) ≠ m
   ·
    exact q_neq true rfl rfl (decide_eq_true hc5) zN (lw_nil (c_cond_t rfl (wp_seq (wp_plain _ [0] rfl (lw_tvn 1 rfl (wp_ret (b_ret (t_ret (t_ret (b_ret (t_ret (post_ret [6] rfl (.bool false) rfl ⟨(ret_bool (by rw [all_fail (f := fun r => decide (((r.length :Nat):Int) = m)) (k := k) [] oM (decide_eq_false oM),Bool.and_false])),hE2⟩))))))))))))
   ·
    refine q_neq false rfl rfl (decide_eq_false hc5) zN (lw_nil (c_cond_f rfl (wp_skip (wp_plain _ [0,0,0] rfl (lw_tv 1 rfl (q_add ((k + 1 :Nat):Int) rfl rfl (w64n oM sD) zN (lw_tvn 1 rfl ?_)))))))
    exact ⟨(k + 1),_,rfl,⟨rfl,rfl,rfl,trivial⟩,⟨hE2,sD,(by exact all_succ (f := fun r => decide (((r.length :Nat):Int) = m)) [] hq oM (decide_eq_true oM))⟩,by first | omega | (dsimp only; omega)⟩
  ·
   exact q_lss false rfl rfl (decide_eq_false hc3) zN (lw_nil (c_cond_f rfl (wp_exit (t_exit (t_exit (c_exit_here (wp_seq (wp_plain _ [0] rfl (lw_tvn 1 rfl (wp_ret (post_ret [6] rfl (.bool true) rfl ⟨(ret_bool (by rw [all_done hq oM,decide_eq_true oM]; rfl)),hE2⟩)))))))))))
theorem c_laws_a2Column (w : World) (va : Value) (a : List (List Int)) (k : Nat) (ha : Rd (rdL (rdL rI)) w.heap va a) (_hk : k ≤ 1000000000000) (hla : a.length ≤ 1000000000000) (h1 : ∀ r,r < a.length → k < (a.getD r []).length) :
  Calls Try.prog 30 #[va,.int .i64 ((k :Nat):Int)] w (fun e w' => ∃ v0 : Value,e = .returned (v0) ∧ Ext w w' ∧ Fr (owL rI 2) w.heap.size w'.heap.size w'.heap v0 (a.map (fun r => r.getD k 0))) := by
 refine calls_mk [va,.int .i64 ((k :Nat):Int)] 32 Try.func30 rfl rfl sM ?_
 have hE0 : Ext w w := Ext.refl w
 have hl_va := ha.lenle
 refine wp_seq (wp_plain _ [0] rfl (lw_tvn 1 rfl (wp_seq (wp_plain _ [3,0] rfl (r_nil (rI) good_rI u25 ti2 zN fun v1 w1 hX1 hz1 hO1 => ?_)))))
 have hzs1:=hX1.size
 have hE1:=hE0.trans hX1
 refine lw_tvn 1 rfl (wp_seq (wp_seq (wp_plain _ [0] rfl (lw_tvn 1 rfl (wp_block ?_)))))
 refine c_loop (S := Nat × Value) (fun (⟨j,vo⟩ : Nat × Value) => ([(5,vo),(6,(.int .i64 ((j :Nat):Int))),(0,va),(1,(.int .i64 ((k :Nat):Int)))] : List (Nat × Value))) (fun (⟨j,vo⟩ : Nat × Value) (W : World) => Ext w W ∧ Fr (owL rI 2) w.heap.size W.heap.size W.heap vo ((a.take j).map (fun r => r.getD k 0)) ∧ j ≤ a.length) (fun (⟨j,vo⟩ : Nat × Value) => a.length - j) (0,v1) ⟨rfl,rfl,rfl,rfl,trivial⟩ ⟨hE1,hO1.up o1,sD⟩ ?_
 clear hE0 hO1 hz1 hX1 hzs1 hE1
 rintro ⟨j,vo⟩ ρ2 w2 ⟨hE2,hL2_0,hp2_0⟩
 have hzs2 : w.heap.size ≤ w2.heap.size := hE2.size
 refine wp_seq (wp_seq (wp_plain _ [0,0,0,0] rfl (lw_tv 2 rfl (q_len (v := va) u24 rfl ha.isSl zN ?_))))
 by_cases hc3 : ((j :Nat):Int) < ((a.length :Nat):Int)
 ·
  refine q_lss true rfl rfl (decide_eq_true hc3) zN (lw_nil (c_cond_t rfl (wp_skip (wp_seq (wp_block (wp_seq (wp_plain _ [0,0,0,0,2,0,0] rfl ?_)))))))
  have hr1 := h1 j oM
  refine lw_tv 3 rfl (q_idx (v := va) j u24 ti25 rfl rfl ha.isSl rfl sD zN ?_)
  obtain ⟨ue4,hl4,hd4⟩ := ha.get (k := j) [] sD
  have hln4 := hd4.lenle
  refine q_load (p := eptr va j 1) (.inr rfl) ue4 one25 rfl (ldH_ext hE2 hl4) zN (q_len (v := ue4) u25 rfl hd4.isSl zN ?_)
  by_cases hc5 : ((k :Nat):Int) < (((a.getD j []).length :Nat):Int)
  ·
   refine q_lss true rfl rfl (decide_eq_true hc5) zN (lw_nil (c_cond_t rfl (wp_plain _ [0,0,0,0,2,0,0,2,3,4,0] rfl (lw_tv 3 rfl (q_idx (v := va) j u24 ti25 rfl rfl ha.isSl rfl sD zN ?_)))))
   obtain ⟨ue6,hl6,hd6⟩ := ha.get (k := j) [] sD
   have hln6 := hd6.lenle
   refine q_load (p := eptr va j 1) (.inr rfl) ue6 one25 rfl (ldH_ext hE2 hl6) zN (lw_tv 1 rfl (q_idx (v := ue6) k u25 ti2 rfl rfl hd6.isSl rfl sD zN ?_))
   refine q_load (p := eptr ue6 k 1) (.inr rfl) (.int .i64 ((a.getD j []).getD k 0)) one2 rfl (ldH_ext hE2 (hd6.getI sD).1) zN ?_
   refine r_one (u := (.int .i64 ((a.getD j []).getD k 0))) (B := w2.heap.size) good_rI u25 ti2 rfl rfl (frI w2.heap.size w2.heap.size _ _ (hd6.getI sD).2) (Nat.le_refl _) zN fun v7 w7 hX7 hz7 hO7 => ?_
   have hzs7:=hX7.size
   have hE7:=hE2.trans hX7
   have hL2_0x7 := hL2_0.ext (o1) hX7
   refine e_appI (v := vo) (a := v7) u25 ti2 rfl rfl rfl hL2_0x7 hE7.size hO7.rd1 sD (by unfold maxLen; first | omega | assumption | (simp; done) | (simp; omega)) zN fun v8 w8 F8 hC8 hF8 hO8 => ?_
   have hE8 : Ext w w8 := hC8.below hE7 (fun c hc => Nat.le_trans (Nat.le_refl _) (hF8 c hc).1) hE7.size
   have hzs8:=hC8.size
   have hF9 := hO7.chg (o1) hC8 (fun c hc => by have := hF8 c hc; omega)
   refine lw_tvn 1 rfl (wp_plain _ [0,0,0] rfl (lw_tv 1 rfl (q_add ((j + 1 :Nat):Int) rfl rfl (w64n oM sD) zN (lw_tvn 1 rfl ?_))))
   exact ⟨((j + 1),v8),_,rfl,⟨rfl,rfl,rfl,rfl,trivial⟩,⟨hE8,(by rw [map_snoc [] oM]; exact hO8.up o1),sD⟩,by first | omega | (dsimp only; omega)⟩
  ·
   exact absurd oM hc5
 ·
  exact q_lss false rfl rfl (decide_eq_false hc3) zN (lw_nil (c_cond_f rfl (wp_exit (t_exit (t_exit (c_exit_here (wp_seq (wp_plain _ [0,0] rfl (lw_tvn 2 rfl (wp_ret (post_ret [4] rfl vo rfl ⟨vo,rfl,hE2,(by have h := hL2_0.up o1; rwa [List.take_of_length_le oM] at h)⟩)))))))))))
end Go.Proofs.Ytnokbaiemimhjaa
namespace Go.Proofs.Ytnokbaiemimhjaa
open Go Go.RowKit
set_option linter.unusedVariables false
set_option linter.unusedSimpArgs false
set_option maxHeartbeats 4000000
set_option maxRecDepth 100000
attribute [local irreducible] LW
theorem z82_0 {p : Prop} (h : p := by first | omega | exact and_255 _) : p := h
theorem z82_1 {p : Prop} (h : p := by kernel_rfl) : p := h
theorem c_spec_l00Src_next (w : World) (g : Nat) (sv : Value) (cs : List UInt8) (n0 : Nat) (hs : Src w.heap g sv cs n0) (hn0 : n0 + 1 ≤ 1000000000000)  :
  Calls Try.prog 82 #[.pointer (some ⟨g,0,none⟩)] w (fun e w' => ∃ (x0 : Int) (n1 : Nat),e = .returned (.int .i64 x0) ∧ Chg [g] w w' ∧ Src w'.heap g sv cs n1 ∧ (n0 ≤ n1 ∧ n1 ≤ n0 + 1) ∧ (0 ≤ x0 ∧ x0 ≤ 255)) := by
 refine calls_mk [.pointer (some ⟨g,0,none⟩)] 62 Try.func82 rfl rfl sM ?_
 have hE0 : Chg [g] w w := Chg.refl [g] w
 have hgl := hs.lt
 obtain ⟨sd,hbx,hrs⟩ := hs.parts
 have hl_sv := (hrs _ (Chg.refl [g] w)).lenle
 refine wp_seq (wp_plain _ [0] rfl (lw_tvn 1 rfl (wp_seq (wp_plain _ [0] rfl (lw_tvn 1 rfl (wp_seq (wp_seq (wp_draw _ [0,0,0,1,0,0,0,1,0,0] mixed z82_1 (lw_tv 1 rfl (q_nil rfl zN (q_fld 1 z82_1 rfl zN (q_load (p := (.pointer (some ⟨g,1,none⟩))) (.inl rfl) (.int .i64 ((n0 :Nat):Int)) one3 rfl (hbx.ld (k := 1) sM) zN (lw_tv 1 rfl (q_nil rfl zN (q_fld 0 z82_1 rfl zN (q_load (p := (.pointer (some ⟨g,0,none⟩))) (.inl rfl) sv one22 rfl (hbx.ld (k := 0) sM) zN (q_len (v := sv) u22 rfl (hrs _ hE0.drew).isSl zN ?_)))))))))))))))))
 by_cases hc1 : ((n0 :Nat):Int) < ((cs.length :Nat):Int)
 ·
  refine q_lss true rfl rfl (decide_eq_true hc1) zN (lw_nil (c_cond_t rfl (wp_draw _ [0,0,0,1,0,0,0,1,0,1,0,0] mixed z82_1 (lw_tv 1 rfl (q_nil rfl zN (q_fld 0 z82_1 rfl zN (q_load (p := (.pointer (some ⟨g,0,none⟩))) (.inl rfl) sv one22 rfl (hbx.ld (k := 0) sM) zN (lw_tv 1 rfl (q_nil rfl zN (q_fld 1 z82_1 rfl zN (q_load (p := (.pointer (some ⟨g,1,none⟩))) (.inl rfl) (.int .i64 ((n0 :Nat):Int)) one3 rfl (hbx.ld (k := 1) sM) zN ?_)))))))))))
  refine q_idx (v := sv) n0 u22 ti5 rfl rfl (hrs _ hE0.drew.drew).isSl rfl sD zN ?_
  refine q_load (p := eptr sv n0 1) (.inl rfl) (.int .u8 ((cs.getD n0 0).toNat : Int)) one5 rfl ((hrs _ hE0.drew.drew).getU sD).1 zN (q_conv ((cs.getD n0 0).toNat : Int) u5 u3 rfl (w8 _) zN (lw_tvn 1 rfl (wp_seq (wp_plain _ [0,0,0,2,0,0,0,4] rfl (lw_tv 1 rfl (q_nil rfl zN (q_fld 1 z82_1 rfl zN (q_load (p := (.pointer (some ⟨g,1,none⟩))) (.inr rfl) (.int .i64 ((n0 :Nat):Int)) one3 rfl (hbx.ld (k := 1) sM) zN ?_))))))))
  refine q_add ((n0 + 1 :Nat):Int) rfl rfl (w64n oM sD) zN (q_nil rfl zN (q_fld 1 z82_1 rfl zN (e_setB (w := w.drew.drew) sz3 rfl rfl ⟨rfl,rfl⟩ hbx sM zN fun w2 hC2 hz2 hB2 => ?_)))
  replace hC2 := hC2.of_drew
  replace hC2 := hC2.of_drew
  have hE2 : Chg [g] w w2 := hE0.trans hC2
  have hBx2 : BX w2.heap g [sv,(.int .i64 ((n0 + 1 :Nat):Int)),(.int .u64 sd)] := hB2
  refine lw_nil (wp_seq (wp_plain _ [0,0,0,0,2,0,0,0,0,0,0,0,4] rfl (lw_tv 2 rfl (q_nil rfl zN (q_fld 2 z82_1 rfl zN (q_load (p := (.pointer (some ⟨g,2,none⟩))) (.inr rfl) (.int .u64 sd) one116 rfl (hBx2.ld (k := 2) sM) zN (q_mul (IntKind.u64.wrap (sd * 6364136223846793005)) rfl rfl rfl zN (lw_tv 1 rfl (q_conv (IntKind.u64.wrap (((cs.getD n0 0).toNat : Int))) u3 u116 rfl rfl zN (q_add (IntKind.u64.wrap ((IntKind.u64.wrap (sd * 6364136223846793005)) + (IntKind.u64.wrap (((cs.getD n0 0).toNat : Int))))) rfl rfl rfl zN (q_add (IntKind.u64.wrap ((IntKind.u64.wrap ((IntKind.u64.wrap (sd * 6364136223846793005)) + (IntKind.u64.wrap (((cs.getD n0 0).toNat : Int))))) + 1442695040888963407)) rfl rfl rfl zN (q_nil rfl zN ?_))))))))))))
  refine q_fld 2 z82_1 rfl zN (e_setB (w := w2) sz116 rfl rfl ⟨rfl,rfl⟩ hBx2 sM zN fun w3 hC3 hz3 hB3 => ?_)
  have hE3 : Chg [g] w w3 := hE2.trans hC3
  have hBx3 : BX w3.heap g [sv,(.int .i64 ((n0 + 1 :Nat):Int)),(.int .u64 (IntKind.u64.wrap ((IntKind.u64.wrap ((IntKind.u64.wrap (sd * 6364136223846793005)) + (IntKind.u64.wrap (((cs.getD n0 0).toNat : Int))))) + 1442695040888963407)))] := hB3
  refine lw_nil (wp_seq (wp_seq (wp_draw _ [0,0,0,1,0,0,0,1,0,0] mixed z82_1 (lw_tv 1 rfl (q_nil rfl zN (q_fld 1 z82_1 rfl zN (q_load (p := (.pointer (some ⟨g,1,none⟩))) (.inl rfl) (.int .i64 ((n0 + 1 :Nat):Int)) one3 rfl (hBx3.ld (k := 1) sM) zN (lw_tv 1 rfl (q_nil rfl zN (q_fld 0 z82_1 rfl zN (q_load (p := (.pointer (some ⟨g,0,none⟩))) (.inl rfl) sv one22 rfl (hBx3.ld (k := 0) sM) zN (q_len (v := sv) u22 rfl (hrs _ hE3.drew).isSl zN ?_))))))))))))
  by_cases hc4 : ((n0 + 1 :Nat):Int) ≤ ((cs.length :Nat):Int)
  ·
   refine q_leq true rfl rfl (decide_eq_true hc4) zN (lw_nil (c_cond_t rfl (wp_seq (wp_plain _ [0,0] rfl (lw_tvn 2 rfl (wp_ret (t_ret ?_)))))))
   have hu8 := u8_lt (cs.getD n0 0)
   exact post_ret [2] rfl (.int .i64 ((cs.getD n0 0).toNat : Int)) rfl ⟨((cs.getD n0 0).toNat : Int),n0 + 1,rfl,hE3.drew,(hs.close hE3.drew hBx3),⟨by omega,by omega⟩,z82_0⟩
  ·
   refine q_leq false rfl rfl (decide_eq_false hc4) zN (lw_nil (c_cond_f rfl (wp_skip (wp_seq (wp_plain _ [0,0,0,2,0,0,0,0] rfl (lw_tv 1 rfl (q_nil rfl zN (q_fld 2 z82_1 rfl zN (q_load (p := (.pointer (some ⟨g,2,none⟩))) (.inr rfl) (.int .u64 (IntKind.u64.wrap ((IntKind.u64.wrap ((IntKind.u64.wrap (sd * 6364136223846793005)) + (IntKind.u64.wrap (((cs.getD n0 0).toNat : Int))))) + 1442695040888963407))) one116 rfl (hBx3.ld (k := 2) sM) zN (q_shr ((IntKind.u64.wrap ((IntKind.u64.wrap ((IntKind.u64.wrap (sd * 6364136223846793005)) + (IntKind.u64.wrap (((cs.getD n0 0).toNat : Int))))) + 1442695040888963407)).fdiv (2 ^ (min (40 : Int).toNat (IntKind.u64).bits))) rfl rfl (by decide) rfl zN (q_and rfl rfl zN ?_)))))))))))
   refine q_conv (andV .u64 ((IntKind.u64.wrap ((IntKind.u64.wrap ((IntKind.u64.wrap (sd * 6364136223846793005)) + (IntKind.u64.wrap (((cs.getD n0 0).toNat : Int))))) + 1442695040888963407)).fdiv (2 ^ (min (40 : Int).toNat (IntKind.u64).bits))) 255) u116 u2 rfl (wand _) zN (lw_tvn 1 rfl (wp_ret ?_))
   have hu8 := u8_lt (cs.getD n0 0)
   exact post_ret [2] rfl (.int .i64 (andV .u64 ((IntKind.u64.wrap ((IntKind.u64.wrap ((IntKind.u64.wrap (sd * 6364136223846793005)) + (IntKind.u64.wrap (((cs.getD n0 0).toNat : Int))))) + 1442695040888963407)).fdiv (2 ^ (min (40 : Int).toNat (IntKind.u64).bits))) 255)) rfl ⟨andV .u64 ((IntKind.u64.wrap ((IntKind.u64.wrap ((IntKind.u64.wrap (sd * 6364136223846793005)) + (IntKind.u64.wrap (((cs.getD n0 0).toNat : Int))))) + 1442695040888963407)).fdiv (2 ^ (min (40 : Int).toNat (IntKind.u64).bits))) 255,n0 + 1,rfl,hE3.drew,(hs.close hE3.drew hBx3),⟨by omega,by omega⟩,z82_0⟩
 ·
  refine q_lss false rfl rfl (decide_eq_false hc1) zN (lw_nil (c_cond_f rfl (wp_skip (wp_seq (wp_plain _ [0,0,0,2,0,0,0,4] rfl (lw_tv 1 rfl (q_nil rfl zN (q_fld 1 z82_1 rfl zN (q_load (p := (.pointer (some ⟨g,1,none⟩))) (.inr rfl) (.int .i64 ((n0 :Nat):Int)) one3 rfl (hbx.ld (k := 1) sM) zN (q_add ((n0 + 1 :Nat):Int) rfl rfl (w64n oM sD) zN (q_nil rfl zN ?_)))))))))))
  refine q_fld 1 z82_1 rfl zN (e_setB (w := w.drew) sz3 rfl rfl ⟨rfl,rfl⟩ hbx sM zN fun w5 hC5 hz5 hB5 => ?_)
  replace hC5 := hC5.of_drew
  have hE5 : Chg [g] w w5 := hE0.trans hC5
  have hBx5 : BX w5.heap g [sv,(.int .i64 ((n0 + 1 :Nat):Int)),(.int .u64 sd)] := hB5
  refine lw_nil (wp_seq (wp_plain _ [0,0,0,0,2,0,0,0,0,0,0,0,4] rfl (lw_tv 2 rfl (q_nil rfl zN (q_fld 2 z82_1 rfl zN (q_load (p := (.pointer (some ⟨g,2,none⟩))) (.inr rfl) (.int .u64 sd) one116 rfl (hBx5.ld (k := 2) sM) zN (q_mul (IntKind.u64.wrap (sd * 6364136223846793005)) rfl rfl rfl zN (lw_tv 1 rfl (q_conv (IntKind.u64.wrap (((0 :Nat):Int))) u3 u116 rfl rfl zN (q_add (IntKind.u64.wrap ((IntKind.u64.wrap (sd * 6364136223846793005)) + (IntKind.u64.wrap (((0 :Nat):Int))))) rfl rfl rfl zN (q_add (IntKind.u64.wrap ((IntKind.u64.wrap ((IntKind.u64.wrap (sd * 6364136223846793005)) + (IntKind.u64.wrap (((0 :Nat):Int))))) + 1442695040888963407)) rfl rfl rfl zN (q_nil rfl zN (q_fld 2 z82_1 rfl zN ?_)))))))))))))
  refine e_setB (w := w5) sz116 rfl rfl ⟨rfl,rfl⟩ hBx5 sM zN fun w6 hC6 hz6 hB6 => ?_
  have hE6 : Chg [g] w w6 := hE5.trans hC6
  have hBx6 : BX w6.heap g [sv,(.int .i64 ((n0 + 1 :Nat):Int)),(.int .u64 (IntKind.u64.wrap ((IntKind.u64.wrap ((IntKind.u64.wrap (sd * 6364136223846793005)) + (IntKind.u64.wrap (((0 :Nat):Int))))) + 1442695040888963407)))] := hB6
  refine lw_nil (wp_seq (wp_seq (wp_draw _ [0,0,0,1,0,0,0,1,0,0] mixed z82_1 (lw_tv 1 rfl (q_nil rfl zN (q_fld 1 z82_1 rfl zN (q_load (p := (.pointer (some ⟨g,1,none⟩))) (.inl rfl) (.int .i64 ((n0 + 1 :Nat):Int)) one3 rfl (hBx6.ld (k := 1) sM) zN (lw_tv 1 rfl (q_nil rfl zN (q_fld 0 z82_1 rfl zN (q_load (p := (.pointer (some ⟨g,0,none⟩))) (.inl rfl) sv one22 rfl (hBx6.ld (k := 0) sM) zN (q_len (v := sv) u22 rfl (hrs _ hE6.drew).isSl zN ?_))))))))))))
  by_cases hc7 : ((n0 + 1 :Nat):Int) ≤ ((cs.length :Nat):Int)
  ·
   refine q_leq true rfl rfl (decide_eq_true hc7) zN (lw_nil (c_cond_t rfl (wp_seq (wp_plain _ [0,0] rfl (lw_tvn 2 rfl (wp_ret (t_ret ?_)))))))
   have hu8 := u8_lt (cs.getD n0 0)
   exact post_ret [2] rfl (.int .i64 ((0 :Nat):Int)) rfl ⟨((0 :Nat):Int),n0 + 1,rfl,hE6.drew,(hs.close hE6.drew hBx6),⟨by omega,by omega⟩,z82_0⟩
  ·
   refine q_leq false rfl rfl (decide_eq_false hc7) zN (lw_nil (c_cond_f rfl (wp_skip (wp_seq (wp_plain _ [0,0,0,2,0,0,0,0] rfl (lw_tv 1 rfl (q_nil rfl zN (q_fld 2 z82_1 rfl zN (q_load (p := (.pointer (some ⟨g,2,none⟩))) (.inr rfl) (.int .u64 (IntKind.u64.wrap ((IntKind.u64.wrap ((IntKind.u64.wrap (sd * 6364136223846793005)) + (IntKind.u64.wrap (((0 :Nat):Int))))) + 1442695040888963407))) one116 rfl (hBx6.ld (k := 2) sM) zN (q_shr ((IntKind.u64.wrap ((IntKind.u64.wrap ((IntKind.u64.wrap (sd * 6364136223846793005)) + (IntKind.u64.wrap (((0 :Nat):Int))))) + 1442695040888963407)).fdiv (2 ^ (min (40 : Int).toNat (IntKind.u64).bits))) rfl rfl (by decide) rfl zN (q_and rfl rfl zN ?_)))))))))))
   refine q_conv (andV .u64 ((IntKind.u64.wrap ((IntKind.u64.wrap ((IntKind.u64.wrap (sd * 6364136223846793005)) + (IntKind.u64.wrap (((0 :Nat):Int))))) + 1442695040888963407)).fdiv (2 ^ (min (40 : Int).toNat (IntKind.u64).bits))) 255) u116 u2 rfl (wand _) zN (lw_tvn 1 rfl (wp_ret ?_))
   have hu8 := u8_lt (cs.getD n0 0)
   exact post_ret [2] rfl (.int .i64 (andV .u64 ((IntKind.u64.wrap ((IntKind.u64.wrap ((IntKind.u64.wrap (sd * 6364136223846793005)) + (IntKind.u64.wrap (((0 :Nat):Int))))) + 1442695040888963407)).fdiv (2 ^ (min (40 : Int).toNat (IntKind.u64).bits))) 255)) rfl ⟨andV .u64 ((IntKind.u64.wrap ((IntKind.u64.wrap ((IntKind.u64.wrap (sd * 6364136223846793005)) + (IntKind.u64.wrap (((0 :Nat):Int))))) + 1442695040888963407)).fdiv (2 ^ (min (40 : Int).toNat (IntKind.u64).bits))) 255,n0 + 1,rfl,hE6.drew,(hs.close hE6.drew hBx6),⟨by omega,by omega⟩,z82_0⟩
theorem z37_0 {p : Prop} (h : p := by first | omega | exact ⟨Int.emod_nonneg _ oM, Int.le_of_lt (Int.lt_of_lt_of_le (Int.emod_lt_of_pos _ oM) oM), fun _ => Int.emod_lt_of_pos _ oM⟩) : p := h
theorem c_spec_l00Src_pick (w : World) (g : Nat) (sv : Value) (cs : List UInt8) (n0 : Nat) (k : Int) (hs : Src w.heap g sv cs n0) (hn0 : n0 + 2 ≤ 1000000000000) (_hk : -9223372036854775808 ≤ k ∧ k ≤ 9223372036854775807) (hk : k ≤ 1000000) :
  Calls Try.prog 37 #[.pointer (some ⟨g,0,none⟩),.int .i64 k] w (fun e w' => ∃ (x0 : Int) (n1 : Nat),e = .returned (.int .i64 x0) ∧ Chg [g] w w' ∧ Src w'.heap g sv cs n1 ∧ (n0 ≤ n1 ∧ n1 ≤ n0 + 2) ∧ (0 ≤ x0 ∧ x0 ≤ 1000000 ∧ (1 ≤ k → x0 < k))) := by
 refine calls_mk [.pointer (some ⟨g,0,none⟩),.int .i64 k] 20 Try.func37 rfl rfl sM ?_
 have hE0 : Chg [g] w w := Chg.refl [g] w
 have hgl := hs.lt
 refine wp_seq (wp_plain _ [0] rfl (lw_tvn 1 rfl (wp_seq (wp_seq (wp_plain _ [0,0] rfl (lw_tv 1 rfl ?_))))))
 by_cases hc1 : k ≤ ((1 :Nat):Int)
 ·
  exact q_leq true rfl rfl (decide_eq_true hc1) zN (lw_nil (c_cond_t rfl (wp_seq (wp_plain _ [0] rfl (lw_tvn 1 rfl (wp_ret (t_ret (post_ret [4] rfl (.int .i64 ((0 :Nat):Int)) rfl ⟨((0 :Nat):Int),n0,rfl,hE0,hs,⟨by omega,by omega⟩,z37_0⟩))))))))
 ·
  refine q_leq false rfl rfl (decide_eq_false hc1) zN (lw_nil (c_cond_f rfl (wp_skip (wp_seq (wp_plain _ [0,4,0] rfl (lw_tv 1 rfl (lw_callE 82 [] [] [(.pointer (some ⟨g,0,none⟩))] rfl rfl cf82 zN (c_spec_l00Src_next _ g _ _ _ hs oM) ?_)))))))
  rintro e2 w2 ⟨x2_0,n2,rfl,hC2,hs2,hb2,hp2_0⟩
  refine ⟨_,rfl,?_⟩
  have hzs2:=hC2.size
  have hE2 : Chg [g] w w2 := hE0.trans hC2
  refine lw_tvn 1 rfl (wp_seq (wp_seq (wp_plain _ [0,0] rfl (lw_tv 1 rfl ?_))))
  by_cases hc3 : ((200 :Nat):Int) < k
  ·
   refine q_gtr true rfl rfl (decide_eq_true hc3) zN (lw_nil (c_cond_t rfl (wp_plain _ [0,0,0,4,0,0] rfl (lw_tv 1 rfl ?_))))
   refine q_mul (x2_0 * ((256 :Nat):Int)) rfl rfl (w64 sD sD) zN (lw_tv 1 rfl ?_)
   refine lw_callE 82 [] [] [(.pointer (some ⟨g,0,none⟩))] rfl rfl cf82 zN (c_spec_l00Src_next _ g _ _ _ hs2 oM) ?_
   rintro e4 w4 ⟨x4_0,n4,rfl,hC4,hs4,hb4,hp4_0⟩
   refine ⟨_,rfl,?_⟩
   have hzs4:=hC4.size
   have hE4 : Chg [g] w w4 := hE2.trans hC4
   refine q_add ((x2_0 * ((256 :Nat):Int)) + x4_0) rfl rfl (w64 sD sD) zN (lw_tvn 1 rfl (wp_seq (wp_plain _ [0,0,0,0] rfl ?_)))
   exact lw_tv 2 rfl (q_rem (((x2_0 * ((256 :Nat):Int)) + x4_0) % k) rfl rfl oM (Int.tmod_eq_emod_of_nonneg oM) zN (lw_tvn 1 rfl (wp_ret (post_ret [4] rfl (.int .i64 (((x2_0 * ((256 :Nat):Int)) + x4_0) % k)) rfl ⟨((x2_0 * ((256 :Nat):Int)) + x4_0) % k,n4,rfl,hE4,hs4,⟨by omega,by omega⟩,z37_0⟩))))
  ·
   exact q_gtr false rfl rfl (decide_eq_false hc3) zN (lw_nil (c_cond_f rfl (wp_skip (wp_seq (wp_plain _ [0,0,0,0] rfl (lw_tv 2 rfl (q_rem ((x2_0) % k) rfl rfl oM (Int.tmod_eq_emod_of_nonneg oM) zN (lw_tvn 1 rfl (wp_ret (post_ret [4] rfl (.int .i64 ((x2_0) % k)) rfl ⟨(x2_0) % k,n2,rfl,hE2,hs2,⟨by omega,by omega⟩,z37_0⟩))))))))))
theorem c_spec_l00Src_one (w : World) (g : Nat) (sv : Value) (cs : List UInt8) (n0 : Nat) (k : Int) (hs : Src w.heap g sv cs n0) (hn0 : n0 + 2 ≤ 1000000000000) (_hk : -9223372036854775808 ≤ k ∧ k ≤ 9223372036854775807) (hk : k ≤ 1000000) :
  Calls Try.prog 39 #[.pointer (some ⟨g,0,none⟩),.int .i64 k] w (fun e w' => ∃ (x0 : Bool) (n1 : Nat),e = .returned (.bool x0) ∧ Chg [g] w w' ∧ Src w'.heap g sv cs n1 ∧ (n0 ≤ n1 ∧ n1 ≤ n0 + 2) ∧ True) := by
 refine calls_mk [.pointer (some ⟨g,0,none⟩),.int .i64 k] 9 Try.func39 rfl rfl sM ?_
 have hE0 : Chg [g] w w := Chg.refl [g] w
 have hgl := hs.lt
 refine wp_seq (wp_plain _ [0] rfl (lw_tvn 1 rfl (wp_seq (wp_plain _ [0,0,4,0,0] rfl (lw_tv 2 rfl (lw_callE 37 [] [] [(.pointer (some ⟨g,0,none⟩)),(.int .i64 k)] rfl rfl cf37 zN (c_spec_l00Src_pick _ g _ _ _ _ hs oM _hk sD) ?_))))))
 rintro e1 w1 ⟨x1_0,n1,rfl,hC1,hs1,hb1,hp1_0⟩
 refine ⟨_,rfl,?_⟩
 have hzs1:=hC1.size
 have hE1 : Chg [g] w w1 := hE0.trans hC1
 exact q_eql (decide (x1_0 = ((0 :Nat):Int))) rfl rfl rfl zN (lw_tvn 1 rfl (wp_ret (post_ret [4] rfl (.bool (decide (x1_0 = ((0 :Nat):Int)))) rfl ⟨decide (x1_0 = ((0 :Nat):Int)),n1,rfl,hE1,hs1,⟨by omega,by omega⟩,(by trivial)⟩)))
theorem c_spec_l01Any (w : World) (g : Nat) (sv : Value) (cs : List UInt8) (n0 : Nat) (hs : Src w.heap g sv cs n0) (hn0 : n0 + 8 ≤ 1000000000000)  :
  Calls Try.prog 83 #[.pointer (some ⟨g,0,none⟩)] w (fun e w' => ∃ (x0 : Int) (n1 : Nat),e = .returned (.int .i64 x0) ∧ Chg [g] w w' ∧ Src w'.heap g sv cs n1 ∧ (n0 ≤ n1 ∧ n1 ≤ n0 + 8) ∧ (0 ≤ x0 ∧ x0 < 1000003)) := by
 refine calls_mk [.pointer (some ⟨g,0,none⟩)] 25 Try.func83 rfl rfl sM ?_
 have hE0 : Chg [g] w w := Chg.refl [g] w
 have hgl := hs.lt
 refine wp_seq (wp_plain _ [0] rfl (lw_tvn 1 rfl (wp_seq (wp_seq (wp_plain _ [0,4] rfl (lw_tv 1 rfl (lw_callE 37 [] [] [(.pointer (some ⟨g,0,none⟩)),(.int .i64 ((6 :Nat):Int))] rfl rfl cf37 zN (c_spec_l00Src_pick _ g _ _ _ _ hs oM oM sD) ?_)))))))
 rintro e1 w1 ⟨x1_0,n1,rfl,hC1,hs1,hb1,hp1_0⟩
 refine ⟨_,rfl,?_⟩
 have hzs1:=hC1.size
 have hE1 : Chg [g] w w1 := hE0.trans hC1
 refine lw_nil (wp_block (wp_seq (wp_plain _ [0,0] rfl ?_)))
 by_cases hc2 : x1_0 = ((0 :Nat):Int)
 ·
  refine q_eql true rfl rfl (decide_eq_true hc2) zN (lw_tvn 1 rfl (c_cond_t rfl (wp_seq (wp_plain _ [0,4,0,0] rfl (lw_tv 1 rfl (lw_callE 37 [] [] [(.pointer (some ⟨g,0,none⟩)),(.int .i64 ((3 :Nat):Int))] rfl rfl cf37 zN (c_spec_l00Src_pick _ g _ _ _ _ hs1 oM oM sD) ?_))))))
  rintro e3 w3 ⟨x3_0,n3,rfl,hC3,hs3,hb3,hp3_0⟩
  refine ⟨_,rfl,?_⟩
  have hzs3:=hC3.size
  have hE3 : Chg [g] w w3 := hE1.trans hC3
  refine q_sub (((1000002 :Nat):Int) - x3_0) rfl rfl (w64 sD sD) zN (lw_tvn 1 rfl (wp_ret (b_ret (t_ret ?_))))
  exact post_ret [2] rfl (.int .i64 (((1000002 :Nat):Int) - x3_0)) rfl ⟨((1000002 :Nat):Int) - x3_0,n3,rfl,hE3,hs3,⟨by omega,by omega⟩,(by first | omega | exact md_num _)⟩
 ·
  refine q_eql false rfl rfl (decide_eq_false hc2) zN (lw_tvn 1 rfl (c_cond_f rfl (wp_seq (wp_plain _ [0,0] rfl ?_))))
  by_cases hc4 : x1_0 = ((1 :Nat):Int)
  ·
   refine q_eql true rfl rfl (decide_eq_true hc4) zN (lw_tvn 1 rfl (c_cond_t rfl (wp_seq (wp_plain _ [0,4,0,0,4,0,0,0,4,0,0,0] rfl (lw_tv 1 rfl (lw_callE 37 [] [] [(.pointer (some ⟨g,0,none⟩)),(.int .i64 ((256 :Nat):Int))] rfl rfl cf37 zN (c_spec_l00Src_pick _ g _ _ _ _ hs1 oM oM sD) ?_))))))
   rintro e5 w5 ⟨x5_0,n5,rfl,hC5,hs5,hb5,hp5_0⟩
   refine ⟨_,rfl,?_⟩
   have hzs5:=hC5.size
   have hE5 : Chg [g] w w5 := hE1.trans hC5
   refine q_mul (x5_0 * ((65536 :Nat):Int)) rfl rfl (w64 sD sD) zN (lw_tv 1 rfl ?_)
   refine lw_callE 37 [] [] [(.pointer (some ⟨g,0,none⟩)),(.int .i64 ((256 :Nat):Int))] rfl rfl cf37 zN (c_spec_l00Src_pick _ g _ _ _ _ hs5 oM oM sD) ?_
   rintro e6 w6 ⟨x6_0,n6,rfl,hC6,hs6,hb6,hp6_0⟩
   refine ⟨_,rfl,?_⟩
   have hzs6:=hC6.size
   have hE6 : Chg [g] w w6 := hE5.trans hC6
   refine q_mul (x6_0 * ((256 :Nat):Int)) rfl rfl (w64 sD sD) zN ?_
   refine q_add ((x5_0 * ((65536 :Nat):Int)) + (x6_0 * ((256 :Nat):Int))) rfl rfl (w64 sD sD) zN (lw_tv 1 rfl ?_)
   refine lw_callE 37 [] [] [(.pointer (some ⟨g,0,none⟩)),(.int .i64 ((256 :Nat):Int))] rfl rfl cf37 zN (c_spec_l00Src_pick _ g _ _ _ _ hs6 oM oM sD) ?_
   rintro e7 w7 ⟨x7_0,n7,rfl,hC7,hs7,hb7,hp7_0⟩
   refine ⟨_,rfl,?_⟩
   have hzs7:=hC7.size
   have hE7 : Chg [g] w w7 := hE6.trans hC7
   refine q_add (((x5_0 * ((65536 :Nat):Int)) + (x6_0 * ((256 :Nat):Int))) + x7_0) rfl rfl (w64 sD sD) zN ?_
   exact q_rem (md (((x5_0 * ((65536 :Nat):Int)) + (x6_0 * ((256 :Nat):Int))) + x7_0)) rfl rfl (by decide) (Int.tmod_eq_emod_of_nonneg oM) zN (lw_tvn 1 rfl (wp_ret (b_ret (t_ret (post_ret [2] rfl (.int .i64 (md (((x5_0 * ((65536 :Nat):Int)) + (x6_0 * ((256 :Nat):Int))) + x7_0))) rfl ⟨md (((x5_0 * ((65536 :Nat):Int)) + (x6_0 * ((256 :Nat):Int))) + x7_0),n7,rfl,hE7,hs7,⟨by omega,by omega⟩,(by first | omega | exact md_num _)⟩)))))
  ·
   refine q_eql false rfl rfl (decide_eq_false hc4) zN (lw_tvn 1 rfl (c_cond_f rfl (wp_skip (wp_seq (wp_plain _ [0,4,0] rfl (lw_tv 1 rfl (lw_callE 37 [] [] [(.pointer (some ⟨g,0,none⟩)),(.int .i64 ((7 :Nat):Int))] rfl rfl cf37 zN (c_spec_l00Src_pick _ g _ _ _ _ hs1 oM oM sD) ?_)))))))
   rintro e8 w8 ⟨x8_0,n8,rfl,hC8,hs8,hb8,hp8_0⟩
   refine ⟨_,rfl,?_⟩
   have hzs8:=hC8.size
   have hE8 : Chg [g] w w8 := hE1.trans hC8
   exact lw_tvn 1 rfl (wp_ret (post_ret [2] rfl (.int .i64 x8_0) rfl ⟨x8_0,n8,rfl,hE8,hs8,⟨by omega,by omega⟩,(by first | omega | exact md_num _)⟩))
theorem c_spec_l01Draw (w : World) (g : Nat) (sv : Value) (cs : List UInt8) (n0 : Nat) (k : Int) (hs : Src w.heap g sv cs n0) (hn0 : n0 + (8 * k.toNat) ≤ 1000000000000) (_hk : -9223372036854775808 ≤ k ∧ k ≤ 9223372036854775807) (hk : k ≤ 1000) :
  Calls Try.prog 38 #[.pointer (some ⟨g,0,none⟩),.int .i64 k] w (fun e w' => ∃ (v0 : Value) (x0 : List Int) (n1 : Nat),e = .returned (v0) ∧ Chg [g] w w' ∧ Src w'.heap g sv cs n1 ∧ (n0 ≤ n1 ∧ n1 ≤ n0 + (8 * k.toNat)) ∧ Fr (owL rI 2) w.heap.size w'.heap.size w'.heap v0 x0 ∧ (x0.length = k.toNat ∧ allN x0 = true)) := by
 refine calls_mk [.pointer (some ⟨g,0,none⟩),.int .i64 k] 19 Try.func38 rfl rfl sM ?_
 have hE0 : Chg [g] w w := Chg.refl [g] w
 have hgl := hs.lt
 refine wp_seq (wp_plain _ [0] rfl (lw_tvn 1 rfl (wp_seq (wp_plain _ [3,0] rfl (r_nil (rI) good_rI u25 ti2 zN fun v1 w1 hX1 hz1 hO1 => ?_)))))
 have hzs1:=hX1.size
 have hE1 : Chg [g] w w1 := hE0.ext hX1
 have hsx1 := hs.ext hX1
 refine lw_tvn 1 rfl (wp_seq (wp_seq (wp_plain _ [0] rfl (lw_tvn 1 rfl (wp_block ?_)))))
 refine c_loop (S := Nat × Value × List Int × Nat) (fun (⟨j,vo,xs,m⟩ : Nat × Value × List Int × Nat) => ([(5,vo),(6,(.int .i64 ((j :Nat):Int))),(0,(.pointer (some ⟨g,0,none⟩))),(1,(.int .i64 k))] : List (Nat × Value))) (fun (⟨j,vo,xs,m⟩ : Nat × Value × List Int × Nat) (W : World) => Chg [g] w W ∧ Fr (owL rI 2) w.heap.size W.heap.size W.heap vo xs ∧ Src W.heap g sv cs m ∧ j ≤ k.toNat ∧ (n0 ≤ m ∧ m ≤ n0 + 8 * j) ∧ (xs.length = j ∧ allN xs = true)) (fun (⟨j,vo,xs,m⟩ : Nat × Value × List Int × Nat) => k.toNat - j) (0,v1,[],n0) ⟨rfl,rfl,rfl,rfl,trivial⟩ ⟨hE1,hO1.up o1,hsx1,sD,oM,(by exact ⟨rfl,rfl⟩)⟩ ?_
 clear hE0 hO1 hz1 hX1 hzs1 hE1
 rintro ⟨j,vo,xs,m⟩ ρ2 w2 ⟨hE2,hL2_0,hL2_1,hp2_0,hm,hxs⟩
 have hzs2 : w.heap.size ≤ w2.heap.size := hE2.size
 refine wp_seq (wp_seq (wp_plain _ [0,0,0] rfl (lw_tv 2 rfl ?_)))
 by_cases hc3 : ((j :Nat):Int) < k
 ·
  refine q_lss true rfl rfl (decide_eq_true hc3) zN (lw_nil (c_cond_t rfl (wp_skip (wp_seq (wp_block (wp_plain _ [0,0,4,3,4,0] rfl (lw_tv 2 rfl (lw_callE 83 [] [] [(.pointer (some ⟨g,0,none⟩))] rfl rfl cf83 zN (c_spec_l01Any _ g _ _ _ hL2_1 oM) ?_))))))))
  rintro e4 w4 ⟨x4_0,n4,rfl,hC4,hs4,hb4,hp4_0⟩
  refine ⟨_,rfl,?_⟩
  have hzs4:=hC4.size
  have hE4 : Chg [g] w w4 := hE2.trans hC4
  have hF5 := hL2_0.chg (o1) hC4 (fun b hb => by have : b = g := (by simpa using hb); omega)
  refine r_one (u := (.int .i64 x4_0)) (B := w4.heap.size) good_rI u25 ti2 rfl rfl (frI w4.heap.size w4.heap.size _ _ oM) (Nat.le_refl _) zN fun v6 w6 hX6 hz6 hO6 => ?_
  have hzs6:=hX6.size
  have hE6 : Chg [g] w w6 := hE4.ext hX6
  have hF5x6 := hF5.ext (o1) hX6
  have hs4x6 := hs4.ext hX6
  refine e_appI (v := vo) (a := v6) u25 ti2 rfl rfl rfl hF5x6 hE6.size hO6.rd1 sD (by unfold maxLen; first | omega | assumption | (simp; done) | (simp; omega)) zN fun v7 w7 F7 hC7 hF7 hO7 => ?_
  have hE7 : Chg [g] w w7 := hE6.fresh hC7 (fun c hc => Nat.le_trans (Nat.le_refl _) (hF7 c hc).1)
  have hzs7:=hC7.size
  have hF8 := hs4x6.chg hC7 (fun c hc => by have := hF7 c hc; omega)
  have hF9 := hO6.chg (o1) hC7 (fun c hc => by have := hF7 c hc; omega)
  refine lw_tvn 1 rfl (wp_plain _ [0,0,0] rfl (lw_tv 1 rfl (q_add ((j + 1 :Nat):Int) rfl rfl (w64n oM oM) zN (lw_tvn 1 rfl ?_))))
  exact ⟨((j + 1),v7,(xs ++ [x4_0]),n4),_,rfl,⟨rfl,rfl,rfl,rfl,trivial⟩,⟨hE7,hO7.up o1,hF8,sD,oM,(by exact ⟨by rw [List.length_append,hxs.1]; rfl,by unfold allN at *; rw [List.all_append,hxs.2]; simp only [List.all_cons,List.all_nil,Bool.and_true,Bool.true_and]; exact isN_iff.2 oM⟩)⟩,by first | omega | (dsimp only; omega)⟩
 ·
  exact q_lss false rfl rfl (decide_eq_false hc3) zN (lw_nil (c_cond_f rfl (wp_exit (t_exit (t_exit (c_exit_here (wp_seq (wp_plain _ [0,0] rfl (lw_tvn 2 rfl (wp_ret (post_ret [4] rfl vo rfl ⟨vo,xs,m,rfl,hE2,hL2_1,⟨by omega,by omega⟩,hL2_0.up o1,(by exact ⟨by omega,hxs.2⟩)⟩)))))))))))
end Go.Proofs.Ytnokbaiemimhjaa
namespace Go.Proofs.Ytnokbaiemimhjaa
open Go Go.RowKit
set_option linter.unusedVariables false
set_option linter.unusedSimpArgs false
set_option maxHeartbeats 4000000
set_option maxRecDepth 100000
attribute [local irreducible] LW
theorem bld98a (a : Option Addr) (n c : Nat) (w : World) : (Instr.build 118 #[(0, .slice a n c)]).run Try.prog w = .ok (.agg #[.slice a n c, .int .i64 0, .int .u64 0]) w := by
  kernel_rfl
theorem bld98 {v : Value} {n : Nat} (h : isSl v n) (w : World) : (Instr.build 118 #[(0, v)]).run Try.prog w = .ok (.agg #[v, .int .i64 0, .int .u64 0]) w := by
  obtain ⟨a, c, rfl, _⟩ := h
  exact bld98a a n c w
theorem c_spec_l00From (w : World) (vc : Value) (cs : List UInt8) (hcs : Rd (rdL rU) w.heap vc cs)  :
  Calls Try.prog 36 #[vc] w (fun e w' => ∃ g : Nat,e = .returned (.pointer (some ⟨g,0,none⟩)) ∧ Ext w w' ∧ Src w'.heap g vc cs 0 ∧ w.heap.size ≤ g) := by
 refine calls_mk [vc] 6 Try.func36 rfl rfl sM ?_
 have hE0 : Ext w w := Ext.refl w
 have hl_vc := hcs.lenle
 refine wp_seq (wp_plain _ [0] rfl (lw_tvn 1 rfl (wp_seq (wp_plain _ [0,0,3,0] rfl (lw_tv 1 rfl (q_build (ps := #[(0,vc)]) (.agg #[vc,.int .i64 0,.int .u64 0]) (by simp only [List.map_toArray,List.map_cons,List.map_nil]; rfl) (fun wq => bld98 hcs.isSl wq) zN (r_boxA rfl zN fun w1 hX1 hz1 hB1 => ?_)))))))
 have hzs1:=hX1.size
 have hE1:=hE0.trans hX1
 have hs1 := Src.new hcs hE1 hB1 hE0.size
 exact lw_tvn 1 rfl (wp_ret (post_ret [2] rfl (.pointer (some ⟨w.heap.size,0,none⟩)) rfl ⟨w.heap.size,rfl,hE1,hs1,hE0.size⟩))
end Go.Proofs.Ytnokbaiemimhjaa
namespace Go.Proofs.Ytnokbaiemimhjaa
open Go Go.RowKit
set_option linter.unusedVariables false
set_option linter.unusedSimpArgs false
set_option maxHeartbeats 4000000
set_option maxRecDepth 100000
attribute [local irreducible] LW
/-- What the program does when it evaluates an expression. -/
def PV (F d : Nat) : Prop := ∀ (w : World) (S : List Nat) (g : Nat) (vp : Value) (dp o s0 : Nat) (c0 : Int) (p : List Fn) (ve : Value) (ex : Ex) (vv : Value) (env : List (List Int)) (hS : ∀ b ∈ S, b < w.heap.size) (hgS : g ∈ S) (hB0 : BX w.heap g [vp, .int .i64 ((o : Nat) : Int), .int .i64 ((s0 : Nat) : Int), .int .i64 c0]) (hp : RP S dp w.heap vp p) (ho : o ≤ 12) (hs0 : s0 ≤ 3000) (hc0 : 0 ≤ c0 ∧ c0 ≤ 9) (hex : RX S d w.heap ve ex) (henv : RN S (rdL (rdL rI)) w.heap vv env) (hqenv : CapS vv)
  (hvp : VPr p) (hF : F ≤ p.length) (hwf : wf p ((F : Nat) : Int) ex ((env.length : Nat) : Int) = true) (hse : SrE (o + 1) env) (hdp : env.length + ex.deep ≤ 1000000),
  Calls Try.prog 152 #[.pointer (some ⟨g, 0, none⟩), .agg #[.int .i64 ex.kind, .int .i64 ex.num, .int .i64 ex.pick, .int .i64 ex.count, ve], vv] w (fun e w' => ∃ (v : Value) (x : List Int) (s1 : Nat) (c1 : Int), e = .returned v ∧ Chg [g] w w' ∧ BX w'.heap g [vp, .int .i64 ((o : Nat) : Int), .int .i64 ((s1 : Nat) : Int), .int .i64 c1] ∧ RN S (rdL rI) w'.heap v x ∧ Ser1 (o + 1) x ∧ s1 ≤ 3000 ∧ (0 ≤ c1 ∧ c1 ≤ 9) ∧ RelV (go c0 (evE (o + 1) (evC p (o + 1) F) ex env s0)) x s1 c1)
def PA (F d : Nat) : Prop := ∀ (w : World) (S : List Nat) (g : Nat) (vp : Value) (dp o s0 : Nat) (c0 : Int) (p : List Fn) (vl : Value) (l : List Ex) (vv : Value) (env : List (List Int)) (hS : ∀ b ∈ S, b < w.heap.size) (hgS : g ∈ S) (hB0 : BX w.heap g [vp, .int .i64 ((o : Nat) : Int), .int .i64 ((s0 : Nat) : Int), .int .i64 c0]) (hp : RP S dp w.heap vp p) (ho : o ≤ 12) (hs0 : s0 ≤ 3000) (hc0 : 0 ≤ c0 ∧ c0 ≤ 9) (hl : RN S (rdS 5 (rEx d)) w.heap vl l) (henv : RN S (rdL (rdL rI)) w.heap vv env) (hqenv : CapS vv)
  (hvp : VPr p) (hF : F ≤ p.length) (hwf : ∀ k, k < l.length → wf p ((F : Nat) : Int) (l.getD k Ex.zero) ((env.length : Nat) : Int) = true) (hse : SrE (o + 1) env) (hdp : ∀ k, k < l.length → env.length + (l.getD k Ex.zero).deep ≤ 1000000) (hll : l.length ≤ 1000000),
  Calls Try.prog 137 #[.pointer (some ⟨g, 0, none⟩), vl, vv] w (fun e w' => ∃ (v : Value) (x : List (List Int)) (s1 : Nat) (c1 : Int), e = .returned v ∧ Chg [g] w w' ∧ BX w'.heap g [vp, .int .i64 ((o : Nat) : Int), .int .i64 ((s1 : Nat) : Int), .int .i64 c1] ∧ RN S (rdL (rdL rI)) w'.heap v x ∧ (CapS v ∧ x.length = l.length ∧ SrE (o + 1) x) ∧ s1 ≤ 3000 ∧ (0 ≤ c1 ∧ c1 ≤ 9) ∧ RelV (go c0 (evs (o + 1) (evC p (o + 1) F) l env s0)) x s1 c1)
theorem c_slices_Clip_____int64___int64_ (w : World) (v : Value) (n : Nat) (hs : isSl v n) (hcs : CapS v)  :
  Calls Try.prog 158 #[v] w (fun e w' => e = .returned (clipV v) ∧ w' = w) := by
 refine calls_mk [v] 9 Try.func158 rfl rfl sM ?_
 have hE0 : w = w := rfl
 exact wp_seq (wp_plain _ [0] rfl (lw_tvn 1 rfl (wp_seq (wp_plain _ [0,0,0,0,0,0,0] rfl (lw_tv 2 rfl (q_len (v := v) u24 rfl hs zN (lw_tv 1 rfl (q_len (v := v) u24 rfl hs zN (q_clip (v := v) u24 ti25 rfl hs rfl rfl hcs zN (lw_tvn 1 rfl (wp_ret (post_ret [2] rfl (clipV v) rfl ⟨rfl,hE0⟩))))))))))))
theorem c_impl_evaluation_constant (w : World) (S : List Nat) (g : Nat) (vp : Value) (dp o s0 : Nat) (c0 : Int) (p : List Fn) (n : Int) (hS : ∀ b ∈ S,b < w.heap.size) (hgS : g ∈ S) (hB0 : BX w.heap g [vp,.int .i64 ((o :Nat):Int),.int .i64 ((s0 :Nat):Int),.int .i64 c0]) (hp : RP S dp w.heap vp p) (ho : o ≤ 12) (hs0 : s0 ≤ 3000) (hc0 : 0 ≤ c0 ∧ c0 ≤ 9) (_hn : -9223372036854775808 ≤ n ∧ n ≤ 9223372036854775807)  :
  Calls Try.prog 157 #[.pointer (some ⟨g,0,none⟩),.int .i64 n] w (fun e w' => ∃ v0 : Value,e = .returned (v0) ∧ Ext w w' ∧ Fr (owL rI 2) w.heap.size w'.heap.size w'.heap v0 (cst (o + 1) n)) := by
 refine calls_mk [.pointer (some ⟨g,0,none⟩),.int .i64 n] 16 Try.func157 rfl rfl sM ?_
 have hE0 : Ext w w := Ext.refl w
 have hl_vp := hp.lenle
 unfold maxLen at hl_vp
 have hgl := hB0.lt
 refine wp_seq (wp_plain _ [0] rfl (lw_tvn 1 rfl (wp_seq (wp_plain _ [0,0,0,2,0,3,0] rfl (lw_tv 1 rfl (q_nil rfl zN (q_fldP (p := (.pointer (some ⟨g,0,none⟩))) (b := g) (o := 0) 1 fd171_1 rfl rfl zN (q_load (p := (padd (.pointer (some ⟨g,0,none⟩)) 1)) (.inr rfl) (.int .i64 ((o :Nat):Int)) one3 rfl (hB0.ldp (i := 1) sM) zN (q_add ((o + 1 :Nat):Int) rfl rfl (w64n oM oM) zN ?_)))))))))
 refine r_make (n := o + 1) u25 ti2 rfl rfl rfl sD zN fun v1 w1 hX1 hz1 hO1 => ?_
 have hzs1:=hX1.size
 have hE1:=hE0.trans hX1
 have hB0x1 := hB0.ext hX1
 refine lw_tvn 1 rfl (wp_seq (wp_plain _ [0,0,0,4] rfl (lw_tv 2 rfl (q_idx (v := v1) 0 u25 ti2 rfl rfl hO1.isSl rfl sM zN (e_setI (v := v1) (w := w1) sz2 rfl rfl _hn hO1 sM zN fun w2 F2 hC2 hz2 hF2 hO2 => ?_)))))
 have hE2 : Ext w w2 := hC2.below hE1 (fun c hc => Nat.le_trans (Nat.le_refl _) (hF2 c hc).1) hE1.size
 have hzs2:=hC2.size
 have hF3 := hB0x1.chg hC2 (fun hm => by have := hF2 _ hm; omega)
 exact lw_nil (wp_seq (wp_plain _ [0,0] rfl (lw_tvn 2 rfl (wp_ret (post_ret [4] rfl v1 rfl ⟨v1,rfl,hE2,hO2.up o1⟩)))))
theorem c_impl_evaluation_all (w : World) (S : List Nat) (F : Nat) (g : Nat) (vp : Value) (dp o s0 : Nat) (c0 : Int) (p : List Fn) (dl : Nat) (vl : Value) (l : List Ex) (vv : Value) (env : List (List Int)) (hS : ∀ b ∈ S,b < w.heap.size) (hgS : g ∈ S) (hB0 : BX w.heap g [vp,.int .i64 ((o :Nat):Int),.int .i64 ((s0 :Nat):Int),.int .i64 c0]) (hp : RP S dp w.heap vp p) (ho : o ≤ 12) (hs0 : s0 ≤ 3000) (hc0 : 0 ≤ c0 ∧ c0 ≤ 9) (hl : RN S (rdS 5 (rEx dl)) w.heap vl l) (henv : RN S (rdL (rdL rI)) w.heap vv env) (hqenv : CapS vv) (hvp : VPr p) (hF : F ≤ p.length) (hwf : ∀ k,k < l.length → wf p ((F :Nat):Int) (l.getD k Ex.zero) ((env.length :Nat):Int) = true) (hse : SrE (o + 1) env) (hdp : ∀ k,k < l.length → env.length + (l.getD k Ex.zero).deep ≤ 1000000) (hll : l.length ≤ 1000000) (IHv : ∀ d',d' < dl → PV F d') :
  Calls Try.prog 137 #[.pointer (some ⟨g,0,none⟩),vl,vv] w (fun e w' => ∃ (v : Value) (x : List (List Int)) (s1 : Nat) (c1 : Int),e = .returned v ∧ Chg [g] w w' ∧ BX w'.heap g [vp,.int .i64 ((o :Nat):Int),.int .i64 ((s1 :Nat):Int),.int .i64 c1] ∧ RN S (rdL (rdL rI)) w'.heap v x ∧ (CapS v ∧ x.length = l.length ∧ SrE (o + 1) x) ∧ s1 ≤ 3000 ∧ (0 ≤ c1 ∧ c1 ≤ 9) ∧ RelV (go c0 (evs (o + 1) (evC p (o + 1) F) l env s0)) x s1 c1) := by
 refine calls_mk [.pointer (some ⟨g,0,none⟩),vl,vv] 26 Try.func137 rfl rfl sM ?_
 have hE0 : Chg [g] w w := Chg.refl [g] w
 have hl_vp := hp.lenle
 unfold maxLen at hl_vp
 have hl_vl := hl.lenle
 unfold maxLen at hl_vl
 have hl_vv := henv.lenL
 unfold maxLen at hl_vv
 have hgl := hB0.lt
 refine wp_seq (wp_plain _ [0] rfl (lw_tvn 1 rfl (wp_seq (wp_plain _ [3,0] rfl (r_nil rV good_rV u24 ti25 zN fun v1 w1 hX1 hz1 hO1 => ?_)))))
 have hzs1:=hX1.size
 have hE1 : Chg [g] w w1 := hE0.ext hX1
 have hB0x1 := hB0.ext hX1
 obtain ⟨us1,F1,hb1⟩ := Bld.nil (S := S) (hO1.low (B' := w.heap.size) (Nat.le_refl _))
 refine lw_tvn 1 rfl (wp_seq (wp_seq (wp_plain _ [0,0,0] rfl (lw_tv 1 rfl (q_len (v := vl) u29 rfl hl.isSl zN (lw_tvn 1 rfl (wp_block ?_)))))))
 refine c_loop (S := Nat × Value × List (List Int) × Nat × Int) (fun (⟨k,vo,xs,s9,c9⟩ : Nat × Value × List (List Int) × Nat × Int) => ([(7,vo),(13,(.int .i64 ((k :Nat):Int))),(0,(.pointer (some ⟨g,0,none⟩))),(2,vv),(11,vl),(12,(.int .i64 ((l.length :Nat):Int)))] : List (Nat × Value))) (fun (⟨k,vo,xs,s9,c9⟩ : Nat × Value × List (List Int) × Nat × Int) (W : World) => Chg [g] w W ∧ BX W.heap g [vp,.int .i64 ((o :Nat):Int),.int .i64 ((s9 :Nat):Int),.int .i64 c9] ∧ k ≤ l.length ∧ BldE 25 S w.heap.size W.heap vo xs ∧ xs.length = k ∧ SrE (o + 1) xs ∧ s9 ≤ 3000 ∧ (0 ≤ c9 ∧ c9 ≤ 9) ∧ RelV (go c0 (evs (o + 1) (evC p (o + 1) F) (l.take k) env s0)) xs s9 c9) (fun (⟨k,vo,xs,s9,c9⟩ : Nat × Value × List (List Int) × Nat × Int) => l.length - k) (0,v1,([] : List (List Int)),s0,c0) ⟨rfl,rfl,rfl,rfl,rfl,rfl,trivial⟩ ⟨hE1,hB0x1,sD,(by exact ⟨_,_,by assumption⟩),(by rfl),(by intro j hj; simp at hj),oM,oM,(by exact all_start _ _ _ _ _ _)⟩ ?_
 clear hE0 hO1 hz1 hX1 hzs1 hE1
 rintro ⟨k,vo,xs,s9,c9⟩ ρ2 w2 ⟨hE2,hL2_0,hp2_0,hbld,hxl,hxs,hp2_4,hp2_5,hrl⟩
 have hzs2 : w.heap.size ≤ w2.heap.size := hE2.size
 have hq3 := hL2_0.lt
 obtain ⟨us5,F5,hbl4⟩ := hbld
 refine wp_seq (wp_plain _ [0] rfl ?_)
 by_cases hc6 : ((k :Nat):Int) < ((l.length :Nat):Int)
 ·
  refine q_lss true rfl rfl (decide_eq_true hc6) zN (lw_nil (wp_seq (c_cond_t rfl (wp_skip (wp_seq (wp_block (wp_seq (wp_plain _ [0,2,3,4] rfl ?_))))))))
  have hkl : k < l.length := by omega
  refine q_idx (v := vl) k u29 tiS31 rfl rfl hl.isSl rfl sD zN ?_
  obtain ⟨cs7,hr7,hl7⟩ := hl.get (good_rEx dl) Ex.zero (k := k) sD
  obtain ⟨dd7,ve7,hd7,rfl,hx7⟩ := RX.of hr7
  have hln7 := hx7.rn.lenle
  unfold maxLen at hln7
  refine q_loadA (p := eptr vl k 5) (.inr rfl) [(.int .i64 ((l.getD k Ex.zero).kind)),(.int .i64 ((l.getD k Ex.zero).num)),(.int .i64 ((l.getD k Ex.zero).pick)),(.int .i64 ((l.getD k Ex.zero).count)),ve7] agg31 rfl (fun wq9 hw9 => hl7 wq9 ((hE2.sub (subS hgS)).ext hw9)) rfl zN ?_
  have hq9 := hL2_0.lt
  refine r_allocA (z := .agg #[.int .i64 0,.int .i64 0,.int .i64 0,.int .i64 0,.slice none 0 0]) zr31 zN fun w8 hX8 hz8 hB8 => ?_
  have hzs8:=hX8.size
  have hE8 : Chg [g] w w8 := hE2.ext hX8
  have hL2_0x8 := hL2_0.ext hX8
  have hN10 := hbl4.ext hX8
  replace hB8 : BX w8.heap w2.heap.size [(.int .i64 0),(.int .i64 0),(.int .i64 0),(.int .i64 0),(.slice none 0 0)] := hB8
  refine e_setA (vs := [(.int .i64 ((l.getD k Ex.zero).kind)),(.int .i64 ((l.getD k Ex.zero).num)),(.int .i64 ((l.getD k Ex.zero).pick)),(.int .i64 ((l.getD k Ex.zero).count)),ve7]) agg31 rfl rfl hx7.ones hB8 rfl rfl zN fun w11 hC11 hz11 hB11 => ?_
  replace hB11 : BX w11.heap w2.heap.size [(.int .i64 ((l.getD k Ex.zero).kind)),(.int .i64 ((l.getD k Ex.zero).num)),(.int .i64 ((l.getD k Ex.zero).pick)),(.int .i64 ((l.getD k Ex.zero).count)),ve7] := hB11
  have hE11 : Chg [g] w w11 := hE8.fresh hC11 (fun c hc => by have := List.mem_singleton.1 hc; omega)
  have hzs11:=hC11.size
  have hF12 := hL2_0x8.chg hC11 (fun hm => by have := List.mem_singleton.1 hm; omega)
  have hN13 := hbl4.ext (hC11.below hX8 (fun c hc => by have := List.mem_singleton.1 hc; omega) hX8.size)
  refine lw_nil (wp_plain _ [0,0,2,0,4,3,4,0] rfl (lw_tv 2 rfl (q_loadA (p := (.pointer (some ⟨w2.heap.size,0,none⟩))) (.inr rfl) [(.int .i64 ((l.getD k Ex.zero).kind)),(.int .i64 ((l.getD k Ex.zero).num)),(.int .i64 ((l.getD k Ex.zero).pick)),(.int .i64 ((l.getD k Ex.zero).count)),ve7] agg31 rfl (fun wq9 hw9 => LD.of_box (BX.ext (w := w11) hB11 hw9)) rfl zN (lw_tv 1 rfl ?_))))
  refine lw_callE 152 [] [] [(.pointer (some ⟨g,0,none⟩)),(.agg #[(.int .i64 ((l.getD k Ex.zero).kind)),(.int .i64 ((l.getD k Ex.zero).num)),(.int .i64 ((l.getD k Ex.zero).pick)),(.int .i64 ((l.getD k Ex.zero).count)),ve7]),vv] rfl rfl cf152 zN (IHv dd7 oM _ (S ++ F5) g vp dp (o) (s9) (c9) (p) ve7 (l.getD k Ex.zero) vv (env) (fun b hb => (by rcases List.mem_append.1 hb with hb | hb; (have := hS b hb; omega); exact hN13.lt b hb : b < w11.heap.size)) (List.mem_append_left _ hgS) hF12 ((hp.add (F := F5) (good_rdS (good_rFn dp)) hN13.low).chg (good_rdS (good_rFn dp)) (hE11.sub (subA hgS))) oM oM oM ⟨hx7.rng,((hx7.rn.add (F := F5) (good_rdS (good_rEx dd7)) hN13.low).chg (good_rdS (good_rEx dd7)) (hE11.sub (subA hgS)))⟩ ((henv.add (F := F5) g2 hN13.low).chg g2 (hE11.sub (subA hgS))) hqenv (by exact hvp) oM (by exact hwf k hkl) (by exact hse) (by exact hdp k hkl)) ?_
  rintro e14 w14 ⟨v14,x14,s14,c14,rfl,hC14,hB14,hr14,hse14,hsb14,hcb14,hrl14⟩
  refine ⟨_,rfl,?_⟩
  have hzs14:=hC14.size
  have hE14 : Chg [g] w w14 := hE11.trans hC14
  have hF19 := hB11.chg hC14 (fun hm => by have := List.mem_singleton.1 hm; omega)
  have hF20 := hN13.run hgS oM hC14
  have hsn14 := hse14.1
  replace hr14 : RN (S ++ F5) (rdL rI) w14.heap v14 x14 := hr14
  refine r_one (u := v14) (B := w14.heap.size) good_rV u24 ti25 rfl rfl (frV w14.heap.size w14.heap.size _ (hr14.one1 g1)) (Nat.le_refl _) zN fun v21 w21 hX21 hz21 hO21 => ?_
  have hzs21:=hX21.size
  have hE21 : Chg [g] w w21 := hE14.ext hX21
  have hB14x21 := hB14.ext hX21
  have hF19x21 := hF19.ext hX21
  have hN22 := hF20.ext hX21
  have hN23 := hr14.ext g1 hX21
  refine e_appB (v := vo) (a := v21) (u := v14) u24 ti25 rfl rfl rfl hN22 oM hO21 hN23 sD (by unfold maxLen; first | omega | assumption | (simp; done) | (simp; omega)) zN ?_
  rintro v24 w24 G24 hC24 hF24 ⟨us24,F24,hb24⟩
  have hzs24:=hC24.size
  have hE24 : Chg [g] w w24 := hE21.fresh hC24 (fun c hc => hN22.low c (hF24 c hc))
  have hF25 := hB14x21.chg hC24 (fun hm => by have := hN22.low _ (hF24 _ hm); have := hN22.lt _ (hF24 _ hm); omega)
  refine lw_tvn 1 rfl (wp_plain _ [0,0] rfl (q_add ((k + 1 :Nat):Int) rfl rfl (w64n oM sD) zN (lw_tvn 1 rfl ?_)))
  exact ⟨((k + 1),v24,(xs ++ [x14]),s14,c14),_,rfl,⟨rfl,rfl,rfl,rfl,rfl,rfl,trivial⟩,⟨hE24,hF25,sD,(by exact ⟨_,_,by assumption⟩),(by rw [List.length_append,List.length_singleton,hxl]),(by exact SrE.snoc hxs (by assumption)),oM,oM,(by exact rel_snoc oM hrl (by assumption))⟩,by first | omega | (dsimp only; omega)⟩
 ·
  exact q_lss false rfl rfl (decide_eq_false hc6) zN (lw_nil (wp_seq (c_cond_f rfl (wp_exit (t_exit (t_exit (c_exit_here (wp_seq (wp_plain _ [0,0] rfl (lw_tvn 2 rfl (wp_ret (post_ret [6] rfl vo rfl ⟨vo,xs,s9,c9,rfl,hE2,hL2_0,(hbl4.done hS),(by exact ⟨hbl4.cap,by omega,hxs⟩),oM,oM,(by rw [List.take_of_length_le oM] at hrl; exact hrl)⟩))))))))))))
theorem c_all (F d : Nat) (IH : ∀ d',d' < d → PV F d') : PA F d := by
 intro w S g vp dp o s0 c0 p vl l vv env hS hgS hB0 hp ho hs0 hc0 hl henv hqenv hvp hF hwf hse hdp hll
 exact c_impl_evaluation_all w S F g vp dp o s0 c0 p d vl l vv env hS hgS hB0 hp ho hs0 hc0 hl henv hqenv hvp hF hwf hse hdp hll IH
theorem z152_0 {p : Prop} (h : p := by first | exact rel_code oM | exact rel_budget oM oM | exact rel_num hc00 hs1 oM | exact rel_var hc00 hs1 oM | exact rel_if0 hc00 hs1 oM oM ‹RelV (go c0 (evE _ _ (ex.kids.getD 0 _) _ _)) _ _ _› oM (by assumption) | exact rel_if1 hc00 hs1 oM oM ‹RelV (go c0 (evE _ _ (ex.kids.getD 0 _) _ _)) _ _ _› oM (by assumption) | exact rel_let hc00 hs1 oM oM ‹RelV (go c0 (evE _ _ (ex.kids.getD 0 _) _ _)) _ _ _› (by assumption) | exact rel_kidsE hc00 hs1 hkg.1 hkg.2.1 hkg.2.2.1 hkg.2.2.2 hKr oM | exact rel_call hc00 hs1 oM oM hKr oM (by assumption) | exact rel_loop hc00 hs1 oM oM hKr oM (rel_stop hrl9 oM oM) | exact rel_op hc00 hs1 hkg.1 hkg.2.1 hkg.2.2.1 hkg.2.2.2 oM oM hKr oM (by rw [show c66 = 0 from by omega]; exact op_add oM) | exact rel_op hc00 hs1 hkg.1 hkg.2.1 hkg.2.2.1 hkg.2.2.2 oM oM hKr oM (by rw [show c66 = 0 from by omega]; exact op_sub oM) | exact rel_op hc00 hs1 hkg.1 hkg.2.1 hkg.2.2.1 hkg.2.2.2 oM oM hKr oM (by rw [show c66 = 0 from by omega]; exact op_mul oM) | exact rel_op hc00 hs1 hkg.1 hkg.2.1 hkg.2.2.1 hkg.2.2.2 oM oM hKr oM (by rw [show c66 = 0 from by omega]; exact op_neg oM) | exact rel_op hc00 hs1 hkg.1 hkg.2.1 hkg.2.2.1 hkg.2.2.2 oM oM hKr oM (by rw [show c66 = 0 from by omega]; exact op_div oM oM) | exact rel_op hc00 hs1 hkg.1 hkg.2.1 hkg.2.2.1 hkg.2.2.2 oM oM hKr oM (op_div0 oM oM)) : p := h
theorem z152_1 {p : Prop} (h : p := by first | exact rel_code oM | exact rel_budget oM oM | exact rel_num hc00 hs1 oM | exact rel_var hc00 hs1 oM | exact rel_if0 hc00 hs1 oM oM ‹RelV (go c0 (evE _ _ (ex.kids.getD 0 _) _ _)) _ _ _› oM (by assumption) | exact rel_if1 hc00 hs1 oM oM ‹RelV (go c0 (evE _ _ (ex.kids.getD 0 _) _ _)) _ _ _› oM (by assumption) | exact rel_let hc00 hs1 oM oM ‹RelV (go c0 (evE _ _ (ex.kids.getD 0 _) _ _)) _ _ _› (by assumption) | exact rel_kidsE hc00 hs1 hkg.1 hkg.2.1 hkg.2.2.1 hkg.2.2.2 hKr oM | exact rel_call hc00 hs1 oM oM hKr oM (by assumption) | exact rel_loop hc00 hs1 oM oM hKr oM (rel_stop hrl9 oM oM) | exact rel_op hc00 hs1 hkg.1 hkg.2.1 hkg.2.2.1 hkg.2.2.2 oM oM hKr oM (by rw [show c0 = 0 from by omega]; exact op_add oM) | exact rel_op hc00 hs1 hkg.1 hkg.2.1 hkg.2.2.1 hkg.2.2.2 oM oM hKr oM (by rw [show c0 = 0 from by omega]; exact op_sub oM) | exact rel_op hc00 hs1 hkg.1 hkg.2.1 hkg.2.2.1 hkg.2.2.2 oM oM hKr oM (by rw [show c0 = 0 from by omega]; exact op_mul oM) | exact rel_op hc00 hs1 hkg.1 hkg.2.1 hkg.2.2.1 hkg.2.2.2 oM oM hKr oM (by rw [show c0 = 0 from by omega]; exact op_neg oM) | exact rel_op hc00 hs1 hkg.1 hkg.2.1 hkg.2.2.1 hkg.2.2.2 oM oM hKr oM (by rw [show c0 = 0 from by omega]; exact op_div oM oM) | exact rel_op hc00 hs1 hkg.1 hkg.2.1 hkg.2.2.1 hkg.2.2.2 oM oM hKr oM (op_div0 oM oM)) : p := h
theorem z152_2 {p : Prop} (h : p := by first | exact rel_code oM | exact rel_budget oM oM | exact rel_num hc00 hs1 oM | exact rel_var hc00 hs1 oM | exact rel_if0 hc00 hs1 oM oM ‹RelV (go c0 (evE _ _ (ex.kids.getD 0 _) _ _)) _ _ _› oM (by assumption) | exact rel_if1 hc00 hs1 oM oM ‹RelV (go c0 (evE _ _ (ex.kids.getD 0 _) _ _)) _ _ _› oM (by assumption) | exact rel_let hc00 hs1 oM oM ‹RelV (go c0 (evE _ _ (ex.kids.getD 0 _) _ _)) _ _ _› (by assumption) | exact rel_kidsE hc00 hs1 hkg.1 hkg.2.1 hkg.2.2.1 hkg.2.2.2 hKr oM | exact rel_call hc00 hs1 oM oM hKr oM (by assumption) | exact rel_loop hc00 hs1 oM oM hKr oM (rel_stop hrl9 oM oM) | exact rel_op hc00 hs1 hkg.1 hkg.2.1 hkg.2.2.1 hkg.2.2.2 oM oM hKr oM (by rw [show c9 = 0 from by omega]; exact op_add oM) | exact rel_op hc00 hs1 hkg.1 hkg.2.1 hkg.2.2.1 hkg.2.2.2 oM oM hKr oM (by rw [show c9 = 0 from by omega]; exact op_sub oM) | exact rel_op hc00 hs1 hkg.1 hkg.2.1 hkg.2.2.1 hkg.2.2.2 oM oM hKr oM (by rw [show c9 = 0 from by omega]; exact op_mul oM) | exact rel_op hc00 hs1 hkg.1 hkg.2.1 hkg.2.2.1 hkg.2.2.2 oM oM hKr oM (by rw [show c9 = 0 from by omega]; exact op_neg oM) | exact rel_op hc00 hs1 hkg.1 hkg.2.1 hkg.2.2.1 hkg.2.2.2 oM oM hKr oM (by rw [show c9 = 0 from by omega]; exact op_div oM oM) | exact rel_op hc00 hs1 hkg.1 hkg.2.1 hkg.2.2.1 hkg.2.2.2 oM oM hKr oM (op_div0 oM oM)) : p := h
theorem z152_3 {p : Prop} (h : p := by first | assumption | exact cst_ser (by decide) | exact cst_ser (isN_iff.2 oM) | exact hse _ oM | exact hks _ oM | exact addS_ser hK0 | exact redS_ser hK0 | exact proS_ser hK0 | exact sclS_ser hK0 | exact quoS_ser hK0) : p := h
theorem z152_4 {p : Prop} (h : p := by have := hK0.1; have := hK1.1; omega) : p := h
theorem z152_5 {p : Prop} (h : p := by have := hK0.1; omega) : p := h
theorem c_impl_evaluation_value (w : World) (S : List Nat) (F : Nat) (g : Nat) (vp : Value) (dp o s0 : Nat) (c0 : Int) (p : List Fn) (dex : Nat) (ve : Value) (ex : Ex) (vv : Value) (env : List (List Int)) (hS : ∀ b ∈ S,b < w.heap.size) (hgS : g ∈ S) (hB0 : BX w.heap g [vp,.int .i64 ((o :Nat):Int),.int .i64 ((s0 :Nat):Int),.int .i64 c0]) (hp : RP S dp w.heap vp p) (ho : o ≤ 12) (hs0 : s0 ≤ 3000) (hc0 : 0 ≤ c0 ∧ c0 ≤ 9) (hex : RX S dex w.heap ve ex) (henv : RN S (rdL (rdL rI)) w.heap vv env) (hqenv : CapS vv) (hvp : VPr p) (hF : F ≤ p.length) (hwf : wf p ((F :Nat):Int) ex ((env.length :Nat):Int) = true) (hse : SrE (o + 1) env) (hdp : env.length + ex.deep ≤ 1000000) (IH1 : ∀ F',F' < F → ∀ d,PV F' d) (IH2 : ∀ d',d' < dex → PV F d') :
  Calls Try.prog 152 #[.pointer (some ⟨g,0,none⟩),(.agg #[(.int .i64 ex.kind),(.int .i64 ex.num),(.int .i64 ex.pick),(.int .i64 ex.count),ve]),vv] w (fun e w' => ∃ (v : Value) (x : List Int) (s1 : Nat) (c1 : Int),e = .returned v ∧ Chg [g] w w' ∧ BX w'.heap g [vp,.int .i64 ((o :Nat):Int),.int .i64 ((s1 :Nat):Int),.int .i64 c1] ∧ RN S (rdL rI) w'.heap v x ∧ Ser1 (o + 1) x ∧ s1 ≤ 3000 ∧ (0 ≤ c1 ∧ c1 ≤ 9) ∧ RelV (go c0 (evE (o + 1) (evC p (o + 1) F) ex env s0)) x s1 c1) := by
 refine calls_mk [.pointer (some ⟨g,0,none⟩),(.agg #[(.int .i64 ex.kind),(.int .i64 ex.num),(.int .i64 ex.pick),(.int .i64 ex.count),ve]),vv] 210 Try.func152 rfl rfl sM ?_
 have hE0 : Chg [g] w w := Chg.refl [g] w
 have hl_vp := hp.lenle
 unfold maxLen at hl_vp
 have hl_ve := hex.rn.lenle
 unfold maxLen at hl_ve
 have hl_vv := henv.lenL
 unfold maxLen at hl_vv
 have hgl := hB0.lt
 have hdk := deep_kids ex
 refine wp_seq (wp_plain _ [3,0] rfl ?_)
 have hq2 := hB0.lt
 refine r_boxA (cs := #[(.int .i64 ex.kind),(.int .i64 ex.num),(.int .i64 ex.pick),(.int .i64 ex.count),ve]) rfl zN fun w1 hX1 hz1 hB1 => ?_
 have hzs1:=hX1.size
 have hE1 : Chg [g] w w1 := hE0.ext hX1
 have hB0x1 := hB0.ext hX1
 replace hB1 : BX w1.heap w.heap.size [(.int .i64 ex.kind),(.int .i64 ex.num),(.int .i64 ex.pick),(.int .i64 ex.count),ve] := hB1
 refine lw_tvn 1 rfl (wp_seq (wp_seq (wp_plain _ [0,0,0,2,0] rfl (lw_tv 1 rfl (q_nil rfl zN (q_fldP (p := (.pointer (some ⟨g,0,none⟩))) (b := g) (o := 0) 3 fd171_3 rfl rfl zN (q_load (p := (padd (.pointer (some ⟨g,0,none⟩)) 3)) (.inr rfl) (.int .i64 c0) one2 rfl (hB0x1.ldp (i := 3) sM) zN ?_)))))))
 by_cases hc3 : c0 ≠ ((0 :Nat):Int)
 ·
  refine q_neq true rfl rfl (decide_eq_true hc3) zN (lw_nil (c_cond_t rfl (wp_seq (wp_plain _ [0,3,0] rfl (lw_tv 1 rfl (lw_call 157 [] [] [(.pointer (some ⟨g,0,none⟩)),(.int .i64 ((0 :Nat):Int))] rfl rfl cf157 zN (c_impl_evaluation_constant _ S g vp dp (o) (s0) (c0) (p) _ (fun b hb => (by have := hS b hb; omega : b < w1.heap.size)) hgS hB0x1 (hp.chg (good_rdS (good_rFn dp)) (hE1.sub (subS hgS))) oM oM oM oM) ?_))))))
  rintro e4 w4 ⟨v4_0,rfl,hX4,hO4_0⟩
  refine ⟨_,rfl,hX4,?_⟩
  have hzs4:=hX4.size
  have hE4 : Chg [g] w w4 := hE1.ext hX4
  have hB0x4 := hB0x1.ext hX4
  have hB1x4 := hB1.ext hX4
  refine lw_tvn 1 rfl (wp_ret (t_ret ?_))
  exact post_ret [6] rfl v4_0 rfl ⟨v4_0,cst (o + 1) ((0 :Nat):Int),s0,c0,rfl,hE4,hB0x4,(RN.of_fr1 hO4_0 (fun b hb => by have := hS b hb; omega)),z152_3,oM,oM,z152_1⟩
 ·
  refine q_neq false rfl rfl (decide_eq_false hc3) zN (lw_nil (c_cond_f rfl (wp_skip (wp_seq (wp_seq (wp_plain _ [0,0,0,2,0] rfl (lw_tv 1 rfl (q_nil rfl zN (q_fldP (p := (.pointer (some ⟨g,0,none⟩))) (b := g) (o := 0) 2 fd171_2 rfl rfl zN (q_load (p := (padd (.pointer (some ⟨g,0,none⟩)) 2)) (.inr rfl) (.int .i64 ((s0 :Nat):Int)) one2 rfl (hB0x1.ldp (i := 2) sM) zN ?_))))))))))
  by_cases hc5 : ((s0 :Nat):Int) = ((3000 :Nat):Int)
  ·
   refine q_eql true rfl rfl (decide_eq_true hc5) zN (lw_nil (c_cond_t rfl (wp_seq (wp_plain _ [0,0,0,4] rfl (lw_tv 1 rfl (q_nil rfl zN (q_fldP (p := (.pointer (some ⟨g,0,none⟩))) (b := g) (o := 0) 3 fd171_3 rfl rfl zN (e_setB (k := 3) (w := w1) sz2 rfl rfl ⟨rfl,rfl⟩ hB0x1 sM zN fun w6 hC6 hz6 hB6 => ?_))))))))
   replace hB6 : BX w6.heap g [vp,(.int .i64 ((o :Nat):Int)),(.int .i64 ((s0 :Nat):Int)),(.int .i64 ((7 :Nat):Int))] := hB6
   have hE6 : Chg [g] w w6 := hE1.trans hC6
   have hzs6:=hC6.size
   have hF7 := hB1.chg hC6 (fun hm => by have := List.mem_singleton.1 hm; omega)
   refine lw_nil (wp_seq (wp_plain _ [0,3,0] rfl (lw_tv 1 rfl (lw_call 157 [] [] [(.pointer (some ⟨g,0,none⟩)),(.int .i64 ((0 :Nat):Int))] rfl rfl cf157 zN (c_impl_evaluation_constant _ S g vp dp (o) (s0) (((7 :Nat):Int)) (p) _ (fun b hb => (by have := hS b hb; omega : b < w6.heap.size)) hgS hB6 (hp.chg (good_rdS (good_rFn dp)) (hE6.sub (subS hgS))) oM oM oM oM) ?_))))
   rintro e8 w8 ⟨v8_0,rfl,hX8,hO8_0⟩
   refine ⟨_,rfl,hX8,?_⟩
   have hzs8:=hX8.size
   have hE8 : Chg [g] w w8 := hE6.ext hX8
   have hB6x8 := hB6.ext hX8
   have hF7x8 := hF7.ext hX8
   refine lw_tvn 1 rfl (wp_ret (t_ret ?_))
   exact post_ret [6] rfl v8_0 rfl ⟨v8_0,cst (o + 1) ((0 :Nat):Int),s0,((7 :Nat):Int),rfl,hE8,hB6x8,(RN.of_fr1 hO8_0 (fun b hb => by have := hS b hb; omega)),z152_3,oM,oM,(by first | exact rel_code oM | exact rel_budget oM oM | exact rel_num hc00 hs1 oM | exact rel_var hc00 hs1 oM | exact rel_if0 hc00 hs1 oM oM ‹RelV (go c0 (evE _ _ (ex.kids.getD 0 _) _ _)) _ _ _› oM (by assumption) | exact rel_if1 hc00 hs1 oM oM ‹RelV (go c0 (evE _ _ (ex.kids.getD 0 _) _ _)) _ _ _› oM (by assumption) | exact rel_let hc00 hs1 oM oM ‹RelV (go c0 (evE _ _ (ex.kids.getD 0 _) _ _)) _ _ _› (by assumption) | exact rel_kidsE hc00 hs1 hkg.1 hkg.2.1 hkg.2.2.1 hkg.2.2.2 hKr oM | exact rel_call hc00 hs1 oM oM hKr oM (by assumption) | exact rel_loop hc00 hs1 oM oM hKr oM (rel_stop hrl9 oM oM) | exact rel_op hc00 hs1 hkg.1 hkg.2.1 hkg.2.2.1 hkg.2.2.2 oM oM hKr oM (by rw [show ((7 :Nat):Int) = 0 from by omega]; exact op_add oM) | exact rel_op hc00 hs1 hkg.1 hkg.2.1 hkg.2.2.1 hkg.2.2.2 oM oM hKr oM (by rw [show ((7 :Nat):Int) = 0 from by omega]; exact op_sub oM) | exact rel_op hc00 hs1 hkg.1 hkg.2.1 hkg.2.2.1 hkg.2.2.2 oM oM hKr oM (by rw [show ((7 :Nat):Int) = 0 from by omega]; exact op_mul oM) | exact rel_op hc00 hs1 hkg.1 hkg.2.1 hkg.2.2.1 hkg.2.2.2 oM oM hKr oM (by rw [show ((7 :Nat):Int) = 0 from by omega]; exact op_neg oM) | exact rel_op hc00 hs1 hkg.1 hkg.2.1 hkg.2.2.1 hkg.2.2.2 oM oM hKr oM (by rw [show ((7 :Nat):Int) = 0 from by omega]; exact op_div oM oM) | exact rel_op hc00 hs1 hkg.1 hkg.2.1 hkg.2.2.1 hkg.2.2.2 oM oM hKr oM (op_div0 oM oM))⟩
  ·
   refine q_eql false rfl rfl (decide_eq_false hc5) zN (lw_nil (c_cond_f rfl (wp_skip (wp_seq (wp_plain _ [0,0,0,2,0,0,0,4] rfl (lw_tv 1 rfl (q_nil rfl zN (q_fldP (p := (.pointer (some ⟨g,0,none⟩))) (b := g) (o := 0) 2 fd171_2 rfl rfl zN (q_load (p := (padd (.pointer (some ⟨g,0,none⟩)) 2)) (.inr rfl) (.int .i64 ((s0 :Nat):Int)) one2 rfl (hB0x1.ldp (i := 2) sM) zN (q_add ((s0 + 1 :Nat):Int) rfl rfl (w64n oM oM) zN (q_nil rfl zN (q_fldP (p := (.pointer (some ⟨g,0,none⟩))) (b := g) (o := 0) 2 fd171_2 rfl rfl zN (e_setB (k := 2) (w := w1) sz2 rfl rfl ⟨rfl,rfl⟩ hB0x1 sM zN fun w9 hC9 hz9 hB9 => ?_)))))))))))))
   replace hB9 : BX w9.heap g [vp,(.int .i64 ((o :Nat):Int)),(.int .i64 ((s0 + 1 :Nat):Int)),(.int .i64 c0)] := hB9
   have hE9 : Chg [g] w w9 := hE1.trans hC9
   have hzs9:=hC9.size
   have hF10 := hB1.chg hC9 (fun hm => by have := List.mem_singleton.1 hm; omega)
   refine lw_nil (wp_seq (wp_seq (wp_plain _ [0,2] rfl ?_)))
   have hc00 : c0 = 0 := by omega
   have hs1 : s0 + 1 ≤ 3000 := by omega
   refine q_fldP (p := (.pointer (some ⟨w.heap.size,0,none⟩))) (b := w.heap.size) (o := 0) 0 fd31_0 rfl rfl zN (q_load (p := (padd (.pointer (some ⟨w.heap.size,0,none⟩)) 0)) (.inr rfl) (.int .i64 ex.kind) one2 rfl (hF10.ldp (i := 0) sM) zN (lw_nil (wp_block (wp_seq (wp_plain _ [0,0] rfl ?_)))))
   by_cases hc11 : ex.kind = ((1 :Nat):Int)
   ·
    refine q_eql true rfl rfl (decide_eq_true hc11) zN (lw_tvn 1 rfl (c_cond_t rfl (wp_seq (wp_plain _ [0,0,2,3,0] rfl ?_))))
    have hwk := wk_num hwf oM
    refine lw_tv 1 rfl (q_fldP (p := (.pointer (some ⟨w.heap.size,0,none⟩))) (b := w.heap.size) (o := 0) 1 fd31_1 rfl rfl zN (q_load (p := (padd (.pointer (some ⟨w.heap.size,0,none⟩)) 1)) (.inr rfl) (.int .i64 ex.num) one2 rfl (hF10.ldp (i := 1) sM) zN (lw_call 157 [] [] [(.pointer (some ⟨g,0,none⟩)),(.int .i64 ex.num)] rfl rfl cf157 zN (c_impl_evaluation_constant _ S g vp dp (o) (s0 + 1) (c0) (p) _ (fun b hb => (by have := hS b hb; omega : b < w9.heap.size)) hgS hB9 (hp.chg (good_rdS (good_rFn dp)) (hE9.sub (subS hgS))) oM oM oM hex.rng.num) ?_)))
    rintro e12 w12 ⟨v12_0,rfl,hX12,hO12_0⟩
    refine ⟨_,rfl,hX12,?_⟩
    have hzs12:=hX12.size
    have hE12 : Chg [g] w w12 := hE9.ext hX12
    have hB9x12 := hB9.ext hX12
    have hF10x12 := hF10.ext hX12
    refine lw_tvn 1 rfl (wp_ret (b_ret (t_ret ?_)))
    exact post_ret [6] rfl v12_0 rfl ⟨v12_0,cst (o + 1) ex.num,s0 + 1,c0,rfl,hE12,hB9x12,(RN.of_fr1 hO12_0 (fun b hb => by have := hS b hb; omega)),z152_3,oM,oM,z152_1⟩
   ·
    refine q_eql false rfl rfl (decide_eq_false hc11) zN (lw_tvn 1 rfl (c_cond_f rfl (wp_seq (wp_plain _ [0,0] rfl ?_))))
    by_cases hc13 : ex.kind = ((2 :Nat):Int)
    ·
     refine q_eql true rfl rfl (decide_eq_true hc13) zN (lw_tvn 1 rfl (c_cond_t rfl (wp_seq (wp_plain _ [0,0,2,0,2,0] rfl ?_))))
     have hwk := wk_var hwf oM
     refine lw_tv 1 rfl (q_fldP (p := (.pointer (some ⟨w.heap.size,0,none⟩))) (b := w.heap.size) (o := 0) 1 fd31_1 rfl rfl zN (q_load (p := (padd (.pointer (some ⟨w.heap.size,0,none⟩)) 1)) (.inr rfl) (.int .i64 ex.num) one2 rfl (hF10.ldp (i := 1) sM) zN (q_idx (v := vv) ((ex.num).toNat) u24 ti25 rfl rfl henv.slL oM sD zN ?_)))
     obtain ⟨ue14,hl14,hr14⟩ := RN.getL (w := w) g1 [] (k := (ex.num).toNat) henv sD
     have hln14 := hr14.lenL
     unfold maxLen at hln14
     refine q_load (p := eptr vv ((ex.num).toNat) 1) (.inr rfl) ue14 one25 rfl (hl14 _ (hE9.sub (subS hgS))) zN (lw_tvn 1 rfl (wp_ret (b_ret (t_ret ?_))))
     exact post_ret [6] rfl ue14 rfl ⟨ue14,env.getD ((ex.num).toNat) [],s0 + 1,c0,rfl,hE9,hB9,(hr14.chg g1 (hE9.sub (subS hgS))),z152_3,oM,oM,z152_1⟩
    ·
     refine q_eql false rfl rfl (decide_eq_false hc13) zN (lw_tvn 1 rfl (c_cond_f rfl (wp_seq (wp_plain _ [0,0] rfl ?_))))
     by_cases hc15 : ex.kind = ((8 :Nat):Int)
     ·
      refine q_eql true rfl rfl (decide_eq_true hc15) zN (lw_tvn 1 rfl (c_cond_t rfl (wp_seq (wp_seq (wp_plain _ [0,0,2,0,2,0,4,0,2,0] rfl ?_)))))
      have hwk := wk_if hwf oM
      refine lw_tv 1 rfl (q_fldP (p := (.pointer (some ⟨w.heap.size,0,none⟩))) (b := w.heap.size) (o := 0) 4 fd31_4 rfl rfl zN (q_load (p := (padd (.pointer (some ⟨w.heap.size,0,none⟩)) 4)) (.inr rfl) ve one29 rfl (hF10.ldp (i := 4) sM) zN (q_idx (v := ve) 0 u29 tiS31 rfl rfl hex.rn.isSl rfl sD zN ?_)))
      obtain ⟨cs16,hr16,hl16⟩ := hex.rn.get (good_rEx dex) Ex.zero (k := 0) sD
      obtain ⟨dd16,ve16,hd16,rfl,hx16⟩ := RX.of hr16
      have hln16 := hx16.rn.lenle
      unfold maxLen at hln16
      refine q_loadA (p := eptr ve 0 5) (.inr rfl) [(.int .i64 ((ex.kids.getD 0 Ex.zero).kind)),(.int .i64 ((ex.kids.getD 0 Ex.zero).num)),(.int .i64 ((ex.kids.getD 0 Ex.zero).pick)),(.int .i64 ((ex.kids.getD 0 Ex.zero).count)),ve16] agg31 rfl (fun wq9 hw9 => hl16 wq9 ((hE9.sub (subS hgS)).ext hw9)) rfl zN (lw_tv 1 rfl ?_)
      refine lw_callE 152 [] [] [(.pointer (some ⟨g,0,none⟩)),(.agg #[(.int .i64 ((ex.kids.getD 0 Ex.zero).kind)),(.int .i64 ((ex.kids.getD 0 Ex.zero).num)),(.int .i64 ((ex.kids.getD 0 Ex.zero).pick)),(.int .i64 ((ex.kids.getD 0 Ex.zero).count)),ve16]),vv] rfl rfl cf152 zN (IH2 dd16 oM _ S g vp dp (o) (s0 + 1) (c0) (p) ve16 (ex.kids.getD 0 Ex.zero) vv (env) (fun b hb => (by have := hS b hb; omega : b < w9.heap.size)) hgS hB9 (hp.chg (good_rdS (good_rFn dp)) (hE9.sub (subS hgS))) oM oM oM ⟨hx16.rng,(hx16.rn.chg (good_rdS (good_rEx dd16)) (hE9.sub (subS hgS)))⟩ (henv.chg g2 (hE9.sub (subS hgS))) hqenv (by exact hvp) oM (by exact wf_at0 hwf oM oM) (by exact hse) (by have := kd_at (l := ex.kids) (k := 0) oM; omega)) ?_
      rintro e17 w17 ⟨v17,x17,s17,c17,rfl,hC17,hB17,hr17,hse17,hsb17,hcb17,hrl17⟩
      refine ⟨_,rfl,?_⟩
      have hzs17:=hC17.size
      have hE17 : Chg [g] w w17 := hE9.trans hC17
      have hF21 := hF10.chg hC17 (fun hm => by have := List.mem_singleton.1 hm; omega)
      have hsn17 := hse17.1
      refine q_idx (v := v17) 0 u25 ti2 rfl rfl hr17.slL rfl sD zN ?_
      have hg23 := RN.getI (w := w17) (k := 0) hr17 sD
      refine q_load (p := eptr v17 0 1) (.inr rfl) (.int .i64 (x17.getD 0 0)) one2 rfl (hg23.1 _ (Chg.refl _ _)) zN ?_
      by_cases hc24 : x17.getD 0 0 = ((0 :Nat):Int)
      ·
       refine q_eql true rfl rfl (decide_eq_true hc24) zN (lw_nil (c_cond_t rfl (wp_seq (wp_plain _ [0,0,2,0,2,0,4,0] rfl (lw_tv 1 rfl (q_fldP (p := (.pointer (some ⟨w.heap.size,0,none⟩))) (b := w.heap.size) (o := 0) 4 fd31_4 rfl rfl zN (q_load (p := (padd (.pointer (some ⟨w.heap.size,0,none⟩)) 4)) (.inr rfl) ve one29 rfl (hF21.ldp (i := 4) sM) zN (q_idx (v := ve) 1 u29 tiS31 rfl rfl hex.rn.isSl rfl sD zN ?_))))))))
       obtain ⟨cs25,hr25,hl25⟩ := hex.rn.get (good_rEx dex) Ex.zero (k := 1) sD
       obtain ⟨dd25,ve25,hd25,rfl,hx25⟩ := RX.of hr25
       have hln25 := hx25.rn.lenle
       unfold maxLen at hln25
       refine q_loadA (p := eptr ve 1 5) (.inr rfl) [(.int .i64 ((ex.kids.getD 1 Ex.zero).kind)),(.int .i64 ((ex.kids.getD 1 Ex.zero).num)),(.int .i64 ((ex.kids.getD 1 Ex.zero).pick)),(.int .i64 ((ex.kids.getD 1 Ex.zero).count)),ve25] agg31 rfl (fun wq9 hw9 => hl25 wq9 ((hE17.sub (subS hgS)).ext hw9)) rfl zN (lw_tv 1 rfl ?_)
       refine lw_callE 152 [] [] [(.pointer (some ⟨g,0,none⟩)),(.agg #[(.int .i64 ((ex.kids.getD 1 Ex.zero).kind)),(.int .i64 ((ex.kids.getD 1 Ex.zero).num)),(.int .i64 ((ex.kids.getD 1 Ex.zero).pick)),(.int .i64 ((ex.kids.getD 1 Ex.zero).count)),ve25]),vv] rfl rfl cf152 zN (IH2 dd25 oM _ S g vp dp (o) (s17) (c17) (p) ve25 (ex.kids.getD 1 Ex.zero) vv (env) (fun b hb => (by have := hS b hb; omega : b < w17.heap.size)) hgS hB17 (hp.chg (good_rdS (good_rFn dp)) (hE17.sub (subS hgS))) oM oM oM ⟨hx25.rng,(hx25.rn.chg (good_rdS (good_rEx dd25)) (hE17.sub (subS hgS)))⟩ (henv.chg g2 (hE17.sub (subS hgS))) hqenv (by exact hvp) oM (by exact wf_at0 hwf oM oM) (by exact hse) (by have := kd_at (l := ex.kids) (k := 1) oM; omega)) ?_
       rintro e26 w26 ⟨v26,x26,s26,c26,rfl,hC26,hB26,hr26,hse26,hsb26,hcb26,hrl26⟩
       refine ⟨_,rfl,?_⟩
       have hzs26:=hC26.size
       have hE26 : Chg [g] w w26 := hE17.trans hC26
       have hF30 := hF21.chg hC26 (fun hm => by have := List.mem_singleton.1 hm; omega)
       have hF32 := hr17.run g1 hgS hC26
       have hsn26 := hse26.1
       refine lw_tvn 1 rfl (wp_ret (t_ret (b_ret (t_ret ?_))))
       exact post_ret [6] rfl v26 rfl ⟨v26,x26,s26,c26,rfl,hE26,hB26,hr26,z152_3,oM,oM,(by first | exact rel_code oM | exact rel_budget oM oM | exact rel_num hc00 hs1 oM | exact rel_var hc00 hs1 oM | exact rel_if0 hc00 hs1 oM oM ‹RelV (go c0 (evE _ _ (ex.kids.getD 0 _) _ _)) _ _ _› oM (by assumption) | exact rel_if1 hc00 hs1 oM oM ‹RelV (go c0 (evE _ _ (ex.kids.getD 0 _) _ _)) _ _ _› oM (by assumption) | exact rel_let hc00 hs1 oM oM ‹RelV (go c0 (evE _ _ (ex.kids.getD 0 _) _ _)) _ _ _› (by assumption) | exact rel_kidsE hc00 hs1 hkg.1 hkg.2.1 hkg.2.2.1 hkg.2.2.2 hKr oM | exact rel_call hc00 hs1 oM oM hKr oM (by assumption) | exact rel_loop hc00 hs1 oM oM hKr oM (rel_stop hrl9 oM oM) | exact rel_op hc00 hs1 hkg.1 hkg.2.1 hkg.2.2.1 hkg.2.2.2 oM oM hKr oM (by rw [show c26 = 0 from by omega]; exact op_add oM) | exact rel_op hc00 hs1 hkg.1 hkg.2.1 hkg.2.2.1 hkg.2.2.2 oM oM hKr oM (by rw [show c26 = 0 from by omega]; exact op_sub oM) | exact rel_op hc00 hs1 hkg.1 hkg.2.1 hkg.2.2.1 hkg.2.2.2 oM oM hKr oM (by rw [show c26 = 0 from by omega]; exact op_mul oM) | exact rel_op hc00 hs1 hkg.1 hkg.2.1 hkg.2.2.1 hkg.2.2.2 oM oM hKr oM (by rw [show c26 = 0 from by omega]; exact op_neg oM) | exact rel_op hc00 hs1 hkg.1 hkg.2.1 hkg.2.2.1 hkg.2.2.2 oM oM hKr oM (by rw [show c26 = 0 from by omega]; exact op_div oM oM) | exact rel_op hc00 hs1 hkg.1 hkg.2.1 hkg.2.2.1 hkg.2.2.2 oM oM hKr oM (op_div0 oM oM))⟩
      ·
       refine q_eql false rfl rfl (decide_eq_false hc24) zN (lw_nil (c_cond_f rfl (wp_skip (wp_seq (wp_plain _ [0,0,2,0,2,0,4,0] rfl (lw_tv 1 rfl (q_fldP (p := (.pointer (some ⟨w.heap.size,0,none⟩))) (b := w.heap.size) (o := 0) 4 fd31_4 rfl rfl zN (q_load (p := (padd (.pointer (some ⟨w.heap.size,0,none⟩)) 4)) (.inr rfl) ve one29 rfl (hF21.ldp (i := 4) sM) zN (q_idx (v := ve) 2 u29 tiS31 rfl rfl hex.rn.isSl rfl sD zN ?_)))))))))
       obtain ⟨cs34,hr34,hl34⟩ := hex.rn.get (good_rEx dex) Ex.zero (k := 2) sD
       obtain ⟨dd34,ve34,hd34,rfl,hx34⟩ := RX.of hr34
       have hln34 := hx34.rn.lenle
       unfold maxLen at hln34
       refine q_loadA (p := eptr ve 2 5) (.inr rfl) [(.int .i64 ((ex.kids.getD 2 Ex.zero).kind)),(.int .i64 ((ex.kids.getD 2 Ex.zero).num)),(.int .i64 ((ex.kids.getD 2 Ex.zero).pick)),(.int .i64 ((ex.kids.getD 2 Ex.zero).count)),ve34] agg31 rfl (fun wq9 hw9 => hl34 wq9 ((hE17.sub (subS hgS)).ext hw9)) rfl zN (lw_tv 1 rfl ?_)
       refine lw_callE 152 [] [] [(.pointer (some ⟨g,0,none⟩)),(.agg #[(.int .i64 ((ex.kids.getD 2 Ex.zero).kind)),(.int .i64 ((ex.kids.getD 2 Ex.zero).num)),(.int .i64 ((ex.kids.getD 2 Ex.zero).pick)),(.int .i64 ((ex.kids.getD 2 Ex.zero).count)),ve34]),vv] rfl rfl cf152 zN (IH2 dd34 oM _ S g vp dp (o) (s17) (c17) (p) ve34 (ex.kids.getD 2 Ex.zero) vv (env) (fun b hb => (by have := hS b hb; omega : b < w17.heap.size)) hgS hB17 (hp.chg (good_rdS (good_rFn dp)) (hE17.sub (subS hgS))) oM oM oM ⟨hx34.rng,(hx34.rn.chg (good_rdS (good_rEx dd34)) (hE17.sub (subS hgS)))⟩ (henv.chg g2 (hE17.sub (subS hgS))) hqenv (by exact hvp) oM (by exact wf_at0 hwf oM oM) (by exact hse) (by have := kd_at (l := ex.kids) (k := 2) oM; omega)) ?_
       rintro e35 w35 ⟨v35,x35,s35,c35,rfl,hC35,hB35,hr35,hse35,hsb35,hcb35,hrl35⟩
       refine ⟨_,rfl,?_⟩
       have hzs35:=hC35.size
       have hE35 : Chg [g] w w35 := hE17.trans hC35
       have hF39 := hF21.chg hC35 (fun hm => by have := List.mem_singleton.1 hm; omega)
       have hF41 := hr17.run g1 hgS hC35
       have hsn35 := hse35.1
       refine lw_tvn 1 rfl (wp_ret (b_ret (t_ret ?_)))
       exact post_ret [6] rfl v35 rfl ⟨v35,x35,s35,c35,rfl,hE35,hB35,hr35,z152_3,oM,oM,(by first | exact rel_code oM | exact rel_budget oM oM | exact rel_num hc00 hs1 oM | exact rel_var hc00 hs1 oM | exact rel_if0 hc00 hs1 oM oM ‹RelV (go c0 (evE _ _ (ex.kids.getD 0 _) _ _)) _ _ _› oM (by assumption) | exact rel_if1 hc00 hs1 oM oM ‹RelV (go c0 (evE _ _ (ex.kids.getD 0 _) _ _)) _ _ _› oM (by assumption) | exact rel_let hc00 hs1 oM oM ‹RelV (go c0 (evE _ _ (ex.kids.getD 0 _) _ _)) _ _ _› (by assumption) | exact rel_kidsE hc00 hs1 hkg.1 hkg.2.1 hkg.2.2.1 hkg.2.2.2 hKr oM | exact rel_call hc00 hs1 oM oM hKr oM (by assumption) | exact rel_loop hc00 hs1 oM oM hKr oM (rel_stop hrl9 oM oM) | exact rel_op hc00 hs1 hkg.1 hkg.2.1 hkg.2.2.1 hkg.2.2.2 oM oM hKr oM (by rw [show c35 = 0 from by omega]; exact op_add oM) | exact rel_op hc00 hs1 hkg.1 hkg.2.1 hkg.2.2.1 hkg.2.2.2 oM oM hKr oM (by rw [show c35 = 0 from by omega]; exact op_sub oM) | exact rel_op hc00 hs1 hkg.1 hkg.2.1 hkg.2.2.1 hkg.2.2.2 oM oM hKr oM (by rw [show c35 = 0 from by omega]; exact op_mul oM) | exact rel_op hc00 hs1 hkg.1 hkg.2.1 hkg.2.2.1 hkg.2.2.2 oM oM hKr oM (by rw [show c35 = 0 from by omega]; exact op_neg oM) | exact rel_op hc00 hs1 hkg.1 hkg.2.1 hkg.2.2.1 hkg.2.2.2 oM oM hKr oM (by rw [show c35 = 0 from by omega]; exact op_div oM oM) | exact rel_op hc00 hs1 hkg.1 hkg.2.1 hkg.2.2.1 hkg.2.2.2 oM oM hKr oM (op_div0 oM oM))⟩
     ·
      refine q_eql false rfl rfl (decide_eq_false hc15) zN (lw_tvn 1 rfl (c_cond_f rfl (wp_seq (wp_plain _ [0,0] rfl ?_))))
      by_cases hc43 : ex.kind = ((9 :Nat):Int)
      ·
       refine q_eql true rfl rfl (decide_eq_true hc43) zN (lw_tvn 1 rfl (c_cond_t rfl (wp_seq ?_)))
       letI : JR := jrC [g]
       refine Jx.wp_draw _ [0,0,1,0,1,0,0,0,0,1,0,1,0,3,3,3,3,0] mixed (by kernel_rfl) ?_
       have hwk := wk_let hwf oM
       refine Jx.q_move (.pointer (some ⟨g,0,none⟩)) rfl zN (Jx.q_fldP (p := (.pointer (some ⟨w.heap.size,0,none⟩))) (b := w.heap.size) (o := 0) 4 fd31_4 rfl rfl zN (Jx.q_loadJ (p := (padd (.pointer (some ⟨w.heap.size,0,none⟩)) 4)) ve one29 rfl (fun wj hj => (BX.chg (w := w9.drew) (F := [g]) hF10 hj (fun hm => by have := List.mem_singleton.1 hm; omega)).ldp (i := 4) sM) zN (Jx.q_idx (v := ve) 1 u29 tiS31 rfl rfl hex.rn.isSl rfl sD zN ?_)))
       obtain ⟨cs44,hr44,hl44⟩ := hex.rn.get (good_rEx dex) Ex.zero (k := 1) sD
       obtain ⟨dd44,ve44,hd44,rfl,hx44⟩ := RX.of hr44
       have hln44 := hx44.rn.lenle
       unfold maxLen at hln44
       refine Jx.q_loadAJ (p := eptr ve 1 5) [(.int .i64 ((ex.kids.getD 1 Ex.zero).kind)),(.int .i64 ((ex.kids.getD 1 Ex.zero).num)),(.int .i64 ((ex.kids.getD 1 Ex.zero).pick)),(.int .i64 ((ex.kids.getD 1 Ex.zero).count)),ve44] agg31 rfl (fun wj hj => hl44 wj (Chg.trans (hE9.drew.sub (subS hgS)) (Chg.sub (show Chg [g] w9.drew wj from hj) (subS hgS)))) rfl zN (Jx.q_move vv rfl zN (Jx.lw_callq 158 [] [] [vv] rfl rfl cf158 zN (clipV vv) (fun wq => c_slices_Clip_____int64___int64_ wq vv _ henv.slL hqenv) (Jx.q_move (.pointer (some ⟨g,0,none⟩)) rfl zN (Jx.q_fldP (p := (.pointer (some ⟨w.heap.size,0,none⟩))) (b := w.heap.size) (o := 0) 4 fd31_4 rfl rfl zN ?_))))
       refine Jx.q_loadJ (p := (padd (.pointer (some ⟨w.heap.size,0,none⟩)) 4)) ve one29 rfl (fun wj hj => (BX.chg (w := w9.drew) (F := [g]) hF10 hj (fun hm => by have := List.mem_singleton.1 hm; omega)).ldp (i := 4) sM) zN (Jx.q_idx (v := ve) 0 u29 tiS31 rfl rfl hex.rn.isSl rfl sD zN ?_)
       obtain ⟨cs45,hr45,hl45⟩ := hex.rn.get (good_rEx dex) Ex.zero (k := 0) sD
       obtain ⟨dd45,ve45,hd45,rfl,hx45⟩ := RX.of hr45
       have hln45 := hx45.rn.lenle
       unfold maxLen at hln45
       refine Jx.q_loadAJ (p := eptr ve 0 5) [(.int .i64 ((ex.kids.getD 0 Ex.zero).kind)),(.int .i64 ((ex.kids.getD 0 Ex.zero).num)),(.int .i64 ((ex.kids.getD 0 Ex.zero).pick)),(.int .i64 ((ex.kids.getD 0 Ex.zero).count)),ve45] agg31 rfl (fun wj hj => hl45 wj (Chg.trans (hE9.drew.sub (subS hgS)) (Chg.sub (show Chg [g] w9.drew wj from hj) (subS hgS)))) rfl zN (Jx.q_move vv rfl zN ?_)
       refine Jx.lw_call 152 [] [] [(.pointer (some ⟨g,0,none⟩)),(.agg #[(.int .i64 ((ex.kids.getD 0 Ex.zero).kind)),(.int .i64 ((ex.kids.getD 0 Ex.zero).num)),(.int .i64 ((ex.kids.getD 0 Ex.zero).pick)),(.int .i64 ((ex.kids.getD 0 Ex.zero).count)),ve45]),vv] rfl rfl cf152 zN (IH2 dd45 oM _ S g vp dp (o) (s0 + 1) (c0) (p) ve45 (ex.kids.getD 0 Ex.zero) vv (env) (fun b hb => (by have := hS b hb; omega : b < w9.heap.size)) hgS hB9 (hp.chg (good_rdS (good_rFn dp)) (hE9.drew.sub (subS hgS))) oM oM oM ⟨hx45.rng,(hx45.rn.chg (good_rdS (good_rEx dd45)) (hE9.drew.sub (subS hgS)))⟩ (henv.chg g2 (hE9.drew.sub (subS hgS))) hqenv (by exact hvp) oM (by exact wf_at0 hwf oM oM) (by exact hse) (by have := kd_at (l := ex.kids) (k := 0) oM; omega)) ?_
       rintro e46 w46 ⟨v46,x46,s46,c46,rfl,hC46,hB46,hr46,hse46,hsb46,hcb46,hrl46⟩
       refine ⟨_,rfl,hC46,?_⟩
       replace hC46 := hC46.of_drew
       have hzs46:=hC46.size
       have hE46 : Chg [g] w w46 := hE9.trans hC46
       have hF50 := hF10.chg hC46 (fun hm => by have := List.mem_singleton.1 hm; omega)
       have hsn46 := hse46.1
       refine Jx.r_one (u := v46) (B := w46.heap.size) good_rV u24 ti25 rfl rfl (frV w46.heap.size w46.heap.size _ (hr46.one1 g1)) (Nat.le_refl _) zN fun v53 w53 hX53 hz53 hO53 => ?_
       have hzs53:=hX53.size
       have hE53 : Chg [g] w w53 := hE46.ext hX53
       have hB46x53 := hB46.ext hX53
       have hF50x53 := hF50.ext hX53
       have hN54 := hr46.ext g1 hX53
       refine Jx.e_appC (v := vv) (a := v53) (u := v46) u24 ti25 rfl rfl rfl (henv.chg g2 (hE53.sub (subS hgS))) hO53 hN54 (fun b hb => (by have := hS b hb; omega : b < w53.heap.size)) sD (by unfold maxLen; first | omega | assumption | (simp; done) | (simp; omega)) zN fun v55 w55 hX55 hr55 hcp55 => ?_
       have hzs55:=hX55.size
       have hE55 : Chg [g] w w55 := hE53.ext hX55
       have hB46x55 := hB46x53.ext hX55
       have hF50x55 := hF50x53.ext hX55
       have hN56 := hN54.ext g1 hX55
       refine Jx.lw_call 152 [] [] [(.pointer (some ⟨g,0,none⟩)),(.agg #[(.int .i64 ((ex.kids.getD 1 Ex.zero).kind)),(.int .i64 ((ex.kids.getD 1 Ex.zero).num)),(.int .i64 ((ex.kids.getD 1 Ex.zero).pick)),(.int .i64 ((ex.kids.getD 1 Ex.zero).count)),ve44]),v55] rfl rfl cf152 zN (IH2 dd44 oM _ S g vp dp (o) (s46) (c46) (p) ve44 (ex.kids.getD 1 Ex.zero) v55 (env ++ [x46]) (fun b hb => (by have := hS b hb; omega : b < w55.heap.size)) hgS hB46x55 (hp.chg (good_rdS (good_rFn dp)) (hE55.sub (subS hgS))) oM oM oM ⟨hx44.rng,(hx44.rn.chg (good_rdS (good_rEx dd44)) (hE55.sub (subS hgS)))⟩ hr55 hcp55 (by exact hvp) oM (by have h9 := wf_at1 hwf oM oM; rw [List.length_append,List.length_singleton]; exact h9) (by exact hse.snoc (by assumption)) (by have := kd_at (l := ex.kids) (k := 1) oM; rw [List.length_append,List.length_singleton]; omega)) ?_
       rintro e57 w57 ⟨v57,x57,s57,c57,rfl,hC57,hB57,hr57,hse57,hsb57,hcb57,hrl57⟩
       refine ⟨_,rfl,hC57,?_⟩
       have hzs57:=hC57.size
       have hE57 : Chg [g] w w57 := hE55.trans hC57
       have hF61 := hF50x55.chg hC57 (fun hm => by have := List.mem_singleton.1 hm; omega)
       have hF64 := hN56.run g1 hgS hC57
       have hF65 := hr55.run g2 hgS hC57
       have hsn57 := hse57.1
       refine Jx.q_assign v57 rfl zN (Jx.lw_nil (wp_ret (b_ret (t_ret ?_))))
       exact post_ret [6] rfl v57 rfl ⟨v57,x57,s57,c57,rfl,hE57,hB57,hr57,z152_3,oM,oM,(by first | exact rel_code oM | exact rel_budget oM oM | exact rel_num hc00 hs1 oM | exact rel_var hc00 hs1 oM | exact rel_if0 hc00 hs1 oM oM ‹RelV (go c0 (evE _ _ (ex.kids.getD 0 _) _ _)) _ _ _› oM (by assumption) | exact rel_if1 hc00 hs1 oM oM ‹RelV (go c0 (evE _ _ (ex.kids.getD 0 _) _ _)) _ _ _› oM (by assumption) | exact rel_let hc00 hs1 oM oM ‹RelV (go c0 (evE _ _ (ex.kids.getD 0 _) _ _)) _ _ _› (by assumption) | exact rel_kidsE hc00 hs1 hkg.1 hkg.2.1 hkg.2.2.1 hkg.2.2.2 hKr oM | exact rel_call hc00 hs1 oM oM hKr oM (by assumption) | exact rel_loop hc00 hs1 oM oM hKr oM (rel_stop hrl9 oM oM) | exact rel_op hc00 hs1 hkg.1 hkg.2.1 hkg.2.2.1 hkg.2.2.2 oM oM hKr oM (by rw [show c57 = 0 from by omega]; exact op_add oM) | exact rel_op hc00 hs1 hkg.1 hkg.2.1 hkg.2.2.1 hkg.2.2.2 oM oM hKr oM (by rw [show c57 = 0 from by omega]; exact op_sub oM) | exact rel_op hc00 hs1 hkg.1 hkg.2.1 hkg.2.2.1 hkg.2.2.2 oM oM hKr oM (by rw [show c57 = 0 from by omega]; exact op_mul oM) | exact rel_op hc00 hs1 hkg.1 hkg.2.1 hkg.2.2.1 hkg.2.2.2 oM oM hKr oM (by rw [show c57 = 0 from by omega]; exact op_neg oM) | exact rel_op hc00 hs1 hkg.1 hkg.2.1 hkg.2.2.1 hkg.2.2.2 oM oM hKr oM (by rw [show c57 = 0 from by omega]; exact op_div oM oM) | exact rel_op hc00 hs1 hkg.1 hkg.2.1 hkg.2.2.1 hkg.2.2.2 oM oM hKr oM (op_div0 oM oM))⟩
      ·
       refine q_eql false rfl rfl (decide_eq_false hc43) zN (lw_tvn 1 rfl (c_cond_f rfl (wp_skip (wp_seq (wp_plain _ [0,0,2,0,4,0] rfl ?_)))))
       have hkg : ex.kind ≠ 1 ∧ ex.kind ≠ 2 ∧ ex.kind ≠ 8 ∧ ex.kind ≠ 9 := by omega
       have hk6 := wk_len hwf hvp hF
       refine lw_tv 1 rfl (q_fldP (p := (.pointer (some ⟨w.heap.size,0,none⟩))) (b := w.heap.size) (o := 0) 4 fd31_4 rfl rfl zN (q_load (p := (padd (.pointer (some ⟨w.heap.size,0,none⟩)) 4)) (.inr rfl) ve one29 rfl (hF10.ldp (i := 4) sM) zN (lw_tv 1 rfl ?_)))
       refine lw_callE 137 [] [] [(.pointer (some ⟨g,0,none⟩)),ve,vv] rfl rfl cf137 zN (c_all F dex (fun d9 h9 => IH2 d9 oM) _ S g vp dp (o) (s0 + 1) (c0) (p) ve (ex.kids) vv (env) (fun b hb => (by have := hS b hb; omega : b < w9.heap.size)) hgS hB9 (hp.chg (good_rdS (good_rFn dp)) (hE9.sub (subS hgS))) oM oM oM (hex.rn.chg (good_rdS (good_rEx dex)) (hE9.sub (subS hgS))) (henv.chg g2 (hE9.sub (subS hgS))) hqenv (by exact hvp) oM (by intro k hk; exact wf_at0 hwf hk oM) (by exact hse) (by intro k hk; have := kd_at (l := ex.kids) (k := k) hk; omega) oM) ?_
       rintro e66 w66 ⟨v66,x66,s66,c66,rfl,hC66,hB66,hr66,hse66,hsb66,hcb66,hrl66⟩
       refine ⟨_,rfl,?_⟩
       have hzs66:=hC66.size
       have hE66 : Chg [g] w w66 := hE9.trans hC66
       have hF70 := hF10.chg hC66 (fun hm => by have := List.mem_singleton.1 hm; omega)
       have hsn66 := hse66.2.1
       have hsr66 := hse66.2.2
       have hcp66 := hse66.1
       have hK := hse66.2.2
       have hKr := hrl66
       refine lw_tvn 1 rfl (wp_seq (wp_seq (wp_plain _ [0,0,0,2,0] rfl (lw_tv 1 rfl (q_nil rfl zN (q_fldP (p := (.pointer (some ⟨g,0,none⟩))) (b := g) (o := 0) 3 fd171_3 rfl rfl zN (q_load (p := (padd (.pointer (some ⟨g,0,none⟩)) 3)) (.inr rfl) (.int .i64 c66) one2 rfl (hB66.ldp (i := 3) sM) zN ?_)))))))
       by_cases hc71 : c66 ≠ ((0 :Nat):Int)
       ·
        refine q_neq true rfl rfl (decide_eq_true hc71) zN (lw_nil (c_cond_t rfl (wp_seq (wp_plain _ [0,3,0] rfl (lw_tv 1 rfl (lw_call 157 [] [] [(.pointer (some ⟨g,0,none⟩)),(.int .i64 ((0 :Nat):Int))] rfl rfl cf157 zN (c_impl_evaluation_constant _ S g vp dp (o) (s66) (c66) (p) _ (fun b hb => (by have := hS b hb; omega : b < w66.heap.size)) hgS hB66 (hp.chg (good_rdS (good_rFn dp)) (hE66.sub (subS hgS))) oM oM oM oM) ?_))))))
        rintro e72 w72 ⟨v72_0,rfl,hX72,hO72_0⟩
        refine ⟨_,rfl,hX72,?_⟩
        have hzs72:=hX72.size
        have hE72 : Chg [g] w w72 := hE66.ext hX72
        have hB66x72 := hB66.ext hX72
        have hF70x72 := hF70.ext hX72
        have hN73 := hr66.ext g2 hX72
        refine lw_tvn 1 rfl (wp_ret (t_ret ?_))
        exact post_ret [6] rfl v72_0 rfl ⟨v72_0,cst (o + 1) ((0 :Nat):Int),s66,c66,rfl,hE72,hB66x72,(RN.of_fr1 hO72_0 (fun b hb => by have := hS b hb; omega)),z152_3,oM,oM,z152_0⟩
       ·
        refine q_neq false rfl rfl (decide_eq_false hc71) zN (lw_nil (c_cond_f rfl (wp_skip (wp_seq (wp_seq (wp_plain _ [0,2] rfl (q_fldP (p := (.pointer (some ⟨w.heap.size,0,none⟩))) (b := w.heap.size) (o := 0) 0 fd31_0 rfl rfl zN (q_load (p := (padd (.pointer (some ⟨w.heap.size,0,none⟩)) 0)) (.inr rfl) (.int .i64 ex.kind) one2 rfl (hF70.ldp (i := 0) sM) zN (lw_nil (wp_block (wp_seq (wp_plain _ [0,0] rfl ?_))))))))))))
        by_cases hc74 : ex.kind = ((10 :Nat):Int)
        ·
         refine q_eql true rfl rfl (decide_eq_true hc74) zN (lw_tvn 1 rfl (c_cond_t rfl (wp_seq (wp_draw _ [0,0,0,0,0,1,0,1,0,0,1,0,1,0,1,0,4,0] mixed (by kernel_rfl) ?_))))
         have hwk := wk_call hwf oM
         refine lw_tv 2 rfl ?_
         have hvo := hvp.outs (ex.num).toNat oM
         have hvd := hvp.deep (ex.num).toNat oM (ex.pick).toNat oM
         refine q_nil rfl zN (q_fldP (p := (.pointer (some ⟨g,0,none⟩))) (b := g) (o := 0) 0 fd171_0 rfl rfl zN (q_fldP (p := (padd (.pointer (some ⟨g,0,none⟩)) 0)) (b := g) (o := 0) 0 fd37_0 rfl rfl zN (q_load (p := (padd (padd (.pointer (some ⟨g,0,none⟩)) 0) 0)) (.inl rfl) vp one35 rfl (hB66.ldp (i := 0) sM) zN (q_fldP (p := (.pointer (some ⟨w.heap.size,0,none⟩))) (b := w.heap.size) (o := 0) 1 fd31_1 rfl rfl zN (q_load (p := (padd (.pointer (some ⟨w.heap.size,0,none⟩)) 1)) (.inl rfl) (.int .i64 ex.num) one2 rfl (hF70.ldp (i := 1) sM) zN ?_)))))
         refine q_idx (v := vp) ((ex.num).toNat) u35 tiS34 rfl rfl hp.isSl oM sD zN ?_
         obtain ⟨cs75,hr75,hl75⟩ := hp.get (good_rFn dp) Fn.zero (k := ((ex.num).toNat)) sD
         obtain ⟨ve75,rfl,hx75⟩ := RF.of hr75
         have hln75 := hx75.rn.lenle
         unfold maxLen at hln75
         refine q_fldL (p := eptr vp ((ex.num).toNat) 3) 2 fd34_2 rfl (hl75 _ (hE66.drew.sub (subS hgS))) zN (q_load (p := (padd (eptr vp ((ex.num).toNat) 3) 2)) (.inl rfl) ve75 one29 rfl ((hl75 _ (hE66.drew.sub (subS hgS))).ld (i := 2) (by simp [exC,fnC])) zN (q_fldP (p := (.pointer (some ⟨w.heap.size,0,none⟩))) (b := w.heap.size) (o := 0) 2 fd31_2 rfl rfl zN (q_load (p := (padd (.pointer (some ⟨w.heap.size,0,none⟩)) 2)) (.inl rfl) (.int .i64 ex.pick) one2 rfl (hF70.ldp (i := 2) sM) zN ?_)))
         refine q_idx (v := ve75) ((ex.pick).toNat) u29 tiS31 rfl rfl hx75.rn.isSl oM sD zN ?_
         obtain ⟨cs76,hr76,hl76⟩ := hx75.rn.get (good_rEx dp) Ex.zero (k := ((ex.pick).toNat)) sD
         obtain ⟨dd76,ve76,hd76,rfl,hx76⟩ := RX.of hr76
         have hln76 := hx76.rn.lenle
         unfold maxLen at hln76
         refine q_loadA (p := eptr ve75 ((ex.pick).toNat) 5) (.inl rfl) [(.int .i64 ((((p.getD ((ex.num).toNat) Fn.zero).outs).getD ((ex.pick).toNat) Ex.zero).kind)),(.int .i64 ((((p.getD ((ex.num).toNat) Fn.zero).outs).getD ((ex.pick).toNat) Ex.zero).num)),(.int .i64 ((((p.getD ((ex.num).toNat) Fn.zero).outs).getD ((ex.pick).toNat) Ex.zero).pick)),(.int .i64 ((((p.getD ((ex.num).toNat) Fn.zero).outs).getD ((ex.pick).toNat) Ex.zero).count)),ve76] agg31 rfl (fun wq9 hw9 => hl76 wq9 ((hE66.drew.sub (subS hgS)).ext hw9)) rfl zN (lw_tv 1 rfl ?_)
         refine lw_callE 152 [] [] [(.pointer (some ⟨g,0,none⟩)),(.agg #[(.int .i64 ((((p.getD ((ex.num).toNat) Fn.zero).outs).getD ((ex.pick).toNat) Ex.zero).kind)),(.int .i64 ((((p.getD ((ex.num).toNat) Fn.zero).outs).getD ((ex.pick).toNat) Ex.zero).num)),(.int .i64 ((((p.getD ((ex.num).toNat) Fn.zero).outs).getD ((ex.pick).toNat) Ex.zero).pick)),(.int .i64 ((((p.getD ((ex.num).toNat) Fn.zero).outs).getD ((ex.pick).toNat) Ex.zero).count)),ve76]),v66] rfl rfl cf152 zN (IH1 (ex.num).toNat oM dd76 _ S g vp dp (o) (s66) (c66) (p) ve76 (((p.getD ((ex.num).toNat) Fn.zero).outs).getD ((ex.pick).toNat) Ex.zero) v66 (x66) (fun b hb => (by have := hS b hb; omega : b < w66.heap.size)) hgS hB66 (hp.chg (good_rdS (good_rFn dp)) (hE66.drew.sub (subS hgS))) oM oM oM ⟨hx76.rng,(hx76.rn.chg (good_rdS (good_rEx dd76)) (hE66.drew.sub (subS hgS)))⟩ hr66 hse66.1 (by exact hvp) oM (by have h9 := hvp.wf (ex.num).toNat oM (ex.pick).toNat oM; rw [show ((x66.length :Nat):Int) = (p.getD (ex.num).toNat Fn.zero).params from by omega]; exact h9) (by exact hK) oM) ?_
         rintro e77 w77 ⟨v77,x77,s77,c77,rfl,hC77,hB77,hr77,hse77,hsb77,hcb77,hrl77⟩
         refine ⟨_,rfl,?_⟩
         replace hC77 := hC77.of_drew
         have hzs77:=hC77.size
         have hE77 : Chg [g] w w77 := hE66.trans hC77
         have hF81 := hF70.chg hC77 (fun hm => by have := List.mem_singleton.1 hm; omega)
         have hF82 := hr66.run g2 hgS hC77
         have hsn77 := hse77.1
         refine lw_tvn 1 rfl (wp_ret (b_ret (t_ret ?_)))
         exact post_ret [6] rfl v77 rfl ⟨v77,x77,s77,c77,rfl,hE77,hB77,hr77,z152_3,oM,oM,(by first | exact rel_code oM | exact rel_budget oM oM | exact rel_num hc00 hs1 oM | exact rel_var hc00 hs1 oM | exact rel_if0 hc00 hs1 oM oM ‹RelV (go c0 (evE _ _ (ex.kids.getD 0 _) _ _)) _ _ _› oM (by assumption) | exact rel_if1 hc00 hs1 oM oM ‹RelV (go c0 (evE _ _ (ex.kids.getD 0 _) _ _)) _ _ _› oM (by assumption) | exact rel_let hc00 hs1 oM oM ‹RelV (go c0 (evE _ _ (ex.kids.getD 0 _) _ _)) _ _ _› (by assumption) | exact rel_kidsE hc00 hs1 hkg.1 hkg.2.1 hkg.2.2.1 hkg.2.2.2 hKr oM | exact rel_call hc00 hs1 oM oM hKr oM (by assumption) | exact rel_loop hc00 hs1 oM oM hKr oM (rel_stop hrl9 oM oM) | exact rel_op hc00 hs1 hkg.1 hkg.2.1 hkg.2.2.1 hkg.2.2.2 oM oM hKr oM (by rw [show c77 = 0 from by omega]; exact op_add oM) | exact rel_op hc00 hs1 hkg.1 hkg.2.1 hkg.2.2.1 hkg.2.2.2 oM oM hKr oM (by rw [show c77 = 0 from by omega]; exact op_sub oM) | exact rel_op hc00 hs1 hkg.1 hkg.2.1 hkg.2.2.1 hkg.2.2.2 oM oM hKr oM (by rw [show c77 = 0 from by omega]; exact op_mul oM) | exact rel_op hc00 hs1 hkg.1 hkg.2.1 hkg.2.2.1 hkg.2.2.2 oM oM hKr oM (by rw [show c77 = 0 from by omega]; exact op_neg oM) | exact rel_op hc00 hs1 hkg.1 hkg.2.1 hkg.2.2.1 hkg.2.2.2 oM oM hKr oM (by rw [show c77 = 0 from by omega]; exact op_div oM oM) | exact rel_op hc00 hs1 hkg.1 hkg.2.1 hkg.2.2.1 hkg.2.2.2 oM oM hKr oM (op_div0 oM oM))⟩
        ·
         refine q_eql false rfl rfl (decide_eq_false hc74) zN (lw_tvn 1 rfl (c_cond_f rfl (wp_seq (wp_plain _ [0,0] rfl ?_))))
         by_cases hc85 : ex.kind = ((11 :Nat):Int)
         ·
          refine q_eql true rfl rfl (decide_eq_true hc85) zN (lw_tvn 1 rfl (c_cond_t rfl (wp_seq (wp_seq (wp_plain _ [0] rfl ?_)))))
          have hwk := wk_call hwf oM
          have hwl := wk_loop hwf oM
          refine lw_tvn 1 rfl (wp_block ?_)
          refine c_loop (S := Nat × Value × List (List Int) × Nat × Int) (fun (⟨i,vk,ks,s9,c9⟩ : Nat × Value × List (List Int) × Nat × Int) => ([(7,vk),(8,(.int .i64 ((i :Nat):Int))),(0,(.pointer (some ⟨g,0,none⟩))),(4,(.pointer (some ⟨w.heap.size,0,none⟩)))] : List (Nat × Value))) (fun (⟨i,vk,ks,s9,c9⟩ : Nat × Value × List (List Int) × Nat × Int) (W : World) => Chg [g] w W ∧ BX W.heap g [vp,.int .i64 ((o :Nat):Int),.int .i64 ((s9 :Nat):Int),.int .i64 c9] ∧ BX W.heap w.heap.size [(.int .i64 ex.kind),(.int .i64 ex.num),(.int .i64 ex.pick),(.int .i64 ex.count),ve] ∧ i ≤ (ex.count).toNat ∧ RN S (rdL (rdL rI)) W.heap vk ks ∧ CapS vk ∧ ks.length = (p.getD (ex.num).toNat Fn.zero).outs.length ∧ SrE (o + 1) ks ∧ s9 ≤ 3000 ∧ (0 ≤ c9 ∧ c9 ≤ 9) ∧ RelV (lop (fun a t => evs (o + 1) (evC p (o + 1) (ex.num).toNat) (p.getD (ex.num).toNat Fn.zero).outs a t) i x66 s66) ks s9 c9) (fun (⟨i,vk,ks,s9,c9⟩ : Nat × Value × List (List Int) × Nat × Int) => (ex.count).toNat - i) (0,v66,x66,s66,c66) ⟨rfl,rfl,rfl,rfl,trivial⟩ ⟨hE66,hB66,hF70,oM,(by assumption),(by assumption),oM,(by assumption),oM,oM,(by exact ⟨rfl,rfl,by omega⟩)⟩ ?_
          clear hE0 hz1 hX1 hzs1 hE1 hz9 hC9 hE9 hzs9 hF10 hC66 hzs66 hE66 hF70
          rintro ⟨i,vk,ks,s9,c9⟩ ρ86 w86 ⟨hE86,hL86_0,hL86_1,hp86_0,hrk,hck,hkl,hks,hp86_5,hp86_6,hrl9⟩
          have hzs86 : w.heap.size ≤ w86.heap.size := hE86.size
          have hq87 := hL86_0.lt
          have hq88 := hL86_1.lt
          refine wp_seq (wp_seq (wp_plain _ [0,0,2,0,0,0,0,0,2,0,0] rfl (lw_tv 1 rfl (q_fldP (p := (.pointer (some ⟨w.heap.size,0,none⟩))) (b := w.heap.size) (o := 0) 3 fd31_3 rfl rfl zN (q_load (p := (padd (.pointer (some ⟨w.heap.size,0,none⟩)) 3)) (.inr rfl) (.int .i64 ex.count) one2 rfl (hL86_1.ldp (i := 3) sM) zN ?_)))))
          by_cases hc89 : ((i :Nat):Int) < ex.count
          ·
           refine q_lss true rfl rfl (decide_eq_true hc89) zN (lw_tv 2 rfl (q_nil rfl (zS (e := 132) rfl rfl rfl) (q_fldP (p := (.pointer (some ⟨g,0,none⟩))) (b := g) (o := 0) 3 fd171_3 rfl rfl (zS (e := 132) rfl rfl rfl) (q_load (p := (padd (.pointer (some ⟨g,0,none⟩)) 3)) (.inr rfl) (.int .i64 c9) one2 rfl (hL86_0.ldp (i := 3) sM) (zS (e := 132) rfl rfl rfl) ?_))))
           by_cases hc90 : c9 = ((0 :Nat):Int)
           ·
            refine q_eql true rfl rfl (decide_eq_true hc90) (zS (e := 132) rfl rfl rfl) (lw_tvn 1 rfl (c_cond_t rfl (wp_skip (wp_seq (wp_block (wp_draw _ [0,0,0,0,0,1,0,1,0,0,1,0,4,0] mixed (by kernel_rfl) (lw_tv 2 rfl ?_)))))))
            have hvo := hvp.outs (ex.num).toNat oM
            refine q_nil rfl zN (q_fldP (p := (.pointer (some ⟨g,0,none⟩))) (b := g) (o := 0) 0 fd171_0 rfl rfl zN (q_fldP (p := (padd (.pointer (some ⟨g,0,none⟩)) 0)) (b := g) (o := 0) 0 fd37_0 rfl rfl zN (q_load (p := (padd (padd (.pointer (some ⟨g,0,none⟩)) 0) 0)) (.inl rfl) vp one35 rfl (hL86_0.ldp (i := 0) sM) zN (q_fldP (p := (.pointer (some ⟨w.heap.size,0,none⟩))) (b := w.heap.size) (o := 0) 1 fd31_1 rfl rfl zN (q_load (p := (padd (.pointer (some ⟨w.heap.size,0,none⟩)) 1)) (.inl rfl) (.int .i64 ex.num) one2 rfl (hL86_1.ldp (i := 1) sM) zN ?_)))))
            refine q_idx (v := vp) ((ex.num).toNat) u35 tiS34 rfl rfl hp.isSl oM sD zN ?_
            obtain ⟨cs91,hr91,hl91⟩ := hp.get (good_rFn dp) Fn.zero (k := ((ex.num).toNat)) sD
            obtain ⟨ve91,rfl,hx91⟩ := RF.of hr91
            have hln91 := hx91.rn.lenle
            unfold maxLen at hln91
            refine q_fldL (p := eptr vp ((ex.num).toNat) 3) 2 fd34_2 rfl (hl91 _ (hE86.drew.sub (subS hgS))) zN (q_load (p := (padd (eptr vp ((ex.num).toNat) 3) 2)) (.inl rfl) ve91 one29 rfl ((hl91 _ (hE86.drew.sub (subS hgS))).ld (i := 2) (by simp [exC,fnC])) zN (lw_tv 1 rfl ?_))
            refine lw_callE 137 [] [] [(.pointer (some ⟨g,0,none⟩)),ve91,vk] rfl rfl cf137 zN (c_all (ex.num).toNat dp (fun d9 h9 => IH1 (ex.num).toNat oM d9) _ S g vp dp (o) (s9) (c9) (p) ve91 ((p.getD ((ex.num).toNat) Fn.zero).outs) vk (ks) (fun b hb => (by have := hS b hb; omega : b < w86.heap.size)) hgS hL86_0 (hp.chg (good_rdS (good_rFn dp)) (hE86.drew.sub (subS hgS))) oM oM oM (hx91.rn.chg (good_rdS (good_rEx dp)) (hE86.drew.sub (subS hgS))) hrk hck (by exact hvp) oM (by intro k hk; have h9 := hvp.wf (ex.num).toNat oM k hk; rw [show ((ks.length :Nat):Int) = (p.getD (ex.num).toNat Fn.zero).params from by omega]; exact h9) (by exact hks) (by intro k hk; have := hvp.deep (ex.num).toNat oM k hk; omega) oM) ?_
            rintro e92 w92 ⟨v92,x92,s92,c92,rfl,hC92,hB92,hr92,hse92,hsb92,hcb92,hrl92⟩
            refine ⟨_,rfl,?_⟩
            replace hC92 := hC92.of_drew
            have hzs92:=hC92.size
            have hE92 : Chg [g] w w92 := hE86.trans hC92
            have hF96 := hL86_1.chg hC92 (fun hm => by have := List.mem_singleton.1 hm; omega)
            have hF97 := hrk.run g2 hgS hC92
            have hsn92 := hse92.2.1
            have hsr92 := hse92.2.2
            have hcp92 := hse92.1
            exact lw_tvn 1 rfl (wp_plain _ [0,0,0] rfl (lw_tv 1 rfl (q_add ((i + 1 :Nat):Int) rfl rfl (w64n oM oM) zN (lw_tvn 1 rfl ⟨((i + 1),v92,x92,s92,c92),_,rfl,⟨rfl,rfl,rfl,rfl,trivial⟩,⟨hE92,hB92,hF96,oM,(by assumption),(by assumption),oM,(by assumption),oM,oM,(by exact rel_lop hrl9 oM (by assumption))⟩,by first | omega | (dsimp only; omega)⟩))))
           ·
            refine q_eql false rfl rfl (decide_eq_false hc90) (zS (e := 132) rfl rfl rfl) (lw_tvn 1 rfl (c_cond_f rfl (wp_exit (t_exit (t_exit (c_exit_here (wp_seq (wp_plain _ [0,0,2,0,2,0] rfl (lw_tv 1 rfl (q_fldP (p := (.pointer (some ⟨w.heap.size,0,none⟩))) (b := w.heap.size) (o := 0) 2 fd31_2 rfl rfl zN (q_load (p := (padd (.pointer (some ⟨w.heap.size,0,none⟩)) 2)) (.inr rfl) (.int .i64 ex.pick) one2 rfl (hL86_1.ldp (i := 2) sM) zN ?_)))))))))))
            refine q_idx (v := vk) ((ex.pick).toNat) u24 ti25 rfl rfl hrk.slL oM sD zN ?_
            obtain ⟨ue99,hl99,hr99⟩ := RN.getL (w := w86) g1 [] (k := (ex.pick).toNat) hrk sD
            have hln99 := hr99.lenL
            unfold maxLen at hln99
            refine q_load (p := eptr vk ((ex.pick).toNat) 1) (.inr rfl) ue99 one25 rfl (hl99 _ (Chg.refl _ _)) zN (lw_tvn 1 rfl (wp_ret (b_ret (t_ret ?_))))
            exact post_ret [6] rfl ue99 rfl ⟨ue99,ks.getD ((ex.pick).toNat) [],s9,c9,rfl,hE86,hL86_0,hr99,z152_3,oM,oM,z152_2⟩
          ·
           refine q_lss false rfl rfl (decide_eq_false hc89) zN (lw_tvn 7 rfl (c_cond_f rfl (wp_exit (t_exit (t_exit (c_exit_here (wp_seq (wp_plain _ [0,0,2,0,2,0] rfl (lw_tv 1 rfl (q_fldP (p := (.pointer (some ⟨w.heap.size,0,none⟩))) (b := w.heap.size) (o := 0) 2 fd31_2 rfl rfl zN (q_load (p := (padd (.pointer (some ⟨w.heap.size,0,none⟩)) 2)) (.inr rfl) (.int .i64 ex.pick) one2 rfl (hL86_1.ldp (i := 2) sM) zN ?_)))))))))))
           refine q_idx (v := vk) ((ex.pick).toNat) u24 ti25 rfl rfl hrk.slL oM sD zN ?_
           obtain ⟨ue100,hl100,hr100⟩ := RN.getL (w := w86) g1 [] (k := (ex.pick).toNat) hrk sD
           have hln100 := hr100.lenL
           unfold maxLen at hln100
           refine q_load (p := eptr vk ((ex.pick).toNat) 1) (.inr rfl) ue100 one25 rfl (hl100 _ (Chg.refl _ _)) zN (lw_tvn 1 rfl (wp_ret (b_ret (t_ret ?_))))
           exact post_ret [6] rfl ue100 rfl ⟨ue100,ks.getD ((ex.pick).toNat) [],s9,c9,rfl,hE86,hL86_0,hr100,z152_3,oM,oM,z152_2⟩
         ·
          refine q_eql false rfl rfl (decide_eq_false hc85) zN (lw_tvn 1 rfl (c_cond_f rfl (wp_seq (wp_plain _ [0,0] rfl ?_))))
          by_cases hc101 : ex.kind = ((3 :Nat):Int)
          ·
           refine q_eql true rfl rfl (decide_eq_true hc101) zN (lw_tvn 1 rfl (c_cond_t rfl (wp_seq (wp_draw _ [0,0,1,0,0,1,3,0] mixed (by kernel_rfl) ?_))))
           have hwk := wk_op2 hwf oM
           have hK0 := hK 0 oM
           have hK1 := hK 1 oM
           have hK1l := hK1.1
           refine lw_tv 1 rfl (q_idx (v := v66) 0 u24 ti25 rfl rfl hr66.slL rfl sD zN ?_)
           obtain ⟨ue102,hl102,hr102⟩ := RN.getL (w := w66) g1 [] (k := 0) hr66 sD
           have hln102 := hr102.lenL
           unfold maxLen at hln102
           refine q_load (p := eptr v66 0 1) (.inl rfl) ue102 one25 rfl (hl102 _ (Chg.refl _ _).drew) zN (lw_tv 1 rfl (q_idx (v := v66) 1 u24 ti25 rfl rfl hr66.slL rfl sD zN ?_))
           obtain ⟨ue103,hl103,hr103⟩ := RN.getL (w := w66) g1 [] (k := 1) hr66 sD
           have hln103 := hr103.lenL
           unfold maxLen at hln103
           refine q_load (p := eptr v66 1 1) (.inl rfl) ue103 one25 rfl (hl103 _ (Chg.refl _ _).drew) zN (lw_call 159 [] [] [ue102,ue103] rfl rfl cf159 zN (c_impl_added _ _ _ _ _ (hr102).rd (hr103).rd z152_5 z152_4 (by exact hK0.2) (by exact hK1.2)) ?_)
           rintro e104 w104 ⟨v104_0,rfl,hX104,hO104_0⟩
           refine ⟨_,rfl,hX104,?_⟩
           replace hX104 := hX104.of_drew
           have hzs104:=hX104.size
           have hE104 : Chg [g] w w104 := hE66.ext hX104
           have hB66x104 := hB66.ext hX104
           have hF70x104 := hF70.ext hX104
           have hN105 := hr66.ext g2 hX104
           have hN106 := hr102.ext g1 hX104
           have hN107 := hr103.ext g1 hX104
           replace hO104_0 := hO104_0.low (B' := w66.heap.size) (Nat.le_refl _)
           refine lw_tvn 1 rfl (wp_ret (b_ret (t_ret ?_)))
           exact post_ret [6] rfl v104_0 rfl ⟨v104_0,addS (x66.getD 0 []) (x66.getD 1 []),s66,c66,rfl,hE104,hB66x104,(RN.of_fr1 hO104_0 (fun b hb => by have := hS b hb; omega)),z152_3,oM,oM,z152_0⟩
          ·
           refine q_eql false rfl rfl (decide_eq_false hc101) zN (lw_tvn 1 rfl (c_cond_f rfl (wp_seq (wp_plain _ [0,0] rfl ?_))))
           by_cases hc108 : ex.kind = ((4 :Nat):Int)
           ·
            refine q_eql true rfl rfl (decide_eq_true hc108) zN (lw_tvn 1 rfl (c_cond_t rfl (wp_seq (wp_draw _ [0,0,1,0,0,1,3,0] mixed (by kernel_rfl) ?_))))
            have hwk := wk_op2 hwf oM
            have hK0 := hK 0 oM
            have hK1 := hK 1 oM
            have hK1l := hK1.1
            refine lw_tv 1 rfl (q_idx (v := v66) 0 u24 ti25 rfl rfl hr66.slL rfl sD zN ?_)
            obtain ⟨ue109,hl109,hr109⟩ := RN.getL (w := w66) g1 [] (k := 0) hr66 sD
            have hln109 := hr109.lenL
            unfold maxLen at hln109
            refine q_load (p := eptr v66 0 1) (.inl rfl) ue109 one25 rfl (hl109 _ (Chg.refl _ _).drew) zN (lw_tv 1 rfl (q_idx (v := v66) 1 u24 ti25 rfl rfl hr66.slL rfl sD zN ?_))
            obtain ⟨ue110,hl110,hr110⟩ := RN.getL (w := w66) g1 [] (k := 1) hr66 sD
            have hln110 := hr110.lenL
            unfold maxLen at hln110
            refine q_load (p := eptr v66 1 1) (.inl rfl) ue110 one25 rfl (hl110 _ (Chg.refl _ _).drew) zN (lw_call 160 [] [] [ue109,ue110] rfl rfl cf160 zN (c_impl_reduced _ _ _ _ _ (hr109).rd (hr110).rd z152_5 (by have := hK1.1; omega) z152_4 (by exact hK0.2) (by exact hK1.2)) ?_)
            rintro e111 w111 ⟨v111_0,rfl,hX111,hO111_0⟩
            refine ⟨_,rfl,hX111,?_⟩
            replace hX111 := hX111.of_drew
            have hzs111:=hX111.size
            have hE111 : Chg [g] w w111 := hE66.ext hX111
            have hB66x111 := hB66.ext hX111
            have hF70x111 := hF70.ext hX111
            have hN112 := hr66.ext g2 hX111
            have hN113 := hr109.ext g1 hX111
            have hN114 := hr110.ext g1 hX111
            replace hO111_0 := hO111_0.low (B' := w66.heap.size) (Nat.le_refl _)
            refine lw_tvn 1 rfl (wp_ret (b_ret (t_ret ?_)))
            exact post_ret [6] rfl v111_0 rfl ⟨v111_0,redS (x66.getD 0 []) (x66.getD 1 []),s66,c66,rfl,hE111,hB66x111,(RN.of_fr1 hO111_0 (fun b hb => by have := hS b hb; omega)),z152_3,oM,oM,z152_0⟩
           ·
            refine q_eql false rfl rfl (decide_eq_false hc108) zN (lw_tvn 1 rfl (c_cond_f rfl (wp_seq (wp_plain _ [0,0] rfl ?_))))
            by_cases hc115 : ex.kind = ((5 :Nat):Int)
            ·
             refine q_eql true rfl rfl (decide_eq_true hc115) zN (lw_tvn 1 rfl (c_cond_t rfl (wp_seq (wp_draw _ [0,0,1,0,0,1,3,0] mixed (by kernel_rfl) ?_))))
             have hwk := wk_op2 hwf oM
             have hK0 := hK 0 oM
             have hK1 := hK 1 oM
             have hK1l := hK1.1
             refine lw_tv 1 rfl (q_idx (v := v66) 0 u24 ti25 rfl rfl hr66.slL rfl sD zN ?_)
             obtain ⟨ue116,hl116,hr116⟩ := RN.getL (w := w66) g1 [] (k := 0) hr66 sD
             have hln116 := hr116.lenL
             unfold maxLen at hln116
             refine q_load (p := eptr v66 0 1) (.inl rfl) ue116 one25 rfl (hl116 _ (Chg.refl _ _).drew) zN (lw_tv 1 rfl (q_idx (v := v66) 1 u24 ti25 rfl rfl hr66.slL rfl sD zN ?_))
             obtain ⟨ue117,hl117,hr117⟩ := RN.getL (w := w66) g1 [] (k := 1) hr66 sD
             have hln117 := hr117.lenL
             unfold maxLen at hln117
             refine q_load (p := eptr v66 1 1) (.inl rfl) ue117 one25 rfl (hl117 _ (Chg.refl _ _).drew) zN (lw_call 161 [] [] [ue116,ue117] rfl rfl cf161 zN (c_impl_product _ _ _ _ _ (hr116).rd (hr117).rd z152_5 z152_4 (by exact hK0.2) (by exact hK1.2)) ?_)
             rintro e118 w118 ⟨v118_0,rfl,hX118,hO118_0⟩
             refine ⟨_,rfl,hX118,?_⟩
             replace hX118 := hX118.of_drew
             have hzs118:=hX118.size
             have hE118 : Chg [g] w w118 := hE66.ext hX118
             have hB66x118 := hB66.ext hX118
             have hF70x118 := hF70.ext hX118
             have hN119 := hr66.ext g2 hX118
             have hN120 := hr116.ext g1 hX118
             have hN121 := hr117.ext g1 hX118
             replace hO118_0 := hO118_0.low (B' := w66.heap.size) (Nat.le_refl _)
             refine lw_tvn 1 rfl (wp_ret (b_ret (t_ret ?_)))
             exact post_ret [6] rfl v118_0 rfl ⟨v118_0,proS (x66.getD 0 []) (x66.getD 1 []),s66,c66,rfl,hE118,hB66x118,(RN.of_fr1 hO118_0 (fun b hb => by have := hS b hb; omega)),z152_3,oM,oM,z152_0⟩
            ·
             refine q_eql false rfl rfl (decide_eq_false hc115) zN (lw_tvn 1 rfl (c_cond_f rfl (wp_seq (wp_plain _ [0,0] rfl ?_))))
             by_cases hc122 : ex.kind = ((7 :Nat):Int)
             ·
              refine q_eql true rfl rfl (decide_eq_true hc122) zN (lw_tvn 1 rfl (c_cond_t rfl (wp_seq (wp_plain _ [0,0,2,3,0] rfl ?_))))
              have hwk := wk_neg hwf oM
              have hK0 := hK 0 oM
              refine lw_tv 1 rfl (q_idx (v := v66) 0 u24 ti25 rfl rfl hr66.slL rfl sD zN ?_)
              obtain ⟨ue123,hl123,hr123⟩ := RN.getL (w := w66) g1 [] (k := 0) hr66 sD
              have hln123 := hr123.lenL
              unfold maxLen at hln123
              refine q_load (p := eptr v66 0 1) (.inr rfl) ue123 one25 rfl (hl123 _ (Chg.refl _ _)) zN (lw_call 162 [] [] [ue123,(.int .i64 ((1000002 :Nat):Int))] rfl rfl cf162 zN (c_impl_scaled _ _ _ _ (hr123).rd oM z152_5 (by exact hK0.2) oM) ?_)
              rintro e124 w124 ⟨v124_0,rfl,hX124,hO124_0⟩
              refine ⟨_,rfl,hX124,?_⟩
              have hzs124:=hX124.size
              have hE124 : Chg [g] w w124 := hE66.ext hX124
              have hB66x124 := hB66.ext hX124
              have hF70x124 := hF70.ext hX124
              have hN125 := hr66.ext g2 hX124
              have hN126 := hr123.ext g1 hX124
              refine lw_tvn 1 rfl (wp_ret (b_ret (t_ret ?_)))
              exact post_ret [6] rfl v124_0 rfl ⟨v124_0,sclS (x66.getD 0 []) ((1000002 :Nat):Int),s66,c66,rfl,hE124,hB66x124,(RN.of_fr1 hO124_0 (fun b hb => by have := hS b hb; omega)),z152_3,oM,oM,z152_0⟩
             ·
              refine q_eql false rfl rfl (decide_eq_false hc122) zN (lw_tvn 1 rfl (c_cond_f rfl (wp_skip (wp_seq (wp_seq (wp_plain _ [0,0,2,0,2,0] rfl ?_))))))
              have hkd6 := wk_div hwf ⟨hkg,by omega⟩
              have hwk := wk_op2 hwf (.inr (.inr (.inr hkd6)))
              have hK0 := hK 0 oM
              have hK1 := hK 1 oM
              have hK1l := hK1.1
              refine lw_tv 1 rfl (q_idx (v := v66) 1 u24 ti25 rfl rfl hr66.slL rfl sD zN ?_)
              obtain ⟨ue127,hl127,hr127⟩ := RN.getL (w := w66) g1 [] (k := 1) hr66 sD
              have hln127 := hr127.lenL
              unfold maxLen at hln127
              refine q_load (p := eptr v66 1 1) (.inr rfl) ue127 one25 rfl (hl127 _ (Chg.refl _ _)) zN (q_idx (v := ue127) 0 u25 ti2 rfl rfl hr127.slL rfl sD zN ?_)
              have hg128 := RN.getI (w := w66) (k := 0) hr127 sD
              refine q_load (p := eptr ue127 0 1) (.inr rfl) (.int .i64 ((x66.getD 1 []).getD 0 0)) one2 rfl (hg128.1 _ (Chg.refl _ _)) zN ?_
              by_cases hc129 : (x66.getD 1 []).getD 0 0 = ((0 :Nat):Int)
              ·
               refine q_eql true rfl rfl (decide_eq_true hc129) zN (lw_nil (c_cond_t rfl (wp_seq (wp_plain _ [0,0,0,4] rfl (lw_tv 1 rfl (q_nil rfl zN (q_fldP (p := (.pointer (some ⟨g,0,none⟩))) (b := g) (o := 0) 3 fd171_3 rfl rfl zN (e_setB (k := 3) (w := w66) sz2 rfl rfl ⟨rfl,rfl⟩ hB66 sM zN fun w130 hC130 hz130 hB130 => ?_))))))))
               replace hB130 : BX w130.heap g [vp,(.int .i64 ((o :Nat):Int)),(.int .i64 ((s66 :Nat):Int)),(.int .i64 ((6 :Nat):Int))] := hB130
               have hE130 : Chg [g] w w130 := hE66.trans hC130
               have hzs130:=hC130.size
               have hF131 := hF70.chg hC130 (fun hm => by have := List.mem_singleton.1 hm; omega)
               have hN132 := hr66.run g2 hgS hC130
               have hN133 := hr127.run g1 hgS hC130
               refine lw_nil (wp_seq (wp_plain _ [0,3,0] rfl (lw_tv 1 rfl (lw_call 157 [] [] [(.pointer (some ⟨g,0,none⟩)),(.int .i64 ((0 :Nat):Int))] rfl rfl cf157 zN (c_impl_evaluation_constant _ S g vp dp (o) (s66) (((6 :Nat):Int)) (p) _ (fun b hb => (by have := hS b hb; omega : b < w130.heap.size)) hgS hB130 (hp.chg (good_rdS (good_rFn dp)) (hE130.sub (subS hgS))) oM oM oM oM) ?_))))
               rintro e134 w134 ⟨v134_0,rfl,hX134,hO134_0⟩
               refine ⟨_,rfl,hX134,?_⟩
               have hzs134:=hX134.size
               have hE134 : Chg [g] w w134 := hE130.ext hX134
               have hB130x134 := hB130.ext hX134
               have hF131x134 := hF131.ext hX134
               have hN135 := hN132.ext g2 hX134
               have hN136 := hN133.ext g1 hX134
               refine lw_tvn 1 rfl (wp_ret (t_ret ?_))
               exact post_ret [6] rfl v134_0 rfl ⟨v134_0,cst (o + 1) ((0 :Nat):Int),s66,((6 :Nat):Int),rfl,hE134,hB130x134,(RN.of_fr1 hO134_0 (fun b hb => by have := hS b hb; omega)),z152_3,oM,oM,(by first | exact rel_code oM | exact rel_budget oM oM | exact rel_num hc00 hs1 oM | exact rel_var hc00 hs1 oM | exact rel_if0 hc00 hs1 oM oM ‹RelV (go c0 (evE _ _ (ex.kids.getD 0 _) _ _)) _ _ _› oM (by assumption) | exact rel_if1 hc00 hs1 oM oM ‹RelV (go c0 (evE _ _ (ex.kids.getD 0 _) _ _)) _ _ _› oM (by assumption) | exact rel_let hc00 hs1 oM oM ‹RelV (go c0 (evE _ _ (ex.kids.getD 0 _) _ _)) _ _ _› (by assumption) | exact rel_kidsE hc00 hs1 hkg.1 hkg.2.1 hkg.2.2.1 hkg.2.2.2 hKr oM | exact rel_call hc00 hs1 oM oM hKr oM (by assumption) | exact rel_loop hc00 hs1 oM oM hKr oM (rel_stop hrl9 oM oM) | exact rel_op hc00 hs1 hkg.1 hkg.2.1 hkg.2.2.1 hkg.2.2.2 oM oM hKr oM (by rw [show ((6 :Nat):Int) = 0 from by omega]; exact op_add oM) | exact rel_op hc00 hs1 hkg.1 hkg.2.1 hkg.2.2.1 hkg.2.2.2 oM oM hKr oM (by rw [show ((6 :Nat):Int) = 0 from by omega]; exact op_sub oM) | exact rel_op hc00 hs1 hkg.1 hkg.2.1 hkg.2.2.1 hkg.2.2.2 oM oM hKr oM (by rw [show ((6 :Nat):Int) = 0 from by omega]; exact op_mul oM) | exact rel_op hc00 hs1 hkg.1 hkg.2.1 hkg.2.2.1 hkg.2.2.2 oM oM hKr oM (by rw [show ((6 :Nat):Int) = 0 from by omega]; exact op_neg oM) | exact rel_op hc00 hs1 hkg.1 hkg.2.1 hkg.2.2.1 hkg.2.2.2 oM oM hKr oM (by rw [show ((6 :Nat):Int) = 0 from by omega]; exact op_div oM oM) | exact rel_op hc00 hs1 hkg.1 hkg.2.1 hkg.2.2.1 hkg.2.2.2 oM oM hKr oM (op_div0 oM oM))⟩
              ·
               refine q_eql false rfl rfl (decide_eq_false hc129) zN (lw_nil (c_cond_f rfl (wp_skip (wp_seq (wp_draw _ [0,0,1,0,0,1,3,0] mixed (by kernel_rfl) (lw_tv 1 rfl (q_idx (v := v66) 0 u24 ti25 rfl rfl hr66.slL rfl sD zN ?_)))))))
               obtain ⟨ue137,hl137,hr137⟩ := RN.getL (w := w66) g1 [] (k := 0) hr66 sD
               have hln137 := hr137.lenL
               unfold maxLen at hln137
               refine q_load (p := eptr v66 0 1) (.inl rfl) ue137 one25 rfl (hl137 _ (Chg.refl _ _).drew) zN (lw_tv 1 rfl (q_idx (v := v66) 1 u24 ti25 rfl rfl hr66.slL rfl sD zN ?_))
               obtain ⟨ue138,hl138,hr138⟩ := RN.getL (w := w66) g1 [] (k := 1) hr66 sD
               have hln138 := hr138.lenL
               unfold maxLen at hln138
               refine q_load (p := eptr v66 1 1) (.inl rfl) ue138 one25 rfl (hl138 _ (Chg.refl _ _).drew) zN (lw_call 163 [] [] [ue137,ue138] rfl rfl cf163 zN (c_impl_quotient _ _ _ _ _ (hr137).rd (hr138).rd z152_5 z152_4 (by have := hK1.1; omega) (by exact hK0.2) (by exact hK1.2)) ?_)
               rintro e139 w139 ⟨v139_0,rfl,hX139,hO139_0⟩
               refine ⟨_,rfl,hX139,?_⟩
               replace hX139 := hX139.of_drew
               have hzs139:=hX139.size
               have hE139 : Chg [g] w w139 := hE66.ext hX139
               have hB66x139 := hB66.ext hX139
               have hF70x139 := hF70.ext hX139
               have hN140 := hr66.ext g2 hX139
               have hN141 := hr127.ext g1 hX139
               have hN142 := hr137.ext g1 hX139
               have hN143 := hr138.ext g1 hX139
               replace hO139_0 := hO139_0.low (B' := w66.heap.size) (Nat.le_refl _)
               refine lw_tvn 1 rfl (wp_ret ?_)
               exact post_ret [6] rfl v139_0 rfl ⟨v139_0,quoS (x66.getD 0 []) (x66.getD 1 []),s66,c66,rfl,hE139,hB66x139,(RN.of_fr1 hO139_0 (fun b hb => by have := hS b hb; omega)),z152_3,oM,oM,z152_0⟩
end Go.Proofs.Ytnokbaiemimhjaa
