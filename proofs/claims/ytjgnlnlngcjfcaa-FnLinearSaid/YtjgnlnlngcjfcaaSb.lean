/- Contracts of functions: each says what the function returns for all arguments that meet its premises. Printed by gen.py. -/
import Derived.Test.YtjgnlnlngcjfcaaMb
import Derived.Test.YtjgnlnlngcjfcaaT
import Derived.Test.YtjgnlnlngcjfcaaSa
import Derived.Test.YtjgnlnlngcjfcaaProg
namespace Go.Proofs.Ytjgnlnlngcjfcaa
open Go Go.RowKit
set_option linter.unusedVariables false
set_option linter.unusedSimpArgs false
attribute [local irreducible] LW
/- slices.IndexFunc[[]int64,int64] -/
def ixF {α : Type} (p : α → Bool) (l : List α) : Int := if l.any p then ((l.findIdx p : Nat) : Int) else -1
theorem ix_rng {α : Type} (p : α → Bool) (l : List α) (h : l.length ≤ 9223372036854775807) : -9223372036854775808 ≤ ixF p l ∧ ixF p l ≤ 9223372036854775807 := by
  have := List.findIdx_le_length (p := p) (xs := l)
  unfold ixF; split <;> omega
theorem ix_yes {α : Type} {p : α → Bool} {l : List α} {k : Nat} (d : α) (h : ∀ j, j < k → p (l.getD j d) = false) (hk : k < l.length) (hp : p (l.getD k d) = true) : ((k : Nat) : Int) = ixF p l := by
  have e : ∀ j, (hj : j < l.length) → l.getD j d = l[j] := fun j hj => by simp [hj]
  have h1 : l.any p = true := List.any_eq_true.2 ⟨l[k], List.getElem_mem hk, by rw [← e k hk]; exact hp⟩
  have h2 : l.findIdx p = k := by
    rw [List.findIdx_eq hk]
    refine ⟨by rw [← e k hk]; exact hp, fun j hj => ?_⟩
    have := h j hj
    rw [e j (by omega)] at this
    exact this
  unfold ixF; rw [if_pos h1, h2]
theorem ix_no {α : Type} {p : α → Bool} {l : List α} {k : Nat} (d : α) (h : ∀ j, j < k → p (l.getD j d) = false) (hk : l.length ≤ k) : (-1 : Int) = ixF p l := by
  have h1 : l.any p = false := by
    rw [List.any_eq_false]
    intro x hx
    obtain ⟨j, hj, rfl⟩ := List.getElem_of_mem hx
    have := h j (by omega)
    have e : l.getD j d = l[j] := by simp [hj]
    rw [e] at this
    simp [this]
  unfold ixF; rw [h1]; rfl
theorem ix_ge {α : Type} (p : α → Bool) (l : List α) : decide (((0 : Nat) : Int) ≤ ixF p l) = l.any p := by
  unfold ixF
  split
  · rename_i h; rw [h]; exact decide_eq_true (by omega)
  · rename_i h; rw [Bool.not_eq_true] at h; rw [h]; exact decide_eq_false (by omega)
theorem ix_step {α : Type} {p : α → Bool} {l : List α} {k : Nat} {d : α} (h : ∀ j, j < k → p (l.getD j d) = false) (hp : p (l.getD k d) = false) : ∀ j, j < k + 1 → p (l.getD j d) = false := by
  intro j hj
  by_cases e : j = k
  · subst e; exact hp
  · exact h j (by omega)

set_option maxHeartbeats 4000000 in
set_option maxRecDepth 100000 in
theorem c_slices_IndexFunc___int64_int64_ (w : World) (va : Value) (a : List Int) (q : Nat) (qf qc : List Value) (p : Int → Bool) (ha : Rd (rdL rI) w.heap va a) (hcf_q : ((Try.prog.funcs[q]?).map fun fn => (fn.name != "runtime.NumGoroutine") && fn.body.isSome) = some true) (hp : ∀ (x : Int), -9223372036854775808 ≤ x ∧ x ≤ 9223372036854775807 → ∀ w1, Ext w w1 → Calls Try.prog q (qf ++ [Value.int .i64 x] ++ qc).toArray w1 (fun e w2 => e = .returned (.bool (p x)) ∧ Ext w1 w2))  :
    Calls Try.prog 122 #[va, .func (.func q) qf.toArray qc.toArray] w (fun e w' => e = .returned (.int .i64 (ixF p a)) ∧ Ext w w') := by
  refine calls_mk [va, .func (.func q) qf.toArray qc.toArray] 19 Try.func122 rfl rfl (by simp) ?_
  have hE0 : Ext w w := Ext.refl w
  have hl_va := ha.lenle
  refine wp_seq ?_
  refine wp_plain _ [0] rfl ?_
  refine q_assign (.int .i64 ((0 : Nat) : Int)) rfl up_none ?_
  refine lw_nil ?_
  refine wp_seq ?_
  refine wp_seq ?_
  refine wp_plain _ [0, 0, 0] rfl ?_
  refine q_move va rfl up_none ?_
  refine q_len (v := va) u29 rfl ha.isSl up_none ?_
  refine q_move (.int .i64 ((0 : Nat) : Int)) rfl up_none ?_
  refine lw_nil ?_
  refine wp_block ?_
  refine c_loop (S := Nat) (fun (k : Nat) => ([(8, (.int .i64 ((k : Nat) : Int))), (0, va), (1, (.func (.func q) qf.toArray qc.toArray)), (7, (.int .i64 ((a.length : Nat) : Int)))] : List (Nat × Value))) (fun (k : Nat) (W : World) => Ext w W ∧ k ≤ a.length ∧ (∀ j, j < k → p (a.getD j 0) = false)) (fun (k : Nat) => a.length - k) 0 ⟨rfl, rfl, rfl, rfl, trivial⟩ ⟨hE0, (by first | omega | assumption | (simp only [List.length_nil, List.length_cons, List.length_append, List.length_set, List.length_replicate]; omega) | (simp [List.length_nil, List.length_cons, List.length_append, List.length_set, List.length_replicate]; done) | (simp [List.length_nil, List.length_cons, List.length_append, List.length_set, List.length_replicate]; omega)), (by intro j hj; omega)⟩ ?_
  clear hE0
  rintro k ρ1 w1 ⟨hE1, hp1_0, hq⟩
  have hzs1 : w.heap.size ≤ w1.heap.size := hE1.size
  refine wp_seq ?_
  refine wp_plain _ [0] rfl ?_
  by_cases hc2 : ((k : Nat) : Int) < ((a.length : Nat) : Int)
  ·
    refine q_lss true rfl rfl (decide_eq_true hc2) up_none ?_
    refine lw_nil ?_
    refine wp_seq ?_
    refine c_cond_t rfl ?_
    refine wp_skip ?_
    refine wp_seq ?_
    refine wp_block ?_
    refine wp_seq ?_
    refine wp_plain _ [0, 0] rfl ?_
    refine q_move (.int .i64 ((k : Nat) : Int)) rfl up_none ?_
    refine q_assign (.int .i64 ((k : Nat) : Int)) rfl up_none ?_
    refine lw_nil ?_
    refine wp_seq ?_
    refine wp_plain _ [0, 0, 0, 0, 2, 3] rfl ?_
    refine q_move (.func (.func q) qf.toArray qc.toArray) rfl up_none ?_
    refine q_move va rfl up_none ?_
    refine q_move (.int .i64 ((k : Nat) : Int)) rfl up_none ?_
    refine q_idx (v := va) k u29 ti2 rfl rfl ha.isSl rfl (by first | omega | assumption | (simp only [List.length_nil, List.length_cons, List.length_append, List.length_set, List.length_replicate]; omega) | (simp [List.length_nil, List.length_cons, List.length_append, List.length_set, List.length_replicate]; done) | (simp [List.length_nil, List.length_cons, List.length_append, List.length_set, List.length_replicate]; omega)) up_none ?_
    refine q_load (p := eptr va k 1) (.inr rfl) (.int .i64 (a.getD k 0)) one2 rfl (ldH_ext hE1 (ha.getI (by first | omega | assumption | (simp only [List.length_nil, List.length_cons, List.length_append, List.length_set, List.length_replicate]; omega) | (simp [List.length_nil, List.length_cons, List.length_append, List.length_set, List.length_replicate]; done) | (simp [List.length_nil, List.length_cons, List.length_append, List.length_set, List.length_replicate]; omega))).1) up_none ?_
    have hcall3 := hp (a.getD k 0) (ha.getI (by first | omega | assumption | (simp only [List.length_nil, List.length_cons, List.length_append, List.length_set, List.length_replicate]; omega) | (simp [List.length_nil, List.length_cons, List.length_append, List.length_set, List.length_replicate]; done) | (simp [List.length_nil, List.length_cons, List.length_append, List.length_set, List.length_replicate]; omega))).2 _ hE1
    refine lw_call q qf qc _ rfl rfl hcf_q up_none hcall3 ?_
    rintro e3 w3 ⟨rfl, hX3⟩
    refine ⟨_, rfl, hX3, ?_⟩
    have hzs3 : w1.heap.size ≤ w3.heap.size := hX3.size
    have hE3 : Ext w w3 := hE1.trans hX3
    cases hc3 : p (a.getD k 0)
    ·
      refine lw_nil ?_
      refine c_cond_f rfl ?_
      refine wp_skip ?_
      refine wp_plain _ [0, 0] rfl ?_
      refine q_add ((k + 1 : Nat) : Int) rfl rfl (w64n (by omega) (by first | omega | assumption | (simp only [List.length_nil, List.length_cons, List.length_append, List.length_set, List.length_replicate]; omega) | (simp [List.length_nil, List.length_cons, List.length_append, List.length_set, List.length_replicate]; done) | (simp [List.length_nil, List.length_cons, List.length_append, List.length_set, List.length_replicate]; omega))) up_none ?_
      refine q_move (.int .i64 ((k + 1 : Nat) : Int)) rfl up_none ?_
      refine lw_nil ?_
      exact ⟨(k + 1), _, rfl, ⟨rfl, rfl, rfl, rfl, trivial⟩, ⟨hE3, (by first | omega | assumption | (simp only [List.length_nil, List.length_cons, List.length_append, List.length_set, List.length_replicate]; omega) | (simp [List.length_nil, List.length_cons, List.length_append, List.length_set, List.length_replicate]; done) | (simp [List.length_nil, List.length_cons, List.length_append, List.length_set, List.length_replicate]; omega)), (by exact ix_step hq (by assumption))⟩, by first | omega | (dsimp only; omega)⟩
    ·
      refine lw_nil ?_
      refine c_cond_t rfl ?_
      refine wp_seq ?_
      refine wp_plain _ [0, 0] rfl ?_
      refine q_move (.int .i64 ((k : Nat) : Int)) rfl up_none ?_
      refine q_assign (.int .i64 ((k : Nat) : Int)) rfl up_none ?_
      refine lw_nil ?_
      refine wp_ret ?_
      refine b_ret ?_
      refine t_ret ?_
      refine t_ret ?_
      refine b_ret ?_
      refine t_ret ?_
      exact post_ret [4] rfl (.int .i64 ((k : Nat) : Int)) rfl ⟨(ret_int (ix_yes 0 hq (by omega) (by assumption))), hE3⟩
  ·
    refine q_lss false rfl rfl (decide_eq_false hc2) up_none ?_
    refine lw_nil ?_
    refine wp_seq ?_
    refine c_cond_f rfl ?_
    refine wp_exit ?_
    refine t_exit ?_
    refine t_exit ?_
    refine c_exit_here ?_
    refine wp_seq ?_
    refine wp_plain _ [0] rfl ?_
    refine q_assign (.int .i64 (-1)) rfl up_none ?_
    refine lw_nil ?_
    refine wp_ret ?_
    exact post_ret [4] rfl (.int .i64 (-1)) rfl ⟨(ret_int (ix_no 0 hq (by omega))), hE1⟩

/- slices.IndexFunc[[][]int64,[]int64] -/
set_option maxHeartbeats 4000000 in
set_option maxRecDepth 100000 in
theorem c_slices_IndexFunc_____int64___int64_ (w : World) (va : Value) (a : List (List Int)) (q : Nat) (qf qc : List Value) (p : List Int → Bool) (ha : Rd (rdL (rdL rI)) w.heap va a) (hcf_q : ((Try.prog.funcs[q]?).map fun fn => (fn.name != "runtime.NumGoroutine") && fn.body.isSome) = some true) (hp : ∀ (u : Value) (x : List Int) w1, Rd (rdL rI) w1.heap u x → Ext w w1 → Calls Try.prog q (qf ++ [u] ++ qc).toArray w1 (fun e w2 => e = .returned (.bool (p x)) ∧ Ext w1 w2))  :
    Calls Try.prog 120 #[va, .func (.func q) qf.toArray qc.toArray] w (fun e w' => e = .returned (.int .i64 (ixF p a)) ∧ Ext w w') := by
  refine calls_mk [va, .func (.func q) qf.toArray qc.toArray] 19 Try.func120 rfl rfl (by simp) ?_
  have hE0 : Ext w w := Ext.refl w
  have hl_va := ha.lenle
  refine wp_seq ?_
  refine wp_plain _ [0] rfl ?_
  refine q_assign (.int .i64 ((0 : Nat) : Int)) rfl up_none ?_
  refine lw_nil ?_
  refine wp_seq ?_
  refine wp_seq ?_
  refine wp_plain _ [0, 0, 0] rfl ?_
  refine q_move va rfl up_none ?_
  refine q_len (v := va) u22 rfl ha.isSl up_none ?_
  refine q_move (.int .i64 ((0 : Nat) : Int)) rfl up_none ?_
  refine lw_nil ?_
  refine wp_block ?_
  refine c_loop (S := Nat) (fun (k : Nat) => ([(8, (.int .i64 ((k : Nat) : Int))), (0, va), (1, (.func (.func q) qf.toArray qc.toArray)), (7, (.int .i64 ((a.length : Nat) : Int)))] : List (Nat × Value))) (fun (k : Nat) (W : World) => Ext w W ∧ k ≤ a.length ∧ (∀ j, j < k → p (a.getD j []) = false)) (fun (k : Nat) => a.length - k) 0 ⟨rfl, rfl, rfl, rfl, trivial⟩ ⟨hE0, (by first | omega | assumption | (simp only [List.length_nil, List.length_cons, List.length_append, List.length_set, List.length_replicate]; omega) | (simp [List.length_nil, List.length_cons, List.length_append, List.length_set, List.length_replicate]; done) | (simp [List.length_nil, List.length_cons, List.length_append, List.length_set, List.length_replicate]; omega)), (by intro j hj; omega)⟩ ?_
  clear hE0
  rintro k ρ1 w1 ⟨hE1, hp1_0, hq⟩
  have hzs1 : w.heap.size ≤ w1.heap.size := hE1.size
  refine wp_seq ?_
  refine wp_plain _ [0] rfl ?_
  by_cases hc2 : ((k : Nat) : Int) < ((a.length : Nat) : Int)
  ·
    refine q_lss true rfl rfl (decide_eq_true hc2) up_none ?_
    refine lw_nil ?_
    refine wp_seq ?_
    refine c_cond_t rfl ?_
    refine wp_skip ?_
    refine wp_seq ?_
    refine wp_block ?_
    refine wp_seq ?_
    refine wp_plain _ [0, 0] rfl ?_
    refine q_move (.int .i64 ((k : Nat) : Int)) rfl up_none ?_
    refine q_assign (.int .i64 ((k : Nat) : Int)) rfl up_none ?_
    refine lw_nil ?_
    refine wp_seq ?_
    refine wp_plain _ [0, 0, 0, 0, 2, 3] rfl ?_
    refine q_move (.func (.func q) qf.toArray qc.toArray) rfl up_none ?_
    refine q_move va rfl up_none ?_
    refine q_move (.int .i64 ((k : Nat) : Int)) rfl up_none ?_
    refine q_idx (v := va) k u22 ti29 rfl rfl ha.isSl rfl (by first | omega | assumption | (simp only [List.length_nil, List.length_cons, List.length_append, List.length_set, List.length_replicate]; omega) | (simp [List.length_nil, List.length_cons, List.length_append, List.length_set, List.length_replicate]; done) | (simp [List.length_nil, List.length_cons, List.length_append, List.length_set, List.length_replicate]; omega)) up_none ?_
    obtain ⟨ue3, hl3, hd3⟩ := ha.get (k := k) [] (by first | omega | assumption | (simp only [List.length_nil, List.length_cons, List.length_append, List.length_set, List.length_replicate]; omega) | (simp [List.length_nil, List.length_cons, List.length_append, List.length_set, List.length_replicate]; done) | (simp [List.length_nil, List.length_cons, List.length_append, List.length_set, List.length_replicate]; omega))
    have hln3 := hd3.lenle
    refine q_load (p := eptr va k 1) (.inr rfl) ue3 one29 rfl (ldH_ext hE1 hl3) up_none ?_
    have hcall4 := hp _ _ _ (hd3.ext g1 hE1) hE1
    refine lw_call q qf qc _ rfl rfl hcf_q up_none hcall4 ?_
    rintro e4 w4 ⟨rfl, hX4⟩
    refine ⟨_, rfl, hX4, ?_⟩
    have hzs4 : w1.heap.size ≤ w4.heap.size := hX4.size
    have hE4 : Ext w w4 := hE1.trans hX4
    cases hc4 : p (a.getD k [])
    ·
      refine lw_nil ?_
      refine c_cond_f rfl ?_
      refine wp_skip ?_
      refine wp_plain _ [0, 0] rfl ?_
      refine q_add ((k + 1 : Nat) : Int) rfl rfl (w64n (by omega) (by first | omega | assumption | (simp only [List.length_nil, List.length_cons, List.length_append, List.length_set, List.length_replicate]; omega) | (simp [List.length_nil, List.length_cons, List.length_append, List.length_set, List.length_replicate]; done) | (simp [List.length_nil, List.length_cons, List.length_append, List.length_set, List.length_replicate]; omega))) up_none ?_
      refine q_move (.int .i64 ((k + 1 : Nat) : Int)) rfl up_none ?_
      refine lw_nil ?_
      exact ⟨(k + 1), _, rfl, ⟨rfl, rfl, rfl, rfl, trivial⟩, ⟨hE4, (by first | omega | assumption | (simp only [List.length_nil, List.length_cons, List.length_append, List.length_set, List.length_replicate]; omega) | (simp [List.length_nil, List.length_cons, List.length_append, List.length_set, List.length_replicate]; done) | (simp [List.length_nil, List.length_cons, List.length_append, List.length_set, List.length_replicate]; omega)), (by exact ix_step hq (by assumption))⟩, by first | omega | (dsimp only; omega)⟩
    ·
      refine lw_nil ?_
      refine c_cond_t rfl ?_
      refine wp_seq ?_
      refine wp_plain _ [0, 0] rfl ?_
      refine q_move (.int .i64 ((k : Nat) : Int)) rfl up_none ?_
      refine q_assign (.int .i64 ((k : Nat) : Int)) rfl up_none ?_
      refine lw_nil ?_
      refine wp_ret ?_
      refine b_ret ?_
      refine t_ret ?_
      refine t_ret ?_
      refine b_ret ?_
      refine t_ret ?_
      exact post_ret [4] rfl (.int .i64 ((k : Nat) : Int)) rfl ⟨(ret_int (ix_yes [] hq (by omega) (by assumption))), hE4⟩
  ·
    refine q_lss false rfl rfl (decide_eq_false hc2) up_none ?_
    refine lw_nil ?_
    refine wp_seq ?_
    refine c_cond_f rfl ?_
    refine wp_exit ?_
    refine t_exit ?_
    refine t_exit ?_
    refine c_exit_here ?_
    refine wp_seq ?_
    refine wp_plain _ [0] rfl ?_
    refine q_assign (.int .i64 (-1)) rfl up_none ?_
    refine lw_nil ?_
    refine wp_ret ?_
    exact post_ret [4] rfl (.int .i64 (-1)) rfl ⟨(ret_int (ix_no [] hq (by omega))), hE1⟩

/- slices.ContainsFunc[[]int64,int64] -/
set_option maxHeartbeats 4000000 in
set_option maxRecDepth 100000 in
theorem c_slices_ContainsFunc___int64_int64_ (w : World) (va : Value) (a : List Int) (q : Nat) (qf qc : List Value) (p : Int → Bool) (ha : Rd (rdL rI) w.heap va a) (hcf_q : ((Try.prog.funcs[q]?).map fun fn => (fn.name != "runtime.NumGoroutine") && fn.body.isSome) = some true) (hp : ∀ (x : Int), -9223372036854775808 ≤ x ∧ x ≤ 9223372036854775807 → ∀ w1, Ext w w1 → Calls Try.prog q (qf ++ [Value.int .i64 x] ++ qc).toArray w1 (fun e w2 => e = .returned (.bool (p x)) ∧ Ext w1 w2))  :
    Calls Try.prog 101 #[va, .func (.func q) qf.toArray qc.toArray] w (fun e w' => e = .returned (.bool (a.any p)) ∧ Ext w w') := by
  refine calls_mk [va, .func (.func q) qf.toArray qc.toArray] 9 Try.func101 rfl rfl (by simp) ?_
  have hE0 : Ext w w := Ext.refl w
  have hl_va := ha.lenle
  refine wp_seq ?_
  refine wp_plain _ [0] rfl ?_
  refine q_assign (.bool false) rfl up_none ?_
  refine lw_nil ?_
  refine wp_seq ?_
  refine wp_plain _ [0, 0, 3, 0, 0] rfl ?_
  refine q_move va rfl up_none ?_
  refine q_move (.func (.func q) qf.toArray qc.toArray) rfl up_none ?_
  refine lw_call 122 [] [] [va, (.func (.func q) qf.toArray qc.toArray)] rfl rfl cf122 up_none (c_slices_IndexFunc___int64_int64_ _ _ _ q qf qc p (ha.ext g1 hE0) hcf_q (fun x hx w1 hw => hp x hx w1 (hE0.trans hw))) ?_
  rintro e1 w1 ⟨rfl, hX1⟩
  refine ⟨_, rfl, hX1, ?_⟩
  have hzs1 : w.heap.size ≤ w1.heap.size := hX1.size
  have hE1 : Ext w w1 := hE0.trans hX1
  refine q_geq (decide (((0 : Nat) : Int) ≤ ixF p a)) rfl rfl rfl up_none ?_
  refine q_assign (.bool (decide (((0 : Nat) : Int) ≤ ixF p a))) rfl up_none ?_
  refine lw_nil ?_
  refine wp_ret ?_
  exact post_ret [4] rfl (.bool (decide (((0 : Nat) : Int) ≤ ixF p a))) rfl ⟨(ret_bool (ix_ge p a)), hE1⟩

/- slices.ContainsFunc[[][]int64,[]int64] -/
set_option maxHeartbeats 4000000 in
set_option maxRecDepth 100000 in
theorem c_slices_ContainsFunc_____int64___int64_ (w : World) (va : Value) (a : List (List Int)) (q : Nat) (qf qc : List Value) (p : List Int → Bool) (ha : Rd (rdL (rdL rI)) w.heap va a) (hcf_q : ((Try.prog.funcs[q]?).map fun fn => (fn.name != "runtime.NumGoroutine") && fn.body.isSome) = some true) (hp : ∀ (u : Value) (x : List Int) w1, Rd (rdL rI) w1.heap u x → Ext w w1 → Calls Try.prog q (qf ++ [u] ++ qc).toArray w1 (fun e w2 => e = .returned (.bool (p x)) ∧ Ext w1 w2))  :
    Calls Try.prog 96 #[va, .func (.func q) qf.toArray qc.toArray] w (fun e w' => e = .returned (.bool (a.any p)) ∧ Ext w w') := by
  refine calls_mk [va, .func (.func q) qf.toArray qc.toArray] 9 Try.func96 rfl rfl (by simp) ?_
  have hE0 : Ext w w := Ext.refl w
  have hl_va := ha.lenle
  refine wp_seq ?_
  refine wp_plain _ [0] rfl ?_
  refine q_assign (.bool false) rfl up_none ?_
  refine lw_nil ?_
  refine wp_seq ?_
  refine wp_plain _ [0, 0, 3, 0, 0] rfl ?_
  refine q_move va rfl up_none ?_
  refine q_move (.func (.func q) qf.toArray qc.toArray) rfl up_none ?_
  refine lw_call 120 [] [] [va, (.func (.func q) qf.toArray qc.toArray)] rfl rfl cf120 up_none (c_slices_IndexFunc_____int64___int64_ _ _ _ q qf qc p (ha.ext g2 hE0) hcf_q (fun u x w1 hx hw => hp u x w1 hx (hE0.trans hw))) ?_
  rintro e1 w1 ⟨rfl, hX1⟩
  refine ⟨_, rfl, hX1, ?_⟩
  have hzs1 : w.heap.size ≤ w1.heap.size := hX1.size
  have hE1 : Ext w w1 := hE0.trans hX1
  refine q_geq (decide (((0 : Nat) : Int) ≤ ixF p a)) rfl rfl rfl up_none ?_
  refine q_assign (.bool (decide (((0 : Nat) : Int) ≤ ixF p a))) rfl up_none ?_
  refine lw_nil ?_
  refine wp_ret ?_
  exact post_ret [4] rfl (.bool (decide (((0 : Nat) : Int) ≤ ixF p a))) rfl ⟨(ret_bool (ix_ge p a)), hE1⟩

/- slices.Clone[[]int64,int64] -/
set_option maxHeartbeats 4000000 in
set_option maxRecDepth 100000 in
theorem c_slices_Clone___int64_int64_ (w : World) (va : Value) (a : List Int) (ha : Rd (rdL rI) w.heap va a) (hla : a.length ≤ 1000000000000) :
    Calls Try.prog 65 #[va] w (fun e w' => ∃ v0 : Value, e = .returned (v0) ∧ Ext w w' ∧ Fr (owL rI 2) w.heap.size w'.heap.size w'.heap v0 a) := by
  refine calls_mk [va] 8 Try.func65 rfl rfl (by simp) ?_
  have hE0 : Ext w w := Ext.refl w
  have hl_va := ha.lenle
  refine wp_seq ?_
  refine wp_plain _ [0] rfl ?_
  refine q_assign (.slice none 0 0) rfl up_none ?_
  refine lw_nil ?_
  refine wp_seq ?_
  refine wp_seq ?_
  refine wp_plain _ [0, 0] rfl ?_
  refine q_move va rfl up_none ?_
  cases hc1 : isNilV va
  ·
    refine q_nilq (v := va) false u29 rfl rfl ha.isSl hc1 up_none ?_
    refine lw_nil ?_
    refine c_cond_f rfl ?_
    refine wp_skip ?_
    refine wp_seq ?_
    refine wp_plain _ [3, 0, 4, 0] rfl ?_
    refine r_nil (rI) good_rI u29 ti2 up_none ?_
    intro v2 w2 hX2 hz2 hO2
    have hzs2 : w.heap.size ≤ w2.heap.size := hX2.size
    have hE2 : Ext w w2 := hE0.trans hX2
    refine q_move va rfl up_none ?_
    refine e_appI (v := v2) (a := va) u29 ti2 rfl rfl rfl hO2 hE2.size (ha.ext g1 hE2) (by first | omega | assumption | (simp only [List.length_nil, List.length_cons, List.length_append, List.length_set, List.length_replicate]; omega) | (simp [List.length_nil, List.length_cons, List.length_append, List.length_set, List.length_replicate]; done) | (simp [List.length_nil, List.length_cons, List.length_append, List.length_set, List.length_replicate]; omega)) (by unfold maxLen; first | omega | assumption | (simp only [List.length_nil, List.length_cons, List.length_append, List.length_set, List.length_replicate]; omega) | (simp [List.length_nil, List.length_cons, List.length_append, List.length_set, List.length_replicate]; done) | (simp [List.length_nil, List.length_cons, List.length_append, List.length_set, List.length_replicate]; omega)) up_none ?_
    intro v3 w3 F3 hC3 hF3 hO3
    have hE3 : Ext w w3 := hC3.below hE2 (fun c hc => Nat.le_trans (Nat.le_refl _) (hF3 c hc).1) hE2.size
    have hzs3 : w2.heap.size ≤ w3.heap.size := hC3.size
    refine q_assign v3 rfl up_none ?_
    refine lw_nil ?_
    refine wp_ret ?_
    exact post_ret [2] rfl v3 rfl ⟨v3, rfl, hE3, hO3.up o1⟩
  ·
    refine q_nilq (v := va) true u29 rfl rfl ha.isSl hc1 up_none ?_
    refine lw_nil ?_
    refine c_cond_t rfl ?_
    refine wp_seq ?_
    refine wp_plain _ [0] rfl ?_
    refine q_assign (.slice none 0 0) rfl up_none ?_
    refine lw_nil ?_
    refine wp_ret ?_
    refine t_ret ?_
    have hnil : a = [] := ha.nil_of (by assumption)
    subst hnil
    exact post_ret [2] rfl (.slice none 0 0) rfl ⟨(.slice none 0 0), rfl, hE0, frNil _ _ _⟩

/- impl.areNumbers -/
set_option maxHeartbeats 4000000 in
set_option maxRecDepth 100000 in
theorem c_impl_areNumbers (w : World) (va : Value) (a : List Int) (count : Int) (ha : Rd (rdL rI) w.heap va a) (_hcount : -9223372036854775808 ≤ count ∧ count ≤ 9223372036854775807)  :
    Calls Try.prog 62 #[va, .int .i64 count] w (fun e w' => e = .returned (.bool (decide (((a.length : Nat) : Int) = count) && allN a)) ∧ Ext w w') := by
  refine calls_mk [va, .int .i64 count] 14 Try.func62 rfl rfl (by simp) ?_
  have hE0 : Ext w w := Ext.refl w
  have hl_va := ha.lenle
  refine wp_seq ?_
  refine wp_plain _ [0] rfl ?_
  refine q_assign (.bool false) rfl up_none ?_
  refine lw_nil ?_
  refine wp_seq ?_
  refine wp_plain _ [0, 0, 0, 0, 0, 0, 3, 0, 0, 0] rfl ?_
  refine q_move va rfl up_none ?_
  refine q_len (v := va) u29 rfl ha.isSl up_none ?_
  refine q_move (.int .i64 count) rfl up_none ?_
  by_cases hc1 : ((a.length : Nat) : Int) = count
  ·
    refine q_eql true rfl rfl (decide_eq_true hc1) up_none ?_
    refine q_move (.bool true) rfl up_none ?_
    refine q_move va rfl (up_some (e := 9) rfl rfl rfl) ?_
    refine lw_call 101 [] [] [va, (.func (.func 102) #[] #[])] rfl rfl cf101 (up_some (e := 9) rfl rfl rfl) (c_slices_ContainsFunc___int64_int64_ _ _ _ 102 [] [] (fun x => !isN x) (ha.ext g1 hE0) cf102 (fun x hx w1 hw => c_impl_areNumbers_1 w1 x hx)) ?_
    rintro e2 w2 ⟨rfl, hX2⟩
    refine ⟨_, rfl, hX2, ?_⟩
    have hzs2 : w.heap.size ≤ w2.heap.size := hX2.size
    have hE2 : Ext w w2 := hE0.trans hX2
    refine q_not (!(a.any (fun x => !isN x))) rfl rfl (up_some (e := 9) rfl rfl rfl) ?_
    refine q_pick true (.bool (!(a.any (fun x => !isN x)))) rfl rfl up_none ?_
    refine q_assign (.bool (!(a.any (fun x => !isN x)))) rfl up_none ?_
    refine lw_nil ?_
    refine wp_ret ?_
    exact post_ret [4] rfl (.bool (!(a.any (fun x => !isN x)))) rfl ⟨(ret_bool (by first | (rw [any_not]; simp [*]; done) | simp [*])), hE2⟩
  ·
    refine q_eql false rfl rfl (decide_eq_false hc1) up_none ?_
    refine q_move (.bool false) rfl up_none ?_
    refine lw_skip (e := 9) (c := false) rfl rfl rfl rfl ?_
    refine lw_skip (e := 9) (c := false) rfl rfl rfl rfl ?_
    refine lw_skip (e := 9) (c := false) rfl rfl rfl rfl ?_
    refine q_pick false (.bool false) rfl rfl up_none ?_
    refine q_assign (.bool false) rfl up_none ?_
    refine lw_nil ?_
    refine wp_ret ?_
    exact post_ret [4] rfl (.bool false) rfl ⟨(ret_bool (by first | (rw [any_not]; simp [*]; done) | simp [*])), hE0⟩

/- impl.isSquare$1 -/
set_option maxHeartbeats 4000000 in
set_option maxRecDepth 100000 in
theorem c_impl_isSquare_1 (w : World) (vr : Value) (r : List Int) (g : Nat) (gv : Value) (a : List (List Int)) (hr : Rd (rdL rI) w.heap vr r) (hca : ldH w.heap (.pointer (some ⟨g, 0, none⟩)) = some gv) (ha : Rd (rdL (rdL rI)) w.heap gv a)  :
    Calls Try.prog 97 #[vr, .pointer (some ⟨g, 0, none⟩)] w (fun e w' => e = .returned (.bool (!(decide (((r.length : Nat) : Int) = ((a.length : Nat) : Int)) && allN r))) ∧ Ext w w') := by
  refine calls_mk [vr, .pointer (some ⟨g, 0, none⟩)] 9 Try.func97 rfl rfl (by simp) ?_
  have hE0 : Ext w w := Ext.refl w
  have hl_vr := hr.lenle
  have hl_gv := ha.lenle
  refine wp_seq ?_
  refine wp_plain _ [0] rfl ?_
  refine q_assign (.bool false) rfl up_none ?_
  refine lw_nil ?_
  refine wp_seq ?_
  refine wp_plain _ [0, 2, 0, 3, 0, 0] rfl ?_
  refine q_move vr rfl up_none ?_
  refine q_load (.inr rfl) gv one22 rfl (ldH_ext hE0 hca) up_none ?_
  refine q_len (v := gv) u22 rfl ha.isSl up_none ?_
  refine lw_call 62 [] [] [vr, (.int .i64 ((a.length : Nat) : Int))] rfl rfl cf62 up_none (c_impl_areNumbers _ _ _ _ (hr.ext g1 hE0) (by omega)) ?_
  rintro e1 w1 ⟨rfl, hX1⟩
  refine ⟨_, rfl, hX1, ?_⟩
  have hzs1 : w.heap.size ≤ w1.heap.size := hX1.size
  have hE1 : Ext w w1 := hE0.trans hX1
  refine q_not (!(decide (((r.length : Nat) : Int) = ((a.length : Nat) : Int)) && allN r)) rfl rfl up_none ?_
  refine q_assign (.bool (!(decide (((r.length : Nat) : Int) = ((a.length : Nat) : Int)) && allN r))) rfl up_none ?_
  refine lw_nil ?_
  refine wp_ret ?_
  exact post_ret [3] rfl (.bool (!(decide (((r.length : Nat) : Int) = ((a.length : Nat) : Int)) && allN r))) rfl ⟨rfl, hE1⟩

/- impl.isSquare -/
theorem sq_any (a : List (List Int)) : (!a.any fun x => !(decide (((x.length : Nat) : Int) = ((a.length : Nat) : Int)) && allN x)) = a.all fun r => decide (r.length = a.length) && allN r := by
  rw [← List.all_eq_not_any_not]
  congr 1
  funext r
  congr 1
  exact decide_eq_decide.2 (by omega)

set_option maxHeartbeats 4000000 in
set_option maxRecDepth 100000 in
theorem c_impl_isSquare (w : World) (va : Value) (a : List (List Int)) (ha : Rd (rdL (rdL rI)) w.heap va a)  :
    Calls Try.prog 54 #[va] w (fun e w' => e = .returned (.bool (sqB a)) ∧ Ext w w') := by
  refine calls_mk [va] 12 Try.func54 rfl rfl (by simp) ?_
  have hE0 : Ext w w := Ext.refl w
  have hl_va := ha.lenle
  refine wp_seq ?_
  refine wp_plain _ [3, 0] rfl ?_
  refine r_box (u := va) rfl (isSl_cells ha.isSl).1 up_none ?_
  intro w1 hX1 hz1 hO1
  have hzs1 : w.heap.size ≤ w1.heap.size := hX1.size
  have hE1 : Ext w w1 := hE0.trans hX1
  refine q_assign (.bool false) rfl up_none ?_
  refine lw_nil ?_
  refine wp_seq ?_
  refine wp_plain _ [2, 0, 0, 0, 2, 0, 3, 0, 0, 0] rfl ?_
  refine q_load (.inr rfl) va one22 rfl hO1 up_none ?_
  refine q_len (v := va) u22 rfl ha.isSl up_none ?_
  by_cases hc2 : ((a.length : Nat) : Int) ≤ ((6 : Nat) : Int)
  ·
    refine q_leq true rfl rfl (decide_eq_true hc2) up_none ?_
    refine q_move (.bool true) rfl up_none ?_
    refine q_load (.inr rfl) va one22 rfl hO1 (up_some (e := 6) rfl rfl rfl) ?_
    refine q_func [] [(.pointer (some ⟨w.heap.size, 0, none⟩))] rfl rfl (up_some (e := 6) rfl rfl rfl) ?_
    refine lw_call 96 [] [] [va, (.func (.func 97) #[] #[(.pointer (some ⟨w.heap.size, 0, none⟩))])] rfl rfl cf96 (up_some (e := 6) rfl rfl rfl) (c_slices_ContainsFunc_____int64___int64_ _ _ _ 97 [] [(.pointer (some ⟨w.heap.size, 0, none⟩))] (fun x => !(decide (((x.length : Nat) : Int) = ((a.length : Nat) : Int)) && allN x)) (ha.ext g2 hE1) cf97 (fun u x w1 hx hw => c_impl_isSquare_1 w1 _ _ _ _ _ hx (ldH_ext hw hO1) ((ha.ext g2 hE1).ext g2 hw))) ?_
    rintro e3 w3 ⟨rfl, hX3⟩
    refine ⟨_, rfl, hX3, ?_⟩
    have hzs3 : w1.heap.size ≤ w3.heap.size := hX3.size
    have hE3 : Ext w w3 := hE1.trans hX3
    have hO1x3 := ldH_ext hX3 hO1
    refine q_not (!(a.any (fun x => !(decide (((x.length : Nat) : Int) = ((a.length : Nat) : Int)) && allN x)))) rfl rfl (up_some (e := 6) rfl rfl rfl) ?_
    refine q_pick true (.bool (!(a.any (fun x => !(decide (((x.length : Nat) : Int) = ((a.length : Nat) : Int)) && allN x))))) rfl rfl up_none ?_
    refine q_assign (.bool (!(a.any (fun x => !(decide (((x.length : Nat) : Int) = ((a.length : Nat) : Int)) && allN x))))) rfl up_none ?_
    refine lw_nil ?_
    refine wp_ret ?_
    exact post_ret [2] rfl (.bool (!(a.any (fun x => !(decide (((x.length : Nat) : Int) = ((a.length : Nat) : Int)) && allN x))))) rfl ⟨(ret_bool (by rw [sq_any]; unfold sqB; rw [decide_eq_true (show a.length ≤ 6 by omega)]; rfl)), hE3⟩
  ·
    refine q_leq false rfl rfl (decide_eq_false hc2) up_none ?_
    refine q_move (.bool false) rfl up_none ?_
    refine lw_skip (e := 6) (c := false) rfl rfl rfl rfl ?_
    refine lw_skip (e := 6) (c := false) rfl rfl rfl rfl ?_
    refine lw_skip (e := 6) (c := false) rfl rfl rfl rfl ?_
    refine lw_skip (e := 6) (c := false) rfl rfl rfl rfl ?_
    refine q_pick false (.bool false) rfl rfl up_none ?_
    refine q_assign (.bool false) rfl up_none ?_
    refine lw_nil ?_
    refine wp_ret ?_
    exact post_ret [2] rfl (.bool false) rfl ⟨(ret_bool (by unfold sqB; rw [decide_eq_false (show ¬ a.length ≤ 6 by omega)]; rfl)), hE1⟩

/- spec.l01Numbers -/
set_option maxHeartbeats 4000000 in
set_option maxRecDepth 100000 in
theorem c_spec_l01Numbers (w : World) (va : Value) (a : List Int) (ha : Rd (rdL rI) w.heap va a)  :
    Calls Try.prog 69 #[va] w (fun e w' => e = .returned (.bool (allN a)) ∧ Ext w w') := by
  refine calls_mk [va] 16 Try.func69 rfl rfl (by simp) ?_
  have hE0 : Ext w w := Ext.refl w
  have hl_va := ha.lenle
  refine wp_seq ?_
  refine wp_plain _ [0] rfl ?_
  refine q_assign (.bool false) rfl up_none ?_
  refine lw_nil ?_
  refine wp_seq ?_
  refine wp_seq ?_
  refine wp_plain _ [0] rfl ?_
  refine q_assign (.int .i64 ((0 : Nat) : Int)) rfl up_none ?_
  refine lw_nil ?_
  refine wp_block ?_
  refine c_loop (S := Nat) (fun (k : Nat) => ([(3, (.int .i64 ((k : Nat) : Int))), (0, va)] : List (Nat × Value))) (fun (k : Nat) (W : World) => Ext w W ∧ k ≤ a.length ∧ ((a.take k).all isN = true)) (fun (k : Nat) => a.length - k) 0 ⟨rfl, rfl, trivial⟩ ⟨hE0, (by first | omega | assumption | (simp only [List.length_nil, List.length_cons, List.length_append, List.length_set, List.length_replicate]; omega) | (simp [List.length_nil, List.length_cons, List.length_append, List.length_set, List.length_replicate]; done) | (simp [List.length_nil, List.length_cons, List.length_append, List.length_set, List.length_replicate]; omega)), (by exact all_none _ _)⟩ ?_
  clear hE0
  rintro k ρ1 w1 ⟨hE1, hp1_0, hq⟩
  have hzs1 : w.heap.size ≤ w1.heap.size := hE1.size
  refine wp_seq ?_
  refine wp_seq ?_
  refine wp_plain _ [0, 0, 0, 0] rfl ?_
  refine q_move (.int .i64 ((k : Nat) : Int)) rfl up_none ?_
  refine q_move va rfl up_none ?_
  refine q_len (v := va) u29 rfl ha.isSl up_none ?_
  by_cases hc2 : ((k : Nat) : Int) < ((a.length : Nat) : Int)
  ·
    refine q_lss true rfl rfl (decide_eq_true hc2) up_none ?_
    refine lw_nil ?_
    refine c_cond_t rfl ?_
    refine wp_skip ?_
    refine wp_seq ?_
    refine wp_block ?_
    refine wp_seq ?_
    refine wp_plain _ [0, 0, 0, 2, 0, 0] rfl ?_
    refine q_move va rfl up_none ?_
    refine q_move (.int .i64 ((k : Nat) : Int)) rfl up_none ?_
    refine q_idx (v := va) k u29 ti2 rfl rfl ha.isSl rfl (by first | omega | assumption | (simp only [List.length_nil, List.length_cons, List.length_append, List.length_set, List.length_replicate]; omega) | (simp [List.length_nil, List.length_cons, List.length_append, List.length_set, List.length_replicate]; done) | (simp [List.length_nil, List.length_cons, List.length_append, List.length_set, List.length_replicate]; omega)) up_none ?_
    refine q_load (p := eptr va k 1) (.inr rfl) (.int .i64 (a.getD k 0)) one2 rfl (ldH_ext hE1 (ha.getI (by first | omega | assumption | (simp only [List.length_nil, List.length_cons, List.length_append, List.length_set, List.length_replicate]; omega) | (simp [List.length_nil, List.length_cons, List.length_append, List.length_set, List.length_replicate]; done) | (simp [List.length_nil, List.length_cons, List.length_append, List.length_set, List.length_replicate]; omega))).1) up_none ?_
    refine lw_callq 107 [] [] [(.int .i64 (a.getD k 0))] rfl rfl cf107 up_none (.bool (isN (a.getD k 0))) (fun wq => c_spec_l01Number wq _ (ha.getI (by first | omega | assumption | (simp only [List.length_nil, List.length_cons, List.length_append, List.length_set, List.length_replicate]; omega) | (simp [List.length_nil, List.length_cons, List.length_append, List.length_set, List.length_replicate]; done) | (simp [List.length_nil, List.length_cons, List.length_append, List.length_set, List.length_replicate]; omega))).2) ?_
    refine q_not (!(isN (a.getD k 0))) rfl rfl up_none ?_
    refine lw_nil ?_
    cases hb4 : (!(isN (a.getD k 0)))
    ·
      refine c_cond_f (by first | rfl | (show Value.bool _ = _; rw [hb4])) ?_
      refine wp_skip ?_
      refine wp_plain _ [0, 0, 0] rfl ?_
      refine q_move (.int .i64 ((k : Nat) : Int)) rfl up_none ?_
      refine q_add ((k + 1 : Nat) : Int) rfl rfl (w64n (by omega) (by first | omega | assumption | (simp only [List.length_nil, List.length_cons, List.length_append, List.length_set, List.length_replicate]; omega) | (simp [List.length_nil, List.length_cons, List.length_append, List.length_set, List.length_replicate]; done) | (simp [List.length_nil, List.length_cons, List.length_append, List.length_set, List.length_replicate]; omega))) up_none ?_
      refine q_assign (.int .i64 ((k + 1 : Nat) : Int)) rfl up_none ?_
      refine lw_nil ?_
      exact ⟨(k + 1), _, rfl, ⟨rfl, rfl, trivial⟩, ⟨hE1, (by first | omega | assumption | (simp only [List.length_nil, List.length_cons, List.length_append, List.length_set, List.length_replicate]; omega) | (simp [List.length_nil, List.length_cons, List.length_append, List.length_set, List.length_replicate]; done) | (simp [List.length_nil, List.length_cons, List.length_append, List.length_set, List.length_replicate]; omega)), (by exact all_succ 0 hq (by omega) (by simpa using ‹(!isN (a.getD k 0)) = false›))⟩, by first | omega | (dsimp only; omega)⟩
    ·
      refine c_cond_t (by first | rfl | (show Value.bool _ = _; rw [hb4])) ?_
      refine wp_seq ?_
      refine wp_plain _ [0] rfl ?_
      refine q_assign (.bool false) rfl up_none ?_
      refine lw_nil ?_
      refine wp_ret ?_
      refine b_ret ?_
      refine t_ret ?_
      refine t_ret ?_
      refine b_ret ?_
      refine t_ret ?_
      exact post_ret [2] rfl (.bool false) rfl ⟨(ret_bool (all_fail (k := k) 0 (by omega) (by simpa using ‹(!isN (a.getD k 0)) = true›)).symm), hE1⟩
  ·
    refine q_lss false rfl rfl (decide_eq_false hc2) up_none ?_
    refine lw_nil ?_
    refine c_cond_f rfl ?_
    refine wp_exit ?_
    refine t_exit ?_
    refine t_exit ?_
    refine c_exit_here ?_
    refine wp_seq ?_
    refine wp_plain _ [0] rfl ?_
    refine q_assign (.bool true) rfl up_none ?_
    refine lw_nil ?_
    refine wp_ret ?_
    exact post_ret [2] rfl (.bool true) rfl ⟨(ret_bool (all_done hq (by omega)).symm), hE1⟩

/- spec.l00Own -/
set_option maxHeartbeats 4000000 in
set_option maxRecDepth 100000 in
theorem c_spec_l00Own (w : World) (va : Value) (a : List Int) (ha : Rd (rdL rI) w.heap va a) (hla : a.length ≤ 1000000000000) :
    Calls Try.prog 58 #[va] w (fun e w' => ∃ v0 : Value, e = .returned (v0) ∧ Ext w w' ∧ Fr (owL rI 2) w.heap.size w'.heap.size w'.heap v0 a) := by
  refine calls_mk [va] 6 Try.func58 rfl rfl (by simp) ?_
  have hE0 : Ext w w := Ext.refl w
  have hl_va := ha.lenle
  refine wp_seq ?_
  refine wp_plain _ [0] rfl ?_
  refine q_assign (.slice none 0 0) rfl up_none ?_
  refine lw_nil ?_
  refine wp_seq ?_
  refine wp_plain _ [3, 0, 4, 0] rfl ?_
  refine r_nil (rI) good_rI u29 ti2 up_none ?_
  intro v1 w1 hX1 hz1 hO1
  have hzs1 : w.heap.size ≤ w1.heap.size := hX1.size
  have hE1 : Ext w w1 := hE0.trans hX1
  refine q_move va rfl up_none ?_
  refine e_appI (v := v1) (a := va) u29 ti2 rfl rfl rfl hO1 hE1.size (ha.ext g1 hE1) (by first | omega | assumption | (simp only [List.length_nil, List.length_cons, List.length_append, List.length_set, List.length_replicate]; omega) | (simp [List.length_nil, List.length_cons, List.length_append, List.length_set, List.length_replicate]; done) | (simp [List.length_nil, List.length_cons, List.length_append, List.length_set, List.length_replicate]; omega)) (by unfold maxLen; first | omega | assumption | (simp only [List.length_nil, List.length_cons, List.length_append, List.length_set, List.length_replicate]; omega) | (simp [List.length_nil, List.length_cons, List.length_append, List.length_set, List.length_replicate]; done) | (simp [List.length_nil, List.length_cons, List.length_append, List.length_set, List.length_replicate]; omega)) up_none ?_
  intro v2 w2 F2 hC2 hF2 hO2
  have hE2 : Ext w w2 := hC2.below hE1 (fun c hc => Nat.le_trans (Nat.le_refl _) (hF2 c hc).1) hE1.size
  have hzs2 : w1.heap.size ≤ w2.heap.size := hC2.size
  refine q_assign v2 rfl up_none ?_
  refine lw_nil ?_
  refine wp_ret ?_
  exact post_ret [2] rfl v2 rfl ⟨v2, rfl, hE2, hO2.up o1⟩

/- spec.l07Own -/
set_option maxHeartbeats 4000000 in
set_option maxRecDepth 100000 in
theorem c_spec_l07Own (w : World) (va : Value) (a : List (List Int)) (ha : Rd (rdL (rdL rI)) w.heap va a) (hla : a.length ≤ 1000000000000) (hlr : ∀ k, (a.getD k []).length ≤ 1000000000000) :
    Calls Try.prog 93 #[va] w (fun e w' => ∃ v0 : Value, e = .returned (v0) ∧ Ext w w' ∧ Fr (owL (owL rI 2) 29) w.heap.size w'.heap.size w'.heap v0 a) := by
  refine calls_mk [va] 21 Try.func93 rfl rfl (by simp) ?_
  have hE0 : Ext w w := Ext.refl w
  have hl_va := ha.lenle
  refine wp_seq ?_
  refine wp_plain _ [0] rfl ?_
  refine q_assign (.slice none 0 0) rfl up_none ?_
  refine lw_nil ?_
  refine wp_seq ?_
  refine wp_plain _ [3, 0] rfl ?_
  refine r_nil (owL rI 2) o1 u22 ti29 up_none ?_
  intro v1 w1 hX1 hz1 hO1
  have hzs1 : w.heap.size ≤ w1.heap.size := hX1.size
  have hE1 : Ext w w1 := hE0.trans hX1
  refine q_assign v1 rfl up_none ?_
  refine lw_nil ?_
  refine wp_seq ?_
  refine wp_seq ?_
  refine wp_plain _ [0] rfl ?_
  refine q_assign (.int .i64 ((0 : Nat) : Int)) rfl up_none ?_
  refine lw_nil ?_
  refine wp_block ?_
  refine c_loop (S := Nat × Value) (fun (⟨k, vo⟩ : Nat × Value) => ([(3, vo), (4, (.int .i64 ((k : Nat) : Int))), (0, va)] : List (Nat × Value))) (fun (⟨k, vo⟩ : Nat × Value) (W : World) => Ext w W ∧ Fr (owL (owL rI 2) 29) w.heap.size W.heap.size W.heap vo (a.take k) ∧ k ≤ a.length) (fun (⟨k, vo⟩ : Nat × Value) => a.length - k) (0, v1) ⟨rfl, rfl, rfl, trivial⟩ ⟨hE1, hO1.up o2, (by first | omega | assumption | (simp only [List.length_nil, List.length_cons, List.length_append, List.length_set, List.length_replicate]; omega) | (simp [List.length_nil, List.length_cons, List.length_append, List.length_set, List.length_replicate]; done) | (simp [List.length_nil, List.length_cons, List.length_append, List.length_set, List.length_replicate]; omega))⟩ ?_
  clear hE0 hO1 hz1 hX1 hzs1 hE1
  rintro ⟨k, vo⟩ ρ2 w2 ⟨hE2, hL2_0, hp2_0⟩
  have hzs2 : w.heap.size ≤ w2.heap.size := hE2.size
  refine wp_seq ?_
  refine wp_seq ?_
  refine wp_plain _ [0, 0, 0, 0] rfl ?_
  refine q_move (.int .i64 ((k : Nat) : Int)) rfl up_none ?_
  refine q_move va rfl up_none ?_
  refine q_len (v := va) u22 rfl ha.isSl up_none ?_
  by_cases hc3 : ((k : Nat) : Int) < ((a.length : Nat) : Int)
  ·
    refine q_lss true rfl rfl (decide_eq_true hc3) up_none ?_
    refine lw_nil ?_
    refine c_cond_t rfl ?_
    refine wp_skip ?_
    refine wp_seq ?_
    refine wp_block ?_
    refine wp_plain _ [0, 0, 0, 0, 2, 3, 3, 4, 0] rfl ?_
    refine q_move vo rfl up_none ?_
    refine q_move va rfl up_none ?_
    refine q_move (.int .i64 ((k : Nat) : Int)) rfl up_none ?_
    refine q_idx (v := va) k u22 ti29 rfl rfl ha.isSl rfl (by first | omega | assumption | (simp only [List.length_nil, List.length_cons, List.length_append, List.length_set, List.length_replicate]; omega) | (simp [List.length_nil, List.length_cons, List.length_append, List.length_set, List.length_replicate]; done) | (simp [List.length_nil, List.length_cons, List.length_append, List.length_set, List.length_replicate]; omega)) up_none ?_
    obtain ⟨ue4, hl4, hd4⟩ := ha.get (k := k) [] (by first | omega | assumption | (simp only [List.length_nil, List.length_cons, List.length_append, List.length_set, List.length_replicate]; omega) | (simp [List.length_nil, List.length_cons, List.length_append, List.length_set, List.length_replicate]; done) | (simp [List.length_nil, List.length_cons, List.length_append, List.length_set, List.length_replicate]; omega))
    have hln4 := hd4.lenle
    refine q_load (p := eptr va k 1) (.inr rfl) ue4 one29 rfl (ldH_ext hE2 hl4) up_none ?_
    refine lw_call 58 [] [] [ue4] rfl rfl cf58 up_none (c_spec_l00Own _ _ _ (hd4.ext g1 hE2) (by exact hlr _)) ?_
    rintro e5 w5 ⟨v5_0, rfl, hX5, hO5_0⟩
    refine ⟨_, rfl, hX5, ?_⟩
    have hzs5 : w2.heap.size ≤ w5.heap.size := hX5.size
    have hE5 : Ext w w5 := hE2.trans hX5
    have hL2_0x5 := hL2_0.ext (o2) hX5
    refine r_one (u := v5_0) (B := w2.heap.size) o1 u22 ti29 rfl rfl hO5_0 (by first | exact Nat.le_refl _ | omega) up_none ?_
    intro v6 w6 hX6 hz6 hO6
    have hzs6 : w5.heap.size ≤ w6.heap.size := hX6.size
    have hE6 : Ext w w6 := hE5.trans hX6
    have hL2_0x6 := hL2_0x5.ext (o2) hX6
    refine e_appF o1 (v := vo) (a := v6) u22 ti29 rfl rfl rfl hL2_0x6 hE6.size hO6 (by omega) hE2.size (by first | omega | assumption | (simp only [List.length_nil, List.length_cons, List.length_append, List.length_set, List.length_replicate]; omega) | (simp [List.length_nil, List.length_cons, List.length_append, List.length_set, List.length_replicate]; done) | (simp [List.length_nil, List.length_cons, List.length_append, List.length_set, List.length_replicate]; omega)) (by unfold maxLen; first | omega | assumption | (simp only [List.length_nil, List.length_cons, List.length_append, List.length_set, List.length_replicate]; omega) | (simp [List.length_nil, List.length_cons, List.length_append, List.length_set, List.length_replicate]; done) | (simp [List.length_nil, List.length_cons, List.length_append, List.length_set, List.length_replicate]; omega)) up_none ?_
    intro v7 w7 F7 hC7 hF7 hO7
    have hE7 : Ext w w7 := hC7.below hE6 (fun c hc => Nat.le_trans (Nat.le_refl _) (hF7 c hc).1) hE6.size
    have hzs7 : w6.heap.size ≤ w7.heap.size := hC7.size
    refine q_assign v7 rfl up_none ?_
    refine lw_nil ?_
    refine wp_plain _ [0, 0, 0] rfl ?_
    refine q_move (.int .i64 ((k : Nat) : Int)) rfl up_none ?_
    refine q_add ((k + 1 : Nat) : Int) rfl rfl (w64n (by omega) (by first | omega | assumption | (simp only [List.length_nil, List.length_cons, List.length_append, List.length_set, List.length_replicate]; omega) | (simp [List.length_nil, List.length_cons, List.length_append, List.length_set, List.length_replicate]; done) | (simp [List.length_nil, List.length_cons, List.length_append, List.length_set, List.length_replicate]; omega))) up_none ?_
    refine q_assign (.int .i64 ((k + 1 : Nat) : Int)) rfl up_none ?_
    refine lw_nil ?_
    exact ⟨((k + 1), v7), _, rfl, ⟨rfl, rfl, rfl, trivial⟩, ⟨hE7, (by rw [take_snoc [] (by omega)]; exact hO7.up o2), (by first | omega | assumption | (simp only [List.length_nil, List.length_cons, List.length_append, List.length_set, List.length_replicate]; omega) | (simp [List.length_nil, List.length_cons, List.length_append, List.length_set, List.length_replicate]; done) | (simp [List.length_nil, List.length_cons, List.length_append, List.length_set, List.length_replicate]; omega))⟩, by first | omega | (dsimp only; omega)⟩
  ·
    refine q_lss false rfl rfl (decide_eq_false hc3) up_none ?_
    refine lw_nil ?_
    refine c_cond_f rfl ?_
    refine wp_exit ?_
    refine t_exit ?_
    refine t_exit ?_
    refine c_exit_here ?_
    refine wp_seq ?_
    refine wp_plain _ [0, 0] rfl ?_
    refine q_move vo rfl up_none ?_
    refine q_assign vo rfl up_none ?_
    refine lw_nil ?_
    refine wp_ret ?_
    exact post_ret [2] rfl vo rfl ⟨vo, rfl, hE2, (by have h := hL2_0.up o2; rwa [List.take_of_length_le (by omega)] at h)⟩
end Go.Proofs.Ytjgnlnlngcjfcaa
