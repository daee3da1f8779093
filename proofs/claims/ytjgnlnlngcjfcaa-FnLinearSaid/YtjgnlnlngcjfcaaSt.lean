/- Contracts of functions: each says what the function returns for all arguments that meet its premises. Printed by gen.py. -/
import Derived.Test.YtjgnlnlngcjfcaaMq
import Derived.Test.YtjgnlnlngcjfcaaT
import Derived.Test.YtjgnlnlngcjfcaaSa
import Derived.Test.YtjgnlnlngcjfcaaSb
import Derived.Test.YtjgnlnlngcjfcaaSc
import Derived.Test.YtjgnlnlngcjfcaaSk
import Derived.Test.YtjgnlnlngcjfcaaSm
import Derived.Test.YtjgnlnlngcjfcaaProg
namespace Go.Proofs.Ytjgnlnlngcjfcaa
open Go Go.RowKit
set_option linter.unusedVariables false
set_option linter.unusedSimpArgs false
attribute [local irreducible] LW
/- impl.ValidSeries -/
set_option maxHeartbeats 4000000 in
set_option maxRecDepth 100000 in
theorem c_impl_ValidSeries (w : World) (va : Value) (a : List Int) (ha : Rd (rdL rI) w.heap va a)  :
    Calls Try.prog 92 #[va] w (fun e w' => e = .returned (.bool (okS a)) ∧ Ext w w') := by
  refine calls_mk [va] 12 Try.func92 rfl rfl (by simp) ?_
  have hE0 : Ext w w := Ext.refl w
  have hl_va := ha.lenle
  refine wp_seq ?_
  refine wp_plain _ [0] rfl ?_
  refine q_assign (.bool false) rfl up_none ?_
  refine lw_nil ?_
  refine wp_seq ?_
  refine wp_plain _ [0, 0, 0, 0, 0, 0, 0, 3, 0, 0] rfl ?_
  refine q_move va rfl up_none ?_
  refine q_len (v := va) u29 rfl ha.isSl up_none ?_
  refine lw_callq 104 [] [] [(.int .i64 ((a.length : Nat) : Int)), (.int .i64 ((1 : Nat) : Int)), (.int .i64 ((13 : Nat) : Int))] rfl rfl cf104 up_none (.bool (decide (((1 : Nat) : Int) ≤ ((a.length : Nat) : Int)) && decide (((a.length : Nat) : Int) ≤ ((13 : Nat) : Int)))) (fun wq => c_impl_within wq _ _ _ (by omega) (by omega) (by omega)) ?_
  refine q_move (.bool (decide (((1 : Nat) : Int) ≤ ((a.length : Nat) : Int)) && decide (((a.length : Nat) : Int) ≤ ((13 : Nat) : Int)))) rfl up_none ?_
  cases hb2 : (decide (((1 : Nat) : Int) ≤ ((a.length : Nat) : Int)) && decide (((a.length : Nat) : Int) ≤ ((13 : Nat) : Int)))
  ·
    refine lw_skip (e := 6) (c := false) rfl rfl rfl rfl ?_
    refine lw_skip (e := 6) (c := false) rfl rfl rfl rfl ?_
    refine lw_skip (e := 6) (c := false) rfl rfl rfl rfl ?_
    refine lw_skip (e := 6) (c := false) rfl rfl rfl rfl ?_
    refine q_pick false (.bool false) rfl rfl up_none ?_
    refine q_assign (.bool false) rfl up_none ?_
    refine lw_nil ?_
    refine wp_ret ?_
    exact post_ret [2] rfl (.bool false) rfl ⟨(ret_bool (by unfold okS; first | (rw [‹(decide (((1 : Nat) : Int) ≤ ((a.length : Nat) : Int)) && decide (((a.length : Nat) : Int) ≤ ((13 : Nat) : Int))) = false›]; rfl) | (rw [‹(decide (((1 : Nat) : Int) ≤ ((a.length : Nat) : Int)) && decide (((a.length : Nat) : Int) ≤ ((13 : Nat) : Int))) = true›]; simp))), hE0⟩
  ·
    refine q_move va rfl (up_some (e := 6) rfl rfl rfl) ?_
    refine q_move va rfl (up_some (e := 6) rfl rfl rfl) ?_
    refine q_len (v := va) u29 rfl ha.isSl (up_some (e := 6) rfl rfl rfl) ?_
    refine lw_call 62 [] [] [va, (.int .i64 ((a.length : Nat) : Int))] rfl rfl cf62 (up_some (e := 6) rfl rfl rfl) (c_impl_areNumbers _ _ _ _ (ha.ext g1 hE0) (by omega)) ?_
    rintro e3 w3 ⟨rfl, hX3⟩
    refine ⟨_, rfl, hX3, ?_⟩
    have hzs3 : w.heap.size ≤ w3.heap.size := hX3.size
    have hE3 : Ext w w3 := hE0.trans hX3
    refine q_pick true (.bool (decide (((a.length : Nat) : Int) = ((a.length : Nat) : Int)) && allN a)) rfl rfl up_none ?_
    refine q_assign (.bool (decide (((a.length : Nat) : Int) = ((a.length : Nat) : Int)) && allN a)) rfl up_none ?_
    refine lw_nil ?_
    refine wp_ret ?_
    exact post_ret [2] rfl (.bool (decide (((a.length : Nat) : Int) = ((a.length : Nat) : Int)) && allN a)) rfl ⟨(ret_bool (by unfold okS; first | (rw [‹(decide (((1 : Nat) : Int) ≤ ((a.length : Nat) : Int)) && decide (((a.length : Nat) : Int) ≤ ((13 : Nat) : Int))) = false›]; rfl) | (rw [‹(decide (((1 : Nat) : Int) ≤ ((a.length : Nat) : Int)) && decide (((a.length : Nat) : Int) ≤ ((13 : Nat) : Int))) = true›]; simp))), hE3⟩

/- impl.areArgs -/
set_option maxHeartbeats 4000000 in
set_option maxRecDepth 100000 in
theorem c_impl_areArgs (w : World) (va : Value) (a : List (List Int)) (n : Int) (ha : Rd (rdL (rdL rI)) w.heap va a) (_hn : -9223372036854775808 ≤ n ∧ n ≤ 9223372036854775807)  :
    Calls Try.prog 82 #[va, .int .i64 n] w (fun e w' => e = .returned (.bool (argB a && decide (((a.length : Nat) : Int) = n))) ∧ Ext w w') := by
  refine calls_mk [va, .int .i64 n] 30 Try.func82 rfl rfl (by simp) ?_
  have hE0 : Ext w w := Ext.refl w
  have hl_va := ha.lenle
  refine wp_seq ?_
  refine wp_plain _ [0] rfl ?_
  refine q_assign (.bool false) rfl up_none ?_
  refine lw_nil ?_
  refine wp_seq ?_
  refine wp_seq ?_
  refine wp_plain _ [0, 0, 0] rfl ?_
  refine q_move va rfl up_none ?_
  refine q_len (v := va) u22 rfl ha.isSl up_none ?_
  refine q_move (.int .i64 ((0 : Nat) : Int)) rfl up_none ?_
  refine lw_nil ?_
  refine wp_block ?_
  refine c_loop (S := Nat) (fun (k : Nat) => ([(9, (.int .i64 ((k : Nat) : Int))), (0, va), (1, (.int .i64 n)), (7, va), (8, (.int .i64 ((a.length : Nat) : Int)))] : List (Nat × Value))) (fun (k : Nat) (W : World) => Ext w W ∧ k ≤ a.length ∧ ((a.take k).all (serB (a.getD 0 []).length) = true)) (fun (k : Nat) => a.length - k) 0 ⟨rfl, rfl, rfl, rfl, rfl, trivial⟩ ⟨hE0, (by first | omega | assumption | (simp only [List.length_nil, List.length_cons, List.length_append, List.length_set, List.length_replicate]; omega) | (simp [List.length_nil, List.length_cons, List.length_append, List.length_set, List.length_replicate]; done) | (simp [List.length_nil, List.length_cons, List.length_append, List.length_set, List.length_replicate]; omega)), (by exact rfl)⟩ ?_
  clear hE0
  rintro k ρ1 w1 ⟨hE1, hp1_0, hq⟩
  have hzs1 : w.heap.size ≤ w1.heap.size := hE1.size
  refine wp_seq ?_
  refine wp_plain _ [0] rfl ?_
  by_cases hc2 : ((k : Nat) : Int) < ((a.length : Nat) : Int)
  ·
    refine q_lss true rfl rfl (decide_eq_true hc2) up_none ?_
    refine lw_nil ?_
    refine wp_seq ?_
    refine c_cond_t rfl ?_
    refine wp_skip ?_
    refine wp_seq ?_
    refine wp_block ?_
    refine wp_seq ?_
    refine wp_plain _ [0, 2, 0] rfl ?_
    refine q_idx (v := va) k u22 ti29 rfl rfl ha.isSl rfl (by first | omega | assumption | (simp only [List.length_nil, List.length_cons, List.length_append, List.length_set, List.length_replicate]; omega) | (simp [List.length_nil, List.length_cons, List.length_append, List.length_set, List.length_replicate]; done) | (simp [List.length_nil, List.length_cons, List.length_append, List.length_set, List.length_replicate]; omega)) up_none ?_
    obtain ⟨ue3, hl3, hd3⟩ := ha.get (k := k) [] (by first | omega | assumption | (simp only [List.length_nil, List.length_cons, List.length_append, List.length_set, List.length_replicate]; omega) | (simp [List.length_nil, List.length_cons, List.length_append, List.length_set, List.length_replicate]; done) | (simp [List.length_nil, List.length_cons, List.length_append, List.length_set, List.length_replicate]; omega))
    have hln3 := hd3.lenle
    refine q_load (p := eptr va k 1) (.inr rfl) ue3 one29 rfl (ldH_ext hE1 hl3) up_none ?_
    refine q_assign ue3 rfl up_none ?_
    refine lw_nil ?_
    refine wp_seq ?_
    refine wp_plain _ [0, 3, 0, 0, 0, 0, 0, 0, 2, 0, 0, 0] rfl ?_
    refine q_move ue3 rfl up_none ?_
    refine lw_call 92 [] [] [ue3] rfl rfl cf92 up_none (c_impl_ValidSeries _ _ _ (hd3.ext g1 hE1)) ?_
    rintro e4 w4 ⟨rfl, hX4⟩
    refine ⟨_, rfl, hX4, ?_⟩
    have hzs4 : w1.heap.size ≤ w4.heap.size := hX4.size
    have hE4 : Ext w w4 := hE1.trans hX4
    refine q_not (!(okS (a.getD k []))) rfl rfl up_none ?_
    refine q_move (.bool (!(okS (a.getD k [])))) rfl up_none ?_
    cases hb5 : (!(okS (a.getD k [])))
    ·
      refine q_move ue3 rfl (up_some (e := 16) rfl rfl rfl) ?_
      refine q_len (v := ue3) u29 rfl hd3.isSl (up_some (e := 16) rfl rfl rfl) ?_
      refine q_move va rfl (up_some (e := 16) rfl rfl rfl) ?_
      refine q_idx (v := va) 0 u22 ti29 rfl rfl ha.isSl rfl (by first | omega | assumption | (simp only [List.length_nil, List.length_cons, List.length_append, List.length_set, List.length_replicate]; omega) | (simp [List.length_nil, List.length_cons, List.length_append, List.length_set, List.length_replicate]; done) | (simp [List.length_nil, List.length_cons, List.length_append, List.length_set, List.length_replicate]; omega)) (up_some (e := 16) rfl rfl rfl) ?_
      obtain ⟨ue6, hl6, hd6⟩ := ha.get (k := 0) [] (by first | omega | assumption | (simp only [List.length_nil, List.length_cons, List.length_append, List.length_set, List.length_replicate]; omega) | (simp [List.length_nil, List.length_cons, List.length_append, List.length_set, List.length_replicate]; done) | (simp [List.length_nil, List.length_cons, List.length_append, List.length_set, List.length_replicate]; omega))
      have hln6 := hd6.lenle
      refine q_load (p := eptr va 0 1) (.inr rfl) ue6 one29 rfl (ldH_ext hE4 hl6) (up_some (e := 16) rfl rfl rfl) ?_
      refine q_len (v := ue6) u29 rfl hd6.isSl (up_some (e := 16) rfl rfl rfl) ?_
      by_cases hc7 : (((a.getD k []).length : Nat) : Int) ≠ (((a.getD 0 []).length : Nat) : Int)
      ·
        refine q_neq true rfl rfl (decide_eq_true hc7) (up_some (e := 16) rfl rfl rfl) ?_
        refine q_pick false (.bool true) rfl rfl up_none ?_
        refine lw_nil ?_
        refine c_cond_t rfl ?_
        refine wp_seq ?_
        refine wp_plain _ [0] rfl ?_
        refine q_assign (.bool false) rfl up_none ?_
        refine lw_nil ?_
        refine wp_ret ?_
        refine b_ret ?_
        refine t_ret ?_
        refine t_ret ?_
        refine b_ret ?_
        refine t_ret ?_
        exact post_ret [4] rfl (.bool false) rfl ⟨(ret_bool (by unfold argB; rw [all_fail (f := serB (a.getD 0 []).length) (k := k) [] (by omega) (by unfold serB; rw [Bool.and_eq_false_iff]; right; exact decide_eq_false (by omega))]; rfl)), hE4⟩
      ·
        refine q_neq false rfl rfl (decide_eq_false hc7) (up_some (e := 16) rfl rfl rfl) ?_
        refine q_pick false (.bool false) rfl rfl up_none ?_
        refine lw_nil ?_
        refine c_cond_f rfl ?_
        refine wp_skip ?_
        refine wp_plain _ [0, 0] rfl ?_
        refine q_add ((k + 1 : Nat) : Int) rfl rfl (w64n (by omega) (by first | omega | assumption | (simp only [List.length_nil, List.length_cons, List.length_append, List.length_set, List.length_replicate]; omega) | (simp [List.length_nil, List.length_cons, List.length_append, List.length_set, List.length_replicate]; done) | (simp [List.length_nil, List.length_cons, List.length_append, List.length_set, List.length_replicate]; omega))) up_none ?_
        refine q_move (.int .i64 ((k + 1 : Nat) : Int)) rfl up_none ?_
        refine lw_nil ?_
        exact ⟨(k + 1), _, rfl, ⟨rfl, rfl, rfl, rfl, rfl, trivial⟩, ⟨hE4, (by first | omega | assumption | (simp only [List.length_nil, List.length_cons, List.length_append, List.length_set, List.length_replicate]; omega) | (simp [List.length_nil, List.length_cons, List.length_append, List.length_set, List.length_replicate]; done) | (simp [List.length_nil, List.length_cons, List.length_append, List.length_set, List.length_replicate]; omega)), (by exact all_succ (f := serB (a.getD 0 []).length) [] hq (by omega) (by unfold serB; simp only [Bool.and_eq_true, decide_eq_true_eq]; exact ⟨by simpa using ‹(!okS (a.getD k [])) = false›, by omega⟩))⟩, by first | omega | (dsimp only; omega)⟩
    ·
      refine lw_skip (e := 16) (c := true) rfl rfl rfl rfl ?_
      refine lw_skip (e := 16) (c := true) rfl rfl rfl rfl ?_
      refine lw_skip (e := 16) (c := true) rfl rfl rfl rfl ?_
      refine lw_skip (e := 16) (c := true) rfl rfl rfl rfl ?_
      refine lw_skip (e := 16) (c := true) rfl rfl rfl rfl ?_
      refine lw_skip (e := 16) (c := true) rfl rfl rfl rfl ?_
      refine lw_skip (e := 16) (c := true) rfl rfl rfl rfl ?_
      refine q_pick true (.bool true) rfl rfl up_none ?_
      refine lw_nil ?_
      refine c_cond_t rfl ?_
      refine wp_seq ?_
      refine wp_plain _ [0] rfl ?_
      refine q_assign (.bool false) rfl up_none ?_
      refine lw_nil ?_
      refine wp_ret ?_
      refine b_ret ?_
      refine t_ret ?_
      refine t_ret ?_
      refine b_ret ?_
      refine t_ret ?_
      exact post_ret [4] rfl (.bool false) rfl ⟨(ret_bool (by unfold argB; rw [all_fail (f := serB (a.getD 0 []).length) (k := k) [] (by omega) (by unfold serB; rw [Bool.and_eq_false_iff]; left; simpa using ‹(!okS (a.getD k [])) = true›)]; rfl)), hE4⟩
  ·
    refine q_lss false rfl rfl (decide_eq_false hc2) up_none ?_
    refine lw_nil ?_
    refine wp_seq ?_
    refine c_cond_f rfl ?_
    refine wp_exit ?_
    refine t_exit ?_
    refine t_exit ?_
    refine c_exit_here ?_
    refine wp_seq ?_
    refine wp_plain _ [0, 0, 0, 0, 0] rfl ?_
    refine q_move va rfl up_none ?_
    refine q_len (v := va) u22 rfl ha.isSl up_none ?_
    refine q_move (.int .i64 n) rfl up_none ?_
    refine q_eql (decide (((a.length : Nat) : Int) = n)) rfl rfl rfl up_none ?_
    refine q_assign (.bool (decide (((a.length : Nat) : Int) = n))) rfl up_none ?_
    refine lw_nil ?_
    refine wp_ret ?_
    exact post_ret [4] rfl (.bool (decide (((a.length : Nat) : Int) = n))) rfl ⟨(ret_bool (by unfold argB; rw [all_done hq (by omega), Bool.true_and])), hE1⟩

/- impl.SolveSeries -/
theorem flat_snoc {a : List (List (List Int))} {b : List (List Int)} {k : Nat} (hk : k < a.length) : b ++ (a.take (k + 1)).flatten = (b ++ (a.take k).flatten) ++ a.getD k [] := by
  rw [take_snoc [] hk, List.flatten_append, List.flatten_cons, List.flatten_nil, List.append_nil, List.append_assoc]

set_option maxHeartbeats 4000000 in
set_option maxRecDepth 100000 in
theorem c_impl_SolveSeries (w : World) (va : Value) (a : List (List (List Int))) (vb : Value) (b : List (List Int)) (ha : Rd (rdL (rdL (rdL rI))) w.heap va a) (hb : Rd (rdL (rdL rI)) w.heap vb b) (hlb : b.length ≤ 1000000000000) :
    Calls Try.prog 34 #[va, vb] w (fun e w' => ∃ v0 : Value, e = .returned (.tuple #[v0, .int .i64 (ssC a b)]) ∧ Ext w w' ∧ Fr (owL (owL rI 2) 29) w.heap.size w'.heap.size w'.heap v0 (ssR a b)) := by
  refine calls_mk [va, vb] 52 Try.func34 rfl rfl (by simp) ?_
  have hE0 : Ext w w := Ext.refl w
  have hl_va := ha.lenle
  have hl_vb := hb.lenle
  refine wp_seq ?_
  refine wp_plain _ [0, 0] rfl ?_
  refine q_assign (.slice none 0 0) rfl up_none ?_
  refine q_assign (.int .i64 ((0 : Nat) : Int)) rfl up_none ?_
  refine lw_nil ?_
  refine wp_seq ?_
  refine wp_plain _ [0, 0, 0, 3, 0, 0] rfl ?_
  refine q_move va rfl up_none ?_
  refine q_len (v := va) u45 rfl ha.isSl up_none ?_
  refine q_move vb rfl up_none ?_
  obtain ⟨us, hus, hul, hur⟩ := hb.heads g1 []
  refine lw_call 81 [] [] [vb] rfl rfl cf81 up_none (c_slices_Clone_____int64___int64_ _ _ _ (hus.ext gV hE0) (by omega)) ?_
  rintro e1 w1 ⟨v1_0, rfl, hX1, hO1_0⟩
  refine ⟨_, rfl, hX1, ?_⟩
  have hzs1 : w.heap.size ≤ w1.heap.size := hX1.size
  have hE1 : Ext w w1 := hE0.trans hX1
  refine q_assign (.int .i64 ((a.length : Nat) : Int)) rfl up_none ?_
  refine q_assign v1_0 rfl up_none ?_
  refine lw_nil ?_
  refine wp_seq ?_
  refine wp_seq ?_
  refine wp_plain _ [0, 0, 0, 0, 0, 0, 0, 0] rfl ?_
  refine q_move (.int .i64 ((a.length : Nat) : Int)) rfl up_none ?_
  by_cases hc2 : ((6 : Nat) : Int) < ((a.length : Nat) : Int)
  ·
    refine q_gtr true rfl rfl (decide_eq_true hc2) up_none ?_
    refine q_move (.bool true) rfl up_none ?_
    refine lw_skip (e := 18) (c := true) rfl rfl rfl rfl ?_
    refine lw_skip (e := 18) (c := true) rfl rfl rfl rfl ?_
    refine lw_skip (e := 18) (c := true) rfl rfl rfl rfl ?_
    refine lw_skip (e := 18) (c := true) rfl rfl rfl rfl ?_
    refine q_pick true (.bool true) rfl rfl up_none ?_
    refine lw_nil ?_
    refine c_cond_t rfl ?_
    refine wp_seq ?_
    refine wp_plain _ [0, 0] rfl ?_
    refine q_assign (.slice none 0 0) rfl up_none ?_
    refine q_assign (.int .i64 ((1 : Nat) : Int)) rfl up_none ?_
    refine lw_nil ?_
    refine wp_ret ?_
    refine t_ret ?_
    have hq : sysB a b = false := by first | exact sys_big (by omega) | exact sys_len (by omega) | exact sys_row (k := k) (by omega) (by omega)
    exact post_ret [4, 5] rfl (.tuple #[(.slice none 0 0), (.int .i64 ((1 : Nat) : Int))]) rfl ⟨(.slice none 0 0), (by rw [(ss_bad hq).2]; rfl), hE1, (by rw [(ss_bad hq).1]; exact frNil _ _ _)⟩
  ·
    refine q_gtr false rfl rfl (decide_eq_false hc2) up_none ?_
    refine q_move (.bool false) rfl up_none ?_
    refine q_move vb rfl (up_some (e := 18) rfl rfl rfl) ?_
    refine q_len (v := vb) u22 rfl hb.isSl (up_some (e := 18) rfl rfl rfl) ?_
    refine q_move (.int .i64 ((a.length : Nat) : Int)) rfl (up_some (e := 18) rfl rfl rfl) ?_
    by_cases hc3 : ((b.length : Nat) : Int) ≠ ((a.length : Nat) : Int)
    ·
      refine q_neq true rfl rfl (decide_eq_true hc3) (up_some (e := 18) rfl rfl rfl) ?_
      refine q_pick false (.bool true) rfl rfl up_none ?_
      refine lw_nil ?_
      refine c_cond_t rfl ?_
      refine wp_seq ?_
      refine wp_plain _ [0, 0] rfl ?_
      refine q_assign (.slice none 0 0) rfl up_none ?_
      refine q_assign (.int .i64 ((1 : Nat) : Int)) rfl up_none ?_
      refine lw_nil ?_
      refine wp_ret ?_
      refine t_ret ?_
      have hq : sysB a b = false := by first | exact sys_big (by omega) | exact sys_len (by omega) | exact sys_row (k := k) (by omega) (by omega)
      exact post_ret [4, 5] rfl (.tuple #[(.slice none 0 0), (.int .i64 ((1 : Nat) : Int))]) rfl ⟨(.slice none 0 0), (by rw [(ss_bad hq).2]; rfl), hE1, (by rw [(ss_bad hq).1]; exact frNil _ _ _)⟩
    ·
      refine q_neq false rfl rfl (decide_eq_false hc3) (up_some (e := 18) rfl rfl rfl) ?_
      refine q_pick false (.bool false) rfl rfl up_none ?_
      refine lw_nil ?_
      refine c_cond_f rfl ?_
      refine wp_skip ?_
      refine wp_seq ?_
      refine wp_seq ?_
      refine wp_plain _ [0, 0, 0] rfl ?_
      refine q_move va rfl up_none ?_
      refine q_len (v := va) u45 rfl ha.isSl up_none ?_
      refine q_move (.int .i64 ((0 : Nat) : Int)) rfl up_none ?_
      refine lw_nil ?_
      refine wp_block ?_
      have h6 : a.length ≤ 6 := by omega
      have hbl : b.length = a.length := by omega
      refine c_loop (S := Nat × Value × List Value) (fun (⟨k, vo, US⟩ : Nat × Value × List Value) => ([(7, vo), (26, (.int .i64 ((k : Nat) : Int))), (0, va), (1, vb), (6, (.int .i64 ((a.length : Nat) : Int))), (24, va), (25, (.int .i64 ((a.length : Nat) : Int)))] : List (Nat × Value))) (fun (⟨k, vo, US⟩ : Nat × Value × List Value) (W : World) => Ext w W ∧ Fr (owL rV 29) w.heap.size W.heap.size W.heap vo US ∧ k ≤ a.length ∧ HdL w.heap US (b ++ (a.take k).flatten) ∧ ((a.take k).all (fun r => decide (r.length = a.length)) = true) ∧ US.length ≤ 6 + 6 * k) (fun (⟨k, vo, US⟩ : Nat × Value × List Value) => a.length - k) (0, v1_0, us) ⟨rfl, rfl, rfl, rfl, rfl, rfl, rfl, trivial⟩ ⟨hE1, hO1_0.up oV, (by first | omega | assumption | (simp only [List.length_nil, List.length_cons, List.length_append, List.length_set, List.length_replicate]; omega) | (simp [List.length_nil, List.length_cons, List.length_append, List.length_set, List.length_replicate]; done) | (simp [List.length_nil, List.length_cons, List.length_append, List.length_set, List.length_replicate]; omega)), (by rw [List.take_zero, List.flatten_nil, List.append_nil]; exact ⟨hul, hur⟩), (by exact rfl), (by omega)⟩ ?_
      clear hE0 hO1_0 hX1 hzs1 hE1
      rintro ⟨k, vo, US⟩ ρ4 w4 ⟨hE4, hL4_0, hp4_0, hL, hrows, hUl⟩
      have hzs4 : w.heap.size ≤ w4.heap.size := hE4.size
      refine wp_seq ?_
      refine wp_plain _ [0] rfl ?_
      by_cases hc5 : ((k : Nat) : Int) < ((a.length : Nat) : Int)
      ·
        refine q_lss true rfl rfl (decide_eq_true hc5) up_none ?_
        refine lw_nil ?_
        refine wp_seq ?_
        refine c_cond_t rfl ?_
        refine wp_skip ?_
        refine wp_seq ?_
        refine wp_block ?_
        refine wp_seq ?_
        refine wp_plain _ [0, 2, 0] rfl ?_
        refine q_idx (v := va) k u45 ti22 rfl rfl ha.isSl rfl (by first | omega | assumption | (simp only [List.length_nil, List.length_cons, List.length_append, List.length_set, List.length_replicate]; omega) | (simp [List.length_nil, List.length_cons, List.length_append, List.length_set, List.length_replicate]; done) | (simp [List.length_nil, List.length_cons, List.length_append, List.length_set, List.length_replicate]; omega)) up_none ?_
        obtain ⟨ue6, hl6, hd6⟩ := ha.get (k := k) [] (by first | omega | assumption | (simp only [List.length_nil, List.length_cons, List.length_append, List.length_set, List.length_replicate]; omega) | (simp [List.length_nil, List.length_cons, List.length_append, List.length_set, List.length_replicate]; done) | (simp [List.length_nil, List.length_cons, List.length_append, List.length_set, List.length_replicate]; omega))
        have hln6 := hd6.lenle
        refine q_load (p := eptr va k 1) (.inr rfl) ue6 one22 rfl (ldH_ext hE4 hl6) up_none ?_
        refine q_assign ue6 rfl up_none ?_
        refine lw_nil ?_
        refine wp_seq ?_
        refine wp_seq ?_
        refine wp_plain _ [0, 0, 0, 0] rfl ?_
        refine q_move ue6 rfl up_none ?_
        refine q_len (v := ue6) u22 rfl hd6.isSl up_none ?_
        refine q_move (.int .i64 ((a.length : Nat) : Int)) rfl up_none ?_
        by_cases hc7 : (((a.getD k []).length : Nat) : Int) ≠ ((a.length : Nat) : Int)
        ·
          refine q_neq true rfl rfl (decide_eq_true hc7) up_none ?_
          refine lw_nil ?_
          refine c_cond_t rfl ?_
          refine wp_seq ?_
          refine wp_plain _ [0, 0] rfl ?_
          refine q_assign (.slice none 0 0) rfl up_none ?_
          refine q_assign (.int .i64 ((1 : Nat) : Int)) rfl up_none ?_
          refine lw_nil ?_
          refine wp_ret ?_
          refine t_ret ?_
          refine b_ret ?_
          refine t_ret ?_
          refine t_ret ?_
          refine b_ret ?_
          refine t_ret ?_
          have hq : sysB a b = false := by first | exact sys_big (by omega) | exact sys_len (by omega) | exact sys_row (k := k) (by omega) (by omega)
          exact post_ret [4, 5] rfl (.tuple #[(.slice none 0 0), (.int .i64 ((1 : Nat) : Int))]) rfl ⟨(.slice none 0 0), (by rw [(ss_bad hq).2]; rfl), hE4, (by rw [(ss_bad hq).1]; exact frNil _ _ _)⟩
        ·
          refine q_neq false rfl rfl (decide_eq_false hc7) up_none ?_
          refine lw_nil ?_
          refine c_cond_f rfl ?_
          refine wp_skip ?_
          refine wp_plain _ [0, 0, 4, 0] rfl ?_
          refine q_move vo rfl up_none ?_
          refine q_move ue6 rfl up_none ?_
          obtain ⟨ur, hus2, hul2, hur2⟩ := hd6.heads g1 []
          refine e_appV (v := vo) (a := ue6) u22 ti29 rfl rfl rfl hL4_0 hE4.size (hus2.ext gV hE4) (by first | omega | assumption | (simp only [List.length_nil, List.length_cons, List.length_append, List.length_set, List.length_replicate]; omega) | (simp [List.length_nil, List.length_cons, List.length_append, List.length_set, List.length_replicate]; done) | (simp [List.length_nil, List.length_cons, List.length_append, List.length_set, List.length_replicate]; omega)) (by unfold maxLen; first | omega | assumption | (simp only [List.length_nil, List.length_cons, List.length_append, List.length_set, List.length_replicate]; omega) | (simp [List.length_nil, List.length_cons, List.length_append, List.length_set, List.length_replicate]; done) | (simp [List.length_nil, List.length_cons, List.length_append, List.length_set, List.length_replicate]; omega)) up_none ?_
          intro v8 w8 F8 hC8 hF8 hO8
          have hE8 : Ext w w8 := hC8.below hE4 (fun c hc => Nat.le_trans (Nat.le_refl _) (hF8 c hc).1) hE4.size
          have hzs8 : w4.heap.size ≤ w8.heap.size := hC8.size
          refine q_assign v8 rfl up_none ?_
          refine lw_nil ?_
          refine wp_plain _ [0, 0] rfl ?_
          refine q_add ((k + 1 : Nat) : Int) rfl rfl (w64n (by omega) (by first | omega | assumption | (simp only [List.length_nil, List.length_cons, List.length_append, List.length_set, List.length_replicate]; omega) | (simp [List.length_nil, List.length_cons, List.length_append, List.length_set, List.length_replicate]; done) | (simp [List.length_nil, List.length_cons, List.length_append, List.length_set, List.length_replicate]; omega))) up_none ?_
          refine q_move (.int .i64 ((k + 1 : Nat) : Int)) rfl up_none ?_
          refine lw_nil ?_
          exact ⟨((k + 1), v8, (US ++ ur)), _, rfl, ⟨rfl, rfl, rfl, rfl, rfl, rfl, rfl, trivial⟩, ⟨hE8, hO8.up oV, (by first | omega | assumption | (simp only [List.length_nil, List.length_cons, List.length_append, List.length_set, List.length_replicate]; omega) | (simp [List.length_nil, List.length_cons, List.length_append, List.length_set, List.length_replicate]; done) | (simp [List.length_nil, List.length_cons, List.length_append, List.length_set, List.length_replicate]; omega)), (by rw [flat_snoc (by omega)]; exact hL.app hul2 hur2), (by exact all_succ (f := fun r => decide (r.length = a.length)) [] hrows (by omega) (decide_eq_true (by omega))), (by rw [List.length_append]; omega)⟩, by first | omega | (dsimp only; omega)⟩
      ·
        refine q_lss false rfl rfl (decide_eq_false hc5) up_none ?_
        refine lw_nil ?_
        refine wp_seq ?_
        refine c_cond_f rfl ?_
        refine wp_exit ?_
        refine t_exit ?_
        refine t_exit ?_
        refine c_exit_here ?_
        refine wp_seq ?_
        refine wp_seq ?_
        refine wp_plain _ [0, 0, 0, 3, 0] rfl ?_
        have htk : a.take k = a := List.take_of_length_le (by omega)
        have hL2 : HdL w.heap US (b ++ a.flatten) := by have h := hL; rw [htk] at h; exact h
        have hse := sys_eq h6 hbl (all_done hrows (by omega))
        refine q_move vo rfl up_none ?_
        refine q_move vo rfl up_none ?_
        refine q_len (v := vo) u22 rfl hL4_0.isSl up_none ?_
        have hall9 := hL2.lift hL4_0 hE4
        refine lw_call 82 [] [] [vo, (.int .i64 ((US.length : Nat) : Int))] rfl rfl cf82 up_none (c_impl_areArgs _ _ _ _ hall9 (by omega)) ?_
        rintro e10 w10 ⟨rfl, hX10⟩
        refine ⟨_, rfl, hX10, ?_⟩
        have hzs10 : w4.heap.size ≤ w10.heap.size := hX10.size
        have hE10 : Ext w w10 := hE4.trans hX10
        have hall9x10 := hall9.ext g2 hX10
        refine q_not (!(argB (b ++ a.flatten) && decide ((((b ++ a.flatten).length : Nat) : Int) = ((US.length : Nat) : Int)))) rfl rfl up_none ?_
        refine lw_nil ?_
        cases hb11 : (!(argB (b ++ a.flatten) && decide ((((b ++ a.flatten).length : Nat) : Int) = ((US.length : Nat) : Int))))
        ·
          refine c_cond_f (by first | rfl | (show Value.bool _ = _; rw [hb11])) ?_
          refine wp_skip ?_
          refine wp_seq ?_
          refine wp_plain _ [0, 0, 3, 0, 0, 0, 0, 0] rfl ?_
          have hq : sysB a b = true := by rw [hse]; have h := ‹(!(argB (b ++ a.flatten) && decide ((((b ++ a.flatten).length : Nat) : Int) = ((US.length : Nat) : Int)))) = false›; simp only [Bool.not_eq_false', Bool.and_eq_true] at h; exact h.1
          obtain ⟨N, hP, hN⟩ := sys_of hq
          have hsm := jor_some hP
          have h13 := hP.n13
          refine q_move va rfl up_none ?_
          refine q_move vb rfl up_none ?_
          refine lw_call 71 [] [] [va, vb] rfl rfl cf71 up_none (c_impl_solved _ _ _ _ _ (ha.ext g3 hE10) (hb.ext g2 hE10) (by omega) (by exact hbl) (by exact hP.row) (by exact ⟨N, hP.n1, by omega, hP.sh⟩)) ?_
          rintro e12 w12 ⟨v12_0, rfl, hX12, hO12_0⟩
          refine ⟨_, rfl, hX12, ?_⟩
          have hzs12 : w10.heap.size ≤ w12.heap.size := hX12.size
          have hE12 : Ext w w12 := hE10.trans hX12
          have hall9x12 := hall9x10.ext g2 hX12
          refine q_move (.tuple #[v12_0, (.bool ((jorS a b).isSome))]) rfl up_none ?_
          refine q_extract (vs := [v12_0, (.bool ((jorS a b).isSome))]) v12_0 rfl rfl up_none ?_
          refine q_extract (vs := [v12_0, (.bool ((jorS a b).isSome))]) (.bool ((jorS a b).isSome)) rfl rfl up_none ?_
          refine q_assign v12_0 rfl up_none ?_
          refine q_assign (.bool ((jorS a b).isSome)) rfl up_none ?_
          refine lw_nil ?_
          refine wp_seq ?_
          refine wp_seq ?_
          refine wp_plain _ [0, 0] rfl ?_
          refine q_move (.bool ((jorS a b).isSome)) rfl up_none ?_
          refine q_not (!((jorS a b).isSome)) rfl rfl up_none ?_
          refine lw_nil ?_
          cases hb13 : (!((jorS a b).isSome))
          ·
            refine c_cond_f (by first | rfl | (show Value.bool _ = _; rw [hb13])) ?_
            refine wp_skip ?_
            refine wp_seq ?_
            refine wp_plain _ [0, 0, 0] rfl ?_
            have hdn : detM (begA a) ≠ 0 := by simp_all
            refine q_move v12_0 rfl up_none ?_
            refine q_assign v12_0 rfl up_none ?_
            refine q_assign (.int .i64 ((0 : Nat) : Int)) rfl up_none ?_
            refine lw_nil ?_
            refine wp_ret ?_
            exact post_ret [4, 5] rfl (.tuple #[v12_0, (.int .i64 ((0 : Nat) : Int))]) rfl ⟨v12_0, (by rw [(ss_good hq hdn).2]; rfl), hE12, (by rw [(ss_good hq hdn).1]; exact (hO12_0.up o2).low hE10.size)⟩
          ·
            refine c_cond_t (by first | rfl | (show Value.bool _ = _; rw [hb13])) ?_
            refine wp_seq ?_
            refine wp_plain _ [0, 0] rfl ?_
            refine q_assign (.slice none 0 0) rfl up_none ?_
            refine q_assign (.int .i64 ((6 : Nat) : Int)) rfl up_none ?_
            refine lw_nil ?_
            refine wp_ret ?_
            refine t_ret ?_
            have hdz : detM (begA a) = 0 := by simp_all
            exact post_ret [4, 5] rfl (.tuple #[(.slice none 0 0), (.int .i64 ((6 : Nat) : Int))]) rfl ⟨(.slice none 0 0), (by rw [(ss_zero hq hdz).2]; rfl), hE12, (by rw [(ss_zero hq hdz).1]; exact frNil _ _ _)⟩
        ·
          refine c_cond_t (by first | rfl | (show Value.bool _ = _; rw [hb11])) ?_
          refine wp_seq ?_
          refine wp_plain _ [0, 0] rfl ?_
          refine q_assign (.slice none 0 0) rfl up_none ?_
          refine q_assign (.int .i64 ((1 : Nat) : Int)) rfl up_none ?_
          refine lw_nil ?_
          refine wp_ret ?_
          refine t_ret ?_
          have hq : sysB a b = false := by rw [hse]; have h := ‹(!(argB (b ++ a.flatten) && decide ((((b ++ a.flatten).length : Nat) : Int) = ((US.length : Nat) : Int)))) = true›; rw [decide_eq_true (show (((b ++ a.flatten).length : Nat) : Int) = ((US.length : Nat) : Int) from by rw [hL2.len])] at h; simpa using h
          exact post_ret [4, 5] rfl (.tuple #[(.slice none 0 0), (.int .i64 ((1 : Nat) : Int))]) rfl ⟨(.slice none 0 0), (by rw [(ss_bad hq).2]; rfl), hE10, (by rw [(ss_bad hq).1]; exact frNil _ _ _)⟩
end Go.Proofs.Ytjgnlnlngcjfcaa
