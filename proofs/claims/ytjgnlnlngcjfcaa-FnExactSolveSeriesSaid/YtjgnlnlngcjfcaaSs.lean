/- Contracts of functions: each says what the function returns for all arguments that meet its premises. Printed by gen.py. -/
import Derived.Test.YtjgnlnlngcjfcaaMq
import Derived.Test.YtjgnlnlngcjfcaaFwJ
import Derived.Test.YtjgnlnlngcjfcaaT
import Derived.Test.YtjgnlnlngcjfcaaSa
import Derived.Test.YtjgnlnlngcjfcaaSb
import Derived.Test.YtjgnlnlngcjfcaaSc
import Derived.Test.YtjgnlnlngcjfcaaSd
import Derived.Test.YtjgnlnlngcjfcaaSf
import Derived.Test.YtjgnlnlngcjfcaaSk
import Derived.Test.YtjgnlnlngcjfcaaSl
import Derived.Test.YtjgnlnlngcjfcaaProg
namespace Go.Proofs.Ytjgnlnlngcjfcaa
open Go Go.RowKit
set_option linter.unusedVariables false
set_option linter.unusedSimpArgs false
attribute [local irreducible] LW
/- spec.l01Ok -/
set_option maxHeartbeats 4000000 in
set_option maxRecDepth 100000 in
theorem c_spec_l01Ok (w : World) (va : Value) (a : List Int) (ha : Rd (rdL rI) w.heap va a)  :
    Calls Try.prog 125 #[va] w (fun e w' => e = .returned (.bool (okS a)) ∧ Ext w w') := by
  refine calls_mk [va] 10 Try.func125 rfl rfl (by simp) ?_
  have hE0 : Ext w w := Ext.refl w
  have hl_va := ha.lenle
  refine wp_seq ?_
  refine wp_plain _ [0] rfl ?_
  refine q_assign (.bool false) rfl up_none ?_
  refine lw_nil ?_
  refine wp_seq ?_
  refine wp_plain _ [0, 0, 0, 0, 0, 3, 0, 0] rfl ?_
  refine q_move va rfl up_none ?_
  refine q_len (v := va) u29 rfl ha.isSl up_none ?_
  refine lw_callq 57 [] [] [(.int .i64 ((a.length : Nat) : Int)), (.int .i64 ((1 : Nat) : Int)), (.int .i64 ((13 : Nat) : Int))] rfl rfl cf57 up_none (.bool (decide (((1 : Nat) : Int) ≤ ((a.length : Nat) : Int)) && decide (((a.length : Nat) : Int) ≤ ((13 : Nat) : Int)))) (fun wq => c_spec_l00In wq _ _ _ (by omega) (by omega) (by omega)) ?_
  refine q_move (.bool (decide (((1 : Nat) : Int) ≤ ((a.length : Nat) : Int)) && decide (((a.length : Nat) : Int) ≤ ((13 : Nat) : Int)))) rfl up_none ?_
  cases hb2 : (decide (((1 : Nat) : Int) ≤ ((a.length : Nat) : Int)) && decide (((a.length : Nat) : Int) ≤ ((13 : Nat) : Int)))
  ·
    refine lw_skip (e := 6) (c := false) rfl rfl rfl rfl ?_
    refine lw_skip (e := 6) (c := false) rfl rfl rfl rfl ?_
    refine q_pick false (.bool false) rfl rfl up_none ?_
    refine q_assign (.bool false) rfl up_none ?_
    refine lw_nil ?_
    refine wp_ret ?_
    exact post_ret [2] rfl (.bool false) rfl ⟨(ret_bool (by unfold okS; first | (rw [‹(decide (((1 : Nat) : Int) ≤ ((a.length : Nat) : Int)) && decide (((a.length : Nat) : Int) ≤ ((13 : Nat) : Int))) = false›]; rfl) | (rw [‹(decide (((1 : Nat) : Int) ≤ ((a.length : Nat) : Int)) && decide (((a.length : Nat) : Int) ≤ ((13 : Nat) : Int))) = true›]; rfl))), hE0⟩
  ·
    refine q_move va rfl (up_some (e := 6) rfl rfl rfl) ?_
    refine lw_call 69 [] [] [va] rfl rfl cf69 (up_some (e := 6) rfl rfl rfl) (c_spec_l01Numbers _ _ _ (ha.ext g1 hE0)) ?_
    rintro e3 w3 ⟨rfl, hX3⟩
    refine ⟨_, rfl, hX3, ?_⟩
    have hzs3 : w.heap.size ≤ w3.heap.size := hX3.size
    have hE3 : Ext w w3 := hE0.trans hX3
    refine q_pick true (.bool (allN a)) rfl rfl up_none ?_
    refine q_assign (.bool (allN a)) rfl up_none ?_
    refine lw_nil ?_
    refine wp_ret ?_
    exact post_ret [2] rfl (.bool (allN a)) rfl ⟨(ret_bool (by unfold okS; first | (rw [‹(decide (((1 : Nat) : Int) ≤ ((a.length : Nat) : Int)) && decide (((a.length : Nat) : Int) ≤ ((13 : Nat) : Int))) = false›]; rfl) | (rw [‹(decide (((1 : Nat) : Int) ≤ ((a.length : Nat) : Int)) && decide (((a.length : Nat) : Int) ≤ ((13 : Nat) : Int))) = true›]; rfl))), hE3⟩

/- spec.l07Series -/
set_option maxHeartbeats 4000000 in
set_option maxRecDepth 100000 in
theorem c_spec_l07Series (w : World) (va : Value) (a : List (List Int)) (K : Nat) (ha : Rd (rdL (rdL rI)) w.heap va a)  :
    Calls Try.prog 113 #[va, .int .i64 ((K : Nat) : Int)] w (fun e w' => e = .returned (.bool (a.all (serB K))) ∧ Ext w w') := by
  refine calls_mk [va, .int .i64 ((K : Nat) : Int)] 27 Try.func113 rfl rfl (by simp) ?_
  have hE0 : Ext w w := Ext.refl w
  have hl_va := ha.lenle
  refine wp_seq ?_
  refine wp_plain _ [0] rfl ?_
  refine q_assign (.bool false) rfl up_none ?_
  refine lw_nil ?_
  refine wp_seq ?_
  refine wp_seq ?_
  refine wp_plain _ [0] rfl ?_
  refine q_assign (.int .i64 ((0 : Nat) : Int)) rfl up_none ?_
  refine lw_nil ?_
  refine wp_block ?_
  refine c_loop (S := Nat) (fun (k : Nat) => ([(5, (.int .i64 ((k : Nat) : Int))), (0, va), (1, (.int .i64 ((K : Nat) : Int)))] : List (Nat × Value))) (fun (k : Nat) (W : World) => Ext w W ∧ k ≤ a.length ∧ ((a.take k).all (serB K) = true)) (fun (k : Nat) => a.length - k) 0 ⟨rfl, rfl, rfl, trivial⟩ ⟨hE0, (by first | omega | assumption | (simp only [List.length_nil, List.length_cons, List.length_append, List.length_set, List.length_replicate]; omega) | (simp [List.length_nil, List.length_cons, List.length_append, List.length_set, List.length_replicate]; done) | (simp [List.length_nil, List.length_cons, List.length_append, List.length_set, List.length_replicate]; omega)), (by exact rfl)⟩ ?_
  clear hE0
  rintro k ρ1 w1 ⟨hE1, hp1_0, hq⟩
  have hzs1 : w.heap.size ≤ w1.heap.size := hE1.size
  refine wp_seq ?_
  refine wp_seq ?_
  refine wp_plain _ [0, 0, 0, 0] rfl ?_
  refine q_move (.int .i64 ((k : Nat) : Int)) rfl up_none ?_
  refine q_move va rfl up_none ?_
  refine q_len (v := va) u22 rfl ha.isSl up_none ?_
  by_cases hc2 : ((k : Nat) : Int) < ((a.length : Nat) : Int)
  ·
    refine q_lss true rfl rfl (decide_eq_true hc2) up_none ?_
    refine lw_nil ?_
    refine c_cond_t rfl ?_
    refine wp_skip ?_
    refine wp_seq ?_
    refine wp_block ?_
    refine wp_seq ?_
    refine wp_plain _ [0, 0, 0, 2, 3, 0, 0, 0, 0, 0, 2, 0, 0, 0, 0] rfl ?_
    refine q_move va rfl up_none ?_
    refine q_move (.int .i64 ((k : Nat) : Int)) rfl up_none ?_
    refine q_idx (v := va) k u22 ti29 rfl rfl ha.isSl rfl (by first | omega | assumption | (simp only [List.length_nil, List.length_cons, List.length_append, List.length_set, List.length_replicate]; omega) | (simp [List.length_nil, List.length_cons, List.length_append, List.length_set, List.length_replicate]; done) | (simp [List.length_nil, List.length_cons, List.length_append, List.length_set, List.length_replicate]; omega)) up_none ?_
    obtain ⟨ue3, hl3, hd3⟩ := ha.get (k := k) [] (by first | omega | assumption | (simp only [List.length_nil, List.length_cons, List.length_append, List.length_set, List.length_replicate]; omega) | (simp [List.length_nil, List.length_cons, List.length_append, List.length_set, List.length_replicate]; done) | (simp [List.length_nil, List.length_cons, List.length_append, List.length_set, List.length_replicate]; omega))
    have hln3 := hd3.lenle
    refine q_load (p := eptr va k 1) (.inr rfl) ue3 one29 rfl (ldH_ext hE1 hl3) up_none ?_
    refine lw_call 125 [] [] [ue3] rfl rfl cf125 up_none (c_spec_l01Ok _ _ _ (hd3.ext g1 hE1)) ?_
    rintro e4 w4 ⟨rfl, hX4⟩
    refine ⟨_, rfl, hX4, ?_⟩
    have hzs4 : w1.heap.size ≤ w4.heap.size := hX4.size
    have hE4 : Ext w w4 := hE1.trans hX4
    refine q_not (!(okS (a.getD k []))) rfl rfl up_none ?_
    refine q_move (.bool (!(okS (a.getD k [])))) rfl up_none ?_
    cases hb5 : (!(okS (a.getD k [])))
    ·
      refine q_move va rfl (up_some (e := 18) rfl rfl rfl) ?_
      refine q_move (.int .i64 ((k : Nat) : Int)) rfl (up_some (e := 18) rfl rfl rfl) ?_
      refine q_idx (v := va) k u22 ti29 rfl rfl ha.isSl rfl (by first | omega | assumption | (simp only [List.length_nil, List.length_cons, List.length_append, List.length_set, List.length_replicate]; omega) | (simp [List.length_nil, List.length_cons, List.length_append, List.length_set, List.length_replicate]; done) | (simp [List.length_nil, List.length_cons, List.length_append, List.length_set, List.length_replicate]; omega)) (up_some (e := 18) rfl rfl rfl) ?_
      obtain ⟨ue6, hl6, hd6⟩ := ha.get (k := k) [] (by first | omega | assumption | (simp only [List.length_nil, List.length_cons, List.length_append, List.length_set, List.length_replicate]; omega) | (simp [List.length_nil, List.length_cons, List.length_append, List.length_set, List.length_replicate]; done) | (simp [List.length_nil, List.length_cons, List.length_append, List.length_set, List.length_replicate]; omega))
      have hln6 := hd6.lenle
      refine q_load (p := eptr va k 1) (.inr rfl) ue6 one29 rfl (ldH_ext hE4 hl6) (up_some (e := 18) rfl rfl rfl) ?_
      refine q_len (v := ue6) u29 rfl hd6.isSl (up_some (e := 18) rfl rfl rfl) ?_
      refine q_move (.int .i64 ((K : Nat) : Int)) rfl (up_some (e := 18) rfl rfl rfl) ?_
      by_cases hc7 : (((a.getD k []).length : Nat) : Int) ≠ ((K : Nat) : Int)
      ·
        refine q_neq true rfl rfl (decide_eq_true hc7) (up_some (e := 18) rfl rfl rfl) ?_
        refine q_pick false (.bool true) rfl rfl up_none ?_
        refine lw_nil ?_
        refine c_cond_t rfl ?_
        refine wp_seq ?_
        refine wp_plain _ [0] rfl ?_
        refine q_assign (.bool false) rfl up_none ?_
        refine lw_nil ?_
        refine wp_ret ?_
        refine b_ret ?_
        refine t_ret ?_
        refine t_ret ?_
        refine b_ret ?_
        refine t_ret ?_
        exact post_ret [4] rfl (.bool false) rfl ⟨(ret_bool (all_fail (f := serB K) (k := k) [] (by omega) (by unfold serB; rw [Bool.and_eq_false_iff]; right; exact decide_eq_false (by omega))).symm), hE4⟩
      ·
        refine q_neq false rfl rfl (decide_eq_false hc7) (up_some (e := 18) rfl rfl rfl) ?_
        refine q_pick false (.bool false) rfl rfl up_none ?_
        refine lw_nil ?_
        refine c_cond_f rfl ?_
        refine wp_skip ?_
        refine wp_plain _ [0, 0, 0] rfl ?_
        refine q_move (.int .i64 ((k : Nat) : Int)) rfl up_none ?_
        refine q_add ((k + 1 : Nat) : Int) rfl rfl (w64n (by omega) (by first | omega | assumption | (simp only [List.length_nil, List.length_cons, List.length_append, List.length_set, List.length_replicate]; omega) | (simp [List.length_nil, List.length_cons, List.length_append, List.length_set, List.length_replicate]; done) | (simp [List.length_nil, List.length_cons, List.length_append, List.length_set, List.length_replicate]; omega))) up_none ?_
        refine q_assign (.int .i64 ((k + 1 : Nat) : Int)) rfl up_none ?_
        refine lw_nil ?_
        exact ⟨(k + 1), _, rfl, ⟨rfl, rfl, rfl, trivial⟩, ⟨hE4, (by first | omega | assumption | (simp only [List.length_nil, List.length_cons, List.length_append, List.length_set, List.length_replicate]; omega) | (simp [List.length_nil, List.length_cons, List.length_append, List.length_set, List.length_replicate]; done) | (simp [List.length_nil, List.length_cons, List.length_append, List.length_set, List.length_replicate]; omega)), (by exact all_succ (f := serB K) [] hq (by omega) (by unfold serB; simp only [Bool.and_eq_true, decide_eq_true_eq]; exact ⟨by simpa using ‹(!okS (a.getD k [])) = false›, by omega⟩))⟩, by first | omega | (dsimp only; omega)⟩
    ·
      refine lw_skip (e := 18) (c := true) rfl rfl rfl rfl ?_
      refine lw_skip (e := 18) (c := true) rfl rfl rfl rfl ?_
      refine lw_skip (e := 18) (c := true) rfl rfl rfl rfl ?_
      refine lw_skip (e := 18) (c := true) rfl rfl rfl rfl ?_
      refine lw_skip (e := 18) (c := true) rfl rfl rfl rfl ?_
      refine lw_skip (e := 18) (c := true) rfl rfl rfl rfl ?_
      refine lw_skip (e := 18) (c := true) rfl rfl rfl rfl ?_
      refine q_pick true (.bool true) rfl rfl up_none ?_
      refine lw_nil ?_
      refine c_cond_t rfl ?_
      refine wp_seq ?_
      refine wp_plain _ [0] rfl ?_
      refine q_assign (.bool false) rfl up_none ?_
      refine lw_nil ?_
      refine wp_ret ?_
      refine b_ret ?_
      refine t_ret ?_
      refine t_ret ?_
      refine b_ret ?_
      refine t_ret ?_
      exact post_ret [4] rfl (.bool false) rfl ⟨(ret_bool (all_fail (f := serB K) (k := k) [] (by omega) (by unfold serB; rw [Bool.and_eq_false_iff]; left; simpa using ‹(!okS (a.getD k [])) = true›)).symm), hE4⟩
  ·
    refine q_lss false rfl rfl (decide_eq_false hc2) up_none ?_
    refine lw_nil ?_
    refine c_cond_f rfl ?_
    refine wp_exit ?_
    refine t_exit ?_
    refine t_exit ?_
    refine c_exit_here ?_
    refine wp_seq ?_
    refine wp_plain _ [0] rfl ?_
    refine q_assign (.bool true) rfl up_none ?_
    refine lw_nil ?_
    refine wp_ret ?_
    exact post_ret [4] rfl (.bool true) rfl ⟨(ret_bool (all_done hq (by omega)).symm), hE1⟩

/- spec.l07System -/
set_option maxHeartbeats 4000000 in
set_option maxRecDepth 100000 in
theorem c_spec_l07System (w : World) (va : Value) (a : List (List (List Int))) (vb : Value) (b : List (List Int)) (ha : Rd (rdL (rdL (rdL rI))) w.heap va a) (hb : Rd (rdL (rdL rI)) w.heap vb b)  :
    Calls Try.prog 87 #[va, vb] w (fun e w' => e = .returned (.bool (sysB a b)) ∧ Ext w w') := by
  refine calls_mk [va, vb] 53 Try.func87 rfl rfl (by simp) ?_
  have hE0 : Ext w w := Ext.refl w
  have hl_va := ha.lenle
  have hl_vb := hb.lenle
  refine wp_seq ?_
  refine wp_plain _ [0] rfl ?_
  refine q_assign (.bool false) rfl up_none ?_
  refine lw_nil ?_
  refine wp_seq ?_
  refine wp_seq ?_
  refine wp_plain _ [0, 0, 0, 0, 0, 0, 0, 0, 0, 0] rfl ?_
  refine q_move va rfl up_none ?_
  refine q_len (v := va) u45 rfl ha.isSl up_none ?_
  by_cases hc1 : ((6 : Nat) : Int) < ((a.length : Nat) : Int)
  ·
    refine q_gtr true rfl rfl (decide_eq_true hc1) up_none ?_
    refine q_move (.bool true) rfl up_none ?_
    refine lw_skip (e := 9) (c := true) rfl rfl rfl rfl ?_
    refine lw_skip (e := 9) (c := true) rfl rfl rfl rfl ?_
    refine lw_skip (e := 9) (c := true) rfl rfl rfl rfl ?_
    refine lw_skip (e := 9) (c := true) rfl rfl rfl rfl ?_
    refine lw_skip (e := 9) (c := true) rfl rfl rfl rfl ?_
    refine q_pick true (.bool true) rfl rfl up_none ?_
    refine lw_nil ?_
    refine c_cond_t rfl ?_
    refine wp_seq ?_
    refine wp_plain _ [0] rfl ?_
    refine q_assign (.bool false) rfl up_none ?_
    refine lw_nil ?_
    refine wp_ret ?_
    refine t_ret ?_
    exact post_ret [4] rfl (.bool false) rfl ⟨(ret_bool (by first | (exact (sys_big (by omega)).symm) | (exact (sys_len (by omega)).symm) | (exact (sys_row (k := k) (by omega) (by omega)).symm) | (unfold sysB; rw [decide_eq_true h6, decide_eq_true hbl, all_fail (f := rowB a.length (b.getD 0 []).length) (k := k) [] (by omega) (by unfold rowB; rw [Bool.and_eq_false_iff]; right; simpa using ‹(!(a.getD k []).all (serB (b.getD 0 []).length)) = true›)]; rfl) | (unfold sysB; rw [decide_eq_true h6, decide_eq_true hbl, all_done hq (by omega)]; simp; done) | (unfold sysB; rw [decide_eq_true h6, decide_eq_true hbl, all_done hq (by omega), show b = [] from List.eq_nil_of_length_eq_zero (by omega)]; rfl))), hE0⟩
  ·
    refine q_gtr false rfl rfl (decide_eq_false hc1) up_none ?_
    refine q_move (.bool false) rfl up_none ?_
    refine q_move vb rfl (up_some (e := 9) rfl rfl rfl) ?_
    refine q_len (v := vb) u22 rfl hb.isSl (up_some (e := 9) rfl rfl rfl) ?_
    refine q_move va rfl (up_some (e := 9) rfl rfl rfl) ?_
    refine q_len (v := va) u45 rfl ha.isSl (up_some (e := 9) rfl rfl rfl) ?_
    by_cases hc2 : ((b.length : Nat) : Int) ≠ ((a.length : Nat) : Int)
    ·
      refine q_neq true rfl rfl (decide_eq_true hc2) (up_some (e := 9) rfl rfl rfl) ?_
      refine q_pick false (.bool true) rfl rfl up_none ?_
      refine lw_nil ?_
      refine c_cond_t rfl ?_
      refine wp_seq ?_
      refine wp_plain _ [0] rfl ?_
      refine q_assign (.bool false) rfl up_none ?_
      refine lw_nil ?_
      refine wp_ret ?_
      refine t_ret ?_
      exact post_ret [4] rfl (.bool false) rfl ⟨(ret_bool (by first | (exact (sys_big (by omega)).symm) | (exact (sys_len (by omega)).symm) | (exact (sys_row (k := k) (by omega) (by omega)).symm) | (unfold sysB; rw [decide_eq_true h6, decide_eq_true hbl, all_fail (f := rowB a.length (b.getD 0 []).length) (k := k) [] (by omega) (by unfold rowB; rw [Bool.and_eq_false_iff]; right; simpa using ‹(!(a.getD k []).all (serB (b.getD 0 []).length)) = true›)]; rfl) | (unfold sysB; rw [decide_eq_true h6, decide_eq_true hbl, all_done hq (by omega)]; simp; done) | (unfold sysB; rw [decide_eq_true h6, decide_eq_true hbl, all_done hq (by omega), show b = [] from List.eq_nil_of_length_eq_zero (by omega)]; rfl))), hE0⟩
    ·
      refine q_neq false rfl rfl (decide_eq_false hc2) (up_some (e := 9) rfl rfl rfl) ?_
      refine q_pick false (.bool false) rfl rfl up_none ?_
      refine lw_nil ?_
      refine c_cond_f rfl ?_
      refine wp_skip ?_
      refine wp_seq ?_
      refine wp_seq ?_
      refine wp_plain _ [0] rfl ?_
      refine q_assign (.int .i64 ((0 : Nat) : Int)) rfl up_none ?_
      refine lw_nil ?_
      refine wp_block ?_
      have h6 : a.length ≤ 6 := by omega
      have hbl : b.length = a.length := by omega
      refine c_loop (S := Nat) (fun (k : Nat) => ([(5, (.int .i64 ((k : Nat) : Int))), (0, va), (1, vb)] : List (Nat × Value))) (fun (k : Nat) (W : World) => Ext w W ∧ k ≤ a.length ∧ ((a.take k).all (rowB a.length (b.getD 0 []).length) = true)) (fun (k : Nat) => a.length - k) 0 ⟨rfl, rfl, rfl, trivial⟩ ⟨hE0, (by first | omega | assumption | (simp only [List.length_nil, List.length_cons, List.length_append, List.length_set, List.length_replicate]; omega) | (simp [List.length_nil, List.length_cons, List.length_append, List.length_set, List.length_replicate]; done) | (simp [List.length_nil, List.length_cons, List.length_append, List.length_set, List.length_replicate]; omega)), (by exact rfl)⟩ ?_
      clear hE0
      rintro k ρ3 w3 ⟨hE3, hp3_0, hq⟩
      have hzs3 : w.heap.size ≤ w3.heap.size := hE3.size
      refine wp_seq ?_
      refine wp_seq ?_
      refine wp_plain _ [0, 0, 0, 0] rfl ?_
      refine q_move (.int .i64 ((k : Nat) : Int)) rfl up_none ?_
      refine q_move va rfl up_none ?_
      refine q_len (v := va) u45 rfl ha.isSl up_none ?_
      by_cases hc4 : ((k : Nat) : Int) < ((a.length : Nat) : Int)
      ·
        refine q_lss true rfl rfl (decide_eq_true hc4) up_none ?_
        refine lw_nil ?_
        refine c_cond_t rfl ?_
        refine wp_skip ?_
        refine wp_seq ?_
        refine wp_block ?_
        refine wp_seq ?_
        refine wp_draw _ [0, 0, 0, 1, 0, 0, 0, 0, 0, 0, 0, 0, 1, 0, 0, 1, 0, 3, 0, 0] mixed (by kernel_rfl) ?_
        refine q_move va rfl up_none ?_
        refine q_move (.int .i64 ((k : Nat) : Int)) rfl up_none ?_
        refine q_idx (v := va) k u45 ti22 rfl rfl ha.isSl rfl (by first | omega | assumption | (simp only [List.length_nil, List.length_cons, List.length_append, List.length_set, List.length_replicate]; omega) | (simp [List.length_nil, List.length_cons, List.length_append, List.length_set, List.length_replicate]; done) | (simp [List.length_nil, List.length_cons, List.length_append, List.length_set, List.length_replicate]; omega)) up_none ?_
        obtain ⟨ue5, hl5, hd5⟩ := ha.get (k := k) [] (by first | omega | assumption | (simp only [List.length_nil, List.length_cons, List.length_append, List.length_set, List.length_replicate]; omega) | (simp [List.length_nil, List.length_cons, List.length_append, List.length_set, List.length_replicate]; done) | (simp [List.length_nil, List.length_cons, List.length_append, List.length_set, List.length_replicate]; omega))
        have hln5 := hd5.lenle
        refine q_load (p := eptr va k 1) (.inl rfl) ue5 one22 rfl (ldH_ext hE3.drew hl5) up_none ?_
        refine q_len (v := ue5) u22 rfl hd5.isSl up_none ?_
        refine q_move va rfl up_none ?_
        refine q_len (v := va) u45 rfl ha.isSl up_none ?_
        by_cases hc6 : (((a.getD k []).length : Nat) : Int) ≠ ((a.length : Nat) : Int)
        ·
          refine q_neq true rfl rfl (decide_eq_true hc6) up_none ?_
          refine q_move (.bool true) rfl up_none ?_
          refine lw_skip (e := 30) (c := true) rfl rfl rfl rfl ?_
          refine lw_skip (e := 30) (c := true) rfl rfl rfl rfl ?_
          refine lw_skip (e := 30) (c := true) rfl rfl rfl rfl ?_
          refine lw_skip (e := 30) (c := true) rfl rfl rfl rfl ?_
          refine lw_skip (e := 30) (c := true) rfl rfl rfl rfl ?_
          refine lw_skip (e := 30) (c := true) rfl rfl rfl rfl ?_
          refine lw_skip (e := 30) (c := true) rfl rfl rfl rfl ?_
          refine lw_skip (e := 30) (c := true) rfl rfl rfl rfl ?_
          refine lw_skip (e := 30) (c := true) rfl rfl rfl rfl ?_
          refine lw_skip (e := 30) (c := true) rfl rfl rfl rfl ?_
          refine q_pick true (.bool true) rfl rfl up_none ?_
          refine lw_nil ?_
          refine c_cond_t rfl ?_
          refine wp_seq ?_
          refine wp_plain _ [0] rfl ?_
          refine q_assign (.bool false) rfl up_none ?_
          refine lw_nil ?_
          refine wp_ret ?_
          refine b_ret ?_
          refine t_ret ?_
          refine t_ret ?_
          refine b_ret ?_
          refine t_ret ?_
          exact post_ret [4] rfl (.bool false) rfl ⟨(ret_bool (by first | (exact (sys_big (by omega)).symm) | (exact (sys_len (by omega)).symm) | (exact (sys_row (k := k) (by omega) (by omega)).symm) | (unfold sysB; rw [decide_eq_true h6, decide_eq_true hbl, all_fail (f := rowB a.length (b.getD 0 []).length) (k := k) [] (by omega) (by unfold rowB; rw [Bool.and_eq_false_iff]; right; simpa using ‹(!(a.getD k []).all (serB (b.getD 0 []).length)) = true›)]; rfl) | (unfold sysB; rw [decide_eq_true h6, decide_eq_true hbl, all_done hq (by omega)]; simp; done) | (unfold sysB; rw [decide_eq_true h6, decide_eq_true hbl, all_done hq (by omega), show b = [] from List.eq_nil_of_length_eq_zero (by omega)]; rfl))), hE3.drew⟩
        ·
          refine q_neq false rfl rfl (decide_eq_false hc6) up_none ?_
          refine q_move (.bool false) rfl up_none ?_
          refine q_move va rfl (up_some (e := 30) rfl rfl rfl) ?_
          refine q_move (.int .i64 ((k : Nat) : Int)) rfl (up_some (e := 30) rfl rfl rfl) ?_
          refine q_idx (v := va) k u45 ti22 rfl rfl ha.isSl rfl (by first | omega | assumption | (simp only [List.length_nil, List.length_cons, List.length_append, List.length_set, List.length_replicate]; omega) | (simp [List.length_nil, List.length_cons, List.length_append, List.length_set, List.length_replicate]; done) | (simp [List.length_nil, List.length_cons, List.length_append, List.length_set, List.length_replicate]; omega)) (up_some (e := 30) rfl rfl rfl) ?_
          obtain ⟨ue7, hl7, hd7⟩ := ha.get (k := k) [] (by first | omega | assumption | (simp only [List.length_nil, List.length_cons, List.length_append, List.length_set, List.length_replicate]; omega) | (simp [List.length_nil, List.length_cons, List.length_append, List.length_set, List.length_replicate]; done) | (simp [List.length_nil, List.length_cons, List.length_append, List.length_set, List.length_replicate]; omega))
          have hln7 := hd7.lenle
          refine q_load (p := eptr va k 1) (.inl rfl) ue7 one22 rfl (ldH_ext hE3.drew hl7) (up_some (e := 30) rfl rfl rfl) ?_
          refine q_move vb rfl (up_some (e := 30) rfl rfl rfl) ?_
          refine q_idx (v := vb) 0 u22 ti29 rfl rfl hb.isSl rfl (by first | omega | assumption | (simp only [List.length_nil, List.length_cons, List.length_append, List.length_set, List.length_replicate]; omega) | (simp [List.length_nil, List.length_cons, List.length_append, List.length_set, List.length_replicate]; done) | (simp [List.length_nil, List.length_cons, List.length_append, List.length_set, List.length_replicate]; omega)) (up_some (e := 30) rfl rfl rfl) ?_
          obtain ⟨ue8, hl8, hd8⟩ := hb.get (k := 0) [] (by first | omega | assumption | (simp only [List.length_nil, List.length_cons, List.length_append, List.length_set, List.length_replicate]; omega) | (simp [List.length_nil, List.length_cons, List.length_append, List.length_set, List.length_replicate]; done) | (simp [List.length_nil, List.length_cons, List.length_append, List.length_set, List.length_replicate]; omega))
          have hln8 := hd8.lenle
          refine q_load (p := eptr vb 0 1) (.inl rfl) ue8 one29 rfl (ldH_ext hE3.drew hl8) (up_some (e := 30) rfl rfl rfl) ?_
          refine q_len (v := ue8) u29 rfl hd8.isSl (up_some (e := 30) rfl rfl rfl) ?_
          refine lw_call 113 [] [] [ue7, (.int .i64 (((b.getD 0 []).length : Nat) : Int))] rfl rfl cf113 (up_some (e := 30) rfl rfl rfl) (c_spec_l07Series _ _ _ ((b.getD 0 []).length) (hd7.ext g2 hE3.drew)) ?_
          rintro e9 w9 ⟨rfl, hX9⟩
          refine ⟨_, rfl, hX9, ?_⟩
          replace hX9 := hX9.of_drew
          have hzs9 : w3.heap.size ≤ w9.heap.size := hX9.size
          have hE9 : Ext w w9 := hE3.trans hX9
          refine q_not (!((a.getD k []).all (serB ((b.getD 0 []).length)))) rfl rfl (up_some (e := 30) rfl rfl rfl) ?_
          refine q_pick false (.bool (!((a.getD k []).all (serB ((b.getD 0 []).length))))) rfl rfl up_none ?_
          refine lw_nil ?_
          cases hb10 : (!((a.getD k []).all (serB ((b.getD 0 []).length))))
          ·
            refine c_cond_f (by first | rfl | (show Value.bool _ = _; rw [hb10])) ?_
            refine wp_skip ?_
            refine wp_plain _ [0, 0, 0] rfl ?_
            refine q_move (.int .i64 ((k : Nat) : Int)) rfl up_none ?_
            refine q_add ((k + 1 : Nat) : Int) rfl rfl (w64n (by omega) (by first | omega | assumption | (simp only [List.length_nil, List.length_cons, List.length_append, List.length_set, List.length_replicate]; omega) | (simp [List.length_nil, List.length_cons, List.length_append, List.length_set, List.length_replicate]; done) | (simp [List.length_nil, List.length_cons, List.length_append, List.length_set, List.length_replicate]; omega))) up_none ?_
            refine q_assign (.int .i64 ((k + 1 : Nat) : Int)) rfl up_none ?_
            refine lw_nil ?_
            exact ⟨(k + 1), _, rfl, ⟨rfl, rfl, rfl, trivial⟩, ⟨hE9, (by first | omega | assumption | (simp only [List.length_nil, List.length_cons, List.length_append, List.length_set, List.length_replicate]; omega) | (simp [List.length_nil, List.length_cons, List.length_append, List.length_set, List.length_replicate]; done) | (simp [List.length_nil, List.length_cons, List.length_append, List.length_set, List.length_replicate]; omega)), (by exact all_succ (f := rowB a.length (b.getD 0 []).length) [] hq (by omega) (by unfold rowB; simp only [Bool.and_eq_true, decide_eq_true_eq]; exact ⟨by omega, by simpa using ‹(!(a.getD k []).all (serB (b.getD 0 []).length)) = false›⟩))⟩, by first | omega | (dsimp only; omega)⟩
          ·
            refine c_cond_t (by first | rfl | (show Value.bool _ = _; rw [hb10])) ?_
            refine wp_seq ?_
            refine wp_plain _ [0] rfl ?_
            refine q_assign (.bool false) rfl up_none ?_
            refine lw_nil ?_
            refine wp_ret ?_
            refine b_ret ?_
            refine t_ret ?_
            refine t_ret ?_
            refine b_ret ?_
            refine t_ret ?_
            exact post_ret [4] rfl (.bool false) rfl ⟨(ret_bool (by first | (exact (sys_big (by omega)).symm) | (exact (sys_len (by omega)).symm) | (exact (sys_row (k := k) (by omega) (by omega)).symm) | (unfold sysB; rw [decide_eq_true h6, decide_eq_true hbl, all_fail (f := rowB a.length (b.getD 0 []).length) (k := k) [] (by omega) (by unfold rowB; rw [Bool.and_eq_false_iff]; right; simpa using ‹(!(a.getD k []).all (serB (b.getD 0 []).length)) = true›)]; rfl) | (unfold sysB; rw [decide_eq_true h6, decide_eq_true hbl, all_done hq (by omega)]; simp; done) | (unfold sysB; rw [decide_eq_true h6, decide_eq_true hbl, all_done hq (by omega), show b = [] from List.eq_nil_of_length_eq_zero (by omega)]; rfl))), hE9⟩
      ·
        refine q_lss false rfl rfl (decide_eq_false hc4) up_none ?_
        refine lw_nil ?_
        refine c_cond_f rfl ?_
        refine wp_exit ?_
        refine t_exit ?_
        refine t_exit ?_
        refine c_exit_here ?_
        refine wp_seq ?_
        refine wp_plain _ [0, 0, 0, 0, 0, 0, 0, 2, 0, 3, 0, 0] rfl ?_
        refine q_move vb rfl up_none ?_
        refine q_len (v := vb) u22 rfl hb.isSl up_none ?_
        by_cases hc11 : ((b.length : Nat) : Int) = ((0 : Nat) : Int)
        ·
          refine q_eql true rfl rfl (decide_eq_true hc11) up_none ?_
          refine q_move (.bool true) rfl up_none ?_
          refine lw_skip (e := 45) (c := true) rfl rfl rfl rfl ?_
          refine lw_skip (e := 45) (c := true) rfl rfl rfl rfl ?_
          refine lw_skip (e := 45) (c := true) rfl rfl rfl rfl ?_
          refine lw_skip (e := 45) (c := true) rfl rfl rfl rfl ?_
          refine lw_skip (e := 45) (c := true) rfl rfl rfl rfl ?_
          refine lw_skip (e := 45) (c := true) rfl rfl rfl rfl ?_
          refine q_pick true (.bool true) rfl rfl up_none ?_
          refine q_assign (.bool true) rfl up_none ?_
          refine lw_nil ?_
          refine wp_ret ?_
          exact post_ret [4] rfl (.bool true) rfl ⟨(ret_bool (by first | (exact (sys_big (by omega)).symm) | (exact (sys_len (by omega)).symm) | (exact (sys_row (k := k) (by omega) (by omega)).symm) | (unfold sysB; rw [decide_eq_true h6, decide_eq_true hbl, all_fail (f := rowB a.length (b.getD 0 []).length) (k := k) [] (by omega) (by unfold rowB; rw [Bool.and_eq_false_iff]; right; simpa using ‹(!(a.getD k []).all (serB (b.getD 0 []).length)) = true›)]; rfl) | (unfold sysB; rw [decide_eq_true h6, decide_eq_true hbl, all_done hq (by omega)]; simp; done) | (unfold sysB; rw [decide_eq_true h6, decide_eq_true hbl, all_done hq (by omega), show b = [] from List.eq_nil_of_length_eq_zero (by omega)]; rfl))), hE3⟩
        ·
          refine q_eql false rfl rfl (decide_eq_false hc11) up_none ?_
          refine q_move (.bool false) rfl up_none ?_
          refine q_move vb rfl (up_some (e := 45) rfl rfl rfl) ?_
          refine q_move vb rfl (up_some (e := 45) rfl rfl rfl) ?_
          refine q_idx (v := vb) 0 u22 ti29 rfl rfl hb.isSl rfl (by first | omega | assumption | (simp only [List.length_nil, List.length_cons, List.length_append, List.length_set, List.length_replicate]; omega) | (simp [List.length_nil, List.length_cons, List.length_append, List.length_set, List.length_replicate]; done) | (simp [List.length_nil, List.length_cons, List.length_append, List.length_set, List.length_replicate]; omega)) (up_some (e := 45) rfl rfl rfl) ?_
          obtain ⟨ue12, hl12, hd12⟩ := hb.get (k := 0) [] (by first | omega | assumption | (simp only [List.length_nil, List.length_cons, List.length_append, List.length_set, List.length_replicate]; omega) | (simp [List.length_nil, List.length_cons, List.length_append, List.length_set, List.length_replicate]; done) | (simp [List.length_nil, List.length_cons, List.length_append, List.length_set, List.length_replicate]; omega))
          have hln12 := hd12.lenle
          refine q_load (p := eptr vb 0 1) (.inr rfl) ue12 one29 rfl (ldH_ext hE3 hl12) (up_some (e := 45) rfl rfl rfl) ?_
          refine q_len (v := ue12) u29 rfl hd12.isSl (up_some (e := 45) rfl rfl rfl) ?_
          refine lw_call 113 [] [] [vb, (.int .i64 (((b.getD 0 []).length : Nat) : Int))] rfl rfl cf113 (up_some (e := 45) rfl rfl rfl) (c_spec_l07Series _ _ _ ((b.getD 0 []).length) (hb.ext g2 hE3)) ?_
          rintro e13 w13 ⟨rfl, hX13⟩
          refine ⟨_, rfl, hX13, ?_⟩
          have hzs13 : w3.heap.size ≤ w13.heap.size := hX13.size
          have hE13 : Ext w w13 := hE3.trans hX13
          refine q_pick false (.bool (b.all (serB ((b.getD 0 []).length)))) rfl rfl up_none ?_
          refine q_assign (.bool (b.all (serB ((b.getD 0 []).length)))) rfl up_none ?_
          refine lw_nil ?_
          refine wp_ret ?_
          exact post_ret [4] rfl (.bool (b.all (serB ((b.getD 0 []).length)))) rfl ⟨(ret_bool (by first | (exact (sys_big (by omega)).symm) | (exact (sys_len (by omega)).symm) | (exact (sys_row (k := k) (by omega) (by omega)).symm) | (unfold sysB; rw [decide_eq_true h6, decide_eq_true hbl, all_fail (f := rowB a.length (b.getD 0 []).length) (k := k) [] (by omega) (by unfold rowB; rw [Bool.and_eq_false_iff]; right; simpa using ‹(!(a.getD k []).all (serB (b.getD 0 []).length)) = true›)]; rfl) | (unfold sysB; rw [decide_eq_true h6, decide_eq_true hbl, all_done hq (by omega)]; simp; done) | (unfold sysB; rw [decide_eq_true h6, decide_eq_true hbl, all_done hq (by omega), show b = [] from List.eq_nil_of_length_eq_zero (by omega)]; rfl))), hE13⟩

/- spec.l07Begins -/
set_option maxHeartbeats 4000000 in
set_option maxRecDepth 100000 in
theorem c_spec_l07Begins (w : World) (va : Value) (a : List (List Int)) (ha : Rd (rdL (rdL rI)) w.heap va a) (hla : a.length ≤ 1000000000000) (h1 : ∀ k, k < a.length → 0 < (a.getD k []).length) :
    Calls Try.prog 114 #[va] w (fun e w' => ∃ v0 : Value, e = .returned (v0) ∧ Ext w w' ∧ Fr (owL rI 2) w.heap.size w'.heap.size w'.heap v0 (beg a)) := by
  refine calls_mk [va] 22 Try.func114 rfl rfl (by simp) ?_
  have hE0 : Ext w w := Ext.refl w
  have hl_va := ha.lenle
  refine wp_seq ?_
  refine wp_plain _ [0] rfl ?_
  refine q_assign (.slice none 0 0) rfl up_none ?_
  refine lw_nil ?_
  refine wp_seq ?_
  refine wp_plain _ [3, 0] rfl ?_
  refine r_nil (rI) good_rI u29 ti2 up_none ?_
  intro v1 w1 hX1 hz1 hO1
  have hzs1 : w.heap.size ≤ w1.heap.size := hX1.size
  have hE1 : Ext w w1 := hE0.trans hX1
  refine q_assign v1 rfl up_none ?_
  refine lw_nil ?_
  refine wp_seq ?_
  refine wp_seq ?_
  refine wp_plain _ [0] rfl ?_
  refine q_assign (.int .i64 ((0 : Nat) : Int)) rfl up_none ?_
  refine lw_nil ?_
  refine wp_block ?_
  refine c_loop (S := Nat × Value) (fun (⟨k, vo⟩ : Nat × Value) => ([(3, vo), (4, (.int .i64 ((k : Nat) : Int))), (0, va)] : List (Nat × Value))) (fun (⟨k, vo⟩ : Nat × Value) (W : World) => Ext w W ∧ Fr (owL rI 2) w.heap.size W.heap.size W.heap vo ((a.take k).map (fun s => s.getD 0 0)) ∧ k ≤ a.length) (fun (⟨k, vo⟩ : Nat × Value) => a.length - k) (0, v1) ⟨rfl, rfl, rfl, trivial⟩ ⟨hE1, hO1.up o1, (by first | omega | assumption | (simp only [List.length_nil, List.length_cons, List.length_append, List.length_set, List.length_replicate]; omega) | (simp [List.length_nil, List.length_cons, List.length_append, List.length_set, List.length_replicate]; done) | (simp [List.length_nil, List.length_cons, List.length_append, List.length_set, List.length_replicate]; omega))⟩ ?_
  clear hE0 hO1 hz1 hX1 hzs1 hE1
  rintro ⟨k, vo⟩ ρ2 w2 ⟨hE2, hL2_0, hp2_0⟩
  have hzs2 : w.heap.size ≤ w2.heap.size := hE2.size
  refine wp_seq ?_
  refine wp_seq ?_
  refine wp_plain _ [0, 0, 0, 0] rfl ?_
  refine q_move (.int .i64 ((k : Nat) : Int)) rfl up_none ?_
  refine q_move va rfl up_none ?_
  refine q_len (v := va) u22 rfl ha.isSl up_none ?_
  by_cases hc3 : ((k : Nat) : Int) < ((a.length : Nat) : Int)
  ·
    refine q_lss true rfl rfl (decide_eq_true hc3) up_none ?_
    refine lw_nil ?_
    refine c_cond_t rfl ?_
    refine wp_skip ?_
    refine wp_seq ?_
    refine wp_block ?_
    refine wp_plain _ [0, 0, 0, 0, 2, 0, 2, 3, 4, 0] rfl ?_
    have hr1 := h1 k (by omega)
    refine q_move vo rfl up_none ?_
    refine q_move va rfl up_none ?_
    refine q_move (.int .i64 ((k : Nat) : Int)) rfl up_none ?_
    refine q_idx (v := va) k u22 ti29 rfl rfl ha.isSl rfl (by first | omega | assumption | (simp only [List.length_nil, List.length_cons, List.length_append, List.length_set, List.length_replicate]; omega) | (simp [List.length_nil, List.length_cons, List.length_append, List.length_set, List.length_replicate]; done) | (simp [List.length_nil, List.length_cons, List.length_append, List.length_set, List.length_replicate]; omega)) up_none ?_
    obtain ⟨ue4, hl4, hd4⟩ := ha.get (k := k) [] (by first | omega | assumption | (simp only [List.length_nil, List.length_cons, List.length_append, List.length_set, List.length_replicate]; omega) | (simp [List.length_nil, List.length_cons, List.length_append, List.length_set, List.length_replicate]; done) | (simp [List.length_nil, List.length_cons, List.length_append, List.length_set, List.length_replicate]; omega))
    have hln4 := hd4.lenle
    refine q_load (p := eptr va k 1) (.inr rfl) ue4 one29 rfl (ldH_ext hE2 hl4) up_none ?_
    refine q_idx (v := ue4) 0 u29 ti2 rfl rfl hd4.isSl rfl (by first | omega | assumption | (simp only [List.length_nil, List.length_cons, List.length_append, List.length_set, List.length_replicate]; omega) | (simp [List.length_nil, List.length_cons, List.length_append, List.length_set, List.length_replicate]; done) | (simp [List.length_nil, List.length_cons, List.length_append, List.length_set, List.length_replicate]; omega)) up_none ?_
    refine q_load (p := eptr ue4 0 1) (.inr rfl) (.int .i64 ((a.getD k []).getD 0 0)) one2 rfl (ldH_ext hE2 (hd4.getI (by first | omega | assumption | (simp only [List.length_nil, List.length_cons, List.length_append, List.length_set, List.length_replicate]; omega) | (simp [List.length_nil, List.length_cons, List.length_append, List.length_set, List.length_replicate]; done) | (simp [List.length_nil, List.length_cons, List.length_append, List.length_set, List.length_replicate]; omega))).1) up_none ?_
    refine r_one (u := (.int .i64 ((a.getD k []).getD 0 0))) (B := w2.heap.size) good_rI u29 ti2 rfl rfl (frI w2.heap.size w2.heap.size _ _ (hd4.getI (by first | omega | assumption | (simp only [List.length_nil, List.length_cons, List.length_append, List.length_set, List.length_replicate]; omega) | (simp [List.length_nil, List.length_cons, List.length_append, List.length_set, List.length_replicate]; done) | (simp [List.length_nil, List.length_cons, List.length_append, List.length_set, List.length_replicate]; omega))).2) (Nat.le_refl _) up_none ?_
    intro v5 w5 hX5 hz5 hO5
    have hzs5 : w2.heap.size ≤ w5.heap.size := hX5.size
    have hE5 : Ext w w5 := hE2.trans hX5
    have hL2_0x5 := hL2_0.ext (o1) hX5
    refine e_appI (v := vo) (a := v5) u29 ti2 rfl rfl rfl hL2_0x5 hE5.size hO5.rd1 (by first | omega | assumption | (simp only [List.length_nil, List.length_cons, List.length_append, List.length_set, List.length_replicate]; omega) | (simp [List.length_nil, List.length_cons, List.length_append, List.length_set, List.length_replicate]; done) | (simp [List.length_nil, List.length_cons, List.length_append, List.length_set, List.length_replicate]; omega)) (by unfold maxLen; first | omega | assumption | (simp only [List.length_nil, List.length_cons, List.length_append, List.length_set, List.length_replicate]; omega) | (simp [List.length_nil, List.length_cons, List.length_append, List.length_set, List.length_replicate]; done) | (simp [List.length_nil, List.length_cons, List.length_append, List.length_set, List.length_replicate]; omega)) up_none ?_
    intro v6 w6 F6 hC6 hF6 hO6
    have hE6 : Ext w w6 := hC6.below hE5 (fun c hc => Nat.le_trans (Nat.le_refl _) (hF6 c hc).1) hE5.size
    have hzs6 : w5.heap.size ≤ w6.heap.size := hC6.size
    have hF7 := hO5.chg (o1) hC6 (fun c hc => by have := hF6 c hc; omega)
    refine q_assign v6 rfl up_none ?_
    refine lw_nil ?_
    refine wp_plain _ [0, 0, 0] rfl ?_
    refine q_move (.int .i64 ((k : Nat) : Int)) rfl up_none ?_
    refine q_add ((k + 1 : Nat) : Int) rfl rfl (w64n (by omega) (by first | omega | assumption | (simp only [List.length_nil, List.length_cons, List.length_append, List.length_set, List.length_replicate]; omega) | (simp [List.length_nil, List.length_cons, List.length_append, List.length_set, List.length_replicate]; done) | (simp [List.length_nil, List.length_cons, List.length_append, List.length_set, List.length_replicate]; omega))) up_none ?_
    refine q_assign (.int .i64 ((k + 1 : Nat) : Int)) rfl up_none ?_
    refine lw_nil ?_
    exact ⟨((k + 1), v6), _, rfl, ⟨rfl, rfl, rfl, trivial⟩, ⟨hE6, (by rw [map_snoc [] (by omega)]; exact hO6.up o1), (by first | omega | assumption | (simp only [List.length_nil, List.length_cons, List.length_append, List.length_set, List.length_replicate]; omega) | (simp [List.length_nil, List.length_cons, List.length_append, List.length_set, List.length_replicate]; done) | (simp [List.length_nil, List.length_cons, List.length_append, List.length_set, List.length_replicate]; omega))⟩, by first | omega | (dsimp only; omega)⟩
  ·
    refine q_lss false rfl rfl (decide_eq_false hc3) up_none ?_
    refine lw_nil ?_
    refine c_cond_f rfl ?_
    refine wp_exit ?_
    refine t_exit ?_
    refine t_exit ?_
    refine c_exit_here ?_
    refine wp_seq ?_
    refine wp_plain _ [0, 0] rfl ?_
    refine q_move vo rfl up_none ?_
    refine q_assign vo rfl up_none ?_
    refine lw_nil ?_
    refine wp_ret ?_
    exact post_ret [2] rfl vo rfl ⟨vo, rfl, hE2, (by have h := hL2_0.up o1; rwa [List.take_of_length_le (by omega)] at h)⟩

/- spec.l07BeginsOf -/
set_option maxHeartbeats 4000000 in
set_option maxRecDepth 100000 in
theorem c_spec_l07BeginsOf (w : World) (va : Value) (a : List (List (List Int))) (ha : Rd (rdL (rdL (rdL rI))) w.heap va a) (hla : a.length ≤ 1000000000000) (h1 : ∀ k, k < a.length → (a.getD k []).length ≤ 1000000000000 ∧ ∀ j, j < (a.getD k []).length → 0 < ((a.getD k []).getD j []).length) :
    Calls Try.prog 88 #[va] w (fun e w' => ∃ v0 : Value, e = .returned (v0) ∧ Ext w w' ∧ Fr (owL (owL rI 2) 29) w.heap.size w'.heap.size w'.heap v0 (begA a)) := by
  refine calls_mk [va] 21 Try.func88 rfl rfl (by simp) ?_
  have hE0 : Ext w w := Ext.refl w
  have hl_va := ha.lenle
  refine wp_seq ?_
  refine wp_plain _ [0] rfl ?_
  refine q_assign (.slice none 0 0) rfl up_none ?_
  refine lw_nil ?_
  refine wp_seq ?_
  refine wp_plain _ [3, 0] rfl ?_
  refine r_nil (owL rI 2) o1 u22 ti29 up_none ?_
  intro v1 w1 hX1 hz1 hO1
  have hzs1 : w.heap.size ≤ w1.heap.size := hX1.size
  have hE1 : Ext w w1 := hE0.trans hX1
  refine q_assign v1 rfl up_none ?_
  refine lw_nil ?_
  refine wp_seq ?_
  refine wp_seq ?_
  refine wp_plain _ [0] rfl ?_
  refine q_assign (.int .i64 ((0 : Nat) : Int)) rfl up_none ?_
  refine lw_nil ?_
  refine wp_block ?_
  refine c_loop (S := Nat × Value) (fun (⟨k, vo⟩ : Nat × Value) => ([(3, vo), (4, (.int .i64 ((k : Nat) : Int))), (0, va)] : List (Nat × Value))) (fun (⟨k, vo⟩ : Nat × Value) (W : World) => Ext w W ∧ Fr (owL (owL rI 2) 29) w.heap.size W.heap.size W.heap vo ((a.take k).map beg) ∧ k ≤ a.length) (fun (⟨k, vo⟩ : Nat × Value) => a.length - k) (0, v1) ⟨rfl, rfl, rfl, trivial⟩ ⟨hE1, hO1.up o2, (by first | omega | assumption | (simp only [List.length_nil, List.length_cons, List.length_append, List.length_set, List.length_replicate]; omega) | (simp [List.length_nil, List.length_cons, List.length_append, List.length_set, List.length_replicate]; done) | (simp [List.length_nil, List.length_cons, List.length_append, List.length_set, List.length_replicate]; omega))⟩ ?_
  clear hE0 hO1 hz1 hX1 hzs1 hE1
  rintro ⟨k, vo⟩ ρ2 w2 ⟨hE2, hL2_0, hp2_0⟩
  have hzs2 : w.heap.size ≤ w2.heap.size := hE2.size
  refine wp_seq ?_
  refine wp_seq ?_
  refine wp_plain _ [0, 0, 0, 0] rfl ?_
  refine q_move (.int .i64 ((k : Nat) : Int)) rfl up_none ?_
  refine q_move va rfl up_none ?_
  refine q_len (v := va) u45 rfl ha.isSl up_none ?_
  by_cases hc3 : ((k : Nat) : Int) < ((a.length : Nat) : Int)
  ·
    refine q_lss true rfl rfl (decide_eq_true hc3) up_none ?_
    refine lw_nil ?_
    refine c_cond_t rfl ?_
    refine wp_skip ?_
    refine wp_seq ?_
    refine wp_block ?_
    refine wp_plain _ [0, 0, 0, 0, 2, 3, 3, 4, 0] rfl ?_
    have hr1 := h1 k (by omega)
    refine q_move vo rfl up_none ?_
    refine q_move va rfl up_none ?_
    refine q_move (.int .i64 ((k : Nat) : Int)) rfl up_none ?_
    refine q_idx (v := va) k u45 ti22 rfl rfl ha.isSl rfl (by first | omega | assumption | (simp only [List.length_nil, List.length_cons, List.length_append, List.length_set, List.length_replicate]; omega) | (simp [List.length_nil, List.length_cons, List.length_append, List.length_set, List.length_replicate]; done) | (simp [List.length_nil, List.length_cons, List.length_append, List.length_set, List.length_replicate]; omega)) up_none ?_
    obtain ⟨ue4, hl4, hd4⟩ := ha.get (k := k) [] (by first | omega | assumption | (simp only [List.length_nil, List.length_cons, List.length_append, List.length_set, List.length_replicate]; omega) | (simp [List.length_nil, List.length_cons, List.length_append, List.length_set, List.length_replicate]; done) | (simp [List.length_nil, List.length_cons, List.length_append, List.length_set, List.length_replicate]; omega))
    have hln4 := hd4.lenle
    refine q_load (p := eptr va k 1) (.inr rfl) ue4 one22 rfl (ldH_ext hE2 hl4) up_none ?_
    refine lw_call 114 [] [] [ue4] rfl rfl cf114 up_none (c_spec_l07Begins _ _ _ (hd4.ext g2 hE2) (by exact hr1.1) (by exact hr1.2)) ?_
    rintro e5 w5 ⟨v5_0, rfl, hX5, hO5_0⟩
    refine ⟨_, rfl, hX5, ?_⟩
    have hzs5 : w2.heap.size ≤ w5.heap.size := hX5.size
    have hE5 : Ext w w5 := hE2.trans hX5
    have hL2_0x5 := hL2_0.ext (o2) hX5
    refine r_one (u := v5_0) (B := w2.heap.size) o1 u22 ti29 rfl rfl hO5_0 (by first | exact Nat.le_refl _ | omega) up_none ?_
    intro v6 w6 hX6 hz6 hO6
    have hzs6 : w5.heap.size ≤ w6.heap.size := hX6.size
    have hE6 : Ext w w6 := hE5.trans hX6
    have hL2_0x6 := hL2_0x5.ext (o2) hX6
    refine e_appF o1 (v := vo) (a := v6) u22 ti29 rfl rfl rfl hL2_0x6 hE6.size hO6 (by omega) hE2.size (by first | omega | assumption | (simp only [List.length_nil, List.length_cons, List.length_append, List.length_set, List.length_replicate]; omega) | (simp [List.length_nil, List.length_cons, List.length_append, List.length_set, List.length_replicate]; done) | (simp [List.length_nil, List.length_cons, List.length_append, List.length_set, List.length_replicate]; omega)) (by unfold maxLen; first | omega | assumption | (simp only [List.length_nil, List.length_cons, List.length_append, List.length_set, List.length_replicate]; omega) | (simp [List.length_nil, List.length_cons, List.length_append, List.length_set, List.length_replicate]; done) | (simp [List.length_nil, List.length_cons, List.length_append, List.length_set, List.length_replicate]; omega)) up_none ?_
    intro v7 w7 F7 hC7 hF7 hO7
    have hE7 : Ext w w7 := hC7.below hE6 (fun c hc => Nat.le_trans (Nat.le_refl _) (hF7 c hc).1) hE6.size
    have hzs7 : w6.heap.size ≤ w7.heap.size := hC7.size
    refine q_assign v7 rfl up_none ?_
    refine lw_nil ?_
    refine wp_plain _ [0, 0, 0] rfl ?_
    refine q_move (.int .i64 ((k : Nat) : Int)) rfl up_none ?_
    refine q_add ((k + 1 : Nat) : Int) rfl rfl (w64n (by omega) (by first | omega | assumption | (simp only [List.length_nil, List.length_cons, List.length_append, List.length_set, List.length_replicate]; omega) | (simp [List.length_nil, List.length_cons, List.length_append, List.length_set, List.length_replicate]; done) | (simp [List.length_nil, List.length_cons, List.length_append, List.length_set, List.length_replicate]; omega))) up_none ?_
    refine q_assign (.int .i64 ((k + 1 : Nat) : Int)) rfl up_none ?_
    refine lw_nil ?_
    exact ⟨((k + 1), v7), _, rfl, ⟨rfl, rfl, rfl, trivial⟩, ⟨hE7, (by rw [map_snoc [] (by omega)]; exact hO7.up o2), (by first | omega | assumption | (simp only [List.length_nil, List.length_cons, List.length_append, List.length_set, List.length_replicate]; omega) | (simp [List.length_nil, List.length_cons, List.length_append, List.length_set, List.length_replicate]; done) | (simp [List.length_nil, List.length_cons, List.length_append, List.length_set, List.length_replicate]; omega))⟩, by first | omega | (dsimp only; omega)⟩
  ·
    refine q_lss false rfl rfl (decide_eq_false hc3) up_none ?_
    refine lw_nil ?_
    refine c_cond_f rfl ?_
    refine wp_exit ?_
    refine t_exit ?_
    refine t_exit ?_
    refine c_exit_here ?_
    refine wp_seq ?_
    refine wp_plain _ [0, 0] rfl ?_
    refine q_move vo rfl up_none ?_
    refine q_assign vo rfl up_none ?_
    refine lw_nil ?_
    refine wp_ret ?_
    exact post_ret [2] rfl vo rfl ⟨vo, rfl, hE2, (by have h := hL2_0.up o2; rwa [List.take_of_length_le (by omega)] at h)⟩

/- spec.l07Dot -/
set_option maxHeartbeats 4000000 in
set_option maxRecDepth 100000 in
theorem c_spec_l07Dot (w : World) (vr : Value) (r : List (List Int)) (vx : Value) (x : List (List Int)) (k : Nat) (hr : Rd (rdL (rdL rI)) w.heap vr r) (hx : Rd (rdL (rdL rI)) w.heap vx x) (_hk : k ≤ 1000000000000) (hl : r.length ≤ x.length) (h1 : ∀ j, j < r.length → k < (r.getD j []).length ∧ k < (x.getD j []).length) (hk : k ≤ 1000) :
    Calls Try.prog 117 #[vr, vx, .int .i64 ((k : Nat) : Int)] w (fun e w' => e = .returned (.int .i64 (dotS r x k r.length)) ∧ Ext w w') := by
  refine calls_mk [vr, vx, .int .i64 ((k : Nat) : Int)] 41 Try.func117 rfl rfl (by simp) ?_
  have hE0 : Ext w w := Ext.refl w
  have hl_vr := hr.lenle
  have hl_vx := hx.lenle
  refine wp_seq ?_
  refine wp_plain _ [0] rfl ?_
  refine q_assign (.int .i64 ((0 : Nat) : Int)) rfl up_none ?_
  refine lw_nil ?_
  refine wp_seq ?_
  refine wp_plain _ [0] rfl ?_
  refine q_assign (.int .i64 ((0 : Nat) : Int)) rfl up_none ?_
  refine lw_nil ?_
  refine wp_seq ?_
  refine wp_seq ?_
  refine wp_plain _ [0] rfl ?_
  refine q_assign (.int .i64 ((0 : Nat) : Int)) rfl up_none ?_
  refine lw_nil ?_
  refine wp_block ?_
  refine c_loop (S := Nat × Int) (fun (⟨j, s⟩ : Nat × Int) => ([(7, (.int .i64 s)), (8, (.int .i64 ((j : Nat) : Int))), (0, vr), (1, vx), (2, (.int .i64 ((k : Nat) : Int)))] : List (Nat × Value))) (fun (⟨j, s⟩ : Nat × Int) (W : World) => Ext w W ∧ j ≤ r.length ∧ s = dotS r x k j ∧ (0 ≤ s ∧ s < 1000003)) (fun (⟨j, s⟩ : Nat × Int) => r.length - j) (0, ((0 : Nat) : Int)) ⟨rfl, rfl, rfl, rfl, rfl, trivial⟩ ⟨hE0, (by first | omega | assumption | (simp only [List.length_nil, List.length_cons, List.length_append, List.length_set, List.length_replicate]; omega) | (simp [List.length_nil, List.length_cons, List.length_append, List.length_set, List.length_replicate]; done) | (simp [List.length_nil, List.length_cons, List.length_append, List.length_set, List.length_replicate]; omega)), (by rfl), (by omega)⟩ ?_
  clear hE0
  rintro ⟨j, s⟩ ρ1 w1 ⟨hE1, hp1_0, hs, hsr⟩
  have hzs1 : w.heap.size ≤ w1.heap.size := hE1.size
  refine wp_seq ?_
  refine wp_seq ?_
  refine wp_plain _ [0, 0, 0, 0] rfl ?_
  refine q_move (.int .i64 ((j : Nat) : Int)) rfl up_none ?_
  refine q_move vr rfl up_none ?_
  refine q_len (v := vr) u22 rfl hr.isSl up_none ?_
  by_cases hc2 : ((j : Nat) : Int) < ((r.length : Nat) : Int)
  ·
    refine q_lss true rfl rfl (decide_eq_true hc2) up_none ?_
    refine lw_nil ?_
    refine c_cond_t rfl ?_
    refine wp_skip ?_
    refine wp_seq ?_
    refine wp_block ?_
    refine wp_seq ?_
    refine wp_plain _ [0] rfl ?_
    refine q_assign (.int .i64 ((0 : Nat) : Int)) rfl up_none ?_
    refine lw_nil ?_
    refine wp_block ?_
    refine c_loop (S := Nat × Int) (fun (⟨i, t⟩ : Nat × Int) => ([(7, (.int .i64 t)), (9, (.int .i64 ((i : Nat) : Int))), (0, vr), (1, vx), (2, (.int .i64 ((k : Nat) : Int))), (8, (.int .i64 ((j : Nat) : Int)))] : List (Nat × Value))) (fun (⟨i, t⟩ : Nat × Int) (W : World) => Ext w W ∧ i ≤ k + 1 ∧ t = dotr (r.getD j []) (x.getD j []) k s i ∧ (0 ≤ t ∧ t < 1000003)) (fun (⟨i, t⟩ : Nat × Int) => k + 1 - i) (0, s) ⟨rfl, rfl, rfl, rfl, rfl, rfl, trivial⟩ ⟨hE1, (by first | omega | assumption | (simp only [List.length_nil, List.length_cons, List.length_append, List.length_set, List.length_replicate]; omega) | (simp [List.length_nil, List.length_cons, List.length_append, List.length_set, List.length_replicate]; done) | (simp [List.length_nil, List.length_cons, List.length_append, List.length_set, List.length_replicate]; omega)), (by rfl), (by exact hsr)⟩ ?_
    clear hE1 hzs1
    rintro ⟨i, t⟩ ρ3 w3 ⟨hE3, hp3_0, ht, htr⟩
    have hzs3 : w.heap.size ≤ w3.heap.size := hE3.size
    refine wp_seq ?_
    refine wp_seq ?_
    refine wp_plain _ [0, 0, 0] rfl ?_
    refine q_move (.int .i64 ((i : Nat) : Int)) rfl up_none ?_
    refine q_move (.int .i64 ((k : Nat) : Int)) rfl up_none ?_
    by_cases hc4 : ((i : Nat) : Int) ≤ ((k : Nat) : Int)
    ·
      refine q_leq true rfl rfl (decide_eq_true hc4) up_none ?_
      refine lw_nil ?_
      refine c_cond_t rfl ?_
      refine wp_skip ?_
      refine wp_seq ?_
      refine wp_block ?_
      refine wp_draw _ [0, 0, 0, 0, 1, 0, 0, 1, 0, 0, 0, 1, 0, 0, 0, 0, 1, 0, 0, 0] mixed (by kernel_rfl) ?_
      have hh := h1 j (by omega)
      refine q_move (.int .i64 t) rfl up_none ?_
      refine q_move vr rfl up_none ?_
      refine q_move (.int .i64 ((j : Nat) : Int)) rfl up_none ?_
      refine q_idx (v := vr) j u22 ti29 rfl rfl hr.isSl rfl (by first | omega | assumption | (simp only [List.length_nil, List.length_cons, List.length_append, List.length_set, List.length_replicate]; omega) | (simp [List.length_nil, List.length_cons, List.length_append, List.length_set, List.length_replicate]; done) | (simp [List.length_nil, List.length_cons, List.length_append, List.length_set, List.length_replicate]; omega)) up_none ?_
      obtain ⟨ue5, hl5, hd5⟩ := hr.get (k := j) [] (by first | omega | assumption | (simp only [List.length_nil, List.length_cons, List.length_append, List.length_set, List.length_replicate]; omega) | (simp [List.length_nil, List.length_cons, List.length_append, List.length_set, List.length_replicate]; done) | (simp [List.length_nil, List.length_cons, List.length_append, List.length_set, List.length_replicate]; omega))
      have hln5 := hd5.lenle
      refine q_load (p := eptr vr j 1) (.inl rfl) ue5 one29 rfl (ldH_ext hE3.drew hl5) up_none ?_
      refine q_move (.int .i64 ((i : Nat) : Int)) rfl up_none ?_
      refine q_idx (v := ue5) i u29 ti2 rfl rfl hd5.isSl rfl (by first | omega | assumption | (simp only [List.length_nil, List.length_cons, List.length_append, List.length_set, List.length_replicate]; omega) | (simp [List.length_nil, List.length_cons, List.length_append, List.length_set, List.length_replicate]; done) | (simp [List.length_nil, List.length_cons, List.length_append, List.length_set, List.length_replicate]; omega)) up_none ?_
      refine q_load (p := eptr ue5 i 1) (.inl rfl) (.int .i64 ((r.getD j []).getD i 0)) one2 rfl (ldH_ext hE3.drew (hd5.getI (by first | omega | assumption | (simp only [List.length_nil, List.length_cons, List.length_append, List.length_set, List.length_replicate]; omega) | (simp [List.length_nil, List.length_cons, List.length_append, List.length_set, List.length_replicate]; done) | (simp [List.length_nil, List.length_cons, List.length_append, List.length_set, List.length_replicate]; omega))).1) up_none ?_
      refine q_move vx rfl up_none ?_
      refine q_move (.int .i64 ((j : Nat) : Int)) rfl up_none ?_
      refine q_idx (v := vx) j u22 ti29 rfl rfl hx.isSl rfl (by first | omega | assumption | (simp only [List.length_nil, List.length_cons, List.length_append, List.length_set, List.length_replicate]; omega) | (simp [List.length_nil, List.length_cons, List.length_append, List.length_set, List.length_replicate]; done) | (simp [List.length_nil, List.length_cons, List.length_append, List.length_set, List.length_replicate]; omega)) up_none ?_
      obtain ⟨ue6, hl6, hd6⟩ := hx.get (k := j) [] (by first | omega | assumption | (simp only [List.length_nil, List.length_cons, List.length_append, List.length_set, List.length_replicate]; omega) | (simp [List.length_nil, List.length_cons, List.length_append, List.length_set, List.length_replicate]; done) | (simp [List.length_nil, List.length_cons, List.length_append, List.length_set, List.length_replicate]; omega))
      have hln6 := hd6.lenle
      refine q_load (p := eptr vx j 1) (.inl rfl) ue6 one29 rfl (ldH_ext hE3.drew hl6) up_none ?_
      refine q_move (.int .i64 ((k : Nat) : Int)) rfl up_none ?_
      refine q_move (.int .i64 ((i : Nat) : Int)) rfl up_none ?_
      refine q_sub ((k - i : Nat) : Int) rfl rfl (w64n (by omega) (by omega)) up_none ?_
      refine q_idx (v := ue6) (k - i) u29 ti2 rfl rfl hd6.isSl rfl (by first | omega | assumption | (simp only [List.length_nil, List.length_cons, List.length_append, List.length_set, List.length_replicate]; omega) | (simp [List.length_nil, List.length_cons, List.length_append, List.length_set, List.length_replicate]; done) | (simp [List.length_nil, List.length_cons, List.length_append, List.length_set, List.length_replicate]; omega)) up_none ?_
      refine q_load (p := eptr ue6 (k - i) 1) (.inl rfl) (.int .i64 ((x.getD j []).getD (k - i) 0)) one2 rfl (ldH_ext hE3.drew (hd6.getI (by first | omega | assumption | (simp only [List.length_nil, List.length_cons, List.length_append, List.length_set, List.length_replicate]; omega) | (simp [List.length_nil, List.length_cons, List.length_append, List.length_set, List.length_replicate]; done) | (simp [List.length_nil, List.length_cons, List.length_append, List.length_set, List.length_replicate]; omega))).1) up_none ?_
      refine lw_callq 40 [] [] [(.int .i64 ((r.getD j []).getD i 0)), (.int .i64 ((x.getD j []).getD (k - i) 0))] rfl rfl cf40 up_none (.int .i64 (md (((r.getD j []).getD i 0) * ((x.getD j []).getD (k - i) 0)))) (fun wq => c_spec_Times wq _ _ (hd5.getI (by first | omega | assumption | (simp only [List.length_nil, List.length_cons, List.length_append, List.length_set, List.length_replicate]; omega) | (simp [List.length_nil, List.length_cons, List.length_append, List.length_set, List.length_replicate]; done) | (simp [List.length_nil, List.length_cons, List.length_append, List.length_set, List.length_replicate]; omega))).2 (hd6.getI (by first | omega | assumption | (simp only [List.length_nil, List.length_cons, List.length_append, List.length_set, List.length_replicate]; omega) | (simp [List.length_nil, List.length_cons, List.length_append, List.length_set, List.length_replicate]; done) | (simp [List.length_nil, List.length_cons, List.length_append, List.length_set, List.length_replicate]; omega))).2) ?_
      refine lw_callq 85 [] [] [(.int .i64 t), (.int .i64 (md (((r.getD j []).getD i 0) * ((x.getD j []).getD (k - i) 0))))] rfl rfl cf85 up_none (.int .i64 (md (t + (md (((r.getD j []).getD i 0) * ((x.getD j []).getD (k - i) 0)))))) (fun wq => c_spec_Plus wq _ _ (by omega) (md_rng _)) ?_
      refine q_assign (.int .i64 (md (t + (md (((r.getD j []).getD i 0) * ((x.getD j []).getD (k - i) 0)))))) rfl up_none ?_
      refine lw_nil ?_
      refine wp_plain _ [0, 0, 0] rfl ?_
      refine q_move (.int .i64 ((i : Nat) : Int)) rfl up_none ?_
      refine q_add ((i + 1 : Nat) : Int) rfl rfl (w64n (by omega) (by first | omega | assumption | (simp only [List.length_nil, List.length_cons, List.length_append, List.length_set, List.length_replicate]; omega) | (simp [List.length_nil, List.length_cons, List.length_append, List.length_set, List.length_replicate]; done) | (simp [List.length_nil, List.length_cons, List.length_append, List.length_set, List.length_replicate]; omega))) up_none ?_
      refine q_assign (.int .i64 ((i + 1 : Nat) : Int)) rfl up_none ?_
      refine lw_nil ?_
      exact ⟨((i + 1), (md (t + (md (((r.getD j []).getD i 0) * ((x.getD j []).getD (k - i) 0)))))), _, rfl, ⟨rfl, rfl, rfl, rfl, rfl, rfl, trivial⟩, ⟨hE3.drew, (by first | omega | assumption | (simp only [List.length_nil, List.length_cons, List.length_append, List.length_set, List.length_replicate]; omega) | (simp [List.length_nil, List.length_cons, List.length_append, List.length_set, List.length_replicate]; done) | (simp [List.length_nil, List.length_cons, List.length_append, List.length_set, List.length_replicate]; omega)), (by rw [md_addr, ht]; rfl), (by exact md_num _)⟩, by first | omega | (dsimp only; omega)⟩
    ·
      refine q_leq false rfl rfl (decide_eq_false hc4) up_none ?_
      refine lw_nil ?_
      refine c_cond_f rfl ?_
      refine wp_exit ?_
      refine t_exit ?_
      refine t_exit ?_
      refine c_exit_here ?_
      refine wp_plain _ [0, 0, 0] rfl ?_
      refine q_move (.int .i64 ((j : Nat) : Int)) rfl up_none ?_
      refine q_add ((j + 1 : Nat) : Int) rfl rfl (w64n (by omega) (by first | omega | assumption | (simp only [List.length_nil, List.length_cons, List.length_append, List.length_set, List.length_replicate]; omega) | (simp [List.length_nil, List.length_cons, List.length_append, List.length_set, List.length_replicate]; done) | (simp [List.length_nil, List.length_cons, List.length_append, List.length_set, List.length_replicate]; omega))) up_none ?_
      refine q_assign (.int .i64 ((j + 1 : Nat) : Int)) rfl up_none ?_
      refine lw_nil ?_
      exact ⟨((j + 1), t), _, rfl, ⟨rfl, rfl, rfl, rfl, rfl, trivial⟩, ⟨hE3, (by first | omega | assumption | (simp only [List.length_nil, List.length_cons, List.length_append, List.length_set, List.length_replicate]; omega) | (simp [List.length_nil, List.length_cons, List.length_append, List.length_set, List.length_replicate]; done) | (simp [List.length_nil, List.length_cons, List.length_append, List.length_set, List.length_replicate]; omega)), (by rw [ht, show i = k + 1 from by omega, hs]; rfl), (by exact htr)⟩, by first | omega | (dsimp only; omega)⟩
  ·
    refine q_lss false rfl rfl (decide_eq_false hc2) up_none ?_
    refine lw_nil ?_
    refine c_cond_f rfl ?_
    refine wp_exit ?_
    refine t_exit ?_
    refine t_exit ?_
    refine c_exit_here ?_
    refine wp_seq ?_
    refine wp_plain _ [0, 0] rfl ?_
    refine q_move (.int .i64 s) rfl up_none ?_
    refine q_assign (.int .i64 s) rfl up_none ?_
    refine lw_nil ?_
    refine wp_ret ?_
    exact post_ret [6] rfl (.int .i64 s) rfl ⟨(ret_int (by rw [hs, show j = r.length from by omega])), hE1⟩

/- spec.l01Const -/
set_option maxHeartbeats 4000000 in
set_option maxRecDepth 100000 in
theorem c_spec_l01Const (w : World) (x : Int) (K : Nat) (_hx : -9223372036854775808 ≤ x ∧ x ≤ 9223372036854775807) (_hK : K ≤ 1000000000000) (hK : K ≤ 1000000000) :
    Calls Try.prog 115 #[.int .i64 x, .int .i64 ((K : Nat) : Int)] w (fun e w' => ∃ v0 : Value, e = .returned (v0) ∧ Ext w w' ∧ Fr (owL rI 2) w.heap.size w'.heap.size w'.heap v0 ((List.replicate K 0).set 0 x)) := by
  refine calls_mk [.int .i64 x, .int .i64 ((K : Nat) : Int)] 14 Try.func115 rfl rfl (by simp) ?_
  have hE0 : Ext w w := Ext.refl w
  refine wp_seq ?_
  refine wp_plain _ [0] rfl ?_
  refine q_assign (.slice none 0 0) rfl up_none ?_
  refine lw_nil ?_
  refine wp_seq ?_
  refine wp_plain _ [0, 3, 0] rfl ?_
  refine q_move (.int .i64 ((K : Nat) : Int)) rfl up_none ?_
  refine r_make (n := K) u29 ti2 rfl rfl rfl (by first | omega | assumption | (simp only [List.length_nil, List.length_cons, List.length_append, List.length_set, List.length_replicate]; omega) | (simp [List.length_nil, List.length_cons, List.length_append, List.length_set, List.length_replicate]; done) | (simp [List.length_nil, List.length_cons, List.length_append, List.length_set, List.length_replicate]; omega)) up_none ?_
  intro v1 w1 hX1 hz1 hO1
  have hzs1 : w.heap.size ≤ w1.heap.size := hX1.size
  have hE1 : Ext w w1 := hE0.trans hX1
  refine q_assign v1 rfl up_none ?_
  refine lw_nil ?_
  refine wp_seq ?_
  refine wp_seq ?_
  refine wp_plain _ [0, 0] rfl ?_
  refine q_move (.int .i64 ((K : Nat) : Int)) rfl up_none ?_
  by_cases hc2 : ((0 : Nat) : Int) < ((K : Nat) : Int)
  ·
    refine q_gtr true rfl rfl (decide_eq_true hc2) up_none ?_
    refine lw_nil ?_
    refine c_cond_t rfl ?_
    refine wp_plain _ [0, 0, 0, 4] rfl ?_
    refine q_move v1 rfl up_none ?_
    refine q_move (.int .i64 x) rfl up_none ?_
    refine q_idx (v := v1) 0 u29 ti2 rfl rfl hO1.isSl rfl (by first | omega | assumption | (simp only [List.length_nil, List.length_cons, List.length_append, List.length_set, List.length_replicate]; omega) | (simp [List.length_nil, List.length_cons, List.length_append, List.length_set, List.length_replicate]; done) | (simp [List.length_nil, List.length_cons, List.length_append, List.length_set, List.length_replicate]; omega)) up_none ?_
    refine e_setI (v := v1) (w := w1) sz2 rfl rfl _hx hO1 (by first | omega | assumption | (simp only [List.length_nil, List.length_cons, List.length_append, List.length_set, List.length_replicate]; omega) | (simp [List.length_nil, List.length_cons, List.length_append, List.length_set, List.length_replicate]; done) | (simp [List.length_nil, List.length_cons, List.length_append, List.length_set, List.length_replicate]; omega)) up_none ?_
    intro w3 F3 hC3 hz3 hF3 hO3
    have hE3 : Ext w w3 := hC3.below hE1 (fun c hc => Nat.le_trans (Nat.le_refl _) (hF3 c hc).1) hE1.size
    have hzs3 : w1.heap.size ≤ w3.heap.size := hC3.size
    refine lw_nil ?_
    refine wp_seq ?_
    refine wp_plain _ [0, 0] rfl ?_
    refine q_move v1 rfl up_none ?_
    refine q_assign v1 rfl up_none ?_
    refine lw_nil ?_
    refine wp_ret ?_
    exact post_ret [4] rfl v1 rfl ⟨v1, rfl, hE3, (by exact hO3.up o1)⟩
  ·
    refine q_gtr false rfl rfl (decide_eq_false hc2) up_none ?_
    refine lw_nil ?_
    refine c_cond_f rfl ?_
    refine wp_skip ?_
    refine wp_seq ?_
    refine wp_plain _ [0, 0] rfl ?_
    refine q_move v1 rfl up_none ?_
    refine q_assign v1 rfl up_none ?_
    refine lw_nil ?_
    refine wp_ret ?_
    exact post_ret [4] rfl v1 rfl ⟨v1, rfl, hE1, (by have h := hO1.up o1; obtain rfl : K = 0 := (by omega); exact h)⟩

/- spec.l07SolveSeries -/
set_option maxHeartbeats 4000000 in
set_option maxRecDepth 100000 in
theorem c_spec_l07SolveSeries (w : World) (va : Value) (a : List (List (List Int))) (vb : Value) (b : List (List Int)) (ha : Rd (rdL (rdL (rdL rI))) w.heap va a) (hb : Rd (rdL (rdL rI)) w.heap vb b) (hP0 : ∃ N, SysP a b N ∧ (0 < a.length → N = (b.getD 0 []).length)) (hd : detM (begA a) ≠ 0) :
    Calls Try.prog 89 #[va, vb] w (fun e w' => ∃ v0 : Value, e = .returned (v0) ∧ Ext w w' ∧ Fr (owL (owL rI 2) 29) w.heap.size w'.heap.size w'.heap v0 (solS a b)) := by
  refine calls_mk [va, vb] 89 Try.func89 rfl rfl (by simp) ?_
  have hE0 : Ext w w := Ext.refl w
  have hl_va := ha.lenle
  have hl_vb := hb.lenle
  obtain ⟨N, hP, hN⟩ := hP0
  have h6 := hP.n6
  have hbl := hP.bl
  have hN1 := hP.n1
  have hN13 := hP.n13
  have hga := begA_len a
  refine wp_seq ?_
  refine wp_plain _ [0] rfl ?_
  refine q_assign (.slice none 0 0) rfl up_none ?_
  refine lw_nil ?_
  refine wp_seq ?_
  refine wp_plain _ [3, 0] rfl ?_
  refine r_nil (owL rI 2) o1 u22 ti29 up_none ?_
  intro v1 w1 hX1 hz1 hO1
  have hzs1 : w.heap.size ≤ w1.heap.size := hX1.size
  have hE1 : Ext w w1 := hE0.trans hX1
  refine q_assign v1 rfl up_none ?_
  refine lw_nil ?_
  refine wp_seq ?_
  refine wp_seq ?_
  refine wp_plain _ [0] rfl ?_
  refine q_assign (.int .i64 ((0 : Nat) : Int)) rfl up_none ?_
  refine lw_nil ?_
  refine wp_block ?_
  refine c_loop (S := Nat × Value) (fun (⟨i, vo⟩ : Nat × Value) => ([(5, vo), (6, (.int .i64 ((i : Nat) : Int))), (0, va), (1, vb)] : List (Nat × Value))) (fun (⟨i, vo⟩ : Nat × Value) (W : World) => Ext w W ∧ Fr (owL (owL rI 2) 29) w.heap.size W.heap.size W.heap vo (List.replicate i (List.replicate N (0 : Int))) ∧ i ≤ b.length) (fun (⟨i, vo⟩ : Nat × Value) => b.length - i) (0, v1) ⟨rfl, rfl, rfl, rfl, trivial⟩ ⟨hE1, hO1.up o2, (by first | omega | assumption | (simp only [List.length_nil, List.length_cons, List.length_append, List.length_set, List.length_replicate, xS_len, restS_len]; omega) | (simp [List.length_nil, List.length_cons, List.length_append, List.length_set, List.length_replicate, xS_len, restS_len]; done) | (simp [List.length_nil, List.length_cons, List.length_append, List.length_set, List.length_replicate, xS_len, restS_len]; omega))⟩ ?_
  clear hE0 hO1 hz1 hX1 hzs1 hE1
  rintro ⟨i, vo⟩ ρ2 w2 ⟨hE2, hL2_0, hp2_0⟩
  have hzs2 : w.heap.size ≤ w2.heap.size := hE2.size
  refine wp_seq ?_
  refine wp_seq ?_
  refine wp_plain _ [0, 0, 0, 0] rfl ?_
  refine q_move (.int .i64 ((i : Nat) : Int)) rfl up_none ?_
  refine q_move vb rfl up_none ?_
  refine q_len (v := vb) u22 rfl hb.isSl up_none ?_
  by_cases hc3 : ((i : Nat) : Int) < ((b.length : Nat) : Int)
  ·
    refine q_lss true rfl rfl (decide_eq_true hc3) up_none ?_
    refine lw_nil ?_
    refine c_cond_t rfl ?_
    refine wp_skip ?_
    refine wp_seq ?_
    refine wp_block ?_
    refine wp_plain _ [0, 0, 0, 0, 2, 0, 3, 3, 4, 0] rfl ?_
    have hbi := (hP.bser i (by omega)).1
    refine q_move vo rfl up_none ?_
    refine q_move vb rfl up_none ?_
    refine q_move (.int .i64 ((i : Nat) : Int)) rfl up_none ?_
    refine q_idx (v := vb) i u22 ti29 rfl rfl hb.isSl rfl (by first | omega | assumption | (simp only [List.length_nil, List.length_cons, List.length_append, List.length_set, List.length_replicate, xS_len, restS_len]; omega) | (simp [List.length_nil, List.length_cons, List.length_append, List.length_set, List.length_replicate, xS_len, restS_len]; done) | (simp [List.length_nil, List.length_cons, List.length_append, List.length_set, List.length_replicate, xS_len, restS_len]; omega)) up_none ?_
    obtain ⟨ue4, hl4, hd4⟩ := hb.get (k := i) [] (by first | omega | assumption | (simp only [List.length_nil, List.length_cons, List.length_append, List.length_set, List.length_replicate, xS_len, restS_len]; omega) | (simp [List.length_nil, List.length_cons, List.length_append, List.length_set, List.length_replicate, xS_len, restS_len]; done) | (simp [List.length_nil, List.length_cons, List.length_append, List.length_set, List.length_replicate, xS_len, restS_len]; omega))
    have hln4 := hd4.lenle
    refine q_load (p := eptr vb i 1) (.inr rfl) ue4 one29 rfl (ldH_ext hE2 hl4) up_none ?_
    refine q_len (v := ue4) u29 rfl hd4.isSl up_none ?_
    refine lw_call 115 [] [] [(.int .i64 ((0 : Nat) : Int)), (.int .i64 (((b.getD i []).length : Nat) : Int))] rfl rfl cf115 up_none (c_spec_l01Const _ _ ((b.getD i []).length) (by omega) (by first | omega | assumption | (simp only [List.length_nil, List.length_cons, List.length_append, List.length_set, List.length_replicate, xS_len, restS_len]; omega) | (simp [List.length_nil, List.length_cons, List.length_append, List.length_set, List.length_replicate, xS_len, restS_len]; done) | (simp [List.length_nil, List.length_cons, List.length_append, List.length_set, List.length_replicate, xS_len, restS_len]; omega)) (by omega)) ?_
    rintro e5 w5 ⟨v5_0, rfl, hX5, hO5_0⟩
    refine ⟨_, rfl, hX5, ?_⟩
    have hzs5 : w2.heap.size ≤ w5.heap.size := hX5.size
    have hE5 : Ext w w5 := hE2.trans hX5
    have hL2_0x5 := hL2_0.ext (o2) hX5
    refine r_one (u := v5_0) (B := w2.heap.size) o1 u22 ti29 rfl rfl hO5_0 (by first | exact Nat.le_refl _ | omega) up_none ?_
    intro v6 w6 hX6 hz6 hO6
    have hzs6 : w5.heap.size ≤ w6.heap.size := hX6.size
    have hE6 : Ext w w6 := hE5.trans hX6
    have hL2_0x6 := hL2_0x5.ext (o2) hX6
    refine e_appF o1 (v := vo) (a := v6) u22 ti29 rfl rfl rfl hL2_0x6 hE6.size hO6 (by omega) hE2.size (by first | omega | assumption | (simp only [List.length_nil, List.length_cons, List.length_append, List.length_set, List.length_replicate, xS_len, restS_len]; omega) | (simp [List.length_nil, List.length_cons, List.length_append, List.length_set, List.length_replicate, xS_len, restS_len]; done) | (simp [List.length_nil, List.length_cons, List.length_append, List.length_set, List.length_replicate, xS_len, restS_len]; omega)) (by unfold maxLen; first | omega | assumption | (simp only [List.length_nil, List.length_cons, List.length_append, List.length_set, List.length_replicate, xS_len, restS_len]; omega) | (simp [List.length_nil, List.length_cons, List.length_append, List.length_set, List.length_replicate, xS_len, restS_len]; done) | (simp [List.length_nil, List.length_cons, List.length_append, List.length_set, List.length_replicate, xS_len, restS_len]; omega)) up_none ?_
    intro v7 w7 F7 hC7 hF7 hO7
    have hE7 : Ext w w7 := hC7.below hE6 (fun c hc => Nat.le_trans (Nat.le_refl _) (hF7 c hc).1) hE6.size
    have hzs7 : w6.heap.size ≤ w7.heap.size := hC7.size
    refine q_assign v7 rfl up_none ?_
    refine lw_nil ?_
    refine wp_plain _ [0, 0, 0] rfl ?_
    refine q_move (.int .i64 ((i : Nat) : Int)) rfl up_none ?_
    refine q_add ((i + 1 : Nat) : Int) rfl rfl (w64n (by omega) (by first | omega | assumption | (simp only [List.length_nil, List.length_cons, List.length_append, List.length_set, List.length_replicate, xS_len, restS_len]; omega) | (simp [List.length_nil, List.length_cons, List.length_append, List.length_set, List.length_replicate, xS_len, restS_len]; done) | (simp [List.length_nil, List.length_cons, List.length_append, List.length_set, List.length_replicate, xS_len, restS_len]; omega))) up_none ?_
    refine q_assign (.int .i64 ((i + 1 : Nat) : Int)) rfl up_none ?_
    refine lw_nil ?_
    exact ⟨((i + 1), v7), _, rfl, ⟨rfl, rfl, rfl, rfl, trivial⟩, ⟨hE7, (by rw [List.replicate_succ']; have h := hO7.up o2; rw [cst0 hbi] at h; exact h), (by first | omega | assumption | (simp only [List.length_nil, List.length_cons, List.length_append, List.length_set, List.length_replicate, xS_len, restS_len]; omega) | (simp [List.length_nil, List.length_cons, List.length_append, List.length_set, List.length_replicate, xS_len, restS_len]; done) | (simp [List.length_nil, List.length_cons, List.length_append, List.length_set, List.length_replicate, xS_len, restS_len]; omega))⟩, by first | omega | (dsimp only; omega)⟩
  ·
    refine q_lss false rfl rfl (decide_eq_false hc3) up_none ?_
    refine lw_nil ?_
    refine c_cond_f rfl ?_
    refine wp_exit ?_
    refine t_exit ?_
    refine t_exit ?_
    refine c_exit_here ?_
    refine wp_seq ?_
    refine wp_plain _ [0, 3, 0] rfl ?_
    refine q_move va rfl up_none ?_
    refine lw_call 88 [] [] [va] rfl rfl cf88 up_none (c_spec_l07BeginsOf _ _ _ (ha.ext g3 hE2) (by omega) (by intro r hr; have := hP.row r hr; exact ⟨by omega, fun j hj => by have := (hP.ser r j hr (by omega)).1; omega⟩)) ?_
    rintro e8 w8 ⟨v8_0, rfl, hX8, hO8_0⟩
    refine ⟨_, rfl, hX8, ?_⟩
    have hzs8 : w2.heap.size ≤ w8.heap.size := hX8.size
    have hE8 : Ext w w8 := hE2.trans hX8
    have hL2_0x8 := hL2_0.ext (o2) hX8
    refine q_assign v8_0 rfl up_none ?_
    refine lw_nil ?_
    refine wp_seq ?_
    refine wp_seq ?_
    refine wp_plain _ [0] rfl ?_
    refine q_assign (.int .i64 ((0 : Nat) : Int)) rfl up_none ?_
    refine lw_nil ?_
    refine wp_block ?_
    refine c_loop (S := Nat) (fun (k : Nat) => ([(8, (.int .i64 ((k : Nat) : Int))), (0, va), (1, vb), (5, vo), (7, v8_0)] : List (Nat × Value))) (fun (k : Nat) (W : World) => Ext w W ∧ Fr (owL (owL rI 2) 29) w.heap.size w2.heap.size W.heap vo (xS a b N k) ∧ Fr (owL (owL rI 2) 29) w2.heap.size W.heap.size W.heap v8_0 (begA a) ∧ k ≤ N ∧ w2.heap.size ≤ W.heap.size) (fun (k : Nat) => N - k) 0 ⟨rfl, rfl, rfl, rfl, rfl, trivial⟩ ⟨hE8, (by have h := hL2_0x8; rw [show i = a.length from by omega] at h; exact h), hO8_0.up o2, (by first | omega | assumption | (simp only [List.length_nil, List.length_cons, List.length_append, List.length_set, List.length_replicate, xS_len, restS_len]; omega) | (simp [List.length_nil, List.length_cons, List.length_append, List.length_set, List.length_replicate, xS_len, restS_len]; done) | (simp [List.length_nil, List.length_cons, List.length_append, List.length_set, List.length_replicate, xS_len, restS_len]; omega)), (by omega)⟩ ?_
    clear hL2_0 hO8_0 hX8 hzs8 hE8 hL2_0x8
    rintro k ρ9 w9 ⟨hE9, hL9_0, hL9_1, hp9_0, hkB10⟩
    have hzs9 : w.heap.size ≤ w9.heap.size := hE9.size
    have hxl := xS_len a b N k
    refine wp_seq ?_
    refine wp_seq ?_
    refine wp_plain _ [0, 0, 0, 0, 0, 0, 0, 2, 0, 0, 0] rfl ?_
    refine q_move vb rfl up_none ?_
    refine q_len (v := vb) u22 rfl hb.isSl up_none ?_
    by_cases hc11 : ((0 : Nat) : Int) < ((b.length : Nat) : Int)
    ·
      refine q_gtr true rfl rfl (decide_eq_true hc11) up_none ?_
      refine q_move (.bool true) rfl up_none ?_
      refine q_move (.int .i64 ((k : Nat) : Int)) rfl (up_some (e := 34) rfl rfl rfl) ?_
      refine q_move vb rfl (up_some (e := 34) rfl rfl rfl) ?_
      have hb0 := hN (by omega)
      refine q_idx (v := vb) 0 u22 ti29 rfl rfl hb.isSl rfl (by first | omega | assumption | (simp only [List.length_nil, List.length_cons, List.length_append, List.length_set, List.length_replicate, xS_len, restS_len]; omega) | (simp [List.length_nil, List.length_cons, List.length_append, List.length_set, List.length_replicate, xS_len, restS_len]; done) | (simp [List.length_nil, List.length_cons, List.length_append, List.length_set, List.length_replicate, xS_len, restS_len]; omega)) (up_some (e := 34) rfl rfl rfl) ?_
      obtain ⟨ue12, hl12, hd12⟩ := hb.get (k := 0) [] (by first | omega | assumption | (simp only [List.length_nil, List.length_cons, List.length_append, List.length_set, List.length_replicate, xS_len, restS_len]; omega) | (simp [List.length_nil, List.length_cons, List.length_append, List.length_set, List.length_replicate, xS_len, restS_len]; done) | (simp [List.length_nil, List.length_cons, List.length_append, List.length_set, List.length_replicate, xS_len, restS_len]; omega))
      have hln12 := hd12.lenle
      refine q_load (p := eptr vb 0 1) (.inr rfl) ue12 one29 rfl (ldH_ext hE9 hl12) (up_some (e := 34) rfl rfl rfl) ?_
      refine q_len (v := ue12) u29 rfl hd12.isSl (up_some (e := 34) rfl rfl rfl) ?_
      by_cases hc13 : ((k : Nat) : Int) < (((b.getD 0 []).length : Nat) : Int)
      ·
        refine q_lss true rfl rfl (decide_eq_true hc13) (up_some (e := 34) rfl rfl rfl) ?_
        refine q_pick true (.bool true) rfl rfl up_none ?_
        refine lw_nil ?_
        refine c_cond_t rfl ?_
        refine wp_skip ?_
        refine wp_seq ?_
        refine wp_block ?_
        refine wp_seq ?_
        refine wp_plain _ [3, 0] rfl ?_
        refine r_nil (rI) good_rI u29 ti2 up_none ?_
        intro v14 w14 hX14 hz14 hO14
        have hzs14 : w9.heap.size ≤ w14.heap.size := hX14.size
        have hE14 : Ext w w14 := hE9.trans hX14
        have hL9_0x14 := hL9_0.ext (o2) hX14
        have hL9_1x14 := hL9_1.ext (o2) hX14
        refine q_assign v14 rfl up_none ?_
        refine lw_nil ?_
        refine wp_seq ?_
        refine wp_seq ?_
        refine wp_plain _ [0] rfl ?_
        refine q_assign (.int .i64 ((0 : Nat) : Int)) rfl up_none ?_
        refine lw_nil ?_
        refine wp_block ?_
        refine c_loop (S := Nat × Value) (fun (⟨i, vr⟩ : Nat × Value) => ([(9, vr), (10, (.int .i64 ((i : Nat) : Int))), (0, va), (1, vb), (5, vo), (7, v8_0), (8, (.int .i64 ((k : Nat) : Int)))] : List (Nat × Value))) (fun (⟨i, vr⟩ : Nat × Value) (W : World) => Ext w W ∧ Fr (owL rI 2) w9.heap.size W.heap.size W.heap vr ((restS a b (xS a b N k) k).take i) ∧ Fr (owL (owL rI 2) 29) w.heap.size w2.heap.size W.heap vo (xS a b N k) ∧ Fr (owL (owL rI 2) 29) w2.heap.size w9.heap.size W.heap v8_0 (begA a) ∧ i ≤ b.length ∧ w9.heap.size ≤ W.heap.size) (fun (⟨i, vr⟩ : Nat × Value) => b.length - i) (0, v14) ⟨rfl, rfl, rfl, rfl, rfl, rfl, rfl, trivial⟩ ⟨hE14, hO14.up o1, hL9_0x14, hL9_1x14, (by first | omega | assumption | (simp only [List.length_nil, List.length_cons, List.length_append, List.length_set, List.length_replicate, xS_len, restS_len]; omega) | (simp [List.length_nil, List.length_cons, List.length_append, List.length_set, List.length_replicate, xS_len, restS_len]; done) | (simp [List.length_nil, List.length_cons, List.length_append, List.length_set, List.length_replicate, xS_len, restS_len]; omega)), (by omega)⟩ ?_
        clear hL9_1 hL9_0 hln12 hO14 hz14 hX14 hzs14 hE14 hL9_0x14 hL9_1x14
        rintro ⟨i, vr⟩ ρ15 w15 ⟨hE15, hL15_0, hL15_1, hL15_2, hp15_0, hkB16⟩
        have hzs15 : w.heap.size ≤ w15.heap.size := hE15.size
        refine wp_seq ?_
        refine wp_seq ?_
        refine wp_plain _ [0, 0, 0, 0] rfl ?_
        refine q_move (.int .i64 ((i : Nat) : Int)) rfl up_none ?_
        refine q_move vb rfl up_none ?_
        refine q_len (v := vb) u22 rfl hb.isSl up_none ?_
        by_cases hc17 : ((i : Nat) : Int) < ((b.length : Nat) : Int)
        ·
          refine q_lss true rfl rfl (decide_eq_true hc17) up_none ?_
          refine lw_nil ?_
          refine c_cond_t rfl ?_
          refine wp_skip ?_
          refine wp_seq ?_
          refine wp_block ?_
          refine wp_draw _ [0, 0, 0, 0, 1, 0, 0, 1, 0, 0, 0, 1, 0, 0, 3, 0, 3, 4, 0] mixed (by kernel_rfl) ?_
          have hbi := (hP.bser i (by omega)).1
          have hai := hP.row i (by omega)
          have hbn := allN_get (hP.bser i (by omega)).2 k
          have hdn := dotS_num (a.getD i []) (xS a b N k) k (a.getD i []).length
          have hxl := xS_len a b N k
          refine q_move vr rfl up_none ?_
          refine q_move vb rfl up_none ?_
          refine q_move (.int .i64 ((i : Nat) : Int)) rfl up_none ?_
          refine q_idx (v := vb) i u22 ti29 rfl rfl hb.isSl rfl (by first | omega | assumption | (simp only [List.length_nil, List.length_cons, List.length_append, List.length_set, List.length_replicate, xS_len, restS_len]; omega) | (simp [List.length_nil, List.length_cons, List.length_append, List.length_set, List.length_replicate, xS_len, restS_len]; done) | (simp [List.length_nil, List.length_cons, List.length_append, List.length_set, List.length_replicate, xS_len, restS_len]; omega)) up_none ?_
          obtain ⟨ue18, hl18, hd18⟩ := hb.get (k := i) [] (by first | omega | assumption | (simp only [List.length_nil, List.length_cons, List.length_append, List.length_set, List.length_replicate, xS_len, restS_len]; omega) | (simp [List.length_nil, List.length_cons, List.length_append, List.length_set, List.length_replicate, xS_len, restS_len]; done) | (simp [List.length_nil, List.length_cons, List.length_append, List.length_set, List.length_replicate, xS_len, restS_len]; omega))
          have hln18 := hd18.lenle
          refine q_load (p := eptr vb i 1) (.inl rfl) ue18 one29 rfl (ldH_ext hE15.drew hl18) up_none ?_
          refine q_move (.int .i64 ((k : Nat) : Int)) rfl up_none ?_
          refine q_idx (v := ue18) k u29 ti2 rfl rfl hd18.isSl rfl (by first | omega | assumption | (simp only [List.length_nil, List.length_cons, List.length_append, List.length_set, List.length_replicate, xS_len, restS_len]; omega) | (simp [List.length_nil, List.length_cons, List.length_append, List.length_set, List.length_replicate, xS_len, restS_len]; done) | (simp [List.length_nil, List.length_cons, List.length_append, List.length_set, List.length_replicate, xS_len, restS_len]; omega)) up_none ?_
          refine q_load (p := eptr ue18 k 1) (.inl rfl) (.int .i64 ((b.getD i []).getD k 0)) one2 rfl (ldH_ext hE15.drew (hd18.getI (by first | omega | assumption | (simp only [List.length_nil, List.length_cons, List.length_append, List.length_set, List.length_replicate, xS_len, restS_len]; omega) | (simp [List.length_nil, List.length_cons, List.length_append, List.length_set, List.length_replicate, xS_len, restS_len]; done) | (simp [List.length_nil, List.length_cons, List.length_append, List.length_set, List.length_replicate, xS_len, restS_len]; omega))).1) up_none ?_
          refine q_move va rfl up_none ?_
          refine q_move (.int .i64 ((i : Nat) : Int)) rfl up_none ?_
          refine q_idx (v := va) i u45 ti22 rfl rfl ha.isSl rfl (by first | omega | assumption | (simp only [List.length_nil, List.length_cons, List.length_append, List.length_set, List.length_replicate, xS_len, restS_len]; omega) | (simp [List.length_nil, List.length_cons, List.length_append, List.length_set, List.length_replicate, xS_len, restS_len]; done) | (simp [List.length_nil, List.length_cons, List.length_append, List.length_set, List.length_replicate, xS_len, restS_len]; omega)) up_none ?_
          obtain ⟨ue19, hl19, hd19⟩ := ha.get (k := i) [] (by first | omega | assumption | (simp only [List.length_nil, List.length_cons, List.length_append, List.length_set, List.length_replicate, xS_len, restS_len]; omega) | (simp [List.length_nil, List.length_cons, List.length_append, List.length_set, List.length_replicate, xS_len, restS_len]; done) | (simp [List.length_nil, List.length_cons, List.length_append, List.length_set, List.length_replicate, xS_len, restS_len]; omega))
          have hln19 := hd19.lenle
          refine q_load (p := eptr va i 1) (.inl rfl) ue19 one22 rfl (ldH_ext hE15.drew hl19) up_none ?_
          refine q_move vo rfl up_none ?_
          refine q_move (.int .i64 ((k : Nat) : Int)) rfl up_none ?_
          refine lw_call 117 [] [] [ue19, vo, (.int .i64 ((k : Nat) : Int))] rfl rfl cf117 up_none (c_spec_l07Dot _ _ _ _ _ (k) (hd19.ext g2 hE15.drew) hL15_1.rd2 (by first | omega | assumption | (simp only [List.length_nil, List.length_cons, List.length_append, List.length_set, List.length_replicate, xS_len, restS_len]; omega) | (simp [List.length_nil, List.length_cons, List.length_append, List.length_set, List.length_replicate, xS_len, restS_len]; done) | (simp [List.length_nil, List.length_cons, List.length_append, List.length_set, List.length_replicate, xS_len, restS_len]; omega)) (by rw [xS_len]; omega) (by intro j hj; have h1 := (hP.ser i j (by omega) (by omega)).1; have h2 := xS_row a b N (i := j) (by omega) k; omega) (by omega)) ?_
          rintro e20 w20 ⟨rfl, hX20⟩
          refine ⟨_, rfl, hX20, ?_⟩
          replace hX20 := hX20.of_drew
          have hzs20 : w15.heap.size ≤ w20.heap.size := hX20.size
          have hE20 : Ext w w20 := hE15.trans hX20
          have hL15_0x20 := hL15_0.ext (o1) hX20
          have hL15_1x20 := hL15_1.ext (o2) hX20
          have hL15_2x20 := hL15_2.ext (o2) hX20
          refine lw_callq 116 [] [] [(.int .i64 ((b.getD i []).getD k 0)), (.int .i64 (dotS (a.getD i []) (xS a b N k) k (a.getD i []).length))] rfl rfl cf116 up_none (.int .i64 (md (((b.getD i []).getD k 0) - (dotS (a.getD i []) (xS a b N k) k (a.getD i []).length)))) (fun wq => c_spec_l01Minus wq _ _ (hd18.getI (by first | omega | assumption | (simp only [List.length_nil, List.length_cons, List.length_append, List.length_set, List.length_replicate, xS_len, restS_len]; omega) | (simp [List.length_nil, List.length_cons, List.length_append, List.length_set, List.length_replicate, xS_len, restS_len]; done) | (simp [List.length_nil, List.length_cons, List.length_append, List.length_set, List.length_replicate, xS_len, restS_len]; omega))).2 (by have := dotS_num (a.getD i []) (xS a b N k) k (a.getD i []).length; omega) (by omega)) ?_
          refine r_one (u := (.int .i64 (md (((b.getD i []).getD k 0) - (dotS (a.getD i []) (xS a b N k) k (a.getD i []).length))))) (B := w20.heap.size) good_rI u29 ti2 rfl rfl (frI w20.heap.size w20.heap.size _ _ (md_rng _)) (Nat.le_refl _) up_none ?_
          intro v22 w22 hX22 hz22 hO22
          have hzs22 : w20.heap.size ≤ w22.heap.size := hX22.size
          have hE22 : Ext w w22 := hE20.trans hX22
          have hL15_0x22 := hL15_0x20.ext (o1) hX22
          have hL15_1x22 := hL15_1x20.ext (o2) hX22
          have hL15_2x22 := hL15_2x20.ext (o2) hX22
          refine e_appI (v := vr) (a := v22) u29 ti2 rfl rfl rfl hL15_0x22 (by omega) hO22.rd1 (by first | omega | assumption | (simp only [List.length_nil, List.length_cons, List.length_append, List.length_set, List.length_replicate, xS_len, restS_len]; omega) | (simp [List.length_nil, List.length_cons, List.length_append, List.length_set, List.length_replicate, xS_len, restS_len]; done) | (simp [List.length_nil, List.length_cons, List.length_append, List.length_set, List.length_replicate, xS_len, restS_len]; omega)) (by unfold maxLen; first | omega | assumption | (simp only [List.length_nil, List.length_cons, List.length_append, List.length_set, List.length_replicate, xS_len, restS_len]; omega) | (simp [List.length_nil, List.length_cons, List.length_append, List.length_set, List.length_replicate, xS_len, restS_len]; done) | (simp [List.length_nil, List.length_cons, List.length_append, List.length_set, List.length_replicate, xS_len, restS_len]; omega)) up_none ?_
          intro v23 w23 F23 hC23 hF23 hO23
          have hE23 : Ext w w23 := hC23.below hE22 (fun c hc => Nat.le_trans hE9.size (hF23 c hc).1) hE22.size
          have hzs23 : w22.heap.size ≤ w23.heap.size := hC23.size
          have hF24 := hL15_1x22.chg (o2) hC23 (fun c hc => by have := hF23 c hc; omega)
          have hF25 := hL15_2x22.chg (o2) hC23 (fun c hc => by have := hF23 c hc; omega)
          have hF26 := hO22.chg (o1) hC23 (fun c hc => by have := hF23 c hc; omega)
          refine q_assign v23 rfl up_none ?_
          refine lw_nil ?_
          refine wp_plain _ [0, 0, 0] rfl ?_
          refine q_move (.int .i64 ((i : Nat) : Int)) rfl up_none ?_
          refine q_add ((i + 1 : Nat) : Int) rfl rfl (w64n (by omega) (by first | omega | assumption | (simp only [List.length_nil, List.length_cons, List.length_append, List.length_set, List.length_replicate, xS_len, restS_len]; omega) | (simp [List.length_nil, List.length_cons, List.length_append, List.length_set, List.length_replicate, xS_len, restS_len]; done) | (simp [List.length_nil, List.length_cons, List.length_append, List.length_set, List.length_replicate, xS_len, restS_len]; omega))) up_none ?_
          refine q_assign (.int .i64 ((i + 1 : Nat) : Int)) rfl up_none ?_
          refine lw_nil ?_
          exact ⟨((i + 1), v23), _, rfl, ⟨rfl, rfl, rfl, rfl, rfl, rfl, rfl, trivial⟩, ⟨hE23, (by rw [take_snoc 0 (by rw [restS_len]; omega), show (restS a b (xS a b N k) k).getD i 0 = _ from tab_get 0 (by omega)]; exact hO23.up o1), hF24, hF25, (by first | omega | assumption | (simp only [List.length_nil, List.length_cons, List.length_append, List.length_set, List.length_replicate, xS_len, restS_len]; omega) | (simp [List.length_nil, List.length_cons, List.length_append, List.length_set, List.length_replicate, xS_len, restS_len]; done) | (simp [List.length_nil, List.length_cons, List.length_append, List.length_set, List.length_replicate, xS_len, restS_len]; omega)), (by omega)⟩, by first | omega | (dsimp only; omega)⟩
        ·
          refine q_lss false rfl rfl (decide_eq_false hc17) up_none ?_
          refine lw_nil ?_
          refine c_cond_f rfl ?_
          refine wp_exit ?_
          refine t_exit ?_
          refine t_exit ?_
          refine c_exit_here ?_
          refine wp_seq ?_
          refine wp_plain _ [0, 0, 3, 0] rfl ?_
          have hjr : jorN (begA a) (restS a b (xS a b N k) k) ≠ none := fun hn => hd ((det_jorN hP.sq' (restS_num _ _ _ _)).2 hn)
          have hrest27 := hL15_0
          rw [List.take_of_length_le (by rw [restS_len]; omega)] at hrest27
          refine q_move v8_0 rfl up_none ?_
          refine q_move vr rfl up_none ?_
          refine lw_call 70 [] [] [v8_0, vr] rfl rfl cf70 up_none (c_spec_l07Solve _ _ _ _ _ hL15_2.rd2 hrest27.rd1 (by exact hP.sq') (by omega) (by rw [restS_len, begA_len]) (by exact restS_num _ _ _ _) (by exact hjr)) ?_
          rintro e28 w28 ⟨v28_0, rfl, hX28, hO28_0⟩
          refine ⟨_, rfl, hX28, ?_⟩
          have hzs28 : w15.heap.size ≤ w28.heap.size := hX28.size
          have hE28 : Ext w w28 := hE15.trans hX28
          have hrest27x28 := hrest27.ext (o1) hX28
          have hL15_1x28 := hL15_1.ext (o2) hX28
          have hL15_2x28 := hL15_2.ext (o2) hX28
          refine q_assign v28_0 rfl up_none ?_
          refine lw_nil ?_
          refine wp_seq ?_
          refine wp_plain _ [0] rfl ?_
          have hnl : (solN (begA a) (restS a b (xS a b N k) k)).length = a.length := by rw [solN_len hP.sq' (restS_num _ _ _ _) hjr, begA_len]
          refine q_assign (.int .i64 ((0 : Nat) : Int)) rfl up_none ?_
          refine lw_nil ?_
          refine wp_block ?_
          refine c_loop (S := Nat) (fun (i : Nat) => ([(12, (.int .i64 ((i : Nat) : Int))), (0, va), (1, vb), (5, vo), (7, v8_0), (8, (.int .i64 ((k : Nat) : Int))), (11, v28_0)] : List (Nat × Value))) (fun (i : Nat) (W : World) => Ext w W ∧ Fr (owL (owL rI 2) 29) w.heap.size w2.heap.size W.heap vo (mix i (xS a b N (k + 1)) (xS a b N k)) ∧ Fr (owL (owL rI 2) 29) w2.heap.size W.heap.size W.heap v8_0 (begA a) ∧ Fr (owL rI 2) w15.heap.size w28.heap.size W.heap v28_0 (solN (begA a) (restS a b (xS a b N k) k)) ∧ i ≤ b.length ∧ w2.heap.size ≤ W.heap.size) (fun (i : Nat) => b.length - i) 0 ⟨rfl, rfl, rfl, rfl, rfl, rfl, rfl, trivial⟩ ⟨hE28, (by rw [mix_zero]; exact hL15_1x28), hL15_2x28.up o2, hO28_0, (by first | omega | assumption | (simp only [List.length_nil, List.length_cons, List.length_append, List.length_set, List.length_replicate, xS_len, restS_len]; omega) | (simp [List.length_nil, List.length_cons, List.length_append, List.length_set, List.length_replicate, xS_len, restS_len]; done) | (simp [List.length_nil, List.length_cons, List.length_append, List.length_set, List.length_replicate, xS_len, restS_len]; omega)), (by omega)⟩ ?_
          clear hE9 hzs9 hL15_2 hL15_1 hL15_0 hO28_0 hX28 hL15_1x28 hL15_2x28
          rintro i ρ29 w29 ⟨hE29, hL29_0, hL29_1, hL29_2, hp29_0, hkB30⟩
          have hzs29 : w.heap.size ≤ w29.heap.size := hE29.size
          have hml := xS_mlen a b N i k
          refine wp_seq ?_
          refine wp_seq ?_
          refine wp_plain _ [0, 0, 0, 0] rfl ?_
          refine q_move (.int .i64 ((i : Nat) : Int)) rfl up_none ?_
          refine q_move vb rfl up_none ?_
          refine q_len (v := vb) u22 rfl hb.isSl up_none ?_
          by_cases hc31 : ((i : Nat) : Int) < ((b.length : Nat) : Int)
          ·
            refine q_lss true rfl rfl (decide_eq_true hc31) up_none ?_
            refine lw_nil ?_
            refine c_cond_t rfl ?_
            refine wp_skip ?_
            refine wp_seq ?_
            refine wp_block ?_
            refine wp_draw _ [0, 0, 0, 1, 0, 0, 0, 0, 1, 0, 4] mixed (by kernel_rfl) ?_
            have hmr := xS_mrow (a := a) (b := b) (N := N) (k := k) (i := i) (by omega)
            refine q_move vo rfl up_none ?_
            refine q_move (.int .i64 ((i : Nat) : Int)) rfl up_none ?_
            refine q_idx (v := vo) i u22 ti29 rfl rfl hL29_0.isSl rfl (by first | omega | assumption | (simp only [List.length_nil, List.length_cons, List.length_append, List.length_set, List.length_replicate, xS_len, restS_len]; omega) | (simp [List.length_nil, List.length_cons, List.length_append, List.length_set, List.length_replicate, xS_len, restS_len]; done) | (simp [List.length_nil, List.length_cons, List.length_append, List.length_set, List.length_replicate, xS_len, restS_len]; omega)) up_none ?_
            obtain ⟨ue32, hl32, hd32⟩ := hL29_0.rd2.get (k := i) [] (by first | omega | assumption | (simp only [List.length_nil, List.length_cons, List.length_append, List.length_set, List.length_replicate, xS_len, restS_len]; omega) | (simp [List.length_nil, List.length_cons, List.length_append, List.length_set, List.length_replicate, xS_len, restS_len]; done) | (simp [List.length_nil, List.length_cons, List.length_append, List.length_set, List.length_replicate, xS_len, restS_len]; omega))
            have hln32 := hd32.lenle
            refine q_load (p := eptr vo i 1) (.inl rfl) ue32 one29 rfl hl32 up_none ?_
            refine q_move (.int .i64 ((k : Nat) : Int)) rfl up_none ?_
            refine q_move v28_0 rfl up_none ?_
            refine q_move (.int .i64 ((i : Nat) : Int)) rfl up_none ?_
            refine q_idx (v := v28_0) i u29 ti2 rfl rfl hL29_2.isSl rfl (by first | omega | assumption | (simp only [List.length_nil, List.length_cons, List.length_append, List.length_set, List.length_replicate, xS_len, restS_len]; omega) | (simp [List.length_nil, List.length_cons, List.length_append, List.length_set, List.length_replicate, xS_len, restS_len]; done) | (simp [List.length_nil, List.length_cons, List.length_append, List.length_set, List.length_replicate, xS_len, restS_len]; omega)) up_none ?_
            refine q_load (p := eptr v28_0 i 1) (.inl rfl) (.int .i64 ((solN (begA a) (restS a b (xS a b N k) k)).getD i 0)) one2 rfl (hL29_2.rd1.getI (by first | omega | assumption | (simp only [List.length_nil, List.length_cons, List.length_append, List.length_set, List.length_replicate, xS_len, restS_len]; omega) | (simp [List.length_nil, List.length_cons, List.length_append, List.length_set, List.length_replicate, xS_len, restS_len]; done) | (simp [List.length_nil, List.length_cons, List.length_append, List.length_set, List.length_replicate, xS_len, restS_len]; omega))).1 up_none ?_
            refine q_idx (v := ue32) k u29 ti2 rfl rfl hd32.isSl rfl (by first | omega | assumption | (simp only [List.length_nil, List.length_cons, List.length_append, List.length_set, List.length_replicate, xS_len, restS_len]; omega) | (simp [List.length_nil, List.length_cons, List.length_append, List.length_set, List.length_replicate, xS_len, restS_len]; done) | (simp [List.length_nil, List.length_cons, List.length_append, List.length_set, List.length_replicate, xS_len, restS_len]; omega)) up_none ?_
            refine e_setM (v := vo) (u := ue32) (w := w29.drew) sz2 rfl rfl (hL29_2.rd1.getI (by first | omega | assumption | (simp only [List.length_nil, List.length_cons, List.length_append, List.length_set, List.length_replicate, xS_len, restS_len]; omega) | (simp [List.length_nil, List.length_cons, List.length_append, List.length_set, List.length_replicate, xS_len, restS_len]; done) | (simp [List.length_nil, List.length_cons, List.length_append, List.length_set, List.length_replicate, xS_len, restS_len]; omega))).2 hL29_0 (by first | omega | assumption | (simp only [List.length_nil, List.length_cons, List.length_append, List.length_set, List.length_replicate, xS_len, restS_len]; omega) | (simp [List.length_nil, List.length_cons, List.length_append, List.length_set, List.length_replicate, xS_len, restS_len]; done) | (simp [List.length_nil, List.length_cons, List.length_append, List.length_set, List.length_replicate, xS_len, restS_len]; omega)) hl32 (by first | omega | assumption | (simp only [List.length_nil, List.length_cons, List.length_append, List.length_set, List.length_replicate, xS_len, restS_len]; omega) | (simp [List.length_nil, List.length_cons, List.length_append, List.length_set, List.length_replicate, xS_len, restS_len]; done) | (simp [List.length_nil, List.length_cons, List.length_append, List.length_set, List.length_replicate, xS_len, restS_len]; omega)) up_none ?_
            intro w33 F33 hC33 hz33 hF33 hO33
            replace hC33 := hC33.of_drew
            have hE33 : Ext w w33 := hC33.below hE29 (fun c hc => Nat.le_trans (Nat.le_refl _) (hF33 c hc).1) hE29.size
            have hzs33 : w29.heap.size ≤ w33.heap.size := hC33.size
            have hF34 := hL29_1.chg (o2) hC33 (fun c hc => by have := hF33 c hc; omega)
            have hF35 := hL29_2.chg (o1) hC33 (fun c hc => by have := hF33 c hc; omega)
            refine lw_nil ?_
            refine wp_plain _ [0, 0, 0] rfl ?_
            refine q_move (.int .i64 ((i : Nat) : Int)) rfl up_none ?_
            refine q_add ((i + 1 : Nat) : Int) rfl rfl (w64n (by omega) (by first | omega | assumption | (simp only [List.length_nil, List.length_cons, List.length_append, List.length_set, List.length_replicate, xS_len, restS_len]; omega) | (simp [List.length_nil, List.length_cons, List.length_append, List.length_set, List.length_replicate, xS_len, restS_len]; done) | (simp [List.length_nil, List.length_cons, List.length_append, List.length_set, List.length_replicate, xS_len, restS_len]; omega))) up_none ?_
            refine q_assign (.int .i64 ((i + 1 : Nat) : Int)) rfl up_none ?_
            refine lw_nil ?_
            exact ⟨(i + 1), _, rfl, ⟨rfl, rfl, rfl, rfl, rfl, rfl, rfl, trivial⟩, ⟨hE33, (by rw [← xS_set (by omega)]; exact hO33), hF34.up o2, hF35, (by first | omega | assumption | (simp only [List.length_nil, List.length_cons, List.length_append, List.length_set, List.length_replicate, xS_len, restS_len]; omega) | (simp [List.length_nil, List.length_cons, List.length_append, List.length_set, List.length_replicate, xS_len, restS_len]; done) | (simp [List.length_nil, List.length_cons, List.length_append, List.length_set, List.length_replicate, xS_len, restS_len]; omega)), (by omega)⟩, by first | omega | (dsimp only; omega)⟩
          ·
            refine q_lss false rfl rfl (decide_eq_false hc31) up_none ?_
            refine lw_nil ?_
            refine c_cond_f rfl ?_
            refine wp_exit ?_
            refine t_exit ?_
            refine t_exit ?_
            refine c_exit_here ?_
            refine wp_plain _ [0, 0, 0] rfl ?_
            refine q_move (.int .i64 ((k : Nat) : Int)) rfl up_none ?_
            refine q_add ((k + 1 : Nat) : Int) rfl rfl (w64n (by omega) (by first | omega | assumption | (simp only [List.length_nil, List.length_cons, List.length_append, List.length_set, List.length_replicate, xS_len, restS_len]; omega) | (simp [List.length_nil, List.length_cons, List.length_append, List.length_set, List.length_replicate, xS_len, restS_len]; done) | (simp [List.length_nil, List.length_cons, List.length_append, List.length_set, List.length_replicate, xS_len, restS_len]; omega))) up_none ?_
            refine q_assign (.int .i64 ((k + 1 : Nat) : Int)) rfl up_none ?_
            refine lw_nil ?_
            exact ⟨(k + 1), _, rfl, ⟨rfl, rfl, rfl, rfl, rfl, trivial⟩, ⟨hE29, (by have h := hL29_0; rw [mix_all (by rw [xS_len, xS_len]) (by rw [xS_len]; omega)] at h; exact h), hL29_1.up o2, (by first | omega | assumption | (simp only [List.length_nil, List.length_cons, List.length_append, List.length_set, List.length_replicate, xS_len, restS_len]; omega) | (simp [List.length_nil, List.length_cons, List.length_append, List.length_set, List.length_replicate, xS_len, restS_len]; done) | (simp [List.length_nil, List.length_cons, List.length_append, List.length_set, List.length_replicate, xS_len, restS_len]; omega)), (by omega)⟩, by first | omega | (dsimp only; omega)⟩
      ·
        refine q_lss false rfl rfl (decide_eq_false hc13) (up_some (e := 34) rfl rfl rfl) ?_
        refine q_pick true (.bool false) rfl rfl up_none ?_
        refine lw_nil ?_
        refine c_cond_f rfl ?_
        refine wp_exit ?_
        refine t_exit ?_
        refine t_exit ?_
        refine c_exit_here ?_
        refine wp_seq ?_
        refine wp_plain _ [0, 0] rfl ?_
        refine q_move vo rfl up_none ?_
        refine q_assign vo rfl up_none ?_
        refine lw_nil ?_
        refine wp_ret ?_
        exact post_ret [4] rfl vo rfl ⟨vo, rfl, hE9, (by have h := hL9_0.up o2; rw [show k = N from by omega] at h; rw [solS_xS hP hd]; exact h)⟩
    ·
      refine q_gtr false rfl rfl (decide_eq_false hc11) up_none ?_
      refine q_move (.bool false) rfl up_none ?_
      refine lw_skip (e := 34) (c := false) rfl rfl rfl rfl ?_
      refine lw_skip (e := 34) (c := false) rfl rfl rfl rfl ?_
      refine lw_skip (e := 34) (c := false) rfl rfl rfl rfl ?_
      refine lw_skip (e := 34) (c := false) rfl rfl rfl rfl ?_
      refine lw_skip (e := 34) (c := false) rfl rfl rfl rfl ?_
      refine lw_skip (e := 34) (c := false) rfl rfl rfl rfl ?_
      refine q_pick false (.bool false) rfl rfl up_none ?_
      refine lw_nil ?_
      refine c_cond_f rfl ?_
      refine wp_exit ?_
      refine t_exit ?_
      refine t_exit ?_
      refine c_exit_here ?_
      refine wp_seq ?_
      refine wp_plain _ [0, 0] rfl ?_
      refine q_move vo rfl up_none ?_
      refine q_assign vo rfl up_none ?_
      refine lw_nil ?_
      refine wp_ret ?_
      exact post_ret [4] rfl vo rfl ⟨vo, rfl, hE9, (by have h := hL9_0.up o2; rw [xS_nil (by omega)] at h; rw [solS_xS hP hd, xS_nil (by omega)]; exact h)⟩

/- spec.SolveSeries -/
set_option maxHeartbeats 4000000 in
set_option maxRecDepth 100000 in
theorem c_spec_SolveSeries (w : World) (va : Value) (a : List (List (List Int))) (vb : Value) (b : List (List Int)) (ha : Rd (rdL (rdL (rdL rI))) w.heap va a) (hb : Rd (rdL (rdL rI)) w.heap vb b)  :
    Calls Try.prog 43 #[va, vb] w (fun e w' => ∃ v0 : Value, e = .returned (.tuple #[v0, .int .i64 (ssC a b)]) ∧ Ext w w' ∧ Fr (owL (owL rI 2) 29) w.heap.size w'.heap.size w'.heap v0 (ssR a b)) := by
  refine calls_mk [va, vb] 19 Try.func43 rfl rfl (by simp) ?_
  have hE0 : Ext w w := Ext.refl w
  have hl_va := ha.lenle
  have hl_vb := hb.lenle
  refine wp_seq ?_
  refine wp_plain _ [0, 0] rfl ?_
  refine q_assign (.slice none 0 0) rfl up_none ?_
  refine q_assign (.int .i64 ((0 : Nat) : Int)) rfl up_none ?_
  refine lw_nil ?_
  refine wp_seq ?_
  refine wp_seq ?_
  refine wp_plain _ [0, 0, 3, 0] rfl ?_
  refine q_move va rfl up_none ?_
  refine q_move vb rfl up_none ?_
  refine lw_call 87 [] [] [va, vb] rfl rfl cf87 up_none (c_spec_l07System _ _ _ _ _ (ha.ext g3 hE0) (hb.ext g2 hE0)) ?_
  rintro e1 w1 ⟨rfl, hX1⟩
  refine ⟨_, rfl, hX1, ?_⟩
  have hzs1 : w.heap.size ≤ w1.heap.size := hX1.size
  have hE1 : Ext w w1 := hE0.trans hX1
  refine q_not (!(sysB a b)) rfl rfl up_none ?_
  refine lw_nil ?_
  cases hb2 : (!(sysB a b))
  ·
    refine c_cond_f (by first | rfl | (show Value.bool _ = _; rw [hb2])) ?_
    refine wp_skip ?_
    refine wp_seq ?_
    refine wp_seq ?_
    refine wp_plain _ [0, 3, 3, 0] rfl ?_
    have hq : sysB a b = true := by simpa using ‹(!sysB a b) = false›
    obtain ⟨N, hP, hN⟩ := sys_of hq
    have h6 := hP.n6
    have hga := begA_len a
    have hN1 := hP.n1
    refine q_move va rfl up_none ?_
    refine lw_call 88 [] [] [va] rfl rfl cf88 up_none (c_spec_l07BeginsOf _ _ _ (ha.ext g3 hE1) (by omega) (by intro r hr; have := hP.row r hr; exact ⟨by omega, fun j hj => by have := (hP.ser r j hr (by omega)).1; omega⟩)) ?_
    rintro e3 w3 ⟨v3_0, rfl, hX3, hO3_0⟩
    refine ⟨_, rfl, hX3, ?_⟩
    have hzs3 : w1.heap.size ≤ w3.heap.size := hX3.size
    have hE3 : Ext w w3 := hE1.trans hX3
    refine lw_call 53 [] [] [v3_0] rfl rfl cf53 up_none (c_spec_l07Det _ _ _ hO3_0.rd2 (by exact hP.sq') (by omega)) ?_
    rintro e4 w4 ⟨rfl, hX4⟩
    refine ⟨_, rfl, hX4, ?_⟩
    have hzs4 : w3.heap.size ≤ w4.heap.size := hX4.size
    have hE4 : Ext w w4 := hE3.trans hX4
    have hO3_0x4 := hO3_0.ext (o2) hX4
    by_cases hc5 : detM (begA a) = ((0 : Nat) : Int)
    ·
      refine q_eql true rfl rfl (decide_eq_true hc5) up_none ?_
      refine lw_nil ?_
      refine c_cond_t rfl ?_
      refine wp_seq ?_
      refine wp_plain _ [3, 0, 0] rfl ?_
      refine r_nil (owL rI 2) o1 u22 ti29 up_none ?_
      intro v6 w6 hX6 hz6 hO6
      have hzs6 : w4.heap.size ≤ w6.heap.size := hX6.size
      have hE6 : Ext w w6 := hE4.trans hX6
      have hO3_0x6 := hO3_0x4.ext (o2) hX6
      refine q_assign v6 rfl up_none ?_
      refine q_assign (.int .i64 ((6 : Nat) : Int)) rfl up_none ?_
      refine lw_nil ?_
      refine wp_ret ?_
      refine t_ret ?_
      have hdz : detM (begA a) = 0 := by have h := ‹detM (begA a) = ((0 : Nat) : Int)›; exact h
      exact post_ret [4, 5] rfl (.tuple #[v6, (.int .i64 ((6 : Nat) : Int))]) rfl ⟨v6, (by rw [(ss_zero hq hdz).2]; rfl), hE6, (by rw [(ss_zero hq hdz).1]; exact (hO6.up o2).low hE4.size)⟩
    ·
      refine q_eql false rfl rfl (decide_eq_false hc5) up_none ?_
      refine lw_nil ?_
      refine c_cond_f rfl ?_
      refine wp_skip ?_
      refine wp_seq ?_
      refine wp_plain _ [0, 0, 3, 0, 0] rfl ?_
      have hdn : detM (begA a) ≠ 0 := by have h := ‹¬ detM (begA a) = ((0 : Nat) : Int)›; exact h
      refine q_move va rfl up_none ?_
      refine q_move vb rfl up_none ?_
      refine lw_call 89 [] [] [va, vb] rfl rfl cf89 up_none (c_spec_l07SolveSeries _ _ _ _ _ (ha.ext g3 hE4) (hb.ext g2 hE4) (by exact ⟨N, hP, hN⟩) (by exact hdn)) ?_
      rintro e7 w7 ⟨v7_0, rfl, hX7, hO7_0⟩
      refine ⟨_, rfl, hX7, ?_⟩
      have hzs7 : w4.heap.size ≤ w7.heap.size := hX7.size
      have hE7 : Ext w w7 := hE4.trans hX7
      have hO3_0x7 := hO3_0x4.ext (o2) hX7
      refine q_assign v7_0 rfl up_none ?_
      refine q_assign (.int .i64 ((0 : Nat) : Int)) rfl up_none ?_
      refine lw_nil ?_
      refine wp_ret ?_
      exact post_ret [4, 5] rfl (.tuple #[v7_0, (.int .i64 ((0 : Nat) : Int))]) rfl ⟨v7_0, (by rw [(ss_good hq hdn).2]; rfl), hE7, (by rw [(ss_good hq hdn).1]; exact (hO7_0.up o2).low hE4.size)⟩
  ·
    refine c_cond_t (by first | rfl | (show Value.bool _ = _; rw [hb2])) ?_
    refine wp_seq ?_
    refine wp_plain _ [3, 0, 0] rfl ?_
    refine r_nil (owL rI 2) o1 u22 ti29 up_none ?_
    intro v8 w8 hX8 hz8 hO8
    have hzs8 : w1.heap.size ≤ w8.heap.size := hX8.size
    have hE8 : Ext w w8 := hE1.trans hX8
    refine q_assign v8 rfl up_none ?_
    refine q_assign (.int .i64 ((1 : Nat) : Int)) rfl up_none ?_
    refine lw_nil ?_
    refine wp_ret ?_
    refine t_ret ?_
    have hq : sysB a b = false := by simpa using ‹(!sysB a b) = true›
    exact post_ret [4, 5] rfl (.tuple #[v8, (.int .i64 ((1 : Nat) : Int))]) rfl ⟨v8, (by rw [(ss_bad hq).2]; rfl), hE8, (by rw [(ss_bad hq).1]; exact (hO8.up o2).low hE1.size)⟩
end Go.Proofs.Ytjgnlnlngcjfcaa
