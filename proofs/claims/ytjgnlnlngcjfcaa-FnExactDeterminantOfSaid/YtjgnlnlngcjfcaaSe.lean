/- Contracts of functions: each says what the function returns for all arguments that meet its premises. Printed by gen.py. -/
import Derived.Test.YtjgnlnlngcjfcaaMb
import Derived.Test.YtjgnlnlngcjfcaaT
import Derived.Test.YtjgnlnlngcjfcaaSa
import Derived.Test.YtjgnlnlngcjfcaaSb
import Derived.Test.YtjgnlnlngcjfcaaSc
import Derived.Test.YtjgnlnlngcjfcaaSd
import Derived.Test.YtjgnlnlngcjfcaaProg
namespace Go.Proofs.Ytjgnlnlngcjfcaa
open Go Go.RowKit
attribute [local irreducible] LW
/- laws.FnExactDeterminantOf -/
set_option maxHeartbeats 4000000 in
set_option maxRecDepth 100000 in
theorem c_laws_FnExactDeterminantOf (w : World) (va : Value) (a : List (List Int)) (ha : Rd (rdL (rdL rI)) w.heap va a)  :
    Calls Try.prog 3 #[va] w (fun e w' => e = .returned (.bool true) ∧ Ext w w') := by
  refine calls_mk [va] 40 Try.func3 rfl rfl (by simp) ?_
  have hE0 : Ext w w := Ext.refl w
  have hl_va := ha.lenle
  refine wp_seq ?_
  refine wp_plain _ [0] rfl ?_
  refine q_assign (.bool false) rfl up_none ?_
  refine lw_nil ?_
  refine wp_seq ?_
  refine wp_plain _ [0] rfl ?_
  refine q_assign (.int .i64 ((1048576 : Nat) : Int)) rfl up_none ?_
  refine lw_nil ?_
  refine wp_seq ?_
  refine wp_plain _ [0, 0, 3, 0] rfl ?_
  refine q_move va rfl up_none ?_
  refine q_move (.int .i64 ((1048576 : Nat) : Int)) rfl up_none ?_
  refine lw_call 11 [] [] [va, (.int .i64 ((1048576 : Nat) : Int))] rfl rfl cf11 up_none (c_laws_szInt64SS _ _ _ _ (ha.ext g2 hE0) (by omega) (by omega)) ?_
  rintro e1 w1 ⟨rfl, hX1⟩
  refine ⟨_, rfl, hX1, ?_⟩
  have hzs1 : w.heap.size ≤ w1.heap.size := hX1.size
  have hE1 : Ext w w1 := hE0.trans hX1
  refine q_assign (.int .i64 (szM a ((1048576 : Nat) : Int))) rfl up_none ?_
  refine lw_nil ?_
  refine wp_seq ?_
  refine wp_seq ?_
  refine wp_plain _ [0, 0] rfl ?_
  refine q_move (.int .i64 (szM a ((1048576 : Nat) : Int))) rfl up_none ?_
  by_cases hc2 : szM a ((1048576 : Nat) : Int) < ((0 : Nat) : Int)
  ·
    refine q_lss true rfl rfl (decide_eq_true hc2) up_none ?_
    refine lw_nil ?_
    refine c_cond_t rfl ?_
    refine wp_seq ?_
    refine wp_plain _ [0] rfl ?_
    refine q_assign (.bool true) rfl up_none ?_
    refine lw_nil ?_
    refine wp_ret ?_
    refine t_ret ?_
    exact post_ret [2] rfl (.bool true) rfl ⟨rfl, hE1⟩
  ·
    refine q_lss false rfl rfl (decide_eq_false hc2) up_none ?_
    refine lw_nil ?_
    refine c_cond_f rfl ?_
    refine wp_skip ?_
    refine wp_seq ?_
    refine wp_plain _ [0, 3, 3, 0, 0, 0, 0, 0] rfl ?_
    refine q_move va rfl up_none ?_
    refine lw_call 13 [] [] [va] rfl rfl cf13 up_none (c_laws_toInt64SS _ _ _ (ha.ext g2 hE1) (by have := (szM_le (a := a) (l := ((1048576 : Nat) : Int)) (by omega) (by omega)).2.1; omega) (by intro k; have := (szM_le (a := a) (l := ((1048576 : Nat) : Int)) (by omega) (by omega)).2.2 k; omega)) ?_
    rintro e3 w3 ⟨v3_0, rfl, hX3, hO3_0⟩
    refine ⟨_, rfl, hX3, ?_⟩
    have hzs3 : w1.heap.size ≤ w3.heap.size := hX3.size
    have hE3 : Ext w w3 := hE1.trans hX3
    refine lw_call 12 [] [] [v3_0] rfl rfl cf12 up_none (c_spec_DeterminantOf _ _ _ hO3_0.rd2) ?_
    rintro e4 w4 ⟨rfl, hX4⟩
    refine ⟨_, rfl, hX4, ?_⟩
    have hzs4 : w3.heap.size ≤ w4.heap.size := hX4.size
    have hE4 : Ext w w4 := hE3.trans hX4
    have hO3_0x4 := hO3_0.ext (o2) hX4
    refine q_move (.tuple #[(.int .i64 (if sqB a then detM a else 0)), (.int .i64 (if sqB a then 0 else 1))]) rfl up_none ?_
    refine q_extract (vs := [(.int .i64 (if sqB a then detM a else 0)), (.int .i64 (if sqB a then 0 else 1))]) (.int .i64 (if sqB a then detM a else 0)) rfl rfl up_none ?_
    refine q_extract (vs := [(.int .i64 (if sqB a then detM a else 0)), (.int .i64 (if sqB a then 0 else 1))]) (.int .i64 (if sqB a then 0 else 1)) rfl rfl up_none ?_
    refine q_assign (.int .i64 (if sqB a then detM a else 0)) rfl up_none ?_
    refine q_assign (.int .i64 (if sqB a then 0 else 1)) rfl up_none ?_
    refine lw_nil ?_
    refine wp_seq ?_
    refine wp_plain _ [0, 3, 0] rfl ?_
    refine q_move va rfl up_none ?_
    refine lw_call 13 [] [] [va] rfl rfl cf13 up_none (c_laws_toInt64SS _ _ _ (ha.ext g2 hE4) (by have := (szM_le (a := a) (l := ((1048576 : Nat) : Int)) (by omega) (by omega)).2.1; omega) (by intro k; have := (szM_le (a := a) (l := ((1048576 : Nat) : Int)) (by omega) (by omega)).2.2 k; omega)) ?_
    rintro e5 w5 ⟨v5_0, rfl, hX5, hO5_0⟩
    refine ⟨_, rfl, hX5, ?_⟩
    have hzs5 : w4.heap.size ≤ w5.heap.size := hX5.size
    have hE5 : Ext w w5 := hE4.trans hX5
    have hO3_0x5 := hO3_0x4.ext (o2) hX5
    refine q_assign v5_0 rfl up_none ?_
    refine lw_nil ?_
    refine wp_seq ?_
    refine wp_plain _ [0, 3, 0, 0, 0, 0, 0] rfl ?_
    refine q_move v5_0 rfl up_none ?_
    refine lw_call 14 [] [] [v5_0] rfl rfl cf14 up_none (c_impl_DeterminantOf _ _ _ hO5_0.rd2) ?_
    rintro e6 w6 ⟨rfl, hX6⟩
    refine ⟨_, rfl, hX6, ?_⟩
    have hzs6 : w5.heap.size ≤ w6.heap.size := hX6.size
    have hE6 : Ext w w6 := hE5.trans hX6
    have hO3_0x6 := hO3_0x5.ext (o2) hX6
    have hO5_0x6 := hO5_0.ext (o2) hX6
    refine q_move (.tuple #[(.int .i64 (if sqB a then detM a else 0)), (.int .i64 (if sqB a then 0 else 1))]) rfl up_none ?_
    refine q_extract (vs := [(.int .i64 (if sqB a then detM a else 0)), (.int .i64 (if sqB a then 0 else 1))]) (.int .i64 (if sqB a then detM a else 0)) rfl rfl up_none ?_
    refine q_extract (vs := [(.int .i64 (if sqB a then detM a else 0)), (.int .i64 (if sqB a then 0 else 1))]) (.int .i64 (if sqB a then 0 else 1)) rfl rfl up_none ?_
    refine q_assign (.int .i64 (if sqB a then detM a else 0)) rfl up_none ?_
    refine q_assign (.int .i64 (if sqB a then 0 else 1)) rfl up_none ?_
    refine lw_nil ?_
    refine wp_seq ?_
    refine wp_seq ?_
    refine wp_plain _ [0, 0, 0, 0, 0, 0, 0, 0] rfl ?_
    refine q_move (.int .i64 (if sqB a then detM a else 0)) rfl up_none ?_
    refine q_move (.int .i64 (if sqB a then detM a else 0)) rfl up_none ?_
    refine q_neq false rfl rfl (by simp) up_none ?_
    refine q_move (.bool false) rfl up_none ?_
    refine q_move (.int .i64 (if sqB a then 0 else 1)) rfl (up_some (e := 30) rfl rfl rfl) ?_
    refine q_move (.int .i64 (if sqB a then 0 else 1)) rfl (up_some (e := 30) rfl rfl rfl) ?_
    refine q_neq false rfl rfl (by simp) (up_some (e := 30) rfl rfl rfl) ?_
    refine q_pick false (.bool false) rfl rfl up_none ?_
    refine lw_nil ?_
    refine c_cond_f rfl ?_
    refine wp_skip ?_
    refine wp_seq ?_
    refine wp_seq ?_
    refine wp_plain _ [0, 0, 3, 3, 0] rfl ?_
    refine q_move v5_0 rfl up_none ?_
    refine q_move va rfl up_none ?_
    refine lw_call 13 [] [] [va] rfl rfl cf13 up_none (c_laws_toInt64SS _ _ _ (ha.ext g2 hE6) (by have := (szM_le (a := a) (l := ((1048576 : Nat) : Int)) (by omega) (by omega)).2.1; omega) (by intro k; have := (szM_le (a := a) (l := ((1048576 : Nat) : Int)) (by omega) (by omega)).2.2 k; omega)) ?_
    rintro e7 w7 ⟨v7_0, rfl, hX7, hO7_0⟩
    refine ⟨_, rfl, hX7, ?_⟩
    have hzs7 : w6.heap.size ≤ w7.heap.size := hX7.size
    have hE7 : Ext w w7 := hE6.trans hX7
    have hO3_0x7 := hO3_0x6.ext (o2) hX7
    have hO5_0x7 := hO5_0x6.ext (o2) hX7
    refine lw_call 15 [] [] [v5_0, v7_0] rfl rfl cf15 up_none (c_laws_eqInt64SS _ _ _ _ _ hO5_0x7.rd2 hO7_0.rd2) ?_
    rintro e8 w8 ⟨rfl, hX8⟩
    refine ⟨_, rfl, hX8, ?_⟩
    have hzs8 : w7.heap.size ≤ w8.heap.size := hX8.size
    have hE8 : Ext w w8 := hE7.trans hX8
    have hO3_0x8 := hO3_0x7.ext (o2) hX8
    have hO5_0x8 := hO5_0x7.ext (o2) hX8
    have hO7_0x8 := hO7_0.ext (o2) hX8
    refine q_not (!(decide (a = a))) rfl rfl up_none ?_
    refine lw_nil ?_
    cases hb9 : (!(decide (a = a)))
    ·
      refine c_cond_f (by first | rfl | (show Value.bool _ = _; rw [hb9])) ?_
      refine wp_skip ?_
      refine wp_seq ?_
      refine wp_plain _ [0] rfl ?_
      refine q_assign (.bool true) rfl up_none ?_
      refine lw_nil ?_
      refine wp_ret ?_
      exact post_ret [2] rfl (.bool true) rfl ⟨rfl, hE8⟩
    ·
      refine c_cond_t (by first | rfl | (show Value.bool _ = _; rw [hb9])) ?_
      refine wp_seq ?_
      refine wp_plain _ [0] rfl ?_
      refine q_assign (.bool false) rfl up_none ?_
      refine lw_nil ?_
      refine wp_ret ?_
      refine t_ret ?_
      exact post_ret [2] rfl (.bool false) rfl ⟨(absurd ‹(!decide (a = a)) = true› (by simp)), hE8⟩
end Go.Proofs.Ytjgnlnlngcjfcaa
