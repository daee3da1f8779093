/- Contracts of functions: each says what the function returns for all arguments that meet its premises. Printed by gen.py. -/
import Derived.Test.YtjgnlnlngcjfcaaMa
import Derived.Test.YtjgnlnlngcjfcaaT
import Derived.Test.YtjgnlnlngcjfcaaProg
namespace Go.Proofs.Ytjgnlnlngcjfcaa
open Go Go.RowKit
set_option linter.unusedVariables false
set_option linter.unusedSimpArgs false
attribute [local irreducible] LW
/- impl.within -/
set_option maxHeartbeats 4000000 in
set_option maxRecDepth 100000 in
theorem c_impl_within (w : World) (n : Int) (low : Int) (high : Int) (_hn : -9223372036854775808 ≤ n ∧ n ≤ 9223372036854775807) (_hlow : -9223372036854775808 ≤ low ∧ low ≤ 9223372036854775807) (_hhigh : -9223372036854775808 ≤ high ∧ high ≤ 9223372036854775807)  :
    Calls Try.prog 104 #[.int .i64 n, .int .i64 low, .int .i64 high] w (fun e w' => e = .returned (.bool (decide (low ≤ n) && decide (n ≤ high))) ∧ w' = w) := by
  refine calls_mk [.int .i64 n, .int .i64 low, .int .i64 high] 15 Try.func104 rfl rfl (by simp) ?_
  have hE0 : w = w := rfl
  refine wp_seq ?_
  refine wp_plain _ [0] rfl ?_
  refine q_assign (.bool false) rfl up_none ?_
  refine lw_nil ?_
  refine wp_seq ?_
  refine wp_plain _ [0, 0, 0, 0, 0, 0, 0, 0, 0] rfl ?_
  refine q_move (.int .i64 n) rfl up_none ?_
  refine q_move (.int .i64 low) rfl up_none ?_
  by_cases hc1 : low ≤ n
  ·
    refine q_geq true rfl rfl (decide_eq_true hc1) up_none ?_
    refine q_move (.bool true) rfl up_none ?_
    refine q_move (.int .i64 n) rfl (up_some (e := 10) rfl rfl rfl) ?_
    refine q_move (.int .i64 high) rfl (up_some (e := 10) rfl rfl rfl) ?_
    refine q_leq (decide (n ≤ high)) rfl rfl rfl (up_some (e := 10) rfl rfl rfl) ?_
    refine q_pick true (.bool (decide (n ≤ high))) rfl rfl up_none ?_
    refine q_assign (.bool (decide (n ≤ high))) rfl up_none ?_
    refine lw_nil ?_
    refine wp_ret ?_
    exact post_ret [6] rfl (.bool (decide (n ≤ high))) rfl ⟨(ret_bool (by simp [*])), hE0⟩
  ·
    refine q_geq false rfl rfl (decide_eq_false hc1) up_none ?_
    refine q_move (.bool false) rfl up_none ?_
    refine lw_skip (e := 10) (c := false) rfl rfl rfl rfl ?_
    refine lw_skip (e := 10) (c := false) rfl rfl rfl rfl ?_
    refine lw_skip (e := 10) (c := false) rfl rfl rfl rfl ?_
    refine q_pick false (.bool false) rfl rfl up_none ?_
    refine q_assign (.bool false) rfl up_none ?_
    refine lw_nil ?_
    refine wp_ret ?_
    exact post_ret [6] rfl (.bool false) rfl ⟨(ret_bool (by simp [*])), hE0⟩

/- spec.l00In -/
set_option maxHeartbeats 4000000 in
set_option maxRecDepth 100000 in
theorem c_spec_l00In (w : World) (n : Int) (low : Int) (high : Int) (_hn : -9223372036854775808 ≤ n ∧ n ≤ 9223372036854775807) (_hlow : -9223372036854775808 ≤ low ∧ low ≤ 9223372036854775807) (_hhigh : -9223372036854775808 ≤ high ∧ high ≤ 9223372036854775807)  :
    Calls Try.prog 57 #[.int .i64 n, .int .i64 low, .int .i64 high] w (fun e w' => e = .returned (.bool (decide (low ≤ n) && decide (n ≤ high))) ∧ w' = w) := by
  refine calls_mk [.int .i64 n, .int .i64 low, .int .i64 high] 15 Try.func57 rfl rfl (by simp) ?_
  have hE0 : w = w := rfl
  refine wp_seq ?_
  refine wp_plain _ [0] rfl ?_
  refine q_assign (.bool false) rfl up_none ?_
  refine lw_nil ?_
  refine wp_seq ?_
  refine wp_plain _ [0, 0, 0, 0, 0, 0, 0, 0, 0] rfl ?_
  refine q_move (.int .i64 n) rfl up_none ?_
  refine q_move (.int .i64 low) rfl up_none ?_
  by_cases hc1 : low ≤ n
  ·
    refine q_geq true rfl rfl (decide_eq_true hc1) up_none ?_
    refine q_move (.bool true) rfl up_none ?_
    refine q_move (.int .i64 n) rfl (up_some (e := 10) rfl rfl rfl) ?_
    refine q_move (.int .i64 high) rfl (up_some (e := 10) rfl rfl rfl) ?_
    refine q_leq (decide (n ≤ high)) rfl rfl rfl (up_some (e := 10) rfl rfl rfl) ?_
    refine q_pick true (.bool (decide (n ≤ high))) rfl rfl up_none ?_
    refine q_assign (.bool (decide (n ≤ high))) rfl up_none ?_
    refine lw_nil ?_
    refine wp_ret ?_
    exact post_ret [6] rfl (.bool (decide (n ≤ high))) rfl ⟨(ret_bool (by simp [*])), hE0⟩
  ·
    refine q_geq false rfl rfl (decide_eq_false hc1) up_none ?_
    refine q_move (.bool false) rfl up_none ?_
    refine lw_skip (e := 10) (c := false) rfl rfl rfl rfl ?_
    refine lw_skip (e := 10) (c := false) rfl rfl rfl rfl ?_
    refine lw_skip (e := 10) (c := false) rfl rfl rfl rfl ?_
    refine q_pick false (.bool false) rfl rfl up_none ?_
    refine q_assign (.bool false) rfl up_none ?_
    refine lw_nil ?_
    refine wp_ret ?_
    exact post_ret [6] rfl (.bool false) rfl ⟨(ret_bool (by simp [*])), hE0⟩

/- impl.Residue -/
set_option maxHeartbeats 4000000 in
set_option maxRecDepth 100000 in
theorem c_impl_Residue (w : World) (n : Int) (_hn : -9223372036854775808 ≤ n ∧ n ≤ 9223372036854775807)  :
    Calls Try.prog 105 #[.int .i64 n] w (fun e w' => e = .returned (.int .i64 (md n)) ∧ w' = w) := by
  refine calls_mk [.int .i64 n] 7 Try.func105 rfl rfl (by simp) ?_
  have hE0 : w = w := rfl
  refine wp_seq ?_
  refine wp_plain _ [0] rfl ?_
  refine q_assign (.int .i64 ((0 : Nat) : Int)) rfl up_none ?_
  refine lw_nil ?_
  refine wp_seq ?_
  refine wp_plain _ [0, 0, 0, 0, 0] rfl ?_
  refine q_move (.int .i64 n) rfl up_none ?_
  refine q_rem (n.tmod 1000003) rfl rfl (by decide) rfl up_none ?_
  refine q_add (wr ((n.tmod 1000003) + ((1000003 : Nat) : Int))) rfl rfl rfl up_none ?_
  refine q_rem ((wr ((n.tmod 1000003) + ((1000003 : Nat) : Int))).tmod 1000003) rfl rfl (by decide) rfl up_none ?_
  refine q_assign (.int .i64 ((wr ((n.tmod 1000003) + ((1000003 : Nat) : Int))).tmod 1000003)) rfl up_none ?_
  refine lw_nil ?_
  refine wp_ret ?_
  exact post_ret [2] rfl (.int .i64 ((wr ((n.tmod 1000003) + ((1000003 : Nat) : Int))).tmod 1000003)) rfl ⟨(ret_int (res_eq n)), hE0⟩

/- impl.Plus -/
set_option maxHeartbeats 4000000 in
set_option maxRecDepth 100000 in
theorem c_impl_Plus (w : World) (a : Int) (b : Int) (_ha : -9223372036854775808 ≤ a ∧ a ≤ 9223372036854775807) (_hb : -9223372036854775808 ≤ b ∧ b ≤ 9223372036854775807)  :
    Calls Try.prog 121 #[.int .i64 a, .int .i64 b] w (fun e w' => e = .returned (.int .i64 (md (a + b))) ∧ w' = w) := by
  refine calls_mk [.int .i64 a, .int .i64 b] 11 Try.func121 rfl rfl (by simp) ?_
  have hE0 : w = w := rfl
  refine wp_seq ?_
  refine wp_plain _ [0] rfl ?_
  refine q_assign (.int .i64 ((0 : Nat) : Int)) rfl up_none ?_
  refine lw_nil ?_
  refine wp_seq ?_
  refine wp_plain _ [0, 0, 0, 0, 0, 0, 0] rfl ?_
  refine q_move (.int .i64 a) rfl up_none ?_
  refine lw_callq 105 [] [] [(.int .i64 a)] rfl rfl cf105 up_none (.int .i64 (md a)) (fun wq => c_impl_Residue wq _ _ha) ?_
  refine q_move (.int .i64 b) rfl up_none ?_
  refine lw_callq 105 [] [] [(.int .i64 b)] rfl rfl cf105 up_none (.int .i64 (md b)) (fun wq => c_impl_Residue wq _ _hb) ?_
  refine q_add (wr ((md a) + (md b))) rfl rfl rfl up_none ?_
  refine q_rem ((wr ((md a) + (md b))).tmod 1000003) rfl rfl (by decide) rfl up_none ?_
  refine q_assign (.int .i64 ((wr ((md a) + (md b))).tmod 1000003)) rfl up_none ?_
  refine lw_nil ?_
  refine wp_ret ?_
  exact post_ret [4] rfl (.int .i64 ((wr ((md a) + (md b))).tmod 1000003)) rfl ⟨(ret_int (plus_eq a b)), hE0⟩

/- impl.Times -/
set_option maxHeartbeats 4000000 in
set_option maxRecDepth 100000 in
theorem c_impl_Times (w : World) (a : Int) (b : Int) (_ha : -9223372036854775808 ≤ a ∧ a ≤ 9223372036854775807) (_hb : -9223372036854775808 ≤ b ∧ b ≤ 9223372036854775807)  :
    Calls Try.prog 66 #[.int .i64 a, .int .i64 b] w (fun e w' => e = .returned (.int .i64 (md (a * b))) ∧ w' = w) := by
  refine calls_mk [.int .i64 a, .int .i64 b] 11 Try.func66 rfl rfl (by simp) ?_
  have hE0 : w = w := rfl
  refine wp_seq ?_
  refine wp_plain _ [0] rfl ?_
  refine q_assign (.int .i64 ((0 : Nat) : Int)) rfl up_none ?_
  refine lw_nil ?_
  refine wp_seq ?_
  refine wp_plain _ [0, 0, 0, 0, 0, 0, 0] rfl ?_
  refine q_move (.int .i64 a) rfl up_none ?_
  refine lw_callq 105 [] [] [(.int .i64 a)] rfl rfl cf105 up_none (.int .i64 (md a)) (fun wq => c_impl_Residue wq _ _ha) ?_
  refine q_move (.int .i64 b) rfl up_none ?_
  refine lw_callq 105 [] [] [(.int .i64 b)] rfl rfl cf105 up_none (.int .i64 (md b)) (fun wq => c_impl_Residue wq _ _hb) ?_
  refine q_mul (wr ((md a) * (md b))) rfl rfl rfl up_none ?_
  refine q_rem ((wr ((md a) * (md b))).tmod 1000003) rfl rfl (by decide) rfl up_none ?_
  refine q_assign (.int .i64 ((wr ((md a) * (md b))).tmod 1000003)) rfl up_none ?_
  refine lw_nil ?_
  refine wp_ret ?_
  exact post_ret [4] rfl (.int .i64 ((wr ((md a) * (md b))).tmod 1000003)) rfl ⟨(ret_int (times_eq a b)), hE0⟩

/- impl.minus -/
set_option maxHeartbeats 4000000 in
set_option maxRecDepth 100000 in
theorem c_impl_minus (w : World) (a : Int) (b : Int) (_ha : -9223372036854775808 ≤ a ∧ a ≤ 9223372036854775807) (_hb : -9223372036854775808 ≤ b ∧ b ≤ 9223372036854775807)  :
    Calls Try.prog 98 #[.int .i64 a, .int .i64 b] w (fun e w' => e = .returned (.int .i64 (md (a - b))) ∧ w' = w) := by
  refine calls_mk [.int .i64 a, .int .i64 b] 10 Try.func98 rfl rfl (by simp) ?_
  have hE0 : w = w := rfl
  refine wp_seq ?_
  refine wp_plain _ [0] rfl ?_
  refine q_assign (.int .i64 ((0 : Nat) : Int)) rfl up_none ?_
  refine lw_nil ?_
  refine wp_seq ?_
  refine wp_plain _ [0, 0, 0, 0, 0, 0] rfl ?_
  refine q_move (.int .i64 a) rfl up_none ?_
  refine q_move (.int .i64 b) rfl up_none ?_
  refine lw_callq 105 [] [] [(.int .i64 b)] rfl rfl cf105 up_none (.int .i64 (md b)) (fun wq => c_impl_Residue wq _ _hb) ?_
  refine q_sub (wr (((1000003 : Nat) : Int) - (md b))) rfl rfl rfl up_none ?_
  refine lw_callq 121 [] [] [(.int .i64 a), (.int .i64 (wr (((1000003 : Nat) : Int) - (md b))))] rfl rfl cf121 up_none (.int .i64 (md (a + (wr (((1000003 : Nat) : Int) - (md b)))))) (fun wq => c_impl_Plus wq _ _ _ha (wr_rng _)) ?_
  refine q_assign (.int .i64 (md (a + (wr (((1000003 : Nat) : Int) - (md b)))))) rfl up_none ?_
  refine lw_nil ?_
  refine wp_ret ?_
  exact post_ret [4] rfl (.int .i64 (md (a + (wr (((1000003 : Nat) : Int) - (md b)))))) rfl ⟨(ret_int (minus_eq a b)), hE0⟩

/- spec.Residue -/
theorem sres_a (n : Int) (h : n.tmod 1000003 < ((0 : Nat) : Int)) : wr (n.tmod 1000003 + ((1000003 : Nat) : Int)) = md n := by
  have h1 := md_nonneg n; have h2 := md_lt n; have h3 := md_nonneg (-n); have h4 := md_lt (-n)
  rw [tm n] at h ⊢
  split at h
  · omega
  · rename_i h0
    rw [if_neg h0, wr_of (by omega) (by omega)]
    have e1 : md (-(md (-n)) + ((1000003 : Nat) : Int)) = md (-(md (-n))) := md_P _
    rw [md_neg, Int.neg_neg, md_of (by omega) (by omega)] at e1
    exact e1
theorem sres_b (n : Int) (h : ¬ n.tmod 1000003 < ((0 : Nat) : Int)) : n.tmod 1000003 = md n := by
  have h1 := md_nonneg n; have h2 := md_lt n; have h3 := md_nonneg (-n); have h4 := md_lt (-n)
  rw [tm n] at h ⊢
  split
  · rfl
  · rename_i h0
    rw [if_neg h0] at h
    have e0 : md (-n) = 0 := by omega
    have e1 := md_neg (-n)
    rw [e0, Int.neg_neg] at e1
    rw [e0, ← e1]
    rfl

set_option maxHeartbeats 4000000 in
set_option maxRecDepth 100000 in
theorem c_spec_Residue (w : World) (n : Int) (_hn : -9223372036854775808 ≤ n ∧ n ≤ 9223372036854775807)  :
    Calls Try.prog 86 #[.int .i64 n] w (fun e w' => e = .returned (.int .i64 (md n)) ∧ w' = w) := by
  refine calls_mk [.int .i64 n] 11 Try.func86 rfl rfl (by simp) ?_
  have hE0 : w = w := rfl
  refine wp_seq ?_
  refine wp_plain _ [0] rfl ?_
  refine q_assign (.int .i64 ((0 : Nat) : Int)) rfl up_none ?_
  refine lw_nil ?_
  refine wp_seq ?_
  refine wp_plain _ [0, 0, 0] rfl ?_
  refine q_move (.int .i64 n) rfl up_none ?_
  refine q_rem (n.tmod 1000003) rfl rfl (by decide) rfl up_none ?_
  refine q_assign (.int .i64 (n.tmod 1000003)) rfl up_none ?_
  refine lw_nil ?_
  refine wp_seq ?_
  refine wp_seq ?_
  refine wp_plain _ [0, 0] rfl ?_
  refine q_move (.int .i64 (n.tmod 1000003)) rfl up_none ?_
  by_cases hc1 : n.tmod 1000003 < ((0 : Nat) : Int)
  ·
    refine q_lss true rfl rfl (decide_eq_true hc1) up_none ?_
    refine lw_nil ?_
    refine c_cond_t rfl ?_
    refine wp_plain _ [0, 0, 0] rfl ?_
    refine q_move (.int .i64 (n.tmod 1000003)) rfl up_none ?_
    refine q_add (wr ((n.tmod 1000003) + ((1000003 : Nat) : Int))) rfl rfl rfl up_none ?_
    refine q_assign (.int .i64 (wr ((n.tmod 1000003) + ((1000003 : Nat) : Int)))) rfl up_none ?_
    refine lw_nil ?_
    refine wp_seq ?_
    refine wp_plain _ [0, 0] rfl ?_
    refine q_move (.int .i64 (wr ((n.tmod 1000003) + ((1000003 : Nat) : Int)))) rfl up_none ?_
    refine q_assign (.int .i64 (wr ((n.tmod 1000003) + ((1000003 : Nat) : Int)))) rfl up_none ?_
    refine lw_nil ?_
    refine wp_ret ?_
    exact post_ret [2] rfl (.int .i64 (wr ((n.tmod 1000003) + ((1000003 : Nat) : Int)))) rfl ⟨(by first | exact ret_int (sres_a n (by assumption)) | exact ret_int (sres_b n (by assumption))), hE0⟩
  ·
    refine q_lss false rfl rfl (decide_eq_false hc1) up_none ?_
    refine lw_nil ?_
    refine c_cond_f rfl ?_
    refine wp_skip ?_
    refine wp_seq ?_
    refine wp_plain _ [0, 0] rfl ?_
    refine q_move (.int .i64 (n.tmod 1000003)) rfl up_none ?_
    refine q_assign (.int .i64 (n.tmod 1000003)) rfl up_none ?_
    refine lw_nil ?_
    refine wp_ret ?_
    exact post_ret [2] rfl (.int .i64 (n.tmod 1000003)) rfl ⟨(by first | exact ret_int (sres_a n (by assumption)) | exact ret_int (sres_b n (by assumption))), hE0⟩

/- spec.Plus -/
set_option maxHeartbeats 4000000 in
set_option maxRecDepth 100000 in
theorem c_spec_Plus (w : World) (a : Int) (b : Int) (_ha : -9223372036854775808 ≤ a ∧ a ≤ 9223372036854775807) (_hb : -9223372036854775808 ≤ b ∧ b ≤ 9223372036854775807)  :
    Calls Try.prog 85 #[.int .i64 a, .int .i64 b] w (fun e w' => e = .returned (.int .i64 (md (a + b))) ∧ w' = w) := by
  refine calls_mk [.int .i64 a, .int .i64 b] 11 Try.func85 rfl rfl (by simp) ?_
  have hE0 : w = w := rfl
  refine wp_seq ?_
  refine wp_plain _ [0] rfl ?_
  refine q_assign (.int .i64 ((0 : Nat) : Int)) rfl up_none ?_
  refine lw_nil ?_
  refine wp_seq ?_
  refine wp_plain _ [0, 0, 0, 0, 0, 0, 0] rfl ?_
  refine q_move (.int .i64 a) rfl up_none ?_
  refine lw_callq 86 [] [] [(.int .i64 a)] rfl rfl cf86 up_none (.int .i64 (md a)) (fun wq => c_spec_Residue wq _ _ha) ?_
  refine q_move (.int .i64 b) rfl up_none ?_
  refine lw_callq 86 [] [] [(.int .i64 b)] rfl rfl cf86 up_none (.int .i64 (md b)) (fun wq => c_spec_Residue wq _ _hb) ?_
  refine q_add (wr ((md a) + (md b))) rfl rfl rfl up_none ?_
  refine q_rem ((wr ((md a) + (md b))).tmod 1000003) rfl rfl (by decide) rfl up_none ?_
  refine q_assign (.int .i64 ((wr ((md a) + (md b))).tmod 1000003)) rfl up_none ?_
  refine lw_nil ?_
  refine wp_ret ?_
  exact post_ret [4] rfl (.int .i64 ((wr ((md a) + (md b))).tmod 1000003)) rfl ⟨(ret_int (plus_eq a b)), hE0⟩

/- spec.Times -/
set_option maxHeartbeats 4000000 in
set_option maxRecDepth 100000 in
theorem c_spec_Times (w : World) (a : Int) (b : Int) (_ha : -9223372036854775808 ≤ a ∧ a ≤ 9223372036854775807) (_hb : -9223372036854775808 ≤ b ∧ b ≤ 9223372036854775807)  :
    Calls Try.prog 40 #[.int .i64 a, .int .i64 b] w (fun e w' => e = .returned (.int .i64 (md (a * b))) ∧ w' = w) := by
  refine calls_mk [.int .i64 a, .int .i64 b] 11 Try.func40 rfl rfl (by simp) ?_
  have hE0 : w = w := rfl
  refine wp_seq ?_
  refine wp_plain _ [0] rfl ?_
  refine q_assign (.int .i64 ((0 : Nat) : Int)) rfl up_none ?_
  refine lw_nil ?_
  refine wp_seq ?_
  refine wp_plain _ [0, 0, 0, 0, 0, 0, 0] rfl ?_
  refine q_move (.int .i64 a) rfl up_none ?_
  refine lw_callq 86 [] [] [(.int .i64 a)] rfl rfl cf86 up_none (.int .i64 (md a)) (fun wq => c_spec_Residue wq _ _ha) ?_
  refine q_move (.int .i64 b) rfl up_none ?_
  refine lw_callq 86 [] [] [(.int .i64 b)] rfl rfl cf86 up_none (.int .i64 (md b)) (fun wq => c_spec_Residue wq _ _hb) ?_
  refine q_mul (wr ((md a) * (md b))) rfl rfl rfl up_none ?_
  refine q_rem ((wr ((md a) * (md b))).tmod 1000003) rfl rfl (by decide) rfl up_none ?_
  refine q_assign (.int .i64 ((wr ((md a) * (md b))).tmod 1000003)) rfl up_none ?_
  refine lw_nil ?_
  refine wp_ret ?_
  exact post_ret [4] rfl (.int .i64 ((wr ((md a) * (md b))).tmod 1000003)) rfl ⟨(ret_int (times_eq a b)), hE0⟩

/- spec.l01Neg -/
set_option maxHeartbeats 4000000 in
set_option maxRecDepth 100000 in
theorem c_spec_l01Neg (w : World) (a : Int) (_ha : -9223372036854775808 ≤ a ∧ a ≤ 9223372036854775807) (hneg : 0 ≤ a) :
    Calls Try.prog 94 #[.int .i64 a] w (fun e w' => e = .returned (.int .i64 (md (-a))) ∧ w' = w) := by
  refine calls_mk [.int .i64 a] 6 Try.func94 rfl rfl (by simp) ?_
  have hE0 : w = w := rfl
  refine wp_seq ?_
  refine wp_plain _ [0] rfl ?_
  refine q_assign (.int .i64 ((0 : Nat) : Int)) rfl up_none ?_
  refine lw_nil ?_
  refine wp_seq ?_
  refine wp_plain _ [0, 0, 0, 0] rfl ?_
  refine q_move (.int .i64 a) rfl up_none ?_
  refine q_neg (wr (-a)) rfl rfl up_none ?_
  refine lw_callq 86 [] [] [(.int .i64 (wr (-a)))] rfl rfl cf86 up_none (.int .i64 (md (wr (-a)))) (fun wq => c_spec_Residue wq _ (wr_rng _)) ?_
  refine q_assign (.int .i64 (md (wr (-a)))) rfl up_none ?_
  refine lw_nil ?_
  refine wp_ret ?_
  exact post_ret [2] rfl (.int .i64 (md (wr (-a)))) rfl ⟨(ret_int (by rw [wr_of (by omega) (by omega)])), hE0⟩

/- spec.l01Minus -/
set_option maxHeartbeats 4000000 in
set_option maxRecDepth 100000 in
theorem c_spec_l01Minus (w : World) (a : Int) (b : Int) (_ha : -9223372036854775808 ≤ a ∧ a ≤ 9223372036854775807) (_hb : -9223372036854775808 ≤ b ∧ b ≤ 9223372036854775807) (hs : -9223372036854775808 ≤ a - b ∧ a - b ≤ 9223372036854775807) :
    Calls Try.prog 116 #[.int .i64 a, .int .i64 b] w (fun e w' => e = .returned (.int .i64 (md (a - b))) ∧ w' = w) := by
  refine calls_mk [.int .i64 a, .int .i64 b] 9 Try.func116 rfl rfl (by simp) ?_
  have hE0 : w = w := rfl
  refine wp_seq ?_
  refine wp_plain _ [0] rfl ?_
  refine q_assign (.int .i64 ((0 : Nat) : Int)) rfl up_none ?_
  refine lw_nil ?_
  refine wp_seq ?_
  refine wp_plain _ [0, 0, 0, 0, 0] rfl ?_
  refine q_move (.int .i64 a) rfl up_none ?_
  refine q_move (.int .i64 b) rfl up_none ?_
  refine q_sub (wr (a - b)) rfl rfl rfl up_none ?_
  refine lw_callq 86 [] [] [(.int .i64 (wr (a - b)))] rfl rfl cf86 up_none (.int .i64 (md (wr (a - b)))) (fun wq => c_spec_Residue wq _ (wr_rng _)) ?_
  refine q_assign (.int .i64 (md (wr (a - b)))) rfl up_none ?_
  refine lw_nil ?_
  refine wp_ret ?_
  exact post_ret [4] rfl (.int .i64 (md (wr (a - b)))) rfl ⟨(ret_int (by rw [wr_of hs.1 hs.2])), hE0⟩

/- spec.Power -/
set_option maxHeartbeats 4000000 in
set_option maxRecDepth 100000 in
theorem c_spec_Power (w : World) (a : Int) (n : Int) (_ha : -9223372036854775808 ≤ a ∧ a ≤ 9223372036854775807) (_hn : -9223372036854775808 ≤ n ∧ n ≤ 9223372036854775807)  :
    Calls Try.prog 100 #[.int .i64 a, .int .i64 n] w (fun e w' => e = .returned (.int .i64 (pw a n)) ∧ w' = w) := by
  refine calls_mk [.int .i64 a, .int .i64 n] 25 Try.func100 rfl rfl (by simp) ?_
  have hE0 : w = w := rfl
  refine wp_seq ?_
  refine wp_plain _ [0] rfl ?_
  refine q_assign (.int .i64 ((0 : Nat) : Int)) rfl up_none ?_
  refine lw_nil ?_
  refine wp_seq ?_
  refine wp_seq ?_
  refine wp_plain _ [0, 0] rfl ?_
  refine q_move (.int .i64 n) rfl up_none ?_
  by_cases hc1 : n < ((0 : Nat) : Int)
  ·
    refine q_lss true rfl rfl (decide_eq_true hc1) up_none ?_
    refine lw_nil ?_
    refine c_cond_t rfl ?_
    refine wp_seq ?_
    refine wp_plain _ [0] rfl ?_
    refine q_assign (.int .i64 ((0 : Nat) : Int)) rfl up_none ?_
    refine lw_nil ?_
    refine wp_ret ?_
    refine t_ret ?_
    exact post_ret [4] rfl (.int .i64 ((0 : Nat) : Int)) rfl ⟨(ret_int (pw_neg (by assumption))), hE0⟩
  ·
    refine q_lss false rfl rfl (decide_eq_false hc1) up_none ?_
    refine lw_nil ?_
    refine c_cond_f rfl ?_
    refine wp_skip ?_
    refine wp_seq ?_
    refine wp_plain _ [0] rfl ?_
    refine q_assign (.int .i64 ((1 : Nat) : Int)) rfl up_none ?_
    refine lw_nil ?_
    refine wp_seq ?_
    refine wp_plain _ [0, 0, 0] rfl ?_
    refine q_move (.int .i64 a) rfl up_none ?_
    refine lw_callq 86 [] [] [(.int .i64 a)] rfl rfl cf86 up_none (.int .i64 (md a)) (fun wq => c_spec_Residue wq _ _ha) ?_
    refine q_assign (.int .i64 (md a)) rfl up_none ?_
    refine lw_nil ?_
    refine wp_seq ?_
    refine wp_block ?_
    refine c_loop (S := Int × Int × Int) (fun (⟨m, x, b⟩ : Int × Int × Int) => ([(1, (.int .i64 m)), (5, (.int .i64 x)), (6, (.int .i64 b))] : List (Nat × Value))) (fun (⟨m, x, b⟩ : Int × Int × Int) (W : World) => W = w ∧ (0 ≤ m ∧ md (x * b ^ m.toNat) = md (a ^ n.toNat)) ∧ m ≤ 9223372036854775807 ∧ (0 ≤ x ∧ x < 1000003) ∧ (0 ≤ b ∧ b < 1000003)) (fun (⟨m, x, b⟩ : Int × Int × Int) => m.toNat) (n, ((1 : Nat) : Int), (md a)) ⟨rfl, rfl, rfl, trivial⟩ ⟨hE0, (by exact ⟨by omega, pw_start a n.toNat⟩), (by omega), (by omega), (by exact md_num _)⟩ ?_
    clear hE0
    rintro ⟨m, x, b⟩ ρ3 w3 ⟨hE3, hI, hm, hx, hb⟩
    refine wp_seq ?_
    refine wp_seq ?_
    refine wp_plain _ [0, 0] rfl ?_
    refine q_move (.int .i64 m) rfl up_none ?_
    by_cases hc4 : ((0 : Nat) : Int) < m
    ·
      refine q_gtr true rfl rfl (decide_eq_true hc4) up_none ?_
      refine lw_nil ?_
      refine c_cond_t rfl ?_
      refine wp_skip ?_
      refine wp_block ?_
      refine wp_seq ?_
      refine wp_seq ?_
      refine wp_plain _ [0, 0, 0] rfl ?_
      refine q_move (.int .i64 m) rfl up_none ?_
      refine q_rem (m % 2) rfl rfl (by decide) (tm2 hI.1) up_none ?_
      by_cases hc5 : m % 2 = ((1 : Nat) : Int)
      ·
        refine q_eql true rfl rfl (decide_eq_true hc5) up_none ?_
        refine lw_nil ?_
        refine c_cond_t rfl ?_
        refine wp_plain _ [0, 0, 0, 0] rfl ?_
        refine q_move (.int .i64 x) rfl up_none ?_
        refine q_move (.int .i64 b) rfl up_none ?_
        refine lw_callq 40 [] [] [(.int .i64 x), (.int .i64 b)] rfl rfl cf40 up_none (.int .i64 (md (x * b))) (fun wq => c_spec_Times wq _ _ (by omega) (by omega)) ?_
        refine q_assign (.int .i64 (md (x * b))) rfl up_none ?_
        refine lw_nil ?_
        refine wp_seq ?_
        refine wp_plain _ [0, 0, 0, 0] rfl ?_
        refine q_move (.int .i64 b) rfl up_none ?_
        refine q_move (.int .i64 b) rfl up_none ?_
        refine lw_callq 40 [] [] [(.int .i64 b), (.int .i64 b)] rfl rfl cf40 up_none (.int .i64 (md (b * b))) (fun wq => c_spec_Times wq _ _ (by omega) (by omega)) ?_
        refine q_assign (.int .i64 (md (b * b))) rfl up_none ?_
        refine lw_nil ?_
        refine wp_plain _ [0, 0, 0] rfl ?_
        refine q_move (.int .i64 m) rfl up_none ?_
        refine q_quo (m / 2) rfl rfl (by decide) (td2 hI.1 hm) up_none ?_
        refine q_assign (.int .i64 (m / 2)) rfl up_none ?_
        refine lw_nil ?_
        exact ⟨((m / 2), (md (x * b)), (md (b * b))), _, rfl, ⟨rfl, rfl, rfl, trivial⟩, ⟨hE3, (by exact ⟨by omega, by first | exact pw_odd hI.2 (by omega) (by assumption) | exact pw_even hI.2 (by omega) (by assumption)⟩), (by omega), (by first | exact hx | exact md_num _), (by exact md_num _)⟩, by first | omega | (dsimp only; omega)⟩
      ·
        refine q_eql false rfl rfl (decide_eq_false hc5) up_none ?_
        refine lw_nil ?_
        refine c_cond_f rfl ?_
        refine wp_skip ?_
        refine wp_seq ?_
        refine wp_plain _ [0, 0, 0, 0] rfl ?_
        refine q_move (.int .i64 b) rfl up_none ?_
        refine q_move (.int .i64 b) rfl up_none ?_
        refine lw_callq 40 [] [] [(.int .i64 b), (.int .i64 b)] rfl rfl cf40 up_none (.int .i64 (md (b * b))) (fun wq => c_spec_Times wq _ _ (by omega) (by omega)) ?_
        refine q_assign (.int .i64 (md (b * b))) rfl up_none ?_
        refine lw_nil ?_
        refine wp_plain _ [0, 0, 0] rfl ?_
        refine q_move (.int .i64 m) rfl up_none ?_
        refine q_quo (m / 2) rfl rfl (by decide) (td2 hI.1 hm) up_none ?_
        refine q_assign (.int .i64 (m / 2)) rfl up_none ?_
        refine lw_nil ?_
        exact ⟨((m / 2), x, (md (b * b))), _, rfl, ⟨rfl, rfl, rfl, trivial⟩, ⟨hE3, (by exact ⟨by omega, by first | exact pw_odd hI.2 (by omega) (by assumption) | exact pw_even hI.2 (by omega) (by assumption)⟩), (by omega), (by first | exact hx | exact md_num _), (by exact md_num _)⟩, by first | omega | (dsimp only; omega)⟩
    ·
      refine q_gtr false rfl rfl (decide_eq_false hc4) up_none ?_
      refine lw_nil ?_
      refine c_cond_f rfl ?_
      refine wp_exit ?_
      refine t_exit ?_
      refine t_exit ?_
      refine c_exit_here ?_
      refine wp_seq ?_
      refine wp_plain _ [0, 0] rfl ?_
      refine q_move (.int .i64 x) rfl up_none ?_
      refine q_assign (.int .i64 x) rfl up_none ?_
      refine lw_nil ?_
      refine wp_ret ?_
      exact post_ret [4] rfl (.int .i64 x) rfl ⟨(ret_int (pw_end hI.2 hI.1 (by assumption) (by assumption) hx)), hE3⟩

/- impl.Power -/
set_option maxHeartbeats 4000000 in
set_option maxRecDepth 100000 in
theorem c_impl_Power (w : World) (a : Int) (n : Int) (_ha : -9223372036854775808 ≤ a ∧ a ≤ 9223372036854775807) (_hn : -9223372036854775808 ≤ n ∧ n ≤ 9223372036854775807)  :
    Calls Try.prog 106 #[.int .i64 a, .int .i64 n] w (fun e w' => e = .returned (.int .i64 (pw a n)) ∧ w' = w) := by
  refine calls_mk [.int .i64 a, .int .i64 n] 27 Try.func106 rfl rfl (by simp) ?_
  have hE0 : w = w := rfl
  refine wp_seq ?_
  refine wp_plain _ [0] rfl ?_
  refine q_assign (.int .i64 ((0 : Nat) : Int)) rfl up_none ?_
  refine lw_nil ?_
  refine wp_seq ?_
  refine wp_seq ?_
  refine wp_plain _ [0, 0] rfl ?_
  refine q_move (.int .i64 n) rfl up_none ?_
  by_cases hc1 : n < ((0 : Nat) : Int)
  ·
    refine q_lss true rfl rfl (decide_eq_true hc1) up_none ?_
    refine lw_nil ?_
    refine c_cond_t rfl ?_
    refine wp_seq ?_
    refine wp_plain _ [0] rfl ?_
    refine q_assign (.int .i64 ((0 : Nat) : Int)) rfl up_none ?_
    refine lw_nil ?_
    refine wp_ret ?_
    refine t_ret ?_
    exact post_ret [4] rfl (.int .i64 ((0 : Nat) : Int)) rfl ⟨(ret_int (pw_neg (by assumption))), hE0⟩
  ·
    refine q_lss false rfl rfl (decide_eq_false hc1) up_none ?_
    refine lw_nil ?_
    refine c_cond_f rfl ?_
    refine wp_skip ?_
    refine wp_seq ?_
    refine wp_plain _ [0] rfl ?_
    refine q_assign (.int .i64 ((1 : Nat) : Int)) rfl up_none ?_
    refine lw_nil ?_
    refine wp_seq ?_
    refine wp_seq ?_
    refine wp_plain _ [0, 0, 0] rfl ?_
    refine q_move (.int .i64 a) rfl up_none ?_
    refine lw_callq 105 [] [] [(.int .i64 a)] rfl rfl cf105 up_none (.int .i64 (md a)) (fun wq => c_impl_Residue wq _ _ha) ?_
    refine q_assign (.int .i64 (md a)) rfl up_none ?_
    refine lw_nil ?_
    refine wp_block ?_
    refine c_loop (S := Int × Int × Int) (fun (⟨m, x, b⟩ : Int × Int × Int) => ([(1, (.int .i64 m)), (5, (.int .i64 x)), (6, (.int .i64 b))] : List (Nat × Value))) (fun (⟨m, x, b⟩ : Int × Int × Int) (W : World) => W = w ∧ (0 ≤ m ∧ md (x * b ^ m.toNat) = md (a ^ n.toNat)) ∧ m ≤ 9223372036854775807 ∧ (0 ≤ x ∧ x < 1000003) ∧ (0 ≤ b ∧ b < 1000003)) (fun (⟨m, x, b⟩ : Int × Int × Int) => m.toNat) (n, ((1 : Nat) : Int), (md a)) ⟨rfl, rfl, rfl, trivial⟩ ⟨hE0, (by exact ⟨by omega, pw_start a n.toNat⟩), (by omega), (by omega), (by exact md_num _)⟩ ?_
    clear hE0
    rintro ⟨m, x, b⟩ ρ3 w3 ⟨hE3, hI, hm, hx, hb⟩
    refine wp_seq ?_
    refine wp_seq ?_
    refine wp_plain _ [0, 0] rfl ?_
    refine q_move (.int .i64 m) rfl up_none ?_
    by_cases hc4 : ((0 : Nat) : Int) < m
    ·
      refine q_gtr true rfl rfl (decide_eq_true hc4) up_none ?_
      refine lw_nil ?_
      refine c_cond_t rfl ?_
      refine wp_skip ?_
      refine wp_seq ?_
      refine wp_block ?_
      refine wp_seq ?_
      refine wp_seq ?_
      refine wp_plain _ [0, 0, 0] rfl ?_
      refine q_move (.int .i64 m) rfl up_none ?_
      refine q_rem (m % 2) rfl rfl (by decide) (tm2 hI.1) up_none ?_
      by_cases hc5 : m % 2 = ((1 : Nat) : Int)
      ·
        refine q_eql true rfl rfl (decide_eq_true hc5) up_none ?_
        refine lw_nil ?_
        refine c_cond_t rfl ?_
        refine wp_plain _ [0, 0, 0, 0, 0] rfl ?_
        refine q_move (.int .i64 x) rfl up_none ?_
        refine q_move (.int .i64 b) rfl up_none ?_
        refine q_mul (wr (x * b)) rfl rfl rfl up_none ?_
        refine q_rem (md (x * b)) rfl rfl (by decide) (nm_eq hx hb) up_none ?_
        refine q_assign (.int .i64 (md (x * b))) rfl up_none ?_
        refine lw_nil ?_
        refine wp_plain _ [0, 0, 0, 0, 0] rfl ?_
        refine q_move (.int .i64 b) rfl up_none ?_
        refine q_move (.int .i64 b) rfl up_none ?_
        refine q_mul (wr (b * b)) rfl rfl rfl up_none ?_
        refine q_rem (md (b * b)) rfl rfl (by decide) (nm_eq hb hb) up_none ?_
        refine q_assign (.int .i64 (md (b * b))) rfl up_none ?_
        refine lw_nil ?_
        refine wp_plain _ [0, 0, 0] rfl ?_
        refine q_move (.int .i64 m) rfl up_none ?_
        refine q_quo (m / 2) rfl rfl (by decide) (td2 hI.1 hm) up_none ?_
        refine q_assign (.int .i64 (m / 2)) rfl up_none ?_
        refine lw_nil ?_
        exact ⟨((m / 2), (md (x * b)), (md (b * b))), _, rfl, ⟨rfl, rfl, rfl, trivial⟩, ⟨hE3, (by exact ⟨by omega, by first | exact pw_odd hI.2 (by omega) (by assumption) | exact pw_even hI.2 (by omega) (by assumption)⟩), (by omega), (by first | exact hx | exact md_num _), (by exact md_num _)⟩, by first | omega | (dsimp only; omega)⟩
      ·
        refine q_eql false rfl rfl (decide_eq_false hc5) up_none ?_
        refine lw_nil ?_
        refine c_cond_f rfl ?_
        refine wp_skip ?_
        refine wp_plain _ [0, 0, 0, 0, 0] rfl ?_
        refine q_move (.int .i64 b) rfl up_none ?_
        refine q_move (.int .i64 b) rfl up_none ?_
        refine q_mul (wr (b * b)) rfl rfl rfl up_none ?_
        refine q_rem (md (b * b)) rfl rfl (by decide) (nm_eq hb hb) up_none ?_
        refine q_assign (.int .i64 (md (b * b))) rfl up_none ?_
        refine lw_nil ?_
        refine wp_plain _ [0, 0, 0] rfl ?_
        refine q_move (.int .i64 m) rfl up_none ?_
        refine q_quo (m / 2) rfl rfl (by decide) (td2 hI.1 hm) up_none ?_
        refine q_assign (.int .i64 (m / 2)) rfl up_none ?_
        refine lw_nil ?_
        exact ⟨((m / 2), x, (md (b * b))), _, rfl, ⟨rfl, rfl, rfl, trivial⟩, ⟨hE3, (by exact ⟨by omega, by first | exact pw_odd hI.2 (by omega) (by assumption) | exact pw_even hI.2 (by omega) (by assumption)⟩), (by omega), (by first | exact hx | exact md_num _), (by exact md_num _)⟩, by first | omega | (dsimp only; omega)⟩
    ·
      refine q_gtr false rfl rfl (decide_eq_false hc4) up_none ?_
      refine lw_nil ?_
      refine c_cond_f rfl ?_
      refine wp_exit ?_
      refine t_exit ?_
      refine t_exit ?_
      refine c_exit_here ?_
      refine wp_seq ?_
      refine wp_plain _ [0, 0] rfl ?_
      refine q_move (.int .i64 x) rfl up_none ?_
      refine q_assign (.int .i64 x) rfl up_none ?_
      refine lw_nil ?_
      refine wp_ret ?_
      exact post_ret [4] rfl (.int .i64 x) rfl ⟨(ret_int (pw_end hI.2 hI.1 (by assumption) (by assumption) hx)), hE3⟩

/- spec.l01Inv -/
set_option maxHeartbeats 4000000 in
set_option maxRecDepth 100000 in
theorem c_spec_l01Inv (w : World) (a : Int) (_ha : -9223372036854775808 ≤ a ∧ a ≤ 9223372036854775807)  :
    Calls Try.prog 61 #[.int .i64 a] w (fun e w' => e = .returned (.int .i64 (inv a)) ∧ w' = w) := by
  refine calls_mk [.int .i64 a] 5 Try.func61 rfl rfl (by simp) ?_
  have hE0 : w = w := rfl
  refine wp_seq ?_
  refine wp_plain _ [0] rfl ?_
  refine q_assign (.int .i64 ((0 : Nat) : Int)) rfl up_none ?_
  refine lw_nil ?_
  refine wp_seq ?_
  refine wp_plain _ [0, 0, 0] rfl ?_
  refine q_move (.int .i64 a) rfl up_none ?_
  refine lw_callq 100 [] [] [(.int .i64 a), (.int .i64 ((1000001 : Nat) : Int))] rfl rfl cf100 up_none (.int .i64 (pw a ((1000001 : Nat) : Int))) (fun wq => c_spec_Power wq _ _ _ha (by omega)) ?_
  refine q_assign (.int .i64 (pw a ((1000001 : Nat) : Int))) rfl up_none ?_
  refine lw_nil ?_
  refine wp_ret ?_
  exact post_ret [2] rfl (.int .i64 (pw a ((1000001 : Nat) : Int))) rfl ⟨rfl, hE0⟩

/- impl.inverse -/
set_option maxHeartbeats 4000000 in
set_option maxRecDepth 100000 in
theorem c_impl_inverse (w : World) (a : Int) (_ha : -9223372036854775808 ≤ a ∧ a ≤ 9223372036854775807)  :
    Calls Try.prog 68 #[.int .i64 a] w (fun e w' => e = .returned (.int .i64 (inv a)) ∧ w' = w) := by
  refine calls_mk [.int .i64 a] 5 Try.func68 rfl rfl (by simp) ?_
  have hE0 : w = w := rfl
  refine wp_seq ?_
  refine wp_plain _ [0] rfl ?_
  refine q_assign (.int .i64 ((0 : Nat) : Int)) rfl up_none ?_
  refine lw_nil ?_
  refine wp_seq ?_
  refine wp_plain _ [0, 0, 0] rfl ?_
  refine q_move (.int .i64 a) rfl up_none ?_
  refine lw_callq 106 [] [] [(.int .i64 a), (.int .i64 ((1000001 : Nat) : Int))] rfl rfl cf106 up_none (.int .i64 (pw a ((1000001 : Nat) : Int))) (fun wq => c_impl_Power wq _ _ _ha (by omega)) ?_
  refine q_assign (.int .i64 (pw a ((1000001 : Nat) : Int))) rfl up_none ?_
  refine lw_nil ?_
  refine wp_ret ?_
  exact post_ret [2] rfl (.int .i64 (pw a ((1000001 : Nat) : Int))) rfl ⟨rfl, hE0⟩

/- impl.isNumber -/
set_option maxHeartbeats 4000000 in
set_option maxRecDepth 100000 in
theorem c_impl_isNumber (w : World) (n : Int) (_hn : -9223372036854775808 ≤ n ∧ n ≤ 9223372036854775807)  :
    Calls Try.prog 103 #[.int .i64 n] w (fun e w' => e = .returned (.bool (isN n)) ∧ w' = w) := by
  refine calls_mk [.int .i64 n] 5 Try.func103 rfl rfl (by simp) ?_
  have hE0 : w = w := rfl
  refine wp_seq ?_
  refine wp_plain _ [0] rfl ?_
  refine q_assign (.bool false) rfl up_none ?_
  refine lw_nil ?_
  refine wp_seq ?_
  refine wp_plain _ [0, 0, 0] rfl ?_
  refine q_move (.int .i64 n) rfl up_none ?_
  refine lw_callq 104 [] [] [(.int .i64 n), (.int .i64 ((0 : Nat) : Int)), (.int .i64 ((1000002 : Nat) : Int))] rfl rfl cf104 up_none (.bool (decide (((0 : Nat) : Int) ≤ n) && decide (n ≤ ((1000002 : Nat) : Int)))) (fun wq => c_impl_within wq _ _ _ _hn (by omega) (by omega)) ?_
  refine q_assign (.bool (decide (((0 : Nat) : Int) ≤ n) && decide (n ≤ ((1000002 : Nat) : Int)))) rfl up_none ?_
  refine lw_nil ?_
  refine wp_ret ?_
  exact post_ret [2] rfl (.bool (decide (((0 : Nat) : Int) ≤ n) && decide (n ≤ ((1000002 : Nat) : Int)))) rfl ⟨(ret_bool (by unfold isN; rfl)), hE0⟩

/- spec.l01Number -/
set_option maxHeartbeats 4000000 in
set_option maxRecDepth 100000 in
theorem c_spec_l01Number (w : World) (n : Int) (_hn : -9223372036854775808 ≤ n ∧ n ≤ 9223372036854775807)  :
    Calls Try.prog 107 #[.int .i64 n] w (fun e w' => e = .returned (.bool (isN n)) ∧ w' = w) := by
  refine calls_mk [.int .i64 n] 5 Try.func107 rfl rfl (by simp) ?_
  have hE0 : w = w := rfl
  refine wp_seq ?_
  refine wp_plain _ [0] rfl ?_
  refine q_assign (.bool false) rfl up_none ?_
  refine lw_nil ?_
  refine wp_seq ?_
  refine wp_plain _ [0, 0, 0] rfl ?_
  refine q_move (.int .i64 n) rfl up_none ?_
  refine lw_callq 57 [] [] [(.int .i64 n), (.int .i64 ((0 : Nat) : Int)), (.int .i64 ((1000002 : Nat) : Int))] rfl rfl cf57 up_none (.bool (decide (((0 : Nat) : Int) ≤ n) && decide (n ≤ ((1000002 : Nat) : Int)))) (fun wq => c_spec_l00In wq _ _ _ _hn (by omega) (by omega)) ?_
  refine q_assign (.bool (decide (((0 : Nat) : Int) ≤ n) && decide (n ≤ ((1000002 : Nat) : Int)))) rfl up_none ?_
  refine lw_nil ?_
  refine wp_ret ?_
  exact post_ret [2] rfl (.bool (decide (((0 : Nat) : Int) ≤ n) && decide (n ≤ ((1000002 : Nat) : Int)))) rfl ⟨(ret_bool (by unfold isN; rfl)), hE0⟩

/- impl.areNumbers$1 -/
set_option maxHeartbeats 4000000 in
set_option maxRecDepth 100000 in
theorem c_impl_areNumbers_1 (w : World) (n : Int) (_hn : -9223372036854775808 ≤ n ∧ n ≤ 9223372036854775807)  :
    Calls Try.prog 102 #[.int .i64 n] w (fun e w' => e = .returned (.bool (!isN n)) ∧ Ext w w') := by
  refine calls_mk [.int .i64 n] 6 Try.func102 rfl rfl (by simp) ?_
  have hE0 : Ext w w := Ext.refl w
  refine wp_seq ?_
  refine wp_plain _ [0] rfl ?_
  refine q_assign (.bool false) rfl up_none ?_
  refine lw_nil ?_
  refine wp_seq ?_
  refine wp_plain _ [0, 0, 0, 0] rfl ?_
  refine q_move (.int .i64 n) rfl up_none ?_
  refine lw_callq 103 [] [] [(.int .i64 n)] rfl rfl cf103 up_none (.bool (isN n)) (fun wq => c_impl_isNumber wq _ _hn) ?_
  refine q_not (!(isN n)) rfl rfl up_none ?_
  refine q_assign (.bool (!(isN n))) rfl up_none ?_
  refine lw_nil ?_
  refine wp_ret ?_
  exact post_ret [2] rfl (.bool (!(isN n))) rfl ⟨rfl, hE0⟩
end Go.Proofs.Ytjgnlnlngcjfcaa
