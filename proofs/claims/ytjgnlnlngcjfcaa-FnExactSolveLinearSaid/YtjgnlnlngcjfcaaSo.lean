/- Contracts of functions: each says what the function returns for all arguments that meet its premises. Printed by gen.py. -/
import Derived.Test.YtjgnlnlngcjfcaaMh
import Derived.Test.YtjgnlnlngcjfcaaFwJ
import Derived.Test.YtjgnlnlngcjfcaaT
import Derived.Test.YtjgnlnlngcjfcaaSa
import Derived.Test.YtjgnlnlngcjfcaaSb
import Derived.Test.YtjgnlnlngcjfcaaSc
import Derived.Test.YtjgnlnlngcjfcaaSf
import Derived.Test.YtjgnlnlngcjfcaaSn
import Derived.Test.YtjgnlnlngcjfcaaProg
namespace Go.Proofs.Ytjgnlnlngcjfcaa
open Go Go.RowKit
set_option linter.unusedVariables false
set_option linter.unusedSimpArgs false
attribute [local irreducible] LW
/- laws.FnExactSolveLinear -/
theorem tot_bound {a : List (List Int)} {L : Nat} (h1 : a.length ≤ L) (h2 : ∀ k, (a.getD k []).length ≤ L) : tot a a.length ≤ L * L := Nat.le_trans (tot_le h2 _ (Nat.le_refl _)) (Nat.mul_le_mul_right L h1)
theorem tot_bnd {a : List (List Int)} (h1 : a.length ≤ 1048576) (h2 : ∀ k, (a.getD k []).length ≤ 1048576) : tot a a.length ≤ 1099511627776 := by
  have := tot_bound h1 h2; omega

set_option maxHeartbeats 4000000 in
set_option maxRecDepth 100000 in
theorem c_laws_FnExactSolveLinear (w : World) (va : Value) (a : List (List Int)) (vb : Value) (b : List Int) (ha : Rd (rdL (rdL rI)) w.heap va a) (hb : Rd (rdL rI) w.heap vb b)  :
    Calls Try.prog 5 #[va, vb] w (fun e w' => e = .returned (.bool true) ∧ Ext w w') := by
  refine calls_mk [va, vb] 117 Try.func5 rfl rfl (by simp) ?_
  have hE0 : Ext w w := Ext.refl w
  have hl_va := ha.lenle
  have hl_vb := hb.lenle
  refine wp_seq ?_
  refine wp_plain _ [0] rfl ?_
  refine q_assign (.bool false) rfl up_none ?_
  refine lw_nil ?_
  refine wp_seq ?_
  refine wp_seq ?_
  refine wp_plain _ [0, 0, 0] rfl ?_
  refine q_move vb rfl up_none ?_
  refine q_len (v := vb) u29 rfl hb.isSl up_none ?_
  by_cases hc1 : ((1048576 : Nat) : Int) < ((b.length : Nat) : Int)
  ·
    refine q_gtr true rfl rfl (decide_eq_true hc1) up_none ?_
    refine lw_nil ?_
    refine c_cond_t rfl ?_
    refine wp_seq ?_
    refine wp_plain _ [0] rfl ?_
    refine q_assign (.bool true) rfl up_none ?_
    refine lw_nil ?_
    refine wp_ret ?_
    refine t_ret ?_
    exact post_ret [4] rfl (.bool true) rfl ⟨(by first | rfl | (exfalso; omega) | simp_all), hE0⟩
  ·
    refine q_gtr false rfl rfl (decide_eq_false hc1) up_none ?_
    refine lw_nil ?_
    refine c_cond_f rfl ?_
    refine wp_skip ?_
    refine wp_seq ?_
    refine wp_plain _ [0] rfl ?_
    refine q_assign (.int .i64 ((1048576 : Nat) : Int)) rfl up_none ?_
    refine lw_nil ?_
    refine wp_seq ?_
    refine wp_plain _ [0, 0, 3, 0] rfl ?_
    refine q_move va rfl up_none ?_
    refine q_move (.int .i64 ((1048576 : Nat) : Int)) rfl up_none ?_
    refine lw_call 11 [] [] [va, (.int .i64 ((1048576 : Nat) : Int))] rfl rfl cf11 up_none (c_laws_szInt64SS _ _ _ _ (ha.ext g2 hE0) (by omega) (by omega)) ?_
    rintro e2 w2 ⟨rfl, hX2⟩
    refine ⟨_, rfl, hX2, ?_⟩
    have hzs2 : w.heap.size ≤ w2.heap.size := hX2.size
    have hE2 : Ext w w2 := hE0.trans hX2
    refine q_assign (.int .i64 (szM a ((1048576 : Nat) : Int))) rfl up_none ?_
    refine lw_nil ?_
    refine wp_seq ?_
    refine wp_seq ?_
    refine wp_plain _ [0, 0] rfl ?_
    refine q_move (.int .i64 (szM a ((1048576 : Nat) : Int))) rfl up_none ?_
    by_cases hc3 : szM a ((1048576 : Nat) : Int) < ((0 : Nat) : Int)
    ·
      refine q_lss true rfl rfl (decide_eq_true hc3) up_none ?_
      refine lw_nil ?_
      refine c_cond_t rfl ?_
      refine wp_seq ?_
      refine wp_plain _ [0] rfl ?_
      refine q_assign (.bool true) rfl up_none ?_
      refine lw_nil ?_
      refine wp_ret ?_
      refine t_ret ?_
      exact post_ret [4] rfl (.bool true) rfl ⟨(by first | rfl | (exfalso; omega) | simp_all), hE2⟩
    ·
      refine q_lss false rfl rfl (decide_eq_false hc3) up_none ?_
      refine lw_nil ?_
      refine c_cond_f rfl ?_
      refine wp_skip ?_
      refine wp_seq ?_
      refine wp_plain _ [0, 3, 0, 3, 3, 0, 0, 0, 0, 0] rfl ?_
      refine q_move va rfl up_none ?_
      refine lw_call 13 [] [] [va] rfl rfl cf13 up_none (c_laws_toInt64SS _ _ _ (ha.ext g2 hE2) (by have := (szM_le (a := a) (l := ((1048576 : Nat) : Int)) (by omega) (by omega)).2.1; omega) (by intro k; have := (szM_le (a := a) (l := ((1048576 : Nat) : Int)) (by omega) (by omega)).2.2 k; omega)) ?_
      rintro e4 w4 ⟨v4_0, rfl, hX4, hO4_0⟩
      refine ⟨_, rfl, hX4, ?_⟩
      have hzs4 : w2.heap.size ≤ w4.heap.size := hX4.size
      have hE4 : Ext w w4 := hE2.trans hX4
      refine q_move vb rfl up_none ?_
      refine lw_call 17 [] [] [vb] rfl rfl cf17 up_none (c_laws_toInt64S _ _ _ (hb.ext g1 hE4) (by omega)) ?_
      rintro e5 w5 ⟨v5_0, rfl, hX5, hO5_0⟩
      refine ⟨_, rfl, hX5, ?_⟩
      have hzs5 : w4.heap.size ≤ w5.heap.size := hX5.size
      have hE5 : Ext w w5 := hE4.trans hX5
      have hO4_0x5 := hO4_0.ext (o2) hX5
      refine lw_call 23 [] [] [v4_0, v5_0] rfl rfl cf23 up_none (c_spec_SolveLinear _ _ _ _ _ hO4_0x5.rd2 hO5_0.rd1) ?_
      rintro e6 w6 ⟨v6_0, rfl, hX6, hO6_0⟩
      refine ⟨_, rfl, hX6, ?_⟩
      have hzs6 : w5.heap.size ≤ w6.heap.size := hX6.size
      have hE6 : Ext w w6 := hE5.trans hX6
      have hO4_0x6 := hO4_0x5.ext (o2) hX6
      have hO5_0x6 := hO5_0.ext (o1) hX6
      refine q_move (.tuple #[v6_0, (.int .i64 (slC a b))]) rfl up_none ?_
      refine q_extract (vs := [v6_0, (.int .i64 (slC a b))]) v6_0 rfl rfl up_none ?_
      refine q_extract (vs := [v6_0, (.int .i64 (slC a b))]) (.int .i64 (slC a b)) rfl rfl up_none ?_
      refine q_assign v6_0 rfl up_none ?_
      refine q_assign (.int .i64 (slC a b)) rfl up_none ?_
      refine lw_nil ?_
      refine wp_seq ?_
      refine wp_plain _ [0, 3, 0] rfl ?_
      refine q_move va rfl up_none ?_
      refine lw_call 13 [] [] [va] rfl rfl cf13 up_none (c_laws_toInt64SS _ _ _ (ha.ext g2 hE6) (by have := (szM_le (a := a) (l := ((1048576 : Nat) : Int)) (by omega) (by omega)).2.1; omega) (by intro k; have := (szM_le (a := a) (l := ((1048576 : Nat) : Int)) (by omega) (by omega)).2.2 k; omega)) ?_
      rintro e7 w7 ⟨v7_0, rfl, hX7, hO7_0⟩
      refine ⟨_, rfl, hX7, ?_⟩
      have hzs7 : w6.heap.size ≤ w7.heap.size := hX7.size
      have hE7 : Ext w w7 := hE6.trans hX7
      have hO4_0x7 := hO4_0x6.ext (o2) hX7
      have hO5_0x7 := hO5_0x6.ext (o1) hX7
      have hO6_0x7 := hO6_0.ext (o1) hX7
      refine q_assign v7_0 rfl up_none ?_
      refine lw_nil ?_
      refine wp_seq ?_
      refine wp_plain _ [0, 3, 0] rfl ?_
      refine q_move vb rfl up_none ?_
      refine lw_call 17 [] [] [vb] rfl rfl cf17 up_none (c_laws_toInt64S _ _ _ (hb.ext g1 hE7) (by omega)) ?_
      rintro e8 w8 ⟨v8_0, rfl, hX8, hO8_0⟩
      refine ⟨_, rfl, hX8, ?_⟩
      have hzs8 : w7.heap.size ≤ w8.heap.size := hX8.size
      have hE8 : Ext w w8 := hE7.trans hX8
      have hO4_0x8 := hO4_0x7.ext (o2) hX8
      have hO5_0x8 := hO5_0x7.ext (o1) hX8
      have hO6_0x8 := hO6_0x7.ext (o1) hX8
      have hO7_0x8 := hO7_0.ext (o2) hX8
      refine q_assign v8_0 rfl up_none ?_
      refine lw_nil ?_
      refine wp_seq ?_
      refine wp_plain _ [0, 0, 3, 0, 0, 0, 0, 0] rfl ?_
      refine q_move v7_0 rfl up_none ?_
      refine q_move v8_0 rfl up_none ?_
      refine lw_call 24 [] [] [v7_0, v8_0] rfl rfl cf24 up_none (c_impl_SolveLinear _ _ _ _ _ hO7_0x8.rd2 hO8_0.rd1) ?_
      rintro e9 w9 ⟨v9_0, rfl, hX9, hO9_0⟩
      refine ⟨_, rfl, hX9, ?_⟩
      have hzs9 : w8.heap.size ≤ w9.heap.size := hX9.size
      have hE9 : Ext w w9 := hE8.trans hX9
      have hO4_0x9 := hO4_0x8.ext (o2) hX9
      have hO5_0x9 := hO5_0x8.ext (o1) hX9
      have hO6_0x9 := hO6_0x8.ext (o1) hX9
      have hO7_0x9 := hO7_0x8.ext (o2) hX9
      have hO8_0x9 := hO8_0.ext (o1) hX9
      refine q_move (.tuple #[v9_0, (.int .i64 (slC a b))]) rfl up_none ?_
      refine q_extract (vs := [v9_0, (.int .i64 (slC a b))]) v9_0 rfl rfl up_none ?_
      refine q_extract (vs := [v9_0, (.int .i64 (slC a b))]) (.int .i64 (slC a b)) rfl rfl up_none ?_
      refine q_assign v9_0 rfl up_none ?_
      refine q_assign (.int .i64 (slC a b)) rfl up_none ?_
      refine lw_nil ?_
      refine wp_seq ?_
      refine wp_seq ?_
      refine wp_plain _ [0, 0, 3, 0, 0, 0, 0, 0, 0] rfl ?_
      refine q_move v9_0 rfl up_none ?_
      refine q_move v6_0 rfl up_none ?_
      refine lw_call 19 [] [] [v9_0, v6_0] rfl rfl cf19 up_none (c_laws_eqInt64S _ _ _ _ _ hO9_0.rd1 hO6_0x9.rd1) ?_
      rintro e10 w10 ⟨rfl, hX10⟩
      refine ⟨_, rfl, hX10, ?_⟩
      have hzs10 : w9.heap.size ≤ w10.heap.size := hX10.size
      have hE10 : Ext w w10 := hE9.trans hX10
      have hO4_0x10 := hO4_0x9.ext (o2) hX10
      have hO5_0x10 := hO5_0x9.ext (o1) hX10
      have hO6_0x10 := hO6_0x9.ext (o1) hX10
      have hO7_0x10 := hO7_0x9.ext (o2) hX10
      have hO8_0x10 := hO8_0x9.ext (o1) hX10
      have hO9_0x10 := hO9_0.ext (o1) hX10
      refine q_not (!(decide ((slR a b) = (slR a b)))) rfl rfl up_none ?_
      refine q_move (.bool (!(decide ((slR a b) = (slR a b))))) rfl up_none ?_
      cases hb11 : (!(decide ((slR a b) = (slR a b))))
      ·
        refine q_move (.int .i64 (slC a b)) rfl (up_some (e := 47) rfl rfl rfl) ?_
        refine q_move (.int .i64 (slC a b)) rfl (up_some (e := 47) rfl rfl rfl) ?_
        refine q_neq false rfl rfl (by simp) (up_some (e := 47) rfl rfl rfl) ?_
        refine q_pick false (.bool false) rfl rfl up_none ?_
        refine lw_nil ?_
        refine c_cond_f rfl ?_
        refine wp_skip ?_
        refine wp_seq ?_
        refine wp_seq ?_
        refine wp_plain _ [0, 0, 3, 3, 0] rfl ?_
        refine q_move v7_0 rfl up_none ?_
        refine q_move va rfl up_none ?_
        refine lw_call 13 [] [] [va] rfl rfl cf13 up_none (c_laws_toInt64SS _ _ _ (ha.ext g2 hE10) (by have := (szM_le (a := a) (l := ((1048576 : Nat) : Int)) (by omega) (by omega)).2.1; omega) (by intro k; have := (szM_le (a := a) (l := ((1048576 : Nat) : Int)) (by omega) (by omega)).2.2 k; omega)) ?_
        rintro e12 w12 ⟨v12_0, rfl, hX12, hO12_0⟩
        refine ⟨_, rfl, hX12, ?_⟩
        have hzs12 : w10.heap.size ≤ w12.heap.size := hX12.size
        have hE12 : Ext w w12 := hE10.trans hX12
        have hO4_0x12 := hO4_0x10.ext (o2) hX12
        have hO5_0x12 := hO5_0x10.ext (o1) hX12
        have hO6_0x12 := hO6_0x10.ext (o1) hX12
        have hO7_0x12 := hO7_0x10.ext (o2) hX12
        have hO8_0x12 := hO8_0x10.ext (o1) hX12
        have hO9_0x12 := hO9_0x10.ext (o1) hX12
        refine lw_call 15 [] [] [v7_0, v12_0] rfl rfl cf15 up_none (c_laws_eqInt64SS _ _ _ _ _ hO7_0x12.rd2 hO12_0.rd2) ?_
        rintro e13 w13 ⟨rfl, hX13⟩
        refine ⟨_, rfl, hX13, ?_⟩
        have hzs13 : w12.heap.size ≤ w13.heap.size := hX13.size
        have hE13 : Ext w w13 := hE12.trans hX13
        have hO4_0x13 := hO4_0x12.ext (o2) hX13
        have hO5_0x13 := hO5_0x12.ext (o1) hX13
        have hO6_0x13 := hO6_0x12.ext (o1) hX13
        have hO7_0x13 := hO7_0x12.ext (o2) hX13
        have hO8_0x13 := hO8_0x12.ext (o1) hX13
        have hO9_0x13 := hO9_0x12.ext (o1) hX13
        have hO12_0x13 := hO12_0.ext (o2) hX13
        refine q_not (!(decide (a = a))) rfl rfl up_none ?_
        refine lw_nil ?_
        cases hb14 : (!(decide (a = a)))
        ·
          refine c_cond_f (by first | rfl | (show Value.bool _ = _; rw [hb14])) ?_
          refine wp_skip ?_
          refine wp_seq ?_
          refine wp_seq ?_
          refine wp_plain _ [0, 0, 3, 3, 0] rfl ?_
          refine q_move v8_0 rfl up_none ?_
          refine q_move vb rfl up_none ?_
          refine lw_call 17 [] [] [vb] rfl rfl cf17 up_none (c_laws_toInt64S _ _ _ (hb.ext g1 hE13) (by omega)) ?_
          rintro e15 w15 ⟨v15_0, rfl, hX15, hO15_0⟩
          refine ⟨_, rfl, hX15, ?_⟩
          have hzs15 : w13.heap.size ≤ w15.heap.size := hX15.size
          have hE15 : Ext w w15 := hE13.trans hX15
          have hO4_0x15 := hO4_0x13.ext (o2) hX15
          have hO5_0x15 := hO5_0x13.ext (o1) hX15
          have hO6_0x15 := hO6_0x13.ext (o1) hX15
          have hO7_0x15 := hO7_0x13.ext (o2) hX15
          have hO8_0x15 := hO8_0x13.ext (o1) hX15
          have hO9_0x15 := hO9_0x13.ext (o1) hX15
          have hO12_0x15 := hO12_0x13.ext (o2) hX15
          refine lw_call 19 [] [] [v8_0, v15_0] rfl rfl cf19 up_none (c_laws_eqInt64S _ _ _ _ _ hO8_0x15.rd1 hO15_0.rd1) ?_
          rintro e16 w16 ⟨rfl, hX16⟩
          refine ⟨_, rfl, hX16, ?_⟩
          have hzs16 : w15.heap.size ≤ w16.heap.size := hX16.size
          have hE16 : Ext w w16 := hE15.trans hX16
          have hO4_0x16 := hO4_0x15.ext (o2) hX16
          have hO5_0x16 := hO5_0x15.ext (o1) hX16
          have hO6_0x16 := hO6_0x15.ext (o1) hX16
          have hO7_0x16 := hO7_0x15.ext (o2) hX16
          have hO8_0x16 := hO8_0x15.ext (o1) hX16
          have hO9_0x16 := hO9_0x15.ext (o1) hX16
          have hO12_0x16 := hO12_0x15.ext (o2) hX16
          have hO15_0x16 := hO15_0.ext (o1) hX16
          refine q_not (!(decide (b = b))) rfl rfl up_none ?_
          refine lw_nil ?_
          cases hb17 : (!(decide (b = b)))
          ·
            refine c_cond_f (by first | rfl | (show Value.bool _ = _; rw [hb17])) ?_
            refine wp_skip ?_
            refine wp_seq ?_
            refine wp_plain _ [0] rfl ?_
            have htot : tot a a.length ≤ 1099511627776 := tot_bnd (szM_le (a := a) (l := ((1048576 : Nat) : Int)) (by omega) (by omega)).2.1 (szM_le (a := a) (l := ((1048576 : Nat) : Int)) (by omega) (by omega)).2.2
            have hlt := slR_len a b
            refine q_assign (.int .i64 ((1 : Nat) : Int)) rfl up_none ?_
            refine lw_nil ?_
            refine wp_seq ?_
            refine wp_plain _ [0, 0, 4, 0] rfl ?_
            refine q_move v7_0 rfl up_none ?_
            refine q_move (.int .i64 ((1 : Nat) : Int)) rfl up_none ?_
            obtain ⟨G18, ha18, hb18, hc18⟩ := hO7_0x16
            refine lw_callE 20 [] [] [v7_0, (.int .i64 ((1 : Nat) : Int))] rfl rfl cf20 up_none (c_laws_markInt64SS _ _ _ _ _ ha18 hb18 (by omega) (by omega)) ?_
            rintro e18 w18 ⟨rfl, hC18, hO18⟩
            refine ⟨_, rfl, ?_⟩
            have hE18 : Ext w w18 := hC18.below hE16 (fun b hb => Nat.le_trans hE6.size (hc18 b hb).1) hE16.size
            have hF18 := hc18
            have hM18 : Fr (owL (owL rI 2) 29) w6.heap.size w7.heap.size w18.heap v7_0 _ := ⟨G18, hO18, hb18, hc18⟩
            have hzs18 : w16.heap.size ≤ w18.heap.size := hC18.size
            have hF19 := hO4_0x16.chg (o2) hC18 (fun c hc => by have := hF18 c hc; omega)
            have hF20 := hO5_0x16.chg (o1) hC18 (fun c hc => by have := hF18 c hc; omega)
            have hF21 := hO6_0x16.chg (o1) hC18 (fun c hc => by have := hF18 c hc; omega)
            have hF22 := hO8_0x16.chg (o1) hC18 (fun c hc => by have := hF18 c hc; omega)
            have hF23 := hO9_0x16.chg (o1) hC18 (fun c hc => by have := hF18 c hc; omega)
            have hF24 := hO12_0x16.chg (o2) hC18 (fun c hc => by have := hF18 c hc; omega)
            have hF25 := hO15_0x16.chg (o1) hC18 (fun c hc => by have := hF18 c hc; omega)
            refine q_assign (.int .i64 (((1 : Nat) : Int) + ((tot a a.length : Nat) : Int))) rfl up_none ?_
            refine lw_nil ?_
            refine wp_seq ?_
            refine wp_plain _ [0, 0, 4, 0] rfl ?_
            refine q_move v8_0 rfl up_none ?_
            refine q_move (.int .i64 (((1 : Nat) : Int) + ((tot a a.length : Nat) : Int))) rfl up_none ?_
            obtain ⟨G26, ha26, hb26, hc26⟩ := hF22
            refine lw_callE 21 [] [] [v8_0, (.int .i64 (((1 : Nat) : Int) + ((tot a a.length : Nat) : Int)))] rfl rfl cf21 up_none (c_laws_markInt64S _ _ _ _ _ ha26 hb26 (by omega) (by omega)) ?_
            rintro e26 w26 ⟨rfl, hC26, hO26⟩
            refine ⟨_, rfl, ?_⟩
            have hE26 : Ext w w26 := hC26.below hE18 (fun b hb => Nat.le_trans hE7.size (hc26 b hb).1) hE18.size
            have hF26 := hc26
            have hM26 : Fr (owL rI 2) w7.heap.size w8.heap.size w26.heap v8_0 _ := ⟨G26, hO26, hb26, hc26⟩
            have hzs26 : w18.heap.size ≤ w26.heap.size := hC26.size
            have hF27 := hF19.chg (o2) hC26 (fun c hc => by have := hF26 c hc; omega)
            have hF28 := hF20.chg (o1) hC26 (fun c hc => by have := hF26 c hc; omega)
            have hF29 := hF21.chg (o1) hC26 (fun c hc => by have := hF26 c hc; omega)
            have hF30 := hM18.chg (o2) hC26 (fun c hc => by have := hF26 c hc; omega)
            have hF31 := hF23.chg (o1) hC26 (fun c hc => by have := hF26 c hc; omega)
            have hF32 := hF24.chg (o2) hC26 (fun c hc => by have := hF26 c hc; omega)
            have hF33 := hF25.chg (o1) hC26 (fun c hc => by have := hF26 c hc; omega)
            refine q_assign (.int .i64 ((((1 : Nat) : Int) + ((tot a a.length : Nat) : Int)) + ((b.length : Nat) : Int))) rfl up_none ?_
            refine lw_nil ?_
            refine wp_seq ?_
            refine wp_seq ?_
            refine wp_plain _ [0, 0, 0, 0, 0, 3, 0, 0, 0, 0, 0, 0, 0] rfl ?_
            refine q_move (.int .i64 ((((1 : Nat) : Int) + ((tot a a.length : Nat) : Int)) + ((b.length : Nat) : Int))) rfl up_none ?_
            by_cases hc34 : (((1 : Nat) : Int) + ((tot a a.length : Nat) : Int)) + ((b.length : Nat) : Int) < ((0 : Nat) : Int)
            ·
              refine q_lss true rfl rfl (decide_eq_true hc34) up_none ?_
              refine q_move (.bool true) rfl up_none ?_
              refine lw_skip (e := 70) (c := true) rfl rfl rfl rfl ?_
              refine lw_skip (e := 70) (c := true) rfl rfl rfl rfl ?_
              refine lw_skip (e := 70) (c := true) rfl rfl rfl rfl ?_
              refine lw_skip (e := 70) (c := true) rfl rfl rfl rfl ?_
              refine q_pick true (.bool true) rfl rfl up_none ?_
              refine q_move (.bool true) rfl up_none ?_
              refine lw_skip (e := 76) (c := true) rfl rfl rfl rfl ?_
              refine lw_skip (e := 76) (c := true) rfl rfl rfl rfl ?_
              refine lw_skip (e := 76) (c := true) rfl rfl rfl rfl ?_
              refine q_pick true (.bool true) rfl rfl up_none ?_
              refine lw_nil ?_
              refine c_cond_t rfl ?_
              refine wp_seq ?_
              refine wp_plain _ [0] rfl ?_
              refine q_assign (.bool false) rfl up_none ?_
              refine lw_nil ?_
              refine wp_ret ?_
              refine t_ret ?_
              exact post_ret [4] rfl (.bool false) rfl ⟨(by first | rfl | (exfalso; omega) | simp_all), hE26⟩
            ·
              refine q_lss false rfl rfl (decide_eq_false hc34) up_none ?_
              refine q_move (.bool false) rfl up_none ?_
              refine q_move v9_0 rfl (up_some (e := 70) rfl rfl rfl) ?_
              refine q_move v6_0 rfl (up_some (e := 70) rfl rfl rfl) ?_
              refine lw_call 19 [] [] [v9_0, v6_0] rfl rfl cf19 (up_some (e := 70) rfl rfl rfl) (c_laws_eqInt64S _ _ _ _ _ hF31.rd1 hF29.rd1) ?_
              rintro e35 w35 ⟨rfl, hX35⟩
              refine ⟨_, rfl, hX35, ?_⟩
              have hzs35 : w26.heap.size ≤ w35.heap.size := hX35.size
              have hE35 : Ext w w35 := hE26.trans hX35
              have hF27x35 := hF27.ext (o2) hX35
              have hF28x35 := hF28.ext (o1) hX35
              have hF29x35 := hF29.ext (o1) hX35
              have hF30x35 := hF30.ext (o2) hX35
              have hM26x35 := hM26.ext (o1) hX35
              have hF31x35 := hF31.ext (o1) hX35
              have hF32x35 := hF32.ext (o2) hX35
              have hF33x35 := hF33.ext (o1) hX35
              refine q_not (!(decide ((slR a b) = (slR a b)))) rfl rfl (up_some (e := 70) rfl rfl rfl) ?_
              refine q_pick false (.bool (!(decide ((slR a b) = (slR a b))))) rfl rfl up_none ?_
              refine q_move (.bool (!(decide ((slR a b) = (slR a b))))) rfl up_none ?_
              cases hb36 : (!(decide ((slR a b) = (slR a b))))
              ·
                refine q_move (.int .i64 (slC a b)) rfl (up_some (e := 76) rfl rfl rfl) ?_
                refine q_move (.int .i64 (slC a b)) rfl (up_some (e := 76) rfl rfl rfl) ?_
                refine q_neq false rfl rfl (by simp) (up_some (e := 76) rfl rfl rfl) ?_
                refine q_pick false (.bool false) rfl rfl up_none ?_
                refine lw_nil ?_
                refine c_cond_f rfl ?_
                refine wp_skip ?_
                refine wp_seq ?_
                refine wp_plain _ [0] rfl ?_
                refine q_assign (.int .i64 ((1 : Nat) : Int)) rfl up_none ?_
                refine lw_nil ?_
                refine wp_seq ?_
                refine wp_plain _ [0, 0, 4, 0] rfl ?_
                refine q_move v9_0 rfl up_none ?_
                refine q_move (.int .i64 ((1 : Nat) : Int)) rfl up_none ?_
                obtain ⟨G37, ha37, hb37, hc37⟩ := hF31x35
                refine lw_callE 21 [] [] [v9_0, (.int .i64 ((1 : Nat) : Int))] rfl rfl cf21 up_none (c_laws_markInt64S _ _ _ _ _ ha37 hb37 (by omega) (by omega)) ?_
                rintro e37 w37 ⟨rfl, hC37, hO37⟩
                refine ⟨_, rfl, ?_⟩
                have hE37 : Ext w w37 := hC37.below hE35 (fun b hb => Nat.le_trans hE8.size (hc37 b hb).1) hE35.size
                have hF37 := hc37
                have hM37 : Fr (owL rI 2) w8.heap.size w9.heap.size w37.heap v9_0 _ := ⟨G37, hO37, hb37, hc37⟩
                have hzs37 : w35.heap.size ≤ w37.heap.size := hC37.size
                have hF38 := hF27x35.chg (o2) hC37 (fun c hc => by have := hF37 c hc; omega)
                have hF39 := hF28x35.chg (o1) hC37 (fun c hc => by have := hF37 c hc; omega)
                have hF40 := hF29x35.chg (o1) hC37 (fun c hc => by have := hF37 c hc; omega)
                have hF41 := hF30x35.chg (o2) hC37 (fun c hc => by have := hF37 c hc; omega)
                have hF42 := hM26x35.chg (o1) hC37 (fun c hc => by have := hF37 c hc; omega)
                have hF43 := hF32x35.chg (o2) hC37 (fun c hc => by have := hF37 c hc; omega)
                have hF44 := hF33x35.chg (o1) hC37 (fun c hc => by have := hF37 c hc; omega)
                refine q_assign (.int .i64 (((1 : Nat) : Int) + (((slR a b).length : Nat) : Int))) rfl up_none ?_
                refine lw_nil ?_
                refine wp_seq ?_
                refine wp_plain _ [0] rfl ?_
                refine q_assign (.int .i64 ((1 : Nat) : Int)) rfl up_none ?_
                refine lw_nil ?_
                refine wp_seq ?_
                refine wp_plain _ [0, 0, 3, 0] rfl ?_
                refine q_move v9_0 rfl up_none ?_
                refine q_move (.int .i64 ((1 : Nat) : Int)) rfl up_none ?_
                refine lw_call 25 [] [] [v9_0, (.int .i64 ((1 : Nat) : Int))] rfl rfl cf25 up_none (c_laws_heldInt64S _ _ _ _ hM37.rd1 (by omega) (by rw [up_len]; omega) (by intro i hi; rw [up_len] at hi; exact up_get hi)) ?_
                rintro e45 w45 ⟨rfl, hX45⟩
                refine ⟨_, rfl, hX45, ?_⟩
                have hzs45 : w37.heap.size ≤ w45.heap.size := hX45.size
                have hE45 : Ext w w45 := hE37.trans hX45
                have hF38x45 := hF38.ext (o2) hX45
                have hF39x45 := hF39.ext (o1) hX45
                have hF40x45 := hF40.ext (o1) hX45
                have hF41x45 := hF41.ext (o2) hX45
                have hF42x45 := hF42.ext (o1) hX45
                have hM37x45 := hM37.ext (o1) hX45
                have hF43x45 := hF43.ext (o2) hX45
                have hF44x45 := hF44.ext (o1) hX45
                refine q_assign (.int .i64 (((1 : Nat) : Int) + (((up (slR a b).length ((1 : Nat) : Int)).length : Nat) : Int))) rfl up_none ?_
                refine lw_nil ?_
                refine wp_seq ?_
                refine wp_seq ?_
                refine wp_plain _ [0, 0] rfl ?_
                refine q_move (.int .i64 (((1 : Nat) : Int) + (((up (slR a b).length ((1 : Nat) : Int)).length : Nat) : Int))) rfl up_none ?_
                by_cases hc46 : ((1 : Nat) : Int) + (((up (slR a b).length ((1 : Nat) : Int)).length : Nat) : Int) < ((0 : Nat) : Int)
                ·
                  refine q_lss true rfl rfl (decide_eq_true hc46) up_none ?_
                  refine lw_nil ?_
                  refine c_cond_t rfl ?_
                  refine wp_seq ?_
                  refine wp_plain _ [0] rfl ?_
                  refine q_assign (.bool false) rfl up_none ?_
                  refine lw_nil ?_
                  refine wp_ret ?_
                  refine t_ret ?_
                  exact post_ret [4] rfl (.bool false) rfl ⟨(by first | rfl | (exfalso; omega) | simp_all), hE45⟩
                ·
                  refine q_lss false rfl rfl (decide_eq_false hc46) up_none ?_
                  refine lw_nil ?_
                  refine c_cond_f rfl ?_
                  refine wp_skip ?_
                  refine wp_seq ?_
                  refine wp_seq ?_
                  refine wp_plain _ [0, 0, 0] rfl ?_
                  have hmt : (up (slR a b).length ((1 : Nat) : Int)).length = (slR a b).length := up_len _ _
                  refine q_move (.int .i64 (((1 : Nat) : Int) + (((up (slR a b).length ((1 : Nat) : Int)).length : Nat) : Int))) rfl up_none ?_
                  refine q_move (.int .i64 (((1 : Nat) : Int) + (((slR a b).length : Nat) : Int))) rfl up_none ?_
                  by_cases hc47 : ((1 : Nat) : Int) + (((up (slR a b).length ((1 : Nat) : Int)).length : Nat) : Int) ≠ ((1 : Nat) : Int) + (((slR a b).length : Nat) : Int)
                  ·
                    refine q_neq true rfl rfl (decide_eq_true hc47) up_none ?_
                    refine lw_nil ?_
                    refine c_cond_t rfl ?_
                    refine wp_seq ?_
                    refine wp_plain _ [0] rfl ?_
                    refine q_assign (.bool false) rfl up_none ?_
                    refine lw_nil ?_
                    refine wp_ret ?_
                    refine t_ret ?_
                    exact post_ret [4] rfl (.bool false) rfl ⟨(by first | rfl | (exfalso; omega) | simp_all), hE45⟩
                  ·
                    refine q_neq false rfl rfl (decide_eq_false hc47) up_none ?_
                    refine lw_nil ?_
                    refine c_cond_f rfl ?_
                    refine wp_skip ?_
                    refine wp_seq ?_
                    refine wp_plain _ [0, 3, 0, 3, 3, 0, 0, 0, 0, 0] rfl ?_
                    refine q_move va rfl up_none ?_
                    refine lw_call 13 [] [] [va] rfl rfl cf13 up_none (c_laws_toInt64SS _ _ _ (ha.ext g2 hE45) (by have := (szM_le (a := a) (l := ((1048576 : Nat) : Int)) (by omega) (by omega)).2.1; omega) (by intro k; have := (szM_le (a := a) (l := ((1048576 : Nat) : Int)) (by omega) (by omega)).2.2 k; omega)) ?_
                    rintro e48 w48 ⟨v48_0, rfl, hX48, hO48_0⟩
                    refine ⟨_, rfl, hX48, ?_⟩
                    have hzs48 : w45.heap.size ≤ w48.heap.size := hX48.size
                    have hE48 : Ext w w48 := hE45.trans hX48
                    have hF38x48 := hF38x45.ext (o2) hX48
                    have hF39x48 := hF39x45.ext (o1) hX48
                    have hF40x48 := hF40x45.ext (o1) hX48
                    have hF41x48 := hF41x45.ext (o2) hX48
                    have hF42x48 := hF42x45.ext (o1) hX48
                    have hM37x48 := hM37x45.ext (o1) hX48
                    have hF43x48 := hF43x45.ext (o2) hX48
                    have hF44x48 := hF44x45.ext (o1) hX48
                    refine q_move vb rfl up_none ?_
                    refine lw_call 17 [] [] [vb] rfl rfl cf17 up_none (c_laws_toInt64S _ _ _ (hb.ext g1 hE48) (by omega)) ?_
                    rintro e49 w49 ⟨v49_0, rfl, hX49, hO49_0⟩
                    refine ⟨_, rfl, hX49, ?_⟩
                    have hzs49 : w48.heap.size ≤ w49.heap.size := hX49.size
                    have hE49 : Ext w w49 := hE48.trans hX49
                    have hF38x49 := hF38x48.ext (o2) hX49
                    have hF39x49 := hF39x48.ext (o1) hX49
                    have hF40x49 := hF40x48.ext (o1) hX49
                    have hF41x49 := hF41x48.ext (o2) hX49
                    have hF42x49 := hF42x48.ext (o1) hX49
                    have hM37x49 := hM37x48.ext (o1) hX49
                    have hF43x49 := hF43x48.ext (o2) hX49
                    have hF44x49 := hF44x48.ext (o1) hX49
                    have hO48_0x49 := hO48_0.ext (o2) hX49
                    refine lw_call 24 [] [] [v48_0, v49_0] rfl rfl cf24 up_none (c_impl_SolveLinear _ _ _ _ _ hO48_0x49.rd2 hO49_0.rd1) ?_
                    rintro e50 w50 ⟨v50_0, rfl, hX50, hO50_0⟩
                    refine ⟨_, rfl, hX50, ?_⟩
                    have hzs50 : w49.heap.size ≤ w50.heap.size := hX50.size
                    have hE50 : Ext w w50 := hE49.trans hX50
                    have hF38x50 := hF38x49.ext (o2) hX50
                    have hF39x50 := hF39x49.ext (o1) hX50
                    have hF40x50 := hF40x49.ext (o1) hX50
                    have hF41x50 := hF41x49.ext (o2) hX50
                    have hF42x50 := hF42x49.ext (o1) hX50
                    have hM37x50 := hM37x49.ext (o1) hX50
                    have hF43x50 := hF43x49.ext (o2) hX50
                    have hF44x50 := hF44x49.ext (o1) hX50
                    have hO48_0x50 := hO48_0x49.ext (o2) hX50
                    have hO49_0x50 := hO49_0.ext (o1) hX50
                    refine q_move (.tuple #[v50_0, (.int .i64 (slC a b))]) rfl up_none ?_
                    refine q_extract (vs := [v50_0, (.int .i64 (slC a b))]) v50_0 rfl rfl up_none ?_
                    refine q_extract (vs := [v50_0, (.int .i64 (slC a b))]) (.int .i64 (slC a b)) rfl rfl up_none ?_
                    refine q_assign v50_0 rfl up_none ?_
                    refine q_assign (.int .i64 (slC a b)) rfl up_none ?_
                    refine lw_nil ?_
                    refine wp_seq ?_
                    refine wp_seq ?_
                    refine wp_plain _ [0, 0, 3, 0, 0, 0, 0, 0, 0] rfl ?_
                    refine q_move v50_0 rfl up_none ?_
                    refine q_move v6_0 rfl up_none ?_
                    refine lw_call 19 [] [] [v50_0, v6_0] rfl rfl cf19 up_none (c_laws_eqInt64S _ _ _ _ _ hO50_0.rd1 hF40x50.rd1) ?_
                    rintro e51 w51 ⟨rfl, hX51⟩
                    refine ⟨_, rfl, hX51, ?_⟩
                    have hzs51 : w50.heap.size ≤ w51.heap.size := hX51.size
                    have hE51 : Ext w w51 := hE50.trans hX51
                    have hF38x51 := hF38x50.ext (o2) hX51
                    have hF39x51 := hF39x50.ext (o1) hX51
                    have hF40x51 := hF40x50.ext (o1) hX51
                    have hF41x51 := hF41x50.ext (o2) hX51
                    have hF42x51 := hF42x50.ext (o1) hX51
                    have hM37x51 := hM37x50.ext (o1) hX51
                    have hF43x51 := hF43x50.ext (o2) hX51
                    have hF44x51 := hF44x50.ext (o1) hX51
                    have hO48_0x51 := hO48_0x50.ext (o2) hX51
                    have hO49_0x51 := hO49_0x50.ext (o1) hX51
                    have hO50_0x51 := hO50_0.ext (o1) hX51
                    refine q_not (!(decide ((slR a b) = (slR a b)))) rfl rfl up_none ?_
                    refine q_move (.bool (!(decide ((slR a b) = (slR a b))))) rfl up_none ?_
                    cases hb52 : (!(decide ((slR a b) = (slR a b))))
                    ·
                      refine q_move (.int .i64 (slC a b)) rfl (up_some (e := 104) rfl rfl rfl) ?_
                      refine q_move (.int .i64 (slC a b)) rfl (up_some (e := 104) rfl rfl rfl) ?_
                      refine q_neq false rfl rfl (by simp) (up_some (e := 104) rfl rfl rfl) ?_
                      refine q_pick false (.bool false) rfl rfl up_none ?_
                      refine lw_nil ?_
                      refine c_cond_f rfl ?_
                      refine wp_skip ?_
                      refine wp_seq ?_
                      refine wp_plain _ [0] rfl ?_
                      refine q_assign (.int .i64 ((1 : Nat) : Int)) rfl up_none ?_
                      refine lw_nil ?_
                      refine wp_seq ?_
                      refine wp_plain _ [0, 0, 3, 0] rfl ?_
                      refine q_move v9_0 rfl up_none ?_
                      refine q_move (.int .i64 ((1 : Nat) : Int)) rfl up_none ?_
                      refine lw_call 25 [] [] [v9_0, (.int .i64 ((1 : Nat) : Int))] rfl rfl cf25 up_none (c_laws_heldInt64S _ _ _ _ hM37x51.rd1 (by omega) (by rw [up_len]; omega) (by intro i hi; rw [up_len] at hi; exact up_get hi)) ?_
                      rintro e53 w53 ⟨rfl, hX53⟩
                      refine ⟨_, rfl, hX53, ?_⟩
                      have hzs53 : w51.heap.size ≤ w53.heap.size := hX53.size
                      have hE53 : Ext w w53 := hE51.trans hX53
                      have hF38x53 := hF38x51.ext (o2) hX53
                      have hF39x53 := hF39x51.ext (o1) hX53
                      have hF40x53 := hF40x51.ext (o1) hX53
                      have hF41x53 := hF41x51.ext (o2) hX53
                      have hF42x53 := hF42x51.ext (o1) hX53
                      have hM37x53 := hM37x51.ext (o1) hX53
                      have hF43x53 := hF43x51.ext (o2) hX53
                      have hF44x53 := hF44x51.ext (o1) hX53
                      have hO48_0x53 := hO48_0x51.ext (o2) hX53
                      have hO49_0x53 := hO49_0x51.ext (o1) hX53
                      have hO50_0x53 := hO50_0x51.ext (o1) hX53
                      refine q_assign (.int .i64 (((1 : Nat) : Int) + (((up (slR a b).length ((1 : Nat) : Int)).length : Nat) : Int))) rfl up_none ?_
                      refine lw_nil ?_
                      refine wp_seq ?_
                      refine wp_seq ?_
                      refine wp_plain _ [0, 0] rfl ?_
                      refine q_move (.int .i64 (((1 : Nat) : Int) + (((up (slR a b).length ((1 : Nat) : Int)).length : Nat) : Int))) rfl up_none ?_
                      by_cases hc54 : ((1 : Nat) : Int) + (((up (slR a b).length ((1 : Nat) : Int)).length : Nat) : Int) < ((0 : Nat) : Int)
                      ·
                        refine q_lss true rfl rfl (decide_eq_true hc54) up_none ?_
                        refine lw_nil ?_
                        refine c_cond_t rfl ?_
                        refine wp_seq ?_
                        refine wp_plain _ [0] rfl ?_
                        refine q_assign (.bool false) rfl up_none ?_
                        refine lw_nil ?_
                        refine wp_ret ?_
                        refine t_ret ?_
                        exact post_ret [4] rfl (.bool false) rfl ⟨(by first | rfl | (exfalso; omega) | simp_all), hE53⟩
                      ·
                        refine q_lss false rfl rfl (decide_eq_false hc54) up_none ?_
                        refine lw_nil ?_
                        refine c_cond_f rfl ?_
                        refine wp_skip ?_
                        refine wp_seq ?_
                        refine wp_seq ?_
                        refine wp_plain _ [0, 0, 0] rfl ?_
                        have hmt : (up (slR a b).length ((1 : Nat) : Int)).length = (slR a b).length := up_len _ _
                        refine q_move (.int .i64 (((1 : Nat) : Int) + (((up (slR a b).length ((1 : Nat) : Int)).length : Nat) : Int))) rfl up_none ?_
                        refine q_move (.int .i64 (((1 : Nat) : Int) + (((slR a b).length : Nat) : Int))) rfl up_none ?_
                        by_cases hc55 : ((1 : Nat) : Int) + (((up (slR a b).length ((1 : Nat) : Int)).length : Nat) : Int) ≠ ((1 : Nat) : Int) + (((slR a b).length : Nat) : Int)
                        ·
                          refine q_neq true rfl rfl (decide_eq_true hc55) up_none ?_
                          refine lw_nil ?_
                          refine c_cond_t rfl ?_
                          refine wp_seq ?_
                          refine wp_plain _ [0] rfl ?_
                          refine q_assign (.bool false) rfl up_none ?_
                          refine lw_nil ?_
                          refine wp_ret ?_
                          refine t_ret ?_
                          exact post_ret [4] rfl (.bool false) rfl ⟨(by first | rfl | (exfalso; omega) | simp_all), hE53⟩
                        ·
                          refine q_neq false rfl rfl (decide_eq_false hc55) up_none ?_
                          refine lw_nil ?_
                          refine c_cond_f rfl ?_
                          refine wp_skip ?_
                          refine wp_seq ?_
                          refine wp_plain _ [0] rfl ?_
                          refine q_assign (.bool true) rfl up_none ?_
                          refine lw_nil ?_
                          refine wp_ret ?_
                          exact post_ret [4] rfl (.bool true) rfl ⟨(by first | rfl | (exfalso; omega) | simp_all), hE53⟩
                    ·
                      refine lw_skip (e := 104) (c := true) rfl rfl rfl rfl ?_
                      refine lw_skip (e := 104) (c := true) rfl rfl rfl rfl ?_
                      refine lw_skip (e := 104) (c := true) rfl rfl rfl rfl ?_
                      refine q_pick true (.bool true) rfl rfl up_none ?_
                      refine lw_nil ?_
                      refine c_cond_t rfl ?_
                      refine wp_seq ?_
                      refine wp_plain _ [0] rfl ?_
                      refine q_assign (.bool false) rfl up_none ?_
                      refine lw_nil ?_
                      refine wp_ret ?_
                      refine t_ret ?_
                      exact post_ret [4] rfl (.bool false) rfl ⟨(by first | rfl | (exfalso; omega) | simp_all), hE51⟩
              ·
                refine lw_skip (e := 76) (c := true) rfl rfl rfl rfl ?_
                refine lw_skip (e := 76) (c := true) rfl rfl rfl rfl ?_
                refine lw_skip (e := 76) (c := true) rfl rfl rfl rfl ?_
                refine q_pick true (.bool true) rfl rfl up_none ?_
                refine lw_nil ?_
                refine c_cond_t rfl ?_
                refine wp_seq ?_
                refine wp_plain _ [0] rfl ?_
                refine q_assign (.bool false) rfl up_none ?_
                refine lw_nil ?_
                refine wp_ret ?_
                refine t_ret ?_
                exact post_ret [4] rfl (.bool false) rfl ⟨(by first | rfl | (exfalso; omega) | simp_all), hE35⟩
          ·
            refine c_cond_t (by first | rfl | (show Value.bool _ = _; rw [hb17])) ?_
            refine wp_seq ?_
            refine wp_plain _ [0] rfl ?_
            refine q_assign (.bool false) rfl up_none ?_
            refine lw_nil ?_
            refine wp_ret ?_
            refine t_ret ?_
            exact post_ret [4] rfl (.bool false) rfl ⟨(by first | rfl | (exfalso; omega) | simp_all), hE16⟩
        ·
          refine c_cond_t (by first | rfl | (show Value.bool _ = _; rw [hb14])) ?_
          refine wp_seq ?_
          refine wp_plain _ [0] rfl ?_
          refine q_assign (.bool false) rfl up_none ?_
          refine lw_nil ?_
          refine wp_ret ?_
          refine t_ret ?_
          exact post_ret [4] rfl (.bool false) rfl ⟨(by first | rfl | (exfalso; omega) | simp_all), hE13⟩
      ·
        refine lw_skip (e := 47) (c := true) rfl rfl rfl rfl ?_
        refine lw_skip (e := 47) (c := true) rfl rfl rfl rfl ?_
        refine lw_skip (e := 47) (c := true) rfl rfl rfl rfl ?_
        refine q_pick true (.bool true) rfl rfl up_none ?_
        refine lw_nil ?_
        refine c_cond_t rfl ?_
        refine wp_seq ?_
        refine wp_plain _ [0] rfl ?_
        refine q_assign (.bool false) rfl up_none ?_
        refine lw_nil ?_
        refine wp_ret ?_
        refine t_ret ?_
        exact post_ret [4] rfl (.bool false) rfl ⟨(by first | rfl | (exfalso; omega) | simp_all), hE10⟩
end Go.Proofs.Ytjgnlnlngcjfcaa
