/- Contracts of functions: each says what the function returns for all arguments that meet its premises. Printed by gen.py. -/
import Derived.Test.YtjgnlnlngcjfcaaMq
import Derived.Test.YtjgnlnlngcjfcaaFwJ
import Derived.Test.YtjgnlnlngcjfcaaT
import Derived.Test.YtjgnlnlngcjfcaaSa
import Derived.Test.YtjgnlnlngcjfcaaSb
import Derived.Test.YtjgnlnlngcjfcaaSc
import Derived.Test.YtjgnlnlngcjfcaaSf
import Derived.Test.YtjgnlnlngcjfcaaSr
import Derived.Test.YtjgnlnlngcjfcaaSs
import Derived.Test.YtjgnlnlngcjfcaaSt
import Derived.Test.YtjgnlnlngcjfcaaProg
namespace Go.Proofs.Ytjgnlnlngcjfcaa
open Go Go.RowKit
set_option linter.unusedVariables false
set_option linter.unusedSimpArgs false
attribute [local irreducible] LW
/- laws.FnExactSolveSeries -/
theorem tot_bound {a : List (List Int)} {L : Nat} (h1 : a.length ≤ L) (h2 : ∀ k, (a.getD k []).length ≤ L) : tot a a.length ≤ L * L := Nat.le_trans (tot_le h2 _ (Nat.le_refl _)) (Nat.mul_le_mul_right L h1)
theorem tot_bnd {a : List (List Int)} (h1 : a.length ≤ 1048576) (h2 : ∀ k, (a.getD k []).length ≤ 1048576) : tot a a.length ≤ 1099511627776 := by
  have := tot_bound h1 h2; omega

set_option maxHeartbeats 4000000 in
set_option maxRecDepth 100000 in
theorem c_laws_FnExactSolveSeries (w : World) (va : Value) (a : List (List (List Int))) (vb : Value) (b : List (List Int)) (ha : Rd (rdL (rdL (rdL rI))) w.heap va a) (hb : Rd (rdL (rdL rI)) w.heap vb b)  :
    Calls Try.prog 9 #[va, vb] w (fun e w' => e = .returned (.bool true) ∧ Ext w w') := by
  refine calls_mk [va, vb] 119 Try.func9 rfl rfl (by simp) ?_
  have hE0 : Ext w w := Ext.refl w
  have hl_va := ha.lenle
  have hl_vb := hb.lenle
  refine wp_seq ?_
  refine wp_plain _ [0] rfl ?_
  refine q_assign (.bool false) rfl up_none ?_
  refine lw_nil ?_
  refine wp_seq ?_
  refine wp_plain _ [0] rfl ?_
  refine q_assign (.int .i64 ((1048576 : Nat) : Int)) rfl up_none ?_
  refine lw_nil ?_
  refine wp_seq ?_
  refine wp_plain _ [0, 0, 3, 0] rfl ?_
  refine q_move va rfl up_none ?_
  refine q_move (.int .i64 ((1048576 : Nat) : Int)) rfl up_none ?_
  refine lw_call 42 [] [] [va, (.int .i64 ((1048576 : Nat) : Int))] rfl rfl cf42 up_none (c_laws_szInt64SSS _ _ _ _ (ha.ext g3 hE0) (by omega) (by omega)) ?_
  rintro e1 w1 ⟨rfl, hX1⟩
  refine ⟨_, rfl, hX1, ?_⟩
  have hzs1 : w.heap.size ≤ w1.heap.size := hX1.size
  have hE1 : Ext w w1 := hE0.trans hX1
  refine q_assign (.int .i64 (szT a ((1048576 : Nat) : Int))) rfl up_none ?_
  refine lw_nil ?_
  refine wp_seq ?_
  refine wp_seq ?_
  refine wp_plain _ [0, 0] rfl ?_
  refine q_move (.int .i64 (szT a ((1048576 : Nat) : Int))) rfl up_none ?_
  by_cases hc2 : szT a ((1048576 : Nat) : Int) < ((0 : Nat) : Int)
  ·
    refine q_lss true rfl rfl (decide_eq_true hc2) up_none ?_
    refine lw_nil ?_
    refine c_cond_t rfl ?_
    refine wp_seq ?_
    refine wp_plain _ [0] rfl ?_
    refine q_assign (.bool true) rfl up_none ?_
    refine lw_nil ?_
    refine wp_ret ?_
    refine t_ret ?_
    exact post_ret [4] rfl (.bool true) rfl ⟨(by first | rfl | (exfalso; omega) | simp_all), hE1⟩
  ·
    refine q_lss false rfl rfl (decide_eq_false hc2) up_none ?_
    refine lw_nil ?_
    refine c_cond_f rfl ?_
    refine wp_skip ?_
    refine wp_seq ?_
    refine wp_plain _ [0, 0, 3, 0] rfl ?_
    have hL : 0 ≤ ((1048576 : Nat) : Int) ∧ ((1048576 : Nat) : Int) ≤ 1048576 := by omega
    have hst := szT_top a (l := ((1048576 : Nat) : Int)) (by omega)
    refine q_move vb rfl up_none ?_
    refine q_move (.int .i64 (szT a ((1048576 : Nat) : Int))) rfl up_none ?_
    refine lw_call 11 [] [] [vb, (.int .i64 (szT a ((1048576 : Nat) : Int)))] rfl rfl cf11 up_none (c_laws_szInt64SS _ _ _ _ (hb.ext g2 hE1) (szT_rng a hL) (by omega)) ?_
    rintro e3 w3 ⟨rfl, hX3⟩
    refine ⟨_, rfl, hX3, ?_⟩
    have hzs3 : w1.heap.size ≤ w3.heap.size := hX3.size
    have hE3 : Ext w w3 := hE1.trans hX3
    refine q_assign (.int .i64 (szM b (szT a ((1048576 : Nat) : Int)))) rfl up_none ?_
    refine lw_nil ?_
    refine wp_seq ?_
    refine wp_seq ?_
    refine wp_plain _ [0, 0] rfl ?_
    refine q_move (.int .i64 (szM b (szT a ((1048576 : Nat) : Int)))) rfl up_none ?_
    by_cases hc4 : szM b (szT a ((1048576 : Nat) : Int)) < ((0 : Nat) : Int)
    ·
      refine q_lss true rfl rfl (decide_eq_true hc4) up_none ?_
      refine lw_nil ?_
      refine c_cond_t rfl ?_
      refine wp_seq ?_
      refine wp_plain _ [0] rfl ?_
      refine q_assign (.bool true) rfl up_none ?_
      refine lw_nil ?_
      refine wp_ret ?_
      refine t_ret ?_
      exact post_ret [4] rfl (.bool true) rfl ⟨(by first | rfl | (exfalso; omega) | simp_all), hE3⟩
    ·
      refine q_lss false rfl rfl (decide_eq_false hc4) up_none ?_
      refine lw_nil ?_
      refine c_cond_f rfl ?_
      refine wp_skip ?_
      refine wp_seq ?_
      refine wp_plain _ [0, 3, 0, 3, 3, 0, 0, 0, 0, 0] rfl ?_
      have hA := szT_le (a := a) (l := ((1048576 : Nat) : Int)) (by omega) (by omega)
      have hB := szM_le (a := b) (l := szT a ((1048576 : Nat) : Int)) (by omega) (by omega)
      have hA1 := hA.1
      have hB1 := hB.2.1
      refine q_move va rfl up_none ?_
      refine lw_call 44 [] [] [va] rfl rfl cf44 up_none (c_laws_toInt64SSS _ _ _ (ha.ext g3 hE3) (by omega) (by intro k; exact ⟨by have := (hA.2 k).1; omega, fun j => by have := (hA.2 k).2 j; omega⟩)) ?_
      rintro e5 w5 ⟨v5_0, rfl, hX5, hO5_0⟩
      refine ⟨_, rfl, hX5, ?_⟩
      have hzs5 : w3.heap.size ≤ w5.heap.size := hX5.size
      have hE5 : Ext w w5 := hE3.trans hX5
      refine q_move vb rfl up_none ?_
      refine lw_call 13 [] [] [vb] rfl rfl cf13 up_none (c_laws_toInt64SS _ _ _ (hb.ext g2 hE5) (by omega) (by intro k; have := hB.2.2 k; omega)) ?_
      rintro e6 w6 ⟨v6_0, rfl, hX6, hO6_0⟩
      refine ⟨_, rfl, hX6, ?_⟩
      have hzs6 : w5.heap.size ≤ w6.heap.size := hX6.size
      have hE6 : Ext w w6 := hE5.trans hX6
      have hO5_0x6 := hO5_0.ext (o3) hX6
      refine lw_call 43 [] [] [v5_0, v6_0] rfl rfl cf43 up_none (c_spec_SolveSeries _ _ _ _ _ hO5_0x6.rd3 hO6_0.rd2) ?_
      rintro e7 w7 ⟨v7_0, rfl, hX7, hO7_0⟩
      refine ⟨_, rfl, hX7, ?_⟩
      have hzs7 : w6.heap.size ≤ w7.heap.size := hX7.size
      have hE7 : Ext w w7 := hE6.trans hX7
      have hO5_0x7 := hO5_0x6.ext (o3) hX7
      have hO6_0x7 := hO6_0.ext (o2) hX7
      refine q_move (.tuple #[v7_0, (.int .i64 (ssC a b))]) rfl up_none ?_
      refine q_extract (vs := [v7_0, (.int .i64 (ssC a b))]) v7_0 rfl rfl up_none ?_
      refine q_extract (vs := [v7_0, (.int .i64 (ssC a b))]) (.int .i64 (ssC a b)) rfl rfl up_none ?_
      refine q_assign v7_0 rfl up_none ?_
      refine q_assign (.int .i64 (ssC a b)) rfl up_none ?_
      refine lw_nil ?_
      refine wp_seq ?_
      refine wp_plain _ [0, 3, 0] rfl ?_
      refine q_move va rfl up_none ?_
      refine lw_call 44 [] [] [va] rfl rfl cf44 up_none (c_laws_toInt64SSS _ _ _ (ha.ext g3 hE7) (by omega) (by intro k; exact ⟨by have := (hA.2 k).1; omega, fun j => by have := (hA.2 k).2 j; omega⟩)) ?_
      rintro e8 w8 ⟨v8_0, rfl, hX8, hO8_0⟩
      refine ⟨_, rfl, hX8, ?_⟩
      have hzs8 : w7.heap.size ≤ w8.heap.size := hX8.size
      have hE8 : Ext w w8 := hE7.trans hX8
      have hO5_0x8 := hO5_0x7.ext (o3) hX8
      have hO6_0x8 := hO6_0x7.ext (o2) hX8
      have hO7_0x8 := hO7_0.ext (o2) hX8
      refine q_assign v8_0 rfl up_none ?_
      refine lw_nil ?_
      refine wp_seq ?_
      refine wp_plain _ [0, 3, 0] rfl ?_
      refine q_move vb rfl up_none ?_
      refine lw_call 13 [] [] [vb] rfl rfl cf13 up_none (c_laws_toInt64SS _ _ _ (hb.ext g2 hE8) (by omega) (by intro k; have := hB.2.2 k; omega)) ?_
      rintro e9 w9 ⟨v9_0, rfl, hX9, hO9_0⟩
      refine ⟨_, rfl, hX9, ?_⟩
      have hzs9 : w8.heap.size ≤ w9.heap.size := hX9.size
      have hE9 : Ext w w9 := hE8.trans hX9
      have hO5_0x9 := hO5_0x8.ext (o3) hX9
      have hO6_0x9 := hO6_0x8.ext (o2) hX9
      have hO7_0x9 := hO7_0x8.ext (o2) hX9
      have hO8_0x9 := hO8_0.ext (o3) hX9
      refine q_assign v9_0 rfl up_none ?_
      refine lw_nil ?_
      refine wp_seq ?_
      refine wp_plain _ [0, 0, 3, 0, 0, 0, 0, 0] rfl ?_
      refine q_move v8_0 rfl up_none ?_
      refine q_move v9_0 rfl up_none ?_
      refine lw_call 34 [] [] [v8_0, v9_0] rfl rfl cf34 up_none (c_impl_SolveSeries _ _ _ _ _ hO8_0x9.rd3 hO9_0.rd2 (by omega)) ?_
      rintro e10 w10 ⟨v10_0, rfl, hX10, hO10_0⟩
      refine ⟨_, rfl, hX10, ?_⟩
      have hzs10 : w9.heap.size ≤ w10.heap.size := hX10.size
      have hE10 : Ext w w10 := hE9.trans hX10
      have hO5_0x10 := hO5_0x9.ext (o3) hX10
      have hO6_0x10 := hO6_0x9.ext (o2) hX10
      have hO7_0x10 := hO7_0x9.ext (o2) hX10
      have hO8_0x10 := hO8_0x9.ext (o3) hX10
      have hO9_0x10 := hO9_0.ext (o2) hX10
      refine q_move (.tuple #[v10_0, (.int .i64 (ssC a b))]) rfl up_none ?_
      refine q_extract (vs := [v10_0, (.int .i64 (ssC a b))]) v10_0 rfl rfl up_none ?_
      refine q_extract (vs := [v10_0, (.int .i64 (ssC a b))]) (.int .i64 (ssC a b)) rfl rfl up_none ?_
      refine q_assign v10_0 rfl up_none ?_
      refine q_assign (.int .i64 (ssC a b)) rfl up_none ?_
      refine lw_nil ?_
      refine wp_seq ?_
      refine wp_seq ?_
      refine wp_plain _ [0, 0, 3, 0, 0, 0, 0, 0, 0] rfl ?_
      refine q_move v10_0 rfl up_none ?_
      refine q_move v7_0 rfl up_none ?_
      refine lw_call 15 [] [] [v10_0, v7_0] rfl rfl cf15 up_none (c_laws_eqInt64SS _ _ _ _ _ hO10_0.rd2 hO7_0x10.rd2) ?_
      rintro e11 w11 ⟨rfl, hX11⟩
      refine ⟨_, rfl, hX11, ?_⟩
      have hzs11 : w10.heap.size ≤ w11.heap.size := hX11.size
      have hE11 : Ext w w11 := hE10.trans hX11
      have hO5_0x11 := hO5_0x10.ext (o3) hX11
      have hO6_0x11 := hO6_0x10.ext (o2) hX11
      have hO7_0x11 := hO7_0x10.ext (o2) hX11
      have hO8_0x11 := hO8_0x10.ext (o3) hX11
      have hO9_0x11 := hO9_0x10.ext (o2) hX11
      have hO10_0x11 := hO10_0.ext (o2) hX11
      refine q_not (!(decide ((ssR a b) = (ssR a b)))) rfl rfl up_none ?_
      refine q_move (.bool (!(decide ((ssR a b) = (ssR a b))))) rfl up_none ?_
      cases hb12 : (!(decide ((ssR a b) = (ssR a b))))
      ·
        refine q_move (.int .i64 (ssC a b)) rfl (up_some (e := 49) rfl rfl rfl) ?_
        refine q_move (.int .i64 (ssC a b)) rfl (up_some (e := 49) rfl rfl rfl) ?_
        refine q_neq false rfl rfl (by simp) (up_some (e := 49) rfl rfl rfl) ?_
        refine q_pick false (.bool false) rfl rfl up_none ?_
        refine lw_nil ?_
        refine c_cond_f rfl ?_
        refine wp_skip ?_
        refine wp_seq ?_
        refine wp_seq ?_
        refine wp_plain _ [0, 0, 3, 3, 0] rfl ?_
        refine q_move v8_0 rfl up_none ?_
        refine q_move va rfl up_none ?_
        refine lw_call 44 [] [] [va] rfl rfl cf44 up_none (c_laws_toInt64SSS _ _ _ (ha.ext g3 hE11) (by omega) (by intro k; exact ⟨by have := (hA.2 k).1; omega, fun j => by have := (hA.2 k).2 j; omega⟩)) ?_
        rintro e13 w13 ⟨v13_0, rfl, hX13, hO13_0⟩
        refine ⟨_, rfl, hX13, ?_⟩
        have hzs13 : w11.heap.size ≤ w13.heap.size := hX13.size
        have hE13 : Ext w w13 := hE11.trans hX13
        have hO5_0x13 := hO5_0x11.ext (o3) hX13
        have hO6_0x13 := hO6_0x11.ext (o2) hX13
        have hO7_0x13 := hO7_0x11.ext (o2) hX13
        have hO8_0x13 := hO8_0x11.ext (o3) hX13
        have hO9_0x13 := hO9_0x11.ext (o2) hX13
        have hO10_0x13 := hO10_0x11.ext (o2) hX13
        refine lw_call 45 [] [] [v8_0, v13_0] rfl rfl cf45 up_none (c_laws_eqInt64SSS _ _ _ _ _ hO8_0x13.rd3 hO13_0.rd3) ?_
        rintro e14 w14 ⟨rfl, hX14⟩
        refine ⟨_, rfl, hX14, ?_⟩
        have hzs14 : w13.heap.size ≤ w14.heap.size := hX14.size
        have hE14 : Ext w w14 := hE13.trans hX14
        have hO5_0x14 := hO5_0x13.ext (o3) hX14
        have hO6_0x14 := hO6_0x13.ext (o2) hX14
        have hO7_0x14 := hO7_0x13.ext (o2) hX14
        have hO8_0x14 := hO8_0x13.ext (o3) hX14
        have hO9_0x14 := hO9_0x13.ext (o2) hX14
        have hO10_0x14 := hO10_0x13.ext (o2) hX14
        have hO13_0x14 := hO13_0.ext (o3) hX14
        refine q_not (!(decide (a = a))) rfl rfl up_none ?_
        refine lw_nil ?_
        cases hb15 : (!(decide (a = a)))
        ·
          refine c_cond_f (by first | rfl | (show Value.bool _ = _; rw [hb15])) ?_
          refine wp_skip ?_
          refine wp_seq ?_
          refine wp_seq ?_
          refine wp_plain _ [0, 0, 3, 3, 0] rfl ?_
          refine q_move v9_0 rfl up_none ?_
          refine q_move vb rfl up_none ?_
          refine lw_call 13 [] [] [vb] rfl rfl cf13 up_none (c_laws_toInt64SS _ _ _ (hb.ext g2 hE14) (by omega) (by intro k; have := hB.2.2 k; omega)) ?_
          rintro e16 w16 ⟨v16_0, rfl, hX16, hO16_0⟩
          refine ⟨_, rfl, hX16, ?_⟩
          have hzs16 : w14.heap.size ≤ w16.heap.size := hX16.size
          have hE16 : Ext w w16 := hE14.trans hX16
          have hO5_0x16 := hO5_0x14.ext (o3) hX16
          have hO6_0x16 := hO6_0x14.ext (o2) hX16
          have hO7_0x16 := hO7_0x14.ext (o2) hX16
          have hO8_0x16 := hO8_0x14.ext (o3) hX16
          have hO9_0x16 := hO9_0x14.ext (o2) hX16
          have hO10_0x16 := hO10_0x14.ext (o2) hX16
          have hO13_0x16 := hO13_0x14.ext (o3) hX16
          refine lw_call 15 [] [] [v9_0, v16_0] rfl rfl cf15 up_none (c_laws_eqInt64SS _ _ _ _ _ hO9_0x16.rd2 hO16_0.rd2) ?_
          rintro e17 w17 ⟨rfl, hX17⟩
          refine ⟨_, rfl, hX17, ?_⟩
          have hzs17 : w16.heap.size ≤ w17.heap.size := hX17.size
          have hE17 : Ext w w17 := hE16.trans hX17
          have hO5_0x17 := hO5_0x16.ext (o3) hX17
          have hO6_0x17 := hO6_0x16.ext (o2) hX17
          have hO7_0x17 := hO7_0x16.ext (o2) hX17
          have hO8_0x17 := hO8_0x16.ext (o3) hX17
          have hO9_0x17 := hO9_0x16.ext (o2) hX17
          have hO10_0x17 := hO10_0x16.ext (o2) hX17
          have hO13_0x17 := hO13_0x16.ext (o3) hX17
          have hO16_0x17 := hO16_0.ext (o2) hX17
          refine q_not (!(decide (b = b))) rfl rfl up_none ?_
          refine lw_nil ?_
          cases hb18 : (!(decide (b = b)))
          ·
            refine c_cond_f (by first | rfl | (show Value.bool _ = _; rw [hb18])) ?_
            refine wp_skip ?_
            refine wp_seq ?_
            refine wp_plain _ [0] rfl ?_
            have ht3 := tot3_bnd hA
            have htb := tot_bnd hB.2.1 hB.2.2
            have hlt := ssR_tot a b
            refine q_assign (.int .i64 ((1 : Nat) : Int)) rfl up_none ?_
            refine lw_nil ?_
            refine wp_seq ?_
            refine wp_plain _ [0, 0, 4, 0] rfl ?_
            refine q_move v8_0 rfl up_none ?_
            refine q_move (.int .i64 ((1 : Nat) : Int)) rfl up_none ?_
            obtain ⟨G19, ha19, hb19, hc19⟩ := hO8_0x17
            refine lw_callE 46 [] [] [v8_0, (.int .i64 ((1 : Nat) : Int))] rfl rfl cf46 up_none (c_laws_markInt64SSS _ _ _ _ _ ha19 hb19 (by omega) (by omega)) ?_
            rintro e19 w19 ⟨rfl, hC19, hO19⟩
            refine ⟨_, rfl, ?_⟩
            have hE19 : Ext w w19 := hC19.below hE17 (fun b hb => Nat.le_trans hE7.size (hc19 b hb).1) hE17.size
            have hF19 := hc19
            have hM19 : Fr (owL (owL (owL rI 2) 29) 22) w7.heap.size w8.heap.size w19.heap v8_0 _ := ⟨G19, hO19, hb19, hc19⟩
            have hzs19 : w17.heap.size ≤ w19.heap.size := hC19.size
            have hF20 := hO5_0x17.chg (o3) hC19 (fun c hc => by have := hF19 c hc; omega)
            have hF21 := hO6_0x17.chg (o2) hC19 (fun c hc => by have := hF19 c hc; omega)
            have hF22 := hO7_0x17.chg (o2) hC19 (fun c hc => by have := hF19 c hc; omega)
            have hF23 := hO9_0x17.chg (o2) hC19 (fun c hc => by have := hF19 c hc; omega)
            have hF24 := hO10_0x17.chg (o2) hC19 (fun c hc => by have := hF19 c hc; omega)
            have hF25 := hO13_0x17.chg (o3) hC19 (fun c hc => by have := hF19 c hc; omega)
            have hF26 := hO16_0x17.chg (o2) hC19 (fun c hc => by have := hF19 c hc; omega)
            refine q_assign (.int .i64 (((1 : Nat) : Int) + ((tot3 a a.length : Nat) : Int))) rfl up_none ?_
            refine lw_nil ?_
            refine wp_seq ?_
            refine wp_plain _ [0, 0, 4, 0] rfl ?_
            refine q_move v9_0 rfl up_none ?_
            refine q_move (.int .i64 (((1 : Nat) : Int) + ((tot3 a a.length : Nat) : Int))) rfl up_none ?_
            obtain ⟨G27, ha27, hb27, hc27⟩ := hF23
            refine lw_callE 20 [] [] [v9_0, (.int .i64 (((1 : Nat) : Int) + ((tot3 a a.length : Nat) : Int)))] rfl rfl cf20 up_none (c_laws_markInt64SS _ _ _ _ _ ha27 hb27 (by omega) (by omega)) ?_
            rintro e27 w27 ⟨rfl, hC27, hO27⟩
            refine ⟨_, rfl, ?_⟩
            have hE27 : Ext w w27 := hC27.below hE19 (fun b hb => Nat.le_trans hE8.size (hc27 b hb).1) hE19.size
            have hF27 := hc27
            have hM27 : Fr (owL (owL rI 2) 29) w8.heap.size w9.heap.size w27.heap v9_0 _ := ⟨G27, hO27, hb27, hc27⟩
            have hzs27 : w19.heap.size ≤ w27.heap.size := hC27.size
            have hF28 := hF20.chg (o3) hC27 (fun c hc => by have := hF27 c hc; omega)
            have hF29 := hF21.chg (o2) hC27 (fun c hc => by have := hF27 c hc; omega)
            have hF30 := hF22.chg (o2) hC27 (fun c hc => by have := hF27 c hc; omega)
            have hF31 := hM19.chg (o3) hC27 (fun c hc => by have := hF27 c hc; omega)
            have hF32 := hF24.chg (o2) hC27 (fun c hc => by have := hF27 c hc; omega)
            have hF33 := hF25.chg (o3) hC27 (fun c hc => by have := hF27 c hc; omega)
            have hF34 := hF26.chg (o2) hC27 (fun c hc => by have := hF27 c hc; omega)
            refine q_assign (.int .i64 ((((1 : Nat) : Int) + ((tot3 a a.length : Nat) : Int)) + ((tot b b.length : Nat) : Int))) rfl up_none ?_
            refine lw_nil ?_
            refine wp_seq ?_
            refine wp_seq ?_
            refine wp_plain _ [0, 0, 0, 0, 0, 3, 0, 0, 0, 0, 0, 0, 0] rfl ?_
            refine q_move (.int .i64 ((((1 : Nat) : Int) + ((tot3 a a.length : Nat) : Int)) + ((tot b b.length : Nat) : Int))) rfl up_none ?_
            by_cases hc35 : (((1 : Nat) : Int) + ((tot3 a a.length : Nat) : Int)) + ((tot b b.length : Nat) : Int) < ((0 : Nat) : Int)
            ·
              refine q_lss true rfl rfl (decide_eq_true hc35) up_none ?_
              refine q_move (.bool true) rfl up_none ?_
              refine lw_skip (e := 72) (c := true) rfl rfl rfl rfl ?_
              refine lw_skip (e := 72) (c := true) rfl rfl rfl rfl ?_
              refine lw_skip (e := 72) (c := true) rfl rfl rfl rfl ?_
              refine lw_skip (e := 72) (c := true) rfl rfl rfl rfl ?_
              refine q_pick true (.bool true) rfl rfl up_none ?_
              refine q_move (.bool true) rfl up_none ?_
              refine lw_skip (e := 78) (c := true) rfl rfl rfl rfl ?_
              refine lw_skip (e := 78) (c := true) rfl rfl rfl rfl ?_
              refine lw_skip (e := 78) (c := true) rfl rfl rfl rfl ?_
              refine q_pick true (.bool true) rfl rfl up_none ?_
              refine lw_nil ?_
              refine c_cond_t rfl ?_
              refine wp_seq ?_
              refine wp_plain _ [0] rfl ?_
              refine q_assign (.bool false) rfl up_none ?_
              refine lw_nil ?_
              refine wp_ret ?_
              refine t_ret ?_
              exact post_ret [4] rfl (.bool false) rfl ⟨(by first | rfl | (exfalso; omega) | simp_all), hE27⟩
            ·
              refine q_lss false rfl rfl (decide_eq_false hc35) up_none ?_
              refine q_move (.bool false) rfl up_none ?_
              refine q_move v10_0 rfl (up_some (e := 72) rfl rfl rfl) ?_
              refine q_move v7_0 rfl (up_some (e := 72) rfl rfl rfl) ?_
              refine lw_call 15 [] [] [v10_0, v7_0] rfl rfl cf15 (up_some (e := 72) rfl rfl rfl) (c_laws_eqInt64SS _ _ _ _ _ hF32.rd2 hF30.rd2) ?_
              rintro e36 w36 ⟨rfl, hX36⟩
              refine ⟨_, rfl, hX36, ?_⟩
              have hzs36 : w27.heap.size ≤ w36.heap.size := hX36.size
              have hE36 : Ext w w36 := hE27.trans hX36
              have hF28x36 := hF28.ext (o3) hX36
              have hF29x36 := hF29.ext (o2) hX36
              have hF30x36 := hF30.ext (o2) hX36
              have hF31x36 := hF31.ext (o3) hX36
              have hM27x36 := hM27.ext (o2) hX36
              have hF32x36 := hF32.ext (o2) hX36
              have hF33x36 := hF33.ext (o3) hX36
              have hF34x36 := hF34.ext (o2) hX36
              refine q_not (!(decide ((ssR a b) = (ssR a b)))) rfl rfl (up_some (e := 72) rfl rfl rfl) ?_
              refine q_pick false (.bool (!(decide ((ssR a b) = (ssR a b))))) rfl rfl up_none ?_
              refine q_move (.bool (!(decide ((ssR a b) = (ssR a b))))) rfl up_none ?_
              cases hb37 : (!(decide ((ssR a b) = (ssR a b))))
              ·
                refine q_move (.int .i64 (ssC a b)) rfl (up_some (e := 78) rfl rfl rfl) ?_
                refine q_move (.int .i64 (ssC a b)) rfl (up_some (e := 78) rfl rfl rfl) ?_
                refine q_neq false rfl rfl (by simp) (up_some (e := 78) rfl rfl rfl) ?_
                refine q_pick false (.bool false) rfl rfl up_none ?_
                refine lw_nil ?_
                refine c_cond_f rfl ?_
                refine wp_skip ?_
                refine wp_seq ?_
                refine wp_plain _ [0] rfl ?_
                refine q_assign (.int .i64 ((1 : Nat) : Int)) rfl up_none ?_
                refine lw_nil ?_
                refine wp_seq ?_
                refine wp_plain _ [0, 0, 4, 0] rfl ?_
                refine q_move v10_0 rfl up_none ?_
                refine q_move (.int .i64 ((1 : Nat) : Int)) rfl up_none ?_
                obtain ⟨G38, ha38, hb38, hc38⟩ := hF32x36
                refine lw_callE 20 [] [] [v10_0, (.int .i64 ((1 : Nat) : Int))] rfl rfl cf20 up_none (c_laws_markInt64SS _ _ _ _ _ ha38 hb38 (by omega) (by omega)) ?_
                rintro e38 w38 ⟨rfl, hC38, hO38⟩
                refine ⟨_, rfl, ?_⟩
                have hE38 : Ext w w38 := hC38.below hE36 (fun b hb => Nat.le_trans hE9.size (hc38 b hb).1) hE36.size
                have hF38 := hc38
                have hM38 : Fr (owL (owL rI 2) 29) w9.heap.size w10.heap.size w38.heap v10_0 _ := ⟨G38, hO38, hb38, hc38⟩
                have hzs38 : w36.heap.size ≤ w38.heap.size := hC38.size
                have hF39 := hF28x36.chg (o3) hC38 (fun c hc => by have := hF38 c hc; omega)
                have hF40 := hF29x36.chg (o2) hC38 (fun c hc => by have := hF38 c hc; omega)
                have hF41 := hF30x36.chg (o2) hC38 (fun c hc => by have := hF38 c hc; omega)
                have hF42 := hF31x36.chg (o3) hC38 (fun c hc => by have := hF38 c hc; omega)
                have hF43 := hM27x36.chg (o2) hC38 (fun c hc => by have := hF38 c hc; omega)
                have hF44 := hF33x36.chg (o3) hC38 (fun c hc => by have := hF38 c hc; omega)
                have hF45 := hF34x36.chg (o2) hC38 (fun c hc => by have := hF38 c hc; omega)
                refine q_assign (.int .i64 (((1 : Nat) : Int) + ((tot (ssR a b) (ssR a b).length : Nat) : Int))) rfl up_none ?_
                refine lw_nil ?_
                refine wp_seq ?_
                refine wp_plain _ [0] rfl ?_
                refine q_assign (.int .i64 ((1 : Nat) : Int)) rfl up_none ?_
                refine lw_nil ?_
                refine wp_seq ?_
                refine wp_plain _ [0, 0, 3, 0] rfl ?_
                refine q_move v10_0 rfl up_none ?_
                refine q_move (.int .i64 ((1 : Nat) : Int)) rfl up_none ?_
                refine lw_call 22 [] [] [v10_0, (.int .i64 ((1 : Nat) : Int))] rfl rfl cf22 up_none (c_laws_heldInt64SS _ _ _ _ hM38.rd2 (by omega) (by rw [mk2_len, mk2_tot _ _ _ (Nat.le_refl _)]; omega) (by intro i hi; rw [mk2_len] at hi; rw [mk2_row, mk2_tot _ _ _ (Nat.le_of_lt hi), mk2_get hi])) ?_
                rintro e46 w46 ⟨rfl, hX46⟩
                refine ⟨_, rfl, hX46, ?_⟩
                have hzs46 : w38.heap.size ≤ w46.heap.size := hX46.size
                have hE46 : Ext w w46 := hE38.trans hX46
                have hF39x46 := hF39.ext (o3) hX46
                have hF40x46 := hF40.ext (o2) hX46
                have hF41x46 := hF41.ext (o2) hX46
                have hF42x46 := hF42.ext (o3) hX46
                have hF43x46 := hF43.ext (o2) hX46
                have hM38x46 := hM38.ext (o2) hX46
                have hF44x46 := hF44.ext (o3) hX46
                have hF45x46 := hF45.ext (o2) hX46
                refine q_assign (.int .i64 (((1 : Nat) : Int) + ((tot (mk2 (ssR a b) ((1 : Nat) : Int)) (mk2 (ssR a b) ((1 : Nat) : Int)).length : Nat) : Int))) rfl up_none ?_
                refine lw_nil ?_
                refine wp_seq ?_
                refine wp_seq ?_
                refine wp_plain _ [0, 0] rfl ?_
                refine q_move (.int .i64 (((1 : Nat) : Int) + ((tot (mk2 (ssR a b) ((1 : Nat) : Int)) (mk2 (ssR a b) ((1 : Nat) : Int)).length : Nat) : Int))) rfl up_none ?_
                by_cases hc47 : ((1 : Nat) : Int) + ((tot (mk2 (ssR a b) ((1 : Nat) : Int)) (mk2 (ssR a b) ((1 : Nat) : Int)).length : Nat) : Int) < ((0 : Nat) : Int)
                ·
                  refine q_lss true rfl rfl (decide_eq_true hc47) up_none ?_
                  refine lw_nil ?_
                  refine c_cond_t rfl ?_
                  refine wp_seq ?_
                  refine wp_plain _ [0] rfl ?_
                  refine q_assign (.bool false) rfl up_none ?_
                  refine lw_nil ?_
                  refine wp_ret ?_
                  refine t_ret ?_
                  exact post_ret [4] rfl (.bool false) rfl ⟨(by first | rfl | (exfalso; omega) | simp_all), hE46⟩
                ·
                  refine q_lss false rfl rfl (decide_eq_false hc47) up_none ?_
                  refine lw_nil ?_
                  refine c_cond_f rfl ?_
                  refine wp_skip ?_
                  refine wp_seq ?_
                  refine wp_seq ?_
                  refine wp_plain _ [0, 0, 0] rfl ?_
                  have hmt : tot (mk2 (ssR a b) ((1 : Nat) : Int)) (mk2 (ssR a b) ((1 : Nat) : Int)).length = tot (ssR a b) (ssR a b).length := by rw [mk2_len, mk2_tot _ _ _ (Nat.le_refl _)]
                  refine q_move (.int .i64 (((1 : Nat) : Int) + ((tot (mk2 (ssR a b) ((1 : Nat) : Int)) (mk2 (ssR a b) ((1 : Nat) : Int)).length : Nat) : Int))) rfl up_none ?_
                  refine q_move (.int .i64 (((1 : Nat) : Int) + ((tot (ssR a b) (ssR a b).length : Nat) : Int))) rfl up_none ?_
                  by_cases hc48 : ((1 : Nat) : Int) + ((tot (mk2 (ssR a b) ((1 : Nat) : Int)) (mk2 (ssR a b) ((1 : Nat) : Int)).length : Nat) : Int) ≠ ((1 : Nat) : Int) + ((tot (ssR a b) (ssR a b).length : Nat) : Int)
                  ·
                    refine q_neq true rfl rfl (decide_eq_true hc48) up_none ?_
                    refine lw_nil ?_
                    refine c_cond_t rfl ?_
                    refine wp_seq ?_
                    refine wp_plain _ [0] rfl ?_
                    refine q_assign (.bool false) rfl up_none ?_
                    refine lw_nil ?_
                    refine wp_ret ?_
                    refine t_ret ?_
                    exact post_ret [4] rfl (.bool false) rfl ⟨(by first | rfl | (exfalso; omega) | simp_all), hE46⟩
                  ·
                    refine q_neq false rfl rfl (decide_eq_false hc48) up_none ?_
                    refine lw_nil ?_
                    refine c_cond_f rfl ?_
                    refine wp_skip ?_
                    refine wp_seq ?_
                    refine wp_plain _ [0, 3, 0, 3, 3, 0, 0, 0, 0, 0] rfl ?_
                    refine q_move va rfl up_none ?_
                    refine lw_call 44 [] [] [va] rfl rfl cf44 up_none (c_laws_toInt64SSS _ _ _ (ha.ext g3 hE46) (by omega) (by intro k; exact ⟨by have := (hA.2 k).1; omega, fun j => by have := (hA.2 k).2 j; omega⟩)) ?_
                    rintro e49 w49 ⟨v49_0, rfl, hX49, hO49_0⟩
                    refine ⟨_, rfl, hX49, ?_⟩
                    have hzs49 : w46.heap.size ≤ w49.heap.size := hX49.size
                    have hE49 : Ext w w49 := hE46.trans hX49
                    have hF39x49 := hF39x46.ext (o3) hX49
                    have hF40x49 := hF40x46.ext (o2) hX49
                    have hF41x49 := hF41x46.ext (o2) hX49
                    have hF42x49 := hF42x46.ext (o3) hX49
                    have hF43x49 := hF43x46.ext (o2) hX49
                    have hM38x49 := hM38x46.ext (o2) hX49
                    have hF44x49 := hF44x46.ext (o3) hX49
                    have hF45x49 := hF45x46.ext (o2) hX49
                    refine q_move vb rfl up_none ?_
                    refine lw_call 13 [] [] [vb] rfl rfl cf13 up_none (c_laws_toInt64SS _ _ _ (hb.ext g2 hE49) (by omega) (by intro k; have := hB.2.2 k; omega)) ?_
                    rintro e50 w50 ⟨v50_0, rfl, hX50, hO50_0⟩
                    refine ⟨_, rfl, hX50, ?_⟩
                    have hzs50 : w49.heap.size ≤ w50.heap.size := hX50.size
                    have hE50 : Ext w w50 := hE49.trans hX50
                    have hF39x50 := hF39x49.ext (o3) hX50
                    have hF40x50 := hF40x49.ext (o2) hX50
                    have hF41x50 := hF41x49.ext (o2) hX50
                    have hF42x50 := hF42x49.ext (o3) hX50
                    have hF43x50 := hF43x49.ext (o2) hX50
                    have hM38x50 := hM38x49.ext (o2) hX50
                    have hF44x50 := hF44x49.ext (o3) hX50
                    have hF45x50 := hF45x49.ext (o2) hX50
                    have hO49_0x50 := hO49_0.ext (o3) hX50
                    refine lw_call 34 [] [] [v49_0, v50_0] rfl rfl cf34 up_none (c_impl_SolveSeries _ _ _ _ _ hO49_0x50.rd3 hO50_0.rd2 (by omega)) ?_
                    rintro e51 w51 ⟨v51_0, rfl, hX51, hO51_0⟩
                    refine ⟨_, rfl, hX51, ?_⟩
                    have hzs51 : w50.heap.size ≤ w51.heap.size := hX51.size
                    have hE51 : Ext w w51 := hE50.trans hX51
                    have hF39x51 := hF39x50.ext (o3) hX51
                    have hF40x51 := hF40x50.ext (o2) hX51
                    have hF41x51 := hF41x50.ext (o2) hX51
                    have hF42x51 := hF42x50.ext (o3) hX51
                    have hF43x51 := hF43x50.ext (o2) hX51
                    have hM38x51 := hM38x50.ext (o2) hX51
                    have hF44x51 := hF44x50.ext (o3) hX51
                    have hF45x51 := hF45x50.ext (o2) hX51
                    have hO49_0x51 := hO49_0x50.ext (o3) hX51
                    have hO50_0x51 := hO50_0.ext (o2) hX51
                    refine q_move (.tuple #[v51_0, (.int .i64 (ssC a b))]) rfl up_none ?_
                    refine q_extract (vs := [v51_0, (.int .i64 (ssC a b))]) v51_0 rfl rfl up_none ?_
                    refine q_extract (vs := [v51_0, (.int .i64 (ssC a b))]) (.int .i64 (ssC a b)) rfl rfl up_none ?_
                    refine q_assign v51_0 rfl up_none ?_
                    refine q_assign (.int .i64 (ssC a b)) rfl up_none ?_
                    refine lw_nil ?_
                    refine wp_seq ?_
                    refine wp_seq ?_
                    refine wp_plain _ [0, 0, 3, 0, 0, 0, 0, 0, 0] rfl ?_
                    refine q_move v51_0 rfl up_none ?_
                    refine q_move v7_0 rfl up_none ?_
                    refine lw_call 15 [] [] [v51_0, v7_0] rfl rfl cf15 up_none (c_laws_eqInt64SS _ _ _ _ _ hO51_0.rd2 hF41x51.rd2) ?_
                    rintro e52 w52 ⟨rfl, hX52⟩
                    refine ⟨_, rfl, hX52, ?_⟩
                    have hzs52 : w51.heap.size ≤ w52.heap.size := hX52.size
                    have hE52 : Ext w w52 := hE51.trans hX52
                    have hF39x52 := hF39x51.ext (o3) hX52
                    have hF40x52 := hF40x51.ext (o2) hX52
                    have hF41x52 := hF41x51.ext (o2) hX52
                    have hF42x52 := hF42x51.ext (o3) hX52
                    have hF43x52 := hF43x51.ext (o2) hX52
                    have hM38x52 := hM38x51.ext (o2) hX52
                    have hF44x52 := hF44x51.ext (o3) hX52
                    have hF45x52 := hF45x51.ext (o2) hX52
                    have hO49_0x52 := hO49_0x51.ext (o3) hX52
                    have hO50_0x52 := hO50_0x51.ext (o2) hX52
                    have hO51_0x52 := hO51_0.ext (o2) hX52
                    refine q_not (!(decide ((ssR a b) = (ssR a b)))) rfl rfl up_none ?_
                    refine q_move (.bool (!(decide ((ssR a b) = (ssR a b))))) rfl up_none ?_
                    cases hb53 : (!(decide ((ssR a b) = (ssR a b))))
                    ·
                      refine q_move (.int .i64 (ssC a b)) rfl (up_some (e := 106) rfl rfl rfl) ?_
                      refine q_move (.int .i64 (ssC a b)) rfl (up_some (e := 106) rfl rfl rfl) ?_
                      refine q_neq false rfl rfl (by simp) (up_some (e := 106) rfl rfl rfl) ?_
                      refine q_pick false (.bool false) rfl rfl up_none ?_
                      refine lw_nil ?_
                      refine c_cond_f rfl ?_
                      refine wp_skip ?_
                      refine wp_seq ?_
                      refine wp_plain _ [0] rfl ?_
                      refine q_assign (.int .i64 ((1 : Nat) : Int)) rfl up_none ?_
                      refine lw_nil ?_
                      refine wp_seq ?_
                      refine wp_plain _ [0, 0, 3, 0] rfl ?_
                      refine q_move v10_0 rfl up_none ?_
                      refine q_move (.int .i64 ((1 : Nat) : Int)) rfl up_none ?_
                      refine lw_call 22 [] [] [v10_0, (.int .i64 ((1 : Nat) : Int))] rfl rfl cf22 up_none (c_laws_heldInt64SS _ _ _ _ hM38x52.rd2 (by omega) (by rw [mk2_len, mk2_tot _ _ _ (Nat.le_refl _)]; omega) (by intro i hi; rw [mk2_len] at hi; rw [mk2_row, mk2_tot _ _ _ (Nat.le_of_lt hi), mk2_get hi])) ?_
                      rintro e54 w54 ⟨rfl, hX54⟩
                      refine ⟨_, rfl, hX54, ?_⟩
                      have hzs54 : w52.heap.size ≤ w54.heap.size := hX54.size
                      have hE54 : Ext w w54 := hE52.trans hX54
                      have hF39x54 := hF39x52.ext (o3) hX54
                      have hF40x54 := hF40x52.ext (o2) hX54
                      have hF41x54 := hF41x52.ext (o2) hX54
                      have hF42x54 := hF42x52.ext (o3) hX54
                      have hF43x54 := hF43x52.ext (o2) hX54
                      have hM38x54 := hM38x52.ext (o2) hX54
                      have hF44x54 := hF44x52.ext (o3) hX54
                      have hF45x54 := hF45x52.ext (o2) hX54
                      have hO49_0x54 := hO49_0x52.ext (o3) hX54
                      have hO50_0x54 := hO50_0x52.ext (o2) hX54
                      have hO51_0x54 := hO51_0x52.ext (o2) hX54
                      refine q_assign (.int .i64 (((1 : Nat) : Int) + ((tot (mk2 (ssR a b) ((1 : Nat) : Int)) (mk2 (ssR a b) ((1 : Nat) : Int)).length : Nat) : Int))) rfl up_none ?_
                      refine lw_nil ?_
                      refine wp_seq ?_
                      refine wp_seq ?_
                      refine wp_plain _ [0, 0] rfl ?_
                      refine q_move (.int .i64 (((1 : Nat) : Int) + ((tot (mk2 (ssR a b) ((1 : Nat) : Int)) (mk2 (ssR a b) ((1 : Nat) : Int)).length : Nat) : Int))) rfl up_none ?_
                      by_cases hc55 : ((1 : Nat) : Int) + ((tot (mk2 (ssR a b) ((1 : Nat) : Int)) (mk2 (ssR a b) ((1 : Nat) : Int)).length : Nat) : Int) < ((0 : Nat) : Int)
                      ·
                        refine q_lss true rfl rfl (decide_eq_true hc55) up_none ?_
                        refine lw_nil ?_
                        refine c_cond_t rfl ?_
                        refine wp_seq ?_
                        refine wp_plain _ [0] rfl ?_
                        refine q_assign (.bool false) rfl up_none ?_
                        refine lw_nil ?_
                        refine wp_ret ?_
                        refine t_ret ?_
                        exact post_ret [4] rfl (.bool false) rfl ⟨(by first | rfl | (exfalso; omega) | simp_all), hE54⟩
                      ·
                        refine q_lss false rfl rfl (decide_eq_false hc55) up_none ?_
                        refine lw_nil ?_
                        refine c_cond_f rfl ?_
                        refine wp_skip ?_
                        refine wp_seq ?_
                        refine wp_seq ?_
                        refine wp_plain _ [0, 0, 0] rfl ?_
                        have hmt : tot (mk2 (ssR a b) ((1 : Nat) : Int)) (mk2 (ssR a b) ((1 : Nat) : Int)).length = tot (ssR a b) (ssR a b).length := by rw [mk2_len, mk2_tot _ _ _ (Nat.le_refl _)]
                        refine q_move (.int .i64 (((1 : Nat) : Int) + ((tot (mk2 (ssR a b) ((1 : Nat) : Int)) (mk2 (ssR a b) ((1 : Nat) : Int)).length : Nat) : Int))) rfl up_none ?_
                        refine q_move (.int .i64 (((1 : Nat) : Int) + ((tot (ssR a b) (ssR a b).length : Nat) : Int))) rfl up_none ?_
                        by_cases hc56 : ((1 : Nat) : Int) + ((tot (mk2 (ssR a b) ((1 : Nat) : Int)) (mk2 (ssR a b) ((1 : Nat) : Int)).length : Nat) : Int) ≠ ((1 : Nat) : Int) + ((tot (ssR a b) (ssR a b).length : Nat) : Int)
                        ·
                          refine q_neq true rfl rfl (decide_eq_true hc56) up_none ?_
                          refine lw_nil ?_
                          refine c_cond_t rfl ?_
                          refine wp_seq ?_
                          refine wp_plain _ [0] rfl ?_
                          refine q_assign (.bool false) rfl up_none ?_
                          refine lw_nil ?_
                          refine wp_ret ?_
                          refine t_ret ?_
                          exact post_ret [4] rfl (.bool false) rfl ⟨(by first | rfl | (exfalso; omega) | simp_all), hE54⟩
                        ·
                          refine q_neq false rfl rfl (decide_eq_false hc56) up_none ?_
                          refine lw_nil ?_
                          refine c_cond_f rfl ?_
                          refine wp_skip ?_
                          refine wp_seq ?_
                          refine wp_plain _ [0] rfl ?_
                          refine q_assign (.bool true) rfl up_none ?_
                          refine lw_nil ?_
                          refine wp_ret ?_
                          exact post_ret [4] rfl (.bool true) rfl ⟨(by first | rfl | (exfalso; omega) | simp_all), hE54⟩
                    ·
                      refine lw_skip (e := 106) (c := true) rfl rfl rfl rfl ?_
                      refine lw_skip (e := 106) (c := true) rfl rfl rfl rfl ?_
                      refine lw_skip (e := 106) (c := true) rfl rfl rfl rfl ?_
                      refine q_pick true (.bool true) rfl rfl up_none ?_
                      refine lw_nil ?_
                      refine c_cond_t rfl ?_
                      refine wp_seq ?_
                      refine wp_plain _ [0] rfl ?_
                      refine q_assign (.bool false) rfl up_none ?_
                      refine lw_nil ?_
                      refine wp_ret ?_
                      refine t_ret ?_
                      exact post_ret [4] rfl (.bool false) rfl ⟨(by first | rfl | (exfalso; omega) | simp_all), hE52⟩
              ·
                refine lw_skip (e := 78) (c := true) rfl rfl rfl rfl ?_
                refine lw_skip (e := 78) (c := true) rfl rfl rfl rfl ?_
                refine lw_skip (e := 78) (c := true) rfl rfl rfl rfl ?_
                refine q_pick true (.bool true) rfl rfl up_none ?_
                refine lw_nil ?_
                refine c_cond_t rfl ?_
                refine wp_seq ?_
                refine wp_plain _ [0] rfl ?_
                refine q_assign (.bool false) rfl up_none ?_
                refine lw_nil ?_
                refine wp_ret ?_
                refine t_ret ?_
                exact post_ret [4] rfl (.bool false) rfl ⟨(by first | rfl | (exfalso; omega) | simp_all), hE36⟩
          ·
            refine c_cond_t (by first | rfl | (show Value.bool _ = _; rw [hb18])) ?_
            refine wp_seq ?_
            refine wp_plain _ [0] rfl ?_
            refine q_assign (.bool false) rfl up_none ?_
            refine lw_nil ?_
            refine wp_ret ?_
            refine t_ret ?_
            exact post_ret [4] rfl (.bool false) rfl ⟨(by first | rfl | (exfalso; omega) | simp_all), hE17⟩
        ·
          refine c_cond_t (by first | rfl | (show Value.bool _ = _; rw [hb15])) ?_
          refine wp_seq ?_
          refine wp_plain _ [0] rfl ?_
          refine q_assign (.bool false) rfl up_none ?_
          refine lw_nil ?_
          refine wp_ret ?_
          refine t_ret ?_
          exact post_ret [4] rfl (.bool false) rfl ⟨(by first | rfl | (exfalso; omega) | simp_all), hE14⟩
      ·
        refine lw_skip (e := 49) (c := true) rfl rfl rfl rfl ?_
        refine lw_skip (e := 49) (c := true) rfl rfl rfl rfl ?_
        refine lw_skip (e := 49) (c := true) rfl rfl rfl rfl ?_
        refine q_pick true (.bool true) rfl rfl up_none ?_
        refine lw_nil ?_
        refine c_cond_t rfl ?_
        refine wp_seq ?_
        refine wp_plain _ [0] rfl ?_
        refine q_assign (.bool false) rfl up_none ?_
        refine lw_nil ?_
        refine wp_ret ?_
        refine t_ret ?_
        exact post_ret [4] rfl (.bool false) rfl ⟨(by first | rfl | (exfalso; omega) | simp_all), hE11⟩
end Go.Proofs.Ytjgnlnlngcjfcaa
