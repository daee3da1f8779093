/- Contracts of functions: each says what the function returns for all arguments that meet its premises. Printed by gen.py. -/
import Derived.Test.YtjgnlnlngcjfcaaMi
import Derived.Test.YtjgnlnlngcjfcaaFwJ
import Derived.Test.YtjgnlnlngcjfcaaT
import Derived.Test.YtjgnlnlngcjfcaaSa
import Derived.Test.YtjgnlnlngcjfcaaSb
import Derived.Test.YtjgnlnlngcjfcaaSc
import Derived.Test.YtjgnlnlngcjfcaaSf
import Derived.Test.YtjgnlnlngcjfcaaSp
import Derived.Test.YtjgnlnlngcjfcaaProg
namespace Go.Proofs.Ytjgnlnlngcjfcaa
open Go Go.RowKit
set_option linter.unusedVariables false
set_option linter.unusedSimpArgs false
attribute [local irreducible] LW
/- laws.FnExactInverseMatrix -/
theorem tot_bound {a : List (List Int)} {L : Nat} (h1 : a.length ≤ L) (h2 : ∀ k, (a.getD k []).length ≤ L) : tot a a.length ≤ L * L := Nat.le_trans (tot_le h2 _ (Nat.le_refl _)) (Nat.mul_le_mul_right L h1)
theorem tot_bnd {a : List (List Int)} (h1 : a.length ≤ 1048576) (h2 : ∀ k, (a.getD k []).length ≤ 1048576) : tot a a.length ≤ 1099511627776 := by
  have := tot_bound h1 h2; omega

set_option maxHeartbeats 4000000 in
set_option maxRecDepth 100000 in
theorem c_laws_FnExactInverseMatrix (w : World) (va : Value) (a : List (List Int)) (ha : Rd (rdL (rdL rI)) w.heap va a)  :
    Calls Try.prog 6 #[va] w (fun e w' => e = .returned (.bool true) ∧ Ext w w') := by
  refine calls_mk [va] 96 Try.func6 rfl rfl (by simp) ?_
  have hE0 : Ext w w := Ext.refl w
  have hl_va := ha.lenle
  refine wp_seq ?_
  refine wp_plain _ [0] rfl ?_
  refine q_assign (.bool false) rfl up_none ?_
  refine lw_nil ?_
  refine wp_seq ?_
  refine wp_plain _ [0] rfl ?_
  refine q_assign (.int .i64 ((1048576 : Nat) : Int)) rfl up_none ?_
  refine lw_nil ?_
  refine wp_seq ?_
  refine wp_plain _ [0, 0, 3, 0] rfl ?_
  refine q_move va rfl up_none ?_
  refine q_move (.int .i64 ((1048576 : Nat) : Int)) rfl up_none ?_
  refine lw_call 11 [] [] [va, (.int .i64 ((1048576 : Nat) : Int))] rfl rfl cf11 up_none (c_laws_szInt64SS _ _ _ _ (ha.ext g2 hE0) (by omega) (by omega)) ?_
  rintro e1 w1 ⟨rfl, hX1⟩
  refine ⟨_, rfl, hX1, ?_⟩
  have hzs1 : w.heap.size ≤ w1.heap.size := hX1.size
  have hE1 : Ext w w1 := hE0.trans hX1
  refine q_assign (.int .i64 (szM a ((1048576 : Nat) : Int))) rfl up_none ?_
  refine lw_nil ?_
  refine wp_seq ?_
  refine wp_seq ?_
  refine wp_plain _ [0, 0] rfl ?_
  refine q_move (.int .i64 (szM a ((1048576 : Nat) : Int))) rfl up_none ?_
  by_cases hc2 : szM a ((1048576 : Nat) : Int) < ((0 : Nat) : Int)
  ·
    refine q_lss true rfl rfl (decide_eq_true hc2) up_none ?_
    refine lw_nil ?_
    refine c_cond_t rfl ?_
    refine wp_seq ?_
    refine wp_plain _ [0] rfl ?_
    refine q_assign (.bool true) rfl up_none ?_
    refine lw_nil ?_
    refine wp_ret ?_
    refine t_ret ?_
    exact post_ret [2] rfl (.bool true) rfl ⟨(by first | rfl | (exfalso; omega) | simp_all), hE1⟩
  ·
    refine q_lss false rfl rfl (decide_eq_false hc2) up_none ?_
    refine lw_nil ?_
    refine c_cond_f rfl ?_
    refine wp_skip ?_
    refine wp_seq ?_
    refine wp_plain _ [0, 3, 3, 0, 0, 0, 0, 0] rfl ?_
    refine q_move va rfl up_none ?_
    refine lw_call 13 [] [] [va] rfl rfl cf13 up_none (c_laws_toInt64SS _ _ _ (ha.ext g2 hE1) (by have := (szM_le (a := a) (l := ((1048576 : Nat) : Int)) (by omega) (by omega)).2.1; omega) (by intro k; have := (szM_le (a := a) (l := ((1048576 : Nat) : Int)) (by omega) (by omega)).2.2 k; omega)) ?_
    rintro e3 w3 ⟨v3_0, rfl, hX3, hO3_0⟩
    refine ⟨_, rfl, hX3, ?_⟩
    have hzs3 : w1.heap.size ≤ w3.heap.size := hX3.size
    have hE3 : Ext w w3 := hE1.trans hX3
    refine lw_call 26 [] [] [v3_0] rfl rfl cf26 up_none (c_spec_InverseMatrix _ _ _ hO3_0.rd2) ?_
    rintro e4 w4 ⟨v4_0, rfl, hX4, hO4_0⟩
    refine ⟨_, rfl, hX4, ?_⟩
    have hzs4 : w3.heap.size ≤ w4.heap.size := hX4.size
    have hE4 : Ext w w4 := hE3.trans hX4
    have hO3_0x4 := hO3_0.ext (o2) hX4
    refine q_move (.tuple #[v4_0, (.int .i64 (ivC a))]) rfl up_none ?_
    refine q_extract (vs := [v4_0, (.int .i64 (ivC a))]) v4_0 rfl rfl up_none ?_
    refine q_extract (vs := [v4_0, (.int .i64 (ivC a))]) (.int .i64 (ivC a)) rfl rfl up_none ?_
    refine q_assign v4_0 rfl up_none ?_
    refine q_assign (.int .i64 (ivC a)) rfl up_none ?_
    refine lw_nil ?_
    refine wp_seq ?_
    refine wp_plain _ [0, 3, 0] rfl ?_
    refine q_move va rfl up_none ?_
    refine lw_call 13 [] [] [va] rfl rfl cf13 up_none (c_laws_toInt64SS _ _ _ (ha.ext g2 hE4) (by have := (szM_le (a := a) (l := ((1048576 : Nat) : Int)) (by omega) (by omega)).2.1; omega) (by intro k; have := (szM_le (a := a) (l := ((1048576 : Nat) : Int)) (by omega) (by omega)).2.2 k; omega)) ?_
    rintro e5 w5 ⟨v5_0, rfl, hX5, hO5_0⟩
    refine ⟨_, rfl, hX5, ?_⟩
    have hzs5 : w4.heap.size ≤ w5.heap.size := hX5.size
    have hE5 : Ext w w5 := hE4.trans hX5
    have hO3_0x5 := hO3_0x4.ext (o2) hX5
    have hO4_0x5 := hO4_0.ext (o2) hX5
    refine q_assign v5_0 rfl up_none ?_
    refine lw_nil ?_
    refine wp_seq ?_
    refine wp_plain _ [0, 3, 0, 0, 0, 0, 0] rfl ?_
    refine q_move v5_0 rfl up_none ?_
    refine lw_call 27 [] [] [v5_0] rfl rfl cf27 up_none (c_impl_InverseMatrix _ _ _ hO5_0.rd2) ?_
    rintro e6 w6 ⟨v6_0, rfl, hX6, hO6_0⟩
    refine ⟨_, rfl, hX6, ?_⟩
    have hzs6 : w5.heap.size ≤ w6.heap.size := hX6.size
    have hE6 : Ext w w6 := hE5.trans hX6
    have hO3_0x6 := hO3_0x5.ext (o2) hX6
    have hO4_0x6 := hO4_0x5.ext (o2) hX6
    have hO5_0x6 := hO5_0.ext (o2) hX6
    refine q_move (.tuple #[v6_0, (.int .i64 (ivC a))]) rfl up_none ?_
    refine q_extract (vs := [v6_0, (.int .i64 (ivC a))]) v6_0 rfl rfl up_none ?_
    refine q_extract (vs := [v6_0, (.int .i64 (ivC a))]) (.int .i64 (ivC a)) rfl rfl up_none ?_
    refine q_assign v6_0 rfl up_none ?_
    refine q_assign (.int .i64 (ivC a)) rfl up_none ?_
    refine lw_nil ?_
    refine wp_seq ?_
    refine wp_seq ?_
    refine wp_plain _ [0, 0, 3, 0, 0, 0, 0, 0, 0] rfl ?_
    refine q_move v6_0 rfl up_none ?_
    refine q_move v4_0 rfl up_none ?_
    refine lw_call 15 [] [] [v6_0, v4_0] rfl rfl cf15 up_none (c_laws_eqInt64SS _ _ _ _ _ hO6_0.rd2 hO4_0x6.rd2) ?_
    rintro e7 w7 ⟨rfl, hX7⟩
    refine ⟨_, rfl, hX7, ?_⟩
    have hzs7 : w6.heap.size ≤ w7.heap.size := hX7.size
    have hE7 : Ext w w7 := hE6.trans hX7
    have hO3_0x7 := hO3_0x6.ext (o2) hX7
    have hO4_0x7 := hO4_0x6.ext (o2) hX7
    have hO5_0x7 := hO5_0x6.ext (o2) hX7
    have hO6_0x7 := hO6_0.ext (o2) hX7
    refine q_not (!(decide ((ivR a) = (ivR a)))) rfl rfl up_none ?_
    refine q_move (.bool (!(decide ((ivR a) = (ivR a))))) rfl up_none ?_
    cases hb8 : (!(decide ((ivR a) = (ivR a))))
    ·
      refine q_move (.int .i64 (ivC a)) rfl (up_some (e := 36) rfl rfl rfl) ?_
      refine q_move (.int .i64 (ivC a)) rfl (up_some (e := 36) rfl rfl rfl) ?_
      refine q_neq false rfl rfl (by simp) (up_some (e := 36) rfl rfl rfl) ?_
      refine q_pick false (.bool false) rfl rfl up_none ?_
      refine lw_nil ?_
      refine c_cond_f rfl ?_
      refine wp_skip ?_
      refine wp_seq ?_
      refine wp_seq ?_
      refine wp_plain _ [0, 0, 3, 3, 0] rfl ?_
      refine q_move v5_0 rfl up_none ?_
      refine q_move va rfl up_none ?_
      refine lw_call 13 [] [] [va] rfl rfl cf13 up_none (c_laws_toInt64SS _ _ _ (ha.ext g2 hE7) (by have := (szM_le (a := a) (l := ((1048576 : Nat) : Int)) (by omega) (by omega)).2.1; omega) (by intro k; have := (szM_le (a := a) (l := ((1048576 : Nat) : Int)) (by omega) (by omega)).2.2 k; omega)) ?_
      rintro e9 w9 ⟨v9_0, rfl, hX9, hO9_0⟩
      refine ⟨_, rfl, hX9, ?_⟩
      have hzs9 : w7.heap.size ≤ w9.heap.size := hX9.size
      have hE9 : Ext w w9 := hE7.trans hX9
      have hO3_0x9 := hO3_0x7.ext (o2) hX9
      have hO4_0x9 := hO4_0x7.ext (o2) hX9
      have hO5_0x9 := hO5_0x7.ext (o2) hX9
      have hO6_0x9 := hO6_0x7.ext (o2) hX9
      refine lw_call 15 [] [] [v5_0, v9_0] rfl rfl cf15 up_none (c_laws_eqInt64SS _ _ _ _ _ hO5_0x9.rd2 hO9_0.rd2) ?_
      rintro e10 w10 ⟨rfl, hX10⟩
      refine ⟨_, rfl, hX10, ?_⟩
      have hzs10 : w9.heap.size ≤ w10.heap.size := hX10.size
      have hE10 : Ext w w10 := hE9.trans hX10
      have hO3_0x10 := hO3_0x9.ext (o2) hX10
      have hO4_0x10 := hO4_0x9.ext (o2) hX10
      have hO5_0x10 := hO5_0x9.ext (o2) hX10
      have hO6_0x10 := hO6_0x9.ext (o2) hX10
      have hO9_0x10 := hO9_0.ext (o2) hX10
      refine q_not (!(decide (a = a))) rfl rfl up_none ?_
      refine lw_nil ?_
      cases hb11 : (!(decide (a = a)))
      ·
        refine c_cond_f (by first | rfl | (show Value.bool _ = _; rw [hb11])) ?_
        refine wp_skip ?_
        refine wp_seq ?_
        refine wp_plain _ [0] rfl ?_
        have htot : tot a a.length ≤ 1099511627776 := tot_bnd (szM_le (a := a) (l := ((1048576 : Nat) : Int)) (by omega) (by omega)).2.1 (szM_le (a := a) (l := ((1048576 : Nat) : Int)) (by omega) (by omega)).2.2
        have hlt := ivR_tot a
        refine q_assign (.int .i64 ((1 : Nat) : Int)) rfl up_none ?_
        refine lw_nil ?_
        refine wp_seq ?_
        refine wp_plain _ [0, 0, 4, 0] rfl ?_
        refine q_move v5_0 rfl up_none ?_
        refine q_move (.int .i64 ((1 : Nat) : Int)) rfl up_none ?_
        obtain ⟨G12, ha12, hb12, hc12⟩ := hO5_0x10
        refine lw_callE 20 [] [] [v5_0, (.int .i64 ((1 : Nat) : Int))] rfl rfl cf20 up_none (c_laws_markInt64SS _ _ _ _ _ ha12 hb12 (by omega) (by omega)) ?_
        rintro e12 w12 ⟨rfl, hC12, hO12⟩
        refine ⟨_, rfl, ?_⟩
        have hE12 : Ext w w12 := hC12.below hE10 (fun b hb => Nat.le_trans hE4.size (hc12 b hb).1) hE10.size
        have hF12 := hc12
        have hM12 : Fr (owL (owL rI 2) 29) w4.heap.size w5.heap.size w12.heap v5_0 _ := ⟨G12, hO12, hb12, hc12⟩
        have hzs12 : w10.heap.size ≤ w12.heap.size := hC12.size
        have hF13 := hO3_0x10.chg (o2) hC12 (fun c hc => by have := hF12 c hc; omega)
        have hF14 := hO4_0x10.chg (o2) hC12 (fun c hc => by have := hF12 c hc; omega)
        have hF15 := hO6_0x10.chg (o2) hC12 (fun c hc => by have := hF12 c hc; omega)
        have hF16 := hO9_0x10.chg (o2) hC12 (fun c hc => by have := hF12 c hc; omega)
        refine q_assign (.int .i64 (((1 : Nat) : Int) + ((tot a a.length : Nat) : Int))) rfl up_none ?_
        refine lw_nil ?_
        refine wp_seq ?_
        refine wp_seq ?_
        refine wp_plain _ [0, 0, 0, 0, 0, 3, 0, 0, 0, 0, 0, 0, 0] rfl ?_
        refine q_move (.int .i64 (((1 : Nat) : Int) + ((tot a a.length : Nat) : Int))) rfl up_none ?_
        by_cases hc17 : ((1 : Nat) : Int) + ((tot a a.length : Nat) : Int) < ((0 : Nat) : Int)
        ·
          refine q_lss true rfl rfl (decide_eq_true hc17) up_none ?_
          refine q_move (.bool true) rfl up_none ?_
          refine lw_skip (e := 51) (c := true) rfl rfl rfl rfl ?_
          refine lw_skip (e := 51) (c := true) rfl rfl rfl rfl ?_
          refine lw_skip (e := 51) (c := true) rfl rfl rfl rfl ?_
          refine lw_skip (e := 51) (c := true) rfl rfl rfl rfl ?_
          refine q_pick true (.bool true) rfl rfl up_none ?_
          refine q_move (.bool true) rfl up_none ?_
          refine lw_skip (e := 57) (c := true) rfl rfl rfl rfl ?_
          refine lw_skip (e := 57) (c := true) rfl rfl rfl rfl ?_
          refine lw_skip (e := 57) (c := true) rfl rfl rfl rfl ?_
          refine q_pick true (.bool true) rfl rfl up_none ?_
          refine lw_nil ?_
          refine c_cond_t rfl ?_
          refine wp_seq ?_
          refine wp_plain _ [0] rfl ?_
          refine q_assign (.bool false) rfl up_none ?_
          refine lw_nil ?_
          refine wp_ret ?_
          refine t_ret ?_
          exact post_ret [2] rfl (.bool false) rfl ⟨(by first | rfl | (exfalso; omega) | simp_all), hE12⟩
        ·
          refine q_lss false rfl rfl (decide_eq_false hc17) up_none ?_
          refine q_move (.bool false) rfl up_none ?_
          refine q_move v6_0 rfl (up_some (e := 51) rfl rfl rfl) ?_
          refine q_move v4_0 rfl (up_some (e := 51) rfl rfl rfl) ?_
          refine lw_call 15 [] [] [v6_0, v4_0] rfl rfl cf15 (up_some (e := 51) rfl rfl rfl) (c_laws_eqInt64SS _ _ _ _ _ hF15.rd2 hF14.rd2) ?_
          rintro e18 w18 ⟨rfl, hX18⟩
          refine ⟨_, rfl, hX18, ?_⟩
          have hzs18 : w12.heap.size ≤ w18.heap.size := hX18.size
          have hE18 : Ext w w18 := hE12.trans hX18
          have hF13x18 := hF13.ext (o2) hX18
          have hF14x18 := hF14.ext (o2) hX18
          have hM12x18 := hM12.ext (o2) hX18
          have hF15x18 := hF15.ext (o2) hX18
          have hF16x18 := hF16.ext (o2) hX18
          refine q_not (!(decide ((ivR a) = (ivR a)))) rfl rfl (up_some (e := 51) rfl rfl rfl) ?_
          refine q_pick false (.bool (!(decide ((ivR a) = (ivR a))))) rfl rfl up_none ?_
          refine q_move (.bool (!(decide ((ivR a) = (ivR a))))) rfl up_none ?_
          cases hb19 : (!(decide ((ivR a) = (ivR a))))
          ·
            refine q_move (.int .i64 (ivC a)) rfl (up_some (e := 57) rfl rfl rfl) ?_
            refine q_move (.int .i64 (ivC a)) rfl (up_some (e := 57) rfl rfl rfl) ?_
            refine q_neq false rfl rfl (by simp) (up_some (e := 57) rfl rfl rfl) ?_
            refine q_pick false (.bool false) rfl rfl up_none ?_
            refine lw_nil ?_
            refine c_cond_f rfl ?_
            refine wp_skip ?_
            refine wp_seq ?_
            refine wp_plain _ [0] rfl ?_
            refine q_assign (.int .i64 ((1 : Nat) : Int)) rfl up_none ?_
            refine lw_nil ?_
            refine wp_seq ?_
            refine wp_plain _ [0, 0, 4, 0] rfl ?_
            refine q_move v6_0 rfl up_none ?_
            refine q_move (.int .i64 ((1 : Nat) : Int)) rfl up_none ?_
            obtain ⟨G20, ha20, hb20, hc20⟩ := hF15x18
            refine lw_callE 20 [] [] [v6_0, (.int .i64 ((1 : Nat) : Int))] rfl rfl cf20 up_none (c_laws_markInt64SS _ _ _ _ _ ha20 hb20 (by omega) (by omega)) ?_
            rintro e20 w20 ⟨rfl, hC20, hO20⟩
            refine ⟨_, rfl, ?_⟩
            have hE20 : Ext w w20 := hC20.below hE18 (fun b hb => Nat.le_trans hE5.size (hc20 b hb).1) hE18.size
            have hF20 := hc20
            have hM20 : Fr (owL (owL rI 2) 29) w5.heap.size w6.heap.size w20.heap v6_0 _ := ⟨G20, hO20, hb20, hc20⟩
            have hzs20 : w18.heap.size ≤ w20.heap.size := hC20.size
            have hF21 := hF13x18.chg (o2) hC20 (fun c hc => by have := hF20 c hc; omega)
            have hF22 := hF14x18.chg (o2) hC20 (fun c hc => by have := hF20 c hc; omega)
            have hF23 := hM12x18.chg (o2) hC20 (fun c hc => by have := hF20 c hc; omega)
            have hF24 := hF16x18.chg (o2) hC20 (fun c hc => by have := hF20 c hc; omega)
            refine q_assign (.int .i64 (((1 : Nat) : Int) + ((tot (ivR a) (ivR a).length : Nat) : Int))) rfl up_none ?_
            refine lw_nil ?_
            refine wp_seq ?_
            refine wp_plain _ [0] rfl ?_
            refine q_assign (.int .i64 ((1 : Nat) : Int)) rfl up_none ?_
            refine lw_nil ?_
            refine wp_seq ?_
            refine wp_plain _ [0, 0, 3, 0] rfl ?_
            refine q_move v6_0 rfl up_none ?_
            refine q_move (.int .i64 ((1 : Nat) : Int)) rfl up_none ?_
            refine lw_call 22 [] [] [v6_0, (.int .i64 ((1 : Nat) : Int))] rfl rfl cf22 up_none (c_laws_heldInt64SS _ _ _ _ hM20.rd2 (by omega) (by have := ivR_tot a; rw [mk2_len, mk2_tot _ _ _ (Nat.le_refl _)]; omega) (by intro i hi; rw [mk2_len] at hi; rw [mk2_row, mk2_tot _ _ _ (Nat.le_of_lt hi), mk2_get hi])) ?_
            rintro e25 w25 ⟨rfl, hX25⟩
            refine ⟨_, rfl, hX25, ?_⟩
            have hzs25 : w20.heap.size ≤ w25.heap.size := hX25.size
            have hE25 : Ext w w25 := hE20.trans hX25
            have hF21x25 := hF21.ext (o2) hX25
            have hF22x25 := hF22.ext (o2) hX25
            have hF23x25 := hF23.ext (o2) hX25
            have hM20x25 := hM20.ext (o2) hX25
            have hF24x25 := hF24.ext (o2) hX25
            refine q_assign (.int .i64 (((1 : Nat) : Int) + ((tot (mk2 (ivR a) ((1 : Nat) : Int)) (mk2 (ivR a) ((1 : Nat) : Int)).length : Nat) : Int))) rfl up_none ?_
            refine lw_nil ?_
            refine wp_seq ?_
            refine wp_seq ?_
            refine wp_plain _ [0, 0] rfl ?_
            refine q_move (.int .i64 (((1 : Nat) : Int) + ((tot (mk2 (ivR a) ((1 : Nat) : Int)) (mk2 (ivR a) ((1 : Nat) : Int)).length : Nat) : Int))) rfl up_none ?_
            by_cases hc26 : ((1 : Nat) : Int) + ((tot (mk2 (ivR a) ((1 : Nat) : Int)) (mk2 (ivR a) ((1 : Nat) : Int)).length : Nat) : Int) < ((0 : Nat) : Int)
            ·
              refine q_lss true rfl rfl (decide_eq_true hc26) up_none ?_
              refine lw_nil ?_
              refine c_cond_t rfl ?_
              refine wp_seq ?_
              refine wp_plain _ [0] rfl ?_
              refine q_assign (.bool false) rfl up_none ?_
              refine lw_nil ?_
              refine wp_ret ?_
              refine t_ret ?_
              exact post_ret [2] rfl (.bool false) rfl ⟨(by first | rfl | (exfalso; omega) | simp_all), hE25⟩
            ·
              refine q_lss false rfl rfl (decide_eq_false hc26) up_none ?_
              refine lw_nil ?_
              refine c_cond_f rfl ?_
              refine wp_skip ?_
              refine wp_seq ?_
              refine wp_seq ?_
              refine wp_plain _ [0, 0, 0] rfl ?_
              have hmt : tot (mk2 (ivR a) ((1 : Nat) : Int)) (mk2 (ivR a) ((1 : Nat) : Int)).length = tot (ivR a) (ivR a).length := by rw [mk2_len, mk2_tot _ _ _ (Nat.le_refl _)]
              refine q_move (.int .i64 (((1 : Nat) : Int) + ((tot (mk2 (ivR a) ((1 : Nat) : Int)) (mk2 (ivR a) ((1 : Nat) : Int)).length : Nat) : Int))) rfl up_none ?_
              refine q_move (.int .i64 (((1 : Nat) : Int) + ((tot (ivR a) (ivR a).length : Nat) : Int))) rfl up_none ?_
              by_cases hc27 : ((1 : Nat) : Int) + ((tot (mk2 (ivR a) ((1 : Nat) : Int)) (mk2 (ivR a) ((1 : Nat) : Int)).length : Nat) : Int) ≠ ((1 : Nat) : Int) + ((tot (ivR a) (ivR a).length : Nat) : Int)
              ·
                refine q_neq true rfl rfl (decide_eq_true hc27) up_none ?_
                refine lw_nil ?_
                refine c_cond_t rfl ?_
                refine wp_seq ?_
                refine wp_plain _ [0] rfl ?_
                refine q_assign (.bool false) rfl up_none ?_
                refine lw_nil ?_
                refine wp_ret ?_
                refine t_ret ?_
                exact post_ret [2] rfl (.bool false) rfl ⟨(by first | rfl | (exfalso; omega) | simp_all), hE25⟩
              ·
                refine q_neq false rfl rfl (decide_eq_false hc27) up_none ?_
                refine lw_nil ?_
                refine c_cond_f rfl ?_
                refine wp_skip ?_
                refine wp_seq ?_
                refine wp_plain _ [0, 3, 3, 0, 0, 0, 0, 0] rfl ?_
                refine q_move va rfl up_none ?_
                refine lw_call 13 [] [] [va] rfl rfl cf13 up_none (c_laws_toInt64SS _ _ _ (ha.ext g2 hE25) (by have := (szM_le (a := a) (l := ((1048576 : Nat) : Int)) (by omega) (by omega)).2.1; omega) (by intro k; have := (szM_le (a := a) (l := ((1048576 : Nat) : Int)) (by omega) (by omega)).2.2 k; omega)) ?_
                rintro e28 w28 ⟨v28_0, rfl, hX28, hO28_0⟩
                refine ⟨_, rfl, hX28, ?_⟩
                have hzs28 : w25.heap.size ≤ w28.heap.size := hX28.size
                have hE28 : Ext w w28 := hE25.trans hX28
                have hF21x28 := hF21x25.ext (o2) hX28
                have hF22x28 := hF22x25.ext (o2) hX28
                have hF23x28 := hF23x25.ext (o2) hX28
                have hM20x28 := hM20x25.ext (o2) hX28
                have hF24x28 := hF24x25.ext (o2) hX28
                refine lw_call 27 [] [] [v28_0] rfl rfl cf27 up_none (c_impl_InverseMatrix _ _ _ hO28_0.rd2) ?_
                rintro e29 w29 ⟨v29_0, rfl, hX29, hO29_0⟩
                refine ⟨_, rfl, hX29, ?_⟩
                have hzs29 : w28.heap.size ≤ w29.heap.size := hX29.size
                have hE29 : Ext w w29 := hE28.trans hX29
                have hF21x29 := hF21x28.ext (o2) hX29
                have hF22x29 := hF22x28.ext (o2) hX29
                have hF23x29 := hF23x28.ext (o2) hX29
                have hM20x29 := hM20x28.ext (o2) hX29
                have hF24x29 := hF24x28.ext (o2) hX29
                have hO28_0x29 := hO28_0.ext (o2) hX29
                refine q_move (.tuple #[v29_0, (.int .i64 (ivC a))]) rfl up_none ?_
                refine q_extract (vs := [v29_0, (.int .i64 (ivC a))]) v29_0 rfl rfl up_none ?_
                refine q_extract (vs := [v29_0, (.int .i64 (ivC a))]) (.int .i64 (ivC a)) rfl rfl up_none ?_
                refine q_assign v29_0 rfl up_none ?_
                refine q_assign (.int .i64 (ivC a)) rfl up_none ?_
                refine lw_nil ?_
                refine wp_seq ?_
                refine wp_seq ?_
                refine wp_plain _ [0, 0, 3, 0, 0, 0, 0, 0, 0] rfl ?_
                refine q_move v29_0 rfl up_none ?_
                refine q_move v4_0 rfl up_none ?_
                refine lw_call 15 [] [] [v29_0, v4_0] rfl rfl cf15 up_none (c_laws_eqInt64SS _ _ _ _ _ hO29_0.rd2 hF22x29.rd2) ?_
                rintro e30 w30 ⟨rfl, hX30⟩
                refine ⟨_, rfl, hX30, ?_⟩
                have hzs30 : w29.heap.size ≤ w30.heap.size := hX30.size
                have hE30 : Ext w w30 := hE29.trans hX30
                have hF21x30 := hF21x29.ext (o2) hX30
                have hF22x30 := hF22x29.ext (o2) hX30
                have hF23x30 := hF23x29.ext (o2) hX30
                have hM20x30 := hM20x29.ext (o2) hX30
                have hF24x30 := hF24x29.ext (o2) hX30
                have hO28_0x30 := hO28_0x29.ext (o2) hX30
                have hO29_0x30 := hO29_0.ext (o2) hX30
                refine q_not (!(decide ((ivR a) = (ivR a)))) rfl rfl up_none ?_
                refine q_move (.bool (!(decide ((ivR a) = (ivR a))))) rfl up_none ?_
                cases hb31 : (!(decide ((ivR a) = (ivR a))))
                ·
                  refine q_move (.int .i64 (ivC a)) rfl (up_some (e := 83) rfl rfl rfl) ?_
                  refine q_move (.int .i64 (ivC a)) rfl (up_some (e := 83) rfl rfl rfl) ?_
                  refine q_neq false rfl rfl (by simp) (up_some (e := 83) rfl rfl rfl) ?_
                  refine q_pick false (.bool false) rfl rfl up_none ?_
                  refine lw_nil ?_
                  refine c_cond_f rfl ?_
                  refine wp_skip ?_
                  refine wp_seq ?_
                  refine wp_plain _ [0] rfl ?_
                  refine q_assign (.int .i64 ((1 : Nat) : Int)) rfl up_none ?_
                  refine lw_nil ?_
                  refine wp_seq ?_
                  refine wp_plain _ [0, 0, 3, 0] rfl ?_
                  refine q_move v6_0 rfl up_none ?_
                  refine q_move (.int .i64 ((1 : Nat) : Int)) rfl up_none ?_
                  refine lw_call 22 [] [] [v6_0, (.int .i64 ((1 : Nat) : Int))] rfl rfl cf22 up_none (c_laws_heldInt64SS _ _ _ _ hM20x30.rd2 (by omega) (by have := ivR_tot a; rw [mk2_len, mk2_tot _ _ _ (Nat.le_refl _)]; omega) (by intro i hi; rw [mk2_len] at hi; rw [mk2_row, mk2_tot _ _ _ (Nat.le_of_lt hi), mk2_get hi])) ?_
                  rintro e32 w32 ⟨rfl, hX32⟩
                  refine ⟨_, rfl, hX32, ?_⟩
                  have hzs32 : w30.heap.size ≤ w32.heap.size := hX32.size
                  have hE32 : Ext w w32 := hE30.trans hX32
                  have hF21x32 := hF21x30.ext (o2) hX32
                  have hF22x32 := hF22x30.ext (o2) hX32
                  have hF23x32 := hF23x30.ext (o2) hX32
                  have hM20x32 := hM20x30.ext (o2) hX32
                  have hF24x32 := hF24x30.ext (o2) hX32
                  have hO28_0x32 := hO28_0x30.ext (o2) hX32
                  have hO29_0x32 := hO29_0x30.ext (o2) hX32
                  refine q_assign (.int .i64 (((1 : Nat) : Int) + ((tot (mk2 (ivR a) ((1 : Nat) : Int)) (mk2 (ivR a) ((1 : Nat) : Int)).length : Nat) : Int))) rfl up_none ?_
                  refine lw_nil ?_
                  refine wp_seq ?_
                  refine wp_seq ?_
                  refine wp_plain _ [0, 0] rfl ?_
                  refine q_move (.int .i64 (((1 : Nat) : Int) + ((tot (mk2 (ivR a) ((1 : Nat) : Int)) (mk2 (ivR a) ((1 : Nat) : Int)).length : Nat) : Int))) rfl up_none ?_
                  by_cases hc33 : ((1 : Nat) : Int) + ((tot (mk2 (ivR a) ((1 : Nat) : Int)) (mk2 (ivR a) ((1 : Nat) : Int)).length : Nat) : Int) < ((0 : Nat) : Int)
                  ·
                    refine q_lss true rfl rfl (decide_eq_true hc33) up_none ?_
                    refine lw_nil ?_
                    refine c_cond_t rfl ?_
                    refine wp_seq ?_
                    refine wp_plain _ [0] rfl ?_
                    refine q_assign (.bool false) rfl up_none ?_
                    refine lw_nil ?_
                    refine wp_ret ?_
                    refine t_ret ?_
                    exact post_ret [2] rfl (.bool false) rfl ⟨(by first | rfl | (exfalso; omega) | simp_all), hE32⟩
                  ·
                    refine q_lss false rfl rfl (decide_eq_false hc33) up_none ?_
                    refine lw_nil ?_
                    refine c_cond_f rfl ?_
                    refine wp_skip ?_
                    refine wp_seq ?_
                    refine wp_seq ?_
                    refine wp_plain _ [0, 0, 0] rfl ?_
                    have hmt : tot (mk2 (ivR a) ((1 : Nat) : Int)) (mk2 (ivR a) ((1 : Nat) : Int)).length = tot (ivR a) (ivR a).length := by rw [mk2_len, mk2_tot _ _ _ (Nat.le_refl _)]
                    refine q_move (.int .i64 (((1 : Nat) : Int) + ((tot (mk2 (ivR a) ((1 : Nat) : Int)) (mk2 (ivR a) ((1 : Nat) : Int)).length : Nat) : Int))) rfl up_none ?_
                    refine q_move (.int .i64 (((1 : Nat) : Int) + ((tot (ivR a) (ivR a).length : Nat) : Int))) rfl up_none ?_
                    by_cases hc34 : ((1 : Nat) : Int) + ((tot (mk2 (ivR a) ((1 : Nat) : Int)) (mk2 (ivR a) ((1 : Nat) : Int)).length : Nat) : Int) ≠ ((1 : Nat) : Int) + ((tot (ivR a) (ivR a).length : Nat) : Int)
                    ·
                      refine q_neq true rfl rfl (decide_eq_true hc34) up_none ?_
                      refine lw_nil ?_
                      refine c_cond_t rfl ?_
                      refine wp_seq ?_
                      refine wp_plain _ [0] rfl ?_
                      refine q_assign (.bool false) rfl up_none ?_
                      refine lw_nil ?_
                      refine wp_ret ?_
                      refine t_ret ?_
                      exact post_ret [2] rfl (.bool false) rfl ⟨(by first | rfl | (exfalso; omega) | simp_all), hE32⟩
                    ·
                      refine q_neq false rfl rfl (decide_eq_false hc34) up_none ?_
                      refine lw_nil ?_
                      refine c_cond_f rfl ?_
                      refine wp_skip ?_
                      refine wp_seq ?_
                      refine wp_plain _ [0] rfl ?_
                      refine q_assign (.bool true) rfl up_none ?_
                      refine lw_nil ?_
                      refine wp_ret ?_
                      exact post_ret [2] rfl (.bool true) rfl ⟨(by first | rfl | (exfalso; omega) | simp_all), hE32⟩
                ·
                  refine lw_skip (e := 83) (c := true) rfl rfl rfl rfl ?_
                  refine lw_skip (e := 83) (c := true) rfl rfl rfl rfl ?_
                  refine lw_skip (e := 83) (c := true) rfl rfl rfl rfl ?_
                  refine q_pick true (.bool true) rfl rfl up_none ?_
                  refine lw_nil ?_
                  refine c_cond_t rfl ?_
                  refine wp_seq ?_
                  refine wp_plain _ [0] rfl ?_
                  refine q_assign (.bool false) rfl up_none ?_
                  refine lw_nil ?_
                  refine wp_ret ?_
                  refine t_ret ?_
                  exact post_ret [2] rfl (.bool false) rfl ⟨(by first | rfl | (exfalso; omega) | simp_all), hE30⟩
          ·
            refine lw_skip (e := 57) (c := true) rfl rfl rfl rfl ?_
            refine lw_skip (e := 57) (c := true) rfl rfl rfl rfl ?_
            refine lw_skip (e := 57) (c := true) rfl rfl rfl rfl ?_
            refine q_pick true (.bool true) rfl rfl up_none ?_
            refine lw_nil ?_
            refine c_cond_t rfl ?_
            refine wp_seq ?_
            refine wp_plain _ [0] rfl ?_
            refine q_assign (.bool false) rfl up_none ?_
            refine lw_nil ?_
            refine wp_ret ?_
            refine t_ret ?_
            exact post_ret [2] rfl (.bool false) rfl ⟨(by first | rfl | (exfalso; omega) | simp_all), hE18⟩
      ·
        refine c_cond_t (by first | rfl | (show Value.bool _ = _; rw [hb11])) ?_
        refine wp_seq ?_
        refine wp_plain _ [0] rfl ?_
        refine q_assign (.bool false) rfl up_none ?_
        refine lw_nil ?_
        refine wp_ret ?_
        refine t_ret ?_
        exact post_ret [2] rfl (.bool false) rfl ⟨(by first | rfl | (exfalso; omega) | simp_all), hE10⟩
    ·
      refine lw_skip (e := 36) (c := true) rfl rfl rfl rfl ?_
      refine lw_skip (e := 36) (c := true) rfl rfl rfl rfl ?_
      refine lw_skip (e := 36) (c := true) rfl rfl rfl rfl ?_
      refine q_pick true (.bool true) rfl rfl up_none ?_
      refine lw_nil ?_
      refine c_cond_t rfl ?_
      refine wp_seq ?_
      refine wp_plain _ [0] rfl ?_
      refine q_assign (.bool false) rfl up_none ?_
      refine lw_nil ?_
      refine wp_ret ?_
      refine t_ret ?_
      exact post_ret [2] rfl (.bool false) rfl ⟨(by first | rfl | (exfalso; omega) | simp_all), hE7⟩
end Go.Proofs.Ytjgnlnlngcjfcaa
