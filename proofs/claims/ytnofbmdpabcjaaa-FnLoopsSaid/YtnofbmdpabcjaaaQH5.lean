/- Sv, Sw, Xa, Xb, Xh, Xj: texts of this claim, joined; what the claim does not come to is left out. -/
import Derived.Test.YtnofbmdpabcjaaaQH4
import Derived.Test.YtnofbmdpabcjaaaProg
set_option linter.unusedVariables false
set_option linter.unusedSimpArgs false
namespace Go.Proofs.Ytnofbmdpabcjaaa
open Go Go.RowKit
set_option linter.unusedVariables false
set_option linter.unusedSimpArgs false
set_option maxHeartbeats 4000000
set_option maxRecDepth 100000
attribute [local irreducible] LW
theorem z93_0 {p : Prop} (h : p := by first | omega | exact and_255 _) : p := h
theorem z93_1 {p : Prop} (h : p := by kernel_rfl) : p := h
theorem c_spec_l00Src_next (w : World) (g : Nat) (sv : Value) (cs : List UInt8) (n0 : Nat) (hs : Src w.heap g sv cs n0) (hn0 : n0 + 1 ≤ 1000000000000)  :
  Calls Try.prog 93 #[.pointer (some ⟨g,0,none⟩)] w (fun e w' => ∃ (x0 : Int) (n1 : Nat),e = .returned (.int .i64 x0) ∧ Chg [g] w w' ∧ Src w'.heap g sv cs n1 ∧ (n0 ≤ n1 ∧ n1 ≤ n0 + 1) ∧ (0 ≤ x0 ∧ x0 ≤ 255)) := by
 refine calls_mk [.pointer (some ⟨g,0,none⟩)] 62 Try.func93 rfl rfl sM ?_
 have hE0 : Chg [g] w w := Chg.refl [g] w
 have hgl := hs.lt
 obtain ⟨sd,hbx,hrs⟩ := hs.parts
 have hl_sv := (hrs _ (Chg.refl [g] w)).lenle
 refine wp_seq (wp_plain _ [0] rfl (lw_tvn 1 rfl (wp_seq (wp_plain _ [0] rfl (lw_tvn 1 rfl (wp_seq (wp_seq (wp_draw _ [0,0,0,1,0,0,0,1,0,0] mixed z93_1 (lw_tv 1 rfl (q_nil rfl zN (q_fld 1 z93_1 rfl zN (q_load (p := (.pointer (some ⟨g,1,none⟩))) (.inl rfl) (.int .i64 ((n0 :Nat):Int)) one3 rfl (hbx.ld (k := 1) sM) zN (lw_tv 1 rfl (q_nil rfl zN (q_fld 0 z93_1 rfl zN (q_load (p := (.pointer (some ⟨g,0,none⟩))) (.inl rfl) sv one22 rfl (hbx.ld (k := 0) sM) zN (q_len (v := sv) u22 rfl (hrs _ hE0.drew).isSl zN ?_)))))))))))))))))
 by_cases hc1 : ((n0 :Nat):Int) < ((cs.length :Nat):Int)
 ·
  refine q_lss true rfl rfl (decide_eq_true hc1) zN (lw_nil (c_cond_t rfl (wp_draw _ [0,0,0,1,0,0,0,1,0,1,0,0] mixed z93_1 (lw_tv 1 rfl (q_nil rfl zN (q_fld 0 z93_1 rfl zN (q_load (p := (.pointer (some ⟨g,0,none⟩))) (.inl rfl) sv one22 rfl (hbx.ld (k := 0) sM) zN (lw_tv 1 rfl (q_nil rfl zN (q_fld 1 z93_1 rfl zN (q_load (p := (.pointer (some ⟨g,1,none⟩))) (.inl rfl) (.int .i64 ((n0 :Nat):Int)) one3 rfl (hbx.ld (k := 1) sM) zN ?_)))))))))))
  refine q_idx (v := sv) n0 u22 ti5 rfl rfl (hrs _ hE0.drew.drew).isSl rfl sD zN ?_
  refine q_load (p := eptr sv n0 1) (.inl rfl) (.int .u8 ((cs.getD n0 0).toNat : Int)) one5 rfl ((hrs _ hE0.drew.drew).getU sD).1 zN (q_conv ((cs.getD n0 0).toNat : Int) u5 u3 rfl (w8 _) zN (lw_tvn 1 rfl (wp_seq (wp_plain _ [0,0,0,2,0,0,0,4] rfl (lw_tv 1 rfl (q_nil rfl zN (q_fld 1 z93_1 rfl zN (q_load (p := (.pointer (some ⟨g,1,none⟩))) (.inr rfl) (.int .i64 ((n0 :Nat):Int)) one3 rfl (hbx.ld (k := 1) sM) zN ?_))))))))
  refine q_add ((n0 + 1 :Nat):Int) rfl rfl (w64n oM sD) zN (q_nil rfl zN (q_fld 1 z93_1 rfl zN (e_setB (w := w.drew.drew) sz3 rfl rfl ⟨rfl,rfl⟩ hbx sM zN fun w2 hC2 hz2 hB2 => ?_)))
  replace hC2 := hC2.of_drew
  replace hC2 := hC2.of_drew
  have hE2 : Chg [g] w w2 := hE0.trans hC2
  have hBx2 : BX w2.heap g [sv,(.int .i64 ((n0 + 1 :Nat):Int)),(.int .u64 sd)] := hB2
  refine lw_nil (wp_seq (wp_plain _ [0,0,0,0,2,0,0,0,0,0,0,0,4] rfl (lw_tv 2 rfl (q_nil rfl zN (q_fld 2 z93_1 rfl zN (q_load (p := (.pointer (some ⟨g,2,none⟩))) (.inr rfl) (.int .u64 sd) one125 rfl (hBx2.ld (k := 2) sM) zN (q_mul (IntKind.u64.wrap (sd * 6364136223846793005)) rfl rfl rfl zN (lw_tv 1 rfl (q_conv (IntKind.u64.wrap (((cs.getD n0 0).toNat : Int))) u3 u125 rfl rfl zN (q_add (IntKind.u64.wrap ((IntKind.u64.wrap (sd * 6364136223846793005)) + (IntKind.u64.wrap (((cs.getD n0 0).toNat : Int))))) rfl rfl rfl zN (q_add (IntKind.u64.wrap ((IntKind.u64.wrap ((IntKind.u64.wrap (sd * 6364136223846793005)) + (IntKind.u64.wrap (((cs.getD n0 0).toNat : Int))))) + 1442695040888963407)) rfl rfl rfl zN (q_nil rfl zN ?_))))))))))))
  refine q_fld 2 z93_1 rfl zN (e_setB (w := w2) sz125 rfl rfl ⟨rfl,rfl⟩ hBx2 sM zN fun w3 hC3 hz3 hB3 => ?_)
  have hE3 : Chg [g] w w3 := hE2.trans hC3
  have hBx3 : BX w3.heap g [sv,(.int .i64 ((n0 + 1 :Nat):Int)),(.int .u64 (IntKind.u64.wrap ((IntKind.u64.wrap ((IntKind.u64.wrap (sd * 6364136223846793005)) + (IntKind.u64.wrap (((cs.getD n0 0).toNat : Int))))) + 1442695040888963407)))] := hB3
  refine lw_nil (wp_seq (wp_seq (wp_draw _ [0,0,0,1,0,0,0,1,0,0] mixed z93_1 (lw_tv 1 rfl (q_nil rfl zN (q_fld 1 z93_1 rfl zN (q_load (p := (.pointer (some ⟨g,1,none⟩))) (.inl rfl) (.int .i64 ((n0 + 1 :Nat):Int)) one3 rfl (hBx3.ld (k := 1) sM) zN (lw_tv 1 rfl (q_nil rfl zN (q_fld 0 z93_1 rfl zN (q_load (p := (.pointer (some ⟨g,0,none⟩))) (.inl rfl) sv one22 rfl (hBx3.ld (k := 0) sM) zN (q_len (v := sv) u22 rfl (hrs _ hE3.drew).isSl zN ?_))))))))))))
  by_cases hc4 : ((n0 + 1 :Nat):Int) ≤ ((cs.length :Nat):Int)
  ·
   refine q_leq true rfl rfl (decide_eq_true hc4) zN (lw_nil (c_cond_t rfl (wp_seq (wp_plain _ [0,0] rfl (lw_tvn 2 rfl (wp_ret (t_ret ?_)))))))
   have hu8 := u8_lt (cs.getD n0 0)
   exact post_ret [2] rfl (.int .i64 ((cs.getD n0 0).toNat : Int)) rfl ⟨((cs.getD n0 0).toNat : Int),n0 + 1,rfl,hE3.drew,(hs.close hE3.drew hBx3),⟨by omega,by omega⟩,z93_0⟩
  ·
   refine q_leq false rfl rfl (decide_eq_false hc4) zN (lw_nil (c_cond_f rfl (wp_skip (wp_seq (wp_plain _ [0,0,0,2,0,0,0,0] rfl (lw_tv 1 rfl (q_nil rfl zN (q_fld 2 z93_1 rfl zN (q_load (p := (.pointer (some ⟨g,2,none⟩))) (.inr rfl) (.int .u64 (IntKind.u64.wrap ((IntKind.u64.wrap ((IntKind.u64.wrap (sd * 6364136223846793005)) + (IntKind.u64.wrap (((cs.getD n0 0).toNat : Int))))) + 1442695040888963407))) one125 rfl (hBx3.ld (k := 2) sM) zN (q_shr ((IntKind.u64.wrap ((IntKind.u64.wrap ((IntKind.u64.wrap (sd * 6364136223846793005)) + (IntKind.u64.wrap (((cs.getD n0 0).toNat : Int))))) + 1442695040888963407)).fdiv (2 ^ (min (40 : Int).toNat (IntKind.u64).bits))) rfl rfl (by decide) rfl zN (q_and rfl rfl zN ?_)))))))))))
   refine q_conv (andV .u64 ((IntKind.u64.wrap ((IntKind.u64.wrap ((IntKind.u64.wrap (sd * 6364136223846793005)) + (IntKind.u64.wrap (((cs.getD n0 0).toNat : Int))))) + 1442695040888963407)).fdiv (2 ^ (min (40 : Int).toNat (IntKind.u64).bits))) 255) u125 u2 rfl (wand _) zN (lw_tvn 1 rfl (wp_ret ?_))
   have hu8 := u8_lt (cs.getD n0 0)
   exact post_ret [2] rfl (.int .i64 (andV .u64 ((IntKind.u64.wrap ((IntKind.u64.wrap ((IntKind.u64.wrap (sd * 6364136223846793005)) + (IntKind.u64.wrap (((cs.getD n0 0).toNat : Int))))) + 1442695040888963407)).fdiv (2 ^ (min (40 : Int).toNat (IntKind.u64).bits))) 255)) rfl ⟨andV .u64 ((IntKind.u64.wrap ((IntKind.u64.wrap ((IntKind.u64.wrap (sd * 6364136223846793005)) + (IntKind.u64.wrap (((cs.getD n0 0).toNat : Int))))) + 1442695040888963407)).fdiv (2 ^ (min (40 : Int).toNat (IntKind.u64).bits))) 255,n0 + 1,rfl,hE3.drew,(hs.close hE3.drew hBx3),⟨by omega,by omega⟩,z93_0⟩
 ·
  refine q_lss false rfl rfl (decide_eq_false hc1) zN (lw_nil (c_cond_f rfl (wp_skip (wp_seq (wp_plain _ [0,0,0,2,0,0,0,4] rfl (lw_tv 1 rfl (q_nil rfl zN (q_fld 1 z93_1 rfl zN (q_load (p := (.pointer (some ⟨g,1,none⟩))) (.inr rfl) (.int .i64 ((n0 :Nat):Int)) one3 rfl (hbx.ld (k := 1) sM) zN (q_add ((n0 + 1 :Nat):Int) rfl rfl (w64n oM sD) zN (q_nil rfl zN ?_)))))))))))
  refine q_fld 1 z93_1 rfl zN (e_setB (w := w.drew) sz3 rfl rfl ⟨rfl,rfl⟩ hbx sM zN fun w5 hC5 hz5 hB5 => ?_)
  replace hC5 := hC5.of_drew
  have hE5 : Chg [g] w w5 := hE0.trans hC5
  have hBx5 : BX w5.heap g [sv,(.int .i64 ((n0 + 1 :Nat):Int)),(.int .u64 sd)] := hB5
  refine lw_nil (wp_seq (wp_plain _ [0,0,0,0,2,0,0,0,0,0,0,0,4] rfl (lw_tv 2 rfl (q_nil rfl zN (q_fld 2 z93_1 rfl zN (q_load (p := (.pointer (some ⟨g,2,none⟩))) (.inr rfl) (.int .u64 sd) one125 rfl (hBx5.ld (k := 2) sM) zN (q_mul (IntKind.u64.wrap (sd * 6364136223846793005)) rfl rfl rfl zN (lw_tv 1 rfl (q_conv (IntKind.u64.wrap (((0 :Nat):Int))) u3 u125 rfl rfl zN (q_add (IntKind.u64.wrap ((IntKind.u64.wrap (sd * 6364136223846793005)) + (IntKind.u64.wrap (((0 :Nat):Int))))) rfl rfl rfl zN (q_add (IntKind.u64.wrap ((IntKind.u64.wrap ((IntKind.u64.wrap (sd * 6364136223846793005)) + (IntKind.u64.wrap (((0 :Nat):Int))))) + 1442695040888963407)) rfl rfl rfl zN (q_nil rfl zN (q_fld 2 z93_1 rfl zN ?_)))))))))))))
  refine e_setB (w := w5) sz125 rfl rfl ⟨rfl,rfl⟩ hBx5 sM zN fun w6 hC6 hz6 hB6 => ?_
  have hE6 : Chg [g] w w6 := hE5.trans hC6
  have hBx6 : BX w6.heap g [sv,(.int .i64 ((n0 + 1 :Nat):Int)),(.int .u64 (IntKind.u64.wrap ((IntKind.u64.wrap ((IntKind.u64.wrap (sd * 6364136223846793005)) + (IntKind.u64.wrap (((0 :Nat):Int))))) + 1442695040888963407)))] := hB6
  refine lw_nil (wp_seq (wp_seq (wp_draw _ [0,0,0,1,0,0,0,1,0,0] mixed z93_1 (lw_tv 1 rfl (q_nil rfl zN (q_fld 1 z93_1 rfl zN (q_load (p := (.pointer (some ⟨g,1,none⟩))) (.inl rfl) (.int .i64 ((n0 + 1 :Nat):Int)) one3 rfl (hBx6.ld (k := 1) sM) zN (lw_tv 1 rfl (q_nil rfl zN (q_fld 0 z93_1 rfl zN (q_load (p := (.pointer (some ⟨g,0,none⟩))) (.inl rfl) sv one22 rfl (hBx6.ld (k := 0) sM) zN (q_len (v := sv) u22 rfl (hrs _ hE6.drew).isSl zN ?_))))))))))))
  by_cases hc7 : ((n0 + 1 :Nat):Int) ≤ ((cs.length :Nat):Int)
  ·
   refine q_leq true rfl rfl (decide_eq_true hc7) zN (lw_nil (c_cond_t rfl (wp_seq (wp_plain _ [0,0] rfl (lw_tvn 2 rfl (wp_ret (t_ret ?_)))))))
   have hu8 := u8_lt (cs.getD n0 0)
   exact post_ret [2] rfl (.int .i64 ((0 :Nat):Int)) rfl ⟨((0 :Nat):Int),n0 + 1,rfl,hE6.drew,(hs.close hE6.drew hBx6),⟨by omega,by omega⟩,z93_0⟩
  ·
   refine q_leq false rfl rfl (decide_eq_false hc7) zN (lw_nil (c_cond_f rfl (wp_skip (wp_seq (wp_plain _ [0,0,0,2,0,0,0,0] rfl (lw_tv 1 rfl (q_nil rfl zN (q_fld 2 z93_1 rfl zN (q_load (p := (.pointer (some ⟨g,2,none⟩))) (.inr rfl) (.int .u64 (IntKind.u64.wrap ((IntKind.u64.wrap ((IntKind.u64.wrap (sd * 6364136223846793005)) + (IntKind.u64.wrap (((0 :Nat):Int))))) + 1442695040888963407))) one125 rfl (hBx6.ld (k := 2) sM) zN (q_shr ((IntKind.u64.wrap ((IntKind.u64.wrap ((IntKind.u64.wrap (sd * 6364136223846793005)) + (IntKind.u64.wrap (((0 :Nat):Int))))) + 1442695040888963407)).fdiv (2 ^ (min (40 : Int).toNat (IntKind.u64).bits))) rfl rfl (by decide) rfl zN (q_and rfl rfl zN ?_)))))))))))
   refine q_conv (andV .u64 ((IntKind.u64.wrap ((IntKind.u64.wrap ((IntKind.u64.wrap (sd * 6364136223846793005)) + (IntKind.u64.wrap (((0 :Nat):Int))))) + 1442695040888963407)).fdiv (2 ^ (min (40 : Int).toNat (IntKind.u64).bits))) 255) u125 u2 rfl (wand _) zN (lw_tvn 1 rfl (wp_ret ?_))
   have hu8 := u8_lt (cs.getD n0 0)
   exact post_ret [2] rfl (.int .i64 (andV .u64 ((IntKind.u64.wrap ((IntKind.u64.wrap ((IntKind.u64.wrap (sd * 6364136223846793005)) + (IntKind.u64.wrap (((0 :Nat):Int))))) + 1442695040888963407)).fdiv (2 ^ (min (40 : Int).toNat (IntKind.u64).bits))) 255)) rfl ⟨andV .u64 ((IntKind.u64.wrap ((IntKind.u64.wrap ((IntKind.u64.wrap (sd * 6364136223846793005)) + (IntKind.u64.wrap (((0 :Nat):Int))))) + 1442695040888963407)).fdiv (2 ^ (min (40 : Int).toNat (IntKind.u64).bits))) 255,n0 + 1,rfl,hE6.drew,(hs.close hE6.drew hBx6),⟨by omega,by omega⟩,z93_0⟩
theorem z43_0 {p : Prop} (h : p := by first | omega | exact ⟨Int.emod_nonneg _ oM, Int.le_of_lt (Int.lt_of_lt_of_le (Int.emod_lt_of_pos _ oM) oM), fun _ => Int.emod_lt_of_pos _ oM⟩) : p := h
theorem c_spec_l00Src_pick (w : World) (g : Nat) (sv : Value) (cs : List UInt8) (n0 : Nat) (k : Int) (hs : Src w.heap g sv cs n0) (hn0 : n0 + 2 ≤ 1000000000000) (_hk : -9223372036854775808 ≤ k ∧ k ≤ 9223372036854775807) (hk : k ≤ 1000000) :
  Calls Try.prog 43 #[.pointer (some ⟨g,0,none⟩),.int .i64 k] w (fun e w' => ∃ (x0 : Int) (n1 : Nat),e = .returned (.int .i64 x0) ∧ Chg [g] w w' ∧ Src w'.heap g sv cs n1 ∧ (n0 ≤ n1 ∧ n1 ≤ n0 + 2) ∧ (0 ≤ x0 ∧ x0 ≤ 1000000 ∧ (1 ≤ k → x0 < k))) := by
 refine calls_mk [.pointer (some ⟨g,0,none⟩),.int .i64 k] 20 Try.func43 rfl rfl sM ?_
 have hE0 : Chg [g] w w := Chg.refl [g] w
 have hgl := hs.lt
 refine wp_seq (wp_plain _ [0] rfl (lw_tvn 1 rfl (wp_seq (wp_seq (wp_plain _ [0,0] rfl (lw_tv 1 rfl ?_))))))
 by_cases hc1 : k ≤ ((1 :Nat):Int)
 ·
  exact q_leq true rfl rfl (decide_eq_true hc1) zN (lw_nil (c_cond_t rfl (wp_seq (wp_plain _ [0] rfl (lw_tvn 1 rfl (wp_ret (t_ret (post_ret [4] rfl (.int .i64 ((0 :Nat):Int)) rfl ⟨((0 :Nat):Int),n0,rfl,hE0,hs,⟨by omega,by omega⟩,z43_0⟩))))))))
 ·
  refine q_leq false rfl rfl (decide_eq_false hc1) zN (lw_nil (c_cond_f rfl (wp_skip (wp_seq (wp_plain _ [0,4,0] rfl (lw_tv 1 rfl (lw_callE 93 [] [] [(.pointer (some ⟨g,0,none⟩))] rfl rfl cf93 zN (c_spec_l00Src_next _ g _ _ _ hs oM) ?_)))))))
  rintro e2 w2 ⟨x2_0,n2,rfl,hC2,hs2,hb2,hp2_0⟩
  refine ⟨_,rfl,?_⟩
  have hzs2:=hC2.size
  have hE2 : Chg [g] w w2 := hE0.trans hC2
  refine lw_tvn 1 rfl (wp_seq (wp_seq (wp_plain _ [0,0] rfl (lw_tv 1 rfl ?_))))
  by_cases hc3 : ((200 :Nat):Int) < k
  ·
   refine q_gtr true rfl rfl (decide_eq_true hc3) zN (lw_nil (c_cond_t rfl (wp_plain _ [0,0,0,4,0,0] rfl (lw_tv 1 rfl ?_))))
   refine q_mul (x2_0 * ((256 :Nat):Int)) rfl rfl (w64 sD sD) zN (lw_tv 1 rfl ?_)
   refine lw_callE 93 [] [] [(.pointer (some ⟨g,0,none⟩))] rfl rfl cf93 zN (c_spec_l00Src_next _ g _ _ _ hs2 oM) ?_
   rintro e4 w4 ⟨x4_0,n4,rfl,hC4,hs4,hb4,hp4_0⟩
   refine ⟨_,rfl,?_⟩
   have hzs4:=hC4.size
   have hE4 : Chg [g] w w4 := hE2.trans hC4
   refine q_add ((x2_0 * ((256 :Nat):Int)) + x4_0) rfl rfl (w64 sD sD) zN (lw_tvn 1 rfl (wp_seq (wp_plain _ [0,0,0,0] rfl ?_)))
   exact lw_tv 2 rfl (q_rem (((x2_0 * ((256 :Nat):Int)) + x4_0) % k) rfl rfl oM (Int.tmod_eq_emod_of_nonneg oM) zN (lw_tvn 1 rfl (wp_ret (post_ret [4] rfl (.int .i64 (((x2_0 * ((256 :Nat):Int)) + x4_0) % k)) rfl ⟨((x2_0 * ((256 :Nat):Int)) + x4_0) % k,n4,rfl,hE4,hs4,⟨by omega,by omega⟩,z43_0⟩))))
  ·
   exact q_gtr false rfl rfl (decide_eq_false hc3) zN (lw_nil (c_cond_f rfl (wp_skip (wp_seq (wp_plain _ [0,0,0,0] rfl (lw_tv 2 rfl (q_rem ((x2_0) % k) rfl rfl oM (Int.tmod_eq_emod_of_nonneg oM) zN (lw_tvn 1 rfl (wp_ret (post_ret [4] rfl (.int .i64 ((x2_0) % k)) rfl ⟨(x2_0) % k,n2,rfl,hE2,hs2,⟨by omega,by omega⟩,z43_0⟩))))))))))
theorem c_spec_l00Src_one (w : World) (g : Nat) (sv : Value) (cs : List UInt8) (n0 : Nat) (k : Int) (hs : Src w.heap g sv cs n0) (hn0 : n0 + 2 ≤ 1000000000000) (_hk : -9223372036854775808 ≤ k ∧ k ≤ 9223372036854775807) (hk : k ≤ 1000000) :
  Calls Try.prog 45 #[.pointer (some ⟨g,0,none⟩),.int .i64 k] w (fun e w' => ∃ (x0 : Bool) (n1 : Nat),e = .returned (.bool x0) ∧ Chg [g] w w' ∧ Src w'.heap g sv cs n1 ∧ (n0 ≤ n1 ∧ n1 ≤ n0 + 2) ∧ True) := by
 refine calls_mk [.pointer (some ⟨g,0,none⟩),.int .i64 k] 9 Try.func45 rfl rfl sM ?_
 have hE0 : Chg [g] w w := Chg.refl [g] w
 have hgl := hs.lt
 refine wp_seq (wp_plain _ [0] rfl (lw_tvn 1 rfl (wp_seq (wp_plain _ [0,0,4,0,0] rfl (lw_tv 2 rfl (lw_callE 43 [] [] [(.pointer (some ⟨g,0,none⟩)),(.int .i64 k)] rfl rfl cf43 zN (c_spec_l00Src_pick _ g _ _ _ _ hs oM _hk sD) ?_))))))
 rintro e1 w1 ⟨x1_0,n1,rfl,hC1,hs1,hb1,hp1_0⟩
 refine ⟨_,rfl,?_⟩
 have hzs1:=hC1.size
 have hE1 : Chg [g] w w1 := hE0.trans hC1
 exact q_eql (decide (x1_0 = ((0 :Nat):Int))) rfl rfl rfl zN (lw_tvn 1 rfl (wp_ret (post_ret [4] rfl (.bool (decide (x1_0 = ((0 :Nat):Int)))) rfl ⟨decide (x1_0 = ((0 :Nat):Int)),n1,rfl,hE1,hs1,⟨by omega,by omega⟩,(by trivial)⟩)))
theorem c_spec_l01Any (w : World) (g : Nat) (sv : Value) (cs : List UInt8) (n0 : Nat) (hs : Src w.heap g sv cs n0) (hn0 : n0 + 8 ≤ 1000000000000)  :
  Calls Try.prog 94 #[.pointer (some ⟨g,0,none⟩)] w (fun e w' => ∃ (x0 : Int) (n1 : Nat),e = .returned (.int .i64 x0) ∧ Chg [g] w w' ∧ Src w'.heap g sv cs n1 ∧ (n0 ≤ n1 ∧ n1 ≤ n0 + 8) ∧ (0 ≤ x0 ∧ x0 < 1000003)) := by
 refine calls_mk [.pointer (some ⟨g,0,none⟩)] 25 Try.func94 rfl rfl sM ?_
 have hE0 : Chg [g] w w := Chg.refl [g] w
 have hgl := hs.lt
 refine wp_seq (wp_plain _ [0] rfl (lw_tvn 1 rfl (wp_seq (wp_seq (wp_plain _ [0,4] rfl (lw_tv 1 rfl (lw_callE 43 [] [] [(.pointer (some ⟨g,0,none⟩)),(.int .i64 ((6 :Nat):Int))] rfl rfl cf43 zN (c_spec_l00Src_pick _ g _ _ _ _ hs oM oM sD) ?_)))))))
 rintro e1 w1 ⟨x1_0,n1,rfl,hC1,hs1,hb1,hp1_0⟩
 refine ⟨_,rfl,?_⟩
 have hzs1:=hC1.size
 have hE1 : Chg [g] w w1 := hE0.trans hC1
 refine lw_nil (wp_block (wp_seq (wp_plain _ [0,0] rfl ?_)))
 by_cases hc2 : x1_0 = ((0 :Nat):Int)
 ·
  refine q_eql true rfl rfl (decide_eq_true hc2) zN (lw_tvn 1 rfl (c_cond_t rfl (wp_seq (wp_plain _ [0,4,0,0] rfl (lw_tv 1 rfl (lw_callE 43 [] [] [(.pointer (some ⟨g,0,none⟩)),(.int .i64 ((3 :Nat):Int))] rfl rfl cf43 zN (c_spec_l00Src_pick _ g _ _ _ _ hs1 oM oM sD) ?_))))))
  rintro e3 w3 ⟨x3_0,n3,rfl,hC3,hs3,hb3,hp3_0⟩
  refine ⟨_,rfl,?_⟩
  have hzs3:=hC3.size
  have hE3 : Chg [g] w w3 := hE1.trans hC3
  refine q_sub (((1000002 :Nat):Int) - x3_0) rfl rfl (w64 sD sD) zN (lw_tvn 1 rfl (wp_ret (b_ret (t_ret ?_))))
  exact post_ret [2] rfl (.int .i64 (((1000002 :Nat):Int) - x3_0)) rfl ⟨((1000002 :Nat):Int) - x3_0,n3,rfl,hE3,hs3,⟨by omega,by omega⟩,(by first | omega | exact md_num _)⟩
 ·
  refine q_eql false rfl rfl (decide_eq_false hc2) zN (lw_tvn 1 rfl (c_cond_f rfl (wp_seq (wp_plain _ [0,0] rfl ?_))))
  by_cases hc4 : x1_0 = ((1 :Nat):Int)
  ·
   refine q_eql true rfl rfl (decide_eq_true hc4) zN (lw_tvn 1 rfl (c_cond_t rfl (wp_seq (wp_plain _ [0,4,0,0,4,0,0,0,4,0,0,0] rfl (lw_tv 1 rfl (lw_callE 43 [] [] [(.pointer (some ⟨g,0,none⟩)),(.int .i64 ((256 :Nat):Int))] rfl rfl cf43 zN (c_spec_l00Src_pick _ g _ _ _ _ hs1 oM oM sD) ?_))))))
   rintro e5 w5 ⟨x5_0,n5,rfl,hC5,hs5,hb5,hp5_0⟩
   refine ⟨_,rfl,?_⟩
   have hzs5:=hC5.size
   have hE5 : Chg [g] w w5 := hE1.trans hC5
   refine q_mul (x5_0 * ((65536 :Nat):Int)) rfl rfl (w64 sD sD) zN (lw_tv 1 rfl ?_)
   refine lw_callE 43 [] [] [(.pointer (some ⟨g,0,none⟩)),(.int .i64 ((256 :Nat):Int))] rfl rfl cf43 zN (c_spec_l00Src_pick _ g _ _ _ _ hs5 oM oM sD) ?_
   rintro e6 w6 ⟨x6_0,n6,rfl,hC6,hs6,hb6,hp6_0⟩
   refine ⟨_,rfl,?_⟩
   have hzs6:=hC6.size
   have hE6 : Chg [g] w w6 := hE5.trans hC6
   refine q_mul (x6_0 * ((256 :Nat):Int)) rfl rfl (w64 sD sD) zN ?_
   refine q_add ((x5_0 * ((65536 :Nat):Int)) + (x6_0 * ((256 :Nat):Int))) rfl rfl (w64 sD sD) zN (lw_tv 1 rfl ?_)
   refine lw_callE 43 [] [] [(.pointer (some ⟨g,0,none⟩)),(.int .i64 ((256 :Nat):Int))] rfl rfl cf43 zN (c_spec_l00Src_pick _ g _ _ _ _ hs6 oM oM sD) ?_
   rintro e7 w7 ⟨x7_0,n7,rfl,hC7,hs7,hb7,hp7_0⟩
   refine ⟨_,rfl,?_⟩
   have hzs7:=hC7.size
   have hE7 : Chg [g] w w7 := hE6.trans hC7
   refine q_add (((x5_0 * ((65536 :Nat):Int)) + (x6_0 * ((256 :Nat):Int))) + x7_0) rfl rfl (w64 sD sD) zN ?_
   exact q_rem (md (((x5_0 * ((65536 :Nat):Int)) + (x6_0 * ((256 :Nat):Int))) + x7_0)) rfl rfl (by decide) (Int.tmod_eq_emod_of_nonneg oM) zN (lw_tvn 1 rfl (wp_ret (b_ret (t_ret (post_ret [2] rfl (.int .i64 (md (((x5_0 * ((65536 :Nat):Int)) + (x6_0 * ((256 :Nat):Int))) + x7_0))) rfl ⟨md (((x5_0 * ((65536 :Nat):Int)) + (x6_0 * ((256 :Nat):Int))) + x7_0),n7,rfl,hE7,hs7,⟨by omega,by omega⟩,(by first | omega | exact md_num _)⟩)))))
  ·
   refine q_eql false rfl rfl (decide_eq_false hc4) zN (lw_tvn 1 rfl (c_cond_f rfl (wp_skip (wp_seq (wp_plain _ [0,4,0] rfl (lw_tv 1 rfl (lw_callE 43 [] [] [(.pointer (some ⟨g,0,none⟩)),(.int .i64 ((7 :Nat):Int))] rfl rfl cf43 zN (c_spec_l00Src_pick _ g _ _ _ _ hs1 oM oM sD) ?_)))))))
   rintro e8 w8 ⟨x8_0,n8,rfl,hC8,hs8,hb8,hp8_0⟩
   refine ⟨_,rfl,?_⟩
   have hzs8:=hC8.size
   have hE8 : Chg [g] w w8 := hE1.trans hC8
   exact lw_tvn 1 rfl (wp_ret (post_ret [2] rfl (.int .i64 x8_0) rfl ⟨x8_0,n8,rfl,hE8,hs8,⟨by omega,by omega⟩,(by first | omega | exact md_num _)⟩))
theorem c_spec_l01Draw (w : World) (g : Nat) (sv : Value) (cs : List UInt8) (n0 : Nat) (k : Int) (hs : Src w.heap g sv cs n0) (hn0 : n0 + (8 * k.toNat) ≤ 1000000000000) (_hk : -9223372036854775808 ≤ k ∧ k ≤ 9223372036854775807) (hk : k ≤ 1000) :
  Calls Try.prog 44 #[.pointer (some ⟨g,0,none⟩),.int .i64 k] w (fun e w' => ∃ (v0 : Value) (x0 : List Int) (n1 : Nat),e = .returned (v0) ∧ Chg [g] w w' ∧ Src w'.heap g sv cs n1 ∧ (n0 ≤ n1 ∧ n1 ≤ n0 + (8 * k.toNat)) ∧ Fr (owL rI 2) w.heap.size w'.heap.size w'.heap v0 x0 ∧ (x0.length = k.toNat ∧ allN x0 = true)) := by
 refine calls_mk [.pointer (some ⟨g,0,none⟩),.int .i64 k] 19 Try.func44 rfl rfl sM ?_
 have hE0 : Chg [g] w w := Chg.refl [g] w
 have hgl := hs.lt
 refine wp_seq (wp_plain _ [0] rfl (lw_tvn 1 rfl (wp_seq (wp_plain _ [3,0] rfl (r_nil (rI) good_rI u25 ti2 zN fun v1 w1 hX1 hz1 hO1 => ?_)))))
 have hzs1:=hX1.size
 have hE1 : Chg [g] w w1 := hE0.ext hX1
 have hsx1 := hs.ext hX1
 refine lw_tvn 1 rfl (wp_seq (wp_seq (wp_plain _ [0] rfl (lw_tvn 1 rfl (wp_block ?_)))))
 refine c_loop (S := Nat × Value × List Int × Nat) (fun (⟨j,vo,xs,m⟩ : Nat × Value × List Int × Nat) => ([(5,vo),(6,(.int .i64 ((j :Nat):Int))),(0,(.pointer (some ⟨g,0,none⟩))),(1,(.int .i64 k))] : List (Nat × Value))) (fun (⟨j,vo,xs,m⟩ : Nat × Value × List Int × Nat) (W : World) => Chg [g] w W ∧ Fr (owL rI 2) w.heap.size W.heap.size W.heap vo xs ∧ Src W.heap g sv cs m ∧ j ≤ k.toNat ∧ (n0 ≤ m ∧ m ≤ n0 + 8 * j) ∧ (xs.length = j ∧ allN xs = true)) (fun (⟨j,vo,xs,m⟩ : Nat × Value × List Int × Nat) => k.toNat - j) (0,v1,[],n0) ⟨rfl,rfl,rfl,rfl,trivial⟩ ⟨hE1,hO1.up o1,hsx1,sD,oM,(by exact ⟨rfl,rfl⟩)⟩ ?_
 clear hE0 hO1 hz1 hX1 hzs1 hE1
 rintro ⟨j,vo,xs,m⟩ ρ2 w2 ⟨hE2,hL2_0,hL2_1,hp2_0,hm,hxs⟩
 have hzs2 : w.heap.size ≤ w2.heap.size := hE2.size
 refine wp_seq (wp_seq (wp_plain _ [0,0,0] rfl (lw_tv 2 rfl ?_)))
 by_cases hc3 : ((j :Nat):Int) < k
 ·
  refine q_lss true rfl rfl (decide_eq_true hc3) zN (lw_nil (c_cond_t rfl (wp_skip (wp_seq (wp_block (wp_plain _ [0,0,4,3,4,0] rfl (lw_tv 2 rfl (lw_callE 94 [] [] [(.pointer (some ⟨g,0,none⟩))] rfl rfl cf94 zN (c_spec_l01Any _ g _ _ _ hL2_1 oM) ?_))))))))
  rintro e4 w4 ⟨x4_0,n4,rfl,hC4,hs4,hb4,hp4_0⟩
  refine ⟨_,rfl,?_⟩
  have hzs4:=hC4.size
  have hE4 : Chg [g] w w4 := hE2.trans hC4
  have hF5 := hL2_0.chg (o1) hC4 (fun b hb => by have : b = g := (by simpa using hb); omega)
  refine r_one (u := (.int .i64 x4_0)) (B := w4.heap.size) good_rI u25 ti2 rfl rfl (frI w4.heap.size w4.heap.size _ _ oM) (Nat.le_refl _) zN fun v6 w6 hX6 hz6 hO6 => ?_
  have hzs6:=hX6.size
  have hE6 : Chg [g] w w6 := hE4.ext hX6
  have hF5x6 := hF5.ext (o1) hX6
  have hs4x6 := hs4.ext hX6
  refine e_appI (v := vo) (a := v6) u25 ti2 rfl rfl rfl hF5x6 hE6.size hO6.rd1 sD (by unfold maxLen; first | omega | assumption | (simp; done) | (simp; omega)) zN fun v7 w7 F7 hC7 hF7 hO7 => ?_
  have hE7 : Chg [g] w w7 := hE6.fresh hC7 (fun c hc => Nat.le_trans (Nat.le_refl _) (hF7 c hc).1)
  have hzs7:=hC7.size
  have hF8 := hs4x6.chg hC7 (fun c hc => by have := hF7 c hc; omega)
  have hF9 := hO6.chg (o1) hC7 (fun c hc => by have := hF7 c hc; omega)
  refine lw_tvn 1 rfl (wp_plain _ [0,0,0] rfl (lw_tv 1 rfl (q_add ((j + 1 :Nat):Int) rfl rfl (w64n oM oM) zN (lw_tvn 1 rfl ?_))))
  exact ⟨((j + 1),v7,(xs ++ [x4_0]),n4),_,rfl,⟨rfl,rfl,rfl,rfl,trivial⟩,⟨hE7,hO7.up o1,hF8,sD,oM,(by exact ⟨by rw [List.length_append,hxs.1]; rfl,by unfold allN at *; rw [List.all_append,hxs.2]; simp only [List.all_cons,List.all_nil,Bool.and_true,Bool.true_and]; exact isN_iff.2 oM⟩)⟩,by first | omega | (dsimp only; omega)⟩
 ·
  exact q_lss false rfl rfl (decide_eq_false hc3) zN (lw_nil (c_cond_f rfl (wp_exit (t_exit (t_exit (c_exit_here (wp_seq (wp_plain _ [0,0] rfl (lw_tvn 2 rfl (wp_ret (post_ret [4] rfl vo rfl ⟨vo,xs,m,rfl,hE2,hL2_1,⟨by omega,by omega⟩,hL2_0.up o1,(by exact ⟨by omega,hxs.2⟩)⟩)))))))))))
end Go.Proofs.Ytnofbmdpabcjaaa
namespace Go.Proofs.Ytnofbmdpabcjaaa
open Go Go.RowKit
set_option linter.unusedVariables false
set_option linter.unusedSimpArgs false
set_option maxHeartbeats 4000000
set_option maxRecDepth 100000
attribute [local irreducible] LW
theorem bld98a (a : Option Addr) (n c : Nat) (w : World) : (Instr.build 127 #[(0, .slice a n c)]).run Try.prog w = .ok (.agg #[.slice a n c, .int .i64 0, .int .u64 0]) w := by
  kernel_rfl
theorem bld98 {v : Value} {n : Nat} (h : isSl v n) (w : World) : (Instr.build 127 #[(0, v)]).run Try.prog w = .ok (.agg #[v, .int .i64 0, .int .u64 0]) w := by
  obtain ⟨a, c, rfl, _⟩ := h
  exact bld98a a n c w
theorem c_spec_l00From (w : World) (vc : Value) (cs : List UInt8) (hcs : Rd (rdL rU) w.heap vc cs)  :
  Calls Try.prog 42 #[vc] w (fun e w' => ∃ g : Nat,e = .returned (.pointer (some ⟨g,0,none⟩)) ∧ Ext w w' ∧ Src w'.heap g vc cs 0 ∧ w.heap.size ≤ g) := by
 refine calls_mk [vc] 6 Try.func42 rfl rfl sM ?_
 have hE0 : Ext w w := Ext.refl w
 have hl_vc := hcs.lenle
 refine wp_seq (wp_plain _ [0] rfl (lw_tvn 1 rfl (wp_seq (wp_plain _ [0,0,3,0] rfl (lw_tv 1 rfl (q_build (ps := #[(0,vc)]) (.agg #[vc,.int .i64 0,.int .u64 0]) (by simp only [List.map_toArray,List.map_cons,List.map_nil]; rfl) (fun wq => bld98 hcs.isSl wq) zN (r_boxA rfl zN fun w1 hX1 hz1 hB1 => ?_)))))))
 have hzs1:=hX1.size
 have hE1:=hE0.trans hX1
 have hs1 := Src.new hcs hE1 hB1 hE0.size
 exact lw_tvn 1 rfl (wp_ret (post_ret [2] rfl (.pointer (some ⟨w.heap.size,0,none⟩)) rfl ⟨w.heap.size,rfl,hE1,hs1,hE0.size⟩))
end Go.Proofs.Ytnofbmdpabcjaaa
namespace Go.Proofs.Ytnofbmdpabcjaaa
open Go Go.RowKit
set_option linter.unusedVariables false
set_option linter.unusedSimpArgs false
set_option maxHeartbeats 4000000
set_option maxRecDepth 100000
attribute [local irreducible] LW
theorem z119_0 {p : Prop} (h : p := by intro u hu; simp only [List.mem_cons, List.not_mem_nil, or_false] at hu; rcases hu with rfl | rfl | rfl | rfl | rfl <;> first | exact ⟨rfl, rfl⟩) : p := h
theorem z119_1 {p : Prop} (h : p := by simp only [List.map_toArray, List.map_cons, List.map_nil]; rfl) : p := h
theorem z119_2 {p : Prop} (h : p := by first | exact LOk.var oM | exact LOk.num oM) : p := h
theorem c_spec_l02Gen_leaf (w : World) (gg gs : Nat) (sv : Value) (cs : List UInt8) (n0 : Nat) (pp : Value) (dp : Nat) (l0 : Int) (pl : Bool) (p : List Fn) (vars : Int) (hgg : gs < gg) (hs : Src w.heap gs sv cs n0) (hB0 : BX w.heap gg [.pointer (some ⟨gs, 0, none⟩), pp, .int .i64 l0, .bool pl]) (hp : RN [gs, gg] (rP (rPr dp)) w.heap pp p) (_hvars : -9223372036854775808 ≤ vars ∧ vars ≤ 9223372036854775807) (hv : 0 ≤ vars ∧ vars ≤ 1000) (hn : n0 + 20 ≤ 1000000000000) :
    Calls Try.prog 119 #[.pointer (some ⟨gg, 0, none⟩), .int .i64 vars] w (fun e w' => ∃ (ex : Ex) (n1 : Nat), e = .returned (.agg #[.int .i64 ex.kind, .int .i64 ex.num, .int .i64 ex.pick, .int .i64 ex.count, .slice none 0 0]) ∧ Chg [gs, gg] w w' ∧ Src w'.heap gs sv cs n1 ∧ (n0 ≤ n1 ∧ n1 ≤ n0 + 20) ∧ BX w'.heap gg [.pointer (some ⟨gs, 0, none⟩), pp, .int .i64 l0, .bool pl] ∧ exR ex ∧ ex.kids = [] ∧ LOk p vars ex) := by
  refine calls_mk [.pointer (some ⟨gg, 0, none⟩), .int .i64 vars] 28 Try.func119 rfl rfl sM ?_
  have hE0 : Chg [gs, gg] w w := Chg.refl [gs, gg] w
  have hgl := hs.lt
  have hgl2 := hB0.lt
  refine wp_seq (wp_plain _ [3] rfl ?_)
  have hq2 := hB0.lt
  refine r_allocA (z := .agg #[.int .i64 0, .int .i64 0, .int .i64 0, .int .i64 0, .slice none 0 0]) zr31 zN fun w1 hX1 hz1 hB1 => ?_
  have hzs1 : w.heap.size ≤ w1.heap.size := hX1.size
  have hE1 : Chg [gs, gg] w w1 := hE0.ext hX1
  have hsx1 := hs.ext hX1
  have hB0x1 := hB0.ext hX1
  replace hB1 : BX w1.heap w.heap.size [(.int .i64 0), (.int .i64 0), (.int .i64 0), (.int .i64 0), (.slice none 0 0)] := hB1
  refine lw_nil (wp_seq (wp_seq (wp_plain _ [0, 0, 0, 0, 0, 0, 2, 4, 0, 0] rfl (lw_tv 1 rfl ?_))))
  by_cases hc3 : ((0 : Nat) : Int) < vars
  ·
    refine q_gtr true rfl rfl (decide_eq_true hc3) zN (lw_tv 2 rfl (q_nil rfl (zS (e := 7) rfl rfl rfl) (q_fldP (p := (.pointer (some ⟨gg, 0, none⟩))) (b := gg) (o := 0) 0 fd106_0 rfl rfl (zS (e := 7) rfl rfl rfl) (q_load (p := (padd (.pointer (some ⟨gg, 0, none⟩)) 0)) (.inr rfl) (.pointer (some ⟨gs, 0, none⟩)) one76 rfl (hB0x1.ldp (i := 0) sM) (zS (e := 7) rfl rfl rfl) ?_))))
    refine lw_callE 45 [] [] [(.pointer (some ⟨gs, 0, none⟩)), (.int .i64 ((4 : Nat) : Int))] rfl rfl cf45 (zS (e := 7) rfl rfl rfl) (c_spec_l00Src_one _ gs _ _ _ (((4 : Nat) : Int)) hsx1 oM oM sD) ?_
    rintro e4 w4 ⟨x4_0, n4, rfl, hC4, hs4, hb4, hp4_0⟩
    refine ⟨_, rfl, ?_⟩
    have hzs4 : w1.heap.size ≤ w4.heap.size := hC4.size
    have hE4 : Chg [gs, gg] w w4 := hE1.trans (hC4.sub sub_gs)
    have hF5 := hB0x1.chg hC4 (fun hm => by have := List.mem_singleton.1 hm; omega)
    have hF6 := hB1.chg hC4 (fun hm => by have := List.mem_singleton.1 hm; omega)
    refine q_not (!x4_0) rfl rfl (zS (e := 7) rfl rfl rfl) (lw_tvn 1 rfl ?_)
    cases hb7 : (!x4_0)
    ·
      refine c_cond_f (by first | rfl | (show Value.bool _ = _; rw [hb7])) (wp_skip (wp_seq (wp_plain _ [0, 0, 0, 2, 4, 0, 4] rfl (lw_tv 1 rfl (q_nil rfl zN (q_fldP (p := (.pointer (some ⟨gg, 0, none⟩))) (b := gg) (o := 0) 0 fd106_0 rfl rfl zN (q_load (p := (padd (.pointer (some ⟨gg, 0, none⟩)) 0)) (.inr rfl) (.pointer (some ⟨gs, 0, none⟩)) one76 rfl (hF5.ldp (i := 0) sM) zN (lw_callE 94 [] [] [(.pointer (some ⟨gs, 0, none⟩))] rfl rfl cf94 zN (c_spec_l01Any _ gs _ _ _ hs4 oM) ?_))))))))
      rintro e8 w8 ⟨x8_0, n8, rfl, hC8, hs8, hb8, hp8_0⟩
      refine ⟨_, rfl, ?_⟩
      have hzs8 : w4.heap.size ≤ w8.heap.size := hC8.size
      have hE8 : Chg [gs, gg] w w8 := hE4.trans (hC8.sub sub_gs)
      have hF9 := hF5.chg hC8 (fun hm => by have := List.mem_singleton.1 hm; omega)
      have hF10 := hF6.chg hC8 (fun hm => by have := List.mem_singleton.1 hm; omega)
      have hbd11 : ∀ (wq : World), (Instr.build 31 #[(0, (.int .i64 ((1 : Nat) : Int))), (1, (.int .i64 x8_0))]).run Try.prog wq = .ok (.agg #[(.int .i64 ((1 : Nat) : Int)), (.int .i64 x8_0), (.int .i64 0), (.int .i64 0), (.slice none 0 0)]) wq := by intro wq; kernel_rfl
      refine q_build (ps := #[(0, (.int .i64 ((1 : Nat) : Int))), (1, (.int .i64 x8_0))]) (.agg #[(.int .i64 ((1 : Nat) : Int)), (.int .i64 x8_0), (.int .i64 0), (.int .i64 0), (.slice none 0 0)]) z119_1 (fun wq => hbd11  wq) zN (e_setA (vs := [(.int .i64 ((1 : Nat) : Int)), (.int .i64 x8_0), (.int .i64 0), (.int .i64 0), (.slice none 0 0)]) agg31 rfl rfl z119_0 hF10 rfl rfl zN fun w12 hC12 hz12 hB12 => ?_)
      replace hB12 : BX w12.heap w.heap.size [(.int .i64 ((1 : Nat) : Int)), (.int .i64 x8_0), (.int .i64 0), (.int .i64 0), (.slice none 0 0)] := hB12
      have hzs12 : w8.heap.size ≤ w12.heap.size := hC12.size
      have hE12 : Chg [gs, gg] w w12 := hE8.fresh hC12 (fun c hc => by have := List.mem_singleton.1 hc; omega)
      have hF13 := hs8.chg hC12 (fun c hc => by have := List.mem_singleton.1 hc; omega)
      have hF14 := hF9.chg hC12 (fun hm => by have := List.mem_singleton.1 hm; omega)
      exact lw_nil (wp_ret (post_retA (cs := [(.int .i64 ((1 : Nat) : Int)), (.int .i64 x8_0), (.int .i64 0), (.int .i64 0), (.slice none 0 0)]) rfl agg31 rfl hB12 rfl ⟨(.mk ((1 : Nat) : Int) x8_0 0 0 []), n8, rfl, hE12, hF13, ⟨by omega, by omega⟩, hF14, (exR_mk oM oM oM oM), rfl, z119_2⟩))
    ·
      refine c_cond_t (by first | rfl | (show Value.bool _ = _; rw [hb7])) (wp_seq (wp_plain _ [0, 0, 0, 2, 0, 4, 0, 4] rfl (lw_tv 1 rfl (q_nil rfl zN (q_fldP (p := (.pointer (some ⟨gg, 0, none⟩))) (b := gg) (o := 0) 0 fd106_0 rfl rfl zN (q_load (p := (padd (.pointer (some ⟨gg, 0, none⟩)) 0)) (.inr rfl) (.pointer (some ⟨gs, 0, none⟩)) one76 rfl (hF5.ldp (i := 0) sM) zN (lw_tv 1 rfl ?_)))))))
      refine lw_callE 43 [] [] [(.pointer (some ⟨gs, 0, none⟩)), (.int .i64 vars)] rfl rfl cf43 zN (c_spec_l00Src_pick _ gs _ _ _ (vars) hs4 oM _hvars sD) ?_
      rintro e15 w15 ⟨x15_0, n15, rfl, hC15, hs15, hb15, hp15_0⟩
      refine ⟨_, rfl, ?_⟩
      have hzs15 : w4.heap.size ≤ w15.heap.size := hC15.size
      have hE15 : Chg [gs, gg] w w15 := hE4.trans (hC15.sub sub_gs)
      have hF16 := hF5.chg hC15 (fun hm => by have := List.mem_singleton.1 hm; omega)
      have hF17 := hF6.chg hC15 (fun hm => by have := List.mem_singleton.1 hm; omega)
      have hbd18 : ∀ (wq : World), (Instr.build 31 #[(0, (.int .i64 ((2 : Nat) : Int))), (1, (.int .i64 x15_0))]).run Try.prog wq = .ok (.agg #[(.int .i64 ((2 : Nat) : Int)), (.int .i64 x15_0), (.int .i64 0), (.int .i64 0), (.slice none 0 0)]) wq := by intro wq; kernel_rfl
      refine q_build (ps := #[(0, (.int .i64 ((2 : Nat) : Int))), (1, (.int .i64 x15_0))]) (.agg #[(.int .i64 ((2 : Nat) : Int)), (.int .i64 x15_0), (.int .i64 0), (.int .i64 0), (.slice none 0 0)]) z119_1 (fun wq => hbd18  wq) zN (e_setA (vs := [(.int .i64 ((2 : Nat) : Int)), (.int .i64 x15_0), (.int .i64 0), (.int .i64 0), (.slice none 0 0)]) agg31 rfl rfl z119_0 hF17 rfl rfl zN fun w19 hC19 hz19 hB19 => ?_)
      replace hB19 : BX w19.heap w.heap.size [(.int .i64 ((2 : Nat) : Int)), (.int .i64 x15_0), (.int .i64 0), (.int .i64 0), (.slice none 0 0)] := hB19
      have hzs19 : w15.heap.size ≤ w19.heap.size := hC19.size
      have hE19 : Chg [gs, gg] w w19 := hE15.fresh hC19 (fun c hc => by have := List.mem_singleton.1 hc; omega)
      have hF20 := hs15.chg hC19 (fun c hc => by have := List.mem_singleton.1 hc; omega)
      have hF21 := hF16.chg hC19 (fun hm => by have := List.mem_singleton.1 hm; omega)
      exact lw_nil (wp_ret (t_ret (post_retA (cs := [(.int .i64 ((2 : Nat) : Int)), (.int .i64 x15_0), (.int .i64 0), (.int .i64 0), (.slice none 0 0)]) rfl agg31 rfl hB19 rfl ⟨(.mk ((2 : Nat) : Int) x15_0 0 0 []), n15, rfl, hE19, hF20, ⟨by omega, by omega⟩, hF21, (exR_mk oM oM oM oM), rfl, z119_2⟩)))
  ·
    refine q_gtr false rfl rfl (decide_eq_false hc3) zN (lw_tvn 8 rfl (c_cond_f rfl (wp_skip (wp_seq (wp_plain _ [0, 0, 0, 2, 4, 0, 4] rfl (lw_tv 1 rfl (q_nil rfl zN (q_fldP (p := (.pointer (some ⟨gg, 0, none⟩))) (b := gg) (o := 0) 0 fd106_0 rfl rfl zN (q_load (p := (padd (.pointer (some ⟨gg, 0, none⟩)) 0)) (.inr rfl) (.pointer (some ⟨gs, 0, none⟩)) one76 rfl (hB0x1.ldp (i := 0) sM) zN (lw_callE 94 [] [] [(.pointer (some ⟨gs, 0, none⟩))] rfl rfl cf94 zN (c_spec_l01Any _ gs _ _ _ hsx1 oM) ?_))))))))))
    rintro e22 w22 ⟨x22_0, n22, rfl, hC22, hs22, hb22, hp22_0⟩
    refine ⟨_, rfl, ?_⟩
    have hzs22 : w1.heap.size ≤ w22.heap.size := hC22.size
    have hE22 : Chg [gs, gg] w w22 := hE1.trans (hC22.sub sub_gs)
    have hF23 := hB0x1.chg hC22 (fun hm => by have := List.mem_singleton.1 hm; omega)
    have hF24 := hB1.chg hC22 (fun hm => by have := List.mem_singleton.1 hm; omega)
    have hbd25 : ∀ (wq : World), (Instr.build 31 #[(0, (.int .i64 ((1 : Nat) : Int))), (1, (.int .i64 x22_0))]).run Try.prog wq = .ok (.agg #[(.int .i64 ((1 : Nat) : Int)), (.int .i64 x22_0), (.int .i64 0), (.int .i64 0), (.slice none 0 0)]) wq := by intro wq; kernel_rfl
    refine q_build (ps := #[(0, (.int .i64 ((1 : Nat) : Int))), (1, (.int .i64 x22_0))]) (.agg #[(.int .i64 ((1 : Nat) : Int)), (.int .i64 x22_0), (.int .i64 0), (.int .i64 0), (.slice none 0 0)]) z119_1 (fun wq => hbd25  wq) zN (e_setA (vs := [(.int .i64 ((1 : Nat) : Int)), (.int .i64 x22_0), (.int .i64 0), (.int .i64 0), (.slice none 0 0)]) agg31 rfl rfl z119_0 hF24 rfl rfl zN fun w26 hC26 hz26 hB26 => ?_)
    replace hB26 : BX w26.heap w.heap.size [(.int .i64 ((1 : Nat) : Int)), (.int .i64 x22_0), (.int .i64 0), (.int .i64 0), (.slice none 0 0)] := hB26
    have hzs26 : w22.heap.size ≤ w26.heap.size := hC26.size
    have hE26 : Chg [gs, gg] w w26 := hE22.fresh hC26 (fun c hc => by have := List.mem_singleton.1 hc; omega)
    have hF27 := hs22.chg hC26 (fun c hc => by have := List.mem_singleton.1 hc; omega)
    have hF28 := hF23.chg hC26 (fun hm => by have := List.mem_singleton.1 hm; omega)
    exact lw_nil (wp_ret (post_retA (cs := [(.int .i64 ((1 : Nat) : Int)), (.int .i64 x22_0), (.int .i64 0), (.int .i64 0), (.slice none 0 0)]) rfl agg31 rfl hB26 rfl ⟨(.mk ((1 : Nat) : Int) x22_0 0 0 []), n22, rfl, hE26, hF27, ⟨by omega, by omega⟩, hF28, (exR_mk oM oM oM oM), rfl, z119_2⟩))
theorem y121_0 {p : Prop} (h : p := by first | (rw [kn_0 oM]; rfl) | (rw [kn_2 oM]; rfl) | (rw [kn_1 oM]; rfl) | (rw [kn_3 oM]; rfl) | (rw [kn_m (by assumption) (by assumption) (by assumption) (by assumption) (by assumption) (by assumption) (by assumption) (by assumption) (by assumption)])) : p := h
theorem c_kn (w : World) (k : Int) (_hk : -9223372036854775808 ≤ k ∧ k ≤ 9223372036854775807)  :
    Calls Try.prog 121 #[.int .i64 k] w (fun e w' => e = .returned (.int .i64 (kn k)) ∧ w' = w) := by
  refine calls_mk [.int .i64 k] 17 Try.func121 rfl rfl sM ?_
  have hE0 : w = w := rfl
  refine wp_seq (wp_plain _ [0] rfl (lw_tvn 1 rfl (wp_seq (wp_seq (wp_plain _ [0] rfl (lw_tvn 1 rfl (wp_block (wp_seq (wp_seq (wp_plain _ [0, 0] rfl ?_))))))))))
  by_cases hc1 : k = ((1 : Nat) : Int)
  ·
    exact q_eql true rfl rfl (decide_eq_true hc1) zN (lw_tvn 1 rfl (c_cond_t rfl (wp_skip (c_cond_t rfl (wp_seq (wp_plain _ [0] rfl (lw_tvn 1 rfl (wp_ret (b_ret (t_ret (post_ret [2] rfl (.int .i64 ((0 : Nat) : Int)) rfl ⟨y121_0, hE0⟩)))))))))))
  ·
    refine q_eql false rfl rfl (decide_eq_false hc1) zN (lw_tvn 1 rfl (c_cond_f rfl (wp_plain _ [0, 0] rfl ?_)))
    by_cases hc2 : k = ((2 : Nat) : Int)
    ·
      exact q_eql true rfl rfl (decide_eq_true hc2) zN (lw_tvn 1 rfl (c_cond_t rfl (wp_seq (wp_plain _ [0] rfl (lw_tvn 1 rfl (wp_ret (b_ret (t_ret (post_ret [2] rfl (.int .i64 ((0 : Nat) : Int)) rfl ⟨y121_0, hE0⟩)))))))))
    ·
      refine q_eql false rfl rfl (decide_eq_false hc2) zN (lw_tvn 1 rfl (c_cond_f rfl (wp_seq (wp_seq (wp_plain _ [0, 0] rfl ?_)))))
      by_cases hc3 : k = ((3 : Nat) : Int)
      ·
        exact q_eql true rfl rfl (decide_eq_true hc3) zN (lw_tvn 1 rfl (c_cond_t rfl (wp_skip (c_cond_t rfl (wp_seq (wp_plain _ [0] rfl (lw_tvn 1 rfl (wp_ret (b_ret (t_ret (post_ret [2] rfl (.int .i64 ((2 : Nat) : Int)) rfl ⟨y121_0, hE0⟩)))))))))))
      ·
        refine q_eql false rfl rfl (decide_eq_false hc3) zN (lw_tvn 1 rfl (c_cond_f rfl (wp_seq (wp_plain _ [0, 0] rfl ?_))))
        by_cases hc4 : k = ((4 : Nat) : Int)
        ·
          exact q_eql true rfl rfl (decide_eq_true hc4) zN (lw_tvn 1 rfl (c_cond_t rfl (wp_skip (c_cond_t rfl (wp_seq (wp_plain _ [0] rfl (lw_tvn 1 rfl (wp_ret (b_ret (t_ret (post_ret [2] rfl (.int .i64 ((2 : Nat) : Int)) rfl ⟨y121_0, hE0⟩)))))))))))
        ·
          refine q_eql false rfl rfl (decide_eq_false hc4) zN (lw_tvn 1 rfl (c_cond_f rfl (wp_seq (wp_plain _ [0, 0] rfl ?_))))
          by_cases hc5 : k = ((5 : Nat) : Int)
          ·
            exact q_eql true rfl rfl (decide_eq_true hc5) zN (lw_tvn 1 rfl (c_cond_t rfl (wp_skip (c_cond_t rfl (wp_seq (wp_plain _ [0] rfl (lw_tvn 1 rfl (wp_ret (b_ret (t_ret (post_ret [2] rfl (.int .i64 ((2 : Nat) : Int)) rfl ⟨y121_0, hE0⟩)))))))))))
          ·
            refine q_eql false rfl rfl (decide_eq_false hc5) zN (lw_tvn 1 rfl (c_cond_f rfl (wp_seq (wp_plain _ [0, 0] rfl ?_))))
            by_cases hc6 : k = ((6 : Nat) : Int)
            ·
              exact q_eql true rfl rfl (decide_eq_true hc6) zN (lw_tvn 1 rfl (c_cond_t rfl (wp_skip (c_cond_t rfl (wp_seq (wp_plain _ [0] rfl (lw_tvn 1 rfl (wp_ret (b_ret (t_ret (post_ret [2] rfl (.int .i64 ((2 : Nat) : Int)) rfl ⟨y121_0, hE0⟩)))))))))))
            ·
              refine q_eql false rfl rfl (decide_eq_false hc6) zN (lw_tvn 1 rfl (c_cond_f rfl (wp_plain _ [0, 0] rfl ?_)))
              by_cases hc7 : k = ((9 : Nat) : Int)
              ·
                exact q_eql true rfl rfl (decide_eq_true hc7) zN (lw_tvn 1 rfl (c_cond_t rfl (wp_seq (wp_plain _ [0] rfl (lw_tvn 1 rfl (wp_ret (b_ret (t_ret (post_ret [2] rfl (.int .i64 ((2 : Nat) : Int)) rfl ⟨y121_0, hE0⟩)))))))))
              ·
                refine q_eql false rfl rfl (decide_eq_false hc7) zN (lw_tvn 1 rfl (c_cond_f rfl (wp_seq (wp_plain _ [0, 0] rfl ?_))))
                by_cases hc8 : k = ((7 : Nat) : Int)
                ·
                  exact q_eql true rfl rfl (decide_eq_true hc8) zN (lw_tvn 1 rfl (c_cond_t rfl (wp_seq (wp_plain _ [0] rfl (lw_tvn 1 rfl (wp_ret (b_ret (t_ret (post_ret [2] rfl (.int .i64 ((1 : Nat) : Int)) rfl ⟨y121_0, hE0⟩)))))))))
                ·
                  refine q_eql false rfl rfl (decide_eq_false hc8) zN (lw_tvn 1 rfl (c_cond_f rfl (wp_seq (wp_plain _ [0, 0] rfl ?_))))
                  by_cases hc9 : k = ((8 : Nat) : Int)
                  ·
                    exact q_eql true rfl rfl (decide_eq_true hc9) zN (lw_tvn 1 rfl (c_cond_t rfl (wp_seq (wp_plain _ [0] rfl (lw_tvn 1 rfl (wp_ret (b_ret (t_ret (post_ret [2] rfl (.int .i64 ((3 : Nat) : Int)) rfl ⟨y121_0, hE0⟩)))))))))
                  ·
                    exact q_eql false rfl rfl (decide_eq_false hc9) zN (lw_tvn 1 rfl (c_cond_f rfl (wp_skip (wp_seq (wp_plain _ [0] rfl (lw_tvn 1 rfl (wp_ret (post_ret [2] rfl (.int .i64 (-1)) rfl ⟨y121_0, hE0⟩))))))))
def GX (d : Nat) : Prop := ∀ (w : World) (gg gs : Nat) (sv : Value) (cs : List UInt8) (n0 : Nat) (pp : Value) (dp : Nat) (l0 : Int) (pl : Bool) (p : List Fn) (vars funcs : Int) (hgg : gs < gg) (hs : Src w.heap gs sv cs n0) (hB0 : BX w.heap gg [.pointer (some ⟨gs, 0, none⟩), pp, .int .i64 l0, .bool pl]) (hp : RN [gs, gg] (rP (rPr dp)) w.heap pp p) (_hvars : -9223372036854775808 ≤ vars ∧ vars ≤ 9223372036854775807) (_hfuncs : -9223372036854775808 ≤ funcs ∧ funcs ≤ 9223372036854775807) (hv : 0 ≤ vars ∧ vars + ((d : Nat) : Int) ≤ 1000) (hfu : 0 ≤ funcs ∧ funcs ≤ ((p.length : Nat) : Int)) (hpr : GPr p) (hd : d ≤ 8) (hn : n0 + stp d ≤ 1000000000000) (hl : nds d - 1000000 ≤ l0 ∧ l0 ≤ 1000), Calls Try.prog 76 #[.pointer (some ⟨gg, 0, none⟩), .int .i64 vars, .int .i64 funcs, .int .i64 ((d : Nat) : Int)] w (fun e w' => ∃ (v : Value) (ex : Ex) (n1 : Nat) (l1 : Int), e = .returned (.agg #[.int .i64 ex.kind, .int .i64 ex.num, .int .i64 ex.pick, .int .i64 ex.count, v]) ∧ Chg [gs, gg] w w' ∧ Src w'.heap gs sv cs n1 ∧ (n0 ≤ n1 ∧ n1 ≤ n0 + (stp d)) ∧ BX w'.heap gg [.pointer (some ⟨gs, 0, none⟩), pp, .int .i64 l1, .bool pl] ∧ Fr (owS 5 (oEx 31 d) 31) w.heap.size w'.heap.size w'.heap v ex.kids ∧ exR ex ∧ GOk p funcs vars pl d l0 l1 ex)
def GC (d : Nat) : Prop := ∀ (w : World) (gg gs : Nat) (sv : Value) (cs : List UInt8) (n0 : Nat) (pp : Value) (dp : Nat) (l0 : Int) (pl : Bool) (p : List Fn) (vars funcs : Int) (hgg : gs < gg) (hs : Src w.heap gs sv cs n0) (hB0 : BX w.heap gg [.pointer (some ⟨gs, 0, none⟩), pp, .int .i64 l0, .bool pl]) (hp : RN [gs, gg] (rP (rPr dp)) w.heap pp p) (_hvars : -9223372036854775808 ≤ vars ∧ vars ≤ 9223372036854775807) (_hfuncs : -9223372036854775808 ≤ funcs ∧ funcs ≤ 9223372036854775807) (hv : 0 ≤ vars ∧ vars + ((d : Nat) : Int) ≤ 1000) (hfu : 0 ≤ funcs ∧ funcs ≤ ((p.length : Nat) : Int)) (hpr : GPr p) (hd : 1 ≤ d ∧ d ≤ 8) (hn : n0 + (20 + 4 * stp (d - 1)) ≤ 1000000000000) (hl : 1 ≤ l0 ∧ l0 ≤ 1000), Calls Try.prog 120 #[.pointer (some ⟨gg, 0, none⟩), .int .i64 vars, .int .i64 funcs, .int .i64 ((d : Nat) : Int)] w (fun e w' => ∃ (v : Value) (ex : Ex) (n1 : Nat) (l1 : Int), e = .returned (.agg #[.int .i64 ex.kind, .int .i64 ex.num, .int .i64 ex.pick, .int .i64 ex.count, v]) ∧ Chg [gs, gg] w w' ∧ Src w'.heap gs sv cs n1 ∧ (n0 ≤ n1 ∧ n1 ≤ n0 + (20 + 4 * stp (d - 1))) ∧ BX w'.heap gg [.pointer (some ⟨gs, 0, none⟩), pp, .int .i64 l1, .bool pl] ∧ Fr (owS 5 (oEx 31 d) 31) w.heap.size w'.heap.size w'.heap v ex.kids ∧ exR ex ∧ GOk p funcs vars pl d (l0 + 1) l1 ex)
theorem z120_0 {p : Prop} (h : p := by intro u hu; simp only [List.mem_cons, List.not_mem_nil, or_false] at hu; rcases hu with rfl | rfl | rfl | rfl | rfl <;> first | exact ⟨rfl, rfl⟩) : p := h
theorem c_spec_l02Gen_call (w : World) (gg gs : Nat) (sv : Value) (cs : List UInt8) (n0 : Nat) (pp : Value) (dp : Nat) (l0 : Int) (pl : Bool) (p : List Fn) (vars : Int) (funcs : Int) (d : Nat) (hgg : gs < gg) (hs : Src w.heap gs sv cs n0) (hB0 : BX w.heap gg [.pointer (some ⟨gs, 0, none⟩), pp, .int .i64 l0, .bool pl]) (hp : RN [gs, gg] (rP (rPr dp)) w.heap pp p) (_hvars : -9223372036854775808 ≤ vars ∧ vars ≤ 9223372036854775807) (_hfuncs : -9223372036854775808 ≤ funcs ∧ funcs ≤ 9223372036854775807) (hv : 0 ≤ vars ∧ vars + ((d : Nat) : Int) ≤ 1000) (hfu : 0 ≤ funcs ∧ funcs ≤ ((p.length : Nat) : Int)) (hpr : GPr p) (hd : 1 ≤ d ∧ d ≤ 8) (hn : n0 + (20 + 4 * stp (d - 1)) ≤ 1000000000000) (hl : 1 ≤ l0 ∧ l0 ≤ 1000) (IH : GX (d - 1)) :
    Calls Try.prog 120 #[.pointer (some ⟨gg, 0, none⟩), .int .i64 vars, .int .i64 funcs, .int .i64 ((d : Nat) : Int)] w (fun e w' => ∃ (v : Value) (ex : Ex) (n1 : Nat) (l1 : Int), e = .returned (.agg #[.int .i64 ex.kind, .int .i64 ex.num, .int .i64 ex.pick, .int .i64 ex.count, v]) ∧ Chg [gs, gg] w w' ∧ Src w'.heap gs sv cs n1 ∧ (n0 ≤ n1 ∧ n1 ≤ n0 + (20 + 4 * stp (d - 1))) ∧ BX w'.heap gg [.pointer (some ⟨gs, 0, none⟩), pp, .int .i64 l1, .bool pl] ∧ Fr (owS 5 (oEx 31 d) 31) w.heap.size w'.heap.size w'.heap v ex.kids ∧ exR ex ∧ GOk p funcs vars pl d (l0 + 1) l1 ex) := by
  refine calls_mk [.pointer (some ⟨gg, 0, none⟩), .int .i64 vars, .int .i64 funcs, .int .i64 ((d : Nat) : Int)] 89 Try.func120 rfl rfl sM ?_
  have hE0 : Chg [gs, gg] w w := Chg.refl [gs, gg] w
  have hgl := hs.lt
  have hgl2 := hB0.lt
  have hst := stp_20 (d - 1)
  have hnd := nds_pos (d - 1)
  have hnl := nds_le (d := d - 1) oM
  have hpl := hpr.len
  refine wp_seq (wp_plain _ [3] rfl ?_)
  have hq2 := hB0.lt
  refine r_allocA (z := .agg #[.int .i64 0, .int .i64 0, .int .i64 0, .int .i64 0, .slice none 0 0]) zr31 zN fun w1 hX1 hz1 hB1 => ?_
  have hzs1 : w.heap.size ≤ w1.heap.size := hX1.size
  have hE1 : Chg [gs, gg] w w1 := hE0.ext hX1
  have hsx1 := hs.ext hX1
  have hB0x1 := hB0.ext hX1
  replace hB1 : BX w1.heap w.heap.size [(.int .i64 0), (.int .i64 0), (.int .i64 0), (.int .i64 0), (.slice none 0 0)] := hB1
  refine lw_nil (wp_seq (wp_seq (wp_plain _ [0, 0] rfl (lw_tv 1 rfl ?_))))
  by_cases hc3 : funcs = ((0 : Nat) : Int)
  ·
    refine q_eql true rfl rfl (decide_eq_true hc3) zN (lw_nil (c_cond_t rfl (wp_seq (wp_plain _ [0, 0, 4, 4] rfl (lw_tv 2 rfl (lw_callE 119 [] [] [(.pointer (some ⟨gg, 0, none⟩)), (.int .i64 vars)] rfl rfl cf119 zN (c_spec_l02Gen_leaf _ gg gs sv cs n0 pp dp l0 pl p (vars) oM hsx1 hB0x1 (hp.chg (good_rP (good_rPr dp)) hE1) _hvars oM oM) ?_))))))
    rintro e4 w4 ⟨x4, n4, rfl, hC4, hs4, hb4, hB4, hr4, hkd4, hG4⟩
    refine ⟨_, rfl, ?_⟩
    have hzs4 : w1.heap.size ≤ w4.heap.size := hC4.size
    have hE4 : Chg [gs, gg] w w4 := hE1.trans hC4
    have hF5 := hB1.chg hC4 (fun hm => by have := mem2 hm; omega)
    refine e_setA (vs := [(.int .i64 x4.kind), (.int .i64 x4.num), (.int .i64 x4.pick), (.int .i64 x4.count), (.slice none 0 0)]) agg31 rfl rfl z120_0 hF5 rfl rfl zN fun w6 hC6 hz6 hB6 => ?_
    replace hB6 : BX w6.heap w.heap.size [(.int .i64 x4.kind), (.int .i64 x4.num), (.int .i64 x4.pick), (.int .i64 x4.count), (.slice none 0 0)] := hB6
    have hzs6 : w4.heap.size ≤ w6.heap.size := hC6.size
    have hE6 : Chg [gs, gg] w w6 := hE4.fresh hC6 (fun c hc => by have := List.mem_singleton.1 hc; omega)
    have hF7 := hs4.chg hC6 (fun c hc => by have := List.mem_singleton.1 hc; omega)
    have hF8 := hB4.chg hC6 (fun hm => by have := List.mem_singleton.1 hm; omega)
    exact lw_nil (wp_ret (t_ret (post_retA (cs := [(.int .i64 x4.kind), (.int .i64 x4.num), (.int .i64 x4.pick), (.int .i64 x4.count), (.slice none 0 0)]) rfl agg31 rfl hB6 rfl ⟨(.slice none 0 0), x4, n4, l0, rfl, hE6, hF7, ⟨by omega, by omega⟩, hF8, (by rw [hkd4]; exact frNilS _ _ _), hr4, (by exact LOk.okc (by assumption) d)⟩)))
  ·
    refine q_eql false rfl rfl (decide_eq_false hc3) zN (lw_nil (c_cond_f rfl (wp_skip (wp_seq (wp_plain _ [0, 0, 0, 2, 0, 4, 0, 3, 4] rfl (lw_tv 1 rfl (q_nil rfl zN (q_fldP (p := (.pointer (some ⟨gg, 0, none⟩))) (b := gg) (o := 0) 0 fd106_0 rfl rfl zN (q_load (p := (padd (.pointer (some ⟨gg, 0, none⟩)) 0)) (.inr rfl) (.pointer (some ⟨gs, 0, none⟩)) one76 rfl (hB0x1.ldp (i := 0) sM) zN (lw_tv 1 rfl ?_))))))))))
    refine lw_callE 43 [] [] [(.pointer (some ⟨gs, 0, none⟩)), (.int .i64 funcs)] rfl rfl cf43 zN (c_spec_l00Src_pick _ gs _ _ _ (funcs) hsx1 oM _hfuncs sD) ?_
    rintro e9 w9 ⟨x9_0, n9, rfl, hC9, hs9, hb9, hp9_0⟩
    refine ⟨_, rfl, ?_⟩
    have hzs9 : w1.heap.size ≤ w9.heap.size := hC9.size
    have hE9 : Chg [gs, gg] w w9 := hE1.trans (hC9.sub sub_gs)
    have hF10 := hB0x1.chg hC9 (fun hm => by have := List.mem_singleton.1 hm; omega)
    have hF11 := hB1.chg hC9 (fun hm => by have := List.mem_singleton.1 hm; omega)
    have hbd12 : ∀ (wq : World), (Instr.build 31 #[(0, (.int .i64 ((10 : Nat) : Int))), (1, (.int .i64 x9_0))]).run Try.prog wq = .ok (.agg #[(.int .i64 ((10 : Nat) : Int)), (.int .i64 x9_0), (.int .i64 0), (.int .i64 0), (.slice none 0 0)]) wq := by intro wq; kernel_rfl
    refine q_build (ps := #[(0, (.int .i64 ((10 : Nat) : Int))), (1, (.int .i64 x9_0))]) (.agg #[(.int .i64 ((10 : Nat) : Int)), (.int .i64 x9_0), (.int .i64 0), (.int .i64 0), (.slice none 0 0)]) (by simp only [List.map_toArray, List.map_cons, List.map_nil]; rfl) (fun wq => hbd12  wq) zN ?_
    have hq14 := hF10.lt
    have hq15 := hF11.lt
    refine r_allocA (z := .agg #[.int .i64 0, .int .i64 0, .int .i64 0, .int .i64 0, .slice none 0 0]) zr31 zN fun w13 hX13 hz13 hB13 => ?_
    have hzs13 : w9.heap.size ≤ w13.heap.size := hX13.size
    have hE13 : Chg [gs, gg] w w13 := hE9.ext hX13
    have hs9x13 := hs9.ext hX13
    have hF10x13 := hF10.ext hX13
    have hF11x13 := hF11.ext hX13
    replace hB13 : BX w13.heap w9.heap.size [(.int .i64 0), (.int .i64 0), (.int .i64 0), (.int .i64 0), (.slice none 0 0)] := hB13
    refine e_setA (vs := [(.int .i64 ((10 : Nat) : Int)), (.int .i64 x9_0), (.int .i64 0), (.int .i64 0), (.slice none 0 0)]) agg31 rfl rfl z120_0 hB13 rfl rfl zN fun w16 hC16 hz16 hB16 => ?_
    replace hB16 : BX w16.heap w9.heap.size [(.int .i64 ((10 : Nat) : Int)), (.int .i64 x9_0), (.int .i64 0), (.int .i64 0), (.slice none 0 0)] := hB16
    have hzs16 : w13.heap.size ≤ w16.heap.size := hC16.size
    have hE16 : Chg [gs, gg] w w16 := hE13.fresh hC16 (fun c hc => by have := List.mem_singleton.1 hc; omega)
    have hF17 := hs9x13.chg hC16 (fun c hc => by have := List.mem_singleton.1 hc; omega)
    have hF18 := hF10x13.chg hC16 (fun hm => by have := List.mem_singleton.1 hm; omega)
    have hF19 := hF11x13.chg hC16 (fun hm => by have := List.mem_singleton.1 hm; omega)
    refine lw_nil (wp_seq (wp_draw _ [0, 0, 0, 1, 0, 0, 1, 0, 1, 0, 0] mixed (by kernel_rfl) (lw_tv 1 rfl ?_)))
    have hxk : x9_0 < funcs := by omega
    refine q_nil rfl zN (q_fldP (p := (.pointer (some ⟨gg, 0, none⟩))) (b := gg) (o := 0) 1 fd106_1 rfl rfl zN (q_load (p := (padd (.pointer (some ⟨gg, 0, none⟩)) 1)) (.inl rfl) pp one90 rfl (hF18.ldp (i := 1) sM) zN (q_nilP (hp.isPtr) rfl zN ?_)))
    obtain ⟨cs20, hr20, hl20⟩ := RN.at (good_rPr _) hp
    obtain ⟨ve20, rfl, hx20⟩ := RPr.of hr20
    have hln20 := hx20.lenle
    unfold maxLen at hln20
    refine q_fldL (p := pp) 0 fd37_0 rfl (hl20 _ hE16.drew) zN (q_load (p := (padd pp 0)) (.inl rfl) ve20 one35 rfl ((hl20 _ hE16.drew).ld (i := 0) (by simp [exC, fnC])) zN (q_fldP (p := (.pointer (some ⟨w9.heap.size, 0, none⟩))) (b := w9.heap.size) (o := 0) 1 fd31_1 rfl rfl zN (q_load (p := (padd (.pointer (some ⟨w9.heap.size, 0, none⟩)) 1)) (.inl rfl) (.int .i64 x9_0) one2 rfl (hB16.ldp (i := 1) sM) zN ?_)))
    refine q_idx (v := ve20) ((x9_0).toNat) u35 tiS34 rfl rfl hx20.isSl oM sD zN (lw_tvn 1 rfl (wp_seq (wp_draw _ [0, 0, 0, 1, 0, 0, 0, 1, 0, 4, 0, 4] mixed (by kernel_rfl) ?_)))
    have hou := hpr.outs (x9_0).toNat oM
    have hpa := hpr.par (x9_0).toNat oM
    refine lw_tv 1 rfl (q_nil rfl zN (q_fldP (p := (.pointer (some ⟨gg, 0, none⟩))) (b := gg) (o := 0) 0 fd106_0 rfl rfl zN (q_load (p := (padd (.pointer (some ⟨gg, 0, none⟩)) 0)) (.inl rfl) (.pointer (some ⟨gs, 0, none⟩)) one76 rfl (hF18.ldp (i := 0) sM) zN (lw_tv 1 rfl (q_nilP (RN.isPtr (RN.ptr (good_rFn dp) (by decide) Fn.zero hx20 sD)) rfl zN ?_)))))
    obtain ⟨cs21, hr21, hl21⟩ := hx20.get (good_rFn dp) Fn.zero (k := ((x9_0).toNat)) sD
    obtain ⟨ve21, rfl, hx21⟩ := RF.of hr21
    have hln21 := hx21.rn.lenle
    unfold maxLen at hln21
    refine q_fldL (p := eptr ve20 ((x9_0).toNat) 3) 2 fd34_2 rfl (hl21 _ hE16.drew.drew) zN (q_load (p := (padd (eptr ve20 ((x9_0).toNat) 3) 2)) (.inl rfl) ve21 one29 rfl ((hl21 _ hE16.drew.drew).ld (i := 2) (by simp [exC, fnC])) zN (q_len (v := ve21) u29 rfl hx21.rn.isSl zN ?_))
    refine lw_callE 43 [] [] [(.pointer (some ⟨gs, 0, none⟩)), (.int .i64 ((((p.getD ((x9_0).toNat) Fn.zero).outs).length : Nat) : Int))] rfl rfl cf43 zN (c_spec_l00Src_pick _ gs _ _ _ (((((p.getD ((x9_0).toNat) Fn.zero).outs).length : Nat) : Int)) hF17 oM oM sD) ?_
    rintro e22 w22 ⟨x22_0, n22, rfl, hC22, hs22, hb22, hp22_0⟩
    refine ⟨_, rfl, ?_⟩
    replace hC22 := hC22.of_drew
    replace hC22 := hC22.of_drew
    have hzs22 : w16.heap.size ≤ w22.heap.size := hC22.size
    have hE22 : Chg [gs, gg] w w22 := hE16.trans (hC22.sub sub_gs)
    have hF23 := hF18.chg hC22 (fun hm => by have := List.mem_singleton.1 hm; omega)
    have hF24 := hF19.chg hC22 (fun hm => by have := List.mem_singleton.1 hm; omega)
    have hF25 := hB16.chg hC22 (fun hm => by have := List.mem_singleton.1 hm; omega)
    refine q_fldP (p := (.pointer (some ⟨w9.heap.size, 0, none⟩))) (b := w9.heap.size) (o := 0) 2 fd31_2 rfl rfl zN (e_setB (k := 2) (w := w22) sz2 rfl rfl ⟨rfl, rfl⟩ hF25 sM zN fun w26 hC26 hz26 hB26 => ?_)
    replace hB26 : BX w26.heap w9.heap.size [(.int .i64 ((10 : Nat) : Int)), (.int .i64 x9_0), (.int .i64 x22_0), (.int .i64 0), (.slice none 0 0)] := hB26
    have hzs26 : w22.heap.size ≤ w26.heap.size := hC26.size
    have hE26 : Chg [gs, gg] w w26 := hE22.fresh hC26 (fun c hc => by have := List.mem_singleton.1 hc; omega)
    have hF27 := hs22.chg hC26 (fun c hc => by have := List.mem_singleton.1 hc; omega)
    have hF28 := hF23.chg hC26 (fun hm => by have := List.mem_singleton.1 hm; omega)
    have hF29 := hF24.chg hC26 (fun hm => by have := List.mem_singleton.1 hm; omega)
    refine lw_nil ?_
    refine wp_seq (c_cut (S := Int × Int × Nat) (fun (⟨k, cnt, m1⟩ : Int × Int × Nat) => ([(0, (.pointer (some ⟨gg, 0, none⟩))), (1, (.int .i64 vars)), (2, (.int .i64 funcs)), (3, (.int .i64 ((d : Nat) : Int))), (8, (.pointer (some ⟨w.heap.size, 0, none⟩))), (9, (.pointer (some ⟨w9.heap.size, 0, none⟩))), (10, (eptr ve20 ((x9_0).toNat) 3))] : List (Nat × Value))) (fun (⟨k, cnt, m1⟩ : Int × Int × Nat) (W : World) => Chg [gs, gg] w W ∧ Src W.heap gs sv cs m1 ∧ BX W.heap gg [(.pointer (some ⟨gs, 0, none⟩)), pp, (.int .i64 l0), (.bool pl)] ∧ BX W.heap w.heap.size [(.int .i64 0), (.int .i64 0), (.int .i64 0), (.int .i64 0), (.slice none 0 0)] ∧ BX W.heap w9.heap.size [(.int .i64 k), (.int .i64 x9_0), (.int .i64 x22_0), (.int .i64 cnt), (.slice none 0 0)] ∧ ((k = 10 ∧ cnt = 0) ∨ (k = 11 ∧ (((p.getD (x9_0).toNat Fn.zero).outs.length : Nat) : Int) = (p.getD (x9_0).toNat Fn.zero).params ∧ 0 ≤ cnt ∧ cnt ≤ 8)) ∧ (n0 ≤ m1 ∧ m1 ≤ n0 + 8)) ?_ ?_)
    ·
      refine wp_seq (wp_draw _ [0, 0, 0, 1, 0, 0, 0, 0, 1, 0, 0, 0, 0, 0, 1, 4, 0] mixed (by kernel_rfl) (lw_tv 1 rfl (q_nilP (RN.isPtr (RN.ptr (good_rFn dp) (by decide) Fn.zero hx20 sD)) rfl zN (q_fldL (p := eptr ve20 ((x9_0).toNat) 3) 2 fd34_2 rfl (hl21 _ hE26.drew) zN (q_load (p := (padd (eptr ve20 ((x9_0).toNat) 3) 2)) (.inl rfl) ve21 one29 rfl ((hl21 _ hE26.drew).ld (i := 2) (by simp [exC, fnC])) zN (q_len (v := ve21) u29 rfl hx21.rn.isSl zN ?_))))))
      refine lw_tv 1 rfl (q_nilP (RN.isPtr (RN.ptr (good_rFn dp) (by decide) Fn.zero hx20 sD)) rfl zN (q_fldL (p := eptr ve20 ((x9_0).toNat) 3) 1 fd34_1 rfl (hl21 _ hE26.drew) zN (q_load (p := (padd (eptr ve20 ((x9_0).toNat) 3) 1)) (.inl rfl) (.int .i64 ((p.getD ((x9_0).toNat) Fn.zero).params)) one2 rfl ((hl21 _ hE26.drew).ld (i := 1) (by simp [exC, fnC])) zN ?_)))
      by_cases hc31 : ((((p.getD ((x9_0).toNat) Fn.zero).outs).length : Nat) : Int) = (p.getD ((x9_0).toNat) Fn.zero).params
      ·
        refine q_eql true rfl rfl (decide_eq_true hc31) zN (lw_tv 2 rfl (q_nil rfl (zS (e := 55) rfl rfl rfl) (q_fldP (p := (.pointer (some ⟨gg, 0, none⟩))) (b := gg) (o := 0) 0 fd106_0 rfl rfl (zS (e := 55) rfl rfl rfl) (q_load (p := (padd (.pointer (some ⟨gg, 0, none⟩)) 0)) (.inl rfl) (.pointer (some ⟨gs, 0, none⟩)) one76 rfl (hF28.ldp (i := 0) sM) (zS (e := 55) rfl rfl rfl) ?_))))
        refine lw_callE 45 [] [] [(.pointer (some ⟨gs, 0, none⟩)), (.int .i64 ((2 : Nat) : Int))] rfl rfl cf45 (zS (e := 55) rfl rfl rfl) (c_spec_l00Src_one _ gs _ _ _ (((2 : Nat) : Int)) hF27 oM oM sD) ?_
        rintro e32 w32 ⟨x32_0, n32, rfl, hC32, hs32, hb32, hp32_0⟩
        refine ⟨_, rfl, ?_⟩
        replace hC32 := hC32.of_drew
        have hzs32 : w26.heap.size ≤ w32.heap.size := hC32.size
        have hE32 : Chg [gs, gg] w w32 := hE26.trans (hC32.sub sub_gs)
        have hF33 := hF28.chg hC32 (fun hm => by have := List.mem_singleton.1 hm; omega)
        have hF34 := hF29.chg hC32 (fun hm => by have := List.mem_singleton.1 hm; omega)
        have hF35 := hB26.chg hC32 (fun hm => by have := List.mem_singleton.1 hm; omega)
        refine lw_tvn 1 rfl ?_
        cases hb36 : x32_0
        ·
          exact c_cond_f (by first | rfl | (show Value.bool _ = _; rw [hb36])) (wp_skip ⟨(((10 : Nat) : Int), 0, n32), _, rfl, ⟨rfl, rfl, rfl, rfl, rfl, rfl, rfl, trivial⟩, ⟨hE32, hs32, hF33, hF34, hF35, oM, oM⟩⟩)
        ·
          refine c_cond_t (by first | rfl | (show Value.bool _ = _; rw [hb36])) (wp_seq (wp_plain _ [0, 4] rfl (q_fldP (p := (.pointer (some ⟨w9.heap.size, 0, none⟩))) (b := w9.heap.size) (o := 0) 0 fd31_0 rfl rfl zN (e_setB (k := 0) (w := w32) sz2 rfl rfl ⟨rfl, rfl⟩ hF35 sM zN fun w37 hC37 hz37 hB37 => ?_))))
          replace hB37 : BX w37.heap w9.heap.size [(.int .i64 ((11 : Nat) : Int)), (.int .i64 x9_0), (.int .i64 x22_0), (.int .i64 0), (.slice none 0 0)] := hB37
          have hzs37 : w32.heap.size ≤ w37.heap.size := hC37.size
          have hE37 : Chg [gs, gg] w w37 := hE32.fresh hC37 (fun c hc => by have := List.mem_singleton.1 hc; omega)
          have hF38 := hs32.chg hC37 (fun c hc => by have := List.mem_singleton.1 hc; omega)
          have hF39 := hF33.chg hC37 (fun hm => by have := List.mem_singleton.1 hm; omega)
          have hF40 := hF34.chg hC37 (fun hm => by have := List.mem_singleton.1 hm; omega)
          refine lw_nil (wp_plain _ [0, 0, 0, 2, 4, 0, 4] rfl (lw_tv 1 rfl (q_nil rfl zN (q_fldP (p := (.pointer (some ⟨gg, 0, none⟩))) (b := gg) (o := 0) 0 fd106_0 rfl rfl zN (q_load (p := (padd (.pointer (some ⟨gg, 0, none⟩)) 0)) (.inr rfl) (.pointer (some ⟨gs, 0, none⟩)) one76 rfl (hF39.ldp (i := 0) sM) zN ?_)))))
          refine lw_callE 43 [] [] [(.pointer (some ⟨gs, 0, none⟩)), (.int .i64 ((4 : Nat) : Int))] rfl rfl cf43 zN (c_spec_l00Src_pick _ gs _ _ _ (((4 : Nat) : Int)) hF38 oM oM sD) ?_
          rintro e41 w41 ⟨x41_0, n41, rfl, hC41, hs41, hb41, hp41_0⟩
          refine ⟨_, rfl, ?_⟩
          have hzs41 : w37.heap.size ≤ w41.heap.size := hC41.size
          have hE41 : Chg [gs, gg] w w41 := hE37.trans (hC41.sub sub_gs)
          have hF42 := hF39.chg hC41 (fun hm => by have := List.mem_singleton.1 hm; omega)
          have hF43 := hF40.chg hC41 (fun hm => by have := List.mem_singleton.1 hm; omega)
          have hF44 := hB37.chg hC41 (fun hm => by have := List.mem_singleton.1 hm; omega)
          refine q_fldP (p := (.pointer (some ⟨w9.heap.size, 0, none⟩))) (b := w9.heap.size) (o := 0) 3 fd31_3 rfl rfl zN (e_setB (k := 3) (w := w41) sz2 rfl rfl ⟨rfl, rfl⟩ hF44 sM zN fun w45 hC45 hz45 hB45 => ?_)
          replace hB45 : BX w45.heap w9.heap.size [(.int .i64 ((11 : Nat) : Int)), (.int .i64 x9_0), (.int .i64 x22_0), (.int .i64 x41_0), (.slice none 0 0)] := hB45
          have hzs45 : w41.heap.size ≤ w45.heap.size := hC45.size
          have hE45 : Chg [gs, gg] w w45 := hE41.fresh hC45 (fun c hc => by have := List.mem_singleton.1 hc; omega)
          have hF46 := hs41.chg hC45 (fun c hc => by have := List.mem_singleton.1 hc; omega)
          have hF47 := hF42.chg hC45 (fun hm => by have := List.mem_singleton.1 hm; omega)
          have hF48 := hF43.chg hC45 (fun hm => by have := List.mem_singleton.1 hm; omega)
          exact lw_nil ⟨(((11 : Nat) : Int), x41_0, n41), _, rfl, ⟨rfl, rfl, rfl, rfl, rfl, rfl, rfl, trivial⟩, ⟨hE45, hF46, hF47, hF48, hB45, oM, oM⟩⟩
      ·
        exact q_eql false rfl rfl (decide_eq_false hc31) zN (lw_tvn 7 rfl (c_cond_f rfl (wp_skip ⟨(((10 : Nat) : Int), 0, n22), _, rfl, ⟨rfl, rfl, rfl, rfl, rfl, rfl, rfl, trivial⟩, ⟨hE26.drew, hF27, hF28, hF29, hB26, oM, oM⟩⟩)))
    ·
      clear hE0 hz1 hX1 hzs1 hE1 hC9 hzs9 hE9 hF10 hF11 hz13 hX13 hzs13 hE13 hF10x13 hF11x13 hz16 hC16 hzs16 hE16 hF17 hF18 hF19 hln20 hln21 hC22 hzs22 hE22 hF23 hF24 hF25 hz26 hC26 hzs26 hE26 hF27 hF28 hF29
      rintro ⟨k, cnt, m1⟩ ρ30 w30 ⟨hE30, hL30_0, hL30_1, hL30_2, hL30_3, hkc, hm8⟩
      have hzs30 : w.heap.size ≤ w30.heap.size := hE30.size
      have hq49 := hL30_1.lt
      have hq50 := hL30_2.lt
      have hq51 := hL30_3.lt
      refine wp_seq (wp_seq (wp_plain _ [0] rfl (lw_tvn 1 rfl (wp_block ?_))))
      refine c_loop (S := Nat × Int × Nat × Value × List Ex) (fun (⟨i, l, m, vk, xs⟩ : Nat × Int × Nat × Value × List Ex) => ([(11, (.int .i64 ((i : Nat) : Int))), (0, (.pointer (some ⟨gg, 0, none⟩))), (1, (.int .i64 vars)), (2, (.int .i64 funcs)), (3, (.int .i64 ((d : Nat) : Int))), (8, (.pointer (some ⟨w.heap.size, 0, none⟩))), (9, (.pointer (some ⟨w9.heap.size, 0, none⟩))), (10, (eptr ve20 ((x9_0).toNat) 3))] : List (Nat × Value))) (fun (⟨i, l, m, vk, xs⟩ : Nat × Int × Nat × Value × List Ex) (W : World) => Chg [gs, gg] w W ∧ Fr (owS 5 (oEx 31 d) 31) w30.heap.size W.heap.size W.heap vk xs ∧ Src W.heap gs sv cs m ∧ BX W.heap gg [(.pointer (some ⟨gs, 0, none⟩)), pp, (.int .i64 l), (.bool pl)] ∧ BX W.heap w.heap.size [(.int .i64 0), (.int .i64 0), (.int .i64 0), (.int .i64 0), (.slice none 0 0)] ∧ BX W.heap w9.heap.size [(.int .i64 k), (.int .i64 x9_0), (.int .i64 x22_0), (.int .i64 cnt), vk] ∧ ((i : Nat) : Int) ≤ (p.getD (x9_0).toNat Fn.zero).params ∧ KOk p funcs vars pl k d l0 l xs i ∧ (n0 ≤ m ∧ m ≤ n0 + 8 + tmN i (stp (d - 1))) ∧ gg < w30.heap.size ∧ w.heap.size < w30.heap.size ∧ w9.heap.size < w30.heap.size ∧ w30.heap.size ≤ W.heap.size) (fun (⟨i, l, m, vk, xs⟩ : Nat × Int × Nat × Value × List Ex) => (p.getD (x9_0).toNat Fn.zero).params.toNat - i) (0, l0, m1, (.slice none 0 0), ([] : List Ex)) ⟨rfl, rfl, rfl, rfl, rfl, rfl, rfl, rfl, trivial⟩ ⟨hE30, (frNilS _ 0 _).up (good_owS (good_oEx 31 d)), hL30_0, hL30_1, hL30_2, hL30_3, oM, (by exact KOk.nil ..), (by exact ⟨by omega, by show _ ≤ n0 + 8 + 0; omega⟩), oM, oM, oM, oM⟩ ?_
      clear hL30_3 hL30_2 hL30_1 hL30_0
      rintro ⟨i, l, m, vk, xs⟩ ρ55 w55 ⟨hE55, hL55_0, hL55_1, hL55_2, hL55_3, hL55_4, hi4, hko, hmb, hkg52, hkg53, hkg54, hkB56⟩
      have hzs55 : w.heap.size ≤ w55.heap.size := hE55.size
      have hq57 := hL55_2.lt
      have hq58 := hL55_3.lt
      have hq59 := hL55_4.lt
      refine wp_seq (wp_seq (wp_plain _ [0, 0, 0, 0, 2, 0] rfl (lw_tv 2 rfl (q_nilP (RN.isPtr (RN.ptr (good_rFn dp) (by decide) Fn.zero hx20 sD)) rfl zN (q_fldL (p := eptr ve20 ((x9_0).toNat) 3) 1 fd34_1 rfl (hl21 _ hE55) zN (q_load (p := (padd (eptr ve20 ((x9_0).toNat) 3) 1)) (.inr rfl) (.int .i64 ((p.getD ((x9_0).toNat) Fn.zero).params)) one2 rfl ((hl21 _ hE55).ld (i := 1) (by simp [exC, fnC])) zN ?_))))))
      by_cases hc60 : ((i : Nat) : Int) < (p.getD ((x9_0).toNat) Fn.zero).params
      ·
        refine q_lss true rfl rfl (decide_eq_true hc60) zN (lw_nil (c_cond_t rfl (wp_skip (wp_seq (wp_block ?_)))))
        letI : JR := jrC [gs, gg]
        refine Jx.wp_draw _ [0, 1, 0, 0, 0, 0, 0, 3, 3, 4, 0, 4] mixed (by kernel_rfl) ?_
        have htn := tmN_4 (k := stp (d - 1)) (i := i + 1) oM
        have hts : tmN (i + 1) (stp (d - 1)) = tmN i (stp (d - 1)) + stp (d - 1) := rfl
        have hti := tmI_4 (k := nds (d - 1)) (i := i) oM oM
        have hlo := hko.lo
        have hln := hko.len
        refine Jx.q_fldP (p := (.pointer (some ⟨w9.heap.size, 0, none⟩))) (b := w9.heap.size) (o := 0) 4 fd31_4 rfl rfl zN (Jx.q_loadJ (p := (padd (.pointer (some ⟨w9.heap.size, 0, none⟩)) 4)) vk one29 rfl (fun wj hj => (BX.chg (w := w55.drew) (F := [gs, gg]) hL55_4 hj (fun hm => by have := mem2 hm; omega)).ldp (i := 4) sM) zN (Jx.q_move (.pointer (some ⟨gg, 0, none⟩)) rfl zN (Jx.q_move (.int .i64 vars) rfl zN (Jx.q_move (.int .i64 funcs) rfl zN (Jx.q_move (.int .i64 ((d : Nat) : Int)) rfl zN (Jx.j1 (q_sub ((d - 1 : Nat) : Int) rfl rfl (by rw [w64 oM oM]; omega) zN (lw_nil ?_))))))))
        refine Jx.lw_call 76 [] [] [(.pointer (some ⟨gg, 0, none⟩)), (.int .i64 vars), (.int .i64 funcs), (.int .i64 ((d - 1 : Nat) : Int))] rfl rfl cf76 zN (IH _ gg gs sv cs m pp dp l pl p (vars) (funcs) oM hL55_1 hL55_2 (hp.chg (good_rP (good_rPr dp)) hE55.drew) _hvars _hfuncs oM oM (by exact hpr) oM oM oM) ?_
        rintro e61 w61 ⟨v61, x61, n61, l61, rfl, hC61, hs61, hb61, hB61, hO61, hr61, hG61⟩
        refine ⟨_, rfl, hC61, ?_⟩
        replace hO61 := hO61.low (B' := w55.heap.size) (Nat.le_refl _)
        replace hC61 := hC61.of_drew
        have hzs61 : w55.heap.size ≤ w61.heap.size := hC61.size
        have hE61 : Chg [gs, gg] w w61 := hE55.trans hC61
        have hF62 := hL55_0.chg ((good_owS (good_oEx 31 d))) hC61 (fun c hc => by have := mem2 hc; omega)
        have hF63 := hL55_3.chg hC61 (fun hm => by have := mem2 hm; omega)
        have hF64 := hL55_4.chg hC61 (fun hm => by have := mem2 hm; omega)
        refine Jx.tail rfl (r_oneS (cs := [(.int .i64 x61.kind), (.int .i64 x61.num), (.int .i64 x61.pick), (.int .i64 x61.count), v61]) (y := x61) (B := w55.heap.size) (good_oEx 31 d) u29 tiS31 rfl (by decide) rfl (FrN.mk1 oM hr61 hO61) oM zN fun v65 w65 hX65 hz65 hO65 => ?_)
        have hzs65 : w61.heap.size ≤ w65.heap.size := hX65.size
        have hE65 : Chg [gs, gg] w w65 := hE61.ext hX65
        have hF62x65 := hF62.ext ((good_owS (good_oEx 31 d))) hX65
        have hs61x65 := hs61.ext hX65
        have hB61x65 := hB61.ext hX65
        have hF63x65 := hF63.ext hX65
        have hF64x65 := hF64.ext hX65
        refine e_appS (v := vk) (a := v65) (good_oEx 31 d) u29 tiS31 rfl (by decide) rfl rfl hF62x65 oM hO65 oM oM oM (by unfold maxLen; omega) zN fun v66 w66 F66 hC66 hF66 hO66 => ?_
        have hzs66 : w65.heap.size ≤ w66.heap.size := hC66.size
        have hE66 : Chg [gs, gg] w w66 := hE65.fresh hC66 (fun c hc => by have := hF66 _ hc; omega)
        have hF67 := hs61x65.chg hC66 (fun c hc => by have := hF66 _ hc; omega)
        have hF68 := hB61x65.chg hC66 (fun hm => by have := hF66 _ hm; omega)
        have hF69 := hF63x65.chg hC66 (fun hm => by have := hF66 _ hm; omega)
        have hF70 := hF64x65.chg hC66 (fun hm => by have := hF66 _ hm; omega)
        refine q_fldP (p := (.pointer (some ⟨w9.heap.size, 0, none⟩))) (b := w9.heap.size) (o := 0) 4 fd31_4 rfl rfl zN (e_setB (k := 4) (w := w66) sz29 rfl rfl (isSl_one hO66.isSlS) hF70 sM zN fun w71 hC71 hz71 hB71 => ?_)
        replace hB71 : BX w71.heap w9.heap.size [(.int .i64 k), (.int .i64 x9_0), (.int .i64 x22_0), (.int .i64 cnt), v66] := hB71
        have hzs71 : w66.heap.size ≤ w71.heap.size := hC71.size
        have hE71 : Chg [gs, gg] w w71 := hE66.fresh hC71 (fun c hc => by have := List.mem_singleton.1 hc; omega)
        have hF72 := hF67.chg hC71 (fun c hc => by have := List.mem_singleton.1 hc; omega)
        have hF73 := hF68.chg hC71 (fun hm => by have := List.mem_singleton.1 hm; omega)
        have hF74 := hF69.chg hC71 (fun hm => by have := List.mem_singleton.1 hm; omega)
        have hF75 := hO66.chg ((good_owS (good_oEx 31 d))) hC71 (fun c hc => by have := List.mem_singleton.1 hc; omega)
        exact lw_nil (wp_plain _ [0, 0, 0] rfl (lw_tv 1 rfl (q_add ((i + 1 : Nat) : Int) rfl rfl (w64n oM oM) zN (lw_tvn 1 rfl ⟨((i + 1), l61, n61, v66, (xs ++ [x61])), _, rfl, ⟨rfl, rfl, rfl, rfl, rfl, rfl, rfl, rfl, trivial⟩, ⟨hE71, hF75.up (good_owS (good_oEx 31 d)), hF72, hF73, hF74, hB71, oM, (by exact hko.snoc oM (by rw [if_neg oM]) (by assumption)), oM, oM, oM, oM, oM⟩, by first | omega | (dsimp only; omega)⟩))))
      ·
        refine q_lss false rfl rfl (decide_eq_false hc60) zN (lw_nil (c_cond_f rfl (wp_exit (t_exit (t_exit (c_exit_here (wp_seq (wp_plain _ [2, 4] rfl (q_loadA (p := (.pointer (some ⟨w9.heap.size, 0, none⟩))) (.inr rfl) [(.int .i64 k), (.int .i64 x9_0), (.int .i64 x22_0), (.int .i64 cnt), vk] agg31 rfl (fun w9 hw9 => LD.of_box (BX.ext (w := w55) hL55_4 hw9)) rfl zN (e_setA (vs := [(.int .i64 k), (.int .i64 x9_0), (.int .i64 x22_0), (.int .i64 cnt), vk]) agg31 rfl rfl (by intro u hu; simp only [List.mem_cons, List.not_mem_nil, or_false] at hu; rcases hu with rfl | rfl | rfl | rfl | rfl <;> first | exact ⟨rfl, rfl⟩ | exact isSl_one hL55_0.isSlS) hL55_3 rfl rfl zN fun w76 hC76 hz76 hB76 => ?_))))))))))
        replace hB76 : BX w76.heap w.heap.size [(.int .i64 k), (.int .i64 x9_0), (.int .i64 x22_0), (.int .i64 cnt), vk] := hB76
        have hzs76 : w55.heap.size ≤ w76.heap.size := hC76.size
        have hE76 : Chg [gs, gg] w w76 := hE55.fresh hC76 (fun c hc => by have := List.mem_singleton.1 hc; omega)
        have hF77 := hL55_0.chg ((good_owS (good_oEx 31 d))) hC76 (fun c hc => by have := List.mem_singleton.1 hc; omega)
        have hF78 := hL55_1.chg hC76 (fun c hc => by have := List.mem_singleton.1 hc; omega)
        have hF79 := hL55_2.chg hC76 (fun hm => by have := List.mem_singleton.1 hm; omega)
        have hF80 := hL55_4.chg hC76 (fun hm => by have := List.mem_singleton.1 hm; omega)
        refine lw_nil (wp_ret ?_)
        have hln := hko.len
        have htn := tmN_4 (k := stp (d - 1)) (i := i) oM
        exact post_retA (cs := [(.int .i64 k), (.int .i64 x9_0), (.int .i64 x22_0), (.int .i64 cnt), vk]) rfl agg31 rfl hB76 rfl ⟨vk, (.mk k x9_0 x22_0 cnt xs), m, l, rfl, hE76, hF78, ⟨by omega, by omega⟩, hF79, ((hF77.up (good_owS (good_oEx 31 d))).low (B' := w.heap.size) oM), (exR_mk oM oM oM oM), (by exact hko.node1 oM oM oM (fun _ => by omega) (wfN_cl hkc oM oM oM))⟩
theorem z76_0 {p : Prop} (h : p := by intro u hu; simp only [List.mem_cons, List.not_mem_nil, or_false] at hu; rcases hu with rfl | rfl | rfl | rfl | rfl <;> first | exact ⟨rfl, rfl⟩) : p := h
theorem z76_1 {p : Prop} (h : p := by exact hko.snoc oM (by first | rw [if_pos oM] | rw [if_neg oM]) (by assumption)) : p := h
theorem z76_2 {p : Prop} (h : p := by intro hpl; first | omega | (simp_all; omega) | simp_all) : p := h
theorem c_spec_l02Gen_expr (w : World) (gg gs : Nat) (sv : Value) (cs : List UInt8) (n0 : Nat) (pp : Value) (dp : Nat) (l0 : Int) (pl : Bool) (p : List Fn) (vars : Int) (funcs : Int) (d : Nat) (hgg : gs < gg) (hs : Src w.heap gs sv cs n0) (hB0 : BX w.heap gg [.pointer (some ⟨gs, 0, none⟩), pp, .int .i64 l0, .bool pl]) (hp : RN [gs, gg] (rP (rPr dp)) w.heap pp p) (_hvars : -9223372036854775808 ≤ vars ∧ vars ≤ 9223372036854775807) (_hfuncs : -9223372036854775808 ≤ funcs ∧ funcs ≤ 9223372036854775807) (hv : 0 ≤ vars ∧ vars + ((d : Nat) : Int) ≤ 1000) (hfu : 0 ≤ funcs ∧ funcs ≤ ((p.length : Nat) : Int)) (hpr : GPr p) (hd : d ≤ 8) (hn : n0 + stp d ≤ 1000000000000) (hl : nds d - 1000000 ≤ l0 ∧ l0 ≤ 1000) (IH1 : ∀ d', d' < d → GX d') (IH2 : 1 ≤ d → GC d) :
    Calls Try.prog 76 #[.pointer (some ⟨gg, 0, none⟩), .int .i64 vars, .int .i64 funcs, .int .i64 ((d : Nat) : Int)] w (fun e w' => ∃ (v : Value) (ex : Ex) (n1 : Nat) (l1 : Int), e = .returned (.agg #[.int .i64 ex.kind, .int .i64 ex.num, .int .i64 ex.pick, .int .i64 ex.count, v]) ∧ Chg [gs, gg] w w' ∧ Src w'.heap gs sv cs n1 ∧ (n0 ≤ n1 ∧ n1 ≤ n0 + (stp d)) ∧ BX w'.heap gg [.pointer (some ⟨gs, 0, none⟩), pp, .int .i64 l1, .bool pl] ∧ Fr (owS 5 (oEx 31 d) 31) w.heap.size w'.heap.size w'.heap v ex.kids ∧ exR ex ∧ GOk p funcs vars pl d l0 l1 ex) := by
  refine calls_mk [.pointer (some ⟨gg, 0, none⟩), .int .i64 vars, .int .i64 funcs, .int .i64 ((d : Nat) : Int)] 117 Try.func76 rfl rfl sM ?_
  have hE0 : Chg [gs, gg] w w := Chg.refl [gs, gg] w
  have hgl := hs.lt
  have hgl2 := hB0.lt
  have hst := stp_20 d
  have hnd := nds_pos d
  have hnl := nds_le (d := d) oM
  refine wp_seq (wp_plain _ [3] rfl ?_)
  have hq2 := hB0.lt
  refine r_allocA (z := .agg #[.int .i64 0, .int .i64 0, .int .i64 0, .int .i64 0, .slice none 0 0]) zr31 zN fun w1 hX1 hz1 hB1 => ?_
  have hzs1 : w.heap.size ≤ w1.heap.size := hX1.size
  have hE1 : Chg [gs, gg] w w1 := hE0.ext hX1
  have hsx1 := hs.ext hX1
  have hB0x1 := hB0.ext hX1
  replace hB1 : BX w1.heap w.heap.size [(.int .i64 0), (.int .i64 0), (.int .i64 0), (.int .i64 0), (.slice none 0 0)] := hB1
  refine lw_nil (wp_seq (wp_plain _ [0, 0, 0, 2, 0, 0, 0, 4] rfl (lw_tv 1 rfl (q_nil rfl zN (q_fldP (p := (.pointer (some ⟨gg, 0, none⟩))) (b := gg) (o := 0) 2 fd106_2 rfl rfl zN (q_load (p := (padd (.pointer (some ⟨gg, 0, none⟩)) 2)) (.inr rfl) (.int .i64 l0) one2 rfl (hB0x1.ldp (i := 2) sM) zN ?_))))))
  refine q_sub (l0 - ((1 : Nat) : Int)) rfl rfl (w64 sD sD) zN (q_nil rfl zN ?_)
  refine q_fldP (p := (.pointer (some ⟨gg, 0, none⟩))) (b := gg) (o := 0) 2 fd106_2 rfl rfl zN (e_setB (k := 2) (w := w1) sz2 rfl rfl ⟨rfl, rfl⟩ hB0x1 sM zN fun w3 hC3 hz3 hB3 => ?_)
  replace hB3 : BX w3.heap gg [(.pointer (some ⟨gs, 0, none⟩)), pp, (.int .i64 (l0 - ((1 : Nat) : Int))), (.bool pl)] := hB3
  have hzs3 : w1.heap.size ≤ w3.heap.size := hC3.size
  have hE3 : Chg [gs, gg] w w3 := hE1.trans (hC3.sub sub_gg)
  have hF4 := hsx1.chg hC3 (fun c hc => by have := List.mem_singleton.1 hc; omega)
  have hF5 := hB1.chg hC3 (fun hm => by have := List.mem_singleton.1 hm; omega)
  refine lw_nil (wp_seq (wp_seq (wp_plain _ [0, 0, 0, 2, 0, 0, 0, 0, 0, 0, 0, 0, 0, 2, 4, 0] rfl (lw_tv 1 rfl (q_nil rfl zN (q_fldP (p := (.pointer (some ⟨gg, 0, none⟩))) (b := gg) (o := 0) 2 fd106_2 rfl rfl zN (q_load (p := (padd (.pointer (some ⟨gg, 0, none⟩)) 2)) (.inr rfl) (.int .i64 (l0 - ((1 : Nat) : Int))) one2 rfl (hB3.ldp (i := 2) sM) zN ?_)))))))
  by_cases hc6 : l0 - ((1 : Nat) : Int) < ((1 : Nat) : Int)
  ·
    refine q_lss true rfl rfl (decide_eq_true hc6) zN (lw_tvn 11 rfl (c_cond_t rfl (wp_seq (wp_plain _ [0, 0, 4, 4] rfl (lw_tv 2 rfl (lw_callE 119 [] [] [(.pointer (some ⟨gg, 0, none⟩)), (.int .i64 vars)] rfl rfl cf119 zN (c_spec_l02Gen_leaf _ gg gs sv cs n0 pp dp (l0 - ((1 : Nat) : Int)) pl p (vars) oM hF4 hB3 (hp.chg (good_rP (good_rPr dp)) hE3) _hvars oM oM) ?_))))))
    rintro e7 w7 ⟨x7, n7, rfl, hC7, hs7, hb7, hB7, hr7, hkd7, hG7⟩
    refine ⟨_, rfl, ?_⟩
    have hzs7 : w3.heap.size ≤ w7.heap.size := hC7.size
    have hE7 : Chg [gs, gg] w w7 := hE3.trans hC7
    have hF8 := hF5.chg hC7 (fun hm => by have := mem2 hm; omega)
    refine e_setA (vs := [(.int .i64 x7.kind), (.int .i64 x7.num), (.int .i64 x7.pick), (.int .i64 x7.count), (.slice none 0 0)]) agg31 rfl rfl z76_0 hF8 rfl rfl zN fun w9 hC9 hz9 hB9 => ?_
    replace hB9 : BX w9.heap w.heap.size [(.int .i64 x7.kind), (.int .i64 x7.num), (.int .i64 x7.pick), (.int .i64 x7.count), (.slice none 0 0)] := hB9
    have hzs9 : w7.heap.size ≤ w9.heap.size := hC9.size
    have hE9 : Chg [gs, gg] w w9 := hE7.fresh hC9 (fun c hc => by have := List.mem_singleton.1 hc; omega)
    have hF10 := hs7.chg hC9 (fun c hc => by have := List.mem_singleton.1 hc; omega)
    have hF11 := hB7.chg hC9 (fun hm => by have := List.mem_singleton.1 hm; omega)
    exact lw_nil (wp_ret (t_ret (post_retA (cs := [(.int .i64 x7.kind), (.int .i64 x7.num), (.int .i64 x7.pick), (.int .i64 x7.count), (.slice none 0 0)]) rfl agg31 rfl hB9 rfl ⟨(.slice none 0 0), x7, n7, (l0 - ((1 : Nat) : Int)), rfl, hE9, hF10, ⟨by omega, by omega⟩, hF11, (by rw [hkd7]; exact frNilS _ _ _), hr7, (by exact LOk.ok (by assumption) d)⟩)))
  ·
    refine q_lss false rfl rfl (decide_eq_false hc6) zN (lw_tv 2 rfl ?_)
    by_cases hc12 : ((d : Nat) : Int) < ((1 : Nat) : Int)
    ·
      refine q_lss true rfl rfl (decide_eq_true hc12) (zS (e := 24) rfl rfl rfl) (lw_tvn 8 rfl (c_cond_t rfl (wp_seq (wp_plain _ [0, 0, 4, 4] rfl (lw_tv 2 rfl (lw_callE 119 [] [] [(.pointer (some ⟨gg, 0, none⟩)), (.int .i64 vars)] rfl rfl cf119 zN (c_spec_l02Gen_leaf _ gg gs sv cs n0 pp dp (l0 - ((1 : Nat) : Int)) pl p (vars) oM hF4 hB3 (hp.chg (good_rP (good_rPr dp)) hE3) _hvars oM oM) ?_))))))
      rintro e13 w13 ⟨x13, n13, rfl, hC13, hs13, hb13, hB13, hr13, hkd13, hG13⟩
      refine ⟨_, rfl, ?_⟩
      have hzs13 : w3.heap.size ≤ w13.heap.size := hC13.size
      have hE13 : Chg [gs, gg] w w13 := hE3.trans hC13
      have hF14 := hF5.chg hC13 (fun hm => by have := mem2 hm; omega)
      refine e_setA (vs := [(.int .i64 x13.kind), (.int .i64 x13.num), (.int .i64 x13.pick), (.int .i64 x13.count), (.slice none 0 0)]) agg31 rfl rfl z76_0 hF14 rfl rfl zN fun w15 hC15 hz15 hB15 => ?_
      replace hB15 : BX w15.heap w.heap.size [(.int .i64 x13.kind), (.int .i64 x13.num), (.int .i64 x13.pick), (.int .i64 x13.count), (.slice none 0 0)] := hB15
      have hzs15 : w13.heap.size ≤ w15.heap.size := hC15.size
      have hE15 : Chg [gs, gg] w w15 := hE13.fresh hC15 (fun c hc => by have := List.mem_singleton.1 hc; omega)
      have hF16 := hs13.chg hC15 (fun c hc => by have := List.mem_singleton.1 hc; omega)
      have hF17 := hB13.chg hC15 (fun hm => by have := List.mem_singleton.1 hm; omega)
      exact lw_nil (wp_ret (t_ret (post_retA (cs := [(.int .i64 x13.kind), (.int .i64 x13.num), (.int .i64 x13.pick), (.int .i64 x13.count), (.slice none 0 0)]) rfl agg31 rfl hB15 rfl ⟨(.slice none 0 0), x13, n13, (l0 - ((1 : Nat) : Int)), rfl, hE15, hF16, ⟨by omega, by omega⟩, hF17, (by rw [hkd13]; exact frNilS _ _ _), hr13, (by exact LOk.ok (by assumption) d)⟩)))
    ·
      refine q_lss false rfl rfl (decide_eq_false hc12) (zS (e := 24) rfl rfl rfl) (lw_tv 3 rfl (q_nil rfl (zS (e := 28) rfl rfl rfl) (q_fldP (p := (.pointer (some ⟨gg, 0, none⟩))) (b := gg) (o := 0) 0 fd106_0 rfl rfl (zS (e := 28) rfl rfl rfl) (q_load (p := (padd (.pointer (some ⟨gg, 0, none⟩)) 0)) (.inr rfl) (.pointer (some ⟨gs, 0, none⟩)) one76 rfl (hB3.ldp (i := 0) sM) (zS (e := 28) rfl rfl rfl) ?_))))
      refine lw_callE 45 [] [] [(.pointer (some ⟨gs, 0, none⟩)), (.int .i64 ((5 : Nat) : Int))] rfl rfl cf45 (zS (e := 28) rfl rfl rfl) (c_spec_l00Src_one _ gs _ _ _ (((5 : Nat) : Int)) hF4 oM oM sD) ?_
      rintro e18 w18 ⟨x18_0, n18, rfl, hC18, hs18, hb18, hp18_0⟩
      refine ⟨_, rfl, ?_⟩
      have hzs18 : w3.heap.size ≤ w18.heap.size := hC18.size
      have hE18 : Chg [gs, gg] w w18 := hE3.trans (hC18.sub sub_gs)
      have hF19 := hB3.chg hC18 (fun hm => by have := List.mem_singleton.1 hm; omega)
      have hF20 := hF5.chg hC18 (fun hm => by have := List.mem_singleton.1 hm; omega)
      refine lw_tvn 1 rfl ?_
      cases hb21 : x18_0
      ·
        refine c_cond_f (by first | rfl | (show Value.bool _ = _; rw [hb21])) (wp_skip (wp_seq (wp_plain _ [0, 3, 4] rfl ?_)))
        have hnds := nds_s (d := d) oM
        have hstp := stp_s (d := d) oM
        have hst1 := stp_20 (d - 1)
        have hnd1 := nds_pos (d - 1)
        have hbd22 : ∀ (wq : World), (Instr.build 31 #[]).run Try.prog wq = .ok (.agg #[(.int .i64 0), (.int .i64 0), (.int .i64 0), (.int .i64 0), (.slice none 0 0)]) wq := by intro wq; kernel_rfl
        refine q_build (ps := #[]) (.agg #[(.int .i64 0), (.int .i64 0), (.int .i64 0), (.int .i64 0), (.slice none 0 0)]) (by simp only [List.map_toArray, List.map_cons, List.map_nil]) (fun wq => hbd22  wq) zN ?_
        have hq24 := hF19.lt
        have hq25 := hF20.lt
        refine r_allocA (z := .agg #[.int .i64 0, .int .i64 0, .int .i64 0, .int .i64 0, .slice none 0 0]) zr31 zN fun w23 hX23 hz23 hB23 => ?_
        have hzs23 : w18.heap.size ≤ w23.heap.size := hX23.size
        have hE23 : Chg [gs, gg] w w23 := hE18.ext hX23
        have hs18x23 := hs18.ext hX23
        have hF19x23 := hF19.ext hX23
        have hF20x23 := hF20.ext hX23
        replace hB23 : BX w23.heap w18.heap.size [(.int .i64 0), (.int .i64 0), (.int .i64 0), (.int .i64 0), (.slice none 0 0)] := hB23
        refine e_setA (vs := [(.int .i64 0), (.int .i64 0), (.int .i64 0), (.int .i64 0), (.slice none 0 0)]) agg31 rfl rfl z76_0 hB23 rfl rfl zN fun w26 hC26 hz26 hB26 => ?_
        replace hB26 : BX w26.heap w18.heap.size [(.int .i64 0), (.int .i64 0), (.int .i64 0), (.int .i64 0), (.slice none 0 0)] := hB26
        have hzs26 : w23.heap.size ≤ w26.heap.size := hC26.size
        have hE26 : Chg [gs, gg] w w26 := hE23.fresh hC26 (fun c hc => by have := List.mem_singleton.1 hc; omega)
        have hF27 := hs18x23.chg hC26 (fun c hc => by have := List.mem_singleton.1 hc; omega)
        have hF28 := hF19x23.chg hC26 (fun hm => by have := List.mem_singleton.1 hm; omega)
        have hF29 := hF20x23.chg hC26 (fun hm => by have := List.mem_singleton.1 hm; omega)
        refine lw_nil (wp_seq (c_cut (S := Int × Nat) (fun (⟨k, m1⟩ : Int × Nat) => ([(0, (.pointer (some ⟨gg, 0, none⟩))), (1, (.int .i64 vars)), (2, (.int .i64 funcs)), (3, (.int .i64 ((d : Nat) : Int))), (8, (.pointer (some ⟨w.heap.size, 0, none⟩))), (9, (.pointer (some ⟨w18.heap.size, 0, none⟩)))] : List (Nat × Value))) (fun (⟨k, m1⟩ : Int × Nat) (W : World) => Chg [gs, gg] w W ∧ Src W.heap gs sv cs m1 ∧ BX W.heap gg [(.pointer (some ⟨gs, 0, none⟩)), pp, (.int .i64 (l0 - ((1 : Nat) : Int))), (.bool pl)] ∧ BX W.heap w.heap.size [(.int .i64 0), (.int .i64 0), (.int .i64 0), (.int .i64 0), (.slice none 0 0)] ∧ BX W.heap w18.heap.size [(.int .i64 k), (.int .i64 0), (.int .i64 0), (.int .i64 0), (.slice none 0 0)] ∧ (k = 3 ∨ k = 4 ∨ k = 5 ∨ k = 6 ∨ k = 7 ∨ k = 8 ∨ k = 9) ∧ (n0 ≤ m1 ∧ m1 ≤ n0 + 4)) ?_ ?_))
        ·
          refine wp_seq (wp_plain _ [0, 0, 0, 2, 4] rfl (lw_tv 1 rfl (q_nil rfl zN (q_fldP (p := (.pointer (some ⟨gg, 0, none⟩))) (b := gg) (o := 0) 0 fd106_0 rfl rfl zN (q_load (p := (padd (.pointer (some ⟨gg, 0, none⟩)) 0)) (.inr rfl) (.pointer (some ⟨gs, 0, none⟩)) one76 rfl (hF28.ldp (i := 0) sM) zN ?_)))))
          refine lw_callE 43 [] [] [(.pointer (some ⟨gs, 0, none⟩)), (.int .i64 ((12 : Nat) : Int))] rfl rfl cf43 zN (c_spec_l00Src_pick _ gs _ _ _ (((12 : Nat) : Int)) hF27 oM oM sD) ?_
          rintro e31 w31 ⟨x31_0, n31, rfl, hC31, hs31, hb31, hp31_0⟩
          refine ⟨_, rfl, ?_⟩
          have hzs31 : w26.heap.size ≤ w31.heap.size := hC31.size
          have hE31 : Chg [gs, gg] w w31 := hE26.trans (hC31.sub sub_gs)
          have hF32 := hF28.chg hC31 (fun hm => by have := List.mem_singleton.1 hm; omega)
          have hF33 := hF29.chg hC31 (fun hm => by have := List.mem_singleton.1 hm; omega)
          have hF34 := hB26.chg hC31 (fun hm => by have := List.mem_singleton.1 hm; omega)
          refine lw_nil (wp_block (wp_seq (wp_plain _ [0, 0] rfl ?_)))
          by_cases hc35 : x31_0 = ((0 : Nat) : Int)
          ·
            refine q_eql true rfl rfl (decide_eq_true hc35) zN (lw_tvn 1 rfl (c_cond_t rfl (wp_plain _ [0, 4] rfl (q_fldP (p := (.pointer (some ⟨w18.heap.size, 0, none⟩))) (b := w18.heap.size) (o := 0) 0 fd31_0 rfl rfl zN (e_setB (k := 0) (w := w31) sz2 rfl rfl ⟨rfl, rfl⟩ hF34 sM zN fun w36 hC36 hz36 hB36 => ?_)))))
            replace hB36 : BX w36.heap w18.heap.size [(.int .i64 ((7 : Nat) : Int)), (.int .i64 0), (.int .i64 0), (.int .i64 0), (.slice none 0 0)] := hB36
            have hzs36 : w31.heap.size ≤ w36.heap.size := hC36.size
            have hE36 : Chg [gs, gg] w w36 := hE31.fresh hC36 (fun c hc => by have := List.mem_singleton.1 hc; omega)
            have hF37 := hs31.chg hC36 (fun c hc => by have := List.mem_singleton.1 hc; omega)
            have hF38 := hF32.chg hC36 (fun hm => by have := List.mem_singleton.1 hm; omega)
            have hF39 := hF33.chg hC36 (fun hm => by have := List.mem_singleton.1 hm; omega)
            exact lw_nil ⟨(((7 : Nat) : Int), n31), _, rfl, ⟨rfl, rfl, rfl, rfl, rfl, rfl, trivial⟩, ⟨hE36, hF37, hF38, hF39, hB36, oM, oM⟩⟩
          ·
            refine q_eql false rfl rfl (decide_eq_false hc35) zN (lw_tvn 1 rfl (c_cond_f rfl (wp_seq (wp_plain _ [0, 0] rfl ?_))))
            by_cases hc40 : x31_0 = ((1 : Nat) : Int)
            ·
              refine q_eql true rfl rfl (decide_eq_true hc40) zN (lw_tvn 1 rfl (c_cond_t rfl (wp_plain _ [0, 4] rfl (q_fldP (p := (.pointer (some ⟨w18.heap.size, 0, none⟩))) (b := w18.heap.size) (o := 0) 0 fd31_0 rfl rfl zN (e_setB (k := 0) (w := w31) sz2 rfl rfl ⟨rfl, rfl⟩ hF34 sM zN fun w41 hC41 hz41 hB41 => ?_)))))
              replace hB41 : BX w41.heap w18.heap.size [(.int .i64 ((9 : Nat) : Int)), (.int .i64 0), (.int .i64 0), (.int .i64 0), (.slice none 0 0)] := hB41
              have hzs41 : w31.heap.size ≤ w41.heap.size := hC41.size
              have hE41 : Chg [gs, gg] w w41 := hE31.fresh hC41 (fun c hc => by have := List.mem_singleton.1 hc; omega)
              have hF42 := hs31.chg hC41 (fun c hc => by have := List.mem_singleton.1 hc; omega)
              have hF43 := hF32.chg hC41 (fun hm => by have := List.mem_singleton.1 hm; omega)
              have hF44 := hF33.chg hC41 (fun hm => by have := List.mem_singleton.1 hm; omega)
              exact lw_nil ⟨(((9 : Nat) : Int), n31), _, rfl, ⟨rfl, rfl, rfl, rfl, rfl, rfl, trivial⟩, ⟨hE41, hF42, hF43, hF44, hB41, oM, oM⟩⟩
            ·
              refine q_eql false rfl rfl (decide_eq_false hc40) zN (lw_tvn 1 rfl (c_cond_f rfl (wp_seq (wp_plain _ [0, 0] rfl ?_))))
              by_cases hc45 : x31_0 = ((2 : Nat) : Int)
              ·
                refine q_eql true rfl rfl (decide_eq_true hc45) zN (lw_tvn 1 rfl (c_cond_t rfl (wp_plain _ [0, 4] rfl (q_fldP (p := (.pointer (some ⟨w18.heap.size, 0, none⟩))) (b := w18.heap.size) (o := 0) 0 fd31_0 rfl rfl zN (e_setB (k := 0) (w := w31) sz2 rfl rfl ⟨rfl, rfl⟩ hF34 sM zN fun w46 hC46 hz46 hB46 => ?_)))))
                replace hB46 : BX w46.heap w18.heap.size [(.int .i64 ((8 : Nat) : Int)), (.int .i64 0), (.int .i64 0), (.int .i64 0), (.slice none 0 0)] := hB46
                have hzs46 : w31.heap.size ≤ w46.heap.size := hC46.size
                have hE46 : Chg [gs, gg] w w46 := hE31.fresh hC46 (fun c hc => by have := List.mem_singleton.1 hc; omega)
                have hF47 := hs31.chg hC46 (fun c hc => by have := List.mem_singleton.1 hc; omega)
                have hF48 := hF32.chg hC46 (fun hm => by have := List.mem_singleton.1 hm; omega)
                have hF49 := hF33.chg hC46 (fun hm => by have := List.mem_singleton.1 hm; omega)
                exact lw_nil ⟨(((8 : Nat) : Int), n31), _, rfl, ⟨rfl, rfl, rfl, rfl, rfl, rfl, trivial⟩, ⟨hE46, hF47, hF48, hF49, hB46, oM, oM⟩⟩
              ·
                refine q_eql false rfl rfl (decide_eq_false hc45) zN (lw_tvn 1 rfl (c_cond_f rfl (wp_seq (wp_plain _ [0, 0] rfl ?_))))
                by_cases hc50 : x31_0 = ((3 : Nat) : Int)
                ·
                  refine q_eql true rfl rfl (decide_eq_true hc50) zN (lw_tvn 1 rfl (c_cond_t rfl (wp_plain _ [0, 4] rfl (q_fldP (p := (.pointer (some ⟨w18.heap.size, 0, none⟩))) (b := w18.heap.size) (o := 0) 0 fd31_0 rfl rfl zN (e_setB (k := 0) (w := w31) sz2 rfl rfl ⟨rfl, rfl⟩ hF34 sM zN fun w51 hC51 hz51 hB51 => ?_)))))
                  replace hB51 : BX w51.heap w18.heap.size [(.int .i64 ((6 : Nat) : Int)), (.int .i64 0), (.int .i64 0), (.int .i64 0), (.slice none 0 0)] := hB51
                  have hzs51 : w31.heap.size ≤ w51.heap.size := hC51.size
                  have hE51 : Chg [gs, gg] w w51 := hE31.fresh hC51 (fun c hc => by have := List.mem_singleton.1 hc; omega)
                  have hF52 := hs31.chg hC51 (fun c hc => by have := List.mem_singleton.1 hc; omega)
                  have hF53 := hF32.chg hC51 (fun hm => by have := List.mem_singleton.1 hm; omega)
                  have hF54 := hF33.chg hC51 (fun hm => by have := List.mem_singleton.1 hm; omega)
                  exact lw_nil ⟨(((6 : Nat) : Int), n31), _, rfl, ⟨rfl, rfl, rfl, rfl, rfl, rfl, trivial⟩, ⟨hE51, hF52, hF53, hF54, hB51, oM, oM⟩⟩
                ·
                  refine q_eql false rfl rfl (decide_eq_false hc50) zN (lw_tvn 1 rfl (c_cond_f rfl (wp_seq (wp_seq (wp_plain _ [0, 0] rfl ?_)))))
                  by_cases hc55 : x31_0 = ((4 : Nat) : Int)
                  ·
                    refine q_eql true rfl rfl (decide_eq_true hc55) zN (lw_tvn 1 rfl (c_cond_t rfl (wp_skip (c_cond_t rfl (wp_plain _ [0, 4] rfl (q_fldP (p := (.pointer (some ⟨w18.heap.size, 0, none⟩))) (b := w18.heap.size) (o := 0) 0 fd31_0 rfl rfl zN (e_setB (k := 0) (w := w31) sz2 rfl rfl ⟨rfl, rfl⟩ hF34 sM zN fun w56 hC56 hz56 hB56 => ?_)))))))
                    replace hB56 : BX w56.heap w18.heap.size [(.int .i64 ((3 : Nat) : Int)), (.int .i64 0), (.int .i64 0), (.int .i64 0), (.slice none 0 0)] := hB56
                    have hzs56 : w31.heap.size ≤ w56.heap.size := hC56.size
                    have hE56 : Chg [gs, gg] w w56 := hE31.fresh hC56 (fun c hc => by have := List.mem_singleton.1 hc; omega)
                    have hF57 := hs31.chg hC56 (fun c hc => by have := List.mem_singleton.1 hc; omega)
                    have hF58 := hF32.chg hC56 (fun hm => by have := List.mem_singleton.1 hm; omega)
                    have hF59 := hF33.chg hC56 (fun hm => by have := List.mem_singleton.1 hm; omega)
                    exact lw_nil ⟨(((3 : Nat) : Int), n31), _, rfl, ⟨rfl, rfl, rfl, rfl, rfl, rfl, trivial⟩, ⟨hE56, hF57, hF58, hF59, hB56, oM, oM⟩⟩
                  ·
                    refine q_eql false rfl rfl (decide_eq_false hc55) zN (lw_tvn 1 rfl (c_cond_f rfl (wp_plain _ [0, 0] rfl ?_)))
                    by_cases hc60 : x31_0 = ((5 : Nat) : Int)
                    ·
                      refine q_eql true rfl rfl (decide_eq_true hc60) zN (lw_tvn 1 rfl (c_cond_t rfl (wp_plain _ [0, 4] rfl (q_fldP (p := (.pointer (some ⟨w18.heap.size, 0, none⟩))) (b := w18.heap.size) (o := 0) 0 fd31_0 rfl rfl zN (e_setB (k := 0) (w := w31) sz2 rfl rfl ⟨rfl, rfl⟩ hF34 sM zN fun w61 hC61 hz61 hB61 => ?_)))))
                      replace hB61 : BX w61.heap w18.heap.size [(.int .i64 ((3 : Nat) : Int)), (.int .i64 0), (.int .i64 0), (.int .i64 0), (.slice none 0 0)] := hB61
                      have hzs61 : w31.heap.size ≤ w61.heap.size := hC61.size
                      have hE61 : Chg [gs, gg] w w61 := hE31.fresh hC61 (fun c hc => by have := List.mem_singleton.1 hc; omega)
                      have hF62 := hs31.chg hC61 (fun c hc => by have := List.mem_singleton.1 hc; omega)
                      have hF63 := hF32.chg hC61 (fun hm => by have := List.mem_singleton.1 hm; omega)
                      have hF64 := hF33.chg hC61 (fun hm => by have := List.mem_singleton.1 hm; omega)
                      exact lw_nil ⟨(((3 : Nat) : Int), n31), _, rfl, ⟨rfl, rfl, rfl, rfl, rfl, rfl, trivial⟩, ⟨hE61, hF62, hF63, hF64, hB61, oM, oM⟩⟩
                    ·
                      refine q_eql false rfl rfl (decide_eq_false hc60) zN (lw_tvn 1 rfl (c_cond_f rfl (wp_seq (wp_plain _ [0, 0] rfl ?_))))
                      by_cases hc65 : x31_0 = ((6 : Nat) : Int)
                      ·
                        refine q_eql true rfl rfl (decide_eq_true hc65) zN (lw_tvn 1 rfl (c_cond_t rfl (wp_plain _ [0, 4] rfl (q_fldP (p := (.pointer (some ⟨w18.heap.size, 0, none⟩))) (b := w18.heap.size) (o := 0) 0 fd31_0 rfl rfl zN (e_setB (k := 0) (w := w31) sz2 rfl rfl ⟨rfl, rfl⟩ hF34 sM zN fun w66 hC66 hz66 hB66 => ?_)))))
                        replace hB66 : BX w66.heap w18.heap.size [(.int .i64 ((4 : Nat) : Int)), (.int .i64 0), (.int .i64 0), (.int .i64 0), (.slice none 0 0)] := hB66
                        have hzs66 : w31.heap.size ≤ w66.heap.size := hC66.size
                        have hE66 : Chg [gs, gg] w w66 := hE31.fresh hC66 (fun c hc => by have := List.mem_singleton.1 hc; omega)
                        have hF67 := hs31.chg hC66 (fun c hc => by have := List.mem_singleton.1 hc; omega)
                        have hF68 := hF32.chg hC66 (fun hm => by have := List.mem_singleton.1 hm; omega)
                        have hF69 := hF33.chg hC66 (fun hm => by have := List.mem_singleton.1 hm; omega)
                        exact lw_nil ⟨(((4 : Nat) : Int), n31), _, rfl, ⟨rfl, rfl, rfl, rfl, rfl, rfl, trivial⟩, ⟨hE66, hF67, hF68, hF69, hB66, oM, oM⟩⟩
                      ·
                        refine q_eql false rfl rfl (decide_eq_false hc65) zN (lw_tvn 1 rfl (c_cond_f rfl (wp_seq (wp_seq (wp_plain _ [0, 0] rfl ?_)))))
                        by_cases hc70 : x31_0 = ((7 : Nat) : Int)
                        ·
                          refine q_eql true rfl rfl (decide_eq_true hc70) zN (lw_tvn 1 rfl (c_cond_t rfl (wp_skip (c_cond_t rfl (wp_plain _ [0, 4] rfl (q_fldP (p := (.pointer (some ⟨w18.heap.size, 0, none⟩))) (b := w18.heap.size) (o := 0) 0 fd31_0 rfl rfl zN (e_setB (k := 0) (w := w31) sz2 rfl rfl ⟨rfl, rfl⟩ hF34 sM zN fun w71 hC71 hz71 hB71 => ?_)))))))
                          replace hB71 : BX w71.heap w18.heap.size [(.int .i64 ((5 : Nat) : Int)), (.int .i64 0), (.int .i64 0), (.int .i64 0), (.slice none 0 0)] := hB71
                          have hzs71 : w31.heap.size ≤ w71.heap.size := hC71.size
                          have hE71 : Chg [gs, gg] w w71 := hE31.fresh hC71 (fun c hc => by have := List.mem_singleton.1 hc; omega)
                          have hF72 := hs31.chg hC71 (fun c hc => by have := List.mem_singleton.1 hc; omega)
                          have hF73 := hF32.chg hC71 (fun hm => by have := List.mem_singleton.1 hm; omega)
                          have hF74 := hF33.chg hC71 (fun hm => by have := List.mem_singleton.1 hm; omega)
                          exact lw_nil ⟨(((5 : Nat) : Int), n31), _, rfl, ⟨rfl, rfl, rfl, rfl, rfl, rfl, trivial⟩, ⟨hE71, hF72, hF73, hF74, hB71, oM, oM⟩⟩
                        ·
                          refine q_eql false rfl rfl (decide_eq_false hc70) zN (lw_tvn 1 rfl (c_cond_f rfl (wp_seq (wp_plain _ [0, 0] rfl ?_))))
                          by_cases hc75 : x31_0 = ((8 : Nat) : Int)
                          ·
                            refine q_eql true rfl rfl (decide_eq_true hc75) zN (lw_tvn 1 rfl (c_cond_t rfl (wp_skip (c_cond_t rfl (wp_plain _ [0, 4] rfl (q_fldP (p := (.pointer (some ⟨w18.heap.size, 0, none⟩))) (b := w18.heap.size) (o := 0) 0 fd31_0 rfl rfl zN (e_setB (k := 0) (w := w31) sz2 rfl rfl ⟨rfl, rfl⟩ hF34 sM zN fun w76 hC76 hz76 hB76 => ?_)))))))
                            replace hB76 : BX w76.heap w18.heap.size [(.int .i64 ((5 : Nat) : Int)), (.int .i64 0), (.int .i64 0), (.int .i64 0), (.slice none 0 0)] := hB76
                            have hzs76 : w31.heap.size ≤ w76.heap.size := hC76.size
                            have hE76 : Chg [gs, gg] w w76 := hE31.fresh hC76 (fun c hc => by have := List.mem_singleton.1 hc; omega)
                            have hF77 := hs31.chg hC76 (fun c hc => by have := List.mem_singleton.1 hc; omega)
                            have hF78 := hF32.chg hC76 (fun hm => by have := List.mem_singleton.1 hm; omega)
                            have hF79 := hF33.chg hC76 (fun hm => by have := List.mem_singleton.1 hm; omega)
                            exact lw_nil ⟨(((5 : Nat) : Int), n31), _, rfl, ⟨rfl, rfl, rfl, rfl, rfl, rfl, trivial⟩, ⟨hE76, hF77, hF78, hF79, hB76, oM, oM⟩⟩
                          ·
                            refine q_eql false rfl rfl (decide_eq_false hc75) zN (lw_tvn 1 rfl (c_cond_f rfl (wp_plain _ [0, 0] rfl ?_)))
                            by_cases hc80 : x31_0 = ((9 : Nat) : Int)
                            ·
                              refine q_eql true rfl rfl (decide_eq_true hc80) zN (lw_tvn 1 rfl (c_cond_t rfl (wp_plain _ [0, 4] rfl (q_fldP (p := (.pointer (some ⟨w18.heap.size, 0, none⟩))) (b := w18.heap.size) (o := 0) 0 fd31_0 rfl rfl zN (e_setB (k := 0) (w := w31) sz2 rfl rfl ⟨rfl, rfl⟩ hF34 sM zN fun w81 hC81 hz81 hB81 => ?_)))))
                              replace hB81 : BX w81.heap w18.heap.size [(.int .i64 ((5 : Nat) : Int)), (.int .i64 0), (.int .i64 0), (.int .i64 0), (.slice none 0 0)] := hB81
                              have hzs81 : w31.heap.size ≤ w81.heap.size := hC81.size
                              have hE81 : Chg [gs, gg] w w81 := hE31.fresh hC81 (fun c hc => by have := List.mem_singleton.1 hc; omega)
                              have hF82 := hs31.chg hC81 (fun c hc => by have := List.mem_singleton.1 hc; omega)
                              have hF83 := hF32.chg hC81 (fun hm => by have := List.mem_singleton.1 hm; omega)
                              have hF84 := hF33.chg hC81 (fun hm => by have := List.mem_singleton.1 hm; omega)
                              exact lw_nil ⟨(((5 : Nat) : Int), n31), _, rfl, ⟨rfl, rfl, rfl, rfl, rfl, rfl, trivial⟩, ⟨hE81, hF82, hF83, hF84, hB81, oM, oM⟩⟩
                            ·
                              refine q_eql false rfl rfl (decide_eq_false hc80) zN (lw_tvn 1 rfl (c_cond_f rfl (wp_seq (wp_plain _ [0, 0, 0, 0, 4, 4] rfl (lw_tv 4 rfl (lw_callE 120 [] [] [(.pointer (some ⟨gg, 0, none⟩)), (.int .i64 vars), (.int .i64 funcs), (.int .i64 ((d : Nat) : Int))] rfl rfl cf120 zN (IH2 oM _ gg gs sv cs n31 pp dp (l0 - ((1 : Nat) : Int)) pl p (vars) (funcs) oM hs31 hF32 (hp.chg (good_rP (good_rPr dp)) hE31) _hvars _hfuncs oM oM (by exact hpr) oM oM oM) ?_))))))
                              rintro e85 w85 ⟨v85, x85, n85, l85, rfl, hC85, hs85, hb85, hB85, hO85, hr85, hG85⟩
                              refine ⟨_, rfl, ?_⟩
                              have hzs85 : w31.heap.size ≤ w85.heap.size := hC85.size
                              have hE85 : Chg [gs, gg] w w85 := hE31.trans hC85
                              have hF86 := hF33.chg hC85 (fun hm => by have := mem2 hm; omega)
                              have hF87 := hF34.chg hC85 (fun hm => by have := mem2 hm; omega)
                              refine e_setA (vs := [(.int .i64 x85.kind), (.int .i64 x85.num), (.int .i64 x85.pick), (.int .i64 x85.count), v85]) agg31 rfl rfl (by intro u hu; simp only [List.mem_cons, List.not_mem_nil, or_false] at hu; rcases hu with rfl | rfl | rfl | rfl | rfl <;> first | exact ⟨rfl, rfl⟩ | exact isSl_one hO85.isSlS) hF86 rfl rfl zN fun w88 hC88 hz88 hB88 => ?_
                              replace hB88 : BX w88.heap w.heap.size [(.int .i64 x85.kind), (.int .i64 x85.num), (.int .i64 x85.pick), (.int .i64 x85.count), v85] := hB88
                              have hzs88 : w85.heap.size ≤ w88.heap.size := hC88.size
                              have hE88 : Chg [gs, gg] w w88 := hE85.fresh hC88 (fun c hc => by have := List.mem_singleton.1 hc; omega)
                              have hF89 := hs85.chg hC88 (fun c hc => by have := List.mem_singleton.1 hc; omega)
                              have hF90 := hB85.chg hC88 (fun hm => by have := List.mem_singleton.1 hm; omega)
                              have hF91 := hF87.chg hC88 (fun hm => by have := List.mem_singleton.1 hm; omega)
                              have hF92 := hO85.chg ((good_owS (good_oEx 31 d))) hC88 (fun c hc => by have := List.mem_singleton.1 hc; omega)
                              exact lw_nil (wp_ret (b_ret (t_ret (post_retA (cs := [(.int .i64 x85.kind), (.int .i64 x85.num), (.int .i64 x85.pick), (.int .i64 x85.count), v85]) rfl agg31 rfl hB88 rfl ⟨v85, x85, n85, l85, rfl, hE88, hF89, ⟨by omega, by omega⟩, hF90, ((hF92.up (good_owS (good_oEx 31 d))).low (B' := w.heap.size) oM), hr85, (by exact GOk.up1 (by assumption))⟩))))
        ·
          clear hE0 hz1 hX1 hzs1 hE1 hz3 hC3 hzs3 hE3 hF4 hF5 hC18 hzs18 hE18 hF19 hF20 hz23 hX23 hzs23 hE23 hF19x23 hF20x23 hz26 hC26 hzs26 hE26 hF27 hF28 hF29
          rintro ⟨k, m1⟩ ρ30 w30 ⟨hE30, hL30_0, hL30_1, hL30_2, hL30_3, hkk, hm4⟩
          have hzs30 : w.heap.size ≤ w30.heap.size := hE30.size
          have hq93 := hL30_1.lt
          have hq94 := hL30_2.lt
          have hq95 := hL30_3.lt
          refine wp_seq (c_cut (S := Int) (fun (k2 : Int) => ([(0, (.pointer (some ⟨gg, 0, none⟩))), (1, (.int .i64 vars)), (2, (.int .i64 funcs)), (3, (.int .i64 ((d : Nat) : Int))), (8, (.pointer (some ⟨w.heap.size, 0, none⟩))), (9, (.pointer (some ⟨w18.heap.size, 0, none⟩)))] : List (Nat × Value))) (fun (k2 : Int) (W : World) => Chg [gs, gg] w W ∧ Src W.heap gs sv cs m1 ∧ BX W.heap gg [(.pointer (some ⟨gs, 0, none⟩)), pp, (.int .i64 (l0 - ((1 : Nat) : Int))), (.bool pl)] ∧ BX W.heap w.heap.size [(.int .i64 0), (.int .i64 0), (.int .i64 0), (.int .i64 0), (.slice none 0 0)] ∧ BX W.heap w18.heap.size [(.int .i64 k2), (.int .i64 0), (.int .i64 0), (.int .i64 0), (.slice none 0 0)] ∧ (k2 = 3 ∨ k2 = 4 ∨ k2 = 5 ∨ k2 = 6 ∨ k2 = 7 ∨ k2 = 8 ∨ k2 = 9) ∧ (pl = true → k2 ≠ 6 ∧ k2 ≠ 8)) ?_ ?_)
          ·
            refine wp_seq (wp_plain _ [0, 0, 0, 2, 0, 0, 2, 0, 0, 0, 2, 0, 0, 0] rfl (lw_tv 1 rfl (q_nil rfl zN (q_fldP (p := (.pointer (some ⟨gg, 0, none⟩))) (b := gg) (o := 0) 3 fd106_3 rfl rfl zN (q_load (p := (padd (.pointer (some ⟨gg, 0, none⟩)) 3)) (.inr rfl) (.bool (true && pl)) one4 rfl (hL30_1.ldp (i := 3) sM) zN (lw_tv 1 rfl ?_))))))
            cases hb97 : (true && pl)
            ·
              exact lw_tvn 9 rfl (c_cond_f rfl (wp_skip ⟨k, _, rfl, ⟨rfl, rfl, rfl, rfl, rfl, rfl, trivial⟩, ⟨hE30, hL30_0, hL30_1, hL30_2, hL30_3, oM, z76_2⟩⟩))
            ·
              refine q_fldP (p := (.pointer (some ⟨w18.heap.size, 0, none⟩))) (b := w18.heap.size) (o := 0) 0 fd31_0 rfl rfl (zS (e := 77) rfl rfl rfl) (q_load (p := (padd (.pointer (some ⟨w18.heap.size, 0, none⟩)) 0)) (.inr rfl) (.int .i64 k) one2 rfl (hL30_3.ldp (i := 0) sM) (zS (e := 77) rfl rfl rfl) ?_)
              by_cases hc98 : k = ((8 : Nat) : Int)
              ·
                refine q_eql true rfl rfl (decide_eq_true hc98) (zS (e := 77) rfl rfl rfl) (lw_tvn 6 rfl (c_cond_t rfl (wp_plain _ [0, 4] rfl (q_fldP (p := (.pointer (some ⟨w18.heap.size, 0, none⟩))) (b := w18.heap.size) (o := 0) 0 fd31_0 rfl rfl zN (e_setB (k := 0) (w := w30) sz2 rfl rfl ⟨rfl, rfl⟩ hL30_3 sM zN fun w99 hC99 hz99 hB99 => ?_)))))
                replace hB99 : BX w99.heap w18.heap.size [(.int .i64 ((5 : Nat) : Int)), (.int .i64 0), (.int .i64 0), (.int .i64 0), (.slice none 0 0)] := hB99
                have hzs99 : w30.heap.size ≤ w99.heap.size := hC99.size
                have hE99 : Chg [gs, gg] w w99 := hE30.fresh hC99 (fun c hc => by have := List.mem_singleton.1 hc; omega)
                have hF100 := hL30_0.chg hC99 (fun c hc => by have := List.mem_singleton.1 hc; omega)
                have hF101 := hL30_1.chg hC99 (fun hm => by have := List.mem_singleton.1 hm; omega)
                have hF102 := hL30_2.chg hC99 (fun hm => by have := List.mem_singleton.1 hm; omega)
                exact lw_nil ⟨((5 : Nat) : Int), _, rfl, ⟨rfl, rfl, rfl, rfl, rfl, rfl, trivial⟩, ⟨hE99, hF100, hF101, hF102, hB99, oM, z76_2⟩⟩
              ·
                refine q_eql false rfl rfl (decide_eq_false hc98) (zS (e := 77) rfl rfl rfl) (lw_tv 1 rfl (q_fldP (p := (.pointer (some ⟨w18.heap.size, 0, none⟩))) (b := w18.heap.size) (o := 0) 0 fd31_0 rfl rfl (zS (e := 81) rfl rfl rfl) (q_load (p := (padd (.pointer (some ⟨w18.heap.size, 0, none⟩)) 0)) (.inr rfl) (.int .i64 k) one2 rfl (hL30_3.ldp (i := 0) sM) (zS (e := 81) rfl rfl rfl) ?_)))
                by_cases hc103 : k = ((6 : Nat) : Int)
                ·
                  refine q_eql true rfl rfl (decide_eq_true hc103) (zS (e := 81) rfl rfl rfl) (lw_tvn 2 rfl (c_cond_t rfl (wp_plain _ [0, 4] rfl (q_fldP (p := (.pointer (some ⟨w18.heap.size, 0, none⟩))) (b := w18.heap.size) (o := 0) 0 fd31_0 rfl rfl zN (e_setB (k := 0) (w := w30) sz2 rfl rfl ⟨rfl, rfl⟩ hL30_3 sM zN fun w104 hC104 hz104 hB104 => ?_)))))
                  replace hB104 : BX w104.heap w18.heap.size [(.int .i64 ((5 : Nat) : Int)), (.int .i64 0), (.int .i64 0), (.int .i64 0), (.slice none 0 0)] := hB104
                  have hzs104 : w30.heap.size ≤ w104.heap.size := hC104.size
                  have hE104 : Chg [gs, gg] w w104 := hE30.fresh hC104 (fun c hc => by have := List.mem_singleton.1 hc; omega)
                  have hF105 := hL30_0.chg hC104 (fun c hc => by have := List.mem_singleton.1 hc; omega)
                  have hF106 := hL30_1.chg hC104 (fun hm => by have := List.mem_singleton.1 hm; omega)
                  have hF107 := hL30_2.chg hC104 (fun hm => by have := List.mem_singleton.1 hm; omega)
                  exact lw_nil ⟨((5 : Nat) : Int), _, rfl, ⟨rfl, rfl, rfl, rfl, rfl, rfl, trivial⟩, ⟨hE104, hF105, hF106, hF107, hB104, oM, z76_2⟩⟩
                ·
                  exact q_eql false rfl rfl (decide_eq_false hc103) (zS (e := 81) rfl rfl rfl) (lw_tvn 2 rfl (c_cond_f rfl (wp_skip ⟨k, _, rfl, ⟨rfl, rfl, rfl, rfl, rfl, rfl, trivial⟩, ⟨hE30, hL30_0, hL30_1, hL30_2, hL30_3, oM, z76_2⟩⟩)))
          ·
            clear hL30_3 hL30_2 hL30_1 hL30_0 hE30 hzs30
            rintro k2 ρ96 w96 ⟨hE96, hL96_0, hL96_1, hL96_2, hL96_3, hk2, hk6⟩
            have hzs96 : w.heap.size ≤ w96.heap.size := hE96.size
            have hq108 := hL96_1.lt
            have hq109 := hL96_2.lt
            have hq110 := hL96_3.lt
            refine wp_seq (wp_seq (wp_plain _ [0] rfl (lw_tvn 1 rfl (wp_block ?_))))
            have hknb := kn_p hk2
            refine c_loop (S := Nat × Int × Nat × Value × List Ex) (fun (⟨i, l, m, vk, xs⟩ : Nat × Int × Nat × Value × List Ex) => ([(10, (.int .i64 ((i : Nat) : Int))), (0, (.pointer (some ⟨gg, 0, none⟩))), (1, (.int .i64 vars)), (2, (.int .i64 funcs)), (3, (.int .i64 ((d : Nat) : Int))), (8, (.pointer (some ⟨w.heap.size, 0, none⟩))), (9, (.pointer (some ⟨w18.heap.size, 0, none⟩)))] : List (Nat × Value))) (fun (⟨i, l, m, vk, xs⟩ : Nat × Int × Nat × Value × List Ex) (W : World) => Chg [gs, gg] w W ∧ Fr (owS 5 (oEx 31 d) 31) w96.heap.size W.heap.size W.heap vk xs ∧ Src W.heap gs sv cs m ∧ BX W.heap gg [(.pointer (some ⟨gs, 0, none⟩)), pp, (.int .i64 l), (.bool pl)] ∧ BX W.heap w.heap.size [(.int .i64 0), (.int .i64 0), (.int .i64 0), (.int .i64 0), (.slice none 0 0)] ∧ BX W.heap w18.heap.size [(.int .i64 k2), (.int .i64 0), (.int .i64 0), (.int .i64 0), vk] ∧ ((i : Nat) : Int) ≤ kn k2 ∧ KOk p funcs vars pl k2 d (l0 - 1) l xs i ∧ (n0 ≤ m ∧ m ≤ n0 + 8 + tmN i (stp (d - 1))) ∧ gg < w96.heap.size ∧ w.heap.size < w96.heap.size ∧ w18.heap.size < w96.heap.size ∧ w96.heap.size ≤ W.heap.size) (fun (⟨i, l, m, vk, xs⟩ : Nat × Int × Nat × Value × List Ex) => (kn k2).toNat - i) (0, (l0 - ((1 : Nat) : Int)), m1, (.slice none 0 0), ([] : List Ex)) ⟨rfl, rfl, rfl, rfl, rfl, rfl, rfl, trivial⟩ ⟨hE96, (frNilS _ 0 _).up (good_owS (good_oEx 31 d)), hL96_0, hL96_1, hL96_2, hL96_3, oM, (by exact KOk.nil ..), (by exact ⟨by omega, by show _ ≤ n0 + 8 + 0; omega⟩), oM, oM, oM, oM⟩ ?_
            clear hL96_3 hL96_2 hL96_1 hL96_0
            rintro ⟨i, l, m, vk, xs⟩ ρ114 w114 ⟨hE114, hL114_0, hL114_1, hL114_2, hL114_3, hL114_4, hi4, hko, hmb, hkg111, hkg112, hkg113, hkB115⟩
            have hzs114 : w.heap.size ≤ w114.heap.size := hE114.size
            have hq116 := hL114_2.lt
            have hq117 := hL114_3.lt
            have hq118 := hL114_4.lt
            refine wp_seq (wp_seq (wp_plain _ [0, 0, 2, 0, 0] rfl (lw_tv 1 rfl (q_fldP (p := (.pointer (some ⟨w18.heap.size, 0, none⟩))) (b := w18.heap.size) (o := 0) 0 fd31_0 rfl rfl zN (q_load (p := (padd (.pointer (some ⟨w18.heap.size, 0, none⟩)) 0)) (.inr rfl) (.int .i64 k2) one2 rfl (hL114_4.ldp (i := 0) sM) zN (lw_callq 121 [] [] [(.int .i64 k2)] rfl rfl cf121 zN (.int .i64 (kn k2)) (fun wq => c_kn wq _ oM) ?_))))))
            by_cases hc120 : ((i : Nat) : Int) < kn k2
            ·
              refine q_lss true rfl rfl (decide_eq_true hc120) zN (lw_nil (c_cond_t rfl (wp_skip (wp_seq (wp_block (wp_seq (wp_plain _ [0, 0] rfl (lw_tvn 2 rfl (wp_seq (wp_seq (wp_plain _ [0, 2, 0, 0, 0, 0, 0] rfl (q_fldP (p := (.pointer (some ⟨w18.heap.size, 0, none⟩))) (b := w18.heap.size) (o := 0) 0 fd31_0 rfl rfl zN (q_load (p := (padd (.pointer (some ⟨w18.heap.size, 0, none⟩)) 0)) (.inr rfl) (.int .i64 k2) one2 rfl (hL114_4.ldp (i := 0) sM) zN ?_)))))))))))))
              by_cases hc121 : k2 = ((9 : Nat) : Int)
              ·
                refine q_eql true rfl rfl (decide_eq_true hc121) zN (lw_tv 2 rfl ?_)
                by_cases hc122 : ((i : Nat) : Int) = ((1 : Nat) : Int)
                ·
                  refine q_eql true rfl rfl (decide_eq_true hc122) (zS (e := 99) rfl rfl rfl) (lw_tvn 1 rfl (c_cond_t rfl (wp_plain _ [0, 0, 0] rfl (lw_tv 1 rfl ?_))))
                  refine q_add (vars + ((1 : Nat) : Int)) rfl rfl (w64 sD sD) zN (lw_tvn 1 rfl ?_)
                  letI : JR := jrC [gs, gg]
                  refine Jx.wp_draw _ [0, 1, 0, 0, 0, 0, 0, 3, 3, 4, 0, 4] mixed (by kernel_rfl) ?_
                  have htn := tmN_4 (k := stp (d - 1)) (i := i + 1) oM
                  have hts : tmN (i + 1) (stp (d - 1)) = tmN i (stp (d - 1)) + stp (d - 1) := rfl
                  have hti := tmI_4 (k := nds (d - 1)) (i := i) oM oM
                  have hlo := hko.lo
                  have hln := hko.len
                  refine Jx.q_fldP (p := (.pointer (some ⟨w18.heap.size, 0, none⟩))) (b := w18.heap.size) (o := 0) 4 fd31_4 rfl rfl zN (Jx.q_loadJ (p := (padd (.pointer (some ⟨w18.heap.size, 0, none⟩)) 4)) vk one29 rfl (fun wj hj => (BX.chg (w := w114.drew) (F := [gs, gg]) hL114_4 hj (fun hm => by have := mem2 hm; omega)).ldp (i := 4) sM) zN (Jx.q_move (.pointer (some ⟨gg, 0, none⟩)) rfl zN (Jx.q_move (.int .i64 (vars + ((1 : Nat) : Int))) rfl zN (Jx.q_move (.int .i64 funcs) rfl zN (Jx.q_move (.int .i64 ((d : Nat) : Int)) rfl zN (Jx.j1 (q_sub ((d - 1 : Nat) : Int) rfl rfl (by rw [w64 oM oM]; omega) zN (lw_nil ?_))))))))
                  refine Jx.lw_call 76 [] [] [(.pointer (some ⟨gg, 0, none⟩)), (.int .i64 (vars + ((1 : Nat) : Int))), (.int .i64 funcs), (.int .i64 ((d - 1 : Nat) : Int))] rfl rfl cf76 zN (IH1 (d - 1) oM _ gg gs sv cs m pp dp l pl p (vars + ((1 : Nat) : Int)) (funcs) oM hL114_1 hL114_2 (hp.chg (good_rP (good_rPr dp)) hE114.drew) oM _hfuncs oM oM (by exact hpr) oM oM oM) ?_
                  rintro e123 w123 ⟨v123, x123, n123, l123, rfl, hC123, hs123, hb123, hB123, hO123, hr123, hG123⟩
                  refine ⟨_, rfl, hC123, ?_⟩
                  replace hO123 := hO123.low (B' := w114.heap.size) (Nat.le_refl _)
                  replace hC123 := hC123.of_drew
                  have hzs123 : w114.heap.size ≤ w123.heap.size := hC123.size
                  have hE123 : Chg [gs, gg] w w123 := hE114.trans hC123
                  have hF124 := hL114_0.chg ((good_owS (good_oEx 31 d))) hC123 (fun c hc => by have := mem2 hc; omega)
                  have hF125 := hL114_3.chg hC123 (fun hm => by have := mem2 hm; omega)
                  have hF126 := hL114_4.chg hC123 (fun hm => by have := mem2 hm; omega)
                  refine Jx.tail rfl (r_oneS (cs := [(.int .i64 x123.kind), (.int .i64 x123.num), (.int .i64 x123.pick), (.int .i64 x123.count), v123]) (y := x123) (B := w114.heap.size) (good_oEx 31 d) u29 tiS31 rfl (by decide) rfl (FrN.mk1 oM hr123 hO123) oM zN fun v127 w127 hX127 hz127 hO127 => ?_)
                  have hzs127 : w123.heap.size ≤ w127.heap.size := hX127.size
                  have hE127 : Chg [gs, gg] w w127 := hE123.ext hX127
                  have hF124x127 := hF124.ext ((good_owS (good_oEx 31 d))) hX127
                  have hs123x127 := hs123.ext hX127
                  have hB123x127 := hB123.ext hX127
                  have hF125x127 := hF125.ext hX127
                  have hF126x127 := hF126.ext hX127
                  refine e_appS (v := vk) (a := v127) (good_oEx 31 d) u29 tiS31 rfl (by decide) rfl rfl hF124x127 oM hO127 oM oM oM (by unfold maxLen; omega) zN fun v128 w128 F128 hC128 hF128 hO128 => ?_
                  have hzs128 : w127.heap.size ≤ w128.heap.size := hC128.size
                  have hE128 : Chg [gs, gg] w w128 := hE127.fresh hC128 (fun c hc => by have := hF128 _ hc; omega)
                  have hF129 := hs123x127.chg hC128 (fun c hc => by have := hF128 _ hc; omega)
                  have hF130 := hB123x127.chg hC128 (fun hm => by have := hF128 _ hm; omega)
                  have hF131 := hF125x127.chg hC128 (fun hm => by have := hF128 _ hm; omega)
                  have hF132 := hF126x127.chg hC128 (fun hm => by have := hF128 _ hm; omega)
                  refine q_fldP (p := (.pointer (some ⟨w18.heap.size, 0, none⟩))) (b := w18.heap.size) (o := 0) 4 fd31_4 rfl rfl zN (e_setB (k := 4) (w := w128) sz29 rfl rfl (isSl_one hO128.isSlS) hF132 sM zN fun w133 hC133 hz133 hB133 => ?_)
                  replace hB133 : BX w133.heap w18.heap.size [(.int .i64 k2), (.int .i64 0), (.int .i64 0), (.int .i64 0), v128] := hB133
                  have hzs133 : w128.heap.size ≤ w133.heap.size := hC133.size
                  have hE133 : Chg [gs, gg] w w133 := hE128.fresh hC133 (fun c hc => by have := List.mem_singleton.1 hc; omega)
                  have hF134 := hF129.chg hC133 (fun c hc => by have := List.mem_singleton.1 hc; omega)
                  have hF135 := hF130.chg hC133 (fun hm => by have := List.mem_singleton.1 hm; omega)
                  have hF136 := hF131.chg hC133 (fun hm => by have := List.mem_singleton.1 hm; omega)
                  have hF137 := hO128.chg ((good_owS (good_oEx 31 d))) hC133 (fun c hc => by have := List.mem_singleton.1 hc; omega)
                  exact lw_nil (wp_plain _ [0, 0, 0] rfl (lw_tv 1 rfl (q_add ((i + 1 : Nat) : Int) rfl rfl (w64n oM oM) zN (lw_tvn 1 rfl ⟨((i + 1), l123, n123, v128, (xs ++ [x123])), _, rfl, ⟨rfl, rfl, rfl, rfl, rfl, rfl, rfl, trivial⟩, ⟨hE133, hF137.up (good_owS (good_oEx 31 d)), hF134, hF135, hF136, hB133, oM, z76_1, oM, oM, oM, oM, oM⟩, by first | omega | (dsimp only; omega)⟩))))
                ·
                  refine q_eql false rfl rfl (decide_eq_false hc122) (zS (e := 99) rfl rfl rfl) (lw_tvn 1 rfl (c_cond_f rfl (wp_skip ?_)))
                  letI : JR := jrC [gs, gg]
                  refine Jx.wp_draw _ [0, 1, 0, 0, 0, 0, 0, 3, 3, 4, 0, 4] mixed (by kernel_rfl) ?_
                  have htn := tmN_4 (k := stp (d - 1)) (i := i + 1) oM
                  have hts : tmN (i + 1) (stp (d - 1)) = tmN i (stp (d - 1)) + stp (d - 1) := rfl
                  have hti := tmI_4 (k := nds (d - 1)) (i := i) oM oM
                  have hlo := hko.lo
                  have hln := hko.len
                  refine Jx.q_fldP (p := (.pointer (some ⟨w18.heap.size, 0, none⟩))) (b := w18.heap.size) (o := 0) 4 fd31_4 rfl rfl zN (Jx.q_loadJ (p := (padd (.pointer (some ⟨w18.heap.size, 0, none⟩)) 4)) vk one29 rfl (fun wj hj => (BX.chg (w := w114.drew) (F := [gs, gg]) hL114_4 hj (fun hm => by have := mem2 hm; omega)).ldp (i := 4) sM) zN (Jx.q_move (.pointer (some ⟨gg, 0, none⟩)) rfl zN (Jx.q_move (.int .i64 vars) rfl zN (Jx.q_move (.int .i64 funcs) rfl zN (Jx.q_move (.int .i64 ((d : Nat) : Int)) rfl zN (Jx.j1 (q_sub ((d - 1 : Nat) : Int) rfl rfl (by rw [w64 oM oM]; omega) zN (lw_nil ?_))))))))
                  refine Jx.lw_call 76 [] [] [(.pointer (some ⟨gg, 0, none⟩)), (.int .i64 vars), (.int .i64 funcs), (.int .i64 ((d - 1 : Nat) : Int))] rfl rfl cf76 zN (IH1 (d - 1) oM _ gg gs sv cs m pp dp l pl p (vars) (funcs) oM hL114_1 hL114_2 (hp.chg (good_rP (good_rPr dp)) hE114.drew) _hvars _hfuncs oM oM (by exact hpr) oM oM oM) ?_
                  rintro e138 w138 ⟨v138, x138, n138, l138, rfl, hC138, hs138, hb138, hB138, hO138, hr138, hG138⟩
                  refine ⟨_, rfl, hC138, ?_⟩
                  replace hO138 := hO138.low (B' := w114.heap.size) (Nat.le_refl _)
                  replace hC138 := hC138.of_drew
                  have hzs138 : w114.heap.size ≤ w138.heap.size := hC138.size
                  have hE138 : Chg [gs, gg] w w138 := hE114.trans hC138
                  have hF139 := hL114_0.chg ((good_owS (good_oEx 31 d))) hC138 (fun c hc => by have := mem2 hc; omega)
                  have hF140 := hL114_3.chg hC138 (fun hm => by have := mem2 hm; omega)
                  have hF141 := hL114_4.chg hC138 (fun hm => by have := mem2 hm; omega)
                  refine Jx.tail rfl (r_oneS (cs := [(.int .i64 x138.kind), (.int .i64 x138.num), (.int .i64 x138.pick), (.int .i64 x138.count), v138]) (y := x138) (B := w114.heap.size) (good_oEx 31 d) u29 tiS31 rfl (by decide) rfl (FrN.mk1 oM hr138 hO138) oM zN fun v142 w142 hX142 hz142 hO142 => ?_)
                  have hzs142 : w138.heap.size ≤ w142.heap.size := hX142.size
                  have hE142 : Chg [gs, gg] w w142 := hE138.ext hX142
                  have hF139x142 := hF139.ext ((good_owS (good_oEx 31 d))) hX142
                  have hs138x142 := hs138.ext hX142
                  have hB138x142 := hB138.ext hX142
                  have hF140x142 := hF140.ext hX142
                  have hF141x142 := hF141.ext hX142
                  refine e_appS (v := vk) (a := v142) (good_oEx 31 d) u29 tiS31 rfl (by decide) rfl rfl hF139x142 oM hO142 oM oM oM (by unfold maxLen; omega) zN fun v143 w143 F143 hC143 hF143 hO143 => ?_
                  have hzs143 : w142.heap.size ≤ w143.heap.size := hC143.size
                  have hE143 : Chg [gs, gg] w w143 := hE142.fresh hC143 (fun c hc => by have := hF143 _ hc; omega)
                  have hF144 := hs138x142.chg hC143 (fun c hc => by have := hF143 _ hc; omega)
                  have hF145 := hB138x142.chg hC143 (fun hm => by have := hF143 _ hm; omega)
                  have hF146 := hF140x142.chg hC143 (fun hm => by have := hF143 _ hm; omega)
                  have hF147 := hF141x142.chg hC143 (fun hm => by have := hF143 _ hm; omega)
                  refine q_fldP (p := (.pointer (some ⟨w18.heap.size, 0, none⟩))) (b := w18.heap.size) (o := 0) 4 fd31_4 rfl rfl zN (e_setB (k := 4) (w := w143) sz29 rfl rfl (isSl_one hO143.isSlS) hF147 sM zN fun w148 hC148 hz148 hB148 => ?_)
                  replace hB148 : BX w148.heap w18.heap.size [(.int .i64 k2), (.int .i64 0), (.int .i64 0), (.int .i64 0), v143] := hB148
                  have hzs148 : w143.heap.size ≤ w148.heap.size := hC148.size
                  have hE148 : Chg [gs, gg] w w148 := hE143.fresh hC148 (fun c hc => by have := List.mem_singleton.1 hc; omega)
                  have hF149 := hF144.chg hC148 (fun c hc => by have := List.mem_singleton.1 hc; omega)
                  have hF150 := hF145.chg hC148 (fun hm => by have := List.mem_singleton.1 hm; omega)
                  have hF151 := hF146.chg hC148 (fun hm => by have := List.mem_singleton.1 hm; omega)
                  have hF152 := hO143.chg ((good_owS (good_oEx 31 d))) hC148 (fun c hc => by have := List.mem_singleton.1 hc; omega)
                  exact lw_nil (wp_plain _ [0, 0, 0] rfl (lw_tv 1 rfl (q_add ((i + 1 : Nat) : Int) rfl rfl (w64n oM oM) zN (lw_tvn 1 rfl ⟨((i + 1), l138, n138, v143, (xs ++ [x138])), _, rfl, ⟨rfl, rfl, rfl, rfl, rfl, rfl, rfl, trivial⟩, ⟨hE148, hF152.up (good_owS (good_oEx 31 d)), hF149, hF150, hF151, hB148, oM, z76_1, oM, oM, oM, oM, oM⟩, by first | omega | (dsimp only; omega)⟩))))
              ·
                refine q_eql false rfl rfl (decide_eq_false hc121) zN (lw_tvn 4 rfl (c_cond_f rfl (wp_skip ?_)))
                letI : JR := jrC [gs, gg]
                refine Jx.wp_draw _ [0, 1, 0, 0, 0, 0, 0, 3, 3, 4, 0, 4] mixed (by kernel_rfl) ?_
                have htn := tmN_4 (k := stp (d - 1)) (i := i + 1) oM
                have hts : tmN (i + 1) (stp (d - 1)) = tmN i (stp (d - 1)) + stp (d - 1) := rfl
                have hti := tmI_4 (k := nds (d - 1)) (i := i) oM oM
                have hlo := hko.lo
                have hln := hko.len
                refine Jx.q_fldP (p := (.pointer (some ⟨w18.heap.size, 0, none⟩))) (b := w18.heap.size) (o := 0) 4 fd31_4 rfl rfl zN (Jx.q_loadJ (p := (padd (.pointer (some ⟨w18.heap.size, 0, none⟩)) 4)) vk one29 rfl (fun wj hj => (BX.chg (w := w114.drew) (F := [gs, gg]) hL114_4 hj (fun hm => by have := mem2 hm; omega)).ldp (i := 4) sM) zN (Jx.q_move (.pointer (some ⟨gg, 0, none⟩)) rfl zN (Jx.q_move (.int .i64 vars) rfl zN (Jx.q_move (.int .i64 funcs) rfl zN (Jx.q_move (.int .i64 ((d : Nat) : Int)) rfl zN (Jx.j1 (q_sub ((d - 1 : Nat) : Int) rfl rfl (by rw [w64 oM oM]; omega) zN (lw_nil ?_))))))))
                refine Jx.lw_call 76 [] [] [(.pointer (some ⟨gg, 0, none⟩)), (.int .i64 vars), (.int .i64 funcs), (.int .i64 ((d - 1 : Nat) : Int))] rfl rfl cf76 zN (IH1 (d - 1) oM _ gg gs sv cs m pp dp l pl p (vars) (funcs) oM hL114_1 hL114_2 (hp.chg (good_rP (good_rPr dp)) hE114.drew) _hvars _hfuncs oM oM (by exact hpr) oM oM oM) ?_
                rintro e153 w153 ⟨v153, x153, n153, l153, rfl, hC153, hs153, hb153, hB153, hO153, hr153, hG153⟩
                refine ⟨_, rfl, hC153, ?_⟩
                replace hO153 := hO153.low (B' := w114.heap.size) (Nat.le_refl _)
                replace hC153 := hC153.of_drew
                have hzs153 : w114.heap.size ≤ w153.heap.size := hC153.size
                have hE153 : Chg [gs, gg] w w153 := hE114.trans hC153
                have hF154 := hL114_0.chg ((good_owS (good_oEx 31 d))) hC153 (fun c hc => by have := mem2 hc; omega)
                have hF155 := hL114_3.chg hC153 (fun hm => by have := mem2 hm; omega)
                have hF156 := hL114_4.chg hC153 (fun hm => by have := mem2 hm; omega)
                refine Jx.tail rfl (r_oneS (cs := [(.int .i64 x153.kind), (.int .i64 x153.num), (.int .i64 x153.pick), (.int .i64 x153.count), v153]) (y := x153) (B := w114.heap.size) (good_oEx 31 d) u29 tiS31 rfl (by decide) rfl (FrN.mk1 oM hr153 hO153) oM zN fun v157 w157 hX157 hz157 hO157 => ?_)
                have hzs157 : w153.heap.size ≤ w157.heap.size := hX157.size
                have hE157 : Chg [gs, gg] w w157 := hE153.ext hX157
                have hF154x157 := hF154.ext ((good_owS (good_oEx 31 d))) hX157
                have hs153x157 := hs153.ext hX157
                have hB153x157 := hB153.ext hX157
                have hF155x157 := hF155.ext hX157
                have hF156x157 := hF156.ext hX157
                refine e_appS (v := vk) (a := v157) (good_oEx 31 d) u29 tiS31 rfl (by decide) rfl rfl hF154x157 oM hO157 oM oM oM (by unfold maxLen; omega) zN fun v158 w158 F158 hC158 hF158 hO158 => ?_
                have hzs158 : w157.heap.size ≤ w158.heap.size := hC158.size
                have hE158 : Chg [gs, gg] w w158 := hE157.fresh hC158 (fun c hc => by have := hF158 _ hc; omega)
                have hF159 := hs153x157.chg hC158 (fun c hc => by have := hF158 _ hc; omega)
                have hF160 := hB153x157.chg hC158 (fun hm => by have := hF158 _ hm; omega)
                have hF161 := hF155x157.chg hC158 (fun hm => by have := hF158 _ hm; omega)
                have hF162 := hF156x157.chg hC158 (fun hm => by have := hF158 _ hm; omega)
                refine q_fldP (p := (.pointer (some ⟨w18.heap.size, 0, none⟩))) (b := w18.heap.size) (o := 0) 4 fd31_4 rfl rfl zN (e_setB (k := 4) (w := w158) sz29 rfl rfl (isSl_one hO158.isSlS) hF162 sM zN fun w163 hC163 hz163 hB163 => ?_)
                replace hB163 : BX w163.heap w18.heap.size [(.int .i64 k2), (.int .i64 0), (.int .i64 0), (.int .i64 0), v158] := hB163
                have hzs163 : w158.heap.size ≤ w163.heap.size := hC163.size
                have hE163 : Chg [gs, gg] w w163 := hE158.fresh hC163 (fun c hc => by have := List.mem_singleton.1 hc; omega)
                have hF164 := hF159.chg hC163 (fun c hc => by have := List.mem_singleton.1 hc; omega)
                have hF165 := hF160.chg hC163 (fun hm => by have := List.mem_singleton.1 hm; omega)
                have hF166 := hF161.chg hC163 (fun hm => by have := List.mem_singleton.1 hm; omega)
                have hF167 := hO158.chg ((good_owS (good_oEx 31 d))) hC163 (fun c hc => by have := List.mem_singleton.1 hc; omega)
                exact lw_nil (wp_plain _ [0, 0, 0] rfl (lw_tv 1 rfl (q_add ((i + 1 : Nat) : Int) rfl rfl (w64n oM oM) zN (lw_tvn 1 rfl ⟨((i + 1), l153, n153, v158, (xs ++ [x153])), _, rfl, ⟨rfl, rfl, rfl, rfl, rfl, rfl, rfl, trivial⟩, ⟨hE163, hF167.up (good_owS (good_oEx 31 d)), hF164, hF165, hF166, hB163, oM, z76_1, oM, oM, oM, oM, oM⟩, by first | omega | (dsimp only; omega)⟩))))
            ·
              refine q_lss false rfl rfl (decide_eq_false hc120) zN (lw_nil (c_cond_f rfl (wp_exit (t_exit (t_exit (c_exit_here (wp_seq (wp_plain _ [2, 4] rfl (q_loadA (p := (.pointer (some ⟨w18.heap.size, 0, none⟩))) (.inr rfl) [(.int .i64 k2), (.int .i64 0), (.int .i64 0), (.int .i64 0), vk] agg31 rfl (fun w9 hw9 => LD.of_box (BX.ext (w := w114) hL114_4 hw9)) rfl zN (e_setA (vs := [(.int .i64 k2), (.int .i64 0), (.int .i64 0), (.int .i64 0), vk]) agg31 rfl rfl (by intro u hu; simp only [List.mem_cons, List.not_mem_nil, or_false] at hu; rcases hu with rfl | rfl | rfl | rfl | rfl <;> first | exact ⟨rfl, rfl⟩ | exact isSl_one hL114_0.isSlS) hL114_3 rfl rfl zN fun w168 hC168 hz168 hB168 => ?_))))))))))
              replace hB168 : BX w168.heap w.heap.size [(.int .i64 k2), (.int .i64 0), (.int .i64 0), (.int .i64 0), vk] := hB168
              have hzs168 : w114.heap.size ≤ w168.heap.size := hC168.size
              have hE168 : Chg [gs, gg] w w168 := hE114.fresh hC168 (fun c hc => by have := List.mem_singleton.1 hc; omega)
              have hF169 := hL114_0.chg ((good_owS (good_oEx 31 d))) hC168 (fun c hc => by have := List.mem_singleton.1 hc; omega)
              have hF170 := hL114_1.chg hC168 (fun c hc => by have := List.mem_singleton.1 hc; omega)
              have hF171 := hL114_2.chg hC168 (fun hm => by have := List.mem_singleton.1 hm; omega)
              have hF172 := hL114_4.chg hC168 (fun hm => by have := List.mem_singleton.1 hm; omega)
              refine lw_nil (wp_ret ?_)
              have hln := hko.len
              have htn := tmN_4 (k := stp (d - 1)) (i := i) oM
              exact post_retA (cs := [(.int .i64 k2), (.int .i64 0), (.int .i64 0), (.int .i64 0), vk]) rfl agg31 rfl hB168 rfl ⟨vk, (.mk k2 0 0 0 xs), m, l, rfl, hE168, hF170, ⟨by omega, by omega⟩, hF171, ((hF169.up (good_owS (good_oEx 31 d))).low (B' := w.heap.size) oM), (exR_mk oM oM oM oM), (by exact hko.node oM oM oM hk6 (wfN_op oM oM))⟩
      ·
        refine c_cond_t (by first | rfl | (show Value.bool _ = _; rw [hb21])) (wp_seq (wp_plain _ [0, 0, 4, 4] rfl (lw_tv 2 rfl (lw_callE 119 [] [] [(.pointer (some ⟨gg, 0, none⟩)), (.int .i64 vars)] rfl rfl cf119 zN (c_spec_l02Gen_leaf _ gg gs sv cs n18 pp dp (l0 - ((1 : Nat) : Int)) pl p (vars) oM hs18 hF19 (hp.chg (good_rP (good_rPr dp)) hE18) _hvars oM oM) ?_))))
        rintro e173 w173 ⟨x173, n173, rfl, hC173, hs173, hb173, hB173, hr173, hkd173, hG173⟩
        refine ⟨_, rfl, ?_⟩
        have hzs173 : w18.heap.size ≤ w173.heap.size := hC173.size
        have hE173 : Chg [gs, gg] w w173 := hE18.trans hC173
        have hF174 := hF20.chg hC173 (fun hm => by have := mem2 hm; omega)
        refine e_setA (vs := [(.int .i64 x173.kind), (.int .i64 x173.num), (.int .i64 x173.pick), (.int .i64 x173.count), (.slice none 0 0)]) agg31 rfl rfl z76_0 hF174 rfl rfl zN fun w175 hC175 hz175 hB175 => ?_
        replace hB175 : BX w175.heap w.heap.size [(.int .i64 x173.kind), (.int .i64 x173.num), (.int .i64 x173.pick), (.int .i64 x173.count), (.slice none 0 0)] := hB175
        have hzs175 : w173.heap.size ≤ w175.heap.size := hC175.size
        have hE175 : Chg [gs, gg] w w175 := hE173.fresh hC175 (fun c hc => by have := List.mem_singleton.1 hc; omega)
        have hF176 := hs173.chg hC175 (fun c hc => by have := List.mem_singleton.1 hc; omega)
        have hF177 := hB173.chg hC175 (fun hm => by have := List.mem_singleton.1 hm; omega)
        exact lw_nil (wp_ret (t_ret (post_retA (cs := [(.int .i64 x173.kind), (.int .i64 x173.num), (.int .i64 x173.pick), (.int .i64 x173.count), (.slice none 0 0)]) rfl agg31 rfl hB175 rfl ⟨(.slice none 0 0), x173, n173, (l0 - ((1 : Nat) : Int)), rfl, hE175, hF176, ⟨by omega, by omega⟩, hF177, (by rw [hkd173]; exact frNilS _ _ _), hr173, (by exact LOk.ok (by assumption) d)⟩)))
theorem GX_all : ∀ d, GX d ∧ (1 ≤ d → GC d) := by
  intro d
  induction d using Nat.strongRecOn with
  | _ d ih =>
    have hc : 1 ≤ d → GC d := fun h1 w gg gs sv cs n0 pp dp l0 pl p vars funcs hgg hs hB0 hp hv' hf' hv hfu hpr hd hn hl => c_spec_l02Gen_call w gg gs sv cs n0 pp dp l0 pl p vars funcs d hgg hs hB0 hp hv' hf' hv hfu hpr hd hn hl (ih (d - 1) (by omega)).1
    exact ⟨fun w gg gs sv cs n0 pp dp l0 pl p vars funcs hgg hs hB0 hp hv' hf' hv hfu hpr hd hn hl => c_spec_l02Gen_expr w gg gs sv cs n0 pp dp l0 pl p vars funcs d hgg hs hB0 hp hv' hf' hv hfu hpr hd hn hl (fun d' h => (ih d' h).1) hc, hc⟩
theorem GX_any (d : Nat) : GX d := (GX_all d).1end Go.Proofs.Ytnofbmdpabcjaaa
namespace Go.Proofs.Ytnofbmdpabcjaaa
open Go Go.RowKit
set_option linter.unusedVariables false
set_option linter.unusedSimpArgs false
set_option maxHeartbeats 4000000
set_option maxRecDepth 100000
attribute [local irreducible] LW
theorem c_spec_l00Src_text (w : World) (g : Nat) (sv : Value) (cs : List UInt8) (n0 : Nat) (vl : Value) (us : List Value) (hs : Src w.heap g sv cs n0) (hn0 : n0 + 2 ≤ 1000000000000) (hl : ∀ w', Chg [g] w w' → Rd (rdL rV) w'.heap vl us) (hus : ∀ u ∈ us, ∃ s, u = Value.string s) (hul : 1 ≤ us.length ∧ us.length ≤ 1000)  :
    Calls Try.prog 118 #[.pointer (some ⟨g, 0, none⟩), vl] w (fun e w' => ∃ (x0 : ByteArray) (n1 : Nat), e = .returned (.string x0) ∧ Chg [g] w w' ∧ Src w'.heap g sv cs n1 ∧ (n0 ≤ n1 ∧ n1 ≤ n0 + 2) ∧ (Value.string x0 ∈ us)) := by
  refine calls_mk [.pointer (some ⟨g, 0, none⟩), vl] 12 Try.func118 rfl rfl sM ?_
  have hE0 : Chg [g] w w := Chg.refl [g] w
  have hl_vl := (hl _ hE0).lenle
  have hgl := hs.lt
  refine wp_seq (wp_plain _ [0] rfl (lw_tvn 1 rfl (wp_seq (wp_plain _ [0, 0, 0, 0, 4, 0, 2, 0] rfl (lw_tv 3 rfl (q_len (v := vl) u149 rfl (hl _ hE0).isSl zN (lw_callE 43 [] [] [(.pointer (some ⟨g, 0, none⟩)), (.int .i64 ((us.length : Nat) : Int))] rfl rfl cf43 zN (c_spec_l00Src_pick _ g _ _ _ (((us.length : Nat) : Int)) hs oM oM oM) ?_)))))))
  rintro e1 w1 ⟨x1_0, n1, rfl, hC1, hs1, hb1, hp1_0⟩
  refine ⟨_, rfl, ?_⟩
  have hzs1 : w.heap.size ≤ w1.heap.size := hC1.size
  have hE1 : Chg [g] w w1 := hE0.trans hC1
  refine q_idx (v := vl) ((x1_0).toNat) u149 ti9 rfl rfl (hl _ hE1).isSl oM sD zN ?_
  obtain ⟨sx2, hsx2⟩ := hus (us.getD ((x1_0).toNat) undef) (gd_mem sD)
  refine q_load (p := eptr vl ((x1_0).toNat) 1) (.inr rfl) (.string sx2) one9 rfl (by rw [← hsx2]; exact (Rd.getV (hl _ hE1) sD).1) zN ?_
  have hsm : Value.string sx2 ∈ us := hsx2 ▸ gd_mem sD
  exact lw_tvn 1 rfl (wp_ret (post_ret [4] rfl (.string sx2) rfl ⟨sx2, n1, rfl, hE1, hs1, ⟨by omega, by omega⟩, (by exact hsm)⟩))
theorem c_spec_Decimal (w : World) (n : Int) (_hn : -9223372036854775808 ≤ n ∧ n ≤ 9223372036854775807) (hk : 0 ≤ n ∧ n < 10) :
    Calls Try.prog 86 #[.int .i64 n] w (fun e w' => ∃ s, e = .returned (.string s) ∧ Ext w w' ∧ s = dig n.toNat) := by
  refine calls_mk [.int .i64 n] 20 Try.func86 rfl rfl sM ?_
  have hE0 : Ext w w := Ext.refl w
  refine wp_seq (wp_plain _ [0] rfl (lw_tvn 1 rfl (wp_seq (wp_seq (wp_plain _ [0, 0] rfl (lw_tv 1 rfl ?_))))))
  by_cases hc1 : n < ((10 : Nat) : Int)
  ·
    refine q_lss true rfl rfl (decide_eq_true hc1) zN (lw_nil (c_cond_t rfl (wp_seq (wp_plain _ [0, 0, 0, 3, 2, 0] rfl (lw_tv 1 rfl ?_)))))
    refine q_add (((48 : Nat) : Int) + n) rfl rfl (w64 sD sD) zN (q_conv (IntKind.u8.wrap (((48 : Nat) : Int) + n)) u2 u5 rfl rfl zN ?_)
    refine r_one (u := (.int .u8 (IntKind.u8.wrap (((48 : Nat) : Int) + n)))) (B := w.heap.size) good_rV u22 ti5 rfl rfl (frV (w.heap.size) (w.heap.size) _ ⟨rfl, rfl⟩) (Nat.le_refl _) zN fun v2 w2 hX2 hz2 hO2 => ?_
    have hzs2 : w.heap.size ≤ w2.heap.size := hX2.size
    have hE2 : Ext w w2 := hE0.trans hX2
    exact q_byteE u22 u5 u9 rfl hO2 zN (lw_tvn 1 rfl (wp_ret (t_ret (post_ret [2] rfl (.string (⟨#[UInt8.ofNat (IntKind.u8.wrap (((48 : Nat) : Int) + n)).toNat]⟩ : ByteArray)) rfl ⟨(⟨#[UInt8.ofNat (IntKind.u8.wrap (((48 : Nat) : Int) + n)).toNat]⟩ : ByteArray), rfl, hE2, (by exact dig_eq hk.1 hk.2)⟩))))
  ·
    exact absurd hk.2 hc1
theorem c_spec_l02Draw (w : World) (g : Nat) (sv : Value) (cs : List UInt8) (n0 : Nat) (funcs : Int) (nodes : Int) (plain : Bool) (hs : Src w.heap g sv cs n0) (hn0 : n0 + (150000 * funcs.toNat) ≤ 1000000000000) (_hfuncs : -9223372036854775808 ≤ funcs ∧ funcs ≤ 9223372036854775807) (_hnodes : -9223372036854775808 ≤ nodes ∧ nodes ≤ 9223372036854775807) (hfn : 0 ≤ funcs ∧ funcs ≤ 9) (hnd : 1 ≤ nodes ∧ nodes ≤ 30) :
    Calls Try.prog 75 #[.pointer (some ⟨g, 0, none⟩), .int .i64 funcs, .int .i64 nodes, .bool plain] w (fun e w' => ∃ (v : Value) (p : List Fn) (n1 : Nat), e = .returned (.agg #[v]) ∧ Chg [g] w w' ∧ Src w'.heap g sv cs n1 ∧ (n0 ≤ n1 ∧ n1 ≤ n0 + (150000 * funcs.toNat)) ∧ Fr (owS 3 (oFn 31 6) 34) w.heap.size w'.heap.size w'.heap v p ∧ DPr p plain ∧ Dn p ∧ ((p.length : Nat) : Int) = funcs) := by
  refine calls_mk [.pointer (some ⟨g, 0, none⟩), .int .i64 funcs, .int .i64 nodes, .bool plain] 65 Try.func75 rfl rfl sM ?_
  have hE0 : Chg [g] w w := Chg.refl [g] w
  have hgl := hs.lt
  have hs5 := stp5
  have hn5 := nds5
  refine wp_seq (wp_plain _ [3] rfl (r_allocA (z := .agg #[.slice none 0 0]) zr37 zN fun w1 hX1 hz1 hB1 => ?_))
  have hzs1 : w.heap.size ≤ w1.heap.size := hX1.size
  have hE1 : Chg [g] w w1 := hE0.ext hX1
  have hsx1 := hs.ext hX1
  replace hB1 : BX w1.heap w.heap.size [(.slice none 0 0)] := hB1
  refine lw_nil (wp_seq (wp_plain _ [0, 3, 4] rfl ?_))
  have hbd2 : ∀ (wq : World), (Instr.build 37 #[]).run Try.prog wq = .ok (.agg #[(.slice none 0 0)]) wq := by intro wq; kernel_rfl
  refine q_build (ps := #[]) (.agg #[(.slice none 0 0)]) (by simp only [List.map_toArray, List.map_cons, List.map_nil]) (fun wq => hbd2  wq) zN ?_
  have hq4 := hB1.lt
  refine r_allocA (z := .agg #[.slice none 0 0]) zr37 zN fun w3 hX3 hz3 hB3 => ?_
  have hzs3 : w1.heap.size ≤ w3.heap.size := hX3.size
  have hE3 : Chg [g] w w3 := hE1.ext hX3
  have hsx3 := hsx1.ext hX3
  have hB1x3 := hB1.ext hX3
  replace hB3 : BX w3.heap w1.heap.size [(.slice none 0 0)] := hB3
  refine e_setA (vs := [(.slice none 0 0)]) agg37 rfl rfl (by intro u hu; simp only [List.mem_cons, List.not_mem_nil, or_false] at hu; rcases hu with rfl <;> first | exact ⟨rfl, rfl⟩) hB3 rfl rfl zN fun w5 hC5 hz5 hB5 => ?_
  replace hB5 : BX w5.heap w1.heap.size [(.slice none 0 0)] := hB5
  have hzs5 : w3.heap.size ≤ w5.heap.size := hC5.size
  have hE5 : Chg [g] w w5 := hE3.fresh hC5 (fun c hc => by have := List.mem_singleton.1 hc; omega)
  have hF6 := hsx3.chg hC5 (fun c hc => by have := List.mem_singleton.1 hc; omega)
  have hF7 := hB1x3.chg hC5 (fun hm => by have := List.mem_singleton.1 hm; omega)
  refine lw_nil (wp_seq (wp_seq (wp_plain _ [0] rfl (lw_tvn 1 rfl (wp_block ?_)))))
  refine c_loop (S := Nat × Value × List Fn × Nat) (fun (⟨k, vp, ps, m⟩ : Nat × Value × List Fn × Nat) => ([(10, (.int .i64 ((k : Nat) : Int))), (0, (.pointer (some ⟨g, 0, none⟩))), (1, (.int .i64 funcs)), (2, (.int .i64 nodes)), (3, (.bool plain)), (8, (.pointer (some ⟨w.heap.size, 0, none⟩))), (9, (.pointer (some ⟨w1.heap.size, 0, none⟩)))] : List (Nat × Value))) (fun (⟨k, vp, ps, m⟩ : Nat × Value × List Fn × Nat) (W : World) => Chg [g] w W ∧ Fr (owS 3 (oFn 31 6) 34) w5.heap.size W.heap.size W.heap vp ps ∧ Src W.heap g sv cs m ∧ BX W.heap w.heap.size [(.slice none 0 0)] ∧ BX W.heap w1.heap.size [vp] ∧ ((k : Nat) : Int) ≤ funcs ∧ DPr ps plain ∧ Dn ps ∧ ps.length = k ∧ (n0 ≤ m ∧ m ≤ n0 + 150000 * k) ∧ (g < w5.heap.size ∧ w.heap.size ≤ w5.heap.size) ∧ w.heap.size < w5.heap.size ∧ w1.heap.size < w5.heap.size ∧ w5.heap.size ≤ W.heap.size) (fun (⟨k, vp, ps, m⟩ : Nat × Value × List Fn × Nat) => funcs.toNat - k) (0, (.slice none 0 0), ([] : List Fn), n0) ⟨rfl, rfl, rfl, rfl, rfl, rfl, rfl, trivial⟩ ⟨hE5, (frNilS _ 0 _).up (good_owS (good_oFn 31 6)), hF6, hF7, hB5, oM, (by exact DPr.nil _), (by exact Dn.nil), (by rfl), oM, oM, oM, oM, oM⟩ ?_
  clear hE0 hz1 hX1 hzs1 hE1 hz3 hX3 hzs3 hE3 hz5 hC5 hF6 hF7
  rintro ⟨k, vp, ps, m⟩ ρ10 w10 ⟨hE10, hL10_0, hL10_1, hL10_2, hL10_3, hkf, hdp, hdn, hpk, hmk, hgb, hkg8, hkg9, hkB11⟩
  have hzs10 : w.heap.size ≤ w10.heap.size := hE10.size
  have hq12 := hL10_2.lt
  have hq13 := hL10_3.lt
  refine wp_seq (wp_seq (wp_plain _ [0, 0, 0] rfl (lw_tv 2 rfl ?_)))
  by_cases hc14 : ((k : Nat) : Int) < funcs
  ·
    refine q_lss true rfl rfl (decide_eq_true hc14) zN (lw_nil (c_cond_t rfl (wp_skip (wp_seq (wp_block (wp_seq (wp_plain _ [0, 3, 4, 0, 3, 0, 0, 4, 0, 0, 3, 4] rfl (lw_tv 1 rfl (r_four (ys := [(.string (⟨#[102]⟩)), (.string (⟨#[103]⟩)), (.string (⟨#[115, 116, 101, 112]⟩)), (.string (⟨#[104, 50]⟩))]) good_rV u149 ti9 rfl rfl rfl rfl rfl rfl (elsV4 ⟨rfl, rfl⟩ ⟨rfl, rfl⟩ ⟨rfl, rfl⟩ ⟨rfl, rfl⟩) zN fun v15 w15 hX15 hz15 hO15 => ?_)))))))))
    have hzs15 : w10.heap.size ≤ w15.heap.size := hX15.size
    have hE15 : Chg [g] w w15 := hE10.ext hX15
    have hL10_0x15 := hL10_0.ext ((good_owS (good_oFn 31 6))) hX15
    have hL10_1x15 := hL10_1.ext hX15
    have hL10_2x15 := hL10_2.ext hX15
    have hL10_3x15 := hL10_3.ext hX15
    refine lw_callE 118 [] [] [(.pointer (some ⟨g, 0, none⟩)), v15] rfl rfl cf118 zN (c_spec_l00Src_text _ g _ _ _ v15 _ hL10_1x15 oM (fun w9 h9 => (hO15.chg oV h9 (fun c hc => by have := List.mem_singleton.1 hc; omega)).rdV1) (by intro u hu; simp only [List.mem_cons, List.not_mem_nil, or_false] at hu; rcases hu with rfl | rfl | rfl | rfl <;> exact ⟨_, rfl⟩) sM) ?_
    rintro e16 w16 ⟨x16_0, n16, rfl, hC16, hs16, hb16, hp16_0⟩
    refine ⟨_, rfl, ?_⟩
    have hzs16 : w15.heap.size ≤ w16.heap.size := hC16.size
    have hE16 : Chg [g] w w16 := hE15.trans hC16
    have hF17 := hL10_0x15.chg ((good_owS (good_oFn 31 6))) hC16 (fun c hc => by have := List.mem_singleton.1 hc; omega)
    have hF18 := hL10_2x15.chg hC16 (fun hm => by have := List.mem_singleton.1 hm; omega)
    have hF19 := hL10_3x15.chg hC16 (fun hm => by have := List.mem_singleton.1 hm; omega)
    have hF20 := hO15.chg (oV) hC16 (fun c hc => by have := List.mem_singleton.1 hc; omega)
    have hfo := mem_four hp16_0
    refine lw_tv 1 rfl (lw_call 86 [] [] [(.int .i64 ((k : Nat) : Int))] rfl rfl cf86 zN (c_spec_Decimal _ (((k : Nat) : Int)) oM oM) ?_)
    rintro e21 w21 ⟨st21, rfl, hX21, rfl⟩
    refine ⟨_, rfl, hX21, ?_⟩
    have hzs21 : w16.heap.size ≤ w21.heap.size := hX21.size
    have hE21 : Chg [g] w w21 := hE16.ext hX21
    have hF17x21 := hF17.ext ((good_owS (good_oFn 31 6))) hX21
    have hs16x21 := hs16.ext hX21
    have hF18x21 := hF18.ext hX21
    have hF19x21 := hF19.ext hX21
    have hF20x21 := hF20.ext (oV) hX21
    refine q_adds (a := x16_0) (b := dig k) rfl rfl (by have := four_size _ hfo; have := dig_size k; omega) zN (lw_tv 1 rfl (lw_callE 43 [] [] [(.pointer (some ⟨g, 0, none⟩)), (.int .i64 ((3 : Nat) : Int))] rfl rfl cf43 zN (c_spec_l00Src_pick _ g _ _ _ (((3 : Nat) : Int)) hs16x21 oM oM sD) ?_))
    rintro e22 w22 ⟨x22_0, n22, rfl, hC22, hs22, hb22, hp22_0⟩
    refine ⟨_, rfl, ?_⟩
    have hzs22 : w21.heap.size ≤ w22.heap.size := hC22.size
    have hE22 : Chg [g] w w22 := hE21.trans hC22
    have hF23 := hF17x21.chg ((good_owS (good_oFn 31 6))) hC22 (fun c hc => by have := List.mem_singleton.1 hc; omega)
    have hF24 := hF18x21.chg hC22 (fun hm => by have := List.mem_singleton.1 hm; omega)
    have hF25 := hF19x21.chg hC22 (fun hm => by have := List.mem_singleton.1 hm; omega)
    have hF26 := hF20x21.chg (oV) hC22 (fun c hc => by have := List.mem_singleton.1 hc; omega)
    refine q_add (((1 : Nat) : Int) + x22_0) rfl rfl (w64 sD sD) zN ?_
    have hbd27 : ∀ (wq : World), (Instr.build 34 #[(0, (.string (x16_0 ++ dig k))), (1, (.int .i64 (((1 : Nat) : Int) + x22_0)))]).run Try.prog wq = .ok (.agg #[(.string (x16_0 ++ dig k)), (.int .i64 (((1 : Nat) : Int) + x22_0)), (.slice none 0 0)]) wq := by intro wq; kernel_rfl
    refine q_build (ps := #[(0, (.string (x16_0 ++ dig k))), (1, (.int .i64 (((1 : Nat) : Int) + x22_0)))]) (.agg #[(.string (x16_0 ++ dig k)), (.int .i64 (((1 : Nat) : Int) + x22_0)), (.slice none 0 0)]) (by simp only [List.map_toArray, List.map_cons, List.map_nil]; rfl) (fun wq => hbd27  wq) zN ?_
    have hq29 := hF24.lt
    have hq30 := hF25.lt
    refine r_allocA (z := .agg #[.string ByteArray.empty, .int .i64 0, .slice none 0 0]) zr34 zN fun w28 hX28 hz28 hB28 => ?_
    have hzs28 : w22.heap.size ≤ w28.heap.size := hX28.size
    have hE28 : Chg [g] w w28 := hE22.ext hX28
    have hF23x28 := hF23.ext ((good_owS (good_oFn 31 6))) hX28
    have hs22x28 := hs22.ext hX28
    have hF24x28 := hF24.ext hX28
    have hF25x28 := hF25.ext hX28
    have hF26x28 := hF26.ext (oV) hX28
    replace hB28 : BX w28.heap w22.heap.size [(.string ByteArray.empty), (.int .i64 0), (.slice none 0 0)] := hB28
    refine e_setA (vs := [(.string (x16_0 ++ dig k)), (.int .i64 (((1 : Nat) : Int) + x22_0)), (.slice none 0 0)]) agg34 rfl rfl (by intro u hu; simp only [List.mem_cons, List.not_mem_nil, or_false] at hu; rcases hu with rfl | rfl | rfl <;> first | exact ⟨rfl, rfl⟩) hB28 rfl rfl zN fun w31 hC31 hz31 hB31 => ?_
    replace hB31 : BX w31.heap w22.heap.size [(.string (x16_0 ++ dig k)), (.int .i64 (((1 : Nat) : Int) + x22_0)), (.slice none 0 0)] := hB31
    have hzs31 : w28.heap.size ≤ w31.heap.size := hC31.size
    have hE31 : Chg [g] w w31 := hE28.fresh hC31 (fun c hc => by have := List.mem_singleton.1 hc; omega)
    have hF32 := hF23x28.chg ((good_owS (good_oFn 31 6))) hC31 (fun c hc => by have := List.mem_singleton.1 hc; omega)
    have hF33 := hs22x28.chg hC31 (fun c hc => by have := List.mem_singleton.1 hc; omega)
    have hF34 := hF24x28.chg hC31 (fun hm => by have := List.mem_singleton.1 hm; omega)
    have hF35 := hF25x28.chg hC31 (fun hm => by have := List.mem_singleton.1 hm; omega)
    have hF36 := hF26x28.chg (oV) hC31 (fun c hc => by have := List.mem_singleton.1 hc; omega)
    refine lw_nil (wp_seq (wp_plain _ [0, 4, 0, 0] rfl (lw_tv 1 rfl (lw_callE 43 [] [] [(.pointer (some ⟨g, 0, none⟩)), (.int .i64 ((3 : Nat) : Int))] rfl rfl cf43 zN (c_spec_l00Src_pick _ g _ _ _ (((3 : Nat) : Int)) hF33 oM oM sD) ?_))))
    rintro e37 w37 ⟨x37_0, n37, rfl, hC37, hs37, hb37, hp37_0⟩
    refine ⟨_, rfl, ?_⟩
    have hzs37 : w31.heap.size ≤ w37.heap.size := hC37.size
    have hE37 : Chg [g] w w37 := hE31.trans hC37
    have hF38 := hF32.chg ((good_owS (good_oFn 31 6))) hC37 (fun c hc => by have := List.mem_singleton.1 hc; omega)
    have hF39 := hF34.chg hC37 (fun hm => by have := List.mem_singleton.1 hm; omega)
    have hF40 := hF35.chg hC37 (fun hm => by have := List.mem_singleton.1 hm; omega)
    have hF41 := hF36.chg (oV) hC37 (fun c hc => by have := List.mem_singleton.1 hc; omega)
    have hF42 := hB31.chg hC37 (fun hm => by have := List.mem_singleton.1 hm; omega)
    refine q_add (((1 : Nat) : Int) + x37_0) rfl rfl (w64 sD sD) zN (lw_tvn 1 rfl ?_)
    refine wp_seq (c_cut (S := Int × Nat) (fun (⟨o, m1⟩ : Int × Nat) => ([(12, (.int .i64 o)), (0, (.pointer (some ⟨g, 0, none⟩))), (1, (.int .i64 funcs)), (2, (.int .i64 nodes)), (3, (.bool plain)), (8, (.pointer (some ⟨w.heap.size, 0, none⟩))), (9, (.pointer (some ⟨w1.heap.size, 0, none⟩))), (10, (.int .i64 ((k : Nat) : Int))), (11, (.pointer (some ⟨w22.heap.size, 0, none⟩)))] : List (Nat × Value))) (fun (⟨o, m1⟩ : Int × Nat) (W : World) => Chg [g] w W ∧ Fr (owS 3 (oFn 31 6) 34) w5.heap.size w10.heap.size W.heap vp ps ∧ Src W.heap g sv cs m1 ∧ BX W.heap w.heap.size [(.slice none 0 0)] ∧ BX W.heap w1.heap.size [vp] ∧ BX W.heap w22.heap.size [(.string (x16_0 ++ dig k)), (.int .i64 (((1 : Nat) : Int) + x22_0)), (.slice none 0 0)] ∧ (1 ≤ o ∧ o ≤ 3) ∧ (n0 ≤ m1 ∧ m1 ≤ n0 + 150000 * k + 8) ∧ w10.heap.size ≤ w37.heap.size ∧ (g < w5.heap.size ∧ w.heap.size ≤ w5.heap.size) ∧ w10.heap.size ≤ w22.heap.size ∧ w5.heap.size ≤ W.heap.size) ?_ ?_)
    ·
      refine wp_seq (wp_plain _ [0, 4] rfl (lw_tv 1 rfl (lw_callE 45 [] [] [(.pointer (some ⟨g, 0, none⟩)), (.int .i64 ((2 : Nat) : Int))] rfl rfl cf45 zN (c_spec_l00Src_one _ g _ _ _ (((2 : Nat) : Int)) hs37 oM oM sD) ?_)))
      rintro e45 w45 ⟨x45_0, n45, rfl, hC45, hs45, hb45, hp45_0⟩
      refine ⟨_, rfl, ?_⟩
      have hzs45 : w37.heap.size ≤ w45.heap.size := hC45.size
      have hE45 : Chg [g] w w45 := hE37.trans hC45
      have hF46 := hF38.chg ((good_owS (good_oFn 31 6))) hC45 (fun c hc => by have := List.mem_singleton.1 hc; omega)
      have hF47 := hF39.chg hC45 (fun hm => by have := List.mem_singleton.1 hm; omega)
      have hF48 := hF40.chg hC45 (fun hm => by have := List.mem_singleton.1 hm; omega)
      have hF49 := hF41.chg (oV) hC45 (fun c hc => by have := List.mem_singleton.1 hc; omega)
      have hF50 := hF42.chg hC45 (fun hm => by have := List.mem_singleton.1 hm; omega)
      refine lw_nil ?_
      cases hb51 : x45_0
      ·
        exact c_cond_f (by first | rfl | (show Value.bool _ = _; rw [hb51])) (wp_skip ⟨((((1 : Nat) : Int) + x37_0), n45), _, rfl, ⟨rfl, rfl, rfl, rfl, rfl, rfl, rfl, rfl, rfl, trivial⟩, ⟨hE45, hF46, hs45, hF47, hF48, hF50, oM, oM, oM, oM, oM, oM⟩⟩)
      ·
        exact c_cond_t (by first | rfl | (show Value.bool _ = _; rw [hb51])) (wp_plain _ [0, 2, 0] rfl (q_fldP (p := (.pointer (some ⟨w22.heap.size, 0, none⟩))) (b := w22.heap.size) (o := 0) 1 fd34_1 rfl rfl zN (q_load (p := (padd (.pointer (some ⟨w22.heap.size, 0, none⟩)) 1)) (.inr rfl) (.int .i64 (((1 : Nat) : Int) + x22_0)) one2 rfl (hF50.ldp (i := 1) sM) zN (lw_tvn 1 rfl ⟨((((1 : Nat) : Int) + x22_0), n45), _, rfl, ⟨rfl, rfl, rfl, rfl, rfl, rfl, rfl, rfl, rfl, trivial⟩, ⟨hE45, hF46, hs45, hF47, hF48, hF50, oM, oM, oM, oM, oM, oM⟩⟩))))
    ·
      clear hL10_3 hL10_2 hL10_1 hL10_0 hO15 hz15 hX15 hzs15 hE15 hL10_0x15 hL10_1x15 hL10_2x15 hL10_3x15 hC16 hzs16 hE16 hF17 hF18 hF19 hF20 hX21 hzs21 hE21 hF17x21 hF18x21 hF19x21 hF20x21 hC22 hzs22 hE22 hF23 hF24 hF25 hF26 hz28 hX28 hzs28 hE28 hF23x28 hF24x28 hF25x28 hF26x28 hz31 hC31 hzs31 hE31 hF32 hF33 hF34 hF35 hF36 hC37 hzs37 hE37 hF38 hF39 hF40 hF41 hF42
      rintro ⟨o, m1⟩ ρ43 w43 ⟨hE43, hL43_0, hL43_1, hL43_2, hL43_3, hL43_4, ho3, hm1, huw, hgb, huf, hkB44⟩
      have hzs43 : w.heap.size ≤ w43.heap.size := hE43.size
      have hq52 := hL43_2.lt
      have hq53 := hL43_3.lt
      have hq54 := hL43_4.lt
      refine wp_seq (wp_seq (wp_plain _ [0] rfl (lw_tvn 1 rfl (wp_block ?_))))
      refine c_loop (S := Nat × Value × List Ex × Nat) (fun (⟨i, vo, xs, m2⟩ : Nat × Value × List Ex × Nat) => ([(13, (.int .i64 ((i : Nat) : Int))), (0, (.pointer (some ⟨g, 0, none⟩))), (1, (.int .i64 funcs)), (2, (.int .i64 nodes)), (3, (.bool plain)), (8, (.pointer (some ⟨w.heap.size, 0, none⟩))), (9, (.pointer (some ⟨w1.heap.size, 0, none⟩))), (10, (.int .i64 ((k : Nat) : Int))), (11, (.pointer (some ⟨w22.heap.size, 0, none⟩))), (12, (.int .i64 o))] : List (Nat × Value))) (fun (⟨i, vo, xs, m2⟩ : Nat × Value × List Ex × Nat) (W : World) => Chg [g] w W ∧ Fr (owS 5 (oEx 31 6) 31) w43.heap.size W.heap.size W.heap vo xs ∧ Fr (owS 3 (oFn 31 6) 34) w5.heap.size w10.heap.size W.heap vp ps ∧ Src W.heap g sv cs m2 ∧ BX W.heap w.heap.size [(.slice none 0 0)] ∧ BX W.heap w1.heap.size [vp] ∧ BX W.heap w22.heap.size [(.string (x16_0 ++ dig k)), (.int .i64 (((1 : Nat) : Int) + x22_0)), vo] ∧ ((i : Nat) : Int) ≤ o ∧ FOk ps (((1 : Nat) : Int) + x22_0) plain xs i ∧ (n0 ≤ m2 ∧ m2 ≤ n0 + 150000 * k + 8 + 47770 * i) ∧ w10.heap.size ≤ w43.heap.size ∧ (g < w5.heap.size ∧ w.heap.size ≤ w5.heap.size) ∧ w10.heap.size ≤ w22.heap.size ∧ w.heap.size < w43.heap.size ∧ w1.heap.size < w43.heap.size ∧ w22.heap.size < w43.heap.size ∧ w43.heap.size ≤ W.heap.size ∧ w5.heap.size ≤ W.heap.size) (fun (⟨i, vo, xs, m2⟩ : Nat × Value × List Ex × Nat) => o.toNat - i) (0, (.slice none 0 0), ([] : List Ex), m1) ⟨rfl, rfl, rfl, rfl, rfl, rfl, rfl, rfl, rfl, rfl, trivial⟩ ⟨hE43, (frNilS _ 0 _).up (good_owS (good_oEx 31 6)), hL43_0, hL43_1, hL43_2, hL43_3, hL43_4, oM, (by exact FOk.nil _ _ _), oM, oM, oM, oM, oM, oM, oM, oM, oM⟩ ?_
      clear hL43_4 hL43_3 hL43_2 hL43_1 hL43_0
      rintro ⟨i, vo, xs, m2⟩ ρ58 w58 ⟨hE58, hL58_0, hL58_1, hL58_2, hL58_3, hL58_4, hL58_5, hio, hff, hm2, huw, hgb, huf, hkg55, hkg56, hkg57, hkB59, hkB60⟩
      have hzs58 : w.heap.size ≤ w58.heap.size := hE58.size
      have hq61 := hL58_3.lt
      have hq62 := hL58_4.lt
      have hq63 := hL58_5.lt
      refine wp_seq (wp_seq (wp_plain _ [0, 0, 0] rfl (lw_tv 2 rfl ?_)))
      by_cases hc64 : ((i : Nat) : Int) < o
      ·
        refine q_lss true rfl rfl (decide_eq_true hc64) zN (lw_nil (c_cond_t rfl (wp_skip (wp_seq (wp_block (wp_seq (wp_plain _ [0, 0, 0, 0, 3, 0] rfl (lw_tv 3 rfl ?_))))))))
        have hbd65 : ∀ (wq : World), (Instr.build 106 #[(0, (.pointer (some ⟨g, 0, none⟩))), (1, (.pointer (some ⟨w1.heap.size, 0, none⟩))), (2, (.int .i64 nodes)), (3, (.bool plain))]).run Try.prog wq = .ok (.agg #[(.pointer (some ⟨g, 0, none⟩)), (.pointer (some ⟨w1.heap.size, 0, none⟩)), (.int .i64 nodes), (.bool plain)]) wq := by intro wq; kernel_rfl
        refine q_build (ps := #[(0, (.pointer (some ⟨g, 0, none⟩))), (1, (.pointer (some ⟨w1.heap.size, 0, none⟩))), (2, (.int .i64 nodes)), (3, (.bool plain))]) (.agg #[(.pointer (some ⟨g, 0, none⟩)), (.pointer (some ⟨w1.heap.size, 0, none⟩)), (.int .i64 nodes), (.bool plain)]) (by simp only [List.map_toArray, List.map_cons, List.map_nil]; rfl) (fun wq => hbd65  wq) zN ?_
        have hq67 := hL58_3.lt
        have hq68 := hL58_4.lt
        have hq69 := hL58_5.lt
        refine r_boxA (cs := #[(.pointer (some ⟨g, 0, none⟩)), (.pointer (some ⟨w1.heap.size, 0, none⟩)), (.int .i64 nodes), (.bool plain)]) rfl zN fun w66 hX66 hz66 hB66 => ?_
        have hzs66 : w58.heap.size ≤ w66.heap.size := hX66.size
        have hE66 : Chg [g] w w66 := hE58.ext hX66
        have hL58_0x66 := hL58_0.ext ((good_owS (good_oEx 31 6))) hX66
        have hL58_1x66 := hL58_1.ext ((good_owS (good_oFn 31 6))) hX66
        have hL58_2x66 := hL58_2.ext hX66
        have hL58_3x66 := hL58_3.ext hX66
        have hL58_4x66 := hL58_4.ext hX66
        have hL58_5x66 := hL58_5.ext hX66
        replace hB66 : BX w66.heap w58.heap.size [(.pointer (some ⟨g, 0, none⟩)), (.pointer (some ⟨w1.heap.size, 0, none⟩)), (.int .i64 nodes), (.bool plain)] := hB66
        refine lw_tvn 1 rfl ?_
        letI : JR := jrC [g, w58.heap.size]
        refine Jx.wp_draw _ [0, 1, 0, 0, 1, 0, 3, 3, 4, 0, 4] mixed (by kernel_rfl) (Jx.q_fldP (p := (.pointer (some ⟨w22.heap.size, 0, none⟩))) (b := w22.heap.size) (o := 0) 2 fd34_2 rfl rfl zN (Jx.q_loadJ (p := (padd (.pointer (some ⟨w22.heap.size, 0, none⟩)) 2)) vo one29 rfl (fun wj hj => (BX.chg (w := w66.drew) (F := [g, w58.heap.size]) hL58_5x66 hj (fun hm => by have := mem2 hm; omega)).ldp (i := 2) sM) zN (Jx.q_move (.pointer (some ⟨w58.heap.size, 0, none⟩)) rfl zN (Jx.q_fldP (p := (.pointer (some ⟨w22.heap.size, 0, none⟩))) (b := w22.heap.size) (o := 0) 1 fd34_1 rfl rfl zN ?_))))
        refine Jx.q_loadJ (p := (padd (.pointer (some ⟨w22.heap.size, 0, none⟩)) 1)) (.int .i64 (((1 : Nat) : Int) + x22_0)) one2 rfl (fun wj hj => (BX.chg (w := w66.drew) (F := [g, w58.heap.size]) hL58_5x66 hj (fun hm => by have := mem2 hm; omega)).ldp (i := 1) sM) zN (Jx.q_move (.int .i64 ((k : Nat) : Int)) rfl zN ?_)
        refine Jx.lw_call 76 [] [] [(.pointer (some ⟨w58.heap.size, 0, none⟩)), (.int .i64 (((1 : Nat) : Int) + x22_0)), (.int .i64 ((k : Nat) : Int)), (.int .i64 ((5 : Nat) : Int))] rfl rfl cf76 zN (GX_any 5 _ w58.heap.size g sv cs m2 (.pointer (some ⟨w1.heap.size, 0, none⟩)) 6 nodes plain ps (((1 : Nat) : Int) + x22_0) (((k : Nat) : Int)) oM hL58_2x66 hB66 (RN.box hL58_4x66 (RP.mk' (RN.of_frF2 hL58_1x66 (fun b hb => by have := mem2 hb; omega))) (fun hb => by have := mem2 hb; omega)) oM oM oM oM (by exact hdp.gpr) oM oM oM) ?_
        rintro e70 w70 ⟨v70, x70, n70, l70, rfl, hC70, hs70, hb70, hB70, hO70, hr70, hG70⟩
        refine ⟨_, rfl, hC70, ?_⟩
        replace hO70 := hO70.low (B' := w66.heap.size) (Nat.le_refl _)
        replace hC70 := hC70.of_drew
        have hzs70 : w66.heap.size ≤ w70.heap.size := hC70.size
        have hE70 : Chg [g] w w70 := hE66.new2 hC70 (List.mem_singleton.2 rfl) oM
        have hF71 := hL58_0x66.chg ((good_owS (good_oEx 31 6))) hC70 (fun c hc => by have := mem2 hc; omega)
        have hF72 := hL58_1x66.chg ((good_owS (good_oFn 31 6))) hC70 (fun c hc => by have := mem2 hc; omega)
        have hF73 := hL58_3x66.chg hC70 (fun hm => by have := mem2 hm; omega)
        have hF74 := hL58_4x66.chg hC70 (fun hm => by have := mem2 hm; omega)
        have hF75 := hL58_5x66.chg hC70 (fun hm => by have := mem2 hm; omega)
        refine Jx.tail rfl (r_oneS (cs := [(.int .i64 x70.kind), (.int .i64 x70.num), (.int .i64 x70.pick), (.int .i64 x70.count), v70]) (y := x70) (B := w66.heap.size) (good_oEx 31 6) u29 tiS31 rfl (by decide) rfl (FrN.mk1 (d := 6) oM hr70 hO70) oM zN fun v76 w76 hX76 hz76 hO76 => ?_)
        have hzs76 : w70.heap.size ≤ w76.heap.size := hX76.size
        have hE76 : Chg [g] w w76 := hE70.ext hX76
        have hF71x76 := hF71.ext ((good_owS (good_oEx 31 6))) hX76
        have hF72x76 := hF72.ext ((good_owS (good_oFn 31 6))) hX76
        have hs70x76 := hs70.ext hX76
        have hF73x76 := hF73.ext hX76
        have hF74x76 := hF74.ext hX76
        have hF75x76 := hF75.ext hX76
        have hB70x76 := hB70.ext hX76
        refine e_appS (v := vo) (a := v76) (good_oEx 31 6) u29 tiS31 rfl (by decide) rfl rfl hF71x76 oM hO76 oM oM (by have := hff.len; omega) (by have := hff.len; unfold maxLen; omega) zN fun v77 w77 F77 hC77 hF77 hO77 => ?_
        have hzs77 : w76.heap.size ≤ w77.heap.size := hC77.size
        have hE77 : Chg [g] w w77 := hE76.fresh hC77 (fun c hc => by have := hF77 _ hc; omega)
        have hF78 := hF72x76.chg ((good_owS (good_oFn 31 6))) hC77 (fun c hc => by have := hF77 _ hc; omega)
        have hF79 := hs70x76.chg hC77 (fun c hc => by have := hF77 _ hc; omega)
        have hF80 := hF73x76.chg hC77 (fun hm => by have := hF77 _ hm; omega)
        have hF81 := hF74x76.chg hC77 (fun hm => by have := hF77 _ hm; omega)
        have hF82 := hF75x76.chg hC77 (fun hm => by have := hF77 _ hm; omega)
        have hF83 := hB70x76.chg hC77 (fun hm => by have := hF77 _ hm; omega)
        refine q_fldP (p := (.pointer (some ⟨w22.heap.size, 0, none⟩))) (b := w22.heap.size) (o := 0) 2 fd34_2 rfl rfl zN (e_setB (k := 2) (w := w77) sz29 rfl rfl (isSl_one hO77.isSlS) hF82 sM zN fun w84 hC84 hz84 hB84 => ?_)
        replace hB84 : BX w84.heap w22.heap.size [(.string (x16_0 ++ dig k)), (.int .i64 (((1 : Nat) : Int) + x22_0)), v77] := hB84
        have hzs84 : w77.heap.size ≤ w84.heap.size := hC84.size
        have hE84 : Chg [g] w w84 := hE77.fresh hC84 (fun c hc => by have := List.mem_singleton.1 hc; omega)
        have hF85 := hF78.chg ((good_owS (good_oFn 31 6))) hC84 (fun c hc => by have := List.mem_singleton.1 hc; omega)
        have hF86 := hF79.chg hC84 (fun c hc => by have := List.mem_singleton.1 hc; omega)
        have hF87 := hF80.chg hC84 (fun hm => by have := List.mem_singleton.1 hm; omega)
        have hF88 := hF81.chg hC84 (fun hm => by have := List.mem_singleton.1 hm; omega)
        have hF89 := hF83.chg hC84 (fun hm => by have := List.mem_singleton.1 hm; omega)
        have hF90 := hO77.chg ((good_owS (good_oEx 31 6))) hC84 (fun c hc => by have := List.mem_singleton.1 hc; omega)
        exact lw_nil (wp_plain _ [0, 0, 0] rfl (lw_tv 1 rfl (q_add ((i + 1 : Nat) : Int) rfl rfl (w64n oM oM) zN (lw_tvn 1 rfl ⟨((i + 1), v77, (xs ++ [x70]), n70), _, rfl, ⟨rfl, rfl, rfl, rfl, rfl, rfl, rfl, rfl, rfl, rfl, trivial⟩, ⟨hE84, hF90.up (good_owS (good_oEx 31 6)), hF85, hF86, hF87, hF88, hB84, oM, (by exact hff.snoc (funcs := ((k : Nat) : Int)) (d := 5) (l0 := nodes) oM oM oM (by assumption)), oM, oM, oM, oM, oM, oM, oM, oM, oM⟩, by first | omega | (dsimp only; omega)⟩))))
      ·
        refine q_lss false rfl rfl (decide_eq_false hc64) zN (lw_nil (c_cond_f rfl (wp_exit (t_exit (t_exit (c_exit_here (wp_plain _ [0, 2, 2, 3, 4, 0, 4] rfl (q_fldP (p := (.pointer (some ⟨w1.heap.size, 0, none⟩))) (b := w1.heap.size) (o := 0) 0 fd37_0 rfl rfl zN (q_load (p := (padd (.pointer (some ⟨w1.heap.size, 0, none⟩)) 0)) (.inr rfl) vp one35 rfl (hL58_4.ldp (i := 0) sM) zN (q_loadA (p := (.pointer (some ⟨w22.heap.size, 0, none⟩))) (.inr rfl) [(.string (x16_0 ++ dig k)), (.int .i64 (((1 : Nat) : Int) + x22_0)), vo] agg34 rfl (fun w9 hw9 => LD.of_box (BX.ext (w := w58) hL58_5 hw9)) rfl zN ?_))))))))))
        refine r_oneS (cs := [(.string (x16_0 ++ dig k)), (.int .i64 (((1 : Nat) : Int) + x22_0)), vo]) (y := (Fn.mk (x16_0 ++ dig k) (((1 : Nat) : Int) + x22_0) xs)) (B := w43.heap.size) (good_oFn 31 6) u35 tiS34 rfl (by decide) rfl (FrN.mkF (x := ⟨(x16_0 ++ dig k), (((1 : Nat) : Int) + x22_0), xs⟩) (i64_mk (a := (((1 : Nat) : Int) + x22_0)) oM) hL58_0) oM zN fun v91 w91 hX91 hz91 hO91 => ?_
        have hzs91 : w58.heap.size ≤ w91.heap.size := hX91.size
        have hE91 : Chg [g] w w91 := hE58.ext hX91
        have hL58_1x91 := hL58_1.ext ((good_owS (good_oFn 31 6))) hX91
        have hL58_2x91 := hL58_2.ext hX91
        have hL58_3x91 := hL58_3.ext hX91
        have hL58_4x91 := hL58_4.ext hX91
        have hL58_5x91 := hL58_5.ext hX91
        refine e_appS (v := vp) (a := v91) (good_oFn 31 6) u35 tiS34 rfl (by decide) rfl rfl hL58_1x91 oM hO91 oM oM oM (by unfold maxLen; omega) zN fun v92 w92 F92 hC92 hF92 hO92 => ?_
        have hzs92 : w91.heap.size ≤ w92.heap.size := hC92.size
        have hE92 : Chg [g] w w92 := hE91.fresh hC92 (fun c hc => by have := hF92 _ hc; omega)
        have hF93 := hL58_2x91.chg hC92 (fun c hc => by have := hF92 _ hc; omega)
        have hF94 := hL58_3x91.chg hC92 (fun hm => by have := hF92 _ hm; omega)
        have hF95 := hL58_4x91.chg hC92 (fun hm => by have := hF92 _ hm; omega)
        have hF96 := hL58_5x91.chg hC92 (fun hm => by have := hF92 _ hm; omega)
        refine q_fldP (p := (.pointer (some ⟨w1.heap.size, 0, none⟩))) (b := w1.heap.size) (o := 0) 0 fd37_0 rfl rfl zN (e_setB (k := 0) (w := w92) sz35 rfl rfl (isSl_one hO92.isSlS) hF95 sM zN fun w97 hC97 hz97 hB97 => ?_)
        replace hB97 : BX w97.heap w1.heap.size [v92] := hB97
        have hzs97 : w92.heap.size ≤ w97.heap.size := hC97.size
        have hE97 : Chg [g] w w97 := hE92.fresh hC97 (fun c hc => by have := List.mem_singleton.1 hc; omega)
        have hF98 := hF93.chg hC97 (fun c hc => by have := List.mem_singleton.1 hc; omega)
        have hF99 := hF94.chg hC97 (fun hm => by have := List.mem_singleton.1 hm; omega)
        have hF100 := hF96.chg hC97 (fun hm => by have := List.mem_singleton.1 hm; omega)
        have hF101 := hO92.chg ((good_owS (good_oFn 31 6))) hC97 (fun c hc => by have := List.mem_singleton.1 hc; omega)
        refine lw_nil (wp_plain _ [0, 0, 0] rfl (lw_tv 1 rfl (q_add ((k + 1 : Nat) : Int) rfl rfl (w64n oM oM) zN (lw_tvn 1 rfl ?_))))
        exact ⟨((k + 1), v92, (ps ++ [(Fn.mk (x16_0 ++ dig k) (((1 : Nat) : Int) + x22_0) xs)]), m2), _, rfl, ⟨rfl, rfl, rfl, rfl, rfl, rfl, rfl, trivial⟩, ⟨hE97, hF101.up (good_owS (good_oFn 31 6)), hF98, hF99, hB97, oM, (by exact (FOk.fn (i := i) (f := ⟨(x16_0 ++ dig k), (((1 : Nat) : Int) + x22_0), xs⟩) hdp hdn oM ⟨by show 1 ≤ (((1 : Nat) : Int) + x22_0); omega, by show (((1 : Nat) : Int) + x22_0) ≤ 3; omega⟩ ⟨by omega, by omega⟩ hff hfo (by show _ = _ ++ dig ps.length; rw [hpk])).1), (by exact (FOk.fn (i := i) (f := ⟨(x16_0 ++ dig k), (((1 : Nat) : Int) + x22_0), xs⟩) hdp hdn oM ⟨by show 1 ≤ (((1 : Nat) : Int) + x22_0); omega, by show (((1 : Nat) : Int) + x22_0) ≤ 3; omega⟩ ⟨by omega, by omega⟩ hff hfo (by show _ = _ ++ dig ps.length; rw [hpk])).2), (by rw [List.length_append, hpk]; rfl), oM, oM, oM, oM, oM⟩, by first | omega | (dsimp only; omega)⟩
  ·
    refine q_lss false rfl rfl (decide_eq_false hc14) zN (lw_nil (c_cond_f rfl (wp_exit (t_exit (t_exit (c_exit_here (wp_seq (wp_plain _ [2, 4] rfl (q_loadA (p := (.pointer (some ⟨w1.heap.size, 0, none⟩))) (.inr rfl) [vp] agg37 rfl (fun w9 hw9 => LD.of_box (BX.ext (w := w10) hL10_3 hw9)) rfl zN (e_setA (vs := [vp]) agg37 rfl rfl (by intro u hu; simp only [List.mem_cons, List.not_mem_nil, or_false] at hu; rcases hu with rfl <;> first | exact ⟨rfl, rfl⟩ | exact isSl_one hL10_0.isSlS) hL10_2 rfl rfl zN fun w102 hC102 hz102 hB102 => ?_))))))))))
    replace hB102 : BX w102.heap w.heap.size [vp] := hB102
    have hzs102 : w10.heap.size ≤ w102.heap.size := hC102.size
    have hE102 : Chg [g] w w102 := hE10.fresh hC102 (fun c hc => by have := List.mem_singleton.1 hc; omega)
    have hF103 := hL10_0.chg ((good_owS (good_oFn 31 6))) hC102 (fun c hc => by have := List.mem_singleton.1 hc; omega)
    have hF104 := hL10_1.chg hC102 (fun c hc => by have := List.mem_singleton.1 hc; omega)
    have hF105 := hL10_3.chg hC102 (fun hm => by have := List.mem_singleton.1 hm; omega)
    exact lw_nil (wp_ret (post_retA (cs := [vp]) rfl agg37 rfl hB102 rfl ⟨vp, ps, m, rfl, hE102, hF104, ⟨by omega, by omega⟩, ((hF103.up (good_owS (good_oFn 31 6))).low (B' := w.heap.size) oM), (by exact ⟨hdp, hdn, by omega⟩)⟩))
end Go.Proofs.Ytnofbmdpabcjaaa
namespace Go.Proofs.Ytnofbmdpabcjaaa
open Go Go.RowKit
set_option linter.unusedVariables false
set_option linter.unusedSimpArgs false
set_option maxHeartbeats 4000000
set_option maxRecDepth 100000
attribute [local irreducible] LW
theorem c_spec_A2Loops (w : World) (vc : Value) (cs : List UInt8) (hcs : Rd (rdL rU) w.heap vc cs)  :
    Calls Try.prog 28 #[vc] w (fun e w' => ∃ (v va : Value) (p : List Fn) (f : Int) (a : List Int), e = .returned (.tuple #[.agg #[v], .int .i64 f, va]) ∧ Ext w w' ∧ Fr (owS 3 (oFn 31 6) 34) w.heap.size w'.heap.size w'.heap v p ∧ Fr (owL rI 2) w.heap.size w'.heap.size w'.heap va a ∧ LoopD p f a) := by
  refine calls_mk [vc] 56 Try.func28 rfl rfl sM ?_
  have hE0 : Ext w w := Ext.refl w
  have hl_vc := hcs.lenle
  have hs5 := stp4
  have hn5 := nds4
  refine wp_seq (wp_plain _ [3, 0, 0] rfl (r_allocA (z := .agg #[.slice none 0 0]) zr37 zN fun w1 hX1 hz1 hB1 => ?_))
  have hzs1 : w.heap.size ≤ w1.heap.size := hX1.size
  have hE1 : Ext w w1 := hE0.trans hX1
  replace hB1 : BX w1.heap w.heap.size [(.slice none 0 0)] := hB1
  refine lw_tvn 2 rfl (wp_seq (wp_plain _ [0, 3, 0] rfl (lw_tv 1 rfl (lw_call 42 [] [] [vc] rfl rfl cf42 zN (c_spec_l00From _ _ _ (hcs.ext good_u hE1)) ?_))))
  rintro e2 w2 ⟨gB2, rfl, hX2, hs2, hg2⟩
  refine ⟨_, rfl, hX2, ?_⟩
  have hzs2 : w1.heap.size ≤ w2.heap.size := hX2.size
  have hE2 : Ext w w2 := hE1.trans hX2
  have hB1x2 := hB1.ext hX2
  refine lw_tvn 1 rfl (wp_seq (wp_plain _ [0, 0, 4, 0, 4, 4, 3, 4] rfl ?_))
  have hgl := hs2.lt
  refine lw_tv 2 rfl (lw_callE 43 [] [] [(.pointer (some ⟨gB2, 0, none⟩)), (.int .i64 ((2 : Nat) : Int))] rfl rfl cf43 zN (c_spec_l00Src_pick _ gB2 _ _ _ (((2 : Nat) : Int)) hs2 oM oM sD) ?_)
  rintro e3 w3 ⟨x3_0, n3, rfl, hC3, hs3, hb3, hp3_0⟩
  refine ⟨_, rfl, ?_⟩
  have hzs3 : w2.heap.size ≤ w3.heap.size := hC3.size
  have hE3 : Ext w w3 := hC3.below hE2 (fun c hc => by have := List.mem_singleton.1 hc; omega) hE2.size
  have hF4 := hB1x2.chg hC3 (fun hm => by have := List.mem_singleton.1 hm; omega)
  refine lw_tv 1 rfl (lw_callE 45 [] [] [(.pointer (some ⟨gB2, 0, none⟩)), (.int .i64 ((2 : Nat) : Int))] rfl rfl cf45 zN (c_spec_l00Src_one _ gB2 _ _ _ (((2 : Nat) : Int)) hs3 oM oM sD) ?_)
  rintro e5 w5 ⟨x5_0, n5, rfl, hC5, hs5, hb5, hp5_0⟩
  refine ⟨_, rfl, ?_⟩
  have hzs5 : w3.heap.size ≤ w5.heap.size := hC5.size
  have hE5 : Ext w w5 := hC5.below hE3 (fun c hc => by have := List.mem_singleton.1 hc; omega) hE3.size
  have hF6 := hF4.chg hC5 (fun hm => by have := List.mem_singleton.1 hm; omega)
  refine lw_callE 75 [] [] [(.pointer (some ⟨gB2, 0, none⟩)), (.int .i64 x3_0), (.int .i64 ((8 : Nat) : Int)), (.bool x5_0)] rfl rfl cf75 zN (c_spec_l02Draw _ gB2 vc cs n5 (x3_0) (((8 : Nat) : Int)) x5_0 hs5 oM oM oM oM oM) ?_
  rintro e7 w7 ⟨v7, p7, n7, rfl, hC7, hs7, hb7, hO7, hG7⟩
  refine ⟨_, rfl, ?_⟩
  have hzs7 : w5.heap.size ≤ w7.heap.size := hC7.size
  have hE7 : Ext w w7 := hC7.below hE5 (fun c hc => by have := List.mem_singleton.1 hc; omega) hE5.size
  have hF8 := hF6.chg hC7 (fun hm => by have := List.mem_singleton.1 hm; omega)
  have hdp := hG7.1.npl
  have hdn := hG7.2.1
  have hpk := hG7.2.2
  have hq10 := hF8.lt
  refine r_allocA (z := .agg #[.slice none 0 0]) zr37 zN fun w9 hX9 hz9 hB9 => ?_
  have hzs9 : w7.heap.size ≤ w9.heap.size := hX9.size
  have hE9 : Ext w w9 := hE7.trans hX9
  have hF8x9 := hF8.ext hX9
  have hs7x9 := hs7.ext hX9
  have hO7x9 := hO7.ext ((good_owS (good_oFn 31 6))) hX9
  replace hB9 : BX w9.heap w7.heap.size [(.slice none 0 0)] := hB9
  refine e_setA (vs := [v7]) agg37 rfl rfl (by intro u hu; simp only [List.mem_cons, List.not_mem_nil, or_false] at hu; rcases hu with rfl <;> first | exact ⟨rfl, rfl⟩ | exact isSl_one hO7x9.isSlS) hB9 rfl rfl zN fun w11 hC11 hz11 hB11 => ?_
  replace hB11 : BX w11.heap w7.heap.size [v7] := hB11
  have hzs11 : w9.heap.size ≤ w11.heap.size := hC11.size
  have hE11 : Ext w w11 := hC11.below hE9 (fun c hc => by have := List.mem_singleton.1 hc; omega) hE9.size
  have hF12 := hF8x9.chg hC11 (fun hm => by have := List.mem_singleton.1 hm; omega)
  have hF13 := hs7x9.chg hC11 (fun c hc => by have := List.mem_singleton.1 hc; omega)
  have hF14 := hO7x9.chg ((good_owS (good_oFn 31 6))) hC11 (fun c hc => by have := List.mem_singleton.1 hc; omega)
  refine lw_nil (wp_seq (wp_plain _ [0, 4, 0, 0] rfl (lw_tv 1 rfl (lw_callE 43 [] [] [(.pointer (some ⟨gB2, 0, none⟩)), (.int .i64 ((3 : Nat) : Int))] rfl rfl cf43 zN (c_spec_l00Src_pick _ gB2 _ _ _ (((3 : Nat) : Int)) hF13 oM oM sD) ?_))))
  rintro e15 w15 ⟨x15_0, n15, rfl, hC15, hs15, hb15, hp15_0⟩
  refine ⟨_, rfl, ?_⟩
  have hzs15 : w11.heap.size ≤ w15.heap.size := hC15.size
  have hE15 : Ext w w15 := hC15.below hE11 (fun c hc => by have := List.mem_singleton.1 hc; omega) hE11.size
  have hF16 := hF12.chg hC15 (fun hm => by have := List.mem_singleton.1 hm; omega)
  have hF17 := hF14.chg ((good_owS (good_oFn 31 6))) hC15 (fun c hc => by have := List.mem_singleton.1 hc; omega)
  have hF18 := hB11.chg hC15 (fun hm => by have := List.mem_singleton.1 hm; omega)
  refine q_add (((1 : Nat) : Int) + x15_0) rfl rfl (w64 sD sD) zN (lw_tvn 1 rfl (wp_seq (wp_plain _ [0, 2, 0, 0] rfl ?_)))
  refine q_fldP (p := (.pointer (some ⟨w7.heap.size, 0, none⟩))) (b := w7.heap.size) (o := 0) 0 fd37_0 rfl rfl zN (q_load (p := (padd (.pointer (some ⟨w7.heap.size, 0, none⟩)) 0)) (.inr rfl) v7 one35 rfl (hF18.ldp (i := 0) sM) zN (q_len (v := v7) u35 rfl hF17.isSlS zN (lw_tvn 1 rfl (wp_seq (wp_plain _ [0, 0, 3, 4] rfl (lw_tv 1 rfl ?_))))))
  have hbd19 : ∀ (wq : World), (Instr.build 34 #[(0, (.string (⟨#[116, 117, 114, 110]⟩))), (1, (.int .i64 (((1 : Nat) : Int) + x15_0)))]).run Try.prog wq = .ok (.agg #[(.string (⟨#[116, 117, 114, 110]⟩)), (.int .i64 (((1 : Nat) : Int) + x15_0)), (.slice none 0 0)]) wq := by intro wq; kernel_rfl
  refine q_build (ps := #[(0, (.string (⟨#[116, 117, 114, 110]⟩))), (1, (.int .i64 (((1 : Nat) : Int) + x15_0)))]) (.agg #[(.string (⟨#[116, 117, 114, 110]⟩)), (.int .i64 (((1 : Nat) : Int) + x15_0)), (.slice none 0 0)]) (by simp only [List.map_toArray, List.map_cons, List.map_nil]; rfl) (fun wq => hbd19  wq) zN ?_
  have hq21 := hF16.lt
  have hq22 := hF18.lt
  refine r_allocA (z := .agg #[.string ByteArray.empty, .int .i64 0, .slice none 0 0]) zr34 zN fun w20 hX20 hz20 hB20 => ?_
  have hzs20 : w15.heap.size ≤ w20.heap.size := hX20.size
  have hE20 : Ext w w20 := hE15.trans hX20
  have hF16x20 := hF16.ext hX20
  have hs15x20 := hs15.ext hX20
  have hF17x20 := hF17.ext ((good_owS (good_oFn 31 6))) hX20
  have hF18x20 := hF18.ext hX20
  replace hB20 : BX w20.heap w15.heap.size [(.string ByteArray.empty), (.int .i64 0), (.slice none 0 0)] := hB20
  refine e_setA (vs := [(.string (⟨#[116, 117, 114, 110]⟩)), (.int .i64 (((1 : Nat) : Int) + x15_0)), (.slice none 0 0)]) agg34 rfl rfl (by intro u hu; simp only [List.mem_cons, List.not_mem_nil, or_false] at hu; rcases hu with rfl | rfl | rfl <;> first | exact ⟨rfl, rfl⟩) hB20 rfl rfl zN fun w23 hC23 hz23 hB23 => ?_
  replace hB23 : BX w23.heap w15.heap.size [(.string (⟨#[116, 117, 114, 110]⟩)), (.int .i64 (((1 : Nat) : Int) + x15_0)), (.slice none 0 0)] := hB23
  have hzs23 : w20.heap.size ≤ w23.heap.size := hC23.size
  have hE23 : Ext w w23 := hC23.below hE20 (fun c hc => by have := List.mem_singleton.1 hc; omega) hE20.size
  have hF24 := hF16x20.chg hC23 (fun hm => by have := List.mem_singleton.1 hm; omega)
  have hF25 := hs15x20.chg hC23 (fun c hc => by have := List.mem_singleton.1 hc; omega)
  have hF26 := hF17x20.chg ((good_owS (good_oFn 31 6))) hC23 (fun c hc => by have := List.mem_singleton.1 hc; omega)
  have hF27 := hF18x20.chg hC23 (fun hm => by have := List.mem_singleton.1 hm; omega)
  refine lw_nil (wp_seq (wp_seq (wp_plain _ [0] rfl (lw_tvn 1 rfl (wp_block ?_)))))
  refine c_loop (S := Nat × Value × List Ex × Nat) (fun (⟨i, vo, xs, m⟩ : Nat × Value × List Ex × Nat) => ([(10, (.int .i64 ((i : Nat) : Int))), (2, (.pointer (some ⟨w.heap.size, 0, none⟩))), (5, (.pointer (some ⟨gB2, 0, none⟩))), (6, (.pointer (some ⟨w7.heap.size, 0, none⟩))), (7, (.int .i64 (((1 : Nat) : Int) + x15_0))), (8, (.int .i64 ((p7.length : Nat) : Int))), (9, (.pointer (some ⟨w15.heap.size, 0, none⟩)))] : List (Nat × Value))) (fun (⟨i, vo, xs, m⟩ : Nat × Value × List Ex × Nat) (W : World) => Ext w W ∧ Fr (owS 5 (oEx 31 6) 31) w23.heap.size W.heap.size W.heap vo xs ∧ Fr (owS 3 (oFn 31 6) 34) w5.heap.size w7.heap.size W.heap v7 p7 ∧ Src W.heap gB2 vc cs m ∧ BX W.heap w.heap.size [(.slice none 0 0)] ∧ BX W.heap w7.heap.size [v7] ∧ BX W.heap w15.heap.size [(.string (⟨#[116, 117, 114, 110]⟩)), (.int .i64 (((1 : Nat) : Int) + x15_0)), vo] ∧ ((i : Nat) : Int) ≤ (((1 : Nat) : Int) + x15_0) ∧ FOk p7 (((1 : Nat) : Int) + x15_0) false xs i ∧ m ≤ 200000 + 12000 * i ∧ w7.heap.size ≤ w23.heap.size ∧ (gB2 < w5.heap.size ∧ w.heap.size ≤ w5.heap.size ∧ w.heap.size < gB2) ∧ w7.heap.size ≤ w15.heap.size ∧ w.heap.size < w23.heap.size ∧ w7.heap.size < w23.heap.size ∧ w15.heap.size < w23.heap.size ∧ w23.heap.size ≤ W.heap.size ∧ w5.heap.size ≤ W.heap.size) (fun (⟨i, vo, xs, m⟩ : Nat × Value × List Ex × Nat) => ((((1 : Nat) : Int) + x15_0)).toNat - i) (0, (.slice none 0 0), ([] : List Ex), n15) ⟨rfl, rfl, rfl, rfl, rfl, rfl, rfl, trivial⟩ ⟨hE23, (frNilS _ 0 _).up (good_owS (good_oEx 31 6)), hF26, hF25, hF24, hF27, hB23, oM, (by exact FOk.nil _ _ _), oM, oM, oM, oM, oM, oM, oM, oM, oM⟩ ?_
  clear hE0 hz1 hX1 hzs1 hE1 hX2 hzs2 hE2 hC3 hzs3 hE3 hF4 hC5 hF6 hG7 hO7 hC7 hF8 hz9 hX9 hzs9 hE9 hF8x9 hO7x9 hz11 hC11 hzs11 hE11 hF12 hF13 hF14 hC15 hzs15 hE15 hF16 hF17 hF18 hz20 hX20 hzs20 hE20 hF16x20 hF17x20 hF18x20 hz23 hC23 hF24 hF25 hF26 hF27
  rintro ⟨i, vo, xs, m⟩ ρ31 w31 ⟨hE31, hL31_0, hL31_1, hL31_2, hL31_3, hL31_4, hL31_5, hio, hff, hm2, huw, hgb, huf, hkg28, hkg29, hkg30, hkB32, hkB33⟩
  have hzs31 : w.heap.size ≤ w31.heap.size := hE31.size
  have hq34 := hL31_3.lt
  have hq35 := hL31_4.lt
  have hq36 := hL31_5.lt
  refine wp_seq (wp_seq (wp_plain _ [0, 0, 0] rfl (lw_tv 2 rfl ?_)))
  by_cases hc37 : ((i : Nat) : Int) < ((1 : Nat) : Int) + x15_0
  ·
    refine q_lss true rfl rfl (decide_eq_true hc37) zN (lw_nil (c_cond_t rfl (wp_skip (wp_seq (wp_block (wp_seq (wp_plain _ [0, 0, 3, 0] rfl (lw_tv 1 rfl ?_))))))))
    have hbd38 : ∀ (wq : World), (Instr.build 106 #[(0, (.pointer (some ⟨gB2, 0, none⟩))), (1, (.pointer (some ⟨w7.heap.size, 0, none⟩))), (2, (.int .i64 ((8 : Nat) : Int)))]).run Try.prog wq = .ok (.agg #[(.pointer (some ⟨gB2, 0, none⟩)), (.pointer (some ⟨w7.heap.size, 0, none⟩)), (.int .i64 ((8 : Nat) : Int)), (.bool false)]) wq := by intro wq; kernel_rfl
    refine q_build (ps := #[(0, (.pointer (some ⟨gB2, 0, none⟩))), (1, (.pointer (some ⟨w7.heap.size, 0, none⟩))), (2, (.int .i64 ((8 : Nat) : Int)))]) (.agg #[(.pointer (some ⟨gB2, 0, none⟩)), (.pointer (some ⟨w7.heap.size, 0, none⟩)), (.int .i64 ((8 : Nat) : Int)), (.bool false)]) (by simp only [List.map_toArray, List.map_cons, List.map_nil]; rfl) (fun wq => hbd38  wq) zN ?_
    have hq40 := hL31_3.lt
    have hq41 := hL31_4.lt
    have hq42 := hL31_5.lt
    refine r_boxA (cs := #[(.pointer (some ⟨gB2, 0, none⟩)), (.pointer (some ⟨w7.heap.size, 0, none⟩)), (.int .i64 ((8 : Nat) : Int)), (.bool false)]) rfl zN fun w39 hX39 hz39 hB39 => ?_
    have hzs39 : w31.heap.size ≤ w39.heap.size := hX39.size
    have hE39 : Ext w w39 := hE31.trans hX39
    have hL31_0x39 := hL31_0.ext ((good_owS (good_oEx 31 6))) hX39
    have hL31_1x39 := hL31_1.ext ((good_owS (good_oFn 31 6))) hX39
    have hL31_2x39 := hL31_2.ext hX39
    have hL31_3x39 := hL31_3.ext hX39
    have hL31_4x39 := hL31_4.ext hX39
    have hL31_5x39 := hL31_5.ext hX39
    replace hB39 : BX w39.heap w31.heap.size [(.pointer (some ⟨gB2, 0, none⟩)), (.pointer (some ⟨w7.heap.size, 0, none⟩)), (.int .i64 ((8 : Nat) : Int)), (.bool false)] := hB39
    refine lw_tvn 1 rfl ?_
    letI : JR := jrC [gB2, w31.heap.size]
    refine Jx.wp_draw _ [0, 1, 0, 0, 0, 3, 3, 4, 0, 4] mixed (by kernel_rfl) (Jx.q_fldP (p := (.pointer (some ⟨w15.heap.size, 0, none⟩))) (b := w15.heap.size) (o := 0) 2 fd34_2 rfl rfl zN (Jx.q_loadJ (p := (padd (.pointer (some ⟨w15.heap.size, 0, none⟩)) 2)) vo one29 rfl (fun wj hj => (BX.chg (w := w39.drew) (F := [gB2, w31.heap.size]) hL31_5x39 hj (fun hm => by have := mem2 hm; omega)).ldp (i := 2) sM) zN (Jx.q_move (.pointer (some ⟨w31.heap.size, 0, none⟩)) rfl zN (Jx.q_move (.int .i64 (((1 : Nat) : Int) + x15_0)) rfl zN (Jx.q_move (.int .i64 ((p7.length : Nat) : Int)) rfl zN ?_)))))
    refine Jx.lw_call 76 [] [] [(.pointer (some ⟨w31.heap.size, 0, none⟩)), (.int .i64 (((1 : Nat) : Int) + x15_0)), (.int .i64 ((p7.length : Nat) : Int)), (.int .i64 ((4 : Nat) : Int))] rfl rfl cf76 zN (GX_any 4 _ w31.heap.size gB2 vc cs m (.pointer (some ⟨w7.heap.size, 0, none⟩)) 6 ((8 : Nat) : Int) false p7 (((1 : Nat) : Int) + x15_0) (((p7.length : Nat) : Int)) oM hL31_2x39 hB39 (RN.box hL31_4x39 (RP.mk' (RN.of_frF2 hL31_1x39 (fun b hb => by have := mem2 hb; omega))) (fun hb => by have := mem2 hb; omega)) oM oM oM oM (by exact hdp.gpr) oM oM oM) ?_
    rintro e43 w43 ⟨v43, x43, n43, l43, rfl, hC43, hs43, hb43, hB43, hO43, hr43, hG43⟩
    refine ⟨_, rfl, hC43, ?_⟩
    replace hO43 := hO43.low (B' := w39.heap.size) (Nat.le_refl _)
    replace hC43 := hC43.of_drew
    have hzs43 : w39.heap.size ≤ w43.heap.size := hC43.size
    have hE43 : Ext w w43 := hC43.below hE39 (fun c hc => by have := mem2 hc; omega) hE39.size
    have hF44 := hL31_0x39.chg ((good_owS (good_oEx 31 6))) hC43 (fun c hc => by have := mem2 hc; omega)
    have hF45 := hL31_1x39.chg ((good_owS (good_oFn 31 6))) hC43 (fun c hc => by have := mem2 hc; omega)
    have hF46 := hL31_3x39.chg hC43 (fun hm => by have := mem2 hm; omega)
    have hF47 := hL31_4x39.chg hC43 (fun hm => by have := mem2 hm; omega)
    have hF48 := hL31_5x39.chg hC43 (fun hm => by have := mem2 hm; omega)
    refine Jx.tail rfl (r_oneS (cs := [(.int .i64 x43.kind), (.int .i64 x43.num), (.int .i64 x43.pick), (.int .i64 x43.count), v43]) (y := x43) (B := w39.heap.size) (good_oEx 31 6) u29 tiS31 rfl (by decide) rfl (FrN.le (FrN.mk1 (d := 5) oM hr43 hO43) oM) oM zN fun v49 w49 hX49 hz49 hO49 => ?_)
    have hzs49 : w43.heap.size ≤ w49.heap.size := hX49.size
    have hE49 : Ext w w49 := hE43.trans hX49
    have hF44x49 := hF44.ext ((good_owS (good_oEx 31 6))) hX49
    have hF45x49 := hF45.ext ((good_owS (good_oFn 31 6))) hX49
    have hs43x49 := hs43.ext hX49
    have hF46x49 := hF46.ext hX49
    have hF47x49 := hF47.ext hX49
    have hF48x49 := hF48.ext hX49
    have hB43x49 := hB43.ext hX49
    refine e_appS (v := vo) (a := v49) (good_oEx 31 6) u29 tiS31 rfl (by decide) rfl rfl hF44x49 oM hO49 oM oM (by have := hff.len; omega) (by have := hff.len; unfold maxLen; omega) zN fun v50 w50 F50 hC50 hF50 hO50 => ?_
    have hzs50 : w49.heap.size ≤ w50.heap.size := hC50.size
    have hE50 : Ext w w50 := hC50.below hE49 (fun c hc => by have := hF50 _ hc; omega) hE49.size
    have hF51 := hF45x49.chg ((good_owS (good_oFn 31 6))) hC50 (fun c hc => by have := hF50 _ hc; omega)
    have hF52 := hs43x49.chg hC50 (fun c hc => by have := hF50 _ hc; omega)
    have hF53 := hF46x49.chg hC50 (fun hm => by have := hF50 _ hm; omega)
    have hF54 := hF47x49.chg hC50 (fun hm => by have := hF50 _ hm; omega)
    have hF55 := hF48x49.chg hC50 (fun hm => by have := hF50 _ hm; omega)
    have hF56 := hB43x49.chg hC50 (fun hm => by have := hF50 _ hm; omega)
    refine q_fldP (p := (.pointer (some ⟨w15.heap.size, 0, none⟩))) (b := w15.heap.size) (o := 0) 2 fd34_2 rfl rfl zN (e_setB (k := 2) (w := w50) sz29 rfl rfl (isSl_one hO50.isSlS) hF55 sM zN fun w57 hC57 hz57 hB57 => ?_)
    replace hB57 : BX w57.heap w15.heap.size [(.string (⟨#[116, 117, 114, 110]⟩)), (.int .i64 (((1 : Nat) : Int) + x15_0)), v50] := hB57
    have hzs57 : w50.heap.size ≤ w57.heap.size := hC57.size
    have hE57 : Ext w w57 := hC57.below hE50 (fun c hc => by have := List.mem_singleton.1 hc; omega) hE50.size
    have hF58 := hF51.chg ((good_owS (good_oFn 31 6))) hC57 (fun c hc => by have := List.mem_singleton.1 hc; omega)
    have hF59 := hF52.chg hC57 (fun c hc => by have := List.mem_singleton.1 hc; omega)
    have hF60 := hF53.chg hC57 (fun hm => by have := List.mem_singleton.1 hm; omega)
    have hF61 := hF54.chg hC57 (fun hm => by have := List.mem_singleton.1 hm; omega)
    have hF62 := hF56.chg hC57 (fun hm => by have := List.mem_singleton.1 hm; omega)
    have hF63 := hO50.chg ((good_owS (good_oEx 31 6))) hC57 (fun c hc => by have := List.mem_singleton.1 hc; omega)
    exact lw_nil (wp_plain _ [0, 0, 0] rfl (lw_tv 1 rfl (q_add ((i + 1 : Nat) : Int) rfl rfl (w64n oM oM) zN (lw_tvn 1 rfl ⟨((i + 1), v50, (xs ++ [x43]), n43), _, rfl, ⟨rfl, rfl, rfl, rfl, rfl, rfl, rfl, trivial⟩, ⟨hE57, hF63.up (good_owS (good_oEx 31 6)), hF58, hF59, hF60, hF61, hB57, oM, (by exact (hff.snoc (funcs := ((p7.length : Nat) : Int)) (d := 4) (l0 := 8) oM oM oM (GOk.npl (by assumption)))), oM, oM, oM, oM, oM, oM, oM, oM, oM⟩, by first | omega | (dsimp only; omega)⟩))))
  ·
    refine q_lss false rfl rfl (decide_eq_false hc37) zN (lw_nil (c_cond_f rfl (wp_exit (t_exit (t_exit (c_exit_here (wp_seq (wp_plain _ [0, 2, 2, 3, 4, 0, 4] rfl (q_fldP (p := (.pointer (some ⟨w7.heap.size, 0, none⟩))) (b := w7.heap.size) (o := 0) 0 fd37_0 rfl rfl zN (q_load (p := (padd (.pointer (some ⟨w7.heap.size, 0, none⟩)) 0)) (.inr rfl) v7 one35 rfl (hL31_4.ldp (i := 0) sM) zN (q_loadA (p := (.pointer (some ⟨w15.heap.size, 0, none⟩))) (.inr rfl) [(.string (⟨#[116, 117, 114, 110]⟩)), (.int .i64 (((1 : Nat) : Int) + x15_0)), vo] agg34 rfl (fun wq9 hw9 => LD.of_box (BX.ext (w := w31) hL31_5 hw9)) rfl zN ?_)))))))))))
    refine r_oneS (cs := [(.string (⟨#[116, 117, 114, 110]⟩)), (.int .i64 (((1 : Nat) : Int) + x15_0)), vo]) (y := (Fn.mk (⟨#[116, 117, 114, 110]⟩) (((1 : Nat) : Int) + x15_0) xs)) (B := w23.heap.size) (good_oFn 31 6) u35 tiS34 rfl (by decide) rfl (FrN.mkF (x := ⟨(⟨#[116, 117, 114, 110]⟩), (((1 : Nat) : Int) + x15_0), xs⟩) (i64_mk (a := (((1 : Nat) : Int) + x15_0)) oM) hL31_0) oM zN fun v64 w64 hX64 hz64 hO64 => ?_
    have hzs64 : w31.heap.size ≤ w64.heap.size := hX64.size
    have hE64 : Ext w w64 := hE31.trans hX64
    have hL31_1x64 := hL31_1.ext ((good_owS (good_oFn 31 6))) hX64
    have hL31_2x64 := hL31_2.ext hX64
    have hL31_3x64 := hL31_3.ext hX64
    have hL31_4x64 := hL31_4.ext hX64
    have hL31_5x64 := hL31_5.ext hX64
    refine e_appQ (v := v7) (a := v64) (good_oFn 31 6) u35 tiS34 rfl (by decide) rfl rfl hL31_1x64 hO64 oM oM (by unfold maxLen; omega) zN fun v65 w65 F65 hC65 hF65 hO65 => ?_
    have hzs65 : w64.heap.size ≤ w65.heap.size := hC65.size
    have hE65 : Ext w w65 := hC65.below hE64 (fun c hc => by have := hF65 _ hc; omega) hE64.size
    have hF66 := hL31_2x64.chg hC65 (fun c hc => by have := hF65 _ hc; omega)
    have hF67 := hL31_3x64.chg hC65 (fun hm => by have := hF65 _ hm; omega)
    have hF68 := hL31_4x64.chg hC65 (fun hm => by have := hF65 _ hm; omega)
    have hF69 := hL31_5x64.chg hC65 (fun hm => by have := hF65 _ hm; omega)
    refine q_fldP (p := (.pointer (some ⟨w7.heap.size, 0, none⟩))) (b := w7.heap.size) (o := 0) 0 fd37_0 rfl rfl zN (e_setB (k := 0) (w := w65) sz35 rfl rfl (isSl_one (FrP.isSlS hO65)) hF68 sM zN fun w70 hC70 hz70 hB70 => ?_)
    replace hB70 : BX w70.heap w7.heap.size [v65] := hB70
    have hzs70 : w65.heap.size ≤ w70.heap.size := hC70.size
    have hE70 : Ext w w70 := hC70.below hE65 (fun c hc => by have := List.mem_singleton.1 hc; omega) hE65.size
    have hF71 := hF66.chg hC70 (fun c hc => by have := List.mem_singleton.1 hc; omega)
    have hF72 := hF67.chg hC70 (fun hm => by have := List.mem_singleton.1 hm; omega)
    have hF73 := hF69.chg hC70 (fun hm => by have := List.mem_singleton.1 hm; omega)
    have hF74 := hO65.chg (good_owS (good_oFn 31 6)) hC70 (fun c hc => by have := List.mem_singleton.1 hc; intro hs9; (try dsimp only at hs9); omega)
    have hF75 := hF74.fr (good_owS (good_oFn 31 6)) (B := w5.heap.size) (fun b hb => by (try dsimp only at hb); omega)
    refine lw_nil (wp_seq ?_)
    letI : JR := jrC [gB2]
    refine Jx.wp_draw _ [1, 0, 0, 0, 3, 4, 0, 0] mixed (by kernel_rfl) (Jx.q_loadAJ (p := (.pointer (some ⟨w7.heap.size, 0, none⟩))) [v65] agg37 rfl (fun wj hj => LD.of_box (BX.chg (w := w70.drew) (F := [gB2]) hB70 hj (fun hm => by have := List.mem_singleton.1 hm; omega))) rfl zN (Jx.q_move (.int .i64 ((p7.length : Nat) : Int)) rfl zN (Jx.q_move (.pointer (some ⟨gB2, 0, none⟩)) rfl zN (Jx.q_move (.int .i64 (((1 : Nat) : Int) + x15_0)) rfl zN (Jx.lw_call 44 [] [] [(.pointer (some ⟨gB2, 0, none⟩)), (.int .i64 (((1 : Nat) : Int) + x15_0))] rfl rfl cf44 zN (c_spec_l01Draw _ gB2 _ _ _ (((1 : Nat) : Int) + x15_0) hF71 oM oM oM) ?_)))))
    rintro e76 w76 ⟨v76_0, x76_0, n76, rfl, hC76, hs76, hb76, hO76_0, hp76_0⟩
    refine ⟨_, rfl, hC76, ?_⟩
    replace hO76_0 := hO76_0.low (B' := w70.heap.size) (Nat.le_refl _)
    replace hC76 := hC76.of_drew
    have hzs76 : w70.heap.size ≤ w76.heap.size := hC76.size
    have hE76 : Ext w w76 := hC76.below hE70 (fun c hc => by have := List.mem_singleton.1 hc; omega) hE70.size
    have hF77 := hF72.chg hC76 (fun hm => by have := List.mem_singleton.1 hm; omega)
    have hF78 := hB70.chg hC76 (fun hm => by have := List.mem_singleton.1 hm; omega)
    have hF79 := hF73.chg hC76 (fun hm => by have := List.mem_singleton.1 hm; omega)
    have hF80 := hF75.chg ((good_owS (good_oFn 31 6))) hC76 (fun c hc => by have := List.mem_singleton.1 hc; omega)
    have hst := hp76_0
    refine Jx.tail rfl (e_setA (vs := [v65]) agg37 rfl rfl (by intro u hu; simp only [List.mem_cons, List.not_mem_nil, or_false] at hu; rcases hu with rfl <;> first | exact ⟨rfl, rfl⟩ | exact isSl_one hF80.isSlS) hF77 rfl rfl zN fun w81 hC81 hz81 hB81 => ?_)
    replace hB81 : BX w81.heap w.heap.size [v65] := hB81
    have hzs81 : w76.heap.size ≤ w81.heap.size := hC81.size
    have hE81 : Ext w w81 := hC81.below hE76 (fun c hc => by have := List.mem_singleton.1 hc; omega) hE76.size
    have hF82 := hF78.chg hC81 (fun hm => by have := List.mem_singleton.1 hm; omega)
    have hF83 := hF79.chg hC81 (fun hm => by have := List.mem_singleton.1 hm; omega)
    have hF84 := hF80.chg ((good_owS (good_oFn 31 6))) hC81 (fun c hc => by have := List.mem_singleton.1 hc; omega)
    have hF85 := hO76_0.chg (o1) hC81 (fun c hc => by have := List.mem_singleton.1 hc; omega)
    exact lw_tvn 2 rfl (wp_ret (post_retC (t0 := 3) (ts := [4]) (cs := [v65]) [(.int .i64 ((p7.length : Nat) : Int)), v76_0] rfl agg37 rfl hB81 rfl rfl ⟨v65, v76_0, (p7 ++ [(Fn.mk (⟨#[116, 117, 114, 110]⟩) (((1 : Nat) : Int) + x15_0) xs)]), ((p7.length : Nat) : Int), x76_0, rfl, hE81, ((hF84.up (good_owS (good_oFn 31 6))).low (B' := w.heap.size) oM), ((hF85.up o1).low (B' := w.heap.size) oM), (by exact LoopD.mk' (i := i) hdp hdn oM ⟨by show 1 ≤ (((1 : Nat) : Int) + x15_0); omega, by show (((1 : Nat) : Int) + x15_0) ≤ 3; omega⟩ hff (by show _ = (((1 : Nat) : Int) + x15_0); omega) rfl oM (by show _ = (((1 : Nat) : Int) + x15_0); omega) hst.2)⟩))
end Go.Proofs.Ytnofbmdpabcjaaa
namespace Go.Proofs.Ytnofbmdpabcjaaa
open Go Go.RowKit
set_option linter.unusedVariables false
set_option linter.unusedSimpArgs false
set_option maxHeartbeats 4000000
set_option maxRecDepth 100000
attribute [local irreducible] LW
theorem z5_0 {p : Prop} (h : p := by first | rfl | exact ret_bool (decide_eq_true (hL.big oM)) | exact ret_bool (decide_eq_true (by have := hok.2.2; omega))) : p := h
theorem c_laws_FnLoops (w : World) (vc : Value) (cs : List UInt8) (vd : Value) (ds : List UInt8) (hcs : Rd (rdL rU) w.heap vc cs) (hds : Rd (rdL rU) w.heap vd ds)  :
    Calls Try.prog 5 #[vc, vd] w (fun e w' => e = .returned (.bool true) ∧ Ext w w') := by
  refine calls_mk [vc, vd] 129 Try.func5 rfl rfl sM ?_
  have hE0 : Ext w w := Ext.refl w
  have hl_vc := hcs.lenle
  have hl_vd := hds.lenle
  refine wp_seq (wp_plain _ [0] rfl (lw_tvn 1 rfl (wp_seq (wp_seq (wp_plain _ [0, 0, 3] rfl (lw_tv 2 rfl (lw_call 9 [] [] [vc, vd] rfl rfl cf9 zN (c_laws_a2Long _ _ _ _ _ (hcs.ext good_u hE0) (hds.ext good_u hE0)) ?_)))))))
  rintro e1 w1 ⟨rfl, hX1⟩
  refine ⟨_, rfl, hX1, ?_⟩
  have hzs1 : w.heap.size ≤ w1.heap.size := hX1.size
  have hE1 : Ext w w1 := hE0.trans hX1
  refine lw_nil ?_
  cases hb2 : (decide (((3000 : Nat) : Int) < ((cs.length : Nat) : Int)) || decide (((3000 : Nat) : Int) < ((ds.length : Nat) : Int)))
  ·
    refine c_cond_f (by first | rfl | (show Value.bool _ = _; rw [hb2])) (wp_skip (wp_seq (wp_plain _ [0, 3, 0, 0, 0, 0, 3, 4, 0, 0] rfl (lw_tv 1 rfl (lw_call 28 [] [] [vc] rfl rfl cf28 zN (c_spec_A2Loops _ vc _ (hcs.ext good_u hE1)) ?_)))))
    rintro e3 w3 ⟨vD, vaD, pD, fD, aD, rfl, hX3, hOD, haD, hLD⟩
    refine ⟨_, rfl, hX3, ?_⟩
    have hzs3 : w1.heap.size ≤ w3.heap.size := hX3.size
    have hE3 : Ext w w3 := hE1.trans hX3
    have hfe := hLD.fe
    have hlc := hLD.len
    have hpa := hLD.dr.par fD.toNat oM
    have hou := hLD.dr.outs fD.toNat oM
    have hla := hLD.la
    have hsq := hLD.sq
    have hft : ((fD.toNat : Nat) : Int) = fD := by omega
    refine lw_tv 1 rfl (q_extract (vs := [(.agg #[vD]), (.int .i64 fD), vaD]) (.agg #[vD]) rfl rfl zN (q_extract (vs := [(.agg #[vD]), (.int .i64 fD), vaD]) (.int .i64 fD) rfl rfl zN (q_extract (vs := [(.agg #[vD]), (.int .i64 fD), vaD]) vaD rfl rfl zN (r_allocA (z := .agg #[.slice none 0 0]) zr37 zN fun w4 hX4 hz4 hB4 => ?_))))
    have hzs4 : w3.heap.size ≤ w4.heap.size := hX4.size
    have hE4 : Ext w w4 := hE3.trans hX4
    have hODx4 := hOD.ext ((good_owS (good_oFn 31 6))) hX4
    have haDx4 := haD.ext (o1) hX4
    replace hB4 : BX w4.heap w3.heap.size [(.slice none 0 0)] := hB4
    refine e_setA (vs := [vD]) agg37 rfl rfl (by intro u hu; simp only [List.mem_cons, List.not_mem_nil, or_false] at hu; rcases hu with rfl <;> first | exact ⟨rfl, rfl⟩ | exact isSl_one hODx4.isSlS) hB4 rfl rfl zN fun w5 hC5 hz5 hB5 => ?_
    replace hB5 : BX w5.heap w3.heap.size [vD] := hB5
    have hzs5 : w4.heap.size ≤ w5.heap.size := hC5.size
    have hE5 : Ext w w5 := hC5.below hE4 (fun c hc => by have := List.mem_singleton.1 hc; omega) hE4.size
    have hF6 := hODx4.chg ((good_owS (good_oFn 31 6))) hC5 (fun c hc => by have := List.mem_singleton.1 hc; omega)
    have hF7 := haDx4.chg (o1) hC5 (fun c hc => by have := List.mem_singleton.1 hc; omega)
    refine lw_tvn 2 rfl (wp_seq (wp_plain _ [0, 2, 0, 0, 0, 2, 0] rfl (q_fldP (p := (.pointer (some ⟨w3.heap.size, 0, none⟩))) (b := w3.heap.size) (o := 0) 0 fd37_0 rfl rfl zN (q_load (p := (padd (.pointer (some ⟨w3.heap.size, 0, none⟩)) 0)) (.inr rfl) vD one35 rfl (hB5.ldp (i := 0) sM) zN (lw_tv 1 rfl (q_idx (v := vD) ((fD).toNat) u35 tiS34 rfl rfl hF6.isSlS oM sD zN ?_))))))
    obtain ⟨cs8, hr8, hl8⟩ := RN.get (S := []) (good_rFn 6) Fn.zero (k := (fD).toNat) (RN.of_frF hF6 (fun b hb => by cases hb)) sD
    obtain ⟨ve8, rfl, hx8⟩ := RF.of hr8
    have hln8 := hx8.rn.lenle
    unfold maxLen at hln8
    refine q_fldL (p := eptr vD ((fD).toNat) 3) 1 fd34_1 rfl (hl8 _ (Chg.refl [] _)) zN (q_load (p := (padd (eptr vD ((fD).toNat) 3) 1)) (.inr rfl) (.int .i64 ((pD.getD ((fD).toNat) Fn.zero).params)) one2 rfl ((hl8 _ (Chg.refl [] _)).ld (i := 1) (by simp [exC, fnC])) zN (lw_tvn 1 rfl (wp_seq (wp_plain _ [0, 3, 0] rfl (lw_tv 1 rfl (lw_call 11 [] [] [vd, (.int .i64 ((0 : Nat) : Int)), (.int .i64 ((6 : Nat) : Int))] rfl rfl cf11 zN (c_laws_a2At _ _ _ _ _ (hds.ext good_u hE5) oM oM oM) ?_))))))
    rintro e9 w9 ⟨rfl, hX9⟩
    refine ⟨_, rfl, hX9, ?_⟩
    have hzs9 : w5.heap.size ≤ w9.heap.size := hX9.size
    have hE9 : Ext w w9 := hE5.trans hX9
    have hF6x9 := hF6.ext ((good_owS (good_oFn 31 6))) hX9
    have hF7x9 := hF7.ext (o1) hX9
    have hB5x9 := hB5.ext hX9
    refine lw_tvn 1 rfl (wp_seq (wp_plain _ [0, 0, 3, 0] rfl ?_))
    have ha6 := a2at_num ds ((0 : Nat) : Int) ((6 : Nat) : Int)
    obtain ⟨N, hNe⟩ : ∃ N : Nat, a2at ds ((0 : Nat) : Int) ((6 : Nat) : Int) = ((N : Nat) : Int) := ⟨(a2at ds ((0 : Nat) : Int) ((6 : Nat) : Int)).toNat, by omega⟩
    rw [hNe]
    have hN5 : N ≤ 5 := by have := a2at_num ds ((0 : Nat) : Int) ((6 : Nat) : Int); omega
    refine lw_tv 2 rfl (lw_call 11 [] [] [vd, (.int .i64 ((1 : Nat) : Int)), (.int .i64 ((pD.getD ((fD).toNat) Fn.zero).params))] rfl rfl cf11 zN (c_laws_a2At _ _ _ _ _ (hds.ext good_u hE9) oM hx8.rng oM) ?_)
    rintro e10 w10 ⟨rfl, hX10⟩
    refine ⟨_, rfl, hX10, ?_⟩
    have hzs10 : w9.heap.size ≤ w10.heap.size := hX10.size
    have hE10 : Ext w w10 := hE9.trans hX10
    have hF6x10 := hF6x9.ext ((good_owS (good_oFn 31 6))) hX10
    have hF7x10 := hF7x9.ext (o1) hX10
    have hB5x10 := hB5x9.ext hX10
    refine lw_tvn 1 rfl (wp_seq (wp_plain _ [0, 0, 0, 0, 3, 0, 3, 4] rfl ?_))
    have ha7 := a2at_num ds ((1 : Nat) : Int) (pD.getD fD.toNat Fn.zero).params
    obtain ⟨K, hKe⟩ : ∃ K : Nat, a2at ds ((1 : Nat) : Int) ((pD.getD ((fD).toNat) Fn.zero).params) = ((K : Nat) : Int) := ⟨(a2at ds ((1 : Nat) : Int) ((pD.getD ((fD).toNat) Fn.zero).params)).toNat, by omega⟩
    rw [hKe]
    have hK5 : ((K : Nat) : Int) < (pD.getD fD.toNat Fn.zero).params := by have := a2at_num ds ((1 : Nat) : Int) (pD.getD fD.toNat Fn.zero).params; omega
    refine lw_tv 4 rfl (lw_call 29 [] [] [(.int .i64 ((pD.getD ((fD).toNat) Fn.zero).params))] rfl rfl cf29 zN (c_spec_A2Vars _ ((pD.getD ((fD).toNat) Fn.zero).params) hx8.rng oM) ?_)
    rintro e11 w11 ⟨v11, rfl, hX11, hO11⟩
    refine ⟨_, rfl, hX11, ?_⟩
    have hzs11 : w10.heap.size ≤ w11.heap.size := hX11.size
    have hE11 : Ext w w11 := hE10.trans hX11
    have hF6x11 := hF6x10.ext ((good_owS (good_oFn 31 6))) hX11
    have hF7x11 := hF7x10.ext (o1) hX11
    have hB5x11 := hB5x10.ext hX11
    have hbd12 : ∀ (v11 : Value) (m12_0 : Nat) (h12_0 : isSl v11 m12_0) (wq : World), (Instr.build 31 #[(0, (.int .i64 ((11 : Nat) : Int))), (1, (.int .i64 fD)), (2, (.int .i64 ((K : Nat) : Int))), (3, (.int .i64 ((N : Nat) : Int))), (4, v11)]).run Try.prog wq = .ok (.agg #[(.int .i64 ((11 : Nat) : Int)), (.int .i64 fD), (.int .i64 ((K : Nat) : Int)), (.int .i64 ((N : Nat) : Int)), v11]) wq := by intro v11 m12_0 h12_0 wq; obtain ⟨a12_0, c12_0, rfl, _⟩ := h12_0; kernel_rfl
    refine q_build (ps := #[(0, (.int .i64 ((11 : Nat) : Int))), (1, (.int .i64 fD)), (2, (.int .i64 ((K : Nat) : Int))), (3, (.int .i64 ((N : Nat) : Int))), (4, v11)]) (.agg #[(.int .i64 ((11 : Nat) : Int)), (.int .i64 fD), (.int .i64 ((K : Nat) : Int)), (.int .i64 ((N : Nat) : Int)), v11]) (by simp only [List.map_toArray, List.map_cons, List.map_nil]; rfl) (fun wq => hbd12 v11 _ hO11.isSlS wq) zN ?_
    have hq14 := hB5x11.lt
    refine r_allocA (z := .agg #[.int .i64 0, .int .i64 0, .int .i64 0, .int .i64 0, .slice none 0 0]) zr31 zN fun w13 hX13 hz13 hB13 => ?_
    have hzs13 : w11.heap.size ≤ w13.heap.size := hX13.size
    have hE13 : Ext w w13 := hE11.trans hX13
    have hF6x13 := hF6x11.ext ((good_owS (good_oFn 31 6))) hX13
    have hF7x13 := hF7x11.ext (o1) hX13
    have hB5x13 := hB5x11.ext hX13
    have hO11x13 := hO11.ext ((good_owS (good_oEx 31 1))) hX13
    replace hB13 : BX w13.heap w11.heap.size [(.int .i64 0), (.int .i64 0), (.int .i64 0), (.int .i64 0), (.slice none 0 0)] := hB13
    refine e_setA (vs := [(.int .i64 ((11 : Nat) : Int)), (.int .i64 fD), (.int .i64 ((K : Nat) : Int)), (.int .i64 ((N : Nat) : Int)), v11]) agg31 rfl rfl (by intro u hu; simp only [List.mem_cons, List.not_mem_nil, or_false] at hu; rcases hu with rfl | rfl | rfl | rfl | rfl <;> first | exact ⟨rfl, rfl⟩ | exact isSl_one hO11x13.isSlS) hB13 rfl rfl zN fun w15 hC15 hz15 hB15 => ?_
    replace hB15 : BX w15.heap w11.heap.size [(.int .i64 ((11 : Nat) : Int)), (.int .i64 fD), (.int .i64 ((K : Nat) : Int)), (.int .i64 ((N : Nat) : Int)), v11] := hB15
    have hzs15 : w13.heap.size ≤ w15.heap.size := hC15.size
    have hE15 : Ext w w15 := hC15.below hE13 (fun c hc => by have := List.mem_singleton.1 hc; omega) hE13.size
    have hF16 := hF6x13.chg ((good_owS (good_oFn 31 6))) hC15 (fun c hc => by have := List.mem_singleton.1 hc; omega)
    have hF17 := hF7x13.chg (o1) hC15 (fun c hc => by have := List.mem_singleton.1 hc; omega)
    have hF18 := hB5x13.chg hC15 (fun hm => by have := List.mem_singleton.1 hm; omega)
    have hF19 := hO11x13.chg ((good_owS (good_oEx 31 1))) hC15 (fun c hc => by have := List.mem_singleton.1 hc; omega)
    refine lw_nil (wp_seq (wp_plain _ [2, 0, 2, 3, 3, 3, 4] rfl (q_loadA (p := (.pointer (some ⟨w3.heap.size, 0, none⟩))) (.inr rfl) [vD] agg37 rfl (fun wq9 hw9 => LD.of_box (BX.ext (w := w15) hF18 hw9)) rfl zN (lw_tv 1 rfl (q_loadA (p := (.pointer (some ⟨w11.heap.size, 0, none⟩))) (.inr rfl) [(.int .i64 ((11 : Nat) : Int)), (.int .i64 fD), (.int .i64 ((K : Nat) : Int)), (.int .i64 ((N : Nat) : Int)), v11] agg31 rfl (fun wq9 hw9 => LD.of_box (BX.ext (w := w15) hB15 hw9)) rfl zN ?_)))))
    refine r_oneS (cs := [(.int .i64 ((11 : Nat) : Int)), (.int .i64 fD), (.int .i64 ((K : Nat) : Int)), (.int .i64 ((N : Nat) : Int)), v11]) (y := (.mk 11 fD ((K : Nat) : Int) ((N : Nat) : Int) (varL 0 (pD.getD fD.toNat Fn.zero).params.toNat))) (B := w10.heap.size) (good_oEx 31 6) u29 tiS31 rfl (by decide) rfl (FrN.le (FrN.mk1 (d := 2) (x := .mk 11 fD ((K : Nat) : Int) ((N : Nat) : Int) (varL 0 (pD.getD fD.toNat Fn.zero).params.toNat)) oM (exR_mk oM oM oM oM) hF19) oM) oM zN fun v20 w20 hX20 hz20 hO20 => ?_
    have hzs20 : w15.heap.size ≤ w20.heap.size := hX20.size
    have hE20 : Ext w w20 := hE15.trans hX20
    have hF16x20 := hF16.ext ((good_owS (good_oFn 31 6))) hX20
    have hF17x20 := hF17.ext (o1) hX20
    have hF18x20 := hF18.ext hX20
    have hB15x20 := hB15.ext hX20
    obtain ⟨hdq, hlp⟩ := hLD.loops (f1 := fD + ((1 : Nat) : Int)) (g := Fn.mk (⟨#[97, 103, 97, 105, 110]⟩ : ByteArray) (pD.getD fD.toNat Fn.zero).params [(.mk 11 fD ((K : Nat) : Int) ((N : Nat) : Int) (varL 0 (pD.getD fD.toNat Fn.zero).params.toNat))]) (N := N) (pk := K) rfl rfl rfl oM oM rfl
    have hsl21 := hO20.isSlS
    refine lw_call 30 [] [] [(.agg #[vD]), (.string (⟨#[97, 103, 97, 105, 110]⟩)), (.int .i64 ((pD.getD ((fD).toNat) Fn.zero).params)), v20] rfl rfl cf30 zN (c_spec_A2Join _ 6 vD (pD) (⟨#[97, 103, 97, 105, 110]⟩) ((pD.getD ((fD).toNat) Fn.zero).params) v20 ([(.mk 11 fD ((K : Nat) : Int) ((N : Nat) : Int) (varL 0 (pD.getD fD.toNat Fn.zero).params.toNat))]) (w10.heap.size) (w20.heap.size) (RN.of_frF hF16x20 (fun b hb => by cases hb)) hx8.rng hO20 oM oM (by exact hLD.dr.szp) oM) ?_
    rintro e21 w21 ⟨v21, rfl, hX21, hO21⟩
    refine ⟨_, rfl, hX21, ?_⟩
    have hzs21 : w20.heap.size ≤ w21.heap.size := hX21.size
    have hE21 : Ext w w21 := hE20.trans hX21
    have hF16x21 := hF16x20.ext ((good_owS (good_oFn 31 6))) hX21
    have hF17x21 := hF17x20.ext (o1) hX21
    have hF18x21 := hF18x20.ext hX21
    have hB15x21 := hB15x20.ext hX21
    have hq23 := hF18x21.lt
    have hq24 := hB15x21.lt
    refine r_allocA (z := .agg #[.slice none 0 0]) zr37 zN fun w22 hX22 hz22 hB22 => ?_
    have hzs22 : w21.heap.size ≤ w22.heap.size := hX22.size
    have hE22 : Ext w w22 := hE21.trans hX22
    have hF16x22 := hF16x21.ext ((good_owS (good_oFn 31 6))) hX22
    have hF17x22 := hF17x21.ext (o1) hX22
    have hF18x22 := hF18x21.ext hX22
    have hB15x22 := hB15x21.ext hX22
    have hO21x22 := hO21.ext ((good_owS (good_oFn 31 6))) hX22
    replace hB22 : BX w22.heap w21.heap.size [(.slice none 0 0)] := hB22
    refine e_setA (vs := [v21]) agg37 rfl rfl (by intro u hu; simp only [List.mem_cons, List.not_mem_nil, or_false] at hu; rcases hu with rfl <;> first | exact ⟨rfl, rfl⟩ | exact isSl_one hO21x22.isSlS) hB22 rfl rfl zN fun w25 hC25 hz25 hB25 => ?_
    replace hB25 : BX w25.heap w21.heap.size [v21] := hB25
    have hzs25 : w22.heap.size ≤ w25.heap.size := hC25.size
    have hE25 : Ext w w25 := hC25.below hE22 (fun c hc => by have := List.mem_singleton.1 hc; omega) hE22.size
    have hF26 := hF16x22.chg ((good_owS (good_oFn 31 6))) hC25 (fun c hc => by have := List.mem_singleton.1 hc; omega)
    have hF27 := hF17x22.chg (o1) hC25 (fun c hc => by have := List.mem_singleton.1 hc; omega)
    have hF28 := hF18x22.chg hC25 (fun hm => by have := List.mem_singleton.1 hm; omega)
    have hF29 := hB15x22.chg hC25 (fun hm => by have := List.mem_singleton.1 hm; omega)
    have hF30 := hO21x22.chg ((good_owS (good_oFn 31 6))) hC25 (fun c hc => by have := List.mem_singleton.1 hc; omega)
    refine lw_nil (wp_seq (wp_plain _ [0, 0] rfl (lw_tvn 2 rfl (wp_seq (wp_plain _ [0, 0, 0] rfl (lw_tv 1 rfl ?_))))))
    refine q_add (((1 : Nat) : Int) + ((pD.getD ((fD).toNat) Fn.zero).params)) rfl rfl (w64 sD sD) zN (lw_tvn 1 rfl (wp_seq (wp_seq ?_)))
    refine wp_plain _ [0] rfl (lw_tvn 1 rfl (wp_block ?_))
    refine c_loop (S := Nat × Value × List Int × Int) (fun (⟨k, vn, xs, tt⟩ : Nat × Value × List Int × Int) => ([(13, vn), (14, (.int .i64 tt)), (15, (.int .i64 ((k : Nat) : Int))), (5, (.pointer (some ⟨w3.heap.size, 0, none⟩))), (6, (.int .i64 fD)), (7, vaD), (9, (.int .i64 ((N : Nat) : Int))), (10, (.int .i64 ((K : Nat) : Int))), (12, (.pointer (some ⟨w21.heap.size, 0, none⟩)))] : List (Nat × Value))) (fun (⟨k, vn, xs, tt⟩ : Nat × Value × List Int × Int) (W : World) => Ext w W ∧ Fr (owL rI 2) w.heap.size W.heap.size W.heap vn xs ∧ Fr (owS 3 (oFn 31 6) 34) w1.heap.size w3.heap.size W.heap vD pD ∧ Fr (owS 3 (oFn 31 6) 34) w10.heap.size w21.heap.size W.heap v21 (pD ++ [Fn.mk (⟨#[97, 103, 97, 105, 110]⟩) ((pD.getD ((fD).toNat) Fn.zero).params) ([(.mk 11 fD ((K : Nat) : Int) ((N : Nat) : Int) (varL 0 (pD.getD fD.toNat Fn.zero).params.toNat))])]) ∧ Fr (owL rI 2) w1.heap.size w3.heap.size W.heap vaD aD ∧ BX W.heap w3.heap.size [vD] ∧ BX W.heap w21.heap.size [v21] ∧ k ≤ N ∧ xs = nowI pD fD aD k ∧ (∀ j, j < k → euC pD fD (nowI pD fD aD j) = 0) ∧ tt = (1 + (((pD.getD fD.toNat Fn.zero).params.toNat : Nat) : Int)) + ((sumN (stI pD fD aD) k : Nat) : Int) ∧ sumN (stI pD fD aD) k ≤ 3000 * k ∧ w1.heap.size ≤ W.heap.size ∧ w10.heap.size ≤ W.heap.size) (fun (⟨k, vn, xs, tt⟩ : Nat × Value × List Int × Int) => N - k) (0, vaD, aD, (((1 : Nat) : Int) + ((pD.getD ((fD).toNat) Fn.zero).params))) ⟨rfl, rfl, rfl, rfl, rfl, rfl, rfl, rfl, rfl, trivial⟩ ⟨hE25, (hF27.up o1).low hE1.size, hF26, hF30, hF27, hF28, hB25, oM, (by rfl), (by intro j hj; omega), (by show _ = _ + ((0 : Nat) : Int); omega), (by exact Nat.le_refl _), oM, oM⟩ ?_
    clear hE0 hX1 hX3 hz4 hX4 hzs4 hE4 hz5 hC5 hzs5 hE5 hF6 hF7 hln8 hX9 hzs9 hE9 hF6x9 hF7x9 hX10 hF6x10 hF7x10 hO11 hX11 hzs11 hE11 hF6x11 hF7x11 hz13 hX13 hzs13 hE13 hF6x13 hF7x13 hO11x13 hz15 hC15 hzs15 hE15 hF16 hF17 hF18 hF19 hO20 hz20 hX20 hzs20 hE20 hF16x20 hF17x20 hF18x20 hO21 hX21 hF16x21 hF17x21 hF18x21 hz22 hX22 hzs22 hE22 hF16x22 hF17x22 hF18x22 hO21x22 hz25 hC25 hzs25 hE25 hF26 hF27 hF28 hF29 hF30
    rintro ⟨k, vn, xs, tt⟩ ρ31 w31 ⟨hE31, hL31_0, hL31_1, hL31_2, hL31_3, hL31_4, hL31_5, hp31_0, hxs, hev, htt, hsm, hkB32, hkB33⟩
    have hzs31 : w.heap.size ≤ w31.heap.size := hE31.size
    have hq34 := hL31_4.lt
    have hq35 := hL31_5.lt
    refine wp_seq (wp_seq (wp_plain _ [0, 0, 0] rfl (lw_tv 2 rfl ?_)))
    by_cases hc36 : ((k : Nat) : Int) < ((N : Nat) : Int)
    ·
      refine q_lss true rfl rfl (decide_eq_true hc36) zN (lw_nil (c_cond_t rfl (wp_skip (wp_seq (wp_block (wp_seq (wp_plain _ [2, 0, 0, 3, 0, 0, 0, 0, 0, 0, 0] rfl (q_loadA (p := (.pointer (some ⟨w3.heap.size, 0, none⟩))) (.inr rfl) [vD] agg37 rfl (fun wq9 hw9 => LD.of_box (BX.ext (w := w31) hL31_4 hw9)) rfl zN (lw_tv 2 rfl (lw_call 31 [] [] [(.agg #[vD]), (.int .i64 fD), vn] rfl rfl cf31 zN (c_impl_Evaluate _ 6 vD (pD) _ _ _ (RN.of_frF hL31_1 (fun b hb => by cases hb)) oM hL31_0.rd1 (by exact hLD.dr.szp)) ?_))))))))))
      rintro e37 w37 ⟨v37_0, rfl, hX37, hO37_0⟩
      refine ⟨_, rfl, hX37, ?_⟩
      have hzs37 : w31.heap.size ≤ w37.heap.size := hX37.size
      have hE37 : Ext w w37 := hE31.trans hX37
      have hL31_0x37 := hL31_0.ext (o1) hX37
      have hL31_1x37 := hL31_1.ext ((good_owS (good_oFn 31 6))) hX37
      have hL31_2x37 := hL31_2.ext ((good_owS (good_oFn 31 6))) hX37
      have hL31_3x37 := hL31_3.ext (o1) hX37
      have hL31_4x37 := hL31_4.ext hX37
      have hL31_5x37 := hL31_5.ext hX37
      refine lw_tv 1 rfl (q_extract (vs := [v37_0, (.int .i64 ((euT pD fD xs : Nat) : Int)), (.int .i64 (euC pD fD xs))]) v37_0 rfl rfl zN (q_extract (vs := [v37_0, (.int .i64 ((euT pD fD xs : Nat) : Int)), (.int .i64 (euC pD fD xs))]) (.int .i64 ((euT pD fD xs : Nat) : Int)) rfl rfl zN (q_extract (vs := [v37_0, (.int .i64 ((euT pD fD xs : Nat) : Int)), (.int .i64 (euC pD fD xs))]) (.int .i64 (euC pD fD xs)) rfl rfl zN (lw_tvn 3 rfl (wp_seq (wp_plain _ [2, 0, 0, 3, 0, 0, 0, 0, 0, 0, 0] rfl (q_loadA (p := (.pointer (some ⟨w3.heap.size, 0, none⟩))) (.inr rfl) [vD] agg37 rfl (fun wq9 hw9 => LD.of_box (BX.ext (w := w37) hL31_4x37 hw9)) rfl zN (lw_tv 2 rfl ?_))))))))
      refine lw_call 32 [] [] [(.agg #[vD]), (.int .i64 fD), vn] rfl rfl cf32 zN (c_spec_Evaluate _ 6 vD (pD) _ _ _ (RN.of_frF hL31_1x37 (fun b hb => by cases hb)) oM hL31_0x37.rd1 (by exact hLD.dr.szp)) ?_
      rintro e38 w38 ⟨v38_0, rfl, hX38, hO38_0⟩
      refine ⟨_, rfl, hX38, ?_⟩
      have hzs38 : w37.heap.size ≤ w38.heap.size := hX38.size
      have hE38 : Ext w w38 := hE37.trans hX38
      have hL31_0x38 := hL31_0x37.ext (o1) hX38
      have hL31_1x38 := hL31_1x37.ext ((good_owS (good_oFn 31 6))) hX38
      have hL31_2x38 := hL31_2x37.ext ((good_owS (good_oFn 31 6))) hX38
      have hL31_3x38 := hL31_3x37.ext (o1) hX38
      have hL31_4x38 := hL31_4x37.ext hX38
      have hL31_5x38 := hL31_5x37.ext hX38
      have hO37_0x38 := hO37_0.ext (o1) hX38
      refine lw_tv 1 rfl (q_extract (vs := [v38_0, (.int .i64 ((euT pD fD xs : Nat) : Int)), (.int .i64 (euC pD fD xs))]) v38_0 rfl rfl zN (q_extract (vs := [v38_0, (.int .i64 ((euT pD fD xs : Nat) : Int)), (.int .i64 (euC pD fD xs))]) (.int .i64 ((euT pD fD xs : Nat) : Int)) rfl rfl zN (q_extract (vs := [v38_0, (.int .i64 ((euT pD fD xs : Nat) : Int)), (.int .i64 (euC pD fD xs))]) (.int .i64 (euC pD fD xs)) rfl rfl zN (lw_tvn 3 rfl (wp_seq (wp_seq (wp_plain _ [0, 0, 0] rfl (lw_tv 2 rfl (q_neq false rfl rfl sM zN (lw_nil (c_cond_f rfl (wp_skip (wp_seq (wp_seq (wp_plain _ [0, 0] rfl (lw_tv 1 rfl ?_))))))))))))))))
      by_cases hc39 : euC pD fD xs ≠ ((0 : Nat) : Int)
      ·
        exact q_neq true rfl rfl (decide_eq_true hc39) zN (lw_nil (c_cond_t rfl (wp_seq (wp_plain _ [0] rfl (lw_tvn 1 rfl (wp_ret (t_ret (b_ret (t_ret (t_ret (b_ret (t_ret (post_ret [4] rfl (.bool true) rfl ⟨z5_0, hE38⟩)))))))))))))
      ·
        refine q_neq false rfl rfl (decide_eq_false hc39) zN (lw_nil (c_cond_f rfl (wp_skip (wp_seq (wp_seq (wp_plain _ [0, 0, 0, 0, 0] rfl (lw_tv 1 rfl (q_len (v := v37_0) u25 rfl hO37_0x38.isSl zN (lw_tv 1 rfl (q_len (v := vaD) u25 rfl hL31_3x38.isSl zN ?_))))))))))
        have hev1 : ∀ j, j < k + 1 → euC pD fD (nowI pD fD aD j) = 0 := by intro j hj; by_cases e : j = k; (subst e; rw [← hxs]; omega); exact hev j oM
        have hln1 : (((euR pD fD xs).length : Nat) : Int) = (pD.getD fD.toNat Fn.zero).params := by have := (hLD.now (k + 1) hev1).1.1; rw [hxs]; exact this
        have hc40 : ¬ ((((euR pD fD xs).length : Nat) : Int) ≠ ((aD.length : Nat) : Int)) := oM
        refine q_neq false rfl rfl (decide_eq_false hc40) zN (lw_nil (c_cond_f rfl (wp_skip (wp_seq (wp_plain _ [0, 0] rfl (lw_tvn 2 rfl (wp_plain _ [0, 0, 0, 0] rfl (lw_tv 2 rfl ?_))))))))
        have hsi : euT pD fD xs = stI pD fD aD k := by rw [hxs]; rfl
        have hst9 : stI pD fD aD k ≤ 3000 := (EuP.all pD fD (nowI pD fD aD k)).steps
        refine q_add ((1 + (((pD.getD fD.toNat Fn.zero).params.toNat : Nat) : Int)) + ((sumN (stI pD fD aD) (k + 1) : Nat) : Int)) rfl rfl (by rw [htt, hsi, show sumN (stI pD fD aD) (k + 1) = sumN (stI pD fD aD) k + stI pD fD aD k from rfl, w64 oM oM]; omega) zN (lw_tvn 1 rfl (wp_plain _ [0, 0, 0] rfl (lw_tv 1 rfl (q_add ((k + 1 : Nat) : Int) rfl rfl (w64n oM oM) zN (lw_tvn 1 rfl ?_)))))
        exact ⟨((k + 1), v37_0, (euR pD fD xs), ((1 + (((pD.getD fD.toNat Fn.zero).params.toNat : Nat) : Int)) + ((sumN (stI pD fD aD) (k + 1) : Nat) : Int))), _, rfl, ⟨rfl, rfl, rfl, rfl, rfl, rfl, rfl, rfl, rfl, trivial⟩, ⟨hE38, (hO37_0x38.up o1).low hE31.size, hL31_1x38, hL31_2x38, hL31_3x38, hL31_4x38, hL31_5x38, oM, (by rw [hxs]; rfl), (by exact hev1), (by rfl), (by show sumN (stI pD fD aD) k + stI pD fD aD k ≤ _; omega), oM, oM⟩, by first | omega | (dsimp only; omega)⟩
    ·
      refine q_lss false rfl rfl (decide_eq_false hc36) zN (lw_nil (c_cond_f rfl (wp_exit (t_exit (t_exit (c_exit_here (wp_seq (wp_plain _ [2, 0, 0, 0, 3, 0, 0, 0, 0, 0, 0, 0] rfl (q_loadA (p := (.pointer (some ⟨w21.heap.size, 0, none⟩))) (.inr rfl) [v21] agg37 rfl (fun wq9 hw9 => LD.of_box (BX.ext (w := w31) hL31_5 hw9)) rfl zN (lw_tv 1 rfl ?_))))))))))
      refine q_add (fD + ((1 : Nat) : Int)) rfl rfl (w64 sD sD) zN (lw_tv 1 rfl ?_)
      refine lw_call 31 [] [] [(.agg #[v21]), (.int .i64 (fD + ((1 : Nat) : Int))), vaD] rfl rfl cf31 zN (c_impl_Evaluate _ 6 v21 ((pD ++ [Fn.mk (⟨#[97, 103, 97, 105, 110]⟩) ((pD.getD ((fD).toNat) Fn.zero).params) ([(.mk 11 fD ((K : Nat) : Int) ((N : Nat) : Int) (varL 0 (pD.getD fD.toNat Fn.zero).params.toNat))])])) _ _ _ (RN.of_frF hL31_2 (fun b hb => by cases hb)) oM hL31_3.rd1 (by exact hdq.szp)) ?_
      rintro e41 w41 ⟨v41_0, rfl, hX41, hO41_0⟩
      refine ⟨_, rfl, hX41, ?_⟩
      have hzs41 : w31.heap.size ≤ w41.heap.size := hX41.size
      have hE41 : Ext w w41 := hE31.trans hX41
      have hL31_0x41 := hL31_0.ext (o1) hX41
      have hL31_1x41 := hL31_1.ext ((good_owS (good_oFn 31 6))) hX41
      have hL31_2x41 := hL31_2.ext ((good_owS (good_oFn 31 6))) hX41
      have hL31_3x41 := hL31_3.ext (o1) hX41
      have hL31_4x41 := hL31_4.ext hX41
      have hL31_5x41 := hL31_5.ext hX41
      refine lw_tv 1 rfl (q_extract (vs := [v41_0, (.int .i64 ((euT (pD ++ [Fn.mk (⟨#[97, 103, 97, 105, 110]⟩) ((pD.getD ((fD).toNat) Fn.zero).params) ([(.mk 11 fD ((K : Nat) : Int) ((N : Nat) : Int) (varL 0 (pD.getD fD.toNat Fn.zero).params.toNat))])]) (fD + ((1 : Nat) : Int)) aD : Nat) : Int)), (.int .i64 (euC (pD ++ [Fn.mk (⟨#[97, 103, 97, 105, 110]⟩) ((pD.getD ((fD).toNat) Fn.zero).params) ([(.mk 11 fD ((K : Nat) : Int) ((N : Nat) : Int) (varL 0 (pD.getD fD.toNat Fn.zero).params.toNat))])]) (fD + ((1 : Nat) : Int)) aD))]) v41_0 rfl rfl zN ?_)
      refine q_extract (vs := [v41_0, (.int .i64 ((euT (pD ++ [Fn.mk (⟨#[97, 103, 97, 105, 110]⟩) ((pD.getD ((fD).toNat) Fn.zero).params) ([(.mk 11 fD ((K : Nat) : Int) ((N : Nat) : Int) (varL 0 (pD.getD fD.toNat Fn.zero).params.toNat))])]) (fD + ((1 : Nat) : Int)) aD : Nat) : Int)), (.int .i64 (euC (pD ++ [Fn.mk (⟨#[97, 103, 97, 105, 110]⟩) ((pD.getD ((fD).toNat) Fn.zero).params) ([(.mk 11 fD ((K : Nat) : Int) ((N : Nat) : Int) (varL 0 (pD.getD fD.toNat Fn.zero).params.toNat))])]) (fD + ((1 : Nat) : Int)) aD))]) (.int .i64 ((euT (pD ++ [Fn.mk (⟨#[97, 103, 97, 105, 110]⟩) ((pD.getD ((fD).toNat) Fn.zero).params) ([(.mk 11 fD ((K : Nat) : Int) ((N : Nat) : Int) (varL 0 (pD.getD fD.toNat Fn.zero).params.toNat))])]) (fD + ((1 : Nat) : Int)) aD : Nat) : Int)) rfl rfl zN ?_
      refine q_extract (vs := [v41_0, (.int .i64 ((euT (pD ++ [Fn.mk (⟨#[97, 103, 97, 105, 110]⟩) ((pD.getD ((fD).toNat) Fn.zero).params) ([(.mk 11 fD ((K : Nat) : Int) ((N : Nat) : Int) (varL 0 (pD.getD fD.toNat Fn.zero).params.toNat))])]) (fD + ((1 : Nat) : Int)) aD : Nat) : Int)), (.int .i64 (euC (pD ++ [Fn.mk (⟨#[97, 103, 97, 105, 110]⟩) ((pD.getD ((fD).toNat) Fn.zero).params) ([(.mk 11 fD ((K : Nat) : Int) ((N : Nat) : Int) (varL 0 (pD.getD fD.toNat Fn.zero).params.toNat))])]) (fD + ((1 : Nat) : Int)) aD))]) (.int .i64 (euC (pD ++ [Fn.mk (⟨#[97, 103, 97, 105, 110]⟩) ((pD.getD ((fD).toNat) Fn.zero).params) ([(.mk 11 fD ((K : Nat) : Int) ((N : Nat) : Int) (varL 0 (pD.getD fD.toNat Fn.zero).params.toNat))])]) (fD + ((1 : Nat) : Int)) aD)) rfl rfl zN (lw_tvn 3 rfl (wp_seq (wp_seq (wp_plain _ [0, 0] rfl (lw_tv 1 rfl ?_)))))
      have hkN : k = N := by omega
      have hxl : K < xs.length := by have := (hLD.now k hev).1.1; rw [hxs]; omega
      rw [hkN] at htt hxs hev
      have hL := hlp hev
      by_cases hc42 : ((3000 : Nat) : Int) < tt
      ·
        refine q_gtr true rfl rfl (decide_eq_true hc42) zN (lw_nil (c_cond_t rfl (wp_seq (wp_plain _ [0, 0, 0] rfl (lw_tv 1 rfl (q_eql (decide (euC (pD ++ [Fn.mk (⟨#[97, 103, 97, 105, 110]⟩) ((pD.getD ((fD).toNat) Fn.zero).params) ([(.mk 11 fD ((K : Nat) : Int) ((N : Nat) : Int) (varL 0 (pD.getD fD.toNat Fn.zero).params.toNat))])]) (fD + ((1 : Nat) : Int)) aD = ((7 : Nat) : Int))) rfl rfl rfl zN (lw_tvn 1 rfl (wp_ret (t_ret ?_)))))))))
        exact post_ret [4] rfl (.bool (decide (euC (pD ++ [Fn.mk (⟨#[97, 103, 97, 105, 110]⟩) ((pD.getD ((fD).toNat) Fn.zero).params) ([(.mk 11 fD ((K : Nat) : Int) ((N : Nat) : Int) (varL 0 (pD.getD fD.toNat Fn.zero).params.toNat))])]) (fD + ((1 : Nat) : Int)) aD = ((7 : Nat) : Int)))) rfl ⟨z5_0, hE41⟩
      ·
        refine q_gtr false rfl rfl (decide_eq_false hc42) zN (lw_nil (c_cond_f rfl (wp_skip (wp_seq (wp_draw _ [0, 0, 0, 0, 0, 0, 0, 0, 0, 0, 1, 0, 0, 0, 1, 0, 0, 0, 0, 0, 0, 0, 0] mixed (by kernel_rfl) (lw_tv 1 rfl ?_))))))
        have hok := hL.ok oM
        have hc43 : euC (pD ++ [Fn.mk (⟨#[97, 103, 97, 105, 110]⟩) ((pD.getD ((fD).toNat) Fn.zero).params) ([(.mk 11 fD ((K : Nat) : Int) ((N : Nat) : Int) (varL 0 (pD.getD fD.toNat Fn.zero).params.toNat))])]) (fD + ((1 : Nat) : Int)) aD = ((0 : Nat) : Int) := hok.1
        refine q_eql true rfl rfl (decide_eq_true hc43) zN (lw_tv 2 rfl (q_len (v := v41_0) u25 rfl hO41_0.isSl (zS (e := 109) rfl rfl rfl) ?_))
        have hc44 : (((euR (pD ++ [Fn.mk (⟨#[97, 103, 97, 105, 110]⟩) ((pD.getD ((fD).toNat) Fn.zero).params) ([(.mk 11 fD ((K : Nat) : Int) ((N : Nat) : Int) (varL 0 (pD.getD fD.toNat Fn.zero).params.toNat))])]) (fD + ((1 : Nat) : Int)) aD).length : Nat) : Int) = ((1 : Nat) : Int) := (by rw [hok.2.1]; rfl)
        refine q_eql true rfl rfl (decide_eq_true hc44) (zS (e := 109) rfl rfl rfl) (lw_tv 3 rfl (q_idx (v := v41_0) 0 u25 ti2 rfl rfl hO41_0.isSl rfl (by rw [hok.2.1]; exact Nat.zero_lt_one) (zS (e := 114) rfl rfl rfl) (q_load (p := eptr v41_0 0 1) (.inl rfl) (.int .i64 ((euR (pD ++ [Fn.mk (⟨#[97, 103, 97, 105, 110]⟩) ((pD.getD ((fD).toNat) Fn.zero).params) ([(.mk 11 fD ((K : Nat) : Int) ((N : Nat) : Int) (varL 0 (pD.getD fD.toNat Fn.zero).params.toNat))])]) (fD + ((1 : Nat) : Int)) aD).getD 0 0)) one2 rfl (hO41_0.rd1.getI (by rw [hok.2.1]; exact Nat.zero_lt_one)).1 (zS (e := 114) rfl rfl rfl) (lw_tv 2 rfl (q_idx (v := vn) K u25 ti2 rfl rfl hL31_0x41.isSl rfl hxl (zS (e := 114) rfl rfl rfl) (q_load (p := eptr vn K 1) (.inl rfl) (.int .i64 (xs.getD K 0)) one2 rfl (hL31_0x41.rd1.getI hxl).1 (zS (e := 114) rfl rfl rfl) ?_))))))
        have hc45 : (euR (pD ++ [Fn.mk (⟨#[97, 103, 97, 105, 110]⟩) ((pD.getD ((fD).toNat) Fn.zero).params) ([(.mk 11 fD ((K : Nat) : Int) ((N : Nat) : Int) (varL 0 (pD.getD fD.toNat Fn.zero).params.toNat))])]) (fD + ((1 : Nat) : Int)) aD).getD 0 0 = xs.getD K 0 := (by rw [hok.2.1, hxs]; rfl)
        exact q_eql true rfl rfl (decide_eq_true hc45) (zS (e := 114) rfl rfl rfl) (lw_tv 4 rfl (q_eql (decide (((euT (pD ++ [Fn.mk (⟨#[97, 103, 97, 105, 110]⟩) ((pD.getD ((fD).toNat) Fn.zero).params) ([(.mk 11 fD ((K : Nat) : Int) ((N : Nat) : Int) (varL 0 (pD.getD fD.toNat Fn.zero).params.toNat))])]) (fD + ((1 : Nat) : Int)) aD : Nat) : Int) = tt)) rfl rfl rfl (zS (e := 124) rfl rfl rfl) (lw_tvn 2 rfl (wp_ret (post_ret [4] rfl (.bool (decide (((euT (pD ++ [Fn.mk (⟨#[97, 103, 97, 105, 110]⟩) ((pD.getD ((fD).toNat) Fn.zero).params) ([(.mk 11 fD ((K : Nat) : Int) ((N : Nat) : Int) (varL 0 (pD.getD fD.toNat Fn.zero).params.toNat))])]) (fD + ((1 : Nat) : Int)) aD : Nat) : Int) = tt))) rfl ⟨z5_0, hE41.drew⟩)))))
  ·
    exact c_cond_t (by first | rfl | (show Value.bool _ = _; rw [hb2])) (wp_seq (wp_plain _ [0] rfl (lw_tvn 1 rfl (wp_ret (t_ret (post_ret [4] rfl (.bool true) rfl ⟨z5_0, hE1⟩))))))
end Go.Proofs.Ytnofbmdpabcjaaa
