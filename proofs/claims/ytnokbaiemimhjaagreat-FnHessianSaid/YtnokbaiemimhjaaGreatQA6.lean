/- Xl, Xm: texts of this claim, joined; what the claim does not come to is left out. -/
import Derived.Test.YtnokbaiemimhjaaGreatQA5
import Derived.Test.YtnokbaiemimhjaaGreatProg
set_option linter.unusedVariables false
set_option linter.unusedSimpArgs false
namespace Go.Proofs.YtnokbaiemimhjaaGreat
open Go Go.RowKit
set_option linter.unusedVariables false
set_option linter.unusedSimpArgs false
set_option maxHeartbeats 4000000
set_option maxRecDepth 100000
attribute [local irreducible] LW
theorem c_impl_isPicked (w : World) (dp : Nat) (vp : Value) (p : List Fn) (f : Int) (pick : Int) (va : Value) (a : List Int) (vd : Value) (d : List Int) (hp : RP [] dp w.heap vp p) (_hf : -9223372036854775808 ≤ f ∧ f ≤ 9223372036854775807) (_hpick : -9223372036854775808 ≤ pick ∧ pick ≤ 9223372036854775807) (ha : Rd (rdL rI) w.heap va a) (hd : Rd (rdL rI) w.heap vd d) (hli : liC p f a d = 0) (hz : SzP p) (hpk : 0 ≤ pick ∧ pick < (((p.getD f.toNat Fn.zero).outs.length : Nat) : Int)) :
    Calls Tryz.prog 69 #[(.agg #[vp]), .int .i64 f, .int .i64 pick, va, vd] w (fun e w' => e = .returned (.int .i64 ((0 : Nat) : Int)) ∧ Ext w w') := by
  refine calls_mk [(.agg #[vp]), .int .i64 f, .int .i64 pick, va, vd] 33 Tryz.func69 rfl rfl sM ?_
  have hE0 : Ext w w := Ext.refl w
  have hl_vp := hp.lenle
  unfold maxLen at hl_vp
  have hl_va := ha.lenle
  have hl_vd := hd.lenle
  have hl0 := liC_0 hli
  have hvp := okP_vpr hl0.1
  have hou := hvp.outs f.toNat oM
  refine wp_seq (wp_plain _ [3, 0] rfl (r_boxA (cs := #[vp]) rfl zN fun w1 hX1 hz1 hB1 => ?_))
  have hzs1 : w.heap.size ≤ w1.heap.size := hX1.size
  have hE1 : Ext w w1 := hE0.trans hX1
  replace hB1 : BX w1.heap w.heap.size [vp] := hB1
  refine lw_tvn 1 rfl (wp_seq (wp_plain _ [2, 0, 0, 0, 3, 0] rfl (q_loadA (p := (.pointer (some ⟨w.heap.size, 0, none⟩))) (.inr rfl) [vp] agg26 rfl (fun wq9 hw9 => LD.of_box (BX.ext (w := w1) hB1 hw9)) rfl zN (lw_tv 3 rfl (lw_call 95 [] [] [(.agg #[vp]), (.int .i64 f), va, vd] rfl rfl cf95 zN (c_impl_isLine _ dp vp (p) _ _ _ _ _ (hp.ext (good_rdS (good_rFn dp)) hE1) _hf (ha.ext g1 hE1) (hd.ext g1 hE1) (by exact hz)) ?_)))))
  rintro e2 w2 ⟨rfl, hX2⟩
  refine ⟨_, rfl, hX2, ?_⟩
  have hzs2 : w1.heap.size ≤ w2.heap.size := hX2.size
  have hE2 : Ext w w2 := hE1.trans hX2
  have hB1x2 := hB1.ext hX2
  refine lw_tvn 1 rfl (wp_seq (wp_seq (wp_plain _ [0, 0, 0, 0, 0, 2, 0, 0, 0, 2, 0, 0, 0, 0, 0] rfl (lw_tv 1 rfl ?_))))
  have hc3 : liC p f a d = ((0 : Nat) : Int) := hli
  refine q_eql true rfl rfl (decide_eq_true hc3) zN (lw_tv 2 rfl (q_fldP (p := (.pointer (some ⟨w.heap.size, 0, none⟩))) (b := w.heap.size) (o := 0) 0 fd26_0 rfl rfl (zS (e := 19) rfl rfl rfl) (q_load (p := (padd (.pointer (some ⟨w.heap.size, 0, none⟩)) 0)) (.inr rfl) vp one24 rfl (hB1x2.ldp (i := 0) sM) (zS (e := 19) rfl rfl rfl) (lw_tv 1 rfl (q_idx (v := vp) ((f).toNat) u24 tiS55 rfl rfl hp.isSl oM sD (zS (e := 19) rfl rfl rfl) ?_)))))
  obtain ⟨cs4, hr4, hl4⟩ := hp.get (good_rFn dp) Fn.zero (k := ((f).toNat)) sD
  obtain ⟨ve4, rfl, hx4⟩ := RF.of hr4
  have hln4 := hx4.rn.lenle
  unfold maxLen at hln4
  refine q_fldL (p := eptr vp ((f).toNat) 3) 2 fd55_2 rfl (hl4 _ (Chg.of_ext [] hE2)) (zS (e := 19) rfl rfl rfl) (q_load (p := (padd (eptr vp ((f).toNat) 3) 2)) (.inr rfl) ve4 one53 rfl ((hl4 _ (Chg.of_ext [] hE2)).ld (i := 2) (by simp [exC, fnC])) (zS (e := 19) rfl rfl rfl) (q_len (v := ve4) u53 rfl hx4.rn.isSl (zS (e := 19) rfl rfl rfl) ?_))
  refine q_sub (((((p.getD ((f).toNat) Fn.zero).outs).length : Nat) : Int) - ((1 : Nat) : Int)) rfl rfl (w64 sD sD) (zS (e := 19) rfl rfl rfl) ?_
  refine lw_callq 72 [] [] [(.int .i64 pick), (.int .i64 ((0 : Nat) : Int)), (.int .i64 (((((p.getD ((f).toNat) Fn.zero).outs).length : Nat) : Int) - ((1 : Nat) : Int)))] rfl rfl cf72 (zS (e := 19) rfl rfl rfl) (.bool (decide (((0 : Nat) : Int) ≤ pick) && decide (pick ≤ (((((p.getD ((f).toNat) Fn.zero).outs).length : Nat) : Int) - ((1 : Nat) : Int))))) (fun wq => c_impl_within wq _ _ _ _hpick oM oM) ?_
  rw [show (decide (((0 : Nat) : Int) ≤ pick) && decide (pick ≤ (((((p.getD ((f).toNat) Fn.zero).outs).length : Nat) : Int) - ((1 : Nat) : Int)))) = true from (by rw [decide_eq_true oM, decide_eq_true oM]; rfl)]
  exact q_not false rfl rfl (zS (e := 19) rfl rfl rfl) (lw_tvn 1 rfl (c_cond_f rfl (wp_skip (wp_seq (wp_plain _ [0, 0] rfl (lw_tvn 2 rfl (wp_ret (post_ret [10] rfl (.int .i64 (liC p f a d)) rfl ⟨(by rw [hli]; rfl), hE2⟩))))))))
theorem c_impl_factorial (w : World) (n : Nat)  (hn : n ≤ 12) :
    Calls Tryz.prog 74 #[.int .i64 ((n : Nat) : Int)] w (fun e w' => e = .returned (.int .i64 (facL (n - 1))) ∧ Ext w w') := by
  refine calls_mk [.int .i64 ((n : Nat) : Int)] 15 Tryz.func74 rfl rfl sM ?_
  have hE0 : Ext w w := Ext.refl w
  refine wp_seq (wp_plain _ [0] rfl (lw_tvn 1 rfl (wp_seq (wp_plain _ [0] rfl (lw_tvn 1 rfl (wp_seq (wp_seq (wp_plain _ [0] rfl (lw_tvn 1 rfl (wp_block (c_loop (S := Nat × Int) (fun (⟨k, x⟩ : Nat × Int) => ([(3, (.int .i64 x)), (4, (.int .i64 ((k : Nat) : Int))), (0, (.int .i64 ((n : Nat) : Int)))] : List (Nat × Value))) (fun (⟨k, x⟩ : Nat × Int) (W : World) => Ext w W ∧ (2 ≤ k ∧ (k = 2 ∨ k ≤ n + 1)) ∧ x = facL (k - 2) ∧ (0 ≤ x ∧ x < 1000003)) (fun (⟨k, x⟩ : Nat × Int) => n + 1 - k) (2, ((1 : Nat) : Int)) ⟨rfl, rfl, rfl, trivial⟩ ⟨hE0, oM, (by rfl), oM⟩ ?_)))))))))))
  clear hE0
  rintro ⟨k, x⟩ ρ1 w1 ⟨hE1, hp1_0, hx, hx9⟩
  have hzs1 : w.heap.size ≤ w1.heap.size := hE1.size
  refine wp_seq (wp_seq (wp_plain _ [0, 0, 0] rfl (lw_tv 2 rfl ?_)))
  by_cases hc2 : ((k : Nat) : Int) ≤ ((n : Nat) : Int)
  ·
    refine q_leq true rfl rfl (decide_eq_true hc2) zN (lw_nil (c_cond_t rfl (wp_skip (wp_seq (wp_block (wp_plain _ [0, 0, 0, 0, 0] rfl (lw_tv 2 rfl ?_)))))))
    have hmn := mul_num hx9.1 hx9.2 (show (0 : Int) ≤ ((k : Nat) : Int) by omega) (show ((k : Nat) : Int) < 1000003 by omega)
    exact q_mul (x * ((k : Nat) : Int)) rfl rfl (w64 oM oM) zN (q_rem (md (x * ((k : Nat) : Int))) rfl rfl (by decide) (Int.tmod_eq_emod_of_nonneg oM) zN (lw_tvn 1 rfl (wp_plain _ [0, 0, 0] rfl (lw_tv 1 rfl (q_add ((k + 1 : Nat) : Int) rfl rfl (w64n oM oM) zN (lw_tvn 1 rfl ⟨((k + 1), (md (x * ((k : Nat) : Int)))), _, rfl, ⟨rfl, rfl, rfl, trivial⟩, ⟨hE1, oM, (by rw [hx, show k + 1 - 2 = (k - 2) + 1 by omega]; show md (_ * _) = md (_ * _); rw [show k - 2 + 2 = k by omega]), (by exact md_num _)⟩, by first | omega | (dsimp only; omega)⟩))))))
  ·
    exact q_leq false rfl rfl (decide_eq_false hc2) zN (lw_nil (c_cond_f rfl (wp_exit (t_exit (t_exit (c_exit_here (wp_seq (wp_plain _ [0, 0] rfl (lw_tvn 2 rfl (wp_ret (post_ret [2] rfl (.int .i64 x) rfl ⟨(ret_int (by rw [hx, show k - 2 = n - 1 by omega])), hE1⟩)))))))))))
theorem c_impl_Program_coefficient (w : World) (dp : Nat) (vp : Value) (p : List Fn) (f : Int) (pick : Int) (va : Value) (a : List Int) (vd : Value) (d : List Int) (o : Nat) (hp : RP [] dp w.heap vp p) (_hf : -9223372036854775808 ≤ f ∧ f ≤ 9223372036854775807) (_hpick : -9223372036854775808 ≤ pick ∧ pick ≤ 9223372036854775807) (ha : Rd (rdL rI) w.heap va a) (hd : Rd (rdL rI) w.heap vd d) (hvp : VPr p) (hf : 0 ≤ f ∧ f < ((p.length : Nat) : Int)) (hl : ((a.length : Nat) : Int) = (p.getD f.toNat Fn.zero).params) (hld : d.length = a.length) (hna : allN a = true) (hnd : allN d = true) (hpk : 0 ≤ pick ∧ pick < (((p.getD f.toNat Fn.zero).outs.length : Nat) : Int)) (ho : o ≤ 12) :
    Calls Tryz.prog 73 #[(.agg #[vp]), .int .i64 f, .int .i64 pick, va, vd, .int .i64 ((o : Nat) : Int)] w (fun e w' => e = .returned (.tuple #[.int .i64 (cfR p f.toNat pick.toNat a d o), .int .i64 (nxC p f.toNat a)]) ∧ Ext w w' ∧ (0 ≤ cfR p f.toNat pick.toNat a d o ∧ cfR p f.toNat pick.toNat a d o < 1000003) ∧ (0 ≤ nxC p f.toNat a ∧ nxC p f.toNat a ≤ 9)) := by
  refine calls_mk [(.agg #[vp]), .int .i64 f, .int .i64 pick, va, vd, .int .i64 ((o : Nat) : Int)] 35 Tryz.func73 rfl rfl sM ?_
  have hE0 : Ext w w := Ext.refl w
  have hl_vp := hp.lenle
  unfold maxLen at hl_vp
  have hl_va := ha.lenle
  have hl_vd := hd.lenle
  have hpr := hvp.par f.toNat oM
  have hou := hvp.outs f.toNat oM
  refine wp_seq (wp_plain _ [3, 0, 0] rfl (r_boxA (cs := #[vp]) rfl zN fun w1 hX1 hz1 hB1 => ?_))
  have hzs1 : w.heap.size ≤ w1.heap.size := hX1.size
  have hE1 : Ext w w1 := hE0.trans hX1
  replace hB1 : BX w1.heap w.heap.size [vp] := hB1
  refine lw_tvn 2 rfl (wp_seq (wp_plain _ [2, 0, 0, 0, 0, 3, 0, 0, 0, 0, 0] rfl (q_loadA (p := (.pointer (some ⟨w.heap.size, 0, none⟩))) (.inr rfl) [vp] agg26 rfl (fun wq9 hw9 => LD.of_box (BX.ext (w := w1) hB1 hw9)) rfl zN (lw_tv 4 rfl (lw_call 96 [] [] [(.agg #[vp]), (.int .i64 f), va, vd, (.int .i64 ((o : Nat) : Int))] rfl rfl cf96 zN (c_impl_Program_along _ dp vp (p) _ _ _ _ _ (o) (hp.ext (good_rdS (good_rFn dp)) hE1) _hf (ha.ext g1 hE1) (hd.ext g1 hE1) (by exact hvp) oM oM (by exact hld) (by exact hna) (by exact hnd) oM) ?_)))))
  rintro e2 w2 ⟨v2_0, rfl, hX2, hO2_0, hP2_0⟩
  refine ⟨_, rfl, hX2, ?_⟩
  have hzs2 : w1.heap.size ≤ w2.heap.size := hX2.size
  have hE2 : Ext w w2 := hE1.trans hX2
  have hB1x2 := hB1.ext hX2
  refine lw_tv 1 rfl (q_extract (vs := [v2_0, (.int .i64 (evD p (o + 1) f.toNat (alS a d (o + 1))))]) v2_0 rfl rfl zN (q_extract (vs := [v2_0, (.int .i64 (evD p (o + 1) f.toNat (alS a d (o + 1))))]) (.int .i64 (evD p (o + 1) f.toNat (alS a d (o + 1)))) rfl rfl zN (lw_tvn 2 rfl (wp_seq (wp_seq (wp_plain _ [0, 0] rfl (lw_tv 1 rfl ?_)))))))
  have hEP : EvP p (o + 1) f.toNat (alS a d (o + 1)) := by assumption
  have hcc := cf_c p f.toNat a d o
  have hcn := cf_num (pk := pick.toNat) hEP
  have hc9 := hEP.code
  by_cases hc3 : evD p (o + 1) f.toNat (alS a d (o + 1)) ≠ ((0 : Nat) : Int)
  ·
    exact q_neq true rfl rfl (decide_eq_true hc3) zN (lw_nil (c_cond_t rfl (wp_seq (wp_plain _ [0, 0, 0] rfl (lw_tvn 3 rfl (wp_ret (t_ret (post_ret [12, 13] rfl (.tuple #[(.int .i64 ((0 : Nat) : Int)), (.int .i64 (evD p (o + 1) f.toNat (alS a d (o + 1))))]) rfl ⟨(by rw [show cfR p f.toNat pick.toNat a d o = 0 from by unfold cfR; rw [hEP.non oM]; rfl, ← hcc] <;> rfl), hE2, hcn, oM⟩))))))))
  ·
    refine q_neq false rfl rfl (decide_eq_false hc3) zN (lw_nil (c_cond_f rfl (wp_skip (wp_seq (wp_plain _ [0, 0, 0, 2, 0, 0, 2, 0, 0] rfl ?_)))))
    have hdl := hEP.len oM
    have hrw := (hEP.ser pick.toNat oM).1
    refine lw_tv 2 rfl (q_idx (v := v2_0) ((pick).toNat) u32 ti27 rfl rfl hO2_0.isSl oM oM zN ?_)
    obtain ⟨ue4, hl4, hd4⟩ := hO2_0.rd2.get (k := (pick).toNat) [] oM
    have hln4 := hd4.lenle
    exact q_load (p := eptr v2_0 ((pick).toNat) 1) (.inr rfl) ue4 one27 rfl hl4 zN (lw_tv 1 rfl (q_idx (v := ue4) o u27 ti2 rfl rfl hd4.isSl rfl oM zN (q_load (p := eptr ue4 o 1) (.inr rfl) (.int .i64 (((evR p (o + 1) f.toNat (alS a d (o + 1))).getD ((pick).toNat) []).getD o 0)) one2 rfl (hd4.getI oM).1 zN (lw_tvn 2 rfl (wp_ret (post_ret [12, 13] rfl (.tuple #[(.int .i64 (((evR p (o + 1) f.toNat (alS a d (o + 1))).getD ((pick).toNat) []).getD o 0)), (.int .i64 ((0 : Nat) : Int))]) rfl ⟨(by rw [show nxC p f.toNat a = 0 by omega]; rfl), hE2, hcn, oM⟩))))))
theorem c_impl_Program_hessian_1 (w : World) (vs : Value) (ps : List Int) (dp : Nat) (vp : Value) (p : List Fn) (bf : Nat) (f : Int) (bk : Nat) (pick : Int) (ba : Nat) (bav : Value) (a : List Int) (hps : Rd (rdL rI) w.heap vs ps) (hp : RN [] (rP (rPr dp)) w.heap vp p) (hcf : ldH w.heap (.pointer (some ⟨bf, 0, none⟩)) = some (.int .i64 f)) (_hf : -9223372036854775808 ≤ f ∧ f ≤ 9223372036854775807) (hcpick : ldH w.heap (.pointer (some ⟨bk, 0, none⟩)) = some (.int .i64 pick)) (_hpick : -9223372036854775808 ≤ pick ∧ pick ≤ 9223372036854775807) (hca : ldH w.heap (.pointer (some ⟨ba, 0, none⟩)) = some bav) (ha : Rd (rdL rI) w.heap bav a) (hvp : VPr p) (hf : 0 ≤ f ∧ f < ((p.length : Nat) : Int)) (hl : ((a.length : Nat) : Int) = (p.getD f.toNat Fn.zero).params) (hna : allN a = true) (hpk : 0 ≤ pick ∧ pick < (((p.getD f.toNat Fn.zero).outs.length : Nat) : Int)) (hpz : ∀ j, j < ps.length → 0 ≤ ps.getD j 0 ∧ ps.getD j 0 < ((a.length : Nat) : Int)) :
    Calls Tryz.prog 146 #[vs, vp, .pointer (some ⟨bf, 0, none⟩), .pointer (some ⟨bk, 0, none⟩), .pointer (some ⟨ba, 0, none⟩)] w (fun e w' => e = .returned (.int .i64 (cfR p f.toNat pick.toNat a (uniG a.length ps ps.length) 2)) ∧ Ext w w' ∧ (0 ≤ cfR p f.toNat pick.toNat a (uniG a.length ps ps.length) 2 ∧ cfR p f.toNat pick.toNat a (uniG a.length ps ps.length) 2 < 1000003)) := by
  refine calls_mk [vs, vp, .pointer (some ⟨bf, 0, none⟩), .pointer (some ⟨bk, 0, none⟩), .pointer (some ⟨ba, 0, none⟩)] 22 Tryz.func146 rfl rfl sM ?_
  have hE0 : Ext w w := Ext.refl w
  have hl_vs := hps.lenle
  have hl_bav := ha.lenle
  have hpr := hvp.par f.toNat oM
  refine wp_seq (wp_plain _ [0] rfl (lw_tvn 1 rfl (wp_seq (wp_draw _ [1, 1, 1, 1, 1, 0, 0, 3, 3, 0, 0, 0, 0, 0] mixed (by kernel_rfl) ?_))))
  obtain ⟨cs1, hr1, hl1⟩ := RN.at (good_rPr _) hp
  obtain ⟨ve1, rfl, hx1⟩ := RPr.of hr1
  have hln1 := hx1.lenle
  unfold maxLen at hln1
  refine q_loadA (p := vp) (.inl rfl) [ve1] agg26 rfl (fun wq9 hw9 => hl1 wq9 (Chg.of_ext [] (hE0.drew.trans hw9))) rfl zN (q_load (.inl rfl) (.int .i64 f) one2 rfl (ldH_ext hE0.drew hcf) zN (q_load (.inl rfl) (.int .i64 pick) one2 rfl (ldH_ext hE0.drew hcpick) zN (q_load (.inl rfl) bav one27 rfl (ldH_ext hE0.drew hca) zN (q_load (.inl rfl) bav one27 rfl (ldH_ext hE0.drew hca) zN (q_len (v := bav) u27 rfl ha.isSl zN (lw_tv 1 rfl ?_))))))
  refine lw_call 77 [] [] [(.int .i64 ((a.length : Nat) : Int)), vs] rfl rfl cf77 zN (c_unitG _ (a.length) _ _ sD (hps.ext g1 hE0.drew) oM (by exact hpz)) ?_
  rintro e2 w2 ⟨v2_0, rfl, hX2, hO2_0⟩
  refine ⟨_, rfl, hX2, ?_⟩
  replace hX2 := hX2.of_drew
  have hzs2 : w.heap.size ≤ w2.heap.size := hX2.size
  have hE2 : Ext w w2 := hE0.trans hX2
  replace hO2_0 := hO2_0.low (B' := w.heap.size) (Nat.le_refl _)
  refine lw_call 73 [] [] [(.agg #[ve1]), (.int .i64 f), (.int .i64 pick), bav, v2_0, (.int .i64 ((2 : Nat) : Int))] rfl rfl cf73 zN (c_impl_Program_coefficient _ dp ve1 (p) _ _ _ _ _ _ (2) (hx1.ext (good_rdS (good_rFn dp)) hE2) _hf _hpick (ha.ext g1 hE2) hO2_0.rd1 (by exact hvp) oM oM (by exact uniG_len _ _ _) (by exact hna) (by exact uniG_num _ _ _) oM oM) ?_
  rintro e3 w3 ⟨rfl, hX3, hP3_0, hP3_1⟩
  refine ⟨_, rfl, hX3, ?_⟩
  have hzs3 : w2.heap.size ≤ w3.heap.size := hX3.size
  have hE3 : Ext w w3 := hE2.trans hX3
  have hO2_0x3 := hO2_0.ext (o1) hX3
  exact lw_tv 1 rfl (q_extract (vs := [(.int .i64 (cfR p f.toNat pick.toNat a (uniG a.length ps ps.length) 2)), (.int .i64 (nxC p f.toNat a))]) (.int .i64 (cfR p f.toNat pick.toNat a (uniG a.length ps ps.length) 2)) rfl rfl zN (q_extract (vs := [(.int .i64 (cfR p f.toNat pick.toNat a (uniG a.length ps ps.length) 2)), (.int .i64 (nxC p f.toNat a))]) (.int .i64 (nxC p f.toNat a)) rfl rfl zN (lw_tvn 2 rfl (wp_seq (wp_plain _ [0, 0] rfl (lw_tvn 2 rfl (wp_ret (post_ret [6] rfl (.int .i64 (cfR p f.toNat pick.toNat a (uniG a.length ps ps.length) 2)) rfl ⟨rfl, hE3, (by assumption)⟩))))))))
theorem z70_0 {p : Prop} (h : p := by intro j hj; have hj0 : j = 0 := (by have h9 : j < 1 := hj; omega); subst hj0; show 0 ≤ ((i : Nat) : Int) ∧ ((i : Nat) : Int) < _; omega) : p := h
theorem z70_1 {p : Prop} (h : p := by rw [heP_len]; unfold maxLen; simp only [List.length_cons, List.length_nil]; omega) : p := h
theorem c_impl_Program_hessian (w : World) (dp : Nat) (vp : Value) (p : List Fn) (f : Int) (pick : Int) (va : Value) (a : List Int) (hp : RP [] dp w.heap vp p) (_hf : -9223372036854775808 ≤ f ∧ f ≤ 9223372036854775807) (_hpick : -9223372036854775808 ≤ pick ∧ pick ≤ 9223372036854775807) (ha : Rd (rdL rI) w.heap va a) (hvp : VPr p) (hf : 0 ≤ f ∧ f < ((p.length : Nat) : Int)) (hl : ((a.length : Nat) : Int) = (p.getD f.toNat Fn.zero).params) (hna : allN a = true) (hpk : 0 ≤ pick ∧ pick < (((p.getD f.toNat Fn.zero).outs.length : Nat) : Int)) :
    Calls Tryz.prog 70 #[(.agg #[vp]), .int .i64 f, .int .i64 pick, va] w (fun e w' => ∃ v0 : Value, e = .returned (.tuple #[v0, .int .i64 (nxC p f.toNat a)]) ∧ Ext w w' ∧ Fr (owL (owL rI 2) 27) w.heap.size w'.heap.size w'.heap v0 (if nxC p f.toNat a = 0 then heT p f.toNat pick.toNat a a.length else []) ∧ (0 ≤ nxC p f.toNat a ∧ nxC p f.toNat a ≤ 9)) := by
  refine calls_mk [(.agg #[vp]), .int .i64 f, .int .i64 pick, va] 80 Tryz.func70 rfl rfl sM ?_
  have hE0 : Ext w w := Ext.refl w
  have hl_vp := hp.lenle
  unfold maxLen at hl_vp
  have hl_va := ha.lenle
  have hpr := hvp.par f.toNat oM
  refine wp_seq (wp_plain _ [3, 3, 3, 3, 0, 0] rfl (r_boxA (cs := #[vp]) rfl zN fun w1 hX1 hz1 hB1 => ?_))
  have hzs1 : w.heap.size ≤ w1.heap.size := hX1.size
  have hE1 : Ext w w1 := hE0.trans hX1
  replace hB1 : BX w1.heap w.heap.size [vp] := hB1
  have hq3 := hB1.lt
  refine r_boxB (u := (.int .i64 f)) rfl rfl zN fun w2 hX2 hz2 hB2 => ?_
  have hzs2 : w1.heap.size ≤ w2.heap.size := hX2.size
  have hE2 : Ext w w2 := hE1.trans hX2
  have hB1x2 := hB1.ext hX2
  replace hB2 : BX w2.heap w1.heap.size [(.int .i64 f)] := hB2
  have hq5 := hB1x2.lt
  have hq6 := hB2.lt
  refine r_boxB (u := (.int .i64 pick)) rfl rfl zN fun w4 hX4 hz4 hB4 => ?_
  have hzs4 : w2.heap.size ≤ w4.heap.size := hX4.size
  have hE4 : Ext w w4 := hE2.trans hX4
  have hB1x4 := hB1x2.ext hX4
  have hB2x4 := hB2.ext hX4
  replace hB4 : BX w4.heap w2.heap.size [(.int .i64 pick)] := hB4
  have hq8 := hB1x4.lt
  have hq9 := hB2x4.lt
  have hq10 := hB4.lt
  refine r_boxB (u := va) rfl (isSl_cells ha.isSl).1 zN fun w7 hX7 hz7 hB7 => ?_
  have hzs7 : w4.heap.size ≤ w7.heap.size := hX7.size
  have hE7 : Ext w w7 := hE4.trans hX7
  have hB1x7 := hB1x4.ext hX7
  have hB2x7 := hB2x4.ext hX7
  have hB4x7 := hB4.ext hX7
  replace hB7 : BX w7.heap w4.heap.size [va] := hB7
  refine lw_tvn 2 rfl (wp_seq (wp_seq (wp_draw _ [1, 1, 1, 1, 1, 0, 3, 3, 0, 0, 0, 0, 0] mixed (by kernel_rfl) (q_loadA (p := (.pointer (some ⟨w.heap.size, 0, none⟩))) (.inl rfl) [vp] agg26 rfl (fun wq9 hw9 => LD.of_box (BX.ext (w := w7.drew) hB1x7 hw9)) rfl zN (q_load (p := (.pointer (some ⟨w1.heap.size, 0, none⟩))) (.inl rfl) (.int .i64 f) one2 rfl (hB2x7.ld (k := 0) sM) zN (q_load (p := (.pointer (some ⟨w2.heap.size, 0, none⟩))) (.inl rfl) (.int .i64 pick) one2 rfl (hB4x7.ld (k := 0) sM) zN (q_load (p := (.pointer (some ⟨w4.heap.size, 0, none⟩))) (.inl rfl) va one27 rfl (hB7.ld (k := 0) sM) zN (q_load (p := (.pointer (some ⟨w4.heap.size, 0, none⟩))) (.inl rfl) va one27 rfl (hB7.ld (k := 0) sM) zN (q_len (v := va) u27 rfl ha.isSl zN ?_)))))))))
  refine lw_call 77 [] [] [(.int .i64 ((a.length : Nat) : Int)), (.slice none 0 0)] rfl rfl cf77 zN (c_unitG _ (a.length) (.slice none 0 0) [] sD rd_nilI oM (by intro j hj; exact absurd hj (Nat.not_lt_zero j))) ?_
  rintro e11 w11 ⟨v11_0, rfl, hX11, hO11_0⟩
  refine ⟨_, rfl, hX11, ?_⟩
  replace hX11 := hX11.of_drew
  have hzs11 : w7.heap.size ≤ w11.heap.size := hX11.size
  have hE11 : Ext w w11 := hE7.trans hX11
  have hB1x11 := hB1x7.ext hX11
  have hB2x11 := hB2x7.ext hX11
  have hB4x11 := hB4x7.ext hX11
  have hB7x11 := hB7.ext hX11
  replace hO11_0 := hO11_0.low (B' := w7.heap.size) (Nat.le_refl _)
  refine lw_call 73 [] [] [(.agg #[vp]), (.int .i64 f), (.int .i64 pick), va, v11_0, (.int .i64 ((2 : Nat) : Int))] rfl rfl cf73 zN (c_impl_Program_coefficient _ dp vp (p) _ _ _ _ _ _ (2) (hp.ext (good_rdS (good_rFn dp)) hE11) _hf _hpick (ha.ext g1 hE11) hO11_0.rd1 (by exact hvp) oM oM (by exact uniG_len _ _ _) (by exact hna) (by exact uniG_num _ _ _) oM oM) ?_
  rintro e12 w12 ⟨rfl, hX12, hP12_0, hP12_1⟩
  refine ⟨_, rfl, hX12, ?_⟩
  have hzs12 : w11.heap.size ≤ w12.heap.size := hX12.size
  have hE12 : Ext w w12 := hE11.trans hX12
  have hB1x12 := hB1x11.ext hX12
  have hB2x12 := hB2x11.ext hX12
  have hB4x12 := hB4x11.ext hX12
  have hB7x12 := hB7x11.ext hX12
  have hO11_0x12 := hO11_0.ext (o1) hX12
  refine lw_tv 1 rfl (q_extract (vs := [(.int .i64 (cfR p f.toNat pick.toNat a (uniG a.length ([] : List Int) ([] : List Int).length) 2)), (.int .i64 (nxC p f.toNat a))]) (.int .i64 (cfR p f.toNat pick.toNat a (uniG a.length ([] : List Int) ([] : List Int).length) 2)) rfl rfl zN (q_extract (vs := [(.int .i64 (cfR p f.toNat pick.toNat a (uniG a.length ([] : List Int) ([] : List Int).length) 2)), (.int .i64 (nxC p f.toNat a))]) (.int .i64 (nxC p f.toNat a)) rfl rfl zN (lw_tvn 2 rfl (wp_seq (wp_plain _ [0, 0] rfl (lw_tv 1 rfl ?_))))))
  have hn9 := ‹0 ≤ nxC p f.toNat a ∧ nxC p f.toNat a ≤ 9›
  by_cases hc13 : nxC p f.toNat a ≠ ((0 : Nat) : Int)
  ·
    exact q_neq true rfl rfl (decide_eq_true hc13) zN (lw_nil (c_cond_t rfl (wp_seq (wp_plain _ [0, 0, 0] rfl (lw_tvn 3 rfl (wp_ret (t_ret (post_ret [8, 9] rfl (.tuple #[(.slice none 0 0), (.int .i64 (nxC p f.toNat a))]) rfl ⟨(.slice none 0 0), rfl, hE12, (by rw [if_neg oM]; exact frNil _ _ _), hn9⟩))))))))
  ·
    refine q_neq false rfl rfl (decide_eq_false hc13) zN (lw_nil (c_cond_f rfl (wp_skip (wp_seq (wp_plain _ [0, 0] rfl (q_func [] [(.pointer (some ⟨w.heap.size, 0, none⟩)), (.pointer (some ⟨w1.heap.size, 0, none⟩)), (.pointer (some ⟨w2.heap.size, 0, none⟩)), (.pointer (some ⟨w4.heap.size, 0, none⟩))] rfl rfl zN (lw_tvn 1 rfl (wp_seq (wp_plain _ [3, 0] rfl (r_nil (owL rI 2) o1 u32 ti27 zN fun v14 w14 hX14 hz14 hO14 => ?_))))))))))
    have hzs14 : w12.heap.size ≤ w14.heap.size := hX14.size
    have hE14 : Ext w w14 := hE12.trans hX14
    have hB1x14 := hB1x12.ext hX14
    have hB2x14 := hB2x12.ext hX14
    have hB4x14 := hB4x12.ext hX14
    have hB7x14 := hB7x12.ext hX14
    have hO11_0x14 := hO11_0x12.ext (o1) hX14
    refine lw_tvn 1 rfl (wp_seq (wp_seq (wp_plain _ [2, 0, 0] rfl (q_load (p := (.pointer (some ⟨w4.heap.size, 0, none⟩))) (.inr rfl) va one27 rfl (hB7x14.ld (k := 0) sM) zN (q_len (v := va) u27 rfl ha.isSl zN (lw_tvn 1 rfl (wp_block ?_)))))))
    refine c_loop (S := Nat × Value) (fun (⟨i, vo⟩ : Nat × Value) => ([(13, vo), (35, (.int .i64 ((i : Nat) : Int))), (7, (.pointer (some ⟨w4.heap.size, 0, none⟩))), (12, (.func (.func 146) #[] #[(.pointer (some ⟨w.heap.size, 0, none⟩)), (.pointer (some ⟨w1.heap.size, 0, none⟩)), (.pointer (some ⟨w2.heap.size, 0, none⟩)), (.pointer (some ⟨w4.heap.size, 0, none⟩))])), (34, (.int .i64 ((a.length : Nat) : Int)))] : List (Nat × Value))) (fun (⟨i, vo⟩ : Nat × Value) (W : World) => Ext w W ∧ Fr (owL (owL rI 2) 27) w12.heap.size W.heap.size W.heap vo (heT p f.toNat pick.toNat a i) ∧ BX W.heap w.heap.size [vp] ∧ BX W.heap w1.heap.size [(.int .i64 f)] ∧ BX W.heap w2.heap.size [(.int .i64 pick)] ∧ BX W.heap w4.heap.size [va] ∧ i ≤ a.length ∧ w.heap.size < w12.heap.size ∧ w1.heap.size < w12.heap.size ∧ w2.heap.size < w12.heap.size ∧ w4.heap.size < w12.heap.size ∧ w12.heap.size ≤ W.heap.size) (fun (⟨i, vo⟩ : Nat × Value) => a.length - i) (0, v14) ⟨rfl, rfl, rfl, rfl, rfl, trivial⟩ ⟨hE14, hO14.up o2, hB1x14, hB2x14, hB4x14, hB7x14, oM, oM, oM, oM, oM, oM⟩ ?_
    clear hE0 hz1 hX1 hzs1 hE1 hz2 hX2 hzs2 hE2 hz4 hX4 hzs4 hE4 hz7 hX7 hzs7 hE7 hO11_0 hX11 hzs11 hE11 hX12 hO11_0x12 hO14 hz14 hX14 hzs14 hE14 hO11_0x14
    rintro ⟨i, vo⟩ ρ19 w19 ⟨hE19, hL19_0, hL19_1, hL19_2, hL19_3, hL19_4, hp19_0, hkg15, hkg16, hkg17, hkg18, hkB20⟩
    have hzs19 : w.heap.size ≤ w19.heap.size := hE19.size
    have hq21 := hL19_1.lt
    have hq22 := hL19_2.lt
    have hq23 := hL19_3.lt
    have hq24 := hL19_4.lt
    refine wp_seq (wp_plain _ [0] rfl ?_)
    by_cases hc25 : ((i : Nat) : Int) < ((a.length : Nat) : Int)
    ·
      refine q_lss true rfl rfl (decide_eq_true hc25) zN (lw_nil (wp_seq (c_cond_t rfl (wp_skip (wp_seq (wp_block (wp_seq (wp_plain _ [0, 0] rfl (lw_tvn 2 rfl (wp_seq (wp_plain _ [3, 0] rfl (r_nil (rI) good_rI u27 ti2 zN fun v26 w26 hX26 hz26 hO26 => ?_))))))))))))
      have hzs26 : w19.heap.size ≤ w26.heap.size := hX26.size
      have hE26 : Ext w w26 := hE19.trans hX26
      have hL19_0x26 := hL19_0.ext (o2) hX26
      have hL19_1x26 := hL19_1.ext hX26
      have hL19_2x26 := hL19_2.ext hX26
      have hL19_3x26 := hL19_3.ext hX26
      have hL19_4x26 := hL19_4.ext hX26
      refine lw_tvn 1 rfl (wp_seq (wp_seq (wp_plain _ [2, 0, 0] rfl (q_load (p := (.pointer (some ⟨w4.heap.size, 0, none⟩))) (.inr rfl) va one27 rfl (hL19_4x26.ld (k := 0) sM) zN (q_len (v := va) u27 rfl ha.isSl zN (lw_tvn 1 rfl (wp_block ?_)))))))
      refine c_loop (S := Nat × Value) (fun (⟨k, vr⟩ : Nat × Value) => ([(15, vr), (41, (.int .i64 ((k : Nat) : Int))), (7, (.pointer (some ⟨w4.heap.size, 0, none⟩))), (12, (.func (.func 146) #[] #[(.pointer (some ⟨w.heap.size, 0, none⟩)), (.pointer (some ⟨w1.heap.size, 0, none⟩)), (.pointer (some ⟨w2.heap.size, 0, none⟩)), (.pointer (some ⟨w4.heap.size, 0, none⟩))])), (13, vo), (14, (.int .i64 ((i : Nat) : Int))), (34, (.int .i64 ((a.length : Nat) : Int))), (35, (.int .i64 ((i : Nat) : Int))), (40, (.int .i64 ((a.length : Nat) : Int)))] : List (Nat × Value))) (fun (⟨k, vr⟩ : Nat × Value) (W : World) => Ext w W ∧ Fr (owL rI 2) w19.heap.size W.heap.size W.heap vr (heP p f.toNat pick.toNat a i k) ∧ Fr (owL (owL rI 2) 27) w12.heap.size w19.heap.size W.heap vo (heT p f.toNat pick.toNat a i) ∧ BX W.heap w.heap.size [vp] ∧ BX W.heap w1.heap.size [(.int .i64 f)] ∧ BX W.heap w2.heap.size [(.int .i64 pick)] ∧ BX W.heap w4.heap.size [va] ∧ k ≤ a.length ∧ w.heap.size < w19.heap.size ∧ w1.heap.size < w19.heap.size ∧ w2.heap.size < w19.heap.size ∧ w4.heap.size < w19.heap.size ∧ w19.heap.size ≤ W.heap.size) (fun (⟨k, vr⟩ : Nat × Value) => a.length - k) (0, v26) ⟨rfl, rfl, rfl, rfl, rfl, rfl, rfl, rfl, rfl, trivial⟩ ⟨hE26, hO26.up o1, hL19_0x26, hL19_1x26, hL19_2x26, hL19_3x26, hL19_4x26, oM, oM, oM, oM, oM, oM⟩ ?_
      clear hL19_4 hL19_3 hL19_2 hL19_1 hL19_0 hO26 hz26 hX26 hzs26 hE26 hL19_0x26 hL19_1x26 hL19_2x26 hL19_3x26 hL19_4x26
      rintro ⟨k, vr⟩ ρ31 w31 ⟨hE31, hL31_0, hL31_1, hL31_2, hL31_3, hL31_4, hL31_5, hp31_0, hkg27, hkg28, hkg29, hkg30, hkB32⟩
      have hzs31 : w.heap.size ≤ w31.heap.size := hE31.size
      have hq33 := hL31_2.lt
      have hq34 := hL31_3.lt
      have hq35 := hL31_4.lt
      have hq36 := hL31_5.lt
      refine wp_seq (wp_plain _ [0] rfl ?_)
      by_cases hc37 : ((k : Nat) : Int) < ((a.length : Nat) : Int)
      ·
        refine q_lss true rfl rfl (decide_eq_true hc37) zN (lw_nil (wp_seq (c_cond_t rfl (wp_skip (wp_seq (wp_block (wp_seq (wp_plain _ [0, 0] rfl (lw_tvn 2 rfl (wp_seq (wp_plain _ [0, 0, 0] rfl (lw_tv 2 rfl ?_))))))))))))
        by_cases hc38 : ((i : Nat) : Int) = ((k : Nat) : Int)
        ·
          refine q_eql true rfl rfl (decide_eq_true hc38) zN (lw_nil (c_cond_t rfl (wp_plain _ [0, 0, 0, 3, 3, 0, 3, 4, 0] rfl (lw_tv 3 rfl (r_one (u := (.int .i64 ((i : Nat) : Int))) (B := w31.heap.size) good_rI u27 ti2 rfl rfl (frI w31.heap.size w31.heap.size _ _ oM) (Nat.le_refl _) zN fun v39 w39 hX39 hz39 hO39 => ?_)))))
          have hzs39 : w31.heap.size ≤ w39.heap.size := hX39.size
          have hE39 : Ext w w39 := hE31.trans hX39
          have hL31_0x39 := hL31_0.ext (o1) hX39
          have hL31_1x39 := hL31_1.ext (o2) hX39
          have hL31_2x39 := hL31_2.ext hX39
          have hL31_3x39 := hL31_3.ext hX39
          have hL31_4x39 := hL31_4.ext hX39
          have hL31_5x39 := hL31_5.ext hX39
          refine lw_call 146 [] [(.pointer (some ⟨w.heap.size, 0, none⟩)), (.pointer (some ⟨w1.heap.size, 0, none⟩)), (.pointer (some ⟨w2.heap.size, 0, none⟩)), (.pointer (some ⟨w4.heap.size, 0, none⟩))] [v39, (.pointer (some ⟨w.heap.size, 0, none⟩)), (.pointer (some ⟨w1.heap.size, 0, none⟩)), (.pointer (some ⟨w2.heap.size, 0, none⟩)), (.pointer (some ⟨w4.heap.size, 0, none⟩))] rfl rfl cf146 zN (c_impl_Program_hessian_1 _ _ _ dp ((.pointer (some ⟨w.heap.size, 0, none⟩))) (p) (w1.heap.size) (f) (w2.heap.size) (pick) (w4.heap.size) va (a) hO39.rd1 (RN.box hL31_2x39 (RP.mk' (hp.ext (good_rdS (good_rFn dp)) hE39)) sM) (hL31_3x39.ld (k := 0) sM) _hf (hL31_4x39.ld (k := 0) sM) _hpick (hL31_5x39.ld (k := 0) sM) (ha.ext g1 hE39) (by exact hvp) oM oM (by exact hna) oM z70_0) ?_
          rintro e40 w40 ⟨rfl, hX40, hP40_0⟩
          refine ⟨_, rfl, hX40, ?_⟩
          have hzs40 : w39.heap.size ≤ w40.heap.size := hX40.size
          have hE40 : Ext w w40 := hE39.trans hX40
          have hL31_0x40 := hL31_0x39.ext (o1) hX40
          have hL31_1x40 := hL31_1x39.ext (o2) hX40
          have hL31_2x40 := hL31_2x39.ext hX40
          have hL31_3x40 := hL31_3x39.ext hX40
          have hL31_4x40 := hL31_4x39.ext hX40
          have hL31_5x40 := hL31_5x39.ext hX40
          have hO39x40 := hO39.ext (o1) hX40
          refine lw_callq 147 [] [] [(.int .i64 ((2 : Nat) : Int)), (.int .i64 (cfR p f.toNat pick.toNat a (uniG a.length ([((i : Nat) : Int)]) ([((i : Nat) : Int)]).length) 2))] rfl rfl cf147 zN (.int .i64 (md (((2 : Nat) : Int) * (cfR p f.toNat pick.toNat a (uniG a.length ([((i : Nat) : Int)]) ([((i : Nat) : Int)]).length) 2)))) (fun wq => c_impl_Times wq _ _ oM oM) (r_one (u := (.int .i64 (md (((2 : Nat) : Int) * (cfR p f.toNat pick.toNat a (uniG a.length ([((i : Nat) : Int)]) ([((i : Nat) : Int)]).length) 2))))) (B := w40.heap.size) good_rI u27 ti2 rfl rfl (frI w40.heap.size w40.heap.size _ _ (md_rng _)) (Nat.le_refl _) zN fun v42 w42 hX42 hz42 hO42 => ?_)
          have hzs42 : w40.heap.size ≤ w42.heap.size := hX42.size
          have hE42 : Ext w w42 := hE40.trans hX42
          have hL31_0x42 := hL31_0x40.ext (o1) hX42
          have hL31_1x42 := hL31_1x40.ext (o2) hX42
          have hL31_2x42 := hL31_2x40.ext hX42
          have hL31_3x42 := hL31_3x40.ext hX42
          have hL31_4x42 := hL31_4x40.ext hX42
          have hL31_5x42 := hL31_5x40.ext hX42
          have hO39x42 := hO39x40.ext (o1) hX42
          refine e_appI (v := vr) (a := v42) u27 ti2 rfl rfl rfl hL31_0x42 oM hO42.rd1 (by rw [heP_len]; simp only [List.length_cons, List.length_nil]; omega) z70_1 zN fun v43 w43 F43 hC43 hF43 hO43 => ?_
          have hE43 : Ext w w43 := hC43.below hE42 (fun c hc => Nat.le_trans hE19.size (hF43 c hc).1) hE42.size
          have hzs43 : w42.heap.size ≤ w43.heap.size := hC43.size
          have hF44 := hL31_1x42.chg (o2) hC43 (fun c hc => by have := hF43 c hc; omega)
          have hF45 := hL31_2x42.chg hC43 (fun hm => by have := hF43 _ hm; omega)
          have hF46 := hL31_3x42.chg hC43 (fun hm => by have := hF43 _ hm; omega)
          have hF47 := hL31_4x42.chg hC43 (fun hm => by have := hF43 _ hm; omega)
          have hF48 := hL31_5x42.chg hC43 (fun hm => by have := hF43 _ hm; omega)
          have hF49 := hO39x42.chg (o1) hC43 (fun c hc => by have := hF43 c hc; omega)
          have hF50 := hO42.chg (o1) hC43 (fun c hc => by have := hF43 c hc; omega)
          exact lw_tvn 1 rfl (wp_plain _ [0, 0] rfl (q_add ((k + 1 : Nat) : Int) rfl rfl (w64n oM oM) zN (lw_tvn 1 rfl ⟨((k + 1), v43), _, rfl, ⟨rfl, rfl, rfl, rfl, rfl, rfl, rfl, rfl, rfl, trivial⟩, ⟨hE43, (by first | (rw [← heP_eq oM]; exact hO43.up o1) | (rw [← heP_ne oM]; exact hO43.up o1)), hF44, hF45, hF46, hF47, hF48, oM, oM, oM, oM, oM, oM⟩, by first | omega | (dsimp only; omega)⟩)))
        ·
          refine q_eql false rfl rfl (decide_eq_false hc38) zN (lw_nil (c_cond_f rfl (wp_plain _ [0, 0, 0, 0, 3, 3, 0, 0, 3, 3, 0, 0, 3, 3, 0, 0, 3, 4, 0] rfl (lw_tv 4 rfl (r_two (ys := [((i : Nat) : Int), ((k : Nat) : Int)]) good_rI u27 ti2 rfl rfl rfl rfl (elsI2 oM oM) zN fun v51 w51 hX51 hz51 hO51 => ?_)))))
          have hzs51 : w31.heap.size ≤ w51.heap.size := hX51.size
          have hE51 : Ext w w51 := hE31.trans hX51
          have hL31_0x51 := hL31_0.ext (o1) hX51
          have hL31_1x51 := hL31_1.ext (o2) hX51
          have hL31_2x51 := hL31_2.ext hX51
          have hL31_3x51 := hL31_3.ext hX51
          have hL31_4x51 := hL31_4.ext hX51
          have hL31_5x51 := hL31_5.ext hX51
          refine lw_call 146 [] [(.pointer (some ⟨w.heap.size, 0, none⟩)), (.pointer (some ⟨w1.heap.size, 0, none⟩)), (.pointer (some ⟨w2.heap.size, 0, none⟩)), (.pointer (some ⟨w4.heap.size, 0, none⟩))] [v51, (.pointer (some ⟨w.heap.size, 0, none⟩)), (.pointer (some ⟨w1.heap.size, 0, none⟩)), (.pointer (some ⟨w2.heap.size, 0, none⟩)), (.pointer (some ⟨w4.heap.size, 0, none⟩))] rfl rfl cf146 zN (c_impl_Program_hessian_1 _ _ _ dp ((.pointer (some ⟨w.heap.size, 0, none⟩))) (p) (w1.heap.size) (f) (w2.heap.size) (pick) (w4.heap.size) va (a) hO51.rd1 (RN.box hL31_2x51 (RP.mk' (hp.ext (good_rdS (good_rFn dp)) hE51)) sM) (hL31_3x51.ld (k := 0) sM) _hf (hL31_4x51.ld (k := 0) sM) _hpick (hL31_5x51.ld (k := 0) sM) (ha.ext g1 hE51) (by exact hvp) oM oM (by exact hna) oM (by intro j hj; have hj0 : j = 0 ∨ j = 1 := (by have h9 : j < 2 := hj; omega); rcases hj0 with rfl | rfl; (show 0 ≤ ((i : Nat) : Int) ∧ ((i : Nat) : Int) < _; omega); (show 0 ≤ ((k : Nat) : Int) ∧ ((k : Nat) : Int) < _; omega))) ?_
          rintro e52 w52 ⟨rfl, hX52, hP52_0⟩
          refine ⟨_, rfl, hX52, ?_⟩
          have hzs52 : w51.heap.size ≤ w52.heap.size := hX52.size
          have hE52 : Ext w w52 := hE51.trans hX52
          have hL31_0x52 := hL31_0x51.ext (o1) hX52
          have hL31_1x52 := hL31_1x51.ext (o2) hX52
          have hL31_2x52 := hL31_2x51.ext hX52
          have hL31_3x52 := hL31_3x51.ext hX52
          have hL31_4x52 := hL31_4x51.ext hX52
          have hL31_5x52 := hL31_5x51.ext hX52
          have hO51x52 := hO51.ext (o1) hX52
          refine lw_tv 2 rfl (r_one (u := (.int .i64 ((i : Nat) : Int))) (B := w52.heap.size) good_rI u27 ti2 rfl rfl (frI w52.heap.size w52.heap.size _ _ oM) (Nat.le_refl _) zN fun v53 w53 hX53 hz53 hO53 => ?_)
          have hzs53 : w52.heap.size ≤ w53.heap.size := hX53.size
          have hE53 : Ext w w53 := hE52.trans hX53
          have hL31_0x53 := hL31_0x52.ext (o1) hX53
          have hL31_1x53 := hL31_1x52.ext (o2) hX53
          have hL31_2x53 := hL31_2x52.ext hX53
          have hL31_3x53 := hL31_3x52.ext hX53
          have hL31_4x53 := hL31_4x52.ext hX53
          have hL31_5x53 := hL31_5x52.ext hX53
          have hO51x53 := hO51x52.ext (o1) hX53
          refine lw_call 146 [] [(.pointer (some ⟨w.heap.size, 0, none⟩)), (.pointer (some ⟨w1.heap.size, 0, none⟩)), (.pointer (some ⟨w2.heap.size, 0, none⟩)), (.pointer (some ⟨w4.heap.size, 0, none⟩))] [v53, (.pointer (some ⟨w.heap.size, 0, none⟩)), (.pointer (some ⟨w1.heap.size, 0, none⟩)), (.pointer (some ⟨w2.heap.size, 0, none⟩)), (.pointer (some ⟨w4.heap.size, 0, none⟩))] rfl rfl cf146 zN (c_impl_Program_hessian_1 _ _ _ dp ((.pointer (some ⟨w.heap.size, 0, none⟩))) (p) (w1.heap.size) (f) (w2.heap.size) (pick) (w4.heap.size) va (a) hO53.rd1 (RN.box hL31_2x53 (RP.mk' (hp.ext (good_rdS (good_rFn dp)) hE53)) sM) (hL31_3x53.ld (k := 0) sM) _hf (hL31_4x53.ld (k := 0) sM) _hpick (hL31_5x53.ld (k := 0) sM) (ha.ext g1 hE53) (by exact hvp) oM oM (by exact hna) oM z70_0) ?_
          rintro e54 w54 ⟨rfl, hX54, hP54_0⟩
          refine ⟨_, rfl, hX54, ?_⟩
          have hzs54 : w53.heap.size ≤ w54.heap.size := hX54.size
          have hE54 : Ext w w54 := hE53.trans hX54
          have hL31_0x54 := hL31_0x53.ext (o1) hX54
          have hL31_1x54 := hL31_1x53.ext (o2) hX54
          have hL31_2x54 := hL31_2x53.ext hX54
          have hL31_3x54 := hL31_3x53.ext hX54
          have hL31_4x54 := hL31_4x53.ext hX54
          have hL31_5x54 := hL31_5x53.ext hX54
          have hO51x54 := hO51x53.ext (o1) hX54
          have hO53x54 := hO53.ext (o1) hX54
          refine lw_tv 2 rfl (r_one (u := (.int .i64 ((k : Nat) : Int))) (B := w54.heap.size) good_rI u27 ti2 rfl rfl (frI w54.heap.size w54.heap.size _ _ oM) (Nat.le_refl _) zN fun v55 w55 hX55 hz55 hO55 => ?_)
          have hzs55 : w54.heap.size ≤ w55.heap.size := hX55.size
          have hE55 : Ext w w55 := hE54.trans hX55
          have hL31_0x55 := hL31_0x54.ext (o1) hX55
          have hL31_1x55 := hL31_1x54.ext (o2) hX55
          have hL31_2x55 := hL31_2x54.ext hX55
          have hL31_3x55 := hL31_3x54.ext hX55
          have hL31_4x55 := hL31_4x54.ext hX55
          have hL31_5x55 := hL31_5x54.ext hX55
          have hO51x55 := hO51x54.ext (o1) hX55
          have hO53x55 := hO53x54.ext (o1) hX55
          refine lw_call 146 [] [(.pointer (some ⟨w.heap.size, 0, none⟩)), (.pointer (some ⟨w1.heap.size, 0, none⟩)), (.pointer (some ⟨w2.heap.size, 0, none⟩)), (.pointer (some ⟨w4.heap.size, 0, none⟩))] [v55, (.pointer (some ⟨w.heap.size, 0, none⟩)), (.pointer (some ⟨w1.heap.size, 0, none⟩)), (.pointer (some ⟨w2.heap.size, 0, none⟩)), (.pointer (some ⟨w4.heap.size, 0, none⟩))] rfl rfl cf146 zN (c_impl_Program_hessian_1 _ _ _ dp ((.pointer (some ⟨w.heap.size, 0, none⟩))) (p) (w1.heap.size) (f) (w2.heap.size) (pick) (w4.heap.size) va (a) hO55.rd1 (RN.box hL31_2x55 (RP.mk' (hp.ext (good_rdS (good_rFn dp)) hE55)) sM) (hL31_3x55.ld (k := 0) sM) _hf (hL31_4x55.ld (k := 0) sM) _hpick (hL31_5x55.ld (k := 0) sM) (ha.ext g1 hE55) (by exact hvp) oM oM (by exact hna) oM (by intro j hj; have hj0 : j = 0 := (by have h9 : j < 1 := hj; omega); subst hj0; show 0 ≤ ((k : Nat) : Int) ∧ ((k : Nat) : Int) < _; omega)) ?_
          rintro e56 w56 ⟨rfl, hX56, hP56_0⟩
          refine ⟨_, rfl, hX56, ?_⟩
          have hzs56 : w55.heap.size ≤ w56.heap.size := hX56.size
          have hE56 : Ext w w56 := hE55.trans hX56
          have hL31_0x56 := hL31_0x55.ext (o1) hX56
          have hL31_1x56 := hL31_1x55.ext (o2) hX56
          have hL31_2x56 := hL31_2x55.ext hX56
          have hL31_3x56 := hL31_3x55.ext hX56
          have hL31_4x56 := hL31_4x55.ext hX56
          have hL31_5x56 := hL31_5x55.ext hX56
          have hO51x56 := hO51x55.ext (o1) hX56
          have hO53x56 := hO53x55.ext (o1) hX56
          have hO55x56 := hO55.ext (o1) hX56
          refine q_add ((cfR p f.toNat pick.toNat a (uniG a.length ([((i : Nat) : Int)]) ([((i : Nat) : Int)]).length) 2) + (cfR p f.toNat pick.toNat a (uniG a.length ([((k : Nat) : Int)]) ([((k : Nat) : Int)]).length) 2)) rfl rfl (w64 sD sD) zN ?_
          refine lw_callq 78 [] [] [(.int .i64 (cfR p f.toNat pick.toNat a (uniG a.length ([((i : Nat) : Int), ((k : Nat) : Int)]) ([((i : Nat) : Int), ((k : Nat) : Int)]).length) 2)), (.int .i64 ((cfR p f.toNat pick.toNat a (uniG a.length ([((i : Nat) : Int)]) ([((i : Nat) : Int)]).length) 2) + (cfR p f.toNat pick.toNat a (uniG a.length ([((k : Nat) : Int)]) ([((k : Nat) : Int)]).length) 2)))] rfl rfl cf78 zN (.int .i64 (md ((cfR p f.toNat pick.toNat a (uniG a.length ([((i : Nat) : Int), ((k : Nat) : Int)]) ([((i : Nat) : Int), ((k : Nat) : Int)]).length) 2) - ((cfR p f.toNat pick.toNat a (uniG a.length ([((i : Nat) : Int)]) ([((i : Nat) : Int)]).length) 2) + (cfR p f.toNat pick.toNat a (uniG a.length ([((k : Nat) : Int)]) ([((k : Nat) : Int)]).length) 2))))) (fun wq => c_impl_minus wq _ _ oM oM) ?_
          refine r_one (u := (.int .i64 (md ((cfR p f.toNat pick.toNat a (uniG a.length ([((i : Nat) : Int), ((k : Nat) : Int)]) ([((i : Nat) : Int), ((k : Nat) : Int)]).length) 2) - ((cfR p f.toNat pick.toNat a (uniG a.length ([((i : Nat) : Int)]) ([((i : Nat) : Int)]).length) 2) + (cfR p f.toNat pick.toNat a (uniG a.length ([((k : Nat) : Int)]) ([((k : Nat) : Int)]).length) 2)))))) (B := w56.heap.size) good_rI u27 ti2 rfl rfl (frI w56.heap.size w56.heap.size _ _ (md_rng _)) (Nat.le_refl _) zN fun v58 w58 hX58 hz58 hO58 => ?_
          have hzs58 : w56.heap.size ≤ w58.heap.size := hX58.size
          have hE58 : Ext w w58 := hE56.trans hX58
          have hL31_0x58 := hL31_0x56.ext (o1) hX58
          have hL31_1x58 := hL31_1x56.ext (o2) hX58
          have hL31_2x58 := hL31_2x56.ext hX58
          have hL31_3x58 := hL31_3x56.ext hX58
          have hL31_4x58 := hL31_4x56.ext hX58
          have hL31_5x58 := hL31_5x56.ext hX58
          have hO51x58 := hO51x56.ext (o1) hX58
          have hO53x58 := hO53x56.ext (o1) hX58
          have hO55x58 := hO55x56.ext (o1) hX58
          refine e_appI (v := vr) (a := v58) u27 ti2 rfl rfl rfl hL31_0x58 oM hO58.rd1 (by rw [heP_len]; simp only [List.length_cons, List.length_nil]; omega) z70_1 zN fun v59 w59 F59 hC59 hF59 hO59 => ?_
          have hE59 : Ext w w59 := hC59.below hE58 (fun c hc => Nat.le_trans hE19.size (hF59 c hc).1) hE58.size
          have hzs59 : w58.heap.size ≤ w59.heap.size := hC59.size
          have hF60 := hL31_1x58.chg (o2) hC59 (fun c hc => by have := hF59 c hc; omega)
          have hF61 := hL31_2x58.chg hC59 (fun hm => by have := hF59 _ hm; omega)
          have hF62 := hL31_3x58.chg hC59 (fun hm => by have := hF59 _ hm; omega)
          have hF63 := hL31_4x58.chg hC59 (fun hm => by have := hF59 _ hm; omega)
          have hF64 := hL31_5x58.chg hC59 (fun hm => by have := hF59 _ hm; omega)
          have hF65 := hO51x58.chg (o1) hC59 (fun c hc => by have := hF59 c hc; omega)
          have hF66 := hO53x58.chg (o1) hC59 (fun c hc => by have := hF59 c hc; omega)
          have hF67 := hO55x58.chg (o1) hC59 (fun c hc => by have := hF59 c hc; omega)
          have hF68 := hO58.chg (o1) hC59 (fun c hc => by have := hF59 c hc; omega)
          exact lw_tvn 1 rfl (wp_plain _ [0, 0] rfl (q_add ((k + 1 : Nat) : Int) rfl rfl (w64n oM oM) zN (lw_tvn 1 rfl ⟨((k + 1), v59), _, rfl, ⟨rfl, rfl, rfl, rfl, rfl, rfl, rfl, rfl, rfl, trivial⟩, ⟨hE59, (by first | (rw [← heP_eq oM]; exact hO59.up o1) | (rw [← heP_ne oM]; exact hO59.up o1)), hF60, hF61, hF62, hF63, hF64, oM, oM, oM, oM, oM, oM⟩, by first | omega | (dsimp only; omega)⟩)))
      ·
        refine q_lss false rfl rfl (decide_eq_false hc37) zN (lw_nil (wp_seq (c_cond_f rfl (wp_exit (t_exit (t_exit (c_exit_here (wp_plain _ [0, 0, 3, 4, 0] rfl (lw_tv 2 rfl (r_one (u := vr) (B := w19.heap.size) o1 u32 ti27 rfl rfl hL31_0 (by first | exact Nat.le_refl _ | omega) zN fun v69 w69 hX69 hz69 hO69 => ?_))))))))))
        have hzs69 : w31.heap.size ≤ w69.heap.size := hX69.size
        have hE69 : Ext w w69 := hE31.trans hX69
        have hL31_1x69 := hL31_1.ext (o2) hX69
        have hL31_2x69 := hL31_2.ext hX69
        have hL31_3x69 := hL31_3.ext hX69
        have hL31_4x69 := hL31_4.ext hX69
        have hL31_5x69 := hL31_5.ext hX69
        refine e_appF o1 (v := vo) (a := v69) u32 ti27 rfl rfl rfl hL31_1x69 oM hO69 oM oM (by rw [heT_len]; simp only [List.length_cons, List.length_nil]; omega) (by rw [heT_len]; unfold maxLen; simp only [List.length_cons, List.length_nil]; omega) zN fun v70 w70 F70 hC70 hF70 hO70 => ?_
        have hE70 : Ext w w70 := hC70.below hE69 (fun c hc => Nat.le_trans hE12.size (hF70 c hc).1) hE69.size
        have hzs70 : w69.heap.size ≤ w70.heap.size := hC70.size
        have hF71 := hL31_2x69.chg hC70 (fun hm => by have := hF70 _ hm; omega)
        have hF72 := hL31_3x69.chg hC70 (fun hm => by have := hF70 _ hm; omega)
        have hF73 := hL31_4x69.chg hC70 (fun hm => by have := hF70 _ hm; omega)
        have hF74 := hL31_5x69.chg hC70 (fun hm => by have := hF70 _ hm; omega)
        exact lw_tvn 1 rfl (wp_plain _ [0, 0] rfl (q_add ((i + 1 : Nat) : Int) rfl rfl (w64n oM oM) zN (lw_tvn 1 rfl ⟨((i + 1), v70), _, rfl, ⟨rfl, rfl, rfl, rfl, rfl, trivial⟩, ⟨hE70, (by have h := hO70.up o2; rw [show k = a.length by omega] at h; rw [← heT_snoc]; exact h), hF71, hF72, hF73, hF74, oM, oM, oM, oM, oM, oM⟩, by first | omega | (dsimp only; omega)⟩)))
    ·
      exact q_lss false rfl rfl (decide_eq_false hc25) zN (lw_nil (wp_seq (c_cond_f rfl (wp_exit (t_exit (t_exit (c_exit_here (wp_seq (wp_plain _ [0, 0, 0] rfl (lw_tvn 3 rfl (wp_ret (post_ret [8, 9] rfl (.tuple #[vo, (.int .i64 ((0 : Nat) : Int))]) rfl ⟨vo, (by rw [show nxC p f.toNat a = 0 by omega]; rfl), hE19, (by have h := (hL19_0.up o2).low hE12.size; rw [if_pos (show nxC p f.toNat a = 0 by omega)]; rwa [show i = a.length by omega] at h), hn9⟩))))))))))))
theorem c_impl_HessianOf (w : World) (dp : Nat) (vp : Value) (p : List Fn) (f : Int) (pick : Int) (va : Value) (a : List Int) (hp : RP [] dp w.heap vp p) (_hf : -9223372036854775808 ≤ f ∧ f ≤ 9223372036854775807) (_hpick : -9223372036854775808 ≤ pick ∧ pick ≤ 9223372036854775807) (ha : Rd (rdL rI) w.heap va a) (hli : liC p f a a = 0) (hz : SzP p) (hpk : 0 ≤ pick ∧ pick < (((p.getD f.toNat Fn.zero).outs.length : Nat) : Int)) :
    Calls Tryz.prog 14 #[(.agg #[vp]), .int .i64 f, .int .i64 pick, va] w (fun e w' => ∃ v0 : Value, e = .returned (.tuple #[v0, .int .i64 (nxC p f.toNat a)]) ∧ Ext w w' ∧ Fr (owL (owL rI 2) 27) w.heap.size w'.heap.size w'.heap v0 (if nxC p f.toNat a = 0 then heT p f.toNat pick.toNat a a.length else []) ∧ (0 ≤ nxC p f.toNat a ∧ nxC p f.toNat a ≤ 9)) := by
  refine calls_mk [(.agg #[vp]), .int .i64 f, .int .i64 pick, va] 27 Tryz.func14 rfl rfl sM ?_
  have hE0 : Ext w w := Ext.refl w
  have hl_vp := hp.lenle
  unfold maxLen at hl_vp
  have hl_va := ha.lenle
  have hl0 := liC_0 hli
  have hvp := okP_vpr hl0.1
  have hpr := hvp.par f.toNat oM
  have hou := hvp.outs f.toNat oM
  have hal := hl0.2.2.1.1
  have hna := hl0.2.2.1.2
  refine wp_seq (wp_plain _ [3, 0, 0] rfl (r_boxA (cs := #[vp]) rfl zN fun w1 hX1 hz1 hB1 => ?_))
  have hzs1 : w.heap.size ≤ w1.heap.size := hX1.size
  have hE1 : Ext w w1 := hE0.trans hX1
  replace hB1 : BX w1.heap w.heap.size [vp] := hB1
  refine lw_tvn 2 rfl (wp_seq (wp_seq (wp_plain _ [2, 0, 0, 0, 0, 3, 0] rfl (q_loadA (p := (.pointer (some ⟨w.heap.size, 0, none⟩))) (.inr rfl) [vp] agg26 rfl (fun wq9 hw9 => LD.of_box (BX.ext (w := w1) hB1 hw9)) rfl zN (lw_tv 4 rfl (lw_call 69 [] [] [(.agg #[vp]), (.int .i64 f), (.int .i64 pick), va, va] rfl rfl cf69 zN (c_impl_isPicked _ dp vp (p) _ _ _ _ _ _ (hp.ext (good_rdS (good_rFn dp)) hE1) _hf _hpick (ha.ext g1 hE1) (ha.ext g1 hE1) (by exact hli) (by exact hz) oM) ?_))))))
  rintro e2 w2 ⟨rfl, hX2⟩
  refine ⟨_, rfl, hX2, ?_⟩
  have hzs2 : w1.heap.size ≤ w2.heap.size := hX2.size
  have hE2 : Ext w w2 := hE1.trans hX2
  have hB1x2 := hB1.ext hX2
  refine lw_tvn 1 rfl (wp_seq (wp_plain _ [0, 0] rfl (lw_tv 1 rfl (q_neq false rfl rfl sM zN (lw_nil (c_cond_f rfl (wp_skip (wp_seq (wp_plain _ [2, 0, 0, 0, 3, 0, 0, 0, 0] rfl (q_loadA (p := (.pointer (some ⟨w.heap.size, 0, none⟩))) (.inr rfl) [vp] agg26 rfl (fun wq9 hw9 => LD.of_box (BX.ext (w := w2) hB1x2 hw9)) rfl zN (lw_tv 3 rfl (lw_call 70 [] [] [(.agg #[vp]), (.int .i64 f), (.int .i64 pick), va] rfl rfl cf70 zN (c_impl_Program_hessian _ dp vp (p) _ _ _ _ (hp.ext (good_rdS (good_rFn dp)) hE2) _hf _hpick (ha.ext g1 hE2) (by exact hvp) oM oM (by exact hna) oM) ?_))))))))))))
  rintro e3 w3 ⟨v3_0, rfl, hX3, hO3_0, hP3_0⟩
  refine ⟨_, rfl, hX3, ?_⟩
  have hzs3 : w2.heap.size ≤ w3.heap.size := hX3.size
  have hE3 : Ext w w3 := hE2.trans hX3
  have hB1x3 := hB1x2.ext hX3
  exact q_extract (vs := [v3_0, (.int .i64 (nxC p f.toNat a))]) v3_0 rfl rfl zN (q_extract (vs := [v3_0, (.int .i64 (nxC p f.toNat a))]) (.int .i64 (nxC p f.toNat a)) rfl rfl zN (lw_tvn 2 rfl (wp_ret (post_ret [8, 9] rfl (.tuple #[v3_0, (.int .i64 (nxC p f.toNat a))]) rfl ⟨v3_0, rfl, hE3, (hO3_0.up o2).low hE2.size, (by assumption)⟩))))
theorem c_impl_HessianTimes (w : World) (dp : Nat) (vp : Value) (p : List Fn) (f : Int) (pick : Int) (va : Value) (a : List Int) (vd : Value) (d : List Int) (hp : RP [] dp w.heap vp p) (_hf : -9223372036854775808 ≤ f ∧ f ≤ 9223372036854775807) (_hpick : -9223372036854775808 ≤ pick ∧ pick ≤ 9223372036854775807) (ha : Rd (rdL rI) w.heap va a) (hd : Rd (rdL rI) w.heap vd d) (hli : liC p f a d = 0) (hz : SzP p) (hpk : 0 ≤ pick ∧ pick < (((p.getD f.toNat Fn.zero).outs.length : Nat) : Int)) :
    Calls Tryz.prog 15 #[(.agg #[vp]), .int .i64 f, .int .i64 pick, va, vd] w (fun e w' => ∃ v0 : Value, e = .returned (.tuple #[v0, .int .i64 (nxC p f.toNat a)]) ∧ Ext w w' ∧ Fr (owL rI 2) w.heap.size w'.heap.size w'.heap v0 (if nxC p f.toNat a = 0 then (heT p f.toNat pick.toNat a a.length).map (fun r : List Int => dotM r d) else []) ∧ (0 ≤ nxC p f.toNat a ∧ nxC p f.toNat a ≤ 9)) := by
  refine calls_mk [(.agg #[vp]), .int .i64 f, .int .i64 pick, va, vd] 53 Tryz.func15 rfl rfl sM ?_
  have hE0 : Ext w w := Ext.refl w
  have hl_vp := hp.lenle
  unfold maxLen at hl_vp
  have hl_va := ha.lenle
  have hl_vd := hd.lenle
  have hl0 := liC_0 hli
  have hvp := okP_vpr hl0.1
  have hpr := hvp.par f.toNat oM
  have hou := hvp.outs f.toNat oM
  have hal := hl0.2.2.1.1
  have hna := hl0.2.2.1.2
  have hdl := hl0.2.2.2.1
  have hnd := hl0.2.2.2.2
  refine wp_seq (wp_plain _ [3, 0, 0] rfl (r_boxA (cs := #[vp]) rfl zN fun w1 hX1 hz1 hB1 => ?_))
  have hzs1 : w.heap.size ≤ w1.heap.size := hX1.size
  have hE1 : Ext w w1 := hE0.trans hX1
  replace hB1 : BX w1.heap w.heap.size [vp] := hB1
  refine lw_tvn 2 rfl (wp_seq (wp_seq (wp_plain _ [2, 0, 0, 0, 0, 3, 0] rfl (q_loadA (p := (.pointer (some ⟨w.heap.size, 0, none⟩))) (.inr rfl) [vp] agg26 rfl (fun wq9 hw9 => LD.of_box (BX.ext (w := w1) hB1 hw9)) rfl zN (lw_tv 4 rfl (lw_call 69 [] [] [(.agg #[vp]), (.int .i64 f), (.int .i64 pick), va, vd] rfl rfl cf69 zN (c_impl_isPicked _ dp vp (p) _ _ _ _ _ _ (hp.ext (good_rdS (good_rFn dp)) hE1) _hf _hpick (ha.ext g1 hE1) (hd.ext g1 hE1) (by exact hli) (by exact hz) oM) ?_))))))
  rintro e2 w2 ⟨rfl, hX2⟩
  refine ⟨_, rfl, hX2, ?_⟩
  have hzs2 : w1.heap.size ≤ w2.heap.size := hX2.size
  have hE2 : Ext w w2 := hE1.trans hX2
  have hB1x2 := hB1.ext hX2
  refine lw_tvn 1 rfl (wp_seq (wp_plain _ [0, 0] rfl (lw_tv 1 rfl (q_neq false rfl rfl sM zN (lw_nil (c_cond_f rfl (wp_skip (wp_seq (wp_plain _ [2, 0, 0, 0, 3, 0, 0, 0, 0, 0] rfl (q_loadA (p := (.pointer (some ⟨w.heap.size, 0, none⟩))) (.inr rfl) [vp] agg26 rfl (fun wq9 hw9 => LD.of_box (BX.ext (w := w2) hB1x2 hw9)) rfl zN (lw_tv 3 rfl (lw_call 70 [] [] [(.agg #[vp]), (.int .i64 f), (.int .i64 pick), va] rfl rfl cf70 zN (c_impl_Program_hessian _ dp vp (p) _ _ _ _ (hp.ext (good_rdS (good_rFn dp)) hE2) _hf _hpick (ha.ext g1 hE2) (by exact hvp) oM oM (by exact hna) oM) ?_))))))))))))
  rintro e3 w3 ⟨v3_0, rfl, hX3, hO3_0, hP3_0⟩
  refine ⟨_, rfl, hX3, ?_⟩
  have hzs3 : w2.heap.size ≤ w3.heap.size := hX3.size
  have hE3 : Ext w w3 := hE2.trans hX3
  have hB1x3 := hB1x2.ext hX3
  refine lw_tv 1 rfl (q_extract (vs := [v3_0, (.int .i64 (nxC p f.toNat a))]) v3_0 rfl rfl zN (q_extract (vs := [v3_0, (.int .i64 (nxC p f.toNat a))]) (.int .i64 (nxC p f.toNat a)) rfl rfl zN (lw_tvn 2 rfl (wp_seq (wp_seq (wp_plain _ [0, 0] rfl (lw_tv 1 rfl ?_)))))))
  have hn9 := ‹(0 ≤ nxC p f.toNat a ∧ nxC p f.toNat a ≤ 9)›
  by_cases hc4 : nxC p f.toNat a ≠ ((0 : Nat) : Int)
  ·
    exact q_neq true rfl rfl (decide_eq_true hc4) zN (lw_nil (c_cond_t rfl (wp_seq (wp_plain _ [0, 0, 0] rfl (lw_tvn 3 rfl (wp_ret (t_ret (post_ret [10, 11] rfl (.tuple #[(.slice none 0 0), (.int .i64 (nxC p f.toNat a))]) rfl ⟨(.slice none 0 0), rfl, hE3, (by rw [if_neg oM]; exact frNil _ _ _), hn9⟩))))))))
  ·
    refine q_neq false rfl rfl (decide_eq_false hc4) zN (lw_nil (c_cond_f rfl (wp_skip (wp_seq (wp_plain _ [3, 0] rfl ?_)))))
    have hc0 : nxC p f.toNat a = 0 := by omega
    have hrw := hO3_0
    rw [if_pos hc0] at hrw
    refine r_nil (rI) good_rI u27 ti2 zN fun v5 w5 hX5 hz5 hO5 => ?_
    have hzs5 : w3.heap.size ≤ w5.heap.size := hX5.size
    have hE5 : Ext w w5 := hE3.trans hX5
    have hB1x5 := hB1x3.ext hX5
    have hrwx5 := hrw.ext (o2) hX5
    refine lw_tvn 1 rfl (wp_seq (wp_seq (wp_plain _ [0, 0, 0] rfl (lw_tv 1 rfl (q_len (v := v3_0) u32 rfl hrwx5.isSl zN (lw_tvn 1 rfl (wp_block ?_)))))))
    have hhl := heT_len p f.toNat pick.toNat a a.length
    refine c_loop (S := Nat × Value) (fun (⟨i, vo⟩ : Nat × Value) => ([(15, vo), (41, (.int .i64 ((i : Nat) : Int))), (4, vd), (39, v3_0), (40, (.int .i64 (((heT p f.toNat pick.toNat a a.length).length : Nat) : Int)))] : List (Nat × Value))) (fun (⟨i, vo⟩ : Nat × Value) (W : World) => Ext w W ∧ Fr (owL rI 2) w3.heap.size W.heap.size W.heap vo (((heT p f.toNat pick.toNat a a.length).take i).map (fun r : List Int => dotM r d)) ∧ Fr (owL (owL rI 2) 27) w2.heap.size w3.heap.size W.heap v3_0 (heT p f.toNat pick.toNat a a.length) ∧ i ≤ a.length ∧ w3.heap.size ≤ W.heap.size) (fun (⟨i, vo⟩ : Nat × Value) => a.length - i) (0, v5) ⟨rfl, rfl, rfl, rfl, rfl, trivial⟩ ⟨hE5, hO5.up o1, hrwx5, oM, oM⟩ ?_
    clear hE0 hz1 hX1 hzs1 hE1 hX2 hO3_0 hX3 hO5 hz5 hX5 hzs5 hE5
    rintro ⟨i, vo⟩ ρ6 w6 ⟨hE6, hL6_0, hL6_1, hp6_0, hkB7⟩
    have hzs6 : w.heap.size ≤ w6.heap.size := hE6.size
    refine wp_seq (wp_plain _ [0] rfl ?_)
    by_cases hc8 : ((i : Nat) : Int) < (((heT p f.toNat pick.toNat a a.length).length : Nat) : Int)
    ·
      refine q_lss true rfl rfl (decide_eq_true hc8) zN (lw_nil (wp_seq (c_cond_t rfl (wp_skip (wp_seq (wp_block (wp_seq (wp_plain _ [0, 2, 0] rfl (q_idx (v := v3_0) i u32 ti27 rfl rfl hL6_1.isSl rfl sD zN ?_)))))))))
      obtain ⟨ue9, hl9, hd9⟩ := hL6_1.rd2.get (k := i) [] sD
      have hln9 := hd9.lenle
      refine q_load (p := eptr v3_0 i 1) (.inr rfl) ue9 one27 rfl hl9 zN (lw_tvn 1 rfl (wp_plain _ [0, 0, 0, 3, 3, 4, 0] rfl (lw_tv 3 rfl (lw_call 71 [] [] [ue9, vd] rfl rfl cf71 zN (c_impl_dot _ _ _ _ _ hd9 (hd.ext g1 hE6) (by rw [heT_at oM, heP_len]; omega) (by rw [heT_at oM]; exact heP_num _ _ _ _ _ _) (by exact hnd)) ?_))))
      rintro e10 w10 ⟨rfl, hX10⟩
      refine ⟨_, rfl, hX10, ?_⟩
      have hzs10 : w6.heap.size ≤ w10.heap.size := hX10.size
      have hE10 : Ext w w10 := hE6.trans hX10
      have hL6_0x10 := hL6_0.ext (o1) hX10
      have hL6_1x10 := hL6_1.ext (o2) hX10
      have hd9x10 := hd9.ext g1 hX10
      have hlx11 := ldH_ext hX10 hl9
      refine r_one (u := (.int .i64 (dotM ((heT p f.toNat pick.toNat a a.length).getD i []) d))) (B := w10.heap.size) good_rI u27 ti2 rfl rfl (frI w10.heap.size w10.heap.size _ _ (dotM_rng _ _)) (Nat.le_refl _) zN fun v12 w12 hX12 hz12 hO12 => ?_
      have hzs12 : w10.heap.size ≤ w12.heap.size := hX12.size
      have hE12 : Ext w w12 := hE10.trans hX12
      have hL6_0x12 := hL6_0x10.ext (o1) hX12
      have hL6_1x12 := hL6_1x10.ext (o2) hX12
      have hd9x12 := hd9x10.ext g1 hX12
      have hlx13 := ldH_ext hX12 hlx11
      refine e_appI (v := vo) (a := v12) u27 ti2 rfl rfl rfl hL6_0x12 oM hO12.rd1 (by rw [List.length_map, List.length_take]; simp only [List.length_cons, List.length_nil]; omega) (by rw [List.length_map, List.length_take]; unfold maxLen; simp only [List.length_cons, List.length_nil]; omega) zN fun v14 w14 F14 hC14 hF14 hO14 => ?_
      have hE14 : Ext w w14 := hC14.below hE12 (fun c hc => Nat.le_trans hE3.size (hF14 c hc).1) hE12.size
      have hzs14 : w12.heap.size ≤ w14.heap.size := hC14.size
      have hF15 := hL6_1x12.chg (o2) hC14 (fun c hc => by have := hF14 c hc; omega)
      have hF16 := hO12.chg (o1) hC14 (fun c hc => by have := hF14 c hc; omega)
      exact lw_tvn 1 rfl (wp_plain _ [0, 0] rfl (q_add ((i + 1 : Nat) : Int) rfl rfl (w64n oM (by rw [heT_len] at *; omega)) zN (lw_tvn 1 rfl ⟨((i + 1), v14), _, rfl, ⟨rfl, rfl, rfl, rfl, rfl, trivial⟩, ⟨hE14, (by rw [map_snoc [] (by rw [heT_len]; omega)]; exact hO14.up o1), hF15, oM, oM⟩, by first | omega | (dsimp only; omega)⟩)))
    ·
      exact q_lss false rfl rfl (decide_eq_false hc8) zN (lw_nil (wp_seq (c_cond_f rfl (wp_exit (t_exit (t_exit (c_exit_here (wp_seq (wp_plain _ [0, 0, 0] rfl (lw_tvn 3 rfl (wp_ret (post_ret [10, 11] rfl (.tuple #[vo, (.int .i64 ((0 : Nat) : Int))]) rfl ⟨vo, (by rw [hc0]; rfl), hE6, (by have h := (hL6_0.up o1).low hE3.size; rw [if_pos hc0]; rwa [List.take_of_length_le oM] at h), hn9⟩))))))))))))
theorem c_impl_HigherDerivative (w : World) (dp : Nat) (vp : Value) (p : List Fn) (f : Int) (pick : Int) (va : Value) (a : List Int) (vd : Value) (d : List Int) (o : Nat) (hp : RP [] dp w.heap vp p) (_hf : -9223372036854775808 ≤ f ∧ f ≤ 9223372036854775807) (_hpick : -9223372036854775808 ≤ pick ∧ pick ≤ 9223372036854775807) (ha : Rd (rdL rI) w.heap va a) (hd : Rd (rdL rI) w.heap vd d) (hli : liC p f a d = 0) (hz : SzP p) (hpk : 0 ≤ pick ∧ pick < (((p.getD f.toNat Fn.zero).outs.length : Nat) : Int)) (ho : o ≤ 12) :
    Calls Tryz.prog 16 #[(.agg #[vp]), .int .i64 f, .int .i64 pick, va, vd, .int .i64 ((o : Nat) : Int)] w (fun e w' => e = .returned (.tuple #[.int .i64 (md (cfR p f.toNat pick.toNat a d o * facL (o - 1))), .int .i64 (nxC p f.toNat a)]) ∧ Ext w w' ∧ (0 ≤ nxC p f.toNat a ∧ nxC p f.toNat a ≤ 9)) := by
  refine calls_mk [(.agg #[vp]), .int .i64 f, .int .i64 pick, va, vd, .int .i64 ((o : Nat) : Int)] 48 Tryz.func16 rfl rfl sM ?_
  have hE0 : Ext w w := Ext.refl w
  have hl_vp := hp.lenle
  unfold maxLen at hl_vp
  have hl_va := ha.lenle
  have hl_vd := hd.lenle
  have hl0 := liC_0 hli
  have hvp := okP_vpr hl0.1
  have hpr := hvp.par f.toNat oM
  have hou := hvp.outs f.toNat oM
  have hal := hl0.2.2.1.1
  have hna := hl0.2.2.1.2
  have hdl := hl0.2.2.2.1
  have hnd := hl0.2.2.2.2
  have hfc := facL_num (o - 1)
  refine wp_seq (wp_plain _ [3, 0, 0] rfl (r_boxA (cs := #[vp]) rfl zN fun w1 hX1 hz1 hB1 => ?_))
  have hzs1 : w.heap.size ≤ w1.heap.size := hX1.size
  have hE1 : Ext w w1 := hE0.trans hX1
  replace hB1 : BX w1.heap w.heap.size [vp] := hB1
  refine lw_tvn 2 rfl (wp_seq (wp_plain _ [2, 0, 0, 0, 0, 3, 0] rfl (q_loadA (p := (.pointer (some ⟨w.heap.size, 0, none⟩))) (.inr rfl) [vp] agg26 rfl (fun wq9 hw9 => LD.of_box (BX.ext (w := w1) hB1 hw9)) rfl zN (lw_tv 4 rfl (lw_call 69 [] [] [(.agg #[vp]), (.int .i64 f), (.int .i64 pick), va, vd] rfl rfl cf69 zN (c_impl_isPicked _ dp vp (p) _ _ _ _ _ _ (hp.ext (good_rdS (good_rFn dp)) hE1) _hf _hpick (ha.ext g1 hE1) (hd.ext g1 hE1) (by exact hli) (by exact hz) oM) ?_)))))
  rintro e2 w2 ⟨rfl, hX2⟩
  refine ⟨_, rfl, hX2, ?_⟩
  have hzs2 : w1.heap.size ≤ w2.heap.size := hX2.size
  have hE2 : Ext w w2 := hE1.trans hX2
  have hB1x2 := hB1.ext hX2
  refine lw_tvn 1 rfl (wp_seq (wp_seq (wp_plain _ [0, 0, 0, 0, 0, 0, 0] rfl (lw_tv 1 rfl (q_eql true rfl rfl sM zN (lw_tv 2 rfl (lw_callq 72 [] [] [(.int .i64 ((o : Nat) : Int)), (.int .i64 ((0 : Nat) : Int)), (.int .i64 ((12 : Nat) : Int))] rfl rfl cf72 (zS (e := 24) rfl rfl rfl) (.bool (decide (((0 : Nat) : Int) ≤ ((o : Nat) : Int)) && decide (((o : Nat) : Int) ≤ ((12 : Nat) : Int)))) (fun wq => c_impl_within wq _ _ _ oM oM oM) ?_)))))))
  rw [show (decide (((0 : Nat) : Int) ≤ ((o : Nat) : Int)) && decide (((o : Nat) : Int) ≤ ((12 : Nat) : Int))) = true from (by rw [decide_eq_true oM, decide_eq_true oM]; rfl)]
  refine q_not false rfl rfl (zS (e := 24) rfl rfl rfl) (lw_tvn 1 rfl (c_cond_f rfl (wp_skip (wp_seq (wp_seq (wp_plain _ [0, 0] rfl (lw_tv 1 rfl (q_neq false rfl rfl sM zN (lw_nil (c_cond_f rfl (wp_skip (wp_seq (wp_plain _ [2, 0, 0, 0, 0, 0, 3, 0, 0, 0, 0, 0] rfl (q_loadA (p := (.pointer (some ⟨w.heap.size, 0, none⟩))) (.inr rfl) [vp] agg26 rfl (fun wq9 hw9 => LD.of_box (BX.ext (w := w2) hB1x2 hw9)) rfl zN (lw_tv 5 rfl ?_)))))))))))))))
  refine lw_call 73 [] [] [(.agg #[vp]), (.int .i64 f), (.int .i64 pick), va, vd, (.int .i64 ((o : Nat) : Int))] rfl rfl cf73 zN (c_impl_Program_coefficient _ dp vp (p) _ _ _ _ _ _ (o) (hp.ext (good_rdS (good_rFn dp)) hE2) _hf _hpick (ha.ext g1 hE2) (hd.ext g1 hE2) (by exact hvp) oM oM oM (by exact hna) (by exact hnd) oM oM) ?_
  rintro e4 w4 ⟨rfl, hX4, hP4_0, hP4_1⟩
  refine ⟨_, rfl, hX4, ?_⟩
  have hzs4 : w2.heap.size ≤ w4.heap.size := hX4.size
  have hE4 : Ext w w4 := hE2.trans hX4
  have hB1x4 := hB1x2.ext hX4
  refine lw_tv 1 rfl (q_extract (vs := [(.int .i64 (cfR p f.toNat pick.toNat a d o)), (.int .i64 (nxC p f.toNat a))]) (.int .i64 (cfR p f.toNat pick.toNat a d o)) rfl rfl zN (q_extract (vs := [(.int .i64 (cfR p f.toNat pick.toNat a d o)), (.int .i64 (nxC p f.toNat a))]) (.int .i64 (nxC p f.toNat a)) rfl rfl zN (lw_tvn 2 rfl (wp_seq (wp_plain _ [0, 0, 3, 0, 0, 0, 0, 0] rfl (lw_tv 2 rfl (lw_call 74 [] [] [(.int .i64 ((o : Nat) : Int))] rfl rfl cf74 zN (c_impl_factorial _ (o) oM) ?_)))))))
  rintro e5 w5 ⟨rfl, hX5⟩
  refine ⟨_, rfl, hX5, ?_⟩
  have hzs5 : w4.heap.size ≤ w5.heap.size := hX5.size
  have hE5 : Ext w w5 := hE4.trans hX5
  have hB1x5 := hB1x4.ext hX5
  have hcn := ‹0 ≤ cfR p f.toNat pick.toNat a d o ∧ cfR p f.toNat pick.toNat a d o < 1000003›
  have hmn := mul_num hcn.1 hcn.2 hfc.1 hfc.2
  exact q_mul (cfR p f.toNat pick.toNat a d o * facL (o - 1)) rfl rfl (w64 oM oM) zN (q_rem (md (cfR p f.toNat pick.toNat a d o * facL (o - 1))) rfl rfl (by decide) (Int.tmod_eq_emod_of_nonneg oM) zN (lw_tvn 3 rfl (wp_ret (post_ret [12, 13] rfl (.tuple #[(.int .i64 (md (cfR p f.toNat pick.toNat a d o * facL (o - 1)))), (.int .i64 (nxC p f.toNat a))]) rfl ⟨rfl, hE5, (by assumption)⟩))))
theorem z22_0 {p : Prop} (h : p := by first | (rw [if_neg oM] <;> rfl) | (have hz0 : nxC p f.toNat a = 0 := oM; rw [if_pos hz0, hz0, hsm, show q = 2 ^ ps.length from oM]; rfl)) : p := h
theorem c_impl_MixedDerivative (w : World) (dp : Nat) (vp : Value) (p : List Fn) (f : Int) (pick : Int) (va : Value) (a : List Int) (vs : Value) (ps : List Int) (hp : RP [] dp w.heap vp p) (_hf : -9223372036854775808 ≤ f ∧ f ≤ 9223372036854775807) (_hpick : -9223372036854775808 ≤ pick ∧ pick ≤ 9223372036854775807) (ha : Rd (rdL rI) w.heap va a) (hps : Rd (rdL rI) w.heap vs ps) (hli : liC p f a a = 0) (hz : SzP p) (hpk : 0 ≤ pick ∧ pick < (((p.getD f.toNat Fn.zero).outs.length : Nat) : Int)) (hpl : ps.length ≤ 4) (hpz : ∀ j, j < ps.length → 0 ≤ ps.getD j 0 ∧ ps.getD j 0 < ((a.length : Nat) : Int)) :
    Calls Tryz.prog 22 #[(.agg #[vp]), .int .i64 f, .int .i64 pick, va, vs] w (fun e w' => e = .returned (.tuple #[.int .i64 (if nxC p f.toNat a = 0 then mxS p f.toNat pick.toNat a ps (2 ^ ps.length) else 0), .int .i64 (nxC p f.toNat a)]) ∧ Ext w w' ∧ (0 ≤ nxC p f.toNat a ∧ nxC p f.toNat a ≤ 9)) := by
  refine calls_mk [(.agg #[vp]), .int .i64 f, .int .i64 pick, va, vs] 110 Tryz.func22 rfl rfl sM ?_
  have hE0 : Ext w w := Ext.refl w
  have hl_vp := hp.lenle
  unfold maxLen at hl_vp
  have hl_va := ha.lenle
  have hl_vs := hps.lenle
  have hl0 := liC_0 hli
  have hvp := okP_vpr hl0.1
  have hpr := hvp.par f.toNat oM
  have hou := hvp.outs f.toNat oM
  have hal := hl0.2.2.1.1
  have hna := hl0.2.2.1.2
  have hsh := shl_one hpl
  refine wp_seq (wp_plain _ [3, 0, 0] rfl (r_boxA (cs := #[vp]) rfl zN fun w1 hX1 hz1 hB1 => ?_))
  have hzs1 : w.heap.size ≤ w1.heap.size := hX1.size
  have hE1 : Ext w w1 := hE0.trans hX1
  replace hB1 : BX w1.heap w.heap.size [vp] := hB1
  refine lw_tvn 2 rfl (wp_seq (wp_plain _ [2, 0, 0, 0, 0, 3, 0] rfl (q_loadA (p := (.pointer (some ⟨w.heap.size, 0, none⟩))) (.inr rfl) [vp] agg26 rfl (fun wq9 hw9 => LD.of_box (BX.ext (w := w1) hB1 hw9)) rfl zN (lw_tv 4 rfl (lw_call 69 [] [] [(.agg #[vp]), (.int .i64 f), (.int .i64 pick), va, va] rfl rfl cf69 zN (c_impl_isPicked _ dp vp (p) _ _ _ _ _ _ (hp.ext (good_rdS (good_rFn dp)) hE1) _hf _hpick (ha.ext g1 hE1) (ha.ext g1 hE1) (by exact hli) (by exact hz) oM) ?_)))))
  rintro e2 w2 ⟨rfl, hX2⟩
  refine ⟨_, rfl, hX2, ?_⟩
  have hzs2 : w1.heap.size ≤ w2.heap.size := hX2.size
  have hE2 : Ext w w2 := hE1.trans hX2
  have hB1x2 := hB1.ext hX2
  refine lw_tvn 1 rfl (wp_seq (wp_seq (wp_plain _ [0, 0, 0, 0, 0, 0, 0] rfl (lw_tv 1 rfl (q_eql true rfl rfl sM zN (lw_tv 2 rfl (q_len (v := vs) u27 rfl hps.isSl (zS (e := 31) rfl rfl rfl) ?_)))))))
  have hc3 : ¬ (((4 : Nat) : Int) < ((ps.length : Nat) : Int)) := oM
  refine q_gtr false rfl rfl (decide_eq_false hc3) (zS (e := 31) rfl rfl rfl) (lw_tvn 1 rfl (c_cond_f rfl (wp_skip (wp_seq (wp_seq (wp_plain _ [0, 0] rfl (lw_tv 1 rfl (q_neq false rfl rfl sM zN (lw_nil (c_cond_f rfl (wp_skip (wp_seq (wp_seq (wp_plain _ [0, 0, 0] rfl (lw_tv 1 rfl (q_len (v := vs) u27 rfl hps.isSl zN (lw_tvn 1 rfl (wp_block ?_))))))))))))))))))
  refine c_loop (S := Nat) (fun (j : Nat) => ([(41, (.int .i64 ((j : Nat) : Int))), (1, (.int .i64 f)), (2, (.int .i64 pick)), (3, va), (4, vs), (5, (.pointer (some ⟨w.heap.size, 0, none⟩))), (39, vs), (40, (.int .i64 ((ps.length : Nat) : Int)))] : List (Nat × Value))) (fun (j : Nat) (W : World) => Ext w W ∧ BX W.heap w.heap.size [vp] ∧ j ≤ ps.length) (fun (j : Nat) => ps.length - j) 0 ⟨rfl, rfl, rfl, rfl, rfl, rfl, rfl, rfl, trivial⟩ ⟨hE2, hB1x2, oM⟩ ?_
  clear hE0 hz1 hX1 hzs1 hE1 hX2 hzs2 hE2
  rintro j ρ4 w4 ⟨hE4, hL4_0, hp4_0⟩
  have hzs4 : w.heap.size ≤ w4.heap.size := hE4.size
  have hq5 := hL4_0.lt
  refine wp_seq (wp_plain _ [0] rfl ?_)
  by_cases hc6 : ((j : Nat) : Int) < ((ps.length : Nat) : Int)
  ·
    refine q_lss true rfl rfl (decide_eq_true hc6) zN (lw_nil (wp_seq (c_cond_t rfl (wp_skip (wp_seq (wp_block (wp_seq (wp_plain _ [0, 2, 0] rfl (q_idx (v := vs) j u27 ti2 rfl rfl hps.isSl rfl sD zN ?_)))))))))
    refine q_load (p := eptr vs j 1) (.inr rfl) (.int .i64 (ps.getD j 0)) one2 rfl (ldH_ext hE4 (hps.getI sD).1) zN (lw_tvn 1 rfl (wp_seq (wp_plain _ [0, 0, 2, 0, 0, 0, 2, 0, 0, 0] rfl (lw_tv 1 rfl (q_fldP (p := (.pointer (some ⟨w.heap.size, 0, none⟩))) (b := w.heap.size) (o := 0) 0 fd26_0 rfl rfl zN (q_load (p := (padd (.pointer (some ⟨w.heap.size, 0, none⟩)) 0)) (.inr rfl) vp one24 rfl (hL4_0.ldp (i := 0) sM) zN (lw_tv 1 rfl ?_)))))))
    refine q_idx (v := vp) ((f).toNat) u24 tiS55 rfl rfl hp.isSl oM sD zN ?_
    obtain ⟨cs7, hr7, hl7⟩ := hp.get (good_rFn dp) Fn.zero (k := ((f).toNat)) sD
    obtain ⟨ve7, rfl, hx7⟩ := RF.of hr7
    have hln7 := hx7.rn.lenle
    unfold maxLen at hln7
    refine q_fldL (p := eptr vp ((f).toNat) 3) 1 fd55_1 rfl (hl7 _ (Chg.of_ext [] hE4)) zN (q_load (p := (padd (eptr vp ((f).toNat) 3) 1)) (.inr rfl) (.int .i64 ((p.getD ((f).toNat) Fn.zero).params)) one2 rfl ((hl7 _ (Chg.of_ext [] hE4)).ld (i := 1) (by simp [exC, fnC])) zN ?_)
    have hpj := hpz j oM
    refine q_sub (((p.getD ((f).toNat) Fn.zero).params) - ((1 : Nat) : Int)) rfl rfl (w64 sD sD) zN ?_
    refine lw_callq 72 [] [] [(.int .i64 (ps.getD j 0)), (.int .i64 ((0 : Nat) : Int)), (.int .i64 (((p.getD ((f).toNat) Fn.zero).params) - ((1 : Nat) : Int)))] rfl rfl cf72 zN (.bool (decide (((0 : Nat) : Int) ≤ (ps.getD j 0)) && decide ((ps.getD j 0) ≤ (((p.getD ((f).toNat) Fn.zero).params) - ((1 : Nat) : Int))))) (fun wq => c_impl_within wq _ _ _ (hps.getI sD).2 oM oM) ?_
    rw [show (decide (((0 : Nat) : Int) ≤ (ps.getD j 0)) && decide ((ps.getD j 0) ≤ (((p.getD ((f).toNat) Fn.zero).params) - ((1 : Nat) : Int)))) = true from (by rw [decide_eq_true oM, decide_eq_true oM]; rfl)]
    exact q_not false rfl rfl zN (lw_nil (c_cond_f rfl (wp_skip (wp_plain _ [0, 0] rfl (q_add ((j + 1 : Nat) : Int) rfl rfl (w64n oM oM) zN (lw_tvn 1 rfl ⟨(j + 1), _, rfl, ⟨rfl, rfl, rfl, rfl, rfl, rfl, rfl, rfl, trivial⟩, ⟨hE4, hL4_0, oM⟩, by first | omega | (dsimp only; omega)⟩))))))
  ·
    refine q_lss false rfl rfl (decide_eq_false hc6) zN (lw_nil (wp_seq (c_cond_f rfl (wp_exit (t_exit (t_exit (c_exit_here (wp_seq (wp_plain _ [0, 0, 0, 0] rfl (lw_tv 1 rfl (q_len (v := vs) u27 rfl hps.isSl zN (lw_tvn 2 rfl (wp_seq (wp_seq (wp_plain _ [0, 0, 0] rfl (lw_tv 1 rfl (q_shl (((2 ^ ps.length : Nat) : Int)) rfl rfl oM hsh.1 zN (lw_tvn 1 rfl (wp_block ?_)))))))))))))))))))
    refine c_loop (S := Nat × Int) (fun (⟨q, sm9⟩ : Nat × Int) => ([(15, (.int .i64 sm9)), (60, (.int .i64 ((q : Nat) : Int))), (1, (.int .i64 f)), (2, (.int .i64 pick)), (3, va), (4, vs), (5, (.pointer (some ⟨w.heap.size, 0, none⟩))), (16, (.int .i64 ((ps.length : Nat) : Int))), (59, (.int .i64 ((2 ^ ps.length : Nat) : Int)))] : List (Nat × Value))) (fun (⟨q, sm9⟩ : Nat × Int) (W : World) => Ext w W ∧ BX W.heap w.heap.size [vp] ∧ q ≤ 2 ^ ps.length ∧ sm9 = mxS p f.toNat pick.toNat a ps q ∧ (q = 0 ∨ nxC p f.toNat a = 0)) (fun (⟨q, sm9⟩ : Nat × Int) => 2 ^ ps.length - q) (0, ((0 : Nat) : Int)) ⟨rfl, rfl, rfl, rfl, rfl, rfl, rfl, rfl, rfl, trivial⟩ ⟨hE4, hL4_0, (by exact Nat.zero_le _), (by rfl), (by exact .inl rfl)⟩ ?_
    clear hL4_0 hE4 hzs4
    rintro ⟨q, sm9⟩ ρ9 w9 ⟨hE9, hL9_0, hp9_0, hsm, hqz⟩
    have hzs9 : w.heap.size ≤ w9.heap.size := hE9.size
    have h1p : 1 ≤ 2 ^ ps.length := Nat.one_le_two_pow
    have hq10 := hL9_0.lt
    refine wp_seq (wp_plain _ [0] rfl ?_)
    have hms := mxS_num p f.toNat pick.toNat a ps q
    by_cases hc11 : ((q : Nat) : Int) < ((2 ^ ps.length : Nat) : Int)
    ·
      refine q_lss true rfl rfl (decide_eq_true hc11) zN (lw_nil (wp_seq (c_cond_t rfl (wp_skip (wp_seq (wp_block (wp_seq (wp_plain _ [0, 0] rfl (lw_tvn 2 rfl (wp_seq (wp_plain _ [3, 0] rfl (r_nil (rI) good_rI u27 ti2 zN fun v12 w12 hX12 hz12 hO12 => ?_))))))))))))
      have hzs12 : w9.heap.size ≤ w12.heap.size := hX12.size
      have hE12 : Ext w w12 := hE9.trans hX12
      have hL9_0x12 := hL9_0.ext hX12
      refine lw_tvn 1 rfl (wp_seq (wp_seq (wp_plain _ [0, 0, 0] rfl (lw_tv 1 rfl (q_len (v := vs) u27 rfl hps.isSl zN (lw_tvn 1 rfl (wp_block ?_)))))))
      refine c_loop (S := Nat × Value) (fun (⟨i, vc⟩ : Nat × Value) => ([(18, vc), (66, (.int .i64 ((i : Nat) : Int))), (1, (.int .i64 f)), (2, (.int .i64 pick)), (3, va), (4, vs), (5, (.pointer (some ⟨w.heap.size, 0, none⟩))), (15, (.int .i64 sm9)), (16, (.int .i64 ((ps.length : Nat) : Int))), (17, (.int .i64 ((q : Nat) : Int))), (59, (.int .i64 ((2 ^ ps.length : Nat) : Int))), (60, (.int .i64 ((q : Nat) : Int))), (64, vs), (65, (.int .i64 ((ps.length : Nat) : Int)))] : List (Nat × Value))) (fun (⟨i, vc⟩ : Nat × Value) (W : World) => Ext w W ∧ Fr (owL rI 2) w9.heap.size W.heap.size W.heap vc (chG ps q i) ∧ BX W.heap w.heap.size [vp] ∧ i ≤ ps.length ∧ w.heap.size < w9.heap.size ∧ w9.heap.size ≤ W.heap.size) (fun (⟨i, vc⟩ : Nat × Value) => ps.length - i) (0, v12) ⟨rfl, rfl, rfl, rfl, rfl, rfl, rfl, rfl, rfl, rfl, rfl, rfl, rfl, rfl, trivial⟩ ⟨hE12, hO12.up o1, hL9_0x12, oM, oM, oM⟩ ?_
      clear hL9_0 hO12 hz12 hX12 hzs12 hE12 hL9_0x12
      rintro ⟨i, vc⟩ ρ14 w14 ⟨hE14, hL14_0, hL14_1, hp14_0, hkg13, hkB15⟩
      have hzs14 : w.heap.size ≤ w14.heap.size := hE14.size
      have hcg := chG_len ps q i
      have hq16 := hL14_1.lt
      refine wp_seq (wp_plain _ [0] rfl ?_)
      by_cases hc17 : ((i : Nat) : Int) < ((ps.length : Nat) : Int)
      ·
        refine q_lss true rfl rfl (decide_eq_true hc17) zN (lw_nil (wp_seq (c_cond_t rfl (wp_skip (wp_seq (wp_block (wp_seq (wp_plain _ [0, 0, 2, 0, 0] rfl (lw_tv 1 rfl (q_idx (v := vs) i u27 ti2 rfl rfl hps.isSl rfl sD zN ?_))))))))))
        refine q_load (p := eptr vs i 1) (.inr rfl) (.int .i64 (ps.getD i 0)) one2 rfl (ldH_ext hE14 (hps.getI sD).1) zN (lw_tvn 2 rfl (wp_seq (wp_plain _ [0, 0, 0, 0, 0] rfl (lw_tv 2 rfl (q_shr ((((q : Nat) : Int)).fdiv (2 ^ (min (((i : Nat) : Int) : Int).toNat (IntKind.i64).bits))) rfl rfl oM rfl zN (q_and rfl rfl zN ?_))))))
        by_cases hc18 : andV .i64 ((((q : Nat) : Int)).fdiv (2 ^ (min (((i : Nat) : Int) : Int).toNat (IntKind.i64).bits))) ((1 : Nat) : Int) = ((1 : Nat) : Int)
        ·
          have hbt := hc18
          refine q_eql true rfl rfl (decide_eq_true hc18) zN (lw_nil (c_cond_t rfl (wp_plain _ [0, 0, 3, 4, 0] rfl (lw_tv 2 rfl (r_one (u := (.int .i64 (ps.getD i 0))) (B := w14.heap.size) good_rI u27 ti2 rfl rfl (frI w14.heap.size w14.heap.size _ _ (hps.getI sD).2) (Nat.le_refl _) zN fun v19 w19 hX19 hz19 hO19 => ?_)))))
          have hzs19 : w14.heap.size ≤ w19.heap.size := hX19.size
          have hE19 : Ext w w19 := hE14.trans hX19
          have hL14_0x19 := hL14_0.ext (o1) hX19
          have hL14_1x19 := hL14_1.ext hX19
          refine e_appI (v := vc) (a := v19) u27 ti2 rfl rfl rfl hL14_0x19 oM hO19.rd1 sD (by unfold maxLen; first | omega | assumption | (simp only [List.length_nil, List.length_cons, List.length_append, List.length_set, List.length_replicate]; omega) | (simp [List.length_nil, List.length_cons, List.length_append, List.length_set, List.length_replicate]; done) | (simp [List.length_nil, List.length_cons, List.length_append, List.length_set, List.length_replicate]; omega)) zN fun v20 w20 F20 hC20 hF20 hO20 => ?_
          have hE20 : Ext w w20 := hC20.below hE19 (fun c hc => Nat.le_trans hE9.size (hF20 c hc).1) hE19.size
          have hzs20 : w19.heap.size ≤ w20.heap.size := hC20.size
          have hF21 := hL14_1x19.chg hC20 (fun hm => by have := hF20 _ hm; omega)
          have hF22 := hO19.chg (o1) hC20 (fun c hc => by have := hF20 c hc; omega)
          exact lw_tvn 1 rfl (wp_plain _ [0, 0] rfl (q_add ((i + 1 : Nat) : Int) rfl rfl (w64n oM oM) zN (lw_tvn 1 rfl ⟨((i + 1), v20), _, rfl, ⟨rfl, rfl, rfl, rfl, rfl, rfl, rfl, rfl, rfl, rfl, rfl, rfl, rfl, rfl, trivial⟩, ⟨hE20, (by first | (rw [chG_t hbt]; exact hO20.up o1) | (rw [chG_f hbt]; exact hO20.up o1)), hF21, oM, oM, oM⟩, by first | omega | (dsimp only; omega)⟩)))
        ·
          have hbt := hc18
          exact q_eql false rfl rfl (decide_eq_false hc18) zN (lw_nil (c_cond_f rfl (wp_skip (wp_plain _ [0, 0] rfl (q_add ((i + 1 : Nat) : Int) rfl rfl (w64n oM oM) zN (lw_tvn 1 rfl ⟨((i + 1), vc), _, rfl, ⟨rfl, rfl, rfl, rfl, rfl, rfl, rfl, rfl, rfl, rfl, rfl, rfl, rfl, rfl, trivial⟩, ⟨hE14, (by first | (rw [chG_t hbt]; exact hL14_0.up o1) | (rw [chG_f hbt]; exact hL14_0.up o1)), hL14_1, oM, oM, oM⟩, by first | omega | (dsimp only; omega)⟩))))))
      ·
        refine q_lss false rfl rfl (decide_eq_false hc17) zN (lw_nil (wp_seq (c_cond_f rfl (wp_exit (t_exit (t_exit (c_exit_here (wp_seq (wp_draw _ [1, 0, 0, 0, 0, 0, 0, 3, 0, 3, 0, 0, 0, 0, 0] mixed (by kernel_rfl) ?_)))))))))
        have hch := hL14_0
        rw [show i = ps.length by omega] at hch
        refine q_loadA (p := (.pointer (some ⟨w.heap.size, 0, none⟩))) (.inl rfl) [vp] agg26 rfl (fun wq9 hw9 => LD.of_box (BX.ext (w := w14.drew) hL14_1 hw9)) rfl zN (lw_tv 4 rfl (q_len (v := va) u27 rfl ha.isSl zN (lw_tv 1 rfl (lw_call 77 [] [] [(.int .i64 ((a.length : Nat) : Int)), vc] rfl rfl cf77 zN (c_unitG _ (a.length) _ _ sD hch.rd1 oM (by exact chG_rng hpz _ (Nat.le_refl _))) ?_))))
        rintro e23 w23 ⟨v23_0, rfl, hX23, hO23_0⟩
        refine ⟨_, rfl, hX23, ?_⟩
        replace hX23 := hX23.of_drew
        have hzs23 : w14.heap.size ≤ w23.heap.size := hX23.size
        have hE23 : Ext w w23 := hE14.trans hX23
        have hchx23 := hch.ext (o1) hX23
        have hL14_1x23 := hL14_1.ext hX23
        replace hO23_0 := hO23_0.low (B' := w14.heap.size) (Nat.le_refl _)
        refine lw_tv 1 rfl (lw_call 73 [] [] [(.agg #[vp]), (.int .i64 f), (.int .i64 pick), va, v23_0, (.int .i64 ((ps.length : Nat) : Int))] rfl rfl cf73 zN (c_impl_Program_coefficient _ dp vp (p) _ _ _ _ _ _ (ps.length) (hp.ext (good_rdS (good_rFn dp)) hE23) _hf _hpick (ha.ext g1 hE23) hO23_0.rd1 (by exact hvp) oM oM (by exact uniG_len _ _ _) (by exact hna) (by exact uniG_num _ _ _) oM oM) ?_)
        rintro e24 w24 ⟨rfl, hX24, hP24_0, hP24_1⟩
        refine ⟨_, rfl, hX24, ?_⟩
        have hzs24 : w23.heap.size ≤ w24.heap.size := hX24.size
        have hE24 : Ext w w24 := hE23.trans hX24
        have hchx24 := hchx23.ext (o1) hX24
        have hL14_1x24 := hL14_1x23.ext hX24
        have hO23_0x24 := hO23_0.ext (o1) hX24
        refine lw_tv 1 rfl (q_extract (vs := [(.int .i64 (cfR p f.toNat pick.toNat a (uniG a.length (chG ps q ps.length) (chG ps q ps.length).length) ps.length)), (.int .i64 (nxC p f.toNat a))]) (.int .i64 (cfR p f.toNat pick.toNat a (uniG a.length (chG ps q ps.length) (chG ps q ps.length).length) ps.length)) rfl rfl zN (q_extract (vs := [(.int .i64 (cfR p f.toNat pick.toNat a (uniG a.length (chG ps q ps.length) (chG ps q ps.length).length) ps.length)), (.int .i64 (nxC p f.toNat a))]) (.int .i64 (nxC p f.toNat a)) rfl rfl zN (lw_tvn 2 rfl (wp_seq (wp_seq (wp_plain _ [0, 0] rfl (lw_tv 1 rfl ?_)))))))
        have hn9 := ‹(0 ≤ nxC p f.toNat a ∧ nxC p f.toNat a ≤ 9)›
        have hcl := chG_len ps q ps.length
        have hcm := ‹0 ≤ cfR p f.toNat pick.toNat a (uniG a.length (chG ps q ps.length) (chG ps q ps.length).length) ps.length ∧ cfR p f.toNat pick.toNat a (uniG a.length (chG ps q ps.length) (chG ps q ps.length).length) ps.length < 1000003›
        by_cases hc25 : nxC p f.toNat a ≠ ((0 : Nat) : Int)
        ·
          exact q_neq true rfl rfl (decide_eq_true hc25) zN (lw_nil (c_cond_t rfl (wp_seq (wp_plain _ [0, 0, 0] rfl (lw_tvn 3 rfl (wp_ret (t_ret (b_ret (t_ret (t_ret (b_ret (t_ret (post_ret [10, 11] rfl (.tuple #[(.int .i64 ((0 : Nat) : Int)), (.int .i64 (nxC p f.toNat a))]) rfl ⟨z22_0, hE24, oM⟩)))))))))))))
        ·
          refine q_neq false rfl rfl (decide_eq_false hc25) zN (lw_nil (c_cond_f rfl (wp_skip (wp_seq (wp_seq (wp_plain _ [0, 0, 0, 0, 0, 0] rfl (lw_tv 2 rfl (q_len (v := vc) u27 rfl hchx24.isSl zN ?_))))))))
          refine q_sub (((ps.length : Nat) : Int) - (((chG ps q ps.length).length : Nat) : Int)) rfl rfl (w64 sD sD) zN ?_
          refine q_rem ((((ps.length : Nat) : Int) - (((chG ps q ps.length).length : Nat) : Int)).tmod 2) rfl rfl (by decide) rfl zN ?_
          by_cases hc26 : (((ps.length : Nat) : Int) - (((chG ps q ps.length).length : Nat) : Int)).tmod 2 = ((1 : Nat) : Int)
          ·
            have hsg := hc26
            refine q_eql true rfl rfl (decide_eq_true hc26) zN (lw_nil (c_cond_t rfl (wp_plain _ [0, 0, 0] rfl (lw_tv 1 rfl (lw_callq 78 [] [] [(.int .i64 ((0 : Nat) : Int)), (.int .i64 (cfR p f.toNat pick.toNat a (uniG a.length (chG ps q ps.length) (chG ps q ps.length).length) ps.length))] rfl rfl cf78 zN (.int .i64 (md (((0 : Nat) : Int) - (cfR p f.toNat pick.toNat a (uniG a.length (chG ps q ps.length) (chG ps q ps.length).length) ps.length)))) (fun wq => c_impl_minus wq _ _ oM oM) (lw_tvn 1 rfl (wp_plain _ [0, 0, 0, 0] rfl (lw_tv 2 rfl ?_))))))))
            refine lw_callq 79 [] [] [(.int .i64 sm9), (.int .i64 (md (((0 : Nat) : Int) - (cfR p f.toNat pick.toNat a (uniG a.length (chG ps q ps.length) (chG ps q ps.length).length) ps.length))))] rfl rfl cf79 zN (.int .i64 (md (sm9 + (md (((0 : Nat) : Int) - (cfR p f.toNat pick.toNat a (uniG a.length (chG ps q ps.length) (chG ps q ps.length).length) ps.length)))))) (fun wq => c_impl_Plus wq _ _ oM (md_rng _)) (lw_tvn 1 rfl (wp_plain _ [0, 0] rfl (q_add ((q + 1 : Nat) : Int) rfl rfl (w64n oM oM) zN (lw_tvn 1 rfl ?_))))
            exact ⟨((q + 1), (md (sm9 + (md (((0 : Nat) : Int) - (cfR p f.toNat pick.toNat a (uniG a.length (chG ps q ps.length) (chG ps q ps.length).length) ps.length)))))), _, rfl, ⟨rfl, rfl, rfl, rfl, rfl, rfl, rfl, rfl, rfl, trivial⟩, ⟨hE24, hL14_1x24, oM, (by rw [hsm]; first | exact mxS_t hsg | exact mxS_f hsg), oM⟩, by first | omega | (dsimp only; omega)⟩
          ·
            have hsg := hc26
            refine q_eql false rfl rfl (decide_eq_false hc26) zN (lw_nil (c_cond_f rfl (wp_skip (wp_plain _ [0, 0, 0, 0] rfl (lw_tv 2 rfl (lw_callq 79 [] [] [(.int .i64 sm9), (.int .i64 (cfR p f.toNat pick.toNat a (uniG a.length (chG ps q ps.length) (chG ps q ps.length).length) ps.length))] rfl rfl cf79 zN (.int .i64 (md (sm9 + (cfR p f.toNat pick.toNat a (uniG a.length (chG ps q ps.length) (chG ps q ps.length).length) ps.length)))) (fun wq => c_impl_Plus wq _ _ oM oM) (lw_tvn 1 rfl (wp_plain _ [0, 0] rfl (q_add ((q + 1 : Nat) : Int) rfl rfl (w64n oM oM) zN (lw_tvn 1 rfl ?_))))))))))
            exact ⟨((q + 1), (md (sm9 + (cfR p f.toNat pick.toNat a (uniG a.length (chG ps q ps.length) (chG ps q ps.length).length) ps.length)))), _, rfl, ⟨rfl, rfl, rfl, rfl, rfl, rfl, rfl, rfl, rfl, trivial⟩, ⟨hE24, hL14_1x24, oM, (by rw [hsm]; first | exact mxS_t hsg | exact mxS_f hsg), oM⟩, by first | omega | (dsimp only; omega)⟩
    ·
      exact q_lss false rfl rfl (decide_eq_false hc11) zN (lw_nil (wp_seq (c_cond_f rfl (wp_exit (t_exit (t_exit (c_exit_here (wp_seq (wp_plain _ [0, 0, 0] rfl (lw_tvn 3 rfl (wp_ret (post_ret [10, 11] rfl (.tuple #[(.int .i64 sm9), (.int .i64 ((0 : Nat) : Int))]) rfl ⟨z22_0, hE9, oM⟩))))))))))))
end Go.Proofs.YtnokbaiemimhjaaGreat
namespace Go.Proofs.YtnokbaiemimhjaaGreat
open Go Go.RowKit
set_option linter.unusedVariables false
set_option linter.unusedSimpArgs false
set_option maxHeartbeats 4000000
set_option maxRecDepth 100000
attribute [local irreducible] LW
theorem c_laws_a2Dot (w : World) (va : Value) (a : List Int) (vb : Value) (b : List Int) (ha : Rd (rdL rI) w.heap va a) (hb : Rd (rdL rI) w.heap vb b) (hl : b.length = a.length) :
    Calls Tryz.prog 18 #[va, vb] w (fun e w' => e = .returned (.int .i64 (dotG a b a.length)) ∧ Ext w w') := by
  refine calls_mk [va, vb] 31 Tryz.func18 rfl rfl sM ?_
  have hE0 : Ext w w := Ext.refl w
  have hl_va := ha.lenle
  have hl_vb := hb.lenle
  refine wp_seq (wp_plain _ [0] rfl (lw_tvn 1 rfl (wp_seq (wp_plain _ [0] rfl (lw_tvn 1 rfl (wp_seq (wp_seq (wp_plain _ [0] rfl (lw_tvn 1 rfl (wp_block ?_))))))))))
  refine c_loop (S := Nat × Int) (fun (⟨k, s⟩ : Nat × Int) => ([(5, (.int .i64 s)), (6, (.int .i64 ((k : Nat) : Int))), (0, va), (1, vb)] : List (Nat × Value))) (fun (⟨k, s⟩ : Nat × Int) (W : World) => Ext w W ∧ k ≤ a.length ∧ s = dotG a b k ∧ (0 ≤ s ∧ s < 1000003)) (fun (⟨k, s⟩ : Nat × Int) => a.length - k) (0, ((0 : Nat) : Int)) ⟨rfl, rfl, rfl, rfl, trivial⟩ ⟨hE0, sD, (by rfl), oM⟩ ?_
  clear hE0
  rintro ⟨k, s⟩ ρ1 w1 ⟨hE1, hp1_0, hs, hsr9⟩
  have hzs1 : w.heap.size ≤ w1.heap.size := hE1.size
  refine wp_seq (wp_seq (wp_plain _ [0, 0, 0, 0, 0, 0, 0, 0, 0, 0] rfl (lw_tv 2 rfl (q_len (v := va) u27 rfl ha.isSl zN ?_))))
  by_cases hc2 : ((k : Nat) : Int) < ((a.length : Nat) : Int)
  ·
    refine q_lss true rfl rfl (decide_eq_true hc2) zN (lw_tv 3 rfl (q_len (v := vb) u27 rfl hb.isSl (zS (e := 11) rfl rfl rfl) ?_))
    by_cases hc3 : ((k : Nat) : Int) < ((b.length : Nat) : Int)
    ·
      refine q_lss true rfl rfl (decide_eq_true hc3) (zS (e := 11) rfl rfl rfl) (lw_tvn 1 rfl (c_cond_t rfl (wp_skip (wp_seq (wp_block (wp_draw _ [0, 0, 0, 0, 1, 0, 0, 0, 1, 0, 0, 0] mixed (by kernel_rfl) (lw_tv 3 rfl (q_idx (v := va) k u27 ti2 rfl rfl ha.isSl rfl sD zN ?_))))))))
      refine q_load (p := eptr va k 1) (.inl rfl) (.int .i64 (a.getD k 0)) one2 rfl (ldH_ext hE1.drew (ha.getI sD).1) zN (lw_tv 2 rfl ?_)
      refine q_idx (v := vb) k u27 ti2 rfl rfl hb.isSl rfl sD zN ?_
      refine q_load (p := eptr vb k 1) (.inl rfl) (.int .i64 (b.getD k 0)) one2 rfl (ldH_ext hE1.drew (hb.getI sD).1) zN ?_
      refine lw_callq 76 [] [] [(.int .i64 (a.getD k 0)), (.int .i64 (b.getD k 0))] rfl rfl cf76 zN (.int .i64 (md ((a.getD k 0) * (b.getD k 0)))) (fun wq => c_spec_Times wq _ _ (ha.getI sD).2 (hb.getI sD).2) ?_
      refine lw_callq 75 [] [] [(.int .i64 s), (.int .i64 (md ((a.getD k 0) * (b.getD k 0))))] rfl rfl cf75 zN (.int .i64 (md (s + (md ((a.getD k 0) * (b.getD k 0)))))) (fun wq => c_spec_Plus wq _ _ oM (md_rng _)) (lw_tvn 1 rfl (wp_plain _ [0, 0, 0] rfl (lw_tv 1 rfl (q_add ((k + 1 : Nat) : Int) rfl rfl (w64n oM sD) zN (lw_tvn 1 rfl ?_)))))
      exact ⟨((k + 1), (md (s + (md ((a.getD k 0) * (b.getD k 0)))))), _, rfl, ⟨rfl, rfl, rfl, rfl, trivial⟩, ⟨hE1.drew, sD, (by rw [hs]; exact dotG_step a b k), (by exact md_num _)⟩, by first | omega | (dsimp only; omega)⟩
    ·
      exact q_lss false rfl rfl (decide_eq_false hc3) (zS (e := 11) rfl rfl rfl) (lw_tvn 1 rfl (c_cond_f rfl (wp_exit (t_exit (t_exit (c_exit_here (wp_seq (wp_plain _ [0, 0] rfl (lw_tvn 2 rfl (wp_ret (post_ret [4] rfl (.int .i64 s) rfl ⟨(ret_int (by rw [hs, show k = a.length by omega])), hE1⟩)))))))))))
  ·
    exact q_lss false rfl rfl (decide_eq_false hc2) zN (lw_tvn 6 rfl (c_cond_f rfl (wp_exit (t_exit (t_exit (c_exit_here (wp_seq (wp_plain _ [0, 0] rfl (lw_tvn 2 rfl (wp_ret (post_ret [4] rfl (.int .i64 s) rfl ⟨(ret_int (by rw [hs, show k = a.length by omega])), hE1⟩)))))))))))
theorem li_ok {p : List Fn} {f : Int} {a d : Sr} (h : okP p = true) (hf : 0 ≤ f ∧ f < ((p.length : Nat) : Int)) (hl : ((a.length : Nat) : Int) = (p.getD f.toNat Fn.zero).params) (hn : allN a = true) (hl2 : ((d.length : Nat) : Int) = (p.getD f.toNat Fn.zero).params) (hn2 : allN d = true) : liC p f a d = 0 := by
  unfold liC isF
  rw [if_pos h, if_pos (by omega), hn, hn2, decide_eq_true hl, decide_eq_true hl2]; rfl
theorem dots_sm (a b : List Int) : ∀ k, dots a b k = md (sm k fun j => a.getD j 0 * b.getD j 0)
  | 0 => rfl
  | k + 1 => by
    show md (dots a b k + _) = md (_ + _)
    rw [dots_sm a b k, md_addl]
theorem dotM_G (a b : List Int) : dotM a b = dotG a b a.length := dots_sm a b _
section
variable {p : List Fn} {f pk : Nat} {a d : List Int}
theorem hes_row {i : Nat} (hi : i < a.length) : dotG ((heT p f pk a a.length).getD i []) d ((heT p f pk a a.length).getD i []).length = ((heT p f pk a a.length).map (fun r : List Int => dotM r d)).getD i 0 := by
  rw [map_getD (d := []) (by rw [heT_len]; exact hi), dotM_G]
theorem heP_at {i k : Nat} (hk : k < a.length) : (heP p f pk a i a.length).getD k 0 = heV p f pk a i k := tab_get 0 hk
theorem hes_at {i k : Nat} (hi : i < a.length) (hk : k < a.length) : ((heT p f pk a a.length).getD i []).getD k 0 = heV p f pk a i k := by rw [heT_at hi, heP_at hk]
theorem hes_col (h : HesL p f pk a d) {i : Nat} (hi : i < a.length) : (heT p f pk a a.length).getD i [] = (heT p f pk a a.length).map fun r => r.getD i 0 := by
  refine ext0 (by rw [heT_at hi, heP_len, List.length_map, heT_len]) fun k hk => ?_
  rw [heT_at hi, heP_len] at hk
  rw [map_getD (d := []) (by rw [heT_len]; exact hk), hes_at hi hk, hes_at hk hi]
  exact h.sym i k hi hk
theorem hes_along (h : HesL p f pk a d) : dotG ((heT p f pk a a.length).map (fun r : List Int => dotM r d)) d ((heT p f pk a a.length).map (fun r : List Int => dotM r d)).length = md (cfR p f pk a d 2 * facL (2 - 1)) := by
  rw [List.length_map, heT_len, show facL (2 - 1) = 2 from by decide, Int.mul_comm, ← h.along]
  unfold dotG
  refine congrArg md (sm_congr fun i hi => ?_)
  rw [map_getD (d := []) (by rw [heT_len]; exact hi), dotM_G, heT_at hi, heP_len]
  unfold dotG
  congr 2
  exact sm_congr fun k hk => by rw [heP_at hk]
theorem hes_mix (h : HesL p f pk a d) {x y : Int} (hx : 0 ≤ x ∧ x < ((a.length : Nat) : Int)) (hy : 0 ≤ y ∧ y < ((a.length : Nat) : Int)) : mxS p f pk a [x, y] 4 = ((heT p f pk a a.length).getD x.toNat []).getD y.toNat 0 := by
  rw [hes_at (by omega) (by omega), ← h.mix x.toNat y.toNat (by omega) (by omega), Int.toNat_of_nonneg hx.1, Int.toNat_of_nonneg hy.1]
end
theorem c_wide_g (w : World) (va : Value) (a : List (List Int)) (n m : Int) (ha : Rd (rdL (rdL rI)) w.heap va a) (_hn : -9223372036854775808 ≤ n ∧ n ≤ 9223372036854775807) (_hm : -9223372036854775808 ≤ m ∧ m ≤ 9223372036854775807)
    (hl : ((a.length : Nat) : Int) = n) (hr : ∀ k, k < a.length → (((a.getD k []).length : Nat) : Int) = m) : Calls Tryz.prog 17 #[va, .int .i64 n, .int .i64 m] w (fun e w' => e = .returned (.bool true) ∧ Ext w w') := by
  have h := c_laws_a2Wide w va a n m ha _hn _hm
  have hq : (decide (((a.length : Nat) : Int) = n) && a.all (fun r => decide (((r.length : Nat) : Int) = m))) = true := by
    rw [decide_eq_true hl, Bool.true_and, List.all_eq_true]
    intro r hr'
    obtain ⟨j, hj, rfl⟩ := List.mem_iff_getElem.1 hr'
    have h9 := hr j hj
    rw [gd_at hj] at h9
    exact decide_eq_true h9
  rw [hq] at h; exact h
theorem z3_0 {p : Prop} (h : p := by first | rfl | exact ret_bool (decide_eq_true (by rw [if_pos h0n, if_pos h0n]; exact mixed_turn ⟨hr0.1, hr0.2 oM⟩ ⟨hr1.1, hr1.2 oM⟩ ⟨hr2.1, hr2.2 oM⟩))) : p := h
theorem z3_1 {p : Prop} (h : p := by rw [List.length_map, heT_len]; omega) : p := h
theorem z3_2 {p : Prop} (h : p := by rw [heT_len]; omega) : p := h
theorem z3_3 {p : Prop} (h : p := by exact hCD.dr.szp) : p := h
theorem c_laws_FnHessian (w : World) (vc : Value) (cs : List UInt8) (vd : Value) (ds : List UInt8) (hcs : Rd (rdL rU) w.heap vc cs) (hds : Rd (rdL rU) w.heap vd ds)  :
    Calls Tryz.prog 3 #[vc, vd] w (fun e w' => e = .returned (.bool true) ∧ Ext w w') := by
  refine calls_mk [vc, vd] 207 Tryz.func3 rfl rfl sM ?_
  have hE0 : Ext w w := Ext.refl w
  have hl_vc := hcs.lenle
  have hl_vd := hds.lenle
  refine wp_seq (wp_plain _ [0] rfl (lw_tvn 1 rfl (wp_seq (wp_seq (wp_plain _ [0, 0, 3] rfl (lw_tv 2 rfl (lw_call 11 [] [] [vc, vd] rfl rfl cf11 zN (c_laws_a2Long _ _ _ _ _ (hcs.ext good_u hE0) (hds.ext good_u hE0)) ?_)))))))
  rintro e1 w1 ⟨rfl, hX1⟩
  refine ⟨_, rfl, hX1, ?_⟩
  have hzs1 : w.heap.size ≤ w1.heap.size := hX1.size
  have hE1 : Ext w w1 := hE0.trans hX1
  refine lw_nil ?_
  cases hb2 : (decide (((3000 : Nat) : Int) < ((cs.length : Nat) : Int)) || decide (((3000 : Nat) : Int) < ((ds.length : Nat) : Int)))
  ·
    refine c_cond_f (by first | rfl | (show Value.bool _ = _; rw [hb2])) (wp_skip (wp_seq (wp_plain _ [0, 3, 0, 0, 0, 0, 0, 0, 3, 4, 0, 0, 0, 0] rfl (lw_tv 1 rfl (lw_call 12 [] [] [vc] rfl rfl cf12 zN (c_spec_A2Call _ vc _ (hcs.ext good_u hE1)) ?_)))))
    rintro e3 w3 ⟨vD, vaD, vbD, pD, fD, kD, aD, bD, rfl, hX3, hOD, haD, hbD, hCD⟩
    refine ⟨_, rfl, hX3, ?_⟩
    have hzs3 : w1.heap.size ≤ w3.heap.size := hX3.size
    have hE3 : Ext w w3 := hE1.trans hX3
    have hfe := hCD.fe
    have hlc := hCD.len
    have hpa := hCD.dr.par fD.toNat oM
    have hou := hCD.dr.outs fD.toNat oM
    have hla := hCD.la
    have hlb := hCD.lb
    have hpk := hCD.pk
    have hft : ((fD.toNat : Nat) : Int) = fD := by omega
    have hvp := okP_vpr hCD.dr.ok
    have har0 := ar_ok hCD.dr.ok oM hla.1 hla.2
    have hli0 := li_ok (d := aD) hCD.dr.ok oM hla.1 hla.2 hla.1 hla.2
    have hliD := li_ok (d := bD) hCD.dr.ok oM hla.1 hla.2 hlb.1 hlb.2
    have hex := euC_0 har0
    refine lw_tv 1 rfl (q_extract (vs := [(.agg #[vD]), (.int .i64 fD), (.int .i64 kD), vaD, vbD]) (.agg #[vD]) rfl rfl zN (q_extract (vs := [(.agg #[vD]), (.int .i64 fD), (.int .i64 kD), vaD, vbD]) (.int .i64 fD) rfl rfl zN (q_extract (vs := [(.agg #[vD]), (.int .i64 fD), (.int .i64 kD), vaD, vbD]) (.int .i64 kD) rfl rfl zN (q_extract (vs := [(.agg #[vD]), (.int .i64 fD), (.int .i64 kD), vaD, vbD]) vaD rfl rfl zN (q_extract (vs := [(.agg #[vD]), (.int .i64 fD), (.int .i64 kD), vaD, vbD]) vbD rfl rfl zN (r_allocA (z := .agg #[.slice none 0 0]) zr26 zN fun w4 hX4 hz4 hB4 => ?_))))))
    have hzs4 : w3.heap.size ≤ w4.heap.size := hX4.size
    have hE4 : Ext w w4 := hE3.trans hX4
    have hODx4 := hOD.ext ((good_owS (good_oFn 174 6))) hX4
    have haDx4 := haD.ext (o1) hX4
    have hbDx4 := hbD.ext (o1) hX4
    replace hB4 : BX w4.heap w3.heap.size [(.slice none 0 0)] := hB4
    refine e_setA (vs := [vD]) agg26 rfl rfl (by intro u hu; simp only [List.mem_cons, List.not_mem_nil, or_false] at hu; rcases hu with rfl <;> first | exact ⟨rfl, rfl⟩ | exact isSl_one hODx4.isSlS) hB4 rfl rfl zN fun w5 hC5 hz5 hB5 => ?_
    replace hB5 : BX w5.heap w3.heap.size [vD] := hB5
    have hzs5 : w4.heap.size ≤ w5.heap.size := hC5.size
    have hE5 : Ext w w5 := hC5.below hE4 (fun c hc => by have := List.mem_singleton.1 hc; omega) hE4.size
    have hF6 := hODx4.chg ((good_owS (good_oFn 174 6))) hC5 (fun c hc => by have := List.mem_singleton.1 hc; omega)
    have hF7 := haDx4.chg (o1) hC5 (fun c hc => by have := List.mem_singleton.1 hc; omega)
    have hF8 := hbDx4.chg (o1) hC5 (fun c hc => by have := List.mem_singleton.1 hc; omega)
    refine lw_tvn 4 rfl (wp_seq (wp_plain _ [0, 0, 0] rfl (lw_tv 1 rfl (q_len (v := vaD) u27 rfl hF7.isSl zN (lw_tvn 1 rfl (wp_seq (wp_plain _ [2, 0, 0, 3, 0, 0, 0, 0, 0, 0, 0] rfl (q_loadA (p := (.pointer (some ⟨w3.heap.size, 0, none⟩))) (.inr rfl) [vD] agg26 rfl (fun wq9 hw9 => LD.of_box (BX.ext (w := w5) hB5 hw9)) rfl zN (lw_tv 2 rfl (lw_call 13 [] [] [(.agg #[vD]), (.int .i64 fD), vaD] rfl rfl cf13 zN (c_spec_Evaluate _ 6 vD (pD) _ _ _ (RN.of_frF hF6 (fun b hb => by cases hb)) oM hF7.rd1 z3_3) ?_))))))))))
    rintro e9 w9 ⟨v9_0, rfl, hX9, hO9_0⟩
    refine ⟨_, rfl, hX9, ?_⟩
    have hzs9 : w5.heap.size ≤ w9.heap.size := hX9.size
    have hE9 : Ext w w9 := hE5.trans hX9
    have hF6x9 := hF6.ext ((good_owS (good_oFn 174 6))) hX9
    have hF7x9 := hF7.ext (o1) hX9
    have hF8x9 := hF8.ext (o1) hX9
    have hB5x9 := hB5.ext hX9
    refine lw_tv 1 rfl (q_extract (vs := [v9_0, (.int .i64 ((euT pD fD aD : Nat) : Int)), (.int .i64 (euC pD fD aD))]) v9_0 rfl rfl zN (q_extract (vs := [v9_0, (.int .i64 ((euT pD fD aD : Nat) : Int)), (.int .i64 (euC pD fD aD))]) (.int .i64 ((euT pD fD aD : Nat) : Int)) rfl rfl zN (q_extract (vs := [v9_0, (.int .i64 ((euT pD fD aD : Nat) : Int)), (.int .i64 (euC pD fD aD))]) (.int .i64 (euC pD fD aD)) rfl rfl zN (lw_tvn 3 rfl (wp_seq (wp_plain _ [2, 0, 0, 0, 3, 0, 0, 0, 0, 0] rfl (q_loadA (p := (.pointer (some ⟨w3.heap.size, 0, none⟩))) (.inr rfl) [vD] agg26 rfl (fun wq9 hw9 => LD.of_box (BX.ext (w := w9) hB5x9 hw9)) rfl zN (lw_tv 3 rfl ?_))))))))
    refine lw_call 14 [] [] [(.agg #[vD]), (.int .i64 fD), (.int .i64 kD), vaD] rfl rfl cf14 zN (c_impl_HessianOf _ 6 vD (pD) _ _ _ _ (RN.of_frF hF6x9 (fun b hb => by cases hb)) oM oM hF7x9.rd1 (by exact hli0) z3_3 oM) ?_
    rintro e10 w10 ⟨v10_0, rfl, hX10, hO10_0, hP10_0⟩
    refine ⟨_, rfl, hX10, ?_⟩
    have hzs10 : w9.heap.size ≤ w10.heap.size := hX10.size
    have hE10 : Ext w w10 := hE9.trans hX10
    have hF6x10 := hF6x9.ext ((good_owS (good_oFn 174 6))) hX10
    have hF7x10 := hF7x9.ext (o1) hX10
    have hF8x10 := hF8x9.ext (o1) hX10
    have hB5x10 := hB5x9.ext hX10
    have hO9_0x10 := hO9_0.ext (o1) hX10
    refine lw_tv 1 rfl (q_extract (vs := [v10_0, (.int .i64 (nxC pD fD.toNat aD))]) v10_0 rfl rfl zN (q_extract (vs := [v10_0, (.int .i64 (nxC pD fD.toNat aD))]) (.int .i64 (nxC pD fD.toNat aD)) rfl rfl zN (lw_tvn 2 rfl (wp_seq (wp_plain _ [2, 0, 0, 0, 0, 3, 0, 0, 0, 0, 0] rfl (q_loadA (p := (.pointer (some ⟨w3.heap.size, 0, none⟩))) (.inr rfl) [vD] agg26 rfl (fun wq9 hw9 => LD.of_box (BX.ext (w := w10) hB5x10 hw9)) rfl zN (lw_tv 4 rfl (lw_call 15 [] [] [(.agg #[vD]), (.int .i64 fD), (.int .i64 kD), vaD, vbD] rfl rfl cf15 zN (c_impl_HessianTimes _ 6 vD (pD) _ _ _ _ _ _ (RN.of_frF hF6x10 (fun b hb => by cases hb)) oM oM hF7x10.rd1 hF8x10.rd1 (by exact hliD) z3_3 oM) ?_))))))))
    rintro e11 w11 ⟨v11_0, rfl, hX11, hO11_0, hP11_0⟩
    refine ⟨_, rfl, hX11, ?_⟩
    have hzs11 : w10.heap.size ≤ w11.heap.size := hX11.size
    have hE11 : Ext w w11 := hE10.trans hX11
    have hF6x11 := hF6x10.ext ((good_owS (good_oFn 174 6))) hX11
    have hF7x11 := hF7x10.ext (o1) hX11
    have hF8x11 := hF8x10.ext (o1) hX11
    have hB5x11 := hB5x10.ext hX11
    have hO9_0x11 := hO9_0x10.ext (o1) hX11
    have hO10_0x11 := hO10_0.ext (o2) hX11
    refine lw_tv 1 rfl (q_extract (vs := [v11_0, (.int .i64 (nxC pD fD.toNat aD))]) v11_0 rfl rfl zN (q_extract (vs := [v11_0, (.int .i64 (nxC pD fD.toNat aD))]) (.int .i64 (nxC pD fD.toNat aD)) rfl rfl zN (lw_tvn 2 rfl (wp_seq (wp_plain _ [2, 0, 0, 0, 0, 3, 0, 0, 0, 0, 0] rfl (q_loadA (p := (.pointer (some ⟨w3.heap.size, 0, none⟩))) (.inr rfl) [vD] agg26 rfl (fun wq9 hw9 => LD.of_box (BX.ext (w := w11) hB5x11 hw9)) rfl zN (lw_tv 4 rfl (lw_call 16 [] [] [(.agg #[vD]), (.int .i64 fD), (.int .i64 kD), vaD, vbD, (.int .i64 ((2 : Nat) : Int))] rfl rfl cf16 zN (c_impl_HigherDerivative _ 6 vD (pD) _ _ _ _ _ _ (2) (RN.of_frF hF6x11 (fun b hb => by cases hb)) oM oM hF7x11.rd1 hF8x11.rd1 (by exact hliD) z3_3 oM oM) ?_))))))))
    rintro e12 w12 ⟨rfl, hX12, hP12_0⟩
    refine ⟨_, rfl, hX12, ?_⟩
    have hzs12 : w11.heap.size ≤ w12.heap.size := hX12.size
    have hE12 : Ext w w12 := hE11.trans hX12
    have hF6x12 := hF6x11.ext ((good_owS (good_oFn 174 6))) hX12
    have hF7x12 := hF7x11.ext (o1) hX12
    have hF8x12 := hF8x11.ext (o1) hX12
    have hB5x12 := hB5x11.ext hX12
    have hO9_0x12 := hO9_0x11.ext (o1) hX12
    have hO10_0x12 := hO10_0x11.ext (o2) hX12
    have hO11_0x12 := hO11_0.ext (o1) hX12
    refine lw_tv 1 rfl (q_extract (vs := [(.int .i64 (md (cfR pD fD.toNat kD.toNat aD bD 2 * facL (2 - 1)))), (.int .i64 (nxC pD fD.toNat aD))]) (.int .i64 (md (cfR pD fD.toNat kD.toNat aD bD 2 * facL (2 - 1)))) rfl rfl zN (q_extract (vs := [(.int .i64 (md (cfR pD fD.toNat kD.toNat aD bD 2 * facL (2 - 1)))), (.int .i64 (nxC pD fD.toNat aD))]) (.int .i64 (nxC pD fD.toNat aD)) rfl rfl zN (lw_tvn 2 rfl (wp_seq (wp_seq (wp_plain _ [0, 0, 0, 0, 0, 0, 0, 0, 0, 0, 0, 0, 0] rfl (lw_tv 2 rfl ?_)))))))
    have hc13 : ¬ (nxC pD fD.toNat aD ≠ euC pD fD aD) := oM
    refine q_neq false rfl rfl (decide_eq_false hc13) zN (lw_tv 3 rfl ?_)
    have hc14 : ¬ (nxC pD fD.toNat aD ≠ euC pD fD aD) := oM
    refine q_neq false rfl rfl (decide_eq_false hc14) (zS (e := 80) rfl rfl rfl) (lw_tv 4 rfl ?_)
    have hc15 : ¬ (nxC pD fD.toNat aD ≠ euC pD fD aD) := oM
    refine q_neq false rfl rfl (decide_eq_false hc15) (zS (e := 85) rfl rfl rfl) (lw_tvn 1 rfl (c_cond_f rfl (wp_skip (wp_seq (wp_seq (wp_plain _ [0, 0] rfl (lw_tv 1 rfl ?_)))))))
    by_cases hc16 : euC pD fD aD ≠ ((0 : Nat) : Int)
    ·
      exact q_neq true rfl rfl (decide_eq_true hc16) zN (lw_nil (c_cond_t rfl (wp_seq (wp_plain _ [0] rfl (lw_tvn 1 rfl (wp_ret (t_ret (post_ret [4] rfl (.bool true) rfl ⟨z3_0, hE12⟩))))))))
    ·
      refine q_neq false rfl rfl (decide_eq_false hc16) zN (lw_nil (c_cond_f rfl (wp_skip (wp_seq (wp_seq (wp_plain _ [0, 0, 0, 3, 0, 0, 0, 0, 0, 0, 0, 0, 0, 0, 3, 0, 0, 0] rfl ?_))))))
      have h0n : nxC pD fD.toNat aD = 0 := by omega
      have hHL := hes_law (d := bD) ⟨hvp, by omega, hla.1, hla.2, h0n⟩ (show kD.toNat < _ by omega) hlb.2
      have hro := hO10_0x12
      rw [if_pos h0n] at hro
      replace hro : Fr _ _ _ _ _ (heT pD fD.toNat kD.toNat aD aD.length) := hro
      have hti := hO11_0x12
      rw [if_pos h0n] at hti
      replace hti : Fr _ _ _ _ _ ((heT pD fD.toNat kD.toNat aD aD.length).map (fun r : List Int => dotM r bD)) := hti
      refine lw_tv 3 rfl (lw_call 17 [] [] [v10_0, (.int .i64 ((aD.length : Nat) : Int)), (.int .i64 ((aD.length : Nat) : Int))] rfl rfl cf17 zN (c_wide_g _ _ _ _ _ hro.rd2 oM oM (by rw [heT_len]) (by intro k hk; rw [heT_len] at hk; rw [heT_at hk, heP_len])) ?_)
      rintro e17 w17 ⟨rfl, hX17⟩
      refine ⟨_, rfl, hX17, ?_⟩
      have hzs17 : w12.heap.size ≤ w17.heap.size := hX17.size
      have hE17 : Ext w w17 := hE12.trans hX17
      have hF6x17 := hF6x12.ext ((good_owS (good_oFn 174 6))) hX17
      have hF7x17 := hF7x12.ext (o1) hX17
      have hF8x17 := hF8x12.ext (o1) hX17
      have hB5x17 := hB5x12.ext hX17
      have hO9_0x17 := hO9_0x12.ext (o1) hX17
      have hrox17 := hro.ext (o2) hX17
      have htix17 := hti.ext (o1) hX17
      refine q_not false rfl rfl zN (lw_tv 2 rfl (q_len (v := v11_0) u27 rfl htix17.isSl (zS (e := 97) rfl rfl rfl) (lw_tv 1 rfl ?_)))
      have hc18 : ¬ (((((heT pD fD.toNat kD.toNat aD aD.length).map (fun r : List Int => dotM r bD)).length : Nat) : Int) ≠ ((aD.length : Nat) : Int)) := (fun h9 => h9 (by rw [List.length_map, heT_len]))
      refine q_neq false rfl rfl (decide_eq_false hc18) (zS (e := 97) rfl rfl rfl) (lw_tv 4 rfl (lw_call 18 [] [] [v11_0, vbD] rfl rfl cf18 (zS (e := 103) rfl rfl rfl) (c_laws_a2Dot _ _ _ _ _ htix17.rd1 hF8x17.rd1 z3_1) ?_))
      rintro e19 w19 ⟨rfl, hX19⟩
      refine ⟨_, rfl, hX19, ?_⟩
      have hzs19 : w17.heap.size ≤ w19.heap.size := hX19.size
      have hE19 : Ext w w19 := hE17.trans hX19
      have hF6x19 := hF6x17.ext ((good_owS (good_oFn 174 6))) hX19
      have hF7x19 := hF7x17.ext (o1) hX19
      have hF8x19 := hF8x17.ext (o1) hX19
      have hB5x19 := hB5x17.ext hX19
      have hO9_0x19 := hO9_0x17.ext (o1) hX19
      have hrox19 := hrox17.ext (o2) hX19
      have htix19 := htix17.ext (o1) hX19
      refine lw_tv 1 rfl ?_
      have hc20 : ¬ (dotG ((heT pD fD.toNat kD.toNat aD aD.length).map (fun r : List Int => dotM r bD)) bD ((heT pD fD.toNat kD.toNat aD aD.length).map (fun r : List Int => dotM r bD)).length ≠ md (cfR pD fD.toNat kD.toNat aD bD 2 * facL (2 - 1))) := (fun h9 => h9 (hes_along hHL))
      refine q_neq false rfl rfl (decide_eq_false hc20) (zS (e := 103) rfl rfl rfl) (lw_tvn 1 rfl (c_cond_f rfl (wp_skip (wp_seq (wp_seq (wp_plain _ [0] rfl (lw_tvn 1 rfl (wp_block ?_))))))))
      refine c_loop (S := Nat) (fun (i : Nat) => ([(20, (.int .i64 ((i : Nat) : Int))), (1, vd), (5, (.pointer (some ⟨w3.heap.size, 0, none⟩))), (6, (.int .i64 fD)), (7, (.int .i64 kD)), (8, vaD), (9, vbD), (10, (.int .i64 ((aD.length : Nat) : Int))), (14, v10_0), (16, v11_0)] : List (Nat × Value))) (fun (i : Nat) (W : World) => Ext w W ∧ Fr (owS 3 (oFn 174 6) 55) w1.heap.size w3.heap.size W.heap vD pD ∧ Fr (owL rI 2) w1.heap.size w3.heap.size W.heap vaD aD ∧ Fr (owL rI 2) w1.heap.size w3.heap.size W.heap vbD bD ∧ Fr (owL (owL rI 2) 27) w9.heap.size w10.heap.size W.heap v10_0 (heT pD fD.toNat kD.toNat aD aD.length) ∧ Fr (owL rI 2) w10.heap.size w11.heap.size W.heap v11_0 ((heT pD fD.toNat kD.toNat aD aD.length).map (fun r : List Int => dotM r bD)) ∧ BX W.heap w3.heap.size [vD] ∧ i ≤ aD.length ∧ w1.heap.size ≤ W.heap.size) (fun (i : Nat) => aD.length - i) 0 ⟨rfl, rfl, rfl, rfl, rfl, rfl, rfl, rfl, rfl, rfl, trivial⟩ ⟨hE19, hF6x19, hF7x19, hF8x19, hrox19, htix19, hB5x19, oM, oM⟩ ?_
      clear hE0 hX1 hX3 hz4 hX4 hzs4 hE4 hz5 hC5 hzs5 hE5 hF6 hF7 hF8 hO9_0 hX9 hF6x9 hF7x9 hF8x9 hO10_0 hX10 hF6x10 hF7x10 hF8x10 hO9_0x10 hO11_0 hX11 hF6x11 hF7x11 hF8x11 hO9_0x11 hO10_0x11 hX12 hzs12 hE12 hF6x12 hF7x12 hF8x12 hO9_0x12 hO10_0x12 hO11_0x12 hX17 hzs17 hE17 hF6x17 hF7x17 hF8x17 hO9_0x17 hX19 hzs19 hE19 hF6x19 hF7x19 hF8x19 hO9_0x19
      rintro i ρ21 w21 ⟨hE21, hL21_0, hL21_1, hL21_2, hL21_3, hL21_4, hL21_5, hp21_0, hkB22⟩
      have hzs21 : w.heap.size ≤ w21.heap.size := hE21.size
      have hq23 := hL21_5.lt
      refine wp_seq (wp_seq (wp_plain _ [0, 0, 0] rfl (lw_tv 2 rfl ?_)))
      by_cases hc24 : ((i : Nat) : Int) < ((aD.length : Nat) : Int)
      ·
        refine q_lss true rfl rfl (decide_eq_true hc24) zN (lw_nil (c_cond_t rfl (wp_skip (wp_seq (wp_block (wp_seq (wp_draw _ [0, 0, 0, 1, 0, 3, 0, 0, 0, 1, 0, 0, 0, 0, 0, 2, 0, 0, 3, 3, 0, 0] mixed (by kernel_rfl) (lw_tv 2 rfl (q_idx (v := v10_0) i u32 ti27 rfl rfl hL21_3.isSl rfl z3_2 zN ?_)))))))))
        obtain ⟨ue25, hl25, hd25⟩ := hL21_3.rd2.get (k := i) [] z3_2
        have hln25 := hd25.lenle
        refine q_load (p := eptr v10_0 i 1) (.inl rfl) ue25 one27 rfl hl25 zN (lw_tv 1 rfl (lw_call 18 [] [] [ue25, vbD] rfl rfl cf18 zN (c_laws_a2Dot _ _ _ _ _ hd25 hL21_2.rd1 (by rw [heT_at oM, heP_len]; omega)) ?_))
        rintro e26 w26 ⟨rfl, hX26⟩
        refine ⟨_, rfl, hX26, ?_⟩
        replace hX26 := hX26.of_drew
        have hzs26 : w21.heap.size ≤ w26.heap.size := hX26.size
        have hE26 : Ext w w26 := hE21.trans hX26
        have hL21_0x26 := hL21_0.ext ((good_owS (good_oFn 174 6))) hX26
        have hL21_1x26 := hL21_1.ext (o1) hX26
        have hL21_2x26 := hL21_2.ext (o1) hX26
        have hL21_3x26 := hL21_3.ext (o2) hX26
        have hL21_4x26 := hL21_4.ext (o1) hX26
        have hL21_5x26 := hL21_5.ext hX26
        have hd25x26 := hd25.ext g1 hX26
        have hlx27 := ldH_ext hX26 hl25
        refine lw_tv 2 rfl (q_idx (v := v11_0) i u27 ti2 rfl rfl hL21_4x26.isSl rfl z3_1 zN (q_load (p := eptr v11_0 i 1) (.inl rfl) (.int .i64 (((heT pD fD.toNat kD.toNat aD aD.length).map (fun r : List Int => dotM r bD)).getD i 0)) one2 rfl (hL21_4.rd1.getI z3_1).1 zN ?_))
        have hc28 : ¬ (dotG ((heT pD fD.toNat kD.toNat aD aD.length).getD i []) bD ((heT pD fD.toNat kD.toNat aD aD.length).getD i []).length ≠ ((heT pD fD.toNat kD.toNat aD aD.length).map (fun r : List Int => dotM r bD)).getD i 0) := (fun h9 => h9 (hes_row oM))
        refine q_neq false rfl rfl (decide_eq_false hc28) zN (lw_tv 3 rfl (q_idx (v := v10_0) i u32 ti27 rfl rfl hL21_3x26.isSl rfl z3_2 (zS (e := 126) rfl rfl rfl) ?_))
        obtain ⟨ue29, hl29, hd29⟩ := hL21_3x26.rd2.get (k := i) [] z3_2
        have hln29 := hd29.lenle
        refine q_load (p := eptr v10_0 i 1) (.inr rfl) ue29 one27 rfl hl29 (zS (e := 126) rfl rfl rfl) (lw_tv 2 rfl (lw_call 20 [] [] [v10_0, (.int .i64 ((i : Nat) : Int))] rfl rfl cf20 (zS (e := 126) rfl rfl rfl) (c_laws_a2Column _ _ _ (i) hL21_3x26.rd2 sD z3_2 (by intro r hr; rw [heT_len] at hr; rw [heT_at hr, heP_len]; omega)) ?_))
        rintro e30 w30 ⟨v30_0, rfl, hX30, hO30_0⟩
        refine ⟨_, rfl, hX30, ?_⟩
        have hzs30 : w26.heap.size ≤ w30.heap.size := hX30.size
        have hE30 : Ext w w30 := hE26.trans hX30
        have hL21_0x30 := hL21_0x26.ext ((good_owS (good_oFn 174 6))) hX30
        have hL21_1x30 := hL21_1x26.ext (o1) hX30
        have hL21_2x30 := hL21_2x26.ext (o1) hX30
        have hL21_3x30 := hL21_3x26.ext (o2) hX30
        have hL21_4x30 := hL21_4x26.ext (o1) hX30
        have hL21_5x30 := hL21_5x26.ext hX30
        have hd25x30 := hd25x26.ext g1 hX30
        have hlx31 := ldH_ext hX30 hlx27
        have hd29x30 := hd29.ext g1 hX30
        have hlx32 := ldH_ext hX30 hl29
        refine lw_call 19 [] [] [ue29, v30_0] rfl rfl cf19 (zS (e := 126) rfl rfl rfl) (c_laws_a2Same _ _ _ _ _ hd29x30 hO30_0.rd1) ?_
        rintro e33 w33 ⟨rfl, hX33⟩
        refine ⟨_, rfl, hX33, ?_⟩
        have hzs33 : w30.heap.size ≤ w33.heap.size := hX33.size
        have hE33 : Ext w w33 := hE30.trans hX33
        have hL21_0x33 := hL21_0x30.ext ((good_owS (good_oFn 174 6))) hX33
        have hL21_1x33 := hL21_1x30.ext (o1) hX33
        have hL21_2x33 := hL21_2x30.ext (o1) hX33
        have hL21_3x33 := hL21_3x30.ext (o2) hX33
        have hL21_4x33 := hL21_4x30.ext (o1) hX33
        have hL21_5x33 := hL21_5x30.ext hX33
        have hd25x33 := hd25x30.ext g1 hX33
        have hlx34 := ldH_ext hX33 hlx31
        have hd29x33 := hd29x30.ext g1 hX33
        have hlx35 := ldH_ext hX33 hlx32
        have hO30_0x33 := hO30_0.ext (o1) hX33
        rw [show (decide (((heT pD fD.toNat kD.toNat aD aD.length).getD i []) = ((heT pD fD.toNat kD.toNat aD aD.length).map (fun r => r.getD i 0)))) = true from decide_eq_true (hes_col hHL oM)]
        exact q_not false rfl rfl (zS (e := 126) rfl rfl rfl) (lw_tvn 1 rfl (c_cond_f rfl (wp_skip (wp_plain _ [0, 0, 0] rfl (lw_tv 1 rfl (q_add ((i + 1 : Nat) : Int) rfl rfl (w64n oM oM) zN (lw_tvn 1 rfl ⟨(i + 1), _, rfl, ⟨rfl, rfl, rfl, rfl, rfl, rfl, rfl, rfl, rfl, rfl, trivial⟩, ⟨hE33, hL21_0x33, hL21_1x33, hL21_2x33, hL21_3x33, hL21_4x33, hL21_5x33, oM, oM⟩, by first | omega | (dsimp only; omega)⟩)))))))
      ·
        refine q_lss false rfl rfl (decide_eq_false hc24) zN (lw_nil (c_cond_f rfl (wp_exit (t_exit (t_exit (c_exit_here (wp_seq (wp_plain _ [0, 0, 3, 0] rfl ?_))))))))
        have hr0 := a2at_num ds ((0 : Nat) : Int) ((aD.length : Nat) : Int)
        have hr1 := a2at_num ds ((1 : Nat) : Int) ((aD.length : Nat) : Int)
        have hr2 := a2at_num ds ((2 : Nat) : Int) ((aD.length : Nat) : Int)
        refine lw_tv 2 rfl (lw_call 21 [] [] [vd, (.int .i64 ((0 : Nat) : Int)), (.int .i64 ((aD.length : Nat) : Int))] rfl rfl cf21 zN (c_laws_a2At _ _ _ _ _ (hds.ext good_u hE21) oM oM oM) ?_)
        rintro e36 w36 ⟨rfl, hX36⟩
        refine ⟨_, rfl, hX36, ?_⟩
        have hzs36 : w21.heap.size ≤ w36.heap.size := hX36.size
        have hE36 : Ext w w36 := hE21.trans hX36
        have hL21_0x36 := hL21_0.ext ((good_owS (good_oFn 174 6))) hX36
        have hL21_1x36 := hL21_1.ext (o1) hX36
        have hL21_2x36 := hL21_2.ext (o1) hX36
        have hL21_3x36 := hL21_3.ext (o2) hX36
        have hL21_4x36 := hL21_4.ext (o1) hX36
        have hL21_5x36 := hL21_5.ext hX36
        refine lw_tvn 1 rfl (wp_seq (wp_plain _ [0, 0, 3, 0] rfl (lw_tv 2 rfl (lw_call 21 [] [] [vd, (.int .i64 ((1 : Nat) : Int)), (.int .i64 ((aD.length : Nat) : Int))] rfl rfl cf21 zN (c_laws_a2At _ _ _ _ _ (hds.ext good_u hE36) oM oM oM) ?_))))
        rintro e37 w37 ⟨rfl, hX37⟩
        refine ⟨_, rfl, hX37, ?_⟩
        have hzs37 : w36.heap.size ≤ w37.heap.size := hX37.size
        have hE37 : Ext w w37 := hE36.trans hX37
        have hL21_0x37 := hL21_0x36.ext ((good_owS (good_oFn 174 6))) hX37
        have hL21_1x37 := hL21_1x36.ext (o1) hX37
        have hL21_2x37 := hL21_2x36.ext (o1) hX37
        have hL21_3x37 := hL21_3x36.ext (o2) hX37
        have hL21_4x37 := hL21_4x36.ext (o1) hX37
        have hL21_5x37 := hL21_5x36.ext hX37
        refine lw_tvn 1 rfl (wp_seq (wp_plain _ [0, 0, 3, 0] rfl (lw_tv 2 rfl (lw_call 21 [] [] [vd, (.int .i64 ((2 : Nat) : Int)), (.int .i64 ((aD.length : Nat) : Int))] rfl rfl cf21 zN (c_laws_a2At _ _ _ _ _ (hds.ext good_u hE37) oM oM oM) ?_))))
        rintro e38 w38 ⟨rfl, hX38⟩
        refine ⟨_, rfl, hX38, ?_⟩
        have hzs38 : w37.heap.size ≤ w38.heap.size := hX38.size
        have hE38 : Ext w w38 := hE37.trans hX38
        have hL21_0x38 := hL21_0x37.ext ((good_owS (good_oFn 174 6))) hX38
        have hL21_1x38 := hL21_1x37.ext (o1) hX38
        have hL21_2x38 := hL21_2x37.ext (o1) hX38
        have hL21_3x38 := hL21_3x37.ext (o2) hX38
        have hL21_4x38 := hL21_4x37.ext (o1) hX38
        have hL21_5x38 := hL21_5x37.ext hX38
        refine lw_tvn 1 rfl (wp_seq (wp_plain _ [2, 0, 0, 0, 0, 0, 3, 3, 0, 0, 0, 0, 0] rfl (q_loadA (p := (.pointer (some ⟨w3.heap.size, 0, none⟩))) (.inr rfl) [vD] agg26 rfl (fun wq9 hw9 => LD.of_box (BX.ext (w := w38) hL21_5x38 hw9)) rfl zN (lw_tv 5 rfl (r_two (ys := [a2at ds ((0 : Nat) : Int) ((aD.length : Nat) : Int), a2at ds ((1 : Nat) : Int) ((aD.length : Nat) : Int)]) good_rI u27 ti2 rfl rfl rfl rfl (elsI2 (a2at_rng ds ((0 : Nat) : Int) ((aD.length : Nat) : Int) oM) (a2at_rng ds ((1 : Nat) : Int) ((aD.length : Nat) : Int) oM)) zN fun v39 w39 hX39 hz39 hO39 => ?_)))))
        have hzs39 : w38.heap.size ≤ w39.heap.size := hX39.size
        have hE39 : Ext w w39 := hE38.trans hX39
        have hL21_0x39 := hL21_0x38.ext ((good_owS (good_oFn 174 6))) hX39
        have hL21_1x39 := hL21_1x38.ext (o1) hX39
        have hL21_2x39 := hL21_2x38.ext (o1) hX39
        have hL21_3x39 := hL21_3x38.ext (o2) hX39
        have hL21_4x39 := hL21_4x38.ext (o1) hX39
        have hL21_5x39 := hL21_5x38.ext hX39
        refine lw_call 22 [] [] [(.agg #[vD]), (.int .i64 fD), (.int .i64 kD), vaD, v39] rfl rfl cf22 zN (c_impl_MixedDerivative _ 6 vD (pD) _ _ _ _ _ _ (RN.of_frF hL21_0x39 (fun b hb => by cases hb)) oM oM hL21_1x39.rd1 hO39.rd1 (by exact hli0) z3_3 oM (by show (2 : Nat) ≤ 4; decide) (by intro j hj; match j, hj with | 0, _ => exact ⟨hr0.1, hr0.2 oM⟩ | 1, _ => exact ⟨hr1.1, hr1.2 oM⟩)) ?_
        rintro e40 w40 ⟨rfl, hX40, hP40_0⟩
        refine ⟨_, rfl, hX40, ?_⟩
        have hzs40 : w39.heap.size ≤ w40.heap.size := hX40.size
        have hE40 : Ext w w40 := hE39.trans hX40
        have hL21_0x40 := hL21_0x39.ext ((good_owS (good_oFn 174 6))) hX40
        have hL21_1x40 := hL21_1x39.ext (o1) hX40
        have hL21_2x40 := hL21_2x39.ext (o1) hX40
        have hL21_3x40 := hL21_3x39.ext (o2) hX40
        have hL21_4x40 := hL21_4x39.ext (o1) hX40
        have hL21_5x40 := hL21_5x39.ext hX40
        have hO39x40 := hO39.ext (o1) hX40
        refine lw_tv 1 rfl (q_extract (vs := [(.int .i64 (if nxC pD fD.toNat aD = 0 then mxS pD fD.toNat kD.toNat aD ([a2at ds ((0 : Nat) : Int) ((aD.length : Nat) : Int), a2at ds ((1 : Nat) : Int) ((aD.length : Nat) : Int)]) (2 ^ ([a2at ds ((0 : Nat) : Int) ((aD.length : Nat) : Int), a2at ds ((1 : Nat) : Int) ((aD.length : Nat) : Int)]).length) else 0)), (.int .i64 (nxC pD fD.toNat aD))]) (.int .i64 (if nxC pD fD.toNat aD = 0 then mxS pD fD.toNat kD.toNat aD ([a2at ds ((0 : Nat) : Int) ((aD.length : Nat) : Int), a2at ds ((1 : Nat) : Int) ((aD.length : Nat) : Int)]) (2 ^ ([a2at ds ((0 : Nat) : Int) ((aD.length : Nat) : Int), a2at ds ((1 : Nat) : Int) ((aD.length : Nat) : Int)]).length) else 0)) rfl rfl zN ?_)
        refine q_extract (vs := [(.int .i64 (if nxC pD fD.toNat aD = 0 then mxS pD fD.toNat kD.toNat aD ([a2at ds ((0 : Nat) : Int) ((aD.length : Nat) : Int), a2at ds ((1 : Nat) : Int) ((aD.length : Nat) : Int)]) (2 ^ ([a2at ds ((0 : Nat) : Int) ((aD.length : Nat) : Int), a2at ds ((1 : Nat) : Int) ((aD.length : Nat) : Int)]).length) else 0)), (.int .i64 (nxC pD fD.toNat aD))]) (.int .i64 (nxC pD fD.toNat aD)) rfl rfl zN (lw_tvn 2 rfl (wp_seq (wp_plain _ [2, 0, 0, 0, 0, 0, 0, 3, 3, 0, 0, 0, 0, 0] rfl (q_loadA (p := (.pointer (some ⟨w3.heap.size, 0, none⟩))) (.inr rfl) [vD] agg26 rfl (fun wq9 hw9 => LD.of_box (BX.ext (w := w40) hL21_5x40 hw9)) rfl zN (lw_tv 6 rfl ?_)))))
        refine r_three (ys := [a2at ds ((0 : Nat) : Int) ((aD.length : Nat) : Int), a2at ds ((1 : Nat) : Int) ((aD.length : Nat) : Int), a2at ds ((2 : Nat) : Int) ((aD.length : Nat) : Int)]) good_rI u27 ti2 rfl rfl rfl rfl rfl (elsI3 (a2at_rng ds ((0 : Nat) : Int) ((aD.length : Nat) : Int) oM) (a2at_rng ds ((1 : Nat) : Int) ((aD.length : Nat) : Int) oM) (a2at_rng ds ((2 : Nat) : Int) ((aD.length : Nat) : Int) oM)) zN fun v41 w41 hX41 hz41 hO41 => ?_
        have hzs41 : w40.heap.size ≤ w41.heap.size := hX41.size
        have hE41 : Ext w w41 := hE40.trans hX41
        have hL21_0x41 := hL21_0x40.ext ((good_owS (good_oFn 174 6))) hX41
        have hL21_1x41 := hL21_1x40.ext (o1) hX41
        have hL21_2x41 := hL21_2x40.ext (o1) hX41
        have hL21_3x41 := hL21_3x40.ext (o2) hX41
        have hL21_4x41 := hL21_4x40.ext (o1) hX41
        have hL21_5x41 := hL21_5x40.ext hX41
        have hO39x41 := hO39x40.ext (o1) hX41
        refine lw_call 22 [] [] [(.agg #[vD]), (.int .i64 fD), (.int .i64 kD), vaD, v41] rfl rfl cf22 zN (c_impl_MixedDerivative _ 6 vD (pD) _ _ _ _ _ _ (RN.of_frF hL21_0x41 (fun b hb => by cases hb)) oM oM hL21_1x41.rd1 hO41.rd1 (by exact hli0) z3_3 oM (by show (3 : Nat) ≤ 4; decide) (by intro j hj; match j, hj with | 0, _ => exact ⟨hr0.1, hr0.2 oM⟩ | 1, _ => exact ⟨hr1.1, hr1.2 oM⟩ | 2, _ => exact ⟨hr2.1, hr2.2 oM⟩)) ?_
        rintro e42 w42 ⟨rfl, hX42, hP42_0⟩
        refine ⟨_, rfl, hX42, ?_⟩
        have hzs42 : w41.heap.size ≤ w42.heap.size := hX42.size
        have hE42 : Ext w w42 := hE41.trans hX42
        have hL21_0x42 := hL21_0x41.ext ((good_owS (good_oFn 174 6))) hX42
        have hL21_1x42 := hL21_1x41.ext (o1) hX42
        have hL21_2x42 := hL21_2x41.ext (o1) hX42
        have hL21_3x42 := hL21_3x41.ext (o2) hX42
        have hL21_4x42 := hL21_4x41.ext (o1) hX42
        have hL21_5x42 := hL21_5x41.ext hX42
        have hO39x42 := hO39x41.ext (o1) hX42
        have hO41x42 := hO41.ext (o1) hX42
        refine lw_tv 1 rfl ?_
        refine q_extract (vs := [(.int .i64 (if nxC pD fD.toNat aD = 0 then mxS pD fD.toNat kD.toNat aD ([a2at ds ((0 : Nat) : Int) ((aD.length : Nat) : Int), a2at ds ((1 : Nat) : Int) ((aD.length : Nat) : Int), a2at ds ((2 : Nat) : Int) ((aD.length : Nat) : Int)]) (2 ^ ([a2at ds ((0 : Nat) : Int) ((aD.length : Nat) : Int), a2at ds ((1 : Nat) : Int) ((aD.length : Nat) : Int), a2at ds ((2 : Nat) : Int) ((aD.length : Nat) : Int)]).length) else 0)), (.int .i64 (nxC pD fD.toNat aD))]) (.int .i64 (if nxC pD fD.toNat aD = 0 then mxS pD fD.toNat kD.toNat aD ([a2at ds ((0 : Nat) : Int) ((aD.length : Nat) : Int), a2at ds ((1 : Nat) : Int) ((aD.length : Nat) : Int), a2at ds ((2 : Nat) : Int) ((aD.length : Nat) : Int)]) (2 ^ ([a2at ds ((0 : Nat) : Int) ((aD.length : Nat) : Int), a2at ds ((1 : Nat) : Int) ((aD.length : Nat) : Int), a2at ds ((2 : Nat) : Int) ((aD.length : Nat) : Int)]).length) else 0)) rfl rfl zN ?_
        refine q_extract (vs := [(.int .i64 (if nxC pD fD.toNat aD = 0 then mxS pD fD.toNat kD.toNat aD ([a2at ds ((0 : Nat) : Int) ((aD.length : Nat) : Int), a2at ds ((1 : Nat) : Int) ((aD.length : Nat) : Int), a2at ds ((2 : Nat) : Int) ((aD.length : Nat) : Int)]) (2 ^ ([a2at ds ((0 : Nat) : Int) ((aD.length : Nat) : Int), a2at ds ((1 : Nat) : Int) ((aD.length : Nat) : Int), a2at ds ((2 : Nat) : Int) ((aD.length : Nat) : Int)]).length) else 0)), (.int .i64 (nxC pD fD.toNat aD))]) (.int .i64 (nxC pD fD.toNat aD)) rfl rfl zN (lw_tvn 2 rfl (wp_seq (wp_plain _ [2, 0, 0, 0, 0, 0, 0, 3, 3, 0, 0, 0, 0, 0] rfl (q_loadA (p := (.pointer (some ⟨w3.heap.size, 0, none⟩))) (.inr rfl) [vD] agg26 rfl (fun wq9 hw9 => LD.of_box (BX.ext (w := w42) hL21_5x42 hw9)) rfl zN (lw_tv 6 rfl ?_)))))
        refine r_three (ys := [a2at ds ((2 : Nat) : Int) ((aD.length : Nat) : Int), a2at ds ((0 : Nat) : Int) ((aD.length : Nat) : Int), a2at ds ((1 : Nat) : Int) ((aD.length : Nat) : Int)]) good_rI u27 ti2 rfl rfl rfl rfl rfl (elsI3 (a2at_rng ds ((2 : Nat) : Int) ((aD.length : Nat) : Int) oM) (a2at_rng ds ((0 : Nat) : Int) ((aD.length : Nat) : Int) oM) (a2at_rng ds ((1 : Nat) : Int) ((aD.length : Nat) : Int) oM)) zN fun v43 w43 hX43 hz43 hO43 => ?_
        have hzs43 : w42.heap.size ≤ w43.heap.size := hX43.size
        have hE43 : Ext w w43 := hE42.trans hX43
        have hL21_0x43 := hL21_0x42.ext ((good_owS (good_oFn 174 6))) hX43
        have hL21_1x43 := hL21_1x42.ext (o1) hX43
        have hL21_2x43 := hL21_2x42.ext (o1) hX43
        have hL21_3x43 := hL21_3x42.ext (o2) hX43
        have hL21_4x43 := hL21_4x42.ext (o1) hX43
        have hL21_5x43 := hL21_5x42.ext hX43
        have hO39x43 := hO39x42.ext (o1) hX43
        have hO41x43 := hO41x42.ext (o1) hX43
        refine lw_call 22 [] [] [(.agg #[vD]), (.int .i64 fD), (.int .i64 kD), vaD, v43] rfl rfl cf22 zN (c_impl_MixedDerivative _ 6 vD (pD) _ _ _ _ _ _ (RN.of_frF hL21_0x43 (fun b hb => by cases hb)) oM oM hL21_1x43.rd1 hO43.rd1 (by exact hli0) z3_3 oM (by show (3 : Nat) ≤ 4; decide) (by intro j hj; match j, hj with | 0, _ => exact ⟨hr2.1, hr2.2 oM⟩ | 1, _ => exact ⟨hr0.1, hr0.2 oM⟩ | 2, _ => exact ⟨hr1.1, hr1.2 oM⟩)) ?_
        rintro e44 w44 ⟨rfl, hX44, hP44_0⟩
        refine ⟨_, rfl, hX44, ?_⟩
        have hzs44 : w43.heap.size ≤ w44.heap.size := hX44.size
        have hE44 : Ext w w44 := hE43.trans hX44
        have hL21_0x44 := hL21_0x43.ext ((good_owS (good_oFn 174 6))) hX44
        have hL21_1x44 := hL21_1x43.ext (o1) hX44
        have hL21_2x44 := hL21_2x43.ext (o1) hX44
        have hL21_3x44 := hL21_3x43.ext (o2) hX44
        have hL21_4x44 := hL21_4x43.ext (o1) hX44
        have hL21_5x44 := hL21_5x43.ext hX44
        have hO39x44 := hO39x43.ext (o1) hX44
        have hO41x44 := hO41x43.ext (o1) hX44
        have hO43x44 := hO43.ext (o1) hX44
        refine lw_tv 1 rfl ?_
        refine q_extract (vs := [(.int .i64 (if nxC pD fD.toNat aD = 0 then mxS pD fD.toNat kD.toNat aD ([a2at ds ((2 : Nat) : Int) ((aD.length : Nat) : Int), a2at ds ((0 : Nat) : Int) ((aD.length : Nat) : Int), a2at ds ((1 : Nat) : Int) ((aD.length : Nat) : Int)]) (2 ^ ([a2at ds ((2 : Nat) : Int) ((aD.length : Nat) : Int), a2at ds ((0 : Nat) : Int) ((aD.length : Nat) : Int), a2at ds ((1 : Nat) : Int) ((aD.length : Nat) : Int)]).length) else 0)), (.int .i64 (nxC pD fD.toNat aD))]) (.int .i64 (if nxC pD fD.toNat aD = 0 then mxS pD fD.toNat kD.toNat aD ([a2at ds ((2 : Nat) : Int) ((aD.length : Nat) : Int), a2at ds ((0 : Nat) : Int) ((aD.length : Nat) : Int), a2at ds ((1 : Nat) : Int) ((aD.length : Nat) : Int)]) (2 ^ ([a2at ds ((2 : Nat) : Int) ((aD.length : Nat) : Int), a2at ds ((0 : Nat) : Int) ((aD.length : Nat) : Int), a2at ds ((1 : Nat) : Int) ((aD.length : Nat) : Int)]).length) else 0)) rfl rfl zN ?_
        refine q_extract (vs := [(.int .i64 (if nxC pD fD.toNat aD = 0 then mxS pD fD.toNat kD.toNat aD ([a2at ds ((2 : Nat) : Int) ((aD.length : Nat) : Int), a2at ds ((0 : Nat) : Int) ((aD.length : Nat) : Int), a2at ds ((1 : Nat) : Int) ((aD.length : Nat) : Int)]) (2 ^ ([a2at ds ((2 : Nat) : Int) ((aD.length : Nat) : Int), a2at ds ((0 : Nat) : Int) ((aD.length : Nat) : Int), a2at ds ((1 : Nat) : Int) ((aD.length : Nat) : Int)]).length) else 0)), (.int .i64 (nxC pD fD.toNat aD))]) (.int .i64 (nxC pD fD.toNat aD)) rfl rfl zN (lw_tvn 2 rfl (wp_seq (wp_plain _ [0, 0, 0, 0, 0, 0, 0, 0, 0, 0, 0, 0, 0, 0, 0, 2, 0, 0, 2, 0, 0, 0, 0, 0, 0, 0, 0] rfl (lw_tv 1 rfl ?_))))
        have hc45 : nxC pD fD.toNat aD = ((0 : Nat) : Int) := oM
        refine q_eql true rfl rfl (decide_eq_true hc45) zN (lw_tv 2 rfl ?_)
        have hc46 : nxC pD fD.toNat aD = ((0 : Nat) : Int) := oM
        refine q_eql true rfl rfl (decide_eq_true hc46) (zS (e := 183) rfl rfl rfl) (lw_tv 3 rfl ?_)
        have hc47 : nxC pD fD.toNat aD = ((0 : Nat) : Int) := oM
        refine q_eql true rfl rfl (decide_eq_true hc47) (zS (e := 187) rfl rfl rfl) (lw_tv 5 rfl (q_idx (v := v10_0) ((a2at ds ((0 : Nat) : Int) ((aD.length : Nat) : Int)).toNat) u32 ti27 rfl rfl hL21_3x44.isSl oM (by rw [heT_len]; have := hr0.2; omega) (zS (e := 191) rfl rfl rfl) ?_))
        obtain ⟨ue48, hl48, hd48⟩ := hL21_3x44.rd2.get (k := (a2at ds ((0 : Nat) : Int) ((aD.length : Nat) : Int)).toNat) [] (by rw [heT_len]; have := hr0.2; omega)
        have hln48 := hd48.lenle
        refine q_load (p := eptr v10_0 ((a2at ds ((0 : Nat) : Int) ((aD.length : Nat) : Int)).toNat) 1) (.inr rfl) ue48 one27 rfl hl48 (zS (e := 191) rfl rfl rfl) (lw_tv 1 rfl (q_idx (v := ue48) ((a2at ds ((1 : Nat) : Int) ((aD.length : Nat) : Int)).toNat) u27 ti2 rfl rfl hd48.isSl oM (by have := hr0.2; have := hr1.2; rw [heT_at oM, heP_len]; omega) (zS (e := 191) rfl rfl rfl) (q_load (p := eptr ue48 ((a2at ds ((1 : Nat) : Int) ((aD.length : Nat) : Int)).toNat) 1) (.inr rfl) (.int .i64 (((heT pD fD.toNat kD.toNat aD aD.length).getD ((a2at ds ((0 : Nat) : Int) ((aD.length : Nat) : Int)).toNat) []).getD ((a2at ds ((1 : Nat) : Int) ((aD.length : Nat) : Int)).toNat) 0)) one2 rfl (hd48.getI (by have := hr0.2; have := hr1.2; rw [heT_at oM, heP_len]; omega)).1 (zS (e := 191) rfl rfl rfl) ?_)))
        have hc49 : (if nxC pD fD.toNat aD = 0 then mxS pD fD.toNat kD.toNat aD ([a2at ds ((0 : Nat) : Int) ((aD.length : Nat) : Int), a2at ds ((1 : Nat) : Int) ((aD.length : Nat) : Int)]) (2 ^ ([a2at ds ((0 : Nat) : Int) ((aD.length : Nat) : Int), a2at ds ((1 : Nat) : Int) ((aD.length : Nat) : Int)]).length) else 0) = ((heT pD fD.toNat kD.toNat aD aD.length).getD ((a2at ds ((0 : Nat) : Int) ((aD.length : Nat) : Int)).toNat) []).getD ((a2at ds ((1 : Nat) : Int) ((aD.length : Nat) : Int)).toNat) 0 := ((if_pos h0n).trans (hes_mix hHL ⟨hr0.1, hr0.2 oM⟩ ⟨hr1.1, hr1.2 oM⟩))
        refine q_eql true rfl rfl (decide_eq_true hc49) (zS (e := 191) rfl rfl rfl) (lw_tv 4 rfl ?_)
        refine q_eql (decide ((if nxC pD fD.toNat aD = 0 then mxS pD fD.toNat kD.toNat aD ([a2at ds ((0 : Nat) : Int) ((aD.length : Nat) : Int), a2at ds ((1 : Nat) : Int) ((aD.length : Nat) : Int), a2at ds ((2 : Nat) : Int) ((aD.length : Nat) : Int)]) (2 ^ ([a2at ds ((0 : Nat) : Int) ((aD.length : Nat) : Int), a2at ds ((1 : Nat) : Int) ((aD.length : Nat) : Int), a2at ds ((2 : Nat) : Int) ((aD.length : Nat) : Int)]).length) else 0) = (if nxC pD fD.toNat aD = 0 then mxS pD fD.toNat kD.toNat aD ([a2at ds ((2 : Nat) : Int) ((aD.length : Nat) : Int), a2at ds ((0 : Nat) : Int) ((aD.length : Nat) : Int), a2at ds ((1 : Nat) : Int) ((aD.length : Nat) : Int)]) (2 ^ ([a2at ds ((2 : Nat) : Int) ((aD.length : Nat) : Int), a2at ds ((0 : Nat) : Int) ((aD.length : Nat) : Int), a2at ds ((1 : Nat) : Int) ((aD.length : Nat) : Int)]).length) else 0))) rfl rfl rfl (zS (e := 202) rfl rfl rfl) ?_
        refine lw_tvn 2 rfl (wp_ret ?_)
        exact post_ret [4] rfl (.bool (decide ((if nxC pD fD.toNat aD = 0 then mxS pD fD.toNat kD.toNat aD ([a2at ds ((0 : Nat) : Int) ((aD.length : Nat) : Int), a2at ds ((1 : Nat) : Int) ((aD.length : Nat) : Int), a2at ds ((2 : Nat) : Int) ((aD.length : Nat) : Int)]) (2 ^ ([a2at ds ((0 : Nat) : Int) ((aD.length : Nat) : Int), a2at ds ((1 : Nat) : Int) ((aD.length : Nat) : Int), a2at ds ((2 : Nat) : Int) ((aD.length : Nat) : Int)]).length) else 0) = (if nxC pD fD.toNat aD = 0 then mxS pD fD.toNat kD.toNat aD ([a2at ds ((2 : Nat) : Int) ((aD.length : Nat) : Int), a2at ds ((0 : Nat) : Int) ((aD.length : Nat) : Int), a2at ds ((1 : Nat) : Int) ((aD.length : Nat) : Int)]) (2 ^ ([a2at ds ((2 : Nat) : Int) ((aD.length : Nat) : Int), a2at ds ((0 : Nat) : Int) ((aD.length : Nat) : Int), a2at ds ((1 : Nat) : Int) ((aD.length : Nat) : Int)]).length) else 0)))) rfl ⟨z3_0, hE44⟩
  ·
    exact c_cond_t (by first | rfl | (show Value.bool _ = _; rw [hb2])) (wp_seq (wp_plain _ [0] rfl (lw_tvn 1 rfl (wp_ret (t_ret (post_ret [4] rfl (.bool true) rfl ⟨z3_0, hE1⟩))))))
end Go.Proofs.YtnokbaiemimhjaaGreat
