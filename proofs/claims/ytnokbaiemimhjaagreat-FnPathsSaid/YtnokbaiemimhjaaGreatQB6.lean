/- Xk, Xl, Xn, Xo: texts of this claim, joined; what the claim does not come to is left out. -/
import Derived.Test.YtnokbaiemimhjaaGreatQB5
import Derived.Test.YtnokbaiemimhjaaGreatProg
set_option linter.unusedVariables false
set_option linter.unusedSimpArgs false
namespace Go.Proofs.YtnokbaiemimhjaaGreat
open Go Go.RowKit
set_option linter.unusedVariables false
set_option linter.unusedSimpArgs false
set_option maxHeartbeats 4000000
set_option maxRecDepth 100000
attribute [local irreducible] LW
theorem li_n {p : List Fn} {f : Int} {a d : Sr} (h : isF p f ≠ 0) : isF p f = liC p f a d := by unfold liC; rw [if_neg h]
theorem li_a {p : List Fn} {f : Int} {a d : Sr} (h : isF p f = 0) (h2 : (decide (((a.length : Nat) : Int) = (p.getD f.toNat Fn.zero).params) && allN a) = false) : 2 = liC p f a d := by unfold liC; rw [if_pos h, h2]; rfl
theorem li_d {p : List Fn} {f : Int} {a d : Sr} (h : isF p f = 0) (h2 : (decide (((d.length : Nat) : Int) = (p.getD f.toNat Fn.zero).params) && allN d) = false) : 2 = liC p f a d := by unfold liC; rw [if_pos h, h2, Bool.and_false]; rfl
theorem li_0 {p : List Fn} {f : Int} {a d : Sr} (h : isF p f = 0) (h1 : (decide (((a.length : Nat) : Int) = (p.getD f.toNat Fn.zero).params) && allN a) = true) (h2 : (decide (((d.length : Nat) : Int) = (p.getD f.toNat Fn.zero).params) && allN d) = true) : isF p f = liC p f a d := by unfold liC; rw [if_pos h, h1, h2]; exact h
theorem z95_0 {p : Prop} (h : p := by first | exact li_n oM | exact li_a oM (bn_t (by assumption)) | exact li_d oM (bn_t (by assumption)) | exact li_0 oM (bn_f (by assumption)) (bn_f (by assumption))) : p := h
theorem c_impl_isLine (w : World) (dp : Nat) (vp : Value) (p : List Fn) (f : Int) (va : Value) (a : List Int) (vd : Value) (d : List Int) (hp : RP [] dp w.heap vp p) (_hf : -9223372036854775808 ≤ f ∧ f ≤ 9223372036854775807) (ha : Rd (rdL rI) w.heap va a) (hd : Rd (rdL rI) w.heap vd d) (hz : SzP p) :
    Calls Tryz.prog 95 #[(.agg #[vp]), .int .i64 f, va, vd] w (fun e w' => e = .returned (.int .i64 (liC p f a d)) ∧ Ext w w') := by
  refine calls_mk [(.agg #[vp]), .int .i64 f, va, vd] 38 Tryz.func95 rfl rfl sM ?_
  have hE0 : Ext w w := Ext.refl w
  have hl_vp := hp.lenle
  unfold maxLen at hl_vp
  have hl_va := ha.lenle
  have hl_vd := hd.lenle
  refine wp_seq (wp_plain _ [3, 0] rfl (r_boxA (cs := #[vp]) rfl zN fun w1 hX1 hz1 hB1 => ?_))
  have hzs1 : w.heap.size ≤ w1.heap.size := hX1.size
  have hE1 : Ext w w1 := hE0.trans hX1
  replace hB1 : BX w1.heap w.heap.size [vp] := hB1
  refine lw_tvn 1 rfl (wp_seq (wp_plain _ [2, 0, 3, 0] rfl (q_loadA (p := (.pointer (some ⟨w.heap.size, 0, none⟩))) (.inr rfl) [vp] agg26 rfl (fun wq9 hw9 => LD.of_box (BX.ext (w := w1) hB1 hw9)) rfl zN (lw_tv 1 rfl (lw_call 84 [] [] [(.agg #[vp]), (.int .i64 f)] rfl rfl cf84 zN (c_impl_isFunc _ dp vp (p) _ (hp.ext (good_rdS (good_rFn dp)) hE1) _hf (by exact hz)) ?_)))))
  rintro e2 w2 ⟨rfl, hX2⟩
  refine ⟨_, rfl, hX2, ?_⟩
  have hzs2 : w1.heap.size ≤ w2.heap.size := hX2.size
  have hE2 : Ext w w2 := hE1.trans hX2
  have hB1x2 := hB1.ext hX2
  refine lw_tvn 1 rfl (wp_seq (wp_seq (wp_plain _ [0, 0, 0, 0, 0, 2, 0, 0, 0, 2, 3, 0, 0, 0, 0, 2, 0, 0, 0, 2, 3, 0, 0, 0] rfl (lw_tv 1 rfl ?_))))
  by_cases hc3 : isF p f = ((0 : Nat) : Int)
  ·
    refine q_eql true rfl rfl (decide_eq_true hc3) zN (lw_tv 2 rfl ?_)
    have hi0 := isF_0 (p := p) (f := f) oM
    refine q_fldP (p := (.pointer (some ⟨w.heap.size, 0, none⟩))) (b := w.heap.size) (o := 0) 0 fd26_0 rfl rfl (zS (e := 15) rfl rfl rfl) (q_load (p := (padd (.pointer (some ⟨w.heap.size, 0, none⟩)) 0)) (.inr rfl) vp one24 rfl (hB1x2.ldp (i := 0) sM) (zS (e := 15) rfl rfl rfl) (lw_tv 1 rfl (q_idx (v := vp) ((f).toNat) u24 tiS55 rfl rfl hp.isSl oM sD (zS (e := 15) rfl rfl rfl) ?_)))
    obtain ⟨cs4, hr4, hl4⟩ := hp.get (good_rFn dp) Fn.zero (k := ((f).toNat)) sD
    obtain ⟨ve4, rfl, hx4⟩ := RF.of hr4
    have hln4 := hx4.rn.lenle
    unfold maxLen at hln4
    refine q_fldL (p := eptr vp ((f).toNat) 3) 1 fd55_1 rfl (hl4 _ (Chg.of_ext [] hE2)) (zS (e := 15) rfl rfl rfl) (q_load (p := (padd (eptr vp ((f).toNat) 3) 1)) (.inr rfl) (.int .i64 ((p.getD ((f).toNat) Fn.zero).params)) one2 rfl ((hl4 _ (Chg.of_ext [] hE2)).ld (i := 1) (by simp [exC, fnC])) (zS (e := 15) rfl rfl rfl) (lw_call 97 [] [] [va, (.int .i64 ((p.getD ((f).toNat) Fn.zero).params))] rfl rfl cf97 (zS (e := 15) rfl rfl rfl) (c_impl_areNumbers _ _ _ _ (ha.ext g1 hE2) hx4.rng) ?_))
    rintro e5 w5 ⟨rfl, hX5⟩
    refine ⟨_, rfl, hX5, ?_⟩
    have hzs5 : w2.heap.size ≤ w5.heap.size := hX5.size
    have hE5 : Ext w w5 := hE2.trans hX5
    have hB1x5 := hB1x2.ext hX5
    refine q_not (!(decide (((a.length : Nat) : Int) = ((p.getD ((f).toNat) Fn.zero).params)) && allN a)) rfl rfl (zS (e := 15) rfl rfl rfl) (lw_tv 1 rfl ?_)
    cases hb6 : (!(decide (((a.length : Nat) : Int) = ((p.getD ((f).toNat) Fn.zero).params)) && allN a))
    ·
      refine lw_tv 1 rfl (q_fldP (p := (.pointer (some ⟨w.heap.size, 0, none⟩))) (b := w.heap.size) (o := 0) 0 fd26_0 rfl rfl (zS (e := 25) rfl rfl rfl) (q_load (p := (padd (.pointer (some ⟨w.heap.size, 0, none⟩)) 0)) (.inr rfl) vp one24 rfl (hB1x5.ldp (i := 0) sM) (zS (e := 25) rfl rfl rfl) (lw_tv 1 rfl (q_idx (v := vp) ((f).toNat) u24 tiS55 rfl rfl hp.isSl oM sD (zS (e := 25) rfl rfl rfl) ?_))))
      refine q_fldL (p := eptr vp ((f).toNat) 3) 1 fd55_1 rfl (hl4 _ (Chg.of_ext [] hE5)) (zS (e := 25) rfl rfl rfl) (q_load (p := (padd (eptr vp ((f).toNat) 3) 1)) (.inr rfl) (.int .i64 ((p.getD ((f).toNat) Fn.zero).params)) one2 rfl ((hl4 _ (Chg.of_ext [] hE5)).ld (i := 1) (by simp [exC, fnC])) (zS (e := 25) rfl rfl rfl) (lw_call 97 [] [] [vd, (.int .i64 ((p.getD ((f).toNat) Fn.zero).params))] rfl rfl cf97 (zS (e := 25) rfl rfl rfl) (c_impl_areNumbers _ _ _ _ (hd.ext g1 hE5) hx4.rng) ?_))
      rintro e7 w7 ⟨rfl, hX7⟩
      refine ⟨_, rfl, hX7, ?_⟩
      have hzs7 : w5.heap.size ≤ w7.heap.size := hX7.size
      have hE7 : Ext w w7 := hE5.trans hX7
      have hB1x7 := hB1x5.ext hX7
      refine q_not (!(decide (((d.length : Nat) : Int) = ((p.getD ((f).toNat) Fn.zero).params)) && allN d)) rfl rfl (zS (e := 25) rfl rfl rfl) (lw_tvn 2 rfl ?_)
      cases hb8 : (!(decide (((d.length : Nat) : Int) = ((p.getD ((f).toNat) Fn.zero).params)) && allN d))
      ·
        exact c_cond_f (by first | rfl | (show Value.bool _ = _; rw [hb8])) (wp_skip (wp_seq (wp_plain _ [0, 0] rfl (lw_tvn 2 rfl (wp_ret (post_ret [8] rfl (.int .i64 (isF p f)) rfl ⟨(ret_int z95_0), hE7⟩))))))
      ·
        exact c_cond_t (by first | rfl | (show Value.bool _ = _; rw [hb8])) (wp_plain _ [0] rfl (lw_tvn 1 rfl (wp_seq (wp_plain _ [0, 0] rfl (lw_tvn 2 rfl (wp_ret (post_ret [8] rfl (.int .i64 ((2 : Nat) : Int)) rfl ⟨(ret_int z95_0), hE7⟩)))))))
    ·
      exact lw_tvn 11 rfl (c_cond_t rfl (wp_plain _ [0] rfl (lw_tvn 1 rfl (wp_seq (wp_plain _ [0, 0] rfl (lw_tvn 2 rfl (wp_ret (post_ret [8] rfl (.int .i64 ((2 : Nat) : Int)) rfl ⟨(ret_int z95_0), hE5⟩))))))))
  ·
    exact q_eql false rfl rfl (decide_eq_false hc3) zN (lw_tvn 22 rfl (c_cond_f rfl (wp_skip (wp_seq (wp_plain _ [0, 0] rfl (lw_tvn 2 rfl (wp_ret (post_ret [8] rfl (.int .i64 (isF p f)) rfl ⟨(ret_int z95_0), hE2⟩))))))))
theorem c_unitG (w : World) (n : Nat) (vp : Value) (ps : List Int) (_hn : n ≤ 1000000000000) (hps : Rd (rdL rI) w.heap vp ps) (hn : n ≤ 1000) (hk : ∀ j, j < ps.length → 0 ≤ ps.getD j 0 ∧ ps.getD j 0 < ((n : Nat) : Int)) :
    Calls Tryz.prog 77 #[.int .i64 ((n : Nat) : Int), vp] w (fun e w' => ∃ v0 : Value, e = .returned (v0) ∧ Ext w w' ∧ Fr (owL rI 2) w.heap.size w'.heap.size w'.heap v0 (uniG n ps ps.length)) := by
  refine calls_mk [.int .i64 ((n : Nat) : Int), vp] 27 Tryz.func77 rfl rfl sM ?_
  have hE0 : Ext w w := Ext.refl w
  have hl_vp := hps.lenle
  refine wp_seq (wp_plain _ [0] rfl (lw_tvn 1 rfl (wp_seq (wp_plain _ [0, 3, 0] rfl (lw_tv 1 rfl (r_make (n := n) u27 ti2 rfl rfl rfl sD zN fun v1 w1 hX1 hz1 hO1 => ?_))))))
  have hzs1 : w.heap.size ≤ w1.heap.size := hX1.size
  have hE1 : Ext w w1 := hE0.trans hX1
  refine lw_tvn 1 rfl (wp_seq (wp_seq (wp_plain _ [0, 0, 0] rfl (lw_tv 1 rfl (q_len (v := vp) u27 rfl hps.isSl zN (lw_tvn 1 rfl (wp_block (c_loop (S := Nat) (fun (j : Nat) => ([(12, (.int .i64 ((j : Nat) : Int))), (5, v1), (10, vp), (11, (.int .i64 ((ps.length : Nat) : Int)))] : List (Nat × Value))) (fun (j : Nat) (W : World) => Ext w W ∧ Fr (owL rI 2) w.heap.size W.heap.size W.heap v1 (uniG n ps j) ∧ j ≤ ps.length) (fun (j : Nat) => ps.length - j) 0 ⟨rfl, rfl, rfl, rfl, trivial⟩ ⟨hE1, (by exact hO1.up o1), oM⟩ ?_))))))))
  clear hE0 hO1 hz1 hX1 hzs1 hE1
  rintro j ρ2 w2 ⟨hE2, hL2_0, hp2_0⟩
  have hzs2 : w.heap.size ≤ w2.heap.size := hE2.size
  have hul := uniG_len n ps j
  refine wp_seq (wp_plain _ [0] rfl ?_)
  by_cases hc3 : ((j : Nat) : Int) < ((ps.length : Nat) : Int)
  ·
    refine q_lss true rfl rfl (decide_eq_true hc3) zN (lw_nil (wp_seq (c_cond_t rfl (wp_skip (wp_seq (wp_block (wp_seq (wp_plain _ [0, 2, 0] rfl ?_))))))))
    have hkj := hk j oM
    refine q_idx (v := vp) j u27 ti2 rfl rfl hps.isSl rfl sD zN ?_
    refine q_load (p := eptr vp j 1) (.inr rfl) (.int .i64 (ps.getD j 0)) one2 rfl (ldH_ext hE2 (hps.getI sD).1) zN (lw_tvn 1 rfl (wp_plain _ [0, 0, 0, 0, 0, 2, 0, 0, 0, 4] rfl (lw_tv 4 rfl ?_)))
    refine q_idx (v := v1) ((ps.getD j 0).toNat) u27 ti2 rfl rfl hL2_0.isSl oM sD zN ?_
    refine q_load (p := eptr v1 ((ps.getD j 0).toNat) 1) (.inr rfl) (.int .i64 ((uniG n ps j).getD ((ps.getD j 0).toNat) 0)) one2 rfl (hL2_0.rd1.getI sD).1 zN ?_
    have hgn := allN_get (uniG_num n ps j) (ps.getD j 0).toNat
    refine q_add (((uniG n ps j).getD ((ps.getD j 0).toNat) 0) + ((1 : Nat) : Int)) rfl rfl (w64 sD sD) zN ?_
    refine q_rem (md (((uniG n ps j).getD ((ps.getD j 0).toNat) 0) + ((1 : Nat) : Int))) rfl rfl (by decide) (Int.tmod_eq_emod_of_nonneg oM) zN (q_idx (v := v1) ((ps.getD j 0).toNat) u27 ti2 rfl rfl hL2_0.isSl oM sD zN ?_)
    refine e_setI (v := v1) (w := w2) sz2 rfl rfl (md_rng _) hL2_0 sD zN fun w4 F4 hC4 hz4 hF4 hO4 => ?_
    have hE4 : Ext w w4 := hC4.below hE2 (fun c hc => Nat.le_trans (Nat.le_refl _) (hF4 c hc).1) hE2.size
    have hzs4 : w2.heap.size ≤ w4.heap.size := hC4.size
    exact lw_nil (wp_plain _ [0, 0] rfl (q_add ((j + 1 : Nat) : Int) rfl rfl (w64n oM sD) zN (lw_tvn 1 rfl ⟨(j + 1), _, rfl, ⟨rfl, rfl, rfl, rfl, trivial⟩, ⟨hE4, (by exact hO4.up o1), oM⟩, by first | omega | (dsimp only; omega)⟩)))
  ·
    exact q_lss false rfl rfl (decide_eq_false hc3) zN (lw_nil (wp_seq (c_cond_f rfl (wp_exit (t_exit (t_exit (c_exit_here (wp_seq (wp_plain _ [0, 0] rfl (lw_tvn 2 rfl (wp_ret (post_ret [4] rfl v1 rfl ⟨v1, rfl, hE2, (by have h := hL2_0.up o1; rw [show j = ps.length from by omega] at h; exact h)⟩))))))))))))
theorem z96_0 {p : Prop} (h : p := by unfold maxLen; first | omega | assumption | (simp only [List.length_nil, List.length_cons, List.length_append, List.length_set, List.length_replicate]; omega) | (simp [List.length_nil, List.length_cons, List.length_append, List.length_set, List.length_replicate]; done) | (simp [List.length_nil, List.length_cons, List.length_append, List.length_set, List.length_replicate]; omega)) : p := h
theorem c_impl_Program_along (w : World) (dp : Nat) (vp : Value) (p : List Fn) (f : Int) (va : Value) (a : List Int) (vd : Value) (d : List Int) (o : Nat) (hp : RP [] dp w.heap vp p) (_hf : -9223372036854775808 ≤ f ∧ f ≤ 9223372036854775807) (ha : Rd (rdL rI) w.heap va a) (hd : Rd (rdL rI) w.heap vd d) (hvp : VPr p) (hf : 0 ≤ f ∧ f < ((p.length : Nat) : Int)) (hl : ((a.length : Nat) : Int) = (p.getD f.toNat Fn.zero).params) (hld : d.length = a.length) (hna : allN a = true) (hnd : allN d = true) (ho : o ≤ 12) :
    Calls Tryz.prog 96 #[(.agg #[vp]), .int .i64 f, va, vd, .int .i64 ((o : Nat) : Int)] w (fun e w' => ∃ v0 : Value, e = .returned (.tuple #[v0, .int .i64 (evD p (o + 1) f.toNat (alS a d (o + 1)))]) ∧ Ext w w' ∧ Fr (owL (owL rI 2) 27) w.heap.size w'.heap.size w'.heap v0 (evR p (o + 1) f.toNat (alS a d (o + 1))) ∧ EvP p (o + 1) f.toNat (alS a d (o + 1))) := by
  refine calls_mk [(.agg #[vp]), .int .i64 f, va, vd, .int .i64 ((o : Nat) : Int)] 57 Tryz.func96 rfl rfl sM ?_
  have hE0 : Ext w w := Ext.refl w
  have hl_vp := hp.lenle
  unfold maxLen at hl_vp
  have hl_va := ha.lenle
  have hl_vd := hd.lenle
  have hpr := hvp.par f.toNat oM
  refine wp_seq (wp_plain _ [3, 0, 0] rfl (r_boxA (cs := #[vp]) rfl zN fun w1 hX1 hz1 hB1 => ?_))
  have hzs1 : w.heap.size ≤ w1.heap.size := hX1.size
  have hE1 : Ext w w1 := hE0.trans hX1
  replace hB1 : BX w1.heap w.heap.size [vp] := hB1
  refine lw_tvn 2 rfl (wp_seq (wp_plain _ [3, 0] rfl (r_nil (owL rI 2) o1 u32 ti27 zN fun v2 w2 hX2 hz2 hO2 => ?_)))
  have hzs2 : w1.heap.size ≤ w2.heap.size := hX2.size
  have hE2 : Ext w w2 := hE1.trans hX2
  have hB1x2 := hB1.ext hX2
  refine lw_tvn 1 rfl (wp_seq (wp_seq (wp_plain _ [0, 0, 0] rfl (lw_tv 1 rfl (q_len (v := va) u27 rfl ha.isSl zN (lw_tvn 1 rfl (wp_block ?_)))))))
  refine c_loop (S := Nat × Value) (fun (⟨k, vo⟩ : Nat × Value) => ([(12, vo), (22, (.int .i64 ((k : Nat) : Int))), (1, (.int .i64 f)), (3, vd), (4, (.int .i64 ((o : Nat) : Int))), (5, (.pointer (some ⟨w.heap.size, 0, none⟩))), (20, va), (21, (.int .i64 ((a.length : Nat) : Int)))] : List (Nat × Value))) (fun (⟨k, vo⟩ : Nat × Value) (W : World) => Ext w W ∧ Fr (owL (owL rI 2) 27) w1.heap.size W.heap.size W.heap vo ((alS a d (o + 1)).take k) ∧ BX W.heap w.heap.size [vp] ∧ k ≤ a.length ∧ w.heap.size < w1.heap.size ∧ w1.heap.size ≤ W.heap.size) (fun (⟨k, vo⟩ : Nat × Value) => a.length - k) (0, v2) ⟨rfl, rfl, rfl, rfl, rfl, rfl, rfl, rfl, trivial⟩ ⟨hE2, hO2.up o2, hB1x2, oM, oM, oM⟩ ?_
  clear hE0 hz1 hX1 hO2 hz2 hX2 hzs2 hE2
  rintro ⟨k, vo⟩ ρ4 w4 ⟨hE4, hL4_0, hL4_1, hp4_0, hkg3, hkB5⟩
  have hzs4 : w.heap.size ≤ w4.heap.size := hE4.size
  have hq6 := hL4_1.lt
  refine wp_seq (wp_plain _ [0] rfl ?_)
  by_cases hc7 : ((k : Nat) : Int) < ((a.length : Nat) : Int)
  ·
    refine q_lss true rfl rfl (decide_eq_true hc7) zN (lw_nil (wp_seq (c_cond_t rfl (wp_skip (wp_seq (wp_block (wp_seq (wp_plain _ [0, 0, 2, 0, 0] rfl (lw_tv 1 rfl (q_idx (v := va) k u27 ti2 rfl rfl ha.isSl rfl sD zN ?_))))))))))
    refine q_load (p := eptr va k 1) (.inr rfl) (.int .i64 (a.getD k 0)) one2 rfl (ldH_ext hE4 (ha.getI sD).1) zN (lw_tvn 2 rfl (wp_seq (wp_plain _ [0, 0, 3, 0] rfl (lw_tv 1 rfl (q_add ((o + 1 : Nat) : Int) rfl rfl (w64n oM oM) zN ?_)))))
    refine r_make (n := o + 1) u27 ti2 rfl rfl rfl sD zN fun v8 w8 hX8 hz8 hO8 => ?_
    have hzs8 : w4.heap.size ≤ w8.heap.size := hX8.size
    have hE8 : Ext w w8 := hE4.trans hX8
    have hL4_0x8 := hL4_0.ext (o2) hX8
    have hL4_1x8 := hL4_1.ext hX8
    refine lw_tvn 1 rfl (wp_seq (wp_plain _ [0, 0, 0, 4] rfl (lw_tv 2 rfl (q_idx (v := v8) 0 u27 ti2 rfl rfl hO8.isSl rfl sD zN ?_))))
    refine e_setI (v := v8) (w := w8) sz2 rfl rfl (ha.getI sD).2 hO8 sD zN fun w9 F9 hC9 hz9 hF9 hO9 => ?_
    have hE9 : Ext w w9 := hC9.below hE8 (fun c hc => Nat.le_trans hE4.size (hF9 c hc).1) hE8.size
    have hzs9 : w8.heap.size ≤ w9.heap.size := hC9.size
    have hF10 := hL4_0x8.chg (o2) hC9 (fun c hc => by have := hF9 c hc; omega)
    have hF11 := hL4_1x8.chg hC9 (fun hm => by have := hF9 _ hm; omega)
    refine lw_nil (wp_seq (wp_seq (wp_plain _ [0, 0] rfl (lw_tv 1 rfl ?_))))
    by_cases hc12 : ((0 : Nat) : Int) < ((o : Nat) : Int)
    ·
      refine q_gtr true rfl rfl (decide_eq_true hc12) zN (lw_nil (c_cond_t rfl (wp_plain _ [0, 0, 0, 0, 2, 0, 4] rfl (lw_tv 3 rfl (q_idx (v := vd) k u27 ti2 rfl rfl hd.isSl rfl sD zN ?_)))))
      refine q_load (p := eptr vd k 1) (.inr rfl) (.int .i64 (d.getD k 0)) one2 rfl (ldH_ext hE9 (hd.getI sD).1) zN ?_
      refine q_idx (v := v8) 1 u27 ti2 rfl rfl hO9.isSl rfl sD zN ?_
      refine e_setI (v := v8) (w := w9) sz2 rfl rfl (hd.getI sD).2 hO9 sD zN fun w13 F13 hC13 hz13 hF13 hO13 => ?_
      have hE13 : Ext w w13 := hC13.below hE9 (fun c hc => Nat.le_trans hE4.size (hF13 c hc).1) hE9.size
      have hzs13 : w9.heap.size ≤ w13.heap.size := hC13.size
      have hF14 := hF10.chg (o2) hC13 (fun c hc => by have := hF13 c hc; omega)
      have hF15 := hF11.chg hC13 (fun hm => by have := hF13 _ hm; omega)
      refine lw_nil (wp_plain _ [0, 0, 3, 4, 0] rfl (lw_tv 2 rfl (r_one (u := v8) (B := w4.heap.size) o1 u32 ti27 rfl rfl hO13 (by first | exact Nat.le_refl _ | omega) zN fun v16 w16 hX16 hz16 hO16 => ?_)))
      have hzs16 : w13.heap.size ≤ w16.heap.size := hX16.size
      have hE16 : Ext w w16 := hE13.trans hX16
      have hF14x16 := hF14.ext (o2) hX16
      have hF15x16 := hF15.ext hX16
      refine e_appF o1 (v := vo) (a := v16) u32 ti27 rfl rfl rfl hF14x16 oM hO16 oM oM sD z96_0 zN fun v17 w17 F17 hC17 hF17 hO17 => ?_
      have hE17 : Ext w w17 := hC17.below hE16 (fun c hc => Nat.le_trans hE1.size (hF17 c hc).1) hE16.size
      have hzs17 : w16.heap.size ≤ w17.heap.size := hC17.size
      have hF18 := hF15x16.chg hC17 (fun hm => by have := hF17 _ hm; omega)
      exact lw_tvn 1 rfl (wp_plain _ [0, 0] rfl (q_add ((k + 1 : Nat) : Int) rfl rfl (w64n oM sD) zN (lw_tvn 1 rfl ⟨((k + 1), v17), _, rfl, ⟨rfl, rfl, rfl, rfl, rfl, rfl, rfl, rfl, trivial⟩, ⟨hE17, (by rw [take_snoc [] (by simp; omega), alS_at oM]; first | exact hO17.up o2 | (have h := hO17.up o2; rw [List.set_eq_of_length_le (by rw [cst_len]; omega)]; exact h)), hF18, oM, oM, oM⟩, by first | omega | (dsimp only; omega)⟩)))
    ·
      refine q_gtr false rfl rfl (decide_eq_false hc12) zN (lw_nil (c_cond_f rfl (wp_skip (wp_plain _ [0, 0, 3, 4, 0] rfl (lw_tv 2 rfl (r_one (u := v8) (B := w4.heap.size) o1 u32 ti27 rfl rfl hO9 (by first | exact Nat.le_refl _ | omega) zN fun v19 w19 hX19 hz19 hO19 => ?_))))))
      have hzs19 : w9.heap.size ≤ w19.heap.size := hX19.size
      have hE19 : Ext w w19 := hE9.trans hX19
      have hF10x19 := hF10.ext (o2) hX19
      have hF11x19 := hF11.ext hX19
      refine e_appF o1 (v := vo) (a := v19) u32 ti27 rfl rfl rfl hF10x19 oM hO19 oM oM sD z96_0 zN fun v20 w20 F20 hC20 hF20 hO20 => ?_
      have hE20 : Ext w w20 := hC20.below hE19 (fun c hc => Nat.le_trans hE1.size (hF20 c hc).1) hE19.size
      have hzs20 : w19.heap.size ≤ w20.heap.size := hC20.size
      have hF21 := hF11x19.chg hC20 (fun hm => by have := hF20 _ hm; omega)
      exact lw_tvn 1 rfl (wp_plain _ [0, 0] rfl (q_add ((k + 1 : Nat) : Int) rfl rfl (w64n oM sD) zN (lw_tvn 1 rfl ⟨((k + 1), v20), _, rfl, ⟨rfl, rfl, rfl, rfl, rfl, rfl, rfl, rfl, trivial⟩, ⟨hE20, (by rw [take_snoc [] (by simp; omega), alS_at oM]; first | exact hO20.up o2 | (have h := hO20.up o2; rw [List.set_eq_of_length_le (by rw [cst_len]; omega)]; exact h)), hF21, oM, oM, oM⟩, by first | omega | (dsimp only; omega)⟩)))
  ·
    refine q_lss false rfl rfl (decide_eq_false hc7) zN (lw_nil (wp_seq (c_cond_f rfl (wp_exit (t_exit (t_exit (c_exit_here (wp_seq (wp_plain _ [2, 0, 0, 0, 3, 0, 0, 0, 0, 0, 0, 0] rfl ?_)))))))))
    have hfull := hL4_0
    rw [show (alS a d (o + 1)).take k = alS a d (o + 1) from List.take_of_length_le (by simp; omega)] at hfull
    refine q_loadA (p := (.pointer (some ⟨w.heap.size, 0, none⟩))) (.inr rfl) [vp] agg26 rfl (fun wq9 hw9 => LD.of_box (BX.ext (w := w4) hL4_1 hw9)) rfl zN (lw_tv 3 rfl (lw_call 86 [] [] [(.agg #[vp]), (.int .i64 f), vo, (.int .i64 ((o : Nat) : Int))] rfl rfl cf86 zN (c_impl_Program_evaluated _ dp vp (p) _ vo (alS a d (o + 1)) (o) (hp.ext (good_rdS (good_rFn dp)) hE4) _hf (RN.of_fr2 hfull (fun b hb => by cases hb)) hfull.cap (by exact hvp) oM (by rw [alS_len]; omega) (by exact alS_ser hna hnd) oM) ?_))
    rintro e22 w22 ⟨v22_0, rfl, hX22, hO22_0, hP22_0⟩
    refine ⟨_, rfl, hX22, ?_⟩
    have hzs22 : w4.heap.size ≤ w22.heap.size := hX22.size
    have hE22 : Ext w w22 := hE4.trans hX22
    have hfullx22 := hfull.ext (o2) hX22
    have hL4_1x22 := hL4_1.ext hX22
    refine lw_tv 1 rfl (q_extract (vs := [v22_0, (.int .i64 ((evT p (o + 1) f.toNat (alS a d (o + 1)) : Nat) : Int)), (.int .i64 (evD p (o + 1) f.toNat (alS a d (o + 1))))]) v22_0 rfl rfl zN (q_extract (vs := [v22_0, (.int .i64 ((evT p (o + 1) f.toNat (alS a d (o + 1)) : Nat) : Int)), (.int .i64 (evD p (o + 1) f.toNat (alS a d (o + 1))))]) (.int .i64 ((evT p (o + 1) f.toNat (alS a d (o + 1)) : Nat) : Int)) rfl rfl zN (q_extract (vs := [v22_0, (.int .i64 ((evT p (o + 1) f.toNat (alS a d (o + 1)) : Nat) : Int)), (.int .i64 (evD p (o + 1) f.toNat (alS a d (o + 1))))]) (.int .i64 (evD p (o + 1) f.toNat (alS a d (o + 1)))) rfl rfl zN (lw_tvn 3 rfl (wp_seq (wp_plain _ [0, 0, 0, 0] rfl (lw_tvn 4 rfl (wp_ret ?_))))))))
    exact post_ret [10, 11] rfl (.tuple #[v22_0, (.int .i64 (evD p (o + 1) f.toNat (alS a d (o + 1))))]) rfl ⟨v22_0, rfl, hE22, (hO22_0.up o2).low hE4.size, (by assumption)⟩
theorem z105_0 {p : Prop} (h : p := by rw [show drR p f.toNat a d = [] from hEP.non (by show evD p (1 + 1) f.toNat (alS a d (1 + 1)) ≠ 0; omega)]; exact frNil _ _ _) : p := h
theorem c_impl_Program_directional (w : World) (dp : Nat) (vp : Value) (p : List Fn) (f : Int) (va : Value) (a : List Int) (vd : Value) (d : List Int) (hp : RP [] dp w.heap vp p) (_hf : -9223372036854775808 ≤ f ∧ f ≤ 9223372036854775807) (ha : Rd (rdL rI) w.heap va a) (hd : Rd (rdL rI) w.heap vd d) (hvp : VPr p) (hf : 0 ≤ f ∧ f < ((p.length : Nat) : Int)) (hl : ((a.length : Nat) : Int) = (p.getD f.toNat Fn.zero).params) (hld : d.length = a.length) (hna : allN a = true) (hnd : allN d = true) :
    Calls Tryz.prog 105 #[(.agg #[vp]), .int .i64 f, va, vd] w (fun e w' => ∃ v0 v1 : Value, e = .returned (.tuple #[v0, v1, .int .i64 (drC p f.toNat a d)]) ∧ Ext w w' ∧ Fr (owL rI 2) w.heap.size w'.heap.size w'.heap v0 ((drR p f.toNat a d).map (fun s : Sr => s.getD 0 0)) ∧ Fr (owL rI 2) w.heap.size w'.heap.size w'.heap v1 ((drR p f.toNat a d).map (fun s : Sr => s.getD 1 0)) ∧ EvP p 2 f.toNat (alS a d 2)) := by
  refine calls_mk [(.agg #[vp]), .int .i64 f, va, vd] 44 Tryz.func105 rfl rfl sM ?_
  have hE0 : Ext w w := Ext.refl w
  have hl_vp := hp.lenle
  unfold maxLen at hl_vp
  have hl_va := ha.lenle
  have hl_vd := hd.lenle
  have hpr := hvp.par f.toNat oM
  have hou := hvp.outs f.toNat oM
  refine wp_seq (wp_plain _ [3, 0, 0, 0] rfl (r_boxA (cs := #[vp]) rfl zN fun w1 hX1 hz1 hB1 => ?_))
  have hzs1 : w.heap.size ≤ w1.heap.size := hX1.size
  have hE1 : Ext w w1 := hE0.trans hX1
  replace hB1 : BX w1.heap w.heap.size [vp] := hB1
  refine lw_tvn 3 rfl (wp_seq (wp_plain _ [2, 0, 0, 0, 3, 0, 0, 0, 0, 0] rfl (q_loadA (p := (.pointer (some ⟨w.heap.size, 0, none⟩))) (.inr rfl) [vp] agg26 rfl (fun wq9 hw9 => LD.of_box (BX.ext (w := w1) hB1 hw9)) rfl zN (lw_tv 3 rfl (lw_call 96 [] [] [(.agg #[vp]), (.int .i64 f), va, vd, (.int .i64 ((1 : Nat) : Int))] rfl rfl cf96 zN (c_impl_Program_along _ dp vp (p) _ _ _ _ _ (1) (hp.ext (good_rdS (good_rFn dp)) hE1) _hf (ha.ext g1 hE1) (hd.ext g1 hE1) (by exact hvp) oM oM (by exact hld) (by exact hna) (by exact hnd) oM) ?_)))))
  rintro e2 w2 ⟨v2_0, rfl, hX2, hO2_0, hP2_0⟩
  refine ⟨_, rfl, hX2, ?_⟩
  have hzs2 : w1.heap.size ≤ w2.heap.size := hX2.size
  have hE2 : Ext w w2 := hE1.trans hX2
  have hB1x2 := hB1.ext hX2
  refine lw_tv 1 rfl (q_extract (vs := [v2_0, (.int .i64 (evD p (1 + 1) f.toNat (alS a d (1 + 1))))]) v2_0 rfl rfl zN (q_extract (vs := [v2_0, (.int .i64 (evD p (1 + 1) f.toNat (alS a d (1 + 1))))]) (.int .i64 (evD p (1 + 1) f.toNat (alS a d (1 + 1)))) rfl rfl zN (lw_tvn 2 rfl (wp_seq (wp_seq (wp_plain _ [0, 0] rfl (lw_tv 1 rfl ?_)))))))
  have hEP : EvP p 2 f.toNat (alS a d 2) := by assumption
  by_cases hc3 : evD p (1 + 1) f.toNat (alS a d (1 + 1)) ≠ ((0 : Nat) : Int)
  ·
    exact q_neq true rfl rfl (decide_eq_true hc3) zN (lw_nil (c_cond_t rfl (wp_seq (wp_plain _ [0, 0, 0, 0] rfl (lw_tvn 4 rfl (wp_ret (t_ret (post_ret [8, 9, 10] rfl (.tuple #[(.slice none 0 0), (.slice none 0 0), (.int .i64 (evD p (1 + 1) f.toNat (alS a d (1 + 1))))]) rfl ⟨(.slice none 0 0), (.slice none 0 0), rfl, hE2, z105_0, z105_0, hEP⟩))))))))
  ·
    refine q_neq false rfl rfl (decide_eq_false hc3) zN (lw_nil (c_cond_f rfl (wp_skip (wp_seq (wp_plain _ [3, 0] rfl ?_)))))
    have hdl := hEP.len (by show evD p (1 + 1) f.toNat (alS a d (1 + 1)) = 0; omega)
    have hdl2 : (evR p (1 + 1) f.toNat (alS a d (1 + 1))).length = (p.getD f.toNat Fn.zero).outs.length := hdl
    refine r_nil (rI) good_rI u27 ti2 zN fun v4 w4 hX4 hz4 hO4 => ?_
    have hzs4 : w2.heap.size ≤ w4.heap.size := hX4.size
    have hE4 : Ext w w4 := hE2.trans hX4
    have hB1x4 := hB1x2.ext hX4
    have hO2_0x4 := hO2_0.ext (o2) hX4
    refine lw_tvn 1 rfl (wp_seq (wp_seq (wp_plain _ [0, 0, 0] rfl (lw_tv 1 rfl (q_len (v := v2_0) u32 rfl hO2_0x4.isSl zN (lw_tvn 1 rfl (wp_block ?_)))))))
    refine c_loop (S := Nat × Value) (fun (⟨k, vo⟩ : Nat × Value) => ([(13, vo), (30, (.int .i64 ((k : Nat) : Int))), (11, v2_0), (28, v2_0), (29, (.int .i64 (((evR p (1 + 1) f.toNat (alS a d (1 + 1))).length : Nat) : Int)))] : List (Nat × Value))) (fun (⟨k, vo⟩ : Nat × Value) (W : World) => Ext w W ∧ Fr (owL rI 2) w2.heap.size W.heap.size W.heap vo (((evR p (1 + 1) f.toNat (alS a d (1 + 1))).take k).map (fun s => s.getD 1 0)) ∧ Fr (owL (owL rI 2) 27) w1.heap.size w2.heap.size W.heap v2_0 (evR p (1 + 1) f.toNat (alS a d (1 + 1))) ∧ k ≤ (evR p (1 + 1) f.toNat (alS a d (1 + 1))).length ∧ w2.heap.size ≤ W.heap.size) (fun (⟨k, vo⟩ : Nat × Value) => (evR p (1 + 1) f.toNat (alS a d (1 + 1))).length - k) (0, v4) ⟨rfl, rfl, rfl, rfl, rfl, trivial⟩ ⟨hE4, hO4.up o1, hO2_0x4, oM, oM⟩ ?_
    clear hE0 hz1 hX1 hO2_0 hX2 hO4 hz4 hX4 hzs4 hE4 hO2_0x4
    rintro ⟨k, vo⟩ ρ5 w5 ⟨hE5, hL5_0, hL5_1, hp5_0, hkB6⟩
    have hzs5 : w.heap.size ≤ w5.heap.size := hE5.size
    refine wp_seq (wp_plain _ [0] rfl ?_)
    by_cases hc7 : ((k : Nat) : Int) < (((evR p (1 + 1) f.toNat (alS a d (1 + 1))).length : Nat) : Int)
    ·
      refine q_lss true rfl rfl (decide_eq_true hc7) zN (lw_nil (wp_seq (c_cond_t rfl (wp_skip (wp_seq (wp_block (wp_seq (wp_plain _ [0, 2, 0] rfl (q_idx (v := v2_0) k u32 ti27 rfl rfl hL5_1.isSl rfl sD zN ?_)))))))))
      obtain ⟨ue8, hl8, hd8⟩ := hL5_1.rd2.get (k := k) [] sD
      have hln8 := hd8.lenle
      refine q_load (p := eptr v2_0 k 1) (.inr rfl) ue8 one27 rfl hl8 zN (lw_tvn 1 rfl (wp_plain _ [0, 0, 0, 2, 3, 4, 0] rfl (lw_tv 2 rfl ?_)))
      have hrw := (hEP.ser k (by show k < (evR p (1 + 1) f.toNat (alS a d (1 + 1))).length; omega)).1
      have hrw2 : ((evR p (1 + 1) f.toNat (alS a d (1 + 1))).getD k []).length = 2 := hrw
      refine q_idx (v := ue8) 1 u27 ti2 rfl rfl hd8.isSl rfl sD zN ?_
      refine q_load (p := eptr ue8 1 1) (.inr rfl) (.int .i64 (((evR p (1 + 1) f.toNat (alS a d (1 + 1))).getD k []).getD 1 0)) one2 rfl (hd8.getI sD).1 zN ?_
      refine r_one (u := (.int .i64 (((evR p (1 + 1) f.toNat (alS a d (1 + 1))).getD k []).getD 1 0))) (B := w5.heap.size) good_rI u27 ti2 rfl rfl (frI w5.heap.size w5.heap.size _ _ (hd8.getI sD).2) (Nat.le_refl _) zN fun v9 w9 hX9 hz9 hO9 => ?_
      have hzs9 : w5.heap.size ≤ w9.heap.size := hX9.size
      have hE9 : Ext w w9 := hE5.trans hX9
      have hL5_0x9 := hL5_0.ext (o1) hX9
      have hL5_1x9 := hL5_1.ext (o2) hX9
      have hd8x9 := hd8.ext g1 hX9
      have hlx10 := ldH_ext hX9 hl8
      refine e_appI (v := vo) (a := v9) u27 ti2 rfl rfl rfl hL5_0x9 oM hO9.rd1 sD (by unfold maxLen; first | omega | assumption | (simp only [List.length_nil, List.length_cons, List.length_append, List.length_set, List.length_replicate]; omega) | (simp [List.length_nil, List.length_cons, List.length_append, List.length_set, List.length_replicate]; done) | (simp [List.length_nil, List.length_cons, List.length_append, List.length_set, List.length_replicate]; omega)) zN fun v11 w11 F11 hC11 hF11 hO11 => ?_
      have hE11 : Ext w w11 := hC11.below hE9 (fun c hc => Nat.le_trans hE2.size (hF11 c hc).1) hE9.size
      have hzs11 : w9.heap.size ≤ w11.heap.size := hC11.size
      have hF12 := hL5_1x9.chg (o2) hC11 (fun c hc => by have := hF11 c hc; omega)
      have hF13 := hO9.chg (o1) hC11 (fun c hc => by have := hF11 c hc; omega)
      exact lw_tvn 1 rfl (wp_plain _ [0, 0] rfl (q_add ((k + 1 : Nat) : Int) rfl rfl (w64n oM sD) zN (lw_tvn 1 rfl ⟨((k + 1), v11), _, rfl, ⟨rfl, rfl, rfl, rfl, rfl, trivial⟩, ⟨hE11, (by rw [map_snoc [] oM]; exact hO11.up o1), hF12, oM, oM⟩, by first | omega | (dsimp only; omega)⟩)))
    ·
      refine q_lss false rfl rfl (decide_eq_false hc7) zN (lw_nil (wp_seq (c_cond_f rfl (wp_exit (t_exit (t_exit (c_exit_here (wp_seq (wp_plain _ [0, 3, 0, 0, 0, 0] rfl (lw_tv 1 rfl (lw_call 99 [] [] [v2_0] rfl rfl cf99 zN (c_impl_firsts _ _ _ hL5_1.rd2 oM (by intro k9 hk9; have h9 : ((evR p (1 + 1) f.toNat (alS a d (1 + 1))).getD k9 []).length = 2 := (hEP.ser k9 hk9).1; omega)) ?_)))))))))))
      rintro e14 w14 ⟨v14_0, rfl, hX14, hO14_0⟩
      refine ⟨_, rfl, hX14, ?_⟩
      have hzs14 : w5.heap.size ≤ w14.heap.size := hX14.size
      have hE14 : Ext w w14 := hE5.trans hX14
      have hL5_0x14 := hL5_0.ext (o1) hX14
      have hL5_1x14 := hL5_1.ext (o2) hX14
      exact lw_tvn 4 rfl (wp_ret (post_ret [8, 9, 10] rfl (.tuple #[v14_0, vo, (.int .i64 ((0 : Nat) : Int))]) rfl ⟨v14_0, vo, (by rw [show drC p f.toNat a d = 0 from (by show evD p (1 + 1) f.toNat (alS a d (1 + 1)) = 0; omega)] <;> rfl), hE14, (hO14_0.up o1).low hE5.size, (by have h := (hL5_0x14.up o1).low hE2.size; rwa [List.take_of_length_le oM] at h), hEP⟩))
theorem c_impl_Program_jacobian (w : World) (dp : Nat) (vp : Value) (p : List Fn) (f : Int) (va : Value) (a : List Int) (hp : RP [] dp w.heap vp p) (_hf : -9223372036854775808 ≤ f ∧ f ≤ 9223372036854775807) (ha : Rd (rdL rI) w.heap va a) (hvp : VPr p) (hf : 0 ≤ f ∧ f < ((p.length : Nat) : Int)) (hl : ((a.length : Nat) : Int) = (p.getD f.toNat Fn.zero).params) (hna : allN a = true) :
    Calls Tryz.prog 89 #[(.agg #[vp]), .int .i64 f, va] w (fun e w' => ∃ v0 : Value, e = .returned (.tuple #[v0, .int .i64 (nxC p f.toNat a)]) ∧ Ext w w' ∧ Fr (owL (owL rI 2) 27) w.heap.size w'.heap.size w'.heap v0 (if nxC p f.toNat a = 0 then jaT p f.toNat a (p.getD f.toNat Fn.zero).outs.length a.length else [])) := by
  refine calls_mk [(.agg #[vp]), .int .i64 f, va] 80 Tryz.func89 rfl rfl sM ?_
  have hE0 : Ext w w := Ext.refl w
  have hl_vp := hp.lenle
  unfold maxLen at hl_vp
  have hl_va := ha.lenle
  have hpr := hvp.par f.toNat oM
  have hou := hvp.outs f.toNat oM
  have hdz : drC p f.toNat a (uniG a.length ([] : List Int) ([] : List Int).length) = nxC p f.toNat a := dr_c _ _ _ _
  refine wp_seq (wp_plain _ [3, 0, 0] rfl (r_boxA (cs := #[vp]) rfl zN fun w1 hX1 hz1 hB1 => ?_))
  have hzs1 : w.heap.size ≤ w1.heap.size := hX1.size
  have hE1 : Ext w w1 := hE0.trans hX1
  replace hB1 : BX w1.heap w.heap.size [vp] := hB1
  refine lw_tvn 2 rfl (wp_seq (wp_draw _ [1, 0, 0, 0, 0, 3, 3, 0, 0, 0, 0, 0, 0, 0] mixed (by kernel_rfl) (q_loadA (p := (.pointer (some ⟨w.heap.size, 0, none⟩))) (.inl rfl) [vp] agg26 rfl (fun wq9 hw9 => LD.of_box (BX.ext (w := w1.drew) hB1 hw9)) rfl zN (lw_tv 3 rfl (q_len (v := va) u27 rfl ha.isSl zN ?_)))))
  refine lw_call 77 [] [] [(.int .i64 ((a.length : Nat) : Int)), (.slice none 0 0)] rfl rfl cf77 zN (c_unitG _ (a.length) (.slice none 0 0) [] sD rd_nilI oM (by intro j hj; exact absurd hj (Nat.not_lt_zero j))) ?_
  rintro e2 w2 ⟨v2_0, rfl, hX2, hO2_0⟩
  refine ⟨_, rfl, hX2, ?_⟩
  replace hX2 := hX2.of_drew
  have hzs2 : w1.heap.size ≤ w2.heap.size := hX2.size
  have hE2 : Ext w w2 := hE1.trans hX2
  have hB1x2 := hB1.ext hX2
  replace hO2_0 := hO2_0.low (B' := w1.heap.size) (Nat.le_refl _)
  refine lw_call 105 [] [] [(.agg #[vp]), (.int .i64 f), va, v2_0] rfl rfl cf105 zN (c_impl_Program_directional _ dp vp (p) _ _ _ _ _ (hp.ext (good_rdS (good_rFn dp)) hE2) _hf (ha.ext g1 hE2) hO2_0.rd1 (by exact hvp) oM oM (by exact uniG_len _ _ _) (by exact hna) (by exact uniG_num _ _ _)) ?_
  rintro e3 w3 ⟨v3_0, v3_1, rfl, hX3, hO3_0, hO3_1, hP3_0⟩
  refine ⟨_, rfl, hX3, ?_⟩
  have hzs3 : w2.heap.size ≤ w3.heap.size := hX3.size
  have hE3 : Ext w w3 := hE2.trans hX3
  have hB1x3 := hB1x2.ext hX3
  have hO2_0x3 := hO2_0.ext (o1) hX3
  refine lw_tv 1 rfl (q_extract (vs := [v3_0, v3_1, (.int .i64 (drC p f.toNat a (uniG a.length ([] : List Int) ([] : List Int).length)))]) v3_0 rfl rfl zN (q_extract (vs := [v3_0, v3_1, (.int .i64 (drC p f.toNat a (uniG a.length ([] : List Int) ([] : List Int).length)))]) v3_1 rfl rfl zN (q_extract (vs := [v3_0, v3_1, (.int .i64 (drC p f.toNat a (uniG a.length ([] : List Int) ([] : List Int).length)))]) (.int .i64 (drC p f.toNat a (uniG a.length ([] : List Int) ([] : List Int).length))) rfl rfl zN (lw_tvn 3 rfl (wp_seq (wp_seq (wp_plain _ [0, 0] rfl (lw_tv 1 rfl ?_))))))))
  have hEP : EvP p 2 f.toNat (alS a (uniG a.length ([] : List Int) ([] : List Int).length) 2) := by assumption
  by_cases hc4 : drC p f.toNat a (uniG a.length ([] : List Int) ([] : List Int).length) ≠ ((0 : Nat) : Int)
  ·
    exact q_neq true rfl rfl (decide_eq_true hc4) zN (lw_nil (c_cond_t rfl (wp_seq (wp_plain _ [0, 0, 0] rfl (lw_tvn 3 rfl (wp_ret (t_ret (post_ret [6, 7] rfl (.tuple #[(.slice none 0 0), (.int .i64 (drC p f.toNat a (uniG a.length ([] : List Int) ([] : List Int).length)))]) rfl ⟨(.slice none 0 0), (by rw [hdz]), hE3, (by rw [if_neg oM]; exact frNil _ _ _)⟩))))))))
  ·
    refine q_neq false rfl rfl (decide_eq_false hc4) zN (lw_nil (c_cond_f rfl (wp_skip (wp_seq (wp_plain _ [3, 0] rfl ?_)))))
    have hc0 : nxC p f.toNat a = 0 := by omega
    have hvl : (drR p f.toNat a (uniG a.length ([] : List Int) ([] : List Int).length)).length = (p.getD f.toNat Fn.zero).outs.length := hEP.len (by show drC p f.toNat a (uniG a.length ([] : List Int) ([] : List Int).length) = 0; omega)
    have hvm : ((drR p f.toNat a (uniG a.length ([] : List Int) ([] : List Int).length)).map (fun s => s.getD 0 0)).length = (p.getD f.toNat Fn.zero).outs.length := by rw [List.length_map]; exact hvl
    refine r_nil (owL rI 2) o1 u32 ti27 zN fun v5 w5 hX5 hz5 hO5 => ?_
    have hzs5 : w3.heap.size ≤ w5.heap.size := hX5.size
    have hE5 : Ext w w5 := hE3.trans hX5
    have hB1x5 := hB1x3.ext hX5
    have hO2_0x5 := hO2_0x3.ext (o1) hX5
    have hO3_0x5 := hO3_0.ext (o1) hX5
    have hO3_1x5 := hO3_1.ext (o1) hX5
    refine lw_tvn 1 rfl (wp_seq (wp_seq (wp_plain _ [0, 0, 0] rfl (lw_tv 1 rfl (q_len (v := v3_0) u27 rfl hO3_0x5.isSl zN (lw_tvn 1 rfl (wp_block ?_)))))))
    refine c_loop (S := Nat × Value) (fun (⟨k, vo⟩ : Nat × Value) => ([(11, vo), (35, (.int .i64 ((k : Nat) : Int))), (1, (.int .i64 f)), (2, va), (3, (.pointer (some ⟨w.heap.size, 0, none⟩))), (34, (.int .i64 ((((drR p f.toNat a (uniG a.length ([] : List Int) ([] : List Int).length)).map (fun s : Sr => s.getD 0 0)).length : Nat) : Int)))] : List (Nat × Value))) (fun (⟨k, vo⟩ : Nat × Value) (W : World) => Ext w W ∧ Fr (owL (owL rI 2) 27) w3.heap.size W.heap.size W.heap vo (List.replicate k []) ∧ BX W.heap w.heap.size [vp] ∧ k ≤ (((drR p f.toNat a (uniG a.length ([] : List Int) ([] : List Int).length)).map (fun s : Sr => s.getD 0 0))).length ∧ w.heap.size < w3.heap.size ∧ w3.heap.size ≤ W.heap.size) (fun (⟨k, vo⟩ : Nat × Value) => (((drR p f.toNat a (uniG a.length ([] : List Int) ([] : List Int).length)).map (fun s : Sr => s.getD 0 0))).length - k) (0, v5) ⟨rfl, rfl, rfl, rfl, rfl, rfl, trivial⟩ ⟨hE5, hO5.up o2, hB1x5, oM, oM, oM⟩ ?_
    clear hE0 hz1 hX1 hzs1 hE1 hO2_0 hX2 hzs2 hE2 hO3_1 hO3_0 hX3 hO2_0x3 hO5 hz5 hX5 hzs5 hE5 hO2_0x5 hO3_0x5 hO3_1x5
    rintro ⟨k, vo⟩ ρ7 w7 ⟨hE7, hL7_0, hL7_1, hp7_0, hkg6, hkB8⟩
    have hzs7 : w.heap.size ≤ w7.heap.size := hE7.size
    have hq9 := hL7_1.lt
    refine wp_seq (wp_plain _ [0] rfl ?_)
    by_cases hc10 : ((k : Nat) : Int) < ((((drR p f.toNat a (uniG a.length ([] : List Int) ([] : List Int).length)).map (fun s : Sr => s.getD 0 0)).length : Nat) : Int)
    ·
      refine q_lss true rfl rfl (decide_eq_true hc10) zN (lw_nil (wp_seq (c_cond_t rfl (wp_skip (wp_seq (wp_block (wp_plain _ [0, 3, 3, 4, 0] rfl (lw_tv 1 rfl (r_nil (rI) good_rI u27 ti2 zN fun v11 w11 hX11 hz11 hO11 => ?_)))))))))
      have hzs11 : w7.heap.size ≤ w11.heap.size := hX11.size
      have hE11 : Ext w w11 := hE7.trans hX11
      have hL7_0x11 := hL7_0.ext (o2) hX11
      have hL7_1x11 := hL7_1.ext hX11
      refine r_one (u := v11) (B := w7.heap.size) o1 u32 ti27 rfl rfl hO11 (by first | exact Nat.le_refl _ | omega) zN fun v12 w12 hX12 hz12 hO12 => ?_
      have hzs12 : w11.heap.size ≤ w12.heap.size := hX12.size
      have hE12 : Ext w w12 := hE11.trans hX12
      have hL7_0x12 := hL7_0x11.ext (o2) hX12
      have hL7_1x12 := hL7_1x11.ext hX12
      refine e_appF o1 (v := vo) (a := v12) u32 ti27 rfl rfl rfl hL7_0x12 oM hO12 oM oM sD (by unfold maxLen; first | omega | assumption | (simp only [List.length_nil, List.length_cons, List.length_append, List.length_set, List.length_replicate]; omega) | (simp [List.length_nil, List.length_cons, List.length_append, List.length_set, List.length_replicate]; done) | (simp [List.length_nil, List.length_cons, List.length_append, List.length_set, List.length_replicate]; omega)) zN fun v13 w13 F13 hC13 hF13 hO13 => ?_
      have hE13 : Ext w w13 := hC13.below hE12 (fun c hc => Nat.le_trans hE3.size (hF13 c hc).1) hE12.size
      have hzs13 : w12.heap.size ≤ w13.heap.size := hC13.size
      have hF14 := hL7_1x12.chg hC13 (fun hm => by have := hF13 _ hm; omega)
      exact lw_tvn 1 rfl (wp_plain _ [0, 0] rfl (q_add ((k + 1 : Nat) : Int) rfl rfl (w64n oM sD) zN (lw_tvn 1 rfl ⟨((k + 1), v13), _, rfl, ⟨rfl, rfl, rfl, rfl, rfl, rfl, trivial⟩, ⟨hE13, (by rw [List.replicate_succ']; exact hO13.up o2), hF14, oM, oM, oM⟩, by first | omega | (dsimp only; omega)⟩)))
    ·
      refine q_lss false rfl rfl (decide_eq_false hc10) zN (lw_nil (wp_seq (c_cond_f rfl (wp_exit (t_exit (t_exit (c_exit_here (wp_seq (wp_seq (wp_plain _ [0, 0, 0] rfl (lw_tv 1 rfl (q_len (v := va) u27 rfl ha.isSl zN (lw_tvn 1 rfl (wp_block ?_))))))))))))))
      refine c_loop (S := Nat) (fun (i : Nat) => ([(44, (.int .i64 ((i : Nat) : Int))), (1, (.int .i64 f)), (2, va), (3, (.pointer (some ⟨w.heap.size, 0, none⟩))), (11, vo), (43, (.int .i64 ((a.length : Nat) : Int)))] : List (Nat × Value))) (fun (i : Nat) (W : World) => Ext w W ∧ Fr (owL (owL rI 2) 27) w3.heap.size W.heap.size W.heap vo (jaT p f.toNat a (p.getD f.toNat Fn.zero).outs.length i) ∧ BX W.heap w.heap.size [vp] ∧ i ≤ a.length ∧ w.heap.size < w3.heap.size ∧ w3.heap.size ≤ W.heap.size) (fun (i : Nat) => a.length - i) 0 ⟨rfl, rfl, rfl, rfl, rfl, rfl, trivial⟩ ⟨hE7, (by have h := hL7_0.up o2; rw [show k = (p.getD f.toNat Fn.zero).outs.length from by omega, ← ja_0 p f.toNat a] at h; exact h), hL7_1, oM, oM, oM⟩ ?_
      clear hL7_1 hL7_0 hE7 hzs7
      rintro i ρ16 w16 ⟨hE16, hL16_0, hL16_1, hp16_0, hkg15, hkB17⟩
      have hzs16 : w.heap.size ≤ w16.heap.size := hE16.size
      have hq18 := hL16_1.lt
      refine wp_seq (wp_plain _ [0] rfl ?_)
      by_cases hc19 : ((i : Nat) : Int) < ((a.length : Nat) : Int)
      ·
        refine q_lss true rfl rfl (decide_eq_true hc19) zN (lw_nil (wp_seq (c_cond_t rfl (wp_skip (wp_seq (wp_block (wp_seq (wp_plain _ [0, 0] rfl (lw_tvn 2 rfl (wp_seq (wp_draw _ [1, 0, 0, 0, 0, 0, 3, 3, 3, 0, 0, 0, 0, 0, 0, 0] mixed (by kernel_rfl) (q_loadA (p := (.pointer (some ⟨w.heap.size, 0, none⟩))) (.inl rfl) [vp] agg26 rfl (fun wq9 hw9 => LD.of_box (BX.ext (w := w16.drew) hL16_1 hw9)) rfl zN (lw_tv 3 rfl (q_len (v := va) u27 rfl ha.isSl zN (lw_tv 1 rfl (r_one (u := (.int .i64 ((i : Nat) : Int))) (B := w16.heap.size) good_rI u27 ti2 rfl rfl (frI w16.heap.size w16.heap.size _ _ oM) (Nat.le_refl _) zN fun v20 w20 hX20 hz20 hO20 => ?_))))))))))))))))
        replace hX20 := hX20.of_drew
        have hzs20 : w16.heap.size ≤ w20.heap.size := hX20.size
        have hE20 : Ext w w20 := hE16.trans hX20
        have hL16_0x20 := hL16_0.ext (o2) hX20
        have hL16_1x20 := hL16_1.ext hX20
        refine lw_call 77 [] [] [(.int .i64 ((a.length : Nat) : Int)), v20] rfl rfl cf77 zN (c_unitG _ (a.length) _ _ sD hO20.rd1 oM (by intro j hj; have hj0 : j = 0 := (by have h9 : j < 1 := hj; omega); subst hj0; show 0 ≤ ((i : Nat) : Int) ∧ ((i : Nat) : Int) < _; omega)) ?_
        rintro e21 w21 ⟨v21_0, rfl, hX21, hO21_0⟩
        refine ⟨_, rfl, hX21, ?_⟩
        have hzs21 : w20.heap.size ≤ w21.heap.size := hX21.size
        have hE21 : Ext w w21 := hE20.trans hX21
        have hL16_0x21 := hL16_0x20.ext (o2) hX21
        have hL16_1x21 := hL16_1x20.ext hX21
        have hO20x21 := hO20.ext (o1) hX21
        refine lw_call 105 [] [] [(.agg #[vp]), (.int .i64 f), va, v21_0] rfl rfl cf105 zN (c_impl_Program_directional _ dp vp (p) _ _ _ _ _ (hp.ext (good_rdS (good_rFn dp)) hE21) _hf (ha.ext g1 hE21) hO21_0.rd1 (by exact hvp) oM oM (by exact uniG_len _ _ _) (by exact hna) (by exact uniG_num _ _ _)) ?_
        rintro e22 w22 ⟨v22_0, v22_1, rfl, hX22, hO22_0, hO22_1, hP22_0⟩
        refine ⟨_, rfl, hX22, ?_⟩
        have hzs22 : w21.heap.size ≤ w22.heap.size := hX22.size
        have hE22 : Ext w w22 := hE21.trans hX22
        have hL16_0x22 := hL16_0x21.ext (o2) hX22
        have hL16_1x22 := hL16_1x21.ext hX22
        have hO20x22 := hO20x21.ext (o1) hX22
        have hO21_0x22 := hO21_0.ext (o1) hX22
        refine lw_tv 1 rfl (q_extract (vs := [v22_0, v22_1, (.int .i64 (drC p f.toNat a (uniG a.length ([((i : Nat) : Int)]) ([((i : Nat) : Int)]).length)))]) v22_0 rfl rfl zN (q_extract (vs := [v22_0, v22_1, (.int .i64 (drC p f.toNat a (uniG a.length ([((i : Nat) : Int)]) ([((i : Nat) : Int)]).length)))]) v22_1 rfl rfl zN (q_extract (vs := [v22_0, v22_1, (.int .i64 (drC p f.toNat a (uniG a.length ([((i : Nat) : Int)]) ([((i : Nat) : Int)]).length)))]) (.int .i64 (drC p f.toNat a (uniG a.length ([((i : Nat) : Int)]) ([((i : Nat) : Int)]).length))) rfl rfl zN (lw_tvn 3 rfl (wp_seq (wp_plain _ [0, 0, 0] rfl (lw_tv 1 rfl ?_)))))))
        have hEI : EvP p 2 f.toNat (alS a (uniG a.length [((i : Nat) : Int)] [((i : Nat) : Int)].length) 2) := by assumption
        have hdi : drC p f.toNat a (uniG a.length [((i : Nat) : Int)] [((i : Nat) : Int)].length) = nxC p f.toNat a := dr_c _ _ _ _
        have hil : (drR p f.toNat a (uniG a.length [((i : Nat) : Int)] [((i : Nat) : Int)].length)).length = (p.getD f.toNat Fn.zero).outs.length := hEI.len (by show drC p f.toNat a (uniG a.length [((i : Nat) : Int)] [((i : Nat) : Int)].length) = 0; omega)
        have him : ((drR p f.toNat a (uniG a.length [((i : Nat) : Int)] [((i : Nat) : Int)].length)).map (fun s => s.getD 1 0)).length = (p.getD f.toNat Fn.zero).outs.length := by rw [List.length_map]; exact hil
        refine q_len (v := v22_1) u27 rfl hO22_1.isSl zN (lw_tvn 1 rfl (wp_block ?_))
        obtain ⟨Xn25, kO25, kN25, kR25⟩ := id hO22_1
        have kY25 := FrX.of hL16_0x22 oM kR25
        refine c_loop (S := Nat) (fun (r : Nat) => ([(62, (.int .i64 ((r : Nat) : Int))), (1, (.int .i64 f)), (2, va), (3, (.pointer (some ⟨w.heap.size, 0, none⟩))), (11, vo), (43, (.int .i64 ((a.length : Nat) : Int))), (44, (.int .i64 ((i : Nat) : Int))), (60, v22_1), (61, (.int .i64 ((((drR p f.toNat a (uniG a.length ([((i : Nat) : Int)]) ([((i : Nat) : Int)]).length)).map (fun s : Sr => s.getD 1 0)).length : Nat) : Int)))] : List (Nat × Value))) (fun (r : Nat) (W : World) => Ext w W ∧ FrX 2 27 w3.heap.size Xn25 W.heap vo (mix r (jaT p f.toNat a (p.getD f.toNat Fn.zero).outs.length (i + 1)) (jaT p f.toNat a (p.getD f.toNat Fn.zero).outs.length i)) ∧ owL rI 2 W.heap v22_1 ((drR p f.toNat a (uniG a.length ([((i : Nat) : Int)]) ([((i : Nat) : Int)]).length)).map (fun s : Sr => s.getD 1 0)) Xn25 ∧ BX W.heap w.heap.size [vp] ∧ r ≤ (((drR p f.toNat a (uniG a.length ([((i : Nat) : Int)]) ([((i : Nat) : Int)]).length)).map (fun s : Sr => s.getD 1 0))).length ∧ w.heap.size < w3.heap.size ∧ w3.heap.size ≤ W.heap.size) (fun (r : Nat) => (((drR p f.toNat a (uniG a.length ([((i : Nat) : Int)]) ([((i : Nat) : Int)]).length)).map (fun s : Sr => s.getD 1 0))).length - r) 0 ⟨rfl, rfl, rfl, rfl, rfl, rfl, rfl, rfl, rfl, trivial⟩ ⟨hE22, (by rw [mix_zero]; exact kY25), kO25, hL16_1x22, oM, oM, oM⟩ ?_
        clear hL16_1 hL16_0 hE16 hzs16 hO20 hz20 hX20 hzs20 hE20 hL16_0x20 hL16_1x20 hO21_0 hX21 hL16_0x21 hL16_1x21 hO20x21 hO22_1 hO22_0 hX22 hL16_0x22 hL16_1x22 hO20x22 hO21_0x22
        rintro r ρ24 w24 ⟨hE24, hL24_0, hL24_1, hL24_2, hp24_0, hkg23, hkB26⟩
        have hzs24 : w.heap.size ≤ w24.heap.size := hE24.size
        have hlm := mix_len r (jaT p f.toNat a (p.getD f.toNat Fn.zero).outs.length (i + 1)) (jaT p f.toNat a (p.getD f.toNat Fn.zero).outs.length i) sM
        rw [jaT_len] at hlm
        have hq27 := hL24_2.lt
        refine wp_seq (wp_plain _ [0] rfl ?_)
        by_cases hc28 : ((r : Nat) : Int) < ((((drR p f.toNat a (uniG a.length ([((i : Nat) : Int)]) ([((i : Nat) : Int)]).length)).map (fun s : Sr => s.getD 1 0)).length : Nat) : Int)
        ·
          refine q_lss true rfl rfl (decide_eq_true hc28) zN (lw_nil (wp_seq (c_cond_t rfl (wp_skip (wp_seq (wp_block (wp_seq (wp_plain _ [0, 0, 2, 0, 0] rfl (lw_tv 1 rfl (q_idx (v := v22_1) r u27 ti2 rfl rfl (hL24_1.rd id).isSl rfl sD zN ?_))))))))))
          refine q_load (p := eptr v22_1 r 1) (.inr rfl) (.int .i64 (((drR p f.toNat a (uniG a.length ([((i : Nat) : Int)]) ([((i : Nat) : Int)]).length)).map (fun s : Sr => s.getD 1 0)).getD r 0)) one2 rfl ((own_rdI hL24_1).getI (k := r) sD).1 zN (lw_tvn 2 rfl (wp_plain _ [0, 0, 0, 0, 0, 2, 0, 3, 4, 0, 4] rfl (lw_tv 4 rfl ?_)))
          refine q_idx (v := vo) r u32 ti27 rfl rfl hL24_0.isSl rfl sD zN ?_
          obtain ⟨ue29, hl29, hd29⟩ := hL24_0.rd2.get (k := r) [] sD
          have hln29 := hd29.lenle
          refine q_load (p := eptr vo r 1) (.inr rfl) ue29 one27 rfl hl29 zN (lw_tv 1 rfl (r_one (u := (.int .i64 (((drR p f.toNat a (uniG a.length ([((i : Nat) : Int)]) ([((i : Nat) : Int)]).length)).map (fun s : Sr => s.getD 1 0)).getD r 0))) (B := w24.heap.size) good_rI u27 ti2 rfl rfl (frI w24.heap.size w24.heap.size _ _ ((own_rdI hL24_1).getI (k := r) sD).2) (Nat.le_refl _) zN fun v30 w30 hX30 hz30 hO30 => ?_))
          have hzs30 : w24.heap.size ≤ w30.heap.size := hX30.size
          have hE30 : Ext w w30 := hE24.trans hX30
          have hL24_0x30 := hL24_0.ext (o2) hX30
          have hL24_1x30 := own_ext (o1) hL24_1 hX30
          have hL24_2x30 := hL24_2.ext hX30
          have hd29x30 := hd29.ext g1 hX30
          have hlx31 := ldH_ext hX30 hl29
          refine e_appP (v := vo) (u := ue29) (a := v30) (r := r) u27 ti2 rfl rfl rfl hL24_0x30 oM (o1.lt hL24_1x30) sD hlx31 hO30.rd1 (by have h9 := ja_row (p := p) (f := f.toNat) (a := a) (K := (p.getD f.toNat Fn.zero).outs.length) (i := i) (r := r) oM; simp only [List.length_cons, List.length_nil]; omega) (by unfold maxLen; have h9 := ja_row (p := p) (f := f.toNat) (a := a) (K := (p.getD f.toNat Fn.zero).outs.length) (i := i) (r := r) oM; simp only [List.length_cons, List.length_nil]; omega) zN fun v32 w32 F32 hC32 hF32 hO32 => ?_
          have hE32 : Ext w w32 := hC32.below hE30 (fun b hb => Nat.le_trans hE3.size (hF32 b hb).1) hE30.size
          have hzs32 : w30.heap.size ≤ w32.heap.size := hC32.size
          have hF33 := own_keepG o1 hL24_1x30 hC32 (fun b hb => (hF32 b hb).2.1)
          have hF34 := hL24_2x30.chg hC32 (fun hm => by have := (hF32 _ hm).1; omega)
          refine q_idx (v := vo) r u32 ti27 rfl rfl hO32.isSl rfl sD zN (e_setP (v := vo) (u := v32) (w := w32) sz27 rfl rfl hO32 zN fun w35 F35 hC35 hz35 hF35 hO35 => ?_)
          have hE35 : Ext w w35 := hC35.below hE32 (fun b hb => Nat.le_trans hE3.size (hF35 b hb).1) hE32.size
          have hzs35 : w32.heap.size ≤ w35.heap.size := hC35.size
          have hF36 := own_keepG o1 hF33 hC35 (fun b hb => (hF35 b hb).2.1)
          have hF37 := hF34.chg hC35 (fun hm => by have := (hF35 _ hm).1; omega)
          exact lw_nil (wp_plain _ [0, 0] rfl (q_add ((r + 1 : Nat) : Int) rfl rfl (w64n oM sD) zN (lw_tvn 1 rfl ⟨(r + 1), _, rfl, ⟨rfl, rfl, rfl, rfl, rfl, rfl, rfl, rfl, rfl, trivial⟩, ⟨hE35, (by have h := hO35; rw [map_getD (d := []) oM] at h; rw [← ja_set oM]; exact h), hF36, hF37, oM, oM, oM⟩, by first | omega | (dsimp only; omega)⟩)))
        ·
          refine q_lss false rfl rfl (decide_eq_false hc28) zN (lw_nil (wp_seq (c_cond_f rfl (wp_exit (t_exit (t_exit (c_exit_here (wp_plain _ [0, 0] rfl (q_add ((i + 1 : Nat) : Int) rfl rfl (w64n oM sD) zN (lw_tvn 1 rfl ?_))))))))))
          exact ⟨(i + 1), _, rfl, ⟨rfl, rfl, rfl, rfl, rfl, rfl, trivial⟩, ⟨hE24, (by have h := hL24_0.fr; rwa [mix_all sM (by rw [jaT_len]; omega)] at h), hL24_2, oM, oM, oM⟩, by first | omega | (dsimp only; omega)⟩
      ·
        exact q_lss false rfl rfl (decide_eq_false hc19) zN (lw_nil (wp_seq (c_cond_f rfl (wp_exit (t_exit (t_exit (c_exit_here (wp_seq (wp_plain _ [0, 0, 0] rfl (lw_tvn 3 rfl (wp_ret (post_ret [6, 7] rfl (.tuple #[vo, (.int .i64 ((0 : Nat) : Int))]) rfl ⟨vo, (by rw [hc0]; rfl), hE16, (by have h := (hL16_0.up o2).low hE3.size; rw [if_pos hc0]; rwa [show i = a.length from by omega] at h)⟩))))))))))))
end Go.Proofs.YtnokbaiemimhjaaGreat
namespace Go.Proofs.YtnokbaiemimhjaaGreat
open Go Go.RowKit
set_option linter.unusedVariables false
set_option linter.unusedSimpArgs false
set_option maxHeartbeats 4000000
set_option maxRecDepth 100000
attribute [local irreducible] LW
theorem c_impl_isPicked (w : World) (dp : Nat) (vp : Value) (p : List Fn) (f : Int) (pick : Int) (va : Value) (a : List Int) (vd : Value) (d : List Int) (hp : RP [] dp w.heap vp p) (_hf : -9223372036854775808 ≤ f ∧ f ≤ 9223372036854775807) (_hpick : -9223372036854775808 ≤ pick ∧ pick ≤ 9223372036854775807) (ha : Rd (rdL rI) w.heap va a) (hd : Rd (rdL rI) w.heap vd d) (hli : liC p f a d = 0) (hz : SzP p) (hpk : 0 ≤ pick ∧ pick < (((p.getD f.toNat Fn.zero).outs.length : Nat) : Int)) :
    Calls Tryz.prog 69 #[(.agg #[vp]), .int .i64 f, .int .i64 pick, va, vd] w (fun e w' => e = .returned (.int .i64 ((0 : Nat) : Int)) ∧ Ext w w') := by
  refine calls_mk [(.agg #[vp]), .int .i64 f, .int .i64 pick, va, vd] 33 Tryz.func69 rfl rfl sM ?_
  have hE0 : Ext w w := Ext.refl w
  have hl_vp := hp.lenle
  unfold maxLen at hl_vp
  have hl_va := ha.lenle
  have hl_vd := hd.lenle
  have hl0 := liC_0 hli
  have hvp := okP_vpr hl0.1
  have hou := hvp.outs f.toNat oM
  refine wp_seq (wp_plain _ [3, 0] rfl (r_boxA (cs := #[vp]) rfl zN fun w1 hX1 hz1 hB1 => ?_))
  have hzs1 : w.heap.size ≤ w1.heap.size := hX1.size
  have hE1 : Ext w w1 := hE0.trans hX1
  replace hB1 : BX w1.heap w.heap.size [vp] := hB1
  refine lw_tvn 1 rfl (wp_seq (wp_plain _ [2, 0, 0, 0, 3, 0] rfl (q_loadA (p := (.pointer (some ⟨w.heap.size, 0, none⟩))) (.inr rfl) [vp] agg26 rfl (fun wq9 hw9 => LD.of_box (BX.ext (w := w1) hB1 hw9)) rfl zN (lw_tv 3 rfl (lw_call 95 [] [] [(.agg #[vp]), (.int .i64 f), va, vd] rfl rfl cf95 zN (c_impl_isLine _ dp vp (p) _ _ _ _ _ (hp.ext (good_rdS (good_rFn dp)) hE1) _hf (ha.ext g1 hE1) (hd.ext g1 hE1) (by exact hz)) ?_)))))
  rintro e2 w2 ⟨rfl, hX2⟩
  refine ⟨_, rfl, hX2, ?_⟩
  have hzs2 : w1.heap.size ≤ w2.heap.size := hX2.size
  have hE2 : Ext w w2 := hE1.trans hX2
  have hB1x2 := hB1.ext hX2
  refine lw_tvn 1 rfl (wp_seq (wp_seq (wp_plain _ [0, 0, 0, 0, 0, 2, 0, 0, 0, 2, 0, 0, 0, 0, 0] rfl (lw_tv 1 rfl ?_))))
  have hc3 : liC p f a d = ((0 : Nat) : Int) := hli
  refine q_eql true rfl rfl (decide_eq_true hc3) zN (lw_tv 2 rfl (q_fldP (p := (.pointer (some ⟨w.heap.size, 0, none⟩))) (b := w.heap.size) (o := 0) 0 fd26_0 rfl rfl (zS (e := 19) rfl rfl rfl) (q_load (p := (padd (.pointer (some ⟨w.heap.size, 0, none⟩)) 0)) (.inr rfl) vp one24 rfl (hB1x2.ldp (i := 0) sM) (zS (e := 19) rfl rfl rfl) (lw_tv 1 rfl (q_idx (v := vp) ((f).toNat) u24 tiS55 rfl rfl hp.isSl oM sD (zS (e := 19) rfl rfl rfl) ?_)))))
  obtain ⟨cs4, hr4, hl4⟩ := hp.get (good_rFn dp) Fn.zero (k := ((f).toNat)) sD
  obtain ⟨ve4, rfl, hx4⟩ := RF.of hr4
  have hln4 := hx4.rn.lenle
  unfold maxLen at hln4
  refine q_fldL (p := eptr vp ((f).toNat) 3) 2 fd55_2 rfl (hl4 _ (Chg.of_ext [] hE2)) (zS (e := 19) rfl rfl rfl) (q_load (p := (padd (eptr vp ((f).toNat) 3) 2)) (.inr rfl) ve4 one53 rfl ((hl4 _ (Chg.of_ext [] hE2)).ld (i := 2) (by simp [exC, fnC])) (zS (e := 19) rfl rfl rfl) (q_len (v := ve4) u53 rfl hx4.rn.isSl (zS (e := 19) rfl rfl rfl) ?_))
  refine q_sub (((((p.getD ((f).toNat) Fn.zero).outs).length : Nat) : Int) - ((1 : Nat) : Int)) rfl rfl (w64 sD sD) (zS (e := 19) rfl rfl rfl) ?_
  refine lw_callq 72 [] [] [(.int .i64 pick), (.int .i64 ((0 : Nat) : Int)), (.int .i64 (((((p.getD ((f).toNat) Fn.zero).outs).length : Nat) : Int) - ((1 : Nat) : Int)))] rfl rfl cf72 (zS (e := 19) rfl rfl rfl) (.bool (decide (((0 : Nat) : Int) ≤ pick) && decide (pick ≤ (((((p.getD ((f).toNat) Fn.zero).outs).length : Nat) : Int) - ((1 : Nat) : Int))))) (fun wq => c_impl_within wq _ _ _ _hpick oM oM) ?_
  rw [show (decide (((0 : Nat) : Int) ≤ pick) && decide (pick ≤ (((((p.getD ((f).toNat) Fn.zero).outs).length : Nat) : Int) - ((1 : Nat) : Int)))) = true from (by rw [decide_eq_true oM, decide_eq_true oM]; rfl)]
  exact q_not false rfl rfl (zS (e := 19) rfl rfl rfl) (lw_tvn 1 rfl (c_cond_f rfl (wp_skip (wp_seq (wp_plain _ [0, 0] rfl (lw_tvn 2 rfl (wp_ret (post_ret [10] rfl (.int .i64 (liC p f a d)) rfl ⟨(by rw [hli]; rfl), hE2⟩))))))))
end Go.Proofs.YtnokbaiemimhjaaGreat
namespace Go.Proofs.YtnokbaiemimhjaaGreat
open Go Go.RowKit
set_option linter.unusedVariables false
set_option linter.unusedSimpArgs false
set_option maxHeartbeats 4000000
set_option maxRecDepth 100000
attribute [local irreducible] LW
theorem c_impl_composed (w : World) (va : Value) (a : List Int) (vb : Value) (b : List Int) (ha : Rd (rdL rI) w.heap va a) (hb : Rd (rdL rI) w.heap vb b) (hla : a.length ≤ 1000000000000) (hl : b.length = a.length) (hqa : allN a = true) (hqb : allN b = true) :
    Calls Tryz.prog 83 #[va, vb] w (fun e w' => ∃ v0 : Value, e = .returned (v0) ∧ Ext w w' ∧ Fr (owL rI 2) w.heap.size w'.heap.size w'.heap v0 (cpS a b)) := by
  refine calls_mk [va, vb] 32 Tryz.func83 rfl rfl sM ?_
  have hE0 : Ext w w := Ext.refl w
  have hl_va := ha.lenle
  have hl_vb := hb.lenle
  refine wp_seq (wp_plain _ [0] rfl (lw_tvn 1 rfl (wp_seq (wp_plain _ [0, 0, 3, 0] rfl (lw_tv 1 rfl (q_len (v := va) u27 rfl ha.isSl zN (r_make (n := a.length) u27 ti2 rfl rfl rfl sD zN fun v1 w1 hX1 hz1 hO1 => ?_)))))))
  have hzs1 : w.heap.size ≤ w1.heap.size := hX1.size
  have hE1 : Ext w w1 := hE0.trans hX1
  refine lw_tvn 1 rfl (wp_seq (wp_seq (wp_plain _ [0, 0, 0, 0] rfl (lw_tv 1 rfl (q_len (v := va) u27 rfl ha.isSl zN (q_sub (((a.length : Nat) : Int) - 1 - ((0 : Nat) : Int)) rfl rfl (w64e oM oM oM) zN (lw_tvn 1 rfl (wp_block (c_loop (S := Nat × Value) (fun (⟨j, vo⟩ : Nat × Value) => ([(5, vo), (6, (.int .i64 (((a.length : Nat) : Int) - 1 - ((j : Nat) : Int)))), (0, va), (1, vb)] : List (Nat × Value))) (fun (⟨j, vo⟩ : Nat × Value) (W : World) => Ext w W ∧ Fr (owL rI 2) w.heap.size W.heap.size W.heap vo (cpL a b j) ∧ j ≤ a.length) (fun (⟨j, vo⟩ : Nat × Value) => a.length - j) (0, v1) ⟨rfl, rfl, rfl, rfl, trivial⟩ ⟨hE1, (by exact hO1.up o1), oM⟩ ?_)))))))))
  clear hE0 hO1 hz1 hX1 hzs1 hE1
  rintro ⟨j, vo⟩ ρ2 w2 ⟨hE2, hL2_0, hp2_0⟩
  have hzs2 : w.heap.size ≤ w2.heap.size := hE2.size
  refine wp_seq (wp_seq (wp_plain _ [0, 0] rfl (lw_tv 1 rfl ?_)))
  by_cases hc3 : ((0 : Nat) : Int) ≤ (((a.length : Nat) : Int) - 1 - ((j : Nat) : Int))
  ·
    refine q_geq true rfl rfl (decide_eq_true hc3) zN (lw_nil (c_cond_t rfl (wp_skip (wp_seq (wp_block (wp_seq (wp_plain _ [0, 0, 3, 0] rfl (lw_tv 2 rfl (lw_call 151 [] [] [vo, vb] rfl rfl cf151 zN (c_impl_product _ _ _ _ _ hL2_0.rd1 (hb.ext g1 hE2) (by rw [cpL_len]; omega) (by rw [cpL_len]; omega) (by exact cpL_num _ _ _) (by exact hqb)) ?_)))))))))
    rintro e4 w4 ⟨v4_0, rfl, hX4, hO4_0⟩
    refine ⟨_, rfl, hX4, ?_⟩
    have hzs4 : w2.heap.size ≤ w4.heap.size := hX4.size
    have hE4 : Ext w w4 := hE2.trans hX4
    have hL2_0x4 := hL2_0.ext (o1) hX4
    refine lw_tvn 1 rfl (wp_draw _ [0, 0, 0, 1, 0, 0, 0, 1, 0, 0, 0, 4] mixed (by kernel_rfl) ?_)
    have hpn := allN_get (proS_num (cpL a b j) b) 0
    have han := allN_get hqa (((a.length : Nat) : Int) - 1 - ((j : Nat) : Int)).toNat
    have hpl : (proS (cpL a b j) b).length = a.length := by rw [proS_len, cpL_len]
    refine lw_tv 2 rfl (q_idx (v := v4_0) 0 u27 ti2 rfl rfl hO4_0.isSl rfl oM zN (q_load (p := eptr v4_0 0 1) (.inl rfl) (.int .i64 ((proS (cpL a b j) b).getD 0 0)) one2 rfl (hO4_0.rd1.getI oM).1 zN (lw_tv 2 rfl (q_idx (v := va) (((((a.length : Nat) : Int) - 1 - ((j : Nat) : Int))).toNat) u27 ti2 rfl rfl ha.isSl oM sD zN ?_))))
    refine q_load (p := eptr va (((((a.length : Nat) : Int) - 1 - ((j : Nat) : Int))).toNat) 1) (.inl rfl) (.int .i64 (a.getD (((((a.length : Nat) : Int) - 1 - ((j : Nat) : Int))).toNat) 0)) one2 rfl (ldH_ext hE4.drew (ha.getI sD).1) zN ?_
    refine q_add (((proS (cpL a b j) b).getD 0 0) + (a.getD (((((a.length : Nat) : Int) - 1 - ((j : Nat) : Int))).toNat) 0)) rfl rfl (w64 sD sD) zN ?_
    refine q_rem (md (((proS (cpL a b j) b).getD 0 0) + (a.getD (((((a.length : Nat) : Int) - 1 - ((j : Nat) : Int))).toNat) 0))) rfl rfl (by decide) (Int.tmod_eq_emod_of_nonneg oM) zN (q_idx (v := v4_0) 0 u27 ti2 rfl rfl hO4_0.isSl rfl oM zN (e_setI (v := v4_0) (w := w4.drew) sz2 rfl rfl (md_rng _) hO4_0 oM zN fun w5 F5 hC5 hz5 hF5 hO5 => ?_))
    replace hC5 := hC5.of_drew
    have hE5 : Ext w w5 := hC5.below hE4 (fun c hc => Nat.le_trans hE2.size (hF5 c hc).1) hE4.size
    have hzs5 : w4.heap.size ≤ w5.heap.size := hC5.size
    have hF6 := hL2_0x4.chg (o1) hC5 (fun c hc => by have := hF5 c hc; omega)
    exact lw_nil (wp_plain _ [0, 0, 0] rfl (lw_tv 1 rfl (q_sub (((a.length : Nat) : Int) - 1 - ((j + 1 : Nat) : Int)) rfl rfl (w64e oM oM oM) zN (lw_tvn 1 rfl ⟨((j + 1), v4_0), _, rfl, ⟨rfl, rfl, rfl, rfl, trivial⟩, ⟨hE5, (by have h := (hO5.up o1).low hE2.size; rw [show (((a.length : Nat) : Int) - 1 - ((j : Nat) : Int)).toNat = a.length - (j + 1) by omega] at h; exact h), oM⟩, by first | omega | (dsimp only; omega)⟩))))
  ·
    exact q_geq false rfl rfl (decide_eq_false hc3) zN (lw_nil (c_cond_f rfl (wp_exit (t_exit (t_exit (c_exit_here (wp_seq (wp_plain _ [0, 0] rfl (lw_tvn 2 rfl (wp_ret (post_ret [4] rfl vo rfl ⟨vo, rfl, hE2, (by have h := hL2_0.up o1; rwa [show j = a.length by omega] at h)⟩)))))))))))
theorem c_impl_ComposeSeries (w : World) (va : Value) (a : List Int) (vb : Value) (b : List Int) (ha : Rd (rdL rI) w.heap va a) (hb : Rd (rdL rI) w.heap vb b) (hka : okS a = true) (hkb : okS b = true) (hl : b.length = a.length) (h0 : b.getD 0 0 = 0) :
    Calls Tryz.prog 27 #[va, vb] w (fun e w' => ∃ v0 : Value, e = .returned (.tuple #[v0, .int .i64 0]) ∧ Ext w w' ∧ Fr (owL rI 2) w.heap.size w'.heap.size w'.heap v0 (cpS a b)) := by
  refine calls_mk [va, vb] 20 Tryz.func27 rfl rfl sM ?_
  have hE0 : Ext w w := Ext.refl w
  have hl_va := ha.lenle
  have hl_vb := hb.lenle
  have h1 := okS_iff.1 hka
  have h2 := okS_iff.1 hkb
  refine wp_seq (wp_plain _ [0, 0] rfl (lw_tvn 2 rfl (wp_seq (wp_seq (wp_plain _ [0, 0, 3, 0] rfl (lw_tv 2 rfl (lw_call 82 [] [] [va, vb] rfl rfl cf82 zN (c_impl_areSeries _ _ _ _ _ (ha.ext g1 hE0) (hb.ext g1 hE0) (by exact hka) (by exact hkb) (by exact hl)) ?_)))))))
  rintro e1 w1 ⟨rfl, hX1⟩
  refine ⟨_, rfl, hX1, ?_⟩
  have hzs1 : w.heap.size ≤ w1.heap.size := hX1.size
  have hE1 : Ext w w1 := hE0.trans hX1
  refine lw_tvn 1 rfl (wp_seq (wp_plain _ [0, 0] rfl (lw_tv 1 rfl ?_)))
  by_cases hc2 : 0 ≠ ((0 : Nat) : Int)
  ·
    exact q_neq true rfl rfl (decide_eq_true hc2) zN (lw_nil (c_cond_t rfl (wp_seq (wp_plain _ [0, 0, 0] rfl (lw_tvn 3 rfl (wp_ret (t_ret (post_ret [4, 5] rfl (.tuple #[(.slice none 0 0), (.int .i64 0)]) rfl ⟨(.slice none 0 0), (by first | rfl | (exfalso; omega)), hE1, (by first | exact frNil _ _ _ | (exfalso; omega))⟩))))))))
  ·
    refine q_neq false rfl rfl (decide_eq_false hc2) zN (lw_nil (c_cond_f rfl (wp_skip (wp_seq (wp_seq (wp_plain _ [0, 0, 2, 0] rfl (lw_tv 1 rfl (q_idx (v := vb) 0 u27 ti2 rfl rfl hb.isSl rfl oM zN (q_load (p := eptr vb 0 1) (.inr rfl) (.int .i64 (b.getD 0 0)) one2 rfl (ldH_ext hE1 (hb.getI oM).1) zN ?_)))))))))
    have hc3 : ¬ (b.getD 0 0 ≠ ((0 : Nat) : Int)) := oM
    refine q_neq false rfl rfl (decide_eq_false hc3) zN (lw_nil (c_cond_f rfl (wp_skip (wp_seq (wp_plain _ [0, 0, 3, 0, 0] rfl (lw_tv 2 rfl (lw_call 83 [] [] [va, vb] rfl rfl cf83 zN (c_impl_composed _ _ _ _ _ (ha.ext g1 hE1) (hb.ext g1 hE1) oM oM (by exact h1.2) (by exact h2.2)) ?_)))))))
    rintro e4 w4 ⟨v4_0, rfl, hX4, hO4_0⟩
    refine ⟨_, rfl, hX4, ?_⟩
    have hzs4 : w1.heap.size ≤ w4.heap.size := hX4.size
    have hE4 : Ext w w4 := hE1.trans hX4
    exact lw_tvn 2 rfl (wp_ret (post_ret [4, 5] rfl (.tuple #[v4_0, (.int .i64 ((0 : Nat) : Int))]) rfl ⟨v4_0, (by first | rfl | (exfalso; omega)), hE4, (by first | exact (hO4_0.up o1).low hE1.size | (exfalso; omega))⟩))
theorem c_impl_derivative (w : World) (va : Value) (a : List Int) (ha : Rd (rdL rI) w.heap va a) (hla : 1 ≤ a.length ∧ a.length ≤ 13) (hqa : allN a = true) :
    Calls Tryz.prog 88 #[va] w (fun e w' => ∃ v0 : Value, e = .returned (v0) ∧ Ext w w' ∧ Fr (owL rI 2) w.heap.size w'.heap.size w'.heap v0 (derS a)) := by
  refine calls_mk [va] 28 Tryz.func88 rfl rfl sM ?_
  have hE0 : Ext w w := Ext.refl w
  have hl_va := ha.lenle
  refine wp_seq (wp_plain _ [0] rfl (lw_tvn 1 rfl (wp_seq (wp_plain _ [0, 0, 3, 0] rfl (lw_tv 1 rfl (q_len (v := va) u27 rfl ha.isSl zN (r_make (n := a.length) u27 ti2 rfl rfl rfl sD zN fun v1 w1 hX1 hz1 hO1 => ?_)))))))
  have hzs1 : w.heap.size ≤ w1.heap.size := hX1.size
  have hE1 : Ext w w1 := hE0.trans hX1
  refine lw_tvn 1 rfl (wp_seq (wp_seq (wp_plain _ [0, 0, 0, 0] rfl (lw_tv 1 rfl (q_len (v := va) u27 rfl ha.isSl zN (q_sub ((a.length - 1 : Nat) : Int) rfl rfl (w64n oM oM) zN (lw_tvn 1 rfl (wp_block (c_loop (S := Nat) (fun (k : Nat) => ([(11, (.int .i64 ((k : Nat) : Int))), (0, va), (3, v1), (10, (.int .i64 ((a.length - 1 : Nat) : Int)))] : List (Nat × Value))) (fun (k : Nat) (W : World) => Ext w W ∧ Fr (owL rI 2) w.heap.size W.heap.size W.heap v1 (derL a k) ∧ k ≤ a.length - 1) (fun (k : Nat) => a.length - 1 - k) 0 ⟨rfl, rfl, rfl, rfl, trivial⟩ ⟨hE1, (by rw [derL_zero]; exact hO1.up o1), oM⟩ ?_)))))))))
  clear hE0 hO1 hz1 hX1 hzs1 hE1
  rintro k ρ2 w2 ⟨hE2, hL2_0, hp2_0⟩
  have hzs2 : w.heap.size ≤ w2.heap.size := hE2.size
  refine wp_seq (wp_plain _ [0] rfl ?_)
  by_cases hc3 : ((k : Nat) : Int) < ((a.length - 1 : Nat) : Int)
  ·
    refine q_lss true rfl rfl (decide_eq_true hc3) zN (lw_nil (wp_seq (c_cond_t rfl (wp_skip (wp_seq (wp_block (wp_seq (wp_plain _ [0, 0] rfl (lw_tvn 2 rfl (wp_plain _ [0, 0, 0, 0, 0, 0, 0, 0, 2, 0, 0, 0, 4] rfl ?_))))))))))
    have hak := allN_get hqa (k + 1)
    have hmn := mul_num (show (0 : Int) ≤ ((k + 1 : Nat) : Int) by omega) (show ((k + 1 : Nat) : Int) < 1000003 by omega) hak.1 hak.2
    refine lw_tv 3 rfl (q_add ((k + 1 : Nat) : Int) rfl rfl (w64n oM oM) zN (lw_tv 2 rfl (q_add ((k + 1 : Nat) : Int) rfl rfl (w64n oM oM) zN (q_idx (v := va) (k + 1) u27 ti2 rfl rfl ha.isSl rfl sD zN ?_))))
    refine q_load (p := eptr va (k + 1) 1) (.inr rfl) (.int .i64 (a.getD (k + 1) 0)) one2 rfl (ldH_ext hE2 (ha.getI sD).1) zN (q_mul (((k + 1 : Nat) : Int) * a.getD (k + 1) 0) rfl rfl (w64 oM oM) zN (q_rem (md (((k + 1 : Nat) : Int) * a.getD (k + 1) 0)) rfl rfl (by decide) (Int.tmod_eq_emod_of_nonneg oM) zN ?_))
    refine q_idx (v := v1) k u27 ti2 rfl rfl hL2_0.isSl rfl sD zN (e_setI (v := v1) (w := w2) sz2 rfl rfl (md_rng _) hL2_0 sD zN fun w4 F4 hC4 hz4 hF4 hO4 => ?_)
    have hE4 : Ext w w4 := hC4.below hE2 (fun c hc => Nat.le_trans (Nat.le_refl _) (hF4 c hc).1) hE2.size
    have hzs4 : w2.heap.size ≤ w4.heap.size := hC4.size
    exact lw_nil (wp_plain _ [0, 0] rfl (q_add ((k + 1 : Nat) : Int) rfl rfl (w64n oM oM) zN (lw_tvn 1 rfl ⟨(k + 1), _, rfl, ⟨rfl, rfl, rfl, rfl, trivial⟩, ⟨hE4, (by rw [← derL_set oM]; exact hO4.up o1), oM⟩, by first | omega | (dsimp only; omega)⟩)))
  ·
    exact q_lss false rfl rfl (decide_eq_false hc3) zN (lw_nil (wp_seq (c_cond_f rfl (wp_exit (t_exit (t_exit (c_exit_here (wp_seq (wp_plain _ [0, 0] rfl (lw_tvn 2 rfl (wp_ret (post_ret [2] rfl v1 rfl ⟨v1, rfl, hE2, (by have h := hL2_0.up o1; rwa [show k = a.length - 1 by omega] at h)⟩))))))))))))
theorem arg_ser {m : Nat} {a : List (List Int)} (h0 : 1 ≤ m) (h1 : m ≤ 13) (h : SrE m a) : argB a = true := by
  unfold argB
  rw [List.all_eq_true]
  intro s hs
  obtain ⟨j, hj, rfl⟩ := List.mem_iff_getElem.1 hs
  have h2 := h j hj
  have h3 := h 0 (by omega)
  rw [gd_at hj] at h2
  unfold serB
  rw [Bool.and_eq_true]
  exact ⟨okS_iff.2 ⟨by have := h2.1; omega, h2.2⟩, decide_eq_true (by rw [h2.1, h3.1])⟩
theorem oOf_m {m : Nat} {a : List (List Int)} (h0 : 1 ≤ m) (ha : 0 < a.length) (h : SrE m a) : oOf a + 1 = m := by
  have := (h 0 ha).1
  unfold oOf; omega
theorem c_impl_EvaluateSeries (w : World) (dp : Nat) (vp : Value) (p : List Fn) (f : Int) (va : Value) (a : List (List Int)) (hp : RP [] dp w.heap vp p) (_hf : -9223372036854775808 ≤ f ∧ f ≤ 9223372036854775807) (ha : RN [] (rdL (rdL rI)) w.heap va a) (hqa : CapS va) (hok : okP p = true) (hz : SzP p) (hf : 0 ≤ f ∧ f < ((p.length : Nat) : Int)) (hl : ((a.length : Nat) : Int) = (p.getD f.toNat Fn.zero).params) (ha1 : 1 ≤ a.length) (hse : SrE (oOf a + 1) a) (ho : oOf a ≤ 12) :
    Calls Tryz.prog 28 #[(.agg #[vp]), .int .i64 f, va] w (fun e w' => ∃ v0 : Value, e = .returned (.tuple #[v0, .int .i64 (evD p (oOf a + 1) f.toNat a)]) ∧ Ext w w' ∧ Fr (owL (owL rI 2) 27) w.heap.size w'.heap.size w'.heap v0 (evR p (oOf a + 1) f.toNat a) ∧ EvP p (oOf a + 1) f.toNat a) := by
  refine calls_mk [(.agg #[vp]), .int .i64 f, va] 42 Tryz.func28 rfl rfl sM ?_
  have hE0 : Ext w w := Ext.refl w
  have hl_vp := hp.lenle
  unfold maxLen at hl_vp
  have hl_va := ha.lenL
  unfold maxLen at hl_va
  have hvp := okP_vpr hok
  have hpr := hvp.par f.toNat oM
  have hou := hvp.outs f.toNat oM
  have hi : isF p f = 0 := by unfold isF; rw [if_pos hok, if_pos oM]
  have h0s := (hse 0 oM).1
  have harg : argB a = true := arg_ser oM oM hse
  refine wp_seq (wp_plain _ [3, 0, 0] rfl (r_boxA (cs := #[vp]) rfl zN fun w1 hX1 hz1 hB1 => ?_))
  have hzs1 : w.heap.size ≤ w1.heap.size := hX1.size
  have hE1 : Ext w w1 := hE0.trans hX1
  replace hB1 : BX w1.heap w.heap.size [vp] := hB1
  refine lw_tvn 2 rfl (wp_seq (wp_plain _ [2, 0, 3, 0] rfl (q_loadA (p := (.pointer (some ⟨w.heap.size, 0, none⟩))) (.inr rfl) [vp] agg26 rfl (fun wq9 hw9 => LD.of_box (BX.ext (w := w1) hB1 hw9)) rfl zN (lw_tv 1 rfl (lw_call 84 [] [] [(.agg #[vp]), (.int .i64 f)] rfl rfl cf84 zN (c_impl_isFunc _ dp vp (p) _ (hp.ext (good_rdS (good_rFn dp)) hE1) _hf (by exact hz)) ?_)))))
  rintro e2 w2 ⟨rfl, hX2⟩
  refine ⟨_, rfl, hX2, ?_⟩
  have hzs2 : w1.heap.size ≤ w2.heap.size := hX2.size
  have hE2 : Ext w w2 := hE1.trans hX2
  have hB1x2 := hB1.ext hX2
  refine lw_tvn 1 rfl (wp_seq (wp_seq (wp_plain _ [0, 0, 0, 0, 0, 2, 0, 0, 0, 2, 3, 0, 0] rfl (lw_tv 1 rfl ?_))))
  have hc3 : isF p f = ((0 : Nat) : Int) := hi
  refine q_eql true rfl rfl (decide_eq_true hc3) zN (lw_tv 2 rfl (q_fldP (p := (.pointer (some ⟨w.heap.size, 0, none⟩))) (b := w.heap.size) (o := 0) 0 fd26_0 rfl rfl (zS (e := 16) rfl rfl rfl) (q_load (p := (padd (.pointer (some ⟨w.heap.size, 0, none⟩)) 0)) (.inr rfl) vp one24 rfl (hB1x2.ldp (i := 0) sM) (zS (e := 16) rfl rfl rfl) (lw_tv 1 rfl (q_idx (v := vp) ((f).toNat) u24 tiS55 rfl rfl hp.isSl oM sD (zS (e := 16) rfl rfl rfl) ?_)))))
  obtain ⟨cs4, hr4, hl4⟩ := hp.get (good_rFn dp) Fn.zero (k := ((f).toNat)) sD
  obtain ⟨ve4, rfl, hx4⟩ := RF.of hr4
  have hln4 := hx4.rn.lenle
  unfold maxLen at hln4
  refine q_fldL (p := eptr vp ((f).toNat) 3) 1 fd55_1 rfl (hl4 _ (Chg.of_ext [] hE2)) (zS (e := 16) rfl rfl rfl) (q_load (p := (padd (eptr vp ((f).toNat) 3) 1)) (.inr rfl) (.int .i64 ((p.getD ((f).toNat) Fn.zero).params)) one2 rfl ((hl4 _ (Chg.of_ext [] hE2)).ld (i := 1) (by simp [exC, fnC])) (zS (e := 16) rfl rfl rfl) (lw_call 85 [] [] [va, (.int .i64 ((p.getD ((f).toNat) Fn.zero).params))] rfl rfl cf85 (zS (e := 16) rfl rfl rfl) (c_impl_areArgs _ _ _ _ ((ha.ext g2 hE2)).rd hx4.rng) ?_))
  rintro e5 w5 ⟨rfl, hX5⟩
  refine ⟨_, rfl, hX5, ?_⟩
  have hzs5 : w2.heap.size ≤ w5.heap.size := hX5.size
  have hE5 : Ext w w5 := hE2.trans hX5
  have hB1x5 := hB1x2.ext hX5
  rw [show (argB a && decide (((a.length : Nat) : Int) = ((p.getD ((f).toNat) Fn.zero).params))) = true from (by rw [harg, decide_eq_true oM]; rfl)]
  refine q_not false rfl rfl (zS (e := 16) rfl rfl rfl) (lw_tvn 1 rfl (c_cond_f rfl (wp_skip (wp_seq (wp_seq (wp_plain _ [0, 0] rfl (lw_tv 1 rfl ?_)))))))
  have hc6 : ¬ (isF p f ≠ ((0 : Nat) : Int)) := (fun h9 => h9 hi)
  refine q_neq false rfl rfl (decide_eq_false hc6) zN (lw_nil (c_cond_f rfl (wp_skip (wp_seq (wp_draw _ [1, 0, 0, 0, 3, 3, 0, 0, 0, 0, 0, 0, 0] mixed (by kernel_rfl) (q_loadA (p := (.pointer (some ⟨w.heap.size, 0, none⟩))) (.inl rfl) [vp] agg26 rfl (fun wq9 hw9 => LD.of_box (BX.ext (w := w5.drew) hB1x5 hw9)) rfl zN (lw_tv 3 rfl (lw_call 87 [] [] [va] rfl rfl cf87 zN (c_impl_orderOf _ va (a) (ha.ext g2 hE5.drew) hqa (by intro _; omega)) ?_))))))))
  rintro e7 w7 ⟨rfl, hX7⟩
  refine ⟨_, rfl, hX7, ?_⟩
  replace hX7 := hX7.of_drew
  have hzs7 : w5.heap.size ≤ w7.heap.size := hX7.size
  have hE7 : Ext w w7 := hE5.trans hX7
  have hB1x7 := hB1x5.ext hX7
  refine lw_call 86 [] [] [(.agg #[vp]), (.int .i64 f), va, (.int .i64 ((oOf a : Nat) : Int))] rfl rfl cf86 zN (c_impl_Program_evaluated _ dp vp (p) _ va (a) (oOf a) (hp.ext (good_rdS (good_rFn dp)) hE7) _hf (ha.ext g2 hE7) hqa (by exact hvp) oM oM (by exact hse) oM) ?_
  rintro e8 w8 ⟨v8_0, rfl, hX8, hO8_0, hP8_0⟩
  refine ⟨_, rfl, hX8, ?_⟩
  have hzs8 : w7.heap.size ≤ w8.heap.size := hX8.size
  have hE8 : Ext w w8 := hE7.trans hX8
  have hB1x8 := hB1x7.ext hX8
  exact lw_tv 1 rfl (q_extract (vs := [v8_0, (.int .i64 ((evT p ((oOf a) + 1) f.toNat a : Nat) : Int)), (.int .i64 (evD p ((oOf a) + 1) f.toNat a))]) v8_0 rfl rfl zN (q_extract (vs := [v8_0, (.int .i64 ((evT p ((oOf a) + 1) f.toNat a : Nat) : Int)), (.int .i64 (evD p ((oOf a) + 1) f.toNat a))]) (.int .i64 ((evT p ((oOf a) + 1) f.toNat a : Nat) : Int)) rfl rfl zN (q_extract (vs := [v8_0, (.int .i64 ((evT p ((oOf a) + 1) f.toNat a : Nat) : Int)), (.int .i64 (evD p ((oOf a) + 1) f.toNat a))]) (.int .i64 (evD p ((oOf a) + 1) f.toNat a)) rfl rfl zN (lw_tvn 3 rfl (wp_seq (wp_plain _ [0, 0, 0, 0] rfl (lw_tvn 4 rfl (wp_ret (post_ret [6, 7] rfl (.tuple #[v8_0, (.int .i64 (evD p ((oOf a) + 1) f.toNat a))]) rfl ⟨v8_0, rfl, hE8, (hO8_0.up o2).low hE7.size, (by assumption)⟩)))))))))
theorem c_impl_PathDerivative (w : World) (dp : Nat) (vp : Value) (p : List Fn) (f : Int) (pick : Int) (va : Value) (a : List (List Int)) (hp : RP [] dp w.heap vp p) (_hf : -9223372036854775808 ≤ f ∧ f ≤ 9223372036854775807) (_hpick : -9223372036854775808 ≤ pick ∧ pick ≤ 9223372036854775807) (ha : RN [] (rdL (rdL rI)) w.heap va a) (hqa : CapS va) (hok : okP p = true) (hz : SzP p) (hf : 0 ≤ f ∧ f < ((p.length : Nat) : Int)) (hl : ((a.length : Nat) : Int) = (p.getD f.toNat Fn.zero).params) (ha1 : 1 ≤ a.length) (hse : SrE (oOf a + 1) a) (ho : oOf a ≤ 12) (hpk : 0 ≤ pick ∧ pick < (((p.getD f.toNat Fn.zero).outs.length : Nat) : Int)) :
    Calls Tryz.prog 29 #[(.agg #[vp]), .int .i64 f, .int .i64 pick, va] w (fun e w' => ∃ v0 : Value, e = .returned (.tuple #[v0, .int .i64 (evD p (oOf a + 1) f.toNat a)]) ∧ Ext w w' ∧ Fr (owL rI 2) w.heap.size w'.heap.size w'.heap v0 (if evD p (oOf a + 1) f.toNat a = 0 then derS ((evR p (oOf a + 1) f.toNat a).getD pick.toNat []) else []) ∧ EvP p (oOf a + 1) f.toNat a) := by
  refine calls_mk [(.agg #[vp]), .int .i64 f, .int .i64 pick, va] 63 Tryz.func29 rfl rfl sM ?_
  have hE0 : Ext w w := Ext.refl w
  have hl_vp := hp.lenle
  unfold maxLen at hl_vp
  have hl_va := ha.lenL
  unfold maxLen at hl_va
  have hvp := okP_vpr hok
  have hpr := hvp.par f.toNat oM
  have hou := hvp.outs f.toNat oM
  have hi : isF p f = 0 := by unfold isF; rw [if_pos hok, if_pos oM]
  have h0s := (hse 0 oM).1
  have harg : argB a = true := arg_ser oM oM hse
  refine wp_seq (wp_plain _ [3, 0, 0] rfl (r_boxA (cs := #[vp]) rfl zN fun w1 hX1 hz1 hB1 => ?_))
  have hzs1 : w.heap.size ≤ w1.heap.size := hX1.size
  have hE1 : Ext w w1 := hE0.trans hX1
  replace hB1 : BX w1.heap w.heap.size [vp] := hB1
  refine lw_tvn 2 rfl (wp_seq (wp_plain _ [2, 0, 3, 0] rfl (q_loadA (p := (.pointer (some ⟨w.heap.size, 0, none⟩))) (.inr rfl) [vp] agg26 rfl (fun wq9 hw9 => LD.of_box (BX.ext (w := w1) hB1 hw9)) rfl zN (lw_tv 1 rfl (lw_call 84 [] [] [(.agg #[vp]), (.int .i64 f)] rfl rfl cf84 zN (c_impl_isFunc _ dp vp (p) _ (hp.ext (good_rdS (good_rFn dp)) hE1) _hf (by exact hz)) ?_)))))
  rintro e2 w2 ⟨rfl, hX2⟩
  refine ⟨_, rfl, hX2, ?_⟩
  have hzs2 : w1.heap.size ≤ w2.heap.size := hX2.size
  have hE2 : Ext w w2 := hE1.trans hX2
  have hB1x2 := hB1.ext hX2
  refine lw_tvn 1 rfl (wp_seq (wp_seq (wp_plain _ [0, 0, 0, 0, 0, 2, 0, 0, 0, 2, 3, 0, 0, 0, 0, 2, 0, 0, 0, 2, 0, 0, 0, 0, 0, 0] rfl (lw_tv 1 rfl ?_))))
  have hc3 : isF p f = ((0 : Nat) : Int) := hi
  refine q_eql true rfl rfl (decide_eq_true hc3) zN (lw_tv 2 rfl (q_fldP (p := (.pointer (some ⟨w.heap.size, 0, none⟩))) (b := w.heap.size) (o := 0) 0 fd26_0 rfl rfl (zS (e := 18) rfl rfl rfl) (q_load (p := (padd (.pointer (some ⟨w.heap.size, 0, none⟩)) 0)) (.inr rfl) vp one24 rfl (hB1x2.ldp (i := 0) sM) (zS (e := 18) rfl rfl rfl) (lw_tv 1 rfl (q_idx (v := vp) ((f).toNat) u24 tiS55 rfl rfl hp.isSl oM sD (zS (e := 18) rfl rfl rfl) ?_)))))
  obtain ⟨cs4, hr4, hl4⟩ := hp.get (good_rFn dp) Fn.zero (k := ((f).toNat)) sD
  obtain ⟨ve4, rfl, hx4⟩ := RF.of hr4
  have hln4 := hx4.rn.lenle
  unfold maxLen at hln4
  refine q_fldL (p := eptr vp ((f).toNat) 3) 1 fd55_1 rfl (hl4 _ (Chg.of_ext [] hE2)) (zS (e := 18) rfl rfl rfl) (q_load (p := (padd (eptr vp ((f).toNat) 3) 1)) (.inr rfl) (.int .i64 ((p.getD ((f).toNat) Fn.zero).params)) one2 rfl ((hl4 _ (Chg.of_ext [] hE2)).ld (i := 1) (by simp [exC, fnC])) (zS (e := 18) rfl rfl rfl) (lw_call 85 [] [] [va, (.int .i64 ((p.getD ((f).toNat) Fn.zero).params))] rfl rfl cf85 (zS (e := 18) rfl rfl rfl) (c_impl_areArgs _ _ _ _ ((ha.ext g2 hE2)).rd hx4.rng) ?_))
  rintro e5 w5 ⟨rfl, hX5⟩
  refine ⟨_, rfl, hX5, ?_⟩
  have hzs5 : w2.heap.size ≤ w5.heap.size := hX5.size
  have hE5 : Ext w w5 := hE2.trans hX5
  have hB1x5 := hB1x2.ext hX5
  rw [show (argB a && decide (((a.length : Nat) : Int) = ((p.getD ((f).toNat) Fn.zero).params))) = true from (by rw [harg, decide_eq_true oM]; rfl)]
  refine q_not false rfl rfl (zS (e := 18) rfl rfl rfl) (lw_tv 2 rfl (q_fldP (p := (.pointer (some ⟨w.heap.size, 0, none⟩))) (b := w.heap.size) (o := 0) 0 fd26_0 rfl rfl (zS (e := 28) rfl rfl rfl) (q_load (p := (padd (.pointer (some ⟨w.heap.size, 0, none⟩)) 0)) (.inr rfl) vp one24 rfl (hB1x5.ldp (i := 0) sM) (zS (e := 28) rfl rfl rfl) (lw_tv 1 rfl (q_idx (v := vp) ((f).toNat) u24 tiS55 rfl rfl hp.isSl oM sD (zS (e := 28) rfl rfl rfl) ?_)))))
  refine q_fldL (p := eptr vp ((f).toNat) 3) 2 fd55_2 rfl (hl4 _ (Chg.of_ext [] hE5)) (zS (e := 28) rfl rfl rfl) (q_load (p := (padd (eptr vp ((f).toNat) 3) 2)) (.inr rfl) ve4 one53 rfl ((hl4 _ (Chg.of_ext [] hE5)).ld (i := 2) (by simp [exC, fnC])) (zS (e := 28) rfl rfl rfl) (q_len (v := ve4) u53 rfl hx4.rn.isSl (zS (e := 28) rfl rfl rfl) ?_))
  refine q_sub (((((p.getD ((f).toNat) Fn.zero).outs).length : Nat) : Int) - ((1 : Nat) : Int)) rfl rfl (w64 sD sD) (zS (e := 28) rfl rfl rfl) ?_
  refine lw_callq 72 [] [] [(.int .i64 pick), (.int .i64 ((0 : Nat) : Int)), (.int .i64 (((((p.getD ((f).toNat) Fn.zero).outs).length : Nat) : Int) - ((1 : Nat) : Int)))] rfl rfl cf72 (zS (e := 28) rfl rfl rfl) (.bool (decide (((0 : Nat) : Int) ≤ pick) && decide (pick ≤ (((((p.getD ((f).toNat) Fn.zero).outs).length : Nat) : Int) - ((1 : Nat) : Int))))) (fun wq => c_impl_within wq _ _ _ _hpick oM oM) ?_
  rw [show (decide (((0 : Nat) : Int) ≤ pick) && decide (pick ≤ (((((p.getD ((f).toNat) Fn.zero).outs).length : Nat) : Int) - ((1 : Nat) : Int)))) = true from (by rw [decide_eq_true oM, decide_eq_true oM]; rfl)]
  refine q_not false rfl rfl (zS (e := 28) rfl rfl rfl) (lw_tvn 2 rfl (c_cond_f rfl (wp_skip (wp_seq (wp_seq (wp_plain _ [0, 0] rfl (lw_tv 1 rfl ?_)))))))
  have hc7 : ¬ (isF p f ≠ ((0 : Nat) : Int)) := (fun h9 => h9 hi)
  refine q_neq false rfl rfl (decide_eq_false hc7) zN (lw_nil (c_cond_f rfl (wp_skip (wp_seq (wp_draw _ [1, 0, 0, 0, 3, 3, 0, 0, 0, 0, 0, 0, 0] mixed (by kernel_rfl) (q_loadA (p := (.pointer (some ⟨w.heap.size, 0, none⟩))) (.inl rfl) [vp] agg26 rfl (fun wq9 hw9 => LD.of_box (BX.ext (w := w5.drew) hB1x5 hw9)) rfl zN (lw_tv 3 rfl (lw_call 87 [] [] [va] rfl rfl cf87 zN (c_impl_orderOf _ va (a) (ha.ext g2 hE5.drew) hqa (by intro _; omega)) ?_))))))))
  rintro e8 w8 ⟨rfl, hX8⟩
  refine ⟨_, rfl, hX8, ?_⟩
  replace hX8 := hX8.of_drew
  have hzs8 : w5.heap.size ≤ w8.heap.size := hX8.size
  have hE8 : Ext w w8 := hE5.trans hX8
  have hB1x8 := hB1x5.ext hX8
  refine lw_call 86 [] [] [(.agg #[vp]), (.int .i64 f), va, (.int .i64 ((oOf a : Nat) : Int))] rfl rfl cf86 zN (c_impl_Program_evaluated _ dp vp (p) _ va (a) (oOf a) (hp.ext (good_rdS (good_rFn dp)) hE8) _hf (ha.ext g2 hE8) hqa (by exact hvp) oM oM (by exact hse) oM) ?_
  rintro e9 w9 ⟨v9_0, rfl, hX9, hO9_0, hP9_0⟩
  refine ⟨_, rfl, hX9, ?_⟩
  have hzs9 : w8.heap.size ≤ w9.heap.size := hX9.size
  have hE9 : Ext w w9 := hE8.trans hX9
  have hB1x9 := hB1x8.ext hX9
  refine lw_tv 1 rfl (q_extract (vs := [v9_0, (.int .i64 ((evT p ((oOf a) + 1) f.toNat a : Nat) : Int)), (.int .i64 (evD p ((oOf a) + 1) f.toNat a))]) v9_0 rfl rfl zN (q_extract (vs := [v9_0, (.int .i64 ((evT p ((oOf a) + 1) f.toNat a : Nat) : Int)), (.int .i64 (evD p ((oOf a) + 1) f.toNat a))]) (.int .i64 ((evT p ((oOf a) + 1) f.toNat a : Nat) : Int)) rfl rfl zN (q_extract (vs := [v9_0, (.int .i64 ((evT p ((oOf a) + 1) f.toNat a : Nat) : Int)), (.int .i64 (evD p ((oOf a) + 1) f.toNat a))]) (.int .i64 (evD p ((oOf a) + 1) f.toNat a)) rfl rfl zN (lw_tvn 3 rfl (wp_seq (wp_seq (wp_plain _ [0, 0] rfl (lw_tv 1 rfl ?_))))))))
  have hEP : EvP p (oOf a + 1) f.toNat a := by assumption
  by_cases hc10 : evD p ((oOf a) + 1) f.toNat a ≠ ((0 : Nat) : Int)
  ·
    exact q_neq true rfl rfl (decide_eq_true hc10) zN (lw_nil (c_cond_t rfl (wp_seq (wp_plain _ [0, 0, 0] rfl (lw_tvn 3 rfl (wp_ret (t_ret (post_ret [8, 9] rfl (.tuple #[(.slice none 0 0), (.int .i64 (evD p ((oOf a) + 1) f.toNat a))]) rfl ⟨(.slice none 0 0), rfl, hE9, (by rw [if_neg oM]; exact frNil _ _ _), hEP⟩))))))))
  ·
    refine q_neq false rfl rfl (decide_eq_false hc10) zN (lw_nil (c_cond_f rfl (wp_skip (wp_seq (wp_plain _ [0, 0, 0, 2, 3, 0, 0] rfl ?_)))))
    have hdl := hEP.len oM
    have hrs := hEP.ser pick.toNat oM
    have hrl := hrs.1
    refine lw_tv 2 rfl (q_idx (v := v9_0) ((pick).toNat) u32 ti27 rfl rfl hO9_0.isSl oM oM zN ?_)
    obtain ⟨ue11, hl11, hd11⟩ := hO9_0.rd2.get (k := (pick).toNat) [] oM
    have hln11 := hd11.lenle
    refine q_load (p := eptr v9_0 ((pick).toNat) 1) (.inr rfl) ue11 one27 rfl hl11 zN (lw_call 88 [] [] [ue11] rfl rfl cf88 zN (c_impl_derivative _ _ _ hd11 oM (by exact hrs.2)) ?_)
    rintro e12 w12 ⟨v12_0, rfl, hX12, hO12_0⟩
    refine ⟨_, rfl, hX12, ?_⟩
    have hzs12 : w9.heap.size ≤ w12.heap.size := hX12.size
    have hE12 : Ext w w12 := hE9.trans hX12
    have hB1x12 := hB1x9.ext hX12
    have hO9_0x12 := hO9_0.ext (o2) hX12
    have hd11x12 := hd11.ext g1 hX12
    have hlx13 := ldH_ext hX12 hl11
    exact lw_tvn 2 rfl (wp_ret (post_ret [8, 9] rfl (.tuple #[v12_0, (.int .i64 ((0 : Nat) : Int))]) rfl ⟨v12_0, (by rw [show evD p (oOf a + 1) f.toNat a = 0 by omega]; rfl), hE12, (by rw [if_pos oM]; exact (hO12_0.up o1).low hE9.size), hEP⟩))
theorem c_impl_GradientOf (w : World) (dp : Nat) (vp : Value) (p : List Fn) (f : Int) (pick : Int) (va : Value) (a : List Int) (hp : RP [] dp w.heap vp p) (_hf : -9223372036854775808 ≤ f ∧ f ≤ 9223372036854775807) (_hpick : -9223372036854775808 ≤ pick ∧ pick ≤ 9223372036854775807) (ha : Rd (rdL rI) w.heap va a) (hli : liC p f a a = 0) (hz : SzP p) (hpk : 0 ≤ pick ∧ pick < (((p.getD f.toNat Fn.zero).outs.length : Nat) : Int)) :
    Calls Tryz.prog 30 #[(.agg #[vp]), .int .i64 f, .int .i64 pick, va] w (fun e w' => ∃ v0 : Value, e = .returned (.tuple #[v0, .int .i64 (nxC p f.toNat a)]) ∧ Ext w w' ∧ Fr (owL rI 2) w.heap.size w'.heap.size w'.heap v0 (if nxC p f.toNat a = 0 then (jaT p f.toNat a (p.getD f.toNat Fn.zero).outs.length a.length).getD pick.toNat [] else []) ∧ (0 ≤ nxC p f.toNat a ∧ nxC p f.toNat a ≤ 9)) := by
  refine calls_mk [(.agg #[vp]), .int .i64 f, .int .i64 pick, va] 36 Tryz.func30 rfl rfl sM ?_
  have hE0 : Ext w w := Ext.refl w
  have hl_vp := hp.lenle
  unfold maxLen at hl_vp
  have hl_va := ha.lenle
  have hl0 := liC_0 hli
  have hvp := okP_vpr hl0.1
  have hpr := hvp.par f.toNat oM
  have hou := hvp.outs f.toNat oM
  have hal := hl0.2.2.1.1
  have hna := hl0.2.2.1.2
  have hn9 : (0 ≤ nxC p f.toNat a ∧ nxC p f.toNat a ≤ 9) := ⟨(ev_P hvp (n := 1) oM (sing_ser hna) (by rw [sing_len]; exact hal)).code.1, (ev_P hvp (n := 1) oM (sing_ser hna) (by rw [sing_len]; exact hal)).code.2⟩
  refine wp_seq (wp_plain _ [3, 0, 0] rfl (r_boxA (cs := #[vp]) rfl zN fun w1 hX1 hz1 hB1 => ?_))
  have hzs1 : w.heap.size ≤ w1.heap.size := hX1.size
  have hE1 : Ext w w1 := hE0.trans hX1
  replace hB1 : BX w1.heap w.heap.size [vp] := hB1
  refine lw_tvn 2 rfl (wp_seq (wp_seq (wp_plain _ [2, 0, 0, 0, 0, 3, 0] rfl (q_loadA (p := (.pointer (some ⟨w.heap.size, 0, none⟩))) (.inr rfl) [vp] agg26 rfl (fun wq9 hw9 => LD.of_box (BX.ext (w := w1) hB1 hw9)) rfl zN (lw_tv 4 rfl (lw_call 69 [] [] [(.agg #[vp]), (.int .i64 f), (.int .i64 pick), va, va] rfl rfl cf69 zN (c_impl_isPicked _ dp vp (p) _ _ _ _ _ _ (hp.ext (good_rdS (good_rFn dp)) hE1) _hf _hpick (ha.ext g1 hE1) (ha.ext g1 hE1) (by exact hli) (by exact hz) oM) ?_))))))
  rintro e2 w2 ⟨rfl, hX2⟩
  refine ⟨_, rfl, hX2, ?_⟩
  have hzs2 : w1.heap.size ≤ w2.heap.size := hX2.size
  have hE2 : Ext w w2 := hE1.trans hX2
  have hB1x2 := hB1.ext hX2
  refine lw_tvn 1 rfl (wp_seq (wp_plain _ [0, 0] rfl (lw_tv 1 rfl (q_neq false rfl rfl sM zN (lw_nil (c_cond_f rfl (wp_skip (wp_seq (wp_plain _ [2, 0, 0, 3, 0, 0, 0, 0, 0] rfl (q_loadA (p := (.pointer (some ⟨w.heap.size, 0, none⟩))) (.inr rfl) [vp] agg26 rfl (fun wq9 hw9 => LD.of_box (BX.ext (w := w2) hB1x2 hw9)) rfl zN (lw_tv 2 rfl (lw_call 89 [] [] [(.agg #[vp]), (.int .i64 f), va] rfl rfl cf89 zN (c_impl_Program_jacobian _ dp vp (p) _ _ _ (hp.ext (good_rdS (good_rFn dp)) hE2) _hf (ha.ext g1 hE2) (by exact hvp) oM oM (by exact hna)) ?_))))))))))))
  rintro e3 w3 ⟨v3_0, rfl, hX3, hO3_0⟩
  refine ⟨_, rfl, hX3, ?_⟩
  have hzs3 : w2.heap.size ≤ w3.heap.size := hX3.size
  have hE3 : Ext w w3 := hE2.trans hX3
  have hB1x3 := hB1x2.ext hX3
  refine lw_tv 1 rfl (q_extract (vs := [v3_0, (.int .i64 (nxC p f.toNat a))]) v3_0 rfl rfl zN (q_extract (vs := [v3_0, (.int .i64 (nxC p f.toNat a))]) (.int .i64 (nxC p f.toNat a)) rfl rfl zN (lw_tvn 2 rfl (wp_seq (wp_seq (wp_plain _ [0, 0] rfl (lw_tv 1 rfl ?_)))))))
  by_cases hc4 : nxC p f.toNat a ≠ ((0 : Nat) : Int)
  ·
    exact q_neq true rfl rfl (decide_eq_true hc4) zN (lw_nil (c_cond_t rfl (wp_seq (wp_plain _ [0, 0, 0] rfl (lw_tvn 3 rfl (wp_ret (t_ret (post_ret [8, 9] rfl (.tuple #[(.slice none 0 0), (.int .i64 (nxC p f.toNat a))]) rfl ⟨(.slice none 0 0), rfl, hE3, (by rw [if_neg oM]; exact frNil _ _ _), hn9⟩))))))))
  ·
    refine q_neq false rfl rfl (decide_eq_false hc4) zN (lw_nil (c_cond_f rfl (wp_skip (wp_seq (wp_plain _ [0, 0, 0, 2, 0, 0] rfl ?_)))))
    have hc0 : nxC p f.toNat a = 0 := by omega
    have hrw := hO3_0
    rw [if_pos hc0] at hrw
    replace hrw : Fr _ _ _ _ _ (jaT p f.toNat a (p.getD f.toNat Fn.zero).outs.length a.length) := hrw
    refine lw_tv 2 rfl (q_idx (v := v3_0) ((pick).toNat) u32 ti27 rfl rfl hrw.isSl oM (by rw [jaT_len]; omega) zN ?_)
    obtain ⟨ue5, hl5, hd5⟩ := hrw.rd2.get (k := (pick).toNat) [] (by rw [jaT_len]; omega)
    have hln5 := hd5.lenle
    refine q_load (p := eptr v3_0 ((pick).toNat) 1) (.inr rfl) ue5 one27 rfl hl5 zN (lw_tvn 2 rfl (wp_ret ?_))
    have hrw6 := Fr.rowFr o1 hrw (by rw [jaT_len]; omega) hl5
    exact post_ret [8, 9] rfl (.tuple #[ue5, (.int .i64 ((0 : Nat) : Int))]) rfl ⟨ue5, (by rw [hc0]; rfl), hE3, (by rw [if_pos hc0]; exact (hrw6.up o1).low hE2.size), hn9⟩
end Go.Proofs.YtnokbaiemimhjaaGreat
namespace Go.Proofs.YtnokbaiemimhjaaGreat
open Go Go.RowKit
set_option linter.unusedVariables false
set_option linter.unusedSimpArgs false
set_option maxHeartbeats 4000000
set_option maxRecDepth 100000
attribute [local irreducible] LW
theorem c_laws_a2Dot (w : World) (va : Value) (a : List Int) (vb : Value) (b : List Int) (ha : Rd (rdL rI) w.heap va a) (hb : Rd (rdL rI) w.heap vb b) (hl : b.length = a.length) :
    Calls Tryz.prog 18 #[va, vb] w (fun e w' => e = .returned (.int .i64 (dotG a b a.length)) ∧ Ext w w') := by
  refine calls_mk [va, vb] 31 Tryz.func18 rfl rfl sM ?_
  have hE0 : Ext w w := Ext.refl w
  have hl_va := ha.lenle
  have hl_vb := hb.lenle
  refine wp_seq (wp_plain _ [0] rfl (lw_tvn 1 rfl (wp_seq (wp_plain _ [0] rfl (lw_tvn 1 rfl (wp_seq (wp_seq (wp_plain _ [0] rfl (lw_tvn 1 rfl (wp_block ?_))))))))))
  refine c_loop (S := Nat × Int) (fun (⟨k, s⟩ : Nat × Int) => ([(5, (.int .i64 s)), (6, (.int .i64 ((k : Nat) : Int))), (0, va), (1, vb)] : List (Nat × Value))) (fun (⟨k, s⟩ : Nat × Int) (W : World) => Ext w W ∧ k ≤ a.length ∧ s = dotG a b k ∧ (0 ≤ s ∧ s < 1000003)) (fun (⟨k, s⟩ : Nat × Int) => a.length - k) (0, ((0 : Nat) : Int)) ⟨rfl, rfl, rfl, rfl, trivial⟩ ⟨hE0, sD, (by rfl), oM⟩ ?_
  clear hE0
  rintro ⟨k, s⟩ ρ1 w1 ⟨hE1, hp1_0, hs, hsr9⟩
  have hzs1 : w.heap.size ≤ w1.heap.size := hE1.size
  refine wp_seq (wp_seq (wp_plain _ [0, 0, 0, 0, 0, 0, 0, 0, 0, 0] rfl (lw_tv 2 rfl (q_len (v := va) u27 rfl ha.isSl zN ?_))))
  by_cases hc2 : ((k : Nat) : Int) < ((a.length : Nat) : Int)
  ·
    refine q_lss true rfl rfl (decide_eq_true hc2) zN (lw_tv 3 rfl (q_len (v := vb) u27 rfl hb.isSl (zS (e := 11) rfl rfl rfl) ?_))
    by_cases hc3 : ((k : Nat) : Int) < ((b.length : Nat) : Int)
    ·
      refine q_lss true rfl rfl (decide_eq_true hc3) (zS (e := 11) rfl rfl rfl) (lw_tvn 1 rfl (c_cond_t rfl (wp_skip (wp_seq (wp_block (wp_draw _ [0, 0, 0, 0, 1, 0, 0, 0, 1, 0, 0, 0] mixed (by kernel_rfl) (lw_tv 3 rfl (q_idx (v := va) k u27 ti2 rfl rfl ha.isSl rfl sD zN ?_))))))))
      refine q_load (p := eptr va k 1) (.inl rfl) (.int .i64 (a.getD k 0)) one2 rfl (ldH_ext hE1.drew (ha.getI sD).1) zN (lw_tv 2 rfl ?_)
      refine q_idx (v := vb) k u27 ti2 rfl rfl hb.isSl rfl sD zN ?_
      refine q_load (p := eptr vb k 1) (.inl rfl) (.int .i64 (b.getD k 0)) one2 rfl (ldH_ext hE1.drew (hb.getI sD).1) zN ?_
      refine lw_callq 76 [] [] [(.int .i64 (a.getD k 0)), (.int .i64 (b.getD k 0))] rfl rfl cf76 zN (.int .i64 (md ((a.getD k 0) * (b.getD k 0)))) (fun wq => c_spec_Times wq _ _ (ha.getI sD).2 (hb.getI sD).2) ?_
      refine lw_callq 75 [] [] [(.int .i64 s), (.int .i64 (md ((a.getD k 0) * (b.getD k 0))))] rfl rfl cf75 zN (.int .i64 (md (s + (md ((a.getD k 0) * (b.getD k 0)))))) (fun wq => c_spec_Plus wq _ _ oM (md_rng _)) (lw_tvn 1 rfl (wp_plain _ [0, 0, 0] rfl (lw_tv 1 rfl (q_add ((k + 1 : Nat) : Int) rfl rfl (w64n oM sD) zN (lw_tvn 1 rfl ?_)))))
      exact ⟨((k + 1), (md (s + (md ((a.getD k 0) * (b.getD k 0)))))), _, rfl, ⟨rfl, rfl, rfl, rfl, trivial⟩, ⟨hE1.drew, sD, (by rw [hs]; exact dotG_step a b k), (by exact md_num _)⟩, by first | omega | (dsimp only; omega)⟩
    ·
      exact q_lss false rfl rfl (decide_eq_false hc3) (zS (e := 11) rfl rfl rfl) (lw_tvn 1 rfl (c_cond_f rfl (wp_exit (t_exit (t_exit (c_exit_here (wp_seq (wp_plain _ [0, 0] rfl (lw_tvn 2 rfl (wp_ret (post_ret [4] rfl (.int .i64 s) rfl ⟨(ret_int (by rw [hs, show k = a.length by omega])), hE1⟩)))))))))))
  ·
    exact q_lss false rfl rfl (decide_eq_false hc2) zN (lw_tvn 6 rfl (c_cond_f rfl (wp_exit (t_exit (t_exit (c_exit_here (wp_seq (wp_plain _ [0, 0] rfl (lw_tvn 2 rfl (wp_ret (post_ret [4] rfl (.int .i64 s) rfl ⟨(ret_int (by rw [hs, show k = a.length by omega])), hE1⟩)))))))))))
theorem z23_0 {p : Prop} (h : p := by simpa using hb) : p := h
theorem c_spec_A2Series (w : World) (vc : Value) (cs : List UInt8) (hcs : Rd (rdL rU) w.heap vc cs)  :
    Calls Tryz.prog 23 #[vc] w (fun e w' => ∃ v0 v1 v2 : Value, ∃ (x0 : List Int) (x1 : List Int) (x2 : List Int), e = .returned (.tuple #[v0, v1, v2]) ∧ Ext w w' ∧ Fr (owL rI 2) w.heap.size w'.heap.size w'.heap v0 x0 ∧ Fr (owL rI 2) w.heap.size w'.heap.size w'.heap v1 x1 ∧ Fr (owL rI 2) w.heap.size w'.heap.size w'.heap v2 x2 ∧ ((1 ≤ x0.length ∧ x0.length ≤ 13) ∧ allN x0 = true) ∧ (x1.length = x0.length ∧ allN x1 = true) ∧ (x2.length = x0.length ∧ allN x2 = true)) := by
  refine calls_mk [vc] 27 Tryz.func23 rfl rfl sM ?_
  have hE0 : Ext w w := Ext.refl w
  have hl_vc := hcs.lenle
  refine wp_seq (wp_plain _ [0, 0, 0] rfl (lw_tvn 3 rfl (wp_seq (wp_plain _ [0, 3, 0] rfl (lw_tv 1 rfl (lw_call 64 [] [] [vc] rfl rfl cf64 zN (c_spec_l00From _ _ _ (hcs.ext good_u hE0)) ?_))))))
  rintro e1 w1 ⟨gB1, rfl, hX1, hs1, hg1⟩
  refine ⟨_, rfl, hX1, ?_⟩
  have hzs1 : w.heap.size ≤ w1.heap.size := hX1.size
  have hE1 : Ext w w1 := hE0.trans hX1
  refine lw_tvn 1 rfl (wp_seq (wp_plain _ [0, 4, 0, 0] rfl (lw_tv 1 rfl (lw_callE 80 [] [] [(.pointer (some ⟨gB1, 0, none⟩)), (.int .i64 ((13 : Nat) : Int))] rfl rfl cf80 zN (c_spec_l00Src_pick _ gB1 _ _ _ _ hs1 oM oM oM) ?_))))
  rintro e2 w2 ⟨x2_0, n2, rfl, hC2, hs2, hb2, hp2_0⟩
  refine ⟨_, rfl, ?_⟩
  have hzs2 : w1.heap.size ≤ w2.heap.size := hC2.size
  have hE2 : Ext w w2 := hC2.below hE1 (fun b hb => by have : b = gB1 := z23_0; omega) hE1.size
  refine q_add (((1 : Nat) : Int) + x2_0) rfl rfl (w64 sD sD) zN (lw_tvn 1 rfl (wp_seq (wp_plain _ [0, 0, 4, 0] rfl ?_)))
  have hgl := hs2.lt
  refine lw_tv 2 rfl (lw_callE 81 [] [] [(.pointer (some ⟨gB1, 0, none⟩)), (.int .i64 (((1 : Nat) : Int) + x2_0))] rfl rfl cf81 zN (c_spec_l01Draw _ gB1 _ _ _ _ hs2 oM oM oM) ?_)
  rintro e3 w3 ⟨v3_0, x3_0, n3, rfl, hC3, hs3, hb3, hO3_0, hp3_0⟩
  refine ⟨_, rfl, ?_⟩
  have hzs3 : w2.heap.size ≤ w3.heap.size := hC3.size
  have hE3 : Ext w w3 := hC3.below hE2 (fun b hb => by have : b = gB1 := z23_0; omega) hE2.size
  refine lw_tvn 1 rfl (wp_seq (wp_plain _ [0, 0, 4, 0] rfl (lw_tv 2 rfl (lw_callE 81 [] [] [(.pointer (some ⟨gB1, 0, none⟩)), (.int .i64 (((1 : Nat) : Int) + x2_0))] rfl rfl cf81 zN (c_spec_l01Draw _ gB1 _ _ _ _ hs3 oM oM oM) ?_))))
  rintro e4 w4 ⟨v4_0, x4_0, n4, rfl, hC4, hs4, hb4, hO4_0, hp4_0⟩
  refine ⟨_, rfl, ?_⟩
  have hzs4 : w3.heap.size ≤ w4.heap.size := hC4.size
  have hE4 : Ext w w4 := hC4.below hE3 (fun b hb => by have : b = gB1 := z23_0; omega) hE3.size
  have hF5 := hO3_0.chg (o1) hC4 (fun b hb => by have : b = gB1 := z23_0; omega)
  refine lw_tvn 1 rfl (wp_seq (wp_plain _ [0, 0, 4, 0] rfl (lw_tv 2 rfl (lw_callE 81 [] [] [(.pointer (some ⟨gB1, 0, none⟩)), (.int .i64 (((1 : Nat) : Int) + x2_0))] rfl rfl cf81 zN (c_spec_l01Draw _ gB1 _ _ _ _ hs4 oM oM oM) ?_))))
  rintro e6 w6 ⟨v6_0, x6_0, n6, rfl, hC6, hs6, hb6, hO6_0, hp6_0⟩
  refine ⟨_, rfl, ?_⟩
  have hzs6 : w4.heap.size ≤ w6.heap.size := hC6.size
  have hE6 : Ext w w6 := hC6.below hE4 (fun b hb => by have : b = gB1 := z23_0; omega) hE4.size
  have hF7 := hF5.chg (o1) hC6 (fun b hb => by have : b = gB1 := z23_0; omega)
  have hF8 := hO4_0.chg (o1) hC6 (fun b hb => by have : b = gB1 := z23_0; omega)
  exact lw_tvn 1 rfl (wp_seq (wp_plain _ [0, 0, 0, 0, 0, 0] rfl (lw_tvn 6 rfl (wp_ret (post_ret [2, 3, 4] rfl (.tuple #[v3_0, v4_0, v6_0]) rfl ⟨v3_0, v4_0, v6_0, x3_0, x4_0, x6_0, rfl, hE6, (hF7.up o1).low hE2.size, (hF8.up o1).low hE3.size, (hO6_0.up o1).low hE4.size, (by refine ⟨?_, by simp_all⟩; omega), (by refine ⟨by omega, by simp_all⟩), (by refine ⟨by omega, by simp_all⟩)⟩)))))
theorem li_ok {p : List Fn} {f : Int} {a d : Sr} (h : okP p = true) (hf : 0 ≤ f ∧ f < ((p.length : Nat) : Int)) (hl : ((a.length : Nat) : Int) = (p.getD f.toNat Fn.zero).params) (hn : allN a = true) (hl2 : ((d.length : Nat) : Int) = (p.getD f.toNat Fn.zero).params) (hn2 : allN d = true) : liC p f a d = 0 := by
  unfold liC isF
  rw [if_pos h, if_pos (by omega), hn, hn2, decide_eq_true hl, decide_eq_true hl2]; rfl
theorem oOf_m' {m : Nat} {a : List (List Int)} (h0 : 1 ≤ m) (ha : 1 ≤ a.length) (h : SrE m a) : oOf a + 1 = m := oOf_m h0 (by omega) h
theorem c_EvS {mm : Nat} (w : World) (dp : Nat) (vp : Value) (p : List Fn) (f : Int) (va : Value) (a : List (List Int)) (hp : RP [] dp w.heap vp p) (_hf : -9223372036854775808 ≤ f ∧ f ≤ 9223372036854775807) (ha : RN [] (rdL (rdL rI)) w.heap va a) (hqa : CapS va) (hok : okP p = true) (hz : SzP p) (hf : 0 ≤ f ∧ f < ((p.length : Nat) : Int)) (hl : ((a.length : Nat) : Int) = (p.getD f.toNat Fn.zero).params) (ha1 : 1 ≤ a.length) (hse : SrE mm a) (hmm : 1 ≤ mm ∧ mm ≤ 13) :
    Calls Tryz.prog 28 #[(.agg #[vp]), .int .i64 f, va] w (fun e w' => ∃ v0 : Value, e = .returned (.tuple #[v0, .int .i64 (evD p mm f.toNat a)]) ∧ Ext w w' ∧ Fr (owL (owL rI 2) 27) w.heap.size w'.heap.size w'.heap v0 (evR p mm f.toNat a) ∧ EvP p mm f.toNat a) := by
  have e := oOf_m' hmm.1 ha1 hse
  have h := c_impl_EvaluateSeries w dp vp p f va a hp _hf ha hqa hok hz hf hl ha1 (by rw [e]; exact hse) (by omega)
  rwa [e] at h
theorem c_PaD {mm : Nat} (w : World) (dp : Nat) (vp : Value) (p : List Fn) (f : Int) (pick : Int) (va : Value) (a : List (List Int)) (hp : RP [] dp w.heap vp p) (_hf : -9223372036854775808 ≤ f ∧ f ≤ 9223372036854775807) (_hk : -9223372036854775808 ≤ pick ∧ pick ≤ 9223372036854775807) (ha : RN [] (rdL (rdL rI)) w.heap va a) (hqa : CapS va) (hok : okP p = true) (hz : SzP p) (hf : 0 ≤ f ∧ f < ((p.length : Nat) : Int)) (hl : ((a.length : Nat) : Int) = (p.getD f.toNat Fn.zero).params) (ha1 : 1 ≤ a.length) (hse : SrE mm a) (hmm : 1 ≤ mm ∧ mm ≤ 13) (hpk : 0 ≤ pick ∧ pick < (((p.getD f.toNat Fn.zero).outs.length : Nat) : Int)) :
    Calls Tryz.prog 29 #[(.agg #[vp]), .int .i64 f, .int .i64 pick, va] w (fun e w' => ∃ v0 : Value, e = .returned (.tuple #[v0, .int .i64 (evD p mm f.toNat a)]) ∧ Ext w w' ∧ Fr (owL rI 2) w.heap.size w'.heap.size w'.heap v0 (if evD p mm f.toNat a = 0 then derS ((evR p mm f.toNat a).getD pick.toNat []) else []) ∧ EvP p mm f.toNat a) := by
  have e := oOf_m' hmm.1 ha1 hse
  have h := c_impl_PathDerivative w dp vp p f pick va a hp _hf _hk ha hqa hok hz hf hl ha1 (by rw [e]; exact hse) (by omega) hpk
  rwa [e] at h
theorem pth_nil {m : Nat} {a : List Int} : (([] : List Sr).length = 0 ∧ ∀ k, k < 0 → Ser1 m (([] : List Sr).getD k []) ∧ (([] : List Sr).getD k []).getD 0 0 = a.getD k 0) := ⟨rfl, fun k h => absurd h (Nat.not_lt_zero k)⟩
theorem pth_snoc {m i : Nat} {a : List Int} {X : List Sr} {s : Sr} (h : X.length = i ∧ ∀ k, k < i → Ser1 m (X.getD k []) ∧ (X.getD k []).getD 0 0 = a.getD k 0) (hs : Ser1 m s) (h0 : s.getD 0 0 = a.getD i 0) : (X ++ [s]).length = i + 1 ∧ ∀ k, k < i + 1 → Ser1 m ((X ++ [s]).getD k []) ∧ ((X ++ [s]).getD k []).getD 0 0 = a.getD k 0 := by
  refine ⟨by rw [List.length_append, h.1]; rfl, fun k hk => ?_⟩
  rw [gsnoc, h.1]
  split
  · rename_i e; subst e; exact ⟨hs, h0⟩
  · exact h.2 k (by omega)
theorem set0_s1 {m : Nat} {s : Sr} {x : Int} (hl : s.length = m) (hm : 1 ≤ m) (hs : allN s = true) (hx : 0 ≤ x ∧ x < 1000003) : Ser1 m (s.set 0 x) ∧ (s.set 0 x).getD 0 0 = x := by
  refine ⟨⟨by rw [List.length_set]; exact hl, ?_⟩, by rw [set_at, if_pos ⟨rfl, by omega⟩]⟩
  unfold allN at hs ⊢
  rw [List.all_eq_true] at hs ⊢
  intro y hy
  rcases List.mem_or_eq_of_mem_set hy with hy | rfl
  · exact hs y hy
  · exact isN_iff.2 hx
structure PthL (p : List Fn) (f pk : Nat) (a : List Int) (X : List Sr) (b : Sr) (m : Nat) : Prop where
  ln : (evR p m f X).length = (p.getD f Fn.zero).outs.length ∧ (evR p m f (X.map fun s => cpS s b)).length = (p.getD f Fn.zero).outs.length
  ser : ∀ i, i < (p.getD f Fn.zero).outs.length → Ser1 m ((evR p m f X).getD i [])
  cmp : ∀ i, i < (p.getD f Fn.zero).outs.length → cpS ((evR p m f X).getD i []) b = (evR p m f (X.map fun s => cpS s b)).getD i []
  slp : 2 ≤ m → (derS ((evR p m f X).getD pk [])).getD 0 0 = dotG ((jaT p f a (p.getD f Fn.zero).outs.length a.length).getD pk []) (X.map fun s => s.getD 1 0) ((jaT p f a (p.getD f Fn.zero).outs.length a.length).getD pk []).length
theorem der_one {a : Sr} (h : a.length = 1) : derS a = [((0 : Nat) : Int)] := by
  unfold derS derL; rw [h]; rfl
theorem jaT_row {p : List Fn} {f : Nat} {a : List Int} {n k r : Nat} (hr : r < n) : ((jaT p f a n k).getD r []).length = k := by
  unfold jaT; rw [tab_get [] hr, jaP_len]
theorem pth_codes {p : List Fn} {f m : Nat} {a : List Int} {X : List Sr} {b : Sr} (hX : PthD m a X) (hm : 1 ≤ m) (hb : b.getD 0 0 = 0) : evD p m f X = nxC p f a ∧ evD p m f (X.map fun s => cpS s b) = nxC p f a := ⟨hX.code (by omega), (hX.turn hb (by omega)).code (by omega)⟩
theorem pth_law {p : List Fn} {f pk m : Nat} {a : List Int} {X : List Sr} {b : Sr} (hA : AtP p f a) (hX : PthD m a X) (hm : 1 ≤ m) (hb : b.getD 0 0 = 0) (hpk : pk < (p.getD f Fn.zero).outs.length) : PthL p f pk a X b m := by
  have hc := pth_codes (p := p) (f := f) hX hm hb
  have hT := hX.turn hb (by omega)
  have hP := ev_P hA.v hA.lt hX.se (by rw [hX.len]; exact hA.l)
  have hQ := ev_P hA.v hA.lt hT.se (by rw [hT.len]; exact hA.l)
  have hl := hP.len (hc.1.trans hA.z)
  have ht := (path_turn hA.v hA.lt (by omega) hX.se (by rw [hX.len]; exact hA.l) hb).2 (hc.1.trans hA.z)
  refine ⟨⟨hl, hQ.len (hc.2.trans hA.z)⟩, fun i hi => hP.ser i (by omega), fun i hi => ?_, fun h2 => ?_⟩
  · rw [ht, map_getD (d := []) (by omega)]
  · rw [jaT_row hpk]; exact hX.slope h2 hA hpk
theorem z4_0 {p : Prop} (h : p := by unfold maxLen; first | omega | assumption | (simp only [List.length_nil, List.length_cons, List.length_append, List.length_set, List.length_replicate]; omega) | (simp [List.length_nil, List.length_cons, List.length_append, List.length_set, List.length_replicate]; done) | (simp [List.length_nil, List.length_cons, List.length_append, List.length_set, List.length_replicate]; omega)) : p := h
theorem z4_1 {p : Prop} (h : p := by first | rfl | exact ret_bool (decide_eq_true oM) | exact ret_bool (decide_eq_true (hPL.slp oM))) : p := h
theorem c_laws_FnPaths (w : World) (vc : Value) (cs : List UInt8) (vd : Value) (ds : List UInt8) (hcs : Rd (rdL rU) w.heap vc cs) (hds : Rd (rdL rU) w.heap vd ds)  :
    Calls Tryz.prog 4 #[vc, vd] w (fun e w' => e = .returned (.bool true) ∧ Ext w w') := by
  refine calls_mk [vc, vd] 220 Tryz.func4 rfl rfl sM ?_
  have hE0 : Ext w w := Ext.refl w
  have hl_vc := hcs.lenle
  have hl_vd := hds.lenle
  refine wp_seq (wp_plain _ [0] rfl (lw_tvn 1 rfl (wp_seq (wp_seq (wp_plain _ [0, 0, 3] rfl (lw_tv 2 rfl (lw_call 11 [] [] [vc, vd] rfl rfl cf11 zN (c_laws_a2Long _ _ _ _ _ (hcs.ext good_u hE0) (hds.ext good_u hE0)) ?_)))))))
  rintro e1 w1 ⟨rfl, hX1⟩
  refine ⟨_, rfl, hX1, ?_⟩
  have hzs1 : w.heap.size ≤ w1.heap.size := hX1.size
  have hE1 : Ext w w1 := hE0.trans hX1
  refine lw_nil ?_
  cases hb2 : (decide (((3000 : Nat) : Int) < ((cs.length : Nat) : Int)) || decide (((3000 : Nat) : Int) < ((ds.length : Nat) : Int)))
  ·
    refine c_cond_f (by first | rfl | (show Value.bool _ = _; rw [hb2])) (wp_skip (wp_seq (wp_plain _ [0, 3, 0, 0, 0, 0, 0, 0, 3, 4, 0, 0, 0, 0] rfl (lw_tv 1 rfl (lw_call 12 [] [] [vc] rfl rfl cf12 zN (c_spec_A2Call _ vc _ (hcs.ext good_u hE1)) ?_)))))
    rintro e3 w3 ⟨vD, vaD, vbD, pD, fD, kD, aD, bD, rfl, hX3, hOD, haD, hbD, hCD⟩
    refine ⟨_, rfl, hX3, ?_⟩
    have hzs3 : w1.heap.size ≤ w3.heap.size := hX3.size
    have hE3 : Ext w w3 := hE1.trans hX3
    have hfe := hCD.fe
    have hlc := hCD.len
    have hpa := hCD.dr.par fD.toNat oM
    have hou := hCD.dr.outs fD.toNat oM
    have hla := hCD.la
    have hlb := hCD.lb
    have hpk := hCD.pk
    have hft : ((fD.toNat : Nat) : Int) = fD := by omega
    have hvp := okP_vpr hCD.dr.ok
    have har0 := ar_ok hCD.dr.ok oM hla.1 hla.2
    have hli0 := li_ok (d := aD) hCD.dr.ok oM hla.1 hla.2 hla.1 hla.2
    have hex := euC_0 har0
    refine lw_tv 1 rfl (q_extract (vs := [(.agg #[vD]), (.int .i64 fD), (.int .i64 kD), vaD, vbD]) (.agg #[vD]) rfl rfl zN (q_extract (vs := [(.agg #[vD]), (.int .i64 fD), (.int .i64 kD), vaD, vbD]) (.int .i64 fD) rfl rfl zN (q_extract (vs := [(.agg #[vD]), (.int .i64 fD), (.int .i64 kD), vaD, vbD]) (.int .i64 kD) rfl rfl zN (q_extract (vs := [(.agg #[vD]), (.int .i64 fD), (.int .i64 kD), vaD, vbD]) vaD rfl rfl zN (q_extract (vs := [(.agg #[vD]), (.int .i64 fD), (.int .i64 kD), vaD, vbD]) vbD rfl rfl zN (r_allocA (z := .agg #[.slice none 0 0]) zr26 zN fun w4 hX4 hz4 hB4 => ?_))))))
    have hzs4 : w3.heap.size ≤ w4.heap.size := hX4.size
    have hE4 : Ext w w4 := hE3.trans hX4
    have hODx4 := hOD.ext ((good_owS (good_oFn 174 6))) hX4
    have haDx4 := haD.ext (o1) hX4
    have hbDx4 := hbD.ext (o1) hX4
    replace hB4 : BX w4.heap w3.heap.size [(.slice none 0 0)] := hB4
    refine e_setA (vs := [vD]) agg26 rfl rfl (by intro u hu; simp only [List.mem_cons, List.not_mem_nil, or_false] at hu; rcases hu with rfl <;> first | exact ⟨rfl, rfl⟩ | exact isSl_one hODx4.isSlS) hB4 rfl rfl zN fun w5 hC5 hz5 hB5 => ?_
    replace hB5 : BX w5.heap w3.heap.size [vD] := hB5
    have hzs5 : w4.heap.size ≤ w5.heap.size := hC5.size
    have hE5 : Ext w w5 := hC5.below hE4 (fun c hc => by have := List.mem_singleton.1 hc; omega) hE4.size
    have hF6 := hODx4.chg ((good_owS (good_oFn 174 6))) hC5 (fun c hc => by have := List.mem_singleton.1 hc; omega)
    have hF7 := haDx4.chg (o1) hC5 (fun c hc => by have := List.mem_singleton.1 hc; omega)
    have hF8 := hbDx4.chg (o1) hC5 (fun c hc => by have := List.mem_singleton.1 hc; omega)
    refine lw_tvn 4 rfl (wp_seq (wp_plain _ [0, 3, 0, 0, 0, 0, 0, 0, 0] rfl (lw_tv 1 rfl (lw_call 23 [] [] [vd] rfl rfl cf23 zN (c_spec_A2Series _ _ _ (hds.ext good_u hE5)) ?_))))
    rintro e9 w9 ⟨v9_0, v9_1, v9_2, x9_0, x9_1, x9_2, rfl, hX9, hO9_0, hO9_1, hO9_2, hp9_0, hp9_1, hp9_2⟩
    refine ⟨_, rfl, hX9, ?_⟩
    have hzs9 : w5.heap.size ≤ w9.heap.size := hX9.size
    have hE9 : Ext w w9 := hE5.trans hX9
    have hF6x9 := hF6.ext ((good_owS (good_oFn 174 6))) hX9
    have hF7x9 := hF7.ext (o1) hX9
    have hF8x9 := hF8.ext (o1) hX9
    have hB5x9 := hB5.ext hX9
    refine lw_tv 1 rfl (q_extract (vs := [v9_0, v9_1, v9_2]) v9_0 rfl rfl zN (q_extract (vs := [v9_0, v9_1, v9_2]) v9_1 rfl rfl zN (q_extract (vs := [v9_0, v9_1, v9_2]) v9_2 rfl rfl zN (lw_tvn 3 rfl (wp_seq (wp_plain _ [0, 3, 0] rfl (lw_tv 1 rfl (lw_call 24 [] [] [v9_0, (.int .i64 ((0 : Nat) : Int))] rfl rfl cf24 zN (c_laws_a2Begin _ _ _ _ hO9_0.rd1 oM oM) ?_))))))))
    rintro e10 w10 ⟨v10_0, rfl, hX10, hO10_0⟩
    refine ⟨_, rfl, hX10, ?_⟩
    have hzs10 : w9.heap.size ≤ w10.heap.size := hX10.size
    have hE10 : Ext w w10 := hE9.trans hX10
    have hF6x10 := hF6x9.ext ((good_owS (good_oFn 174 6))) hX10
    have hF7x10 := hF7x9.ext (o1) hX10
    have hF8x10 := hF8x9.ext (o1) hX10
    have hB5x10 := hB5x9.ext hX10
    have hO9_0x10 := hO9_0.ext (o1) hX10
    have hO9_1x10 := hO9_1.ext (o1) hX10
    have hO9_2x10 := hO9_2.ext (o1) hX10
    refine lw_tvn 1 rfl (wp_seq (wp_plain _ [3, 0] rfl ?_))
    obtain ⟨bI, hbI⟩ : ∃ b : Sr, b = x9_0.set 0 ((0 : Nat) : Int) := ⟨_, rfl⟩
    have hin := hO10_0
    rw [← hbI] at hin
    have hxs := ‹(1 ≤ _ ∧ _ ≤ 13) ∧ _›
    obtain ⟨mm, hbm⟩ : ∃ m : Nat, m = bI.length := ⟨_, rfl⟩
    have hbs : bI.length = mm ∧ (1 ≤ mm ∧ mm ≤ 13) ∧ allN bI = true ∧ bI.getD 0 0 = 0 := by have h8 := set0_s1 (x := 0) rfl hxs.1.1 hxs.2 oM; rw [show (0 : Int) = ((0 : Nat) : Int) from rfl, ← hbI] at h8; exact ⟨hbm.symm, by have := h8.1.1; omega, h8.1.2, h8.2⟩
    have hmm := hbs.2.1
    refine r_nil (owL rI 2) o1 u32 ti27 zN fun v11 w11 hX11 hz11 hO11 => ?_
    have hzs11 : w10.heap.size ≤ w11.heap.size := hX11.size
    have hE11 : Ext w w11 := hE10.trans hX11
    have hF6x11 := hF6x10.ext ((good_owS (good_oFn 174 6))) hX11
    have hF7x11 := hF7x10.ext (o1) hX11
    have hF8x11 := hF8x10.ext (o1) hX11
    have hB5x11 := hB5x10.ext hX11
    have hO9_0x11 := hO9_0x10.ext (o1) hX11
    have hO9_1x11 := hO9_1x10.ext (o1) hX11
    have hO9_2x11 := hO9_2x10.ext (o1) hX11
    have hinx11 := hin.ext (o1) hX11
    refine lw_tvn 1 rfl (wp_seq (wp_plain _ [3, 0] rfl (r_nil (owL rI 2) o1 u32 ti27 zN fun v12 w12 hX12 hz12 hO12 => ?_)))
    have hzs12 : w11.heap.size ≤ w12.heap.size := hX12.size
    have hE12 : Ext w w12 := hE11.trans hX12
    have hF6x12 := hF6x11.ext ((good_owS (good_oFn 174 6))) hX12
    have hF7x12 := hF7x11.ext (o1) hX12
    have hF8x12 := hF8x11.ext (o1) hX12
    have hB5x12 := hB5x11.ext hX12
    have hO9_0x12 := hO9_0x11.ext (o1) hX12
    have hO9_1x12 := hO9_1x11.ext (o1) hX12
    have hO9_2x12 := hO9_2x11.ext (o1) hX12
    have hinx12 := hinx11.ext (o1) hX12
    have hO11x12 := hO11.ext (o2) hX12
    refine lw_tvn 1 rfl (wp_seq (wp_seq (wp_plain _ [0] rfl (lw_tvn 1 rfl (wp_block ?_)))))
    obtain ⟨Fa0, hoa⟩ := Ow.of_fr hO11x12 (Nat.le_refl _)
    obtain ⟨Fb0, hob⟩ := Ow.of_fr hO12 (Nat.le_refl _)
    have hgx : w3.heap.size < w10.heap.size ∧ w3.heap.size < w11.heap.size := by have := ‹BX _ _ _›.lt; omega
    have hdab : ∀ b ∈ Fa0, b ∉ Fb0 := fun b hb hm => by have := hoa.high b hb; have := hob.low b hm; omega
    refine c_loop (S := Nat × Value × Value × List Sr × List Nat × List Nat) (fun (⟨i, va, vb, X, Fa, Fb⟩ : Nat × Value × Value × List Sr × List Nat × List Nat) => ([(13, va), (14, vb), (15, (.int .i64 ((i : Nat) : Int))), (1, vd), (5, (.pointer (some ⟨w3.heap.size, 0, none⟩))), (6, (.int .i64 fD)), (7, (.int .i64 kD)), (8, vaD), (9, vbD), (10, v10_0)] : List (Nat × Value))) (fun (⟨i, va, vb, X, Fa, Fb⟩ : Nat × Value × Value × List Sr × List Nat × List Nat) (W : World) => Ext w W ∧ Fr (owS 3 (oFn 174 6) 55) w1.heap.size w3.heap.size W.heap vD pD ∧ Ow (owL (owL rI 2) 27) w10.heap.size W.heap.size W.heap va X Fa ∧ Ow (owL (owL rI 2) 27) w11.heap.size W.heap.size W.heap vb (X.map fun s => cpS s bI) Fb ∧ (∀ b ∈ Fa, b ∉ Fb) ∧ Fr (owL rI 2) w1.heap.size w3.heap.size W.heap vaD aD ∧ Fr (owL rI 2) w1.heap.size w3.heap.size W.heap vbD bD ∧ Fr (owL rI 2) w9.heap.size w10.heap.size W.heap v10_0 bI ∧ BX W.heap w3.heap.size [vD] ∧ i ≤ aD.length ∧ (X.length = i ∧ ∀ k, k < i → Ser1 mm (X.getD k []) ∧ (X.getD k []).getD 0 0 = aD.getD k 0) ∧ w1.heap.size ≤ W.heap.size ∧ w10.heap.size ≤ W.heap.size ∧ w11.heap.size ≤ W.heap.size) (fun (⟨i, va, vb, X, Fa, Fb⟩ : Nat × Value × Value × List Sr × List Nat × List Nat) => aD.length - i) (0, v11, v12, [], Fa0, Fb0) ⟨rfl, rfl, rfl, rfl, rfl, rfl, rfl, rfl, rfl, rfl, trivial⟩ ⟨hE12, hF6x12, (hoa.up oM), (hob.up oM), hdab, hF7x12, hF8x12, hinx12, hB5x12, oM, (by exact pth_nil), oM, oM, oM⟩ ?_
    clear hE0 hX1 hX3 hz4 hX4 hzs4 hE4 hz5 hC5 hzs5 hE5 hF6 hF7 hF8 hO9_2 hO9_1 hO9_0 hX9 hF6x9 hF7x9 hF8x9 hO10_0 hX10 hF6x10 hF7x10 hF8x10 hO9_0x10 hO9_1x10 hO9_2x10 hO11 hz11 hX11 hF6x11 hF7x11 hF8x11 hO9_0x11 hO9_1x11 hO9_2x11 hO12 hz12 hX12 hzs12 hE12 hF6x12 hF7x12 hF8x12 hO9_0x12 hO9_1x12 hO9_2x12 hO11x12
    rintro ⟨i, va, vb, X, Fa, Fb⟩ ρ13 w13 ⟨hE13, hL13_0, hL13_1, hL13_2, hL13_3, hL13_4, hL13_5, hL13_6, hL13_7, hp13_0, hpt, hkB14, hkB15, hkB16⟩
    have hzs13 : w.heap.size ≤ w13.heap.size := hE13.size
    have hq17 := hL13_7.lt
    refine wp_seq (wp_seq (wp_plain _ [0, 0, 0, 0] rfl (lw_tv 2 rfl (q_len (v := vaD) u27 rfl hL13_4.isSl zN ?_))))
    by_cases hc18 : ((i : Nat) : Int) < ((aD.length : Nat) : Int)
    ·
      refine q_lss true rfl rfl (decide_eq_true hc18) zN (lw_nil (c_cond_t rfl (wp_skip (wp_seq (wp_block (wp_seq (wp_plain _ [0, 0, 0, 3, 0] rfl (lw_tv 2 rfl (q_len (v := v10_0) u27 rfl hL13_6.isSl zN (lw_call 25 [] [] [vd, (.int .i64 ((bI.length : Nat) : Int))] rfl rfl cf25 zN (c_spec_A2List _ _ _ _ (hds.ext good_u hE13) oM oM) ?_))))))))))
      rintro e19 w19 ⟨v19_0, x19_0, rfl, hX19, hO19_0, hp19_0⟩
      refine ⟨_, rfl, hX19, ?_⟩
      have hzs19 : w13.heap.size ≤ w19.heap.size := hX19.size
      have hE19 : Ext w w19 := hE13.trans hX19
      have hL13_0x19 := hL13_0.ext ((good_owS (good_oFn 174 6))) hX19
      have hL13_1x19 := hL13_1.ext (o2) hX19
      have hL13_2x19 := hL13_2.ext (o2) hX19
      have hL13_4x19 := hL13_4.ext (o1) hX19
      have hL13_5x19 := hL13_5.ext (o1) hX19
      have hL13_6x19 := hL13_6.ext (o1) hX19
      have hL13_7x19 := hL13_7.ext hX19
      refine lw_tvn 1 rfl (wp_seq (wp_draw _ [0, 0, 0, 0, 1, 3, 0, 0, 0, 1, 3, 0] mixed (by kernel_rfl) (lw_tv 3 rfl (q_idx (v := vbD) i u27 ti2 rfl rfl hL13_5x19.isSl rfl oM zN (q_load (p := eptr vbD i 1) (.inl rfl) (.int .i64 (bD.getD i 0)) one2 rfl (hL13_5x19.rd1.getI oM).1 zN (lw_call 26 [] [] [v19_0, (.int .i64 (bD.getD i 0))] rfl rfl cf26 zN (c_laws_a2Scale _ _ _ _ hO19_0.rd1 (hL13_5x19.rd1.getI oM).2 oM) ?_))))))
      rintro e20 w20 ⟨v20_0, rfl, hX20, hO20_0⟩
      refine ⟨_, rfl, hX20, ?_⟩
      replace hX20 := hX20.of_drew
      have hzs20 : w19.heap.size ≤ w20.heap.size := hX20.size
      have hE20 : Ext w w20 := hE19.trans hX20
      have hL13_0x20 := hL13_0x19.ext ((good_owS (good_oFn 174 6))) hX20
      have hL13_1x20 := hL13_1x19.ext (o2) hX20
      have hL13_2x20 := hL13_2x19.ext (o2) hX20
      have hL13_4x20 := hL13_4x19.ext (o1) hX20
      have hL13_5x20 := hL13_5x19.ext (o1) hX20
      have hL13_6x20 := hL13_6x19.ext (o1) hX20
      have hL13_7x20 := hL13_7x19.ext hX20
      have hO19_0x20 := hO19_0.ext (o1) hX20
      replace hO20_0 := hO20_0.low (B' := w19.heap.size) (Nat.le_refl _)
      refine lw_tv 2 rfl (q_idx (v := vaD) i u27 ti2 rfl rfl hL13_4x20.isSl rfl oM zN (q_load (p := eptr vaD i 1) (.inl rfl) (.int .i64 (aD.getD i 0)) one2 rfl (hL13_4x19.rd1.getI oM).1 zN (lw_call 24 [] [] [v20_0, (.int .i64 (aD.getD i 0))] rfl rfl cf24 zN (c_laws_a2Begin _ _ _ _ hO20_0.rd1 (hL13_4x19.rd1.getI oM).2 (by rw [scl_len]; omega)) ?_)))
      rintro e21 w21 ⟨v21_0, rfl, hX21, hO21_0⟩
      refine ⟨_, rfl, hX21, ?_⟩
      have hzs21 : w20.heap.size ≤ w21.heap.size := hX21.size
      have hE21 : Ext w w21 := hE20.trans hX21
      have hL13_0x21 := hL13_0x20.ext ((good_owS (good_oFn 174 6))) hX21
      have hL13_1x21 := hL13_1x20.ext (o2) hX21
      have hL13_2x21 := hL13_2x20.ext (o2) hX21
      have hL13_4x21 := hL13_4x20.ext (o1) hX21
      have hL13_5x21 := hL13_5x20.ext (o1) hX21
      have hL13_6x21 := hL13_6x20.ext (o1) hX21
      have hL13_7x21 := hL13_7x20.ext hX21
      have hO19_0x21 := hO19_0x20.ext (o1) hX21
      have hO20_0x21 := hO20_0.ext (o1) hX21
      refine lw_tvn 1 rfl (wp_seq (wp_plain _ [0, 0, 3, 0, 0, 0, 0, 0] rfl ?_))
      have hsr : Ser1 mm ((scl x19_0 (bD.getD i 0)).set 0 (aD.getD i 0)) ∧ ((scl x19_0 (bD.getD i 0)).set 0 (aD.getD i 0)).getD 0 0 = aD.getD i 0 := set0_s1 (by rw [scl_len]; omega) hmm.1 (scl_num _ _) (allN_get hla.2 i)
      have hsl := hsr.1.1
      refine lw_tv 2 rfl (lw_call 27 [] [] [v21_0, v10_0] rfl rfl cf27 zN (c_impl_ComposeSeries _ _ _ _ _ hO21_0.rd1 hL13_6x21.rd1 (by exact okS_iff.2 ⟨⟨by omega, by omega⟩, hsr.1.2⟩) (by exact okS_iff.2 ⟨⟨by omega, by omega⟩, hbs.2.2.1⟩) oM (by exact hbs.2.2.2)) ?_)
      rintro e22 w22 ⟨v22_0, rfl, hX22, hO22_0⟩
      refine ⟨_, rfl, hX22, ?_⟩
      have hzs22 : w21.heap.size ≤ w22.heap.size := hX22.size
      have hE22 : Ext w w22 := hE21.trans hX22
      have hL13_0x22 := hL13_0x21.ext ((good_owS (good_oFn 174 6))) hX22
      have hL13_1x22 := hL13_1x21.ext (o2) hX22
      have hL13_2x22 := hL13_2x21.ext (o2) hX22
      have hL13_4x22 := hL13_4x21.ext (o1) hX22
      have hL13_5x22 := hL13_5x21.ext (o1) hX22
      have hL13_6x22 := hL13_6x21.ext (o1) hX22
      have hL13_7x22 := hL13_7x21.ext hX22
      have hO19_0x22 := hO19_0x21.ext (o1) hX22
      have hO20_0x22 := hO20_0x21.ext (o1) hX22
      have hO21_0x22 := hO21_0.ext (o1) hX22
      refine lw_tv 1 rfl (q_extract (vs := [v22_0, (.int .i64 0)]) v22_0 rfl rfl zN (q_extract (vs := [v22_0, (.int .i64 0)]) (.int .i64 0) rfl rfl zN (lw_tvn 2 rfl (wp_seq (wp_seq (wp_plain _ [0, 0] rfl (lw_tv 1 rfl ?_)))))))
      have hc23 : ¬ (0 ≠ ((0 : Nat) : Int)) := oM
      refine q_neq false rfl rfl (decide_eq_false hc23) zN (lw_nil (c_cond_f rfl (wp_skip (wp_seq (wp_plain _ [0, 0, 3, 4, 0] rfl (lw_tv 2 rfl (r_oneE (u := v21_0) o1 u32 ti27 rfl rfl hO21_0x22 zN fun v24 w24 hX24 hz24 hO24 => ?_)))))))
      have hzs24 : w22.heap.size ≤ w24.heap.size := hX24.size
      have hE24 : Ext w w24 := hE22.trans hX24
      have hL13_0x24 := hL13_0x22.ext ((good_owS (good_oFn 174 6))) hX24
      have hL13_1x24 := hL13_1x22.ext (o2) hX24
      have hL13_2x24 := hL13_2x22.ext (o2) hX24
      have hL13_4x24 := hL13_4x22.ext (o1) hX24
      have hL13_5x24 := hL13_5x22.ext (o1) hX24
      have hL13_6x24 := hL13_6x22.ext (o1) hX24
      have hL13_7x24 := hL13_7x22.ext hX24
      have hO19_0x24 := hO19_0x22.ext (o1) hX24
      have hO20_0x24 := hO20_0x22.ext (o1) hX24
      have hO22_0x24 := hO22_0.ext (o1) hX24
      refine e_appE o1 (v := va) (a := v24) u32 ti27 rfl rfl rfl hL13_1x24 hO24 oM oM oM sD z4_0 zN fun v25 w25 F25 hC25 hO25 hU25 => ?_
      have hzs25 : w24.heap.size ≤ w25.heap.size := hC25.size
      have hE25 : Ext w w25 := hC25.below hE24 (fun c hc => Nat.le_trans hE10.size (hL13_1x24.low c (List.mem_of_mem_take hc))) hE24.size
      have hV26 : ∀ b ∈ F25, b < w21.heap.size ∨ w22.heap.size ≤ b := fun b hb => by rcases hU25 b hb with hh | hh | hh; (have := hL13_1x24.high b hh; omega); omega; omega
      have hF27 := hL13_0x24.chg ((good_owS (good_oFn 174 6))) hC25 (fun c hc => by have := hL13_1x24.high c (List.mem_of_mem_take hc); have := hL13_1x24.low c (List.mem_of_mem_take hc); omega)
      have hF28 := hL13_2x24.keep (o2) hC25 (fun c hc hm => hL13_3 c (List.mem_of_mem_take hc) hm)
      have hD29 : ∀ b ∈ F25, b ∉ Fb := fun b hb hm => by rcases hU25 b hb with hh | hh | hh; exact hL13_3 b hh hm; (have := hL13_2x24.high b hm; omega); (have := hL13_2x24.high b hm; omega)
      have hF30 := hL13_4x24.chg (o1) hC25 (fun c hc => by have := hL13_1x24.high c (List.mem_of_mem_take hc); have := hL13_1x24.low c (List.mem_of_mem_take hc); omega)
      have hF31 := hL13_5x24.chg (o1) hC25 (fun c hc => by have := hL13_1x24.high c (List.mem_of_mem_take hc); have := hL13_1x24.low c (List.mem_of_mem_take hc); omega)
      have hF32 := hL13_6x24.chg (o1) hC25 (fun c hc => by have := hL13_1x24.high c (List.mem_of_mem_take hc); have := hL13_1x24.low c (List.mem_of_mem_take hc); omega)
      have hF33 := hL13_7x24.chg hC25 (fun hc => by have := hL13_1x24.high _ (List.mem_of_mem_take hc); have := hL13_1x24.low _ (List.mem_of_mem_take hc); omega)
      have hF34 := hO19_0x24.chg (o1) hC25 (fun c hc => by have := hL13_1x24.high c (List.mem_of_mem_take hc); have := hL13_1x24.low c (List.mem_of_mem_take hc); omega)
      have hF35 := hO20_0x24.chg (o1) hC25 (fun c hc => by have := hL13_1x24.high c (List.mem_of_mem_take hc); have := hL13_1x24.low c (List.mem_of_mem_take hc); omega)
      have hF36 := hO22_0x24.chg (o1) hC25 (fun c hc => by have := hL13_1x24.high c (List.mem_of_mem_take hc); have := hL13_1x24.low c (List.mem_of_mem_take hc); omega)
      refine lw_tvn 1 rfl (wp_plain _ [0, 0, 3, 4, 0] rfl (lw_tv 2 rfl (r_oneE (u := v22_0) o1 u32 ti27 rfl rfl hF36 zN fun v37 w37 hX37 hz37 hO37 => ?_)))
      have hzs37 : w25.heap.size ≤ w37.heap.size := hX37.size
      have hE37 : Ext w w37 := hE25.trans hX37
      have hF27x37 := hF27.ext ((good_owS (good_oFn 174 6))) hX37
      have hF28x37 := hF28.ext (o2) hX37
      have hF30x37 := hF30.ext (o1) hX37
      have hF31x37 := hF31.ext (o1) hX37
      have hF32x37 := hF32.ext (o1) hX37
      have hF33x37 := hF33.ext hX37
      have hF34x37 := hF34.ext (o1) hX37
      have hF35x37 := hF35.ext (o1) hX37
      have hO25x37 := hO25.ext (o2) hX37
      refine e_appE o1 (v := vb) (a := v37) u32 ti27 rfl rfl rfl hF28x37 hO37 oM oM oM sD z4_0 zN fun v38 w38 F38 hC38 hO38 hU38 => ?_
      have hzs38 : w37.heap.size ≤ w38.heap.size := hC38.size
      have hE38 : Ext w w38 := hC38.below hE37 (fun c hc => Nat.le_trans hE11.size (hF28x37.low c (List.mem_of_mem_take hc))) hE37.size
      have hF39 := hF27x37.chg ((good_owS (good_oFn 174 6))) hC38 (fun c hc => by have := hF28x37.high c (List.mem_of_mem_take hc); have := hF28x37.low c (List.mem_of_mem_take hc); omega)
      have hF40 := hF30x37.chg (o1) hC38 (fun c hc => by have := hF28x37.high c (List.mem_of_mem_take hc); have := hF28x37.low c (List.mem_of_mem_take hc); omega)
      have hF41 := hF31x37.chg (o1) hC38 (fun c hc => by have := hF28x37.high c (List.mem_of_mem_take hc); have := hF28x37.low c (List.mem_of_mem_take hc); omega)
      have hF42 := hF32x37.chg (o1) hC38 (fun c hc => by have := hF28x37.high c (List.mem_of_mem_take hc); have := hF28x37.low c (List.mem_of_mem_take hc); omega)
      have hF43 := hF33x37.chg hC38 (fun hc => by have := hF28x37.high _ (List.mem_of_mem_take hc); have := hF28x37.low _ (List.mem_of_mem_take hc); omega)
      have hF44 := hF34x37.chg (o1) hC38 (fun c hc => by have := hF28x37.high c (List.mem_of_mem_take hc); have := hF28x37.low c (List.mem_of_mem_take hc); omega)
      have hF45 := hF35x37.chg (o1) hC38 (fun c hc => by have := hF28x37.high c (List.mem_of_mem_take hc); have := hF28x37.low c (List.mem_of_mem_take hc); omega)
      have hF46 := hO25x37.keep (o2) hC38 (fun c hc hm => (fun b hb hm => hD29 b hm hb) c (List.mem_of_mem_take hc) hm)
      have hD47 : ∀ b ∈ F38, b ∉ F25 := fun b hb hm => by rcases hU38 b hb with hh | hh | hh; exact (fun b hb hm => hD29 b hm hb) b hh hm; (have := hV26 b hm; omega); (have := hO25x37.high b hm; omega)
      exact lw_tvn 1 rfl (wp_plain _ [0, 0, 0] rfl (lw_tv 1 rfl (q_add ((i + 1 : Nat) : Int) rfl rfl (w64n oM oM) zN (lw_tvn 1 rfl ⟨((i + 1), v25, v38, (X ++ [(scl x19_0 (bD.getD i 0)).set 0 (aD.getD i 0)]), F25, F38), _, rfl, ⟨rfl, rfl, rfl, rfl, rfl, rfl, rfl, rfl, rfl, rfl, trivial⟩, ⟨hE38, hF39, (by have h := hF46.up (T' := w38.heap.size) oM; exact h), (by have h := hO38.up (T' := w38.heap.size) oM; rw [List.map_append]; exact h), (fun b hb hm => hD47 b hm hb), hF40, hF41, hF42, hF43, oM, (by exact pth_snoc hpt hsr.1 hsr.2), oM, oM, oM⟩, by first | omega | (dsimp only; omega)⟩))))
    ·
      refine q_lss false rfl rfl (decide_eq_false hc18) zN (lw_nil (c_cond_f rfl (wp_exit (t_exit (t_exit (c_exit_here (wp_seq (wp_plain _ [2, 0, 0, 3, 0, 0, 0, 0, 0, 0, 0] rfl ?_))))))))
      have hfr48 := hL13_1.fr
      have hfr49 := hL13_2.fr
      have hPD : PthD mm aD X := ⟨by omega, fun k hk => (hpt.2 k oM).1, fun k hk => (hpt.2 k oM).2⟩
      have hPT := hPD.turn hbs.2.2.2 oM
      have hcd := pth_codes (p := pD) (f := fD.toNat) hPD hmm.1 hbs.2.2.2
      refine q_loadA (p := (.pointer (some ⟨w3.heap.size, 0, none⟩))) (.inr rfl) [vD] agg26 rfl (fun wq9 hw9 => LD.of_box (BX.ext (w := w13) hL13_7 hw9)) rfl zN (lw_tv 2 rfl (lw_call 13 [] [] [(.agg #[vD]), (.int .i64 fD), vaD] rfl rfl cf13 zN (c_spec_Evaluate _ 6 vD (pD) _ _ _ (RN.of_frF hL13_0 (fun b hb => by cases hb)) oM hL13_4.rd1 (by exact hCD.dr.szp)) ?_))
      rintro e50 w50 ⟨v50_0, rfl, hX50, hO50_0⟩
      refine ⟨_, rfl, hX50, ?_⟩
      have hzs50 : w13.heap.size ≤ w50.heap.size := hX50.size
      have hE50 : Ext w w50 := hE13.trans hX50
      have hL13_0x50 := hL13_0.ext ((good_owS (good_oFn 174 6))) hX50
      have hfr48x50 := hfr48.ext (o2) hX50
      have hfr49x50 := hfr49.ext (o2) hX50
      have hL13_4x50 := hL13_4.ext (o1) hX50
      have hL13_5x50 := hL13_5.ext (o1) hX50
      have hL13_6x50 := hL13_6.ext (o1) hX50
      have hL13_7x50 := hL13_7.ext hX50
      refine lw_tv 1 rfl (q_extract (vs := [v50_0, (.int .i64 ((euT pD fD aD : Nat) : Int)), (.int .i64 (euC pD fD aD))]) v50_0 rfl rfl zN (q_extract (vs := [v50_0, (.int .i64 ((euT pD fD aD : Nat) : Int)), (.int .i64 (euC pD fD aD))]) (.int .i64 ((euT pD fD aD : Nat) : Int)) rfl rfl zN (q_extract (vs := [v50_0, (.int .i64 ((euT pD fD aD : Nat) : Int)), (.int .i64 (euC pD fD aD))]) (.int .i64 (euC pD fD aD)) rfl rfl zN (lw_tvn 3 rfl (wp_seq (wp_plain _ [2, 0, 0, 3, 0, 0, 0, 0, 0] rfl (q_loadA (p := (.pointer (some ⟨w3.heap.size, 0, none⟩))) (.inr rfl) [vD] agg26 rfl (fun wq9 hw9 => LD.of_box (BX.ext (w := w50) hL13_7x50 hw9)) rfl zN (lw_tv 2 rfl ?_))))))))
      refine lw_call 28 [] [] [(.agg #[vD]), (.int .i64 fD), va] rfl rfl cf28 zN (c_EvS _ 6 vD (pD) _ va (X) (RN.of_frF hL13_0x50 (fun b hb => by cases hb)) oM (RN.of_fr2 hfr48x50 (fun b hb => by cases hb)) hfr48x50.cap (by exact hCD.dr.ok) (by exact hCD.dr.szp) oM oM oM (by exact hPD.se) (by exact hmm)) ?_
      rintro e51 w51 ⟨v51_0, rfl, hX51, hO51_0, hP51_0⟩
      refine ⟨_, rfl, hX51, ?_⟩
      have hzs51 : w50.heap.size ≤ w51.heap.size := hX51.size
      have hE51 : Ext w w51 := hE50.trans hX51
      have hL13_0x51 := hL13_0x50.ext ((good_owS (good_oFn 174 6))) hX51
      have hfr48x51 := hfr48x50.ext (o2) hX51
      have hfr49x51 := hfr49x50.ext (o2) hX51
      have hL13_4x51 := hL13_4x50.ext (o1) hX51
      have hL13_5x51 := hL13_5x50.ext (o1) hX51
      have hL13_6x51 := hL13_6x50.ext (o1) hX51
      have hL13_7x51 := hL13_7x50.ext hX51
      have hO50_0x51 := hO50_0.ext (o1) hX51
      refine lw_tv 1 rfl (q_extract (vs := [v51_0, (.int .i64 (evD pD mm fD.toNat X))]) v51_0 rfl rfl zN (q_extract (vs := [v51_0, (.int .i64 (evD pD mm fD.toNat X))]) (.int .i64 (evD pD mm fD.toNat X)) rfl rfl zN (lw_tvn 2 rfl (wp_seq (wp_plain _ [2, 0, 0, 3, 0, 0, 0, 0, 0] rfl (q_loadA (p := (.pointer (some ⟨w3.heap.size, 0, none⟩))) (.inr rfl) [vD] agg26 rfl (fun wq9 hw9 => LD.of_box (BX.ext (w := w51) hL13_7x51 hw9)) rfl zN (lw_tv 2 rfl ?_)))))))
      refine lw_call 28 [] [] [(.agg #[vD]), (.int .i64 fD), vb] rfl rfl cf28 zN (c_EvS _ 6 vD (pD) _ vb (X.map fun s => cpS s bI) (RN.of_frF hL13_0x51 (fun b hb => by cases hb)) oM (RN.of_fr2 hfr49x51 (fun b hb => by cases hb)) hfr49x51.cap (by exact hCD.dr.ok) (by exact hCD.dr.szp) oM (by rw [List.length_map]; omega) (by rw [List.length_map]; omega) (by exact hPT.se) (by exact hmm)) ?_
      rintro e52 w52 ⟨v52_0, rfl, hX52, hO52_0, hP52_0⟩
      refine ⟨_, rfl, hX52, ?_⟩
      have hzs52 : w51.heap.size ≤ w52.heap.size := hX52.size
      have hE52 : Ext w w52 := hE51.trans hX52
      have hL13_0x52 := hL13_0x51.ext ((good_owS (good_oFn 174 6))) hX52
      have hfr48x52 := hfr48x51.ext (o2) hX52
      have hfr49x52 := hfr49x51.ext (o2) hX52
      have hL13_4x52 := hL13_4x51.ext (o1) hX52
      have hL13_5x52 := hL13_5x51.ext (o1) hX52
      have hL13_6x52 := hL13_6x51.ext (o1) hX52
      have hL13_7x52 := hL13_7x51.ext hX52
      have hO50_0x52 := hO50_0x51.ext (o1) hX52
      have hO51_0x52 := hO51_0.ext (o2) hX52
      refine lw_tv 1 rfl (q_extract (vs := [v52_0, (.int .i64 (evD pD mm fD.toNat (X.map fun s => cpS s bI)))]) v52_0 rfl rfl zN (q_extract (vs := [v52_0, (.int .i64 (evD pD mm fD.toNat (X.map fun s => cpS s bI)))]) (.int .i64 (evD pD mm fD.toNat (X.map fun s => cpS s bI))) rfl rfl zN (lw_tvn 2 rfl (wp_seq (wp_plain _ [2, 0, 0, 0, 3, 0, 0, 0, 0, 0] rfl (q_loadA (p := (.pointer (some ⟨w3.heap.size, 0, none⟩))) (.inr rfl) [vD] agg26 rfl (fun wq9 hw9 => LD.of_box (BX.ext (w := w52) hL13_7x52 hw9)) rfl zN (lw_tv 3 rfl ?_)))))))
      refine lw_call 29 [] [] [(.agg #[vD]), (.int .i64 fD), (.int .i64 kD), va] rfl rfl cf29 zN (c_PaD _ 6 vD (pD) _ _ va (X) (RN.of_frF hL13_0x52 (fun b hb => by cases hb)) oM oM (RN.of_fr2 hfr48x52 (fun b hb => by cases hb)) hfr48x52.cap (by exact hCD.dr.ok) (by exact hCD.dr.szp) oM oM oM (by exact hPD.se) (by exact hmm) oM) ?_
      rintro e53 w53 ⟨v53_0, rfl, hX53, hO53_0, hP53_0⟩
      refine ⟨_, rfl, hX53, ?_⟩
      have hzs53 : w52.heap.size ≤ w53.heap.size := hX53.size
      have hE53 : Ext w w53 := hE52.trans hX53
      have hL13_0x53 := hL13_0x52.ext ((good_owS (good_oFn 174 6))) hX53
      have hfr48x53 := hfr48x52.ext (o2) hX53
      have hfr49x53 := hfr49x52.ext (o2) hX53
      have hL13_4x53 := hL13_4x52.ext (o1) hX53
      have hL13_5x53 := hL13_5x52.ext (o1) hX53
      have hL13_6x53 := hL13_6x52.ext (o1) hX53
      have hL13_7x53 := hL13_7x52.ext hX53
      have hO50_0x53 := hO50_0x52.ext (o1) hX53
      have hO51_0x53 := hO51_0x52.ext (o2) hX53
      have hO52_0x53 := hO52_0.ext (o2) hX53
      refine lw_tv 1 rfl (q_extract (vs := [v53_0, (.int .i64 (evD pD mm fD.toNat X))]) v53_0 rfl rfl zN (q_extract (vs := [v53_0, (.int .i64 (evD pD mm fD.toNat X))]) (.int .i64 (evD pD mm fD.toNat X)) rfl rfl zN (lw_tvn 2 rfl (wp_seq (wp_plain _ [2, 0, 0, 0, 3, 0, 0, 0, 0, 0] rfl (q_loadA (p := (.pointer (some ⟨w3.heap.size, 0, none⟩))) (.inr rfl) [vD] agg26 rfl (fun wq9 hw9 => LD.of_box (BX.ext (w := w53) hL13_7x53 hw9)) rfl zN (lw_tv 3 rfl (lw_call 30 [] [] [(.agg #[vD]), (.int .i64 fD), (.int .i64 kD), vaD] rfl rfl cf30 zN (c_impl_GradientOf _ 6 vD (pD) _ _ _ _ (RN.of_frF hL13_0x53 (fun b hb => by cases hb)) oM oM hL13_4x53.rd1 (by exact hli0) (by exact hCD.dr.szp) oM) ?_))))))))
      rintro e54 w54 ⟨v54_0, rfl, hX54, hO54_0, hP54_0⟩
      refine ⟨_, rfl, hX54, ?_⟩
      have hzs54 : w53.heap.size ≤ w54.heap.size := hX54.size
      have hE54 : Ext w w54 := hE53.trans hX54
      have hL13_0x54 := hL13_0x53.ext ((good_owS (good_oFn 174 6))) hX54
      have hfr48x54 := hfr48x53.ext (o2) hX54
      have hfr49x54 := hfr49x53.ext (o2) hX54
      have hL13_4x54 := hL13_4x53.ext (o1) hX54
      have hL13_5x54 := hL13_5x53.ext (o1) hX54
      have hL13_6x54 := hL13_6x53.ext (o1) hX54
      have hL13_7x54 := hL13_7x53.ext hX54
      have hO50_0x54 := hO50_0x53.ext (o1) hX54
      have hO51_0x54 := hO51_0x53.ext (o2) hX54
      have hO52_0x54 := hO52_0x53.ext (o2) hX54
      have hO53_0x54 := hO53_0.ext (o1) hX54
      refine lw_tv 1 rfl (q_extract (vs := [v54_0, (.int .i64 (nxC pD fD.toNat aD))]) v54_0 rfl rfl zN (q_extract (vs := [v54_0, (.int .i64 (nxC pD fD.toNat aD))]) (.int .i64 (nxC pD fD.toNat aD)) rfl rfl zN (lw_tvn 2 rfl (wp_seq (wp_seq (wp_plain _ [0, 0, 0, 0, 0, 0, 0, 0, 0, 0, 0, 0, 0, 0, 0, 0, 0, 0] rfl (lw_tv 2 rfl ?_)))))))
      have hc55 : ¬ (evD pD mm fD.toNat X ≠ euC pD fD aD) := oM
      refine q_neq false rfl rfl (decide_eq_false hc55) zN (lw_tv 3 rfl ?_)
      have hc56 : ¬ (evD pD mm fD.toNat (X.map fun s => cpS s bI) ≠ euC pD fD aD) := oM
      refine q_neq false rfl rfl (decide_eq_false hc56) (zS (e := 132) rfl rfl rfl) (lw_tv 4 rfl ?_)
      have hc57 : ¬ (evD pD mm fD.toNat X ≠ euC pD fD aD) := oM
      refine q_neq false rfl rfl (decide_eq_false hc57) (zS (e := 137) rfl rfl rfl) (lw_tv 4 rfl ?_)
      have hc58 : ¬ (nxC pD fD.toNat aD ≠ euC pD fD aD) := oM
      refine q_neq false rfl rfl (decide_eq_false hc58) (zS (e := 142) rfl rfl rfl) (lw_tvn 1 rfl (c_cond_f rfl (wp_skip (wp_seq (wp_seq (wp_plain _ [0, 0] rfl (lw_tv 1 rfl ?_)))))))
      by_cases hc59 : euC pD fD aD ≠ ((0 : Nat) : Int)
      ·
        exact q_neq true rfl rfl (decide_eq_true hc59) zN (lw_nil (c_cond_t rfl (wp_seq (wp_plain _ [0] rfl (lw_tvn 1 rfl (wp_ret (t_ret (post_ret [4] rfl (.bool true) rfl ⟨z4_1, hE54⟩))))))))
      ·
        refine q_neq false rfl rfl (decide_eq_false hc59) zN (lw_nil (c_cond_f rfl (wp_skip (wp_seq (wp_seq (wp_plain _ [0, 0, 0, 2, 0, 0, 0, 2, 0, 0, 0, 0, 0, 0, 0, 0, 0] rfl ?_))))))
        have h0n : nxC pD fD.toNat aD = 0 := by omega
        have hPL := pth_law (pk := kD.toNat) ⟨hvp, by omega, hla.1, hla.2, h0n⟩ hPD hmm.1 hbs.2.2.2 oM
        have hln := hPL.ln
        have hgr := hO54_0
        rw [if_pos oM] at hgr
        replace hgr : Fr _ _ _ _ _ ((jaT pD fD.toNat aD (pD.getD fD.toNat Fn.zero).outs.length aD.length).getD kD.toNat []) := hgr
        have hsl := hO53_0x54
        rw [if_pos oM] at hsl
        replace hsl : Fr _ _ _ _ _ (derS ((evR pD mm fD.toNat X).getD kD.toNat [])) := hsl
        refine lw_tv 1 rfl (q_len (v := v51_0) u32 rfl hO51_0x54.isSl zN (q_fldP (p := (.pointer (some ⟨w3.heap.size, 0, none⟩))) (b := w3.heap.size) (o := 0) 0 fd26_0 rfl rfl zN (q_load (p := (padd (.pointer (some ⟨w3.heap.size, 0, none⟩)) 0)) (.inr rfl) vD one24 rfl (hL13_7x54.ldp (i := 0) sM) zN (lw_tv 1 rfl (q_idx (v := vD) ((fD).toNat) u24 tiS55 rfl rfl hL13_0x54.isSlS oM sD zN ?_)))))
        obtain ⟨cs60, hr60, hl60⟩ := RN.get (S := []) (good_rFn 6) Fn.zero (k := (fD).toNat) (RN.of_frF hL13_0x54 (fun b hb => by cases hb)) sD
        obtain ⟨ve60, rfl, hx60⟩ := RF.of hr60
        have hln60 := hx60.rn.lenle
        unfold maxLen at hln60
        refine q_fldL (p := eptr vD ((fD).toNat) 3) 2 fd55_2 rfl (hl60 _ (Chg.refl [] _)) zN (q_load (p := (padd (eptr vD ((fD).toNat) 3) 2)) (.inr rfl) ve60 one53 rfl ((hl60 _ (Chg.refl [] _)).ld (i := 2) (by simp [exC, fnC])) zN (q_len (v := ve60) u53 rfl hx60.rn.isSl zN ?_))
        have hc61 : ¬ ((((evR pD mm fD.toNat X).length : Nat) : Int) ≠ (((pD.getD ((fD).toNat) Fn.zero).outs.length : Nat) : Int)) := oM
        refine q_neq false rfl rfl (decide_eq_false hc61) zN (lw_tv 2 rfl (q_len (v := v52_0) u32 rfl hO52_0x54.isSl (zS (e := 159) rfl rfl rfl) (lw_tv 1 rfl (q_len (v := v51_0) u32 rfl hO51_0x54.isSl (zS (e := 159) rfl rfl rfl) ?_))))
        have hc62 : ¬ ((((evR pD mm fD.toNat (X.map fun s => cpS s bI)).length : Nat) : Int) ≠ (((evR pD mm fD.toNat X).length : Nat) : Int)) := oM
        refine q_neq false rfl rfl (decide_eq_false hc62) (zS (e := 159) rfl rfl rfl) (lw_tvn 1 rfl (c_cond_f rfl (wp_skip (wp_seq (wp_seq (wp_plain _ [0] rfl (lw_tvn 1 rfl (wp_block ?_))))))))
        refine c_loop (S := Nat) (fun (i : Nat) => ([(30, (.int .i64 ((i : Nat) : Int))), (8, vaD), (10, v10_0), (13, va), (22, v51_0), (24, v52_0), (26, v53_0), (28, v54_0)] : List (Nat × Value))) (fun (i : Nat) (W : World) => Ext w W ∧ Fr (owS 3 (oFn 174 6) 55) w1.heap.size w3.heap.size W.heap vD pD ∧ Fr (owL (owL rI 2) 27) w10.heap.size w13.heap.size W.heap va X ∧ Fr (owL rI 2) w1.heap.size w3.heap.size W.heap vaD aD ∧ Fr (owL rI 2) w9.heap.size w10.heap.size W.heap v10_0 bI ∧ Fr (owL (owL rI 2) 27) w50.heap.size w51.heap.size W.heap v51_0 (evR pD mm fD.toNat X) ∧ Fr (owL (owL rI 2) 27) w51.heap.size w52.heap.size W.heap v52_0 (evR pD mm fD.toNat (X.map fun s => cpS s bI)) ∧ Fr (owL rI 2) w52.heap.size w53.heap.size W.heap v53_0 (derS ((evR pD mm fD.toNat X).getD kD.toNat [])) ∧ Fr (owL rI 2) w53.heap.size w54.heap.size W.heap v54_0 ((jaT pD fD.toNat aD (pD.getD fD.toNat Fn.zero).outs.length aD.length).getD kD.toNat []) ∧ i ≤ (pD.getD fD.toNat Fn.zero).outs.length ∧ w1.heap.size ≤ W.heap.size) (fun (i : Nat) => (pD.getD fD.toNat Fn.zero).outs.length - i) 0 ⟨rfl, rfl, rfl, rfl, rfl, rfl, rfl, rfl, trivial⟩ ⟨hE54, hL13_0x54, hfr48x54, hL13_4x54, hL13_6x54, hO51_0x54, hO52_0x54, hsl, hgr, oM, oM⟩ ?_
        clear hzs11 hE11 hL13_7 hL13_6 hL13_5 hL13_4 hL13_3 hL13_2 hL13_1 hL13_0 hO50_0 hX50 hL13_0x50 hL13_4x50 hL13_5x50 hL13_6x50 hL13_7x50 hO51_0 hX51 hL13_0x51 hL13_4x51 hL13_5x51 hL13_6x51 hL13_7x51 hO50_0x51 hO52_0 hX52 hL13_0x52 hL13_4x52 hL13_5x52 hL13_6x52 hL13_7x52 hO50_0x52 hO51_0x52 hO53_0 hX53 hL13_0x53 hL13_4x53 hL13_5x53 hL13_6x53 hL13_7x53 hO50_0x53 hO51_0x53 hO52_0x53 hO54_0 hX54 hL13_0x54 hL13_4x54 hL13_5x54 hL13_6x54 hL13_7x54 hO50_0x54 hO51_0x54 hO52_0x54 hO53_0x54 hln60
        rintro i ρ63 w63 ⟨hE63, hL63_0, hL63_1, hL63_2, hL63_3, hL63_4, hL63_5, hL63_6, hL63_7, hp63_0, hkB64⟩
        have hzs63 : w.heap.size ≤ w63.heap.size := hE63.size
        refine wp_seq (wp_seq (wp_plain _ [0, 0, 0, 0] rfl (lw_tv 2 rfl (q_len (v := v51_0) u32 rfl hL63_4.isSl zN ?_))))
        by_cases hc65 : ((i : Nat) : Int) < (((evR pD mm fD.toNat X).length : Nat) : Int)
        ·
          refine q_lss true rfl rfl (decide_eq_true hc65) zN (lw_nil (c_cond_t rfl (wp_skip (wp_seq (wp_block (wp_seq (wp_plain _ [0, 0, 0, 2, 0, 3, 0, 0, 0, 0, 0] rfl ?_)))))))
          have hoi := hPL.ser i oM
          have hoil := hoi.1
          refine lw_tv 2 rfl (q_idx (v := v51_0) i u32 ti27 rfl rfl hL63_4.isSl rfl oM zN ?_)
          obtain ⟨ue66, hl66, hd66⟩ := hL63_4.rd2.get (k := i) [] oM
          have hln66 := hd66.lenle
          refine q_load (p := eptr v51_0 i 1) (.inr rfl) ue66 one27 rfl hl66 zN (lw_tv 1 rfl (lw_call 27 [] [] [ue66, v10_0] rfl rfl cf27 zN (c_impl_ComposeSeries _ _ _ _ _ hd66 hL63_3.rd1 (by exact okS_iff.2 ⟨⟨by omega, by omega⟩, hoi.2⟩) (by exact okS_iff.2 ⟨⟨by omega, by omega⟩, hbs.2.2.1⟩) oM (by exact hbs.2.2.2)) ?_))
          rintro e67 w67 ⟨v67_0, rfl, hX67, hO67_0⟩
          refine ⟨_, rfl, hX67, ?_⟩
          have hzs67 : w63.heap.size ≤ w67.heap.size := hX67.size
          have hE67 : Ext w w67 := hE63.trans hX67
          have hL63_0x67 := hL63_0.ext ((good_owS (good_oFn 174 6))) hX67
          have hL63_1x67 := hL63_1.ext (o2) hX67
          have hL63_2x67 := hL63_2.ext (o1) hX67
          have hL63_3x67 := hL63_3.ext (o1) hX67
          have hL63_4x67 := hL63_4.ext (o2) hX67
          have hL63_5x67 := hL63_5.ext (o2) hX67
          have hL63_6x67 := hL63_6.ext (o1) hX67
          have hL63_7x67 := hL63_7.ext (o1) hX67
          have hd66x67 := hd66.ext g1 hX67
          have hlx68 := ldH_ext hX67 hl66
          refine lw_tv 1 rfl (q_extract (vs := [v67_0, (.int .i64 0)]) v67_0 rfl rfl zN (q_extract (vs := [v67_0, (.int .i64 0)]) (.int .i64 0) rfl rfl zN (lw_tvn 2 rfl (wp_seq (wp_plain _ [0, 0, 0, 0, 0, 0, 0, 2, 3, 0, 0] rfl (lw_tv 1 rfl ?_))))))
          have hc69 : ¬ (0 ≠ ((0 : Nat) : Int)) := oM
          refine q_neq false rfl rfl (decide_eq_false hc69) zN (lw_tv 4 rfl (q_idx (v := v52_0) i u32 ti27 rfl rfl hL63_5x67.isSl rfl oM (zS (e := 183) rfl rfl rfl) ?_))
          obtain ⟨ue70, hl70, hd70⟩ := hL63_5x67.rd2.get (k := i) [] oM
          have hln70 := hd70.lenle
          refine q_load (p := eptr v52_0 i 1) (.inr rfl) ue70 one27 rfl hl70 (zS (e := 183) rfl rfl rfl) (lw_call 19 [] [] [v67_0, ue70] rfl rfl cf19 (zS (e := 183) rfl rfl rfl) (c_laws_a2Same _ _ _ _ _ hO67_0.rd1 hd70) ?_)
          rintro e71 w71 ⟨rfl, hX71⟩
          refine ⟨_, rfl, hX71, ?_⟩
          have hzs71 : w67.heap.size ≤ w71.heap.size := hX71.size
          have hE71 : Ext w w71 := hE67.trans hX71
          have hL63_0x71 := hL63_0x67.ext ((good_owS (good_oFn 174 6))) hX71
          have hL63_1x71 := hL63_1x67.ext (o2) hX71
          have hL63_2x71 := hL63_2x67.ext (o1) hX71
          have hL63_3x71 := hL63_3x67.ext (o1) hX71
          have hL63_4x71 := hL63_4x67.ext (o2) hX71
          have hL63_5x71 := hL63_5x67.ext (o2) hX71
          have hL63_6x71 := hL63_6x67.ext (o1) hX71
          have hL63_7x71 := hL63_7x67.ext (o1) hX71
          have hd66x71 := hd66x67.ext g1 hX71
          have hlx72 := ldH_ext hX71 hlx68
          have hO67_0x71 := hO67_0.ext (o1) hX71
          have hd70x71 := hd70.ext g1 hX71
          have hlx73 := ldH_ext hX71 hl70
          rw [show (decide ((cpS ((evR pD mm fD.toNat X).getD i []) bI) = ((evR pD mm fD.toNat (X.map fun s => cpS s bI)).getD i []))) = true from decide_eq_true (hPL.cmp i oM)]
          exact q_not false rfl rfl (zS (e := 183) rfl rfl rfl) (lw_tvn 1 rfl (c_cond_f rfl (wp_skip (wp_plain _ [0, 0, 0] rfl (lw_tv 1 rfl (q_add ((i + 1 : Nat) : Int) rfl rfl (w64n oM oM) zN (lw_tvn 1 rfl ⟨(i + 1), _, rfl, ⟨rfl, rfl, rfl, rfl, rfl, rfl, rfl, rfl, trivial⟩, ⟨hE71, hL63_0x71, hL63_1x71, hL63_2x71, hL63_3x71, hL63_4x71, hL63_5x71, hL63_6x71, hL63_7x71, oM, oM⟩, by first | omega | (dsimp only; omega)⟩)))))))
        ·
          refine q_lss false rfl rfl (decide_eq_false hc65) zN (lw_nil (c_cond_f rfl (wp_exit (t_exit (t_exit (c_exit_here (wp_seq (wp_seq (wp_plain _ [0, 0, 0] rfl (lw_tv 1 rfl (q_len (v := v10_0) u27 rfl hL63_3.isSl zN ?_)))))))))))
          by_cases hc74 : ((bI.length : Nat) : Int) = ((1 : Nat) : Int)
          ·
            refine q_eql true rfl rfl (decide_eq_true hc74) zN (lw_nil (c_cond_t rfl (wp_seq (wp_plain _ [0, 3, 3, 0] rfl ?_))))
            have hks := hPL.ser kD.toNat oM
            have hd1 : derS ((evR pD mm fD.toNat X).getD kD.toNat []) = [((0 : Nat) : Int)] := der_one (by have := hks.1; omega)
            refine lw_tv 1 rfl (r_one (u := (.int .i64 ((0 : Nat) : Int))) (B := w63.heap.size) good_rI u27 ti2 rfl rfl (frI w63.heap.size w63.heap.size _ _ oM) (Nat.le_refl _) zN fun v75 w75 hX75 hz75 hO75 => ?_)
            have hzs75 : w63.heap.size ≤ w75.heap.size := hX75.size
            have hE75 : Ext w w75 := hE63.trans hX75
            have hL63_0x75 := hL63_0.ext ((good_owS (good_oFn 174 6))) hX75
            have hL63_1x75 := hL63_1.ext (o2) hX75
            have hL63_2x75 := hL63_2.ext (o1) hX75
            have hL63_3x75 := hL63_3.ext (o1) hX75
            have hL63_4x75 := hL63_4.ext (o2) hX75
            have hL63_5x75 := hL63_5.ext (o2) hX75
            have hL63_6x75 := hL63_6.ext (o1) hX75
            have hL63_7x75 := hL63_7.ext (o1) hX75
            refine lw_call 19 [] [] [v53_0, v75] rfl rfl cf19 zN (c_laws_a2Same _ _ _ _ _ hL63_6x75.rd1 hO75.rd1) ?_
            rintro e76 w76 ⟨rfl, hX76⟩
            refine ⟨_, rfl, hX76, ?_⟩
            have hzs76 : w75.heap.size ≤ w76.heap.size := hX76.size
            have hE76 : Ext w w76 := hE75.trans hX76
            have hL63_0x76 := hL63_0x75.ext ((good_owS (good_oFn 174 6))) hX76
            have hL63_1x76 := hL63_1x75.ext (o2) hX76
            have hL63_2x76 := hL63_2x75.ext (o1) hX76
            have hL63_3x76 := hL63_3x75.ext (o1) hX76
            have hL63_4x76 := hL63_4x75.ext (o2) hX76
            have hL63_5x76 := hL63_5x75.ext (o2) hX76
            have hL63_6x76 := hL63_6x75.ext (o1) hX76
            have hL63_7x76 := hL63_7x75.ext (o1) hX76
            have hO75x76 := hO75.ext (o1) hX76
            rw [show (decide ((derS ((evR pD mm fD.toNat X).getD kD.toNat [])) = ([((0 : Nat) : Int)]))) = true from decide_eq_true hd1]
            exact lw_tvn 1 rfl (wp_ret (t_ret (post_ret [4] rfl (.bool true) rfl ⟨z4_1, hE76⟩)))
          ·
            refine q_eql false rfl rfl (decide_eq_false hc74) zN (lw_nil (c_cond_f rfl (wp_skip (wp_seq (wp_draw _ [0, 0, 0, 0, 0, 0, 0, 0, 0, 0, 0, 0, 0, 0, 0, 1, 0, 0, 3, 3, 0, 0, 0] mixed (by kernel_rfl) ?_)))))
            have hks := hPL.ser kD.toNat oM
            have hksl := hks.1
            have hjr : ((jaT pD fD.toNat aD (pD.getD fD.toNat Fn.zero).outs.length aD.length).getD kD.toNat []).length = aD.length := jaT_row oM
            refine lw_tv 1 rfl (q_len (v := v53_0) u27 rfl hL63_6.isSl zN (lw_tv 1 rfl (q_len (v := v10_0) u27 rfl hL63_3.isSl zN ?_)))
            have hc77 : (((derS ((evR pD mm fD.toNat X).getD kD.toNat [])).length : Nat) : Int) = ((bI.length : Nat) : Int) := (by rw [derS_len]; omega)
            refine q_eql true rfl rfl (decide_eq_true hc77) zN (lw_tv 2 rfl (q_len (v := v54_0) u27 rfl hL63_7.isSl (zS (e := 203) rfl rfl rfl) (lw_tv 1 rfl (q_len (v := vaD) u27 rfl hL63_2.isSl (zS (e := 203) rfl rfl rfl) ?_))))
            have hc78 : ((((jaT pD fD.toNat aD (pD.getD fD.toNat Fn.zero).outs.length aD.length).getD kD.toNat []).length : Nat) : Int) = ((aD.length : Nat) : Int) := oM
            refine q_eql true rfl rfl (decide_eq_true hc78) (zS (e := 203) rfl rfl rfl) (lw_tv 3 rfl (q_idx (v := v53_0) 0 u27 ti2 rfl rfl hL63_6.isSl rfl (by rw [derS_len]; omega) (zS (e := 210) rfl rfl rfl) (q_load (p := eptr v53_0 0 1) (.inl rfl) (.int .i64 ((derS ((evR pD mm fD.toNat X).getD kD.toNat [])).getD 0 0)) one2 rfl (hL63_6.rd1.getI (by rw [derS_len]; omega)).1 (zS (e := 210) rfl rfl rfl) (lw_tv 2 rfl ?_))))
            refine lw_call 20 [] [] [va, (.int .i64 ((1 : Nat) : Int))] rfl rfl cf20 (zS (e := 210) rfl rfl rfl) (c_laws_a2Column _ _ _ (1) hL63_1.rd2 sD oM (by intro r hr; have h9 := (hPD.se r oM).1; omega)) ?_
            rintro e79 w79 ⟨v79_0, rfl, hX79, hO79_0⟩
            refine ⟨_, rfl, hX79, ?_⟩
            replace hX79 := hX79.of_drew
            have hzs79 : w63.heap.size ≤ w79.heap.size := hX79.size
            have hE79 : Ext w w79 := hE63.trans hX79
            have hL63_0x79 := hL63_0.ext ((good_owS (good_oFn 174 6))) hX79
            have hL63_1x79 := hL63_1.ext (o2) hX79
            have hL63_2x79 := hL63_2.ext (o1) hX79
            have hL63_3x79 := hL63_3.ext (o1) hX79
            have hL63_4x79 := hL63_4.ext (o2) hX79
            have hL63_5x79 := hL63_5.ext (o2) hX79
            have hL63_6x79 := hL63_6.ext (o1) hX79
            have hL63_7x79 := hL63_7.ext (o1) hX79
            replace hO79_0 := hO79_0.low (B' := w63.heap.size) (Nat.le_refl _)
            refine lw_call 18 [] [] [v54_0, v79_0] rfl rfl cf18 (zS (e := 210) rfl rfl rfl) (c_laws_a2Dot _ _ _ _ _ hL63_7x79.rd1 hO79_0.rd1 (by rw [jaT_row oM, List.length_map]; omega)) ?_
            rintro e80 w80 ⟨rfl, hX80⟩
            refine ⟨_, rfl, hX80, ?_⟩
            have hzs80 : w79.heap.size ≤ w80.heap.size := hX80.size
            have hE80 : Ext w w80 := hE79.trans hX80
            have hL63_0x80 := hL63_0x79.ext ((good_owS (good_oFn 174 6))) hX80
            have hL63_1x80 := hL63_1x79.ext (o2) hX80
            have hL63_2x80 := hL63_2x79.ext (o1) hX80
            have hL63_3x80 := hL63_3x79.ext (o1) hX80
            have hL63_4x80 := hL63_4x79.ext (o2) hX80
            have hL63_5x80 := hL63_5x79.ext (o2) hX80
            have hL63_6x80 := hL63_6x79.ext (o1) hX80
            have hL63_7x80 := hL63_7x79.ext (o1) hX80
            have hO79_0x80 := hO79_0.ext (o1) hX80
            exact q_eql (decide ((derS ((evR pD mm fD.toNat X).getD kD.toNat [])).getD 0 0 = dotG ((jaT pD fD.toNat aD (pD.getD fD.toNat Fn.zero).outs.length aD.length).getD kD.toNat []) (X.map (fun r => r.getD 1 0)) ((jaT pD fD.toNat aD (pD.getD fD.toNat Fn.zero).outs.length aD.length).getD kD.toNat []).length)) rfl rfl rfl (zS (e := 210) rfl rfl rfl) (lw_tvn 2 rfl (wp_ret (post_ret [4] rfl (.bool (decide ((derS ((evR pD mm fD.toNat X).getD kD.toNat [])).getD 0 0 = dotG ((jaT pD fD.toNat aD (pD.getD fD.toNat Fn.zero).outs.length aD.length).getD kD.toNat []) (X.map (fun r => r.getD 1 0)) ((jaT pD fD.toNat aD (pD.getD fD.toNat Fn.zero).outs.length aD.length).getD kD.toNat []).length))) rfl ⟨z4_1, hE80⟩)))
  ·
    exact c_cond_t (by first | rfl | (show Value.bool _ = _; rw [hb2])) (wp_seq (wp_plain _ [0] rfl (lw_tvn 1 rfl (wp_ret (t_ret (post_ret [4] rfl (.bool true) rfl ⟨z4_1, hE1⟩))))))
end Go.Proofs.YtnokbaiemimhjaaGreat
