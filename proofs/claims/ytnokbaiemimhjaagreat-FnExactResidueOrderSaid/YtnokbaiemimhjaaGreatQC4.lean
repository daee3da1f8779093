/- Vh, Vq, Vr, Vm, Xk, Ya, Yb, Yc: texts of this claim, joined; what the claim does not come to is left out. -/
import Derived.Test.YtnokbaiemimhjaaGreatQC3
import Derived.Test.YtnokbaiemimhjaaGreatProg
set_option linter.unusedVariables false
set_option linter.unusedSimpArgs false
namespace Go.Proofs.YtnokbaiemimhjaaGreat
open Go Go.RowKit
set_option linter.unusedVariables false
set_option linter.unusedSimpArgs false
set_option maxHeartbeats 4000000
set_option maxRecDepth 100000
attribute [local irreducible] LW
theorem isF_1 {p:List Fn} {f:Int} (h:okP p = false):1 = isF p f:=by unfold isF; rw [h]; rfl
theorem isF_2 {p:List Fn} {f:Int} (h:okP p = true) (h2:¬ (0≤f∧f≤((p.length:Nat):Int) - 1)):2 = isF p f:=by unfold isF; rw [if_pos h,if_neg h2]
theorem isF_3 {p:List Fn} {f:Int} (h:okP p = true) (h2:0≤f∧f≤((p.length:Nat):Int) - 1):0 = isF p f:=by unfold isF; rw [if_pos h,if_pos h2]
theorem z84_0 {p:Prop} (h:p:=by first | exact ret_int (isF_1 (bn_t (by assumption))) | exact ret_int (isF_2 (bn_f (by assumption)) (inB_d (bn_t (by assumption)))) | exact ret_int (isF_3 (bn_f (by assumption)) (inB_e (bn_f (by assumption))))):p:=h
theorem c_impl_isFunc (w:World) (dp:Nat) (vp:Value) (p:List Fn) (f:Int) (hp:RP [] dp w.heap vp p) (_hf:-9223372036854775808≤f∧f≤9223372036854775807) (hz:SzP p) :
  Calls Tryz.prog 84 #[(.agg #[vp]),.int .i64 f] w (fun e w'=>e = .returned (.int .i64 (isF p f))∧Ext w w'):=by
 refine calls_mk [(.agg #[vp]),.int .i64 f] 17 Tryz.func84 rfl rfl sM ?_
 have hE0:Ext w w:=Ext.refl w
 have hl_vp:=hp.lenle
 unfold maxLen at hl_vp
 refine wp_seq (wp_plain _ [3,0] rfl (r_boxA (cs:=#[vp]) rfl zN fun w1 hX1 hz1 hB1=>?_))
 have hzs1:=hX1.size
 have hE1:=hE0.trans hX1
 replace hB1:BX w1.heap w.heap.size [vp]:=hB1
 refine lw_tvn 1 rfl (wp_seq (wp_block (wp_seq (wp_plain _ [2,3,0,0] rfl (q_loadA (p:=(.pointer (some ⟨w.heap.size,0,none⟩))) (.inr rfl) [vp] agg26 rfl (fun wq9 hw9=>LD.of_box (BX.ext (w:=w1) hB1 hw9)) rfl zN (lw_call 152 [] [] [(.agg #[vp])] rfl rfl cf152 zN (c_impl_ValidProgram _ dp vp (p) (hp.ext (good_rdS (good_rFn dp)) hE1) (by exact hz)) ?_))))))
 rintro e2 w2 ⟨rfl,hX2⟩
 refine ⟨_,rfl,hX2,?_⟩
 have hzs2:=hX2.size
 have hE2:=hE1.trans hX2
 have hB1x2:=hB1.ext hX2
 refine q_not (!(okP p)) rfl rfl zN (lw_tvn 1 rfl ?_)
 cases hb3:(!(okP p))
 ·
  refine c_cond_f (by first | rfl | (show Value.bool _ = _; rw [hb3])) (wp_seq (wp_plain _ [0,0,2,0,0,0,0,0] rfl (lw_tv 1 rfl (q_fldP (p:=(.pointer (some ⟨w.heap.size,0,none⟩))) (b:=w.heap.size) (o:=0) 0 fd26_0 rfl rfl zN (q_load (p:=(padd (.pointer (some ⟨w.heap.size,0,none⟩)) 0)) (.inr rfl) vp one24 rfl (hB1x2.ldp (i:=0) sM) zN (q_len (v:=vp) u24 rfl hp.isSl zN (q_sub (((p.length :Nat):Int) - 1) rfl rfl (w64 oM oM) zN (lw_callq 72 [] [] [(.int .i64 f),(.int .i64 ((0 :Nat):Int)),(.int .i64 (((p.length :Nat):Int) - 1))] rfl rfl cf72 zN (.bool (decide (((0 :Nat):Int)≤f) && decide (f≤(((p.length :Nat):Int) - 1)))) (fun wq=>c_impl_within wq _ _ _ _hf oM oM) ?_))))))))
  refine q_not (!(decide (((0 :Nat):Int)≤f) && decide (f≤(((p.length :Nat):Int) - 1)))) rfl rfl zN (lw_tvn 1 rfl ?_)
  cases hb5:(!(decide (((0 :Nat):Int)≤f) && decide (f≤(((p.length :Nat):Int) - 1))))
  ·
   exact c_cond_f (by first | rfl | (show Value.bool _ = _; rw [hb5])) (wp_skip (wp_seq (wp_plain _ [0] rfl (lw_tvn 1 rfl (wp_ret (post_ret [4] rfl (.int .i64 ((0 :Nat):Int)) rfl ⟨z84_0,hE2⟩))))))
  ·
   exact c_cond_t (by first | rfl | (show Value.bool _ = _; rw [hb5])) (wp_seq (wp_plain _ [0] rfl (lw_tvn 1 rfl (wp_ret (b_ret (t_ret (post_ret [4] rfl (.int .i64 ((2 :Nat):Int)) rfl ⟨z84_0,hE2⟩)))))))
 ·
  exact c_cond_t (by first | rfl | (show Value.bool _ = _; rw [hb3])) (wp_seq (wp_plain _ [0] rfl (lw_tvn 1 rfl (wp_ret (b_ret (t_ret (post_ret [4] rfl (.int .i64 ((1 :Nat):Int)) rfl ⟨z84_0,hE2⟩)))))))
theorem shF_n {p:List Fn} {f:Int} {pr:Int→Int→Bool} (h:isF p f≠0):isF p f = shF p f pr:=by unfold shF; rw [if_neg h]
theorem shF_2 {p:List Fn} {f:Int} {pr:Int→Int→Bool} (h:isF p f = 0) (h2:pr (p.getD f.toNat Fn.zero).params (((p.getD f.toNat Fn.zero).outs.length:Nat):Int) = false):2 = shF p f pr:=by unfold shF; rw [if_pos h,h2]; rfl
theorem shF_3 {p:List Fn} {f:Int} {pr:Int→Int→Bool} (h:isF p f = 0) (h2:pr (p.getD f.toNat Fn.zero).params (((p.getD f.toNat Fn.zero).outs.length:Nat):Int) = true):isF p f = shF p f pr:=by unfold shF; rw [if_pos h,h2,h]; rfl
theorem z177_0 {p:Prop} (h:p:=by first | exact ret_int (shF_n oM) | exact ret_int (shF_2 oM (by assumption)) | exact ret_int (shF_3 oM (by assumption))):p:=h
theorem c_impl_isShaped (w:World) (dp:Nat) (vp:Value) (p:List Fn) (f:Int) (q:Nat) (qf qc:List Value) (pr:Int→Int→Bool) (hp:RP [] dp w.heap vp p) (_hf:-9223372036854775808≤f∧f≤9223372036854775807) (hcf_q:((Tryz.prog.funcs[q]?).map fun fn=>(fn.name != "runtime.NumGoroutine") && fn.body.isSome) = some true) (hpr:∀ (a b:Int) w1,(-9223372036854775808≤a∧a≤9223372036854775807)→(-9223372036854775808≤b∧b≤9223372036854775807)→Calls Tryz.prog q (qf++[Value.int .i64 a,Value.int .i64 b]++qc).toArray w1 (fun e w2=>e = .returned (.bool (pr a b))∧w2 = w1)) (hz:SzP p) :
  Calls Tryz.prog 177 #[(.agg #[vp]),.int .i64 f,.func (.func q) qf.toArray qc.toArray] w (fun e w'=>e = .returned (.int .i64 (shF p f pr))∧Ext w w'):=by
 refine calls_mk [(.agg #[vp]),.int .i64 f,.func (.func q) qf.toArray qc.toArray] 32 Tryz.func177 rfl rfl sM ?_
 have hE0:Ext w w:=Ext.refl w
 have hl_vp:=hp.lenle
 unfold maxLen at hl_vp
 refine wp_seq (wp_plain _ [3,0] rfl (r_boxA (cs:=#[vp]) rfl zN fun w1 hX1 hz1 hB1=>?_))
 have hzs1:=hX1.size
 have hE1:=hE0.trans hX1
 replace hB1:BX w1.heap w.heap.size [vp]:=hB1
 refine lw_tvn 1 rfl (wp_seq (wp_plain _ [2,0,3,0] rfl (q_loadA (p:=(.pointer (some ⟨w.heap.size,0,none⟩))) (.inr rfl) [vp] agg26 rfl (fun wq9 hw9=>LD.of_box (BX.ext (w:=w1) hB1 hw9)) rfl zN (lw_tv 1 rfl (lw_call 84 [] [] [(.agg #[vp]),(.int .i64 f)] rfl rfl cf84 zN (c_impl_isFunc _ dp vp (p) _ (hp.ext (good_rdS (good_rFn dp)) hE1) _hf (by exact hz)) ?_)))))
 rintro e2 w2 ⟨rfl,hX2⟩
 refine ⟨_,rfl,hX2,?_⟩
 have hzs2:=hX2.size
 have hE2:=hE1.trans hX2
 have hB1x2:=hB1.ext hX2
 refine lw_tvn 1 rfl (wp_seq (wp_seq (wp_draw _ [0,0,0,0,0,1,0,0,0,1,0,1,0,0,0,1,0,3,0,0] mixed (by kernel_rfl) (lw_tv 1 rfl ?_))))
 by_cases hc3:isF p f = ((0 :Nat):Int)
 ·
  refine q_eql true rfl rfl (decide_eq_true hc3) zN (lw_tv 2 rfl ?_)
  have hi0:=isF_0 (p:=p) (f:=f) oM
  refine q_fldP (p:=(.pointer (some ⟨w.heap.size,0,none⟩))) (b:=w.heap.size) (o:=0) 0 fd26_0 rfl rfl (zS (e:=13) rfl rfl rfl) (q_load (p:=(padd (.pointer (some ⟨w.heap.size,0,none⟩)) 0)) (.inl rfl) vp one24 rfl (hB1x2.ldp (i:=0) sM) (zS (e:=13) rfl rfl rfl) (lw_tv 1 rfl (q_idx (v:=vp) ((f).toNat) u24 tiS55 rfl rfl hp.isSl oM sD (zS (e:=13) rfl rfl rfl) ?_)))
  obtain ⟨cs4,hr4,hl4⟩:=hp.get (good_rFn dp) Fn.zero (k:=((f).toNat)) sD
  obtain ⟨ve4,rfl,hx4⟩:=RF.of hr4
  have hln4:=hx4.rn.lenle
  unfold maxLen at hln4
  refine q_fldL (p:=eptr vp ((f).toNat) 3) 1 fd55_1 rfl (hl4 _ (Chg.of_ext [] hE2.drew)) (zS (e:=13) rfl rfl rfl) (q_load (p:=(padd (eptr vp ((f).toNat) 3) 1)) (.inl rfl) (.int .i64 ((p.getD ((f).toNat) Fn.zero).params)) one2 rfl ((hl4 _ (Chg.of_ext [] hE2.drew)).ld (i:=1) (by simp [exC,fnC])) (zS (e:=13) rfl rfl rfl) (q_fldP (p:=(.pointer (some ⟨w.heap.size,0,none⟩))) (b:=w.heap.size) (o:=0) 0 fd26_0 rfl rfl (zS (e:=13) rfl rfl rfl) (q_load (p:=(padd (.pointer (some ⟨w.heap.size,0,none⟩)) 0)) (.inl rfl) vp one24 rfl (hB1x2.ldp (i:=0) sM) (zS (e:=13) rfl rfl rfl) (lw_tv 1 rfl ?_))))
  refine q_idx (v:=vp) ((f).toNat) u24 tiS55 rfl rfl hp.isSl oM sD (zS (e:=13) rfl rfl rfl) (q_fldL (p:=eptr vp ((f).toNat) 3) 2 fd55_2 rfl (hl4 _ (Chg.of_ext [] hE2.drew)) (zS (e:=13) rfl rfl rfl) (q_load (p:=(padd (eptr vp ((f).toNat) 3) 2)) (.inl rfl) ve4 one53 rfl ((hl4 _ (Chg.of_ext [] hE2.drew)).ld (i:=2) (by simp [exC,fnC])) (zS (e:=13) rfl rfl rfl) (q_len (v:=ve4) u53 rfl hx4.rn.isSl (zS (e:=13) rfl rfl rfl) ?_)))
  refine lw_call q qf qc _ rfl rfl hcf_q (zS (e:=13) rfl rfl rfl) (hpr ((p.getD ((f).toNat) Fn.zero).params) ((((p.getD ((f).toNat) Fn.zero).outs).length :Nat):Int) _ hx4.rng oM) ?_
  rintro e5 w5 ⟨rfl,hw5⟩
  have hX5:Ext w2.drew w5:=by rw [hw5]; exact Ext.refl _
  refine ⟨_,rfl,hX5,?_⟩
  replace hX5:=hX5.of_drew
  have hzs5:=hX5.size
  have hE5:=hE2.trans hX5
  have hB1x5:=hB1x2.ext hX5
  cases hc5:pr ((p.getD ((f).toNat) Fn.zero).params) ((((p.getD ((f).toNat) Fn.zero).outs).length :Nat):Int)
  ·
   exact q_not true rfl rfl (zS (e:=13) rfl rfl rfl) (lw_tvn 1 rfl (c_cond_t rfl (wp_plain _ [0] rfl (lw_tvn 1 rfl (wp_seq (wp_plain _ [0,0] rfl (lw_tvn 2 rfl (wp_ret (post_ret [6] rfl (.int .i64 ((2 :Nat):Int)) rfl ⟨z177_0,hE5⟩)))))))))
  ·
   exact q_not false rfl rfl (zS (e:=13) rfl rfl rfl) (lw_tvn 1 rfl (c_cond_f rfl (wp_skip (wp_seq (wp_plain _ [0,0] rfl (lw_tvn 2 rfl (wp_ret (post_ret [6] rfl (.int .i64 (isF p f)) rfl ⟨z177_0,hE5⟩))))))))
 ·
  exact q_eql false rfl rfl (decide_eq_false hc3) zN (lw_tvn 18 rfl (c_cond_f rfl (wp_skip (wp_seq (wp_plain _ [0,0] rfl (lw_tvn 2 rfl (wp_ret (post_ret [6] rfl (.int .i64 (isF p f)) rfl ⟨z177_0,hE2.drew⟩))))))))
theorem c_impl_orderOf (w:World) (va:Value) (a:List (List Int)) (ha:RN [] (rdL (rdL rI)) w.heap va a) (hqa:CapS va) (h1:0 < a.length→0 < (a.getD 0 []).length) :
  Calls Tryz.prog 87 #[va] w (fun e w'=>e = .returned (.int .i64 ((oOf a :Nat):Int))∧Ext w w'):=by
 refine calls_mk [va] 11 Tryz.func87 rfl rfl sM ?_
 have hE0:Ext w w:=Ext.refl w
 have hl_va:=ha.lenL
 unfold maxLen at hl_va
 refine wp_seq (wp_plain _ [0] rfl (lw_tvn 1 rfl (wp_seq (wp_seq (wp_plain _ [0,0,0] rfl (lw_tv 1 rfl (q_len (v:=va) u32 rfl ha.slL zN ?_)))))))
 by_cases hc1:((a.length :Nat):Int) = ((0 :Nat):Int)
 ·
  exact q_eql true rfl rfl (decide_eq_true hc1) zN (lw_nil (c_cond_t rfl (wp_seq (wp_plain _ [0] rfl (lw_tvn 1 rfl (wp_ret (t_ret (post_ret [2] rfl (.int .i64 ((0 :Nat):Int)) rfl ⟨(ret_int (by unfold oOf; have:a = []:=List.eq_nil_of_length_eq_zero oM; subst this; rfl)),hE0⟩))))))))
 ·
  refine q_eql false rfl rfl (decide_eq_false hc1) zN (lw_nil (c_cond_f rfl (wp_skip (wp_seq (wp_plain _ [0,0,2,0,0,0] rfl (lw_tv 1 rfl (q_idx (v:=va) 0 u32 ti27 rfl rfl ha.slL rfl sD zN ?_)))))))
  obtain ⟨ue2,hl2,hr2⟩:=RN.getL (w:=w) g1 [] (k:=0) ha sD
  have hln2:=hr2.lenL
  unfold maxLen at hln2
  exact q_load (p:=eptr va 0 1) (.inr rfl) ue2 one27 rfl (hl2 _ (Chg.of_ext [] hE0)) zN (q_len (v:=ue2) u27 rfl hr2.slL zN (q_sub (((a.getD 0 []).length - 1 :Nat):Int) rfl rfl (by rw [w64 oM oM]; omega) zN (lw_tvn 1 rfl (wp_ret (post_ret [2] rfl (.int .i64 (((a.getD 0 []).length - 1 :Nat):Int)) rfl ⟨(ret_int rfl),hE0⟩)))))
end Go.Proofs.YtnokbaiemimhjaaGreat
namespace Go.Proofs.YtnokbaiemimhjaaGreat
open Go Go.RowKit
set_option linter.unusedVariables false
set_option linter.unusedSimpArgs false
set_option maxHeartbeats 4000000
set_option maxRecDepth 100000
attribute [local irreducible] LW
def ZS (D:Nat):Prop:=∀ (w:World) (d:Nat) (va:Value) (a:List Ex) (left:Int) (ha:RN [] (rdS 5 (rEx d)) w.heap va a) (_hleft:-9223372036854775808≤left∧left≤9223372036854775807) (hL:0≤left∧left≤1048576) (hd:d≤D),Calls Tryz.prog 211 #[va,.int .i64 left] w (fun e w'=>e = .returned (.int .i64 (szV (Ex.sizes a) left))∧Ext w w')
theorem c_laws_szExpr (w:World) (dex:Nat) (ve:Value) (ex:Ex) (left:Int) (hex:RX [] dex w.heap ve ex) (_hleft:-9223372036854775808≤left∧left≤9223372036854775807) (hL:0≤left∧left≤1048576) (IH:ZS dex) :
  Calls Tryz.prog 241 #[(.agg #[(.int .i64 ex.kind),(.int .i64 ex.num),(.int .i64 ex.pick),(.int .i64 ex.count),ve]),.int .i64 left] w (fun e w'=>e = .returned (.int .i64 (szV (Ex.sizes ex.kids) left))∧Ext w w'):=by
 refine calls_mk [(.agg #[(.int .i64 ex.kind),(.int .i64 ex.num),(.int .i64 ex.pick),(.int .i64 ex.count),ve]),.int .i64 left] 12 Tryz.func241 rfl rfl sM ?_
 have hE0:Ext w w:=Ext.refl w
 have hl_ve:=hex.rn.lenle
 unfold maxLen at hl_ve
 refine wp_seq (wp_plain _ [3,0] rfl (r_boxA (cs:=#[(.int .i64 ex.kind),(.int .i64 ex.num),(.int .i64 ex.pick),(.int .i64 ex.count),ve]) rfl zN fun w1 hX1 hz1 hB1=>?_))
 have hzs1:=hX1.size
 have hE1:=hE0.trans hX1
 replace hB1:BX w1.heap w.heap.size [(.int .i64 ex.kind),(.int .i64 ex.num),(.int .i64 ex.pick),(.int .i64 ex.count),ve]:=hB1
 refine lw_tvn 1 rfl (wp_seq (wp_plain _ [0,2,0,3,0] rfl (q_fldP (p:=(.pointer (some ⟨w.heap.size,0,none⟩))) (b:=w.heap.size) (o:=0) 4 fd248_4 rfl rfl zN (q_load (p:=(padd (.pointer (some ⟨w.heap.size,0,none⟩)) 4)) (.inr rfl) ve one183 rfl (hB1.ldp (i:=4) sM) zN (lw_tv 1 rfl (lw_call 211 [] [] [ve,(.int .i64 left)] rfl rfl cf211 zN (IH _ dex ve (ex.kids) _ (hex.rn.ext (good_rdS (good_rEx dex)) hE1) _hleft oM oM) ?_))))))
 rintro e2 w2 ⟨rfl,hX2⟩
 refine ⟨_,rfl,hX2,?_⟩
 have hzs2:=hX2.size
 have hE2:=hE1.trans hX2
 have hB1x2:=hB1.ext hX2
 refine lw_tvn 1 rfl (wp_seq (wp_seq (wp_plain _ [0,0] rfl (lw_tv 1 rfl ?_))))
 by_cases hc3:szV (Ex.sizes ex.kids) left < ((0 :Nat):Int)
 ·
  exact q_lss true rfl rfl (decide_eq_true hc3) zN (lw_nil (c_cond_t rfl (wp_seq (wp_plain _ [0] rfl (lw_tvn 1 rfl (wp_ret (t_ret (post_ret [4] rfl (.int .i64 (-1)) rfl ⟨(by have hn:=szV_neg (t:=Ex.sizes ex.kids) (x:=left) oM oM; exact ret_int (szV_1 oM)),hE2⟩))))))))
 ·
  exact q_lss false rfl rfl (decide_eq_false hc3) zN (lw_nil (c_cond_f rfl (wp_skip (wp_seq (wp_plain _ [0,0] rfl (lw_tvn 2 rfl (wp_ret (post_ret [4] rfl (.int .i64 (szV (Ex.sizes ex.kids) left)) rfl ⟨(ret_int rfl),hE2⟩))))))))
theorem c_laws_szExprS (w:World) (da:Nat) (va:Value) (a:List Ex) (left:Int) (ha:RN [] (rdS 5 (rEx da)) w.heap va a) (_hleft:-9223372036854775808≤left∧left≤9223372036854775807) (hL:0≤left∧left≤1048576) :
  Calls Tryz.prog 211 #[va,.int .i64 left] w (fun e w'=>e = .returned (.int .i64 (szV (Ex.sizes a) left))∧Ext w w'):=by
 induction da using Nat.strongRecOn generalizing w va a left
 rename_i da ih
 refine calls_mk [va,.int .i64 left] 27 Tryz.func211 rfl rfl sM ?_
 have hE0:Ext w w:=Ext.refl w
 have hl_va:=ha.lenle
 unfold maxLen at hl_va
 have hge0:=sizes_ge a 0
 refine wp_seq (wp_plain _ [0] rfl (lw_tvn 1 rfl (wp_seq (wp_plain _ [0,0,0,0,0] rfl (lw_tv 2 rfl (q_len (v:=va) u183 rfl ha.isSl zN (q_sub (left - ((a.length :Nat):Int)) rfl rfl (w64 oM oM) zN (lw_tvn 1 rfl (wp_seq (wp_seq (wp_plain _ [0,0] rfl (lw_tv 1 rfl ?_))))))))))))
 by_cases hc1:left - ((a.length :Nat):Int) < ((0 :Nat):Int)
 ·
  exact q_lss true rfl rfl (decide_eq_true hc1) zN (lw_nil (c_cond_t rfl (wp_seq (wp_plain _ [0] rfl (lw_tvn 1 rfl (wp_ret (t_ret (post_ret [4] rfl (.int .i64 (-1)) rfl ⟨(by exact ret_int (szV_1 oM)),hE0⟩))))))))
 ·
  refine q_lss false rfl rfl (decide_eq_false hc1) zN (lw_nil (c_cond_f rfl (wp_skip (wp_seq (wp_seq (wp_plain _ [0] rfl (lw_tvn 1 rfl (wp_block ?_))))))))
  refine c_loop (S:=Nat × Int) (fun (⟨k,x⟩:Nat × Int)=>([(1,(.int .i64 x)),(5,(.int .i64 ((k :Nat):Int))),(0,va)]:List (Nat × Value))) (fun (⟨k,x⟩:Nat × Int) (W:World)=>Ext w W∧k≤a.length∧x = left - ((a.length :Nat):Int) - ((Ex.sizes (a.take k) :Nat):Int) + ((k :Nat):Int)∧(0≤x∧x≤1048576)) (fun (⟨k,x⟩:Nat × Int)=>a.length - k) (0,(left - ((a.length :Nat):Int))) ⟨rfl,rfl,rfl,trivial⟩ ⟨hE0,sD,(by rw [List.take_zero,sizes_nil]; omega),oM⟩ ?_
  clear hE0
  rintro ⟨k,x⟩ ρ2 w2 ⟨hE2,hp2_0,hx,hp2_2⟩
  have hzs2:w.heap.size≤w2.heap.size:=hE2.size
  refine wp_seq (wp_seq (wp_plain _ [0,0,0,0] rfl (lw_tv 2 rfl (q_len (v:=va) u183 rfl ha.isSl zN ?_))))
  by_cases hc3:((k :Nat):Int) < ((a.length :Nat):Int)
  ·
   refine q_lss true rfl rfl (decide_eq_true hc3) zN (lw_nil (c_cond_t rfl (wp_skip (wp_seq (wp_block (wp_seq (wp_plain _ [0,0,0,2,0,3,0] rfl ?_)))))))
   have hst:=sizes_step (l:=a) (k:=k) oM
   have hge:=sizes_ge a (k + 1)
   have hsk:=size_kids (a.getD k Ex.zero)
   refine lw_tv 2 rfl (q_idx (v:=va) k u183 tiS248 rfl rfl ha.isSl rfl sD zN ?_)
   obtain ⟨cs4,hr4,hl4⟩:=ha.get (good_rEx da) Ex.zero (k:=k) sD
   obtain ⟨dd4,ve4,hd4,rfl,hx4⟩:=RX.of hr4
   have hln4:=hx4.rn.lenle
   unfold maxLen at hln4
   refine q_loadA (p:=eptr va k 5) (.inr rfl) [(.int .i64 ((a.getD k Ex.zero).kind)),(.int .i64 ((a.getD k Ex.zero).num)),(.int .i64 ((a.getD k Ex.zero).pick)),(.int .i64 ((a.getD k Ex.zero).count)),ve4] agg248 rfl (fun wq9 hw9=>hl4 wq9 (Chg.of_ext [] (hE2.trans hw9))) rfl zN (lw_tv 1 rfl (lw_call 241 [] [] [(.agg #[(.int .i64 ((a.getD k Ex.zero).kind)),(.int .i64 ((a.getD k Ex.zero).num)),(.int .i64 ((a.getD k Ex.zero).pick)),(.int .i64 ((a.getD k Ex.zero).count)),ve4]),(.int .i64 x)] rfl rfl cf241 zN (c_laws_szExpr _ dd4 ve4 (a.getD k Ex.zero) _ (hx4.ext hE2) oM oM (by intro w9 d9 v9 a9 l9 h1 h2 h3 h4; exact ih d9 oM w9 v9 a9 l9 h1 h2 h3)) ?_))
   rintro e5 w5 ⟨rfl,hX5⟩
   refine ⟨_,rfl,hX5,?_⟩
   have hzs5:=hX5.size
   have hE5:=hE2.trans hX5
   refine lw_tvn 1 rfl (wp_seq (wp_plain _ [0,0] rfl ?_))
   have hzr:=szV_rng (Ex.sizes (a.getD k Ex.zero).kids) (x:=x) oM
   refine lw_tv 1 rfl ?_
   by_cases hc6:szV (Ex.sizes (a.getD k Ex.zero).kids) x < ((0 :Nat):Int)
   ·
    exact q_lss true rfl rfl (decide_eq_true hc6) zN (lw_nil (c_cond_t rfl (wp_seq (wp_plain _ [0] rfl (lw_tvn 1 rfl (wp_ret (b_ret (t_ret (t_ret (b_ret (t_ret (post_ret [4] rfl (.int .i64 (-1)) rfl ⟨(by have hn:=szV_neg (t:=Ex.sizes (a.getD k Ex.zero).kids) (x:=x) oM oM; exact ret_int (szV_1 oM)),hE5⟩))))))))))))
   ·
    refine q_lss false rfl rfl (decide_eq_false hc6) zN (lw_nil (c_cond_f rfl (wp_skip (wp_plain _ [0,0,0] rfl ?_))))
    have hzp:=szV_pos (t:=Ex.sizes (a.getD k Ex.zero).kids) (x:=x) oM
    refine lw_tv 1 rfl (q_add ((k + 1 :Nat):Int) rfl rfl (w64n oM sD) zN (lw_tvn 1 rfl ?_))
    exact ⟨((k + 1),(szV (Ex.sizes (a.getD k Ex.zero).kids) x)),_,rfl,⟨rfl,rfl,rfl,trivial⟩,⟨hE5,sD,oM,oM⟩,by first | omega | (dsimp only; omega)⟩
  ·
   exact q_lss false rfl rfl (decide_eq_false hc3) zN (lw_nil (c_cond_f rfl (wp_exit (t_exit (t_exit (c_exit_here (wp_seq (wp_plain _ [0,0] rfl (lw_tvn 2 rfl (wp_ret (post_ret [4] rfl (.int .i64 x) rfl ⟨(by have hsa:=sizes_all (l:=a) (k:=k) oM; exact ret_int (szV_0 oM oM)),hE2⟩)))))))))))
theorem c_laws_szFunc (w:World) (dg:Nat) (vf:Value) (g:Fn) (left:Int) (hg:RF [] dg w.heap vf g) (_hleft:-9223372036854775808≤left∧left≤9223372036854775807) (hL:0≤left∧left≤1048576) (hnm:g.name.size≤9223372036854775807) :
  Calls Tryz.prog 163 #[(.agg #[(.string g.name),(.int .i64 g.params),vf]),.int .i64 left] w (fun e w'=>e = .returned (.int .i64 (szV g.sz left))∧Ext w w'):=by
 refine calls_mk [(.agg #[(.string g.name),(.int .i64 g.params),vf]),.int .i64 left] 19 Tryz.func163 rfl rfl sM ?_
 have hE0:Ext w w:=Ext.refl w
 have hl_vf:=hg.rn.lenle
 unfold maxLen at hl_vf
 have hgs:g.sz = g.name.size + Ex.sizes g.outs:=rfl
 refine wp_seq (wp_plain _ [3,0] rfl (r_boxA (cs:=#[(.string g.name),(.int .i64 g.params),vf]) rfl zN fun w1 hX1 hz1 hB1=>?_))
 have hzs1:=hX1.size
 have hE1:=hE0.trans hX1
 replace hB1:BX w1.heap w.heap.size [(.string g.name),(.int .i64 g.params),vf]:=hB1
 refine lw_tvn 1 rfl (wp_seq (wp_plain _ [0,0,2,0,0,0] rfl (lw_tv 1 rfl (q_fldP (p:=(.pointer (some ⟨w.heap.size,0,none⟩))) (b:=w.heap.size) (o:=0) 0 fd185_0 rfl rfl zN (q_load (p:=(padd (.pointer (some ⟨w.heap.size,0,none⟩)) 0)) (.inr rfl) (.string g.name) one9 rfl (hB1.ldp (i:=0) sM) zN (q_lens (s:=g.name) u9 rfl zN (q_sub (left - ((g.name.size :Nat):Int)) rfl rfl (w64 oM oM) zN (lw_tvn 1 rfl (wp_seq (wp_seq (wp_plain _ [0,0] rfl (lw_tv 1 rfl ?_))))))))))))
 by_cases hc2:left - ((g.name.size :Nat):Int) < ((0 :Nat):Int)
 ·
  exact q_lss true rfl rfl (decide_eq_true hc2) zN (lw_nil (c_cond_t rfl (wp_seq (wp_plain _ [0] rfl (lw_tvn 1 rfl (wp_ret (t_ret (post_ret [4] rfl (.int .i64 (-1)) rfl ⟨(by exact ret_int (szV_1 oM)),hE1⟩))))))))
 ·
  refine q_lss false rfl rfl (decide_eq_false hc2) zN (lw_nil (c_cond_f rfl (wp_skip (wp_seq (wp_plain _ [0,2,0,3,0] rfl (q_fldP (p:=(.pointer (some ⟨w.heap.size,0,none⟩))) (b:=w.heap.size) (o:=0) 2 fd185_2 rfl rfl zN (q_load (p:=(padd (.pointer (some ⟨w.heap.size,0,none⟩)) 2)) (.inr rfl) vf one183 rfl (hB1.ldp (i:=2) sM) zN (lw_tv 1 rfl (lw_call 211 [] [] [vf,(.int .i64 (left - ((g.name.size :Nat):Int)))] rfl rfl cf211 zN (c_laws_szExprS _ dg vf (g.outs) _ (hg.rn.ext (good_rdS (good_rEx dg)) hE1) oM oM) ?_)))))))))
  rintro e3 w3 ⟨rfl,hX3⟩
  refine ⟨_,rfl,hX3,?_⟩
  have hzs3:=hX3.size
  have hE3:=hE1.trans hX3
  have hB1x3:=hB1.ext hX3
  refine lw_tvn 1 rfl (wp_seq (wp_seq (wp_plain _ [0,0] rfl ?_)))
  have hzr:=szV_rng (Ex.sizes g.outs) (x:=left - ((g.name.size :Nat):Int)) oM
  refine lw_tv 1 rfl ?_
  by_cases hc4:szV (Ex.sizes g.outs) (left - ((g.name.size :Nat):Int)) < ((0 :Nat):Int)
  ·
   exact q_lss true rfl rfl (decide_eq_true hc4) zN (lw_nil (c_cond_t rfl (wp_seq (wp_plain _ [0] rfl (lw_tvn 1 rfl (wp_ret (t_ret (post_ret [4] rfl (.int .i64 (-1)) rfl ⟨(by have hn:=szV_neg (t:=Ex.sizes g.outs) (x:=left - ((g.name.size :Nat):Int)) oM oM; exact ret_int (szV_1 oM)),hE3⟩))))))))
  ·
   refine q_lss false rfl rfl (decide_eq_false hc4) zN (lw_nil (c_cond_f rfl (wp_skip (wp_seq (wp_plain _ [0,0] rfl ?_)))))
   have hzp:=szV_pos (t:=Ex.sizes g.outs) (x:=left - ((g.name.size :Nat):Int)) oM
   exact lw_tvn 2 rfl (wp_ret (post_ret [4] rfl (.int .i64 (szV (Ex.sizes g.outs) (left - ((g.name.size :Nat):Int)))) rfl ⟨(by exact ret_int (szV_0 oM oM)),hE3⟩))
theorem c_laws_szFuncS (w:World) (da:Nat) (va:Value) (a:List Fn) (left:Int) (ha:RP [] da w.heap va a) (_hleft:-9223372036854775808≤left∧left≤9223372036854775807) (hL:0≤left∧left≤1048576) (hnm:∀ k,k < a.length→(a.getD k Fn.zero).name.size≤9223372036854775807) :
  Calls Tryz.prog 107 #[va,.int .i64 left] w (fun e w'=>e = .returned (.int .i64 (szV (szP a) left))∧Ext w w'):=by
 refine calls_mk [va,.int .i64 left] 27 Tryz.func107 rfl rfl sM ?_
 have hE0:Ext w w:=Ext.refl w
 have hl_va:=ha.lenle
 unfold maxLen at hl_va
 have hgs:szP a = a.length + Fn.szs a:=rfl
 refine wp_seq (wp_plain _ [0] rfl (lw_tvn 1 rfl (wp_seq (wp_plain _ [0,0,0,0,0] rfl (lw_tv 2 rfl (q_len (v:=va) u66 rfl ha.isSl zN (q_sub (left - ((a.length :Nat):Int)) rfl rfl (w64 oM oM) zN (lw_tvn 1 rfl (wp_seq (wp_seq (wp_plain _ [0,0] rfl (lw_tv 1 rfl ?_))))))))))))
 by_cases hc1:left - ((a.length :Nat):Int) < ((0 :Nat):Int)
 ·
  exact q_lss true rfl rfl (decide_eq_true hc1) zN (lw_nil (c_cond_t rfl (wp_seq (wp_plain _ [0] rfl (lw_tvn 1 rfl (wp_ret (t_ret (post_ret [4] rfl (.int .i64 (-1)) rfl ⟨(by exact ret_int (szV_1 oM)),hE0⟩))))))))
 ·
  refine q_lss false rfl rfl (decide_eq_false hc1) zN (lw_nil (c_cond_f rfl (wp_skip (wp_seq (wp_seq (wp_plain _ [0] rfl (lw_tvn 1 rfl (wp_block ?_))))))))
  refine c_loop (S:=Nat × Int) (fun (⟨k,x⟩:Nat × Int)=>([(1,(.int .i64 x)),(5,(.int .i64 ((k :Nat):Int))),(0,va)]:List (Nat × Value))) (fun (⟨k,x⟩:Nat × Int) (W:World)=>Ext w W∧k≤a.length∧x = left - ((a.length :Nat):Int) - ((Fn.szs (a.take k) :Nat):Int)∧(0≤x∧x≤1048576)) (fun (⟨k,x⟩:Nat × Int)=>a.length - k) (0,(left - ((a.length :Nat):Int))) ⟨rfl,rfl,rfl,trivial⟩ ⟨hE0,sD,(by rw [List.take_zero,szs_nil]; omega),oM⟩ ?_
  clear hE0
  rintro ⟨k,x⟩ ρ2 w2 ⟨hE2,hp2_0,hx,hp2_2⟩
  have hzs2:w.heap.size≤w2.heap.size:=hE2.size
  refine wp_seq (wp_seq (wp_plain _ [0,0,0,0] rfl (lw_tv 2 rfl (q_len (v:=va) u66 rfl ha.isSl zN ?_))))
  by_cases hc3:((k :Nat):Int) < ((a.length :Nat):Int)
  ·
   refine q_lss true rfl rfl (decide_eq_true hc3) zN (lw_nil (c_cond_t rfl (wp_skip (wp_seq (wp_block (wp_seq (wp_plain _ [0,0,0,2,0,3,0] rfl ?_)))))))
   have hst:=szs_step (l:=a) (k:=k) oM
   have hge:=szs_take a (k + 1)
   refine lw_tv 2 rfl (q_idx (v:=va) k u66 tiS185 rfl rfl ha.isSl rfl sD zN ?_)
   obtain ⟨cs4,hr4,hl4⟩:=ha.get (good_rFn da) Fn.zero (k:=k) sD
   obtain ⟨ve4,rfl,hx4⟩:=RF.of hr4
   have hln4:=hx4.rn.lenle
   unfold maxLen at hln4
   refine q_loadA (p:=eptr va k 3) (.inr rfl) [(.string ((a.getD k Fn.zero).name)),(.int .i64 ((a.getD k Fn.zero).params)),ve4] agg185 rfl (fun wq9 hw9=>hl4 wq9 (Chg.of_ext [] (hE2.trans hw9))) rfl zN (lw_tv 1 rfl (lw_call 163 [] [] [(.agg #[(.string ((a.getD k Fn.zero).name)),(.int .i64 ((a.getD k Fn.zero).params)),ve4]),(.int .i64 x)] rfl rfl cf163 zN (c_laws_szFunc _ da ve4 (a.getD k Fn.zero) _ ⟨hx4.rng,(hx4.rn.ext (good_rdS (good_rEx da)) hE2)⟩ oM oM (by exact hnm k oM)) ?_))
   rintro e5 w5 ⟨rfl,hX5⟩
   refine ⟨_,rfl,hX5,?_⟩
   have hzs5:=hX5.size
   have hE5:=hE2.trans hX5
   refine lw_tvn 1 rfl (wp_seq (wp_plain _ [0,0] rfl ?_))
   have hzr:=szV_rng (a.getD k Fn.zero).sz (x:=x) oM
   refine lw_tv 1 rfl ?_
   by_cases hc6:szV (a.getD k Fn.zero).sz x < ((0 :Nat):Int)
   ·
    exact q_lss true rfl rfl (decide_eq_true hc6) zN (lw_nil (c_cond_t rfl (wp_seq (wp_plain _ [0] rfl (lw_tvn 1 rfl (wp_ret (b_ret (t_ret (t_ret (b_ret (t_ret (post_ret [4] rfl (.int .i64 (-1)) rfl ⟨(by have hn:=szV_neg (t:=(a.getD k Fn.zero).sz) (x:=x) oM oM; exact ret_int (szV_1 oM)),hE5⟩))))))))))))
   ·
    refine q_lss false rfl rfl (decide_eq_false hc6) zN (lw_nil (c_cond_f rfl (wp_skip (wp_plain _ [0,0,0] rfl ?_))))
    have hzp:=szV_pos (t:=(a.getD k Fn.zero).sz) (x:=x) oM
    refine lw_tv 1 rfl (q_add ((k + 1 :Nat):Int) rfl rfl (w64n oM sD) zN (lw_tvn 1 rfl ?_))
    exact ⟨((k + 1),(szV (a.getD k Fn.zero).sz x)),_,rfl,⟨rfl,rfl,rfl,trivial⟩,⟨hE5,sD,oM,oM⟩,by first | omega | (dsimp only; omega)⟩
  ·
   exact q_lss false rfl rfl (decide_eq_false hc3) zN (lw_nil (c_cond_f rfl (wp_exit (t_exit (t_exit (c_exit_here (wp_seq (wp_plain _ [0,0] rfl (lw_tvn 2 rfl (wp_ret (post_ret [4] rfl (.int .i64 x) rfl ⟨(by rw [List.take_of_length_le (show a.length≤k by omega)] at hx; exact ret_int (szV_0 oM oM)),hE2⟩)))))))))))
theorem c_laws_szProgram (w:World) (dp:Nat) (vp:Value) (p:List Fn) (left:Int) (hp:RP [] dp w.heap vp p) (_hleft:-9223372036854775808≤left∧left≤9223372036854775807) (hL:0≤left∧left≤1048576) (hnm:∀ k,k < p.length→(p.getD k Fn.zero).name.size≤9223372036854775807) :
  Calls Tryz.prog 40 #[(.agg #[vp]),.int .i64 left] w (fun e w'=>e = .returned (.int .i64 (szV (szP p) left))∧Ext w w'):=by
 refine calls_mk [(.agg #[vp]),.int .i64 left] 12 Tryz.func40 rfl rfl sM ?_
 have hE0:Ext w w:=Ext.refl w
 have hl_vp:=hp.lenle
 unfold maxLen at hl_vp
 refine wp_seq (wp_plain _ [3,0] rfl (r_boxA (cs:=#[vp]) rfl zN fun w1 hX1 hz1 hB1=>?_))
 have hzs1:=hX1.size
 have hE1:=hE0.trans hX1
 replace hB1:BX w1.heap w.heap.size [vp]:=hB1
 refine lw_tvn 1 rfl (wp_seq (wp_plain _ [0,2,0,3,0] rfl (q_fldP (p:=(.pointer (some ⟨w.heap.size,0,none⟩))) (b:=w.heap.size) (o:=0) 0 fd68_0 rfl rfl zN (q_load (p:=(padd (.pointer (some ⟨w.heap.size,0,none⟩)) 0)) (.inr rfl) vp one66 rfl (hB1.ldp (i:=0) sM) zN (lw_tv 1 rfl (lw_call 107 [] [] [vp,(.int .i64 left)] rfl rfl cf107 zN (c_laws_szFuncS _ dp vp (p) _ (hp.ext (good_rdS (good_rFn dp)) hE1) _hleft oM (by exact hnm)) ?_))))))
 rintro e2 w2 ⟨rfl,hX2⟩
 refine ⟨_,rfl,hX2,?_⟩
 have hzs2:=hX2.size
 have hE2:=hE1.trans hX2
 have hB1x2:=hB1.ext hX2
 refine lw_tvn 1 rfl (wp_seq (wp_seq (wp_plain _ [0,0] rfl (lw_tv 1 rfl ?_))))
 by_cases hc3:szV (szP p) left < ((0 :Nat):Int)
 ·
  exact q_lss true rfl rfl (decide_eq_true hc3) zN (lw_nil (c_cond_t rfl (wp_seq (wp_plain _ [0] rfl (lw_tvn 1 rfl (wp_ret (t_ret (post_ret [4] rfl (.int .i64 (-1)) rfl ⟨(by have hn:=szV_neg (t:=szP p) (x:=left) oM oM; exact ret_int (szV_1 oM)),hE2⟩))))))))
 ·
  exact q_lss false rfl rfl (decide_eq_false hc3) zN (lw_nil (c_cond_f rfl (wp_skip (wp_seq (wp_plain _ [0,0] rfl (lw_tvn 2 rfl (wp_ret (post_ret [4] rfl (.int .i64 (szV (szP p) left)) rfl ⟨(ret_int rfl),hE2⟩))))))))
def QS (D:Nat):Prop:=∀ (w:World) (d:Nat) (va:Value) (a:List Ex) (d':Nat) (vb:Value) (b:List Ex) (ha:RN [] (rdS 5 (rEx d)) w.heap va a) (hb:RN [] (rdS 5 (rEx d')) w.heap vb b) (hab:b = a) (hd:d≤D),Calls Tryz.prog 214 #[va,vb] w (fun e w'=>e = .returned (.bool true)∧Ext w w')
theorem z243_0 {p:Prop} (h:p:=by first | exact ret_bool rfl | (exfalso; omega) | (exfalso; simp_all; done)):p:=h
theorem c_laws_eqExpr (w:World) (da:Nat) (va:Value) (a:Ex) (db:Nat) (vb:Value) (b:Ex) (ha:RX [] da w.heap va a) (hb:RX [] db w.heap vb b) (hab:b = a) (IH:QS da) :
  Calls Tryz.prog 243 #[(.agg #[(.int .i64 a.kind),(.int .i64 a.num),(.int .i64 a.pick),(.int .i64 a.count),va]),(.agg #[(.int .i64 b.kind),(.int .i64 b.num),(.int .i64 b.pick),(.int .i64 b.count),vb])] w (fun e w'=>e = .returned (.bool true)∧Ext w w'):=by
 refine calls_mk [(.agg #[(.int .i64 a.kind),(.int .i64 a.num),(.int .i64 a.pick),(.int .i64 a.count),va]),(.agg #[(.int .i64 b.kind),(.int .i64 b.num),(.int .i64 b.pick),(.int .i64 b.count),vb])] 31 Tryz.func243 rfl rfl sM ?_
 have hE0:Ext w w:=Ext.refl w
 have hl_va:=ha.rn.lenle
 unfold maxLen at hl_va
 have hl_vb:=hb.rn.lenle
 unfold maxLen at hl_vb
 have hk1:b.kind = a.kind:=by rw [hab]
 have hk2:b.num = a.num:=by rw [hab]
 have hk3:b.pick = a.pick:=by rw [hab]
 have hk4:b.count = a.count:=by rw [hab]
 refine wp_seq (wp_plain _ [3,3,0] rfl (r_boxA (cs:=#[(.int .i64 a.kind),(.int .i64 a.num),(.int .i64 a.pick),(.int .i64 a.count),va]) rfl zN fun w1 hX1 hz1 hB1=>?_))
 have hzs1:=hX1.size
 have hE1:=hE0.trans hX1
 replace hB1:BX w1.heap w.heap.size [(.int .i64 a.kind),(.int .i64 a.num),(.int .i64 a.pick),(.int .i64 a.count),va]:=hB1
 have hq3:=hB1.lt
 refine r_boxA (cs:=#[(.int .i64 b.kind),(.int .i64 b.num),(.int .i64 b.pick),(.int .i64 b.count),vb]) rfl zN fun w2 hX2 hz2 hB2=>?_
 have hzs2:=hX2.size
 have hE2:=hE1.trans hX2
 have hB1x2:=hB1.ext hX2
 replace hB2:BX w2.heap w1.heap.size [(.int .i64 b.kind),(.int .i64 b.num),(.int .i64 b.pick),(.int .i64 b.count),vb]:=hB2
 refine lw_tvn 1 rfl (wp_seq (wp_seq (wp_plain _ [0,2,0,2,0] rfl (q_fldP (p:=(.pointer (some ⟨w.heap.size,0,none⟩))) (b:=w.heap.size) (o:=0) 0 fd174_0 rfl rfl zN (q_load (p:=(padd (.pointer (some ⟨w.heap.size,0,none⟩)) 0)) (.inr rfl) (.int .i64 a.kind) one2 rfl (hB1x2.ldp (i:=0) sM) zN (q_fldP (p:=(.pointer (some ⟨w1.heap.size,0,none⟩))) (b:=w1.heap.size) (o:=0) 0 fd174_0 rfl rfl zN (q_load (p:=(padd (.pointer (some ⟨w1.heap.size,0,none⟩)) 0)) (.inr rfl) (.int .i64 b.kind) one2 rfl (hB2.ldp (i:=0) sM) zN ?_)))))))
 by_cases hc4:a.kind≠b.kind
 ·
  exact q_neq true rfl rfl (decide_eq_true hc4) zN (lw_nil (c_cond_t rfl (wp_seq (wp_plain _ [0] rfl (lw_tvn 1 rfl (wp_ret (t_ret (post_ret [4] rfl (.bool false) rfl ⟨z243_0,hE2⟩))))))))
 ·
  refine q_neq false rfl rfl (decide_eq_false hc4) zN (lw_nil (c_cond_f rfl (wp_skip (wp_seq (wp_seq (wp_plain _ [0,2,0,2,0] rfl (q_fldP (p:=(.pointer (some ⟨w.heap.size,0,none⟩))) (b:=w.heap.size) (o:=0) 1 fd174_1 rfl rfl zN (q_load (p:=(padd (.pointer (some ⟨w.heap.size,0,none⟩)) 1)) (.inr rfl) (.int .i64 a.num) one2 rfl (hB1x2.ldp (i:=1) sM) zN (q_fldP (p:=(.pointer (some ⟨w1.heap.size,0,none⟩))) (b:=w1.heap.size) (o:=0) 1 fd174_1 rfl rfl zN (q_load (p:=(padd (.pointer (some ⟨w1.heap.size,0,none⟩)) 1)) (.inr rfl) (.int .i64 b.num) one2 rfl (hB2.ldp (i:=1) sM) zN ?_))))))))))
  by_cases hc5:a.num≠b.num
  ·
   exact q_neq true rfl rfl (decide_eq_true hc5) zN (lw_nil (c_cond_t rfl (wp_seq (wp_plain _ [0] rfl (lw_tvn 1 rfl (wp_ret (t_ret (post_ret [4] rfl (.bool false) rfl ⟨z243_0,hE2⟩))))))))
  ·
   refine q_neq false rfl rfl (decide_eq_false hc5) zN (lw_nil (c_cond_f rfl (wp_skip (wp_seq (wp_seq (wp_plain _ [0,2,0,2,0] rfl (q_fldP (p:=(.pointer (some ⟨w.heap.size,0,none⟩))) (b:=w.heap.size) (o:=0) 2 fd174_2 rfl rfl zN (q_load (p:=(padd (.pointer (some ⟨w.heap.size,0,none⟩)) 2)) (.inr rfl) (.int .i64 a.pick) one2 rfl (hB1x2.ldp (i:=2) sM) zN (q_fldP (p:=(.pointer (some ⟨w1.heap.size,0,none⟩))) (b:=w1.heap.size) (o:=0) 2 fd174_2 rfl rfl zN (q_load (p:=(padd (.pointer (some ⟨w1.heap.size,0,none⟩)) 2)) (.inr rfl) (.int .i64 b.pick) one2 rfl (hB2.ldp (i:=2) sM) zN ?_))))))))))
   by_cases hc6:a.pick≠b.pick
   ·
    exact q_neq true rfl rfl (decide_eq_true hc6) zN (lw_nil (c_cond_t rfl (wp_seq (wp_plain _ [0] rfl (lw_tvn 1 rfl (wp_ret (t_ret (post_ret [4] rfl (.bool false) rfl ⟨z243_0,hE2⟩))))))))
   ·
    refine q_neq false rfl rfl (decide_eq_false hc6) zN (lw_nil (c_cond_f rfl (wp_skip (wp_seq (wp_seq (wp_plain _ [0,2,0,2,0] rfl (q_fldP (p:=(.pointer (some ⟨w.heap.size,0,none⟩))) (b:=w.heap.size) (o:=0) 3 fd174_3 rfl rfl zN (q_load (p:=(padd (.pointer (some ⟨w.heap.size,0,none⟩)) 3)) (.inr rfl) (.int .i64 a.count) one2 rfl (hB1x2.ldp (i:=3) sM) zN (q_fldP (p:=(.pointer (some ⟨w1.heap.size,0,none⟩))) (b:=w1.heap.size) (o:=0) 3 fd174_3 rfl rfl zN (q_load (p:=(padd (.pointer (some ⟨w1.heap.size,0,none⟩)) 3)) (.inr rfl) (.int .i64 b.count) one2 rfl (hB2.ldp (i:=3) sM) zN ?_))))))))))
    by_cases hc7:a.count≠b.count
    ·
     exact q_neq true rfl rfl (decide_eq_true hc7) zN (lw_nil (c_cond_t rfl (wp_seq (wp_plain _ [0] rfl (lw_tvn 1 rfl (wp_ret (t_ret (post_ret [4] rfl (.bool false) rfl ⟨z243_0,hE2⟩))))))))
    ·
     refine q_neq false rfl rfl (decide_eq_false hc7) zN (lw_nil (c_cond_f rfl (wp_skip (wp_seq (wp_seq (wp_plain _ [0,2,0,2,3,0] rfl (q_fldP (p:=(.pointer (some ⟨w.heap.size,0,none⟩))) (b:=w.heap.size) (o:=0) 4 fd174_4 rfl rfl zN (q_load (p:=(padd (.pointer (some ⟨w.heap.size,0,none⟩)) 4)) (.inr rfl) va one53 rfl (hB1x2.ldp (i:=4) sM) zN (q_fldP (p:=(.pointer (some ⟨w1.heap.size,0,none⟩))) (b:=w1.heap.size) (o:=0) 4 fd174_4 rfl rfl zN (q_load (p:=(padd (.pointer (some ⟨w1.heap.size,0,none⟩)) 4)) (.inr rfl) vb one53 rfl (hB2.ldp (i:=4) sM) zN ?_))))))))))
     refine lw_call 214 [] [] [va,vb] rfl rfl cf214 zN (IH _ da va (a.kids) db vb (b.kids) (ha.rn.ext (good_rdS (good_rEx da)) hE2) (hb.rn.ext (good_rdS (good_rEx db)) hE2) (by rw [hab]) oM) ?_
     rintro e8 w8 ⟨rfl,hX8⟩
     refine ⟨_,rfl,hX8,?_⟩
     have hzs8:=hX8.size
     have hE8:=hE2.trans hX8
     have hB1x8:=hB1x2.ext hX8
     have hB2x8:=hB2.ext hX8
     exact q_not false rfl rfl zN (lw_nil (c_cond_f rfl (wp_skip (wp_seq (wp_plain _ [0] rfl (lw_tvn 1 rfl (wp_ret (post_ret [4] rfl (.bool true) rfl ⟨z243_0,hE8⟩))))))))
theorem c_laws_eqExprS (w:World) (da:Nat) (va:Value) (a:List Ex) (db:Nat) (vb:Value) (b:List Ex) (ha:RN [] (rdS 5 (rEx da)) w.heap va a) (hb:RN [] (rdS 5 (rEx db)) w.heap vb b) (hab:b = a) :
  Calls Tryz.prog 214 #[va,vb] w (fun e w'=>e = .returned (.bool true)∧Ext w w'):=by
 induction da using Nat.strongRecOn generalizing w va a db vb b
 rename_i da ih
 refine calls_mk [va,vb] 27 Tryz.func214 rfl rfl sM ?_
 have hE0:Ext w w:=Ext.refl w
 have hl_va:=ha.lenle
 unfold maxLen at hl_va
 have hl_vb:=hb.lenle
 unfold maxLen at hl_vb
 have hk1:b.length = a.length:=by rw [hab]
 refine wp_seq (wp_plain _ [0] rfl (lw_tvn 1 rfl (wp_seq (wp_seq (wp_plain _ [0,0,0,0,0] rfl (lw_tv 1 rfl (q_len (v:=va) u53 rfl ha.isSl zN (lw_tv 1 rfl (q_len (v:=vb) u53 rfl hb.isSl zN ?_)))))))))
 by_cases hc1:((a.length :Nat):Int)≠((b.length :Nat):Int)
 ·
  exact q_neq true rfl rfl (decide_eq_true hc1) zN (lw_nil (c_cond_t rfl (wp_seq (wp_plain _ [0] rfl (lw_tvn 1 rfl (wp_ret (t_ret (post_ret [4] rfl (.bool false) rfl ⟨(by first | exact ret_bool rfl | (exfalso; omega) | (exfalso; simp_all; done)),hE0⟩))))))))
 ·
  refine q_neq false rfl rfl (decide_eq_false hc1) zN (lw_nil (c_cond_f rfl (wp_skip (wp_seq (wp_seq (wp_plain _ [0] rfl (lw_tvn 1 rfl (wp_block (c_loop (S:=Nat) (fun (k:Nat)=>([(5,(.int .i64 ((k :Nat):Int))),(0,va),(1,vb)]:List (Nat × Value))) (fun (k:Nat) (W:World)=>Ext w W∧k≤a.length) (fun (k:Nat)=>a.length - k) 0 ⟨rfl,rfl,rfl,trivial⟩ ⟨hE0,sD⟩ ?_)))))))))
  clear hE0
  rintro k ρ2 w2 ⟨hE2,hp2_0⟩
  have hzs2:w.heap.size≤w2.heap.size:=hE2.size
  refine wp_seq (wp_seq (wp_plain _ [0,0,0,0] rfl (lw_tv 2 rfl (q_len (v:=va) u53 rfl ha.isSl zN ?_))))
  by_cases hc3:((k :Nat):Int) < ((a.length :Nat):Int)
  ·
   refine q_lss true rfl rfl (decide_eq_true hc3) zN (lw_nil (c_cond_t rfl (wp_skip (wp_seq (wp_block (wp_seq (wp_draw _ [0,0,0,1,0,0,0,1,3,0] mixed (by kernel_rfl) (lw_tv 2 rfl (q_idx (v:=va) k u53 tiS174 rfl rfl ha.isSl rfl sD zN ?_)))))))))
   obtain ⟨cs4,hr4,hl4⟩:=ha.get (good_rEx da) Ex.zero (k:=k) sD
   obtain ⟨dd4,ve4,hd4,rfl,hx4⟩:=RX.of hr4
   have hln4:=hx4.rn.lenle
   unfold maxLen at hln4
   refine q_loadA (p:=eptr va k 5) (.inl rfl) [(.int .i64 ((a.getD k Ex.zero).kind)),(.int .i64 ((a.getD k Ex.zero).num)),(.int .i64 ((a.getD k Ex.zero).pick)),(.int .i64 ((a.getD k Ex.zero).count)),ve4] agg174 rfl (fun wq9 hw9=>hl4 wq9 (Chg.of_ext [] (hE2.drew.trans hw9))) rfl zN (lw_tv 2 rfl (q_idx (v:=vb) k u53 tiS174 rfl rfl hb.isSl rfl sD zN ?_))
   obtain ⟨cs5,hr5,hl5⟩:=hb.get (good_rEx db) Ex.zero (k:=k) sD
   obtain ⟨dd5,ve5,hd5,rfl,hx5⟩:=RX.of hr5
   have hln5:=hx5.rn.lenle
   unfold maxLen at hln5
   refine q_loadA (p:=eptr vb k 5) (.inl rfl) [(.int .i64 ((b.getD k Ex.zero).kind)),(.int .i64 ((b.getD k Ex.zero).num)),(.int .i64 ((b.getD k Ex.zero).pick)),(.int .i64 ((b.getD k Ex.zero).count)),ve5] agg174 rfl (fun wq9 hw9=>hl5 wq9 (Chg.of_ext [] (hE2.drew.trans hw9))) rfl zN ?_
   refine lw_call 243 [] [] [(.agg #[(.int .i64 ((a.getD k Ex.zero).kind)),(.int .i64 ((a.getD k Ex.zero).num)),(.int .i64 ((a.getD k Ex.zero).pick)),(.int .i64 ((a.getD k Ex.zero).count)),ve4]),(.agg #[(.int .i64 ((b.getD k Ex.zero).kind)),(.int .i64 ((b.getD k Ex.zero).num)),(.int .i64 ((b.getD k Ex.zero).pick)),(.int .i64 ((b.getD k Ex.zero).count)),ve5])] rfl rfl cf243 zN (c_laws_eqExpr _ dd4 ve4 (a.getD k Ex.zero) dd5 ve5 (b.getD k Ex.zero) (hx4.ext hE2.drew) (hx5.ext hE2.drew) (by rw [hab]) (by intro w9 d9 v9 a9 e9 u9 b9 h1 h2 h3 h4; exact ih d9 oM w9 v9 a9 e9 u9 b9 h1 h2 h3)) ?_
   rintro e6 w6 ⟨rfl,hX6⟩
   refine ⟨_,rfl,hX6,?_⟩
   replace hX6:=hX6.of_drew
   have hzs6:=hX6.size
   have hE6:=hE2.trans hX6
   refine q_not false rfl rfl zN (lw_nil (c_cond_f rfl (wp_skip (wp_plain _ [0,0,0] rfl (lw_tv 1 rfl (q_add ((k + 1 :Nat):Int) rfl rfl (w64n oM sD) zN (lw_tvn 1 rfl ?_)))))))
   exact ⟨(k + 1),_,rfl,⟨rfl,rfl,rfl,trivial⟩,⟨hE6,sD⟩,by first | omega | (dsimp only; omega)⟩
  ·
   exact q_lss false rfl rfl (decide_eq_false hc3) zN (lw_nil (c_cond_f rfl (wp_exit (t_exit (t_exit (c_exit_here (wp_seq (wp_plain _ [0] rfl (lw_tvn 1 rfl (wp_ret (post_ret [4] rfl (.bool true) rfl ⟨(by first | exact ret_bool rfl | (exfalso; omega) | (exfalso; simp_all; done)),hE2⟩)))))))))))
theorem strE_self (s:ByteArray):strE s s = true:=by unfold strE; simp
theorem z170_0 {p:Prop} (h:p:=by first | exact ret_bool rfl | (exfalso; omega) | (exfalso; simp_all; done)):p:=h
theorem c_laws_eqFunc (w:World) (da:Nat) (va:Value) (a:Fn) (db:Nat) (vb:Value) (b:Fn) (ha:RF [] da w.heap va a) (hb:RF [] db w.heap vb b) (hab:b = a) :
  Calls Tryz.prog 170 #[(.agg #[(.string a.name),(.int .i64 a.params),va]),(.agg #[(.string b.name),(.int .i64 b.params),vb])] w (fun e w'=>e = .returned (.bool true)∧Ext w w'):=by
 refine calls_mk [(.agg #[(.string a.name),(.int .i64 a.params),va]),(.agg #[(.string b.name),(.int .i64 b.params),vb])] 21 Tryz.func170 rfl rfl sM ?_
 have hE0:Ext w w:=Ext.refl w
 have hl_va:=ha.rn.lenle
 unfold maxLen at hl_va
 have hl_vb:=hb.rn.lenle
 unfold maxLen at hl_vb
 have hk1:b.params = a.params:=by rw [hab]
 have hk2:strE a.name b.name = true:=by rw [hab]; exact strE_self _
 refine wp_seq (wp_plain _ [3,3,0] rfl (r_boxA (cs:=#[(.string a.name),(.int .i64 a.params),va]) rfl zN fun w1 hX1 hz1 hB1=>?_))
 have hzs1:=hX1.size
 have hE1:=hE0.trans hX1
 replace hB1:BX w1.heap w.heap.size [(.string a.name),(.int .i64 a.params),va]:=hB1
 have hq3:=hB1.lt
 refine r_boxA (cs:=#[(.string b.name),(.int .i64 b.params),vb]) rfl zN fun w2 hX2 hz2 hB2=>?_
 have hzs2:=hX2.size
 have hE2:=hE1.trans hX2
 have hB1x2:=hB1.ext hX2
 replace hB2:BX w2.heap w1.heap.size [(.string b.name),(.int .i64 b.params),vb]:=hB2
 refine lw_tvn 1 rfl (wp_seq (wp_seq (wp_plain _ [0,2,0,2,0] rfl (q_fldP (p:=(.pointer (some ⟨w.heap.size,0,none⟩))) (b:=w.heap.size) (o:=0) 0 fd55_0 rfl rfl zN (q_load (p:=(padd (.pointer (some ⟨w.heap.size,0,none⟩)) 0)) (.inr rfl) (.string a.name) one9 rfl (hB1x2.ldp (i:=0) sM) zN (q_fldP (p:=(.pointer (some ⟨w1.heap.size,0,none⟩))) (b:=w1.heap.size) (o:=0) 0 fd55_0 rfl rfl zN (q_load (p:=(padd (.pointer (some ⟨w1.heap.size,0,none⟩)) 0)) (.inr rfl) (.string b.name) one9 rfl (hB2.ldp (i:=0) sM) zN ?_)))))))
 cases hc4:(!strE a.name b.name)
 ·
  refine q_neqs false u9 rfl rfl hc4 zN (lw_nil (c_cond_f rfl (wp_skip (wp_seq (wp_seq (wp_plain _ [0,2,0,2,0] rfl (q_fldP (p:=(.pointer (some ⟨w.heap.size,0,none⟩))) (b:=w.heap.size) (o:=0) 1 fd55_1 rfl rfl zN (q_load (p:=(padd (.pointer (some ⟨w.heap.size,0,none⟩)) 1)) (.inr rfl) (.int .i64 a.params) one2 rfl (hB1x2.ldp (i:=1) sM) zN (q_fldP (p:=(.pointer (some ⟨w1.heap.size,0,none⟩))) (b:=w1.heap.size) (o:=0) 1 fd55_1 rfl rfl zN (q_load (p:=(padd (.pointer (some ⟨w1.heap.size,0,none⟩)) 1)) (.inr rfl) (.int .i64 b.params) one2 rfl (hB2.ldp (i:=1) sM) zN ?_))))))))))
  by_cases hc5:a.params≠b.params
  ·
   exact q_neq true rfl rfl (decide_eq_true hc5) zN (lw_nil (c_cond_t rfl (wp_seq (wp_plain _ [0] rfl (lw_tvn 1 rfl (wp_ret (t_ret (post_ret [4] rfl (.bool false) rfl ⟨z170_0,hE2⟩))))))))
  ·
   refine q_neq false rfl rfl (decide_eq_false hc5) zN (lw_nil (c_cond_f rfl (wp_skip (wp_seq (wp_seq (wp_plain _ [0,2,0,2,3,0] rfl (q_fldP (p:=(.pointer (some ⟨w.heap.size,0,none⟩))) (b:=w.heap.size) (o:=0) 2 fd55_2 rfl rfl zN (q_load (p:=(padd (.pointer (some ⟨w.heap.size,0,none⟩)) 2)) (.inr rfl) va one53 rfl (hB1x2.ldp (i:=2) sM) zN (q_fldP (p:=(.pointer (some ⟨w1.heap.size,0,none⟩))) (b:=w1.heap.size) (o:=0) 2 fd55_2 rfl rfl zN (q_load (p:=(padd (.pointer (some ⟨w1.heap.size,0,none⟩)) 2)) (.inr rfl) vb one53 rfl (hB2.ldp (i:=2) sM) zN (lw_call 214 [] [] [va,vb] rfl rfl cf214 zN (c_laws_eqExprS _ da va (a.outs) db vb (b.outs) (ha.rn.ext (good_rdS (good_rEx da)) hE2) (hb.rn.ext (good_rdS (good_rEx db)) hE2) (by rw [hab])) ?_)))))))))))
   rintro e6 w6 ⟨rfl,hX6⟩
   refine ⟨_,rfl,hX6,?_⟩
   have hzs6:=hX6.size
   have hE6:=hE2.trans hX6
   have hB1x6:=hB1x2.ext hX6
   have hB2x6:=hB2.ext hX6
   exact q_not false rfl rfl zN (lw_nil (c_cond_f rfl (wp_skip (wp_seq (wp_plain _ [0] rfl (lw_tvn 1 rfl (wp_ret (post_ret [4] rfl (.bool true) rfl ⟨z170_0,hE6⟩))))))))
 ·
  exact q_neqs true u9 rfl rfl hc4 zN (lw_nil (c_cond_t rfl (wp_seq (wp_plain _ [0] rfl (lw_tvn 1 rfl (wp_ret (t_ret (post_ret [4] rfl (.bool false) rfl ⟨z170_0,hE2⟩))))))))
theorem c_laws_eqFuncS (w:World) (da:Nat) (va:Value) (a:List Fn) (db:Nat) (vb:Value) (b:List Fn) (ha:RP [] da w.heap va a) (hb:RP [] db w.heap vb b) (hab:b = a) :
  Calls Tryz.prog 117 #[va,vb] w (fun e w'=>e = .returned (.bool true)∧Ext w w'):=by
 refine calls_mk [va,vb] 27 Tryz.func117 rfl rfl sM ?_
 have hE0:Ext w w:=Ext.refl w
 have hl_va:=ha.lenle
 unfold maxLen at hl_va
 have hl_vb:=hb.lenle
 unfold maxLen at hl_vb
 have hk1:b.length = a.length:=by rw [hab]
 refine wp_seq (wp_plain _ [0] rfl (lw_tvn 1 rfl (wp_seq (wp_seq (wp_plain _ [0,0,0,0,0] rfl (lw_tv 1 rfl (q_len (v:=va) u24 rfl ha.isSl zN (lw_tv 1 rfl (q_len (v:=vb) u24 rfl hb.isSl zN ?_)))))))))
 by_cases hc1:((a.length :Nat):Int)≠((b.length :Nat):Int)
 ·
  exact q_neq true rfl rfl (decide_eq_true hc1) zN (lw_nil (c_cond_t rfl (wp_seq (wp_plain _ [0] rfl (lw_tvn 1 rfl (wp_ret (t_ret (post_ret [4] rfl (.bool false) rfl ⟨(by first | exact ret_bool rfl | (exfalso; omega) | (exfalso; simp_all; done)),hE0⟩))))))))
 ·
  refine q_neq false rfl rfl (decide_eq_false hc1) zN (lw_nil (c_cond_f rfl (wp_skip (wp_seq (wp_seq (wp_plain _ [0] rfl (lw_tvn 1 rfl (wp_block (c_loop (S:=Nat) (fun (k:Nat)=>([(5,(.int .i64 ((k :Nat):Int))),(0,va),(1,vb)]:List (Nat × Value))) (fun (k:Nat) (W:World)=>Ext w W∧k≤a.length) (fun (k:Nat)=>a.length - k) 0 ⟨rfl,rfl,rfl,trivial⟩ ⟨hE0,sD⟩ ?_)))))))))
  clear hE0
  rintro k ρ2 w2 ⟨hE2,hp2_0⟩
  have hzs2:w.heap.size≤w2.heap.size:=hE2.size
  refine wp_seq (wp_seq (wp_plain _ [0,0,0,0] rfl (lw_tv 2 rfl (q_len (v:=va) u24 rfl ha.isSl zN ?_))))
  by_cases hc3:((k :Nat):Int) < ((a.length :Nat):Int)
  ·
   refine q_lss true rfl rfl (decide_eq_true hc3) zN (lw_nil (c_cond_t rfl (wp_skip (wp_seq (wp_block (wp_seq (wp_draw _ [0,0,0,1,0,0,0,1,3,0] mixed (by kernel_rfl) (lw_tv 2 rfl (q_idx (v:=va) k u24 tiS55 rfl rfl ha.isSl rfl sD zN ?_)))))))))
   obtain ⟨cs4,hr4,hl4⟩:=ha.get (good_rFn da) Fn.zero (k:=k) sD
   obtain ⟨ve4,rfl,hx4⟩:=RF.of hr4
   have hln4:=hx4.rn.lenle
   unfold maxLen at hln4
   refine q_loadA (p:=eptr va k 3) (.inl rfl) [(.string ((a.getD k Fn.zero).name)),(.int .i64 ((a.getD k Fn.zero).params)),ve4] agg55 rfl (fun wq9 hw9=>hl4 wq9 (Chg.of_ext [] (hE2.drew.trans hw9))) rfl zN (lw_tv 2 rfl (q_idx (v:=vb) k u24 tiS55 rfl rfl hb.isSl rfl sD zN ?_))
   obtain ⟨cs5,hr5,hl5⟩:=hb.get (good_rFn db) Fn.zero (k:=k) sD
   obtain ⟨ve5,rfl,hx5⟩:=RF.of hr5
   have hln5:=hx5.rn.lenle
   unfold maxLen at hln5
   refine q_loadA (p:=eptr vb k 3) (.inl rfl) [(.string ((b.getD k Fn.zero).name)),(.int .i64 ((b.getD k Fn.zero).params)),ve5] agg55 rfl (fun wq9 hw9=>hl5 wq9 (Chg.of_ext [] (hE2.drew.trans hw9))) rfl zN (lw_call 170 [] [] [(.agg #[(.string ((a.getD k Fn.zero).name)),(.int .i64 ((a.getD k Fn.zero).params)),ve4]),(.agg #[(.string ((b.getD k Fn.zero).name)),(.int .i64 ((b.getD k Fn.zero).params)),ve5])] rfl rfl cf170 zN (c_laws_eqFunc _ da ve4 (a.getD k Fn.zero) db ve5 (b.getD k Fn.zero) ⟨hx4.rng,(hx4.rn.ext (good_rdS (good_rEx da)) hE2.drew)⟩ ⟨hx5.rng,(hx5.rn.ext (good_rdS (good_rEx db)) hE2.drew)⟩ (by rw [hab])) ?_)
   rintro e6 w6 ⟨rfl,hX6⟩
   refine ⟨_,rfl,hX6,?_⟩
   replace hX6:=hX6.of_drew
   have hzs6:=hX6.size
   have hE6:=hE2.trans hX6
   refine q_not false rfl rfl zN (lw_nil (c_cond_f rfl (wp_skip (wp_plain _ [0,0,0] rfl (lw_tv 1 rfl (q_add ((k + 1 :Nat):Int) rfl rfl (w64n oM sD) zN (lw_tvn 1 rfl ?_)))))))
   exact ⟨(k + 1),_,rfl,⟨rfl,rfl,rfl,trivial⟩,⟨hE6,sD⟩,by first | omega | (dsimp only; omega)⟩
  ·
   exact q_lss false rfl rfl (decide_eq_false hc3) zN (lw_nil (c_cond_f rfl (wp_exit (t_exit (t_exit (c_exit_here (wp_seq (wp_plain _ [0] rfl (lw_tvn 1 rfl (wp_ret (post_ret [4] rfl (.bool true) rfl ⟨(by first | exact ret_bool rfl | (exfalso; omega) | (exfalso; simp_all; done)),hE2⟩)))))))))))
theorem c_laws_eqProgram (w:World) (da:Nat) (va:Value) (a:List Fn) (db:Nat) (vb:Value) (b:List Fn) (ha:RP [] da w.heap va a) (hb:RP [] db w.heap vb b) (hab:b = a) :
  Calls Tryz.prog 46 #[(.agg #[va]),(.agg #[vb])] w (fun e w'=>e = .returned (.bool true)∧Ext w w'):=by
 refine calls_mk [(.agg #[va]),(.agg #[vb])] 11 Tryz.func46 rfl rfl sM ?_
 have hE0:Ext w w:=Ext.refl w
 have hl_va:=ha.lenle
 unfold maxLen at hl_va
 have hl_vb:=hb.lenle
 unfold maxLen at hl_vb
 refine wp_seq (wp_plain _ [3,3,0] rfl (r_boxA (cs:=#[va]) rfl zN fun w1 hX1 hz1 hB1=>?_))
 have hzs1:=hX1.size
 have hE1:=hE0.trans hX1
 replace hB1:BX w1.heap w.heap.size [va]:=hB1
 have hq3:=hB1.lt
 refine r_boxA (cs:=#[vb]) rfl zN fun w2 hX2 hz2 hB2=>?_
 have hzs2:=hX2.size
 have hE2:=hE1.trans hX2
 have hB1x2:=hB1.ext hX2
 replace hB2:BX w2.heap w1.heap.size [vb]:=hB2
 refine lw_tvn 1 rfl (wp_seq (wp_seq (wp_plain _ [0,2,0,2,3,0] rfl (q_fldP (p:=(.pointer (some ⟨w.heap.size,0,none⟩))) (b:=w.heap.size) (o:=0) 0 fd26_0 rfl rfl zN (q_load (p:=(padd (.pointer (some ⟨w.heap.size,0,none⟩)) 0)) (.inr rfl) va one24 rfl (hB1x2.ldp (i:=0) sM) zN (q_fldP (p:=(.pointer (some ⟨w1.heap.size,0,none⟩))) (b:=w1.heap.size) (o:=0) 0 fd26_0 rfl rfl zN (q_load (p:=(padd (.pointer (some ⟨w1.heap.size,0,none⟩)) 0)) (.inr rfl) vb one24 rfl (hB2.ldp (i:=0) sM) zN (lw_call 117 [] [] [va,vb] rfl rfl cf117 zN (c_laws_eqFuncS _ da va (a) db vb (b) (ha.ext (good_rdS (good_rFn da)) hE2) (hb.ext (good_rdS (good_rFn db)) hE2) (by exact hab)) ?_))))))))
 rintro e4 w4 ⟨rfl,hX4⟩
 refine ⟨_,rfl,hX4,?_⟩
 have hzs4:=hX4.size
 have hE4:=hE2.trans hX4
 have hB1x4:=hB1x2.ext hX4
 have hB2x4:=hB2.ext hX4
 exact q_not false rfl rfl zN (lw_nil (c_cond_f rfl (wp_skip (wp_seq (wp_plain _ [0] rfl (lw_tvn 1 rfl (wp_ret (post_ret [4] rfl (.bool true) rfl ⟨(by first | exact ret_bool rfl | (exfalso; omega) | (exfalso; simp_all; done)),hE4⟩))))))))
end Go.Proofs.YtnokbaiemimhjaaGreat
namespace Go.Proofs.YtnokbaiemimhjaaGreat
open Go Go.RowKit
set_option linter.unusedVariables false
set_option linter.unusedSimpArgs false
set_option maxHeartbeats 4000000
set_option maxRecDepth 100000
attribute [local irreducible] LW
def TS (D:Nat):Prop:=∀ (w:World) (d:Nat) (va:Value) (a:List Ex) (ha:RN [] (rdS 5 (rEx d)) w.heap va a) (hs:Ex.sizes a≤1000000000) (hd:d≤D),Calls Tryz.prog 213 #[va] w (fun e w'=>∃ v,e = .returned v∧Ext w w'∧Fr (owS 5 (oEx 174 d) 174) w.heap.size w'.heap.size w'.heap v a)
theorem c_laws_toExpr (w:World) (dex:Nat) (ve:Value) (ex:Ex) (hex:RX [] dex w.heap ve ex) (hs:Ex.sizes ex.kids≤1000000000) (IH:TS dex) :
  Calls Tryz.prog 242 #[(.agg #[(.int .i64 ex.kind),(.int .i64 ex.num),(.int .i64 ex.pick),(.int .i64 ex.count),ve])] w (fun e w'=>∃ v,e = .returned (.agg #[.int .i64 ex.kind,.int .i64 ex.num,.int .i64 ex.pick,.int .i64 ex.count,v])∧Ext w w'∧Fr (owS 5 (oEx 174 dex) 174) w.heap.size w'.heap.size w'.heap v ex.kids):=by
 refine calls_mk [(.agg #[(.int .i64 ex.kind),(.int .i64 ex.num),(.int .i64 ex.pick),(.int .i64 ex.count),ve])] 21 Tryz.func242 rfl rfl sM ?_
 have hE0:Ext w w:=Ext.refl w
 have hl_ve:=hex.rn.lenle
 unfold maxLen at hl_ve
 refine wp_seq (wp_plain _ [3,3] rfl (r_boxA (cs:=#[(.int .i64 ex.kind),(.int .i64 ex.num),(.int .i64 ex.pick),(.int .i64 ex.count),ve]) rfl zN fun w1 hX1 hz1 hB1=>?_))
 have hzs1:=hX1.size
 have hE1:=hE0.trans hX1
 replace hB1:BX w1.heap w.heap.size [(.int .i64 ex.kind),(.int .i64 ex.num),(.int .i64 ex.pick),(.int .i64 ex.count),ve]:=hB1
 have hq3:=hB1.lt
 refine r_allocA (z:=.agg #[.int .i64 0,.int .i64 0,.int .i64 0,.int .i64 0,.slice none 0 0]) zr174 zN fun w2 hX2 hz2 hB2=>?_
 have hzs2:=hX2.size
 have hE2:=hE1.trans hX2
 have hB1x2:=hB1.ext hX2
 replace hB2:BX w2.heap w1.heap.size [(.int .i64 0),(.int .i64 0),(.int .i64 0),(.int .i64 0),(.slice none 0 0)]:=hB2
 refine lw_nil (wp_seq (wp_plain _ [3] rfl ?_))
 have hq5:=hB1x2.lt
 have hq6:=hB2.lt
 refine r_allocA (z:=.agg #[.int .i64 0,.int .i64 0,.int .i64 0,.int .i64 0,.slice none 0 0]) zr174 zN fun w4 hX4 hz4 hB4=>?_
 have hzs4:=hX4.size
 have hE4:=hE2.trans hX4
 have hB1x4:=hB1x2.ext hX4
 have hB2x4:=hB2.ext hX4
 replace hB4:BX w4.heap w2.heap.size [(.int .i64 0),(.int .i64 0),(.int .i64 0),(.int .i64 0),(.slice none 0 0)]:=hB4
 refine lw_nil (wp_seq (wp_plain _ [0,2,0,4] rfl (q_fldP (p:=(.pointer (some ⟨w.heap.size,0,none⟩))) (b:=w.heap.size) (o:=0) 0 fd248_0 rfl rfl zN (q_load (p:=(padd (.pointer (some ⟨w.heap.size,0,none⟩)) 0)) (.inr rfl) (.int .i64 ex.kind) one2 rfl (hB1x4.ldp (i:=0) sM) zN (q_fldP (p:=(.pointer (some ⟨w2.heap.size,0,none⟩))) (b:=w2.heap.size) (o:=0) 0 fd174_0 rfl rfl zN (e_setB (k:=0) (w:=w4) sz2 rfl rfl ⟨rfl,rfl⟩ hB4 sM zN fun w7 hC7 hz7 hB7=>?_))))))
 replace hB7:BX w7.heap w2.heap.size [(.int .i64 ex.kind),(.int .i64 0),(.int .i64 0),(.int .i64 0),(.slice none 0 0)]:=hB7
 have hE7:Ext w w7:=hC7.below hE4 (fun c hc=>by have:=List.mem_singleton.1 hc; omega) hE4.size
 have hzs7:=hC7.size
 have hF8:=hB1x4.chg hC7 (fun hm=>by have:=List.mem_singleton.1 hm; omega)
 have hF9:=hB2x4.chg hC7 (fun hm=>by have:=List.mem_singleton.1 hm; omega)
 refine lw_nil (wp_seq (wp_plain _ [0,2,0,4] rfl (q_fldP (p:=(.pointer (some ⟨w.heap.size,0,none⟩))) (b:=w.heap.size) (o:=0) 1 fd248_1 rfl rfl zN (q_load (p:=(padd (.pointer (some ⟨w.heap.size,0,none⟩)) 1)) (.inr rfl) (.int .i64 ex.num) one2 rfl (hF8.ldp (i:=1) sM) zN (q_fldP (p:=(.pointer (some ⟨w2.heap.size,0,none⟩))) (b:=w2.heap.size) (o:=0) 1 fd174_1 rfl rfl zN (e_setB (k:=1) (w:=w7) sz2 rfl rfl ⟨rfl,rfl⟩ hB7 sM zN fun w10 hC10 hz10 hB10=>?_))))))
 replace hB10:BX w10.heap w2.heap.size [(.int .i64 ex.kind),(.int .i64 ex.num),(.int .i64 0),(.int .i64 0),(.slice none 0 0)]:=hB10
 have hE10:Ext w w10:=hC10.below hE7 (fun c hc=>by have:=List.mem_singleton.1 hc; omega) hE7.size
 have hzs10:=hC10.size
 have hF11:=hF8.chg hC10 (fun hm=>by have:=List.mem_singleton.1 hm; omega)
 have hF12:=hF9.chg hC10 (fun hm=>by have:=List.mem_singleton.1 hm; omega)
 refine lw_nil (wp_seq (wp_plain _ [0,2,0,4] rfl (q_fldP (p:=(.pointer (some ⟨w.heap.size,0,none⟩))) (b:=w.heap.size) (o:=0) 2 fd248_2 rfl rfl zN (q_load (p:=(padd (.pointer (some ⟨w.heap.size,0,none⟩)) 2)) (.inr rfl) (.int .i64 ex.pick) one2 rfl (hF11.ldp (i:=2) sM) zN (q_fldP (p:=(.pointer (some ⟨w2.heap.size,0,none⟩))) (b:=w2.heap.size) (o:=0) 2 fd174_2 rfl rfl zN (e_setB (k:=2) (w:=w10) sz2 rfl rfl ⟨rfl,rfl⟩ hB10 sM zN fun w13 hC13 hz13 hB13=>?_))))))
 replace hB13:BX w13.heap w2.heap.size [(.int .i64 ex.kind),(.int .i64 ex.num),(.int .i64 ex.pick),(.int .i64 0),(.slice none 0 0)]:=hB13
 have hE13:Ext w w13:=hC13.below hE10 (fun c hc=>by have:=List.mem_singleton.1 hc; omega) hE10.size
 have hzs13:=hC13.size
 have hF14:=hF11.chg hC13 (fun hm=>by have:=List.mem_singleton.1 hm; omega)
 have hF15:=hF12.chg hC13 (fun hm=>by have:=List.mem_singleton.1 hm; omega)
 refine lw_nil (wp_seq (wp_plain _ [0,2,0,4] rfl (q_fldP (p:=(.pointer (some ⟨w.heap.size,0,none⟩))) (b:=w.heap.size) (o:=0) 3 fd248_3 rfl rfl zN (q_load (p:=(padd (.pointer (some ⟨w.heap.size,0,none⟩)) 3)) (.inr rfl) (.int .i64 ex.count) one2 rfl (hF14.ldp (i:=3) sM) zN (q_fldP (p:=(.pointer (some ⟨w2.heap.size,0,none⟩))) (b:=w2.heap.size) (o:=0) 3 fd174_3 rfl rfl zN (e_setB (k:=3) (w:=w13) sz2 rfl rfl ⟨rfl,rfl⟩ hB13 sM zN fun w16 hC16 hz16 hB16=>?_))))))
 replace hB16:BX w16.heap w2.heap.size [(.int .i64 ex.kind),(.int .i64 ex.num),(.int .i64 ex.pick),(.int .i64 ex.count),(.slice none 0 0)]:=hB16
 have hE16:Ext w w16:=hC16.below hE13 (fun c hc=>by have:=List.mem_singleton.1 hc; omega) hE13.size
 have hzs16:=hC16.size
 have hF17:=hF14.chg hC16 (fun hm=>by have:=List.mem_singleton.1 hm; omega)
 have hF18:=hF15.chg hC16 (fun hm=>by have:=List.mem_singleton.1 hm; omega)
 refine lw_nil (wp_seq (wp_plain _ [0,2,3,0,4] rfl (q_fldP (p:=(.pointer (some ⟨w.heap.size,0,none⟩))) (b:=w.heap.size) (o:=0) 4 fd248_4 rfl rfl zN (q_load (p:=(padd (.pointer (some ⟨w.heap.size,0,none⟩)) 4)) (.inr rfl) ve one183 rfl (hF17.ldp (i:=4) sM) zN (lw_call 213 [] [] [ve] rfl rfl cf213 zN (IH _ dex ve (ex.kids) (hex.rn.ext (good_rdS (good_rEx dex)) hE16) (by exact hs) oM) ?_)))))
 rintro e19 w19 ⟨v19,rfl,hX19,hO19⟩
 refine ⟨_,rfl,hX19,?_⟩
 have hzs19:=hX19.size
 have hE19:=hE16.trans hX19
 have hF17x19:=hF17.ext hX19
 have hF18x19:=hF18.ext hX19
 have hB16x19:=hB16.ext hX19
 refine q_fldP (p:=(.pointer (some ⟨w2.heap.size,0,none⟩))) (b:=w2.heap.size) (o:=0) 4 fd174_4 rfl rfl zN (e_setB (k:=4) (w:=w19) sz53 rfl rfl (isSl_one hO19.isSlS) hB16x19 sM zN fun w20 hC20 hz20 hB20=>?_)
 replace hB20:BX w20.heap w2.heap.size [(.int .i64 ex.kind),(.int .i64 ex.num),(.int .i64 ex.pick),(.int .i64 ex.count),v19]:=hB20
 have hE20:Ext w w20:=hC20.below hE19 (fun c hc=>by have:=List.mem_singleton.1 hc; omega) hE19.size
 have hzs20:=hC20.size
 have hF21:=hF17x19.chg hC20 (fun hm=>by have:=List.mem_singleton.1 hm; omega)
 have hF22:=hF18x19.chg hC20 (fun hm=>by have:=List.mem_singleton.1 hm; omega)
 have hF23:=hO19.chg ((good_owS (good_oEx 174 dex))) hC20 (fun c hc=>by have:=List.mem_singleton.1 hc; omega)
 refine lw_nil (wp_seq (wp_plain _ [2,4] rfl (q_loadA (p:=(.pointer (some ⟨w2.heap.size,0,none⟩))) (.inr rfl) [(.int .i64 ex.kind),(.int .i64 ex.num),(.int .i64 ex.pick),(.int .i64 ex.count),v19] agg174 rfl (fun wq9 hw9=>LD.of_box (BX.ext (w:=w20) hB20 hw9)) rfl zN (e_setA (vs:=[(.int .i64 ex.kind),(.int .i64 ex.num),(.int .i64 ex.pick),(.int .i64 ex.count),v19]) agg174 rfl rfl (by intro u hu; simp only [List.mem_cons,List.not_mem_nil,or_false] at hu; rcases hu with rfl | rfl | rfl | rfl | rfl <;> first | exact ⟨rfl,rfl⟩ | exact isSl_one hF23.isSlS) hF22 rfl rfl zN fun w24 hC24 hz24 hB24=>?_))))
 replace hB24:BX w24.heap w1.heap.size [(.int .i64 ex.kind),(.int .i64 ex.num),(.int .i64 ex.pick),(.int .i64 ex.count),v19]:=hB24
 have hE24:Ext w w24:=hC24.below hE20 (fun c hc=>by have:=List.mem_singleton.1 hc; omega) hE20.size
 have hzs24:=hC24.size
 have hF25:=hF21.chg hC24 (fun hm=>by have:=List.mem_singleton.1 hm; omega)
 have hF26:=hB20.chg hC24 (fun hm=>by have:=List.mem_singleton.1 hm; omega)
 have hF27:=hF23.chg ((good_owS (good_oEx 174 dex))) hC24 (fun c hc=>by have:=List.mem_singleton.1 hc; omega)
 exact lw_nil (wp_ret (post_retA (cs:=[(.int .i64 ex.kind),(.int .i64 ex.num),(.int .i64 ex.pick),(.int .i64 ex.count),v19]) rfl agg174 rfl hB24 rfl ⟨v19,rfl,hE24,((hF27.up (good_owS (good_oEx 174 dex))).low (B':=w.heap.size) oM)⟩))
theorem c_laws_toExprS (w:World) (da:Nat) (va:Value) (a:List Ex) (ha:RN [] (rdS 5 (rEx da)) w.heap va a) (hs:Ex.sizes a≤1000000000) :
  Calls Tryz.prog 213 #[va] w (fun e w'=>∃ v,e = .returned v∧Ext w w'∧Fr (owS 5 (oEx 174 da) 174) w.heap.size w'.heap.size w'.heap v a):=by
 induction da using Nat.strongRecOn generalizing w va a
 rename_i da ih
 refine calls_mk [va] 23 Tryz.func213 rfl rfl sM ?_
 have hE0:Ext w w:=Ext.refl w
 have hl_va:=ha.lenle
 unfold maxLen at hl_va
 have hge0:=sizes_ge a 0
 refine wp_seq (wp_plain _ [0] rfl (lw_tvn 1 rfl (wp_seq (wp_plain _ [0,0,3,0] rfl (lw_tv 1 rfl (q_len (v:=va) u183 rfl ha.isSl zN (r_makeS (n:=a.length) (zs:=exC Ex.zero (.slice none 0 0)) (z0:=Ex.zero) (good_oEx 174 da) u53 tiS174 rfl rfl rfl rfl rfl (by decide) oM (fun h0 H=>oEx_zero (RN.exPos ha h0) H) zN fun v1 w1 hX1 hz1 hO1=>?_)))))))
 have hzs1:=hX1.size
 have hE1:=hE0.trans hX1
 refine lw_tvn 1 rfl (wp_seq (wp_seq (wp_plain _ [0] rfl (lw_tvn 1 rfl (wp_block ?_)))))
 refine c_loop (S:=Nat) (fun (k:Nat)=>([(4,(.int .i64 ((k :Nat):Int))),(0,va),(3,v1)]:List (Nat × Value))) (fun (k:Nat) (W:World)=>Ext w W∧Fr (owS 5 (oEx 174 da) 174) w.heap.size W.heap.size W.heap v1 (a.take k++List.replicate (a.length - k) Ex.zero)∧k≤a.length) (fun (k:Nat)=>a.length - k) 0 ⟨rfl,rfl,rfl,trivial⟩ ⟨hE1,(by simpa using hO1.up (good_owS (good_oEx 174 da))),sD⟩ ?_
 clear hE0 hO1 hz1 hX1 hzs1 hE1
 rintro k ρ2 w2 ⟨hE2,hL2_0,hp2_0⟩
 have hzs2:w.heap.size≤w2.heap.size:=hE2.size
 have hml:(a.take k++List.replicate (a.length - k) Ex.zero).length = a.length:=by rw [List.length_append,List.length_take,List.length_replicate]; omega
 refine wp_seq (wp_seq (wp_plain _ [0,0,0,0] rfl (lw_tv 2 rfl (q_len (v:=va) u183 rfl ha.isSl zN ?_))))
 by_cases hc3:((k :Nat):Int) < ((a.length :Nat):Int)
 ·
  refine q_lss true rfl rfl (decide_eq_true hc3) zN (lw_nil (c_cond_t rfl (wp_skip (wp_seq (wp_block (wp_plain _ [0,0,0,0,0,2,3,0,4] rfl ?_))))))
  have hsa:=sizes_at (l:=a) (k:=k) oM
  have hsk:=size_kids (a.getD k Ex.zero)
  refine lw_tv 4 rfl (q_idx (v:=va) k u183 tiS248 rfl rfl ha.isSl rfl sD zN ?_)
  obtain ⟨cs4,hr4,hl4⟩:=ha.get (good_rEx da) Ex.zero (k:=k) sD
  obtain ⟨dd4,ve4,hd4,rfl,hx4⟩:=RX.of hr4
  have hln4:=hx4.rn.lenle
  unfold maxLen at hln4
  refine q_loadA (p:=eptr va k 5) (.inr rfl) [(.int .i64 ((a.getD k Ex.zero).kind)),(.int .i64 ((a.getD k Ex.zero).num)),(.int .i64 ((a.getD k Ex.zero).pick)),(.int .i64 ((a.getD k Ex.zero).count)),ve4] agg248 rfl (fun wq9 hw9=>hl4 wq9 (Chg.of_ext [] (hE2.trans hw9))) rfl zN (lw_call 242 [] [] [(.agg #[(.int .i64 ((a.getD k Ex.zero).kind)),(.int .i64 ((a.getD k Ex.zero).num)),(.int .i64 ((a.getD k Ex.zero).pick)),(.int .i64 ((a.getD k Ex.zero).count)),ve4])] rfl rfl cf242 zN (c_laws_toExpr _ dd4 ve4 (a.getD k Ex.zero) (hx4.ext hE2) oM (by intro w9 d9 v9 a9 h1 h2 h3; exact ih d9 oM w9 v9 a9 h1 h2)) ?_)
  rintro e5 w5 ⟨v5,rfl,hX5,hO5⟩
  refine ⟨_,rfl,hX5,?_⟩
  have hzs5:=hX5.size
  have hE5:=hE2.trans hX5
  have hL2_0x5:=hL2_0.ext ((good_owS (good_oEx 174 da))) hX5
  refine q_idx (v:=v1) k u53 tiS174 rfl rfl hL2_0x5.isSlS rfl sD zN ?_
  refine e_setS (v:=v1) (cs:=[(.int .i64 ((a.getD k Ex.zero).kind)),(.int .i64 ((a.getD k Ex.zero).num)),(.int .i64 ((a.getD k Ex.zero).pick)),(.int .i64 ((a.getD k Ex.zero).count)),v5]) (n:=(a.getD k Ex.zero)) (j:=k) (good_oEx 174 da) agg174 rfl rfl hL2_0x5 (oEx_mk (d':=dd4) hd4 hx4.rng hO5) oM oM sD zN fun w6 F6 hC6 hz6 hF6 hO6=>?_
  have hE6:Ext w w6:=hC6.below hE5 (fun c hc=>Nat.le_trans (Nat.le_refl _) (hF6 c hc).1) hE5.size
  have hzs6:=hC6.size
  refine lw_nil (wp_plain _ [0,0,0] rfl (lw_tv 1 rfl (q_add ((k + 1 :Nat):Int) rfl rfl (w64n oM sD) zN (lw_tvn 1 rfl ?_))))
  exact ⟨(k + 1),_,rfl,⟨rfl,rfl,rfl,trivial⟩,⟨hE6,(by have h:=hO6.up (good_owS (good_oEx 174 da)); rwa [set_zero oM] at h),sD⟩,by first | omega | (dsimp only; omega)⟩
 ·
  exact q_lss false rfl rfl (decide_eq_false hc3) zN (lw_nil (c_cond_f rfl (wp_exit (t_exit (t_exit (c_exit_here (wp_seq (wp_plain _ [0,0] rfl (lw_tvn 2 rfl (wp_ret (post_ret [2] rfl v1 rfl ⟨v1,rfl,hE2,(by have h:=((hL2_0.up (good_owS (good_oEx 174 da))).low (B':=w.heap.size) oM); rwa [show a.take k++List.replicate (a.length - k) Ex.zero = a from by rw [List.take_of_length_le oM,show a.length - k = 0 from by omega]; simp] at h)⟩)))))))))))
theorem c_laws_toFunc (w:World) (dg:Nat) (vf:Value) (g:Fn) (hg:RF [] dg w.heap vf g) (hs:Ex.sizes g.outs≤1000000000) :
  Calls Tryz.prog 167 #[(.agg #[(.string g.name),(.int .i64 g.params),vf])] w (fun e w'=>∃ v,e = .returned (.agg #[.string g.name,.int .i64 g.params,v])∧Ext w w'∧Fr (owS 5 (oEx 174 dg) 174) w.heap.size w'.heap.size w'.heap v g.outs):=by
 refine calls_mk [(.agg #[(.string g.name),(.int .i64 g.params),vf])] 15 Tryz.func167 rfl rfl sM ?_
 have hE0:Ext w w:=Ext.refl w
 have hl_vf:=hg.rn.lenle
 unfold maxLen at hl_vf
 refine wp_seq (wp_plain _ [3,3] rfl (r_boxA (cs:=#[(.string g.name),(.int .i64 g.params),vf]) rfl zN fun w1 hX1 hz1 hB1=>?_))
 have hzs1:=hX1.size
 have hE1:=hE0.trans hX1
 replace hB1:BX w1.heap w.heap.size [(.string g.name),(.int .i64 g.params),vf]:=hB1
 have hq3:=hB1.lt
 refine r_allocA (z:=.agg #[.string ByteArray.empty,.int .i64 0,.slice none 0 0]) zr55 zN fun w2 hX2 hz2 hB2=>?_
 have hzs2:=hX2.size
 have hE2:=hE1.trans hX2
 have hB1x2:=hB1.ext hX2
 replace hB2:BX w2.heap w1.heap.size [(.string ByteArray.empty),(.int .i64 0),(.slice none 0 0)]:=hB2
 refine lw_nil (wp_seq (wp_plain _ [3] rfl ?_))
 have hq5:=hB1x2.lt
 have hq6:=hB2.lt
 refine r_allocA (z:=.agg #[.string ByteArray.empty,.int .i64 0,.slice none 0 0]) zr55 zN fun w4 hX4 hz4 hB4=>?_
 have hzs4:=hX4.size
 have hE4:=hE2.trans hX4
 have hB1x4:=hB1x2.ext hX4
 have hB2x4:=hB2.ext hX4
 replace hB4:BX w4.heap w2.heap.size [(.string ByteArray.empty),(.int .i64 0),(.slice none 0 0)]:=hB4
 refine lw_nil (wp_seq (wp_plain _ [0,2,0,4] rfl (q_fldP (p:=(.pointer (some ⟨w.heap.size,0,none⟩))) (b:=w.heap.size) (o:=0) 0 fd185_0 rfl rfl zN (q_load (p:=(padd (.pointer (some ⟨w.heap.size,0,none⟩)) 0)) (.inr rfl) (.string g.name) one9 rfl (hB1x4.ldp (i:=0) sM) zN (q_fldP (p:=(.pointer (some ⟨w2.heap.size,0,none⟩))) (b:=w2.heap.size) (o:=0) 0 fd55_0 rfl rfl zN (e_setB (k:=0) (w:=w4) sz9 rfl rfl ⟨rfl,rfl⟩ hB4 sM zN fun w7 hC7 hz7 hB7=>?_))))))
 replace hB7:BX w7.heap w2.heap.size [(.string g.name),(.int .i64 0),(.slice none 0 0)]:=hB7
 have hE7:Ext w w7:=hC7.below hE4 (fun c hc=>by have:=List.mem_singleton.1 hc; omega) hE4.size
 have hzs7:=hC7.size
 have hF8:=hB1x4.chg hC7 (fun hm=>by have:=List.mem_singleton.1 hm; omega)
 have hF9:=hB2x4.chg hC7 (fun hm=>by have:=List.mem_singleton.1 hm; omega)
 refine lw_nil (wp_seq (wp_plain _ [0,2,0,4] rfl (q_fldP (p:=(.pointer (some ⟨w.heap.size,0,none⟩))) (b:=w.heap.size) (o:=0) 1 fd185_1 rfl rfl zN (q_load (p:=(padd (.pointer (some ⟨w.heap.size,0,none⟩)) 1)) (.inr rfl) (.int .i64 g.params) one2 rfl (hF8.ldp (i:=1) sM) zN (q_fldP (p:=(.pointer (some ⟨w2.heap.size,0,none⟩))) (b:=w2.heap.size) (o:=0) 1 fd55_1 rfl rfl zN (e_setB (k:=1) (w:=w7) sz2 rfl rfl ⟨rfl,rfl⟩ hB7 sM zN fun w10 hC10 hz10 hB10=>?_))))))
 replace hB10:BX w10.heap w2.heap.size [(.string g.name),(.int .i64 g.params),(.slice none 0 0)]:=hB10
 have hE10:Ext w w10:=hC10.below hE7 (fun c hc=>by have:=List.mem_singleton.1 hc; omega) hE7.size
 have hzs10:=hC10.size
 have hF11:=hF8.chg hC10 (fun hm=>by have:=List.mem_singleton.1 hm; omega)
 have hF12:=hF9.chg hC10 (fun hm=>by have:=List.mem_singleton.1 hm; omega)
 refine lw_nil (wp_seq (wp_plain _ [0,2,3,0,4] rfl (q_fldP (p:=(.pointer (some ⟨w.heap.size,0,none⟩))) (b:=w.heap.size) (o:=0) 2 fd185_2 rfl rfl zN (q_load (p:=(padd (.pointer (some ⟨w.heap.size,0,none⟩)) 2)) (.inr rfl) vf one183 rfl (hF11.ldp (i:=2) sM) zN (lw_call 213 [] [] [vf] rfl rfl cf213 zN (c_laws_toExprS _ dg vf (g.outs) (hg.rn.ext (good_rdS (good_rEx dg)) hE10) (by exact hs)) ?_)))))
 rintro e13 w13 ⟨v13,rfl,hX13,hO13⟩
 refine ⟨_,rfl,hX13,?_⟩
 have hzs13:=hX13.size
 have hE13:=hE10.trans hX13
 have hF11x13:=hF11.ext hX13
 have hF12x13:=hF12.ext hX13
 have hB10x13:=hB10.ext hX13
 refine q_fldP (p:=(.pointer (some ⟨w2.heap.size,0,none⟩))) (b:=w2.heap.size) (o:=0) 2 fd55_2 rfl rfl zN (e_setB (k:=2) (w:=w13) sz53 rfl rfl (isSl_one hO13.isSlS) hB10x13 sM zN fun w14 hC14 hz14 hB14=>?_)
 replace hB14:BX w14.heap w2.heap.size [(.string g.name),(.int .i64 g.params),v13]:=hB14
 have hE14:Ext w w14:=hC14.below hE13 (fun c hc=>by have:=List.mem_singleton.1 hc; omega) hE13.size
 have hzs14:=hC14.size
 have hF15:=hF11x13.chg hC14 (fun hm=>by have:=List.mem_singleton.1 hm; omega)
 have hF16:=hF12x13.chg hC14 (fun hm=>by have:=List.mem_singleton.1 hm; omega)
 have hF17:=hO13.chg ((good_owS (good_oEx 174 dg))) hC14 (fun c hc=>by have:=List.mem_singleton.1 hc; omega)
 refine lw_nil (wp_seq (wp_plain _ [2,4] rfl (q_loadA (p:=(.pointer (some ⟨w2.heap.size,0,none⟩))) (.inr rfl) [(.string g.name),(.int .i64 g.params),v13] agg55 rfl (fun wq9 hw9=>LD.of_box (BX.ext (w:=w14) hB14 hw9)) rfl zN (e_setA (vs:=[(.string g.name),(.int .i64 g.params),v13]) agg55 rfl rfl (by intro u hu; simp only [List.mem_cons,List.not_mem_nil,or_false] at hu; rcases hu with rfl | rfl | rfl <;> first | exact ⟨rfl,rfl⟩ | exact isSl_one hF17.isSlS) hF16 rfl rfl zN fun w18 hC18 hz18 hB18=>?_))))
 replace hB18:BX w18.heap w1.heap.size [(.string g.name),(.int .i64 g.params),v13]:=hB18
 have hE18:Ext w w18:=hC18.below hE14 (fun c hc=>by have:=List.mem_singleton.1 hc; omega) hE14.size
 have hzs18:=hC18.size
 have hF19:=hF15.chg hC18 (fun hm=>by have:=List.mem_singleton.1 hm; omega)
 have hF20:=hB14.chg hC18 (fun hm=>by have:=List.mem_singleton.1 hm; omega)
 have hF21:=hF17.chg ((good_owS (good_oEx 174 dg))) hC18 (fun c hc=>by have:=List.mem_singleton.1 hc; omega)
 exact lw_nil (wp_ret (post_retA (cs:=[(.string g.name),(.int .i64 g.params),v13]) rfl agg55 rfl hB18 rfl ⟨v13,rfl,hE18,((hF21.up (good_owS (good_oEx 174 dg))).low (B':=w.heap.size) oM)⟩))
theorem c_laws_toFuncS (w:World) (da:Nat) (va:Value) (a:List Fn) (ha:RP [] da w.heap va a) (hs:szP a≤1000000000) :
  Calls Tryz.prog 112 #[va] w (fun e w'=>∃ v,e = .returned v∧Ext w w'∧Fr (owS 3 (oFn 174 da) 55) w.heap.size w'.heap.size w'.heap v a):=by
 refine calls_mk [va] 23 Tryz.func112 rfl rfl sM ?_
 have hE0:Ext w w:=Ext.refl w
 have hl_va:=ha.lenle
 unfold maxLen at hl_va
 have hsz:szP a = a.length + Fn.szs a:=rfl
 refine wp_seq (wp_plain _ [0] rfl (lw_tvn 1 rfl (wp_seq (wp_plain _ [0,0,3,0] rfl (lw_tv 1 rfl (q_len (v:=va) u66 rfl ha.isSl zN (r_makeS (n:=a.length) (zs:=fnC Fn.zero (.slice none 0 0)) (z0:=Fn.zero) (good_oFn 174 da) u24 tiS55 rfl rfl rfl rfl rfl (by decide) oM (fun _ H=>oFn_zero H) zN fun v1 w1 hX1 hz1 hO1=>?_)))))))
 have hzs1:=hX1.size
 have hE1:=hE0.trans hX1
 refine lw_tvn 1 rfl (wp_seq (wp_seq (wp_plain _ [0] rfl (lw_tvn 1 rfl (wp_block ?_)))))
 refine c_loop (S:=Nat) (fun (k:Nat)=>([(4,(.int .i64 ((k :Nat):Int))),(0,va),(3,v1)]:List (Nat × Value))) (fun (k:Nat) (W:World)=>Ext w W∧Fr (owS 3 (oFn 174 da) 55) w.heap.size W.heap.size W.heap v1 (a.take k++List.replicate (a.length - k) Fn.zero)∧k≤a.length) (fun (k:Nat)=>a.length - k) 0 ⟨rfl,rfl,rfl,trivial⟩ ⟨hE1,(by simpa using hO1.up (good_owS (good_oFn 174 da))),sD⟩ ?_
 clear hE0 hO1 hz1 hX1 hzs1 hE1
 rintro k ρ2 w2 ⟨hE2,hL2_0,hp2_0⟩
 have hzs2:w.heap.size≤w2.heap.size:=hE2.size
 have hml:(a.take k++List.replicate (a.length - k) Fn.zero).length = a.length:=by rw [List.length_append,List.length_take,List.length_replicate]; omega
 refine wp_seq (wp_seq (wp_plain _ [0,0,0,0] rfl (lw_tv 2 rfl (q_len (v:=va) u66 rfl ha.isSl zN ?_))))
 by_cases hc3:((k :Nat):Int) < ((a.length :Nat):Int)
 ·
  refine q_lss true rfl rfl (decide_eq_true hc3) zN (lw_nil (c_cond_t rfl (wp_skip (wp_seq (wp_block (wp_plain _ [0,0,0,0,0,2,3,0,4] rfl ?_))))))
  have hsa:=szs_at (l:=a) (k:=k) oM
  have hsk:(a.getD k Fn.zero).sz = (a.getD k Fn.zero).name.size + Ex.sizes (a.getD k Fn.zero).outs:=rfl
  refine lw_tv 4 rfl (q_idx (v:=va) k u66 tiS185 rfl rfl ha.isSl rfl sD zN ?_)
  obtain ⟨cs4,hr4,hl4⟩:=ha.get (good_rFn da) Fn.zero (k:=k) sD
  obtain ⟨ve4,rfl,hx4⟩:=RF.of hr4
  have hln4:=hx4.rn.lenle
  unfold maxLen at hln4
  refine q_loadA (p:=eptr va k 3) (.inr rfl) [(.string ((a.getD k Fn.zero).name)),(.int .i64 ((a.getD k Fn.zero).params)),ve4] agg185 rfl (fun wq9 hw9=>hl4 wq9 (Chg.of_ext [] (hE2.trans hw9))) rfl zN (lw_call 167 [] [] [(.agg #[(.string ((a.getD k Fn.zero).name)),(.int .i64 ((a.getD k Fn.zero).params)),ve4])] rfl rfl cf167 zN (c_laws_toFunc _ da ve4 (a.getD k Fn.zero) ⟨hx4.rng,(hx4.rn.ext (good_rdS (good_rEx da)) hE2)⟩ oM) ?_)
  rintro e5 w5 ⟨v5,rfl,hX5,hO5⟩
  refine ⟨_,rfl,hX5,?_⟩
  have hzs5:=hX5.size
  have hE5:=hE2.trans hX5
  have hL2_0x5:=hL2_0.ext ((good_owS (good_oFn 174 da))) hX5
  refine q_idx (v:=v1) k u24 tiS55 rfl rfl hL2_0x5.isSlS rfl sD zN ?_
  refine e_setS (v:=v1) (cs:=[(.string ((a.getD k Fn.zero).name)),(.int .i64 ((a.getD k Fn.zero).params)),v5]) (n:=(a.getD k Fn.zero)) (j:=k) (good_oFn 174 da) agg55 rfl rfl hL2_0x5 (oFn_mk hx4.rng hO5) oM oM sD zN fun w6 F6 hC6 hz6 hF6 hO6=>?_
  have hE6:Ext w w6:=hC6.below hE5 (fun c hc=>Nat.le_trans (Nat.le_refl _) (hF6 c hc).1) hE5.size
  have hzs6:=hC6.size
  refine lw_nil (wp_plain _ [0,0,0] rfl (lw_tv 1 rfl (q_add ((k + 1 :Nat):Int) rfl rfl (w64n oM sD) zN (lw_tvn 1 rfl ?_))))
  exact ⟨(k + 1),_,rfl,⟨rfl,rfl,rfl,trivial⟩,⟨hE6,(by have h:=hO6.up (good_owS (good_oFn 174 da)); rwa [set_zero oM] at h),sD⟩,by first | omega | (dsimp only; omega)⟩
 ·
  exact q_lss false rfl rfl (decide_eq_false hc3) zN (lw_nil (c_cond_f rfl (wp_exit (t_exit (t_exit (c_exit_here (wp_seq (wp_plain _ [0,0] rfl (lw_tvn 2 rfl (wp_ret (post_ret [2] rfl v1 rfl ⟨v1,rfl,hE2,(by have h:=((hL2_0.up (good_owS (good_oFn 174 da))).low (B':=w.heap.size) oM); rwa [show a.take k++List.replicate (a.length - k) Fn.zero = a from by rw [List.take_of_length_le oM,show a.length - k = 0 from by omega]; simp] at h)⟩)))))))))))
theorem c_laws_toProgram (w:World) (dp:Nat) (vp:Value) (p:List Fn) (hp:RP [] dp w.heap vp p) (hs:szP p≤1000000000) :
  Calls Tryz.prog 43 #[(.agg #[vp])] w (fun e w'=>∃ v,e = .returned (.agg #[v])∧Ext w w'∧Fr (owS 3 (oFn 174 dp) 55) w.heap.size w'.heap.size w'.heap v p):=by
 refine calls_mk [(.agg #[vp])] 9 Tryz.func43 rfl rfl sM ?_
 have hE0:Ext w w:=Ext.refl w
 have hl_vp:=hp.lenle
 unfold maxLen at hl_vp
 refine wp_seq (wp_plain _ [3,3] rfl (r_boxA (cs:=#[vp]) rfl zN fun w1 hX1 hz1 hB1=>?_))
 have hzs1:=hX1.size
 have hE1:=hE0.trans hX1
 replace hB1:BX w1.heap w.heap.size [vp]:=hB1
 have hq3:=hB1.lt
 refine r_allocA (z:=.agg #[.slice none 0 0]) zr26 zN fun w2 hX2 hz2 hB2=>?_
 have hzs2:=hX2.size
 have hE2:=hE1.trans hX2
 have hB1x2:=hB1.ext hX2
 replace hB2:BX w2.heap w1.heap.size [(.slice none 0 0)]:=hB2
 refine lw_nil (wp_seq (wp_plain _ [3] rfl ?_))
 have hq5:=hB1x2.lt
 have hq6:=hB2.lt
 refine r_allocA (z:=.agg #[.slice none 0 0]) zr26 zN fun w4 hX4 hz4 hB4=>?_
 have hzs4:=hX4.size
 have hE4:=hE2.trans hX4
 have hB1x4:=hB1x2.ext hX4
 have hB2x4:=hB2.ext hX4
 replace hB4:BX w4.heap w2.heap.size [(.slice none 0 0)]:=hB4
 refine lw_nil (wp_seq (wp_plain _ [0,2,3,0,4] rfl (q_fldP (p:=(.pointer (some ⟨w.heap.size,0,none⟩))) (b:=w.heap.size) (o:=0) 0 fd68_0 rfl rfl zN (q_load (p:=(padd (.pointer (some ⟨w.heap.size,0,none⟩)) 0)) (.inr rfl) vp one66 rfl (hB1x4.ldp (i:=0) sM) zN (lw_call 112 [] [] [vp] rfl rfl cf112 zN (c_laws_toFuncS _ dp vp (p) (hp.ext (good_rdS (good_rFn dp)) hE4) (by exact hs)) ?_)))))
 rintro e7 w7 ⟨v7,rfl,hX7,hO7⟩
 refine ⟨_,rfl,hX7,?_⟩
 have hzs7:=hX7.size
 have hE7:=hE4.trans hX7
 have hB1x7:=hB1x4.ext hX7
 have hB2x7:=hB2x4.ext hX7
 have hB4x7:=hB4.ext hX7
 refine q_fldP (p:=(.pointer (some ⟨w2.heap.size,0,none⟩))) (b:=w2.heap.size) (o:=0) 0 fd26_0 rfl rfl zN (e_setB (k:=0) (w:=w7) sz24 rfl rfl (isSl_one hO7.isSlS) hB4x7 sM zN fun w8 hC8 hz8 hB8=>?_)
 replace hB8:BX w8.heap w2.heap.size [v7]:=hB8
 have hE8:Ext w w8:=hC8.below hE7 (fun c hc=>by have:=List.mem_singleton.1 hc; omega) hE7.size
 have hzs8:=hC8.size
 have hF9:=hB1x7.chg hC8 (fun hm=>by have:=List.mem_singleton.1 hm; omega)
 have hF10:=hB2x7.chg hC8 (fun hm=>by have:=List.mem_singleton.1 hm; omega)
 have hF11:=hO7.chg ((good_owS (good_oFn 174 dp))) hC8 (fun c hc=>by have:=List.mem_singleton.1 hc; omega)
 refine lw_nil (wp_seq (wp_plain _ [2,4] rfl (q_loadA (p:=(.pointer (some ⟨w2.heap.size,0,none⟩))) (.inr rfl) [v7] agg26 rfl (fun wq9 hw9=>LD.of_box (BX.ext (w:=w8) hB8 hw9)) rfl zN (e_setA (vs:=[v7]) agg26 rfl rfl (by intro u hu; simp only [List.mem_cons,List.not_mem_nil,or_false] at hu; rcases hu with rfl <;> first | exact ⟨rfl,rfl⟩ | exact isSl_one hF11.isSlS) hF10 rfl rfl zN fun w12 hC12 hz12 hB12=>?_))))
 replace hB12:BX w12.heap w1.heap.size [v7]:=hB12
 have hE12:Ext w w12:=hC12.below hE8 (fun c hc=>by have:=List.mem_singleton.1 hc; omega) hE8.size
 have hzs12:=hC12.size
 have hF13:=hF9.chg hC12 (fun hm=>by have:=List.mem_singleton.1 hm; omega)
 have hF14:=hB8.chg hC12 (fun hm=>by have:=List.mem_singleton.1 hm; omega)
 have hF15:=hF11.chg ((good_owS (good_oFn 174 dp))) hC12 (fun c hc=>by have:=List.mem_singleton.1 hc; omega)
 exact lw_nil (wp_ret (post_retA (cs:=[v7]) rfl agg26 rfl hB12 rfl ⟨v7,rfl,hE12,((hF15.up (good_owS (good_oFn 174 dp))).low (B':=w.heap.size) oM)⟩))
end Go.Proofs.YtnokbaiemimhjaaGreat
namespace Go.Proofs.YtnokbaiemimhjaaGreat
open Go Go.RowKit
set_option linter.unusedVariables false
set_option linter.unusedSimpArgs false
set_option maxHeartbeats 4000000
set_option maxRecDepth 100000
attribute [local irreducible] LW
theorem z100_0 {p:Prop} (h:p:=by unfold okS; first | (rw [‹(decide (((1:Nat):Int)≤((a.length:Nat):Int)) && decide (((a.length:Nat):Int)≤((13:Nat):Int))) = false›]; rfl) | (rw [‹(decide (((1:Nat):Int)≤((a.length:Nat):Int)) && decide (((a.length:Nat):Int)≤((13:Nat):Int))) = true›]; simp)):p:=h
theorem c_impl_ValidSeries (w:World) (va:Value) (a:List Int) (ha:Rd (rdL rI) w.heap va a)  :
  Calls Tryz.prog 100 #[va] w (fun e w'=>e = .returned (.bool (okS a))∧Ext w w'):=by
 refine calls_mk [va] 12 Tryz.func100 rfl rfl sM ?_
 have hE0:Ext w w:=Ext.refl w
 have hl_va:=ha.lenle
 refine wp_seq (wp_plain _ [0] rfl (lw_tvn 1 rfl (wp_seq (wp_plain _ [0,0,0,0,0,0,0,3,0,0] rfl (lw_tv 1 rfl (q_len (v:=va) u27 rfl ha.isSl zN (lw_callq 72 [] [] [(.int .i64 ((a.length :Nat):Int)),(.int .i64 ((1 :Nat):Int)),(.int .i64 ((13 :Nat):Int))] rfl rfl cf72 zN (.bool (decide (((1 :Nat):Int)≤((a.length :Nat):Int)) && decide (((a.length :Nat):Int)≤((13 :Nat):Int)))) (fun wq=>c_impl_within wq _ _ _ oM oM oM) (lw_tv 1 rfl ?_))))))))
 cases hb2:(decide (((1 :Nat):Int)≤((a.length :Nat):Int)) && decide (((a.length :Nat):Int)≤((13 :Nat):Int)))
 ·
  exact lw_tvn 6 rfl (wp_ret (post_ret [2] rfl (.bool false) rfl ⟨(ret_bool z100_0),hE0⟩))
 ·
  refine lw_tv 2 rfl (q_len (v:=va) u27 rfl ha.isSl (zS (e:=6) rfl rfl rfl) (lw_call 97 [] [] [va,(.int .i64 ((a.length :Nat):Int))] rfl rfl cf97 (zS (e:=6) rfl rfl rfl) (c_impl_areNumbers _ _ _ _ (ha.ext g1 hE0) oM) ?_))
  rintro e3 w3 ⟨rfl,hX3⟩
  refine ⟨_,rfl,hX3,?_⟩
  have hzs3:=hX3.size
  have hE3:=hE0.trans hX3
  exact lw_tvn 2 rfl (wp_ret (post_ret [2] rfl (.bool (decide (((a.length :Nat):Int) = ((a.length :Nat):Int)) && allN a)) rfl ⟨(ret_bool z100_0),hE3⟩))
theorem c_impl_areArgs (w:World) (va:Value) (a:List (List Int)) (n:Int) (ha:Rd (rdL (rdL rI)) w.heap va a) (_hn:-9223372036854775808≤n∧n≤9223372036854775807)  :
  Calls Tryz.prog 85 #[va,.int .i64 n] w (fun e w'=>e = .returned (.bool (argB a && decide (((a.length :Nat):Int) = n)))∧Ext w w'):=by
 refine calls_mk [va,.int .i64 n] 30 Tryz.func85 rfl rfl sM ?_
 have hE0:Ext w w:=Ext.refl w
 have hl_va:=ha.lenle
 refine wp_seq (wp_plain _ [0] rfl (lw_tvn 1 rfl (wp_seq (wp_seq (wp_plain _ [0,0,0] rfl (lw_tv 1 rfl (q_len (v:=va) u32 rfl ha.isSl zN (lw_tvn 1 rfl (wp_block ?_)))))))))
 refine c_loop (S:=Nat) (fun (k:Nat)=>([(9,(.int .i64 ((k :Nat):Int))),(0,va),(1,(.int .i64 n)),(7,va),(8,(.int .i64 ((a.length :Nat):Int)))]:List (Nat × Value))) (fun (k:Nat) (W:World)=>Ext w W∧k≤a.length∧((a.take k).all (serB (a.getD 0 []).length) = true)) (fun (k:Nat)=>a.length - k) 0 ⟨rfl,rfl,rfl,rfl,rfl,trivial⟩ ⟨hE0,sD,(by exact rfl)⟩ ?_
 clear hE0
 rintro k ρ1 w1 ⟨hE1,hp1_0,hq⟩
 have hzs1:w.heap.size≤w1.heap.size:=hE1.size
 refine wp_seq (wp_plain _ [0] rfl ?_)
 by_cases hc2:((k :Nat):Int) < ((a.length :Nat):Int)
 ·
  refine q_lss true rfl rfl (decide_eq_true hc2) zN (lw_nil (wp_seq (c_cond_t rfl (wp_skip (wp_seq (wp_block (wp_seq (wp_plain _ [0,2,0] rfl (q_idx (v:=va) k u32 ti27 rfl rfl ha.isSl rfl sD zN ?_)))))))))
  obtain ⟨ue3,hl3,hd3⟩:=ha.get (k:=k) [] sD
  have hln3:=hd3.lenle
  refine q_load (p:=eptr va k 1) (.inr rfl) ue3 one27 rfl (ldH_ext hE1 hl3) zN (lw_tvn 1 rfl (wp_seq (wp_plain _ [0,3,0,0,0,0,0,0,2,0,0,0] rfl (lw_tv 1 rfl (lw_call 100 [] [] [ue3] rfl rfl cf100 zN (c_impl_ValidSeries _ _ _ (hd3.ext g1 hE1)) ?_)))))
  rintro e4 w4 ⟨rfl,hX4⟩
  refine ⟨_,rfl,hX4,?_⟩
  have hzs4:=hX4.size
  have hE4:=hE1.trans hX4
  refine q_not (!(okS (a.getD k []))) rfl rfl zN (lw_tv 1 rfl ?_)
  cases hb5:(!(okS (a.getD k [])))
  ·
   refine lw_tv 1 rfl (q_len (v:=ue3) u27 rfl hd3.isSl (zS (e:=16) rfl rfl rfl) (lw_tv 1 rfl (q_idx (v:=va) 0 u32 ti27 rfl rfl ha.isSl rfl sD (zS (e:=16) rfl rfl rfl) ?_)))
   obtain ⟨ue6,hl6,hd6⟩:=ha.get (k:=0) [] sD
   have hln6:=hd6.lenle
   refine q_load (p:=eptr va 0 1) (.inr rfl) ue6 one27 rfl (ldH_ext hE4 hl6) (zS (e:=16) rfl rfl rfl) (q_len (v:=ue6) u27 rfl hd6.isSl (zS (e:=16) rfl rfl rfl) ?_)
   by_cases hc7:(((a.getD k []).length :Nat):Int)≠(((a.getD 0 []).length :Nat):Int)
   ·
    exact q_neq true rfl rfl (decide_eq_true hc7) (zS (e:=16) rfl rfl rfl) (lw_tvn 1 rfl (c_cond_t rfl (wp_seq (wp_plain _ [0] rfl (lw_tvn 1 rfl (wp_ret (b_ret (t_ret (t_ret (b_ret (t_ret (post_ret [4] rfl (.bool false) rfl ⟨(ret_bool (by unfold argB; rw [all_fail (f:=serB (a.getD 0 []).length) (k:=k) [] oM (by unfold serB; rw [Bool.and_eq_false_iff]; right; exact decide_eq_false oM)]; rfl)),hE4⟩))))))))))))
   ·
    refine q_neq false rfl rfl (decide_eq_false hc7) (zS (e:=16) rfl rfl rfl) (lw_tvn 1 rfl (c_cond_f rfl (wp_skip (wp_plain _ [0,0] rfl (q_add ((k + 1 :Nat):Int) rfl rfl (w64n oM sD) zN (lw_tvn 1 rfl ?_))))))
    exact ⟨(k + 1),_,rfl,⟨rfl,rfl,rfl,rfl,rfl,trivial⟩,⟨hE4,sD,(by exact all_succ (f:=serB (a.getD 0 []).length) [] hq oM (by unfold serB; simp only [Bool.and_eq_true,decide_eq_true_eq]; exact ⟨by simpa using ‹(!okS (a.getD k [])) = false›,by omega⟩))⟩,by first | omega | (dsimp only; omega)⟩
  ·
   exact lw_tvn 8 rfl (c_cond_t rfl (wp_seq (wp_plain _ [0] rfl (lw_tvn 1 rfl (wp_ret (b_ret (t_ret (t_ret (b_ret (t_ret (post_ret [4] rfl (.bool false) rfl ⟨(ret_bool (by unfold argB; rw [all_fail (f:=serB (a.getD 0 []).length) (k:=k) [] oM (by unfold serB; rw [Bool.and_eq_false_iff]; left; simpa using ‹(!okS (a.getD k [])) = true›)]; rfl)),hE4⟩)))))))))))
 ·
  exact q_lss false rfl rfl (decide_eq_false hc2) zN (lw_nil (wp_seq (c_cond_f rfl (wp_exit (t_exit (t_exit (c_exit_here (wp_seq (wp_plain _ [0,0,0,0,0] rfl (lw_tv 1 rfl (q_len (v:=va) u32 rfl ha.isSl zN (lw_tv 1 rfl (q_eql (decide (((a.length :Nat):Int) = n)) rfl rfl rfl zN (lw_tvn 1 rfl (wp_ret (post_ret [4] rfl (.bool (decide (((a.length :Nat):Int) = n))) rfl ⟨(ret_bool (by unfold argB; rw [all_done hq oM,Bool.true_and])),hE1⟩))))))))))))))))
end Go.Proofs.YtnokbaiemimhjaaGreat
namespace Go.Proofs.YtnokbaiemimhjaaGreat
open Go Go.RowKit
set_option linter.unusedVariables false
set_option linter.unusedSimpArgs false
set_option maxHeartbeats 4000000
set_option maxRecDepth 100000
attribute [local irreducible] LW
theorem c_unitG (w:World) (n:Nat) (vp:Value) (ps:List Int) (_hn:n≤1000000000000) (hps:Rd (rdL rI) w.heap vp ps) (hn:n≤1000) (hk:∀ j,j < ps.length→0≤ps.getD j 0∧ps.getD j 0 < ((n :Nat):Int)) :
  Calls Tryz.prog 77 #[.int .i64 ((n :Nat):Int),vp] w (fun e w'=>∃ v0:Value,e = .returned (v0)∧Ext w w'∧Fr (owL rI 2) w.heap.size w'.heap.size w'.heap v0 (uniG n ps ps.length)):=by
 refine calls_mk [.int .i64 ((n :Nat):Int),vp] 27 Tryz.func77 rfl rfl sM ?_
 have hE0:Ext w w:=Ext.refl w
 have hl_vp:=hps.lenle
 refine wp_seq (wp_plain _ [0] rfl (lw_tvn 1 rfl (wp_seq (wp_plain _ [0,3,0] rfl (lw_tv 1 rfl (r_make (n:=n) u27 ti2 rfl rfl rfl sD zN fun v1 w1 hX1 hz1 hO1=>?_))))))
 have hzs1:w.heap.size≤w1.heap.size:=hX1.size
 have hE1:Ext w w1:=hE0.trans hX1
 refine lw_tvn 1 rfl (wp_seq (wp_seq (wp_plain _ [0,0,0] rfl (lw_tv 1 rfl (q_len (v:=vp) u27 rfl hps.isSl zN (lw_tvn 1 rfl (wp_block (c_loop (S:=Nat) (fun (j:Nat)=>([(12,(.int .i64 ((j :Nat):Int))),(5,v1),(10,vp),(11,(.int .i64 ((ps.length :Nat):Int)))]:List (Nat × Value))) (fun (j:Nat) (W:World)=>Ext w W∧Fr (owL rI 2) w.heap.size W.heap.size W.heap v1 (uniG n ps j)∧j≤ps.length) (fun (j:Nat)=>ps.length - j) 0 ⟨rfl,rfl,rfl,rfl,trivial⟩ ⟨hE1,(by exact hO1.up o1),oM⟩ ?_))))))))
 clear hE0 hO1 hz1 hX1 hzs1 hE1
 rintro j ρ2 w2 ⟨hE2,hL2_0,hp2_0⟩
 have hzs2:w.heap.size≤w2.heap.size:=hE2.size
 have hul:=uniG_len n ps j
 refine wp_seq (wp_plain _ [0] rfl ?_)
 by_cases hc3:((j :Nat):Int) < ((ps.length :Nat):Int)
 ·
  refine q_lss true rfl rfl (decide_eq_true hc3) zN (lw_nil (wp_seq (c_cond_t rfl (wp_skip (wp_seq (wp_block (wp_seq (wp_plain _ [0,2,0] rfl ?_))))))))
  have hkj:=hk j oM
  refine q_idx (v:=vp) j u27 ti2 rfl rfl hps.isSl rfl sD zN ?_
  refine q_load (p:=eptr vp j 1) (.inr rfl) (.int .i64 (ps.getD j 0)) one2 rfl (ldH_ext hE2 (hps.getI sD).1) zN (lw_tvn 1 rfl (wp_plain _ [0,0,0,0,0,2,0,0,0,4] rfl (lw_tv 4 rfl ?_)))
  refine q_idx (v:=v1) ((ps.getD j 0).toNat) u27 ti2 rfl rfl hL2_0.isSl oM sD zN ?_
  refine q_load (p:=eptr v1 ((ps.getD j 0).toNat) 1) (.inr rfl) (.int .i64 ((uniG n ps j).getD ((ps.getD j 0).toNat) 0)) one2 rfl (hL2_0.rd1.getI sD).1 zN ?_
  have hgn:=allN_get (uniG_num n ps j) (ps.getD j 0).toNat
  refine q_add (((uniG n ps j).getD ((ps.getD j 0).toNat) 0) + ((1 :Nat):Int)) rfl rfl (w64 sD sD) zN ?_
  refine q_rem (md (((uniG n ps j).getD ((ps.getD j 0).toNat) 0) + ((1 :Nat):Int))) rfl rfl (by decide) (Int.tmod_eq_emod_of_nonneg oM) zN (q_idx (v:=v1) ((ps.getD j 0).toNat) u27 ti2 rfl rfl hL2_0.isSl oM sD zN ?_)
  refine e_setI (v:=v1) (w:=w2) sz2 rfl rfl (md_rng _) hL2_0 sD zN fun w4 F4 hC4 hz4 hF4 hO4=>?_
  have hE4:Ext w w4:=hC4.below hE2 (fun c hc=>Nat.le_trans (Nat.le_refl _) (hF4 c hc).1) hE2.size
  have hzs4:w2.heap.size≤w4.heap.size:=hC4.size
  exact lw_nil (wp_plain _ [0,0] rfl (q_add ((j + 1 :Nat):Int) rfl rfl (w64n oM sD) zN (lw_tvn 1 rfl ⟨(j + 1),_,rfl,⟨rfl,rfl,rfl,rfl,trivial⟩,⟨hE4,(by exact hO4.up o1),oM⟩,by first | omega | (dsimp only; omega)⟩)))
 ·
  exact q_lss false rfl rfl (decide_eq_false hc3) zN (lw_nil (wp_seq (c_cond_f rfl (wp_exit (t_exit (t_exit (c_exit_here (wp_seq (wp_plain _ [0,0] rfl (lw_tvn 2 rfl (wp_ret (post_ret [4] rfl v1 rfl ⟨v1,rfl,hE2,(by have h:=hL2_0.up o1; rw [show j = ps.length from by omega] at h; exact h)⟩))))))))))))
end Go.Proofs.YtnokbaiemimhjaaGreat
namespace Go.Proofs.YtnokbaiemimhjaaGreat
open Go Go.RowKit
set_option linter.unusedVariables false
set_option linter.unusedSimpArgs false
set_option maxHeartbeats 4000000
set_option maxRecDepth 100000
attribute [local irreducible] LW
theorem z217_0 {p:Prop} (h:p:=by simp only [List.length_cons,List.length_nil]; unfold maxLen; omega):p:=h
theorem z217_1 {p:Prop} (h:p:=by simp only [List.length_cons,List.length_nil]; omega):p:=h
theorem z217_2 {p:Prop} (h:p:=by rw [put_vl]; omega):p:=h
theorem c_impl_recorder_put (w:World) (S:List Nat) (g:Nat) (vp:Value) (ip:Int) (s0:Nat) (c0:Int) (T:Tp) (c:Ins) (v:Int) (hS:∀ b∈S,b < w.heap.size) (hgS:g∈S) (hR0:RcS 231 255 2 S g w.heap vp ip T s0 c0) (_hip:i64 ip) (hln:T.code.length≤4000∧T.vals.length≤4000) (hc:insR c) (_hv:-9223372036854775808≤v∧v≤9223372036854775807)  :
  Calls Tryz.prog 217 #[.pointer (some ⟨g,0,none⟩),(.agg #[(.int .i64 c.op),(.int .i64 c.a),(.int .i64 c.b),(.int .i64 c.num)]),.int .i64 v] w (fun e w'=>∃ S':List Nat,e = .returned (.int .i64 ((T.vals.length :Nat):Int))∧Grw S S' w w'∧RcS 231 255 2 S' g w'.heap vp ip (T.put c v) s0 c0):=by
 refine calls_mk [.pointer (some ⟨g,0,none⟩),(.agg #[(.int .i64 c.op),(.int .i64 c.a),(.int .i64 c.b),(.int .i64 c.num)]),.int .i64 v] 35 Tryz.func217 rfl rfl sM ?_
 have hE0:Chg S w w:=Chg.refl S w
 obtain ⟨rc0,rg0,rv0,hB0,hM0⟩:=hR0
 have hgl:=hB0.lt
 have hG0:Grw S S w w:=Grw.refl hS
 have hml:=RcM.len hM0
 refine wp_seq (wp_plain _ [3,0] rfl ?_)
 have hq2:=hB0.lt
 refine r_boxA (cs:=#[(.int .i64 c.op),(.int .i64 c.a),(.int .i64 c.b),(.int .i64 c.num)]) rfl zN fun w1 hX1 hz1 hB1=>?_
 have hzs1:w.heap.size≤w1.heap.size:=hX1.size
 have hE1:Chg S w w1:=hE0.ext hX1
 have hB0x1:=hB0.ext hX1
 have hM3:=RcM.ext hM0 hX1
 have hG3:=hG0.ext hX1
 replace hB1:BX w1.heap w.heap.size [(.int .i64 c.op),(.int .i64 c.a),(.int .i64 c.b),(.int .i64 c.num)]:=hB1
 refine lw_tvn 1 rfl (wp_seq ?_)
 obtain ⟨Fc,Fg,Fv,hOc,hOg,hOv,hdj,hgn,hSc,hSg,hSv⟩:=id hM3
 letI:JR:=jrC (Fc++Fv)
 refine Jx.wp_drawS _ [0,0,0,0,0,0,1,1,3,3,0,0,0,1,0,3,3,0,0,0,4,0,0,4] [0,1,2,3,4,5,6,7,10,11,12,13,14] 8 9 [15,16,17,18,19,20,21,22,23] 15 [9,16,17,18,19,20,21,22,23] 15 [8,9,16,17,18,19,20,21,22,23] [_,_,_,_,_,_,_,_,_,_,_,_,_] [0,0,0,0,0,0,1,1,0,0,0,1,0] _ _ [_,_,_,_,_,_,_,_,_] [3,3,0,0,0,4,0,0,4] _ [_,_,_,_,_,_,_,_,_] [3,3,0,0,0,4,0,0,4] _ [_,_,_,_,_,_,_,_,_,_] [3,3,3,0,0,0,4,0,0,4] mixed (by kernel_rfl) ⟨rfl,rfl,⟨rfl,rfl,⟨rfl,rfl,⟨rfl,rfl,⟨rfl,rfl,⟨rfl,rfl,⟨rfl,rfl,⟨rfl,rfl,⟨rfl,rfl,⟨rfl,rfl,⟨rfl,rfl,⟨rfl,rfl,⟨rfl,rfl,trivial⟩⟩⟩⟩⟩⟩⟩⟩⟩⟩⟩⟩⟩ ⟨rfl,rfl,trivial⟩ ⟨rfl,rfl,⟨rfl,rfl,⟨rfl,rfl,⟨rfl,rfl,⟨rfl,rfl,⟨rfl,rfl,⟨rfl,rfl,⟨rfl,rfl,⟨rfl,rfl,⟨rfl,rfl,trivial⟩⟩⟩⟩⟩⟩⟩⟩⟩⟩ ⟨rfl,rfl,⟨rfl,rfl,⟨rfl,rfl,⟨rfl,rfl,⟨rfl,rfl,⟨rfl,rfl,⟨rfl,rfl,⟨rfl,rfl,⟨rfl,rfl,⟨rfl,rfl,trivial⟩⟩⟩⟩⟩⟩⟩⟩⟩⟩ ⟨rfl,rfl,⟨rfl,rfl,⟨rfl,rfl,⟨rfl,rfl,⟨rfl,rfl,⟨rfl,rfl,⟨rfl,rfl,⟨rfl,rfl,⟨rfl,rfl,⟨rfl,rfl,⟨rfl,rfl,trivial⟩⟩⟩⟩⟩⟩⟩⟩⟩⟩⟩ ?_
 refine Jx.q_move (.pointer (some ⟨g,0,none⟩)) rfl zN (Jx.q_move (.pointer (some ⟨g,0,none⟩)) rfl zN (Jx.q_move (.pointer (some ⟨g,0,none⟩)) rfl zN (Jx.j1 (q_nil rfl zN (lw_nil ?_)))))
 refine Jx.q_fldP (p:=(.pointer (some ⟨g,0,none⟩))) (b:=g) (o:=0) 1 fd228_1 rfl rfl zN (Jx.q_fldP (p:=(padd (.pointer (some ⟨g,0,none⟩)) 1)) (b:=g) (o:=1) 1 fd199_1 rfl rfl zN (Jx.q_loadJ (p:=(padd (padd (.pointer (some ⟨g,0,none⟩)) 1) 1)) rc0 one196 rfl (fun wj hj=>(BX.chg (w:=w1.drew) (F:=Fc++Fv) hB0x1 hj (fun hm=>(List.mem_append.1 hm).elim hgn.1 hgn.2.2)).ldp (i:=2) sM) zN (Jx.q_loadAJ (p:=(.pointer (some ⟨w.heap.size,0,none⟩))) [(.int .i64 c.op),(.int .i64 c.a),(.int .i64 c.b),(.int .i64 c.num)] agg231 rfl (fun wj hj=>LD.of_box (BX.chg (w:=w1.drew) (F:=Fc++Fv) hB1 hj (fun hm=>(List.mem_append.1 hm).elim (fun h9=>by have:=hS _ (hSc _ h9); omega) (fun h9=>by have:=hS _ (hSv _ h9); omega)))) rfl zN (Jx.q_move (.pointer (some ⟨g,0,none⟩)) rfl zN ?_))))
 refine Jx.j1 (q_nil rfl zN (lw_nil ?_))
 refine Jx.q_fldP (p:=(.pointer (some ⟨g,0,none⟩))) (b:=g) (o:=0) 5 fd228_2 rfl rfl zN (Jx.q_loadJ (p:=(padd (.pointer (some ⟨g,0,none⟩)) 5)) rv0 one27 rfl (fun wj hj=>(BX.chg (w:=w1.drew) (F:=Fc++Fv) hB0x1 hj (fun hm=>(List.mem_append.1 hm).elim hgn.1 hgn.2.2)).ldp (i:=5) sM) zN (Jx.q_move (.int .i64 v) rfl zN (Jx.lw_nil ⟨?_,?_⟩)))
 ·
  refine Jx.lift3m (r_oneS (cs:=[(.int .i64 c.op),(.int .i64 c.a),(.int .i64 c.b),(.int .i64 c.num)]) (y:=c) (B:=w1.heap.size) good_rIn u196 tiS231 rfl (by decide) rfl (frN_in (U:=w1.heap.size) hc) (Nat.le_refl _) zN ?_)
  intro v4 w4 hX4 hz4 hO4
  refine lw_nil ?_
  have hzs4:w1.heap.size≤w4.heap.size:=hX4.size
  have hOc4:=Ow.ext (w:=w1.drew) (good_owS good_rIn) hOc hX4
  have hOv4:=Ow.ext (w:=w1.drew) (good_owL good_rI) hOv hX4
  have hOg4:=Ow.ext (w:=w1.drew) (good_owS good_rGd) hOg hX4
  have hB4:=BX.ext (w:=w1.drew) hB0x1 hX4
  have hE4:Chg S w w4:=hE1.drew.ext hX4
  have hG4:=hG3.drew.ext hX4
  refine Jx.lw_nil ⟨?_,?_⟩
  ·
   refine Jx.lift3 (e_appT (v:=rc0) (a:=v4) good_rIn u196 tiS231 rfl (by decide) rfl rfl hOc4 hO4 oM (Nat.zero_le _) (Nat.zero_le _) oM (by unfold maxLen; omega) zN ?_)
   intro v5 w5 F5 hC5 hO5 hU5
   refine lw_nil ⟨Chg.sub hC5 (fun b hb=>List.mem_append_left _ hb),?_⟩
   have hzs5:w4.heap.size≤w5.heap.size:=hC5.size
   have hOv5:=hOv4.keep (good_owL good_rI) hC5 (fun b hb hm=>hdj.2.1 b hb hm)
   have hOg5:=hOg4.keep (good_owS good_rGd) hC5 (fun b hb hm=>hdj.1 b hb hm)
   have hB5:=BX.chg hB4 hC5 hgn.1
   have hE5:Chg S w w5:=hE4.trans (hC5.sub hSc)
   have hG5:=hG4.more hC5 hSc
   refine Jx.lift3m (r_one (u:=(.int .i64 v)) (B:=w5.heap.size) good_rI u27 ti2 rfl rfl (frI w5.heap.size w5.heap.size _ _ _hv) (Nat.le_refl _) zN ?_)
   intro v6 w6 hX6 hz6 hO6
   refine lw_nil ?_
   have hzs6:w5.heap.size≤w6.heap.size:=hX6.size
   have hOc6:=Ow.ext (w:=w5) (good_owS good_rIn) hO5 hX6
   have hOv6:=Ow.ext (w:=w5) (good_owL good_rI) hOv5 hX6
   have hOg6:=Ow.ext (w:=w5) (good_owS good_rGd) hOg5 hX6
   have hB6:=BX.ext (w:=w5) hB5 hX6
   have hE6:Chg S w w6:=hE5.ext hX6
   have hG6:=hG5.ext hX6
   refine Jx.lift3 (e_appJ (v:=rv0) (a:=v6) u27 ti2 rfl rfl rfl hOv6 hO6.rd1 (Nat.zero_le _) z217_1 z217_0 zN ?_)
   intro v7 w7 F7 hC7 hO7 hU7
   refine lw_nil ⟨Chg.sub hC7 (fun b hb=>List.mem_append_right _ hb),?_⟩
   have hzs7:w6.heap.size≤w7.heap.size:=hC7.size
   have hOc7:=hOc6.keep (good_owS good_rIn) hC7 (fun b hb hm=>by rcases hU5 b hm with h9 | h9 | h9; exact hdj.2.1 b h9 hb; (have:=hOv.high b hb; omega); (have:=hOv.high b hb; omega))
   have hOg7:=hOg6.keep (good_owS good_rGd) hC7 (fun b hb hm=>hdj.2.2 b hm hb)
   have hB7:=BX.chg hB6 hC7 hgn.2.2
   have hE7:Chg S w w7:=hE6.trans (hC7.sub hSv)
   have hG7:=hG6.more hC7 hSv
   refine Jx.tail rfl ?_
   have hMp8:RcM 231 255 2 (F5++(F7++S)) g w7.heap v5 rg0 v7 (T.put c v):=⟨F5,Fg,F7,hOc7.up oM,hOg7.up oM,hO7,⟨fun b hb hm=>by rcases hU5 b hb with h9 | h9 | h9; exact hdj.1 b h9 hm; (have:=hOg.high b hm; omega); (have:=hOg.high b hm; omega),fun b hb hm=>by rcases hU7 b hm with h8 | h8; (rcases hU5 b hb with h9 | h9 | h9; exact hdj.2.1 b h9 h8; (have:=hOv.high b h8; omega); (have:=hOv.high b h8; omega)); (have:=hOc7.high b hb; omega),fun b hm hb=>by rcases hU7 b hb with h8 | h8; exact hdj.2.2 b hm h8; (have:=hOg.high b hm; omega)⟩,⟨fun hm=>by rcases hU5 g hm with h9 | h9 | h9; exact hgn.1 h9; omega; omega,hgn.2.1,fun hm=>by rcases hU7 g hm with h9 | h9; exact hgn.2.2 h9; omega⟩,fun b hb=>List.mem_append_left _ hb,fun b hb=>List.mem_append_right _ (List.mem_append_right _ (hSg b hb)),fun b hb=>List.mem_append_right _ (List.mem_append_left _ hb)⟩
   have hGp8:Grw S (F5++(F7++S)) w w7:=⟨fun b hb=>List.mem_append_right _ (List.mem_append_right _ hb),fun b hb=>by rcases List.mem_append.1 hb with hb | hb; (rcases hU5 b hb with h9 | h9 | h9; exact .inl (hSc b h9); (right; omega); (right; omega)); rcases List.mem_append.1 hb with hb | hb; (rcases hU7 b hb with h9 | h9; exact .inl (hSv b h9); (right; omega)); exact .inl hb,fun b hb=>by rcases List.mem_append.1 hb with hb | hb; (have:=hOc7.high b hb; omega); rcases List.mem_append.1 hb with hb | hb; (exact hO7.high b hb); (have:=hS b hb; omega),hE7⟩
   refine q_nil rfl zN (q_fldP (p:=(.pointer (some ⟨g,0,none⟩))) (b:=g) (o:=0) 1 fd228_1 rfl rfl zN (q_fldP (p:=(padd (.pointer (some ⟨g,0,none⟩)) 1)) (b:=g) (o:=1) 1 fd199_1 rfl rfl zN (e_setB (k:=2) (w:=w7) sz196 rfl rfl (isSl_one hMp8.slc) hB7 sM zN fun w9 hC9 hz9 hB9=>?_)))
   replace hB9:BX w9.heap g [vp,(.int .i64 ip),v5,rg0,(.slice none 0 0),rv0,(.int .i64 ((s0 :Nat):Int)),(.int .i64 c0)]:=hB9
   have hE9:Chg S w w9:=hE7.trans (hC9.sub (subS hgS))
   have hM9:=RcM.chg hMp8 hC9
   have hG9:=hGp8.set hgS hC9
   have hzs9:w7.heap.size≤w9.heap.size:=hC9.size
   refine q_nil rfl zN (q_fldP (p:=(.pointer (some ⟨g,0,none⟩))) (b:=g) (o:=0) 5 fd228_2 rfl rfl zN (e_setB (k:=5) (w:=w9) sz27 rfl rfl (isSl_one hMp8.slv) hB9 sM zN fun w13 hC13 hz13 hB13=>?_))
   replace hB13:BX w13.heap g [vp,(.int .i64 ip),v5,rg0,(.slice none 0 0),v7,(.int .i64 ((s0 :Nat):Int)),(.int .i64 c0)]:=hB13
   have hE13:Chg S w w13:=hE9.trans (hC13.sub (subS hgS))
   have hM13:=RcM.chg hM9 hC13
   have hG13:=hG9.set hgS hC13
   have hzs13:w9.heap.size≤w13.heap.size:=hC13.size
   exact lw_nil (wp_seq (wp_plain _ [0,0,0,2,0,0,0] rfl (lw_tv 1 rfl (q_nil rfl zN (q_fldP (p:=(.pointer (some ⟨g,0,none⟩))) (b:=g) (o:=0) 5 fd228_2 rfl rfl zN (q_load (p:=(padd (.pointer (some ⟨g,0,none⟩)) 5)) (.inr rfl) v7 one27 rfl (hB13.ldp (i:=5) sM) zN (q_len (v:=v7) u27 rfl (RcM.slv hM13) zN (q_sub ((T.vals.length :Nat):Int) rfl rfl (w64n z217_2 z217_2) zN (lw_tvn 1 rfl (wp_ret (post_ret [6] rfl (.int .i64 ((T.vals.length :Nat):Int)) rfl ⟨_,(by rfl),hG13,⟨_,_,_,hB13,hM13⟩⟩)))))))))))
  ·
   refine Jx.lift3m (r_one (u:=(.int .i64 v)) (B:=w4.heap.size) good_rI u27 ti2 rfl rfl (frI w4.heap.size w4.heap.size _ _ _hv) (Nat.le_refl _) zN ?_)
   intro v17 w17 hX17 hz17 hO17
   refine lw_nil ?_
   have hzs17:w4.heap.size≤w17.heap.size:=hX17.size
   have hOc17:=Ow.ext (w:=w4) (good_owS good_rIn) hOc4 hX17
   have hOv17:=Ow.ext (w:=w4) (good_owL good_rI) hOv4 hX17
   have hOg17:=Ow.ext (w:=w4) (good_owS good_rGd) hOg4 hX17
   have hN17:=hO4.ext (good_owS good_rIn) hX17
   have hB17:=BX.ext (w:=w4) hB4 hX17
   have hE17:Chg S w w17:=hE4.ext hX17
   have hG17:=hG4.ext hX17
   refine Jx.lift3 (e_appT (v:=rc0) (a:=v4) good_rIn u196 tiS231 rfl (by decide) rfl rfl hOc17 hN17 oM (Nat.zero_le _) (Nat.zero_le _) oM (by unfold maxLen; omega) zN ?_)
   intro v18 w18 F18 hC18 hO18 hU18
   refine lw_nil ⟨Chg.sub hC18 (fun b hb=>List.mem_append_left _ hb),?_⟩
   have hzs18:w17.heap.size≤w18.heap.size:=hC18.size
   have hOv18:=hOv17.keep (good_owL good_rI) hC18 (fun b hb hm=>hdj.2.1 b hb hm)
   have hOg18:=hOg17.keep (good_owS good_rGd) hC18 (fun b hb hm=>hdj.1 b hb hm)
   have hN18:=hO17.chg (o1) hC18 (fun b hb=>by have:=hOc.high b hb; omega)
   have hB18:=BX.chg hB17 hC18 hgn.1
   have hE18:Chg S w w18:=hE17.trans (hC18.sub hSc)
   have hG18:=hG17.more hC18 hSc
   refine Jx.lift3 (e_appJ (v:=rv0) (a:=v17) u27 ti2 rfl rfl rfl hOv18 hN18.rd1 (Nat.zero_le _) z217_1 z217_0 zN ?_)
   intro v19 w19 F19 hC19 hO19 hU19
   refine lw_nil ⟨Chg.sub hC19 (fun b hb=>List.mem_append_right _ hb),?_⟩
   have hzs19:w18.heap.size≤w19.heap.size:=hC19.size
   have hOc19:=hO18.keep (good_owS good_rIn) hC19 (fun b hb hm=>by rcases hU18 b hm with h9 | h9 | h9; exact hdj.2.1 b h9 hb; (have:=hOv.high b hb; omega); (have:=hOv.high b hb; omega))
   have hOg19:=hOg18.keep (good_owS good_rGd) hC19 (fun b hb hm=>hdj.2.2 b hm hb)
   have hB19:=BX.chg hB18 hC19 hgn.2.2
   have hE19:Chg S w w19:=hE18.trans (hC19.sub hSv)
   have hG19:=hG18.more hC19 hSv
   refine Jx.tail rfl ?_
   have hMp20:RcM 231 255 2 (F18++(F19++S)) g w19.heap v18 rg0 v19 (T.put c v):=⟨F18,Fg,F19,hOc19.up oM,hOg19.up oM,hO19,⟨fun b hb hm=>by rcases hU18 b hb with h9 | h9 | h9; exact hdj.1 b h9 hm; (have:=hOg.high b hm; omega); (have:=hOg.high b hm; omega),fun b hb hm=>by rcases hU19 b hm with h8 | h8; (rcases hU18 b hb with h9 | h9 | h9; exact hdj.2.1 b h9 h8; (have:=hOv.high b h8; omega); (have:=hOv.high b h8; omega)); (have:=hOc19.high b hb; omega),fun b hm hb=>by rcases hU19 b hb with h8 | h8; exact hdj.2.2 b hm h8; (have:=hOg.high b hm; omega)⟩,⟨fun hm=>by rcases hU18 g hm with h9 | h9 | h9; exact hgn.1 h9; omega; omega,hgn.2.1,fun hm=>by rcases hU19 g hm with h9 | h9; exact hgn.2.2 h9; omega⟩,fun b hb=>List.mem_append_left _ hb,fun b hb=>List.mem_append_right _ (List.mem_append_right _ (hSg b hb)),fun b hb=>List.mem_append_right _ (List.mem_append_left _ hb)⟩
   have hGp20:Grw S (F18++(F19++S)) w w19:=⟨fun b hb=>List.mem_append_right _ (List.mem_append_right _ hb),fun b hb=>by rcases List.mem_append.1 hb with hb | hb; (rcases hU18 b hb with h9 | h9 | h9; exact .inl (hSc b h9); (right; omega); (right; omega)); rcases List.mem_append.1 hb with hb | hb; (rcases hU19 b hb with h9 | h9; exact .inl (hSv b h9); (right; omega)); exact .inl hb,fun b hb=>by rcases List.mem_append.1 hb with hb | hb; (have:=hOc19.high b hb; omega); rcases List.mem_append.1 hb with hb | hb; (exact hO19.high b hb); (have:=hS b hb; omega),hE19⟩
   refine q_nil rfl zN (q_fldP (p:=(.pointer (some ⟨g,0,none⟩))) (b:=g) (o:=0) 1 fd228_1 rfl rfl zN (q_fldP (p:=(padd (.pointer (some ⟨g,0,none⟩)) 1)) (b:=g) (o:=1) 1 fd199_1 rfl rfl zN (e_setB (k:=2) (w:=w19) sz196 rfl rfl (isSl_one hMp20.slc) hB19 sM zN fun w21 hC21 hz21 hB21=>?_)))
   replace hB21:BX w21.heap g [vp,(.int .i64 ip),v18,rg0,(.slice none 0 0),rv0,(.int .i64 ((s0 :Nat):Int)),(.int .i64 c0)]:=hB21
   have hE21:Chg S w w21:=hE19.trans (hC21.sub (subS hgS))
   have hM21:=RcM.chg hMp20 hC21
   have hG21:=hGp20.set hgS hC21
   have hzs21:w19.heap.size≤w21.heap.size:=hC21.size
   refine q_nil rfl zN (q_fldP (p:=(.pointer (some ⟨g,0,none⟩))) (b:=g) (o:=0) 5 fd228_2 rfl rfl zN (e_setB (k:=5) (w:=w21) sz27 rfl rfl (isSl_one hMp20.slv) hB21 sM zN fun w25 hC25 hz25 hB25=>?_))
   replace hB25:BX w25.heap g [vp,(.int .i64 ip),v18,rg0,(.slice none 0 0),v19,(.int .i64 ((s0 :Nat):Int)),(.int .i64 c0)]:=hB25
   have hE25:Chg S w w25:=hE21.trans (hC25.sub (subS hgS))
   have hM25:=RcM.chg hM21 hC25
   have hG25:=hG21.set hgS hC25
   have hzs25:w21.heap.size≤w25.heap.size:=hC25.size
   exact lw_nil (wp_seq (wp_plain _ [0,0,0,2,0,0,0] rfl (lw_tv 1 rfl (q_nil rfl zN (q_fldP (p:=(.pointer (some ⟨g,0,none⟩))) (b:=g) (o:=0) 5 fd228_2 rfl rfl zN (q_load (p:=(padd (.pointer (some ⟨g,0,none⟩)) 5)) (.inr rfl) v19 one27 rfl (hB25.ldp (i:=5) sM) zN (q_len (v:=v19) u27 rfl (RcM.slv hM25) zN (q_sub ((T.vals.length :Nat):Int) rfl rfl (w64n z217_2 z217_2) zN (lw_tvn 1 rfl (wp_ret (post_ret [6] rfl (.int .i64 ((T.vals.length :Nat):Int)) rfl ⟨_,(by rfl),hG25,⟨_,_,_,hB25,hM25⟩⟩)))))))))))
 ·
  refine Jx.lift3m (r_one (u:=(.int .i64 v)) (B:=w1.heap.size) good_rI u27 ti2 rfl rfl (frI w1.heap.size w1.heap.size _ _ _hv) (Nat.le_refl _) zN ?_)
  intro v29 w29 hX29 hz29 hO29
  refine lw_nil ?_
  have hzs29:w1.heap.size≤w29.heap.size:=hX29.size
  have hOc29:=Ow.ext (w:=w1.drew) (good_owS good_rIn) hOc hX29
  have hOv29:=Ow.ext (w:=w1.drew) (good_owL good_rI) hOv hX29
  have hOg29:=Ow.ext (w:=w1.drew) (good_owS good_rGd) hOg hX29
  have hB29:=BX.ext (w:=w1.drew) hB0x1 hX29
  have hE29:Chg S w w29:=hE1.drew.ext hX29
  have hG29:=hG3.drew.ext hX29
  refine Jx.lift3m (r_oneS (cs:=[(.int .i64 c.op),(.int .i64 c.a),(.int .i64 c.b),(.int .i64 c.num)]) (y:=c) (B:=w29.heap.size) good_rIn u196 tiS231 rfl (by decide) rfl (frN_in (U:=w29.heap.size) hc) (Nat.le_refl _) zN ?_)
  intro v30 w30 hX30 hz30 hO30
  refine lw_nil ?_
  have hzs30:w29.heap.size≤w30.heap.size:=hX30.size
  have hOc30:=Ow.ext (w:=w29) (good_owS good_rIn) hOc29 hX30
  have hOv30:=Ow.ext (w:=w29) (good_owL good_rI) hOv29 hX30
  have hOg30:=Ow.ext (w:=w29) (good_owS good_rGd) hOg29 hX30
  have hN30:=hO29.ext (o1) hX30
  have hB30:=BX.ext (w:=w29) hB29 hX30
  have hE30:Chg S w w30:=hE29.ext hX30
  have hG30:=hG29.ext hX30
  refine Jx.lift3 (e_appT (v:=rc0) (a:=v30) good_rIn u196 tiS231 rfl (by decide) rfl rfl hOc30 hO30 oM (Nat.zero_le _) (Nat.zero_le _) oM (by unfold maxLen; omega) zN ?_)
  intro v31 w31 F31 hC31 hO31 hU31
  refine lw_nil ⟨Chg.sub hC31 (fun b hb=>List.mem_append_left _ hb),?_⟩
  have hzs31:w30.heap.size≤w31.heap.size:=hC31.size
  have hOv31:=hOv30.keep (good_owL good_rI) hC31 (fun b hb hm=>hdj.2.1 b hb hm)
  have hOg31:=hOg30.keep (good_owS good_rGd) hC31 (fun b hb hm=>hdj.1 b hb hm)
  have hN31:=hN30.chg (o1) hC31 (fun b hb=>by have:=hOc.high b hb; omega)
  have hB31:=BX.chg hB30 hC31 hgn.1
  have hE31:Chg S w w31:=hE30.trans (hC31.sub hSc)
  have hG31:=hG30.more hC31 hSc
  refine Jx.lift3 (e_appJ (v:=rv0) (a:=v29) u27 ti2 rfl rfl rfl hOv31 hN31.rd1 (Nat.zero_le _) z217_1 z217_0 zN ?_)
  intro v32 w32 F32 hC32 hO32 hU32
  refine lw_nil ⟨Chg.sub hC32 (fun b hb=>List.mem_append_right _ hb),?_⟩
  have hzs32:w31.heap.size≤w32.heap.size:=hC32.size
  have hOc32:=hO31.keep (good_owS good_rIn) hC32 (fun b hb hm=>by rcases hU31 b hm with h9 | h9 | h9; exact hdj.2.1 b h9 hb; (have:=hOv.high b hb; omega); (have:=hOv.high b hb; omega))
  have hOg32:=hOg31.keep (good_owS good_rGd) hC32 (fun b hb hm=>hdj.2.2 b hm hb)
  have hB32:=BX.chg hB31 hC32 hgn.2.2
  have hE32:Chg S w w32:=hE31.trans (hC32.sub hSv)
  have hG32:=hG31.more hC32 hSv
  refine Jx.tail rfl ?_
  have hMp33:RcM 231 255 2 (F31++(F32++S)) g w32.heap v31 rg0 v32 (T.put c v):=⟨F31,Fg,F32,hOc32.up oM,hOg32.up oM,hO32,⟨fun b hb hm=>by rcases hU31 b hb with h9 | h9 | h9; exact hdj.1 b h9 hm; (have:=hOg.high b hm; omega); (have:=hOg.high b hm; omega),fun b hb hm=>by rcases hU32 b hm with h8 | h8; (rcases hU31 b hb with h9 | h9 | h9; exact hdj.2.1 b h9 h8; (have:=hOv.high b h8; omega); (have:=hOv.high b h8; omega)); (have:=hOc32.high b hb; omega),fun b hm hb=>by rcases hU32 b hb with h8 | h8; exact hdj.2.2 b hm h8; (have:=hOg.high b hm; omega)⟩,⟨fun hm=>by rcases hU31 g hm with h9 | h9 | h9; exact hgn.1 h9; omega; omega,hgn.2.1,fun hm=>by rcases hU32 g hm with h9 | h9; exact hgn.2.2 h9; omega⟩,fun b hb=>List.mem_append_left _ hb,fun b hb=>List.mem_append_right _ (List.mem_append_right _ (hSg b hb)),fun b hb=>List.mem_append_right _ (List.mem_append_left _ hb)⟩
  have hGp33:Grw S (F31++(F32++S)) w w32:=⟨fun b hb=>List.mem_append_right _ (List.mem_append_right _ hb),fun b hb=>by rcases List.mem_append.1 hb with hb | hb; (rcases hU31 b hb with h9 | h9 | h9; exact .inl (hSc b h9); (right; omega); (right; omega)); rcases List.mem_append.1 hb with hb | hb; (rcases hU32 b hb with h9 | h9; exact .inl (hSv b h9); (right; omega)); exact .inl hb,fun b hb=>by rcases List.mem_append.1 hb with hb | hb; (have:=hOc32.high b hb; omega); rcases List.mem_append.1 hb with hb | hb; (exact hO32.high b hb); (have:=hS b hb; omega),hE32⟩
  refine q_nil rfl zN (q_fldP (p:=(.pointer (some ⟨g,0,none⟩))) (b:=g) (o:=0) 1 fd228_1 rfl rfl zN (q_fldP (p:=(padd (.pointer (some ⟨g,0,none⟩)) 1)) (b:=g) (o:=1) 1 fd199_1 rfl rfl zN (e_setB (k:=2) (w:=w32) sz196 rfl rfl (isSl_one hMp33.slc) hB32 sM zN fun w34 hC34 hz34 hB34=>?_)))
  replace hB34:BX w34.heap g [vp,(.int .i64 ip),v31,rg0,(.slice none 0 0),rv0,(.int .i64 ((s0 :Nat):Int)),(.int .i64 c0)]:=hB34
  have hE34:Chg S w w34:=hE32.trans (hC34.sub (subS hgS))
  have hM34:=RcM.chg hMp33 hC34
  have hG34:=hGp33.set hgS hC34
  have hzs34:w32.heap.size≤w34.heap.size:=hC34.size
  refine q_nil rfl zN (q_fldP (p:=(.pointer (some ⟨g,0,none⟩))) (b:=g) (o:=0) 5 fd228_2 rfl rfl zN (e_setB (k:=5) (w:=w34) sz27 rfl rfl (isSl_one hMp33.slv) hB34 sM zN fun w38 hC38 hz38 hB38=>?_))
  replace hB38:BX w38.heap g [vp,(.int .i64 ip),v31,rg0,(.slice none 0 0),v32,(.int .i64 ((s0 :Nat):Int)),(.int .i64 c0)]:=hB38
  have hE38:Chg S w w38:=hE34.trans (hC38.sub (subS hgS))
  have hM38:=RcM.chg hM34 hC38
  have hG38:=hG34.set hgS hC38
  have hzs38:w34.heap.size≤w38.heap.size:=hC38.size
  exact lw_nil (wp_seq (wp_plain _ [0,0,0,2,0,0,0] rfl (lw_tv 1 rfl (q_nil rfl zN (q_fldP (p:=(.pointer (some ⟨g,0,none⟩))) (b:=g) (o:=0) 5 fd228_2 rfl rfl zN (q_load (p:=(padd (.pointer (some ⟨g,0,none⟩)) 5)) (.inr rfl) v32 one27 rfl (hB38.ldp (i:=5) sM) zN (q_len (v:=v32) u27 rfl (RcM.slv hM38) zN (q_sub ((T.vals.length :Nat):Int) rfl rfl (w64n z217_2 z217_2) zN (lw_tvn 1 rfl (wp_ret (post_ret [6] rfl (.int .i64 ((T.vals.length :Nat):Int)) rfl ⟨_,(by rfl),hG38,⟨_,_,_,hB38,hM38⟩⟩)))))))))))
def PVg (F d:Nat):Prop:=∀ (w:World) (S:List Nat) (g:Nat) (vp:Value) (dp:Nat) (ip:Int) (s0:Nat) (c0:Int) (p:List Fn) (T:Tp) (ve:Value) (ex:Ex) (vv:Value) (env:List Int) (hS:∀ b∈S,b < w.heap.size) (hgS:g∈S) (hR0:RcS 231 255 2 S g w.heap vp ip T s0 c0) (hp:RP S dp w.heap vp p) (_hip:i64 ip) (hs0:s0≤3000) (hc0:0≤c0∧c0≤9) (hbd:TpB T s0) (hex:RX S d w.heap ve ex) (henv:RN S (rdL rI) w.heap vv env) (hqenv:CapS vv)
  (hvp:VPr p) (hF:F≤p.length) (hwf:wf p ((F:Nat):Int) ex ((env.length:Nat):Int) = true) (hdp:env.length + ex.deep≤1000000) (hen:c0 = 0→EnB T env),
  Calls Tryz.prog 244 #[.pointer (some ⟨g,0,none⟩),.agg #[.int .i64 ex.kind,.int .i64 ex.num,.int .i64 ex.pick,.int .i64 ex.count,ve],vv] w (fun e w'=>∃ (r:Int) (S':List Nat) (T':Tp) (s1:Nat) (c1:Int),e = .returned (.int .i64 r)∧Grw S S' w w'∧RcS 231 255 2 S' g w'.heap vp ip T' s1 c1∧RgP T T' s0 s1 c1∧(c1 = 0→0≤r∧r < ((T'.vals.length:Nat):Int))∧(-9223372036854775808≤r∧r≤9223372036854775807)∧RelV (go c0 (rgE (rgC p F) ex env s0 T)) (r,T') s1 c1)
def PAg (F d:Nat):Prop:=∀ (w:World) (S:List Nat) (g:Nat) (vp:Value) (dp:Nat) (ip:Int) (s0:Nat) (c0:Int) (p:List Fn) (T:Tp) (vl:Value) (l:List Ex) (vv:Value) (env:List Int) (hS:∀ b∈S,b < w.heap.size) (hgS:g∈S) (hR0:RcS 231 255 2 S g w.heap vp ip T s0 c0) (hp:RP S dp w.heap vp p) (_hip:i64 ip) (hs0:s0≤3000) (hc0:0≤c0∧c0≤9) (hbd:TpB T s0) (hl:RN S (rdS 5 (rEx d)) w.heap vl l) (henv:RN S (rdL rI) w.heap vv env) (hqenv:CapS vv)
  (hvp:VPr p) (hF:F≤p.length) (hwf:∀ k,k < l.length→wf p ((F:Nat):Int) (l.getD k Ex.zero) ((env.length:Nat):Int) = true) (hdp:∀ k,k < l.length→env.length + (l.getD k Ex.zero).deep≤1000000) (hll:l.length≤1000000) (hen:c0 = 0→EnB T env),
  Calls Tryz.prog 218 #[.pointer (some ⟨g,0,none⟩),vl,vv] w (fun e w'=>∃ (v:Value) (xs:List Int) (S':List Nat) (T':Tp) (s1:Nat) (c1:Int),e = .returned v∧Grw S S' w w'∧RcS 231 255 2 S' g w'.heap vp ip T' s1 c1∧RgP T T' s0 s1 c1∧RNL S' w.heap.size (rdL rI) w'.heap v xs∧CapS v∧xs.length = l.length∧(c1 = 0→EnB T' xs)∧RelV (go c0 (rgs (rgC p F) l env s0 T)) (xs,T') s1 c1)
theorem c_impl_recorder_all (w:World) (S:List Nat) (F:Nat) (g:Nat) (vp:Value) (dp:Nat) (ip:Int) (s0:Nat) (c0:Int) (p:List Fn) (T:Tp) (dl:Nat) (vl:Value) (l:List Ex) (vv:Value) (env:List Int) (hS:∀ b∈S,b < w.heap.size) (hgS:g∈S) (hR0:RcS 231 255 2 S g w.heap vp ip T s0 c0) (hp:RP S dp w.heap vp p) (_hip:i64 ip) (hs0:s0≤3000) (hc0:0≤c0∧c0≤9) (hbd:TpB T s0) (hl:RN S (rdS 5 (rEx dl)) w.heap vl l) (henv:RN S (rdL rI) w.heap vv env) (hqenv:CapS vv) (hvp:VPr p) (hF:F≤p.length) (hwf:∀ k,k < l.length→wf p ((F :Nat):Int) (l.getD k Ex.zero) ((env.length :Nat):Int) = true) (hdp:∀ k,k < l.length→env.length + (l.getD k Ex.zero).deep≤1000000) (hll:l.length≤1000000) (hen:c0 = 0→EnB T env) (IHv:∀ d',d' < dl→PVg F d') :
  Calls Tryz.prog 218 #[.pointer (some ⟨g,0,none⟩),vl,vv] w (fun e w'=>∃ (v:Value) (xs:List Int) (S':List Nat) (T':Tp) (s1:Nat) (c1:Int),e = .returned v∧Grw S S' w w'∧RcS 231 255 2 S' g w'.heap vp ip T' s1 c1∧RgP T T' s0 s1 c1∧RNL S' w.heap.size (rdL rI) w'.heap v xs∧CapS v∧xs.length = l.length∧(c1 = 0→EnB T' xs)∧RelV (go c0 (rgs (rgC p F) l env s0 T)) (xs,T') s1 c1):=by
 refine calls_mk [.pointer (some ⟨g,0,none⟩),vl,vv] 26 Tryz.func218 rfl rfl sM ?_
 have hE0:Chg S w w:=Chg.refl S w
 have hl_vp:=hp.lenle
 unfold maxLen at hl_vp
 have hl_vl:=hl.lenle
 unfold maxLen at hl_vl
 have hl_vv:=henv.lenL
 unfold maxLen at hl_vv
 obtain ⟨rc0,rg0,rv0,hB0,hM0⟩:=hR0
 have hgl:=hB0.lt
 have hG0:Grw S S w w:=Grw.refl hS
 refine wp_seq (wp_plain _ [0] rfl (lw_tvn 1 rfl (wp_seq (wp_plain _ [3,0] rfl (r_nil (rI) good_rI u27 ti2 zN fun v1 w1 hX1 hz1 hO1=>?_)))))
 have hzs1:w.heap.size≤w1.heap.size:=hX1.size
 have hE1:Chg S w w1:=hE0.ext hX1
 have hB0x1:=hB0.ext hX1
 have hM2:=RcM.ext hM0 hX1
 have hG2:=hG0.ext hX1
 refine lw_tvn 1 rfl (wp_seq (wp_seq (wp_plain _ [0,0,0] rfl (lw_tv 1 rfl (q_len (v:=vl) u53 rfl hl.isSl zN (lw_tvn 1 rfl (wp_block ?_)))))))
 obtain ⟨Fo0,hOo0⟩:=Ow.of_fr hO1 (Nat.le_refl _)
 have hOd0:∀ b∈Fo0,b∉S:=fun b hb hm=>by have:=hOo0.low b hb; have:=hS b hm; omega
 have hMs:=hM2
 have hGs:=hG2
 refine c_loop (S:=Nat × Value × List Int × List Nat × List Nat × Tp × Nat × Int × Value × Value × Value) (fun (⟨k,vo,xs,Fo,S9,T9,s9,c9,vc9,vg9,vv9⟩:Nat × Value × List Int × List Nat × List Nat × Tp × Nat × Int × Value × Value × Value)=>([(7,vo),(13,(.int .i64 ((k :Nat):Int))),(0,(.pointer (some ⟨g,0,none⟩))),(2,vv),(11,vl),(12,(.int .i64 ((l.length :Nat):Int)))]:List (Nat × Value))) (fun (⟨k,vo,xs,Fo,S9,T9,s9,c9,vc9,vg9,vv9⟩:Nat × Value × List Int × List Nat × List Nat × Tp × Nat × Int × Value × Value × Value) (W:World)=>Chg S w W∧BX W.heap g [vp,.int .i64 ip,vc9,vg9,.slice none 0 0,vv9,.int .i64 ((s9 :Nat):Int),.int .i64 c9]∧k≤l.length∧Grw S S9 w W∧RcM 231 255 2 S9 g W.heap vc9 vg9 vv9 T9∧RgP T T9 s0 s9 c9∧Ow (owL rI 2) w.heap.size W.heap.size W.heap vo xs Fo∧(∀ b∈Fo,b∉S9)∧xs.length = k∧(c9 = 0→c0 = 0)∧(c9 = 0→EnB T9 xs)∧RelV (go c0 (rgs (rgC p F) (l.take k) env s0 T)) (xs,T9) s9 c9) (fun (⟨k,vo,xs,Fo,S9,T9,s9,c9,vc9,vg9,vv9⟩:Nat × Value × List Int × List Nat × List Nat × Tp × Nat × Int × Value × Value × Value)=>l.length - k) (0,v1,[],Fo0,S,T,s0,c0,rc0,rg0,rv0) ⟨rfl,rfl,rfl,rfl,rfl,rfl,trivial⟩ ⟨hE1,hB0x1,sD,(by exact hGs),(by exact hMs),(by exact ⟨hbd,by omega⟩),(by exact hOo0),(by exact hOd0),(by rfl),(by exact fun h=>h),(by exact fun _=>EnB.nil _),(by exact rg_start _ _ _ _ _ _)⟩ ?_
 clear hE0 hM0 hG0 hO1 hz1 hX1 hzs1 hE1 hM2 hG2
 rintro ⟨k,vo,xs,Fo,S9,T9,s9,c9,vc9,vg9,vv9⟩ ρ3 w3 ⟨hE3,hL3_0,hp3_0,hGl,hMl,hPl,hOl,hdl,hxl,hzl,hxb,hrl⟩
 have hzs3:w.heap.size≤w3.heap.size:=hE3.size
 have hq4:=hL3_0.lt
 have hnl:=hPl.num
 have hbl:=hPl.bnd
 refine wp_seq (wp_plain _ [0] rfl ?_)
 by_cases hc5:((k :Nat):Int) < ((l.length :Nat):Int)
 ·
  refine q_lss true rfl rfl (decide_eq_true hc5) zN (lw_nil (wp_seq (c_cond_t rfl (wp_skip (wp_seq (wp_block (wp_seq (wp_plain _ [0,2,3,4] rfl ?_))))))))
  have hkl:k < l.length:=by omega
  refine q_idx (v:=vl) k u53 tiS174 rfl rfl hl.isSl rfl sD zN ?_
  obtain ⟨cs6,hr6,hl6⟩:=hl.get (good_rEx dl) Ex.zero (k:=k) sD
  obtain ⟨dd6,ve6,hd6,rfl,hx6⟩:=RX.of hr6
  have hln6:=hx6.rn.lenle
  unfold maxLen at hln6
  refine q_loadA (p:=eptr vl k 5) (.inr rfl) [(.int .i64 ((l.getD k Ex.zero).kind)),(.int .i64 ((l.getD k Ex.zero).num)),(.int .i64 ((l.getD k Ex.zero).pick)),(.int .i64 ((l.getD k Ex.zero).count)),ve6] agg174 rfl (fun wq9 hw9=>hl6 wq9 (hE3.ext hw9)) rfl zN ?_
  have hq8:=hL3_0.lt
  refine r_allocA (z:=.agg #[.int .i64 0,.int .i64 0,.int .i64 0,.int .i64 0,.slice none 0 0]) zr174 zN fun w7 hX7 hz7 hB7=>?_
  have hzs7:w3.heap.size≤w7.heap.size:=hX7.size
  have hE7:Chg S w w7:=hE3.ext hX7
  have hL3_0x7:=hL3_0.ext hX7
  have hM9:=RcM.ext hMl hX7
  have hG9:=hGl.ext hX7
  have hO10k:=hOl.ext (good_owL good_rI) hX7
  replace hB7:BX w7.heap w3.heap.size [(.int .i64 0),(.int .i64 0),(.int .i64 0),(.int .i64 0),(.slice none 0 0)]:=hB7
  refine e_setA (vs:=[(.int .i64 ((l.getD k Ex.zero).kind)),(.int .i64 ((l.getD k Ex.zero).num)),(.int .i64 ((l.getD k Ex.zero).pick)),(.int .i64 ((l.getD k Ex.zero).count)),ve6]) agg174 rfl rfl hx6.ones hB7 rfl rfl zN fun w11 hC11 hz11 hB11=>?_
  replace hB11:BX w11.heap w3.heap.size [(.int .i64 ((l.getD k Ex.zero).kind)),(.int .i64 ((l.getD k Ex.zero).num)),(.int .i64 ((l.getD k Ex.zero).pick)),(.int .i64 ((l.getD k Ex.zero).count)),ve6]:=hB11
  have hE11:Chg S w w11:=hE7.fresh hC11 (fun c hc=>by have:=List.mem_singleton.1 hc; omega)
  have hM11:=RcM.chgO hM9 hC11 (fun b hb hm=>by rw [List.mem_singleton.1 hb] at hm; exact (by have:=hGl.lt _ hm; omega))
  have hG11:=hG9.fresh hC11 (fun c hc=>by have:=List.mem_singleton.1 hc; omega)
  have hzs11:w7.heap.size≤w11.heap.size:=hC11.size
  have hF15:=hL3_0x7.chg hC11 (fun hm=>by have:=List.mem_singleton.1 hm; omega)
  have hF16:=hO10k.keep (good_owL good_rI) hC11 (fun b hb hm=>by have:=List.mem_singleton.1 hb; have:=hO10k.low _ hm; have:=hO10k.high _ hm; omega)
  refine lw_nil (wp_plain _ [0,0,2,0,4,3,4,0] rfl (lw_tv 2 rfl (q_loadA (p:=(.pointer (some ⟨w3.heap.size,0,none⟩))) (.inr rfl) [(.int .i64 ((l.getD k Ex.zero).kind)),(.int .i64 ((l.getD k Ex.zero).num)),(.int .i64 ((l.getD k Ex.zero).pick)),(.int .i64 ((l.getD k Ex.zero).count)),ve6] agg174 rfl (fun wq9 hw9=>LD.of_box (BX.ext (w:=w11) hB11 hw9)) rfl zN (lw_tv 1 rfl ?_))))
  refine lw_callE 244 [] [] [(.pointer (some ⟨g,0,none⟩)),(.agg #[(.int .i64 ((l.getD k Ex.zero).kind)),(.int .i64 ((l.getD k Ex.zero).num)),(.int .i64 ((l.getD k Ex.zero).pick)),(.int .i64 ((l.getD k Ex.zero).count)),ve6]),vv] rfl rfl cf244 zN (IHv dd6 oM _ S9 g vp dp ip (s9) (c9) p (T9) ve6 (l.getD k Ex.zero) vv (env) (fun b hb=>(hG11.lt b hb:b < w11.heap.size)) (hG11.sub _ hgS) ⟨_,_,_,hF15,hM11⟩ (RN.stp (good_rdS (good_rFn dp)) hp hE11 hG11.new) _hip oM oM (by exact hbl) ⟨hx6.rng,(RN.stp (good_rdS (good_rEx dd6)) hx6.rn hE11 hG11.new)⟩ (RN.stp g1 henv hE11 hG11.new) hqenv (by exact hvp) oM (by exact hwf k hkl) (by exact hdp k hkl) (by intro h9; exact (hen (hzl h9)).mono oM)) ?_
  rintro e18 w18 ⟨r18,S18,T18,s18,c18,rfl,hGc18,⟨vc18,vg18,vv18,hB18,hM18⟩,hq18,hrv18,hri18,hrl18⟩
  refine ⟨_,rfl,?_⟩
  have hzs18:w11.heap.size≤w18.heap.size:=hGc18.chg.size
  have hE18:Chg S w w18:=hE11.stp hGc18.chg hG11.new
  have hF24:=hF16.keep (good_owL good_rI) hGc18.chg (fun b hb hm=>hdl b hm hb)
  have hdhF24:∀ b∈Fo,b∉S18:=fun b hb hm=>(hGc18.new b hm).elim (hdl b hb) (fun h9=>by have:=hF16.high b hb; omega)
  have hF26:=hB11.chg hGc18.chg (fun hm=>(by have:=hGl.lt _ hm; omega))
  have hnhF26:w3.heap.size∉S18:=fun hm=>(hGc18.new _ hm).elim (fun hm=>(by have:=hGl.lt _ hm; omega)) (fun h9=>by omega)
  have hG18:=hG11.trans hGc18
  have hbd18:=hq18.bnd
  have hnm18:=hq18.num
  have hcz:=fun h9=>rg_c0 hrl18 h9
  have hrv:=hrv18
  refine (r_one (u:=(.int .i64 r18)) (B:=w18.heap.size) good_rI u27 ti2 rfl rfl (frI w18.heap.size w18.heap.size _ _ hri18) (Nat.le_refl _) zN ?_)
  intro v27 w27 hX27 hz27 hO27
  have hzs27:w18.heap.size≤w27.heap.size:=hX27.size
  have hE27:Chg S w w27:=hE18.ext hX27
  have hB18x27:=hB18.ext hX27
  have hF26x27:=hF26.ext hX27
  have hM28:=RcM.ext hM18 hX27
  have hG28:=hG18.ext hX27
  have hO29k:=hF24.ext (good_owL good_rI) hX27
  refine e_appJ (v:=vo) (a:=v27) u27 ti2 rfl rfl rfl hO29k hO27.rd1 oM sD (by unfold maxLen; first | omega | assumption | (simp; done) | (simp; omega)) zN fun v30 w30 F30 hC30 hO30 hU30=>?_
  have hzs30:w27.heap.size≤w30.heap.size:=hC30.size
  have hE30:Chg S w w30:=hE27.fresh hC30 (fun c hc=>by have:=hO29k.low c hc; omega)
  have hd30:∀ b∈F30,b∉S18:=fun b hb hm=>(hU30 b hb).elim (fun h9=>hdhF24 b h9 hm) (fun h9=>by have:=hG28.lt b hm; omega)
  have hM30:=RcM.chgO hM28 hC30 hdhF24
  have hG30:=hG28.fresh hC30 (fun c hc=>by have:=hO29k.low c hc; omega)
  have hF34:=hB18x27.chg hC30 (fun hm=>by have:=hO29k.low _ hm; omega)
  refine lw_tvn 1 rfl (wp_plain _ [0,0] rfl (q_add ((k + 1 :Nat):Int) rfl rfl (w64n oM oM) zN (lw_tvn 1 rfl ?_)))
  have hMe:=hM30
  have hGe:=hG30
  have hPe:RgP T T18 s0 s18 c18:=⟨by assumption,by omega⟩
  exact ⟨((k + 1),v30,(xs++[r18]),F30,S18,T18,s18,c18,vc18,vg18,vv18),_,rfl,⟨rfl,rfl,rfl,rfl,rfl,rfl,trivial⟩,⟨hE30,hF34,sD,(by exact hGe),(by exact hMe),(by exact hPe),(by assumption),(by assumption),(by rw [List.length_append,List.length_singleton,hxl]),(by exact fun h9=>hzl (hcz h9)),(by exact fun h9=>EnB.snoc ((hxb (hcz h9)).mono oM) (hrv h9)),(by exact rg_snoc oM hrl (by assumption))⟩,by first | omega | (dsimp only; omega)⟩
 ·
  exact q_lss false rfl rfl (decide_eq_false hc5) zN (lw_nil (wp_seq (c_cond_f rfl (wp_exit (t_exit (t_exit (c_exit_here (wp_seq (wp_plain _ [0,0] rfl (lw_tvn 2 rfl (wp_ret (post_ret [6] rfl vo rfl ⟨vo,xs,_,T9,s9,c9,rfl,hGl,⟨_,_,_,hL3_0,hMl⟩,⟨(by exact hbl),oM⟩,RNL.of_ow hOl hdl,hOl.fr.cap,oM,(by exact hxb),(by rw [List.take_of_length_le oM] at hrl; exact hrl)⟩))))))))))))
theorem c_slices_Clip___int64_int64_ (w:World) (v:Value) (n:Nat) (hs:isSl v n) (hcs:CapS v)  :
  Calls Tryz.prog 250 #[v] w (fun e w'=>e = .returned (clipV v)∧w' = w):=by
 refine calls_mk [v] 9 Tryz.func250 rfl rfl sM ?_
 have hE0:w = w:=rfl
 exact wp_seq (wp_plain _ [0] rfl (lw_tvn 1 rfl (wp_seq (wp_plain _ [0,0,0,0,0,0,0] rfl (lw_tv 2 rfl (q_len (v:=v) u27 rfl hs zN (lw_tv 1 rfl (q_len (v:=v) u27 rfl hs zN (q_clip (v:=v) u27 ti2 rfl hs rfl rfl hcs zN (lw_tvn 1 rfl (wp_ret (post_ret [2] rfl (clipV v) rfl ⟨rfl,hE0⟩))))))))))))
theorem z255_0 {p:Prop} (h:p:=by first | rw [(od_add (k:=c_op) (a:=a) (b:=b) oM).1,(od_add (k:=c_op) (a:=a) (b:=b) oM).2] <;> rfl | rw [(od_sub (k:=c_op) (a:=a) (b:=b) oM).1,(od_sub (k:=c_op) (a:=a) (b:=b) oM).2] <;> rfl | rw [(od_mul (k:=c_op) (a:=a) (b:=b) oM).1,(od_mul (k:=c_op) (a:=a) (b:=b) oM).2] <;> rfl | rw [(od_neg (k:=c_op) (a:=a) (b:=b) oM).1,(od_neg (k:=c_op) (a:=a) (b:=b) oM).2] <;> rfl | rw [(od_zero (k:=c_op) (a:=a) (b:=b) oM oM).1,(od_zero (k:=c_op) (a:=a) (b:=b) oM oM).2] <;> rfl | rw [(od_div (k:=c_op) (a:=a) (b:=b) oM oM).1,(od_div (k:=c_op) (a:=a) (b:=b) oM oM).2] <;> rfl):p:=h
theorem c_impl_operated (w:World) (c_op c_a c_b c_n:Int) (a:Int) (b:Int) (_hc_op:i64 c_op) (_hc_a:i64 c_a) (_hc_b:i64 c_b) (_hc_n:i64 c_n) (_ha:-9223372036854775808≤a∧a≤9223372036854775807) (_hb:-9223372036854775808≤b∧b≤9223372036854775807) (hop:3≤c_op∧c_op≤7) :
  Calls Tryz.prog 255 #[(.agg #[(.int .i64 c_op),(.int .i64 c_a),(.int .i64 c_b),(.int .i64 c_n)]),.int .i64 a,.int .i64 b] w (fun e w'=>e = .returned (.tuple #[.int .i64 (if opZ c_op b then 0 else opI c_op a b),.bool (!decide (opZ c_op b))])∧Ext w w'):=by
 refine calls_mk [(.agg #[(.int .i64 c_op),(.int .i64 c_a),(.int .i64 c_b),(.int .i64 c_n)]),.int .i64 a,.int .i64 b] 35 Tryz.func255 rfl rfl sM ?_
 have hE0:Ext w w:=Ext.refl w
 refine wp_seq (wp_plain _ [3,0,0] rfl (r_boxA (cs:=#[(.int .i64 c_op),(.int .i64 c_a),(.int .i64 c_b),(.int .i64 c_n)]) rfl zN fun w1 hX1 hz1 hB1=>?_))
 have hzs1:w.heap.size≤w1.heap.size:=hX1.size
 have hE1:Ext w w1:=hE0.trans hX1
 replace hB1:BX w1.heap w.heap.size [(.int .i64 c_op),(.int .i64 c_a),(.int .i64 c_b),(.int .i64 c_n)]:=hB1
 refine lw_tvn 2 rfl (wp_seq (wp_seq (wp_plain _ [0,2] rfl (q_fldP (p:=(.pointer (some ⟨w.heap.size,0,none⟩))) (b:=w.heap.size) (o:=0) 0 fd231_0 rfl rfl zN (q_load (p:=(padd (.pointer (some ⟨w.heap.size,0,none⟩)) 0)) (.inr rfl) (.int .i64 c_op) one2 rfl (hB1.ldp (i:=0) sM) zN (lw_nil (wp_block (wp_seq (wp_plain _ [0,0] rfl ?_)))))))))
 by_cases hc2:c_op = ((3 :Nat):Int)
 ·
  refine q_eql true rfl rfl (decide_eq_true hc2) zN (lw_tvn 1 rfl (c_cond_t rfl (wp_seq (wp_plain _ [0,0,0,0,0] rfl (lw_tv 2 rfl (lw_callq 79 [] [] [(.int .i64 a),(.int .i64 b)] rfl rfl cf79 zN (.int .i64 (md (a + b))) (fun wq=>c_impl_Plus wq _ _ _ha _hb) (lw_tvn 2 rfl (wp_ret (b_ret (t_ret ?_))))))))))
  exact post_ret [6,7] rfl (.tuple #[(.int .i64 (md (a + b))),(.bool true)]) rfl ⟨z255_0,hE1⟩
 ·
  refine q_eql false rfl rfl (decide_eq_false hc2) zN (lw_tvn 1 rfl (c_cond_f rfl (wp_seq (wp_plain _ [0,0] rfl ?_))))
  by_cases hc4:c_op = ((4 :Nat):Int)
  ·
   refine q_eql true rfl rfl (decide_eq_true hc4) zN (lw_tvn 1 rfl (c_cond_t rfl (wp_seq (wp_plain _ [0,0,0,0,0] rfl (lw_tv 2 rfl (lw_callq 78 [] [] [(.int .i64 a),(.int .i64 b)] rfl rfl cf78 zN (.int .i64 (md (a - b))) (fun wq=>c_impl_minus wq _ _ _ha _hb) (lw_tvn 2 rfl (wp_ret (b_ret (t_ret ?_))))))))))
   exact post_ret [6,7] rfl (.tuple #[(.int .i64 (md (a - b))),(.bool true)]) rfl ⟨z255_0,hE1⟩
  ·
   refine q_eql false rfl rfl (decide_eq_false hc4) zN (lw_tvn 1 rfl (c_cond_f rfl (wp_seq (wp_plain _ [0,0] rfl ?_))))
   by_cases hc6:c_op = ((5 :Nat):Int)
   ·
    refine q_eql true rfl rfl (decide_eq_true hc6) zN (lw_tvn 1 rfl (c_cond_t rfl (wp_seq (wp_plain _ [0,0,0,0,0] rfl (lw_tv 2 rfl (lw_callq 147 [] [] [(.int .i64 a),(.int .i64 b)] rfl rfl cf147 zN (.int .i64 (md (a * b))) (fun wq=>c_impl_Times wq _ _ _ha _hb) (lw_tvn 2 rfl (wp_ret (b_ret (t_ret ?_))))))))))
    exact post_ret [6,7] rfl (.tuple #[(.int .i64 (md (a * b))),(.bool true)]) rfl ⟨z255_0,hE1⟩
   ·
    refine q_eql false rfl rfl (decide_eq_false hc6) zN (lw_tvn 1 rfl (c_cond_f rfl (wp_seq (wp_plain _ [0,0] rfl ?_))))
    by_cases hc8:c_op = ((7 :Nat):Int)
    ·
     refine q_eql true rfl rfl (decide_eq_true hc8) zN (lw_tvn 1 rfl (c_cond_t rfl (wp_seq (wp_plain _ [0,0,0,0] rfl (lw_tv 1 rfl (lw_callq 78 [] [] [(.int .i64 ((0 :Nat):Int)),(.int .i64 a)] rfl rfl cf78 zN (.int .i64 (md (((0 :Nat):Int) - a))) (fun wq=>c_impl_minus wq _ _ oM _ha) (lw_tvn 2 rfl (wp_ret (b_ret (t_ret ?_))))))))))
     exact post_ret [6,7] rfl (.tuple #[(.int .i64 (md (((0 :Nat):Int) - a))),(.bool true)]) rfl ⟨z255_0,hE1⟩
    ·
     refine q_eql false rfl rfl (decide_eq_false hc8) zN (lw_tvn 1 rfl (c_cond_f rfl (wp_skip (wp_seq (wp_seq (wp_plain _ [0,0] rfl (lw_tv 1 rfl ?_)))))))
     by_cases hc10:b = ((0 :Nat):Int)
     ·
      refine q_eql true rfl rfl (decide_eq_true hc10) zN (lw_nil (c_cond_t rfl (wp_seq (wp_plain _ [0,0] rfl (lw_tvn 2 rfl (wp_ret (t_ret ?_)))))))
      exact post_ret [6,7] rfl (.tuple #[(.int .i64 ((0 :Nat):Int)),(.bool false)]) rfl ⟨z255_0,hE1⟩
     ·
      refine q_eql false rfl rfl (decide_eq_false hc10) zN (lw_nil (c_cond_f rfl (wp_skip (wp_seq (wp_plain _ [0,0,0,0,0,0] rfl (lw_tv 2 rfl (lw_callq 104 [] [] [(.int .i64 b)] rfl rfl cf104 zN (.int .i64 (inv b)) (fun wq=>c_impl_inverse wq _ _hb) (lw_callq 147 [] [] [(.int .i64 a),(.int .i64 (inv b))] rfl rfl cf147 zN (.int .i64 (md (a * (inv b)))) (fun wq=>c_impl_Times wq _ _ _ha (inv_rng _)) (lw_tvn 2 rfl (wp_ret ?_))))))))))
      exact post_ret [6,7] rfl (.tuple #[(.int .i64 (md (a * (inv b)))),(.bool true)]) rfl ⟨z255_0,hE1⟩
theorem z251_0 {p:Prop} (h:p:=by first | exact rg_opE2 hc00 oM (nn_t (by assumption)) | exact rg_opO2 hc00 oM (nn_f (by assumption)) | exact rg_opO7 hc00 oM | exact absurd (nn_t (Q:=opZ op _) (by assumption)) (opZ_7 oM)):p:=h
theorem z251_1 {p:Prop} (h:p:=by first | (intro h9; exact absurd h9 oM) | (intro h9; omega)):p:=h
theorem z251_2 {p:Prop} (h:p:=by first | exact hbd.up oM | exact hbd.put _ hvr):p:=h
theorem z251_3 {p:Prop} (h:p:=by have:=hG0.lt _ hm; omega):p:=h
theorem c_impl_recorder_operation (w:World) (S:List Nat) (g:Nat) (vp:Value) (dp:Nat) (ip:Int) (s0:Nat) (c0:Int) (p:List Fn) (T:Tp) (op:Int) (vk:Value) (ks:List Int) (hS:∀ b∈S,b < w.heap.size) (hgS:g∈S) (hR0:RcS 231 255 2 S g w.heap vp ip T s0 c0) (hp:RP S dp w.heap vp p) (_hip:i64 ip) (hs0:s0≤3000) (hc0:0≤c0∧c0≤9) (hbd:TpB T s0) (_hop:-9223372036854775808≤op∧op≤9223372036854775807) (hks:RN S (rdL rI) w.heap vk ks) (hqks:CapS vk) (hop:3≤op∧op≤7) (hkl:1≤ks.length∧(op≠7→2≤ks.length)) (hen:EnB T ks) (hc00:c0 = 0) :
  Calls Tryz.prog 251 #[.pointer (some ⟨g,0,none⟩),.int .i64 op,vk] w (fun e w'=>∃ (r:Int) (S':List Nat) (T':Tp) (c1:Int),e = .returned (.int .i64 r)∧Grw S S' w w'∧RcS 231 255 2 S' g w'.heap vp ip T' s0 c1∧TpB T' (s0 + 1)∧((0≤c1∧c1≤9)∧T.vals.length≤T'.vals.length∧T'.vals.length≤T.vals.length + 1∧T'.grd.length = T.grd.length)∧(c1 = 0→0≤r∧r < ((T'.vals.length :Nat):Int))∧(-9223372036854775808≤r∧r≤9223372036854775807)∧RelV (go c0 (opG op ks s0 T)) (r,T') s0 c1):=by
 refine calls_mk [.pointer (some ⟨g,0,none⟩),.int .i64 op,vk] 51 Tryz.func251 rfl rfl sM ?_
 have hE0:Chg S w w:=Chg.refl S w
 have hl_vp:=hp.lenle
 unfold maxLen at hl_vp
 have hl_vk:=hks.lenL
 unfold maxLen at hl_vk
 obtain ⟨rc0,rg0,rv0,hB0,hM0⟩:=hR0
 have hgl:=hB0.lt
 have hG0:Grw S S w w:=Grw.refl hS
 have hk0:=hen 0 oM
 have hbn:=hbd.ln hs0
 refine wp_seq (wp_plain _ [0] rfl (lw_tvn 1 rfl (wp_seq (wp_plain _ [0,0,0,2,0,3,4] rfl (lw_tv 2 rfl (q_idx (v:=vk) 0 u27 ti2 rfl rfl hks.slL rfl sD zN ?_))))))
 have hg1:=RN.getI (w:=w) (k:=0) hks sD
 refine q_load (p:=eptr vk 0 1) (.inr rfl) (.int .i64 (ks.getD 0 0)) one2 rfl (hg1.1 _ hE0) zN ?_
 have hbd2:∀ (wq:World),(Instr.build 231 #[(0,(.int .i64 op)),(1,(.int .i64 (ks.getD 0 0)))]).run Tryz.prog wq = .ok (.agg #[(.int .i64 op),(.int .i64 (ks.getD 0 0)),(.int .i64 0),(.int .i64 0)]) wq:=by intro wq; kernel_rfl
 refine q_build (ps:=#[(0,(.int .i64 op)),(1,(.int .i64 (ks.getD 0 0)))]) (.agg #[(.int .i64 op),(.int .i64 (ks.getD 0 0)),(.int .i64 0),(.int .i64 0)]) (by simp only [List.map_toArray,List.map_cons,List.map_nil]; rfl) (fun wq=>hbd2  wq) zN ?_
 have hq4:=hB0.lt
 refine r_allocA (z:=.agg #[.int .i64 0,.int .i64 0,.int .i64 0,.int .i64 0]) zr231 zN fun w3 hX3 hz3 hB3=>?_
 have hzs3:w.heap.size≤w3.heap.size:=hX3.size
 have hE3:Chg S w w3:=hE0.ext hX3
 have hB0x3:=hB0.ext hX3
 have hM5:=RcM.ext hM0 hX3
 have hG5:=hG0.ext hX3
 replace hB3:BX w3.heap w.heap.size [(.int .i64 0),(.int .i64 0),(.int .i64 0),(.int .i64 0)]:=hB3
 refine e_setA (vs:=[(.int .i64 op),(.int .i64 (ks.getD 0 0)),(.int .i64 (0:Int)),(.int .i64 (0:Int))]) agg231 rfl rfl (by intro u hu; simp only [List.mem_cons,List.not_mem_nil,or_false] at hu; rcases hu with rfl | rfl | rfl | rfl <;> first | exact ⟨rfl,rfl⟩) hB3 rfl rfl zN fun w6 hC6 hz6 hB6=>?_
 replace hB6:BX w6.heap w.heap.size [(.int .i64 op),(.int .i64 (ks.getD 0 0)),(.int .i64 (0:Int)),(.int .i64 (0:Int))]:=hB6
 have hE6:Chg S w w6:=hE3.fresh hC6 (fun c hc=>by have:=List.mem_singleton.1 hc; omega)
 have hM6:=RcM.chgO hM5 hC6 (fun b hb hm=>by rw [List.mem_singleton.1 hb] at hm; exact z251_3)
 have hG6:=hG5.fresh hC6 (fun c hc=>by have:=List.mem_singleton.1 hc; omega)
 have hzs6:w3.heap.size≤w6.heap.size:=hC6.size
 have hF8:=hB0x3.chg hC6 (fun hm=>by have:=List.mem_singleton.1 hm; omega)
 refine lw_nil (wp_seq (wp_seq (wp_plain _ [0,0] rfl (lw_tv 1 rfl ?_))))
 by_cases hc10:op≠((7 :Nat):Int)
 ·
  refine q_neq true rfl rfl (decide_eq_true hc10) zN (lw_nil (c_cond_t rfl (wp_plain _ [0,0,2,0,4] rfl ?_)))
  have hk1:=hen 1 oM
  refine lw_tv 1 rfl (q_idx (v:=vk) 1 u27 ti2 rfl rfl hks.slL rfl sD zN ?_)
  have hg11:=RN.getI (w:=w) (k:=1) hks sD
  refine q_load (p:=eptr vk 1 1) (.inr rfl) (.int .i64 (ks.getD 1 0)) one2 rfl (hg11.1 _ hE6) zN (q_fldP (p:=(.pointer (some ⟨w.heap.size,0,none⟩))) (b:=w.heap.size) (o:=0) 2 fd231_2 rfl rfl zN (e_setB (k:=2) (w:=w6) sz2 rfl rfl ⟨rfl,rfl⟩ hB6 sM zN fun w12 hC12 hz12 hB12=>?_))
  replace hB12:BX w12.heap w.heap.size [(.int .i64 op),(.int .i64 (ks.getD 0 0)),(.int .i64 (ks.getD 1 0)),(.int .i64 (0:Int))]:=hB12
  have hE12:Chg S w w12:=hE6.fresh hC12 (fun c hc=>by have:=List.mem_singleton.1 hc; omega)
  have hM12:=RcM.chgO hM6 hC12 (fun b hb hm=>by rw [List.mem_singleton.1 hb] at hm; exact z251_3)
  have hG12:=hG6.fresh hC12 (fun c hc=>by have:=List.mem_singleton.1 hc; omega)
  have hzs12:w6.heap.size≤w12.heap.size:=hC12.size
  have hF14:=hF8.chg hC12 (fun hm=>by have:=List.mem_singleton.1 hm; omega)
  refine lw_nil (wp_seq (wp_draw _ [1,0,0,0,1,0,1,0,1,0,0,0,1,0,1,0,1,3,0,0,0,0,0] mixed (by kernel_rfl) (q_loadA (p:=(.pointer (some ⟨w.heap.size,0,none⟩))) (.inl rfl) [(.int .i64 op),(.int .i64 (ks.getD 0 0)),(.int .i64 (ks.getD 1 0)),(.int .i64 (0:Int))] agg231 rfl (fun wq9 hw9=>LD.of_box (BX.ext (w:=w12.drew) hB12 hw9)) rfl zN (lw_tv 1 rfl (q_nil rfl zN (q_fldP (p:=(.pointer (some ⟨g,0,none⟩))) (b:=g) (o:=0) 5 fd228_2 rfl rfl zN (q_load (p:=(padd (.pointer (some ⟨g,0,none⟩)) 5)) (.inl rfl) rv0 one27 rfl (hF14.ldp (i:=5) sM) zN (q_fldP (p:=(.pointer (some ⟨w.heap.size,0,none⟩))) (b:=w.heap.size) (o:=0) 1 fd231_1 rfl rfl zN ?_))))))))
  refine q_load (p:=(padd (.pointer (some ⟨w.heap.size,0,none⟩)) 1)) (.inl rfl) (.int .i64 (ks.getD 0 0)) one2 rfl (hB12.ldp (i:=1) sM) zN (q_idx (v:=rv0) ((ks.getD 0 0).toNat) u27 ti2 rfl rfl (RcM.slv hM12) oM oM zN (q_load (p:=eptr rv0 ((ks.getD 0 0).toNat) 1) (.inl rfl) (.int .i64 (T.vals.getD ((ks.getD 0 0).toNat) 0)) one2 rfl ((RcM.rdv hM12).getI oM).1 zN (lw_tv 1 rfl (q_nil rfl zN (q_fldP (p:=(.pointer (some ⟨g,0,none⟩))) (b:=g) (o:=0) 5 fd228_2 rfl rfl zN (q_load (p:=(padd (.pointer (some ⟨g,0,none⟩)) 5)) (.inl rfl) rv0 one27 rfl (hF14.ldp (i:=5) sM) zN (q_fldP (p:=(.pointer (some ⟨w.heap.size,0,none⟩))) (b:=w.heap.size) (o:=0) 2 fd231_2 rfl rfl zN ?_)))))))
  refine q_load (p:=(padd (.pointer (some ⟨w.heap.size,0,none⟩)) 2)) (.inl rfl) (.int .i64 (ks.getD 1 0)) one2 rfl (hB12.ldp (i:=2) sM) zN (q_idx (v:=rv0) ((ks.getD 1 0).toNat) u27 ti2 rfl rfl (RcM.slv hM12) oM oM zN (q_load (p:=eptr rv0 ((ks.getD 1 0).toNat) 1) (.inl rfl) (.int .i64 (T.vals.getD ((ks.getD 1 0).toNat) 0)) one2 rfl ((RcM.rdv hM12).getI oM).1 zN (lw_call 255 [] [] [(.agg #[(.int .i64 op),(.int .i64 (ks.getD 0 0)),(.int .i64 (ks.getD 1 0)),(.int .i64 (0:Int))]),(.int .i64 (T.vals.getD ((ks.getD 0 0).toNat) 0)),(.int .i64 (T.vals.getD ((ks.getD 1 0).toNat) 0))] rfl rfl cf255 zN (c_impl_operated _ (op) (ks.getD 0 0) (ks.getD 1 0) ((0:Int)) _ _ _hop hg1.2 hg11.2 oM ((RcM.rdv hM12).getI oM).2 ((RcM.rdv hM12).getI oM).2 oM) ?_)))
  rintro e16 w16 ⟨rfl,hX16⟩
  refine ⟨_,rfl,hX16,?_⟩
  replace hX16:=hX16.of_drew
  have hzs16:w12.heap.size≤w16.heap.size:=hX16.size
  have hE16:Chg S w w16:=hE12.ext hX16
  have hF14x16:=hF14.ext hX16
  have hB12x16:=hB12.ext hX16
  have hF17:=(RcM.rdv hM12).ext g1 hX16
  have hM18:=RcM.ext hM12 hX16
  have hG18:=hG12.ext hX16
  refine lw_tv 1 rfl (q_extract (vs:=[(.int .i64 (if opZ op (T.vals.getD ((ks.getD 1 0).toNat) 0) then 0 else opI op (T.vals.getD ((ks.getD 0 0).toNat) 0) (T.vals.getD ((ks.getD 1 0).toNat) 0))),(.bool (!decide (opZ op (T.vals.getD ((ks.getD 1 0).toNat) 0))))]) (.int .i64 (if opZ op (T.vals.getD ((ks.getD 1 0).toNat) 0) then 0 else opI op (T.vals.getD ((ks.getD 0 0).toNat) 0) (T.vals.getD ((ks.getD 1 0).toNat) 0))) rfl rfl zN (q_extract (vs:=[(.int .i64 (if opZ op (T.vals.getD ((ks.getD 1 0).toNat) 0) then 0 else opI op (T.vals.getD ((ks.getD 0 0).toNat) 0) (T.vals.getD ((ks.getD 1 0).toNat) 0))),(.bool (!decide (opZ op (T.vals.getD ((ks.getD 1 0).toNat) 0))))]) (.bool (!decide (opZ op (T.vals.getD ((ks.getD 1 0).toNat) 0)))) rfl rfl zN (lw_tvn 2 rfl (wp_seq (wp_seq (wp_plain _ [0,0] rfl ?_))))))
  have hvr:0≤(if opZ op (T.vals.getD ((ks.getD 1 0).toNat) 0) then 0 else opI op (T.vals.getD ((ks.getD 0 0).toNat) 0) (T.vals.getD ((ks.getD 1 0).toNat) 0))∧(if opZ op (T.vals.getD ((ks.getD 1 0).toNat) 0) then 0 else opI op (T.vals.getD ((ks.getD 0 0).toNat) 0) (T.vals.getD ((ks.getD 1 0).toNat) 0)) < 1000003:=opv_num _ _ _
  refine lw_tv 1 rfl (q_not (!(!decide (opZ op (T.vals.getD ((ks.getD 1 0).toNat) 0)))) rfl rfl zN (lw_nil ?_))
  cases hb19:(!(!decide (opZ op (T.vals.getD ((ks.getD 1 0).toNat) 0))))
  ·
   refine c_cond_f (by first | rfl | (show Value.bool _ = _; rw [hb19])) (wp_skip (wp_seq (wp_plain _ [0,2,0,4,0] rfl (lw_tv 1 rfl (q_loadA (p:=(.pointer (some ⟨w.heap.size,0,none⟩))) (.inr rfl) [(.int .i64 op),(.int .i64 (ks.getD 0 0)),(.int .i64 (ks.getD 1 0)),(.int .i64 (0:Int))] agg231 rfl (fun wq9 hw9=>LD.of_box (BX.ext (w:=w16) hB12x16 hw9)) rfl zN (lw_tv 1 rfl ?_))))))
   refine lw_callE 217 [] [] [(.pointer (some ⟨g,0,none⟩)),(.agg #[(.int .i64 op),(.int .i64 (ks.getD 0 0)),(.int .i64 (ks.getD 1 0)),(.int .i64 (0:Int))]),(.int .i64 (if opZ op (T.vals.getD ((ks.getD 1 0).toNat) 0) then 0 else opI op (T.vals.getD ((ks.getD 0 0).toNat) 0) (T.vals.getD ((ks.getD 1 0).toNat) 0)))] rfl rfl cf217 zN (c_impl_recorder_put _ S g vp ip (s0) (c0) (T) (⟨op,ks.getD 0 0,ks.getD 1 0,(0:Int)⟩:Ins) (if opZ op (T.vals.getD ((ks.getD 1 0).toNat) 0) then 0 else opI op (T.vals.getD ((ks.getD 0 0).toNat) 0) (T.vals.getD ((ks.getD 1 0).toNat) 0)) (fun b hb=>(hG18.lt b hb:b < w16.heap.size)) (hG18.sub _ hgS) ⟨_,_,_,hF14x16,hM18⟩ _hip (by exact hbd.ln hs0) ⟨_hop,hg1.2,hg11.2,(show i64 ((0:Int)) from by omega)⟩ (by have:=opI_num op (T.vals.getD ((ks.getD 0 0).toNat) 0) (T.vals.getD ((ks.getD 1 0).toNat) 0); split <;> omega)) ?_
   rintro e20 w20 ⟨S20,rfl,hGc20,vc20,vg20,vv20,hB20,hM20⟩
   refine ⟨_,rfl,?_⟩
   have hzs20:w16.heap.size≤w20.heap.size:=hGc20.chg.size
   have hE20:Chg S w w20:=hE16.stp hGc20.chg hG18.new
   have hF25:=hB12x16.chg hGc20.chg (fun hm=>z251_3)
   have hnhF25:w.heap.size∉S20:=fun hm=>(hGc20.new _ hm).elim (fun hm=>z251_3) (fun h9=>by omega)
   have hG20:=hG18.trans hGc20
   have hvl20:(T.put (⟨op,ks.getD 0 0,ks.getD 1 0,(0:Int)⟩:Ins) (if opZ op (T.vals.getD ((ks.getD 1 0).toNat) 0) then 0 else opI op (T.vals.getD ((ks.getD 0 0).toNat) 0) (T.vals.getD ((ks.getD 1 0).toNat) 0))).vals.length = T.vals.length + 1:=put_vl _ _ _
   have hgl20:(T.put (⟨op,ks.getD 0 0,ks.getD 1 0,(0:Int)⟩:Ins) (if opZ op (T.vals.getD ((ks.getD 1 0).toNat) 0) then 0 else opI op (T.vals.getD ((ks.getD 0 0).toNat) 0) (T.vals.getD ((ks.getD 1 0).toNat) 0))).grd.length = T.grd.length:=rfl
   exact lw_tvn 1 rfl (wp_ret (post_ret [6] rfl (.int .i64 ((T.vals.length :Nat):Int)) rfl ⟨((T.vals.length :Nat):Int),_,T.put (⟨op,ks.getD 0 0,ks.getD 1 0,(0:Int)⟩:Ins) (if opZ op (T.vals.getD ((ks.getD 1 0).toNat) 0) then 0 else opI op (T.vals.getD ((ks.getD 0 0).toNat) 0) (T.vals.getD ((ks.getD 1 0).toNat) 0)),c0,rfl,hG20,⟨_,_,_,hB20,hM20⟩,z251_2,oM,z251_1,oM,z251_0⟩))
  ·
   refine c_cond_t (by first | rfl | (show Value.bool _ = _; rw [hb19])) (wp_seq (wp_plain _ [0,0,0,4] rfl (lw_tv 1 rfl (q_nil rfl zN (q_fldP (p:=(.pointer (some ⟨g,0,none⟩))) (b:=g) (o:=0) 7 fd228_4 rfl rfl zN (e_setB (k:=7) (w:=w16) sz2 rfl rfl ⟨rfl,rfl⟩ hF14x16 sM zN fun w27 hC27 hz27 hB27=>?_))))))
   replace hB27:BX w27.heap g [vp,(.int .i64 ip),rc0,rg0,(.slice none 0 0),rv0,(.int .i64 ((s0 :Nat):Int)),(.int .i64 ((6 :Nat):Int))]:=hB27
   have hE27:Chg S w w27:=hE16.trans (hC27.sub (subS hgS))
   have hM27:=RcM.chg hM18 hC27
   have hG27:=hG18.set hgS hC27
   have hzs27:w16.heap.size≤w27.heap.size:=hC27.size
   have hF30:=hB12x16.chg hC27 (fun hm=>by have:=List.mem_singleton.1 hm; omega)
   exact lw_nil (wp_seq (wp_plain _ [0] rfl (lw_tvn 1 rfl (wp_ret (t_ret (post_ret [6] rfl (.int .i64 ((0 :Nat):Int)) rfl ⟨((0 :Nat):Int),_,T,((6 :Nat):Int),rfl,hG27,⟨_,_,_,hB27,hM27⟩,z251_2,oM,z251_1,oM,z251_0⟩))))))
 ·
  refine q_neq false rfl rfl (decide_eq_false hc10) zN (lw_nil (c_cond_f rfl (wp_skip (wp_seq (wp_draw _ [1,0,0,0,1,0,1,0,1,0,0,0,1,0,1,0,1,3,0,0,0,0,0] mixed (by kernel_rfl) (q_loadA (p:=(.pointer (some ⟨w.heap.size,0,none⟩))) (.inl rfl) [(.int .i64 op),(.int .i64 (ks.getD 0 0)),(.int .i64 (0:Int)),(.int .i64 (0:Int))] agg231 rfl (fun wq9 hw9=>LD.of_box (BX.ext (w:=w6.drew) hB6 hw9)) rfl zN (lw_tv 1 rfl (q_nil rfl zN (q_fldP (p:=(.pointer (some ⟨g,0,none⟩))) (b:=g) (o:=0) 5 fd228_2 rfl rfl zN (q_load (p:=(padd (.pointer (some ⟨g,0,none⟩)) 5)) (.inl rfl) rv0 one27 rfl (hF8.ldp (i:=5) sM) zN (q_fldP (p:=(.pointer (some ⟨w.heap.size,0,none⟩))) (b:=w.heap.size) (o:=0) 1 fd231_1 rfl rfl zN ?_)))))))))))
  refine q_load (p:=(padd (.pointer (some ⟨w.heap.size,0,none⟩)) 1)) (.inl rfl) (.int .i64 (ks.getD 0 0)) one2 rfl (hB6.ldp (i:=1) sM) zN (q_idx (v:=rv0) ((ks.getD 0 0).toNat) u27 ti2 rfl rfl (RcM.slv hM6) oM oM zN (q_load (p:=eptr rv0 ((ks.getD 0 0).toNat) 1) (.inl rfl) (.int .i64 (T.vals.getD ((ks.getD 0 0).toNat) 0)) one2 rfl ((RcM.rdv hM6).getI oM).1 zN (lw_tv 1 rfl (q_nil rfl zN (q_fldP (p:=(.pointer (some ⟨g,0,none⟩))) (b:=g) (o:=0) 5 fd228_2 rfl rfl zN (q_load (p:=(padd (.pointer (some ⟨g,0,none⟩)) 5)) (.inl rfl) rv0 one27 rfl (hF8.ldp (i:=5) sM) zN (q_fldP (p:=(.pointer (some ⟨w.heap.size,0,none⟩))) (b:=w.heap.size) (o:=0) 2 fd231_2 rfl rfl zN ?_)))))))
  refine q_load (p:=(padd (.pointer (some ⟨w.heap.size,0,none⟩)) 2)) (.inl rfl) (.int .i64 (0:Int)) one2 rfl (hB6.ldp (i:=2) sM) zN (q_idx (v:=rv0) (((0:Int)).toNat) u27 ti2 rfl rfl (RcM.slv hM6) oM oM zN (q_load (p:=eptr rv0 (((0:Int)).toNat) 1) (.inl rfl) (.int .i64 (T.vals.getD (((0:Int)).toNat) 0)) one2 rfl ((RcM.rdv hM6).getI oM).1 zN (lw_call 255 [] [] [(.agg #[(.int .i64 op),(.int .i64 (ks.getD 0 0)),(.int .i64 (0:Int)),(.int .i64 (0:Int))]),(.int .i64 (T.vals.getD ((ks.getD 0 0).toNat) 0)),(.int .i64 (T.vals.getD (((0:Int)).toNat) 0))] rfl rfl cf255 zN (c_impl_operated _ (op) (ks.getD 0 0) ((0:Int)) ((0:Int)) _ _ _hop hg1.2 oM oM ((RcM.rdv hM6).getI oM).2 ((RcM.rdv hM6).getI oM).2 oM) ?_)))
  rintro e32 w32 ⟨rfl,hX32⟩
  refine ⟨_,rfl,hX32,?_⟩
  replace hX32:=hX32.of_drew
  have hzs32:w6.heap.size≤w32.heap.size:=hX32.size
  have hE32:Chg S w w32:=hE6.ext hX32
  have hF8x32:=hF8.ext hX32
  have hB6x32:=hB6.ext hX32
  have hF33:=(RcM.rdv hM6).ext g1 hX32
  have hM34:=RcM.ext hM6 hX32
  have hG34:=hG6.ext hX32
  refine lw_tv 1 rfl (q_extract (vs:=[(.int .i64 (if opZ op (T.vals.getD (((0:Int)).toNat) 0) then 0 else opI op (T.vals.getD ((ks.getD 0 0).toNat) 0) (T.vals.getD (((0:Int)).toNat) 0))),(.bool (!decide (opZ op (T.vals.getD (((0:Int)).toNat) 0))))]) (.int .i64 (if opZ op (T.vals.getD (((0:Int)).toNat) 0) then 0 else opI op (T.vals.getD ((ks.getD 0 0).toNat) 0) (T.vals.getD (((0:Int)).toNat) 0))) rfl rfl zN (q_extract (vs:=[(.int .i64 (if opZ op (T.vals.getD (((0:Int)).toNat) 0) then 0 else opI op (T.vals.getD ((ks.getD 0 0).toNat) 0) (T.vals.getD (((0:Int)).toNat) 0))),(.bool (!decide (opZ op (T.vals.getD (((0:Int)).toNat) 0))))]) (.bool (!decide (opZ op (T.vals.getD (((0:Int)).toNat) 0)))) rfl rfl zN (lw_tvn 2 rfl (wp_seq (wp_seq (wp_plain _ [0,0] rfl ?_))))))
  have hvr:0≤(if opZ op (T.vals.getD (((0:Int)).toNat) 0) then 0 else opI op (T.vals.getD ((ks.getD 0 0).toNat) 0) (T.vals.getD (((0:Int)).toNat) 0))∧(if opZ op (T.vals.getD (((0:Int)).toNat) 0) then 0 else opI op (T.vals.getD ((ks.getD 0 0).toNat) 0) (T.vals.getD (((0:Int)).toNat) 0)) < 1000003:=opv_num _ _ _
  refine lw_tv 1 rfl (q_not (!(!decide (opZ op (T.vals.getD (((0:Int)).toNat) 0)))) rfl rfl zN (lw_nil ?_))
  cases hb35:(!(!decide (opZ op (T.vals.getD (((0:Int)).toNat) 0))))
  ·
   refine c_cond_f (by first | rfl | (show Value.bool _ = _; rw [hb35])) (wp_skip (wp_seq (wp_plain _ [0,2,0,4,0] rfl (lw_tv 1 rfl (q_loadA (p:=(.pointer (some ⟨w.heap.size,0,none⟩))) (.inr rfl) [(.int .i64 op),(.int .i64 (ks.getD 0 0)),(.int .i64 (0:Int)),(.int .i64 (0:Int))] agg231 rfl (fun wq9 hw9=>LD.of_box (BX.ext (w:=w32) hB6x32 hw9)) rfl zN (lw_tv 1 rfl ?_))))))
   refine lw_callE 217 [] [] [(.pointer (some ⟨g,0,none⟩)),(.agg #[(.int .i64 op),(.int .i64 (ks.getD 0 0)),(.int .i64 (0:Int)),(.int .i64 (0:Int))]),(.int .i64 (if opZ op (T.vals.getD (((0:Int)).toNat) 0) then 0 else opI op (T.vals.getD ((ks.getD 0 0).toNat) 0) (T.vals.getD (((0:Int)).toNat) 0)))] rfl rfl cf217 zN (c_impl_recorder_put _ S g vp ip (s0) (c0) (T) (⟨op,ks.getD 0 0,(0:Int),(0:Int)⟩:Ins) (if opZ op (T.vals.getD (((0:Int)).toNat) 0) then 0 else opI op (T.vals.getD ((ks.getD 0 0).toNat) 0) (T.vals.getD (((0:Int)).toNat) 0)) (fun b hb=>(hG34.lt b hb:b < w32.heap.size)) (hG34.sub _ hgS) ⟨_,_,_,hF8x32,hM34⟩ _hip (by exact hbd.ln hs0) ⟨_hop,hg1.2,(show i64 ((0:Int)) from by omega),(show i64 ((0:Int)) from by omega)⟩ (by have:=opI_num op (T.vals.getD ((ks.getD 0 0).toNat) 0) (T.vals.getD (((0:Int)).toNat) 0); split <;> omega)) ?_
   rintro e36 w36 ⟨S36,rfl,hGc36,vc36,vg36,vv36,hB36,hM36⟩
   refine ⟨_,rfl,?_⟩
   have hzs36:w32.heap.size≤w36.heap.size:=hGc36.chg.size
   have hE36:Chg S w w36:=hE32.stp hGc36.chg hG34.new
   have hF41:=hB6x32.chg hGc36.chg (fun hm=>z251_3)
   have hnhF41:w.heap.size∉S36:=fun hm=>(hGc36.new _ hm).elim (fun hm=>z251_3) (fun h9=>by omega)
   have hG36:=hG34.trans hGc36
   have hvl36:(T.put (⟨op,ks.getD 0 0,(0:Int),(0:Int)⟩:Ins) (if opZ op (T.vals.getD (((0:Int)).toNat) 0) then 0 else opI op (T.vals.getD ((ks.getD 0 0).toNat) 0) (T.vals.getD (((0:Int)).toNat) 0))).vals.length = T.vals.length + 1:=put_vl _ _ _
   have hgl36:(T.put (⟨op,ks.getD 0 0,(0:Int),(0:Int)⟩:Ins) (if opZ op (T.vals.getD (((0:Int)).toNat) 0) then 0 else opI op (T.vals.getD ((ks.getD 0 0).toNat) 0) (T.vals.getD (((0:Int)).toNat) 0))).grd.length = T.grd.length:=rfl
   exact lw_tvn 1 rfl (wp_ret (post_ret [6] rfl (.int .i64 ((T.vals.length :Nat):Int)) rfl ⟨((T.vals.length :Nat):Int),_,T.put (⟨op,ks.getD 0 0,(0:Int),(0:Int)⟩:Ins) (if opZ op (T.vals.getD (((0:Int)).toNat) 0) then 0 else opI op (T.vals.getD ((ks.getD 0 0).toNat) 0) (T.vals.getD (((0:Int)).toNat) 0)),c0,rfl,hG36,⟨_,_,_,hB36,hM36⟩,z251_2,oM,z251_1,oM,z251_0⟩))
  ·
   refine c_cond_t (by first | rfl | (show Value.bool _ = _; rw [hb35])) (wp_seq (wp_plain _ [0,0,0,4] rfl (lw_tv 1 rfl (q_nil rfl zN (q_fldP (p:=(.pointer (some ⟨g,0,none⟩))) (b:=g) (o:=0) 7 fd228_4 rfl rfl zN (e_setB (k:=7) (w:=w32) sz2 rfl rfl ⟨rfl,rfl⟩ hF8x32 sM zN fun w43 hC43 hz43 hB43=>?_))))))
   replace hB43:BX w43.heap g [vp,(.int .i64 ip),rc0,rg0,(.slice none 0 0),rv0,(.int .i64 ((s0 :Nat):Int)),(.int .i64 ((6 :Nat):Int))]:=hB43
   have hE43:Chg S w w43:=hE32.trans (hC43.sub (subS hgS))
   have hM43:=RcM.chg hM34 hC43
   have hG43:=hG34.set hgS hC43
   have hzs43:w32.heap.size≤w43.heap.size:=hC43.size
   have hF46:=hB6x32.chg hC43 (fun hm=>by have:=List.mem_singleton.1 hm; omega)
   exact lw_nil (wp_seq (wp_plain _ [0] rfl (lw_tvn 1 rfl (wp_ret (t_ret (post_ret [6] rfl (.int .i64 ((0 :Nat):Int)) rfl ⟨((0 :Nat):Int),_,T,((6 :Nat):Int),rfl,hG43,⟨_,_,_,hB43,hM43⟩,z251_2,oM,z251_1,oM,z251_0⟩))))))
theorem c_allg (F d:Nat) (IH:∀ d',d' < d→PVg F d'):PAg F d:=by
 intro w S g vp dp ip s0 c0 p T vl l vv env hS hgS hR0 hp hip hs0 hc0 hbd hl henv hqenv hvp hF hwf hdp hll hen
 exact c_impl_recorder_all w S F g vp dp ip s0 c0 p T d vl l vv env hS hgS hR0 hp hip hs0 hc0 hbd hl henv hqenv hvp hF hwf hdp hll hen IH
theorem z244_0 {p:Prop} (h:p:=by first | exact rg_code oM | exact rg_budget oM oM | exact rg_num hc00 hs1 oM | exact rg_var hc00 hs1 oM | exact rg_ifE hc00 hs1 oM oM hL1 oM | exact rg_if0 hc00 hs1 oM oM hL1 oM (by assumption) hL2 | exact rg_if1 hc00 hs1 oM oM hL1 oM (by assumption) hL2 | exact rg_let hc00 hs1 oM oM hL1 hL2 | exact rg_kidsE hc00 hs1 hkg.1 hkg.2.1 hkg.2.2.1 hkg.2.2.2 hKr oM | exact rg_call hc00 hs1 oM oM hKr oM hL2 | exact rg_loop hc00 hs1 oM oM hKr oM (rg_stop hrl9 oM oM) | exact rg_op hc00 hs1 hkg.1 hkg.2.1 hkg.2.2.1 hkg.2.2.2 oM oM hKr oM hL2):p:=h
theorem z244_1 {p:Prop} (h:p:=by first | (intro h9; exact absurd h9 oM) | assumption | (intro h9; omega) | (intro h9; have:=hkb9 h9; omega)):p:=h
theorem z244_2 {p:Prop} (h:p:=by first | assumption | exact hbd.up oM | exact TpB.guard (by assumption) _ _ oM):p:=h
theorem z244_3 {p:Prop} (h:p:=by first | assumption | exact hbd.put _ oM | exact TpB.dn (by assumption) oM oM):p:=h
theorem z244_4 {p:Prop} (h:p:=by have:=hG0.lt _ hm; omega):p:=h
theorem c_impl_recorder_reg (w:World) (S:List Nat) (F:Nat) (g:Nat) (vp:Value) (dp:Nat) (ip:Int) (s0:Nat) (c0:Int) (p:List Fn) (T:Tp) (dex:Nat) (ve:Value) (ex:Ex) (vv:Value) (env:List Int) (hS:∀ b∈S,b < w.heap.size) (hgS:g∈S) (hR0:RcS 231 255 2 S g w.heap vp ip T s0 c0) (hp:RP S dp w.heap vp p) (_hip:i64 ip) (hs0:s0≤3000) (hc0:0≤c0∧c0≤9) (hbd:TpB T s0) (hex:RX S dex w.heap ve ex) (henv:RN S (rdL rI) w.heap vv env) (hqenv:CapS vv) (hvp:VPr p) (hF:F≤p.length) (hwf:wf p ((F :Nat):Int) ex ((env.length :Nat):Int) = true) (hdp:env.length + ex.deep≤1000000) (hen:c0 = 0→EnB T env) (IH1:∀ F',F' < F→∀ d,PVg F' d) (IH2:∀ d',d' < dex→PVg F d') :
  Calls Tryz.prog 244 #[.pointer (some ⟨g,0,none⟩),(.agg #[(.int .i64 ex.kind),(.int .i64 ex.num),(.int .i64 ex.pick),(.int .i64 ex.count),ve]),vv] w (fun e w'=>∃ (r:Int) (S':List Nat) (T':Tp) (s1:Nat) (c1:Int),e = .returned (.int .i64 r)∧Grw S S' w w'∧RcS 231 255 2 S' g w'.heap vp ip T' s1 c1∧RgP T T' s0 s1 c1∧(c1 = 0→0≤r∧r < ((T'.vals.length :Nat):Int))∧(-9223372036854775808≤r∧r≤9223372036854775807)∧RelV (go c0 (rgE (rgC p F) ex env s0 T)) (r,T') s1 c1):=by
 refine calls_mk [.pointer (some ⟨g,0,none⟩),(.agg #[(.int .i64 ex.kind),(.int .i64 ex.num),(.int .i64 ex.pick),(.int .i64 ex.count),ve]),vv] 190 Tryz.func244 rfl rfl sM ?_
 have hE0:Chg S w w:=Chg.refl S w
 have hl_vp:=hp.lenle
 unfold maxLen at hl_vp
 have hl_ve:=hex.rn.lenle
 unfold maxLen at hl_ve
 have hl_vv:=henv.lenL
 unfold maxLen at hl_vv
 obtain ⟨rc0,rg0,rv0,hB0,hM0⟩:=hR0
 have hgl:=hB0.lt
 have hG0:Grw S S w w:=Grw.refl hS
 have hdk:=deep_kids ex
 refine wp_seq (wp_plain _ [3,0] rfl ?_)
 have hq2:=hB0.lt
 refine r_boxA (cs:=#[(.int .i64 ex.kind),(.int .i64 ex.num),(.int .i64 ex.pick),(.int .i64 ex.count),ve]) rfl zN fun w1 hX1 hz1 hB1=>?_
 have hzs1:w.heap.size≤w1.heap.size:=hX1.size
 have hE1:Chg S w w1:=hE0.ext hX1
 have hB0x1:=hB0.ext hX1
 have hM3:=RcM.ext hM0 hX1
 have hG3:=hG0.ext hX1
 replace hB1:BX w1.heap w.heap.size [(.int .i64 ex.kind),(.int .i64 ex.num),(.int .i64 ex.pick),(.int .i64 ex.count),ve]:=hB1
 refine lw_tvn 1 rfl (wp_seq (wp_seq (wp_plain _ [0,0,0,2,0] rfl (lw_tv 1 rfl (q_nil rfl zN (q_fldP (p:=(.pointer (some ⟨g,0,none⟩))) (b:=g) (o:=0) 7 fd228_4 rfl rfl zN (q_load (p:=(padd (.pointer (some ⟨g,0,none⟩)) 7)) (.inr rfl) (.int .i64 c0) one2 rfl (hB0x1.ldp (i:=7) sM) zN ?_)))))))
 by_cases hc4:c0≠((0 :Nat):Int)
 ·
  refine q_neq true rfl rfl (decide_eq_true hc4) zN (lw_nil (c_cond_t rfl (wp_seq (wp_plain _ [0] rfl (lw_tvn 1 rfl (wp_ret (t_ret ?_)))))))
  exact post_ret [6] rfl (.int .i64 ((0 :Nat):Int)) rfl ⟨((0 :Nat):Int),_,T,s0,c0,rfl,hG3,⟨_,_,_,hB0x1,hM3⟩,⟨z244_3,oM⟩,z244_1,oM,z244_0⟩
 ·
  refine q_neq false rfl rfl (decide_eq_false hc4) zN (lw_nil (c_cond_f rfl (wp_skip (wp_seq (wp_seq (wp_plain _ [0,0,0,2,0] rfl (lw_tv 1 rfl (q_nil rfl zN (q_fldP (p:=(.pointer (some ⟨g,0,none⟩))) (b:=g) (o:=0) 6 fd228_3 rfl rfl zN (q_load (p:=(padd (.pointer (some ⟨g,0,none⟩)) 6)) (.inr rfl) (.int .i64 ((s0 :Nat):Int)) one2 rfl (hB0x1.ldp (i:=6) sM) zN ?_))))))))))
  by_cases hc5:((s0 :Nat):Int) = ((3000 :Nat):Int)
  ·
   refine q_eql true rfl rfl (decide_eq_true hc5) zN (lw_nil (c_cond_t rfl (wp_seq (wp_plain _ [0,0,0,4] rfl (lw_tv 1 rfl (q_nil rfl zN (q_fldP (p:=(.pointer (some ⟨g,0,none⟩))) (b:=g) (o:=0) 7 fd228_4 rfl rfl zN (e_setB (k:=7) (w:=w1) sz2 rfl rfl ⟨rfl,rfl⟩ hB0x1 sM zN fun w6 hC6 hz6 hB6=>?_))))))))
   replace hB6:BX w6.heap g [vp,(.int .i64 ip),rc0,rg0,(.slice none 0 0),rv0,(.int .i64 ((s0 :Nat):Int)),(.int .i64 ((7 :Nat):Int))]:=hB6
   have hE6:Chg S w w6:=hE1.trans (hC6.sub (subS hgS))
   have hM6:=RcM.chg hM3 hC6
   have hG6:=hG3.set hgS hC6
   have hzs6:w1.heap.size≤w6.heap.size:=hC6.size
   have hF10:=hB1.chg hC6 (fun hm=>by have:=List.mem_singleton.1 hm; omega)
   refine lw_nil (wp_seq (wp_plain _ [0] rfl (lw_tvn 1 rfl (wp_ret (t_ret ?_)))))
   exact post_ret [6] rfl (.int .i64 ((0 :Nat):Int)) rfl ⟨((0 :Nat):Int),_,T,s0,((7 :Nat):Int),rfl,hG6,⟨_,_,_,hB6,hM6⟩,⟨z244_3,oM⟩,z244_1,oM,z244_0⟩
  ·
   refine q_eql false rfl rfl (decide_eq_false hc5) zN (lw_nil (c_cond_f rfl (wp_skip (wp_seq (wp_plain _ [0,0,0,2,0,0,0,4] rfl (lw_tv 1 rfl (q_nil rfl zN (q_fldP (p:=(.pointer (some ⟨g,0,none⟩))) (b:=g) (o:=0) 6 fd228_3 rfl rfl zN (q_load (p:=(padd (.pointer (some ⟨g,0,none⟩)) 6)) (.inr rfl) (.int .i64 ((s0 :Nat):Int)) one2 rfl (hB0x1.ldp (i:=6) sM) zN (q_add ((s0 + 1 :Nat):Int) rfl rfl (w64n oM oM) zN (q_nil rfl zN (q_fldP (p:=(.pointer (some ⟨g,0,none⟩))) (b:=g) (o:=0) 6 fd228_3 rfl rfl zN (e_setB (k:=6) (w:=w1) sz2 rfl rfl ⟨rfl,rfl⟩ hB0x1 sM zN fun w11 hC11 hz11 hB11=>?_)))))))))))))
   replace hB11:BX w11.heap g [vp,(.int .i64 ip),rc0,rg0,(.slice none 0 0),rv0,(.int .i64 ((s0 + 1 :Nat):Int)),(.int .i64 c0)]:=hB11
   have hE11:Chg S w w11:=hE1.trans (hC11.sub (subS hgS))
   have hM11:=RcM.chg hM3 hC11
   have hG11:=hG3.set hgS hC11
   have hzs11:w1.heap.size≤w11.heap.size:=hC11.size
   have hF15:=hB1.chg hC11 (fun hm=>by have:=List.mem_singleton.1 hm; omega)
   refine lw_nil (wp_seq (wp_seq (wp_plain _ [0,2] rfl ?_)))
   have hc00:c0 = 0:=by omega
   have hs1:s0 + 1≤3000:=by omega
   have hen0:=hen hc00
   have hbd1:=hbd.up (s':=s0 + 1) oM
   have hbn:=hbd.2
   refine q_fldP (p:=(.pointer (some ⟨w.heap.size,0,none⟩))) (b:=w.heap.size) (o:=0) 0 fd174_0 rfl rfl zN (q_load (p:=(padd (.pointer (some ⟨w.heap.size,0,none⟩)) 0)) (.inr rfl) (.int .i64 ex.kind) one2 rfl (hF15.ldp (i:=0) sM) zN (lw_nil (wp_block (wp_seq (wp_plain _ [0,0] rfl ?_)))))
   by_cases hc16:ex.kind = ((1 :Nat):Int)
   ·
    refine q_eql true rfl rfl (decide_eq_true hc16) zN (lw_tvn 1 rfl (c_cond_t rfl (wp_seq (wp_plain _ [0,0,2,0,0,2,4,0] rfl ?_))))
    have hwk:=wk_num hwf oM
    refine lw_tv 1 rfl (q_fldP (p:=(.pointer (some ⟨w.heap.size,0,none⟩))) (b:=w.heap.size) (o:=0) 1 fd174_1 rfl rfl zN (q_load (p:=(padd (.pointer (some ⟨w.heap.size,0,none⟩)) 1)) (.inr rfl) (.int .i64 ex.num) one2 rfl (hF15.ldp (i:=1) sM) zN ?_))
    have hbd17:∀ (wq:World),(Instr.build 231 #[(0,(.int .i64 ((2 :Nat):Int))),(3,(.int .i64 ex.num))]).run Tryz.prog wq = .ok (.agg #[(.int .i64 ((2 :Nat):Int)),(.int .i64 0),(.int .i64 0),(.int .i64 ex.num)]) wq:=by intro wq; kernel_rfl
    refine q_build (ps:=#[(0,(.int .i64 ((2 :Nat):Int))),(3,(.int .i64 ex.num))]) (.agg #[(.int .i64 ((2 :Nat):Int)),(.int .i64 0),(.int .i64 0),(.int .i64 ex.num)]) (by simp only [List.map_toArray,List.map_cons,List.map_nil]; rfl) (fun wq=>hbd17  wq) zN (q_fldP (p:=(.pointer (some ⟨w.heap.size,0,none⟩))) (b:=w.heap.size) (o:=0) 1 fd174_1 rfl rfl zN (q_load (p:=(padd (.pointer (some ⟨w.heap.size,0,none⟩)) 1)) (.inr rfl) (.int .i64 ex.num) one2 rfl (hF15.ldp (i:=1) sM) zN ?_))
    refine lw_callE 217 [] [] [(.pointer (some ⟨g,0,none⟩)),(.agg #[(.int .i64 ((2 :Nat):Int)),(.int .i64 (0:Int)),(.int .i64 (0:Int)),(.int .i64 ex.num)]),(.int .i64 ex.num)] rfl rfl cf217 zN (c_impl_recorder_put _ S g vp ip (s0 + 1) (c0) (T) (⟨((2 :Nat):Int),(0:Int),(0:Int),ex.num⟩:Ins) (ex.num) (fun b hb=>(hG11.lt b hb:b < w11.heap.size)) (hG11.sub _ hgS) ⟨_,_,_,hB11,hM11⟩ _hip (by exact TpB.ln (by assumption) oM) ⟨(show i64 (((2 :Nat):Int)) from by omega),(show i64 ((0:Int)) from by omega),(show i64 ((0:Int)) from by omega),hex.rng.num⟩ hex.rng.num) ?_
    rintro e18 w18 ⟨S18,rfl,hGc18,vc18,vg18,vv18,hB18,hM18⟩
    refine ⟨_,rfl,?_⟩
    have hzs18:w11.heap.size≤w18.heap.size:=hGc18.chg.size
    have hE18:Chg S w w18:=hE11.stp hGc18.chg hG11.new
    have hF24:=hF15.chg hGc18.chg (fun hm=>z244_4)
    have hnhF24:w.heap.size∉S18:=fun hm=>(hGc18.new _ hm).elim (fun hm=>z244_4) (fun h9=>by omega)
    have hG18:=hG11.trans hGc18
    have hvl18:(T.put (⟨((2 :Nat):Int),(0:Int),(0:Int),ex.num⟩:Ins) (ex.num)).vals.length = T.vals.length + 1:=put_vl _ _ _
    have hgl18:(T.put (⟨((2 :Nat):Int),(0:Int),(0:Int),ex.num⟩:Ins) (ex.num)).grd.length = T.grd.length:=rfl
    refine lw_tvn 1 rfl (wp_ret (b_ret (t_ret ?_)))
    exact post_ret [6] rfl (.int .i64 ((T.vals.length :Nat):Int)) rfl ⟨((T.vals.length :Nat):Int),_,T.put (⟨((2 :Nat):Int),(0:Int),(0:Int),ex.num⟩:Ins) (ex.num),s0 + 1,c0,rfl,hG18,⟨_,_,_,hB18,hM18⟩,⟨z244_3,oM⟩,z244_1,oM,z244_0⟩
   ·
    refine q_eql false rfl rfl (decide_eq_false hc16) zN (lw_tvn 1 rfl (c_cond_f rfl (wp_seq (wp_plain _ [0,0] rfl ?_))))
    by_cases hc25:ex.kind = ((2 :Nat):Int)
    ·
     refine q_eql true rfl rfl (decide_eq_true hc25) zN (lw_tvn 1 rfl (c_cond_t rfl (wp_seq (wp_plain _ [0,0,2,0,2,0] rfl ?_))))
     have hwk:=wk_var hwf oM
     have hRv:=hen0 ex.num.toNat oM
     refine lw_tv 1 rfl (q_fldP (p:=(.pointer (some ⟨w.heap.size,0,none⟩))) (b:=w.heap.size) (o:=0) 1 fd174_1 rfl rfl zN (q_load (p:=(padd (.pointer (some ⟨w.heap.size,0,none⟩)) 1)) (.inr rfl) (.int .i64 ex.num) one2 rfl (hF15.ldp (i:=1) sM) zN (q_idx (v:=vv) ((ex.num).toNat) u27 ti2 rfl rfl henv.slL oM oM zN ?_)))
     have hg26:=RN.getI (w:=w) (k:=(ex.num).toNat) henv oM
     refine q_load (p:=eptr vv ((ex.num).toNat) 1) (.inr rfl) (.int .i64 (env.getD ((ex.num).toNat) 0)) one2 rfl (hg26.1 _ hE11) zN (lw_tvn 1 rfl (wp_ret (b_ret (t_ret ?_))))
     exact post_ret [6] rfl (.int .i64 (env.getD ((ex.num).toNat) 0)) rfl ⟨env.getD ((ex.num).toNat) 0,_,T,s0 + 1,c0,rfl,hG11,⟨_,_,_,hB11,hM11⟩,⟨z244_3,oM⟩,z244_1,(by exact hg26.2),z244_0⟩
    ·
     refine q_eql false rfl rfl (decide_eq_false hc25) zN (lw_tvn 1 rfl (c_cond_f rfl (wp_seq (wp_plain _ [0,0] rfl ?_))))
     by_cases hc27:ex.kind = ((8 :Nat):Int)
     ·
      refine q_eql true rfl rfl (decide_eq_true hc27) zN (lw_tvn 1 rfl (c_cond_t rfl (wp_seq (wp_plain _ [0,0,2,0,2,0,4,0] rfl ?_))))
      have hwk:=wk_if hwf oM
      refine lw_tv 1 rfl (q_fldP (p:=(.pointer (some ⟨w.heap.size,0,none⟩))) (b:=w.heap.size) (o:=0) 4 fd174_4 rfl rfl zN (q_load (p:=(padd (.pointer (some ⟨w.heap.size,0,none⟩)) 4)) (.inr rfl) ve one53 rfl (hF15.ldp (i:=4) sM) zN (q_idx (v:=ve) 0 u53 tiS174 rfl rfl hex.rn.isSl rfl sD zN ?_)))
      obtain ⟨cs28,hr28,hl28⟩:=hex.rn.get (good_rEx dex) Ex.zero (k:=0) sD
      obtain ⟨dd28,ve28,hd28,rfl,hx28⟩:=RX.of hr28
      have hln28:=hx28.rn.lenle
      unfold maxLen at hln28
      refine q_loadA (p:=eptr ve 0 5) (.inr rfl) [(.int .i64 ((ex.kids.getD 0 Ex.zero).kind)),(.int .i64 ((ex.kids.getD 0 Ex.zero).num)),(.int .i64 ((ex.kids.getD 0 Ex.zero).pick)),(.int .i64 ((ex.kids.getD 0 Ex.zero).count)),ve28] agg174 rfl (fun wq9 hw9=>hl28 wq9 (hE11.ext hw9)) rfl zN (lw_tv 1 rfl ?_)
      refine lw_callE 244 [] [] [(.pointer (some ⟨g,0,none⟩)),(.agg #[(.int .i64 ((ex.kids.getD 0 Ex.zero).kind)),(.int .i64 ((ex.kids.getD 0 Ex.zero).num)),(.int .i64 ((ex.kids.getD 0 Ex.zero).pick)),(.int .i64 ((ex.kids.getD 0 Ex.zero).count)),ve28]),vv] rfl rfl cf244 zN (IH2 dd28 oM _ S g vp dp ip (s0 + 1) (c0) p (T) ve28 (ex.kids.getD 0 Ex.zero) vv (env) (fun b hb=>(hG11.lt b hb:b < w11.heap.size)) (hG11.sub _ hgS) ⟨_,_,_,hB11,hM11⟩ (RN.stp (good_rdS (good_rFn dp)) hp hE11 hG11.new) _hip oM oM z244_2 ⟨hx28.rng,(RN.stp (good_rdS (good_rEx dd28)) hx28.rn hE11 hG11.new)⟩ (RN.stp g1 henv hE11 hG11.new) hqenv (by exact hvp) oM (by exact wf_at0 hwf oM oM) (by have:=kd_at (l:=ex.kids) (k:=0) oM; omega) (by exact fun _=>hen0)) ?_
      rintro e29 w29 ⟨r29,S29,T29,s29,c29,rfl,hGc29,⟨vc29,vg29,vv29,hB29,hM29⟩,hq29,hrv29,hri29,hrl29⟩
      refine ⟨_,rfl,?_⟩
      have hzs29:w11.heap.size≤w29.heap.size:=hGc29.chg.size
      have hE29:Chg S w w29:=hE11.stp hGc29.chg hG11.new
      have hF35:=hF15.chg hGc29.chg (fun hm=>z244_4)
      have hnhF35:w.heap.size∉S29:=fun hm=>(hGc29.new _ hm).elim (fun hm=>z244_4) (fun h9=>by omega)
      have hG29:=hG11.trans hGc29
      have hbd29:=hq29.bnd
      have hnm29:=hq29.num
      have hR1:=hrv29
      have hL1:=hrl29
      refine lw_tvn 1 rfl (wp_seq (wp_seq (wp_plain _ [0,0,0,2,0] rfl (lw_tv 1 rfl (q_nil rfl zN (q_fldP (p:=(.pointer (some ⟨g,0,none⟩))) (b:=g) (o:=0) 7 fd228_4 rfl rfl zN (q_load (p:=(padd (.pointer (some ⟨g,0,none⟩)) 7)) (.inr rfl) (.int .i64 c29) one2 rfl (hB29.ldp (i:=7) sM) zN ?_)))))))
      by_cases hc37:c29≠((0 :Nat):Int)
      ·
       refine q_neq true rfl rfl (decide_eq_true hc37) zN (lw_nil (c_cond_t rfl (wp_seq (wp_plain _ [0] rfl (lw_tvn 1 rfl (wp_ret (t_ret (b_ret (t_ret ?_)))))))))
       exact post_ret [6] rfl (.int .i64 ((0 :Nat):Int)) rfl ⟨((0 :Nat):Int),_,T29,s29,c29,rfl,hG29,⟨_,_,_,hB29,hM29⟩,⟨z244_3,oM⟩,z244_1,oM,z244_0⟩
      ·
       refine q_neq false rfl rfl (decide_eq_false hc37) zN (lw_nil (c_cond_f rfl (wp_skip (wp_seq (wp_plain _ [0,0,0,2,0,0,2,0,0] rfl ?_)))))
       have hR1c:=hR1 oM
       refine lw_tv 1 rfl (q_nil rfl zN (q_fldP (p:=(.pointer (some ⟨g,0,none⟩))) (b:=g) (o:=0) 5 fd228_2 rfl rfl zN (q_load (p:=(padd (.pointer (some ⟨g,0,none⟩)) 5)) (.inr rfl) vv29 one27 rfl (hB29.ldp (i:=5) sM) zN (lw_tv 1 rfl (q_idx (v:=vv29) ((r29).toNat) u27 ti2 rfl rfl (RcM.slv hM29) oM oM zN (q_load (p:=eptr vv29 ((r29).toNat) 1) (.inr rfl) (.int .i64 (T29.vals.getD ((r29).toNat) 0)) one2 rfl ((RcM.rdv hM29).getI oM).1 zN (q_eql (decide (T29.vals.getD ((r29).toNat) 0 = ((0 :Nat):Int))) rfl rfl rfl zN (lw_tvn 1 rfl (wp_seq ?_)))))))))
       obtain ⟨Fc38,Fg38,Fv38,hOc38,hOg38,hOv38,hdj38,hgn38,hSc38,hSg38,hSv38⟩:=id hM29
       refine wp_plain _ [0,0,0,0,0,2,0,0,0,3,4,0,0,0,4] rfl (lw_tv 2 rfl (q_nil rfl zN (q_fldP (p:=(.pointer (some ⟨g,0,none⟩))) (b:=g) (o:=0) 1 fd228_1 rfl rfl zN (q_fldP (p:=(padd (.pointer (some ⟨g,0,none⟩)) 1)) (b:=g) (o:=1) 2 fd199_2 rfl rfl zN (q_load (p:=(padd (padd (.pointer (some ⟨g,0,none⟩)) 1) 2)) (.inr rfl) vg29 one197 rfl (hB29.ldp (i:=3) sM) zN (lw_tv 2 rfl ?_))))))
       have hbd39:∀ (wq:World),(Instr.build 255 #[(0,(.int .i64 r29)),(1,(.bool (decide (T29.vals.getD ((r29).toNat) 0 = ((0 :Nat):Int)))))]).run Tryz.prog wq = .ok (.agg #[(.int .i64 r29),(.bool (decide (T29.vals.getD ((r29).toNat) 0 = ((0 :Nat):Int))))]) wq:=by intro wq; kernel_rfl
       refine q_build (ps:=#[(0,(.int .i64 r29)),(1,(.bool (decide (T29.vals.getD ((r29).toNat) 0 = ((0 :Nat):Int)))))]) (.agg #[(.int .i64 r29),(.bool (decide (T29.vals.getD ((r29).toNat) 0 = ((0 :Nat):Int))))]) (by simp only [List.map_toArray,List.map_cons,List.map_nil]; rfl) (fun wq=>hbd39  wq) zN (r_oneS (cs:=[(.int .i64 r29),(.bool (decide (T29.vals.getD ((r29).toNat) 0 = ((0 :Nat):Int))))]) (y:=(⟨r29,decide (T29.vals.getD ((r29).toNat) 0 = ((0 :Nat):Int))⟩:Grd)) (B:=w29.heap.size) good_rGd u197 tiS255 rfl (by decide) rfl (frN_gd (x:=(⟨r29,decide (T29.vals.getD ((r29).toNat) 0 = ((0 :Nat):Int))⟩:Grd)) (B:=w29.heap.size) (U:=w29.heap.size) hri29) (Nat.le_refl _) zN fun v40 w40 hX40 hz40 hO40=>?_)
       have hzs40:w29.heap.size≤w40.heap.size:=hX40.size
       have hE40:Chg S w w40:=hE29.ext hX40
       have hB29x40:=hB29.ext hX40
       have hF35x40:=hF35.ext hX40
       have hF41:=(RcM.rdv hM29).ext g1 hX40
       have hG40:=hG29.ext hX40
       have hOc38x:=hOc38.ext (good_owS good_rIn) hX40
       have hOg38x:=hOg38.ext (good_owS good_rGd) hX40
       have hOv38x:=hOv38.ext (good_owL good_rI) hX40
       refine e_appT (v:=vg29) (a:=v40) good_rGd u197 tiS255 rfl (by decide) rfl rfl hOg38x hO40 (Nat.le_refl _) (Nat.zero_le _) (Nat.zero_le _) oM (by unfold maxLen; omega) zN fun v42 w42 F42 hC42 hO42 hU42=>?_
       have hzs42:w40.heap.size≤w42.heap.size:=hC42.size
       obtain ⟨S42,hSe42⟩:∃ l:List Nat,l = F42++S29:=⟨_,rfl⟩
       have hGc42:Grw S29 S42 w29 w42:=by rw [hSe42]; exact ⟨fun b hb=>List.mem_append_right _ hb,fun b hb=>by rcases List.mem_append.1 hb with hb | hb; (rcases hU42 b hb with h9 | h9 | h9; exact .inl (hSg38 b h9); (have:=hX40.size; omega); (have:=hX40.size; omega)); exact .inl hb,fun b hb=>by rcases List.mem_append.1 hb with hb | hb; exact hO42.high b hb; (have:=hG40.lt b hb; omega),(Chg.of_ext _ hX40).trans (hC42.sub hSg38)⟩
       have hM42:RcM 231 255 2 S42 g w42.heap vc29 v42 vv29 (T29.guard (r29) (decide (T29.vals.getD ((r29).toNat) 0 = ((0 :Nat):Int)))):=⟨Fc38,F42,Fv38,(hOc38x.up hX40.size).chgS (good_owS good_rIn) hC42 (fun b hb hm=>hdj38.1 b hm hb),hO42,(hOv38x.up hX40.size).chgS (good_owL good_rI) hC42 (fun b hb hm=>hdj38.2.2 b hb hm),⟨fun b hb hm=>by rcases hU42 b hm with h9 | h9 | h9; exact hdj38.1 b hb h9; (have:=hOc38.high b hb; omega); (have:=hOc38.high b hb; have:=hX40.size; omega),hdj38.2.1,fun b hm hb=>by rcases hU42 b hm with h9 | h9 | h9; exact hdj38.2.2 b h9 hb; (have:=hOv38.high b hb; omega); (have:=hOv38.high b hb; have:=hX40.size; omega)⟩,⟨hgn38.1,fun hm=>by rcases hU42 g hm with h9 | h9 | h9; exact hgn38.2.1 h9; omega; omega,hgn38.2.2⟩,by rw [hSe42]; exact ⟨fun b hb=>List.mem_append_right _ (hSc38 b hb),fun b hb=>List.mem_append_left _ hb,fun b hb=>List.mem_append_right _ (hSv38 b hb)⟩⟩
       have hB42:=hB29x40.chg hC42 hgn38.2.1
       have hzs42:w29.heap.size≤w42.heap.size:=hGc42.chg.size
       have hE42:Chg S w w42:=hE29.stp hGc42.chg hG29.new
       have hF47:=hF35.chg hGc42.chg (fun hm=>hnhF35 hm)
       have hnhF47:w.heap.size∉S42:=fun hm=>(hGc42.new _ hm).elim (fun hm=>hnhF35 hm) (fun h9=>by omega)
       have hG42:=hG29.trans hGc42
       have hgv42:(T29.guard (r29) (decide (T29.vals.getD ((r29).toNat) 0 = ((0 :Nat):Int)))).vals.length = T29.vals.length:=rfl
       have hgg42:(T29.guard (r29) (decide (T29.vals.getD ((r29).toNat) 0 = ((0 :Nat):Int)))).grd.length = T29.grd.length + 1:=guard_gl _ _ _
       refine q_nil rfl zN (q_fldP (p:=(.pointer (some ⟨g,0,none⟩))) (b:=g) (o:=0) 1 fd228_1 rfl rfl zN (q_fldP (p:=(padd (.pointer (some ⟨g,0,none⟩)) 1)) (b:=g) (o:=1) 2 fd199_2 rfl rfl zN (e_setB (k:=3) (w:=w42) sz197 rfl rfl (isSl_one hM42.slg) hB42 sM zN fun w51 hC51 hz51 hB51=>?_)))
       replace hB51:BX w51.heap g [vp,(.int .i64 ip),vc29,v42,(.slice none 0 0),vv29,(.int .i64 ((s29 :Nat):Int)),(.int .i64 c29)]:=hB51
       have hE51:Chg S w w51:=hE42.trans (hC51.sub (subS hgS))
       have hM51:=RcM.chg hM42 hC51
       have hG51:=hG42.set hgS hC51
       have hzs51:w42.heap.size≤w51.heap.size:=hC51.size
       have hF55:=hF47.chg hC51 (fun hm=>by have:=List.mem_singleton.1 hm; omega)
       refine lw_nil (wp_seq (wp_seq (wp_plain _ [0] rfl (lw_tvn 1 rfl ?_))))
       cases hb58:(decide (T29.vals.getD ((r29).toNat) 0 = ((0 :Nat):Int)))
       ·
        have hdc59:=of_decide_eq_false hb58
        refine c_cond_f (by first | rfl | (show Value.bool _ = _; rw [hb58])) (wp_skip (wp_seq (wp_plain _ [0,0,2,0,2,0,4,0] rfl (lw_tv 1 rfl (q_fldP (p:=(.pointer (some ⟨w.heap.size,0,none⟩))) (b:=w.heap.size) (o:=0) 4 fd174_4 rfl rfl zN (q_load (p:=(padd (.pointer (some ⟨w.heap.size,0,none⟩)) 4)) (.inr rfl) ve one53 rfl (hF55.ldp (i:=4) sM) zN (q_idx (v:=ve) 2 u53 tiS174 rfl rfl hex.rn.isSl rfl sD zN ?_)))))))
        obtain ⟨cs60,hr60,hl60⟩:=hex.rn.get (good_rEx dex) Ex.zero (k:=2) sD
        obtain ⟨dd60,ve60,hd60,rfl,hx60⟩:=RX.of hr60
        have hln60:=hx60.rn.lenle
        unfold maxLen at hln60
        refine q_loadA (p:=eptr ve 2 5) (.inr rfl) [(.int .i64 ((ex.kids.getD 2 Ex.zero).kind)),(.int .i64 ((ex.kids.getD 2 Ex.zero).num)),(.int .i64 ((ex.kids.getD 2 Ex.zero).pick)),(.int .i64 ((ex.kids.getD 2 Ex.zero).count)),ve60] agg174 rfl (fun wq9 hw9=>hl60 wq9 (hE51.ext hw9)) rfl zN (lw_tv 1 rfl ?_)
        refine lw_callE 244 [] [] [(.pointer (some ⟨g,0,none⟩)),(.agg #[(.int .i64 ((ex.kids.getD 2 Ex.zero).kind)),(.int .i64 ((ex.kids.getD 2 Ex.zero).num)),(.int .i64 ((ex.kids.getD 2 Ex.zero).pick)),(.int .i64 ((ex.kids.getD 2 Ex.zero).count)),ve60]),vv] rfl rfl cf244 zN (IH2 dd60 oM _ S42 g vp dp ip (s29) (c29) p (T29.guard (r29) (decide (T29.vals.getD ((r29).toNat) 0 = ((0 :Nat):Int)))) ve60 (ex.kids.getD 2 Ex.zero) vv (env) (fun b hb=>(hG51.lt b hb:b < w51.heap.size)) (hG51.sub _ hgS) ⟨_,_,_,hB51,hM51⟩ (RN.stp (good_rdS (good_rFn dp)) hp hE51 hG51.new) _hip oM oM z244_2 ⟨hx60.rng,(RN.stp (good_rdS (good_rEx dd60)) hx60.rn hE51 hG51.new)⟩ (RN.stp g1 henv hE51 hG51.new) hqenv (by exact hvp) oM (by exact wf_at0 hwf oM oM) (by have:=kd_at (l:=ex.kids) (k:=2) oM; omega) (by exact fun _=>hen0.mono (by simp only [guard_vl]; omega))) ?_
        rintro e61 w61 ⟨r61,S61,T61,s61,c61,rfl,hGc61,⟨vc61,vg61,vv61,hB61,hM61⟩,hq61,hrv61,hri61,hrl61⟩
        refine ⟨_,rfl,?_⟩
        have hzs61:w51.heap.size≤w61.heap.size:=hGc61.chg.size
        have hE61:Chg S w w61:=hE51.stp hGc61.chg hG51.new
        have hF66:=hF55.chg hGc61.chg (fun hm=>hnhF47 hm)
        have hnhF66:w.heap.size∉S61:=fun hm=>(hGc61.new _ hm).elim (fun hm=>hnhF47 hm) (fun h9=>by omega)
        have hG61:=hG51.trans hGc61
        have hbd61:=hq61.bnd
        have hnm61:=hq61.num
        have hRv:=hrv61
        have hL2:=hrl61
        refine lw_tvn 1 rfl (wp_ret (b_ret (t_ret ?_)))
        exact post_ret [6] rfl (.int .i64 r61) rfl ⟨r61,_,T61,s61,c61,rfl,hG61,⟨_,_,_,hB61,hM61⟩,⟨z244_3,oM⟩,z244_1,(by exact hri61),z244_0⟩
       ·
        have hdc71:=of_decide_eq_true hb58
        refine c_cond_t (by first | rfl | (show Value.bool _ = _; rw [hb58])) (wp_seq (wp_plain _ [0,0,2,0,2,0,4,0] rfl (lw_tv 1 rfl (q_fldP (p:=(.pointer (some ⟨w.heap.size,0,none⟩))) (b:=w.heap.size) (o:=0) 4 fd174_4 rfl rfl zN (q_load (p:=(padd (.pointer (some ⟨w.heap.size,0,none⟩)) 4)) (.inr rfl) ve one53 rfl (hF55.ldp (i:=4) sM) zN (q_idx (v:=ve) 1 u53 tiS174 rfl rfl hex.rn.isSl rfl sD zN ?_))))))
        obtain ⟨cs72,hr72,hl72⟩:=hex.rn.get (good_rEx dex) Ex.zero (k:=1) sD
        obtain ⟨dd72,ve72,hd72,rfl,hx72⟩:=RX.of hr72
        have hln72:=hx72.rn.lenle
        unfold maxLen at hln72
        refine q_loadA (p:=eptr ve 1 5) (.inr rfl) [(.int .i64 ((ex.kids.getD 1 Ex.zero).kind)),(.int .i64 ((ex.kids.getD 1 Ex.zero).num)),(.int .i64 ((ex.kids.getD 1 Ex.zero).pick)),(.int .i64 ((ex.kids.getD 1 Ex.zero).count)),ve72] agg174 rfl (fun wq9 hw9=>hl72 wq9 (hE51.ext hw9)) rfl zN (lw_tv 1 rfl ?_)
        refine lw_callE 244 [] [] [(.pointer (some ⟨g,0,none⟩)),(.agg #[(.int .i64 ((ex.kids.getD 1 Ex.zero).kind)),(.int .i64 ((ex.kids.getD 1 Ex.zero).num)),(.int .i64 ((ex.kids.getD 1 Ex.zero).pick)),(.int .i64 ((ex.kids.getD 1 Ex.zero).count)),ve72]),vv] rfl rfl cf244 zN (IH2 dd72 oM _ S42 g vp dp ip (s29) (c29) p (T29.guard (r29) (decide (T29.vals.getD ((r29).toNat) 0 = ((0 :Nat):Int)))) ve72 (ex.kids.getD 1 Ex.zero) vv (env) (fun b hb=>(hG51.lt b hb:b < w51.heap.size)) (hG51.sub _ hgS) ⟨_,_,_,hB51,hM51⟩ (RN.stp (good_rdS (good_rFn dp)) hp hE51 hG51.new) _hip oM oM z244_2 ⟨hx72.rng,(RN.stp (good_rdS (good_rEx dd72)) hx72.rn hE51 hG51.new)⟩ (RN.stp g1 henv hE51 hG51.new) hqenv (by exact hvp) oM (by exact wf_at0 hwf oM oM) (by have:=kd_at (l:=ex.kids) (k:=1) oM; omega) (by exact fun _=>hen0.mono (by simp only [guard_vl]; omega))) ?_
        rintro e73 w73 ⟨r73,S73,T73,s73,c73,rfl,hGc73,⟨vc73,vg73,vv73,hB73,hM73⟩,hq73,hrv73,hri73,hrl73⟩
        refine ⟨_,rfl,?_⟩
        have hzs73:w51.heap.size≤w73.heap.size:=hGc73.chg.size
        have hE73:Chg S w w73:=hE51.stp hGc73.chg hG51.new
        have hF78:=hF55.chg hGc73.chg (fun hm=>hnhF47 hm)
        have hnhF78:w.heap.size∉S73:=fun hm=>(hGc73.new _ hm).elim (fun hm=>hnhF47 hm) (fun h9=>by omega)
        have hG73:=hG51.trans hGc73
        have hbd73:=hq73.bnd
        have hnm73:=hq73.num
        have hRv:=hrv73
        have hL2:=hrl73
        refine lw_tvn 1 rfl (wp_ret (t_ret (b_ret (t_ret ?_))))
        exact post_ret [6] rfl (.int .i64 r73) rfl ⟨r73,_,T73,s73,c73,rfl,hG73,⟨_,_,_,hB73,hM73⟩,⟨z244_3,oM⟩,z244_1,(by exact hri73),z244_0⟩
     ·
      refine q_eql false rfl rfl (decide_eq_false hc27) zN (lw_tvn 1 rfl (c_cond_f rfl (wp_seq (wp_plain _ [0,0] rfl ?_))))
      by_cases hc83:ex.kind = ((9 :Nat):Int)
      ·
       refine q_eql true rfl rfl (decide_eq_true hc83) zN (lw_tvn 1 rfl (c_cond_t rfl (wp_seq ?_)))
       letI:JR:=jrC S
       refine Jx.wp_draw _ [0,0,1,0,1,0,0,0,0,1,0,1,0,3,3,3,4,0] mixed (by kernel_rfl) ?_
       have hwk:=wk_let hwf oM
       refine Jx.q_move (.pointer (some ⟨g,0,none⟩)) rfl zN (Jx.q_fldP (p:=(.pointer (some ⟨w.heap.size,0,none⟩))) (b:=w.heap.size) (o:=0) 4 fd174_4 rfl rfl zN (Jx.q_loadJ (p:=(padd (.pointer (some ⟨w.heap.size,0,none⟩)) 4)) ve one53 rfl (fun wj hj=>(BX.chg (w:=w11.drew) (F:=S) hF15 hj (fun hm=>by have:=hS _ hm; omega)).ldp (i:=4) sM) zN (Jx.q_idx (v:=ve) 1 u53 tiS174 rfl rfl hex.rn.isSl rfl sD zN ?_)))
       obtain ⟨cs84,hr84,hl84⟩:=hex.rn.get (good_rEx dex) Ex.zero (k:=1) sD
       obtain ⟨dd84,ve84,hd84,rfl,hx84⟩:=RX.of hr84
       have hln84:=hx84.rn.lenle
       unfold maxLen at hln84
       refine Jx.q_loadAJ (p:=eptr ve 1 5) [(.int .i64 ((ex.kids.getD 1 Ex.zero).kind)),(.int .i64 ((ex.kids.getD 1 Ex.zero).num)),(.int .i64 ((ex.kids.getD 1 Ex.zero).pick)),(.int .i64 ((ex.kids.getD 1 Ex.zero).count)),ve84] agg174 rfl (fun wj hj=>hl84 wj (Chg.trans hE11.drew (show Chg S w11.drew wj from hj))) rfl zN (Jx.q_move vv rfl zN (Jx.lw_callq 250 [] [] [vv] rfl rfl cf250 zN (clipV vv) (fun wq=>c_slices_Clip___int64_int64_ wq vv _ henv.slL hqenv) (Jx.q_move (.pointer (some ⟨g,0,none⟩)) rfl zN (Jx.q_fldP (p:=(.pointer (some ⟨w.heap.size,0,none⟩))) (b:=w.heap.size) (o:=0) 4 fd174_4 rfl rfl zN (Jx.q_loadJ (p:=(padd (.pointer (some ⟨w.heap.size,0,none⟩)) 4)) ve one53 rfl (fun wj hj=>(BX.chg (w:=w11.drew) (F:=S) hF15 hj (fun hm=>by have:=hS _ hm; omega)).ldp (i:=4) sM) zN ?_)))))
       refine Jx.q_idx (v:=ve) 0 u53 tiS174 rfl rfl hex.rn.isSl rfl sD zN ?_
       obtain ⟨cs85,hr85,hl85⟩:=hex.rn.get (good_rEx dex) Ex.zero (k:=0) sD
       obtain ⟨dd85,ve85,hd85,rfl,hx85⟩:=RX.of hr85
       have hln85:=hx85.rn.lenle
       unfold maxLen at hln85
       refine Jx.q_loadAJ (p:=eptr ve 0 5) [(.int .i64 ((ex.kids.getD 0 Ex.zero).kind)),(.int .i64 ((ex.kids.getD 0 Ex.zero).num)),(.int .i64 ((ex.kids.getD 0 Ex.zero).pick)),(.int .i64 ((ex.kids.getD 0 Ex.zero).count)),ve85] agg174 rfl (fun wj hj=>hl85 wj (Chg.trans hE11.drew (show Chg S w11.drew wj from hj))) rfl zN (Jx.q_move vv rfl zN ?_)
       refine Jx.lw_call 244 [] [] [(.pointer (some ⟨g,0,none⟩)),(.agg #[(.int .i64 ((ex.kids.getD 0 Ex.zero).kind)),(.int .i64 ((ex.kids.getD 0 Ex.zero).num)),(.int .i64 ((ex.kids.getD 0 Ex.zero).pick)),(.int .i64 ((ex.kids.getD 0 Ex.zero).count)),ve85]),vv] rfl rfl cf244 zN (IH2 dd85 oM _ S g vp dp ip (s0 + 1) (c0) p (T) ve85 (ex.kids.getD 0 Ex.zero) vv (env) (fun b hb=>(hG11.drew.lt b hb:b < w11.heap.size)) (hG11.drew.sub _ hgS) ⟨_,_,_,hB11,hM11⟩ (RN.stp (good_rdS (good_rFn dp)) hp hE11.drew hG11.drew.new) _hip oM oM z244_2 ⟨hx85.rng,(RN.stp (good_rdS (good_rEx dd85)) hx85.rn hE11.drew hG11.drew.new)⟩ (RN.stp g1 henv hE11.drew hG11.drew.new) hqenv (by exact hvp) oM (by exact wf_at0 hwf oM oM) (by have:=kd_at (l:=ex.kids) (k:=0) oM; omega) (by exact fun _=>hen0)) ?_
       rintro e86 w86 ⟨r86,S86,T86,s86,c86,rfl,hGc86,⟨vc86,vg86,vv86,hB86,hM86⟩,hq86,hrv86,hri86,hrl86⟩
       refine ⟨_,rfl,hGc86.chg,?_⟩
       replace hGc86:=hGc86.of_drew
       have hzs86:w11.heap.size≤w86.heap.size:=hGc86.chg.size
       have hE86:Chg S w w86:=hE11.stp hGc86.chg hG11.new
       have hF92:=hF15.chg hGc86.chg (fun hm=>z244_4)
       have hnhF92:w.heap.size∉S86:=fun hm=>(hGc86.new _ hm).elim (fun hm=>z244_4) (fun h9=>by omega)
       have hG86:=hG11.trans hGc86
       have hbd86:=hq86.bnd
       have hnm86:=hq86.num
       have hR1:=hrv86
       have hL1:=hrl86
       refine Jx.lift3m (r_one (u:=(.int .i64 r86)) (B:=w86.heap.size) good_rV u27 ti2 rfl rfl (frV w86.heap.size w86.heap.size _ ⟨rfl,rfl⟩) (Nat.le_refl _) zN ?_)
       intro v95 w95 hX95 hz95 hO95
       refine lw_nil ?_
       have hzs95:w86.heap.size≤w95.heap.size:=hX95.size
       have hE95:Chg S w w95:=hE86.ext hX95
       have hB86x95:=hB86.ext hX95
       have hF92x95:=hF92.ext hX95
       have hM96:=RcM.ext hM86 hX95
       have hG96:=hG86.ext hX95
       refine Jx.lift3 (e_appCI (v:=vv) (a:=v95) (u:=.int .i64 (r86)) (r:=r86) u27 ti2 rfl rfl rfl (RN.stp g1 henv hE95 hG96.new) hO95 ⟨[],⟨rfl,rfl,hri86⟩,fun b hb=>by cases hb⟩ (fun b hb=>(hG96.lt b hb:b < w95.heap.size)) oM (by unfold maxLen; omega) zN ?_)
       intro v97 w97 hX97 hr97 hcp97
       refine lw_nil ⟨JR.ext hX97,?_⟩
       have hzs97:w95.heap.size≤w97.heap.size:=hX97.size
       have hE97:Chg S w w97:=hE95.ext hX97
       have hB86x97:=hB86x95.ext hX97
       have hF92x97:=hF92x95.ext hX97
       have hM98:=RcM.ext hM96 hX97
       have hG98:=hG96.ext hX97
       refine Jx.tail rfl ?_
       refine lw_callE 244 [] [] [(.pointer (some ⟨g,0,none⟩)),(.agg #[(.int .i64 ((ex.kids.getD 1 Ex.zero).kind)),(.int .i64 ((ex.kids.getD 1 Ex.zero).num)),(.int .i64 ((ex.kids.getD 1 Ex.zero).pick)),(.int .i64 ((ex.kids.getD 1 Ex.zero).count)),ve84]),v97] rfl rfl cf244 zN (IH2 dd84 oM _ S86 g vp dp ip (s86) (c86) p (T86) ve84 (ex.kids.getD 1 Ex.zero) v97 (env++[r86]) (fun b hb=>(hG98.lt b hb:b < w97.heap.size)) (hG98.sub _ hgS) ⟨_,_,_,hB86x97,hM98⟩ (RN.stp (good_rdS (good_rFn dp)) hp hE97 hG98.new) _hip oM oM z244_2 ⟨hx84.rng,(RN.stp (good_rdS (good_rEx dd84)) hx84.rn hE97 hG98.new)⟩ hr97 hcp97 (by exact hvp) oM (by have h9:=wf_at1 hwf oM oM; rw [List.length_append,List.length_singleton]; exact h9) (by have:=kd_at (l:=ex.kids) (k:=1) oM; rw [List.length_append,List.length_singleton]; omega) (by exact fun h9=>EnB.snoc (hen0.mono oM) (hR1 h9))) ?_
       rintro e99 w99 ⟨r99,S99,T99,s99,c99,rfl,hGc99,⟨vc99,vg99,vv99,hB99,hM99⟩,hq99,hrv99,hri99,hrl99⟩
       refine ⟨_,rfl,?_⟩
       have hzs99:w97.heap.size≤w99.heap.size:=hGc99.chg.size
       have hE99:Chg S w w99:=hE97.stp hGc99.chg hG98.new
       have hF105:=hF92x97.chg hGc99.chg (fun hm=>hnhF92 hm)
       have hnhF105:w.heap.size∉S99:=fun hm=>(hGc99.new _ hm).elim (fun hm=>hnhF92 hm) (fun h9=>by omega)
       have hF108:=RN.stp g1 hr97 hGc99.chg hGc99.new
       have hG99:=hG98.trans hGc99
       have hbd99:=hq99.bnd
       have hnm99:=hq99.num
       have hRv:=hrv99
       have hL2:=hrl99
       refine lw_tvn 1 rfl (wp_ret (b_ret (t_ret ?_)))
       exact post_ret [6] rfl (.int .i64 r99) rfl ⟨r99,_,T99,s99,c99,rfl,hG99,⟨_,_,_,hB99,hM99⟩,⟨z244_3,oM⟩,z244_1,(by exact hri99),z244_0⟩
      ·
       refine q_eql false rfl rfl (decide_eq_false hc83) zN (lw_tvn 1 rfl (c_cond_f rfl (wp_skip (wp_seq (wp_plain _ [0,0,2,0,4,0] rfl ?_)))))
       have hkg:ex.kind≠1∧ex.kind≠2∧ex.kind≠8∧ex.kind≠9:=by omega
       have hk6:=wk_len hwf hvp hF
       refine lw_tv 1 rfl (q_fldP (p:=(.pointer (some ⟨w.heap.size,0,none⟩))) (b:=w.heap.size) (o:=0) 4 fd174_4 rfl rfl zN (q_load (p:=(padd (.pointer (some ⟨w.heap.size,0,none⟩)) 4)) (.inr rfl) ve one53 rfl (hF15.ldp (i:=4) sM) zN (lw_tv 1 rfl ?_)))
       refine lw_callE 218 [] [] [(.pointer (some ⟨g,0,none⟩)),ve,vv] rfl rfl cf218 zN (c_allg F dex (fun d9 h9=>IH2 d9 oM) _ S g vp dp ip (s0 + 1) (c0) p (T) ve (ex.kids) vv (env) (fun b hb=>(hG11.lt b hb:b < w11.heap.size)) (hG11.sub _ hgS) ⟨_,_,_,hB11,hM11⟩ (RN.stp (good_rdS (good_rFn dp)) hp hE11 hG11.new) _hip oM oM z244_2 (RN.stp (good_rdS (good_rEx dex)) hex.rn hE11 hG11.new) (RN.stp g1 henv hE11 hG11.new) hqenv (by exact hvp) oM (by intro k hk; exact wf_at0 hwf hk oM) (by intro k hk; have:=kd_at (l:=ex.kids) (k:=k) hk; omega) oM (by exact fun _=>hen0)) ?_
       rintro e109 w109 ⟨v109,xs109,S109,T109,s109,c109,rfl,hGc109,⟨vc109,vg109,vv109,hB109,hM109⟩,hq109,hr109,hcp109,hxl109,hxb109,hrl109⟩
       refine ⟨_,rfl,?_⟩
       have hzs109:w11.heap.size≤w109.heap.size:=hGc109.chg.size
       have hE109:Chg S w w109:=hE11.stp hGc109.chg hG11.new
       have hF115:=hF15.chg hGc109.chg (fun hm=>z244_4)
       have hnhF115:w.heap.size∉S109:=fun hm=>(hGc109.new _ hm).elim (fun hm=>z244_4) (fun h9=>by omega)
       have hG109:=hG11.trans hGc109
       have hbd109:=hq109.bnd
       have hnm109:=hq109.num
       have hKr:=hrl109
       have hKb:=hxb109
       have hKl:=hxl109
       have hrr109:=hr109.rn
       refine lw_tvn 1 rfl (wp_seq (wp_seq (wp_plain _ [0,0,0,2,0] rfl (lw_tv 1 rfl (q_nil rfl zN (q_fldP (p:=(.pointer (some ⟨g,0,none⟩))) (b:=g) (o:=0) 7 fd228_4 rfl rfl zN (q_load (p:=(padd (.pointer (some ⟨g,0,none⟩)) 7)) (.inr rfl) (.int .i64 c109) one2 rfl (hB109.ldp (i:=7) sM) zN ?_)))))))
       by_cases hc116:c109≠((0 :Nat):Int)
       ·
        refine q_neq true rfl rfl (decide_eq_true hc116) zN (lw_nil (c_cond_t rfl (wp_seq (wp_plain _ [0] rfl (lw_tvn 1 rfl (wp_ret (t_ret ?_)))))))
        exact post_ret [6] rfl (.int .i64 ((0 :Nat):Int)) rfl ⟨((0 :Nat):Int),_,T109,s109,c109,rfl,hG109,⟨_,_,_,hB109,hM109⟩,⟨z244_3,oM⟩,z244_1,oM,z244_0⟩
       ·
        refine q_neq false rfl rfl (decide_eq_false hc116) zN (lw_nil (c_cond_f rfl (wp_skip (wp_seq (wp_seq (wp_plain _ [0,2] rfl (q_fldP (p:=(.pointer (some ⟨w.heap.size,0,none⟩))) (b:=w.heap.size) (o:=0) 0 fd174_0 rfl rfl zN (q_load (p:=(padd (.pointer (some ⟨w.heap.size,0,none⟩)) 0)) (.inr rfl) (.int .i64 ex.kind) one2 rfl (hF115.ldp (i:=0) sM) zN (lw_nil (wp_block (wp_seq (wp_plain _ [0,0] rfl ?_))))))))))))
        by_cases hc117:ex.kind = ((10 :Nat):Int)
        ·
         refine q_eql true rfl rfl (decide_eq_true hc117) zN (lw_tvn 1 rfl (c_cond_t rfl (wp_seq (wp_draw _ [0,0,0,0,0,1,0,1,0,0,1,0,1,0,1,0,4,0] mixed (by kernel_rfl) ?_))))
         have hwk:=wk_call hwf oM
         refine lw_tv 2 rfl ?_
         have hvo:=hvp.outs (ex.num).toNat oM
         have hvd:=hvp.deep (ex.num).toNat oM (ex.pick).toNat oM
         refine q_nil rfl zN (q_fldP (p:=(.pointer (some ⟨g,0,none⟩))) (b:=g) (o:=0) 0 fd228_0 rfl rfl zN (q_fldP (p:=(padd (.pointer (some ⟨g,0,none⟩)) 0)) (b:=g) (o:=0) 0 fd26_0 rfl rfl zN (q_load (p:=(padd (padd (.pointer (some ⟨g,0,none⟩)) 0) 0)) (.inl rfl) vp one24 rfl (hB109.ldp (i:=0) sM) zN (q_fldP (p:=(.pointer (some ⟨w.heap.size,0,none⟩))) (b:=w.heap.size) (o:=0) 1 fd174_1 rfl rfl zN (q_load (p:=(padd (.pointer (some ⟨w.heap.size,0,none⟩)) 1)) (.inl rfl) (.int .i64 ex.num) one2 rfl (hF115.ldp (i:=1) sM) zN ?_)))))
         refine q_idx (v:=vp) ((ex.num).toNat) u24 tiS55 rfl rfl hp.isSl oM sD zN ?_
         obtain ⟨cs118,hr118,hl118⟩:=hp.get (good_rFn dp) Fn.zero (k:=((ex.num).toNat)) sD
         obtain ⟨ve118,rfl,hx118⟩:=RF.of hr118
         have hln118:=hx118.rn.lenle
         unfold maxLen at hln118
         refine q_fldL (p:=eptr vp ((ex.num).toNat) 3) 2 fd55_2 rfl (hl118 _ hE109.drew) zN (q_load (p:=(padd (eptr vp ((ex.num).toNat) 3) 2)) (.inl rfl) ve118 one53 rfl ((hl118 _ hE109.drew).ld (i:=2) (by simp [exC,fnC])) zN (q_fldP (p:=(.pointer (some ⟨w.heap.size,0,none⟩))) (b:=w.heap.size) (o:=0) 2 fd174_2 rfl rfl zN (q_load (p:=(padd (.pointer (some ⟨w.heap.size,0,none⟩)) 2)) (.inl rfl) (.int .i64 ex.pick) one2 rfl (hF115.ldp (i:=2) sM) zN ?_)))
         refine q_idx (v:=ve118) ((ex.pick).toNat) u53 tiS174 rfl rfl hx118.rn.isSl oM sD zN ?_
         obtain ⟨cs119,hr119,hl119⟩:=hx118.rn.get (good_rEx dp) Ex.zero (k:=((ex.pick).toNat)) sD
         obtain ⟨dd119,ve119,hd119,rfl,hx119⟩:=RX.of hr119
         have hln119:=hx119.rn.lenle
         unfold maxLen at hln119
         refine q_loadA (p:=eptr ve118 ((ex.pick).toNat) 5) (.inl rfl) [(.int .i64 ((((p.getD ((ex.num).toNat) Fn.zero).outs).getD ((ex.pick).toNat) Ex.zero).kind)),(.int .i64 ((((p.getD ((ex.num).toNat) Fn.zero).outs).getD ((ex.pick).toNat) Ex.zero).num)),(.int .i64 ((((p.getD ((ex.num).toNat) Fn.zero).outs).getD ((ex.pick).toNat) Ex.zero).pick)),(.int .i64 ((((p.getD ((ex.num).toNat) Fn.zero).outs).getD ((ex.pick).toNat) Ex.zero).count)),ve119] agg174 rfl (fun wq9 hw9=>hl119 wq9 (hE109.drew.ext hw9)) rfl zN (lw_tv 1 rfl ?_)
         refine lw_callE 244 [] [] [(.pointer (some ⟨g,0,none⟩)),(.agg #[(.int .i64 ((((p.getD ((ex.num).toNat) Fn.zero).outs).getD ((ex.pick).toNat) Ex.zero).kind)),(.int .i64 ((((p.getD ((ex.num).toNat) Fn.zero).outs).getD ((ex.pick).toNat) Ex.zero).num)),(.int .i64 ((((p.getD ((ex.num).toNat) Fn.zero).outs).getD ((ex.pick).toNat) Ex.zero).pick)),(.int .i64 ((((p.getD ((ex.num).toNat) Fn.zero).outs).getD ((ex.pick).toNat) Ex.zero).count)),ve119]),v109] rfl rfl cf244 zN (IH1 (ex.num).toNat oM dd119 _ S109 g vp dp ip (s109) (c109) p (T109) ve119 (((p.getD ((ex.num).toNat) Fn.zero).outs).getD ((ex.pick).toNat) Ex.zero) v109 (xs109) (fun b hb=>(hG109.drew.lt b hb:b < w109.heap.size)) (hG109.drew.sub _ hgS) ⟨_,_,_,hB109,hM109⟩ (RN.stp (good_rdS (good_rFn dp)) hp hE109.drew hG109.drew.new) _hip oM oM z244_2 ⟨hx119.rng,(RN.stp (good_rdS (good_rEx dd119)) hx119.rn hE109.drew hG109.drew.new)⟩ hrr109 hcp109 (by exact hvp) oM (by have h9:=hvp.wf (ex.num).toNat oM (ex.pick).toNat oM; rw [show ((xs109.length :Nat):Int) = (p.getD (ex.num).toNat Fn.zero).params from by omega]; exact h9) oM (by exact hKb)) ?_
         rintro e120 w120 ⟨r120,S120,T120,s120,c120,rfl,hGc120,⟨vc120,vg120,vv120,hB120,hM120⟩,hq120,hrv120,hri120,hrl120⟩
         refine ⟨_,rfl,?_⟩
         replace hGc120:=hGc120.of_drew
         have hzs120:w109.heap.size≤w120.heap.size:=hGc120.chg.size
         have hE120:Chg S w w120:=hE109.stp hGc120.chg hG109.new
         have hF126:=hF115.chg hGc120.chg (fun hm=>hnhF115 hm)
         have hnhF126:w.heap.size∉S120:=fun hm=>(hGc120.new _ hm).elim (fun hm=>hnhF115 hm) (fun h9=>by omega)
         have hF127:=RN.stp g1 hrr109 hGc120.chg hGc120.new
         have hG120:=hG109.trans hGc120
         have hbd120:=hq120.bnd
         have hnm120:=hq120.num
         have hRv:=hrv120
         have hL2:=hrl120
         refine lw_tvn 1 rfl (wp_ret (b_ret (t_ret ?_)))
         exact post_ret [6] rfl (.int .i64 r120) rfl ⟨r120,_,T120,s120,c120,rfl,hG120,⟨_,_,_,hB120,hM120⟩,⟨z244_3,oM⟩,z244_1,(by exact hri120),z244_0⟩
        ·
         refine q_eql false rfl rfl (decide_eq_false hc117) zN (lw_tvn 1 rfl (c_cond_f rfl (wp_seq (wp_plain _ [0,0] rfl ?_))))
         by_cases hc130:ex.kind = ((11 :Nat):Int)
         ·
          refine q_eql true rfl rfl (decide_eq_true hc130) zN (lw_tvn 1 rfl (c_cond_t rfl (wp_seq (wp_seq (wp_plain _ [0] rfl ?_)))))
          have hwk:=wk_call hwf oM
          have hwl:=wk_loop hwf oM
          refine lw_tvn 1 rfl (wp_block ?_)
          have hMs:=hM109
          have hGs:=hG109
          have hns:w.heap.size∉S109:=fun hm=>hnhF115 hm
          refine c_loop (S:=Nat × Value × List Int × List Nat × Tp × Nat × Int × Value × Value × Value) (fun (⟨i,vk,ks,S9,T9,s9,c9,vc9,vg9,vv9⟩:Nat × Value × List Int × List Nat × Tp × Nat × Int × Value × Value × Value)=>([(9,vk),(10,(.int .i64 ((i :Nat):Int))),(0,(.pointer (some ⟨g,0,none⟩))),(4,(.pointer (some ⟨w.heap.size,0,none⟩)))]:List (Nat × Value))) (fun (⟨i,vk,ks,S9,T9,s9,c9,vc9,vg9,vv9⟩:Nat × Value × List Int × List Nat × Tp × Nat × Int × Value × Value × Value) (W:World)=>Chg S w W∧BX W.heap g [vp,.int .i64 ip,vc9,vg9,.slice none 0 0,vv9,.int .i64 ((s9 :Nat):Int),.int .i64 c9]∧BX W.heap w.heap.size [(.int .i64 ex.kind),(.int .i64 ex.num),(.int .i64 ex.pick),(.int .i64 ex.count),ve]∧i≤(ex.count).toNat∧w.heap.size∉S9∧Grw S S9 w W∧RcM 231 255 2 S9 g W.heap vc9 vg9 vv9 T9∧RgP T T9 s0 s9 c9∧RN S9 (rdL rI) W.heap vk ks∧CapS vk∧ks.length = (p.getD (ex.num).toNat Fn.zero).outs.length∧(c9 = 0→EnB T9 ks)∧RelV (lopg (fun a t U=>rgs (rgC p (ex.num).toNat) (p.getD (ex.num).toNat Fn.zero).outs a t U) i xs109 s109 T109) (ks,T9) s9 c9) (fun (⟨i,vk,ks,S9,T9,s9,c9,vc9,vg9,vv9⟩:Nat × Value × List Int × List Nat × Tp × Nat × Int × Value × Value × Value)=>(ex.count).toNat - i) (0,v109,xs109,S109,T109,s109,c109,vc109,vg109,vv109) ⟨rfl,rfl,rfl,rfl,trivial⟩ ⟨hE109,hB109,hF115,oM,(by exact hns),(by exact hGs),(by exact hMs),(by exact ⟨by assumption,by omega⟩),(by assumption),(by assumption),oM,(by exact hKb),(by exact ⟨rfl,rfl,by omega⟩)⟩ ?_
          clear hE0 hM0 hG0 hz1 hX1 hzs1 hE1 hM3 hG3 hz11 hC11 hE11 hM11 hG11 hzs11 hF15 hM109 hzs109 hE109 hF115 hG109
          rintro ⟨i,vk,ks,S9,T9,s9,c9,vc9,vg9,vv9⟩ ρ131 w131 ⟨hE131,hL131_0,hL131_1,hp131_0,hnb,hGl,hMl,hPl,hrk,hck,hkl,hkb,hrl9⟩
          have hzs131:w.heap.size≤w131.heap.size:=hE131.size
          have hq132:=hL131_0.lt
          have hq133:=hL131_1.lt
          have hnl:=hPl.num
          have hbl:=hPl.bnd
          refine wp_seq (wp_seq (wp_plain _ [0,0,2,0,0,0,0,0,2,0,0] rfl (lw_tv 1 rfl (q_fldP (p:=(.pointer (some ⟨w.heap.size,0,none⟩))) (b:=w.heap.size) (o:=0) 3 fd174_3 rfl rfl zN (q_load (p:=(padd (.pointer (some ⟨w.heap.size,0,none⟩)) 3)) (.inr rfl) (.int .i64 ex.count) one2 rfl (hL131_1.ldp (i:=3) sM) zN ?_)))))
          by_cases hc134:((i :Nat):Int) < ex.count
          ·
           refine q_lss true rfl rfl (decide_eq_true hc134) zN (lw_tv 2 rfl (q_nil rfl (zS (e:=156) rfl rfl rfl) (q_fldP (p:=(.pointer (some ⟨g,0,none⟩))) (b:=g) (o:=0) 7 fd228_4 rfl rfl (zS (e:=156) rfl rfl rfl) (q_load (p:=(padd (.pointer (some ⟨g,0,none⟩)) 7)) (.inr rfl) (.int .i64 c9) one2 rfl (hL131_0.ldp (i:=7) sM) (zS (e:=156) rfl rfl rfl) ?_))))
           by_cases hc135:c9 = ((0 :Nat):Int)
           ·
            refine q_eql true rfl rfl (decide_eq_true hc135) (zS (e:=156) rfl rfl rfl) (lw_tvn 1 rfl (c_cond_t rfl (wp_skip (wp_seq (wp_block (wp_draw _ [0,0,0,0,0,1,0,1,0,0,1,0,4,0] mixed (by kernel_rfl) (lw_tv 2 rfl ?_)))))))
            have hvo:=hvp.outs (ex.num).toNat oM
            refine q_nil rfl zN (q_fldP (p:=(.pointer (some ⟨g,0,none⟩))) (b:=g) (o:=0) 0 fd228_0 rfl rfl zN (q_fldP (p:=(padd (.pointer (some ⟨g,0,none⟩)) 0)) (b:=g) (o:=0) 0 fd26_0 rfl rfl zN (q_load (p:=(padd (padd (.pointer (some ⟨g,0,none⟩)) 0) 0)) (.inl rfl) vp one24 rfl (hL131_0.ldp (i:=0) sM) zN (q_fldP (p:=(.pointer (some ⟨w.heap.size,0,none⟩))) (b:=w.heap.size) (o:=0) 1 fd174_1 rfl rfl zN (q_load (p:=(padd (.pointer (some ⟨w.heap.size,0,none⟩)) 1)) (.inl rfl) (.int .i64 ex.num) one2 rfl (hL131_1.ldp (i:=1) sM) zN ?_)))))
            refine q_idx (v:=vp) ((ex.num).toNat) u24 tiS55 rfl rfl hp.isSl oM sD zN ?_
            obtain ⟨cs136,hr136,hl136⟩:=hp.get (good_rFn dp) Fn.zero (k:=((ex.num).toNat)) sD
            obtain ⟨ve136,rfl,hx136⟩:=RF.of hr136
            have hln136:=hx136.rn.lenle
            unfold maxLen at hln136
            refine q_fldL (p:=eptr vp ((ex.num).toNat) 3) 2 fd55_2 rfl (hl136 _ hE131.drew) zN (q_load (p:=(padd (eptr vp ((ex.num).toNat) 3) 2)) (.inl rfl) ve136 one53 rfl ((hl136 _ hE131.drew).ld (i:=2) (by simp [exC,fnC])) zN (lw_tv 1 rfl ?_))
            refine lw_callE 218 [] [] [(.pointer (some ⟨g,0,none⟩)),ve136,vk] rfl rfl cf218 zN (c_allg (ex.num).toNat dp (fun d9 h9=>IH1 (ex.num).toNat oM d9) _ S9 g vp dp ip (s9) (c9) p (T9) ve136 ((p.getD ((ex.num).toNat) Fn.zero).outs) vk (ks) (fun b hb=>(hGl.drew.lt b hb:b < w131.heap.size)) (hGl.drew.sub _ hgS) ⟨_,_,_,hL131_0,hMl⟩ (RN.stp (good_rdS (good_rFn dp)) hp hE131.drew hGl.drew.new) _hip oM oM z244_2 (RN.stp (good_rdS (good_rEx dp)) hx136.rn hE131.drew hGl.drew.new) hrk hck (by exact hvp) oM (by intro k hk; have h9:=hvp.wf (ex.num).toNat oM k hk; rw [show ((ks.length :Nat):Int) = (p.getD (ex.num).toNat Fn.zero).params from by omega]; exact h9) (by intro k hk; have:=hvp.deep (ex.num).toNat oM k hk; omega) oM (by exact hkb)) ?_
            rintro e137 w137 ⟨v137,xs137,S137,T137,s137,c137,rfl,hGc137,⟨vc137,vg137,vv137,hB137,hM137⟩,hq137,hr137,hcp137,hxl137,hxb137,hrl137⟩
            refine ⟨_,rfl,?_⟩
            replace hGc137:=hGc137.of_drew
            have hzs137:w131.heap.size≤w137.heap.size:=hGc137.chg.size
            have hE137:Chg S w w137:=hE131.stp hGc137.chg hGl.new
            have hF142:=hL131_1.chg hGc137.chg (fun hm=>hnb hm)
            have hnhF142:w.heap.size∉S137:=fun hm=>(hGc137.new _ hm).elim (fun hm=>hnb hm) (fun h9=>by omega)
            have hF144:=RN.stp g1 hrk hGc137.chg hGc137.new
            have hG137:=hGl.trans hGc137
            have hbd137:=hq137.bnd
            have hnm137:=hq137.num
            have hrr137:=hr137.rn
            refine lw_tvn 1 rfl (wp_plain _ [0,0,0] rfl (lw_tv 1 rfl (q_add ((i + 1 :Nat):Int) rfl rfl (w64n oM oM) zN (lw_tvn 1 rfl ?_))))
            have hMe:=hM137
            have hGe:=hG137
            have hPe:RgP T T137 s0 s137 c137:=⟨by assumption,by omega⟩
            have hne:w.heap.size∉S137:=fun hm=>hnhF142 hm
            exact ⟨((i + 1),v137,xs137,S137,T137,s137,c137,vc137,vg137,vv137),_,rfl,⟨rfl,rfl,rfl,rfl,trivial⟩,⟨hE137,hB137,hF142,oM,(by exact hne),(by exact hGe),(by exact hMe),(by exact hPe),(by assumption),(by assumption),oM,(by assumption),(by exact rg_lop hrl9 oM (by assumption))⟩,by first | omega | (dsimp only; omega)⟩
           ·
            refine q_eql false rfl rfl (decide_eq_false hc135) (zS (e:=156) rfl rfl rfl) (lw_tvn 1 rfl (c_cond_f rfl (wp_exit (t_exit (t_exit (c_exit_here (wp_seq (wp_plain _ [0,0,2,0,2,0] rfl ?_))))))))
            have hkb9:=fun h9:c9 = 0=>hkb h9 (ex.pick).toNat oM
            refine lw_tv 1 rfl (q_fldP (p:=(.pointer (some ⟨w.heap.size,0,none⟩))) (b:=w.heap.size) (o:=0) 2 fd174_2 rfl rfl zN (q_load (p:=(padd (.pointer (some ⟨w.heap.size,0,none⟩)) 2)) (.inr rfl) (.int .i64 ex.pick) one2 rfl (hL131_1.ldp (i:=2) sM) zN (q_idx (v:=vk) ((ex.pick).toNat) u27 ti2 rfl rfl hrk.slL oM oM zN ?_)))
            have hg146:=RN.getI (w:=w131) (k:=(ex.pick).toNat) hrk oM
            refine q_load (p:=eptr vk ((ex.pick).toNat) 1) (.inr rfl) (.int .i64 (ks.getD ((ex.pick).toNat) 0)) one2 rfl (hg146.1 _ (Chg.refl _ _)) zN (lw_tvn 1 rfl (wp_ret (b_ret (t_ret ?_))))
            exact post_ret [6] rfl (.int .i64 (ks.getD ((ex.pick).toNat) 0)) rfl ⟨ks.getD ((ex.pick).toNat) 0,_,T9,s9,c9,rfl,hGl,⟨_,_,_,hL131_0,hMl⟩,⟨z244_3,oM⟩,z244_1,(by exact hg146.2),z244_0⟩
          ·
           refine q_lss false rfl rfl (decide_eq_false hc134) zN (lw_tvn 7 rfl (c_cond_f rfl (wp_exit (t_exit (t_exit (c_exit_here (wp_seq (wp_plain _ [0,0,2,0,2,0] rfl ?_))))))))
           have hkb9:=fun h9:c9 = 0=>hkb h9 (ex.pick).toNat oM
           refine lw_tv 1 rfl (q_fldP (p:=(.pointer (some ⟨w.heap.size,0,none⟩))) (b:=w.heap.size) (o:=0) 2 fd174_2 rfl rfl zN (q_load (p:=(padd (.pointer (some ⟨w.heap.size,0,none⟩)) 2)) (.inr rfl) (.int .i64 ex.pick) one2 rfl (hL131_1.ldp (i:=2) sM) zN (q_idx (v:=vk) ((ex.pick).toNat) u27 ti2 rfl rfl hrk.slL oM oM zN ?_)))
           have hg147:=RN.getI (w:=w131) (k:=(ex.pick).toNat) hrk oM
           refine q_load (p:=eptr vk ((ex.pick).toNat) 1) (.inr rfl) (.int .i64 (ks.getD ((ex.pick).toNat) 0)) one2 rfl (hg147.1 _ (Chg.refl _ _)) zN (lw_tvn 1 rfl (wp_ret (b_ret (t_ret ?_))))
           exact post_ret [6] rfl (.int .i64 (ks.getD ((ex.pick).toNat) 0)) rfl ⟨ks.getD ((ex.pick).toNat) 0,_,T9,s9,c9,rfl,hGl,⟨_,_,_,hL131_0,hMl⟩,⟨z244_3,oM⟩,z244_1,(by exact hg147.2),z244_0⟩
         ·
          refine q_eql false rfl rfl (decide_eq_false hc130) zN (lw_tvn 1 rfl (c_cond_f rfl (wp_skip (wp_seq (wp_plain _ [0,0,2,0,0,0,4,0] rfl ?_)))))
          have hkb9:=hKb oM
          have hk3:3≤ex.kind∧ex.kind≤7:=by have:=(wfN_all (wf_node hwf)).1; omega
          have hkl:1≤ex.kids.length∧(ex.kind≠7→2≤ex.kids.length):=by by_cases h7:ex.kind = 7; (have:=wk_neg hwf h7; omega); (have:=wk_op2 hwf oM; omega)
          refine lw_tv 1 rfl (q_fldP (p:=(.pointer (some ⟨w.heap.size,0,none⟩))) (b:=w.heap.size) (o:=0) 0 fd174_0 rfl rfl zN (q_load (p:=(padd (.pointer (some ⟨w.heap.size,0,none⟩)) 0)) (.inr rfl) (.int .i64 ex.kind) one2 rfl (hF115.ldp (i:=0) sM) zN (q_sub (ex.kind - ((3 :Nat):Int)) rfl rfl (w64 oM oM) zN (q_add ex.kind rfl rfl (w64e oM oM oM) zN (lw_tv 1 rfl ?_)))))
          refine lw_callE 251 [] [] [(.pointer (some ⟨g,0,none⟩)),(.int .i64 ex.kind),v109] rfl rfl cf251 zN (c_impl_recorder_operation _ S109 g vp dp ip (s109) (c109) p (T109) (ex.kind) v109 (xs109) (fun b hb=>(hG109.lt b hb:b < w109.heap.size)) (hG109.sub _ hgS) ⟨_,_,_,hB109,hM109⟩ (RN.stp (good_rdS (good_rFn dp)) hp hE109 hG109.new) _hip oM oM z244_2 oM hrr109 hcp109 oM oM (by exact hkb9) oM) ?_
          rintro e148 w148 ⟨r148,S148,T148,c148,rfl,hGc148,⟨vc148,vg148,vv148,hB148,hM148⟩,hbO148,hnO148,hrv148,hri148,hrl148⟩
          refine ⟨_,rfl,?_⟩
          have hzs148:w109.heap.size≤w148.heap.size:=hGc148.chg.size
          have hE148:Chg S w w148:=hE109.stp hGc148.chg hG109.new
          have hF154:=hF115.chg hGc148.chg (fun hm=>hnhF115 hm)
          have hnhF154:w.heap.size∉S148:=fun hm=>(hGc148.new _ hm).elim (fun hm=>hnhF115 hm) (fun h9=>by omega)
          have hF155:=RN.stp g1 hrr109 hGc148.chg hGc148.new
          have hG148:=hG109.trans hGc148
          have hRv:=hrv148
          have hL2:=hrl148
          refine lw_tvn 1 rfl (wp_ret ?_)
          exact post_ret [6] rfl (.int .i64 r148) rfl ⟨r148,_,T148,s109,c148,rfl,hG148,⟨_,_,_,hB148,hM148⟩,⟨z244_3,oM⟩,z244_1,(by exact hri148),z244_0⟩
end Go.Proofs.YtnokbaiemimhjaaGreat
namespace Go.Proofs.YtnokbaiemimhjaaGreat
open Go Go.RowKit
set_option linter.unusedVariables false
set_option linter.unusedSimpArgs false
set_option maxHeartbeats 4000000
set_option maxRecDepth 100000
attribute [local irreducible] LW
theorem c_regG:∀ F d,PVg F d:=by
 intro F
 induction F using Nat.strongRecOn with
 | _ F ihF =>
  intro d
  induction d using Nat.strongRecOn with
  | _ d ihd =>
   intro w S g vp dp ip s0 c0 p T ve ex vv env hS hgS hR0 hp hip hs0 hc0 hbd hex henv hqenv hvp hF hwf hdp hen
   exact c_impl_recorder_reg w S F g vp dp ip s0 c0 p T d ve ex vv env hS hgS hR0 hp hip hs0 hc0 hbd hex henv hqenv hvp hF hwf hdp hen ihF ihd
theorem c_allG (F d:Nat):PAg F d:=c_allg F d fun d' _=>c_regG F d'
theorem z179_0 {p:Prop} (h:p:=by have h9:=hm; rw [hSd] at h9; have:=List.mem_singleton.1 h9; omega):p:=h
theorem z179_1 {p:Prop} (h:p:=by simp only [List.map_toArray,List.map_cons,List.map_nil]; rfl):p:=h
theorem c_impl_Record (w:World) (dp:Nat) (vp:Value) (p:List Fn) (f:Int) (va:Value) (a:List Int) (hp:RP [] dp w.heap vp p) (_hf:-9223372036854775808≤f∧f≤9223372036854775807) (ha:RN [] (rdL rI) w.heap va a) (hok:okP p = true) (hz:SzP p) (hf:0≤f∧f < ((p.length :Nat):Int)) (hl:((a.length :Nat):Int) = (p.getD f.toNat Fn.zero).params) (hna:allN a = true) :
  Calls Tryz.prog 179 #[(.agg #[vp]),.int .i64 f,va] w (fun e w'=>∃ (i0:Int) (vc vg vo:Value) (xs:List Int) (T':Tp) (s1:Nat) (c1:Int),e = .returned (.tuple #[.agg #[.int .i64 i0,vc,vg,vo],.int .i64 c1])∧Ext w w'∧RelV (recR p f.toNat a) (xs,T') s1 c1∧(0≤c1∧c1≤9)∧(∀ u∈[vc,vg,vo],u.cells = #[u]∧u.oneCell' = true)∧i64 i0∧(c1 = 0→i0 = (p.getD f.toNat Fn.zero).params∧TpB T' s1∧s1≤3000∧xs.length = (p.getD f.toNat Fn.zero).outs.length∧EnB T' xs∧RG w.heap.size (rdS 4 rIn) w'.heap vc T'.code∧RG w.heap.size (rdS 2 rGd) w'.heap vg T'.grd∧RG w.heap.size (rdL rI) w'.heap vo xs)):=by
 refine calls_mk [(.agg #[vp]),.int .i64 f,va] 87 Tryz.func179 rfl rfl sM ?_
 have hE0:Ext w w:=Ext.refl w
 have hl_vp:=hp.lenle
 unfold maxLen at hl_vp
 have hl_va:=ha.lenL
 unfold maxLen at hl_va
 have hvp:=okP_vpr hok
 have hpr:=hvp.par f.toNat oM
 have hou:=hvp.outs f.toNat oM
 have hi:isF p f = 0:=by unfold isF; rw [if_pos hok,if_pos oM]
 refine wp_seq (wp_plain _ [3,3,0] rfl (r_boxA (cs:=#[vp]) rfl zN fun w1 hX1 hz1 hB1=>?_))
 have hzs1:w.heap.size≤w1.heap.size:=hX1.size
 have hE1:Ext w w1:=hE0.trans hX1
 replace hB1:BX w1.heap w.heap.size [vp]:=hB1
 have hq3:=hB1.lt
 refine r_allocA (z:=.agg #[.int .i64 0,.slice none 0 0,.slice none 0 0,.slice none 0 0]) zr199 zN fun w2 hX2 hz2 hB2=>?_
 have hzs2:w1.heap.size≤w2.heap.size:=hX2.size
 have hE2:Ext w w2:=hE1.trans hX2
 have hB1x2:=hB1.ext hX2
 replace hB2:BX w2.heap w1.heap.size [(.int .i64 0),(.slice none 0 0),(.slice none 0 0),(.slice none 0 0)]:=hB2
 refine lw_tvn 1 rfl (wp_seq (wp_plain _ [2,0,3,0] rfl (q_loadA (p:=(.pointer (some ⟨w.heap.size,0,none⟩))) (.inr rfl) [vp] agg26 rfl (fun wq9 hw9=>LD.of_box (BX.ext (w:=w2) hB1x2 hw9)) rfl zN (lw_tv 1 rfl (lw_call 84 [] [] [(.agg #[vp]),(.int .i64 f)] rfl rfl cf84 zN (c_impl_isFunc _ dp vp (p) _ (hp.ext (good_rdS (good_rFn dp)) hE2) _hf (by exact hz)) ?_)))))
 rintro e4 w4 ⟨rfl,hX4⟩
 refine ⟨_,rfl,hX4,?_⟩
 have hzs4:w2.heap.size≤w4.heap.size:=hX4.size
 have hE4:Ext w w4:=hE2.trans hX4
 have hB1x4:=hB1x2.ext hX4
 have hB2x4:=hB2.ext hX4
 refine lw_tvn 1 rfl (wp_seq (wp_seq (wp_plain _ [0,0,0,0,0,2,0,0,0,2,3,0,0] rfl (lw_tv 1 rfl ?_))))
 have hc5:isF p f = ((0 :Nat):Int):=hi
 refine q_eql true rfl rfl (decide_eq_true hc5) zN (lw_tv 2 rfl (q_fldP (p:=(.pointer (some ⟨w.heap.size,0,none⟩))) (b:=w.heap.size) (o:=0) 0 fd26_0 rfl rfl (zS (e:=18) rfl rfl rfl) (q_load (p:=(padd (.pointer (some ⟨w.heap.size,0,none⟩)) 0)) (.inr rfl) vp one24 rfl (hB1x4.ldp (i:=0) sM) (zS (e:=18) rfl rfl rfl) (lw_tv 1 rfl (q_idx (v:=vp) ((f).toNat) u24 tiS55 rfl rfl hp.isSl oM sD (zS (e:=18) rfl rfl rfl) ?_)))))
 obtain ⟨cs6,hr6,hl6⟩:=hp.get (good_rFn dp) Fn.zero (k:=((f).toNat)) sD
 obtain ⟨ve6,rfl,hx6⟩:=RF.of hr6
 have hln6:=hx6.rn.lenle
 unfold maxLen at hln6
 refine q_fldL (p:=eptr vp ((f).toNat) 3) 1 fd55_1 rfl (hl6 _ (Chg.of_ext [] hE4)) (zS (e:=18) rfl rfl rfl) (q_load (p:=(padd (eptr vp ((f).toNat) 3) 1)) (.inr rfl) (.int .i64 ((p.getD ((f).toNat) Fn.zero).params)) one2 rfl ((hl6 _ (Chg.of_ext [] hE4)).ld (i:=1) (by simp [exC,fnC])) (zS (e:=18) rfl rfl rfl) (lw_call 97 [] [] [va,(.int .i64 ((p.getD ((f).toNat) Fn.zero).params))] rfl rfl cf97 (zS (e:=18) rfl rfl rfl) (c_impl_areNumbers _ _ _ _ ((ha.ext g1 hE4)).rd hx6.rng) ?_))
 rintro e7 w7 ⟨rfl,hX7⟩
 refine ⟨_,rfl,hX7,?_⟩
 have hzs7:w4.heap.size≤w7.heap.size:=hX7.size
 have hE7:Ext w w7:=hE4.trans hX7
 have hB1x7:=hB1x4.ext hX7
 have hB2x7:=hB2x4.ext hX7
 rw [show (decide (((a.length :Nat):Int) = ((p.getD ((f).toNat) Fn.zero).params)) && allN a) = true from (by rw [decide_eq_true oM,hna]; rfl)]
 refine q_not false rfl rfl (zS (e:=18) rfl rfl rfl) (lw_tvn 1 rfl (c_cond_f rfl (wp_skip (wp_seq (wp_seq (wp_plain _ [0,0] rfl (lw_tv 1 rfl ?_)))))))
 have hc8:¬ (isF p f≠((0 :Nat):Int)):=(fun h9=>h9 hi)
 refine q_neq false rfl rfl (decide_eq_false hc8) zN (lw_nil (c_cond_f rfl (wp_skip (wp_seq (wp_draw _ [1,0,1,0,0,0,1,0,0,3,0] mixed (by kernel_rfl) (q_loadA (p:=(.pointer (some ⟨w.heap.size,0,none⟩))) (.inl rfl) [vp] agg26 rfl (fun wq9 hw9=>LD.of_box (BX.ext (w:=w7.drew) hB1x7 hw9)) rfl zN (q_fldP (p:=(.pointer (some ⟨w.heap.size,0,none⟩))) (b:=w.heap.size) (o:=0) 0 fd26_0 rfl rfl zN (q_load (p:=(padd (.pointer (some ⟨w.heap.size,0,none⟩)) 0)) (.inl rfl) vp one24 rfl (hB1x7.ldp (i:=0) sM) zN (lw_tv 1 rfl ?_)))))))))
 refine q_idx (v:=vp) ((f).toNat) u24 tiS55 rfl rfl hp.isSl oM sD zN (q_fldL (p:=eptr vp ((f).toNat) 3) 1 fd55_1 rfl (hl6 _ (Chg.of_ext [] hE7.drew)) zN (q_load (p:=(padd (eptr vp ((f).toNat) 3) 1)) (.inl rfl) (.int .i64 ((p.getD ((f).toNat) Fn.zero).params)) one2 rfl ((hl6 _ (Chg.of_ext [] hE7.drew)).ld (i:=1) (by simp [exC,fnC])) zN ?_))
 have hbd9:∀ (wq:World),(Instr.build 199 #[(0,(.int .i64 ((p.getD ((f).toNat) Fn.zero).params)))]).run Tryz.prog wq = .ok (.agg #[(.int .i64 ((p.getD ((f).toNat) Fn.zero).params)),(.slice none 0 0),(.slice none 0 0),(.slice none 0 0)]) wq:=by intro wq; kernel_rfl
 refine q_build (ps:=#[(0,(.int .i64 ((p.getD ((f).toNat) Fn.zero).params)))]) (.agg #[(.int .i64 ((p.getD ((f).toNat) Fn.zero).params)),(.slice none 0 0),(.slice none 0 0),(.slice none 0 0)]) z179_1 (fun wq=>hbd9  wq) zN ?_
 have hbd10:∀ (vp:Value) (m10_0:Nat) (h10_0:isSl vp m10_0) (wq:World),(Instr.build 228 #[(0,(.agg #[vp])),(1,(.agg #[(.int .i64 ((p.getD ((f).toNat) Fn.zero).params)),(.slice none 0 0),(.slice none 0 0),(.slice none 0 0)]))]).run Tryz.prog wq = .ok (.agg #[vp,(.int .i64 ((p.getD ((f).toNat) Fn.zero).params)),(.slice none 0 0),(.slice none 0 0),(.slice none 0 0),(.slice none 0 0),(.int .i64 0),(.int .i64 0)]) wq:=by intro vp m10_0 h10_0 wq; obtain ⟨a10_0,c10_0,rfl,_⟩:=h10_0; kernel_rfl
 refine q_build (ps:=#[(0,(.agg #[vp])),(1,(.agg #[(.int .i64 ((p.getD ((f).toNat) Fn.zero).params)),(.slice none 0 0),(.slice none 0 0),(.slice none 0 0)]))]) (.agg #[vp,(.int .i64 ((p.getD ((f).toNat) Fn.zero).params)),(.slice none 0 0),(.slice none 0 0),(.slice none 0 0),(.slice none 0 0),(.int .i64 0),(.int .i64 0)]) z179_1 (fun wq=>hbd10 vp _ hp.isSl wq) zN ?_
 have hq12:=hB1x7.lt
 have hq13:=hB2x7.lt
 refine r_boxA (cs:=#[vp,(.int .i64 ((p.getD ((f).toNat) Fn.zero).params)),(.slice none 0 0),(.slice none 0 0),(.slice none 0 0),(.slice none 0 0),(.int .i64 0),(.int .i64 0)]) rfl zN fun w11 hX11 hz11 hB11=>?_
 replace hX11:=hX11.of_drew
 have hzs11:w7.heap.size≤w11.heap.size:=hX11.size
 have hE11:Ext w w11:=hE7.trans hX11
 have hB1x11:=hB1x7.ext hX11
 have hB2x11:=hB2x7.ext hX11
 replace hB11:BX w11.heap w7.drew.heap.size [vp,(.int .i64 ((p.getD ((f).toNat) Fn.zero).params)),(.slice none 0 0),(.slice none 0 0),(.slice none 0 0),(.slice none 0 0),(.int .i64 0),(.int .i64 0)]:=hB11
 refine lw_tvn 1 rfl (wp_seq (wp_plain _ [3,0] rfl ?_))
 obtain ⟨S,hSd⟩:∃ S:List Nat,S = [w7.heap.size]:=⟨_,rfl⟩
 have hgS:w7.heap.size∈S:=by rw [hSd]; exact List.mem_singleton.2 rfl
 have hlr:w7.heap.size < w11.heap.size:=BX.lt hB11
 have hMb:RcM 231 255 2 S w7.heap.size w11.heap (.slice none 0 0) (.slice none 0 0) (.slice none 0 0) (inP a 0):=RcM.nil
 have hGb:Grw S S w w11:=⟨fun _ h=>h,fun b hb=>.inl hb,fun b hb=>by rw [hSd] at hb; have:=List.mem_singleton.1 hb; omega,Chg.of_ext S hE11⟩
 have hEb:Chg S w w11:=hGb.chg
 have hSn:∀ b∈S,w.heap.size≤b:=fun b hb=>by rw [hSd] at hb; have:=List.mem_singleton.1 hb; omega
 have hBb:BX w11.heap w7.heap.size [vp,(.int .i64 ((p.getD f.toNat Fn.zero).params)),(.slice none 0 0),(.slice none 0 0),(.slice none 0 0),(.slice none 0 0),(.int .i64 ((0 :Nat):Int)),(.int .i64 ((0 :Nat):Int))]:=hB11
 have hS15:RN S (rdS 3 (rFn dp)) w.heap vp p:=by rw [hSd]; exact RN.add (good_rdS (good_rFn dp)) hp (fun b hb=>by have:=List.mem_singleton.1 hb; omega)
 have hS16:RN S (rdL rI) w.heap va a:=by rw [hSd]; exact RN.add g1 ha (fun b hb=>by have:=List.mem_singleton.1 hb; omega)
 refine r_nil (rI) good_rI u27 ti2 zN fun v17 w17 hX17 hz17 hO17=>?_
 have hzs17:w11.heap.size≤w17.heap.size:=hX17.size
 have hE17:Chg S w w17:=hEb.ext hX17
 have hB1x17:=hB1x11.ext hX17
 have hB2x17:=hB2x11.ext hX17
 have hBbx17:=hBb.ext hX17
 have hM18:=RcM.ext hMb hX17
 have hG18:=hGb.ext hX17
 refine lw_tvn 1 rfl (wp_seq (wp_seq (wp_plain _ [0,0,0] rfl (lw_tv 1 rfl (q_len (v:=va) u27 rfl hS16.slL zN (lw_tvn 1 rfl (wp_block ?_)))))))
 have hBO:w.heap.size≤w11.heap.size∧w7.heap.size < w11.heap.size:=by omega
 have hns19:w.heap.size∉S:=fun hm=>z179_0
 have hns20:w1.heap.size∉S:=fun hm=>z179_0
 obtain ⟨Fo0,hOo0⟩:=Ow.of_fr hO17 (Nat.le_refl _)
 have hOd0:∀ b∈Fo0,b∉S:=fun b hb hm=>by have:=hOo0.low b hb; have:=hGb.lt b hm; omega
 have hMs:=hM18
 have hGs:=hG18
 have hnswheaps:w.heap.size∉S:=fun hm=>z179_0
 have hnsw1heap:w1.heap.size∉S:=fun hm=>z179_0
 refine c_loop (S:=Nat × Value × List Int × List Nat × List Nat × Value × Value × Value) (fun (⟨k,vo,xs,Fo,S9,vc9,vg9,vv9⟩:Nat × Value × List Int × List Nat × List Nat × Value × Value × Value)=>([(10,vo),(46,(.int .i64 ((k :Nat):Int))),(1,(.int .i64 f)),(3,(.pointer (some ⟨w.heap.size,0,none⟩))),(6,(.pointer (some ⟨w1.heap.size,0,none⟩))),(9,(.pointer (some ⟨w7.heap.size,0,none⟩))),(44,va),(45,(.int .i64 ((a.length :Nat):Int)))]:List (Nat × Value))) (fun (⟨k,vo,xs,Fo,S9,vc9,vg9,vv9⟩:Nat × Value × List Int × List Nat × List Nat × Value × Value × Value) (W:World)=>Chg S w W∧BX W.heap w.heap.size [vp]∧BX W.heap w1.heap.size [(.int .i64 0),(.slice none 0 0),(.slice none 0 0),(.slice none 0 0)]∧BX W.heap w7.heap.size [vp,.int .i64 (p.getD f.toNat Fn.zero).params,vc9,vg9,.slice none 0 0,vv9,.int .i64 ((0 :Nat):Int),.int .i64 ((0 :Nat):Int)]∧k≤a.length∧w11.heap.size≤W.heap.size∧Grw S S9 w W∧RcM 231 255 2 S9 w7.heap.size W.heap vc9 vg9 vv9 (inP a k)∧Ow (owL rI 2) w11.heap.size W.heap.size W.heap vo xs Fo∧(∀ b∈Fo,b∉S9)∧xs = iotaI k∧w.heap.size∉S9∧w1.heap.size∉S9) (fun (⟨k,vo,xs,Fo,S9,vc9,vg9,vv9⟩:Nat × Value × List Int × List Nat × List Nat × Value × Value × Value)=>a.length - k) (0,v17,[],Fo0,S,(.slice none 0 0),(.slice none 0 0),(.slice none 0 0)) ⟨rfl,rfl,rfl,rfl,rfl,rfl,rfl,rfl,trivial⟩ ⟨hE17,hB1x17,hB2x17,hBbx17,oM,oM,(by exact hGs),(by exact hMs),(by exact hOo0),(by exact hOd0),(by rfl),(by exact hns19),(by exact hns20)⟩ ?_
 clear hE0 hz1 hX1 hzs1 hE1 hz2 hX2 hzs2 hE2 hX4 hzs4 hE4 hln6 hX7 hzs7 hE7 hz11 hX11 hzs11 hE11 hO17 hz17 hX17 hzs17 hE17 hM18 hG18
 rintro ⟨k,vo,xs,Fo,S9,vc9,vg9,vv9⟩ ρ21 w21 ⟨hE21,hL21_0,hL21_1,hL21_2,hp21_0,hbw,hGl,hMl,hOl,hdl,hxe,hnb19,hnb20⟩
 have hzs21:w.heap.size≤w21.heap.size:=hE21.size
 have hq22:=hL21_0.lt
 have hq23:=hL21_1.lt
 have hq24:=hL21_2.lt
 refine wp_seq (wp_plain _ [0] rfl ?_)
 by_cases hc25:((k :Nat):Int) < ((a.length :Nat):Int)
 ·
  refine q_lss true rfl rfl (decide_eq_true hc25) zN (lw_nil (wp_seq (c_cond_t rfl (wp_skip (wp_seq (wp_block (wp_seq (wp_plain _ [0,0,2,0,0] rfl ?_))))))))
  have hak:=allN_get hna k
  have hvk:=inP_vl a k
  have hxk:xs.length = k:=by rw [hxe,iotaI_len]
  refine lw_tv 1 rfl (q_idx (v:=va) k u27 ti2 rfl rfl hS16.slL rfl sD zN ?_)
  have hg26:=RN.getI (w:=w) (k:=k) hS16 sD
  refine q_load (p:=eptr va k 1) (.inr rfl) (.int .i64 (a.getD k 0)) one2 rfl (hg26.1 _ hE21) zN (lw_tvn 2 rfl (wp_plain _ [0,0,0,0,0,4,3,4,0] rfl (lw_tv 3 rfl ?_)))
  have hbd27:∀ (wq:World),(Instr.build 231 #[(0,(.int .i64 ((1 :Nat):Int))),(3,(.int .i64 ((k :Nat):Int)))]).run Tryz.prog wq = .ok (.agg #[(.int .i64 ((1 :Nat):Int)),(.int .i64 0),(.int .i64 0),(.int .i64 ((k :Nat):Int))]) wq:=by intro wq; kernel_rfl
  refine q_build (ps:=#[(0,(.int .i64 ((1 :Nat):Int))),(3,(.int .i64 ((k :Nat):Int)))]) (.agg #[(.int .i64 ((1 :Nat):Int)),(.int .i64 0),(.int .i64 0),(.int .i64 ((k :Nat):Int))]) z179_1 (fun wq=>hbd27  wq) zN (lw_tv 1 rfl ?_)
  refine lw_callE 217 [] [] [(.pointer (some ⟨w7.heap.size,0,none⟩)),(.agg #[(.int .i64 ((1 :Nat):Int)),(.int .i64 (0:Int)),(.int .i64 (0:Int)),(.int .i64 ((k :Nat):Int))]),(.int .i64 (a.getD k 0))] rfl rfl cf217 zN (c_impl_recorder_put _ S9 w7.heap.size vp ((p.getD f.toNat Fn.zero).params) (0) (((0 :Nat):Int)) (inP a k) (⟨((1 :Nat):Int),(0:Int),(0:Int),((k :Nat):Int)⟩:Ins) (a.getD k 0) (fun b hb=>(hGl.lt b hb:b < w21.heap.size)) (hGl.sub _ hgS) ⟨_,_,_,hL21_2,hMl⟩ oM (by rw [inP_cl,inP_vl]; omega) ⟨(show i64 (((1 :Nat):Int)) from by omega),(show i64 ((0:Int)) from by omega),(show i64 ((0:Int)) from by omega),(show i64 (((k :Nat):Int)) from by omega)⟩ hg26.2) ?_
  rintro e28 w28 ⟨S28,rfl,hGc28,vc28,vg28,vv28,hB28,hM28⟩
  refine ⟨_,rfl,?_⟩
  have hzs28:w21.heap.size≤w28.heap.size:=hGc28.chg.size
  have hE28:Chg S w w28:=hE21.stp hGc28.chg hGl.new
  have hF31:=hL21_0.chg hGc28.chg (fun hm=>hnb19 hm)
  have hnhF31:w.heap.size∉S28:=fun hm=>(hGc28.new _ hm).elim (fun hm=>hnb19 hm) (fun h9=>by omega)
  have hF32:=hL21_1.chg hGc28.chg (fun hm=>hnb20 hm)
  have hnhF32:w1.heap.size∉S28:=fun hm=>(hGc28.new _ hm).elim (fun hm=>hnb20 hm) (fun h9=>by omega)
  have hF35:=hOl.keep (good_owL good_rI) hGc28.chg (fun b hb hm=>hdl b hm hb)
  have hdhF35:∀ b∈Fo,b∉S28:=fun b hb hm=>(hGc28.new b hm).elim (hdl b hb) (fun h9=>by have:=hOl.high b hb; omega)
  have hG28:=hGl.trans hGc28
  have hvl28:((inP a k).put (⟨((1 :Nat):Int),(0:Int),(0:Int),((k :Nat):Int)⟩:Ins) (a.getD k 0)).vals.length = (inP a k).vals.length + 1:=put_vl _ _ _
  have hgl28:((inP a k).put (⟨((1 :Nat):Int),(0:Int),(0:Int),((k :Nat):Int)⟩:Ins) (a.getD k 0)).grd.length = (inP a k).grd.length:=rfl
  refine (r_one (u:=(.int .i64 (((inP a k).vals.length :Nat):Int))) (B:=w28.heap.size) good_rI u27 ti2 rfl rfl (frI w28.heap.size w28.heap.size _ _ oM) (Nat.le_refl _) zN ?_)
  intro v36 w36 hX36 hz36 hO36
  have hzs36:w28.heap.size≤w36.heap.size:=hX36.size
  have hE36:Chg S w w36:=hE28.ext hX36
  have hF31x36:=hF31.ext hX36
  have hF32x36:=hF32.ext hX36
  have hB28x36:=hB28.ext hX36
  have hM37:=RcM.ext hM28 hX36
  have hG37:=hG28.ext hX36
  have hO38k:=hF35.ext (good_owL good_rI) hX36
  refine e_appJ (v:=vo) (a:=v36) u27 ti2 rfl rfl rfl hO38k hO36.rd1 oM sD (by unfold maxLen; first | omega | assumption | (simp; done) | (simp; omega)) zN fun v39 w39 F39 hC39 hO39 hU39=>?_
  have hzs39:w36.heap.size≤w39.heap.size:=hC39.size
  have hE39:Chg S w w39:=hE36.fresh hC39 (fun c hc=>by have:=hO38k.low c hc; omega)
  have hd39:∀ b∈F39,b∉S28:=fun b hb hm=>(hU39 b hb).elim (fun h9=>hdhF35 b h9 hm) (fun h9=>by have:=hG37.lt b hm; omega)
  have hM39:=RcM.chgO hM37 hC39 hdhF35
  have hG39:=hG37.fresh hC39 (fun c hc=>by have:=hO38k.low c hc; omega)
  have hF42:=hF31x36.chg hC39 (fun hm=>by have:=hO38k.low _ hm; omega)
  have hF43:=hF32x36.chg hC39 (fun hm=>by have:=hO38k.low _ hm; omega)
  have hF44:=hB28x36.chg hC39 (fun hm=>by have:=hO38k.low _ hm; omega)
  refine lw_tvn 1 rfl (wp_plain _ [0,0] rfl (q_add ((k + 1 :Nat):Int) rfl rfl (w64n oM oM) zN (lw_tvn 1 rfl ?_)))
  have hMe:=hM39
  have hGe:=hG39
  have hne19:w.heap.size∉S28:=fun hm=>hnhF31 hm
  have hne20:w1.heap.size∉S28:=fun hm=>hnhF32 hm
  exact ⟨((k + 1),v39,(xs++[(((inP a k).vals.length :Nat):Int)]),F39,S28,vc28,vg28,vv28),_,rfl,⟨rfl,rfl,rfl,rfl,rfl,rfl,rfl,rfl,trivial⟩,⟨hE39,hF42,hF43,hF44,oM,oM,(by exact hGe),(by exact hMe),(by assumption),(by assumption),(by rw [hxe,inP_vl]; exact (iotaI_succ k).symm),(by exact hne19),(by exact hne20)⟩,by first | omega | (dsimp only; omega)⟩
 ·
  refine q_lss false rfl rfl (decide_eq_false hc25) zN (lw_nil (wp_seq (c_cond_f rfl (wp_exit (t_exit (t_exit (c_exit_here (wp_seq (wp_plain _ [0,0,0,2,0,0,0,2,0,4,0,0,0,4] rfl ?_)))))))))
  have hkl:k = a.length:=by omega
  refine lw_tv 2 rfl (q_fldP (p:=(.pointer (some ⟨w.heap.size,0,none⟩))) (b:=w.heap.size) (o:=0) 0 fd26_0 rfl rfl zN (q_load (p:=(padd (.pointer (some ⟨w.heap.size,0,none⟩)) 0)) (.inr rfl) vp one24 rfl (hL21_0.ldp (i:=0) sM) zN (lw_tv 1 rfl (q_idx (v:=vp) ((f).toNat) u24 tiS55 rfl rfl hS15.isSl oM sD zN ?_))))
  obtain ⟨cs46,hr46,hl46⟩:=hS15.get (good_rFn dp) Fn.zero (k:=((f).toNat)) sD
  obtain ⟨ve46,rfl,hx46⟩:=RF.of hr46
  have hln46:=hx46.rn.lenle
  unfold maxLen at hln46
  refine q_fldL (p:=eptr vp ((f).toNat) 3) 2 fd55_2 rfl (hl46 _ hE21) zN (q_load (p:=(padd (eptr vp ((f).toNat) 3) 2)) (.inr rfl) ve46 one53 rfl ((hl46 _ hE21).ld (i:=2) (by simp [exC,fnC])) zN (lw_tv 1 rfl ?_))
  refine lw_callE 218 [] [] [(.pointer (some ⟨w7.heap.size,0,none⟩)),ve46,vo] rfl rfl cf218 zN (c_allG f.toNat dp _ S9 w7.heap.size vp dp ((p.getD f.toNat Fn.zero).params) (0) (((0 :Nat):Int)) p (inP a k) ve46 ((p.getD ((f).toNat) Fn.zero).outs) vo (xs) (fun b hb=>(hGl.lt b hb:b < w21.heap.size)) (hGl.sub _ hgS) ⟨_,_,_,hL21_2,hMl⟩ (RN.stp (good_rdS (good_rFn dp)) hS15 hE21 hGl.new) oM oM oM (by rw [hkl]; exact inP_B hna oM) (RN.stp (good_rdS (good_rEx dp)) hx46.rn hE21 hGl.new) (RN.of_ow hOl hdl) hOl.fr.cap (by exact hvp) oM (by intro j hj; have h9:=hvp.wf f.toNat oM j hj; rw [hxe,iotaI_len,hkl,hl]; exact h9) (by intro j hj; have h9:=hvp.deep f.toNat oM j hj; rw [hxe,iotaI_len]; omega) oM (by exact fun _=>by rw [hxe]; exact inP_E a k)) ?_
  rintro e47 w47 ⟨v47,xs47,S47,T47,s47,c47,rfl,hGc47,⟨vc47,vg47,vv47,hB47,hM47⟩,hq47,hr47,hcp47,hxl47,hxb47,hrl47⟩
  refine ⟨_,rfl,?_⟩
  have hzs47:w21.heap.size≤w47.heap.size:=hGc47.chg.size
  have hE47:Chg S w w47:=hE21.stp hGc47.chg hGl.new
  have hF50:=hL21_0.chg hGc47.chg (fun hm=>hnb19 hm)
  have hnhF50:w.heap.size∉S47:=fun hm=>(hGc47.new _ hm).elim (fun hm=>hnb19 hm) (fun h9=>by omega)
  have hF51:=hL21_1.chg hGc47.chg (fun hm=>hnb20 hm)
  have hnhF51:w1.heap.size∉S47:=fun hm=>(hGc47.new _ hm).elim (fun hm=>hnb20 hm) (fun h9=>by omega)
  have hF54:=hOl.keep (good_owL good_rI) hGc47.chg (fun b hb hm=>hdl b hm hb)
  have hdhF54:∀ b∈Fo,b∉S47:=fun b hb hm=>(hGc47.new b hm).elim (hdl b hb) (fun h9=>by have:=hOl.high b hb; omega)
  have hG47:=hGl.trans hGc47
  have hbd47:=hq47.bnd
  have hnm47:=hq47.num
  have hKr:=hrl47
  have hKb:=hxb47
  have hKl:=hxl47
  rw [hxe,hkl] at hKr
  replace hKr:=RelV.go0 hKr
  have hrr47:=hr47.rn
  refine q_nil rfl zN (q_fldP (p:=(.pointer (some ⟨w7.heap.size,0,none⟩))) (b:=w7.heap.size) (o:=0) 1 fd228_1 rfl rfl zN (q_fldP (p:=(padd (.pointer (some ⟨w7.heap.size,0,none⟩)) 1)) (b:=w7.heap.size) (o:=1) 3 fd199_3 rfl rfl zN (e_setB (k:=4) (w:=w47) sz27 rfl rfl (isSl_one hrr47.slL) hB47 sM zN fun w56 hC56 hz56 hB56=>?_)))
  replace hB56:BX w56.heap w7.heap.size [vp,(.int .i64 ((p.getD f.toNat Fn.zero).params)),vc47,vg47,v47,vv47,(.int .i64 ((s47 :Nat):Int)),(.int .i64 c47)]:=hB56
  have hE56:Chg S w w56:=hE47.trans (hC56.sub (subS hgS))
  have hM56:=RcM.chg hM47 hC56
  have hG56:=hG47.set hgS hC56
  have hzs56:w47.heap.size≤w56.heap.size:=hC56.size
  have hF59:=hF50.chg hC56 (fun hm=>by have:=List.mem_singleton.1 hm; omega)
  have hF60:=hF51.chg hC56 (fun hm=>by have:=List.mem_singleton.1 hm; omega)
  have hF61:=hF54.keep (good_owL good_rI) hC56 (fun b hb hm=>by have:=List.mem_singleton.1 hb; have:=hF54.low _ hm; have:=hF54.high _ hm; omega)
  have hF63l:=hr47.upd g1 hC56 (fun b hb=>by rw [List.mem_singleton.1 hb]; exact .inl (hG47.sub _ hgS))
  have hF63:=hF63l.rn
  refine lw_nil (wp_seq (wp_seq (wp_plain _ [0,0,0,2,0] rfl (lw_tv 1 rfl (q_nil rfl zN (q_fldP (p:=(.pointer (some ⟨w7.heap.size,0,none⟩))) (b:=w7.heap.size) (o:=0) 7 fd228_4 rfl rfl zN (q_load (p:=(padd (.pointer (some ⟨w7.heap.size,0,none⟩)) 7)) (.inr rfl) (.int .i64 c47) one2 rfl (hB56.ldp (i:=7) sM) zN ?_)))))))
  by_cases hc64:c47≠((0 :Nat):Int)
  ·
   refine q_neq true rfl rfl (decide_eq_true hc64) zN (lw_nil (c_cond_t rfl (wp_seq ?_)))
   letI:JR:=jrC [w1.heap.size]
   refine Jx.wp_draw _ [0,0,0,0,1,3,0] mixed (by kernel_rfl) (Jx.j1 ?_)
   have hbd65:∀ (wq:World),(Instr.build 199 #[]).run Tryz.prog wq = .ok (.agg #[(.int .i64 0),(.slice none 0 0),(.slice none 0 0),(.slice none 0 0)]) wq:=by intro wq; kernel_rfl
   refine q_build (ps:=#[]) (.agg #[(.int .i64 0),(.slice none 0 0),(.slice none 0 0),(.slice none 0 0)]) (by simp only [List.map_toArray,List.map_cons,List.map_nil]) (fun wq=>hbd65  wq) zN (lw_nil (Jx.q_move (.pointer (some ⟨w7.heap.size,0,none⟩)) rfl zN (Jx.j1 (q_nil rfl zN (lw_nil (Jx.q_fldP (p:=(.pointer (some ⟨w7.heap.size,0,none⟩))) (b:=w7.heap.size) (o:=0) 7 fd228_4 rfl rfl zN (Jx.q_loadJ (p:=(padd (.pointer (some ⟨w7.heap.size,0,none⟩)) 7)) (.int .i64 c47) one2 rfl (fun wj hj=>(BX.chg (w:=w56.drew) (F:=[w1.heap.size]) hB56 hj (fun hm=>by have:=List.mem_singleton.1 hm; omega)).ldp (i:=7) sM) zN (Jx.lift3 ?_))))))))
   refine e_setA (vs:=[(.int .i64 (0:Int)),(.slice none 0 0),(.slice none 0 0),(.slice none 0 0)]) agg199 rfl rfl (by intro u hu; simp only [List.mem_cons,List.not_mem_nil,or_false] at hu; rcases hu with rfl | rfl | rfl | rfl <;> first | exact ⟨rfl,rfl⟩) hF60 rfl rfl zN fun w66 hC66 hz66 hB66=>?_
   replace hC66:=hC66.of_drew
   replace hB66:BX w66.heap w1.heap.size [(.int .i64 (0:Int)),(.slice none 0 0),(.slice none 0 0),(.slice none 0 0)]:=hB66
   have hE66:Chg S w w66:=hE56.fresh hC66 (fun c hc=>by have:=List.mem_singleton.1 hc; omega)
   have hM66:=RcM.chgO hM56 hC66 (fun b hb hm=>by rw [List.mem_singleton.1 hb] at hm; exact hnhF51 hm)
   have hG66:=hG56.fresh hC66 (fun c hc=>by have:=List.mem_singleton.1 hc; omega)
   have hzs66:w56.heap.size≤w66.heap.size:=hC66.size
   have hF69:=hF59.chg hC66 (fun hm=>by have:=List.mem_singleton.1 hm; omega)
   have hF70:=hB56.chg hC66 (fun hm=>by have:=List.mem_singleton.1 hm; omega)
   have hF71:=hF61.keep (good_owL good_rI) hC66 (fun b hb hm=>by have:=List.mem_singleton.1 hb; have:=hF61.low _ hm; have:=hF61.high _ hm; omega)
   have hF73l:=hF63l.upd g1 hC66 (fun b hb=>by rw [List.mem_singleton.1 hb]; (right; omega))
   have hF73:=hF73l.rn
   refine lw_nil ⟨Chg.drewL hC66,?_⟩
   exact Jx.q_assign (.int .i64 c47) rfl zN (Jx.lw_nil (wp_ret (t_ret (post_retC (t0:=7) (ts:=[]) (cs:=[(.int .i64 (0:Int)),(.slice none 0 0),(.slice none 0 0),(.slice none 0 0)]) [(.int .i64 c47)] rfl agg199 rfl hB66 rfl rfl ⟨_,_,_,_,_,_,_,_,rfl,(Chg.toExt hG66.chg hSn),hKr,oM,(by intro u hu; simp only [List.mem_cons,List.not_mem_nil,or_false] at hu; rcases hu with rfl | rfl | rfl <;> exact ⟨rfl,rfl⟩),(by show i64 _; unfold i64; omega),(fun h9=>absurd h9 oM)⟩))))
  ·
   refine q_neq false rfl rfl (decide_eq_false hc64) zN (lw_nil (c_cond_f rfl (wp_skip (wp_seq (wp_plain _ [0,0,0,2,4,0] rfl (lw_tv 1 rfl (q_nil rfl zN (q_fldP (p:=(.pointer (some ⟨w7.heap.size,0,none⟩))) (b:=w7.heap.size) (o:=0) 1 fd228_1 rfl rfl zN (q_loadA (p:=(padd (.pointer (some ⟨w7.heap.size,0,none⟩)) 1)) (.inr rfl) [(.int .i64 ((p.getD f.toNat Fn.zero).params)),vc47,vg47,v47] agg199 rfl (fun wq9 hw9=>LD.part (BX.ext (w:=w56) hB56 hw9) (by show (5:Nat)≤8; decide) (by intro i hi; match i,hi with | 0,_=>rfl | 1,_=>rfl | 2,_=>rfl | 3,_=>rfl)) rfl zN ?_)))))))))
   refine e_setA (vs:=[(.int .i64 ((p.getD f.toNat Fn.zero).params)),vc47,vg47,v47]) agg199 rfl rfl (by intro u hu; simp only [List.mem_cons,List.not_mem_nil,or_false] at hu; rcases hu with rfl | rfl | rfl | rfl <;> first | exact ⟨rfl,rfl⟩ | exact isSl_one (RcM.slc hM56) | exact isSl_one (RcM.slg hM56) | exact isSl_one hF63.slL) hF60 rfl rfl zN fun w74 hC74 hz74 hB74=>?_
   replace hB74:BX w74.heap w1.heap.size [(.int .i64 ((p.getD f.toNat Fn.zero).params)),vc47,vg47,v47]:=hB74
   have hE74:Chg S w w74:=hE56.fresh hC74 (fun c hc=>by have:=List.mem_singleton.1 hc; omega)
   have hM74:=RcM.chgO hM56 hC74 (fun b hb hm=>by rw [List.mem_singleton.1 hb] at hm; exact hnhF51 hm)
   have hG74:=hG56.fresh hC74 (fun c hc=>by have:=List.mem_singleton.1 hc; omega)
   have hzs74:w56.heap.size≤w74.heap.size:=hC74.size
   have hF77:=hF59.chg hC74 (fun hm=>by have:=List.mem_singleton.1 hm; omega)
   have hF78:=hB56.chg hC74 (fun hm=>by have:=List.mem_singleton.1 hm; omega)
   have hF79:=hF61.keep (good_owL good_rI) hC74 (fun b hb hm=>by have:=List.mem_singleton.1 hb; have:=hF61.low _ hm; have:=hF61.high _ hm; omega)
   have hF81l:=hF63l.upd g1 hC74 (fun b hb=>by rw [List.mem_singleton.1 hb]; (right; omega))
   have hF81:=hF81l.rn
   refine lw_tvn 1 rfl (wp_ret ?_)
   have hSn9:∀ b∈S47,w.heap.size≤b:=fun b hb=>(hG74.new b hb).elim (hSn b) id
   exact post_retC (t0:=7) (ts:=[]) (cs:=[(.int .i64 ((p.getD f.toNat Fn.zero).params)),vc47,vg47,v47]) [(.int .i64 ((0 :Nat):Int))] rfl agg199 rfl hB74 rfl rfl ⟨_,_,_,_,_,_,_,_,rfl,(Chg.toExt hG74.chg hSn),(by have h9:=hKr; rwa [show c47 = ((0 :Nat):Int) from by omega] at h9),oM,(by intro u hu; simp only [List.mem_cons,List.not_mem_nil,or_false] at hu; rcases hu with rfl | rfl | rfl; exact isSl_one (RcM.slc hM74); exact isSl_one (RcM.slg hM74); exact RN.one1 g1 hF81),(by show i64 _; unfold i64; omega),(fun _=>⟨rfl,by assumption,by omega,hKl,hKb oM,(RcM.readsG hM74 hSn9).1,(RcM.readsG hM74 hSn9).2,RNL.rg hF81l oM⟩)⟩
end Go.Proofs.YtnokbaiemimhjaaGreat
namespace Go.Proofs.YtnokbaiemimhjaaGreat
open Go Go.RowKit
set_option linter.unusedVariables false
set_option linter.unusedSimpArgs false
set_option maxHeartbeats 4000000
set_option maxRecDepth 100000
attribute [local irreducible] LW
theorem c_impl_Tape_registers_1 (w:World) (n:Int) (vo:Nat) (ord:Int) (_hn:-9223372036854775808≤n∧n≤9223372036854775807) (hcord:ldH w.heap (.pointer (some ⟨vo,0,none⟩)) = some (.int .i64 ord)) (_hord:-9223372036854775808≤ord∧ord≤9223372036854775807) (ho:0≤ord∧ord≤12) :
  Calls Tryz.prog 219 #[.int .i64 n,.pointer (some ⟨vo,0,none⟩)] w (fun e w'=>∃ v0:Value,e = .returned (v0)∧Ext w w'∧Fr (owL rI 2) w.heap.size w'.heap.size w'.heap v0 (cst (ord.toNat + 1) n)):=by
 refine calls_mk [.int .i64 n,.pointer (some ⟨vo,0,none⟩)] 12 Tryz.func219 rfl rfl sM ?_
 have hE0:Ext w w:=Ext.refl w
 refine wp_seq (wp_plain _ [0] rfl (lw_tvn 1 rfl (wp_seq (wp_plain _ [2,0,3,0] rfl (q_load (.inr rfl) (.int .i64 ord) one3 rfl (ldH_ext hE0 hcord) zN (q_add ((ord.toNat + 1 :Nat):Int) rfl rfl (w64n oM oM) zN (r_make (n:=ord.toNat + 1) u27 ti2 rfl rfl rfl sD zN fun v1 w1 hX1 hz1 hO1=>?_)))))))
 have hzs1:w.heap.size≤w1.heap.size:=hX1.size
 have hE1:Ext w w1:=hE0.trans hX1
 refine lw_tvn 1 rfl (wp_seq (wp_plain _ [0,0,0,4] rfl (lw_tv 2 rfl (q_idx (v:=v1) 0 u27 ti2 rfl rfl hO1.isSl rfl sM zN (e_setI (v:=v1) (w:=w1) sz2 rfl rfl _hn hO1 sM zN fun w2 F2 hC2 hz2 hF2 hO2=>?_)))))
 have hE2:Ext w w2:=hC2.below hE1 (fun c hc=>Nat.le_trans (Nat.le_refl _) (hF2 c hc).1) hE1.size
 have hzs2:w1.heap.size≤w2.heap.size:=hC2.size
 exact lw_nil (wp_seq (wp_plain _ [0,0] rfl (lw_tvn 2 rfl (wp_ret (post_ret [3] rfl v1 rfl ⟨v1,rfl,hE2,hO2.up o1⟩)))))
theorem z180_0 {p:Prop} (h:p:=by first | (rw [regs_take oM,regI_in oM]; exact ⟨_,_,by assumption⟩) | (rw [regs_take oM,regI_add oM]; exact ⟨_,_,by assumption⟩) | (rw [regs_take oM,regI_sub oM]; exact ⟨_,_,by assumption⟩) | (rw [regs_take oM,regI_mul oM]; exact ⟨_,_,by assumption⟩) | (rw [regs_take oM,regI_neg oM]; exact ⟨_,_,by assumption⟩) | (rw [regs_take oM,regI_div oM]; exact ⟨_,_,by assumption⟩) | (rw [regs_take oM,regI_num oM]; exact ⟨_,_,by assumption⟩)):p:=h
theorem z180_1 {p:Prop} (h:p:=by unfold maxLen; first | omega | assumption | (simp only [List.length_nil,List.length_cons,List.length_append,List.length_set,List.length_replicate]; omega) | (simp [List.length_nil,List.length_cons,List.length_append,List.length_set,List.length_replicate]; done) | (simp [List.length_nil,List.length_cons,List.length_append,List.length_set,List.length_replicate]; omega)):p:=h
theorem z180_2 {p:Prop} (h:p:=by first | exact regZ_ne hzk oM | exact regZ_dv hzk oM):p:=h
theorem z180_3 {p:Prop} (h:p:=by exact regs_sr hR hsA (hform k hkl) hkl):p:=h
theorem c_impl_Tape_registers (w:World) (ipT:Int) (vtc vtg vtx:Value) (T:Tp) (oT:List Int) (va:Value) (A:List (List Int)) (ord:Int) (_hipT:i64 ipT) (htcT:RN [] (rdS 4 rIn) w.heap vtc T.code) (htgT:RN [] (rdS 2 rGd) w.heap vtg T.grd) (htoT:RN [] (rdL rI) w.heap vtx oT) (hA:RN [] (rdL (rdL rI)) w.heap va A) (hqA:CapS va) (_hord:-9223372036854775808≤ord∧ord≤9223372036854775807) (ho:0≤ord∧ord≤12) (hsA:SrE (ord.toNat + 1) A) (hform:∀ k,k < T.code.length→InO A.length k (T.code.getD k Ins.zero)) (hlt:T.code.length≤4000) :
  Calls Tryz.prog 180 #[(.agg #[(.int .i64 ipT),vtc,vtg,vtx]),va,.int .i64 ord] w (fun e w'=>∃ (v0:Value) (c1:Int),e = .returned (.tuple #[v0,.int .i64 c1])∧Ext w w'∧regC (ord.toNat + 1) A T.code c1∧(c1 = 0→RN [] (rdL (rdL rI)) w'.heap v0 (regs (ord.toNat + 1) A T.code)∧CapS v0)):=by
 refine calls_mk [(.agg #[(.int .i64 ipT),vtc,vtg,vtx]),va,.int .i64 ord] 109 Tryz.func180 rfl rfl sM ?_
 have hE0:Ext w w:=Ext.refl w
 have hl_vtx:=htoT.lenL
 unfold maxLen at hl_vtx
 have hl_va:=hA.lenL
 unfold maxLen at hl_va
 have hS:∀ b∈([]:List Nat),b < w.heap.size:=fun b hb=>by cases hb
 refine wp_seq (wp_plain _ [3,3,0,0] rfl (r_boxA (cs:=#[(.int .i64 ipT),vtc,vtg,vtx]) rfl zN fun w1 hX1 hz1 hB1=>?_))
 have hzs1:w.heap.size≤w1.heap.size:=hX1.size
 have hE1:Ext w w1:=hE0.trans hX1
 replace hB1:BX w1.heap w.heap.size [(.int .i64 ipT),vtc,vtg,vtx]:=hB1
 have hq3:=hB1.lt
 refine r_boxB (u:=(.int .i64 ord)) rfl rfl zN fun w2 hX2 hz2 hB2=>?_
 have hzs2:w1.heap.size≤w2.heap.size:=hX2.size
 have hE2:Ext w w2:=hE1.trans hX2
 have hB1x2:=hB1.ext hX2
 replace hB2:BX w2.heap w1.heap.size [(.int .i64 ord)]:=hB2
 refine lw_tvn 2 rfl (wp_seq (wp_plain _ [3,0] rfl ?_))
 obtain ⟨BO,hBO⟩:∃ b:Nat,b = w2.heap.size:=⟨_,rfl⟩
 have hwB:w.heap.size≤BO:=by omega
 have hb5:w.heap.size < BO:=by have:=BX.lt hB1x2; omega
 have hb6:w1.heap.size < BO:=by have:=BX.lt hB2; omega
 refine r_nil rV good_rV u32 ti27 zN fun v4 w4 hX4 hz4 hO4=>?_
 have hzs4:w2.heap.size≤w4.heap.size:=hX4.size
 have hE4:Ext w w4:=hE2.trans hX4
 have hB1x4:=hB1x2.ext hX4
 have hB2x4:=hB2.ext hX4
 obtain ⟨us4,F4,hb4⟩:=Bld.nil (S:=[]) (by rw [← hBO] at hO4; exact hO4)
 refine lw_tvn 1 rfl (wp_seq (wp_plain _ [0,0] rfl (q_func [] [(.pointer (some ⟨w1.heap.size,0,none⟩))] rfl rfl zN (lw_tvn 1 rfl (wp_seq (wp_seq (wp_plain _ [0,2,0,0] rfl (q_fldP (p:=(.pointer (some ⟨w.heap.size,0,none⟩))) (b:=w.heap.size) (o:=0) 1 fd199_1 rfl rfl zN (q_load (p:=(padd (.pointer (some ⟨w.heap.size,0,none⟩)) 1)) (.inr rfl) vtc one196 rfl (hB1x4.ldp (i:=1) sM) zN (q_len (v:=vtc) u196 rfl htcT.isSl zN (lw_tvn 1 rfl (wp_block ?_))))))))))))
 refine c_loop (S:=Nat × Value) (fun (⟨k,vo⟩:Nat × Value)=>([(8,vo),(18,(.int .i64 ((k :Nat):Int))),(1,va),(9,(.func (.func 219) #[] #[(.pointer (some ⟨w1.heap.size,0,none⟩))])),(16,vtc),(17,(.int .i64 ((T.code.length :Nat):Int)))]:List (Nat × Value))) (fun (⟨k,vo⟩:Nat × Value) (W:World)=>Ext w W∧BX W.heap w1.heap.size [(.int .i64 ord)]∧k≤T.code.length∧w.heap.size≤BO∧BO≤W.heap.size∧BldE 27 [] BO W.heap vo (regs (ord.toNat + 1) A (T.code.take k))∧regZ (ord.toNat + 1) A T.code k∧SrE (ord.toNat + 1) (regs (ord.toNat + 1) A (T.code.take k))) (fun (⟨k,vo⟩:Nat × Value)=>T.code.length - k) (0,v4) ⟨rfl,rfl,rfl,rfl,rfl,rfl,trivial⟩ ⟨hE4,hB2x4,oM,oM,oM,(by exact ⟨_,_,by assumption⟩),(by exact regZ_0),(by intro j hj; simp at hj)⟩ ?_
 clear hE0 hz1 hX1 hzs1 hE1 hz2 hX2 hzs2 hE2 hO4 hz4 hX4 hzs4 hE4
 rintro ⟨k,vo⟩ ρ7 w7 ⟨hE7,hL7_0,hp7_0,hp7_1,hp7_2,hbld,hzk,hR⟩
 have hzs7:w.heap.size≤w7.heap.size:=hE7.size
 have hRl:(regs (ord.toNat + 1) A (T.code.take k)).length = k:=by rw [regs_len,List.length_take]; omega
 have hq8:=hL7_0.lt
 obtain ⟨us9,F9,hbl9⟩:=hbld
 have hFl:∀ b∈F9,b < w7.heap.size:=hbl9.lt
 refine wp_seq (wp_plain _ [0] rfl ?_)
 by_cases hc10:((k :Nat):Int) < ((T.code.length :Nat):Int)
 ·
  refine q_lss true rfl rfl (decide_eq_true hc10) zN (lw_nil (wp_seq (c_cond_t rfl (wp_skip (wp_seq (wp_block (wp_seq (wp_plain _ [0,2,3,4] rfl ?_))))))))
  have hkl:k < T.code.length:=by omega
  refine q_idx (v:=vtc) k u196 tiS231 rfl rfl htcT.isSl rfl sD zN ?_
  obtain ⟨cs11,hr11,hl11⟩:=htcT.get good_rIn Ins.zero (k:=k) sD
  obtain ⟨rfl,hx11⟩:=rn_ins hr11
  refine q_loadA (p:=eptr vtc k 4) (.inr rfl) [(.int .i64 ((T.code.getD k Ins.zero).op)),(.int .i64 ((T.code.getD k Ins.zero).a)),(.int .i64 ((T.code.getD k Ins.zero).b)),(.int .i64 ((T.code.getD k Ins.zero).num))] agg231 rfl (fun wq9 hw9=>hl11 wq9 (Chg.of_ext [] (hE7.trans hw9))) rfl zN ?_
  have hq13:=hL7_0.lt
  refine r_allocA (z:=.agg #[.int .i64 0,.int .i64 0,.int .i64 0,.int .i64 0]) zr231 zN fun w12 hX12 hz12 hB12=>?_
  have hzs12:w7.heap.size≤w12.heap.size:=hX12.size
  have hE12:Ext w w12:=hE7.trans hX12
  have hL7_0x12:=hL7_0.ext hX12
  have hN14:=hbl9.ext hX12
  replace hB12:BX w12.heap w7.heap.size [(.int .i64 0),(.int .i64 0),(.int .i64 0),(.int .i64 0)]:=hB12
  refine e_setA (vs:=[(.int .i64 ((T.code.getD k Ins.zero).op)),(.int .i64 ((T.code.getD k Ins.zero).a)),(.int .i64 ((T.code.getD k Ins.zero).b)),(.int .i64 ((T.code.getD k Ins.zero).num))]) agg231 rfl rfl (by intro u hu; simp only [List.mem_cons,List.not_mem_nil,or_false] at hu; rcases hu with rfl | rfl | rfl | rfl <;> first | exact ⟨rfl,rfl⟩) hB12 rfl rfl zN fun w15 hC15 hz15 hB15=>?_
  replace hB15:BX w15.heap w7.heap.size [(.int .i64 ((T.code.getD k Ins.zero).op)),(.int .i64 ((T.code.getD k Ins.zero).a)),(.int .i64 ((T.code.getD k Ins.zero).b)),(.int .i64 ((T.code.getD k Ins.zero).num))]:=hB15
  have hE15:Ext w w15:=hC15.below hE12 (fun c hc=>by have:=List.mem_singleton.1 hc; omega) hE12.size
  have hzs15:w12.heap.size≤w15.heap.size:=hC15.size
  have hF16:=hL7_0x12.chg hC15 (fun hm=>by have:=List.mem_singleton.1 hm; omega)
  have hN17:=hbl9.ext (hC15.below hX12 (fun c hc=>by have:=List.mem_singleton.1 hc; omega) hX12.size)
  refine lw_nil (wp_seq (wp_plain _ [0,0,2,3,0] rfl (lw_tv 1 rfl (q_fldP (p:=(.pointer (some ⟨w7.heap.size,0,none⟩))) (b:=w7.heap.size) (o:=0) 3 fd231_3 rfl rfl zN (q_load (p:=(padd (.pointer (some ⟨w7.heap.size,0,none⟩)) 3)) (.inr rfl) (.int .i64 ((T.code.getD k Ins.zero).num)) one2 rfl (hB15.ldp (i:=3) sM) zN (lw_call 219 [] [(.pointer (some ⟨w1.heap.size,0,none⟩))] [(.int .i64 ((T.code.getD k Ins.zero).num)),(.pointer (some ⟨w1.heap.size,0,none⟩))] rfl rfl cf219 zN (c_impl_Tape_registers_1 _ _ (w1.heap.size) (ord) hx11.2.2.2 (hF16.ld (k:=0) sM) _hord oM) ?_))))))
  rintro e18 w18 ⟨v18_0,rfl,hX18,hO18_0⟩
  refine ⟨_,rfl,hX18,?_⟩
  have hzs18:w15.heap.size≤w18.heap.size:=hX18.size
  have hE18:Ext w w18:=hE15.trans hX18
  have hF16x18:=hF16.ext hX18
  have hB15x18:=hB15.ext hX18
  have hN19:=hN17.ext hX18
  refine lw_tvn 1 rfl (wp_seq (wp_seq (wp_plain _ [0,2] rfl (q_fldP (p:=(.pointer (some ⟨w7.heap.size,0,none⟩))) (b:=w7.heap.size) (o:=0) 0 fd231_0 rfl rfl zN (q_load (p:=(padd (.pointer (some ⟨w7.heap.size,0,none⟩)) 0)) (.inr rfl) (.int .i64 ((T.code.getD k Ins.zero).op)) one2 rfl (hB15x18.ldp (i:=0) sM) zN (lw_nil (wp_block (wp_seq (wp_plain _ [0,0] rfl ?_)))))))))
  by_cases hc20:(T.code.getD k Ins.zero).op = ((1 :Nat):Int)
  ·
   refine q_eql true rfl rfl (decide_eq_true hc20) zN (lw_tvn 1 rfl (c_cond_t rfl (wp_plain _ [0,0,2,0,2,0] rfl ?_)))
   have hio:=(hform k hkl).i1 oM
   refine lw_tv 1 rfl (q_fldP (p:=(.pointer (some ⟨w7.heap.size,0,none⟩))) (b:=w7.heap.size) (o:=0) 3 fd231_3 rfl rfl zN (q_load (p:=(padd (.pointer (some ⟨w7.heap.size,0,none⟩)) 3)) (.inr rfl) (.int .i64 ((T.code.getD k Ins.zero).num)) one2 rfl (hB15x18.ldp (i:=3) sM) zN (q_idx (v:=va) (((T.code.getD k Ins.zero).num).toNat) u32 ti27 rfl rfl hA.slL oM sD zN ?_)))
   obtain ⟨ue21,hl21,hr21⟩:=RN.getL (w:=w) g1 [] (k:=((T.code.getD k Ins.zero).num).toNat) hA sD
   have hln21:=hr21.lenL
   unfold maxLen at hln21
   refine q_load (p:=eptr va (((T.code.getD k Ins.zero).num).toNat) 1) (.inr rfl) ue21 one27 rfl (hl21 _ (Chg.of_ext [] hE18)) zN (lw_tvn 1 rfl (wp_plain _ [0,0,3,4,0] rfl (lw_tv 2 rfl (r_one (u:=ue21) (B:=w18.heap.size) good_rV u32 ti27 rfl rfl (frV w18.heap.size w18.heap.size _ (hr21.one1 g1)) (Nat.le_refl _) zN fun v22 w22 hX22 hz22 hO22=>?_))))
   have hzs22:w18.heap.size≤w22.heap.size:=hX22.size
   have hE22:Ext w w22:=hE18.trans hX22
   have hF16x22:=hF16x18.ext hX22
   have hB15x22:=hB15x18.ext hX22
   have hO18_0x22:=hO18_0.ext (o1) hX22
   have hN23:=hN19.ext hX22
   refine e_appB (v:=vo) (a:=v22) (u:=ue21) u32 ti27 rfl rfl rfl hN23 oM hO22 (RN.stp g1 hr21 (Chg.of_ext [] hE22) (fun b hb=>.inr (by have:=hN23.low b (by simpa using hb); omega))) sD z180_1 zN ?_
   rintro v24 w24 G24 hC24 hF24 ⟨us24,F24,hb24⟩
   have hzs24:w22.heap.size≤w24.heap.size:=hC24.size
   have hE24:Ext w w24:=hC24.below hE22 (fun c hc=>Nat.le_trans hwB (hN23.low c (hF24 c hc))) hE22.size
   have hF25:=hF16x22.chg hC24 (fun hm=>by have:=hN23.low _ (hF24 _ hm); omega)
   refine lw_tvn 1 rfl (wp_plain _ [0,0] rfl (q_add ((k + 1 :Nat):Int) rfl rfl (w64n oM sD) zN (lw_tvn 1 rfl ?_)))
   exact ⟨((k + 1),v24),_,rfl,⟨rfl,rfl,rfl,rfl,rfl,rfl,trivial⟩,⟨hE24,hF25,oM,oM,oM,z180_0,z180_2,z180_3⟩,by first | omega | (dsimp only; omega)⟩
  ·
   refine q_eql false rfl rfl (decide_eq_false hc20) zN (lw_tvn 1 rfl (c_cond_f rfl (wp_seq (wp_plain _ [0,0] rfl ?_))))
   by_cases hc26:(T.code.getD k Ins.zero).op = ((3 :Nat):Int)
   ·
    refine q_eql true rfl rfl (decide_eq_true hc26) zN (lw_tvn 1 rfl (c_cond_t rfl (wp_draw _ [0,0,1,0,1,0,0,1,0,1,3,0] mixed (by kernel_rfl) ?_)))
    have hio:=(hform k hkl).i2 oM
    have hra:=hR (T.code.getD k Ins.zero).a.toNat oM
    have hrb:=hR (T.code.getD k Ins.zero).b.toNat oM
    have hra1:=hra.1
    have hrb1:=hrb.1
    refine lw_tv 1 rfl (q_fldP (p:=(.pointer (some ⟨w7.heap.size,0,none⟩))) (b:=w7.heap.size) (o:=0) 1 fd231_1 rfl rfl zN (q_load (p:=(padd (.pointer (some ⟨w7.heap.size,0,none⟩)) 1)) (.inl rfl) (.int .i64 ((T.code.getD k Ins.zero).a)) one2 rfl (hB15x18.ldp (i:=1) sM) zN (q_idx (v:=vo) (((T.code.getD k Ins.zero).a).toNat) u32 ti27 rfl rfl (hN19.done (fun b hb=>absurd hb List.not_mem_nil)).slL oM sD zN ?_)))
    obtain ⟨ue27,hl27,hr27⟩:=RN.getL (w:=w18) g1 [] (k:=((T.code.getD k Ins.zero).a).toNat) (hN19.done (fun b hb=>absurd hb List.not_mem_nil)) sD
    have hln27:=hr27.lenL
    unfold maxLen at hln27
    refine q_load (p:=eptr vo (((T.code.getD k Ins.zero).a).toNat) 1) (.inl rfl) ue27 one27 rfl (hl27 _ (Chg.refl _ _).drew) zN (lw_tv 1 rfl (q_fldP (p:=(.pointer (some ⟨w7.heap.size,0,none⟩))) (b:=w7.heap.size) (o:=0) 2 fd231_2 rfl rfl zN (q_load (p:=(padd (.pointer (some ⟨w7.heap.size,0,none⟩)) 2)) (.inl rfl) (.int .i64 ((T.code.getD k Ins.zero).b)) one2 rfl (hB15x18.ldp (i:=2) sM) zN ?_)))
    refine q_idx (v:=vo) (((T.code.getD k Ins.zero).b).toNat) u32 ti27 rfl rfl (hN19.done (fun b hb=>absurd hb List.not_mem_nil)).slL oM sD zN ?_
    obtain ⟨ue28,hl28,hr28⟩:=RN.getL (w:=w18) g1 [] (k:=((T.code.getD k Ins.zero).b).toNat) (hN19.done (fun b hb=>absurd hb List.not_mem_nil)) sD
    have hln28:=hr28.lenL
    unfold maxLen at hln28
    refine q_load (p:=eptr vo (((T.code.getD k Ins.zero).b).toNat) 1) (.inl rfl) ue28 one27 rfl (hl28 _ (Chg.refl _ _).drew) zN (lw_call 102 [] [] [ue27,ue28] rfl rfl cf102 zN (c_impl_added _ _ _ _ _ (hr27).rd (hr28).rd oM oM (by exact hra.2) (by exact hrb.2)) ?_)
    rintro e29 w29 ⟨v29_0,rfl,hX29,hO29_0⟩
    refine ⟨_,rfl,hX29,?_⟩
    replace hX29:=hX29.of_drew
    have hzs29:w18.heap.size≤w29.heap.size:=hX29.size
    have hE29:Ext w w29:=hE18.trans hX29
    have hF16x29:=hF16x18.ext hX29
    have hB15x29:=hB15x18.ext hX29
    have hO18_0x29:=hO18_0.ext (o1) hX29
    have hN30:=hN19.ext hX29
    have hN31:=hr27.ext g1 hX29
    have hN32:=hr28.ext g1 hX29
    replace hO29_0:=hO29_0.low (B':=w18.heap.size) (Nat.le_refl _)
    refine lw_tvn 1 rfl (wp_plain _ [0,0,3,4,0] rfl (lw_tv 2 rfl (r_one (u:=v29_0) (B:=w29.heap.size) good_rV u32 ti27 rfl rfl (frV w29.heap.size w29.heap.size _ (⟨(isSl_cells hO29_0.isSl).1,(isSl_cells hO29_0.isSl).2⟩)) (Nat.le_refl _) zN fun v33 w33 hX33 hz33 hO33=>?_)))
    have hzs33:w29.heap.size≤w33.heap.size:=hX33.size
    have hE33:Ext w w33:=hE29.trans hX33
    have hF16x33:=hF16x29.ext hX33
    have hB15x33:=hB15x29.ext hX33
    have hO18_0x33:=hO18_0x29.ext (o1) hX33
    have hO29_0x33:=hO29_0.ext (o1) hX33
    have hN34:=hN30.ext hX33
    have hN35:=hN31.ext g1 hX33
    have hN36:=hN32.ext g1 hX33
    refine e_appB (v:=vo) (a:=v33) (u:=v29_0) u32 ti27 rfl rfl rfl hN34 oM hO33 (RN.of_fr1 hO29_0x33 (fun b hb=>by have:=hFl b (by simpa using hb); omega)) sD z180_1 zN ?_
    rintro v37 w37 G37 hC37 hF37 ⟨us37,F37,hb37⟩
    have hzs37:w33.heap.size≤w37.heap.size:=hC37.size
    have hE37:Ext w w37:=hC37.below hE33 (fun c hc=>Nat.le_trans hwB (hN34.low c (hF37 c hc))) hE33.size
    have hF38:=hF16x33.chg hC37 (fun hm=>by have:=hN34.low _ (hF37 _ hm); omega)
    refine lw_tvn 1 rfl (wp_plain _ [0,0] rfl (q_add ((k + 1 :Nat):Int) rfl rfl (w64n oM sD) zN (lw_tvn 1 rfl ?_)))
    exact ⟨((k + 1),v37),_,rfl,⟨rfl,rfl,rfl,rfl,rfl,rfl,trivial⟩,⟨hE37,hF38,oM,oM,oM,z180_0,z180_2,z180_3⟩,by first | omega | (dsimp only; omega)⟩
   ·
    refine q_eql false rfl rfl (decide_eq_false hc26) zN (lw_tvn 1 rfl (c_cond_f rfl (wp_seq (wp_plain _ [0,0] rfl ?_))))
    by_cases hc39:(T.code.getD k Ins.zero).op = ((4 :Nat):Int)
    ·
     refine q_eql true rfl rfl (decide_eq_true hc39) zN (lw_tvn 1 rfl (c_cond_t rfl (wp_draw _ [0,0,1,0,1,0,0,1,0,1,3,0] mixed (by kernel_rfl) ?_)))
     have hio:=(hform k hkl).i2 oM
     have hra:=hR (T.code.getD k Ins.zero).a.toNat oM
     have hrb:=hR (T.code.getD k Ins.zero).b.toNat oM
     have hra1:=hra.1
     have hrb1:=hrb.1
     refine lw_tv 1 rfl (q_fldP (p:=(.pointer (some ⟨w7.heap.size,0,none⟩))) (b:=w7.heap.size) (o:=0) 1 fd231_1 rfl rfl zN (q_load (p:=(padd (.pointer (some ⟨w7.heap.size,0,none⟩)) 1)) (.inl rfl) (.int .i64 ((T.code.getD k Ins.zero).a)) one2 rfl (hB15x18.ldp (i:=1) sM) zN (q_idx (v:=vo) (((T.code.getD k Ins.zero).a).toNat) u32 ti27 rfl rfl (hN19.done (fun b hb=>absurd hb List.not_mem_nil)).slL oM sD zN ?_)))
     obtain ⟨ue40,hl40,hr40⟩:=RN.getL (w:=w18) g1 [] (k:=((T.code.getD k Ins.zero).a).toNat) (hN19.done (fun b hb=>absurd hb List.not_mem_nil)) sD
     have hln40:=hr40.lenL
     unfold maxLen at hln40
     refine q_load (p:=eptr vo (((T.code.getD k Ins.zero).a).toNat) 1) (.inl rfl) ue40 one27 rfl (hl40 _ (Chg.refl _ _).drew) zN (lw_tv 1 rfl (q_fldP (p:=(.pointer (some ⟨w7.heap.size,0,none⟩))) (b:=w7.heap.size) (o:=0) 2 fd231_2 rfl rfl zN (q_load (p:=(padd (.pointer (some ⟨w7.heap.size,0,none⟩)) 2)) (.inl rfl) (.int .i64 ((T.code.getD k Ins.zero).b)) one2 rfl (hB15x18.ldp (i:=2) sM) zN ?_)))
     refine q_idx (v:=vo) (((T.code.getD k Ins.zero).b).toNat) u32 ti27 rfl rfl (hN19.done (fun b hb=>absurd hb List.not_mem_nil)).slL oM sD zN ?_
     obtain ⟨ue41,hl41,hr41⟩:=RN.getL (w:=w18) g1 [] (k:=((T.code.getD k Ins.zero).b).toNat) (hN19.done (fun b hb=>absurd hb List.not_mem_nil)) sD
     have hln41:=hr41.lenL
     unfold maxLen at hln41
     refine q_load (p:=eptr vo (((T.code.getD k Ins.zero).b).toNat) 1) (.inl rfl) ue41 one27 rfl (hl41 _ (Chg.refl _ _).drew) zN (lw_call 132 [] [] [ue40,ue41] rfl rfl cf132 zN (c_impl_reduced _ _ _ _ _ (hr40).rd (hr41).rd oM oM oM (by exact hra.2) (by exact hrb.2)) ?_)
     rintro e42 w42 ⟨v42_0,rfl,hX42,hO42_0⟩
     refine ⟨_,rfl,hX42,?_⟩
     replace hX42:=hX42.of_drew
     have hzs42:w18.heap.size≤w42.heap.size:=hX42.size
     have hE42:Ext w w42:=hE18.trans hX42
     have hF16x42:=hF16x18.ext hX42
     have hB15x42:=hB15x18.ext hX42
     have hO18_0x42:=hO18_0.ext (o1) hX42
     have hN43:=hN19.ext hX42
     have hN44:=hr40.ext g1 hX42
     have hN45:=hr41.ext g1 hX42
     replace hO42_0:=hO42_0.low (B':=w18.heap.size) (Nat.le_refl _)
     refine lw_tvn 1 rfl (wp_plain _ [0,0,3,4,0] rfl (lw_tv 2 rfl (r_one (u:=v42_0) (B:=w42.heap.size) good_rV u32 ti27 rfl rfl (frV w42.heap.size w42.heap.size _ (⟨(isSl_cells hO42_0.isSl).1,(isSl_cells hO42_0.isSl).2⟩)) (Nat.le_refl _) zN fun v46 w46 hX46 hz46 hO46=>?_)))
     have hzs46:w42.heap.size≤w46.heap.size:=hX46.size
     have hE46:Ext w w46:=hE42.trans hX46
     have hF16x46:=hF16x42.ext hX46
     have hB15x46:=hB15x42.ext hX46
     have hO18_0x46:=hO18_0x42.ext (o1) hX46
     have hO42_0x46:=hO42_0.ext (o1) hX46
     have hN47:=hN43.ext hX46
     have hN48:=hN44.ext g1 hX46
     have hN49:=hN45.ext g1 hX46
     refine e_appB (v:=vo) (a:=v46) (u:=v42_0) u32 ti27 rfl rfl rfl hN47 oM hO46 (RN.of_fr1 hO42_0x46 (fun b hb=>by have:=hFl b (by simpa using hb); omega)) sD z180_1 zN ?_
     rintro v50 w50 G50 hC50 hF50 ⟨us50,F50,hb50⟩
     have hzs50:w46.heap.size≤w50.heap.size:=hC50.size
     have hE50:Ext w w50:=hC50.below hE46 (fun c hc=>Nat.le_trans hwB (hN47.low c (hF50 c hc))) hE46.size
     have hF51:=hF16x46.chg hC50 (fun hm=>by have:=hN47.low _ (hF50 _ hm); omega)
     refine lw_tvn 1 rfl (wp_plain _ [0,0] rfl (q_add ((k + 1 :Nat):Int) rfl rfl (w64n oM sD) zN (lw_tvn 1 rfl ?_)))
     exact ⟨((k + 1),v50),_,rfl,⟨rfl,rfl,rfl,rfl,rfl,rfl,trivial⟩,⟨hE50,hF51,oM,oM,oM,z180_0,z180_2,z180_3⟩,by first | omega | (dsimp only; omega)⟩
    ·
     refine q_eql false rfl rfl (decide_eq_false hc39) zN (lw_tvn 1 rfl (c_cond_f rfl (wp_seq (wp_plain _ [0,0] rfl ?_))))
     by_cases hc52:(T.code.getD k Ins.zero).op = ((5 :Nat):Int)
     ·
      refine q_eql true rfl rfl (decide_eq_true hc52) zN (lw_tvn 1 rfl (c_cond_t rfl (wp_draw _ [0,0,1,0,1,0,0,1,0,1,3,0] mixed (by kernel_rfl) ?_)))
      have hio:=(hform k hkl).i2 oM
      have hra:=hR (T.code.getD k Ins.zero).a.toNat oM
      have hrb:=hR (T.code.getD k Ins.zero).b.toNat oM
      have hra1:=hra.1
      have hrb1:=hrb.1
      refine lw_tv 1 rfl (q_fldP (p:=(.pointer (some ⟨w7.heap.size,0,none⟩))) (b:=w7.heap.size) (o:=0) 1 fd231_1 rfl rfl zN (q_load (p:=(padd (.pointer (some ⟨w7.heap.size,0,none⟩)) 1)) (.inl rfl) (.int .i64 ((T.code.getD k Ins.zero).a)) one2 rfl (hB15x18.ldp (i:=1) sM) zN (q_idx (v:=vo) (((T.code.getD k Ins.zero).a).toNat) u32 ti27 rfl rfl (hN19.done (fun b hb=>absurd hb List.not_mem_nil)).slL oM sD zN ?_)))
      obtain ⟨ue53,hl53,hr53⟩:=RN.getL (w:=w18) g1 [] (k:=((T.code.getD k Ins.zero).a).toNat) (hN19.done (fun b hb=>absurd hb List.not_mem_nil)) sD
      have hln53:=hr53.lenL
      unfold maxLen at hln53
      refine q_load (p:=eptr vo (((T.code.getD k Ins.zero).a).toNat) 1) (.inl rfl) ue53 one27 rfl (hl53 _ (Chg.refl _ _).drew) zN (lw_tv 1 rfl (q_fldP (p:=(.pointer (some ⟨w7.heap.size,0,none⟩))) (b:=w7.heap.size) (o:=0) 2 fd231_2 rfl rfl zN (q_load (p:=(padd (.pointer (some ⟨w7.heap.size,0,none⟩)) 2)) (.inl rfl) (.int .i64 ((T.code.getD k Ins.zero).b)) one2 rfl (hB15x18.ldp (i:=2) sM) zN ?_)))
      refine q_idx (v:=vo) (((T.code.getD k Ins.zero).b).toNat) u32 ti27 rfl rfl (hN19.done (fun b hb=>absurd hb List.not_mem_nil)).slL oM sD zN ?_
      obtain ⟨ue54,hl54,hr54⟩:=RN.getL (w:=w18) g1 [] (k:=((T.code.getD k Ins.zero).b).toNat) (hN19.done (fun b hb=>absurd hb List.not_mem_nil)) sD
      have hln54:=hr54.lenL
      unfold maxLen at hln54
      refine q_load (p:=eptr vo (((T.code.getD k Ins.zero).b).toNat) 1) (.inl rfl) ue54 one27 rfl (hl54 _ (Chg.refl _ _).drew) zN (lw_call 151 [] [] [ue53,ue54] rfl rfl cf151 zN (c_impl_product _ _ _ _ _ (hr53).rd (hr54).rd oM oM (by exact hra.2) (by exact hrb.2)) ?_)
      rintro e55 w55 ⟨v55_0,rfl,hX55,hO55_0⟩
      refine ⟨_,rfl,hX55,?_⟩
      replace hX55:=hX55.of_drew
      have hzs55:w18.heap.size≤w55.heap.size:=hX55.size
      have hE55:Ext w w55:=hE18.trans hX55
      have hF16x55:=hF16x18.ext hX55
      have hB15x55:=hB15x18.ext hX55
      have hO18_0x55:=hO18_0.ext (o1) hX55
      have hN56:=hN19.ext hX55
      have hN57:=hr53.ext g1 hX55
      have hN58:=hr54.ext g1 hX55
      replace hO55_0:=hO55_0.low (B':=w18.heap.size) (Nat.le_refl _)
      refine lw_tvn 1 rfl (wp_plain _ [0,0,3,4,0] rfl (lw_tv 2 rfl (r_one (u:=v55_0) (B:=w55.heap.size) good_rV u32 ti27 rfl rfl (frV w55.heap.size w55.heap.size _ (⟨(isSl_cells hO55_0.isSl).1,(isSl_cells hO55_0.isSl).2⟩)) (Nat.le_refl _) zN fun v59 w59 hX59 hz59 hO59=>?_)))
      have hzs59:w55.heap.size≤w59.heap.size:=hX59.size
      have hE59:Ext w w59:=hE55.trans hX59
      have hF16x59:=hF16x55.ext hX59
      have hB15x59:=hB15x55.ext hX59
      have hO18_0x59:=hO18_0x55.ext (o1) hX59
      have hO55_0x59:=hO55_0.ext (o1) hX59
      have hN60:=hN56.ext hX59
      have hN61:=hN57.ext g1 hX59
      have hN62:=hN58.ext g1 hX59
      refine e_appB (v:=vo) (a:=v59) (u:=v55_0) u32 ti27 rfl rfl rfl hN60 oM hO59 (RN.of_fr1 hO55_0x59 (fun b hb=>by have:=hFl b (by simpa using hb); omega)) sD z180_1 zN ?_
      rintro v63 w63 G63 hC63 hF63 ⟨us63,F63,hb63⟩
      have hzs63:w59.heap.size≤w63.heap.size:=hC63.size
      have hE63:Ext w w63:=hC63.below hE59 (fun c hc=>Nat.le_trans hwB (hN60.low c (hF63 c hc))) hE59.size
      have hF64:=hF16x59.chg hC63 (fun hm=>by have:=hN60.low _ (hF63 _ hm); omega)
      refine lw_tvn 1 rfl (wp_plain _ [0,0] rfl (q_add ((k + 1 :Nat):Int) rfl rfl (w64n oM sD) zN (lw_tvn 1 rfl ?_)))
      exact ⟨((k + 1),v63),_,rfl,⟨rfl,rfl,rfl,rfl,rfl,rfl,trivial⟩,⟨hE63,hF64,oM,oM,oM,z180_0,z180_2,z180_3⟩,by first | omega | (dsimp only; omega)⟩
     ·
      refine q_eql false rfl rfl (decide_eq_false hc52) zN (lw_tvn 1 rfl (c_cond_f rfl (wp_seq (wp_plain _ [0,0] rfl ?_))))
      by_cases hc65:(T.code.getD k Ins.zero).op = ((7 :Nat):Int)
      ·
       refine q_eql true rfl rfl (decide_eq_true hc65) zN (lw_tvn 1 rfl (c_cond_t rfl (wp_plain _ [0,0,2,0,2,3,0] rfl ?_)))
       have hio:=(hform k hkl).i7 oM
       have hra:=hR (T.code.getD k Ins.zero).a.toNat oM
       have hra1:=hra.1
       refine lw_tv 1 rfl (q_fldP (p:=(.pointer (some ⟨w7.heap.size,0,none⟩))) (b:=w7.heap.size) (o:=0) 1 fd231_1 rfl rfl zN (q_load (p:=(padd (.pointer (some ⟨w7.heap.size,0,none⟩)) 1)) (.inr rfl) (.int .i64 ((T.code.getD k Ins.zero).a)) one2 rfl (hB15x18.ldp (i:=1) sM) zN (q_idx (v:=vo) (((T.code.getD k Ins.zero).a).toNat) u32 ti27 rfl rfl (hN19.done (fun b hb=>absurd hb List.not_mem_nil)).slL oM sD zN ?_)))
       obtain ⟨ue66,hl66,hr66⟩:=RN.getL (w:=w18) g1 [] (k:=((T.code.getD k Ins.zero).a).toNat) (hN19.done (fun b hb=>absurd hb List.not_mem_nil)) sD
       have hln66:=hr66.lenL
       unfold maxLen at hln66
       refine q_load (p:=eptr vo (((T.code.getD k Ins.zero).a).toNat) 1) (.inr rfl) ue66 one27 rfl (hl66 _ (Chg.refl _ _)) zN (lw_call 103 [] [] [ue66,(.int .i64 ((1000002 :Nat):Int))] rfl rfl cf103 zN (c_impl_scaled _ _ _ _ (hr66).rd oM oM (by exact hra.2) oM) ?_)
       rintro e67 w67 ⟨v67_0,rfl,hX67,hO67_0⟩
       refine ⟨_,rfl,hX67,?_⟩
       have hzs67:w18.heap.size≤w67.heap.size:=hX67.size
       have hE67:Ext w w67:=hE18.trans hX67
       have hF16x67:=hF16x18.ext hX67
       have hB15x67:=hB15x18.ext hX67
       have hO18_0x67:=hO18_0.ext (o1) hX67
       have hN68:=hN19.ext hX67
       have hN69:=hr66.ext g1 hX67
       refine lw_tvn 1 rfl (wp_plain _ [0,0,3,4,0] rfl (lw_tv 2 rfl (r_one (u:=v67_0) (B:=w67.heap.size) good_rV u32 ti27 rfl rfl (frV w67.heap.size w67.heap.size _ (⟨(isSl_cells hO67_0.isSl).1,(isSl_cells hO67_0.isSl).2⟩)) (Nat.le_refl _) zN fun v70 w70 hX70 hz70 hO70=>?_)))
       have hzs70:w67.heap.size≤w70.heap.size:=hX70.size
       have hE70:Ext w w70:=hE67.trans hX70
       have hF16x70:=hF16x67.ext hX70
       have hB15x70:=hB15x67.ext hX70
       have hO18_0x70:=hO18_0x67.ext (o1) hX70
       have hO67_0x70:=hO67_0.ext (o1) hX70
       have hN71:=hN68.ext hX70
       have hN72:=hN69.ext g1 hX70
       refine e_appB (v:=vo) (a:=v70) (u:=v67_0) u32 ti27 rfl rfl rfl hN71 oM hO70 (RN.of_fr1 hO67_0x70 (fun b hb=>by have:=hFl b (by simpa using hb); omega)) sD z180_1 zN ?_
       rintro v73 w73 G73 hC73 hF73 ⟨us73,F73,hb73⟩
       have hzs73:w70.heap.size≤w73.heap.size:=hC73.size
       have hE73:Ext w w73:=hC73.below hE70 (fun c hc=>Nat.le_trans hwB (hN71.low c (hF73 c hc))) hE70.size
       have hF74:=hF16x70.chg hC73 (fun hm=>by have:=hN71.low _ (hF73 _ hm); omega)
       refine lw_tvn 1 rfl (wp_plain _ [0,0] rfl (q_add ((k + 1 :Nat):Int) rfl rfl (w64n oM sD) zN (lw_tvn 1 rfl ?_)))
       exact ⟨((k + 1),v73),_,rfl,⟨rfl,rfl,rfl,rfl,rfl,rfl,trivial⟩,⟨hE73,hF74,oM,oM,oM,z180_0,z180_2,z180_3⟩,by first | omega | (dsimp only; omega)⟩
      ·
       refine q_eql false rfl rfl (decide_eq_false hc65) zN (lw_tvn 1 rfl (c_cond_f rfl (wp_seq (wp_plain _ [0,0] rfl ?_))))
       by_cases hc75:(T.code.getD k Ins.zero).op = ((6 :Nat):Int)
       ·
        refine q_eql true rfl rfl (decide_eq_true hc75) zN (lw_tvn 1 rfl (c_cond_t rfl (wp_seq (wp_seq (wp_plain _ [0,0,2,0,2,0,2,0] rfl ?_)))))
        have hio:=(hform k hkl).i2 oM
        have hra:=hR (T.code.getD k Ins.zero).a.toNat oM
        have hrb:=hR (T.code.getD k Ins.zero).b.toNat oM
        have hra1:=hra.1
        have hrb1:=hrb.1
        refine lw_tv 1 rfl (q_fldP (p:=(.pointer (some ⟨w7.heap.size,0,none⟩))) (b:=w7.heap.size) (o:=0) 2 fd231_2 rfl rfl zN (q_load (p:=(padd (.pointer (some ⟨w7.heap.size,0,none⟩)) 2)) (.inr rfl) (.int .i64 ((T.code.getD k Ins.zero).b)) one2 rfl (hB15x18.ldp (i:=2) sM) zN (q_idx (v:=vo) (((T.code.getD k Ins.zero).b).toNat) u32 ti27 rfl rfl (hN19.done (fun b hb=>absurd hb List.not_mem_nil)).slL oM sD zN ?_)))
        obtain ⟨ue76,hl76,hr76⟩:=RN.getL (w:=w18) g1 [] (k:=((T.code.getD k Ins.zero).b).toNat) (hN19.done (fun b hb=>absurd hb List.not_mem_nil)) sD
        have hln76:=hr76.lenL
        unfold maxLen at hln76
        refine q_load (p:=eptr vo (((T.code.getD k Ins.zero).b).toNat) 1) (.inr rfl) ue76 one27 rfl (hl76 _ (Chg.refl _ _)) zN (q_idx (v:=ue76) 0 u27 ti2 rfl rfl hr76.slL rfl sD zN ?_)
        have hg77:=RN.getI (w:=w18) (k:=0) hr76 sD
        refine q_load (p:=eptr ue76 0 1) (.inr rfl) (.int .i64 (((regs (ord.toNat + 1) A (T.code.take k)).getD (((T.code.getD k Ins.zero).b).toNat) []).getD 0 0)) one2 rfl (hg77.1 _ (Chg.refl _ _)) zN ?_
        by_cases hc78:((regs (ord.toNat + 1) A (T.code.take k)).getD (((T.code.getD k Ins.zero).b).toNat) []).getD 0 0 = ((0 :Nat):Int)
        ·
         exact q_eql true rfl rfl (decide_eq_true hc78) zN (lw_nil (c_cond_t rfl (wp_seq (wp_plain _ [0,0] rfl (lw_tvn 2 rfl (wp_ret (t_ret (b_ret (t_ret (b_ret (t_ret (t_ret (b_ret (t_ret (post_ret [6,7] rfl (.tuple #[(.slice none 0 0),(.int .i64 ((6 :Nat):Int))]) rfl ⟨_,_,rfl,hE18,.inr ⟨rfl,regZ_not oM oM oM⟩,(fun h9=>absurd h9 oM)⟩)))))))))))))))
        ·
         refine q_eql false rfl rfl (decide_eq_false hc78) zN (lw_nil (c_cond_f rfl (wp_skip (wp_draw _ [0,0,1,0,1,0,0,1,0,1,3,0] mixed (by kernel_rfl) (lw_tv 1 rfl (q_fldP (p:=(.pointer (some ⟨w7.heap.size,0,none⟩))) (b:=w7.heap.size) (o:=0) 1 fd231_1 rfl rfl zN (q_load (p:=(padd (.pointer (some ⟨w7.heap.size,0,none⟩)) 1)) (.inl rfl) (.int .i64 ((T.code.getD k Ins.zero).a)) one2 rfl (hB15x18.ldp (i:=1) sM) zN ?_)))))))
         refine q_idx (v:=vo) (((T.code.getD k Ins.zero).a).toNat) u32 ti27 rfl rfl (hN19.done (fun b hb=>absurd hb List.not_mem_nil)).slL oM sD zN ?_
         obtain ⟨ue79,hl79,hr79⟩:=RN.getL (w:=w18) g1 [] (k:=((T.code.getD k Ins.zero).a).toNat) (hN19.done (fun b hb=>absurd hb List.not_mem_nil)) sD
         have hln79:=hr79.lenL
         unfold maxLen at hln79
         refine q_load (p:=eptr vo (((T.code.getD k Ins.zero).a).toNat) 1) (.inl rfl) ue79 one27 rfl (hl79 _ (Chg.refl _ _).drew) zN (lw_tv 1 rfl (q_fldP (p:=(.pointer (some ⟨w7.heap.size,0,none⟩))) (b:=w7.heap.size) (o:=0) 2 fd231_2 rfl rfl zN (q_load (p:=(padd (.pointer (some ⟨w7.heap.size,0,none⟩)) 2)) (.inl rfl) (.int .i64 ((T.code.getD k Ins.zero).b)) one2 rfl (hB15x18.ldp (i:=2) sM) zN ?_)))
         refine q_idx (v:=vo) (((T.code.getD k Ins.zero).b).toNat) u32 ti27 rfl rfl (hN19.done (fun b hb=>absurd hb List.not_mem_nil)).slL oM sD zN ?_
         obtain ⟨ue80,hl80,hr80⟩:=RN.getL (w:=w18) g1 [] (k:=((T.code.getD k Ins.zero).b).toNat) (hN19.done (fun b hb=>absurd hb List.not_mem_nil)) sD
         have hln80:=hr80.lenL
         unfold maxLen at hln80
         refine q_load (p:=eptr vo (((T.code.getD k Ins.zero).b).toNat) 1) (.inl rfl) ue80 one27 rfl (hl80 _ (Chg.refl _ _).drew) zN (lw_call 185 [] [] [ue79,ue80] rfl rfl cf185 zN (c_impl_quotient _ _ _ _ _ (hr79).rd (hr80).rd oM oM oM (by exact hra.2) (by exact hrb.2)) ?_)
         rintro e81 w81 ⟨v81_0,rfl,hX81,hO81_0⟩
         refine ⟨_,rfl,hX81,?_⟩
         replace hX81:=hX81.of_drew
         have hzs81:w18.heap.size≤w81.heap.size:=hX81.size
         have hE81:Ext w w81:=hE18.trans hX81
         have hF16x81:=hF16x18.ext hX81
         have hB15x81:=hB15x18.ext hX81
         have hO18_0x81:=hO18_0.ext (o1) hX81
         have hN82:=hN19.ext hX81
         have hN83:=hr76.ext g1 hX81
         have hN84:=hr79.ext g1 hX81
         have hN85:=hr80.ext g1 hX81
         replace hO81_0:=hO81_0.low (B':=w18.heap.size) (Nat.le_refl _)
         refine lw_tvn 1 rfl (wp_plain _ [0,0,3,4,0] rfl (lw_tv 2 rfl (r_one (u:=v81_0) (B:=w81.heap.size) good_rV u32 ti27 rfl rfl (frV w81.heap.size w81.heap.size _ (⟨(isSl_cells hO81_0.isSl).1,(isSl_cells hO81_0.isSl).2⟩)) (Nat.le_refl _) zN fun v86 w86 hX86 hz86 hO86=>?_)))
         have hzs86:w81.heap.size≤w86.heap.size:=hX86.size
         have hE86:Ext w w86:=hE81.trans hX86
         have hF16x86:=hF16x81.ext hX86
         have hB15x86:=hB15x81.ext hX86
         have hO18_0x86:=hO18_0x81.ext (o1) hX86
         have hO81_0x86:=hO81_0.ext (o1) hX86
         have hN87:=hN82.ext hX86
         have hN88:=hN83.ext g1 hX86
         have hN89:=hN84.ext g1 hX86
         have hN90:=hN85.ext g1 hX86
         refine e_appB (v:=vo) (a:=v86) (u:=v81_0) u32 ti27 rfl rfl rfl hN87 oM hO86 (RN.of_fr1 hO81_0x86 (fun b hb=>by have:=hFl b (by simpa using hb); omega)) sD z180_1 zN ?_
         rintro v91 w91 G91 hC91 hF91 ⟨us91,F91,hb91⟩
         have hzs91:w86.heap.size≤w91.heap.size:=hC91.size
         have hE91:Ext w w91:=hC91.below hE86 (fun c hc=>Nat.le_trans hwB (hN87.low c (hF91 c hc))) hE86.size
         have hF92:=hF16x86.chg hC91 (fun hm=>by have:=hN87.low _ (hF91 _ hm); omega)
         refine lw_tvn 1 rfl (wp_plain _ [0,0] rfl (q_add ((k + 1 :Nat):Int) rfl rfl (w64n oM sD) zN (lw_tvn 1 rfl ?_)))
         exact ⟨((k + 1),v91),_,rfl,⟨rfl,rfl,rfl,rfl,rfl,rfl,trivial⟩,⟨hE91,hF92,oM,oM,oM,z180_0,z180_2,z180_3⟩,by first | omega | (dsimp only; omega)⟩
       ·
        refine q_eql false rfl rfl (decide_eq_false hc75) zN (lw_tvn 1 rfl (c_cond_f rfl (wp_skip (wp_plain _ [0,0,3,4,0] rfl (lw_tv 2 rfl (r_one (u:=v18_0) (B:=w18.heap.size) good_rV u32 ti27 rfl rfl (frV w18.heap.size w18.heap.size _ (⟨(isSl_cells hO18_0.isSl).1,(isSl_cells hO18_0.isSl).2⟩)) (Nat.le_refl _) zN fun v93 w93 hX93 hz93 hO93=>?_))))))
        have hzs93:w18.heap.size≤w93.heap.size:=hX93.size
        have hE93:Ext w w93:=hE18.trans hX93
        have hF16x93:=hF16x18.ext hX93
        have hB15x93:=hB15x18.ext hX93
        have hO18_0x93:=hO18_0.ext (o1) hX93
        have hN94:=hN19.ext hX93
        refine e_appB (v:=vo) (a:=v93) (u:=v18_0) u32 ti27 rfl rfl rfl hN94 oM hO93 (RN.of_fr1 hO18_0x93 (fun b hb=>by have:=hFl b (by simpa using hb); omega)) sD z180_1 zN ?_
        rintro v95 w95 G95 hC95 hF95 ⟨us95,F95,hb95⟩
        have hzs95:w93.heap.size≤w95.heap.size:=hC95.size
        have hE95:Ext w w95:=hC95.below hE93 (fun c hc=>Nat.le_trans hwB (hN94.low c (hF95 c hc))) hE93.size
        have hF96:=hF16x93.chg hC95 (fun hm=>by have:=hN94.low _ (hF95 _ hm); omega)
        refine lw_tvn 1 rfl (wp_plain _ [0,0] rfl (q_add ((k + 1 :Nat):Int) rfl rfl (w64n oM sD) zN (lw_tvn 1 rfl ?_)))
        exact ⟨((k + 1),v95),_,rfl,⟨rfl,rfl,rfl,rfl,rfl,rfl,trivial⟩,⟨hE95,hF96,oM,oM,oM,z180_0,z180_2,z180_3⟩,by first | omega | (dsimp only; omega)⟩
 ·
  exact q_lss false rfl rfl (decide_eq_false hc10) zN (lw_nil (wp_seq (c_cond_f rfl (wp_exit (t_exit (t_exit (c_exit_here (wp_seq (wp_plain _ [0,0,0] rfl (lw_tvn 3 rfl (wp_ret (post_ret [6,7] rfl (.tuple #[vo,(.int .i64 ((0 :Nat):Int))]) rfl ⟨_,_,rfl,hE7,.inl ⟨rfl,(by have h9:=hzk; rwa [show k = T.code.length from by omega] at h9)⟩,(fun _=>⟨(by have h9:=hbl9.done (fun b hb=>absurd hb List.not_mem_nil); rwa [List.take_of_length_le oM] at h9),hbl9.cap⟩)⟩))))))))))))
end Go.Proofs.YtnokbaiemimhjaaGreat
