/- Yd, Ye, Yf, Yg, Yh, Yi, Vi, Vj, Vk: texts of this claim, joined; what the claim does not come to is left out. -/
import Derived.Test.YtnokbaiemimhjaaGreatQC4
import Derived.Test.YtnokbaiemimhjaaGreatProg
set_option linter.unusedVariables false
set_option linter.unusedSimpArgs false
namespace Go.Proofs.YtnokbaiemimhjaaGreat
open Go Go.RowKit
set_option linter.unusedVariables false
set_option linter.unusedSimpArgs false
set_option maxHeartbeats 4000000
set_option maxRecDepth 100000
attribute [local irreducible] LW
theorem c_impl_Tape_adjoints_1 (w:World) (r:Int) (vs:Value) (s:List Int) (S:List Nat) (vo:Nat) (vov:Value) (xs:List (List Int)) (usxs:List Value) (Fxs:List Nat) (BO:Nat) (_hr:-9223372036854775808≤r∧r≤9223372036854775807) (hs:Rd (rdL rI) w.heap vs s) (hcxs:ldH w.heap (.pointer (some ⟨vo,0,none⟩)) = some vov) (hbxs:Bld 27 S BO w.heap vov xs usxs Fxs) (hSB:∀ b∈S,b < BO) (hS8:∀ b∈S,b < w.heap.size) (hr:0≤r∧r < ((xs.length :Nat):Int)) (hxl:(xs.getD r.toNat []).length≤s.length∧s.length≤13) (hxn:allN (xs.getD r.toNat []) = true) (hsn:allN s = true) :
  Calls Tryz.prog 220 #[.int .i64 r,vs,.pointer (some ⟨vo,0,none⟩)] w (fun e w'=>e = .returned (.tuple #[])∧Chg Fxs w w'∧∃ us',Bld 27 S BO w'.heap vov (adP xs r s) us' Fxs):=by
 refine calls_mk [.int .i64 r,vs,.pointer (some ⟨vo,0,none⟩)] 14 Tryz.func220 rfl rfl sM ?_
 have hE0:Ext w w:=Ext.refl w
 have hl_vs:=hs.lenle
 have hFl:∀ b∈Fxs,b < w.heap.size:=hbxs.lt
 refine wp_draw _ [1,0,1,0,0,1,0,3,0,4] mixed (by kernel_rfl) (q_load (.inl rfl) vov one32 rfl (ldH_ext hE0.drew hcxs) zN (lw_tv 1 rfl (q_load (.inl rfl) vov one32 rfl (ldH_ext hE0.drew hcxs) zN (lw_tv 1 rfl (q_idx (v:=vov) ((r).toNat) u32 ti27 rfl rfl (hbxs.done hSB).none.slL oM sD zN ?_)))))
 obtain ⟨ue1,hl1,hr1⟩:=hbxs.getF (k:=(r).toNat) sD
 have hln1:=hr1.lenL
 unfold maxLen at hln1
 refine q_load (p:=eptr vov ((r).toNat) 1) (.inl rfl) ue1 one27 rfl hl1 zN (lw_tv 1 rfl (lw_call 102 [] [] [ue1,vs] rfl rfl cf102 zN (c_impl_added _ _ _ _ _ hr1.rd (hs.ext g1 hE0.drew) oM oM (by exact hxn) (by exact hsn)) ?_))
 rintro e2 w2 ⟨v2_0,rfl,hX2,hO2_0⟩
 refine ⟨_,rfl,hX2,?_⟩
 replace hX2:=hX2.of_drew
 have hzs2:w.heap.size≤w2.heap.size:=hX2.size
 have hE2:Ext w w2:=hE0.trans hX2
 have hN3:=hbxs.ext hX2
 have hN4:=hr1.ext g1 hX2
 replace hO2_0:=hO2_0.low (B':=w.heap.size) (Nat.le_refl _)
 refine q_idx (v:=vov) ((r).toNat) u32 ti27 rfl rfl (hN3.done hSB).none.slL oM sD zN ?_
 refine e_setL (v:=vov) (u:=v2_0) (w:=w2) sz27 rfl rfl hN3 (RN.of_fr1 hO2_0 (fun b hb=>by rcases List.mem_append.1 hb with hb | hb; (have:=hS8 b hb; omega); (have:=hFl b hb; omega))) sD zN fun w5 hC5 hz5 hb5=>?_
 have hzs5:w2.heap.size≤w5.heap.size:=hC5.size
 have hE5:Chg Fxs w w5:=(Chg.of_ext _ hE2).trans hC5
 have hF8:=hN4.chg g1 (hC5.sub (fun b hb=>List.mem_append_right _ hb))
 have hF9:=hO2_0.chg (o1) hC5 (fun c hc=>by have:=hFl c hc; omega)
 exact lw_nil (post_end [] rfl (.tuple #[]) rfl ⟨rfl,hE5,_,hb5⟩)
theorem z182_0 {p:Prop} (h:p:=by first | (rw [show (kk - 1 + 1).toNat = kk.toNat from by omega]; exact adA_step hadj oM (adI_3 oM)) | (rw [show (kk - 1 + 1).toNat = kk.toNat from by omega]; exact adA_step hadj oM (adI_4 oM)) | (rw [show (kk - 1 + 1).toNat = kk.toNat from by omega]; exact adA_step hadj oM (adI_5 oM)) | (rw [show (kk - 1 + 1).toNat = kk.toNat from by omega]; exact adA_step hadj oM (adI_6 oM)) | (rw [show (kk - 1 + 1).toNat = kk.toNat from by omega]; exact adA_step hadj oM (adI_7 oM)) | (rw [show (kk - 1 + 1).toNat = kk.toNat from by omega]; exact adA_step hadj oM (adI_0 oM))):p:=h
theorem z182_1 {p:Prop} (h:p:=by (try rw [show ((1000002:Nat):Int) = 1000002 from rfl]); first | (rw [← adI_3 (k:=kk.toNat) (R:=R) oM]; exact adI_ser hxs oM (hform _ hkn)) | (rw [← adI_4 (k:=kk.toNat) (R:=R) oM]; exact adI_ser hxs oM (hform _ hkn)) | (rw [← adI_5 (k:=kk.toNat) (R:=R) oM]; exact adI_ser hxs oM (hform _ hkn)) | (rw [← adI_6 (k:=kk.toNat) (R:=R) oM]; exact adI_ser hxs oM (hform _ hkn)) | (rw [← adI_7 (k:=kk.toNat) (R:=R) oM]; exact adI_ser hxs oM (hform _ hkn)) | exact hxs):p:=h
theorem z182_2 {p:Prop} (h:p:=by first | exact hro.2 | exact hRa.2 | exact hRb.2 | exact hRk.2 | exact sclS_num _ _ | exact proS_num _ _ | exact quoS_num _ _):p:=h
theorem z182_3 {p:Prop} (h:p:=by refine ⟨?_,?_⟩ <;> first | omega | (simp only [sclS_len,proS_len,quoS_len,addS_len]; omega)):p:=h
theorem z182_4 {p:Prop} (h:p:=by first | exact hro.2 | exact sclS_num _ _ | exact proS_num _ _ | exact quoS_num _ _):p:=h
theorem z182_5 {p:Prop} (h:p:=by first | omega | (simp only [sclS_len,proS_len,quoS_len,addS_len]; omega)):p:=h
theorem z182_6 {p:Prop} (h:p:=by first | exact hxl | (simp only [adP_len]; exact hxl)):p:=h
theorem c_impl_Tape_adjoints (w:World) (m:Nat) (ni:Nat) (S:List Nat) (ipT:Int) (vtc vtg vtx:Value) (T:Tp) (oT:List Int) (vr:Value) (R:List (List Int)) (vw:Value) (ws:List Int) (hS8:∀ b∈S,b < w.heap.size) (_hipT:i64 ipT) (htcT:RN [] (rdS 4 rIn) w.heap vtc T.code) (htgT:RN [] (rdS 2 rGd) w.heap vtg T.grd) (htoT:RN [] (rdL rI) w.heap vtx oT) (hR:RN [] (rdL (rdL rI)) w.heap vr R) (hqR:CapS vr) (hws:Rd (rdL rI) w.heap vw ws) (hm:1≤m∧m≤13) (hsR:SrE m R) (hlR:R.length = T.code.length) (hlt:T.code.length≤4000) (hlo:oT.length≤ws.length∧ws.length≤1000000) (ho:∀ k,k < oT.length→0≤oT.getD k 0∧oT.getD k 0 < ((T.code.length :Nat):Int)) (hnw:allN ws = true) (hform:∀ k,k < T.code.length→InO ni k (T.code.getD k Ins.zero)) :
  Calls Tryz.prog 182 #[(.agg #[(.int .i64 ipT),vtc,vtg,vtx]),vr,vw] w (fun e w'=>∃ v0:Value,e = .returned v0∧Ext w w'∧RN S (rdL (rdL rI)) w'.heap v0 (adjS T.code R oT ws)∧CapS v0):=by
 refine calls_mk [(.agg #[(.int .i64 ipT),vtc,vtg,vtx]),vr,vw] 159 Tryz.func182 rfl rfl sM ?_
 have hE0:Ext w w:=Ext.refl w
 have hl_vtx:=htoT.lenL
 unfold maxLen at hl_vtx
 have hl_vr:=hR.lenL
 unfold maxLen at hl_vr
 have hl_vw:=hws.lenle
 refine wp_seq (wp_plain _ [3,0] rfl (r_boxA (cs:=#[(.int .i64 ipT),vtc,vtg,vtx]) rfl zN fun w1 hX1 hz1 hB1=>?_))
 have hzs1:w.heap.size≤w1.heap.size:=hX1.size
 have hE1:Ext w w1:=hE0.trans hX1
 replace hB1:BX w1.heap w.heap.size [(.int .i64 ipT),vtc,vtg,vtx]:=hB1
 refine lw_tvn 1 rfl (wp_seq (wp_plain _ [3,3,4] rfl (r_nil (owL rI 2) o1 u32 ti27 zN fun v2 w2 hX2 hz2 hO2=>?_)))
 have hzs2:w1.heap.size≤w2.heap.size:=hX2.size
 have hE2:Ext w w2:=hE1.trans hX2
 have hB1x2:=hB1.ext hX2
 have hq4:=hB1x2.lt
 refine r_allocA (z:=(.slice none 0 0)) (by kernel_rfl) zN fun w3 hX3 hz3 hB3=>?_
 have hzs3:w2.heap.size≤w3.heap.size:=hX3.size
 have hE3:Ext w w3:=hE2.trans hX3
 have hB1x3:=hB1x2.ext hX3
 have hO2x3:=hO2.ext (o2) hX3
 replace hB3:BX w3.heap w2.heap.size [(.slice none 0 0)]:=hB3
 refine e_setB (k:=0) (w:=w3) sz32 rfl rfl (isSl_one hO2x3.isSl) hB3 sM zN fun w5 hC5 hz5 hB5=>?_
 replace hB5:BX w5.heap w2.heap.size [v2]:=hB5
 have hE5:Ext w w5:=hC5.below hE3 (fun c hc=>by have:=List.mem_singleton.1 hc; omega) hE3.size
 have hzs5:w3.heap.size≤w5.heap.size:=hC5.size
 have hF6:=hB1x3.chg hC5 (fun hm=>by have:=List.mem_singleton.1 hm; omega)
 have hF7:=hO2x3.chg (o2) hC5 (fun c hc=>by have:=List.mem_singleton.1 hc; omega)
 refine lw_nil (wp_seq (wp_seq (wp_plain _ [0,0,0] rfl (lw_tv 1 rfl (q_len (v:=vr) u32 rfl hR.slL zN (lw_tvn 1 rfl (wp_block ?_)))))))
 have hLBa:w.heap.size < w1.heap.size:=by omega
 have hLBb:w1.heap.size≤w2.heap.size:=by omega
 have hLBc:=Nat.le_of_lt hLBa
 obtain ⟨Fo8,hOp8⟩:=Ow.of_fr (T:=w2.heap.size) hF7 (Nat.le_refl _)
 have hgo8:w2.heap.size∉Fo8:=fun hm=>by have:=hOp8.high _ hm; omega
 have hOq8:=hOp8.up (T':=w5.heap.size) oM
 have hgl0:w2.heap.size < w5.heap.size:=BX.lt hB5
 refine c_loop (S:=Nat × Value × List Nat) (fun (⟨k,vo,Fo⟩:Nat × Value × List Nat)=>([(20,(.int .i64 ((k :Nat):Int))),(1,vr),(2,vw),(3,(.pointer (some ⟨w.heap.size,0,none⟩))),(7,(.pointer (some ⟨w2.heap.size,0,none⟩))),(18,vr),(19,(.int .i64 ((R.length :Nat):Int)))]:List (Nat × Value))) (fun (⟨k,vo,Fo⟩:Nat × Value × List Nat) (W:World)=>Ext w W∧BX W.heap w.heap.size [(.int .i64 ipT),vtc,vtg,vtx]∧BX W.heap w2.heap.size [vo]∧k≤R.length∧Ow (owL (owL rI 2) 27) w1.heap.size W.heap.size W.heap vo (zrs (R.take k)) Fo∧w2.heap.size∉Fo) (fun (⟨k,vo,Fo⟩:Nat × Value × List Nat)=>R.length - k) (0,v2,Fo8) ⟨rfl,rfl,rfl,rfl,rfl,rfl,rfl,trivial⟩ ⟨hE5,hF6,hB5,oM,(by assumption),(by assumption)⟩ ?_
 clear hE0 hz1 hX1 hzs1 hE1 hO2 hz2 hX2 hzs2 hE2 hz3 hX3 hzs3 hE3 hO2x3 hz5 hC5 hE5 hzs5 hF6 hF7
 rintro ⟨k,vo,Fo⟩ ρ9 w9 ⟨hE9,hL9_0,hL9_1,hp9_0,hOl,hgF⟩
 have hzs9:w.heap.size≤w9.heap.size:=hE9.size
 have hq10:=hL9_0.lt
 have hq11:=hL9_1.lt
 have hgl:w2.heap.size < w9.heap.size:=BX.lt hL9_1
 refine wp_seq (wp_plain _ [0] rfl ?_)
 by_cases hc12:((k :Nat):Int) < ((R.length :Nat):Int)
 ·
  refine q_lss true rfl rfl (decide_eq_true hc12) zN (lw_nil (wp_seq (c_cond_t rfl (wp_skip (wp_seq (wp_block (wp_seq (wp_plain _ [0,2,0] rfl (q_idx (v:=vr) k u32 ti27 rfl rfl hR.slL rfl sD zN ?_)))))))))
  obtain ⟨ue13,hl13,hr13⟩:=RN.getL (w:=w) g1 [] (k:=k) hR sD
  have hln13:=hr13.lenL
  unfold maxLen at hln13
  refine q_load (p:=eptr vr k 1) (.inr rfl) ue13 one27 rfl (hl13 _ (Chg.of_ext [] hE9)) zN (lw_tvn 1 rfl (wp_draw _ [1,0,0,3,3,4,4] mixed (by kernel_rfl) ?_))
  have hrk:=hsR k oM
  have hrk1:=hrk.1
  refine q_load (p:=(.pointer (some ⟨w2.heap.size,0,none⟩))) (.inl rfl) vo one32 rfl (hL9_1.ld (k:=0) sM) zN (lw_tv 1 rfl (q_len (v:=ue13) u27 rfl hr13.slL zN (r_make (n:=(R.getD k []).length) u27 ti2 rfl rfl rfl sD zN fun v14 w14 hX14 hz14 hO14=>?_)))
  replace hX14:=hX14.of_drew
  have hzs14:w9.heap.size≤w14.heap.size:=hX14.size
  have hE14:Ext w w14:=hE9.trans hX14
  have hL9_0x14:=hL9_0.ext hX14
  have hL9_1x14:=hL9_1.ext hX14
  have hN15:=hOl.ext o2 hX14
  refine r_one (u:=v14) (B:=w9.heap.size) o1 u32 ti27 rfl rfl hO14 (by first | exact Nat.le_refl _ | omega) zN fun v16 w16 hX16 hz16 hO16=>?_
  have hzs16:w14.heap.size≤w16.heap.size:=hX16.size
  have hE16:Ext w w16:=hE14.trans hX16
  have hL9_0x16:=hL9_0x14.ext hX16
  have hL9_1x16:=hL9_1x14.ext hX16
  have hN17:=hN15.ext o2 hX16
  refine e_appO o1 (v:=vo) (a:=v16) u32 ti27 rfl rfl rfl hN17 hO16 oM oM oM sD (by unfold maxLen; first | omega | assumption | (simp; done) | (simp; omega)) zN fun v18 w18 F18 hC18 hO18 hU18=>?_
  have hzs18:w16.heap.size≤w18.heap.size:=hC18.size
  have hE18:Ext w w18:=hC18.below hE16 (fun c hc=>Nat.le_trans hLBc (hN17.low c (List.mem_of_mem_take hc))) hE16.size
  have hF24:=hL9_0x16.chg hC18 (fun hm=>by have:=hN17.low _ (List.mem_of_mem_take hm); omega)
  have hF25:=hL9_1x16.chg hC18 (fun hm=>hgF (List.mem_of_mem_take hm))
  have hF25d:w2.heap.size∉F18:=fun hm=>(hU18 _ hm).elim hgF (fun h9=>by omega)
  refine e_setB (k:=0) (w:=w18) sz32 rfl rfl (isSl_one hO18.slO) hF25 sM zN fun w27 hC27 hz27 hB27=>?_
  replace hB27:BX w27.heap w2.heap.size [v18]:=hB27
  have hE27:Ext w w27:=hC27.below hE18 (fun c hc=>by have:=List.mem_singleton.1 hc; omega) hE18.size
  have hzs27:w18.heap.size≤w27.heap.size:=hC27.size
  have hF28:=hF24.chg hC27 (fun hm=>by have:=List.mem_singleton.1 hm; omega)
  have hF29:=hO18.keep o2 hC27 (fun b hb hm=>by rw [List.mem_singleton.1 hb] at hm; exact hF25d hm)
  refine lw_nil (wp_plain _ [0,0] rfl (q_add ((k + 1 :Nat):Int) rfl rfl (w64n oM sD) zN (lw_tvn 1 rfl ?_)))
  have hOe:=(hF29).up (T':=w27.heap.size) oM
  rw [zrs_succ oM] at hOe
  exact ⟨((k + 1),v18,F18),_,rfl,⟨rfl,rfl,rfl,rfl,rfl,rfl,rfl,trivial⟩,⟨hE27,hF28,hB27,oM,(by exact hOe),(by assumption)⟩,by first | omega | (dsimp only; omega)⟩
 ·
  refine q_lss false rfl rfl (decide_eq_false hc12) zN (lw_nil (wp_seq (c_cond_f rfl (wp_exit (t_exit (t_exit (c_exit_here (wp_seq (wp_seq (wp_plain _ [0,2,0,0] rfl (q_fldP (p:=(.pointer (some ⟨w.heap.size,0,none⟩))) (b:=w.heap.size) (o:=0) 3 fd199_3 rfl rfl zN (q_load (p:=(padd (.pointer (some ⟨w.heap.size,0,none⟩)) 3)) (.inr rfl) vtx one27 rfl (hL9_0.ldp (i:=3) sM) zN (q_len (v:=vtx) u27 rfl htoT.slL zN (lw_tvn 1 rfl (wp_block ?_)))))))))))))))
  refine c_loop (S:=Nat) (fun (i:Nat)=>([(34,(.int .i64 ((i :Nat):Int))),(1,vr),(2,vw),(3,(.pointer (some ⟨w.heap.size,0,none⟩))),(7,(.pointer (some ⟨w2.heap.size,0,none⟩))),(32,vtx),(33,(.int .i64 ((oT.length :Nat):Int)))]:List (Nat × Value))) (fun (i:Nat) (W:World)=>Ext w W∧BX W.heap w.heap.size [(.int .i64 ipT),vtc,vtg,vtx]∧BX W.heap w2.heap.size [vo]∧i≤oT.length∧Ow (owL (owL rI 2) 27) w1.heap.size W.heap.size W.heap vo (wgt oT ws i (zrs R)) Fo) (fun (i:Nat)=>oT.length - i) 0 ⟨rfl,rfl,rfl,rfl,rfl,rfl,rfl,trivial⟩ ⟨hE9,hL9_0,hL9_1,oM,(by have h9:=hOl; rw [List.take_of_length_le oM] at h9; exact h9)⟩ ?_
  clear hL9_1 hL9_0 hE9 hzs9
  rintro i ρ30 w30 ⟨hE30,hL30_0,hL30_1,hp30_0,hOl2⟩
  have hzs30:w.heap.size≤w30.heap.size:=hE30.size
  have hwl:(wgt oT ws i (zrs R)).length = T.code.length:=by rw [wgt_len,zrs_len]; exact hlR
  have hq31:=hL30_0.lt
  have hq32:=hL30_1.lt
  have hgl2:w2.heap.size < w30.heap.size:=BX.lt hL30_1
  refine wp_seq (wp_plain _ [0] rfl ?_)
  by_cases hc33:((i :Nat):Int) < ((oT.length :Nat):Int)
  ·
   refine q_lss true rfl rfl (decide_eq_true hc33) zN (lw_nil (wp_seq (c_cond_t rfl (wp_skip (wp_seq (wp_block (wp_seq (wp_plain _ [0,0,2,0,0] rfl (lw_tv 1 rfl (q_idx (v:=vtx) i u27 ti2 rfl rfl htoT.slL rfl sD zN ?_))))))))))
   have hg34:=RN.getI (w:=w) (k:=i) htoT sD
   refine q_load (p:=eptr vtx i 1) (.inr rfl) (.int .i64 (oT.getD i 0)) one2 rfl (hg34.1 _ (Chg.of_ext [] hE30)) zN (lw_tvn 2 rfl (wp_draw _ [1,0,0,1,1,0,0,1,0,1,0,0,0,1,0,0,4] mixed (by kernel_rfl) ?_))
   have hor:=ho i oM
   have hrw:=wgt_ser (m:=m) (ws:=ws) (zrs_ser hsR) (fun q hq=>by have:=ho q hq; rw [zrs_len]; omega) i oM (oT.getD i 0).toNat oM
   have hrw1:=hrw.1
   refine q_load (p:=(.pointer (some ⟨w2.heap.size,0,none⟩))) (.inl rfl) vo one32 rfl (hL30_1.ld (k:=0) sM) zN (lw_tv 1 rfl (q_idx (v:=vo) ((oT.getD i 0).toNat) u32 ti27 rfl rfl hOl2.slO oM sD zN ?_))
   obtain ⟨ue35,hl35,hr35⟩:=hOl2.rowO (k:=(oT.getD i 0).toNat) sD
   have hsl35:=(RN.of hr35).lenL
   unfold maxLen at hsl35
   refine q_load (p:=eptr vo ((oT.getD i 0).toNat) 1) (.inl rfl) ue35 one27 rfl hl35 zN (q_load (p:=(.pointer (some ⟨w2.heap.size,0,none⟩))) (.inl rfl) vo one32 rfl (hL30_1.ld (k:=0) sM) zN (lw_tv 1 rfl (q_idx (v:=vo) ((oT.getD i 0).toNat) u32 ti27 rfl rfl hOl2.slO oM sD zN ?_)))
   obtain ⟨ue36,hl36,hr36⟩:=hOl2.rowO (k:=(oT.getD i 0).toNat) sD
   have hsl36:=(RN.of hr36).lenL
   unfold maxLen at hsl36
   refine q_load (p:=eptr vo ((oT.getD i 0).toNat) 1) (.inl rfl) ue36 one27 rfl hl36 zN (q_idx (v:=ue36) 0 u27 ti2 rfl rfl (RN.of hr36).slL rfl sD zN ?_)
   have hg37:=RN.getI (w:=w30) (k:=0) (RN.of hr36) sD
   refine q_load (p:=eptr ue36 0 1) (.inl rfl) (.int .i64 (((wgt oT ws i (zrs R)).getD ((oT.getD i 0).toNat) []).getD 0 0)) one2 rfl (hg37.1 _ (Chg.refl _ _).drew) zN (lw_tv 2 rfl (q_idx (v:=vw) i u27 ti2 rfl rfl hws.isSl rfl sD zN ?_))
   refine q_load (p:=eptr vw i 1) (.inl rfl) (.int .i64 (ws.getD i 0)) one2 rfl (ldH_ext hE30.drew (hws.getI sD).1) zN ?_
   refine lw_callq 79 [] [] [(.int .i64 (((wgt oT ws i (zrs R)).getD ((oT.getD i 0).toNat) []).getD 0 0)),(.int .i64 (ws.getD i 0))] rfl rfl cf79 zN (.int .i64 (md ((((wgt oT ws i (zrs R)).getD ((oT.getD i 0).toNat) []).getD 0 0) + (ws.getD i 0)))) (fun wq=>c_impl_Plus wq _ _ hg37.2 (hws.getI sD).2) ?_
   refine q_idx (v:=ue35) 0 u27 ti2 rfl rfl (RN.of hr35).slL rfl sD zN ?_
   refine e_setMO (v:=vo) (u:=ue35) (w:=w30.drew) sz2 rfl rfl (md_rng _) hOl2 sD hl35 sD zN fun w39 G39 hC39 hz39 hF39 hO39=>?_
   replace hC39:=hC39.of_drew
   have hzs39:w30.heap.size≤w39.heap.size:=hC39.size
   have hE39:Ext w w39:=hC39.below hE30 (fun c hc=>Nat.le_trans hLBc (hOl2.low c (hF39 c hc))) hE30.size
   have hF40:=hL30_0.chg hC39 (fun hm=>by have:=hOl2.low _ (hF39 _ hm); omega)
   have hF41:=hL30_1.chg hC39 (fun hm=>hgF (hF39 _ hm))
   refine lw_nil (wp_plain _ [0,0] rfl (q_add ((i + 1 :Nat):Int) rfl rfl (w64n oM sD) zN (lw_tvn 1 rfl ?_)))
   have hOe:=(hO39).up (T':=w39.heap.size) oM
   exact ⟨(i + 1),_,rfl,⟨rfl,rfl,rfl,rfl,rfl,rfl,rfl,trivial⟩,⟨hE39,hF40,hF41,oM,(by exact hOe)⟩,by first | omega | (dsimp only; omega)⟩
  ·
   refine q_lss false rfl rfl (decide_eq_false hc33) zN (lw_nil (wp_seq (c_cond_f rfl (wp_exit (t_exit (t_exit (c_exit_here (wp_seq (wp_seq (wp_plain _ [0,2,0,0,0] rfl ?_))))))))))
   have hOw:=hOl2
   rw [show i = oT.length from by omega] at hOw
   obtain ⟨us0,F0,hb0,hF0⟩:=Bld.ofOw (S:=S) hOw (fun b hb=>by have:=hS8 b hb; omega)
   have hg0:w2.heap.size∉F0:=fun hm=>hgF (hF0 _ hm)
   obtain ⟨BO,hBO⟩:∃ b:Nat,b = w1.heap.size:=⟨_,rfl⟩
   rw [← hBO] at hb0
   have hwB:w.heap.size≤BO:=by omega
   have hSB:∀ b∈S,b < BO:=fun b hb=>by have:=hS8 b hb; omega
   obtain ⟨B0,hB0⟩:∃ l:List Sr,l = wgt oT ws oT.length (zrs R):=⟨_,rfl⟩
   rw [← hB0] at hb0
   have hs0:SrE m B0:=by rw [hB0]; exact wgt_ser (zrs_ser hsR) (fun q hq=>by have:=ho q hq; rw [zrs_len]; omega) _ (Nat.le_refl _)
   have hl0:B0.length = T.code.length:=by rw [hB0,wgt_len,zrs_len]; exact hlR
   refine q_fldP (p:=(.pointer (some ⟨w.heap.size,0,none⟩))) (b:=w.heap.size) (o:=0) 1 fd199_1 rfl rfl zN (q_load (p:=(padd (.pointer (some ⟨w.heap.size,0,none⟩)) 1)) (.inr rfl) vtc one196 rfl (hL30_0.ldp (i:=1) sM) zN (q_len (v:=vtc) u196 rfl htcT.isSl zN ?_))
   refine q_sub (((T.code.length :Nat):Int) - ((1 :Nat):Int)) rfl rfl (w64 sD sD) zN (lw_tvn 1 rfl (wp_block ?_))
   refine c_loop (S:=Int × List Sr × List Value) (fun (⟨kk,xs,us⟩:Int × List Sr × List Value)=>([(12,(.int .i64 kk)),(1,vr),(3,(.pointer (some ⟨w.heap.size,0,none⟩))),(7,(.pointer (some ⟨w2.heap.size,0,none⟩)))]:List (Nat × Value))) (fun (⟨kk,xs,us⟩:Int × List Sr × List Value) (W:World)=>Ext w W∧BX W.heap w.heap.size [(.int .i64 ipT),vtc,vtg,vtx]∧BX W.heap w2.heap.size [vo]∧(-1≤kk∧kk < ((T.code.length :Nat):Int))∧Bld 27 S BO W.heap vo xs us F0∧SrE m xs∧xs.length = T.code.length∧adA T.code R (kk + 1).toNat xs = adA T.code R T.code.length B0) (fun (⟨kk,xs,us⟩:Int × List Sr × List Value)=>(kk + 1).toNat) ((T.code.length:Int) - 1,B0,us0) ⟨rfl,rfl,rfl,rfl,trivial⟩ ⟨hE30,hL30_0,hL30_1,oM,(by exact hb0),(by exact hs0),(by exact hl0),(by rw [show ((T.code.length:Int) - 1 + 1).toNat = T.code.length from by omega])⟩ ?_
   clear hL30_1 hL30_0 hE30 hzs30 hF0
   rintro ⟨kk,xs,us⟩ ρ42 w42 ⟨hE42,hL42_0,hL42_1,hp42_0,hbl,hxs,hxl,hadj⟩
   have hzs42:w.heap.size≤w42.heap.size:=hE42.size
   have hq43:=hL42_0.lt
   have hq44:=hL42_1.lt
   have hFl:∀ b∈F0,b < w42.heap.size:=hbl.lt
   have hgl3:=BX.lt hL42_1
   refine wp_seq (wp_seq (wp_plain _ [0,0] rfl (lw_tv 1 rfl ?_)))
   by_cases hc45:((0 :Nat):Int)≤kk
   ·
    refine q_geq true rfl rfl (decide_eq_true hc45) zN (lw_nil (c_cond_t rfl (wp_skip (wp_seq (wp_block (wp_seq ?_))))))
    letI:JR:=jrC [w42.drew.heap.size]
    refine Jx.wp_draw _ [0,1,0,0,1,1,0,0,1,3,3,0] mixed (by kernel_rfl) ?_
    have hje46:∀ wj,Chg [w42.drew.heap.size] w42.drew wj→Ext w42.drew wj:=fun wj hj=>Chg.toExt hj (fun b hb=>Nat.le_of_eq (List.mem_singleton.1 hb).symm)
    have hkn:kk.toNat < T.code.length:=by omega
    have hro:=hxs kk.toNat oM
    have hro1:=hro.1
    have hRk:=hsR kk.toNat oM
    have hRk1:=hRk.1
    refine Jx.q_fldP (p:=(.pointer (some ⟨w.heap.size,0,none⟩))) (b:=w.heap.size) (o:=0) 1 fd199_1 rfl rfl zN (Jx.q_loadJ (p:=(padd (.pointer (some ⟨w.heap.size,0,none⟩)) 1)) vtc one196 rfl (fun wj hj=>(BX.ext (w:=w42.drew) hL42_0 (hje46 wj hj)).ldp (i:=1) sM) zN (Jx.q_move (.int .i64 kk) rfl zN (Jx.q_idx (v:=vtc) ((kk).toNat) u196 tiS231 rfl rfl htcT.isSl oM sD zN ?_)))
    obtain ⟨cs49,hr49,hl49⟩:=htcT.get good_rIn Ins.zero (k:=((kk).toNat)) sD
    obtain ⟨rfl,hx49⟩:=rn_ins hr49
    refine Jx.q_loadAJ (p:=eptr vtc ((kk).toNat) 4) [(.int .i64 ((T.code.getD ((kk).toNat) Ins.zero).op)),(.int .i64 ((T.code.getD ((kk).toNat) Ins.zero).a)),(.int .i64 ((T.code.getD ((kk).toNat) Ins.zero).b)),(.int .i64 ((T.code.getD ((kk).toNat) Ins.zero).num))] agg231 rfl (fun wj hj=>hl49 wj (Chg.of_ext [] (hE42.drew.trans (hje46 wj hj)))) rfl zN (Jx.q_loadJ (p:=(.pointer (some ⟨w2.heap.size,0,none⟩))) vo one32 rfl (fun wj hj=>(BX.ext (w:=w42.drew) hL42_1 (hje46 wj hj)).ldp (i:=0) sM) zN (Jx.q_move (.int .i64 kk) rfl zN ?_))
    refine Jx.q_idx (v:=vo) ((kk).toNat) u32 ti27 rfl rfl (hbl.done hSB).none.slL oM sD zN ?_
    obtain ⟨ue51,hl51,hr51⟩:=hbl.getF (k:=(kk).toNat) sD
    have hln51:=hr51.lenL
    unfold maxLen at hln51
    refine Jx.q_loadJ (p:=eptr vo ((kk).toNat) 1) ue51 one27 rfl (fun wj hj=>ldH_ext (w:=w42.drew) (hje46 wj hj) hl51) zN ?_
    have hq53:=hL42_0.lt
    have hq54:=hL42_1.lt
    have hdr52:w42.drew.heap.size = w42.heap.size:=rfl
    refine Jx.lift3m (r_allocA (z:=.agg #[.int .i64 0,.int .i64 0,.int .i64 0,.int .i64 0]) zr231 zN ?_)
    intro w52 hX52 hz52 hB52
    refine lw_nil ?_
    replace hX52:=hX52.of_drew
    have hzs52:w42.heap.size≤w52.heap.size:=hX52.size
    have hE52:Ext w w52:=hE42.trans hX52
    have hL42_0x52:=hL42_0.ext hX52
    have hL42_1x52:=hL42_1.ext hX52
    have hN55:=hbl.ext hX52
    have hN56:=hr51.ext g1 hX52
    replace hB52:BX w52.heap w42.drew.heap.size [(.int .i64 0),(.int .i64 0),(.int .i64 0),(.int .i64 0)]:=hB52
    refine Jx.lift3 (e_setA (vs:=[(.int .i64 ((T.code.getD ((kk).toNat) Ins.zero).op)),(.int .i64 ((T.code.getD ((kk).toNat) Ins.zero).a)),(.int .i64 ((T.code.getD ((kk).toNat) Ins.zero).b)),(.int .i64 ((T.code.getD ((kk).toNat) Ins.zero).num))]) agg231 rfl rfl (by intro u hu; simp only [List.mem_cons,List.not_mem_nil,or_false] at hu; rcases hu with rfl | rfl | rfl | rfl <;> first | exact ⟨rfl,rfl⟩) hB52 rfl rfl zN fun w57 hC57 hz57 hB57=>?_)
    replace hB57:BX w57.heap w42.drew.heap.size [(.int .i64 ((T.code.getD ((kk).toNat) Ins.zero).op)),(.int .i64 ((T.code.getD ((kk).toNat) Ins.zero).a)),(.int .i64 ((T.code.getD ((kk).toNat) Ins.zero).b)),(.int .i64 ((T.code.getD ((kk).toNat) Ins.zero).num))]:=hB57
    have hE57:Ext w w57:=hC57.below hE52 (fun c hc=>by have:=List.mem_singleton.1 hc; omega) hE52.size
    have hzs57:w52.heap.size≤w57.heap.size:=hC57.size
    have hF58:=hL42_0x52.chg hC57 (fun hm=>by have:=List.mem_singleton.1 hm; omega)
    have hF59:=hL42_1x52.chg hC57 (fun hm=>by have:=List.mem_singleton.1 hm; omega)
    have hN60:=hbl.ext (hC57.below hX52 (fun c hc=>by have:=List.mem_singleton.1 hc; omega) hX52.size)
    have hN61:=hr51.ext g1 (hC57.below hX52 (fun c hc=>by have:=List.mem_singleton.1 hc; omega) hX52.size)
    refine lw_nil ⟨hC57,?_⟩
    refine Jx.q_assign ue51 rfl zN (Jx.lw_nil (wp_seq (wp_plain _ [0,0] rfl (q_func [] [(.pointer (some ⟨w2.heap.size,0,none⟩))] rfl rfl zN (lw_tvn 1 rfl (wp_seq (wp_plain _ [0,2] rfl (q_fldP (p:=(.pointer (some ⟨w42.drew.heap.size,0,none⟩))) (b:=w42.drew.heap.size) (o:=0) 0 fd231_0 rfl rfl zN (q_load (p:=(padd (.pointer (some ⟨w42.drew.heap.size,0,none⟩)) 0)) (.inr rfl) (.int .i64 ((T.code.getD ((kk).toNat) Ins.zero).op)) one2 rfl (hB57.ldp (i:=0) sM) zN (lw_nil (wp_block (wp_seq (wp_plain _ [0,0] rfl ?_)))))))))))))
    by_cases hc62:(T.code.getD ((kk).toNat) Ins.zero).op = ((3 :Nat):Int)
    ·
     refine q_eql true rfl rfl (decide_eq_true hc62) zN (lw_tvn 1 rfl (c_cond_t rfl (wp_seq (wp_plain _ [0,0,2,0,4] rfl ?_))))
     have hio:=(hform kk.toNat hkn).i2 oM
     have hra:=hxs (T.code.getD kk.toNat Ins.zero).a.toNat oM
     have hra1:=hra.1
     have hRa:=hsR (T.code.getD kk.toNat Ins.zero).a.toNat oM
     have hRb:=hsR (T.code.getD kk.toNat Ins.zero).b.toNat oM
     have hRa1:=hRa.1
     have hRb1:=hRb.1
     refine lw_tv 1 rfl (q_fldP (p:=(.pointer (some ⟨w42.drew.heap.size,0,none⟩))) (b:=w42.drew.heap.size) (o:=0) 1 fd231_1 rfl rfl zN (q_load (p:=(padd (.pointer (some ⟨w42.drew.heap.size,0,none⟩)) 1)) (.inr rfl) (.int .i64 ((T.code.getD ((kk).toNat) Ins.zero).a)) one2 rfl (hB57.ldp (i:=1) sM) zN (lw_tv 1 rfl ?_)))
     refine lw_callE 220 [] [(.pointer (some ⟨w2.heap.size,0,none⟩))] [(.int .i64 ((T.code.getD ((kk).toNat) Ins.zero).a)),ue51,(.pointer (some ⟨w2.heap.size,0,none⟩))] rfl rfl cf220 zN (c_impl_Tape_adjoints_1 _ ((T.code.getD ((kk).toNat) Ins.zero).a) ue51 (xs.getD ((kk).toNat) []) S w2.heap.size vo (xs) _ _ BO hx49.2.1 hN61.rd (hF59.ld (k:=0) sM) hN60 hSB (fun b hb=>by have:=hS8 b hb; omega) oM z182_3 (by exact hra.2) z182_4) ?_
     rintro e63 w63 ⟨rfl,hC63,us63,hb63⟩
     refine ⟨_,rfl,?_⟩
     have hzs63:w57.heap.size≤w63.heap.size:=hC63.size
     have hE63:Ext w w63:=hC63.below hE57 (fun c hc=>Nat.le_trans hwB (hN60.low c hc)) hE57.size
     have hF69:=hF58.chg hC63 (fun hm=>by have:=hN60.low _ hm; have:=hFl _ hm; omega)
     have hF70:=hF59.chg hC63 (fun hm=>hg0 hm)
     have hF71:=hB57.chg hC63 (fun hm=>by have:=hN60.low _ hm; have:=hFl _ hm; omega)
     have hF72:=hN61.chg g1 (hC63.sub (fun b hb=>List.mem_append_right _ hb))
     have hs2:SrE m (adP xs (T.code.getD kk.toNat Ins.zero).a (xs.getD kk.toNat [])):=adP_ser hxs oM
     have hl2:(adP xs (T.code.getD kk.toNat Ins.zero).a (xs.getD kk.toNat [])).length = T.code.length:=by rw [adP_len]; exact hxl
     have hrb:=hs2 (T.code.getD kk.toNat Ins.zero).b.toNat oM
     have hrb1:=hrb.1
     refine lw_nil (wp_plain _ [0,0,2,0,4] rfl (lw_tv 1 rfl (q_fldP (p:=(.pointer (some ⟨w42.drew.heap.size,0,none⟩))) (b:=w42.drew.heap.size) (o:=0) 2 fd231_2 rfl rfl zN (q_load (p:=(padd (.pointer (some ⟨w42.drew.heap.size,0,none⟩)) 2)) (.inr rfl) (.int .i64 ((T.code.getD ((kk).toNat) Ins.zero).b)) one2 rfl (hF71.ldp (i:=2) sM) zN (lw_tv 1 rfl ?_)))))
     refine lw_callE 220 [] [(.pointer (some ⟨w2.heap.size,0,none⟩))] [(.int .i64 ((T.code.getD ((kk).toNat) Ins.zero).b)),ue51,(.pointer (some ⟨w2.heap.size,0,none⟩))] rfl rfl cf220 zN (c_impl_Tape_adjoints_1 _ ((T.code.getD ((kk).toNat) Ins.zero).b) ue51 (xs.getD ((kk).toNat) []) S w2.heap.size vo (adP xs ((T.code.getD ((kk).toNat) Ins.zero).a) (xs.getD ((kk).toNat) [])) _ _ BO hx49.2.2.1 hF72.rd (hF70.ld (k:=0) sM) hb63 hSB (fun b hb=>by have:=hS8 b hb; omega) oM z182_3 (by exact hrb.2) z182_4) ?_
     rintro e73 w73 ⟨rfl,hC73,us73,hb73⟩
     refine ⟨_,rfl,?_⟩
     have hzs73:w63.heap.size≤w73.heap.size:=hC73.size
     have hE73:Ext w w73:=hC73.below hE63 (fun c hc=>Nat.le_trans hwB (hb63.low c hc)) hE63.size
     have hF79:=hF69.chg hC73 (fun hm=>by have:=hb63.low _ hm; have:=hFl _ hm; omega)
     have hF80:=hF70.chg hC73 (fun hm=>hg0 hm)
     have hF81:=hF71.chg hC73 (fun hm=>by have:=hb63.low _ hm; have:=hFl _ hm; omega)
     have hF82:=hF72.chg g1 (hC73.sub (fun b hb=>List.mem_append_right _ hb))
     refine lw_nil (wp_plain _ [0,0,0] rfl (lw_tv 1 rfl (q_sub (kk - ((1 :Nat):Int)) rfl rfl (w64 sD sD) zN (lw_tvn 1 rfl ?_))))
     have hbe:=hb73
     exact ⟨((kk - 1),(adP (adP xs ((T.code.getD ((kk).toNat) Ins.zero).a) (xs.getD ((kk).toNat) [])) ((T.code.getD ((kk).toNat) Ins.zero).b) (xs.getD ((kk).toNat) [])),us73),_,rfl,⟨rfl,rfl,rfl,rfl,trivial⟩,⟨hE73,hF79,hF80,oM,(by exact hbe),z182_1,z182_6,z182_0⟩,by first | omega | (dsimp only; omega)⟩
    ·
     refine q_eql false rfl rfl (decide_eq_false hc62) zN (lw_tvn 1 rfl (c_cond_f rfl (wp_seq (wp_plain _ [0,0] rfl ?_))))
     by_cases hc83:(T.code.getD ((kk).toNat) Ins.zero).op = ((4 :Nat):Int)
     ·
      refine q_eql true rfl rfl (decide_eq_true hc83) zN (lw_tvn 1 rfl (c_cond_t rfl (wp_seq (wp_plain _ [0,0,2,0,4] rfl ?_))))
      have hio:=(hform kk.toNat hkn).i2 oM
      have hra:=hxs (T.code.getD kk.toNat Ins.zero).a.toNat oM
      have hra1:=hra.1
      have hRa:=hsR (T.code.getD kk.toNat Ins.zero).a.toNat oM
      have hRb:=hsR (T.code.getD kk.toNat Ins.zero).b.toNat oM
      have hRa1:=hRa.1
      have hRb1:=hRb.1
      refine lw_tv 1 rfl (q_fldP (p:=(.pointer (some ⟨w42.drew.heap.size,0,none⟩))) (b:=w42.drew.heap.size) (o:=0) 1 fd231_1 rfl rfl zN (q_load (p:=(padd (.pointer (some ⟨w42.drew.heap.size,0,none⟩)) 1)) (.inr rfl) (.int .i64 ((T.code.getD ((kk).toNat) Ins.zero).a)) one2 rfl (hB57.ldp (i:=1) sM) zN (lw_tv 1 rfl ?_)))
      refine lw_callE 220 [] [(.pointer (some ⟨w2.heap.size,0,none⟩))] [(.int .i64 ((T.code.getD ((kk).toNat) Ins.zero).a)),ue51,(.pointer (some ⟨w2.heap.size,0,none⟩))] rfl rfl cf220 zN (c_impl_Tape_adjoints_1 _ ((T.code.getD ((kk).toNat) Ins.zero).a) ue51 (xs.getD ((kk).toNat) []) S w2.heap.size vo (xs) _ _ BO hx49.2.1 hN61.rd (hF59.ld (k:=0) sM) hN60 hSB (fun b hb=>by have:=hS8 b hb; omega) oM z182_3 (by exact hra.2) z182_4) ?_
      rintro e84 w84 ⟨rfl,hC84,us84,hb84⟩
      refine ⟨_,rfl,?_⟩
      have hzs84:w57.heap.size≤w84.heap.size:=hC84.size
      have hE84:Ext w w84:=hC84.below hE57 (fun c hc=>Nat.le_trans hwB (hN60.low c hc)) hE57.size
      have hF90:=hF58.chg hC84 (fun hm=>by have:=hN60.low _ hm; have:=hFl _ hm; omega)
      have hF91:=hF59.chg hC84 (fun hm=>hg0 hm)
      have hF92:=hB57.chg hC84 (fun hm=>by have:=hN60.low _ hm; have:=hFl _ hm; omega)
      have hF93:=hN61.chg g1 (hC84.sub (fun b hb=>List.mem_append_right _ hb))
      have hs2:SrE m (adP xs (T.code.getD kk.toNat Ins.zero).a (xs.getD kk.toNat [])):=adP_ser hxs oM
      have hl2:(adP xs (T.code.getD kk.toNat Ins.zero).a (xs.getD kk.toNat [])).length = T.code.length:=by rw [adP_len]; exact hxl
      have hrb:=hs2 (T.code.getD kk.toNat Ins.zero).b.toNat oM
      have hrb1:=hrb.1
      refine lw_nil (wp_draw _ [0,0,1,0,3,4] mixed (by kernel_rfl) (lw_tv 1 rfl (q_fldP (p:=(.pointer (some ⟨w42.drew.heap.size,0,none⟩))) (b:=w42.drew.heap.size) (o:=0) 2 fd231_2 rfl rfl zN (q_load (p:=(padd (.pointer (some ⟨w42.drew.heap.size,0,none⟩)) 2)) (.inl rfl) (.int .i64 ((T.code.getD ((kk).toNat) Ins.zero).b)) one2 rfl (hF92.ldp (i:=2) sM) zN (lw_tv 1 rfl (lw_call 103 [] [] [ue51,(.int .i64 ((1000002 :Nat):Int))] rfl rfl cf103 zN (c_impl_scaled _ _ _ _ hF93.rd oM z182_5 z182_2 oM) ?_))))))
      rintro e94 w94 ⟨v94_0,rfl,hX94,hO94_0⟩
      refine ⟨_,rfl,hX94,?_⟩
      replace hX94:=hX94.of_drew
      have hzs94:w84.heap.size≤w94.heap.size:=hX94.size
      have hE94:Ext w w94:=hE84.trans hX94
      have hF90x94:=hF90.ext hX94
      have hF91x94:=hF91.ext hX94
      have hF92x94:=hF92.ext hX94
      have hN95:=hb84.ext hX94
      have hN96:=hF93.ext g1 hX94
      replace hO94_0:=hO94_0.low (B':=w84.heap.size) (Nat.le_refl _)
      refine lw_callE 220 [] [(.pointer (some ⟨w2.heap.size,0,none⟩))] [(.int .i64 ((T.code.getD ((kk).toNat) Ins.zero).b)),v94_0,(.pointer (some ⟨w2.heap.size,0,none⟩))] rfl rfl cf220 zN (c_impl_Tape_adjoints_1 _ ((T.code.getD ((kk).toNat) Ins.zero).b) v94_0 (sclS (xs.getD ((kk).toNat) []) ((1000002 :Nat):Int)) S w2.heap.size vo (adP xs ((T.code.getD ((kk).toNat) Ins.zero).a) (xs.getD ((kk).toNat) [])) _ _ BO hx49.2.2.1 hO94_0.rd1 (hF91x94.ld (k:=0) sM) hN95 hSB (fun b hb=>by have:=hS8 b hb; omega) oM z182_3 (by exact hrb.2) z182_4) ?_
      rintro e97 w97 ⟨rfl,hC97,us97,hb97⟩
      refine ⟨_,rfl,?_⟩
      have hzs97:w94.heap.size≤w97.heap.size:=hC97.size
      have hE97:Ext w w97:=hC97.below hE94 (fun c hc=>Nat.le_trans hwB (hN95.low c hc)) hE94.size
      have hF103:=hF90x94.chg hC97 (fun hm=>by have:=hN95.low _ hm; have:=hFl _ hm; omega)
      have hF104:=hF91x94.chg hC97 (fun hm=>hg0 hm)
      have hF105:=hF92x94.chg hC97 (fun hm=>by have:=hN95.low _ hm; have:=hFl _ hm; omega)
      have hF106:=hN96.chg g1 (hC97.sub (fun b hb=>List.mem_append_right _ hb))
      have hF107:=hO94_0.chg (o1) hC97 (fun c hc=>by have:=hFl c hc; omega)
      refine lw_nil (wp_plain _ [0,0,0] rfl (lw_tv 1 rfl (q_sub (kk - ((1 :Nat):Int)) rfl rfl (w64 sD sD) zN (lw_tvn 1 rfl ?_))))
      have hbe:=hb97
      exact ⟨((kk - 1),(adP (adP xs ((T.code.getD ((kk).toNat) Ins.zero).a) (xs.getD ((kk).toNat) [])) ((T.code.getD ((kk).toNat) Ins.zero).b) (sclS (xs.getD ((kk).toNat) []) ((1000002 :Nat):Int))),us97),_,rfl,⟨rfl,rfl,rfl,rfl,trivial⟩,⟨hE97,hF103,hF104,oM,(by exact hbe),z182_1,z182_6,z182_0⟩,by first | omega | (dsimp only; omega)⟩
     ·
      refine q_eql false rfl rfl (decide_eq_false hc83) zN (lw_tvn 1 rfl (c_cond_f rfl (wp_seq (wp_plain _ [0,0] rfl ?_))))
      by_cases hc108:(T.code.getD ((kk).toNat) Ins.zero).op = ((5 :Nat):Int)
      ·
       refine q_eql true rfl rfl (decide_eq_true hc108) zN (lw_tvn 1 rfl (c_cond_t rfl (wp_seq (wp_draw _ [0,0,1,0,0,0,1,0,1,3,4] mixed (by kernel_rfl) ?_))))
       have hio:=(hform kk.toNat hkn).i2 oM
       have hra:=hxs (T.code.getD kk.toNat Ins.zero).a.toNat oM
       have hra1:=hra.1
       have hRa:=hsR (T.code.getD kk.toNat Ins.zero).a.toNat oM
       have hRb:=hsR (T.code.getD kk.toNat Ins.zero).b.toNat oM
       have hRa1:=hRa.1
       have hRb1:=hRb.1
       refine lw_tv 1 rfl (q_fldP (p:=(.pointer (some ⟨w42.drew.heap.size,0,none⟩))) (b:=w42.drew.heap.size) (o:=0) 1 fd231_1 rfl rfl zN (q_load (p:=(padd (.pointer (some ⟨w42.drew.heap.size,0,none⟩)) 1)) (.inl rfl) (.int .i64 ((T.code.getD ((kk).toNat) Ins.zero).a)) one2 rfl (hB57.ldp (i:=1) sM) zN (lw_tv 2 rfl (q_fldP (p:=(.pointer (some ⟨w42.drew.heap.size,0,none⟩))) (b:=w42.drew.heap.size) (o:=0) 2 fd231_2 rfl rfl zN (q_load (p:=(padd (.pointer (some ⟨w42.drew.heap.size,0,none⟩)) 2)) (.inl rfl) (.int .i64 ((T.code.getD ((kk).toNat) Ins.zero).b)) one2 rfl (hB57.ldp (i:=2) sM) zN ?_)))))
       refine q_idx (v:=vr) (((T.code.getD ((kk).toNat) Ins.zero).b).toNat) u32 ti27 rfl rfl hR.slL oM sD zN ?_
       obtain ⟨ue109,hl109,hr109⟩:=RN.getL (w:=w) g1 [] (k:=((T.code.getD ((kk).toNat) Ins.zero).b).toNat) hR sD
       have hln109:=hr109.lenL
       unfold maxLen at hln109
       refine q_load (p:=eptr vr (((T.code.getD ((kk).toNat) Ins.zero).b).toNat) 1) (.inl rfl) ue109 one27 rfl (hl109 _ (Chg.of_ext [] hE57.drew)) zN (lw_call 151 [] [] [ue51,ue109] rfl rfl cf151 zN (c_impl_product _ _ _ _ _ hN61.rd ((hr109.ext g1 hE57.drew)).rd z182_5 z182_5 z182_2 z182_2) ?_)
       rintro e110 w110 ⟨v110_0,rfl,hX110,hO110_0⟩
       refine ⟨_,rfl,hX110,?_⟩
       replace hX110:=hX110.of_drew
       have hzs110:w57.heap.size≤w110.heap.size:=hX110.size
       have hE110:Ext w w110:=hE57.trans hX110
       have hF58x110:=hF58.ext hX110
       have hF59x110:=hF59.ext hX110
       have hB57x110:=hB57.ext hX110
       have hN111:=hN60.ext hX110
       have hN112:=hN61.ext g1 hX110
       replace hO110_0:=hO110_0.low (B':=w57.heap.size) (Nat.le_refl _)
       refine lw_callE 220 [] [(.pointer (some ⟨w2.heap.size,0,none⟩))] [(.int .i64 ((T.code.getD ((kk).toNat) Ins.zero).a)),v110_0,(.pointer (some ⟨w2.heap.size,0,none⟩))] rfl rfl cf220 zN (c_impl_Tape_adjoints_1 _ ((T.code.getD ((kk).toNat) Ins.zero).a) v110_0 (proS (xs.getD ((kk).toNat) []) (R.getD (((T.code.getD ((kk).toNat) Ins.zero).b).toNat) [])) S w2.heap.size vo (xs) _ _ BO hx49.2.1 hO110_0.rd1 (hF59x110.ld (k:=0) sM) hN111 hSB (fun b hb=>by have:=hS8 b hb; omega) oM z182_3 (by exact hra.2) z182_4) ?_
       rintro e113 w113 ⟨rfl,hC113,us113,hb113⟩
       refine ⟨_,rfl,?_⟩
       have hzs113:w110.heap.size≤w113.heap.size:=hC113.size
       have hE113:Ext w w113:=hC113.below hE110 (fun c hc=>Nat.le_trans hwB (hN111.low c hc)) hE110.size
       have hF119:=hF58x110.chg hC113 (fun hm=>by have:=hN111.low _ hm; have:=hFl _ hm; omega)
       have hF120:=hF59x110.chg hC113 (fun hm=>hg0 hm)
       have hF121:=hB57x110.chg hC113 (fun hm=>by have:=hN111.low _ hm; have:=hFl _ hm; omega)
       have hF122:=hN112.chg g1 (hC113.sub (fun b hb=>List.mem_append_right _ hb))
       have hF124:=hO110_0.chg (o1) hC113 (fun c hc=>by have:=hFl c hc; omega)
       have hs2:SrE m (adP xs (T.code.getD kk.toNat Ins.zero).a (proS (xs.getD kk.toNat []) (R.getD (T.code.getD kk.toNat Ins.zero).b.toNat []))):=adP_ser hxs oM
       have hl2:(adP xs (T.code.getD kk.toNat Ins.zero).a (proS (xs.getD kk.toNat []) (R.getD (T.code.getD kk.toNat Ins.zero).b.toNat []))).length = T.code.length:=by rw [adP_len]; exact hxl
       have hrb:=hs2 (T.code.getD kk.toNat Ins.zero).b.toNat oM
       have hrb1:=hrb.1
       refine lw_nil (wp_draw _ [0,0,1,0,0,0,1,0,1,3,4] mixed (by kernel_rfl) (lw_tv 1 rfl (q_fldP (p:=(.pointer (some ⟨w42.drew.heap.size,0,none⟩))) (b:=w42.drew.heap.size) (o:=0) 2 fd231_2 rfl rfl zN (q_load (p:=(padd (.pointer (some ⟨w42.drew.heap.size,0,none⟩)) 2)) (.inl rfl) (.int .i64 ((T.code.getD ((kk).toNat) Ins.zero).b)) one2 rfl (hF121.ldp (i:=2) sM) zN (lw_tv 2 rfl (q_fldP (p:=(.pointer (some ⟨w42.drew.heap.size,0,none⟩))) (b:=w42.drew.heap.size) (o:=0) 1 fd231_1 rfl rfl zN (q_load (p:=(padd (.pointer (some ⟨w42.drew.heap.size,0,none⟩)) 1)) (.inl rfl) (.int .i64 ((T.code.getD ((kk).toNat) Ins.zero).a)) one2 rfl (hF121.ldp (i:=1) sM) zN ?_)))))))
       refine q_idx (v:=vr) (((T.code.getD ((kk).toNat) Ins.zero).a).toNat) u32 ti27 rfl rfl hR.slL oM sD zN ?_
       obtain ⟨ue125,hl125,hr125⟩:=RN.getL (w:=w) g1 [] (k:=((T.code.getD ((kk).toNat) Ins.zero).a).toNat) hR sD
       have hln125:=hr125.lenL
       unfold maxLen at hln125
       refine q_load (p:=eptr vr (((T.code.getD ((kk).toNat) Ins.zero).a).toNat) 1) (.inl rfl) ue125 one27 rfl (hl125 _ (Chg.of_ext [] hE113.drew)) zN (lw_call 151 [] [] [ue51,ue125] rfl rfl cf151 zN (c_impl_product _ _ _ _ _ hF122.rd ((hr125.ext g1 hE113.drew)).rd z182_5 z182_5 z182_2 z182_2) ?_)
       rintro e126 w126 ⟨v126_0,rfl,hX126,hO126_0⟩
       refine ⟨_,rfl,hX126,?_⟩
       replace hX126:=hX126.of_drew
       have hzs126:w113.heap.size≤w126.heap.size:=hX126.size
       have hE126:Ext w w126:=hE113.trans hX126
       have hF119x126:=hF119.ext hX126
       have hF120x126:=hF120.ext hX126
       have hF121x126:=hF121.ext hX126
       have hF124x126:=hF124.ext (o1) hX126
       have hN127:=hb113.ext hX126
       have hN128:=hF122.ext g1 hX126
       replace hO126_0:=hO126_0.low (B':=w113.heap.size) (Nat.le_refl _)
       refine lw_callE 220 [] [(.pointer (some ⟨w2.heap.size,0,none⟩))] [(.int .i64 ((T.code.getD ((kk).toNat) Ins.zero).b)),v126_0,(.pointer (some ⟨w2.heap.size,0,none⟩))] rfl rfl cf220 zN (c_impl_Tape_adjoints_1 _ ((T.code.getD ((kk).toNat) Ins.zero).b) v126_0 (proS (xs.getD ((kk).toNat) []) (R.getD (((T.code.getD ((kk).toNat) Ins.zero).a).toNat) [])) S w2.heap.size vo (adP xs ((T.code.getD ((kk).toNat) Ins.zero).a) (proS (xs.getD ((kk).toNat) []) (R.getD (((T.code.getD ((kk).toNat) Ins.zero).b).toNat) []))) _ _ BO hx49.2.2.1 hO126_0.rd1 (hF120x126.ld (k:=0) sM) hN127 hSB (fun b hb=>by have:=hS8 b hb; omega) oM z182_3 (by exact hrb.2) z182_4) ?_
       rintro e129 w129 ⟨rfl,hC129,us129,hb129⟩
       refine ⟨_,rfl,?_⟩
       have hzs129:w126.heap.size≤w129.heap.size:=hC129.size
       have hE129:Ext w w129:=hC129.below hE126 (fun c hc=>Nat.le_trans hwB (hN127.low c hc)) hE126.size
       have hF135:=hF119x126.chg hC129 (fun hm=>by have:=hN127.low _ hm; have:=hFl _ hm; omega)
       have hF136:=hF120x126.chg hC129 (fun hm=>hg0 hm)
       have hF137:=hF121x126.chg hC129 (fun hm=>by have:=hN127.low _ hm; have:=hFl _ hm; omega)
       have hF138:=hN128.chg g1 (hC129.sub (fun b hb=>List.mem_append_right _ hb))
       have hF140:=hF124x126.chg (o1) hC129 (fun c hc=>by have:=hFl c hc; omega)
       have hF142:=hO126_0.chg (o1) hC129 (fun c hc=>by have:=hFl c hc; omega)
       refine lw_nil (wp_plain _ [0,0,0] rfl (lw_tv 1 rfl (q_sub (kk - ((1 :Nat):Int)) rfl rfl (w64 sD sD) zN (lw_tvn 1 rfl ?_))))
       have hbe:=hb129
       exact ⟨((kk - 1),(adP (adP xs ((T.code.getD ((kk).toNat) Ins.zero).a) (proS (xs.getD ((kk).toNat) []) (R.getD (((T.code.getD ((kk).toNat) Ins.zero).b).toNat) []))) ((T.code.getD ((kk).toNat) Ins.zero).b) (proS (xs.getD ((kk).toNat) []) (R.getD (((T.code.getD ((kk).toNat) Ins.zero).a).toNat) []))),us129),_,rfl,⟨rfl,rfl,rfl,rfl,trivial⟩,⟨hE129,hF135,hF136,oM,(by exact hbe),z182_1,z182_6,z182_0⟩,by first | omega | (dsimp only; omega)⟩
      ·
       refine q_eql false rfl rfl (decide_eq_false hc108) zN (lw_tvn 1 rfl (c_cond_f rfl (wp_seq (wp_plain _ [0,0] rfl ?_))))
       by_cases hc143:(T.code.getD ((kk).toNat) Ins.zero).op = ((6 :Nat):Int)
       ·
        refine q_eql true rfl rfl (decide_eq_true hc143) zN (lw_tvn 1 rfl (c_cond_t rfl (wp_seq (wp_plain _ [0,0,0,2,0,2,3,0] rfl ?_))))
        have hio:=(hform kk.toNat hkn).i2 oM
        have hra:=hxs (T.code.getD kk.toNat Ins.zero).a.toNat oM
        have hra1:=hra.1
        have hRa:=hsR (T.code.getD kk.toNat Ins.zero).a.toNat oM
        have hRb:=hsR (T.code.getD kk.toNat Ins.zero).b.toNat oM
        have hRa1:=hRa.1
        have hRb1:=hRb.1
        refine lw_tv 2 rfl (q_fldP (p:=(.pointer (some ⟨w42.drew.heap.size,0,none⟩))) (b:=w42.drew.heap.size) (o:=0) 2 fd231_2 rfl rfl zN (q_load (p:=(padd (.pointer (some ⟨w42.drew.heap.size,0,none⟩)) 2)) (.inr rfl) (.int .i64 ((T.code.getD ((kk).toNat) Ins.zero).b)) one2 rfl (hB57.ldp (i:=2) sM) zN (q_idx (v:=vr) (((T.code.getD ((kk).toNat) Ins.zero).b).toNat) u32 ti27 rfl rfl hR.slL oM sD zN ?_)))
        obtain ⟨ue144,hl144,hr144⟩:=RN.getL (w:=w) g1 [] (k:=((T.code.getD ((kk).toNat) Ins.zero).b).toNat) hR sD
        have hln144:=hr144.lenL
        unfold maxLen at hln144
        refine q_load (p:=eptr vr (((T.code.getD ((kk).toNat) Ins.zero).b).toNat) 1) (.inr rfl) ue144 one27 rfl (hl144 _ (Chg.of_ext [] hE57)) zN (lw_call 185 [] [] [ue51,ue144] rfl rfl cf185 zN (c_impl_quotient _ _ _ _ _ hN61.rd ((hr144.ext g1 hE57)).rd z182_5 z182_5 oM z182_2 z182_2) ?_)
        rintro e145 w145 ⟨v145_0,rfl,hX145,hO145_0⟩
        refine ⟨_,rfl,hX145,?_⟩
        have hzs145:w57.heap.size≤w145.heap.size:=hX145.size
        have hE145:Ext w w145:=hE57.trans hX145
        have hF58x145:=hF58.ext hX145
        have hF59x145:=hF59.ext hX145
        have hB57x145:=hB57.ext hX145
        have hN146:=hN60.ext hX145
        have hN147:=hN61.ext g1 hX145
        refine lw_tvn 1 rfl (wp_seq (wp_plain _ [0,0,2,0,4] rfl (lw_tv 1 rfl (q_fldP (p:=(.pointer (some ⟨w42.drew.heap.size,0,none⟩))) (b:=w42.drew.heap.size) (o:=0) 1 fd231_1 rfl rfl zN (q_load (p:=(padd (.pointer (some ⟨w42.drew.heap.size,0,none⟩)) 1)) (.inr rfl) (.int .i64 ((T.code.getD ((kk).toNat) Ins.zero).a)) one2 rfl (hB57x145.ldp (i:=1) sM) zN (lw_tv 1 rfl ?_))))))
        refine lw_callE 220 [] [(.pointer (some ⟨w2.heap.size,0,none⟩))] [(.int .i64 ((T.code.getD ((kk).toNat) Ins.zero).a)),v145_0,(.pointer (some ⟨w2.heap.size,0,none⟩))] rfl rfl cf220 zN (c_impl_Tape_adjoints_1 _ ((T.code.getD ((kk).toNat) Ins.zero).a) v145_0 (quoS (xs.getD ((kk).toNat) []) (R.getD (((T.code.getD ((kk).toNat) Ins.zero).b).toNat) [])) S w2.heap.size vo (xs) _ _ BO hx49.2.1 hO145_0.rd1 (hF59x145.ld (k:=0) sM) hN146 hSB (fun b hb=>by have:=hS8 b hb; omega) oM z182_3 (by exact hra.2) z182_4) ?_
        rintro e148 w148 ⟨rfl,hC148,us148,hb148⟩
        refine ⟨_,rfl,?_⟩
        have hzs148:w145.heap.size≤w148.heap.size:=hC148.size
        have hE148:Ext w w148:=hC148.below hE145 (fun c hc=>Nat.le_trans hwB (hN146.low c hc)) hE145.size
        have hF154:=hF58x145.chg hC148 (fun hm=>by have:=hN146.low _ hm; have:=hFl _ hm; omega)
        have hF155:=hF59x145.chg hC148 (fun hm=>hg0 hm)
        have hF156:=hB57x145.chg hC148 (fun hm=>by have:=hN146.low _ hm; have:=hFl _ hm; omega)
        have hF157:=hN147.chg g1 (hC148.sub (fun b hb=>List.mem_append_right _ hb))
        have hF159:=hO145_0.chg (o1) hC148 (fun c hc=>by have:=hFl c hc; omega)
        have hs2:SrE m (adP xs (T.code.getD kk.toNat Ins.zero).a (quoS (xs.getD kk.toNat []) (R.getD (T.code.getD kk.toNat Ins.zero).b.toNat []))):=adP_ser hxs oM
        have hl2:(adP xs (T.code.getD kk.toNat Ins.zero).a (quoS (xs.getD kk.toNat []) (R.getD (T.code.getD kk.toNat Ins.zero).b.toNat []))).length = T.code.length:=by rw [adP_len]; exact hxl
        have hrb:=hs2 (T.code.getD kk.toNat Ins.zero).b.toNat oM
        have hrb1:=hrb.1
        refine lw_nil (wp_draw _ [0,0,1,0,0,0,0,1,3,3,4] mixed (by kernel_rfl) (lw_tv 1 rfl (q_fldP (p:=(.pointer (some ⟨w42.drew.heap.size,0,none⟩))) (b:=w42.drew.heap.size) (o:=0) 2 fd231_2 rfl rfl zN (q_load (p:=(padd (.pointer (some ⟨w42.drew.heap.size,0,none⟩)) 2)) (.inl rfl) (.int .i64 ((T.code.getD ((kk).toNat) Ins.zero).b)) one2 rfl (hF156.ldp (i:=2) sM) zN (lw_tv 3 rfl ?_)))))
        refine q_idx (v:=vr) ((kk).toNat) u32 ti27 rfl rfl hR.slL oM sD zN ?_
        obtain ⟨ue160,hl160,hr160⟩:=RN.getL (w:=w) g1 [] (k:=(kk).toNat) hR sD
        have hln160:=hr160.lenL
        unfold maxLen at hln160
        refine q_load (p:=eptr vr ((kk).toNat) 1) (.inl rfl) ue160 one27 rfl (hl160 _ (Chg.of_ext [] hE148.drew)) zN (lw_call 151 [] [] [v145_0,ue160] rfl rfl cf151 zN (c_impl_product _ _ _ _ _ hF159.rd1 ((hr160.ext g1 hE148.drew)).rd z182_5 z182_5 z182_2 z182_2) ?_)
        rintro e161 w161 ⟨v161_0,rfl,hX161,hO161_0⟩
        refine ⟨_,rfl,hX161,?_⟩
        replace hX161:=hX161.of_drew
        have hzs161:w148.heap.size≤w161.heap.size:=hX161.size
        have hE161:Ext w w161:=hE148.trans hX161
        have hF154x161:=hF154.ext hX161
        have hF155x161:=hF155.ext hX161
        have hF156x161:=hF156.ext hX161
        have hF159x161:=hF159.ext (o1) hX161
        have hN162:=hb148.ext hX161
        have hN163:=hF157.ext g1 hX161
        replace hO161_0:=hO161_0.low (B':=w148.heap.size) (Nat.le_refl _)
        refine lw_call 103 [] [] [v161_0,(.int .i64 ((1000002 :Nat):Int))] rfl rfl cf103 zN (c_impl_scaled _ _ _ _ hO161_0.rd1 oM z182_5 z182_2 oM) ?_
        rintro e164 w164 ⟨v164_0,rfl,hX164,hO164_0⟩
        refine ⟨_,rfl,hX164,?_⟩
        have hzs164:w161.heap.size≤w164.heap.size:=hX164.size
        have hE164:Ext w w164:=hE161.trans hX164
        have hF154x164:=hF154x161.ext hX164
        have hF155x164:=hF155x161.ext hX164
        have hF156x164:=hF156x161.ext hX164
        have hF159x164:=hF159x161.ext (o1) hX164
        have hO161_0x164:=hO161_0.ext (o1) hX164
        have hN165:=hN162.ext hX164
        have hN166:=hN163.ext g1 hX164
        refine lw_callE 220 [] [(.pointer (some ⟨w2.heap.size,0,none⟩))] [(.int .i64 ((T.code.getD ((kk).toNat) Ins.zero).b)),v164_0,(.pointer (some ⟨w2.heap.size,0,none⟩))] rfl rfl cf220 zN (c_impl_Tape_adjoints_1 _ ((T.code.getD ((kk).toNat) Ins.zero).b) v164_0 (sclS (proS (quoS (xs.getD ((kk).toNat) []) (R.getD (((T.code.getD ((kk).toNat) Ins.zero).b).toNat) [])) (R.getD ((kk).toNat) [])) ((1000002 :Nat):Int)) S w2.heap.size vo (adP xs ((T.code.getD ((kk).toNat) Ins.zero).a) (quoS (xs.getD ((kk).toNat) []) (R.getD (((T.code.getD ((kk).toNat) Ins.zero).b).toNat) []))) _ _ BO hx49.2.2.1 hO164_0.rd1 (hF155x164.ld (k:=0) sM) hN165 hSB (fun b hb=>by have:=hS8 b hb; omega) oM z182_3 (by exact hrb.2) z182_4) ?_
        rintro e167 w167 ⟨rfl,hC167,us167,hb167⟩
        refine ⟨_,rfl,?_⟩
        have hzs167:w164.heap.size≤w167.heap.size:=hC167.size
        have hE167:Ext w w167:=hC167.below hE164 (fun c hc=>Nat.le_trans hwB (hN165.low c hc)) hE164.size
        have hF173:=hF154x164.chg hC167 (fun hm=>by have:=hN165.low _ hm; have:=hFl _ hm; omega)
        have hF174:=hF155x164.chg hC167 (fun hm=>hg0 hm)
        have hF175:=hF156x164.chg hC167 (fun hm=>by have:=hN165.low _ hm; have:=hFl _ hm; omega)
        have hF176:=hN166.chg g1 (hC167.sub (fun b hb=>List.mem_append_right _ hb))
        have hF178:=hF159x164.chg (o1) hC167 (fun c hc=>by have:=hFl c hc; omega)
        have hF180:=hO161_0x164.chg (o1) hC167 (fun c hc=>by have:=hFl c hc; omega)
        have hF181:=hO164_0.chg (o1) hC167 (fun c hc=>by have:=hFl c hc; omega)
        refine lw_nil (wp_plain _ [0,0,0] rfl (lw_tv 1 rfl (q_sub (kk - ((1 :Nat):Int)) rfl rfl (w64 sD sD) zN (lw_tvn 1 rfl ?_))))
        have hbe:=hb167
        exact ⟨((kk - 1),(adP (adP xs ((T.code.getD ((kk).toNat) Ins.zero).a) (quoS (xs.getD ((kk).toNat) []) (R.getD (((T.code.getD ((kk).toNat) Ins.zero).b).toNat) []))) ((T.code.getD ((kk).toNat) Ins.zero).b) (sclS (proS (quoS (xs.getD ((kk).toNat) []) (R.getD (((T.code.getD ((kk).toNat) Ins.zero).b).toNat) [])) (R.getD ((kk).toNat) [])) ((1000002 :Nat):Int))),us167),_,rfl,⟨rfl,rfl,rfl,rfl,trivial⟩,⟨hE167,hF173,hF174,oM,(by exact hbe),z182_1,z182_6,z182_0⟩,by first | omega | (dsimp only; omega)⟩
       ·
        refine q_eql false rfl rfl (decide_eq_false hc143) zN (lw_tvn 1 rfl (c_cond_f rfl (wp_seq (wp_plain _ [0,0] rfl ?_))))
        by_cases hc182:(T.code.getD ((kk).toNat) Ins.zero).op = ((7 :Nat):Int)
        ·
         refine q_eql true rfl rfl (decide_eq_true hc182) zN (lw_tvn 1 rfl (c_cond_t rfl (wp_draw _ [0,0,1,0,3,4] mixed (by kernel_rfl) ?_)))
         have hio:=(hform kk.toNat hkn).i7 oM
         have hra:=hxs (T.code.getD kk.toNat Ins.zero).a.toNat oM
         have hra1:=hra.1
         refine lw_tv 1 rfl (q_fldP (p:=(.pointer (some ⟨w42.drew.heap.size,0,none⟩))) (b:=w42.drew.heap.size) (o:=0) 1 fd231_1 rfl rfl zN (q_load (p:=(padd (.pointer (some ⟨w42.drew.heap.size,0,none⟩)) 1)) (.inl rfl) (.int .i64 ((T.code.getD ((kk).toNat) Ins.zero).a)) one2 rfl (hB57.ldp (i:=1) sM) zN (lw_tv 1 rfl (lw_call 103 [] [] [ue51,(.int .i64 ((1000002 :Nat):Int))] rfl rfl cf103 zN (c_impl_scaled _ _ _ _ hN61.rd oM z182_5 z182_2 oM) ?_))))
         rintro e183 w183 ⟨v183_0,rfl,hX183,hO183_0⟩
         refine ⟨_,rfl,hX183,?_⟩
         replace hX183:=hX183.of_drew
         have hzs183:w57.heap.size≤w183.heap.size:=hX183.size
         have hE183:Ext w w183:=hE57.trans hX183
         have hF58x183:=hF58.ext hX183
         have hF59x183:=hF59.ext hX183
         have hB57x183:=hB57.ext hX183
         have hN184:=hN60.ext hX183
         have hN185:=hN61.ext g1 hX183
         replace hO183_0:=hO183_0.low (B':=w57.heap.size) (Nat.le_refl _)
         refine lw_callE 220 [] [(.pointer (some ⟨w2.heap.size,0,none⟩))] [(.int .i64 ((T.code.getD ((kk).toNat) Ins.zero).a)),v183_0,(.pointer (some ⟨w2.heap.size,0,none⟩))] rfl rfl cf220 zN (c_impl_Tape_adjoints_1 _ ((T.code.getD ((kk).toNat) Ins.zero).a) v183_0 (sclS (xs.getD ((kk).toNat) []) ((1000002 :Nat):Int)) S w2.heap.size vo (xs) _ _ BO hx49.2.1 hO183_0.rd1 (hF59x183.ld (k:=0) sM) hN184 hSB (fun b hb=>by have:=hS8 b hb; omega) oM z182_3 (by exact hra.2) z182_4) ?_
         rintro e186 w186 ⟨rfl,hC186,us186,hb186⟩
         refine ⟨_,rfl,?_⟩
         have hzs186:w183.heap.size≤w186.heap.size:=hC186.size
         have hE186:Ext w w186:=hC186.below hE183 (fun c hc=>Nat.le_trans hwB (hN184.low c hc)) hE183.size
         have hF192:=hF58x183.chg hC186 (fun hm=>by have:=hN184.low _ hm; have:=hFl _ hm; omega)
         have hF193:=hF59x183.chg hC186 (fun hm=>hg0 hm)
         have hF194:=hB57x183.chg hC186 (fun hm=>by have:=hN184.low _ hm; have:=hFl _ hm; omega)
         have hF195:=hN185.chg g1 (hC186.sub (fun b hb=>List.mem_append_right _ hb))
         have hF196:=hO183_0.chg (o1) hC186 (fun c hc=>by have:=hFl c hc; omega)
         refine lw_nil (wp_plain _ [0,0,0] rfl (lw_tv 1 rfl (q_sub (kk - ((1 :Nat):Int)) rfl rfl (w64 sD sD) zN (lw_tvn 1 rfl ?_))))
         have hbe:=hb186
         exact ⟨((kk - 1),(adP xs ((T.code.getD ((kk).toNat) Ins.zero).a) (sclS (xs.getD ((kk).toNat) []) ((1000002 :Nat):Int))),us186),_,rfl,⟨rfl,rfl,rfl,rfl,trivial⟩,⟨hE186,hF192,hF193,oM,(by exact hbe),z182_1,z182_6,z182_0⟩,by first | omega | (dsimp only; omega)⟩
        ·
         refine q_eql false rfl rfl (decide_eq_false hc182) zN (lw_tvn 1 rfl (c_cond_f rfl (wp_skip (wp_plain _ [0,0,0] rfl (lw_tv 1 rfl ?_)))))
         refine q_sub (kk - ((1 :Nat):Int)) rfl rfl (w64 sD sD) zN (lw_tvn 1 rfl ?_)
         have hbe:=hN60
         exact ⟨((kk - 1),xs,us),_,rfl,⟨rfl,rfl,rfl,rfl,trivial⟩,⟨hE57,hF58,hF59,oM,(by exact hbe),z182_1,z182_6,z182_0⟩,by first | omega | (dsimp only; omega)⟩
   ·
    refine q_geq false rfl rfl (decide_eq_false hc45) zN (lw_nil (c_cond_f rfl (wp_exit (t_exit (t_exit (c_exit_here (wp_seq (wp_plain _ [2,0] rfl (q_load (p:=(.pointer (some ⟨w2.heap.size,0,none⟩))) (.inr rfl) vo one32 rfl (hL42_1.ld (k:=0) sM) zN (lw_tvn 1 rfl (wp_ret ?_)))))))))))
    have hfin:xs = adjS T.code R oT ws:=by have h9:=hadj; rw [show (kk + 1).toNat = 0 from by omega,hB0] at h9; exact h9
    exact post_ret [6] rfl vo rfl ⟨_,rfl,hE42,(by rw [← hfin]; exact (hbl.done hSB)),hbl.cap⟩
end Go.Proofs.YtnokbaiemimhjaaGreat
namespace Go.Proofs.YtnokbaiemimhjaaGreat
open Go Go.RowKit
set_option linter.unusedVariables false
set_option linter.unusedSimpArgs false
set_option maxHeartbeats 4000000
set_option maxRecDepth 100000
attribute [local irreducible] LW
theorem c_impl_Tape_byInputs (w:World) (m:Nat) (ni:Nat) (S:List Nat) (ipT:Int) (vtc vtg vtx:Value) (T:Tp) (oT:List Int) (vl:Value) (L:List (List Int)) (hS8:∀ b∈S,b < w.heap.size) (_hipT:i64 ipT) (htcT:RN [] (rdS 4 rIn) w.heap vtc T.code) (htgT:RN [] (rdS 2 rGd) w.heap vtg T.grd) (htoT:RN [] (rdL rI) w.heap vtx oT) (hL:RN [] (rdL (rdL rI)) w.heap vl L) (hqL:CapS vl) (hm:1≤m∧m≤13) (hni:ipT = ((ni :Nat):Int)∧ni≤1000) (hsL:SrE m L) (hlL:L.length = T.code.length∧0 < L.length) (hlt:T.code.length≤4000) (hform:∀ k,k < T.code.length→InO ni k (T.code.getD k Ins.zero)) :
  Calls Tryz.prog 181 #[(.agg #[(.int .i64 ipT),vtc,vtg,vtx]),vl] w (fun e w'=>∃ v0:Value,e = .returned v0∧Ext w w'∧RN S (rdL (rdL rI)) w'.heap v0 (byS ni m T.code L)∧CapS v0):=by
 refine calls_mk [(.agg #[(.int .i64 ipT),vtc,vtg,vtx]),vl] 54 Tryz.func181 rfl rfl sM ?_
 have hE0:Ext w w:=Ext.refl w
 have hl_vtx:=htoT.lenL
 unfold maxLen at hl_vtx
 have hl_vl:=hL.lenL
 unfold maxLen at hl_vl
 have hL0:=hsL 0 oM
 have hm0:=hL0.1
 refine wp_seq (wp_plain _ [3,0] rfl (r_boxA (cs:=#[(.int .i64 ipT),vtc,vtg,vtx]) rfl zN fun w1 hX1 hz1 hB1=>?_))
 have hzs1:w.heap.size≤w1.heap.size:=hX1.size
 have hE1:Ext w w1:=hE0.trans hX1
 replace hB1:BX w1.heap w.heap.size [(.int .i64 ipT),vtc,vtg,vtx]:=hB1
 refine lw_tvn 1 rfl (wp_seq (wp_plain _ [3,0,0] rfl (r_nil (owL rI 2) o1 u32 ti27 zN fun v2 w2 hX2 hz2 hO2=>?_)))
 have hzs2:w1.heap.size≤w2.heap.size:=hX2.size
 have hE2:Ext w w2:=hE1.trans hX2
 have hB1x2:=hB1.ext hX2
 refine lw_tvn 2 rfl (wp_seq (wp_seq (wp_plain _ [0,0,0] rfl (lw_tv 1 rfl (q_len (v:=vl) u32 rfl hL.slL zN ?_)))))
 have hc3:((0 :Nat):Int) < ((L.length :Nat):Int):=oM
 refine q_gtr true rfl rfl (decide_eq_true hc3) zN (lw_nil (c_cond_t rfl (wp_plain _ [0,0,2,0,0] rfl (lw_tv 1 rfl (q_idx (v:=vl) 0 u32 ti27 rfl rfl hL.slL rfl sD zN ?_)))))
 obtain ⟨ue4,hl4,hr4⟩:=RN.getL (w:=w) g1 [] (k:=0) hL sD
 have hln4:=hr4.lenL
 unfold maxLen at hln4
 refine q_load (p:=eptr vl 0 1) (.inr rfl) ue4 one27 rfl (hl4 _ (Chg.of_ext [] hE2)) zN (q_len (v:=ue4) u27 rfl hr4.slL zN (lw_tvn 1 rfl (wp_seq (wp_seq (wp_plain _ [0,2,0] rfl (q_fldP (p:=(.pointer (some ⟨w.heap.size,0,none⟩))) (b:=w.heap.size) (o:=0) 0 fd199_0 rfl rfl zN (q_load (p:=(padd (.pointer (some ⟨w.heap.size,0,none⟩)) 0)) (.inr rfl) (.int .i64 ipT) one2 rfl (hB1x2.ldp (i:=0) sM) zN (lw_tvn 1 rfl (wp_block ?_)))))))))
 refine c_loop (S:=Nat × Value) (fun (⟨k,vo⟩:Nat × Value)=>([(5,vo),(19,(.int .i64 ((k :Nat):Int))),(1,vl),(2,(.pointer (some ⟨w.heap.size,0,none⟩))),(6,(.int .i64 (((L.getD 0 []).length :Nat):Int))),(18,(.int .i64 ipT))]:List (Nat × Value))) (fun (⟨k,vo⟩:Nat × Value) (W:World)=>Ext w W∧Fr (owL (owL rI 2) 27) w1.heap.size W.heap.size W.heap vo (List.replicate k (List.replicate m 0))∧BX W.heap w.heap.size [(.int .i64 ipT),vtc,vtg,vtx]∧k≤ni∧w.heap.size < w1.heap.size∧w1.heap.size≤W.heap.size) (fun (⟨k,vo⟩:Nat × Value)=>ni - k) (0,v2) ⟨rfl,rfl,rfl,rfl,rfl,rfl,trivial⟩ ⟨hE2,hO2.up o2,hB1x2,oM,oM,oM⟩ ?_
 clear hE0 hL0 hz1 hX1 hO2 hz2 hX2 hzs2 hE2 hln4
 rintro ⟨k,vo⟩ ρ6 w6 ⟨hE6,hL6_0,hL6_1,hp6_0,hkg5,hkB7⟩
 have hzs6:w.heap.size≤w6.heap.size:=hE6.size
 have hq8:=hL6_1.lt
 refine wp_seq (wp_plain _ [0] rfl ?_)
 by_cases hc9:((k :Nat):Int) < ipT
 ·
  refine q_lss true rfl rfl (decide_eq_true hc9) zN (lw_nil (wp_seq (c_cond_t rfl (wp_skip (wp_seq (wp_block (wp_plain _ [0,0,3,3,4,0] rfl (lw_tv 2 rfl (r_make (n:=(L.getD 0 []).length) u27 ti2 rfl rfl rfl sD zN fun v10 w10 hX10 hz10 hO10=>?_)))))))))
  have hzs10:w6.heap.size≤w10.heap.size:=hX10.size
  have hE10:Ext w w10:=hE6.trans hX10
  have hL6_0x10:=hL6_0.ext (o2) hX10
  have hL6_1x10:=hL6_1.ext hX10
  refine r_one (u:=v10) (B:=w6.heap.size) o1 u32 ti27 rfl rfl hO10 (by first | exact Nat.le_refl _ | omega) zN fun v11 w11 hX11 hz11 hO11=>?_
  have hzs11:w10.heap.size≤w11.heap.size:=hX11.size
  have hE11:Ext w w11:=hE10.trans hX11
  have hL6_0x11:=hL6_0x10.ext (o2) hX11
  have hL6_1x11:=hL6_1x10.ext hX11
  refine e_appF o1 (v:=vo) (a:=v11) u32 ti27 rfl rfl rfl hL6_0x11 oM hO11 oM oM sD (by unfold maxLen; first | omega | assumption | (simp; done) | (simp; omega)) zN fun v12 w12 F12 hC12 hF12 hO12=>?_
  have hE12:Ext w w12:=hC12.below hE11 (fun c hc=>Nat.le_trans hE1.size (hF12 c hc).1) hE11.size
  have hzs12:w11.heap.size≤w12.heap.size:=hC12.size
  have hF13:=hL6_1x11.chg hC12 (fun hm=>by have:=hF12 _ hm; omega)
  exact lw_tvn 1 rfl (wp_plain _ [0,0] rfl (q_add ((k + 1 :Nat):Int) rfl rfl (w64n oM oM) zN (lw_tvn 1 rfl ⟨((k + 1),v12),_,rfl,⟨rfl,rfl,rfl,rfl,rfl,rfl,trivial⟩,⟨hE12,(by have h:=hO12.up o2; rw [hm0,← List.replicate_succ'] at h; exact h),hF13,oM,oM,oM⟩,by first | omega | (dsimp only; omega)⟩)))
 ·
  refine q_lss false rfl rfl (decide_eq_false hc9) zN (lw_nil (wp_seq (c_cond_f rfl (wp_exit (t_exit (t_exit (c_exit_here (wp_seq (wp_seq (wp_plain _ [0,2,0,0] rfl ?_))))))))))
  have hOw:=hL6_0
  rw [show k = ni from by omega] at hOw
  obtain ⟨us0,F0,hb0,hF0⟩:=Bld.ofFr (S:=S) hOw (fun b hb=>by have:=hS8 b hb; omega)
  obtain ⟨BO,hBO⟩:∃ b:Nat,b = w1.heap.size:=⟨_,rfl⟩
  rw [← hBO] at hb0
  have hwB:w.heap.size≤BO:=by omega
  have hSB:∀ b∈S,b < BO:=fun b hb=>by have:=hS8 b hb; omega
  obtain ⟨B0,hB0⟩:∃ l:List Sr,l = (List.replicate ni (List.replicate m 0)):=⟨_,rfl⟩
  rw [← hB0] at hb0
  have hs0:SrE m B0:=by rw [hB0]; exact rep_ser m ni
  have hl0:B0.length = ni:=by rw [hB0,List.length_replicate]
  refine q_fldP (p:=(.pointer (some ⟨w.heap.size,0,none⟩))) (b:=w.heap.size) (o:=0) 1 fd199_1 rfl rfl zN (q_load (p:=(padd (.pointer (some ⟨w.heap.size,0,none⟩)) 1)) (.inr rfl) vtc one196 rfl (hL6_1.ldp (i:=1) sM) zN (q_len (v:=vtc) u196 rfl htcT.isSl zN (lw_tvn 1 rfl (wp_block (c_loop (S:=Nat × List Value) (fun (⟨j,us⟩:Nat × List Value)=>([(30,(.int .i64 ((j :Nat):Int))),(1,vl),(5,vo),(28,vtc),(29,(.int .i64 ((T.code.length :Nat):Int)))]:List (Nat × Value))) (fun (⟨j,us⟩:Nat × List Value) (W:World)=>Ext w W∧j≤T.code.length∧Bld 27 S BO W.heap vo (byN T.code L j B0) us F0) (fun (⟨j,us⟩:Nat × List Value)=>T.code.length - j) (0,us0) ⟨rfl,rfl,rfl,rfl,rfl,trivial⟩ ⟨hE6,oM,(by exact hb0)⟩ ?_)))))
  clear hzs1 hE1 hL6_1 hL6_0 hE6 hzs6 hF0
  rintro ⟨j,us⟩ ρ14 w14 ⟨hE14,hp14_0,hbl⟩
  have hzs14:w.heap.size≤w14.heap.size:=hE14.size
  have hFl:∀ b∈F0,b < w14.heap.size:=hbl.lt
  refine wp_seq (wp_plain _ [0] rfl ?_)
  by_cases hc15:((j :Nat):Int) < ((T.code.length :Nat):Int)
  ·
   refine q_lss true rfl rfl (decide_eq_true hc15) zN (lw_nil (wp_seq (c_cond_t rfl (wp_skip (wp_seq (wp_block (wp_seq (wp_plain _ [0,0,2,3,0,4] rfl ?_))))))))
   have hjk:j < T.code.length:=by omega
   refine lw_tv 1 rfl (q_idx (v:=vtc) j u196 tiS231 rfl rfl htcT.isSl rfl sD zN ?_)
   obtain ⟨cs16,hr16,hl16⟩:=htcT.get good_rIn Ins.zero (k:=j) sD
   obtain ⟨rfl,hx16⟩:=rn_ins hr16
   refine q_loadA (p:=eptr vtc j 4) (.inr rfl) [(.int .i64 ((T.code.getD j Ins.zero).op)),(.int .i64 ((T.code.getD j Ins.zero).a)),(.int .i64 ((T.code.getD j Ins.zero).b)),(.int .i64 ((T.code.getD j Ins.zero).num))] agg231 rfl (fun wq9 hw9=>hl16 wq9 (Chg.of_ext [] (hE14.trans hw9))) rfl zN (r_allocA (z:=.agg #[.int .i64 0,.int .i64 0,.int .i64 0,.int .i64 0]) zr231 zN fun w17 hX17 hz17 hB17=>?_)
   have hzs17:w14.heap.size≤w17.heap.size:=hX17.size
   have hE17:Ext w w17:=hE14.trans hX17
   have hN18:=hbl.ext hX17
   replace hB17:BX w17.heap w14.heap.size [(.int .i64 0),(.int .i64 0),(.int .i64 0),(.int .i64 0)]:=hB17
   refine lw_tv 1 rfl (e_setA (vs:=[(.int .i64 ((T.code.getD j Ins.zero).op)),(.int .i64 ((T.code.getD j Ins.zero).a)),(.int .i64 ((T.code.getD j Ins.zero).b)),(.int .i64 ((T.code.getD j Ins.zero).num))]) agg231 rfl rfl (by intro u hu; simp only [List.mem_cons,List.not_mem_nil,or_false] at hu; rcases hu with rfl | rfl | rfl | rfl <;> first | exact ⟨rfl,rfl⟩) hB17 rfl rfl zN fun w19 hC19 hz19 hB19=>?_)
   replace hB19:BX w19.heap w14.heap.size [(.int .i64 ((T.code.getD j Ins.zero).op)),(.int .i64 ((T.code.getD j Ins.zero).a)),(.int .i64 ((T.code.getD j Ins.zero).b)),(.int .i64 ((T.code.getD j Ins.zero).num))]:=hB19
   have hE19:Ext w w19:=hC19.below hE17 (fun c hc=>by have:=List.mem_singleton.1 hc; omega) hE17.size
   have hzs19:w17.heap.size≤w19.heap.size:=hC19.size
   have hN20:=hbl.ext (hC19.below hX17 (fun c hc=>by have:=List.mem_singleton.1 hc; omega) hX17.size)
   refine lw_nil (wp_seq (wp_plain _ [0,2,0] rfl (q_fldP (p:=(.pointer (some ⟨w14.heap.size,0,none⟩))) (b:=w14.heap.size) (o:=0) 0 fd231_0 rfl rfl zN (q_load (p:=(padd (.pointer (some ⟨w14.heap.size,0,none⟩)) 0)) (.inr rfl) (.int .i64 ((T.code.getD j Ins.zero).op)) one2 rfl (hB19.ldp (i:=0) sM) zN ?_))))
   by_cases hc21:(T.code.getD j Ins.zero).op = ((1 :Nat):Int)
   ·
    refine q_eql true rfl rfl (decide_eq_true hc21) zN (lw_nil (c_cond_t rfl (wp_draw _ [0,0,1,0,0,1,0,1,0,0,0,1,3,0,4] mixed (by kernel_rfl) ?_)))
    have hio:=(hform j hjk).i1 oM
    have hra:=byN_ser (cs:=T.code) (L:=L) (B:=B0) (fun q hq=>by rw [hl0]; exact hform q hq) hs0 j oM (T.code.getD j Ins.zero).num.toNat (by rw [byN_len,hl0]; omega)
    have hra1:=hra.1
    have hLj:=hsL j oM
    have hLj1:=hLj.1
    have hbn:(byN T.code L j B0).length = ni:=by rw [byN_len,hl0]
    refine lw_tv 1 rfl (q_fldP (p:=(.pointer (some ⟨w14.heap.size,0,none⟩))) (b:=w14.heap.size) (o:=0) 3 fd231_3 rfl rfl zN (q_load (p:=(padd (.pointer (some ⟨w14.heap.size,0,none⟩)) 3)) (.inl rfl) (.int .i64 ((T.code.getD j Ins.zero).num)) one2 rfl (hB19.ldp (i:=3) sM) zN (lw_tv 1 rfl (q_fldP (p:=(.pointer (some ⟨w14.heap.size,0,none⟩))) (b:=w14.heap.size) (o:=0) 3 fd231_3 rfl rfl zN (q_load (p:=(padd (.pointer (some ⟨w14.heap.size,0,none⟩)) 3)) (.inl rfl) (.int .i64 ((T.code.getD j Ins.zero).num)) one2 rfl (hB19.ldp (i:=3) sM) zN ?_)))))
    refine q_idx (v:=vo) (((T.code.getD j Ins.zero).num).toNat) u32 ti27 rfl rfl (hN20.done hSB).none.slL oM sD zN ?_
    obtain ⟨ue22,hl22,hr22⟩:=hN20.getF (k:=((T.code.getD j Ins.zero).num).toNat) sD
    have hln22:=hr22.lenL
    unfold maxLen at hln22
    refine q_load (p:=eptr vo (((T.code.getD j Ins.zero).num).toNat) 1) (.inl rfl) ue22 one27 rfl hl22 zN (lw_tv 2 rfl (q_idx (v:=vl) j u32 ti27 rfl rfl hL.slL rfl sD zN ?_))
    obtain ⟨ue23,hl23,hr23⟩:=RN.getL (w:=w) g1 [] (k:=j) hL sD
    have hln23:=hr23.lenL
    unfold maxLen at hln23
    refine q_load (p:=eptr vl j 1) (.inl rfl) ue23 one27 rfl (hl23 _ (Chg.of_ext [] hE19.drew)) zN (lw_call 102 [] [] [ue22,ue23] rfl rfl cf102 zN (c_impl_added _ _ _ _ _ hr22.rd ((hr23.ext g1 hE19.drew)).rd oM oM (by exact hra.2) (by exact hLj.2)) ?_)
    rintro e24 w24 ⟨v24_0,rfl,hX24,hO24_0⟩
    refine ⟨_,rfl,hX24,?_⟩
    replace hX24:=hX24.of_drew
    have hzs24:w19.heap.size≤w24.heap.size:=hX24.size
    have hE24:Ext w w24:=hE19.trans hX24
    have hB19x24:=hB19.ext hX24
    have hN25:=hN20.ext hX24
    have hN26:=hr22.ext g1 hX24
    replace hO24_0:=hO24_0.low (B':=w19.heap.size) (Nat.le_refl _)
    refine q_idx (v:=vo) (((T.code.getD j Ins.zero).num).toNat) u32 ti27 rfl rfl (hN25.done hSB).none.slL oM sD zN ?_
    refine e_setL (v:=vo) (u:=v24_0) (w:=w24) sz27 rfl rfl hN25 (RN.of_fr1 hO24_0 (fun b hb=>by rcases List.mem_append.1 hb with hb | hb; (have:=hS8 b hb; omega); (have:=hFl b hb; omega))) sD zN fun w27 hC27 hz27 hb27=>?_
    have hzs27:w24.heap.size≤w27.heap.size:=hC27.size
    have hE27:Ext w w27:=hC27.below hE24 (fun c hc=>Nat.le_trans hwB (hN25.low c hc)) hE24.size
    have hF33:=hB19x24.chg hC27 (fun hm=>by have:=hN25.low _ hm; have:=hFl _ hm; omega)
    have hF34:=hN26.chg g1 (hC27.sub (fun b hb=>List.mem_append_right _ hb))
    have hF36:=hO24_0.chg (o1) hC27 (fun c hc=>by have:=hFl c hc; omega)
    refine lw_nil (wp_plain _ [0,0] rfl (q_add ((j + 1 :Nat):Int) rfl rfl (w64n oM sD) zN (lw_tvn 1 rfl ?_)))
    have hbe:=hb27
    exact ⟨((j + 1),(us.set (((T.code.getD j Ins.zero).num).toNat) v24_0)),_,rfl,⟨rfl,rfl,rfl,rfl,rfl,trivial⟩,⟨hE27,oM,(by first | (rw [byN_1 oM]; exact hbe) | (rw [byN_0 oM]; exact hbe))⟩,by first | omega | (dsimp only; omega)⟩
   ·
    refine q_eql false rfl rfl (decide_eq_false hc21) zN (lw_nil (c_cond_f rfl (wp_skip (wp_plain _ [0,0] rfl (q_add ((j + 1 :Nat):Int) rfl rfl (w64n oM sD) zN (lw_tvn 1 rfl ?_))))))
    have hbe:=hN20
    exact ⟨((j + 1),us),_,rfl,⟨rfl,rfl,rfl,rfl,rfl,trivial⟩,⟨hE19,oM,(by first | (rw [byN_1 oM]; exact hbe) | (rw [byN_0 oM]; exact hbe))⟩,by first | omega | (dsimp only; omega)⟩
  ·
   exact q_lss false rfl rfl (decide_eq_false hc15) zN (lw_nil (wp_seq (c_cond_f rfl (wp_exit (t_exit (t_exit (c_exit_here (wp_seq (wp_plain _ [0,0] rfl (lw_tvn 2 rfl (wp_ret (post_ret [4] rfl vo rfl ⟨_,rfl,hE14,(by have h9:=(hbl.done hSB); rw [show j = T.code.length from by omega,hB0] at h9; exact h9),hbl.cap⟩))))))))))))
end Go.Proofs.YtnokbaiemimhjaaGreat
namespace Go.Proofs.YtnokbaiemimhjaaGreat
open Go Go.RowKit
set_option linter.unusedVariables false
set_option linter.unusedSimpArgs false
set_option maxHeartbeats 4000000
set_option maxRecDepth 100000
attribute [local irreducible] LW
theorem c_impl_timeSeries (w:World) (o:Int) (_ho:-9223372036854775808≤o∧o≤9223372036854775807) (ho:0≤o∧o≤12) :
  Calls Tryz.prog 131 #[.int .i64 o] w (fun e w'=>∃ v0:Value,e = .returned (v0)∧Ext w w'∧Fr (owL rI 2) w.heap.size w'.heap.size w'.heap v0 ((List.replicate (o.toNat + 1) 0).set 1 1)):=by
 refine calls_mk [.int .i64 o] 12 Tryz.func131 rfl rfl sM ?_
 have hE0:Ext w w:=Ext.refl w
 refine wp_seq (wp_plain _ [0] rfl (lw_tvn 1 rfl (wp_seq (wp_plain _ [0,0,3,0] rfl (lw_tv 1 rfl (q_add ((o.toNat + 1 :Nat):Int) rfl rfl (w64n oM oM) zN (r_make (n:=o.toNat + 1) u27 ti2 rfl rfl rfl sD zN fun v1 w1 hX1 hz1 hO1=>?_)))))))
 have hzs1:w.heap.size≤w1.heap.size:=hX1.size
 have hE1:Ext w w1:=hE0.trans hX1
 refine lw_tvn 1 rfl (wp_seq (wp_seq (wp_plain _ [0,0] rfl (lw_tv 1 rfl ?_))))
 by_cases hc2:((0 :Nat):Int) < o
 ·
  refine q_gtr true rfl rfl (decide_eq_true hc2) zN (lw_nil (c_cond_t rfl (wp_plain _ [0,0,4] rfl (lw_tv 1 rfl (q_idx (v:=v1) 1 u27 ti2 rfl rfl hO1.isSl rfl (by simp; omega) zN (e_setI (v:=v1) (w:=w1) sz2 rfl rfl oM hO1 (by simp; omega) zN fun w3 F3 hC3 hz3 hF3 hO3=>?_))))))
  have hE3:Ext w w3:=hC3.below hE1 (fun c hc=>Nat.le_trans (Nat.le_refl _) (hF3 c hc).1) hE1.size
  have hzs3:w1.heap.size≤w3.heap.size:=hC3.size
  exact lw_nil (wp_seq (wp_plain _ [0,0] rfl (lw_tvn 2 rfl (wp_ret (post_ret [2] rfl v1 rfl ⟨v1,rfl,hE3,(by first | exact hO3.up o1 | (have h:=hO3.up o1; rw [show o.toNat = 0 from by omega] at h ⊢; exact h))⟩)))))
 ·
  exact q_gtr false rfl rfl (decide_eq_false hc2) zN (lw_nil (c_cond_f rfl (wp_skip (wp_seq (wp_plain _ [0,0] rfl (lw_tvn 2 rfl (wp_ret (post_ret [2] rfl v1 rfl ⟨v1,rfl,hE1,(by first | exact hO1.up o1 | (have h:=hO1.up o1; rw [show o.toNat = 0 from by omega] at h ⊢; exact h))⟩))))))))
theorem c_impl_picked___int64_ (w:World) (vl:Value) (L:List (List Int)) (vp:Value) (ps:List Int) (hL:RN [] (rdL (rdL rI)) w.heap vl L) (hqL:CapS vl) (hps:Rd (rdL rI) w.heap vp ps) (hp:∀ k,k < ps.length→0≤ps.getD k 0∧ps.getD k 0 < ((L.length :Nat):Int)) (hpl:ps.length≤1000000) :
  Calls Tryz.prog 183 #[vl,vp] w (fun e w'=>∃ v0:Value,e = .returned v0∧Ext w w'∧RN [] (rdL (rdL rI)) w'.heap v0 (pkS L ps)∧CapS v0):=by
 refine calls_mk [vl,vp] 24 Tryz.func183 rfl rfl sM ?_
 have hE0:Ext w w:=Ext.refl w
 have hl_vl:=hL.lenL
 unfold maxLen at hl_vl
 have hl_vp:=hps.lenle
 have hS:∀ b∈([]:List Nat),b < w.heap.size:=fun b hb=>by cases hb
 refine wp_seq (wp_plain _ [0] rfl (lw_tvn 1 rfl (wp_seq (wp_plain _ [3,0] rfl ?_))))
 obtain ⟨BO,hBO⟩:∃ b:Nat,b = w.heap.size:=⟨_,rfl⟩
 have hwB:w.heap.size≤BO:=by omega
 refine r_nil rV good_rV u32 ti27 zN fun v1 w1 hX1 hz1 hO1=>?_
 have hzs1:w.heap.size≤w1.heap.size:=hX1.size
 have hE1:Ext w w1:=hE0.trans hX1
 obtain ⟨us1,F1,hb1⟩:=Bld.nil (S:=[]) (by rw [← hBO] at hO1; exact hO1)
 refine lw_tvn 1 rfl (wp_seq (wp_seq (wp_plain _ [0,0,0] rfl (lw_tv 1 rfl (q_len (v:=vp) u27 rfl hps.isSl zN (lw_tvn 1 rfl (wp_block (c_loop (S:=Nat × Value) (fun (⟨k,vo⟩:Nat × Value)=>([(5,vo),(11,(.int .i64 ((k :Nat):Int))),(0,vl),(9,vp),(10,(.int .i64 ((ps.length :Nat):Int)))]:List (Nat × Value))) (fun (⟨k,vo⟩:Nat × Value) (W:World)=>Ext w W∧k≤ps.length∧w.heap.size≤BO∧BO≤W.heap.size∧BldE 27 [] BO W.heap vo (pkS L (ps.take k))) (fun (⟨k,vo⟩:Nat × Value)=>ps.length - k) (0,v1) ⟨rfl,rfl,rfl,rfl,rfl,trivial⟩ ⟨hE1,oM,oM,oM,(by exact ⟨_,_,by assumption⟩)⟩ ?_))))))))
 clear hE0 hO1 hz1 hX1 hzs1 hE1
 rintro ⟨k,vo⟩ ρ2 w2 ⟨hE2,hp2_0,hp2_1,hp2_2,hbld⟩
 have hzs2:w.heap.size≤w2.heap.size:=hE2.size
 have hpkl:(pkS L (ps.take k)).length = k:=by unfold pkS; rw [List.length_map,List.length_take]; omega
 obtain ⟨us3,F3,hbl3⟩:=hbld
 have hFl:∀ b∈F3,b < w2.heap.size:=hbl3.lt
 refine wp_seq (wp_plain _ [0] rfl ?_)
 by_cases hc4:((k :Nat):Int) < ((ps.length :Nat):Int)
 ·
  refine q_lss true rfl rfl (decide_eq_true hc4) zN (lw_nil (wp_seq (c_cond_t rfl (wp_skip (wp_seq (wp_block (wp_seq (wp_plain _ [0,2,0] rfl (q_idx (v:=vp) k u27 ti2 rfl rfl hps.isSl rfl sD zN ?_)))))))))
  refine q_load (p:=eptr vp k 1) (.inr rfl) (.int .i64 (ps.getD k 0)) one2 rfl (ldH_ext hE2 (hps.getI sD).1) zN (lw_tvn 1 rfl (wp_plain _ [0,0,0,0,2,3,4,0] rfl ?_))
  have hpk:=hp k oM
  refine lw_tv 3 rfl (q_idx (v:=vl) ((ps.getD k 0).toNat) u32 ti27 rfl rfl hL.slL oM sD zN ?_)
  obtain ⟨ue5,hl5,hr5⟩:=RN.getL (w:=w) g1 [] (k:=(ps.getD k 0).toNat) hL sD
  have hln5:=hr5.lenL
  unfold maxLen at hln5
  refine q_load (p:=eptr vl ((ps.getD k 0).toNat) 1) (.inr rfl) ue5 one27 rfl (hl5 _ (Chg.of_ext [] hE2)) zN (r_one (u:=ue5) (B:=w2.heap.size) good_rV u32 ti27 rfl rfl (frV w2.heap.size w2.heap.size _ (hr5.one1 g1)) (Nat.le_refl _) zN fun v6 w6 hX6 hz6 hO6=>?_)
  have hzs6:w2.heap.size≤w6.heap.size:=hX6.size
  have hE6:Ext w w6:=hE2.trans hX6
  have hN7:=hbl3.ext hX6
  refine e_appB (v:=vo) (a:=v6) (u:=ue5) u32 ti27 rfl rfl rfl hN7 oM hO6 (RN.stp g1 hr5 (Chg.of_ext [] hE6) (fun b hb=>.inr (by have:=hN7.low b (by simpa using hb); omega))) sD (by unfold maxLen; first | omega | assumption | (simp; done) | (simp; omega)) zN ?_
  rintro v8 w8 G8 hC8 hF8 ⟨us8,F8,hb8⟩
  have hzs8:w6.heap.size≤w8.heap.size:=hC8.size
  have hE8:Ext w w8:=hC8.below hE6 (fun c hc=>Nat.le_trans hwB (hN7.low c (hF8 c hc))) hE6.size
  exact lw_tvn 1 rfl (wp_plain _ [0,0] rfl (q_add ((k + 1 :Nat):Int) rfl rfl (w64n oM sD) zN (lw_tvn 1 rfl ⟨((k + 1),v8),_,rfl,⟨rfl,rfl,rfl,rfl,rfl,trivial⟩,⟨hE8,oM,oM,oM,(by rw [pkS_succ oM]; exact ⟨_,_,by assumption⟩)⟩,by first | omega | (dsimp only; omega)⟩)))
 ·
  exact q_lss false rfl rfl (decide_eq_false hc4) zN (lw_nil (wp_seq (c_cond_f rfl (wp_exit (t_exit (t_exit (c_exit_here (wp_seq (wp_plain _ [0,0] rfl (lw_tvn 2 rfl (wp_ret (post_ret [4] rfl vo rfl ⟨_,rfl,hE2,(by have h9:=(hbl3.done (fun b hb=>absurd hb List.not_mem_nil)); rw [List.take_of_length_le oM] at h9; exact h9),hbl3.cap⟩))))))))))))
end Go.Proofs.YtnokbaiemimhjaaGreat
namespace Go.Proofs.YtnokbaiemimhjaaGreat
open Go Go.RowKit
set_option linter.unusedVariables false
set_option linter.unusedSimpArgs false
set_option maxHeartbeats 4000000
set_option maxRecDepth 100000
attribute [local irreducible] LW
theorem c_impl_without (w:World) (vx:Value) (X:List (List (List Int))) (hX:RN [] (rdL (rdMx (rdL rI))) w.heap vx X) (hx:∀ k,k < X.length→1≤(X.getD k []).length) (hxl:X.length≤1000000) :
  Calls Tryz.prog 168 #[vx] w (fun e w'=>∃ v0:Value,e = .returned v0∧Ext w w'∧RN [] (rdL (rdMx (rdL rI))) w'.heap v0 (woS X)∧CapS v0):=by
 refine calls_mk [vx] 20 Tryz.func168 rfl rfl sM ?_
 have hE0:Ext w w:=Ext.refl w
 refine wp_seq (wp_plain _ [0] rfl (lw_tvn 1 rfl (wp_seq (wp_plain _ [3,0] rfl ?_))))
 obtain ⟨BG,hBG⟩:∃ b:Nat,b = w.heap.size:=⟨_,rfl⟩
 have hwG:w.heap.size≤BG:=by omega
 refine r_nil rV good_rV u132 ti32 zN fun v1 w1 hX1 hz1 hO1=>?_
 have hzs1:w.heap.size≤w1.heap.size:=hX1.size
 have hE1:Ext w w1:=hE0.trans hX1
 obtain ⟨us1,F1,hb1⟩:=BldG.nil (E:=rdMx (rdL rI)) (S:=[]) (by rw [← hBG] at hO1; exact hO1)
 refine lw_tvn 1 rfl (wp_seq (wp_seq (wp_plain _ [0,0,0] rfl (lw_tv 1 rfl (q_len (v:=vx) u132 rfl hX.slL zN (lw_tvn 1 rfl (wp_block (c_loop (S:=Nat × Value) (fun (⟨k,vo⟩:Nat × Value)=>([(3,vo),(9,(.int .i64 ((k :Nat):Int))),(7,vx),(8,(.int .i64 ((X.length :Nat):Int)))]:List (Nat × Value))) (fun (⟨k,vo⟩:Nat × Value) (W:World)=>Ext w W∧k≤X.length∧w.heap.size≤BG∧BG≤W.heap.size∧(∃ us F,BldG (rdMx (rdL rI)) 32 [] BG W.heap vo (woS (X.take k)) us F)) (fun (⟨k,vo⟩:Nat × Value)=>X.length - k) (0,v1) ⟨rfl,rfl,rfl,rfl,trivial⟩ ⟨hE1,oM,oM,oM,(by exact ⟨_,_,by assumption⟩)⟩ ?_))))))))
 clear hE0 hO1 hz1 hX1 hzs1 hE1
 rintro ⟨k,vo⟩ ρ2 w2 ⟨hE2,hp2_0,hp2_1,hp2_2,hbldg⟩
 have hzs2:w.heap.size≤w2.heap.size:=hE2.size
 have hwol:(woS (X.take k)).length = k:=by unfold woS; rw [List.length_map,List.length_take]; omega
 obtain ⟨us3,F3,hbg3⟩:=hbldg
 have hFlg:∀ b∈F3,b < w2.heap.size:=hbg3.lt
 refine wp_seq (wp_plain _ [0] rfl ?_)
 by_cases hc4:((k :Nat):Int) < ((X.length :Nat):Int)
 ·
  refine q_lss true rfl rfl (decide_eq_true hc4) zN (lw_nil (wp_seq (c_cond_t rfl (wp_skip (wp_seq (wp_block (wp_seq (wp_plain _ [0,2,0] rfl ?_))))))))
  have hxk:=hx k oM
  refine q_idx (v:=vx) k u132 ti32 rfl rfl hX.slL rfl sD zN ?_
  obtain ⟨ue5,hl5,hm5⟩:=RN.getL (w:=w) gM [] (k:=k) hX sD
  obtain ⟨hr5,hcp5⟩:=hm5.of2
  have hln5:=hr5.lenL
  unfold maxLen at hln5
  refine q_load (p:=eptr vx k 1) (.inr rfl) ue5 one32 rfl (hl5 _ (Chg.of_ext [] hE2)) zN (lw_tvn 1 rfl (wp_plain _ [0,0,0,3,4,0] rfl (lw_tv 2 rfl (q_suf (v:=ue5) u32 ti27 rfl hr5.slL hcp5 rfl sD zN ?_))))
  have hsf6:=hr5.suf g1 sD hcp5
  refine r_one (u:=(sufV ue5)) (B:=w2.heap.size) good_rV u132 ti32 rfl rfl (frV w2.heap.size w2.heap.size _ (hsf6.one1 g2)) (Nat.le_refl _) zN fun v7 w7 hX7 hz7 hO7=>?_
  have hzs7:w2.heap.size≤w7.heap.size:=hX7.size
  have hE7:Ext w w7:=hE2.trans hX7
  have hN8:=hbg3.ext gM hX7
  refine e_appBG gM (v:=vo) (a:=v7) (u:=(sufV ue5)) u132 ti32 rfl rfl rfl hN8 oM hO7 (RN.mk2 (RN.stp g2 hsf6 (Chg.of_ext [] hE7) (fun b hb=>.inr (by have:=hN8.low b (by simpa using hb); omega))) (sufV_cap hcp5)) sD (by unfold maxLen; first | omega | assumption | (simp; done) | (simp; omega)) zN ?_
  rintro v9 w9 G9 hC9 hF9 ⟨us9,F9,hb9⟩
  have hzs9:w7.heap.size≤w9.heap.size:=hC9.size
  have hE9:Ext w w9:=hC9.below hE7 (fun c hc=>Nat.le_trans hwG (hN8.low c (hF9 c hc))) hE7.size
  exact lw_tvn 1 rfl (wp_plain _ [0,0] rfl (q_add ((k + 1 :Nat):Int) rfl rfl (w64n oM sD) zN (lw_tvn 1 rfl ⟨((k + 1),v9),_,rfl,⟨rfl,rfl,rfl,rfl,trivial⟩,⟨hE9,oM,oM,oM,(by rw [woS_succ oM]; exact ⟨_,_,by assumption⟩)⟩,by first | omega | (dsimp only; omega)⟩)))
 ·
  exact q_lss false rfl rfl (decide_eq_false hc4) zN (lw_nil (wp_seq (c_cond_f rfl (wp_exit (t_exit (t_exit (c_exit_here (wp_seq (wp_plain _ [0,0] rfl (lw_tvn 2 rfl (wp_ret (post_ret [2] rfl vo rfl ⟨_,rfl,hE2,(by have h9:=(hbg3.done (fun b hb=>absurd hb List.not_mem_nil)); rw [List.take_of_length_le oM] at h9; exact h9),hbg3.cap⟩))))))))))))
end Go.Proofs.YtnokbaiemimhjaaGreat
namespace Go.Proofs.YtnokbaiemimhjaaGreat
open Go Go.RowKit
set_option linter.unusedVariables false
set_option linter.unusedSimpArgs false
set_option maxHeartbeats 4000000
set_option maxRecDepth 100000
attribute [local irreducible] LW
theorem z128_0 {p:Prop} (h:p:=by unfold maxLen; first | omega | assumption | (simp only [List.length_nil,List.length_cons,List.length_append,List.length_set,List.length_replicate]; omega) | (simp [List.length_nil,List.length_cons,List.length_append,List.length_set,List.length_replicate]; done) | (simp [List.length_nil,List.length_cons,List.length_append,List.length_set,List.length_replicate]; omega)):p:=h
theorem z128_1 {p:Prop} (h:p:=by rw [slS_succ]; exact ⟨_,_,by assumption⟩):p:=h
theorem z128_2 {p:Prop} (h:p:=by intro q hq; rw [regs_len]; exact hOu q hq):p:=h
theorem z128_3 {p:Prop} (h:p:=by show (0:Int)≤0∧(0:Int)≤9; omega):p:=h
theorem z128_4 {p:Prop} (h:p:=by rw [fstS_len]; exact hl):p:=h
theorem z128_5 {p:Prop} (h:p:=by exact hTI.form):p:=h
theorem z128_6 {p:Prop} (h:p:=by assumption):p:=h
theorem c_impl_Program_linear (w:World) (dp:Nat) (vp:Value) (p:List Fn) (f:Int) (m:Nat) (vA:Value) (A:List (List Int)) (hp:RP [] dp w.heap vp p) (_hf:-9223372036854775808≤f∧f≤9223372036854775807) (hA:RN [] (rdL (rdL rI)) w.heap vA A) (hqA:CapS vA) (hok:okP p = true) (hz:SzP p) (hf:0≤f∧f < ((p.length :Nat):Int)) (hl:((A.length :Nat):Int) = (p.getD f.toNat Fn.zero).params) (hm:1≤m∧m≤13) (hsA:SrE m A) (hA0:0 < A.length) :
  Calls Tryz.prog 128 #[(.agg #[vp]),.int .i64 f,vA] w (fun e w'=>∃ (v0 v1:Value) (c:Int),e = .returned (.tuple #[v0,v1,.int .i64 c])∧Ext w w'∧c = evD p m f.toNat A∧(0≤c∧c≤9)∧(c = 0→RN [] (rdL (rdL rI)) w'.heap v0 (evR p m f.toNat A)∧CapS v0∧∃ T xs s1,RelV (recR p f.toNat (fstS A)) (xs,T) s1 0∧xs.length = (p.getD f.toNat Fn.zero).outs.length∧RN [] (rdL (rdMx (rdL rI))) w'.heap v1 (slS m T xs A xs.length)∧CapS v1)):=by
 refine calls_mk [(.agg #[vp]),.int .i64 f,vA] 63 Tryz.func128 rfl rfl sM ?_
 have hE0:Ext w w:=Ext.refl w
 have hl_vp:=hp.lenle
 unfold maxLen at hl_vp
 have hl_vA:=hA.lenL
 unfold maxLen at hl_vA
 have hA9:=(hsA 0 hA0).1
 have hvp:=okP_vpr hok
 have hpr:=hvp.par f.toNat oM
 have hou:=hvp.outs f.toNat oM
 have hA1:∀ k,k < A.length→0 < (A.getD k []).length:=fun k hk=>by have:=(hsA k hk).1; omega
 have hfn:A.map (fun s=>s.getD 0 0) = fstS A:=rfl
 refine wp_seq (wp_plain _ [3,0,0,0] rfl (r_boxA (cs:=#[vp]) rfl zN fun w1 hX1 hz1 hB1=>?_))
 have hzs1:w.heap.size≤w1.heap.size:=hX1.size
 have hE1:Ext w w1:=hE0.trans hX1
 replace hB1:BX w1.heap w.heap.size [vp]:=hB1
 refine lw_tvn 3 rfl (wp_seq ?_)
 letI:JR:=jrC []
 refine Jx.wp_drawS _ [1,0,0,3,3,0,0,0,3,4,0] [0,1,2] 3 4 [5,6,7,8,9,10] 8 [4,5,6,7,9,10] 8 [3,4,5,6,7,9,10] [_,_,_] [1,0,0] _ _ [_,_,_,_,_,_] [0,0,0,3,4,0] _ [_,_,_,_,_,_] [3,0,0,0,4,0] _ [_,_,_,_,_,_,_] [3,3,0,0,0,4,0] mixed (by kernel_rfl) ⟨rfl,rfl,⟨rfl,rfl,⟨rfl,rfl,trivial⟩⟩⟩ ⟨rfl,rfl,trivial⟩ ⟨rfl,rfl,⟨rfl,rfl,⟨rfl,rfl,⟨rfl,rfl,⟨rfl,rfl,⟨rfl,rfl,⟨rfl,rfl,trivial⟩⟩⟩⟩⟩⟩⟩ ⟨rfl,rfl,⟨rfl,rfl,⟨rfl,rfl,⟨rfl,rfl,⟨rfl,rfl,⟨rfl,rfl,⟨rfl,rfl,trivial⟩⟩⟩⟩⟩⟩⟩ ⟨rfl,rfl,⟨rfl,rfl,⟨rfl,rfl,⟨rfl,rfl,⟨rfl,rfl,⟨rfl,rfl,⟨rfl,rfl,⟨rfl,rfl,trivial⟩⟩⟩⟩⟩⟩⟩⟩ (Jx.q_loadAJ (p:=(.pointer (some ⟨w.heap.size,0,none⟩))) [vp] agg26 rfl (fun wj hj=>LD.of_box (BX.ext (w:=w1.drew) hB1 (Chg.ext0 hj))) rfl zN (Jx.q_move (.int .i64 f) rfl zN ?_))
 refine Jx.q_move vA rfl zN (Jx.lw_nil ⟨?_,?_⟩)
 ·
  refine Jx.tail rfl (lw_call 99 [] [] [vA] rfl rfl cf99 zN (c_impl_firsts _ _ _ ((hA.ext g2 hE1.drew)).rd oM (by exact hA1)) ?_)
  rintro e2 w2 ⟨v2_0,rfl,hX2,hO2_0⟩
  refine ⟨_,rfl,hX2,?_⟩
  replace hX2:=hX2.of_drew
  have hzs2:w1.heap.size≤w2.heap.size:=hX2.size
  have hE2:Ext w w2:=hE1.trans hX2
  have hB1x2:=hB1.ext hX2
  replace hO2_0:=hO2_0.low (B':=w1.heap.size) (Nat.le_refl _)
  refine lw_nil ⟨?_,?_⟩
  ·
   refine Jx.tail rfl (lw_call 179 [] [] [(.agg #[vp]),(.int .i64 f),v2_0] rfl rfl cf179 zN (c_impl_Record _ dp vp (p) (f) v2_0 (A.map (fun s=>s.getD 0 0)) (hp.ext (good_rdS (good_rFn dp)) hE2) _hf (RN.of_fr1 hO2_0 (fun b hb=>absurd hb List.not_mem_nil)) (by exact hok) (by exact hz) oM (by rw [List.length_map]; exact hl) (by exact fstS_num hsA)) ?_)
   rintro e3 w3 ⟨i3,va3,vb3,vc3,xs3,T3,s3,c3,rfl,hX3,hrl3,hcb3,hoc3,hib3,hrk3⟩
   refine ⟨_,rfl,hX3,?_⟩
   have hzs3:w2.heap.size≤w3.heap.size:=hX3.size
   have hE3:Ext w w3:=hE2.trans hX3
   have hB1x3:=hB1x2.ext hX3
   have hO2_0x3:=hO2_0.ext (o1) hX3
   have hvc3:evD p m f.toNat A = c3:=rec_code hm.1 hvp oM (fstS_num hsA) (fstS_path hsA) z128_4 hrl3
   have hKm3:=Ext.refl w3
   refine lw_tv 1 rfl (q_extract (vs:=[(.agg #[(.int .i64 i3),va3,vb3,vc3]),(.int .i64 c3)]) (.agg #[(.int .i64 i3),va3,vb3,vc3]) rfl rfl zN (q_extract (vs:=[(.agg #[(.int .i64 i3),va3,vb3,vc3]),(.int .i64 c3)]) (.int .i64 c3) rfl rfl zN ?_))
   have hq5:=hB1x3.lt
   refine r_allocA (z:=.agg #[.int .i64 0,.slice none 0 0,.slice none 0 0,.slice none 0 0]) zr199 zN fun w4 hX4 hz4 hB4=>?_
   have hzs4:w3.heap.size≤w4.heap.size:=hX4.size
   have hE4:Ext w w4:=hE3.trans hX4
   have hK4:=hKm3.trans hX4
   have hB1x4:=hB1x3.ext hX4
   have hO2_0x4:=hO2_0x3.ext (o1) hX4
   replace hB4:BX w4.heap w3.heap.size [(.int .i64 0),(.slice none 0 0),(.slice none 0 0),(.slice none 0 0)]:=hB4
   refine e_setA (vs:=[(.int .i64 i3),va3,vb3,vc3]) agg199 rfl rfl (fun u hu=>by rcases List.mem_cons.1 hu with rfl | hu; exact ⟨rfl,rfl⟩; exact hoc3 u hu) hB4 rfl rfl zN fun w6 hC6 hz6 hB6=>?_
   replace hB6:BX w6.heap w3.heap.size [(.int .i64 i3),va3,vb3,vc3]:=hB6
   have hE6:Ext w w6:=hC6.below hE4 (fun c hc=>by have:=List.mem_singleton.1 hc; omega) hE4.size
   have hzs6:w4.heap.size≤w6.heap.size:=hC6.size
   have hF7:=hB1x4.chg hC6 (fun hm=>by have:=List.mem_singleton.1 hm; omega)
   have hF8:=hO2_0x4.chg (o1) hC6 (fun c hc=>by have:=List.mem_singleton.1 hc; omega)
   have hCm6:Chg [w3.heap.size] w3 w6:=(Chg.of_ext _ hK4).trans hC6
   refine lw_tvn 1 rfl (wp_seq (wp_seq (wp_plain _ [0,0] rfl (lw_tv 1 rfl ?_))))
   by_cases hc9:c3≠((0 :Nat):Int)
   ·
    exact q_neq true rfl rfl (decide_eq_true hc9) zN (lw_nil (c_cond_t rfl (wp_seq (wp_plain _ [0,0,0,0] rfl (lw_tvn 4 rfl (wp_ret (t_ret (post_ret [6,7,8] rfl (.tuple #[(.slice none 0 0),(.slice none 0 0),(.int .i64 c3)]) rfl ⟨_,_,_,rfl,hE6,oM,oM,(fun h9=>absurd h9 oM)⟩))))))))
   ·
    refine q_neq false rfl rfl (decide_eq_false hc9) zN (lw_nil (c_cond_f rfl (wp_skip (wp_seq (wp_draw _ [1,0,0,3,3,0,0,0,0,0] mixed (by kernel_rfl) ?_)))))
    have hc00:c3 = 0:=by omega
    obtain ⟨hi0,hTB,hs1,hxl,hEn,hq1,hq2,hq3⟩:=hrk3 hc00
    obtain ⟨hTI,hEv⟩:=rec_vals hm.1 hvp oM (fstS_num hsA) (fstS_path hsA) z128_4 hrl3 hc00
    have hnz:=hTI.nz
    have hcl:=hTI.cl
    have hrl0:=hrl3
    rw [hc00] at hrl0
    have hTl:T3.code.length≤4000:=by have:=hTB.2.1; omega
    have hrt1:RT w6.heap.size (rdS 4 rIn) w6.heap va3 T3.code:=RN.rt (good_rdS good_rIn) (RN.chg (good_rdS good_rIn) (RG.rnG (g:=w3.heap.size) (good_rdS good_rIn) hq1 oM) hCm6)
    have hrt2:RT w6.heap.size (rdS 2 rGd) w6.heap vb3 T3.grd:=RN.rt (good_rdS good_rGd) (RN.chg (good_rdS good_rGd) (RG.rnG (g:=w3.heap.size) (good_rdS good_rGd) hq2 oM) hCm6)
    have hrt3:RT w6.heap.size (rdL rI) w6.heap vc3 xs3:=RN.rt g1 (RN.chg g1 (RG.rnG (g:=w3.heap.size) g1 hq3 oM) hCm6)
    have hoo:=oOf_mH hm.1 hA0 hsA
    have hom:((oOf A :Nat):Int).toNat + 1 = m:=by omega
    have hSR:=hTI.regs
    have hT0:0 < T3.code.length:=by have:=hTI.outs hEn 0 oM; omega
    have hOu:=hTI.outs hEn
    have hAd:=fun ws=>hTI.adj (ws:=ws) hEn
    refine q_loadA (p:=(.pointer (some ⟨w3.heap.size,0,none⟩))) (.inl rfl) [(.int .i64 i3),va3,vb3,vc3] agg199 rfl (fun wq9 hw9=>LD.of_box (BX.ext (w:=w6.drew) hB6 hw9)) rfl zN (lw_tv 2 rfl (lw_call 87 [] [] [vA] rfl rfl cf87 zN (c_impl_orderOf _ vA (A) (hA.ext g2 hE6.drew) hqA (by exact fun h=>hA1 0 h)) ?_))
    rintro e10 w10 ⟨rfl,hX10⟩
    refine ⟨_,rfl,hX10,?_⟩
    replace hX10:=hX10.of_drew
    have hzs10:w6.heap.size≤w10.heap.size:=hX10.size
    have hE10:Ext w w10:=hE6.trans hX10
    have hF7x10:=hF7.ext hX10
    have hF8x10:=hF8.ext (o1) hX10
    have hB6x10:=hB6.ext hX10
    have hN11:=hrt1.ext (good_rdS good_rIn) hX10
    have hN12:=hrt2.ext (good_rdS good_rGd) hX10
    have hN13:=hrt3.ext g1 hX10
    refine lw_call 180 [] [] [(.agg #[(.int .i64 i3),va3,vb3,vc3]),vA,(.int .i64 ((oOf A :Nat):Int))] rfl rfl cf180 zN (c_impl_Tape_registers _ (i3) va3 vb3 vc3 (T3) (xs3) vA (A) (((oOf A :Nat):Int)) hib3 hN11.rn hN12.rn hN13.rn (hA.ext g2 hE10) hqA (by unfold oOf; omega) oM (by rw [hom]; exact hsA) z128_5 (by exact hTl)) ?_
    rintro e14 w14 ⟨v14,c14,rfl,hX14,hrc14,hrv14⟩
    refine ⟨_,rfl,hX14,?_⟩
    have hzs14:w10.heap.size≤w14.heap.size:=hX14.size
    have hE14:Ext w w14:=hE10.trans hX14
    have hF7x14:=hF7x10.ext hX14
    have hF8x14:=hF8x10.ext (o1) hX14
    have hB6x14:=hB6x10.ext hX14
    have hN15:=hN11.ext (good_rdS good_rIn) hX14
    have hN16:=hN12.ext (good_rdS good_rGd) hX14
    have hN17:=hN13.ext g1 hX14
    have hcg14:c14 = 0∨c14 = 6:=by unfold regC at hrc14; omega
    have hcz:c14 = 0:=by rcases hrc14 with h9 | h9; exact h9.1; (have h8:=h9.2; rw [hom] at h8; exact absurd hnz h8)
    obtain ⟨hrv0,hrvc⟩:=hrv14 hcz
    rw [hom] at hrv0
    have hrvt:=hrv0.rt g2
    refine lw_tv 1 rfl (q_extract (vs:=[v14,(.int .i64 c14)]) v14 rfl rfl zN (q_extract (vs:=[v14,(.int .i64 c14)]) (.int .i64 c14) rfl rfl zN (lw_tvn 2 rfl (wp_seq (wp_seq (wp_plain _ [0,0] rfl (lw_tv 1 rfl ?_)))))))
    by_cases hc18:c14≠((0 :Nat):Int)
    ·
     exact absurd hc18 oM
    ·
     refine q_neq false rfl rfl (decide_eq_false hc18) zN (lw_nil (c_cond_f rfl (wp_skip (wp_seq (wp_plain _ [3,0] rfl ?_)))))
     obtain ⟨BG,hBG⟩:∃ b:Nat,b = w14.heap.size:=⟨_,rfl⟩
     have hwG:w.heap.size≤BG:=by omega
     have hbT20:w6.heap.size≤BG:=by omega
     have hbT21:w14.heap.size≤BG:=by omega
     have hb22:w.heap.size < BG:=by have:=BX.lt hF7x14; omega
     have hb23:w3.heap.size < BG:=by have:=BX.lt hB6x14; omega
     refine r_nil rV good_rV u132 ti32 zN fun v19 w19 hX19 hz19 hO19=>?_
     have hzs19:w14.heap.size≤w19.heap.size:=hX19.size
     have hE19:Ext w w19:=hE14.trans hX19
     have hF7x19:=hF7x14.ext hX19
     have hF8x19:=hF8x14.ext (o1) hX19
     have hB6x19:=hB6x14.ext hX19
     have hN24:=hN15.ext (good_rdS good_rIn) hX19
     have hN25:=hN16.ext (good_rdS good_rGd) hX19
     have hN26:=hN17.ext g1 hX19
     have hN27:=hrvt.ext g2 hX19
     obtain ⟨us19,F19,hb19⟩:=BldG.nil (E:=rdMx (rdL rI)) (S:=[]) (by rw [← hBG] at hO19; exact hO19)
     refine lw_tvn 1 rfl (wp_seq (wp_seq (wp_plain _ [0,2,0,0] rfl (q_fldP (p:=(.pointer (some ⟨w3.heap.size,0,none⟩))) (b:=w3.heap.size) (o:=0) 3 fd199_3 rfl rfl zN (q_load (p:=(padd (.pointer (some ⟨w3.heap.size,0,none⟩)) 3)) (.inr rfl) vc3 one27 rfl (hB6x19.ldp (i:=3) sM) zN (q_len (v:=vc3) u27 rfl hN26.slL zN (lw_tvn 1 rfl (wp_block ?_))))))))
     refine c_loop (S:=Nat × Value) (fun (⟨k,vo⟩:Nat × Value)=>([(12,vo),(40,(.int .i64 ((k :Nat):Int))),(9,(.pointer (some ⟨w3.heap.size,0,none⟩))),(11,v14),(39,(.int .i64 ((xs3.length :Nat):Int)))]:List (Nat × Value))) (fun (⟨k,vo⟩:Nat × Value) (W:World)=>Ext w W∧BX W.heap w3.heap.size [(.int .i64 i3),va3,vb3,vc3]∧k≤xs3.length∧w.heap.size≤BG∧BG≤W.heap.size∧(∃ us F,BldG (rdMx (rdL rI)) 32 [] BG W.heap vo (slS m T3 xs3 A k) us F)∧RT w6.heap.size (rdS 4 rIn) W.heap va3 T3.code∧RT w6.heap.size (rdS 2 rGd) W.heap vb3 T3.grd∧RT w6.heap.size (rdL rI) W.heap vc3 xs3∧w6.heap.size≤W.heap.size∧RT w14.heap.size (rdL (rdL rI)) W.heap v14 (regs m A T3.code)∧w14.heap.size≤W.heap.size) (fun (⟨k,vo⟩:Nat × Value)=>xs3.length - k) (0,v19) ⟨rfl,rfl,rfl,rfl,rfl,trivial⟩ ⟨hE19,hB6x19,oM,oM,oM,(by exact ⟨_,_,by assumption⟩),z128_6,z128_6,z128_6,oM,z128_6,oM⟩ ?_
     clear hE0 hz1 hX1 hzs1 hE1 hO2_0 hX2 hzs2 hE2 hX3 hzs3 hE3 hO2_0x3 hz4 hX4 hzs4 hE4 hO2_0x4 hz6 hC6 hE6 hzs6 hF7 hF8 hX10 hzs10 hE10 hF7x10 hF8x10 hX14 hzs14 hE14 hF7x14 hF8x14 hO19 hz19 hX19 hzs19 hE19 hF7x19 hF8x19
     rintro ⟨k,vo⟩ ρ30 w30 ⟨hE30,hL30_0,hp30_0,hp30_1,hp30_2,hbldg,hta,htb,htc,hNR,hrk28,hkB29⟩
     have hzs30:w.heap.size≤w30.heap.size:=hE30.size
     have hq31:=hL30_0.lt
     obtain ⟨us32,F32,hbg32⟩:=hbldg
     have hFlg:∀ b∈F32,b < w30.heap.size:=hbg32.lt
     refine wp_seq (wp_plain _ [0] rfl ?_)
     by_cases hc33:((k :Nat):Int) < ((xs3.length :Nat):Int)
     ·
      refine q_lss true rfl rfl (decide_eq_true hc33) zN (lw_nil (wp_seq (c_cond_t rfl (wp_skip (wp_seq (wp_block (wp_seq (wp_plain _ [0,0] rfl (lw_tvn 2 rfl (wp_draw _ [0,1,1,0,0,1,0,0,3,3,3,3,3,4,0] mixed (by kernel_rfl) (lw_tv 1 rfl (q_loadA (p:=(.pointer (some ⟨w3.heap.size,0,none⟩))) (.inl rfl) [(.int .i64 i3),va3,vb3,vc3] agg199 rfl (fun wq9 hw9=>LD.of_box (BX.ext (w:=w30.drew) hL30_0 hw9)) rfl zN (q_loadA (p:=(.pointer (some ⟨w3.heap.size,0,none⟩))) (.inl rfl) [(.int .i64 i3),va3,vb3,vc3] agg199 rfl (fun wq9 hw9=>LD.of_box (BX.ext (w:=w30.drew) hL30_0 hw9)) rfl zN (lw_tv 1 rfl (q_fldP (p:=(.pointer (some ⟨w3.heap.size,0,none⟩))) (b:=w3.heap.size) (o:=0) 3 fd199_3 rfl rfl zN ?_)))))))))))))))
      refine q_load (p:=(padd (.pointer (some ⟨w3.heap.size,0,none⟩)) 3)) (.inl rfl) vc3 one27 rfl (hL30_0.ldp (i:=3) sM) zN (q_len (v:=vc3) u27 rfl htc.slL zN (lw_tv 1 rfl (r_one (u:=(.int .i64 ((k :Nat):Int))) (B:=w30.heap.size) good_rI u27 ti2 rfl rfl (frI w30.heap.size w30.heap.size _ _ oM) (Nat.le_refl _) zN fun v34 w34 hX34 hz34 hO34=>?_)))
      replace hX34:=hX34.of_drew
      have hzs34:w30.heap.size≤w34.heap.size:=hX34.size
      have hE34:Ext w w34:=hE30.trans hX34
      have hL30_0x34:=hL30_0.ext hX34
      have hN35:=hrk28.ext g2 hX34
      have hN36:=hta.ext (good_rdS good_rIn) hX34
      have hN37:=htb.ext (good_rdS good_rGd) hX34
      have hN38:=htc.ext g1 hX34
      have hN39:=hbg32.ext gM hX34
      refine lw_call 77 [] [] [(.int .i64 ((xs3.length :Nat):Int)),v34] rfl rfl cf77 zN (c_unitG _ (xs3.length) _ _ sD hO34.rd1 oM (by intro j hj; rw [List.length_singleton] at hj; obtain rfl:j = 0:=oM; exact ⟨Int.natCast_nonneg k,(by show ((k :Nat):Int) < _; omega)⟩)) ?_
      rintro e40 w40 ⟨v40_0,rfl,hX40,hO40_0⟩
      refine ⟨_,rfl,hX40,?_⟩
      have hzs40:w34.heap.size≤w40.heap.size:=hX40.size
      have hE40:Ext w w40:=hE34.trans hX40
      have hL30_0x40:=hL30_0x34.ext hX40
      have hO34x40:=hO34.ext (o1) hX40
      have hN41:=hN35.ext g2 hX40
      have hN42:=hN36.ext (good_rdS good_rIn) hX40
      have hN43:=hN37.ext (good_rdS good_rGd) hX40
      have hN44:=hN38.ext g1 hX40
      have hN45:=hN39.ext gM hX40
      refine lw_call 182 [] [] [(.agg #[(.int .i64 i3),va3,vb3,vc3]),v14,v40_0] rfl rfl cf182 zN (c_impl_Tape_adjoints _ m A.length [] (i3) va3 vb3 vc3 (T3) (xs3) v14 (regs m A T3.code) v40_0 (uniG xs3.length ([((k :Nat):Int)]) ([((k :Nat):Int)]).length) (fun b hb=>absurd hb List.not_mem_nil) hib3 hN42.rn hN43.rn hN44.rn hN41.rn hrvc hO40_0.rd1 (by exact hm) (by exact hSR) (by rw [regs_len]) (by exact hTl) (by rw [uniG_len]; omega) (by exact hOu) (by exact uniG_num _ _ _) z128_5) ?_
      rintro e46 w46 ⟨v46,rfl,hX46,hr46,hcp46⟩
      refine ⟨_,rfl,hX46,?_⟩
      have hzs46:w40.heap.size≤w46.heap.size:=hX46.size
      have hE46:Ext w w46:=hE40.trans hX46
      have hL30_0x46:=hL30_0x40.ext hX46
      have hO34x46:=hO34x40.ext (o1) hX46
      have hO40_0x46:=hO40_0.ext (o1) hX46
      have hN47:=hN41.ext g2 hX46
      have hN48:=hN42.ext (good_rdS good_rIn) hX46
      have hN49:=hN43.ext (good_rdS good_rGd) hX46
      have hN50:=hN44.ext g1 hX46
      have hN51:=hN45.ext gM hX46
      refine lw_call 181 [] [] [(.agg #[(.int .i64 i3),va3,vb3,vc3]),v46] rfl rfl cf181 zN (c_impl_Tape_byInputs _ m A.length F32 (i3) va3 vb3 vc3 (T3) (xs3) v46 (adjS T3.code (regs m A T3.code) xs3 (uniG xs3.length [((k :Nat):Int)] 1)) (fun b hb=>(by have:=hFlg b hb; omega:b < w46.heap.size)) hib3 hN48.rn hN49.rn hN50.rn hr46 hcp46 (by exact hm) oM (by exact hAd _) (by rw [adjS_len,regs_len]; omega) (by exact hTl) z128_5) ?_
      rintro e52 w52 ⟨v52,rfl,hX52,hr52,hcp52⟩
      refine ⟨_,rfl,hX52,?_⟩
      have hzs52:w46.heap.size≤w52.heap.size:=hX52.size
      have hE52:Ext w w52:=hE46.trans hX52
      have hL30_0x52:=hL30_0x46.ext hX52
      have hO34x52:=hO34x46.ext (o1) hX52
      have hO40_0x52:=hO40_0x46.ext (o1) hX52
      have hN53:=hN47.ext g2 hX52
      have hN54:=hN48.ext (good_rdS good_rIn) hX52
      have hN55:=hN49.ext (good_rdS good_rGd) hX52
      have hN56:=hN50.ext g1 hX52
      have hN57:=hr46.ext g2 hX52
      have hN58:=hN51.ext gM hX52
      refine r_one (u:=v52) (B:=w52.heap.size) good_rV u132 ti32 rfl rfl (frV w52.heap.size w52.heap.size _ (hr52.one1 g2)) (Nat.le_refl _) zN fun v59 w59 hX59 hz59 hO59=>?_
      have hzs59:w52.heap.size≤w59.heap.size:=hX59.size
      have hE59:Ext w w59:=hE52.trans hX59
      have hL30_0x59:=hL30_0x52.ext hX59
      have hO34x59:=hO34x52.ext (o1) hX59
      have hO40_0x59:=hO40_0x52.ext (o1) hX59
      have hN60:=hN53.ext g2 hX59
      have hN61:=hN54.ext (good_rdS good_rIn) hX59
      have hN62:=hN55.ext (good_rdS good_rGd) hX59
      have hN63:=hN56.ext g1 hX59
      have hN64:=hN57.ext g2 hX59
      have hN65:=hr52.ext g2 hX59
      have hN66:=hN58.ext gM hX59
      refine e_appBG gM (v:=vo) (a:=v59) (u:=v52) u132 ti32 rfl rfl rfl hN66 oM hO59 (RN.mk2 (by rw [List.nil_append]; exact hN65) hcp52) sD z128_0 zN ?_
      rintro v67 w67 G67 hC67 hF67 ⟨us67,F67,hb67⟩
      have hzs67:w59.heap.size≤w67.heap.size:=hC67.size
      have hE67:Ext w w67:=hC67.below hE59 (fun c hc=>Nat.le_trans hwG (hN66.low c (hF67 c hc))) hE59.size
      have hF70:=hL30_0x59.chg hC67 (fun hm=>by have:=hN66.low _ (hF67 _ hm); omega)
      have hF71:=hN60.chg g2 hC67 (fun b hb=>by have:=hN66.low _ (hF67 _ hb); omega)
      have hF73:=hN61.chg (good_rdS good_rIn) hC67 (fun b hb=>by have:=hN66.low _ (hF67 _ hb); omega)
      have hF74:=hN62.chg (good_rdS good_rGd) hC67 (fun b hb=>by have:=hN66.low _ (hF67 _ hb); omega)
      have hF75:=hN63.chg g1 hC67 (fun b hb=>by have:=hN66.low _ (hF67 _ hb); omega)
      exact lw_tvn 1 rfl (wp_plain _ [0,0] rfl (q_add ((k + 1 :Nat):Int) rfl rfl (w64n oM sD) zN (lw_tvn 1 rfl ⟨((k + 1),v67),_,rfl,⟨rfl,rfl,rfl,rfl,rfl,trivial⟩,⟨hE67,hF70,oM,oM,oM,z128_1,z128_6,z128_6,z128_6,oM,z128_6,oM⟩,by first | omega | (dsimp only; omega)⟩)))
     ·
      refine q_lss false rfl rfl (decide_eq_false hc33) zN (lw_nil (wp_seq (c_cond_f rfl (wp_exit (t_exit (t_exit (c_exit_here (wp_seq (wp_plain _ [0,0,2,3,0,0,0,0] rfl ?_)))))))))
      have hfg81:=hbg32.done (fun b hb=>absurd hb List.not_mem_nil)
      have hfc81:=hbg32.cap
      refine lw_tv 1 rfl (q_fldP (p:=(.pointer (some ⟨w3.heap.size,0,none⟩))) (b:=w3.heap.size) (o:=0) 3 fd199_3 rfl rfl zN (q_load (p:=(padd (.pointer (some ⟨w3.heap.size,0,none⟩)) 3)) (.inr rfl) vc3 one27 rfl (hL30_0.ldp (i:=3) sM) zN (lw_call 183 [] [] [v14,vc3] rfl rfl cf183 zN (c_impl_picked___int64_ _ v14 (regs m A T3.code) vc3 (xs3) hrk28.rn hrvc htc.rd z128_2 oM) ?_)))
      rintro e82 w82 ⟨v82,rfl,hX82,hr82,hcp82⟩
      refine ⟨_,rfl,hX82,?_⟩
      have hzs82:w30.heap.size≤w82.heap.size:=hX82.size
      have hE82:Ext w w82:=hE30.trans hX82
      have hL30_0x82:=hL30_0.ext hX82
      have hN83:=hrk28.ext g2 hX82
      have hN84:=hfg81.ext gMM hX82
      have hN85:=hta.ext (good_rdS good_rIn) hX82
      have hN86:=htb.ext (good_rdS good_rGd) hX82
      have hN87:=htc.ext g1 hX82
      exact lw_tvn 4 rfl (wp_ret (post_ret [6,7,8] rfl (.tuple #[v82,vo,(.int .i64 ((0 :Nat):Int))]) rfl ⟨_,_,_,rfl,hE82,(by show (0:Int) = _; omega),z128_3,(fun _=>⟨(by rw [hEv]; exact hr82),hcp82,T3,xs3,s3,hrl0,hxl,(by have h9:=hN84; rw [show k = xs3.length from by omega] at h9; exact h9),hfc81⟩)⟩))
  ·
   refine Jx.tail rfl ?_
   have hq89:=hB1x2.lt
   refine r_allocA (z:=.agg #[.int .i64 0,.slice none 0 0,.slice none 0 0,.slice none 0 0]) zr199 zN fun w88 hX88 hz88 hB88=>?_
   have hzs88:w2.heap.size≤w88.heap.size:=hX88.size
   have hE88:Ext w w88:=hE2.trans hX88
   have hB1x88:=hB1x2.ext hX88
   have hO2_0x88:=hO2_0.ext (o1) hX88
   replace hB88:BX w88.heap w2.heap.size [(.int .i64 0),(.slice none 0 0),(.slice none 0 0),(.slice none 0 0)]:=hB88
   refine lw_call 179 [] [] [(.agg #[vp]),(.int .i64 f),v2_0] rfl rfl cf179 zN (c_impl_Record _ dp vp (p) (f) v2_0 (A.map (fun s=>s.getD 0 0)) (hp.ext (good_rdS (good_rFn dp)) hE88) _hf (RN.of_fr1 hO2_0x88 (fun b hb=>absurd hb List.not_mem_nil)) (by exact hok) (by exact hz) oM (by rw [List.length_map]; exact hl) (by exact fstS_num hsA)) ?_
   rintro e90 w90 ⟨i90,va90,vb90,vc90,xs90,T90,s90,c90,rfl,hX90,hrl90,hcb90,hoc90,hib90,hrk90⟩
   refine ⟨_,rfl,hX90,?_⟩
   have hzs90:w88.heap.size≤w90.heap.size:=hX90.size
   have hE90:Ext w w90:=hE88.trans hX90
   have hB1x90:=hB1x88.ext hX90
   have hO2_0x90:=hO2_0x88.ext (o1) hX90
   have hB88x90:=hB88.ext hX90
   have hvc90:evD p m f.toNat A = c90:=rec_code hm.1 hvp oM (fstS_num hsA) (fstS_path hsA) z128_4 hrl90
   have hKm90:=Ext.refl w90
   refine lw_tv 1 rfl (q_extract (vs:=[(.agg #[(.int .i64 i90),va90,vb90,vc90]),(.int .i64 c90)]) (.agg #[(.int .i64 i90),va90,vb90,vc90]) rfl rfl zN (q_extract (vs:=[(.agg #[(.int .i64 i90),va90,vb90,vc90]),(.int .i64 c90)]) (.int .i64 c90) rfl rfl zN (e_setA (vs:=[(.int .i64 i90),va90,vb90,vc90]) agg199 rfl rfl (fun u hu=>by rcases List.mem_cons.1 hu with rfl | hu; exact ⟨rfl,rfl⟩; exact hoc90 u hu) hB88x90 rfl rfl zN fun w91 hC91 hz91 hB91=>?_)))
   replace hB91:BX w91.heap w2.heap.size [(.int .i64 i90),va90,vb90,vc90]:=hB91
   have hE91:Ext w w91:=hC91.below hE90 (fun c hc=>by have:=List.mem_singleton.1 hc; omega) hE90.size
   have hzs91:w90.heap.size≤w91.heap.size:=hC91.size
   have hF92:=hB1x90.chg hC91 (fun hm=>by have:=List.mem_singleton.1 hm; omega)
   have hF93:=hO2_0x90.chg (o1) hC91 (fun c hc=>by have:=List.mem_singleton.1 hc; omega)
   have hCm91:Chg [w2.heap.size] w90 w91:=(Chg.of_ext _ hKm90).trans hC91
   refine lw_tvn 1 rfl (wp_seq (wp_seq (wp_plain _ [0,0] rfl (lw_tv 1 rfl ?_))))
   by_cases hc94:c90≠((0 :Nat):Int)
   ·
    exact q_neq true rfl rfl (decide_eq_true hc94) zN (lw_nil (c_cond_t rfl (wp_seq (wp_plain _ [0,0,0,0] rfl (lw_tvn 4 rfl (wp_ret (t_ret (post_ret [6,7,8] rfl (.tuple #[(.slice none 0 0),(.slice none 0 0),(.int .i64 c90)]) rfl ⟨_,_,_,rfl,hE91,oM,oM,(fun h9=>absurd h9 oM)⟩))))))))
   ·
    refine q_neq false rfl rfl (decide_eq_false hc94) zN (lw_nil (c_cond_f rfl (wp_skip (wp_seq (wp_draw _ [1,0,0,3,3,0,0,0,0,0] mixed (by kernel_rfl) ?_)))))
    have hc00:c90 = 0:=by omega
    obtain ⟨hi0,hTB,hs1,hxl,hEn,hq1,hq2,hq3⟩:=hrk90 hc00
    obtain ⟨hTI,hEv⟩:=rec_vals hm.1 hvp oM (fstS_num hsA) (fstS_path hsA) z128_4 hrl90 hc00
    have hnz:=hTI.nz
    have hcl:=hTI.cl
    have hrl0:=hrl90
    rw [hc00] at hrl0
    have hTl:T90.code.length≤4000:=by have:=hTB.2.1; omega
    have hrt1:RT w91.heap.size (rdS 4 rIn) w91.heap va90 T90.code:=RN.rt (good_rdS good_rIn) (RN.chg (good_rdS good_rIn) (RG.rnG (g:=w2.heap.size) (good_rdS good_rIn) hq1 oM) hCm91)
    have hrt2:RT w91.heap.size (rdS 2 rGd) w91.heap vb90 T90.grd:=RN.rt (good_rdS good_rGd) (RN.chg (good_rdS good_rGd) (RG.rnG (g:=w2.heap.size) (good_rdS good_rGd) hq2 oM) hCm91)
    have hrt3:RT w91.heap.size (rdL rI) w91.heap vc90 xs90:=RN.rt g1 (RN.chg g1 (RG.rnG (g:=w2.heap.size) g1 hq3 oM) hCm91)
    have hoo:=oOf_mH hm.1 hA0 hsA
    have hom:((oOf A :Nat):Int).toNat + 1 = m:=by omega
    have hSR:=hTI.regs
    have hT0:0 < T90.code.length:=by have:=hTI.outs hEn 0 oM; omega
    have hOu:=hTI.outs hEn
    have hAd:=fun ws=>hTI.adj (ws:=ws) hEn
    refine q_loadA (p:=(.pointer (some ⟨w2.heap.size,0,none⟩))) (.inl rfl) [(.int .i64 i90),va90,vb90,vc90] agg199 rfl (fun wq9 hw9=>LD.of_box (BX.ext (w:=w91.drew) hB91 hw9)) rfl zN (lw_tv 2 rfl (lw_call 87 [] [] [vA] rfl rfl cf87 zN (c_impl_orderOf _ vA (A) (hA.ext g2 hE91.drew) hqA (by exact fun h=>hA1 0 h)) ?_))
    rintro e95 w95 ⟨rfl,hX95⟩
    refine ⟨_,rfl,hX95,?_⟩
    replace hX95:=hX95.of_drew
    have hzs95:w91.heap.size≤w95.heap.size:=hX95.size
    have hE95:Ext w w95:=hE91.trans hX95
    have hF92x95:=hF92.ext hX95
    have hF93x95:=hF93.ext (o1) hX95
    have hB91x95:=hB91.ext hX95
    have hN96:=hrt1.ext (good_rdS good_rIn) hX95
    have hN97:=hrt2.ext (good_rdS good_rGd) hX95
    have hN98:=hrt3.ext g1 hX95
    refine lw_call 180 [] [] [(.agg #[(.int .i64 i90),va90,vb90,vc90]),vA,(.int .i64 ((oOf A :Nat):Int))] rfl rfl cf180 zN (c_impl_Tape_registers _ (i90) va90 vb90 vc90 (T90) (xs90) vA (A) (((oOf A :Nat):Int)) hib90 hN96.rn hN97.rn hN98.rn (hA.ext g2 hE95) hqA (by unfold oOf; omega) oM (by rw [hom]; exact hsA) z128_5 (by exact hTl)) ?_
    rintro e99 w99 ⟨v99,c99,rfl,hX99,hrc99,hrv99⟩
    refine ⟨_,rfl,hX99,?_⟩
    have hzs99:w95.heap.size≤w99.heap.size:=hX99.size
    have hE99:Ext w w99:=hE95.trans hX99
    have hF92x99:=hF92x95.ext hX99
    have hF93x99:=hF93x95.ext (o1) hX99
    have hB91x99:=hB91x95.ext hX99
    have hN100:=hN96.ext (good_rdS good_rIn) hX99
    have hN101:=hN97.ext (good_rdS good_rGd) hX99
    have hN102:=hN98.ext g1 hX99
    have hcg99:c99 = 0∨c99 = 6:=by unfold regC at hrc99; omega
    have hcz:c99 = 0:=by rcases hrc99 with h9 | h9; exact h9.1; (have h8:=h9.2; rw [hom] at h8; exact absurd hnz h8)
    obtain ⟨hrv0,hrvc⟩:=hrv99 hcz
    rw [hom] at hrv0
    have hrvt:=hrv0.rt g2
    refine lw_tv 1 rfl (q_extract (vs:=[v99,(.int .i64 c99)]) v99 rfl rfl zN (q_extract (vs:=[v99,(.int .i64 c99)]) (.int .i64 c99) rfl rfl zN (lw_tvn 2 rfl (wp_seq (wp_seq (wp_plain _ [0,0] rfl (lw_tv 1 rfl ?_)))))))
    by_cases hc103:c99≠((0 :Nat):Int)
    ·
     exact absurd hc103 oM
    ·
     refine q_neq false rfl rfl (decide_eq_false hc103) zN (lw_nil (c_cond_f rfl (wp_skip (wp_seq (wp_plain _ [3,0] rfl ?_)))))
     obtain ⟨BG,hBG⟩:∃ b:Nat,b = w99.heap.size:=⟨_,rfl⟩
     have hwG:w.heap.size≤BG:=by omega
     have hbT105:w91.heap.size≤BG:=by omega
     have hbT106:w99.heap.size≤BG:=by omega
     have hb107:w.heap.size < BG:=by have:=BX.lt hF92x99; omega
     have hb108:w2.heap.size < BG:=by have:=BX.lt hB91x99; omega
     refine r_nil rV good_rV u132 ti32 zN fun v104 w104 hX104 hz104 hO104=>?_
     have hzs104:w99.heap.size≤w104.heap.size:=hX104.size
     have hE104:Ext w w104:=hE99.trans hX104
     have hF92x104:=hF92x99.ext hX104
     have hF93x104:=hF93x99.ext (o1) hX104
     have hB91x104:=hB91x99.ext hX104
     have hN109:=hN100.ext (good_rdS good_rIn) hX104
     have hN110:=hN101.ext (good_rdS good_rGd) hX104
     have hN111:=hN102.ext g1 hX104
     have hN112:=hrvt.ext g2 hX104
     obtain ⟨us104,F104,hb104⟩:=BldG.nil (E:=rdMx (rdL rI)) (S:=[]) (by rw [← hBG] at hO104; exact hO104)
     refine lw_tvn 1 rfl (wp_seq (wp_seq (wp_plain _ [0,2,0,0] rfl (q_fldP (p:=(.pointer (some ⟨w2.heap.size,0,none⟩))) (b:=w2.heap.size) (o:=0) 3 fd199_3 rfl rfl zN (q_load (p:=(padd (.pointer (some ⟨w2.heap.size,0,none⟩)) 3)) (.inr rfl) vc90 one27 rfl (hB91x104.ldp (i:=3) sM) zN (q_len (v:=vc90) u27 rfl hN111.slL zN (lw_tvn 1 rfl (wp_block ?_))))))))
     refine c_loop (S:=Nat × Value) (fun (⟨k,vo⟩:Nat × Value)=>([(12,vo),(40,(.int .i64 ((k :Nat):Int))),(9,(.pointer (some ⟨w2.heap.size,0,none⟩))),(11,v99),(39,(.int .i64 ((xs90.length :Nat):Int)))]:List (Nat × Value))) (fun (⟨k,vo⟩:Nat × Value) (W:World)=>Ext w W∧BX W.heap w2.heap.size [(.int .i64 i90),va90,vb90,vc90]∧k≤xs90.length∧w.heap.size≤BG∧BG≤W.heap.size∧(∃ us F,BldG (rdMx (rdL rI)) 32 [] BG W.heap vo (slS m T90 xs90 A k) us F)∧RT w91.heap.size (rdS 4 rIn) W.heap va90 T90.code∧RT w91.heap.size (rdS 2 rGd) W.heap vb90 T90.grd∧RT w91.heap.size (rdL rI) W.heap vc90 xs90∧w91.heap.size≤W.heap.size∧RT w99.heap.size (rdL (rdL rI)) W.heap v99 (regs m A T90.code)∧w99.heap.size≤W.heap.size) (fun (⟨k,vo⟩:Nat × Value)=>xs90.length - k) (0,v104) ⟨rfl,rfl,rfl,rfl,rfl,trivial⟩ ⟨hE104,hB91x104,oM,oM,oM,(by exact ⟨_,_,by assumption⟩),z128_6,z128_6,z128_6,oM,z128_6,oM⟩ ?_
     clear hE0 hz1 hX1 hzs1 hE1 hO2_0 hX2 hzs2 hE2 hz88 hX88 hzs88 hE88 hO2_0x88 hX90 hzs90 hE90 hO2_0x90 hz91 hC91 hE91 hzs91 hF92 hF93 hX95 hzs95 hE95 hF92x95 hF93x95 hX99 hzs99 hE99 hF92x99 hF93x99 hO104 hz104 hX104 hzs104 hE104 hF92x104 hF93x104
     rintro ⟨k,vo⟩ ρ115 w115 ⟨hE115,hL115_0,hp115_0,hp115_1,hp115_2,hbldg,hta,htb,htc,hNR,hrk113,hkB114⟩
     have hzs115:w.heap.size≤w115.heap.size:=hE115.size
     have hq116:=hL115_0.lt
     obtain ⟨us117,F117,hbg117⟩:=hbldg
     have hFlg:∀ b∈F117,b < w115.heap.size:=hbg117.lt
     refine wp_seq (wp_plain _ [0] rfl ?_)
     by_cases hc118:((k :Nat):Int) < ((xs90.length :Nat):Int)
     ·
      refine q_lss true rfl rfl (decide_eq_true hc118) zN (lw_nil (wp_seq (c_cond_t rfl (wp_skip (wp_seq (wp_block (wp_seq (wp_plain _ [0,0] rfl (lw_tvn 2 rfl (wp_draw _ [0,1,1,0,0,1,0,0,3,3,3,3,3,4,0] mixed (by kernel_rfl) (lw_tv 1 rfl (q_loadA (p:=(.pointer (some ⟨w2.heap.size,0,none⟩))) (.inl rfl) [(.int .i64 i90),va90,vb90,vc90] agg199 rfl (fun wq9 hw9=>LD.of_box (BX.ext (w:=w115.drew) hL115_0 hw9)) rfl zN (q_loadA (p:=(.pointer (some ⟨w2.heap.size,0,none⟩))) (.inl rfl) [(.int .i64 i90),va90,vb90,vc90] agg199 rfl (fun wq9 hw9=>LD.of_box (BX.ext (w:=w115.drew) hL115_0 hw9)) rfl zN (lw_tv 1 rfl (q_fldP (p:=(.pointer (some ⟨w2.heap.size,0,none⟩))) (b:=w2.heap.size) (o:=0) 3 fd199_3 rfl rfl zN ?_)))))))))))))))
      refine q_load (p:=(padd (.pointer (some ⟨w2.heap.size,0,none⟩)) 3)) (.inl rfl) vc90 one27 rfl (hL115_0.ldp (i:=3) sM) zN (q_len (v:=vc90) u27 rfl htc.slL zN (lw_tv 1 rfl (r_one (u:=(.int .i64 ((k :Nat):Int))) (B:=w115.heap.size) good_rI u27 ti2 rfl rfl (frI w115.heap.size w115.heap.size _ _ oM) (Nat.le_refl _) zN fun v119 w119 hX119 hz119 hO119=>?_)))
      replace hX119:=hX119.of_drew
      have hzs119:w115.heap.size≤w119.heap.size:=hX119.size
      have hE119:Ext w w119:=hE115.trans hX119
      have hL115_0x119:=hL115_0.ext hX119
      have hN120:=hrk113.ext g2 hX119
      have hN121:=hta.ext (good_rdS good_rIn) hX119
      have hN122:=htb.ext (good_rdS good_rGd) hX119
      have hN123:=htc.ext g1 hX119
      have hN124:=hbg117.ext gM hX119
      refine lw_call 77 [] [] [(.int .i64 ((xs90.length :Nat):Int)),v119] rfl rfl cf77 zN (c_unitG _ (xs90.length) _ _ sD hO119.rd1 oM (by intro j hj; rw [List.length_singleton] at hj; obtain rfl:j = 0:=oM; exact ⟨Int.natCast_nonneg k,(by show ((k :Nat):Int) < _; omega)⟩)) ?_
      rintro e125 w125 ⟨v125_0,rfl,hX125,hO125_0⟩
      refine ⟨_,rfl,hX125,?_⟩
      have hzs125:w119.heap.size≤w125.heap.size:=hX125.size
      have hE125:Ext w w125:=hE119.trans hX125
      have hL115_0x125:=hL115_0x119.ext hX125
      have hO119x125:=hO119.ext (o1) hX125
      have hN126:=hN120.ext g2 hX125
      have hN127:=hN121.ext (good_rdS good_rIn) hX125
      have hN128:=hN122.ext (good_rdS good_rGd) hX125
      have hN129:=hN123.ext g1 hX125
      have hN130:=hN124.ext gM hX125
      refine lw_call 182 [] [] [(.agg #[(.int .i64 i90),va90,vb90,vc90]),v99,v125_0] rfl rfl cf182 zN (c_impl_Tape_adjoints _ m A.length [] (i90) va90 vb90 vc90 (T90) (xs90) v99 (regs m A T90.code) v125_0 (uniG xs90.length ([((k :Nat):Int)]) ([((k :Nat):Int)]).length) (fun b hb=>absurd hb List.not_mem_nil) hib90 hN127.rn hN128.rn hN129.rn hN126.rn hrvc hO125_0.rd1 (by exact hm) (by exact hSR) (by rw [regs_len]) (by exact hTl) (by rw [uniG_len]; omega) (by exact hOu) (by exact uniG_num _ _ _) z128_5) ?_
      rintro e131 w131 ⟨v131,rfl,hX131,hr131,hcp131⟩
      refine ⟨_,rfl,hX131,?_⟩
      have hzs131:w125.heap.size≤w131.heap.size:=hX131.size
      have hE131:Ext w w131:=hE125.trans hX131
      have hL115_0x131:=hL115_0x125.ext hX131
      have hO119x131:=hO119x125.ext (o1) hX131
      have hO125_0x131:=hO125_0.ext (o1) hX131
      have hN132:=hN126.ext g2 hX131
      have hN133:=hN127.ext (good_rdS good_rIn) hX131
      have hN134:=hN128.ext (good_rdS good_rGd) hX131
      have hN135:=hN129.ext g1 hX131
      have hN136:=hN130.ext gM hX131
      refine lw_call 181 [] [] [(.agg #[(.int .i64 i90),va90,vb90,vc90]),v131] rfl rfl cf181 zN (c_impl_Tape_byInputs _ m A.length F117 (i90) va90 vb90 vc90 (T90) (xs90) v131 (adjS T90.code (regs m A T90.code) xs90 (uniG xs90.length [((k :Nat):Int)] 1)) (fun b hb=>(by have:=hFlg b hb; omega:b < w131.heap.size)) hib90 hN133.rn hN134.rn hN135.rn hr131 hcp131 (by exact hm) oM (by exact hAd _) (by rw [adjS_len,regs_len]; omega) (by exact hTl) z128_5) ?_
      rintro e137 w137 ⟨v137,rfl,hX137,hr137,hcp137⟩
      refine ⟨_,rfl,hX137,?_⟩
      have hzs137:w131.heap.size≤w137.heap.size:=hX137.size
      have hE137:Ext w w137:=hE131.trans hX137
      have hL115_0x137:=hL115_0x131.ext hX137
      have hO119x137:=hO119x131.ext (o1) hX137
      have hO125_0x137:=hO125_0x131.ext (o1) hX137
      have hN138:=hN132.ext g2 hX137
      have hN139:=hN133.ext (good_rdS good_rIn) hX137
      have hN140:=hN134.ext (good_rdS good_rGd) hX137
      have hN141:=hN135.ext g1 hX137
      have hN142:=hr131.ext g2 hX137
      have hN143:=hN136.ext gM hX137
      refine r_one (u:=v137) (B:=w137.heap.size) good_rV u132 ti32 rfl rfl (frV w137.heap.size w137.heap.size _ (hr137.one1 g2)) (Nat.le_refl _) zN fun v144 w144 hX144 hz144 hO144=>?_
      have hzs144:w137.heap.size≤w144.heap.size:=hX144.size
      have hE144:Ext w w144:=hE137.trans hX144
      have hL115_0x144:=hL115_0x137.ext hX144
      have hO119x144:=hO119x137.ext (o1) hX144
      have hO125_0x144:=hO125_0x137.ext (o1) hX144
      have hN145:=hN138.ext g2 hX144
      have hN146:=hN139.ext (good_rdS good_rIn) hX144
      have hN147:=hN140.ext (good_rdS good_rGd) hX144
      have hN148:=hN141.ext g1 hX144
      have hN149:=hN142.ext g2 hX144
      have hN150:=hr137.ext g2 hX144
      have hN151:=hN143.ext gM hX144
      refine e_appBG gM (v:=vo) (a:=v144) (u:=v137) u132 ti32 rfl rfl rfl hN151 oM hO144 (RN.mk2 (by rw [List.nil_append]; exact hN150) hcp137) sD z128_0 zN ?_
      rintro v152 w152 G152 hC152 hF152 ⟨us152,F152,hb152⟩
      have hzs152:w144.heap.size≤w152.heap.size:=hC152.size
      have hE152:Ext w w152:=hC152.below hE144 (fun c hc=>Nat.le_trans hwG (hN151.low c (hF152 c hc))) hE144.size
      have hF155:=hL115_0x144.chg hC152 (fun hm=>by have:=hN151.low _ (hF152 _ hm); omega)
      have hF156:=hN145.chg g2 hC152 (fun b hb=>by have:=hN151.low _ (hF152 _ hb); omega)
      have hF158:=hN146.chg (good_rdS good_rIn) hC152 (fun b hb=>by have:=hN151.low _ (hF152 _ hb); omega)
      have hF159:=hN147.chg (good_rdS good_rGd) hC152 (fun b hb=>by have:=hN151.low _ (hF152 _ hb); omega)
      have hF160:=hN148.chg g1 hC152 (fun b hb=>by have:=hN151.low _ (hF152 _ hb); omega)
      exact lw_tvn 1 rfl (wp_plain _ [0,0] rfl (q_add ((k + 1 :Nat):Int) rfl rfl (w64n oM sD) zN (lw_tvn 1 rfl ⟨((k + 1),v152),_,rfl,⟨rfl,rfl,rfl,rfl,rfl,trivial⟩,⟨hE152,hF155,oM,oM,oM,z128_1,z128_6,z128_6,z128_6,oM,z128_6,oM⟩,by first | omega | (dsimp only; omega)⟩)))
     ·
      refine q_lss false rfl rfl (decide_eq_false hc118) zN (lw_nil (wp_seq (c_cond_f rfl (wp_exit (t_exit (t_exit (c_exit_here (wp_seq (wp_plain _ [0,0,2,3,0,0,0,0] rfl ?_)))))))))
      have hfg166:=hbg117.done (fun b hb=>absurd hb List.not_mem_nil)
      have hfc166:=hbg117.cap
      refine lw_tv 1 rfl (q_fldP (p:=(.pointer (some ⟨w2.heap.size,0,none⟩))) (b:=w2.heap.size) (o:=0) 3 fd199_3 rfl rfl zN (q_load (p:=(padd (.pointer (some ⟨w2.heap.size,0,none⟩)) 3)) (.inr rfl) vc90 one27 rfl (hL115_0.ldp (i:=3) sM) zN (lw_call 183 [] [] [v99,vc90] rfl rfl cf183 zN (c_impl_picked___int64_ _ v99 (regs m A T90.code) vc90 (xs90) hrk113.rn hrvc htc.rd z128_2 oM) ?_)))
      rintro e167 w167 ⟨v167,rfl,hX167,hr167,hcp167⟩
      refine ⟨_,rfl,hX167,?_⟩
      have hzs167:w115.heap.size≤w167.heap.size:=hX167.size
      have hE167:Ext w w167:=hE115.trans hX167
      have hL115_0x167:=hL115_0.ext hX167
      have hN168:=hrk113.ext g2 hX167
      have hN169:=hfg166.ext gMM hX167
      have hN170:=hta.ext (good_rdS good_rIn) hX167
      have hN171:=htb.ext (good_rdS good_rGd) hX167
      have hN172:=htc.ext g1 hX167
      exact lw_tvn 4 rfl (wp_ret (post_ret [6,7,8] rfl (.tuple #[v167,vo,(.int .i64 ((0 :Nat):Int))]) rfl ⟨_,_,_,rfl,hE167,(by show (0:Int) = _; omega),z128_3,(fun _=>⟨(by rw [hEv]; exact hr167),hcp167,T90,xs90,s90,hrl0,hxl,(by have h9:=hN169; rw [show k = xs90.length from by omega] at h9; exact h9),hfc166⟩)⟩))
 ·
  refine Jx.tail rfl ?_
  have hq174:=hB1.lt
  have hdr173:w1.drew.heap.size = w1.heap.size:=rfl
  refine r_allocA (z:=.agg #[.int .i64 0,.slice none 0 0,.slice none 0 0,.slice none 0 0]) zr199 zN fun w173 hX173 hz173 hB173=>?_
  replace hX173:=hX173.of_drew
  have hzs173:w1.heap.size≤w173.heap.size:=hX173.size
  have hE173:Ext w w173:=hE1.trans hX173
  have hB1x173:=hB1.ext hX173
  replace hB173:BX w173.heap w1.drew.heap.size [(.int .i64 0),(.slice none 0 0),(.slice none 0 0),(.slice none 0 0)]:=hB173
  refine lw_call 99 [] [] [vA] rfl rfl cf99 zN (c_impl_firsts _ _ _ ((hA.ext g2 hE173)).rd oM (by exact hA1)) ?_
  rintro e175 w175 ⟨v175_0,rfl,hX175,hO175_0⟩
  refine ⟨_,rfl,hX175,?_⟩
  have hzs175:w173.heap.size≤w175.heap.size:=hX175.size
  have hE175:Ext w w175:=hE173.trans hX175
  have hB1x175:=hB1x173.ext hX175
  have hB173x175:=hB173.ext hX175
  refine lw_call 179 [] [] [(.agg #[vp]),(.int .i64 f),v175_0] rfl rfl cf179 zN (c_impl_Record _ dp vp (p) (f) v175_0 (A.map (fun s=>s.getD 0 0)) (hp.ext (good_rdS (good_rFn dp)) hE175) _hf (RN.of_fr1 hO175_0 (fun b hb=>absurd hb List.not_mem_nil)) (by exact hok) (by exact hz) oM (by rw [List.length_map]; exact hl) (by exact fstS_num hsA)) ?_
  rintro e176 w176 ⟨i176,va176,vb176,vc176,xs176,T176,s176,c176,rfl,hX176,hrl176,hcb176,hoc176,hib176,hrk176⟩
  refine ⟨_,rfl,hX176,?_⟩
  have hzs176:w175.heap.size≤w176.heap.size:=hX176.size
  have hE176:Ext w w176:=hE175.trans hX176
  have hB1x176:=hB1x175.ext hX176
  have hB173x176:=hB173x175.ext hX176
  have hO175_0x176:=hO175_0.ext (o1) hX176
  have hvc176:evD p m f.toNat A = c176:=rec_code hm.1 hvp oM (fstS_num hsA) (fstS_path hsA) z128_4 hrl176
  have hKm176:=Ext.refl w176
  refine lw_tv 1 rfl (q_extract (vs:=[(.agg #[(.int .i64 i176),va176,vb176,vc176]),(.int .i64 c176)]) (.agg #[(.int .i64 i176),va176,vb176,vc176]) rfl rfl zN (q_extract (vs:=[(.agg #[(.int .i64 i176),va176,vb176,vc176]),(.int .i64 c176)]) (.int .i64 c176) rfl rfl zN (e_setA (vs:=[(.int .i64 i176),va176,vb176,vc176]) agg199 rfl rfl (fun u hu=>by rcases List.mem_cons.1 hu with rfl | hu; exact ⟨rfl,rfl⟩; exact hoc176 u hu) hB173x176 rfl rfl zN fun w177 hC177 hz177 hB177=>?_)))
  replace hB177:BX w177.heap w1.drew.heap.size [(.int .i64 i176),va176,vb176,vc176]:=hB177
  have hE177:Ext w w177:=hC177.below hE176 (fun c hc=>by have:=List.mem_singleton.1 hc; omega) hE176.size
  have hzs177:w176.heap.size≤w177.heap.size:=hC177.size
  have hF178:=hB1x176.chg hC177 (fun hm=>by have:=List.mem_singleton.1 hm; omega)
  have hF179:=hO175_0x176.chg (o1) hC177 (fun c hc=>by have:=List.mem_singleton.1 hc; omega)
  have hCm177:Chg [w1.drew.heap.size] w176 w177:=(Chg.of_ext _ hKm176).trans hC177
  refine lw_tvn 1 rfl (wp_seq (wp_seq (wp_plain _ [0,0] rfl (lw_tv 1 rfl ?_))))
  by_cases hc180:c176≠((0 :Nat):Int)
  ·
   exact q_neq true rfl rfl (decide_eq_true hc180) zN (lw_nil (c_cond_t rfl (wp_seq (wp_plain _ [0,0,0,0] rfl (lw_tvn 4 rfl (wp_ret (t_ret (post_ret [6,7,8] rfl (.tuple #[(.slice none 0 0),(.slice none 0 0),(.int .i64 c176)]) rfl ⟨_,_,_,rfl,hE177,oM,oM,(fun h9=>absurd h9 oM)⟩))))))))
  ·
   refine q_neq false rfl rfl (decide_eq_false hc180) zN (lw_nil (c_cond_f rfl (wp_skip (wp_seq (wp_draw _ [1,0,0,3,3,0,0,0,0,0] mixed (by kernel_rfl) ?_)))))
   have hc00:c176 = 0:=by omega
   obtain ⟨hi0,hTB,hs1,hxl,hEn,hq1,hq2,hq3⟩:=hrk176 hc00
   obtain ⟨hTI,hEv⟩:=rec_vals hm.1 hvp oM (fstS_num hsA) (fstS_path hsA) z128_4 hrl176 hc00
   have hnz:=hTI.nz
   have hcl:=hTI.cl
   have hrl0:=hrl176
   rw [hc00] at hrl0
   have hTl:T176.code.length≤4000:=by have:=hTB.2.1; omega
   have hrt1:RT w177.heap.size (rdS 4 rIn) w177.heap va176 T176.code:=RN.rt (good_rdS good_rIn) (RN.chg (good_rdS good_rIn) (RG.rnG (g:=w1.drew.heap.size) (good_rdS good_rIn) hq1 oM) hCm177)
   have hrt2:RT w177.heap.size (rdS 2 rGd) w177.heap vb176 T176.grd:=RN.rt (good_rdS good_rGd) (RN.chg (good_rdS good_rGd) (RG.rnG (g:=w1.drew.heap.size) (good_rdS good_rGd) hq2 oM) hCm177)
   have hrt3:RT w177.heap.size (rdL rI) w177.heap vc176 xs176:=RN.rt g1 (RN.chg g1 (RG.rnG (g:=w1.drew.heap.size) g1 hq3 oM) hCm177)
   have hoo:=oOf_mH hm.1 hA0 hsA
   have hom:((oOf A :Nat):Int).toNat + 1 = m:=by omega
   have hSR:=hTI.regs
   have hT0:0 < T176.code.length:=by have:=hTI.outs hEn 0 oM; omega
   have hOu:=hTI.outs hEn
   have hAd:=fun ws=>hTI.adj (ws:=ws) hEn
   refine q_loadA (p:=(.pointer (some ⟨w1.drew.heap.size,0,none⟩))) (.inl rfl) [(.int .i64 i176),va176,vb176,vc176] agg199 rfl (fun wq9 hw9=>LD.of_box (BX.ext (w:=w177.drew) hB177 hw9)) rfl zN (lw_tv 2 rfl (lw_call 87 [] [] [vA] rfl rfl cf87 zN (c_impl_orderOf _ vA (A) (hA.ext g2 hE177.drew) hqA (by exact fun h=>hA1 0 h)) ?_))
   rintro e181 w181 ⟨rfl,hX181⟩
   refine ⟨_,rfl,hX181,?_⟩
   replace hX181:=hX181.of_drew
   have hzs181:w177.heap.size≤w181.heap.size:=hX181.size
   have hE181:Ext w w181:=hE177.trans hX181
   have hF178x181:=hF178.ext hX181
   have hB177x181:=hB177.ext hX181
   have hF179x181:=hF179.ext (o1) hX181
   have hN182:=hrt1.ext (good_rdS good_rIn) hX181
   have hN183:=hrt2.ext (good_rdS good_rGd) hX181
   have hN184:=hrt3.ext g1 hX181
   refine lw_call 180 [] [] [(.agg #[(.int .i64 i176),va176,vb176,vc176]),vA,(.int .i64 ((oOf A :Nat):Int))] rfl rfl cf180 zN (c_impl_Tape_registers _ (i176) va176 vb176 vc176 (T176) (xs176) vA (A) (((oOf A :Nat):Int)) hib176 hN182.rn hN183.rn hN184.rn (hA.ext g2 hE181) hqA (by unfold oOf; omega) oM (by rw [hom]; exact hsA) z128_5 (by exact hTl)) ?_
   rintro e185 w185 ⟨v185,c185,rfl,hX185,hrc185,hrv185⟩
   refine ⟨_,rfl,hX185,?_⟩
   have hzs185:w181.heap.size≤w185.heap.size:=hX185.size
   have hE185:Ext w w185:=hE181.trans hX185
   have hF178x185:=hF178x181.ext hX185
   have hB177x185:=hB177x181.ext hX185
   have hF179x185:=hF179x181.ext (o1) hX185
   have hN186:=hN182.ext (good_rdS good_rIn) hX185
   have hN187:=hN183.ext (good_rdS good_rGd) hX185
   have hN188:=hN184.ext g1 hX185
   have hcg185:c185 = 0∨c185 = 6:=by unfold regC at hrc185; omega
   have hcz:c185 = 0:=by rcases hrc185 with h9 | h9; exact h9.1; (have h8:=h9.2; rw [hom] at h8; exact absurd hnz h8)
   obtain ⟨hrv0,hrvc⟩:=hrv185 hcz
   rw [hom] at hrv0
   have hrvt:=hrv0.rt g2
   refine lw_tv 1 rfl (q_extract (vs:=[v185,(.int .i64 c185)]) v185 rfl rfl zN (q_extract (vs:=[v185,(.int .i64 c185)]) (.int .i64 c185) rfl rfl zN (lw_tvn 2 rfl (wp_seq (wp_seq (wp_plain _ [0,0] rfl (lw_tv 1 rfl ?_)))))))
   by_cases hc189:c185≠((0 :Nat):Int)
   ·
    exact absurd hc189 oM
   ·
    refine q_neq false rfl rfl (decide_eq_false hc189) zN (lw_nil (c_cond_f rfl (wp_skip (wp_seq (wp_plain _ [3,0] rfl ?_)))))
    obtain ⟨BG,hBG⟩:∃ b:Nat,b = w185.heap.size:=⟨_,rfl⟩
    have hwG:w.heap.size≤BG:=by omega
    have hbT191:w177.heap.size≤BG:=by omega
    have hbT192:w185.heap.size≤BG:=by omega
    have hb193:w.heap.size < BG:=by have:=BX.lt hF178x185; omega
    have hb194:w1.drew.heap.size < BG:=by have:=BX.lt hB177x185; omega
    refine r_nil rV good_rV u132 ti32 zN fun v190 w190 hX190 hz190 hO190=>?_
    have hzs190:w185.heap.size≤w190.heap.size:=hX190.size
    have hE190:Ext w w190:=hE185.trans hX190
    have hF178x190:=hF178x185.ext hX190
    have hB177x190:=hB177x185.ext hX190
    have hF179x190:=hF179x185.ext (o1) hX190
    have hN195:=hN186.ext (good_rdS good_rIn) hX190
    have hN196:=hN187.ext (good_rdS good_rGd) hX190
    have hN197:=hN188.ext g1 hX190
    have hN198:=hrvt.ext g2 hX190
    obtain ⟨us190,F190,hb190⟩:=BldG.nil (E:=rdMx (rdL rI)) (S:=[]) (by rw [← hBG] at hO190; exact hO190)
    refine lw_tvn 1 rfl (wp_seq (wp_seq (wp_plain _ [0,2,0,0] rfl (q_fldP (p:=(.pointer (some ⟨w1.drew.heap.size,0,none⟩))) (b:=w1.drew.heap.size) (o:=0) 3 fd199_3 rfl rfl zN (q_load (p:=(padd (.pointer (some ⟨w1.drew.heap.size,0,none⟩)) 3)) (.inr rfl) vc176 one27 rfl (hB177x190.ldp (i:=3) sM) zN (q_len (v:=vc176) u27 rfl hN197.slL zN (lw_tvn 1 rfl (wp_block ?_))))))))
    refine c_loop (S:=Nat × Value) (fun (⟨k,vo⟩:Nat × Value)=>([(12,vo),(40,(.int .i64 ((k :Nat):Int))),(9,(.pointer (some ⟨w1.drew.heap.size,0,none⟩))),(11,v185),(39,(.int .i64 ((xs176.length :Nat):Int)))]:List (Nat × Value))) (fun (⟨k,vo⟩:Nat × Value) (W:World)=>Ext w W∧BX W.heap w1.drew.heap.size [(.int .i64 i176),va176,vb176,vc176]∧k≤xs176.length∧w.heap.size≤BG∧BG≤W.heap.size∧(∃ us F,BldG (rdMx (rdL rI)) 32 [] BG W.heap vo (slS m T176 xs176 A k) us F)∧RT w177.heap.size (rdS 4 rIn) W.heap va176 T176.code∧RT w177.heap.size (rdS 2 rGd) W.heap vb176 T176.grd∧RT w177.heap.size (rdL rI) W.heap vc176 xs176∧w177.heap.size≤W.heap.size∧RT w185.heap.size (rdL (rdL rI)) W.heap v185 (regs m A T176.code)∧w185.heap.size≤W.heap.size) (fun (⟨k,vo⟩:Nat × Value)=>xs176.length - k) (0,v190) ⟨rfl,rfl,rfl,rfl,rfl,trivial⟩ ⟨hE190,hB177x190,oM,oM,oM,(by exact ⟨_,_,by assumption⟩),z128_6,z128_6,z128_6,oM,z128_6,oM⟩ ?_
    clear hE0 hz1 hX1 hzs1 hE1 hz173 hX173 hzs173 hE173 hO175_0 hX175 hzs175 hE175 hX176 hzs176 hE176 hO175_0x176 hz177 hC177 hE177 hzs177 hF178 hF179 hX181 hzs181 hE181 hF178x181 hF179x181 hX185 hzs185 hE185 hF178x185 hF179x185 hO190 hz190 hX190 hzs190 hE190 hF178x190 hF179x190
    rintro ⟨k,vo⟩ ρ201 w201 ⟨hE201,hL201_0,hp201_0,hp201_1,hp201_2,hbldg,hta,htb,htc,hNR,hrk199,hkB200⟩
    have hzs201:w.heap.size≤w201.heap.size:=hE201.size
    have hq202:=hL201_0.lt
    obtain ⟨us203,F203,hbg203⟩:=hbldg
    have hFlg:∀ b∈F203,b < w201.heap.size:=hbg203.lt
    refine wp_seq (wp_plain _ [0] rfl ?_)
    by_cases hc204:((k :Nat):Int) < ((xs176.length :Nat):Int)
    ·
     refine q_lss true rfl rfl (decide_eq_true hc204) zN (lw_nil (wp_seq (c_cond_t rfl (wp_skip (wp_seq (wp_block (wp_seq (wp_plain _ [0,0] rfl (lw_tvn 2 rfl (wp_draw _ [0,1,1,0,0,1,0,0,3,3,3,3,3,4,0] mixed (by kernel_rfl) (lw_tv 1 rfl (q_loadA (p:=(.pointer (some ⟨w1.drew.heap.size,0,none⟩))) (.inl rfl) [(.int .i64 i176),va176,vb176,vc176] agg199 rfl (fun wq9 hw9=>LD.of_box (BX.ext (w:=w201.drew) hL201_0 hw9)) rfl zN (q_loadA (p:=(.pointer (some ⟨w1.drew.heap.size,0,none⟩))) (.inl rfl) [(.int .i64 i176),va176,vb176,vc176] agg199 rfl (fun wq9 hw9=>LD.of_box (BX.ext (w:=w201.drew) hL201_0 hw9)) rfl zN (lw_tv 1 rfl ?_))))))))))))))
     refine q_fldP (p:=(.pointer (some ⟨w1.drew.heap.size,0,none⟩))) (b:=w1.drew.heap.size) (o:=0) 3 fd199_3 rfl rfl zN (q_load (p:=(padd (.pointer (some ⟨w1.drew.heap.size,0,none⟩)) 3)) (.inl rfl) vc176 one27 rfl (hL201_0.ldp (i:=3) sM) zN (q_len (v:=vc176) u27 rfl htc.slL zN (lw_tv 1 rfl (r_one (u:=(.int .i64 ((k :Nat):Int))) (B:=w201.heap.size) good_rI u27 ti2 rfl rfl (frI w201.heap.size w201.heap.size _ _ oM) (Nat.le_refl _) zN fun v205 w205 hX205 hz205 hO205=>?_))))
     replace hX205:=hX205.of_drew
     have hzs205:w201.heap.size≤w205.heap.size:=hX205.size
     have hE205:Ext w w205:=hE201.trans hX205
     have hL201_0x205:=hL201_0.ext hX205
     have hN206:=hrk199.ext g2 hX205
     have hN207:=hta.ext (good_rdS good_rIn) hX205
     have hN208:=htb.ext (good_rdS good_rGd) hX205
     have hN209:=htc.ext g1 hX205
     have hN210:=hbg203.ext gM hX205
     refine lw_call 77 [] [] [(.int .i64 ((xs176.length :Nat):Int)),v205] rfl rfl cf77 zN (c_unitG _ (xs176.length) _ _ sD hO205.rd1 oM (by intro j hj; rw [List.length_singleton] at hj; obtain rfl:j = 0:=oM; exact ⟨Int.natCast_nonneg k,(by show ((k :Nat):Int) < _; omega)⟩)) ?_
     rintro e211 w211 ⟨v211_0,rfl,hX211,hO211_0⟩
     refine ⟨_,rfl,hX211,?_⟩
     have hzs211:w205.heap.size≤w211.heap.size:=hX211.size
     have hE211:Ext w w211:=hE205.trans hX211
     have hL201_0x211:=hL201_0x205.ext hX211
     have hO205x211:=hO205.ext (o1) hX211
     have hN212:=hN206.ext g2 hX211
     have hN213:=hN207.ext (good_rdS good_rIn) hX211
     have hN214:=hN208.ext (good_rdS good_rGd) hX211
     have hN215:=hN209.ext g1 hX211
     have hN216:=hN210.ext gM hX211
     refine lw_call 182 [] [] [(.agg #[(.int .i64 i176),va176,vb176,vc176]),v185,v211_0] rfl rfl cf182 zN (c_impl_Tape_adjoints _ m A.length [] (i176) va176 vb176 vc176 (T176) (xs176) v185 (regs m A T176.code) v211_0 (uniG xs176.length ([((k :Nat):Int)]) ([((k :Nat):Int)]).length) (fun b hb=>absurd hb List.not_mem_nil) hib176 hN213.rn hN214.rn hN215.rn hN212.rn hrvc hO211_0.rd1 (by exact hm) (by exact hSR) (by rw [regs_len]) (by exact hTl) (by rw [uniG_len]; omega) (by exact hOu) (by exact uniG_num _ _ _) z128_5) ?_
     rintro e217 w217 ⟨v217,rfl,hX217,hr217,hcp217⟩
     refine ⟨_,rfl,hX217,?_⟩
     have hzs217:w211.heap.size≤w217.heap.size:=hX217.size
     have hE217:Ext w w217:=hE211.trans hX217
     have hL201_0x217:=hL201_0x211.ext hX217
     have hO205x217:=hO205x211.ext (o1) hX217
     have hO211_0x217:=hO211_0.ext (o1) hX217
     have hN218:=hN212.ext g2 hX217
     have hN219:=hN213.ext (good_rdS good_rIn) hX217
     have hN220:=hN214.ext (good_rdS good_rGd) hX217
     have hN221:=hN215.ext g1 hX217
     have hN222:=hN216.ext gM hX217
     refine lw_call 181 [] [] [(.agg #[(.int .i64 i176),va176,vb176,vc176]),v217] rfl rfl cf181 zN (c_impl_Tape_byInputs _ m A.length F203 (i176) va176 vb176 vc176 (T176) (xs176) v217 (adjS T176.code (regs m A T176.code) xs176 (uniG xs176.length [((k :Nat):Int)] 1)) (fun b hb=>(by have:=hFlg b hb; omega:b < w217.heap.size)) hib176 hN219.rn hN220.rn hN221.rn hr217 hcp217 (by exact hm) oM (by exact hAd _) (by rw [adjS_len,regs_len]; omega) (by exact hTl) z128_5) ?_
     rintro e223 w223 ⟨v223,rfl,hX223,hr223,hcp223⟩
     refine ⟨_,rfl,hX223,?_⟩
     have hzs223:w217.heap.size≤w223.heap.size:=hX223.size
     have hE223:Ext w w223:=hE217.trans hX223
     have hL201_0x223:=hL201_0x217.ext hX223
     have hO205x223:=hO205x217.ext (o1) hX223
     have hO211_0x223:=hO211_0x217.ext (o1) hX223
     have hN224:=hN218.ext g2 hX223
     have hN225:=hN219.ext (good_rdS good_rIn) hX223
     have hN226:=hN220.ext (good_rdS good_rGd) hX223
     have hN227:=hN221.ext g1 hX223
     have hN228:=hr217.ext g2 hX223
     have hN229:=hN222.ext gM hX223
     refine r_one (u:=v223) (B:=w223.heap.size) good_rV u132 ti32 rfl rfl (frV w223.heap.size w223.heap.size _ (hr223.one1 g2)) (Nat.le_refl _) zN fun v230 w230 hX230 hz230 hO230=>?_
     have hzs230:w223.heap.size≤w230.heap.size:=hX230.size
     have hE230:Ext w w230:=hE223.trans hX230
     have hL201_0x230:=hL201_0x223.ext hX230
     have hO205x230:=hO205x223.ext (o1) hX230
     have hO211_0x230:=hO211_0x223.ext (o1) hX230
     have hN231:=hN224.ext g2 hX230
     have hN232:=hN225.ext (good_rdS good_rIn) hX230
     have hN233:=hN226.ext (good_rdS good_rGd) hX230
     have hN234:=hN227.ext g1 hX230
     have hN235:=hN228.ext g2 hX230
     have hN236:=hr223.ext g2 hX230
     have hN237:=hN229.ext gM hX230
     refine e_appBG gM (v:=vo) (a:=v230) (u:=v223) u132 ti32 rfl rfl rfl hN237 oM hO230 (RN.mk2 (by rw [List.nil_append]; exact hN236) hcp223) sD z128_0 zN ?_
     rintro v238 w238 G238 hC238 hF238 ⟨us238,F238,hb238⟩
     have hzs238:w230.heap.size≤w238.heap.size:=hC238.size
     have hE238:Ext w w238:=hC238.below hE230 (fun c hc=>Nat.le_trans hwG (hN237.low c (hF238 c hc))) hE230.size
     have hF241:=hL201_0x230.chg hC238 (fun hm=>by have:=hN237.low _ (hF238 _ hm); omega)
     have hF242:=hN231.chg g2 hC238 (fun b hb=>by have:=hN237.low _ (hF238 _ hb); omega)
     have hF244:=hN232.chg (good_rdS good_rIn) hC238 (fun b hb=>by have:=hN237.low _ (hF238 _ hb); omega)
     have hF245:=hN233.chg (good_rdS good_rGd) hC238 (fun b hb=>by have:=hN237.low _ (hF238 _ hb); omega)
     have hF246:=hN234.chg g1 hC238 (fun b hb=>by have:=hN237.low _ (hF238 _ hb); omega)
     exact lw_tvn 1 rfl (wp_plain _ [0,0] rfl (q_add ((k + 1 :Nat):Int) rfl rfl (w64n oM sD) zN (lw_tvn 1 rfl ⟨((k + 1),v238),_,rfl,⟨rfl,rfl,rfl,rfl,rfl,trivial⟩,⟨hE238,hF241,oM,oM,oM,z128_1,z128_6,z128_6,z128_6,oM,z128_6,oM⟩,by first | omega | (dsimp only; omega)⟩)))
    ·
     refine q_lss false rfl rfl (decide_eq_false hc204) zN (lw_nil (wp_seq (c_cond_f rfl (wp_exit (t_exit (t_exit (c_exit_here (wp_seq (wp_plain _ [0,0,2,3,0,0,0,0] rfl ?_)))))))))
     have hfg252:=hbg203.done (fun b hb=>absurd hb List.not_mem_nil)
     have hfc252:=hbg203.cap
     refine lw_tv 1 rfl (q_fldP (p:=(.pointer (some ⟨w1.drew.heap.size,0,none⟩))) (b:=w1.drew.heap.size) (o:=0) 3 fd199_3 rfl rfl zN (q_load (p:=(padd (.pointer (some ⟨w1.drew.heap.size,0,none⟩)) 3)) (.inr rfl) vc176 one27 rfl (hL201_0.ldp (i:=3) sM) zN (lw_call 183 [] [] [v185,vc176] rfl rfl cf183 zN (c_impl_picked___int64_ _ v185 (regs m A T176.code) vc176 (xs176) hrk199.rn hrvc htc.rd z128_2 oM) ?_)))
     rintro e253 w253 ⟨v253,rfl,hX253,hr253,hcp253⟩
     refine ⟨_,rfl,hX253,?_⟩
     have hzs253:w201.heap.size≤w253.heap.size:=hX253.size
     have hE253:Ext w w253:=hE201.trans hX253
     have hL201_0x253:=hL201_0.ext hX253
     have hN254:=hrk199.ext g2 hX253
     have hN255:=hfg252.ext gMM hX253
     have hN256:=hta.ext (good_rdS good_rIn) hX253
     have hN257:=htb.ext (good_rdS good_rGd) hX253
     have hN258:=htc.ext g1 hX253
     exact lw_tvn 4 rfl (wp_ret (post_ret [6,7,8] rfl (.tuple #[v253,vo,(.int .i64 ((0 :Nat):Int))]) rfl ⟨_,_,_,rfl,hE253,(by show (0:Int) = _; omega),z128_3,(fun _=>⟨(by rw [hEv]; exact hr253),hcp253,T176,xs176,s176,hrl0,hxl,(by have h9:=hN255; rw [show k = xs176.length from by omega] at h9; exact h9),hfc252⟩)⟩))
end Go.Proofs.YtnokbaiemimhjaaGreat
namespace Go.Proofs.YtnokbaiemimhjaaGreat
open Go Go.RowKit
set_option linter.unusedVariables false
set_option linter.unusedSimpArgs false
set_option maxHeartbeats 4000000
set_option maxRecDepth 100000
attribute [local irreducible] LW
theorem c_idxM (w:World) (va:Value) (a:List (List Int)) (q:Nat) (qf qc:List Value) (p:List Int→Bool) (ha:Rd (rdL (rdL rI)) w.heap va a) (hcf_q:((Tryz.prog.funcs[q]?).map fun fn=>(fn.name != "runtime.NumGoroutine") && fn.body.isSome) = some true) (hp:∀ (u:Value) (k:Nat) w1,k < a.length→Rd (rdL rI) w1.heap u (a.getD k [])→Ext w w1→Calls Tryz.prog q (qf++[u]++qc).toArray w1 (fun e w2=>e = .returned (.bool (p (a.getD k [])))∧Ext w1 w2))  :
  Calls Tryz.prog 169 #[va,.func (.func q) qf.toArray qc.toArray] w (fun e w'=>e = .returned (.int .i64 (ixF p a))∧Ext w w'):=by
 refine calls_mk [va,.func (.func q) qf.toArray qc.toArray] 19 Tryz.func169 rfl rfl sM ?_
 have hE0:Ext w w:=Ext.refl w
 have hl_va:=ha.lenle
 refine wp_seq (wp_plain _ [0] rfl (lw_tvn 1 rfl (wp_seq (wp_seq (wp_plain _ [0,0,0] rfl (lw_tv 1 rfl (q_len (v:=va) u32 rfl ha.isSl zN (lw_tvn 1 rfl (wp_block ?_)))))))))
 refine c_loop (S:=Nat) (fun (k:Nat)=>([(8,(.int .i64 ((k :Nat):Int))),(0,va),(1,(.func (.func q) qf.toArray qc.toArray)),(7,(.int .i64 ((a.length :Nat):Int)))]:List (Nat × Value))) (fun (k:Nat) (W:World)=>Ext w W∧k≤a.length∧(∀ j,j < k→p (a.getD j []) = false)) (fun (k:Nat)=>a.length - k) 0 ⟨rfl,rfl,rfl,rfl,trivial⟩ ⟨hE0,sD,(by intro j hj; omega)⟩ ?_
 clear hE0
 rintro k ρ1 w1 ⟨hE1,hp1_0,hq⟩
 have hzs1:w.heap.size≤w1.heap.size:=hE1.size
 refine wp_seq (wp_plain _ [0] rfl ?_)
 by_cases hc2:((k :Nat):Int) < ((a.length :Nat):Int)
 ·
  refine q_lss true rfl rfl (decide_eq_true hc2) zN (lw_nil (wp_seq (c_cond_t rfl (wp_skip (wp_seq (wp_block (wp_seq (wp_plain _ [0,0] rfl (lw_tvn 2 rfl (wp_seq (wp_plain _ [0,0,0,0,2,3] rfl ?_)))))))))))
  have hka:k < a.length:=by omega
  refine lw_tv 3 rfl (q_idx (v:=va) k u32 ti27 rfl rfl ha.isSl rfl sD zN ?_)
  obtain ⟨ue3,hl3,hd3⟩:=ha.get (k:=k) [] sD
  have hln3:=hd3.lenle
  refine q_load (p:=eptr va k 1) (.inr rfl) ue3 one27 rfl (ldH_ext hE1 hl3) zN (lw_call q qf qc _ rfl rfl hcf_q zN (hp ue3 k w1 oM (hd3.ext g1 hE1) hE1) ?_)
  rintro e4 w4 ⟨rfl,hX4⟩
  refine ⟨_,rfl,hX4,?_⟩
  have hzs4:w1.heap.size≤w4.heap.size:=hX4.size
  have hE4:Ext w w4:=hE1.trans hX4
  cases hc4:p (a.getD k [])
  ·
   refine lw_nil (c_cond_f rfl (wp_skip (wp_plain _ [0,0] rfl (q_add ((k + 1 :Nat):Int) rfl rfl (w64n oM sD) zN (lw_tvn 1 rfl ?_)))))
   exact ⟨(k + 1),_,rfl,⟨rfl,rfl,rfl,rfl,trivial⟩,⟨hE4,sD,(by exact ix_step hq (by assumption))⟩,by first | omega | (dsimp only; omega)⟩
  ·
   exact lw_nil (c_cond_t rfl (wp_seq (wp_plain _ [0,0] rfl (lw_tvn 2 rfl (wp_ret (b_ret (t_ret (t_ret (b_ret (t_ret (post_ret [4] rfl (.int .i64 ((k :Nat):Int)) rfl ⟨(ret_int (ix_yes [] hq oM (by assumption))),hE4⟩)))))))))))
 ·
  exact q_lss false rfl rfl (decide_eq_false hc2) zN (lw_nil (wp_seq (c_cond_f rfl (wp_exit (t_exit (t_exit (c_exit_here (wp_seq (wp_plain _ [0] rfl (lw_tvn 1 rfl (wp_ret (post_ret [4] rfl (.int .i64 (-1)) rfl ⟨(ret_int (ix_no [] hq oM)),hE1⟩))))))))))))
theorem c_cntM (w:World) (va:Value) (a:List (List Int)) (q:Nat) (qf qc:List Value) (p:List Int→Bool) (ha:Rd (rdL (rdL rI)) w.heap va a) (hcf_q:((Tryz.prog.funcs[q]?).map fun fn=>(fn.name != "runtime.NumGoroutine") && fn.body.isSome) = some true) (hp:∀ (u:Value) (k:Nat) w1,k < a.length→Rd (rdL rI) w1.heap u (a.getD k [])→Ext w w1→Calls Tryz.prog q (qf++[u]++qc).toArray w1 (fun e w2=>e = .returned (.bool (p (a.getD k [])))∧Ext w1 w2))  :
  Calls Tryz.prog 115 #[va,.func (.func q) qf.toArray qc.toArray] w (fun e w'=>e = .returned (.bool (a.any p))∧Ext w w'):=by
 refine calls_mk [va,.func (.func q) qf.toArray qc.toArray] 9 Tryz.func115 rfl rfl sM ?_
 have hE0:Ext w w:=Ext.refl w
 have hl_va:=ha.lenle
 refine wp_seq (wp_plain _ [0] rfl (lw_tvn 1 rfl (wp_seq (wp_plain _ [0,0,3,0,0] rfl (lw_tv 2 rfl (lw_call 169 [] [] [va,(.func (.func q) qf.toArray qc.toArray)] rfl rfl cf169 zN (c_idxM _ _ _ q qf qc p (ha.ext g2 hE0) hcf_q (fun u k w1 hk hx hw=>hp u k w1 hk hx (hE0.trans hw))) ?_))))))
 rintro e1 w1 ⟨rfl,hX1⟩
 refine ⟨_,rfl,hX1,?_⟩
 have hzs1:w.heap.size≤w1.heap.size:=hX1.size
 have hE1:Ext w w1:=hE0.trans hX1
 exact q_geq (decide (((0 :Nat):Int)≤ixF p a)) rfl rfl rfl zN (lw_tvn 1 rfl (wp_ret (post_ret [4] rfl (.bool (decide (((0 :Nat):Int)≤ixF p a))) rfl ⟨(ret_bool (ix_ge p a)),hE1⟩)))
theorem z188_0 {p:Prop} (h:p:=by unfold eqnB inB; first | (simp [*]; done) | (simp [*]; omega) | (simp_all; done) | (simp_all; omega)):p:=h
theorem c_impl_isEquation_1 (w:World) (a:Int) (b:Int) (_ha:-9223372036854775808≤a∧a≤9223372036854775807) (_hb:-9223372036854775808≤b∧b≤9223372036854775807)  :
  Calls Tryz.prog 188 #[.int .i64 a,.int .i64 b] w (fun e w'=>e = .returned (.bool (eqnB a b))∧w' = w):=by
 refine calls_mk [.int .i64 a,.int .i64 b] 13 Tryz.func188 rfl rfl sM ?_
 have hE0:w = w:=rfl
 refine wp_seq (wp_plain _ [0] rfl (lw_tvn 1 rfl (wp_seq (wp_plain _ [0,0,0,0,0,0,0,0,0] rfl (lw_tv 1 rfl (lw_callq 72 [] [] [(.int .i64 a),(.int .i64 ((2 :Nat):Int)),(.int .i64 ((7 :Nat):Int))] rfl rfl cf72 zN (.bool (decide (((2 :Nat):Int)≤a) && decide (a≤((7 :Nat):Int)))) (fun wq=>c_impl_within wq _ _ _ _ha oM oM) (lw_tv 1 rfl ?_)))))))
 cases hb2:(decide (((2 :Nat):Int)≤a) && decide (a≤((7 :Nat):Int)))
 ·
  exact lw_tvn 6 rfl (wp_ret (post_ret [4] rfl (.bool false) rfl ⟨(ret_bool z188_0),hE0⟩))
 ·
  exact lw_tv 2 rfl (q_sub (a - 1) rfl rfl (w64 (by have h9:=inB_e (by assumption); omega) (by have h9:=inB_e (by assumption); omega)) (zS (e:=7) rfl rfl rfl) (q_eql (decide (b = a - 1)) rfl rfl rfl (zS (e:=7) rfl rfl rfl) (lw_tvn 2 rfl (wp_ret (post_ret [4] rfl (.bool (decide (b = a - 1))) rfl ⟨(ret_bool z188_0),hE0⟩)))))
theorem c_impl_isEquation (w:World) (dp:Nat) (vp:Value) (p:List Fn) (f:Int) (hp:RP [] dp w.heap vp p) (_hf:-9223372036854775808≤f∧f≤9223372036854775807) (hz:SzP p) :
  Calls Tryz.prog 139 #[(.agg #[vp]),.int .i64 f] w (fun e w'=>e = .returned (.int .i64 (shF p f eqnB))∧Ext w w'):=by
 refine calls_mk [(.agg #[vp]),.int .i64 f] 8 Tryz.func139 rfl rfl sM ?_
 have hE0:Ext w w:=Ext.refl w
 have hl_vp:=hp.lenle
 unfold maxLen at hl_vp
 refine wp_seq (wp_plain _ [3,0] rfl (r_boxA (cs:=#[vp]) rfl zN fun w1 hX1 hz1 hB1=>?_))
 have hzs1:w.heap.size≤w1.heap.size:=hX1.size
 have hE1:Ext w w1:=hE0.trans hX1
 replace hB1:BX w1.heap w.heap.size [vp]:=hB1
 refine lw_tvn 1 rfl (wp_seq (wp_plain _ [2,0,3,0] rfl (q_loadA (p:=(.pointer (some ⟨w.heap.size,0,none⟩))) (.inr rfl) [vp] agg26 rfl (fun wq9 hw9=>LD.of_box (BX.ext (w:=w1) hB1 hw9)) rfl zN (lw_tv 1 rfl (lw_call 177 [] [] [(.agg #[vp]),(.int .i64 f),(.func (.func 188) #[] #[])] rfl rfl cf177 zN (c_impl_isShaped _ dp vp (p) _ 188 [] [] eqnB (hp.ext (good_rdS (good_rFn dp)) hE1) _hf cf188 (fun a b w1 ha hb=>c_impl_isEquation_1 w1 a b ha hb) (by exact hz)) ?_)))))
 rintro e2 w2 ⟨rfl,hX2⟩
 refine ⟨_,rfl,hX2,?_⟩
 have hzs2:w1.heap.size≤w2.heap.size:=hX2.size
 have hE2:Ext w w2:=hE1.trans hX2
 have hB1x2:=hB1.ext hX2
 exact lw_tvn 1 rfl (wp_ret (post_ret [4] rfl (.int .i64 (shF p f eqnB)) rfl ⟨rfl,hE2⟩))
theorem z113_0 {p:Prop} (h:p:=by first | exact ret_int (gq_n oM) | exact ret_int (gq_2 oM (bn_t (by assumption))) | exact ret_int (gq_3 oM (bn_f (by assumption)))):p:=h
theorem c_impl_isGuess (w:World) (dp:Nat) (vp:Value) (p:List Fn) (f:Int) (vy:Value) (y:List (List Int)) (hp:RP [] dp w.heap vp p) (_hf:-9223372036854775808≤f∧f≤9223372036854775807) (hy:RN [] (rdL (rdL rI)) w.heap vy y) (hqy:CapS vy) (hz:SzP p) :
  Calls Tryz.prog 113 #[(.agg #[vp]),.int .i64 f,vy] w (fun e w'=>e = .returned (.int .i64 (gqC p f y))∧Ext w w'):=by
 refine calls_mk [(.agg #[vp]),.int .i64 f,vy] 26 Tryz.func113 rfl rfl sM ?_
 have hE0:Ext w w:=Ext.refl w
 have hl_vp:=hp.lenle
 unfold maxLen at hl_vp
 have hl_vy:=hy.lenL
 unfold maxLen at hl_vy
 refine wp_seq (wp_plain _ [3,0] rfl (r_boxA (cs:=#[vp]) rfl zN fun w1 hX1 hz1 hB1=>?_))
 have hzs1:w.heap.size≤w1.heap.size:=hX1.size
 have hE1:Ext w w1:=hE0.trans hX1
 replace hB1:BX w1.heap w.heap.size [vp]:=hB1
 refine lw_tvn 1 rfl (wp_seq (wp_plain _ [2,0,3,0] rfl (q_loadA (p:=(.pointer (some ⟨w.heap.size,0,none⟩))) (.inr rfl) [vp] agg26 rfl (fun wq9 hw9=>LD.of_box (BX.ext (w:=w1) hB1 hw9)) rfl zN (lw_tv 1 rfl (lw_call 139 [] [] [(.agg #[vp]),(.int .i64 f)] rfl rfl cf139 zN (c_impl_isEquation _ dp vp (p) _ (hp.ext (good_rdS (good_rFn dp)) hE1) _hf (by exact hz)) ?_)))))
 rintro e2 w2 ⟨rfl,hX2⟩
 refine ⟨_,rfl,hX2,?_⟩
 have hzs2:w1.heap.size≤w2.heap.size:=hX2.size
 have hE2:Ext w w2:=hE1.trans hX2
 have hB1x2:=hB1.ext hX2
 refine lw_tvn 1 rfl (wp_seq (wp_seq (wp_plain _ [0,0,0,0,0,2,0,0,0,2,0,3,0,0] rfl (lw_tv 1 rfl ?_))))
 by_cases hc3:shF p f eqnB = ((0 :Nat):Int)
 ·
  refine q_eql true rfl rfl (decide_eq_true hc3) zN (lw_tv 2 rfl ?_)
  have hi0:=eqn_0 (p:=p) (f:=f) oM
  refine q_fldP (p:=(.pointer (some ⟨w.heap.size,0,none⟩))) (b:=w.heap.size) (o:=0) 0 fd26_0 rfl rfl (zS (e:=13) rfl rfl rfl) (q_load (p:=(padd (.pointer (some ⟨w.heap.size,0,none⟩)) 0)) (.inr rfl) vp one24 rfl (hB1x2.ldp (i:=0) sM) (zS (e:=13) rfl rfl rfl) (lw_tv 1 rfl (q_idx (v:=vp) ((f).toNat) u24 tiS55 rfl rfl hp.isSl oM sD (zS (e:=13) rfl rfl rfl) ?_)))
  obtain ⟨cs4,hr4,hl4⟩:=hp.get (good_rFn dp) Fn.zero (k:=((f).toNat)) sD
  obtain ⟨ve4,rfl,hx4⟩:=RF.of hr4
  have hln4:=hx4.rn.lenle
  unfold maxLen at hln4
  refine q_fldL (p:=eptr vp ((f).toNat) 3) 1 fd55_1 rfl (hl4 _ (Chg.of_ext [] hE2)) (zS (e:=13) rfl rfl rfl) (q_load (p:=(padd (eptr vp ((f).toNat) 3) 1)) (.inr rfl) (.int .i64 ((p.getD ((f).toNat) Fn.zero).params)) one2 rfl ((hl4 _ (Chg.of_ext [] hE2)).ld (i:=1) (by simp [exC,fnC])) (zS (e:=13) rfl rfl rfl) (q_sub ((p.getD f.toNat Fn.zero).params - 1) rfl rfl (w64 oM oM) (zS (e:=13) rfl rfl rfl) (lw_call 85 [] [] [vy,(.int .i64 ((p.getD f.toNat Fn.zero).params - 1))] rfl rfl cf85 (zS (e:=13) rfl rfl rfl) (c_impl_areArgs _ _ _ _ ((hy.ext g2 hE2)).rd oM) ?_)))
  rintro e5 w5 ⟨rfl,hX5⟩
  refine ⟨_,rfl,hX5,?_⟩
  have hzs5:w2.heap.size≤w5.heap.size:=hX5.size
  have hE5:Ext w w5:=hE2.trans hX5
  have hB1x5:=hB1x2.ext hX5
  refine q_not (!(argB y && decide (((y.length :Nat):Int) = ((p.getD f.toNat Fn.zero).params - 1)))) rfl rfl (zS (e:=13) rfl rfl rfl) (lw_tvn 1 rfl ?_)
  cases hb6:(!(argB y && decide (((y.length :Nat):Int) = ((p.getD f.toNat Fn.zero).params - 1))))
  ·
   exact c_cond_f (by first | rfl | (show Value.bool _ = _; rw [hb6])) (wp_skip (wp_seq (wp_plain _ [0,0] rfl (lw_tvn 2 rfl (wp_ret (post_ret [6] rfl (.int .i64 (shF p f eqnB)) rfl ⟨z113_0,hE5⟩))))))
  ·
   exact c_cond_t (by first | rfl | (show Value.bool _ = _; rw [hb6])) (wp_plain _ [0] rfl (lw_tvn 1 rfl (wp_seq (wp_plain _ [0,0] rfl (lw_tvn 2 rfl (wp_ret (post_ret [6] rfl (.int .i64 ((2 :Nat):Int)) rfl ⟨z113_0,hE5⟩)))))))
 ·
  exact q_eql false rfl rfl (decide_eq_false hc3) zN (lw_tvn 12 rfl (c_cond_f rfl (wp_skip (wp_seq (wp_plain _ [0,0] rfl (lw_tvn 2 rfl (wp_ret (post_ret [6] rfl (.int .i64 (shF p f eqnB)) rfl ⟨z113_0,hE2⟩))))))))
theorem c_impl_Program_residues (w:World) (dp:Nat) (vp:Value) (p:List Fn) (f:Int) (vy:Value) (y:List (List Int)) (hp:RP [] dp w.heap vp p) (_hf:-9223372036854775808≤f∧f≤9223372036854775807) (hy:RN [] (rdL (rdL rI)) w.heap vy y) (hqy:CapS vy) (hok:okP p = true) (hz:SzP p) (hf:0≤f∧f < ((p.length :Nat):Int)) (hl:((y.length :Nat):Int) = (p.getD f.toNat Fn.zero).params - 1) (hsy:SrE (oOf y + 1) y) (hy0:0 < y.length∧oOf y≤12) :
  Calls Tryz.prog 114 #[(.agg #[vp]),.int .i64 f,vy] w (fun e w'=>∃ (v0 v1:Value) (c:Int),e = .returned (.tuple #[v0,v1,.int .i64 c])∧Ext w w'∧c = evD p (oOf y + 1) f.toNat (wiS y)∧(0≤c∧c≤9)∧(c = 0→RN [] (rdL (rdL rI)) w'.heap v0 (evR p (oOf y + 1) f.toNat (wiS y))∧CapS v0∧∃ T xs s1,RelV (recR p f.toNat (fstS (wiS y))) (xs,T) s1 0∧xs.length = (p.getD f.toNat Fn.zero).outs.length∧RN [] (rdL (rdMx (rdL rI))) w'.heap v1 (woS (slS (oOf y + 1) T xs (wiS y) xs.length))∧CapS v1)):=by
 refine calls_mk [(.agg #[vp]),.int .i64 f,vy] 33 Tryz.func114 rfl rfl sM ?_
 have hE0:Ext w w:=Ext.refl w
 have hl_vp:=hp.lenle
 unfold maxLen at hl_vp
 have hl_vy:=hy.lenL
 unfold maxLen at hl_vy
 have hpr:=(okP_vpr hok).par f.toNat oM
 have hwl:(wiS y).length = y.length + 1:=wiS_len
 have hA9:=(hsy 0 hy0.1).1
 have hts:wiS y = (List.replicate (((oOf y :Nat):Int).toNat + 1) 0).set 1 1 :: y:=by unfold wiS tmS; rw [hA9]; rfl
 refine wp_seq (wp_plain _ [3,0,0,0] rfl (r_boxA (cs:=#[vp]) rfl zN fun w1 hX1 hz1 hB1=>?_))
 have hzs1:w.heap.size≤w1.heap.size:=hX1.size
 have hE1:Ext w w1:=hE0.trans hX1
 replace hB1:BX w1.heap w.heap.size [vp]:=hB1
 refine lw_tvn 3 rfl (wp_seq (wp_plain _ [0,3,3,3,0,4,0] rfl (lw_tv 1 rfl (lw_call 87 [] [] [vy] rfl rfl cf87 zN (c_impl_orderOf _ vy (y) (hy.ext g2 hE1) hqy (by intro _; omega)) ?_))))
 rintro e2 w2 ⟨rfl,hX2⟩
 refine ⟨_,rfl,hX2,?_⟩
 have hzs2:w1.heap.size≤w2.heap.size:=hX2.size
 have hE2:Ext w w2:=hE1.trans hX2
 have hB1x2:=hB1.ext hX2
 refine lw_call 131 [] [] [(.int .i64 ((oOf y :Nat):Int))] rfl rfl cf131 zN (c_impl_timeSeries _ _ (by unfold oOf; omega) oM) ?_
 rintro e3 w3 ⟨v3_0,rfl,hX3,hO3_0⟩
 refine ⟨_,rfl,hX3,?_⟩
 have hzs3:w2.heap.size≤w3.heap.size:=hX3.size
 have hE3:Ext w w3:=hE2.trans hX3
 have hB1x3:=hB1x2.ext hX3
 refine r_one (u:=v3_0) (B:=w3.heap.size) good_rV u32 ti27 rfl rfl (frV w3.heap.size w3.heap.size _ (⟨(isSl_cells hO3_0.isSl).1,(isSl_cells hO3_0.isSl).2⟩)) (Nat.le_refl _) zN fun v4 w4 hX4 hz4 hO4=>?_
 have hzs4:w3.heap.size≤w4.heap.size:=hX4.size
 have hE4:Ext w w4:=hE3.trans hX4
 have hB1x4:=hB1x3.ext hX4
 have hO3_0x4:=hO3_0.ext (o1) hX4
 refine lw_tv 1 rfl ?_
 obtain ⟨vs5,hV5,hL5,hR5⟩:=Rd.heads (E:=rdL rI) g1 [] (RN.rd hy)
 refine e_appV (v:=v4) (a:=vy) u32 ti27 rfl rfl rfl hO4 oM (hV5.ext gV hE4) (by rw [hL5]; simp only [List.length_cons,List.length_nil]; omega) (by rw [hL5]; unfold maxLen; simp only [List.length_cons,List.length_nil]; omega) zN fun v5 w5 F5 hC5 hF5 hO5=>?_
 have hzs5:w4.heap.size≤w5.heap.size:=hC5.size
 have hE5:Ext w w5:=hC5.below hE4 (fun c hc=>by have:=hF5 c hc; omega) hE4.size
 have hU5:=hO3_0x4.chg (o1) hC5 (fun c hc=>by have:=hF5 c hc; omega)
 have hF6:=hB1x4.chg hC5 (fun hm=>by have:=hF5 _ hm; omega)
 obtain ⟨hr5,hcp5⟩:=RN.ofV (xs:=((List.replicate (((oOf y :Nat):Int).toNat + 1) 0).set 1 1) :: y) hO5 (by simp [hL5]) (fun k hk=>match k,hk with | 0,_=>RN.of_fr1 hU5 (fun b hb=>absurd hb List.not_mem_nil) | k + 1,hk=>(RN.of (hR5 k (by simpa using hk))).ext g1 hE5)
 refine lw_tvn 1 rfl (wp_seq (wp_plain _ [2,0,0,3,0,0,0,0,0,0,0] rfl ?_))
 rw [← hts] at hr5
 refine q_loadA (p:=(.pointer (some ⟨w.heap.size,0,none⟩))) (.inr rfl) [vp] agg26 rfl (fun wq9 hw9=>LD.of_box (BX.ext (w:=w5) hF6 hw9)) rfl zN (lw_tv 2 rfl (lw_call 128 [] [] [(.agg #[vp]),(.int .i64 f),v5] rfl rfl cf128 zN (c_impl_Program_linear _ dp vp (p) (f) (oOf y + 1) v5 (wiS y) (hp.ext (good_rdS (good_rFn dp)) hE5) _hf hr5 hcp5 (by exact hok) (by exact hz) oM oM oM (by exact wiS_ser hsy hy0.1) oM) ?_))
 rintro e7 w7 ⟨lv7,lu7,lc7,rfl,hX7,hlc7,hlb7,hlk7⟩
 refine ⟨_,rfl,hX7,?_⟩
 have hzs7:w5.heap.size≤w7.heap.size:=hX7.size
 have hE7:Ext w w7:=hE5.trans hX7
 have hF6x7:=hF6.ext hX7
 have hN8:=hr5.ext g2 hX7
 refine lw_tv 1 rfl (q_extract (vs:=[lv7,lu7,(.int .i64 lc7)]) lv7 rfl rfl zN (q_extract (vs:=[lv7,lu7,(.int .i64 lc7)]) lu7 rfl rfl zN (q_extract (vs:=[lv7,lu7,(.int .i64 lc7)]) (.int .i64 lc7) rfl rfl zN (lw_tvn 3 rfl (wp_seq (wp_seq (wp_plain _ [0,0] rfl (lw_tv 1 rfl ?_))))))))
 by_cases hc9:lc7≠((0 :Nat):Int)
 ·
  exact q_neq true rfl rfl (decide_eq_true hc9) zN (lw_nil (c_cond_t rfl (wp_seq (wp_plain _ [0,0,0,0] rfl (lw_tvn 4 rfl (wp_ret (t_ret (post_ret [6,7,8] rfl (.tuple #[(.slice none 0 0),(.slice none 0 0),(.int .i64 lc7)]) rfl ⟨_,_,_,rfl,hE7,hlc7,hlb7,(fun h9=>absurd h9 oM)⟩))))))))
 ·
  refine q_neq false rfl rfl (decide_eq_false hc9) zN (lw_nil (c_cond_f rfl (wp_skip (wp_seq (wp_plain _ [0,0,3,0,0,0] rfl ?_)))))
  obtain ⟨hq1,hq2,T0,xs0,s0,hrl,hxo,hq3,hq4⟩:=hlk7 oM
  have hslx:∀ k,k < (slS (oOf y + 1) T0 xs0 (wiS y) xs0.length).length→1≤((slS (oOf y + 1) T0 xs0 (wiS y) xs0.length).getD k []).length:=fun k hk=>by rw [slS_len] at hk; rw [slS_at hk]; unfold slO; rw [byS_len,wiS_len]; omega
  have hou:=(okP_vpr hok).outs f.toNat oM
  refine lw_tv 2 rfl (lw_call 168 [] [] [lu7] rfl rfl cf168 zN (c_impl_without _ lu7 (slS (oOf y + 1) T0 xs0 (wiS y) xs0.length) hq3 (by exact hslx) (by rw [slS_len]; omega)) ?_)
  rintro e10 w10 ⟨v10,rfl,hX10,hr10,hcp10⟩
  refine ⟨_,rfl,hX10,?_⟩
  have hzs10:w7.heap.size≤w10.heap.size:=hX10.size
  have hE10:Ext w w10:=hE7.trans hX10
  have hF6x10:=hF6x7.ext hX10
  have hN11:=hN8.ext g2 hX10
  have hN12:=hq1.ext g2 hX10
  have hN13:=hq3.ext gMM hX10
  exact lw_tvn 3 rfl (wp_ret (post_ret [6,7,8] rfl (.tuple #[lv7,v10,(.int .i64 ((0 :Nat):Int))]) rfl ⟨_,_,_,rfl,hE10,(by show (0:Int) = _; rw [← hlc7]; omega),(by show (0:Int)≤0∧(0:Int)≤9; omega),(fun _=>⟨hN12,hq2,_,_,_,hrl,hxo,hr10,hcp10⟩)⟩))
theorem c_impl_ResidueOrder_1 (w:World) (vs:Value) (s:List Int) (vm:Nat) (m:Int) (hs:Rd (rdL rI) w.heap vs s) (hcm:ldH w.heap (.pointer (some ⟨vm,0,none⟩)) = some (.int .i64 m)) (_hm:-9223372036854775808≤m∧m≤9223372036854775807) (hm:0≤m∧m < ((s.length :Nat):Int)) :
  Calls Tryz.prog 116 #[vs,.pointer (some ⟨vm,0,none⟩)] w (fun e w'=>e = .returned (.bool (s.getD m.toNat 0 != 0))∧Ext w w'):=by
 refine calls_mk [vs,.pointer (some ⟨vm,0,none⟩)] 9 Tryz.func116 rfl rfl sM ?_
 have hE0:Ext w w:=Ext.refl w
 have hl_vs:=hs.lenle
 refine wp_seq (wp_plain _ [0] rfl (lw_tvn 1 rfl (wp_seq (wp_plain _ [0,2,0,2,0,0] rfl (lw_tv 1 rfl (q_load (.inr rfl) (.int .i64 m) one3 rfl (ldH_ext hE0 hcm) zN (q_idx (v:=vs) ((m).toNat) u27 ti2 rfl rfl hs.isSl oM sD zN ?_)))))))
 refine q_load (p:=eptr vs ((m).toNat) 1) (.inr rfl) (.int .i64 (s.getD ((m).toNat) 0)) one2 rfl (ldH_ext hE0 (hs.getI sD).1) zN (q_neq (decide (s.getD ((m).toNat) 0≠((0 :Nat):Int))) rfl rfl rfl zN (lw_tvn 1 rfl (wp_ret ?_)))
 exact post_ret [3] rfl (.bool (decide (s.getD ((m).toNat) 0≠((0 :Nat):Int)))) rfl ⟨(ret_bool (by show decide (s.getD m.toNat 0≠0) = (s.getD m.toNat 0 != 0); by_cases h9:s.getD m.toNat 0 = 0; (rw [h9]; rfl); (rw [decide_eq_true h9]; exact (bne_iff_ne.2 h9).symm))),hE0⟩
theorem c_impl_ResidueOrder (w:World) (dp:Nat) (vp:Value) (p:List Fn) (f:Int) (vy:Value) (y:List (List Int)) (hp:RP [] dp w.heap vp p) (_hf:-9223372036854775808≤f∧f≤9223372036854775807) (hy:RN [] (rdL (rdL rI)) w.heap vy y) (hqy:CapS vy) (hz:SzP p) :
  Calls Tryz.prog 45 #[(.agg #[vp]),.int .i64 f,vy] w (fun e w'=>e = .returned (.tuple #[.int .i64 (rqR p f y),.int .i64 (rqC p f y)])∧Ext w w'):=by
 refine calls_mk [(.agg #[vp]),.int .i64 f,vy] 47 Tryz.func45 rfl rfl sM ?_
 have hE0:Ext w w:=Ext.refl w
 have hl_vp:=hp.lenle
 unfold maxLen at hl_vp
 have hl_vy:=hy.lenL
 unfold maxLen at hl_vy
 refine wp_seq (wp_plain _ [3,0,0] rfl (r_boxA (cs:=#[vp]) rfl zN fun w1 hX1 hz1 hB1=>?_))
 have hzs1:w.heap.size≤w1.heap.size:=hX1.size
 have hE1:Ext w w1:=hE0.trans hX1
 replace hB1:BX w1.heap w.heap.size [vp]:=hB1
 refine lw_tvn 2 rfl (wp_seq (wp_seq (wp_plain _ [2,0,0,3,0] rfl (q_loadA (p:=(.pointer (some ⟨w.heap.size,0,none⟩))) (.inr rfl) [vp] agg26 rfl (fun wq9 hw9=>LD.of_box (BX.ext (w:=w1) hB1 hw9)) rfl zN (lw_tv 2 rfl (lw_call 113 [] [] [(.agg #[vp]),(.int .i64 f),vy] rfl rfl cf113 zN (c_impl_isGuess _ dp vp (p) _ vy (y) (hp.ext (good_rdS (good_rFn dp)) hE1) _hf (hy.ext g2 hE1) hqy (by exact hz)) ?_))))))
 rintro e2 w2 ⟨rfl,hX2⟩
 refine ⟨_,rfl,hX2,?_⟩
 have hzs2:w1.heap.size≤w2.heap.size:=hX2.size
 have hE2:Ext w w2:=hE1.trans hX2
 have hB1x2:=hB1.ext hX2
 refine lw_tvn 1 rfl (wp_seq (wp_plain _ [0,0] rfl (lw_tv 1 rfl ?_)))
 by_cases hc3:gqC p f y≠((0 :Nat):Int)
 ·
  exact q_neq true rfl rfl (decide_eq_true hc3) zN (lw_nil (c_cond_t rfl (wp_seq (wp_plain _ [0,0,0] rfl (lw_tvn 3 rfl (wp_ret (t_ret (post_ret [6,7] rfl (.tuple #[(.int .i64 ((0 :Nat):Int)),(.int .i64 (gqC p f y))]) rfl ⟨(by rw [rqR_n (by rw [rqC_n oM]; omega),rqC_n oM]; rfl),hE2⟩))))))))
 ·
  refine q_neq false rfl rfl (decide_eq_false hc3) zN (lw_nil (c_cond_f rfl (wp_skip (wp_seq (wp_plain _ [2,0,0,3,0,0,0,0,0,0,0] rfl ?_)))))
  have hg0:gqC p f y = 0:=by omega
  have hq0:=gqC_0 hg0
  have hvp:=okP_vpr hq0.1
  have hsy:=hq0.2.2.2.2.1
  have hyl:=(hsy 0 oM).1
  have hEV:=ev_P hvp (f:=f.toNat) oM (wiS_ser hsy oM) (by rw [wiS_len]; omega)
  refine q_loadA (p:=(.pointer (some ⟨w.heap.size,0,none⟩))) (.inr rfl) [vp] agg26 rfl (fun wq9 hw9=>LD.of_box (BX.ext (w:=w2) hB1x2 hw9)) rfl zN (lw_tv 2 rfl (lw_call 114 [] [] [(.agg #[vp]),(.int .i64 f),vy] rfl rfl cf114 zN (c_impl_Program_residues _ dp vp (p) (f) vy (y) (hp.ext (good_rdS (good_rFn dp)) hE2) _hf (hy.ext g2 hE2) hqy (by exact hq0.1) (by exact hz) oM (by exact hq0.2.2.2.1.2) (by exact hsy) oM) ?_))
  rintro e4 w4 ⟨lv4,lu4,lc4,rfl,hX4,hlc4,hlb4,hlk4⟩
  refine ⟨_,rfl,hX4,?_⟩
  have hzs4:w2.heap.size≤w4.heap.size:=hX4.size
  have hE4:Ext w w4:=hE2.trans hX4
  have hB1x4:=hB1x2.ext hX4
  refine lw_tv 1 rfl (q_extract (vs:=[lv4,lu4,(.int .i64 lc4)]) lv4 rfl rfl zN (q_extract (vs:=[lv4,lu4,(.int .i64 lc4)]) lu4 rfl rfl zN (q_extract (vs:=[lv4,lu4,(.int .i64 lc4)]) (.int .i64 lc4) rfl rfl zN (lw_tvn 3 rfl (wp_seq (wp_seq (wp_plain _ [0,0] rfl (lw_tv 1 rfl ?_))))))))
  by_cases hc5:lc4≠((0 :Nat):Int)
  ·
   exact q_neq true rfl rfl (decide_eq_true hc5) zN (lw_nil (c_cond_t rfl (wp_seq (wp_plain _ [0,0,0] rfl (lw_tvn 3 rfl (wp_ret (t_ret (post_ret [6,7] rfl (.tuple #[(.int .i64 ((0 :Nat):Int)),(.int .i64 lc4)]) rfl ⟨(by have h9:=‹_ = evD p (oOf y + 1) f.toNat (wiS y)›; rw [rqR_n (by rw [rqC_0 hg0]; omega),rqC_0 hg0,← h9]; rfl),hE4⟩))))))))
  ·
   refine q_neq false rfl rfl (decide_eq_false hc5) zN (lw_nil (c_cond_f rfl (wp_skip (wp_seq (wp_seq (wp_plain _ [0,0,2,0,0] rfl ?_))))))
   obtain ⟨hq1,hq2,_⟩:=hlk4 oM
   have hc0:rqC p f y = 0:=by rw [rqC_0 hg0]; omega
   have hel:(evR p (oOf y + 1) f.toNat (wiS y)).length = (p.getD f.toNat Fn.zero).outs.length:=hEV.len oM
   have hes:=hEV.ser
   have hl9:((evR p (oOf y + 1) f.toNat (wiS y)).getD 0 []).length = (y.getD 0 []).length:=by have:=(hes 0 oM).1; omega
   refine lw_tv 1 rfl (q_idx (v:=lv4) 0 u32 ti27 rfl rfl hq1.slL rfl sD zN ?_)
   obtain ⟨ue6,hl6,hr6⟩:=RN.getL (w:=w4) g1 [] (k:=0) hq1 sD
   have hln6:=hr6.lenL
   unfold maxLen at hln6
   refine q_load (p:=eptr lv4 0 1) (.inr rfl) ue6 one27 rfl (hl6 _ (Chg.refl _ _)) zN (q_len (v:=ue6) u27 rfl hr6.slL zN (lw_tvn 1 rfl (wp_block (c_loop (S:=Nat) (fun (k:Nat)=>([(35,(.int .i64 ((k :Nat):Int))),(9,lv4),(34,(.int .i64 ((((evR p (oOf y + 1) f.toNat (wiS y)).getD 0 []).length :Nat):Int)))]:List (Nat × Value))) (fun (k:Nat) (W:World)=>Ext w W∧k≤(y.getD 0 []).length∧(∀ j,j < k→(evR p (oOf y + 1) f.toNat (wiS y)).any (fun s=>s.getD j 0 != 0) = false)∧RN [] (rdL (rdL rI)) W.heap lv4 (evR p (oOf y + 1) f.toNat (wiS y))) (fun (k:Nat)=>(y.getD 0 []).length - k) 0 ⟨rfl,rfl,rfl,trivial⟩ ⟨hE4,oM,(by intro j hj; omega),(by assumption)⟩ ?_))))
   clear hE0 hz1 hX1 hzs1 hE1 hX2 hzs2 hE2 hX4 hzs4 hE4 hln6
   rintro k ρ8 w8 ⟨hE8,hp8_0,hzz,hrk7⟩
   have hzs8:w.heap.size≤w8.heap.size:=hE8.size
   refine wp_seq (wp_plain _ [0] rfl ?_)
   by_cases hc9:((k :Nat):Int) < ((((evR p (oOf y + 1) f.toNat (wiS y)).getD 0 []).length :Nat):Int)
   ·
    refine q_lss true rfl rfl (decide_eq_true hc9) zN (lw_nil (wp_seq (c_cond_t rfl (wp_skip (wp_seq (wp_block (wp_seq (wp_plain _ [0,3,4] rfl (lw_tv 1 rfl (r_allocA (z:=(.int .i64 (0:Int))) (by kernel_rfl) zN fun w10 hX10 hz10 hB10=>?_))))))))))
    have hzs10:w8.heap.size≤w10.heap.size:=hX10.size
    have hE10:Ext w w10:=hE8.trans hX10
    have hN11:=hrk7.ext g2 hX10
    replace hB10:BX w10.heap w8.heap.size [(.int .i64 (0:Int))]:=hB10
    refine e_setB (k:=0) (w:=w10) sz3 rfl rfl ⟨rfl,rfl⟩ hB10 sM zN fun w12 hC12 hz12 hB12=>?_
    replace hB12:BX w12.heap w8.heap.size [(.int .i64 ((k :Nat):Int))]:=hB12
    have hE12:Ext w w12:=hC12.below hE10 (fun c hc=>by have:=List.mem_singleton.1 hc; omega) hE10.size
    have hzs12:w10.heap.size≤w12.heap.size:=hC12.size
    have hN13:=hrk7.ext g2 (hC12.below hX10 (fun c hc=>by have:=List.mem_singleton.1 hc; omega) hX10.size)
    refine lw_nil (wp_seq (wp_plain _ [0,0,3] rfl (lw_tv 1 rfl (q_func [] [(.pointer (some ⟨w8.heap.size,0,none⟩))] rfl rfl zN (lw_call 115 [] [] [lv4,(.func (.func 116) #[] #[(.pointer (some ⟨w8.heap.size,0,none⟩))])] rfl rfl cf115 zN (c_cntM _ _ _ 116 [] [(.pointer (some ⟨w8.heap.size,0,none⟩))] (fun s=>s.getD k 0 != 0) (hN13).rd cf116 (fun u j w1 hj hx hw=>c_impl_ResidueOrder_1 w1 u _ w8.heap.size ((k :Nat):Int) hx ((BX.ext (w:=w12) hB12 hw).ld (k:=0) sM) oM (by have:=(hes j hj).1; omega))) ?_)))))
    rintro e14 w14 ⟨rfl,hX14⟩
    refine ⟨_,rfl,hX14,?_⟩
    have hzs14:w12.heap.size≤w14.heap.size:=hX14.size
    have hE14:Ext w w14:=hE12.trans hX14
    have hB12x14:=hB12.ext hX14
    have hN15:=hN13.ext g2 hX14
    refine lw_nil ?_
    cases hb16:((evR p (oOf y + 1) f.toNat (wiS y)).any (fun s=>s.getD k 0 != 0))
    ·
     exact c_cond_f (by first | rfl | (show Value.bool _ = _; rw [hb16])) (wp_skip (wp_plain _ [0,0] rfl (q_add ((k + 1 :Nat):Int) rfl rfl (w64n oM sD) zN (lw_tvn 1 rfl ⟨(k + 1),_,rfl,⟨rfl,rfl,rfl,trivial⟩,⟨hE14,oM,(by intro j hj; by_cases h9:j = k; (subst h9; assumption); exact hzz j oM),(by assumption)⟩,by first | omega | (dsimp only; omega)⟩))))
    ·
     exact c_cond_t (by first | rfl | (show Value.bool _ = _; rw [hb16])) (wp_seq (wp_plain _ [2,0,0] rfl (q_load (p:=(.pointer (some ⟨w8.heap.size,0,none⟩))) (.inr rfl) (.int .i64 ((k :Nat):Int)) one3 rfl (hB12x14.ld (k:=0) sM) zN (lw_tvn 2 rfl (wp_ret (b_ret (t_ret (t_ret (b_ret (t_ret (post_ret [6,7] rfl (.tuple #[(.int .i64 ((k :Nat):Int)),(.int .i64 ((0 :Nat):Int))]) rfl ⟨(by rw [rqR_0 hc0,hc0,← (IsRO.mk oM (fun i hi j hj=>any_eq (hzz j hj) i hi) (.inr (any_ne (by assumption)))).eq]; rfl),hE14⟩)))))))))))
   ·
    refine q_lss false rfl rfl (decide_eq_false hc9) zN (lw_nil (wp_seq (c_cond_f rfl (wp_exit (t_exit (t_exit (c_exit_here (wp_seq (wp_plain _ [0,0,2,0,0,0] rfl (lw_tv 1 rfl (q_idx (v:=lv4) 0 u32 ti27 rfl rfl hrk7.slL rfl sD zN ?_)))))))))))
    obtain ⟨ue17,hl17,hr17⟩:=RN.getL (w:=w8) g1 [] (k:=0) hrk7 sD
    have hln17:=hr17.lenL
    unfold maxLen at hln17
    exact q_load (p:=eptr lv4 0 1) (.inr rfl) ue17 one27 rfl (hl17 _ (Chg.refl _ _)) zN (q_len (v:=ue17) u27 rfl hr17.slL zN (lw_tvn 2 rfl (wp_ret (post_ret [6,7] rfl (.tuple #[(.int .i64 ((((evR p (oOf y + 1) f.toNat (wiS y)).getD 0 []).length :Nat):Int)),(.int .i64 ((0 :Nat):Int))]) rfl ⟨(by rw [rqR_0 hc0,hc0,← (IsRO.mk (Nat.le_refl _) (fun i hi j hj=>any_eq (hzz j oM) i hi) (.inl rfl)).eq,hl9]; rfl),hE8⟩))))
end Go.Proofs.YtnokbaiemimhjaaGreat
namespace Go.Proofs.YtnokbaiemimhjaaGreat
open Go Go.RowKit
set_option linter.unusedVariables false
set_option linter.unusedSimpArgs false
set_option maxHeartbeats 4000000
set_option maxRecDepth 100000
attribute [local irreducible] LW
theorem c_spec_l00Max (w:World) (a:Int) (b:Int) (_ha:-9223372036854775808≤a∧a≤9223372036854775807) (_hb:-9223372036854775808≤b∧b≤9223372036854775807)  :
  Calls Tryz.prog 252 #[.int .i64 a,.int .i64 b] w (fun e w'=>e = .returned (.int .i64 (max a b))∧w' = w):=by
 refine calls_mk [.int .i64 a,.int .i64 b] 10 Tryz.func252 rfl rfl sM ?_
 have hE0:w = w:=rfl
 refine wp_seq (wp_plain _ [0] rfl (lw_tvn 1 rfl (wp_seq (wp_seq (wp_plain _ [0,0,0] rfl (lw_tv 2 rfl ?_))))))
 by_cases hc1:b < a
 ·
  exact q_gtr true rfl rfl (decide_eq_true hc1) zN (lw_nil (c_cond_t rfl (wp_seq (wp_plain _ [0,0] rfl (lw_tvn 2 rfl (wp_ret (t_ret (post_ret [4] rfl (.int .i64 a) rfl ⟨(ret_int oM),hE0⟩))))))))
 ·
  exact q_gtr false rfl rfl (decide_eq_false hc1) zN (lw_nil (c_cond_f rfl (wp_skip (wp_seq (wp_plain _ [0,0] rfl (lw_tvn 2 rfl (wp_ret (post_ret [4] rfl (.int .i64 b) rfl ⟨(ret_int oM),hE0⟩))))))))
theorem z235_0 {p:Prop} (h:p:=by rw [lftE_eq,hx]; first | rw [List.take_of_length_le oM] | exact (lfts_stop oM).symm):p:=h
theorem c_spec_l02Left (w:World) (dex:Nat) (ve:Value) (ex:Ex) (left:Int) (hex:RN [] (rP (rEx dex)) w.heap ve ex) (_hleft:-9223372036854775808≤left∧left≤9223372036854775807) (hl0:0≤left∧left≤100000) (hs:ex.size≤1000000000) :
  Calls Tryz.prog 235 #[ve,.int .i64 left] w (fun e w'=>e = .returned (.int .i64 (lftE ex left))∧Ext w w'):=by
 induction dex using Nat.strongRecOn generalizing w ve ex left
 rename_i dex ih
 refine calls_mk [ve,.int .i64 left] 30 Tryz.func235 rfl rfl sM ?_
 have hE0:Ext w w:=Ext.refl w
 have hsk:=size_kids ex
 refine wp_seq (wp_plain _ [0] rfl (lw_tvn 1 rfl (wp_seq (wp_plain _ [0,0,0] rfl (lw_tv 1 rfl (q_sub (left - 1) rfl rfl (w64 oM oM) zN (lw_tvn 1 rfl (wp_seq (wp_seq (wp_plain _ [0] rfl (lw_tvn 1 rfl (wp_block ?_))))))))))))
 refine c_loop (S:=Nat × Int) (fun (⟨k,x⟩:Nat × Int)=>([(1,(.int .i64 x)),(5,(.int .i64 ((k :Nat):Int))),(0,ve)]:List (Nat × Value))) (fun (⟨k,x⟩:Nat × Int) (W:World)=>Ext w W∧k≤ex.kids.length∧x = lfts (ex.kids.take k) (left - 1)∧(-1≤x∧x≤left)) (fun (⟨k,x⟩:Nat × Int)=>ex.kids.length - k) (0,(left - 1)) ⟨rfl,rfl,rfl,trivial⟩ ⟨hE0,sD,(by rw [List.take_zero,lfts]),oM⟩ ?_
 clear hE0
 rintro ⟨k,x⟩ ρ1 w1 ⟨hE1,hp1_0,hx,hp1_2⟩
 have hzs1:w.heap.size≤w1.heap.size:=hE1.size
 refine wp_seq (wp_seq (wp_plain _ [0,0,0,0,2,0,0,0,0,0,0] rfl (lw_tv 2 rfl (q_nilP (hex.isPtr) rfl zN ?_))))
 obtain ⟨cs2,hr2,hl2⟩:=RN.at (good_rEx _) hex
 obtain ⟨dd2,ve2,hd2,rfl,hx2⟩:=RX.of hr2
 have hln2:=hx2.rn.lenle
 unfold maxLen at hln2
 refine q_fldL (p:=ve) 4 fd174_4 rfl (hl2 _ (Chg.of_ext [] hE1)) zN (q_load (p:=(padd ve 4)) (.inr rfl) ve2 one53 rfl ((hl2 _ (Chg.of_ext [] hE1)).ld (i:=4) (by simp [exC,fnC])) zN (q_len (v:=ve2) u53 rfl hx2.rn.isSl zN ?_))
 by_cases hc3:((k :Nat):Int) < ((ex.kids.length :Nat):Int)
 ·
  refine q_lss true rfl rfl (decide_eq_true hc3) zN (lw_tv 2 rfl ?_)
  by_cases hc4:((0 :Nat):Int)≤x
  ·
   refine q_geq true rfl rfl (decide_eq_true hc4) (zS (e:=15) rfl rfl rfl) (lw_tvn 1 rfl (c_cond_t rfl (wp_skip (wp_seq (wp_block (wp_plain _ [0,0,0,2,0,0,0,3,0] rfl ?_))))))
   have hst:=sizes_step (l:=ex.kids) (k:=k) oM
   have hle:=sizes_take ex.kids (k + 1)
   have hnx:=lfts_step (l:=ex.kids) (k:=k) (x:=left - 1) oM oM
   have hnr:=lftE_rng (e:=ex.kids.getD k Ex.zero) (x:=x) oM
   refine lw_tv 1 rfl (q_nilP (hex.isPtr) rfl zN (q_fldL (p:=ve) 4 fd174_4 rfl (hl2 _ (Chg.of_ext [] hE1)) zN (q_load (p:=(padd ve 4)) (.inr rfl) ve2 one53 rfl ((hl2 _ (Chg.of_ext [] hE1)).ld (i:=4) (by simp [exC,fnC])) zN (lw_tv 1 rfl (q_idx (v:=ve2) k u53 tiS174 rfl rfl hx2.rn.isSl rfl sD zN (lw_tv 1 rfl ?_))))))
   refine lw_call 235 [] [] [(eptr ve2 k 5),(.int .i64 x)] rfl rfl cf235 zN (ih dd2 oM _ (eptr ve2 k 5) (ex.kids.getD k Ex.zero) _ (RN.ptr (good_rEx dd2) (by decide) Ex.zero (hx2.rn.ext (good_rdS (good_rEx dd2)) hE1) sD) oM oM oM) ?_
   rintro e5 w5 ⟨rfl,hX5⟩
   refine ⟨_,rfl,hX5,?_⟩
   have hzs5:=hX5.size
   have hE5:=hE1.trans hX5
   refine lw_tvn 1 rfl (wp_plain _ [0,0,0] rfl (lw_tv 1 rfl (q_add ((k + 1 :Nat):Int) rfl rfl (w64n oM sD) zN (lw_tvn 1 rfl ?_))))
   exact ⟨((k + 1),(lftE (ex.kids.getD k Ex.zero) x)),_,rfl,⟨rfl,rfl,rfl,trivial⟩,⟨hE5,sD,(by rw [hnx,hx]),oM⟩,by first | omega | (dsimp only; omega)⟩
  ·
   exact q_geq false rfl rfl (decide_eq_false hc4) (zS (e:=15) rfl rfl rfl) (lw_tvn 1 rfl (c_cond_f rfl (wp_exit (t_exit (t_exit (c_exit_here (wp_seq (wp_plain _ [0,0] rfl (lw_tvn 2 rfl (wp_ret (post_ret [4] rfl (.int .i64 x) rfl ⟨(ret_int z235_0),hE1⟩)))))))))))
 ·
  exact q_lss false rfl rfl (decide_eq_false hc3) zN (lw_tvn 4 rfl (c_cond_f rfl (wp_exit (t_exit (t_exit (c_exit_here (wp_seq (wp_plain _ [0,0] rfl (lw_tvn 2 rfl (wp_ret (post_ret [4] rfl (.int .i64 x) rfl ⟨(ret_int z235_0),hE1⟩)))))))))))
theorem c_spec_l02Depth (w:World) (dex:Nat) (ve:Value) (ex:Ex) (hex:RN [] (rP (rEx dex)) w.heap ve ex) (hs:ex.size≤1000000000) :
  Calls Tryz.prog 246 #[ve] w (fun e w'=>e = .returned (.int .i64 ((ex.deep :Nat):Int))∧Ext w w'):=by
 induction dex using Nat.strongRecOn generalizing w ve ex
 rename_i dex ih
 refine calls_mk [ve] 25 Tryz.func246 rfl rfl sM ?_
 have hE0:Ext w w:=Ext.refl w
 have hsk:=size_kids ex
 have hdk:=deep_kids ex
 refine wp_seq (wp_plain _ [0] rfl (lw_tvn 1 rfl (wp_seq (wp_plain _ [0] rfl (lw_tvn 1 rfl (wp_seq (wp_seq (wp_plain _ [0] rfl (lw_tvn 1 rfl (wp_block ?_))))))))))
 refine c_loop (S:=Nat × Int) (fun (⟨k,sz⟩:Nat × Int)=>([(3,(.int .i64 sz)),(4,(.int .i64 ((k :Nat):Int))),(0,ve)]:List (Nat × Value))) (fun (⟨k,sz⟩:Nat × Int) (W:World)=>Ext w W∧k≤ex.kids.length∧sz = ((Ex.deeps (ex.kids.take k) :Nat):Int)∧(0≤sz∧sz≤1000000000)) (fun (⟨k,sz⟩:Nat × Int)=>ex.kids.length - k) (0,((0 :Nat):Int)) ⟨rfl,rfl,rfl,trivial⟩ ⟨hE0,sD,(by rw [List.take_zero,deeps_nil] <;> rfl),oM⟩ ?_
 clear hE0
 rintro ⟨k,sz⟩ ρ1 w1 ⟨hE1,hp1_0,hsz,hp1_2⟩
 have hzs1:w.heap.size≤w1.heap.size:=hE1.size
 refine wp_seq (wp_seq (wp_plain _ [0,0,0,0,2,0,0] rfl (lw_tv 2 rfl (q_nilP (hex.isPtr) rfl zN ?_))))
 obtain ⟨cs2,hr2,hl2⟩:=RN.at (good_rEx _) hex
 obtain ⟨dd2,ve2,hd2,rfl,hx2⟩:=RX.of hr2
 have hln2:=hx2.rn.lenle
 unfold maxLen at hln2
 refine q_fldL (p:=ve) 4 fd174_4 rfl (hl2 _ (Chg.of_ext [] hE1)) zN (q_load (p:=(padd ve 4)) (.inr rfl) ve2 one53 rfl ((hl2 _ (Chg.of_ext [] hE1)).ld (i:=4) (by simp [exC,fnC])) zN (q_len (v:=ve2) u53 rfl hx2.rn.isSl zN ?_))
 by_cases hc3:((k :Nat):Int) < ((ex.kids.length :Nat):Int)
 ·
  refine q_lss true rfl rfl (decide_eq_true hc3) zN (lw_nil (c_cond_t rfl (wp_skip (wp_seq (wp_block (wp_plain _ [0,0,0,0,2,0,0,3,0,0] rfl ?_))))))
  have hst:=sizes_step (l:=ex.kids) (k:=k) oM
  have hle:=sizes_take ex.kids (k + 1)
  have hdt:=deeps_step (l:=ex.kids) (k:=k) oM
  have hda:=deep_size (ex.kids.getD k Ex.zero)
  have hdz:=deeps_size (ex.kids.take k)
  refine lw_tv 2 rfl (q_nilP (hex.isPtr) rfl zN (q_fldL (p:=ve) 4 fd174_4 rfl (hl2 _ (Chg.of_ext [] hE1)) zN (q_load (p:=(padd ve 4)) (.inr rfl) ve2 one53 rfl ((hl2 _ (Chg.of_ext [] hE1)).ld (i:=4) (by simp [exC,fnC])) zN (lw_tv 1 rfl (q_idx (v:=ve2) k u53 tiS174 rfl rfl hx2.rn.isSl rfl sD zN ?_)))))
  refine lw_call 246 [] [] [(eptr ve2 k 5)] rfl rfl cf246 zN (ih dd2 oM _ (eptr ve2 k 5) (ex.kids.getD k Ex.zero) (RN.ptr (good_rEx dd2) (by decide) Ex.zero (hx2.rn.ext (good_rdS (good_rEx dd2)) hE1) sD) oM) ?_
  rintro e4 w4 ⟨rfl,hX4⟩
  refine ⟨_,rfl,hX4,?_⟩
  have hzs4:=hX4.size
  have hE4:=hE1.trans hX4
  refine lw_callq 252 [] [] [(.int .i64 sz),(.int .i64 (((ex.kids.getD k Ex.zero).deep :Nat):Int))] rfl rfl cf252 zN (.int .i64 (max sz (((ex.kids.getD k Ex.zero).deep :Nat):Int))) (fun wq=>c_spec_l00Max wq _ _ oM (by have:=deep_size (ex.kids.getD k Ex.zero); omega)) (lw_tvn 1 rfl (wp_plain _ [0,0,0] rfl (lw_tv 1 rfl (q_add ((k + 1 :Nat):Int) rfl rfl (w64n oM sD) zN (lw_tvn 1 rfl ?_)))))
  exact ⟨((k + 1),(max sz (((ex.kids.getD k Ex.zero).deep :Nat):Int))),_,rfl,⟨rfl,rfl,rfl,trivial⟩,⟨hE4,sD,oM,oM⟩,by first | omega | (dsimp only; omega)⟩
 ·
  refine q_lss false rfl rfl (decide_eq_false hc3) zN (lw_nil (c_cond_f rfl (wp_exit (t_exit (t_exit (c_exit_here (wp_seq (wp_plain _ [0,0,0] rfl ?_))))))))
  have h8:=deeps_all (l:=ex.kids) (k:=k) oM
  have h9:=deep_size ex
  exact lw_tv 1 rfl (q_add (sz + 1) rfl rfl (w64 oM oM) zN (lw_tvn 1 rfl (wp_ret (post_ret [2] rfl (.int .i64 (sz + 1)) rfl ⟨(ret_int oM),hE1⟩))))
theorem z202_0 {p:Prop} (h:p:=by unfold kdN; repeat (first | rfl | (rw [if_pos oM]) | (rw [if_neg oM]))):p:=h
theorem c_spec_l02Kids (w:World) (kind:Int) (_hkind:-9223372036854775808≤kind∧kind≤9223372036854775807)  :
  Calls Tryz.prog 202 #[.int .i64 kind] w (fun e w'=>e = .returned (.int .i64 (kdN kind))∧w' = w):=by
 refine calls_mk [.int .i64 kind] 17 Tryz.func202 rfl rfl sM ?_
 have hE0:w = w:=rfl
 refine wp_seq (wp_plain _ [0] rfl (lw_tvn 1 rfl (wp_seq (wp_seq (wp_plain _ [0] rfl (lw_tvn 1 rfl (wp_block (wp_seq (wp_seq (wp_plain _ [0,0] rfl ?_))))))))))
 by_cases hc1:kind = ((1 :Nat):Int)
 ·
  exact q_eql true rfl rfl (decide_eq_true hc1) zN (lw_tvn 1 rfl (c_cond_t rfl (wp_skip (c_cond_t rfl (wp_seq (wp_plain _ [0] rfl (lw_tvn 1 rfl (wp_ret (b_ret (t_ret (post_ret [2] rfl (.int .i64 ((0 :Nat):Int)) rfl ⟨(ret_int z202_0),hE0⟩)))))))))))
 ·
  refine q_eql false rfl rfl (decide_eq_false hc1) zN (lw_tvn 1 rfl (c_cond_f rfl (wp_plain _ [0,0] rfl ?_)))
  by_cases hc2:kind = ((2 :Nat):Int)
  ·
   exact q_eql true rfl rfl (decide_eq_true hc2) zN (lw_tvn 1 rfl (c_cond_t rfl (wp_seq (wp_plain _ [0] rfl (lw_tvn 1 rfl (wp_ret (b_ret (t_ret (post_ret [2] rfl (.int .i64 ((0 :Nat):Int)) rfl ⟨(ret_int z202_0),hE0⟩)))))))))
  ·
   refine q_eql false rfl rfl (decide_eq_false hc2) zN (lw_tvn 1 rfl (c_cond_f rfl (wp_seq (wp_seq (wp_plain _ [0,0] rfl ?_)))))
   by_cases hc3:kind = ((3 :Nat):Int)
   ·
    exact q_eql true rfl rfl (decide_eq_true hc3) zN (lw_tvn 1 rfl (c_cond_t rfl (wp_skip (c_cond_t rfl (wp_seq (wp_plain _ [0] rfl (lw_tvn 1 rfl (wp_ret (b_ret (t_ret (post_ret [2] rfl (.int .i64 ((2 :Nat):Int)) rfl ⟨(ret_int z202_0),hE0⟩)))))))))))
   ·
    refine q_eql false rfl rfl (decide_eq_false hc3) zN (lw_tvn 1 rfl (c_cond_f rfl (wp_seq (wp_plain _ [0,0] rfl ?_))))
    by_cases hc4:kind = ((4 :Nat):Int)
    ·
     exact q_eql true rfl rfl (decide_eq_true hc4) zN (lw_tvn 1 rfl (c_cond_t rfl (wp_skip (c_cond_t rfl (wp_seq (wp_plain _ [0] rfl (lw_tvn 1 rfl (wp_ret (b_ret (t_ret (post_ret [2] rfl (.int .i64 ((2 :Nat):Int)) rfl ⟨(ret_int z202_0),hE0⟩)))))))))))
    ·
     refine q_eql false rfl rfl (decide_eq_false hc4) zN (lw_tvn 1 rfl (c_cond_f rfl (wp_seq (wp_plain _ [0,0] rfl ?_))))
     by_cases hc5:kind = ((5 :Nat):Int)
     ·
      exact q_eql true rfl rfl (decide_eq_true hc5) zN (lw_tvn 1 rfl (c_cond_t rfl (wp_skip (c_cond_t rfl (wp_seq (wp_plain _ [0] rfl (lw_tvn 1 rfl (wp_ret (b_ret (t_ret (post_ret [2] rfl (.int .i64 ((2 :Nat):Int)) rfl ⟨(ret_int z202_0),hE0⟩)))))))))))
     ·
      refine q_eql false rfl rfl (decide_eq_false hc5) zN (lw_tvn 1 rfl (c_cond_f rfl (wp_seq (wp_plain _ [0,0] rfl ?_))))
      by_cases hc6:kind = ((6 :Nat):Int)
      ·
       exact q_eql true rfl rfl (decide_eq_true hc6) zN (lw_tvn 1 rfl (c_cond_t rfl (wp_skip (c_cond_t rfl (wp_seq (wp_plain _ [0] rfl (lw_tvn 1 rfl (wp_ret (b_ret (t_ret (post_ret [2] rfl (.int .i64 ((2 :Nat):Int)) rfl ⟨(ret_int z202_0),hE0⟩)))))))))))
      ·
       refine q_eql false rfl rfl (decide_eq_false hc6) zN (lw_tvn 1 rfl (c_cond_f rfl (wp_plain _ [0,0] rfl ?_)))
       by_cases hc7:kind = ((9 :Nat):Int)
       ·
        exact q_eql true rfl rfl (decide_eq_true hc7) zN (lw_tvn 1 rfl (c_cond_t rfl (wp_seq (wp_plain _ [0] rfl (lw_tvn 1 rfl (wp_ret (b_ret (t_ret (post_ret [2] rfl (.int .i64 ((2 :Nat):Int)) rfl ⟨(ret_int z202_0),hE0⟩)))))))))
       ·
        refine q_eql false rfl rfl (decide_eq_false hc7) zN (lw_tvn 1 rfl (c_cond_f rfl (wp_seq (wp_plain _ [0,0] rfl ?_))))
        by_cases hc8:kind = ((7 :Nat):Int)
        ·
         exact q_eql true rfl rfl (decide_eq_true hc8) zN (lw_tvn 1 rfl (c_cond_t rfl (wp_seq (wp_plain _ [0] rfl (lw_tvn 1 rfl (wp_ret (b_ret (t_ret (post_ret [2] rfl (.int .i64 ((1 :Nat):Int)) rfl ⟨(ret_int z202_0),hE0⟩)))))))))
        ·
         refine q_eql false rfl rfl (decide_eq_false hc8) zN (lw_tvn 1 rfl (c_cond_f rfl (wp_seq (wp_plain _ [0,0] rfl ?_))))
         by_cases hc9:kind = ((8 :Nat):Int)
         ·
          exact q_eql true rfl rfl (decide_eq_true hc9) zN (lw_tvn 1 rfl (c_cond_t rfl (wp_seq (wp_plain _ [0] rfl (lw_tvn 1 rfl (wp_ret (b_ret (t_ret (post_ret [2] rfl (.int .i64 ((3 :Nat):Int)) rfl ⟨(ret_int z202_0),hE0⟩)))))))))
         ·
          exact q_eql false rfl rfl (decide_eq_false hc9) zN (lw_tvn 1 rfl (c_cond_f rfl (wp_skip (wp_seq (wp_plain _ [0] rfl (lw_tvn 1 rfl (wp_ret (post_ret [2] rfl (.int .i64 (-1)) rfl ⟨(ret_int z202_0),hE0⟩))))))))
theorem z253_0 {p:Prop} (h:p:=by first | exact ret_bool (nd_bad oM oM oM) | exact ret_bool (nd_1 oM oM oM oM) | exact ret_bool (nd_2 oM oM oM oM) | exact ret_bool ((decide_congr oM).trans (nd_o oM oM oM oM oM oM oM)) | exact ret_bool (by unfold wfN plainB inB; first | (simp [*]; done) | (simp [*]; omega) | (simp [*] <;> intros <;> omega) | (simp_all; done) | (simp_all <;> omega))):p:=h
theorem z253_1 {p:Prop} (h:p:=by simp [exC,fnC]):p:=h
theorem c_spec_l02Node (w:World) (dp:Nat) (vp:Value) (p:List Fn) (dex:Nat) (ve:Value) (ex:Ex) (vars:Int) (funcs:Int) (hp:RN [] (rP (rPr dp)) w.heap vp p) (hex:RN [] (rP (rEx dex)) w.heap ve ex) (_hvars:-9223372036854775808≤vars∧vars≤9223372036854775807) (_hfuncs:-9223372036854775808≤funcs∧funcs≤9223372036854775807) (hv:0≤vars∧vars≤2000000000) (hf:0≤funcs∧funcs≤((p.length :Nat):Int)) :
  Calls Tryz.prog 253 #[vp,ve,.int .i64 vars,.int .i64 funcs] w (fun e w'=>e = .returned (.bool (wfN p funcs vars ex))∧Ext w w'):=by
 refine calls_mk [vp,ve,.int .i64 vars,.int .i64 funcs] 140 Tryz.func253 rfl rfl sM ?_
 have hE0:Ext w w:=Ext.refl w
 refine wp_seq (wp_plain _ [0] rfl (lw_tvn 1 rfl (wp_seq (wp_seq (wp_plain _ [0,0,0,2,0,0,0,0,0,2,0,0] rfl (lw_tv 1 rfl (q_nilP (hex.isPtr) rfl zN ?_)))))))
 obtain ⟨cs1,hr1,hl1⟩:=RN.at (good_rEx _) hex
 obtain ⟨dd1,ve1,hd1,rfl,hx1⟩:=RX.of hr1
 have hln1:=hx1.rn.lenle
 unfold maxLen at hln1
 refine q_fldL (p:=ve) 0 fd174_0 rfl (hl1 _ (Chg.of_ext [] hE0)) zN (q_load (p:=(padd ve 0)) (.inr rfl) (.int .i64 ex.kind) one2 rfl ((hl1 _ (Chg.of_ext [] hE0)).ld (i:=0) z253_1) zN ?_)
 by_cases hc2:ex.kind = ((10 :Nat):Int)
 ·
  refine q_eql true rfl rfl (decide_eq_true hc2) zN (lw_tvn 7 rfl (c_cond_t rfl (wp_seq (wp_seq (wp_plain _ [0,0,0,2,0,0,0,0] rfl (lw_tv 1 rfl (q_nilP (hex.isPtr) rfl zN (q_fldL (p:=ve) 1 fd174_1 rfl (hl1 _ (Chg.of_ext [] hE0)) zN (q_load (p:=(padd ve 1)) (.inr rfl) (.int .i64 ex.num) one2 rfl ((hl1 _ (Chg.of_ext [] hE0)).ld (i:=1) z253_1) zN (lw_tv 1 rfl (q_sub (funcs - 1) rfl rfl (w64 oM oM) zN (lw_callq 92 [] [] [(.int .i64 ex.num),(.int .i64 ((0 :Nat):Int)),(.int .i64 (funcs - 1))] rfl rfl cf92 zN (.bool (decide (((0 :Nat):Int)≤ex.num) && decide (ex.num≤(funcs - 1)))) (fun wq=>c_spec_l00In wq _ _ _ hx1.rng.num oM oM) ?_))))))))))))
  refine q_not (!(decide (((0 :Nat):Int)≤ex.num) && decide (ex.num≤(funcs - 1)))) rfl rfl zN (lw_nil ?_)
  cases hb4:(!(decide (((0 :Nat):Int)≤ex.num) && decide (ex.num≤(funcs - 1))))
  ·
   refine c_cond_f (by first | rfl | (show Value.bool _ = _; rw [hb4])) (wp_skip (wp_seq (wp_draw _ [0,0,0,1,0,0,0,1,0,0] mixed (by kernel_rfl) ?_)))
   have hnr:=inB_e (bn_f (by assumption):(decide (((0 :Nat):Int)≤ex.num) && decide (ex.num≤funcs - 1)) = true)
   refine lw_tv 1 rfl (q_nilP (hp.isPtr) rfl zN ?_)
   obtain ⟨cs5,hr5,hl5⟩:=RN.at (good_rPr _) hp
   obtain ⟨ve5,rfl,hx5⟩:=RPr.of hr5
   have hln5:=hx5.lenle
   unfold maxLen at hln5
   refine q_fldL (p:=vp) 0 fd26_0 rfl (hl5 _ (Chg.of_ext [] hE0.drew)) zN (q_load (p:=(padd vp 0)) (.inl rfl) ve5 one24 rfl ((hl5 _ (Chg.of_ext [] hE0.drew)).ld (i:=0) z253_1) zN (lw_tv 1 rfl (q_nilP (hex.isPtr) rfl zN (q_fldL (p:=ve) 1 fd174_1 rfl (hl1 _ (Chg.of_ext [] hE0.drew)) zN (q_load (p:=(padd ve 1)) (.inl rfl) (.int .i64 ex.num) one2 rfl ((hl1 _ (Chg.of_ext [] hE0.drew)).ld (i:=1) z253_1) zN ?_)))))
   refine q_idx (v:=ve5) ((ex.num).toNat) u24 tiS55 rfl rfl hx5.isSl oM sD zN (lw_tvn 1 rfl (wp_seq (wp_seq (wp_draw _ [0,0,0,1,0,0,0,1,0,0,0,0,0,0,0,0,1,0,0,0,0,1,0,0] mixed (by kernel_rfl) (lw_tv 1 rfl (q_nilP (hex.isPtr) rfl zN (q_fldL (p:=ve) 2 fd174_2 rfl (hl1 _ (Chg.of_ext [] hE0.drew.drew)) zN ?_)))))))
   refine q_load (p:=(padd ve 2)) (.inl rfl) (.int .i64 ex.pick) one2 rfl ((hl1 _ (Chg.of_ext [] hE0.drew.drew)).ld (i:=2) z253_1) zN (lw_tv 1 rfl (q_nilP (RN.isPtr (RN.ptr (good_rFn dp) (by decide) Fn.zero hx5 sD)) rfl zN ?_))
   obtain ⟨cs6,hr6,hl6⟩:=hx5.get (good_rFn dp) Fn.zero (k:=((ex.num).toNat)) sD
   obtain ⟨ve6,rfl,hx6⟩:=RF.of hr6
   have hln6:=hx6.rn.lenle
   unfold maxLen at hln6
   refine q_fldL (p:=eptr ve5 ((ex.num).toNat) 3) 2 fd55_2 rfl (hl6 _ (Chg.of_ext [] hE0.drew.drew)) zN (q_load (p:=(padd (eptr ve5 ((ex.num).toNat) 3) 2)) (.inl rfl) ve6 one53 rfl ((hl6 _ (Chg.of_ext [] hE0.drew.drew)).ld (i:=2) z253_1) zN (q_len (v:=ve6) u53 rfl hx6.rn.isSl zN (q_sub ((((p.getD (ex.num).toNat Fn.zero).outs.length :Nat):Int) - 1) rfl rfl (w64 oM oM) zN (lw_callq 92 [] [] [(.int .i64 ex.pick),(.int .i64 ((0 :Nat):Int)),(.int .i64 ((((p.getD (ex.num).toNat Fn.zero).outs.length :Nat):Int) - 1))] rfl rfl cf92 zN (.bool (decide (((0 :Nat):Int)≤ex.pick) && decide (ex.pick≤((((p.getD (ex.num).toNat Fn.zero).outs.length :Nat):Int) - 1)))) (fun wq=>c_spec_l00In wq _ _ _ hx1.rng.pick oM oM) ?_))))
   refine q_not (!(decide (((0 :Nat):Int)≤ex.pick) && decide (ex.pick≤((((p.getD (ex.num).toNat Fn.zero).outs.length :Nat):Int) - 1)))) rfl rfl zN (lw_tv 1 rfl ?_)
   cases hb8:(!(decide (((0 :Nat):Int)≤ex.pick) && decide (ex.pick≤((((p.getD (ex.num).toNat Fn.zero).outs.length :Nat):Int) - 1))))
   ·
    refine lw_tv 1 rfl (q_nilP (hex.isPtr) rfl (zS (e:=51) rfl rfl rfl) (q_fldL (p:=ve) 4 fd174_4 rfl (hl1 _ (Chg.of_ext [] hE0.drew.drew)) (zS (e:=51) rfl rfl rfl) (q_load (p:=(padd ve 4)) (.inl rfl) ve1 one53 rfl ((hl1 _ (Chg.of_ext [] hE0.drew.drew)).ld (i:=4) z253_1) (zS (e:=51) rfl rfl rfl) (q_len (v:=ve1) u53 rfl hx1.rn.isSl (zS (e:=51) rfl rfl rfl) (lw_tv 1 rfl ?_)))))
    refine q_nilP (RN.isPtr (RN.ptr (good_rFn dp) (by decide) Fn.zero hx5 sD)) rfl (zS (e:=51) rfl rfl rfl) (q_fldL (p:=eptr ve5 ((ex.num).toNat) 3) 1 fd55_1 rfl (hl6 _ (Chg.of_ext [] hE0.drew.drew)) (zS (e:=51) rfl rfl rfl) (q_load (p:=(padd (eptr ve5 ((ex.num).toNat) 3) 1)) (.inl rfl) (.int .i64 ((p.getD ((ex.num).toNat) Fn.zero).params)) one2 rfl ((hl6 _ (Chg.of_ext [] hE0.drew.drew)).ld (i:=1) z253_1) (zS (e:=51) rfl rfl rfl) ?_))
    by_cases hc9:((ex.kids.length :Nat):Int)≠(p.getD ((ex.num).toNat) Fn.zero).params
    ·
     exact q_neq true rfl rfl (decide_eq_true hc9) (zS (e:=51) rfl rfl rfl) (lw_tvn 1 rfl (c_cond_t rfl (wp_seq (wp_plain _ [0] rfl (lw_tvn 1 rfl (wp_ret (t_ret (t_ret (post_ret [8] rfl (.bool false) rfl ⟨z253_0,hE0.drew.drew⟩)))))))))
    ·
     refine q_neq false rfl rfl (decide_eq_false hc9) (zS (e:=51) rfl rfl rfl) (lw_tvn 1 rfl (c_cond_f rfl (wp_skip (wp_seq (wp_seq (wp_plain _ [0,0,0,2,0] rfl (lw_tv 1 rfl (q_nilP (hex.isPtr) rfl zN (q_fldL (p:=ve) 0 fd174_0 rfl (hl1 _ (Chg.of_ext [] hE0.drew.drew)) zN (q_load (p:=(padd ve 0)) (.inr rfl) (.int .i64 ex.kind) one2 rfl ((hl1 _ (Chg.of_ext [] hE0.drew.drew)).ld (i:=0) z253_1) zN ?_))))))))))
     by_cases hc10:ex.kind = ((10 :Nat):Int)
     ·
      refine q_eql true rfl rfl (decide_eq_true hc10) zN (lw_nil (c_cond_t rfl (wp_seq (wp_plain _ [0,0,0,2,0,0] rfl (lw_tv 1 rfl (q_nilP (hex.isPtr) rfl zN (q_fldL (p:=ve) 3 fd174_3 rfl (hl1 _ (Chg.of_ext [] hE0.drew.drew)) zN (q_load (p:=(padd ve 3)) (.inr rfl) (.int .i64 ex.count) one2 rfl ((hl1 _ (Chg.of_ext [] hE0.drew.drew)).ld (i:=3) z253_1) zN (q_eql (decide (ex.count = ((0 :Nat):Int))) rfl rfl rfl zN (lw_tvn 1 rfl (wp_ret (t_ret (t_ret ?_)))))))))))))
      exact post_ret [8] rfl (.bool (decide (ex.count = ((0 :Nat):Int)))) rfl ⟨z253_0,hE0.drew.drew⟩
     ·
      refine q_eql false rfl rfl (decide_eq_false hc10) zN (lw_nil (c_cond_f rfl (wp_skip (wp_seq (wp_draw _ [0,0,0,1,0,0,0,0,0,1,0,0,0,0,1,0,0,0] mixed (by kernel_rfl) (lw_tv 1 rfl (q_nilP (hex.isPtr) rfl zN (q_fldL (p:=ve) 3 fd174_3 rfl (hl1 _ (Chg.of_ext [] hE0.drew.drew.drew)) zN (q_load (p:=(padd ve 3)) (.inl rfl) (.int .i64 ex.count) one2 rfl ((hl1 _ (Chg.of_ext [] hE0.drew.drew.drew)).ld (i:=3) z253_1) zN (lw_callq 92 [] [] [(.int .i64 ex.count),(.int .i64 ((0 :Nat):Int)),(.int .i64 ((8 :Nat):Int))] rfl rfl cf92 zN (.bool (decide (((0 :Nat):Int)≤ex.count) && decide (ex.count≤((8 :Nat):Int)))) (fun wq=>c_spec_l00In wq _ _ _ hx1.rng.count oM oM) (lw_tv 1 rfl ?_)))))))))))
      cases hb12:(decide (((0 :Nat):Int)≤ex.count) && decide (ex.count≤((8 :Nat):Int)))
      ·
       exact lw_tvn 12 rfl (wp_ret (t_ret (post_ret [8] rfl (.bool false) rfl ⟨z253_0,hE0.drew.drew.drew⟩)))
      ·
       refine lw_tv 1 rfl (q_nilP (RN.isPtr (RN.ptr (good_rFn dp) (by decide) Fn.zero hx5 sD)) rfl (zS (e:=78) rfl rfl rfl) (q_fldL (p:=eptr ve5 ((ex.num).toNat) 3) 2 fd55_2 rfl (hl6 _ (Chg.of_ext [] hE0.drew.drew.drew)) (zS (e:=78) rfl rfl rfl) (q_load (p:=(padd (eptr ve5 ((ex.num).toNat) 3) 2)) (.inl rfl) ve6 one53 rfl ((hl6 _ (Chg.of_ext [] hE0.drew.drew.drew)).ld (i:=2) z253_1) (zS (e:=78) rfl rfl rfl) ?_)))
       refine q_len (v:=ve6) u53 rfl hx6.rn.isSl (zS (e:=78) rfl rfl rfl) (lw_tv 1 rfl (q_nilP (RN.isPtr (RN.ptr (good_rFn dp) (by decide) Fn.zero hx5 sD)) rfl (zS (e:=78) rfl rfl rfl) (q_fldL (p:=eptr ve5 ((ex.num).toNat) 3) 1 fd55_1 rfl (hl6 _ (Chg.of_ext [] hE0.drew.drew.drew)) (zS (e:=78) rfl rfl rfl) ?_)))
       refine q_load (p:=(padd (eptr ve5 ((ex.num).toNat) 3) 1)) (.inl rfl) (.int .i64 ((p.getD ((ex.num).toNat) Fn.zero).params)) one2 rfl ((hl6 _ (Chg.of_ext [] hE0.drew.drew.drew)).ld (i:=1) z253_1) (zS (e:=78) rfl rfl rfl) (q_eql (decide (((((p.getD ((ex.num).toNat) Fn.zero).outs).length :Nat):Int) = (p.getD ((ex.num).toNat) Fn.zero).params)) rfl rfl rfl (zS (e:=78) rfl rfl rfl) (lw_tvn 2 rfl (wp_ret (t_ret ?_))))
       exact post_ret [8] rfl (.bool (decide (((((p.getD ((ex.num).toNat) Fn.zero).outs).length :Nat):Int) = (p.getD ((ex.num).toNat) Fn.zero).params))) rfl ⟨z253_0,hE0.drew.drew.drew⟩
   ·
    exact lw_tvn 11 rfl (c_cond_t rfl (wp_seq (wp_plain _ [0] rfl (lw_tvn 1 rfl (wp_ret (t_ret (t_ret (post_ret [8] rfl (.bool false) rfl ⟨z253_0,hE0.drew.drew⟩))))))))
  ·
   exact c_cond_t (by first | rfl | (show Value.bool _ = _; rw [hb4])) (wp_seq (wp_plain _ [0] rfl (lw_tvn 1 rfl (wp_ret (t_ret (t_ret (post_ret [8] rfl (.bool false) rfl ⟨z253_0,hE0⟩)))))))
 ·
  refine q_eql false rfl rfl (decide_eq_false hc2) zN (lw_tv 2 rfl (q_nilP (hex.isPtr) rfl (zS (e:=15) rfl rfl rfl) (q_fldL (p:=ve) 0 fd174_0 rfl (hl1 _ (Chg.of_ext [] hE0)) (zS (e:=15) rfl rfl rfl) (q_load (p:=(padd ve 0)) (.inr rfl) (.int .i64 ex.kind) one2 rfl ((hl1 _ (Chg.of_ext [] hE0)).ld (i:=0) z253_1) (zS (e:=15) rfl rfl rfl) ?_))))
  by_cases hc13:ex.kind = ((11 :Nat):Int)
  ·
   refine q_eql true rfl rfl (decide_eq_true hc13) (zS (e:=15) rfl rfl rfl) (lw_tvn 1 rfl (c_cond_t rfl (wp_seq (wp_seq (wp_plain _ [0,0,0,2,0,0,0,0] rfl (lw_tv 1 rfl (q_nilP (hex.isPtr) rfl zN (q_fldL (p:=ve) 1 fd174_1 rfl (hl1 _ (Chg.of_ext [] hE0)) zN (q_load (p:=(padd ve 1)) (.inr rfl) (.int .i64 ex.num) one2 rfl ((hl1 _ (Chg.of_ext [] hE0)).ld (i:=1) z253_1) zN (lw_tv 1 rfl (q_sub (funcs - 1) rfl rfl (w64 oM oM) zN (lw_callq 92 [] [] [(.int .i64 ex.num),(.int .i64 ((0 :Nat):Int)),(.int .i64 (funcs - 1))] rfl rfl cf92 zN (.bool (decide (((0 :Nat):Int)≤ex.num) && decide (ex.num≤(funcs - 1)))) (fun wq=>c_spec_l00In wq _ _ _ hx1.rng.num oM oM) ?_))))))))))))
   refine q_not (!(decide (((0 :Nat):Int)≤ex.num) && decide (ex.num≤(funcs - 1)))) rfl rfl zN (lw_nil ?_)
   cases hb15:(!(decide (((0 :Nat):Int)≤ex.num) && decide (ex.num≤(funcs - 1))))
   ·
    refine c_cond_f (by first | rfl | (show Value.bool _ = _; rw [hb15])) (wp_skip (wp_seq (wp_draw _ [0,0,0,1,0,0,0,1,0,0] mixed (by kernel_rfl) ?_)))
    have hnr:=inB_e (bn_f (by assumption):(decide (((0 :Nat):Int)≤ex.num) && decide (ex.num≤funcs - 1)) = true)
    refine lw_tv 1 rfl (q_nilP (hp.isPtr) rfl zN ?_)
    obtain ⟨cs16,hr16,hl16⟩:=RN.at (good_rPr _) hp
    obtain ⟨ve16,rfl,hx16⟩:=RPr.of hr16
    have hln16:=hx16.lenle
    unfold maxLen at hln16
    refine q_fldL (p:=vp) 0 fd26_0 rfl (hl16 _ (Chg.of_ext [] hE0.drew)) zN (q_load (p:=(padd vp 0)) (.inl rfl) ve16 one24 rfl ((hl16 _ (Chg.of_ext [] hE0.drew)).ld (i:=0) z253_1) zN (lw_tv 1 rfl (q_nilP (hex.isPtr) rfl zN (q_fldL (p:=ve) 1 fd174_1 rfl (hl1 _ (Chg.of_ext [] hE0.drew)) zN (q_load (p:=(padd ve 1)) (.inl rfl) (.int .i64 ex.num) one2 rfl ((hl1 _ (Chg.of_ext [] hE0.drew)).ld (i:=1) z253_1) zN ?_)))))
    refine q_idx (v:=ve16) ((ex.num).toNat) u24 tiS55 rfl rfl hx16.isSl oM sD zN (lw_tvn 1 rfl (wp_seq (wp_seq (wp_draw _ [0,0,0,1,0,0,0,1,0,0,0,0,0,0,0,0,1,0,0,0,0,1,0,0] mixed (by kernel_rfl) (lw_tv 1 rfl (q_nilP (hex.isPtr) rfl zN (q_fldL (p:=ve) 2 fd174_2 rfl (hl1 _ (Chg.of_ext [] hE0.drew.drew)) zN ?_)))))))
    refine q_load (p:=(padd ve 2)) (.inl rfl) (.int .i64 ex.pick) one2 rfl ((hl1 _ (Chg.of_ext [] hE0.drew.drew)).ld (i:=2) z253_1) zN (lw_tv 1 rfl (q_nilP (RN.isPtr (RN.ptr (good_rFn dp) (by decide) Fn.zero hx16 sD)) rfl zN ?_))
    obtain ⟨cs17,hr17,hl17⟩:=hx16.get (good_rFn dp) Fn.zero (k:=((ex.num).toNat)) sD
    obtain ⟨ve17,rfl,hx17⟩:=RF.of hr17
    have hln17:=hx17.rn.lenle
    unfold maxLen at hln17
    refine q_fldL (p:=eptr ve16 ((ex.num).toNat) 3) 2 fd55_2 rfl (hl17 _ (Chg.of_ext [] hE0.drew.drew)) zN (q_load (p:=(padd (eptr ve16 ((ex.num).toNat) 3) 2)) (.inl rfl) ve17 one53 rfl ((hl17 _ (Chg.of_ext [] hE0.drew.drew)).ld (i:=2) z253_1) zN (q_len (v:=ve17) u53 rfl hx17.rn.isSl zN (q_sub ((((p.getD (ex.num).toNat Fn.zero).outs.length :Nat):Int) - 1) rfl rfl (w64 oM oM) zN (lw_callq 92 [] [] [(.int .i64 ex.pick),(.int .i64 ((0 :Nat):Int)),(.int .i64 ((((p.getD (ex.num).toNat Fn.zero).outs.length :Nat):Int) - 1))] rfl rfl cf92 zN (.bool (decide (((0 :Nat):Int)≤ex.pick) && decide (ex.pick≤((((p.getD (ex.num).toNat Fn.zero).outs.length :Nat):Int) - 1)))) (fun wq=>c_spec_l00In wq _ _ _ hx1.rng.pick oM oM) ?_))))
    refine q_not (!(decide (((0 :Nat):Int)≤ex.pick) && decide (ex.pick≤((((p.getD (ex.num).toNat Fn.zero).outs.length :Nat):Int) - 1)))) rfl rfl zN (lw_tv 1 rfl ?_)
    cases hb19:(!(decide (((0 :Nat):Int)≤ex.pick) && decide (ex.pick≤((((p.getD (ex.num).toNat Fn.zero).outs.length :Nat):Int) - 1))))
    ·
     refine lw_tv 1 rfl (q_nilP (hex.isPtr) rfl (zS (e:=51) rfl rfl rfl) (q_fldL (p:=ve) 4 fd174_4 rfl (hl1 _ (Chg.of_ext [] hE0.drew.drew)) (zS (e:=51) rfl rfl rfl) (q_load (p:=(padd ve 4)) (.inl rfl) ve1 one53 rfl ((hl1 _ (Chg.of_ext [] hE0.drew.drew)).ld (i:=4) z253_1) (zS (e:=51) rfl rfl rfl) (q_len (v:=ve1) u53 rfl hx1.rn.isSl (zS (e:=51) rfl rfl rfl) (lw_tv 1 rfl ?_)))))
     refine q_nilP (RN.isPtr (RN.ptr (good_rFn dp) (by decide) Fn.zero hx16 sD)) rfl (zS (e:=51) rfl rfl rfl) (q_fldL (p:=eptr ve16 ((ex.num).toNat) 3) 1 fd55_1 rfl (hl17 _ (Chg.of_ext [] hE0.drew.drew)) (zS (e:=51) rfl rfl rfl) (q_load (p:=(padd (eptr ve16 ((ex.num).toNat) 3) 1)) (.inl rfl) (.int .i64 ((p.getD ((ex.num).toNat) Fn.zero).params)) one2 rfl ((hl17 _ (Chg.of_ext [] hE0.drew.drew)).ld (i:=1) z253_1) (zS (e:=51) rfl rfl rfl) ?_))
     by_cases hc20:((ex.kids.length :Nat):Int)≠(p.getD ((ex.num).toNat) Fn.zero).params
     ·
      exact q_neq true rfl rfl (decide_eq_true hc20) (zS (e:=51) rfl rfl rfl) (lw_tvn 1 rfl (c_cond_t rfl (wp_seq (wp_plain _ [0] rfl (lw_tvn 1 rfl (wp_ret (t_ret (t_ret (post_ret [8] rfl (.bool false) rfl ⟨z253_0,hE0.drew.drew⟩)))))))))
     ·
      refine q_neq false rfl rfl (decide_eq_false hc20) (zS (e:=51) rfl rfl rfl) (lw_tvn 1 rfl (c_cond_f rfl (wp_skip (wp_seq (wp_seq (wp_plain _ [0,0,0,2,0] rfl (lw_tv 1 rfl (q_nilP (hex.isPtr) rfl zN (q_fldL (p:=ve) 0 fd174_0 rfl (hl1 _ (Chg.of_ext [] hE0.drew.drew)) zN (q_load (p:=(padd ve 0)) (.inr rfl) (.int .i64 ex.kind) one2 rfl ((hl1 _ (Chg.of_ext [] hE0.drew.drew)).ld (i:=0) z253_1) zN ?_))))))))))
      by_cases hc21:ex.kind = ((10 :Nat):Int)
      ·
       refine q_eql true rfl rfl (decide_eq_true hc21) zN (lw_nil (c_cond_t rfl (wp_seq (wp_plain _ [0,0,0,2,0,0] rfl (lw_tv 1 rfl (q_nilP (hex.isPtr) rfl zN (q_fldL (p:=ve) 3 fd174_3 rfl (hl1 _ (Chg.of_ext [] hE0.drew.drew)) zN (q_load (p:=(padd ve 3)) (.inr rfl) (.int .i64 ex.count) one2 rfl ((hl1 _ (Chg.of_ext [] hE0.drew.drew)).ld (i:=3) z253_1) zN (q_eql (decide (ex.count = ((0 :Nat):Int))) rfl rfl rfl zN (lw_tvn 1 rfl (wp_ret (t_ret (t_ret ?_)))))))))))))
       exact post_ret [8] rfl (.bool (decide (ex.count = ((0 :Nat):Int)))) rfl ⟨z253_0,hE0.drew.drew⟩
      ·
       refine q_eql false rfl rfl (decide_eq_false hc21) zN (lw_nil (c_cond_f rfl (wp_skip (wp_seq (wp_draw _ [0,0,0,1,0,0,0,0,0,1,0,0,0,0,1,0,0,0] mixed (by kernel_rfl) (lw_tv 1 rfl (q_nilP (hex.isPtr) rfl zN (q_fldL (p:=ve) 3 fd174_3 rfl (hl1 _ (Chg.of_ext [] hE0.drew.drew.drew)) zN (q_load (p:=(padd ve 3)) (.inl rfl) (.int .i64 ex.count) one2 rfl ((hl1 _ (Chg.of_ext [] hE0.drew.drew.drew)).ld (i:=3) z253_1) zN (lw_callq 92 [] [] [(.int .i64 ex.count),(.int .i64 ((0 :Nat):Int)),(.int .i64 ((8 :Nat):Int))] rfl rfl cf92 zN (.bool (decide (((0 :Nat):Int)≤ex.count) && decide (ex.count≤((8 :Nat):Int)))) (fun wq=>c_spec_l00In wq _ _ _ hx1.rng.count oM oM) (lw_tv 1 rfl ?_)))))))))))
       cases hb23:(decide (((0 :Nat):Int)≤ex.count) && decide (ex.count≤((8 :Nat):Int)))
       ·
        exact lw_tvn 12 rfl (wp_ret (t_ret (post_ret [8] rfl (.bool false) rfl ⟨z253_0,hE0.drew.drew.drew⟩)))
       ·
        refine lw_tv 1 rfl (q_nilP (RN.isPtr (RN.ptr (good_rFn dp) (by decide) Fn.zero hx16 sD)) rfl (zS (e:=78) rfl rfl rfl) (q_fldL (p:=eptr ve16 ((ex.num).toNat) 3) 2 fd55_2 rfl (hl17 _ (Chg.of_ext [] hE0.drew.drew.drew)) (zS (e:=78) rfl rfl rfl) (q_load (p:=(padd (eptr ve16 ((ex.num).toNat) 3) 2)) (.inl rfl) ve17 one53 rfl ((hl17 _ (Chg.of_ext [] hE0.drew.drew.drew)).ld (i:=2) z253_1) (zS (e:=78) rfl rfl rfl) ?_)))
        refine q_len (v:=ve17) u53 rfl hx17.rn.isSl (zS (e:=78) rfl rfl rfl) (lw_tv 1 rfl (q_nilP (RN.isPtr (RN.ptr (good_rFn dp) (by decide) Fn.zero hx16 sD)) rfl (zS (e:=78) rfl rfl rfl) (q_fldL (p:=eptr ve16 ((ex.num).toNat) 3) 1 fd55_1 rfl (hl17 _ (Chg.of_ext [] hE0.drew.drew.drew)) (zS (e:=78) rfl rfl rfl) ?_)))
        refine q_load (p:=(padd (eptr ve16 ((ex.num).toNat) 3) 1)) (.inl rfl) (.int .i64 ((p.getD ((ex.num).toNat) Fn.zero).params)) one2 rfl ((hl17 _ (Chg.of_ext [] hE0.drew.drew.drew)).ld (i:=1) z253_1) (zS (e:=78) rfl rfl rfl) (q_eql (decide (((((p.getD ((ex.num).toNat) Fn.zero).outs).length :Nat):Int) = (p.getD ((ex.num).toNat) Fn.zero).params)) rfl rfl rfl (zS (e:=78) rfl rfl rfl) (lw_tvn 2 rfl (wp_ret (t_ret ?_))))
        exact post_ret [8] rfl (.bool (decide (((((p.getD ((ex.num).toNat) Fn.zero).outs).length :Nat):Int) = (p.getD ((ex.num).toNat) Fn.zero).params))) rfl ⟨z253_0,hE0.drew.drew.drew⟩
    ·
     exact lw_tvn 11 rfl (c_cond_t rfl (wp_seq (wp_plain _ [0] rfl (lw_tvn 1 rfl (wp_ret (t_ret (t_ret (post_ret [8] rfl (.bool false) rfl ⟨z253_0,hE0.drew.drew⟩))))))))
   ·
    exact c_cond_t (by first | rfl | (show Value.bool _ = _; rw [hb15])) (wp_seq (wp_plain _ [0] rfl (lw_tvn 1 rfl (wp_ret (t_ret (t_ret (post_ret [8] rfl (.bool false) rfl ⟨z253_0,hE0⟩)))))))
  ·
   refine q_eql false rfl rfl (decide_eq_false hc13) (zS (e:=15) rfl rfl rfl) (lw_tvn 1 rfl (c_cond_f rfl (wp_skip (wp_seq (wp_seq (wp_draw _ [0,0,0,1,0,0,0,0,1,0,0,0,0,0,0,1,0,0,0,0,0,0,1,0,0] mixed (by kernel_rfl) (lw_tv 1 rfl (q_nilP (hex.isPtr) rfl zN (q_fldL (p:=ve) 0 fd174_0 rfl (hl1 _ (Chg.of_ext [] hE0.drew)) zN (q_load (p:=(padd ve 0)) (.inl rfl) (.int .i64 ex.kind) one2 rfl ((hl1 _ (Chg.of_ext [] hE0.drew)).ld (i:=0) z253_1) zN (lw_callq 202 [] [] [(.int .i64 ex.kind)] rfl rfl cf202 zN (.int .i64 (kdN ex.kind)) (fun wq=>c_spec_l02Kids wq _ hx1.rng.kind) (lw_tv 1 rfl (q_nilP (hex.isPtr) rfl zN (q_fldL (p:=ve) 4 fd174_4 rfl (hl1 _ (Chg.of_ext [] hE0.drew)) zN ?_))))))))))))))
   refine q_load (p:=(padd ve 4)) (.inl rfl) ve1 one53 rfl ((hl1 _ (Chg.of_ext [] hE0.drew)).ld (i:=4) z253_1) zN (q_len (v:=ve1) u53 rfl hx1.rn.isSl zN ?_)
   by_cases hc25:kdN ex.kind≠((ex.kids.length :Nat):Int)
   ·
    exact q_neq true rfl rfl (decide_eq_true hc25) zN (lw_tvn 14 rfl (c_cond_t rfl (wp_seq (wp_plain _ [0] rfl (lw_tvn 1 rfl (wp_ret (t_ret (post_ret [8] rfl (.bool false) rfl ⟨z253_0,hE0.drew⟩))))))))
   ·
    refine q_neq false rfl rfl (decide_eq_false hc25) zN (lw_tv 2 rfl (q_nilP (hex.isPtr) rfl (zS (e:=101) rfl rfl rfl) (q_fldL (p:=ve) 2 fd174_2 rfl (hl1 _ (Chg.of_ext [] hE0.drew)) (zS (e:=101) rfl rfl rfl) (q_load (p:=(padd ve 2)) (.inl rfl) (.int .i64 ex.pick) one2 rfl ((hl1 _ (Chg.of_ext [] hE0.drew)).ld (i:=2) z253_1) (zS (e:=101) rfl rfl rfl) ?_))))
    by_cases hc26:ex.pick≠((0 :Nat):Int)
    ·
     exact q_neq true rfl rfl (decide_eq_true hc26) (zS (e:=101) rfl rfl rfl) (lw_tvn 8 rfl (c_cond_t rfl (wp_seq (wp_plain _ [0] rfl (lw_tvn 1 rfl (wp_ret (t_ret (post_ret [8] rfl (.bool false) rfl ⟨z253_0,hE0.drew⟩))))))))
    ·
     refine q_neq false rfl rfl (decide_eq_false hc26) (zS (e:=101) rfl rfl rfl) (lw_tv 3 rfl (q_nilP (hex.isPtr) rfl (zS (e:=108) rfl rfl rfl) (q_fldL (p:=ve) 3 fd174_3 rfl (hl1 _ (Chg.of_ext [] hE0.drew)) (zS (e:=108) rfl rfl rfl) (q_load (p:=(padd ve 3)) (.inl rfl) (.int .i64 ex.count) one2 rfl ((hl1 _ (Chg.of_ext [] hE0.drew)).ld (i:=3) z253_1) (zS (e:=108) rfl rfl rfl) ?_))))
     by_cases hc27:ex.count≠((0 :Nat):Int)
     ·
      exact q_neq true rfl rfl (decide_eq_true hc27) (zS (e:=108) rfl rfl rfl) (lw_tvn 1 rfl (c_cond_t rfl (wp_seq (wp_plain _ [0] rfl (lw_tvn 1 rfl (wp_ret (t_ret (post_ret [8] rfl (.bool false) rfl ⟨z253_0,hE0.drew⟩))))))))
     ·
      refine q_neq false rfl rfl (decide_eq_false hc27) (zS (e:=108) rfl rfl rfl) (lw_tvn 1 rfl (c_cond_f rfl (wp_skip (wp_seq (wp_seq (wp_plain _ [0,0,0,2] rfl (lw_tv 1 rfl (q_nilP (hex.isPtr) rfl zN (q_fldL (p:=ve) 0 fd174_0 rfl (hl1 _ (Chg.of_ext [] hE0.drew)) zN (q_load (p:=(padd ve 0)) (.inr rfl) (.int .i64 ex.kind) one2 rfl ((hl1 _ (Chg.of_ext [] hE0.drew)).ld (i:=0) z253_1) zN (lw_nil (wp_block (wp_seq (wp_plain _ [0,0] rfl ?_))))))))))))))
      by_cases hc28:ex.kind = ((1 :Nat):Int)
      ·
       refine q_eql true rfl rfl (decide_eq_true hc28) zN (lw_tvn 1 rfl (c_cond_t rfl (wp_seq (wp_plain _ [0,0,0,2,0,0] rfl (lw_tv 1 rfl (q_nilP (hex.isPtr) rfl zN (q_fldL (p:=ve) 1 fd174_1 rfl (hl1 _ (Chg.of_ext [] hE0.drew)) zN (q_load (p:=(padd ve 1)) (.inr rfl) (.int .i64 ex.num) one2 rfl ((hl1 _ (Chg.of_ext [] hE0.drew)).ld (i:=1) z253_1) zN (lw_callq 192 [] [] [(.int .i64 ex.num)] rfl rfl cf192 zN (.bool (isN ex.num)) (fun wq=>c_spec_l01Number wq _ hx1.rng.num) (lw_tvn 1 rfl (wp_ret (b_ret (t_ret ?_)))))))))))))
       exact post_ret [8] rfl (.bool (isN ex.num)) rfl ⟨z253_0,hE0.drew⟩
      ·
       refine q_eql false rfl rfl (decide_eq_false hc28) zN (lw_tvn 1 rfl (c_cond_f rfl (wp_seq (wp_plain _ [0,0] rfl ?_))))
       by_cases hc30:ex.kind = ((2 :Nat):Int)
       ·
        refine q_eql true rfl rfl (decide_eq_true hc30) zN (lw_tvn 1 rfl (c_cond_t rfl (wp_seq (wp_plain _ [0,0,0,2,0,0,0,0] rfl (lw_tv 1 rfl (q_nilP (hex.isPtr) rfl zN (q_fldL (p:=ve) 1 fd174_1 rfl (hl1 _ (Chg.of_ext [] hE0.drew)) zN (q_load (p:=(padd ve 1)) (.inr rfl) (.int .i64 ex.num) one2 rfl ((hl1 _ (Chg.of_ext [] hE0.drew)).ld (i:=1) z253_1) zN (lw_tv 1 rfl (q_sub (vars - 1) rfl rfl (w64 oM oM) zN (lw_callq 92 [] [] [(.int .i64 ex.num),(.int .i64 ((0 :Nat):Int)),(.int .i64 (vars - 1))] rfl rfl cf92 zN (.bool (decide (((0 :Nat):Int)≤ex.num) && decide (ex.num≤(vars - 1)))) (fun wq=>c_spec_l00In wq _ _ _ hx1.rng.num oM oM) (lw_tvn 1 rfl (wp_ret (b_ret (t_ret ?_)))))))))))))))
        exact post_ret [8] rfl (.bool (decide (((0 :Nat):Int)≤ex.num) && decide (ex.num≤(vars - 1)))) rfl ⟨z253_0,hE0.drew⟩
       ·
        refine q_eql false rfl rfl (decide_eq_false hc30) zN (lw_tvn 1 rfl (c_cond_f rfl (wp_skip (wp_seq (wp_plain _ [0,0,0,2,0,0] rfl (lw_tv 1 rfl (q_nilP (hex.isPtr) rfl zN (q_fldL (p:=ve) 1 fd174_1 rfl (hl1 _ (Chg.of_ext [] hE0.drew)) zN (q_load (p:=(padd ve 1)) (.inr rfl) (.int .i64 ex.num) one2 rfl ((hl1 _ (Chg.of_ext [] hE0.drew)).ld (i:=1) z253_1) zN (q_eql (decide (ex.num = ((0 :Nat):Int))) rfl rfl rfl zN (lw_tvn 1 rfl (wp_ret ?_))))))))))))
        exact post_ret [8] rfl (.bool (decide (ex.num = ((0 :Nat):Int)))) rfl ⟨z253_0,hE0.drew⟩
theorem z247_0 {p:Prop} (h:p:=by first | exact ret_bool (wf_bad (bn_t (by assumption))) | exact ret_bool (wf_good (bn_f (by assumption)) fun j hj=>hall j oM) | exact ret_bool (wf_kid (k:=k) oM (by first | (rw [if_pos oM]) | (rw [if_neg oM])) (bn_t (by assumption)))):p:=h
theorem z247_1 {p:Prop} (h:p:=by intro j hj; by_cases e9:j = k; (rw [e9]; first | (rw [if_pos oM]; exact bn_f (by assumption)) | (rw [if_neg oM]; exact bn_f (by assumption))); exact hall j oM):p:=h
theorem c_spec_l02Tree (w:World) (dp:Nat) (vp:Value) (p:List Fn) (dex:Nat) (ve:Value) (ex:Ex) (vars:Int) (funcs:Int) (hp:RN [] (rP (rPr dp)) w.heap vp p) (hex:RN [] (rP (rEx dex)) w.heap ve ex) (_hvars:-9223372036854775808≤vars∧vars≤9223372036854775807) (_hfuncs:-9223372036854775808≤funcs∧funcs≤9223372036854775807) (hs:0≤vars∧vars + (ex.deep:Int)≤2000000000) (hf:0≤funcs∧funcs≤((p.length :Nat):Int)) :
  Calls Tryz.prog 247 #[vp,ve,.int .i64 vars,.int .i64 funcs] w (fun e w'=>e = .returned (.bool (wf p funcs ex vars))∧Ext w w'):=by
 induction dex using Nat.strongRecOn generalizing w dp vp p ve ex vars funcs
 rename_i dex ih
 refine calls_mk [vp,ve,.int .i64 vars,.int .i64 funcs] 49 Tryz.func247 rfl rfl sM ?_
 have hE0:Ext w w:=Ext.refl w
 have hdk:=deep_kids ex
 refine wp_seq (wp_plain _ [0] rfl (lw_tvn 1 rfl (wp_seq (wp_seq (wp_plain _ [0,0,0,0,3,0] rfl (lw_tv 4 rfl (lw_call 253 [] [] [vp,ve,(.int .i64 vars),(.int .i64 funcs)] rfl rfl cf253 zN (c_spec_l02Node _ dp vp (p) dex ve (ex) _ _ (hp.ext (good_rP (good_rPr dp)) hE0) (hex.ext (good_rP (good_rEx dex)) hE0) _hvars _hfuncs oM oM) ?_)))))))
 rintro e1 w1 ⟨rfl,hX1⟩
 refine ⟨_,rfl,hX1,?_⟩
 have hzs1:=hX1.size
 have hE1:=hE0.trans hX1
 refine q_not (!(wfN p funcs vars ex)) rfl rfl zN (lw_nil ?_)
 cases hb2:(!(wfN p funcs vars ex))
 ·
  refine c_cond_f (by first | rfl | (show Value.bool _ = _; rw [hb2])) (wp_skip (wp_seq (wp_seq (wp_plain _ [0] rfl (lw_tvn 1 rfl (wp_block ?_))))))
  refine c_loop (S:=Nat) (fun (k:Nat)=>([(9,(.int .i64 ((k :Nat):Int))),(0,vp),(1,ve),(2,(.int .i64 vars)),(3,(.int .i64 funcs))]:List (Nat × Value))) (fun (k:Nat) (W:World)=>Ext w W∧k≤ex.kids.length∧(∀ j,j < k→wf p funcs (ex.kids.getD j Ex.zero) (if ex.kind = 9∧j = 1 then vars + 1 else vars) = true)) (fun (k:Nat)=>ex.kids.length - k) 0 ⟨rfl,rfl,rfl,rfl,rfl,trivial⟩ ⟨hE1,sD,(by intro j hj; omega)⟩ ?_
  clear hE0 hX1 hzs1 hE1
  rintro k ρ3 w3 ⟨hE3,hp3_0,hall⟩
  have hzs3:w.heap.size≤w3.heap.size:=hE3.size
  refine wp_seq (wp_seq (wp_plain _ [0,0,0,0,2,0,0] rfl (lw_tv 2 rfl (q_nilP (hex.isPtr) rfl zN ?_))))
  obtain ⟨cs4,hr4,hl4⟩:=RN.at (good_rEx _) hex
  obtain ⟨dd4,ve4,hd4,rfl,hx4⟩:=RX.of hr4
  have hln4:=hx4.rn.lenle
  unfold maxLen at hln4
  refine q_fldL (p:=ve) 4 fd174_4 rfl (hl4 _ (Chg.of_ext [] hE3)) zN (q_load (p:=(padd ve 4)) (.inr rfl) ve4 one53 rfl ((hl4 _ (Chg.of_ext [] hE3)).ld (i:=4) (by simp [exC,fnC])) zN (q_len (v:=ve4) u53 rfl hx4.rn.isSl zN ?_))
  by_cases hc5:((k :Nat):Int) < ((ex.kids.length :Nat):Int)
  ·
   refine q_lss true rfl rfl (decide_eq_true hc5) zN (lw_nil (c_cond_t rfl (wp_skip (wp_seq (wp_block (wp_seq (wp_plain _ [0,0] rfl ?_)))))))
   have hkd:=kd_at (l:=ex.kids) (k:=k) oM
   refine lw_tvn 2 rfl (wp_seq (wp_seq (wp_plain _ [0,0,0,2,0,0,0,0,0] rfl (lw_tv 1 rfl (q_nilP (hex.isPtr) rfl zN (q_fldL (p:=ve) 0 fd174_0 rfl (hl4 _ (Chg.of_ext [] hE3)) zN (q_load (p:=(padd ve 0)) (.inr rfl) (.int .i64 ex.kind) one2 rfl ((hl4 _ (Chg.of_ext [] hE3)).ld (i:=0) (by simp [exC,fnC])) zN ?_)))))))
   by_cases hc6:ex.kind = ((9 :Nat):Int)
   ·
    refine q_eql true rfl rfl (decide_eq_true hc6) zN (lw_tv 2 rfl ?_)
    by_cases hc7:((k :Nat):Int) = ((1 :Nat):Int)
    ·
     refine q_eql true rfl rfl (decide_eq_true hc7) (zS (e:=32) rfl rfl rfl) (lw_tvn 1 rfl (c_cond_t rfl (wp_plain _ [0,0,0] rfl (lw_tv 1 rfl (q_add (vars + 1) rfl rfl (w64 oM oM) zN (lw_tvn 1 rfl (wp_seq (wp_plain _ [0,0,0,0,2,0,0,0,0,3,0] rfl (lw_tv 2 rfl (q_nilP (hex.isPtr) rfl zN (q_fldL (p:=ve) 4 fd174_4 rfl (hl4 _ (Chg.of_ext [] hE3)) zN (q_load (p:=(padd ve 4)) (.inr rfl) ve4 one53 rfl ((hl4 _ (Chg.of_ext [] hE3)).ld (i:=4) (by simp [exC,fnC])) zN (lw_tv 1 rfl ?_)))))))))))))
     refine q_idx (v:=ve4) k u53 tiS174 rfl rfl hx4.rn.isSl rfl sD zN (lw_tv 2 rfl ?_)
     refine lw_call 247 [] [] [vp,(eptr ve4 k 5),(.int .i64 (vars + 1)),(.int .i64 funcs)] rfl rfl cf247 zN (ih dd4 oM _ dp vp (p) (eptr ve4 k 5) (ex.kids.getD k Ex.zero) _ _ (hp.ext (good_rP (good_rPr dp)) hE3) (RN.ptr (good_rEx dd4) (by decide) Ex.zero (hx4.rn.ext (good_rdS (good_rEx dd4)) hE3) sD) oM _hfuncs oM oM) ?_
     rintro e8 w8 ⟨rfl,hX8⟩
     refine ⟨_,rfl,hX8,?_⟩
     have hzs8:=hX8.size
     have hE8:=hE3.trans hX8
     refine q_not (!(wf p funcs (ex.kids.getD k Ex.zero) (vars + 1))) rfl rfl zN (lw_nil ?_)
     cases hb9:(!(wf p funcs (ex.kids.getD k Ex.zero) (vars + 1)))
     ·
      refine c_cond_f (by first | rfl | (show Value.bool _ = _; rw [hb9])) (wp_skip (wp_plain _ [0,0,0] rfl (lw_tv 1 rfl (q_add ((k + 1 :Nat):Int) rfl rfl (w64n oM sD) zN (lw_tvn 1 rfl ?_)))))
      exact ⟨(k + 1),_,rfl,⟨rfl,rfl,rfl,rfl,rfl,trivial⟩,⟨hE8,sD,z247_1⟩,by first | omega | (dsimp only; omega)⟩
     ·
      exact c_cond_t (by first | rfl | (show Value.bool _ = _; rw [hb9])) (wp_seq (wp_plain _ [0] rfl (lw_tvn 1 rfl (wp_ret (b_ret (t_ret (t_ret (b_ret (t_ret (post_ret [8] rfl (.bool false) rfl ⟨z247_0,hE8⟩))))))))))
    ·
     refine q_eql false rfl rfl (decide_eq_false hc7) (zS (e:=32) rfl rfl rfl) (lw_tvn 1 rfl (c_cond_f rfl (wp_skip (wp_seq (wp_plain _ [0,0,0,0,2,0,0,0,0,3,0] rfl (lw_tv 2 rfl (q_nilP (hex.isPtr) rfl zN (q_fldL (p:=ve) 4 fd174_4 rfl (hl4 _ (Chg.of_ext [] hE3)) zN (q_load (p:=(padd ve 4)) (.inr rfl) ve4 one53 rfl ((hl4 _ (Chg.of_ext [] hE3)).ld (i:=4) (by simp [exC,fnC])) zN (lw_tv 1 rfl ?_))))))))))
     refine q_idx (v:=ve4) k u53 tiS174 rfl rfl hx4.rn.isSl rfl sD zN (lw_tv 2 rfl ?_)
     refine lw_call 247 [] [] [vp,(eptr ve4 k 5),(.int .i64 vars),(.int .i64 funcs)] rfl rfl cf247 zN (ih dd4 oM _ dp vp (p) (eptr ve4 k 5) (ex.kids.getD k Ex.zero) _ _ (hp.ext (good_rP (good_rPr dp)) hE3) (RN.ptr (good_rEx dd4) (by decide) Ex.zero (hx4.rn.ext (good_rdS (good_rEx dd4)) hE3) sD) _hvars _hfuncs oM oM) ?_
     rintro e10 w10 ⟨rfl,hX10⟩
     refine ⟨_,rfl,hX10,?_⟩
     have hzs10:=hX10.size
     have hE10:=hE3.trans hX10
     refine q_not (!(wf p funcs (ex.kids.getD k Ex.zero) vars)) rfl rfl zN (lw_nil ?_)
     cases hb11:(!(wf p funcs (ex.kids.getD k Ex.zero) vars))
     ·
      refine c_cond_f (by first | rfl | (show Value.bool _ = _; rw [hb11])) (wp_skip (wp_plain _ [0,0,0] rfl (lw_tv 1 rfl (q_add ((k + 1 :Nat):Int) rfl rfl (w64n oM sD) zN (lw_tvn 1 rfl ?_)))))
      exact ⟨(k + 1),_,rfl,⟨rfl,rfl,rfl,rfl,rfl,trivial⟩,⟨hE10,sD,z247_1⟩,by first | omega | (dsimp only; omega)⟩
     ·
      exact c_cond_t (by first | rfl | (show Value.bool _ = _; rw [hb11])) (wp_seq (wp_plain _ [0] rfl (lw_tvn 1 rfl (wp_ret (b_ret (t_ret (t_ret (b_ret (t_ret (post_ret [8] rfl (.bool false) rfl ⟨z247_0,hE10⟩))))))))))
   ·
    refine q_eql false rfl rfl (decide_eq_false hc6) zN (lw_tvn 4 rfl (c_cond_f rfl (wp_skip (wp_seq (wp_plain _ [0,0,0,0,2,0,0,0,0,3,0] rfl (lw_tv 2 rfl (q_nilP (hex.isPtr) rfl zN (q_fldL (p:=ve) 4 fd174_4 rfl (hl4 _ (Chg.of_ext [] hE3)) zN (q_load (p:=(padd ve 4)) (.inr rfl) ve4 one53 rfl ((hl4 _ (Chg.of_ext [] hE3)).ld (i:=4) (by simp [exC,fnC])) zN (lw_tv 1 rfl ?_))))))))))
    refine q_idx (v:=ve4) k u53 tiS174 rfl rfl hx4.rn.isSl rfl sD zN (lw_tv 2 rfl ?_)
    refine lw_call 247 [] [] [vp,(eptr ve4 k 5),(.int .i64 vars),(.int .i64 funcs)] rfl rfl cf247 zN (ih dd4 oM _ dp vp (p) (eptr ve4 k 5) (ex.kids.getD k Ex.zero) _ _ (hp.ext (good_rP (good_rPr dp)) hE3) (RN.ptr (good_rEx dd4) (by decide) Ex.zero (hx4.rn.ext (good_rdS (good_rEx dd4)) hE3) sD) _hvars _hfuncs oM oM) ?_
    rintro e12 w12 ⟨rfl,hX12⟩
    refine ⟨_,rfl,hX12,?_⟩
    have hzs12:=hX12.size
    have hE12:=hE3.trans hX12
    refine q_not (!(wf p funcs (ex.kids.getD k Ex.zero) vars)) rfl rfl zN (lw_nil ?_)
    cases hb13:(!(wf p funcs (ex.kids.getD k Ex.zero) vars))
    ·
     refine c_cond_f (by first | rfl | (show Value.bool _ = _; rw [hb13])) (wp_skip (wp_plain _ [0,0,0] rfl (lw_tv 1 rfl (q_add ((k + 1 :Nat):Int) rfl rfl (w64n oM sD) zN (lw_tvn 1 rfl ?_)))))
     exact ⟨(k + 1),_,rfl,⟨rfl,rfl,rfl,rfl,rfl,trivial⟩,⟨hE12,sD,z247_1⟩,by first | omega | (dsimp only; omega)⟩
    ·
     exact c_cond_t (by first | rfl | (show Value.bool _ = _; rw [hb13])) (wp_seq (wp_plain _ [0] rfl (lw_tvn 1 rfl (wp_ret (b_ret (t_ret (t_ret (b_ret (t_ret (post_ret [8] rfl (.bool false) rfl ⟨z247_0,hE12⟩))))))))))
  ·
   exact q_lss false rfl rfl (decide_eq_false hc5) zN (lw_nil (c_cond_f rfl (wp_exit (t_exit (t_exit (c_exit_here (wp_seq (wp_plain _ [0] rfl (lw_tvn 1 rfl (wp_ret (post_ret [8] rfl (.bool true) rfl ⟨z247_0,hE3⟩)))))))))))
 ·
  exact c_cond_t (by first | rfl | (show Value.bool _ = _; rw [hb2])) (wp_seq (wp_plain _ [0] rfl (lw_tvn 1 rfl (wp_ret (t_ret (post_ret [8] rfl (.bool false) rfl ⟨z247_0,hE1⟩))))))
theorem c_spec_l02Vars (w:World) (vars:Int) (_hvars:-9223372036854775808≤vars∧vars≤9223372036854775807)  :
  Calls Tryz.prog 245 #[.int .i64 vars] w (fun e w'=>e = .returned (.bool (inB vars 0 412))∧w' = w):=by
 refine calls_mk [.int .i64 vars] 5 Tryz.func245 rfl rfl sM ?_
 have hE0:w = w:=rfl
 exact wp_seq (wp_plain _ [0] rfl (lw_tvn 1 rfl (wp_seq (wp_plain _ [0,0,0] rfl (lw_tv 1 rfl (lw_callq 92 [] [] [(.int .i64 vars),(.int .i64 ((0 :Nat):Int)),(.int .i64 ((412 :Nat):Int))] rfl rfl cf92 zN (.bool (decide (((0 :Nat):Int)≤vars) && decide (vars≤((412 :Nat):Int)))) (fun wq=>c_spec_l00In wq _ _ _ _hvars oM oM) (lw_tvn 1 rfl (wp_ret (post_ret [2] rfl (.bool (decide (((0 :Nat):Int)≤vars) && decide (vars≤((412 :Nat):Int)))) rfl ⟨rfl,hE0⟩)))))))))
theorem z236_0 {p:Prop} (h:p:=by first | exact ret_bool (exB_w (by assumption)) | exact ret_bool (exB_t ⟨inB_iff.1 (by assumption),inB_e (by assumption),by omega,by omega⟩) | exact ret_bool ((by assumption:wf p funcs ex vars = true).symm.trans (exB_t ⟨inB_iff.1 (by assumption),inB_e (by assumption),by omega,by omega⟩)) | exact ret_bool (exB_f fun hh=>inB_f (by assumption) hh.1) | exact ret_bool (exB_f fun hh=>inB_d (by assumption) hh.2.1) | exact ret_bool (exB_f oM)):p:=h
theorem c_spec_l02Expr (w:World) (dp:Nat) (vp:Value) (p:List Fn) (dex:Nat) (ve:Value) (ex:Ex) (vars:Int) (funcs:Int) (hp:RN [] (rP (rPr dp)) w.heap vp p) (hex:RN [] (rP (rEx dex)) w.heap ve ex) (_hvars:-9223372036854775808≤vars∧vars≤9223372036854775807) (_hfuncs:-9223372036854775808≤funcs∧funcs≤9223372036854775807) (hs:ex.size≤1000000000) :
  Calls Tryz.prog 236 #[vp,ve,.int .i64 vars,.int .i64 funcs] w (fun e w'=>e = .returned (.bool (exB p ex vars funcs))∧Ext w w'):=by
 refine calls_mk [vp,ve,.int .i64 vars,.int .i64 funcs] 37 Tryz.func236 rfl rfl sM ?_
 have hE0:Ext w w:=Ext.refl w
 have hlp:=lftE_pos (e:=ex) (x:=((400 :Nat):Int)) oM
 refine wp_seq (wp_plain _ [0] rfl (lw_tvn 1 rfl (wp_seq (wp_plain _ [0,0,0,0,0,0,0,2,0,0,0,0,0,3,0,0,0,0,3,0,0,0,0,0,0,0,3,0,0] rfl (lw_tv 1 rfl (lw_callq 245 [] [] [(.int .i64 vars)] rfl rfl cf245 zN (.bool (inB vars 0 412)) (fun wq=>c_spec_l02Vars wq _ _hvars) (lw_tv 1 rfl ?_)))))))
 cases hb2:(inB vars 0 412)
 ·
  exact lw_tvn 26 rfl (wp_ret (post_ret [8] rfl (.bool false) rfl ⟨z236_0,hE0⟩))
 ·
  refine lw_tv 2 rfl (q_nilP (hp.isPtr) rfl (zS (e:=11) rfl rfl rfl) ?_)
  obtain ⟨cs3,hr3,hl3⟩:=RN.at (good_rPr _) hp
  obtain ⟨ve3,rfl,hx3⟩:=RPr.of hr3
  have hln3:=hx3.lenle
  unfold maxLen at hln3
  refine q_fldL (p:=vp) 0 fd26_0 rfl (hl3 _ (Chg.of_ext [] hE0)) (zS (e:=11) rfl rfl rfl) (q_load (p:=(padd vp 0)) (.inr rfl) ve3 one24 rfl ((hl3 _ (Chg.of_ext [] hE0)).ld (i:=0) (by simp [exC,fnC])) (zS (e:=11) rfl rfl rfl) (q_len (v:=ve3) u24 rfl hx3.isSl (zS (e:=11) rfl rfl rfl) (lw_callq 92 [] [] [(.int .i64 funcs),(.int .i64 ((0 :Nat):Int)),(.int .i64 ((p.length :Nat):Int))] rfl rfl cf92 (zS (e:=11) rfl rfl rfl) (.bool (decide (((0 :Nat):Int)≤funcs) && decide (funcs≤((p.length :Nat):Int)))) (fun wq=>c_spec_l00In wq _ _ _ _hfuncs oM oM) (lw_tv 2 rfl ?_))))
  cases hb5:(decide (((0 :Nat):Int)≤funcs) && decide (funcs≤((p.length :Nat):Int)))
  ·
   exact lw_tvn 17 rfl (wp_ret (post_ret [8] rfl (.bool false) rfl ⟨z236_0,hE0⟩))
  ·
   refine lw_tv 1 rfl (lw_call 235 [] [] [ve,(.int .i64 ((400 :Nat):Int))] rfl rfl cf235 (zS (e:=20) rfl rfl rfl) (c_spec_l02Left _ dex ve (ex) _ (hex.ext (good_rP (good_rEx dex)) hE0) oM oM oM) ?_)
   rintro e6 w6 ⟨rfl,hX6⟩
   refine ⟨_,rfl,hX6,?_⟩
   have hzs6:=hX6.size
   have hE6:=hE0.trans hX6
   by_cases hc7:((0 :Nat):Int)≤lftE ex ((400 :Nat):Int)
   ·
    refine q_geq true rfl rfl (decide_eq_true hc7) (zS (e:=20) rfl rfl rfl) (lw_tv 3 rfl (lw_call 246 [] [] [ve] rfl rfl cf246 (zS (e:=25) rfl rfl rfl) (c_spec_l02Depth _ dex ve (ex) (hex.ext (good_rP (good_rEx dex)) hE6) oM) ?_))
    rintro e8 w8 ⟨rfl,hX8⟩
    refine ⟨_,rfl,hX8,?_⟩
    have hzs8:=hX8.size
    have hE8:=hE6.trans hX8
    by_cases hc9:((ex.deep :Nat):Int)≤((60 :Nat):Int)
    ·
     refine q_leq true rfl rfl (decide_eq_true hc9) (zS (e:=25) rfl rfl rfl) (lw_tv 6 rfl (lw_call 247 [] [] [vp,ve,(.int .i64 vars),(.int .i64 funcs)] rfl rfl cf247 (zS (e:=30) rfl rfl rfl) (c_spec_l02Tree _ dp vp (p) dex ve (ex) _ _ (hp.ext (good_rP (good_rPr dp)) hE8) (hex.ext (good_rP (good_rEx dex)) hE8) _hvars _hfuncs (by have h1:=inB_iff.1 (by assumption:inB vars 0 412 = true); omega) (by have h2:=inB_e (by assumption:(decide (((0 :Nat):Int)≤funcs) && decide (funcs≤((p.length :Nat):Int))) = true); omega)) ?_))
     rintro e10 w10 ⟨rfl,hX10⟩
     refine ⟨_,rfl,hX10,?_⟩
     have hzs10:=hX10.size
     have hE10:=hE8.trans hX10
     exact lw_tvn 2 rfl (wp_ret (post_ret [8] rfl (.bool (wf p funcs ex vars)) rfl ⟨z236_0,hE10⟩))
    ·
     exact q_leq false rfl rfl (decide_eq_false hc9) (zS (e:=25) rfl rfl rfl) (lw_tvn 9 rfl (wp_ret (post_ret [8] rfl (.bool false) rfl ⟨z236_0,hE8⟩)))
   ·
    exact q_geq false rfl rfl (decide_eq_false hc7) (zS (e:=20) rfl rfl rfl) (lw_tvn 14 rfl (wp_ret (post_ret [8] rfl (.bool false) rfl ⟨z236_0,hE6⟩)))
theorem nm_len {s:ByteArray} (h:¬ (1≤s.size∧s.size≤12)):false = nmB s:=by
  cases hh:nmB s with
  | false=>rfl
  | true=>unfold nmB at hh; simp only [Bool.and_eq_true,decide_eq_true_eq] at hh; exact absurd hh.1 h
theorem z234_0 {p:Prop} (h:p:=by first | exact ret_bool (nm_len (fun hh=>inB_d (bn_t (by assumption)) ⟨by omega,by omega⟩)) | exact ret_bool (nm_bad (k:=0) oM oM) | exact ret_bool (nm_bad (k:=k) oM oM) | exact ret_bool (nm_end hq oM (by rw [decide_eq_true (show 1≤s.size by omega),decide_eq_true (show s.size≤12 by omega)]; rfl))):p:=h
theorem z234_1 {p:Prop} (h:p:=by exact allR_succ hq (ch_ok (by (by_cases h0:k = 0; (rw [h0]; left; omega); omega)))):p:=h
theorem c_spec_IsName (w:World) (s:ByteArray)  (hl:s.size≤1000000000) :
  Calls Tryz.prog 234 #[.string s] w (fun e w'=>e = .returned (.bool (nmB s))∧w' = w):=by
 refine calls_mk [.string s] 46 Tryz.func234 rfl rfl sM ?_
 have hE0:w = w:=rfl
 refine wp_seq (wp_plain _ [0] rfl (lw_tvn 1 rfl (wp_seq (wp_seq (wp_plain _ [0,0,0,0,0,0,0,0,0,0,0,0,0,0] rfl (lw_tv 1 rfl (q_lens (s:=s) u9 rfl zN (lw_callq 92 [] [] [(.int .i64 ((s.size :Nat):Int)),(.int .i64 ((1 :Nat):Int)),(.int .i64 ((12 :Nat):Int))] rfl rfl cf92 zN (.bool (decide (((1 :Nat):Int)≤((s.size :Nat):Int)) && decide (((s.size :Nat):Int)≤((12 :Nat):Int)))) (fun wq=>c_spec_l00In wq _ _ _ oM oM oM) (q_not (!(decide (((1 :Nat):Int)≤((s.size :Nat):Int)) && decide (((s.size :Nat):Int)≤((12 :Nat):Int)))) rfl rfl zN (lw_tv 1 rfl ?_))))))))))
 cases hb2:(!(decide (((1 :Nat):Int)≤((s.size :Nat):Int)) && decide (((s.size :Nat):Int)≤((12 :Nat):Int))))
 ·
  refine lw_tv 1 rfl ?_
  have hsz:=inB_e (bn_f (by assumption):(decide (((1 :Nat):Int)≤((s.size :Nat):Int)) && decide (((s.size :Nat):Int)≤((12 :Nat):Int))) = true)
  refine q_index (s:=s) 0 u9 rfl rfl rfl sD (zS (e:=8) rfl rfl rfl) ?_
  by_cases hc3:((sAt s 0 :Nat):Int) < 97
  ·
   exact q_lss true rfl rfl (decide_eq_true hc3) (zS (e:=8) rfl rfl rfl) (lw_tvn 6 rfl (c_cond_t rfl (wp_seq (wp_plain _ [0] rfl (lw_tvn 1 rfl (wp_ret (t_ret (post_ret [2] rfl (.bool false) rfl ⟨z234_0,hE0⟩))))))))
  ·
   refine q_lss false rfl rfl (decide_eq_false hc3) (zS (e:=8) rfl rfl rfl) (lw_tv 3 rfl (q_index (s:=s) 0 u9 rfl rfl rfl sD (zS (e:=13) rfl rfl rfl) ?_))
   by_cases hc4:122 < ((sAt s 0 :Nat):Int)
   ·
    exact q_gtr true rfl rfl (decide_eq_true hc4) (zS (e:=13) rfl rfl rfl) (lw_tvn 1 rfl (c_cond_t rfl (wp_seq (wp_plain _ [0] rfl (lw_tvn 1 rfl (wp_ret (t_ret (post_ret [2] rfl (.bool false) rfl ⟨z234_0,hE0⟩))))))))
   ·
    refine q_gtr false rfl rfl (decide_eq_false hc4) (zS (e:=13) rfl rfl rfl) (lw_tvn 1 rfl (c_cond_f rfl (wp_skip (wp_seq (wp_seq (wp_plain _ [0] rfl (lw_tvn 1 rfl (wp_block (c_loop (S:=Nat) (fun (k:Nat)=>([(3,(.int .i64 ((k :Nat):Int))),(0,(.string s))]:List (Nat × Value))) (fun (k:Nat) (W:World)=>W = w∧k≤s.size∧(List.range k).all (chB s) = true) (fun (k:Nat)=>s.size - k) 0 ⟨rfl,rfl,trivial⟩ ⟨hE0,sD,(by rfl)⟩ ?_)))))))))
    clear hE0
    rintro k ρ5 w5 ⟨hE5,hp5_0,hq⟩
    refine wp_seq (wp_seq (wp_plain _ [0,0,0,0] rfl (lw_tv 2 rfl (q_lens (s:=s) u9 rfl zN ?_))))
    by_cases hc6:((k :Nat):Int) < ((s.size :Nat):Int)
    ·
     refine q_lss true rfl rfl (decide_eq_true hc6) zN (lw_nil (c_cond_t rfl (wp_skip (wp_seq (wp_block (wp_seq (wp_plain _ [0,0,0,0,0,0,0,0,0,0,0,0,0,0,0,0,0,0,0,0,0,0] rfl (lw_tv 2 rfl (q_index (s:=s) k u9 rfl rfl rfl sD zN ?_)))))))))
     by_cases hc7:((sAt s k :Nat):Int) < 97
     ·
      refine q_lss true rfl rfl (decide_eq_true hc7) zN (lw_tv 9 rfl (q_index (s:=s) k u9 rfl rfl rfl sD (zS (e:=34) rfl rfl rfl) ?_))
      by_cases hc8:((sAt s k :Nat):Int) < 48
      ·
       exact q_lss true rfl rfl (decide_eq_true hc8) (zS (e:=34) rfl rfl rfl) (lw_tvn 7 rfl (c_cond_t rfl (wp_seq (wp_plain _ [0] rfl (lw_tvn 1 rfl (wp_ret (b_ret (t_ret (t_ret (b_ret (t_ret (post_ret [2] rfl (.bool false) rfl ⟨z234_0,hE5⟩))))))))))))
      ·
       refine q_lss false rfl rfl (decide_eq_false hc8) (zS (e:=34) rfl rfl rfl) (lw_tv 3 rfl (q_index (s:=s) k u9 rfl rfl rfl sD (zS (e:=39) rfl rfl rfl) ?_))
       by_cases hc9:57 < ((sAt s k :Nat):Int)
       ·
        exact q_gtr true rfl rfl (decide_eq_true hc9) (zS (e:=39) rfl rfl rfl) (lw_tvn 2 rfl (c_cond_t rfl (wp_seq (wp_plain _ [0] rfl (lw_tvn 1 rfl (wp_ret (b_ret (t_ret (t_ret (b_ret (t_ret (post_ret [2] rfl (.bool false) rfl ⟨z234_0,hE5⟩))))))))))))
       ·
        refine q_gtr false rfl rfl (decide_eq_false hc9) (zS (e:=39) rfl rfl rfl) (lw_tvn 2 rfl (c_cond_f rfl (wp_skip (wp_plain _ [0,0,0] rfl (lw_tv 1 rfl (q_add ((k + 1 :Nat):Int) rfl rfl (w64n oM sD) zN (lw_tvn 1 rfl ?_)))))))
        exact ⟨(k + 1),_,rfl,⟨rfl,rfl,trivial⟩,⟨hE5,sD,z234_1⟩,by first | omega | (dsimp only; omega)⟩
     ·
      refine q_lss false rfl rfl (decide_eq_false hc7) zN (lw_tv 3 rfl (q_index (s:=s) k u9 rfl rfl rfl sD (zS (e:=28) rfl rfl rfl) ?_))
      by_cases hc10:122 < ((sAt s k :Nat):Int)
      ·
       refine q_gtr true rfl rfl (decide_eq_true hc10) (zS (e:=28) rfl rfl rfl) (lw_tv 4 rfl (q_index (s:=s) k u9 rfl rfl rfl sD (zS (e:=34) rfl rfl rfl) ?_))
       by_cases hc11:((sAt s k :Nat):Int) < 48
       ·
        exact q_lss true rfl rfl (decide_eq_true hc11) (zS (e:=34) rfl rfl rfl) (lw_tvn 7 rfl (c_cond_t rfl (wp_seq (wp_plain _ [0] rfl (lw_tvn 1 rfl (wp_ret (b_ret (t_ret (t_ret (b_ret (t_ret (post_ret [2] rfl (.bool false) rfl ⟨z234_0,hE5⟩))))))))))))
       ·
        refine q_lss false rfl rfl (decide_eq_false hc11) (zS (e:=34) rfl rfl rfl) (lw_tv 3 rfl (q_index (s:=s) k u9 rfl rfl rfl sD (zS (e:=39) rfl rfl rfl) ?_))
        by_cases hc12:57 < ((sAt s k :Nat):Int)
        ·
         exact q_gtr true rfl rfl (decide_eq_true hc12) (zS (e:=39) rfl rfl rfl) (lw_tvn 2 rfl (c_cond_t rfl (wp_seq (wp_plain _ [0] rfl (lw_tvn 1 rfl (wp_ret (b_ret (t_ret (t_ret (b_ret (t_ret (post_ret [2] rfl (.bool false) rfl ⟨z234_0,hE5⟩))))))))))))
        ·
         refine q_gtr false rfl rfl (decide_eq_false hc12) (zS (e:=39) rfl rfl rfl) (lw_tvn 2 rfl (c_cond_f rfl (wp_skip (wp_plain _ [0,0,0] rfl (lw_tv 1 rfl (q_add ((k + 1 :Nat):Int) rfl rfl (w64n oM sD) zN (lw_tvn 1 rfl ?_)))))))
         exact ⟨(k + 1),_,rfl,⟨rfl,rfl,trivial⟩,⟨hE5,sD,z234_1⟩,by first | omega | (dsimp only; omega)⟩
      ·
       refine q_gtr false rfl rfl (decide_eq_false hc10) (zS (e:=28) rfl rfl rfl) (lw_tvn 13 rfl (c_cond_f rfl (wp_skip (wp_plain _ [0,0,0] rfl (lw_tv 1 rfl (q_add ((k + 1 :Nat):Int) rfl rfl (w64n oM sD) zN (lw_tvn 1 rfl ?_)))))))
       exact ⟨(k + 1),_,rfl,⟨rfl,rfl,trivial⟩,⟨hE5,sD,z234_1⟩,by first | omega | (dsimp only; omega)⟩
    ·
     exact q_lss false rfl rfl (decide_eq_false hc6) zN (lw_nil (c_cond_f rfl (wp_exit (t_exit (t_exit (c_exit_here (wp_seq (wp_plain _ [0] rfl (lw_tvn 1 rfl (wp_ret (post_ret [2] rfl (.bool true) rfl ⟨z234_0,hE5⟩)))))))))))
 ·
  exact lw_tvn 9 rfl (c_cond_t rfl (wp_seq (wp_plain _ [0] rfl (lw_tvn 1 rfl (wp_ret (t_ret (post_ret [2] rfl (.bool false) rfl ⟨z234_0,hE0⟩)))))))
end Go.Proofs.YtnokbaiemimhjaaGreat
namespace Go.Proofs.YtnokbaiemimhjaaGreat
open Go Go.RowKit
set_option linter.unusedVariables false
set_option linter.unusedSimpArgs false
set_option maxHeartbeats 4000000
set_option maxRecDepth 100000
attribute [local irreducible] LW
theorem any_step {α:Type} {l:List α} {f:α→Bool} {k:Nat} (d:α) (hk:k < l.length) (h:(l.take k).any f = false) (h2:f (l.getD k d) = false):(l.take (k + 1)).any f = false:=by
  rw [List.take_succ_eq_append_getElem hk,List.any_append,h]
  have:l.getD k d = l[k]:=by simp [hk]
  rw [this] at h2
  simp [h2]
theorem any_hit {α:Type} {l:List α} {f:α→Bool} {k n:Nat} (d:α) (hk:k < n) (hn:n≤l.length) (h:f (l.getD k d) = true):(l.take n).any f = true:=by
  rw [List.any_eq_true]
  have hkl:k < l.length:=by omega
  have e:l.getD k d = l[k]:=by simp [hkl]
  refine ⟨l[k],?_,by rw [← e]; exact h⟩
  rw [List.mem_take_iff_getElem]
  exact ⟨k,by omega,rfl⟩
theorem left_ok {p:List Fn} {a j:Nat} {x:Int} (hx:x = lfts ((p.getD a Fn.zero).outs.take j) ((400:Nat):Int)) (h:0≤x) (hj:(p.getD a Fn.zero).outs.length≤j):Ex.sizes (p.getD a Fn.zero).outs≤400:=by
  rw [List.take_of_length_le hj] at hx
  rcases lfts_spec (p.getD a Fn.zero).outs ((400:Nat):Int) (Int.natCast_nonneg _) with h2 | h2
  · have:=h2.2; omega
  · have:=h2.1; omega
theorem left_neg {p:List Fn} {a j:Nat} (h:lfts ((p.getD a Fn.zero).outs.take j) ((400:Nat):Int) < 0):fnB p a = false:=fn_6 (by
  have h1:=lfts_stop h
  rcases lfts_spec (p.getD a Fn.zero).outs ((400:Nat):Int) (Int.natCast_nonneg _) with h2 | h2
  · have:=h2.1; have:=h2.2; omega
  · have:=h2.2; omega)
theorem z203_0 {p:Prop} (h:p:=by first | exact ret_bool (fn_1 (bn_t (by assumption))).symm | exact ret_bool (fn_3 (bn_t (by assumption))).symm | exact ret_bool (fn_4 (bn_t (by assumption))).symm | exact ret_bool (fn_2 (any_hit (k:=k) Fn.zero oM oM (by assumption))).symm | exact ret_bool (left_neg (j:=j + 1) (by rw [hnx,← hx]; omega)).symm | exact ret_bool (fn_5 (j:=j) oM (bn_t (by assumption))).symm | exact ret_bool (fn_ok (bn_f (by assumption)) hqa (bn_f (by assumption)) (bn_f (by assumption)) hqe oM (left_ok hx oM oM)).symm):p:=h
theorem z203_1 {p:Prop} (h:p:=by simp [exC,fnC]):p:=h
theorem c_spec_l02Func (w:World) (dp:Nat) (vp:Value) (p:List Fn) (a:Nat) (hp:RN [] (rP (rPr dp)) w.heap vp p) (ha:a < p.length) (hpl:p.length≤1000000) (hz:SzP p) :
  Calls Tryz.prog 203 #[vp,.int .i64 ((a :Nat):Int)] w (fun e w'=>e = .returned (.bool (fnB p a))∧Ext w w'):=by
 refine calls_mk [vp,.int .i64 ((a :Nat):Int)] 91 Tryz.func203 rfl rfl sM ?_
 have hE0:Ext w w:=Ext.refl w
 have hza:=hz a ha
 refine wp_seq (wp_plain _ [0] rfl (lw_tvn 1 rfl (wp_seq (wp_plain _ [0,0,0,2,0,0,0] rfl (lw_tv 1 rfl (q_nilP (hp.isPtr) rfl zN ?_))))))
 obtain ⟨cs1,hr1,hl1⟩:=RN.at (good_rPr _) hp
 obtain ⟨ve1,rfl,hx1⟩:=RPr.of hr1
 have hln1:=hx1.lenle
 unfold maxLen at hln1
 refine q_fldL (p:=vp) 0 fd26_0 rfl (hl1 _ (Chg.of_ext [] hE0)) zN (q_load (p:=(padd vp 0)) (.inr rfl) ve1 one24 rfl ((hl1 _ (Chg.of_ext [] hE0)).ld (i:=0) z203_1) zN (lw_tv 1 rfl (q_idx (v:=ve1) a u24 tiS55 rfl rfl hx1.isSl rfl sD zN (lw_tvn 1 rfl (wp_seq (wp_seq (wp_plain _ [0,0,0,2,0,0,0,0,0,0,2,0,0,0,0,0,0,0,2,0,0,0,0] rfl (lw_tv 1 rfl ?_))))))))
 refine q_nilP (RN.isPtr (RN.ptr (good_rFn dp) (by decide) Fn.zero hx1 sD)) rfl zN ?_
 obtain ⟨cs2,hr2,hl2⟩:=hx1.get (good_rFn dp) Fn.zero (k:=a) sD
 obtain ⟨ve2,rfl,hx2⟩:=RF.of hr2
 have hln2:=hx2.rn.lenle
 unfold maxLen at hln2
 refine q_fldL (p:=eptr ve1 a 3) 0 fd55_0 rfl (hl2 _ (Chg.of_ext [] hE0)) zN (q_load (p:=(padd (eptr ve1 a 3) 0)) (.inr rfl) (.string ((p.getD a Fn.zero).name)) one9 rfl ((hl2 _ (Chg.of_ext [] hE0)).ld (i:=0) z203_1) zN (lw_callq 234 [] [] [(.string ((p.getD a Fn.zero).name))] rfl rfl cf234 zN (.bool (nmB ((p.getD a Fn.zero).name))) (fun wq=>c_spec_IsName wq ((p.getD a Fn.zero).name) oM) (q_not (!(nmB ((p.getD a Fn.zero).name))) rfl rfl zN (lw_tv 1 rfl ?_))))
 cases hb4:(!(nmB ((p.getD a Fn.zero).name)))
 ·
  refine lw_tv 1 rfl (q_nilP (RN.isPtr (RN.ptr (good_rFn dp) (by decide) Fn.zero hx1 sD)) rfl (zS (e:=21) rfl rfl rfl) (q_fldL (p:=eptr ve1 a 3) 1 fd55_1 rfl (hl2 _ (Chg.of_ext [] hE0)) (zS (e:=21) rfl rfl rfl) (q_load (p:=(padd (eptr ve1 a 3) 1)) (.inr rfl) (.int .i64 ((p.getD a Fn.zero).params)) one2 rfl ((hl2 _ (Chg.of_ext [] hE0)).ld (i:=1) z203_1) (zS (e:=21) rfl rfl rfl) ?_)))
  refine lw_callq 92 [] [] [(.int .i64 ((p.getD a Fn.zero).params)),(.int .i64 ((0 :Nat):Int)),(.int .i64 ((12 :Nat):Int))] rfl rfl cf92 (zS (e:=21) rfl rfl rfl) (.bool (decide (((0 :Nat):Int)≤((p.getD a Fn.zero).params)) && decide (((p.getD a Fn.zero).params)≤((12 :Nat):Int)))) (fun wq=>c_spec_l00In wq _ _ _ hx2.rng oM oM) (q_not (!(decide (((0 :Nat):Int)≤((p.getD a Fn.zero).params)) && decide (((p.getD a Fn.zero).params)≤((12 :Nat):Int)))) rfl rfl (zS (e:=21) rfl rfl rfl) (lw_tv 2 rfl ?_))
  cases hb6:(!(decide (((0 :Nat):Int)≤((p.getD a Fn.zero).params)) && decide (((p.getD a Fn.zero).params)≤((12 :Nat):Int))))
  ·
   refine lw_tv 1 rfl (q_nilP (RN.isPtr (RN.ptr (good_rFn dp) (by decide) Fn.zero hx1 sD)) rfl (zS (e:=29) rfl rfl rfl) (q_fldL (p:=eptr ve1 a 3) 2 fd55_2 rfl (hl2 _ (Chg.of_ext [] hE0)) (zS (e:=29) rfl rfl rfl) (q_load (p:=(padd (eptr ve1 a 3) 2)) (.inr rfl) ve2 one53 rfl ((hl2 _ (Chg.of_ext [] hE0)).ld (i:=2) z203_1) (zS (e:=29) rfl rfl rfl) (q_len (v:=ve2) u53 rfl hx2.rn.isSl (zS (e:=29) rfl rfl rfl) ?_))))
   refine lw_callq 92 [] [] [(.int .i64 ((((p.getD a Fn.zero).outs).length :Nat):Int)),(.int .i64 ((1 :Nat):Int)),(.int .i64 ((12 :Nat):Int))] rfl rfl cf92 (zS (e:=29) rfl rfl rfl) (.bool (decide (((1 :Nat):Int)≤((((p.getD a Fn.zero).outs).length :Nat):Int)) && decide (((((p.getD a Fn.zero).outs).length :Nat):Int)≤((12 :Nat):Int)))) (fun wq=>c_spec_l00In wq _ _ _ oM oM oM) (q_not (!(decide (((1 :Nat):Int)≤((((p.getD a Fn.zero).outs).length :Nat):Int)) && decide (((((p.getD a Fn.zero).outs).length :Nat):Int)≤((12 :Nat):Int)))) rfl rfl (zS (e:=29) rfl rfl rfl) (lw_tvn 1 rfl ?_))
   cases hb8:(!(decide (((1 :Nat):Int)≤((((p.getD a Fn.zero).outs).length :Nat):Int)) && decide (((((p.getD a Fn.zero).outs).length :Nat):Int)≤((12 :Nat):Int))))
   ·
    refine c_cond_f (by first | rfl | (show Value.bool _ = _; rw [hb8])) (wp_skip (wp_seq (wp_seq (wp_plain _ [0] rfl (lw_tvn 1 rfl (wp_block ?_))))))
    refine c_loop (S:=Nat) (fun (k:Nat)=>([(6,(.int .i64 ((k :Nat):Int))),(0,vp),(1,(.int .i64 ((a :Nat):Int))),(5,(eptr ve1 a 3))]:List (Nat × Value))) (fun (k:Nat) (W:World)=>Ext w W∧k≤a∧(p.take k).any (fun g=>strE g.name (p.getD a Fn.zero).name) = false) (fun (k:Nat)=>a - k) 0 ⟨rfl,rfl,rfl,rfl,trivial⟩ ⟨hE0,sD,(by rfl)⟩ ?_
    clear hE0 hln1 hln2
    rintro k ρ9 w9 ⟨hE9,hp9_0,hq⟩
    have hzs9:w.heap.size≤w9.heap.size:=hE9.size
    refine wp_seq (wp_seq (wp_plain _ [0,0,0] rfl (lw_tv 2 rfl ?_)))
    by_cases hc10:((k :Nat):Int) < ((a :Nat):Int)
    ·
     refine q_lss true rfl rfl (decide_eq_true hc10) zN (lw_nil (c_cond_t rfl (wp_skip (wp_seq (wp_block (wp_seq (wp_draw _ [0,0,0,1,0,0,0,1,0,0,0,1,0] mixed (by kernel_rfl) (lw_tv 1 rfl (q_nilP (hp.isPtr) rfl zN (q_fldL (p:=vp) 0 fd26_0 rfl (hl1 _ (Chg.of_ext [] hE9.drew)) zN (q_load (p:=(padd vp 0)) (.inl rfl) ve1 one24 rfl ((hl1 _ (Chg.of_ext [] hE9.drew)).ld (i:=0) z203_1) zN (lw_tv 1 rfl ?_))))))))))))
     refine q_idx (v:=ve1) k u24 tiS55 rfl rfl hx1.isSl rfl sD zN ?_
     obtain ⟨cs11,hr11,hl11⟩:=hx1.get (good_rFn dp) Fn.zero (k:=k) sD
     obtain ⟨ve11,rfl,hx11⟩:=RF.of hr11
     have hln11:=hx11.rn.lenle
     unfold maxLen at hln11
     refine q_fldL (p:=eptr ve1 k 3) 0 fd55_0 rfl (hl11 _ (Chg.of_ext [] hE9.drew)) zN (q_load (p:=(padd (eptr ve1 k 3) 0)) (.inl rfl) (.string ((p.getD k Fn.zero).name)) one9 rfl ((hl11 _ (Chg.of_ext [] hE9.drew)).ld (i:=0) z203_1) zN (lw_tv 1 rfl (q_nilP (RN.isPtr (RN.ptr (good_rFn dp) (by decide) Fn.zero hx1 sD)) rfl zN (q_fldL (p:=eptr ve1 a 3) 0 fd55_0 rfl (hl2 _ (Chg.of_ext [] hE9.drew)) zN ?_))))
     refine q_load (p:=(padd (eptr ve1 a 3) 0)) (.inl rfl) (.string ((p.getD a Fn.zero).name)) one9 rfl ((hl2 _ (Chg.of_ext [] hE9.drew)).ld (i:=0) z203_1) zN ?_
     cases hc12:strE ((p.getD k Fn.zero).name) ((p.getD a Fn.zero).name)
     ·
      refine q_eqls false u9 rfl rfl hc12 zN (lw_nil (c_cond_f rfl (wp_skip (wp_plain _ [0,0,0] rfl (lw_tv 1 rfl (q_add ((k + 1 :Nat):Int) rfl rfl (w64n oM sD) zN (lw_tvn 1 rfl ?_)))))))
      exact ⟨(k + 1),_,rfl,⟨rfl,rfl,rfl,rfl,trivial⟩,⟨hE9.drew,sD,(by exact any_step Fn.zero oM hq (by assumption))⟩,by first | omega | (dsimp only; omega)⟩
     ·
      exact q_eqls true u9 rfl rfl hc12 zN (lw_nil (c_cond_t rfl (wp_seq (wp_plain _ [0] rfl (lw_tvn 1 rfl (wp_ret (b_ret (t_ret (t_ret (b_ret (t_ret (post_ret [4] rfl (.bool false) rfl ⟨z203_0,hE9.drew⟩))))))))))))
    ·
     refine q_lss false rfl rfl (decide_eq_false hc10) zN (lw_nil (c_cond_f rfl (wp_exit (t_exit (t_exit (c_exit_here (wp_seq (wp_plain _ [0] rfl ?_))))))))
     have hka:k = a:=by omega
     rw [hka] at hq
     have hqa:=hq
     refine lw_tvn 1 rfl (wp_seq (wp_seq (wp_plain _ [0] rfl (lw_tvn 1 rfl (wp_block ?_)))))
     refine c_loop (S:=Nat × Int) (fun (⟨j,x⟩:Nat × Int)=>([(7,(.int .i64 x)),(8,(.int .i64 ((j :Nat):Int))),(0,vp),(1,(.int .i64 ((a :Nat):Int))),(5,(eptr ve1 a 3))]:List (Nat × Value))) (fun (⟨j,x⟩:Nat × Int) (W:World)=>Ext w W∧j≤(p.getD a Fn.zero).outs.length∧x = lfts ((p.getD a Fn.zero).outs.take j) ((400 :Nat):Int)∧(0≤x∧x≤400)∧(List.range j).all (fun j=>exB p ((p.getD a Fn.zero).outs.getD j Ex.zero) (p.getD a Fn.zero).params ((a :Nat):Int)) = true) (fun (⟨j,x⟩:Nat × Int)=>(p.getD a Fn.zero).outs.length - j) (0,((400 :Nat):Int)) ⟨rfl,rfl,rfl,rfl,rfl,trivial⟩ ⟨hE9,sD,(by rw [List.take_zero,lfts]),oM,(by rfl)⟩ ?_
     clear hE9 hzs9
     rintro ⟨j,x⟩ ρ13 w13 ⟨hE13,hp13_0,hx,hp13_2,hqe⟩
     have hzs13:w.heap.size≤w13.heap.size:=hE13.size
     refine wp_seq (wp_seq (wp_plain _ [0,0,0,0,2,0,0] rfl (lw_tv 2 rfl (q_nilP (RN.isPtr (RN.ptr (good_rFn dp) (by decide) Fn.zero hx1 sD)) rfl zN (q_fldL (p:=eptr ve1 a 3) 2 fd55_2 rfl (hl2 _ (Chg.of_ext [] hE13)) zN (q_load (p:=(padd (eptr ve1 a 3) 2)) (.inr rfl) ve2 one53 rfl ((hl2 _ (Chg.of_ext [] hE13)).ld (i:=2) z203_1) zN (q_len (v:=ve2) u53 rfl hx2.rn.isSl zN ?_)))))))
     by_cases hc14:((j :Nat):Int) < ((((p.getD a Fn.zero).outs).length :Nat):Int)
     ·
      refine q_lss true rfl rfl (decide_eq_true hc14) zN (lw_nil (c_cond_t rfl (wp_skip (wp_seq (wp_block (wp_seq (wp_plain _ [0,0,0,2,0,0,0,3,0] rfl ?_)))))))
      have hst:=sizes_step (l:=(p.getD a Fn.zero).outs) (k:=j) oM
      have hle:=sizes_take (p.getD a Fn.zero).outs (j + 1)
      have hnx:=lfts_step (l:=(p.getD a Fn.zero).outs) (k:=j) (x:=((400 :Nat):Int)) oM oM
      have hnr:=lftE_rng (e:=(p.getD a Fn.zero).outs.getD j Ex.zero) (x:=x) oM
      refine lw_tv 1 rfl (q_nilP (RN.isPtr (RN.ptr (good_rFn dp) (by decide) Fn.zero hx1 sD)) rfl zN (q_fldL (p:=eptr ve1 a 3) 2 fd55_2 rfl (hl2 _ (Chg.of_ext [] hE13)) zN (q_load (p:=(padd (eptr ve1 a 3) 2)) (.inr rfl) ve2 one53 rfl ((hl2 _ (Chg.of_ext [] hE13)).ld (i:=2) z203_1) zN (lw_tv 1 rfl ?_))))
      refine q_idx (v:=ve2) j u53 tiS174 rfl rfl hx2.rn.isSl rfl sD zN (lw_tv 1 rfl ?_)
      refine lw_call 235 [] [] [(eptr ve2 j 5),(.int .i64 x)] rfl rfl cf235 zN (c_spec_l02Left _ dp (eptr ve2 j 5) (((p.getD a Fn.zero).outs).getD j Ex.zero) _ (RN.ptr (good_rEx dp) (by decide) Ex.zero (hx2.rn.ext (good_rdS (good_rEx dp)) hE13) sD) oM oM oM) ?_
      rintro e15 w15 ⟨rfl,hX15⟩
      refine ⟨_,rfl,hX15,?_⟩
      have hzs15:=hX15.size
      have hE15:=hE13.trans hX15
      refine lw_tvn 1 rfl (wp_seq (wp_draw _ [0,0,0,0,0,0,0,1,0,0,0,0,0,1,0,3,0,0] mixed (by kernel_rfl) (lw_tv 1 rfl ?_)))
      by_cases hc16:lftE (((p.getD a Fn.zero).outs).getD j Ex.zero) x < ((0 :Nat):Int)
      ·
       exact q_lss true rfl rfl (decide_eq_true hc16) zN (lw_tvn 16 rfl (c_cond_t rfl (wp_seq (wp_plain _ [0] rfl (lw_tvn 1 rfl (wp_ret (b_ret (t_ret (t_ret (b_ret (t_ret (post_ret [4] rfl (.bool false) rfl ⟨z203_0,hE15.drew⟩))))))))))))
      ·
       refine q_lss false rfl rfl (decide_eq_false hc16) zN (lw_tv 3 rfl (q_nilP (RN.isPtr (RN.ptr (good_rFn dp) (by decide) Fn.zero hx1 sD)) rfl (zS (e:=75) rfl rfl rfl) (q_fldL (p:=eptr ve1 a 3) 2 fd55_2 rfl (hl2 _ (Chg.of_ext [] hE15.drew)) (zS (e:=75) rfl rfl rfl) (q_load (p:=(padd (eptr ve1 a 3) 2)) (.inl rfl) ve2 one53 rfl ((hl2 _ (Chg.of_ext [] hE15.drew)).ld (i:=2) z203_1) (zS (e:=75) rfl rfl rfl) (lw_tv 1 rfl ?_)))))
       refine q_idx (v:=ve2) j u53 tiS174 rfl rfl hx2.rn.isSl rfl sD (zS (e:=75) rfl rfl rfl) (lw_tv 1 rfl ?_)
       refine q_nilP (RN.isPtr (RN.ptr (good_rFn dp) (by decide) Fn.zero hx1 sD)) rfl (zS (e:=75) rfl rfl rfl) (q_fldL (p:=eptr ve1 a 3) 1 fd55_1 rfl (hl2 _ (Chg.of_ext [] hE15.drew)) (zS (e:=75) rfl rfl rfl) (q_load (p:=(padd (eptr ve1 a 3) 1)) (.inl rfl) (.int .i64 ((p.getD a Fn.zero).params)) one2 rfl ((hl2 _ (Chg.of_ext [] hE15.drew)).ld (i:=1) z203_1) (zS (e:=75) rfl rfl rfl) (lw_tv 1 rfl ?_)))
       refine lw_call 236 [] [] [vp,(eptr ve2 j 5),(.int .i64 ((p.getD a Fn.zero).params)),(.int .i64 ((a :Nat):Int))] rfl rfl cf236 (zS (e:=75) rfl rfl rfl) (c_spec_l02Expr _ dp vp (p) dp (eptr ve2 j 5) (((p.getD a Fn.zero).outs).getD j Ex.zero) _ _ (hp.ext (good_rP (good_rPr dp)) hE15.drew) (RN.ptr (good_rEx dp) (by decide) Ex.zero (hx2.rn.ext (good_rdS (good_rEx dp)) hE15.drew) sD) hx2.rng oM oM) ?_
       rintro e17 w17 ⟨rfl,hX17⟩
       refine ⟨_,rfl,hX17,?_⟩
       replace hX17:=hX17.of_drew
       have hzs17:=hX17.size
       have hE17:=hE15.trans hX17
       refine q_not (!(exB p (((p.getD a Fn.zero).outs).getD j Ex.zero) ((p.getD a Fn.zero).params) ((a :Nat):Int))) rfl rfl (zS (e:=75) rfl rfl rfl) (lw_tvn 1 rfl ?_)
       cases hb18:(!(exB p (((p.getD a Fn.zero).outs).getD j Ex.zero) ((p.getD a Fn.zero).params) ((a :Nat):Int)))
       ·
        refine c_cond_f (by first | rfl | (show Value.bool _ = _; rw [hb18])) (wp_skip (wp_plain _ [0,0,0] rfl (lw_tv 1 rfl (q_add ((j + 1 :Nat):Int) rfl rfl (w64n oM sD) zN (lw_tvn 1 rfl ?_)))))
        exact ⟨((j + 1),(lftE (((p.getD a Fn.zero).outs).getD j Ex.zero) x)),_,rfl,⟨rfl,rfl,rfl,rfl,rfl,trivial⟩,⟨hE17,sD,(by rw [hnx,← hx]),oM,(by exact allR_succ hqe (bn_f (by assumption)))⟩,by first | omega | (dsimp only; omega)⟩
       ·
        exact c_cond_t (by first | rfl | (show Value.bool _ = _; rw [hb18])) (wp_seq (wp_plain _ [0] rfl (lw_tvn 1 rfl (wp_ret (b_ret (t_ret (t_ret (b_ret (t_ret (post_ret [4] rfl (.bool false) rfl ⟨z203_0,hE17⟩))))))))))
     ·
      exact q_lss false rfl rfl (decide_eq_false hc14) zN (lw_nil (c_cond_f rfl (wp_exit (t_exit (t_exit (c_exit_here (wp_seq (wp_plain _ [0] rfl (lw_tvn 1 rfl (wp_ret (post_ret [4] rfl (.bool true) rfl ⟨z203_0,hE13⟩)))))))))))
   ·
    exact c_cond_t (by first | rfl | (show Value.bool _ = _; rw [hb8])) (wp_seq (wp_plain _ [0] rfl (lw_tvn 1 rfl (wp_ret (t_ret (post_ret [4] rfl (.bool false) rfl ⟨z203_0,hE0⟩))))))
  ·
   exact lw_tvn 8 rfl (c_cond_t rfl (wp_seq (wp_plain _ [0] rfl (lw_tvn 1 rfl (wp_ret (t_ret (post_ret [4] rfl (.bool false) rfl ⟨z203_0,hE0⟩)))))))
 ·
  exact lw_tvn 16 rfl (c_cond_t rfl (wp_seq (wp_plain _ [0] rfl (lw_tvn 1 rfl (wp_ret (t_ret (post_ret [4] rfl (.bool false) rfl ⟨z203_0,hE0⟩)))))))
theorem z157_0 {p:Prop} (h:p:=by first | exact ret_bool (ok_big oM) | exact ret_bool (ok_end oM oM oM hq) | exact ret_bool (ok_bad (k:=k) oM (bn_t (by assumption)))):p:=h
theorem c_spec_l02Ok (w:World) (dp:Nat) (vp:Value) (p:List Fn) (hp:RN [] (rP (rPr dp)) w.heap vp p) (hz:SzP p) :
  Calls Tryz.prog 157 #[vp] w (fun e w'=>e = .returned (.bool (okP p))∧Ext w w'):=by
 refine calls_mk [vp] 23 Tryz.func157 rfl rfl sM ?_
 have hE0:Ext w w:=Ext.refl w
 refine wp_seq (wp_plain _ [0] rfl (lw_tvn 1 rfl (wp_seq (wp_seq (wp_plain _ [0,0,0,2,0,0] rfl (lw_tv 1 rfl (q_nilP (hp.isPtr) rfl zN ?_)))))))
 obtain ⟨cs1,hr1,hl1⟩:=RN.at (good_rPr _) hp
 obtain ⟨ve1,rfl,hx1⟩:=RPr.of hr1
 have hln1:=hx1.lenle
 unfold maxLen at hln1
 refine q_fldL (p:=vp) 0 fd26_0 rfl (hl1 _ (Chg.of_ext [] hE0)) zN (q_load (p:=(padd vp 0)) (.inr rfl) ve1 one24 rfl ((hl1 _ (Chg.of_ext [] hE0)).ld (i:=0) (by simp [exC,fnC])) zN (q_len (v:=ve1) u24 rfl hx1.isSl zN ?_))
 by_cases hc2:((16 :Nat):Int) < ((p.length :Nat):Int)
 ·
  exact q_gtr true rfl rfl (decide_eq_true hc2) zN (lw_nil (c_cond_t rfl (wp_seq (wp_plain _ [0] rfl (lw_tvn 1 rfl (wp_ret (t_ret (post_ret [2] rfl (.bool false) rfl ⟨z157_0,hE0⟩))))))))
 ·
  refine q_gtr false rfl rfl (decide_eq_false hc2) zN (lw_nil (c_cond_f rfl (wp_skip (wp_seq (wp_seq (wp_plain _ [0] rfl (lw_tvn 1 rfl (wp_block (c_loop (S:=Nat) (fun (k:Nat)=>([(3,(.int .i64 ((k :Nat):Int))),(0,vp)]:List (Nat × Value))) (fun (k:Nat) (W:World)=>Ext w W∧k≤p.length∧(List.range k).all (fnB p) = true) (fun (k:Nat)=>p.length - k) 0 ⟨rfl,rfl,trivial⟩ ⟨hE0,sD,(by rfl)⟩ ?_)))))))))
  clear hE0 hln1
  rintro k ρ3 w3 ⟨hE3,hp3_0,hq⟩
  have hzs3:w.heap.size≤w3.heap.size:=hE3.size
  refine wp_seq (wp_seq (wp_plain _ [0,0,0,0,2,0,0] rfl (lw_tv 2 rfl (q_nilP (hp.isPtr) rfl zN (q_fldL (p:=vp) 0 fd26_0 rfl (hl1 _ (Chg.of_ext [] hE3)) zN (q_load (p:=(padd vp 0)) (.inr rfl) ve1 one24 rfl ((hl1 _ (Chg.of_ext [] hE3)).ld (i:=0) (by simp [exC,fnC])) zN (q_len (v:=ve1) u24 rfl hx1.isSl zN ?_)))))))
  by_cases hc4:((k :Nat):Int) < ((p.length :Nat):Int)
  ·
   refine q_lss true rfl rfl (decide_eq_true hc4) zN (lw_nil (c_cond_t rfl (wp_skip (wp_seq (wp_block (wp_seq (wp_plain _ [0,0,3,0] rfl (lw_tv 2 rfl (lw_call 203 [] [] [vp,(.int .i64 ((k :Nat):Int))] rfl rfl cf203 zN (c_spec_l02Func _ dp vp (p) (k) (hp.ext (good_rP (good_rPr dp)) hE3) oM oM (by exact hz)) ?_)))))))))
   rintro e5 w5 ⟨rfl,hX5⟩
   refine ⟨_,rfl,hX5,?_⟩
   have hzs5:=hX5.size
   have hE5:=hE3.trans hX5
   refine q_not (!(fnB p k)) rfl rfl zN (lw_nil ?_)
   cases hb6:(!(fnB p k))
   ·
    refine c_cond_f (by first | rfl | (show Value.bool _ = _; rw [hb6])) (wp_skip (wp_plain _ [0,0,0] rfl (lw_tv 1 rfl (q_add ((k + 1 :Nat):Int) rfl rfl (w64n oM sD) zN (lw_tvn 1 rfl ?_)))))
    exact ⟨(k + 1),_,rfl,⟨rfl,rfl,trivial⟩,⟨hE5,sD,(by exact allR_succ hq (bn_f (by assumption)))⟩,by first | omega | (dsimp only; omega)⟩
   ·
    exact c_cond_t (by first | rfl | (show Value.bool _ = _; rw [hb6])) (wp_seq (wp_plain _ [0] rfl (lw_tvn 1 rfl (wp_ret (b_ret (t_ret (t_ret (b_ret (t_ret (post_ret [2] rfl (.bool false) rfl ⟨z157_0,hE5⟩))))))))))
  ·
   exact q_lss false rfl rfl (decide_eq_false hc4) zN (lw_nil (c_cond_f rfl (wp_exit (t_exit (t_exit (c_exit_here (wp_seq (wp_plain _ [0] rfl (lw_tvn 1 rfl (wp_ret (post_ret [2] rfl (.bool true) rfl ⟨z157_0,hE3⟩)))))))))))
theorem z91_0 {p:Prop} (h:p:=by first | exact ret_int (isF_1 (bn_t (by assumption))) | exact ret_int (isF_2 (bn_f (by assumption)) (inB_d (bn_t (by assumption)))) | exact ret_int (isF_3 (bn_f (by assumption)) (inB_e (bn_f (by assumption))))):p:=h
theorem c_spec_l02Asked (w:World) (dp:Nat) (vp:Value) (p:List Fn) (f:Int) (hp:RN [] (rP (rPr dp)) w.heap vp p) (_hf:-9223372036854775808≤f∧f≤9223372036854775807) (hz:SzP p) :
  Calls Tryz.prog 91 #[vp,.int .i64 f] w (fun e w'=>e = .returned (.int .i64 (isF p f))∧Ext w w'):=by
 refine calls_mk [vp,.int .i64 f] 17 Tryz.func91 rfl rfl sM ?_
 have hE0:Ext w w:=Ext.refl w
 refine wp_seq (wp_plain _ [0] rfl (lw_tvn 1 rfl (wp_seq (wp_seq (wp_plain _ [0,3,0] rfl (lw_tv 1 rfl (lw_call 157 [] [] [vp] rfl rfl cf157 zN (c_spec_l02Ok _ dp vp (p) (hp.ext (good_rP (good_rPr dp)) hE0) (by exact hz)) ?_)))))))
 rintro e1 w1 ⟨rfl,hX1⟩
 refine ⟨_,rfl,hX1,?_⟩
 have hzs1:=hX1.size
 have hE1:=hE0.trans hX1
 refine q_not (!(okP p)) rfl rfl zN (lw_nil ?_)
 cases hb2:(!(okP p))
 ·
  refine c_cond_f (by first | rfl | (show Value.bool _ = _; rw [hb2])) (wp_skip (wp_seq (wp_seq (wp_plain _ [0,0,0,0,2,0,0,0,0] rfl (lw_tv 2 rfl (q_nilP (hp.isPtr) rfl zN ?_))))))
  obtain ⟨cs3,hr3,hl3⟩:=RN.at (good_rPr _) hp
  obtain ⟨ve3,rfl,hx3⟩:=RPr.of hr3
  have hln3:=hx3.lenle
  unfold maxLen at hln3
  refine q_fldL (p:=vp) 0 fd26_0 rfl (hl3 _ (Chg.of_ext [] hE1)) zN (q_load (p:=(padd vp 0)) (.inr rfl) ve3 one24 rfl ((hl3 _ (Chg.of_ext [] hE1)).ld (i:=0) (by simp [exC,fnC])) zN (q_len (v:=ve3) u24 rfl hx3.isSl zN (q_sub (((p.length :Nat):Int) - 1) rfl rfl (w64 oM oM) zN (lw_callq 92 [] [] [(.int .i64 f),(.int .i64 ((0 :Nat):Int)),(.int .i64 (((p.length :Nat):Int) - 1))] rfl rfl cf92 zN (.bool (decide (((0 :Nat):Int)≤f) && decide (f≤(((p.length :Nat):Int) - 1)))) (fun wq=>c_spec_l00In wq _ _ _ _hf oM oM) (q_not (!(decide (((0 :Nat):Int)≤f) && decide (f≤(((p.length :Nat):Int) - 1)))) rfl rfl zN (lw_nil ?_))))))
  cases hb5:(!(decide (((0 :Nat):Int)≤f) && decide (f≤(((p.length :Nat):Int) - 1))))
  ·
   exact c_cond_f (by first | rfl | (show Value.bool _ = _; rw [hb5])) (wp_skip (wp_seq (wp_plain _ [0] rfl (lw_tvn 1 rfl (wp_ret (post_ret [4] rfl (.int .i64 ((0 :Nat):Int)) rfl ⟨z91_0,hE1⟩))))))
  ·
   exact c_cond_t (by first | rfl | (show Value.bool _ = _; rw [hb5])) (wp_seq (wp_plain _ [0] rfl (lw_tvn 1 rfl (wp_ret (t_ret (post_ret [4] rfl (.int .i64 ((2 :Nat):Int)) rfl ⟨z91_0,hE1⟩))))))
 ·
  exact c_cond_t (by first | rfl | (show Value.bool _ = _; rw [hb2])) (wp_seq (wp_plain _ [0] rfl (lw_tvn 1 rfl (wp_ret (t_ret (post_ret [4] rfl (.int .i64 ((1 :Nat):Int)) rfl ⟨z91_0,hE1⟩))))))
end Go.Proofs.YtnokbaiemimhjaaGreat
namespace Go.Proofs.YtnokbaiemimhjaaGreat
open Go Go.RowKit
set_option linter.unusedVariables false
set_option linter.unusedSimpArgs false
set_option maxHeartbeats 4000000
set_option maxRecDepth 100000
attribute [local irreducible] LW
theorem c_spec_l01Const (w:World) (x:Int) (K:Nat) (_hx:-9223372036854775808≤x∧x≤9223372036854775807) (_hK:K≤1000000000000) (hK:K≤1000000000) :
  Calls Tryz.prog 122 #[.int .i64 x,.int .i64 ((K :Nat):Int)] w (fun e w'=>∃ v0:Value,e = .returned (v0)∧Ext w w'∧Fr (owL rI 2) w.heap.size w'.heap.size w'.heap v0 (cst K x)):=by
 refine calls_mk [.int .i64 x,.int .i64 ((K :Nat):Int)] 14 Tryz.func122 rfl rfl sM ?_
 have hE0:Ext w w:=Ext.refl w
 refine wp_seq (wp_plain _ [0] rfl (lw_tvn 1 rfl (wp_seq (wp_plain _ [0,3,0] rfl (lw_tv 1 rfl (r_make (n:=K) u27 ti2 rfl rfl rfl sD zN fun v1 w1 hX1 hz1 hO1=>?_))))))
 have hzs1:=hX1.size
 have hE1:=hE0.trans hX1
 refine lw_tvn 1 rfl (wp_seq (wp_seq (wp_plain _ [0,0] rfl (lw_tv 1 rfl ?_))))
 by_cases hc2:((0 :Nat):Int) < ((K :Nat):Int)
 ·
  refine q_gtr true rfl rfl (decide_eq_true hc2) zN (lw_nil (c_cond_t rfl (wp_plain _ [0,0,0,4] rfl (lw_tv 2 rfl (q_idx (v:=v1) 0 u27 ti2 rfl rfl hO1.isSl rfl sD zN ?_)))))
  refine e_setI (v:=v1) (w:=w1) sz2 rfl rfl _hx hO1 sD zN fun w3 F3 hC3 hz3 hF3 hO3=>?_
  have hE3:Ext w w3:=hC3.below hE1 (fun c hc=>Nat.le_trans (Nat.le_refl _) (hF3 c hc).1) hE1.size
  have hzs3:=hC3.size
  exact lw_nil (wp_seq (wp_plain _ [0,0] rfl (lw_tvn 2 rfl (wp_ret (post_ret [4] rfl v1 rfl ⟨v1,rfl,hE3,(by exact hO3.up o1)⟩)))))
 ·
  exact q_gtr false rfl rfl (decide_eq_false hc2) zN (lw_nil (c_cond_f rfl (wp_skip (wp_seq (wp_plain _ [0,0] rfl (lw_tvn 2 rfl (wp_ret (post_ret [4] rfl v1 rfl ⟨v1,rfl,hE1,(by have h:=hO1.up o1; obtain rfl:K = 0:=oM; exact h)⟩))))))))
theorem scl_eq (a:List Int) (y:Int):scl a y = sclS a y:=by
  unfold scl sclS
  exact leq_done (d:=0) (k:=a.length) (fun r hr=>by rw [map_getD (d:=0) hr,tab_get _ hr]) (by simp) (by simp)
theorem z224_0 {p:Prop} (h:p:=by first | omega | assumption | (simp only [List.length_nil,List.length_cons,List.length_append,List.length_set,List.length_replicate,tab_len]; omega) | (simp [List.length_nil,List.length_cons,List.length_append,List.length_set,List.length_replicate,tab_len]; done) | (simp [List.length_nil,List.length_cons,List.length_append,List.length_set,List.length_replicate,tab_len]; omega)):p:=h
theorem c_spec_l01Add (w:World) (va:Value) (a:List Int) (vb:Value) (b:List Int) (ha:Rd (rdL rI) w.heap va a) (hb:Rd (rdL rI) w.heap vb b) (hla:a.length≤1000000000000) (hl:a.length≤b.length) :
  Calls Tryz.prog 224 #[va,vb] w (fun e w'=>∃ v0:Value,e = .returned (v0)∧Ext w w'∧Fr (owL rI 2) w.heap.size w'.heap.size w'.heap v0 (addS a b)):=by
 refine calls_mk [va,vb] 27 Tryz.func224 rfl rfl sM ?_
 have hE0:Ext w w:=Ext.refl w
 have hl_va:=ha.lenle
 have hl_vb:=hb.lenle
 refine wp_seq (wp_plain _ [0] rfl (lw_tvn 1 rfl (wp_seq (wp_plain _ [3,0] rfl (r_nil (rI) good_rI u27 ti2 zN fun v1 w1 hX1 hz1 hO1=>?_)))))
 have hzs1:=hX1.size
 have hE1:=hE0.trans hX1
 refine lw_tvn 1 rfl (wp_seq (wp_seq (wp_plain _ [0] rfl (lw_tvn 1 rfl (wp_block ?_)))))
 refine c_loop (S:=Nat × Value) (fun (⟨k,vo⟩:Nat × Value)=>([(5,vo),(6,(.int .i64 ((k :Nat):Int))),(0,va),(1,vb)]:List (Nat × Value))) (fun (⟨k,vo⟩:Nat × Value) (W:World)=>Ext w W∧Fr (owL rI 2) w.heap.size W.heap.size W.heap vo (tab k (fun t=>md (a.getD t 0 + b.getD t 0)))∧k≤a.length) (fun (⟨k,vo⟩:Nat × Value)=>a.length - k) (0,v1) ⟨rfl,rfl,rfl,rfl,trivial⟩ ⟨hE1,(by exact hO1.up o1),z224_0⟩ ?_
 clear hE0 hO1 hz1 hX1 hzs1 hE1
 rintro ⟨k,vo⟩ ρ2 w2 ⟨hE2,hL2_0,hp2_0⟩
 have hzs2:w.heap.size≤w2.heap.size:=hE2.size
 refine wp_seq (wp_seq (wp_plain _ [0,0,0,0] rfl (lw_tv 2 rfl (q_len (v:=va) u27 rfl ha.isSl zN ?_))))
 by_cases hc3:((k :Nat):Int) < ((a.length :Nat):Int)
 ·
  refine q_lss true rfl rfl (decide_eq_true hc3) zN (lw_nil (c_cond_t rfl (wp_skip (wp_seq (wp_block (wp_draw _ [0,0,0,0,1,0,0,0,1,0,3,4,0] mixed (by kernel_rfl) (lw_tv 3 rfl (q_idx (v:=va) k u27 ti2 rfl rfl ha.isSl rfl z224_0 zN ?_))))))))
  refine q_load (p:=eptr va k 1) (.inl rfl) (.int .i64 (a.getD k 0)) one2 rfl (ldH_ext hE2.drew (ha.getI z224_0).1) zN (lw_tv 2 rfl ?_)
  refine q_idx (v:=vb) k u27 ti2 rfl rfl hb.isSl rfl z224_0 zN ?_
  refine q_load (p:=eptr vb k 1) (.inl rfl) (.int .i64 (b.getD k 0)) one2 rfl (ldH_ext hE2.drew (hb.getI z224_0).1) zN ?_
  refine lw_callq 75 [] [] [(.int .i64 (a.getD k 0)),(.int .i64 (b.getD k 0))] rfl rfl cf75 zN (.int .i64 (md ((a.getD k 0) + (b.getD k 0)))) (fun wq=>c_spec_Plus wq _ _ (ha.getI z224_0).2 (hb.getI z224_0).2) ?_
  refine r_one (u:=(.int .i64 (md ((a.getD k 0) + (b.getD k 0))))) (B:=w2.heap.size) good_rI u27 ti2 rfl rfl (frI w2.heap.size w2.heap.size _ _ (md_rng _)) (Nat.le_refl _) zN fun v5 w5 hX5 hz5 hO5=>?_
  replace hX5:=hX5.of_drew
  have hzs5:=hX5.size
  have hE5:=hE2.trans hX5
  have hL2_0x5:=hL2_0.ext (o1) hX5
  refine e_appI (v:=vo) (a:=v5) u27 ti2 rfl rfl rfl hL2_0x5 hE5.size hO5.rd1 z224_0 (by unfold maxLen; first | omega | assumption | (simp [tab_len]; done) | (simp [tab_len]; omega)) zN fun v6 w6 F6 hC6 hF6 hO6=>?_
  have hE6:Ext w w6:=hC6.below hE5 (fun c hc=>Nat.le_trans (Nat.le_refl _) (hF6 c hc).1) hE5.size
  have hzs6:=hC6.size
  have hF7:=hO5.chg (o1) hC6 (fun c hc=>by have:=hF6 c hc; omega)
  refine lw_tvn 1 rfl (wp_plain _ [0,0,0] rfl (lw_tv 1 rfl (q_add ((k + 1 :Nat):Int) rfl rfl (w64n oM z224_0) zN (lw_tvn 1 rfl ?_))))
  exact ⟨((k + 1),v6),_,rfl,⟨rfl,rfl,rfl,rfl,trivial⟩,⟨hE6,(by rw [tab_succ]; exact hO6.up o1),z224_0⟩,by first | omega | (dsimp only; omega)⟩
 ·
  exact q_lss false rfl rfl (decide_eq_false hc3) zN (lw_nil (c_cond_f rfl (wp_exit (t_exit (t_exit (c_exit_here (wp_seq (wp_plain _ [0,0] rfl (lw_tvn 2 rfl (wp_ret (post_ret [4] rfl vo rfl ⟨vo,rfl,hE2,(by have h:=hL2_0.up o1; rw [show k = a.length from by omega] at h; exact h)⟩)))))))))))
theorem c_spec_l01Sub (w:World) (va:Value) (a:List Int) (vb:Value) (b:List Int) (ha:Rd (rdL rI) w.heap va a) (hb:Rd (rdL rI) w.heap vb b) (hla:a.length≤1000000000000) (hlb:b.length≤1000000000000) (hl:a.length≤b.length) :
  Calls Tryz.prog 225 #[va,vb] w (fun e w'=>∃ v0:Value,e = .returned (v0)∧Ext w w'∧Fr (owL rI 2) w.heap.size w'.heap.size w'.heap v0 (redS a b)):=by
 refine calls_mk [va,vb] 9 Tryz.func225 rfl rfl sM ?_
 have hE0:Ext w w:=Ext.refl w
 have hl_va:=ha.lenle
 have hl_vb:=hb.lenle
 refine wp_seq (wp_plain _ [0] rfl (lw_tvn 1 rfl (wp_seq (wp_plain _ [0,0,3,3,0] rfl (lw_tv 2 rfl (lw_call 176 [] [] [vb,(.int .i64 ((1000002 :Nat):Int))] rfl rfl cf176 zN (c_spec_l01Scale _ _ _ _ (hb.ext g1 hE0) oM (by exact hlb)) ?_))))))
 rintro e1 w1 ⟨v1_0,rfl,hX1,hO1_0⟩
 refine ⟨_,rfl,hX1,?_⟩
 have hzs1:=hX1.size
 have hE1:=hE0.trans hX1
 refine lw_call 224 [] [] [va,v1_0] rfl rfl cf224 zN (c_spec_l01Add _ _ _ _ _ (ha.ext g1 hE1) hO1_0.rd1 (by exact hla) (by unfold scl; simp; omega)) ?_
 rintro e2 w2 ⟨v2_0,rfl,hX2,hO2_0⟩
 refine ⟨_,rfl,hX2,?_⟩
 have hzs2:=hX2.size
 have hE2:=hE1.trans hX2
 have hO1_0x2:=hO1_0.ext (o1) hX2
 exact lw_tvn 1 rfl (wp_ret (post_ret [4] rfl v2_0 rfl ⟨v2_0,rfl,hE2,(by rw [← red_eq hl,← scl_eq]; exact (hO2_0.up o1).low hE1.size)⟩))
theorem z226_0 {p:Prop} (h:p:=by first | omega | assumption | (simp only [List.length_nil,List.length_cons,List.length_append,List.length_set,List.length_replicate,tab_len]; omega) | (simp [List.length_nil,List.length_cons,List.length_append,List.length_set,List.length_replicate,tab_len]; done) | (simp [List.length_nil,List.length_cons,List.length_append,List.length_set,List.length_replicate,tab_len]; omega)):p:=h
theorem c_spec_l01Mul (w:World) (va:Value) (a:List Int) (vb:Value) (b:List Int) (ha:Rd (rdL rI) w.heap va a) (hb:Rd (rdL rI) w.heap vb b) (hla:a.length≤1000000000000) (hl:a.length≤b.length) :
  Calls Tryz.prog 226 #[va,vb] w (fun e w'=>∃ v0:Value,e = .returned (v0)∧Ext w w'∧Fr (owL rI 2) w.heap.size w'.heap.size w'.heap v0 (proS a b)):=by
 refine calls_mk [va,vb] 39 Tryz.func226 rfl rfl sM ?_
 have hE0:Ext w w:=Ext.refl w
 have hl_va:=ha.lenle
 have hl_vb:=hb.lenle
 refine wp_seq (wp_plain _ [0] rfl (lw_tvn 1 rfl (wp_seq (wp_plain _ [3,0] rfl (r_nil (rI) good_rI u27 ti2 zN fun v1 w1 hX1 hz1 hO1=>?_)))))
 have hzs1:=hX1.size
 have hE1:=hE0.trans hX1
 refine lw_tvn 1 rfl (wp_seq (wp_seq (wp_plain _ [0] rfl (lw_tvn 1 rfl (wp_block ?_)))))
 refine c_loop (S:=Nat × Value) (fun (⟨k,vo⟩:Nat × Value)=>([(5,vo),(6,(.int .i64 ((k :Nat):Int))),(0,va),(1,vb)]:List (Nat × Value))) (fun (⟨k,vo⟩:Nat × Value) (W:World)=>Ext w W∧Fr (owL rI 2) w.heap.size W.heap.size W.heap vo (tab k (fun t=>prk a b t (t + 1)))∧k≤a.length) (fun (⟨k,vo⟩:Nat × Value)=>a.length - k) (0,v1) ⟨rfl,rfl,rfl,rfl,trivial⟩ ⟨hE1,(by exact hO1.up o1),z226_0⟩ ?_
 clear hE0 hO1 hz1 hX1 hzs1 hE1
 rintro ⟨k,vo⟩ ρ2 w2 ⟨hE2,hL2_0,hp2_0⟩
 have hzs2:w.heap.size≤w2.heap.size:=hE2.size
 refine wp_seq (wp_seq (wp_plain _ [0,0,0,0] rfl (lw_tv 2 rfl (q_len (v:=va) u27 rfl ha.isSl zN ?_))))
 by_cases hc3:((k :Nat):Int) < ((a.length :Nat):Int)
 ·
  refine q_lss true rfl rfl (decide_eq_true hc3) zN (lw_nil (c_cond_t rfl (wp_skip (wp_seq (wp_block (wp_seq (wp_plain _ [0] rfl (lw_tvn 1 rfl (wp_seq (wp_seq (wp_plain _ [0] rfl (lw_tvn 1 rfl (wp_block ?_)))))))))))))
  refine c_loop (S:=Nat × Int) (fun (⟨i,s⟩:Nat × Int)=>([(7,(.int .i64 s)),(8,(.int .i64 ((i :Nat):Int))),(0,va),(1,vb),(5,vo),(6,(.int .i64 ((k :Nat):Int)))]:List (Nat × Value))) (fun (⟨i,s⟩:Nat × Int) (W:World)=>Ext w W∧Fr (owL rI 2) w.heap.size W.heap.size W.heap vo (tab k (fun t=>prk a b t (t + 1)))∧i≤k + 1∧s = prk a b k i∧(0≤s∧s < 1000003)) (fun (⟨i,s⟩:Nat × Int)=>k + 1 - i) (0,((0 :Nat):Int)) ⟨rfl,rfl,rfl,rfl,rfl,rfl,trivial⟩ ⟨hE2,hL2_0.up o1,z226_0,(by rfl),oM⟩ ?_
  clear hL2_0 hE2 hzs2
  rintro ⟨i,s⟩ ρ4 w4 ⟨hE4,hL4_0,hp4_0,hs,hsr⟩
  have hzs4:w.heap.size≤w4.heap.size:=hE4.size
  refine wp_seq (wp_seq (wp_plain _ [0,0,0] rfl (lw_tv 2 rfl ?_)))
  by_cases hc5:((i :Nat):Int)≤((k :Nat):Int)
  ·
   refine q_leq true rfl rfl (decide_eq_true hc5) zN (lw_nil (c_cond_t rfl (wp_skip (wp_seq (wp_block (wp_draw _ [0,0,0,0,1,0,0,0,0,0,1,0,0,0] mixed (by kernel_rfl) (lw_tv 3 rfl (q_idx (v:=va) i u27 ti2 rfl rfl ha.isSl rfl z226_0 zN ?_))))))))
   refine q_load (p:=eptr va i 1) (.inl rfl) (.int .i64 (a.getD i 0)) one2 rfl (ldH_ext hE4.drew (ha.getI z226_0).1) zN (lw_tv 3 rfl (q_sub ((k - i :Nat):Int) rfl rfl (by rw [w64 oM oM]; omega) zN ?_))
   refine q_idx (v:=vb) (k - i) u27 ti2 rfl rfl hb.isSl rfl z226_0 zN ?_
   refine q_load (p:=eptr vb (k - i) 1) (.inl rfl) (.int .i64 (b.getD (k - i) 0)) one2 rfl (ldH_ext hE4.drew (hb.getI z226_0).1) zN ?_
   refine lw_callq 76 [] [] [(.int .i64 (a.getD i 0)),(.int .i64 (b.getD (k - i) 0))] rfl rfl cf76 zN (.int .i64 (md ((a.getD i 0) * (b.getD (k - i) 0)))) (fun wq=>c_spec_Times wq _ _ (ha.getI z226_0).2 (hb.getI z226_0).2) ?_
   refine lw_callq 75 [] [] [(.int .i64 s),(.int .i64 (md ((a.getD i 0) * (b.getD (k - i) 0))))] rfl rfl cf75 zN (.int .i64 (md (s + (md ((a.getD i 0) * (b.getD (k - i) 0)))))) (fun wq=>c_spec_Plus wq _ _ oM (md_rng _)) (lw_tvn 1 rfl (wp_plain _ [0,0,0] rfl (lw_tv 1 rfl (q_add ((i + 1 :Nat):Int) rfl rfl (w64n oM z226_0) zN (lw_tvn 1 rfl ?_)))))
   exact ⟨((i + 1),(md (s + (md ((a.getD i 0) * (b.getD (k - i) 0)))))),_,rfl,⟨rfl,rfl,rfl,rfl,rfl,rfl,trivial⟩,⟨hE4.drew,hL4_0.up o1,z226_0,(by rw [md_addr,hs]; rfl),(by exact md_num _)⟩,by first | omega | (dsimp only; omega)⟩
  ·
   refine q_leq false rfl rfl (decide_eq_false hc5) zN (lw_nil (c_cond_f rfl (wp_exit (t_exit (t_exit (c_exit_here (wp_plain _ [0,0,3,4,0] rfl (lw_tv 2 rfl (r_one (u:=(.int .i64 s)) (B:=w4.heap.size) good_rI u27 ti2 rfl rfl (frI w4.heap.size w4.heap.size _ _ oM) (Nat.le_refl _) zN fun v8 w8 hX8 hz8 hO8=>?_)))))))))
   have hzs8:=hX8.size
   have hE8:=hE4.trans hX8
   have hL4_0x8:=hL4_0.ext (o1) hX8
   refine e_appI (v:=vo) (a:=v8) u27 ti2 rfl rfl rfl hL4_0x8 hE8.size hO8.rd1 z226_0 (by unfold maxLen; first | omega | assumption | (simp [tab_len]; done) | (simp [tab_len]; omega)) zN fun v9 w9 F9 hC9 hF9 hO9=>?_
   have hE9:Ext w w9:=hC9.below hE8 (fun c hc=>Nat.le_trans (Nat.le_refl _) (hF9 c hc).1) hE8.size
   have hzs9:=hC9.size
   have hF10:=hO8.chg (o1) hC9 (fun c hc=>by have:=hF9 c hc; omega)
   refine lw_tvn 1 rfl (wp_plain _ [0,0,0] rfl (lw_tv 1 rfl (q_add ((k + 1 :Nat):Int) rfl rfl (w64n oM z226_0) zN (lw_tvn 1 rfl ?_))))
   exact ⟨((k + 1),v9),_,rfl,⟨rfl,rfl,rfl,rfl,trivial⟩,⟨hE9,(by rw [tab_succ]; have h:=hO9.up o1; rw [hs,show i = k + 1 from by omega] at h; exact h),z226_0⟩,by first | omega | (dsimp only; omega)⟩
 ·
  exact q_lss false rfl rfl (decide_eq_false hc3) zN (lw_nil (c_cond_f rfl (wp_exit (t_exit (t_exit (c_exit_here (wp_seq (wp_plain _ [0,0] rfl (lw_tvn 2 rfl (wp_ret (post_ret [4] rfl vo rfl ⟨vo,rfl,hE2,(by have h:=hL2_0.up o1; rw [show k = a.length from by omega] at h; exact h)⟩)))))))))))
theorem z227_0 {p:Prop} (h:p:=by first | omega | assumption | (simp only [List.length_nil,List.length_cons,List.length_append,List.length_set,List.length_replicate,quL_len]; omega) | (simp [List.length_nil,List.length_cons,List.length_append,List.length_set,List.length_replicate,quL_len]; done) | (simp [List.length_nil,List.length_cons,List.length_append,List.length_set,List.length_replicate,quL_len]; omega)):p:=h
theorem c_spec_l01Div (w:World) (va:Value) (a:List Int) (vb:Value) (b:List Int) (ha:Rd (rdL rI) w.heap va a) (hb:Rd (rdL rI) w.heap vb b) (hla:a.length≤1000000000000) (hl:a.length≤b.length) (h1:0 < b.length) (hqa:allN a = true) :
  Calls Tryz.prog 227 #[va,vb] w (fun e w'=>∃ v0:Value,e = .returned (v0)∧Ext w w'∧Fr (owL rI 2) w.heap.size w'.heap.size w'.heap v0 (quoS a b)):=by
 refine calls_mk [va,vb] 50 Tryz.func227 rfl rfl sM ?_
 have hE0:Ext w w:=Ext.refl w
 have hl_va:=ha.lenle
 have hl_vb:=hb.lenle
 refine wp_seq (wp_plain _ [0] rfl (lw_tvn 1 rfl (wp_seq (wp_plain _ [3,0] rfl (r_nil (rI) good_rI u27 ti2 zN fun v1 w1 hX1 hz1 hO1=>?_)))))
 have hzs1:=hX1.size
 have hE1:=hE0.trans hX1
 refine lw_tvn 1 rfl (wp_seq (wp_plain _ [0,0,2,0,0] rfl (lw_tv 1 rfl (q_idx (v:=vb) 0 u27 ti2 rfl rfl hb.isSl rfl z227_0 zN ?_))))
 refine q_load (p:=eptr vb 0 1) (.inr rfl) (.int .i64 (b.getD 0 0)) one2 rfl (ldH_ext hE1 (hb.getI z227_0).1) zN ?_
 refine lw_callq 175 [] [] [(.int .i64 (b.getD 0 0))] rfl rfl cf175 zN (.int .i64 (inv (b.getD 0 0))) (fun wq=>c_spec_l01Inv wq _ (hb.getI z227_0).2) (lw_tvn 1 rfl (wp_seq (wp_seq (wp_plain _ [0] rfl (lw_tvn 1 rfl (wp_block ?_))))))
 refine c_loop (S:=Nat × Value) (fun (⟨k,vo⟩:Nat × Value)=>([(5,vo),(7,(.int .i64 ((k :Nat):Int))),(0,va),(1,vb),(6,(.int .i64 (inv (b.getD 0 0))))]:List (Nat × Value))) (fun (⟨k,vo⟩:Nat × Value) (W:World)=>Ext w W∧Fr (owL rI 2) w.heap.size W.heap.size W.heap vo (quL a b k)∧k≤a.length) (fun (⟨k,vo⟩:Nat × Value)=>a.length - k) (0,v1) ⟨rfl,rfl,rfl,rfl,rfl,trivial⟩ ⟨hE1,(by exact hO1.up o1),z227_0⟩ ?_
 clear hE0 hO1 hz1 hX1 hzs1 hE1
 rintro ⟨k,vo⟩ ρ3 w3 ⟨hE3,hL3_0,hp3_0⟩
 have hzs3:w.heap.size≤w3.heap.size:=hE3.size
 refine wp_seq (wp_seq (wp_plain _ [0,0,0,0] rfl (lw_tv 2 rfl (q_len (v:=va) u27 rfl ha.isSl zN ?_))))
 by_cases hc4:((k :Nat):Int) < ((a.length :Nat):Int)
 ·
  refine q_lss true rfl rfl (decide_eq_true hc4) zN (lw_nil (c_cond_t rfl (wp_skip (wp_seq (wp_block (wp_seq (wp_plain _ [0,0,0,2,0] rfl (lw_tv 2 rfl (q_idx (v:=va) k u27 ti2 rfl rfl ha.isSl rfl z227_0 zN ?_)))))))))
  refine q_load (p:=eptr va k 1) (.inr rfl) (.int .i64 (a.getD k 0)) one2 rfl (ldH_ext hE3 (ha.getI z227_0).1) zN (lw_tvn 1 rfl (wp_seq (wp_seq (wp_plain _ [0] rfl (lw_tvn 1 rfl (wp_block ?_))))))
  refine c_loop (S:=Nat × Int) (fun (⟨i,t⟩:Nat × Int)=>([(8,(.int .i64 t)),(9,(.int .i64 ((i :Nat):Int))),(0,va),(1,vb),(5,vo),(6,(.int .i64 (inv (b.getD 0 0)))),(7,(.int .i64 ((k :Nat):Int)))]:List (Nat × Value))) (fun (⟨i,t⟩:Nat × Int) (W:World)=>Ext w W∧Fr (owL rI 2) w.heap.size W.heap.size W.heap vo (quL a b k)∧i≤k∧t = qrk a b (quL a b k) k i∧(0≤t∧t < 1000003)) (fun (⟨i,t⟩:Nat × Int)=>k - i) (0,(a.getD k 0)) ⟨rfl,rfl,rfl,rfl,rfl,rfl,rfl,trivial⟩ ⟨hE3,hL3_0.up o1,z227_0,(by rfl),(by exact allN_get hqa k)⟩ ?_
  clear hL3_0 hE3 hzs3
  rintro ⟨i,t⟩ ρ5 w5 ⟨hE5,hL5_0,hp5_0,ht,htr⟩
  have hzs5:w.heap.size≤w5.heap.size:=hE5.size
  refine wp_seq (wp_seq (wp_plain _ [0,0,0] rfl (lw_tv 2 rfl ?_)))
  by_cases hc6:((i :Nat):Int) < ((k :Nat):Int)
  ·
   refine q_lss true rfl rfl (decide_eq_true hc6) zN (lw_nil (c_cond_t rfl (wp_skip (wp_seq (wp_block (wp_draw _ [0,0,0,0,1,0,0,0,0,0,1,0,0,0] mixed (by kernel_rfl) ?_))))))
   have hmn:=md_num ((quL a b k).getD i 0 * b.getD (k - i) 0)
   refine lw_tv 3 rfl (q_idx (v:=vo) i u27 ti2 rfl rfl hL5_0.isSl rfl z227_0 zN ?_)
   refine q_load (p:=eptr vo i 1) (.inl rfl) (.int .i64 ((quL a b k).getD i 0)) one2 rfl (hL5_0.rd1.getI z227_0).1 zN (lw_tv 3 rfl (q_sub ((k - i :Nat):Int) rfl rfl (by rw [w64 oM oM]; omega) zN ?_))
   refine q_idx (v:=vb) (k - i) u27 ti2 rfl rfl hb.isSl rfl z227_0 zN ?_
   refine q_load (p:=eptr vb (k - i) 1) (.inl rfl) (.int .i64 (b.getD (k - i) 0)) one2 rfl (ldH_ext hE5.drew (hb.getI z227_0).1) zN ?_
   refine lw_callq 76 [] [] [(.int .i64 ((quL a b k).getD i 0)),(.int .i64 (b.getD (k - i) 0))] rfl rfl cf76 zN (.int .i64 (md (((quL a b k).getD i 0) * (b.getD (k - i) 0)))) (fun wq=>c_spec_Times wq _ _ (hL5_0.rd1.getI z227_0).2 (hb.getI z227_0).2) ?_
   refine lw_callq 124 [] [] [(.int .i64 t),(.int .i64 (md (((quL a b k).getD i 0) * (b.getD (k - i) 0))))] rfl rfl cf124 zN (.int .i64 (md (t - (md (((quL a b k).getD i 0) * (b.getD (k - i) 0)))))) (fun wq=>c_spec_l01Minus wq _ _ oM (md_rng _) oM) (lw_tvn 1 rfl (wp_plain _ [0,0,0] rfl (lw_tv 1 rfl (q_add ((i + 1 :Nat):Int) rfl rfl (w64n oM z227_0) zN (lw_tvn 1 rfl ?_)))))
   exact ⟨((i + 1),(md (t - (md (((quL a b k).getD i 0) * (b.getD (k - i) 0)))))),_,rfl,⟨rfl,rfl,rfl,rfl,rfl,rfl,rfl,trivial⟩,⟨hE5.drew,hL5_0.up o1,z227_0,(by rw [md_subr,ht]; rfl),(by exact md_num _)⟩,by first | omega | (dsimp only; omega)⟩
  ·
   refine q_lss false rfl rfl (decide_eq_false hc6) zN (lw_nil (c_cond_f rfl (wp_exit (t_exit (t_exit (c_exit_here (wp_plain _ [0,0,0,0,3,4,0] rfl (lw_tv 3 rfl (lw_callq 76 [] [] [(.int .i64 t),(.int .i64 (inv (b.getD 0 0)))] rfl rfl cf76 zN (.int .i64 (md (t * (inv (b.getD 0 0))))) (fun wq=>c_spec_Times wq _ _ oM (inv_rng _)) (r_one (u:=(.int .i64 (md (t * (inv (b.getD 0 0)))))) (B:=w5.heap.size) good_rI u27 ti2 rfl rfl (frI w5.heap.size w5.heap.size _ _ (md_rng _)) (Nat.le_refl _) zN fun v10 w10 hX10 hz10 hO10=>?_))))))))))
   have hzs10:=hX10.size
   have hE10:=hE5.trans hX10
   have hL5_0x10:=hL5_0.ext (o1) hX10
   refine e_appI (v:=vo) (a:=v10) u27 ti2 rfl rfl rfl hL5_0x10 hE10.size hO10.rd1 z227_0 (by unfold maxLen; first | omega | assumption | (simp [quL_len]; done) | (simp [quL_len]; omega)) zN fun v11 w11 F11 hC11 hF11 hO11=>?_
   have hE11:Ext w w11:=hC11.below hE10 (fun c hc=>Nat.le_trans (Nat.le_refl _) (hF11 c hc).1) hE10.size
   have hzs11:=hC11.size
   have hF12:=hO10.chg (o1) hC11 (fun c hc=>by have:=hF11 c hc; omega)
   refine lw_tvn 1 rfl (wp_plain _ [0,0,0] rfl (lw_tv 1 rfl (q_add ((k + 1 :Nat):Int) rfl rfl (w64n oM z227_0) zN (lw_tvn 1 rfl ?_))))
   exact ⟨((k + 1),v11),_,rfl,⟨rfl,rfl,rfl,rfl,rfl,trivial⟩,⟨hE11,(by have h:=hO11.up o1; rw [ht,show i = k from by omega] at h; exact h),z227_0⟩,by first | omega | (dsimp only; omega)⟩
 ·
  exact q_lss false rfl rfl (decide_eq_false hc4) zN (lw_nil (c_cond_f rfl (wp_exit (t_exit (t_exit (c_exit_here (wp_seq (wp_plain _ [0,0] rfl (lw_tvn 2 rfl (wp_ret (post_ret [4] rfl vo rfl ⟨vo,rfl,hE3,(by have h:=hL3_0.up o1; rw [show k = a.length from by omega] at h; exact h)⟩)))))))))))
end Go.Proofs.YtnokbaiemimhjaaGreat
