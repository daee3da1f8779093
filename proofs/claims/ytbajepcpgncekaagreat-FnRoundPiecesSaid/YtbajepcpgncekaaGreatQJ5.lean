/- Yc, Yd, Ye, Yr, Yt, Xa, Xb, Yu: texts of this claim, joined; what the claim does not come to is left out. -/
import Derived.Test.YtbajepcpgncekaaGreatQJ4
import Derived.Test.YtbajepcpgncekaaGreatProg
set_option linter.unusedVariables false
set_option linter.unusedSimpArgs false
namespace Go.Proofs.YtbajepcpgncekaaGreat
open Go Go.RowKit
section
set_option maxHeartbeats 4000000
set_option maxRecDepth 100000
attribute [local irreducible] LW
theorem Gu (w:World)(n:Int)(vo:Nat)(ord:Int)(_hn:Bx n)(hcord:Hf w.heap (.pointer (some ⟨vo,0,none⟩))=some (.int .i64 ord))(_hord:Bx ord)(ho:0≤ord∧ord≤12) :
  Calls Tryz.prog 186 #[.int .i64 n,.pointer (some ⟨vo,0,none⟩)] w (fun e w'=>∃v0:Value,e=.returned (v0)∧AF w w'∧Fr (Bh rI 2) w.heap.size w'.heap.size w'.heap v0 (cst (ord.toNat+1) n)):=by
 refine Aq [.int .i64 n,.pointer (some ⟨vo,0,none⟩)] 12 Tryz.func186 Z Z sM ?_
 have a0:AF w w:=AF.refl w
 refine A0 (Ab _ [0] Z (Ac 1 Z (A0 (Ab _ [2,0,3,0] Z (Ai (.inr Z) (.int .i64 ord) Lk Z (AZ a0 hcord) Aa (AP ((ord.toNat+1:Nat):Int) Z Z (Bl oM oM) Aa (GA (n:=ord.toNat+1) Bt BT Z Z Z sD Aa fun v1 w1 a1 aa a2=>?_)))))))
 have a5:=a1.size
 have a3:=a0.trans a1
 refine Ac 1 Z (A0 (Ab _ [0,0,0,4] Z (Ad 2 Z (AB (v:=v1) 0 Bt BT Z Z a2.isSl Z sM Aa (Im (v:=v1) (w:=w1) Hv Z Z _hn a2 sM Aa fun w2 F2 a4 ab a6 a7=>?_)))))
 have a8:AF w w2:=a4.below a3 (fun c hc=>A8 (A7 _) (a6 c hc).1) a3.size
 have a9:w1.heap.size≤w2.heap.size:=a4.size
 exact Aj (A0 (Ab _ [0,0] Z (Ac 2 Z (A1 (Af [3] Z v1 Z ⟨v1,rfl,a8,a7.up o1⟩)))))
theorem IM {p:Prop}(h:p:=by first|(rw[Dt oM,MT oM];exact⟨_,_,by assumption⟩)|(rw[Dt oM,L7 oM];exact⟨_,_,by assumption⟩)|(rw[Dt oM,L8 oM];exact⟨_,_,by assumption⟩)|(rw[Dt oM,L9 oM];exact⟨_,_,by assumption⟩)|(rw[Dt oM,La oM];exact⟨_,_,by assumption⟩)|(rw[Dt oM,Lb oM];exact⟨_,_,by assumption⟩)|(rw[Dt oM,Lc oM];exact⟨_,_,by assumption⟩)):p:=h
theorem IN {p:Prop}(h:p:=by unfold maxLen;first|omega|assumption|(simp only[List.length_nil,List.length_cons,List.length_append,List.length_set,List.length_replicate];omega)|(simp[List.length_nil,List.length_cons,List.length_append,List.length_set,List.length_replicate];done)|(simp[List.length_nil,List.length_cons,List.length_append,List.length_set,List.length_replicate];omega)):p:=h
theorem IO {p:Prop}(h:p:=by first|exact Ui hzk oM|exact Uj hzk oM):p:=h
theorem IP {p:Prop}(h:p:=by exact Uh hR hsA (hform k hkl) hkl):p:=h
theorem Hb (w:World)(ipT:Int)(vtc vtg vtx:Value)(T:Tp)(oT:List Int)(va:Value)(A:List (List Int))(ord:Int)(_hipT:Bx ipT)(htcT:RN [] (DM 4 On) w.heap vtc T.code)(htgT:RN [] (DM 2 Oo) w.heap vtg T.grd)(htoT:RN [] (B3 rI) w.heap vtx oT)(hA:RN [] (B3 (B3 rI)) w.heap va A)(hqA:C5 va)(_hord:Bx ord)(ho:0≤ord∧ord≤12)(hsA:BV (ord.toNat+1) A)(hform:∀k,k<T.code.length→Ey A.length k (T.code.getD k AE.zero))(hlt:T.code.length≤4000) :
  Calls Tryz.prog 109 #[(.agg #[(.int .i64 ipT),vtc,vtg,vtx]),va,.int .i64 ord] w (fun e w'=>∃(v0:Value) (c1:Int),e=.returned (.tuple #[v0,.int .i64 c1])∧AF w w'∧Yq (ord.toNat+1) A T.code c1∧(c1=0→RN [] (B3 (B3 rI)) w'.heap v0 (B7 (ord.toNat+1) A T.code)∧C5 v0)):=by
 refine Aq [(.agg #[(.int .i64 ipT),vtc,vtg,vtx]),va,.int .i64 ord] 109 Tryz.func109 Z Z sM ?_
 have gp:AF w w:=AF.refl w
 have hl_vtx:=htoT.lenL
 unfold maxLen at hl_vtx
 have hl_va:=hA.lenL
 unfold maxLen at hl_va
 have hS:∀b∈([]:List Nat),b<w.heap.size:=fun b hb=>by cases hb
 refine A0 (Ab _ [3,3,0,0] Z (Bu (cs:=#[(.int .i64 ipT),vtc,vtg,vtx]) Z Aa fun w1 dx im dt=>?_))
 have dy:=dx.size
 have gq:=gp.trans dx
 replace dt:BX w1.heap w.heap.size [(.int .i64 ipT),vtc,vtg,vtx]:=dt
 have jr:=dt.lt
 refine XF (u:=(.int .i64 ord)) Z Z Aa fun w2 du io dv=>?_
 have dz:=du.size
 have gr:=gq.trans du
 have bg:=dt.ext du
 replace dv:BX w2.heap w1.heap.size [(.int .i64 ord)]:=dv
 refine Ac 2 Z (A0 (Ab _ [3,0] Z ?_))
 obtain⟨BO,hBO⟩:∃b:Nat,b=w2.heap.size:=⟨_,rfl⟩
 have hwB:w.heap.size≤BO:=by omega
 have js:w.heap.size<BO:=by have:=BX.lt bg;omega
 have jt:w1.heap.size<BO:=by have:=BX.lt dv;omega
 refine CQ rV By BH B8 Aa fun v4 w4 ch ip e0=>?_
 have e1:=ch.size
 have gs:=gr.trans ch
 have ci:=bg.ext ch
 have cj:=dv.ext ch
 obtain⟨ju,F4,jv⟩:=Hi.nil (S:=[]) (by rw[← hBO]at e0;exact e0)
 refine Ac 1 Z (A0 (Ab _ [0,0] Z (MA [] [(.pointer (some ⟨w1.heap.size,0,none⟩))] Z Z Aa (Ac 1 Z (A0 (A0 (Ab _ [0,2,0,0] Z (Ak (p:=(.pointer (some ⟨w.heap.size,0,none⟩))) (b:=w.heap.size) (o:=0) 1 Fk Z Z Aa (Ai (p:=(Ap (.pointer (some ⟨w.heap.size,0,none⟩)) 1)) (.inr Z) vtc K9 Z (ci.ldp (i:=1) sM) Aa (AQ (v:=vtc) OU Z htcT.isSl Aa (Ac 1 Z (A3 ?_))))))))))))
 refine B1 (S:=Nat×Value) (fun⟨k,vo⟩=>([(8,vo),(18,(.int .i64 ((k:Nat):Int))),(1,va),(9,(.func (.func 186) #[] #[(.pointer (some ⟨w1.heap.size,0,none⟩))])),(16,vtc),(17,(.int .i64 ((T.code.length:Nat):Int)))])) (fun⟨k,vo⟩ W=>AF w W∧BX W.heap w1.heap.size [(.int .i64 ord)]∧k≤T.code.length∧w.heap.size≤BO∧BO≤W.heap.size∧Oz 27 [] BO W.heap vo (B7 (ord.toNat+1) A (T.code.take k))∧L6 (ord.toNat+1) A T.code k∧BV (ord.toNat+1) (B7 (ord.toNat+1) A (T.code.take k))) (fun⟨k,vo⟩=>T.code.length-k) (0,v4) ⟨rfl,rfl,rfl,rfl,rfl,rfl,trivial⟩ ⟨gs,cj,oM,oM,oM,(by exact⟨_,_,by assumption⟩),(by exact XG),(by intro j hj;simp at hj)⟩ ?_
 clear gp im dx dy gq io du dz gr e0 ip ch e1 gs
 rintro⟨k,vo⟩ ρ7 w7 ⟨dw,au,gt,gu,gv,hbld,hzk,hR⟩
 have iq:w.heap.size≤w7.heap.size:=dw.size
 have hRl:(B7 (ord.toNat+1) A (T.code.take k)).length=k:=by rw[BQ,List.length_take];omega
 have jw:=au.lt
 obtain⟨jx,F9,av⟩:=hbld
 have hFl:∀b∈F9,b<w7.heap.size:=av.lt
 refine A0 (Ab _ [0] Z ?_)
 by_cases ck:((k:Nat):Int)<((T.code.length:Nat):Int)
 ·refine AG true Z Z (A5 ck) Aa (Aj (A0 (Ag Z (A2 (A0 (A3 (A0 (Ab _ [0,2,3,4] Z ?_))))))))
  have hkl:k<T.code.length:=by omega
  refine AB (v:=vtc) k OU Jn Z Z htcT.isSl Z sD Aa ?_
  obtain⟨cs11,e2,e3⟩:=htcT.get Bb AE.zero (k:=k) sD
  obtain⟨rfl,e4⟩:=MU e2
  refine AK (p:=Ay vtc k 4) (.inr Z) [(.int .i64 ((T.code.getD k AE.zero).op)),(.int .i64 ((T.code.getD k AE.zero).a)),(.int .i64 ((T.code.getD k AE.zero).b)),(.int .i64 ((T.code.getD k AE.zero).num))] Fl Z (fun wq9 ir=>e3 wq9 (Au.of_ext [] (dw.trans ir))) Z Aa ?_
  have is:=au.lt
  refine Bo (z:=.agg #[.int .i64 0,.int .i64 0,.int .i64 0,.int .i64 0]) Ta Aa fun w12 ai it bn=>?_
  have gw:=ai.size
  have cl:=dw.trans ai
  have aw:=au.ext ai
  have iu:=av.ext ai
  replace bn:BX w12.heap w7.heap.size [(.int .i64 0),(.int .i64 0),(.int .i64 0),(.int .i64 0)]:=bn
  refine Bz (vs:=[(.int .i64 ((T.code.getD k AE.zero).op)),(.int .i64 ((T.code.getD k AE.zero).a)),(.int .i64 ((T.code.getD k AE.zero).b)),(.int .i64 ((T.code.getD k AE.zero).num))]) Fl Z Z (by intro u hu;simp only[List.mem_cons,List.not_mem_nil,or_false]at hu;rcases hu with rfl|rfl|rfl|rfl <;> first|exact⟨rfl,rfl⟩) bn Z Z Aa fun w15 ay iv az=>?_
  replace az:BX w15.heap w7.heap.size [(.int .i64 ((T.code.getD k AE.zero).op)),(.int .i64 ((T.code.getD k AE.zero).a)),(.int .i64 ((T.code.getD k AE.zero).b)),(.int .i64 ((T.code.getD k AE.zero).num))]:=az
  have e5:AF w w15:=ay.below cl (fun c hc=>by have:=A9 hc;omega) cl.size
  have gx:w12.heap.size≤w15.heap.size:=ay.size
  have cm:=aw.chg ay (fun hm=>by have:=A9 hm;omega)
  have e6:=av.ext (ay.below ai (fun c hc=>by have:=A9 hc;omega) ai.size)
  refine Aj (A0 (Ab _ [0,0,2,3,0] Z (Ad 1 Z (Ak (p:=(.pointer (some ⟨w7.heap.size,0,none⟩))) (b:=w7.heap.size) (o:=0) 3 Fm Z Z Aa (Ai (p:=(Ap (.pointer (some ⟨w7.heap.size,0,none⟩)) 3)) (.inr Z) (.int .i64 ((T.code.getD k AE.zero).num)) AD Z (az.ldp (i:=3) sM) Aa (As 186 [] [(.pointer (some ⟨w1.heap.size,0,none⟩))] [(.int .i64 ((T.code.getD k AE.zero).num)),(.pointer (some ⟨w1.heap.size,0,none⟩))] Z Z YW Aa (Gu _ _ (w1.heap.size) (ord) e4.2.2.2 (cm.ld (k:=0) sM) _hord oM) ?_))))))
  rintro e18 w18 ⟨bh,rfl,aj,ad⟩
  refine⟨_,rfl,aj,?_⟩
  have gy:=aj.size
  have a8:=e5.trans aj
  have a2:=cm.ext aj
  have a0:=az.ext aj
  have a1:=e6.ext aj
  refine Ac 1 Z (A0 (A0 (Ab _ [0,2] Z (Ak (p:=(.pointer (some ⟨w7.heap.size,0,none⟩))) (b:=w7.heap.size) (o:=0) 0 Ln Z Z Aa (Ai (p:=(Ap (.pointer (some ⟨w7.heap.size,0,none⟩)) 0)) (.inr Z) (.int .i64 ((T.code.getD k AE.zero).op)) AD Z (a0.ldp (i:=0) sM) Aa (Aj (A3 (A0 (Ab _ [0,0] Z ?_)))))))))
  by_cases cn:(T.code.getD k AE.zero).op=((1:Nat):Int)
  ·refine Am true Z Z (A5 cn) Aa (Ac 1 Z (Ag Z (Ab _ [0,0,2,0,2,0] Z ?_)))
   have hio:=(hform k hkl).i1 oM
   refine Ad 1 Z (Ak (p:=(.pointer (some ⟨w7.heap.size,0,none⟩))) (b:=w7.heap.size) (o:=0) 3 Fm Z Z Aa (Ai (p:=(Ap (.pointer (some ⟨w7.heap.size,0,none⟩)) 3)) (.inr Z) (.int .i64 ((T.code.getD k AE.zero).num)) AD Z (a0.ldp (i:=3) sM) Aa (AB (v:=va) (((T.code.getD k AE.zero).num).toNat) BH B8 Z Z hA.slL oM sD Aa ?_)))
   obtain⟨bo,e7,bp⟩:=RN.getL (w:=w) g1 [] (k:=((T.code.getD k AE.zero).num).toNat) hA sD
   have co:=bp.lenL
   unfold maxLen at co
   refine Ai (p:=Ay va (((T.code.getD k AE.zero).num).toNat) 1) (.inr Z) bo Bj Z (e7 _ (Au.of_ext [] a8)) Aa (Ac 1 Z (Ab _ [0,0,3,4,0] Z (Ad 2 Z (BI (u:=bo) (B:=w18.heap.size) By BH B8 Z Z (Oj w18.heap.size w18.heap.size _ (bp.one1 g1)) (A7 _) Aa fun v22 w22 b0 iw e8=>?_))))
   have gz:=b0.size
   have bq:=a8.trans b0
   have b1:=a2.ext b0
   have b2:=a1.ext b0
   refine EC (v:=vo) (a:=v22) (u:=bo) BH B8 Z Z Z b2 oM e8 (RN.stp g1 bp (Au.of_ext [] bq) (fun b hb=>.inr (by have:=b2.low b (by simpa using hb);omega))) sD IN Aa ?_
   rintro v24 w24 G24 br cp ⟨ix,F24,iy⟩
   have i0:w22.heap.size≤w24.heap.size:=br.size
   have e9:AF w w24:=br.below bq (fun c hc=>A8 hwB (b2.low c (cp c hc))) bq.size
   have ea:=b1.chg br (fun hm=>by have:=b2.low _ (cp _ hm);omega)
   refine Ac 1 Z (Ab _ [0,0] Z (AP ((k+1:Nat):Int) Z Z (Bl oM sD) Aa (Ac 1 Z ?_)))
   exact⟨((k+1),v24),_,rfl,⟨rfl,rfl,rfl,rfl,rfl,rfl,trivial⟩,⟨e9,ea,oM,oM,oM,IM,IO,IP⟩,by first|omega|(dsimp only;omega)⟩
  ·refine Am false Z Z (A6 cn) Aa (Ac 1 Z (Ah Z (A0 (Ab _ [0,0] Z ?_))))
   by_cases cq:(T.code.getD k AE.zero).op=((3:Nat):Int)
   ·refine Am true Z Z (A5 cq) Aa (Ac 1 Z (Ag Z (AO _ [0,0,1,0,1,0,0,1,0,1,3,0] mixed (by kernel_rfl) ?_)))
    have hio:=(hform k hkl).i2 oM
    have hra:=hR (T.code.getD k AE.zero).a.toNat oM
    have hrb:=hR (T.code.getD k AE.zero).b.toNat oM
    have b3:=hra.1
    have bs:=hrb.1
    refine Ad 1 Z (Ak (p:=(.pointer (some ⟨w7.heap.size,0,none⟩))) (b:=w7.heap.size) (o:=0) 1 CK Z Z Aa (Ai (p:=(Ap (.pointer (some ⟨w7.heap.size,0,none⟩)) 1)) (.inl Z) (.int .i64 ((T.code.getD k AE.zero).a)) AD Z (a0.ldp (i:=1) sM) Aa (AB (v:=vo) (((T.code.getD k AE.zero).a).toNat) BH B8 Z Z (a1.done (fun b hb=>absurd hb List.not_mem_nil)).slL oM sD Aa ?_)))
    obtain⟨cr,eb,bt⟩:=RN.getL (w:=w18) g1 [] (k:=((T.code.getD k AE.zero).a).toNat) (a1.done (fun b hb=>absurd hb List.not_mem_nil)) sD
    have ct:=bt.lenL
    unfold maxLen at ct
    refine Ai (p:=Ay vo (((T.code.getD k AE.zero).a).toNat) 1) (.inl Z) cr Bj Z (eb _ (Au.refl _ _).drew) Aa (Ad 1 Z (Ak (p:=(.pointer (some ⟨w7.heap.size,0,none⟩))) (b:=w7.heap.size) (o:=0) 2 CB Z Z Aa (Ai (p:=(Ap (.pointer (some ⟨w7.heap.size,0,none⟩)) 2)) (.inl Z) (.int .i64 ((T.code.getD k AE.zero).b)) AD Z (a0.ldp (i:=2) sM) Aa ?_)))
    refine AB (v:=vo) (((T.code.getD k AE.zero).b).toNat) BH B8 Z Z (a1.done (fun b hb=>absurd hb List.not_mem_nil)).slL oM sD Aa ?_
    obtain⟨cu,ec,bu⟩:=RN.getL (w:=w18) g1 [] (k:=((T.code.getD k AE.zero).b).toNat) (a1.done (fun b hb=>absurd hb List.not_mem_nil)) sD
    have cv:=bu.lenL
    unfold maxLen at cv
    refine Ai (p:=Ay vo (((T.code.getD k AE.zero).b).toNat) 1) (.inl Z) cu Bj Z (ec _ (Au.refl _ _).drew) Aa (As 185 [] [] [cr,cu] Z Z Oc Aa (E0 _ _ _ _ _ (bt).rd (bu).rd oM oM (by exact hra.2) (by exact hrb.2)) ?_)
    rintro e29 w29 ⟨bi,rfl,a9,a3⟩
    refine⟨_,rfl,a9,?_⟩
    replace a9:=a9.of_drew
    have i3:=a9.size
    have ed:=a8.trans a9
    have b4:=a2.ext a9
    have ee:=a1.ext a9
    have ef:=bt.ext g1 a9
    have eg:=bu.ext g1 a9
    replace a3:=a3.low (B':=w18.heap.size) (A7 _)
    refine Ac 1 Z (Ab _ [0,0,3,4,0] Z (Ad 2 Z (BI (u:=bi) (B:=w29.heap.size) By BH B8 Z Z (Oj w29.heap.size w29.heap.size _ (⟨(C9 a3.isSl).1,(C9 a3.isSl).2⟩)) (A7 _) Aa fun v33 w33 ae iz eh=>?_)))
    have i4:=ae.size
    have cw:=ed.trans ae
    have b5:=b4.ext ae
    have ak:=a3.ext (o1) ae
    have bv:=ee.ext ae
    have j0:=ef.ext g1 ae
    have j1:=eg.ext g1 ae
    refine EC (v:=vo) (a:=v33) (u:=bi) BH B8 Z Z Z bv oM eh (RN.of_fr1 ak (fun b hb=>by have:=hFl b (by simpa using hb);omega)) sD IN Aa ?_
    rintro v37 w37 G37 bw cx ⟨j2,F37,j3⟩
    have i5:w33.heap.size≤w37.heap.size:=bw.size
    have ei:AF w w37:=bw.below cw (fun c hc=>A8 hwB (bv.low c (cx c hc))) cw.size
    have ej:=b5.chg bw (fun hm=>by have:=bv.low _ (cx _ hm);omega)
    refine Ac 1 Z (Ab _ [0,0] Z (AP ((k+1:Nat):Int) Z Z (Bl oM sD) Aa (Ac 1 Z ?_)))
    exact⟨((k+1),v37),_,rfl,⟨rfl,rfl,rfl,rfl,rfl,rfl,trivial⟩,⟨ei,ej,oM,oM,oM,IM,IO,IP⟩,by first|omega|(dsimp only;omega)⟩
   ·refine Am false Z Z (A6 cq) Aa (Ac 1 Z (Ah Z (A0 (Ab _ [0,0] Z ?_))))
    by_cases cy:(T.code.getD k AE.zero).op=((4:Nat):Int)
    ·refine Am true Z Z (A5 cy) Aa (Ac 1 Z (Ag Z (AO _ [0,0,1,0,1,0,0,1,0,1,3,0] mixed (by kernel_rfl) ?_)))
     have hio:=(hform k hkl).i2 oM
     have hra:=hR (T.code.getD k AE.zero).a.toNat oM
     have hrb:=hR (T.code.getD k AE.zero).b.toNat oM
     have b3:=hra.1
     have bs:=hrb.1
     refine Ad 1 Z (Ak (p:=(.pointer (some ⟨w7.heap.size,0,none⟩))) (b:=w7.heap.size) (o:=0) 1 CK Z Z Aa (Ai (p:=(Ap (.pointer (some ⟨w7.heap.size,0,none⟩)) 1)) (.inl Z) (.int .i64 ((T.code.getD k AE.zero).a)) AD Z (a0.ldp (i:=1) sM) Aa (AB (v:=vo) (((T.code.getD k AE.zero).a).toNat) BH B8 Z Z (a1.done (fun b hb=>absurd hb List.not_mem_nil)).slL oM sD Aa ?_)))
     obtain⟨cz,ek,bx⟩:=RN.getL (w:=w18) g1 [] (k:=((T.code.getD k AE.zero).a).toNat) (a1.done (fun b hb=>absurd hb List.not_mem_nil)) sD
     have d0:=bx.lenL
     unfold maxLen at d0
     refine Ai (p:=Ay vo (((T.code.getD k AE.zero).a).toNat) 1) (.inl Z) cz Bj Z (ek _ (Au.refl _ _).drew) Aa (Ad 1 Z (Ak (p:=(.pointer (some ⟨w7.heap.size,0,none⟩))) (b:=w7.heap.size) (o:=0) 2 CB Z Z Aa (Ai (p:=(Ap (.pointer (some ⟨w7.heap.size,0,none⟩)) 2)) (.inl Z) (.int .i64 ((T.code.getD k AE.zero).b)) AD Z (a0.ldp (i:=2) sM) Aa ?_)))
     refine AB (v:=vo) (((T.code.getD k AE.zero).b).toNat) BH B8 Z Z (a1.done (fun b hb=>absurd hb List.not_mem_nil)).slL oM sD Aa ?_
     obtain⟨d1,el,bz⟩:=RN.getL (w:=w18) g1 [] (k:=((T.code.getD k AE.zero).b).toNat) (a1.done (fun b hb=>absurd hb List.not_mem_nil)) sD
     have d2:=bz.lenL
     unfold maxLen at d2
     refine Ai (p:=Ay vo (((T.code.getD k AE.zero).b).toNat) 1) (.inl Z) d1 Bj Z (el _ (Au.refl _ _).drew) Aa (As 178 [] [] [cz,d1] Z Z Vy Aa (Hz _ _ _ _ _ (bx).rd (bz).rd oM oM oM (by exact hra.2) (by exact hrb.2)) ?_)
     rintro e42 w42 ⟨bj,rfl,aa,a4⟩
     refine⟨_,rfl,aa,?_⟩
     replace aa:=aa.of_drew
     have i6:=aa.size
     have em:=a8.trans aa
     have b6:=a2.ext aa
     have en:=a1.ext aa
     have eo:=bx.ext g1 aa
     have ep:=bz.ext g1 aa
     replace a4:=a4.low (B':=w18.heap.size) (A7 _)
     refine Ac 1 Z (Ab _ [0,0,3,4,0] Z (Ad 2 Z (BI (u:=bj) (B:=w42.heap.size) By BH B8 Z Z (Oj w42.heap.size w42.heap.size _ (⟨(C9 a4.isSl).1,(C9 a4.isSl).2⟩)) (A7 _) Aa fun v46 w46 af j4 eq=>?_)))
     have i8:=af.size
     have d3:=em.trans af
     have b7:=b6.ext af
     have al:=a4.ext (o1) af
     have c0:=en.ext af
     have j5:=eo.ext g1 af
     have j6:=ep.ext g1 af
     refine EC (v:=vo) (a:=v46) (u:=bj) BH B8 Z Z Z c0 oM eq (RN.of_fr1 al (fun b hb=>by have:=hFl b (by simpa using hb);omega)) sD IN Aa ?_
     rintro v50 w50 G50 c2 d4 ⟨j7,F50,j8⟩
     have i9:w46.heap.size≤w50.heap.size:=c2.size
     have er:AF w w50:=c2.below d3 (fun c hc=>A8 hwB (c0.low c (d4 c hc))) d3.size
     have es:=b7.chg c2 (fun hm=>by have:=c0.low _ (d4 _ hm);omega)
     refine Ac 1 Z (Ab _ [0,0] Z (AP ((k+1:Nat):Int) Z Z (Bl oM sD) Aa (Ac 1 Z ?_)))
     exact⟨((k+1),v50),_,rfl,⟨rfl,rfl,rfl,rfl,rfl,rfl,trivial⟩,⟨er,es,oM,oM,oM,IM,IO,IP⟩,by first|omega|(dsimp only;omega)⟩
    ·refine Am false Z Z (A6 cy) Aa (Ac 1 Z (Ah Z (A0 (Ab _ [0,0] Z ?_))))
     by_cases d5:(T.code.getD k AE.zero).op=((5:Nat):Int)
     ·refine Am true Z Z (A5 d5) Aa (Ac 1 Z (Ag Z (AO _ [0,0,1,0,1,0,0,1,0,1,3,0] mixed (by kernel_rfl) ?_)))
      have hio:=(hform k hkl).i2 oM
      have hra:=hR (T.code.getD k AE.zero).a.toNat oM
      have hrb:=hR (T.code.getD k AE.zero).b.toNat oM
      have b3:=hra.1
      have bs:=hrb.1
      refine Ad 1 Z (Ak (p:=(.pointer (some ⟨w7.heap.size,0,none⟩))) (b:=w7.heap.size) (o:=0) 1 CK Z Z Aa (Ai (p:=(Ap (.pointer (some ⟨w7.heap.size,0,none⟩)) 1)) (.inl Z) (.int .i64 ((T.code.getD k AE.zero).a)) AD Z (a0.ldp (i:=1) sM) Aa (AB (v:=vo) (((T.code.getD k AE.zero).a).toNat) BH B8 Z Z (a1.done (fun b hb=>absurd hb List.not_mem_nil)).slL oM sD Aa ?_)))
      obtain⟨d6,et,c3⟩:=RN.getL (w:=w18) g1 [] (k:=((T.code.getD k AE.zero).a).toNat) (a1.done (fun b hb=>absurd hb List.not_mem_nil)) sD
      have d7:=c3.lenL
      unfold maxLen at d7
      refine Ai (p:=Ay vo (((T.code.getD k AE.zero).a).toNat) 1) (.inl Z) d6 Bj Z (et _ (Au.refl _ _).drew) Aa (Ad 1 Z (Ak (p:=(.pointer (some ⟨w7.heap.size,0,none⟩))) (b:=w7.heap.size) (o:=0) 2 CB Z Z Aa (Ai (p:=(Ap (.pointer (some ⟨w7.heap.size,0,none⟩)) 2)) (.inl Z) (.int .i64 ((T.code.getD k AE.zero).b)) AD Z (a0.ldp (i:=2) sM) Aa ?_)))
      refine AB (v:=vo) (((T.code.getD k AE.zero).b).toNat) BH B8 Z Z (a1.done (fun b hb=>absurd hb List.not_mem_nil)).slL oM sD Aa ?_
      obtain⟨d8,eu,c4⟩:=RN.getL (w:=w18) g1 [] (k:=((T.code.getD k AE.zero).b).toNat) (a1.done (fun b hb=>absurd hb List.not_mem_nil)) sD
      have d9:=c4.lenL
      unfold maxLen at d9
      refine Ai (p:=Ay vo (((T.code.getD k AE.zero).b).toNat) 1) (.inl Z) d8 Bj Z (eu _ (Au.refl _ _).drew) Aa (As 179 [] [] [d6,d8] Z Z Ob Aa (Dl _ _ _ _ _ (c3).rd (c4).rd oM oM (by exact hra.2) (by exact hrb.2)) ?_)
      rintro e55 w55 ⟨bk,rfl,ab,a5⟩
      refine⟨_,rfl,ab,?_⟩
      replace ab:=ab.of_drew
      have ia:=ab.size
      have ev:=a8.trans ab
      have b8:=a2.ext ab
      have ew:=a1.ext ab
      have ex:=c3.ext g1 ab
      have ey:=c4.ext g1 ab
      replace a5:=a5.low (B':=w18.heap.size) (A7 _)
      refine Ac 1 Z (Ab _ [0,0,3,4,0] Z (Ad 2 Z (BI (u:=bk) (B:=w55.heap.size) By BH B8 Z Z (Oj w55.heap.size w55.heap.size _ (⟨(C9 a5.isSl).1,(C9 a5.isSl).2⟩)) (A7 _) Aa fun v59 w59 ag j9 ez=>?_)))
      have ib:=ag.size
      have da:=ev.trans ag
      have b9:=b8.ext ag
      have am:=a5.ext (o1) ag
      have c5:=ew.ext ag
      have ja:=ex.ext g1 ag
      have jb:=ey.ext g1 ag
      refine EC (v:=vo) (a:=v59) (u:=bk) BH B8 Z Z Z c5 oM ez (RN.of_fr1 am (fun b hb=>by have:=hFl b (by simpa using hb);omega)) sD IN Aa ?_
      rintro v63 w63 G63 c6 db ⟨jc,F63,jd⟩
      have ic:w59.heap.size≤w63.heap.size:=c6.size
      have g0:AF w w63:=c6.below da (fun c hc=>A8 hwB (c5.low c (db c hc))) da.size
      have g2:=b9.chg c6 (fun hm=>by have:=c5.low _ (db _ hm);omega)
      refine Ac 1 Z (Ab _ [0,0] Z (AP ((k+1:Nat):Int) Z Z (Bl oM sD) Aa (Ac 1 Z ?_)))
      exact⟨((k+1),v63),_,rfl,⟨rfl,rfl,rfl,rfl,rfl,rfl,trivial⟩,⟨g0,g2,oM,oM,oM,IM,IO,IP⟩,by first|omega|(dsimp only;omega)⟩
     ·refine Am false Z Z (A6 d5) Aa (Ac 1 Z (Ah Z (A0 (Ab _ [0,0] Z ?_))))
      by_cases dc:(T.code.getD k AE.zero).op=((7:Nat):Int)
      ·refine Am true Z Z (A5 dc) Aa (Ac 1 Z (Ag Z (Ab _ [0,0,2,0,2,3,0] Z ?_)))
       have hio:=(hform k hkl).i7 oM
       have hra:=hR (T.code.getD k AE.zero).a.toNat oM
       have b3:=hra.1
       refine Ad 1 Z (Ak (p:=(.pointer (some ⟨w7.heap.size,0,none⟩))) (b:=w7.heap.size) (o:=0) 1 CK Z Z Aa (Ai (p:=(Ap (.pointer (some ⟨w7.heap.size,0,none⟩)) 1)) (.inr Z) (.int .i64 ((T.code.getD k AE.zero).a)) AD Z (a0.ldp (i:=1) sM) Aa (AB (v:=vo) (((T.code.getD k AE.zero).a).toNat) BH B8 Z Z (a1.done (fun b hb=>absurd hb List.not_mem_nil)).slL oM sD Aa ?_)))
       obtain⟨dd,g3,c7⟩:=RN.getL (w:=w18) g1 [] (k:=((T.code.getD k AE.zero).a).toNat) (a1.done (fun b hb=>absurd hb List.not_mem_nil)) sD
       have de:=c7.lenL
       unfold maxLen at de
       refine Ai (p:=Ay vo (((T.code.getD k AE.zero).a).toNat) 1) (.inr Z) dd Bj Z (g3 _ (Au.refl _ _)) Aa (As 187 [] [] [dd,(.int .i64 ((1000002:Nat):Int))] Z Z Mw Aa (D4 _ _ _ _ (c7).rd oM oM (by exact hra.2) oM) ?_)
       rintro e67 w67 ⟨bl,rfl,an,ah⟩
       refine⟨_,rfl,an,?_⟩
       have id:=an.size
       have g4:=a8.trans an
       have ba:=a2.ext an
       have g5:=a1.ext an
       have g6:=c7.ext g1 an
       refine Ac 1 Z (Ab _ [0,0,3,4,0] Z (Ad 2 Z (BI (u:=bl) (B:=w67.heap.size) By BH B8 Z Z (Oj w67.heap.size w67.heap.size _ (⟨(C9 ah.isSl).1,(C9 ah.isSl).2⟩)) (A7 _) Aa fun v70 w70 ao je g7=>?_)))
       have ie:=ao.size
       have df:=g4.trans ao
       have bb:=ba.ext ao
       have ap:=ah.ext (o1) ao
       have c8:=g5.ext ao
       have jf:=g6.ext g1 ao
       refine EC (v:=vo) (a:=v70) (u:=bl) BH B8 Z Z Z c8 oM g7 (RN.of_fr1 ap (fun b hb=>by have:=hFl b (by simpa using hb);omega)) sD IN Aa ?_
       rintro v73 w73 G73 c9 dg ⟨jg,F73,jh⟩
       have ig:w70.heap.size≤w73.heap.size:=c9.size
       have g8:AF w w73:=c9.below df (fun c hc=>A8 hwB (c8.low c (dg c hc))) df.size
       have g9:=bb.chg c9 (fun hm=>by have:=c8.low _ (dg _ hm);omega)
       refine Ac 1 Z (Ab _ [0,0] Z (AP ((k+1:Nat):Int) Z Z (Bl oM sD) Aa (Ac 1 Z ?_)))
       exact⟨((k+1),v73),_,rfl,⟨rfl,rfl,rfl,rfl,rfl,rfl,trivial⟩,⟨g8,g9,oM,oM,oM,IM,IO,IP⟩,by first|omega|(dsimp only;omega)⟩
      ·refine Am false Z Z (A6 dc) Aa (Ac 1 Z (Ah Z (A0 (Ab _ [0,0] Z ?_))))
       by_cases dh:(T.code.getD k AE.zero).op=((6:Nat):Int)
       ·refine Am true Z Z (A5 dh) Aa (Ac 1 Z (Ag Z (A0 (A0 (Ab _ [0,0,2,0,2,0,2,0] Z ?_)))))
        have hio:=(hform k hkl).i2 oM
        have hra:=hR (T.code.getD k AE.zero).a.toNat oM
        have hrb:=hR (T.code.getD k AE.zero).b.toNat oM
        have b3:=hra.1
        have bs:=hrb.1
        refine Ad 1 Z (Ak (p:=(.pointer (some ⟨w7.heap.size,0,none⟩))) (b:=w7.heap.size) (o:=0) 2 CB Z Z Aa (Ai (p:=(Ap (.pointer (some ⟨w7.heap.size,0,none⟩)) 2)) (.inr Z) (.int .i64 ((T.code.getD k AE.zero).b)) AD Z (a0.ldp (i:=2) sM) Aa (AB (v:=vo) (((T.code.getD k AE.zero).b).toNat) BH B8 Z Z (a1.done (fun b hb=>absurd hb List.not_mem_nil)).slL oM sD Aa ?_)))
        obtain⟨ca,ga,bc⟩:=RN.getL (w:=w18) g1 [] (k:=((T.code.getD k AE.zero).b).toNat) (a1.done (fun b hb=>absurd hb List.not_mem_nil)) sD
        have di:=bc.lenL
        unfold maxLen at di
        refine Ai (p:=Ay vo (((T.code.getD k AE.zero).b).toNat) 1) (.inr Z) ca Bj Z (ga _ (Au.refl _ _)) Aa (AB (v:=ca) 0 Bt BT Z Z bc.slL Z sD Aa ?_)
        have gb:=RN.getI (w:=w18) (k:=0) bc sD
        refine Ai (p:=Ay ca 0 1) (.inr Z) (.int .i64 (((B7 (ord.toNat+1) A (T.code.take k)).getD (((T.code.getD k AE.zero).b).toNat) []).getD 0 0)) AD Z (gb.1 _ (Au.refl _ _)) Aa ?_
        by_cases dj:((B7 (ord.toNat+1) A (T.code.take k)).getD (((T.code.getD k AE.zero).b).toNat) []).getD 0 0=((0:Nat):Int)
        ·exact Am true Z Z (A5 dj) Aa (Aj (Ag Z (A0 (Ab _ [0,0] Z (Ac 2 Z (A1 (Al (AC (Al (AC (Al (Al (AC (Al (Af [6,7] Z (.tuple #[(.slice none 0 0),(.int .i64 ((6:Nat):Int))]) Z ⟨_,_,rfl,a8,.inr ⟨rfl,SF oM oM oM⟩,(fun h9=>absurd h9 oM)⟩)))))))))))))))
        ·refine Am false Z Z (A6 dj) Aa (Aj (Ah Z (A2 (AO _ [0,0,1,0,1,0,0,1,0,1,3,0] mixed (by kernel_rfl) (Ad 1 Z (Ak (p:=(.pointer (some ⟨w7.heap.size,0,none⟩))) (b:=w7.heap.size) (o:=0) 1 CK Z Z Aa (Ai (p:=(Ap (.pointer (some ⟨w7.heap.size,0,none⟩)) 1)) (.inl Z) (.int .i64 ((T.code.getD k AE.zero).a)) AD Z (a0.ldp (i:=1) sM) Aa ?_)))))))
         refine AB (v:=vo) (((T.code.getD k AE.zero).a).toNat) BH B8 Z Z (a1.done (fun b hb=>absurd hb List.not_mem_nil)).slL oM sD Aa ?_
         obtain⟨dk,gc,cb⟩:=RN.getL (w:=w18) g1 [] (k:=((T.code.getD k AE.zero).a).toNat) (a1.done (fun b hb=>absurd hb List.not_mem_nil)) sD
         have dl:=cb.lenL
         unfold maxLen at dl
         refine Ai (p:=Ay vo (((T.code.getD k AE.zero).a).toNat) 1) (.inl Z) dk Bj Z (gc _ (Au.refl _ _).drew) Aa (Ad 1 Z (Ak (p:=(.pointer (some ⟨w7.heap.size,0,none⟩))) (b:=w7.heap.size) (o:=0) 2 CB Z Z Aa (Ai (p:=(Ap (.pointer (some ⟨w7.heap.size,0,none⟩)) 2)) (.inl Z) (.int .i64 ((T.code.getD k AE.zero).b)) AD Z (a0.ldp (i:=2) sM) Aa ?_)))
         refine AB (v:=vo) (((T.code.getD k AE.zero).b).toNat) BH B8 Z Z (a1.done (fun b hb=>absurd hb List.not_mem_nil)).slL oM sD Aa ?_
         obtain⟨dm,gd,cc⟩:=RN.getL (w:=w18) g1 [] (k:=((T.code.getD k AE.zero).b).toNat) (a1.done (fun b hb=>absurd hb List.not_mem_nil)) sD
         have dn:=cc.lenL
         unfold maxLen at dn
         refine Ai (p:=Ay vo (((T.code.getD k AE.zero).b).toNat) 1) (.inl Z) dm Bj Z (gd _ (Au.refl _ _).drew) Aa (As 177 [] [] [dk,dm] Z Z SZ Aa (EH _ _ _ _ _ (cb).rd (cc).rd oM oM oM (by exact hra.2) (by exact hrb.2)) ?_)
         rintro e81 w81 ⟨bm,rfl,a7,a6⟩
         refine⟨_,rfl,a7,?_⟩
         replace a7:=a7.of_drew
         have ih:=a7.size
         have ge:=a8.trans a7
         have bd:=a2.ext a7
         have gf:=a1.ext a7
         have gg:=bc.ext g1 a7
         have gh:=cb.ext g1 a7
         have gi:=cc.ext g1 a7
         replace a6:=a6.low (B':=w18.heap.size) (A7 _)
         refine Ac 1 Z (Ab _ [0,0,3,4,0] Z (Ad 2 Z (BI (u:=bm) (B:=w81.heap.size) By BH B8 Z Z (Oj w81.heap.size w81.heap.size _ (⟨(C9 a6.isSl).1,(C9 a6.isSl).2⟩)) (A7 _) Aa fun v86 w86 ac ji gj=>?_)))
         have ii:=ac.size
         have dp:=ge.trans ac
         have be:=bd.ext ac
         have aq:=a6.ext (o1) ac
         have cd:=gf.ext ac
         have jj:=gg.ext g1 ac
         have jk:=gh.ext g1 ac
         have jl:=gi.ext g1 ac
         refine EC (v:=vo) (a:=v86) (u:=bm) BH B8 Z Z Z cd oM gj (RN.of_fr1 aq (fun b hb=>by have:=hFl b (by simpa using hb);omega)) sD IN Aa ?_
         rintro v91 w91 G91 ce dq ⟨jm,F91,jn⟩
         have ij:w86.heap.size≤w91.heap.size:=ce.size
         have gk:AF w w91:=ce.below dp (fun c hc=>A8 hwB (cd.low c (dq c hc))) dp.size
         have gl:=be.chg ce (fun hm=>by have:=cd.low _ (dq _ hm);omega)
         refine Ac 1 Z (Ab _ [0,0] Z (AP ((k+1:Nat):Int) Z Z (Bl oM sD) Aa (Ac 1 Z ?_)))
         exact⟨((k+1),v91),_,rfl,⟨rfl,rfl,rfl,rfl,rfl,rfl,trivial⟩,⟨gk,gl,oM,oM,oM,IM,IO,IP⟩,by first|omega|(dsimp only;omega)⟩
       ·refine Am false Z Z (A6 dh) Aa (Ac 1 Z (Ah Z (A2 (Ab _ [0,0,3,4,0] Z (Ad 2 Z (BI (u:=bh) (B:=w18.heap.size) By BH B8 Z Z (Oj w18.heap.size w18.heap.size _ (⟨(C9 ad.isSl).1,(C9 ad.isSl).2⟩)) (A7 _) Aa fun v93 w93 ax jo gm=>?_))))))
        have ik:=ax.size
        have dr:=a8.trans ax
        have bf:=a2.ext ax
        have ar:=ad.ext (o1) ax
        have cf:=a1.ext ax
        refine EC (v:=vo) (a:=v93) (u:=bh) BH B8 Z Z Z cf oM gm (RN.of_fr1 ar (fun b hb=>by have:=hFl b (by simpa using hb);omega)) sD IN Aa ?_
        rintro v95 w95 G95 cg ds ⟨jp,F95,jq⟩
        have il:w93.heap.size≤w95.heap.size:=cg.size
        have gn:AF w w95:=cg.below dr (fun c hc=>A8 hwB (cf.low c (ds c hc))) dr.size
        have go:=bf.chg cg (fun hm=>by have:=cf.low _ (ds _ hm);omega)
        refine Ac 1 Z (Ab _ [0,0] Z (AP ((k+1:Nat):Int) Z Z (Bl oM sD) Aa (Ac 1 Z ?_)))
        exact⟨((k+1),v95),_,rfl,⟨rfl,rfl,rfl,rfl,rfl,rfl,trivial⟩,⟨gn,go,oM,oM,oM,IM,IO,IP⟩,by first|omega|(dsimp only;omega)⟩
 ·exact AG false Z Z (A6 ck) Aa (Aj (A0 (Ah Z (A4 (Ax (Ax (At (A0 (Ab _ [0,0,0] Z (Ac 3 Z (A1 (Af [6,7] Z (.tuple #[vo,(.int .i64 ((0:Nat):Int))]) Z ⟨_,_,rfl,dw,.inl ⟨rfl,(by have h9:=hzk;rwa [show k=T.code.length from by omega]at h9)⟩,(fun _=>⟨(by have h9:=av.done (fun b hb=>absurd hb List.not_mem_nil);rwa [List.take_of_length_le oM]at h9),av.cap⟩)⟩))))))))))))
end
section
set_option maxHeartbeats 4000000
set_option maxRecDepth 100000
attribute [local irreducible] LW
theorem Bg (w:World)(r:Int)(vs:Value)(s:List Int)(S:List Nat)(vo:Nat)(vov:Value)(xs:List (List Int))(usxs:List Value)(Fxs:List Nat)(BO:Nat)(_hr:Bx r)(hs:Rd (B3 rI) w.heap vs s)(hcxs:Hf w.heap (.pointer (some ⟨vo,0,none⟩))=some vov)(hbxs:Hi 27 S BO w.heap vov xs usxs Fxs)(hSB:∀b∈S,b<BO)(a9:∀b∈S,b<w.heap.size)(hr:0≤r∧r<((xs.length:Nat):Int))(hxl:(xs.getD r.toNat []).length≤s.length∧s.length≤13)(hxn:B2 (xs.getD r.toNat [])=true)(hsn:B2 s=true) :
  Calls Tryz.prog 231 #[.int .i64 r,vs,.pointer (some ⟨vo,0,none⟩)] w (fun e w'=>e=.returned (.tuple #[])∧Au Fxs w w'∧∃us',Hi 27 S BO w'.heap vov (ER xs r s) us' Fxs):=by
 refine Aq [.int .i64 r,vs,.pointer (some ⟨vo,0,none⟩)] 14 Tryz.func231 Z Z sM ?_
 have a2:AF w w:=AF.refl w
 have hl_vs:=hs.lenle
 have hFl:∀b∈Fxs,b<w.heap.size:=hbxs.lt
 refine AO _ [1,0,1,0,0,1,0,3,0,4] mixed (by kernel_rfl) (Ai (.inl Z) vov Ll Z (AZ a2.drew hcxs) Aa (Ad 1 Z (Ai (.inl Z) vov Ll Z (AZ a2.drew hcxs) Aa (Ad 1 Z (AB (v:=vov) ((r).toNat) BH B8 Z Z (hbxs.done hSB).none.slL oM sD Aa ?_)))))
 obtain⟨a7,aa,a4⟩:=hbxs.getF (k:=(r).toNat) sD
 have a5:=a4.lenL
 unfold maxLen at a5
 refine Ai (p:=Ay vov ((r).toNat) 1) (.inl Z) a7 Bj Z aa Aa (Ad 1 Z (As 185 [] [] [a7,vs] Z Z Oc Aa (E0 _ _ _ _ _ a4.rd (hs.ext g1 a2.drew) oM oM (by exact hxn) (by exact hsn)) ?_))
 rintro e2 w2 ⟨a6,rfl,a1,a0⟩
 refine⟨_,rfl,a1,?_⟩
 replace a1:=a1.of_drew
 have ab:=a1.size
 have ac:=a2.trans a1
 have a8:=hbxs.ext a1
 have ad:=a4.ext g1 a1
 replace a0:=a0.low (B':=w.heap.size) (A7 _)
 refine AB (v:=vov) ((r).toNat) BH B8 Z Z (a8.done hSB).none.slL oM sD Aa ?_
 refine SG (v:=vov) (u:=a6) (w:=w2) QR Z Z a8 (RN.of_fr1 a0 (fun b hb=>by rcases List.mem_append.1 hb with hb|hb;(have:=a9 b hb;omega);(have:=hFl b hb;omega))) sD Aa fun w5 a3 ah ae=>?_
 have af:w2.heap.size≤w5.heap.size:=a3.size
 have ag:Au Fxs w w5:=(Au.of_ext _ ac).trans a3
 have ai:=ad.chg g1 (a3.sub (fun b hb=>List.mem_append_right _ hb))
 have aj:=a0.chg (o1) a3 (fun c hc=>by have:=hFl c hc;omega)
 exact Aj (R3 [] Z (.tuple #[]) Z ⟨rfl,ag,_,ae⟩)
theorem JW {p:Prop}(h:p:=by first|(rw[show(kk-1+1).toNat=kk.toNat from by omega];exact Gp hadj oM (O1 oM))|(rw[show(kk-1+1).toNat=kk.toNat from by omega];exact Gp hadj oM (O2 oM))|(rw[show(kk-1+1).toNat=kk.toNat from by omega];exact Gp hadj oM (O3 oM))|(rw[show(kk-1+1).toNat=kk.toNat from by omega];exact Gp hadj oM (O4 oM))|(rw[show(kk-1+1).toNat=kk.toNat from by omega];exact Gp hadj oM (O5 oM))|(rw[show(kk-1+1).toNat=kk.toNat from by omega];exact Gp hadj oM (O6 oM))):p:=h
theorem JX {p:Prop}(h:p:=by(try rw[show((1000002:Nat):Int)=1000002 from rfl]);first|(rw[← O1 (k:=kk.toNat) (R:=R) oM];exact GM hxs oM (hform _ hkn))|(rw[← O2 (k:=kk.toNat) (R:=R) oM];exact GM hxs oM (hform _ hkn))|(rw[← O3 (k:=kk.toNat) (R:=R) oM];exact GM hxs oM (hform _ hkn))|(rw[← O4 (k:=kk.toNat) (R:=R) oM];exact GM hxs oM (hform _ hkn))|(rw[← O5 (k:=kk.toNat) (R:=R) oM];exact GM hxs oM (hform _ hkn))|exact hxs):p:=h
theorem Fw {p:Prop}(h:p:=by first|exact hro.2|exact hRa.2|exact hRb.2|exact hRk.2|exact Eu _ _|exact Fd _ _|exact Et _ _):p:=h
theorem GU {p:Prop}(h:p:=by refine⟨?_,?_⟩ <;> first|omega|(simp only[Gg,Gf,DS,Di];omega)):p:=h
theorem GV {p:Prop}(h:p:=by first|exact hro.2|exact Eu _ _|exact Fd _ _|exact Et _ _):p:=h
theorem Fx {p:Prop}(h:p:=by first|omega|(simp only[Gg,Gf,DS,Di];omega)):p:=h
theorem JY {p:Prop}(h:p:=by first|exact hxl|(simp only[BJ];exact hxl)):p:=h
theorem HG (w:World)(m:Nat)(ni:Nat)(S:List Nat)(ipT:Int)(vtc vtg vtx:Value)(T:Tp)(oT:List Int)(vr:Value)(R:List (List Int))(vw:Value)(ws:List Int)(c1:∀b∈S,b<w.heap.size)(_hipT:Bx ipT)(htcT:RN [] (DM 4 On) w.heap vtc T.code)(htgT:RN [] (DM 2 Oo) w.heap vtg T.grd)(htoT:RN [] (B3 rI) w.heap vtx oT)(hR:RN [] (B3 (B3 rI)) w.heap vr R)(hqR:C5 vr)(hws:Rd (B3 rI) w.heap vw ws)(hm:1≤m∧m≤13)(hsR:BV m R)(hlR:R.length=T.code.length)(hlt:T.code.length≤4000)(hlo:oT.length≤ws.length∧ws.length≤1000000)(ho:∀k,k<oT.length→0≤oT.getD k 0∧oT.getD k 0<((T.code.length:Nat):Int))(hnw:B2 ws=true)(hform:∀k,k<T.code.length→Ey ni k (T.code.getD k AE.zero)) :
  Calls Tryz.prog 184 #[(.agg #[(.int .i64 ipT),vtc,vtg,vtx]),vr,vw] w (fun e w'=>∃v0:Value,e=.returned v0∧AF w w'∧RN S (B3 (B3 rI)) w'.heap v0 (Jh T.code R oT ws)∧C5 v0):=by
 refine Aq [(.agg #[(.int .i64 ipT),vtc,vtg,vtx]),vr,vw] 159 Tryz.func184 Z Z sM ?_
 have jn:AF w w:=AF.refl w
 have hl_vtx:=htoT.lenL
 unfold maxLen at hl_vtx
 have hl_vr:=hR.lenL
 unfold maxLen at hl_vr
 have hl_vw:=hws.lenle
 refine A0 (Ab _ [3,0] Z (Bu (cs:=#[(.int .i64 ipT),vtc,vtg,vtx]) Z Aa fun w1 gx ks gy=>?_))
 have gz:=gx.size
 have jo:=jn.trans gx
 replace gy:BX w1.heap w.heap.size [(.int .i64 ipT),vtc,vtg,vtx]:=gy
 refine Ac 1 Z (A0 (Ab _ [3,3,4] Z (CQ (Bh rI 2) o1 BH B8 Aa fun v2 w2 gu kt jp=>?_)))
 have i0:=gu.size
 have jq:=jo.trans gu
 have cu:=gy.ext gu
 have lu:=cu.lt
 refine Bo (z:=(.slice none 0 0)) (by kernel_rfl) Aa fun w3 dx ku i1=>?_
 have i3:=dx.size
 have i4:=jq.trans dx
 have dy:=cu.ext dx
 have c2:=jp.ext (o2) dx
 replace i1:BX w3.heap w2.heap.size [(.slice none 0 0)]:=i1
 refine Be (k:=0) (w:=w3) Zp Z Z (Bp c2.isSl) i1 sM Aa fun w5 dz kv gv=>?_
 replace gv:BX w5.heap w2.heap.size [v2]:=gv
 have jr:AF w w5:=dz.below i4 (fun c hc=>by have:=A9 hc;omega) i4.size
 have i5:w3.heap.size≤w5.heap.size:=dz.size
 have js:=dy.chg dz (fun hm=>by have:=A9 hm;omega)
 have jt:=c2.chg (o2) dz (fun c hc=>by have:=A9 hc;omega)
 refine Aj (A0 (A0 (Ab _ [0,0,0] Z (Ad 1 Z (AQ (v:=vr) BH Z hR.slL Aa (Ac 1 Z (A3 ?_)))))))
 have hLBa:w.heap.size<w1.heap.size:=by omega
 have hLBb:w1.heap.size≤w2.heap.size:=by omega
 have hLBc:=Nat.le_of_lt hLBa
 obtain⟨Fo8,e0⟩:=Ow.of_fr (T:=w2.heap.size) jt (A7 _)
 have kw:w2.heap.size∉Fo8:=fun hm=>by have:=e0.high _ hm;omega
 have kx:=e0.up (T':=w5.heap.size) oM
 have ky:w2.heap.size<w5.heap.size:=BX.lt gv
 refine B1 (S:=Nat×Value×List Nat) (fun⟨k,vo,Fo⟩=>([(20,(.int .i64 ((k:Nat):Int))),(1,vr),(2,vw),(3,(.pointer (some ⟨w.heap.size,0,none⟩))),(7,(.pointer (some ⟨w2.heap.size,0,none⟩))),(18,vr),(19,(.int .i64 ((R.length:Nat):Int)))])) (fun⟨k,vo,Fo⟩ W=>AF w W∧BX W.heap w.heap.size [(.int .i64 ipT),vtc,vtg,vtx]∧BX W.heap w2.heap.size [vo]∧k≤R.length∧Ow (Bh (Bh rI 2) 27) w1.heap.size W.heap.size W.heap vo (Jg (R.take k)) Fo∧w2.heap.size∉Fo) (fun⟨k,vo,Fo⟩=>R.length-k) (0,v2,Fo8) ⟨rfl,rfl,rfl,rfl,rfl,rfl,rfl,trivial⟩ ⟨jr,js,gv,oM,(by assumption),(by assumption)⟩ ?_
 clear jn ks gx gz jo jp kt gu i0 jq ku dx i3 i4 c2 kv dz jr i5 js jt
 rintro⟨k,vo,Fo⟩ ρ9 w9 ⟨e1,ax,ap,ju,hOl,hgF⟩
 have i6:w.heap.size≤w9.heap.size:=e1.size
 have kz:=ax.lt
 have l0:=ap.lt
 have hgl:w2.heap.size<w9.heap.size:=BX.lt ap
 refine A0 (Ab _ [0] Z ?_)
 by_cases e2:((k:Nat):Int)<((R.length:Nat):Int)
 ·refine AG true Z Z (A5 e2) Aa (Aj (A0 (Ag Z (A2 (A0 (A3 (A0 (Ab _ [0,2,0] Z (AB (v:=vr) k BH B8 Z Z hR.slL Z sD Aa ?_)))))))))
  obtain⟨e3,i8,e4⟩:=RN.getL (w:=w) g1 [] (k:=k) hR sD
  have e5:=e4.lenL
  unfold maxLen at e5
  refine Ai (p:=Ay vr k 1) (.inr Z) e3 Bj Z (i8 _ (Au.of_ext [] e1)) Aa (Ac 1 Z (AO _ [1,0,0,3,3,4,4] mixed (by kernel_rfl) ?_))
  have hrk:=hsR k oM
  have l1:=hrk.1
  refine Ai (p:=(.pointer (some ⟨w2.heap.size,0,none⟩))) (.inl Z) vo Ll Z (ap.ld (k:=0) sM) Aa (Ad 1 Z (AQ (v:=e3) Bt Z e4.slL Aa (GA (n:=(R.getD k []).length) Bt BT Z Z Z sD Aa fun v14 w14 b5 l2 i9=>?_)))
  replace b5:=b5.of_drew
  have jv:=b5.size
  have ia:=e1.trans b5
  have c3:=ax.ext b5
  have c4:=ap.ext b5
  have ib:=hOl.ext o2 b5
  refine BI (u:=v14) (B:=w9.heap.size) o1 BH B8 Z Z i9 (by first|exact A7 _|omega) Aa fun v16 w16 c5 l3 ic=>?_
  have jw:=c5.size
  have e6:=ia.trans c5
  have c6:=c3.ext c5
  have c7:=c4.ext c5
  have df:=ib.ext o2 c5
  refine VX o1 (v:=vo) (a:=v16) BH B8 Z Z Z df ic oM oM oM sD (by unfold maxLen;first|omega|assumption|(simp;done)|(simp;omega)) Aa fun v18 w18 F18 ck e7 id=>?_
  have jx:w16.heap.size≤w18.heap.size:=ck.size
  have e8:AF w w18:=ck.below e6 (fun c hc=>A8 hLBc (df.low c (List.mem_of_mem_take hc))) e6.size
  have ie:=c6.chg ck (fun hm=>by have:=df.low _ (List.mem_of_mem_take hm);omega)
  have ig:=c7.chg ck (fun hm=>hgF (List.mem_of_mem_take hm))
  have hF25d:w2.heap.size∉F18:=fun hm=>(id _ hm).elim hgF (fun h9=>by omega)
  refine Be (k:=0) (w:=w18) Zp Z Z (Bp e7.slO) ig sM Aa fun w27 cl l4 dg=>?_
  replace dg:BX w27.heap w2.heap.size [v18]:=dg
  have ih:AF w w27:=cl.below e8 (fun c hc=>by have:=A9 hc;omega) e8.size
  have jy:w18.heap.size≤w27.heap.size:=cl.size
  have ii:=ie.chg cl (fun hm=>by have:=A9 hm;omega)
  have ij:=e7.keep o2 cl (fun b hb hm=>by rw[A9 hb]at hm;exact hF25d hm)
  refine Aj (Ab _ [0,0] Z (AP ((k+1:Nat):Int) Z Z (Bl oM sD) Aa (Ac 1 Z ?_)))
  have hOe:=(ij).up (T':=w27.heap.size) oM
  rw[SH oM]at hOe
  exact⟨((k+1),v18,F18),_,rfl,⟨rfl,rfl,rfl,rfl,rfl,rfl,rfl,trivial⟩,⟨ih,ii,dg,oM,(by exact hOe),(by assumption)⟩,by first|omega|(dsimp only;omega)⟩
 ·refine AG false Z Z (A6 e2) Aa (Aj (A0 (Ah Z (A4 (Ax (Ax (At (A0 (A0 (Ab _ [0,2,0,0] Z (Ak (p:=(.pointer (some ⟨w.heap.size,0,none⟩))) (b:=w.heap.size) (o:=0) 3 Lm Z Z Aa (Ai (p:=(Ap (.pointer (some ⟨w.heap.size,0,none⟩)) 3)) (.inr Z) vtx Bj Z (ax.ldp (i:=3) sM) Aa (AQ (v:=vtx) Bt Z htoT.slL Aa (Ac 1 Z (A3 ?_)))))))))))))))
  refine B1 (S:=Nat) (fun i=>([(34,(.int .i64 ((i:Nat):Int))),(1,vr),(2,vw),(3,(.pointer (some ⟨w.heap.size,0,none⟩))),(7,(.pointer (some ⟨w2.heap.size,0,none⟩))),(32,vtx),(33,(.int .i64 ((oT.length:Nat):Int)))])) (fun i W=>AF w W∧BX W.heap w.heap.size [(.int .i64 ipT),vtc,vtg,vtx]∧BX W.heap w2.heap.size [vo]∧i≤oT.length∧Ow (Bh (Bh rI 2) 27) w1.heap.size W.heap.size W.heap vo (LJ oT ws i (Jg R)) Fo) (fun i=>oT.length-i) 0 ⟨rfl,rfl,rfl,rfl,rfl,rfl,rfl,trivial⟩ ⟨e1,ax,ap,oM,(by have h9:=hOl;rw[List.take_of_length_le oM]at h9;exact h9)⟩ ?_
  clear ap ax e1 i6
  rintro i ρ30 w30 ⟨b6,aj,a5,ik,ay⟩
  have e9:w.heap.size≤w30.heap.size:=b6.size
  have hwl:(LJ oT ws i (Jg R)).length=T.code.length:=by rw[DY,CU];exact hlR
  have l5:=aj.lt
  have l6:=a5.lt
  have l7:w2.heap.size<w30.heap.size:=BX.lt a5
  refine A0 (Ab _ [0] Z ?_)
  by_cases ea:((i:Nat):Int)<((oT.length:Nat):Int)
  ·refine AG true Z Z (A5 ea) Aa (Aj (A0 (Ag Z (A2 (A0 (A3 (A0 (Ab _ [0,0,2,0,0] Z (Ad 1 Z (AB (v:=vtx) i Bt BT Z Z htoT.slL Z sD Aa ?_))))))))))
   have il:=RN.getI (w:=w) (k:=i) htoT sD
   refine Ai (p:=Ay vtx i 1) (.inr Z) (.int .i64 (oT.getD i 0)) AD Z (il.1 _ (Au.of_ext [] b6)) Aa (Ac 2 Z (AO _ [1,0,0,1,1,0,0,1,0,1,0,0,0,1,0,0,4] mixed (by kernel_rfl) ?_))
   have hor:=ho i oM
   have hrw:=HW (m:=m) (ws:=ws) (GL hsR) (fun q hq=>by have:=ho q hq;rw[CU];omega) i oM (oT.getD i 0).toNat oM
   have l8:=hrw.1
   refine Ai (p:=(.pointer (some ⟨w2.heap.size,0,none⟩))) (.inl Z) vo Ll Z (a5.ld (k:=0) sM) Aa (Ad 1 Z (AB (v:=vo) ((oT.getD i 0).toNat) BH B8 Z Z ay.slO oM sD Aa ?_))
   obtain⟨dh,eb,ec⟩:=ay.rowO (k:=(oT.getD i 0).toNat) sD
   have ed:=(RN.of ec).lenL
   unfold maxLen at ed
   refine Ai (p:=Ay vo ((oT.getD i 0).toNat) 1) (.inl Z) dh Bj Z eb Aa (Ai (p:=(.pointer (some ⟨w2.heap.size,0,none⟩))) (.inl Z) vo Ll Z (a5.ld (k:=0) sM) Aa (Ad 1 Z (AB (v:=vo) ((oT.getD i 0).toNat) BH B8 Z Z ay.slO oM sD Aa ?_)))
   obtain⟨di,im,dj⟩:=ay.rowO (k:=(oT.getD i 0).toNat) sD
   have ee:=(RN.of dj).lenL
   unfold maxLen at ee
   refine Ai (p:=Ay vo ((oT.getD i 0).toNat) 1) (.inl Z) di Bj Z im Aa (AB (v:=di) 0 Bt BT Z Z (RN.of dj).slL Z sD Aa ?_)
   have ef:=RN.getI (w:=w30) (k:=0) (RN.of dj) sD
   refine Ai (p:=Ay di 0 1) (.inl Z) (.int .i64 (((LJ oT ws i (Jg R)).getD ((oT.getD i 0).toNat) []).getD 0 0)) AD Z (ef.1 _ (Au.refl _ _).drew) Aa (Ad 2 Z (AB (v:=vw) i Bt BT Z Z hws.isSl Z sD Aa ?_))
   refine Ai (p:=Ay vw i 1) (.inl Z) (.int .i64 (ws.getD i 0)) AD Z (AZ b6.drew (hws.getI sD).1) Aa ?_
   refine Az 230 [] [] [(.int .i64 (((LJ oT ws i (Jg R)).getD ((oT.getD i 0).toNat) []).getD 0 0)),(.int .i64 (ws.getD i 0))] Z Z T5 Aa (.int .i64 (md ((((LJ oT ws i (Jg R)).getD ((oT.getD i 0).toNat) []).getD 0 0)+(ws.getD i 0)))) (fun wq=>Hx wq _ _ ef.2 (hws.getI sD).2) ?_
   refine AB (v:=dh) 0 Bt BT Z Z (RN.of ec).slL Z sD Aa ?_
   refine Uk (v:=vo) (u:=dh) (w:=w30.drew) Hv Z Z (ED _) ay sD eb sD Aa fun w39 G39 bj l9 dk io=>?_
   replace bj:=bj.of_drew
   have jz:w30.heap.size≤w39.heap.size:=bj.size
   have ip:AF w w39:=bj.below b6 (fun c hc=>A8 hLBc (ay.low c (dk c hc))) b6.size
   have iq:=aj.chg bj (fun hm=>by have:=ay.low _ (dk _ hm);omega)
   have ir:=a5.chg bj (fun hm=>hgF (dk _ hm))
   refine Aj (Ab _ [0,0] Z (AP ((i+1:Nat):Int) Z Z (Bl oM sD) Aa (Ac 1 Z ?_)))
   have hOe:=(io).up (T':=w39.heap.size) oM
   exact⟨(i+1),_,rfl,⟨rfl,rfl,rfl,rfl,rfl,rfl,rfl,trivial⟩,⟨ip,iq,ir,oM,(by exact hOe)⟩,by first|omega|(dsimp only;omega)⟩
  ·refine AG false Z Z (A6 ea) Aa (Aj (A0 (Ah Z (A4 (Ax (Ax (At (A0 (A0 (Ab _ [0,2,0,0,0] Z ?_))))))))))
   have hOw:=ay
   rw[show i=oT.length from by omega]at hOw
   obtain⟨la,F0,is,k0⟩:=Hi.ofOw (S:=S) hOw (fun b hb=>by have:=c1 b hb;omega)
   have cm:w2.heap.size∉F0:=fun hm=>hgF (k0 _ hm)
   obtain⟨BO,hBO⟩:∃b:Nat,b=w1.heap.size:=⟨_,rfl⟩
   rw[← hBO]at is
   have hwB:w.heap.size≤BO:=by omega
   have hSB:∀b∈S,b<BO:=fun b hb=>by have:=c1 b hb;omega
   obtain⟨B0,gw⟩:∃l:List Sr,l=LJ oT ws oT.length (Jg R):=⟨_,rfl⟩
   rw[← gw]at is
   have lb:BV m B0:=by rw[gw];exact HW (GL hsR) (fun q hq=>by have:=ho q hq;rw[CU];omega) _ (A7 _)
   have lc:B0.length=T.code.length:=by rw[gw,DY,CU];exact hlR
   refine Ak (p:=(.pointer (some ⟨w.heap.size,0,none⟩))) (b:=w.heap.size) (o:=0) 1 Fk Z Z Aa (Ai (p:=(Ap (.pointer (some ⟨w.heap.size,0,none⟩)) 1)) (.inr Z) vtc K9 Z (aj.ldp (i:=1) sM) Aa (AQ (v:=vtc) OU Z htcT.isSl Aa ?_))
   refine Bs (((T.code.length:Nat):Int)-((1:Nat):Int)) Z Z (Da sD sD) Aa (Ac 1 Z (A3 ?_))
   refine B1 (S:=Int×List Sr×List Value) (fun⟨kk,xs,us⟩=>([(12,(.int .i64 kk)),(1,vr),(3,(.pointer (some ⟨w.heap.size,0,none⟩))),(7,(.pointer (some ⟨w2.heap.size,0,none⟩)))])) (fun⟨kk,xs,us⟩ W=>AF w W∧BX W.heap w.heap.size [(.int .i64 ipT),vtc,vtg,vtx]∧BX W.heap w2.heap.size [vo]∧(-1≤kk∧kk<((T.code.length:Nat):Int))∧Hi 27 S BO W.heap vo xs us F0∧BV m xs∧xs.length=T.code.length∧QZ T.code R (kk+1).toNat xs=QZ T.code R T.code.length B0) (fun⟨kk,xs,us⟩=>(kk+1).toNat) ((T.code.length:Int)-1,B0,la) ⟨rfl,rfl,rfl,rfl,trivial⟩ ⟨b6,aj,a5,oM,(by exact is),(by exact lb),(by exact lc),(by rw[show((T.code.length:Int)-1+1).toNat=T.code.length from by omega])⟩ ?_
   clear a5 aj b6 e9 k0
   rintro⟨kk,xs,us⟩ ρ42 w42 ⟨cn,au,a8,it,hbl,hxs,hxl,hadj⟩
   have k1:w.heap.size≤w42.heap.size:=cn.size
   have le:=au.lt
   have lf:=a8.lt
   have hFl:∀b∈F0,b<w42.heap.size:=hbl.lt
   have lg:=BX.lt a8
   refine A0 (A0 (Ab _ [0,0] Z (Ad 1 Z ?_)))
   by_cases eg:((0:Nat):Int)≤kk
   ·refine Dv true Z Z (A5 eg) Aa (Aj (Ag Z (A2 (A0 (A3 (A0 ?_))))))
    letI:JR:=QW [w42.drew.heap.size]
    refine Jx.AO _ [0,1,0,0,1,1,0,0,1,3,3,0] mixed (by kernel_rfl) ?_
    have ba:∀wj,Au [w42.drew.heap.size] w42.drew wj→AF w42.drew wj:=fun wj hj=>Au.toExt hj (fun b hb=>Nat.le_of_eq (A9 hb).symm)
    have hkn:kk.toNat<T.code.length:=by omega
    have hro:=hxs kk.toNat oM
    have lh:=hro.1
    have hRk:=hsR kk.toNat oM
    have li:=hRk.1
    refine Jx.Ak (p:=(.pointer (some ⟨w.heap.size,0,none⟩))) (b:=w.heap.size) (o:=0) 1 Fk Z Z Aa (Jx.ZQ (p:=(Ap (.pointer (some ⟨w.heap.size,0,none⟩)) 1)) vtc K9 Z (fun wj hj=>(BX.ext (w:=w42.drew) au (ba wj hj)).ldp (i:=1) sM) Aa (Jx.VU (.int .i64 kk) Z Aa (Jx.AB (v:=vtc) ((kk).toNat) OU Jn Z Z htcT.isSl oM sD Aa ?_)))
    obtain⟨cs49,iu,iv⟩:=htcT.get Bb AE.zero (k:=((kk).toNat)) sD
    obtain⟨rfl,av⟩:=MU iu
    refine Jx.Y6 (p:=Ay vtc ((kk).toNat) 4) [(.int .i64 ((T.code.getD ((kk).toNat) AE.zero).op)),(.int .i64 ((T.code.getD ((kk).toNat) AE.zero).a)),(.int .i64 ((T.code.getD ((kk).toNat) AE.zero).b)),(.int .i64 ((T.code.getD ((kk).toNat) AE.zero).num))] Fl Z (fun wj hj=>iv wj (Au.of_ext [] (cn.drew.trans (ba wj hj)))) Z Aa (Jx.ZQ (p:=(.pointer (some ⟨w2.heap.size,0,none⟩))) vo Ll Z (fun wj hj=>(BX.ext (w:=w42.drew) a8 (ba wj hj)).ldp (i:=0) sM) Aa (Jx.VU (.int .i64 kk) Z Aa ?_))
    refine Jx.AB (v:=vo) ((kk).toNat) BH B8 Z Z (hbl.done hSB).none.slL oM sD Aa ?_
    obtain⟨a9,iw,dl⟩:=hbl.getF (k:=(kk).toNat) sD
    have eh:=dl.lenL
    unfold maxLen at eh
    refine Jx.ZQ (p:=Ay vo ((kk).toNat) 1) a9 Bj Z (fun wj hj=>AZ (w:=w42.drew) (ba wj hj) iw) Aa ?_
    have lj:=au.lt
    have lk:=a8.lt
    have k2:w42.drew.heap.size=w42.heap.size:=rfl
    refine Jx.aJ (Bo (z:=.agg #[.int .i64 0,.int .i64 0,.int .i64 0,.int .i64 0]) Ta Aa ?_)
    intro w52 ac ll dm
    refine Aj ?_
    replace ac:=ac.of_drew
    have k3:=ac.size
    have ei:=cn.trans ac
    have bk:=au.ext ac
    have bl:=a8.ext ac
    have lm:=hbl.ext ac
    have ln:=dl.ext g1 ac
    replace dm:BX w52.heap w42.drew.heap.size [(.int .i64 0),(.int .i64 0),(.int .i64 0),(.int .i64 0)]:=dm
    refine Jx.cC (Bz (vs:=[(.int .i64 ((T.code.getD ((kk).toNat) AE.zero).op)),(.int .i64 ((T.code.getD ((kk).toNat) AE.zero).a)),(.int .i64 ((T.code.getD ((kk).toNat) AE.zero).b)),(.int .i64 ((T.code.getD ((kk).toNat) AE.zero).num))]) Fl Z Z (by intro u hu;simp only[List.mem_cons,List.not_mem_nil,or_false]at hu;rcases hu with rfl|rfl|rfl|rfl <;> first|exact⟨rfl,rfl⟩) dm Z Z Aa fun w57 b7 lo a6=>?_)
    replace a6:BX w57.heap w42.drew.heap.size [(.int .i64 ((T.code.getD ((kk).toNat) AE.zero).op)),(.int .i64 ((T.code.getD ((kk).toNat) AE.zero).a)),(.int .i64 ((T.code.getD ((kk).toNat) AE.zero).b)),(.int .i64 ((T.code.getD ((kk).toNat) AE.zero).num))]:=a6
    have ad:AF w w57:=b7.below ei (fun c hc=>by have:=A9 hc;omega) ei.size
    have k4:w52.heap.size≤w57.heap.size:=b7.size
    have bm:=bk.chg b7 (fun hm=>by have:=A9 hm;omega)
    have az:=bl.chg b7 (fun hm=>by have:=A9 hm;omega)
    have ae:=hbl.ext (b7.below ac (fun c hc=>by have:=A9 hc;omega) ac.size)
    have an:=dl.ext g1 (b7.below ac (fun c hc=>by have:=A9 hc;omega) ac.size)
    refine Aj ⟨b7,?_⟩
    refine Jx.R7 a9 Z Aa (Jx.Aj (A0 (Ab _ [0,0] Z (MA [] [(.pointer (some ⟨w2.heap.size,0,none⟩))] Z Z Aa (Ac 1 Z (A0 (Ab _ [0,2] Z (Ak (p:=(.pointer (some ⟨w42.drew.heap.size,0,none⟩))) (b:=w42.drew.heap.size) (o:=0) 0 Ln Z Z Aa (Ai (p:=(Ap (.pointer (some ⟨w42.drew.heap.size,0,none⟩)) 0)) (.inr Z) (.int .i64 ((T.code.getD ((kk).toNat) AE.zero).op)) AD Z (a6.ldp (i:=0) sM) Aa (Aj (A3 (A0 (Ab _ [0,0] Z ?_)))))))))))))
    by_cases ej:(T.code.getD ((kk).toNat) AE.zero).op=((3:Nat):Int)
    ·refine Am true Z Z (A5 ej) Aa (Ac 1 Z (Ag Z (A0 (Ab _ [0,0,2,0,4] Z ?_))))
     have hio:=(hform kk.toNat hkn).i2 oM
     have hra:=hxs (T.code.getD kk.toNat AE.zero).a.toNat oM
     have co:=hra.1
     have hRa:=hsR (T.code.getD kk.toNat AE.zero).a.toNat oM
     have hRb:=hsR (T.code.getD kk.toNat AE.zero).b.toNat oM
     have dn:=hRa.1
     have dp:=hRb.1
     refine Ad 1 Z (Ak (p:=(.pointer (some ⟨w42.drew.heap.size,0,none⟩))) (b:=w42.drew.heap.size) (o:=0) 1 CK Z Z Aa (Ai (p:=(Ap (.pointer (some ⟨w42.drew.heap.size,0,none⟩)) 1)) (.inr Z) (.int .i64 ((T.code.getD ((kk).toNat) AE.zero).a)) AD Z (a6.ldp (i:=1) sM) Aa (Ad 1 Z ?_)))
     refine AA 231 [] [(.pointer (some ⟨w2.heap.size,0,none⟩))] [(.int .i64 ((T.code.getD ((kk).toNat) AE.zero).a)),a9,(.pointer (some ⟨w2.heap.size,0,none⟩))] Z Z Jl Aa (Bg _ ((T.code.getD ((kk).toNat) AE.zero).a) a9 (xs.getD ((kk).toNat) []) S w2.heap.size vo (xs) _ _ BO av.2.1 an.rd (az.ld (k:=0) sM) ae hSB (fun b hb=>by have:=c1 b hb;omega) oM GU (by exact hra.2) GV) ?_
     rintro e63 w63 ⟨rfl,bn,lp,cp⟩
     refine⟨_,rfl,?_⟩
     have k5:w57.heap.size≤w63.heap.size:=bn.size
     have ek:AF w w63:=bn.below ad (fun c hc=>A8 hwB (ae.low c hc)) ad.size
     have ix:=bm.chg bn (fun hm=>by have:=ae.low _ hm;have:=hFl _ hm;omega)
     have el:=az.chg bn (fun hm=>cm hm)
     have em:=a6.chg bn (fun hm=>by have:=ae.low _ hm;have:=hFl _ hm;omega)
     have en:=an.chg g1 (bn.sub (fun b hb=>List.mem_append_right _ hb))
     have dq:BV m (ER xs (T.code.getD kk.toNat AE.zero).a (xs.getD kk.toNat [])):=CV hxs oM
     have iy:(ER xs (T.code.getD kk.toNat AE.zero).a (xs.getD kk.toNat [])).length=T.code.length:=by rw[BJ];exact hxl
     have hrb:=dq (T.code.getD kk.toNat AE.zero).b.toNat oM
     have dr:=hrb.1
     refine Aj (Ab _ [0,0,2,0,4] Z (Ad 1 Z (Ak (p:=(.pointer (some ⟨w42.drew.heap.size,0,none⟩))) (b:=w42.drew.heap.size) (o:=0) 2 CB Z Z Aa (Ai (p:=(Ap (.pointer (some ⟨w42.drew.heap.size,0,none⟩)) 2)) (.inr Z) (.int .i64 ((T.code.getD ((kk).toNat) AE.zero).b)) AD Z (em.ldp (i:=2) sM) Aa (Ad 1 Z ?_)))))
     refine AA 231 [] [(.pointer (some ⟨w2.heap.size,0,none⟩))] [(.int .i64 ((T.code.getD ((kk).toNat) AE.zero).b)),a9,(.pointer (some ⟨w2.heap.size,0,none⟩))] Z Z Jl Aa (Bg _ ((T.code.getD ((kk).toNat) AE.zero).b) a9 (xs.getD ((kk).toNat) []) S w2.heap.size vo (ER xs ((T.code.getD ((kk).toNat) AE.zero).a) (xs.getD ((kk).toNat) [])) _ _ BO av.2.2.1 en.rd (el.ld (k:=0) sM) cp hSB (fun b hb=>by have:=c1 b hb;omega) oM GU (by exact hrb.2) GV) ?_
     rintro e73 w73 ⟨rfl,bo,iz,j0⟩
     refine⟨_,rfl,?_⟩
     have k6:w63.heap.size≤w73.heap.size:=bo.size
     have j1:AF w w73:=bo.below ek (fun c hc=>A8 hwB (cp.low c hc)) ek.size
     have j2:=ix.chg bo (fun hm=>by have:=cp.low _ hm;have:=hFl _ hm;omega)
     have j3:=el.chg bo (fun hm=>cm hm)
     have lq:=em.chg bo (fun hm=>by have:=cp.low _ hm;have:=hFl _ hm;omega)
     have lr:=en.chg g1 (bo.sub (fun b hb=>List.mem_append_right _ hb))
     refine Aj (Ab _ [0,0,0] Z (Ad 1 Z (Bs (kk-((1:Nat):Int)) Z Z (Da sD sD) Aa (Ac 1 Z ?_))))
     have hbe:=j0
     exact⟨((kk-1),(ER (ER xs ((T.code.getD ((kk).toNat) AE.zero).a) (xs.getD ((kk).toNat) [])) ((T.code.getD ((kk).toNat) AE.zero).b) (xs.getD ((kk).toNat) [])),iz),_,rfl,⟨rfl,rfl,rfl,rfl,trivial⟩,⟨j1,j2,j3,oM,(by exact hbe),JX,JY,JW⟩,by first|omega|(dsimp only;omega)⟩
    ·refine Am false Z Z (A6 ej) Aa (Ac 1 Z (Ah Z (A0 (Ab _ [0,0] Z ?_))))
     by_cases eo:(T.code.getD ((kk).toNat) AE.zero).op=((4:Nat):Int)
     ·refine Am true Z Z (A5 eo) Aa (Ac 1 Z (Ag Z (A0 (Ab _ [0,0,2,0,4] Z ?_))))
      have hio:=(hform kk.toNat hkn).i2 oM
      have hra:=hxs (T.code.getD kk.toNat AE.zero).a.toNat oM
      have co:=hra.1
      have hRa:=hsR (T.code.getD kk.toNat AE.zero).a.toNat oM
      have hRb:=hsR (T.code.getD kk.toNat AE.zero).b.toNat oM
      have dn:=hRa.1
      have dp:=hRb.1
      refine Ad 1 Z (Ak (p:=(.pointer (some ⟨w42.drew.heap.size,0,none⟩))) (b:=w42.drew.heap.size) (o:=0) 1 CK Z Z Aa (Ai (p:=(Ap (.pointer (some ⟨w42.drew.heap.size,0,none⟩)) 1)) (.inr Z) (.int .i64 ((T.code.getD ((kk).toNat) AE.zero).a)) AD Z (a6.ldp (i:=1) sM) Aa (Ad 1 Z ?_)))
      refine AA 231 [] [(.pointer (some ⟨w2.heap.size,0,none⟩))] [(.int .i64 ((T.code.getD ((kk).toNat) AE.zero).a)),a9,(.pointer (some ⟨w2.heap.size,0,none⟩))] Z Z Jl Aa (Bg _ ((T.code.getD ((kk).toNat) AE.zero).a) a9 (xs.getD ((kk).toNat) []) S w2.heap.size vo (xs) _ _ BO av.2.1 an.rd (az.ld (k:=0) sM) ae hSB (fun b hb=>by have:=c1 b hb;omega) oM GU (by exact hra.2) GV) ?_
      rintro e84 w84 ⟨rfl,bp,ls,j4⟩
      refine⟨_,rfl,?_⟩
      have k7:w57.heap.size≤w84.heap.size:=bp.size
      have j5:AF w w84:=bp.below ad (fun c hc=>A8 hwB (ae.low c hc)) ad.size
      have j6:=bm.chg bp (fun hm=>by have:=ae.low _ hm;have:=hFl _ hm;omega)
      have j7:=az.chg bp (fun hm=>cm hm)
      have ep:=a6.chg bp (fun hm=>by have:=ae.low _ hm;have:=hFl _ hm;omega)
      have eq:=an.chg g1 (bp.sub (fun b hb=>List.mem_append_right _ hb))
      have dq:BV m (ER xs (T.code.getD kk.toNat AE.zero).a (xs.getD kk.toNat [])):=CV hxs oM
      have iy:(ER xs (T.code.getD kk.toNat AE.zero).a (xs.getD kk.toNat [])).length=T.code.length:=by rw[BJ];exact hxl
      have hrb:=dq (T.code.getD kk.toNat AE.zero).b.toNat oM
      have dr:=hrb.1
      refine Aj (AO _ [0,0,1,0,3,4] mixed (by kernel_rfl) (Ad 1 Z (Ak (p:=(.pointer (some ⟨w42.drew.heap.size,0,none⟩))) (b:=w42.drew.heap.size) (o:=0) 2 CB Z Z Aa (Ai (p:=(Ap (.pointer (some ⟨w42.drew.heap.size,0,none⟩)) 2)) (.inl Z) (.int .i64 ((T.code.getD ((kk).toNat) AE.zero).b)) AD Z (ep.ldp (i:=2) sM) Aa (Ad 1 Z (As 187 [] [] [a9,(.int .i64 ((1000002:Nat):Int))] Z Z Mw Aa (D4 _ _ _ _ eq.rd oM Fx Fw oM) ?_))))))
      rintro e94 w94 ⟨cv,rfl,ao,aw⟩
      refine⟨_,rfl,ao,?_⟩
      replace ao:=ao.of_drew
      have k8:=ao.size
      have er:=j5.trans ao
      have cq:=j6.ext ao
      have bb:=j7.ext ao
      have cr:=ep.ext ao
      have ct:=j4.ext ao
      have j8:=eq.ext g1 ao
      replace aw:=aw.low (B':=w84.heap.size) (A7 _)
      refine AA 231 [] [(.pointer (some ⟨w2.heap.size,0,none⟩))] [(.int .i64 ((T.code.getD ((kk).toNat) AE.zero).b)),cv,(.pointer (some ⟨w2.heap.size,0,none⟩))] Z Z Jl Aa (Bg _ ((T.code.getD ((kk).toNat) AE.zero).b) cv (Cs (xs.getD ((kk).toNat) []) ((1000002:Nat):Int)) S w2.heap.size vo (ER xs ((T.code.getD ((kk).toNat) AE.zero).a) (xs.getD ((kk).toNat) [])) _ _ BO av.2.2.1 aw.rd1 (bb.ld (k:=0) sM) ct hSB (fun b hb=>by have:=c1 b hb;omega) oM GU (by exact hrb.2) GV) ?_
      rintro e97 w97 ⟨rfl,b8,j9,ja⟩
      refine⟨_,rfl,?_⟩
      have k9:w94.heap.size≤w97.heap.size:=b8.size
      have jb:AF w w97:=b8.below er (fun c hc=>A8 hwB (ct.low c hc)) er.size
      have es:=cq.chg b8 (fun hm=>by have:=ct.low _ hm;have:=hFl _ hm;omega)
      have et:=bb.chg b8 (fun hm=>cm hm)
      have ka:=cr.chg b8 (fun hm=>by have:=ct.low _ hm;have:=hFl _ hm;omega)
      have kb:=j8.chg g1 (b8.sub (fun b hb=>List.mem_append_right _ hb))
      have kc:=aw.chg (o1) b8 (fun c hc=>by have:=hFl c hc;omega)
      refine Aj (Ab _ [0,0,0] Z (Ad 1 Z (Bs (kk-((1:Nat):Int)) Z Z (Da sD sD) Aa (Ac 1 Z ?_))))
      have hbe:=ja
      exact⟨((kk-1),(ER (ER xs ((T.code.getD ((kk).toNat) AE.zero).a) (xs.getD ((kk).toNat) [])) ((T.code.getD ((kk).toNat) AE.zero).b) (Cs (xs.getD ((kk).toNat) []) ((1000002:Nat):Int))),j9),_,rfl,⟨rfl,rfl,rfl,rfl,trivial⟩,⟨jb,es,et,oM,(by exact hbe),JX,JY,JW⟩,by first|omega|(dsimp only;omega)⟩
     ·refine Am false Z Z (A6 eo) Aa (Ac 1 Z (Ah Z (A0 (Ab _ [0,0] Z ?_))))
      by_cases cw:(T.code.getD ((kk).toNat) AE.zero).op=((5:Nat):Int)
      ·refine Am true Z Z (A5 cw) Aa (Ac 1 Z (Ag Z (A0 (AO _ [0,0,1,0,0,0,1,0,1,3,4] mixed (by kernel_rfl) ?_))))
       have hio:=(hform kk.toNat hkn).i2 oM
       have hra:=hxs (T.code.getD kk.toNat AE.zero).a.toNat oM
       have co:=hra.1
       have hRa:=hsR (T.code.getD kk.toNat AE.zero).a.toNat oM
       have hRb:=hsR (T.code.getD kk.toNat AE.zero).b.toNat oM
       have dn:=hRa.1
       have dp:=hRb.1
       refine Ad 1 Z (Ak (p:=(.pointer (some ⟨w42.drew.heap.size,0,none⟩))) (b:=w42.drew.heap.size) (o:=0) 1 CK Z Z Aa (Ai (p:=(Ap (.pointer (some ⟨w42.drew.heap.size,0,none⟩)) 1)) (.inl Z) (.int .i64 ((T.code.getD ((kk).toNat) AE.zero).a)) AD Z (a6.ldp (i:=1) sM) Aa (Ad 2 Z (Ak (p:=(.pointer (some ⟨w42.drew.heap.size,0,none⟩))) (b:=w42.drew.heap.size) (o:=0) 2 CB Z Z Aa (Ai (p:=(Ap (.pointer (some ⟨w42.drew.heap.size,0,none⟩)) 2)) (.inl Z) (.int .i64 ((T.code.getD ((kk).toNat) AE.zero).b)) AD Z (a6.ldp (i:=2) sM) Aa ?_)))))
       refine AB (v:=vr) (((T.code.getD ((kk).toNat) AE.zero).b).toNat) BH B8 Z Z hR.slL oM sD Aa ?_
       obtain⟨cx,eu,cy⟩:=RN.getL (w:=w) g1 [] (k:=((T.code.getD ((kk).toNat) AE.zero).b).toNat) hR sD
       have ds:=cy.lenL
       unfold maxLen at ds
       refine Ai (p:=Ay vr (((T.code.getD ((kk).toNat) AE.zero).b).toNat) 1) (.inl Z) cx Bj Z (eu _ (Au.of_ext [] ad.drew)) Aa (As 179 [] [] [a9,cx] Z Z Ob Aa (Dl _ _ _ _ _ an.rd ((cy.ext g1 ad.drew)).rd Fx Fx Fw Fw) ?_)
       rintro e110 w110 ⟨c8,rfl,a2,af⟩
       refine⟨_,rfl,a2,?_⟩
       replace a2:=a2.of_drew
       have jc:=a2.size
       have cz:=ad.trans a2
       have c9:=bm.ext a2
       have b0:=az.ext a2
       have ca:=a6.ext a2
       have bc:=ae.ext a2
       have ev:=an.ext g1 a2
       replace af:=af.low (B':=w57.heap.size) (A7 _)
       refine AA 231 [] [(.pointer (some ⟨w2.heap.size,0,none⟩))] [(.int .i64 ((T.code.getD ((kk).toNat) AE.zero).a)),c8,(.pointer (some ⟨w2.heap.size,0,none⟩))] Z Z Jl Aa (Bg _ ((T.code.getD ((kk).toNat) AE.zero).a) c8 (Cc (xs.getD ((kk).toNat) []) (R.getD (((T.code.getD ((kk).toNat) AE.zero).b).toNat) [])) S w2.heap.size vo (xs) _ _ BO av.2.1 af.rd1 (b0.ld (k:=0) sM) bc hSB (fun b hb=>by have:=c1 b hb;omega) oM GU (by exact hra.2) GV) ?_
       rintro e113 w113 ⟨rfl,ak,kd,ew⟩
       refine⟨_,rfl,?_⟩
       have jd:w110.heap.size≤w113.heap.size:=ak.size
       have cb:AF w w113:=ak.below cz (fun c hc=>A8 hwB (bc.low c hc)) cz.size
       have ex:=c9.chg ak (fun hm=>by have:=bc.low _ hm;have:=hFl _ hm;omega)
       have ey:=b0.chg ak (fun hm=>cm hm)
       have cc:=ca.chg ak (fun hm=>by have:=bc.low _ hm;have:=hFl _ hm;omega)
       have d0:=ev.chg g1 (ak.sub (fun b hb=>List.mem_append_right _ hb))
       have ez:=af.chg (o1) ak (fun c hc=>by have:=hFl c hc;omega)
       have dq:BV m (ER xs (T.code.getD kk.toNat AE.zero).a (Cc (xs.getD kk.toNat []) (R.getD (T.code.getD kk.toNat AE.zero).b.toNat []))):=CV hxs oM
       have iy:(ER xs (T.code.getD kk.toNat AE.zero).a (Cc (xs.getD kk.toNat []) (R.getD (T.code.getD kk.toNat AE.zero).b.toNat []))).length=T.code.length:=by rw[BJ];exact hxl
       have hrb:=dq (T.code.getD kk.toNat AE.zero).b.toNat oM
       have dr:=hrb.1
       refine Aj (AO _ [0,0,1,0,0,0,1,0,1,3,4] mixed (by kernel_rfl) (Ad 1 Z (Ak (p:=(.pointer (some ⟨w42.drew.heap.size,0,none⟩))) (b:=w42.drew.heap.size) (o:=0) 2 CB Z Z Aa (Ai (p:=(Ap (.pointer (some ⟨w42.drew.heap.size,0,none⟩)) 2)) (.inl Z) (.int .i64 ((T.code.getD ((kk).toNat) AE.zero).b)) AD Z (cc.ldp (i:=2) sM) Aa (Ad 2 Z (Ak (p:=(.pointer (some ⟨w42.drew.heap.size,0,none⟩))) (b:=w42.drew.heap.size) (o:=0) 1 CK Z Z Aa (Ai (p:=(Ap (.pointer (some ⟨w42.drew.heap.size,0,none⟩)) 1)) (.inl Z) (.int .i64 ((T.code.getD ((kk).toNat) AE.zero).a)) AD Z (cc.ldp (i:=1) sM) Aa ?_)))))))
       refine AB (v:=vr) (((T.code.getD ((kk).toNat) AE.zero).a).toNat) BH B8 Z Z hR.slL oM sD Aa ?_
       obtain⟨d1,g0,d2⟩:=RN.getL (w:=w) g1 [] (k:=((T.code.getD ((kk).toNat) AE.zero).a).toNat) hR sD
       have dt:=d2.lenL
       unfold maxLen at dt
       refine Ai (p:=Ay vr (((T.code.getD ((kk).toNat) AE.zero).a).toNat) 1) (.inl Z) d1 Bj Z (g0 _ (Au.of_ext [] cb.drew)) Aa (As 179 [] [] [a9,d1] Z Z Ob Aa (Dl _ _ _ _ _ d0.rd ((d2.ext g1 cb.drew)).rd Fx Fx Fw Fw) ?_)
       rintro e126 w126 ⟨cd,rfl,a0,ag⟩
       refine⟨_,rfl,a0,?_⟩
       replace a0:=a0.of_drew
       have je:=a0.size
       have d3:=cb.trans a0
       have bq:=ex.ext a0
       have aq:=ey.ext a0
       have br:=cc.ext a0
       have bs:=ez.ext (o1) a0
       have bd:=ew.ext a0
       have g2:=d0.ext g1 a0
       replace ag:=ag.low (B':=w113.heap.size) (A7 _)
       refine AA 231 [] [(.pointer (some ⟨w2.heap.size,0,none⟩))] [(.int .i64 ((T.code.getD ((kk).toNat) AE.zero).b)),cd,(.pointer (some ⟨w2.heap.size,0,none⟩))] Z Z Jl Aa (Bg _ ((T.code.getD ((kk).toNat) AE.zero).b) cd (Cc (xs.getD ((kk).toNat) []) (R.getD (((T.code.getD ((kk).toNat) AE.zero).a).toNat) [])) S w2.heap.size vo (ER xs ((T.code.getD ((kk).toNat) AE.zero).a) (Cc (xs.getD ((kk).toNat) []) (R.getD (((T.code.getD ((kk).toNat) AE.zero).b).toNat) []))) _ _ BO av.2.2.1 ag.rd1 (aq.ld (k:=0) sM) bd hSB (fun b hb=>by have:=c1 b hb;omega) oM GU (by exact hrb.2) GV) ?_
       rintro e129 w129 ⟨rfl,aa,g3,g4⟩
       refine⟨_,rfl,?_⟩
       have jf:w126.heap.size≤w129.heap.size:=aa.size
       have g5:AF w w129:=aa.below d3 (fun c hc=>A8 hwB (bd.low c hc)) d3.size
       have g6:=bq.chg aa (fun hm=>by have:=bd.low _ hm;have:=hFl _ hm;omega)
       have g7:=aq.chg aa (fun hm=>cm hm)
       have ke:=br.chg aa (fun hm=>by have:=bd.low _ hm;have:=hFl _ hm;omega)
       have kf:=g2.chg g1 (aa.sub (fun b hb=>List.mem_append_right _ hb))
       have kg:=bs.chg (o1) aa (fun c hc=>by have:=hFl c hc;omega)
       have kh:=ag.chg (o1) aa (fun c hc=>by have:=hFl c hc;omega)
       refine Aj (Ab _ [0,0,0] Z (Ad 1 Z (Bs (kk-((1:Nat):Int)) Z Z (Da sD sD) Aa (Ac 1 Z ?_))))
       have hbe:=g4
       exact⟨((kk-1),(ER (ER xs ((T.code.getD ((kk).toNat) AE.zero).a) (Cc (xs.getD ((kk).toNat) []) (R.getD (((T.code.getD ((kk).toNat) AE.zero).b).toNat) []))) ((T.code.getD ((kk).toNat) AE.zero).b) (Cc (xs.getD ((kk).toNat) []) (R.getD (((T.code.getD ((kk).toNat) AE.zero).a).toNat) []))),g3),_,rfl,⟨rfl,rfl,rfl,rfl,trivial⟩,⟨g5,g6,g7,oM,(by exact hbe),JX,JY,JW⟩,by first|omega|(dsimp only;omega)⟩
      ·refine Am false Z Z (A6 cw) Aa (Ac 1 Z (Ah Z (A0 (Ab _ [0,0] Z ?_))))
       by_cases d4:(T.code.getD ((kk).toNat) AE.zero).op=((6:Nat):Int)
       ·refine Am true Z Z (A5 d4) Aa (Ac 1 Z (Ag Z (A0 (Ab _ [0,0,0,2,0,2,3,0] Z ?_))))
        have hio:=(hform kk.toNat hkn).i2 oM
        have hra:=hxs (T.code.getD kk.toNat AE.zero).a.toNat oM
        have co:=hra.1
        have hRa:=hsR (T.code.getD kk.toNat AE.zero).a.toNat oM
        have hRb:=hsR (T.code.getD kk.toNat AE.zero).b.toNat oM
        have dn:=hRa.1
        have dp:=hRb.1
        refine Ad 2 Z (Ak (p:=(.pointer (some ⟨w42.drew.heap.size,0,none⟩))) (b:=w42.drew.heap.size) (o:=0) 2 CB Z Z Aa (Ai (p:=(Ap (.pointer (some ⟨w42.drew.heap.size,0,none⟩)) 2)) (.inr Z) (.int .i64 ((T.code.getD ((kk).toNat) AE.zero).b)) AD Z (a6.ldp (i:=2) sM) Aa (AB (v:=vr) (((T.code.getD ((kk).toNat) AE.zero).b).toNat) BH B8 Z Z hR.slL oM sD Aa ?_)))
        obtain⟨d5,g8,d6⟩:=RN.getL (w:=w) g1 [] (k:=((T.code.getD ((kk).toNat) AE.zero).b).toNat) hR sD
        have du:=d6.lenL
        unfold maxLen at du
        refine Ai (p:=Ay vr (((T.code.getD ((kk).toNat) AE.zero).b).toNat) 1) (.inr Z) d5 Bj Z (g8 _ (Au.of_ext [] ad)) Aa (As 177 [] [] [a9,d5] Z Z SZ Aa (EH _ _ _ _ _ an.rd ((d6.ext g1 ad)).rd Fx Fx oM Fw Fw) ?_)
        rintro e145 w145 ⟨b9,rfl,ab,be⟩
        refine⟨_,rfl,ab,?_⟩
        have jg:=ab.size
        have d7:=ad.trans ab
        have ce:=bm.ext ab
        have b1:=az.ext ab
        have b2:=a6.ext ab
        have bf:=ae.ext ab
        have g9:=an.ext g1 ab
        refine Ac 1 Z (A0 (Ab _ [0,0,2,0,4] Z (Ad 1 Z (Ak (p:=(.pointer (some ⟨w42.drew.heap.size,0,none⟩))) (b:=w42.drew.heap.size) (o:=0) 1 CK Z Z Aa (Ai (p:=(Ap (.pointer (some ⟨w42.drew.heap.size,0,none⟩)) 1)) (.inr Z) (.int .i64 ((T.code.getD ((kk).toNat) AE.zero).a)) AD Z (b2.ldp (i:=1) sM) Aa (Ad 1 Z ?_))))))
        refine AA 231 [] [(.pointer (some ⟨w2.heap.size,0,none⟩))] [(.int .i64 ((T.code.getD ((kk).toNat) AE.zero).a)),b9,(.pointer (some ⟨w2.heap.size,0,none⟩))] Z Z Jl Aa (Bg _ ((T.code.getD ((kk).toNat) AE.zero).a) b9 (BM (xs.getD ((kk).toNat) []) (R.getD (((T.code.getD ((kk).toNat) AE.zero).b).toNat) [])) S w2.heap.size vo (xs) _ _ BO av.2.1 be.rd1 (b1.ld (k:=0) sM) bf hSB (fun b hb=>by have:=c1 b hb;omega) oM GU (by exact hra.2) GV) ?_
        rintro e148 w148 ⟨rfl,al,ki,ga⟩
        refine⟨_,rfl,?_⟩
        have jh:w145.heap.size≤w148.heap.size:=al.size
        have cf:AF w w148:=al.below d7 (fun c hc=>A8 hwB (bf.low c hc)) d7.size
        have gb:=ce.chg al (fun hm=>by have:=bf.low _ hm;have:=hFl _ hm;omega)
        have gc:=b1.chg al (fun hm=>cm hm)
        have d8:=b2.chg al (fun hm=>by have:=bf.low _ hm;have:=hFl _ hm;omega)
        have gd:=g9.chg g1 (al.sub (fun b hb=>List.mem_append_right _ hb))
        have d9:=be.chg (o1) al (fun c hc=>by have:=hFl c hc;omega)
        have dq:BV m (ER xs (T.code.getD kk.toNat AE.zero).a (BM (xs.getD kk.toNat []) (R.getD (T.code.getD kk.toNat AE.zero).b.toNat []))):=CV hxs oM
        have iy:(ER xs (T.code.getD kk.toNat AE.zero).a (BM (xs.getD kk.toNat []) (R.getD (T.code.getD kk.toNat AE.zero).b.toNat []))).length=T.code.length:=by rw[BJ];exact hxl
        have hrb:=dq (T.code.getD kk.toNat AE.zero).b.toNat oM
        have dr:=hrb.1
        refine Aj (AO _ [0,0,1,0,0,0,0,1,3,3,4] mixed (by kernel_rfl) (Ad 1 Z (Ak (p:=(.pointer (some ⟨w42.drew.heap.size,0,none⟩))) (b:=w42.drew.heap.size) (o:=0) 2 CB Z Z Aa (Ai (p:=(Ap (.pointer (some ⟨w42.drew.heap.size,0,none⟩)) 2)) (.inl Z) (.int .i64 ((T.code.getD ((kk).toNat) AE.zero).b)) AD Z (d8.ldp (i:=2) sM) Aa (Ad 3 Z ?_)))))
        refine AB (v:=vr) ((kk).toNat) BH B8 Z Z hR.slL oM sD Aa ?_
        obtain⟨da,ge,db⟩:=RN.getL (w:=w) g1 [] (k:=(kk).toNat) hR sD
        have dv:=db.lenL
        unfold maxLen at dv
        refine Ai (p:=Ay vr ((kk).toNat) 1) (.inl Z) da Bj Z (ge _ (Au.of_ext [] cf.drew)) Aa (As 179 [] [] [b9,da] Z Z Ob Aa (Dl _ _ _ _ _ d9.rd1 ((db.ext g1 cf.drew)).rd Fx Fx Fw Fw) ?_)
        rintro e161 w161 ⟨dw,rfl,a1,ah⟩
        refine⟨_,rfl,a1,?_⟩
        replace a1:=a1.of_drew
        have ji:=a1.size
        have gf:=cf.trans a1
        have bt:=gb.ext a1
        have bu:=gc.ext a1
        have bv:=d8.ext a1
        have bw:=d9.ext (o1) a1
        have gg:=ga.ext a1
        have gh:=gd.ext g1 a1
        replace ah:=ah.low (B':=w148.heap.size) (A7 _)
        refine As 187 [] [] [dw,(.int .i64 ((1000002:Nat):Int))] Z Z Mw Aa (D4 _ _ _ _ ah.rd1 oM Fx Fw oM) ?_
        rintro e164 w164 ⟨cg,rfl,a3,bg⟩
        refine⟨_,rfl,a3,?_⟩
        have jj:=a3.size
        have dc:=gf.trans a3
        have bx:=bt.ext a3
        have ar:=bu.ext a3
        have bz:=bv.ext a3
        have c0:=bw.ext (o1) a3
        have b3:=ah.ext (o1) a3
        have bh:=gg.ext a3
        have gi:=gh.ext g1 a3
        refine AA 231 [] [(.pointer (some ⟨w2.heap.size,0,none⟩))] [(.int .i64 ((T.code.getD ((kk).toNat) AE.zero).b)),cg,(.pointer (some ⟨w2.heap.size,0,none⟩))] Z Z Jl Aa (Bg _ ((T.code.getD ((kk).toNat) AE.zero).b) cg (Cs (Cc (BM (xs.getD ((kk).toNat) []) (R.getD (((T.code.getD ((kk).toNat) AE.zero).b).toNat) [])) (R.getD ((kk).toNat) [])) ((1000002:Nat):Int)) S w2.heap.size vo (ER xs ((T.code.getD ((kk).toNat) AE.zero).a) (BM (xs.getD ((kk).toNat) []) (R.getD (((T.code.getD ((kk).toNat) AE.zero).b).toNat) []))) _ _ BO av.2.2.1 bg.rd1 (ar.ld (k:=0) sM) bh hSB (fun b hb=>by have:=c1 b hb;omega) oM GU (by exact hrb.2) GV) ?_
        rintro e167 w167 ⟨rfl,a7,gj,gk⟩
        refine⟨_,rfl,?_⟩
        have jk:w164.heap.size≤w167.heap.size:=a7.size
        have gl:AF w w167:=a7.below dc (fun c hc=>A8 hwB (bh.low c hc)) dc.size
        have gm:=bx.chg a7 (fun hm=>by have:=bh.low _ hm;have:=hFl _ hm;omega)
        have gn:=ar.chg a7 (fun hm=>cm hm)
        have kj:=bz.chg a7 (fun hm=>by have:=bh.low _ hm;have:=hFl _ hm;omega)
        have kl:=gi.chg g1 (a7.sub (fun b hb=>List.mem_append_right _ hb))
        have km:=c0.chg (o1) a7 (fun c hc=>by have:=hFl c hc;omega)
        have kn:=b3.chg (o1) a7 (fun c hc=>by have:=hFl c hc;omega)
        have ko:=bg.chg (o1) a7 (fun c hc=>by have:=hFl c hc;omega)
        refine Aj (Ab _ [0,0,0] Z (Ad 1 Z (Bs (kk-((1:Nat):Int)) Z Z (Da sD sD) Aa (Ac 1 Z ?_))))
        have hbe:=gk
        exact⟨((kk-1),(ER (ER xs ((T.code.getD ((kk).toNat) AE.zero).a) (BM (xs.getD ((kk).toNat) []) (R.getD (((T.code.getD ((kk).toNat) AE.zero).b).toNat) []))) ((T.code.getD ((kk).toNat) AE.zero).b) (Cs (Cc (BM (xs.getD ((kk).toNat) []) (R.getD (((T.code.getD ((kk).toNat) AE.zero).b).toNat) [])) (R.getD ((kk).toNat) [])) ((1000002:Nat):Int))),gj),_,rfl,⟨rfl,rfl,rfl,rfl,trivial⟩,⟨gl,gm,gn,oM,(by exact hbe),JX,JY,JW⟩,by first|omega|(dsimp only;omega)⟩
       ·refine Am false Z Z (A6 d4) Aa (Ac 1 Z (Ah Z (A0 (Ab _ [0,0] Z ?_))))
        by_cases dd:(T.code.getD ((kk).toNat) AE.zero).op=((7:Nat):Int)
        ·refine Am true Z Z (A5 dd) Aa (Ac 1 Z (Ag Z (AO _ [0,0,1,0,3,4] mixed (by kernel_rfl) ?_)))
         have hio:=(hform kk.toNat hkn).i7 oM
         have hra:=hxs (T.code.getD kk.toNat AE.zero).a.toNat oM
         have co:=hra.1
         refine Ad 1 Z (Ak (p:=(.pointer (some ⟨w42.drew.heap.size,0,none⟩))) (b:=w42.drew.heap.size) (o:=0) 1 CK Z Z Aa (Ai (p:=(Ap (.pointer (some ⟨w42.drew.heap.size,0,none⟩)) 1)) (.inl Z) (.int .i64 ((T.code.getD ((kk).toNat) AE.zero).a)) AD Z (a6.ldp (i:=1) sM) Aa (Ad 1 Z (As 187 [] [] [a9,(.int .i64 ((1000002:Nat):Int))] Z Z Mw Aa (D4 _ _ _ _ an.rd oM Fx Fw oM) ?_))))
         rintro e183 w183 ⟨ch,rfl,a4,ai⟩
         refine⟨_,rfl,a4,?_⟩
         replace a4:=a4.of_drew
         have jl:=a4.size
         have de:=ad.trans a4
         have ci:=bm.ext a4
         have b4:=az.ext a4
         have cj:=a6.ext a4
         have bi:=ae.ext a4
         have go:=an.ext g1 a4
         replace ai:=ai.low (B':=w57.heap.size) (A7 _)
         refine AA 231 [] [(.pointer (some ⟨w2.heap.size,0,none⟩))] [(.int .i64 ((T.code.getD ((kk).toNat) AE.zero).a)),ch,(.pointer (some ⟨w2.heap.size,0,none⟩))] Z Z Jl Aa (Bg _ ((T.code.getD ((kk).toNat) AE.zero).a) ch (Cs (xs.getD ((kk).toNat) []) ((1000002:Nat):Int)) S w2.heap.size vo (xs) _ _ BO av.2.1 ai.rd1 (b4.ld (k:=0) sM) bi hSB (fun b hb=>by have:=c1 b hb;omega) oM GU (by exact hra.2) GV) ?_
         rintro e186 w186 ⟨rfl,am,gp,gq⟩
         refine⟨_,rfl,?_⟩
         have jm:w183.heap.size≤w186.heap.size:=am.size
         have gr:AF w w186:=am.below de (fun c hc=>A8 hwB (bi.low c hc)) de.size
         have gs:=ci.chg am (fun hm=>by have:=bi.low _ hm;have:=hFl _ hm;omega)
         have gt:=b4.chg am (fun hm=>cm hm)
         have kp:=cj.chg am (fun hm=>by have:=bi.low _ hm;have:=hFl _ hm;omega)
         have kq:=go.chg g1 (am.sub (fun b hb=>List.mem_append_right _ hb))
         have kr:=ai.chg (o1) am (fun c hc=>by have:=hFl c hc;omega)
         refine Aj (Ab _ [0,0,0] Z (Ad 1 Z (Bs (kk-((1:Nat):Int)) Z Z (Da sD sD) Aa (Ac 1 Z ?_))))
         have hbe:=gq
         exact⟨((kk-1),(ER xs ((T.code.getD ((kk).toNat) AE.zero).a) (Cs (xs.getD ((kk).toNat) []) ((1000002:Nat):Int))),gp),_,rfl,⟨rfl,rfl,rfl,rfl,trivial⟩,⟨gr,gs,gt,oM,(by exact hbe),JX,JY,JW⟩,by first|omega|(dsimp only;omega)⟩
        ·refine Am false Z Z (A6 dd) Aa (Ac 1 Z (Ah Z (A2 (Ab _ [0,0,0] Z (Ad 1 Z ?_)))))
         refine Bs (kk-((1:Nat):Int)) Z Z (Da sD sD) Aa (Ac 1 Z ?_)
         have hbe:=ae
         exact⟨((kk-1),xs,us),_,rfl,⟨rfl,rfl,rfl,rfl,trivial⟩,⟨ad,bm,az,oM,(by exact hbe),JX,JY,JW⟩,by first|omega|(dsimp only;omega)⟩
   ·refine Dv false Z Z (A6 eg) Aa (Aj (Ah Z (A4 (Ax (Ax (At (A0 (Ab _ [2,0] Z (Ai (p:=(.pointer (some ⟨w2.heap.size,0,none⟩))) (.inr Z) vo Ll Z (a8.ld (k:=0) sM) Aa (Ac 1 Z (A1 ?_)))))))))))
    have hfin:xs=Jh T.code R oT ws:=by have h9:=hadj;rw[show(kk+1).toNat=0 from by omega,gw]at h9;exact h9
    exact Af [6] Z vo Z ⟨_,rfl,cn,(by rw[← hfin];exact(hbl.done hSB)),hbl.cap⟩
end
section
set_option maxHeartbeats 4000000
set_option maxRecDepth 100000
attribute [local irreducible] LW
theorem HI (w:World)(m:Nat)(ni:Nat)(S:List Nat)(ipT:Int)(vtc vtg vtx:Value)(T:Tp)(oT:List Int)(vl:Value)(L:List (List Int))(b5:∀b∈S,b<w.heap.size)(_hipT:Bx ipT)(htcT:RN [] (DM 4 On) w.heap vtc T.code)(htgT:RN [] (DM 2 Oo) w.heap vtg T.grd)(htoT:RN [] (B3 rI) w.heap vtx oT)(hL:RN [] (B3 (B3 rI)) w.heap vl L)(hqL:C5 vl)(hm:1≤m∧m≤13)(hni:ipT=((ni:Nat):Int)∧ni≤1000)(hsL:BV m L)(hlL:L.length=T.code.length∧0<L.length)(hlt:T.code.length≤4000)(hform:∀k,k<T.code.length→Ey ni k (T.code.getD k AE.zero)) :
  Calls Tryz.prog 107 #[(.agg #[(.int .i64 ipT),vtc,vtg,vtx]),vl] w (fun e w'=>∃v0:Value,e=.returned v0∧AF w w'∧RN S (B3 (B3 rI)) w'.heap v0 (Ul ni m T.code L)∧C5 v0):=by
 refine Aq [(.agg #[(.int .i64 ipT),vtc,vtg,vtx]),vl] 54 Tryz.func107 Z Z sM ?_
 have bt:AF w w:=AF.refl w
 have hl_vtx:=htoT.lenL
 unfold maxLen at hl_vtx
 have hl_vl:=hL.lenL
 unfold maxLen at hl_vl
 have bu:=hsL 0 oM
 have c9:=bu.1
 refine A0 (Ab _ [3,0] Z (Bu (cs:=#[(.int .i64 ipT),vtc,vtg,vtx]) Z Aa fun w1 b6 ca b7=>?_))
 have b8:=b6.size
 have b9:=bt.trans b6
 replace b7:BX w1.heap w.heap.size [(.int .i64 ipT),vtc,vtg,vtx]:=b7
 refine Ac 1 Z (A0 (Ab _ [3,0,0] Z (CQ (Bh rI 2) o1 BH B8 Aa fun v2 w2 b2 cb bv=>?_)))
 have ba:=b2.size
 have bb:=b9.trans b2
 have ai:=b7.ext b2
 refine Ac 2 Z (A0 (A0 (Ab _ [0,0,0] Z (Ad 1 Z (AQ (v:=vl) BH Z hL.slL Aa ?_)))))
 have cc:((0:Nat):Int)<((L.length:Nat):Int):=oM
 refine BU true Z Z (A5 cc) Aa (Aj (Ag Z (Ab _ [0,0,2,0,0] Z (Ad 1 Z (AB (v:=vl) 0 BH B8 Z Z hL.slL Z sD Aa ?_)))))
 obtain⟨bw,cd,bx⟩:=RN.getL (w:=w) g1 [] (k:=0) hL sD
 have ao:=bx.lenL
 unfold maxLen at ao
 refine Ai (p:=Ay vl 0 1) (.inr Z) bw Bj Z (cd _ (Au.of_ext [] bb)) Aa (AQ (v:=bw) Bt Z bx.slL Aa (Ac 1 Z (A0 (A0 (Ab _ [0,2,0] Z (Ak (p:=(.pointer (some ⟨w.heap.size,0,none⟩))) (b:=w.heap.size) (o:=0) 0 N0 Z Z Aa (Ai (p:=(Ap (.pointer (some ⟨w.heap.size,0,none⟩)) 0)) (.inr Z) (.int .i64 ipT) AD Z (ai.ldp (i:=0) sM) Aa (Ac 1 Z (A3 ?_)))))))))
 refine B1 (S:=Nat×Value) (fun⟨k,vo⟩=>([(5,vo),(19,(.int .i64 ((k:Nat):Int))),(1,vl),(2,(.pointer (some ⟨w.heap.size,0,none⟩))),(6,(.int .i64 (((L.getD 0 []).length:Nat):Int))),(18,(.int .i64 ipT))])) (fun⟨k,vo⟩ W=>AF w W∧Fr (Bh (Bh rI 2) 27) w1.heap.size W.heap.size W.heap vo (List.replicate k (List.replicate m 0))∧BX W.heap w.heap.size [(.int .i64 ipT),vtc,vtg,vtx]∧k≤ni∧w.heap.size<w1.heap.size∧w1.heap.size≤W.heap.size) (fun⟨k,vo⟩=>ni-k) (0,v2) ⟨rfl,rfl,rfl,rfl,rfl,rfl,trivial⟩ ⟨bb,bv.up o2,ai,oM,oM,oM⟩ ?_
 clear bt bu ca b6 bv cb b2 ba bb ao
 rintro⟨k,vo⟩ ρ6 w6 ⟨b3,a4,a2,bz,ce,cf⟩
 have bc:w.heap.size≤w6.heap.size:=b3.size
 have cx:=a2.lt
 refine A0 (Ab _ [0] Z ?_)
 by_cases c0:((k:Nat):Int)<ipT
 ·refine AG true Z Z (A5 c0) Aa (Aj (A0 (Ag Z (A2 (A0 (A3 (Ab _ [0,0,3,3,4,0] Z (Ad 2 Z (GA (n:=(L.getD 0 []).length) Bt BT Z Z Z sD Aa fun v10 w10 ab cg bd=>?_)))))))))
  have c1:=ab.size
  have be:=b3.trans ab
  have a5:=a4.ext (o2) ab
  have a6:=a2.ext ab
  refine BI (u:=v10) (B:=w6.heap.size) o1 BH B8 Z Z bd (by first|exact A7 _|omega) Aa fun v11 w11 ac ch bf=>?_
  have c2:=ac.size
  have ap:=be.trans ac
  have a7:=a5.ext (o2) ac
  have a8:=a6.ext ac
  refine Il o1 (v:=vo) (a:=v11) BH B8 Z Z Z a7 oM bf oM oM sD (by unfold maxLen;first|omega|assumption|(simp;done)|(simp;omega)) Aa fun v12 w12 F12 ak aq bg=>?_
  have bh:AF w w12:=ak.below ap (fun c hc=>A8 b9.size (aq c hc).1) ap.size
  have c3:w11.heap.size≤w12.heap.size:=ak.size
  have bi:=a8.chg ak (fun hm=>by have:=aq _ hm;omega)
  exact Ac 1 Z (Ab _ [0,0] Z (AP ((k+1:Nat):Int) Z Z (Bl oM oM) Aa (Ac 1 Z ⟨((k+1),v12),_,rfl,⟨rfl,rfl,rfl,rfl,rfl,rfl,trivial⟩,⟨bh,(by have h:=bg.up o2;rw[c9,← List.replicate_succ']at h;exact h),bi,oM,oM,oM⟩,by first|omega|(dsimp only;omega)⟩)))
 ·refine AG false Z Z (A6 c0) Aa (Aj (A0 (Ah Z (A4 (Ax (Ax (At (A0 (A0 (Ab _ [0,2,0,0] Z ?_))))))))))
  have hOw:=a4
  rw[show k=ni from by omega]at hOw
  obtain⟨ci,F0,bj,cj⟩:=Hi.ofFr (S:=S) hOw (fun b hb=>by have:=b5 b hb;omega)
  obtain⟨BO,hBO⟩:∃b:Nat,b=w1.heap.size:=⟨_,rfl⟩
  rw[← hBO]at bj
  have hwB:w.heap.size≤BO:=by omega
  have hSB:∀b∈S,b<BO:=fun b hb=>by have:=b5 b hb;omega
  obtain⟨B0,b4⟩:∃l:List Sr,l=(List.replicate ni (List.replicate m 0)):=⟨_,rfl⟩
  rw[← b4]at bj
  have ck:BV m B0:=by rw[b4];exact Ji m ni
  have bk:B0.length=ni:=by rw[b4,List.length_replicate]
  refine Ak (p:=(.pointer (some ⟨w.heap.size,0,none⟩))) (b:=w.heap.size) (o:=0) 1 Fk Z Z Aa (Ai (p:=(Ap (.pointer (some ⟨w.heap.size,0,none⟩)) 1)) (.inr Z) vtc K9 Z (a2.ldp (i:=1) sM) Aa (AQ (v:=vtc) OU Z htcT.isSl Aa (Ac 1 Z (A3 (B1 (S:=Nat×List Value) (fun⟨j,us⟩=>([(30,(.int .i64 ((j:Nat):Int))),(1,vl),(5,vo),(28,vtc),(29,(.int .i64 ((T.code.length:Nat):Int)))])) (fun⟨j,us⟩ W=>AF w W∧j≤T.code.length∧Hi 27 S BO W.heap vo (QN T.code L j B0) us F0) (fun⟨j,us⟩=>T.code.length-j) (0,ci) ⟨rfl,rfl,rfl,rfl,rfl,trivial⟩ ⟨b3,oM,(by exact bj)⟩ ?_)))))
  clear b8 b9 a2 a4 b3 bc cj
  rintro⟨j,us⟩ ρ14 w14 ⟨ad,bl,hbl⟩
  have c4:w.heap.size≤w14.heap.size:=ad.size
  have hFl:∀b∈F0,b<w14.heap.size:=hbl.lt
  refine A0 (Ab _ [0] Z ?_)
  by_cases ar:((j:Nat):Int)<((T.code.length:Nat):Int)
  ·refine AG true Z Z (A5 ar) Aa (Aj (A0 (Ag Z (A2 (A0 (A3 (A0 (Ab _ [0,0,2,3,0,4] Z ?_))))))))
   have hjk:j<T.code.length:=by omega
   refine Ad 1 Z (AB (v:=vtc) j OU Jn Z Z htcT.isSl Z sD Aa ?_)
   obtain⟨cs16,bm,bn⟩:=htcT.get Bb AE.zero (k:=j) sD
   obtain⟨rfl,cl⟩:=MU bm
   refine AK (p:=Ay vtc j 4) (.inr Z) [(.int .i64 ((T.code.getD j AE.zero).op)),(.int .i64 ((T.code.getD j AE.zero).a)),(.int .i64 ((T.code.getD j AE.zero).b)),(.int .i64 ((T.code.getD j AE.zero).num))] Fl Z (fun wq9 cm=>bn wq9 (Au.of_ext [] (ad.trans cm))) Z Aa (Bo (z:=.agg #[.int .i64 0,.int .i64 0,.int .i64 0,.int .i64 0]) Ta Aa fun w17 a9 cn al=>?_)
   have c5:=a9.size
   have au:=ad.trans a9
   have co:=hbl.ext a9
   replace al:BX w17.heap w14.heap.size [(.int .i64 0),(.int .i64 0),(.int .i64 0),(.int .i64 0)]:=al
   refine Ad 1 Z (Bz (vs:=[(.int .i64 ((T.code.getD j AE.zero).op)),(.int .i64 ((T.code.getD j AE.zero).a)),(.int .i64 ((T.code.getD j AE.zero).b)),(.int .i64 ((T.code.getD j AE.zero).num))]) Fl Z Z (by intro u hu;simp only[List.mem_cons,List.not_mem_nil,or_false]at hu;rcases hu with rfl|rfl|rfl|rfl <;> first|exact⟨rfl,rfl⟩) al Z Z Aa fun w19 am cp a3=>?_)
   replace a3:BX w19.heap w14.heap.size [(.int .i64 ((T.code.getD j AE.zero).op)),(.int .i64 ((T.code.getD j AE.zero).a)),(.int .i64 ((T.code.getD j AE.zero).b)),(.int .i64 ((T.code.getD j AE.zero).num))]:=a3
   have ae:AF w w19:=am.below au (fun c hc=>by have:=A9 hc;omega) au.size
   have c6:w17.heap.size≤w19.heap.size:=am.size
   have af:=hbl.ext (am.below a9 (fun c hc=>by have:=A9 hc;omega) a9.size)
   refine Aj (A0 (Ab _ [0,2,0] Z (Ak (p:=(.pointer (some ⟨w14.heap.size,0,none⟩))) (b:=w14.heap.size) (o:=0) 0 Ln Z Z Aa (Ai (p:=(Ap (.pointer (some ⟨w14.heap.size,0,none⟩)) 0)) (.inr Z) (.int .i64 ((T.code.getD j AE.zero).op)) AD Z (a3.ldp (i:=0) sM) Aa ?_))))
   by_cases av:(T.code.getD j AE.zero).op=((1:Nat):Int)
   ·refine Am true Z Z (A5 av) Aa (Aj (Ag Z (AO _ [0,0,1,0,0,1,0,1,0,0,0,1,3,0,4] mixed (by kernel_rfl) ?_)))
    have hio:=(hform j hjk).i1 oM
    have hra:=KC (cs:=T.code) (L:=L) (B:=B0) (fun q hq=>by rw[bk];exact hform q hq) ck j oM (T.code.getD j AE.zero).num.toNat (by rw[HX,bk];omega)
    have cq:=hra.1
    have hLj:=hsL j oM
    have cr:=hLj.1
    have hbn:(QN T.code L j B0).length=ni:=by rw[HX,bk]
    refine Ad 1 Z (Ak (p:=(.pointer (some ⟨w14.heap.size,0,none⟩))) (b:=w14.heap.size) (o:=0) 3 Fm Z Z Aa (Ai (p:=(Ap (.pointer (some ⟨w14.heap.size,0,none⟩)) 3)) (.inl Z) (.int .i64 ((T.code.getD j AE.zero).num)) AD Z (a3.ldp (i:=3) sM) Aa (Ad 1 Z (Ak (p:=(.pointer (some ⟨w14.heap.size,0,none⟩))) (b:=w14.heap.size) (o:=0) 3 Fm Z Z Aa (Ai (p:=(Ap (.pointer (some ⟨w14.heap.size,0,none⟩)) 3)) (.inl Z) (.int .i64 ((T.code.getD j AE.zero).num)) AD Z (a3.ldp (i:=3) sM) Aa ?_)))))
    refine AB (v:=vo) (((T.code.getD j AE.zero).num).toNat) BH B8 Z Z (af.done hSB).none.slL oM sD Aa ?_
    obtain⟨aw,bo,an⟩:=af.getF (k:=((T.code.getD j AE.zero).num).toNat) sD
    have ax:=an.lenL
    unfold maxLen at ax
    refine Ai (p:=Ay vo (((T.code.getD j AE.zero).num).toNat) 1) (.inl Z) aw Bj Z bo Aa (Ad 2 Z (AB (v:=vl) j BH B8 Z Z hL.slL Z sD Aa ?_))
    obtain⟨ay,bp,az⟩:=RN.getL (w:=w) g1 [] (k:=j) hL sD
    have b0:=az.lenL
    unfold maxLen at b0
    refine Ai (p:=Ay vl j 1) (.inl Z) ay Bj Z (bp _ (Au.of_ext [] ae.drew)) Aa (As 185 [] [] [aw,ay] Z Z Oc Aa (E0 _ _ _ _ _ an.rd ((az.ext g1 ae.drew)).rd oM oM (by exact hra.2) (by exact hLj.2)) ?_)
    rintro e24 w24 ⟨aj,rfl,a1,a0⟩
    refine⟨_,rfl,a1,?_⟩
    replace a1:=a1.of_drew
    have c7:=a1.size
    have b1:=ae.trans a1
    have ag:=a3.ext a1
    have ah:=af.ext a1
    have bq:=an.ext g1 a1
    replace a0:=a0.low (B':=w19.heap.size) (A7 _)
    refine AB (v:=vo) (((T.code.getD j AE.zero).num).toNat) BH B8 Z Z (ah.done hSB).none.slL oM sD Aa ?_
    refine SG (v:=vo) (u:=aj) (w:=w24) QR Z Z ah (RN.of_fr1 a0 (fun b hb=>by rcases List.mem_append.1 hb with hb|hb;(have:=b5 b hb;omega);(have:=hFl b hb;omega))) sD Aa fun w27 aa ct br=>?_
    have c8:w24.heap.size≤w27.heap.size:=aa.size
    have bs:AF w w27:=aa.below b1 (fun c hc=>A8 hwB (ah.low c hc)) b1.size
    have cu:=ag.chg aa (fun hm=>by have:=ah.low _ hm;have:=hFl _ hm;omega)
    have cv:=bq.chg g1 (aa.sub (fun b hb=>List.mem_append_right _ hb))
    have cw:=a0.chg (o1) aa (fun c hc=>by have:=hFl c hc;omega)
    refine Aj (Ab _ [0,0] Z (AP ((j+1:Nat):Int) Z Z (Bl oM sD) Aa (Ac 1 Z ?_)))
    have hbe:=br
    exact⟨((j+1),(us.set (((T.code.getD j AE.zero).num).toNat) aj)),_,rfl,⟨rfl,rfl,rfl,rfl,rfl,trivial⟩,⟨bs,oM,(by first|(rw[Ld oM];exact hbe)|(rw[Le oM];exact hbe))⟩,by first|omega|(dsimp only;omega)⟩
   ·refine Am false Z Z (A6 av) Aa (Aj (Ah Z (A2 (Ab _ [0,0] Z (AP ((j+1:Nat):Int) Z Z (Bl oM sD) Aa (Ac 1 Z ?_))))))
    have hbe:=af
    exact⟨((j+1),us),_,rfl,⟨rfl,rfl,rfl,rfl,rfl,trivial⟩,⟨ae,oM,(by first|(rw[Ld oM];exact hbe)|(rw[Le oM];exact hbe))⟩,by first|omega|(dsimp only;omega)⟩
  ·exact AG false Z Z (A6 ar) Aa (Aj (A0 (Ah Z (A4 (Ax (Ax (At (A0 (Ab _ [0,0] Z (Ac 2 Z (A1 (Af [4] Z vo Z ⟨_,rfl,ad,(by have h9:=(hbl.done hSB);rw[show j=T.code.length from by omega,b4]at h9;exact h9),hbl.cap⟩))))))))))))
end
section
set_option maxHeartbeats 4000000
set_option maxRecDepth 100000
attribute [local irreducible] LW
theorem IQ (w:World)(r:Int)(vm:Nat)(m:Int)(_hr:Bx r)(hcm:Hf w.heap (.pointer (some ⟨vm,0,none⟩))=some (.int .i64 m))(_hm:Bx m)(hm:0≤m∧m≤1000000) :
  Calls Tryz.prog 193 #[.int .i64 r,.pointer (some ⟨vm,0,none⟩)] w (fun e w'=>e=.returned (.bool (!(decide (0≤r) && decide (r≤m-1))))∧AF w w'):=by
 refine Aq [.int .i64 r,.pointer (some ⟨vm,0,none⟩)] 9 Tryz.func193 Z Z sM ?_
 have a0:AF w w:=AF.refl w
 refine A0 (Ab _ [0] Z (Ac 1 Z (A0 (Ab _ [0,2,0,0,0,0] Z (Ad 1 Z (Ai (.inr Z) (.int .i64 m) AD Z (AZ a0 hcm) Aa ?_))))))
 refine Bs (m-((1:Nat):Int)) Z Z (Da sD sD) Aa ?_
 exact Az 117 [] [] [(.int .i64 r),(.int .i64 ((0:Nat):Int)),(.int .i64 (m-((1:Nat):Int)))] Z Z CR Aa (.bool (decide (((0:Nat):Int)≤r) && decide (r≤(m-((1:Nat):Int))))) (fun wq=>AW wq _ _ _ _hr oM oM) (Bn (!(decide (((0:Nat):Int)≤r) && decide (r≤(m-((1:Nat):Int))))) Z Z Aa (Ac 1 Z (A1 (Af [3] Z (.bool (!(decide (((0:Nat):Int)≤r) && decide (r≤(m-((1:Nat):Int)))))) Z ⟨(AI (by first|rfl|simp_all)),a0⟩))))
theorem HJ {p:Prop}(h:p:=by first|rfl|exact AI (A5 oM)|(exfalso;(try unfold Ey at hf);omega)):p:=h
theorem Ee {p:Prop}(h:p:=by rw[A5 oM,A5 oM];rfl):p:=h
theorem I6 (w:World)(ni:Nat)(ipT:Int)(vtc vtg vtx:Value)(T:Tp)(oT:List Int)(c:AE)(k:Int)(_hipT:Bx ipT)(htcT:RN [] (DM 4 On) w.heap vtc T.code)(htgT:RN [] (DM 2 Oo) w.heap vtg T.grd)(htoT:RN [] (B3 rI) w.heap vtx oT)(hc:RW c)(_hk:Bx k)(hip:ipT=((ni:Nat):Int)∧ni≤12)(hk:0≤k∧k≤4000)(hf:Ey ni k.toNat c) :
  Calls Tryz.prog 192 #[(.agg #[(.int .i64 ipT),vtc,vtg,vtx]),(.agg #[(.int .i64 c.op),(.int .i64 c.a),(.int .i64 c.b),(.int .i64 c.num)]),.int .i64 k] w (fun e w'=>e=.returned (.bool true)∧AF w w'):=by
 refine Aq [(.agg #[(.int .i64 ipT),vtc,vtg,vtx]),(.agg #[(.int .i64 c.op),(.int .i64 c.a),(.int .i64 c.b),(.int .i64 c.num)]),.int .i64 k] 81 Tryz.func192 Z Z sM ?_
 have af:AF w w:=AF.refl w
 have hl_vtx:=htoT.lenL
 unfold maxLen at hl_vtx
 refine A0 (Ab _ [3,3,0] Z (Bu (cs:=#[(.int .i64 ipT),vtc,vtg,vtx]) Z Aa fun w1 ac am a8=>?_))
 have ag:=ac.size
 have ah:=af.trans ac
 replace a8:BX w1.heap w.heap.size [(.int .i64 ipT),vtc,vtg,vtx]:=a8
 have an:=a8.lt
 refine Bu (cs:=#[(.int .i64 c.op),(.int .i64 c.a),(.int .i64 c.b),(.int .i64 c.num)]) Z Aa fun w2 a9 ao a0=>?_
 have ai:=a9.size
 have a1:=ah.trans a9
 have a2:=a8.ext a9
 replace a0:BX w2.heap w1.heap.size [(.int .i64 c.op),(.int .i64 c.a),(.int .i64 c.b),(.int .i64 c.num)]:=a0
 refine Ac 1 Z (A0 (A0 (Ab _ [0,2] Z (Ak (p:=(.pointer (some ⟨w1.heap.size,0,none⟩))) (b:=w1.heap.size) (o:=0) 0 Ln Z Z Aa (Ai (p:=(Ap (.pointer (some ⟨w1.heap.size,0,none⟩)) 0)) (.inr Z) (.int .i64 c.op) AD Z (a0.ldp (i:=0) sM) Aa (Aj (A3 (A0 (Ab _ [0,0] Z ?_)))))))))
 by_cases ad:c.op=((1:Nat):Int)
 ·refine Am true Z Z (A5 ad) Aa (Ac 1 Z (Ag Z (A0 (Ab _ [0,2,0,0,0,2,0,0,0,0,2,0,2,0,0,0,0] Z ?_))))
  unfold Ey at hf
  refine Ak (p:=(.pointer (some ⟨w1.heap.size,0,none⟩))) (b:=w1.heap.size) (o:=0) 1 CK Z Z Aa (Ai (p:=(Ap (.pointer (some ⟨w1.heap.size,0,none⟩)) 1)) (.inr Z) (.int .i64 c.a) AD Z (a0.ldp (i:=1) sM) Aa ?_)
  have aj:c.a=((0:Nat):Int):=oM
  refine Am true Z Z (A5 aj) Aa (Ad 1 Z (Ak (p:=(.pointer (some ⟨w1.heap.size,0,none⟩))) (b:=w1.heap.size) (o:=0) 2 CB Z Z (Ae (e:=14) Z Z Z) (Ai (p:=(Ap (.pointer (some ⟨w1.heap.size,0,none⟩)) 2)) (.inr Z) (.int .i64 c.b) AD Z (a0.ldp (i:=2) sM) (Ae (e:=14) Z Z Z) ?_)))
  have ak:c.b=((0:Nat):Int):=oM
  refine Am true Z Z (A5 ak) (Ae (e:=14) Z Z Z) (Ad 2 Z (Ak (p:=(.pointer (some ⟨w1.heap.size,0,none⟩))) (b:=w1.heap.size) (o:=0) 3 Fm Z Z (Ae (e:=19) Z Z Z) (Ai (p:=(Ap (.pointer (some ⟨w1.heap.size,0,none⟩)) 3)) (.inr Z) (.int .i64 c.num) AD Z (a0.ldp (i:=3) sM) (Ae (e:=19) Z Z Z) (Ak (p:=(.pointer (some ⟨w.heap.size,0,none⟩))) (b:=w.heap.size) (o:=0) 0 N0 Z Z (Ae (e:=19) Z Z Z) (Ai (p:=(Ap (.pointer (some ⟨w.heap.size,0,none⟩)) 0)) (.inr Z) (.int .i64 ipT) AD Z (a2.ldp (i:=0) sM) (Ae (e:=19) Z Z Z) ?_)))))
  refine Bs (ipT-((1:Nat):Int)) Z Z (Da sD sD) (Ae (e:=19) Z Z Z) ?_
  refine Az 117 [] [] [(.int .i64 c.num),(.int .i64 ((0:Nat):Int)),(.int .i64 (ipT-((1:Nat):Int)))] Z Z CR (Ae (e:=19) Z Z Z) (.bool (decide (((0:Nat):Int)≤c.num) && decide (c.num≤(ipT-((1:Nat):Int))))) (fun wq=>AW wq _ _ _ hc.2.2.2 oM oM) ?_
  rw[show(decide (((0:Nat):Int)≤c.num) && decide (c.num≤(ipT-((1:Nat):Int))))=true from Ee]
  exact Ac 2 Z (A1 (AC (Al (Af [6] Z (.bool true) Z ⟨HJ,a1⟩))))
 ·refine Am false Z Z (A6 ad) Aa (Ac 1 Z (Ah Z (A0 (Ab _ [0,0] Z ?_))))
  by_cases ae:c.op=((2:Nat):Int)
  ·refine Am true Z Z (A5 ae) Aa (Ac 1 Z (Ag Z (A0 (Ab _ [0,2,0,0,0,2,0,0,0,0,2,0,0,0] Z ?_))))
   unfold Ey at hf
   refine Ak (p:=(.pointer (some ⟨w1.heap.size,0,none⟩))) (b:=w1.heap.size) (o:=0) 1 CK Z Z Aa (Ai (p:=(Ap (.pointer (some ⟨w1.heap.size,0,none⟩)) 1)) (.inr Z) (.int .i64 c.a) AD Z (a0.ldp (i:=1) sM) Aa ?_)
   have al:c.a=((0:Nat):Int):=oM
   refine Am true Z Z (A5 al) Aa (Ad 1 Z (Ak (p:=(.pointer (some ⟨w1.heap.size,0,none⟩))) (b:=w1.heap.size) (o:=0) 2 CB Z Z (Ae (e:=32) Z Z Z) (Ai (p:=(Ap (.pointer (some ⟨w1.heap.size,0,none⟩)) 2)) (.inr Z) (.int .i64 c.b) AD Z (a0.ldp (i:=2) sM) (Ae (e:=32) Z Z Z) ?_)))
   have aa:c.b=((0:Nat):Int):=oM
   refine Am true Z Z (A5 aa) (Ae (e:=32) Z Z Z) (Ad 2 Z (Ak (p:=(.pointer (some ⟨w1.heap.size,0,none⟩))) (b:=w1.heap.size) (o:=0) 3 Fm Z Z (Ae (e:=37) Z Z Z) (Ai (p:=(Ap (.pointer (some ⟨w1.heap.size,0,none⟩)) 3)) (.inr Z) (.int .i64 c.num) AD Z (a0.ldp (i:=3) sM) (Ae (e:=37) Z Z Z) (Az 170 [] [] [(.int .i64 c.num)] Z Z SY (Ae (e:=37) Z Z Z) (.bool (Ia c.num)) (fun wq=>EG wq _ hc.2.2.2) ?_))))
   rw[show(Ia c.num)=true from Cm.2 ⟨by omega,by omega⟩]
   exact Ac 2 Z (A1 (AC (Al (Af [6] Z (.bool true) Z ⟨HJ,a1⟩))))
  ·refine Am false Z Z (A6 ae) Aa (Ac 1 Z (Ah Z (A0 (A0 (Ab _ [0,0] Z ?_)))))
   by_cases a3:c.op=((3:Nat):Int)
   ·refine Am true Z Z (A5 a3) Aa (Ac 1 Z (Ag Z (A2 (Ag Z (A0 (Ab _ [0,2,0,0,0,0,0,2,0,0,0,0,0,0,2,0,0,0] Z ?_))))))
    unfold Ey at hf
    refine Ak (p:=(.pointer (some ⟨w1.heap.size,0,none⟩))) (b:=w1.heap.size) (o:=0) 1 CK Z Z Aa (Ai (p:=(Ap (.pointer (some ⟨w1.heap.size,0,none⟩)) 1)) (.inr Z) (.int .i64 c.a) AD Z (a0.ldp (i:=1) sM) Aa (Ad 1 Z ?_))
    refine Bs (k-((1:Nat):Int)) Z Z (Da sD sD) Aa ?_
    refine Az 117 [] [] [(.int .i64 c.a),(.int .i64 ((0:Nat):Int)),(.int .i64 (k-((1:Nat):Int)))] Z Z CR Aa (.bool (decide (((0:Nat):Int)≤c.a) && decide (c.a≤(k-((1:Nat):Int))))) (fun wq=>AW wq _ _ _ hc.2.1 oM oM) ?_
    rw[show(decide (((0:Nat):Int)≤c.a) && decide (c.a≤(k-((1:Nat):Int))))=true from Ee]
    refine Ad 1 Z (Ak (p:=(.pointer (some ⟨w1.heap.size,0,none⟩))) (b:=w1.heap.size) (o:=0) 2 CB Z Z (Ae (e:=52) Z Z Z) (Ai (p:=(Ap (.pointer (some ⟨w1.heap.size,0,none⟩)) 2)) (.inr Z) (.int .i64 c.b) AD Z (a0.ldp (i:=2) sM) (Ae (e:=52) Z Z Z) (Ad 1 Z ?_)))
    refine Bs (k-((1:Nat):Int)) Z Z (Da sD sD) (Ae (e:=52) Z Z Z) ?_
    refine Az 117 [] [] [(.int .i64 c.b),(.int .i64 ((0:Nat):Int)),(.int .i64 (k-((1:Nat):Int)))] Z Z CR (Ae (e:=52) Z Z Z) (.bool (decide (((0:Nat):Int)≤c.b) && decide (c.b≤(k-((1:Nat):Int))))) (fun wq=>AW wq _ _ _ hc.2.2.1 oM oM) ?_
    rw[show(decide (((0:Nat):Int)≤c.b) && decide (c.b≤(k-((1:Nat):Int))))=true from Ee]
    exact Ad 2 Z (Ak (p:=(.pointer (some ⟨w1.heap.size,0,none⟩))) (b:=w1.heap.size) (o:=0) 3 Fm Z Z (Ae (e:=59) Z Z Z) (Ai (p:=(Ap (.pointer (some ⟨w1.heap.size,0,none⟩)) 3)) (.inr Z) (.int .i64 c.num) AD Z (a0.ldp (i:=3) sM) (Ae (e:=59) Z Z Z) (Am (decide (c.num=((0:Nat):Int))) Z Z Z (Ae (e:=59) Z Z Z) (Ac 2 Z (A1 (AC (Al (Af [6] Z (.bool (decide (c.num=((0:Nat):Int)))) Z ⟨HJ,a1⟩))))))))
   ·refine Am false Z Z (A6 a3) Aa (Ac 1 Z (Ah Z (A0 (Ab _ [0,0] Z ?_))))
    by_cases a4:c.op=((4:Nat):Int)
    ·refine Am true Z Z (A5 a4) Aa (Ac 1 Z (Ag Z (A2 (Ag Z (A0 (Ab _ [0,2,0,0,0,0,0,2,0,0,0,0,0,0,2,0,0,0] Z ?_))))))
     unfold Ey at hf
     refine Ak (p:=(.pointer (some ⟨w1.heap.size,0,none⟩))) (b:=w1.heap.size) (o:=0) 1 CK Z Z Aa (Ai (p:=(Ap (.pointer (some ⟨w1.heap.size,0,none⟩)) 1)) (.inr Z) (.int .i64 c.a) AD Z (a0.ldp (i:=1) sM) Aa (Ad 1 Z ?_))
     refine Bs (k-((1:Nat):Int)) Z Z (Da sD sD) Aa ?_
     refine Az 117 [] [] [(.int .i64 c.a),(.int .i64 ((0:Nat):Int)),(.int .i64 (k-((1:Nat):Int)))] Z Z CR Aa (.bool (decide (((0:Nat):Int)≤c.a) && decide (c.a≤(k-((1:Nat):Int))))) (fun wq=>AW wq _ _ _ hc.2.1 oM oM) ?_
     rw[show(decide (((0:Nat):Int)≤c.a) && decide (c.a≤(k-((1:Nat):Int))))=true from Ee]
     refine Ad 1 Z (Ak (p:=(.pointer (some ⟨w1.heap.size,0,none⟩))) (b:=w1.heap.size) (o:=0) 2 CB Z Z (Ae (e:=52) Z Z Z) (Ai (p:=(Ap (.pointer (some ⟨w1.heap.size,0,none⟩)) 2)) (.inr Z) (.int .i64 c.b) AD Z (a0.ldp (i:=2) sM) (Ae (e:=52) Z Z Z) (Ad 1 Z ?_)))
     refine Bs (k-((1:Nat):Int)) Z Z (Da sD sD) (Ae (e:=52) Z Z Z) ?_
     refine Az 117 [] [] [(.int .i64 c.b),(.int .i64 ((0:Nat):Int)),(.int .i64 (k-((1:Nat):Int)))] Z Z CR (Ae (e:=52) Z Z Z) (.bool (decide (((0:Nat):Int)≤c.b) && decide (c.b≤(k-((1:Nat):Int))))) (fun wq=>AW wq _ _ _ hc.2.2.1 oM oM) ?_
     rw[show(decide (((0:Nat):Int)≤c.b) && decide (c.b≤(k-((1:Nat):Int))))=true from Ee]
     exact Ad 2 Z (Ak (p:=(.pointer (some ⟨w1.heap.size,0,none⟩))) (b:=w1.heap.size) (o:=0) 3 Fm Z Z (Ae (e:=59) Z Z Z) (Ai (p:=(Ap (.pointer (some ⟨w1.heap.size,0,none⟩)) 3)) (.inr Z) (.int .i64 c.num) AD Z (a0.ldp (i:=3) sM) (Ae (e:=59) Z Z Z) (Am (decide (c.num=((0:Nat):Int))) Z Z Z (Ae (e:=59) Z Z Z) (Ac 2 Z (A1 (AC (Al (Af [6] Z (.bool (decide (c.num=((0:Nat):Int)))) Z ⟨HJ,a1⟩))))))))
    ·refine Am false Z Z (A6 a4) Aa (Ac 1 Z (Ah Z (A0 (Ab _ [0,0] Z ?_))))
     by_cases a5:c.op=((5:Nat):Int)
     ·refine Am true Z Z (A5 a5) Aa (Ac 1 Z (Ag Z (A2 (Ag Z (A0 (Ab _ [0,2,0,0,0,0,0,2,0,0,0,0,0,0,2,0,0,0] Z ?_))))))
      unfold Ey at hf
      refine Ak (p:=(.pointer (some ⟨w1.heap.size,0,none⟩))) (b:=w1.heap.size) (o:=0) 1 CK Z Z Aa (Ai (p:=(Ap (.pointer (some ⟨w1.heap.size,0,none⟩)) 1)) (.inr Z) (.int .i64 c.a) AD Z (a0.ldp (i:=1) sM) Aa (Ad 1 Z ?_))
      refine Bs (k-((1:Nat):Int)) Z Z (Da sD sD) Aa ?_
      refine Az 117 [] [] [(.int .i64 c.a),(.int .i64 ((0:Nat):Int)),(.int .i64 (k-((1:Nat):Int)))] Z Z CR Aa (.bool (decide (((0:Nat):Int)≤c.a) && decide (c.a≤(k-((1:Nat):Int))))) (fun wq=>AW wq _ _ _ hc.2.1 oM oM) ?_
      rw[show(decide (((0:Nat):Int)≤c.a) && decide (c.a≤(k-((1:Nat):Int))))=true from Ee]
      refine Ad 1 Z (Ak (p:=(.pointer (some ⟨w1.heap.size,0,none⟩))) (b:=w1.heap.size) (o:=0) 2 CB Z Z (Ae (e:=52) Z Z Z) (Ai (p:=(Ap (.pointer (some ⟨w1.heap.size,0,none⟩)) 2)) (.inr Z) (.int .i64 c.b) AD Z (a0.ldp (i:=2) sM) (Ae (e:=52) Z Z Z) (Ad 1 Z ?_)))
      refine Bs (k-((1:Nat):Int)) Z Z (Da sD sD) (Ae (e:=52) Z Z Z) ?_
      refine Az 117 [] [] [(.int .i64 c.b),(.int .i64 ((0:Nat):Int)),(.int .i64 (k-((1:Nat):Int)))] Z Z CR (Ae (e:=52) Z Z Z) (.bool (decide (((0:Nat):Int)≤c.b) && decide (c.b≤(k-((1:Nat):Int))))) (fun wq=>AW wq _ _ _ hc.2.2.1 oM oM) ?_
      rw[show(decide (((0:Nat):Int)≤c.b) && decide (c.b≤(k-((1:Nat):Int))))=true from Ee]
      exact Ad 2 Z (Ak (p:=(.pointer (some ⟨w1.heap.size,0,none⟩))) (b:=w1.heap.size) (o:=0) 3 Fm Z Z (Ae (e:=59) Z Z Z) (Ai (p:=(Ap (.pointer (some ⟨w1.heap.size,0,none⟩)) 3)) (.inr Z) (.int .i64 c.num) AD Z (a0.ldp (i:=3) sM) (Ae (e:=59) Z Z Z) (Am (decide (c.num=((0:Nat):Int))) Z Z Z (Ae (e:=59) Z Z Z) (Ac 2 Z (A1 (AC (Al (Af [6] Z (.bool (decide (c.num=((0:Nat):Int)))) Z ⟨HJ,a1⟩))))))))
     ·refine Am false Z Z (A6 a5) Aa (Ac 1 Z (Ah Z (Ab _ [0,0] Z ?_)))
      by_cases a6:c.op=((6:Nat):Int)
      ·refine Am true Z Z (A5 a6) Aa (Ac 1 Z (Ag Z (A0 (Ab _ [0,2,0,0,0,0,0,2,0,0,0,0,0,0,2,0,0,0] Z ?_))))
       unfold Ey at hf
       refine Ak (p:=(.pointer (some ⟨w1.heap.size,0,none⟩))) (b:=w1.heap.size) (o:=0) 1 CK Z Z Aa (Ai (p:=(Ap (.pointer (some ⟨w1.heap.size,0,none⟩)) 1)) (.inr Z) (.int .i64 c.a) AD Z (a0.ldp (i:=1) sM) Aa (Ad 1 Z ?_))
       refine Bs (k-((1:Nat):Int)) Z Z (Da sD sD) Aa ?_
       refine Az 117 [] [] [(.int .i64 c.a),(.int .i64 ((0:Nat):Int)),(.int .i64 (k-((1:Nat):Int)))] Z Z CR Aa (.bool (decide (((0:Nat):Int)≤c.a) && decide (c.a≤(k-((1:Nat):Int))))) (fun wq=>AW wq _ _ _ hc.2.1 oM oM) ?_
       rw[show(decide (((0:Nat):Int)≤c.a) && decide (c.a≤(k-((1:Nat):Int))))=true from Ee]
       refine Ad 1 Z (Ak (p:=(.pointer (some ⟨w1.heap.size,0,none⟩))) (b:=w1.heap.size) (o:=0) 2 CB Z Z (Ae (e:=52) Z Z Z) (Ai (p:=(Ap (.pointer (some ⟨w1.heap.size,0,none⟩)) 2)) (.inr Z) (.int .i64 c.b) AD Z (a0.ldp (i:=2) sM) (Ae (e:=52) Z Z Z) (Ad 1 Z ?_)))
       refine Bs (k-((1:Nat):Int)) Z Z (Da sD sD) (Ae (e:=52) Z Z Z) ?_
       refine Az 117 [] [] [(.int .i64 c.b),(.int .i64 ((0:Nat):Int)),(.int .i64 (k-((1:Nat):Int)))] Z Z CR (Ae (e:=52) Z Z Z) (.bool (decide (((0:Nat):Int)≤c.b) && decide (c.b≤(k-((1:Nat):Int))))) (fun wq=>AW wq _ _ _ hc.2.2.1 oM oM) ?_
       rw[show(decide (((0:Nat):Int)≤c.b) && decide (c.b≤(k-((1:Nat):Int))))=true from Ee]
       exact Ad 2 Z (Ak (p:=(.pointer (some ⟨w1.heap.size,0,none⟩))) (b:=w1.heap.size) (o:=0) 3 Fm Z Z (Ae (e:=59) Z Z Z) (Ai (p:=(Ap (.pointer (some ⟨w1.heap.size,0,none⟩)) 3)) (.inr Z) (.int .i64 c.num) AD Z (a0.ldp (i:=3) sM) (Ae (e:=59) Z Z Z) (Am (decide (c.num=((0:Nat):Int))) Z Z Z (Ae (e:=59) Z Z Z) (Ac 2 Z (A1 (AC (Al (Af [6] Z (.bool (decide (c.num=((0:Nat):Int)))) Z ⟨HJ,a1⟩))))))))
      ·refine Am false Z Z (A6 a6) Aa (Ac 1 Z (Ah Z (A0 (Ab _ [0,0] Z ?_))))
       by_cases a7:c.op=((7:Nat):Int)
       ·refine Am true Z Z (A5 a7) Aa (Ac 1 Z (Ag Z (A0 (Ab _ [0,2,0,0,0,0,0,2,0,0,0,0,2,0,0,0] Z ?_))))
        unfold Ey at hf
        refine Ak (p:=(.pointer (some ⟨w1.heap.size,0,none⟩))) (b:=w1.heap.size) (o:=0) 1 CK Z Z Aa (Ai (p:=(Ap (.pointer (some ⟨w1.heap.size,0,none⟩)) 1)) (.inr Z) (.int .i64 c.a) AD Z (a0.ldp (i:=1) sM) Aa (Ad 1 Z ?_))
        refine Bs (k-((1:Nat):Int)) Z Z (Da sD sD) Aa ?_
        refine Az 117 [] [] [(.int .i64 c.a),(.int .i64 ((0:Nat):Int)),(.int .i64 (k-((1:Nat):Int)))] Z Z CR Aa (.bool (decide (((0:Nat):Int)≤c.a) && decide (c.a≤(k-((1:Nat):Int))))) (fun wq=>AW wq _ _ _ hc.2.1 oM oM) ?_
        rw[show(decide (((0:Nat):Int)≤c.a) && decide (c.a≤(k-((1:Nat):Int))))=true from Ee]
        refine Ad 1 Z (Ak (p:=(.pointer (some ⟨w1.heap.size,0,none⟩))) (b:=w1.heap.size) (o:=0) 2 CB Z Z (Ae (e:=71) Z Z Z) (Ai (p:=(Ap (.pointer (some ⟨w1.heap.size,0,none⟩)) 2)) (.inr Z) (.int .i64 c.b) AD Z (a0.ldp (i:=2) sM) (Ae (e:=71) Z Z Z) ?_))
        have ab:c.b=((0:Nat):Int):=oM
        exact Am true Z Z (A5 ab) (Ae (e:=71) Z Z Z) (Ad 2 Z (Ak (p:=(.pointer (some ⟨w1.heap.size,0,none⟩))) (b:=w1.heap.size) (o:=0) 3 Fm Z Z (Ae (e:=76) Z Z Z) (Ai (p:=(Ap (.pointer (some ⟨w1.heap.size,0,none⟩)) 3)) (.inr Z) (.int .i64 c.num) AD Z (a0.ldp (i:=3) sM) (Ae (e:=76) Z Z Z) (Am (decide (c.num=((0:Nat):Int))) Z Z Z (Ae (e:=76) Z Z Z) (Ac 2 Z (A1 (AC (Al (Af [6] Z (.bool (decide (c.num=((0:Nat):Int)))) Z ⟨HJ,a1⟩)))))))))
       ·exact Am false Z Z (A6 a7) Aa (Ac 1 Z (Ah Z (A2 (A0 (Ab _ [0] Z (Ac 1 Z (A1 (Af [6] Z (.bool false) Z ⟨HJ,a1⟩))))))))
theorem JZ (w:World)(a:List Int)(ipT:Int)(vtc vtg vtx:Value)(T:Tp)(oT:List Int)(_hipT:Bx ipT)(htcT:RN [] (DM 4 On) w.heap vtc T.code)(htgT:RN [] (DM 2 Oo) w.heap vtg T.grd)(htoT:RN [] (B3 rI) w.heap vtx oT)(hip:ipT=((a.length:Nat):Int))(hR:R0 a T oT) :
  Calls Tryz.prog 116 #[(.agg #[(.int .i64 ipT),vtc,vtg,vtx])] w (fun e w'=>e=.returned (.bool true)∧AF w w'):=by
 refine Aq [(.agg #[(.int .i64 ipT),vtc,vtg,vtx])] 67 Tryz.func116 Z Z sM ?_
 have bm:AF w w:=AF.refl w
 have hl_vtx:=htoT.lenL
 unfold maxLen at hl_vtx
 have hK:=hR.k
 have hni:=hK.nb
 have hcl:=hK.cl
 have hgl:=hK.gl
 have hol:=hK.ol
 have hpos:=hK.pos
 refine A0 (Ab _ [3,0] Z (Bu (cs:=#[(.int .i64 ipT),vtc,vtg,vtx]) Z Aa fun w1 b2 bw ab=>?_))
 have b3:=b2.size
 have bn:=bm.trans b2
 replace ab:BX w1.heap w.heap.size [(.int .i64 ipT),vtc,vtg,vtx]:=ab
 refine Ac 1 Z (A0 (A0 (Ab _ [0,2,0,0,0,0,2,0,0,0,0,0,2,0,0,0,0,0,2,0,0,0,0] Z (Ak (p:=(.pointer (some ⟨w.heap.size,0,none⟩))) (b:=w.heap.size) (o:=0) 0 N0 Z Z Aa (Ai (p:=(Ap (.pointer (some ⟨w.heap.size,0,none⟩)) 0)) (.inr Z) (.int .i64 ipT) AD Z (ab.ldp (i:=0) sM) Aa (Az 117 [] [] [(.int .i64 ipT),(.int .i64 ((0:Nat):Int)),(.int .i64 ((12:Nat):Int))] Z Z CR Aa (.bool (decide (((0:Nat):Int)≤ipT) && decide (ipT≤((12:Nat):Int)))) (fun wq=>AW wq _ _ _ _hipT oM oM) ?_))))))
 rw[show(decide (((0:Nat):Int)≤ipT) && decide (ipT≤((12:Nat):Int)))=true from Ee]
 refine Bn false Z Z Aa (Ad 1 Z (Ak (p:=(.pointer (some ⟨w.heap.size,0,none⟩))) (b:=w.heap.size) (o:=0) 1 Fk Z Z (Ae (e:=12) Z Z Z) (Ai (p:=(Ap (.pointer (some ⟨w.heap.size,0,none⟩)) 1)) (.inr Z) vtc K9 Z (ab.ldp (i:=1) sM) (Ae (e:=12) Z Z Z) (AQ (v:=vtc) OU Z htcT.isSl (Ae (e:=12) Z Z Z) ?_))))
 have bx:¬(((3200:Nat):Int)<((T.code.length:Nat):Int)):=oM
 refine BU false Z Z (A6 bx) (Ae (e:=12) Z Z Z) (Ad 2 Z (Ak (p:=(.pointer (some ⟨w.heap.size,0,none⟩))) (b:=w.heap.size) (o:=0) 2 N1 Z Z (Ae (e:=18) Z Z Z) (Ai (p:=(Ap (.pointer (some ⟨w.heap.size,0,none⟩)) 2)) (.inr Z) vtg T7 Z (ab.ldp (i:=2) sM) (Ae (e:=18) Z Z Z) (AQ (v:=vtg) Zq Z htgT.isSl (Ae (e:=18) Z Z Z) ?_))))
 have bz:¬(((3200:Nat):Int)<((T.grd.length:Nat):Int)):=oM
 refine BU false Z Z (A6 bz) (Ae (e:=18) Z Z Z) (Ad 2 Z (Ak (p:=(.pointer (some ⟨w.heap.size,0,none⟩))) (b:=w.heap.size) (o:=0) 3 Lm Z Z (Ae (e:=24) Z Z Z) (Ai (p:=(Ap (.pointer (some ⟨w.heap.size,0,none⟩)) 3)) (.inr Z) vtx Bj Z (ab.ldp (i:=3) sM) (Ae (e:=24) Z Z Z) (AQ (v:=vtx) Bt Z htoT.slL (Ae (e:=24) Z Z Z) (Az 117 [] [] [(.int .i64 ((oT.length:Nat):Int)),(.int .i64 ((1:Nat):Int)),(.int .i64 ((12:Nat):Int))] Z Z CR (Ae (e:=24) Z Z Z) (.bool (decide (((1:Nat):Int)≤((oT.length:Nat):Int)) && decide (((oT.length:Nat):Int)≤((12:Nat):Int)))) (fun wq=>AW wq _ _ _ oM oM oM) ?_)))))
 rw[show(decide (((1:Nat):Int)≤((oT.length:Nat):Int)) && decide (((oT.length:Nat):Int)≤((12:Nat):Int)))=true from Ee]
 refine Bn false Z Z (Ae (e:=24) Z Z Z) (Ac 1 Z (Ah Z (A2 (A0 (Ab _ [0,2,0,3,4] Z (Ak (p:=(.pointer (some ⟨w.heap.size,0,none⟩))) (b:=w.heap.size) (o:=0) 1 Fk Z Z Aa (Ai (p:=(Ap (.pointer (some ⟨w.heap.size,0,none⟩)) 1)) (.inr Z) vtc K9 Z (ab.ldp (i:=1) sM) Aa (AQ (v:=vtc) OU Z htcT.isSl Aa ?_))))))))
 have ce:=ab.lt
 refine Bo (z:=(.int .i64 (0:Int))) (by kernel_rfl) Aa fun w6 b0 c0 b4=>?_
 have b5:=b0.size
 have b6:=bn.trans b0
 have aq:=ab.ext b0
 replace b4:BX w6.heap w1.heap.size [(.int .i64 (0:Int))]:=b4
 refine Be (k:=0) (w:=w6) Hv Z Z ⟨rfl,rfl⟩ b4 sM Aa fun w8 b1 c1 b7=>?_
 replace b7:BX w8.heap w1.heap.size [(.int .i64 ((T.code.length:Nat):Int))]:=b7
 have bo:AF w w8:=b1.below b6 (fun c hc=>by have:=A9 hc;omega) b6.size
 have b8:w6.heap.size≤w8.heap.size:=b1.size
 have b9:=aq.chg b1 (fun hm=>by have:=A9 hm;omega)
 refine Aj (A0 (A0 (Ab _ [0,2,0,0] Z (Ak (p:=(.pointer (some ⟨w.heap.size,0,none⟩))) (b:=w.heap.size) (o:=0) 1 Fk Z Z Aa (Ai (p:=(Ap (.pointer (some ⟨w.heap.size,0,none⟩)) 1)) (.inr Z) vtc K9 Z (b9.ldp (i:=1) sM) Aa (AQ (v:=vtc) OU Z htcT.isSl Aa (Ac 1 Z (A3 ?_))))))))
 refine B1 (S:=Nat) (fun k=>([(37,(.int .i64 ((k:Nat):Int))),(1,(.pointer (some ⟨w.heap.size,0,none⟩))),(3,(.pointer (some ⟨w1.heap.size,0,none⟩))),(35,vtc),(36,(.int .i64 ((T.code.length:Nat):Int)))])) (fun k W=>AF w W∧BX W.heap w.heap.size [(.int .i64 ipT),vtc,vtg,vtx]∧BX W.heap w1.heap.size [(.int .i64 ((T.code.length:Nat):Int))]∧k≤T.code.length) (fun k=>T.code.length-k) 0 ⟨rfl,rfl,rfl,rfl,rfl,trivial⟩ ⟨bo,b9,b7,oM⟩ ?_
 clear bm bw b2 b3 bn c0 b0 b5 b6 c1 b1 bo b8 b9
 rintro k ρ10 w10 ⟨a8,a0,a1,ba⟩
 have ar:w.heap.size≤w10.heap.size:=a8.size
 have c2:=a0.lt
 have c3:=a1.lt
 refine A0 (Ab _ [0] Z ?_)
 by_cases au:((k:Nat):Int)<((T.code.length:Nat):Int)
 ·refine AG true Z Z (A5 au) Aa (Aj (A0 (Ag Z (A2 (A0 (A3 (A0 (Ab _ [0,0,2,3,0,4] Z (Ad 1 Z (AB (v:=vtc) k OU Jn Z Z htcT.isSl Z sD Aa ?_))))))))))
  obtain⟨cs14,bb,bc⟩:=htcT.get Bb AE.zero (k:=k) sD
  obtain⟨rfl,ac⟩:=MU bb
  refine AK (p:=Ay vtc k 4) (.inr Z) [(.int .i64 ((T.code.getD k AE.zero).op)),(.int .i64 ((T.code.getD k AE.zero).a)),(.int .i64 ((T.code.getD k AE.zero).b)),(.int .i64 ((T.code.getD k AE.zero).num))] Fl Z (fun wq9 ak=>bc wq9 (Au.of_ext [] (a8.trans ak))) Z Aa ?_
  have c4:=a0.lt
  have c5:=a1.lt
  refine Bo (z:=.agg #[.int .i64 0,.int .i64 0,.int .i64 0,.int .i64 0]) Ta Aa fun w15 ad c6 al=>?_
  have bp:=ad.size
  have av:=a8.trans ad
  have a4:=a0.ext ad
  have a5:=a1.ext ad
  replace al:BX w15.heap w10.heap.size [(.int .i64 0),(.int .i64 0),(.int .i64 0),(.int .i64 0)]:=al
  refine Ad 1 Z (Bz (vs:=[(.int .i64 ((T.code.getD k AE.zero).op)),(.int .i64 ((T.code.getD k AE.zero).a)),(.int .i64 ((T.code.getD k AE.zero).b)),(.int .i64 ((T.code.getD k AE.zero).num))]) Fl Z Z (by intro u hu;simp only[List.mem_cons,List.not_mem_nil,or_false]at hu;rcases hu with rfl|rfl|rfl|rfl <;> first|exact⟨rfl,rfl⟩) al Z Z Aa fun w18 ae c7 am=>?_)
  replace am:BX w18.heap w10.heap.size [(.int .i64 ((T.code.getD k AE.zero).op)),(.int .i64 ((T.code.getD k AE.zero).a)),(.int .i64 ((T.code.getD k AE.zero).b)),(.int .i64 ((T.code.getD k AE.zero).num))]:=am
  have af:AF w w18:=ae.below av (fun c hc=>by have:=A9 hc;omega) av.size
  have bq:w15.heap.size≤w18.heap.size:=ae.size
  have aw:=a4.chg ae (fun hm=>by have:=A9 hm;omega)
  have bd:=a5.chg ae (fun hm=>by have:=A9 hm;omega)
  refine Aj (A0 (Ab _ [2,2,0,3,0] Z (AK (p:=(.pointer (some ⟨w.heap.size,0,none⟩))) (.inr Z) [(.int .i64 ipT),vtc,vtg,vtx] Fj Z (fun wq9 ak=>LD.of_box (BX.ext (w:=w18) aw ak)) Z Aa (AK (p:=(.pointer (some ⟨w10.heap.size,0,none⟩))) (.inr Z) [(.int .i64 ((T.code.getD k AE.zero).op)),(.int .i64 ((T.code.getD k AE.zero).a)),(.int .i64 ((T.code.getD k AE.zero).b)),(.int .i64 ((T.code.getD k AE.zero).num))] Fl Z (fun wq9 ak=>LD.of_box (BX.ext (w:=w18) am ak)) Z Aa (Ad 1 Z ?_)))))
  refine As 192 [] [] [(.agg #[(.int .i64 ipT),vtc,vtg,vtx]),(.agg #[(.int .i64 ((T.code.getD k AE.zero).op)),(.int .i64 ((T.code.getD k AE.zero).a)),(.int .i64 ((T.code.getD k AE.zero).b)),(.int .i64 ((T.code.getD k AE.zero).num))]),(.int .i64 ((k:Nat):Int))] Z Z YX Aa (I6 _ a.length (ipT) vtc vtg vtx (T) (oT) (⟨(T.code.getD k AE.zero).op,(T.code.getD k AE.zero).a,(T.code.getD k AE.zero).b,(T.code.getD k AE.zero).num⟩:AE) _ _hipT (htcT.ext (An Bb) af) (htgT.ext (An Bm) af) (htoT.ext g1 af) ⟨ac.1,ac.2.1,ac.2.2.1,ac.2.2.2⟩ oM oM oM (by have h9:=hK.form k oM;rw[Int.toNat_natCast];exact h9)) ?_
  rintro e21 w21 ⟨rfl,a9⟩
  refine⟨_,rfl,a9,?_⟩
  have br:=a9.size
  have be:=af.trans a9
  have ag:=aw.ext a9
  have ah:=bd.ext a9
  exact Bn false Z Z Aa (Aj (Ah Z (A2 (Ab _ [0,0] Z (AP ((k+1:Nat):Int) Z Z (Bl oM sD) Aa (Ac 1 Z ⟨(k+1),_,rfl,⟨rfl,rfl,rfl,rfl,rfl,trivial⟩,⟨be,ag,ah,oM⟩,by first|omega|(dsimp only;omega)⟩))))))
 ·refine AG false Z Z (A6 au) Aa (Aj (A0 (Ah Z (A4 (Ax (Ax (At (A0 (A0 (Ab _ [0,2,0,0] Z (Ak (p:=(.pointer (some ⟨w.heap.size,0,none⟩))) (b:=w.heap.size) (o:=0) 2 N1 Z Z Aa (Ai (p:=(Ap (.pointer (some ⟨w.heap.size,0,none⟩)) 2)) (.inr Z) vtg T7 Z (a0.ldp (i:=2) sM) Aa (AQ (v:=vtg) Zq Z htgT.isSl Aa (Ac 1 Z (A3 ?_)))))))))))))))
  refine B1 (S:=Nat) (fun j=>([(51,(.int .i64 ((j:Nat):Int))),(1,(.pointer (some ⟨w.heap.size,0,none⟩))),(3,(.pointer (some ⟨w1.heap.size,0,none⟩))),(49,vtg),(50,(.int .i64 ((T.grd.length:Nat):Int)))])) (fun j W=>AF w W∧BX W.heap w.heap.size [(.int .i64 ipT),vtc,vtg,vtx]∧BX W.heap w1.heap.size [(.int .i64 ((T.code.length:Nat):Int))]∧j≤T.grd.length) (fun j=>T.grd.length-j) 0 ⟨rfl,rfl,rfl,rfl,rfl,trivial⟩ ⟨a8,a0,a1,oM⟩ ?_
  clear a1 a0 a8 ar
  rintro j ρ22 w22 ⟨aa,a2,a3,bf⟩
  have bs:w.heap.size≤w22.heap.size:=aa.size
  have c8:=a2.lt
  have c9:=a3.lt
  refine A0 (Ab _ [0] Z ?_)
  by_cases ax:((j:Nat):Int)<((T.grd.length:Nat):Int)
  ·refine AG true Z Z (A5 ax) Aa (Aj (A0 (Ag Z (A2 (A0 (A3 (A0 (Ab _ [0,2,3,4] Z (AB (v:=vtg) j Zq OV Z Z htgT.isSl Z sD Aa ?_)))))))))
   obtain⟨cs26,bg,bh⟩:=htgT.get Bm Iv.zero (k:=j) sD
   obtain⟨rfl,bi⟩:=XH bg
   refine AK (p:=Ay vtg j 2) (.inr Z) [(.int .i64 ((T.grd.getD j Iv.zero).reg)),(.bool ((T.grd.getD j Iv.zero).z))] Tb Z (fun wq9 ak=>bh wq9 (Au.of_ext [] (aa.trans ak))) Z Aa ?_
   have ca:=a2.lt
   have cb:=a3.lt
   refine Bo (z:=.agg #[.int .i64 0,.bool false]) Zs Aa fun w27 ai cc an=>?_
   have bt:=ai.size
   have ay:=aa.trans ai
   have a6:=a2.ext ai
   have a7:=a3.ext ai
   replace an:BX w27.heap w22.heap.size [(.int .i64 0),(.bool false)]:=an
   refine Bz (vs:=[(.int .i64 ((T.grd.getD j Iv.zero).reg)),(.bool ((T.grd.getD j Iv.zero).z))]) Tb Z Z (by intro u hu;simp only[List.mem_cons,List.not_mem_nil,or_false]at hu;rcases hu with rfl|rfl <;> first|exact⟨rfl,rfl⟩) an Z Z Aa fun w30 aj cd ao=>?_
   replace ao:BX w30.heap w22.heap.size [(.int .i64 ((T.grd.getD j Iv.zero).reg)),(.bool ((T.grd.getD j Iv.zero).z))]:=ao
   have bj:AF w w30:=aj.below ay (fun c hc=>by have:=A9 hc;omega) ay.size
   have bu:w27.heap.size≤w30.heap.size:=aj.size
   have bk:=a6.chg aj (fun hm=>by have:=A9 hm;omega)
   have az:=a7.chg aj (fun hm=>by have:=A9 hm;omega)
   refine Aj (A0 (Ab _ [0,2,2,0,0,0] Z ?_))
   have hgj:=hK.gd j oM
   refine Ak (p:=(.pointer (some ⟨w22.heap.size,0,none⟩))) (b:=w22.heap.size) (o:=0) 0 UD Z Z Aa (Ai (p:=(Ap (.pointer (some ⟨w22.heap.size,0,none⟩)) 0)) (.inr Z) (.int .i64 ((T.grd.getD j Iv.zero).reg)) AD Z (ao.ldp (i:=0) sM) Aa (Ai (p:=(.pointer (some ⟨w1.heap.size,0,none⟩))) (.inr Z) (.int .i64 ((T.code.length:Nat):Int)) AD Z (az.ld (k:=0) sM) Aa ?_))
   refine Bs (((T.code.length:Nat):Int)-((1:Nat):Int)) Z Z (Da sD sD) Aa ?_
   refine Az 117 [] [] [(.int .i64 ((T.grd.getD j Iv.zero).reg)),(.int .i64 ((0:Nat):Int)),(.int .i64 (((T.code.length:Nat):Int)-((1:Nat):Int)))] Z Z CR Aa (.bool (decide (((0:Nat):Int)≤((T.grd.getD j Iv.zero).reg)) && decide (((T.grd.getD j Iv.zero).reg)≤(((T.code.length:Nat):Int)-((1:Nat):Int))))) (fun wq=>AW wq _ _ _ bi oM oM) ?_
   rw[show(decide (((0:Nat):Int)≤((T.grd.getD j Iv.zero).reg)) && decide (((T.grd.getD j Iv.zero).reg)≤(((T.code.length:Nat):Int)-((1:Nat):Int))))=true from Ee]
   exact Bn false Z Z Aa (Aj (Ah Z (A2 (Ab _ [0,0] Z (AP ((j+1:Nat):Int) Z Z (Bl oM sD) Aa (Ac 1 Z ⟨(j+1),_,rfl,⟨rfl,rfl,rfl,rfl,rfl,trivial⟩,⟨bj,bk,az,oM⟩,by first|omega|(dsimp only;omega)⟩))))))
  ·refine AG false Z Z (A6 ax) Aa (Aj (A0 (Ah Z (A4 (Ax (Ax (At (A0 (Ab _ [0,2,0,3,0,0] Z (Ak (p:=(.pointer (some ⟨w.heap.size,0,none⟩))) (b:=w.heap.size) (o:=0) 3 Lm Z Z Aa (Ai (p:=(Ap (.pointer (some ⟨w.heap.size,0,none⟩)) 3)) (.inr Z) vtx Bj Z (a2.ldp (i:=3) sM) Aa (MA [] [(.pointer (some ⟨w1.heap.size,0,none⟩))] Z Z Aa ?_))))))))))))
   refine As 168 [] [] [vtx,(.func (.func 193) #[] #[(.pointer (some ⟨w1.heap.size,0,none⟩))])] Z Z Vx Aa (Cd _ _ _ 193 [] [(.pointer (some ⟨w1.heap.size,0,none⟩))] (fun x=>!(decide (0≤x) && decide (x≤((T.code.length:Nat):Int)-1))) ((htoT.ext g1 aa)).rd YY (fun x hx wz hw=>IQ wz x w1.heap.size ((T.code.length:Nat):Int) hx ((BX.ext (w:=w22) a3 hw).ld (k:=0) sM) oM oM)) ?_
   rintro e34 w34 ⟨rfl,ap⟩
   refine⟨_,rfl,ap,?_⟩
   have bv:=ap.size
   have bl:=aa.trans ap
   rw[show(oT.any (fun x=>!(decide (0≤x) && decide (x≤((T.code.length:Nat):Int)-1))))=false from hK.any]
   exact Bn true Z Z Aa (Ac 1 Z (A1 (Af [2] Z (.bool true) Z ⟨rfl,bl⟩)))
theorem Ni (w:World)(a:List Int)(ipT:Int)(vtc vtg vtx:Value)(T:Tp)(oT:List Int)(vl:Value)(L:List (List Int))(_hipT:Bx ipT)(htcT:RN [] (DM 4 On) w.heap vtc T.code)(htgT:RN [] (DM 2 Oo) w.heap vtg T.grd)(htoT:RN [] (B3 rI) w.heap vtx oT)(hL:RN [] (B3 (B3 rI)) w.heap vl L)(hqL:C5 vl)(hip:ipT=((a.length:Nat):Int))(hR:R0 a T oT)(hLL:∀k,k<L.length→(L.getD k []).length=a.length∧B2 (L.getD k [])=true) :
  Calls Tryz.prog 108 #[(.agg #[(.int .i64 ipT),vtc,vtg,vtx]),vl] w (fun e w'=>e=.returned (.int .i64 0)∧AF w w'):=by
 refine Aq [(.agg #[(.int .i64 ipT),vtc,vtg,vtx]),vl] 22 Tryz.func108 Z Z sM ?_
 have ac:AF w w:=AF.refl w
 have hl_vtx:=htoT.lenL
 unfold maxLen at hl_vtx
 have hl_vl:=hL.lenL
 unfold maxLen at hl_vl
 refine A0 (Ab _ [3,0] Z (Bu (cs:=#[(.int .i64 ipT),vtc,vtg,vtx]) Z Aa fun w1 a8 ai a6=>?_))
 have a9:=a8.size
 have a2:=ac.trans a8
 replace a6:BX w1.heap w.heap.size [(.int .i64 ipT),vtc,vtg,vtx]:=a6
 refine Ac 1 Z (A0 (A0 (Ab _ [2,3,0] Z (AK (p:=(.pointer (some ⟨w.heap.size,0,none⟩))) (.inr Z) [(.int .i64 ipT),vtc,vtg,vtx] Fj Z (fun wq9 aj=>LD.of_box (BX.ext (w:=w1) a6 aj)) Z Aa (As 116 [] [] [(.agg #[(.int .i64 ipT),vtc,vtg,vtx])] Z Z YI Aa (JZ _ a (ipT) vtc vtg vtx (T) (oT) _hipT (htcT.ext (An Bb) a2) (htgT.ext (An Bm) a2) (htoT.ext g1 a2) oM (by exact hR)) ?_)))))
 rintro e2 w2 ⟨rfl,a3⟩
 refine⟨_,rfl,a3,?_⟩
 have aa:=a3.size
 have ad:=a2.trans a3
 have a4:=a6.ext a3
 refine Bn false Z Z Aa (Aj (Ah Z (A2 (A0 (A0 (Ab _ [0,0,0] Z (Ad 1 Z (AQ (v:=vl) BH Z hL.slL Aa (Ac 1 Z (A3 (B1 (S:=Nat) (fun k=>([(12,(.int .i64 ((k:Nat):Int))),(2,(.pointer (some ⟨w.heap.size,0,none⟩))),(10,vl),(11,(.int .i64 ((L.length:Nat):Int)))])) (fun k W=>AF w W∧BX W.heap w.heap.size [(.int .i64 ipT),vtc,vtg,vtx]∧k≤L.length) (fun k=>L.length-k) 0 ⟨rfl,rfl,rfl,rfl,trivial⟩ ⟨ad,a4,oM⟩ ?_)))))))))))
 clear ac ai a8 a9 a2 a3 aa ad
 rintro k ρ3 w3 ⟨a5,a0,ae⟩
 have ak:w.heap.size≤w3.heap.size:=a5.size
 have ao:=a0.lt
 refine A0 (Ab _ [0] Z ?_)
 by_cases af:((k:Nat):Int)<((L.length:Nat):Int)
 ·refine AG true Z Z (A5 af) Aa (Aj (A0 (Ag Z (A2 (A0 (A3 (A0 (Ab _ [0,2,0] Z (AB (v:=vl) k BH B8 Z Z hL.slL Z sD Aa ?_)))))))))
  obtain⟨ag,al,ah⟩:=RN.getL (w:=w) g1 [] (k:=k) hL sD
  have ab:=ah.lenL
  unfold maxLen at ab
  refine Ai (p:=Ay vl k 1) (.inr Z) ag Bj Z (al _ (Au.of_ext [] a5)) Aa (Ac 1 Z (A0 (Ab _ [0,0,2,3,0] Z ?_)))
  have hLk:=hLL k oM
  refine Ad 1 Z (Ak (p:=(.pointer (some ⟨w.heap.size,0,none⟩))) (b:=w.heap.size) (o:=0) 0 N0 Z Z Aa (Ai (p:=(Ap (.pointer (some ⟨w.heap.size,0,none⟩)) 0)) (.inr Z) (.int .i64 ipT) AD Z (a0.ldp (i:=0) sM) Aa (As 86 [] [] [ag,(.int .i64 ipT)] Z Z Uw Aa (Dd _ _ _ _ ((ah.ext g1 a5)).rd _hipT) ?_)))
  rintro e7 w7 ⟨rfl,a7⟩
  refine⟨_,rfl,a7,?_⟩
  have am:=a7.size
  have an:=a5.trans a7
  have a1:=a0.ext a7
  rw[show(decide ((((L.getD k []).length:Nat):Int)=ipT) && B2 (L.getD k []))=true from(by rw[A5 oM,hLk.2];rfl)]
  exact Bn false Z Z Aa (Aj (Ah Z (A2 (Ab _ [0,0] Z (AP ((k+1:Nat):Int) Z Z (Bl oM sD) Aa (Ac 1 Z ⟨(k+1),_,rfl,⟨rfl,rfl,rfl,rfl,trivial⟩,⟨an,a1,oM⟩,by first|omega|(dsimp only;omega)⟩))))))
 ·exact AG false Z Z (A6 af) Aa (Aj (A0 (Ah Z (A4 (Ax (Ax (At (A0 (Ab _ [0] Z (Ac 1 Z (A1 (Af [4] Z (.int .i64 ((0:Nat):Int)) Z ⟨rfl,a5⟩))))))))))))
theorem Nj (w:World)(va:Value)(a:List Int)(vd:Value)(d:List Int)(ha:Rd (B3 rI) w.heap va a)(hd:Rd (B3 rI) w.heap vd d)(hl:d.length=a.length)(hla:a.length≤1000) :
  Calls Tryz.prog 110 #[va,vd] w (fun e w'=>∃v0:Value,e=.returned (v0)∧AF w w'∧Fr (Bh (Bh rI 2) 27) w.heap.size w'.heap.size w'.heap v0 (Ga a d 2)):=by
 refine Aq [va,vd] 27 Tryz.func110 Z Z sM ?_
 have a9:AF w w:=AF.refl w
 have hl_va:=ha.lenle
 have hl_vd:=hd.lenle
 refine A0 (Ab _ [0] Z (Ac 1 Z (A0 (Ab _ [3,0] Z (CQ (Bh rI 2) o1 BH B8 Aa fun v1 w1 a4 af aa=>?_)))))
 have a5:=a4.size
 have ab:=a9.trans a4
 refine Ac 1 Z (A0 (A0 (Ab _ [0,0,0] Z (Ad 1 Z (AQ (v:=va) Bt Z ha.isSl Aa (Ac 1 Z (A3 ?_)))))))
 refine B1 (S:=Nat×Value) (fun⟨k,vo⟩=>([(5,vo),(11,(.int .i64 ((k:Nat):Int))),(1,vd),(9,va),(10,(.int .i64 ((a.length:Nat):Int)))])) (fun⟨k,vo⟩ W=>AF w W∧Fr (Bh (Bh rI 2) 27) w.heap.size W.heap.size W.heap vo ((Ga a d 2).take k)∧k≤a.length) (fun⟨k,vo⟩=>a.length-k) (0,v1) ⟨rfl,rfl,rfl,rfl,rfl,trivial⟩ ⟨ab,aa.up o2,sD⟩ ?_
 clear a9 aa af a4 a5 ab
 rintro⟨k,vo⟩ ρ2 w2 ⟨a3,a2,ac⟩
 have ag:w.heap.size≤w2.heap.size:=a3.size
 refine A0 (Ab _ [0] Z ?_)
 by_cases ad:((k:Nat):Int)<((a.length:Nat):Int)
 ·refine AG true Z Z (A5 ad) Aa (Aj (A0 (Ag Z (A2 (A0 (A3 (A0 (Ab _ [0,0,2,0,0] Z (Ad 1 Z (AB (v:=va) k Bt BT Z Z ha.isSl Z sD Aa ?_))))))))))
  refine Ai (p:=Ay va k 1) (.inr Z) (.int .i64 (a.getD k 0)) AD Z (AZ a3 (ha.getI sD).1) Aa (Ac 2 Z (Ab _ [0,0,0,0,0,2,3,3,4,0] Z (Ad 4 Z ?_)))
  refine AB (v:=vd) k Bt BT Z Z hd.isSl Z sD Aa ?_
  refine Ai (p:=Ay vd k 1) (.inr Z) (.int .i64 (d.getD k 0)) AD Z (AZ a3 (hd.getI sD).1) Aa ?_
  refine V6 (ys:=[a.getD k 0,d.getD k 0]) AR Bt BT Z Z Z Z (Yn (ha.getI sD).2 (hd.getI sD).2) Aa fun v4 w4 a6 aq ah=>?_
  have ai:=a6.size
  have aj:=a3.trans a6
  have a0:=a2.ext (o2) a6
  refine BI (u:=v4) (B:=w2.heap.size) o1 BH B8 Z Z ah (by first|exact A7 _|omega) Aa fun v5 w5 a7 ar ak=>?_
  have al:=a7.size
  have a8:=aj.trans a7
  have a1:=a0.ext (o2) a7
  refine Il o1 (v:=vo) (a:=v5) BH B8 Z Z Z a1 a8.size ak oM a3.size sD (by unfold maxLen;first|omega|assumption|(simp;done)|(simp;omega)) Aa fun v6 w6 F6 ae am an=>?_
  have ao:AF w w6:=ae.below a8 (fun c hc=>A8 (A7 _) (am c hc).1) a8.size
  have ap:w5.heap.size≤w6.heap.size:=ae.size
  refine Ac 1 Z (Ab _ [0,0] Z (AP ((k+1:Nat):Int) Z Z (Bl oM sD) Aa (Ac 1 Z ?_)))
  exact⟨((k+1),v6),_,rfl,⟨rfl,rfl,rfl,rfl,rfl,trivial⟩,⟨ao,(by rw[Dq [] (by simp;omega),Ut oM];exact an.up o2),sD⟩,by first|omega|(dsimp only;omega)⟩
 ·exact AG false Z Z (A6 ad) Aa (Aj (A0 (Ah Z (A4 (Ax (Ax (At (A0 (Ab _ [0,0] Z (Ac 2 Z (A1 (Af [4] Z vo Z ⟨vo,rfl,a3,(by have h:=a2.up o2;rwa [List.take_of_length_le (by simp;omega)]at h)⟩))))))))))))
theorem LC (w:World)(ipT:Int)(vtc vtg vtx:Value)(T:Tp)(oT:List Int)(va:Value)(a:List Int)(vw:Value)(ws:List Int)(vd:Value)(d:List Int)(_hipT:Bx ipT)(htcT:RN [] (DM 4 On) w.heap vtc T.code)(htgT:RN [] (DM 2 Oo) w.heap vtg T.grd)(htoT:RN [] (B3 rI) w.heap vtx oT)(ha:Rd (B3 rI) w.heap va a)(hws:Rd (B3 rI) w.heap vw ws)(hd:Rd (B3 rI) w.heap vd d)(hip:ipT=((a.length:Nat):Int))(hR:R0 a T oT)(hw:ws.length=oT.length∧B2 ws=true)(hdd:d.length=a.length∧B2 d=true) :
  Calls Tryz.prog 183 #[(.agg #[(.int .i64 ipT),vtc,vtg,vtx]),va,vw,vd] w (fun e w'=>e=.returned (.int .i64 0)∧AF w w'):=by
 refine Aq [(.agg #[(.int .i64 ipT),vtc,vtg,vtx]),va,vw,vd] 26 Tryz.func183 Z Z sM ?_
 have ab:AF w w:=AF.refl w
 have hl_vtx:=htoT.lenL
 unfold maxLen at hl_vtx
 have hl_va:=ha.lenle
 have hl_vw:=hws.lenle
 have hl_vd:=hd.lenle
 have hK:=hR.k
 have hni:=hK.nb
 have hcl:=hK.cl
 have hgl:=hK.gl
 have hol:=hK.ol
 have hpos:=hK.pos
 refine A0 (Ab _ [3,0] Z (Bu (cs:=#[(.int .i64 ipT),vtc,vtg,vtx]) Z Aa fun w1 a8 al a3=>?_))
 have ac:=a8.size
 have a6:=ab.trans a8
 replace a3:BX w1.heap w.heap.size [(.int .i64 ipT),vtc,vtg,vtx]:=a3
 refine Ac 1 Z (A0 (Ab _ [2,0,0,3,3,0] Z (AK (p:=(.pointer (some ⟨w.heap.size,0,none⟩))) (.inr Z) [(.int .i64 ipT),vtc,vtg,vtx] Fj Z (fun wq9 ad=>LD.of_box (BX.ext (w:=w1) a3 ad)) Z Aa (Ad 2 Z (Qj (x0:=a) (x1:=d) BH B8 Z Z Z (RN.of (ha.ext g1 a6)) (RN.of (hd.ext g1 a6)) Aa fun v2 w2 a7 am a9 ae=>?_)))))
 have af:=a7.size
 have a4:=a6.trans a7
 have a0:=a3.ext a7
 refine As 108 [] [] [(.agg #[(.int .i64 ipT),vtc,vtg,vtx]),v2] Z Z YF Aa (Ni _ a (ipT) vtc vtg vtx (T) (oT) v2 ([a,d]) _hipT (htcT.ext (An Bb) a4) (htgT.ext (An Bm) a4) (htoT.ext g1 a4) a9 ae oM (by exact hR) (by intro k hk;match k,hk with|0,_=>exact⟨rfl,hR.n⟩|1,_=>exact hdd)) ?_
 rintro e3 w3 ⟨rfl,a1⟩
 refine⟨_,rfl,a1,?_⟩
 have ag:=a1.size
 have aa:=a4.trans a1
 have a2:=a0.ext a1
 have ah:=a9.ext g2 a1
 refine Ac 1 Z (A0 (A0 (Ab _ [0,0,0,0,0,2,0,3,0,0] Z (Ad 1 Z ?_))))
 have ai:0=((0:Nat):Int):=rfl
 refine Am true Z Z (A5 ai) Aa (Ad 2 Z (Ak (p:=(.pointer (some ⟨w.heap.size,0,none⟩))) (b:=w.heap.size) (o:=0) 3 Lm Z Z (Ae (e:=17) Z Z Z) (Ai (p:=(Ap (.pointer (some ⟨w.heap.size,0,none⟩)) 3)) (.inr Z) vtx Bj Z (a2.ldp (i:=3) sM) (Ae (e:=17) Z Z Z) (AQ (v:=vtx) Bt Z htoT.slL (Ae (e:=17) Z Z Z) (As 86 [] [] [vw,(.int .i64 ((oT.length:Nat):Int))] Z Z Uw (Ae (e:=17) Z Z Z) (Dd _ _ _ _ (hws.ext g1 aa) oM) ?_)))))
 rintro e6 w6 ⟨rfl,a5⟩
 refine⟨_,rfl,a5,?_⟩
 have aj:=a5.size
 have ak:=aa.trans a5
 have an:=ah.ext g2 a5
 rw[show(decide (((ws.length:Nat):Int)=((oT.length:Nat):Int)) && B2 ws)=true from(by rw[A5 oM,hw.2];rfl)]
 exact Bn false Z Z (Ae (e:=17) Z Z Z) (Ac 1 Z (Ah Z (A2 (A0 (Ab _ [0,0] Z (Ac 2 Z (A1 (Af [8] Z (.int .i64 0) Z ⟨rfl,ak⟩))))))))
theorem Nk (w:World)(ipT:Int)(vtc vtg vtx:Value)(T:Tp)(oT:List Int)(va:Value)(a:List Int)(vw:Value)(ws:List Int)(vd:Value)(d:List Int)(_hipT:Bx ipT)(htcT:RN [] (DM 4 On) w.heap vtc T.code)(htgT:RN [] (DM 2 Oo) w.heap vtg T.grd)(htoT:RN [] (B3 rI) w.heap vtx oT)(ha:Rd (B3 rI) w.heap va a)(hws:Rd (B3 rI) w.heap vw ws)(hd:Rd (B3 rI) w.heap vd d)(hip:ipT=((a.length:Nat):Int))(hR:R0 a T oT)(hw:ws.length=oT.length∧B2 ws=true)(hdd:d.length=a.length∧B2 d=true) :
  Calls Tryz.prog 105 #[(.agg #[(.int .i64 ipT),vtc,vtg,vtx]),va,vw,vd] w (fun e w'=>∃v0:Value,e=.returned (.tuple #[v0,.int .i64 0])∧AF w w'∧RN [] (B3 (B3 rI)) w'.heap v0 (Jh T.code (B7 2 (Ga a d 2) T.code) oT ws)∧C5 v0):=by
 refine Aq [(.agg #[(.int .i64 ipT),vtc,vtg,vtx]),va,vw,vd] 36 Tryz.func105 Z Z sM ?_
 have ak:AF w w:=AF.refl w
 have hl_vtx:=htoT.lenL
 unfold maxLen at hl_vtx
 have hl_va:=ha.lenle
 have hl_vw:=hws.lenle
 have hl_vd:=hd.lenle
 have hK:=hR.k
 have hni:=hK.nb
 have hcl:=hK.cl
 have hgl:=hK.gl
 have hol:=hK.ol
 have hpos:=hK.pos
 refine A0 (Ab _ [3,0,0] Z (Bu (cs:=#[(.int .i64 ipT),vtc,vtg,vtx]) Z Aa fun w1 aj ax ab=>?_))
 have al:=aj.size
 have a3:=ak.trans aj
 replace ab:BX w1.heap w.heap.size [(.int .i64 ipT),vtc,vtg,vtx]:=ab
 refine Ac 2 Z (A0 (A0 (Ab _ [2,0,0,0,3,0] Z (AK (p:=(.pointer (some ⟨w.heap.size,0,none⟩))) (.inr Z) [(.int .i64 ipT),vtc,vtg,vtx] Fj Z (fun wq9 a5=>LD.of_box (BX.ext (w:=w1) ab a5)) Z Aa (Ad 3 Z (As 183 [] [] [(.agg #[(.int .i64 ipT),vtc,vtg,vtx]),va,vw,vd] Z Z YU Aa (LC _ (ipT) vtc vtg vtx (T) (oT) _ _ _ _ _ _ _hipT (htcT.ext (An Bb) a3) (htgT.ext (An Bm) a3) (htoT.ext g1 a3) (ha.ext g1 a3) (hws.ext g1 a3) (hd.ext g1 a3) oM (by exact hR) (by exact hw) (by exact hdd)) ?_))))))
 rintro e2 w2 ⟨rfl,ac⟩
 refine⟨_,rfl,ac,?_⟩
 have am:=ac.size
 have ag:=a3.trans ac
 have a2:=ab.ext ac
 refine Ac 1 Z (A0 (Ab _ [0,0] Z (Ad 1 Z ?_)))
 have an:¬(0≠((0:Nat):Int)):=(fun h9=>h9 Z)
 refine AT false Z Z (A6 an) Aa (Aj (Ah Z (A2 (A0 (AO _ [1,0,0,3,3,0,0,0,0,0] mixed (by kernel_rfl) (AK (p:=(.pointer (some ⟨w.heap.size,0,none⟩))) (.inl Z) [(.int .i64 ipT),vtc,vtg,vtx] Fj Z (fun wq9 a5=>LD.of_box (BX.ext (w:=w2.drew) a2 a5)) Z Aa (Ad 2 Z (As 110 [] [] [va,vd] Z Z YH Aa (Nj _ _ _ _ _ (ha.ext g1 ag.drew) (hd.ext g1 ag.drew) oM oM) ?_))))))))
 rintro e4 w4 ⟨a6,rfl,a4,a0⟩
 refine⟨_,rfl,a4,?_⟩
 replace a4:=a4.of_drew
 have ao:=a4.size
 have ad:=ag.trans a4
 have a7:=a2.ext a4
 replace a0:=a0.low (B':=w2.heap.size) (A7 _)
 refine As 109 [] [] [(.agg #[(.int .i64 ipT),vtc,vtg,vtx]),a6,(.int .i64 ((1:Nat):Int))] Z Z YG Aa (Hb _ (ipT) vtc vtg vtx (T) (oT) a6 ((Ga a d 2)) (((1:Nat):Int)) _hipT (htcT.ext (An Bb) ad) (htgT.ext (An Bm) ad) (htoT.ext g1 ad) (RN.of_fr2 a0 (fun b hb=>absurd hb List.not_mem_nil)) a0.cap oM oM (by exact FH hR.n hdd.2) (by intro k hk;rw[Co];exact hR.k.form k hk) oM) ?_
 rintro e5 w5 ⟨v5,c5,rfl,ae,a8,ah⟩
 refine⟨_,rfl,ae,?_⟩
 have ap:=ae.size
 have a9:=ad.trans ae
 have aa:=a7.ext ae
 have aq:c5=0∨c5=6:=by unfold Yq at a8;omega
 have hcz:c5=0:=by rcases a8 with h9|h9;exact h9.1;exact absurd (hR.nz hdd.2) h9.2
 obtain⟨a1,hrvc⟩:=ah hcz
 replace a1:RN [] (B3 (B3 rI)) w5.heap v5 (B7 2 (Ga a d 2) T.code):=a1
 refine Ad 1 Z (AM (vs:=[v5,(.int .i64 c5)]) v5 Z Z Aa (AM (vs:=[v5,(.int .i64 c5)]) (.int .i64 c5) Z Z Aa (Ac 2 Z (A0 (A0 (Ab _ [0,0] Z (Ad 1 Z ?_)))))))
 have ar:¬(c5≠((0:Nat):Int)):=(fun h9=>h9 hcz)
 refine AT false Z Z (A6 ar) Aa (Aj (Ah Z (A2 (A0 (Ab _ [2,0,0,3,0,0] Z (AK (p:=(.pointer (some ⟨w.heap.size,0,none⟩))) (.inr Z) [(.int .i64 ipT),vtc,vtg,vtx] Fj Z (fun wq9 a5=>LD.of_box (BX.ext (w:=w5) aa a5)) Z Aa (Ad 2 Z (As 184 [] [] [(.agg #[(.int .i64 ipT),vtc,vtg,vtx]),v5,vw] Z Z YV Aa (HG _ 2 a.length [] (ipT) vtc vtg vtx (T) (oT) v5 ((B7 2 (Ga a d 2) T.code)) vw (ws) (fun b hb=>absurd hb List.not_mem_nil) _hipT (htcT.ext (An Bb) a9) (htgT.ext (An Bm) a9) (htoT.ext g1 a9) a1 hrvc (hws.ext g1 a9) oM (by exact hR.reg hdd.2) (by rw[BQ]) oM oM (by exact hR.k.out) (by exact hw.2) (by exact hR.k.form)) ?_))))))))
 rintro e7 w7 ⟨v7,rfl,af,au,ai⟩
 refine⟨_,rfl,af,?_⟩
 have av:=af.size
 have aw:=a9.trans af
 have ay:=a1.ext g2 af
 exact Ac 2 Z (A1 (Af [8,9] Z (.tuple #[v7,(.int .i64 ((0:Nat):Int))]) Z ⟨_,rfl,aw,au,ai⟩))
theorem IR (w:World)(ipT:Int)(vtc vtg vtx:Value)(T:Tp)(oT:List Int)(va:Value)(a:List Int)(vw:Value)(ws:List Int)(_hipT:Bx ipT)(htcT:RN [] (DM 4 On) w.heap vtc T.code)(htgT:RN [] (DM 2 Oo) w.heap vtg T.grd)(htoT:RN [] (B3 rI) w.heap vtx oT)(ha:Rd (B3 rI) w.heap va a)(hws:Rd (B3 rI) w.heap vw ws)(hip:ipT=((a.length:Nat):Int))(hR:R0 a T oT)(hw:ws.length=oT.length∧B2 ws=true) :
  Calls Tryz.prog 31 #[(.agg #[(.int .i64 ipT),vtc,vtg,vtx]),va,vw] w (fun e w'=>∃v0:Value,e=.returned (.tuple #[v0,.int .i64 0])∧AF w w'∧Fr (Bh rI 2) w.heap.size w'.heap.size w'.heap v0 (Ev (MX 2 T oT ws (Ga a a 2)))):=by
 refine Aq [(.agg #[(.int .i64 ipT),vtc,vtg,vtx]),va,vw] 25 Tryz.func31 Z Z sM ?_
 have af:AF w w:=AF.refl w
 have hl_vtx:=htoT.lenL
 unfold maxLen at hl_vtx
 have hl_va:=ha.lenle
 have hl_vw:=hws.lenle
 have hK:=hR.k
 have hni:=hK.nb
 have hcl:=hK.cl
 have hgl:=hK.gl
 have hol:=hK.ol
 have hpos:=hK.pos
 refine A0 (Ab _ [3,0,0] Z (Bu (cs:=#[(.int .i64 ipT),vtc,vtg,vtx]) Z Aa fun w1 ab ao a5=>?_))
 have ag:=ab.size
 have a0:=af.trans ab
 replace a5:BX w1.heap w.heap.size [(.int .i64 ipT),vtc,vtg,vtx]:=a5
 refine Ac 2 Z (A0 (Ab _ [2,0,0,0,3,0,0,0,0,0] Z (AK (p:=(.pointer (some ⟨w.heap.size,0,none⟩))) (.inr Z) [(.int .i64 ipT),vtc,vtg,vtx] Fj Z (fun wq9 a9=>LD.of_box (BX.ext (w:=w1) a5 a9)) Z Aa (Ad 3 Z (As 105 [] [] [(.agg #[(.int .i64 ipT),vtc,vtg,vtx]),va,vw,va] Z Z YD Aa (Nk _ (ipT) vtc vtg vtx (T) (oT) va (a) vw (ws) va (a) _hipT (htcT.ext (An Bb) a0) (htgT.ext (An Bm) a0) (htoT.ext g1 a0) (ha.ext g1 a0) (hws.ext g1 a0) (ha.ext g1 a0) oM (by exact hR) (by exact hw) (by exact⟨rfl,hR.n⟩)) ?_)))))
 rintro e2 w2 ⟨v2,rfl,a6,ac,aa⟩
 refine⟨_,rfl,a6,?_⟩
 have ah:=a6.size
 have a7:=a0.trans a6
 have a1:=a5.ext a6
 refine Ad 1 Z (AM (vs:=[v2,(.int .i64 0)]) v2 Z Z Aa (AM (vs:=[v2,(.int .i64 0)]) (.int .i64 0) Z Z Aa (Ac 2 Z (A0 (A0 (Ab _ [0,0] Z (Ad 1 Z ?_)))))))
 have ai:¬(0≠((0:Nat):Int)):=(fun h9=>h9 Z)
 refine AT false Z Z (A6 ai) Aa (Aj (Ah Z (A2 (A0 (Ab _ [2,0,3,3,0,0] Z (AK (p:=(.pointer (some ⟨w.heap.size,0,none⟩))) (.inr Z) [(.int .i64 ipT),vtc,vtg,vtx] Fj Z (fun wq9 a9=>LD.of_box (BX.ext (w:=w2) a1 a9)) Z Aa (Ad 1 Z (As 107 [] [] [(.agg #[(.int .i64 ipT),vtc,vtg,vtx]),v2] Z Z YE Aa (HI _ 2 a.length [] (ipT) vtc vtg vtx (T) (oT) v2 ((Jh T.code (B7 2 (Ga a a 2) T.code) oT ws)) (fun b hb=>absurd hb List.not_mem_nil) _hipT (htcT.ext (An Bb) a7) (htgT.ext (An Bm) a7) (htoT.ext g1 a7) ac aa oM oM (by exact hR.adj hR.n) (by rw[SI,BQ];omega) oM (by exact hR.k.form)) ?_))))))))
 rintro e4 w4 ⟨v4,rfl,a8,ad,aj⟩
 refine⟨_,rfl,a8,?_⟩
 have ak:=a8.size
 have ae:=a7.trans a8
 have al:=ac.ext g2 a8
 refine As 106 [] [] [v4] Z Z Vn Aa (Ie _ _ _ (ad).rd (by rw[Qa];omega) (by intro k hk;have h9:=((Q9 hR.k.form:BV 2 (Ul a.length 2 T.code (Jh T.code (B7 2 (Ga a a 2) T.code) oT ws))) k hk).1;omega)) ?_
 rintro e6 w6 ⟨a2,rfl,a3,a4⟩
 refine⟨_,rfl,a3,?_⟩
 have am:=a3.size
 have an:=ae.trans a3
 have ap:=al.ext g2 a3
 have aq:=ad.ext g2 a3
 exact Ac 2 Z (A1 (Af [6,7] Z (.tuple #[a2,(.int .i64 ((0:Nat):Int))]) Z ⟨a2,rfl,an,(by first|(unfold Ev MX;rw[Co];exact(a4.up o1).low ae.size)|(exfalso;omega))⟩))
end
section
set_option maxHeartbeats 4000000
set_option maxRecDepth 100000
attribute [local irreducible] LW
theorem DL (w:World)(dp:Nat)(vp:Value)(p:List Fn)(f:Int)(va:Value)(a:List Int)(vw:Value)(ws:List Int)(hp:RP [] dp w.heap vp p)(_hf:Bx f)(ha:Rd (B3 rI) w.heap va a)(hws:Rd (B3 rI) w.heap vw ws)(hok:G7 p=true)(hz:PJ p)(hf:0≤f∧f<((p.length:Nat):Int))(hl:((a.length:Nat):Int)=(p.getD f.toNat Fn.zero).params)(hna:B2 a=true)(hc:G8 p f.toNat a=0)(hw:ws.length=(p.getD f.toNat Fn.zero).outs.length∧B2 ws=true) :
  Calls Tryz.prog 131 #[(.agg #[vp]),.int .i64 f,va,vw] w (fun e w'=>∃v0:Value,e=.returned (.tuple #[v0,.int .i64 0])∧AF w w'∧Fr (Bh rI 2) w.heap.size w'.heap.size w'.heap v0 (SQ p f.toNat a ws)):=by
 refine Aq [(.agg #[vp]),.int .i64 f,va,vw] 28 Tryz.func131 Z Z sM ?_
 have av:AF w w:=AF.refl w
 have hl_vp:=hp.lenle
 unfold maxLen at hl_vp
 have hl_va:=ha.lenle
 have hl_vw:=hws.lenle
 have hvp:=FG hok
 have hpr:=hvp.par f.toNat oM
 have hou:=hvp.outs f.toNat oM
 refine A0 (Ab _ [3,0,0] Z (Bu (cs:=#[vp]) Z Aa fun w1 aq be ad=>?_))
 have aw:=aq.size
 have ai:=av.trans aq
 replace ad:BX w1.heap w.heap.size [vp]:=ad
 refine Ac 2 Z (A0 (Ab _ [2,0,0,3,0,0,0,3,4,0] Z (AK (p:=(.pointer (some ⟨w.heap.size,0,none⟩))) (.inr Z) [vp] BZ Z (fun wq9 aj=>LD.of_box (BX.ext (w:=w1) ad aj)) Z Aa (Ad 2 Z (As 29 [] [] [(.agg #[vp]),(.int .i64 f),va] Z Z aY Aa (M2 _ dp vp p (f) va a (hp.ext (An (Av dp)) ai) _hf (RN.of (ha.ext g1 ai)) (by exact hok) (by exact hz) oM oM (by exact hna)) ?_)))))
 rintro e2 w2 ⟨i2,va2,vb2,vc2,xs2,T2,s2,c2,rfl,ae,a5,ax,ak,al,am⟩
 refine⟨_,rfl,ae,?_⟩
 have ay:=ae.size
 have az:=ai.trans ae
 have a2:=ad.ext ae
 have b0:G8 p (f).toNat a=c2:=O0 (A7 1) hvp oM hna (Jk (CJ hna) (DZ _)) oM a5
 have an:=AF.refl w2
 refine Ad 1 Z (AM (vs:=[(.agg #[(.int .i64 i2),va2,vb2,vc2]),(.int .i64 c2)]) (.agg #[(.int .i64 i2),va2,vb2,vc2]) Z Z Aa (AM (vs:=[(.agg #[(.int .i64 i2),va2,vb2,vc2]),(.int .i64 c2)]) (.int .i64 c2) Z Z Aa ?_))
 have bf:=a2.lt
 refine Bo (z:=.agg #[.int .i64 0,.slice none 0 0,.slice none 0 0,.slice none 0 0]) Zr Aa fun w3 af bg ao=>?_
 have b1:=af.size
 have ar:=az.trans af
 have b2:=an.trans af
 have a6:=a2.ext af
 replace ao:BX w3.heap w2.heap.size [(.int .i64 0),(.slice none 0 0),(.slice none 0 0),(.slice none 0 0)]:=ao
 refine Bz (vs:=[(.int .i64 i2),va2,vb2,vc2]) Fj Z Z (fun u hu=>by rcases List.mem_cons.1 hu with rfl|hu;exact⟨rfl,rfl⟩;exact ak u hu) ao Z Z Aa fun w5 ag bh ap=>?_
 replace ap:BX w5.heap w2.heap.size [(.int .i64 i2),va2,vb2,vc2]:=ap
 have ah:AF w w5:=ag.below ar (fun c hc=>by have:=A9 hc;omega) ar.size
 have b3:w3.heap.size≤w5.heap.size:=ag.size
 have b4:=a6.chg ag (fun hm=>by have:=A9 hm;omega)
 have a4:Au [w2.heap.size] w2 w5:=(Au.of_ext _ b2).trans ag
 have a1:=AF.refl w5
 refine Ac 1 Z (A0 (A0 (Ab _ [0,0] Z (Ad 1 Z ?_))))
 have b5:¬(c2≠((0:Nat):Int)):=oM
 refine AT false Z Z (A6 b5) Aa (Aj (Ah Z (A2 (A0 (Ab _ [2,0,0,3,0,0,0,0] Z ?_)))))
 have a7:c2=0:=by omega
 obtain⟨bi,hTB,b6,hxl,hEn,b7,b8,b9⟩:=am a7
 have a8:=a5
 rw[a7]at a8
 have hRc:JM p (f).toNat a xs2 T2:=⟨hvp,by omega,by omega,hna,_,a8⟩
 have hTR:=hRc.tpr hTB b6
 have a9:RN [] (DM 4 On) w5.heap va2 T2.code:=RN.ext (An Bb) (RN.none (RN.chg (An Bb) (RG.rnG (g:=w2.heap.size) (An Bb) b7 oM) a4)) a1
 have aa:RN [] (DM 2 Oo) w5.heap vb2 T2.grd:=RN.ext (An Bm) (RN.none (RN.chg (An Bm) (RG.rnG (g:=w2.heap.size) (An Bm) b8 oM) a4)) a1
 have ab:RN [] (B3 rI) w5.heap vc2 xs2:=RN.ext g1 (RN.none (RN.chg g1 (RG.rnG (g:=w2.heap.size) g1 b9 oM) a4)) a1
 refine AK (p:=(.pointer (some ⟨w2.heap.size,0,none⟩))) (.inr Z) [(.int .i64 i2),va2,vb2,vc2] Fj Z (fun wq9 aj=>LD.of_box (BX.ext (w:=w5) ap aj)) Z Aa (Ad 2 Z (As 31 [] [] [(.agg #[(.int .i64 i2),va2,vb2,vc2]),va,vw] Z Z aZ Aa (IR _ (i2) va2 vb2 vc2 (T2) (xs2) _ _ _ _ al a9 aa ab (ha.ext g1 ah) (hws.ext g1 ah) oM (by exact hTR) (by exact⟨by omega,hw.2⟩)) ?_))
 rintro e8 w8 ⟨a0,rfl,a3,ac⟩
 refine⟨_,rfl,a3,?_⟩
 have ba:=a3.size
 have bb:=ah.trans a3
 have bj:=a1.trans a3
 have au:=b4.ext a3
 have bk:=a9.ext (An Bb) a3
 have bc:=aa.ext (An Bm) a3
 have bd:=ab.ext g1 a3
 exact AM (vs:=[a0,(.int .i64 0)]) a0 Z Z Aa (AM (vs:=[a0,(.int .i64 0)]) (.int .i64 0) Z Z Aa (Ac 2 Z (A1 (Af [8,9] Z (.tuple #[a0,(.int .i64 0)]) Z ⟨a0,rfl,bb,(by have h:=(ac.up o1).low ah.size;rwa [hRc.bkR (m:=2) (by decide) (FH hRc.n hRc.n) (FI _ _)]at h)⟩))))
theorem Oh {p:Prop}(h:p:=by first|(have h:=Hh _ _ _;rw[Ht hgc,hLg,show(i+1).toNat=0 from by omega];exact h)|(rw[GO (by rw[EF hg0];omega)];exact Hh _ _ _)|(rw[GO (by rw[FZ (by rw[FX oM];omega)];exact(by rw[FX oM];omega))];exact Hh _ _ _)|(rw[GO (by rw[FZ (by rw[FY oM (CX (by assumption))];omega)];exact(by rw[FY oM (CX (by assumption))];omega))];exact Hh _ _ _)):p:=h
theorem LE {p:Prop}(h:p:=by first|(rw[hgc];done)|(rw[hgc];rfl)|(rw[EF hg0];done)|(rw[FZ (by rw[FX oM];omega),FX oM];done)|(rw[FZ (by rw[FY oM (CX (by assumption))];omega),FY oM (CX (by assumption))];rfl)):p:=h
theorem LF {p:Prop}(h:p:=by first|(rw[hgc];omega)|(rw[EF hg0];exact ‹PU p f.toNat a n.toNat›.code)|(rw[FZ (by rw[FX oM];omega)];omega)|(rw[FZ (by rw[FY oM (CX (by assumption))];omega)];omega)):p:=h
theorem VQ {p:Prop}(h:p:=by rw[show(i-1+1).toNat=i.toNat from by omega,hLg,show(i+1).toNat=i.toNat+1 from by omega,hti];rfl):p:=h
theorem VR {p:Prop}(h:p:=by rw[hti];exact(hCh.rc (k:=i.toNat) oM).elim fun _ h=>h.elim fun _ h=>h.bkR_num):p:=h
theorem C7 (w:World)(dp:Nat)(vp:Value)(p:List Fn)(f:Int)(va:Value)(a:List Int)(vw:Value)(ws:List Int)(n:Int)(hp:RP [] dp w.heap vp p)(_hf:Bx f)(ha:Rd (B3 rI) w.heap va a)(hws:Rd (B3 rI) w.heap vw ws)(_hn:Bx n)(hz:PJ p) :
  Calls Tryz.prog 47 #[(.agg #[vp]),.int .i64 f,va,vw,.int .i64 n] w (fun e w'=>∃v0:Value,e=.returned (.tuple #[v0,.int .i64 (D7 p f a ws n)])∧AF w w'∧Fr (Bh rI 2) w.heap.size w'.heap.size w'.heap v0 (Uu p f a ws n)∧(0≤D7 p f a ws n∧D7 p f a ws n≤9)):=by
 refine Aq [(.agg #[vp]),.int .i64 f,va,vw,.int .i64 n] 66 Tryz.func47 Z Z sM ?_
 have c2:AF w w:=AF.refl w
 have hl_vp:=hp.lenle
 unfold maxLen at hl_vp
 have hl_va:=ha.lenle
 have hl_vw:=hws.lenle
 refine A0 (Ab _ [3,0,0] Z (Bu (cs:=#[vp]) Z Aa fun w1 bz cf c0=>?_))
 have b9:=bz.size
 have ba:=c2.trans bz
 replace c0:BX w1.heap w.heap.size [vp]:=c0
 refine Ac 2 Z (A0 (Ab _ [2,0,0,0,3,3,0] Z (AK (p:=(.pointer (some ⟨w.heap.size,0,none⟩))) (.inr Z) [vp] BZ Z (fun wq9 ay=>LD.of_box (BX.ext (w:=w1) c0 ay)) Z Aa (Ad 3 Z (Qj (x0:=a) (x1:=ws) BH B8 Z Z Z (RN.of (ha.ext g1 ba)) (RN.of (hws.ext g1 ba)) Aa fun v2 w2 bb cg ch d1=>?_)))))
 have bc:=bb.size
 have c1:=ba.trans bb
 have bd:=c0.ext bb
 refine As 125 [] [] [(.agg #[vp]),(.int .i64 f),v2] Z Z Vp Aa (Gt _ dp vp (p) _ v2 ([a,ws]) (hp.ext (An (Av dp)) c1) _hf ch d1 (by exact hz)) ?_
 rintro e3 w3 ⟨rfl,b2⟩
 refine⟨_,rfl,b2,?_⟩
 have c3:=b2.size
 have b7:=c1.trans b2
 have ap:=bd.ext b2
 have ci:=ch.ext g2 b2
 refine Ac 1 Z (A0 (A0 (Ab _ [0,0,0,0,3,0,0] Z ?_)))
 have hcr:=Kt p f [a,ws]
 refine Ad 1 Z ?_
 by_cases cj:EQ p f ([a,ws])=((0:Nat):Int)
 ·refine Am true Z Z (A5 cj) Aa (Ad 2 Z (As 126 [] [] [(.int .i64 n)] Z Z Vq (Ae (e:=24) Z Z Z) (H2 _ _ _hn) ?_))
  rintro e6 w6 ⟨rfl,b8⟩
  refine⟨_,rfl,b8,?_⟩
  have d2:=b8.size
  have be:=b7.trans b8
  have b1:=ap.ext b8
  have d3:=ci.ext g2 b8
  refine Bn (!(E7 n 0 40)) Z Z (Ae (e:=24) Z Z Z) (Ac 1 Z ?_)
  cases ck:(!(E7 n 0 40))
  ·refine Ah (by first|rfl|(show Value.bool _=_;rw[ck])) (A2 (A0 (A0 (Ab _ [0,0] Z ?_))))
   have hdr:=Lg (p:=p) (f:=f) (a:=a) (ws:=ws) (n:=n)
   refine Ad 1 Z ?_
   by_cases cl:EQ p f ([a,ws])≠((0:Nat):Int)
   ·refine AT true Z Z (A5 cl) Aa (Aj (Ag Z (A0 (Ab _ [0,0,0] Z (Ac 3 Z (A1 (Al ?_)))))))
    exact Af [10,11] Z (.tuple #[(.slice none 0 0),(.int .i64 (EQ p f ([a,ws])))]) Z ⟨(.slice none 0 0),LE,be,Oh,LF⟩
   ·refine AT false Z Z (A6 cl) Aa (Aj (Ah Z (A2 (A0 (Ab _ [2,0,0,0,3,0,0,0,0,0] Z ?_)))))
    have hg0:I1 p f a ws n=0:=by first|exact Iz oM (Do (by assumption))|(exfalso;omega)
    have c4:=SR hg0
    have a6:=Vk c4.1
    have hvp:=FG a6.1
    refine AK (p:=(.pointer (some ⟨w.heap.size,0,none⟩))) (.inr Z) [vp] BZ Z (fun wq9 ay=>LD.of_box (BX.ext (w:=w6) b1 ay)) Z Aa (Ad 3 Z (As 127 [] [] [(.agg #[vp]),(.int .i64 f),va,(.int .i64 n)] Z Z Ql Aa (Cp _ dp vp (p) _ _ _ _ (hp.ext (An (Av dp)) be) _hf (ha.ext g1 be) _hn (by exact hvp) oM oM (by exact a6.2.2.2.1.2) oM oM) ?_))
    rintro e10 w10 ⟨a0,rfl,aj,aq,c5⟩
    refine⟨_,rfl,aj,?_⟩
    have cm:=aj.size
    have a7:=be.trans aj
    have b3:=b1.ext aj
    have c6:=d3.ext g2 aj
    refine Ad 1 Z (AM (vs:=[a0,(.int .i64 (Eo p f.toNat a n.toNat))]) a0 Z Z Aa (AM (vs:=[a0,(.int .i64 (Eo p f.toNat a n.toNat))]) (.int .i64 (Eo p f.toNat a n.toNat)) Z Z Aa (Ac 2 Z (A0 (A0 (Ab _ [0,0] Z (Ad 1 Z ?_)))))))
    by_cases bf:Eo p f.toNat a n.toNat≠((0:Nat):Int)
    ·refine AT true Z Z (A5 bf) Aa (Aj (Ag Z (A0 (Ab _ [0,0,0] Z (Ac 3 Z (A1 (Al ?_)))))))
     exact Af [10,11] Z (.tuple #[(.slice none 0 0),(.int .i64 (Eo p f.toNat a n.toNat))]) Z ⟨(.slice none 0 0),LE,a7,Oh,LF⟩
    ·refine AT false Z Z (A6 bf) Aa (Aj (Ah Z (A2 (A0 (Ab _ [0,3,0] Z ?_)))))
     have hpar:=hvp.par f.toNat oM
     have hrk:Eo p f.toNat a n.toNat=0:=by omega
     have hCh:Mr p f.toNat a n.toNat:=⟨hvp,by omega,a6.2.2.1.2,a6.2.2.2.1.1,a6.2.2.2.1.2,hrk⟩
     have hgc:D7 p f a ws n=0:=by rw[EF hg0];exact hrk
     have bg:Fr (Bh (Bh rI 2) 27) w6.heap.size w10.heap.size w10.heap a0 (CC (n.toNat+1) (Ch p f.toNat a)):=by have h:=aq;rwa [K6 hrk]at h
     have htl:(CC (n.toNat+1) (Ch p f.toNat a)).length=n.toNat+1:=by simp[CC]
     refine Ad 1 Z (As 130 [] [] [vw] Z Z Qm Aa (BG _ _ _ (hws.ext g1 a7) oM) ?_)
     rintro e14 w14 ⟨bh,rfl,a8,ar⟩
     refine⟨_,rfl,a8,?_⟩
     have bi:=a8.size
     have bj:=a7.trans a8
     have b4:=b3.ext a8
     have au:=bg.ext (o2) a8
     have d4:=c6.ext g2 a8
     refine Ac 1 Z (A0 (A0 (Ab _ [0,0,0] Z (Ad 1 Z (Bs (n-1) Z Z (Da oM oM) Aa (Ac 1 Z (A3 ?_)))))))
     refine B1 (S:=Int×Value×List Int) (fun⟨i,vo,L⟩=>([(14,vo),(15,(.int .i64 i)),(1,(.int .i64 f)),(5,(.pointer (some ⟨w.heap.size,0,none⟩))),(13,a0)])) (fun⟨i,vo,L⟩ W=>AF w W∧Fr (Bh rI 2) w10.heap.size W.heap.size W.heap vo L∧Fr (Bh (Bh rI 2) 27) w6.heap.size w10.heap.size W.heap a0 (CC (n.toNat+1) (Ch p f.toNat a))∧BX W.heap w.heap.size [vp]∧(-1≤i∧i<n)∧(((L.length:Nat):Int)=(p.getD f.toNat Fn.zero).params)∧B2 L=true∧Jt p f.toNat a n.toNat ws=Jt p f.toNat a (i+1).toNat L∧w.heap.size<w10.heap.size∧w10.heap.size≤W.heap.size) (fun⟨i,vo,L⟩=>(i+1).toNat) (n-1,bh,ws) ⟨rfl,rfl,rfl,rfl,rfl,trivial⟩ ⟨bj,ar.up o1,au,b4,oM,oM,(by exact a6.2.2.2.2.2),(by rw[show(n-1+1).toNat=n.toNat from by omega]),oM,oM⟩ ?_
     clear c2 cf bz b9 ba cg bb bc c1 b2 c3 b7 b8 aq aj ar a8 bi bj
     rintro⟨i,vo,L⟩ ρ17 w17 ⟨az,a2,a9,aa,c7,hLl,hLn,hLg,cn,co⟩
     have cp:w.heap.size≤w17.heap.size:=az.size
     have d5:=aa.lt
     refine A0 (A0 (Ab _ [0,0] Z (Ad 1 Z ?_)))
     by_cases bk:((0:Nat):Int)≤i
     ·refine Dv true Z Z (A5 bk) Aa (Aj (Ag Z (A2 (A0 (A3 (A0 (AO _ [1,0,0,0,0,1,0,3,0,0,0,0,0] mixed (by kernel_rfl) ?_)))))))
      have hti:=C4 (f:=Ch p f.toNat a) (n:=n.toNat+1) (k:=i.toNat) [] oM
      have his:=(hCh.low (k:=i.toNat) oM).st
      have hin:=hCh.nx (k:=i.toNat) oM
      refine AK (p:=(.pointer (some ⟨w.heap.size,0,none⟩))) (.inl Z) [vp] BZ Z (fun wq9 ay=>LD.of_box (BX.ext (w:=w17.drew) aa ay)) Z Aa (Ad 3 Z (AB (v:=a0) ((i).toNat) BH B8 Z Z a9.isSl oM sD Aa ?_))
      obtain⟨bl,bm,bn⟩:=a9.rd2.get (k:=(i).toNat) [] sD
      have cq:=bn.lenle
      refine Ai (p:=Ay a0 ((i).toNat) 1) (.inl Z) bl Bj Z bm Aa (Ad 1 Z (As 131 [] [] [(.agg #[vp]),(.int .i64 f),bl,vo] Z Z Vr Aa (DL _ dp vp (p) _ _ _ _ _ (hp.ext (An (Av dp)) az.drew) _hf bn a2.rd1 (by exact a6.1) (by exact hz) oM (by rw[hti];omega) (by rw[hti];exact his.2) (by rw[hti];exact hin) (by exact⟨by omega,hLn⟩)) ?_))
      rintro e22 w22 ⟨ah,rfl,a4,ab⟩
      refine⟨_,rfl,a4,?_⟩
      replace a4:=a4.of_drew
      have cr:=a4.size
      have c8:=az.trans a4
      have ak:=a9.ext (o2) a4
      have al:=aa.ext a4
      have ct:=AZ a4 bm
      replace ab:=ab.low (B':=w17.heap.size) (A7 _)
      refine Ad 1 Z (AM (vs:=[ah,(.int .i64 0)]) ah Z Z Aa (AM (vs:=[ah,(.int .i64 0)]) (.int .i64 0) Z Z Aa (Ac 2 Z (A0 (Ab _ [0,0] Z (Ad 1 Z ?_))))))
      have c9:¬(0≠((0:Nat):Int)):=(fun h9=>h9 Z)
      exact AT false Z Z (A6 c9) Aa (Aj (Ah Z (A2 (Ab _ [0,0,0] Z (Ad 1 Z (Bs (i-1) Z Z (Da oM oM) Aa (Ac 1 Z ⟨((i-1),ah,(SQ p f.toNat ((CC (n.toNat+1) (Ch p f.toNat a)).getD ((i).toNat) []) L)),_,rfl,⟨rfl,rfl,rfl,rfl,rfl,trivial⟩,⟨c8,(ab.up o1).low oM,ak,al,oM,(by rw[FK,hti];omega),VR,VQ,oM,oM⟩,by first|omega|(dsimp only;omega)⟩)))))))
     ·refine Dv false Z Z (A6 bk) Aa (Aj (Ah Z (A4 (Ax (Ax (At (A0 (Ab _ [0,0,0] Z (Ac 3 Z (A1 ?_))))))))))
      exact Af [10,11] Z (.tuple #[vo,(.int .i64 ((0:Nat):Int))]) Z ⟨vo,LE,az,(by first|(have h:=(a2.up o1).low a7.size;rw[Ht hgc,hLg,show(i+1).toNat=0 from by omega];exact h)|(rw[GO (by rw[EF hg0];omega)];exact(a2.up o1).low a7.size)|(rw[GO (by rw[FZ (by rw[FX oM];omega)];exact(by rw[FX oM];omega))];exact(a2.up o1).low a7.size)|(rw[GO (by rw[FZ (by rw[FY oM (CX (by assumption))];omega)];exact(by rw[FY oM (CX (by assumption))];omega))];exact(a2.up o1).low a7.size)),LF⟩
  ·refine Ag (by first|rfl|(show Value.bool _=_;rw[ck])) (Ab _ [0] Z (Ac 1 Z (A0 (A0 (Ab _ [0,0] Z ?_)))))
   have hdr:=Lg (p:=p) (f:=f) (a:=a) (ws:=ws) (n:=n)
   refine Ad 1 Z (AT true Z Z (by decide) Aa (Aj (Ag Z (A0 (Ab _ [0,0,0] Z (Ac 3 Z (A1 (Al ?_))))))))
   exact Af [10,11] Z (.tuple #[(.slice none 0 0),(.int .i64 ((2:Nat):Int))]) Z ⟨(.slice none 0 0),LE,be,Oh,LF⟩
 ·refine Am false Z Z (A6 cj) Aa (Ac 5 Z (Ah Z (A2 (A0 (A0 (Ab _ [0,0] Z ?_))))))
  have hdr:=Lg (p:=p) (f:=f) (a:=a) (ws:=ws) (n:=n)
  refine Ad 1 Z ?_
  by_cases bo:EQ p f ([a,ws])≠((0:Nat):Int)
  ·refine AT true Z Z (A5 bo) Aa (Aj (Ag Z (A0 (Ab _ [0,0,0] Z (Ac 3 Z (A1 (Al ?_)))))))
   exact Af [10,11] Z (.tuple #[(.slice none 0 0),(.int .i64 (EQ p f ([a,ws])))]) Z ⟨(.slice none 0 0),LE,b7,Oh,LF⟩
  ·refine AT false Z Z (A6 bo) Aa (Aj (Ah Z (A2 (A0 (Ab _ [2,0,0,0,3,0,0,0,0,0] Z ?_)))))
   have hg0:I1 p f a ws n=0:=by first|exact Iz oM (Do (by assumption))|(exfalso;omega)
   have c4:=SR hg0
   have a6:=Vk c4.1
   have hvp:=FG a6.1
   refine AK (p:=(.pointer (some ⟨w.heap.size,0,none⟩))) (.inr Z) [vp] BZ Z (fun wq9 ay=>LD.of_box (BX.ext (w:=w3) ap ay)) Z Aa (Ad 3 Z (As 127 [] [] [(.agg #[vp]),(.int .i64 f),va,(.int .i64 n)] Z Z Ql Aa (Cp _ dp vp (p) _ _ _ _ (hp.ext (An (Av dp)) b7) _hf (ha.ext g1 b7) _hn (by exact hvp) oM oM (by exact a6.2.2.2.1.2) oM oM) ?_))
   rintro e26 w26 ⟨a1,rfl,am,av,ca⟩
   refine⟨_,rfl,am,?_⟩
   have cu:=am.size
   have ac:=b7.trans am
   have b5:=ap.ext am
   have cb:=ci.ext g2 am
   refine Ad 1 Z (AM (vs:=[a1,(.int .i64 (Eo p f.toNat a n.toNat))]) a1 Z Z Aa (AM (vs:=[a1,(.int .i64 (Eo p f.toNat a n.toNat))]) (.int .i64 (Eo p f.toNat a n.toNat)) Z Z Aa (Ac 2 Z (A0 (A0 (Ab _ [0,0] Z (Ad 1 Z ?_)))))))
   by_cases bp:Eo p f.toNat a n.toNat≠((0:Nat):Int)
   ·refine AT true Z Z (A5 bp) Aa (Aj (Ag Z (A0 (Ab _ [0,0,0] Z (Ac 3 Z (A1 (Al ?_)))))))
    exact Af [10,11] Z (.tuple #[(.slice none 0 0),(.int .i64 (Eo p f.toNat a n.toNat))]) Z ⟨(.slice none 0 0),LE,ac,Oh,LF⟩
   ·refine AT false Z Z (A6 bp) Aa (Aj (Ah Z (A2 (A0 (Ab _ [0,3,0] Z ?_)))))
    have hpar:=hvp.par f.toNat oM
    have hrk:Eo p f.toNat a n.toNat=0:=by omega
    have hCh:Mr p f.toNat a n.toNat:=⟨hvp,by omega,a6.2.2.1.2,a6.2.2.2.1.1,a6.2.2.2.1.2,hrk⟩
    have hgc:D7 p f a ws n=0:=by rw[EF hg0];exact hrk
    have bq:Fr (Bh (Bh rI 2) 27) w3.heap.size w26.heap.size w26.heap a1 (CC (n.toNat+1) (Ch p f.toNat a)):=by have h:=av;rwa [K6 hrk]at h
    have htl:(CC (n.toNat+1) (Ch p f.toNat a)).length=n.toNat+1:=by simp[CC]
    refine Ad 1 Z (As 130 [] [] [vw] Z Z Qm Aa (BG _ _ _ (hws.ext g1 ac) oM) ?_)
    rintro e30 w30 ⟨br,rfl,ad,aw⟩
    refine⟨_,rfl,ad,?_⟩
    have bs:=ad.size
    have bt:=ac.trans ad
    have b6:=b5.ext ad
    have ax:=bq.ext (o2) ad
    have d6:=cb.ext g2 ad
    refine Ac 1 Z (A0 (A0 (Ab _ [0,0,0] Z (Ad 1 Z (Bs (n-1) Z Z (Da oM oM) Aa (Ac 1 Z (A3 ?_)))))))
    refine B1 (S:=Int×Value×List Int) (fun⟨i,vo,L⟩=>([(14,vo),(15,(.int .i64 i)),(1,(.int .i64 f)),(5,(.pointer (some ⟨w.heap.size,0,none⟩))),(13,a1)])) (fun⟨i,vo,L⟩ W=>AF w W∧Fr (Bh rI 2) w26.heap.size W.heap.size W.heap vo L∧Fr (Bh (Bh rI 2) 27) w3.heap.size w26.heap.size W.heap a1 (CC (n.toNat+1) (Ch p f.toNat a))∧BX W.heap w.heap.size [vp]∧(-1≤i∧i<n)∧(((L.length:Nat):Int)=(p.getD f.toNat Fn.zero).params)∧B2 L=true∧Jt p f.toNat a n.toNat ws=Jt p f.toNat a (i+1).toNat L∧w.heap.size<w26.heap.size∧w26.heap.size≤W.heap.size) (fun⟨i,vo,L⟩=>(i+1).toNat) (n-1,br,ws) ⟨rfl,rfl,rfl,rfl,rfl,trivial⟩ ⟨bt,aw.up o1,ax,b6,oM,oM,(by exact a6.2.2.2.2.2),(by rw[show(n-1+1).toNat=n.toNat from by omega]),oM,oM⟩ ?_
    clear c2 cf bz b9 ba cg bb bc c1 b2 av am aw ad bs bt
    rintro⟨i,vo,L⟩ ρ33 w33 ⟨b0,a3,ae,af,cc,hLl,hLn,hLg,cv,cw⟩
    have cx:w.heap.size≤w33.heap.size:=b0.size
    have d7:=af.lt
    refine A0 (A0 (Ab _ [0,0] Z (Ad 1 Z ?_)))
    by_cases bu:((0:Nat):Int)≤i
    ·refine Dv true Z Z (A5 bu) Aa (Aj (Ag Z (A2 (A0 (A3 (A0 (AO _ [1,0,0,0,0,1,0,3,0,0,0,0,0] mixed (by kernel_rfl) ?_)))))))
     have hti:=C4 (f:=Ch p f.toNat a) (n:=n.toNat+1) (k:=i.toNat) [] oM
     have his:=(hCh.low (k:=i.toNat) oM).st
     have hin:=hCh.nx (k:=i.toNat) oM
     refine AK (p:=(.pointer (some ⟨w.heap.size,0,none⟩))) (.inl Z) [vp] BZ Z (fun wq9 ay=>LD.of_box (BX.ext (w:=w33.drew) af ay)) Z Aa (Ad 3 Z (AB (v:=a1) ((i).toNat) BH B8 Z Z ae.isSl oM sD Aa ?_))
     obtain⟨bv,bw,bx⟩:=ae.rd2.get (k:=(i).toNat) [] sD
     have cy:=bx.lenle
     refine Ai (p:=Ay a1 ((i).toNat) 1) (.inl Z) bv Bj Z bw Aa (Ad 1 Z (As 131 [] [] [(.agg #[vp]),(.int .i64 f),bv,vo] Z Z Vr Aa (DL _ dp vp (p) _ _ _ _ _ (hp.ext (An (Av dp)) b0.drew) _hf bx a3.rd1 (by exact a6.1) (by exact hz) oM (by rw[hti];omega) (by rw[hti];exact his.2) (by rw[hti];exact hin) (by exact⟨by omega,hLn⟩)) ?_))
     rintro e38 w38 ⟨ai,rfl,a5,ag⟩
     refine⟨_,rfl,a5,?_⟩
     replace a5:=a5.of_drew
     have cz:=a5.size
     have cd:=b0.trans a5
     have an:=ae.ext (o2) a5
     have ao:=af.ext a5
     have d0:=AZ a5 bw
     replace ag:=ag.low (B':=w33.heap.size) (A7 _)
     refine Ad 1 Z (AM (vs:=[ai,(.int .i64 0)]) ai Z Z Aa (AM (vs:=[ai,(.int .i64 0)]) (.int .i64 0) Z Z Aa (Ac 2 Z (A0 (Ab _ [0,0] Z (Ad 1 Z ?_))))))
     have ce:¬(0≠((0:Nat):Int)):=(fun h9=>h9 Z)
     exact AT false Z Z (A6 ce) Aa (Aj (Ah Z (A2 (Ab _ [0,0,0] Z (Ad 1 Z (Bs (i-1) Z Z (Da oM oM) Aa (Ac 1 Z ⟨((i-1),ai,(SQ p f.toNat ((CC (n.toNat+1) (Ch p f.toNat a)).getD ((i).toNat) []) L)),_,rfl,⟨rfl,rfl,rfl,rfl,rfl,trivial⟩,⟨cd,(ag.up o1).low oM,an,ao,oM,(by rw[FK,hti];omega),VR,VQ,oM,oM⟩,by first|omega|(dsimp only;omega)⟩)))))))
    ·refine Dv false Z Z (A6 bu) Aa (Aj (Ah Z (A4 (Ax (Ax (At (A0 (Ab _ [0,0,0] Z (Ac 3 Z (A1 ?_))))))))))
     exact Af [10,11] Z (.tuple #[vo,(.int .i64 ((0:Nat):Int))]) Z ⟨vo,LE,b0,(by first|(have h:=(a3.up o1).low ac.size;rw[Ht hgc,hLg,show(i+1).toNat=0 from by omega];exact h)|(rw[GO (by rw[EF hg0];omega)];exact(a3.up o1).low ac.size)|(rw[GO (by rw[FZ (by rw[FX oM];omega)];exact(by rw[FX oM];omega))];exact(a3.up o1).low ac.size)|(rw[GO (by rw[FZ (by rw[FY oM (CX (by assumption))];omega)];exact(by rw[FY oM (CX (by assumption))];omega))];exact(a3.up o1).low ac.size)),LF⟩
end
section
set_option maxHeartbeats 4000000
set_option maxRecDepth 100000
attribute [local irreducible] LW
theorem GW {p:Prop}(h:p:=by intro u hu;simp only[List.mem_cons,List.not_mem_nil,or_false]at hu;rcases hu with rfl|rfl|rfl|rfl|rfl <;> first|exact⟨rfl,rfl⟩):p:=h
theorem Pd {p:Prop}(h:p:=by simp only[List.map_toArray,List.map_cons,List.map_nil];rfl):p:=h
theorem Pe {p:Prop}(h:p:=by first|exact OK.var oM|exact OK.num oM):p:=h
theorem CZ (w:World)(gg gs:Nat)(sv:Value)(cs:List UInt8)(n0:Nat)(pp:Value)(dp:Nat)(l0:Int)(pl:Bool)(p:List Fn)(vars:Int)(hgg:gs<gg)(hs:EB w.heap gs sv cs n0)(hB0:BX w.heap gg [.pointer (some ⟨gs,0,none⟩),pp,.int .i64 l0,.bool pl])(hp:RN [gs,gg] (rP (Ki dp)) w.heap pp p)(_hvars:Bx vars)(hv:0≤vars∧vars≤1000)(hn:n0+20≤1000000000000) :
  Calls Tryz.prog 196 #[.pointer (some ⟨gg,0,none⟩),.int .i64 vars] w (fun e w'=>∃(ex:Ex) (n1:Nat),e=.returned (.agg #[.int .i64 ex.kind,.int .i64 ex.num,.int .i64 ex.pick,.int .i64 ex.count,.slice none 0 0])∧Au [gs,gg] w w'∧EB w'.heap gs sv cs n1∧(n0≤n1∧n1≤n0+20)∧BX w'.heap gg [.pointer (some ⟨gs,0,none⟩),pp,.int .i64 l0,.bool pl]∧Ty ex∧ex.kids=[]∧OK p vars ex):=by
 refine Aq [.pointer (some ⟨gg,0,none⟩),.int .i64 vars] 28 Tryz.func196 Z Z sM ?_
 have bh:Au [gs,gg] w w:=Au.refl [gs,gg] w
 have hgl:=hs.lt
 have bi:=hB0.lt
 refine A0 (Ab _ [3] Z ?_)
 have bu:=hB0.lt
 refine Bo (z:=.agg #[.int .i64 0,.int .i64 0,.int .i64 0,.int .i64 0,.slice none 0 0]) Hw Aa fun w1 ad bv ae=>?_
 have bj:w.heap.size≤w1.heap.size:=ad.size
 have b4:Au [gs,gg] w w1:=bh.ext ad
 have a9:=hs.ext ad
 have a0:=hB0.ext ad
 replace ae:BX w1.heap w.heap.size [(.int .i64 0),(.int .i64 0),(.int .i64 0),(.int .i64 0),(.slice none 0 0)]:=ae
 refine Aj (A0 (A0 (Ab _ [0,0,0,0,0,0,2,4,0,0] Z (Ad 1 Z ?_))))
 by_cases b5:((0:Nat):Int)<vars
 ·refine BU true Z Z (A5 b5) Aa (Ad 2 Z (AY Z (Ae (e:=7) Z Z Z) (Ak (p:=(.pointer (some ⟨gg,0,none⟩))) (b:=gg) (o:=0) 0 Ep Z Z (Ae (e:=7) Z Z Z) (Ai (p:=(Ap (.pointer (some ⟨gg,0,none⟩)) 0)) (.inr Z) (.pointer (some ⟨gs,0,none⟩)) Id Z (a0.ldp (i:=0) sM) (Ae (e:=7) Z Z Z) ?_))))
  refine AA 122 [] [] [(.pointer (some ⟨gs,0,none⟩)),(.int .i64 ((4:Nat):Int))] Z Z Ms (Ae (e:=7) Z Z Z) (C8 _ gs _ _ _ (((4:Nat):Int)) a9 oM oM sD) ?_
  rintro e4 w4 ⟨x4_0,n4,rfl,af,b6,bw,b7⟩
  refine⟨_,rfl,?_⟩
  have bk:w1.heap.size≤w4.heap.size:=af.size
  have b8:Au [gs,gg] w w4:=b4.trans (af.sub FV)
  have ag:=a0.chg af (fun hm=>by have:=A9 hm;omega)
  have b9:=ae.chg af (fun hm=>by have:=A9 hm;omega)
  refine Bn (!x4_0) Z Z (Ae (e:=7) Z Z Z) (Ac 1 Z ?_)
  cases ba:(!x4_0)
  ·refine Ah (by first|rfl|(show Value.bool _=_;rw[ba])) (A2 (A0 (Ab _ [0,0,0,2,4,0,4] Z (Ad 1 Z (AY Z Aa (Ak (p:=(.pointer (some ⟨gg,0,none⟩))) (b:=gg) (o:=0) 0 Ep Z Z Aa (Ai (p:=(Ap (.pointer (some ⟨gg,0,none⟩)) 0)) (.inr Z) (.pointer (some ⟨gs,0,none⟩)) Id Z (ag.ldp (i:=0) sM) Aa (AA 152 [] [] [(.pointer (some ⟨gs,0,none⟩))] Z Z SX Aa (G0 _ gs _ _ _ b6 oM) ?_))))))))
   rintro e8 w8 ⟨x8_0,n8,rfl,ah,bl,bx,bb⟩
   refine⟨_,rfl,?_⟩
   have bm:w4.heap.size≤w8.heap.size:=ah.size
   have bn:Au [gs,gg] w w8:=b8.trans (ah.sub FV)
   have bo:=ag.chg ah (fun hm=>by have:=A9 hm;omega)
   have ai:=b9.chg ah (fun hm=>by have:=A9 hm;omega)
   have aa:∀(wq:World),(Instr.build 153 #[(0,(.int .i64 ((1:Nat):Int))),(1,(.int .i64 x8_0))]).run Tryz.prog wq=.ok (.agg #[(.int .i64 ((1:Nat):Int)),(.int .i64 x8_0),(.int .i64 0),(.int .i64 0),(.slice none 0 0)]) wq:=by intro wq;kernel_rfl
   refine C3 (ps:=#[(0,(.int .i64 ((1:Nat):Int))),(1,(.int .i64 x8_0))]) (.agg #[(.int .i64 ((1:Nat):Int)),(.int .i64 x8_0),(.int .i64 0),(.int .i64 0),(.slice none 0 0)]) Pd (fun wq=>aa  wq) Aa (Bz (vs:=[(.int .i64 ((1:Nat):Int)),(.int .i64 x8_0),(.int .i64 0),(.int .i64 0),(.slice none 0 0)]) B6 Z Z GW ai Z Z Aa fun w12 a1 bp a6=>?_)
   replace a6:BX w12.heap w.heap.size [(.int .i64 ((1:Nat):Int)),(.int .i64 x8_0),(.int .i64 0),(.int .i64 0),(.slice none 0 0)]:=a6
   have bc:w8.heap.size≤w12.heap.size:=a1.size
   have aj:Au [gs,gg] w w12:=bn.fresh a1 (fun c hc=>by have:=A9 hc;omega)
   have ak:=bl.chg a1 (fun c hc=>by have:=A9 hc;omega)
   have al:=bo.chg a1 (fun hm=>by have:=A9 hm;omega)
   exact Aj (A1 (CI (cs:=[(.int .i64 ((1:Nat):Int)),(.int .i64 x8_0),(.int .i64 0),(.int .i64 0),(.slice none 0 0)]) Z B6 Z a6 Z ⟨(.mk ((1:Nat):Int) x8_0 0 0 []),n8,rfl,aj,ak,⟨by omega,by omega⟩,al,(KT oM oM oM oM),rfl,Pe⟩))
  ·refine Ag (by first|rfl|(show Value.bool _=_;rw[ba])) (A0 (Ab _ [0,0,0,2,0,4,0,4] Z (Ad 1 Z (AY Z Aa (Ak (p:=(.pointer (some ⟨gg,0,none⟩))) (b:=gg) (o:=0) 0 Ep Z Z Aa (Ai (p:=(Ap (.pointer (some ⟨gg,0,none⟩)) 0)) (.inr Z) (.pointer (some ⟨gs,0,none⟩)) Id Z (ag.ldp (i:=0) sM) Aa (Ad 1 Z ?_)))))))
   refine AA 68 [] [] [(.pointer (some ⟨gs,0,none⟩)),(.int .i64 vars)] Z Z H8 Aa (AV _ gs _ _ _ (vars) b6 oM _hvars sD) ?_
   rintro e15 w15 ⟨x15_0,n15,rfl,a2,am,bq,an⟩
   refine⟨_,rfl,?_⟩
   have bd:w4.heap.size≤w15.heap.size:=a2.size
   have ao:Au [gs,gg] w w15:=b8.trans (a2.sub FV)
   have ap:=ag.chg a2 (fun hm=>by have:=A9 hm;omega)
   have aq:=b9.chg a2 (fun hm=>by have:=A9 hm;omega)
   have ab:∀(wq:World),(Instr.build 153 #[(0,(.int .i64 ((2:Nat):Int))),(1,(.int .i64 x15_0))]).run Tryz.prog wq=.ok (.agg #[(.int .i64 ((2:Nat):Int)),(.int .i64 x15_0),(.int .i64 0),(.int .i64 0),(.slice none 0 0)]) wq:=by intro wq;kernel_rfl
   refine C3 (ps:=#[(0,(.int .i64 ((2:Nat):Int))),(1,(.int .i64 x15_0))]) (.agg #[(.int .i64 ((2:Nat):Int)),(.int .i64 x15_0),(.int .i64 0),(.int .i64 0),(.slice none 0 0)]) Pd (fun wq=>ab  wq) Aa (Bz (vs:=[(.int .i64 ((2:Nat):Int)),(.int .i64 x15_0),(.int .i64 0),(.int .i64 0),(.slice none 0 0)]) B6 Z Z GW aq Z Z Aa fun w19 a3 br a7=>?_)
   replace a7:BX w19.heap w.heap.size [(.int .i64 ((2:Nat):Int)),(.int .i64 x15_0),(.int .i64 0),(.int .i64 0),(.slice none 0 0)]:=a7
   have be:w15.heap.size≤w19.heap.size:=a3.size
   have ar:Au [gs,gg] w w19:=ao.fresh a3 (fun c hc=>by have:=A9 hc;omega)
   have au:=am.chg a3 (fun c hc=>by have:=A9 hc;omega)
   have av:=ap.chg a3 (fun hm=>by have:=A9 hm;omega)
   exact Aj (A1 (Al (CI (cs:=[(.int .i64 ((2:Nat):Int)),(.int .i64 x15_0),(.int .i64 0),(.int .i64 0),(.slice none 0 0)]) Z B6 Z a7 Z ⟨(.mk ((2:Nat):Int) x15_0 0 0 []),n15,rfl,ar,au,⟨by omega,by omega⟩,av,(KT oM oM oM oM),rfl,Pe⟩)))
 ·refine BU false Z Z (A6 b5) Aa (Ac 8 Z (Ah Z (A2 (A0 (Ab _ [0,0,0,2,4,0,4] Z (Ad 1 Z (AY Z Aa (Ak (p:=(.pointer (some ⟨gg,0,none⟩))) (b:=gg) (o:=0) 0 Ep Z Z Aa (Ai (p:=(Ap (.pointer (some ⟨gg,0,none⟩)) 0)) (.inr Z) (.pointer (some ⟨gs,0,none⟩)) Id Z (a0.ldp (i:=0) sM) Aa (AA 152 [] [] [(.pointer (some ⟨gs,0,none⟩))] Z Z SX Aa (G0 _ gs _ _ _ a9 oM) ?_))))))))))
  rintro e22 w22 ⟨x22_0,n22,rfl,a4,aw,bs,ax⟩
  refine⟨_,rfl,?_⟩
  have bf:w1.heap.size≤w22.heap.size:=a4.size
  have ay:Au [gs,gg] w w22:=b4.trans (a4.sub FV)
  have az:=a0.chg a4 (fun hm=>by have:=A9 hm;omega)
  have b0:=ae.chg a4 (fun hm=>by have:=A9 hm;omega)
  have ac:∀(wq:World),(Instr.build 153 #[(0,(.int .i64 ((1:Nat):Int))),(1,(.int .i64 x22_0))]).run Tryz.prog wq=.ok (.agg #[(.int .i64 ((1:Nat):Int)),(.int .i64 x22_0),(.int .i64 0),(.int .i64 0),(.slice none 0 0)]) wq:=by intro wq;kernel_rfl
  refine C3 (ps:=#[(0,(.int .i64 ((1:Nat):Int))),(1,(.int .i64 x22_0))]) (.agg #[(.int .i64 ((1:Nat):Int)),(.int .i64 x22_0),(.int .i64 0),(.int .i64 0),(.slice none 0 0)]) Pd (fun wq=>ac  wq) Aa (Bz (vs:=[(.int .i64 ((1:Nat):Int)),(.int .i64 x22_0),(.int .i64 0),(.int .i64 0),(.slice none 0 0)]) B6 Z Z GW b0 Z Z Aa fun w26 a5 bt a8=>?_)
  replace a8:BX w26.heap w.heap.size [(.int .i64 ((1:Nat):Int)),(.int .i64 x22_0),(.int .i64 0),(.int .i64 0),(.slice none 0 0)]:=a8
  have bg:w22.heap.size≤w26.heap.size:=a5.size
  have b1:Au [gs,gg] w w26:=ay.fresh a5 (fun c hc=>by have:=A9 hc;omega)
  have b2:=aw.chg a5 (fun c hc=>by have:=A9 hc;omega)
  have b3:=az.chg a5 (fun hm=>by have:=A9 hm;omega)
  exact Aj (A1 (CI (cs:=[(.int .i64 ((1:Nat):Int)),(.int .i64 x22_0),(.int .i64 0),(.int .i64 0),(.slice none 0 0)]) Z B6 Z a8 Z ⟨(.mk ((1:Nat):Int) x22_0 0 0 []),n22,rfl,b1,b2,⟨by omega,by omega⟩,b3,(KT oM oM oM oM),rfl,Pe⟩))
theorem G5 {p:Prop}(h:p:=by first|(rw[ZY oM];rfl)|(rw[ZZ oM];rfl)|(rw[aA oM];rfl)|(rw[aB oM];rfl)|(rw[aC (by assumption) (by assumption) (by assumption) (by assumption) (by assumption) (by assumption) (by assumption) (by assumption) (by assumption)])):p:=h
theorem bV (w:World)(k:Int)(_hk:Bx k)  :
  Calls Tryz.prog 198 #[.int .i64 k] w (fun e w'=>e=.returned (.int .i64 (kn k))∧w'=w):=by
 refine Aq [.int .i64 k] 17 Tryz.func198 Z Z sM ?_
 have a0:w=w:=rfl
 refine A0 (Ab _ [0] Z (Ac 1 Z (A0 (A0 (Ab _ [0] Z (Ac 1 Z (A3 (A0 (A0 (Ab _ [0,0] Z ?_))))))))))
 by_cases a1:k=((1:Nat):Int)
 ·exact Am true Z Z (A5 a1) Aa (Ac 1 Z (Ag Z (A2 (Ag Z (A0 (Ab _ [0] Z (Ac 1 Z (A1 (AC (Al (Af [2] Z (.int .i64 ((0:Nat):Int)) Z ⟨G5,a0⟩)))))))))))
 ·refine Am false Z Z (A6 a1) Aa (Ac 1 Z (Ah Z (Ab _ [0,0] Z ?_)))
  by_cases a2:k=((2:Nat):Int)
  ·exact Am true Z Z (A5 a2) Aa (Ac 1 Z (Ag Z (A0 (Ab _ [0] Z (Ac 1 Z (A1 (AC (Al (Af [2] Z (.int .i64 ((0:Nat):Int)) Z ⟨G5,a0⟩)))))))))
  ·refine Am false Z Z (A6 a2) Aa (Ac 1 Z (Ah Z (A0 (A0 (Ab _ [0,0] Z ?_)))))
   by_cases a3:k=((3:Nat):Int)
   ·exact Am true Z Z (A5 a3) Aa (Ac 1 Z (Ag Z (A2 (Ag Z (A0 (Ab _ [0] Z (Ac 1 Z (A1 (AC (Al (Af [2] Z (.int .i64 ((2:Nat):Int)) Z ⟨G5,a0⟩)))))))))))
   ·refine Am false Z Z (A6 a3) Aa (Ac 1 Z (Ah Z (A0 (Ab _ [0,0] Z ?_))))
    by_cases a4:k=((4:Nat):Int)
    ·exact Am true Z Z (A5 a4) Aa (Ac 1 Z (Ag Z (A2 (Ag Z (A0 (Ab _ [0] Z (Ac 1 Z (A1 (AC (Al (Af [2] Z (.int .i64 ((2:Nat):Int)) Z ⟨G5,a0⟩)))))))))))
    ·refine Am false Z Z (A6 a4) Aa (Ac 1 Z (Ah Z (A0 (Ab _ [0,0] Z ?_))))
     by_cases a5:k=((5:Nat):Int)
     ·exact Am true Z Z (A5 a5) Aa (Ac 1 Z (Ag Z (A2 (Ag Z (A0 (Ab _ [0] Z (Ac 1 Z (A1 (AC (Al (Af [2] Z (.int .i64 ((2:Nat):Int)) Z ⟨G5,a0⟩)))))))))))
     ·refine Am false Z Z (A6 a5) Aa (Ac 1 Z (Ah Z (A0 (Ab _ [0,0] Z ?_))))
      by_cases a6:k=((6:Nat):Int)
      ·exact Am true Z Z (A5 a6) Aa (Ac 1 Z (Ag Z (A2 (Ag Z (A0 (Ab _ [0] Z (Ac 1 Z (A1 (AC (Al (Af [2] Z (.int .i64 ((2:Nat):Int)) Z ⟨G5,a0⟩)))))))))))
      ·refine Am false Z Z (A6 a6) Aa (Ac 1 Z (Ah Z (Ab _ [0,0] Z ?_)))
       by_cases a7:k=((9:Nat):Int)
       ·exact Am true Z Z (A5 a7) Aa (Ac 1 Z (Ag Z (A0 (Ab _ [0] Z (Ac 1 Z (A1 (AC (Al (Af [2] Z (.int .i64 ((2:Nat):Int)) Z ⟨G5,a0⟩)))))))))
       ·refine Am false Z Z (A6 a7) Aa (Ac 1 Z (Ah Z (A0 (Ab _ [0,0] Z ?_))))
        by_cases a8:k=((7:Nat):Int)
        ·exact Am true Z Z (A5 a8) Aa (Ac 1 Z (Ag Z (A0 (Ab _ [0] Z (Ac 1 Z (A1 (AC (Al (Af [2] Z (.int .i64 ((1:Nat):Int)) Z ⟨G5,a0⟩)))))))))
        ·refine Am false Z Z (A6 a8) Aa (Ac 1 Z (Ah Z (A0 (Ab _ [0,0] Z ?_))))
         by_cases a9:k=((8:Nat):Int)
         ·exact Am true Z Z (A5 a9) Aa (Ac 1 Z (Ag Z (A0 (Ab _ [0] Z (Ac 1 Z (A1 (AC (Al (Af [2] Z (.int .i64 ((3:Nat):Int)) Z ⟨G5,a0⟩)))))))))
         ·exact Am false Z Z (A6 a9) Aa (Ac 1 Z (Ah Z (A2 (A0 (Ab _ [0] Z (Ac 1 Z (A1 (Af [2] Z (.int .i64 (-1)) Z ⟨G5,a0⟩))))))))
def GX (d:Nat):Prop:=∀(w:World) (gg gs:Nat) (sv:Value) (cs:List UInt8) (n0:Nat) (pp:Value) (dp:Nat) (l0:Int) (pl:Bool) (p:List Fn) (vars funcs:Int) (hgg:gs<gg) (hs:EB w.heap gs sv cs n0) (hB0:BX w.heap gg [.pointer (some ⟨gs,0,none⟩),pp,.int .i64 l0,.bool pl]) (hp:RN [gs,gg] (rP (Ki dp)) w.heap pp p) (_hvars:Bx vars) (_hfuncs:Bx funcs) (hv:0≤vars∧vars+((d:Nat):Int)≤1000) (hfu:0≤funcs∧funcs≤((p.length:Nat):Int)) (hpr:Yb p) (hd:d≤8) (hn:n0+Hr d≤1000000000000) (hl:LP d-1000000≤l0∧l0≤1000),Calls Tryz.prog 124 #[.pointer (some ⟨gg,0,none⟩),.int .i64 vars,.int .i64 funcs,.int .i64 ((d:Nat):Int)] w (fun e w'=>∃(v:Value) (ex:Ex) (n1:Nat) (l1:Int),e=.returned (.agg #[.int .i64 ex.kind,.int .i64 ex.num,.int .i64 ex.pick,.int .i64 ex.count,v])∧Au [gs,gg] w w'∧EB w'.heap gs sv cs n1∧(n0≤n1∧n1≤n0+(Hr d))∧BX w'.heap gg [.pointer (some ⟨gs,0,none⟩),pp,.int .i64 l1,.bool pl]∧Fr (E4 5 (LM 153 d) 153) w.heap.size w'.heap.size w'.heap v ex.kids∧Ty ex∧Nn p funcs vars pl d l0 l1 ex)
def GC (d:Nat):Prop:=∀(w:World) (gg gs:Nat) (sv:Value) (cs:List UInt8) (n0:Nat) (pp:Value) (dp:Nat) (l0:Int) (pl:Bool) (p:List Fn) (vars funcs:Int) (hgg:gs<gg) (hs:EB w.heap gs sv cs n0) (hB0:BX w.heap gg [.pointer (some ⟨gs,0,none⟩),pp,.int .i64 l0,.bool pl]) (hp:RN [gs,gg] (rP (Ki dp)) w.heap pp p) (_hvars:Bx vars) (_hfuncs:Bx funcs) (hv:0≤vars∧vars+((d:Nat):Int)≤1000) (hfu:0≤funcs∧funcs≤((p.length:Nat):Int)) (hpr:Yb p) (hd:1≤d∧d≤8) (hn:n0+(20+4*Hr (d-1))≤1000000000000) (hl:1≤l0∧l0≤1000),Calls Tryz.prog 197 #[.pointer (some ⟨gg,0,none⟩),.int .i64 vars,.int .i64 funcs,.int .i64 ((d:Nat):Int)] w (fun e w'=>∃(v:Value) (ex:Ex) (n1:Nat) (l1:Int),e=.returned (.agg #[.int .i64 ex.kind,.int .i64 ex.num,.int .i64 ex.pick,.int .i64 ex.count,v])∧Au [gs,gg] w w'∧EB w'.heap gs sv cs n1∧(n0≤n1∧n1≤n0+(20+4*Hr (d-1)))∧BX w'.heap gg [.pointer (some ⟨gs,0,none⟩),pp,.int .i64 l1,.bool pl]∧Fr (E4 5 (LM 153 d) 153) w.heap.size w'.heap.size w'.heap v ex.kids∧Ty ex∧Nn p funcs vars pl d (l0+1) l1 ex)
theorem IS (w:World)(gg gs:Nat)(sv:Value)(cs:List UInt8)(n0:Nat)(pp:Value)(dp:Nat)(l0:Int)(pl:Bool)(p:List Fn)(vars:Int)(funcs:Int)(d:Nat)(hgg:gs<gg)(hs:EB w.heap gs sv cs n0)(hB0:BX w.heap gg [.pointer (some ⟨gs,0,none⟩),pp,.int .i64 l0,.bool pl])(hp:RN [gs,gg] (rP (Ki dp)) w.heap pp p)(_hvars:Bx vars)(_hfuncs:Bx funcs)(hv:0≤vars∧vars+((d:Nat):Int)≤1000)(hfu:0≤funcs∧funcs≤((p.length:Nat):Int))(hpr:Yb p)(hd:1≤d∧d≤8)(hn:n0+(20+4*Hr (d-1))≤1000000000000)(hl:1≤l0∧l0≤1000)(IH:GX (d-1)) :
  Calls Tryz.prog 197 #[.pointer (some ⟨gg,0,none⟩),.int .i64 vars,.int .i64 funcs,.int .i64 ((d:Nat):Int)] w (fun e w'=>∃(v:Value) (ex:Ex) (n1:Nat) (l1:Int),e=.returned (.agg #[.int .i64 ex.kind,.int .i64 ex.num,.int .i64 ex.pick,.int .i64 ex.count,v])∧Au [gs,gg] w w'∧EB w'.heap gs sv cs n1∧(n0≤n1∧n1≤n0+(20+4*Hr (d-1)))∧BX w'.heap gg [.pointer (some ⟨gs,0,none⟩),pp,.int .i64 l1,.bool pl]∧Fr (E4 5 (LM 153 d) 153) w.heap.size w'.heap.size w'.heap v ex.kids∧Ty ex∧Nn p funcs vars pl d (l0+1) l1 ex):=by
 refine Aq [.pointer (some ⟨gg,0,none⟩),.int .i64 vars,.int .i64 funcs,.int .i64 ((d:Nat):Int)] 89 Tryz.func197 Z Z sM ?_
 have dx:Au [gs,gg] w w:=Au.refl [gs,gg] w
 have hgl:=hs.lt
 have ei:=hB0.lt
 have hst:=OJ (d-1)
 have hnd:=HP (d-1)
 have hnl:=RK (d:=d-1) oM
 have hpl:=hpr.len
 refine A0 (Ab _ [3] Z ?_)
 have gh:=hB0.lt
 refine Bo (z:=.agg #[.int .i64 0,.int .i64 0,.int .i64 0,.int .i64 0,.slice none 0 0]) Hw Aa fun w1 bm ej ce=>?_
 have ch:w.heap.size≤w1.heap.size:=bm.size
 have cf:Au [gs,gg] w w1:=dx.ext bm
 have bn:=hs.ext bm
 have ap:=hB0.ext bm
 replace ce:BX w1.heap w.heap.size [(.int .i64 0),(.int .i64 0),(.int .i64 0),(.int .i64 0),(.slice none 0 0)]:=ce
 refine Aj (A0 (A0 (Ab _ [0,0] Z (Ad 1 Z ?_))))
 by_cases dy:funcs=((0:Nat):Int)
 ·refine Am true Z Z (A5 dy) Aa (Aj (Ag Z (A0 (Ab _ [0,0,4,4] Z (Ad 2 Z (AA 196 [] [] [(.pointer (some ⟨gg,0,none⟩)),(.int .i64 vars)] Z Z Qn Aa (CZ _ gg gs sv cs n0 pp dp l0 pl p (vars) oM bn ap (hp.chg (B5 (AU dp)) cf) _hvars oM oM) ?_))))))
  rintro e4 w4 ⟨x4,n4,rfl,ci,ek,gi,el,em,cj,gj⟩
  refine⟨_,rfl,?_⟩
  have en:w1.heap.size≤w4.heap.size:=ci.size
  have eo:Au [gs,gg] w w4:=cf.trans ci
  have ep:=ce.chg ci (fun hm=>by have:=CA hm;omega)
  refine Bz (vs:=[(.int .i64 x4.kind),(.int .i64 x4.num),(.int .i64 x4.pick),(.int .i64 x4.count),(.slice none 0 0)]) B6 Z Z GW ep Z Z Aa fun w6 cg gk ck=>?_
  replace ck:BX w6.heap w.heap.size [(.int .i64 x4.kind),(.int .i64 x4.num),(.int .i64 x4.pick),(.int .i64 x4.count),(.slice none 0 0)]:=ck
  have eq:w4.heap.size≤w6.heap.size:=cg.size
  have er:Au [gs,gg] w w6:=eo.fresh cg (fun c hc=>by have:=A9 hc;omega)
  have es:=ek.chg cg (fun c hc=>by have:=A9 hc;omega)
  have et:=el.chg cg (fun hm=>by have:=A9 hm;omega)
  exact Aj (A1 (Al (CI (cs:=[(.int .i64 x4.kind),(.int .i64 x4.num),(.int .i64 x4.pick),(.int .i64 x4.count),(.slice none 0 0)]) Z B6 Z ck Z ⟨(.slice none 0 0),x4,n4,l0,rfl,er,es,⟨by omega,by omega⟩,et,(by rw[cj];exact GE _ _ _),em,(by exact OK.okc (by assumption) d)⟩)))
 ·refine Am false Z Z (A6 dy) Aa (Aj (Ah Z (A2 (A0 (Ab _ [0,0,0,2,0,4,0,3,4] Z (Ad 1 Z (AY Z Aa (Ak (p:=(.pointer (some ⟨gg,0,none⟩))) (b:=gg) (o:=0) 0 Ep Z Z Aa (Ai (p:=(Ap (.pointer (some ⟨gg,0,none⟩)) 0)) (.inr Z) (.pointer (some ⟨gs,0,none⟩)) Id Z (ap.ldp (i:=0) sM) Aa (Ad 1 Z ?_))))))))))
  refine AA 68 [] [] [(.pointer (some ⟨gs,0,none⟩)),(.int .i64 funcs)] Z Z H8 Aa (AV _ gs _ _ _ (funcs) bn oM _hfuncs sD) ?_
  rintro e9 w9 ⟨x9_0,n9,rfl,bo,eu,gl,dz⟩
  refine⟨_,rfl,?_⟩
  have cl:w1.heap.size≤w9.heap.size:=bo.size
  have e0:Au [gs,gg] w w9:=cf.trans (bo.sub FV)
  have ba:=ap.chg bo (fun hm=>by have:=A9 hm;omega)
  have bb:=ce.chg bo (fun hm=>by have:=A9 hm;omega)
  have bp:∀(wq:World),(Instr.build 153 #[(0,(.int .i64 ((10:Nat):Int))),(1,(.int .i64 x9_0))]).run Tryz.prog wq=.ok (.agg #[(.int .i64 ((10:Nat):Int)),(.int .i64 x9_0),(.int .i64 0),(.int .i64 0),(.slice none 0 0)]) wq:=by intro wq;kernel_rfl
  refine C3 (ps:=#[(0,(.int .i64 ((10:Nat):Int))),(1,(.int .i64 x9_0))]) (.agg #[(.int .i64 ((10:Nat):Int)),(.int .i64 x9_0),(.int .i64 0),(.int .i64 0),(.slice none 0 0)]) (by simp only[List.map_toArray,List.map_cons,List.map_nil];rfl) (fun wq=>bp  wq) Aa ?_
  have ev:=ba.lt
  have ew:=bb.lt
  refine Bo (z:=.agg #[.int .i64 0,.int .i64 0,.int .i64 0,.int .i64 0,.slice none 0 0]) Hw Aa fun w13 ah cm bc=>?_
  have bq:w9.heap.size≤w13.heap.size:=ah.size
  have br:Au [gs,gg] w w13:=e0.ext ah
  have bd:=eu.ext ah
  have af:=ba.ext ah
  have ag:=bb.ext ah
  replace bc:BX w13.heap w9.heap.size [(.int .i64 0),(.int .i64 0),(.int .i64 0),(.int .i64 0),(.slice none 0 0)]:=bc
  refine Bz (vs:=[(.int .i64 ((10:Nat):Int)),(.int .i64 x9_0),(.int .i64 0),(.int .i64 0),(.slice none 0 0)]) B6 Z Z GW bc Z Z Aa fun w16 ai cn ay=>?_
  replace ay:BX w16.heap w9.heap.size [(.int .i64 ((10:Nat):Int)),(.int .i64 x9_0),(.int .i64 0),(.int .i64 0),(.slice none 0 0)]:=ay
  have bs:w13.heap.size≤w16.heap.size:=ai.size
  have aj:Au [gs,gg] w w16:=br.fresh ai (fun c hc=>by have:=A9 hc;omega)
  have bt:=bd.chg ai (fun c hc=>by have:=A9 hc;omega)
  have az:=af.chg ai (fun hm=>by have:=A9 hm;omega)
  have bu:=ag.chg ai (fun hm=>by have:=A9 hm;omega)
  refine Aj (A0 (AO _ [0,0,0,1,0,0,1,0,1,0,0] mixed (by kernel_rfl) (Ad 1 Z ?_)))
  have hxk:x9_0<funcs:=by omega
  refine AY Z Aa (Ak (p:=(.pointer (some ⟨gg,0,none⟩))) (b:=gg) (o:=0) 1 UA Z Z Aa (Ai (p:=(Ap (.pointer (some ⟨gg,0,none⟩)) 1)) (.inl Z) pp VI Z (az.ldp (i:=1) sM) Aa (AN (hp.isPtr) Z Aa ?_)))
  obtain⟨cs20,co,bv⟩:=RN.at (AU _) hp
  obtain⟨a0,rfl,a5⟩:=RPr.of co
  have b8:=a5.lenle
  unfold maxLen at b8
  refine AJ (p:=pp) 0 Bv Z (bv _ aj.drew) Aa (Ai (p:=(Ap pp 0)) (.inl Z) a0 BY Z ((bv _ aj.drew).ld (i:=0) (by simp[EX,EY])) Aa (Ak (p:=(.pointer (some ⟨w9.heap.size,0,none⟩))) (b:=w9.heap.size) (o:=0) 1 BE Z Z Aa (Ai (p:=(Ap (.pointer (some ⟨w9.heap.size,0,none⟩)) 1)) (.inl Z) (.int .i64 x9_0) AD Z (ay.ldp (i:=1) sM) Aa ?_)))
  refine AB (v:=a0) ((x9_0).toNat) Gb Cj Z Z a5.isSl oM sD Aa (Ac 1 Z (A0 (AO _ [0,0,0,1,0,0,0,1,0,4,0,4] mixed (by kernel_rfl) ?_)))
  have hou:=hpr.outs (x9_0).toNat oM
  have hpa:=hpr.par (x9_0).toNat oM
  refine Ad 1 Z (AY Z Aa (Ak (p:=(.pointer (some ⟨gg,0,none⟩))) (b:=gg) (o:=0) 0 Ep Z Z Aa (Ai (p:=(Ap (.pointer (some ⟨gg,0,none⟩)) 0)) (.inl Z) (.pointer (some ⟨gs,0,none⟩)) Id Z (az.ldp (i:=0) sM) Aa (Ad 1 Z (AN (RN.isPtr (RN.ptr (Av dp) (by decide) Fn.zero a5 sD)) Z Aa ?_)))))
  obtain⟨cs21,cp,a3⟩:=a5.get (Av dp) Fn.zero (k:=((x9_0).toNat)) sD
  obtain⟨b0,rfl,be⟩:=RF.of cp
  have b9:=be.rn.lenle
  unfold maxLen at b9
  refine AJ (p:=Ay a0 ((x9_0).toNat) 3) 2 BL Z (a3 _ aj.drew.drew) Aa (Ai (p:=(Ap (Ay a0 ((x9_0).toNat) 3) 2)) (.inl Z) b0 Bd Z ((a3 _ aj.drew.drew).ld (i:=2) (by simp[EX,EY])) Aa (AQ (v:=b0) D1 Z be.rn.isSl Aa ?_))
  refine AA 68 [] [] [(.pointer (some ⟨gs,0,none⟩)),(.int .i64 ((((p.getD ((x9_0).toNat) Fn.zero).outs).length:Nat):Int))] Z Z H8 Aa (AV _ gs _ _ _ (((((p.getD ((x9_0).toNat) Fn.zero).outs).length:Nat):Int)) bt oM oM sD) ?_
  rintro e22 w22 ⟨x22_0,n22,rfl,a2,cq,ey,cr⟩
  refine⟨_,rfl,?_⟩
  replace a2:=a2.of_drew
  replace a2:=a2.of_drew
  have bw:w16.heap.size≤w22.heap.size:=a2.size
  have bx:Au [gs,gg] w w22:=aj.trans (a2.sub FV)
  have bz:=az.chg a2 (fun hm=>by have:=A9 hm;omega)
  have c0:=bu.chg a2 (fun hm=>by have:=A9 hm;omega)
  have c1:=ay.chg a2 (fun hm=>by have:=A9 hm;omega)
  refine Ak (p:=(.pointer (some ⟨w9.heap.size,0,none⟩))) (b:=w9.heap.size) (o:=0) 2 Dc Z Z Aa (Be (k:=2) (w:=w22) Hv Z Z ⟨rfl,rfl⟩ c1 sM Aa fun w26 ak ct b1=>?_)
  replace b1:BX w26.heap w9.heap.size [(.int .i64 ((10:Nat):Int)),(.int .i64 x9_0),(.int .i64 x22_0),(.int .i64 0),(.slice none 0 0)]:=b1
  have c2:w22.heap.size≤w26.heap.size:=ak.size
  have a6:Au [gs,gg] w w26:=bx.fresh ak (fun c hc=>by have:=A9 hc;omega)
  have bf:=cq.chg ak (fun c hc=>by have:=A9 hc;omega)
  have b2:=bz.chg ak (fun hm=>by have:=A9 hm;omega)
  have bg:=c0.chg ak (fun hm=>by have:=A9 hm;omega)
  refine Aj ?_
  refine A0 (J1 (S:=Int×Int×Nat) (fun⟨k,cnt,m1⟩=>([(0,(.pointer (some ⟨gg,0,none⟩))),(1,(.int .i64 vars)),(2,(.int .i64 funcs)),(3,(.int .i64 ((d:Nat):Int))),(8,(.pointer (some ⟨w.heap.size,0,none⟩))),(9,(.pointer (some ⟨w9.heap.size,0,none⟩))),(10,(Ay a0 ((x9_0).toNat) 3))])) (fun⟨k,cnt,m1⟩ W=>Au [gs,gg] w W∧EB W.heap gs sv cs m1∧BX W.heap gg [(.pointer (some ⟨gs,0,none⟩)),pp,(.int .i64 l0),(.bool pl)]∧BX W.heap w.heap.size [(.int .i64 0),(.int .i64 0),(.int .i64 0),(.int .i64 0),(.slice none 0 0)]∧BX W.heap w9.heap.size [(.int .i64 k),(.int .i64 x9_0),(.int .i64 x22_0),(.int .i64 cnt),(.slice none 0 0)]∧((k=10∧cnt=0)∨(k=11∧(((p.getD (x9_0).toNat Fn.zero).outs.length:Nat):Int)=(p.getD (x9_0).toNat Fn.zero).params∧0≤cnt∧cnt≤8))∧(n0≤m1∧m1≤n0+8)) ?_ ?_)
  ·refine A0 (AO _ [0,0,0,1,0,0,0,0,1,0,0,0,0,0,1,4,0] mixed (by kernel_rfl) (Ad 1 Z (AN (RN.isPtr (RN.ptr (Av dp) (by decide) Fn.zero a5 sD)) Z Aa (AJ (p:=Ay a0 ((x9_0).toNat) 3) 2 BL Z (a3 _ a6.drew) Aa (Ai (p:=(Ap (Ay a0 ((x9_0).toNat) 3) 2)) (.inl Z) b0 Bd Z ((a3 _ a6.drew).ld (i:=2) (by simp[EX,EY])) Aa (AQ (v:=b0) D1 Z be.rn.isSl Aa ?_))))))
   refine Ad 1 Z (AN (RN.isPtr (RN.ptr (Av dp) (by decide) Fn.zero a5 sD)) Z Aa (AJ (p:=Ay a0 ((x9_0).toNat) 3) 1 C2 Z (a3 _ a6.drew) Aa (Ai (p:=(Ap (Ay a0 ((x9_0).toNat) 3) 1)) (.inl Z) (.int .i64 ((p.getD ((x9_0).toNat) Fn.zero).params)) AD Z ((a3 _ a6.drew).ld (i:=1) (by simp[EX,EY])) Aa ?_)))
   by_cases c3:((((p.getD ((x9_0).toNat) Fn.zero).outs).length:Nat):Int)=(p.getD ((x9_0).toNat) Fn.zero).params
   ·refine Am true Z Z (A5 c3) Aa (Ad 2 Z (AY Z (Ae (e:=55) Z Z Z) (Ak (p:=(.pointer (some ⟨gg,0,none⟩))) (b:=gg) (o:=0) 0 Ep Z Z (Ae (e:=55) Z Z Z) (Ai (p:=(Ap (.pointer (some ⟨gg,0,none⟩)) 0)) (.inl Z) (.pointer (some ⟨gs,0,none⟩)) Id Z (b2.ldp (i:=0) sM) (Ae (e:=55) Z Z Z) ?_))))
    refine AA 122 [] [] [(.pointer (some ⟨gs,0,none⟩)),(.int .i64 ((2:Nat):Int))] Z Z Ms (Ae (e:=55) Z Z Z) (C8 _ gs _ _ _ (((2:Nat):Int)) bf oM oM sD) ?_
    rintro e32 w32 ⟨x32_0,n32,rfl,a7,c4,ez,cu⟩
    refine⟨_,rfl,?_⟩
    replace a7:=a7.of_drew
    have e1:w26.heap.size≤w32.heap.size:=a7.size
    have c5:Au [gs,gg] w w32:=a6.trans (a7.sub FV)
    have c6:=b2.chg a7 (fun hm=>by have:=A9 hm;omega)
    have c7:=bg.chg a7 (fun hm=>by have:=A9 hm;omega)
    have c8:=b1.chg a7 (fun hm=>by have:=A9 hm;omega)
    refine Ac 1 Z ?_
    cases c9:x32_0
    ·exact Ah (by first|rfl|(show Value.bool _=_;rw[c9])) (A2 ⟨(((10:Nat):Int),0,n32),_,rfl,⟨rfl,rfl,rfl,rfl,rfl,rfl,rfl,trivial⟩,⟨c5,c4,c6,c7,c8,oM,oM⟩⟩)
    ·refine Ag (by first|rfl|(show Value.bool _=_;rw[c9])) (A0 (Ab _ [0,4] Z (Ak (p:=(.pointer (some ⟨w9.heap.size,0,none⟩))) (b:=w9.heap.size) (o:=0) 0 Bf Z Z Aa (Be (k:=0) (w:=w32) Hv Z Z ⟨rfl,rfl⟩ c8 sM Aa fun w37 aq g0 bh=>?_))))
     replace bh:BX w37.heap w9.heap.size [(.int .i64 ((11:Nat):Int)),(.int .i64 x9_0),(.int .i64 x22_0),(.int .i64 0),(.slice none 0 0)]:=bh
     have e2:w32.heap.size≤w37.heap.size:=aq.size
     have cv:Au [gs,gg] w w37:=c5.fresh aq (fun c hc=>by have:=A9 hc;omega)
     have cw:=c4.chg aq (fun c hc=>by have:=A9 hc;omega)
     have ca:=c6.chg aq (fun hm=>by have:=A9 hm;omega)
     have cx:=c7.chg aq (fun hm=>by have:=A9 hm;omega)
     refine Aj (Ab _ [0,0,0,2,4,0,4] Z (Ad 1 Z (AY Z Aa (Ak (p:=(.pointer (some ⟨gg,0,none⟩))) (b:=gg) (o:=0) 0 Ep Z Z Aa (Ai (p:=(Ap (.pointer (some ⟨gg,0,none⟩)) 0)) (.inr Z) (.pointer (some ⟨gs,0,none⟩)) Id Z (ca.ldp (i:=0) sM) Aa ?_)))))
     refine AA 68 [] [] [(.pointer (some ⟨gs,0,none⟩)),(.int .i64 ((4:Nat):Int))] Z Z H8 Aa (AV _ gs _ _ _ (((4:Nat):Int)) cw oM oM sD) ?_
     rintro e41 w41 ⟨x41_0,n41,rfl,ar,cy,g1,cz⟩
     refine⟨_,rfl,?_⟩
     have e3:w37.heap.size≤w41.heap.size:=ar.size
     have d0:Au [gs,gg] w w41:=cv.trans (ar.sub FV)
     have d1:=ca.chg ar (fun hm=>by have:=A9 hm;omega)
     have d2:=cx.chg ar (fun hm=>by have:=A9 hm;omega)
     have d3:=bh.chg ar (fun hm=>by have:=A9 hm;omega)
     refine Ak (p:=(.pointer (some ⟨w9.heap.size,0,none⟩))) (b:=w9.heap.size) (o:=0) 3 Du Z Z Aa (Be (k:=3) (w:=w41) Hv Z Z ⟨rfl,rfl⟩ d3 sM Aa fun w45 au g2 bi=>?_)
     replace bi:BX w45.heap w9.heap.size [(.int .i64 ((11:Nat):Int)),(.int .i64 x9_0),(.int .i64 x22_0),(.int .i64 x41_0),(.slice none 0 0)]:=bi
     have e5:w41.heap.size≤w45.heap.size:=au.size
     have d4:Au [gs,gg] w w45:=d0.fresh au (fun c hc=>by have:=A9 hc;omega)
     have d5:=cy.chg au (fun c hc=>by have:=A9 hc;omega)
     have d6:=d1.chg au (fun hm=>by have:=A9 hm;omega)
     have d7:=d2.chg au (fun hm=>by have:=A9 hm;omega)
     exact Aj ⟨(((11:Nat):Int),x41_0,n41),_,rfl,⟨rfl,rfl,rfl,rfl,rfl,rfl,rfl,trivial⟩,⟨d4,d5,d6,d7,bi,oM,oM⟩⟩
   ·exact Am false Z Z (A6 c3) Aa (Ac 7 Z (Ah Z (A2 ⟨(((10:Nat):Int),0,n22),_,rfl,⟨rfl,rfl,rfl,rfl,rfl,rfl,rfl,trivial⟩,⟨a6.drew,bf,b2,bg,b1,oM,oM⟩⟩)))
  ·clear dx ej bm ch cf bo cl e0 ba bb cm ah bq br af ag cn ai bs aj bt az bu b8 b9 a2 bw bx bz c0 c1 ct ak c2 a6 bf b2 bg
   rintro⟨k,cnt,m1⟩ ρ30 w30 ⟨cb,av,a8,a9,aa,hkc,gm⟩
   have e6:w.heap.size≤w30.heap.size:=cb.size
   have g3:=a8.lt
   have g4:=a9.lt
   have g5:=aa.lt
   refine A0 (A0 (Ab _ [0] Z (Ac 1 Z (A3 ?_))))
   refine B1 (S:=Nat×Int×Nat×Value×List Ex) (fun⟨i,l,m,vk,xs⟩=>([(11,(.int .i64 ((i:Nat):Int))),(0,(.pointer (some ⟨gg,0,none⟩))),(1,(.int .i64 vars)),(2,(.int .i64 funcs)),(3,(.int .i64 ((d:Nat):Int))),(8,(.pointer (some ⟨w.heap.size,0,none⟩))),(9,(.pointer (some ⟨w9.heap.size,0,none⟩))),(10,(Ay a0 ((x9_0).toNat) 3))])) (fun⟨i,l,m,vk,xs⟩ W=>Au [gs,gg] w W∧Fr (E4 5 (LM 153 d) 153) w30.heap.size W.heap.size W.heap vk xs∧EB W.heap gs sv cs m∧BX W.heap gg [(.pointer (some ⟨gs,0,none⟩)),pp,(.int .i64 l),(.bool pl)]∧BX W.heap w.heap.size [(.int .i64 0),(.int .i64 0),(.int .i64 0),(.int .i64 0),(.slice none 0 0)]∧BX W.heap w9.heap.size [(.int .i64 k),(.int .i64 x9_0),(.int .i64 x22_0),(.int .i64 cnt),vk]∧((i:Nat):Int)≤(p.getD (x9_0).toNat Fn.zero).params∧PL p funcs vars pl k d l0 l xs i∧(n0≤m∧m≤n0+8+QH i (Hr (d-1)))∧gg<w30.heap.size∧w.heap.size<w30.heap.size∧w9.heap.size<w30.heap.size∧w30.heap.size≤W.heap.size) (fun⟨i,l,m,vk,xs⟩=>(p.getD (x9_0).toNat Fn.zero).params.toNat-i) (0,l0,m1,(.slice none 0 0),([]:List Ex)) ⟨rfl,rfl,rfl,rfl,rfl,rfl,rfl,rfl,trivial⟩ ⟨cb,(GE _ 0 _).up (Ao (AS 153 d)),av,a8,a9,aa,oM,(by exact PL.nil ..),(by exact⟨by omega,by show _≤n0+8+0;omega⟩),oM,oM,oM,oM⟩ ?_
   clear aa a9 a8 av
   rintro⟨i,l,m,vk,xs⟩ ρ55 w55 ⟨al,ab,aw,ac,ad,a1,gn,hko,hmb,e7,e8,ea,eb⟩
   have ec:w.heap.size≤w55.heap.size:=al.size
   have g6:=ac.lt
   have g7:=ad.lt
   have g8:=a1.lt
   refine A0 (A0 (Ab _ [0,0,0,0,2,0] Z (Ad 2 Z (AN (RN.isPtr (RN.ptr (Av dp) (by decide) Fn.zero a5 sD)) Z Aa (AJ (p:=Ay a0 ((x9_0).toNat) 3) 1 C2 Z (a3 _ al) Aa (Ai (p:=(Ap (Ay a0 ((x9_0).toNat) 3) 1)) (.inr Z) (.int .i64 ((p.getD ((x9_0).toNat) Fn.zero).params)) AD Z ((a3 _ al).ld (i:=1) (by simp[EX,EY])) Aa ?_))))))
   by_cases cc:((i:Nat):Int)<(p.getD ((x9_0).toNat) Fn.zero).params
   ·refine AG true Z Z (A5 cc) Aa (Aj (Ag Z (A2 (A0 (A3 ?_)))))
    letI:JR:=QW [gs,gg]
    refine Jx.AO _ [0,1,0,0,0,0,0,3,3,4,0,4] mixed (by kernel_rfl) ?_
    have htn:=Mh (k:=Hr (d-1)) (i:=i+1) oM
    have hts:QH (i+1) (Hr (d-1))=QH i (Hr (d-1))+Hr (d-1):=rfl
    have hti:=NI (k:=LP (d-1)) (i:=i) oM oM
    have hlo:=hko.lo
    have hln:=hko.len
    refine Jx.Ak (p:=(.pointer (some ⟨w9.heap.size,0,none⟩))) (b:=w9.heap.size) (o:=0) 4 B9 Z Z Aa (Jx.ZQ (p:=(Ap (.pointer (some ⟨w9.heap.size,0,none⟩)) 4)) vk Bd Z (fun wj hj=>(BX.chg (w:=w55.drew) (F:=[gs,gg]) a1 hj (fun hm=>by have:=CA hm;omega)).ldp (i:=4) sM) Aa (Jx.VU (.pointer (some ⟨gg,0,none⟩)) Z Aa (Jx.VU (.int .i64 vars) Z Aa (Jx.VU (.int .i64 funcs) Z Aa (Jx.VU (.int .i64 ((d:Nat):Int)) Z Aa (Jx.j1 (Bs ((d-1:Nat):Int) Z Z (by rw[Da oM oM];omega) Aa (Aj ?_))))))))
    refine Jx.As 124 [] [] [(.pointer (some ⟨gg,0,none⟩)),(.int .i64 vars),(.int .i64 funcs),(.int .i64 ((d-1:Nat):Int))] Z Z Mu Aa (IH _ gg gs sv cs m pp dp l pl p (vars) (funcs) oM aw ac (hp.chg (B5 (AU dp)) al.drew) _hvars _hfuncs oM oM (by exact hpr) oM oM oM) ?_
    rintro e61 w61 ⟨v61,x61,n61,l61,rfl,a4,d8,g9,d9,bj,da,ga⟩
    refine⟨_,rfl,a4,?_⟩
    replace bj:=bj.low (B':=w55.heap.size) (A7 _)
    replace a4:=a4.of_drew
    have ed:w55.heap.size≤w61.heap.size:=a4.size
    have db:Au [gs,gg] w w61:=al.trans a4
    have dc:=ab.chg ((Ao (AS 153 d))) a4 (fun c hc=>by have:=CA hc;omega)
    have dd:=ad.chg a4 (fun hm=>by have:=CA hm;omega)
    have de:=a1.chg a4 (fun hm=>by have:=CA hm;omega)
    refine Jx.TS Z (EZ (cs:=[(.int .i64 x61.kind),(.int .i64 x61.num),(.int .i64 x61.pick),(.int .i64 x61.count),v61]) (y:=x61) (B:=w55.heap.size) (AS 153 d) D1 Bk Z (by decide) Z (MB.mk1 oM da bj) oM Aa fun v65 w65 ae gb df=>?_)
    have ee:w61.heap.size≤w65.heap.size:=ae.size
    have dg:Au [gs,gg] w w65:=db.ext ae
    have b3:=dc.ext ((Ao (AS 153 d))) ae
    have b4:=d8.ext ae
    have b5:=d9.ext ae
    have b6:=dd.ext ae
    have b7:=de.ext ae
    refine Is (v:=vk) (a:=v65) (AS 153 d) D1 Bk Z (by decide) Z Z b3 oM df oM oM oM (by unfold maxLen;omega) Aa fun v66 w66 F66 am ax cd=>?_
    have ef:w65.heap.size≤w66.heap.size:=am.size
    have dh:Au [gs,gg] w w66:=dg.fresh am (fun c hc=>by have:=ax _ hc;omega)
    have di:=b4.chg am (fun c hc=>by have:=ax _ hc;omega)
    have dj:=b5.chg am (fun hm=>by have:=ax _ hm;omega)
    have dk:=b6.chg am (fun hm=>by have:=ax _ hm;omega)
    have dl:=b7.chg am (fun hm=>by have:=ax _ hm;omega)
    refine Ak (p:=(.pointer (some ⟨w9.heap.size,0,none⟩))) (b:=w9.heap.size) (o:=0) 4 B9 Z Z Aa (Be (k:=4) (w:=w66) QS Z Z (Bp cd.isSlS) dl sM Aa fun w71 an gc bk=>?_)
    replace bk:BX w71.heap w9.heap.size [(.int .i64 k),(.int .i64 x9_0),(.int .i64 x22_0),(.int .i64 cnt),v66]:=bk
    have eg:w66.heap.size≤w71.heap.size:=an.size
    have dm:Au [gs,gg] w w71:=dh.fresh an (fun c hc=>by have:=A9 hc;omega)
    have dn:=di.chg an (fun c hc=>by have:=A9 hc;omega)
    have dq:=dj.chg an (fun hm=>by have:=A9 hm;omega)
    have dr:=dk.chg an (fun hm=>by have:=A9 hm;omega)
    have ds:=cd.chg ((Ao (AS 153 d))) an (fun c hc=>by have:=A9 hc;omega)
    exact Aj (Ab _ [0,0,0] Z (Ad 1 Z (AP ((i+1:Nat):Int) Z Z (Bl oM oM) Aa (Ac 1 Z ⟨((i+1),l61,n61,v66,(xs++[x61])),_,rfl,⟨rfl,rfl,rfl,rfl,rfl,rfl,rfl,rfl,trivial⟩,⟨dm,ds.up (Ao (AS 153 d)),dn,dq,dr,bk,oM,(by exact hko.snoc oM (by rw[if_neg oM]) (by assumption)),oM,oM,oM,oM,oM⟩,by first|omega|(dsimp only;omega)⟩))))
   ·refine AG false Z Z (A6 cc) Aa (Aj (Ah Z (A4 (Ax (Ax (At (A0 (Ab _ [2,4] Z (AK (p:=(.pointer (some ⟨w9.heap.size,0,none⟩))) (.inr Z) [(.int .i64 k),(.int .i64 x9_0),(.int .i64 x22_0),(.int .i64 cnt),vk] B6 Z (fun wq9 gd=>LD.of_box (BX.ext (w:=w55) a1 gd)) Z Aa (Bz (vs:=[(.int .i64 k),(.int .i64 x9_0),(.int .i64 x22_0),(.int .i64 cnt),vk]) B6 Z Z (by intro u hu;simp only[List.mem_cons,List.not_mem_nil,or_false]at hu;rcases hu with rfl|rfl|rfl|rfl|rfl <;> first|exact⟨rfl,rfl⟩|exact Bp ab.isSlS) ad Z Z Aa fun w76 ao ge bl=>?_))))))))))
    replace bl:BX w76.heap w.heap.size [(.int .i64 k),(.int .i64 x9_0),(.int .i64 x22_0),(.int .i64 cnt),vk]:=bl
    have eh:w55.heap.size≤w76.heap.size:=ao.size
    have dt:Au [gs,gg] w w76:=al.fresh ao (fun c hc=>by have:=A9 hc;omega)
    have du:=ab.chg ((Ao (AS 153 d))) ao (fun c hc=>by have:=A9 hc;omega)
    have dv:=aw.chg ao (fun c hc=>by have:=A9 hc;omega)
    have dw:=ac.chg ao (fun hm=>by have:=A9 hm;omega)
    have gf:=a1.chg ao (fun hm=>by have:=A9 hm;omega)
    refine Aj (A1 ?_)
    have hln:=hko.len
    have htn:=Mh (k:=Hr (d-1)) (i:=i) oM
    exact CI (cs:=[(.int .i64 k),(.int .i64 x9_0),(.int .i64 x22_0),(.int .i64 cnt),vk]) Z B6 Z bl Z ⟨vk,(.mk k x9_0 x22_0 cnt xs),m,l,rfl,dt,dv,⟨by omega,by omega⟩,dw,((du.up (Ao (AS 153 d))).low (B':=w.heap.size) oM),(KT oM oM oM oM),(by exact hko.node1 oM oM oM (fun _=>by omega) (Xi hkc oM oM oM))⟩
theorem Pf {p:Prop}(h:p:=by exact hko.snoc oM (by first|rw[if_pos oM]|rw[if_neg oM]) (by assumption)):p:=h
theorem Nl {p:Prop}(h:p:=by intro hpl;first|omega|(simp_all;omega)|simp_all):p:=h
theorem IT (w:World)(gg gs:Nat)(sv:Value)(cs:List UInt8)(n0:Nat)(pp:Value)(dp:Nat)(l0:Int)(pl:Bool)(p:List Fn)(vars:Int)(funcs:Int)(d:Nat)(hgg:gs<gg)(hs:EB w.heap gs sv cs n0)(hB0:BX w.heap gg [.pointer (some ⟨gs,0,none⟩),pp,.int .i64 l0,.bool pl])(hp:RN [gs,gg] (rP (Ki dp)) w.heap pp p)(_hvars:Bx vars)(_hfuncs:Bx funcs)(hv:0≤vars∧vars+((d:Nat):Int)≤1000)(hfu:0≤funcs∧funcs≤((p.length:Nat):Int))(hpr:Yb p)(hd:d≤8)(hn:n0+Hr d≤1000000000000)(hl:LP d-1000000≤l0∧l0≤1000)(IH1:∀d',d'<d→GX d')(IH2:1≤d→GC d) :
  Calls Tryz.prog 124 #[.pointer (some ⟨gg,0,none⟩),.int .i64 vars,.int .i64 funcs,.int .i64 ((d:Nat):Int)] w (fun e w'=>∃(v:Value) (ex:Ex) (n1:Nat) (l1:Int),e=.returned (.agg #[.int .i64 ex.kind,.int .i64 ex.num,.int .i64 ex.pick,.int .i64 ex.count,v])∧Au [gs,gg] w w'∧EB w'.heap gs sv cs n1∧(n0≤n1∧n1≤n0+(Hr d))∧BX w'.heap gg [.pointer (some ⟨gs,0,none⟩),pp,.int .i64 l1,.bool pl]∧Fr (E4 5 (LM 153 d) 153) w.heap.size w'.heap.size w'.heap v ex.kids∧Ty ex∧Nn p funcs vars pl d l0 l1 ex):=by
 refine Aq [.pointer (some ⟨gg,0,none⟩),.int .i64 vars,.int .i64 funcs,.int .i64 ((d:Nat):Int)] 117 Tryz.func124 Z Z sM ?_
 have l8:Au [gs,gg] w w:=Au.refl [gs,gg] w
 have hgl:=hs.lt
 have mj:=hB0.lt
 have hst:=OJ d
 have hnd:=HP d
 have hnl:=RK (d:=d) oM
 refine A0 (Ab _ [3] Z ?_)
 have nt:=hB0.lt
 refine Bo (z:=.agg #[.int .i64 0,.int .i64 0,.int .i64 0,.int .i64 0,.slice none 0 0]) Hw Aa fun w1 db ml ih=>?_
 have ii:w.heap.size≤w1.heap.size:=db.size
 have l9:Au [gs,gg] w w1:=l8.ext db
 have ij:=hs.ext db
 have ci:=hB0.ext db
 replace ih:BX w1.heap w.heap.size [(.int .i64 0),(.int .i64 0),(.int .i64 0),(.int .i64 0),(.slice none 0 0)]:=ih
 refine Aj (A0 (Ab _ [0,0,0,2,0,0,0,4] Z (Ad 1 Z (AY Z Aa (Ak (p:=(.pointer (some ⟨gg,0,none⟩))) (b:=gg) (o:=0) 2 N4 Z Z Aa (Ai (p:=(Ap (.pointer (some ⟨gg,0,none⟩)) 2)) (.inr Z) (.int .i64 l0) AD Z (ci.ldp (i:=2) sM) Aa ?_))))))
 refine Bs (l0-((1:Nat):Int)) Z Z (Da sD sD) Aa (AY Z Aa ?_)
 refine Ak (p:=(.pointer (some ⟨gg,0,none⟩))) (b:=gg) (o:=0) 2 N4 Z Z Aa (Be (k:=2) (w:=w1) Hv Z Z ⟨rfl,rfl⟩ ci sM Aa fun w3 dc mm cq=>?_)
 replace cq:BX w3.heap gg [(.pointer (some ⟨gs,0,none⟩)),pp,(.int .i64 (l0-((1:Nat):Int))),(.bool pl)]:=cq
 have ik:w1.heap.size≤w3.heap.size:=dc.size
 have da:Au [gs,gg] w w3:=l9.trans (dc.sub Xj)
 have id:=ij.chg dc (fun c hc=>by have:=A9 hc;omega)
 have ie:=ih.chg dc (fun hm=>by have:=A9 hm;omega)
 refine Aj (A0 (A0 (Ab _ [0,0,0,2,0,0,0,0,0,0,0,0,0,2,4,0] Z (Ad 1 Z (AY Z Aa (Ak (p:=(.pointer (some ⟨gg,0,none⟩))) (b:=gg) (o:=0) 2 N4 Z Z Aa (Ai (p:=(Ap (.pointer (some ⟨gg,0,none⟩)) 2)) (.inr Z) (.int .i64 (l0-((1:Nat):Int))) AD Z (cq.ldp (i:=2) sM) Aa ?_)))))))
 by_cases la:l0-((1:Nat):Int)<((1:Nat):Int)
 ·refine AG true Z Z (A5 la) Aa (Ac 11 Z (Ag Z (A0 (Ab _ [0,0,4,4] Z (Ad 2 Z (AA 196 [] [] [(.pointer (some ⟨gg,0,none⟩)),(.int .i64 vars)] Z Z Qn Aa (CZ _ gg gs sv cs n0 pp dp (l0-((1:Nat):Int)) pl p (vars) oM id cq (hp.chg (B5 (AU dp)) da) _hvars oM oM) ?_))))))
  rintro e7 w7 ⟨x7,n7,rfl,il,mn,nu,mo,mp,im,nv⟩
  refine⟨_,rfl,?_⟩
  have mq:w3.heap.size≤w7.heap.size:=il.size
  have mr:Au [gs,gg] w w7:=da.trans il
  have ms:=ie.chg il (fun hm=>by have:=CA hm;omega)
  refine Bz (vs:=[(.int .i64 x7.kind),(.int .i64 x7.num),(.int .i64 x7.pick),(.int .i64 x7.count),(.slice none 0 0)]) B6 Z Z GW ms Z Z Aa fun w9 ig nw io=>?_
  replace io:BX w9.heap w.heap.size [(.int .i64 x7.kind),(.int .i64 x7.num),(.int .i64 x7.pick),(.int .i64 x7.count),(.slice none 0 0)]:=io
  have mt:w7.heap.size≤w9.heap.size:=ig.size
  have mu:Au [gs,gg] w w9:=mr.fresh ig (fun c hc=>by have:=A9 hc;omega)
  have ip:=mn.chg ig (fun c hc=>by have:=A9 hc;omega)
  have iq:=mo.chg ig (fun hm=>by have:=A9 hm;omega)
  exact Aj (A1 (Al (CI (cs:=[(.int .i64 x7.kind),(.int .i64 x7.num),(.int .i64 x7.pick),(.int .i64 x7.count),(.slice none 0 0)]) Z B6 Z io Z ⟨(.slice none 0 0),x7,n7,(l0-((1:Nat):Int)),rfl,mu,ip,⟨by omega,by omega⟩,iq,(by rw[im];exact GE _ _ _),mp,(by exact OK.ok (by assumption) d)⟩)))
 ·refine AG false Z Z (A6 la) Aa (Ad 2 Z ?_)
  by_cases dd:((d:Nat):Int)<((1:Nat):Int)
  ·refine AG true Z Z (A5 dd) (Ae (e:=24) Z Z Z) (Ac 8 Z (Ag Z (A0 (Ab _ [0,0,4,4] Z (Ad 2 Z (AA 196 [] [] [(.pointer (some ⟨gg,0,none⟩)),(.int .i64 vars)] Z Z Qn Aa (CZ _ gg gs sv cs n0 pp dp (l0-((1:Nat):Int)) pl p (vars) oM id cq (hp.chg (B5 (AU dp)) da) _hvars oM oM) ?_))))))
   rintro e13 w13 ⟨x13,n13,rfl,cr,ir,mv,is,it,de,mw⟩
   refine⟨_,rfl,?_⟩
   have lb:w3.heap.size≤w13.heap.size:=cr.size
   have iu:Au [gs,gg] w w13:=da.trans cr
   have iv:=ie.chg cr (fun hm=>by have:=CA hm;omega)
   refine Bz (vs:=[(.int .i64 x13.kind),(.int .i64 x13.num),(.int .i64 x13.pick),(.int .i64 x13.count),(.slice none 0 0)]) B6 Z Z GW iv Z Z Aa fun w15 cc mx ct=>?_
   replace ct:BX w15.heap w.heap.size [(.int .i64 x13.kind),(.int .i64 x13.num),(.int .i64 x13.pick),(.int .i64 x13.count),(.slice none 0 0)]:=ct
   have lc:w13.heap.size≤w15.heap.size:=cc.size
   have iw:Au [gs,gg] w w15:=iu.fresh cc (fun c hc=>by have:=A9 hc;omega)
   have ix:=ir.chg cc (fun c hc=>by have:=A9 hc;omega)
   have iy:=is.chg cc (fun hm=>by have:=A9 hm;omega)
   exact Aj (A1 (Al (CI (cs:=[(.int .i64 x13.kind),(.int .i64 x13.num),(.int .i64 x13.pick),(.int .i64 x13.count),(.slice none 0 0)]) Z B6 Z ct Z ⟨(.slice none 0 0),x13,n13,(l0-((1:Nat):Int)),rfl,iw,ix,⟨by omega,by omega⟩,iy,(by rw[de];exact GE _ _ _),it,(by exact OK.ok (by assumption) d)⟩)))
  ·refine AG false Z Z (A6 dd) (Ae (e:=24) Z Z Z) (Ad 3 Z (AY Z (Ae (e:=28) Z Z Z) (Ak (p:=(.pointer (some ⟨gg,0,none⟩))) (b:=gg) (o:=0) 0 Ep Z Z (Ae (e:=28) Z Z Z) (Ai (p:=(Ap (.pointer (some ⟨gg,0,none⟩)) 0)) (.inr Z) (.pointer (some ⟨gs,0,none⟩)) Id Z (cq.ldp (i:=0) sM) (Ae (e:=28) Z Z Z) ?_))))
   refine AA 122 [] [] [(.pointer (some ⟨gs,0,none⟩)),(.int .i64 ((5:Nat):Int))] Z Z Ms (Ae (e:=28) Z Z Z) (C8 _ gs _ _ _ (((5:Nat):Int)) id oM oM sD) ?_
   rintro e18 w18 ⟨x18_0,n18,rfl,bn,df,my,iz⟩
   refine⟨_,rfl,?_⟩
   have dg:w3.heap.size≤w18.heap.size:=bn.size
   have cd:Au [gs,gg] w w18:=da.trans (bn.sub FV)
   have ce:=cq.chg bn (fun hm=>by have:=A9 hm;omega)
   have cf:=ie.chg bn (fun hm=>by have:=A9 hm;omega)
   refine Ac 1 Z ?_
   cases dh:x18_0
   ·refine Ah (by first|rfl|(show Value.bool _=_;rw[dh])) (A2 (A0 (Ab _ [0,3,4] Z ?_)))
    have hnds:=UV (d:=d) oM
    have hstp:=Ya (d:=d) oM
    have mz:=OJ (d-1)
    have n2:=HP (d-1)
    have di:∀(wq:World),(Instr.build 153 #[]).run Tryz.prog wq=.ok (.agg #[(.int .i64 0),(.int .i64 0),(.int .i64 0),(.int .i64 0),(.slice none 0 0)]) wq:=by intro wq;kernel_rfl
    refine C3 (ps:=#[]) (.agg #[(.int .i64 0),(.int .i64 0),(.int .i64 0),(.int .i64 0),(.slice none 0 0)]) (by simp only[List.map_toArray,List.map_cons,List.map_nil]) (fun wq=>di  wq) Aa ?_
    have n3:=ce.lt
    have n4:=cf.lt
    refine Bo (z:=.agg #[.int .i64 0,.int .i64 0,.int .i64 0,.int .i64 0,.slice none 0 0]) Hw Aa fun w23 b4 j0 cu=>?_
    have dj:w18.heap.size≤w23.heap.size:=b4.size
    have dk:Au [gs,gg] w w23:=cd.ext b4
    have cg:=df.ext b4
    have b1:=ce.ext b4
    have b2:=cf.ext b4
    replace cu:BX w23.heap w18.heap.size [(.int .i64 0),(.int .i64 0),(.int .i64 0),(.int .i64 0),(.slice none 0 0)]:=cu
    refine Bz (vs:=[(.int .i64 0),(.int .i64 0),(.int .i64 0),(.int .i64 0),(.slice none 0 0)]) B6 Z Z GW cu Z Z Aa fun w26 b5 j2 cv=>?_
    replace cv:BX w26.heap w18.heap.size [(.int .i64 0),(.int .i64 0),(.int .i64 0),(.int .i64 0),(.slice none 0 0)]:=cv
    have dl:w23.heap.size≤w26.heap.size:=b5.size
    have dm:Au [gs,gg] w w26:=dk.fresh b5 (fun c hc=>by have:=A9 hc;omega)
    have dn:=cg.chg b5 (fun c hc=>by have:=A9 hc;omega)
    have cw:=b1.chg b5 (fun hm=>by have:=A9 hm;omega)
    have dq:=b2.chg b5 (fun hm=>by have:=A9 hm;omega)
    refine Aj (A0 (J1 (S:=Int×Nat) (fun⟨k,m1⟩=>([(0,(.pointer (some ⟨gg,0,none⟩))),(1,(.int .i64 vars)),(2,(.int .i64 funcs)),(3,(.int .i64 ((d:Nat):Int))),(8,(.pointer (some ⟨w.heap.size,0,none⟩))),(9,(.pointer (some ⟨w18.heap.size,0,none⟩)))])) (fun⟨k,m1⟩ W=>Au [gs,gg] w W∧EB W.heap gs sv cs m1∧BX W.heap gg [(.pointer (some ⟨gs,0,none⟩)),pp,(.int .i64 (l0-((1:Nat):Int))),(.bool pl)]∧BX W.heap w.heap.size [(.int .i64 0),(.int .i64 0),(.int .i64 0),(.int .i64 0),(.slice none 0 0)]∧BX W.heap w18.heap.size [(.int .i64 k),(.int .i64 0),(.int .i64 0),(.int .i64 0),(.slice none 0 0)]∧(k=3∨k=4∨k=5∨k=6∨k=7∨k=8∨k=9)∧(n0≤m1∧m1≤n0+4)) ?_ ?_))
    ·refine A0 (Ab _ [0,0,0,2,4] Z (Ad 1 Z (AY Z Aa (Ak (p:=(.pointer (some ⟨gg,0,none⟩))) (b:=gg) (o:=0) 0 Ep Z Z Aa (Ai (p:=(Ap (.pointer (some ⟨gg,0,none⟩)) 0)) (.inr Z) (.pointer (some ⟨gs,0,none⟩)) Id Z (cw.ldp (i:=0) sM) Aa ?_)))))
     refine AA 68 [] [] [(.pointer (some ⟨gs,0,none⟩)),(.int .i64 ((12:Nat):Int))] Z Z H8 Aa (AV _ gs _ _ _ (((12:Nat):Int)) dn oM oM sD) ?_
     rintro e31 w31 ⟨x31_0,n31,rfl,bo,ad,n5,j3⟩
     refine⟨_,rfl,?_⟩
     have ld:w26.heap.size≤w31.heap.size:=bo.size
     have ab:Au [gs,gg] w w31:=dm.trans (bo.sub FV)
     have ae:=cw.chg bo (fun hm=>by have:=A9 hm;omega)
     have af:=dq.chg bo (fun hm=>by have:=A9 hm;omega)
     have ag:=cv.chg bo (fun hm=>by have:=A9 hm;omega)
     refine Aj (A3 (A0 (Ab _ [0,0] Z ?_)))
     by_cases dr:x31_0=((0:Nat):Int)
     ·refine Am true Z Z (A5 dr) Aa (Ac 1 Z (Ag Z (Ab _ [0,4] Z (Ak (p:=(.pointer (some ⟨w18.heap.size,0,none⟩))) (b:=w18.heap.size) (o:=0) 0 Bf Z Z Aa (Be (k:=0) (w:=w31) Hv Z Z ⟨rfl,rfl⟩ ag sM Aa fun w36 bp n6 cx=>?_)))))
      replace cx:BX w36.heap w18.heap.size [(.int .i64 ((7:Nat):Int)),(.int .i64 0),(.int .i64 0),(.int .i64 0),(.slice none 0 0)]:=cx
      have le:w31.heap.size≤w36.heap.size:=bp.size
      have j4:Au [gs,gg] w w36:=ab.fresh bp (fun c hc=>by have:=A9 hc;omega)
      have j5:=ad.chg bp (fun c hc=>by have:=A9 hc;omega)
      have j6:=ae.chg bp (fun hm=>by have:=A9 hm;omega)
      have j7:=af.chg bp (fun hm=>by have:=A9 hm;omega)
      exact Aj ⟨(((7:Nat):Int),n31),_,rfl,⟨rfl,rfl,rfl,rfl,rfl,rfl,trivial⟩,⟨j4,j5,j6,j7,cx,oM,oM⟩⟩
     ·refine Am false Z Z (A6 dr) Aa (Ac 1 Z (Ah Z (A0 (Ab _ [0,0] Z ?_))))
      by_cases ds:x31_0=((1:Nat):Int)
      ·refine Am true Z Z (A5 ds) Aa (Ac 1 Z (Ag Z (Ab _ [0,4] Z (Ak (p:=(.pointer (some ⟨w18.heap.size,0,none⟩))) (b:=w18.heap.size) (o:=0) 0 Bf Z Z Aa (Be (k:=0) (w:=w31) Hv Z Z ⟨rfl,rfl⟩ ag sM Aa fun w41 bq n8 cy=>?_)))))
       replace cy:BX w41.heap w18.heap.size [(.int .i64 ((9:Nat):Int)),(.int .i64 0),(.int .i64 0),(.int .i64 0),(.slice none 0 0)]:=cy
       have lf:w31.heap.size≤w41.heap.size:=bq.size
       have j8:Au [gs,gg] w w41:=ab.fresh bq (fun c hc=>by have:=A9 hc;omega)
       have j9:=ad.chg bq (fun c hc=>by have:=A9 hc;omega)
       have ja:=ae.chg bq (fun hm=>by have:=A9 hm;omega)
       have jb:=af.chg bq (fun hm=>by have:=A9 hm;omega)
       exact Aj ⟨(((9:Nat):Int),n31),_,rfl,⟨rfl,rfl,rfl,rfl,rfl,rfl,trivial⟩,⟨j8,j9,ja,jb,cy,oM,oM⟩⟩
      ·refine Am false Z Z (A6 ds) Aa (Ac 1 Z (Ah Z (A0 (Ab _ [0,0] Z ?_))))
       by_cases dt:x31_0=((2:Nat):Int)
       ·refine Am true Z Z (A5 dt) Aa (Ac 1 Z (Ag Z (Ab _ [0,4] Z (Ak (p:=(.pointer (some ⟨w18.heap.size,0,none⟩))) (b:=w18.heap.size) (o:=0) 0 Bf Z Z Aa (Be (k:=0) (w:=w31) Hv Z Z ⟨rfl,rfl⟩ ag sM Aa fun w46 br n9 cz=>?_)))))
        replace cz:BX w46.heap w18.heap.size [(.int .i64 ((8:Nat):Int)),(.int .i64 0),(.int .i64 0),(.int .i64 0),(.slice none 0 0)]:=cz
        have lg:w31.heap.size≤w46.heap.size:=br.size
        have jc:Au [gs,gg] w w46:=ab.fresh br (fun c hc=>by have:=A9 hc;omega)
        have jd:=ad.chg br (fun c hc=>by have:=A9 hc;omega)
        have je:=ae.chg br (fun hm=>by have:=A9 hm;omega)
        have jf:=af.chg br (fun hm=>by have:=A9 hm;omega)
        exact Aj ⟨(((8:Nat):Int),n31),_,rfl,⟨rfl,rfl,rfl,rfl,rfl,rfl,trivial⟩,⟨jc,jd,je,jf,cz,oM,oM⟩⟩
       ·refine Am false Z Z (A6 dt) Aa (Ac 1 Z (Ah Z (A0 (Ab _ [0,0] Z ?_))))
        by_cases du:x31_0=((3:Nat):Int)
        ·refine Am true Z Z (A5 du) Aa (Ac 1 Z (Ag Z (Ab _ [0,4] Z (Ak (p:=(.pointer (some ⟨w18.heap.size,0,none⟩))) (b:=w18.heap.size) (o:=0) 0 Bf Z Z Aa (Be (k:=0) (w:=w31) Hv Z Z ⟨rfl,rfl⟩ ag sM Aa fun w51 bs na d0=>?_)))))
         replace d0:BX w51.heap w18.heap.size [(.int .i64 ((6:Nat):Int)),(.int .i64 0),(.int .i64 0),(.int .i64 0),(.slice none 0 0)]:=d0
         have lh:w31.heap.size≤w51.heap.size:=bs.size
         have jg:Au [gs,gg] w w51:=ab.fresh bs (fun c hc=>by have:=A9 hc;omega)
         have jh:=ad.chg bs (fun c hc=>by have:=A9 hc;omega)
         have ji:=ae.chg bs (fun hm=>by have:=A9 hm;omega)
         have jj:=af.chg bs (fun hm=>by have:=A9 hm;omega)
         exact Aj ⟨(((6:Nat):Int),n31),_,rfl,⟨rfl,rfl,rfl,rfl,rfl,rfl,trivial⟩,⟨jg,jh,ji,jj,d0,oM,oM⟩⟩
        ·refine Am false Z Z (A6 du) Aa (Ac 1 Z (Ah Z (A0 (A0 (Ab _ [0,0] Z ?_)))))
         by_cases dv:x31_0=((4:Nat):Int)
         ·refine Am true Z Z (A5 dv) Aa (Ac 1 Z (Ag Z (A2 (Ag Z (Ab _ [0,4] Z (Ak (p:=(.pointer (some ⟨w18.heap.size,0,none⟩))) (b:=w18.heap.size) (o:=0) 0 Bf Z Z Aa (Be (k:=0) (w:=w31) Hv Z Z ⟨rfl,rfl⟩ ag sM Aa fun w56 bt nb d1=>?_)))))))
          replace d1:BX w56.heap w18.heap.size [(.int .i64 ((3:Nat):Int)),(.int .i64 0),(.int .i64 0),(.int .i64 0),(.slice none 0 0)]:=d1
          have li:w31.heap.size≤w56.heap.size:=bt.size
          have jk:Au [gs,gg] w w56:=ab.fresh bt (fun c hc=>by have:=A9 hc;omega)
          have jl:=ad.chg bt (fun c hc=>by have:=A9 hc;omega)
          have jm:=ae.chg bt (fun hm=>by have:=A9 hm;omega)
          have jn:=af.chg bt (fun hm=>by have:=A9 hm;omega)
          exact Aj ⟨(((3:Nat):Int),n31),_,rfl,⟨rfl,rfl,rfl,rfl,rfl,rfl,trivial⟩,⟨jk,jl,jm,jn,d1,oM,oM⟩⟩
         ·refine Am false Z Z (A6 dv) Aa (Ac 1 Z (Ah Z (Ab _ [0,0] Z ?_)))
          by_cases dw:x31_0=((5:Nat):Int)
          ·refine Am true Z Z (A5 dw) Aa (Ac 1 Z (Ag Z (Ab _ [0,4] Z (Ak (p:=(.pointer (some ⟨w18.heap.size,0,none⟩))) (b:=w18.heap.size) (o:=0) 0 Bf Z Z Aa (Be (k:=0) (w:=w31) Hv Z Z ⟨rfl,rfl⟩ ag sM Aa fun w61 bu nc d2=>?_)))))
           replace d2:BX w61.heap w18.heap.size [(.int .i64 ((3:Nat):Int)),(.int .i64 0),(.int .i64 0),(.int .i64 0),(.slice none 0 0)]:=d2
           have lj:w31.heap.size≤w61.heap.size:=bu.size
           have jo:Au [gs,gg] w w61:=ab.fresh bu (fun c hc=>by have:=A9 hc;omega)
           have jp:=ad.chg bu (fun c hc=>by have:=A9 hc;omega)
           have jq:=ae.chg bu (fun hm=>by have:=A9 hm;omega)
           have jr:=af.chg bu (fun hm=>by have:=A9 hm;omega)
           exact Aj ⟨(((3:Nat):Int),n31),_,rfl,⟨rfl,rfl,rfl,rfl,rfl,rfl,trivial⟩,⟨jo,jp,jq,jr,d2,oM,oM⟩⟩
          ·refine Am false Z Z (A6 dw) Aa (Ac 1 Z (Ah Z (A0 (Ab _ [0,0] Z ?_))))
           by_cases dx:x31_0=((6:Nat):Int)
           ·refine Am true Z Z (A5 dx) Aa (Ac 1 Z (Ag Z (Ab _ [0,4] Z (Ak (p:=(.pointer (some ⟨w18.heap.size,0,none⟩))) (b:=w18.heap.size) (o:=0) 0 Bf Z Z Aa (Be (k:=0) (w:=w31) Hv Z Z ⟨rfl,rfl⟩ ag sM Aa fun w66 bv nd d3=>?_)))))
            replace d3:BX w66.heap w18.heap.size [(.int .i64 ((4:Nat):Int)),(.int .i64 0),(.int .i64 0),(.int .i64 0),(.slice none 0 0)]:=d3
            have lk:w31.heap.size≤w66.heap.size:=bv.size
            have js:Au [gs,gg] w w66:=ab.fresh bv (fun c hc=>by have:=A9 hc;omega)
            have jt:=ad.chg bv (fun c hc=>by have:=A9 hc;omega)
            have ju:=ae.chg bv (fun hm=>by have:=A9 hm;omega)
            have jv:=af.chg bv (fun hm=>by have:=A9 hm;omega)
            exact Aj ⟨(((4:Nat):Int),n31),_,rfl,⟨rfl,rfl,rfl,rfl,rfl,rfl,trivial⟩,⟨js,jt,ju,jv,d3,oM,oM⟩⟩
           ·refine Am false Z Z (A6 dx) Aa (Ac 1 Z (Ah Z (A0 (A0 (Ab _ [0,0] Z ?_)))))
            by_cases dy:x31_0=((7:Nat):Int)
            ·refine Am true Z Z (A5 dy) Aa (Ac 1 Z (Ag Z (A2 (Ag Z (Ab _ [0,4] Z (Ak (p:=(.pointer (some ⟨w18.heap.size,0,none⟩))) (b:=w18.heap.size) (o:=0) 0 Bf Z Z Aa (Be (k:=0) (w:=w31) Hv Z Z ⟨rfl,rfl⟩ ag sM Aa fun w71 bw ne d4=>?_)))))))
             replace d4:BX w71.heap w18.heap.size [(.int .i64 ((5:Nat):Int)),(.int .i64 0),(.int .i64 0),(.int .i64 0),(.slice none 0 0)]:=d4
             have ll:w31.heap.size≤w71.heap.size:=bw.size
             have jw:Au [gs,gg] w w71:=ab.fresh bw (fun c hc=>by have:=A9 hc;omega)
             have jx:=ad.chg bw (fun c hc=>by have:=A9 hc;omega)
             have jy:=ae.chg bw (fun hm=>by have:=A9 hm;omega)
             have jz:=af.chg bw (fun hm=>by have:=A9 hm;omega)
             exact Aj ⟨(((5:Nat):Int),n31),_,rfl,⟨rfl,rfl,rfl,rfl,rfl,rfl,trivial⟩,⟨jw,jx,jy,jz,d4,oM,oM⟩⟩
            ·refine Am false Z Z (A6 dy) Aa (Ac 1 Z (Ah Z (A0 (Ab _ [0,0] Z ?_))))
             by_cases dz:x31_0=((8:Nat):Int)
             ·refine Am true Z Z (A5 dz) Aa (Ac 1 Z (Ag Z (A2 (Ag Z (Ab _ [0,4] Z (Ak (p:=(.pointer (some ⟨w18.heap.size,0,none⟩))) (b:=w18.heap.size) (o:=0) 0 Bf Z Z Aa (Be (k:=0) (w:=w31) Hv Z Z ⟨rfl,rfl⟩ ag sM Aa fun w76 bx nf d5=>?_)))))))
              replace d5:BX w76.heap w18.heap.size [(.int .i64 ((5:Nat):Int)),(.int .i64 0),(.int .i64 0),(.int .i64 0),(.slice none 0 0)]:=d5
              have lm:w31.heap.size≤w76.heap.size:=bx.size
              have k0:Au [gs,gg] w w76:=ab.fresh bx (fun c hc=>by have:=A9 hc;omega)
              have k1:=ad.chg bx (fun c hc=>by have:=A9 hc;omega)
              have k3:=ae.chg bx (fun hm=>by have:=A9 hm;omega)
              have k4:=af.chg bx (fun hm=>by have:=A9 hm;omega)
              exact Aj ⟨(((5:Nat):Int),n31),_,rfl,⟨rfl,rfl,rfl,rfl,rfl,rfl,trivial⟩,⟨k0,k1,k3,k4,d5,oM,oM⟩⟩
             ·refine Am false Z Z (A6 dz) Aa (Ac 1 Z (Ah Z (Ab _ [0,0] Z ?_)))
              by_cases e0:x31_0=((9:Nat):Int)
              ·refine Am true Z Z (A5 e0) Aa (Ac 1 Z (Ag Z (Ab _ [0,4] Z (Ak (p:=(.pointer (some ⟨w18.heap.size,0,none⟩))) (b:=w18.heap.size) (o:=0) 0 Bf Z Z Aa (Be (k:=0) (w:=w31) Hv Z Z ⟨rfl,rfl⟩ ag sM Aa fun w81 bz ng d6=>?_)))))
               replace d6:BX w81.heap w18.heap.size [(.int .i64 ((5:Nat):Int)),(.int .i64 0),(.int .i64 0),(.int .i64 0),(.slice none 0 0)]:=d6
               have ln:w31.heap.size≤w81.heap.size:=bz.size
               have k5:Au [gs,gg] w w81:=ab.fresh bz (fun c hc=>by have:=A9 hc;omega)
               have k6:=ad.chg bz (fun c hc=>by have:=A9 hc;omega)
               have k7:=ae.chg bz (fun hm=>by have:=A9 hm;omega)
               have k8:=af.chg bz (fun hm=>by have:=A9 hm;omega)
               exact Aj ⟨(((5:Nat):Int),n31),_,rfl,⟨rfl,rfl,rfl,rfl,rfl,rfl,trivial⟩,⟨k5,k6,k7,k8,d6,oM,oM⟩⟩
              ·refine Am false Z Z (A6 e0) Aa (Ac 1 Z (Ah Z (A0 (Ab _ [0,0,0,0,4,4] Z (Ad 4 Z (AA 197 [] [] [(.pointer (some ⟨gg,0,none⟩)),(.int .i64 vars),(.int .i64 funcs),(.int .i64 ((d:Nat):Int))] Z Z YZ Aa (IH2 oM _ gg gs sv cs n31 pp dp (l0-((1:Nat):Int)) pl p (vars) (funcs) oM ad ae (hp.chg (B5 (AU dp)) ab) _hvars _hfuncs oM oM (by exact hpr) oM oM oM) ?_))))))
               rintro e85 w85 ⟨v85,x85,n85,l85,rfl,ch,k9,nh,ka,e1,kb,ni⟩
               refine⟨_,rfl,?_⟩
               have lp:w31.heap.size≤w85.heap.size:=ch.size
               have kc:Au [gs,gg] w w85:=ab.trans ch
               have kd:=af.chg ch (fun hm=>by have:=CA hm;omega)
               have ke:=ag.chg ch (fun hm=>by have:=CA hm;omega)
               refine Bz (vs:=[(.int .i64 x85.kind),(.int .i64 x85.num),(.int .i64 x85.pick),(.int .i64 x85.count),v85]) B6 Z Z (by intro u hu;simp only[List.mem_cons,List.not_mem_nil,or_false]at hu;rcases hu with rfl|rfl|rfl|rfl|rfl <;> first|exact⟨rfl,rfl⟩|exact Bp e1.isSlS) kd Z Z Aa fun w88 b6 nj d7=>?_
               replace d7:BX w88.heap w.heap.size [(.int .i64 x85.kind),(.int .i64 x85.num),(.int .i64 x85.pick),(.int .i64 x85.count),v85]:=d7
               have lq:w85.heap.size≤w88.heap.size:=b6.size
               have kf:Au [gs,gg] w w88:=kc.fresh b6 (fun c hc=>by have:=A9 hc;omega)
               have kg:=k9.chg b6 (fun c hc=>by have:=A9 hc;omega)
               have kh:=ka.chg b6 (fun hm=>by have:=A9 hm;omega)
               have nk:=ke.chg b6 (fun hm=>by have:=A9 hm;omega)
               have ki:=e1.chg ((Ao (AS 153 d))) b6 (fun c hc=>by have:=A9 hc;omega)
               exact Aj (A1 (AC (Al (CI (cs:=[(.int .i64 x85.kind),(.int .i64 x85.num),(.int .i64 x85.pick),(.int .i64 x85.count),v85]) Z B6 Z d7 Z ⟨v85,x85,n85,l85,rfl,kf,kg,⟨by omega,by omega⟩,kh,((ki.up (Ao (AS 153 d))).low (B':=w.heap.size) oM),kb,(by exact Nn.up1 (by assumption))⟩))))
    ·clear l8 ml db ii l9 mm dc ik da id ie bn dg cd ce cf j0 b4 dj dk b1 b2 j2 b5 dl dm dn cw dq
     rintro⟨k,m1⟩ ρ30 w30 ⟨b7,ah,a2,a6,a1,hkk,nx⟩
     have e2:w.heap.size≤w30.heap.size:=b7.size
     have nl:=a2.lt
     have nm:=a6.lt
     have nn:=a1.lt
     refine A0 (J1 (S:=Int) (fun(k2:Int)=>([(0,(.pointer (some ⟨gg,0,none⟩))),(1,(.int .i64 vars)),(2,(.int .i64 funcs)),(3,(.int .i64 ((d:Nat):Int))),(8,(.pointer (some ⟨w.heap.size,0,none⟩))),(9,(.pointer (some ⟨w18.heap.size,0,none⟩)))])) (fun(k2:Int) (W:World)=>Au [gs,gg] w W∧EB W.heap gs sv cs m1∧BX W.heap gg [(.pointer (some ⟨gs,0,none⟩)),pp,(.int .i64 (l0-((1:Nat):Int))),(.bool pl)]∧BX W.heap w.heap.size [(.int .i64 0),(.int .i64 0),(.int .i64 0),(.int .i64 0),(.slice none 0 0)]∧BX W.heap w18.heap.size [(.int .i64 k2),(.int .i64 0),(.int .i64 0),(.int .i64 0),(.slice none 0 0)]∧(k2=3∨k2=4∨k2=5∨k2=6∨k2=7∨k2=8∨k2=9)∧(pl=true→k2≠6∧k2≠8)) ?_ ?_)
     ·refine A0 (Ab _ [0,0,0,2,0,0,2,0,0,0,2,0,0,0] Z (Ad 1 Z (AY Z Aa (Ak (p:=(.pointer (some ⟨gg,0,none⟩))) (b:=gg) (o:=0) 3 UB Z Z Aa (Ai (p:=(Ap (.pointer (some ⟨gg,0,none⟩)) 3)) (.inr Z) (.bool (true && pl)) bH Z (a2.ldp (i:=3) sM) Aa (Ad 1 Z ?_))))))
      cases no:(true && pl)
      ·exact Ac 9 Z (Ah Z (A2 ⟨k,_,rfl,⟨rfl,rfl,rfl,rfl,rfl,rfl,trivial⟩,⟨b7,ah,a2,a6,a1,oM,Nl⟩⟩))
      ·refine Ak (p:=(.pointer (some ⟨w18.heap.size,0,none⟩))) (b:=w18.heap.size) (o:=0) 0 Bf Z Z (Ae (e:=77) Z Z Z) (Ai (p:=(Ap (.pointer (some ⟨w18.heap.size,0,none⟩)) 0)) (.inr Z) (.int .i64 k) AD Z (a1.ldp (i:=0) sM) (Ae (e:=77) Z Z Z) ?_)
       by_cases e3:k=((8:Nat):Int)
       ·refine Am true Z Z (A5 e3) (Ae (e:=77) Z Z Z) (Ac 6 Z (Ag Z (Ab _ [0,4] Z (Ak (p:=(.pointer (some ⟨w18.heap.size,0,none⟩))) (b:=w18.heap.size) (o:=0) 0 Bf Z Z Aa (Be (k:=0) (w:=w30) Hv Z Z ⟨rfl,rfl⟩ a1 sM Aa fun w99 c0 np d8=>?_)))))
        replace d8:BX w99.heap w18.heap.size [(.int .i64 ((5:Nat):Int)),(.int .i64 0),(.int .i64 0),(.int .i64 0),(.slice none 0 0)]:=d8
        have lr:w30.heap.size≤w99.heap.size:=c0.size
        have kj:Au [gs,gg] w w99:=b7.fresh c0 (fun c hc=>by have:=A9 hc;omega)
        have e4:=ah.chg c0 (fun c hc=>by have:=A9 hc;omega)
        have e5:=a2.chg c0 (fun hm=>by have:=A9 hm;omega)
        have e6:=a6.chg c0 (fun hm=>by have:=A9 hm;omega)
        exact Aj ⟨((5:Nat):Int),_,rfl,⟨rfl,rfl,rfl,rfl,rfl,rfl,trivial⟩,⟨kj,e4,e5,e6,d8,oM,Nl⟩⟩
       ·refine Am false Z Z (A6 e3) (Ae (e:=77) Z Z Z) (Ad 1 Z (Ak (p:=(.pointer (some ⟨w18.heap.size,0,none⟩))) (b:=w18.heap.size) (o:=0) 0 Bf Z Z (Ae (e:=81) Z Z Z) (Ai (p:=(Ap (.pointer (some ⟨w18.heap.size,0,none⟩)) 0)) (.inr Z) (.int .i64 k) AD Z (a1.ldp (i:=0) sM) (Ae (e:=81) Z Z Z) ?_)))
        by_cases cj:k=((6:Nat):Int)
        ·refine Am true Z Z (A5 cj) (Ae (e:=81) Z Z Z) (Ac 2 Z (Ag Z (Ab _ [0,4] Z (Ak (p:=(.pointer (some ⟨w18.heap.size,0,none⟩))) (b:=w18.heap.size) (o:=0) 0 Bf Z Z Aa (Be (k:=0) (w:=w30) Hv Z Z ⟨rfl,rfl⟩ a1 sM Aa fun w104 au ls c1=>?_)))))
         replace c1:BX w104.heap w18.heap.size [(.int .i64 ((5:Nat):Int)),(.int .i64 0),(.int .i64 0),(.int .i64 0),(.slice none 0 0)]:=c1
         have kk:w30.heap.size≤w104.heap.size:=au.size
         have e8:Au [gs,gg] w w104:=b7.fresh au (fun c hc=>by have:=A9 hc;omega)
         have e9:=ah.chg au (fun c hc=>by have:=A9 hc;omega)
         have ea:=a2.chg au (fun hm=>by have:=A9 hm;omega)
         have eb:=a6.chg au (fun hm=>by have:=A9 hm;omega)
         exact Aj ⟨((5:Nat):Int),_,rfl,⟨rfl,rfl,rfl,rfl,rfl,rfl,trivial⟩,⟨e8,e9,ea,eb,c1,oM,Nl⟩⟩
        ·exact Am false Z Z (A6 cj) (Ae (e:=81) Z Z Z) (Ac 2 Z (Ah Z (A2 ⟨k,_,rfl,⟨rfl,rfl,rfl,rfl,rfl,rfl,trivial⟩,⟨b7,ah,a2,a6,a1,oM,Nl⟩⟩)))
     ·clear a1 a6 a2 ah b7 e2
      rintro k2 ρ96 w96 ⟨ec,c2,ay,az,b0,nq,nr⟩
      have lu:w.heap.size≤w96.heap.size:=ec.size
      have lv:=ay.lt
      have lw:=az.lt
      have lx:=b0.lt
      refine A0 (A0 (Ab _ [0] Z (Ac 1 Z (A3 ?_))))
      have hknb:=aE nq
      refine B1 (S:=Nat×Int×Nat×Value×List Ex) (fun⟨i,l,m,vk,xs⟩=>([(10,(.int .i64 ((i:Nat):Int))),(0,(.pointer (some ⟨gg,0,none⟩))),(1,(.int .i64 vars)),(2,(.int .i64 funcs)),(3,(.int .i64 ((d:Nat):Int))),(8,(.pointer (some ⟨w.heap.size,0,none⟩))),(9,(.pointer (some ⟨w18.heap.size,0,none⟩)))])) (fun⟨i,l,m,vk,xs⟩ W=>Au [gs,gg] w W∧Fr (E4 5 (LM 153 d) 153) w96.heap.size W.heap.size W.heap vk xs∧EB W.heap gs sv cs m∧BX W.heap gg [(.pointer (some ⟨gs,0,none⟩)),pp,(.int .i64 l),(.bool pl)]∧BX W.heap w.heap.size [(.int .i64 0),(.int .i64 0),(.int .i64 0),(.int .i64 0),(.slice none 0 0)]∧BX W.heap w18.heap.size [(.int .i64 k2),(.int .i64 0),(.int .i64 0),(.int .i64 0),vk]∧((i:Nat):Int)≤kn k2∧PL p funcs vars pl k2 d (l0-1) l xs i∧(n0≤m∧m≤n0+8+QH i (Hr (d-1)))∧gg<w96.heap.size∧w.heap.size<w96.heap.size∧w18.heap.size<w96.heap.size∧w96.heap.size≤W.heap.size) (fun⟨i,l,m,vk,xs⟩=>(kn k2).toNat-i) (0,(l0-((1:Nat):Int)),m1,(.slice none 0 0),([]:List Ex)) ⟨rfl,rfl,rfl,rfl,rfl,rfl,rfl,trivial⟩ ⟨ec,(GE _ 0 _).up (Ao (AS 153 d)),c2,ay,az,b0,oM,(by exact PL.nil ..),(by exact⟨by omega,by show _≤n0+8+0;omega⟩),oM,oM,oM,oM⟩ ?_
      clear b0 az ay c2
      rintro⟨i,l,m,vk,xs⟩ ρ114 w114 ⟨a7,a3,ac,a4,a5,a0,ny,hko,hmb,kl,km,ko,kp⟩
      have kq:w.heap.size≤w114.heap.size:=a7.size
      have ly:=a4.lt
      have lz:=a5.lt
      have m0:=a0.lt
      refine A0 (A0 (Ab _ [0,0,2,0,0] Z (Ad 1 Z (Ak (p:=(.pointer (some ⟨w18.heap.size,0,none⟩))) (b:=w18.heap.size) (o:=0) 0 Bf Z Z Aa (Ai (p:=(Ap (.pointer (some ⟨w18.heap.size,0,none⟩)) 0)) (.inr Z) (.int .i64 k2) AD Z (a0.ldp (i:=0) sM) Aa (Az 198 [] [] [(.int .i64 k2)] Z Z VA Aa (.int .i64 (kn k2)) (fun wq=>bV wq _ oM) ?_))))))
      by_cases ck:((i:Nat):Int)<kn k2
      ·refine AG true Z Z (A5 ck) Aa (Aj (Ag Z (A2 (A0 (A3 (A0 (Ab _ [0,0] Z (Ac 2 Z (A0 (A0 (Ab _ [0,2,0,0,0,0,0] Z (Ak (p:=(.pointer (some ⟨w18.heap.size,0,none⟩))) (b:=w18.heap.size) (o:=0) 0 Bf Z Z Aa (Ai (p:=(Ap (.pointer (some ⟨w18.heap.size,0,none⟩)) 0)) (.inr Z) (.int .i64 k2) AD Z (a0.ldp (i:=0) sM) Aa ?_)))))))))))))
       by_cases cl:k2=((9:Nat):Int)
       ·refine Am true Z Z (A5 cl) Aa (Ad 2 Z ?_)
        by_cases cm:((i:Nat):Int)=((1:Nat):Int)
        ·refine Am true Z Z (A5 cm) (Ae (e:=99) Z Z Z) (Ac 1 Z (Ag Z (Ab _ [0,0,0] Z (Ad 1 Z ?_))))
         refine AP (vars+((1:Nat):Int)) Z Z (Da sD sD) Aa (Ac 1 Z ?_)
         letI:JR:=QW [gs,gg]
         refine Jx.AO _ [0,1,0,0,0,0,0,3,3,4,0,4] mixed (by kernel_rfl) ?_
         have htn:=Mh (k:=Hr (d-1)) (i:=i+1) oM
         have hts:QH (i+1) (Hr (d-1))=QH i (Hr (d-1))+Hr (d-1):=rfl
         have hti:=NI (k:=LP (d-1)) (i:=i) oM oM
         have hlo:=hko.lo
         have hln:=hko.len
         refine Jx.Ak (p:=(.pointer (some ⟨w18.heap.size,0,none⟩))) (b:=w18.heap.size) (o:=0) 4 B9 Z Z Aa (Jx.ZQ (p:=(Ap (.pointer (some ⟨w18.heap.size,0,none⟩)) 4)) vk Bd Z (fun wj hj=>(BX.chg (w:=w114.drew) (F:=[gs,gg]) a0 hj (fun hm=>by have:=CA hm;omega)).ldp (i:=4) sM) Aa (Jx.VU (.pointer (some ⟨gg,0,none⟩)) Z Aa (Jx.VU (.int .i64 (vars+((1:Nat):Int))) Z Aa (Jx.VU (.int .i64 funcs) Z Aa (Jx.VU (.int .i64 ((d:Nat):Int)) Z Aa (Jx.j1 (Bs ((d-1:Nat):Int) Z Z (by rw[Da oM oM];omega) Aa (Aj ?_))))))))
         refine Jx.As 124 [] [] [(.pointer (some ⟨gg,0,none⟩)),(.int .i64 (vars+((1:Nat):Int))),(.int .i64 funcs),(.int .i64 ((d-1:Nat):Int))] Z Z Mu Aa (IH1 (d-1) oM _ gg gs sv cs m pp dp l pl p (vars+((1:Nat):Int)) (funcs) oM ac a4 (hp.chg (B5 (AU dp)) a7.drew) oM _hfuncs oM oM (by exact hpr) oM oM oM) ?_
         rintro e123 w123 ⟨v123,x123,n123,l123,rfl,a8,ed,m2,ee,c3,ef,m3⟩
         refine⟨_,rfl,a8,?_⟩
         replace c3:=c3.low (B':=w114.heap.size) (A7 _)
         replace a8:=a8.of_drew
         have kr:w114.heap.size≤w123.heap.size:=a8.size
         have eg:Au [gs,gg] w w123:=a7.trans a8
         have eh:=a3.chg ((Ao (AS 153 d))) a8 (fun c hc=>by have:=CA hc;omega)
         have ei:=a5.chg a8 (fun hm=>by have:=CA hm;omega)
         have ej:=a0.chg a8 (fun hm=>by have:=CA hm;omega)
         refine Jx.TS Z (EZ (cs:=[(.int .i64 x123.kind),(.int .i64 x123.num),(.int .i64 x123.pick),(.int .i64 x123.count),v123]) (y:=x123) (B:=w114.heap.size) (AS 153 d) D1 Bk Z (by decide) Z (MB.mk1 oM ef c3) oM Aa fun v127 w127 ai m4 ek=>?_)
         have ks:w123.heap.size≤w127.heap.size:=ai.size
         have el:Au [gs,gg] w w127:=eg.ext ai
         have b8:=eh.ext ((Ao (AS 153 d))) ai
         have b9:=ed.ext ai
         have ba:=ee.ext ai
         have bb:=ei.ext ai
         have bc:=ej.ext ai
         refine Is (v:=vk) (a:=v127) (AS 153 d) D1 Bk Z (by decide) Z Z b8 oM ek oM oM oM (by unfold maxLen;omega) Aa fun v128 w128 F128 al av cn=>?_
         have kt:w127.heap.size≤w128.heap.size:=al.size
         have em:Au [gs,gg] w w128:=el.fresh al (fun c hc=>by have:=av _ hc;omega)
         have en:=b9.chg al (fun c hc=>by have:=av _ hc;omega)
         have eo:=ba.chg al (fun hm=>by have:=av _ hm;omega)
         have ep:=bb.chg al (fun hm=>by have:=av _ hm;omega)
         have eq:=bc.chg al (fun hm=>by have:=av _ hm;omega)
         refine Ak (p:=(.pointer (some ⟨w18.heap.size,0,none⟩))) (b:=w18.heap.size) (o:=0) 4 B9 Z Z Aa (Be (k:=4) (w:=w128) QS Z Z (Bp cn.isSlS) eq sM Aa fun w133 am m5 c4=>?_)
         replace c4:BX w133.heap w18.heap.size [(.int .i64 k2),(.int .i64 0),(.int .i64 0),(.int .i64 0),v128]:=c4
         have ku:w128.heap.size≤w133.heap.size:=am.size
         have er:Au [gs,gg] w w133:=em.fresh am (fun c hc=>by have:=A9 hc;omega)
         have es:=en.chg am (fun c hc=>by have:=A9 hc;omega)
         have et:=eo.chg am (fun hm=>by have:=A9 hm;omega)
         have eu:=ep.chg am (fun hm=>by have:=A9 hm;omega)
         have ev:=cn.chg ((Ao (AS 153 d))) am (fun c hc=>by have:=A9 hc;omega)
         exact Aj (Ab _ [0,0,0] Z (Ad 1 Z (AP ((i+1:Nat):Int) Z Z (Bl oM oM) Aa (Ac 1 Z ⟨((i+1),l123,n123,v128,(xs++[x123])),_,rfl,⟨rfl,rfl,rfl,rfl,rfl,rfl,rfl,trivial⟩,⟨er,ev.up (Ao (AS 153 d)),es,et,eu,c4,oM,Pf,oM,oM,oM,oM,oM⟩,by first|omega|(dsimp only;omega)⟩))))
        ·refine Am false Z Z (A6 cm) (Ae (e:=99) Z Z Z) (Ac 1 Z (Ah Z (A2 ?_)))
         letI:JR:=QW [gs,gg]
         refine Jx.AO _ [0,1,0,0,0,0,0,3,3,4,0,4] mixed (by kernel_rfl) ?_
         have htn:=Mh (k:=Hr (d-1)) (i:=i+1) oM
         have hts:QH (i+1) (Hr (d-1))=QH i (Hr (d-1))+Hr (d-1):=rfl
         have hti:=NI (k:=LP (d-1)) (i:=i) oM oM
         have hlo:=hko.lo
         have hln:=hko.len
         refine Jx.Ak (p:=(.pointer (some ⟨w18.heap.size,0,none⟩))) (b:=w18.heap.size) (o:=0) 4 B9 Z Z Aa (Jx.ZQ (p:=(Ap (.pointer (some ⟨w18.heap.size,0,none⟩)) 4)) vk Bd Z (fun wj hj=>(BX.chg (w:=w114.drew) (F:=[gs,gg]) a0 hj (fun hm=>by have:=CA hm;omega)).ldp (i:=4) sM) Aa (Jx.VU (.pointer (some ⟨gg,0,none⟩)) Z Aa (Jx.VU (.int .i64 vars) Z Aa (Jx.VU (.int .i64 funcs) Z Aa (Jx.VU (.int .i64 ((d:Nat):Int)) Z Aa (Jx.j1 (Bs ((d-1:Nat):Int) Z Z (by rw[Da oM oM];omega) Aa (Aj ?_))))))))
         refine Jx.As 124 [] [] [(.pointer (some ⟨gg,0,none⟩)),(.int .i64 vars),(.int .i64 funcs),(.int .i64 ((d-1:Nat):Int))] Z Z Mu Aa (IH1 (d-1) oM _ gg gs sv cs m pp dp l pl p (vars) (funcs) oM ac a4 (hp.chg (B5 (AU dp)) a7.drew) _hvars _hfuncs oM oM (by exact hpr) oM oM oM) ?_
         rintro e138 w138 ⟨v138,x138,n138,l138,rfl,a9,ew,m6,ey,c5,ez,m7⟩
         refine⟨_,rfl,a9,?_⟩
         replace c5:=c5.low (B':=w114.heap.size) (A7 _)
         replace a9:=a9.of_drew
         have kv:w114.heap.size≤w138.heap.size:=a9.size
         have g0:Au [gs,gg] w w138:=a7.trans a9
         have g1:=a3.chg ((Ao (AS 153 d))) a9 (fun c hc=>by have:=CA hc;omega)
         have g2:=a5.chg a9 (fun hm=>by have:=CA hm;omega)
         have g3:=a0.chg a9 (fun hm=>by have:=CA hm;omega)
         refine Jx.TS Z (EZ (cs:=[(.int .i64 x138.kind),(.int .i64 x138.num),(.int .i64 x138.pick),(.int .i64 x138.count),v138]) (y:=x138) (B:=w114.heap.size) (AS 153 d) D1 Bk Z (by decide) Z (MB.mk1 oM ez c5) oM Aa fun v142 w142 aj m8 g4=>?_)
         have kw:w138.heap.size≤w142.heap.size:=aj.size
         have g5:Au [gs,gg] w w142:=g0.ext aj
         have bd:=g1.ext ((Ao (AS 153 d))) aj
         have be:=ew.ext aj
         have bf:=ey.ext aj
         have bg:=g2.ext aj
         have bh:=g3.ext aj
         refine Is (v:=vk) (a:=v142) (AS 153 d) D1 Bk Z (by decide) Z Z bd oM g4 oM oM oM (by unfold maxLen;omega) Aa fun v143 w143 F143 an aw co=>?_
         have kx:w142.heap.size≤w143.heap.size:=an.size
         have g6:Au [gs,gg] w w143:=g5.fresh an (fun c hc=>by have:=aw _ hc;omega)
         have g7:=be.chg an (fun c hc=>by have:=aw _ hc;omega)
         have g8:=bf.chg an (fun hm=>by have:=aw _ hm;omega)
         have g9:=bg.chg an (fun hm=>by have:=aw _ hm;omega)
         have ga:=bh.chg an (fun hm=>by have:=aw _ hm;omega)
         refine Ak (p:=(.pointer (some ⟨w18.heap.size,0,none⟩))) (b:=w18.heap.size) (o:=0) 4 B9 Z Z Aa (Be (k:=4) (w:=w143) QS Z Z (Bp co.isSlS) ga sM Aa fun w148 ao m9 c6=>?_)
         replace c6:BX w148.heap w18.heap.size [(.int .i64 k2),(.int .i64 0),(.int .i64 0),(.int .i64 0),v143]:=c6
         have ky:w143.heap.size≤w148.heap.size:=ao.size
         have gb:Au [gs,gg] w w148:=g6.fresh ao (fun c hc=>by have:=A9 hc;omega)
         have gc:=g7.chg ao (fun c hc=>by have:=A9 hc;omega)
         have gd:=g8.chg ao (fun hm=>by have:=A9 hm;omega)
         have ge:=g9.chg ao (fun hm=>by have:=A9 hm;omega)
         have gf:=co.chg ((Ao (AS 153 d))) ao (fun c hc=>by have:=A9 hc;omega)
         exact Aj (Ab _ [0,0,0] Z (Ad 1 Z (AP ((i+1:Nat):Int) Z Z (Bl oM oM) Aa (Ac 1 Z ⟨((i+1),l138,n138,v143,(xs++[x138])),_,rfl,⟨rfl,rfl,rfl,rfl,rfl,rfl,rfl,trivial⟩,⟨gb,gf.up (Ao (AS 153 d)),gc,gd,ge,c6,oM,Pf,oM,oM,oM,oM,oM⟩,by first|omega|(dsimp only;omega)⟩))))
       ·refine Am false Z Z (A6 cl) Aa (Ac 4 Z (Ah Z (A2 ?_)))
        letI:JR:=QW [gs,gg]
        refine Jx.AO _ [0,1,0,0,0,0,0,3,3,4,0,4] mixed (by kernel_rfl) ?_
        have htn:=Mh (k:=Hr (d-1)) (i:=i+1) oM
        have hts:QH (i+1) (Hr (d-1))=QH i (Hr (d-1))+Hr (d-1):=rfl
        have hti:=NI (k:=LP (d-1)) (i:=i) oM oM
        have hlo:=hko.lo
        have hln:=hko.len
        refine Jx.Ak (p:=(.pointer (some ⟨w18.heap.size,0,none⟩))) (b:=w18.heap.size) (o:=0) 4 B9 Z Z Aa (Jx.ZQ (p:=(Ap (.pointer (some ⟨w18.heap.size,0,none⟩)) 4)) vk Bd Z (fun wj hj=>(BX.chg (w:=w114.drew) (F:=[gs,gg]) a0 hj (fun hm=>by have:=CA hm;omega)).ldp (i:=4) sM) Aa (Jx.VU (.pointer (some ⟨gg,0,none⟩)) Z Aa (Jx.VU (.int .i64 vars) Z Aa (Jx.VU (.int .i64 funcs) Z Aa (Jx.VU (.int .i64 ((d:Nat):Int)) Z Aa (Jx.j1 (Bs ((d-1:Nat):Int) Z Z (by rw[Da oM oM];omega) Aa (Aj ?_))))))))
        refine Jx.As 124 [] [] [(.pointer (some ⟨gg,0,none⟩)),(.int .i64 vars),(.int .i64 funcs),(.int .i64 ((d-1:Nat):Int))] Z Z Mu Aa (IH1 (d-1) oM _ gg gs sv cs m pp dp l pl p (vars) (funcs) oM ac a4 (hp.chg (B5 (AU dp)) a7.drew) _hvars _hfuncs oM oM (by exact hpr) oM oM oM) ?_
        rintro e153 w153 ⟨v153,x153,n153,l153,rfl,aa,gh,ma,gi,c7,gj,mb⟩
        refine⟨_,rfl,aa,?_⟩
        replace c7:=c7.low (B':=w114.heap.size) (A7 _)
        replace aa:=aa.of_drew
        have kz:w114.heap.size≤w153.heap.size:=aa.size
        have gk:Au [gs,gg] w w153:=a7.trans aa
        have gl:=a3.chg ((Ao (AS 153 d))) aa (fun c hc=>by have:=CA hc;omega)
        have gm:=a5.chg aa (fun hm=>by have:=CA hm;omega)
        have gn:=a0.chg aa (fun hm=>by have:=CA hm;omega)
        refine Jx.TS Z (EZ (cs:=[(.int .i64 x153.kind),(.int .i64 x153.num),(.int .i64 x153.pick),(.int .i64 x153.count),v153]) (y:=x153) (B:=w114.heap.size) (AS 153 d) D1 Bk Z (by decide) Z (MB.mk1 oM gj c7) oM Aa fun v157 w157 ak mc go=>?_)
        have l2:w153.heap.size≤w157.heap.size:=ak.size
        have gp:Au [gs,gg] w w157:=gk.ext ak
        have bi:=gl.ext ((Ao (AS 153 d))) ak
        have bj:=gh.ext ak
        have bk:=gi.ext ak
        have bl:=gm.ext ak
        have bm:=gn.ext ak
        refine Is (v:=vk) (a:=v157) (AS 153 d) D1 Bk Z (by decide) Z Z bi oM go oM oM oM (by unfold maxLen;omega) Aa fun v158 w158 F158 ap ax cp=>?_
        have l3:w157.heap.size≤w158.heap.size:=ap.size
        have gq:Au [gs,gg] w w158:=gp.fresh ap (fun c hc=>by have:=ax _ hc;omega)
        have gr:=bj.chg ap (fun c hc=>by have:=ax _ hc;omega)
        have gt:=bk.chg ap (fun hm=>by have:=ax _ hm;omega)
        have gu:=bl.chg ap (fun hm=>by have:=ax _ hm;omega)
        have gv:=bm.chg ap (fun hm=>by have:=ax _ hm;omega)
        refine Ak (p:=(.pointer (some ⟨w18.heap.size,0,none⟩))) (b:=w18.heap.size) (o:=0) 4 B9 Z Z Aa (Be (k:=4) (w:=w158) QS Z Z (Bp cp.isSlS) gv sM Aa fun w163 aq md c8=>?_)
        replace c8:BX w163.heap w18.heap.size [(.int .i64 k2),(.int .i64 0),(.int .i64 0),(.int .i64 0),v158]:=c8
        have l4:w158.heap.size≤w163.heap.size:=aq.size
        have gw:Au [gs,gg] w w163:=gq.fresh aq (fun c hc=>by have:=A9 hc;omega)
        have gx:=gr.chg aq (fun c hc=>by have:=A9 hc;omega)
        have gy:=gt.chg aq (fun hm=>by have:=A9 hm;omega)
        have gz:=gu.chg aq (fun hm=>by have:=A9 hm;omega)
        have i0:=cp.chg ((Ao (AS 153 d))) aq (fun c hc=>by have:=A9 hc;omega)
        exact Aj (Ab _ [0,0,0] Z (Ad 1 Z (AP ((i+1:Nat):Int) Z Z (Bl oM oM) Aa (Ac 1 Z ⟨((i+1),l153,n153,v158,(xs++[x153])),_,rfl,⟨rfl,rfl,rfl,rfl,rfl,rfl,rfl,trivial⟩,⟨gw,i0.up (Ao (AS 153 d)),gx,gy,gz,c8,oM,Pf,oM,oM,oM,oM,oM⟩,by first|omega|(dsimp only;omega)⟩))))
      ·refine AG false Z Z (A6 ck) Aa (Aj (Ah Z (A4 (Ax (Ax (At (A0 (Ab _ [2,4] Z (AK (p:=(.pointer (some ⟨w18.heap.size,0,none⟩))) (.inr Z) [(.int .i64 k2),(.int .i64 0),(.int .i64 0),(.int .i64 0),vk] B6 Z (fun wq9 ns=>LD.of_box (BX.ext (w:=w114) a0 ns)) Z Aa (Bz (vs:=[(.int .i64 k2),(.int .i64 0),(.int .i64 0),(.int .i64 0),vk]) B6 Z Z (by intro u hu;simp only[List.mem_cons,List.not_mem_nil,or_false]at hu;rcases hu with rfl|rfl|rfl|rfl|rfl <;> first|exact⟨rfl,rfl⟩|exact Bp a3.isSlS) a5 Z Z Aa fun w168 ar me c9=>?_))))))))))
       replace c9:BX w168.heap w.heap.size [(.int .i64 k2),(.int .i64 0),(.int .i64 0),(.int .i64 0),vk]:=c9
       have l5:w114.heap.size≤w168.heap.size:=ar.size
       have i1:Au [gs,gg] w w168:=a7.fresh ar (fun c hc=>by have:=A9 hc;omega)
       have i2:=a3.chg ((Ao (AS 153 d))) ar (fun c hc=>by have:=A9 hc;omega)
       have i3:=ac.chg ar (fun c hc=>by have:=A9 hc;omega)
       have i4:=a4.chg ar (fun hm=>by have:=A9 hm;omega)
       have mf:=a0.chg ar (fun hm=>by have:=A9 hm;omega)
       refine Aj (A1 ?_)
       have hln:=hko.len
       have htn:=Mh (k:=Hr (d-1)) (i:=i) oM
       exact CI (cs:=[(.int .i64 k2),(.int .i64 0),(.int .i64 0),(.int .i64 0),vk]) Z B6 Z c9 Z ⟨vk,(.mk k2 0 0 0 xs),m,l,rfl,i1,i3,⟨by omega,by omega⟩,i4,((i2.up (Ao (AS 153 d))).low (B':=w.heap.size) oM),(KT oM oM oM oM),(by exact hko.node oM oM oM nr (Xh oM oM))⟩
   ·refine Ag (by first|rfl|(show Value.bool _=_;rw[dh])) (A0 (Ab _ [0,0,4,4] Z (Ad 2 Z (AA 196 [] [] [(.pointer (some ⟨gg,0,none⟩)),(.int .i64 vars)] Z Z Qn Aa (CZ _ gg gs sv cs n18 pp dp (l0-((1:Nat):Int)) pl p (vars) oM df ce (hp.chg (B5 (AU dp)) cd) _hvars oM oM) ?_))))
    rintro e173 w173 ⟨x173,n173,rfl,ca,i5,mg,i6,i7,d9,mh⟩
    refine⟨_,rfl,?_⟩
    have l6:w18.heap.size≤w173.heap.size:=ca.size
    have i8:Au [gs,gg] w w173:=cd.trans ca
    have i9:=cf.chg ca (fun hm=>by have:=CA hm;omega)
    refine Bz (vs:=[(.int .i64 x173.kind),(.int .i64 x173.num),(.int .i64 x173.pick),(.int .i64 x173.count),(.slice none 0 0)]) B6 Z Z GW i9 Z Z Aa fun w175 b3 mi cb=>?_
    replace cb:BX w175.heap w.heap.size [(.int .i64 x173.kind),(.int .i64 x173.num),(.int .i64 x173.pick),(.int .i64 x173.count),(.slice none 0 0)]:=cb
    have l7:w173.heap.size≤w175.heap.size:=b3.size
    have ia:Au [gs,gg] w w175:=i8.fresh b3 (fun c hc=>by have:=A9 hc;omega)
    have ib:=i5.chg b3 (fun c hc=>by have:=A9 hc;omega)
    have ic:=i6.chg b3 (fun hm=>by have:=A9 hm;omega)
    exact Aj (A1 (Al (CI (cs:=[(.int .i64 x173.kind),(.int .i64 x173.num),(.int .i64 x173.pick),(.int .i64 x173.count),(.slice none 0 0)]) Z B6 Z cb Z ⟨(.slice none 0 0),x173,n173,(l0-((1:Nat):Int)),rfl,ia,ib,⟨by omega,by omega⟩,ic,(by rw[d9];exact GE _ _ _),i7,(by exact OK.ok (by assumption) d)⟩)))
theorem XZ:∀d,GX d∧(1≤d→GC d):=by
  intro d
  induction d using Nat.strongRecOn with
  |_ d ih =>
    have hc:1≤d→GC d:=fun h1 w gg gs sv cs n0 pp dp l0 pl p vars funcs hgg hs hB0 hp hv' hf' hv hfu hpr hd hn hl=>IS w gg gs sv cs n0 pp dp l0 pl p vars funcs d hgg hs hB0 hp hv' hf' hv hfu hpr hd hn hl (ih (d-1) (by omega)).1
    exact⟨fun w gg gs sv cs n0 pp dp l0 pl p vars funcs hgg hs hB0 hp hv' hf' hv hfu hpr hd hn hl=>IT w gg gs sv cs n0 pp dp l0 pl p vars funcs d hgg hs hB0 hp hv' hf' hv hfu hpr hd hn hl (fun d' h=>(ih d' h).1) hc,hc⟩
theorem Tx (d:Nat):GX d:=(XZ d).1
end
section
set_option maxHeartbeats 4000000
set_option maxRecDepth 100000
attribute [local irreducible] LW
theorem Fy (w:World)(g:Nat)(sv:Value)(cs:List UInt8)(n0:Nat)(vl:Value)(us:List Value)(hs:EB w.heap g sv cs n0)(a7:n0+2≤1000000000000)(hl:∀w',Au [g] w w'→Rd (B3 rV) w'.heap vl us)(hus:∀u∈us,∃s,u=Value.string s)(hul:1≤us.length∧us.length≤1000)  :
  Calls Tryz.prog 123 #[.pointer (some ⟨g,0,none⟩),vl] w (fun e w'=>∃(x0:ByteArray) (n1:Nat),e=.returned (.string x0)∧Au [g] w w'∧EB w'.heap g sv cs n1∧(n0≤n1∧n1≤n0+2)∧(Value.string x0∈us)):=by
 refine Aq [.pointer (some ⟨g,0,none⟩),vl] 12 Tryz.func123 Z Z sM ?_
 have a1:Au [g] w w:=Au.refl [g] w
 have hl_vl:=(hl _ a1).lenle
 have hgl:=hs.lt
 refine A0 (Ab _ [0] Z (Ac 1 Z (A0 (Ab _ [0,0,0,0,4,0,2,0] Z (Ad 3 Z (AQ (v:=vl) Ux Z (hl _ a1).isSl Aa (AA 68 [] [] [(.pointer (some ⟨g,0,none⟩)),(.int .i64 ((us.length:Nat):Int))] Z Z H8 Aa (AV _ g _ _ _ (((us.length:Nat):Int)) hs oM oM oM) ?_)))))))
 rintro e1 w1 ⟨x1_0,n1,rfl,a3,a5,a8,a4⟩
 refine⟨_,rfl,?_⟩
 have a6:w.heap.size≤w1.heap.size:=a3.size
 have a2:Au [g] w w1:=a1.trans a3
 refine AB (v:=vl) ((x1_0).toNat) Ux bL Z Z (hl _ a2).isSl oM sD Aa ?_
 obtain⟨sx2,a0⟩:=hus (us.getD ((x1_0).toNat) undef) (RM sD)
 refine Ai (p:=Ay vl ((x1_0).toNat) 1) (.inr Z) (.string sx2) OT Z (by rw[← a0];exact(Rd.getV (hl _ a2) sD).1) Aa ?_
 have hsm:Value.string sx2∈us:=a0 ▸ RM sD
 exact Ac 1 Z (A1 (Af [4] Z (.string sx2) Z ⟨sx2,n1,rfl,a2,a5,⟨by omega,by omega⟩,(by exact hsm)⟩))
theorem LG (w:World)(n:Int)(_hn:Bx n)(hk:0≤n∧n<10) :
  Calls Tryz.prog 150 #[.int .i64 n] w (fun e w'=>∃s,e=.returned (.string s)∧AF w w'∧s=IU n.toNat):=by
 refine Aq [.int .i64 n] 20 Tryz.func150 Z Z sM ?_
 have a2:AF w w:=AF.refl w
 refine A0 (Ab _ [0] Z (Ac 1 Z (A0 (A0 (Ab _ [0,0] Z (Ad 1 Z ?_))))))
 by_cases a0:n<((10:Nat):Int)
 ·refine AG true Z Z (A5 a0) Aa (Aj (Ag Z (A0 (Ab _ [0,0,0,3,2,0] Z (Ad 1 Z ?_)))))
  refine AP (((48:Nat):Int)+n) Z Z (Da sD sD) Aa (Jw (IntKind.u8.wrap (((48:Nat):Int)+n)) u2 u5 Z Z Aa ?_)
  refine BI (u:=(.int .u8 (IntKind.u8.wrap (((48:Nat):Int)+n)))) (B:=w.heap.size) By QT bK Z Z (Oj (w.heap.size) (w.heap.size) _ ⟨rfl,rfl⟩) (A7 _) Aa fun v2 w2 a1 a6 a3=>?_
  have a4:=a1.size
  have a5:=a2.trans a1
  exact TV QT u5 u9 Z a3 Aa (Ac 1 Z (A1 (Al (Af [2] Z (.string (⟨#[UInt8.ofNat (IntKind.u8.wrap (((48:Nat):Int)+n)).toNat]⟩:ByteArray)) Z ⟨(⟨#[UInt8.ofNat (IntKind.u8.wrap (((48:Nat):Int)+n)).toNat]⟩:ByteArray),rfl,a5,(by exact Xk hk.1 hk.2)⟩))))
 ·exact absurd hk.2 a0
theorem LH (w:World)(g:Nat)(sv:Value)(cs:List UInt8)(n0:Nat)(funcs:Int)(nodes:Int)(plain:Bool)(hs:EB w.heap g sv cs n0)(j0:n0+(150000*funcs.toNat)≤1000000000000)(_hfuncs:Bx funcs)(_hnodes:Bx nodes)(hfn:0≤funcs∧funcs≤9)(hnd:1≤nodes∧nodes≤30) :
  Calls Tryz.prog 67 #[.pointer (some ⟨g,0,none⟩),.int .i64 funcs,.int .i64 nodes,.bool plain] w (fun e w'=>∃(v:Value) (p:List Fn) (n1:Nat),e=.returned (.agg #[v])∧Au [g] w w'∧EB w'.heap g sv cs n1∧(n0≤n1∧n1≤n0+(150000*funcs.toNat))∧Fr (E4 3 (Pn 153 6) 49) w.heap.size w'.heap.size w'.heap v p∧KU p plain∧Dn p∧((p.length:Nat):Int)=funcs):=by
 refine Aq [.pointer (some ⟨g,0,none⟩),.int .i64 funcs,.int .i64 nodes,.bool plain] 65 Tryz.func67 Z Z sM ?_
 have ga:Au [g] w w:=Au.refl [g] w
 have hgl:=hs.lt
 have j1:=aF
 have j2:=aG
 refine A0 (Ab _ [3] Z (Bo (z:=.agg #[.slice none 0 0]) T8 Aa fun w1 dr i1 ds=>?_))
 have dt:w.heap.size≤w1.heap.size:=dr.size
 have gb:Au [g] w w1:=ga.ext dr
 have du:=hs.ext dr
 replace ds:BX w1.heap w.heap.size [(.slice none 0 0)]:=ds
 refine Aj (A0 (Ab _ [0,3,4] Z ?_))
 have dv:∀(wq:World),(Instr.build 26 #[]).run Tryz.prog wq=.ok (.agg #[(.slice none 0 0)]) wq:=by intro wq;kernel_rfl
 refine C3 (ps:=#[]) (.agg #[(.slice none 0 0)]) (by simp only[List.map_toArray,List.map_cons,List.map_nil]) (fun wq=>dv  wq) Aa ?_
 have j3:=ds.lt
 refine Bo (z:=.agg #[.slice none 0 0]) T8 Aa fun w3 cb i2 dw=>?_
 have dx:w1.heap.size≤w3.heap.size:=cb.size
 have gc:Au [g] w w3:=gb.ext cb
 have dy:=du.ext cb
 have cc:=ds.ext cb
 replace dw:BX w3.heap w1.heap.size [(.slice none 0 0)]:=dw
 refine Bz (vs:=[(.slice none 0 0)]) BZ Z Z (by intro u hu;simp only[List.mem_cons,List.not_mem_nil,or_false]at hu;rcases hu with rfl <;> first|exact⟨rfl,rfl⟩) dw Z Z Aa fun w5 cd i3 dz=>?_
 replace dz:BX w5.heap w1.heap.size [(.slice none 0 0)]:=dz
 have i4:w3.heap.size≤w5.heap.size:=cd.size
 have i5:Au [g] w w5:=gc.fresh cd (fun c hc=>by have:=A9 hc;omega)
 have gd:=dy.chg cd (fun c hc=>by have:=A9 hc;omega)
 have ge:=cc.chg cd (fun hm=>by have:=A9 hm;omega)
 refine Aj (A0 (A0 (Ab _ [0] Z (Ac 1 Z (A3 ?_)))))
 refine B1 (S:=Nat×Value×List Fn×Nat) (fun⟨k,vp,ps,m⟩=>([(10,(.int .i64 ((k:Nat):Int))),(0,(.pointer (some ⟨g,0,none⟩))),(1,(.int .i64 funcs)),(2,(.int .i64 nodes)),(3,(.bool plain)),(8,(.pointer (some ⟨w.heap.size,0,none⟩))),(9,(.pointer (some ⟨w1.heap.size,0,none⟩)))])) (fun⟨k,vp,ps,m⟩ W=>Au [g] w W∧Fr (E4 3 (Pn 153 6) 49) w5.heap.size W.heap.size W.heap vp ps∧EB W.heap g sv cs m∧BX W.heap w.heap.size [(.slice none 0 0)]∧BX W.heap w1.heap.size [vp]∧((k:Nat):Int)≤funcs∧KU ps plain∧Dn ps∧ps.length=k∧(n0≤m∧m≤n0+150000*k)∧(g<w5.heap.size∧w.heap.size≤w5.heap.size)∧w.heap.size<w5.heap.size∧w1.heap.size<w5.heap.size∧w5.heap.size≤W.heap.size) (fun⟨k,vp,ps,m⟩=>funcs.toNat-k) (0,(.slice none 0 0),([]:List Fn),n0) ⟨rfl,rfl,rfl,rfl,rfl,rfl,rfl,trivial⟩ ⟨i5,(GE _ 0 _).up (Ao (AL 153 6)),gd,ge,dz,oM,(by exact KU.nil _),(by exact Dn.nil),(by rfl),oM,oM,oM,oM,oM⟩ ?_
 clear ga i1 dr dt gb i2 cb dx gc i3 cd gd ge
 rintro⟨k,vp,ps,m⟩ ρ10 w10 ⟨bx,ab,an,ac,a1,hkf,hdp,hdn,hpk,hmk,hgb,i6,i7,gf⟩
 have gg:w.heap.size≤w10.heap.size:=bx.size
 have i8:=ac.lt
 have i9:=a1.lt
 refine A0 (A0 (Ab _ [0,0,0] Z (Ad 2 Z ?_)))
 by_cases ce:((k:Nat):Int)<funcs
 ·refine AG true Z Z (A5 ce) Aa (Aj (Ag Z (A2 (A0 (A3 (A0 (Ab _ [0,3,4,0,3,0,0,4,0,0,3,4] Z (Ad 1 Z (RR (ys:=[(.string (⟨#[102]⟩)),(.string (⟨#[103]⟩)),(.string (⟨#[115,116,101,112]⟩)),(.string (⟨#[104,50]⟩))]) By Ux bL Z Z Z Z Z Z (UW ⟨rfl,rfl⟩ ⟨rfl,rfl⟩ ⟨rfl,rfl⟩ ⟨rfl,rfl⟩) Aa fun v15 w15 ao e0 bz=>?_)))))))))
  have cf:w10.heap.size≤w15.heap.size:=ao.size
  have cg:Au [g] w w15:=bx.ext ao
  have a5:=ab.ext ((Ao (AL 153 6))) ao
  have a6:=an.ext ao
  have a7:=ac.ext ao
  have a8:=a1.ext ao
  refine AA 123 [] [] [(.pointer (some ⟨g,0,none⟩)),v15] Z Z Vo Aa (Fy _ g _ _ _ v15 _ a6 oM (fun w9 h9=>(bz.chg oV h9 (fun c hc=>by have:=A9 hc;omega)).rdV1) (by intro u hu;simp only[List.mem_cons,List.not_mem_nil,or_false]at hu;rcases hu with rfl|rfl|rfl|rfl <;> exact⟨_,rfl⟩) sM) ?_
  rintro e16 w16 ⟨x16_0,n16,rfl,ap,e1,ia,c0⟩
  refine⟨_,rfl,?_⟩
  have ch:w15.heap.size≤w16.heap.size:=ap.size
  have ci:Au [g] w w16:=cg.trans ap
  have cj:=a5.chg ((Ao (AL 153 6))) ap (fun c hc=>by have:=A9 hc;omega)
  have ck:=a7.chg ap (fun hm=>by have:=A9 hm;omega)
  have cl:=a8.chg ap (fun hm=>by have:=A9 hm;omega)
  have cm:=bz.chg (oV) ap (fun c hc=>by have:=A9 hc;omega)
  have hfo:=RS c0
  refine Ad 1 Z (As 150 [] [] [(.int .i64 ((k:Nat):Int))] Z Z YQ Aa (LG _ (((k:Nat):Int)) oM oM) ?_)
  rintro e21 w21 ⟨st21,rfl,ad,rfl⟩
  refine⟨_,rfl,ad,?_⟩
  have cn:w16.heap.size≤w21.heap.size:=ad.size
  have co:Au [g] w w21:=ci.ext ad
  have az:=cj.ext ((Ao (AL 153 6))) ad
  have bo:=e1.ext ad
  have b0:=ck.ext ad
  have b1:=cl.ext ad
  have b2:=cm.ext (oV) ad
  refine X1 (a:=x16_0) (b:=IU k) Z Z (by have:=QI _ hfo;have:=RQ k;omega) Aa (Ad 1 Z (AA 68 [] [] [(.pointer (some ⟨g,0,none⟩)),(.int .i64 ((3:Nat):Int))] Z Z H8 Aa (AV _ g _ _ _ (((3:Nat):Int)) bo oM oM sD) ?_))
  rintro e22 w22 ⟨x22_0,n22,rfl,aq,e2,ib,e3⟩
  refine⟨_,rfl,?_⟩
  have cp:w21.heap.size≤w22.heap.size:=aq.size
  have cq:Au [g] w w22:=co.trans aq
  have cr:=az.chg ((Ao (AL 153 6))) aq (fun c hc=>by have:=A9 hc;omega)
  have c1:=b0.chg aq (fun hm=>by have:=A9 hm;omega)
  have c2:=b1.chg aq (fun hm=>by have:=A9 hm;omega)
  have ct:=b2.chg (oV) aq (fun c hc=>by have:=A9 hc;omega)
  refine AP (((1:Nat):Int)+x22_0) Z Z (Da sD sD) Aa ?_
  have cu:∀(wq:World),(Instr.build 49 #[(0,(.string (x16_0++IU k))),(1,(.int .i64 (((1:Nat):Int)+x22_0)))]).run Tryz.prog wq=.ok (.agg #[(.string (x16_0++IU k)),(.int .i64 (((1:Nat):Int)+x22_0)),(.slice none 0 0)]) wq:=by intro wq;kernel_rfl
  refine C3 (ps:=#[(0,(.string (x16_0++IU k))),(1,(.int .i64 (((1:Nat):Int)+x22_0)))]) (.agg #[(.string (x16_0++IU k)),(.int .i64 (((1:Nat):Int)+x22_0)),(.slice none 0 0)]) (by simp only[List.map_toArray,List.map_cons,List.map_nil];rfl) (fun wq=>cu  wq) Aa ?_
  have ic:=c1.lt
  have id:=c2.lt
  refine Bo (z:=.agg #[.string ByteArray.empty,.int .i64 0,.slice none 0 0]) Uz Aa fun w28 ag e4 c3=>?_
  have cv:w22.heap.size≤w28.heap.size:=ag.size
  have cw:Au [g] w w28:=cq.ext ag
  have b3:=cr.ext ((Ao (AL 153 6))) ag
  have bp:=e2.ext ag
  have b4:=c1.ext ag
  have b5:=c2.ext ag
  have b6:=ct.ext (oV) ag
  replace c3:BX w28.heap w22.heap.size [(.string ByteArray.empty),(.int .i64 0),(.slice none 0 0)]:=c3
  refine Bz (vs:=[(.string (x16_0++IU k)),(.int .i64 (((1:Nat):Int)+x22_0)),(.slice none 0 0)]) Jm Z Z (by intro u hu;simp only[List.mem_cons,List.not_mem_nil,or_false]at hu;rcases hu with rfl|rfl|rfl <;> first|exact⟨rfl,rfl⟩) c3 Z Z Aa fun w31 ah e5 c4=>?_
  replace c4:BX w31.heap w22.heap.size [(.string (x16_0++IU k)),(.int .i64 (((1:Nat):Int)+x22_0)),(.slice none 0 0)]:=c4
  have cx:w28.heap.size≤w31.heap.size:=ah.size
  have cy:Au [g] w w31:=cw.fresh ah (fun c hc=>by have:=A9 hc;omega)
  have cz:=b3.chg ((Ao (AL 153 6))) ah (fun c hc=>by have:=A9 hc;omega)
  have d0:=bp.chg ah (fun c hc=>by have:=A9 hc;omega)
  have d1:=b4.chg ah (fun hm=>by have:=A9 hm;omega)
  have d2:=b5.chg ah (fun hm=>by have:=A9 hm;omega)
  have d3:=b6.chg (oV) ah (fun c hc=>by have:=A9 hc;omega)
  refine Aj (A0 (Ab _ [0,4,0,0] Z (Ad 1 Z (AA 68 [] [] [(.pointer (some ⟨g,0,none⟩)),(.int .i64 ((3:Nat):Int))] Z Z H8 Aa (AV _ g _ _ _ (((3:Nat):Int)) d0 oM oM sD) ?_))))
  rintro e37 w37 ⟨x37_0,n37,rfl,ai,e6,ie,e7⟩
  refine⟨_,rfl,?_⟩
  have d4:w31.heap.size≤w37.heap.size:=ai.size
  have d5:Au [g] w w37:=cy.trans ai
  have d6:=cz.chg ((Ao (AL 153 6))) ai (fun c hc=>by have:=A9 hc;omega)
  have d7:=d1.chg ai (fun hm=>by have:=A9 hm;omega)
  have d8:=d2.chg ai (fun hm=>by have:=A9 hm;omega)
  have d9:=d3.chg (oV) ai (fun c hc=>by have:=A9 hc;omega)
  have da:=c4.chg ai (fun hm=>by have:=A9 hm;omega)
  refine AP (((1:Nat):Int)+x37_0) Z Z (Da sD sD) Aa (Ac 1 Z ?_)
  refine A0 (J1 (S:=Int×Nat) (fun⟨o,m1⟩=>([(12,(.int .i64 o)),(0,(.pointer (some ⟨g,0,none⟩))),(1,(.int .i64 funcs)),(2,(.int .i64 nodes)),(3,(.bool plain)),(8,(.pointer (some ⟨w.heap.size,0,none⟩))),(9,(.pointer (some ⟨w1.heap.size,0,none⟩))),(10,(.int .i64 ((k:Nat):Int))),(11,(.pointer (some ⟨w22.heap.size,0,none⟩)))])) (fun⟨o,m1⟩ W=>Au [g] w W∧Fr (E4 3 (Pn 153 6) 49) w5.heap.size w10.heap.size W.heap vp ps∧EB W.heap g sv cs m1∧BX W.heap w.heap.size [(.slice none 0 0)]∧BX W.heap w1.heap.size [vp]∧BX W.heap w22.heap.size [(.string (x16_0++IU k)),(.int .i64 (((1:Nat):Int)+x22_0)),(.slice none 0 0)]∧(1≤o∧o≤3)∧(n0≤m1∧m1≤n0+150000*k+8)∧w10.heap.size≤w37.heap.size∧(g<w5.heap.size∧w.heap.size≤w5.heap.size)∧w10.heap.size≤w22.heap.size∧w5.heap.size≤W.heap.size) ?_ ?_)
  ·refine A0 (Ab _ [0,4] Z (Ad 1 Z (AA 122 [] [] [(.pointer (some ⟨g,0,none⟩)),(.int .i64 ((2:Nat):Int))] Z Z Ms Aa (C8 _ g _ _ _ (((2:Nat):Int)) e6 oM oM sD) ?_)))
   rintro e45 w45 ⟨x45_0,n45,rfl,ar,db,ig,e8⟩
   refine⟨_,rfl,?_⟩
   have gh:w37.heap.size≤w45.heap.size:=ar.size
   have dc:Au [g] w w45:=d5.trans ar
   have dd:=d6.chg ((Ao (AL 153 6))) ar (fun c hc=>by have:=A9 hc;omega)
   have de:=d7.chg ar (fun hm=>by have:=A9 hm;omega)
   have df:=d8.chg ar (fun hm=>by have:=A9 hm;omega)
   have ih:=d9.chg (oV) ar (fun c hc=>by have:=A9 hc;omega)
   have c5:=da.chg ar (fun hm=>by have:=A9 hm;omega)
   refine Aj ?_
   cases dg:x45_0
   ·exact Ah (by first|rfl|(show Value.bool _=_;rw[dg])) (A2 ⟨((((1:Nat):Int)+x37_0),n45),_,rfl,⟨rfl,rfl,rfl,rfl,rfl,rfl,rfl,rfl,rfl,trivial⟩,⟨dc,dd,db,de,df,c5,oM,oM,oM,oM,oM,oM⟩⟩)
   ·exact Ag (by first|rfl|(show Value.bool _=_;rw[dg])) (Ab _ [0,2,0] Z (Ak (p:=(.pointer (some ⟨w22.heap.size,0,none⟩))) (b:=w22.heap.size) (o:=0) 1 C2 Z Z Aa (Ai (p:=(Ap (.pointer (some ⟨w22.heap.size,0,none⟩)) 1)) (.inr Z) (.int .i64 (((1:Nat):Int)+x22_0)) AD Z (c5.ldp (i:=1) sM) Aa (Ac 1 Z ⟨((((1:Nat):Int)+x22_0),n45),_,rfl,⟨rfl,rfl,rfl,rfl,rfl,rfl,rfl,rfl,rfl,trivial⟩,⟨dc,dd,db,de,df,c5,oM,oM,oM,oM,oM,oM⟩⟩))))
  ·clear a1 ac an ab bz e0 ao cf cg a5 a6 a7 a8 ap ch ci cj ck cl cm ad cn co az b0 b1 b2 aq cp cq cr c1 c2 ct e4 ag cv cw b3 b4 b5 b6 e5 ah cx cy cz d0 d1 d2 d3 ai d4 d5 d6 d7 d8 d9 da
   rintro⟨o,m1⟩ ρ43 w43 ⟨dh,bh,bi,au,av,aw,j4,j5,huw,hgb,huf,gi⟩
   have gj:w.heap.size≤w43.heap.size:=dh.size
   have ii:=au.lt
   have ij:=av.lt
   have ik:=aw.lt
   refine A0 (A0 (Ab _ [0] Z (Ac 1 Z (A3 ?_))))
   refine B1 (S:=Nat×Value×List Ex×Nat) (fun⟨i,vo,xs,m2⟩=>([(13,(.int .i64 ((i:Nat):Int))),(0,(.pointer (some ⟨g,0,none⟩))),(1,(.int .i64 funcs)),(2,(.int .i64 nodes)),(3,(.bool plain)),(8,(.pointer (some ⟨w.heap.size,0,none⟩))),(9,(.pointer (some ⟨w1.heap.size,0,none⟩))),(10,(.int .i64 ((k:Nat):Int))),(11,(.pointer (some ⟨w22.heap.size,0,none⟩))),(12,(.int .i64 o))])) (fun⟨i,vo,xs,m2⟩ W=>Au [g] w W∧Fr (E4 5 (LM 153 6) 153) w43.heap.size W.heap.size W.heap vo xs∧Fr (E4 3 (Pn 153 6) 49) w5.heap.size w10.heap.size W.heap vp ps∧EB W.heap g sv cs m2∧BX W.heap w.heap.size [(.slice none 0 0)]∧BX W.heap w1.heap.size [vp]∧BX W.heap w22.heap.size [(.string (x16_0++IU k)),(.int .i64 (((1:Nat):Int)+x22_0)),vo]∧((i:Nat):Int)≤o∧Om ps (((1:Nat):Int)+x22_0) plain xs i∧(n0≤m2∧m2≤n0+150000*k+8+47770*i)∧w10.heap.size≤w43.heap.size∧(g<w5.heap.size∧w.heap.size≤w5.heap.size)∧w10.heap.size≤w22.heap.size∧w.heap.size<w43.heap.size∧w1.heap.size<w43.heap.size∧w22.heap.size<w43.heap.size∧w43.heap.size≤W.heap.size∧w5.heap.size≤W.heap.size) (fun⟨i,vo,xs,m2⟩=>o.toNat-i) (0,(.slice none 0 0),([]:List Ex),m1) ⟨rfl,rfl,rfl,rfl,rfl,rfl,rfl,rfl,rfl,rfl,trivial⟩ ⟨dh,(GE _ 0 _).up (Ao (AS 153 6)),bh,bi,au,av,aw,oM,(by exact Om.nil _ _ _),oM,oM,oM,oM,oM,oM,oM,oM,oM⟩ ?_
   clear aw av au bi bh
   rintro⟨i,vo,xs,m2⟩ ρ58 w58 ⟨c6,bj,bk,bl,ae,a2,a3,hio,hff,j6,huw,hgb,huf,gk,gl,gm,gn,go⟩
   have gp:w.heap.size≤w58.heap.size:=c6.size
   have il:=ae.lt
   have im:=a2.lt
   have io:=a3.lt
   refine A0 (A0 (Ab _ [0,0,0] Z (Ad 2 Z ?_)))
   by_cases di:((i:Nat):Int)<o
   ·refine AG true Z Z (A5 di) Aa (Aj (Ag Z (A2 (A0 (A3 (A0 (Ab _ [0,0,0,0,3,0] Z (Ad 3 Z ?_))))))))
    have dj:∀(wq:World),(Instr.build 151 #[(0,(.pointer (some ⟨g,0,none⟩))),(1,(.pointer (some ⟨w1.heap.size,0,none⟩))),(2,(.int .i64 nodes)),(3,(.bool plain))]).run Tryz.prog wq=.ok (.agg #[(.pointer (some ⟨g,0,none⟩)),(.pointer (some ⟨w1.heap.size,0,none⟩)),(.int .i64 nodes),(.bool plain)]) wq:=by intro wq;kernel_rfl
    refine C3 (ps:=#[(0,(.pointer (some ⟨g,0,none⟩))),(1,(.pointer (some ⟨w1.heap.size,0,none⟩))),(2,(.int .i64 nodes)),(3,(.bool plain))]) (.agg #[(.pointer (some ⟨g,0,none⟩)),(.pointer (some ⟨w1.heap.size,0,none⟩)),(.int .i64 nodes),(.bool plain)]) (by simp only[List.map_toArray,List.map_cons,List.map_nil];rfl) (fun wq=>dj  wq) Aa ?_
    have ip:=ae.lt
    have iq:=a2.lt
    have ir:=a3.lt
    refine Bu (cs:=#[(.pointer (some ⟨g,0,none⟩)),(.pointer (some ⟨w1.heap.size,0,none⟩)),(.int .i64 nodes),(.bool plain)]) Z Aa fun w66 aj is c7=>?_
    have gq:w58.heap.size≤w66.heap.size:=aj.size
    have e9:Au [g] w w66:=c6.ext aj
    have b7:=bj.ext ((Ao (AS 153 6))) aj
    have a9:=bk.ext ((Ao (AL 153 6))) aj
    have b8:=bl.ext aj
    have b9:=ae.ext aj
    have aa:=a2.ext aj
    have a0:=a3.ext aj
    replace c7:BX w66.heap w58.heap.size [(.pointer (some ⟨g,0,none⟩)),(.pointer (some ⟨w1.heap.size,0,none⟩)),(.int .i64 nodes),(.bool plain)]:=c7
    refine Ac 1 Z ?_
    letI:JR:=QW [g,w58.heap.size]
    refine Jx.AO _ [0,1,0,0,1,0,3,3,4,0,4] mixed (by kernel_rfl) (Jx.Ak (p:=(.pointer (some ⟨w22.heap.size,0,none⟩))) (b:=w22.heap.size) (o:=0) 2 BL Z Z Aa (Jx.ZQ (p:=(Ap (.pointer (some ⟨w22.heap.size,0,none⟩)) 2)) vo Bd Z (fun wj hj=>(BX.chg (w:=w66.drew) (F:=[g,w58.heap.size]) a0 hj (fun hm=>by have:=CA hm;omega)).ldp (i:=2) sM) Aa (Jx.VU (.pointer (some ⟨w58.heap.size,0,none⟩)) Z Aa (Jx.Ak (p:=(.pointer (some ⟨w22.heap.size,0,none⟩))) (b:=w22.heap.size) (o:=0) 1 C2 Z Z Aa ?_))))
    refine Jx.ZQ (p:=(Ap (.pointer (some ⟨w22.heap.size,0,none⟩)) 1)) (.int .i64 (((1:Nat):Int)+x22_0)) AD Z (fun wj hj=>(BX.chg (w:=w66.drew) (F:=[g,w58.heap.size]) a0 hj (fun hm=>by have:=CA hm;omega)).ldp (i:=1) sM) Aa (Jx.VU (.int .i64 ((k:Nat):Int)) Z Aa ?_)
    refine Jx.As 124 [] [] [(.pointer (some ⟨w58.heap.size,0,none⟩)),(.int .i64 (((1:Nat):Int)+x22_0)),(.int .i64 ((k:Nat):Int)),(.int .i64 ((5:Nat):Int))] Z Z Mu Aa (Tx 5 _ w58.heap.size g sv cs m2 (.pointer (some ⟨w1.heap.size,0,none⟩)) 6 nodes plain ps (((1:Nat):Int)+x22_0) (((k:Nat):Int)) oM b8 c7 (RN.box aa (RP.mk' (RN.of_frF2 a9 (fun b hb=>by have:=CA hb;omega))) (fun hb=>by have:=CA hb;omega)) oM oM oM oM (by exact hdp.gpr) oM oM oM) ?_
    rintro e70 w70 ⟨v70,x70,n70,l70,rfl,a4,ea,it,eb,c8,ec,iu⟩
    refine⟨_,rfl,a4,?_⟩
    replace c8:=c8.low (B':=w66.heap.size) (A7 _)
    replace a4:=a4.of_drew
    have gr:w66.heap.size≤w70.heap.size:=a4.size
    have ed:Au [g] w w70:=e9.new2 a4 (List.mem_singleton.2 Z) oM
    have ee:=b7.chg ((Ao (AS 153 6))) a4 (fun c hc=>by have:=CA hc;omega)
    have ef:=a9.chg ((Ao (AL 153 6))) a4 (fun c hc=>by have:=CA hc;omega)
    have eg:=b9.chg a4 (fun hm=>by have:=CA hm;omega)
    have eh:=aa.chg a4 (fun hm=>by have:=CA hm;omega)
    have ei:=a0.chg a4 (fun hm=>by have:=CA hm;omega)
    refine Jx.TS Z (EZ (cs:=[(.int .i64 x70.kind),(.int .i64 x70.num),(.int .i64 x70.pick),(.int .i64 x70.count),v70]) (y:=x70) (B:=w66.heap.size) (AS 153 6) D1 Bk Z (by decide) Z (MB.mk1 (d:=6) oM ec c8) oM Aa fun v76 w76 af iv ej=>?_)
    have gs:w70.heap.size≤w76.heap.size:=af.size
    have ek:Au [g] w w76:=ed.ext af
    have bq:=ee.ext ((Ao (AS 153 6))) af
    have br:=ef.ext ((Ao (AL 153 6))) af
    have bs:=ea.ext af
    have bt:=eg.ext af
    have bu:=eh.ext af
    have bv:=ei.ext af
    have bw:=eb.ext af
    refine Is (v:=vo) (a:=v76) (AS 153 6) D1 Bk Z (by decide) Z Z bq oM ej oM oM (by have:=hff.len;omega) (by have:=hff.len;unfold maxLen;omega) Aa fun v77 w77 F77 ak ax dk=>?_
    have gt:w76.heap.size≤w77.heap.size:=ak.size
    have el:Au [g] w w77:=ek.fresh ak (fun c hc=>by have:=ax _ hc;omega)
    have em:=br.chg ((Ao (AL 153 6))) ak (fun c hc=>by have:=ax _ hc;omega)
    have en:=bs.chg ak (fun c hc=>by have:=ax _ hc;omega)
    have eo:=bt.chg ak (fun hm=>by have:=ax _ hm;omega)
    have ep:=bu.chg ak (fun hm=>by have:=ax _ hm;omega)
    have eq:=bv.chg ak (fun hm=>by have:=ax _ hm;omega)
    have er:=bw.chg ak (fun hm=>by have:=ax _ hm;omega)
    refine Ak (p:=(.pointer (some ⟨w22.heap.size,0,none⟩))) (b:=w22.heap.size) (o:=0) 2 BL Z Z Aa (Be (k:=2) (w:=w77) QS Z Z (Bp dk.isSlS) eq sM Aa fun w84 al iw c9=>?_)
    replace c9:BX w84.heap w22.heap.size [(.string (x16_0++IU k)),(.int .i64 (((1:Nat):Int)+x22_0)),v77]:=c9
    have gu:w77.heap.size≤w84.heap.size:=al.size
    have es:Au [g] w w84:=el.fresh al (fun c hc=>by have:=A9 hc;omega)
    have et:=em.chg ((Ao (AL 153 6))) al (fun c hc=>by have:=A9 hc;omega)
    have eu:=en.chg al (fun c hc=>by have:=A9 hc;omega)
    have ev:=eo.chg al (fun hm=>by have:=A9 hm;omega)
    have ew:=ep.chg al (fun hm=>by have:=A9 hm;omega)
    have ix:=er.chg al (fun hm=>by have:=A9 hm;omega)
    have ex:=dk.chg ((Ao (AS 153 6))) al (fun c hc=>by have:=A9 hc;omega)
    exact Aj (Ab _ [0,0,0] Z (Ad 1 Z (AP ((i+1:Nat):Int) Z Z (Bl oM oM) Aa (Ac 1 Z ⟨((i+1),v77,(xs++[x70]),n70),_,rfl,⟨rfl,rfl,rfl,rfl,rfl,rfl,rfl,rfl,rfl,rfl,trivial⟩,⟨es,ex.up (Ao (AS 153 6)),et,eu,ev,ew,c9,oM,(by exact hff.snoc (funcs:=((k:Nat):Int)) (d:=5) (l0:=nodes) oM oM oM (by assumption)),oM,oM,oM,oM,oM,oM,oM,oM,oM⟩,by first|omega|(dsimp only;omega)⟩))))
   ·refine AG false Z Z (A6 di) Aa (Aj (Ah Z (A4 (Ax (Ax (At (Ab _ [0,2,2,3,4,0,4] Z (Ak (p:=(.pointer (some ⟨w1.heap.size,0,none⟩))) (b:=w1.heap.size) (o:=0) 0 Bv Z Z Aa (Ai (p:=(Ap (.pointer (some ⟨w1.heap.size,0,none⟩)) 0)) (.inr Z) vp BY Z (a2.ldp (i:=0) sM) Aa (AK (p:=(.pointer (some ⟨w22.heap.size,0,none⟩))) (.inr Z) [(.string (x16_0++IU k)),(.int .i64 (((1:Nat):Int)+x22_0)),vo] Jm Z (fun wq9 ey=>LD.of_box (BX.ext (w:=w58) a3 ey)) Z Aa ?_))))))))))
    refine EZ (cs:=[(.string (x16_0++IU k)),(.int .i64 (((1:Nat):Int)+x22_0)),vo]) (y:=(Fn.mk (x16_0++IU k) (((1:Nat):Int)+x22_0) xs)) (B:=w43.heap.size) (AL 153 6) Gb Cj Z (by decide) Z (MB.mkF (x:=⟨(x16_0++IU k),(((1:Nat):Int)+x22_0),xs⟩) (RO (a:=(((1:Nat):Int)+x22_0)) oM) bj) oM Aa fun v91 w91 ay iy ez=>?_
    have gv:w58.heap.size≤w91.heap.size:=ay.size
    have g0:Au [g] w w91:=c6.ext ay
    have ba:=bk.ext ((Ao (AL 153 6))) ay
    have bb:=bl.ext ay
    have bc:=ae.ext ay
    have bd:=a2.ext ay
    have be:=a3.ext ay
    refine Is (v:=vp) (a:=v91) (AL 153 6) Gb Cj Z (by decide) Z Z ba oM ez oM oM oM (by unfold maxLen;omega) Aa fun v92 w92 F92 bf bm dl=>?_
    have gw:w91.heap.size≤w92.heap.size:=bf.size
    have g1:Au [g] w w92:=g0.fresh bf (fun c hc=>by have:=bm _ hc;omega)
    have g2:=bb.chg bf (fun c hc=>by have:=bm _ hc;omega)
    have g3:=bc.chg bf (fun hm=>by have:=bm _ hm;omega)
    have g4:=bd.chg bf (fun hm=>by have:=bm _ hm;omega)
    have g5:=be.chg bf (fun hm=>by have:=bm _ hm;omega)
    refine Ak (p:=(.pointer (some ⟨w1.heap.size,0,none⟩))) (b:=w1.heap.size) (o:=0) 0 Bv Z Z Aa (Be (k:=0) (w:=w92) Zo Z Z (Bp dl.isSlS) g4 sM Aa fun w97 bg iz ca=>?_)
    replace ca:BX w97.heap w1.heap.size [v92]:=ca
    have gx:w92.heap.size≤w97.heap.size:=bg.size
    have g6:Au [g] w w97:=g1.fresh bg (fun c hc=>by have:=A9 hc;omega)
    have g7:=g2.chg bg (fun c hc=>by have:=A9 hc;omega)
    have g8:=g3.chg bg (fun hm=>by have:=A9 hm;omega)
    have gy:=g5.chg bg (fun hm=>by have:=A9 hm;omega)
    have dm:=dl.chg ((Ao (AL 153 6))) bg (fun c hc=>by have:=A9 hc;omega)
    refine Aj (Ab _ [0,0,0] Z (Ad 1 Z (AP ((k+1:Nat):Int) Z Z (Bl oM oM) Aa (Ac 1 Z ?_))))
    exact⟨((k+1),v92,(ps++[(Fn.mk (x16_0++IU k) (((1:Nat):Int)+x22_0) xs)]),m2),_,rfl,⟨rfl,rfl,rfl,rfl,rfl,rfl,rfl,trivial⟩,⟨g6,dm.up (Ao (AL 153 6)),g7,g8,ca,oM,(by exact(Om.fn (i:=i) (f:=⟨(x16_0++IU k),(((1:Nat):Int)+x22_0),xs⟩) hdp hdn oM ⟨by show 1≤(((1:Nat):Int)+x22_0);omega,by show(((1:Nat):Int)+x22_0)≤3;omega⟩ ⟨by omega,by omega⟩ hff hfo (by show _=_++IU ps.length;rw[hpk])).1),(by exact(Om.fn (i:=i) (f:=⟨(x16_0++IU k),(((1:Nat):Int)+x22_0),xs⟩) hdp hdn oM ⟨by show 1≤(((1:Nat):Int)+x22_0);omega,by show(((1:Nat):Int)+x22_0)≤3;omega⟩ ⟨by omega,by omega⟩ hff hfo (by show _=_++IU ps.length;rw[hpk])).2),(by rw[List.length_append,hpk];rfl),oM,oM,oM,oM,oM⟩,by first|omega|(dsimp only;omega)⟩
 ·refine AG false Z Z (A6 ce) Aa (Aj (Ah Z (A4 (Ax (Ax (At (A0 (Ab _ [2,4] Z (AK (p:=(.pointer (some ⟨w1.heap.size,0,none⟩))) (.inr Z) [vp] BZ Z (fun wq9 ey=>LD.of_box (BX.ext (w:=w10) a1 ey)) Z Aa (Bz (vs:=[vp]) BZ Z Z (by intro u hu;simp only[List.mem_cons,List.not_mem_nil,or_false]at hu;rcases hu with rfl <;> first|exact⟨rfl,rfl⟩|exact Bp ab.isSlS) ac Z Z Aa fun w102 am gz bn=>?_))))))))))
  replace bn:BX w102.heap w.heap.size [vp]:=bn
  have g9:w10.heap.size≤w102.heap.size:=am.size
  have dn:Au [g] w w102:=bx.fresh am (fun c hc=>by have:=A9 hc;omega)
  have dp:=ab.chg ((Ao (AL 153 6))) am (fun c hc=>by have:=A9 hc;omega)
  have dq:=an.chg am (fun c hc=>by have:=A9 hc;omega)
  have i0:=a1.chg am (fun hm=>by have:=A9 hm;omega)
  exact Aj (A1 (CI (cs:=[vp]) Z BZ Z bn Z ⟨vp,ps,m,rfl,dn,dq,⟨by omega,by omega⟩,((dp.up (Ao (AL 153 6))).low (B':=w.heap.size) oM),(by exact⟨hdp,hdn,by omega⟩)⟩))
end
section
set_option maxHeartbeats 4000000
set_option maxRecDepth 100000
attribute [local irreducible] LW
theorem Kg (w:World)(vc:Value)(cs:List UInt8)(hcs:Rd (B3 rU) w.heap vc cs)  :
  Calls Tryz.prog 42 #[vc] w (fun e w'=>∃(v va vb:Value) (p:List Fn) (f:Int) (a b:List Int),e=.returned (.tuple #[.agg #[v],.int .i64 f,va,vb])∧AF w w'∧Fr (E4 3 (Pn 153 6) 49) w.heap.size w'.heap.size w'.heap v p∧Fr (Bh rI 2) w.heap.size w'.heap.size w'.heap va a∧Fr (Bh rI 2) w.heap.size w'.heap.size w'.heap vb b∧Us p f a b):=by
 refine Aq [vc] 74 Tryz.func42 Z Z sM ?_
 have go:AF w w:=AF.refl w
 have hl_vc:=hcs.lenle
 have gp:=aH
 have jg:=aI
 refine A0 (Ab _ [3,0,0,0] Z (Bo (z:=.agg #[.slice none 0 0]) T8 Aa fun w1 dv ii dw=>?_))
 have dx:=dv.size
 have dy:=go.trans dv
 replace dw:BX w1.heap w.heap.size [(.slice none 0 0)]:=dw
 refine Ac 3 Z (A0 (Ab _ [0,3,0] Z (Ad 1 Z (As 66 [] [] [vc] Z Z XM Aa (Fs _ _ _ (hcs.ext Cx dy)) ?_))))
 rintro e2 w2 ⟨gB2,rfl,cc,gq,jh⟩
 refine⟨_,rfl,cc,?_⟩
 have dz:=cc.size
 have e0:=dy.trans cc
 have cd:=dw.ext cc
 refine Ac 1 Z (A0 (Ab _ [0,0,4,0,4,4,3,4] Z ?_))
 have hgl:=gq.lt
 refine Ad 2 Z (AA 68 [] [] [(.pointer (some ⟨gB2,0,none⟩)),(.int .i64 ((3:Nat):Int))] Z Z H8 Aa (AV _ gB2 _ _ _ (((3:Nat):Int)) gq oM oM oM) ?_)
 rintro e3 w3 ⟨x3_0,n3,rfl,dr,ij,ji,gr⟩
 refine⟨_,rfl,?_⟩
 have e1:w2.heap.size≤w3.heap.size:=dr.size
 have e4:AF w w3:=dr.below e0 (fun c hc=>by have:=A9 hc;omega) e0.size
 have gs:=cd.chg dr (fun hm=>by have:=A9 hm;omega)
 refine Ad 1 Z (AA 122 [] [] [(.pointer (some ⟨gB2,0,none⟩)),(.int .i64 ((2:Nat):Int))] Z Z Ms Aa (C8 _ gB2 _ _ _ (((2:Nat):Int)) ij oM oM oM) ?_)
 rintro e5 w5 ⟨x5_0,n5,rfl,ds,gp,jj,gt⟩
 refine⟨_,rfl,?_⟩
 have ik:w3.heap.size≤w5.heap.size:=ds.size
 have gu:AF w w5:=ds.below e4 (fun c hc=>by have:=A9 hc;omega) e4.size
 have gv:=gs.chg ds (fun hm=>by have:=A9 hm;omega)
 refine AA 67 [] [] [(.pointer (some ⟨gB2,0,none⟩)),(.int .i64 x3_0),(.int .i64 ((7:Nat):Int)),(.bool x5_0)] Z Z bE Aa (LH _ gB2 vc cs n5 (x3_0) (((7:Nat):Int)) x5_0 gp oM oM oM oM oM) ?_
 rintro e7 w7 ⟨v7,p7,n7,rfl,dt,il,jk,gw,du⟩
 refine⟨_,rfl,?_⟩
 have im:w5.heap.size≤w7.heap.size:=dt.size
 have io:AF w w7:=dt.below gu (fun c hc=>by have:=A9 hc;omega) gu.size
 have e6:=gv.chg dt (fun hm=>by have:=A9 hm;omega)
 have hdp:=du.1.npl
 have hdn:=du.2.1
 have hpk:=du.2.2
 have ip:=e6.lt
 refine Bo (z:=.agg #[.slice none 0 0]) T8 Aa fun w9 cb iq e8=>?_
 have e9:=cb.size
 have ea:=io.trans cb
 have bn:=e6.ext cb
 have ce:=il.ext cb
 have b8:=gw.ext ((Ao (AL 153 6))) cb
 replace e8:BX w9.heap w7.heap.size [(.slice none 0 0)]:=e8
 refine Bz (vs:=[v7]) BZ Z Z (by intro u hu;simp only[List.mem_cons,List.not_mem_nil,or_false]at hu;rcases hu with rfl <;> first|exact⟨rfl,rfl⟩|exact Bp b8.isSlS) e8 Z Z Aa fun w11 aw eb bo=>?_
 replace bo:BX w11.heap w7.heap.size [v7]:=bo
 have cf:w9.heap.size≤w11.heap.size:=aw.size
 have cg:AF w w11:=aw.below ea (fun c hc=>by have:=A9 hc;omega) ea.size
 have ch:=bn.chg aw (fun hm=>by have:=A9 hm;omega)
 have ci:=ce.chg aw (fun c hc=>by have:=A9 hc;omega)
 have cj:=b8.chg ((Ao (AL 153 6))) aw (fun c hc=>by have:=A9 hc;omega)
 refine Aj (A0 (Ab _ [0,3,4,0,4,0,0,3,4] Z (Ad 1 Z (RR (ys:=[(.string (⟨#[114]⟩)),(.string (⟨#[114]⟩)),(.string (⟨#[114]⟩)),(.string (⟨#[108,111,111,112]⟩))]) By Ux bL Z Z Z Z Z Z (UW ⟨rfl,rfl⟩ ⟨rfl,rfl⟩ ⟨rfl,rfl⟩ ⟨rfl,rfl⟩) Aa fun v15 w15 af ec bp=>?_))))
 have ck:=af.size
 have bq:=cg.trans af
 have al:=ch.ext af
 have am:=ci.ext af
 have an:=cj.ext ((Ao (AL 153 6))) af
 have be:=bo.ext af
 refine AA 123 [] [] [(.pointer (some ⟨gB2,0,none⟩)),v15] Z Z Vo Aa (Fy _ gB2 _ _ _ v15 _ am oM (fun w9 h9=>(bp.chg oV h9 (fun c hc=>by have:=A9 hc;omega)).rdV1) (by intro u hu;simp only[List.mem_cons,List.not_mem_nil,or_false]at hu;rcases hu with rfl|rfl|rfl|rfl <;> exact⟨_,rfl⟩) sM) ?_
 rintro e16 w16 ⟨x16_0,n16,rfl,ag,ed,ir,br⟩
 refine⟨_,rfl,?_⟩
 have cl:w15.heap.size≤w16.heap.size:=ag.size
 have bs:AF w w16:=ag.below bq (fun c hc=>by have:=A9 hc;omega) bq.size
 have cm:=al.chg ag (fun hm=>by have:=A9 hm;omega)
 have cn:=an.chg ((Ao (AL 153 6))) ag (fun c hc=>by have:=A9 hc;omega)
 have co:=be.chg ag (fun hm=>by have:=A9 hm;omega)
 have cp:=bp.chg (oV) ag (fun c hc=>by have:=A9 hc;omega)
 have hnm:=Ur br
 refine Ad 1 Z (AA 68 [] [] [(.pointer (some ⟨gB2,0,none⟩)),(.int .i64 ((3:Nat):Int))] Z Z H8 Aa (AV _ gB2 _ _ _ (((3:Nat):Int)) ed oM oM oM) ?_)
 rintro e21 w21 ⟨x21_0,n21,rfl,ah,ee,is,ef⟩
 refine⟨_,rfl,?_⟩
 have cq:w16.heap.size≤w21.heap.size:=ah.size
 have cr:AF w w21:=ah.below bs (fun c hc=>by have:=A9 hc;omega) bs.size
 have bt:=cm.chg ah (fun hm=>by have:=A9 hm;omega)
 have ct:=cn.chg ((Ao (AL 153 6))) ah (fun c hc=>by have:=A9 hc;omega)
 have bu:=co.chg ah (fun hm=>by have:=A9 hm;omega)
 have cu:=cp.chg (oV) ah (fun c hc=>by have:=A9 hc;omega)
 refine AP (((1:Nat):Int)+x21_0) Z Z (Da sD sD) Aa ?_
 have cv:∀(wq:World),(Instr.build 49 #[(0,(.string x16_0)),(1,(.int .i64 (((1:Nat):Int)+x21_0)))]).run Tryz.prog wq=.ok (.agg #[(.string x16_0),(.int .i64 (((1:Nat):Int)+x21_0)),(.slice none 0 0)]) wq:=by intro wq;kernel_rfl
 refine C3 (ps:=#[(0,(.string x16_0)),(1,(.int .i64 (((1:Nat):Int)+x21_0)))]) (.agg #[(.string x16_0),(.int .i64 (((1:Nat):Int)+x21_0)),(.slice none 0 0)]) (by simp only[List.map_toArray,List.map_cons,List.map_nil];rfl) (fun wq=>cv  wq) Aa ?_
 have it:=bt.lt
 have iu:=bu.lt
 refine Bo (z:=.agg #[.string ByteArray.empty,.int .i64 0,.slice none 0 0]) Uz Aa fun w27 a9 eg bv=>?_
 have cw:=a9.size
 have bw:=cr.trans a9
 have ao:=bt.ext a9
 have bf:=ee.ext a9
 have ap:=ct.ext ((Ao (AL 153 6))) a9
 have aq:=bu.ext a9
 have ar:=cu.ext (oV) a9
 replace bv:BX w27.heap w21.heap.size [(.string ByteArray.empty),(.int .i64 0),(.slice none 0 0)]:=bv
 refine Bz (vs:=[(.string x16_0),(.int .i64 (((1:Nat):Int)+x21_0)),(.slice none 0 0)]) Jm Z Z (by intro u hu;simp only[List.mem_cons,List.not_mem_nil,or_false]at hu;rcases hu with rfl|rfl|rfl <;> first|exact⟨rfl,rfl⟩) bv Z Z Aa fun w30 aa eh bx=>?_
 replace bx:BX w30.heap w21.heap.size [(.string x16_0),(.int .i64 (((1:Nat):Int)+x21_0)),(.slice none 0 0)]:=bx
 have cx:w27.heap.size≤w30.heap.size:=aa.size
 have bz:AF w w30:=aa.below bw (fun c hc=>by have:=A9 hc;omega) bw.size
 have cy:=ao.chg aa (fun hm=>by have:=A9 hm;omega)
 have cz:=bf.chg aa (fun c hc=>by have:=A9 hc;omega)
 have d0:=ap.chg ((Ao (AL 153 6))) aa (fun c hc=>by have:=A9 hc;omega)
 have d1:=aq.chg aa (fun hm=>by have:=A9 hm;omega)
 have d2:=ar.chg (oV) aa (fun c hc=>by have:=A9 hc;omega)
 refine Aj (A0 (Ab _ [0,4,0] Z (Ad 1 Z (AA 122 [] [] [(.pointer (some ⟨gB2,0,none⟩)),(.int .i64 ((2:Nat):Int))] Z Z Ms Aa (C8 _ gB2 _ _ _ (((2:Nat):Int)) cz oM oM oM) ?_))))
 rintro e36 w36 ⟨x36_0,n36,rfl,ab,ei,iv,ej⟩
 refine⟨_,rfl,?_⟩
 have gx:w30.heap.size≤w36.heap.size:=ab.size
 have ek:AF w w36:=ab.below bz (fun c hc=>by have:=A9 hc;omega) bz.size
 have d3:=cy.chg ab (fun hm=>by have:=A9 hm;omega)
 have d4:=d0.chg ((Ao (AL 153 6))) ab (fun c hc=>by have:=A9 hc;omega)
 have d5:=d1.chg ab (fun hm=>by have:=A9 hm;omega)
 have el:=d2.chg (oV) ab (fun c hc=>by have:=A9 hc;omega)
 have d6:=bx.chg ab (fun hm=>by have:=A9 hm;omega)
 refine Ac 1 Z (A0 (A0 (Ab _ [0] Z (Ac 1 Z (A3 ?_)))))
 refine B1 (S:=Nat×Value×List Ex×Nat) (fun⟨i,vo,xs,m⟩=>([(10,(.int .i64 ((i:Nat):Int))),(2,(.pointer (some ⟨w.heap.size,0,none⟩))),(6,(.pointer (some ⟨gB2,0,none⟩))),(7,(.pointer (some ⟨w7.heap.size,0,none⟩))),(8,(.pointer (some ⟨w21.heap.size,0,none⟩))),(9,(.bool x36_0))])) (fun⟨i,vo,xs,m⟩ W=>AF w W∧Fr (E4 5 (LM 153 6) 153) w36.heap.size W.heap.size W.heap vo xs∧Fr (E4 3 (Pn 153 6) 49) w5.heap.size w7.heap.size W.heap v7 p7∧EB W.heap gB2 vc cs m∧BX W.heap w.heap.size [(.slice none 0 0)]∧BX W.heap w7.heap.size [v7]∧BX W.heap w21.heap.size [(.string x16_0),(.int .i64 (((1:Nat):Int)+x21_0)),vo]∧((i:Nat):Int)≤(((1:Nat):Int)+x21_0)∧Om p7 (((1:Nat):Int)+x21_0) false xs i∧m≤500000+20000*i∧w7.heap.size≤w36.heap.size∧(gB2<w5.heap.size∧w.heap.size≤w5.heap.size∧w.heap.size<gB2)∧w7.heap.size≤w21.heap.size∧w.heap.size<w36.heap.size∧w7.heap.size<w36.heap.size∧w21.heap.size<w36.heap.size∧w36.heap.size≤W.heap.size∧w5.heap.size≤W.heap.size) (fun⟨i,vo,xs,m⟩=>((((1:Nat):Int)+x21_0)).toNat-i) (0,(.slice none 0 0),([]:List Ex),n36) ⟨rfl,rfl,rfl,rfl,rfl,rfl,trivial⟩ ⟨ek,(GE _ 0 _).up (Ao (AS 153 6)),d4,ei,d3,d5,d6,oM,(by exact Om.nil _ _ _),oM,oM,oM,oM,oM,oM,oM,oM,oM⟩ ?_
 clear go ii dv dx dy cc dz e0 dr e1 e4 gs ds gv du gw dt e6 iq cb e9 ea bn b8 eb aw cf cg ch ci cj bp ec af ck bq al am an ag cl bs cm cn co cp ah cq cr bt ct bu cu eg a9 cw bw ao ap aq ar eh aa cx bz cy cz d0 d1 d2 ab d3 d4 d5 el d6
 rintro⟨i,vo,xs,m⟩ ρ45 w45 ⟨c0,b9,ba,bb,a7,a5,a1,hio,hff,jl,huw,hgb,huf,gy,gz,i0,i1,i2⟩
 have i3:w.heap.size≤w45.heap.size:=c0.size
 have iw:=a7.lt
 have ix:=a5.lt
 have iy:=a1.lt
 refine A0 (A0 (Ab _ [0,0,2,0] Z (Ad 1 Z (Ak (p:=(.pointer (some ⟨w21.heap.size,0,none⟩))) (b:=w21.heap.size) (o:=0) 1 C2 Z Z Aa (Ai (p:=(Ap (.pointer (some ⟨w21.heap.size,0,none⟩)) 1)) (.inr Z) (.int .i64 (((1:Nat):Int)+x21_0)) AD Z (a1.ldp (i:=1) sM) Aa ?_)))))
 by_cases d7:((i:Nat):Int)<((1:Nat):Int)+x21_0
 ·refine AG true Z Z (A5 d7) Aa (Aj (Ag Z (A2 (A0 (A3 (A0 (Ab _ [0,0,0,3,0] Z (Ad 2 Z ?_))))))))
  have d8:∀(wq:World),(Instr.build 151 #[(0,(.pointer (some ⟨gB2,0,none⟩))),(1,(.pointer (some ⟨w7.heap.size,0,none⟩))),(2,(.int .i64 ((9:Nat):Int))),(3,(.bool x36_0))]).run Tryz.prog wq=.ok (.agg #[(.pointer (some ⟨gB2,0,none⟩)),(.pointer (some ⟨w7.heap.size,0,none⟩)),(.int .i64 ((9:Nat):Int)),(.bool x36_0)]) wq:=by intro wq;kernel_rfl
  refine C3 (ps:=#[(0,(.pointer (some ⟨gB2,0,none⟩))),(1,(.pointer (some ⟨w7.heap.size,0,none⟩))),(2,(.int .i64 ((9:Nat):Int))),(3,(.bool x36_0))]) (.agg #[(.pointer (some ⟨gB2,0,none⟩)),(.pointer (some ⟨w7.heap.size,0,none⟩)),(.int .i64 ((9:Nat):Int)),(.bool x36_0)]) (by simp only[List.map_toArray,List.map_cons,List.map_nil];rfl) (fun wq=>d8  wq) Aa ?_
  have iz:=a7.lt
  have j0:=a5.lt
  have j2:=a1.lt
  refine Bu (cs:=#[(.pointer (some ⟨gB2,0,none⟩)),(.pointer (some ⟨w7.heap.size,0,none⟩)),(.int .i64 ((9:Nat):Int)),(.bool x36_0)]) Z Aa fun w53 ac j3 c1=>?_
  have i4:=ac.size
  have d9:=c0.trans ac
  have ax:=b9.ext ((Ao (AS 153 6))) ac
  have a2:=ba.ext ((Ao (AL 153 6))) ac
  have ay:=bb.ext ac
  have az:=a7.ext ac
  have a3:=a5.ext ac
  have a4:=a1.ext ac
  replace c1:BX w53.heap w45.heap.size [(.pointer (some ⟨gB2,0,none⟩)),(.pointer (some ⟨w7.heap.size,0,none⟩)),(.int .i64 ((9:Nat):Int)),(.bool x36_0)]:=c1
  refine Ac 1 Z ?_
  letI:JR:=QW [gB2,w45.heap.size]
  refine Jx.AO _ [0,1,0,0,1,0,1,0,3,3,4,0,4] mixed (by kernel_rfl) (Jx.Ak (p:=(.pointer (some ⟨w21.heap.size,0,none⟩))) (b:=w21.heap.size) (o:=0) 2 BL Z Z Aa (Jx.ZQ (p:=(Ap (.pointer (some ⟨w21.heap.size,0,none⟩)) 2)) vo Bd Z (fun wj hj=>(BX.chg (w:=w53.drew) (F:=[gB2,w45.heap.size]) a4 hj (fun hm=>by have:=CA hm;omega)).ldp (i:=2) sM) Aa (Jx.VU (.pointer (some ⟨w45.heap.size,0,none⟩)) Z Aa (Jx.Ak (p:=(.pointer (some ⟨w21.heap.size,0,none⟩))) (b:=w21.heap.size) (o:=0) 1 C2 Z Z Aa ?_))))
  refine Jx.ZQ (p:=(Ap (.pointer (some ⟨w21.heap.size,0,none⟩)) 1)) (.int .i64 (((1:Nat):Int)+x21_0)) AD Z (fun wj hj=>(BX.chg (w:=w53.drew) (F:=[gB2,w45.heap.size]) a4 hj (fun hm=>by have:=CA hm;omega)).ldp (i:=1) sM) Aa (Jx.Ak (p:=(.pointer (some ⟨w7.heap.size,0,none⟩))) (b:=w7.heap.size) (o:=0) 0 Bv Z Z Aa (Jx.ZQ (p:=(Ap (.pointer (some ⟨w7.heap.size,0,none⟩)) 0)) v7 BY Z (fun wj hj=>(BX.chg (w:=w53.drew) (F:=[gB2,w45.heap.size]) a3 hj (fun hm=>by have:=CA hm;omega)).ldp (i:=0) sM) Aa (Jx.j1 (AQ (v:=v7) Gb Z a2.isSlS Aa (Aj ?_)))))
  refine Jx.As 124 [] [] [(.pointer (some ⟨w45.heap.size,0,none⟩)),(.int .i64 (((1:Nat):Int)+x21_0)),(.int .i64 ((p7.length:Nat):Int)),(.int .i64 ((4:Nat):Int))] Z Z Mu Aa (Tx 4 _ w45.heap.size gB2 vc cs m (.pointer (some ⟨w7.heap.size,0,none⟩)) 6 ((9:Nat):Int) x36_0 p7 (((1:Nat):Int)+x21_0) (((p7.length:Nat):Int)) oM ay c1 (RN.box a3 (RP.mk' (RN.of_frF2 a2 (fun b hb=>by have:=CA hb;omega))) (fun hb=>by have:=CA hb;omega)) oM oM oM oM (by exact hdp.gpr) oM oM oM) ?_
  rintro e57 w57 ⟨v57,x57,n57,l57,rfl,a6,em,j4,en,c2,eo,j5⟩
  refine⟨_,rfl,a6,?_⟩
  replace c2:=c2.low (B':=w53.heap.size) (A7 _)
  replace a6:=a6.of_drew
  have i5:w53.heap.size≤w57.heap.size:=a6.size
  have ep:AF w w57:=a6.below d9 (fun c hc=>by have:=CA hc;omega) d9.size
  have eq:=ax.chg ((Ao (AS 153 6))) a6 (fun c hc=>by have:=CA hc;omega)
  have er:=a2.chg ((Ao (AL 153 6))) a6 (fun c hc=>by have:=CA hc;omega)
  have es:=az.chg a6 (fun hm=>by have:=CA hm;omega)
  have et:=a3.chg a6 (fun hm=>by have:=CA hm;omega)
  have eu:=a4.chg a6 (fun hm=>by have:=CA hm;omega)
  refine Jx.TS Z (EZ (cs:=[(.int .i64 x57.kind),(.int .i64 x57.num),(.int .i64 x57.pick),(.int .i64 x57.count),v57]) (y:=x57) (B:=w53.heap.size) (AS 153 6) D1 Bk Z (by decide) Z (MB.le (MB.mk1 (d:=5) oM eo c2) oM) oM Aa fun v63 w63 a8 j6 ev=>?_)
  have i6:=a8.size
  have da:=ep.trans a8
  have bg:=eq.ext ((Ao (AS 153 6))) a8
  have bh:=er.ext ((Ao (AL 153 6))) a8
  have bi:=em.ext a8
  have bj:=es.ext a8
  have bk:=et.ext a8
  have bl:=eu.ext a8
  have bm:=en.ext a8
  refine Is (v:=vo) (a:=v63) (AS 153 6) D1 Bk Z (by decide) Z Z bg oM ev oM oM (by have:=hff.len;omega) (by have:=hff.len;unfold maxLen;omega) Aa fun v64 Da F64 ad ai db=>?_
  have i7:w63.heap.size≤Da.heap.size:=ad.size
  have dc:AF w Da:=ad.below da (fun c hc=>by have:=ai _ hc;omega) da.size
  have ew:=bh.chg ((Ao (AL 153 6))) ad (fun c hc=>by have:=ai _ hc;omega)
  have ex:=bi.chg ad (fun c hc=>by have:=ai _ hc;omega)
  have ey:=bj.chg ad (fun hm=>by have:=ai _ hm;omega)
  have ez:=bk.chg ad (fun hm=>by have:=ai _ hm;omega)
  have g0:=bl.chg ad (fun hm=>by have:=ai _ hm;omega)
  have g1:=bm.chg ad (fun hm=>by have:=ai _ hm;omega)
  refine Ak (p:=(.pointer (some ⟨w21.heap.size,0,none⟩))) (b:=w21.heap.size) (o:=0) 2 BL Z Z Aa (Be (k:=2) (w:=Da) QS Z Z (Bp db.isSlS) g0 sM Aa fun w71 ae j7 c3=>?_)
  replace c3:BX w71.heap w21.heap.size [(.string x16_0),(.int .i64 (((1:Nat):Int)+x21_0)),v64]:=c3
  have i8:Da.heap.size≤w71.heap.size:=ae.size
  have g2:AF w w71:=ae.below dc (fun c hc=>by have:=A9 hc;omega) dc.size
  have g3:=ew.chg ((Ao (AL 153 6))) ae (fun c hc=>by have:=A9 hc;omega)
  have g4:=ex.chg ae (fun c hc=>by have:=A9 hc;omega)
  have g5:=ey.chg ae (fun hm=>by have:=A9 hm;omega)
  have g6:=ez.chg ae (fun hm=>by have:=A9 hm;omega)
  have j8:=g1.chg ae (fun hm=>by have:=A9 hm;omega)
  have g7:=db.chg ((Ao (AS 153 6))) ae (fun c hc=>by have:=A9 hc;omega)
  exact Aj (Ab _ [0,0,0] Z (Ad 1 Z (AP ((i+1:Nat):Int) Z Z (Bl oM oM) Aa (Ac 1 Z ⟨((i+1),v64,(xs++[x57]),n57),_,rfl,⟨rfl,rfl,rfl,rfl,rfl,rfl,trivial⟩,⟨g2,g7.up (Ao (AS 153 6)),g3,g4,g5,g6,c3,oM,(by exact(hff.snoc (funcs:=((p7.length:Nat):Int)) (d:=4) (l0:=9) oM oM oM (Nn.npl (by assumption)))),oM,oM,oM,oM,oM,oM,oM,oM,oM⟩,by first|omega|(dsimp only;omega)⟩))))
 ·refine AG false Z Z (A6 d7) Aa (Aj (Ah Z (A4 (Ax (Ax (At (A0 (Ab _ [0,2,2,3,4,0,4] Z (Ak (p:=(.pointer (some ⟨w7.heap.size,0,none⟩))) (b:=w7.heap.size) (o:=0) 0 Bv Z Z Aa (Ai (p:=(Ap (.pointer (some ⟨w7.heap.size,0,none⟩)) 0)) (.inr Z) v7 BY Z (a5.ldp (i:=0) sM) Aa (AK (p:=(.pointer (some ⟨w21.heap.size,0,none⟩))) (.inr Z) [(.string x16_0),(.int .i64 (((1:Nat):Int)+x21_0)),vo] Jm Z (fun wq9 j9=>LD.of_box (BX.ext (w:=w45) a1 j9)) Z Aa ?_)))))))))))
  refine EZ (cs:=[(.string x16_0),(.int .i64 (((1:Nat):Int)+x21_0)),vo]) (y:=(Fn.mk x16_0 (((1:Nat):Int)+x21_0) xs)) (B:=w36.heap.size) (AL 153 6) Gb Cj Z (by decide) Z (MB.mkF (x:=⟨x16_0,(((1:Nat):Int)+x21_0),xs⟩) (RO (a:=(((1:Nat):Int)+x21_0)) oM) b9) oM Aa fun v78 w78 aj ja g8=>?_
  have i9:=aj.size
  have dd:=c0.trans aj
  have b0:=ba.ext ((Ao (AL 153 6))) aj
  have b1:=bb.ext aj
  have b2:=a7.ext aj
  have b3:=a5.ext aj
  have b4:=a1.ext aj
  refine X2 (v:=v7) (a:=v78) (AL 153 6) Gb Cj Z (by decide) Z Z b0 g8 oM oM (by unfold maxLen;omega) Aa fun v79 w79 F79 b5 bc de=>?_
  have ia:w78.heap.size≤w79.heap.size:=b5.size
  have df:AF w w79:=b5.below dd (fun c hc=>by have:=bc _ hc;omega) dd.size
  have g9:=b1.chg b5 (fun c hc=>by have:=bc _ hc;omega)
  have ga:=b2.chg b5 (fun hm=>by have:=bc _ hm;omega)
  have gb:=b3.chg b5 (fun hm=>by have:=bc _ hm;omega)
  have gc:=b4.chg b5 (fun hm=>by have:=bc _ hm;omega)
  refine Ak (p:=(.pointer (some ⟨w7.heap.size,0,none⟩))) (b:=w7.heap.size) (o:=0) 0 Bv Z Z Aa (Be (k:=0) (w:=w79) Zo Z Z (Bp (QD.isSlS de)) gb sM Aa fun w84 b6 jb c4=>?_)
  replace c4:BX w84.heap w7.heap.size [v79]:=c4
  have ib:w79.heap.size≤w84.heap.size:=b6.size
  have dg:AF w w84:=b6.below df (fun c hc=>by have:=A9 hc;omega) df.size
  have gd:=g9.chg b6 (fun c hc=>by have:=A9 hc;omega)
  have ge:=ga.chg b6 (fun hm=>by have:=A9 hm;omega)
  have dh:=gc.chg b6 (fun hm=>by have:=A9 hm;omega)
  have gf:=de.chg (Ao (AL 153 6)) b6 (fun c hc=>by have:=A9 hc;intro jc;(try dsimp only at jc);omega)
  have gg:=gf.fr (Ao (AL 153 6)) (B:=w5.heap.size) (fun b hb=>by(try dsimp only at hb);omega)
  refine Aj (A0 (Ab _ [0,0,2,4,0] Z (Ad 1 Z (Ak (p:=(.pointer (some ⟨w21.heap.size,0,none⟩))) (b:=w21.heap.size) (o:=0) 1 C2 Z Z Aa (Ai (p:=(Ap (.pointer (some ⟨w21.heap.size,0,none⟩)) 1)) (.inr Z) (.int .i64 (((1:Nat):Int)+x21_0)) AD Z (dh.ldp (i:=1) sM) Aa (AA 69 [] [] [(.pointer (some ⟨gB2,0,none⟩)),(.int .i64 (((1:Nat):Int)+x21_0))] Z Z XN Aa (Fq _ gB2 _ _ _ (((1:Nat):Int)+x21_0) gd oM oM oM) ?_))))))
  rintro e90 w90 ⟨au,x90_0,n90,rfl,b7,gh,jd,c5,c6⟩
  refine⟨_,rfl,?_⟩
  have ic:w84.heap.size≤w90.heap.size:=b7.size
  have di:AF w w90:=b7.below dg (fun c hc=>by have:=A9 hc;omega) dg.size
  have gi:=ge.chg b7 (fun hm=>by have:=A9 hm;omega)
  have gj:=c4.chg b7 (fun hm=>by have:=A9 hm;omega)
  have dj:=dh.chg b7 (fun hm=>by have:=A9 hm;omega)
  have gk:=gg.chg ((Ao (AL 153 6))) b7 (fun c hc=>by have:=A9 hc;omega)
  have hst:=c6
  refine Ac 1 Z (A0 (Ab _ [0,0,2,4,0] Z (Ad 1 Z (Ak (p:=(.pointer (some ⟨w21.heap.size,0,none⟩))) (b:=w21.heap.size) (o:=0) 1 C2 Z Z Aa (Ai (p:=(Ap (.pointer (some ⟨w21.heap.size,0,none⟩)) 1)) (.inr Z) (.int .i64 (((1:Nat):Int)+x21_0)) AD Z (dj.ldp (i:=1) sM) Aa (AA 69 [] [] [(.pointer (some ⟨gB2,0,none⟩)),(.int .i64 (((1:Nat):Int)+x21_0))] Z Z XN Aa (Fq _ gB2 _ _ _ (((1:Nat):Int)+x21_0) gh oM oM oM) ?_))))))
  rintro e95 w95 ⟨av,x95_0,n95,rfl,ak,je,jf,c7,c8⟩
  refine⟨_,rfl,?_⟩
  have id:w90.heap.size≤w95.heap.size:=ak.size
  have dk:AF w w95:=ak.below di (fun c hc=>by have:=A9 hc;omega) di.size
  have gl:=gi.chg ak (fun hm=>by have:=A9 hm;omega)
  have c9:=gj.chg ak (fun hm=>by have:=A9 hm;omega)
  have gm:=dj.chg ak (fun hm=>by have:=A9 hm;omega)
  have ca:=gk.chg ((Ao (AL 153 6))) ak (fun c hc=>by have:=A9 hc;omega)
  have dl:=c5.chg (o1) ak (fun c hc=>by have:=A9 hc;omega)
  have hsw:=c8
  refine Ac 1 Z (A0 ?_)
  letI:JR:=QW [w.heap.size]
  refine Jx.AO _ [1,0,1,0,0,0,0,3,0,0,0] mixed (by kernel_rfl) (Jx.Y6 (p:=(.pointer (some ⟨w7.heap.size,0,none⟩))) [v79] BZ Z (fun wj hj=>LD.of_box (BX.chg (w:=w95.drew) (F:=[w.heap.size]) c9 hj (fun hm=>by have:=A9 hm;omega))) Z Aa (Jx.Ak (p:=(.pointer (some ⟨w7.heap.size,0,none⟩))) (b:=w7.heap.size) (o:=0) 0 Bv Z Z Aa (Jx.ZQ (p:=(Ap (.pointer (some ⟨w7.heap.size,0,none⟩)) 0)) v79 BY Z (fun wj hj=>(BX.chg (w:=w95.drew) (F:=[w.heap.size]) c9 hj (fun hm=>by have:=A9 hm;omega)).ldp (i:=0) sM) Aa (Jx.j1 (AQ (v:=v79) Gb Z ca.isSlS Aa (Aj (Jx.j1 ?_)))))))
  refine Bs ((((p7++[(Fn.mk x16_0 (((1:Nat):Int)+x21_0) xs)]).length:Nat):Int)-((1:Nat):Int)) Z Z (Da sD sD) Aa (Aj ?_)
  refine Jx.VU au Z Aa (Jx.VU av Z Aa (Jx.cC (Bz (vs:=[v79]) BZ Z Z (by intro u hu;simp only[List.mem_cons,List.not_mem_nil,or_false]at hu;rcases hu with rfl <;> first|exact⟨rfl,rfl⟩|exact Bp ca.isSlS) gl Z Z Aa fun w101 a0 ie bd=>?_)))
  replace bd:BX w101.heap w.heap.size [v79]:=bd
  replace a0:=a0.of_drew
  have gn:w95.heap.size≤w101.heap.size:=a0.size
  have dm:AF w w101:=a0.below dk (fun c hc=>by have:=A9 hc;omega) dk.size
  have ig:=c9.chg a0 (fun hm=>by have:=A9 hm;omega)
  have ih:=gm.chg a0 (fun hm=>by have:=A9 hm;omega)
  have dn:=ca.chg ((Ao (AL 153 6))) a0 (fun c hc=>by have:=A9 hc;omega)
  have dp:=dl.chg (o1) a0 (fun c hc=>by have:=A9 hc;omega)
  have dq:=c7.chg (o1) a0 (fun c hc=>by have:=A9 hc;omega)
  refine Aj ⟨⟨a0.os,a0.tape,a0.output,a0.size,a0.block⟩,?_⟩
  refine Jx.R7 (.int .i64 ((((p7++[(Fn.mk x16_0 (((1:Nat):Int)+x21_0) xs)]).length:Nat):Int)-((1:Nat):Int))) Z Aa (Jx.R7 au Z Aa (Jx.R7 av Z Aa (Jx.Aj (A1 ?_))))
  exact JD (t0:=3) (ts:=[4,5]) (cs:=[v79]) [(.int .i64 ((((p7++[(Fn.mk x16_0 (((1:Nat):Int)+x21_0) xs)]).length:Nat):Int)-((1:Nat):Int))),au,av] Z BZ Z bd Z Z ⟨v79,au,av,(p7++[(Fn.mk x16_0 (((1:Nat):Int)+x21_0) xs)]),((((p7++[(Fn.mk x16_0 (((1:Nat):Int)+x21_0) xs)]).length:Nat):Int)-((1:Nat):Int)),x90_0,x95_0,rfl,dm,((dn.up (Ao (AL 153 6))).low (B':=w.heap.size) oM),((dp.up o1).low (B':=w.heap.size) oM),((dq.up o1).low (B':=w.heap.size) oM),(by exact Us.mk' (i:=i) hdp hdn oM ⟨by show 1≤(((1:Nat):Int)+x21_0);omega,by show(((1:Nat):Int)+x21_0)≤3;omega⟩ hff (by show _=(((1:Nat):Int)+x21_0);omega) hnm (by rw[List.length_append,List.length_singleton];omega) ⟨by show _=(((1:Nat):Int)+x21_0);omega,hst.2⟩ ⟨by show _=(((1:Nat):Int)+x21_0);omega,hsw.2⟩)⟩
theorem HK (w:World)(vc:Value)(cs:List UInt8)(n:Int)(hcs:Rd (B3 rU) w.heap vc cs)(_hn:Bx n)(hn:n≤1000000) :
  Calls Tryz.prog 43 #[vc,.int .i64 n] w (fun e w'=>∃(x0:Int),e=.returned (.int .i64 x0)∧AF w w'∧(0≤x0∧x0≤1000000∧(1≤n→x0<n))):=by
 refine Aq [vc,.int .i64 n] 11 Tryz.func43 Z Z sM ?_
 have a1:AF w w:=AF.refl w
 have hl_vc:=hcs.lenle
 refine A0 (Ab _ [0] Z (Ac 1 Z (A0 (Ab _ [0,3,0] Z (Ad 1 Z (As 66 [] [] [vc] Z Z XM Aa (Fs _ _ _ (hcs.ext Cx a1)) ?_))))))
 rintro e1 w1 ⟨gB1,rfl,a0,a5,a9⟩
 refine⟨_,rfl,a0,?_⟩
 have a6:=a0.size
 have a2:=a1.trans a0
 refine Ac 1 Z (A0 (Ab _ [0,0,4,0] Z (Ad 2 Z (AA 68 [] [] [(.pointer (some ⟨gB1,0,none⟩)),(.int .i64 n)] Z Z H8 Aa (AV _ gB1 _ _ _ _ a5 oM _hn (by exact hn)) ?_))))
 rintro e2 w2 ⟨x2_0,n2,rfl,a3,aa,ab,a4⟩
 refine⟨_,rfl,?_⟩
 have a7:w1.heap.size≤w2.heap.size:=a3.size
 have a8:AF w w2:=a3.below a2 (fun b hb=>by have:b=gB1:=(by simpa using hb);omega) a2.size
 exact Ac 1 Z (A1 (Af [4] Z (.int .i64 x2_0) Z ⟨x2_0,rfl,a8,(by assumption)⟩))
theorem Jq (w:World)(vc:Value)(cs:List UInt8)(k:Int)(hcs:Rd (B3 rU) w.heap vc cs)(_hk:Bx k)(hk:k≤1000) :
  Calls Tryz.prog 49 #[vc,.int .i64 k] w (fun e w'=>∃v0:Value,∃(x0:List Int),e=.returned (v0)∧AF w w'∧Fr (Bh rI 2) w.heap.size w'.heap.size w'.heap v0 x0∧(x0.length=k.toNat∧B2 x0=true)):=by
 refine Aq [vc,.int .i64 k] 11 Tryz.func49 Z Z sM ?_
 have a4:AF w w:=AF.refl w
 have hl_vc:=hcs.lenle
 refine A0 (Ab _ [0] Z (Ac 1 Z (A0 (Ab _ [0,3,0] Z (Ad 1 Z (As 66 [] [] [vc] Z Z XM Aa (Fs _ _ _ (hcs.ext Cx a4)) ?_))))))
 rintro e1 w1 ⟨gB1,rfl,a2,a7,ab⟩
 refine⟨_,rfl,a2,?_⟩
 have a8:=a2.size
 have a3:=a4.trans a2
 refine Ac 1 Z (A0 (Ab _ [0,0,4,0] Z (Ad 2 Z (AA 69 [] [] [(.pointer (some ⟨gB1,0,none⟩)),(.int .i64 k)] Z Z XN Aa (Fq _ gB1 _ _ _ _ a7 oM _hk (by exact hk)) ?_))))
 rintro e2 w2 ⟨a0,x2_0,n2,rfl,a5,ac,ad,a1,a6⟩
 refine⟨_,rfl,?_⟩
 have a9:w1.heap.size≤w2.heap.size:=a5.size
 have aa:AF w w2:=a5.below a3 (fun b hb=>by have:b=gB1:=(by simpa using hb);omega) a3.size
 exact Ac 1 Z (A1 (Af [4] Z a0 Z ⟨a0,x2_0,rfl,aa,(a1.up o1).low a3.size,(by assumption)⟩))
theorem Jr (w:World)(vc:Value)(cs:List UInt8)(hcs:Rd (B3 rU) w.heap vc cs)  :
  Calls Tryz.prog 41 #[vc] w (fun e w'=>e=.returned (.bool (decide (((4096:Nat):Int)<((cs.length:Nat):Int))))∧AF w w'):=by
 refine Aq [vc] 6 Tryz.func41 Z Z sM ?_
 have a0:AF w w:=AF.refl w
 have hl_vc:=hcs.lenle
 exact A0 (Ab _ [0] Z (Ac 1 Z (A0 (Ab _ [0,0,0,0] Z (Ad 1 Z (AQ (v:=vc) QT Z hcs.isSl Aa (BU (decide (((4096:Nat):Int)<((cs.length:Nat):Int))) Z Z Z Aa (Ac 1 Z (A1 (Af [2] Z (.bool (decide (((4096:Nat):Int)<((cs.length:Nat):Int)))) Z ⟨rfl,a0⟩))))))))))
theorem Ih (w:World)(va:Value)(a:List Int)(vb:Value)(b:List Int)(ha:Rd (B3 rI) w.heap va a)(hb:Rd (B3 rI) w.heap vb b)  :
  Calls Tryz.prog 48 #[va,vb] w (fun e w'=>e=.returned (.bool (decide (a=b)))∧AF w w'):=by
 refine Aq [va,vb] 26 Tryz.func48 Z Z sM ?_
 have a1:AF w w:=AF.refl w
 have hl_va:=ha.lenle
 have hl_vb:=hb.lenle
 refine A0 (Ab _ [0] Z (Ac 1 Z (A0 (A0 (Ab _ [0,0,0,0,0] Z (Ad 1 Z (AQ (v:=va) Bt Z ha.isSl Aa (Ad 1 Z (AQ (v:=vb) Bt Z hb.isSl Aa ?_)))))))))
 by_cases a2:((a.length:Nat):Int)≠((b.length:Nat):Int)
 ·exact AT true Z Z (A5 a2) Aa (Aj (Ag Z (A0 (Ab _ [0] Z (Ac 1 Z (A1 (Al (Af [4] Z (.bool false) Z ⟨(AI (A6 (TL oM)).symm),a1⟩))))))))
 ·refine AT false Z Z (A6 a2) Aa (Aj (Ah Z (A2 (A0 (A0 (Ab _ [0] Z (Ac 1 Z (A3 (B1 (S:=Nat) (fun k=>([(5,(.int .i64 ((k:Nat):Int))),(0,va),(1,vb)])) (fun k W=>AF w W∧k≤a.length∧(∀j,j<k→a.getD j 0=b.getD j 0)) (fun k=>a.length-k) 0 ⟨rfl,rfl,rfl,trivial⟩ ⟨a1,sD,(by intro j hj;omega)⟩ ?_)))))))))
  clear a1
  rintro k ρ2 w2 ⟨a0,a3,hq⟩
  have a6:w.heap.size≤w2.heap.size:=a0.size
  refine A0 (A0 (Ab _ [0,0,0,0] Z (Ad 2 Z (AQ (v:=va) Bt Z ha.isSl Aa ?_))))
  by_cases a4:((k:Nat):Int)<((a.length:Nat):Int)
  ·refine AG true Z Z (A5 a4) Aa (Aj (Ag Z (A2 (A0 (A3 (A0 (AO _ [0,0,0,1,0,0,0,1,0] mixed (by kernel_rfl) (Ad 2 Z (AB (v:=va) k Bt BT Z Z ha.isSl Z sD Aa ?_)))))))))
   refine Ai (p:=Ay va k 1) (.inl Z) (.int .i64 (a.getD k 0)) AD Z (AZ a0.drew (ha.getI sD).1) Aa (Ad 2 Z ?_)
   refine AB (v:=vb) k Bt BT Z Z hb.isSl Z sD Aa ?_
   refine Ai (p:=Ay vb k 1) (.inl Z) (.int .i64 (b.getD k 0)) AD Z (AZ a0.drew (hb.getI sD).1) Aa ?_
   by_cases a5:a.getD k 0≠b.getD k 0
   ·exact AT true Z Z (A5 a5) Aa (Aj (Ag Z (A0 (Ab _ [0] Z (Ac 1 Z (A1 (AC (Al (Al (AC (Al (Af [4] Z (.bool false) Z ⟨(AI (A6 (Rt (d:=0) (k:=k) oM)).symm),a0.drew⟩))))))))))))
   ·refine AT false Z Z (A6 a5) Aa (Aj (Ah Z (A2 (Ab _ [0,0,0] Z (Ad 1 Z (AP ((k+1:Nat):Int) Z Z (Bl oM sD) Aa (Ac 1 Z ?_)))))))
    exact⟨(k+1),_,rfl,⟨rfl,rfl,rfl,trivial⟩,⟨a0.drew,sD,(by exact Rr hq oM)⟩,by first|omega|(dsimp only;omega)⟩
  ·exact AG false Z Z (A6 a4) Aa (Aj (Ah Z (A4 (Ax (Ax (At (A0 (Ab _ [0] Z (Ac 1 Z (A1 (Af [4] Z (.bool true) Z ⟨(AI (A5 (NC hq oM oM)).symm),a0⟩)))))))))))
theorem QU {a b:List (List Int)}{k:Nat}(h:∀j,j<k→a.getD j []=b.getD j [])(h1:a.length=k)(h2:b.length=k):a=b:=Ue (by omega) fun j hj=>h j (by omega)
theorem QV {a b:List (List Int)}{k:Nat}(h:¬a.getD k []=b.getD k []):¬a=b:=fun e=>h (by rw[e])
theorem ZJ {p:Prop} [Decidable p] (h:(!decide p)=true):¬p:=by simpa using h
theorem ZK {p:Prop} [Decidable p] (h:(!decide p)=false):p:=by simpa using h
theorem Ii (w:World)(va:Value)(a:List (List Int))(vb:Value)(b:List (List Int))(ha:Rd (B3 (B3 rI)) w.heap va a)(hb:Rd (B3 (B3 rI)) w.heap vb b)  :
  Calls Tryz.prog 46 #[va,vb] w (fun e w'=>e=.returned (.bool (decide (a=b)))∧AF w w'):=by
 refine Aq [va,vb] 27 Tryz.func46 Z Z sM ?_
 have a2:AF w w:=AF.refl w
 have hl_va:=ha.lenle
 have hl_vb:=hb.lenle
 refine A0 (Ab _ [0] Z (Ac 1 Z (A0 (A0 (Ab _ [0,0,0,0,0] Z (Ad 1 Z (AQ (v:=va) BH Z ha.isSl Aa (Ad 1 Z (AQ (v:=vb) BH Z hb.isSl Aa ?_)))))))))
 by_cases a3:((a.length:Nat):Int)≠((b.length:Nat):Int)
 ·exact AT true Z Z (A5 a3) Aa (Aj (Ag Z (A0 (Ab _ [0] Z (Ac 1 Z (A1 (Al (Af [4] Z (.bool false) Z ⟨(AI (A6 (fun e=>by have:=congrArg List.length e;omega)).symm),a2⟩))))))))
 ·refine AT false Z Z (A6 a3) Aa (Aj (Ah Z (A2 (A0 (A0 (Ab _ [0] Z (Ac 1 Z (A3 (B1 (S:=Nat) (fun k=>([(5,(.int .i64 ((k:Nat):Int))),(0,va),(1,vb)])) (fun k W=>AF w W∧k≤a.length∧(∀j,j<k→a.getD j []=b.getD j [])) (fun k=>a.length-k) 0 ⟨rfl,rfl,rfl,trivial⟩ ⟨a2,sD,(by intro j hj;omega)⟩ ?_)))))))))
  clear a2
  rintro k ρ2 w2 ⟨a0,a4,hq⟩
  have ac:w.heap.size≤w2.heap.size:=a0.size
  refine A0 (A0 (Ab _ [0,0,0,0] Z (Ad 2 Z (AQ (v:=va) BH Z ha.isSl Aa ?_))))
  by_cases a5:((k:Nat):Int)<((a.length:Nat):Int)
  ·refine AG true Z Z (A5 a5) Aa (Aj (Ag Z (A2 (A0 (A3 (A0 (AO _ [0,0,0,1,0,0,0,1,3,0] mixed (by kernel_rfl) (Ad 2 Z (AB (v:=va) k BH B8 Z Z ha.isSl Z sD Aa ?_)))))))))
   obtain⟨a6,ad,a7⟩:=ha.get (k:=k) [] sD
   have ae:=a7.lenle
   refine Ai (p:=Ay va k 1) (.inl Z) a6 Bj Z (AZ a0.drew ad) Aa (Ad 2 Z (AB (v:=vb) k BH B8 Z Z hb.isSl Z sD Aa ?_))
   obtain⟨a8,af,a9⟩:=hb.get (k:=k) [] sD
   have ag:=a9.lenle
   refine Ai (p:=Ay vb k 1) (.inl Z) a8 Bj Z (AZ a0.drew af) Aa (As 48 [] [] [a6,a8] Z Z YC Aa (Ih _ _ _ _ _ (a7.ext g1 a0.drew) (a9.ext g1 a0.drew)) ?_)
   rintro e6 w6 ⟨rfl,a1⟩
   refine⟨_,rfl,a1,?_⟩
   replace a1:=a1.of_drew
   have ah:=a1.size
   have aa:=a0.trans a1
   refine Bn (!(decide ((a.getD k [])=(b.getD k [])))) Z Z Aa (Aj ?_)
   cases ab:(!(decide ((a.getD k [])=(b.getD k []))))
   ·refine Ah (by first|rfl|(show Value.bool _=_;rw[ab])) (A2 (Ab _ [0,0,0] Z (Ad 1 Z (AP ((k+1:Nat):Int) Z Z (Bl oM sD) Aa (Ac 1 Z ?_)))))
    exact⟨(k+1),_,rfl,⟨rfl,rfl,rfl,trivial⟩,⟨aa,sD,(by intro j hj;by_cases e:j=k;(subst e;exact ZK (by assumption));exact hq j oM)⟩,by first|omega|(dsimp only;omega)⟩
   ·exact Ag (by first|rfl|(show Value.bool _=_;rw[ab])) (A0 (Ab _ [0] Z (Ac 1 Z (A1 (AC (Al (Al (AC (Al (Af [4] Z (.bool false) Z ⟨(AI (A6 (QV (k:=k) (ZJ (by assumption)))).symm),aa⟩))))))))))
  ·exact AG false Z Z (A6 a5) Aa (Aj (Ah Z (A4 (Ax (Ax (At (A0 (Ab _ [0] Z (Ac 1 Z (A1 (Af [4] Z (.bool true) Z ⟨(AI (A5 (QU hq oM oM)).symm),a0⟩)))))))))))
end
end Go.Proofs.YtbajepcpgncekaaGreat
