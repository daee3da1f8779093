/- Yb, Yc, Yd, Ye, Yr, Ys: texts of this claim, joined; what the claim does not come to is left out. -/
import Derived.Test.YtbajepcpgncekaaGreatQI4
import Derived.Test.YtbajepcpgncekaaGreatProg
set_option linter.unusedVariables false
set_option linter.unusedSimpArgs false
namespace Go.Proofs.YtbajepcpgncekaaGreat
open Go Go.RowKit
section
set_option maxHeartbeats 4000000
set_option maxRecDepth 100000
attribute [local irreducible] LW
theorem Y0:∀F d,ZZ F d:=by
 intro F
 induction F using Nat.strongRecOn with
 |_ F ihF =>
  intro d
  induction d using Nat.strongRecOn with
  |_ d ihd =>
   intro w S g vp dp ip s0 c0 p T ve ex vv env hS hgS a0 hp hip a1 a2 hbd hex henv hqenv hvp hF hwf hdp hen
   exact I3 w S F g vp dp ip s0 c0 p T d ve ex vv env hS hgS a0 hp hip a1 a2 hbd hex henv hqenv hvp hF hwf hdp hen ihF ihd
theorem Y1 (F d:Nat):cY F d:=P8 F d fun d' _=>Y0 F d'
theorem Qo {p:Prop}(h:p:=by have h9:=hm;rw[hSd]at h9;have:=A9 h9;omega):p:=h
theorem Tz {p:Prop}(h:p:=by simp only[List.map_toArray,List.map_cons,List.map_nil];rfl):p:=h
theorem M6 (w:World)(dp:Nat)(vp:Value)(p:List Fn)(f:Int)(va:Value)(a:List Int)(hp:RP [] dp w.heap vp p)(_hf:Bw f)(ha:RN [] (B2 rI) w.heap va a)(hok:JF p=true)(hz:QL p)(hf:0≤f∧f<(p.length:Int))(hl:(a.length:Int)=(p.getD f.toNat Fn.zero).params)(hna:AV a=true) :
  Calls Tryz.prog 29 #[(.agg #[vp]),zI f,va] w (fun e w'=>∃(i0:Int) (vc vg vo:Value) (xs:List Int) (T':Tp) (s1:Nat) (c1:Int),e=.returned (.tuple #[.agg #[zI i0,vc,vg,vo],zI c1])∧AG w w'∧AH (QB p f.toNat a) (xs,T') s1 c1∧(0≤c1∧c1≤9)∧(∀u∈[vc,vg,vo],u.cells=#[u]∧u.oneCell'=true)∧Bw i0∧(c1=0→i0=(p.getD f.toNat Fn.zero).params∧JK T' s1∧s1≤3000∧xs.length=(p.getD f.toNat Fn.zero).outs.length∧K8 T' xs∧RG w.heap.size (DS 4 Oi) w'.heap vc T'.code∧RG w.heap.size (DS 2 Oj) w'.heap vg T'.grd∧RG w.heap.size (B2 rI) w'.heap vo xs)):=by
 refine Ap [.agg #[vp],zI f,va] 87 Tryz.func29 Z Z sM ?_
 have dq:AG w w:=AG.refl w
 have f7:=hp.lenle
 unfold maxLen at f7
 have f8:=ha.lenL
 unfold maxLen at f8
 have f9:=J7 hok
 have fv:=f9.par f.toNat oM
 have fw:=f9.outs f.toNat oM
 have hi:Gg p f=0:=by unfold Gg;rw[if_pos hok,if_pos oM]
 refine cP [3,3,0] Z (Bx (cs:=#[vp]) Z Aa fun w1 cj e8 cf=>?_)
 have ck:=cj.size
 have dr:=dq.trans cj
 replace cf:BX w1.heap w.heap.size [vp]:=cf
 have ey:=cf.lt
 refine Bp (z:=.agg #[zI 0,zN,zN,zN]) ZM Aa fun w2 cg e9 cl=>?_
 have cm:=cg.size
 have cn:=dr.trans cg
 have aq:=cf.ext cg
 replace cl:BX w2.heap w1.heap.size [zI 0,zN,zN,zN]:=cl
 refine Ac 1 Z<|cP [2,0,3,0] Z<|AM (p:=zP w.heap.size) (.inr Z) [vp] CI Z (fun fj ba=>LD.of_box<|BX.ext (w:=w2) aq ba) Z Aa<|Ad 1 Z<|Au 100 [] [] [.agg #[vp],zI f] Z Z Vt Aa (Ie _ dp vp (p) _ (hp.ext (Am<|Av dp) cn) _hf hz) ?_
 rintro e4 w4 ⟨rfl,b8⟩
 refine⟨_,rfl,b8,?_⟩
 have co:=b8.size
 have bb:=cn.trans b8
 have ar:=aq.ext b8
 have bc:=cl.ext b8
 refine Ac 1 Z<|A0<|cP [0,0,0,0,0,2,0,0,0,2,3,0,0] Z<|Ad 1 Z ?_
 have ea:Gg p f=((0:Nat):Int):=hi
 refine Al true Z Z (A5 ea) Aa<|Ad 2 Z<|Ak (p:=zP w.heap.size) 0 BA Z Z (Ae (e:=18) Z Z Z)<|Ah (p:=Ao (zP w.heap.size) 0) (.inr Z) vp C9 Z (ar.ldp (i:=0) sM) (Ae (e:=18) Z Z Z)<|Ad 1 Z<|AA (v:=vp) ((f).toNat) GF CC Z Z hp.isSl oM sD (Ae (e:=18) Z Z Z) ?_
 obtain⟨cs6,eb,ch⟩:=hp.get (Av dp) Fn.zero (k:=(f).toNat) sD
 obtain⟨ez,rfl,ds⟩:=RF.of eb
 have bd:=ds.rn.lenle
 unfold maxLen at bd
 refine AI (p:=Ay vp ((f).toNat) 3) 1 Cr Z (ch _<|At.of_ext [] bb) (Ae (e:=18) Z Z Z)<|Ah (p:=Ao (Ay vp ((f).toNat) 3) 1) (.inr Z) (zI<|(p.getD ((f).toNat) Fn.zero).params) AC Z ((ch _<|At.of_ext [] bb).ld (i:=1) (by simp[Fb,Fd])) (Ae (e:=18) Z Z Z)<|Au 86 [] [] [va,zI<|(p.getD ((f).toNat) Fn.zero).params] Z Z ST (Ae (e:=18) Z Z Z) (CD _ _ _ _ (ha.ext g1 bb).rd ds.rng) ?_
 rintro e7 w7 ⟨rfl,b9⟩
 refine⟨_,rfl,b9,?_⟩
 have cp:=b9.size
 have ci:=bb.trans b9
 have ae:=ar.ext b9
 have au:=bc.ext b9
 rw[show(decide ((a.length:Int)=((p.getD ((f).toNat) Fn.zero).params)) && AV a)=true from(by rw[A5 oM,hna];rfl)]
 refine Bv false Z Z (Ae (e:=18) Z Z Z)<|Ac 1 Z<|Ai Z<|A2<|A0<|cP [0,0] Z<|Ad 1 Z ?_
 have ec:¬(Gg p f≠((0:Nat):Int)):=(fun h9=>h9 hi)
 refine B4 false Z Z (A6 ec) Aa<|Aj<|Ai Z<|A2<|A0<|AP _ [1,0,1,0,0,0,1,0,0,3,0] mixed (by kernel_rfl)<|AM (p:=zP w.heap.size) (.inl Z) [vp] CI Z (fun fj ba=>LD.of_box<|BX.ext (w:=w7.drew) ae ba) Z Aa<|Ak (p:=zP w.heap.size) 0 BA Z Z Aa<|Ah (p:=Ao (zP w.heap.size) 0) (.inl Z) vp C9 Z (ae.ldp (i:=0) sM) Aa<|Ad 1 Z ?_
 refine AA (v:=vp) ((f).toNat) GF CC Z Z hp.isSl oM sD Aa<|AI (p:=Ay vp ((f).toNat) 3) 1 Cr Z (ch _<|At.of_ext [] ci.drew) Aa<|Ah (p:=Ao (Ay vp ((f).toNat) 3) 1) (.inl Z) (zI<|(p.getD ((f).toNat) Fn.zero).params) AC Z ((ch _<|At.of_ext [] ci.drew).ld (i:=1) (by simp[Fb,Fd])) Aa ?_
 have cq:∀(wq:World),(Instr.build 55 #[(0,zI ((p.getD ((f).toNat) Fn.zero).params))]).run Tryz.prog wq=.ok (.agg #[zI ((p.getD ((f).toNat) Fn.zero).params),zN,zN,zN]) wq:=by intro wq;kernel_rfl
 refine Cf (ps:=#[(0,zI<|(p.getD ((f).toNat) Fn.zero).params)]) (.agg #[zI<|(p.getD ((f).toNat) Fn.zero).params,zN,zN,zN]) Tz (fun wq=>cq  wq) Aa ?_
 have be:∀(vp:Value) (f2:Nat) (h10_0:ET vp f2) (wq:World),(Instr.build 129 #[(0,.agg #[vp]),(1,.agg #[zI ((p.getD ((f).toNat) Fn.zero).params),zN,zN,zN])]).run Tryz.prog wq=.ok (.agg #[vp,zI ((p.getD ((f).toNat) Fn.zero).params),zN,zN,zN,zN,zI 0,zI 0]) wq:=by intro vp f2 h10_0 wq;obtain⟨a10_0,fk,rfl,_⟩:=h10_0;kernel_rfl
 refine Cf (ps:=#[(0,.agg #[vp]),(1,.agg #[zI<|(p.getD ((f).toNat) Fn.zero).params,zN,zN,zN])]) (.agg #[vp,zI<|(p.getD ((f).toNat) Fn.zero).params,zN,zN,zN,zN,zI 0,zI 0]) Tz (fun wq=>be vp _ hp.isSl wq) Aa ?_
 have ed:=ae.lt
 have ee:=au.lt
 refine Bx (cs:=#[vp,zI<|(p.getD ((f).toNat) Fn.zero).params,zN,zN,zN,zN,zI 0,zI 0]) Z Aa fun f0 a9 cr ak=>?_
 replace a9:=a9.of_drew
 have bf:=a9.size
 have bg:=ci.trans a9
 have av:=ae.ext a9
 have aw:=au.ext a9
 replace ak:BX f0.heap w7.drew.heap.size [vp,zI ((p.getD ((f).toNat) Fn.zero).params),zN,zN,zN,zN,zI 0,zI 0]:=ak
 refine Ac 1 Z<|cP [3,0] Z ?_
 obtain⟨S,hSd⟩:∃S:List Nat,S=[w7.heap.size]:=⟨_,rfl⟩
 have hgS:w7.heap.size∈S:=by rw[hSd];exact List.mem_singleton.2 Z
 have hlr:w7.heap.size<f0.heap.size:=BX.lt ak
 have hMb:Cp 69 208 2 S w7.heap.size f0.heap zN zN zN (Ja a 0):=Cp.nil
 have hGb:FH S S w f0:=⟨fun _ h=>h,fun b hb=>.inl hb,fun b hb=>by rw[hSd]at hb;have:=A9 hb;omega,At.of_ext S bg⟩
 have hEb:At S w f0:=hGb.chg
 have hSn:∀b∈S,w.heap.size≤b:=fun b hb=>by rw[hSd]at hb;have:=A9 hb;omega
 have hBb:BX f0.heap w7.heap.size [vp,zI ((p.getD f.toNat Fn.zero).params),zN,zN,zN,zN,zI ((0:Nat):Int),zI ((0:Nat):Int)]:=ak
 have ax:RN S (DS 3 (UZ dp)) w.heap vp p:=by rw[hSd];exact RN.add (Am (Av dp)) hp (fun b hb=>by have:=A9 hb;omega)
 have ay:RN S (B2 rI) w.heap va a:=by rw[hSd];exact RN.add g1 ha (fun b hb=>by have:=A9 hb;omega)
 refine CH (rI) AK Bj BH Aa fun fp fl a4 ct bh=>?_
 have bi:f0.heap.size≤fl.heap.size:=a4.size
 have bj:At S w fl:=hEb.ext a4
 have az:=av.ext a4
 have b0:=aw.ext a4
 have b1:=hBb.ext a4
 have bk:=Cp.ext hMb a4
 have bl:=hGb.ext a4
 refine Ac 1 Z<|A0<|cP [0,0,0] Z<|Ad 1 Z<|AO (v:=va) Bj Z ay.slL Aa<|Ac 1 Z<|A3 ?_
 have hBO:w.heap.size≤f0.heap.size∧w7.heap.size<f0.heap.size:=by omega
 have bm:w.heap.size∉S:=fun hm=>Qo
 have bn:w1.heap.size∉S:=fun hm=>Qo
 obtain⟨Fo0,bo⟩:=Ow.of_fr bh (A7 _)
 have cu:∀b∈Fo0,b∉S:=fun b hb hm=>by have:=bo.low b hb;have:=hGb.lt b hm;omega
 have hMs:=bk
 have hGs:=bl
 have hnswheaps:w.heap.size∉S:=fun hm=>Qo
 have hnsw1heap:w1.heap.size∉S:=fun hm=>Qo
 refine AY (S:=Nat×Value×List Int×List Nat×List Nat×Value×Value×Value) (fun⟨k,vo,xs,Fo,S9,fa,vg9,vv9⟩=>([(10,vo),(46,zI (k:Int)),(1,zI f),(3,zP w.heap.size),(6,zP w1.heap.size),(9,zP w7.heap.size),(44,va),(45,zI (a.length:Int))])) (fun⟨k,vo,xs,Fo,S9,fa,vg9,vv9⟩ W=>At S w W∧BX W.heap w.heap.size [vp]∧BX W.heap w1.heap.size [zI 0,zN,zN,zN]∧BX W.heap w7.heap.size [vp,zI (p.getD f.toNat Fn.zero).params,fa,vg9,zN,vv9,zI ((0:Nat):Int),zI ((0:Nat):Int)]∧k≤a.length∧f0.heap.size≤W.heap.size∧FH S S9 w W∧Cp 69 208 2 S9 w7.heap.size W.heap fa vg9 vv9 (Ja a k)∧Ow (Bt rI 2) f0.heap.size W.heap.size W.heap vo xs Fo∧(∀b∈Fo,b∉S9)∧xs=GR k∧w.heap.size∉S9∧w1.heap.size∉S9) (fun⟨k,vo,xs,Fo,S9,fa,vg9,vv9⟩=>a.length-k) (0,fp,[],Fo0,S,zN,zN,zN) ⟨rfl,rfl,rfl,rfl,rfl,rfl,rfl,rfl,trivial⟩ ⟨bj,az,b0,b1,oM,oM,hGs,hMs,bo,cu,(by rfl),bm,bn⟩ ?_
 clear dq e8 cj ck dr e9 cg cm cn b8 co bb bd b9 cp ci cr a9 bf bg bh ct a4 bi bj bk bl
 rintro⟨k,vo,xs,Fo,S9,fa,vg9,vv9⟩ ρ21 fb ⟨a5,a3,aa,ab,cv,hbw,hGl,hMl,hOl,hdl,hxe,af,ag⟩
 have dt:w.heap.size≤fb.heap.size:=a5.size
 have ef:=a3.lt
 have eg:=aa.lt
 have eh:=ab.lt
 refine cP [0] Z ?_
 by_cases bp:(k:Int)<(a.length:Int)
 ·refine AE true Z Z (A5 bp) Aa<|Aj<|A0<|Ag Z<|A2<|A0<|A3<|cP [0,0,2,0,0] Z ?_
  have hak:=Bu hna k
  have hvk:=JL a k
  have hxk:xs.length=k:=by rw[hxe,Gf]
  refine Ad 1 Z<|AA (v:=va) k Bj BH Z Z ay.slL Z sD Aa ?_
  have bq:=RN.getI (w:=w) (k:=k) ay sD
  refine Ah (p:=Ay va k 1) (.inr Z) (zI<|a.getD k 0) AC Z (bq.1 _ a5) Aa<|Ac 2 Z<|Ab _ [0,0,0,0,0,4,3,4,0] Z<|Ad 3 Z ?_
  have br:∀(wq:World),(Instr.build 69 #[(0,zI ((1:Nat):Int)),(3,zI (k:Int))]).run Tryz.prog wq=.ok (.agg #[zI ((1:Nat):Int),zI 0,zI 0,zI (k:Int)]) wq:=by intro wq;kernel_rfl
  refine Cf (ps:=#[(0,zI ((1:Nat):Int)),(3,zI (k:Int))]) (.agg #[zI ((1:Nat):Int),zI 0,zI 0,zI (k:Int)]) Tz (fun wq=>br  wq) Aa<|Ad 1 Z ?_
  refine AB 101 [] [] [zP w7.heap.size,.agg #[zI ((1:Nat):Int),zI (0:Int),zI (0:Int),zI (k:Int)],zI<|a.getD k 0] Z Z Q8 Aa (CK _ S9 w7.heap.size vp ((p.getD f.toNat Fn.zero).params) (0) ((0:Nat):Int) (Ja a k) (⟨((1:Nat):Int),(0:Int),(0:Int),(k:Int)⟩:AD) (a.getD k 0) (fun b hb=>(hGl.lt b hb:b<fb.heap.size)) (hGl.sub _ hgS) ⟨_,_,_,ab,hMl⟩ oM (by rw[MO,JL];omega) ⟨(show Bw ((1:Nat):Int)from by omega),(show Bw (0:Int)from by omega),(show Bw (0:Int)from by omega),(show Bw (k:Int)from by omega)⟩ bq.2) ?_
  rintro fx f6 ⟨f3,rfl,a0,ff,vg28,vv28,cw,cx⟩
  refine⟨_,rfl,?_⟩
  have du:fb.heap.size≤f6.heap.size:=a0.chg.size
  have cy:At S w f6:=a5.stp a0.chg hGl.new
  have cz:=a3.chg a0.chg fun hm=>af hm
  have b2:w.heap.size∉f3:=fun hm=>(a0.new _ hm).elim (fun hm=>af hm) (fun h9=>by omega)
  have d0:=aa.chg a0.chg fun hm=>ag hm
  have b3:w1.heap.size∉f3:=fun hm=>(a0.new _ hm).elim (fun hm=>ag hm) (fun h9=>by omega)
  have d1:=hOl.keep (Bc AK) a0.chg fun b hb hm=>hdl b hm hb
  have ai:∀b∈Fo,b∉f3:=fun b hb hm=>(a0.new b hm).elim (hdl b hb) (fun h9=>by have:=hOl.high b hb;omega)
  have d2:=hGl.trans a0
  have dv:((Ja a k).put (⟨((1:Nat):Int),(0:Int),(0:Int),(k:Int)⟩:AD) (a.getD k 0)).vals.length=(Ja a k).vals.length+1:=Gz _ _ _
  have dw:((Ja a k).put (⟨((1:Nat):Int),(0:Int),(0:Int),(k:Int)⟩:AD) (a.getD k 0)).grd.length=(Ja a k).grd.length:=rfl
  refine (BK (u:=zI (((Ja a k).vals.length:Nat):Int)) (B:=f6.heap.size) AK Bj BH Z Z (LN f6.heap.size f6.heap.size _ _ oM) (A7 _) Aa ?_)
  intro fq fg a6 ei d3
  have dx:f6.heap.size≤fg.heap.size:=a6.size
  have d4:At S w fg:=cy.ext a6
  have al:=cz.ext a6
  have am:=d0.ext a6
  have an:=cw.ext a6
  have d5:=Cp.ext cx a6
  have bs:=d2.ext a6
  have hO38k:=d1.ext (Bc AK) a6
  refine KX (v:=vo) (a:=fq) Bj BH Z Z Z hO38k d3.rd1 oM sD (by unfold maxLen;first|omega|assumption|(simp;done)|(simp;omega)) Aa fun fs fm fo ac ej d6=>?_
  have dy:fg.heap.size≤fm.heap.size:=ac.size
  have d7:At S w fm:=d4.fresh ac (fun c hc=>by have:=hO38k.low c hc;omega)
  have ek:∀b∈fo,b∉f3:=fun b hb hm=>(d6 b hb).elim (fun h9=>ai b h9 hm) (fun h9=>by have:=bs.lt b hm;omega)
  have d8:=Cp.chgO d5 ac ai
  have d9:=bs.fresh ac fun c hc=>by have:=hO38k.low c hc;omega
  have da:=al.chg ac fun hm=>by have:=hO38k.low _ hm;omega
  have db:=am.chg ac fun hm=>by have:=hO38k.low _ hm;omega
  have dc:=an.chg ac fun hm=>by have:=hO38k.low _ hm;omega
  refine Ac 1 Z<|Ab _ [0,0] Z<|AN ((k+1:Nat):Int) Z Z (Bg oM oM) Aa<|Ac 1 Z ?_
  have hMe:=d8
  have hGe:=d9
  have bt:w.heap.size∉f3:=fun hm=>b2 hm
  have bu:w1.heap.size∉f3:=fun hm=>b3 hm
  exact⟨(k+1,fs,xs++[(((Ja a k).vals.length:Nat):Int)],fo,f3,ff,vg28,vv28),_,rfl,zR,⟨d7,da,db,dc,oM,oM,hGe,hMe,(by assumption),(by assumption),(by rw[hxe,JL];exact(OI k).symm),bt,bu⟩,zD⟩
 refine AE false Z Z (A6 bp) Aa<|Aj<|A0<|Ai Z<|A4<|Aw<|Aw<|Aq<|cP [0,0,0,2,0,0,0,2,0,4,0,0,0,4] Z ?_
 have hkl:k=a.length:=by omega
 refine Ad 2 Z<|Ak (p:=zP w.heap.size) 0 BA Z Z Aa<|Ah (p:=Ao (zP w.heap.size) 0) (.inr Z) vp C9 Z (a3.ldp (i:=0) sM) Aa<|Ad 1 Z<|AA (v:=vp) ((f).toNat) GF CC Z Z ax.isSl oM sD Aa ?_
 obtain⟨cs46,dd,bv⟩:=ax.get (Av dp) Fn.zero (k:=(f).toNat) sD
 obtain⟨b4,rfl,bw⟩:=RF.of dd
 have bx:=bw.rn.lenle
 unfold maxLen at bx
 refine AI (p:=Ay vp ((f).toNat) 3) 2 BU Z (bv _ a5) Aa<|Ah (p:=Ao (Ay vp ((f).toNat) 3) 2) (.inr Z) b4 Be Z ((bv _ a5).ld (i:=2) (by simp[Fb,Fd])) Aa<|Ad 1 Z ?_
 refine AB 102 [] [] [zP w7.heap.size,b4,vo] Z Z SU Aa (Y1 f.toNat dp _ S9 w7.heap.size vp dp ((p.getD f.toNat Fn.zero).params) (0) ((0:Nat):Int) p (Ja a k) b4 ((p.getD ((f).toNat) Fn.zero).outs) vo (xs) (fun b hb=>(hGl.lt b hb:b<fb.heap.size)) (hGl.sub _ hgS) ⟨_,_,_,ab,hMl⟩ (RN.stp (Am<|Av dp) ax a5 hGl.new) oM oM oM (by rw[hkl];exact Yk hna oM) (RN.stp (Am<|Ax dp) bw.rn a5 hGl.new) (RN.of_ow hOl hdl) hOl.fr.cap f9 oM (by intro j hj;have h9:=f9.wf f.toNat oM j hj;rw[hxe,Gf,hkl,hl];exact h9) (by intro j hj;have h9:=f9.deep f.toNat oM j hj;rw[hxe,Gf];omega) oM (by exact fun _=>by rw[hxe];exact Yl a k)) ?_
 rintro fy fd ⟨fc,ft,fe,fz,fu,f4,rfl,a1,⟨f1,vg47,vv47,de,df⟩,bz,c0,dz,c2,c3,c4⟩
 refine⟨_,rfl,?_⟩
 have e0:fb.heap.size≤fd.heap.size:=a1.chg.size
 have dg:At S w fd:=a5.stp a1.chg hGl.new
 have dh:=a3.chg a1.chg fun hm=>af hm
 have di:w.heap.size∉fe:=fun hm=>(a1.new _ hm).elim (fun hm=>af hm) (fun h9=>by omega)
 have dj:=aa.chg a1.chg fun hm=>ag hm
 have aj:w1.heap.size∉fe:=fun hm=>(a1.new _ hm).elim (fun hm=>ag hm) (fun h9=>by omega)
 have b5:=hOl.keep (Bc AK) a1.chg fun b hb hm=>hdl b hm hb
 have dk:∀b∈Fo,b∉fe:=fun b hb hm=>(a1.new b hm).elim (hdl b hb) (fun h9=>by have:=hOl.high b hb;omega)
 have c5:=hGl.trans a1
 have e1:=bz.bnd
 have e2:=bz.num
 have hKr:=c4
 have hKb:=c3
 have hKl:=c2
 rw[hxe,hkl]at hKr
 replace hKr:=AH.go0 hKr
 have c6:=c0.rn
 refine AU Z Aa<|Ak (p:=zP w7.heap.size) 1 FO Z Z Aa<|Ak (p:=Ao (zP w7.heap.size) 1) (b:=w7.heap.size) (o:=1) 3 Lp Z Z Aa (Bl (k:=4) (w:=fd) QI Z Z (Br c6.slL) de sM Aa fun f5 a7 el ad=>?_)
 replace ad:BX f5.heap w7.heap.size [vp,zI ((p.getD f.toNat Fn.zero).params),f1,vg47,fc,vv47,zI (fu:Int),zI f4]:=ad
 have c7:At S w f5:=dg.trans (a7.sub (AT hgS))
 have ao:=Cp.chg df a7
 have c8:=c5.set hgS a7
 have e3:fd.heap.size≤f5.heap.size:=a7.size
 have c9:=dh.chg a7 (zB ·)
 have ca:=dj.chg a7 (zB ·)
 have ah:=b5.keep (Bc AK) a7 fun b hb hm=>by have:=A9 hb;have:=b5.low _ hm;have:=b5.high _ hm;omega
 have hF63l:=c0.upd g1 a7 fun b hb=>by rw[A9 hb];exact .inl (c5.sub _ hgS)
 have dl:=hF63l.rn
 refine Aj<|A0<|cP [0,0,0,2,0] Z<|Ad 1 Z<|AU Z Aa<|Ak (p:=zP w7.heap.size) 7 EX Z Z Aa<|Ah (p:=Ao (zP w7.heap.size) 7) (.inr Z) (zI f4) AC Z (ad.ldp (i:=7) sM) Aa ?_
 by_cases cb:f4≠((0:Nat):Int)
 ·refine B4 true Z Z (A5 cb) Aa<|Aj<|Ag Z<|A0 ?_
  letI:JR:=TB [w1.heap.size]
  refine Jx.AP _ [0,0,0,0,1,3,0] mixed (by kernel_rfl)<|Jx.j1 ?_
  have cc:∀(wq:World),(Instr.build 55 #[]).run Tryz.prog wq=.ok (.agg #[zI 0,zN,zN,zN]) wq:=by intro wq;kernel_rfl
  refine Cf (ps:=#[]) (.agg #[zI 0,zN,zN,zN]) (by simp only[List.map_toArray,List.map_cons,List.map_nil]) (fun wq=>cc  wq) Aa<|Aj<|Jx.VY (zP w7.heap.size) Z Aa<|Jx.j1<|AU Z Aa<|Aj<|Jx.Ak (p:=zP w7.heap.size) 7 EX Z Z Aa<|Jx.aH (p:=Ao (zP w7.heap.size) 7) (zI f4) AC Z (fun wj hj=>(BX.chg (w:=f5.drew) (F:=[w1.heap.size]) ad hj (zB ·)).ldp (i:=7) sM) Aa<|Jx.cU ?_
  refine Bz (vs:=[zI (0:Int),zN,zN,zN]) ER Z Z (by intro u hu;simp only[List.mem_cons,List.not_mem_nil,or_false]at hu;rcases hu with rfl|rfl|rfl|rfl <;> first|exact⟨rfl,rfl⟩) ca Z Z Aa fun fh a2 em b6=>?_
  replace a2:=a2.of_drew
  replace b6:BX fh.heap w1.heap.size [zI (0:Int),zN,zN,zN]:=b6
  have en:At S w fh:=c7.fresh a2 (fun _ h=>zE h)
  have eo:=Cp.chgO ao a2 fun b hb hm=>by rw[A9 hb]at hm;exact aj hm
  have dm:=c8.fresh a2 fun _ h=>zE h
  have e5:f5.heap.size≤fh.heap.size:=a2.size
  have ep:=c9.chg a2 (zB ·)
  have eq:=ad.chg a2 (zB ·)
  have er:=ah.keep (Bc AK) a2 fun b hb hm=>by have:=A9 hb;have:=ah.low _ hm;have:=ah.high _ hm;omega
  have hF73l:=hF63l.upd g1 a2 fun b hb=>by rw[A9 hb];(right;omega)
  have es:=hF73l.rn
  refine Aj ⟨At.drewL a2,?_⟩
  exact Jx.QW (zI f4) Z Aa<|Jx.Aj<|A1<|An<|JH (t0:=7) (ts:=[]) (cs:=[zI (0:Int),zN,zN,zN]) [zI f4] Z ER Z b6 Z Z ⟨_,_,_,_,_,_,_,_,rfl,At.toExt dm.chg hSn,hKr,oM,(by intro u hu;simp only[List.mem_cons,List.not_mem_nil,or_false]at hu;rcases hu with rfl|rfl|rfl <;> exact⟨rfl,rfl⟩),(by show Bw _;unfold Bw;omega),(fun h9=>absurd h9 oM)⟩
 refine B4 false Z Z (A6 cb) Aa<|Aj<|Ai Z<|A2<|cP [0,0,0,2,4,0] Z<|Ad 1 Z<|AU Z Aa<|Ak (p:=zP w7.heap.size) 1 FO Z Z Aa<|AM (p:=Ao (zP w7.heap.size) 1) (.inr Z) [zI<|(p.getD f.toNat Fn.zero).params,f1,vg47,fc] ER Z (fun fj ba=>LD.part (BX.ext (w:=f5) ad ba) (by show(5:Nat)≤8;decide) (by intro i hi;match i,hi with|0,_=>rfl|1,_=>rfl|2,_=>rfl|3,_=>rfl)) Z Aa ?_
 refine Bz (vs:=[zI<|(p.getD f.toNat Fn.zero).params,f1,vg47,fc]) ER Z Z (by intro u hu;simp only[List.mem_cons,List.not_mem_nil,or_false]at hu;rcases hu with rfl|rfl|rfl|rfl <;> first|exact⟨rfl,rfl⟩|exact Br (Cp.slc ao)|exact Br (Cp.slg ao)|exact Br dl.slL) ca Z Z Aa fun fi a8 et b7=>?_
 replace b7:BX fi.heap w1.heap.size [zI ((p.getD f.toNat Fn.zero).params),f1,vg47,fc]:=b7
 have eu:At S w fi:=c7.fresh a8 (fun _ h=>zE h)
 have ap:=Cp.chgO ao a8 fun b hb hm=>by rw[A9 hb]at hm;exact aj hm
 have cd:=c8.fresh a8 fun _ h=>zE h
 have e6:f5.heap.size≤fi.heap.size:=a8.size
 have ev:=c9.chg a8 (zB ·)
 have ew:=ad.chg a8 (zB ·)
 have ex:=ah.keep (Bc AK) a8 fun b hb hm=>by have:=A9 hb;have:=ah.low _ hm;have:=ah.high _ hm;omega
 have hF81l:=hF63l.upd g1 a8 fun b hb=>by rw[A9 hb];(right;omega)
 have dn:=hF81l.rn
 refine Ac 1 Z<|A1 ?_
 have ce:∀b∈fe,w.heap.size≤b:=fun b hb=>(cd.new b hb).elim (hSn b) id
 exact JH (t0:=7) (ts:=[]) (cs:=[zI<|(p.getD f.toNat Fn.zero).params,f1,vg47,fc]) [zI ((0:Nat):Int)] Z ER Z b7 Z Z ⟨_,_,_,_,_,_,_,_,rfl,At.toExt cd.chg hSn,(by have h9:=hKr;rwa [show f4=((0:Nat):Int)from by omega]at h9),oM,(by intro u hu;simp only[List.mem_cons,List.not_mem_nil,or_false]at hu;rcases hu with rfl|rfl|rfl;exact Br (Cp.slc ap);exact Br (Cp.slg ap);exact RN.one1 g1 dn),(by show Bw _;unfold Bw;omega),(fun _=>⟨rfl,by assumption,zO,hKl,hKb oM,(Cp.readsG ap ce).1,(Cp.readsG ap ce).2,QA.rg hF81l oM⟩)⟩
theorem Gl (w:World)(n:Int)(vo:Nat)(ord:Int)(_hn:Bw n)(hcord:GP w.heap (zP vo)=some (zI ord))(_hord:Bw ord)(ho:0≤ord∧ord≤12) :
  Calls Tryz.prog 186 #[zI n,zP vo] w (fun e w'=>∃v0:Value,e=.returned (v0)∧AG w w'∧Fr (Bt rI 2) w.heap.size w'.heap.size w'.heap v0 (cst (ord.toNat+1) n)):=by
 refine Ap [zI n,zP vo] 12 Tryz.func186 Z Z sM ?_
 have a0:AG w w:=AG.refl w
 refine cQ Z<|cP [2,0,3,0] Z<|Ah (.inr Z) (zI ord) Ll Z (B7 a0 hcord) Aa<|AN ((ord.toNat+1:Nat):Int) Z Z (Bg oM oM) Aa (Fj (n:=ord.toNat+1) Bj BH Z Z Z sD Aa fun v1 w1 a1 aa a2=>?_)
 have a5:=a1.size
 have a3:=a0.trans a1
 refine Ac 1 Z<|cP [0,0,0,4] Z<|Ad 2 Z<|AA (v:=v1) 0 Bj BH Z Z a2.isSl Z sM Aa (FQ (v:=v1) (w:=w1) GT Z Z _hn a2 sM Aa fun w2 F2 a4 ab a6 a7=>?_)
 have a8:AG w w2:=a4.below a3 (fun c hc=>A8 (A7 _) (a6 c hc).1) a3.size
 have a9:w1.heap.size≤w2.heap.size:=a4.size
 exact Aj<|cP [0,0] Z<|Ac 2 Z<|A1<|Af [3] Z v1 Z ⟨v1,rfl,a8,a7.up o1⟩
theorem IJ {p:Prop}(h:p:=by first|(rw[Ds oM,MU oM];exact⟨_,_,by assumption⟩)|(rw[Ds oM,L9 oM];exact⟨_,_,by assumption⟩)|(rw[Ds oM,La oM];exact⟨_,_,by assumption⟩)|(rw[Ds oM,Lb oM];exact⟨_,_,by assumption⟩)|(rw[Ds oM,Lc oM];exact⟨_,_,by assumption⟩)|(rw[Ds oM,Ld oM];exact⟨_,_,by assumption⟩)|(rw[Ds oM,Le oM];exact⟨_,_,by assumption⟩)):p:=h
theorem IK {p:Prop}(h:p:=by unfold maxLen;first|omega|assumption|(simp only[List.length_nil,List.length_cons,List.length_append,List.length_set,List.length_replicate];omega)|(simp[List.length_nil,List.length_cons,List.length_append,List.length_set,List.length_replicate];done)|(simp[List.length_nil,List.length_cons,List.length_append,List.length_set,List.length_replicate];omega)):p:=h
theorem IL {p:Prop}(h:p:=by first|exact Ut hzk oM|exact Uu hzk oM):p:=h
theorem IM {p:Prop}(h:p:=by exact Us hR hsA (hform k hkl) hkl):p:=h
theorem H4 (w:World)(ipT:Int)(vtc vtg vtx:Value)(T:Tp)(oT:List Int)(va:Value)(A:List (List Int))(ord:Int)(_hipT:Bw ipT)(htcT:RN [] (DS 4 Oi) w.heap vtc T.code)(htgT:RN [] (DS 2 Oj) w.heap vtg T.grd)(htoT:RN [] (B2 rI) w.heap vtx oT)(hA:RN [] (B2 (B2 rI)) w.heap va A)(hqA:Ci va)(_hord:Bw ord)(ho:0≤ord∧ord≤12)(hsA:C7 (ord.toNat+1) A)(hform:∀k,k<T.code.length→EV A.length k (T.code.getD k AD.zero))(hlt:T.code.length≤4000) :
  Calls Tryz.prog 109 #[(.agg #[(zI ipT),vtc,vtg,vtx]),va,zI ord] w (fun e w'=>∃(v0:Value) (c1:Int),e=.returned (.tuple #[v0,zI c1])∧AG w w'∧YG (ord.toNat+1) A T.code c1∧(c1=0→RN [] (B2 (B2 rI)) w'.heap v0 (B9 (ord.toNat+1) A T.code)∧Ci v0)):=by
 refine Ap [.agg #[zI ipT,vtc,vtg,vtx],va,zI ord] 109 Tryz.func109 Z Z sM ?_
 have gp:AG w w:=AG.refl w
 have hl_vtx:=htoT.lenL
 unfold maxLen at hl_vtx
 have f1:=hA.lenL
 unfold maxLen at f1
 have hS:∀b∈([]:List Nat),b<w.heap.size:=fun b hb=>by cases hb
 refine cP [3,3,0,0] Z (Bx (cs:=#[zI ipT,vtc,vtg,vtx]) Z Aa fun w1 dx im dt=>?_)
 have dy:=dx.size
 have gq:=gp.trans dx
 replace dt:BX w1.heap w.heap.size [zI ipT,vtc,vtg,vtx]:=dt
 have jr:=dt.lt
 refine MR (u:=zI ord) Z Z Aa fun w2 du io dv=>?_
 have dz:=du.size
 have gr:=gq.trans du
 have bg:=dt.ext du
 replace dv:BX w2.heap w1.heap.size [zI ord]:=dv
 refine Ac 2 Z<|cP [3,0] Z ?_
 obtain⟨BO,hBO⟩:∃b:Nat,b=w2.heap.size:=⟨_,rfl⟩
 have hwB:w.heap.size≤BO:=by omega
 have js:w.heap.size<BO:=by have:=BX.lt bg;omega
 have jt:w1.heap.size<BO:=by have:=BX.lt dv;omega
 refine CH rV BE C0 Bf Aa fun v4 w4 ch ip e0=>?_
 have e1:=ch.size
 have gs:=gr.trans ch
 have ci:=bg.ext ch
 have cj:=dv.ext ch
 obtain⟨ju,F4,jv⟩:=Ha.nil (S:=[]) (by rw[← hBO]at e0;exact e0)
 refine Ac 1 Z<|cP [0,0] Z<|KJ [] [zP w1.heap.size] Z Z Aa<|Ac 1 Z<|A0<|cP [0,2,0,0] Z<|Ak (p:=zP w.heap.size) 1 Fw Z Z Aa<|Ah (p:=Ao (zP w.heap.size) 1) (.inr Z) vtc Ka Z (ci.ldp (i:=1) sM) Aa<|AO (v:=vtc) OO Z htcT.isSl Aa<|Ac 1 Z<|A3 ?_
 refine AY (S:=Nat×Value) (fun⟨k,vo⟩=>([(8,vo),(18,zI (k:Int)),(1,va),(9,.func (.func 186) #[] #[zP w1.heap.size]),(16,vtc),(17,zI (T.code.length:Int))])) (fun⟨k,vo⟩ W=>AG w W∧BX W.heap w1.heap.size [zI ord]∧k≤T.code.length∧w.heap.size≤BO∧BO≤W.heap.size∧Oq 27 [] BO W.heap vo (B9 (ord.toNat+1) A<|T.code.take k)∧L8 (ord.toNat+1) A T.code k∧C7 (ord.toNat+1) (B9 (ord.toNat+1) A<|T.code.take k)) (fun⟨k,vo⟩=>T.code.length-k) (0,v4) ⟨rfl,rfl,rfl,rfl,rfl,rfl,trivial⟩ ⟨gs,cj,oM,oM,oM,(by exact⟨_,_,by assumption⟩),XH,(by intro j hj;simp at hj)⟩ ?_
 clear gp im dx dy gq io du dz gr e0 ip ch e1 gs
 rintro⟨k,vo⟩ ρ7 w7 ⟨dw,au,gt,gu,gv,hbld,hzk,hR⟩
 have iq:w.heap.size≤w7.heap.size:=dw.size
 have hRl:(B9 (ord.toNat+1) A (T.code.take k)).length=k:=by rw[CR,List.length_take];omega
 have jw:=au.lt
 obtain⟨jx,F9,av⟩:=hbld
 have hFl:∀b∈F9,b<w7.heap.size:=av.lt
 refine cP [0] Z ?_
 by_cases ck:(k:Int)<(T.code.length:Int)
 ·refine AE true Z Z (A5 ck) Aa<|Aj<|A0<|Ag Z<|A2<|A0<|A3<|cP [0,2,3,4] Z ?_
  have hkl:k<T.code.length:=by omega
  refine AA (v:=vtc) k OO Jo Z Z htcT.isSl Z sD Aa ?_
  obtain⟨cs11,e2,e3⟩:=htcT.get B5 AD.zero (k:=k) sD
  obtain⟨rfl,e4⟩:=MV e2
  refine AM (p:=Ay vtc k 4) (.inr Z) [zI<|(T.code.getD k AD.zero).op,zI<|(T.code.getD k AD.zero).a,zI<|(T.code.getD k AD.zero).b,zI<|(T.code.getD k AD.zero).num] Fx Z (fun fg ir=>e3 fg<|At.of_ext []<|dw.trans ir) Z Aa ?_
  have is:=au.lt
  refine Bp (z:=.agg #[zI 0,zI 0,zI 0,zI 0]) T8 Aa fun f8 ai it bn=>?_
  have gw:=ai.size
  have cl:=dw.trans ai
  have aw:=au.ext ai
  have iu:=av.ext ai
  replace bn:BX f8.heap w7.heap.size [zI 0,zI 0,zI 0,zI 0]:=bn
  refine Bz (vs:=[zI<|(T.code.getD k AD.zero).op,zI<|(T.code.getD k AD.zero).a,zI<|(T.code.getD k AD.zero).b,zI<|(T.code.getD k AD.zero).num]) Fx Z Z (by intro u hu;simp only[List.mem_cons,List.not_mem_nil,or_false]at hu;rcases hu with rfl|rfl|rfl|rfl <;> first|exact⟨rfl,rfl⟩) bn Z Z Aa fun f2 ay iv az=>?_
  replace az:BX f2.heap w7.heap.size [zI ((T.code.getD k AD.zero).op),zI ((T.code.getD k AD.zero).a),zI ((T.code.getD k AD.zero).b),zI ((T.code.getD k AD.zero).num)]:=az
  have e5:AG w f2:=ay.below cl (fun _ h=>zE h) cl.size
  have gx:f8.heap.size≤f2.heap.size:=ay.size
  have cm:=aw.chg ay (zB ·)
  have e6:=av.ext<|ay.below ai (fun _ h=>zE h) ai.size
  refine Aj<|cP [0,0,2,3,0] Z<|Ad 1 Z<|Ak (p:=zP w7.heap.size) 3 Fy Z Z Aa<|Ah (p:=Ao (zP w7.heap.size) 3) (.inr Z) (zI<|(T.code.getD k AD.zero).num) AC Z (az.ldp (i:=3) sM) Aa<|Au 186 [] [zP w1.heap.size] [zI<|(T.code.getD k AD.zero).num,zP w1.heap.size] Z Z Zj Aa (Gl _ _ (w1.heap.size) (ord) e4.2.2.2 (cm.ld (k:=0) sM) _hord oM) ?_
  rintro k1 f0 ⟨bh,rfl,aj,ad⟩
  refine⟨_,rfl,aj,?_⟩
  have gy:=aj.size
  have a8:=e5.trans aj
  have a2:=cm.ext aj
  have a0:=az.ext aj
  have a1:=e6.ext aj
  refine Ac 1 Z<|A0<|cP [0,2] Z<|Ak (p:=zP w7.heap.size) 0 Lq Z Z Aa<|Ah (p:=Ao (zP w7.heap.size) 0) (.inr Z) (zI<|(T.code.getD k AD.zero).op) AC Z (a0.ldp (i:=0) sM) Aa<|Aj<|A3<|cP [0,0] Z ?_
  by_cases cn:(T.code.getD k AD.zero).op=((1:Nat):Int)
  ·refine Al true Z Z (A5 cn) Aa<|Ac 1 Z<|Ag Z<|Ab _ [0,0,2,0,2,0] Z ?_
   have hio:=(hform k hkl).i1 oM
   refine Ad 1 Z<|Ak (p:=zP w7.heap.size) 3 Fy Z Z Aa<|Ah (p:=Ao (zP w7.heap.size) 3) (.inr Z) (zI<|(T.code.getD k AD.zero).num) AC Z (a0.ldp (i:=3) sM) Aa<|AA (v:=va) (((T.code.getD k AD.zero).num).toNat) C0 Bf Z Z hA.slL oM sD Aa ?_
   obtain⟨bo,e7,bp⟩:=RN.getL (w:=w) g1 [] (k:=((T.code.getD k AD.zero).num).toNat) hA sD
   have co:=bp.lenL
   unfold maxLen at co
   refine Ah (p:=Ay va (((T.code.getD k AD.zero).num).toNat) 1) (.inr Z) bo Bk Z (e7 _<|At.of_ext [] a8) Aa<|Ac 1 Z<|Ab _ [0,0,3,4,0] Z<|Ad 2 Z (BK (u:=bo) (B:=f0.heap.size) BE C0 Bf Z Z (On f0.heap.size f0.heap.size _<|bp.one1 g1) (A7 _) Aa fun fh fi b0 iw e8=>?_)
   have gz:=b0.size
   have bq:=a8.trans b0
   have b1:=a2.ext b0
   have b2:=a1.ext b0
   refine EJ (v:=vo) (a:=fh) (u:=bo) C0 Bf Z Z Z b2 oM e8 (RN.stp g1 bp (At.of_ext [] bq) fun b hb=>.inr (by have:=b2.low b (by simpa using hb);omega)) sD IK Aa ?_
   rintro fj f9 G24 br cp ⟨ix,k2,iy⟩
   have i0:fi.heap.size≤f9.heap.size:=br.size
   have e9:AG w f9:=br.below bq (fun c hc=>A8 hwB (b2.low c (cp c hc))) bq.size
   have ea:=b1.chg br fun hm=>by have:=b2.low _ (cp _ hm);omega
   refine Ac 1 Z<|Ab _ [0,0] Z<|AN ((k+1:Nat):Int) Z Z (Bg oM sD) Aa<|Ac 1 Z ?_
   exact⟨(k+1,fj),_,rfl,zR,⟨e9,ea,oM,oM,oM,IJ,IL,IM⟩,zD⟩
  refine Al false Z Z (A6 cn) Aa<|Ac 1 Z<|Ai Z<|cP [0,0] Z ?_
  by_cases cq:(T.code.getD k AD.zero).op=((3:Nat):Int)
  ·refine Al true Z Z (A5 cq) Aa<|Ac 1 Z<|Ag Z<|AP _ [0,0,1,0,1,0,0,1,0,1,3,0] mixed (by kernel_rfl) ?_
   have hio:=(hform k hkl).i2 oM
   have hra:=hR (T.code.getD k AD.zero).a.toNat oM
   have hrb:=hR (T.code.getD k AD.zero).b.toNat oM
   have b3:=hra.1
   have bs:=hrb.1
   refine Ad 1 Z<|Ak (p:=zP w7.heap.size) 1 CS Z Z Aa<|Ah (p:=Ao (zP w7.heap.size) 1) (.inl Z) (zI<|(T.code.getD k AD.zero).a) AC Z (a0.ldp (i:=1) sM) Aa<|AA (v:=vo) (((T.code.getD k AD.zero).a).toNat) C0 Bf Z Z (a1.done fun b hb=>absurd hb List.not_mem_nil).slL oM sD Aa ?_
   obtain⟨cr,eb,bt⟩:=RN.getL (w:=f0) g1 [] (k:=((T.code.getD k AD.zero).a).toNat) (a1.done (fun b hb=>absurd hb List.not_mem_nil)) sD
   have ct:=bt.lenL
   unfold maxLen at ct
   refine Ah (p:=Ay vo (((T.code.getD k AD.zero).a).toNat) 1) (.inl Z) cr Bk Z (eb _ (At.refl _ _).drew) Aa<|Ad 1 Z<|Ak (p:=zP w7.heap.size) 2 CG Z Z Aa<|Ah (p:=Ao (zP w7.heap.size) 2) (.inl Z) (zI<|(T.code.getD k AD.zero).b) AC Z (a0.ldp (i:=2) sM) Aa ?_
   refine AA (v:=vo) (((T.code.getD k AD.zero).b).toNat) C0 Bf Z Z (a1.done fun b hb=>absurd hb List.not_mem_nil).slL oM sD Aa ?_
   obtain⟨cu,ec,bu⟩:=RN.getL (w:=f0) g1 [] (k:=((T.code.getD k AD.zero).b).toNat) (a1.done (fun b hb=>absurd hb List.not_mem_nil)) sD
   have cv:=bu.lenL
   unfold maxLen at cv
   refine Ah (p:=Ay vo (((T.code.getD k AD.zero).b).toNat) 1) (.inl Z) cu Bk Z (ec _ (At.refl _ _).drew) Aa<|Au 185 [] [] [cr,cu] Z Z Oe Aa (E4 _ _ _ _ _ (bt).rd (bu).rd oM oM hra.2 hrb.2) ?_
   rintro k3 f3 ⟨bi,rfl,a9,a3⟩
   refine⟨_,rfl,a9,?_⟩
   replace a9:=a9.of_drew
   have i3:=a9.size
   have ed:=a8.trans a9
   have b4:=a2.ext a9
   have ee:=a1.ext a9
   have ef:=bt.ext g1 a9
   have eg:=bu.ext g1 a9
   replace a3:=a3.low (B':=f0.heap.size)<|A7 _
   refine Ac 1 Z<|Ab _ [0,0,3,4,0] Z<|Ad 2 Z (BK (u:=bi) (B:=f3.heap.size) BE C0 Bf Z Z (On f3.heap.size f3.heap.size _<|⟨(C1 a3.isSl).1,(C1 a3.isSl).2⟩) (A7 _) Aa fun fk fl ae iz eh=>?_)
   have i4:=ae.size
   have cw:=ed.trans ae
   have b5:=b4.ext ae
   have ak:=a3.ext (o1) ae
   have bv:=ee.ext ae
   have j0:=ef.ext g1 ae
   have j1:=eg.ext g1 ae
   refine EJ (v:=vo) (a:=fk) (u:=bi) C0 Bf Z Z Z bv oM eh (RN.of_fr1 ak fun b hb=>by have:=hFl b (by simpa using hb);omega) sD IK Aa ?_
   rintro fm fa G37 bw cx ⟨j2,k4,j3⟩
   have i5:fl.heap.size≤fa.heap.size:=bw.size
   have ei:AG w fa:=bw.below cw (fun c hc=>A8 hwB (bv.low c (cx c hc))) cw.size
   have ej:=b5.chg bw fun hm=>by have:=bv.low _ (cx _ hm);omega
   refine Ac 1 Z<|Ab _ [0,0] Z<|AN ((k+1:Nat):Int) Z Z (Bg oM sD) Aa<|Ac 1 Z ?_
   exact⟨(k+1,fm),_,rfl,zR,⟨ei,ej,oM,oM,oM,IJ,IL,IM⟩,zD⟩
  refine Al false Z Z (A6 cq) Aa<|Ac 1 Z<|Ai Z<|cP [0,0] Z ?_
  by_cases cy:(T.code.getD k AD.zero).op=((4:Nat):Int)
  ·refine Al true Z Z (A5 cy) Aa<|Ac 1 Z<|Ag Z<|AP _ [0,0,1,0,1,0,0,1,0,1,3,0] mixed (by kernel_rfl) ?_
   have hio:=(hform k hkl).i2 oM
   have hra:=hR (T.code.getD k AD.zero).a.toNat oM
   have hrb:=hR (T.code.getD k AD.zero).b.toNat oM
   have b3:=hra.1
   have bs:=hrb.1
   refine Ad 1 Z<|Ak (p:=zP w7.heap.size) 1 CS Z Z Aa<|Ah (p:=Ao (zP w7.heap.size) 1) (.inl Z) (zI<|(T.code.getD k AD.zero).a) AC Z (a0.ldp (i:=1) sM) Aa<|AA (v:=vo) (((T.code.getD k AD.zero).a).toNat) C0 Bf Z Z (a1.done fun b hb=>absurd hb List.not_mem_nil).slL oM sD Aa ?_
   obtain⟨cz,ek,bx⟩:=RN.getL (w:=f0) g1 [] (k:=((T.code.getD k AD.zero).a).toNat) (a1.done (fun b hb=>absurd hb List.not_mem_nil)) sD
   have d0:=bx.lenL
   unfold maxLen at d0
   refine Ah (p:=Ay vo (((T.code.getD k AD.zero).a).toNat) 1) (.inl Z) cz Bk Z (ek _ (At.refl _ _).drew) Aa<|Ad 1 Z<|Ak (p:=zP w7.heap.size) 2 CG Z Z Aa<|Ah (p:=Ao (zP w7.heap.size) 2) (.inl Z) (zI<|(T.code.getD k AD.zero).b) AC Z (a0.ldp (i:=2) sM) Aa ?_
   refine AA (v:=vo) (((T.code.getD k AD.zero).b).toNat) C0 Bf Z Z (a1.done fun b hb=>absurd hb List.not_mem_nil).slL oM sD Aa ?_
   obtain⟨d1,el,bz⟩:=RN.getL (w:=f0) g1 [] (k:=((T.code.getD k AD.zero).b).toNat) (a1.done (fun b hb=>absurd hb List.not_mem_nil)) sD
   have d2:=bz.lenL
   unfold maxLen at d2
   refine Ah (p:=Ay vo (((T.code.getD k AD.zero).b).toNat) 1) (.inl Z) d1 Bk Z (el _ (At.refl _ _).drew) Aa<|Au 178 [] [] [cz,d1] Z Z Vy Aa (Ht _ _ _ _ _ (bx).rd (bz).rd oM oM oM hra.2 hrb.2) ?_
   rintro k5 f4 ⟨bj,rfl,aa,a4⟩
   refine⟨_,rfl,aa,?_⟩
   replace aa:=aa.of_drew
   have i6:=aa.size
   have em:=a8.trans aa
   have b6:=a2.ext aa
   have en:=a1.ext aa
   have eo:=bx.ext g1 aa
   have ep:=bz.ext g1 aa
   replace a4:=a4.low (B':=f0.heap.size)<|A7 _
   refine Ac 1 Z<|Ab _ [0,0,3,4,0] Z<|Ad 2 Z (BK (u:=bj) (B:=f4.heap.size) BE C0 Bf Z Z (On f4.heap.size f4.heap.size _<|⟨(C1 a4.isSl).1,(C1 a4.isSl).2⟩) (A7 _) Aa fun fo fp af j4 eq=>?_)
   have i8:=af.size
   have d3:=em.trans af
   have b7:=b6.ext af
   have al:=a4.ext (o1) af
   have c0:=en.ext af
   have j5:=eo.ext g1 af
   have j6:=ep.ext g1 af
   refine EJ (v:=vo) (a:=fo) (u:=bj) C0 Bf Z Z Z c0 oM eq (RN.of_fr1 al fun b hb=>by have:=hFl b (by simpa using hb);omega) sD IK Aa ?_
   rintro fq fb G50 c2 d4 ⟨j7,k6,j8⟩
   have i9:fp.heap.size≤fb.heap.size:=c2.size
   have er:AG w fb:=c2.below d3 (fun c hc=>A8 hwB (c0.low c (d4 c hc))) d3.size
   have es:=b7.chg c2 fun hm=>by have:=c0.low _ (d4 _ hm);omega
   refine Ac 1 Z<|Ab _ [0,0] Z<|AN ((k+1:Nat):Int) Z Z (Bg oM sD) Aa<|Ac 1 Z ?_
   exact⟨(k+1,fq),_,rfl,zR,⟨er,es,oM,oM,oM,IJ,IL,IM⟩,zD⟩
  refine Al false Z Z (A6 cy) Aa<|Ac 1 Z<|Ai Z<|cP [0,0] Z ?_
  by_cases d5:(T.code.getD k AD.zero).op=((5:Nat):Int)
  ·refine Al true Z Z (A5 d5) Aa<|Ac 1 Z<|Ag Z<|AP _ [0,0,1,0,1,0,0,1,0,1,3,0] mixed (by kernel_rfl) ?_
   have hio:=(hform k hkl).i2 oM
   have hra:=hR (T.code.getD k AD.zero).a.toNat oM
   have hrb:=hR (T.code.getD k AD.zero).b.toNat oM
   have b3:=hra.1
   have bs:=hrb.1
   refine Ad 1 Z<|Ak (p:=zP w7.heap.size) 1 CS Z Z Aa<|Ah (p:=Ao (zP w7.heap.size) 1) (.inl Z) (zI<|(T.code.getD k AD.zero).a) AC Z (a0.ldp (i:=1) sM) Aa<|AA (v:=vo) (((T.code.getD k AD.zero).a).toNat) C0 Bf Z Z (a1.done fun b hb=>absurd hb List.not_mem_nil).slL oM sD Aa ?_
   obtain⟨d6,et,c3⟩:=RN.getL (w:=f0) g1 [] (k:=((T.code.getD k AD.zero).a).toNat) (a1.done (fun b hb=>absurd hb List.not_mem_nil)) sD
   have d7:=c3.lenL
   unfold maxLen at d7
   refine Ah (p:=Ay vo (((T.code.getD k AD.zero).a).toNat) 1) (.inl Z) d6 Bk Z (et _ (At.refl _ _).drew) Aa<|Ad 1 Z<|Ak (p:=zP w7.heap.size) 2 CG Z Z Aa<|Ah (p:=Ao (zP w7.heap.size) 2) (.inl Z) (zI<|(T.code.getD k AD.zero).b) AC Z (a0.ldp (i:=2) sM) Aa ?_
   refine AA (v:=vo) (((T.code.getD k AD.zero).b).toNat) C0 Bf Z Z (a1.done fun b hb=>absurd hb List.not_mem_nil).slL oM sD Aa ?_
   obtain⟨d8,eu,c4⟩:=RN.getL (w:=f0) g1 [] (k:=((T.code.getD k AD.zero).b).toNat) (a1.done (fun b hb=>absurd hb List.not_mem_nil)) sD
   have d9:=c4.lenL
   unfold maxLen at d9
   refine Ah (p:=Ay vo (((T.code.getD k AD.zero).b).toNat) 1) (.inl Z) d8 Bk Z (eu _ (At.refl _ _).drew) Aa<|Au 179 [] [] [d6,d8] Z Z Od Aa (Dm _ _ _ _ _ (c3).rd (c4).rd oM oM hra.2 hrb.2) ?_
   rintro k7 f5 ⟨bk,rfl,ab,a5⟩
   refine⟨_,rfl,ab,?_⟩
   replace ab:=ab.of_drew
   have ia:=ab.size
   have ev:=a8.trans ab
   have b8:=a2.ext ab
   have ew:=a1.ext ab
   have ex:=c3.ext g1 ab
   have ey:=c4.ext g1 ab
   replace a5:=a5.low (B':=f0.heap.size)<|A7 _
   refine Ac 1 Z<|Ab _ [0,0,3,4,0] Z<|Ad 2 Z (BK (u:=bk) (B:=f5.heap.size) BE C0 Bf Z Z (On f5.heap.size f5.heap.size _<|⟨(C1 a5.isSl).1,(C1 a5.isSl).2⟩) (A7 _) Aa fun fr fs ag j9 ez=>?_)
   have ib:=ag.size
   have da:=ev.trans ag
   have b9:=b8.ext ag
   have am:=a5.ext (o1) ag
   have c5:=ew.ext ag
   have ja:=ex.ext g1 ag
   have jb:=ey.ext g1 ag
   refine EJ (v:=vo) (a:=fr) (u:=bk) C0 Bf Z Z Z c5 oM ez (RN.of_fr1 am fun b hb=>by have:=hFl b (by simpa using hb);omega) sD IK Aa ?_
   rintro ft fc G63 c6 db ⟨jc,k8,jd⟩
   have ic:fs.heap.size≤fc.heap.size:=c6.size
   have g0:AG w fc:=c6.below da (fun c hc=>A8 hwB (c5.low c (db c hc))) da.size
   have g2:=b9.chg c6 fun hm=>by have:=c5.low _ (db _ hm);omega
   refine Ac 1 Z<|Ab _ [0,0] Z<|AN ((k+1:Nat):Int) Z Z (Bg oM sD) Aa<|Ac 1 Z ?_
   exact⟨(k+1,ft),_,rfl,zR,⟨g0,g2,oM,oM,oM,IJ,IL,IM⟩,zD⟩
  refine Al false Z Z (A6 d5) Aa<|Ac 1 Z<|Ai Z<|cP [0,0] Z ?_
  by_cases dc:(T.code.getD k AD.zero).op=((7:Nat):Int)
  ·refine Al true Z Z (A5 dc) Aa<|Ac 1 Z<|Ag Z<|Ab _ [0,0,2,0,2,3,0] Z ?_
   have hio:=(hform k hkl).i7 oM
   have hra:=hR (T.code.getD k AD.zero).a.toNat oM
   have b3:=hra.1
   refine Ad 1 Z<|Ak (p:=zP w7.heap.size) 1 CS Z Z Aa<|Ah (p:=Ao (zP w7.heap.size) 1) (.inr Z) (zI<|(T.code.getD k AD.zero).a) AC Z (a0.ldp (i:=1) sM) Aa<|AA (v:=vo) (((T.code.getD k AD.zero).a).toNat) C0 Bf Z Z (a1.done fun b hb=>absurd hb List.not_mem_nil).slL oM sD Aa ?_
   obtain⟨dd,g3,c7⟩:=RN.getL (w:=f0) g1 [] (k:=((T.code.getD k AD.zero).a).toNat) (a1.done (fun b hb=>absurd hb List.not_mem_nil)) sD
   have de:=c7.lenL
   unfold maxLen at de
   refine Ah (p:=Ay vo (((T.code.getD k AD.zero).a).toNat) 1) (.inr Z) dd Bk Z (g3 _<|At.refl _ _) Aa<|Au 187 [] [] [dd,zI ((1000002:Nat):Int)] Z Z Mv Aa (D6 _ _ _ _ (c7).rd oM oM hra.2 oM) ?_
   rintro k9 f6 ⟨bl,rfl,an,ah⟩
   refine⟨_,rfl,an,?_⟩
   have id:=an.size
   have g4:=a8.trans an
   have ba:=a2.ext an
   have g5:=a1.ext an
   have g6:=c7.ext g1 an
   refine Ac 1 Z<|Ab _ [0,0,3,4,0] Z<|Ad 2 Z (BK (u:=bl) (B:=f6.heap.size) BE C0 Bf Z Z (On f6.heap.size f6.heap.size _<|⟨(C1 ah.isSl).1,(C1 ah.isSl).2⟩) (A7 _) Aa fun fu fv ao je g7=>?_)
   have ie:=ao.size
   have df:=g4.trans ao
   have bb:=ba.ext ao
   have ap:=ah.ext (o1) ao
   have c8:=g5.ext ao
   have jf:=g6.ext g1 ao
   refine EJ (v:=vo) (a:=fu) (u:=bl) C0 Bf Z Z Z c8 oM g7 (RN.of_fr1 ap fun b hb=>by have:=hFl b (by simpa using hb);omega) sD IK Aa ?_
   rintro fw fd G73 c9 dg ⟨jg,ka,jh⟩
   have ig:fv.heap.size≤fd.heap.size:=c9.size
   have g8:AG w fd:=c9.below df (fun c hc=>A8 hwB (c8.low c (dg c hc))) df.size
   have g9:=bb.chg c9 fun hm=>by have:=c8.low _ (dg _ hm);omega
   refine Ac 1 Z<|Ab _ [0,0] Z<|AN ((k+1:Nat):Int) Z Z (Bg oM sD) Aa<|Ac 1 Z ?_
   exact⟨(k+1,fw),_,rfl,zR,⟨g8,g9,oM,oM,oM,IJ,IL,IM⟩,zD⟩
  refine Al false Z Z (A6 dc) Aa<|Ac 1 Z<|Ai Z<|cP [0,0] Z ?_
  by_cases dh:(T.code.getD k AD.zero).op=((6:Nat):Int)
  ·refine Al true Z Z (A5 dh) Aa<|Ac 1 Z<|Ag Z<|A0<|cP [0,0,2,0,2,0,2,0] Z ?_
   have hio:=(hform k hkl).i2 oM
   have hra:=hR (T.code.getD k AD.zero).a.toNat oM
   have hrb:=hR (T.code.getD k AD.zero).b.toNat oM
   have b3:=hra.1
   have bs:=hrb.1
   refine Ad 1 Z<|Ak (p:=zP w7.heap.size) 2 CG Z Z Aa<|Ah (p:=Ao (zP w7.heap.size) 2) (.inr Z) (zI<|(T.code.getD k AD.zero).b) AC Z (a0.ldp (i:=2) sM) Aa<|AA (v:=vo) (((T.code.getD k AD.zero).b).toNat) C0 Bf Z Z (a1.done fun b hb=>absurd hb List.not_mem_nil).slL oM sD Aa ?_
   obtain⟨ca,ga,bc⟩:=RN.getL (w:=f0) g1 [] (k:=((T.code.getD k AD.zero).b).toNat) (a1.done (fun b hb=>absurd hb List.not_mem_nil)) sD
   have di:=bc.lenL
   unfold maxLen at di
   refine Ah (p:=Ay vo (((T.code.getD k AD.zero).b).toNat) 1) (.inr Z) ca Bk Z (ga _<|At.refl _ _) Aa<|AA (v:=ca) 0 Bj BH Z Z bc.slL Z sD Aa ?_
   have gb:=RN.getI (w:=f0) (k:=0) bc sD
   refine Ah (p:=Ay ca 0 1) (.inr Z) (zI<|((B9 (ord.toNat+1) A<|T.code.take k).getD (((T.code.getD k AD.zero).b).toNat) []).getD 0 0) AC Z (gb.1 _<|At.refl _ _) Aa ?_
   by_cases dj:((B9 (ord.toNat+1) A (T.code.take k)).getD (((T.code.getD k AD.zero).b).toNat) []).getD 0 0=((0:Nat):Int)
   ·exact Al true Z Z (A5 dj) Aa<|Aj<|Ag Z<|cP [0,0] Z<|Ac 2 Z<|A1<|An<|AF<|An<|AF<|An<|An<|AF<|An<|Af [6,7] Z (.tuple #[zN,zI ((6:Nat):Int)]) Z ⟨_,_,rfl,a8,.inr ⟨rfl,SA oM oM oM⟩,(fun h9=>absurd h9 oM)⟩
   refine Al false Z Z (A6 dj) Aa<|Aj<|Ai Z<|A2<|AP _ [0,0,1,0,1,0,0,1,0,1,3,0] mixed (by kernel_rfl)<|Ad 1 Z<|Ak (p:=zP w7.heap.size) 1 CS Z Z Aa<|Ah (p:=Ao (zP w7.heap.size) 1) (.inl Z) (zI<|(T.code.getD k AD.zero).a) AC Z (a0.ldp (i:=1) sM) Aa ?_
   refine AA (v:=vo) (((T.code.getD k AD.zero).a).toNat) C0 Bf Z Z (a1.done fun b hb=>absurd hb List.not_mem_nil).slL oM sD Aa ?_
   obtain⟨dk,gc,cb⟩:=RN.getL (w:=f0) g1 [] (k:=((T.code.getD k AD.zero).a).toNat) (a1.done (fun b hb=>absurd hb List.not_mem_nil)) sD
   have dl:=cb.lenL
   unfold maxLen at dl
   refine Ah (p:=Ay vo (((T.code.getD k AD.zero).a).toNat) 1) (.inl Z) dk Bk Z (gc _ (At.refl _ _).drew) Aa<|Ad 1 Z<|Ak (p:=zP w7.heap.size) 2 CG Z Z Aa<|Ah (p:=Ao (zP w7.heap.size) 2) (.inl Z) (zI<|(T.code.getD k AD.zero).b) AC Z (a0.ldp (i:=2) sM) Aa ?_
   refine AA (v:=vo) (((T.code.getD k AD.zero).b).toNat) C0 Bf Z Z (a1.done fun b hb=>absurd hb List.not_mem_nil).slL oM sD Aa ?_
   obtain⟨dm,gd,cc⟩:=RN.getL (w:=f0) g1 [] (k:=((T.code.getD k AD.zero).b).toNat) (a1.done (fun b hb=>absurd hb List.not_mem_nil)) sD
   have dn:=cc.lenL
   unfold maxLen at dn
   refine Ah (p:=Ay vo (((T.code.getD k AD.zero).b).toNat) 1) (.inl Z) dm Bk Z (gd _ (At.refl _ _).drew) Aa<|Au 177 [] [] [dk,dm] Z Z SY Aa (EO _ _ _ _ _ (cb).rd (cc).rd oM oM oM hra.2 hrb.2) ?_
   rintro kb f7 ⟨bm,rfl,a7,a6⟩
   refine⟨_,rfl,a7,?_⟩
   replace a7:=a7.of_drew
   have ih:=a7.size
   have ge:=a8.trans a7
   have bd:=a2.ext a7
   have gf:=a1.ext a7
   have gg:=bc.ext g1 a7
   have gh:=cb.ext g1 a7
   have gi:=cc.ext g1 a7
   replace a6:=a6.low (B':=f0.heap.size)<|A7 _
   refine Ac 1 Z<|Ab _ [0,0,3,4,0] Z<|Ad 2 Z (BK (u:=bm) (B:=f7.heap.size) BE C0 Bf Z Z (On f7.heap.size f7.heap.size _<|⟨(C1 a6.isSl).1,(C1 a6.isSl).2⟩) (A7 _) Aa fun fx fy ac ji gj=>?_)
   have ii:=ac.size
   have dp:=ge.trans ac
   have be:=bd.ext ac
   have aq:=a6.ext (o1) ac
   have cd:=gf.ext ac
   have jj:=gg.ext g1 ac
   have jk:=gh.ext g1 ac
   have jl:=gi.ext g1 ac
   refine EJ (v:=vo) (a:=fx) (u:=bm) C0 Bf Z Z Z cd oM gj (RN.of_fr1 aq fun b hb=>by have:=hFl b (by simpa using hb);omega) sD IK Aa ?_
   rintro fz fe G91 ce dq ⟨jm,kc,jn⟩
   have ij:fy.heap.size≤fe.heap.size:=ce.size
   have gk:AG w fe:=ce.below dp (fun c hc=>A8 hwB (cd.low c (dq c hc))) dp.size
   have gl:=be.chg ce fun hm=>by have:=cd.low _ (dq _ hm);omega
   refine Ac 1 Z<|Ab _ [0,0] Z<|AN ((k+1:Nat):Int) Z Z (Bg oM sD) Aa<|Ac 1 Z ?_
   exact⟨(k+1,fz),_,rfl,zR,⟨gk,gl,oM,oM,oM,IJ,IL,IM⟩,zD⟩
  refine Al false Z Z (A6 dh) Aa<|Ac 1 Z<|Ai Z<|A2<|Ab _ [0,0,3,4,0] Z<|Ad 2 Z (BK (u:=bh) (B:=f0.heap.size) BE C0 Bf Z Z (On f0.heap.size f0.heap.size _<|⟨(C1 ad.isSl).1,(C1 ad.isSl).2⟩) (A7 _) Aa fun jy jz ax jo gm=>?_)
  have ik:=ax.size
  have dr:=a8.trans ax
  have bf:=a2.ext ax
  have ar:=ad.ext (o1) ax
  have cf:=a1.ext ax
  refine EJ (v:=vo) (a:=jy) (u:=bh) C0 Bf Z Z Z cf oM gm (RN.of_fr1 ar fun b hb=>by have:=hFl b (by simpa using hb);omega) sD IK Aa ?_
  rintro k0 ff G95 cg ds ⟨jp,kd,jq⟩
  have il:jz.heap.size≤ff.heap.size:=cg.size
  have gn:AG w ff:=cg.below dr (fun c hc=>A8 hwB (cf.low c (ds c hc))) dr.size
  have go:=bf.chg cg fun hm=>by have:=cf.low _ (ds _ hm);omega
  refine Ac 1 Z<|Ab _ [0,0] Z<|AN ((k+1:Nat):Int) Z Z (Bg oM sD) Aa<|Ac 1 Z ?_
  exact⟨(k+1,k0),_,rfl,zR,⟨gn,go,oM,oM,oM,IJ,IL,IM⟩,zD⟩
 exact AE false Z Z (A6 ck) Aa<|Aj<|A0<|Ai Z<|A4<|Aw<|Aw<|Aq<|cP [0,0,0] Z<|Ac 3 Z<|A1<|Af [6,7] Z (.tuple #[vo,zI ((0:Nat):Int)]) Z ⟨_,_,rfl,dw,.inl ⟨rfl,(by have h9:=hzk;rwa [show k=T.code.length from by omega]at h9)⟩,(fun _=>⟨(by have h9:=av.done (fun b hb=>absurd hb List.not_mem_nil);rwa [List.take_of_length_le oM]at h9),av.cap⟩)⟩
theorem Bi (w:World)(r:Int)(vs:Value)(s:List Int)(S:List Nat)(vo:Nat)(vov:Value)(xs:List (List Int))(usxs:List Value)(Fxs:List Nat)(BO:Nat)(_hr:Bw r)(hs:Rd (B2 rI) w.heap vs s)(hcxs:GP w.heap (zP vo)=some vov)(hbxs:Ha 27 S BO w.heap vov xs usxs Fxs)(hSB:∀b∈S,b<BO)(a9:∀b∈S,b<w.heap.size)(hr:0≤r∧r<(xs.length:Int))(hxl:(xs.getD r.toNat []).length≤s.length∧s.length≤13)(hxn:AV (xs.getD r.toNat [])=true)(hsn:AV s=true) :
  Calls Tryz.prog 231 #[zI r,vs,zP vo] w (fun e w'=>e=.returned (.tuple #[])∧At Fxs w w'∧∃us',Ha 27 S BO w'.heap vov (EL xs r s) us' Fxs):=by
 refine Ap [zI r,vs,zP vo] 14 Tryz.func231 Z Z sM ?_
 have a2:AG w w:=AG.refl w
 have ad:=hs.lenle
 have hFl:∀b∈Fxs,b<w.heap.size:=hbxs.lt
 refine AP _ [1,0,1,0,0,1,0,3,0,4] mixed (by kernel_rfl)<|Ah (.inl Z) vov Lm Z (B7 a2.drew hcxs) Aa<|Ad 1 Z<|Ah (.inl Z) vov Lm Z (B7 a2.drew hcxs) Aa<|Ad 1 Z<|AA (v:=vov) ((r).toNat) C0 Bf Z Z (hbxs.done hSB).none.slL oM sD Aa ?_
 obtain⟨a7,aa,a4⟩:=hbxs.getF (k:=(r).toNat) sD
 have a5:=a4.lenL
 unfold maxLen at a5
 refine Ah (p:=Ay vov ((r).toNat) 1) (.inl Z) a7 Bk Z aa Aa<|Ad 1 Z<|Au 185 [] [] [a7,vs] Z Z Oe Aa (E4 _ _ _ _ _ a4.rd (hs.ext g1 a2.drew) oM oM hxn hsn) ?_
 rintro e2 w2 ⟨a6,rfl,a1,a0⟩
 refine⟨_,rfl,a1,?_⟩
 replace a1:=a1.of_drew
 have ab:=a1.size
 have ac:=a2.trans a1
 have a8:=hbxs.ext a1
 replace a0:=a0.low (B':=w.heap.size)<|A7 _
 refine AA (v:=vov) ((r).toNat) C0 Bf Z Z (a8.done hSB).none.slL oM sD Aa ?_
 refine SB (v:=vov) (u:=a6) (w:=w2) QI Z Z a8 (RN.of_fr1 a0 fun b hb=>by rcases List.mem_append.1 hb with hb|hb;(have:=a9 b hb;omega);(have:=hFl b hb;omega)) sD Aa fun w5 a3 ah ae=>?_
 have af:w2.heap.size≤w5.heap.size:=a3.size
 have ag:At Fxs w w5:=(At.of_ext _ ac).trans a3
 exact Aj<|QS [] Z (.tuple #[]) Z ⟨rfl,ag,_,ae⟩
theorem JX {p:Prop}(h:p:=by first|(rw[show(kk-1+1).toNat=kk.toNat from by omega];exact Gh hadj oM (O4 oM))|(rw[show(kk-1+1).toNat=kk.toNat from by omega];exact Gh hadj oM (O5 oM))|(rw[show(kk-1+1).toNat=kk.toNat from by omega];exact Gh hadj oM (O6 oM))|(rw[show(kk-1+1).toNat=kk.toNat from by omega];exact Gh hadj oM (O7 oM))|(rw[show(kk-1+1).toNat=kk.toNat from by omega];exact Gh hadj oM (O8 oM))|(rw[show(kk-1+1).toNat=kk.toNat from by omega];exact Gh hadj oM (O9 oM))):p:=h
theorem JY {p:Prop}(h:p:=by(try rw[show((1000002:Nat):Int)=1000002 from rfl]);first|(rw[← O4 (k:=kk.toNat) (R:=R) oM];exact GB hxs oM (hform _ hkn))|(rw[← O5 (k:=kk.toNat) (R:=R) oM];exact GB hxs oM (hform _ hkn))|(rw[← O6 (k:=kk.toNat) (R:=R) oM];exact GB hxs oM (hform _ hkn))|(rw[← O7 (k:=kk.toNat) (R:=R) oM];exact GB hxs oM (hform _ hkn))|(rw[← O8 (k:=kk.toNat) (R:=R) oM];exact GB hxs oM (hform _ hkn))|exact hxs):p:=h
theorem FE {p:Prop}(h:p:=by first|exact hro.2|exact hRa.2|exact hRb.2|exact hRk.2|exact DA _ _|exact DW _ _|exact Dx _ _):p:=h
theorem GN {p:Prop}(h:p:=by refine⟨?_,?_⟩ <;> first|omega|(simp only[EC,EB,DX,Dz];omega)):p:=h
theorem GO {p:Prop}(h:p:=by first|exact hro.2|exact DA _ _|exact DW _ _|exact Dx _ _):p:=h
theorem FF {p:Prop}(h:p:=by first|omega|(simp only[EC,EB,DX,Dz];omega)):p:=h
theorem JZ {p:Prop}(h:p:=by first|exact hxl|(simp only[Cc];exact hxl)):p:=h
theorem HB (w:World)(m:Nat)(ni:Nat)(S:List Nat)(ipT:Int)(vtc vtg vtx:Value)(T:Tp)(oT:List Int)(vr:Value)(R:List (List Int))(vw:Value)(ws:List Int)(c1:∀b∈S,b<w.heap.size)(_hipT:Bw ipT)(htcT:RN [] (DS 4 Oi) w.heap vtc T.code)(htgT:RN [] (DS 2 Oj) w.heap vtg T.grd)(htoT:RN [] (B2 rI) w.heap vtx oT)(hR:RN [] (B2 (B2 rI)) w.heap vr R)(hqR:Ci vr)(hws:Rd (B2 rI) w.heap vw ws)(hm:1≤m∧m≤13)(hsR:C7 m R)(hlR:R.length=T.code.length)(hlt:T.code.length≤4000)(hlo:oT.length≤ws.length∧ws.length≤1000000)(ho:∀k,k<oT.length→0≤oT.getD k 0∧oT.getD k 0<(T.code.length:Int))(hnw:AV ws=true)(hform:∀k,k<T.code.length→EV ni k (T.code.getD k AD.zero)) :
  Calls Tryz.prog 184 #[(.agg #[(zI ipT),vtc,vtg,vtx]),vr,vw] w (fun e w'=>∃v0:Value,e=.returned v0∧AG w w'∧RN S (B2 (B2 rI)) w'.heap v0 (Je T.code R oT ws)∧Ci v0):=by
 refine Ap [.agg #[zI ipT,vtc,vtg,vtx],vr,vw] 159 Tryz.func184 Z Z sM ?_
 have jn:AG w w:=AG.refl w
 have hl_vtx:=htoT.lenL
 unfold maxLen at hl_vtx
 have f4:=hR.lenL
 unfold maxLen at f4
 have fj:=hws.lenle
 refine cP [3,0] Z (Bx (cs:=#[zI ipT,vtc,vtg,vtx]) Z Aa fun w1 gx ks gy=>?_)
 have gz:=gx.size
 have jo:=jn.trans gx
 replace gy:BX w1.heap w.heap.size [zI ipT,vtc,vtg,vtx]:=gy
 refine Ac 1 Z<|cP [3,3,4] Z (CH (Bt rI 2) o1 C0 Bf Aa fun v2 w2 gu kt jp=>?_)
 have i0:=gu.size
 have jq:=jo.trans gu
 have cu:=gy.ext gu
 have lu:=cu.lt
 refine Bp (z:=zN) (by kernel_rfl) Aa fun w3 dx ku i1=>?_
 have i3:=dx.size
 have i4:=jq.trans dx
 have dy:=cu.ext dx
 have c2:=jp.ext (o2) dx
 replace i1:BX w3.heap w2.heap.size [zN]:=i1
 refine Bl (k:=0) (w:=w3) ZK Z Z (Br c2.isSl) i1 sM Aa fun w5 dz kv gv=>?_
 replace gv:BX w5.heap w2.heap.size [v2]:=gv
 have jr:AG w w5:=dz.below i4 (fun _ h=>zE h) i4.size
 have i5:w3.heap.size≤w5.heap.size:=dz.size
 have js:=dy.chg dz (zB ·)
 have jt:=c2.chg (o2) dz fun _ h=>zA h
 refine Aj<|A0<|cP [0,0,0] Z<|Ad 1 Z<|AO (v:=vr) C0 Z hR.slL Aa<|Ac 1 Z<|A3 ?_
 have hLBa:w.heap.size<w1.heap.size:=by omega
 have hLBb:w1.heap.size≤w2.heap.size:=by omega
 have hLBc:=Nat.le_of_lt hLBa
 obtain⟨Fo8,e0⟩:=Ow.of_fr (T:=w2.heap.size) jt (A7 _)
 have kw:w2.heap.size∉Fo8:=fun hm=>by have:=e0.high _ hm;omega
 have kx:=e0.up (T':=w5.heap.size) oM
 have ky:w2.heap.size<w5.heap.size:=BX.lt gv
 refine AY (S:=Nat×Value×List Nat) (fun⟨k,vo,Fo⟩=>([(20,zI (k:Int)),(1,vr),(2,vw),(3,zP w.heap.size),(7,zP w2.heap.size),(18,vr),(19,zI (R.length:Int))])) (fun⟨k,vo,Fo⟩ W=>AG w W∧BX W.heap w.heap.size [zI ipT,vtc,vtg,vtx]∧BX W.heap w2.heap.size [vo]∧k≤R.length∧Ow (Bt (Bt rI 2) 27) w1.heap.size W.heap.size W.heap vo (JP<|R.take k) Fo∧w2.heap.size∉Fo) (fun⟨k,vo,Fo⟩=>R.length-k) (0,v2,Fo8) ⟨rfl,rfl,rfl,rfl,rfl,rfl,rfl,trivial⟩ ⟨jr,js,gv,oM,(by assumption),(by assumption)⟩ ?_
 clear jn ks gx gz jo jp kt gu i0 jq ku dx i3 i4 c2 kv dz jr i5 js jt
 rintro⟨k,vo,Fo⟩ ρ9 w9 ⟨e1,ax,ap,ju,hOl,hgF⟩
 have i6:w.heap.size≤w9.heap.size:=e1.size
 have kz:=ax.lt
 have l0:=ap.lt
 have m1:w2.heap.size<w9.heap.size:=BX.lt ap
 refine cP [0] Z ?_
 by_cases e2:(k:Int)<(R.length:Int)
 ·refine AE true Z Z (A5 e2) Aa<|Aj<|A0<|Ag Z<|A2<|A0<|A3<|cP [0,2,0] Z<|AA (v:=vr) k C0 Bf Z Z hR.slL Z sD Aa ?_
  obtain⟨e3,i8,e4⟩:=RN.getL (w:=w) g1 [] (k:=k) hR sD
  have e5:=e4.lenL
  unfold maxLen at e5
  refine Ah (p:=Ay vr k 1) (.inr Z) e3 Bk Z (i8 _<|At.of_ext [] e1) Aa<|Ac 1 Z<|AP _ [1,0,0,3,3,4,4] mixed (by kernel_rfl) ?_
  have hrk:=hsR k oM
  have l1:=hrk.1
  refine Ah (p:=zP w2.heap.size) (.inl Z) vo Lm Z (ap.ld (k:=0) sM) Aa<|Ad 1 Z<|AO (v:=e3) Bj Z e4.slL Aa (Fj (n:=(R.getD k []).length) Bj BH Z Z Z sD Aa fun fq m2 b5 l2 i9=>?_)
  replace b5:=b5.of_drew
  have jv:=b5.size
  have ia:=e1.trans b5
  have c3:=ax.ext b5
  have c4:=ap.ext b5
  have ib:=hOl.ext o2 b5
  refine BK (u:=fq) (B:=w9.heap.size) o1 C0 Bf Z Z i9 (by first|exact A7 _|omega) Aa fun fr fs c5 l3 ic=>?_
  have jw:=c5.size
  have e6:=ia.trans c5
  have c6:=c3.ext c5
  have c7:=c4.ext c5
  have df:=ib.ext o2 c5
  refine R1 o1 (v:=vo) (a:=fr) C0 Bf Z Z Z df ic oM oM oM sD (by unfold maxLen;first|omega|assumption|(simp;done)|(simp;omega)) Aa fun fk f9 fl ck e7 id=>?_
  have jx:fs.heap.size≤f9.heap.size:=ck.size
  have e8:AG w f9:=ck.below e6 (fun c hc=>A8 hLBc (df.low c (List.mem_of_mem_take hc))) e6.size
  have ie:=c6.chg ck fun hm=>by have:=df.low _ (List.mem_of_mem_take hm);omega
  have ig:=c7.chg ck fun hm=>hgF<|List.mem_of_mem_take hm
  have hF25d:w2.heap.size∉fl:=fun hm=>(id _ hm).elim hgF (fun h9=>by omega)
  refine Bl (k:=0) (w:=f9) ZK Z Z (Br e7.slO) ig sM Aa fun fa cl l4 dg=>?_
  replace dg:BX fa.heap w2.heap.size [fk]:=dg
  have ih:AG w fa:=cl.below e8 (fun _ h=>zE h) e8.size
  have jy:f9.heap.size≤fa.heap.size:=cl.size
  have ii:=ie.chg cl (zB ·)
  have ij:=e7.keep o2 cl fun b hb hm=>by rw[A9 hb]at hm;exact hF25d hm
  refine Aj<|Ab _ [0,0] Z<|AN ((k+1:Nat):Int) Z Z (Bg oM sD) Aa<|Ac 1 Z ?_
  have hOe:=(ij).up (T':=fa.heap.size) oM
  rw[SD oM]at hOe
  exact⟨(k+1,fk,fl),_,rfl,zR,⟨ih,ii,dg,oM,hOe,(by assumption)⟩,zD⟩
 refine AE false Z Z (A6 e2) Aa<|Aj<|A0<|Ai Z<|A4<|Aw<|Aw<|Aq<|A0<|cP [0,2,0,0] Z<|Ak (p:=zP w.heap.size) 3 Lp Z Z Aa<|Ah (p:=Ao (zP w.heap.size) 3) (.inr Z) vtx Bk Z (ax.ldp (i:=3) sM) Aa<|AO (v:=vtx) Bj Z htoT.slL Aa<|Ac 1 Z<|A3 ?_
 refine AY (S:=Nat) (fun i=>([(34,zI (i:Int)),(1,vr),(2,vw),(3,zP w.heap.size),(7,zP w2.heap.size),(32,vtx),(33,zI (oT.length:Int))])) (fun i W=>AG w W∧BX W.heap w.heap.size [zI ipT,vtc,vtg,vtx]∧BX W.heap w2.heap.size [vo]∧i≤oT.length∧Ow (Bt (Bt rI 2) 27) w1.heap.size W.heap.size W.heap vo (Ke oT ws i<|JP R) Fo) (fun i=>oT.length-i) 0 ⟨rfl,rfl,rfl,rfl,rfl,rfl,rfl,trivial⟩ ⟨e1,ax,ap,oM,(by have h9:=hOl;rw[List.take_of_length_le oM]at h9;exact h9)⟩ ?_
 clear ap ax e1 i6
 rintro i ρ30 f5 ⟨b6,aj,a5,ik,ay⟩
 have e9:w.heap.size≤f5.heap.size:=b6.size
 have hwl:(Ke oT ws i (JP R)).length=T.code.length:=by rw[FN,Ev];exact hlR
 have l5:=aj.lt
 have l6:=a5.lt
 have l7:w2.heap.size<f5.heap.size:=BX.lt a5
 refine cP [0] Z ?_
 by_cases ea:(i:Int)<(oT.length:Int)
 ·refine AE true Z Z (A5 ea) Aa<|Aj<|A0<|Ag Z<|A2<|A0<|A3<|cP [0,0,2,0,0] Z<|Ad 1 Z<|AA (v:=vtx) i Bj BH Z Z htoT.slL Z sD Aa ?_
  have il:=RN.getI (w:=w) (k:=i) htoT sD
  refine Ah (p:=Ay vtx i 1) (.inr Z) (zI<|oT.getD i 0) AC Z (il.1 _<|At.of_ext [] b6) Aa<|Ac 2 Z<|AP _ [1,0,0,1,1,0,0,1,0,1,0,0,0,1,0,0,4] mixed (by kernel_rfl) ?_
  have hor:=ho i oM
  have hrw:=HT (m:=m) (ws:=ws) (Jf hsR) (fun q hq=>by have:=ho q hq;rw[Ev];omega) i oM (oT.getD i 0).toNat oM
  have l8:=hrw.1
  refine Ah (p:=zP w2.heap.size) (.inl Z) vo Lm Z (a5.ld (k:=0) sM) Aa<|Ad 1 Z<|AA (v:=vo) ((oT.getD i 0).toNat) C0 Bf Z Z ay.slO oM sD Aa ?_
  obtain⟨dh,eb,ec⟩:=ay.rowO (k:=(oT.getD i 0).toNat) sD
  have ed:=(RN.of ec).lenL
  unfold maxLen at ed
  refine Ah (p:=Ay vo ((oT.getD i 0).toNat) 1) (.inl Z) dh Bk Z eb Aa<|Ah (p:=zP w2.heap.size) (.inl Z) vo Lm Z (a5.ld (k:=0) sM) Aa<|Ad 1 Z<|AA (v:=vo) ((oT.getD i 0).toNat) C0 Bf Z Z ay.slO oM sD Aa ?_
  obtain⟨di,im,dj⟩:=ay.rowO (k:=(oT.getD i 0).toNat) sD
  have ee:=(RN.of dj).lenL
  unfold maxLen at ee
  refine Ah (p:=Ay vo ((oT.getD i 0).toNat) 1) (.inl Z) di Bk Z im Aa<|AA (v:=di) 0 Bj BH Z Z (RN.of dj).slL Z sD Aa ?_
  have ef:=RN.getI (w:=f5) (k:=0) (RN.of dj) sD
  refine Ah (p:=Ay di 0 1) (.inl Z) (zI<|((Ke oT ws i<|JP R).getD ((oT.getD i 0).toNat) []).getD 0 0) AC Z (ef.1 _ (At.refl _ _).drew) Aa<|Ad 2 Z<|AA (v:=vw) i Bj BH Z Z hws.isSl Z sD Aa ?_
  refine Ah (p:=Ay vw i 1) (.inl Z) (zI<|ws.getD i 0) AC Z (B7 b6.drew (hws.getI sD).1) Aa ?_
  refine Az 230 [] [] [zI<|((Ke oT ws i<|JP R).getD ((oT.getD i 0).toNat) []).getD 0 0,zI<|ws.getD i 0] Z Z T4 Aa (zI<|md ((((Ke oT ws i<|JP R).getD ((oT.getD i 0).toNat) []).getD 0 0)+(ws.getD i 0))) (fun wq=>Hr wq _ _ ef.2 (hws.getI sD).2) ?_
  refine AA (v:=dh) 0 Bj BH Z Z (RN.of ec).slL Z sD Aa ?_
  refine Uv (v:=vo) (u:=dh) (w:=f5.drew) GT Z Z (Dh _) ay sD eb sD Aa fun fb G39 bj l9 dk io=>?_
  replace bj:=bj.of_drew
  have jz:f5.heap.size≤fb.heap.size:=bj.size
  have ip:AG w fb:=bj.below b6 (fun c hc=>A8 hLBc (ay.low c (dk c hc))) b6.size
  have iq:=aj.chg bj fun hm=>by have:=ay.low _ (dk _ hm);omega
  have ir:=a5.chg bj fun hm=>hgF<|dk _ hm
  refine Aj<|Ab _ [0,0] Z<|AN ((i+1:Nat):Int) Z Z (Bg oM sD) Aa<|Ac 1 Z ?_
  have hOe:=(io).up (T':=fb.heap.size) oM
  exact⟨i+1,_,rfl,zR,⟨ip,iq,ir,oM,hOe⟩,zD⟩
 refine AE false Z Z (A6 ea) Aa<|Aj<|A0<|Ai Z<|A4<|Aw<|Aw<|Aq<|A0<|cP [0,2,0,0,0] Z ?_
 have hOw:=ay
 rw[show i=oT.length from by omega]at hOw
 obtain⟨la,F0,is,k0⟩:=Ha.ofOw (S:=S) hOw (fun b hb=>by have:=c1 b hb;omega)
 have cm:w2.heap.size∉F0:=fun hm=>hgF (k0 _ hm)
 obtain⟨BO,hBO⟩:∃b:Nat,b=w1.heap.size:=⟨_,rfl⟩
 rw[← hBO]at is
 have hwB:w.heap.size≤BO:=by omega
 have hSB:∀b∈S,b<BO:=fun b hb=>by have:=c1 b hb;omega
 obtain⟨B0,gw⟩:∃l:List Sr,l=Ke oT ws oT.length (JP R):=⟨_,rfl⟩
 rw[← gw]at is
 have lb:C7 m B0:=by rw[gw];exact HT (Jf hsR) (fun q hq=>by have:=ho q hq;rw[Ev];omega) _ (A7 _)
 have lc:B0.length=T.code.length:=by rw[gw,FN,Ev];exact hlR
 refine Ak (p:=zP w.heap.size) 1 Fw Z Z Aa<|Ah (p:=Ao (zP w.heap.size) 1) (.inr Z) vtc Ka Z (aj.ldp (i:=1) sM) Aa<|AO (v:=vtc) OO Z htcT.isSl Aa ?_
 refine BC ((T.code.length:Int)-((1:Nat):Int)) Z Z (DK sD sD) Aa<|Ac 1 Z<|A3 ?_
 refine AY (S:=Int×List Sr×List Value) (fun⟨kk,xs,us⟩=>([(12,zI kk),(1,vr),(3,zP w.heap.size),(7,zP w2.heap.size)])) (fun⟨kk,xs,us⟩ W=>AG w W∧BX W.heap w.heap.size [zI ipT,vtc,vtg,vtx]∧BX W.heap w2.heap.size [vo]∧(-1≤kk∧kk<(T.code.length:Int))∧Ha 27 S BO W.heap vo xs us F0∧C7 m xs∧xs.length=T.code.length∧PT T.code R (kk+1).toNat xs=PT T.code R T.code.length B0) (fun⟨kk,xs,us⟩=>(kk+1).toNat) ((T.code.length:Int)-1,B0,la) ⟨rfl,rfl,rfl,rfl,trivial⟩ ⟨b6,aj,a5,oM,is,lb,lc,(by rw[show((T.code.length:Int)-1+1).toNat=T.code.length from by omega])⟩ ?_
 clear a5 aj b6 e9 k0
 rintro⟨kk,xs,us⟩ ρ42 f0 ⟨cn,au,a8,it,hbl,hxs,hxl,hadj⟩
 have k1:w.heap.size≤f0.heap.size:=cn.size
 have le:=au.lt
 have lf:=a8.lt
 have hFl:∀b∈F0,b<f0.heap.size:=hbl.lt
 have lg:=BX.lt a8
 refine A0<|cP [0,0] Z<|Ad 1 Z ?_
 by_cases eg:((0:Nat):Int)≤kk
 ·refine FK true Z Z (A5 eg) Aa<|Aj<|Ag Z<|A2<|A0<|A3<|A0 ?_
  letI:JR:=TB [f0.drew.heap.size]
  refine Jx.AP _ [0,1,0,0,1,1,0,0,1,3,3,0] mixed (by kernel_rfl) ?_
  have ba:∀wj,At [f0.drew.heap.size] f0.drew wj→AG f0.drew wj:=fun wj hj=>At.toExt hj (fun b hb=>Nat.le_of_eq (A9 hb).symm)
  have hkn:kk.toNat<T.code.length:=by omega
  have hro:=hxs kk.toNat oM
  have lh:=hro.1
  have hRk:=hsR kk.toNat oM
  have li:=hRk.1
  refine Jx.Ak (p:=zP w.heap.size) 1 Fw Z Z Aa<|Jx.aH (p:=Ao (zP w.heap.size) 1) vtc Ka Z (fun wj hj=>(BX.ext (w:=f0.drew) au<|ba wj hj).ldp (i:=1) sM) Aa<|Jx.VY (zI kk) Z Aa<|Jx.AA (v:=vtc) ((kk).toNat) OO Jo Z Z htcT.isSl oM sD Aa ?_
  obtain⟨cs49,iu,iv⟩:=htcT.get B5 AD.zero (k:=(kk).toNat) sD
  obtain⟨rfl,av⟩:=MV iu
  refine Jx.Y9 (p:=Ay vtc ((kk).toNat) 4) [zI<|(T.code.getD ((kk).toNat) AD.zero).op,zI<|(T.code.getD ((kk).toNat) AD.zero).a,zI<|(T.code.getD ((kk).toNat) AD.zero).b,zI<|(T.code.getD ((kk).toNat) AD.zero).num] Fx Z (fun wj hj=>iv wj<|At.of_ext []<|cn.drew.trans<|ba wj hj) Z Aa<|Jx.aH (p:=zP w2.heap.size) vo Lm Z (fun wj hj=>(BX.ext (w:=f0.drew) a8<|ba wj hj).ldp (i:=0) sM) Aa<|Jx.VY (zI kk) Z Aa ?_
  refine Jx.AA (v:=vo) ((kk).toNat) C0 Bf Z Z (hbl.done hSB).none.slL oM sD Aa ?_
  obtain⟨a9,iw,dl⟩:=hbl.getF (k:=(kk).toNat) sD
  have eh:=dl.lenL
  unfold maxLen at eh
  refine Jx.aH (p:=Ay vo ((kk).toNat) 1) a9 Bk Z (fun wj hj=>B7 (w:=f0.drew) (ba wj hj) iw) Aa ?_
  have lj:=au.lt
  have lk:=a8.lt
  have k2:f0.drew.heap.size=f0.heap.size:=rfl
  refine Jx.aY<|Bp (z:=.agg #[zI 0,zI 0,zI 0,zI 0]) T8 Aa ?_
  intro fm ac ll dm
  refine Aj ?_
  replace ac:=ac.of_drew
  have k3:=ac.size
  have ei:=cn.trans ac
  have bk:=au.ext ac
  have bl:=a8.ext ac
  have lm:=hbl.ext ac
  have ln:=dl.ext g1 ac
  replace dm:BX fm.heap f0.drew.heap.size [zI 0,zI 0,zI 0,zI 0]:=dm
  refine Jx.cU (Bz (vs:=[zI<|(T.code.getD ((kk).toNat) AD.zero).op,zI<|(T.code.getD ((kk).toNat) AD.zero).a,zI<|(T.code.getD ((kk).toNat) AD.zero).b,zI<|(T.code.getD ((kk).toNat) AD.zero).num]) Fx Z Z (by intro u hu;simp only[List.mem_cons,List.not_mem_nil,or_false]at hu;rcases hu with rfl|rfl|rfl|rfl <;> first|exact⟨rfl,rfl⟩) dm Z Z Aa fun f1 b7 lo a6=>?_)
  replace a6:BX f1.heap f0.drew.heap.size [zI ((T.code.getD ((kk).toNat) AD.zero).op),zI ((T.code.getD ((kk).toNat) AD.zero).a),zI ((T.code.getD ((kk).toNat) AD.zero).b),zI ((T.code.getD ((kk).toNat) AD.zero).num)]:=a6
  have ad:AG w f1:=b7.below ei (fun _ h=>zE h) ei.size
  have k4:fm.heap.size≤f1.heap.size:=b7.size
  have bm:=bk.chg b7 (zB ·)
  have az:=bl.chg b7 (zB ·)
  have ae:=hbl.ext<|b7.below ac (fun _ h=>zE h) ac.size
  have an:=dl.ext g1<|b7.below ac (fun _ h=>zE h) ac.size
  refine Aj ⟨b7,?_⟩
  refine Jx.QW a9 Z Aa<|Jx.Aj<|cP [0,0] Z<|KJ [] [zP w2.heap.size] Z Z Aa<|Ac 1 Z<|cP [0,2] Z<|Ak (p:=zP f0.drew.heap.size) 0 Lq Z Z Aa<|Ah (p:=Ao (zP f0.drew.heap.size) 0) (.inr Z) (zI<|(T.code.getD ((kk).toNat) AD.zero).op) AC Z (a6.ldp (i:=0) sM) Aa<|Aj<|A3<|cP [0,0] Z ?_
  by_cases ej:(T.code.getD ((kk).toNat) AD.zero).op=((3:Nat):Int)
  ·refine Al true Z Z (A5 ej) Aa<|Ac 1 Z<|Ag Z<|cP [0,0,2,0,4] Z ?_
   have hio:=(hform kk.toNat hkn).i2 oM
   have hra:=hxs (T.code.getD kk.toNat AD.zero).a.toNat oM
   have co:=hra.1
   have hRa:=hsR (T.code.getD kk.toNat AD.zero).a.toNat oM
   have hRb:=hsR (T.code.getD kk.toNat AD.zero).b.toNat oM
   have dn:=hRa.1
   have dp:=hRb.1
   refine Ad 1 Z<|Ak (p:=zP f0.drew.heap.size) 1 CS Z Z Aa<|Ah (p:=Ao (zP f0.drew.heap.size) 1) (.inr Z) (zI<|(T.code.getD ((kk).toNat) AD.zero).a) AC Z (a6.ldp (i:=1) sM) Aa<|Ad 1 Z ?_
   refine AB 231 [] [zP w2.heap.size] [zI<|(T.code.getD ((kk).toNat) AD.zero).a,a9,zP w2.heap.size] Z Z Jn Aa (Bi _ ((T.code.getD ((kk).toNat) AD.zero).a) a9 (xs.getD ((kk).toNat) []) S w2.heap.size vo (xs) _ _ BO av.2.1 an.rd (az.ld (k:=0) sM) ae hSB (fun b hb=>by have:=c1 b hb;omega) oM GN hra.2 GO) ?_
   rintro m3 fc ⟨rfl,bn,lp,cp⟩
   refine⟨_,rfl,?_⟩
   have k5:f1.heap.size≤fc.heap.size:=bn.size
   have ek:AG w fc:=bn.below ad (fun c hc=>A8 hwB (ae.low c hc)) ad.size
   have ix:=bm.chg bn fun hm=>by have:=ae.low _ hm;have:=hFl _ hm;omega
   have el:=az.chg bn fun hm=>cm hm
   have em:=a6.chg bn fun hm=>by have:=ae.low _ hm;have:=hFl _ hm;omega
   have en:=an.chg g1<|bn.sub fun b hb=>List.mem_append_right _ hb
   have dq:C7 m (EL xs (T.code.getD kk.toNat AD.zero).a (xs.getD kk.toNat [])):=D0 hxs oM
   have iy:(EL xs (T.code.getD kk.toNat AD.zero).a (xs.getD kk.toNat [])).length=T.code.length:=by rw[Cc];exact hxl
   have hrb:=dq (T.code.getD kk.toNat AD.zero).b.toNat oM
   have dr:=hrb.1
   refine Aj<|Ab _ [0,0,2,0,4] Z<|Ad 1 Z<|Ak (p:=zP f0.drew.heap.size) 2 CG Z Z Aa<|Ah (p:=Ao (zP f0.drew.heap.size) 2) (.inr Z) (zI<|(T.code.getD ((kk).toNat) AD.zero).b) AC Z (em.ldp (i:=2) sM) Aa<|Ad 1 Z ?_
   refine AB 231 [] [zP w2.heap.size] [zI<|(T.code.getD ((kk).toNat) AD.zero).b,a9,zP w2.heap.size] Z Z Jn Aa (Bi _ ((T.code.getD ((kk).toNat) AD.zero).b) a9 (xs.getD ((kk).toNat) []) S w2.heap.size vo (EL xs ((T.code.getD ((kk).toNat) AD.zero).a)<|xs.getD ((kk).toNat) []) _ _ BO av.2.2.1 en.rd (el.ld (k:=0) sM) cp hSB (fun b hb=>by have:=c1 b hb;omega) oM GN hrb.2 GO) ?_
   rintro m4 fo ⟨rfl,bo,iz,j0⟩
   refine⟨_,rfl,?_⟩
   have k6:fc.heap.size≤fo.heap.size:=bo.size
   have j1:AG w fo:=bo.below ek (fun c hc=>A8 hwB (cp.low c hc)) ek.size
   have j2:=ix.chg bo fun hm=>by have:=cp.low _ hm;have:=hFl _ hm;omega
   have j3:=el.chg bo fun hm=>cm hm
   have lq:=em.chg bo fun hm=>by have:=cp.low _ hm;have:=hFl _ hm;omega
   have lr:=en.chg g1<|bo.sub fun b hb=>List.mem_append_right _ hb
   refine Aj<|Ab _ [0,0,0] Z<|Ad 1 Z<|BC (kk-((1:Nat):Int)) Z Z (DK sD sD) Aa<|Ac 1 Z ?_
   have hbe:=j0
   exact⟨(kk-1,EL (EL xs ((T.code.getD ((kk).toNat) AD.zero).a) (xs.getD ((kk).toNat) [])) ((T.code.getD ((kk).toNat) AD.zero).b) (xs.getD ((kk).toNat) []),iz),_,rfl,zR,⟨j1,j2,j3,oM,hbe,JY,JZ,JX⟩,zD⟩
  refine Al false Z Z (A6 ej) Aa<|Ac 1 Z<|Ai Z<|cP [0,0] Z ?_
  by_cases eo:(T.code.getD ((kk).toNat) AD.zero).op=((4:Nat):Int)
  ·refine Al true Z Z (A5 eo) Aa<|Ac 1 Z<|Ag Z<|cP [0,0,2,0,4] Z ?_
   have hio:=(hform kk.toNat hkn).i2 oM
   have hra:=hxs (T.code.getD kk.toNat AD.zero).a.toNat oM
   have co:=hra.1
   have hRa:=hsR (T.code.getD kk.toNat AD.zero).a.toNat oM
   have hRb:=hsR (T.code.getD kk.toNat AD.zero).b.toNat oM
   have dn:=hRa.1
   have dp:=hRb.1
   refine Ad 1 Z<|Ak (p:=zP f0.drew.heap.size) 1 CS Z Z Aa<|Ah (p:=Ao (zP f0.drew.heap.size) 1) (.inr Z) (zI<|(T.code.getD ((kk).toNat) AD.zero).a) AC Z (a6.ldp (i:=1) sM) Aa<|Ad 1 Z ?_
   refine AB 231 [] [zP w2.heap.size] [zI<|(T.code.getD ((kk).toNat) AD.zero).a,a9,zP w2.heap.size] Z Z Jn Aa (Bi _ ((T.code.getD ((kk).toNat) AD.zero).a) a9 (xs.getD ((kk).toNat) []) S w2.heap.size vo (xs) _ _ BO av.2.1 an.rd (az.ld (k:=0) sM) ae hSB (fun b hb=>by have:=c1 b hb;omega) oM GN hra.2 GO) ?_
   rintro m5 fd ⟨rfl,bp,ls,j4⟩
   refine⟨_,rfl,?_⟩
   have k7:f1.heap.size≤fd.heap.size:=bp.size
   have j5:AG w fd:=bp.below ad (fun c hc=>A8 hwB (ae.low c hc)) ad.size
   have j6:=bm.chg bp fun hm=>by have:=ae.low _ hm;have:=hFl _ hm;omega
   have j7:=az.chg bp fun hm=>cm hm
   have ep:=a6.chg bp fun hm=>by have:=ae.low _ hm;have:=hFl _ hm;omega
   have eq:=an.chg g1<|bp.sub fun b hb=>List.mem_append_right _ hb
   have dq:C7 m (EL xs (T.code.getD kk.toNat AD.zero).a (xs.getD kk.toNat [])):=D0 hxs oM
   have iy:(EL xs (T.code.getD kk.toNat AD.zero).a (xs.getD kk.toNat [])).length=T.code.length:=by rw[Cc];exact hxl
   have hrb:=dq (T.code.getD kk.toNat AD.zero).b.toNat oM
   have dr:=hrb.1
   refine Aj<|AP _ [0,0,1,0,3,4] mixed (by kernel_rfl)<|Ad 1 Z<|Ak (p:=zP f0.drew.heap.size) 2 CG Z Z Aa<|Ah (p:=Ao (zP f0.drew.heap.size) 2) (.inl Z) (zI<|(T.code.getD ((kk).toNat) AD.zero).b) AC Z (ep.ldp (i:=2) sM) Aa<|Ad 1 Z<|Au 187 [] [] [a9,zI ((1000002:Nat):Int)] Z Z Mv Aa (D6 _ _ _ _ eq.rd oM FF FE oM) ?_
   rintro m6 ft ⟨cv,rfl,ao,aw⟩
   refine⟨_,rfl,ao,?_⟩
   replace ao:=ao.of_drew
   have k8:=ao.size
   have er:=j5.trans ao
   have cq:=j6.ext ao
   have bb:=j7.ext ao
   have cr:=ep.ext ao
   have ct:=j4.ext ao
   have j8:=eq.ext g1 ao
   replace aw:=aw.low (B':=fd.heap.size)<|A7 _
   refine AB 231 [] [zP w2.heap.size] [zI<|(T.code.getD ((kk).toNat) AD.zero).b,cv,zP w2.heap.size] Z Z Jn Aa (Bi _ ((T.code.getD ((kk).toNat) AD.zero).b) cv (CQ (xs.getD ((kk).toNat) []) ((1000002:Nat):Int)) S w2.heap.size vo (EL xs ((T.code.getD ((kk).toNat) AD.zero).a)<|xs.getD ((kk).toNat) []) _ _ BO av.2.2.1 aw.rd1 (bb.ld (k:=0) sM) ct hSB (fun b hb=>by have:=c1 b hb;omega) oM GN hrb.2 GO) ?_
   rintro m7 fp ⟨rfl,b8,j9,ja⟩
   refine⟨_,rfl,?_⟩
   have k9:ft.heap.size≤fp.heap.size:=b8.size
   have jb:AG w fp:=b8.below er (fun c hc=>A8 hwB (ct.low c hc)) er.size
   have es:=cq.chg b8 fun hm=>by have:=ct.low _ hm;have:=hFl _ hm;omega
   have et:=bb.chg b8 fun hm=>cm hm
   have ka:=cr.chg b8 fun hm=>by have:=ct.low _ hm;have:=hFl _ hm;omega
   have kb:=j8.chg g1<|b8.sub fun b hb=>List.mem_append_right _ hb
   have kc:=aw.chg (o1) b8 fun c hc=>by have:=hFl c hc;omega
   refine Aj<|Ab _ [0,0,0] Z<|Ad 1 Z<|BC (kk-((1:Nat):Int)) Z Z (DK sD sD) Aa<|Ac 1 Z ?_
   have hbe:=ja
   exact⟨(kk-1,EL (EL xs ((T.code.getD ((kk).toNat) AD.zero).a) (xs.getD ((kk).toNat) [])) ((T.code.getD ((kk).toNat) AD.zero).b) (CQ (xs.getD ((kk).toNat) []) ((1000002:Nat):Int)),j9),_,rfl,zR,⟨jb,es,et,oM,hbe,JY,JZ,JX⟩,zD⟩
  refine Al false Z Z (A6 eo) Aa<|Ac 1 Z<|Ai Z<|cP [0,0] Z ?_
  by_cases cw:(T.code.getD ((kk).toNat) AD.zero).op=((5:Nat):Int)
  ·refine Al true Z Z (A5 cw) Aa<|Ac 1 Z<|Ag Z<|A0<|AP _ [0,0,1,0,0,0,1,0,1,3,4] mixed (by kernel_rfl) ?_
   have hio:=(hform kk.toNat hkn).i2 oM
   have hra:=hxs (T.code.getD kk.toNat AD.zero).a.toNat oM
   have co:=hra.1
   have hRa:=hsR (T.code.getD kk.toNat AD.zero).a.toNat oM
   have hRb:=hsR (T.code.getD kk.toNat AD.zero).b.toNat oM
   have dn:=hRa.1
   have dp:=hRb.1
   refine Ad 1 Z<|Ak (p:=zP f0.drew.heap.size) 1 CS Z Z Aa<|Ah (p:=Ao (zP f0.drew.heap.size) 1) (.inl Z) (zI<|(T.code.getD ((kk).toNat) AD.zero).a) AC Z (a6.ldp (i:=1) sM) Aa<|Ad 2 Z<|Ak (p:=zP f0.drew.heap.size) 2 CG Z Z Aa<|Ah (p:=Ao (zP f0.drew.heap.size) 2) (.inl Z) (zI<|(T.code.getD ((kk).toNat) AD.zero).b) AC Z (a6.ldp (i:=2) sM) Aa ?_
   refine AA (v:=vr) (((T.code.getD ((kk).toNat) AD.zero).b).toNat) C0 Bf Z Z hR.slL oM sD Aa ?_
   obtain⟨cx,eu,cy⟩:=RN.getL (w:=w) g1 [] (k:=((T.code.getD ((kk).toNat) AD.zero).b).toNat) hR sD
   have ds:=cy.lenL
   unfold maxLen at ds
   refine Ah (p:=Ay vr (((T.code.getD ((kk).toNat) AD.zero).b).toNat) 1) (.inl Z) cx Bk Z (eu _<|At.of_ext [] ad.drew) Aa<|Au 179 [] [] [a9,cx] Z Z Od Aa (Dm _ _ _ _ _ an.rd (cy.ext g1 ad.drew).rd FF FF FE FE) ?_
   rintro fu fe ⟨c8,rfl,a2,af⟩
   refine⟨_,rfl,a2,?_⟩
   replace a2:=a2.of_drew
   have jc:=a2.size
   have cz:=ad.trans a2
   have c9:=bm.ext a2
   have b0:=az.ext a2
   have ca:=a6.ext a2
   have bc:=ae.ext a2
   have ev:=an.ext g1 a2
   replace af:=af.low (B':=f1.heap.size)<|A7 _
   refine AB 231 [] [zP w2.heap.size] [zI<|(T.code.getD ((kk).toNat) AD.zero).a,c8,zP w2.heap.size] Z Z Jn Aa (Bi _ ((T.code.getD ((kk).toNat) AD.zero).a) c8 (Cb (xs.getD ((kk).toNat) [])<|R.getD (((T.code.getD ((kk).toNat) AD.zero).b).toNat) []) S w2.heap.size vo (xs) _ _ BO av.2.1 af.rd1 (b0.ld (k:=0) sM) bc hSB (fun b hb=>by have:=c1 b hb;omega) oM GN hra.2 GO) ?_
   rintro fv f2 ⟨rfl,ak,kd,ew⟩
   refine⟨_,rfl,?_⟩
   have jd:fe.heap.size≤f2.heap.size:=ak.size
   have cb:AG w f2:=ak.below cz (fun c hc=>A8 hwB (bc.low c hc)) cz.size
   have ex:=c9.chg ak fun hm=>by have:=bc.low _ hm;have:=hFl _ hm;omega
   have ey:=b0.chg ak fun hm=>cm hm
   have cc:=ca.chg ak fun hm=>by have:=bc.low _ hm;have:=hFl _ hm;omega
   have d0:=ev.chg g1<|ak.sub fun b hb=>List.mem_append_right _ hb
   have ez:=af.chg (o1) ak fun c hc=>by have:=hFl c hc;omega
   have dq:C7 m (EL xs (T.code.getD kk.toNat AD.zero).a (Cb (xs.getD kk.toNat []) (R.getD (T.code.getD kk.toNat AD.zero).b.toNat []))):=D0 hxs oM
   have iy:(EL xs (T.code.getD kk.toNat AD.zero).a (Cb (xs.getD kk.toNat []) (R.getD (T.code.getD kk.toNat AD.zero).b.toNat []))).length=T.code.length:=by rw[Cc];exact hxl
   have hrb:=dq (T.code.getD kk.toNat AD.zero).b.toNat oM
   have dr:=hrb.1
   refine Aj<|AP _ [0,0,1,0,0,0,1,0,1,3,4] mixed (by kernel_rfl)<|Ad 1 Z<|Ak (p:=zP f0.drew.heap.size) 2 CG Z Z Aa<|Ah (p:=Ao (zP f0.drew.heap.size) 2) (.inl Z) (zI<|(T.code.getD ((kk).toNat) AD.zero).b) AC Z (cc.ldp (i:=2) sM) Aa<|Ad 2 Z<|Ak (p:=zP f0.drew.heap.size) 1 CS Z Z Aa<|Ah (p:=Ao (zP f0.drew.heap.size) 1) (.inl Z) (zI<|(T.code.getD ((kk).toNat) AD.zero).a) AC Z (cc.ldp (i:=1) sM) Aa ?_
   refine AA (v:=vr) (((T.code.getD ((kk).toNat) AD.zero).a).toNat) C0 Bf Z Z hR.slL oM sD Aa ?_
   obtain⟨d1,g0,d2⟩:=RN.getL (w:=w) g1 [] (k:=((T.code.getD ((kk).toNat) AD.zero).a).toNat) hR sD
   have dt:=d2.lenL
   unfold maxLen at dt
   refine Ah (p:=Ay vr (((T.code.getD ((kk).toNat) AD.zero).a).toNat) 1) (.inl Z) d1 Bk Z (g0 _<|At.of_ext [] cb.drew) Aa<|Au 179 [] [] [a9,d1] Z Z Od Aa (Dm _ _ _ _ _ d0.rd (d2.ext g1 cb.drew).rd FF FF FE FE) ?_
   rintro fw ff ⟨cd,rfl,a0,ag⟩
   refine⟨_,rfl,a0,?_⟩
   replace a0:=a0.of_drew
   have je:=a0.size
   have d3:=cb.trans a0
   have bq:=ex.ext a0
   have aq:=ey.ext a0
   have br:=cc.ext a0
   have bs:=ez.ext (o1) a0
   have bd:=ew.ext a0
   have g2:=d0.ext g1 a0
   replace ag:=ag.low (B':=f2.heap.size)<|A7 _
   refine AB 231 [] [zP w2.heap.size] [zI<|(T.code.getD ((kk).toNat) AD.zero).b,cd,zP w2.heap.size] Z Z Jn Aa (Bi _ ((T.code.getD ((kk).toNat) AD.zero).b) cd (Cb (xs.getD ((kk).toNat) [])<|R.getD (((T.code.getD ((kk).toNat) AD.zero).a).toNat) []) S w2.heap.size vo (EL xs ((T.code.getD ((kk).toNat) AD.zero).a)<|Cb (xs.getD ((kk).toNat) [])<|R.getD (((T.code.getD ((kk).toNat) AD.zero).b).toNat) []) _ _ BO av.2.2.1 ag.rd1 (aq.ld (k:=0) sM) bd hSB (fun b hb=>by have:=c1 b hb;omega) oM GN hrb.2 GO) ?_
   rintro fx f6 ⟨rfl,aa,g3,g4⟩
   refine⟨_,rfl,?_⟩
   have jf:ff.heap.size≤f6.heap.size:=aa.size
   have g5:AG w f6:=aa.below d3 (fun c hc=>A8 hwB (bd.low c hc)) d3.size
   have g6:=bq.chg aa fun hm=>by have:=bd.low _ hm;have:=hFl _ hm;omega
   have g7:=aq.chg aa fun hm=>cm hm
   have ke:=br.chg aa fun hm=>by have:=bd.low _ hm;have:=hFl _ hm;omega
   have kf:=g2.chg g1<|aa.sub fun b hb=>List.mem_append_right _ hb
   have kg:=bs.chg (o1) aa fun c hc=>by have:=hFl c hc;omega
   have kh:=ag.chg (o1) aa fun c hc=>by have:=hFl c hc;omega
   refine Aj<|Ab _ [0,0,0] Z<|Ad 1 Z<|BC (kk-((1:Nat):Int)) Z Z (DK sD sD) Aa<|Ac 1 Z ?_
   have hbe:=g4
   exact⟨(kk-1,EL (EL xs ((T.code.getD ((kk).toNat) AD.zero).a) (Cb (xs.getD ((kk).toNat) []) (R.getD (((T.code.getD ((kk).toNat) AD.zero).b).toNat) []))) ((T.code.getD ((kk).toNat) AD.zero).b) (Cb (xs.getD ((kk).toNat) []) (R.getD (((T.code.getD ((kk).toNat) AD.zero).a).toNat) [])),g3),_,rfl,zR,⟨g5,g6,g7,oM,hbe,JY,JZ,JX⟩,zD⟩
  refine Al false Z Z (A6 cw) Aa<|Ac 1 Z<|Ai Z<|cP [0,0] Z ?_
  by_cases d4:(T.code.getD ((kk).toNat) AD.zero).op=((6:Nat):Int)
  ·refine Al true Z Z (A5 d4) Aa<|Ac 1 Z<|Ag Z<|cP [0,0,0,2,0,2,3,0] Z ?_
   have hio:=(hform kk.toNat hkn).i2 oM
   have hra:=hxs (T.code.getD kk.toNat AD.zero).a.toNat oM
   have co:=hra.1
   have hRa:=hsR (T.code.getD kk.toNat AD.zero).a.toNat oM
   have hRb:=hsR (T.code.getD kk.toNat AD.zero).b.toNat oM
   have dn:=hRa.1
   have dp:=hRb.1
   refine Ad 2 Z<|Ak (p:=zP f0.drew.heap.size) 2 CG Z Z Aa<|Ah (p:=Ao (zP f0.drew.heap.size) 2) (.inr Z) (zI<|(T.code.getD ((kk).toNat) AD.zero).b) AC Z (a6.ldp (i:=2) sM) Aa<|AA (v:=vr) (((T.code.getD ((kk).toNat) AD.zero).b).toNat) C0 Bf Z Z hR.slL oM sD Aa ?_
   obtain⟨d5,g8,d6⟩:=RN.getL (w:=w) g1 [] (k:=((T.code.getD ((kk).toNat) AD.zero).b).toNat) hR sD
   have du:=d6.lenL
   unfold maxLen at du
   refine Ah (p:=Ay vr (((T.code.getD ((kk).toNat) AD.zero).b).toNat) 1) (.inr Z) d5 Bk Z (g8 _<|At.of_ext [] ad) Aa<|Au 177 [] [] [a9,d5] Z Z SY Aa (EO _ _ _ _ _ an.rd (d6.ext g1 ad).rd FF FF oM FE FE) ?_
   rintro fy fg ⟨b9,rfl,ab,be⟩
   refine⟨_,rfl,ab,?_⟩
   have jg:=ab.size
   have d7:=ad.trans ab
   have ce:=bm.ext ab
   have b1:=az.ext ab
   have b2:=a6.ext ab
   have bf:=ae.ext ab
   have g9:=an.ext g1 ab
   refine Ac 1 Z<|cP [0,0,2,0,4] Z<|Ad 1 Z<|Ak (p:=zP f0.drew.heap.size) 1 CS Z Z Aa<|Ah (p:=Ao (zP f0.drew.heap.size) 1) (.inr Z) (zI<|(T.code.getD ((kk).toNat) AD.zero).a) AC Z (b2.ldp (i:=1) sM) Aa<|Ad 1 Z ?_
   refine AB 231 [] [zP w2.heap.size] [zI<|(T.code.getD ((kk).toNat) AD.zero).a,b9,zP w2.heap.size] Z Z Jn Aa (Bi _ ((T.code.getD ((kk).toNat) AD.zero).a) b9 (Bs (xs.getD ((kk).toNat) [])<|R.getD (((T.code.getD ((kk).toNat) AD.zero).b).toNat) []) S w2.heap.size vo (xs) _ _ BO av.2.1 be.rd1 (b1.ld (k:=0) sM) bf hSB (fun b hb=>by have:=c1 b hb;omega) oM GN hra.2 GO) ?_
   rintro fz f3 ⟨rfl,al,ki,ga⟩
   refine⟨_,rfl,?_⟩
   have jh:fg.heap.size≤f3.heap.size:=al.size
   have cf:AG w f3:=al.below d7 (fun c hc=>A8 hwB (bf.low c hc)) d7.size
   have gb:=ce.chg al fun hm=>by have:=bf.low _ hm;have:=hFl _ hm;omega
   have gc:=b1.chg al fun hm=>cm hm
   have d8:=b2.chg al fun hm=>by have:=bf.low _ hm;have:=hFl _ hm;omega
   have gd:=g9.chg g1<|al.sub fun b hb=>List.mem_append_right _ hb
   have d9:=be.chg (o1) al fun c hc=>by have:=hFl c hc;omega
   have dq:C7 m (EL xs (T.code.getD kk.toNat AD.zero).a (Bs (xs.getD kk.toNat []) (R.getD (T.code.getD kk.toNat AD.zero).b.toNat []))):=D0 hxs oM
   have iy:(EL xs (T.code.getD kk.toNat AD.zero).a (Bs (xs.getD kk.toNat []) (R.getD (T.code.getD kk.toNat AD.zero).b.toNat []))).length=T.code.length:=by rw[Cc];exact hxl
   have hrb:=dq (T.code.getD kk.toNat AD.zero).b.toNat oM
   have dr:=hrb.1
   refine Aj<|AP _ [0,0,1,0,0,0,0,1,3,3,4] mixed (by kernel_rfl)<|Ad 1 Z<|Ak (p:=zP f0.drew.heap.size) 2 CG Z Z Aa<|Ah (p:=Ao (zP f0.drew.heap.size) 2) (.inl Z) (zI<|(T.code.getD ((kk).toNat) AD.zero).b) AC Z (d8.ldp (i:=2) sM) Aa<|Ad 3 Z ?_
   refine AA (v:=vr) ((kk).toNat) C0 Bf Z Z hR.slL oM sD Aa ?_
   obtain⟨da,ge,db⟩:=RN.getL (w:=w) g1 [] (k:=(kk).toNat) hR sD
   have dv:=db.lenL
   unfold maxLen at dv
   refine Ah (p:=Ay vr ((kk).toNat) 1) (.inl Z) da Bk Z (ge _<|At.of_ext [] cf.drew) Aa<|Au 179 [] [] [b9,da] Z Z Od Aa (Dm _ _ _ _ _ d9.rd1 (db.ext g1 cf.drew).rd FF FF FE FE) ?_
   rintro lv lw ⟨dw,rfl,a1,ah⟩
   refine⟨_,rfl,a1,?_⟩
   replace a1:=a1.of_drew
   have ji:=a1.size
   have gf:=cf.trans a1
   have bt:=gb.ext a1
   have bu:=gc.ext a1
   have bv:=d8.ext a1
   have bw:=d9.ext (o1) a1
   have gg:=ga.ext a1
   have gh:=gd.ext g1 a1
   replace ah:=ah.low (B':=f3.heap.size)<|A7 _
   refine Au 187 [] [] [dw,zI ((1000002:Nat):Int)] Z Z Mv Aa (D6 _ _ _ _ ah.rd1 oM FF FE oM) ?_
   rintro lx fh ⟨cg,rfl,a3,bg⟩
   refine⟨_,rfl,a3,?_⟩
   have jj:=a3.size
   have dc:=gf.trans a3
   have bx:=bt.ext a3
   have ar:=bu.ext a3
   have bz:=bv.ext a3
   have c0:=bw.ext (o1) a3
   have b3:=ah.ext (o1) a3
   have bh:=gg.ext a3
   have gi:=gh.ext g1 a3
   refine AB 231 [] [zP w2.heap.size] [zI<|(T.code.getD ((kk).toNat) AD.zero).b,cg,zP w2.heap.size] Z Z Jn Aa (Bi _ ((T.code.getD ((kk).toNat) AD.zero).b) cg (CQ (Cb (Bs (xs.getD ((kk).toNat) [])<|R.getD (((T.code.getD ((kk).toNat) AD.zero).b).toNat) [])<|R.getD ((kk).toNat) []) ((1000002:Nat):Int)) S w2.heap.size vo (EL xs ((T.code.getD ((kk).toNat) AD.zero).a)<|Bs (xs.getD ((kk).toNat) [])<|R.getD (((T.code.getD ((kk).toNat) AD.zero).b).toNat) []) _ _ BO av.2.2.1 bg.rd1 (ar.ld (k:=0) sM) bh hSB (fun b hb=>by have:=c1 b hb;omega) oM GN hrb.2 GO) ?_
   rintro ly f7 ⟨rfl,a7,gj,gk⟩
   refine⟨_,rfl,?_⟩
   have jk:fh.heap.size≤f7.heap.size:=a7.size
   have gl:AG w f7:=a7.below dc (fun c hc=>A8 hwB (bh.low c hc)) dc.size
   have gm:=bx.chg a7 fun hm=>by have:=bh.low _ hm;have:=hFl _ hm;omega
   have gn:=ar.chg a7 fun hm=>cm hm
   have kj:=bz.chg a7 fun hm=>by have:=bh.low _ hm;have:=hFl _ hm;omega
   have kl:=gi.chg g1<|a7.sub fun b hb=>List.mem_append_right _ hb
   have km:=c0.chg (o1) a7 fun c hc=>by have:=hFl c hc;omega
   have kn:=b3.chg (o1) a7 fun c hc=>by have:=hFl c hc;omega
   have ko:=bg.chg (o1) a7 fun c hc=>by have:=hFl c hc;omega
   refine Aj<|Ab _ [0,0,0] Z<|Ad 1 Z<|BC (kk-((1:Nat):Int)) Z Z (DK sD sD) Aa<|Ac 1 Z ?_
   have hbe:=gk
   exact⟨(kk-1,EL (EL xs ((T.code.getD ((kk).toNat) AD.zero).a) (Bs (xs.getD ((kk).toNat) []) (R.getD (((T.code.getD ((kk).toNat) AD.zero).b).toNat) []))) ((T.code.getD ((kk).toNat) AD.zero).b) (CQ (Cb (Bs (xs.getD ((kk).toNat) []) (R.getD (((T.code.getD ((kk).toNat) AD.zero).b).toNat) [])) (R.getD ((kk).toNat) [])) ((1000002:Nat):Int)),gj),_,rfl,zR,⟨gl,gm,gn,oM,hbe,JY,JZ,JX⟩,zD⟩
  refine Al false Z Z (A6 d4) Aa<|Ac 1 Z<|Ai Z<|cP [0,0] Z ?_
  by_cases dd:(T.code.getD ((kk).toNat) AD.zero).op=((7:Nat):Int)
  ·refine Al true Z Z (A5 dd) Aa<|Ac 1 Z<|Ag Z<|AP _ [0,0,1,0,3,4] mixed (by kernel_rfl) ?_
   have hio:=(hform kk.toNat hkn).i7 oM
   have hra:=hxs (T.code.getD kk.toNat AD.zero).a.toNat oM
   have co:=hra.1
   refine Ad 1 Z<|Ak (p:=zP f0.drew.heap.size) 1 CS Z Z Aa<|Ah (p:=Ao (zP f0.drew.heap.size) 1) (.inl Z) (zI<|(T.code.getD ((kk).toNat) AD.zero).a) AC Z (a6.ldp (i:=1) sM) Aa<|Ad 1 Z<|Au 187 [] [] [a9,zI ((1000002:Nat):Int)] Z Z Mv Aa (D6 _ _ _ _ an.rd oM FF FE oM) ?_
   rintro lz fi ⟨ch,rfl,a4,ai⟩
   refine⟨_,rfl,a4,?_⟩
   replace a4:=a4.of_drew
   have jl:=a4.size
   have de:=ad.trans a4
   have ci:=bm.ext a4
   have b4:=az.ext a4
   have cj:=a6.ext a4
   have bi:=ae.ext a4
   have go:=an.ext g1 a4
   replace ai:=ai.low (B':=f1.heap.size)<|A7 _
   refine AB 231 [] [zP w2.heap.size] [zI<|(T.code.getD ((kk).toNat) AD.zero).a,ch,zP w2.heap.size] Z Z Jn Aa (Bi _ ((T.code.getD ((kk).toNat) AD.zero).a) ch (CQ (xs.getD ((kk).toNat) []) ((1000002:Nat):Int)) S w2.heap.size vo (xs) _ _ BO av.2.1 ai.rd1 (b4.ld (k:=0) sM) bi hSB (fun b hb=>by have:=c1 b hb;omega) oM GN hra.2 GO) ?_
   rintro m0 f8 ⟨rfl,am,gp,gq⟩
   refine⟨_,rfl,?_⟩
   have jm:fi.heap.size≤f8.heap.size:=am.size
   have gr:AG w f8:=am.below de (fun c hc=>A8 hwB (bi.low c hc)) de.size
   have gs:=ci.chg am fun hm=>by have:=bi.low _ hm;have:=hFl _ hm;omega
   have gt:=b4.chg am fun hm=>cm hm
   have kp:=cj.chg am fun hm=>by have:=bi.low _ hm;have:=hFl _ hm;omega
   have kq:=go.chg g1<|am.sub fun b hb=>List.mem_append_right _ hb
   have kr:=ai.chg (o1) am fun c hc=>by have:=hFl c hc;omega
   refine Aj<|Ab _ [0,0,0] Z<|Ad 1 Z<|BC (kk-((1:Nat):Int)) Z Z (DK sD sD) Aa<|Ac 1 Z ?_
   have hbe:=gq
   exact⟨(kk-1,EL xs ((T.code.getD ((kk).toNat) AD.zero).a) (CQ (xs.getD ((kk).toNat) []) ((1000002:Nat):Int)),gp),_,rfl,zR,⟨gr,gs,gt,oM,hbe,JY,JZ,JX⟩,zD⟩
  refine Al false Z Z (A6 dd) Aa<|Ac 1 Z<|Ai Z<|A2<|Ab _ [0,0,0] Z<|Ad 1 Z ?_
  refine BC (kk-((1:Nat):Int)) Z Z (DK sD sD) Aa<|Ac 1 Z ?_
  have hbe:=ae
  exact⟨(kk-1,xs,us),_,rfl,zR,⟨ad,bm,az,oM,hbe,JY,JZ,JX⟩,zD⟩
 refine FK false Z Z (A6 eg) Aa<|Aj<|Ai Z<|A4<|Aw<|Aw<|Aq<|cP [2,0] Z<|Ah (p:=zP w2.heap.size) (.inr Z) vo Lm Z (a8.ld (k:=0) sM) Aa<|Ac 1 Z<|A1 ?_
 have hfin:xs=Je T.code R oT ws:=by have h9:=hadj;rw[show(kk+1).toNat=0 from by omega,gw]at h9;exact h9
 exact Af [6] Z vo Z ⟨_,rfl,cn,(by rw[← hfin];exact(hbl.done hSB)),hbl.cap⟩
theorem HC (w:World)(m:Nat)(ni:Nat)(S:List Nat)(ipT:Int)(vtc vtg vtx:Value)(T:Tp)(oT:List Int)(vl:Value)(L:List (List Int))(b5:∀b∈S,b<w.heap.size)(_hipT:Bw ipT)(htcT:RN [] (DS 4 Oi) w.heap vtc T.code)(htgT:RN [] (DS 2 Oj) w.heap vtg T.grd)(htoT:RN [] (B2 rI) w.heap vtx oT)(hL:RN [] (B2 (B2 rI)) w.heap vl L)(hqL:Ci vl)(hm:1≤m∧m≤13)(hni:ipT=(ni:Int)∧ni≤1000)(hsL:C7 m L)(hlL:L.length=T.code.length∧0<L.length)(hlt:T.code.length≤4000)(hform:∀k,k<T.code.length→EV ni k (T.code.getD k AD.zero)) :
  Calls Tryz.prog 107 #[(.agg #[(zI ipT),vtc,vtg,vtx]),vl] w (fun e w'=>∃v0:Value,e=.returned v0∧AG w w'∧RN S (B2 (B2 rI)) w'.heap v0 (Uw ni m T.code L)∧Ci v0):=by
 refine Ap [.agg #[zI ipT,vtc,vtg,vtx],vl] 54 Tryz.func107 Z Z sM ?_
 have bt:AG w w:=AG.refl w
 have hl_vtx:=htoT.lenL
 unfold maxLen at hl_vtx
 have cz:=hL.lenL
 unfold maxLen at cz
 have bu:=hsL 0 oM
 have c9:=bu.1
 refine cP [3,0] Z (Bx (cs:=#[zI ipT,vtc,vtg,vtx]) Z Aa fun w1 b6 ca b7=>?_)
 have b8:=b6.size
 have b9:=bt.trans b6
 replace b7:BX w1.heap w.heap.size [zI ipT,vtc,vtg,vtx]:=b7
 refine Ac 1 Z<|cP [3,0,0] Z (CH (Bt rI 2) o1 C0 Bf Aa fun v2 w2 b2 cb bv=>?_)
 have ba:=b2.size
 have bb:=b9.trans b2
 have ai:=b7.ext b2
 refine Ac 2 Z<|A0<|cP [0,0,0] Z<|Ad 1 Z<|AO (v:=vl) C0 Z hL.slL Aa ?_
 have cc:((0:Nat):Int)<(L.length:Int):=oM
 refine BN true Z Z (A5 cc) Aa<|Aj<|Ag Z<|Ab _ [0,0,2,0,0] Z<|Ad 1 Z<|AA (v:=vl) 0 C0 Bf Z Z hL.slL Z sD Aa ?_
 obtain⟨bw,cd,bx⟩:=RN.getL (w:=w) g1 [] (k:=0) hL sD
 have ao:=bx.lenL
 unfold maxLen at ao
 refine Ah (p:=Ay vl 0 1) (.inr Z) bw Bk Z (cd _<|At.of_ext [] bb) Aa<|AO (v:=bw) Bj Z bx.slL Aa<|Ac 1 Z<|A0<|cP [0,2,0] Z<|Ak (p:=zP w.heap.size) 0 N7 Z Z Aa<|Ah (p:=Ao (zP w.heap.size) 0) (.inr Z) (zI ipT) AC Z (ai.ldp (i:=0) sM) Aa<|Ac 1 Z<|A3 ?_
 refine AY (S:=Nat×Value) (fun⟨k,vo⟩=>([(5,vo),(19,zI (k:Int)),(1,vl),(2,zP w.heap.size),(6,zI (((L.getD 0 []).length:Nat):Int)),(18,zI ipT)])) (fun⟨k,vo⟩ W=>AG w W∧Fr (Bt (Bt rI 2) 27) w1.heap.size W.heap.size W.heap vo (List.replicate k<|List.replicate m 0)∧BX W.heap w.heap.size [zI ipT,vtc,vtg,vtx]∧k≤ni∧w.heap.size<w1.heap.size∧w1.heap.size≤W.heap.size) (fun⟨k,vo⟩=>ni-k) (0,v2) ⟨rfl,rfl,rfl,rfl,rfl,rfl,trivial⟩ ⟨bb,bv.up o2,ai,oM,oM,oM⟩ ?_
 clear bt bu ca b6 bv cb b2 ba bb ao
 rintro⟨k,vo⟩ ρ6 w6 ⟨b3,a4,a2,bz,ce,cf⟩
 have bc:w.heap.size≤w6.heap.size:=b3.size
 have cx:=a2.lt
 refine cP [0] Z ?_
 by_cases c0:(k:Int)<ipT
 ·refine AE true Z Z (A5 c0) Aa<|Aj<|A0<|Ag Z<|A2<|A0<|A3<|Ab _ [0,0,3,3,4,0] Z<|Ad 2 Z (Fj (n:=(L.getD 0 []).length) Bj BH Z Z Z sD Aa fun d5 da ab cg bd=>?_)
  have c1:=ab.size
  have be:=b3.trans ab
  have a5:=a4.ext (o2) ab
  have a6:=a2.ext ab
  refine BK (u:=d5) (B:=w6.heap.size) o1 C0 Bf Z Z bd (by first|exact A7 _|omega) Aa fun d6 d7 ac ch bf=>?_
  have c2:=ac.size
  have ap:=be.trans ac
  have a7:=a5.ext (o2) ac
  have a8:=a6.ext ac
  refine Ij o1 (v:=vo) (a:=d6) C0 Bf Z Z Z a7 oM bf oM oM sD (by unfold maxLen;first|omega|assumption|(simp;done)|(simp;omega)) Aa fun d8 d1 db ak aq bg=>?_
  have bh:AG w d1:=ak.below ap (fun c hc=>A8 b9.size (aq c hc).1) ap.size
  have c3:d7.heap.size≤d1.heap.size:=ak.size
  have bi:=a8.chg ak fun hm=>by have:=aq _ hm;omega
  exact Ac 1 Z<|Ab _ [0,0] Z<|AN ((k+1:Nat):Int) Z Z (Bg oM oM) Aa<|Ac 1 Z ⟨(k+1,d8),_,rfl,zR,⟨bh,(by have h:=bg.up o2;rw[c9,← List.replicate_succ']at h;exact h),bi,oM,oM,oM⟩,zD⟩
 refine AE false Z Z (A6 c0) Aa<|Aj<|A0<|Ai Z<|A4<|Aw<|Aw<|Aq<|A0<|cP [0,2,0,0] Z ?_
 have hOw:=a4
 rw[show k=ni from by omega]at hOw
 obtain⟨ci,F0,bj,cj⟩:=Ha.ofFr (S:=S) hOw (fun b hb=>by have:=b5 b hb;omega)
 obtain⟨BO,hBO⟩:∃b:Nat,b=w1.heap.size:=⟨_,rfl⟩
 rw[← hBO]at bj
 have hwB:w.heap.size≤BO:=by omega
 have hSB:∀b∈S,b<BO:=fun b hb=>by have:=b5 b hb;omega
 obtain⟨B0,b4⟩:∃l:List Sr,l=(List.replicate ni (List.replicate m 0)):=⟨_,rfl⟩
 rw[← b4]at bj
 have ck:C7 m B0:=by rw[b4];exact MY m ni
 have bk:B0.length=ni:=by rw[b4,List.length_replicate]
 refine Ak (p:=zP w.heap.size) 1 Fw Z Z Aa<|Ah (p:=Ao (zP w.heap.size) 1) (.inr Z) vtc Ka Z (a2.ldp (i:=1) sM) Aa<|AO (v:=vtc) OO Z htcT.isSl Aa<|Ac 1 Z<|A3<|AY (S:=Nat×List Value) (fun⟨j,us⟩=>([(30,zI (j:Int)),(1,vl),(5,vo),(28,vtc),(29,zI (T.code.length:Int))])) (fun⟨j,us⟩ W=>AG w W∧j≤T.code.length∧Ha 27 S BO W.heap vo (PX T.code L j B0) us F0) (fun⟨j,us⟩=>T.code.length-j) (0,ci) ⟨rfl,rfl,rfl,rfl,rfl,trivial⟩ ⟨b3,oM,bj⟩ ?_
 clear b8 b9 a2 a4 b3 bc cj
 rintro⟨j,us⟩ ρ14 cy ⟨ad,bl,hbl⟩
 have c4:w.heap.size≤cy.heap.size:=ad.size
 have hFl:∀b∈F0,b<cy.heap.size:=hbl.lt
 refine cP [0] Z ?_
 by_cases ar:(j:Int)<(T.code.length:Int)
 ·refine AE true Z Z (A5 ar) Aa<|Aj<|A0<|Ag Z<|A2<|A0<|A3<|cP [0,0,2,3,0,4] Z ?_
  have hjk:j<T.code.length:=by omega
  refine Ad 1 Z<|AA (v:=vtc) j OO Jo Z Z htcT.isSl Z sD Aa ?_
  obtain⟨cs16,bm,bn⟩:=htcT.get B5 AD.zero (k:=j) sD
  obtain⟨rfl,cl⟩:=MV bm
  refine AM (p:=Ay vtc j 4) (.inr Z) [zI<|(T.code.getD j AD.zero).op,zI<|(T.code.getD j AD.zero).a,zI<|(T.code.getD j AD.zero).b,zI<|(T.code.getD j AD.zero).num] Fx Z (fun d9 cm=>bn d9<|At.of_ext []<|ad.trans cm) Z Aa (Bp (z:=.agg #[zI 0,zI 0,zI 0,zI 0]) T8 Aa fun d2 a9 cn al=>?_)
  have c5:=a9.size
  have au:=ad.trans a9
  have co:=hbl.ext a9
  replace al:BX d2.heap cy.heap.size [zI 0,zI 0,zI 0,zI 0]:=al
  refine Ad 1 Z (Bz (vs:=[zI<|(T.code.getD j AD.zero).op,zI<|(T.code.getD j AD.zero).a,zI<|(T.code.getD j AD.zero).b,zI<|(T.code.getD j AD.zero).num]) Fx Z Z (by intro u hu;simp only[List.mem_cons,List.not_mem_nil,or_false]at hu;rcases hu with rfl|rfl|rfl|rfl <;> first|exact⟨rfl,rfl⟩) al Z Z Aa fun d0 am cp a3=>?_)
  replace a3:BX d0.heap cy.heap.size [zI ((T.code.getD j AD.zero).op),zI ((T.code.getD j AD.zero).a),zI ((T.code.getD j AD.zero).b),zI ((T.code.getD j AD.zero).num)]:=a3
  have ae:AG w d0:=am.below au (fun _ h=>zE h) au.size
  have c6:d2.heap.size≤d0.heap.size:=am.size
  have af:=hbl.ext<|am.below a9 (fun _ h=>zE h) a9.size
  refine Aj<|cP [0,2,0] Z<|Ak (p:=zP cy.heap.size) 0 Lq Z Z Aa<|Ah (p:=Ao (zP cy.heap.size) 0) (.inr Z) (zI<|(T.code.getD j AD.zero).op) AC Z (a3.ldp (i:=0) sM) Aa ?_
  by_cases av:(T.code.getD j AD.zero).op=((1:Nat):Int)
  ·refine Al true Z Z (A5 av) Aa<|Aj<|Ag Z<|AP _ [0,0,1,0,0,1,0,1,0,0,0,1,3,0,4] mixed (by kernel_rfl) ?_
   have hio:=(hform j hjk).i1 oM
   have hra:=KC (cs:=T.code) (L:=L) (B:=B0) (fun q hq=>by rw[bk];exact hform q hq) ck j oM (T.code.getD j AD.zero).num.toNat (by rw[Jg,bk];omega)
   have cq:=hra.1
   have hLj:=hsL j oM
   have cr:=hLj.1
   have hbn:(PX T.code L j B0).length=ni:=by rw[Jg,bk]
   refine Ad 1 Z<|Ak (p:=zP cy.heap.size) 3 Fy Z Z Aa<|Ah (p:=Ao (zP cy.heap.size) 3) (.inl Z) (zI<|(T.code.getD j AD.zero).num) AC Z (a3.ldp (i:=3) sM) Aa<|Ad 1 Z<|Ak (p:=zP cy.heap.size) 3 Fy Z Z Aa<|Ah (p:=Ao (zP cy.heap.size) 3) (.inl Z) (zI<|(T.code.getD j AD.zero).num) AC Z (a3.ldp (i:=3) sM) Aa ?_
   refine AA (v:=vo) (((T.code.getD j AD.zero).num).toNat) C0 Bf Z Z (af.done hSB).none.slL oM sD Aa ?_
   obtain⟨aw,bo,an⟩:=af.getF (k:=((T.code.getD j AD.zero).num).toNat) sD
   have ax:=an.lenL
   unfold maxLen at ax
   refine Ah (p:=Ay vo (((T.code.getD j AD.zero).num).toNat) 1) (.inl Z) aw Bk Z bo Aa<|Ad 2 Z<|AA (v:=vl) j C0 Bf Z Z hL.slL Z sD Aa ?_
   obtain⟨ay,bp,az⟩:=RN.getL (w:=w) g1 [] (k:=j) hL sD
   have b0:=az.lenL
   unfold maxLen at b0
   refine Ah (p:=Ay vl j 1) (.inl Z) ay Bk Z (bp _<|At.of_ext [] ae.drew) Aa<|Au 185 [] [] [aw,ay] Z Z Oe Aa (E4 _ _ _ _ _ an.rd (az.ext g1 ae.drew).rd oM oM hra.2 hLj.2) ?_
   rintro dc d3 ⟨aj,rfl,a1,a0⟩
   refine⟨_,rfl,a1,?_⟩
   replace a1:=a1.of_drew
   have c7:=a1.size
   have b1:=ae.trans a1
   have ag:=a3.ext a1
   have ah:=af.ext a1
   have bq:=an.ext g1 a1
   replace a0:=a0.low (B':=d0.heap.size)<|A7 _
   refine AA (v:=vo) (((T.code.getD j AD.zero).num).toNat) C0 Bf Z Z (ah.done hSB).none.slL oM sD Aa ?_
   refine SB (v:=vo) (u:=aj) (w:=d3) QI Z Z ah (RN.of_fr1 a0 fun b hb=>by rcases List.mem_append.1 hb with hb|hb;(have:=b5 b hb;omega);(have:=hFl b hb;omega)) sD Aa fun d4 aa ct br=>?_
   have c8:d3.heap.size≤d4.heap.size:=aa.size
   have bs:AG w d4:=aa.below b1 (fun c hc=>A8 hwB (ah.low c hc)) b1.size
   have cu:=ag.chg aa fun hm=>by have:=ah.low _ hm;have:=hFl _ hm;omega
   have cv:=bq.chg g1<|aa.sub fun b hb=>List.mem_append_right _ hb
   have cw:=a0.chg (o1) aa fun c hc=>by have:=hFl c hc;omega
   refine Aj<|Ab _ [0,0] Z<|AN ((j+1:Nat):Int) Z Z (Bg oM sD) Aa<|Ac 1 Z ?_
   have hbe:=br
   exact⟨(j+1,us.set (((T.code.getD j AD.zero).num).toNat) aj),_,rfl,zR,⟨bs,oM,(by first|(rw[Lf oM];exact hbe)|(rw[Lg oM];exact hbe))⟩,zD⟩
  refine Al false Z Z (A6 av) Aa<|Aj<|Ai Z<|A2<|Ab _ [0,0] Z<|AN ((j+1:Nat):Int) Z Z (Bg oM sD) Aa<|Ac 1 Z ?_
  have hbe:=af
  exact⟨(j+1,us),_,rfl,zR,⟨ae,oM,(by first|(rw[Lf oM];exact hbe)|(rw[Lg oM];exact hbe))⟩,zD⟩
 exact AE false Z Z (A6 ar) Aa<|Aj<|A0<|Ai Z<|A4<|Aw<|Aw<|Aq<|cP [0,0] Z<|Ac 2 Z<|A1<|Af [4] Z vo Z ⟨_,rfl,ad,(by have h9:=(hbl.done hSB);rw[show j=T.code.length from by omega,b4]at h9;exact h9),hbl.cap⟩
theorem IN (w:World)(r:Int)(vm:Nat)(m:Int)(_hr:Bw r)(hcm:GP w.heap (zP vm)=some (zI m))(_hm:Bw m)(hm:0≤m∧m≤1000000) :
  Calls Tryz.prog 193 #[zI r,zP vm] w (fun e w'=>e=.returned (.bool (!(decide (0≤r) && decide (r≤m-1))))∧AG w w'):=by
 refine Ap [zI r,zP vm] 9 Tryz.func193 Z Z sM ?_
 have a0:AG w w:=AG.refl w
 refine cQ Z<|cP [0,2,0,0,0,0] Z<|Ad 1 Z<|Ah (.inr Z) (zI m) AC Z (B7 a0 hcm) Aa ?_
 refine BC (m-((1:Nat):Int)) Z Z (DK sD sD) Aa ?_
 exact Az 117 [] [] [zI r,zI ((0:Nat):Int),zI (m-((1:Nat):Int))] Z Z CW Aa (.bool (decide (((0:Nat):Int)≤r) && decide (r≤(m-((1:Nat):Int))))) (fun wq=>AS wq _ _ _ _hr oM oM)<|Bv (!(decide (((0:Nat):Int)≤r) && decide (r≤(m-((1:Nat):Int))))) Z Z Aa<|Ac 1 Z<|A1<|Af [3] Z (.bool (!(decide (((0:Nat):Int)≤r) && decide (r≤(m-((1:Nat):Int)))))) Z ⟨AJ (by first|rfl|simp_all),a0⟩
theorem HD {p:Prop}(h:p:=by first|rfl|exact AJ (A5 oM)|(exfalso;(try unfold EV at hf);omega)):p:=h
theorem Ej {p:Prop}(h:p:=by rw[A5 oM,A5 oM];rfl):p:=h
theorem I4 (w:World)(ni:Nat)(ipT:Int)(vtc vtg vtx:Value)(T:Tp)(oT:List Int)(c:AD)(k:Int)(_hipT:Bw ipT)(htcT:RN [] (DS 4 Oi) w.heap vtc T.code)(htgT:RN [] (DS 2 Oj) w.heap vtg T.grd)(htoT:RN [] (B2 rI) w.heap vtx oT)(hc:RQ c)(_hk:Bw k)(hip:ipT=(ni:Int)∧ni≤12)(hk:0≤k∧k≤4000)(hf:EV ni k.toNat c) :
  Calls Tryz.prog 192 #[(.agg #[(zI ipT),vtc,vtg,vtx]),(.agg #[(zI c.op),(zI c.a),(zI c.b),(zI c.num)]),zI k] w (fun e w'=>e=.returned (.bool true)∧AG w w'):=by
 refine Ap [.agg #[zI ipT,vtc,vtg,vtx],.agg #[zI c.op,zI c.a,zI c.b,zI c.num],zI k] 81 Tryz.func192 Z Z sM ?_
 have af:AG w w:=AG.refl w
 have hl_vtx:=htoT.lenL
 unfold maxLen at hl_vtx
 refine cP [3,3,0] Z (Bx (cs:=#[zI ipT,vtc,vtg,vtx]) Z Aa fun w1 ac am a8=>?_)
 have ag:=ac.size
 have ah:=af.trans ac
 replace a8:BX w1.heap w.heap.size [zI ipT,vtc,vtg,vtx]:=a8
 have an:=a8.lt
 refine Bx (cs:=#[zI c.op,zI c.a,zI c.b,zI c.num]) Z Aa fun w2 a9 ao a0=>?_
 have ai:=a9.size
 have a1:=ah.trans a9
 have a2:=a8.ext a9
 replace a0:BX w2.heap w1.heap.size [zI c.op,zI c.a,zI c.b,zI c.num]:=a0
 refine Ac 1 Z<|A0<|cP [0,2] Z<|Ak (p:=zP w1.heap.size) 0 Lq Z Z Aa<|Ah (p:=Ao (zP w1.heap.size) 0) (.inr Z) (zI c.op) AC Z (a0.ldp (i:=0) sM) Aa<|Aj<|A3<|cP [0,0] Z ?_
 by_cases ad:c.op=((1:Nat):Int)
 ·refine Al true Z Z (A5 ad) Aa<|Ac 1 Z<|Ag Z<|cP [0,2,0,0,0,2,0,0,0,0,2,0,2,0,0,0,0] Z ?_
  unfold EV at hf
  refine Ak (p:=zP w1.heap.size) 1 CS Z Z Aa<|Ah (p:=Ao (zP w1.heap.size) 1) (.inr Z) (zI c.a) AC Z (a0.ldp (i:=1) sM) Aa ?_
  have aj:c.a=((0:Nat):Int):=oM
  refine Al true Z Z (A5 aj) Aa<|Ad 1 Z<|Ak (p:=zP w1.heap.size) 2 CG Z Z (Ae (e:=14) Z Z Z)<|Ah (p:=Ao (zP w1.heap.size) 2) (.inr Z) (zI c.b) AC Z (a0.ldp (i:=2) sM) (Ae (e:=14) Z Z Z) ?_
  have ak:c.b=((0:Nat):Int):=oM
  refine Al true Z Z (A5 ak) (Ae (e:=14) Z Z Z)<|Ad 2 Z<|Ak (p:=zP w1.heap.size) 3 Fy Z Z (Ae (e:=19) Z Z Z)<|Ah (p:=Ao (zP w1.heap.size) 3) (.inr Z) (zI c.num) AC Z (a0.ldp (i:=3) sM) (Ae (e:=19) Z Z Z)<|Ak (p:=zP w.heap.size) 0 N7 Z Z (Ae (e:=19) Z Z Z)<|Ah (p:=Ao (zP w.heap.size) 0) (.inr Z) (zI ipT) AC Z (a2.ldp (i:=0) sM) (Ae (e:=19) Z Z Z) ?_
  refine BC (ipT-((1:Nat):Int)) Z Z (DK sD sD) (Ae (e:=19) Z Z Z) ?_
  refine Az 117 [] [] [zI c.num,zI ((0:Nat):Int),zI (ipT-((1:Nat):Int))] Z Z CW (Ae (e:=19) Z Z Z) (.bool (decide (((0:Nat):Int)≤c.num) && decide (c.num≤(ipT-((1:Nat):Int))))) (fun wq=>AS wq _ _ _ hc.2.2.2 oM oM) ?_
  rw[show(decide (((0:Nat):Int)≤c.num) && decide (c.num≤(ipT-((1:Nat):Int))))=true from Ej]
  exact Ac 2 Z<|A1<|AF<|An<|Af [6] Z (.bool true) Z ⟨HD,a1⟩
 refine Al false Z Z (A6 ad) Aa<|Ac 1 Z<|Ai Z<|cP [0,0] Z ?_
 by_cases ae:c.op=((2:Nat):Int)
 ·refine Al true Z Z (A5 ae) Aa<|Ac 1 Z<|Ag Z<|cP [0,2,0,0,0,2,0,0,0,0,2,0,0,0] Z ?_
  unfold EV at hf
  refine Ak (p:=zP w1.heap.size) 1 CS Z Z Aa<|Ah (p:=Ao (zP w1.heap.size) 1) (.inr Z) (zI c.a) AC Z (a0.ldp (i:=1) sM) Aa ?_
  have al:c.a=((0:Nat):Int):=oM
  refine Al true Z Z (A5 al) Aa<|Ad 1 Z<|Ak (p:=zP w1.heap.size) 2 CG Z Z (Ae (e:=32) Z Z Z)<|Ah (p:=Ao (zP w1.heap.size) 2) (.inr Z) (zI c.b) AC Z (a0.ldp (i:=2) sM) (Ae (e:=32) Z Z Z) ?_
  have aa:c.b=((0:Nat):Int):=oM
  refine Al true Z Z (A5 aa) (Ae (e:=32) Z Z Z)<|Ad 2 Z<|Ak (p:=zP w1.heap.size) 3 Fy Z Z (Ae (e:=37) Z Z Z)<|Ah (p:=Ao (zP w1.heap.size) 3) (.inr Z) (zI c.num) AC Z (a0.ldp (i:=3) sM) (Ae (e:=37) Z Z Z)<|Az 170 [] [] [zI c.num] Z Z SX (Ae (e:=37) Z Z Z) (.bool<|I8 c.num) (fun wq=>EM wq _ hc.2.2.2) ?_
  rw[show(I8 c.num)=true from BR.2 ⟨zO,zO⟩]
  exact Ac 2 Z<|A1<|AF<|An<|Af [6] Z (.bool true) Z ⟨HD,a1⟩
 refine Al false Z Z (A6 ae) Aa<|Ac 1 Z<|Ai Z<|A0<|cP [0,0] Z ?_
 by_cases a3:c.op=((3:Nat):Int)
 ·refine Al true Z Z (A5 a3) Aa<|Ac 1 Z<|Ag Z<|A2<|Ag Z<|cP [0,2,0,0,0,0,0,2,0,0,0,0,0,0,2,0,0,0] Z ?_
  unfold EV at hf
  refine Ak (p:=zP w1.heap.size) 1 CS Z Z Aa<|Ah (p:=Ao (zP w1.heap.size) 1) (.inr Z) (zI c.a) AC Z (a0.ldp (i:=1) sM) Aa<|Ad 1 Z ?_
  refine BC (k-((1:Nat):Int)) Z Z (DK sD sD) Aa ?_
  refine Az 117 [] [] [zI c.a,zI ((0:Nat):Int),zI (k-((1:Nat):Int))] Z Z CW Aa (.bool (decide (((0:Nat):Int)≤c.a) && decide (c.a≤(k-((1:Nat):Int))))) (fun wq=>AS wq _ _ _ hc.2.1 oM oM) ?_
  rw[show(decide (((0:Nat):Int)≤c.a) && decide (c.a≤(k-((1:Nat):Int))))=true from Ej]
  refine Ad 1 Z<|Ak (p:=zP w1.heap.size) 2 CG Z Z (Ae (e:=52) Z Z Z)<|Ah (p:=Ao (zP w1.heap.size) 2) (.inr Z) (zI c.b) AC Z (a0.ldp (i:=2) sM) (Ae (e:=52) Z Z Z)<|Ad 1 Z ?_
  refine BC (k-((1:Nat):Int)) Z Z (DK sD sD) (Ae (e:=52) Z Z Z) ?_
  refine Az 117 [] [] [zI c.b,zI ((0:Nat):Int),zI (k-((1:Nat):Int))] Z Z CW (Ae (e:=52) Z Z Z) (.bool (decide (((0:Nat):Int)≤c.b) && decide (c.b≤(k-((1:Nat):Int))))) (fun wq=>AS wq _ _ _ hc.2.2.1 oM oM) ?_
  rw[show(decide (((0:Nat):Int)≤c.b) && decide (c.b≤(k-((1:Nat):Int))))=true from Ej]
  exact Ad 2 Z<|Ak (p:=zP w1.heap.size) 3 Fy Z Z (Ae (e:=59) Z Z Z)<|Ah (p:=Ao (zP w1.heap.size) 3) (.inr Z) (zI c.num) AC Z (a0.ldp (i:=3) sM) (Ae (e:=59) Z Z Z)<|Al (decide (c.num=((0:Nat):Int))) Z Z Z (Ae (e:=59) Z Z Z)<|Ac 2 Z<|A1<|AF<|An<|Af [6] Z (.bool<|decide (c.num=((0:Nat):Int))) Z ⟨HD,a1⟩
 refine Al false Z Z (A6 a3) Aa<|Ac 1 Z<|Ai Z<|cP [0,0] Z ?_
 by_cases a4:c.op=((4:Nat):Int)
 ·refine Al true Z Z (A5 a4) Aa<|Ac 1 Z<|Ag Z<|A2<|Ag Z<|cP [0,2,0,0,0,0,0,2,0,0,0,0,0,0,2,0,0,0] Z ?_
  unfold EV at hf
  refine Ak (p:=zP w1.heap.size) 1 CS Z Z Aa<|Ah (p:=Ao (zP w1.heap.size) 1) (.inr Z) (zI c.a) AC Z (a0.ldp (i:=1) sM) Aa<|Ad 1 Z ?_
  refine BC (k-((1:Nat):Int)) Z Z (DK sD sD) Aa ?_
  refine Az 117 [] [] [zI c.a,zI ((0:Nat):Int),zI (k-((1:Nat):Int))] Z Z CW Aa (.bool (decide (((0:Nat):Int)≤c.a) && decide (c.a≤(k-((1:Nat):Int))))) (fun wq=>AS wq _ _ _ hc.2.1 oM oM) ?_
  rw[show(decide (((0:Nat):Int)≤c.a) && decide (c.a≤(k-((1:Nat):Int))))=true from Ej]
  refine Ad 1 Z<|Ak (p:=zP w1.heap.size) 2 CG Z Z (Ae (e:=52) Z Z Z)<|Ah (p:=Ao (zP w1.heap.size) 2) (.inr Z) (zI c.b) AC Z (a0.ldp (i:=2) sM) (Ae (e:=52) Z Z Z)<|Ad 1 Z ?_
  refine BC (k-((1:Nat):Int)) Z Z (DK sD sD) (Ae (e:=52) Z Z Z) ?_
  refine Az 117 [] [] [zI c.b,zI ((0:Nat):Int),zI (k-((1:Nat):Int))] Z Z CW (Ae (e:=52) Z Z Z) (.bool (decide (((0:Nat):Int)≤c.b) && decide (c.b≤(k-((1:Nat):Int))))) (fun wq=>AS wq _ _ _ hc.2.2.1 oM oM) ?_
  rw[show(decide (((0:Nat):Int)≤c.b) && decide (c.b≤(k-((1:Nat):Int))))=true from Ej]
  exact Ad 2 Z<|Ak (p:=zP w1.heap.size) 3 Fy Z Z (Ae (e:=59) Z Z Z)<|Ah (p:=Ao (zP w1.heap.size) 3) (.inr Z) (zI c.num) AC Z (a0.ldp (i:=3) sM) (Ae (e:=59) Z Z Z)<|Al (decide (c.num=((0:Nat):Int))) Z Z Z (Ae (e:=59) Z Z Z)<|Ac 2 Z<|A1<|AF<|An<|Af [6] Z (.bool<|decide (c.num=((0:Nat):Int))) Z ⟨HD,a1⟩
 refine Al false Z Z (A6 a4) Aa<|Ac 1 Z<|Ai Z<|cP [0,0] Z ?_
 by_cases a5:c.op=((5:Nat):Int)
 ·refine Al true Z Z (A5 a5) Aa<|Ac 1 Z<|Ag Z<|A2<|Ag Z<|cP [0,2,0,0,0,0,0,2,0,0,0,0,0,0,2,0,0,0] Z ?_
  unfold EV at hf
  refine Ak (p:=zP w1.heap.size) 1 CS Z Z Aa<|Ah (p:=Ao (zP w1.heap.size) 1) (.inr Z) (zI c.a) AC Z (a0.ldp (i:=1) sM) Aa<|Ad 1 Z ?_
  refine BC (k-((1:Nat):Int)) Z Z (DK sD sD) Aa ?_
  refine Az 117 [] [] [zI c.a,zI ((0:Nat):Int),zI (k-((1:Nat):Int))] Z Z CW Aa (.bool (decide (((0:Nat):Int)≤c.a) && decide (c.a≤(k-((1:Nat):Int))))) (fun wq=>AS wq _ _ _ hc.2.1 oM oM) ?_
  rw[show(decide (((0:Nat):Int)≤c.a) && decide (c.a≤(k-((1:Nat):Int))))=true from Ej]
  refine Ad 1 Z<|Ak (p:=zP w1.heap.size) 2 CG Z Z (Ae (e:=52) Z Z Z)<|Ah (p:=Ao (zP w1.heap.size) 2) (.inr Z) (zI c.b) AC Z (a0.ldp (i:=2) sM) (Ae (e:=52) Z Z Z)<|Ad 1 Z ?_
  refine BC (k-((1:Nat):Int)) Z Z (DK sD sD) (Ae (e:=52) Z Z Z) ?_
  refine Az 117 [] [] [zI c.b,zI ((0:Nat):Int),zI (k-((1:Nat):Int))] Z Z CW (Ae (e:=52) Z Z Z) (.bool (decide (((0:Nat):Int)≤c.b) && decide (c.b≤(k-((1:Nat):Int))))) (fun wq=>AS wq _ _ _ hc.2.2.1 oM oM) ?_
  rw[show(decide (((0:Nat):Int)≤c.b) && decide (c.b≤(k-((1:Nat):Int))))=true from Ej]
  exact Ad 2 Z<|Ak (p:=zP w1.heap.size) 3 Fy Z Z (Ae (e:=59) Z Z Z)<|Ah (p:=Ao (zP w1.heap.size) 3) (.inr Z) (zI c.num) AC Z (a0.ldp (i:=3) sM) (Ae (e:=59) Z Z Z)<|Al (decide (c.num=((0:Nat):Int))) Z Z Z (Ae (e:=59) Z Z Z)<|Ac 2 Z<|A1<|AF<|An<|Af [6] Z (.bool<|decide (c.num=((0:Nat):Int))) Z ⟨HD,a1⟩
 refine Al false Z Z (A6 a5) Aa<|Ac 1 Z<|Ai Z<|Ab _ [0,0] Z ?_
 by_cases a6:c.op=((6:Nat):Int)
 ·refine Al true Z Z (A5 a6) Aa<|Ac 1 Z<|Ag Z<|cP [0,2,0,0,0,0,0,2,0,0,0,0,0,0,2,0,0,0] Z ?_
  unfold EV at hf
  refine Ak (p:=zP w1.heap.size) 1 CS Z Z Aa<|Ah (p:=Ao (zP w1.heap.size) 1) (.inr Z) (zI c.a) AC Z (a0.ldp (i:=1) sM) Aa<|Ad 1 Z ?_
  refine BC (k-((1:Nat):Int)) Z Z (DK sD sD) Aa ?_
  refine Az 117 [] [] [zI c.a,zI ((0:Nat):Int),zI (k-((1:Nat):Int))] Z Z CW Aa (.bool (decide (((0:Nat):Int)≤c.a) && decide (c.a≤(k-((1:Nat):Int))))) (fun wq=>AS wq _ _ _ hc.2.1 oM oM) ?_
  rw[show(decide (((0:Nat):Int)≤c.a) && decide (c.a≤(k-((1:Nat):Int))))=true from Ej]
  refine Ad 1 Z<|Ak (p:=zP w1.heap.size) 2 CG Z Z (Ae (e:=52) Z Z Z)<|Ah (p:=Ao (zP w1.heap.size) 2) (.inr Z) (zI c.b) AC Z (a0.ldp (i:=2) sM) (Ae (e:=52) Z Z Z)<|Ad 1 Z ?_
  refine BC (k-((1:Nat):Int)) Z Z (DK sD sD) (Ae (e:=52) Z Z Z) ?_
  refine Az 117 [] [] [zI c.b,zI ((0:Nat):Int),zI (k-((1:Nat):Int))] Z Z CW (Ae (e:=52) Z Z Z) (.bool (decide (((0:Nat):Int)≤c.b) && decide (c.b≤(k-((1:Nat):Int))))) (fun wq=>AS wq _ _ _ hc.2.2.1 oM oM) ?_
  rw[show(decide (((0:Nat):Int)≤c.b) && decide (c.b≤(k-((1:Nat):Int))))=true from Ej]
  exact Ad 2 Z<|Ak (p:=zP w1.heap.size) 3 Fy Z Z (Ae (e:=59) Z Z Z)<|Ah (p:=Ao (zP w1.heap.size) 3) (.inr Z) (zI c.num) AC Z (a0.ldp (i:=3) sM) (Ae (e:=59) Z Z Z)<|Al (decide (c.num=((0:Nat):Int))) Z Z Z (Ae (e:=59) Z Z Z)<|Ac 2 Z<|A1<|AF<|An<|Af [6] Z (.bool<|decide (c.num=((0:Nat):Int))) Z ⟨HD,a1⟩
 refine Al false Z Z (A6 a6) Aa<|Ac 1 Z<|Ai Z<|cP [0,0] Z ?_
 by_cases a7:c.op=((7:Nat):Int)
 ·refine Al true Z Z (A5 a7) Aa<|Ac 1 Z<|Ag Z<|cP [0,2,0,0,0,0,0,2,0,0,0,0,2,0,0,0] Z ?_
  unfold EV at hf
  refine Ak (p:=zP w1.heap.size) 1 CS Z Z Aa<|Ah (p:=Ao (zP w1.heap.size) 1) (.inr Z) (zI c.a) AC Z (a0.ldp (i:=1) sM) Aa<|Ad 1 Z ?_
  refine BC (k-((1:Nat):Int)) Z Z (DK sD sD) Aa ?_
  refine Az 117 [] [] [zI c.a,zI ((0:Nat):Int),zI (k-((1:Nat):Int))] Z Z CW Aa (.bool (decide (((0:Nat):Int)≤c.a) && decide (c.a≤(k-((1:Nat):Int))))) (fun wq=>AS wq _ _ _ hc.2.1 oM oM) ?_
  rw[show(decide (((0:Nat):Int)≤c.a) && decide (c.a≤(k-((1:Nat):Int))))=true from Ej]
  refine Ad 1 Z<|Ak (p:=zP w1.heap.size) 2 CG Z Z (Ae (e:=71) Z Z Z)<|Ah (p:=Ao (zP w1.heap.size) 2) (.inr Z) (zI c.b) AC Z (a0.ldp (i:=2) sM) (Ae (e:=71) Z Z Z) ?_
  have ab:c.b=((0:Nat):Int):=oM
  exact Al true Z Z (A5 ab) (Ae (e:=71) Z Z Z)<|Ad 2 Z<|Ak (p:=zP w1.heap.size) 3 Fy Z Z (Ae (e:=76) Z Z Z)<|Ah (p:=Ao (zP w1.heap.size) 3) (.inr Z) (zI c.num) AC Z (a0.ldp (i:=3) sM) (Ae (e:=76) Z Z Z)<|Al (decide (c.num=((0:Nat):Int))) Z Z Z (Ae (e:=76) Z Z Z)<|Ac 2 Z<|A1<|AF<|An<|Af [6] Z (.bool<|decide (c.num=((0:Nat):Int))) Z ⟨HD,a1⟩
 exact Al false Z Z (A6 a7) Aa<|Ac 1 Z<|Ai Z<|A2<|cQ Z<|A1<|Af [6] Z (.bool false) Z ⟨HD,a1⟩
theorem K1 (w:World)(a:List Int)(ipT:Int)(vtc vtg vtx:Value)(T:Tp)(oT:List Int)(_hipT:Bw ipT)(htcT:RN [] (DS 4 Oi) w.heap vtc T.code)(htgT:RN [] (DS 2 Oj) w.heap vtg T.grd)(htoT:RN [] (B2 rI) w.heap vtx oT)(hip:ipT=(a.length:Int))(hR:QN a T oT) :
  Calls Tryz.prog 116 #[(.agg #[(zI ipT),vtc,vtg,vtx])] w (fun e w'=>e=.returned (.bool true)∧AG w w'):=by
 refine Ap [.agg #[zI ipT,vtc,vtg,vtx]] 67 Tryz.func116 Z Z sM ?_
 have bm:AG w w:=AG.refl w
 have hl_vtx:=htoT.lenL
 unfold maxLen at hl_vtx
 have hK:=hR.k
 have hni:=hK.nb
 have hcl:=hK.cl
 have cn:=hK.gl
 have hol:=hK.ol
 have hpos:=hK.pos
 refine cP [3,0] Z (Bx (cs:=#[zI ipT,vtc,vtg,vtx]) Z Aa fun w1 b2 bw ab=>?_)
 have b3:=b2.size
 have bn:=bm.trans b2
 replace ab:BX w1.heap w.heap.size [zI ipT,vtc,vtg,vtx]:=ab
 refine Ac 1 Z<|A0<|cP [0,2,0,0,0,0,2,0,0,0,0,0,2,0,0,0,0,0,2,0,0,0,0] Z<|Ak (p:=zP w.heap.size) 0 N7 Z Z Aa<|Ah (p:=Ao (zP w.heap.size) 0) (.inr Z) (zI ipT) AC Z (ab.ldp (i:=0) sM) Aa<|Az 117 [] [] [zI ipT,zI ((0:Nat):Int),zI ((12:Nat):Int)] Z Z CW Aa (.bool (decide (((0:Nat):Int)≤ipT) && decide (ipT≤((12:Nat):Int)))) (fun wq=>AS wq _ _ _ _hipT oM oM) ?_
 rw[show(decide (((0:Nat):Int)≤ipT) && decide (ipT≤((12:Nat):Int)))=true from Ej]
 refine Bv false Z Z Aa<|Ad 1 Z<|Ak (p:=zP w.heap.size) 1 Fw Z Z (Ae (e:=12) Z Z Z)<|Ah (p:=Ao (zP w.heap.size) 1) (.inr Z) vtc Ka Z (ab.ldp (i:=1) sM) (Ae (e:=12) Z Z Z)<|AO (v:=vtc) OO Z htcT.isSl (Ae (e:=12) Z Z Z) ?_
 have bx:¬(((3200:Nat):Int)<(T.code.length:Int)):=oM
 refine BN false Z Z (A6 bx) (Ae (e:=12) Z Z Z)<|Ad 2 Z<|Ak (p:=zP w.heap.size) 2 N8 Z Z (Ae (e:=18) Z Z Z)<|Ah (p:=Ao (zP w.heap.size) 2) (.inr Z) vtg T6 Z (ab.ldp (i:=2) sM) (Ae (e:=18) Z Z Z)<|AO (v:=vtg) ZL Z htgT.isSl (Ae (e:=18) Z Z Z) ?_
 have bz:¬(((3200:Nat):Int)<(T.grd.length:Int)):=oM
 refine BN false Z Z (A6 bz) (Ae (e:=18) Z Z Z)<|Ad 2 Z<|Ak (p:=zP w.heap.size) 3 Lp Z Z (Ae (e:=24) Z Z Z)<|Ah (p:=Ao (zP w.heap.size) 3) (.inr Z) vtx Bk Z (ab.ldp (i:=3) sM) (Ae (e:=24) Z Z Z)<|AO (v:=vtx) Bj Z htoT.slL (Ae (e:=24) Z Z Z)<|Az 117 [] [] [zI (oT.length:Int),zI ((1:Nat):Int),zI ((12:Nat):Int)] Z Z CW (Ae (e:=24) Z Z Z) (.bool (decide (((1:Nat):Int)≤(oT.length:Int)) && decide ((oT.length:Int)≤((12:Nat):Int)))) (fun wq=>AS wq _ _ _ oM oM oM) ?_
 rw[show(decide (((1:Nat):Int)≤(oT.length:Int)) && decide ((oT.length:Int)≤((12:Nat):Int)))=true from Ej]
 refine Bv false Z Z (Ae (e:=24) Z Z Z)<|Ac 1 Z<|Ai Z<|A2<|cP [0,2,0,3,4] Z<|Ak (p:=zP w.heap.size) 1 Fw Z Z Aa<|Ah (p:=Ao (zP w.heap.size) 1) (.inr Z) vtc Ka Z (ab.ldp (i:=1) sM) Aa<|AO (v:=vtc) OO Z htcT.isSl Aa ?_
 have ce:=ab.lt
 refine Bp (z:=zI (0:Int)) (by kernel_rfl) Aa fun w6 b0 c0 b4=>?_
 have b5:=b0.size
 have b6:=bn.trans b0
 have aq:=ab.ext b0
 replace b4:BX w6.heap w1.heap.size [zI (0:Int)]:=b4
 refine Bl (k:=0) (w:=w6) GT Z Z ⟨rfl,rfl⟩ b4 sM Aa fun w8 b1 c1 b7=>?_
 replace b7:BX w8.heap w1.heap.size [zI (T.code.length:Int)]:=b7
 have bo:AG w w8:=b1.below b6 (fun _ h=>zE h) b6.size
 have b8:w6.heap.size≤w8.heap.size:=b1.size
 have b9:=aq.chg b1 (zB ·)
 refine Aj<|A0<|cP [0,2,0,0] Z<|Ak (p:=zP w.heap.size) 1 Fw Z Z Aa<|Ah (p:=Ao (zP w.heap.size) 1) (.inr Z) vtc Ka Z (b9.ldp (i:=1) sM) Aa<|AO (v:=vtc) OO Z htcT.isSl Aa<|Ac 1 Z<|A3 ?_
 refine AY (S:=Nat) (fun k=>([(37,zI (k:Int)),(1,zP w.heap.size),(3,zP w1.heap.size),(35,vtc),(36,zI (T.code.length:Int))])) (fun k W=>AG w W∧BX W.heap w.heap.size [zI ipT,vtc,vtg,vtx]∧BX W.heap w1.heap.size [zI (T.code.length:Int)]∧k≤T.code.length) (fun k=>T.code.length-k) 0 ⟨rfl,rfl,rfl,rfl,rfl,trivial⟩ ⟨bo,b9,b7,oM⟩ ?_
 clear bm bw b2 b3 bn c0 b0 b5 b6 c1 b1 bo b8 b9
 rintro k ρ10 ci ⟨a8,a0,a1,ba⟩
 have ar:w.heap.size≤ci.heap.size:=a8.size
 have c2:=a0.lt
 have c3:=a1.lt
 refine cP [0] Z ?_
 by_cases au:(k:Int)<(T.code.length:Int)
 ·refine AE true Z Z (A5 au) Aa<|Aj<|A0<|Ag Z<|A2<|A0<|A3<|cP [0,0,2,3,0,4] Z<|Ad 1 Z<|AA (v:=vtc) k OO Jo Z Z htcT.isSl Z sD Aa ?_
  obtain⟨cs14,bb,bc⟩:=htcT.get B5 AD.zero (k:=k) sD
  obtain⟨rfl,ac⟩:=MV bb
  refine AM (p:=Ay vtc k 4) (.inr Z) [zI<|(T.code.getD k AD.zero).op,zI<|(T.code.getD k AD.zero).a,zI<|(T.code.getD k AD.zero).b,zI<|(T.code.getD k AD.zero).num] Fx Z (fun cg ak=>bc cg<|At.of_ext []<|a8.trans ak) Z Aa ?_
  have c4:=a0.lt
  have c5:=a1.lt
  refine Bp (z:=.agg #[zI 0,zI 0,zI 0,zI 0]) T8 Aa fun ck ad c6 al=>?_
  have bp:=ad.size
  have av:=a8.trans ad
  have a4:=a0.ext ad
  have a5:=a1.ext ad
  replace al:BX ck.heap ci.heap.size [zI 0,zI 0,zI 0,zI 0]:=al
  refine Ad 1 Z (Bz (vs:=[zI<|(T.code.getD k AD.zero).op,zI<|(T.code.getD k AD.zero).a,zI<|(T.code.getD k AD.zero).b,zI<|(T.code.getD k AD.zero).num]) Fx Z Z (by intro u hu;simp only[List.mem_cons,List.not_mem_nil,or_false]at hu;rcases hu with rfl|rfl|rfl|rfl <;> first|exact⟨rfl,rfl⟩) al Z Z Aa fun ch ae c7 am=>?_)
  replace am:BX ch.heap ci.heap.size [zI ((T.code.getD k AD.zero).op),zI ((T.code.getD k AD.zero).a),zI ((T.code.getD k AD.zero).b),zI ((T.code.getD k AD.zero).num)]:=am
  have af:AG w ch:=ae.below av (fun _ h=>zE h) av.size
  have bq:ck.heap.size≤ch.heap.size:=ae.size
  have aw:=a4.chg ae (zB ·)
  have bd:=a5.chg ae (zB ·)
  refine Aj<|cP [2,2,0,3,0] Z<|AM (p:=zP w.heap.size) (.inr Z) [zI ipT,vtc,vtg,vtx] ER Z (fun cg ak=>LD.of_box<|BX.ext (w:=ch) aw ak) Z Aa<|AM (p:=zP ci.heap.size) (.inr Z) [zI<|(T.code.getD k AD.zero).op,zI<|(T.code.getD k AD.zero).a,zI<|(T.code.getD k AD.zero).b,zI<|(T.code.getD k AD.zero).num] Fx Z (fun cg ak=>LD.of_box<|BX.ext (w:=ch) am ak) Z Aa<|Ad 1 Z ?_
  refine Au 192 [] [] [.agg #[zI ipT,vtc,vtg,vtx],.agg #[zI<|(T.code.getD k AD.zero).op,zI<|(T.code.getD k AD.zero).a,zI<|(T.code.getD k AD.zero).b,zI<|(T.code.getD k AD.zero).num],zI (k:Int)] Z Z Zk Aa (I4 _ a.length (ipT) vtc vtg vtx (T) (oT) (⟨(T.code.getD k AD.zero).op,(T.code.getD k AD.zero).a,(T.code.getD k AD.zero).b,(T.code.getD k AD.zero).num⟩:AD) _ _hipT (htcT.ext (Am B5) af) (htgT.ext (Am Bd) af) (htoT.ext g1 af) ⟨ac.1,ac.2.1,ac.2.2.1,ac.2.2.2⟩ oM oM oM (by have h9:=hK.form k oM;rw[Int.toNat_natCast];exact h9)) ?_
  rintro co cp ⟨rfl,a9⟩
  refine⟨_,rfl,a9,?_⟩
  have br:=a9.size
  have be:=af.trans a9
  have ag:=aw.ext a9
  have ah:=bd.ext a9
  exact Bv false Z Z Aa<|Aj<|Ai Z<|A2<|Ab _ [0,0] Z<|AN ((k+1:Nat):Int) Z Z (Bg oM sD) Aa<|Ac 1 Z ⟨k+1,_,rfl,zR,⟨be,ag,ah,oM⟩,zD⟩
 refine AE false Z Z (A6 au) Aa<|Aj<|A0<|Ai Z<|A4<|Aw<|Aw<|Aq<|A0<|cP [0,2,0,0] Z<|Ak (p:=zP w.heap.size) 2 N8 Z Z Aa<|Ah (p:=Ao (zP w.heap.size) 2) (.inr Z) vtg T6 Z (a0.ldp (i:=2) sM) Aa<|AO (v:=vtg) ZL Z htgT.isSl Aa<|Ac 1 Z<|A3 ?_
 refine AY (S:=Nat) (fun j=>([(51,zI (j:Int)),(1,zP w.heap.size),(3,zP w1.heap.size),(49,vtg),(50,zI (T.grd.length:Int))])) (fun j W=>AG w W∧BX W.heap w.heap.size [zI ipT,vtc,vtg,vtx]∧BX W.heap w1.heap.size [zI (T.code.length:Int)]∧j≤T.grd.length) (fun j=>T.grd.length-j) 0 ⟨rfl,rfl,rfl,rfl,rfl,trivial⟩ ⟨a8,a0,a1,oM⟩ ?_
 clear a1 a0 a8 ar
 rintro j ρ22 cf ⟨aa,a2,a3,bf⟩
 have bs:w.heap.size≤cf.heap.size:=aa.size
 have c8:=a2.lt
 have c9:=a3.lt
 refine cP [0] Z ?_
 by_cases ax:(j:Int)<(T.grd.length:Int)
 ·refine AE true Z Z (A5 ax) Aa<|Aj<|A0<|Ag Z<|A2<|A0<|A3<|cP [0,2,3,4] Z<|AA (v:=vtg) j ZL OP Z Z htgT.isSl Z sD Aa ?_
  obtain⟨cs26,bg,bh⟩:=htgT.get Bd Is.zero (k:=j) sD
  obtain⟨rfl,bi⟩:=XI bg
  refine AM (p:=Ay vtg j 2) (.inr Z) [zI<|(T.grd.getD j Is.zero).reg,.bool<|(T.grd.getD j Is.zero).z] Tc Z (fun cg ak=>bh cg<|At.of_ext []<|aa.trans ak) Z Aa ?_
  have ca:=a2.lt
  have cb:=a3.lt
  refine Bp (z:=.agg #[zI 0,.bool false]) ZN Aa fun cm ai cc an=>?_
  have bt:=ai.size
  have ay:=aa.trans ai
  have a6:=a2.ext ai
  have a7:=a3.ext ai
  replace an:BX cm.heap cf.heap.size [zI 0,.bool false]:=an
  refine Bz (vs:=[zI<|(T.grd.getD j Is.zero).reg,.bool<|(T.grd.getD j Is.zero).z]) Tc Z Z (by intro u hu;simp only[List.mem_cons,List.not_mem_nil,or_false]at hu;rcases hu with rfl|rfl <;> first|exact⟨rfl,rfl⟩) an Z Z Aa fun cj aj cd ao=>?_
  replace ao:BX cj.heap cf.heap.size [zI ((T.grd.getD j Is.zero).reg),.bool ((T.grd.getD j Is.zero).z)]:=ao
  have bj:AG w cj:=aj.below ay (fun _ h=>zE h) ay.size
  have bu:cm.heap.size≤cj.heap.size:=aj.size
  have bk:=a6.chg aj (zB ·)
  have az:=a7.chg aj (zB ·)
  refine Aj<|cP [0,2,2,0,0,0] Z ?_
  have hgj:=hK.gd j oM
  refine Ak (p:=zP cf.heap.size) 0 UN Z Z Aa<|Ah (p:=Ao (zP cf.heap.size) 0) (.inr Z) (zI<|(T.grd.getD j Is.zero).reg) AC Z (ao.ldp (i:=0) sM) Aa<|Ah (p:=zP w1.heap.size) (.inr Z) (zI (T.code.length:Int)) AC Z (az.ld (k:=0) sM) Aa ?_
  refine BC ((T.code.length:Int)-((1:Nat):Int)) Z Z (DK sD sD) Aa ?_
  refine Az 117 [] [] [zI<|(T.grd.getD j Is.zero).reg,zI ((0:Nat):Int),zI ((T.code.length:Int)-((1:Nat):Int))] Z Z CW Aa (.bool (decide (((0:Nat):Int)≤((T.grd.getD j Is.zero).reg)) && decide (((T.grd.getD j Is.zero).reg)≤((T.code.length:Int)-((1:Nat):Int))))) (fun wq=>AS wq _ _ _ bi oM oM) ?_
  rw[show(decide (((0:Nat):Int)≤((T.grd.getD j Is.zero).reg)) && decide (((T.grd.getD j Is.zero).reg)≤((T.code.length:Int)-((1:Nat):Int))))=true from Ej]
  exact Bv false Z Z Aa<|Aj<|Ai Z<|A2<|Ab _ [0,0] Z<|AN ((j+1:Nat):Int) Z Z (Bg oM sD) Aa<|Ac 1 Z ⟨j+1,_,rfl,zR,⟨bj,bk,az,oM⟩,zD⟩
 refine AE false Z Z (A6 ax) Aa<|Aj<|A0<|Ai Z<|A4<|Aw<|Aw<|Aq<|cP [0,2,0,3,0,0] Z<|Ak (p:=zP w.heap.size) 3 Lp Z Z Aa<|Ah (p:=Ao (zP w.heap.size) 3) (.inr Z) vtx Bk Z (a2.ldp (i:=3) sM) Aa<|KJ [] [zP w1.heap.size] Z Z Aa ?_
 refine Au 168 [] [] [vtx,.func (.func 193) #[] #[zP w1.heap.size]] Z Z Vx Aa (Ce _ _ _ 193 [] [zP w1.heap.size] (fun x=>!(decide (0≤x) && decide (x≤(T.code.length:Int)-1))) (htoT.ext g1 aa).rd Zl fun x hx wz hw=>IN wz x w1.heap.size (T.code.length:Int) hx ((BX.ext (w:=cf) a3 hw).ld (k:=0) sM) oM oM) ?_
 rintro cq cr ⟨rfl,ap⟩
 refine⟨_,rfl,ap,?_⟩
 have bv:=ap.size
 have bl:=aa.trans ap
 rw[show(oT.any (fun x=>!(decide (0≤x) && decide (x≤(T.code.length:Int)-1))))=false from hK.any]
 exact Bv true Z Z Aa<|Ac 1 Z<|A1<|Af [2] Z (.bool true) Z ⟨rfl,bl⟩
theorem Nq (w:World)(a:List Int)(ipT:Int)(vtc vtg vtx:Value)(T:Tp)(oT:List Int)(vl:Value)(L:List (List Int))(_hipT:Bw ipT)(htcT:RN [] (DS 4 Oi) w.heap vtc T.code)(htgT:RN [] (DS 2 Oj) w.heap vtg T.grd)(htoT:RN [] (B2 rI) w.heap vtx oT)(hL:RN [] (B2 (B2 rI)) w.heap vl L)(hqL:Ci vl)(hip:ipT=(a.length:Int))(hR:QN a T oT)(hLL:∀k,k<L.length→(L.getD k []).length=a.length∧AV (L.getD k [])=true) :
  Calls Tryz.prog 108 #[(.agg #[(zI ipT),vtc,vtg,vtx]),vl] w (fun e w'=>e=.returned (zI 0)∧AG w w'):=by
 refine Ap [.agg #[zI ipT,vtc,vtg,vtx],vl] 22 Tryz.func108 Z Z sM ?_
 have ac:AG w w:=AG.refl w
 have hl_vtx:=htoT.lenL
 unfold maxLen at hl_vtx
 have ap:=hL.lenL
 unfold maxLen at ap
 refine cP [3,0] Z (Bx (cs:=#[zI ipT,vtc,vtg,vtx]) Z Aa fun w1 a8 ai a6=>?_)
 have a9:=a8.size
 have a2:=ac.trans a8
 replace a6:BX w1.heap w.heap.size [zI ipT,vtc,vtg,vtx]:=a6
 refine Ac 1 Z<|A0<|cP [2,3,0] Z<|AM (p:=zP w.heap.size) (.inr Z) [zI ipT,vtc,vtg,vtx] ER Z (fun aq aj=>LD.of_box<|BX.ext (w:=w1) a6 aj) Z Aa<|Au 116 [] [] [.agg #[zI ipT,vtc,vtg,vtx]] Z Z Z5 Aa (K1 _ a (ipT) vtc vtg vtx (T) (oT) _hipT (htcT.ext (Am B5) a2) (htgT.ext (Am Bd) a2) (htoT.ext g1 a2) oM hR) ?_
 rintro e2 w2 ⟨rfl,a3⟩
 refine⟨_,rfl,a3,?_⟩
 have aa:=a3.size
 have ad:=a2.trans a3
 have a4:=a6.ext a3
 refine Bv false Z Z Aa<|Aj<|Ai Z<|A2<|A0<|cP [0,0,0] Z<|Ad 1 Z<|AO (v:=vl) C0 Z hL.slL Aa<|Ac 1 Z<|A3<|AY (S:=Nat) (fun k=>([(12,zI (k:Int)),(2,zP w.heap.size),(10,vl),(11,zI (L.length:Int))])) (fun k W=>AG w W∧BX W.heap w.heap.size [zI ipT,vtc,vtg,vtx]∧k≤L.length) (fun k=>L.length-k) 0 ⟨rfl,rfl,rfl,rfl,trivial⟩ ⟨ad,a4,oM⟩ ?_
 clear ac ai a8 a9 a2 a3 aa ad
 rintro k ρ3 w3 ⟨a5,a0,ae⟩
 have ak:w.heap.size≤w3.heap.size:=a5.size
 have ao:=a0.lt
 refine cP [0] Z ?_
 by_cases af:(k:Int)<(L.length:Int)
 ·refine AE true Z Z (A5 af) Aa<|Aj<|A0<|Ag Z<|A2<|A0<|A3<|cP [0,2,0] Z<|AA (v:=vl) k C0 Bf Z Z hL.slL Z sD Aa ?_
  obtain⟨ag,al,ah⟩:=RN.getL (w:=w) g1 [] (k:=k) hL sD
  have ab:=ah.lenL
  unfold maxLen at ab
  refine Ah (p:=Ay vl k 1) (.inr Z) ag Bk Z (al _<|At.of_ext [] a5) Aa<|Ac 1 Z<|cP [0,0,2,3,0] Z ?_
  have hLk:=hLL k oM
  refine Ad 1 Z<|Ak (p:=zP w.heap.size) 0 N7 Z Z Aa<|Ah (p:=Ao (zP w.heap.size) 0) (.inr Z) (zI ipT) AC Z (a0.ldp (i:=0) sM) Aa<|Au 86 [] [] [ag,zI ipT] Z Z ST Aa (CD _ _ _ _ (ah.ext g1 a5).rd _hipT) ?_
  rintro e7 w7 ⟨rfl,a7⟩
  refine⟨_,rfl,a7,?_⟩
  have am:=a7.size
  have an:=a5.trans a7
  have a1:=a0.ext a7
  rw[show(decide ((((L.getD k []).length:Nat):Int)=ipT) && AV (L.getD k []))=true from(by rw[A5 oM,hLk.2];rfl)]
  exact Bv false Z Z Aa<|Aj<|Ai Z<|A2<|Ab _ [0,0] Z<|AN ((k+1:Nat):Int) Z Z (Bg oM sD) Aa<|Ac 1 Z ⟨k+1,_,rfl,zR,⟨an,a1,oM⟩,zD⟩
 exact AE false Z Z (A6 af) Aa<|Aj<|A0<|Ai Z<|A4<|Aw<|Aw<|Aq<|cQ Z<|A1<|Af [4] Z (zI ((0:Nat):Int)) Z ⟨rfl,a5⟩
theorem Nr (w:World)(va:Value)(a:List Int)(vd:Value)(d:List Int)(ha:Rd (B2 rI) w.heap va a)(hd:Rd (B2 rI) w.heap vd d)(hl:d.length=a.length)(hla:a.length≤1000) :
  Calls Tryz.prog 110 #[va,vd] w (fun e w'=>∃v0:Value,e=.returned (v0)∧AG w w'∧Fr (Bt (Bt rI 2) 27) w.heap.size w'.heap.size w'.heap v0 (Df a d 2)):=by
 refine Ap [va,vd] 27 Tryz.func110 Z Z sM ?_
 have a9:AG w w:=AG.refl w
 have au:=ha.lenle
 have av:=hd.lenle
 refine cQ Z<|cP [3,0] Z (CH (Bt rI 2) o1 C0 Bf Aa fun v1 w1 a4 af aa=>?_)
 have a5:=a4.size
 have ab:=a9.trans a4
 refine Ac 1 Z<|A0<|cP [0,0,0] Z<|Ad 1 Z<|AO (v:=va) Bj Z ha.isSl Aa<|Ac 1 Z<|A3 ?_
 refine AY (S:=Nat×Value) (fun⟨k,vo⟩=>([(5,vo),(11,zI (k:Int)),(1,vd),(9,va),(10,zI (a.length:Int))])) (fun⟨k,vo⟩ W=>AG w W∧Fr (Bt (Bt rI 2) 27) w.heap.size W.heap.size W.heap vo ((Df a d 2).take k)∧k≤a.length) (fun⟨k,vo⟩=>a.length-k) (0,v1) ⟨rfl,rfl,rfl,rfl,rfl,trivial⟩ ⟨ab,aa.up o2,sD⟩ ?_
 clear a9 aa af a4 a5 ab
 rintro⟨k,vo⟩ ρ2 w2 ⟨a3,a2,ac⟩
 have ag:w.heap.size≤w2.heap.size:=a3.size
 refine cP [0] Z ?_
 by_cases ad:(k:Int)<(a.length:Int)
 ·refine AE true Z Z (A5 ad) Aa<|Aj<|A0<|Ag Z<|A2<|A0<|A3<|cP [0,0,2,0,0] Z<|Ad 1 Z<|AA (v:=va) k Bj BH Z Z ha.isSl Z sD Aa ?_
  refine Ah (p:=Ay va k 1) (.inr Z) (zI<|a.getD k 0) AC Z (B7 a3 (ha.getI sD).1) Aa<|Ac 2 Z<|Ab _ [0,0,0,0,0,2,3,3,4,0] Z<|Ad 4 Z ?_
  refine AA (v:=vd) k Bj BH Z Z hd.isSl Z sD Aa ?_
  refine Ah (p:=Ay vd k 1) (.inr Z) (zI<|d.getD k 0) AC Z (B7 a3 (hd.getI sD).1) Aa ?_
  refine Sp (ys:=[a.getD k 0,d.getD k 0]) AK Bj BH Z Z Z Z (Vg (ha.getI sD).2 (hd.getI sD).2) Aa fun v4 w4 a6 aq ah=>?_
  have ai:=a6.size
  have aj:=a3.trans a6
  have a0:=a2.ext (o2) a6
  refine BK (u:=v4) (B:=w2.heap.size) o1 C0 Bf Z Z ah (by first|exact A7 _|omega) Aa fun v5 w5 a7 ar ak=>?_
  have al:=a7.size
  have a8:=aj.trans a7
  have a1:=a0.ext (o2) a7
  refine Ij o1 (v:=vo) (a:=v5) C0 Bf Z Z Z a1 a8.size ak oM a3.size sD (by unfold maxLen;first|omega|assumption|(simp;done)|(simp;omega)) Aa fun v6 w6 F6 ae am an=>?_
  have ao:AG w w6:=ae.below a8 (fun c hc=>A8 (A7 _) (am c hc).1) a8.size
  have ap:w5.heap.size≤w6.heap.size:=ae.size
  refine Ac 1 Z<|Ab _ [0,0] Z<|AN ((k+1:Nat):Int) Z Z (Bg oM sD) Aa<|Ac 1 Z ?_
  exact⟨(k+1,v6),_,rfl,zR,⟨ao,(by rw[CP [] (by simp;omega),UF oM];exact an.up o2),sD⟩,zD⟩
 exact AE false Z Z (A6 ad) Aa<|Aj<|A0<|Ai Z<|A4<|Aw<|Aw<|Aq<|cP [0,0] Z<|Ac 2 Z<|A1<|Af [4] Z vo Z ⟨vo,rfl,a3,(by have h:=a2.up o2;rwa [List.take_of_length_le (by simp;omega)]at h)⟩
theorem LK (w:World)(ipT:Int)(vtc vtg vtx:Value)(T:Tp)(oT:List Int)(va:Value)(a:List Int)(vw:Value)(ws:List Int)(vd:Value)(d:List Int)(_hipT:Bw ipT)(htcT:RN [] (DS 4 Oi) w.heap vtc T.code)(htgT:RN [] (DS 2 Oj) w.heap vtg T.grd)(htoT:RN [] (B2 rI) w.heap vtx oT)(ha:Rd (B2 rI) w.heap va a)(hws:Rd (B2 rI) w.heap vw ws)(hd:Rd (B2 rI) w.heap vd d)(hip:ipT=(a.length:Int))(hR:QN a T oT)(hw:ws.length=oT.length∧AV ws=true)(hdd:d.length=a.length∧AV d=true) :
  Calls Tryz.prog 183 #[(.agg #[(zI ipT),vtc,vtg,vtx]),va,vw,vd] w (fun e w'=>e=.returned (zI 0)∧AG w w'):=by
 refine Ap [.agg #[zI ipT,vtc,vtg,vtx],va,vw,vd] 26 Tryz.func183 Z Z sM ?_
 have ab:AG w w:=AG.refl w
 have hl_vtx:=htoT.lenL
 unfold maxLen at hl_vtx
 have ah:=ha.lenle
 have an:=hws.lenle
 have ao:=hd.lenle
 have hK:=hR.k
 have hni:=hK.nb
 have hcl:=hK.cl
 have ap:=hK.gl
 have hol:=hK.ol
 have hpos:=hK.pos
 refine cP [3,0] Z (Bx (cs:=#[zI ipT,vtc,vtg,vtx]) Z Aa fun w1 a8 al a3=>?_)
 have ac:=a8.size
 have a6:=ab.trans a8
 replace a3:BX w1.heap w.heap.size [zI ipT,vtc,vtg,vtx]:=a3
 refine Ac 1 Z<|cP [2,0,0,3,3,0] Z<|AM (p:=zP w.heap.size) (.inr Z) [zI ipT,vtc,vtg,vtx] ER Z (fun aq ad=>LD.of_box<|BX.ext (w:=w1) a3 ad) Z Aa<|Ad 2 Z (UH (x0:=a) (x1:=d) C0 Bf Z Z Z (RN.of<|ha.ext g1 a6) (RN.of<|hd.ext g1 a6) Aa fun v2 w2 a7 am a9 ae=>?_)
 have af:=a7.size
 have a4:=a6.trans a7
 have a0:=a3.ext a7
 refine Au 108 [] [] [.agg #[zI ipT,vtc,vtg,vtx],v2] Z Z YZ Aa (Nq _ a (ipT) vtc vtg vtx (T) (oT) v2 ([a,d]) _hipT (htcT.ext (Am B5) a4) (htgT.ext (Am Bd) a4) (htoT.ext g1 a4) a9 ae oM hR (by intro k hk;match k,hk with|0,_=>exact⟨rfl,hR.n⟩|1,_=>exact hdd)) ?_
 rintro e3 w3 ⟨rfl,a1⟩
 refine⟨_,rfl,a1,?_⟩
 have ag:=a1.size
 have aa:=a4.trans a1
 have a2:=a0.ext a1
 refine Ac 1 Z<|A0<|cP [0,0,0,0,0,2,0,3,0,0] Z<|Ad 1 Z ?_
 have ai:0=((0:Nat):Int):=rfl
 refine Al true Z Z (A5 ai) Aa<|Ad 2 Z<|Ak (p:=zP w.heap.size) 3 Lp Z Z (Ae (e:=17) Z Z Z)<|Ah (p:=Ao (zP w.heap.size) 3) (.inr Z) vtx Bk Z (a2.ldp (i:=3) sM) (Ae (e:=17) Z Z Z)<|AO (v:=vtx) Bj Z htoT.slL (Ae (e:=17) Z Z Z)<|Au 86 [] [] [vw,zI (oT.length:Int)] Z Z ST (Ae (e:=17) Z Z Z) (CD _ _ _ _ (hws.ext g1 aa) oM) ?_
 rintro e6 w6 ⟨rfl,a5⟩
 refine⟨_,rfl,a5,?_⟩
 have aj:=a5.size
 have ak:=aa.trans a5
 rw[show(decide ((ws.length:Int)=(oT.length:Int)) && AV ws)=true from(by rw[A5 oM,hw.2];rfl)]
 exact Bv false Z Z (Ae (e:=17) Z Z Z)<|Ac 1 Z<|Ai Z<|A2<|cP [0,0] Z<|Ac 2 Z<|A1<|Af [8] Z (zI 0) Z ⟨rfl,ak⟩
theorem Ns (w:World)(ipT:Int)(vtc vtg vtx:Value)(T:Tp)(oT:List Int)(va:Value)(a:List Int)(vw:Value)(ws:List Int)(vd:Value)(d:List Int)(_hipT:Bw ipT)(htcT:RN [] (DS 4 Oi) w.heap vtc T.code)(htgT:RN [] (DS 2 Oj) w.heap vtg T.grd)(htoT:RN [] (B2 rI) w.heap vtx oT)(ha:Rd (B2 rI) w.heap va a)(hws:Rd (B2 rI) w.heap vw ws)(hd:Rd (B2 rI) w.heap vd d)(hip:ipT=(a.length:Int))(hR:QN a T oT)(hw:ws.length=oT.length∧AV ws=true)(hdd:d.length=a.length∧AV d=true) :
  Calls Tryz.prog 105 #[(.agg #[(zI ipT),vtc,vtg,vtx]),va,vw,vd] w (fun e w'=>∃v0:Value,e=.returned (.tuple #[v0,zI 0])∧AG w w'∧RN [] (B2 (B2 rI)) w'.heap v0 (Je T.code (B9 2 (Df a d 2) T.code) oT ws)∧Ci v0):=by
 refine Ap [.agg #[zI ipT,vtc,vtg,vtx],va,vw,vd] 36 Tryz.func105 Z Z sM ?_
 have ak:AG w w:=AG.refl w
 have hl_vtx:=htoT.lenL
 unfold maxLen at hl_vtx
 have ay:=ha.lenle
 have az:=hws.lenle
 have b0:=hd.lenle
 have hK:=hR.k
 have hni:=hK.nb
 have hcl:=hK.cl
 have b2:=hK.gl
 have hol:=hK.ol
 have hpos:=hK.pos
 refine cP [3,0,0] Z (Bx (cs:=#[zI ipT,vtc,vtg,vtx]) Z Aa fun w1 aj ax ab=>?_)
 have al:=aj.size
 have a3:=ak.trans aj
 replace ab:BX w1.heap w.heap.size [zI ipT,vtc,vtg,vtx]:=ab
 refine Ac 2 Z<|A0<|cP [2,0,0,0,3,0] Z<|AM (p:=zP w.heap.size) (.inr Z) [zI ipT,vtc,vtg,vtx] ER Z (fun b1 a5=>LD.of_box<|BX.ext (w:=w1) ab a5) Z Aa<|Ad 3 Z<|Au 183 [] [] [.agg #[zI ipT,vtc,vtg,vtx],va,vw,vd] Z Z Zh Aa (LK _ (ipT) vtc vtg vtx (T) (oT) _ _ _ _ _ _ _hipT (htcT.ext (Am B5) a3) (htgT.ext (Am Bd) a3) (htoT.ext g1 a3) (ha.ext g1 a3) (hws.ext g1 a3) (hd.ext g1 a3) oM hR hw hdd) ?_
 rintro e2 w2 ⟨rfl,ac⟩
 refine⟨_,rfl,ac,?_⟩
 have am:=ac.size
 have ag:=a3.trans ac
 have a2:=ab.ext ac
 refine Ac 1 Z<|cP [0,0] Z<|Ad 1 Z ?_
 have an:¬(0≠((0:Nat):Int)):=(fun h9=>h9 Z)
 refine B4 false Z Z (A6 an) Aa<|Aj<|Ai Z<|A2<|A0<|AP _ [1,0,0,3,3,0,0,0,0,0] mixed (by kernel_rfl)<|AM (p:=zP w.heap.size) (.inl Z) [zI ipT,vtc,vtg,vtx] ER Z (fun b1 a5=>LD.of_box<|BX.ext (w:=w2.drew) a2 a5) Z Aa<|Ad 2 Z<|Au 110 [] [] [va,vd] Z Z Z1 Aa (Nr _ _ _ _ _ (ha.ext g1 ag.drew) (hd.ext g1 ag.drew) oM oM) ?_
 rintro e4 w4 ⟨a6,rfl,a4,a0⟩
 refine⟨_,rfl,a4,?_⟩
 replace a4:=a4.of_drew
 have ao:=a4.size
 have ad:=ag.trans a4
 have a7:=a2.ext a4
 replace a0:=a0.low (B':=w2.heap.size)<|A7 _
 refine Au 109 [] [] [.agg #[zI ipT,vtc,vtg,vtx],a6,zI ((1:Nat):Int)] Z Z Z0 Aa (H4 _ (ipT) vtc vtg vtx (T) (oT) a6 (Df a d 2) ((1:Nat):Int) _hipT (htcT.ext (Am B5) ad) (htgT.ext (Am Bd) ad) (htoT.ext g1 ad) (RN.of_fr2 a0 fun b hb=>absurd hb List.not_mem_nil) a0.cap oM oM (by exact Kz hR.n hdd.2) (by intro k hk;rw[CA];exact hR.k.form k hk) oM) ?_
 rintro e5 w5 ⟨v5,c5,rfl,ae,a8,ah⟩
 refine⟨_,rfl,ae,?_⟩
 have ap:=ae.size
 have a9:=ad.trans ae
 have aa:=a7.ext ae
 have aq:c5=0∨c5=6:=by unfold YG at a8;omega
 have hcz:c5=0:=by rcases a8 with h9|h9;exact h9.1;exact absurd (hR.nz hdd.2) h9.2
 obtain⟨a1,hrvc⟩:=ah hcz
 replace a1:RN [] (B2 (B2 rI)) w5.heap v5 (B9 2 (Df a d 2) T.code):=a1
 refine Ad 1 Z<|AR (vs:=[v5,zI c5]) v5 Z Z Aa<|AR (vs:=[v5,zI c5]) (zI c5) Z Z Aa<|Ac 2 Z<|A0<|cP [0,0] Z<|Ad 1 Z ?_
 have ar:¬(c5≠((0:Nat):Int)):=(fun h9=>h9 hcz)
 refine B4 false Z Z (A6 ar) Aa<|Aj<|Ai Z<|A2<|cP [2,0,0,3,0,0] Z<|AM (p:=zP w.heap.size) (.inr Z) [zI ipT,vtc,vtg,vtx] ER Z (fun b1 a5=>LD.of_box<|BX.ext (w:=w5) aa a5) Z Aa<|Ad 2 Z<|Au 184 [] [] [.agg #[zI ipT,vtc,vtg,vtx],v5,vw] Z Z Zi Aa (HB _ 2 a.length [] (ipT) vtc vtg vtx (T) (oT) v5 (B9 2 (Df a d 2) T.code) vw (ws) (fun b hb=>absurd hb List.not_mem_nil) _hipT (htcT.ext (Am B5) a9) (htgT.ext (Am Bd) a9) (htoT.ext g1 a9) a1 hrvc (hws.ext g1 a9) oM (by exact hR.reg hdd.2) (by rw[CR]) oM oM hR.k.out hw.2 hR.k.form) ?_
 rintro e7 w7 ⟨v7,rfl,af,au,ai⟩
 refine⟨_,rfl,af,?_⟩
 have av:=af.size
 have aw:=a9.trans af
 exact Ac 2 Z<|A1<|Af [8,9] Z (.tuple #[v7,zI ((0:Nat):Int)]) Z ⟨_,rfl,aw,au,ai⟩
theorem FG (w:World)(ipT:Int)(vtc vtg vtx:Value)(T:Tp)(oT:List Int)(va:Value)(a:List Int)(vw:Value)(ws:List Int)(vd:Value)(d:List Int)(_hipT:Bw ipT)(htcT:RN [] (DS 4 Oi) w.heap vtc T.code)(htgT:RN [] (DS 2 Oj) w.heap vtg T.grd)(htoT:RN [] (B2 rI) w.heap vtx oT)(ha:Rd (B2 rI) w.heap va a)(hws:Rd (B2 rI) w.heap vw ws)(hd:Rd (B2 rI) w.heap vd d)(hip:ipT=(a.length:Int))(hR:QN a T oT)(hw:ws.length=oT.length∧AV ws=true)(hdd:d.length=a.length∧AV d=true) :
  Calls Tryz.prog 35 #[(.agg #[(zI ipT),vtc,vtg,vtx]),va,vw,vd] w (fun e w'=>∃v0:Value,e=.returned (.tuple #[v0,zI 0])∧AG w w'∧Fr (Bt rI 2) w.heap.size w'.heap.size w'.heap v0 (H0 (Iw 2 T oT ws (Df a d 2)))):=by
 refine Ap [.agg #[zI ipT,vtc,vtg,vtx],va,vw,vd] 43 Tryz.func35 Z Z sM ?_
 have az:AG w w:=AG.refl w
 have hl_vtx:=htoT.lenL
 unfold maxLen at hl_vtx
 have bm:=ha.lenle
 have bn:=hws.lenle
 have bo:=hd.lenle
 have hK:=hR.k
 have hni:=hK.nb
 have hcl:=hK.cl
 have bu:=hK.gl
 have hol:=hK.ol
 have hpos:=hK.pos
 refine cP [3,0,0] Z (Bx (cs:=#[zI ipT,vtc,vtg,vtx]) Z Aa fun w1 al b7 ak=>?_)
 have am:=al.size
 have a4:=az.trans al
 replace ak:BX w1.heap w.heap.size [zI ipT,vtc,vtg,vtx]:=ak
 refine Ac 2 Z<|cP [2,0,0,0,3,0,0,0,0,0] Z<|AM (p:=zP w.heap.size) (.inr Z) [zI ipT,vtc,vtg,vtx] ER Z (fun bp an=>LD.of_box<|BX.ext (w:=w1) ak an) Z Aa<|Ad 3 Z<|Au 105 [] [] [.agg #[zI ipT,vtc,vtg,vtx],va,vw,vd] Z Z YX Aa (Ns _ (ipT) vtc vtg vtx (T) (oT) va (a) vw (ws) vd (d) _hipT (htcT.ext (Am B5) a4) (htgT.ext (Am Bd) a4) (htoT.ext g1 a4) (ha.ext g1 a4) (hws.ext g1 a4) (hd.ext g1 a4) oM hR hw hdd) ?_
 rintro e2 w2 ⟨v2,rfl,a8,b8,ao⟩
 refine⟨_,rfl,a8,?_⟩
 have b9:=a8.size
 have ap:=a4.trans a8
 have a9:=ak.ext a8
 refine Ad 1 Z<|AR (vs:=[v2,zI 0]) v2 Z Z Aa<|AR (vs:=[v2,zI 0]) (zI 0) Z Z Aa<|Ac 2 Z<|A0<|cP [0,0] Z<|Ad 1 Z ?_
 have ba:¬(0≠((0:Nat):Int)):=(fun h9=>h9 Z)
 refine B4 false Z Z (A6 ba) Aa<|Aj<|Ai Z<|A2<|cP [3,0] Z (CH (rI) AK Bj BH Aa fun v4 w4 aa bb b0=>?_)
 have aq:=aa.size
 have ab:=ap.trans aa
 have ac:=a9.ext aa
 have b1:=b8.ext g2 aa
 refine Ac 1 Z<|A0<|cP [2,0,3,0,0] Z ?_
 obtain⟨Fq0,hoq⟩:=Ow.of_fr b0 (A7 _)
 have hFlg:∀b∈Fq0,b<w4.heap.size:=fun b hb=>by have:=hoq.high b hb;omega
 refine AM (p:=zP w.heap.size) (.inr Z) [zI ipT,vtc,vtg,vtx] ER Z (fun bp an=>LD.of_box<|BX.ext (w:=w4) ac an) Z Aa<|Ad 1 Z<|Au 107 [] [] [.agg #[zI ipT,vtc,vtg,vtx],v2] Z Z YY Aa (HC _ 2 a.length Fq0 (ipT) vtc vtg vtx (T) (oT) v2 (Je T.code (B9 2 (Df a d 2) T.code) oT ws) (fun b hb=>(by have:=hFlg b hb;omega:b<w4.heap.size)) _hipT (htcT.ext (Am B5) ab) (htgT.ext (Am Bd) ab) (htoT.ext g1 ab) b1 ao oM oM (by exact hR.adj hdd.2) (by rw[SE,CR];omega) oM hR.k.form) ?_
 rintro e6 w6 ⟨v6,rfl,a7,b2,bc⟩
 refine⟨_,rfl,a7,?_⟩
 have ar:=a7.size
 have b3:=ab.trans a7
 have ad:=hoq.ext (o1) a7
 have bk:=b1.ext g2 a7
 obtain⟨LQ,hLQ⟩:∃l:List Sr,l=(Uw a.length 2 T.code (Je T.code (B9 2 (Df a d 2) T.code) oT ws)):=⟨_,rfl⟩
 rw[← hLQ]at b2
 have hLs:C7 2 LQ:=by rw[hLQ];exact PY hR.k.form
 have hLl:LQ.length=a.length:=by rw[hLQ,PZ]
 refine AO (v:=v6) C0 Z b2.slL Aa<|Ac 1 Z<|A3<|AY (S:=Nat×Value×List Nat) (fun⟨k,vo,Fo⟩=>([(12,vo),(31,zI (k:Int)),(29,v6),(30,zI (LQ.length:Int))])) (fun⟨k,vo,Fo⟩ W=>AG w W∧Ow (Bt rI 2) w2.heap.size W.heap.size W.heap vo ((LQ.take k).map fun s=>s.getD 1 0) Fo∧k≤LQ.length∧RN Fo (B2<|B2 rI) W.heap v6 LQ∧w2.heap.size≤W.heap.size) (fun⟨k,vo,Fo⟩=>LQ.length-k) (0,v4,Fq0) ⟨rfl,rfl,rfl,rfl,trivial⟩ ⟨b3,ad.up oM,oM,(by assumption),oM⟩ ?_
 clear az b7 al am a4 a8 b0 bb aa aq ab a7 ar b3
 rintro⟨k,vo,Fo⟩ ρ8 w8 ⟨au,a5,b4,hlq,bd⟩
 have be:w.heap.size≤w8.heap.size:=au.size
 refine cP [0] Z ?_
 by_cases ae:(k:Int)<(LQ.length:Int)
 ·refine AE true Z Z (A5 ae) Aa<|Aj<|A0<|Ag Z<|A2<|A0<|A3<|cP [0,2,0] Z<|AA (v:=v6) k C0 Bf Z Z hlq.slL Z sD Aa ?_
  obtain⟨a6,av,a2⟩:=RN.getL (w:=w8) g1 [] (k:=k) hlq sD
  have af:=a2.lenL
  unfold maxLen at af
  refine Ah (p:=Ay v6 k 1) (.inr Z) a6 Bk Z (av _<|At.refl _ _) Aa<|Ac 1 Z<|Ab _ [0,0,0,2,3,4,0] Z ?_
  have hrw:=UG hLs (k:=k) oM
  refine Ad 2 Z<|AA (v:=a6) 1 Bj BH Z Z a2.slL Z sD Aa ?_
  have ag:=RN.getI (w:=w8) (k:=1) a2 sD
  refine Ah (p:=Ay a6 1 1) (.inr Z) (zI<|(LQ.getD k []).getD 1 0) AC Z (ag.1 _<|At.refl _ _) Aa (BK (u:=zI<|(LQ.getD k []).getD 1 0) (B:=w8.heap.size) AK Bj BH Z Z (LN w8.heap.size w8.heap.size _ _ ag.2) (A7 _) Aa fun bq br a1 bf aw=>?_)
  have b5:=a1.size
  have ah:=au.trans a1
  have a0:=a5.ext (o1) a1
  have bg:=hlq.ext g2 a1
  have bh:=a2.ext g1 a1
  refine R1 AK (v:=vo) (a:=bq) Bj BH Z Z Z a0 aw oM oM oM sD (by unfold maxLen;first|omega|assumption|(simp;done)|(simp;omega)) Aa fun bs bl bt a3 ax ai=>?_
  have b6:br.heap.size≤bl.heap.size:=a3.size
  have ay:AG w bl:=a3.below ah (fun c hc=>A8 ap.size (a0.low c (List.mem_of_mem_take hc))) ah.size
  have bi:=RN.stp g2 hlq ((At.of_ext _ a1).trans<|a3.sub fun c hc=>List.mem_of_mem_take hc) ai
  have bj:=RN.stp g1 a2 ((At.of_ext _ a1).trans<|a3.sub fun c hc=>List.mem_of_mem_take hc) ai
  exact Ac 1 Z<|Ab _ [0,0] Z<|AN ((k+1:Nat):Int) Z Z (Bg oM sD) Aa<|Ac 1 Z ⟨(k+1,bs,bt),_,rfl,zR,⟨ay,(by have h:=ax.up (T':=bl.heap.size) oM;rw[G8 [] oM];exact h),oM,(by assumption),oM⟩,zD⟩
 refine AE false Z Z (A6 ae) Aa<|Aj<|A0<|Ai Z<|A4<|Aw<|Aw<|Aq<|cP [0,0,0] Z ?_
 have aj:=a5.fr
 exact Ac 3 Z<|A1<|Af [8,9] Z (.tuple #[vo,zI ((0:Nat):Int)]) Z ⟨vo,rfl,au,(by first|(have h:=(aj.up o1).low ap.size;rw[List.take_of_length_le oM,hLQ]at h;unfold H0 Iw;rw[CA];exact h)|(exfalso;omega))⟩
theorem Jq (w:World)(va:Value)(a:List Int)(vb:Value)(b:List Int)(ha:Rd (B2 rI) w.heap va a)(hb:Rd (B2 rI) w.heap vb b)(hl:b.length=a.length) :
  Calls Tryz.prog 33 #[va,vb] w (fun e w'=>e=.returned (zI (JO a b a.length))∧AG w w'):=by
 refine Ap [va,vb] 31 Tryz.func33 Z Z sM ?_
 have a1:AG w w:=AG.refl w
 have a7:=ha.lenle
 have a8:=hb.lenle
 refine cQ Z<|cQ Z<|A0<|cQ Z<|A3 ?_
 refine AY (S:=Nat×Int) (fun⟨k,s⟩=>([(5,zI s),(6,zI (k:Int)),(0,va),(1,vb)])) (fun⟨k,s⟩ W=>AG w W∧k≤a.length∧s=JO a b k∧(0≤s∧s<1000003)) (fun⟨k,s⟩=>a.length-k) (0,((0:Nat):Int)) ⟨rfl,rfl,rfl,rfl,trivial⟩ ⟨a1,sD,(by rfl),oM⟩ ?_
 clear a1
 rintro⟨k,s⟩ ρ1 w1 ⟨a0,a2,hs,a5⟩
 have a6:w.heap.size≤w1.heap.size:=a0.size
 refine A0<|cP [0,0,0,0,0,0,0,0,0,0] Z<|Ad 2 Z<|AO (v:=va) Bj Z ha.isSl Aa ?_
 by_cases a3:(k:Int)<(a.length:Int)
 ·refine AE true Z Z (A5 a3) Aa<|Ad 3 Z<|AO (v:=vb) Bj Z hb.isSl (Ae (e:=11) Z Z Z) ?_
  by_cases a4:(k:Int)<(b.length:Int)
  ·refine AE true Z Z (A5 a4) (Ae (e:=11) Z Z Z)<|Ac 1 Z<|Ag Z<|A2<|A0<|A3<|AP _ [0,0,0,0,1,0,0,0,1,0,0,0] mixed (by kernel_rfl)<|Ad 3 Z<|AA (v:=va) k Bj BH Z Z ha.isSl Z sD Aa ?_
   refine Ah (p:=Ay va k 1) (.inl Z) (zI<|a.getD k 0) AC Z (B7 a0.drew (ha.getI sD).1) Aa<|Ad 2 Z ?_
   refine AA (v:=vb) k Bj BH Z Z hb.isSl Z sD Aa ?_
   refine Ah (p:=Ay vb k 1) (.inl Z) (zI<|b.getD k 0) AC Z (B7 a0.drew (hb.getI sD).1) Aa ?_
   refine Az 112 [] [] [zI<|a.getD k 0,zI<|b.getD k 0] Z Z Jm Aa (zI<|md ((a.getD k 0)*(b.getD k 0))) (fun wq=>Ch wq _ _ (ha.getI sD).2 (hb.getI sD).2) ?_
   refine Az 50 [] [] [zI s,zI<|md ((a.getD k 0)*(b.getD k 0))] Z Z UI Aa (zI<|md (s+(md ((a.getD k 0)*(b.getD k 0))))) (fun wq=>FP wq _ _ oM<|Dh _)<|Ac 1 Z<|Ab _ [0,0,0] Z<|Ad 1 Z<|AN ((k+1:Nat):Int) Z Z (Bg oM sD) Aa<|Ac 1 Z ?_
   exact⟨(k+1,md (s+(md ((a.getD k 0)*(b.getD k 0))))),_,rfl,zR,⟨a0.drew,sD,(by rw[hs];exact QE a b k),(by exact BM _)⟩,zD⟩
  exact AE false Z Z (A6 a4) (Ae (e:=11) Z Z Z)<|Ac 1 Z<|Ai Z<|A4<|Aw<|Aw<|Aq<|cP [0,0] Z<|Ac 2 Z<|A1<|Af [4] Z (zI s) Z ⟨B3 (by rw[hs,show k=a.length by omega]),a0⟩
 exact AE false Z Z (A6 a3) Aa<|Ac 6 Z<|Ai Z<|A4<|Aw<|Aw<|Aq<|cP [0,0] Z<|Ac 2 Z<|A1<|Af [4] Z (zI s) Z ⟨B3 (by rw[hs,show k=a.length by omega]),a0⟩
theorem aA {p:List Fn}{f:Int}{a d:Sr}(h:JF p=true)(hf:0≤f∧f<((p.length:Nat):Int))(hl:((a.length:Nat):Int)=(p.getD f.toNat Fn.zero).params)(hn:AV a=true)(hl2:((d.length:Nat):Int)=(p.getD f.toNat Fn.zero).params)(hn2:AV d=true):Nu p f a d=0:=by
  unfold Nu Gg
  rw[if_pos h,if_pos zO,hn,hn2,A5 hl,A5 hl2];rfl
theorem UV {p:Prop}(h:p:=by rw[Jk,GE,CA]):p:=h
theorem HE (w:World)(vc:Value)(cs:List UInt8)(vd:Value)(ds:List UInt8)(hcs:Rd (B2 rU) w.heap vc cs)(hds:Rd (B2 rU) w.heap vd ds)  :
  Calls Tryz.prog 6 #[vc,vd] w (fun e w'=>e=.returned (.bool true)∧AG w w'):=by
 refine Ap [vc,vd] 152 Tryz.func6 Z Z sM ?_
 have gp:AG w w:=AG.refl w
 have fd:=hcs.lenle
 have ff:=hds.lenle
 refine cQ Z<|A0<|cP [0,0,3] Z<|Ad 2 Z<|Au 12 [] [] [vc,vd] Z Z bP Aa (LV _ _ _ _ _ (hcs.ext D7 gp)<|hds.ext D7 gp) ?_
 rintro e1 w1 ⟨rfl,gq⟩
 refine⟨_,rfl,gq,?_⟩
 have jo:=gq.size
 have gu:=gp.trans gq
 refine Aj ?_
 cases j3:(decide (((3000:Nat):Int)<(cs.length:Int)) || decide (((3000:Nat):Int)<(ds.length:Int)))
 ·refine Ai (by first|rfl|exact zW j3)<|A2<|cP [0,3,0,0,0,0,0,0,3,4,0,0,0,0] Z<|Ad 1 Z<|Au 26 [] [] [vc] Z Z bR Aa (M4 _ vc _<|hcs.ext D7 gu) ?_
  rintro e3 w3 ⟨vD,vaD,vbD,pD,fD,kD,aD,bD,rfl,gr,hOD,haD,hbD,hCD⟩
  refine⟨_,rfl,gr,?_⟩
  have jp:=gr.size
  have jq:=gu.trans gr
  have hfe:=hCD.fe
  have hlc:=hCD.len
  have hpa:=hCD.dr.par fD.toNat oM
  have fo:=hCD.dr.outs fD.toNat oM
  have hla:=hCD.la
  have hlb:=hCD.lb
  have hft:(fD.toNat:Int)=fD:=by omega
  have fg:=J7 hCD.dr.ok
  have gv:=Yz hCD.dr.ok oM hla.1 hla.2
  have hliD:=aA (d:=bD) hCD.dr.ok oM hla.1 hla.2 hlb.1 hlb.2
  have hex:=V7 gv
  refine Ad 1 Z<|AR (vs:=[.agg #[vD],zI fD,zI kD,vaD,vbD]) (.agg #[vD]) Z Z Aa<|AR (vs:=[.agg #[vD],zI fD,zI kD,vaD,vbD]) (zI fD) Z Z Aa<|AR (vs:=[.agg #[vD],zI fD,zI kD,vaD,vbD]) (zI kD) Z Z Aa<|AR (vs:=[.agg #[vD],zI fD,zI kD,vaD,vbD]) vaD Z Z Aa<|AR (vs:=[.agg #[vD],zI fD,zI kD,vaD,vbD]) vbD Z Z Aa (Bp (z:=.agg #[zN]) QJ Aa fun w4 eg jr gw=>?_)
  have gx:=eg.size
  have gy:=jq.trans eg
  have dy:=hOD.ext (As<|AW 153 6) eg
  have ei:=haD.ext (o1) eg
  have ej:=hbD.ext (o1) eg
  replace gw:BX w4.heap w3.heap.size [zN]:=gw
  refine Bz (vs:=[vD]) CI Z Z (by intro u hu;simp only[List.mem_cons,List.not_mem_nil,or_false]at hu;rcases hu with rfl <;> first|exact⟨rfl,rfl⟩|exact Br dy.isSlS) gw Z Z Aa fun w5 eh js gs=>?_
  replace gs:BX w5.heap w3.heap.size [vD]:=gs
  have jt:w4.heap.size≤w5.heap.size:=eh.size
  have j4:AG w w5:=eh.below gy (fun _ h=>zE h) gy.size
  have gt:=dy.chg (As<|AW 153 6) eh fun _ h=>zA h
  have j5:=ei.chg (o1) eh fun _ h=>zA h
  have j6:=ej.chg (o1) eh fun _ h=>zA h
  refine Ac 4 Z<|cP [0,0,2,0,0,0,2,0,3,0] Z<|Ad 1 Z<|Ak (p:=zP w3.heap.size) 0 BA Z Z Aa<|Ah (p:=Ao (zP w3.heap.size) 0) (.inr Z) vD C9 Z (gs.ldp (i:=0) sM) Aa<|Ad 1 Z<|AA (v:=vD) ((fD).toNat) GF CC Z Z gt.isSlS oM sD Aa ?_
  obtain⟨cs9,ju,j7⟩:=RN.get (S:=[]) (Av 6) Fn.zero (k:=(fD).toNat) (RN.of_frF gt (fun b hb=>by cases hb)) sD
  obtain⟨j8,rfl,j9⟩:=RF.of ju
  have ek:=j9.rn.lenle
  unfold maxLen at ek
  refine AI (p:=Ay vD ((fD).toNat) 3) 2 BU Z (j7 _<|At.refl [] _) Aa<|Ah (p:=Ao (Ay vD ((fD).toNat) 3) 2) (.inr Z) j8 Be Z ((j7 _<|At.refl [] _).ld (i:=2) (by simp[Fb,Fd])) Aa<|AO (v:=j8) D5 Z j9.rn.isSl Aa<|Au 27 [] [] [vd,zI (((pD.getD ((fD).toNat) Fn.zero).outs.length:Nat):Int)] Z Z YS Aa (If _ _ _ _ (hds.ext D7 j4) oM sD) ?_
  rintro fp fk ⟨ad,f5,rfl,b3,cv,gz⟩
  refine⟨_,rfl,b3,?_⟩
  have ja:=b3.size
  have el:=j4.trans b3
  have cw:=gt.ext (As<|AW 153 6) b3
  have b6:=j5.ext (o1) b3
  have cx:=j6.ext (o1) b3
  have e4:=gs.ext b3
  refine Ac 1 Z<|cP [0,0,0,3,3,0] Z ?_
  obtain⟨ws,hws⟩:∃l:List Int,l=f5:=⟨_,rfl⟩
  have hn_ws:=cv
  rw[← hws]at hn_ws
  have hwt:ws.length=(pD.getD fD.toNat Fn.zero).outs.length∧AV ws=true:=by rw[hws];exact⟨by have h9:=‹_∧AV f5=true›.1;omega,‹_∧AV f5=true›.2⟩
  refine Ad 2 Z<|AO (v:=vaD) Bj Z b6.isSl Aa<|Au 27 [] [] [vd,zI (aD.length:Int)] Z Z YS Aa (If _ _ _ _ (hds.ext D7 el) oM sD) ?_
  rintro fq fr ⟨em,f8,rfl,aw,b7,i0⟩
  refine⟨_,rfl,aw,?_⟩
  have en:=aw.size
  have eo:=el.trans aw
  have cy:=cw.ext (As<|AW 153 6) aw
  have cz:=b6.ext (o1) aw
  have d0:=cx.ext (o1) aw
  have e5:=e4.ext aw
  have hn_wsx11:=hn_ws.ext (o1) aw
  refine Au 34 [] [] [em,zI ((7:Nat):Int)] Z Z XL Aa (FA _ _ _ _ b7.rd1 oM (by have h9:=‹_∧AV _=true›;omega)) ?_
  rintro fs fl ⟨dz,rfl,ah,d1⟩
  refine⟨_,rfl,ah,?_⟩
  have ep:=ah.size
  have eq:=eo.trans ah
  have b8:=cy.ext (As<|AW 153 6) ah
  have b9:=cz.ext (o1) ah
  have d2:=d0.ext (o1) ah
  have d3:=e5.ext ah
  have hn_wsx12:=hn_wsx11.ext (o1) ah
  have aj:=b7.ext (o1) ah
  refine Ac 1 Z<|cP [2,0,0,3,0,0,0,0,0,0,0] Z ?_
  obtain⟨oD,hoD⟩:∃l:List Int,l=scl f8 ((7:Nat):Int):=⟨_,rfl⟩
  have hn_oD:=d1
  rw[← hoD]at hn_oD
  have hot:oD.length=aD.length∧AV oD=true:=by rw[hoD];exact⟨by rw[Kp];have h9:=‹_∧AV f8=true›.1;omega,TO _ _⟩
  refine AM (p:=zP w3.heap.size) (.inr Z) [vD] CI Z (fun fb dp=>LD.of_box<|BX.ext (w:=fl) d3 dp) Z Aa<|Ad 2 Z<|Au 28 [] [] [.agg #[vD],zI fD,vaD] Z Z bS Aa (Ki _ 6 vD (pD) _ _ _ (RN.of_frF b8 fun b hb=>by cases hb) oM b9.rd1 hCD.dr.szp) ?_
  rintro ft fm ⟨be,rfl,ae,d4⟩
  refine⟨_,rfl,ae,?_⟩
  have er:=ae.size
  have es:=eq.trans ae
  have ba:=b8.ext (As<|AW 153 6) ae
  have bb:=b9.ext (o1) ae
  have d5:=d2.ext (o1) ae
  have d6:=d3.ext ae
  have hn_wsx13:=hn_wsx12.ext (o1) ae
  have ak:=aj.ext (o1) ae
  have hn_oDx13:=hn_oD.ext (o1) ae
  refine Ad 1 Z<|AR (vs:=[be,zI ((XB pD fD aD:Nat):Int),zI<|Ui pD fD aD]) be Z Z Aa<|AR (vs:=[be,zI ((XB pD fD aD:Nat):Int),zI<|Ui pD fD aD]) (zI ((XB pD fD aD:Nat):Int)) Z Z Aa<|AR (vs:=[be,zI ((XB pD fD aD:Nat):Int),zI<|Ui pD fD aD]) (zI<|Ui pD fD aD) Z Z Aa<|Ac 3 Z<|cP [2,0,0,3,0,0,0,3,4,0] Z<|AM (p:=zP w3.heap.size) (.inr Z) [vD] CI Z (fun fb dp=>LD.of_box<|BX.ext (w:=fm) d6 dp) Z Aa<|Ad 2 Z ?_
  refine Au 29 [] [] [.agg #[vD],zI fD,vaD] Z Z bT Aa (M6 _ 6 vD pD (fD) vaD aD (RN.of_frF ba fun b hb=>by cases hb) oM (RN.of_fr1 bb fun b hb=>absurd hb List.not_mem_nil) hCD.dr.ok hCD.dr.szp oM oM hla.2) ?_
  rintro fu f7 ⟨i14,f1,f2,f3,f0,f4,fv,f9,rfl,a9,e0,jb,et,e2,eu⟩
  refine⟨_,rfl,a9,?_⟩
  have ev:=a9.size
  have ew:=es.trans a9
  have d7:=ba.ext (As<|AW 153 6) a9
  have d8:=bb.ext (o1) a9
  have d9:=d5.ext (o1) a9
  have da:=d6.ext a9
  have hn_wsx14:=hn_wsx13.ext (o1) a9
  have al:=ak.ext (o1) a9
  have hn_oDx14:=hn_oDx13.ext (o1) a9
  have am:=d4.ext (o1) a9
  have jc:Ea pD (fD).toNat aD=f9:=O3 (A7 1) fg oM hla.2 (KE (ED hla.2) (Li _)) oM e0
  have ex:=AG.refl f7
  refine Ad 1 Z<|AR (vs:=[.agg #[zI i14,f1,f2,f3],zI f9]) (.agg #[zI i14,f1,f2,f3]) Z Z Aa<|AR (vs:=[.agg #[zI i14,f1,f2,f3],zI f9]) (zI f9) Z Z Aa ?_
  have jv:=da.lt
  refine Bp (z:=.agg #[zI 0,zN,zN,zN]) ZM Aa fun fh aa i1 e6=>?_
  have ey:=aa.size
  have e7:=ew.trans aa
  have i2:=ex.trans aa
  have db:=d7.ext (As<|AW 153 6) aa
  have dc:=d8.ext (o1) aa
  have dd:=d9.ext (o1) aa
  have e8:=da.ext aa
  have hn_wsx15:=hn_wsx14.ext (o1) aa
  have an:=al.ext (o1) aa
  have hn_oDx15:=hn_oDx14.ext (o1) aa
  have ao:=am.ext (o1) aa
  replace e6:BX fh.heap f7.heap.size [zI 0,zN,zN,zN]:=e6
  refine Bz (vs:=[zI i14,f1,f2,f3]) ER Z Z (fun u hu=>by rcases List.mem_cons.1 hu with rfl|hu;exact⟨rfl,rfl⟩;exact et u hu) e6 Z Z Aa fun f6 ab i3 dq=>?_
  replace dq:BX f6.heap f7.heap.size [zI i14,f1,f2,f3]:=dq
  have jd:fh.heap.size≤f6.heap.size:=ab.size
  have ez:AG w f6:=ab.below e7 (fun _ h=>zE h) e7.size
  have g0:=db.chg (As<|AW 153 6) ab fun _ h=>zA h
  have e9:=dc.chg (o1) ab fun _ h=>zA h
  have ea:=dd.chg (o1) ab fun _ h=>zA h
  have g2:=e8.chg ab (zB ·)
  have eb:=hn_wsx15.chg (o1) ab fun _ h=>zA h
  have g3:=an.chg (o1) ab fun _ h=>zA h
  have g4:=hn_oDx15.chg (o1) ab fun _ h=>zA h
  have g5:=ao.chg (o1) ab fun _ h=>zA h
  have de:At [f7.heap.size] f7 f6:=(At.of_ext _ i2).trans ab
  have bf:=AG.refl f6
  refine Ac 1 Z<|A0<|cP [0,0,0] Z<|Ad 2 Z ?_
  have i4:¬(f9≠Ui pD fD aD):=oM
  refine B4 false Z Z (A6 i4) Aa<|Aj<|Ai Z<|A2<|A0<|cP [0,0] Z<|Ad 1 Z ?_
  by_cases g6:Ui pD fD aD≠((0:Nat):Int)
  ·exact B4 true Z Z (A5 g6) Aa<|Aj<|Ag Z<|cQ Z<|A1<|An<|Af [4] Z (.bool true) Z ⟨rfl,ez⟩
  refine B4 false Z Z (A6 g6) Aa<|Aj<|Ai Z<|A2<|cP [2,0,0,0,3,0,0,0,0,0] Z ?_
  have g7:f9=0:=by omega
  obtain⟨k5,hTB,jw,hxl,hEn,jx,jy,jz⟩:=eu g7
  have g8:=e0
  rw[g7]at g8
  have hRc:N0 pD (fD).toNat aD f0 f4:=⟨fg,zO,zO,hla.2,_,g8⟩
  have hTR:=hRc.tpr hTB jw
  have g9:RN [] (DS 4 Oi) f6.heap f1 f4.code:=RN.ext (Am B5) (RN.none (RN.chg (Am B5) (RG.rnG (g:=f7.heap.size) (Am B5) jx oM) de)) bf
  have ga:RN [] (DS 2 Oj) f6.heap f2 f4.grd:=RN.ext (Am Bd) (RN.none (RN.chg (Am Bd) (RG.rnG (g:=f7.heap.size) (Am Bd) jy oM) de)) bf
  have gb:RN [] (B2 rI) f6.heap f3 f0:=RN.ext g1 (RN.none (RN.chg g1 (RG.rnG (g:=f7.heap.size) g1 jz oM) de)) bf
  have hxw:ws.length=f0.length:=by omega
  have k6:Nu pD fD aD bD=0:=hliD
  have hnx:Ea pD fD.toNat aD=0:=by omega
  refine AM (p:=zP f7.heap.size) (.inr Z) [zI i14,f1,f2,f3] ER Z (fun fb dp=>LD.of_box<|BX.ext (w:=f6) dq dp) Z Aa<|Ad 3 Z<|Au 35 [] [] [.agg #[zI i14,f1,f2,f3],vaD,ad,vbD] Z Z YU Aa (FG _ (i14) f1 f2 f3 (f4) (f0) _ _ _ _ _ _ e2 g9 ga gb e9.rd1 eb.rd1 ea.rd1 oM hTR (by exact⟨hxw,hwt.2⟩) (by exact⟨zO,hlb.2⟩)) ?_
  rintro fw fi ⟨a8,rfl,a3,df⟩
  refine⟨_,rfl,a3,?_⟩
  have je:=a3.size
  have i5:=ez.trans a3
  have i6:=bf.trans a3
  have bg:=g0.ext (As<|AW 153 6) a3
  have ax:=e9.ext (o1) a3
  have bh:=ea.ext (o1) a3
  have bi:=g2.ext a3
  have ay:=eb.ext (o1) a3
  have bj:=g3.ext (o1) a3
  have az:=g4.ext (o1) a3
  have bk:=g5.ext (o1) a3
  have dt:=dq.ext a3
  have gc:=g9.ext (Am B5) a3
  have gd:=ga.ext (Am Bd) a3
  have ge:=gb.ext g1 a3
  refine Ad 1 Z<|AR (vs:=[a8,zI 0]) a8 Z Z Aa<|AR (vs:=[a8,zI 0]) (zI 0) Z Z Aa<|Ac 2 Z<|cP [2,0,0,0,3,0,0,0,0,0] Z<|AM (p:=zP f7.heap.size) (.inr Z) [zI i14,f1,f2,f3] ER Z (fun fb dp=>LD.of_box<|BX.ext (w:=fi) dt dp) Z Aa<|Ad 3 Z<|Au 35 [] [] [.agg #[zI i14,f1,f2,f3],vaD,ad,dz] Z Z YU Aa (FG _ (i14) f1 f2 f3 (f4) (f0) _ _ _ _ _ _ e2 gc gd ge ax.rd1 ay.rd1 az.rd1 oM hTR (by exact⟨hxw,hwt.2⟩) hot) ?_
  rintro fx fy ⟨b4,rfl,a4,bc⟩
  refine⟨_,rfl,a4,?_⟩
  have gf:=a4.size
  have gg:=i5.trans a4
  have i7:=i6.trans a4
  have bl:=bg.ext (As<|AW 153 6) a4
  have ac:=ax.ext (o1) a4
  have bm:=bh.ext (o1) a4
  have bn:=bi.ext a4
  have bo:=ay.ext (o1) a4
  have bp:=bj.ext (o1) a4
  have b0:=az.ext (o1) a4
  have bq:=bk.ext (o1) a4
  have a5:=df.ext (o1) a4
  have i8:=gc.ext (Am B5) a4
  have i9:=gd.ext (Am Bd) a4
  have ia:=ge.ext g1 a4
  refine Ad 1 Z<|AR (vs:=[b4,zI 0]) b4 Z Z Aa<|AR (vs:=[b4,zI 0]) (zI 0) Z Z Aa<|Ac 2 Z<|A0<|cP [0,0,0,0,0,0,0,0,0,0,0,0,0,0,0,0,0,0,0,0,0,0,0,3,0,0,3,0,0] Z<|Ad 1 Z ?_
  have ib:¬(0≠((0:Nat):Int)):=(fun h9=>h9 Z)
  refine B4 false Z Z (A6 ib) Aa<|Ad 2 Z ?_
  have ic:¬(0≠((0:Nat):Int)):=(fun h9=>h9 Z)
  refine B4 false Z Z (A6 ic) (Ae (e:=88) Z Z Z)<|Ad 3 Z<|AO (v:=a8) Bj Z a5.isSl (Ae (e:=92) Z Z Z)<|Ad 1 Z<|AO (v:=vaD) Bj Z ac.isSl (Ae (e:=92) Z Z Z) ?_
  have id:¬((((H0 (Iw 2 f4 f0 ws (Df aD bD 2))).length:Nat):Int)≠(aD.length:Int)):=(fun h9=>h9 UV)
  refine B4 false Z Z (A6 id) (Ae (e:=92) Z Z Z)<|Ad 3 Z<|AO (v:=b4) Bj Z bc.isSl (Ae (e:=99) Z Z Z)<|Ad 1 Z<|AO (v:=vaD) Bj Z ac.isSl (Ae (e:=99) Z Z Z) ?_
  have ie:¬((((H0 (Iw 2 f4 f0 ws (Df aD oD 2))).length:Nat):Int)≠(aD.length:Int)):=(fun h9=>h9 UV)
  refine B4 false Z Z (A6 ie) (Ae (e:=99) Z Z Z)<|Ad 4 Z<|Au 33 [] [] [a8,dz] Z Z YT (Ae (e:=106) Z Z Z) (Jq _ _ _ _ _ a5.rd1 b0.rd1 (by rw[Jk,GE,CA];omega)) ?_
  rintro fz k7 ⟨rfl,a0⟩
  refine⟨_,rfl,a0,?_⟩
  have gh:=a0.size
  have gi:=gg.trans a0
  have ig:=i7.trans a0
  have br:=bl.ext (As<|AW 153 6) a0
  have bs:=ac.ext (o1) a0
  have b1:=bm.ext (o1) a0
  have bt:=bn.ext a0
  have bu:=bo.ext (o1) a0
  have bv:=bp.ext (o1) a0
  have bw:=b0.ext (o1) a0
  have bx:=bq.ext (o1) a0
  have ap:=a5.ext (o1) a0
  have a7:=bc.ext (o1) a0
  have ih:=i8.ext (Am B5) a0
  have ii:=i9.ext (Am Bd) a0
  have ij:=ia.ext g1 a0
  refine Ad 2 Z<|Au 33 [] [] [b4,vbD] Z Z YT (Ae (e:=106) Z Z Z) (Jq _ _ _ _ _ a7.rd1 b1.rd1 (by rw[Jk,GE,CA];omega)) ?_
  rintro k8 fc ⟨rfl,a1⟩
  refine⟨_,rfl,a1,?_⟩
  have jf:=a1.size
  have ik:=gi.trans a1
  have il:=ig.trans a1
  have bz:=br.ext (As<|AW 153 6) a1
  have b2:=bs.ext (o1) a1
  have c0:=b1.ext (o1) a1
  have c1:=bt.ext a1
  have c2:=bu.ext (o1) a1
  have c3:=bv.ext (o1) a1
  have c4:=bw.ext (o1) a1
  have c5:=bx.ext (o1) a1
  have aq:=ap.ext (o1) a1
  have ar:=a7.ext (o1) a1
  have im:=ih.ext (Am B5) a1
  have io:=ii.ext (Am Bd) a1
  have ip:=ij.ext g1 a1
  have iq:¬(JO (H0 (Iw 2 f4 f0 ws (Df aD bD 2))) oD (H0 (Iw 2 f4 f0 ws (Df aD bD 2))).length≠JO (H0 (Iw 2 f4 f0 ws (Df aD oD 2))) bD (H0 (Iw 2 f4 f0 ws (Df aD oD 2))).length):=(fun h9=>h9 (hRc.th_sym hlb.2 hot.2 _ _ UV UV))
  refine B4 false Z Z (A6 iq) (Ae (e:=106) Z Z Z)<|Ac 1 Z<|Ai Z<|A2<|cP [0,3,0] Z<|Ad 1 Z<|Au 34 [] [] [vaD,zI ((0:Nat):Int)] Z Z XL Aa (FA _ _ _ _ b2.rd1 oM oM) ?_
  rintro k9 ka ⟨gj,rfl,a2,dg⟩
  refine⟨_,rfl,a2,?_⟩
  have gk:=a2.size
  have gl:=ik.trans a2
  have ir:=il.trans a2
  have c6:=bz.ext (As<|AW 153 6) a2
  have c7:=b2.ext (o1) a2
  have c8:=c0.ext (o1) a2
  have c9:=c1.ext a2
  have ca:=c2.ext (o1) a2
  have du:=c3.ext (o1) a2
  have dv:=c4.ext (o1) a2
  have dw:=c5.ext (o1) a2
  have au:=aq.ext (o1) a2
  have cb:=ar.ext (o1) a2
  have k0:=im.ext (Am B5) a2
  have k1:=io.ext (Am Bd) a2
  have k2:=ip.ext g1 a2
  refine Ac 1 Z<|A0<|cQ Z<|A3 ?_
  refine AY (S:=Nat×Value) (fun⟨i,vo⟩=>([(21,vo),(22,zI (i:Int)),(5,zP w3.heap.size),(6,zI fD),(8,vaD),(9,vbD),(10,ad),(17,a8)])) (fun⟨i,vo⟩ W=>AG w W∧Fr (Fe 3 (QK 153 6) 49) w1.heap.size w3.heap.size W.heap vD pD∧Fr (Bt rI 2) fc.heap.size W.heap.size W.heap vo (QO pD fD.toNat aD bD ws i)∧Fr (Bt rI 2) w1.heap.size w3.heap.size W.heap vaD aD∧Fr (Bt rI 2) w1.heap.size w3.heap.size W.heap vbD bD∧Fr (Bt rI 2) w5.heap.size fk.heap.size W.heap ad ws∧Fr (Bt rI 2) f6.heap.size fi.heap.size W.heap a8 (H0<|Iw 2 f4 f0 ws<|Df aD bD 2)∧BX W.heap w3.heap.size [vD]∧AG f6 W∧i≤ws.length∧w3.heap.size<fc.heap.size∧w1.heap.size≤W.heap.size∧fc.heap.size≤W.heap.size) (fun⟨i,vo⟩=>ws.length-i) (0,gj) ⟨rfl,rfl,rfl,rfl,rfl,rfl,rfl,rfl,trivial⟩ ⟨gl,c6,(by rw[← YQ];exact dg.up o1),c7,c8,ca,au,c9,ir,oM,oM,oM,oM⟩ ?_
  clear gp gq gr jr eg gx gy js eh gt j5 j6 ek cv b3 cw b6 cx b7 aw en eo cy cz d0 d1 ah ep eq b8 b9 d2 aj d4 ae er es ba bb d5 ak a9 ev ew d7 d8 d9 al am i1 aa ey e7 db dc dd an ao i3 ab g0 e9 ea g2 eb g3 g4 g5 df a3 bg ax bh bi ay bj az bk bc a4 gf gg bl ac bm bn bo bp b0 bq a5 a0 gh gi br bs b1 bt bu bv bw bx ap a7 a1 bz b2 c0 c1 c2 c3 c4 c5 aq ar dg a2 gk gl c6 c7 c8 c9 ca du dv dw au cb
  rintro⟨i,vo⟩ ρ54 fj ⟨ec,dh,di,dj,dk,dl,dm,bd,dn,is,jg,jh,ji⟩
  have jj:w.heap.size≤fj.heap.size:=ec.size
  have k3:=bd.lt
  refine A0<|cP [0,0,0,0] Z<|Ad 2 Z<|AO (v:=ad) Bj Z dl.isSl Aa ?_
  by_cases gm:(i:Int)<(ws.length:Int)
  ·refine AE true Z Z (A5 gm) Aa<|Aj<|Ag Z<|A2<|A0<|A3<|cP [2,0,0,0,0,3,0,0,0,0,0] Z<|AM (p:=zP w3.heap.size) (.inr Z) [vD] CI Z (fun fb dp=>LD.of_box<|BX.ext (w:=fj) bd dp) Z Aa<|Ad 4 Z<|Au 36 [] [] [.agg #[vD],zI fD,zI (i:Int),vaD,vbD] Z Z bU Aa (I1 _ 6 vD (pD) _ _ _ _ _ _ (RN.of_frF dh fun b hb=>by cases hb) oM oM dj.rd1 dk.rd1 hliD hCD.dr.szp oM) ?_
   rintro kb kc ⟨b5,rfl,af,ed,it⟩
   refine⟨_,rfl,af,?_⟩
   have jk:=af.size
   have iu:=ec.trans af
   have iv:=dn.trans af
   have cc:=dh.ext (As<|AW 153 6) af
   have cd:=di.ext (o1) af
   have av:=dj.ext (o1) af
   have ce:=dk.ext (o1) af
   have a6:=dl.ext (o1) af
   have cf:=dm.ext (o1) af
   have cg:=bd.ext af
   refine Ad 1 Z<|AR (vs:=[b5,zI<|Ea pD fD.toNat aD]) b5 Z Z Aa<|AR (vs:=[b5,zI<|Ea pD fD.toNat aD]) (zI<|Ea pD fD.toNat aD) Z Z Aa<|Ac 2 Z<|A0<|cP [0,0,0,0,0,0,0,0,0] Z ?_
   have fa:=ed
   rw[if_pos hnx]at fa
   replace fa:Fr _ _ _ _ _ ((O2 pD fD.toNat i aD aD.length).map (fun r:List Int=>J2 r bD)):=fa
   refine Ad 1 Z ?_
   have iw:¬(Ea pD fD.toNat aD≠((0:Nat):Int)):=oM
   refine B4 false Z Z (A6 iw) Aa<|Ad 2 Z<|AO (v:=b5) Bj Z fa.isSl (Ae (e:=134) Z Z Z)<|Ad 1 Z<|AO (v:=vaD) Bj Z av.isSl (Ae (e:=134) Z Z Z) ?_
   have ix:¬(((((O2 pD fD.toNat i aD aD.length).map (fun r:List Int=>J2 r bD)).length:Nat):Int)≠(aD.length:Int)):=(fun h9=>h9 (by rw[List.length_map,Eu]))
   refine B4 false Z Z (A6 ix) (Ae (e:=134) Z Z Z)<|Ac 1 Z<|Ai Z<|A2<|Ab _ [0,0,0,0,0,2,3,3,0] Z<|Ad 4 Z<|AA (v:=ad) i Bj BH Z Z a6.isSl Z sD Aa ?_
   refine Ah (p:=Ay ad i 1) (.inr Z) (zI<|ws.getD i 0) AC Z (a6.rd1.getI sD).1 Aa ?_
   refine Au 34 [] [] [b5,zI<|ws.getD i 0] Z Z XL Aa (FA _ _ _ _ fa.rd1 (a6.rd1.getI sD).2 (by rw[List.length_map,Eu];omega)) ?_
   rintro kd ke ⟨gn,rfl,ag,ee⟩
   refine⟨_,rfl,ag,?_⟩
   have jl:=ag.size
   have iy:=iu.trans ag
   have iz:=iv.trans ag
   have ch:=cc.ext (As<|AW 153 6) ag
   have ci:=cd.ext (o1) ag
   have cj:=av.ext (o1) ag
   have ck:=ce.ext (o1) ag
   have cl:=a6.ext (o1) ag
   have cm:=cf.ext (o1) ag
   have cn:=cg.ext ag
   refine Au 37 [] [] [vo,gn] Z Z bV Aa (Nh _ _ _ _ _ ci.rd1 ee.rd1 (by rw[EW];omega) (by rw[Kp,List.length_map,Eu,EW])) ?_
   rintro kf kg ⟨go,rfl,ai,ef⟩
   refine⟨_,rfl,ai,?_⟩
   have jm:=ai.size
   have j0:=iy.trans ai
   have j1:=iz.trans ai
   have co:=ch.ext (As<|AW 153 6) ai
   have cp:=cj.ext (o1) ai
   have cq:=ck.ext (o1) ai
   have cr:=cl.ext (o1) ai
   have ct:=cm.ext (o1) ai
   have cu:=cn.ext ai
   exact Ac 1 Z<|Ab _ [0,0,0] Z<|Ad 1 Z<|AN ((i+1:Nat):Int) Z Z (Bg oM sD) Aa<|Ac 1 Z ⟨(i+1,go),_,rfl,zR,⟨j0,co,(by rw[← SS];exact(ef.up o1).low oM),cp,cq,cr,ct,cu,j1,oM,oM,oM,oM⟩,zD⟩
  refine AE false Z Z (A6 gm) Aa<|Aj<|Ai Z<|A4<|Aw<|Aw<|Aq<|cP [0,0,3,0] Z<|Ad 2 Z<|Au 22 [] [] [vo,a8] Z Z bQ Aa (LX _ _ _ _ _ di.rd1 dm.rd1) ?_
  rintro kh DK ⟨rfl,dx⟩
  refine⟨_,rfl,dx,?_⟩
  have jn:=dx.size
  have j2:=ec.trans dx
  have k4:=dn.trans dx
  rw[show(decide ((QO pD fD.toNat aD bD ws i)=(H0 (Iw 2 f4 f0 ws (Df aD bD 2)))))=true from A5 (by rw[show i=f0.length from by omega];exact hRc.th_end hlb.2)]
  exact Ac 1 Z<|A1<|Af [4] Z (.bool true) Z ⟨rfl,j2⟩
 exact Ag (by first|rfl|exact zW j3)<|cQ Z<|A1<|An<|Af [4] Z (.bool true) Z ⟨rfl,gu⟩
end
end Go.Proofs.YtbajepcpgncekaaGreat
