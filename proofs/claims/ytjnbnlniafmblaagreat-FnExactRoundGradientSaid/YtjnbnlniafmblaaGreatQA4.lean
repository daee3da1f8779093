/- Yb, Yc, Yd, Ye, Yr, Yt, Vi, Vj, Vk, Vl, Vn, Vo: texts of this claim, joined; what the claim does not come to is left out. -/
import Derived.Test.YtjnbnlniafmblaaGreatQA3
import Derived.Test.YtjnbnlniafmblaaGreatProg
set_option linter.unusedVariables false
set_option linter.unusedSimpArgs false
namespace Go.Proofs.YtjnbnlniafmblaaGreat
open Go Go.RowKit
section
set_option maxHeartbeats 4000000
set_option maxRecDepth 100000
attribute [local irreducible] LW
theorem VU:∀F d,YO F d:=by
 intro F
 induction F using Nat.strongRecOn with
 |_ F ihF =>
  intro d
  induction d using Nat.strongRecOn with
  |_ d ihd =>
   intro w S g vp dp ip s0 c0 p T ve ex vv env hS hgS a0 hp hip a1 a2 hbd hex henv hqenv hvp hF hwf hdp hen
   exact I7 w S F g vp dp ip s0 c0 p T d ve ex vv env hS hgS a0 hp hip a1 a2 hbd hex henv hqenv hvp hF hwf hdp hen ihF ihd
theorem VV (F d:Nat):ZW F d:=OY F d fun d' _=>VU F d'
theorem Qb {p:Prop}(h:p:=by have h9:=hm;rw[hSd]at h9;have:=A9 h9;omega):p:=h
theorem SK {p:Prop}(h:p:=by simp only[zc,zf,zh];rfl):p:=h
theorem M4 (w:World)(dp:Nat)(vp:Value)(p:List Fn)(f:Int)(va:Value)(a:Sr)(hp:RP [] dp w.heap vp p)(_hf:Bk f)(ha:RN [] (B5 rI) w.heap va a)(hok:H2 p=true)(hz:Qj p)(hf:0≤f∧f<(p.length:Int))(hl:(a.length:Int)=(p.getD f.toNat Fn.zero).params)(hna:B9 a=true) :
  Calls Tryz.prog 12 #[(.agg #[vp]),zI f,va] w (fun e w'=>∃(i0:Int) (vc vg vo:Value) (xs:Sr) (T':Tp) (s1:Nat) (c1:Int),e=.returned (.tuple #[.agg #[zI i0,vc,vg,vo],zI c1])∧AF w w'∧AM (Kc p f.toNat a) (xs,T') s1 c1∧(0≤c1∧c1≤9)∧(∀u∈[vc,vg,vo],u.cells=#[u]∧u.oneCell'=true)∧Bk i0∧(c1=0→i0=(p.getD f.toNat Fn.zero).params∧FT T' s1∧s1≤3000∧xs.length=(p.getD f.toNat Fn.zero).outs.length∧FD T' xs∧RG w.heap.size (Cj 4 Jy) w'.heap vc T'.code∧RG w.heap.size (Cj 2 Jz) w'.heap vg T'.grd∧RG w.heap.size (B5 rI) w'.heap vo xs)):=by
 refine As [.agg #[vp],zI f,va] 87 Tryz.func12 Z Z sM ?_
 have dq:AF w w:=AF.refl w
 have f7:=hp.lenle
 unfold maxLen at f7
 have f8:=ha.lenL
 unfold maxLen at f8
 have hvp:=HS hok
 have fu:=hvp.par f.toNat oM
 have fv:=hvp.outs f.toNat oM
 have hi:O0 p f=0:=by unfold O0;rw[if_pos hok,if_pos oM]
 refine ZN [3,3,0] Z (Bj (cs:=#[vp]) Z Aa fun w1 cj e8 cf=>?_)
 have ck:=cj.size
 have dr:=dq.trans cj
 replace cf:BX w1.heap w.heap.size [vp]:=cf
 have ey:=cf.lt
 refine Br (z:=.agg #[zI 0,zN,zN,zN]) U1 Aa fun w2 cg e9 cl=>?_
 have cm:=cg.size
 have cn:=dr.trans cg
 have aq:=cf.ext cg
 replace cl:BX w2.heap w1.heap.size [zI 0,zN,zN,zN]:=cl
 refine Ac 1 Z<|ZN [2,0,3,0] Z<|AJ (p:=zP w.heap.size) (.inr Z) [vp] Df Z (fun fi ba=>LD.of_box<|BX.ext (w:=w2) aq ba) Z Aa<|Ad 1 Z<|Am 56 [] [] [.agg #[vp],zI f] Z Z XB Aa (If _ dp vp (p) _ (hp.ext (Al<|Ax dp) cn) _hf hz) ?_
 rintro e4 w4 ⟨rfl,b8⟩
 refine⟨_,rfl,b8,?_⟩
 have co:=b8.size
 have bb:=cn.trans b8
 have ar:=aq.ext b8
 have bc:=cl.ext b8
 refine Ac 1 Z<|A0<|ZN [0,0,0,0,0,2,0,0,0,2,3,0,0] Z<|Ad 1 Z ?_
 have ea:O0 p f=((0:Nat):Int):=hi
 refine Ap true Z Z (A5 ea) Aa<|Ad 2 Z<|Ak (p:=zP w.heap.size) 0 BA Z Z (Ag (e:=18) Z Z Z)<|Ae (p:=An (zP w.heap.size) 0) (.inr Z) vp C5 Z (ar.ldp (i:=0) sM) (Ag (e:=18) Z Z Z)<|Ad 1 Z<|Au (v:=vp) ((f).toNat) Fq C9 Z Z hp.isSl oM sD (Ag (e:=18) Z Z Z) ?_
 obtain⟨cs6,eb,ch⟩:=hp.get (Ax dp) Fn.zero (k:=(f).toNat) sD
 obtain⟨ez,rfl,ds⟩:=RF.of eb
 have bd:=ds.rn.lenle
 unfold maxLen at bd
 refine AD (p:=Aw vp ((f).toNat) 3) 1 Ct Z (ch _<|AA.of_ext [] bb) (Ag (e:=18) Z Z Z)<|Ae (p:=An (Aw vp ((f).toNat) 3) 1) (.inr Z) (zI<|(p.getD ((f).toNat) Fn.zero).params) AC Z ((ch _<|AA.of_ext [] bb).ld (i:=1) (by simp[DQ,DU])) (Ag (e:=18) Z Z Z)<|Am 57 [] [] [va,zI<|(p.getD ((f).toNat) Fn.zero).params] Z Z TV (Ag (e:=18) Z Z Z) (Dg _ _ _ _ (ha.ext g1 bb).rd ds.rng) ?_
 rintro e7 w7 ⟨rfl,b9⟩
 refine⟨_,rfl,b9,?_⟩
 have cp:=b9.size
 have ci:=bb.trans b9
 have ae:=ar.ext b9
 have au:=bc.ext b9
 rw[show(decide ((a.length:Int)=((p.getD ((f).toNat) Fn.zero).params)) && B9 a)=true from(by rw[A5 oM,hna];rfl)]
 refine Bd false Z Z (Ag (e:=18) Z Z Z)<|Ac 1 Z<|Ai Z<|A2<|A0<|ZN [0,0] Z<|Ad 1 Z ?_
 have ec:¬(O0 p f≠((0:Nat):Int)):=(fun h9=>h9 hi)
 refine AU false Z Z (A6 ec) Aa<|Aj<|Ai Z<|A2<|A0<|AO _ [1,0,1,0,0,0,1,0,0,3,0] mixed (by kernel_rfl)<|AJ (p:=zP w.heap.size) (.inl Z) [vp] Df Z (fun fi ba=>LD.of_box<|BX.ext (w:=w7.drew) ae ba) Z Aa<|Ak (p:=zP w.heap.size) 0 BA Z Z Aa<|Ae (p:=An (zP w.heap.size) 0) (.inl Z) vp C5 Z (ae.ldp (i:=0) sM) Aa<|Ad 1 Z ?_
 refine Au (v:=vp) ((f).toNat) Fq C9 Z Z hp.isSl oM sD Aa<|AD (p:=Aw vp ((f).toNat) 3) 1 Ct Z (ch _<|AA.of_ext [] ci.drew) Aa<|Ae (p:=An (Aw vp ((f).toNat) 3) 1) (.inl Z) (zI<|(p.getD ((f).toNat) Fn.zero).params) AC Z ((ch _<|AA.of_ext [] ci.drew).ld (i:=1) (by simp[DQ,DU])) Aa ?_
 have cq:∀(wq:World),(Instr.build 39 #[(0,zI ((p.getD ((f).toNat) Fn.zero).params))]).run Tryz.prog wq=.ok (.agg #[zI ((p.getD ((f).toNat) Fn.zero).params),zN,zN,zN]) wq:=by intro wq;kernel_rfl
 refine CI (ps:=#[(0,zI<|(p.getD ((f).toNat) Fn.zero).params)]) (.agg #[zI<|(p.getD ((f).toNat) Fn.zero).params,zN,zN,zN]) SK (fun wq=>cq  wq) Aa ?_
 have be:∀(vp:Value) (f2:Nat) (h10_0:Fu vp f2) (wq:World),(Instr.build 104 #[(0,.agg #[vp]),(1,.agg #[zI ((p.getD ((f).toNat) Fn.zero).params),zN,zN,zN])]).run Tryz.prog wq=.ok (.agg #[vp,zI ((p.getD ((f).toNat) Fn.zero).params),zN,zN,zN,zN,zI 0,zI 0]) wq:=by intro vp f2 h10_0 wq;obtain⟨a10_0,fj,rfl,_⟩:=h10_0;kernel_rfl
 refine CI (ps:=#[(0,.agg #[vp]),(1,.agg #[zI<|(p.getD ((f).toNat) Fn.zero).params,zN,zN,zN])]) (.agg #[vp,zI<|(p.getD ((f).toNat) Fn.zero).params,zN,zN,zN,zN,zI 0,zI 0]) SK (fun wq=>be vp _ hp.isSl wq) Aa ?_
 have ed:=ae.lt
 have ee:=au.lt
 refine Bj (cs:=#[vp,zI<|(p.getD ((f).toNat) Fn.zero).params,zN,zN,zN,zN,zI 0,zI 0]) Z Aa fun f0 a9 cr ak=>?_
 replace a9:=a9.of_drew
 have bf:=a9.size
 have bg:=ci.trans a9
 have av:=ae.ext a9
 have aw:=au.ext a9
 replace ak:BX f0.heap w7.drew.heap.size [vp,zI ((p.getD ((f).toNat) Fn.zero).params),zN,zN,zN,zN,zI 0,zI 0]:=ak
 refine Ac 1 Z<|ZN [3,0] Z ?_
 obtain⟨S,hSd⟩:∃S:List Nat,S=[w7.heap.size]:=⟨_,rfl⟩
 have hgS:w7.heap.size∈S:=by rw[hSd];exact List.mem_singleton.2 Z
 have hlr:w7.heap.size<f0.heap.size:=BX.lt ak
 have hMb:BG 46 177 2 S w7.heap.size f0.heap zN zN zN (Gu a 0):=BG.nil
 have hGb:Dy S S w f0:=⟨fun _ h=>h,fun b hb=>.inl hb,fun b hb=>by rw[hSd]at hb;have:=A9 hb;omega,AA.of_ext S bg⟩
 have hEb:AA S w f0:=hGb.chg
 have hSn:∀b∈S,w.heap.size≤b:=fun b hb=>by rw[hSd]at hb;have:=A9 hb;omega
 have hBb:BX f0.heap w7.heap.size [vp,zI ((p.getD f.toNat Fn.zero).params),zN,zN,zN,zN,zI ((0:Nat):Int),zI ((0:Nat):Int)]:=ak
 have ax:RN S (Cj 3 (QG dp)) w.heap vp p:=by rw[hSd];exact RN.add (Al (Ax dp)) hp (fun b hb=>zH<|A9 hb)
 have ay:RN S (B5 rI) w.heap va a:=by rw[hSd];exact RN.add g1 ha (fun b hb=>zH<|A9 hb)
 refine Cp (rI) AK Bl BD Aa fun fo fk a4 ct bh=>?_
 have bi:f0.heap.size≤fk.heap.size:=a4.size
 have bj:AA S w fk:=hEb.ext a4
 have az:=av.ext a4
 have b0:=aw.ext a4
 have b1:=hBb.ext a4
 have bk:=BG.ext hMb a4
 have bl:=hGb.ext a4
 refine Ac 1 Z<|A0<|ZN [0,0,0] Z<|Ad 1 Z<|AP (v:=va) Bl Z ay.slL Aa<|Ac 1 Z<|A3 ?_
 have hBO:w.heap.size≤f0.heap.size∧w7.heap.size<f0.heap.size:=by omega
 have bm:w.heap.size∉S:=fun hm=>Qb
 have bn:w1.heap.size∉S:=fun hm=>Qb
 obtain⟨Fo0,bo⟩:=Ow.of_fr bh (A7 _)
 have cu:∀b∈Fo0,b∉S:=fun b hb hm=>by have:=bo.low b hb;have:=hGb.lt b hm;omega
 have hMs:=bk
 have hGs:=bl
 have hnswheaps:w.heap.size∉S:=fun hm=>Qb
 have hnsw1heap:w1.heap.size∉S:=fun hm=>Qb
 refine AT (S:=Nat×Value×Sr×List Nat×List Nat×Value×Value×Value) (fun⟨k,vo,xs,Fo,S9,f9,vg9,vv9⟩=>([(10,vo),(46,zI (k:Int)),(1,zI f),(3,zP w.heap.size),(6,zP w1.heap.size),(9,zP w7.heap.size),(44,va),(45,zI (a.length:Int))])) (fun⟨k,vo,xs,Fo,S9,f9,vg9,vv9⟩ W=>AA S w W∧BX W.heap w.heap.size [vp]∧BX W.heap w1.heap.size [zI 0,zN,zN,zN]∧BX W.heap w7.heap.size [vp,zI (p.getD f.toNat Fn.zero).params,f9,vg9,zN,vv9,zI ((0:Nat):Int),zI ((0:Nat):Int)]∧k≤a.length∧f0.heap.size≤W.heap.size∧Dy S S9 w W∧BG 46 177 2 S9 w7.heap.size W.heap f9 vg9 vv9 (Gu a k)∧Ow (Bo rI 2) f0.heap.size W.heap.size W.heap vo xs Fo∧(∀b∈Fo,b∉S9)∧xs=Fd k∧w.heap.size∉S9∧w1.heap.size∉S9) (fun⟨k,vo,xs,Fo,S9,f9,vg9,vv9⟩=>a.length-k) (0,fo,[],Fo0,S,zN,zN,zN) ⟨rfl,rfl,rfl,rfl,rfl,rfl,rfl,rfl,trivial⟩ ⟨bj,az,b0,b1,oM,oM,hGs,hMs,bo,cu,(by rfl),bm,bn⟩ ?_
 clear dq e8 cj ck dr e9 cg cm cn b8 co bb bd b9 cp ci cr a9 bf bg bh ct a4 bi bj bk bl
 rintro⟨k,vo,xs,Fo,S9,f9,vg9,vv9⟩ ρ21 fa ⟨a5,a3,aa,ab,cv,hbw,hGl,hMl,hOl,hdl,hxe,af,ag⟩
 have dt:w.heap.size≤fa.heap.size:=a5.size
 have ef:=a3.lt
 have eg:=aa.lt
 have eh:=ab.lt
 refine ZN [0] Z ?_
 by_cases bp:(k:Int)<(a.length:Int)
 ·refine AE true Z Z (A5 bp) Aa<|Aj<|A0<|Ah Z<|A2<|A0<|A3<|ZN [0,0,2,0,0] Z ?_
  have hak:=BY hna k
  have hvk:=G7 a k
  have hxk:xs.length=k:=by rw[hxe,Do]
  refine Ad 1 Z<|Au (v:=va) k Bl BD Z Z ay.slL Z sD Aa ?_
  have bq:=RN.getI (w:=w) (k:=k) ay sD
  refine Ae (p:=Aw va k 1) (.inr Z) (zI<|a.getD k 0) AC Z (bq.1 _ a5) Aa<|Ac 2 Z<|Ab _ [0,0,0,0,0,4,3,4,0] Z<|Ad 3 Z ?_
  have br:∀(wq:World),(Instr.build 46 #[(0,zI ((1:Nat):Int)),(3,zI (k:Int))]).run Tryz.prog wq=.ok (.agg #[zI ((1:Nat):Int),zI 0,zI 0,zI (k:Int)]) wq:=by intro wq;kernel_rfl
  refine CI (ps:=#[(0,zI ((1:Nat):Int)),(3,zI (k:Int))]) (.agg #[zI ((1:Nat):Int),zI 0,zI 0,zI (k:Int)]) SK (fun wq=>br  wq) Aa<|Ad 1 Z ?_
  refine AI 58 [] [] [zP w7.heap.size,.agg #[zI ((1:Nat):Int),zI (0:Int),zI (0:Int),zI (k:Int)],zI<|a.getD k 0] Z Z TW Aa (CK _ S9 w7.heap.size vp ((p.getD f.toNat Fn.zero).params) (0) ((0:Nat):Int) (Gu a k) (⟨((1:Nat):Int),(0:Int),(0:Int),(k:Int)⟩:Az) (a.getD k 0) (fun b hb=>(hGl.lt b hb:b<fa.heap.size)) (hGl.sub _ hgS) ⟨_,_,_,ab,hMl⟩ oM (by rw[JB,G7];omega) ⟨(show Bk ((1:Nat):Int)from by omega),(show Bk (0:Int)from by omega),(show Bk (0:Int)from by omega),(show Bk (k:Int)from by omega)⟩ bq.2) ?_
  rintro fw f6 ⟨f3,rfl,a0,fe,vg28,vv28,cw,cx⟩
  refine⟨_,rfl,?_⟩
  have du:fa.heap.size≤f6.heap.size:=a0.chg.size
  have cy:AA S w f6:=a5.stp a0.chg hGl.new
  have cz:=a3.chg a0.chg fun hm=>af hm
  have b2:w.heap.size∉f3:=fun hm=>(a0.new _ hm).elim (fun hm=>af hm) (fun h9=>by omega)
  have d0:=aa.chg a0.chg fun hm=>ag hm
  have b3:w1.heap.size∉f3:=fun hm=>(a0.new _ hm).elim (fun hm=>ag hm) (fun h9=>by omega)
  have d1:=hOl.keep (AY AK) a0.chg fun b hb hm=>hdl b hm hb
  have ai:∀b∈Fo,b∉f3:=fun b hb hm=>(a0.new b hm).elim (hdl b hb) (fun h9=>zH<|hOl.high b hb)
  have d2:=hGl.trans a0
  have dv:((Gu a k).put (⟨((1:Nat):Int),(0:Int),(0:Int),(k:Int)⟩:Az) (a.getD k 0)).vals.length=(Gu a k).vals.length+1:=E4 _ _ _
  have dw:((Gu a k).put (⟨((1:Nat):Int),(0:Int),(0:Int),(k:Int)⟩:Az) (a.getD k 0)).grd.length=(Gu a k).grd.length:=rfl
  refine (By (u:=zI (((Gu a k).vals.length:Nat):Int)) (B:=f6.heap.size) AK Bl BD Z Z (Mb f6.heap.size f6.heap.size _ _ oM) (A7 _) Aa ?_)
  intro fp ff a6 ei d3
  have dx:f6.heap.size≤ff.heap.size:=a6.size
  have d4:AA S w ff:=cy.ext a6
  have al:=cz.ext a6
  have am:=d0.ext a6
  have an:=cw.ext a6
  have d5:=BG.ext cx a6
  have bs:=d2.ext a6
  have hO38k:=d1.ext (AY AK) a6
  refine ER (v:=vo) (a:=fp) Bl BD Z Z Z hO38k d3.rd1 oM sD (by unfold maxLen;first|omega|assumption|(simp;done)|(simp;omega)) Aa fun fq fl fm ac ej d6=>?_
  have dy:ff.heap.size≤fl.heap.size:=ac.size
  have d7:AA S w fl:=d4.fresh ac (fun c hc=>zH<|hO38k.low c hc)
  have ek:∀b∈fm,b∉f3:=fun b hb hm=>(d6 b hb).elim (fun h9=>ai b h9 hm) (fun h9=>zH<|bs.lt b hm)
  have d8:=BG.chgO d5 ac ai
  have d9:=bs.fresh ac fun c hc=>zH<|hO38k.low c hc
  have da:=al.chg ac fun hm=>zH<|hO38k.low _ hm
  have db:=am.chg ac fun hm=>zH<|hO38k.low _ hm
  have dc:=an.chg ac fun hm=>zH<|hO38k.low _ hm
  refine Ac 1 Z<|Ab _ [0,0] Z<|AQ ((k+1:Nat):Int) Z Z (Be oM oM) Aa<|Ac 1 Z ?_
  have hMe:=d8
  have hGe:=d9
  have bt:w.heap.size∉f3:=fun hm=>b2 hm
  have bu:w1.heap.size∉f3:=fun hm=>b3 hm
  exact⟨(k+1,fq,xs++[(((Gu a k).vals.length:Nat):Int)],fm,f3,fe,vg28,vv28),_,rfl,zR,⟨d7,da,db,dc,oM,oM,hGe,hMe,(by assumption),(by assumption),(by rw[hxe,G7];exact(L1 k).symm),bt,bu⟩,zD⟩
 refine AE false Z Z (A6 bp) Aa<|Aj<|A0<|Ai Z<|A4<|Ay<|Ay<|At<|ZN [0,0,0,2,0,0,0,2,0,4,0,0,0,4] Z ?_
 have hkl:k=a.length:=by omega
 refine Ad 2 Z<|Ak (p:=zP w.heap.size) 0 BA Z Z Aa<|Ae (p:=An (zP w.heap.size) 0) (.inr Z) vp C5 Z (a3.ldp (i:=0) sM) Aa<|Ad 1 Z<|Au (v:=vp) ((f).toNat) Fq C9 Z Z ax.isSl oM sD Aa ?_
 obtain⟨cs46,dd,bv⟩:=ax.get (Ax dp) Fn.zero (k:=(f).toNat) sD
 obtain⟨b4,rfl,bw⟩:=RF.of dd
 have bx:=bw.rn.lenle
 unfold maxLen at bx
 refine AD (p:=Aw vp ((f).toNat) 3) 2 BQ Z (bv _ a5) Aa<|Ae (p:=An (Aw vp ((f).toNat) 3) 2) (.inr Z) b4 Ba Z ((bv _ a5).ld (i:=2) (by simp[DQ,DU])) Aa<|Ad 1 Z ?_
 refine AI 59 [] [] [zP w7.heap.size,b4,vo] Z Z VN Aa (VV f.toNat dp _ S9 w7.heap.size vp dp ((p.getD f.toNat Fn.zero).params) (0) ((0:Nat):Int) p (Gu a k) b4 ((p.getD ((f).toNat) Fn.zero).outs) vo (xs) (fun b hb=>(hGl.lt b hb:b<fa.heap.size)) (hGl.sub _ hgS) ⟨_,_,_,ab,hMl⟩ (RN.stp (Al<|Ax dp) ax a5 hGl.new) oM oM oM (by rw[hkl];exact Rn hna oM) (RN.stp (Al<|Aq dp) bw.rn a5 hGl.new) (RN.of_ow hOl hdl) hOl.fr.cap hvp oM (by intro j hj;have h9:=hvp.wf f.toNat oM j hj;rw[hxe,Do,hkl,hl];exact h9) (by intro j hj;have h9:=hvp.deep f.toNat oM j hj;rw[hxe,Do];omega) oM (by exact fun _=>by rw[hxe];exact Ro a k)) ?_
 rintro fx fc ⟨fb,fs,fd,fy,ft,f4,rfl,a1,⟨f1,vg47,vv47,de,df⟩,bz,c0,dz,c2,c3,c4⟩
 refine⟨_,rfl,?_⟩
 have e0:fa.heap.size≤fc.heap.size:=a1.chg.size
 have dg:AA S w fc:=a5.stp a1.chg hGl.new
 have dh:=a3.chg a1.chg fun hm=>af hm
 have di:w.heap.size∉fd:=fun hm=>(a1.new _ hm).elim (fun hm=>af hm) (fun h9=>by omega)
 have dj:=aa.chg a1.chg fun hm=>ag hm
 have aj:w1.heap.size∉fd:=fun hm=>(a1.new _ hm).elim (fun hm=>ag hm) (fun h9=>by omega)
 have b5:=hOl.keep (AY AK) a1.chg fun b hb hm=>hdl b hm hb
 have dk:∀b∈Fo,b∉fd:=fun b hb hm=>(a1.new b hm).elim (hdl b hb) (fun h9=>zH<|hOl.high b hb)
 have c5:=hGl.trans a1
 have e1:=bz.bnd
 have e2:=bz.num
 have hKr:=c4
 have hKb:=c3
 have hKl:=c2
 rw[hxe,hkl]at hKr
 replace hKr:=AM.go0 hKr
 have c6:=c0.rn
 refine Bb Z Aa<|Ak (p:=zP w7.heap.size) 1 FU Z Z Aa<|Ak (p:=An (zP w7.heap.size) 1) (b:=w7.heap.size) (o:=1) 3 Em Z Z Aa (BH (k:=4) (w:=fc) H8 Z Z (Bn c6.slL) de sM Aa fun f5 a7 el ad=>?_)
 replace ad:BX f5.heap w7.heap.size [vp,zI ((p.getD f.toNat Fn.zero).params),f1,vg47,fb,vv47,zI (ft:Int),zI f4]:=ad
 have c7:AA S w f5:=dg.trans (a7.sub (B2 hgS))
 have ao:=BG.chg df a7
 have c8:=c5.set hgS a7
 have e3:fc.heap.size≤f5.heap.size:=a7.size
 have c9:=dh.chg a7 (zB ·)
 have ca:=dj.chg a7 (zB ·)
 have ah:=b5.keep (AY AK) a7 fun b hb hm=>by have:=A9 hb;have:=b5.low _ hm;have:=b5.high _ hm;omega
 have hF63l:=c0.upd g1 a7 fun b hb=>by rw[A9 hb];exact .inl (c5.sub _ hgS)
 have dl:=hF63l.rn
 refine Aj<|A0<|ZN [0,0,0,2,0] Z<|Ad 1 Z<|Bb Z Aa<|Ak (p:=zP w7.heap.size) 7 Fl Z Z Aa<|Ae (p:=An (zP w7.heap.size) 7) (.inr Z) (zI f4) AC Z (ad.ldp (i:=7) sM) Aa ?_
 by_cases cb:f4≠((0:Nat):Int)
 ·refine AU true Z Z (A5 cb) Aa<|Aj<|Ah Z<|A0 ?_
  letI:JR:=X7 [w1.heap.size]
  refine Jx.AO _ [0,0,0,0,1,3,0] mixed (by kernel_rfl)<|Jx.j1 ?_
  have cc:∀(wq:World),(Instr.build 39 #[]).run Tryz.prog wq=.ok (.agg #[zI 0,zN,zN,zN]) wq:=by intro wq;kernel_rfl
  refine CI (ps:=#[]) (.agg #[zI 0,zN,zN,zN]) (by simp only[zc,zf,zh]) (fun wq=>cc  wq) Aa<|Aj<|Jx.V6 (zP w7.heap.size) Z Aa<|Jx.j1<|Bb Z Aa<|Aj<|Jx.Ak (p:=zP w7.heap.size) 7 Fl Z Z Aa<|Jx.YX (p:=An (zP w7.heap.size) 7) (zI f4) AC Z (fun wj hj=>(BX.chg (w:=f5.drew) (F:=[w1.heap.size]) ad hj (zB ·)).ldp (i:=7) sM) Aa<|Jx.ZR ?_
  refine Ce (vs:=[zI (0:Int),zN,zN,zN]) E8 Z Z (by intro u hu;simp only[ze,z2,or_false]at hu;rcases hu with rfl|rfl|rfl|rfl <;> first|exact⟨rfl,rfl⟩) ca Z Z Aa fun fg a2 em b6=>?_
  replace a2:=a2.of_drew
  replace b6:BX fg.heap w1.heap.size [zI (0:Int),zN,zN,zN]:=b6
  have en:AA S w fg:=c7.fresh a2 (fun _ h=>zE h)
  have eo:=BG.chgO ao a2 fun b hb hm=>by rw[A9 hb]at hm;exact aj hm
  have dm:=c8.fresh a2 fun _ h=>zE h
  have e5:f5.heap.size≤fg.heap.size:=a2.size
  have ep:=c9.chg a2 (zB ·)
  have eq:=ad.chg a2 (zB ·)
  have er:=ah.keep (AY AK) a2 fun b hb hm=>by have:=A9 hb;have:=ah.low _ hm;have:=ah.high _ hm;omega
  have hF73l:=hF63l.upd g1 a2 fun b hb=>by rw[A9 hb];(right;omega)
  have es:=hF73l.rn
  refine Aj ⟨AA.drewL a2,?_⟩
  exact Jx.QC (zI f4) Z Aa<|Jx.Aj<|A1<|Ao<|Mm (t0:=7) (ts:=[]) (cs:=[zI (0:Int),zN,zN,zN]) [zI f4] Z E8 Z b6 Z Z ⟨_,_,_,_,_,_,_,_,rfl,AA.toExt dm.chg hSn,hKr,oM,(by intro u hu;simp only[ze,z2,or_false]at hu;rcases hu with rfl|rfl|rfl <;> exact⟨rfl,rfl⟩),(by show Bk _;unfold Bk;omega),(fun h9=>absurd h9 oM)⟩
 refine AU false Z Z (A6 cb) Aa<|Aj<|Ai Z<|A2<|ZN [0,0,0,2,4,0] Z<|Ad 1 Z<|Bb Z Aa<|Ak (p:=zP w7.heap.size) 1 FU Z Z Aa<|AJ (p:=An (zP w7.heap.size) 1) (.inr Z) [zI<|(p.getD f.toNat Fn.zero).params,f1,vg47,fb] E8 Z (fun fi ba=>LD.part (BX.ext (w:=f5) ad ba) (by show(5:Nat)≤8;decide) (by intro i hi;match i,hi with|0,_=>rfl|1,_=>rfl|2,_=>rfl|3,_=>rfl)) Z Aa ?_
 refine Ce (vs:=[zI<|(p.getD f.toNat Fn.zero).params,f1,vg47,fb]) E8 Z Z (by intro u hu;simp only[ze,z2,or_false]at hu;rcases hu with rfl|rfl|rfl|rfl <;> first|exact⟨rfl,rfl⟩|exact Bn (BG.slc ao)|exact Bn (BG.slg ao)|exact Bn dl.slL) ca Z Z Aa fun fh a8 et b7=>?_
 replace b7:BX fh.heap w1.heap.size [zI ((p.getD f.toNat Fn.zero).params),f1,vg47,fb]:=b7
 have eu:AA S w fh:=c7.fresh a8 (fun _ h=>zE h)
 have ap:=BG.chgO ao a8 fun b hb hm=>by rw[A9 hb]at hm;exact aj hm
 have cd:=c8.fresh a8 fun _ h=>zE h
 have e6:f5.heap.size≤fh.heap.size:=a8.size
 have ev:=c9.chg a8 (zB ·)
 have ew:=ad.chg a8 (zB ·)
 have ex:=ah.keep (AY AK) a8 fun b hb hm=>by have:=A9 hb;have:=ah.low _ hm;have:=ah.high _ hm;omega
 have hF81l:=hF63l.upd g1 a8 fun b hb=>by rw[A9 hb];(right;omega)
 have dn:=hF81l.rn
 refine Ac 1 Z<|A1 ?_
 have ce:∀b∈fd,w.heap.size≤b:=fun b hb=>(cd.new b hb).elim (hSn b) id
 exact Mm (t0:=7) (ts:=[]) (cs:=[zI<|(p.getD f.toNat Fn.zero).params,f1,vg47,fb]) [zI ((0:Nat):Int)] Z E8 Z b7 Z Z ⟨_,_,_,_,_,_,_,_,rfl,AA.toExt cd.chg hSn,(by have h9:=hKr;rwa [show f4=((0:Nat):Int)from by omega]at h9),oM,(by intro u hu;simp only[ze,z2,or_false]at hu;rcases hu with rfl|rfl|rfl;exact Bn (BG.slc ap);exact Bn (BG.slg ap);exact RN.one1 g1 dn),(by show Bk _;unfold Bk;omega),(fun _=>⟨rfl,by assumption,zO,hKl,hKb oM,(BG.readsG ap ce).1,(BG.readsG ap ce).2,Or.rg hF81l oM⟩)⟩
theorem Gz (w:World)(n:Int)(vo:Nat)(ord:Int)(_hn:Bk n)(hcord:He w.heap (zP vo)=some (zI ord))(_hord:Bk ord)(ho:0≤ord∧ord≤12) :
  Calls Tryz.prog 171 #[zI n,zP vo] w (fun e w'=>∃v0:Value,e=.returned (v0)∧AF w w'∧Fr (Bo rI 2) w.heap.size w'.heap.size w'.heap v0 (HQ (ord.toNat+1) n)):=by
 refine As [zI n,zP vo] 12 Tryz.func171 Z Z sM ?_
 have a0:AF w w:=AF.refl w
 refine ZO Z<|ZN [2,0,3,0] Z<|Ae (.inr Z) (zI ord) Sp Z (Bc a0 hcord) Aa<|AQ ((ord.toNat+1:Nat):Int) Z Z (Be oM oM) Aa (Fx (n:=ord.toNat+1) Bl BD Z Z Z sD Aa fun v1 w1 a1 aa a2=>?_)
 have a5:=a1.size
 have a3:=a0.trans a1
 refine Ac 1 Z<|ZN [0,0,0,4] Z<|Ad 2 Z<|Au (v:=v1) 0 Bl BD Z Z a2.isSl Z sM Aa (GG (v:=v1) (w:=w1) I3 Z Z _hn a2 sM Aa fun w2 F2 a4 ab a6 a7=>?_)
 have a8:AF w w2:=a4.below a3 (fun c hc=>A8 (A7 _) (a6 c hc).1) a3.size
 have a9:w1.heap.size≤w2.heap.size:=a4.size
 exact Aj<|ZN [0,0] Z<|Ac 2 Z<|A1<|Af [3] Z v1 Z ⟨v1,rfl,a8,a7.up o1⟩
theorem Iu {p:Prop}(h:p:=by first|(rw[C8 oM,MX oM];exact⟨_,_,by assumption⟩)|(rw[C8 oM,L7 oM];exact⟨_,_,by assumption⟩)|(rw[C8 oM,L8 oM];exact⟨_,_,by assumption⟩)|(rw[C8 oM,L9 oM];exact⟨_,_,by assumption⟩)|(rw[C8 oM,La oM];exact⟨_,_,by assumption⟩)|(rw[C8 oM,Lb oM];exact⟨_,_,by assumption⟩)|(rw[C8 oM,Lc oM];exact⟨_,_,by assumption⟩)):p:=h
theorem Iv {p:Prop}(h:p:=by unfold maxLen;first|omega|assumption|(simp only[zb,z9,z4,z6,z5];omega)|(simp[zb,z9,z4,z6,z5];done)|(simp[zb,z9,z4,z6,z5];omega)):p:=h
theorem Iw {p:Prop}(h:p:=by first|exact TF hzk oM|exact TG hzk oM):p:=h
theorem Ix {p:Prop}(h:p:=by exact PC hR hsA (hform k hkl) hkl):p:=h
theorem Hb (w:World)(ipT:Int)(vtc vtg vtx:Value)(T:Tp)(oT:Sr)(va:Value)(A:List (Sr))(ord:Int)(_hipT:Bk ipT)(htcT:RN [] (Cj 4 Jy) w.heap vtc T.code)(htgT:RN [] (Cj 2 Jz) w.heap vtg T.grd)(htoT:RN [] (B5 rI) w.heap vtx oT)(hA:RN [] (B5 (B5 rI)) w.heap va A)(hqA:BV va)(_hord:Bk ord)(ho:0≤ord∧ord≤12)(hsA:C7 (ord.toNat+1) A)(hform:∀k,k<T.code.length→DI A.length k (T.code.getD k Az.zero))(hlt:T.code.length≤4000) :
  Calls Tryz.prog 120 #[(.agg #[(zI ipT),vtc,vtg,vtx]),va,zI ord] w (fun e w'=>∃(v0:Value) (c1:Int),e=.returned (.tuple #[v0,zI c1])∧AF w w'∧Xp (ord.toNat+1) A T.code c1∧(c1=0→RN [] (B5 (B5 rI)) w'.heap v0 (BR (ord.toNat+1) A T.code)∧BV v0)):=by
 refine As [.agg #[zI ipT,vtc,vtg,vtx],va,zI ord] 109 Tryz.func120 Z Z sM ?_
 have gp:AF w w:=AF.refl w
 have hl_vtx:=htoT.lenL
 unfold maxLen at hl_vtx
 have f1:=hA.lenL
 unfold maxLen at f1
 have hS:∀b∈([]:List Nat),b<w.heap.size:=fun b hb=>by cases hb
 refine ZN [3,3,0,0] Z (Bj (cs:=#[zI ipT,vtc,vtg,vtx]) Z Aa fun w1 dx im dt=>?_)
 have dy:=dx.size
 have gq:=gp.trans dx
 replace dt:BX w1.heap w.heap.size [zI ipT,vtc,vtg,vtx]:=dt
 have jr:=dt.lt
 refine VH (u:=zI ord) Z Z Aa fun w2 du io dv=>?_
 have dz:=du.size
 have gr:=gq.trans du
 have bg:=dt.ext du
 replace dv:BX w2.heap w1.heap.size [zI ord]:=dv
 refine Ac 2 Z<|ZN [3,0] Z ?_
 obtain⟨BO,hBO⟩:∃b:Nat,b=w2.heap.size:=⟨_,rfl⟩
 have hwB:w.heap.size≤BO:=by omega
 have js:w.heap.size<BO:=by have:=BX.lt bg;omega
 have jt:w1.heap.size<BO:=by have:=BX.lt dv;omega
 refine Cp rV Bv Bs AV Aa fun v4 w4 ch ip e0=>?_
 have e1:=ch.size
 have gs:=gr.trans ch
 have ci:=bg.ext ch
 have cj:=dv.ext ch
 obtain⟨ju,F4,jv⟩:=GI.nil (S:=[]) (by rw[← hBO]at e0;exact e0)
 refine Ac 1 Z<|ZN [0,0] Z<|ME [] [zP w1.heap.size] Z Z Aa<|Ac 1 Z<|A0<|ZN [0,2,0,0] Z<|Ak (p:=zP w.heap.size) 1 Cb Z Z Aa<|Ae (p:=An (zP w.heap.size) 1) (.inr Z) vtc Dv Z (ci.ldp (i:=1) sM) Aa<|AP (v:=vtc) IP Z htcT.isSl Aa<|Ac 1 Z<|A3 ?_
 refine AT (S:=Nat×Value) (fun⟨k,vo⟩=>([(8,vo),(18,zI (k:Int)),(1,va),(9,.func (.func 171) #[] #[zP w1.heap.size]),(16,vtc),(17,zI (T.code.length:Int))])) (fun⟨k,vo⟩ W=>AF w W∧BX W.heap w1.heap.size [zI ord]∧k≤T.code.length∧w.heap.size≤BO∧BO≤W.heap.size∧NH 27 [] BO W.heap vo (BR (ord.toNat+1) A<|T.code.take k)∧Kd (ord.toNat+1) A T.code k∧C7 (ord.toNat+1) (BR (ord.toNat+1) A<|T.code.take k)) (fun⟨k,vo⟩=>T.code.length-k) (0,v4) ⟨rfl,rfl,rfl,rfl,rfl,rfl,trivial⟩ ⟨gs,cj,oM,oM,oM,(by exact⟨_,_,by assumption⟩),VI,(by intro j hj;simp at hj)⟩ ?_
 clear gp im dx dy gq io du dz gr e0 ip ch e1 gs
 rintro⟨k,vo⟩ ρ7 w7 ⟨dw,au,gt,gu,gv,hbld,hzk,hR⟩
 have iq:w.heap.size≤w7.heap.size:=dw.size
 have hRl:(BR (ord.toNat+1) A (T.code.take k)).length=k:=by rw[BS,List.length_take];omega
 have jw:=au.lt
 obtain⟨jx,F9,av⟩:=hbld
 have hFl:∀b∈F9,b<w7.heap.size:=av.lt
 refine ZN [0] Z ?_
 by_cases ck:(k:Int)<(T.code.length:Int)
 ·refine AE true Z Z (A5 ck) Aa<|Aj<|A0<|Ah Z<|A2<|A0<|A3<|ZN [0,2,3,4] Z ?_
  have hkl:k<T.code.length:=by omega
  refine Au (v:=vtc) k IP EM Z Z htcT.isSl Z sD Aa ?_
  obtain⟨cs11,e2,e3⟩:=htcT.get AW Az.zero (k:=k) sD
  obtain⟨rfl,e4⟩:=Hr e2
  refine AJ (p:=Aw vtc k 4) (.inr Z) [zI<|(T.code.getD k Az.zero).op,zI<|(T.code.getD k Az.zero).a,zI<|(T.code.getD k Az.zero).b,zI<|(T.code.getD k Az.zero).num] DE Z (fun fg ir=>e3 fg<|AA.of_ext []<|dw.trans ir) Z Aa ?_
  have is:=au.lt
  refine Br (z:=.agg #[zI 0,zI 0,zI 0,zI 0]) OS Aa fun f8 ai it bn=>?_
  have gw:=ai.size
  have cl:=dw.trans ai
  have aw:=au.ext ai
  have iu:=av.ext ai
  replace bn:BX f8.heap w7.heap.size [zI 0,zI 0,zI 0,zI 0]:=bn
  refine Ce (vs:=[zI<|(T.code.getD k Az.zero).op,zI<|(T.code.getD k Az.zero).a,zI<|(T.code.getD k Az.zero).b,zI<|(T.code.getD k Az.zero).num]) DE Z Z (by intro u hu;simp only[ze,z2,or_false]at hu;rcases hu with rfl|rfl|rfl|rfl <;> first|exact⟨rfl,rfl⟩) bn Z Z Aa fun f2 ay iv az=>?_
  replace az:BX f2.heap w7.heap.size [zI ((T.code.getD k Az.zero).op),zI ((T.code.getD k Az.zero).a),zI ((T.code.getD k Az.zero).b),zI ((T.code.getD k Az.zero).num)]:=az
  have e5:AF w f2:=ay.below cl (fun _ h=>zE h) cl.size
  have gx:f8.heap.size≤f2.heap.size:=ay.size
  have cm:=aw.chg ay (zB ·)
  have e6:=av.ext<|ay.below ai (fun _ h=>zE h) ai.size
  refine Aj<|ZN [0,0,2,3,0] Z<|Ad 1 Z<|Ak (p:=zP w7.heap.size) 3 Cy Z Z Aa<|Ae (p:=An (zP w7.heap.size) 3) (.inr Z) (zI<|(T.code.getD k Az.zero).num) AC Z (az.ldp (i:=3) sM) Aa<|Am 171 [] [zP w1.heap.size] [zI<|(T.code.getD k Az.zero).num,zP w1.heap.size] Z Z Y8 Aa (Gz _ _ (w1.heap.size) (ord) e4.2.2.2 (cm.ld (k:=0) sM) _hord oM) ?_
  rintro k1 f0 ⟨bh,rfl,aj,ad⟩
  refine⟨_,rfl,aj,?_⟩
  have gy:=aj.size
  have a8:=e5.trans aj
  have a2:=cm.ext aj
  have a0:=az.ext aj
  have a1:=e6.ext aj
  refine Ac 1 Z<|A0<|ZN [0,2] Z<|Ak (p:=zP w7.heap.size) 0 GR Z Z Aa<|Ae (p:=An (zP w7.heap.size) 0) (.inr Z) (zI<|(T.code.getD k Az.zero).op) AC Z (a0.ldp (i:=0) sM) Aa<|Aj<|A3<|ZN [0,0] Z ?_
  by_cases cn:(T.code.getD k Az.zero).op=((1:Nat):Int)
  ·refine Ap true Z Z (A5 cn) Aa<|Ac 1 Z<|Ah Z<|Ab _ [0,0,2,0,2,0] Z ?_
   have hio:=(hform k hkl).i1 oM
   refine Ad 1 Z<|Ak (p:=zP w7.heap.size) 3 Cy Z Z Aa<|Ae (p:=An (zP w7.heap.size) 3) (.inr Z) (zI<|(T.code.getD k Az.zero).num) AC Z (a0.ldp (i:=3) sM) Aa<|Au (v:=va) (((T.code.getD k Az.zero).num).toNat) Bs AV Z Z hA.slL oM sD Aa ?_
   obtain⟨bo,e7,bp⟩:=RN.getL (w:=w) g1 [] (k:=((T.code.getD k Az.zero).num).toNat) hA sD
   have co:=bp.lenL
   unfold maxLen at co
   refine Ae (p:=Aw va (((T.code.getD k Az.zero).num).toNat) 1) (.inr Z) bo AZ Z (e7 _<|AA.of_ext [] a8) Aa<|Ac 1 Z<|Ab _ [0,0,3,4,0] Z<|Ad 2 Z (By (u:=bo) (B:=f0.heap.size) Bv Bs AV Z Z (LN f0.heap.size f0.heap.size _<|bp.one1 g1) (A7 _) Aa fun fh fi b0 iw e8=>?_)
   have gz:=b0.size
   have bq:=a8.trans b0
   have b1:=a2.ext b0
   have b2:=a1.ext b0
   refine CX (v:=vo) (a:=fh) (u:=bo) Bs AV Z Z Z b2 oM e8 (RN.stp g1 bp (AA.of_ext [] bq) fun b hb=>.inr (zH<|b2.low b (by simpa using hb))) sD Iv Aa ?_
   rintro fj f9 G24 br cp ⟨ix,k2,iy⟩
   have i0:fi.heap.size≤f9.heap.size:=br.size
   have e9:AF w f9:=br.below bq (fun c hc=>A8 hwB (b2.low c (cp c hc))) bq.size
   have ea:=b1.chg br fun hm=>zH<|b2.low _ (cp _ hm)
   refine Ac 1 Z<|Ab _ [0,0] Z<|AQ ((k+1:Nat):Int) Z Z (Be oM sD) Aa<|Ac 1 Z ?_
   exact⟨(k+1,fj),_,rfl,zR,⟨e9,ea,oM,oM,oM,Iu,Iw,Ix⟩,zD⟩
  refine Ap false Z Z (A6 cn) Aa<|Ac 1 Z<|Ai Z<|ZN [0,0] Z ?_
  by_cases cq:(T.code.getD k Az.zero).op=((3:Nat):Int)
  ·refine Ap true Z Z (A5 cq) Aa<|Ac 1 Z<|Ah Z<|AO _ [0,0,1,0,1,0,0,1,0,1,3,0] mixed (by kernel_rfl) ?_
   have hio:=(hform k hkl).i2 oM
   have hra:=hR (T.code.getD k Az.zero).a.toNat oM
   have hrb:=hR (T.code.getD k Az.zero).b.toNat oM
   have b3:=hra.1
   have bs:=hrb.1
   refine Ad 1 Z<|Ak (p:=zP w7.heap.size) 1 Bt Z Z Aa<|Ae (p:=An (zP w7.heap.size) 1) (.inl Z) (zI<|(T.code.getD k Az.zero).a) AC Z (a0.ldp (i:=1) sM) Aa<|Au (v:=vo) (((T.code.getD k Az.zero).a).toNat) Bs AV Z Z (a1.done fun b hb=>absurd hb z2).slL oM sD Aa ?_
   obtain⟨cr,eb,bt⟩:=RN.getL (w:=f0) g1 [] (k:=((T.code.getD k Az.zero).a).toNat) (a1.done (fun b hb=>absurd hb z2)) sD
   have ct:=bt.lenL
   unfold maxLen at ct
   refine Ae (p:=Aw vo (((T.code.getD k Az.zero).a).toNat) 1) (.inl Z) cr AZ Z (eb _ (AA.refl _ _).drew) Aa<|Ad 1 Z<|Ak (p:=zP w7.heap.size) 2 Bu Z Z Aa<|Ae (p:=An (zP w7.heap.size) 2) (.inl Z) (zI<|(T.code.getD k Az.zero).b) AC Z (a0.ldp (i:=2) sM) Aa ?_
   refine Au (v:=vo) (((T.code.getD k Az.zero).b).toNat) Bs AV Z Z (a1.done fun b hb=>absurd hb z2).slL oM sD Aa ?_
   obtain⟨cu,ec,bu⟩:=RN.getL (w:=f0) g1 [] (k:=((T.code.getD k Az.zero).b).toNat) (a1.done (fun b hb=>absurd hb z2)) sD
   have cv:=bu.lenL
   unfold maxLen at cv
   refine Ae (p:=Aw vo (((T.code.getD k Az.zero).b).toNat) 1) (.inl Z) cu AZ Z (ec _ (AA.refl _ _).drew) Aa<|Am 123 [] [] [cr,cu] Z Z Og Aa (Ea _ _ _ _ _ (bt).rd (bu).rd oM oM hra.2 hrb.2) ?_
   rintro k3 f3 ⟨bi,rfl,a9,a3⟩
   refine⟨_,rfl,a9,?_⟩
   replace a9:=a9.of_drew
   have i3:=a9.size
   have ed:=a8.trans a9
   have b4:=a2.ext a9
   have ee:=a1.ext a9
   have ef:=bt.ext g1 a9
   have eg:=bu.ext g1 a9
   replace a3:=a3.low (B':=f0.heap.size)<|A7 _
   refine Ac 1 Z<|Ab _ [0,0,3,4,0] Z<|Ad 2 Z (By (u:=bi) (B:=f3.heap.size) Bv Bs AV Z Z (LN f3.heap.size f3.heap.size _<|⟨(Bh a3.isSl).1,(Bh a3.isSl).2⟩) (A7 _) Aa fun fk fl ae iz eh=>?_)
   have i4:=ae.size
   have cw:=ed.trans ae
   have b5:=b4.ext ae
   have ak:=a3.ext (o1) ae
   have bv:=ee.ext ae
   have j0:=ef.ext g1 ae
   have j1:=eg.ext g1 ae
   refine CX (v:=vo) (a:=fk) (u:=bi) Bs AV Z Z Z bv oM eh (RN.of_fr1 ak fun b hb=>zH<|hFl b (by simpa using hb)) sD Iv Aa ?_
   rintro fm fa G37 bw cx ⟨j2,k4,j3⟩
   have i5:fl.heap.size≤fa.heap.size:=bw.size
   have ei:AF w fa:=bw.below cw (fun c hc=>A8 hwB (bv.low c (cx c hc))) cw.size
   have ej:=b5.chg bw fun hm=>zH<|bv.low _ (cx _ hm)
   refine Ac 1 Z<|Ab _ [0,0] Z<|AQ ((k+1:Nat):Int) Z Z (Be oM sD) Aa<|Ac 1 Z ?_
   exact⟨(k+1,fm),_,rfl,zR,⟨ei,ej,oM,oM,oM,Iu,Iw,Ix⟩,zD⟩
  refine Ap false Z Z (A6 cq) Aa<|Ac 1 Z<|Ai Z<|ZN [0,0] Z ?_
  by_cases cy:(T.code.getD k Az.zero).op=((4:Nat):Int)
  ·refine Ap true Z Z (A5 cy) Aa<|Ac 1 Z<|Ah Z<|AO _ [0,0,1,0,1,0,0,1,0,1,3,0] mixed (by kernel_rfl) ?_
   have hio:=(hform k hkl).i2 oM
   have hra:=hR (T.code.getD k Az.zero).a.toNat oM
   have hrb:=hR (T.code.getD k Az.zero).b.toNat oM
   have b3:=hra.1
   have bs:=hrb.1
   refine Ad 1 Z<|Ak (p:=zP w7.heap.size) 1 Bt Z Z Aa<|Ae (p:=An (zP w7.heap.size) 1) (.inl Z) (zI<|(T.code.getD k Az.zero).a) AC Z (a0.ldp (i:=1) sM) Aa<|Au (v:=vo) (((T.code.getD k Az.zero).a).toNat) Bs AV Z Z (a1.done fun b hb=>absurd hb z2).slL oM sD Aa ?_
   obtain⟨cz,ek,bx⟩:=RN.getL (w:=f0) g1 [] (k:=((T.code.getD k Az.zero).a).toNat) (a1.done (fun b hb=>absurd hb z2)) sD
   have d0:=bx.lenL
   unfold maxLen at d0
   refine Ae (p:=Aw vo (((T.code.getD k Az.zero).a).toNat) 1) (.inl Z) cz AZ Z (ek _ (AA.refl _ _).drew) Aa<|Ad 1 Z<|Ak (p:=zP w7.heap.size) 2 Bu Z Z Aa<|Ae (p:=An (zP w7.heap.size) 2) (.inl Z) (zI<|(T.code.getD k Az.zero).b) AC Z (a0.ldp (i:=2) sM) Aa ?_
   refine Au (v:=vo) (((T.code.getD k Az.zero).b).toNat) Bs AV Z Z (a1.done fun b hb=>absurd hb z2).slL oM sD Aa ?_
   obtain⟨d1,el,bz⟩:=RN.getL (w:=f0) g1 [] (k:=((T.code.getD k Az.zero).b).toNat) (a1.done (fun b hb=>absurd hb z2)) sD
   have d2:=bz.lenL
   unfold maxLen at d2
   refine Ae (p:=Aw vo (((T.code.getD k Az.zero).b).toNat) 1) (.inl Z) d1 AZ Z (el _ (AA.refl _ _).drew) Aa<|Am 172 [] [] [cz,d1] Z Z UG Aa (Hx _ _ _ _ _ (bx).rd (bz).rd oM oM oM hra.2 hrb.2) ?_
   rintro k5 f4 ⟨bj,rfl,aa,a4⟩
   refine⟨_,rfl,aa,?_⟩
   replace aa:=aa.of_drew
   have i6:=aa.size
   have em:=a8.trans aa
   have b6:=a2.ext aa
   have en:=a1.ext aa
   have eo:=bx.ext g1 aa
   have ep:=bz.ext g1 aa
   replace a4:=a4.low (B':=f0.heap.size)<|A7 _
   refine Ac 1 Z<|Ab _ [0,0,3,4,0] Z<|Ad 2 Z (By (u:=bj) (B:=f4.heap.size) Bv Bs AV Z Z (LN f4.heap.size f4.heap.size _<|⟨(Bh a4.isSl).1,(Bh a4.isSl).2⟩) (A7 _) Aa fun fo fp af j4 eq=>?_)
   have i8:=af.size
   have d3:=em.trans af
   have b7:=b6.ext af
   have al:=a4.ext (o1) af
   have c0:=en.ext af
   have j5:=eo.ext g1 af
   have j6:=ep.ext g1 af
   refine CX (v:=vo) (a:=fo) (u:=bj) Bs AV Z Z Z c0 oM eq (RN.of_fr1 al fun b hb=>zH<|hFl b (by simpa using hb)) sD Iv Aa ?_
   rintro fq fb G50 c2 d4 ⟨j7,k6,j8⟩
   have i9:fp.heap.size≤fb.heap.size:=c2.size
   have er:AF w fb:=c2.below d3 (fun c hc=>A8 hwB (c0.low c (d4 c hc))) d3.size
   have es:=b7.chg c2 fun hm=>zH<|c0.low _ (d4 _ hm)
   refine Ac 1 Z<|Ab _ [0,0] Z<|AQ ((k+1:Nat):Int) Z Z (Be oM sD) Aa<|Ac 1 Z ?_
   exact⟨(k+1,fq),_,rfl,zR,⟨er,es,oM,oM,oM,Iu,Iw,Ix⟩,zD⟩
  refine Ap false Z Z (A6 cy) Aa<|Ac 1 Z<|Ai Z<|ZN [0,0] Z ?_
  by_cases d5:(T.code.getD k Az.zero).op=((5:Nat):Int)
  ·refine Ap true Z Z (A5 d5) Aa<|Ac 1 Z<|Ah Z<|AO _ [0,0,1,0,1,0,0,1,0,1,3,0] mixed (by kernel_rfl) ?_
   have hio:=(hform k hkl).i2 oM
   have hra:=hR (T.code.getD k Az.zero).a.toNat oM
   have hrb:=hR (T.code.getD k Az.zero).b.toNat oM
   have b3:=hra.1
   have bs:=hrb.1
   refine Ad 1 Z<|Ak (p:=zP w7.heap.size) 1 Bt Z Z Aa<|Ae (p:=An (zP w7.heap.size) 1) (.inl Z) (zI<|(T.code.getD k Az.zero).a) AC Z (a0.ldp (i:=1) sM) Aa<|Au (v:=vo) (((T.code.getD k Az.zero).a).toNat) Bs AV Z Z (a1.done fun b hb=>absurd hb z2).slL oM sD Aa ?_
   obtain⟨d6,et,c3⟩:=RN.getL (w:=f0) g1 [] (k:=((T.code.getD k Az.zero).a).toNat) (a1.done (fun b hb=>absurd hb z2)) sD
   have d7:=c3.lenL
   unfold maxLen at d7
   refine Ae (p:=Aw vo (((T.code.getD k Az.zero).a).toNat) 1) (.inl Z) d6 AZ Z (et _ (AA.refl _ _).drew) Aa<|Ad 1 Z<|Ak (p:=zP w7.heap.size) 2 Bu Z Z Aa<|Ae (p:=An (zP w7.heap.size) 2) (.inl Z) (zI<|(T.code.getD k Az.zero).b) AC Z (a0.ldp (i:=2) sM) Aa ?_
   refine Au (v:=vo) (((T.code.getD k Az.zero).b).toNat) Bs AV Z Z (a1.done fun b hb=>absurd hb z2).slL oM sD Aa ?_
   obtain⟨d8,eu,c4⟩:=RN.getL (w:=f0) g1 [] (k:=((T.code.getD k Az.zero).b).toNat) (a1.done (fun b hb=>absurd hb z2)) sD
   have d9:=c4.lenL
   unfold maxLen at d9
   refine Ae (p:=Aw vo (((T.code.getD k Az.zero).b).toNat) 1) (.inl Z) d8 AZ Z (eu _ (AA.refl _ _).drew) Aa<|Am 173 [] [] [d6,d8] Z Z Oh Aa (Dl _ _ _ _ _ (c3).rd (c4).rd oM oM hra.2 hrb.2) ?_
   rintro k7 f5 ⟨bk,rfl,ab,a5⟩
   refine⟨_,rfl,ab,?_⟩
   replace ab:=ab.of_drew
   have ia:=ab.size
   have ev:=a8.trans ab
   have b8:=a2.ext ab
   have ew:=a1.ext ab
   have ex:=c3.ext g1 ab
   have ey:=c4.ext g1 ab
   replace a5:=a5.low (B':=f0.heap.size)<|A7 _
   refine Ac 1 Z<|Ab _ [0,0,3,4,0] Z<|Ad 2 Z (By (u:=bk) (B:=f5.heap.size) Bv Bs AV Z Z (LN f5.heap.size f5.heap.size _<|⟨(Bh a5.isSl).1,(Bh a5.isSl).2⟩) (A7 _) Aa fun fr fs ag j9 ez=>?_)
   have ib:=ag.size
   have da:=ev.trans ag
   have b9:=b8.ext ag
   have am:=a5.ext (o1) ag
   have c5:=ew.ext ag
   have ja:=ex.ext g1 ag
   have jb:=ey.ext g1 ag
   refine CX (v:=vo) (a:=fr) (u:=bk) Bs AV Z Z Z c5 oM ez (RN.of_fr1 am fun b hb=>zH<|hFl b (by simpa using hb)) sD Iv Aa ?_
   rintro ft fc G63 c6 db ⟨jc,k8,jd⟩
   have ic:fs.heap.size≤fc.heap.size:=c6.size
   have g0:AF w fc:=c6.below da (fun c hc=>A8 hwB (c5.low c (db c hc))) da.size
   have g2:=b9.chg c6 fun hm=>zH<|c5.low _ (db _ hm)
   refine Ac 1 Z<|Ab _ [0,0] Z<|AQ ((k+1:Nat):Int) Z Z (Be oM sD) Aa<|Ac 1 Z ?_
   exact⟨(k+1,ft),_,rfl,zR,⟨g0,g2,oM,oM,oM,Iu,Iw,Ix⟩,zD⟩
  refine Ap false Z Z (A6 d5) Aa<|Ac 1 Z<|Ai Z<|ZN [0,0] Z ?_
  by_cases dc:(T.code.getD k Az.zero).op=((7:Nat):Int)
  ·refine Ap true Z Z (A5 dc) Aa<|Ac 1 Z<|Ah Z<|Ab _ [0,0,2,0,2,3,0] Z ?_
   have hio:=(hform k hkl).i7 oM
   have hra:=hR (T.code.getD k Az.zero).a.toNat oM
   have b3:=hra.1
   refine Ad 1 Z<|Ak (p:=zP w7.heap.size) 1 Bt Z Z Aa<|Ae (p:=An (zP w7.heap.size) 1) (.inr Z) (zI<|(T.code.getD k Az.zero).a) AC Z (a0.ldp (i:=1) sM) Aa<|Au (v:=vo) (((T.code.getD k Az.zero).a).toNat) Bs AV Z Z (a1.done fun b hb=>absurd hb z2).slL oM sD Aa ?_
   obtain⟨dd,g3,c7⟩:=RN.getL (w:=f0) g1 [] (k:=((T.code.getD k Az.zero).a).toNat) (a1.done (fun b hb=>absurd hb z2)) sD
   have de:=c7.lenL
   unfold maxLen at de
   refine Ae (p:=Aw vo (((T.code.getD k Az.zero).a).toNat) 1) (.inr Z) dd AZ Z (g3 _<|AA.refl _ _) Aa<|Am 174 [] [] [dd,zI ((1000002:Nat):Int)] Z Z My Aa (D9 _ _ _ _ (c7).rd oM oM hra.2 oM) ?_
   rintro k9 f6 ⟨bl,rfl,an,ah⟩
   refine⟨_,rfl,an,?_⟩
   have id:=an.size
   have g4:=a8.trans an
   have ba:=a2.ext an
   have g5:=a1.ext an
   have g6:=c7.ext g1 an
   refine Ac 1 Z<|Ab _ [0,0,3,4,0] Z<|Ad 2 Z (By (u:=bl) (B:=f6.heap.size) Bv Bs AV Z Z (LN f6.heap.size f6.heap.size _<|⟨(Bh ah.isSl).1,(Bh ah.isSl).2⟩) (A7 _) Aa fun fu fv ao je g7=>?_)
   have ie:=ao.size
   have df:=g4.trans ao
   have bb:=ba.ext ao
   have ap:=ah.ext (o1) ao
   have c8:=g5.ext ao
   have jf:=g6.ext g1 ao
   refine CX (v:=vo) (a:=fu) (u:=bl) Bs AV Z Z Z c8 oM g7 (RN.of_fr1 ap fun b hb=>zH<|hFl b (by simpa using hb)) sD Iv Aa ?_
   rintro fw fd G73 c9 dg ⟨jg,ka,jh⟩
   have ig:fv.heap.size≤fd.heap.size:=c9.size
   have g8:AF w fd:=c9.below df (fun c hc=>A8 hwB (c8.low c (dg c hc))) df.size
   have g9:=bb.chg c9 fun hm=>zH<|c8.low _ (dg _ hm)
   refine Ac 1 Z<|Ab _ [0,0] Z<|AQ ((k+1:Nat):Int) Z Z (Be oM sD) Aa<|Ac 1 Z ?_
   exact⟨(k+1,fw),_,rfl,zR,⟨g8,g9,oM,oM,oM,Iu,Iw,Ix⟩,zD⟩
  refine Ap false Z Z (A6 dc) Aa<|Ac 1 Z<|Ai Z<|ZN [0,0] Z ?_
  by_cases dh:(T.code.getD k Az.zero).op=((6:Nat):Int)
  ·refine Ap true Z Z (A5 dh) Aa<|Ac 1 Z<|Ah Z<|A0<|ZN [0,0,2,0,2,0,2,0] Z ?_
   have hio:=(hform k hkl).i2 oM
   have hra:=hR (T.code.getD k Az.zero).a.toNat oM
   have hrb:=hR (T.code.getD k Az.zero).b.toNat oM
   have b3:=hra.1
   have bs:=hrb.1
   refine Ad 1 Z<|Ak (p:=zP w7.heap.size) 2 Bu Z Z Aa<|Ae (p:=An (zP w7.heap.size) 2) (.inr Z) (zI<|(T.code.getD k Az.zero).b) AC Z (a0.ldp (i:=2) sM) Aa<|Au (v:=vo) (((T.code.getD k Az.zero).b).toNat) Bs AV Z Z (a1.done fun b hb=>absurd hb z2).slL oM sD Aa ?_
   obtain⟨ca,ga,bc⟩:=RN.getL (w:=f0) g1 [] (k:=((T.code.getD k Az.zero).b).toNat) (a1.done (fun b hb=>absurd hb z2)) sD
   have di:=bc.lenL
   unfold maxLen at di
   refine Ae (p:=Aw vo (((T.code.getD k Az.zero).b).toNat) 1) (.inr Z) ca AZ Z (ga _<|AA.refl _ _) Aa<|Au (v:=ca) 0 Bl BD Z Z bc.slL Z sD Aa ?_
   have gb:=RN.getI (w:=f0) (k:=0) bc sD
   refine Ae (p:=Aw ca 0 1) (.inr Z) (zI<|((BR (ord.toNat+1) A<|T.code.take k).getD (((T.code.getD k Az.zero).b).toNat) []).getD 0 0) AC Z (gb.1 _<|AA.refl _ _) Aa ?_
   by_cases dj:((BR (ord.toNat+1) A (T.code.take k)).getD (((T.code.getD k Az.zero).b).toNat) []).getD 0 0=((0:Nat):Int)
   ·exact Ap true Z Z (A5 dj) Aa<|Aj<|Ah Z<|ZN [0,0] Z<|Ac 2 Z<|A1<|Ao<|AH<|Ao<|AH<|Ao<|Ao<|AH<|Ao<|Af [6,7] Z (.tuple #[zN,zI ((6:Nat):Int)]) Z ⟨_,_,rfl,a8,.inr ⟨rfl,RQ oM oM oM⟩,(fun h9=>absurd h9 oM)⟩
   refine Ap false Z Z (A6 dj) Aa<|Aj<|Ai Z<|A2<|AO _ [0,0,1,0,1,0,0,1,0,1,3,0] mixed (by kernel_rfl)<|Ad 1 Z<|Ak (p:=zP w7.heap.size) 1 Bt Z Z Aa<|Ae (p:=An (zP w7.heap.size) 1) (.inl Z) (zI<|(T.code.getD k Az.zero).a) AC Z (a0.ldp (i:=1) sM) Aa ?_
   refine Au (v:=vo) (((T.code.getD k Az.zero).a).toNat) Bs AV Z Z (a1.done fun b hb=>absurd hb z2).slL oM sD Aa ?_
   obtain⟨dk,gc,cb⟩:=RN.getL (w:=f0) g1 [] (k:=((T.code.getD k Az.zero).a).toNat) (a1.done (fun b hb=>absurd hb z2)) sD
   have dl:=cb.lenL
   unfold maxLen at dl
   refine Ae (p:=Aw vo (((T.code.getD k Az.zero).a).toNat) 1) (.inl Z) dk AZ Z (gc _ (AA.refl _ _).drew) Aa<|Ad 1 Z<|Ak (p:=zP w7.heap.size) 2 Bu Z Z Aa<|Ae (p:=An (zP w7.heap.size) 2) (.inl Z) (zI<|(T.code.getD k Az.zero).b) AC Z (a0.ldp (i:=2) sM) Aa ?_
   refine Au (v:=vo) (((T.code.getD k Az.zero).b).toNat) Bs AV Z Z (a1.done fun b hb=>absurd hb z2).slL oM sD Aa ?_
   obtain⟨dm,gd,cc⟩:=RN.getL (w:=f0) g1 [] (k:=((T.code.getD k Az.zero).b).toNat) (a1.done (fun b hb=>absurd hb z2)) sD
   have dn:=cc.lenL
   unfold maxLen at dn
   refine Ae (p:=Aw vo (((T.code.getD k Az.zero).b).toNat) 1) (.inl Z) dm AZ Z (gd _ (AA.refl _ _).drew) Aa<|Am 175 [] [] [dk,dm] Z Z Si Aa (EV _ _ _ _ _ (cb).rd (cc).rd oM oM oM hra.2 hrb.2) ?_
   rintro kb f7 ⟨bm,rfl,a7,a6⟩
   refine⟨_,rfl,a7,?_⟩
   replace a7:=a7.of_drew
   have ih:=a7.size
   have ge:=a8.trans a7
   have bd:=a2.ext a7
   have gf:=a1.ext a7
   have gg:=bc.ext g1 a7
   have gh:=cb.ext g1 a7
   have gi:=cc.ext g1 a7
   replace a6:=a6.low (B':=f0.heap.size)<|A7 _
   refine Ac 1 Z<|Ab _ [0,0,3,4,0] Z<|Ad 2 Z (By (u:=bm) (B:=f7.heap.size) Bv Bs AV Z Z (LN f7.heap.size f7.heap.size _<|⟨(Bh a6.isSl).1,(Bh a6.isSl).2⟩) (A7 _) Aa fun fx fy ac ji gj=>?_)
   have ii:=ac.size
   have dp:=ge.trans ac
   have be:=bd.ext ac
   have aq:=a6.ext (o1) ac
   have cd:=gf.ext ac
   have jj:=gg.ext g1 ac
   have jk:=gh.ext g1 ac
   have jl:=gi.ext g1 ac
   refine CX (v:=vo) (a:=fx) (u:=bm) Bs AV Z Z Z cd oM gj (RN.of_fr1 aq fun b hb=>zH<|hFl b (by simpa using hb)) sD Iv Aa ?_
   rintro fz fe G91 ce dq ⟨jm,kc,jn⟩
   have ij:fy.heap.size≤fe.heap.size:=ce.size
   have gk:AF w fe:=ce.below dp (fun c hc=>A8 hwB (cd.low c (dq c hc))) dp.size
   have gl:=be.chg ce fun hm=>zH<|cd.low _ (dq _ hm)
   refine Ac 1 Z<|Ab _ [0,0] Z<|AQ ((k+1:Nat):Int) Z Z (Be oM sD) Aa<|Ac 1 Z ?_
   exact⟨(k+1,fz),_,rfl,zR,⟨gk,gl,oM,oM,oM,Iu,Iw,Ix⟩,zD⟩
  refine Ap false Z Z (A6 dh) Aa<|Ac 1 Z<|Ai Z<|A2<|Ab _ [0,0,3,4,0] Z<|Ad 2 Z (By (u:=bh) (B:=f0.heap.size) Bv Bs AV Z Z (LN f0.heap.size f0.heap.size _<|⟨(Bh ad.isSl).1,(Bh ad.isSl).2⟩) (A7 _) Aa fun jy jz ax jo gm=>?_)
  have ik:=ax.size
  have dr:=a8.trans ax
  have bf:=a2.ext ax
  have ar:=ad.ext (o1) ax
  have cf:=a1.ext ax
  refine CX (v:=vo) (a:=jy) (u:=bh) Bs AV Z Z Z cf oM gm (RN.of_fr1 ar fun b hb=>zH<|hFl b (by simpa using hb)) sD Iv Aa ?_
  rintro k0 ff G95 cg ds ⟨jp,kd,jq⟩
  have il:jz.heap.size≤ff.heap.size:=cg.size
  have gn:AF w ff:=cg.below dr (fun c hc=>A8 hwB (cf.low c (ds c hc))) dr.size
  have go:=bf.chg cg fun hm=>zH<|cf.low _ (ds _ hm)
  refine Ac 1 Z<|Ab _ [0,0] Z<|AQ ((k+1:Nat):Int) Z Z (Be oM sD) Aa<|Ac 1 Z ?_
  exact⟨(k+1,k0),_,rfl,zR,⟨gn,go,oM,oM,oM,Iu,Iw,Ix⟩,zD⟩
 exact AE false Z Z (A6 ck) Aa<|Aj<|A0<|Ai Z<|A4<|Ay<|Ay<|At<|ZN [0,0,0] Z<|Ac 3 Z<|A1<|Af [6,7] Z (.tuple #[vo,zI ((0:Nat):Int)]) Z ⟨_,_,rfl,dw,.inl ⟨rfl,(by have h9:=hzk;rwa [show k=T.code.length from by omega]at h9)⟩,(fun _=>⟨(by have h9:=av.done (fun b hb=>absurd hb z2);rwa [za oM]at h9),av.cap⟩)⟩
theorem Bm (w:World)(r:Int)(vs:Value)(s:Sr)(S:List Nat)(vo:Nat)(vov:Value)(xs:List (Sr))(usxs:List Value)(Fxs:List Nat)(BO:Nat)(_hr:Bk r)(hs:Rd (B5 rI) w.heap vs s)(hcxs:He w.heap (zP vo)=some vov)(hbxs:GI 27 S BO w.heap vov xs usxs Fxs)(hSB:∀b∈S,b<BO)(a9:∀b∈S,b<w.heap.size)(hr:0≤r∧r<(xs.length:Int))(hxl:(xs.getD r.toNat []).length≤s.length∧s.length≤13)(hxn:B9 (xs.getD r.toNat [])=true)(hsn:B9 s=true) :
  Calls Tryz.prog 177 #[zI r,vs,zP vo] w (fun e w'=>e=.returned (.tuple #[])∧AA Fxs w w'∧∃us',GI 27 S BO w'.heap vov (EO xs r s) us' Fxs):=by
 refine As [zI r,vs,zP vo] 14 Tryz.func177 Z Z sM ?_
 have a2:AF w w:=AF.refl w
 have ad:=hs.lenle
 have hFl:∀b∈Fxs,b<w.heap.size:=hbxs.lt
 refine AO _ [1,0,1,0,0,1,0,3,0,4] mixed (by kernel_rfl)<|Ae (.inl Z) vov Ll Z (Bc a2.drew hcxs) Aa<|Ad 1 Z<|Ae (.inl Z) vov Ll Z (Bc a2.drew hcxs) Aa<|Ad 1 Z<|Au (v:=vov) ((r).toNat) Bs AV Z Z (hbxs.done hSB).none.slL oM sD Aa ?_
 obtain⟨a7,aa,a4⟩:=hbxs.getF (k:=(r).toNat) sD
 have a5:=a4.lenL
 unfold maxLen at a5
 refine Ae (p:=Aw vov ((r).toNat) 1) (.inl Z) a7 AZ Z aa Aa<|Ad 1 Z<|Am 123 [] [] [a7,vs] Z Z Og Aa (Ea _ _ _ _ _ a4.rd (hs.ext g1 a2.drew) oM oM hxn hsn) ?_
 rintro e2 w2 ⟨a6,rfl,a1,a0⟩
 refine⟨_,rfl,a1,?_⟩
 replace a1:=a1.of_drew
 have ab:=a1.size
 have ac:=a2.trans a1
 have a8:=hbxs.ext a1
 replace a0:=a0.low (B':=w.heap.size)<|A7 _
 refine Au (v:=vov) ((r).toNat) Bs AV Z Z (a8.done hSB).none.slL oM sD Aa ?_
 refine ES (v:=vov) (u:=a6) (w:=w2) H8 Z Z a8 (RN.of_fr1 a0 fun b hb=>by rcases zi.1 hb with hb|hb;(have:=a9 b hb;omega);(have:=hFl b hb;omega)) sD Aa fun w5 a3 ah ae=>?_
 have af:w2.heap.size≤w5.heap.size:=a3.size
 have ag:AA Fxs w w5:=(AA.of_ext _ ac).trans a3
 exact Aj<|Qz [] Z (.tuple #[]) Z ⟨rfl,ag,_,ae⟩
theorem JO {p:Prop}(h:p:=by first|(rw[show(kk-1+1).toNat=kk.toNat from by omega];exact D4 hadj oM (Mw oM))|(rw[show(kk-1+1).toNat=kk.toNat from by omega];exact D4 hadj oM (O7 oM))|(rw[show(kk-1+1).toNat=kk.toNat from by omega];exact D4 hadj oM (Mx oM))|(rw[show(kk-1+1).toNat=kk.toNat from by omega];exact D4 hadj oM (O8 oM))|(rw[show(kk-1+1).toNat=kk.toNat from by omega];exact D4 hadj oM (O9 oM))|(rw[show(kk-1+1).toNat=kk.toNat from by omega];exact D4 hadj oM (PF oM))):p:=h
theorem JP {p:Prop}(h:p:=by(try rw[show((1000002:Nat):Int)=1000002 from rfl]);first|(rw[← Mw (k:=kk.toNat) (R:=R) oM];exact E5 hxs oM (hform _ hkn))|(rw[← O7 (k:=kk.toNat) (R:=R) oM];exact E5 hxs oM (hform _ hkn))|(rw[← Mx (k:=kk.toNat) (R:=R) oM];exact E5 hxs oM (hform _ hkn))|(rw[← O8 (k:=kk.toNat) (R:=R) oM];exact E5 hxs oM (hform _ hkn))|(rw[← O9 (k:=kk.toNat) (R:=R) oM];exact E5 hxs oM (hform _ hkn))|exact hxs):p:=h
theorem FH {p:Prop}(h:p:=by first|exact hro.2|exact hRa.2|exact hRb.2|exact hRk.2|exact Gm _ _|exact Hi _ _|exact Gk _ _):p:=h
theorem GW {p:Prop}(h:p:=by refine⟨?_,?_⟩ <;> first|omega|(simp only[Hj,FC,DC,Gl];omega)):p:=h
theorem GX {p:Prop}(h:p:=by first|exact hro.2|exact Gm _ _|exact Hi _ _|exact Gk _ _):p:=h
theorem FI {p:Prop}(h:p:=by first|omega|(simp only[Hj,FC,DC,Gl];omega)):p:=h
theorem JQ {p:Prop}(h:p:=by first|exact hxl|(simp only[BZ];exact hxl)):p:=h
theorem HB (w:World)(m:Nat)(ni:Nat)(S:List Nat)(ipT:Int)(vtc vtg vtx:Value)(T:Tp)(oT:Sr)(vr:Value)(R:List (Sr))(vw:Value)(ws:Sr)(c1:∀b∈S,b<w.heap.size)(_hipT:Bk ipT)(htcT:RN [] (Cj 4 Jy) w.heap vtc T.code)(htgT:RN [] (Cj 2 Jz) w.heap vtg T.grd)(htoT:RN [] (B5 rI) w.heap vtx oT)(hR:RN [] (B5 (B5 rI)) w.heap vr R)(hqR:BV vr)(hws:Rd (B5 rI) w.heap vw ws)(hm:1≤m∧m≤13)(hsR:C7 m R)(hlR:R.length=T.code.length)(hlt:T.code.length≤4000)(hlo:oT.length≤ws.length∧ws.length≤1000000)(ho:∀k,k<oT.length→0≤oT.getD k 0∧oT.getD k 0<(T.code.length:Int))(hnw:B9 ws=true)(hform:∀k,k<T.code.length→DI ni k (T.code.getD k Az.zero)) :
  Calls Tryz.prog 122 #[(.agg #[(zI ipT),vtc,vtg,vtx]),vr,vw] w (fun e w'=>∃v0:Value,e=.returned v0∧AF w w'∧RN S (B5 (B5 rI)) w'.heap v0 (I2 T.code R oT ws)∧BV v0):=by
 refine As [.agg #[zI ipT,vtc,vtg,vtx],vr,vw] 159 Tryz.func122 Z Z sM ?_
 have jn:AF w w:=AF.refl w
 have hl_vtx:=htoT.lenL
 unfold maxLen at hl_vtx
 have f4:=hR.lenL
 unfold maxLen at f4
 have fj:=hws.lenle
 refine ZN [3,0] Z (Bj (cs:=#[zI ipT,vtc,vtg,vtx]) Z Aa fun w1 gx ks gy=>?_)
 have gz:=gx.size
 have jo:=jn.trans gx
 replace gy:BX w1.heap w.heap.size [zI ipT,vtc,vtg,vtx]:=gy
 refine Ac 1 Z<|ZN [3,3,4] Z (Cp (Bo rI 2) o1 Bs AV Aa fun v2 w2 gu kt jp=>?_)
 have i0:=gu.size
 have jq:=jo.trans gu
 have cu:=gy.ext gu
 have lu:=cu.lt
 refine Br (z:=zN) (by kernel_rfl) Aa fun w3 dx ku i1=>?_
 have i3:=dx.size
 have i4:=jq.trans dx
 have dy:=cu.ext dx
 have c2:=jp.ext (o2) dx
 replace i1:BX w3.heap w2.heap.size [zN]:=i1
 refine BH (k:=0) (w:=w3) YB Z Z (Bn c2.isSl) i1 sM Aa fun w5 dz kv gv=>?_
 replace gv:BX w5.heap w2.heap.size [v2]:=gv
 have jr:AF w w5:=dz.below i4 (fun _ h=>zE h) i4.size
 have i5:w3.heap.size≤w5.heap.size:=dz.size
 have js:=dy.chg dz (zB ·)
 have jt:=c2.chg (o2) dz fun _ h=>zA h
 refine Aj<|A0<|ZN [0,0,0] Z<|Ad 1 Z<|AP (v:=vr) Bs Z hR.slL Aa<|Ac 1 Z<|A3 ?_
 have hLBa:w.heap.size<w1.heap.size:=by omega
 have hLBb:w1.heap.size≤w2.heap.size:=by omega
 have hLBc:=Nat.le_of_lt hLBa
 obtain⟨Fo8,e0⟩:=Ow.of_fr (T:=w2.heap.size) jt (A7 _)
 have kw:w2.heap.size∉Fo8:=fun hm=>zH<|e0.high _ hm
 have kx:=e0.up (T':=w5.heap.size) oM
 have ky:w2.heap.size<w5.heap.size:=BX.lt gv
 refine AT (S:=Nat×Value×List Nat) (fun⟨k,vo,Fo⟩=>([(20,zI (k:Int)),(1,vr),(2,vw),(3,zP w.heap.size),(7,zP w2.heap.size),(18,vr),(19,zI (R.length:Int))])) (fun⟨k,vo,Fo⟩ W=>AF w W∧BX W.heap w.heap.size [zI ipT,vtc,vtg,vtx]∧BX W.heap w2.heap.size [vo]∧k≤R.length∧Ow (Bo (Bo rI 2) 27) w1.heap.size W.heap.size W.heap vo (K8<|R.take k) Fo∧w2.heap.size∉Fo) (fun⟨k,vo,Fo⟩=>R.length-k) (0,v2,Fo8) ⟨rfl,rfl,rfl,rfl,rfl,rfl,rfl,trivial⟩ ⟨jr,js,gv,oM,(by assumption),(by assumption)⟩ ?_
 clear jn ks gx gz jo jp kt gu i0 jq ku dx i3 i4 c2 kv dz jr i5 js jt
 rintro⟨k,vo,Fo⟩ ρ9 w9 ⟨e1,ax,ap,ju,hOl,hgF⟩
 have i6:w.heap.size≤w9.heap.size:=e1.size
 have kz:=ax.lt
 have l0:=ap.lt
 have m1:w2.heap.size<w9.heap.size:=BX.lt ap
 refine ZN [0] Z ?_
 by_cases e2:(k:Int)<(R.length:Int)
 ·refine AE true Z Z (A5 e2) Aa<|Aj<|A0<|Ah Z<|A2<|A0<|A3<|ZN [0,2,0] Z<|Au (v:=vr) k Bs AV Z Z hR.slL Z sD Aa ?_
  obtain⟨e3,i8,e4⟩:=RN.getL (w:=w) g1 [] (k:=k) hR sD
  have e5:=e4.lenL
  unfold maxLen at e5
  refine Ae (p:=Aw vr k 1) (.inr Z) e3 AZ Z (i8 _<|AA.of_ext [] e1) Aa<|Ac 1 Z<|AO _ [1,0,0,3,3,4,4] mixed (by kernel_rfl) ?_
  have hrk:=hsR k oM
  have l1:=hrk.1
  refine Ae (p:=zP w2.heap.size) (.inl Z) vo Ll Z (ap.ld (k:=0) sM) Aa<|Ad 1 Z<|AP (v:=e3) Bl Z e4.slL Aa (Fx (n:=(R.getD k []).length) Bl BD Z Z Z sD Aa fun fq m2 b5 l2 i9=>?_)
  replace b5:=b5.of_drew
  have jv:=b5.size
  have ia:=e1.trans b5
  have c3:=ax.ext b5
  have c4:=ap.ext b5
  have ib:=hOl.ext o2 b5
  refine By (u:=fq) (B:=w9.heap.size) o1 Bs AV Z Z i9 (by first|exact A7 _|omega) Aa fun fr fs c5 l3 ic=>?_
  have jw:=c5.size
  have e6:=ia.trans c5
  have c6:=c3.ext c5
  have c7:=c4.ext c5
  have df:=ib.ext o2 c5
  refine Vb o1 (v:=vo) (a:=fr) Bs AV Z Z Z df ic oM oM oM sD (by unfold maxLen;first|omega|assumption|(simp;done)|(simp;omega)) Aa fun fk f9 fl ck e7 id=>?_
  have jx:fs.heap.size≤f9.heap.size:=ck.size
  have e8:AF w f9:=ck.below e6 (fun c hc=>A8 hLBc (df.low c (zj hc))) e6.size
  have ie:=c6.chg ck fun hm=>zH<|df.low _ (zj hm)
  have ig:=c7.chg ck fun hm=>hgF<|zj hm
  have hF25d:w2.heap.size∉fl:=fun hm=>(id _ hm).elim hgF (fun h9=>by omega)
  refine BH (k:=0) (w:=f9) YB Z Z (Bn e7.slO) ig sM Aa fun fa cl l4 dg=>?_
  replace dg:BX fa.heap w2.heap.size [fk]:=dg
  have ih:AF w fa:=cl.below e8 (fun _ h=>zE h) e8.size
  have jy:f9.heap.size≤fa.heap.size:=cl.size
  have ii:=ie.chg cl (zB ·)
  have ij:=e7.keep o2 cl fun b hb hm=>by rw[A9 hb]at hm;exact hF25d hm
  refine Aj<|Ab _ [0,0] Z<|AQ ((k+1:Nat):Int) Z Z (Be oM sD) Aa<|Ac 1 Z ?_
  have hOe:=(ij).up (T':=fa.heap.size) oM
  rw[RS oM]at hOe
  exact⟨(k+1,fk,fl),_,rfl,zR,⟨ih,ii,dg,oM,hOe,(by assumption)⟩,zD⟩
 refine AE false Z Z (A6 e2) Aa<|Aj<|A0<|Ai Z<|A4<|Ay<|Ay<|At<|A0<|ZN [0,2,0,0] Z<|Ak (p:=zP w.heap.size) 3 Em Z Z Aa<|Ae (p:=An (zP w.heap.size) 3) (.inr Z) vtx AZ Z (ax.ldp (i:=3) sM) Aa<|AP (v:=vtx) Bl Z htoT.slL Aa<|Ac 1 Z<|A3 ?_
 refine AT (S:=Nat) (fun i=>([(34,zI (i:Int)),(1,vr),(2,vw),(3,zP w.heap.size),(7,zP w2.heap.size),(32,vtx),(33,zI (oT.length:Int))])) (fun i W=>AF w W∧BX W.heap w.heap.size [zI ipT,vtc,vtg,vtx]∧BX W.heap w2.heap.size [vo]∧i≤oT.length∧Ow (Bo (Bo rI 2) 27) w1.heap.size W.heap.size W.heap vo (LT oT ws i<|K8 R) Fo) (fun i=>oT.length-i) 0 ⟨rfl,rfl,rfl,rfl,rfl,rfl,rfl,trivial⟩ ⟨e1,ax,ap,oM,(by have h9:=hOl;rw[za oM]at h9;exact h9)⟩ ?_
 clear ap ax e1 i6
 rintro i ρ30 f5 ⟨b6,aj,a5,ik,ay⟩
 have e9:w.heap.size≤f5.heap.size:=b6.size
 have hwl:(LT oT ws i (K8 R)).length=T.code.length:=by rw[DJ,Dq];exact hlR
 have l5:=aj.lt
 have l6:=a5.lt
 have l7:w2.heap.size<f5.heap.size:=BX.lt a5
 refine ZN [0] Z ?_
 by_cases ea:(i:Int)<(oT.length:Int)
 ·refine AE true Z Z (A5 ea) Aa<|Aj<|A0<|Ah Z<|A2<|A0<|A3<|ZN [0,0,2,0,0] Z<|Ad 1 Z<|Au (v:=vtx) i Bl BD Z Z htoT.slL Z sD Aa ?_
  have il:=RN.getI (w:=w) (k:=i) htoT sD
  refine Ae (p:=Aw vtx i 1) (.inr Z) (zI<|oT.getD i 0) AC Z (il.1 _<|AA.of_ext [] b6) Aa<|Ac 2 Z<|AO _ [1,0,0,1,1,0,0,1,0,1,0,0,0,1,0,0,4] mixed (by kernel_rfl) ?_
  have hor:=ho i oM
  have hrw:=GO (m:=m) (ws:=ws) (HV hsR) (fun q hq=>by have:=ho q hq;rw[Dq];omega) i oM (oT.getD i 0).toNat oM
  have l8:=hrw.1
  refine Ae (p:=zP w2.heap.size) (.inl Z) vo Ll Z (a5.ld (k:=0) sM) Aa<|Ad 1 Z<|Au (v:=vo) ((oT.getD i 0).toNat) Bs AV Z Z ay.slO oM sD Aa ?_
  obtain⟨dh,eb,ec⟩:=ay.rowO (k:=(oT.getD i 0).toNat) sD
  have ed:=(RN.of ec).lenL
  unfold maxLen at ed
  refine Ae (p:=Aw vo ((oT.getD i 0).toNat) 1) (.inl Z) dh AZ Z eb Aa<|Ae (p:=zP w2.heap.size) (.inl Z) vo Ll Z (a5.ld (k:=0) sM) Aa<|Ad 1 Z<|Au (v:=vo) ((oT.getD i 0).toNat) Bs AV Z Z ay.slO oM sD Aa ?_
  obtain⟨di,im,dj⟩:=ay.rowO (k:=(oT.getD i 0).toNat) sD
  have ee:=(RN.of dj).lenL
  unfold maxLen at ee
  refine Ae (p:=Aw vo ((oT.getD i 0).toNat) 1) (.inl Z) di AZ Z im Aa<|Au (v:=di) 0 Bl BD Z Z (RN.of dj).slL Z sD Aa ?_
  have ef:=RN.getI (w:=f5) (k:=0) (RN.of dj) sD
  refine Ae (p:=Aw di 0 1) (.inl Z) (zI<|((LT oT ws i<|K8 R).getD ((oT.getD i 0).toNat) []).getD 0 0) AC Z (ef.1 _ (AA.refl _ _).drew) Aa<|Ad 2 Z<|Au (v:=vw) i Bl BD Z Z hws.isSl Z sD Aa ?_
  refine Ae (p:=Aw vw i 1) (.inl Z) (zI<|ws.getD i 0) AC Z (Bc b6.drew (hws.getI sD).1) Aa ?_
  refine AB 176 [] [] [zI<|((LT oT ws i<|K8 R).getD ((oT.getD i 0).toNat) []).getD 0 0,zI<|ws.getD i 0] Z Z Sj Aa (zI<|md ((((LT oT ws i<|K8 R).getD ((oT.getD i 0).toNat) []).getD 0 0)+(ws.getD i 0))) (fun wq=>Hv wq _ _ ef.2 (hws.getI sD).2) ?_
  refine Au (v:=dh) 0 Bl BD Z Z (RN.of ec).slL Z sD Aa ?_
  refine TH (v:=vo) (u:=dh) (w:=f5.drew) I3 Z Z (Ei _) ay sD eb sD Aa fun fb G39 bj l9 dk io=>?_
  replace bj:=bj.of_drew
  have jz:f5.heap.size≤fb.heap.size:=bj.size
  have ip:AF w fb:=bj.below b6 (fun c hc=>A8 hLBc (ay.low c (dk c hc))) b6.size
  have iq:=aj.chg bj fun hm=>zH<|ay.low _ (dk _ hm)
  have ir:=a5.chg bj fun hm=>hgF<|dk _ hm
  refine Aj<|Ab _ [0,0] Z<|AQ ((i+1:Nat):Int) Z Z (Be oM sD) Aa<|Ac 1 Z ?_
  have hOe:=(io).up (T':=fb.heap.size) oM
  exact⟨i+1,_,rfl,zR,⟨ip,iq,ir,oM,hOe⟩,zD⟩
 refine AE false Z Z (A6 ea) Aa<|Aj<|A0<|Ai Z<|A4<|Ay<|Ay<|At<|A0<|ZN [0,2,0,0,0] Z ?_
 have hOw:=ay
 rw[show i=oT.length from by omega]at hOw
 obtain⟨la,F0,is,k0⟩:=GI.ofOw (S:=S) hOw (fun b hb=>zH<|c1 b hb)
 have cm:w2.heap.size∉F0:=fun hm=>hgF (k0 _ hm)
 obtain⟨BO,hBO⟩:∃b:Nat,b=w1.heap.size:=⟨_,rfl⟩
 rw[← hBO]at is
 have hwB:w.heap.size≤BO:=by omega
 have hSB:∀b∈S,b<BO:=fun b hb=>zH<|c1 b hb
 obtain⟨B0,gw⟩:∃l:List Sr,l=LT oT ws oT.length (K8 R):=⟨_,rfl⟩
 rw[← gw]at is
 have lb:C7 m B0:=by rw[gw];exact GO (HV hsR) (fun q hq=>by have:=ho q hq;rw[Dq];omega) _ (A7 _)
 have lc:B0.length=T.code.length:=by rw[gw,DJ,Dq];exact hlR
 refine Ak (p:=zP w.heap.size) 1 Cb Z Z Aa<|Ae (p:=An (zP w.heap.size) 1) (.inr Z) vtc Dv Z (aj.ldp (i:=1) sM) Aa<|AP (v:=vtc) IP Z htcT.isSl Aa ?_
 refine Bi ((T.code.length:Int)-((1:Nat):Int)) Z Z (CT sD sD) Aa<|Ac 1 Z<|A3 ?_
 refine AT (S:=Int×List Sr×List Value) (fun⟨kk,xs,us⟩=>([(12,zI kk),(1,vr),(3,zP w.heap.size),(7,zP w2.heap.size)])) (fun⟨kk,xs,us⟩ W=>AF w W∧BX W.heap w.heap.size [zI ipT,vtc,vtg,vtx]∧BX W.heap w2.heap.size [vo]∧(-1≤kk∧kk<(T.code.length:Int))∧GI 27 S BO W.heap vo xs us F0∧C7 m xs∧xs.length=T.code.length∧Qv T.code R (kk+1).toNat xs=Qv T.code R T.code.length B0) (fun⟨kk,xs,us⟩=>(kk+1).toNat) ((T.code.length:Int)-1,B0,la) ⟨rfl,rfl,rfl,rfl,trivial⟩ ⟨b6,aj,a5,oM,is,lb,lc,(by rw[show((T.code.length:Int)-1+1).toNat=T.code.length from by omega])⟩ ?_
 clear a5 aj b6 e9 k0
 rintro⟨kk,xs,us⟩ ρ42 f0 ⟨cn,au,a8,it,hbl,hxs,hxl,hadj⟩
 have k1:w.heap.size≤f0.heap.size:=cn.size
 have le:=au.lt
 have lf:=a8.lt
 have hFl:∀b∈F0,b<f0.heap.size:=hbl.lt
 have lg:=BX.lt a8
 refine A0<|ZN [0,0] Z<|Ad 1 Z ?_
 by_cases eg:((0:Nat):Int)≤kk
 ·refine CU true Z Z (A5 eg) Aa<|Aj<|Ah Z<|A2<|A0<|A3<|A0 ?_
  letI:JR:=X7 [f0.drew.heap.size]
  refine Jx.AO _ [0,1,0,0,1,1,0,0,1,3,3,0] mixed (by kernel_rfl) ?_
  have ba:∀wj,AA [f0.drew.heap.size] f0.drew wj→AF f0.drew wj:=fun wj hj=>AA.toExt hj (fun b hb=>Nat.le_of_eq (A9 hb).symm)
  have hkn:kk.toNat<T.code.length:=by omega
  have hro:=hxs kk.toNat oM
  have lh:=hro.1
  have hRk:=hsR kk.toNat oM
  have li:=hRk.1
  refine Jx.Ak (p:=zP w.heap.size) 1 Cb Z Z Aa<|Jx.YX (p:=An (zP w.heap.size) 1) vtc Dv Z (fun wj hj=>(BX.ext (w:=f0.drew) au<|ba wj hj).ldp (i:=1) sM) Aa<|Jx.V6 (zI kk) Z Aa<|Jx.Au (v:=vtc) ((kk).toNat) IP EM Z Z htcT.isSl oM sD Aa ?_
  obtain⟨cs49,iu,iv⟩:=htcT.get AW Az.zero (k:=(kk).toNat) sD
  obtain⟨rfl,av⟩:=Hr iu
  refine Jx.X8 (p:=Aw vtc ((kk).toNat) 4) [zI<|(T.code.getD ((kk).toNat) Az.zero).op,zI<|(T.code.getD ((kk).toNat) Az.zero).a,zI<|(T.code.getD ((kk).toNat) Az.zero).b,zI<|(T.code.getD ((kk).toNat) Az.zero).num] DE Z (fun wj hj=>iv wj<|AA.of_ext []<|cn.drew.trans<|ba wj hj) Z Aa<|Jx.YX (p:=zP w2.heap.size) vo Ll Z (fun wj hj=>(BX.ext (w:=f0.drew) a8<|ba wj hj).ldp (i:=0) sM) Aa<|Jx.V6 (zI kk) Z Aa ?_
  refine Jx.Au (v:=vo) ((kk).toNat) Bs AV Z Z (hbl.done hSB).none.slL oM sD Aa ?_
  obtain⟨a9,iw,dl⟩:=hbl.getF (k:=(kk).toNat) sD
  have eh:=dl.lenL
  unfold maxLen at eh
  refine Jx.YX (p:=Aw vo ((kk).toNat) 1) a9 AZ Z (fun wj hj=>Bc (w:=f0.drew) (ba wj hj) iw) Aa ?_
  have lj:=au.lt
  have lk:=a8.lt
  have k2:f0.drew.heap.size=f0.heap.size:=rfl
  refine Jx.Z6<|Br (z:=.agg #[zI 0,zI 0,zI 0,zI 0]) OS Aa ?_
  intro fm ac ll dm
  refine Aj ?_
  replace ac:=ac.of_drew
  have k3:=ac.size
  have ei:=cn.trans ac
  have bk:=au.ext ac
  have bl:=a8.ext ac
  have lm:=hbl.ext ac
  have ln:=dl.ext g1 ac
  replace dm:BX fm.heap f0.drew.heap.size [zI 0,zI 0,zI 0,zI 0]:=dm
  refine Jx.ZR (Ce (vs:=[zI<|(T.code.getD ((kk).toNat) Az.zero).op,zI<|(T.code.getD ((kk).toNat) Az.zero).a,zI<|(T.code.getD ((kk).toNat) Az.zero).b,zI<|(T.code.getD ((kk).toNat) Az.zero).num]) DE Z Z (by intro u hu;simp only[ze,z2,or_false]at hu;rcases hu with rfl|rfl|rfl|rfl <;> first|exact⟨rfl,rfl⟩) dm Z Z Aa fun f1 b7 lo a6=>?_)
  replace a6:BX f1.heap f0.drew.heap.size [zI ((T.code.getD ((kk).toNat) Az.zero).op),zI ((T.code.getD ((kk).toNat) Az.zero).a),zI ((T.code.getD ((kk).toNat) Az.zero).b),zI ((T.code.getD ((kk).toNat) Az.zero).num)]:=a6
  have ad:AF w f1:=b7.below ei (fun _ h=>zE h) ei.size
  have k4:fm.heap.size≤f1.heap.size:=b7.size
  have bm:=bk.chg b7 (zB ·)
  have az:=bl.chg b7 (zB ·)
  have ae:=hbl.ext<|b7.below ac (fun _ h=>zE h) ac.size
  have an:=dl.ext g1<|b7.below ac (fun _ h=>zE h) ac.size
  refine Aj ⟨b7,?_⟩
  refine Jx.QC a9 Z Aa<|Jx.Aj<|ZN [0,0] Z<|ME [] [zP w2.heap.size] Z Z Aa<|Ac 1 Z<|ZN [0,2] Z<|Ak (p:=zP f0.drew.heap.size) 0 GR Z Z Aa<|Ae (p:=An (zP f0.drew.heap.size) 0) (.inr Z) (zI<|(T.code.getD ((kk).toNat) Az.zero).op) AC Z (a6.ldp (i:=0) sM) Aa<|Aj<|A3<|ZN [0,0] Z ?_
  by_cases ej:(T.code.getD ((kk).toNat) Az.zero).op=((3:Nat):Int)
  ·refine Ap true Z Z (A5 ej) Aa<|Ac 1 Z<|Ah Z<|ZN [0,0,2,0,4] Z ?_
   have hio:=(hform kk.toNat hkn).i2 oM
   have hra:=hxs (T.code.getD kk.toNat Az.zero).a.toNat oM
   have co:=hra.1
   have hRa:=hsR (T.code.getD kk.toNat Az.zero).a.toNat oM
   have hRb:=hsR (T.code.getD kk.toNat Az.zero).b.toNat oM
   have dn:=hRa.1
   have dp:=hRb.1
   refine Ad 1 Z<|Ak (p:=zP f0.drew.heap.size) 1 Bt Z Z Aa<|Ae (p:=An (zP f0.drew.heap.size) 1) (.inr Z) (zI<|(T.code.getD ((kk).toNat) Az.zero).a) AC Z (a6.ldp (i:=1) sM) Aa<|Ad 1 Z ?_
   refine AI 177 [] [zP w2.heap.size] [zI<|(T.code.getD ((kk).toNat) Az.zero).a,a9,zP w2.heap.size] Z Z Jg Aa (Bm _ ((T.code.getD ((kk).toNat) Az.zero).a) a9 (xs.getD ((kk).toNat) []) S w2.heap.size vo (xs) _ _ BO av.2.1 an.rd (az.ld (k:=0) sM) ae hSB (fun b hb=>zH<|c1 b hb) oM GW hra.2 GX) ?_
   rintro m3 fc ⟨rfl,bn,lp,cp⟩
   refine⟨_,rfl,?_⟩
   have k5:f1.heap.size≤fc.heap.size:=bn.size
   have ek:AF w fc:=bn.below ad (fun c hc=>A8 hwB (ae.low c hc)) ad.size
   have ix:=bm.chg bn fun hm=>by have:=ae.low _ hm;have:=hFl _ hm;omega
   have el:=az.chg bn fun hm=>cm hm
   have em:=a6.chg bn fun hm=>by have:=ae.low _ hm;have:=hFl _ hm;omega
   have en:=an.chg g1<|bn.sub fun b hb=>z1 _ hb
   have dq:C7 m (EO xs (T.code.getD kk.toNat Az.zero).a (xs.getD kk.toNat [])):=Cx hxs oM
   have iy:(EO xs (T.code.getD kk.toNat Az.zero).a (xs.getD kk.toNat [])).length=T.code.length:=by rw[BZ];exact hxl
   have hrb:=dq (T.code.getD kk.toNat Az.zero).b.toNat oM
   have dr:=hrb.1
   refine Aj<|Ab _ [0,0,2,0,4] Z<|Ad 1 Z<|Ak (p:=zP f0.drew.heap.size) 2 Bu Z Z Aa<|Ae (p:=An (zP f0.drew.heap.size) 2) (.inr Z) (zI<|(T.code.getD ((kk).toNat) Az.zero).b) AC Z (em.ldp (i:=2) sM) Aa<|Ad 1 Z ?_
   refine AI 177 [] [zP w2.heap.size] [zI<|(T.code.getD ((kk).toNat) Az.zero).b,a9,zP w2.heap.size] Z Z Jg Aa (Bm _ ((T.code.getD ((kk).toNat) Az.zero).b) a9 (xs.getD ((kk).toNat) []) S w2.heap.size vo (EO xs ((T.code.getD ((kk).toNat) Az.zero).a)<|xs.getD ((kk).toNat) []) _ _ BO av.2.2.1 en.rd (el.ld (k:=0) sM) cp hSB (fun b hb=>zH<|c1 b hb) oM GW hrb.2 GX) ?_
   rintro m4 fo ⟨rfl,bo,iz,j0⟩
   refine⟨_,rfl,?_⟩
   have k6:fc.heap.size≤fo.heap.size:=bo.size
   have j1:AF w fo:=bo.below ek (fun c hc=>A8 hwB (cp.low c hc)) ek.size
   have j2:=ix.chg bo fun hm=>by have:=cp.low _ hm;have:=hFl _ hm;omega
   have j3:=el.chg bo fun hm=>cm hm
   have lq:=em.chg bo fun hm=>by have:=cp.low _ hm;have:=hFl _ hm;omega
   have lr:=en.chg g1<|bo.sub fun b hb=>z1 _ hb
   refine Aj<|Ab _ [0,0,0] Z<|Ad 1 Z<|Bi (kk-((1:Nat):Int)) Z Z (CT sD sD) Aa<|Ac 1 Z ?_
   have hbe:=j0
   exact⟨(kk-1,EO (EO xs ((T.code.getD ((kk).toNat) Az.zero).a) (xs.getD ((kk).toNat) [])) ((T.code.getD ((kk).toNat) Az.zero).b) (xs.getD ((kk).toNat) []),iz),_,rfl,zR,⟨j1,j2,j3,oM,hbe,JP,JQ,JO⟩,zD⟩
  refine Ap false Z Z (A6 ej) Aa<|Ac 1 Z<|Ai Z<|ZN [0,0] Z ?_
  by_cases eo:(T.code.getD ((kk).toNat) Az.zero).op=((4:Nat):Int)
  ·refine Ap true Z Z (A5 eo) Aa<|Ac 1 Z<|Ah Z<|ZN [0,0,2,0,4] Z ?_
   have hio:=(hform kk.toNat hkn).i2 oM
   have hra:=hxs (T.code.getD kk.toNat Az.zero).a.toNat oM
   have co:=hra.1
   have hRa:=hsR (T.code.getD kk.toNat Az.zero).a.toNat oM
   have hRb:=hsR (T.code.getD kk.toNat Az.zero).b.toNat oM
   have dn:=hRa.1
   have dp:=hRb.1
   refine Ad 1 Z<|Ak (p:=zP f0.drew.heap.size) 1 Bt Z Z Aa<|Ae (p:=An (zP f0.drew.heap.size) 1) (.inr Z) (zI<|(T.code.getD ((kk).toNat) Az.zero).a) AC Z (a6.ldp (i:=1) sM) Aa<|Ad 1 Z ?_
   refine AI 177 [] [zP w2.heap.size] [zI<|(T.code.getD ((kk).toNat) Az.zero).a,a9,zP w2.heap.size] Z Z Jg Aa (Bm _ ((T.code.getD ((kk).toNat) Az.zero).a) a9 (xs.getD ((kk).toNat) []) S w2.heap.size vo (xs) _ _ BO av.2.1 an.rd (az.ld (k:=0) sM) ae hSB (fun b hb=>zH<|c1 b hb) oM GW hra.2 GX) ?_
   rintro m5 fd ⟨rfl,bp,ls,j4⟩
   refine⟨_,rfl,?_⟩
   have k7:f1.heap.size≤fd.heap.size:=bp.size
   have j5:AF w fd:=bp.below ad (fun c hc=>A8 hwB (ae.low c hc)) ad.size
   have j6:=bm.chg bp fun hm=>by have:=ae.low _ hm;have:=hFl _ hm;omega
   have j7:=az.chg bp fun hm=>cm hm
   have ep:=a6.chg bp fun hm=>by have:=ae.low _ hm;have:=hFl _ hm;omega
   have eq:=an.chg g1<|bp.sub fun b hb=>z1 _ hb
   have dq:C7 m (EO xs (T.code.getD kk.toNat Az.zero).a (xs.getD kk.toNat [])):=Cx hxs oM
   have iy:(EO xs (T.code.getD kk.toNat Az.zero).a (xs.getD kk.toNat [])).length=T.code.length:=by rw[BZ];exact hxl
   have hrb:=dq (T.code.getD kk.toNat Az.zero).b.toNat oM
   have dr:=hrb.1
   refine Aj<|AO _ [0,0,1,0,3,4] mixed (by kernel_rfl)<|Ad 1 Z<|Ak (p:=zP f0.drew.heap.size) 2 Bu Z Z Aa<|Ae (p:=An (zP f0.drew.heap.size) 2) (.inl Z) (zI<|(T.code.getD ((kk).toNat) Az.zero).b) AC Z (ep.ldp (i:=2) sM) Aa<|Ad 1 Z<|Am 174 [] [] [a9,zI ((1000002:Nat):Int)] Z Z My Aa (D9 _ _ _ _ eq.rd oM FI FH oM) ?_
   rintro m6 ft ⟨cv,rfl,ao,aw⟩
   refine⟨_,rfl,ao,?_⟩
   replace ao:=ao.of_drew
   have k8:=ao.size
   have er:=j5.trans ao
   have cq:=j6.ext ao
   have bb:=j7.ext ao
   have cr:=ep.ext ao
   have ct:=j4.ext ao
   have j8:=eq.ext g1 ao
   replace aw:=aw.low (B':=fd.heap.size)<|A7 _
   refine AI 177 [] [zP w2.heap.size] [zI<|(T.code.getD ((kk).toNat) Az.zero).b,cv,zP w2.heap.size] Z Z Jg Aa (Bm _ ((T.code.getD ((kk).toNat) Az.zero).b) cv (Di (xs.getD ((kk).toNat) []) ((1000002:Nat):Int)) S w2.heap.size vo (EO xs ((T.code.getD ((kk).toNat) Az.zero).a)<|xs.getD ((kk).toNat) []) _ _ BO av.2.2.1 aw.rd1 (bb.ld (k:=0) sM) ct hSB (fun b hb=>zH<|c1 b hb) oM GW hrb.2 GX) ?_
   rintro m7 fp ⟨rfl,b8,j9,ja⟩
   refine⟨_,rfl,?_⟩
   have k9:ft.heap.size≤fp.heap.size:=b8.size
   have jb:AF w fp:=b8.below er (fun c hc=>A8 hwB (ct.low c hc)) er.size
   have es:=cq.chg b8 fun hm=>by have:=ct.low _ hm;have:=hFl _ hm;omega
   have et:=bb.chg b8 fun hm=>cm hm
   have ka:=cr.chg b8 fun hm=>by have:=ct.low _ hm;have:=hFl _ hm;omega
   have kb:=j8.chg g1<|b8.sub fun b hb=>z1 _ hb
   have kc:=aw.chg (o1) b8 fun c hc=>zH<|hFl c hc
   refine Aj<|Ab _ [0,0,0] Z<|Ad 1 Z<|Bi (kk-((1:Nat):Int)) Z Z (CT sD sD) Aa<|Ac 1 Z ?_
   have hbe:=ja
   exact⟨(kk-1,EO (EO xs ((T.code.getD ((kk).toNat) Az.zero).a) (xs.getD ((kk).toNat) [])) ((T.code.getD ((kk).toNat) Az.zero).b) (Di (xs.getD ((kk).toNat) []) ((1000002:Nat):Int)),j9),_,rfl,zR,⟨jb,es,et,oM,hbe,JP,JQ,JO⟩,zD⟩
  refine Ap false Z Z (A6 eo) Aa<|Ac 1 Z<|Ai Z<|ZN [0,0] Z ?_
  by_cases cw:(T.code.getD ((kk).toNat) Az.zero).op=((5:Nat):Int)
  ·refine Ap true Z Z (A5 cw) Aa<|Ac 1 Z<|Ah Z<|A0<|AO _ [0,0,1,0,0,0,1,0,1,3,4] mixed (by kernel_rfl) ?_
   have hio:=(hform kk.toNat hkn).i2 oM
   have hra:=hxs (T.code.getD kk.toNat Az.zero).a.toNat oM
   have co:=hra.1
   have hRa:=hsR (T.code.getD kk.toNat Az.zero).a.toNat oM
   have hRb:=hsR (T.code.getD kk.toNat Az.zero).b.toNat oM
   have dn:=hRa.1
   have dp:=hRb.1
   refine Ad 1 Z<|Ak (p:=zP f0.drew.heap.size) 1 Bt Z Z Aa<|Ae (p:=An (zP f0.drew.heap.size) 1) (.inl Z) (zI<|(T.code.getD ((kk).toNat) Az.zero).a) AC Z (a6.ldp (i:=1) sM) Aa<|Ad 2 Z<|Ak (p:=zP f0.drew.heap.size) 2 Bu Z Z Aa<|Ae (p:=An (zP f0.drew.heap.size) 2) (.inl Z) (zI<|(T.code.getD ((kk).toNat) Az.zero).b) AC Z (a6.ldp (i:=2) sM) Aa ?_
   refine Au (v:=vr) (((T.code.getD ((kk).toNat) Az.zero).b).toNat) Bs AV Z Z hR.slL oM sD Aa ?_
   obtain⟨cx,eu,cy⟩:=RN.getL (w:=w) g1 [] (k:=((T.code.getD ((kk).toNat) Az.zero).b).toNat) hR sD
   have ds:=cy.lenL
   unfold maxLen at ds
   refine Ae (p:=Aw vr (((T.code.getD ((kk).toNat) Az.zero).b).toNat) 1) (.inl Z) cx AZ Z (eu _<|AA.of_ext [] ad.drew) Aa<|Am 173 [] [] [a9,cx] Z Z Oh Aa (Dl _ _ _ _ _ an.rd (cy.ext g1 ad.drew).rd FI FI FH FH) ?_
   rintro fu fe ⟨c8,rfl,a2,af⟩
   refine⟨_,rfl,a2,?_⟩
   replace a2:=a2.of_drew
   have jc:=a2.size
   have cz:=ad.trans a2
   have c9:=bm.ext a2
   have b0:=az.ext a2
   have ca:=a6.ext a2
   have bc:=ae.ext a2
   have ev:=an.ext g1 a2
   replace af:=af.low (B':=f1.heap.size)<|A7 _
   refine AI 177 [] [zP w2.heap.size] [zI<|(T.code.getD ((kk).toNat) Az.zero).a,c8,zP w2.heap.size] Z Z Jg Aa (Bm _ ((T.code.getD ((kk).toNat) Az.zero).a) c8 (Cs (xs.getD ((kk).toNat) [])<|R.getD (((T.code.getD ((kk).toNat) Az.zero).b).toNat) []) S w2.heap.size vo (xs) _ _ BO av.2.1 af.rd1 (b0.ld (k:=0) sM) bc hSB (fun b hb=>zH<|c1 b hb) oM GW hra.2 GX) ?_
   rintro fv f2 ⟨rfl,ak,kd,ew⟩
   refine⟨_,rfl,?_⟩
   have jd:fe.heap.size≤f2.heap.size:=ak.size
   have cb:AF w f2:=ak.below cz (fun c hc=>A8 hwB (bc.low c hc)) cz.size
   have ex:=c9.chg ak fun hm=>by have:=bc.low _ hm;have:=hFl _ hm;omega
   have ey:=b0.chg ak fun hm=>cm hm
   have cc:=ca.chg ak fun hm=>by have:=bc.low _ hm;have:=hFl _ hm;omega
   have d0:=ev.chg g1<|ak.sub fun b hb=>z1 _ hb
   have ez:=af.chg (o1) ak fun c hc=>zH<|hFl c hc
   have dq:C7 m (EO xs (T.code.getD kk.toNat Az.zero).a (Cs (xs.getD kk.toNat []) (R.getD (T.code.getD kk.toNat Az.zero).b.toNat []))):=Cx hxs oM
   have iy:(EO xs (T.code.getD kk.toNat Az.zero).a (Cs (xs.getD kk.toNat []) (R.getD (T.code.getD kk.toNat Az.zero).b.toNat []))).length=T.code.length:=by rw[BZ];exact hxl
   have hrb:=dq (T.code.getD kk.toNat Az.zero).b.toNat oM
   have dr:=hrb.1
   refine Aj<|AO _ [0,0,1,0,0,0,1,0,1,3,4] mixed (by kernel_rfl)<|Ad 1 Z<|Ak (p:=zP f0.drew.heap.size) 2 Bu Z Z Aa<|Ae (p:=An (zP f0.drew.heap.size) 2) (.inl Z) (zI<|(T.code.getD ((kk).toNat) Az.zero).b) AC Z (cc.ldp (i:=2) sM) Aa<|Ad 2 Z<|Ak (p:=zP f0.drew.heap.size) 1 Bt Z Z Aa<|Ae (p:=An (zP f0.drew.heap.size) 1) (.inl Z) (zI<|(T.code.getD ((kk).toNat) Az.zero).a) AC Z (cc.ldp (i:=1) sM) Aa ?_
   refine Au (v:=vr) (((T.code.getD ((kk).toNat) Az.zero).a).toNat) Bs AV Z Z hR.slL oM sD Aa ?_
   obtain⟨d1,g0,d2⟩:=RN.getL (w:=w) g1 [] (k:=((T.code.getD ((kk).toNat) Az.zero).a).toNat) hR sD
   have dt:=d2.lenL
   unfold maxLen at dt
   refine Ae (p:=Aw vr (((T.code.getD ((kk).toNat) Az.zero).a).toNat) 1) (.inl Z) d1 AZ Z (g0 _<|AA.of_ext [] cb.drew) Aa<|Am 173 [] [] [a9,d1] Z Z Oh Aa (Dl _ _ _ _ _ d0.rd (d2.ext g1 cb.drew).rd FI FI FH FH) ?_
   rintro fw ff ⟨cd,rfl,a0,ag⟩
   refine⟨_,rfl,a0,?_⟩
   replace a0:=a0.of_drew
   have je:=a0.size
   have d3:=cb.trans a0
   have bq:=ex.ext a0
   have aq:=ey.ext a0
   have br:=cc.ext a0
   have bs:=ez.ext (o1) a0
   have bd:=ew.ext a0
   have g2:=d0.ext g1 a0
   replace ag:=ag.low (B':=f2.heap.size)<|A7 _
   refine AI 177 [] [zP w2.heap.size] [zI<|(T.code.getD ((kk).toNat) Az.zero).b,cd,zP w2.heap.size] Z Z Jg Aa (Bm _ ((T.code.getD ((kk).toNat) Az.zero).b) cd (Cs (xs.getD ((kk).toNat) [])<|R.getD (((T.code.getD ((kk).toNat) Az.zero).a).toNat) []) S w2.heap.size vo (EO xs ((T.code.getD ((kk).toNat) Az.zero).a)<|Cs (xs.getD ((kk).toNat) [])<|R.getD (((T.code.getD ((kk).toNat) Az.zero).b).toNat) []) _ _ BO av.2.2.1 ag.rd1 (aq.ld (k:=0) sM) bd hSB (fun b hb=>zH<|c1 b hb) oM GW hrb.2 GX) ?_
   rintro fx f6 ⟨rfl,aa,g3,g4⟩
   refine⟨_,rfl,?_⟩
   have jf:ff.heap.size≤f6.heap.size:=aa.size
   have g5:AF w f6:=aa.below d3 (fun c hc=>A8 hwB (bd.low c hc)) d3.size
   have g6:=bq.chg aa fun hm=>by have:=bd.low _ hm;have:=hFl _ hm;omega
   have g7:=aq.chg aa fun hm=>cm hm
   have ke:=br.chg aa fun hm=>by have:=bd.low _ hm;have:=hFl _ hm;omega
   have kf:=g2.chg g1<|aa.sub fun b hb=>z1 _ hb
   have kg:=bs.chg (o1) aa fun c hc=>zH<|hFl c hc
   have kh:=ag.chg (o1) aa fun c hc=>zH<|hFl c hc
   refine Aj<|Ab _ [0,0,0] Z<|Ad 1 Z<|Bi (kk-((1:Nat):Int)) Z Z (CT sD sD) Aa<|Ac 1 Z ?_
   have hbe:=g4
   exact⟨(kk-1,EO (EO xs ((T.code.getD ((kk).toNat) Az.zero).a) (Cs (xs.getD ((kk).toNat) []) (R.getD (((T.code.getD ((kk).toNat) Az.zero).b).toNat) []))) ((T.code.getD ((kk).toNat) Az.zero).b) (Cs (xs.getD ((kk).toNat) []) (R.getD (((T.code.getD ((kk).toNat) Az.zero).a).toNat) [])),g3),_,rfl,zR,⟨g5,g6,g7,oM,hbe,JP,JQ,JO⟩,zD⟩
  refine Ap false Z Z (A6 cw) Aa<|Ac 1 Z<|Ai Z<|ZN [0,0] Z ?_
  by_cases d4:(T.code.getD ((kk).toNat) Az.zero).op=((6:Nat):Int)
  ·refine Ap true Z Z (A5 d4) Aa<|Ac 1 Z<|Ah Z<|ZN [0,0,0,2,0,2,3,0] Z ?_
   have hio:=(hform kk.toNat hkn).i2 oM
   have hra:=hxs (T.code.getD kk.toNat Az.zero).a.toNat oM
   have co:=hra.1
   have hRa:=hsR (T.code.getD kk.toNat Az.zero).a.toNat oM
   have hRb:=hsR (T.code.getD kk.toNat Az.zero).b.toNat oM
   have dn:=hRa.1
   have dp:=hRb.1
   refine Ad 2 Z<|Ak (p:=zP f0.drew.heap.size) 2 Bu Z Z Aa<|Ae (p:=An (zP f0.drew.heap.size) 2) (.inr Z) (zI<|(T.code.getD ((kk).toNat) Az.zero).b) AC Z (a6.ldp (i:=2) sM) Aa<|Au (v:=vr) (((T.code.getD ((kk).toNat) Az.zero).b).toNat) Bs AV Z Z hR.slL oM sD Aa ?_
   obtain⟨d5,g8,d6⟩:=RN.getL (w:=w) g1 [] (k:=((T.code.getD ((kk).toNat) Az.zero).b).toNat) hR sD
   have du:=d6.lenL
   unfold maxLen at du
   refine Ae (p:=Aw vr (((T.code.getD ((kk).toNat) Az.zero).b).toNat) 1) (.inr Z) d5 AZ Z (g8 _<|AA.of_ext [] ad) Aa<|Am 175 [] [] [a9,d5] Z Z Si Aa (EV _ _ _ _ _ an.rd (d6.ext g1 ad).rd FI FI oM FH FH) ?_
   rintro fy fg ⟨b9,rfl,ab,be⟩
   refine⟨_,rfl,ab,?_⟩
   have jg:=ab.size
   have d7:=ad.trans ab
   have ce:=bm.ext ab
   have b1:=az.ext ab
   have b2:=a6.ext ab
   have bf:=ae.ext ab
   have g9:=an.ext g1 ab
   refine Ac 1 Z<|ZN [0,0,2,0,4] Z<|Ad 1 Z<|Ak (p:=zP f0.drew.heap.size) 1 Bt Z Z Aa<|Ae (p:=An (zP f0.drew.heap.size) 1) (.inr Z) (zI<|(T.code.getD ((kk).toNat) Az.zero).a) AC Z (b2.ldp (i:=1) sM) Aa<|Ad 1 Z ?_
   refine AI 177 [] [zP w2.heap.size] [zI<|(T.code.getD ((kk).toNat) Az.zero).a,b9,zP w2.heap.size] Z Z Jg Aa (Bm _ ((T.code.getD ((kk).toNat) Az.zero).a) b9 (Cm (xs.getD ((kk).toNat) [])<|R.getD (((T.code.getD ((kk).toNat) Az.zero).b).toNat) []) S w2.heap.size vo (xs) _ _ BO av.2.1 be.rd1 (b1.ld (k:=0) sM) bf hSB (fun b hb=>zH<|c1 b hb) oM GW hra.2 GX) ?_
   rintro fz f3 ⟨rfl,al,ki,ga⟩
   refine⟨_,rfl,?_⟩
   have jh:fg.heap.size≤f3.heap.size:=al.size
   have cf:AF w f3:=al.below d7 (fun c hc=>A8 hwB (bf.low c hc)) d7.size
   have gb:=ce.chg al fun hm=>by have:=bf.low _ hm;have:=hFl _ hm;omega
   have gc:=b1.chg al fun hm=>cm hm
   have d8:=b2.chg al fun hm=>by have:=bf.low _ hm;have:=hFl _ hm;omega
   have gd:=g9.chg g1<|al.sub fun b hb=>z1 _ hb
   have d9:=be.chg (o1) al fun c hc=>zH<|hFl c hc
   have dq:C7 m (EO xs (T.code.getD kk.toNat Az.zero).a (Cm (xs.getD kk.toNat []) (R.getD (T.code.getD kk.toNat Az.zero).b.toNat []))):=Cx hxs oM
   have iy:(EO xs (T.code.getD kk.toNat Az.zero).a (Cm (xs.getD kk.toNat []) (R.getD (T.code.getD kk.toNat Az.zero).b.toNat []))).length=T.code.length:=by rw[BZ];exact hxl
   have hrb:=dq (T.code.getD kk.toNat Az.zero).b.toNat oM
   have dr:=hrb.1
   refine Aj<|AO _ [0,0,1,0,0,0,0,1,3,3,4] mixed (by kernel_rfl)<|Ad 1 Z<|Ak (p:=zP f0.drew.heap.size) 2 Bu Z Z Aa<|Ae (p:=An (zP f0.drew.heap.size) 2) (.inl Z) (zI<|(T.code.getD ((kk).toNat) Az.zero).b) AC Z (d8.ldp (i:=2) sM) Aa<|Ad 3 Z ?_
   refine Au (v:=vr) ((kk).toNat) Bs AV Z Z hR.slL oM sD Aa ?_
   obtain⟨da,ge,db⟩:=RN.getL (w:=w) g1 [] (k:=(kk).toNat) hR sD
   have dv:=db.lenL
   unfold maxLen at dv
   refine Ae (p:=Aw vr ((kk).toNat) 1) (.inl Z) da AZ Z (ge _<|AA.of_ext [] cf.drew) Aa<|Am 173 [] [] [b9,da] Z Z Oh Aa (Dl _ _ _ _ _ d9.rd1 (db.ext g1 cf.drew).rd FI FI FH FH) ?_
   rintro lv lw ⟨dw,rfl,a1,ah⟩
   refine⟨_,rfl,a1,?_⟩
   replace a1:=a1.of_drew
   have ji:=a1.size
   have gf:=cf.trans a1
   have bt:=gb.ext a1
   have bu:=gc.ext a1
   have bv:=d8.ext a1
   have bw:=d9.ext (o1) a1
   have gg:=ga.ext a1
   have gh:=gd.ext g1 a1
   replace ah:=ah.low (B':=f3.heap.size)<|A7 _
   refine Am 174 [] [] [dw,zI ((1000002:Nat):Int)] Z Z My Aa (D9 _ _ _ _ ah.rd1 oM FI FH oM) ?_
   rintro lx fh ⟨cg,rfl,a3,bg⟩
   refine⟨_,rfl,a3,?_⟩
   have jj:=a3.size
   have dc:=gf.trans a3
   have bx:=bt.ext a3
   have ar:=bu.ext a3
   have bz:=bv.ext a3
   have c0:=bw.ext (o1) a3
   have b3:=ah.ext (o1) a3
   have bh:=gg.ext a3
   have gi:=gh.ext g1 a3
   refine AI 177 [] [zP w2.heap.size] [zI<|(T.code.getD ((kk).toNat) Az.zero).b,cg,zP w2.heap.size] Z Z Jg Aa (Bm _ ((T.code.getD ((kk).toNat) Az.zero).b) cg (Di (Cs (Cm (xs.getD ((kk).toNat) [])<|R.getD (((T.code.getD ((kk).toNat) Az.zero).b).toNat) [])<|R.getD ((kk).toNat) []) ((1000002:Nat):Int)) S w2.heap.size vo (EO xs ((T.code.getD ((kk).toNat) Az.zero).a)<|Cm (xs.getD ((kk).toNat) [])<|R.getD (((T.code.getD ((kk).toNat) Az.zero).b).toNat) []) _ _ BO av.2.2.1 bg.rd1 (ar.ld (k:=0) sM) bh hSB (fun b hb=>zH<|c1 b hb) oM GW hrb.2 GX) ?_
   rintro ly f7 ⟨rfl,a7,gj,gk⟩
   refine⟨_,rfl,?_⟩
   have jk:fh.heap.size≤f7.heap.size:=a7.size
   have gl:AF w f7:=a7.below dc (fun c hc=>A8 hwB (bh.low c hc)) dc.size
   have gm:=bx.chg a7 fun hm=>by have:=bh.low _ hm;have:=hFl _ hm;omega
   have gn:=ar.chg a7 fun hm=>cm hm
   have kj:=bz.chg a7 fun hm=>by have:=bh.low _ hm;have:=hFl _ hm;omega
   have kl:=gi.chg g1<|a7.sub fun b hb=>z1 _ hb
   have km:=c0.chg (o1) a7 fun c hc=>zH<|hFl c hc
   have kn:=b3.chg (o1) a7 fun c hc=>zH<|hFl c hc
   have ko:=bg.chg (o1) a7 fun c hc=>zH<|hFl c hc
   refine Aj<|Ab _ [0,0,0] Z<|Ad 1 Z<|Bi (kk-((1:Nat):Int)) Z Z (CT sD sD) Aa<|Ac 1 Z ?_
   have hbe:=gk
   exact⟨(kk-1,EO (EO xs ((T.code.getD ((kk).toNat) Az.zero).a) (Cm (xs.getD ((kk).toNat) []) (R.getD (((T.code.getD ((kk).toNat) Az.zero).b).toNat) []))) ((T.code.getD ((kk).toNat) Az.zero).b) (Di (Cs (Cm (xs.getD ((kk).toNat) []) (R.getD (((T.code.getD ((kk).toNat) Az.zero).b).toNat) [])) (R.getD ((kk).toNat) [])) ((1000002:Nat):Int)),gj),_,rfl,zR,⟨gl,gm,gn,oM,hbe,JP,JQ,JO⟩,zD⟩
  refine Ap false Z Z (A6 d4) Aa<|Ac 1 Z<|Ai Z<|ZN [0,0] Z ?_
  by_cases dd:(T.code.getD ((kk).toNat) Az.zero).op=((7:Nat):Int)
  ·refine Ap true Z Z (A5 dd) Aa<|Ac 1 Z<|Ah Z<|AO _ [0,0,1,0,3,4] mixed (by kernel_rfl) ?_
   have hio:=(hform kk.toNat hkn).i7 oM
   have hra:=hxs (T.code.getD kk.toNat Az.zero).a.toNat oM
   have co:=hra.1
   refine Ad 1 Z<|Ak (p:=zP f0.drew.heap.size) 1 Bt Z Z Aa<|Ae (p:=An (zP f0.drew.heap.size) 1) (.inl Z) (zI<|(T.code.getD ((kk).toNat) Az.zero).a) AC Z (a6.ldp (i:=1) sM) Aa<|Ad 1 Z<|Am 174 [] [] [a9,zI ((1000002:Nat):Int)] Z Z My Aa (D9 _ _ _ _ an.rd oM FI FH oM) ?_
   rintro lz fi ⟨ch,rfl,a4,ai⟩
   refine⟨_,rfl,a4,?_⟩
   replace a4:=a4.of_drew
   have jl:=a4.size
   have de:=ad.trans a4
   have ci:=bm.ext a4
   have b4:=az.ext a4
   have cj:=a6.ext a4
   have bi:=ae.ext a4
   have go:=an.ext g1 a4
   replace ai:=ai.low (B':=f1.heap.size)<|A7 _
   refine AI 177 [] [zP w2.heap.size] [zI<|(T.code.getD ((kk).toNat) Az.zero).a,ch,zP w2.heap.size] Z Z Jg Aa (Bm _ ((T.code.getD ((kk).toNat) Az.zero).a) ch (Di (xs.getD ((kk).toNat) []) ((1000002:Nat):Int)) S w2.heap.size vo (xs) _ _ BO av.2.1 ai.rd1 (b4.ld (k:=0) sM) bi hSB (fun b hb=>zH<|c1 b hb) oM GW hra.2 GX) ?_
   rintro m0 f8 ⟨rfl,am,gp,gq⟩
   refine⟨_,rfl,?_⟩
   have jm:fi.heap.size≤f8.heap.size:=am.size
   have gr:AF w f8:=am.below de (fun c hc=>A8 hwB (bi.low c hc)) de.size
   have gs:=ci.chg am fun hm=>by have:=bi.low _ hm;have:=hFl _ hm;omega
   have gt:=b4.chg am fun hm=>cm hm
   have kp:=cj.chg am fun hm=>by have:=bi.low _ hm;have:=hFl _ hm;omega
   have kq:=go.chg g1<|am.sub fun b hb=>z1 _ hb
   have kr:=ai.chg (o1) am fun c hc=>zH<|hFl c hc
   refine Aj<|Ab _ [0,0,0] Z<|Ad 1 Z<|Bi (kk-((1:Nat):Int)) Z Z (CT sD sD) Aa<|Ac 1 Z ?_
   have hbe:=gq
   exact⟨(kk-1,EO xs ((T.code.getD ((kk).toNat) Az.zero).a) (Di (xs.getD ((kk).toNat) []) ((1000002:Nat):Int)),gp),_,rfl,zR,⟨gr,gs,gt,oM,hbe,JP,JQ,JO⟩,zD⟩
  refine Ap false Z Z (A6 dd) Aa<|Ac 1 Z<|Ai Z<|A2<|Ab _ [0,0,0] Z<|Ad 1 Z ?_
  refine Bi (kk-((1:Nat):Int)) Z Z (CT sD sD) Aa<|Ac 1 Z ?_
  have hbe:=ae
  exact⟨(kk-1,xs,us),_,rfl,zR,⟨ad,bm,az,oM,hbe,JP,JQ,JO⟩,zD⟩
 refine CU false Z Z (A6 eg) Aa<|Aj<|Ai Z<|A4<|Ay<|Ay<|At<|ZN [2,0] Z<|Ae (p:=zP w2.heap.size) (.inr Z) vo Ll Z (a8.ld (k:=0) sM) Aa<|Ac 1 Z<|A1 ?_
 have hfin:xs=I2 T.code R oT ws:=by have h9:=hadj;rw[show(kk+1).toNat=0 from by omega,gw]at h9;exact h9
 exact Af [6] Z vo Z ⟨_,rfl,cn,(by rw[← hfin];exact(hbl.done hSB)),hbl.cap⟩
theorem HC (w:World)(m:Nat)(ni:Nat)(S:List Nat)(ipT:Int)(vtc vtg vtx:Value)(T:Tp)(oT:Sr)(vl:Value)(L:List (Sr))(b5:∀b∈S,b<w.heap.size)(_hipT:Bk ipT)(htcT:RN [] (Cj 4 Jy) w.heap vtc T.code)(htgT:RN [] (Cj 2 Jz) w.heap vtg T.grd)(htoT:RN [] (B5 rI) w.heap vtx oT)(hL:RN [] (B5 (B5 rI)) w.heap vl L)(hqL:BV vl)(hm:1≤m∧m≤13)(hni:ipT=(ni:Int)∧ni≤1000)(hsL:C7 m L)(hlL:L.length=T.code.length∧0<L.length)(hlt:T.code.length≤4000)(hform:∀k,k<T.code.length→DI ni k (T.code.getD k Az.zero)) :
  Calls Tryz.prog 62 #[(.agg #[(zI ipT),vtc,vtg,vtx]),vl] w (fun e w'=>∃v0:Value,e=.returned v0∧AF w w'∧RN S (B5 (B5 rI)) w'.heap v0 (TJ ni m T.code L)∧BV v0):=by
 refine As [.agg #[zI ipT,vtc,vtg,vtx],vl] 54 Tryz.func62 Z Z sM ?_
 have bt:AF w w:=AF.refl w
 have hl_vtx:=htoT.lenL
 unfold maxLen at hl_vtx
 have cz:=hL.lenL
 unfold maxLen at cz
 have bu:=hsL 0 oM
 have c9:=bu.1
 refine ZN [3,0] Z (Bj (cs:=#[zI ipT,vtc,vtg,vtx]) Z Aa fun w1 b6 ca b7=>?_)
 have b8:=b6.size
 have b9:=bt.trans b6
 replace b7:BX w1.heap w.heap.size [zI ipT,vtc,vtg,vtx]:=b7
 refine Ac 1 Z<|ZN [3,0,0] Z (Cp (Bo rI 2) o1 Bs AV Aa fun v2 w2 b2 cb bv=>?_)
 have ba:=b2.size
 have bb:=b9.trans b2
 have ai:=b7.ext b2
 refine Ac 2 Z<|A0<|ZN [0,0,0] Z<|Ad 1 Z<|AP (v:=vl) Bs Z hL.slL Aa ?_
 have cc:((0:Nat):Int)<(L.length:Int):=oM
 refine BU true Z Z (A5 cc) Aa<|Aj<|Ah Z<|Ab _ [0,0,2,0,0] Z<|Ad 1 Z<|Au (v:=vl) 0 Bs AV Z Z hL.slL Z sD Aa ?_
 obtain⟨bw,cd,bx⟩:=RN.getL (w:=w) g1 [] (k:=0) hL sD
 have ao:=bx.lenL
 unfold maxLen at ao
 refine Ae (p:=Aw vl 0 1) (.inr Z) bw AZ Z (cd _<|AA.of_ext [] bb) Aa<|AP (v:=bw) Bl Z bx.slL Aa<|Ac 1 Z<|A0<|ZN [0,2,0] Z<|Ak (p:=zP w.heap.size) 0 Ga Z Z Aa<|Ae (p:=An (zP w.heap.size) 0) (.inr Z) (zI ipT) AC Z (ai.ldp (i:=0) sM) Aa<|Ac 1 Z<|A3 ?_
 refine AT (S:=Nat×Value) (fun⟨k,vo⟩=>([(5,vo),(19,zI (k:Int)),(1,vl),(2,zP w.heap.size),(6,zI (((L.getD 0 []).length:Nat):Int)),(18,zI ipT)])) (fun⟨k,vo⟩ W=>AF w W∧Fr (Bo (Bo rI 2) 27) w1.heap.size W.heap.size W.heap vo (List.replicate k<|List.replicate m 0)∧BX W.heap w.heap.size [zI ipT,vtc,vtg,vtx]∧k≤ni∧w.heap.size<w1.heap.size∧w1.heap.size≤W.heap.size) (fun⟨k,vo⟩=>ni-k) (0,v2) ⟨rfl,rfl,rfl,rfl,rfl,rfl,trivial⟩ ⟨bb,bv.up o2,ai,oM,oM,oM⟩ ?_
 clear bt bu ca b6 bv cb b2 ba bb ao
 rintro⟨k,vo⟩ ρ6 w6 ⟨b3,a4,a2,bz,ce,cf⟩
 have bc:w.heap.size≤w6.heap.size:=b3.size
 have cx:=a2.lt
 refine ZN [0] Z ?_
 by_cases c0:(k:Int)<ipT
 ·refine AE true Z Z (A5 c0) Aa<|Aj<|A0<|Ah Z<|A2<|A0<|A3<|Ab _ [0,0,3,3,4,0] Z<|Ad 2 Z (Fx (n:=(L.getD 0 []).length) Bl BD Z Z Z sD Aa fun d5 da ab cg bd=>?_)
  have c1:=ab.size
  have be:=b3.trans ab
  have a5:=a4.ext (o2) ab
  have a6:=a2.ext ab
  refine By (u:=d5) (B:=w6.heap.size) o1 Bs AV Z Z bd (by first|exact A7 _|omega) Aa fun d6 d7 ac ch bf=>?_
  have c2:=ac.size
  have ap:=be.trans ac
  have a7:=a5.ext (o2) ac
  have a8:=a6.ext ac
  refine GF o1 (v:=vo) (a:=d6) Bs AV Z Z Z a7 oM bf oM oM sD (by unfold maxLen;first|omega|assumption|(simp;done)|(simp;omega)) Aa fun d8 d1 db ak aq bg=>?_
  have bh:AF w d1:=ak.below ap (fun c hc=>A8 b9.size (aq c hc).1) ap.size
  have c3:d7.heap.size≤d1.heap.size:=ak.size
  have bi:=a8.chg ak fun hm=>zH<|aq _ hm
  exact Ac 1 Z<|Ab _ [0,0] Z<|AQ ((k+1:Nat):Int) Z Z (Be oM oM) Aa<|Ac 1 Z ⟨(k+1,d8),_,rfl,zR,⟨bh,(by have h:=bg.up o2;rw[c9,← List.replicate_succ']at h;exact h),bi,oM,oM,oM⟩,zD⟩
 refine AE false Z Z (A6 c0) Aa<|Aj<|A0<|Ai Z<|A4<|Ay<|Ay<|At<|A0<|ZN [0,2,0,0] Z ?_
 have hOw:=a4
 rw[show k=ni from by omega]at hOw
 obtain⟨ci,F0,bj,cj⟩:=GI.ofFr (S:=S) hOw (fun b hb=>zH<|b5 b hb)
 obtain⟨BO,hBO⟩:∃b:Nat,b=w1.heap.size:=⟨_,rfl⟩
 rw[← hBO]at bj
 have hwB:w.heap.size≤BO:=by omega
 have hSB:∀b∈S,b<BO:=fun b hb=>zH<|b5 b hb
 obtain⟨B0,b4⟩:∃l:List Sr,l=(List.replicate ni (List.replicate m 0)):=⟨_,rfl⟩
 rw[← b4]at bj
 have ck:C7 m B0:=by rw[b4];exact Jb m ni
 have bk:B0.length=ni:=by rw[b4,z5]
 refine Ak (p:=zP w.heap.size) 1 Cb Z Z Aa<|Ae (p:=An (zP w.heap.size) 1) (.inr Z) vtc Dv Z (a2.ldp (i:=1) sM) Aa<|AP (v:=vtc) IP Z htcT.isSl Aa<|Ac 1 Z<|A3<|AT (S:=Nat×List Value) (fun⟨j,us⟩=>([(30,zI (j:Int)),(1,vl),(5,vo),(28,vtc),(29,zI (T.code.length:Int))])) (fun⟨j,us⟩ W=>AF w W∧j≤T.code.length∧GI 27 S BO W.heap vo (Qn T.code L j B0) us F0) (fun⟨j,us⟩=>T.code.length-j) (0,ci) ⟨rfl,rfl,rfl,rfl,rfl,trivial⟩ ⟨b3,oM,bj⟩ ?_
 clear b8 b9 a2 a4 b3 bc cj
 rintro⟨j,us⟩ ρ14 cy ⟨ad,bl,hbl⟩
 have c4:w.heap.size≤cy.heap.size:=ad.size
 have hFl:∀b∈F0,b<cy.heap.size:=hbl.lt
 refine ZN [0] Z ?_
 by_cases ar:(j:Int)<(T.code.length:Int)
 ·refine AE true Z Z (A5 ar) Aa<|Aj<|A0<|Ah Z<|A2<|A0<|A3<|ZN [0,0,2,3,0,4] Z ?_
  have hjk:j<T.code.length:=by omega
  refine Ad 1 Z<|Au (v:=vtc) j IP EM Z Z htcT.isSl Z sD Aa ?_
  obtain⟨cs16,bm,bn⟩:=htcT.get AW Az.zero (k:=j) sD
  obtain⟨rfl,cl⟩:=Hr bm
  refine AJ (p:=Aw vtc j 4) (.inr Z) [zI<|(T.code.getD j Az.zero).op,zI<|(T.code.getD j Az.zero).a,zI<|(T.code.getD j Az.zero).b,zI<|(T.code.getD j Az.zero).num] DE Z (fun d9 cm=>bn d9<|AA.of_ext []<|ad.trans cm) Z Aa (Br (z:=.agg #[zI 0,zI 0,zI 0,zI 0]) OS Aa fun d2 a9 cn al=>?_)
  have c5:=a9.size
  have au:=ad.trans a9
  have co:=hbl.ext a9
  replace al:BX d2.heap cy.heap.size [zI 0,zI 0,zI 0,zI 0]:=al
  refine Ad 1 Z (Ce (vs:=[zI<|(T.code.getD j Az.zero).op,zI<|(T.code.getD j Az.zero).a,zI<|(T.code.getD j Az.zero).b,zI<|(T.code.getD j Az.zero).num]) DE Z Z (by intro u hu;simp only[ze,z2,or_false]at hu;rcases hu with rfl|rfl|rfl|rfl <;> first|exact⟨rfl,rfl⟩) al Z Z Aa fun d0 am cp a3=>?_)
  replace a3:BX d0.heap cy.heap.size [zI ((T.code.getD j Az.zero).op),zI ((T.code.getD j Az.zero).a),zI ((T.code.getD j Az.zero).b),zI ((T.code.getD j Az.zero).num)]:=a3
  have ae:AF w d0:=am.below au (fun _ h=>zE h) au.size
  have c6:d2.heap.size≤d0.heap.size:=am.size
  have af:=hbl.ext<|am.below a9 (fun _ h=>zE h) a9.size
  refine Aj<|ZN [0,2,0] Z<|Ak (p:=zP cy.heap.size) 0 GR Z Z Aa<|Ae (p:=An (zP cy.heap.size) 0) (.inr Z) (zI<|(T.code.getD j Az.zero).op) AC Z (a3.ldp (i:=0) sM) Aa ?_
  by_cases av:(T.code.getD j Az.zero).op=((1:Nat):Int)
  ·refine Ap true Z Z (A5 av) Aa<|Aj<|Ah Z<|AO _ [0,0,1,0,0,1,0,1,0,0,0,1,3,0,4] mixed (by kernel_rfl) ?_
   have hio:=(hform j hjk).i1 oM
   have hra:=Kv (cs:=T.code) (L:=L) (B:=B0) (fun q hq=>by rw[bk];exact hform q hq) ck j oM (T.code.getD j Az.zero).num.toNat (by rw[HW,bk];omega)
   have cq:=hra.1
   have hLj:=hsL j oM
   have cr:=hLj.1
   have hbn:(Qn T.code L j B0).length=ni:=by rw[HW,bk]
   refine Ad 1 Z<|Ak (p:=zP cy.heap.size) 3 Cy Z Z Aa<|Ae (p:=An (zP cy.heap.size) 3) (.inl Z) (zI<|(T.code.getD j Az.zero).num) AC Z (a3.ldp (i:=3) sM) Aa<|Ad 1 Z<|Ak (p:=zP cy.heap.size) 3 Cy Z Z Aa<|Ae (p:=An (zP cy.heap.size) 3) (.inl Z) (zI<|(T.code.getD j Az.zero).num) AC Z (a3.ldp (i:=3) sM) Aa ?_
   refine Au (v:=vo) (((T.code.getD j Az.zero).num).toNat) Bs AV Z Z (af.done hSB).none.slL oM sD Aa ?_
   obtain⟨aw,bo,an⟩:=af.getF (k:=((T.code.getD j Az.zero).num).toNat) sD
   have ax:=an.lenL
   unfold maxLen at ax
   refine Ae (p:=Aw vo (((T.code.getD j Az.zero).num).toNat) 1) (.inl Z) aw AZ Z bo Aa<|Ad 2 Z<|Au (v:=vl) j Bs AV Z Z hL.slL Z sD Aa ?_
   obtain⟨ay,bp,az⟩:=RN.getL (w:=w) g1 [] (k:=j) hL sD
   have b0:=az.lenL
   unfold maxLen at b0
   refine Ae (p:=Aw vl j 1) (.inl Z) ay AZ Z (bp _<|AA.of_ext [] ae.drew) Aa<|Am 123 [] [] [aw,ay] Z Z Og Aa (Ea _ _ _ _ _ an.rd (az.ext g1 ae.drew).rd oM oM hra.2 hLj.2) ?_
   rintro dc d3 ⟨aj,rfl,a1,a0⟩
   refine⟨_,rfl,a1,?_⟩
   replace a1:=a1.of_drew
   have c7:=a1.size
   have b1:=ae.trans a1
   have ag:=a3.ext a1
   have ah:=af.ext a1
   have bq:=an.ext g1 a1
   replace a0:=a0.low (B':=d0.heap.size)<|A7 _
   refine Au (v:=vo) (((T.code.getD j Az.zero).num).toNat) Bs AV Z Z (ah.done hSB).none.slL oM sD Aa ?_
   refine ES (v:=vo) (u:=aj) (w:=d3) H8 Z Z ah (RN.of_fr1 a0 fun b hb=>by rcases zi.1 hb with hb|hb;(have:=b5 b hb;omega);(have:=hFl b hb;omega)) sD Aa fun d4 aa ct br=>?_
   have c8:d3.heap.size≤d4.heap.size:=aa.size
   have bs:AF w d4:=aa.below b1 (fun c hc=>A8 hwB (ah.low c hc)) b1.size
   have cu:=ag.chg aa fun hm=>by have:=ah.low _ hm;have:=hFl _ hm;omega
   have cv:=bq.chg g1<|aa.sub fun b hb=>z1 _ hb
   have cw:=a0.chg (o1) aa fun c hc=>zH<|hFl c hc
   refine Aj<|Ab _ [0,0] Z<|AQ ((j+1:Nat):Int) Z Z (Be oM sD) Aa<|Ac 1 Z ?_
   have hbe:=br
   exact⟨(j+1,us.set (((T.code.getD j Az.zero).num).toNat) aj),_,rfl,zR,⟨bs,oM,(by first|(rw[Ld oM];exact hbe)|(rw[Le oM];exact hbe))⟩,zD⟩
  refine Ap false Z Z (A6 av) Aa<|Aj<|Ai Z<|A2<|Ab _ [0,0] Z<|AQ ((j+1:Nat):Int) Z Z (Be oM sD) Aa<|Ac 1 Z ?_
  have hbe:=af
  exact⟨(j+1,us),_,rfl,zR,⟨ae,oM,(by first|(rw[Ld oM];exact hbe)|(rw[Le oM];exact hbe))⟩,zD⟩
 exact AE false Z Z (A6 ar) Aa<|Aj<|A0<|Ai Z<|A4<|Ay<|Ay<|At<|ZN [0,0] Z<|Ac 2 Z<|A1<|Af [4] Z vo Z ⟨_,rfl,ad,(by have h9:=(hbl.done hSB);rw[show j=T.code.length from by omega,b4]at h9;exact h9),hbl.cap⟩
theorem Iy (w:World)(r:Int)(vm:Nat)(m:Int)(_hr:Bk r)(hcm:He w.heap (zP vm)=some (zI m))(_hm:Bk m)(hm:0≤m∧m≤1000000) :
  Calls Tryz.prog 126 #[zI r,zP vm] w (fun e w'=>e=.returned (.bool (!(decide (0≤r) && decide (r≤m-1))))∧AF w w'):=by
 refine As [zI r,zP vm] 9 Tryz.func126 Z Z sM ?_
 have a0:AF w w:=AF.refl w
 refine ZO Z<|ZN [0,2,0,0,0,0] Z<|Ad 1 Z<|Ae (.inr Z) (zI m) AC Z (Bc a0 hcm) Aa ?_
 refine Bi (m-((1:Nat):Int)) Z Z (CT sD sD) Aa ?_
 exact AB 66 [] [] [zI r,zI ((0:Nat):Int),zI (m-((1:Nat):Int))] Z Z EL Aa (.bool (decide (((0:Nat):Int)≤r) && decide (r≤(m-((1:Nat):Int))))) (fun wq=>B4 wq _ _ _ _hr oM oM)<|Bd (!(decide (((0:Nat):Int)≤r) && decide (r≤(m-((1:Nat):Int))))) Z Z Aa<|Ac 1 Z<|A1<|Af [3] Z (.bool (!(decide (((0:Nat):Int)≤r) && decide (r≤(m-((1:Nat):Int)))))) Z ⟨AL (by first|rfl|simp_all),a0⟩
theorem HD {p:Prop}(h:p:=by first|rfl|exact AL (A5 oM)|(exfalso;(try unfold DI at hf);omega)):p:=h
theorem Es {p:Prop}(h:p:=by rw[A5 oM,A5 oM];rfl):p:=h
theorem I8 (w:World)(ni:Nat)(ipT:Int)(vtc vtg vtx:Value)(T:Tp)(oT:Sr)(c:Az)(k:Int)(_hipT:Bk ipT)(htcT:RN [] (Cj 4 Jy) w.heap vtc T.code)(htgT:RN [] (Cj 2 Jz) w.heap vtg T.grd)(htoT:RN [] (B5 rI) w.heap vtx oT)(hc:OG c)(_hk:Bk k)(hip:ipT=(ni:Int)∧ni≤12)(hk:0≤k∧k≤4000)(hf:DI ni k.toNat c) :
  Calls Tryz.prog 125 #[(.agg #[(zI ipT),vtc,vtg,vtx]),(.agg #[(zI c.op),(zI c.a),(zI c.b),(zI c.num)]),zI k] w (fun e w'=>e=.returned (.bool true)∧AF w w'):=by
 refine As [.agg #[zI ipT,vtc,vtg,vtx],.agg #[zI c.op,zI c.a,zI c.b,zI c.num],zI k] 81 Tryz.func125 Z Z sM ?_
 have af:AF w w:=AF.refl w
 have hl_vtx:=htoT.lenL
 unfold maxLen at hl_vtx
 refine ZN [3,3,0] Z (Bj (cs:=#[zI ipT,vtc,vtg,vtx]) Z Aa fun w1 ac am a8=>?_)
 have ag:=ac.size
 have ah:=af.trans ac
 replace a8:BX w1.heap w.heap.size [zI ipT,vtc,vtg,vtx]:=a8
 have an:=a8.lt
 refine Bj (cs:=#[zI c.op,zI c.a,zI c.b,zI c.num]) Z Aa fun w2 a9 ao a0=>?_
 have ai:=a9.size
 have a1:=ah.trans a9
 have a2:=a8.ext a9
 replace a0:BX w2.heap w1.heap.size [zI c.op,zI c.a,zI c.b,zI c.num]:=a0
 refine Ac 1 Z<|A0<|ZN [0,2] Z<|Ak (p:=zP w1.heap.size) 0 GR Z Z Aa<|Ae (p:=An (zP w1.heap.size) 0) (.inr Z) (zI c.op) AC Z (a0.ldp (i:=0) sM) Aa<|Aj<|A3<|ZN [0,0] Z ?_
 by_cases ad:c.op=((1:Nat):Int)
 ·refine Ap true Z Z (A5 ad) Aa<|Ac 1 Z<|Ah Z<|ZN [0,2,0,0,0,2,0,0,0,0,2,0,2,0,0,0,0] Z ?_
  unfold DI at hf
  refine Ak (p:=zP w1.heap.size) 1 Bt Z Z Aa<|Ae (p:=An (zP w1.heap.size) 1) (.inr Z) (zI c.a) AC Z (a0.ldp (i:=1) sM) Aa ?_
  have aj:c.a=((0:Nat):Int):=oM
  refine Ap true Z Z (A5 aj) Aa<|Ad 1 Z<|Ak (p:=zP w1.heap.size) 2 Bu Z Z (Ag (e:=14) Z Z Z)<|Ae (p:=An (zP w1.heap.size) 2) (.inr Z) (zI c.b) AC Z (a0.ldp (i:=2) sM) (Ag (e:=14) Z Z Z) ?_
  have ak:c.b=((0:Nat):Int):=oM
  refine Ap true Z Z (A5 ak) (Ag (e:=14) Z Z Z)<|Ad 2 Z<|Ak (p:=zP w1.heap.size) 3 Cy Z Z (Ag (e:=19) Z Z Z)<|Ae (p:=An (zP w1.heap.size) 3) (.inr Z) (zI c.num) AC Z (a0.ldp (i:=3) sM) (Ag (e:=19) Z Z Z)<|Ak (p:=zP w.heap.size) 0 Ga Z Z (Ag (e:=19) Z Z Z)<|Ae (p:=An (zP w.heap.size) 0) (.inr Z) (zI ipT) AC Z (a2.ldp (i:=0) sM) (Ag (e:=19) Z Z Z) ?_
  refine Bi (ipT-((1:Nat):Int)) Z Z (CT sD sD) (Ag (e:=19) Z Z Z) ?_
  refine AB 66 [] [] [zI c.num,zI ((0:Nat):Int),zI (ipT-((1:Nat):Int))] Z Z EL (Ag (e:=19) Z Z Z) (.bool (decide (((0:Nat):Int)≤c.num) && decide (c.num≤(ipT-((1:Nat):Int))))) (fun wq=>B4 wq _ _ _ hc.2.2.2 oM oM) ?_
  rw[show(decide (((0:Nat):Int)≤c.num) && decide (c.num≤(ipT-((1:Nat):Int))))=true from Es]
  exact Ac 2 Z<|A1<|AH<|Ao<|Af [6] Z (.bool true) Z ⟨HD,a1⟩
 refine Ap false Z Z (A6 ad) Aa<|Ac 1 Z<|Ai Z<|ZN [0,0] Z ?_
 by_cases ae:c.op=((2:Nat):Int)
 ·refine Ap true Z Z (A5 ae) Aa<|Ac 1 Z<|Ah Z<|ZN [0,2,0,0,0,2,0,0,0,0,2,0,0,0] Z ?_
  unfold DI at hf
  refine Ak (p:=zP w1.heap.size) 1 Bt Z Z Aa<|Ae (p:=An (zP w1.heap.size) 1) (.inr Z) (zI c.a) AC Z (a0.ldp (i:=1) sM) Aa ?_
  have al:c.a=((0:Nat):Int):=oM
  refine Ap true Z Z (A5 al) Aa<|Ad 1 Z<|Ak (p:=zP w1.heap.size) 2 Bu Z Z (Ag (e:=32) Z Z Z)<|Ae (p:=An (zP w1.heap.size) 2) (.inr Z) (zI c.b) AC Z (a0.ldp (i:=2) sM) (Ag (e:=32) Z Z Z) ?_
  have aa:c.b=((0:Nat):Int):=oM
  refine Ap true Z Z (A5 aa) (Ag (e:=32) Z Z Z)<|Ad 2 Z<|Ak (p:=zP w1.heap.size) 3 Cy Z Z (Ag (e:=37) Z Z Z)<|Ae (p:=An (zP w1.heap.size) 3) (.inr Z) (zI c.num) AC Z (a0.ldp (i:=3) sM) (Ag (e:=37) Z Z Z)<|AB 117 [] [] [zI c.num] Z Z Sf (Ag (e:=37) Z Z Z) (.bool<|HZ c.num) (fun wq=>ET wq _ hc.2.2.2) ?_
  rw[show(HZ c.num)=true from CY.2 ⟨zO,zO⟩]
  exact Ac 2 Z<|A1<|AH<|Ao<|Af [6] Z (.bool true) Z ⟨HD,a1⟩
 refine Ap false Z Z (A6 ae) Aa<|Ac 1 Z<|Ai Z<|A0<|ZN [0,0] Z ?_
 by_cases a3:c.op=((3:Nat):Int)
 ·refine Ap true Z Z (A5 a3) Aa<|Ac 1 Z<|Ah Z<|A2<|Ah Z<|ZN [0,2,0,0,0,0,0,2,0,0,0,0,0,0,2,0,0,0] Z ?_
  unfold DI at hf
  refine Ak (p:=zP w1.heap.size) 1 Bt Z Z Aa<|Ae (p:=An (zP w1.heap.size) 1) (.inr Z) (zI c.a) AC Z (a0.ldp (i:=1) sM) Aa<|Ad 1 Z ?_
  refine Bi (k-((1:Nat):Int)) Z Z (CT sD sD) Aa ?_
  refine AB 66 [] [] [zI c.a,zI ((0:Nat):Int),zI (k-((1:Nat):Int))] Z Z EL Aa (.bool (decide (((0:Nat):Int)≤c.a) && decide (c.a≤(k-((1:Nat):Int))))) (fun wq=>B4 wq _ _ _ hc.2.1 oM oM) ?_
  rw[show(decide (((0:Nat):Int)≤c.a) && decide (c.a≤(k-((1:Nat):Int))))=true from Es]
  refine Ad 1 Z<|Ak (p:=zP w1.heap.size) 2 Bu Z Z (Ag (e:=52) Z Z Z)<|Ae (p:=An (zP w1.heap.size) 2) (.inr Z) (zI c.b) AC Z (a0.ldp (i:=2) sM) (Ag (e:=52) Z Z Z)<|Ad 1 Z ?_
  refine Bi (k-((1:Nat):Int)) Z Z (CT sD sD) (Ag (e:=52) Z Z Z) ?_
  refine AB 66 [] [] [zI c.b,zI ((0:Nat):Int),zI (k-((1:Nat):Int))] Z Z EL (Ag (e:=52) Z Z Z) (.bool (decide (((0:Nat):Int)≤c.b) && decide (c.b≤(k-((1:Nat):Int))))) (fun wq=>B4 wq _ _ _ hc.2.2.1 oM oM) ?_
  rw[show(decide (((0:Nat):Int)≤c.b) && decide (c.b≤(k-((1:Nat):Int))))=true from Es]
  exact Ad 2 Z<|Ak (p:=zP w1.heap.size) 3 Cy Z Z (Ag (e:=59) Z Z Z)<|Ae (p:=An (zP w1.heap.size) 3) (.inr Z) (zI c.num) AC Z (a0.ldp (i:=3) sM) (Ag (e:=59) Z Z Z)<|Ap (decide (c.num=((0:Nat):Int))) Z Z Z (Ag (e:=59) Z Z Z)<|Ac 2 Z<|A1<|AH<|Ao<|Af [6] Z (.bool<|decide (c.num=((0:Nat):Int))) Z ⟨HD,a1⟩
 refine Ap false Z Z (A6 a3) Aa<|Ac 1 Z<|Ai Z<|ZN [0,0] Z ?_
 by_cases a4:c.op=((4:Nat):Int)
 ·refine Ap true Z Z (A5 a4) Aa<|Ac 1 Z<|Ah Z<|A2<|Ah Z<|ZN [0,2,0,0,0,0,0,2,0,0,0,0,0,0,2,0,0,0] Z ?_
  unfold DI at hf
  refine Ak (p:=zP w1.heap.size) 1 Bt Z Z Aa<|Ae (p:=An (zP w1.heap.size) 1) (.inr Z) (zI c.a) AC Z (a0.ldp (i:=1) sM) Aa<|Ad 1 Z ?_
  refine Bi (k-((1:Nat):Int)) Z Z (CT sD sD) Aa ?_
  refine AB 66 [] [] [zI c.a,zI ((0:Nat):Int),zI (k-((1:Nat):Int))] Z Z EL Aa (.bool (decide (((0:Nat):Int)≤c.a) && decide (c.a≤(k-((1:Nat):Int))))) (fun wq=>B4 wq _ _ _ hc.2.1 oM oM) ?_
  rw[show(decide (((0:Nat):Int)≤c.a) && decide (c.a≤(k-((1:Nat):Int))))=true from Es]
  refine Ad 1 Z<|Ak (p:=zP w1.heap.size) 2 Bu Z Z (Ag (e:=52) Z Z Z)<|Ae (p:=An (zP w1.heap.size) 2) (.inr Z) (zI c.b) AC Z (a0.ldp (i:=2) sM) (Ag (e:=52) Z Z Z)<|Ad 1 Z ?_
  refine Bi (k-((1:Nat):Int)) Z Z (CT sD sD) (Ag (e:=52) Z Z Z) ?_
  refine AB 66 [] [] [zI c.b,zI ((0:Nat):Int),zI (k-((1:Nat):Int))] Z Z EL (Ag (e:=52) Z Z Z) (.bool (decide (((0:Nat):Int)≤c.b) && decide (c.b≤(k-((1:Nat):Int))))) (fun wq=>B4 wq _ _ _ hc.2.2.1 oM oM) ?_
  rw[show(decide (((0:Nat):Int)≤c.b) && decide (c.b≤(k-((1:Nat):Int))))=true from Es]
  exact Ad 2 Z<|Ak (p:=zP w1.heap.size) 3 Cy Z Z (Ag (e:=59) Z Z Z)<|Ae (p:=An (zP w1.heap.size) 3) (.inr Z) (zI c.num) AC Z (a0.ldp (i:=3) sM) (Ag (e:=59) Z Z Z)<|Ap (decide (c.num=((0:Nat):Int))) Z Z Z (Ag (e:=59) Z Z Z)<|Ac 2 Z<|A1<|AH<|Ao<|Af [6] Z (.bool<|decide (c.num=((0:Nat):Int))) Z ⟨HD,a1⟩
 refine Ap false Z Z (A6 a4) Aa<|Ac 1 Z<|Ai Z<|ZN [0,0] Z ?_
 by_cases a5:c.op=((5:Nat):Int)
 ·refine Ap true Z Z (A5 a5) Aa<|Ac 1 Z<|Ah Z<|A2<|Ah Z<|ZN [0,2,0,0,0,0,0,2,0,0,0,0,0,0,2,0,0,0] Z ?_
  unfold DI at hf
  refine Ak (p:=zP w1.heap.size) 1 Bt Z Z Aa<|Ae (p:=An (zP w1.heap.size) 1) (.inr Z) (zI c.a) AC Z (a0.ldp (i:=1) sM) Aa<|Ad 1 Z ?_
  refine Bi (k-((1:Nat):Int)) Z Z (CT sD sD) Aa ?_
  refine AB 66 [] [] [zI c.a,zI ((0:Nat):Int),zI (k-((1:Nat):Int))] Z Z EL Aa (.bool (decide (((0:Nat):Int)≤c.a) && decide (c.a≤(k-((1:Nat):Int))))) (fun wq=>B4 wq _ _ _ hc.2.1 oM oM) ?_
  rw[show(decide (((0:Nat):Int)≤c.a) && decide (c.a≤(k-((1:Nat):Int))))=true from Es]
  refine Ad 1 Z<|Ak (p:=zP w1.heap.size) 2 Bu Z Z (Ag (e:=52) Z Z Z)<|Ae (p:=An (zP w1.heap.size) 2) (.inr Z) (zI c.b) AC Z (a0.ldp (i:=2) sM) (Ag (e:=52) Z Z Z)<|Ad 1 Z ?_
  refine Bi (k-((1:Nat):Int)) Z Z (CT sD sD) (Ag (e:=52) Z Z Z) ?_
  refine AB 66 [] [] [zI c.b,zI ((0:Nat):Int),zI (k-((1:Nat):Int))] Z Z EL (Ag (e:=52) Z Z Z) (.bool (decide (((0:Nat):Int)≤c.b) && decide (c.b≤(k-((1:Nat):Int))))) (fun wq=>B4 wq _ _ _ hc.2.2.1 oM oM) ?_
  rw[show(decide (((0:Nat):Int)≤c.b) && decide (c.b≤(k-((1:Nat):Int))))=true from Es]
  exact Ad 2 Z<|Ak (p:=zP w1.heap.size) 3 Cy Z Z (Ag (e:=59) Z Z Z)<|Ae (p:=An (zP w1.heap.size) 3) (.inr Z) (zI c.num) AC Z (a0.ldp (i:=3) sM) (Ag (e:=59) Z Z Z)<|Ap (decide (c.num=((0:Nat):Int))) Z Z Z (Ag (e:=59) Z Z Z)<|Ac 2 Z<|A1<|AH<|Ao<|Af [6] Z (.bool<|decide (c.num=((0:Nat):Int))) Z ⟨HD,a1⟩
 refine Ap false Z Z (A6 a5) Aa<|Ac 1 Z<|Ai Z<|Ab _ [0,0] Z ?_
 by_cases a6:c.op=((6:Nat):Int)
 ·refine Ap true Z Z (A5 a6) Aa<|Ac 1 Z<|Ah Z<|ZN [0,2,0,0,0,0,0,2,0,0,0,0,0,0,2,0,0,0] Z ?_
  unfold DI at hf
  refine Ak (p:=zP w1.heap.size) 1 Bt Z Z Aa<|Ae (p:=An (zP w1.heap.size) 1) (.inr Z) (zI c.a) AC Z (a0.ldp (i:=1) sM) Aa<|Ad 1 Z ?_
  refine Bi (k-((1:Nat):Int)) Z Z (CT sD sD) Aa ?_
  refine AB 66 [] [] [zI c.a,zI ((0:Nat):Int),zI (k-((1:Nat):Int))] Z Z EL Aa (.bool (decide (((0:Nat):Int)≤c.a) && decide (c.a≤(k-((1:Nat):Int))))) (fun wq=>B4 wq _ _ _ hc.2.1 oM oM) ?_
  rw[show(decide (((0:Nat):Int)≤c.a) && decide (c.a≤(k-((1:Nat):Int))))=true from Es]
  refine Ad 1 Z<|Ak (p:=zP w1.heap.size) 2 Bu Z Z (Ag (e:=52) Z Z Z)<|Ae (p:=An (zP w1.heap.size) 2) (.inr Z) (zI c.b) AC Z (a0.ldp (i:=2) sM) (Ag (e:=52) Z Z Z)<|Ad 1 Z ?_
  refine Bi (k-((1:Nat):Int)) Z Z (CT sD sD) (Ag (e:=52) Z Z Z) ?_
  refine AB 66 [] [] [zI c.b,zI ((0:Nat):Int),zI (k-((1:Nat):Int))] Z Z EL (Ag (e:=52) Z Z Z) (.bool (decide (((0:Nat):Int)≤c.b) && decide (c.b≤(k-((1:Nat):Int))))) (fun wq=>B4 wq _ _ _ hc.2.2.1 oM oM) ?_
  rw[show(decide (((0:Nat):Int)≤c.b) && decide (c.b≤(k-((1:Nat):Int))))=true from Es]
  exact Ad 2 Z<|Ak (p:=zP w1.heap.size) 3 Cy Z Z (Ag (e:=59) Z Z Z)<|Ae (p:=An (zP w1.heap.size) 3) (.inr Z) (zI c.num) AC Z (a0.ldp (i:=3) sM) (Ag (e:=59) Z Z Z)<|Ap (decide (c.num=((0:Nat):Int))) Z Z Z (Ag (e:=59) Z Z Z)<|Ac 2 Z<|A1<|AH<|Ao<|Af [6] Z (.bool<|decide (c.num=((0:Nat):Int))) Z ⟨HD,a1⟩
 refine Ap false Z Z (A6 a6) Aa<|Ac 1 Z<|Ai Z<|ZN [0,0] Z ?_
 by_cases a7:c.op=((7:Nat):Int)
 ·refine Ap true Z Z (A5 a7) Aa<|Ac 1 Z<|Ah Z<|ZN [0,2,0,0,0,0,0,2,0,0,0,0,2,0,0,0] Z ?_
  unfold DI at hf
  refine Ak (p:=zP w1.heap.size) 1 Bt Z Z Aa<|Ae (p:=An (zP w1.heap.size) 1) (.inr Z) (zI c.a) AC Z (a0.ldp (i:=1) sM) Aa<|Ad 1 Z ?_
  refine Bi (k-((1:Nat):Int)) Z Z (CT sD sD) Aa ?_
  refine AB 66 [] [] [zI c.a,zI ((0:Nat):Int),zI (k-((1:Nat):Int))] Z Z EL Aa (.bool (decide (((0:Nat):Int)≤c.a) && decide (c.a≤(k-((1:Nat):Int))))) (fun wq=>B4 wq _ _ _ hc.2.1 oM oM) ?_
  rw[show(decide (((0:Nat):Int)≤c.a) && decide (c.a≤(k-((1:Nat):Int))))=true from Es]
  refine Ad 1 Z<|Ak (p:=zP w1.heap.size) 2 Bu Z Z (Ag (e:=71) Z Z Z)<|Ae (p:=An (zP w1.heap.size) 2) (.inr Z) (zI c.b) AC Z (a0.ldp (i:=2) sM) (Ag (e:=71) Z Z Z) ?_
  have ab:c.b=((0:Nat):Int):=oM
  exact Ap true Z Z (A5 ab) (Ag (e:=71) Z Z Z)<|Ad 2 Z<|Ak (p:=zP w1.heap.size) 3 Cy Z Z (Ag (e:=76) Z Z Z)<|Ae (p:=An (zP w1.heap.size) 3) (.inr Z) (zI c.num) AC Z (a0.ldp (i:=3) sM) (Ag (e:=76) Z Z Z)<|Ap (decide (c.num=((0:Nat):Int))) Z Z Z (Ag (e:=76) Z Z Z)<|Ac 2 Z<|A1<|AH<|Ao<|Af [6] Z (.bool<|decide (c.num=((0:Nat):Int))) Z ⟨HD,a1⟩
 exact Ap false Z Z (A6 a7) Aa<|Ac 1 Z<|Ai Z<|A2<|ZO Z<|A1<|Af [6] Z (.bool false) Z ⟨HD,a1⟩
theorem JS (w:World)(a:Sr)(ipT:Int)(vtc vtg vtx:Value)(T:Tp)(oT:Sr)(_hipT:Bk ipT)(htcT:RN [] (Cj 4 Jy) w.heap vtc T.code)(htgT:RN [] (Cj 2 Jz) w.heap vtg T.grd)(htoT:RN [] (B5 rI) w.heap vtx oT)(hip:ipT=(a.length:Int))(hR:Ob a T oT) :
  Calls Tryz.prog 65 #[(.agg #[(zI ipT),vtc,vtg,vtx])] w (fun e w'=>e=.returned (.bool true)∧AF w w'):=by
 refine As [.agg #[zI ipT,vtc,vtg,vtx]] 67 Tryz.func65 Z Z sM ?_
 have bm:AF w w:=AF.refl w
 have hl_vtx:=htoT.lenL
 unfold maxLen at hl_vtx
 have hK:=hR.k
 have hni:=hK.nb
 have hcl:=hK.cl
 have cn:=hK.gl
 have hol:=hK.ol
 have hpos:=hK.pos
 refine ZN [3,0] Z (Bj (cs:=#[zI ipT,vtc,vtg,vtx]) Z Aa fun w1 b2 bw ab=>?_)
 have b3:=b2.size
 have bn:=bm.trans b2
 replace ab:BX w1.heap w.heap.size [zI ipT,vtc,vtg,vtx]:=ab
 refine Ac 1 Z<|A0<|ZN [0,2,0,0,0,0,2,0,0,0,0,0,2,0,0,0,0,0,2,0,0,0,0] Z<|Ak (p:=zP w.heap.size) 0 Ga Z Z Aa<|Ae (p:=An (zP w.heap.size) 0) (.inr Z) (zI ipT) AC Z (ab.ldp (i:=0) sM) Aa<|AB 66 [] [] [zI ipT,zI ((0:Nat):Int),zI ((12:Nat):Int)] Z Z EL Aa (.bool (decide (((0:Nat):Int)≤ipT) && decide (ipT≤((12:Nat):Int)))) (fun wq=>B4 wq _ _ _ _hipT oM oM) ?_
 rw[show(decide (((0:Nat):Int)≤ipT) && decide (ipT≤((12:Nat):Int)))=true from Es]
 refine Bd false Z Z Aa<|Ad 1 Z<|Ak (p:=zP w.heap.size) 1 Cb Z Z (Ag (e:=12) Z Z Z)<|Ae (p:=An (zP w.heap.size) 1) (.inr Z) vtc Dv Z (ab.ldp (i:=1) sM) (Ag (e:=12) Z Z Z)<|AP (v:=vtc) IP Z htcT.isSl (Ag (e:=12) Z Z Z) ?_
 have bx:¬(((3200:Nat):Int)<(T.code.length:Int)):=oM
 refine BU false Z Z (A6 bx) (Ag (e:=12) Z Z Z)<|Ad 2 Z<|Ak (p:=zP w.heap.size) 2 GQ Z Z (Ag (e:=18) Z Z Z)<|Ae (p:=An (zP w.heap.size) 2) (.inr Z) vtg Lk Z (ab.ldp (i:=2) sM) (Ag (e:=18) Z Z Z)<|AP (v:=vtg) T5 Z htgT.isSl (Ag (e:=18) Z Z Z) ?_
 have bz:¬(((3200:Nat):Int)<(T.grd.length:Int)):=oM
 refine BU false Z Z (A6 bz) (Ag (e:=18) Z Z Z)<|Ad 2 Z<|Ak (p:=zP w.heap.size) 3 Em Z Z (Ag (e:=24) Z Z Z)<|Ae (p:=An (zP w.heap.size) 3) (.inr Z) vtx AZ Z (ab.ldp (i:=3) sM) (Ag (e:=24) Z Z Z)<|AP (v:=vtx) Bl Z htoT.slL (Ag (e:=24) Z Z Z)<|AB 66 [] [] [zI (oT.length:Int),zI ((1:Nat):Int),zI ((12:Nat):Int)] Z Z EL (Ag (e:=24) Z Z Z) (.bool (decide (((1:Nat):Int)≤(oT.length:Int)) && decide ((oT.length:Int)≤((12:Nat):Int)))) (fun wq=>B4 wq _ _ _ oM oM oM) ?_
 rw[show(decide (((1:Nat):Int)≤(oT.length:Int)) && decide ((oT.length:Int)≤((12:Nat):Int)))=true from Es]
 refine Bd false Z Z (Ag (e:=24) Z Z Z)<|Ac 1 Z<|Ai Z<|A2<|ZN [0,2,0,3,4] Z<|Ak (p:=zP w.heap.size) 1 Cb Z Z Aa<|Ae (p:=An (zP w.heap.size) 1) (.inr Z) vtc Dv Z (ab.ldp (i:=1) sM) Aa<|AP (v:=vtc) IP Z htcT.isSl Aa ?_
 have ce:=ab.lt
 refine Br (z:=zI (0:Int)) (by kernel_rfl) Aa fun w6 b0 c0 b4=>?_
 have b5:=b0.size
 have b6:=bn.trans b0
 have aq:=ab.ext b0
 replace b4:BX w6.heap w1.heap.size [zI (0:Int)]:=b4
 refine BH (k:=0) (w:=w6) I3 Z Z ⟨rfl,rfl⟩ b4 sM Aa fun w8 b1 c1 b7=>?_
 replace b7:BX w8.heap w1.heap.size [zI (T.code.length:Int)]:=b7
 have bo:AF w w8:=b1.below b6 (fun _ h=>zE h) b6.size
 have b8:w6.heap.size≤w8.heap.size:=b1.size
 have b9:=aq.chg b1 (zB ·)
 refine Aj<|A0<|ZN [0,2,0,0] Z<|Ak (p:=zP w.heap.size) 1 Cb Z Z Aa<|Ae (p:=An (zP w.heap.size) 1) (.inr Z) vtc Dv Z (b9.ldp (i:=1) sM) Aa<|AP (v:=vtc) IP Z htcT.isSl Aa<|Ac 1 Z<|A3 ?_
 refine AT (S:=Nat) (fun k=>([(37,zI (k:Int)),(1,zP w.heap.size),(3,zP w1.heap.size),(35,vtc),(36,zI (T.code.length:Int))])) (fun k W=>AF w W∧BX W.heap w.heap.size [zI ipT,vtc,vtg,vtx]∧BX W.heap w1.heap.size [zI (T.code.length:Int)]∧k≤T.code.length) (fun k=>T.code.length-k) 0 ⟨rfl,rfl,rfl,rfl,rfl,trivial⟩ ⟨bo,b9,b7,oM⟩ ?_
 clear bm bw b2 b3 bn c0 b0 b5 b6 c1 b1 bo b8 b9
 rintro k ρ10 ci ⟨a8,a0,a1,ba⟩
 have ar:w.heap.size≤ci.heap.size:=a8.size
 have c2:=a0.lt
 have c3:=a1.lt
 refine ZN [0] Z ?_
 by_cases au:(k:Int)<(T.code.length:Int)
 ·refine AE true Z Z (A5 au) Aa<|Aj<|A0<|Ah Z<|A2<|A0<|A3<|ZN [0,0,2,3,0,4] Z<|Ad 1 Z<|Au (v:=vtc) k IP EM Z Z htcT.isSl Z sD Aa ?_
  obtain⟨cs14,bb,bc⟩:=htcT.get AW Az.zero (k:=k) sD
  obtain⟨rfl,ac⟩:=Hr bb
  refine AJ (p:=Aw vtc k 4) (.inr Z) [zI<|(T.code.getD k Az.zero).op,zI<|(T.code.getD k Az.zero).a,zI<|(T.code.getD k Az.zero).b,zI<|(T.code.getD k Az.zero).num] DE Z (fun cg ak=>bc cg<|AA.of_ext []<|a8.trans ak) Z Aa ?_
  have c4:=a0.lt
  have c5:=a1.lt
  refine Br (z:=.agg #[zI 0,zI 0,zI 0,zI 0]) OS Aa fun ck ad c6 al=>?_
  have bp:=ad.size
  have av:=a8.trans ad
  have a4:=a0.ext ad
  have a5:=a1.ext ad
  replace al:BX ck.heap ci.heap.size [zI 0,zI 0,zI 0,zI 0]:=al
  refine Ad 1 Z (Ce (vs:=[zI<|(T.code.getD k Az.zero).op,zI<|(T.code.getD k Az.zero).a,zI<|(T.code.getD k Az.zero).b,zI<|(T.code.getD k Az.zero).num]) DE Z Z (by intro u hu;simp only[ze,z2,or_false]at hu;rcases hu with rfl|rfl|rfl|rfl <;> first|exact⟨rfl,rfl⟩) al Z Z Aa fun ch ae c7 am=>?_)
  replace am:BX ch.heap ci.heap.size [zI ((T.code.getD k Az.zero).op),zI ((T.code.getD k Az.zero).a),zI ((T.code.getD k Az.zero).b),zI ((T.code.getD k Az.zero).num)]:=am
  have af:AF w ch:=ae.below av (fun _ h=>zE h) av.size
  have bq:ck.heap.size≤ch.heap.size:=ae.size
  have aw:=a4.chg ae (zB ·)
  have bd:=a5.chg ae (zB ·)
  refine Aj<|ZN [2,2,0,3,0] Z<|AJ (p:=zP w.heap.size) (.inr Z) [zI ipT,vtc,vtg,vtx] E8 Z (fun cg ak=>LD.of_box<|BX.ext (w:=ch) aw ak) Z Aa<|AJ (p:=zP ci.heap.size) (.inr Z) [zI<|(T.code.getD k Az.zero).op,zI<|(T.code.getD k Az.zero).a,zI<|(T.code.getD k Az.zero).b,zI<|(T.code.getD k Az.zero).num] DE Z (fun cg ak=>LD.of_box<|BX.ext (w:=ch) am ak) Z Aa<|Ad 1 Z ?_
  refine Am 125 [] [] [.agg #[zI ipT,vtc,vtg,vtx],.agg #[zI<|(T.code.getD k Az.zero).op,zI<|(T.code.getD k Az.zero).a,zI<|(T.code.getD k Az.zero).b,zI<|(T.code.getD k Az.zero).num],zI (k:Int)] Z Z XL Aa (I8 _ a.length (ipT) vtc vtg vtx (T) (oT) (⟨(T.code.getD k Az.zero).op,(T.code.getD k Az.zero).a,(T.code.getD k Az.zero).b,(T.code.getD k Az.zero).num⟩:Az) _ _hipT (htcT.ext (Al AW) af) (htgT.ext (Al B6) af) (htoT.ext g1 af) ⟨ac.1,ac.2.1,ac.2.2.1,ac.2.2.2⟩ oM oM oM (by have h9:=hK.form k oM;rw[Int.toNat_natCast];exact h9)) ?_
  rintro co cp ⟨rfl,a9⟩
  refine⟨_,rfl,a9,?_⟩
  have br:=a9.size
  have be:=af.trans a9
  have ag:=aw.ext a9
  have ah:=bd.ext a9
  exact Bd false Z Z Aa<|Aj<|Ai Z<|A2<|Ab _ [0,0] Z<|AQ ((k+1:Nat):Int) Z Z (Be oM sD) Aa<|Ac 1 Z ⟨k+1,_,rfl,zR,⟨be,ag,ah,oM⟩,zD⟩
 refine AE false Z Z (A6 au) Aa<|Aj<|A0<|Ai Z<|A4<|Ay<|Ay<|At<|A0<|ZN [0,2,0,0] Z<|Ak (p:=zP w.heap.size) 2 GQ Z Z Aa<|Ae (p:=An (zP w.heap.size) 2) (.inr Z) vtg Lk Z (a0.ldp (i:=2) sM) Aa<|AP (v:=vtg) T5 Z htgT.isSl Aa<|Ac 1 Z<|A3 ?_
 refine AT (S:=Nat) (fun j=>([(51,zI (j:Int)),(1,zP w.heap.size),(3,zP w1.heap.size),(49,vtg),(50,zI (T.grd.length:Int))])) (fun j W=>AF w W∧BX W.heap w.heap.size [zI ipT,vtc,vtg,vtx]∧BX W.heap w1.heap.size [zI (T.code.length:Int)]∧j≤T.grd.length) (fun j=>T.grd.length-j) 0 ⟨rfl,rfl,rfl,rfl,rfl,trivial⟩ ⟨a8,a0,a1,oM⟩ ?_
 clear a1 a0 a8 ar
 rintro j ρ22 cf ⟨aa,a2,a3,bf⟩
 have bs:w.heap.size≤cf.heap.size:=aa.size
 have c8:=a2.lt
 have c9:=a3.lt
 refine ZN [0] Z ?_
 by_cases ax:(j:Int)<(T.grd.length:Int)
 ·refine AE true Z Z (A5 ax) Aa<|Aj<|A0<|Ah Z<|A2<|A0<|A3<|ZN [0,2,3,4] Z<|Au (v:=vtg) j T5 JE Z Z htgT.isSl Z sD Aa ?_
  obtain⟨cs26,bg,bh⟩:=htgT.get B6 Gr.zero (k:=j) sD
  obtain⟨rfl,bi⟩:=RR bg
  refine AJ (p:=Aw vtg j 2) (.inr Z) [zI<|(T.grd.getD j Gr.zero).reg,.bool<|(T.grd.getD j Gr.zero).z] Ss Z (fun cg ak=>bh cg<|AA.of_ext []<|aa.trans ak) Z Aa ?_
  have ca:=a2.lt
  have cb:=a3.lt
  refine Br (z:=.agg #[zI 0,.bool false]) YC Aa fun cm ai cc an=>?_
  have bt:=ai.size
  have ay:=aa.trans ai
  have a6:=a2.ext ai
  have a7:=a3.ext ai
  replace an:BX cm.heap cf.heap.size [zI 0,.bool false]:=an
  refine Ce (vs:=[zI<|(T.grd.getD j Gr.zero).reg,.bool<|(T.grd.getD j Gr.zero).z]) Ss Z Z (by intro u hu;simp only[ze,z2,or_false]at hu;rcases hu with rfl|rfl <;> first|exact⟨rfl,rfl⟩) an Z Z Aa fun cj aj cd ao=>?_
  replace ao:BX cj.heap cf.heap.size [zI ((T.grd.getD j Gr.zero).reg),.bool ((T.grd.getD j Gr.zero).z)]:=ao
  have bj:AF w cj:=aj.below ay (fun _ h=>zE h) ay.size
  have bu:cm.heap.size≤cj.heap.size:=aj.size
  have bk:=a6.chg aj (zB ·)
  have az:=a7.chg aj (zB ·)
  refine Aj<|ZN [0,2,2,0,0,0] Z ?_
  have hgj:=hK.gd j oM
  refine Ak (p:=zP cf.heap.size) 0 PZ Z Z Aa<|Ae (p:=An (zP cf.heap.size) 0) (.inr Z) (zI<|(T.grd.getD j Gr.zero).reg) AC Z (ao.ldp (i:=0) sM) Aa<|Ae (p:=zP w1.heap.size) (.inr Z) (zI (T.code.length:Int)) AC Z (az.ld (k:=0) sM) Aa ?_
  refine Bi ((T.code.length:Int)-((1:Nat):Int)) Z Z (CT sD sD) Aa ?_
  refine AB 66 [] [] [zI<|(T.grd.getD j Gr.zero).reg,zI ((0:Nat):Int),zI ((T.code.length:Int)-((1:Nat):Int))] Z Z EL Aa (.bool (decide (((0:Nat):Int)≤((T.grd.getD j Gr.zero).reg)) && decide (((T.grd.getD j Gr.zero).reg)≤((T.code.length:Int)-((1:Nat):Int))))) (fun wq=>B4 wq _ _ _ bi oM oM) ?_
  rw[show(decide (((0:Nat):Int)≤((T.grd.getD j Gr.zero).reg)) && decide (((T.grd.getD j Gr.zero).reg)≤((T.code.length:Int)-((1:Nat):Int))))=true from Es]
  exact Bd false Z Z Aa<|Aj<|Ai Z<|A2<|Ab _ [0,0] Z<|AQ ((j+1:Nat):Int) Z Z (Be oM sD) Aa<|Ac 1 Z ⟨j+1,_,rfl,zR,⟨bj,bk,az,oM⟩,zD⟩
 refine AE false Z Z (A6 ax) Aa<|Aj<|A0<|Ai Z<|A4<|Ay<|Ay<|At<|ZN [0,2,0,3,0,0] Z<|Ak (p:=zP w.heap.size) 3 Em Z Z Aa<|Ae (p:=An (zP w.heap.size) 3) (.inr Z) vtx AZ Z (a2.ldp (i:=3) sM) Aa<|ME [] [zP w1.heap.size] Z Z Aa ?_
 refine Am 115 [] [] [vtx,.func (.func 126) #[] #[zP w1.heap.size]] Z Z UE Aa (Ci _ _ _ 126 [] [zP w1.heap.size] (fun x=>!(decide (0≤x) && decide (x≤(T.code.length:Int)-1))) (htoT.ext g1 aa).rd XM fun x hx wz hw=>Iy wz x w1.heap.size (T.code.length:Int) hx ((BX.ext (w:=cf) a3 hw).ld (k:=0) sM) oM oM) ?_
 rintro cq cr ⟨rfl,ap⟩
 refine⟨_,rfl,ap,?_⟩
 have bv:=ap.size
 have bl:=aa.trans ap
 rw[show(oT.any (fun x=>!(decide (0≤x) && decide (x≤(T.code.length:Int)-1))))=false from hK.any]
 exact Bd true Z Z Aa<|Ac 1 Z<|A1<|Af [2] Z (.bool true) Z ⟨rfl,bl⟩
theorem Nj (w:World)(a:Sr)(ipT:Int)(vtc vtg vtx:Value)(T:Tp)(oT:Sr)(vl:Value)(L:List (Sr))(_hipT:Bk ipT)(htcT:RN [] (Cj 4 Jy) w.heap vtc T.code)(htgT:RN [] (Cj 2 Jz) w.heap vtg T.grd)(htoT:RN [] (B5 rI) w.heap vtx oT)(hL:RN [] (B5 (B5 rI)) w.heap vl L)(hqL:BV vl)(hip:ipT=(a.length:Int))(hR:Ob a T oT)(hLL:∀k,k<L.length→(L.getD k []).length=a.length∧B9 (L.getD k [])=true) :
  Calls Tryz.prog 129 #[(.agg #[(zI ipT),vtc,vtg,vtx]),vl] w (fun e w'=>e=.returned (zI 0)∧AF w w'):=by
 refine As [.agg #[zI ipT,vtc,vtg,vtx],vl] 22 Tryz.func129 Z Z sM ?_
 have ac:AF w w:=AF.refl w
 have hl_vtx:=htoT.lenL
 unfold maxLen at hl_vtx
 have ap:=hL.lenL
 unfold maxLen at ap
 refine ZN [3,0] Z (Bj (cs:=#[zI ipT,vtc,vtg,vtx]) Z Aa fun w1 a8 ai a6=>?_)
 have a9:=a8.size
 have a2:=ac.trans a8
 replace a6:BX w1.heap w.heap.size [zI ipT,vtc,vtg,vtx]:=a6
 refine Ac 1 Z<|A0<|ZN [2,3,0] Z<|AJ (p:=zP w.heap.size) (.inr Z) [zI ipT,vtc,vtg,vtx] E8 Z (fun aq aj=>LD.of_box<|BX.ext (w:=w1) a6 aj) Z Aa<|Am 65 [] [] [.agg #[zI ipT,vtc,vtg,vtx]] Z Z Zs Aa (JS _ a (ipT) vtc vtg vtx (T) (oT) _hipT (htcT.ext (Al AW) a2) (htgT.ext (Al B6) a2) (htoT.ext g1 a2) oM hR) ?_
 rintro e2 w2 ⟨rfl,a3⟩
 refine⟨_,rfl,a3,?_⟩
 have aa:=a3.size
 have ad:=a2.trans a3
 have a4:=a6.ext a3
 refine Bd false Z Z Aa<|Aj<|Ai Z<|A2<|A0<|ZN [0,0,0] Z<|Ad 1 Z<|AP (v:=vl) Bs Z hL.slL Aa<|Ac 1 Z<|A3<|AT (S:=Nat) (fun k=>([(12,zI (k:Int)),(2,zP w.heap.size),(10,vl),(11,zI (L.length:Int))])) (fun k W=>AF w W∧BX W.heap w.heap.size [zI ipT,vtc,vtg,vtx]∧k≤L.length) (fun k=>L.length-k) 0 ⟨rfl,rfl,rfl,rfl,trivial⟩ ⟨ad,a4,oM⟩ ?_
 clear ac ai a8 a9 a2 a3 aa ad
 rintro k ρ3 w3 ⟨a5,a0,ae⟩
 have ak:w.heap.size≤w3.heap.size:=a5.size
 have ao:=a0.lt
 refine ZN [0] Z ?_
 by_cases af:(k:Int)<(L.length:Int)
 ·refine AE true Z Z (A5 af) Aa<|Aj<|A0<|Ah Z<|A2<|A0<|A3<|ZN [0,2,0] Z<|Au (v:=vl) k Bs AV Z Z hL.slL Z sD Aa ?_
  obtain⟨ag,al,ah⟩:=RN.getL (w:=w) g1 [] (k:=k) hL sD
  have ab:=ah.lenL
  unfold maxLen at ab
  refine Ae (p:=Aw vl k 1) (.inr Z) ag AZ Z (al _<|AA.of_ext [] a5) Aa<|Ac 1 Z<|ZN [0,0,2,3,0] Z ?_
  have hLk:=hLL k oM
  refine Ad 1 Z<|Ak (p:=zP w.heap.size) 0 Ga Z Z Aa<|Ae (p:=An (zP w.heap.size) 0) (.inr Z) (zI ipT) AC Z (a0.ldp (i:=0) sM) Aa<|Am 57 [] [] [ag,zI ipT] Z Z TV Aa (Dg _ _ _ _ (ah.ext g1 a5).rd _hipT) ?_
  rintro e7 w7 ⟨rfl,a7⟩
  refine⟨_,rfl,a7,?_⟩
  have am:=a7.size
  have an:=a5.trans a7
  have a1:=a0.ext a7
  rw[show(decide ((((L.getD k []).length:Nat):Int)=ipT) && B9 (L.getD k []))=true from(by rw[A5 oM,hLk.2];rfl)]
  exact Bd false Z Z Aa<|Aj<|Ai Z<|A2<|Ab _ [0,0] Z<|AQ ((k+1:Nat):Int) Z Z (Be oM sD) Aa<|Ac 1 Z ⟨k+1,_,rfl,zR,⟨an,a1,oM⟩,zD⟩
 exact AE false Z Z (A6 af) Aa<|Aj<|A0<|Ai Z<|A4<|Ay<|Ay<|At<|ZO Z<|A1<|Af [4] Z (zI ((0:Nat):Int)) Z ⟨rfl,a5⟩
theorem Nk (w:World)(va:Value)(a:Sr)(vd:Value)(d:Sr)(ha:Rd (B5 rI) w.heap va a)(hd:Rd (B5 rI) w.heap vd d)(hl:d.length=a.length)(hla:a.length≤1000) :
  Calls Tryz.prog 121 #[va,vd] w (fun e w'=>∃v0:Value,e=.returned (v0)∧AF w w'∧Fr (Bo (Bo rI 2) 27) w.heap.size w'.heap.size w'.heap v0 (LR a d 2)):=by
 refine As [va,vd] 27 Tryz.func121 Z Z sM ?_
 have a9:AF w w:=AF.refl w
 have au:=ha.lenle
 have av:=hd.lenle
 refine ZO Z<|ZN [3,0] Z (Cp (Bo rI 2) o1 Bs AV Aa fun v1 w1 a4 af aa=>?_)
 have a5:=a4.size
 have ab:=a9.trans a4
 refine Ac 1 Z<|A0<|ZN [0,0,0] Z<|Ad 1 Z<|AP (v:=va) Bl Z ha.isSl Aa<|Ac 1 Z<|A3 ?_
 refine AT (S:=Nat×Value) (fun⟨k,vo⟩=>([(5,vo),(11,zI (k:Int)),(1,vd),(9,va),(10,zI (a.length:Int))])) (fun⟨k,vo⟩ W=>AF w W∧Fr (Bo (Bo rI 2) 27) w.heap.size W.heap.size W.heap vo ((LR a d 2).take k)∧k≤a.length) (fun⟨k,vo⟩=>a.length-k) (0,v1) ⟨rfl,rfl,rfl,rfl,rfl,trivial⟩ ⟨ab,aa.up o2,sD⟩ ?_
 clear a9 aa af a4 a5 ab
 rintro⟨k,vo⟩ ρ2 w2 ⟨a3,a2,ac⟩
 have ag:w.heap.size≤w2.heap.size:=a3.size
 refine ZN [0] Z ?_
 by_cases ad:(k:Int)<(a.length:Int)
 ·refine AE true Z Z (A5 ad) Aa<|Aj<|A0<|Ah Z<|A2<|A0<|A3<|ZN [0,0,2,0,0] Z<|Ad 1 Z<|Au (v:=va) k Bl BD Z Z ha.isSl Z sD Aa ?_
  refine Ae (p:=Aw va k 1) (.inr Z) (zI<|a.getD k 0) AC Z (Bc a3 (ha.getI sD).1) Aa<|Ac 2 Z<|Ab _ [0,0,0,0,0,2,3,3,4,0] Z<|Ad 4 Z ?_
  refine Au (v:=vd) k Bl BD Z Z hd.isSl Z sD Aa ?_
  refine Ae (p:=Aw vd k 1) (.inr Z) (zI<|d.getD k 0) AC Z (Bc a3 (hd.getI sD).1) Aa ?_
  refine Us (ys:=[a.getD k 0,d.getD k 0]) AK Bl BD Z Z Z Z (Xm (ha.getI sD).2 (hd.getI sD).2) Aa fun v4 w4 a6 aq ah=>?_
  have ai:=a6.size
  have aj:=a3.trans a6
  have a0:=a2.ext (o2) a6
  refine By (u:=v4) (B:=w2.heap.size) o1 Bs AV Z Z ah (by first|exact A7 _|omega) Aa fun v5 w5 a7 ar ak=>?_
  have al:=a7.size
  have a8:=aj.trans a7
  have a1:=a0.ext (o2) a7
  refine GF o1 (v:=vo) (a:=v5) Bs AV Z Z Z a1 a8.size ak oM a3.size sD (by unfold maxLen;first|omega|assumption|(simp;done)|(simp;omega)) Aa fun v6 w6 F6 ae am an=>?_
  have ao:AF w w6:=ae.below a8 (fun c hc=>A8 (A7 _) (am c hc).1) a8.size
  have ap:w5.heap.size≤w6.heap.size:=ae.size
  refine Ac 1 Z<|Ab _ [0,0] Z<|AQ ((k+1:Nat):Int) Z Z (Be oM sD) Aa<|Ac 1 Z ?_
  exact⟨(k+1,v6),_,rfl,zR,⟨ao,(by rw[Dn [] (by simp;omega),TL oM];exact an.up o2),sD⟩,zD⟩
 exact AE false Z Z (A6 ad) Aa<|Aj<|A0<|Ai Z<|A4<|Ay<|Ay<|At<|ZN [0,0] Z<|Ac 2 Z<|A1<|Af [4] Z vo Z ⟨vo,rfl,a3,(by have h:=a2.up o2;rwa [za (by simp;omega)]at h)⟩
theorem Lw (w:World)(ipT:Int)(vtc vtg vtx:Value)(T:Tp)(oT:Sr)(va:Value)(a:Sr)(vw:Value)(ws:Sr)(vd:Value)(d:Sr)(_hipT:Bk ipT)(htcT:RN [] (Cj 4 Jy) w.heap vtc T.code)(htgT:RN [] (Cj 2 Jz) w.heap vtg T.grd)(htoT:RN [] (B5 rI) w.heap vtx oT)(ha:Rd (B5 rI) w.heap va a)(hws:Rd (B5 rI) w.heap vw ws)(hd:Rd (B5 rI) w.heap vd d)(hip:ipT=(a.length:Int))(hR:Ob a T oT)(hw:ws.length=oT.length∧B9 ws=true)(hdd:d.length=a.length∧B9 d=true) :
  Calls Tryz.prog 119 #[(.agg #[(zI ipT),vtc,vtg,vtx]),va,vw,vd] w (fun e w'=>e=.returned (zI 0)∧AF w w'):=by
 refine As [.agg #[zI ipT,vtc,vtg,vtx],va,vw,vd] 26 Tryz.func119 Z Z sM ?_
 have ab:AF w w:=AF.refl w
 have hl_vtx:=htoT.lenL
 unfold maxLen at hl_vtx
 have ah:=ha.lenle
 have an:=hws.lenle
 have ao:=hd.lenle
 have hK:=hR.k
 have hni:=hK.nb
 have hcl:=hK.cl
 have ap:=hK.gl
 have hol:=hK.ol
 have hpos:=hK.pos
 refine ZN [3,0] Z (Bj (cs:=#[zI ipT,vtc,vtg,vtx]) Z Aa fun w1 a8 al a3=>?_)
 have ac:=a8.size
 have a6:=ab.trans a8
 replace a3:BX w1.heap w.heap.size [zI ipT,vtc,vtg,vtx]:=a3
 refine Ac 1 Z<|ZN [2,0,0,3,3,0] Z<|AJ (p:=zP w.heap.size) (.inr Z) [zI ipT,vtc,vtg,vtx] E8 Z (fun aq ad=>LD.of_box<|BX.ext (w:=w1) a3 ad) Z Aa<|Ad 2 Z (PO (x0:=a) (x1:=d) Bs AV Z Z Z (RN.of<|ha.ext g1 a6) (RN.of<|hd.ext g1 a6) Aa fun v2 w2 a7 am a9 ae=>?_)
 have af:=a7.size
 have a4:=a6.trans a7
 have a0:=a3.ext a7
 refine Am 129 [] [] [.agg #[zI ipT,vtc,vtg,vtx],v2] Z Z XN Aa (Nj _ a (ipT) vtc vtg vtx (T) (oT) v2 ([a,d]) _hipT (htcT.ext (Al AW) a4) (htgT.ext (Al B6) a4) (htoT.ext g1 a4) a9 ae oM hR (by intro k hk;match k,hk with|0,_=>exact⟨rfl,hR.n⟩|1,_=>exact hdd)) ?_
 rintro e3 w3 ⟨rfl,a1⟩
 refine⟨_,rfl,a1,?_⟩
 have ag:=a1.size
 have aa:=a4.trans a1
 have a2:=a0.ext a1
 refine Ac 1 Z<|A0<|ZN [0,0,0,0,0,2,0,3,0,0] Z<|Ad 1 Z ?_
 have ai:0=((0:Nat):Int):=rfl
 refine Ap true Z Z (A5 ai) Aa<|Ad 2 Z<|Ak (p:=zP w.heap.size) 3 Em Z Z (Ag (e:=17) Z Z Z)<|Ae (p:=An (zP w.heap.size) 3) (.inr Z) vtx AZ Z (a2.ldp (i:=3) sM) (Ag (e:=17) Z Z Z)<|AP (v:=vtx) Bl Z htoT.slL (Ag (e:=17) Z Z Z)<|Am 57 [] [] [vw,zI (oT.length:Int)] Z Z TV (Ag (e:=17) Z Z Z) (Dg _ _ _ _ (hws.ext g1 aa) oM) ?_
 rintro e6 w6 ⟨rfl,a5⟩
 refine⟨_,rfl,a5,?_⟩
 have aj:=a5.size
 have ak:=aa.trans a5
 rw[show(decide ((ws.length:Int)=(oT.length:Int)) && B9 ws)=true from(by rw[A5 oM,hw.2];rfl)]
 exact Bd false Z Z (Ag (e:=17) Z Z Z)<|Ac 1 Z<|Ai Z<|A2<|ZN [0,0] Z<|Ac 2 Z<|A1<|Af [8] Z (zI 0) Z ⟨rfl,ak⟩
theorem Nl (w:World)(ipT:Int)(vtc vtg vtx:Value)(T:Tp)(oT:Sr)(va:Value)(a:Sr)(vw:Value)(ws:Sr)(vd:Value)(d:Sr)(_hipT:Bk ipT)(htcT:RN [] (Cj 4 Jy) w.heap vtc T.code)(htgT:RN [] (Cj 2 Jz) w.heap vtg T.grd)(htoT:RN [] (B5 rI) w.heap vtx oT)(ha:Rd (B5 rI) w.heap va a)(hws:Rd (B5 rI) w.heap vw ws)(hd:Rd (B5 rI) w.heap vd d)(hip:ipT=(a.length:Int))(hR:Ob a T oT)(hw:ws.length=oT.length∧B9 ws=true)(hdd:d.length=a.length∧B9 d=true) :
  Calls Tryz.prog 60 #[(.agg #[(zI ipT),vtc,vtg,vtx]),va,vw,vd] w (fun e w'=>∃v0:Value,e=.returned (.tuple #[v0,zI 0])∧AF w w'∧RN [] (B5 (B5 rI)) w'.heap v0 (I2 T.code (BR 2 (LR a d 2) T.code) oT ws)∧BV v0):=by
 refine As [.agg #[zI ipT,vtc,vtg,vtx],va,vw,vd] 36 Tryz.func60 Z Z sM ?_
 have ak:AF w w:=AF.refl w
 have hl_vtx:=htoT.lenL
 unfold maxLen at hl_vtx
 have ay:=ha.lenle
 have az:=hws.lenle
 have b0:=hd.lenle
 have hK:=hR.k
 have hni:=hK.nb
 have hcl:=hK.cl
 have b2:=hK.gl
 have hol:=hK.ol
 have hpos:=hK.pos
 refine ZN [3,0,0] Z (Bj (cs:=#[zI ipT,vtc,vtg,vtx]) Z Aa fun w1 aj ax ab=>?_)
 have al:=aj.size
 have a3:=ak.trans aj
 replace ab:BX w1.heap w.heap.size [zI ipT,vtc,vtg,vtx]:=ab
 refine Ac 2 Z<|A0<|ZN [2,0,0,0,3,0] Z<|AJ (p:=zP w.heap.size) (.inr Z) [zI ipT,vtc,vtg,vtx] E8 Z (fun b1 a5=>LD.of_box<|BX.ext (w:=w1) ab a5) Z Aa<|Ad 3 Z<|Am 119 [] [] [.agg #[zI ipT,vtc,vtg,vtx],va,vw,vd] Z Z XH Aa (Lw _ (ipT) vtc vtg vtx (T) (oT) _ _ _ _ _ _ _hipT (htcT.ext (Al AW) a3) (htgT.ext (Al B6) a3) (htoT.ext g1 a3) (ha.ext g1 a3) (hws.ext g1 a3) (hd.ext g1 a3) oM hR hw hdd) ?_
 rintro e2 w2 ⟨rfl,ac⟩
 refine⟨_,rfl,ac,?_⟩
 have am:=ac.size
 have ag:=a3.trans ac
 have a2:=ab.ext ac
 refine Ac 1 Z<|ZN [0,0] Z<|Ad 1 Z ?_
 have an:¬(0≠((0:Nat):Int)):=(fun h9=>h9 Z)
 refine AU false Z Z (A6 an) Aa<|Aj<|Ai Z<|A2<|A0<|AO _ [1,0,0,3,3,0,0,0,0,0] mixed (by kernel_rfl)<|AJ (p:=zP w.heap.size) (.inl Z) [zI ipT,vtc,vtg,vtx] E8 Z (fun b1 a5=>LD.of_box<|BX.ext (w:=w2.drew) a2 a5) Z Aa<|Ad 2 Z<|Am 121 [] [] [va,vd] Z Z XJ Aa (Nk _ _ _ _ _ (ha.ext g1 ag.drew) (hd.ext g1 ag.drew) oM oM) ?_
 rintro e4 w4 ⟨a6,rfl,a4,a0⟩
 refine⟨_,rfl,a4,?_⟩
 replace a4:=a4.of_drew
 have ao:=a4.size
 have ad:=ag.trans a4
 have a7:=a2.ext a4
 replace a0:=a0.low (B':=w2.heap.size)<|A7 _
 refine Am 120 [] [] [.agg #[zI ipT,vtc,vtg,vtx],a6,zI ((1:Nat):Int)] Z Z XI Aa (Hb _ (ipT) vtc vtg vtx (T) (oT) a6 (LR a d 2) ((1:Nat):Int) _hipT (htcT.ext (Al AW) ad) (htgT.ext (Al B6) ad) (htoT.ext g1 ad) (RN.of_fr2 a0 fun b hb=>absurd hb z2) a0.cap oM oM (by exact MW hR.n hdd.2) (by intro k hk;rw[Ja];exact hR.k.form k hk) oM) ?_
 rintro e5 w5 ⟨v5,c5,rfl,ae,a8,ah⟩
 refine⟨_,rfl,ae,?_⟩
 have ap:=ae.size
 have a9:=ad.trans ae
 have aa:=a7.ext ae
 have aq:c5=0∨c5=6:=by unfold Xp at a8;omega
 have hcz:c5=0:=by rcases a8 with h9|h9;exact h9.1;exact absurd (hR.nz hdd.2) h9.2
 obtain⟨a1,hrvc⟩:=ah hcz
 replace a1:RN [] (B5 (B5 rI)) w5.heap v5 (BR 2 (LR a d 2) T.code):=a1
 refine Ad 1 Z<|B7 (vs:=[v5,zI c5]) v5 Z Z Aa<|B7 (vs:=[v5,zI c5]) (zI c5) Z Z Aa<|Ac 2 Z<|A0<|ZN [0,0] Z<|Ad 1 Z ?_
 have ar:¬(c5≠((0:Nat):Int)):=(fun h9=>h9 hcz)
 refine AU false Z Z (A6 ar) Aa<|Aj<|Ai Z<|A2<|ZN [2,0,0,3,0,0] Z<|AJ (p:=zP w.heap.size) (.inr Z) [zI ipT,vtc,vtg,vtx] E8 Z (fun b1 a5=>LD.of_box<|BX.ext (w:=w5) aa a5) Z Aa<|Ad 2 Z<|Am 122 [] [] [.agg #[zI ipT,vtc,vtg,vtx],v5,vw] Z Z XK Aa (HB _ 2 a.length [] (ipT) vtc vtg vtx (T) (oT) v5 (BR 2 (LR a d 2) T.code) vw (ws) (fun b hb=>absurd hb z2) _hipT (htcT.ext (Al AW) a9) (htgT.ext (Al B6) a9) (htoT.ext g1 a9) a1 hrvc (hws.ext g1 a9) oM (by exact hR.reg hdd.2) (by rw[BS]) oM oM hR.k.out hw.2 hR.k.form) ?_
 rintro e7 w7 ⟨v7,rfl,af,au,ai⟩
 refine⟨_,rfl,af,?_⟩
 have av:=af.size
 have aw:=a9.trans af
 exact Ac 2 Z<|A1<|Af [8,9] Z (.tuple #[v7,zI ((0:Nat):Int)]) Z ⟨_,rfl,aw,au,ai⟩
theorem Iz (w:World)(ipT:Int)(vtc vtg vtx:Value)(T:Tp)(oT:Sr)(va:Value)(a:Sr)(vw:Value)(ws:Sr)(_hipT:Bk ipT)(htcT:RN [] (Cj 4 Jy) w.heap vtc T.code)(htgT:RN [] (Cj 2 Jz) w.heap vtg T.grd)(htoT:RN [] (B5 rI) w.heap vtx oT)(ha:Rd (B5 rI) w.heap va a)(hws:Rd (B5 rI) w.heap vw ws)(hip:ipT=(a.length:Int))(hR:Ob a T oT)(hw:ws.length=oT.length∧B9 ws=true) :
  Calls Tryz.prog 14 #[(.agg #[(zI ipT),vtc,vtg,vtx]),va,vw] w (fun e w'=>∃v0:Value,e=.returned (.tuple #[v0,zI 0])∧AF w w'∧Fr (Bo rI 2) w.heap.size w'.heap.size w'.heap v0 (EI (RV 2 T oT ws (LR a a 2)))):=by
 refine As [.agg #[zI ipT,vtc,vtg,vtx],va,vw] 25 Tryz.func14 Z Z sM ?_
 have af:AF w w:=AF.refl w
 have hl_vtx:=htoT.lenL
 unfold maxLen at hl_vtx
 have al:=ha.lenle
 have ap:=hws.lenle
 have hK:=hR.k
 have hni:=hK.nb
 have hcl:=hK.cl
 have ar:=hK.gl
 have hol:=hK.ol
 have hpos:=hK.pos
 refine ZN [3,0,0] Z (Bj (cs:=#[zI ipT,vtc,vtg,vtx]) Z Aa fun w1 ab ao a5=>?_)
 have ag:=ab.size
 have a0:=af.trans ab
 replace a5:BX w1.heap w.heap.size [zI ipT,vtc,vtg,vtx]:=a5
 refine Ac 2 Z<|ZN [2,0,0,0,3,0,0,0,0,0] Z<|AJ (p:=zP w.heap.size) (.inr Z) [zI ipT,vtc,vtg,vtx] E8 Z (fun aq a9=>LD.of_box<|BX.ext (w:=w1) a5 a9) Z Aa<|Ad 3 Z<|Am 60 [] [] [.agg #[zI ipT,vtc,vtg,vtx],va,vw,va] Z Z Zq Aa (Nl _ (ipT) vtc vtg vtx (T) (oT) va (a) vw (ws) va (a) _hipT (htcT.ext (Al AW) a0) (htgT.ext (Al B6) a0) (htoT.ext g1 a0) (ha.ext g1 a0) (hws.ext g1 a0) (ha.ext g1 a0) oM hR hw (by exact⟨rfl,hR.n⟩)) ?_
 rintro e2 w2 ⟨v2,rfl,a6,ac,aa⟩
 refine⟨_,rfl,a6,?_⟩
 have ah:=a6.size
 have a7:=a0.trans a6
 have a1:=a5.ext a6
 refine Ad 1 Z<|B7 (vs:=[v2,zI 0]) v2 Z Z Aa<|B7 (vs:=[v2,zI 0]) (zI 0) Z Z Aa<|Ac 2 Z<|A0<|ZN [0,0] Z<|Ad 1 Z ?_
 have ai:¬(0≠((0:Nat):Int)):=(fun h9=>h9 Z)
 refine AU false Z Z (A6 ai) Aa<|Aj<|Ai Z<|A2<|ZN [2,0,3,3,0,0] Z<|AJ (p:=zP w.heap.size) (.inr Z) [zI ipT,vtc,vtg,vtx] E8 Z (fun aq a9=>LD.of_box<|BX.ext (w:=w2) a1 a9) Z Aa<|Ad 1 Z<|Am 62 [] [] [.agg #[zI ipT,vtc,vtg,vtx],v2] Z Z Zr Aa (HC _ 2 a.length [] (ipT) vtc vtg vtx (T) (oT) v2 (I2 T.code (BR 2 (LR a a 2) T.code) oT ws) (fun b hb=>absurd hb z2) _hipT (htcT.ext (Al AW) a7) (htgT.ext (Al B6) a7) (htoT.ext g1 a7) ac aa oM oM (by exact hR.adj hR.n) (by rw[Oa,BS];omega) oM hR.k.form) ?_
 rintro e4 w4 ⟨v4,rfl,a8,ad,aj⟩
 refine⟨_,rfl,a8,?_⟩
 have ak:=a8.size
 have ae:=a7.trans a8
 refine Am 61 [] [] [v4] Z Z XC Aa (Ie _ _ _ (ad).rd (by rw[PH];omega) (by intro k hk;have h9:=((PG hR.k.form:C7 2 (TJ a.length 2 T.code<|I2 T.code (BR 2 (LR a a 2) T.code) oT ws)) k hk).1;omega)) ?_
 rintro e6 w6 ⟨a2,rfl,a3,a4⟩
 refine⟨_,rfl,a3,?_⟩
 have am:=a3.size
 have an:=ae.trans a3
 exact Ac 2 Z<|A1<|Af [6,7] Z (.tuple #[a2,zI ((0:Nat):Int)]) Z ⟨a2,rfl,an,(by first|(unfold EI RV;rw[Ja];exact(a4.up o1).low ae.size)|(exfalso;omega))⟩
theorem DT (w:World)(dp:Nat)(vp:Value)(p:List Fn)(f:Int)(va:Value)(a:Sr)(vw:Value)(ws:Sr)(hp:RP [] dp w.heap vp p)(_hf:Bk f)(ha:Rd (B5 rI) w.heap va a)(hws:Rd (B5 rI) w.heap vw ws)(hok:H2 p=true)(hz:Qj p)(hf:0≤f∧f<(p.length:Int))(hl:(a.length:Int)=(p.getD f.toNat Fn.zero).params)(hna:B9 a=true)(hc:GB p f.toNat a=0)(hw:ws.length=(p.getD f.toNat Fn.zero).outs.length∧B9 ws=true) :
  Calls Tryz.prog 80 #[(.agg #[vp]),zI f,va,vw] w (fun e w'=>∃v0:Value,e=.returned (.tuple #[v0,zI 0])∧AF w w'∧Fr (Bo rI 2) w.heap.size w'.heap.size w'.heap v0 (RY p f.toNat a ws)):=by
 refine As [.agg #[vp],zI f,va,vw] 28 Tryz.func80 Z Z sM ?_
 have av:AF w w:=AF.refl w
 have bc:=hp.lenle
 unfold maxLen at bc
 have bj:=ha.lenle
 have bk:=hws.lenle
 have hvp:=HS hok
 have bm:=hvp.par f.toNat oM
 have bn:=hvp.outs f.toNat oM
 refine ZN [3,0,0] Z (Bj (cs:=#[vp]) Z Aa fun w1 aq be ad=>?_)
 have aw:=aq.size
 have ai:=av.trans aq
 replace ad:BX w1.heap w.heap.size [vp]:=ad
 refine Ac 2 Z<|ZN [2,0,0,3,0,0,0,3,4,0] Z<|AJ (p:=zP w.heap.size) (.inr Z) [vp] Df Z (fun bl aj=>LD.of_box<|BX.ext (w:=w1) ad aj) Z Aa<|Ad 2 Z<|Am 12 [] [] [.agg #[vp],zI f,va] Z Z Zj Aa (M4 _ dp vp p (f) va a (hp.ext (Al<|Ax dp) ai) _hf (RN.of<|ha.ext g1 ai) hok hz oM oM hna) ?_
 rintro e2 w2 ⟨i2,a6,au,b4,bd,T2,s2,c2,rfl,ae,a5,ax,ak,al,am⟩
 refine⟨_,rfl,ae,?_⟩
 have ay:=ae.size
 have az:=ai.trans ae
 have a2:=ad.ext ae
 have b0:GB p (f).toNat a=c2:=O6 (A7 1) hvp oM hna (Jc (D3 hna) (FF _)) oM a5
 have an:=AF.refl w2
 refine Ad 1 Z<|B7 (vs:=[.agg #[zI i2,a6,au,b4],zI c2]) (.agg #[zI i2,a6,au,b4]) Z Z Aa<|B7 (vs:=[.agg #[zI i2,a6,au,b4],zI c2]) (zI c2) Z Z Aa ?_
 have bf:=a2.lt
 refine Br (z:=.agg #[zI 0,zN,zN,zN]) U1 Aa fun w3 af bg ao=>?_
 have b1:=af.size
 have ar:=az.trans af
 have b2:=an.trans af
 replace ao:BX w3.heap w2.heap.size [zI 0,zN,zN,zN]:=ao
 refine Ce (vs:=[zI i2,a6,au,b4]) E8 Z Z (fun u hu=>by rcases ze.1 hu with rfl|hu;exact⟨rfl,rfl⟩;exact ak u hu) ao Z Z Aa fun w5 ag bh ap=>?_
 replace ap:BX w5.heap w2.heap.size [zI i2,a6,au,b4]:=ap
 have ah:AF w w5:=ag.below ar (fun _ h=>zE h) ar.size
 have b3:w3.heap.size≤w5.heap.size:=ag.size
 have a4:AA [w2.heap.size] w2 w5:=(AA.of_ext _ b2).trans ag
 have a1:=AF.refl w5
 refine Ac 1 Z<|A0<|ZN [0,0] Z<|Ad 1 Z ?_
 have b5:¬(c2≠((0:Nat):Int)):=oM
 refine AU false Z Z (A6 b5) Aa<|Aj<|Ai Z<|A2<|ZN [2,0,0,3,0,0,0,0] Z ?_
 have a7:c2=0:=by omega
 obtain⟨bi,hTB,b6,hxl,hEn,b7,b8,b9⟩:=am a7
 have a8:=a5
 rw[a7]at a8
 have hRc:Ot p (f).toNat a bd T2:=⟨hvp,zO,zO,hna,_,a8⟩
 have hTR:=hRc.tpr hTB b6
 have a9:RN [] (Cj 4 Jy) w5.heap a6 T2.code:=RN.ext (Al AW) (RN.none (RN.chg (Al AW) (RG.rnG (g:=w2.heap.size) (Al AW) b7 oM) a4)) a1
 have aa:RN [] (Cj 2 Jz) w5.heap au T2.grd:=RN.ext (Al B6) (RN.none (RN.chg (Al B6) (RG.rnG (g:=w2.heap.size) (Al B6) b8 oM) a4)) a1
 have ab:RN [] (B5 rI) w5.heap b4 bd:=RN.ext g1 (RN.none (RN.chg g1 (RG.rnG (g:=w2.heap.size) g1 b9 oM) a4)) a1
 refine AJ (p:=zP w2.heap.size) (.inr Z) [zI i2,a6,au,b4] E8 Z (fun bl aj=>LD.of_box<|BX.ext (w:=w5) ap aj) Z Aa<|Ad 2 Z<|Am 14 [] [] [.agg #[zI i2,a6,au,b4],va,vw] Z Z Zk Aa (Iz _ (i2) a6 au b4 (T2) (bd) _ _ _ _ al a9 aa ab (ha.ext g1 ah) (hws.ext g1 ah) oM hTR (by exact⟨zO,hw.2⟩)) ?_
 rintro e8 w8 ⟨a0,rfl,a3,ac⟩
 refine⟨_,rfl,a3,?_⟩
 have ba:=a3.size
 have bb:=ah.trans a3
 exact B7 (vs:=[a0,zI 0]) a0 Z Z Aa<|B7 (vs:=[a0,zI 0]) (zI 0) Z Z Aa<|Ac 2 Z<|A1<|Af [8,9] Z (.tuple #[a0,zI 0]) Z ⟨a0,rfl,bb,(by have h:=(ac.up o1).low ah.size;rwa [hRc.bkR (m:=2) (by decide) (MW hRc.n hRc.n)<|PL _ _]at h)⟩
theorem Om {p:Prop}(h:p:=by first|(have h:=K3 _ _ _;rw[Io hgc,hLg,show(i+1).toNat=0 from by omega];exact h)|(rw[DA (by rw[E6 hg0];omega)];exact K3 _ _ _)|(rw[DA (by rw[Dz (by rw[El oM];omega)];exact(by rw[El oM];omega))];exact K3 _ _ _)|(rw[DA (by rw[Dz (by rw[FG oM (DF (by assumption))];omega)];exact(by rw[FG oM (DF (by assumption))];omega))];exact K3 _ _ _)):p:=h
theorem Lx {p:Prop}(h:p:=by first|(rw[hgc];done)|(rw[hgc];rfl)|(rw[E6 hg0];done)|(rw[Dz (by rw[El oM];omega),El oM];done)|(rw[Dz (by rw[FG oM (DF (by assumption))];omega),FG oM (DF (by assumption))];rfl)):p:=h
theorem Ly {p:Prop}(h:p:=by first|(rw[hgc];omega)|(rw[E6 hg0];exact ‹Qu p f.toNat a n.toNat›.code)|(rw[Dz (by rw[El oM];omega)];omega)|(rw[Dz (by rw[FG oM (DF (by assumption))];omega)];omega)):p:=h
theorem V1 {p:Prop}(h:p:=by rw[show(i-1+1).toNat=i.toNat from by omega,hLg,show(i+1).toNat=i.toNat+1 from by omega,hti];rfl):p:=h
theorem V2 {p:Prop}(h:p:=by rw[hti];exact(hCh.rc (k:=i.toNat) oM).elim fun _ h=>h.elim fun _ h=>h.bkR_num):p:=h
theorem EN (w:World)(dp:Nat)(vp:Value)(p:List Fn)(f:Int)(va:Value)(a:Sr)(vw:Value)(ws:Sr)(n:Int)(hp:RP [] dp w.heap vp p)(_hf:Bk f)(ha:Rd (B5 rI) w.heap va a)(hws:Rd (B5 rI) w.heap vw ws)(_hn:Bk n)(hz:Qj p) :
  Calls Tryz.prog 24 #[(.agg #[vp]),zI f,va,vw,zI n] w (fun e w'=>∃v0:Value,e=.returned (.tuple #[v0,zI (Fk p f a ws n)])∧AF w w'∧Fr (Bo rI 2) w.heap.size w'.heap.size w'.heap v0 (Ek p f a ws n)∧(0≤Fk p f a ws n∧Fk p f a ws n≤9)):=by
 refine As [.agg #[vp],zI f,va,vw,zI n] 66 Tryz.func24 Z Z sM ?_
 have c4:AF w w:=AF.refl w
 have dc:=hp.lenle
 unfold maxLen at dc
 have dg:=ha.lenle
 have dh:=hws.lenle
 refine ZN [3,0,0] Z (Bj (cs:=#[vp]) Z Aa fun w1 bz ch c0=>?_)
 have bb:=bz.size
 have bc:=c4.trans bz
 replace c0:BX w1.heap w.heap.size [vp]:=c0
 refine Ac 2 Z<|ZN [2,0,0,0,3,3,0] Z<|AJ (p:=zP w.heap.size) (.inr Z) [vp] Df Z (fun dd ay=>LD.of_box<|BX.ext (w:=w1) c0 ay) Z Aa<|Ad 3 Z (PO (x0:=a) (x1:=ws) Bs AV Z Z Z (RN.of<|ha.ext g1 bc) (RN.of<|hws.ext g1 bc) Aa fun v2 w2 bd ci cj d3=>?_)
 have be:=bd.size
 have c1:=bc.trans bd
 have bf:=c0.ext bd
 refine Am 76 [] [] [.agg #[vp],zI f,v2] Z Z Zt Aa (JM _ dp vp (p) _ v2 ([a,ws]) (hp.ext (Al<|Ax dp) c1) _hf cj d3 hz) ?_
 rintro e3 w3 ⟨rfl,b2⟩
 refine⟨_,rfl,b2,?_⟩
 have c5:=b2.size
 have b9:=c1.trans b2
 have ap:=bf.ext b2
 have ck:=cj.ext g2 b2
 refine Ac 1 Z<|A0<|ZN [0,0,0,0,3,0,0] Z ?_
 have hcr:=Px p f [a,ws]
 refine Ad 1 Z ?_
 by_cases cl:I1 p f ([a,ws])=((0:Nat):Int)
 ·refine Ap true Z Z (A5 cl) Aa<|Ad 2 Z<|Am 77 [] [] [zI n] Z Z Zu (Ag (e:=24) Z Z Z) (Kf _ _ _hn) ?_
  rintro e6 w6 ⟨rfl,ba⟩
  refine⟨_,rfl,ba,?_⟩
  have d4:=ba.size
  have bg:=b9.trans ba
  have b1:=ap.ext ba
  have d5:=ck.ext g2 ba
  refine Bd (!(GA n 0 40)) Z Z (Ag (e:=24) Z Z Z)<|Ac 1 Z ?_
  cases cm:(!(GA n 0 40))
  ·refine Ai (by first|rfl|exact zW cm)<|A2<|A0<|ZN [0,0] Z ?_
   have hdr:=Jd (p:=p) (f:=f) (a:=a) (ws:=ws) (n:=n)
   refine Ad 1 Z ?_
   by_cases cn:I1 p f ([a,ws])≠((0:Nat):Int)
   ·refine AU true Z Z (A5 cn) Aa<|Aj<|Ah Z<|ZN [0,0,0] Z<|Ac 3 Z<|A1<|Ao ?_
    exact Af [10,11] Z (.tuple #[zN,zI<|I1 p f<|[a,ws]]) Z ⟨zN,Lx,bg,Om,Ly⟩
   refine AU false Z Z (A6 cn) Aa<|Aj<|Ai Z<|A2<|ZN [2,0,0,0,3,0,0,0,0,0] Z ?_
   have hg0:EK p f a ws n=0:=by first|exact OP oM (Ds (by assumption))|(exfalso;omega)
   have c6:=N1 hg0
   have a6:=PP c6.1
   have hvp:=HS a6.1
   refine AJ (p:=zP w.heap.size) (.inr Z) [vp] Df Z (fun dd ay=>LD.of_box<|BX.ext (w:=w6) b1 ay) Z Aa<|Ad 3 Z<|Am 78 [] [] [.agg #[vp],zI f,va,zI n] Z Z XD Aa (Ef _ dp vp (p) _ _ _ _ (hp.ext (Al<|Ax dp) bg) _hf (ha.ext g1 bg) _hn hvp oM oM a6.2.2.2.1.2 oM oM) ?_
   rintro di da ⟨a0,rfl,aj,aq,c7⟩
   refine⟨_,rfl,aj,?_⟩
   have co:=aj.size
   have a7:=bg.trans aj
   have b3:=b1.ext aj
   have c8:=d5.ext g2 aj
   refine Ad 1 Z<|B7 (vs:=[a0,zI<|FM p f.toNat a n.toNat]) a0 Z Z Aa<|B7 (vs:=[a0,zI<|FM p f.toNat a n.toNat]) (zI<|FM p f.toNat a n.toNat) Z Z Aa<|Ac 2 Z<|A0<|ZN [0,0] Z<|Ad 1 Z ?_
   by_cases bh:FM p f.toNat a n.toNat≠((0:Nat):Int)
   ·refine AU true Z Z (A5 bh) Aa<|Aj<|Ah Z<|ZN [0,0,0] Z<|Ac 3 Z<|A1<|Ao ?_
    exact Af [10,11] Z (.tuple #[zN,zI<|FM p f.toNat a n.toNat]) Z ⟨zN,Lx,a7,Om,Ly⟩
   refine AU false Z Z (A6 bh) Aa<|Aj<|Ai Z<|A2<|ZN [0,3,0] Z ?_
   have hpar:=hvp.par f.toNat oM
   have hrk:FM p f.toNat a n.toNat=0:=by omega
   have hCh:PM p f.toNat a n.toNat:=⟨hvp,zO,a6.2.2.1.2,a6.2.2.2.1.1,a6.2.2.2.1.2,hrk⟩
   have hgc:Fk p f a ws n=0:=by rw[E6 hg0];exact hrk
   have bi:Fr (Bo (Bo rI 2) 27) w6.heap.size da.heap.size da.heap a0 (Du (n.toNat+1) (Dp p f.toNat a)):=by have h:=aq;rwa [L5 hrk]at h
   have htl:(Du (n.toNat+1) (Dp p f.toNat a)).length=n.toNat+1:=by simp[Du]
   refine Ad 1 Z<|Am 79 [] [] [vw] Z Z TY Aa (BM _ _ _ (hws.ext g1 a7) oM) ?_
   rintro dj dk ⟨bj,rfl,a8,ar⟩
   refine⟨_,rfl,a8,?_⟩
   have bk:=a8.size
   have bl:=a7.trans a8
   have b4:=b3.ext a8
   have au:=bi.ext (o2) a8
   have d6:=c8.ext g2 a8
   refine Ac 1 Z<|A0<|ZN [0,0,0] Z<|Ad 1 Z<|Bi (n-1) Z Z (CT oM oM) Aa<|Ac 1 Z<|A3 ?_
   refine AT (S:=Int×Value×Sr) (fun⟨i,vo,L⟩=>([(14,vo),(15,zI i),(1,zI f),(5,zP w.heap.size),(13,a0)])) (fun⟨i,vo,L⟩ W=>AF w W∧Fr (Bo rI 2) da.heap.size W.heap.size W.heap vo L∧Fr (Bo (Bo rI 2) 27) w6.heap.size da.heap.size W.heap a0 (Du (n.toNat+1)<|Dp p f.toNat a)∧BX W.heap w.heap.size [vp]∧(-1≤i∧i<n)∧((L.length:Int)=(p.getD f.toNat Fn.zero).params)∧B9 L=true∧SZ p f.toNat a n.toNat ws=SZ p f.toNat a (i+1).toNat L∧w.heap.size<da.heap.size∧da.heap.size≤W.heap.size) (fun⟨i,vo,L⟩=>(i+1).toNat) (n-1,bj,ws) ⟨rfl,rfl,rfl,rfl,rfl,trivial⟩ ⟨bl,ar.up o1,au,b4,oM,oM,a6.2.2.2.2.2,(by rw[show(n-1+1).toNat=n.toNat from by omega]),oM,oM⟩ ?_
   clear c4 ch bz bb bc ci bd be c1 b2 c5 b9 ba aq aj ar a8 bk bl
   rintro⟨i,vo,L⟩ ρ17 de ⟨az,a2,a9,aa,c9,hLl,hLn,hLg,cp,cq⟩
   have cr:w.heap.size≤de.heap.size:=az.size
   have d7:=aa.lt
   refine A0<|ZN [0,0] Z<|Ad 1 Z ?_
   by_cases bm:((0:Nat):Int)≤i
   ·refine CU true Z Z (A5 bm) Aa<|Aj<|Ah Z<|A2<|A0<|A3<|A0<|AO _ [1,0,0,0,0,1,0,3,0,0,0,0,0] mixed (by kernel_rfl) ?_
    have hti:=Ck (f:=Dp p f.toNat a) (n:=n.toNat+1) (k:=i.toNat) [] oM
    have his:=(hCh.low (k:=i.toNat) oM).st
    have hin:=hCh.nx (k:=i.toNat) oM
    refine AJ (p:=zP w.heap.size) (.inl Z) [vp] Df Z (fun dd ay=>LD.of_box<|BX.ext (w:=de.drew) aa ay) Z Aa<|Ad 3 Z<|Au (v:=a0) ((i).toNat) Bs AV Z Z a9.isSl oM sD Aa ?_
    obtain⟨bn,bo,b5⟩:=a9.rd2.get (k:=(i).toNat) [] sD
    have ct:=b5.lenle
    refine Ae (p:=Aw a0 ((i).toNat) 1) (.inl Z) bn AZ Z bo Aa<|Ad 1 Z<|Am 80 [] [] [.agg #[vp],zI f,bn,vo] Z Z XE Aa (DT _ dp vp (p) _ _ _ _ _ (hp.ext (Al<|Ax dp) az.drew) _hf b5 a2.rd1 a6.1 hz oM (by rw[hti];omega) (by rw[hti];exact his.2) (by rw[hti];exact hin) (by exact⟨zO,hLn⟩)) ?_
    rintro dm dn ⟨ah,rfl,a4,ab⟩
    refine⟨_,rfl,a4,?_⟩
    replace a4:=a4.of_drew
    have cu:=a4.size
    have ca:=az.trans a4
    have ak:=a9.ext (o2) a4
    have al:=aa.ext a4
    have c2:=b5.ext g1 a4
    have cv:=Bc a4 bo
    replace ab:=ab.low (B':=de.heap.size)<|A7 _
    refine Ad 1 Z<|B7 (vs:=[ah,zI 0]) ah Z Z Aa<|B7 (vs:=[ah,zI 0]) (zI 0) Z Z Aa<|Ac 2 Z<|ZN [0,0] Z<|Ad 1 Z ?_
    have cb:¬(0≠((0:Nat):Int)):=(fun h9=>h9 Z)
    exact AU false Z Z (A6 cb) Aa<|Aj<|Ai Z<|A2<|Ab _ [0,0,0] Z<|Ad 1 Z<|Bi (i-1) Z Z (CT oM oM) Aa<|Ac 1 Z ⟨(i-1,ah,RY p f.toNat ((Du (n.toNat+1)<|Dp p f.toNat a).getD ((i).toNat) []) L),_,rfl,zR,⟨ca,(ab.up o1).low oM,ak,al,oM,(by rw[Kw,hti];omega),V2,V1,oM,oM⟩,zD⟩
   refine CU false Z Z (A6 bm) Aa<|Aj<|Ai Z<|A4<|Ay<|Ay<|At<|ZN [0,0,0] Z<|Ac 3 Z<|A1 ?_
   exact Af [10,11] Z (.tuple #[vo,zI ((0:Nat):Int)]) Z ⟨vo,Lx,az,(by first|(have h:=(a2.up o1).low a7.size;rw[Io hgc,hLg,show(i+1).toNat=0 from by omega];exact h)|(rw[DA (by rw[E6 hg0];omega)];exact(a2.up o1).low a7.size)|(rw[DA (by rw[Dz (by rw[El oM];omega)];exact(by rw[El oM];omega))];exact(a2.up o1).low a7.size)|(rw[DA (by rw[Dz (by rw[FG oM<|DF (by assumption)];omega)];exact(by rw[FG oM<|DF (by assumption)];omega))];exact(a2.up o1).low a7.size)),Ly⟩
  refine Ah (by first|rfl|exact zW cm)<|Ab _ [0] Z<|Ac 1 Z<|A0<|ZN [0,0] Z ?_
  have hdr:=Jd (p:=p) (f:=f) (a:=a) (ws:=ws) (n:=n)
  refine Ad 1 Z<|AU true Z Z (by decide) Aa<|Aj<|Ah Z<|ZN [0,0,0] Z<|Ac 3 Z<|A1<|Ao ?_
  exact Af [10,11] Z (.tuple #[zN,zI ((2:Nat):Int)]) Z ⟨zN,Lx,bg,Om,Ly⟩
 refine Ap false Z Z (A6 cl) Aa<|Ac 5 Z<|Ai Z<|A2<|A0<|ZN [0,0] Z ?_
 have hdr:=Jd (p:=p) (f:=f) (a:=a) (ws:=ws) (n:=n)
 refine Ad 1 Z ?_
 by_cases bp:I1 p f ([a,ws])≠((0:Nat):Int)
 ·refine AU true Z Z (A5 bp) Aa<|Aj<|Ah Z<|ZN [0,0,0] Z<|Ac 3 Z<|A1<|Ao ?_
  exact Af [10,11] Z (.tuple #[zN,zI<|I1 p f<|[a,ws]]) Z ⟨zN,Lx,b9,Om,Ly⟩
 refine AU false Z Z (A6 bp) Aa<|Aj<|Ai Z<|A2<|ZN [2,0,0,0,3,0,0,0,0,0] Z ?_
 have hg0:EK p f a ws n=0:=by first|exact OP oM (Ds (by assumption))|(exfalso;omega)
 have c6:=N1 hg0
 have a6:=PP c6.1
 have hvp:=HS a6.1
 refine AJ (p:=zP w.heap.size) (.inr Z) [vp] Df Z (fun dd ay=>LD.of_box<|BX.ext (w:=w3) ap ay) Z Aa<|Ad 3 Z<|Am 78 [] [] [.agg #[vp],zI f,va,zI n] Z Z XD Aa (Ef _ dp vp (p) _ _ _ _ (hp.ext (Al<|Ax dp) b9) _hf (ha.ext g1 b9) _hn hvp oM oM a6.2.2.2.1.2 oM oM) ?_
 rintro dq db ⟨a1,rfl,am,av,cc⟩
 refine⟨_,rfl,am,?_⟩
 have cw:=am.size
 have ac:=b9.trans am
 have b6:=ap.ext am
 have cd:=ck.ext g2 am
 refine Ad 1 Z<|B7 (vs:=[a1,zI<|FM p f.toNat a n.toNat]) a1 Z Z Aa<|B7 (vs:=[a1,zI<|FM p f.toNat a n.toNat]) (zI<|FM p f.toNat a n.toNat) Z Z Aa<|Ac 2 Z<|A0<|ZN [0,0] Z<|Ad 1 Z ?_
 by_cases bq:FM p f.toNat a n.toNat≠((0:Nat):Int)
 ·refine AU true Z Z (A5 bq) Aa<|Aj<|Ah Z<|ZN [0,0,0] Z<|Ac 3 Z<|A1<|Ao ?_
  exact Af [10,11] Z (.tuple #[zN,zI<|FM p f.toNat a n.toNat]) Z ⟨zN,Lx,ac,Om,Ly⟩
 refine AU false Z Z (A6 bq) Aa<|Aj<|Ai Z<|A2<|ZN [0,3,0] Z ?_
 have hpar:=hvp.par f.toNat oM
 have hrk:FM p f.toNat a n.toNat=0:=by omega
 have hCh:PM p f.toNat a n.toNat:=⟨hvp,zO,a6.2.2.1.2,a6.2.2.2.1.1,a6.2.2.2.1.2,hrk⟩
 have hgc:Fk p f a ws n=0:=by rw[E6 hg0];exact hrk
 have br:Fr (Bo (Bo rI 2) 27) w3.heap.size db.heap.size db.heap a1 (Du (n.toNat+1) (Dp p f.toNat a)):=by have h:=av;rwa [L5 hrk]at h
 have htl:(Du (n.toNat+1) (Dp p f.toNat a)).length=n.toNat+1:=by simp[Du]
 refine Ad 1 Z<|Am 79 [] [] [vw] Z Z TY Aa (BM _ _ _ (hws.ext g1 ac) oM) ?_
 rintro dr ds ⟨bs,rfl,ad,aw⟩
 refine⟨_,rfl,ad,?_⟩
 have bt:=ad.size
 have bu:=ac.trans ad
 have b7:=b6.ext ad
 have ax:=br.ext (o2) ad
 have d8:=cd.ext g2 ad
 refine Ac 1 Z<|A0<|ZN [0,0,0] Z<|Ad 1 Z<|Bi (n-1) Z Z (CT oM oM) Aa<|Ac 1 Z<|A3 ?_
 refine AT (S:=Int×Value×Sr) (fun⟨i,vo,L⟩=>([(14,vo),(15,zI i),(1,zI f),(5,zP w.heap.size),(13,a1)])) (fun⟨i,vo,L⟩ W=>AF w W∧Fr (Bo rI 2) db.heap.size W.heap.size W.heap vo L∧Fr (Bo (Bo rI 2) 27) w3.heap.size db.heap.size W.heap a1 (Du (n.toNat+1)<|Dp p f.toNat a)∧BX W.heap w.heap.size [vp]∧(-1≤i∧i<n)∧((L.length:Int)=(p.getD f.toNat Fn.zero).params)∧B9 L=true∧SZ p f.toNat a n.toNat ws=SZ p f.toNat a (i+1).toNat L∧w.heap.size<db.heap.size∧db.heap.size≤W.heap.size) (fun⟨i,vo,L⟩=>(i+1).toNat) (n-1,bs,ws) ⟨rfl,rfl,rfl,rfl,rfl,trivial⟩ ⟨bu,aw.up o1,ax,b7,oM,oM,a6.2.2.2.2.2,(by rw[show(n-1+1).toNat=n.toNat from by omega]),oM,oM⟩ ?_
 clear c4 ch bz bb bc ci bd be c1 b2 av am aw ad bt bu
 rintro⟨i,vo,L⟩ ρ33 df ⟨b0,a3,ae,af,ce,hLl,hLn,hLg,cx,cy⟩
 have cz:w.heap.size≤df.heap.size:=b0.size
 have d9:=af.lt
 refine A0<|ZN [0,0] Z<|Ad 1 Z ?_
 by_cases bv:((0:Nat):Int)≤i
 ·refine CU true Z Z (A5 bv) Aa<|Aj<|Ah Z<|A2<|A0<|A3<|A0<|AO _ [1,0,0,0,0,1,0,3,0,0,0,0,0] mixed (by kernel_rfl) ?_
  have hti:=Ck (f:=Dp p f.toNat a) (n:=n.toNat+1) (k:=i.toNat) [] oM
  have his:=(hCh.low (k:=i.toNat) oM).st
  have hin:=hCh.nx (k:=i.toNat) oM
  refine AJ (p:=zP w.heap.size) (.inl Z) [vp] Df Z (fun dd ay=>LD.of_box<|BX.ext (w:=df.drew) af ay) Z Aa<|Ad 3 Z<|Au (v:=a1) ((i).toNat) Bs AV Z Z ae.isSl oM sD Aa ?_
  obtain⟨bw,bx,b8⟩:=ae.rd2.get (k:=(i).toNat) [] sD
  have d0:=b8.lenle
  refine Ae (p:=Aw a1 ((i).toNat) 1) (.inl Z) bw AZ Z bx Aa<|Ad 1 Z<|Am 80 [] [] [.agg #[vp],zI f,bw,vo] Z Z XE Aa (DT _ dp vp (p) _ _ _ _ _ (hp.ext (Al<|Ax dp) b0.drew) _hf b8 a3.rd1 a6.1 hz oM (by rw[hti];omega) (by rw[hti];exact his.2) (by rw[hti];exact hin) (by exact⟨zO,hLn⟩)) ?_
  rintro dt du ⟨ai,rfl,a5,ag⟩
  refine⟨_,rfl,a5,?_⟩
  replace a5:=a5.of_drew
  have d1:=a5.size
  have cf:=b0.trans a5
  have an:=ae.ext (o2) a5
  have ao:=af.ext a5
  have c3:=b8.ext g1 a5
  have d2:=Bc a5 bx
  replace ag:=ag.low (B':=df.heap.size)<|A7 _
  refine Ad 1 Z<|B7 (vs:=[ai,zI 0]) ai Z Z Aa<|B7 (vs:=[ai,zI 0]) (zI 0) Z Z Aa<|Ac 2 Z<|ZN [0,0] Z<|Ad 1 Z ?_
  have cg:¬(0≠((0:Nat):Int)):=(fun h9=>h9 Z)
  exact AU false Z Z (A6 cg) Aa<|Aj<|Ai Z<|A2<|Ab _ [0,0,0] Z<|Ad 1 Z<|Bi (i-1) Z Z (CT oM oM) Aa<|Ac 1 Z ⟨(i-1,ai,RY p f.toNat ((Du (n.toNat+1)<|Dp p f.toNat a).getD ((i).toNat) []) L),_,rfl,zR,⟨cf,(ag.up o1).low oM,an,ao,oM,(by rw[Kw,hti];omega),V2,V1,oM,oM⟩,zD⟩
 refine CU false Z Z (A6 bv) Aa<|Aj<|Ai Z<|A4<|Ay<|Ay<|At<|ZN [0,0,0] Z<|Ac 3 Z<|A1 ?_
 exact Af [10,11] Z (.tuple #[vo,zI ((0:Nat):Int)]) Z ⟨vo,Lx,b0,(by first|(have h:=(a3.up o1).low ac.size;rw[Io hgc,hLg,show(i+1).toNat=0 from by omega];exact h)|(rw[DA (by rw[E6 hg0];omega)];exact(a3.up o1).low ac.size)|(rw[DA (by rw[Dz (by rw[El oM];omega)];exact(by rw[El oM];omega))];exact(a3.up o1).low ac.size)|(rw[DA (by rw[Dz (by rw[FG oM<|DF (by assumption)];omega)];exact(by rw[FG oM<|DF (by assumption)];omega))];exact(a3.up o1).low ac.size)),Ly⟩
theorem M5 (w:World)(a:Int)(b:Int)(_ha:Bk a)(_hb:Bk b)  :
  Calls Tryz.prog 250 #[zI a,zI b] w (fun e w'=>e=.returned (zI (max a b))∧w'=w):=by
 refine As [zI a,zI b] 10 Tryz.func250 Z Z sM ?_
 have a0:w=w:=rfl
 refine ZO Z<|A0<|ZN [0,0,0] Z<|Ad 2 Z ?_
 by_cases a1:b<a
 ·exact BU true Z Z (A5 a1) Aa<|Aj<|Ah Z<|ZN [0,0] Z<|Ac 2 Z<|A1<|Ao<|Af [4] Z (zI a) Z ⟨AS oM,a0⟩
 exact BU false Z Z (A6 a1) Aa<|Aj<|Ai Z<|A2<|ZN [0,0] Z<|Ac 2 Z<|A1<|Af [4] Z (zI b) Z ⟨AS oM,a0⟩
theorem SL {p:Prop}(h:p:=by rw[TC,hx];first|rw[za oM]|exact(Mq oM).symm):p:=h
theorem HE (w:World)(dex:Nat)(ve:Value)(ex:Ex)(left:Int)(hex:RN [] (rP (H0 dex)) w.heap ve ex)(_hleft:Bk left)(af:0≤left∧left≤100000)(hs:ex.size≤1000000000) :
  Calls Tryz.prog 190 #[ve,zI left] w (fun e w'=>e=.returned (zI (I0 ex left))∧AF w w'):=by
 induction dex using Nat.strongRecOn generalizing w ve ex left
 rename_i dex ih
 refine As [ve,zI left] 30 Tryz.func190 Z Z sM ?_
 have a6:AF w w:=AF.refl w
 have hsk:=Cd ex
 refine ZO Z<|ZN [0,0,0] Z<|Ad 1 Z<|Bi (left-1) Z Z (CT oM oM) Aa<|Ac 1 Z<|A0<|ZO Z<|A3 ?_
 refine AT (S:=Nat×Int) (fun⟨k,x⟩=>([(1,zI x),(5,zI (k:Int)),(0,ve)])) (fun⟨k,x⟩ W=>AF w W∧k≤ex.kids.length∧x=Da (ex.kids.take k) (left-1)∧(-1≤x∧x≤left)) (fun⟨k,x⟩=>ex.kids.length-k) (0,left-1) ⟨rfl,rfl,rfl,trivial⟩ ⟨a6,sD,(by rw[List.take_zero,Da]),oM⟩ ?_
 clear a6
 rintro⟨k,x⟩ ρ1 w1 ⟨a0,a7,hx,a8⟩
 have ab:w.heap.size≤w1.heap.size:=a0.size
 refine A0<|ZN [0,0,0,0,2,0,0,0,0,0,0] Z<|Ad 2 Z<|AG (hex.isPtr) Z Aa ?_
 obtain⟨cs2,ac,a2⟩:=RN.at (Aq _) hex
 obtain⟨dd2,a1,ag,rfl,a3⟩:=RX.of ac
 have a4:=a3.rn.lenle
 unfold maxLen at a4
 refine AD (p:=ve) 4 B8 Z (a2 _<|AA.of_ext [] a0) Aa<|Ae (p:=An ve 4) (.inr Z) a1 Ba Z ((a2 _<|AA.of_ext [] a0).ld (i:=4) (by simp[DQ,DU])) Aa<|AP (v:=a1) CB Z a3.rn.isSl Aa ?_
 by_cases a9:(k:Int)<(ex.kids.length:Int)
 ·refine AE true Z Z (A5 a9) Aa<|Ad 2 Z ?_
  by_cases aa:((0:Nat):Int)≤x
  ·refine CU true Z Z (A5 aa) (Ag (e:=15) Z Z Z)<|Ac 1 Z<|Ah Z<|A2<|A0<|A3<|Ab _ [0,0,0,2,0,0,0,3,0] Z ?_
   have hst:=CW (l:=ex.kids) (k:=k) oM
   have hle:=CF ex.kids (k+1)
   have hnx:=Mp (l:=ex.kids) (k:=k) (x:=left-1) oM oM
   have hnr:=O2 (e:=ex.kids.getD k Ex.zero) (x:=x) oM
   refine Ad 1 Z<|AG (hex.isPtr) Z Aa<|AD (p:=ve) 4 B8 Z (a2 _<|AA.of_ext [] a0) Aa<|Ae (p:=An ve 4) (.inr Z) a1 Ba Z ((a2 _<|AA.of_ext [] a0).ld (i:=4) (by simp[DQ,DU])) Aa<|Ad 1 Z<|Au (v:=a1) k CB Bf Z Z a3.rn.isSl Z sD Aa<|Ad 1 Z ?_
   refine Am 190 [] [] [Aw a1 k 5,zI x] Z Z Sk Aa (ih dd2 oM _ (Aw a1 k 5) (ex.kids.getD k Ex.zero) _ (RN.ptr (Aq dd2) (by decide) Ex.zero (a3.rn.ext (Al<|Aq dd2) a0) sD) oM oM oM) ?_
   rintro e5 w5 ⟨rfl,a5⟩
   refine⟨_,rfl,a5,?_⟩
   have ad:=a5.size
   have ae:=a0.trans a5
   refine Ac 1 Z<|Ab _ [0,0,0] Z<|Ad 1 Z<|AQ ((k+1:Nat):Int) Z Z (Be oM sD) Aa<|Ac 1 Z ?_
   exact⟨(k+1,I0 (ex.kids.getD k Ex.zero) x),_,rfl,zR,⟨ae,sD,(by rw[hnx,hx]),oM⟩,zD⟩
  exact CU false Z Z (A6 aa) (Ag (e:=15) Z Z Z)<|Ac 1 Z<|Ai Z<|A4<|Ay<|Ay<|At<|ZN [0,0] Z<|Ac 2 Z<|A1<|Af [4] Z (zI x) Z ⟨AS SL,a0⟩
 exact AE false Z Z (A6 a9) Aa<|Ac 4 Z<|Ai Z<|A4<|Ay<|Ay<|At<|ZN [0,0] Z<|Ac 2 Z<|A1<|Af [4] Z (zI x) Z ⟨AS SL,a0⟩
theorem Kg (w:World)(dex:Nat)(ve:Value)(ex:Ex)(hex:RN [] (rP (H0 dex)) w.heap ve ex)(hs:ex.size≤1000000000) :
  Calls Tryz.prog 232 #[ve] w (fun e w'=>e=.returned (zI (ex.deep:Int))∧AF w w'):=by
 induction dex using Nat.strongRecOn generalizing w ve ex
 rename_i dex ih
 refine As [ve] 25 Tryz.func232 Z Z sM ?_
 have a6:AF w w:=AF.refl w
 have hsk:=Cd ex
 have hdk:=D7 ex
 refine ZO Z<|ZO Z<|A0<|ZO Z<|A3 ?_
 refine AT (S:=Nat×Int) (fun⟨k,sz⟩=>([(3,zI sz),(4,zI (k:Int)),(0,ve)])) (fun⟨k,sz⟩ W=>AF w W∧k≤ex.kids.length∧sz=((Ex.deeps (ex.kids.take k):Nat):Int)∧(0≤sz∧sz≤1000000000)) (fun⟨k,sz⟩=>ex.kids.length-k) (0,((0:Nat):Int)) ⟨rfl,rfl,rfl,trivial⟩ ⟨a6,sD,(by rw[List.take_zero,Me] <;> rfl),oM⟩ ?_
 clear a6
 rintro⟨k,sz⟩ ρ1 w1 ⟨a0,a7,hsz,a8⟩
 have aa:w.heap.size≤w1.heap.size:=a0.size
 refine A0<|ZN [0,0,0,0,2,0,0] Z<|Ad 2 Z<|AG (hex.isPtr) Z Aa ?_
 obtain⟨cs2,ab,a2⟩:=RN.at (Aq _) hex
 obtain⟨dd2,a1,ae,rfl,a3⟩:=RX.of ab
 have a4:=a3.rn.lenle
 unfold maxLen at a4
 refine AD (p:=ve) 4 B8 Z (a2 _<|AA.of_ext [] a0) Aa<|Ae (p:=An ve 4) (.inr Z) a1 Ba Z ((a2 _<|AA.of_ext [] a0).ld (i:=4) (by simp[DQ,DU])) Aa<|AP (v:=a1) CB Z a3.rn.isSl Aa ?_
 by_cases a9:(k:Int)<(ex.kids.length:Int)
 ·refine AE true Z Z (A5 a9) Aa<|Aj<|Ah Z<|A2<|A0<|A3<|Ab _ [0,0,0,0,2,0,0,3,0,0] Z ?_
  have hst:=CW (l:=ex.kids) (k:=k) oM
  have hle:=CF ex.kids (k+1)
  have hdt:=GH (l:=ex.kids) (k:=k) oM
  have hda:=Eh<|ex.kids.getD k Ex.zero
  have hdz:=Ik<|ex.kids.take k
  refine Ad 2 Z<|AG (hex.isPtr) Z Aa<|AD (p:=ve) 4 B8 Z (a2 _<|AA.of_ext [] a0) Aa<|Ae (p:=An ve 4) (.inr Z) a1 Ba Z ((a2 _<|AA.of_ext [] a0).ld (i:=4) (by simp[DQ,DU])) Aa<|Ad 1 Z<|Au (v:=a1) k CB Bf Z Z a3.rn.isSl Z sD Aa ?_
  refine Am 232 [] [] [Aw a1 k 5] Z Z UP Aa (ih dd2 oM _ (Aw a1 k 5) (ex.kids.getD k Ex.zero) (RN.ptr (Aq dd2) (by decide) Ex.zero (a3.rn.ext (Al<|Aq dd2) a0) sD) oM) ?_
  rintro e4 w4 ⟨rfl,a5⟩
  refine⟨_,rfl,a5,?_⟩
  have ac:=a5.size
  have ad:=a0.trans a5
  refine AB 250 [] [] [zI sz,zI (((ex.kids.getD k Ex.zero).deep:Nat):Int)] Z Z Ys Aa (zI<|max sz (((ex.kids.getD k Ex.zero).deep:Nat):Int)) (fun wq=>M5 wq _ _ oM (zH<|Eh (ex.kids.getD k Ex.zero)))<|Ac 1 Z<|Ab _ [0,0,0] Z<|Ad 1 Z<|AQ ((k+1:Nat):Int) Z Z (Be oM sD) Aa<|Ac 1 Z ?_
  exact⟨(k+1,max sz (((ex.kids.getD k Ex.zero).deep:Nat):Int)),_,rfl,zR,⟨ad,sD,oM,oM⟩,zD⟩
 refine AE false Z Z (A6 a9) Aa<|Aj<|Ai Z<|A4<|Ay<|Ay<|At<|ZN [0,0,0] Z ?_
 have h8:=Js (l:=ex.kids) (k:=k) oM
 have h9:=Eh ex
 exact Ad 1 Z<|AQ (sz+1) Z Z (CT oM oM) Aa<|Ac 1 Z<|A1<|Af [2] Z (zI (sz+1)) Z ⟨AS oM,a0⟩
theorem Gd {p:Prop}(h:p:=by unfold Ql;repeat (first|rfl|(rw[if_pos oM])|(rw[if_neg oM]))):p:=h
theorem Lz (w:World)(kind:Int)(_hkind:Bk kind)  :
  Calls Tryz.prog 135 #[zI kind] w (fun e w'=>e=.returned (zI (Ql kind))∧w'=w):=by
 refine As [zI kind] 17 Tryz.func135 Z Z sM ?_
 have a0:w=w:=rfl
 refine ZO Z<|A0<|ZO Z<|A3<|A0<|ZN [0,0] Z ?_
 by_cases a1:kind=((1:Nat):Int)
 ·exact Ap true Z Z (A5 a1) Aa<|Ac 1 Z<|Ah Z<|A2<|Ah Z<|ZO Z<|A1<|AH<|Ao<|Af [2] Z (zI ((0:Nat):Int)) Z ⟨AS Gd,a0⟩
 refine Ap false Z Z (A6 a1) Aa<|Ac 1 Z<|Ai Z<|Ab _ [0,0] Z ?_
 by_cases a2:kind=((2:Nat):Int)
 ·exact Ap true Z Z (A5 a2) Aa<|Ac 1 Z<|Ah Z<|ZO Z<|A1<|AH<|Ao<|Af [2] Z (zI ((0:Nat):Int)) Z ⟨AS Gd,a0⟩
 refine Ap false Z Z (A6 a2) Aa<|Ac 1 Z<|Ai Z<|A0<|ZN [0,0] Z ?_
 by_cases a3:kind=((3:Nat):Int)
 ·exact Ap true Z Z (A5 a3) Aa<|Ac 1 Z<|Ah Z<|A2<|Ah Z<|ZO Z<|A1<|AH<|Ao<|Af [2] Z (zI ((2:Nat):Int)) Z ⟨AS Gd,a0⟩
 refine Ap false Z Z (A6 a3) Aa<|Ac 1 Z<|Ai Z<|ZN [0,0] Z ?_
 by_cases a4:kind=((4:Nat):Int)
 ·exact Ap true Z Z (A5 a4) Aa<|Ac 1 Z<|Ah Z<|A2<|Ah Z<|ZO Z<|A1<|AH<|Ao<|Af [2] Z (zI ((2:Nat):Int)) Z ⟨AS Gd,a0⟩
 refine Ap false Z Z (A6 a4) Aa<|Ac 1 Z<|Ai Z<|ZN [0,0] Z ?_
 by_cases a5:kind=((5:Nat):Int)
 ·exact Ap true Z Z (A5 a5) Aa<|Ac 1 Z<|Ah Z<|A2<|Ah Z<|ZO Z<|A1<|AH<|Ao<|Af [2] Z (zI ((2:Nat):Int)) Z ⟨AS Gd,a0⟩
 refine Ap false Z Z (A6 a5) Aa<|Ac 1 Z<|Ai Z<|ZN [0,0] Z ?_
 by_cases a6:kind=((6:Nat):Int)
 ·exact Ap true Z Z (A5 a6) Aa<|Ac 1 Z<|Ah Z<|A2<|Ah Z<|ZO Z<|A1<|AH<|Ao<|Af [2] Z (zI ((2:Nat):Int)) Z ⟨AS Gd,a0⟩
 refine Ap false Z Z (A6 a6) Aa<|Ac 1 Z<|Ai Z<|Ab _ [0,0] Z ?_
 by_cases a7:kind=((9:Nat):Int)
 ·exact Ap true Z Z (A5 a7) Aa<|Ac 1 Z<|Ah Z<|ZO Z<|A1<|AH<|Ao<|Af [2] Z (zI ((2:Nat):Int)) Z ⟨AS Gd,a0⟩
 refine Ap false Z Z (A6 a7) Aa<|Ac 1 Z<|Ai Z<|ZN [0,0] Z ?_
 by_cases a8:kind=((7:Nat):Int)
 ·exact Ap true Z Z (A5 a8) Aa<|Ac 1 Z<|Ah Z<|ZO Z<|A1<|AH<|Ao<|Af [2] Z (zI ((1:Nat):Int)) Z ⟨AS Gd,a0⟩
 refine Ap false Z Z (A6 a8) Aa<|Ac 1 Z<|Ai Z<|ZN [0,0] Z ?_
 by_cases a9:kind=((8:Nat):Int)
 ·exact Ap true Z Z (A5 a9) Aa<|Ac 1 Z<|Ah Z<|ZO Z<|A1<|AH<|Ao<|Af [2] Z (zI ((3:Nat):Int)) Z ⟨AS Gd,a0⟩
 exact Ap false Z Z (A6 a9) Aa<|Ac 1 Z<|Ai Z<|A2<|ZO Z<|A1<|Af [2] Z (zI (-1)) Z ⟨AS Gd,a0⟩
theorem Db {p:Prop}(h:p:=by first|exact AL (VD oM oM oM)|exact AL (Z8 oM oM oM oM)|exact AL (Z9 oM oM oM oM)|exact AL ((MR oM).trans (Za oM oM oM oM oM oM oM))|exact AL (by unfold Ju EQ GA;first|(simp[*];done)|(simp[*];omega)|(simp[*] <;> intros <;> omega)|(simp_all;done)|(simp_all <;> omega))):p:=h
theorem BL {p:Prop}(h:p:=by simp[DQ,DU]):p:=h
theorem LA (w:World)(dp:Nat)(vp:Value)(p:List Fn)(dex:Nat)(ve:Value)(ex:Ex)(vars:Int)(funcs:Int)(hp:RN [] (rP (K4 dp)) w.heap vp p)(hex:RN [] (rP (H0 dex)) w.heap ve ex)(_hvars:Bk vars)(_hfuncs:Bk funcs)(hv:0≤vars∧vars≤2000000000)(hf:0≤funcs∧funcs≤(p.length:Int)) :
  Calls Tryz.prog 251 #[vp,ve,zI vars,zI funcs] w (fun e w'=>e=.returned (.bool (Ju p funcs vars ex))∧AF w w'):=by
 refine As [vp,ve,zI vars,zI funcs] 140 Tryz.func251 Z Z sM ?_
 have a0:AF w w:=AF.refl w
 refine ZO Z<|A0<|ZN [0,0,0,2,0,0,0,0,0,2,0,0] Z<|Ad 1 Z<|AG (hex.isPtr) Z Aa ?_
 obtain⟨cs1,b2,a1⟩:=RN.at (Aq _) hex
 obtain⟨dd1,ab,b8,rfl,a5⟩:=RX.of b2
 have aq:=a5.rn.lenle
 unfold maxLen at aq
 refine AD (p:=ve) 0 BC Z (a1 _<|AA.of_ext [] a0) Aa<|Ae (p:=An ve 0) (.inr Z) (zI ex.kind) AC Z ((a1 _<|AA.of_ext [] a0).ld (i:=0) BL) Aa ?_
 by_cases ay:ex.kind=((10:Nat):Int)
 ·refine Ap true Z Z (A5 ay) Aa<|Ac 7 Z<|Ah Z<|A0<|ZN [0,0,0,2,0,0,0,0] Z<|Ad 1 Z<|AG (hex.isPtr) Z Aa<|AD (p:=ve) 1 Bw Z (a1 _<|AA.of_ext [] a0) Aa<|Ae (p:=An ve 1) (.inr Z) (zI ex.num) AC Z ((a1 _<|AA.of_ext [] a0).ld (i:=1) BL) Aa<|Ad 1 Z<|Bi (funcs-1) Z Z (CT oM oM) Aa<|AB 94 [] [] [zI ex.num,zI ((0:Nat):Int),zI (funcs-1)] Z Z E7 Aa (.bool (decide (((0:Nat):Int)≤ex.num) && decide (ex.num≤(funcs-1)))) (fun wq=>B3 wq _ _ _ a5.rng.num oM oM) ?_
  refine Bd (!(decide (((0:Nat):Int)≤ex.num) && decide (ex.num≤(funcs-1)))) Z Z Aa<|Aj ?_
  cases az:(!(decide (((0:Nat):Int)≤ex.num) && decide (ex.num≤(funcs-1))))
  ·refine Ai (by first|rfl|exact zW az)<|A2<|A0<|AO _ [0,0,0,1,0,0,0,1,0,0] mixed (by kernel_rfl) ?_
   have hnr:=Hz (Ds (by assumption):(decide (((0:Nat):Int)≤ex.num) && decide (ex.num≤funcs-1))=true)
   refine Ad 1 Z<|AG (hp.isPtr) Z Aa ?_
   obtain⟨cs5,b3,b0⟩:=RN.at (AR _) hp
   obtain⟨a6,rfl,a9⟩:=RPr.of b3
   have ar:=a9.lenle
   unfold maxLen at ar
   refine AD (p:=vp) 0 BA Z (b0 _<|AA.of_ext [] a0.drew) Aa<|Ae (p:=An vp 0) (.inl Z) a6 C5 Z ((b0 _<|AA.of_ext [] a0.drew).ld (i:=0) BL) Aa<|Ad 1 Z<|AG (hex.isPtr) Z Aa<|AD (p:=ve) 1 Bw Z (a1 _<|AA.of_ext [] a0.drew) Aa<|Ae (p:=An ve 1) (.inl Z) (zI ex.num) AC Z ((a1 _<|AA.of_ext [] a0.drew).ld (i:=1) BL) Aa ?_
   refine Au (v:=a6) ((ex.num).toNat) Fq C9 Z Z a9.isSl oM sD Aa<|Ac 1 Z<|A0<|A0<|AO _ [0,0,0,1,0,0,0,1,0,0,0,0,0,0,0,0,1,0,0,0,0,1,0,0] mixed (by kernel_rfl)<|Ad 1 Z<|AG (hex.isPtr) Z Aa<|AD (p:=ve) 2 Cn Z (a1 _<|AA.of_ext [] a0.drew.drew) Aa ?_
   refine Ae (p:=An ve 2) (.inl Z) (zI ex.pick) AC Z ((a1 _<|AA.of_ext [] a0.drew.drew).ld (i:=2) BL) Aa<|Ad 1 Z<|AG (RN.isPtr<|RN.ptr (Ax dp) (by decide) Fn.zero a9 sD) Z Aa ?_
   obtain⟨cs6,b4,a8⟩:=a9.get (Ax dp) Fn.zero (k:=(ex.num).toNat) sD
   obtain⟨ap,rfl,au⟩:=RF.of b4
   have av:=au.rn.lenle
   unfold maxLen at av
   refine AD (p:=Aw a6 ((ex.num).toNat) 3) 2 BQ Z (a8 _<|AA.of_ext [] a0.drew.drew) Aa<|Ae (p:=An (Aw a6 ((ex.num).toNat) 3) 2) (.inl Z) ap Ba Z ((a8 _<|AA.of_ext [] a0.drew.drew).ld (i:=2) BL) Aa<|AP (v:=ap) CB Z au.rn.isSl Aa<|Bi ((((p.getD (ex.num).toNat Fn.zero).outs.length:Nat):Int)-1) Z Z (CT oM oM) Aa<|AB 94 [] [] [zI ex.pick,zI ((0:Nat):Int),zI ((((p.getD (ex.num).toNat Fn.zero).outs.length:Nat):Int)-1)] Z Z E7 Aa (.bool (decide (((0:Nat):Int)≤ex.pick) && decide (ex.pick≤((((p.getD (ex.num).toNat Fn.zero).outs.length:Nat):Int)-1)))) (fun wq=>B3 wq _ _ _ a5.rng.pick oM oM) ?_
   refine Bd (!(decide (((0:Nat):Int)≤ex.pick) && decide (ex.pick≤((((p.getD (ex.num).toNat Fn.zero).outs.length:Nat):Int)-1)))) Z Z Aa<|Ad 1 Z ?_
   cases b9:(!(decide (((0:Nat):Int)≤ex.pick) && decide (ex.pick≤((((p.getD (ex.num).toNat Fn.zero).outs.length:Nat):Int)-1))))
   ·refine Ad 1 Z<|AG (hex.isPtr) Z (Ag (e:=51) Z Z Z)<|AD (p:=ve) 4 B8 Z (a1 _<|AA.of_ext [] a0.drew.drew) (Ag (e:=51) Z Z Z)<|Ae (p:=An ve 4) (.inl Z) ab Ba Z ((a1 _<|AA.of_ext [] a0.drew.drew).ld (i:=4) BL) (Ag (e:=51) Z Z Z)<|AP (v:=ab) CB Z a5.rn.isSl (Ag (e:=51) Z Z Z)<|Ad 1 Z ?_
    refine AG (RN.isPtr<|RN.ptr (Ax dp) (by decide) Fn.zero a9 sD) Z (Ag (e:=51) Z Z Z)<|AD (p:=Aw a6 ((ex.num).toNat) 3) 1 Ct Z (a8 _<|AA.of_ext [] a0.drew.drew) (Ag (e:=51) Z Z Z)<|Ae (p:=An (Aw a6 ((ex.num).toNat) 3) 1) (.inl Z) (zI<|(p.getD ((ex.num).toNat) Fn.zero).params) AC Z ((a8 _<|AA.of_ext [] a0.drew.drew).ld (i:=1) BL) (Ag (e:=51) Z Z Z) ?_
    by_cases b1:(ex.kids.length:Int)≠(p.getD ((ex.num).toNat) Fn.zero).params
    ·exact AU true Z Z (A5 b1) (Ag (e:=51) Z Z Z)<|Ac 1 Z<|Ah Z<|ZO Z<|A1<|Ao<|Ao<|Af [8] Z (.bool false) Z ⟨Db,a0.drew.drew⟩
    refine AU false Z Z (A6 b1) (Ag (e:=51) Z Z Z)<|Ac 1 Z<|Ai Z<|A2<|A0<|ZN [0,0,0,2,0] Z<|Ad 1 Z<|AG (hex.isPtr) Z Aa<|AD (p:=ve) 0 BC Z (a1 _<|AA.of_ext [] a0.drew.drew) Aa<|Ae (p:=An ve 0) (.inr Z) (zI ex.kind) AC Z ((a1 _<|AA.of_ext [] a0.drew.drew).ld (i:=0) BL) Aa ?_
    by_cases ac:ex.kind=((10:Nat):Int)
    ·refine Ap true Z Z (A5 ac) Aa<|Aj<|Ah Z<|ZN [0,0,0,2,0,0] Z<|Ad 1 Z<|AG (hex.isPtr) Z Aa<|AD (p:=ve) 3 CC Z (a1 _<|AA.of_ext [] a0.drew.drew) Aa<|Ae (p:=An ve 3) (.inr Z) (zI ex.count) AC Z ((a1 _<|AA.of_ext [] a0.drew.drew).ld (i:=3) BL) Aa<|Ap (decide (ex.count=((0:Nat):Int))) Z Z Z Aa<|Ac 1 Z<|A1<|Ao<|Ao ?_
     exact Af [8] Z (.bool<|decide (ex.count=((0:Nat):Int))) Z ⟨Db,a0.drew.drew⟩
    refine Ap false Z Z (A6 ac) Aa<|Aj<|Ai Z<|A2<|A0<|AO _ [0,0,0,1,0,0,0,0,0,1,0,0,0,0,1,0,0,0] mixed (by kernel_rfl)<|Ad 1 Z<|AG (hex.isPtr) Z Aa<|AD (p:=ve) 3 CC Z (a1 _<|AA.of_ext [] a0.drew.drew.drew) Aa<|Ae (p:=An ve 3) (.inl Z) (zI ex.count) AC Z ((a1 _<|AA.of_ext [] a0.drew.drew.drew).ld (i:=3) BL) Aa<|AB 94 [] [] [zI ex.count,zI ((0:Nat):Int),zI ((8:Nat):Int)] Z Z E7 Aa (.bool (decide (((0:Nat):Int)≤ex.count) && decide (ex.count≤((8:Nat):Int)))) (fun wq=>B3 wq _ _ _ a5.rng.count oM oM)<|Ad 1 Z ?_
    cases b5:(decide (((0:Nat):Int)≤ex.count) && decide (ex.count≤((8:Nat):Int)))
    ·exact Ac 12 Z<|A1<|Ao<|Af [8] Z (.bool false) Z ⟨Db,a0.drew.drew.drew⟩
    refine Ad 1 Z<|AG (RN.isPtr<|RN.ptr (Ax dp) (by decide) Fn.zero a9 sD) Z (Ag (e:=78) Z Z Z)<|AD (p:=Aw a6 ((ex.num).toNat) 3) 2 BQ Z (a8 _<|AA.of_ext [] a0.drew.drew.drew) (Ag (e:=78) Z Z Z)<|Ae (p:=An (Aw a6 ((ex.num).toNat) 3) 2) (.inl Z) ap Ba Z ((a8 _<|AA.of_ext [] a0.drew.drew.drew).ld (i:=2) BL) (Ag (e:=78) Z Z Z) ?_
    refine AP (v:=ap) CB Z au.rn.isSl (Ag (e:=78) Z Z Z)<|Ad 1 Z<|AG (RN.isPtr<|RN.ptr (Ax dp) (by decide) Fn.zero a9 sD) Z (Ag (e:=78) Z Z Z)<|AD (p:=Aw a6 ((ex.num).toNat) 3) 1 Ct Z (a8 _<|AA.of_ext [] a0.drew.drew.drew) (Ag (e:=78) Z Z Z) ?_
    refine Ae (p:=An (Aw a6 ((ex.num).toNat) 3) 1) (.inl Z) (zI<|(p.getD ((ex.num).toNat) Fn.zero).params) AC Z ((a8 _<|AA.of_ext [] a0.drew.drew.drew).ld (i:=1) BL) (Ag (e:=78) Z Z Z)<|Ap (decide (((((p.getD ((ex.num).toNat) Fn.zero).outs).length:Nat):Int)=(p.getD ((ex.num).toNat) Fn.zero).params)) Z Z Z (Ag (e:=78) Z Z Z)<|Ac 2 Z<|A1<|Ao ?_
    exact Af [8] Z (.bool<|decide (((((p.getD ((ex.num).toNat) Fn.zero).outs).length:Nat):Int)=(p.getD ((ex.num).toNat) Fn.zero).params)) Z ⟨Db,a0.drew.drew.drew⟩
   exact Ac 11 Z<|Ah Z<|ZO Z<|A1<|Ao<|Ao<|Af [8] Z (.bool false) Z ⟨Db,a0.drew.drew⟩
  exact Ah (by first|rfl|exact zW az)<|ZO Z<|A1<|Ao<|Ao<|Af [8] Z (.bool false) Z ⟨Db,a0⟩
 refine Ap false Z Z (A6 ay) Aa<|Ad 2 Z<|AG (hex.isPtr) Z (Ag (e:=15) Z Z Z)<|AD (p:=ve) 0 BC Z (a1 _<|AA.of_ext [] a0) (Ag (e:=15) Z Z Z)<|Ae (p:=An ve 0) (.inr Z) (zI ex.kind) AC Z ((a1 _<|AA.of_ext [] a0).ld (i:=0) BL) (Ag (e:=15) Z Z Z) ?_
 by_cases ad:ex.kind=((11:Nat):Int)
 ·refine Ap true Z Z (A5 ad) (Ag (e:=15) Z Z Z)<|Ac 1 Z<|Ah Z<|A0<|ZN [0,0,0,2,0,0,0,0] Z<|Ad 1 Z<|AG (hex.isPtr) Z Aa<|AD (p:=ve) 1 Bw Z (a1 _<|AA.of_ext [] a0) Aa<|Ae (p:=An ve 1) (.inr Z) (zI ex.num) AC Z ((a1 _<|AA.of_ext [] a0).ld (i:=1) BL) Aa<|Ad 1 Z<|Bi (funcs-1) Z Z (CT oM oM) Aa<|AB 94 [] [] [zI ex.num,zI ((0:Nat):Int),zI (funcs-1)] Z Z E7 Aa (.bool (decide (((0:Nat):Int)≤ex.num) && decide (ex.num≤(funcs-1)))) (fun wq=>B3 wq _ _ _ a5.rng.num oM oM) ?_
  refine Bd (!(decide (((0:Nat):Int)≤ex.num) && decide (ex.num≤(funcs-1)))) Z Z Aa<|Aj ?_
  cases ae:(!(decide (((0:Nat):Int)≤ex.num) && decide (ex.num≤(funcs-1))))
  ·refine Ai (by first|rfl|exact zW ae)<|A2<|A0<|AO _ [0,0,0,1,0,0,0,1,0,0] mixed (by kernel_rfl) ?_
   have hnr:=Hz (Ds (by assumption):(decide (((0:Nat):Int)≤ex.num) && decide (ex.num≤funcs-1))=true)
   refine Ad 1 Z<|AG (hp.isPtr) Z Aa ?_
   obtain⟨cs16,aw,af⟩:=RN.at (AR _) hp
   obtain⟨a2,rfl,a4⟩:=RPr.of aw
   have ag:=a4.lenle
   unfold maxLen at ag
   refine AD (p:=vp) 0 BA Z (af _<|AA.of_ext [] a0.drew) Aa<|Ae (p:=An vp 0) (.inl Z) a2 C5 Z ((af _<|AA.of_ext [] a0.drew).ld (i:=0) BL) Aa<|Ad 1 Z<|AG (hex.isPtr) Z Aa<|AD (p:=ve) 1 Bw Z (a1 _<|AA.of_ext [] a0.drew) Aa<|Ae (p:=An ve 1) (.inl Z) (zI ex.num) AC Z ((a1 _<|AA.of_ext [] a0.drew).ld (i:=1) BL) Aa ?_
   refine Au (v:=a2) ((ex.num).toNat) Fq C9 Z Z a4.isSl oM sD Aa<|Ac 1 Z<|A0<|A0<|AO _ [0,0,0,1,0,0,0,1,0,0,0,0,0,0,0,0,1,0,0,0,0,1,0,0] mixed (by kernel_rfl)<|Ad 1 Z<|AG (hex.isPtr) Z Aa<|AD (p:=ve) 2 Cn Z (a1 _<|AA.of_ext [] a0.drew.drew) Aa ?_
   refine Ae (p:=An ve 2) (.inl Z) (zI ex.pick) AC Z ((a1 _<|AA.of_ext [] a0.drew.drew).ld (i:=2) BL) Aa<|Ad 1 Z<|AG (RN.isPtr<|RN.ptr (Ax dp) (by decide) Fn.zero a4 sD) Z Aa ?_
   obtain⟨cs17,ax,a3⟩:=a4.get (Ax dp) Fn.zero (k:=(ex.num).toNat) sD
   obtain⟨a7,rfl,aa⟩:=RF.of ax
   have ah:=aa.rn.lenle
   unfold maxLen at ah
   refine AD (p:=Aw a2 ((ex.num).toNat) 3) 2 BQ Z (a3 _<|AA.of_ext [] a0.drew.drew) Aa<|Ae (p:=An (Aw a2 ((ex.num).toNat) 3) 2) (.inl Z) a7 Ba Z ((a3 _<|AA.of_ext [] a0.drew.drew).ld (i:=2) BL) Aa<|AP (v:=a7) CB Z aa.rn.isSl Aa<|Bi ((((p.getD (ex.num).toNat Fn.zero).outs.length:Nat):Int)-1) Z Z (CT oM oM) Aa<|AB 94 [] [] [zI ex.pick,zI ((0:Nat):Int),zI ((((p.getD (ex.num).toNat Fn.zero).outs.length:Nat):Int)-1)] Z Z E7 Aa (.bool (decide (((0:Nat):Int)≤ex.pick) && decide (ex.pick≤((((p.getD (ex.num).toNat Fn.zero).outs.length:Nat):Int)-1)))) (fun wq=>B3 wq _ _ _ a5.rng.pick oM oM) ?_
   refine Bd (!(decide (((0:Nat):Int)≤ex.pick) && decide (ex.pick≤((((p.getD (ex.num).toNat Fn.zero).outs.length:Nat):Int)-1)))) Z Z Aa<|Ad 1 Z ?_
   cases b6:(!(decide (((0:Nat):Int)≤ex.pick) && decide (ex.pick≤((((p.getD (ex.num).toNat Fn.zero).outs.length:Nat):Int)-1))))
   ·refine Ad 1 Z<|AG (hex.isPtr) Z (Ag (e:=51) Z Z Z)<|AD (p:=ve) 4 B8 Z (a1 _<|AA.of_ext [] a0.drew.drew) (Ag (e:=51) Z Z Z)<|Ae (p:=An ve 4) (.inl Z) ab Ba Z ((a1 _<|AA.of_ext [] a0.drew.drew).ld (i:=4) BL) (Ag (e:=51) Z Z Z)<|AP (v:=ab) CB Z a5.rn.isSl (Ag (e:=51) Z Z Z)<|Ad 1 Z ?_
    refine AG (RN.isPtr<|RN.ptr (Ax dp) (by decide) Fn.zero a4 sD) Z (Ag (e:=51) Z Z Z)<|AD (p:=Aw a2 ((ex.num).toNat) 3) 1 Ct Z (a3 _<|AA.of_ext [] a0.drew.drew) (Ag (e:=51) Z Z Z)<|Ae (p:=An (Aw a2 ((ex.num).toNat) 3) 1) (.inl Z) (zI<|(p.getD ((ex.num).toNat) Fn.zero).params) AC Z ((a3 _<|AA.of_ext [] a0.drew.drew).ld (i:=1) BL) (Ag (e:=51) Z Z Z) ?_
    by_cases ai:(ex.kids.length:Int)≠(p.getD ((ex.num).toNat) Fn.zero).params
    ·exact AU true Z Z (A5 ai) (Ag (e:=51) Z Z Z)<|Ac 1 Z<|Ah Z<|ZO Z<|A1<|Ao<|Ao<|Af [8] Z (.bool false) Z ⟨Db,a0.drew.drew⟩
    refine AU false Z Z (A6 ai) (Ag (e:=51) Z Z Z)<|Ac 1 Z<|Ai Z<|A2<|A0<|ZN [0,0,0,2,0] Z<|Ad 1 Z<|AG (hex.isPtr) Z Aa<|AD (p:=ve) 0 BC Z (a1 _<|AA.of_ext [] a0.drew.drew) Aa<|Ae (p:=An ve 0) (.inr Z) (zI ex.kind) AC Z ((a1 _<|AA.of_ext [] a0.drew.drew).ld (i:=0) BL) Aa ?_
    by_cases aj:ex.kind=((10:Nat):Int)
    ·refine Ap true Z Z (A5 aj) Aa<|Aj<|Ah Z<|ZN [0,0,0,2,0,0] Z<|Ad 1 Z<|AG (hex.isPtr) Z Aa<|AD (p:=ve) 3 CC Z (a1 _<|AA.of_ext [] a0.drew.drew) Aa<|Ae (p:=An ve 3) (.inr Z) (zI ex.count) AC Z ((a1 _<|AA.of_ext [] a0.drew.drew).ld (i:=3) BL) Aa<|Ap (decide (ex.count=((0:Nat):Int))) Z Z Z Aa<|Ac 1 Z<|A1<|Ao<|Ao ?_
     exact Af [8] Z (.bool<|decide (ex.count=((0:Nat):Int))) Z ⟨Db,a0.drew.drew⟩
    refine Ap false Z Z (A6 aj) Aa<|Aj<|Ai Z<|A2<|A0<|AO _ [0,0,0,1,0,0,0,0,0,1,0,0,0,0,1,0,0,0] mixed (by kernel_rfl)<|Ad 1 Z<|AG (hex.isPtr) Z Aa<|AD (p:=ve) 3 CC Z (a1 _<|AA.of_ext [] a0.drew.drew.drew) Aa<|Ae (p:=An ve 3) (.inl Z) (zI ex.count) AC Z ((a1 _<|AA.of_ext [] a0.drew.drew.drew).ld (i:=3) BL) Aa<|AB 94 [] [] [zI ex.count,zI ((0:Nat):Int),zI ((8:Nat):Int)] Z Z E7 Aa (.bool (decide (((0:Nat):Int)≤ex.count) && decide (ex.count≤((8:Nat):Int)))) (fun wq=>B3 wq _ _ _ a5.rng.count oM oM)<|Ad 1 Z ?_
    cases b7:(decide (((0:Nat):Int)≤ex.count) && decide (ex.count≤((8:Nat):Int)))
    ·exact Ac 12 Z<|A1<|Ao<|Af [8] Z (.bool false) Z ⟨Db,a0.drew.drew.drew⟩
    refine Ad 1 Z<|AG (RN.isPtr<|RN.ptr (Ax dp) (by decide) Fn.zero a4 sD) Z (Ag (e:=78) Z Z Z)<|AD (p:=Aw a2 ((ex.num).toNat) 3) 2 BQ Z (a3 _<|AA.of_ext [] a0.drew.drew.drew) (Ag (e:=78) Z Z Z)<|Ae (p:=An (Aw a2 ((ex.num).toNat) 3) 2) (.inl Z) a7 Ba Z ((a3 _<|AA.of_ext [] a0.drew.drew.drew).ld (i:=2) BL) (Ag (e:=78) Z Z Z) ?_
    refine AP (v:=a7) CB Z aa.rn.isSl (Ag (e:=78) Z Z Z)<|Ad 1 Z<|AG (RN.isPtr<|RN.ptr (Ax dp) (by decide) Fn.zero a4 sD) Z (Ag (e:=78) Z Z Z)<|AD (p:=Aw a2 ((ex.num).toNat) 3) 1 Ct Z (a3 _<|AA.of_ext [] a0.drew.drew.drew) (Ag (e:=78) Z Z Z) ?_
    refine Ae (p:=An (Aw a2 ((ex.num).toNat) 3) 1) (.inl Z) (zI<|(p.getD ((ex.num).toNat) Fn.zero).params) AC Z ((a3 _<|AA.of_ext [] a0.drew.drew.drew).ld (i:=1) BL) (Ag (e:=78) Z Z Z)<|Ap (decide (((((p.getD ((ex.num).toNat) Fn.zero).outs).length:Nat):Int)=(p.getD ((ex.num).toNat) Fn.zero).params)) Z Z Z (Ag (e:=78) Z Z Z)<|Ac 2 Z<|A1<|Ao ?_
    exact Af [8] Z (.bool<|decide (((((p.getD ((ex.num).toNat) Fn.zero).outs).length:Nat):Int)=(p.getD ((ex.num).toNat) Fn.zero).params)) Z ⟨Db,a0.drew.drew.drew⟩
   exact Ac 11 Z<|Ah Z<|ZO Z<|A1<|Ao<|Ao<|Af [8] Z (.bool false) Z ⟨Db,a0.drew.drew⟩
  exact Ah (by first|rfl|exact zW ae)<|ZO Z<|A1<|Ao<|Ao<|Af [8] Z (.bool false) Z ⟨Db,a0⟩
 refine Ap false Z Z (A6 ad) (Ag (e:=15) Z Z Z)<|Ac 1 Z<|Ai Z<|A2<|A0<|A0<|AO _ [0,0,0,1,0,0,0,0,1,0,0,0,0,0,0,1,0,0,0,0,0,0,1,0,0] mixed (by kernel_rfl)<|Ad 1 Z<|AG (hex.isPtr) Z Aa<|AD (p:=ve) 0 BC Z (a1 _<|AA.of_ext [] a0.drew) Aa<|Ae (p:=An ve 0) (.inl Z) (zI ex.kind) AC Z ((a1 _<|AA.of_ext [] a0.drew).ld (i:=0) BL) Aa<|AB 135 [] [] [zI ex.kind] Z Z XP Aa (zI<|Ql ex.kind) (fun wq=>Lz wq _ a5.rng.kind)<|Ad 1 Z<|AG (hex.isPtr) Z Aa<|AD (p:=ve) 4 B8 Z (a1 _<|AA.of_ext [] a0.drew) Aa ?_
 refine Ae (p:=An ve 4) (.inl Z) ab Ba Z ((a1 _<|AA.of_ext [] a0.drew).ld (i:=4) BL) Aa<|AP (v:=ab) CB Z a5.rn.isSl Aa ?_
 by_cases ak:Ql ex.kind≠(ex.kids.length:Int)
 ·exact AU true Z Z (A5 ak) Aa<|Ac 14 Z<|Ah Z<|ZO Z<|A1<|Ao<|Af [8] Z (.bool false) Z ⟨Db,a0.drew⟩
 refine AU false Z Z (A6 ak) Aa<|Ad 2 Z<|AG (hex.isPtr) Z (Ag (e:=101) Z Z Z)<|AD (p:=ve) 2 Cn Z (a1 _<|AA.of_ext [] a0.drew) (Ag (e:=101) Z Z Z)<|Ae (p:=An ve 2) (.inl Z) (zI ex.pick) AC Z ((a1 _<|AA.of_ext [] a0.drew).ld (i:=2) BL) (Ag (e:=101) Z Z Z) ?_
 by_cases al:ex.pick≠((0:Nat):Int)
 ·exact AU true Z Z (A5 al) (Ag (e:=101) Z Z Z)<|Ac 8 Z<|Ah Z<|ZO Z<|A1<|Ao<|Af [8] Z (.bool false) Z ⟨Db,a0.drew⟩
 refine AU false Z Z (A6 al) (Ag (e:=101) Z Z Z)<|Ad 3 Z<|AG (hex.isPtr) Z (Ag (e:=108) Z Z Z)<|AD (p:=ve) 3 CC Z (a1 _<|AA.of_ext [] a0.drew) (Ag (e:=108) Z Z Z)<|Ae (p:=An ve 3) (.inl Z) (zI ex.count) AC Z ((a1 _<|AA.of_ext [] a0.drew).ld (i:=3) BL) (Ag (e:=108) Z Z Z) ?_
 by_cases am:ex.count≠((0:Nat):Int)
 ·exact AU true Z Z (A5 am) (Ag (e:=108) Z Z Z)<|Ac 1 Z<|Ah Z<|ZO Z<|A1<|Ao<|Af [8] Z (.bool false) Z ⟨Db,a0.drew⟩
 refine AU false Z Z (A6 am) (Ag (e:=108) Z Z Z)<|Ac 1 Z<|Ai Z<|A2<|A0<|ZN [0,0,0,2] Z<|Ad 1 Z<|AG (hex.isPtr) Z Aa<|AD (p:=ve) 0 BC Z (a1 _<|AA.of_ext [] a0.drew) Aa<|Ae (p:=An ve 0) (.inr Z) (zI ex.kind) AC Z ((a1 _<|AA.of_ext [] a0.drew).ld (i:=0) BL) Aa<|Aj<|A3<|ZN [0,0] Z ?_
 by_cases an:ex.kind=((1:Nat):Int)
 ·refine Ap true Z Z (A5 an) Aa<|Ac 1 Z<|Ah Z<|ZN [0,0,0,2,0,0] Z<|Ad 1 Z<|AG (hex.isPtr) Z Aa<|AD (p:=ve) 1 Bw Z (a1 _<|AA.of_ext [] a0.drew) Aa<|Ae (p:=An ve 1) (.inr Z) (zI ex.num) AC Z ((a1 _<|AA.of_ext [] a0.drew).ld (i:=1) BL) Aa<|AB 166 [] [] [zI ex.num] Z Z Sh Aa (.bool<|HZ ex.num) (fun wq=>En wq _ a5.rng.num)<|Ac 1 Z<|A1<|AH<|Ao ?_
  exact Af [8] Z (.bool<|HZ ex.num) Z ⟨Db,a0.drew⟩
 refine Ap false Z Z (A6 an) Aa<|Ac 1 Z<|Ai Z<|ZN [0,0] Z ?_
 by_cases ao:ex.kind=((2:Nat):Int)
 ·refine Ap true Z Z (A5 ao) Aa<|Ac 1 Z<|Ah Z<|ZN [0,0,0,2,0,0,0,0] Z<|Ad 1 Z<|AG (hex.isPtr) Z Aa<|AD (p:=ve) 1 Bw Z (a1 _<|AA.of_ext [] a0.drew) Aa<|Ae (p:=An ve 1) (.inr Z) (zI ex.num) AC Z ((a1 _<|AA.of_ext [] a0.drew).ld (i:=1) BL) Aa<|Ad 1 Z<|Bi (vars-1) Z Z (CT oM oM) Aa<|AB 94 [] [] [zI ex.num,zI ((0:Nat):Int),zI (vars-1)] Z Z E7 Aa (.bool (decide (((0:Nat):Int)≤ex.num) && decide (ex.num≤(vars-1)))) (fun wq=>B3 wq _ _ _ a5.rng.num oM oM)<|Ac 1 Z<|A1<|AH<|Ao ?_
  exact Af [8] Z (.bool (decide (((0:Nat):Int)≤ex.num) && decide (ex.num≤(vars-1)))) Z ⟨Db,a0.drew⟩
 refine Ap false Z Z (A6 ao) Aa<|Ac 1 Z<|Ai Z<|A2<|ZN [0,0,0,2,0,0] Z<|Ad 1 Z<|AG (hex.isPtr) Z Aa<|AD (p:=ve) 1 Bw Z (a1 _<|AA.of_ext [] a0.drew) Aa<|Ae (p:=An ve 1) (.inr Z) (zI ex.num) AC Z ((a1 _<|AA.of_ext [] a0.drew).ld (i:=1) BL) Aa<|Ap (decide (ex.num=((0:Nat):Int))) Z Z Z Aa<|Ac 1 Z<|A1 ?_
 exact Af [8] Z (.bool<|decide (ex.num=((0:Nat):Int))) Z ⟨Db,a0.drew⟩
theorem LB {p:Prop}(h:p:=by first|exact AL (R2 (DF (by assumption)))|exact AL (Pk (Ds (by assumption)) fun j hj=>hall j oM)|exact AL (R3 (k:=k) oM (by first|(rw[if_pos oM])|(rw[if_neg oM])) (DF (by assumption)))):p:=h
theorem OZ {p:Prop}(h:p:=by intro j hj;by_cases e9:j=k;(rw[e9];first|(rw[if_pos oM];exact Ds (by assumption))|(rw[if_neg oM];exact Ds (by assumption)));exact hall j oM):p:=h
theorem LC (w:World)(dp:Nat)(vp:Value)(p:List Fn)(dex:Nat)(ve:Value)(ex:Ex)(vars:Int)(funcs:Int)(hp:RN [] (rP (K4 dp)) w.heap vp p)(hex:RN [] (rP (H0 dex)) w.heap ve ex)(_hvars:Bk vars)(_hfuncs:Bk funcs)(hs:0≤vars∧vars+(ex.deep:Int)≤2000000000)(hf:0≤funcs∧funcs≤(p.length:Int)) :
  Calls Tryz.prog 233 #[vp,ve,zI vars,zI funcs] w (fun e w'=>e=.returned (.bool (wf p funcs ex vars))∧AF w w'):=by
 induction dex using Nat.strongRecOn generalizing w dp vp p ve ex vars funcs
 rename_i dex ih
 refine As [vp,ve,zI vars,zI funcs] 49 Tryz.func233 Z Z sM ?_
 have aa:AF w w:=AF.refl w
 have hdk:=D7 ex
 refine ZO Z<|A0<|ZN [0,0,0,0,3,0] Z<|Ad 4 Z<|Am 251 [] [] [vp,ve,zI vars,zI funcs] Z Z Yt Aa (LA _ dp vp (p) dex ve (ex) _ _ (hp.ext (AX<|AR dp) aa) (hex.ext (AX<|Aq dex) aa) _hvars _hfuncs oM oM) ?_
 rintro e1 w1 ⟨rfl,ab⟩
 refine⟨_,rfl,ab,?_⟩
 have ac:=ab.size
 have ad:=aa.trans ab
 refine Bd (!(Ju p funcs vars ex)) Z Z Aa<|Aj ?_
 cases ag:(!(Ju p funcs vars ex))
 ·refine Ai (by first|rfl|exact zW ag)<|A2<|A0<|ZO Z<|A3 ?_
  refine AT (S:=Nat) (fun k=>([(9,zI (k:Int)),(0,vp),(1,ve),(2,zI vars),(3,zI funcs)])) (fun k W=>AF w W∧k≤ex.kids.length∧(∀j,j<k→wf p funcs (ex.kids.getD j Ex.zero) (if ex.kind=9∧j=1 then vars+1 else vars)=true)) (fun k=>ex.kids.length-k) 0 ⟨rfl,rfl,rfl,rfl,rfl,trivial⟩ ⟨ad,sD,(by intro j hj;omega)⟩ ?_
  clear aa ab ac ad
  rintro k ρ3 w3 ⟨a0,ah,hall⟩
  have ap:w.heap.size≤w3.heap.size:=a0.size
  refine A0<|ZN [0,0,0,0,2,0,0] Z<|Ad 2 Z<|AG (hex.isPtr) Z Aa ?_
  obtain⟨cs4,aq,a2⟩:=RN.at (Aq _) hex
  obtain⟨dd4,a1,au,rfl,a3⟩:=RX.of aq
  have ae:=a3.rn.lenle
  unfold maxLen at ae
  refine AD (p:=ve) 4 B8 Z (a2 _<|AA.of_ext [] a0) Aa<|Ae (p:=An ve 4) (.inr Z) a1 Ba Z ((a2 _<|AA.of_ext [] a0).ld (i:=4) (by simp[DQ,DU])) Aa<|AP (v:=a1) CB Z a3.rn.isSl Aa ?_
  by_cases ai:(k:Int)<(ex.kids.length:Int)
  ·refine AE true Z Z (A5 ai) Aa<|Aj<|Ah Z<|A2<|A0<|A3<|ZN [0,0] Z ?_
   have hkd:=CH (l:=ex.kids) (k:=k) oM
   refine Ac 2 Z<|A0<|ZN [0,0,0,2,0,0,0,0,0] Z<|Ad 1 Z<|AG (hex.isPtr) Z Aa<|AD (p:=ve) 0 BC Z (a2 _<|AA.of_ext [] a0) Aa<|Ae (p:=An ve 0) (.inr Z) (zI ex.kind) AC Z ((a2 _<|AA.of_ext [] a0).ld (i:=0) (by simp[DQ,DU])) Aa ?_
   by_cases aj:ex.kind=((9:Nat):Int)
   ·refine Ap true Z Z (A5 aj) Aa<|Ad 2 Z ?_
    by_cases ak:(k:Int)=((1:Nat):Int)
    ·refine Ap true Z Z (A5 ak) (Ag (e:=32) Z Z Z)<|Ac 1 Z<|Ah Z<|Ab _ [0,0,0] Z<|Ad 1 Z<|AQ (vars+1) Z Z (CT oM oM) Aa<|Ac 1 Z<|ZN [0,0,0,0,2,0,0,0,0,3,0] Z<|Ad 2 Z<|AG (hex.isPtr) Z Aa<|AD (p:=ve) 4 B8 Z (a2 _<|AA.of_ext [] a0) Aa<|Ae (p:=An ve 4) (.inr Z) a1 Ba Z ((a2 _<|AA.of_ext [] a0).ld (i:=4) (by simp[DQ,DU])) Aa<|Ad 1 Z ?_
     refine Au (v:=a1) k CB Bf Z Z a3.rn.isSl Z sD Aa<|Ad 2 Z ?_
     refine Am 233 [] [] [vp,Aw a1 k 5,zI (vars+1),zI funcs] Z Z PX Aa (ih dd4 oM _ dp vp (p) (Aw a1 k 5) (ex.kids.getD k Ex.zero) _ _ (hp.ext (AX<|AR dp) a0) (RN.ptr (Aq dd4) (by decide) Ex.zero (a3.rn.ext (Al<|Aq dd4) a0) sD) oM _hfuncs oM oM) ?_
     rintro e8 w8 ⟨rfl,af⟩
     refine⟨_,rfl,af,?_⟩
     have ar:=af.size
     have al:=a0.trans af
     refine Bd (!(wf p funcs (ex.kids.getD k Ex.zero) (vars+1))) Z Z Aa<|Aj ?_
     cases am:(!(wf p funcs (ex.kids.getD k Ex.zero) (vars+1)))
     ·refine Ai (by first|rfl|exact zW am)<|A2<|Ab _ [0,0,0] Z<|Ad 1 Z<|AQ ((k+1:Nat):Int) Z Z (Be oM sD) Aa<|Ac 1 Z ?_
      exact⟨k+1,_,rfl,zR,⟨al,sD,OZ⟩,zD⟩
     exact Ah (by first|rfl|exact zW am)<|ZO Z<|A1<|AH<|Ao<|Ao<|AH<|Ao<|Af [8] Z (.bool false) Z ⟨LB,al⟩
    refine Ap false Z Z (A6 ak) (Ag (e:=32) Z Z Z)<|Ac 1 Z<|Ai Z<|A2<|ZN [0,0,0,0,2,0,0,0,0,3,0] Z<|Ad 2 Z<|AG (hex.isPtr) Z Aa<|AD (p:=ve) 4 B8 Z (a2 _<|AA.of_ext [] a0) Aa<|Ae (p:=An ve 4) (.inr Z) a1 Ba Z ((a2 _<|AA.of_ext [] a0).ld (i:=4) (by simp[DQ,DU])) Aa<|Ad 1 Z ?_
    refine Au (v:=a1) k CB Bf Z Z a3.rn.isSl Z sD Aa<|Ad 2 Z ?_
    refine Am 233 [] [] [vp,Aw a1 k 5,zI vars,zI funcs] Z Z PX Aa (ih dd4 oM _ dp vp (p) (Aw a1 k 5) (ex.kids.getD k Ex.zero) _ _ (hp.ext (AX<|AR dp) a0) (RN.ptr (Aq dd4) (by decide) Ex.zero (a3.rn.ext (Al<|Aq dd4) a0) sD) _hvars _hfuncs oM oM) ?_
    rintro av aw ⟨rfl,a4⟩
    refine⟨_,rfl,a4,?_⟩
    have an:=a4.size
    have a6:=a0.trans a4
    refine Bd (!(wf p funcs (ex.kids.getD k Ex.zero) vars)) Z Z Aa<|Aj ?_
    cases a7:(!(wf p funcs (ex.kids.getD k Ex.zero) vars))
    ·refine Ai (by first|rfl|exact zW a7)<|A2<|Ab _ [0,0,0] Z<|Ad 1 Z<|AQ ((k+1:Nat):Int) Z Z (Be oM sD) Aa<|Ac 1 Z ?_
     exact⟨k+1,_,rfl,zR,⟨a6,sD,OZ⟩,zD⟩
    exact Ah (by first|rfl|exact zW a7)<|ZO Z<|A1<|AH<|Ao<|Ao<|AH<|Ao<|Af [8] Z (.bool false) Z ⟨LB,a6⟩
   refine Ap false Z Z (A6 aj) Aa<|Ac 4 Z<|Ai Z<|A2<|ZN [0,0,0,0,2,0,0,0,0,3,0] Z<|Ad 2 Z<|AG (hex.isPtr) Z Aa<|AD (p:=ve) 4 B8 Z (a2 _<|AA.of_ext [] a0) Aa<|Ae (p:=An ve 4) (.inr Z) a1 Ba Z ((a2 _<|AA.of_ext [] a0).ld (i:=4) (by simp[DQ,DU])) Aa<|Ad 1 Z ?_
   refine Au (v:=a1) k CB Bf Z Z a3.rn.isSl Z sD Aa<|Ad 2 Z ?_
   refine Am 233 [] [] [vp,Aw a1 k 5,zI vars,zI funcs] Z Z PX Aa (ih dd4 oM _ dp vp (p) (Aw a1 k 5) (ex.kids.getD k Ex.zero) _ _ (hp.ext (AX<|AR dp) a0) (RN.ptr (Aq dd4) (by decide) Ex.zero (a3.rn.ext (Al<|Aq dd4) a0) sD) _hvars _hfuncs oM oM) ?_
   rintro ax ay ⟨rfl,a5⟩
   refine⟨_,rfl,a5,?_⟩
   have ao:=a5.size
   have a8:=a0.trans a5
   refine Bd (!(wf p funcs (ex.kids.getD k Ex.zero) vars)) Z Z Aa<|Aj ?_
   cases a9:(!(wf p funcs (ex.kids.getD k Ex.zero) vars))
   ·refine Ai (by first|rfl|exact zW a9)<|A2<|Ab _ [0,0,0] Z<|Ad 1 Z<|AQ ((k+1:Nat):Int) Z Z (Be oM sD) Aa<|Ac 1 Z ?_
    exact⟨k+1,_,rfl,zR,⟨a8,sD,OZ⟩,zD⟩
   exact Ah (by first|rfl|exact zW a9)<|ZO Z<|A1<|AH<|Ao<|Ao<|AH<|Ao<|Af [8] Z (.bool false) Z ⟨LB,a8⟩
  exact AE false Z Z (A6 ai) Aa<|Aj<|Ai Z<|A4<|Ay<|Ay<|At<|ZO Z<|A1<|Af [8] Z (.bool true) Z ⟨LB,a0⟩
 exact Ah (by first|rfl|exact zW ag)<|ZO Z<|A1<|Ao<|Af [8] Z (.bool false) Z ⟨LB,ad⟩
theorem LE (w:World)(vars:Int)(_hvars:Bk vars)  :
  Calls Tryz.prog 231 #[zI vars] w (fun e w'=>e=.returned (.bool (GA vars 0 412))∧w'=w):=by
 refine As [zI vars] 5 Tryz.func231 Z Z sM ?_
 have a0:w=w:=rfl
 exact ZO Z<|ZN [0,0,0] Z<|Ad 1 Z<|AB 94 [] [] [zI vars,zI ((0:Nat):Int),zI ((412:Nat):Int)] Z Z E7 Aa (.bool (decide (((0:Nat):Int)≤vars) && decide (vars≤((412:Nat):Int)))) (fun wq=>B3 wq _ _ _ _hvars oM oM)<|Ac 1 Z<|A1<|Af [2] Z (.bool (decide (((0:Nat):Int)≤vars) && decide (vars≤((412:Nat):Int)))) Z ⟨rfl,a0⟩
theorem LF {p:Prop}(h:p:=by first|exact AL (UZ (by assumption))|exact AL (Q8 ⟨Cw.1 (by assumption),Hz (by assumption),zO,zO⟩)|exact AL ((by assumption:wf p funcs ex vars=true).symm.trans (Q8 ⟨Cw.1 (by assumption),Hz (by assumption),zO,zO⟩))|exact AL (MA fun hh=>SE (by assumption) hh.1)|exact AL (MA fun hh=>Q9 (by assumption) hh.2.1)|exact AL (MA oM)):p:=h
theorem LG (w:World)(dp:Nat)(vp:Value)(p:List Fn)(dex:Nat)(ve:Value)(ex:Ex)(vars:Int)(funcs:Int)(hp:RN [] (rP (K4 dp)) w.heap vp p)(hex:RN [] (rP (H0 dex)) w.heap ve ex)(_hvars:Bk vars)(_hfuncs:Bk funcs)(hs:ex.size≤1000000000) :
  Calls Tryz.prog 191 #[vp,ve,zI vars,zI funcs] w (fun e w'=>e=.returned (.bool (Ml p ex vars funcs))∧AF w w'):=by
 refine As [vp,ve,zI vars,zI funcs] 37 Tryz.func191 Z Z sM ?_
 have a1:AF w w:=AF.refl w
 have hlp:=Rp (e:=ex) (x:=((400:Nat):Int)) oM
 refine ZO Z<|ZN [0,0,0,0,0,0,0,2,0,0,0,0,0,3,0,0,0,0,3,0,0,0,0,0,0,0,3,0,0] Z<|Ad 1 Z<|AB 231 [] [] [zI vars] Z Z Ym Aa (.bool<|GA vars 0 412) (fun wq=>LE wq _ _hvars)<|Ad 1 Z ?_
 cases ah:(GA vars 0 412)
 ·exact Ac 26 Z<|A1<|Af [8] Z (.bool false) Z ⟨LF,a1⟩
 refine Ad 2 Z<|AG (hp.isPtr) Z (Ag (e:=11) Z Z Z) ?_
 obtain⟨cs3,ae,a8⟩:=RN.at (AR _) hp
 obtain⟨a9,rfl,aa⟩:=RPr.of ae
 have a3:=aa.lenle
 unfold maxLen at a3
 refine AD (p:=vp) 0 BA Z (a8 _<|AA.of_ext [] a1) (Ag (e:=11) Z Z Z)<|Ae (p:=An vp 0) (.inr Z) a9 C5 Z ((a8 _<|AA.of_ext [] a1).ld (i:=0) (by simp[DQ,DU])) (Ag (e:=11) Z Z Z)<|AP (v:=a9) Fq Z aa.isSl (Ag (e:=11) Z Z Z)<|AB 94 [] [] [zI funcs,zI ((0:Nat):Int),zI (p.length:Int)] Z Z E7 (Ag (e:=11) Z Z Z) (.bool (decide (((0:Nat):Int)≤funcs) && decide (funcs≤(p.length:Int)))) (fun wq=>B3 wq _ _ _ _hfuncs oM oM)<|Ad 2 Z ?_
 cases ai:(decide (((0:Nat):Int)≤funcs) && decide (funcs≤(p.length:Int)))
 ·exact Ac 17 Z<|A1<|Af [8] Z (.bool false) Z ⟨LF,a1⟩
 refine Ad 1 Z<|Am 190 [] [] [ve,zI ((400:Nat):Int)] Z Z Sk (Ag (e:=20) Z Z Z) (HE _ dex ve (ex) _ (hex.ext (AX<|Aq dex) a1) oM oM oM) ?_
 rintro e6 w6 ⟨rfl,a4⟩
 refine⟨_,rfl,a4,?_⟩
 have af:=a4.size
 have a5:=a1.trans a4
 by_cases ab:((0:Nat):Int)≤I0 ex ((400:Nat):Int)
 ·refine CU true Z Z (A5 ab) (Ag (e:=20) Z Z Z)<|Ad 3 Z<|Am 232 [] [] [ve] Z Z UP (Ag (e:=25) Z Z Z) (Kg _ dex ve (ex) (hex.ext (AX<|Aq dex) a5) oM) ?_
  rintro e8 w8 ⟨rfl,a6⟩
  refine⟨_,rfl,a6,?_⟩
  have ag:=a6.size
  have a2:=a5.trans a6
  by_cases ac:(ex.deep:Int)≤((60:Nat):Int)
  ·refine Fw true Z Z (A5 ac) (Ag (e:=25) Z Z Z)<|Ad 6 Z<|Am 233 [] [] [vp,ve,zI vars,zI funcs] Z Z PX (Ag (e:=30) Z Z Z) (LC _ dp vp (p) dex ve (ex) _ _ (hp.ext (AX<|AR dp) a2) (hex.ext (AX<|Aq dex) a2) _hvars _hfuncs (by have h1:=Cw.1 (by assumption:GA vars 0 412=true);omega) (by have h2:=Hz (by assumption:(decide (((0:Nat):Int)≤funcs) && decide (funcs≤(p.length:Int)))=true);omega)) ?_
   rintro aj ak ⟨rfl,a0⟩
   refine⟨_,rfl,a0,?_⟩
   have ad:=a0.size
   have a7:=a2.trans a0
   exact Ac 2 Z<|A1<|Af [8] Z (.bool<|wf p funcs ex vars) Z ⟨LF,a7⟩
  exact Fw false Z Z (A6 ac) (Ag (e:=25) Z Z Z)<|Ac 9 Z<|A1<|Af [8] Z (.bool false) Z ⟨LF,a2⟩
 exact CU false Z Z (A6 ab) (Ag (e:=20) Z Z Z)<|Ac 14 Z<|A1<|Af [8] Z (.bool false) Z ⟨LF,a5⟩
theorem VW {s:ByteArray}(h:¬(1≤s.size∧s.size≤12)):false=Nx s:=by
  cases hh:Nx s with
  |false=>rfl
  |true=>unfold Nx at hh;simp only[z7,decide_eq_true_eq]at hh;exact absurd hh.1 h
theorem HF {p:Prop}(h:p:=by first|exact AL (VW (fun hh=>Q9 (DF (by assumption)) ⟨zO,zO⟩))|exact AL (OW (k:=0) oM oM)|exact AL (OW (k:=k) oM oM)|exact AL (SD hq oM (by rw[A5 (show 1≤s.size by omega),A5 (show s.size≤12 by omega)];rfl))):p:=h
theorem P0 {p:Prop}(h:p:=by exact DS hq (Q7 (by(by_cases h0:k=0;(rw[h0];left;omega);omega)))):p:=h
theorem M6 (w:World)(s:ByteArray)  (hl:s.size≤1000000000) :
  Calls Tryz.prog 189 #[.string s] w (fun e w'=>e=.returned (.bool (Nx s))∧w'=w):=by
 refine As [.string s] 46 Tryz.func189 Z Z sM ?_
 have a1:w=w:=rfl
 refine ZO Z<|A0<|ZN [0,0,0,0,0,0,0,0,0,0,0,0,0,0] Z<|Ad 1 Z<|Jp (s:=s) u9 Z Aa<|AB 94 [] [] [zI (s.size:Int),zI ((1:Nat):Int),zI ((12:Nat):Int)] Z Z E7 Aa (.bool (decide (((1:Nat):Int)≤(s.size:Int)) && decide ((s.size:Int)≤((12:Nat):Int)))) (fun wq=>B3 wq _ _ _ oM oM oM)<|Bd (!(decide (((1:Nat):Int)≤(s.size:Int)) && decide ((s.size:Int)≤((12:Nat):Int)))) Z Z Aa<|Ad 1 Z ?_
 cases ac:(!(decide (((1:Nat):Int)≤(s.size:Int)) && decide ((s.size:Int)≤((12:Nat):Int))))
 ·refine Ad 1 Z ?_
  have hsz:=Hz (Ds (by assumption):(decide (((1:Nat):Int)≤(s.size:Int)) && decide ((s.size:Int)≤((12:Nat):Int)))=true)
  refine Dd (s:=s) 0 u9 Z Z Z sD (Ag (e:=8) Z Z Z) ?_
  by_cases a5:((Jm s 0:Nat):Int)<97
  ·exact AE true Z Z (A5 a5) (Ag (e:=8) Z Z Z)<|Ac 6 Z<|Ah Z<|ZO Z<|A1<|Ao<|Af [2] Z (.bool false) Z ⟨HF,a1⟩
  refine AE false Z Z (A6 a5) (Ag (e:=8) Z Z Z)<|Ad 3 Z<|Dd (s:=s) 0 u9 Z Z Z sD (Ag (e:=13) Z Z Z) ?_
  by_cases a6:122<((Jm s 0:Nat):Int)
  ·exact BU true Z Z (A5 a6) (Ag (e:=13) Z Z Z)<|Ac 1 Z<|Ah Z<|ZO Z<|A1<|Ao<|Af [2] Z (.bool false) Z ⟨HF,a1⟩
  refine BU false Z Z (A6 a6) (Ag (e:=13) Z Z Z)<|Ac 1 Z<|Ai Z<|A2<|A0<|ZO Z<|A3<|AT (S:=Nat) (fun k=>([(3,zI (k:Int)),(0,.string s)])) (fun k W=>W=w∧k≤s.size∧(List.range k).all (Um s)=true) (fun k=>s.size-k) 0 ⟨rfl,rfl,trivial⟩ ⟨a1,sD,(by rfl)⟩ ?_
  clear a1
  rintro k ρ5 w5 ⟨a0,a7,hq⟩
  refine A0<|ZN [0,0,0,0] Z<|Ad 2 Z<|Jp (s:=s) u9 Z Aa ?_
  by_cases a8:(k:Int)<(s.size:Int)
  ·refine AE true Z Z (A5 a8) Aa<|Aj<|Ah Z<|A2<|A0<|A3<|ZN [0,0,0,0,0,0,0,0,0,0,0,0,0,0,0,0,0,0,0,0,0,0] Z<|Ad 2 Z<|Dd (s:=s) k u9 Z Z Z sD Aa ?_
   by_cases a9:((Jm s k:Nat):Int)<97
   ·refine AE true Z Z (A5 a9) Aa<|Ad 9 Z<|Dd (s:=s) k u9 Z Z Z sD (Ag (e:=34) Z Z Z) ?_
    by_cases aa:((Jm s k:Nat):Int)<48
    ·exact AE true Z Z (A5 aa) (Ag (e:=34) Z Z Z)<|Ac 7 Z<|Ah Z<|ZO Z<|A1<|AH<|Ao<|Ao<|AH<|Ao<|Af [2] Z (.bool false) Z ⟨HF,a0⟩
    refine AE false Z Z (A6 aa) (Ag (e:=34) Z Z Z)<|Ad 3 Z<|Dd (s:=s) k u9 Z Z Z sD (Ag (e:=39) Z Z Z) ?_
    by_cases ab:57<((Jm s k:Nat):Int)
    ·exact BU true Z Z (A5 ab) (Ag (e:=39) Z Z Z)<|Ac 2 Z<|Ah Z<|ZO Z<|A1<|AH<|Ao<|Ao<|AH<|Ao<|Af [2] Z (.bool false) Z ⟨HF,a0⟩
    refine BU false Z Z (A6 ab) (Ag (e:=39) Z Z Z)<|Ac 2 Z<|Ai Z<|A2<|Ab _ [0,0,0] Z<|Ad 1 Z<|AQ ((k+1:Nat):Int) Z Z (Be oM sD) Aa<|Ac 1 Z ?_
    exact⟨k+1,_,rfl,⟨rfl,rfl,trivial⟩,⟨a0,sD,P0⟩,zD⟩
   refine AE false Z Z (A6 a9) Aa<|Ad 3 Z<|Dd (s:=s) k u9 Z Z Z sD (Ag (e:=28) Z Z Z) ?_
   by_cases a2:122<((Jm s k:Nat):Int)
   ·refine BU true Z Z (A5 a2) (Ag (e:=28) Z Z Z)<|Ad 4 Z<|Dd (s:=s) k u9 Z Z Z sD (Ag (e:=34) Z Z Z) ?_
    by_cases a3:((Jm s k:Nat):Int)<48
    ·exact AE true Z Z (A5 a3) (Ag (e:=34) Z Z Z)<|Ac 7 Z<|Ah Z<|ZO Z<|A1<|AH<|Ao<|Ao<|AH<|Ao<|Af [2] Z (.bool false) Z ⟨HF,a0⟩
    refine AE false Z Z (A6 a3) (Ag (e:=34) Z Z Z)<|Ad 3 Z<|Dd (s:=s) k u9 Z Z Z sD (Ag (e:=39) Z Z Z) ?_
    by_cases a4:57<((Jm s k:Nat):Int)
    ·exact BU true Z Z (A5 a4) (Ag (e:=39) Z Z Z)<|Ac 2 Z<|Ah Z<|ZO Z<|A1<|AH<|Ao<|Ao<|AH<|Ao<|Af [2] Z (.bool false) Z ⟨HF,a0⟩
    refine BU false Z Z (A6 a4) (Ag (e:=39) Z Z Z)<|Ac 2 Z<|Ai Z<|A2<|Ab _ [0,0,0] Z<|Ad 1 Z<|AQ ((k+1:Nat):Int) Z Z (Be oM sD) Aa<|Ac 1 Z ?_
    exact⟨k+1,_,rfl,⟨rfl,rfl,trivial⟩,⟨a0,sD,P0⟩,zD⟩
   refine BU false Z Z (A6 a2) (Ag (e:=28) Z Z Z)<|Ac 13 Z<|Ai Z<|A2<|Ab _ [0,0,0] Z<|Ad 1 Z<|AQ ((k+1:Nat):Int) Z Z (Be oM sD) Aa<|Ac 1 Z ?_
   exact⟨k+1,_,rfl,⟨rfl,rfl,trivial⟩,⟨a0,sD,P0⟩,zD⟩
  exact AE false Z Z (A6 a8) Aa<|Aj<|Ai Z<|A4<|Ay<|Ay<|At<|ZO Z<|A1<|Af [2] Z (.bool true) Z ⟨HF,a0⟩
 exact Ac 9 Z<|Ah Z<|ZO Z<|A1<|Ao<|Af [2] Z (.bool false) Z ⟨HF,a1⟩
theorem SM {α:Type}{l:List α}{f:α→Bool}{k:Nat}(d:α)(hk:k<l.length)(h:(l.take k).any f=false)(h2:f (l.getD k d)=false):(l.take (k+1)).any f=false:=by
  rw[List.take_succ_eq_append_getElem hk,List.any_append,h]
  have:l.getD k d=l[k]:=by simp[hk]
  rw[this]at h2
  simp[h2]
theorem Ud {α:Type}{l:List α}{f:α→Bool}{k n:Nat}(d:α)(hk:k<n)(hn:n≤l.length)(h:f (l.getD k d)=true):(l.take n).any f=true:=by
  rw[List.any_eq_true]
  have hkl:k<l.length:=by omega
  have e:l.getD k d=l[k]:=by simp[hkl]
  refine⟨l[k],?_,by rw[← e];exact h⟩
  rw[List.mem_take_iff_getElem]
  exact⟨k,zO,rfl⟩
theorem Ue {p:List Fn}{a j:Nat}{x:Int}(hx:x=Da ((p.getD a Fn.zero).outs.take j) ((400:Nat):Int))(h:0≤x)(hj:(p.getD a Fn.zero).outs.length≤j):Ex.sizes (p.getD a Fn.zero).outs≤400:=by
  rw[za hj]at hx
  rcases HT (p.getD a Fn.zero).outs ((400:Nat):Int) (Int.natCast_nonneg _)with h2|h2
  · have:=h2.2;omega
  · have:=h2.1;omega
theorem SN {p:List Fn}{a j:Nat}(h:Da ((p.getD a Fn.zero).outs.take j) ((400:Nat):Int)<0):Kb p a=false:=YJ (by
  have h1:=Mq h
  rcases HT (p.getD a Fn.zero).outs ((400:Nat):Int) (Int.natCast_nonneg _)with h2|h2
  · have:=h2.1;have:=h2.2;omega
  · have:=h2.2;omega)
theorem IA {p:Prop}(h:p:=by first|exact AL (YE (DF (by assumption))).symm|exact AL (YG (DF (by assumption))).symm|exact AL (YH (DF (by assumption))).symm|exact AL (YF (Ud (k:=k) Fn.zero oM oM (by assumption))).symm|exact AL (SN (j:=j+1) (by rw[hnx,← hx];omega)).symm|exact AL (YI (j:=j) oM (DF (by assumption))).symm|exact AL (V0 (Ds (by assumption)) hqa (Ds (by assumption)) (Ds (by assumption)) hqe oM (Ue hx oM oM)).symm):p:=h
theorem FJ {p:Prop}(h:p:=by simp[DQ,DU]):p:=h
theorem LH (w:World)(dp:Nat)(vp:Value)(p:List Fn)(a:Nat)(hp:RN [] (rP (K4 dp)) w.heap vp p)(ha:a<p.length)(hpl:p.length≤1000000)(hz:Qj p) :
  Calls Tryz.prog 147 #[vp,zI (a:Int)] w (fun e w'=>e=.returned (.bool (Kb p a))∧AF w w'):=by
 refine As [vp,zI (a:Int)] 91 Tryz.func147 Z Z sM ?_
 have a4:AF w w:=AF.refl w
 have hza:=hz a ha
 refine ZO Z<|ZN [0,0,0,2,0,0,0] Z<|Ad 1 Z<|AG (hp.isPtr) Z Aa ?_
 obtain⟨cs1,ay,al⟩:=RN.at (AR _) hp
 obtain⟨a0,rfl,a5⟩:=RPr.of ay
 have ab:=a5.lenle
 unfold maxLen at ab
 refine AD (p:=vp) 0 BA Z (al _<|AA.of_ext [] a4) Aa<|Ae (p:=An vp 0) (.inr Z) a0 C5 Z ((al _<|AA.of_ext [] a4).ld (i:=0) FJ) Aa<|Ad 1 Z<|Au (v:=a0) a Fq C9 Z Z a5.isSl Z sD Aa<|Ac 1 Z<|A0<|ZN [0,0,0,2,0,0,0,0,0,0,2,0,0,0,0,0,0,0,2,0,0,0,0] Z<|Ad 1 Z ?_
 refine AG (RN.isPtr<|RN.ptr (Ax dp) (by decide) Fn.zero a5 sD) Z Aa ?_
 obtain⟨cs2,az,a3⟩:=a5.get (Ax dp) Fn.zero (k:=a) sD
 obtain⟨a6,rfl,a9⟩:=RF.of az
 have ac:=a9.rn.lenle
 unfold maxLen at ac
 refine AD (p:=Aw a0 a 3) 0 G8 Z (a3 _<|AA.of_ext [] a4) Aa<|Ae (p:=An (Aw a0 a 3) 0) (.inr Z) (.string<|(p.getD a Fn.zero).name) LU Z ((a3 _<|AA.of_ext [] a4).ld (i:=0) FJ) Aa<|AB 189 [] [] [.string<|(p.getD a Fn.zero).name] Z Z Yd Aa (.bool<|Nx<|(p.getD a Fn.zero).name) (fun wq=>M6 wq ((p.getD a Fn.zero).name) oM)<|Bd (!(Nx<|(p.getD a Fn.zero).name)) Z Z Aa<|Ad 1 Z ?_
 cases b1:(!(Nx ((p.getD a Fn.zero).name)))
 ·refine Ad 1 Z<|AG (RN.isPtr<|RN.ptr (Ax dp) (by decide) Fn.zero a5 sD) Z (Ag (e:=21) Z Z Z)<|AD (p:=Aw a0 a 3) 1 Ct Z (a3 _<|AA.of_ext [] a4) (Ag (e:=21) Z Z Z)<|Ae (p:=An (Aw a0 a 3) 1) (.inr Z) (zI<|(p.getD a Fn.zero).params) AC Z ((a3 _<|AA.of_ext [] a4).ld (i:=1) FJ) (Ag (e:=21) Z Z Z) ?_
  refine AB 94 [] [] [zI<|(p.getD a Fn.zero).params,zI ((0:Nat):Int),zI ((12:Nat):Int)] Z Z E7 (Ag (e:=21) Z Z Z) (.bool (decide (((0:Nat):Int)≤((p.getD a Fn.zero).params)) && decide (((p.getD a Fn.zero).params)≤((12:Nat):Int)))) (fun wq=>B3 wq _ _ _ a9.rng oM oM)<|Bd (!(decide (((0:Nat):Int)≤((p.getD a Fn.zero).params)) && decide (((p.getD a Fn.zero).params)≤((12:Nat):Int)))) Z Z (Ag (e:=21) Z Z Z)<|Ad 2 Z ?_
  cases b2:(!(decide (((0:Nat):Int)≤((p.getD a Fn.zero).params)) && decide (((p.getD a Fn.zero).params)≤((12:Nat):Int))))
  ·refine Ad 1 Z<|AG (RN.isPtr<|RN.ptr (Ax dp) (by decide) Fn.zero a5 sD) Z (Ag (e:=29) Z Z Z)<|AD (p:=Aw a0 a 3) 2 BQ Z (a3 _<|AA.of_ext [] a4) (Ag (e:=29) Z Z Z)<|Ae (p:=An (Aw a0 a 3) 2) (.inr Z) a6 Ba Z ((a3 _<|AA.of_ext [] a4).ld (i:=2) FJ) (Ag (e:=29) Z Z Z)<|AP (v:=a6) CB Z a9.rn.isSl (Ag (e:=29) Z Z Z) ?_
   refine AB 94 [] [] [zI ((((p.getD a Fn.zero).outs).length:Nat):Int),zI ((1:Nat):Int),zI ((12:Nat):Int)] Z Z E7 (Ag (e:=29) Z Z Z) (.bool (decide (((1:Nat):Int)≤((((p.getD a Fn.zero).outs).length:Nat):Int)) && decide (((((p.getD a Fn.zero).outs).length:Nat):Int)≤((12:Nat):Int)))) (fun wq=>B3 wq _ _ _ oM oM oM)<|Bd (!(decide (((1:Nat):Int)≤((((p.getD a Fn.zero).outs).length:Nat):Int)) && decide (((((p.getD a Fn.zero).outs).length:Nat):Int)≤((12:Nat):Int)))) Z Z (Ag (e:=29) Z Z Z)<|Ac 1 Z ?_
   cases ar:(!(decide (((1:Nat):Int)≤((((p.getD a Fn.zero).outs).length:Nat):Int)) && decide (((((p.getD a Fn.zero).outs).length:Nat):Int)≤((12:Nat):Int))))
   ·refine Ai (by first|rfl|exact zW ar)<|A2<|A0<|ZO Z<|A3 ?_
    refine AT (S:=Nat) (fun k=>([(6,zI (k:Int)),(0,vp),(1,zI (a:Int)),(5,Aw a0 a 3)])) (fun k W=>AF w W∧k≤a∧(p.take k).any (fun g=>Gi g.name (p.getD a Fn.zero).name)=false) (fun k=>a-k) 0 ⟨rfl,rfl,rfl,rfl,trivial⟩ ⟨a4,sD,(by rfl)⟩ ?_
    clear a4 ab ac
    rintro k ρ9 w9 ⟨a7,au,hq⟩
    have am:w.heap.size≤w9.heap.size:=a7.size
    refine A0<|ZN [0,0,0] Z<|Ad 2 Z ?_
    by_cases ad:(k:Int)<(a:Int)
    ·refine AE true Z Z (A5 ad) Aa<|Aj<|Ah Z<|A2<|A0<|A3<|A0<|AO _ [0,0,0,1,0,0,0,1,0,0,0,1,0] mixed (by kernel_rfl)<|Ad 1 Z<|AG (hp.isPtr) Z Aa<|AD (p:=vp) 0 BA Z (al _<|AA.of_ext [] a7.drew) Aa<|Ae (p:=An vp 0) (.inl Z) a0 C5 Z ((al _<|AA.of_ext [] a7.drew).ld (i:=0) FJ) Aa<|Ad 1 Z ?_
     refine Au (v:=a0) k Fq C9 Z Z a5.isSl Z sD Aa ?_
     obtain⟨cs11,an,ae⟩:=a5.get (Ax dp) Fn.zero (k:=k) sD
     obtain⟨b0,rfl,ao⟩:=RF.of an
     have af:=ao.rn.lenle
     unfold maxLen at af
     refine AD (p:=Aw a0 k 3) 0 G8 Z (ae _<|AA.of_ext [] a7.drew) Aa<|Ae (p:=An (Aw a0 k 3) 0) (.inl Z) (.string<|(p.getD k Fn.zero).name) LU Z ((ae _<|AA.of_ext [] a7.drew).ld (i:=0) FJ) Aa<|Ad 1 Z<|AG (RN.isPtr<|RN.ptr (Ax dp) (by decide) Fn.zero a5 sD) Z Aa<|AD (p:=Aw a0 a 3) 0 G8 Z (a3 _<|AA.of_ext [] a7.drew) Aa ?_
     refine Ae (p:=An (Aw a0 a 3) 0) (.inl Z) (.string<|(p.getD a Fn.zero).name) LU Z ((a3 _<|AA.of_ext [] a7.drew).ld (i:=0) FJ) Aa ?_
     cases ag:Gi ((p.getD k Fn.zero).name) ((p.getD a Fn.zero).name)
     ·refine Oz false u9 Z Z ag Aa<|Aj<|Ai Z<|A2<|Ab _ [0,0,0] Z<|Ad 1 Z<|AQ ((k+1:Nat):Int) Z Z (Be oM sD) Aa<|Ac 1 Z ?_
      exact⟨k+1,_,rfl,zR,⟨a7.drew,sD,(by exact SM Fn.zero oM hq (by assumption))⟩,zD⟩
     exact Oz true u9 Z Z ag Aa<|Aj<|Ah Z<|ZO Z<|A1<|AH<|Ao<|Ao<|AH<|Ao<|Af [4] Z (.bool false) Z ⟨IA,a7.drew⟩
    refine AE false Z Z (A6 ad) Aa<|Aj<|Ai Z<|A4<|Ay<|Ay<|At<|ZN [0] Z ?_
    have hka:k=a:=by omega
    rw[hka]at hq
    have hqa:=hq
    refine Ac 1 Z<|A0<|ZO Z<|A3 ?_
    refine AT (S:=Nat×Int) (fun⟨j,x⟩=>([(7,zI x),(8,zI (j:Int)),(0,vp),(1,zI (a:Int)),(5,Aw a0 a 3)])) (fun⟨j,x⟩ W=>AF w W∧j≤(p.getD a Fn.zero).outs.length∧x=Da ((p.getD a Fn.zero).outs.take j) ((400:Nat):Int)∧(0≤x∧x≤400)∧(List.range j).all (fun j=>Ml p ((p.getD a Fn.zero).outs.getD j Ex.zero) (p.getD a Fn.zero).params (a:Int))=true) (fun⟨j,x⟩=>(p.getD a Fn.zero).outs.length-j) (0,((400:Nat):Int)) ⟨rfl,rfl,rfl,rfl,rfl,trivial⟩ ⟨a7,sD,(by rw[List.take_zero,Da]),oM,(by rfl)⟩ ?_
    clear a7 am
    rintro⟨j,x⟩ ρ13 b3 ⟨a1,ap,hx,aq,hqe⟩
    have av:w.heap.size≤b3.heap.size:=a1.size
    refine A0<|ZN [0,0,0,0,2,0,0] Z<|Ad 2 Z<|AG (RN.isPtr<|RN.ptr (Ax dp) (by decide) Fn.zero a5 sD) Z Aa<|AD (p:=Aw a0 a 3) 2 BQ Z (a3 _<|AA.of_ext [] a1) Aa<|Ae (p:=An (Aw a0 a 3) 2) (.inr Z) a6 Ba Z ((a3 _<|AA.of_ext [] a1).ld (i:=2) FJ) Aa<|AP (v:=a6) CB Z a9.rn.isSl Aa ?_
    by_cases ah:(j:Int)<((((p.getD a Fn.zero).outs).length:Nat):Int)
    ·refine AE true Z Z (A5 ah) Aa<|Aj<|Ah Z<|A2<|A0<|A3<|ZN [0,0,0,2,0,0,0,3,0] Z ?_
     have hst:=CW (l:=(p.getD a Fn.zero).outs) (k:=j) oM
     have hle:=CF (p.getD a Fn.zero).outs (j+1)
     have hnx:=Mp (l:=(p.getD a Fn.zero).outs) (k:=j) (x:=((400:Nat):Int)) oM oM
     have hnr:=O2 (e:=(p.getD a Fn.zero).outs.getD j Ex.zero) (x:=x) oM
     refine Ad 1 Z<|AG (RN.isPtr<|RN.ptr (Ax dp) (by decide) Fn.zero a5 sD) Z Aa<|AD (p:=Aw a0 a 3) 2 BQ Z (a3 _<|AA.of_ext [] a1) Aa<|Ae (p:=An (Aw a0 a 3) 2) (.inr Z) a6 Ba Z ((a3 _<|AA.of_ext [] a1).ld (i:=2) FJ) Aa<|Ad 1 Z ?_
     refine Au (v:=a6) j CB Bf Z Z a9.rn.isSl Z sD Aa<|Ad 1 Z ?_
     refine Am 190 [] [] [Aw a6 j 5,zI x] Z Z Sk Aa (HE _ dp (Aw a6 j 5) (((p.getD a Fn.zero).outs).getD j Ex.zero) _ (RN.ptr (Aq dp) (by decide) Ex.zero (a9.rn.ext (Al<|Aq dp) a1) sD) oM oM oM) ?_
     rintro b4 b5 ⟨rfl,aa⟩
     refine⟨_,rfl,aa,?_⟩
     have aw:=aa.size
     have a2:=a1.trans aa
     refine Ac 1 Z<|A0<|AO _ [0,0,0,0,0,0,0,1,0,0,0,0,0,1,0,3,0,0] mixed (by kernel_rfl)<|Ad 1 Z ?_
     by_cases ai:I0 (((p.getD a Fn.zero).outs).getD j Ex.zero) x<((0:Nat):Int)
     ·exact AE true Z Z (A5 ai) Aa<|Ac 16 Z<|Ah Z<|ZO Z<|A1<|AH<|Ao<|Ao<|AH<|Ao<|Af [4] Z (.bool false) Z ⟨IA,a2.drew⟩
     refine AE false Z Z (A6 ai) Aa<|Ad 3 Z<|AG (RN.isPtr<|RN.ptr (Ax dp) (by decide) Fn.zero a5 sD) Z (Ag (e:=75) Z Z Z)<|AD (p:=Aw a0 a 3) 2 BQ Z (a3 _<|AA.of_ext [] a2.drew) (Ag (e:=75) Z Z Z)<|Ae (p:=An (Aw a0 a 3) 2) (.inl Z) a6 Ba Z ((a3 _<|AA.of_ext [] a2.drew).ld (i:=2) FJ) (Ag (e:=75) Z Z Z)<|Ad 1 Z ?_
     refine Au (v:=a6) j CB Bf Z Z a9.rn.isSl Z sD (Ag (e:=75) Z Z Z)<|Ad 1 Z ?_
     refine AG (RN.isPtr<|RN.ptr (Ax dp) (by decide) Fn.zero a5 sD) Z (Ag (e:=75) Z Z Z)<|AD (p:=Aw a0 a 3) 1 Ct Z (a3 _<|AA.of_ext [] a2.drew) (Ag (e:=75) Z Z Z)<|Ae (p:=An (Aw a0 a 3) 1) (.inl Z) (zI<|(p.getD a Fn.zero).params) AC Z ((a3 _<|AA.of_ext [] a2.drew).ld (i:=1) FJ) (Ag (e:=75) Z Z Z)<|Ad 1 Z ?_
     refine Am 191 [] [] [vp,Aw a6 j 5,zI<|(p.getD a Fn.zero).params,zI (a:Int)] Z Z Ye (Ag (e:=75) Z Z Z) (LG _ dp vp (p) dp (Aw a6 j 5) (((p.getD a Fn.zero).outs).getD j Ex.zero) _ _ (hp.ext (AX<|AR dp) a2.drew) (RN.ptr (Aq dp) (by decide) Ex.zero (a9.rn.ext (Al<|Aq dp) a2.drew) sD) a9.rng oM oM) ?_
     rintro b6 b7 ⟨rfl,a8⟩
     refine⟨_,rfl,a8,?_⟩
     replace a8:=a8.of_drew
     have ax:=a8.size
     have aj:=a2.trans a8
     refine Bd (!(Ml p (((p.getD a Fn.zero).outs).getD j Ex.zero) ((p.getD a Fn.zero).params) (a:Int))) Z Z (Ag (e:=75) Z Z Z)<|Ac 1 Z ?_
     cases ak:(!(Ml p (((p.getD a Fn.zero).outs).getD j Ex.zero) ((p.getD a Fn.zero).params) (a:Int)))
     ·refine Ai (by first|rfl|exact zW ak)<|A2<|Ab _ [0,0,0] Z<|Ad 1 Z<|AQ ((j+1:Nat):Int) Z Z (Be oM sD) Aa<|Ac 1 Z ?_
      exact⟨(j+1,I0 (((p.getD a Fn.zero).outs).getD j Ex.zero) x),_,rfl,zR,⟨aj,sD,(by rw[hnx,← hx]),oM,(by exact DS hqe (Ds (by assumption)))⟩,zD⟩
     exact Ah (by first|rfl|exact zW ak)<|ZO Z<|A1<|AH<|Ao<|Ao<|AH<|Ao<|Af [4] Z (.bool false) Z ⟨IA,aj⟩
    exact AE false Z Z (A6 ah) Aa<|Aj<|Ai Z<|A4<|Ay<|Ay<|At<|ZO Z<|A1<|Af [4] Z (.bool true) Z ⟨IA,a1⟩
   exact Ah (by first|rfl|exact zW ar)<|ZO Z<|A1<|Ao<|Af [4] Z (.bool false) Z ⟨IA,a4⟩
  exact Ac 8 Z<|Ah Z<|ZO Z<|A1<|Ao<|Af [4] Z (.bool false) Z ⟨IA,a4⟩
 exact Ac 16 Z<|Ah Z<|ZO Z<|A1<|Ao<|Af [4] Z (.bool false) Z ⟨IA,a4⟩
theorem SP {p:Prop}(h:p:=by first|exact AL (SF oM)|exact AL (SG oM oM oM hq)|exact AL (It (k:=k) oM (DF (by assumption)))):p:=h
theorem Nm (w:World)(dp:Nat)(vp:Value)(p:List Fn)(hp:RN [] (rP (K4 dp)) w.heap vp p)(hz:Qj p) :
  Calls Tryz.prog 91 #[vp] w (fun e w'=>e=.returned (.bool (H2 p))∧AF w w'):=by
 refine As [vp] 23 Tryz.func91 Z Z sM ?_
 have a1:AF w w:=AF.refl w
 refine ZO Z<|A0<|ZN [0,0,0,2,0,0] Z<|Ad 1 Z<|AG (hp.isPtr) Z Aa ?_
 obtain⟨cs1,ac,a3⟩:=RN.at (AR _) hp
 obtain⟨a4,rfl,a5⟩:=RPr.of ac
 have a2:=a5.lenle
 unfold maxLen at a2
 refine AD (p:=vp) 0 BA Z (a3 _<|AA.of_ext [] a1) Aa<|Ae (p:=An vp 0) (.inr Z) a4 C5 Z ((a3 _<|AA.of_ext [] a1).ld (i:=0) (by simp[DQ,DU])) Aa<|AP (v:=a4) Fq Z a5.isSl Aa ?_
 by_cases a7:((16:Nat):Int)<(p.length:Int)
 ·exact BU true Z Z (A5 a7) Aa<|Aj<|Ah Z<|ZO Z<|A1<|Ao<|Af [2] Z (.bool false) Z ⟨SP,a1⟩
 refine BU false Z Z (A6 a7) Aa<|Aj<|Ai Z<|A2<|A0<|ZO Z<|A3<|AT (S:=Nat) (fun k=>([(3,zI (k:Int)),(0,vp)])) (fun k W=>AF w W∧k≤p.length∧(List.range k).all (Kb p)=true) (fun k=>p.length-k) 0 ⟨rfl,rfl,trivial⟩ ⟨a1,sD,(by rfl)⟩ ?_
 clear a1 a2
 rintro k ρ3 w3 ⟨a0,a8,hq⟩
 have ad:w.heap.size≤w3.heap.size:=a0.size
 refine A0<|ZN [0,0,0,0,2,0,0] Z<|Ad 2 Z<|AG (hp.isPtr) Z Aa<|AD (p:=vp) 0 BA Z (a3 _<|AA.of_ext [] a0) Aa<|Ae (p:=An vp 0) (.inr Z) a4 C5 Z ((a3 _<|AA.of_ext [] a0).ld (i:=0) (by simp[DQ,DU])) Aa<|AP (v:=a4) Fq Z a5.isSl Aa ?_
 by_cases a9:(k:Int)<(p.length:Int)
 ·refine AE true Z Z (A5 a9) Aa<|Aj<|Ah Z<|A2<|A0<|A3<|ZN [0,0,3,0] Z<|Ad 2 Z<|Am 147 [] [] [vp,zI (k:Int)] Z Z XZ Aa (LH _ dp vp (p) (k) (hp.ext (AX<|AR dp) a0) oM oM hz) ?_
  rintro e5 w5 ⟨rfl,a6⟩
  refine⟨_,rfl,a6,?_⟩
  have ae:=a6.size
  have aa:=a0.trans a6
  refine Bd (!(Kb p k)) Z Z Aa<|Aj ?_
  cases ab:(!(Kb p k))
  ·refine Ai (by first|rfl|exact zW ab)<|A2<|Ab _ [0,0,0] Z<|Ad 1 Z<|AQ ((k+1:Nat):Int) Z Z (Be oM sD) Aa<|Ac 1 Z ?_
   exact⟨k+1,_,rfl,⟨rfl,rfl,trivial⟩,⟨aa,sD,(by exact DS hq (Ds (by assumption)))⟩,zD⟩
  exact Ah (by first|rfl|exact zW ab)<|ZO Z<|A1<|AH<|Ao<|Ao<|AH<|Ao<|Af [2] Z (.bool false) Z ⟨SP,aa⟩
 exact AE false Z Z (A6 a9) Aa<|Aj<|Ai Z<|A4<|Ay<|Ay<|At<|ZO Z<|A1<|Af [2] Z (.bool true) Z ⟨SP,a0⟩
theorem Cf (w:World)(x:Int)(K:Nat)(_hx:Bk x)(_hK:K≤1000000000000)(hK:K≤1000000000) :
  Calls Tryz.prog 203 #[zI x,zI (K:Int)] w (fun e w'=>∃v0:Value,e=.returned (v0)∧AF w w'∧Fr (Bo rI 2) w.heap.size w'.heap.size w'.heap v0 (HQ K x)):=by
 refine As [zI x,zI (K:Int)] 14 Tryz.func203 Z Z sM ?_
 have a5:AF w w:=AF.refl w
 refine ZO Z<|ZN [0,3,0] Z<|Ad 1 Z (Fx (n:=K) Bl BD Z Z Z sD Aa fun v1 w1 a2 ab a0=>?_)
 have a6:=a2.size
 have a1:=a5.trans a2
 refine Ac 1 Z<|A0<|ZN [0,0] Z<|Ad 1 Z ?_
 by_cases a3:((0:Nat):Int)<(K:Int)
 ·refine BU true Z Z (A5 a3) Aa<|Aj<|Ah Z<|Ab _ [0,0,0,4] Z<|Ad 2 Z<|Au (v:=v1) 0 Bl BD Z Z a0.isSl Z sD Aa ?_
  refine GG (v:=v1) (w:=w1) I3 Z Z _hx a0 sD Aa fun w3 F3 a4 ac a7 a8=>?_
  have a9:AF w w3:=a4.below a1 (fun c hc=>A8 (A7 _) (a7 c hc).1) a1.size
  have aa:=a4.size
  exact Aj<|ZN [0,0] Z<|Ac 2 Z<|A1<|Af [4] Z v1 Z ⟨v1,rfl,a9,(by exact a8.up o1)⟩
 exact BU false Z Z (A6 a3) Aa<|Aj<|Ai Z<|A2<|ZN [0,0] Z<|Ac 2 Z<|A1<|Af [4] Z v1 Z ⟨v1,rfl,a1,(by have h:=a0.up o1;obtain rfl:K=0:=oM;exact h)⟩
theorem Nn (a:List Int)(y:Int):Vq a y=Di a y:=by
  unfold Vq Di
  exact KI (d:=0) (k:=a.length) (fun r hr=>by rw[DB (d:=0) hr,Ck _ hr]) (by simp) (by simp)
theorem Cv {p:Prop}(h:p:=by first|omega|assumption|(simp only[zb,z9,z4,z6,z5,Eu];omega)|(simp[zb,z9,z4,z6,z5,Eu];done)|(simp[zb,z9,z4,z6,z5,Eu];omega)):p:=h
theorem BW (w:World)(va:Value)(a:Sr)(vb:Value)(b:Sr)(ha:Rd (B5 rI) w.heap va a)(hb:Rd (B5 rI) w.heap vb b)(hla:a.length≤1000000000000)(hl:a.length≤b.length) :
  Calls Tryz.prog 207 #[va,vb] w (fun e w'=>∃v0:Value,e=.returned (v0)∧AF w w'∧Fr (Bo rI 2) w.heap.size w'.heap.size w'.heap v0 (Cz a b)):=by
 refine As [va,vb] 27 Tryz.func207 Z Z sM ?_
 have a8:AF w w:=AF.refl w
 have an:=ha.lenle
 have ao:=hb.lenle
 refine ZO Z<|ZN [3,0] Z (Cp (rI) AK Bl BD Aa fun v1 w1 a4 af a9=>?_)
 have a5:=a4.size
 have aa:=a8.trans a4
 refine Ac 1 Z<|A0<|ZO Z<|A3 ?_
 refine AT (S:=Nat×Value) (fun⟨k,vo⟩=>([(5,vo),(6,zI (k:Int)),(0,va),(1,vb)])) (fun⟨k,vo⟩ W=>AF w W∧Fr (Bo rI 2) w.heap.size W.heap.size W.heap vo (Du k fun t=>md (a.getD t 0+b.getD t 0))∧k≤a.length) (fun⟨k,vo⟩=>a.length-k) (0,v1) ⟨rfl,rfl,rfl,rfl,trivial⟩ ⟨aa,(by exact a9.up o1),Cv⟩ ?_
 clear a8 a9 af a4 a5 aa
 rintro⟨k,vo⟩ ρ2 w2 ⟨a2,a1,ab⟩
 have ag:w.heap.size≤w2.heap.size:=a2.size
 refine A0<|ZN [0,0,0,0] Z<|Ad 2 Z<|AP (v:=va) Bl Z ha.isSl Aa ?_
 by_cases ac:(k:Int)<(a.length:Int)
 ·refine AE true Z Z (A5 ac) Aa<|Aj<|Ah Z<|A2<|A0<|A3<|AO _ [0,0,0,0,1,0,0,0,1,0,3,4,0] mixed (by kernel_rfl)<|Ad 3 Z<|Au (v:=va) k Bl BD Z Z ha.isSl Z Cv Aa ?_
  refine Ae (p:=Aw va k 1) (.inl Z) (zI<|a.getD k 0) AC Z (Bc a2.drew (ha.getI Cv).1) Aa<|Ad 2 Z ?_
  refine Au (v:=vb) k Bl BD Z Z hb.isSl Z Cv Aa ?_
  refine Ae (p:=Aw vb k 1) (.inl Z) (zI<|b.getD k 0) AC Z (Bc a2.drew (hb.getI Cv).1) Aa ?_
  refine AB 64 [] [] [zI<|a.getD k 0,zI<|b.getD k 0] Z Z TX Aa (zI<|md ((a.getD k 0)+(b.getD k 0))) (fun wq=>FW wq _ _ (ha.getI Cv).2 (hb.getI Cv).2) ?_
  refine By (u:=zI<|md ((a.getD k 0)+(b.getD k 0))) (B:=w2.heap.size) AK Bl BD Z Z (Mb w2.heap.size w2.heap.size _ _<|Ei _) (A7 _) Aa fun v5 w5 a3 al ad=>?_
  replace a3:=a3.of_drew
  have ah:=a3.size
  have a6:=a2.trans a3
  have a0:=a1.ext (o1) a3
  refine Hf (v:=vo) (a:=v5) Bl BD Z Z Z a0 a6.size ad.rd1 Cv (by unfold maxLen;first|omega|assumption|(simp[Eu];done)|(simp[Eu];omega)) Aa fun v6 w6 F6 a7 ae ai=>?_
  have aj:AF w w6:=a7.below a6 (fun c hc=>A8 (A7 _) (ae c hc).1) a6.size
  have ak:=a7.size
  have am:=ad.chg (o1) a7 fun c hc=>zH<|ae c hc
  refine Ac 1 Z<|Ab _ [0,0,0] Z<|Ad 1 Z<|AQ ((k+1:Nat):Int) Z Z (Be oM Cv) Aa<|Ac 1 Z ?_
  exact⟨(k+1,v6),_,rfl,zR,⟨aj,(by rw[J0];exact ai.up o1),Cv⟩,zD⟩
 exact AE false Z Z (A6 ac) Aa<|Aj<|Ai Z<|A4<|Ay<|Ay<|At<|ZN [0,0] Z<|Ac 2 Z<|A1<|Af [4] Z vo Z ⟨vo,rfl,a2,(by have h:=a1.up o1;rw[show k=a.length from by omega]at h;exact h)⟩
theorem DG (w:World)(va:Value)(a:Sr)(vb:Value)(b:Sr)(ha:Rd (B5 rI) w.heap va a)(hb:Rd (B5 rI) w.heap vb b)(hla:a.length≤1000000000000)(hlb:b.length≤1000000000000)(hl:a.length≤b.length) :
  Calls Tryz.prog 208 #[va,vb] w (fun e w'=>∃v0:Value,e=.returned (v0)∧AF w w'∧Fr (Bo rI 2) w.heap.size w'.heap.size w'.heap v0 (GL a b)):=by
 refine As [va,vb] 9 Tryz.func208 Z Z sM ?_
 have a7:AF w w:=AF.refl w
 have ab:=ha.lenle
 have ac:=hb.lenle
 refine ZO Z<|ZN [0,0,3,3,0] Z<|Ad 2 Z<|Am 204 [] [] [vb,zI ((1000002:Nat):Int)] Z Z Sm Aa (EU _ _ _ _ (hb.ext g1 a7) oM hlb) ?_
 rintro e1 w1 ⟨a3,rfl,a4,a0⟩
 refine⟨_,rfl,a4,?_⟩
 have a8:=a4.size
 have a5:=a7.trans a4
 refine Am 207 [] [] [va,a3] Z Z Ic Aa (BW _ _ _ _ _ (ha.ext g1 a5) a0.rd1 hla (by unfold Vq;simp;omega)) ?_
 rintro e2 w2 ⟨a1,rfl,a6,a2⟩
 refine⟨_,rfl,a6,?_⟩
 have a9:=a6.size
 have aa:=a5.trans a6
 exact Ac 1 Z<|A1<|Af [4] Z a1 Z ⟨a1,rfl,aa,(by rw[← OE hl,← Nn];exact(a2.up o1).low a5.size)⟩
theorem DH (w:World)(va:Value)(a:Sr)(vb:Value)(b:Sr)(ha:Rd (B5 rI) w.heap va a)(hb:Rd (B5 rI) w.heap vb b)(hla:a.length≤1000000000000)(hl:a.length≤b.length) :
  Calls Tryz.prog 209 #[va,vb] w (fun e w'=>∃v0:Value,e=.returned (v0)∧AF w w'∧Fr (Bo rI 2) w.heap.size w'.heap.size w'.heap v0 (Cs a b)):=by
 refine As [va,vb] 39 Tryz.func209 Z Z sM ?_
 have ab:AF w w:=AF.refl w
 have au:=ha.lenle
 have av:=hb.lenle
 refine ZO Z<|ZN [3,0] Z (Cp (rI) AK Bl BD Aa fun v1 w1 a5 ak ac=>?_)
 have a6:=a5.size
 have ad:=ab.trans a5
 refine Ac 1 Z<|A0<|ZO Z<|A3 ?_
 refine AT (S:=Nat×Value) (fun⟨k,vo⟩=>([(5,vo),(6,zI (k:Int)),(0,va),(1,vb)])) (fun⟨k,vo⟩ W=>AF w W∧Fr (Bo rI 2) w.heap.size W.heap.size W.heap vo (Du k fun t=>Qi a b t (t+1))∧k≤a.length) (fun⟨k,vo⟩=>a.length-k) (0,v1) ⟨rfl,rfl,rfl,rfl,trivial⟩ ⟨ad,(by exact ac.up o1),Cv⟩ ?_
 clear ab ac ak a5 a6 ad
 rintro⟨k,vo⟩ ρ2 w2 ⟨a4,a0,ae⟩
 have a7:w.heap.size≤w2.heap.size:=a4.size
 refine A0<|ZN [0,0,0,0] Z<|Ad 2 Z<|AP (v:=va) Bl Z ha.isSl Aa ?_
 by_cases af:(k:Int)<(a.length:Int)
 ·refine AE true Z Z (A5 af) Aa<|Aj<|Ah Z<|A2<|A0<|A3<|ZO Z<|A0<|ZO Z<|A3 ?_
  refine AT (S:=Nat×Int) (fun⟨i,s⟩=>([(7,zI s),(8,zI (i:Int)),(0,va),(1,vb),(5,vo),(6,zI (k:Int))])) (fun⟨i,s⟩ W=>AF w W∧Fr (Bo rI 2) w.heap.size W.heap.size W.heap vo (Du k fun t=>Qi a b t (t+1))∧i≤k+1∧s=Qi a b k i∧(0≤s∧s<1000003)) (fun⟨i,s⟩=>k+1-i) (0,((0:Nat):Int)) ⟨rfl,rfl,rfl,rfl,rfl,rfl,trivial⟩ ⟨a4,a0.up o1,Cv,(by rfl),oM⟩ ?_
  clear a0 a4 a7
  rintro⟨i,s⟩ ρ4 w4 ⟨a3,a2,ag,hs,hsr⟩
  have al:w.heap.size≤w4.heap.size:=a3.size
  refine A0<|ZN [0,0,0] Z<|Ad 2 Z ?_
  by_cases ah:(i:Int)≤(k:Int)
  ·refine Fw true Z Z (A5 ah) Aa<|Aj<|Ah Z<|A2<|A0<|A3<|AO _ [0,0,0,0,1,0,0,0,0,0,1,0,0,0] mixed (by kernel_rfl)<|Ad 3 Z<|Au (v:=va) i Bl BD Z Z ha.isSl Z Cv Aa ?_
   refine Ae (p:=Aw va i 1) (.inl Z) (zI<|a.getD i 0) AC Z (Bc a3.drew (ha.getI Cv).1) Aa<|Ad 3 Z<|Bi ((k-i:Nat):Int) Z Z (by rw[CT oM oM];omega) Aa ?_
   refine Au (v:=vb) (k-i) Bl BD Z Z hb.isSl Z Cv Aa ?_
   refine Ae (p:=Aw vb (k-i) 1) (.inl Z) (zI<|b.getD (k-i) 0) AC Z (Bc a3.drew (hb.getI Cv).1) Aa ?_
   refine AB 63 [] [] [zI<|a.getD i 0,zI<|b.getD (k-i) 0] Z Z N6 Aa (zI<|md ((a.getD i 0)*(b.getD (k-i) 0))) (fun wq=>Co wq _ _ (ha.getI Cv).2 (hb.getI Cv).2) ?_
   refine AB 64 [] [] [zI s,zI<|md ((a.getD i 0)*(b.getD (k-i) 0))] Z Z TX Aa (zI<|md (s+(md ((a.getD i 0)*(b.getD (k-i) 0))))) (fun wq=>FW wq _ _ oM<|Ei _)<|Ac 1 Z<|Ab _ [0,0,0] Z<|Ad 1 Z<|AQ ((i+1:Nat):Int) Z Z (Be oM Cv) Aa<|Ac 1 Z ?_
   exact⟨(i+1,md (s+(md ((a.getD i 0)*(b.getD (k-i) 0))))),_,rfl,zR,⟨a3.drew,a2.up o1,Cv,(by rw[Ph,hs];rfl),(by exact Cr _)⟩,zD⟩
  refine Fw false Z Z (A6 ah) Aa<|Aj<|Ai Z<|A4<|Ay<|Ay<|At<|Ab _ [0,0,3,4,0] Z<|Ad 2 Z (By (u:=zI s) (B:=w4.heap.size) AK Bl BD Z Z (Mb w4.heap.size w4.heap.size _ _ oM) (A7 _) Aa fun v8 w8 a8 ar ai=>?_)
  have am:=a8.size
  have a9:=a3.trans a8
  have a1:=a2.ext (o1) a8
  refine Hf (v:=vo) (a:=v8) Bl BD Z Z Z a1 a9.size ai.rd1 Cv (by unfold maxLen;first|omega|assumption|(simp[Eu];done)|(simp[Eu];omega)) Aa fun v9 w9 F9 aa aj an=>?_
  have ao:AF w w9:=aa.below a9 (fun c hc=>A8 (A7 _) (aj c hc).1) a9.size
  have ap:=aa.size
  have aq:=ai.chg (o1) aa fun c hc=>zH<|aj c hc
  refine Ac 1 Z<|Ab _ [0,0,0] Z<|Ad 1 Z<|AQ ((k+1:Nat):Int) Z Z (Be oM Cv) Aa<|Ac 1 Z ?_
  exact⟨(k+1,v9),_,rfl,zR,⟨ao,(by rw[J0];have h:=an.up o1;rw[hs,show i=k+1 from by omega]at h;exact h),Cv⟩,zD⟩
 exact AE false Z Z (A6 af) Aa<|Aj<|Ai Z<|A4<|Ay<|Ay<|At<|ZN [0,0] Z<|Ac 2 Z<|A1<|Af [4] Z vo Z ⟨vo,rfl,a4,(by have h:=a0.up o1;rw[show k=a.length from by omega]at h;exact h)⟩
theorem Dc {p:Prop}(h:p:=by first|omega|assumption|(simp only[zb,z9,z4,z6,z5,Fh];omega)|(simp[zb,z9,z4,z6,z5,Fh];done)|(simp[zb,z9,z4,z6,z5,Fh];omega)):p:=h
theorem Ge (w:World)(va:Value)(a:Sr)(vb:Value)(b:Sr)(ha:Rd (B5 rI) w.heap va a)(hb:Rd (B5 rI) w.heap vb b)(hla:a.length≤1000000000000)(hl:a.length≤b.length)(h1:0<b.length)(hqa:B9 a=true) :
  Calls Tryz.prog 210 #[va,vb] w (fun e w'=>∃v0:Value,e=.returned (v0)∧AF w w'∧Fr (Bo rI 2) w.heap.size w'.heap.size w'.heap v0 (Cm a b)):=by
 refine As [va,vb] 50 Tryz.func210 Z Z sM ?_
 have ag:AF w w:=AF.refl w
 have au:=ha.lenle
 have av:=hb.lenle
 refine ZO Z<|ZN [3,0] Z (Cp (rI) AK Bl BD Aa fun v1 w1 aa ao ah=>?_)
 have ab:=aa.size
 have ac:=ag.trans aa
 refine Ac 1 Z<|ZN [0,0,2,0,0] Z<|Ad 1 Z<|Au (v:=vb) 0 Bl BD Z Z hb.isSl Z Dc Aa ?_
 refine Ae (p:=Aw vb 0 1) (.inr Z) (zI<|b.getD 0 0) AC Z (Bc ac (hb.getI Dc).1) Aa ?_
 refine AB 235 [] [] [zI<|b.getD 0 0] Z Z UQ Aa (zI<|inv<|b.getD 0 0) (fun wq=>Id wq _ (hb.getI Dc).2)<|Ac 1 Z<|A0<|ZO Z<|A3 ?_
 refine AT (S:=Nat×Value) (fun⟨k,vo⟩=>([(5,vo),(7,zI (k:Int)),(0,va),(1,vb),(6,zI<|inv<|b.getD 0 0)])) (fun⟨k,vo⟩ W=>AF w W∧Fr (Bo rI 2) w.heap.size W.heap.size W.heap vo (KJ a b k)∧k≤a.length) (fun⟨k,vo⟩=>a.length-k) (0,v1) ⟨rfl,rfl,rfl,rfl,rfl,trivial⟩ ⟨ac,(by exact ah.up o1),Dc⟩ ?_
 clear ag ah ao aa ab ac
 rintro⟨k,vo⟩ ρ3 w3 ⟨a6,a1,ai⟩
 have ad:w.heap.size≤w3.heap.size:=a6.size
 refine A0<|ZN [0,0,0,0] Z<|Ad 2 Z<|AP (v:=va) Bl Z ha.isSl Aa ?_
 by_cases aj:(k:Int)<(a.length:Int)
 ·refine AE true Z Z (A5 aj) Aa<|Aj<|Ah Z<|A2<|A0<|A3<|ZN [0,0,0,2,0] Z<|Ad 2 Z<|Au (v:=va) k Bl BD Z Z ha.isSl Z Dc Aa ?_
  refine Ae (p:=Aw va k 1) (.inr Z) (zI<|a.getD k 0) AC Z (Bc a6 (ha.getI Dc).1) Aa<|Ac 1 Z<|A0<|ZO Z<|A3 ?_
  refine AT (S:=Nat×Int) (fun⟨i,t⟩=>([(8,zI t),(9,zI (i:Int)),(0,va),(1,vb),(5,vo),(6,zI<|inv<|b.getD 0 0),(7,zI (k:Int))])) (fun⟨i,t⟩ W=>AF w W∧Fr (Bo rI 2) w.heap.size W.heap.size W.heap vo (KJ a b k)∧i≤k∧t=R6 a b (KJ a b k) k i∧(0≤t∧t<1000003)) (fun⟨i,t⟩=>k-i) (0,a.getD k 0) ⟨rfl,rfl,rfl,rfl,rfl,rfl,rfl,trivial⟩ ⟨a6,a1.up o1,Dc,(by rfl),(by exact BY hqa k)⟩ ?_
  clear a1 a6 ad
  rintro⟨i,t⟩ ρ5 w5 ⟨a9,a0,ak,ht,htr⟩
  have ap:w.heap.size≤w5.heap.size:=a9.size
  refine A0<|ZN [0,0,0] Z<|Ad 2 Z ?_
  by_cases al:(i:Int)<(k:Int)
  ·refine AE true Z Z (A5 al) Aa<|Aj<|Ah Z<|A2<|A0<|A3<|AO _ [0,0,0,0,1,0,0,0,0,0,1,0,0,0] mixed (by kernel_rfl) ?_
   have hmn:=Cr ((KJ a b k).getD i 0*b.getD (k-i) 0)
   refine Ad 3 Z<|Au (v:=vo) i Bl BD Z Z a0.isSl Z Dc Aa ?_
   refine Ae (p:=Aw vo i 1) (.inl Z) (zI<|(KJ a b k).getD i 0) AC Z (a0.rd1.getI Dc).1 Aa (Ad 3 Z<|Bi ((k-i:Nat):Int) Z Z (by rw[CT oM oM];omega) Aa ?_)
   refine Au (v:=vb) (k-i) Bl BD Z Z hb.isSl Z Dc Aa ?_
   refine Ae (p:=Aw vb (k-i) 1) (.inl Z) (zI<|b.getD (k-i) 0) AC Z (Bc a9.drew (hb.getI Dc).1) Aa ?_
   refine AB 63 [] [] [zI<|(KJ a b k).getD i 0,zI<|b.getD (k-i) 0] Z Z N6 Aa (zI<|md (((KJ a b k).getD i 0)*(b.getD (k-i) 0))) (fun wq=>Co wq _ _ (a0.rd1.getI Dc).2 (hb.getI Dc).2) ?_
   refine AB 236 [] [] [zI t,zI<|md (((KJ a b k).getD i 0)*(b.getD (k-i) 0))] Z Z UR Aa (zI<|md (t-(md (((KJ a b k).getD i 0)*(b.getD (k-i) 0))))) (fun wq=>H3 wq _ _ oM (Ei _) oM)<|Ac 1 Z<|Ab _ [0,0,0] Z<|Ad 1 Z<|AQ ((i+1:Nat):Int) Z Z (Be oM Dc) Aa<|Ac 1 Z ?_
   exact⟨(i+1,md (t-(md (((KJ a b k).getD i 0)*(b.getD (k-i) 0))))),_,rfl,zR,⟨a9.drew,a0.up o1,Dc,(by rw[MI,ht];rfl),(by exact Cr _)⟩,zD⟩
  refine AE false Z Z (A6 al) Aa<|Aj<|Ai Z<|A4<|Ay<|Ay<|At<|Ab _ [0,0,0,0,3,4,0] Z<|Ad 3 Z<|AB 63 [] [] [zI t,zI<|inv<|b.getD 0 0] Z Z N6 Aa (zI<|md (t*(inv<|b.getD 0 0))) (fun wq=>Co wq _ _ oM<|MJ _) (By (u:=zI<|md (t*(inv<|b.getD 0 0))) (B:=w5.heap.size) AK Bl BD Z Z (Mb w5.heap.size w5.heap.size _ _<|Ei _) (A7 _) Aa fun aw az a3 aq a7=>?_)
  have am:=a3.size
  have a4:=a9.trans a3
  have a2:=a0.ext (o1) a3
  refine Hf (v:=vo) (a:=aw) Bl BD Z Z Z a2 a4.size a7.rd1 Dc (by unfold maxLen;first|omega|assumption|(simp[Fh];done)|(simp[Fh];omega)) Aa fun ax ay b0 a5 a8 ae=>?_
  have af:AF w ay:=a5.below a4 (fun c hc=>A8 (A7 _) (a8 c hc).1) a4.size
  have an:=a5.size
  have ar:=a7.chg (o1) a5 fun c hc=>zH<|a8 c hc
  refine Ac 1 Z<|Ab _ [0,0,0] Z<|Ad 1 Z<|AQ ((k+1:Nat):Int) Z Z (Be oM Dc) Aa<|Ac 1 Z ?_
  exact⟨(k+1,ax),_,rfl,zR,⟨af,(by have h:=ae.up o1;rw[ht,show i=k from by omega]at h;exact h),Dc⟩,zD⟩
 exact AE false Z Z (A6 aj) Aa<|Aj<|Ai Z<|A4<|Ay<|Ay<|At<|ZN [0,0] Z<|Ac 2 Z<|A1<|Af [4] Z vo Z ⟨vo,rfl,a6,(by have h:=a1.up o1;rw[show k=a.length from by omega]at h;exact h)⟩
def SV (F d:Nat):Prop:=∀(w:World) (S:List Nat) (g:Nat) (pp:Value) (dp n s0:Nat) (c0:Int) (p:List Fn) (ve:Value) (ex:Ex) (vv:Value) (env:List (List Int)) (hS:∀b∈S,b<w.heap.size) (hgS:g∈S) (hB0:BX w.heap g [pp,.int .i64 ((n:Nat):Int),.int .i64 ((s0:Nat):Int),.int .i64 c0]) (hp:RN S (rP (K4 dp)) w.heap pp p) (hn:1≤n∧n≤13) (hs0:s0≤3000) (hc0:0≤c0∧c0≤9) (hex:RN S (rP (H0 d)) w.heap ve ex) (henv:RN S (B5 (B5 rI)) w.heap vv env) (hqenv:BV vv)
  (hvp:FY p) (hF:F≤p.length) (hwf:wf p ((F:Nat):Int) ex ((env.length:Nat):Int)=true) (hse:C7 n env) (hdp:env.length+ex.deep≤1000000),
  Calls Tryz.prog 167 #[.pointer (some ⟨g,0,none⟩),ve,vv] w (fun e w'=>∃(v:Value) (x:List Int) (s1:Nat) (c1:Int),e=.returned v∧AA [g] w w'∧BX w'.heap g [pp,.int .i64 ((n:Nat):Int),.int .i64 ((s1:Nat):Int),.int .i64 c1]∧RN S (B5 rI) w'.heap v x∧D2 n x∧s1≤3000∧(0≤c1∧c1≤9)∧AM (go c0 (CZ n (Fb p n F) ex env s0)) x s1 c1)
def SC (F d:Nat):Prop:=∀(w:World) (S:List Nat) (g:Nat) (pp:Value) (dp n s0:Nat) (c0:Int) (p:List Fn) (ve:Value) (ex:Ex) (vv:Value) (env:List (List Int)) (hS:∀b∈S,b<w.heap.size) (hgS:g∈S) (hB0:BX w.heap g [pp,.int .i64 ((n:Nat):Int),.int .i64 ((s0:Nat):Int),.int .i64 c0]) (hp:RN S (rP (K4 dp)) w.heap pp p) (hn:1≤n∧n≤13) (hs0:s0≤3000) (hc0:0≤c0∧c0≤9) (hex:RN S (rP (H0 d)) w.heap ve ex) (henv:RN S (B5 (B5 rI)) w.heap vv env) (hqenv:BV vv)
  (hvp:FY p) (hF:F≤p.length) (hwf:wf p ((F:Nat):Int) ex ((env.length:Nat):Int)=true) (hse:C7 n env) (hdp:env.length+ex.deep≤1000000) (hk:ex.kind=10∨ex.kind=11),
  Calls Tryz.prog 206 #[.pointer (some ⟨g,0,none⟩),ve,vv] w (fun e w'=>∃(v:Value) (x:List Int) (s1:Nat) (c1:Int),e=.returned v∧AA [g] w w'∧BX w'.heap g [pp,.int .i64 ((n:Nat):Int),.int .i64 ((s1:Nat):Int),.int .i64 c1]∧RN S (B5 rI) w'.heap v x∧D2 n x∧s1≤3000∧(0≤c1∧c1≤9)∧AM (go c0 (K6 n (Fb p n F) ex env s0)) x s1 c1)
def SO (F:Nat):Prop:=∀(w:World) (S:List Nat) (g:Nat) (pp:Value) (dp n s0:Nat) (c0:Int) (p:List Fn) (dfx:Nat) (vf:Value) (fx:Fn) (va:Value) (env:List (List Int)) (hS:∀b∈S,b<w.heap.size) (hgS:g∈S) (hB0:BX w.heap g [pp,.int .i64 ((n:Nat):Int),.int .i64 ((s0:Nat):Int),.int .i64 c0]) (hp:RN S (rP (K4 dp)) w.heap pp p) (hn:1≤n∧n≤13) (hs0:s0≤3000) (hc0:0≤c0∧c0≤9) (hfx:RN S (rP (QG dfx)) w.heap vf fx) (henv:RN S (B5 (B5 rI)) w.heap va env) (hqenv:BV va)
  (hvp:FY p) (hF:F≤p.length) (hwf:∀k,k<fx.outs.length→wf p ((F:Nat):Int) (fx.outs.getD k Ex.zero) ((env.length:Nat):Int)=true) (hse:C7 n env) (hdp:∀k,k<fx.outs.length→env.length+(fx.outs.getD k Ex.zero).deep≤1000000) (hll:fx.outs.length≤1000000),
  Calls Tryz.prog 114 #[.pointer (some ⟨g,0,none⟩),vf,va] w (fun e w'=>∃(v:Value) (x:List (List Int)) (s1:Nat) (c1:Int),e=.returned v∧AA [g] w w'∧BX w'.heap g [pp,.int .i64 ((n:Nat):Int),.int .i64 ((s1:Nat):Int),.int .i64 c1]∧RN S (B5 (B5 rI)) w'.heap v x∧(BV v∧x.length=fx.outs.length∧C7 n x)∧s1≤3000∧(0≤c1∧c1≤9)∧AM (go c0 (DY n (Fb p n F) fx.outs env s0)) x s1 c1)
theorem D1 (w:World)(S:List Nat)(g:Nat)(pp:Value)(dp n s0:Nat)(c0:Int)(p:List Fn)(code:Int)(hS:∀b∈S,b<w.heap.size)(hgS:g∈S)(hB0:BX w.heap g [pp,zI (n:Int),zI (s0:Int),zI c0])(hp:RN S (rP (K4 dp)) w.heap pp p)(hn:1≤n∧n≤13)(hs0:s0≤3000)(hc0:0≤c0∧c0≤9)(_hcode:Bk code)(hcd:1≤code∧code≤9) :
  Calls Tryz.prog 202 #[zP g,zI code] w (fun e w'=>∃(v:Value) (x:Sr) (s1:Nat) (c1:Int),e=.returned v∧AA [g] w w'∧BX w'.heap g [pp,zI (n:Int),zI (s1:Int),zI c1]∧RN S (B5 rI) w'.heap v x∧D2 n x∧s1≤3000∧(0≤c1∧c1≤9)∧(s1=s0∧c1=if c0=0 then code else c0)):=by
 refine As [zP g,zI code] 19 Tryz.func202 Z Z sM ?_
 have a9:AA [g] w w:=AA.refl [g] w
 have aj:=hB0.lt
 refine ZO Z<|A0<|ZN [0,0,0,2,0] Z<|Ad 1 Z<|Bb Z Aa<|Ak (p:=zP g) 3 GS Z Z Aa<|Ae (p:=An (zP g) 3) (.inr Z) (zI c0) AC Z (hB0.ldp (i:=3) sM) Aa ?_
 by_cases aa:c0=((0:Nat):Int)
 ·refine Ap true Z Z (A5 aa) Aa<|Aj<|Ah Z<|Ab _ [0,0,0,0,4] Z<|Ad 2 Z<|Bb Z Aa<|Ak (p:=zP g) 3 GS Z Z Aa (BH (k:=3) (w:=w) I3 Z Z ⟨rfl,rfl⟩ hB0 sM Aa fun w2 ab ai a6=>?_)
  replace a6:BX w2.heap g [pp,zI (n:Int),zI (s0:Int),zI code]:=a6
  have ac:AA [g] w w2:=a9.trans ab
  have ad:=ab.size
  refine Aj<|ZN [0,0,0,2,3,0] Z<|Ad 1 Z<|Bb Z Aa<|Ak (p:=zP g) 1 N9 Z Z Aa<|Ae (p:=An (zP g) 1) (.inr Z) (zI (n:Int)) Sp Z (a6.ldp (i:=1) sM) Aa ?_
  refine Am 203 [] [] [zI ((0:Nat):Int),zI (n:Int)] Z Z Li Aa (Cf _ _ (n) oM sD oM) ?_
  rintro e3 w3 ⟨a0,rfl,a7,a1⟩
  refine⟨_,rfl,a7,?_⟩
  have ae:=a7.size
  have af:AA [g] w w3:=ac.ext a7
  have a2:=a6.ext a7
  exact Ac 1 Z<|A1<|Af [4] Z a0 Z ⟨a0,HQ n ((0:Nat):Int),s0,code,rfl,af,a2,RN.of_fr1 a1 fun b hb=>zH<|hS b hb,(by exact Fi (by decide)),oM,oM,(by exact⟨rfl,by first|(rw[if_pos oM])|(rw[if_neg oM])⟩)⟩
 refine Ap false Z Z (A6 aa) Aa<|Aj<|Ai Z<|A2<|ZN [0,0,0,2,3,0] Z<|Ad 1 Z<|Bb Z Aa<|Ak (p:=zP g) 1 N9 Z Z Aa<|Ae (p:=An (zP g) 1) (.inr Z) (zI (n:Int)) Sp Z (hB0.ldp (i:=1) sM) Aa ?_
 refine Am 203 [] [] [zI ((0:Nat):Int),zI (n:Int)] Z Z Li Aa (Cf _ _ (n) oM sD oM) ?_
 rintro e4 w4 ⟨a3,rfl,a8,a4⟩
 refine⟨_,rfl,a8,?_⟩
 have ag:=a8.size
 have ah:AA [g] w w4:=a9.ext a8
 have a5:=hB0.ext a8
 exact Ac 1 Z<|A1<|Af [4] Z a3 Z ⟨a3,HQ n ((0:Nat):Int),s0,c0,rfl,ah,a5,RN.of_fr1 a4 fun b hb=>zH<|hS b hb,(by exact Fi (by decide)),oM,oM,(by exact⟨rfl,by first|(rw[if_pos oM])|(rw[if_neg oM])⟩)⟩
theorem SQ {p:Prop}(h:p:=by unfold maxLen;first|omega|assumption|(simp only[zb,z9,z4,z6,z5];omega)|(simp[zb,z9,z4,z6,z5];done)|(simp[zb,z9,z4,z6,z5];omega)):p:=h
theorem M7 (w:World)(S:List Nat)(vv:Value)(env:List (Sr))(vx:Value)(x:Sr)(hS:∀b∈S,b<w.heap.size)(henv:RN S (B5 (B5 rI)) w.heap vv env)(hqenv:BV vv)(hx:RN S (B5 rI) w.heap vx x)(hel:env.length≤1000000) :
  Calls Tryz.prog 205 #[vv,vx] w (fun e w'=>∃v,e=.returned v∧AF w w'∧RN S (B5 (B5 rI)) w'.heap v (env++[x])∧BV v):=by
 refine As [vv,vx] 25 Tryz.func205 Z Z sM ?_
 have ai:AF w w:=AF.refl w
 have b8:=henv.lenL
 unfold maxLen at b8
 have b9:=hx.lenL
 unfold maxLen at b9
 refine ZO Z<|ZN [3,0] Z (Cp rV Bv Bs AV Aa fun v1 w1 a7 aq aj=>?_)
 have a8:=a7.size
 have ak:=ai.trans a7
 obtain⟨b2,F1,b3⟩:=GI.nil (S:=S) (aj.low (B':=w.heap.size) (A7 _))
 refine Ac 1 Z<|A0<|ZO Z<|A3<|AT (S:=Nat×Value) (fun⟨k,vo⟩=>([(5,vo),(6,zI (k:Int)),(0,vv),(1,vx)])) (fun⟨k,vo⟩ W=>AF w W∧k≤env.length∧NH 27 S w.heap.size W.heap vo (env.take k)) (fun⟨k,vo⟩=>env.length-k) (0,v1) ⟨rfl,rfl,rfl,rfl,trivial⟩ ⟨ak,sD,(by exact⟨_,_,by assumption⟩)⟩ ?_
 clear ai aj aq a7 a8 ak
 rintro⟨k,vo⟩ ρ2 w2 ⟨a6,al,hbld⟩
 have ar:w.heap.size≤w2.heap.size:=a6.size
 obtain⟨b4,F4,a3⟩:=hbld
 refine A0<|ZN [0,0,0,0] Z<|Ad 2 Z<|AP (v:=vv) Bs Z henv.slL Aa ?_
 by_cases am:(k:Int)<(env.length:Int)
 ·refine AE true Z Z (A5 am) Aa<|Aj<|Ah Z<|A2<|A0<|A3<|Ab _ [0,0,0,0,2,3,4,0] Z<|Ad 3 Z<|Au (v:=vv) k Bs AV Z Z henv.slL Z sD Aa ?_
  obtain⟨a9,au,aa⟩:=RN.getL (w:=w) g1 [] (k:=k) henv sD
  have ab:=aa.lenL
  unfold maxLen at ab
  refine Ae (p:=Aw vv k 1) (.inr Z) a9 AZ Z (au _<|AA.of_ext S a6) Aa (By (u:=a9) (B:=w2.heap.size) Bv Bs AV Z Z (LN w2.heap.size w2.heap.size _<|aa.one1 g1) (A7 _) Aa fun v7 w7 ac b5 av=>?_)
  have aw:=ac.size
  have ad:=a6.trans ac
  have ae:=a3.ext ac
  refine CX (v:=vo) (a:=v7) (u:=a9) Bs AV Z Z Z ae oM av ((aa.add (F:=F4) g1 ae.low).ext g1 ad) sD SQ Aa ?_
  rintro v9 w9 G9 an ax ⟨b6,F9,b7⟩
  have ay:=an.size
  have az:AF w w9:=an.below ad (fun c hc=>ae.low c (ax c hc)) ad.size
  refine Ac 1 Z<|Ab _ [0,0,0] Z<|Ad 1 Z<|AQ ((k+1:Nat):Int) Z Z (Be oM sD) Aa<|Ac 1 Z ?_
  exact⟨(k+1,v9),_,rfl,zR,⟨az,sD,(by rw[Dn [] oM];exact⟨_,_,by assumption⟩)⟩,zD⟩
 refine AE false Z Z (A6 am) Aa<|Aj<|Ai Z<|A4<|Ay<|Ay<|At<|ZN [0,0,3,4,0] Z<|Ad 2 Z (By (u:=vx) (B:=w2.heap.size) Bv Bs AV Z Z (LN w2.heap.size w2.heap.size _<|hx.one1 g1) (A7 _) Aa fun bb bd a0 b0 af=>?_)
 have ao:=a0.size
 have a1:=a6.trans a0
 have a2:=a3.ext a0
 refine CX (v:=vo) (a:=bb) (u:=vx) Bs AV Z Z Z a2 oM af ((hx.add (F:=F4) g1 a2.low).ext g1 a1) sD SQ Aa ?_
 rintro ba bc G12 a4 ag ⟨b1,be,a5⟩
 have ap:=a4.size
 have ah:AF w bc:=a4.below a1 (fun c hc=>a2.low c (ag c hc)) a1.size
 exact Ac 1 Z<|A1<|Af [4] Z ba Z ⟨ba,rfl,ah,(by have h9:=(a5.done hS);rw[za oM]at h9;exact h9),a5.cap⟩
theorem IB (w:World)(S:List Nat)(F:Nat)(g:Nat)(pp:Value)(dp n s0:Nat)(c0:Int)(p:List Fn)(dfx:Nat)(vf:Value)(fx:Fn)(va:Value)(env:List (Sr))(hS:∀b∈S,b<w.heap.size)(hgS:g∈S)(hB0:BX w.heap g [pp,zI (n:Int),zI (s0:Int),zI c0])(hp:RN S (rP (K4 dp)) w.heap pp p)(hn:1≤n∧n≤13)(hs0:s0≤3000)(hc0:0≤c0∧c0≤9)(hfx:RN S (rP (QG dfx)) w.heap vf fx)(henv:RN S (B5 (B5 rI)) w.heap va env)(hqenv:BV va)(hvp:FY p)(hF:F≤p.length)(hwf:∀k,k<fx.outs.length→wf p (F:Int) (fx.outs.getD k Ex.zero) (env.length:Int)=true)(hse:C7 n env)(hdp:∀k,k<fx.outs.length→env.length+(fx.outs.getD k Ex.zero).deep≤1000000)(hll:fx.outs.length≤1000000)(IHv:∀d,SV F d) :
  Calls Tryz.prog 114 #[zP g,vf,va] w (fun e w'=>∃(v:Value) (x:List (Sr)) (s1:Nat) (c1:Int),e=.returned v∧AA [g] w w'∧BX w'.heap g [pp,zI (n:Int),zI (s1:Int),zI c1]∧RN S (B5 (B5 rI)) w'.heap v x∧(BV v∧x.length=fx.outs.length∧C7 n x)∧s1≤3000∧(0≤c1∧c1≤9)∧AM (go c0 (DY n (Fb p n F) fx.outs env s0)) x s1 c1):=by
 refine As [zP g,vf,va] 32 Tryz.func114 Z Z sM ?_
 have ao:AA [g] w w:=AA.refl [g] w
 have bg:=henv.lenL
 unfold maxLen at bg
 have bl:=hB0.lt
 refine ZO Z<|ZN [3,0] Z (Cp rV Bv Bs AV Aa fun v1 w1 aa az ap=>?_)
 have ae:=aa.size
 have aq:AA [g] w w1:=ao.ext aa
 have a9:=hB0.ext aa
 obtain⟨bc,F1,bd⟩:=GI.nil (S:=S) (ap.low (B':=w.heap.size) (A7 _))
 refine Ac 1 Z<|A0<|ZO Z<|A3 ?_
 refine AT (S:=Nat×Value×List (Sr)×Nat×Int) (fun⟨k,vo,xs,s9,c9⟩=>([(7,vo),(8,zI (k:Int)),(0,zP g),(1,vf),(2,va)])) (fun⟨k,vo,xs,s9,c9⟩ W=>AA [g] w W∧BX W.heap g [pp,zI (n:Int),zI (s9:Int),zI c9]∧k≤fx.outs.length∧NH 27 S w.heap.size W.heap vo xs∧xs.length=k∧C7 n xs∧s9≤3000∧(0≤c9∧c9≤9)∧AM (go c0<|DY n (Fb p n F) (fx.outs.take k) env s0) xs s9 c9) (fun⟨k,vo,xs,s9,c9⟩=>fx.outs.length-k) (0,v1,([]:List (Sr)),s0,c0) ⟨rfl,rfl,rfl,rfl,rfl,trivial⟩ ⟨aq,a9,sD,(by exact⟨_,_,by assumption⟩),(by rfl),(by intro j hj;simp at hj),oM,oM,(by exact Gp _ _ _ _ _ _)⟩ ?_
 clear ao ap az aa ae aq
 rintro⟨k,vo,xs,s9,c9⟩ ρ2 w2 ⟨a3,a1,ar,hbld,hxl,hxs,au,av,hrl⟩
 have b0:w.heap.size≤w2.heap.size:=a3.size
 have be:=a1.lt
 obtain⟨bf,F5,a0⟩:=hbld
 refine A0<|ZN [0,0,0,0,2,0,0] Z<|Ad 2 Z<|AG (hfx.isPtr) Z Aa ?_
 obtain⟨cs6,b1,ab⟩:=RN.at (Ax _) hfx
 obtain⟨a8,rfl,ac⟩:=RF.of b1
 have af:=ac.rn.lenle
 unfold maxLen at af
 refine AD (p:=vf) 2 BQ Z (ab _<|a3.sub<|B2 hgS) Aa<|Ae (p:=An vf 2) (.inr Z) a8 Ba Z ((ab _<|a3.sub<|B2 hgS).ld (i:=2) (by simp[DQ,DU])) Aa<|AP (v:=a8) CB Z ac.rn.isSl Aa ?_
 by_cases aw:(k:Int)<(fx.outs.length:Int)
 ·refine AE true Z Z (A5 aw) Aa<|Aj<|Ah Z<|A2<|A0<|A3<|Ab _ [0,0,0,0,0,2,0,0,0,4,3,4,0] Z<|Ad 3 Z<|AG (hfx.isPtr) Z Aa<|AD (p:=vf) 2 BQ Z (ab _<|a3.sub<|B2 hgS) Aa<|Ae (p:=An vf 2) (.inr Z) a8 Ba Z ((ab _<|a3.sub<|B2 hgS).ld (i:=2) (by simp[DQ,DU])) Aa<|Ad 1 Z ?_
  refine Au (v:=a8) k CB Bf Z Z ac.rn.isSl Z sD Aa<|Ad 1 Z ?_
  refine AI 167 [] [] [zP g,Aw a8 k 5,va] Z Z Ht Aa (IHv dfx _ (S++F5) g pp dp (n) (s9) (c9) (p) (Aw a8 k 5) (fx.outs.getD k Ex.zero) va (env) (fun b hb=>(by rcases zi.1 hb with hb|hb;(have:=hS b hb;omega);exact a0.lt b hb:b<w2.heap.size)) (z8 _ hgS) a1 ((hp.add (F:=F5) (AX<|AR dp) a0.low).chg (AX<|AR dp)<|a3.sub<|LP hgS) oM oM oM (RN.ptr (Aq dfx) (by decide) Ex.zero ((ac.rn.add (F:=F5) (Al<|Aq dfx) a0.low).chg (Al<|Aq dfx)<|a3.sub<|LP hgS) sD) ((henv.add (F:=F5) g2 a0.low).chg g2<|a3.sub<|LP hgS) hqenv hvp oM (by exact hwf k oM) hse (by exact hdp k oM)) ?_
  rintro e8 w8 ⟨v8,x8,s8,c8,rfl,ag,b2,ad,ah,b3,b4,b5⟩
  refine⟨_,rfl,?_⟩
  have b6:=ag.size
  have b7:AA [g] w w8:=a3.trans ag
  have ai:=a0.run hgS oM ag
  have b8:=ah.1
  replace ad:RN (S++F5) (B5 rI) w8.heap v8 x8:=ad
  refine By (u:=v8) (B:=w8.heap.size) Bv Bs AV Z Z (LN w8.heap.size w8.heap.size _<|ad.one1 g1) (A7 _) Aa fun bh bi a2 b9 aj=>?_
  have ax:=a2.size
  have ak:AA [g] w bi:=b7.ext a2
  have a5:=b2.ext a2
  have a4:=ai.ext a2
  have al:=ad.ext g1 a2
  refine CX (v:=vo) (a:=bh) (u:=v8) Bs AV Z Z Z a4 oM aj al sD (by unfold maxLen;first|omega|assumption|(simp;done)|(simp;omega)) Aa ?_
  rintro bj bk G17 a6 a7 ⟨ba,bm,bb⟩
  have ay:=a6.size
  have am:AA [g] w bk:=ak.fresh a6 (fun c hc=>a4.low c (a7 c hc))
  have an:=a5.chg a6 fun hm=>by have:=a4.low _ (a7 _ hm);have:=a4.lt _ (a7 _ hm);omega
  refine Ac 1 Z<|Ab _ [0,0,0] Z<|Ad 1 Z<|AQ ((k+1:Nat):Int) Z Z (Be oM sD) Aa<|Ac 1 Z ?_
  exact⟨(k+1,bj,xs++[x8],s8,c8),_,rfl,zR,⟨am,an,sD,(by exact⟨_,_,by assumption⟩),(by rw[z4,zd,hxl]),(by exact C7.snoc hxs (by assumption)),oM,oM,(by exact Gn oM hrl (by assumption))⟩,zD⟩
 exact AE false Z Z (A6 aw) Aa<|Aj<|Ai Z<|A4<|Ay<|Ay<|At<|ZN [0,0] Z<|Ac 2 Z<|A1<|Af [6] Z vo Z ⟨vo,xs,s9,c9,rfl,a3,a1,a0.done hS,(by exact⟨a0.cap,zO,hxs⟩),oM,oM,(by rw[za oM]at hrl;exact hrl)⟩
theorem SR (F:Nat)(IH:∀d,SV F d):SO F:=by
 intro w S g pp dp n s0 c0 p dfx vf fx va env hS hgS hB0 hp hn hs0 hc0 hfx henv hqenv hvp hF hwf hse hdp hll
 exact IB w S F g pp dp n s0 c0 p dfx vf fx va env hS hgS hB0 hp hn hs0 hc0 hfx henv hqenv hvp hF hwf hse hdp hll IH
theorem SS {p:Prop}(h:p:=by first|exact Rr oM oM hKr (by assumption)|exact Rv oM oM hKr (by rw[show(ex.count).toNat=i from by omega];exact hrl9)):p:=h
theorem GY {p:Prop}(h:p:=by simp[DQ,DU]):p:=h
theorem IC (w:World)(S:List Nat)(F:Nat)(g:Nat)(pp:Value)(dp n s0:Nat)(c0:Int)(p:List Fn)(dex:Nat)(ve:Value)(ex:Ex)(vv:Value)(env:List (Sr))(hS:∀b∈S,b<w.heap.size)(hgS:g∈S)(hB0:BX w.heap g [pp,zI (n:Int),zI (s0:Int),zI c0])(hp:RN S (rP (K4 dp)) w.heap pp p)(hn:1≤n∧n≤13)(hs0:s0≤3000)(hc0:0≤c0∧c0≤9)(hex:RN S (rP (H0 dex)) w.heap ve ex)(henv:RN S (B5 (B5 rI)) w.heap vv env)(hqenv:BV vv)(hvp:FY p)(hF:F≤p.length)(hwf:wf p (F:Int) ex (env.length:Int)=true)(hse:C7 n env)(hdp:env.length+ex.deep≤1000000)(hk:ex.kind=10∨ex.kind=11)(IH1:∀F',F'<F→∀d,SV F' d)(IH2:∀d',d'<dex→SV F d') :
  Calls Tryz.prog 206 #[zP g,ve,vv] w (fun e w'=>∃(v:Value) (x:Sr) (s1:Nat) (c1:Int),e=.returned v∧AA [g] w w'∧BX w'.heap g [pp,zI (n:Int),zI (s1:Int),zI c1]∧RN S (B5 rI) w'.heap v x∧D2 n x∧s1≤3000∧(0≤c1∧c1≤9)∧AM (go c0 (K6 n (Fb p n F) ex env s0)) x s1 c1):=by
 refine As [zP g,ve,vv] 81 Tryz.func206 Z Z sM ?_
 have bo:AA [g] w w:=AA.refl [g] w
 have d0:=henv.lenL
 unfold maxLen at d0
 have dh:=hB0.lt
 have hwk:=Fj hwf hk
 have ay:ex.kind≠9:=by omega
 have hkH:=Z5 hk
 clear hk
 have hdk:=D7 ex
 refine ZO Z<|ZN [3,0] Z (Cp rV Bv Bs AV Aa fun v1 w1 az cf bp=>?_)
 have b2:=az.size
 have bq:AA [g] w w1:=bo.ext az
 have am:=hB0.ext az
 obtain⟨cv,F1,cw⟩:=GI.nil (S:=S) (bp.low (B':=w.heap.size) (A7 _))
 refine Ac 1 Z<|A0<|ZO Z<|A3 ?_
 refine AT (S:=Nat×Value×List (Sr)×Nat×Int) (fun⟨k,vo,xs,s9,c9⟩=>([(7,vo),(8,zI (k:Int)),(0,zP g),(1,ve),(2,vv)])) (fun⟨k,vo,xs,s9,c9⟩ W=>AA [g] w W∧BX W.heap g [pp,zI (n:Int),zI (s9:Int),zI c9]∧k≤ex.kids.length∧NH 27 S w.heap.size W.heap vo xs∧xs.length=k∧C7 n xs∧s9≤3000∧(0≤c9∧c9≤9)∧AM (go c0<|DY n (Fb p n F) (ex.kids.take k) env s0) xs s9 c9) (fun⟨k,vo,xs,s9,c9⟩=>ex.kids.length-k) (0,v1,([]:List (Sr)),s0,c0) ⟨rfl,rfl,rfl,rfl,rfl,trivial⟩ ⟨bq,am,sD,(by exact⟨_,_,by assumption⟩),(by rfl),(by intro j hj;simp at hj),oM,oM,(by exact Gp _ _ _ _ _ _)⟩ ?_
 clear bo bp cf az b2 bq
 rintro⟨k,vo,xs,s9,c9⟩ ρ2 w2 ⟨a0,a1,br,hbld,hxl,hxs,bs,bt,hrl⟩
 have b3:w.heap.size≤w2.heap.size:=a0.size
 have cx:=a1.lt
 obtain⟨cy,F5,a3⟩:=hbld
 refine A0<|ZN [0,0,0,0,2,0,0] Z<|Ad 2 Z<|AG (hex.isPtr) Z Aa ?_
 obtain⟨cs6,cg,a7⟩:=RN.at (Aq _) hex
 obtain⟨dd6,al,cz,rfl,b0⟩:=RX.of cg
 have an:=b0.rn.lenle
 unfold maxLen at an
 refine AD (p:=ve) 4 B8 Z (a7 _<|a0.sub<|B2 hgS) Aa<|Ae (p:=An ve 4) (.inr Z) al Ba Z ((a7 _<|a0.sub<|B2 hgS).ld (i:=4) GY) Aa<|AP (v:=al) CB Z b0.rn.isSl Aa ?_
 by_cases bu:(k:Int)<(ex.kids.length:Int)
 ·refine AE true Z Z (A5 bu) Aa<|Aj<|Ah Z<|A2<|A0<|A3<|Ab _ [0,0,0,0,0,2,0,0,0,4,3,4,0] Z ?_
  have hvo:=hvp.outs (ex.num).toNat oM
  have hvr:=hvp.par (ex.num).toNat oM
  have hkd:=CH (l:=ex.kids) (k:=k) oM
  have hkb:ex.kids.length≤412:=by omega
  refine Ad 3 Z<|AG (hex.isPtr) Z Aa<|AD (p:=ve) 4 B8 Z (a7 _<|a0.sub<|B2 hgS) Aa<|Ae (p:=An ve 4) (.inr Z) al Ba Z ((a7 _<|a0.sub<|B2 hgS).ld (i:=4) GY) Aa<|Ad 1 Z<|Au (v:=al) k CB Bf Z Z b0.rn.isSl Z sD Aa<|Ad 1 Z ?_
  refine AI 167 [] [] [zP g,Aw al k 5,vv] Z Z Ht Aa (IH2 dd6 oM _ (S++F5) g pp dp (n) (s9) (c9) (p) (Aw al k 5) (ex.kids.getD k Ex.zero) vv (env) (fun b hb=>(by rcases zi.1 hb with hb|hb;(have:=hS b hb;omega);exact a3.lt b hb:b<w2.heap.size)) (z8 _ hgS) a1 ((hp.add (F:=F5) (AX<|AR dp) a3.low).chg (AX<|AR dp)<|a0.sub<|LP hgS) oM oM oM (RN.ptr (Aq dd6) (by decide) Ex.zero ((b0.rn.add (F:=F5) (Al<|Aq dd6) a3.low).chg (Al<|Aq dd6)<|a0.sub<|LP hgS) sD) ((henv.add (F:=F5) g2 a3.low).chg g2<|a0.sub<|LP hgS) hqenv hvp oM (by exact BT hwf oM oM) hse oM) ?_
  rintro e8 w8 ⟨v8,x8,s8,c8,rfl,b4,ch,b1,b5,ci,cj,ck⟩
  refine⟨_,rfl,?_⟩
  have cl:=b4.size
  have cm:AA [g] w w8:=a0.trans b4
  have b6:=a3.run hgS oM b4
  have cn:=b5.1
  replace b1:RN (S++F5) (B5 rI) w8.heap v8 x8:=b1
  refine By (u:=v8) (B:=w8.heap.size) Bv Bs AV Z Z (LN w8.heap.size w8.heap.size _<|b1.one1 g1) (A7 _) Aa fun d3 d4 a8 co b7=>?_
  have bv:=a8.size
  have b8:AA [g] w d4:=cm.ext a8
  have af:=ch.ext a8
  have ab:=b6.ext a8
  have b9:=b1.ext g1 a8
  refine CX (v:=vo) (a:=d3) (u:=v8) Bs AV Z Z Z ab oM b7 b9 sD (by unfold maxLen;first|omega|assumption|(simp;done)|(simp;omega)) Aa ?_
  rintro d5 d6 G17 ag ah ⟨cp,di,cq⟩
  have bw:=ag.size
  have ba:AA [g] w d6:=b8.fresh ag (fun c hc=>ab.low c (ah c hc))
  have bb:=af.chg ag fun hm=>by have:=ab.low _ (ah _ hm);have:=ab.lt _ (ah _ hm);omega
  refine Ac 1 Z<|Ab _ [0,0,0] Z<|Ad 1 Z<|AQ ((k+1:Nat):Int) Z Z (Be oM sD) Aa<|Ac 1 Z ?_
  exact⟨(k+1,d5,xs++[x8],s8,c8),_,rfl,zR,⟨ba,bb,sD,(by exact⟨_,_,by assumption⟩),(by rw[z4,zd,hxl]),(by exact C7.snoc hxs (by assumption)),oM,oM,(by exact Gn oM hrl (by assumption))⟩,zD⟩
 refine AE false Z Z (A6 bu) Aa<|Aj<|Ai Z<|A4<|Ay<|Ay<|At<|A0<|AO _ [0,0,0,1,0,0,1,0,0,0,1,0,0] mixed (by kernel_rfl) ?_
 have ad:=a3.done hS
 have hfn19c:=a3.cap
 have hvo:=hvp.outs (ex.num).toNat oM
 have hvr:=hvp.par (ex.num).toNat oM
 have hxk:xs.length=ex.kids.length:=by omega
 have hKr:AM (go c0 (DY n (Fb p n F) ex.kids env s0)) xs s9 c9:=by rw[za oM]at hrl;exact hrl
 refine Ad 1 Z<|Bb Z Aa<|Ak (p:=zP g) 0 U2 Z Z Aa<|Ae (p:=An (zP g) 0) (.inl Z) pp UV Z (a1.ldp (i:=0) sM) Aa<|AG (hp.isPtr) Z Aa ?_
 obtain⟨cs20,bc,ao⟩:=RN.at (AR _) hp
 obtain⟨a4,rfl,a9⟩:=RPr.of bc
 have ae:=a9.lenle
 unfold maxLen at ae
 refine AD (p:=pp) 0 BA Z (ao _<|a0.drew.sub<|B2 hgS) Aa<|Ae (p:=An pp 0) (.inl Z) a4 C5 Z ((ao _<|a0.drew.sub<|B2 hgS).ld (i:=0) GY) Aa<|Ad 1 Z<|AG (hex.isPtr) Z Aa<|AD (p:=ve) 1 Bw Z (a7 _<|a0.drew.sub<|B2 hgS) Aa<|Ae (p:=An ve 1) (.inl Z) (zI ex.num) AC Z ((a7 _<|a0.drew.sub<|B2 hgS).ld (i:=1) GY) Aa ?_
 refine Au (v:=a4) ((ex.num).toNat) Fq C9 Z Z a9.isSl oM sD Aa<|Ac 1 Z<|A0<|ZN [0,0,0,2,0] Z<|Ad 1 Z<|AG (hex.isPtr) Z Aa<|AD (p:=ve) 0 BC Z (a7 _<|a0.drew.sub<|B2 hgS) Aa<|Ae (p:=An ve 0) (.inr Z) (zI ex.kind) AC Z ((a7 _<|a0.drew.sub<|B2 hgS).ld (i:=0) GY) Aa ?_
 by_cases ap:ex.kind=((10:Nat):Int)
 ·refine Ap true Z Z (A5 ap) Aa<|Aj<|Ah Z<|A0<|AO _ [0,0,0,0,1,0,0,0,1,0,0,4,0] mixed (by kernel_rfl)<|Ad 2 Z ?_
  have hvd:=hvp.deep (ex.num).toNat oM (ex.pick).toNat oM
  refine AG (RN.isPtr<|RN.ptr (Ax dp) (by decide) Fn.zero a9 sD) Z Aa ?_
  obtain⟨cs22,bd,aq⟩:=a9.get (Ax dp) Fn.zero (k:=(ex.num).toNat) sD
  obtain⟨ac,rfl,ai⟩:=RF.of bd
  have ar:=ai.rn.lenle
  unfold maxLen at ar
  refine AD (p:=Aw a4 ((ex.num).toNat) 3) 2 BQ Z (aq _<|a0.drew.drew.sub<|B2 hgS) Aa<|Ae (p:=An (Aw a4 ((ex.num).toNat) 3) 2) (.inl Z) ac Ba Z ((aq _<|a0.drew.drew.sub<|B2 hgS).ld (i:=2) GY) Aa<|Ad 1 Z<|AG (hex.isPtr) Z Aa<|AD (p:=ve) 2 Cn Z (a7 _<|a0.drew.drew.sub<|B2 hgS) Aa<|Ae (p:=An ve 2) (.inl Z) (zI ex.pick) AC Z ((a7 _<|a0.drew.drew.sub<|B2 hgS).ld (i:=2) GY) Aa ?_
  refine Au (v:=ac) ((ex.pick).toNat) CB Bf Z Z ai.rn.isSl oM sD Aa<|Ad 1 Z ?_
  refine AI 167 [] [] [zP g,Aw ac ((ex.pick).toNat) 5,vo] Z Z Ht Aa (IH1 (ex.num).toNat oM dp _ S g pp dp (n) (s9) (c9) (p) (Aw ac ((ex.pick).toNat) 5) (((p.getD ((ex.num).toNat) Fn.zero).outs).getD ((ex.pick).toNat) Ex.zero) vo (xs) (fun b hb=>(by have:=hS b hb;omega:b<w2.heap.size)) hgS a1 (hp.chg (AX<|AR dp)<|a0.drew.drew.sub<|B2 hgS) oM oM oM (RN.ptr (Aq dp) (by decide) Ex.zero (ai.rn.chg (Al<|Aq dp)<|a0.drew.drew.sub<|B2 hgS) sD) ad hfn19c hvp oM (by have h9:=hvp.wf (ex.num).toNat oM (ex.pick).toNat oM;rw[show(xs.length:Int)=(p.getD (ex.num).toNat Fn.zero).params from by omega];exact h9) hxs oM) ?_
  rintro dj d7 ⟨d2,d8,da,db,rfl,a5,be,bf,au,bx,bz,c2⟩
  refine⟨_,rfl,?_⟩
  replace a5:=a5.of_drew
  replace a5:=a5.of_drew
  have c3:=a5.size
  have bg:AA [g] w d7:=a0.trans a5
  have cr:=ad.run g2 hgS a5
  have c4:=au.1
  exact Ac 1 Z<|A1<|Ao<|Af [6] Z d2 Z ⟨d2,d8,da,db,rfl,bg,be,bf,(by first|assumption|exact hks _ oM),oM,oM,SS⟩
 refine Ap false Z Z (A6 ap) Aa<|Aj<|Ai Z<|A2<|A0<|ZN [0] Z ?_
 have bh:ex.kind=11:=by have h9:ex.kind=10∨ex.kind=11:=hkH;omega
 have hwl:=J2 hwf bh
 refine Ac 1 Z<|A3 ?_
 refine AT (S:=Nat×Value×List (Sr)×Nat×Int) (fun⟨i,vk,ks,s8,c8⟩=>([(7,vk),(10,zI (i:Int)),(0,zP g),(1,ve),(9,Aw a4 ((ex.num).toNat) 3)])) (fun⟨i,vk,ks,s8,c8⟩ W=>AA [g] w W∧BX W.heap g [pp,zI (n:Int),zI (s8:Int),zI c8]∧i≤(ex.count).toNat∧RN S (B5<|B5 rI) W.heap vk ks∧BV vk∧ks.length=(p.getD (ex.num).toNat Fn.zero).outs.length∧C7 n ks∧s8≤3000∧(0≤c8∧c8≤9)∧AM (go c9<|K5 (fun a t=>DY n (Fb p n (ex.num).toNat) (p.getD (ex.num).toNat Fn.zero).outs a t) i xs s9) ks s8 c8) (fun⟨i,vk,ks,s8,c8⟩=>(ex.count).toNat-i) (0,vo,xs,s9,c9) ⟨rfl,rfl,rfl,rfl,rfl,trivial⟩ ⟨a0.drew,a1,oM,(by assumption),(by assumption),oM,(by assumption),oM,oM,(by exact Ru Z)⟩ ?_
 clear a1 a0 b3 an ae
 rintro⟨i,vk,ks,s8,c8⟩ ρ31 d1 ⟨a2,a6,bi,hrk,hck,hkl,hks,bj,bk,hrl9⟩
 have c5:w.heap.size≤d1.heap.size:=a2.size
 have cs:=a6.lt
 refine A0<|ZN [0,0,0,0,2,0] Z<|Ad 2 Z<|AG (hex.isPtr) Z Aa<|AD (p:=ve) 3 CC Z (a7 _<|a2.sub<|B2 hgS) Aa<|Ae (p:=An ve 3) (.inr Z) (zI ex.count) AC Z ((a7 _<|a2.sub<|B2 hgS).ld (i:=3) GY) Aa ?_
 by_cases av:(i:Int)<ex.count
 ·refine AE true Z Z (A5 av) Aa<|Aj<|Ah Z<|A2<|A0<|A3<|Ab _ [0,0,0,4,0] Z<|Ad 3 Z ?_
  refine AI 114 [] [] [zP g,Aw a4 ((ex.num).toNat) 3,vk] Z Z UD Aa (SR (ex.num).toNat (fun d9=>IH1 (ex.num).toNat oM d9) _ S g pp dp (n) (s8) (c8) (p) dp (Aw a4 ((ex.num).toNat) 3) (p.getD ((ex.num).toNat) Fn.zero) vk (ks) (fun b hb=>(by have:=hS b hb;omega:b<d1.heap.size)) hgS a6 (hp.chg (AX<|AR dp)<|a2.sub<|B2 hgS) oM oM oM (RN.ptr (Ax dp) (by decide) Fn.zero (a9.chg (Al<|Ax dp)<|a2.sub<|B2 hgS) sD) hrk hck hvp oM (by intro k9 ay;have h9:=hvp.wf (ex.num).toNat oM k9 ay;rw[show(ks.length:Int)=(p.getD (ex.num).toNat Fn.zero).params from by omega];exact h9) hks (by intro k9 ay;have:=hvp.deep (ex.num).toNat oM k9 ay;omega) oM) ?_
  rintro dk dc ⟨dd,de,df,dg,rfl,aj,bl,ct,aa,c6,c7,ca⟩
  refine⟨_,rfl,?_⟩
  have cb:=aj.size
  have bm:AA [g] w dc:=a2.trans aj
  have cu:=hrk.run g2 hgS aj
  have cc:=aa.2.1
  have cd:=aa.2.2
  have ce:=aa.1
  exact Ac 1 Z<|Ab _ [0,0,0] Z<|Ad 1 Z<|AQ ((i+1:Nat):Int) Z Z (Be oM oM) Aa<|Ac 1 Z ⟨(i+1,dd,de,df,dg),_,rfl,zR,⟨bm,bl,oM,(by assumption),(by assumption),oM,(by assumption),oM,oM,(by exact Rt hrl9 (by assumption))⟩,zD⟩
 refine AE false Z Z (A6 av) Aa<|Aj<|Ai Z<|A4<|Ay<|Ay<|At<|ZN [0,0,0,0,2,0,2,0] Z<|Ad 2 Z<|AG (hex.isPtr) Z Aa<|AD (p:=ve) 2 Cn Z (a7 _<|a2.sub<|B2 hgS) Aa<|Ae (p:=An ve 2) (.inr Z) (zI ex.pick) AC Z ((a7 _<|a2.sub<|B2 hgS).ld (i:=2) GY) Aa ?_
 refine Au (v:=vk) ((ex.pick).toNat) Bs AV Z Z hrk.slL oM sD Aa ?_
 obtain⟨ak,bn,aw⟩:=RN.getL (w:=d1) g1 [] (k:=(ex.pick).toNat) hrk sD
 have ax:=aw.lenL
 unfold maxLen at ax
 exact Ae (p:=Aw vk ((ex.pick).toNat) 1) (.inr Z) ak AZ Z (bn _<|AA.refl _ _) Aa<|Ac 1 Z<|A1<|Af [6] Z ak Z ⟨ak,ks.getD ((ex.pick).toNat) [],s8,c8,rfl,a2,a6,aw,(by first|assumption|exact hks _ oM),oM,oM,SS⟩
theorem ST (F d:Nat)(IH1:∀F',F'<F→∀d,SV F' d)(IH2:∀d',d'<d→SV F d'):SC F d:=by
 intro w S g pp dp n s0 c0 p ve ex vv env hS hgS a0 hp hn a1 a2 hex henv hqenv hvp hF hwf hse hdp hk
 exact IC w S F g pp dp n s0 c0 p d ve ex vv env hS hgS a0 hp hn a1 a2 hex henv hqenv hvp hF hwf hse hdp hk IH1 IH2
theorem SU {p:Prop}(h:p:=by first|exact Ez hc00 hs1 oM oM ‹AM (go c0 (CZ _ _ (ex.kids.getD 0 _) _ _)) _ _ _› oM (by assumption)|exact EA hc00 hs1 oM oM ‹AM (go c0 (CZ _ _ (ex.kids.getD 0 _) _ _)) _ _ _› oM (by assumption)):p:=h
theorem No {p:Prop}(h:p:=by have:=CH (l:=ex.kids) (k:=0) oM;omega):p:=h
theorem ID {p:Prop}(h:p:=by exact BT hwf oM oM):p:=h
theorem Ed {p:Prop}(h:p:=by simp[DQ,DU]):p:=h
theorem IE (w:World)(S:List Nat)(F:Nat)(g:Nat)(pp:Value)(dp n s0:Nat)(c0:Int)(p:List Fn)(dex:Nat)(ve:Value)(ex:Ex)(vv:Value)(env:List (Sr))(hS:∀b∈S,b<w.heap.size)(hgS:g∈S)(b0:BX w.heap g [pp,zI (n:Int),zI (s0:Int),zI c0])(hp:RN S (rP (K4 dp)) w.heap pp p)(hn:1≤n∧n≤13)(j2:s0≤3000)(j3:0≤c0∧c0≤9)(hex:RN S (rP (H0 dex)) w.heap ve ex)(henv:RN S (B5 (B5 rI)) w.heap vv env)(hqenv:BV vv)(hvp:FY p)(hF:F≤p.length)(hwf:wf p (F:Int) ex (env.length:Int)=true)(hse:C7 n env)(hdp:env.length+ex.deep≤1000000)(IH1:∀F',F'<F→∀d,SV F' d)(IH2:∀d',d'<dex→SV F d') :
  Calls Tryz.prog 167 #[zP g,ve,vv] w (fun e w'=>∃(v:Value) (x:Sr) (s1:Nat) (c1:Int),e=.returned v∧AA [g] w w'∧BX w'.heap g [pp,zI (n:Int),zI (s1:Int),zI c1]∧RN S (B5 rI) w'.heap v x∧D2 n x∧s1≤3000∧(0≤c1∧c1≤9)∧AM (go c0 (CZ n (Fb p n F) ex env s0)) x s1 c1):=by
 refine As [zP g,ve,vv] 186 Tryz.func167 Z Z sM ?_
 have bk:AA [g] w w:=AA.refl [g] w
 have f5:=henv.lenL
 unfold maxLen at f5
 have k9:=b0.lt
 have hdk:=D7 ex
 refine ZO Z<|A0<|ZN [0,0,0,2,0] Z<|Ad 1 Z<|Bb Z Aa<|Ak (p:=zP g) 3 GS Z Z Aa<|Ae (p:=An (zP g) 3) (.inr Z) (zI c0) AC Z (b0.ldp (i:=3) sM) Aa ?_
 by_cases e8:c0≠((0:Nat):Int)
 ·refine AU true Z Z (A5 e8) Aa<|Aj<|Ah Z<|ZN [0,0,0,0,2,4,0] Z<|Ad 2 Z<|Bb Z Aa<|Ak (p:=zP g) 3 GS Z Z Aa<|Ae (p:=An (zP g) 3) (.inr Z) (zI c0) AC Z (b0.ldp (i:=3) sM) Aa<|AI 202 [] [] [zP g,zI c0] Z Z PW Aa (D1 _ S g pp dp (n) (s0) (c0) (p) (c0) (fun b hb=>(by have:=hS b hb;omega:b<w.heap.size)) hgS b0 (hp.chg (AX<|AR dp)<|bk.sub<|B2 hgS) oM oM oM oM oM) ?_
  rintro e2 w2 ⟨v2,x2,s2,c2,rfl,e9,i9,ia,d1,ib,ic,bl⟩
  refine⟨_,rfl,?_⟩
  have id:=e9.size
  have ie:AA [g] w w2:=bk.trans e9
  have ig:=d1.1
  have hfs:=bl.1
  have hff:=bl.2
  exact Ac 1 Z<|A1<|Ao<|Af [6] Z v2 Z ⟨v2,x2,s2,c2,rfl,ie,i9,ia,(by assumption),oM,oM,(by rw[hff,if_neg oM];exact DD oM)⟩
 refine AU false Z Z (A6 e8) Aa<|Aj<|Ai Z<|A2<|A0<|ZN [0,0,0,2,0] Z<|Ad 1 Z<|Bb Z Aa<|Ak (p:=zP g) 2 Ky Z Z Aa<|Ae (p:=An (zP g) 2) (.inr Z) (zI (s0:Int)) AC Z (b0.ldp (i:=2) sM) Aa ?_
 by_cases ea:(s0:Int)=((3000:Nat):Int)
 ·refine Ap true Z Z (A5 ea) Aa<|Aj<|Ah Z<|ZN [0,4,0] Z<|Ad 1 Z<|AI 202 [] [] [zP g,zI ((7:Nat):Int)] Z Z PW Aa (D1 _ S g pp dp (n) (s0) (c0) (p) ((7:Nat):Int) (fun b hb=>(by have:=hS b hb;omega:b<w.heap.size)) hgS b0 (hp.chg (AX<|AR dp)<|bk.sub<|B2 hgS) oM oM oM oM oM) ?_
  rintro e7 w7 ⟨v7,x7,s7,c7,rfl,eb,ih,ii,d2,ij,ik,bm⟩
  refine⟨_,rfl,?_⟩
  have il:=eb.size
  have im:AA [g] w w7:=bk.trans eb
  have io:=d2.1
  have hfs:=bm.1
  have hff:=bm.2
  exact Ac 1 Z<|A1<|Ao<|Af [6] Z v7 Z ⟨v7,x7,s7,c7,rfl,im,ih,ii,(by assumption),oM,oM,(by rw[hff,if_pos oM];exact CG oM oM)⟩
 refine Ap false Z Z (A6 ea) Aa<|Aj<|Ai Z<|A2<|ZN [0,0,0,2,0,0,0,4] Z<|Ad 1 Z<|Bb Z Aa<|Ak (p:=zP g) 2 Ky Z Z Aa<|Ae (p:=An (zP g) 2) (.inr Z) (zI (s0:Int)) AC Z (b0.ldp (i:=2) sM) Aa<|AQ ((s0+1:Nat):Int) Z Z (Be oM oM) Aa<|Bb Z Aa<|Ak (p:=zP g) 2 Ky Z Z Aa (BH (k:=2) (w:=w) I3 Z Z ⟨rfl,rfl⟩ b0 sM Aa fun f0 bn ip a7=>?_)
 replace a7:BX f0.heap g [pp,zI (n:Int),zI ((s0+1:Nat):Int),zI c0]:=a7
 have a0:AA [g] w f0:=bk.trans bn
 have ec:=bn.size
 refine Aj<|A0<|ZN [0,0,0,2] Z ?_
 have hc00:c0=0:=by omega
 have hs1:s0+1≤3000:=by omega
 refine Ad 1 Z<|AG (hex.isPtr) Z Aa ?_
 obtain⟨cs12,d3,a2⟩:=RN.at (Aq _) hex
 obtain⟨dd12,a1,iq,rfl,a3⟩:=RX.of d3
 have bo:=a3.rn.lenle
 unfold maxLen at bo
 refine AD (p:=ve) 0 BC Z (a2 _<|a0.sub<|B2 hgS) Aa<|Ae (p:=An ve 0) (.inr Z) (zI ex.kind) AC Z ((a2 _<|a0.sub<|B2 hgS).ld (i:=0) Ed) Aa<|Aj<|A3<|ZN [0,0] Z ?_
 by_cases bp:ex.kind=((1:Nat):Int)
 ·refine Ap true Z Z (A5 bp) Aa<|Ac 1 Z<|Ah Z<|A0<|AO _ [0,0,0,1,0,0,0,1,3,0] mixed (by kernel_rfl) ?_
  have hwk:=KN hwf oM
  refine Ad 1 Z<|AG (hex.isPtr) Z Aa<|AD (p:=ve) 1 Bw Z (a2 _<|a0.drew.sub<|B2 hgS) Aa<|Ae (p:=An ve 1) (.inl Z) (zI ex.num) AC Z ((a2 _<|a0.drew.sub<|B2 hgS).ld (i:=1) Ed) Aa<|Ad 1 Z<|Bb Z Aa<|Ak (p:=zP g) 1 N9 Z Z Aa<|Ae (p:=An (zP g) 1) (.inl Z) (zI (n:Int)) Sp Z (a7.ldp (i:=1) sM) Aa ?_
  refine Am 203 [] [] [zI ex.num,zI (n:Int)] Z Z Li Aa (Cf _ _ (n) a3.rng.num sD oM) ?_
  rintro ka fx ⟨b1,rfl,ae,aa⟩
  refine⟨_,rfl,ae,?_⟩
  replace ae:=ae.of_drew
  have ed:=ae.size
  have d4:AA [g] w fx:=a0.ext ae
  have an:=a7.ext ae
  replace aa:=aa.low (B':=f0.heap.size)<|A7 _
  exact Ac 1 Z<|A1<|AH<|Ao<|Af [6] Z b1 Z ⟨b1,HQ n ex.num,s0+1,c0,rfl,d4,an,RN.of_fr1 aa fun b hb=>zH<|hS b hb,(by exact Fi (CY.2 oM)),oM,oM,(by exact Ew hc00 hs1 oM)⟩
 refine Ap false Z Z (A6 bp) Aa<|Ac 1 Z<|Ai Z<|ZN [0,0] Z ?_
 by_cases bq:ex.kind=((2:Nat):Int)
 ·refine Ap true Z Z (A5 bq) Aa<|Ac 1 Z<|Ah Z<|ZN [0,0,0,0,2,0,2,0] Z ?_
  have hwk:=KO hwf oM
  refine Ad 2 Z<|AG (hex.isPtr) Z Aa<|AD (p:=ve) 1 Bw Z (a2 _<|a0.sub<|B2 hgS) Aa<|Ae (p:=An ve 1) (.inr Z) (zI ex.num) AC Z ((a2 _<|a0.sub<|B2 hgS).ld (i:=1) Ed) Aa<|Au (v:=vv) ((ex.num).toNat) Bs AV Z Z henv.slL oM sD Aa ?_
  obtain⟨ba,d5,br⟩:=RN.getL (w:=w) g1 [] (k:=(ex.num).toNat) henv sD
  have bs:=br.lenL
  unfold maxLen at bs
  exact Ae (p:=Aw vv ((ex.num).toNat) 1) (.inr Z) ba AZ Z (d5 _<|a0.sub<|B2 hgS) Aa<|Ac 1 Z<|A1<|AH<|Ao<|Af [6] Z ba Z ⟨ba,env.getD ((ex.num).toNat) [],s0+1,c0,rfl,a0,a7,br.chg g1<|a0.sub<|B2 hgS,(by exact hse _ oM),oM,oM,(by exact Ey hc00 hs1 oM)⟩
 refine Ap false Z Z (A6 bq) Aa<|Ac 1 Z<|Ai Z<|ZN [0,0] Z ?_
 by_cases bt:ex.kind=((7:Nat):Int)
 ·refine Ap true Z Z (A5 bt) Aa<|Ac 1 Z<|Ah Z<|ZN [0,0,0,0,2,0,0,4,3,0] Z ?_
  have hwk:=MM hwf oM
  refine Ad 2 Z<|AG (hex.isPtr) Z Aa<|AD (p:=ve) 4 B8 Z (a2 _<|a0.sub<|B2 hgS) Aa<|Ae (p:=An ve 4) (.inr Z) a1 Ba Z ((a2 _<|a0.sub<|B2 hgS).ld (i:=4) Ed) Aa<|Au (v:=a1) 0 CB Bf Z Z a3.rn.isSl Z sD Aa<|Ad 1 Z ?_
  refine AI 167 [] [] [zP g,Aw a1 0 5,vv] Z Z Ht Aa (IH2 dd12 oM _ S g pp dp (n) (s0+1) (c0) (p) (Aw a1 0 5) (ex.kids.getD 0 Ex.zero) vv (env) (fun b hb=>(by have:=hS b hb;omega:b<f0.heap.size)) hgS a7 (hp.chg (AX<|AR dp)<|a0.sub<|B2 hgS) oM oM oM (RN.ptr (Aq dd12) (by decide) Ex.zero (a3.rn.chg (Al<|Aq dd12)<|a0.sub<|B2 hgS) sD) (henv.chg g2<|a0.sub<|B2 hgS) hqenv hvp oM ID hse No) ?_
  rintro kb fy ⟨fz,j8,j9,ja,rfl,bu,d6,bv,bw,ee,ef,eg⟩
  refine⟨_,rfl,?_⟩
  have eh:=bu.size
  have d7:AA [g] w fy:=a0.trans bu
  have ei:=bw.1
  refine Am 204 [] [] [fz,zI ((1000002:Nat):Int)] Z Z Sm Aa (EU _ _ _ _ (bv).rd oM oM) ?_
  rintro kc jb ⟨b2,rfl,aj,bb⟩
  refine⟨_,rfl,aj,?_⟩
  have ej:=aj.size
  have d8:AA [g] w jb:=d7.ext aj
  have ao:=d6.ext aj
  have ir:=bv.ext g1 aj
  exact Ac 1 Z<|A1<|AH<|Ao<|Af [6] Z b2 Z ⟨b2,Vq j8 ((1000002:Nat):Int),j9,ja,rfl,d8,ao,RN.of_fr1 bb fun b hb=>zH<|hS b hb,(by rw[Nn];exact KR (by assumption)),oM,oM,(by exact GN hc00 hs1 oM (VE oM ‹AM (go c0<|CZ _ _ (ex.kids.getD 0 _) _ _) _ _ _›) (fun h0=>by rw[h0,Nn];exact G4 oM) (fun _=>rfl))⟩
 refine Ap false Z Z (A6 bt) Aa<|Ac 1 Z<|Ai Z<|ZN [0,0] Z ?_
 by_cases bx:ex.kind=((8:Nat):Int)
 ·refine Ap true Z Z (A5 bx) Aa<|Ac 1 Z<|Ah Z<|A0<|ZN [0,0,0,0,2,0,0,4,0,2,0] Z ?_
  have hwk:=NU hwf oM
  refine Ad 2 Z<|AG (hex.isPtr) Z Aa<|AD (p:=ve) 4 B8 Z (a2 _<|a0.sub<|B2 hgS) Aa<|Ae (p:=An ve 4) (.inr Z) a1 Ba Z ((a2 _<|a0.sub<|B2 hgS).ld (i:=4) Ed) Aa<|Au (v:=a1) 0 CB Bf Z Z a3.rn.isSl Z sD Aa<|Ad 1 Z ?_
  refine AI 167 [] [] [zP g,Aw a1 0 5,vv] Z Z Ht Aa (IH2 dd12 oM _ S g pp dp (n) (s0+1) (c0) (p) (Aw a1 0 5) (ex.kids.getD 0 Ex.zero) vv (env) (fun b hb=>(by have:=hS b hb;omega:b<f0.heap.size)) hgS a7 (hp.chg (AX<|AR dp)<|a0.sub<|B2 hgS) oM oM oM (RN.ptr (Aq dd12) (by decide) Ex.zero (a3.rn.chg (Al<|Aq dd12)<|a0.sub<|B2 hgS) sD) (henv.chg g2<|a0.sub<|B2 hgS) hqenv hvp oM ID hse No) ?_
  rintro kd f7 ⟨fg,fh,fi,fj,rfl,bz,c3,ap,c4,ek,el,en⟩
  refine⟨_,rfl,?_⟩
  have eo:=bz.size
  have a5:AA [g] w f7:=a0.trans bz
  have ep:=c4.1
  refine Au (v:=fg) 0 Bl BD Z Z ap.slL Z sD Aa ?_
  have d9:=RN.getI (w:=f7) (k:=0) ap sD
  refine Ae (p:=Aw fg 0 1) (.inr Z) (zI<|fh.getD 0 0) AC Z (d9.1 _<|AA.refl _ _) Aa ?_
  by_cases c5:fh.getD 0 0=((0:Nat):Int)
  ·refine Ap true Z Z (A5 c5) Aa<|Aj<|Ah Z<|ZN [0,0,0,0,2,0,0,4,0] Z<|Ad 2 Z<|AG (hex.isPtr) Z Aa<|AD (p:=ve) 4 B8 Z (a2 _<|a5.sub<|B2 hgS) Aa<|Ae (p:=An ve 4) (.inr Z) a1 Ba Z ((a2 _<|a5.sub<|B2 hgS).ld (i:=4) Ed) Aa<|Au (v:=a1) 1 CB Bf Z Z a3.rn.isSl Z sD Aa ?_
   refine Ad 1 Z ?_
   refine AI 167 [] [] [zP g,Aw a1 1 5,vv] Z Z Ht Aa (IH2 dd12 oM _ S g pp dp (n) (fi) (fj) (p) (Aw a1 1 5) (ex.kids.getD 1 Ex.zero) vv (env) (fun b hb=>(by have:=hS b hb;omega:b<f7.heap.size)) hgS c3 (hp.chg (AX<|AR dp)<|a5.sub<|B2 hgS) oM oM oM (RN.ptr (Aq dd12) (by decide) Ex.zero (a3.rn.chg (Al<|Aq dd12)<|a5.sub<|B2 hgS) sD) (henv.chg g2<|a5.sub<|B2 hgS) hqenv hvp oM ID hse (zH<|CH (l:=ex.kids) (k:=1) oM)) ?_
   rintro ke jc ⟨fk,jd,je,jf,rfl,bc,da,db,c6,eq,er,es⟩
   refine⟨_,rfl,?_⟩
   have et:=bc.size
   have dc:AA [g] w jc:=a5.trans bc
   have is:=ap.run g1 hgS bc
   have eu:=c6.1
   exact Ac 1 Z<|A1<|Ao<|AH<|Ao<|Af [6] Z fk Z ⟨fk,jd,je,jf,rfl,dc,da,db,(by assumption),oM,oM,SU⟩
  refine Ap false Z Z (A6 c5) Aa<|Aj<|Ai Z<|A2<|ZN [0,0,0,0,2,0,0,4,0] Z<|Ad 2 Z<|AG (hex.isPtr) Z Aa<|AD (p:=ve) 4 B8 Z (a2 _<|a5.sub<|B2 hgS) Aa<|Ae (p:=An ve 4) (.inr Z) a1 Ba Z ((a2 _<|a5.sub<|B2 hgS).ld (i:=4) Ed) Aa ?_
  refine Au (v:=a1) 2 CB Bf Z Z a3.rn.isSl Z sD Aa<|Ad 1 Z ?_
  refine AI 167 [] [] [zP g,Aw a1 2 5,vv] Z Z Ht Aa (IH2 dd12 oM _ S g pp dp (n) (fi) (fj) (p) (Aw a1 2 5) (ex.kids.getD 2 Ex.zero) vv (env) (fun b hb=>(by have:=hS b hb;omega:b<f7.heap.size)) hgS c3 (hp.chg (AX<|AR dp)<|a5.sub<|B2 hgS) oM oM oM (RN.ptr (Aq dd12) (by decide) Ex.zero (a3.rn.chg (Al<|Aq dd12)<|a5.sub<|B2 hgS) sD) (henv.chg g2<|a5.sub<|B2 hgS) hqenv hvp oM ID hse (zH<|CH (l:=ex.kids) (k:=2) oM)) ?_
  rintro kf jg ⟨fl,jh,ji,jj,rfl,bd,dd,de,c8,ev,ew,ey⟩
  refine⟨_,rfl,?_⟩
  have ez:=bd.size
  have df:AA [g] w jg:=a5.trans bd
  have it:=ap.run g1 hgS bd
  have g0:=c8.1
  exact Ac 1 Z<|A1<|AH<|Ao<|Af [6] Z fl Z ⟨fl,jh,ji,jj,rfl,df,dd,de,(by assumption),oM,oM,SU⟩
 refine Ap false Z Z (A6 bx) Aa<|Ac 1 Z<|Ai Z<|ZN [0,0] Z ?_
 by_cases c9:ex.kind=((9:Nat):Int)
 ·refine Ap true Z Z (A5 c9) Aa<|Ac 1 Z<|Ah Z<|ZN [0,0,0,0,2,0,0,4,0] Z ?_
  have hwk:=KP hwf oM
  refine Ad 2 Z<|AG (hex.isPtr) Z Aa<|AD (p:=ve) 4 B8 Z (a2 _<|a0.sub<|B2 hgS) Aa<|Ae (p:=An ve 4) (.inr Z) a1 Ba Z ((a2 _<|a0.sub<|B2 hgS).ld (i:=4) Ed) Aa<|Au (v:=a1) 0 CB Bf Z Z a3.rn.isSl Z sD Aa<|Ad 1 Z ?_
  refine AI 167 [] [] [zP g,Aw a1 0 5,vv] Z Z Ht Aa (IH2 dd12 oM _ S g pp dp (n) (s0+1) (c0) (p) (Aw a1 0 5) (ex.kids.getD 0 Ex.zero) vv (env) (fun b hb=>(by have:=hS b hb;omega:b<f0.heap.size)) hgS a7 (hp.chg (AX<|AR dp)<|a0.sub<|B2 hgS) oM oM oM (RN.ptr (Aq dd12) (by decide) Ex.zero (a3.rn.chg (Al<|Aq dd12)<|a0.sub<|B2 hgS) sD) (henv.chg g2<|a0.sub<|B2 hgS) hqenv hvp oM ID hse No) ?_
  rintro kg fm ⟨fo,fp,jk,jl,rfl,ca,dg,cb,cc,g3,g4,g5⟩
  refine⟨_,rfl,?_⟩
  have g6:=ca.size
  have aq:AA [g] w fm:=a0.trans ca
  have g7:=cc.1
  refine Ac 1 Z<|A0<|AO _ [0,0,0,0,1,0,0,0,3,4,0] mixed (by kernel_rfl)<|Ad 2 Z<|AG (hex.isPtr) Z Aa<|AD (p:=ve) 4 B8 Z (a2 _<|aq.drew.sub<|B2 hgS) Aa<|Ae (p:=An ve 4) (.inl Z) a1 Ba Z ((a2 _<|aq.drew.sub<|B2 hgS).ld (i:=4) Ed) Aa<|Au (v:=a1) 1 CB Bf Z Z a3.rn.isSl Z sD Aa<|Ad 2 Z ?_
  refine Am 205 [] [] [vv,fo] Z Z Yh Aa (M7 _ S vv (env) fo (fp) (fun b hb=>(by have:=hS b hb;omega:b<fm.heap.size)) (henv.chg g2<|aq.drew.sub<|B2 hgS) hqenv cb oM) ?_
  rintro kh fq ⟨fr,rfl,ab,cd,ce⟩
  refine⟨_,rfl,ab,?_⟩
  replace ab:=ab.of_drew
  have g8:=ab.size
  have be:AA [g] w fq:=aq.ext ab
  have ar:=dg.ext ab
  have dh:=cb.ext g1 ab
  refine AI 167 [] [] [zP g,Aw a1 1 5,fr] Z Z Ht Aa (IH2 dd12 oM _ S g pp dp (n) (jk) (jl) (p) (Aw a1 1 5) (ex.kids.getD 1 Ex.zero) fr (env++[fp]) (fun b hb=>(by have:=hS b hb;omega:b<fq.heap.size)) hgS ar (hp.chg (AX<|AR dp)<|be.sub<|B2 hgS) oM oM oM (RN.ptr (Aq dd12) (by decide) Ex.zero (a3.rn.chg (Al<|Aq dd12)<|be.sub<|B2 hgS) sD) cd ce hvp oM (by have h9:=Hl hwf oM oM;rw[z4,zd];exact h9) (by exact hse.snoc (by assumption)) (by have:=CH (l:=ex.kids) (k:=1) oM;rw[z4,zd];omega)) ?_
  rintro ki jm ⟨fs,jn,jo,jp,rfl,au,di,dj,cf,g9,ga,gb⟩
  refine⟨_,rfl,?_⟩
  have gc:=au.size
  have dk:AA [g] w jm:=be.trans au
  have iu:=dh.run g1 hgS au
  have iv:=cd.run g2 hgS au
  have gd:=cf.1
  exact Ac 1 Z<|A1<|AH<|Ao<|Af [6] Z fs Z ⟨fs,jn,jo,jp,rfl,dk,di,dj,(by assumption),oM,oM,(by exact EB hc00 hs1 oM oM ‹AM (go c0<|CZ _ _ (ex.kids.getD 0 _) _ _) _ _ _› (by assumption))⟩
 refine Ap false Z Z (A6 c9) Aa<|Ac 1 Z<|Ai Z<|A0<|ZN [0,0] Z ?_
 by_cases cg:ex.kind=((10:Nat):Int)
 ·refine Ap true Z Z (A5 cg) Aa<|Ac 1 Z<|Ah Z<|A2<|Ah Z<|ZN [0,0,0,4,0] Z<|Ad 3 Z<|AI 206 [] [] [zP g,ve,vv] Z Z UM Aa (ST F dex IH1 IH2 _ S g pp dp (n) (s0+1) (c0) (p) ve (ex) vv (env) (fun b hb=>(by have:=hS b hb;omega:b<f0.heap.size)) hgS a7 (hp.chg (AX<|AR dp)<|a0.sub<|B2 hgS) oM oM oM (hex.chg (AX<|Aq dex)<|a0.sub<|B2 hgS) (henv.chg g2<|a0.sub<|B2 hgS) hqenv hvp oM hwf hse oM oM) ?_
  rintro kj jq ⟨ft,jr,js,jt,rfl,ch,dl,dm,ci,ge,gf,gg⟩
  refine⟨_,rfl,?_⟩
  have gh:=ch.size
  have dn:AA [g] w jq:=a0.trans ch
  have gi:=ci.1
  exact Ac 1 Z<|A1<|AH<|Ao<|Af [6] Z ft Z ⟨ft,jr,js,jt,rfl,dn,dl,dm,(by assumption),oM,oM,(by exact Mr hc00 hs1 oM (by assumption))⟩
 refine Ap false Z Z (A6 cg) Aa<|Ac 1 Z<|Ai Z<|Ab _ [0,0] Z ?_
 by_cases cj:ex.kind=((11:Nat):Int)
 ·refine Ap true Z Z (A5 cj) Aa<|Ac 1 Z<|Ah Z<|ZN [0,0,0,4,0] Z<|Ad 3 Z<|AI 206 [] [] [zP g,ve,vv] Z Z UM Aa (ST F dex IH1 IH2 _ S g pp dp (n) (s0+1) (c0) (p) ve (ex) vv (env) (fun b hb=>(by have:=hS b hb;omega:b<f0.heap.size)) hgS a7 (hp.chg (AX<|AR dp)<|a0.sub<|B2 hgS) oM oM oM (hex.chg (AX<|Aq dex)<|a0.sub<|B2 hgS) (henv.chg g2<|a0.sub<|B2 hgS) hqenv hvp oM hwf hse oM oM) ?_
  rintro kk ju ⟨fu,jv,jw,jx,rfl,ck,dq,dr,cl,gj,gk,gl⟩
  refine⟨_,rfl,?_⟩
  have gm:=ck.size
  have ds:AA [g] w ju:=a0.trans ck
  have gn:=cl.1
  exact Ac 1 Z<|A1<|AH<|Ao<|Af [6] Z fu Z ⟨fu,jv,jw,jx,rfl,ds,dq,dr,(by assumption),oM,oM,(by exact Mr hc00 hs1 oM (by assumption))⟩
 refine Ap false Z Z (A6 cj) Aa<|Ac 1 Z<|Ai Z<|A2<|ZN [0,0,0,0,2,0,0,4,0] Z ?_
 have hkk:ex.kind=3∨ex.kind=4∨ex.kind=5∨ex.kind=6:=Vs hwf oM
 have j4:ex.kids.length=2:=Im hwf hkk
 have j5:=CH (l:=ex.kids) (k:=0) oM
 have j6:=CH (l:=ex.kids) (k:=1) oM
 refine Ad 2 Z<|AG (hex.isPtr) Z Aa<|AD (p:=ve) 4 B8 Z (a2 _<|a0.sub<|B2 hgS) Aa<|Ae (p:=An ve 4) (.inr Z) a1 Ba Z ((a2 _<|a0.sub<|B2 hgS).ld (i:=4) Ed) Aa<|Au (v:=a1) 0 CB Bf Z Z a3.rn.isSl Z sD Aa<|Ad 1 Z ?_
 refine AI 167 [] [] [zP g,Aw a1 0 5,vv] Z Z Ht Aa (IH2 dd12 oM _ S g pp dp (n) (s0+1) (c0) (p) (Aw a1 0 5) (ex.kids.getD 0 Ex.zero) vv (env) (fun b hb=>(by have:=hS b hb;omega:b<f0.heap.size)) hgS a7 (hp.chg (AX<|AR dp)<|a0.sub<|B2 hgS) oM oM oM (RN.ptr (Aq dd12) (by decide) Ex.zero (a3.rn.chg (Al<|Aq dd12)<|a0.sub<|B2 hgS) sD) (henv.chg g2<|a0.sub<|B2 hgS) hqenv hvp oM ID hse No) ?_
 rintro kl fv ⟨f8,f9,jy,jz,rfl,cm,dt,du,b3,gp,gq,cn⟩
 refine⟨_,rfl,?_⟩
 have gr:=cm.size
 have af:AA [g] w fv:=a0.trans cm
 have gs:=b3.1
 have hra:=cn
 have co:=b3
 refine Ac 1 Z<|ZN [0,0,0,0,2,0,0,4,0] Z<|Ad 2 Z<|AG (hex.isPtr) Z Aa<|AD (p:=ve) 4 B8 Z (a2 _<|af.sub<|B2 hgS) Aa<|Ae (p:=An ve 4) (.inr Z) a1 Ba Z ((a2 _<|af.sub<|B2 hgS).ld (i:=4) Ed) Aa<|Au (v:=a1) 1 CB Bf Z Z a3.rn.isSl Z sD Aa<|Ad 1 Z ?_
 refine AI 167 [] [] [zP g,Aw a1 1 5,vv] Z Z Ht Aa (IH2 dd12 oM _ S g pp dp (n) (jy) (jz) (p) (Aw a1 1 5) (ex.kids.getD 1 Ex.zero) vv (env) (fun b hb=>(by have:=hS b hb;omega:b<fv.heap.size)) hgS dt (hp.chg (AX<|AR dp)<|af.sub<|B2 hgS) oM oM oM (RN.ptr (Aq dd12) (by decide) Ex.zero (a3.rn.chg (Al<|Aq dd12)<|af.sub<|B2 hgS) sD) (henv.chg g2<|af.sub<|B2 hgS) hqenv hvp oM ID hse (zH<|CH (l:=ex.kids) (k:=1) oM)) ?_
 rintro km fa ⟨f3,f1,f4,f2,rfl,bf,ac,a6,b4,gt,gu,cp⟩
 refine⟨_,rfl,?_⟩
 have gv:=bf.size
 have a4:AA [g] w fa:=af.trans bf
 have a8:=du.run g1 hgS bf
 have cq:=b4.1
 have hrb:=cp
 have j7:=b4
 have hlb:=cq
 have hzz:f1.getD 0 0=0∨¬f1.getD 0 0=0:=Decidable.em _
 refine Ac 1 Z<|A0<|A3<|ZN [0,0,0,2,0,0] Z<|Ad 1 Z<|AG (hex.isPtr) Z Aa<|AD (p:=ve) 0 BC Z (a2 _<|a4.sub<|B2 hgS) Aa<|Ae (p:=An ve 0) (.inr Z) (zI ex.kind) AC Z ((a2 _<|a4.sub<|B2 hgS).ld (i:=0) Ed) Aa ?_
 by_cases cr:ex.kind=((3:Nat):Int)
 ·refine Ap true Z Z (A5 cr) Aa<|Ac 1 Z<|Ah Z<|ZN [0,0,3,0] Z<|Ad 2 Z<|Am 207 [] [] [f8,f3] Z Z Ic Aa (BW _ _ _ _ _ (a8).rd (a6).rd oM oM) ?_
  rintro kn k0 ⟨b5,rfl,ag,bg⟩
  refine⟨_,rfl,ag,?_⟩
  have gw:=ag.size
  have dv:AA [g] w k0:=a4.ext ag
  have av:=ac.ext ag
  have iw:=a8.ext g1 ag
  have ix:=a6.ext g1 ag
  exact Ac 1 Z<|A1<|AH<|Ao<|Af [6] Z b5 Z ⟨b5,Cz f9 f1,f4,f2,rfl,dv,av,RN.of_fr1 bg fun b hb=>zH<|hS b hb,(by exact Gq co),oM,oM,(by exact GN hc00 hs1 oM (JC oM hra hrb) (fun h0=>by rw[h0];exact FZ oM) (fun _=>rfl))⟩
 refine Ap false Z Z (A6 cr) Aa<|Ac 1 Z<|Ai Z<|ZN [0,0,0,2,0,0] Z<|Ad 1 Z<|AG (hex.isPtr) Z Aa<|AD (p:=ve) 0 BC Z (a2 _<|a4.sub<|B2 hgS) Aa<|Ae (p:=An ve 0) (.inr Z) (zI ex.kind) AC Z ((a2 _<|a4.sub<|B2 hgS).ld (i:=0) Ed) Aa ?_
 by_cases cs:ex.kind=((4:Nat):Int)
 ·refine Ap true Z Z (A5 cs) Aa<|Ac 1 Z<|Ah Z<|ZN [0,0,3,0] Z<|Ad 2 Z<|Am 208 [] [] [f8,f3] Z Z Oi Aa (DG _ _ _ _ _ (a8).rd (a6).rd oM oM oM) ?_
  rintro ko k1 ⟨b6,rfl,ah,bh⟩
  refine⟨_,rfl,ah,?_⟩
  have gx:=ah.size
  have dw:AA [g] w k1:=a4.ext ah
  have aw:=ac.ext ah
  have iy:=a8.ext g1 ah
  have iz:=a6.ext g1 ah
  exact Ac 1 Z<|A1<|AH<|Ao<|Af [6] Z b6 Z ⟨b6,GL f9 f1,f4,f2,rfl,dw,aw,RN.of_fr1 bh fun b hb=>zH<|hS b hb,(by exact KQ co),oM,oM,(by exact GN hc00 hs1 oM (JC oM hra hrb) (fun h0=>by rw[h0];exact G0 oM) (fun _=>rfl))⟩
 refine Ap false Z Z (A6 cs) Aa<|Ac 1 Z<|Ai Z<|ZN [0,0,0,2,0,0] Z<|Ad 1 Z<|AG (hex.isPtr) Z Aa<|AD (p:=ve) 0 BC Z (a2 _<|a4.sub<|B2 hgS) Aa<|Ae (p:=An ve 0) (.inr Z) (zI ex.kind) AC Z ((a2 _<|a4.sub<|B2 hgS).ld (i:=0) Ed) Aa ?_
 by_cases ct:ex.kind=((5:Nat):Int)
 ·refine Ap true Z Z (A5 ct) Aa<|Ac 1 Z<|Ah Z<|ZN [0,0,3,0] Z<|Ad 2 Z<|Am 209 [] [] [f8,f3] Z Z Oj Aa (DH _ _ _ _ _ (a8).rd (a6).rd oM oM) ?_
  rintro kp k2 ⟨b7,rfl,ai,bi⟩
  refine⟨_,rfl,ai,?_⟩
  have gy:=ai.size
  have dx:AA [g] w k2:=a4.ext ai
  have ax:=ac.ext ai
  have j0:=a8.ext g1 ai
  have j1:=a6.ext g1 ai
  exact Ac 1 Z<|A1<|AH<|Ao<|Af [6] Z b7 Z ⟨b7,Cs f9 f1,f4,f2,rfl,dx,ax,RN.of_fr1 bi fun b hb=>zH<|hS b hb,(by exact Hn co),oM,oM,(by exact GN hc00 hs1 oM (JC oM hra hrb) (fun h0=>by rw[h0];exact G3 oM) (fun _=>rfl))⟩
 refine Ap false Z Z (A6 ct) Aa<|Ac 1 Z<|Ai Z<|ZN [0,0,0,2,0,0,0,0,2,0,0,0] Z<|Ad 1 Z<|Bb Z Aa<|Ak (p:=zP g) 3 GS Z Z Aa<|Ae (p:=An (zP g) 3) (.inr Z) (zI f2) AC Z (ac.ldp (i:=3) sM) Aa ?_
 by_cases cu:f2≠((0:Nat):Int)
 ·refine AU true Z Z (A5 cu) Aa<|Ac 7 Z<|Ah Z<|ZN [0,4,0] Z<|Ad 1 Z<|AI 202 [] [] [zP g,zI ((6:Nat):Int)] Z Z PW Aa (D1 _ S g pp dp (n) (f4) (f2) (p) ((6:Nat):Int) (fun b hb=>(by have:=hS b hb;omega:b<fa.heap.size)) hgS ac (hp.chg (AX<|AR dp)<|a4.sub<|B2 hgS) oM oM oM oM oM) ?_
  rintro kq k3 ⟨fw,k4,k5,k6,rfl,ay,dy,dz,cv,gz,i0,b8⟩
  refine⟨_,rfl,?_⟩
  have i1:=ay.size
  have e0:AA [g] w k3:=a4.trans ay
  have i2:=a8.run g1 hgS ay
  have i3:=a6.run g1 hgS ay
  have i4:=cv.1
  have hfs:=b8.1
  have hff:=b8.2
  exact Ac 1 Z<|A1<|AH<|Ao<|Af [6] Z fw Z ⟨fw,k4,k5,k6,rfl,e0,dy,dz,(by assumption),oM,oM,(by rw[hfs];exact GN hc00 hs1 oM (JC oM hra hrb) (fun h0=>absurd h0 oM) (fun h0=>by rw[hff,if_neg h0]))⟩
 refine AU false Z Z (A6 cu) Aa<|Ad 2 Z<|Au (v:=f3) 0 Bl BD Z Z a6.slL Z (by rw[hlb];omega) (Ag (e:=175) Z Z Z) ?_
 have cw:=RN.getI (w:=fa) (k:=0) a6 (by rw[hlb];omega)
 refine Ae (p:=Aw f3 0 1) (.inr Z) (zI<|f1.getD 0 0) AC Z (cw.1 _<|AA.refl _ _) (Ag (e:=175) Z Z Z) ?_
 by_cases b9:f1.getD 0 0=((0:Nat):Int)
 ·refine Ap true Z Z (A5 b9) (Ag (e:=175) Z Z Z)<|Ac 2 Z<|Ah Z<|ZN [0,4,0] Z<|Ad 1 Z<|AI 202 [] [] [zP g,zI ((6:Nat):Int)] Z Z PW Aa (D1 _ S g pp dp (n) (f4) (f2) (p) ((6:Nat):Int) (fun b hb=>(by have:=hS b hb;omega:b<fa.heap.size)) hgS ac (hp.chg (AX<|AR dp)<|a4.sub<|B2 hgS) oM oM oM oM oM) ?_
  rintro k7 fb ⟨f6,fc,fd,fe,rfl,ad,cx,cy,bj,e1,e3,ak⟩
  refine⟨_,rfl,?_⟩
  have e4:=ad.size
  have cz:AA [g] w fb:=a4.trans ad
  have i5:=a8.run g1 hgS ad
  have i6:=a6.run g1 hgS ad
  have e5:=bj.1
  have hfs:=ak.1
  have hff:=ak.2
  exact Ac 1 Z<|A1<|AH<|Ao<|Af [6] Z f6 Z ⟨f6,fc,fd,fe,rfl,cz,cx,cy,(by assumption),oM,oM,(by rw[hfs];exact GN hc00 hs1 oM (JC oM hra hrb) (fun h0=>by rw[hff,if_pos h0];exact EC (xs:=[_,_]) oM (hzz.resolve_right oM)) (fun h0=>by rw[hff,if_neg h0]))⟩
 refine Ap false Z Z (A6 b9) (Ag (e:=175) Z Z Z)<|Ac 2 Z<|Ai Z<|A2<|ZN [0,0,3,0] Z<|Ad 2 Z<|Am 210 [] [] [f8,f3] Z Z Sn Aa (Ge _ _ _ _ _ (a8).rd (a6).rd oM oM oM co.2) ?_
 rintro k8 ff ⟨al,rfl,a9,az⟩
 refine⟨_,rfl,a9,?_⟩
 have e6:=a9.size
 have d0:AA [g] w ff:=a4.ext a9
 have am:=ac.ext a9
 have i7:=a8.ext g1 a9
 have i8:=a6.ext g1 a9
 exact Ac 1 Z<|A1<|Af [6] Z al Z ⟨al,Cm f9 f1,f4,f2,rfl,d0,am,RN.of_fr1 az fun b hb=>zH<|hS b hb,(by exact Ho co),oM,oM,(by exact GN hc00 hs1 oM (JC oM hra hrb) (fun h0=>by rw[h0];exact G5 (xs:=[_,_]) oM (hzz.resolve_left oM)) (fun _=>rfl))⟩
theorem Uf:∀F d,SV F d:=by
  intro F
  induction F using Nat.strongRecOn with
  |_ F ihF =>
    intro d
    induction d using Nat.strongRecOn with
    |_ d ihd =>
      intro w S g pp dp n s0 c0 p ve ex vv env hS hgS hB0 hp hn hs0 hc0 hex henv hqenv hvp hF hwf hse hdp
      exact IE w S F g pp dp n s0 c0 p d ve ex vv env hS hgS hB0 hp hn hs0 hc0 hex henv hqenv hvp hF hwf hse hdp ihF ihd
theorem VX (F:Nat):SO F:=SR F fun d=>Uf F d
theorem V3 {p:Prop}(h:p:=by unfold maxLen;first|omega|assumption|(simp only[zb,z9,z4,z6,z5];omega)|(simp[zb,z9,z4,z6,z5];done)|(simp[zb,z9,z4,z6,z5];omega)):p:=h
theorem LJ (w:World)(dp:Nat)(vp:Value)(p:List Fn)(f:Int)(va:Value)(a:Sr)(hp:RN [] (rP (K4 dp)) w.heap vp p)(_hf:Bk f)(ha:Rd (B5 rI) w.heap va a)(hvp:FY p)(hf:0≤f∧f<(p.length:Int))(hl:(a.length:Int)=(p.getD f.toNat Fn.zero).params)(hna:B9 a=true) :
  Calls Tryz.prog 55 #[vp,zI f,va] w (fun e w'=>∃v0:Value,e=.returned (.tuple #[v0,zI ((Oq p 1 f.toNat (Cq a):Nat):Int),zI (GB p f.toNat a)])∧AF w w'∧Fr (Bo rI 2) w.heap.size w'.heap.size w'.heap v0 (Py p f.toNat a)∧Qt p f.toNat a∧Oq p 1 f.toNat (Cq a)≤3000):=by
 refine As [vp,zI f,va] 73 Tryz.func55 Z Z sM ?_
 have cb:AF w w:=AF.refl w
 have dh:=ha.lenle
 have dt:=hvp.par f.toNat oM
 have du:=hvp.outs f.toNat oM
 refine ZN [0,0,0] Z<|Ac 3 Z<|ZN [0,0,3,0] Z<|Ad 1 Z ?_
 have bm:∀(vp:Value) (ap:∃b o,vp=.pointer (some ⟨b,o,none⟩)) (wq:World),(Instr.build 166 #[(0,vp),(1,zI ((1:Nat):Int))]).run Tryz.prog wq=.ok (.agg #[vp,zI ((1:Nat):Int),zI 0,zI 0]) wq:=by intro vp ap wq;obtain⟨b0,o0,rfl⟩:=ap;kernel_rfl
 refine CI (ps:=#[(0,vp),(1,zI ((1:Nat):Int))]) (.agg #[vp,zI ((1:Nat):Int),zI 0,zI 0]) (by simp only[zc,zf,zh];rfl) (fun wq=>bm vp hp.isPtr wq) Aa (Bj (cs:=#[vp,zI ((1:Nat):Int),zI 0,zI 0]) Z Aa fun w2 bn ct bo=>?_)
 have bp:=bn.size
 have bq:=cb.trans bn
 replace bo:BX w2.heap w.heap.size [vp,zI ((1:Nat):Int),zI 0,zI 0]:=bo
 refine Ac 1 Z<|ZN [3,0] Z (Cp (Bo rI 2) o1 Bs AV Aa fun v3 w3 bj cu cc=>?_)
 have br:=bj.size
 have cd:=bq.trans bj
 have b3:=bo.ext bj
 refine Ac 1 Z<|A0<|ZO Z<|A3 ?_
 refine AT (S:=Nat×Value) (fun⟨k,vo⟩=>([(10,vo),(11,zI (k:Int)),(0,vp),(1,zI f),(2,va),(9,zP w.heap.size)])) (fun⟨k,vo⟩ W=>AF w W∧Fr (Bo (Bo rI 2) 27) w2.heap.size W.heap.size W.heap vo ((a.take k).map fun x=>[x])∧BX W.heap w.heap.size [vp,zI ((1:Nat):Int),zI 0,zI 0]∧k≤a.length∧w.heap.size<w2.heap.size∧w2.heap.size≤W.heap.size) (fun⟨k,vo⟩=>a.length-k) (0,v3) ⟨rfl,rfl,rfl,rfl,rfl,rfl,trivial⟩ ⟨cd,cc.up o2,b3,sD,oM,oM⟩ ?_
 clear cb ct bn cc cu bj br cd
 rintro⟨k,vo⟩ ρ5 w5 ⟨ag,a0,a2,ce,cv,cw⟩
 have bs:w.heap.size≤w5.heap.size:=ag.size
 have d9:=a2.lt
 refine A0<|ZN [0,0,0,0] Z<|Ad 2 Z<|AP (v:=va) Bl Z ha.isSl Aa ?_
 by_cases cf:(k:Int)<(a.length:Int)
 ·refine AE true Z Z (A5 cf) Aa<|Aj<|Ah Z<|A2<|A0<|A3<|Ab _ [0,0,0,0,2,3,3,4,0] Z<|Ad 3 Z<|Au (v:=va) k Bl BD Z Z ha.isSl Z sD Aa ?_
  refine Ae (p:=Aw va k 1) (.inr Z) (zI<|a.getD k 0) AC Z (Bc ag (ha.getI sD).1) Aa ?_
  refine By (u:=zI<|a.getD k 0) (B:=w5.heap.size) AK Bl BD Z Z (Mb w5.heap.size w5.heap.size _ _ (ha.getI sD).2) (A7 _) Aa fun v9 w9 bk da cx=>?_
  have cy:=bk.size
  have cz:=ag.trans bk
  have ah:=a0.ext (o2) bk
  have ai:=a2.ext bk
  refine By (u:=v9) (B:=w5.heap.size) o1 Bs AV Z Z cx (by first|exact A7 _|omega) Aa fun dj dv aj d0 bt=>?_
  have cg:=aj.size
  have b4:=cz.trans aj
  have aa:=ah.ext (o2) aj
  have ab:=ai.ext aj
  refine GF o1 (v:=vo) (a:=dj) Bs AV Z Z Z aa oM bt oM oM sD V3 Aa fun dk dm dw aw b5 bu=>?_
  have bv:AF w dm:=aw.below b4 (fun c hc=>A8 bq.size (b5 c hc).1) b4.size
  have ch:=aw.size
  have bw:=ab.chg aw fun hm=>zH<|b5 _ hm
  refine Ac 1 Z<|Ab _ [0,0,0] Z<|Ad 1 Z<|AQ ((k+1:Nat):Int) Z Z (Be oM sD) Aa<|Ac 1 Z ?_
  exact⟨(k+1,dk),_,rfl,zR,⟨bv,(by rw[Hg 0 oM];exact bu.up o2),bw,sD,oM,oM⟩,zD⟩
 refine AE false Z Z (A6 cf) Aa<|Aj<|Ai Z<|A4<|Ay<|Ay<|At<|ZN [0,0,0,0,2,0,0,0,4,0] Z ?_
 have henv:(a.take k).map (fun x=>[x])=Cq a:=by rw[za oM];rfl
 have hle:((a.take k).map (fun x=>[x])).length=a.length:=by rw[henv];unfold Cq;rw[zg]
 refine Ad 2 Z<|AG (hp.isPtr) Z Aa ?_
 obtain⟨cs13,bx,b6⟩:=RN.at (AR _) hp
 obtain⟨ak,rfl,ax⟩:=RPr.of bx
 have aq:=ax.lenle
 unfold maxLen at aq
 refine AD (p:=vp) 0 BA Z (b6 _<|AA.of_ext [] ag) Aa<|Ae (p:=An vp 0) (.inr Z) ak C5 Z ((b6 _<|AA.of_ext [] ag).ld (i:=0) (by simp[DQ,DU])) Aa<|Ad 1 Z<|Au (v:=ak) ((f).toNat) Fq C9 Z Z ax.isSl oM sD Aa<|Ad 1 Z ?_
 refine AI 114 [] [] [zP w.heap.size,Aw ak ((f).toNat) 3,vo] Z Z UD Aa (VX f.toNat _ [w.heap.size] w.heap.size vp dp (1) (0) (0) (p) dp (Aw ak ((f).toNat) 3) (p.getD ((f).toNat) Fn.zero) vo ((a.take k).map fun x=>[x]) (fun b hb=>(by have:=A9 hb;omega:b<w5.heap.size)) (List.mem_singleton.2 Z) a2 ((hp.add (F:=[w.heap.size]) (AX<|AR dp) fun b hb=>zH<|A9 hb).ext (AX<|AR dp) ag) oM oM oM (RN.ptr (Ax dp) (by decide) Fn.zero ((ax.add (F:=[w.heap.size]) (Al<|Ax dp) fun b hb=>zH<|A9 hb).ext (Al<|Ax dp) ag) sD) (RN.of_fr2 a0 fun b hb=>zH<|A9 hb) a0.cap hvp oM (by intro k9 bz;have h9:=hvp.wf f.toNat oM k9 bz;rw[hle];rw[hl];exact h9) (by rw[henv];exact D3 hna) (by intro k9 bz;have:=hvp.deep f.toNat oM k9 bz;omega) oM) ?_
 rintro dx db ⟨dd,dc,dg,de,rfl,al,ay,c0,ac,b7,b8,b9⟩
 refine⟨_,rfl,?_⟩
 have ci:=al.size
 have ad:AF w db:=al.below ag (fun b hb=>by have:b=w.heap.size:=(by simpa using hb);omega) ag.size
 have az:=a0.chg (o2) al fun _ h=>zA h
 have ar:=ac.2.1
 have au:=ac.2.2
 have cj:=ac.1
 have av:=c0.rt g2
 have hRL:=b9
 rw[henv]at hRL
 have hCB:=b8
 have hEP:=Ul.mk' hRL hCB b7 ar au
 have hNP:=Qt.mk' hEP
 have hST:=hEP.steps
 have hXS:=au
 have hXL:=ar
 refine Ac 1 Z<|A0<|ZN [0,0,0,2,0] Z<|Ad 1 Z<|Bb Z Aa<|Ak (p:=zP w.heap.size) 3 GS Z Z Aa<|Ae (p:=An (zP w.heap.size) 3) (.inr Z) (zI de) AC Z (ay.ldp (i:=3) sM) Aa ?_
 by_cases ba:de≠((0:Nat):Int)
 ·refine AU true Z Z (A5 ba) Aa<|Aj<|Ah Z<|A0<|AO _ [3,0,0,0,1,0,0,0] mixed (by kernel_rfl) (Cp (rI) AK Bl BD Aa fun di dy a4 d1 c1=>?_)
  replace a4:=a4.of_drew
  have ck:=a4.size
  have c2:=ad.trans a4
  have bl:=az.ext (o2) a4
  have d2:=av.ext g2 a4
  exact Ad 1 Z<|Bb Z Aa<|Ak (p:=zP w.heap.size) 3 GS Z Z Aa<|Ae (p:=An (zP w.heap.size) 3) (.inl Z) (zI de) AC Z (ay.ldp (i:=3) sM) Aa<|Ac 3 Z<|A1<|Ao<|Af [6,7,8] Z (.tuple #[di,zI ((0:Nat):Int),zI de]) Z ⟨di,(by rw[Pr<|In hRL oM,show GB p f.toNat a=_ from J3 (In hRL oM)] <;> rfl),c2,(by rw[hNP.non (by rw[show GB p f.toNat a=_ from J3 (In hRL oM)];omega)];exact(c1.up o1).low ad.size),hNP,hST⟩
 refine AU false Z Z (A6 ba) Aa<|Aj<|Ai Z<|A2<|ZN [3,0] Z (Cp (rI) AK Bl BD Aa fun dn dz a5 c3 bb=>?_)
 have bc:=a5.size
 have bd:=ad.trans a5
 have am:=az.ext (o2) a5
 have an:=ay.ext a5
 have d3:=av.ext g2 a5
 refine Ac 1 Z<|A0<|ZO Z<|A3 ?_
 refine AT (S:=Nat×Value) (fun⟨k,vo⟩=>([(13,vo),(14,zI (k:Int)),(9,zP w.heap.size),(12,dd)])) (fun⟨k,vo⟩ W=>AF w W∧Fr (Bo rI 2) db.heap.size W.heap.size W.heap vo (((dc).take k).map fun s=>s.getD 0 0)∧BX W.heap w.heap.size [vp,zI ((1:Nat):Int),zI (dg:Int),zI de]∧k≤(dc).length∧RT db.heap.size (B5<|B5 rI) W.heap dd dc∧db.heap.size≤W.heap.size∧w.heap.size<db.heap.size∧db.heap.size≤db.heap.size∧db.heap.size≤W.heap.size) (fun⟨k,vo⟩=>(dc).length-k) (0,dn) ⟨rfl,rfl,rfl,rfl,trivial⟩ ⟨bd,bb.up o1,an,sD,(by assumption),oM,oM,oM,oM⟩ ?_
 clear bp bq a2 a0 ag bs aq al az bb c3 a5 bc bd am
 rintro⟨k,vo⟩ ρ28 df ⟨b1,ae,a1,c4,a3,cl,cm,cn,co⟩
 have cp:w.heap.size≤df.heap.size:=b1.size
 have d4:=a1.lt
 refine A0<|ZN [0,0,0,0] Z<|Ad 2 Z<|AP (v:=dd) Bs Z a3.slL Aa ?_
 by_cases be:(k:Int)<(dc.length:Int)
 ·refine AE true Z Z (A5 be) Aa<|Aj<|Ah Z<|A2<|A0<|A3<|Ab _ [0,0,0,0,2,0,2,3,4,0] Z ?_
  have hkx:=hXS k oM
  have hkl:=hkx.1
  refine Ad 3 Z<|Au (v:=dd) k Bs AV Z Z a3.slL Z sD Aa ?_
  obtain⟨b2,c5,ao⟩:=RT.getL g1 [] (k:=k) a3 sD
  have bf:=ao.lenL
  unfold maxLen at bf
  refine Ae (p:=Aw dd k 1) (.inr Z) b2 AZ Z c5 Aa<|Au (v:=b2) 0 Bl BD Z Z ao.slL Z sD Aa ?_
  have bg:=RT.getI (k:=0) ao sD
  refine Ae (p:=Aw b2 0 1) (.inr Z) (zI<|(dc.getD k []).getD 0 0) AC Z bg.1 Aa (By (u:=zI<|(dc.getD k []).getD 0 0) (B:=df.heap.size) AK Bl BD Z Z (Mb df.heap.size df.heap.size _ _ bg.2) (A7 _) Aa fun dq e0 a6 d5 bh=>?_)
  have cq:=a6.size
  have bi:=b1.trans a6
  have a7:=ae.ext (o1) a6
  have a8:=a1.ext a6
  have c6:=a3.ext g2 a6
  have c7:=ao.ext g1 a6
  refine Hf (v:=vo) (a:=dq) Bl BD Z Z Z a7 oM bh.rd1 sD V3 Aa fun dr ds e1 a9 af c8=>?_
  have c9:AF w ds:=a9.below bi (fun c hc=>A8 ad.size (af c hc).1) bi.size
  have cr:=a9.size
  have d6:=c6.chg g2 a9 fun c hc=>zH<|af c hc
  have d7:=c7.chg g1 a9 fun c hc=>zH<|af c hc
  have ca:=a8.chg a9 fun hm=>zH<|af _ hm
  have d8:=bh.chg (o1) a9 fun c hc=>zH<|af c hc
  refine Ac 1 Z<|Ab _ [0,0,0] Z<|Ad 1 Z<|AQ ((k+1:Nat):Int) Z Z (Be oM sD) Aa<|Ac 1 Z ?_
  exact⟨(k+1,dr),_,rfl,zR,⟨c9,(by rw[Hg [] oM];exact c8.up o1),ca,sD,(by assumption),oM,oM,oM,oM⟩,zD⟩
 refine AE false Z Z (A6 be) Aa<|Aj<|Ai Z<|A4<|Ay<|Ay<|At<|A0<|AO _ [0,0,0,0,1,0,0,0] mixed (by kernel_rfl)<|Ad 2 Z<|Bb Z Aa<|Ak (p:=zP w.heap.size) 2 Ky Z Z Aa<|Ae (p:=An (zP w.heap.size) 2) (.inl Z) (zI (dg:Int)) AC Z (a1.ldp (i:=2) sM) Aa<|Ac 3 Z<|A1 ?_
 exact Af [6,7,8] Z (.tuple #[vo,zI (dg:Int),zI ((0:Nat):Int)]) Z ⟨vo,(by rw[Pq<|KS hRL oM,show GB p f.toNat a=_ from KU (KS hRL oM)] <;> rfl),b1.drew,(by have h:=(ae.up o1).low ad.size;unfold Py;rw[KT<|KS hRL oM];rwa [za oM]at h),hNP,hST⟩
theorem ZJ {p:List Fn}{f:Int}(h:(decide (((0:Nat):Int)≤f) && decide (f≤((p.length:Nat):Int)-1))=false):MS p f=false:=by
  have h':GA f 0 (((p.length:Nat):Int)-1)=false:=h
  unfold MS;rw[h',Bool.false_and]
theorem YP {p:List Fn}{f:Int}(h:(decide (((0:Nat):Int)≤f) && decide (f≤((p.length:Nat):Int)-1))=true){b:Bool}(hb:b=(decide (1≤(p.getD f.toNat Fn.zero).params) && decide ((((p.getD f.toNat Fn.zero).outs.length:Nat):Int)=(p.getD f.toNat Fn.zero).params))):MS p f=b:=by
  have h':GA f 0 (((p.length:Nat):Int)-1)=true:=h
  unfold MS;rw[h',hb,Bool.true_and]
theorem P1 {p:Prop}(h:p:=by first|exact AL (ZJ (DF (by assumption))).symm|exact AL (YP (Ds (by assumption)) (by rw[A5 (show 1≤(p.getD f.toNat Fn.zero).params by omega),Bool.true_and])).symm|exact AL (YP (Ds (by assumption)) (by rw[A6 (show ¬1≤(p.getD f.toNat Fn.zero).params by omega),Bool.false_and])).symm):p:=h
theorem IF {p:Prop}(h:p:=by simp[DQ,DU]):p:=h
theorem Kh (w:World)(dp:Nat)(vp:Value)(p:List Fn)(f:Int)(hp:RN [] (rP (K4 dp)) w.heap vp p)(_hf:Bk f)(hz:Qj p) :
  Calls Tryz.prog 137 #[vp,zI f] w (fun e w'=>e=.returned (.bool (MS p f))∧AF w w'):=by
 refine As [vp,zI f] 43 Tryz.func137 Z Z sM ?_
 have a0:AF w w:=AF.refl w
 refine ZO Z<|A0<|ZN [0,0,0,0,2,0,0,0,0] Z<|Ad 2 Z<|AG (hp.isPtr) Z Aa ?_
 obtain⟨cs1,ab,a2⟩:=RN.at (AR _) hp
 obtain⟨a1,rfl,a3⟩:=RPr.of ab
 have a5:=a3.lenle
 unfold maxLen at a5
 refine AD (p:=vp) 0 BA Z (a2 _<|AA.of_ext [] a0) Aa<|Ae (p:=An vp 0) (.inr Z) a1 C5 Z ((a2 _<|AA.of_ext [] a0).ld (i:=0) IF) Aa<|AP (v:=a1) Fq Z a3.isSl Aa<|Bi ((p.length:Int)-1) Z Z (CT oM oM) Aa<|AB 94 [] [] [zI f,zI ((0:Nat):Int),zI ((p.length:Int)-1)] Z Z E7 Aa (.bool (decide (((0:Nat):Int)≤f) && decide (f≤((p.length:Int)-1)))) (fun wq=>B3 wq _ _ _ _hf oM oM)<|Bd (!(decide (((0:Nat):Int)≤f) && decide (f≤((p.length:Int)-1)))) Z Z Aa<|Aj ?_
 cases a7:(!(decide (((0:Nat):Int)≤f) && decide (f≤((p.length:Int)-1))))
 ·refine Ai (by first|rfl|exact zW a7)<|A2<|A0<|AO _ [0,0,0,1,0,0,0,1,0,0,0,0,0,1,0,0,0,1,0,0,0,0,1,0,0,0,1,0,0,0] mixed (by kernel_rfl) ?_
  have ad:=Hz (Ds (by assumption):(decide (((0:Nat):Int)≤f) && decide (f≤(p.length:Int)-1))=true)
  refine Ad 1 Z<|AG (hp.isPtr) Z Aa<|AD (p:=vp) 0 BA Z (a2 _<|AA.of_ext [] a0.drew) Aa<|Ae (p:=An vp 0) (.inl Z) a1 C5 Z ((a2 _<|AA.of_ext [] a0.drew).ld (i:=0) IF) Aa<|Ad 1 Z<|Au (v:=a1) ((f).toNat) Fq C9 Z Z a3.isSl oM sD Aa ?_
  obtain⟨cs4,ac,a4⟩:=a3.get (Ax dp) Fn.zero (k:=(f).toNat) sD
  obtain⟨a8,rfl,a9⟩:=RF.of ac
  have a6:=a9.rn.lenle
  unfold maxLen at a6
  refine AD (p:=Aw a1 ((f).toNat) 3) 1 Ct Z (a4 _<|AA.of_ext [] a0.drew) Aa<|Ae (p:=An (Aw a1 ((f).toNat) 3) 1) (.inl Z) (zI<|(p.getD ((f).toNat) Fn.zero).params) AC Z ((a4 _<|AA.of_ext [] a0.drew).ld (i:=1) IF) Aa ?_
  by_cases aa:((1:Nat):Int)≤(p.getD ((f).toNat) Fn.zero).params
  ·refine CU true Z Z (A5 aa) Aa<|Ad 2 Z<|AG (hp.isPtr) Z (Ag (e:=23) Z Z Z)<|AD (p:=vp) 0 BA Z (a2 _<|AA.of_ext [] a0.drew) (Ag (e:=23) Z Z Z)<|Ae (p:=An vp 0) (.inl Z) a1 C5 Z ((a2 _<|AA.of_ext [] a0.drew).ld (i:=0) IF) (Ag (e:=23) Z Z Z)<|Ad 1 Z ?_
   refine Au (v:=a1) ((f).toNat) Fq C9 Z Z a3.isSl oM sD (Ag (e:=23) Z Z Z)<|AD (p:=Aw a1 ((f).toNat) 3) 2 BQ Z (a4 _<|AA.of_ext [] a0.drew) (Ag (e:=23) Z Z Z)<|Ae (p:=An (Aw a1 ((f).toNat) 3) 2) (.inl Z) a8 Ba Z ((a4 _<|AA.of_ext [] a0.drew).ld (i:=2) IF) (Ag (e:=23) Z Z Z)<|AP (v:=a8) CB Z a9.rn.isSl (Ag (e:=23) Z Z Z)<|Ad 1 Z ?_
   refine AG (hp.isPtr) Z (Ag (e:=23) Z Z Z)<|AD (p:=vp) 0 BA Z (a2 _<|AA.of_ext [] a0.drew) (Ag (e:=23) Z Z Z)<|Ae (p:=An vp 0) (.inl Z) a1 C5 Z ((a2 _<|AA.of_ext [] a0.drew).ld (i:=0) IF) (Ag (e:=23) Z Z Z)<|Ad 1 Z<|Au (v:=a1) ((f).toNat) Fq C9 Z Z a3.isSl oM sD (Ag (e:=23) Z Z Z) ?_
   refine AD (p:=Aw a1 ((f).toNat) 3) 1 Ct Z (a4 _<|AA.of_ext [] a0.drew) (Ag (e:=23) Z Z Z)<|Ae (p:=An (Aw a1 ((f).toNat) 3) 1) (.inl Z) (zI<|(p.getD ((f).toNat) Fn.zero).params) AC Z ((a4 _<|AA.of_ext [] a0.drew).ld (i:=1) IF) (Ag (e:=23) Z Z Z)<|Ap (decide (((((p.getD ((f).toNat) Fn.zero).outs).length:Nat):Int)=(p.getD ((f).toNat) Fn.zero).params)) Z Z Z (Ag (e:=23) Z Z Z)<|Ac 2 Z<|A1 ?_
   exact Af [4] Z (.bool<|decide (((((p.getD ((f).toNat) Fn.zero).outs).length:Nat):Int)=(p.getD ((f).toNat) Fn.zero).params)) Z ⟨P1,a0.drew⟩
  exact CU false Z Z (A6 aa) Aa<|Ac 21 Z<|A1<|Af [4] Z (.bool false) Z ⟨P1,a0.drew⟩
 exact Ah (by first|rfl|exact zW a7)<|ZO Z<|A1<|Ao<|Af [4] Z (.bool false) Z ⟨P1,a0⟩
theorem JT (w:World)(dp:Nat)(vp:Value)(p:List Fn)(f:Int)(va:Value)(a:Sr)(n:Int)(hp:RN [] (rP (K4 dp)) w.heap vp p)(_hf:Bk f)(ha:Rd (B5 rI) w.heap va a)(_hn:Bk n)(hvp:FY p)(hf:0≤f∧f<(p.length:Int))(hl:(a.length:Int)=(p.getD f.toNat Fn.zero).params)(hna:B9 a=true)(hn:0≤n∧n≤40)(hou:((p.getD f.toNat Fn.zero).outs.length:Int)=(p.getD f.toNat Fn.zero).params) :
  Calls Tryz.prog 82 #[vp,zI f,va,zI n] w (fun e w'=>∃v0:Value,e=.returned (.tuple #[v0,zI (FM p f.toNat a n.toNat)])∧AF w w'∧Fr (Bo (Bo rI 2) 27) w.heap.size w'.heap.size w'.heap v0 (X0 p f.toNat a n.toNat)∧Qu p f.toNat a n.toNat):=by
 refine As [vp,zI f,va,zI n] 43 Tryz.func82 Z Z sM ?_
 have af:AF w w:=AF.refl w
 have bh:=ha.lenle
 have hpar:=hvp.par f.toNat oM
 refine ZN [0,0] Z<|Ac 2 Z<|ZN [0,3,3,0] Z<|Ad 1 Z<|Am 83 [] [] [va] Z Z Lf Aa (BP _ _ _ (ha.ext g1 af) oM) ?_
 rintro e1 w1 ⟨ag,rfl,ad,a5⟩
 refine⟨_,rfl,ad,?_⟩
 have ah:=ad.size
 have ai:=af.trans ad
 refine By (u:=ag) (B:=w.heap.size) o1 Bs AV Z Z a5 ai.size Aa fun v2 w2 aj b8 au=>?_
 have ak:=aj.size
 have av:=ai.trans aj
 refine Ac 1 Z<|A0<|ZO Z<|A3 ?_
 refine AT (S:=Nat×Value) (fun⟨k,vo⟩=>([(10,vo),(11,zI (k:Int)),(0,vp),(1,zI f),(3,zI n)])) (fun⟨k,vo⟩ W=>AF w W∧Fr (Bo (Bo rI 2) 27) w.heap.size W.heap.size W.heap vo (Du (k+1)<|Dp p f.toNat a)∧k≤n.toNat∧FM p f.toNat a k=0∧((Dp p f.toNat a k).length:Int)=(p.getD f.toNat Fn.zero).params∧B9 (Dp p f.toNat a k)=true∧(∀j,j≤k→(Dp p f.toNat a j).length=a.length)) (fun⟨k,vo⟩=>n.toNat-k) (0,v2) ⟨rfl,rfl,rfl,rfl,rfl,trivial⟩ ⟨av,au.up o2,sD,(by rfl),hl,hna,(by intro j hj;rw[show j=0 from by omega];rfl)⟩ ?_
 clear af a5 ad ah ai au b8 aj ak av
 rintro⟨k,vo⟩ ρ3 w3 ⟨a9,a0,aw,hrk,hrl,hrn,hrj⟩
 have b9:w.heap.size≤w3.heap.size:=a9.size
 have hti:=Ck (f:=Dp p f.toNat a) (n:=k+1) (k:=k) [] oM
 have htl:(Du (k+1) (Dp p f.toNat a)).length=k+1:=by simp[Du]
 refine A0<|ZN [0,0,0] Z<|Ad 2 Z ?_
 by_cases ax:(k:Int)<n
 ·refine AE true Z Z (A5 ax) Aa<|Aj<|Ah Z<|A2<|A0<|A3<|ZN [0,0,0,0,0,2,3,0,0,0,0,0,0,0] Z<|Ad 4 Z<|Au (v:=vo) k Bs AV Z Z a0.isSl Z sD Aa ?_
  obtain⟨ay,az,al⟩:=a0.rd2.get (k:=k) [] sD
  have ba:=al.lenle
  refine Ae (p:=Aw vo k 1) (.inr Z) ay AZ Z az Aa<|Am 55 [] [] [vp,zI f,ay] Z Z Zp Aa (LJ _ dp vp (p) _ _ _ (hp.ext (AX<|AR dp) a9) _hf al hvp oM (by rw[hti];exact hrl) (by rw[hti];exact hrn)) ?_
  rintro e6 w6 ⟨a1,rfl,a8,aa,b0,b1⟩
  refine⟨_,rfl,a8,?_⟩
  have bb:=a8.size
  have am:=a9.trans a8
  have a4:=a0.ext (o2) a8
  have a6:=al.ext g1 a8
  have ab:=Bc a8 az
  refine Ad 1 Z<|B7 (vs:=[a1,zI ((Oq p 1 f.toNat (Cq<|(Du (k+1)<|Dp p f.toNat a).getD k []):Nat):Int),zI<|GB p f.toNat<|(Du (k+1)<|Dp p f.toNat a).getD k []]) a1 Z Z Aa<|B7 (vs:=[a1,zI ((Oq p 1 f.toNat (Cq<|(Du (k+1)<|Dp p f.toNat a).getD k []):Nat):Int),zI<|GB p f.toNat<|(Du (k+1)<|Dp p f.toNat a).getD k []]) (zI ((Oq p 1 f.toNat (Cq<|(Du (k+1)<|Dp p f.toNat a).getD k []):Nat):Int)) Z Z Aa<|B7 (vs:=[a1,zI ((Oq p 1 f.toNat (Cq<|(Du (k+1)<|Dp p f.toNat a).getD k []):Nat):Int),zI<|GB p f.toNat<|(Du (k+1)<|Dp p f.toNat a).getD k []]) (zI<|GB p f.toNat<|(Du (k+1)<|Dp p f.toNat a).getD k []) Z Z Aa<|Ac 3 Z<|A0 ?_
  refine ZN [0,0] Z ?_
  have hNX:=‹Qt p f.toNat ((Du (k+1)<|Dp p f.toNat a).getD k [])›
  rw[hti]at hNX
  have hnc:=hNX.code
  have hcd:GB p f.toNat ((Du (k+1) (Dp p f.toNat a)).getD k [])=GB p f.toNat (Dp p f.toNat a k):=by rw[hti]
  refine Ad 1 Z ?_
  by_cases b2:GB p f.toNat ((Du (k+1) (Dp p f.toNat a)).getD k [])≠((0:Nat):Int)
  ·refine AU true Z Z (A5 b2) Aa<|Aj<|Ah Z<|ZN [3,0,0,0] Z (Cp (Bo rI 2) o1 Bs AV Aa fun v9 w9 ae bg bc=>?_)
   have bd:=ae.size
   have be:=am.trans ae
   have b3:=a6.ext g1 ae
   have b4:=Bc ae ab
   refine Ac 3 Z<|A1<|Ao<|AH<|Ao<|Ao<|AH<|Ao ?_
   have hfc:FM p f.toNat a n.toNat=GB p f.toNat (Dp p f.toNat a k):=by rw[J7 (k:=k+1) (by rw[EH hrk];omega) oM,EH hrk]
   exact Af [8,9] Z (.tuple #[v9,zI<|GB p f.toNat<|(Du (k+1)<|Dp p f.toNat a).getD k []]) Z ⟨v9,(by rw[hfc,hti]),be,(by rw[Pz (by rw[hfc];omega)];exact(bc.up o2).low am.size),Qu.err hfc oM hnc⟩
  refine AU false Z Z (A6 b2) Aa<|Aj<|Ai Z<|A2<|Ab _ [0,0,3,4,0] Z<|Ad 2 Z (By (u:=a1) (B:=w3.heap.size) o1 Bs AV Z Z aa (by first|exact A7 _|omega) Aa fun bi bl a2 bf an=>?_)
  have b5:=a2.size
  have a7:=am.trans a2
  have a3:=a4.ext (o2) a2
  have ao:=a6.ext g1 a2
  have b6:=Bc a2 ab
  refine GF o1 (v:=vo) (a:=bi) Bs AV Z Z Z a3 a7.size an oM a9.size sD (by unfold maxLen;first|omega|assumption|(simp;done)|(simp;omega)) Aa fun bj bk bm ac ap aq=>?_
  have ar:AF w bk:=ac.below a7 (fun c hc=>A8 (A7 _) (ap c hc).1) a7.size
  have b7:=ac.size
  refine Ac 1 Z<|Ab _ [0,0,0] Z<|Ad 1 Z<|AQ ((k+1:Nat):Int) Z Z (Be oM oM) Aa<|Ac 1 Z ?_
  exact⟨(k+1,bj),_,rfl,zR,⟨ar,(by have h:=aq.up o2;rw[hti]at h;rw[J0];exact h),sD,(by rw[EH hrk];omega),(by have:=hNX.len oM;show(((Py p f.toNat (Dp p f.toNat a k)).length:Nat):Int)=_;omega),hNX.num,(by intro j hj;by_cases e9:j≤k;(exact hrj j e9);(rw[show j=k+1 from by omega];have:=hNX.len oM;show(Py p f.toNat (Dp p f.toNat a k)).length=_;omega))⟩,zD⟩
 refine AE false Z Z (A6 ax) Aa<|Aj<|Ai Z<|A4<|Ay<|Ay<|At<|ZN [0,0,0] Z<|Ac 3 Z<|A1 ?_
 have hke:k=n.toNat:=by omega
 exact Af [8,9] Z (.tuple #[vo,zI ((0:Nat):Int)]) Z ⟨vo,(by rw[← hke,hrk];rfl),a9,(by have h:=a0.up o2;rw[← hke,L5 hrk];exact h),Qu.ok (by rw[← hke];exact hrk) (by rw[← hke];exact hrj)⟩
end
end Go.Proofs.YtjnbnlniafmblaaGreat
