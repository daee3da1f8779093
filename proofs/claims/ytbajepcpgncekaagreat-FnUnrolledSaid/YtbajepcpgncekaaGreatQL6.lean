/- Yz: texts of this claim, joined; what the claim does not come to is left out. -/
import Derived.Test.YtbajepcpgncekaaGreatQL5
import Derived.Test.YtbajepcpgncekaaGreatProg
set_option linter.unusedVariables false
set_option linter.unusedSimpArgs false
namespace Go.Proofs.YtbajepcpgncekaaGreat
open Go Go.RowKit
section
set_option maxHeartbeats 4000000
set_option maxRecDepth 100000
attribute [local irreducible] LW
theorem V8 {p:Prop}(h:p:=by first|rfl|exact AP (A5 hbk)):p:=h
theorem K7 (w:World)(vc:Value)(cs:List UInt8)(vd:Value)(ds:List UInt8)(hcs:Rd (Bd rU) w.heap vc cs)(hds:Rd (Bd rU) w.heap vd ds)  :
  Calls Tryz.prog 9 #[vc,vd] w (fun e w'=>e=.returned (.bool true)∧AD w w'):=by
 refine Au [vc,vd] 163 Tryz.func9 Z Z sM ?_
 have k5:AD w w:=AD.refl w
 have dm:=hcs.lenle
 have dp:=hds.lenle
 refine fE Z<|A0<|fC [0,3,0,0,3,0] Z<|Ad 1 Z<|At 41 [] [] [vc] Z Z aY Aa (K6 _ _ _<|hcs.ext Dx k5) ?_
 rintro e1 w1 ⟨rfl,ig⟩
 refine⟨_,rfl,ig,?_⟩
 have l1:=ig.size
 have ih:=k5.trans ig
 refine Ad 1 Z ?_
 cases k6:(decide (((4096:Nat):Int)<(cs.length:Int)))
 ·have l2:=of_decide_eq_false k6
  refine Ad 1 Z<|At 41 [] [] [vd] Z Z aY (Ae (e:=31) Z Z Z) (K6 _ _ _<|hds.ext Dx ih) ?_
  rintro e4 w4 ⟨rfl,ii⟩
  refine⟨_,rfl,ii,?_⟩
  have l3:=ii.size
  have ij:=ih.trans ii
  refine Ac 1 Z ?_
  cases i2:(decide (((4096:Nat):Int)<(ds.length:Int)))
  ·have l4:=of_decide_eq_false i2
   refine Aj (by first|rfl|exact zW i2)<|A2<|fC [0,3,0,0,0,0,0,3,4,0,0,0] Z<|Ad 1 Z<|At 42 [] [] [vc] Z Z f5 Aa (L2 _ vc _<|hcs.ext Dx ij) ?_
   rintro e7 w7 ⟨vD,vaD,vbD,pD,fD,aD,bD,rfl,ik,hOD,haD,hbD,hRD⟩
   refine⟨_,rfl,ik,?_⟩
   have l5:=ik.size
   have l6:=ij.trans ik
   have hfe:=hRD.fe
   have hlc:=hRD.len
   have hpa:=hRD.par
   have hsq:=hRD.sq
   have hla:=hRD.la
   have hlb:=hRD.lb
   have e9:=CM hRD.dr.ok
   have hct:=aP (ws:=bD) hRD.dr.ok oM ⟨hpa.1,hsq⟩ hla hlb
   refine Ad 1 Z<|AO (vs:=[.agg #[vD],zI fD,vaD,vbD]) (.agg #[vD]) Z Z Aa<|AO (vs:=[.agg #[vD],zI fD,vaD,vbD]) (zI fD) Z Z Aa<|AO (vs:=[.agg #[vD],zI fD,vaD,vbD]) vaD Z Z Aa<|AO (vs:=[.agg #[vD],zI fD,vaD,vbD]) vbD Z Z Aa (AU (z:=.agg #[zN]) IJ Aa fun w8 g5 ly il=>?_)
   have l7:=g5.size
   have k7:=l6.trans g5
   have ep:=hOD.ext (Ak<|Am 153 6) g5
   have g6:=haD.ext (o1) g5
   have g7:=hbD.ext (o1) g5
   replace il:BX w8.heap w7.heap.size [zN]:=il
   refine B2 (vs:=[vD]) Ba Z Z (by intro u hu;simp only[ze,z2,or_false]at hu;rcases hu with rfl <;> first|exact⟨rfl,rfl⟩|exact AV ep.isSlS) il Z Z Aa fun w9 g8 lz im=>?_
   replace im:BX w9.heap w7.heap.size [vD]:=im
   have l8:w8.heap.size≤w9.heap.size:=g8.size
   have k8:AD w w9:=g8.below k7 (fun _ h=>zE h) k7.size
   have io:=ep.chg (Ak<|Am 153 6) g8 fun _ h=>zA h
   have ip:=g6.chg (o1) g8 fun _ h=>zA h
   have iq:=g7.chg (o1) g8 fun _ h=>zA h
   refine Ac 3 Z<|fC [0,3,0] Z<|Ad 1 Z<|At 43 [] [] [vd,zI ((9:Nat):Int)] Z Z f6 Aa (Mz _ _ _ _ (hds.ext Dx k8) oM oM) ?_
   rintro ec ea ⟨c5,rfl,ao,ir⟩
   refine⟨_,rfl,ao,?_⟩
   have k9:=ao.size
   have is:=k8.trans ao
   have au:=io.ext (Ak<|Am 153 6) ao
   have c7:=ip.ext (o1) ao
   have c8:=iq.ext (o1) ao
   have br:=im.ext ao
   refine Ac 1 Z<|fC [2,0,0,3,0,0,0,3,4,0] Z ?_
   generalize hg_nn:c5=nnI at *
   obtain⟨nn,rfl⟩:∃n:Nat,nnI=(n:Int):=⟨nnI.toNat,zO⟩
   refine AF (p:=zP w7.heap.size) (.inr Z) [vD] Ba Z (fun bx af=>LD.of_box<|BX.ext (w:=ea) br af) Z Aa<|Ad 2 Z<|At 51 [] [] [.agg #[vD],zI fD,zI (nn:Int)] Z Z fa Aa (L3 _ 6 vD (pD) (fD) (nn:Int) (RN.of_frF au fun b hb=>by cases hb) oM oM hRD.dr.szp oM) ?_
   rintro ed d5 ⟨c1,rfl,ap,it⟩
   refine⟨_,rfl,ap,?_⟩
   have ka:=ap.size
   have iu:=is.trans ap
   have c9:=au.ext (Ak<|Am 153 6) ap
   have ca:=c7.ext (o1) ap
   have cb:=c8.ext (o1) ap
   have bs:=br.ext ap
   have kb:=Rq (p:=pD) (f:=fD) (n:=(nn:Int))
   refine Ad 1 Z<|AO (vs:=[.agg #[c1],zI<|H0 pD fD (nn:Int)]) (.agg #[c1]) Z Z Aa<|AO (vs:=[.agg #[c1],zI<|H0 pD fD (nn:Int)]) (zI<|H0 pD fD (nn:Int)) Z Z Aa ?_
   have l9:=bs.lt
   refine AU (z:=.agg #[zN]) IJ Aa fun dv aq lc et=>?_
   have kc:=aq.size
   have g9:=iu.trans aq
   have cc:=c9.ext (Ak<|Am 153 6) aq
   have cd:=ca.ext (o1) aq
   have ce:=cb.ext (o1) aq
   have eu:=bs.ext aq
   have av:=it.ext (Ak<|Am 153 6) aq
   replace et:BX dv.heap d5.heap.size [zN]:=et
   refine B2 (vs:=[c1]) Ba Z Z (by intro u hu;simp only[ze,z2,or_false]at hu;rcases hu with rfl <;> first|exact⟨rfl,rfl⟩|exact AV av.isSlS) et Z Z Aa fun ct ar ld ev=>?_
   replace ev:BX ct.heap d5.heap.size [c1]:=ev
   have kd:dv.heap.size≤ct.heap.size:=ar.size
   have iv:AD w ct:=ar.below g9 (fun _ h=>zE h) g9.size
   have ga:=cc.chg (Ak<|Am 153 6) ar fun _ h=>zA h
   have iw:=cd.chg (o1) ar fun _ h=>zA h
   have ix:=ce.chg (o1) ar fun _ h=>zA h
   have gb:=eu.chg ar (zB ·)
   have iy:=av.chg (Ak<|Am 153 6) ar fun _ h=>zA h
   refine Ac 1 Z<|fC [2,0,0,3,0,0,0,3,4,0] Z<|AF (p:=zP w7.heap.size) (.inr Z) [vD] Ba Z (fun bx af=>LD.of_box<|BX.ext (w:=ct) gb af) Z Aa<|Ad 2 Z<|At 52 [] [] [.agg #[vD],zI fD,zI (nn:Int)] Z Z fb Aa (L4 _ 6 vD (pD) (fD) (nn:Int) (RN.of_frF ga fun b hb=>by cases hb) oM oM hRD.dr.szp oM) ?_
   rintro ee c2 ⟨bo,rfl,ag,iz⟩
   refine⟨_,rfl,ag,?_⟩
   have ke:=ag.size
   have j0:=iv.trans ag
   have cf:=ga.ext (Ak<|Am 153 6) ag
   have cg:=iw.ext (o1) ag
   have ci:=ix.ext (o1) ag
   have aw:=gb.ext ag
   have cj:=iy.ext (Ak<|Am 153 6) ag
   have ax:=ev.ext ag
   have kf:=Rq (p:=pD) (f:=fD) (n:=(nn:Int))
   refine Ad 1 Z<|AO (vs:=[.agg #[bo],zI<|H0 pD fD (nn:Int)]) (.agg #[bo]) Z Z Aa<|AO (vs:=[.agg #[bo],zI<|H0 pD fD (nn:Int)]) (zI<|H0 pD fD (nn:Int)) Z Z Aa ?_
   have le:=aw.lt
   have lf:=ax.lt
   refine AU (z:=.agg #[zN]) IJ Aa fun dw ah lg ew=>?_
   have kg:=ah.size
   have gc:=j0.trans ah
   have ck:=cf.ext (Ak<|Am 153 6) ah
   have cl:=cg.ext (o1) ah
   have cm:=ci.ext (o1) ah
   have cn:=aw.ext ah
   have co:=cj.ext (Ak<|Am 153 6) ah
   have cp:=ax.ext ah
   have ay:=iz.ext (Ak<|Am 153 6) ah
   replace ew:BX dw.heap c2.heap.size [zN]:=ew
   refine B2 (vs:=[bo]) Ba Z Z (by intro u hu;simp only[ze,z2,or_false]at hu;rcases hu with rfl <;> first|exact⟨rfl,rfl⟩|exact AV ay.isSlS) ew Z Z Aa fun cz ai lh cq=>?_
   replace cq:BX cz.heap c2.heap.size [bo]:=cq
   have kh:dw.heap.size≤cz.heap.size:=ai.size
   have j1:AD w cz:=ai.below gc (fun _ h=>zE h) gc.size
   have j2:=ck.chg (Ak<|Am 153 6) ai fun _ h=>zA h
   have j3:=cl.chg (o1) ai fun _ h=>zA h
   have j4:=cm.chg (o1) ai fun _ h=>zA h
   have j5:=cn.chg ai (zB ·)
   have gd:=co.chg (Ak<|Am 153 6) ai fun _ h=>zA h
   have ge:=cp.chg ai (zB ·)
   have gf:=ay.chg (Ak<|Am 153 6) ai fun _ h=>zA h
   refine Ac 1 Z<|A0<|fC [0,0,0,0,2,2,3,0,0] Z<|Ad 2 Z<|AT false Z Z sM Aa<|Ad 1 Z<|AF (p:=zP d5.heap.size) (.inr Z) [c1] Ba Z (fun bx af=>LD.of_box<|BX.ext (w:=cz) ge af) Z (Ae (e:=61) Z Z Z)<|AF (p:=zP c2.heap.size) (.inr Z) [bo] Ba Z (fun bx af=>LD.of_box<|BX.ext (w:=cz) cq af) Z (Ae (e:=61) Z Z Z)<|At 53 [] [] [.agg #[c1],.agg #[bo]] Z Z fc (Ae (e:=61) Z Z Z) (JB _ 6 c1 (ZG pD fD (nn:Int)) 6 bo (ZG pD fD (nn:Int)) (RN.of_frF gd fun b hb=>by cases hb) (RN.of_frF gf fun b hb=>by cases hb) (by rfl)) ?_
   rintro ef d9 ⟨rfl,aa⟩
   refine⟨_,rfl,aa,?_⟩
   have ki:=aa.size
   have gg:=j1.trans aa
   have az:=j2.ext (Ak<|Am 153 6) aa
   have b0:=j3.ext (o1) aa
   have cr:=j4.ext (o1) aa
   have b1:=j5.ext aa
   have cu:=ge.ext aa
   have cv:=gf.ext (Ak<|Am 153 6) aa
   have b2:=cq.ext aa
   refine Bq false Z Z (Ae (e:=61) Z Z Z)<|Ac 1 Z<|Aj Z<|A2<|A0<|fC [0,0] Z<|Ad 1 Z ?_
   by_cases gh:(H0 pD fD (nn:Int))≠((0:Nat):Int)
   ·exact AT true Z Z (A5 gh) Aa<|Ai<|Af Z<|fE Z<|A1<|Ao<|Ah [4] Z (.bool true) Z ⟨V8,gg⟩
   refine AT false Z Z (A6 gh) Aa<|Ai<|Aj Z<|A2<|fC [0,2,0,0] Z ?_
   have kj:H0 pD fD (nn:Int)=0:=by omega
   have hwl:=aS kj
   have hwa:=Ru hwl.1
   have eq:Fr (CA 3 (KH 153 6) 49) ct.heap.size c2.heap.size d9.heap bo (DY pD fD (nn:Int)):=by rw[← Rr kj];exact cv
   have hokx:=hwl.2.2
   have hvx:=CM hokx
   have hszx:=hRD.dr.szp.lp (n:=(nn:Int)) e9 (f:=fD) oM
   have hlx:=O0 (p:=pD) (f:=fD) (n:=(nn:Int))
   have hpx:((DY pD fD (nn:Int)).getD (pD.length:Int).toNat Fn.zero).params=(pD.getD fD.toNat Fn.zero).params:=by rw[Int.toNat_natCast,M7];rfl
   have hox:((DY pD fD (nn:Int)).getD (pD.length:Int).toNat Fn.zero).outs.length=(pD.getD fD.toNat Fn.zero).outs.length:=by rw[Int.toNat_natCast,M7];exact Dl ..
   have har:=aC (p:=DY pD fD (nn:Int)) (f:=(pD.length:Int)) (a:=aD) hokx ⟨zO,zO⟩ (by rw[hpx];exact hla.1) hla.2
   refine Al (p:=zP w7.heap.size) 0 B8 Z Z Aa<|Ag (p:=Ap (zP w7.heap.size) 0) (.inr Z) vD Bt Z (b1.ldp (i:=0) sM) Aa<|AS (v:=vD) Du Z az.isSlS Aa<|Ac 1 Z<|fC [2,0,0,3,0,0,0,0,0,0,0] Z<|AF (p:=zP c2.heap.size) (.inr Z) [bo] Ba Z (fun bx af=>LD.of_box<|BX.ext (w:=d9) b2 af) Z Aa<|Ad 2 Z<|At 54 [] [] [.agg #[bo],zI (pD.length:Int),vaD] Z Z fd Aa (L1 _ 6 bo (DY pD fD (nn:Int)) _ _ _ (RN.of_frF eq fun b hb=>by cases hb) oM b0.rd1 hszx) ?_
   rintro eg e2 ⟨ab,rfl,ac,ex⟩
   refine⟨_,rfl,ac,?_⟩
   have kk:=ac.size
   have j6:=gg.trans ac
   have cw:=az.ext (Ak<|Am 153 6) ac
   have b3:=b0.ext (o1) ac
   have cx:=cr.ext (o1) ac
   have cy:=b1.ext ac
   have d0:=cu.ext ac
   have aj:=eq.ext (Ak<|Am 153 6) ac
   have b4:=b2.ext ac
   refine Ad 1 Z<|AO (vs:=[ab,zI ((Si (DY pD fD (nn:Int)) (pD.length:Int) aD:Nat):Int),zI<|Sa (DY pD fD (nn:Int)) (pD.length:Int) aD]) ab Z Z Aa<|AO (vs:=[ab,zI ((Si (DY pD fD (nn:Int)) (pD.length:Int) aD:Nat):Int),zI<|Sa (DY pD fD (nn:Int)) (pD.length:Int) aD]) (zI ((Si (DY pD fD (nn:Int)) (pD.length:Int) aD:Nat):Int)) Z Z Aa<|AO (vs:=[ab,zI ((Si (DY pD fD (nn:Int)) (pD.length:Int) aD:Nat):Int),zI<|Sa (DY pD fD (nn:Int)) (pD.length:Int) aD]) (zI<|Sa (DY pD fD (nn:Int)) (pD.length:Int) aD) Z Z Aa<|Ac 3 Z ?_
   refine fC [2,0,0,3,0,0,0,0,0,0,0] Z<|AF (p:=zP c2.heap.size) (.inr Z) [bo] Ba Z (fun bx af=>LD.of_box<|BX.ext (w:=e2) b4 af) Z Aa<|Ad 2 Z<|At 28 [] [] [.agg #[bo],zI (pD.length:Int),vaD] Z Z f4 Aa (KZ _ 6 bo (DY pD fD (nn:Int)) _ _ _ (RN.of_frF aj fun b hb=>by cases hb) oM b3.rd1 hszx) ?_
   rintro eh ei ⟨ak,rfl,a9,bt⟩
   refine⟨_,rfl,a9,?_⟩
   have kl:=a9.size
   have j7:=j6.trans a9
   have d1:=cw.ext (Ak<|Am 153 6) a9
   have d2:=b3.ext (o1) a9
   have d3:=cx.ext (o1) a9
   have d4:=cy.ext a9
   have d6:=d0.ext a9
   have bu:=aj.ext (Ak<|Am 153 6) a9
   have d7:=b4.ext a9
   have ae:=ex.ext (o1) a9
   refine Ad 1 Z<|AO (vs:=[ak,zI ((Si (DY pD fD (nn:Int)) (pD.length:Int) aD:Nat):Int),zI<|Sa (DY pD fD (nn:Int)) (pD.length:Int) aD]) ak Z Z Aa<|AO (vs:=[ak,zI ((Si (DY pD fD (nn:Int)) (pD.length:Int) aD:Nat):Int),zI<|Sa (DY pD fD (nn:Int)) (pD.length:Int) aD]) (zI ((Si (DY pD fD (nn:Int)) (pD.length:Int) aD:Nat):Int)) Z Z Aa<|AO (vs:=[ak,zI ((Si (DY pD fD (nn:Int)) (pD.length:Int) aD:Nat):Int),zI<|Sa (DY pD fD (nn:Int)) (pD.length:Int) aD]) (zI<|Sa (DY pD fD (nn:Int)) (pD.length:Int) aD) Z Z Aa<|Ac 3 Z ?_
   refine A0<|fC [0,0,0,0,0,0,3,0,0] Z<|Ad 2 Z<|AT false Z Z sM Aa<|Ad 3 Z<|At 48 [] [] [ab,ak] Z Z Zp (Ae (e:=91) Z Z Z) (GH _ _ _ _ _ ae.rd1 bt.rd1) ?_
   rintro ej dg ⟨rfl,a7⟩
   refine⟨_,rfl,a7,?_⟩
   have km:=a7.size
   have gi:=j7.trans a7
   have b5:=d1.ext (Ak<|Am 153 6) a7
   have b6:=d2.ext (o1) a7
   have d8:=d3.ext (o1) a7
   have b7:=d4.ext a7
   have da:=d6.ext a7
   have bv:=bu.ext (Ak<|Am 153 6) a7
   have db:=d7.ext a7
   have bk:=ae.ext (o1) a7
   rw[show(decide ((ZF (DY pD fD (nn:Int)) (pD.length:Int) aD)=(ZF (DY pD fD (nn:Int)) (pD.length:Int) aD)))=true from A5 rfl]
   refine Bq false Z Z (Ae (e:=91) Z Z Z)<|Ac 1 Z<|Aj Z<|A2<|A0<|fC [0,0] Z<|Ad 1 Z ?_
   by_cases gj:Sa (DY pD fD (nn:Int)) (pD.length:Int) aD≠((0:Nat):Int)
   ·exact AT true Z Z (A5 gj) Aa<|Ai<|Af Z<|fE Z<|A1<|Ao<|Ah [4] Z (.bool true) Z ⟨V8,gi⟩
   refine AT false Z Z (A6 gj) Aa<|Ai<|Aj Z<|A2<|fC [2,0,0,0,3,0,0,0,0,0] Z ?_
   have hzx:FS (DY pD fD (nn:Int)) (pD.length:Int).toNat aD=0:=by rw[← R5 har];omega
   have hLp:X3 pD fD (nn:Int) aD:=⟨hRD.dr.ok,hokx,⟨zO,zO⟩,hsq,hpa.1,hla.1,hla.2,by rw[Int.toNat_natCast]at hzx;exact hzx⟩
   have hch:=hLp.ch
   rw[Int.toNat_natCast]at hch
   obtain⟨hCh,hnxr⟩:=hch
   have hrk:=hCh.k
   have gk:Fr (BA rI 2) d9.heap.size e2.heap.size dg.heap ab (DJ pD fD.toNat aD nn):=by have h:=bk;rw[KO har,Int.toNat_natCast,hnxr]at h;exact h
   refine AF (p:=zP w7.heap.size) (.inr Z) [vD] Ba Z (fun bx af=>LD.of_box<|BX.ext (w:=dg) b7 af) Z Aa<|Ad 3 Z<|At 44 [] [] [.agg #[vD],zI fD,vaD,zI (nn:Int)] Z Z f7 Aa (Jl _ 6 vD (pD) _ _ _ _ (RN.of_frF b5 fun b hb=>by cases hb) oM b6.rd1 oM hRD.dr.szp) ?_
   rintro ek e3 ⟨ad,rfl,a8,ey,j8,j9⟩
   refine⟨_,rfl,a8,?_⟩
   have kn:=a8.size
   have ja:=gi.trans a8
   have dc:=b5.ext (Ak<|Am 153 6) a8
   have dd:=b6.ext (o1) a8
   have de:=d8.ext (o1) a8
   have df:=b7.ext a8
   have dh:=da.ext a8
   have bw:=bv.ext (Ak<|Am 153 6) a8
   have di:=db.ext a8
   have al:=gk.ext (o1) a8
   refine Ad 1 Z<|AO (vs:=[ad,zI<|TC pD fD aD (nn:Int)]) ad Z Z Aa<|AO (vs:=[ad,zI<|TC pD fD aD (nn:Int)]) (zI<|TC pD fD aD (nn:Int)) Z Z Aa<|Ac 2 Z<|A0<|fC [0,0,0,0,0,0,0,0,0,0,0,0,0,2,0,3,0,0] Z ?_
   have hrd:=aQ (p:=pD) (f:=fD) (n:=(nn:Int)) hct.2 oM
   have hrc:=TF hrd
   rw[Int.toNat_natCast]at hrc
   have b8:Fr (BA (BA rI 2) 27) dg.heap.size e3.heap.size e3.heap ad (EB (nn+1) (DJ pD fD.toNat aD)):=by have h:=ey;rw[OY hrd,Int.toNat_natCast,Nh hrk]at h;exact h
   have htl:(EB (nn+1) (DJ pD fD.toNat aD)).length=nn+1:=by simp[EB]
   refine Ad 1 Z ?_
   have jb:¬(TC pD fD aD (nn:Int)≠((0:Nat):Int)):=oM
   refine AT false Z Z (A6 jb) Aa<|Ad 2 Z<|AS (v:=ad) Cb Z b8.isSl (Ae (e:=109) Z Z Z)<|Ad 1 Z ?_
   refine AR ((nn:Int)+((1:Nat):Int)) Z Z (DH sD sD) (Ae (e:=109) Z Z Z) ?_
   have jc:¬((((EB (nn+1) (DJ pD fD.toNat aD)).length:Nat):Int)≠(nn:Int)+((1:Nat):Int)):=oM
   refine AT false Z Z (A6 jc) (Ae (e:=109) Z Z Z)<|Ad 4 Z<|AE (v:=ad) nn Cb Bo Z Z b8.isSl Z oM (Ae (e:=116) Z Z Z) ?_
   obtain⟨gl,gm,ez⟩:=b8.rd2.get (k:=nn) [] oM
   have ko:=ez.lenle
   refine Ag (p:=AA ad nn 1) (.inr Z) gl Bx Z gm (Ae (e:=116) Z Z Z)<|Ad 1 Z<|At 48 [] [] [gl,ab] Z Z Zp (Ae (e:=116) Z Z Z) (GH _ _ _ _ _ ez al.rd1) ?_
   rintro el eb ⟨rfl,a3⟩
   refine⟨_,rfl,a3,?_⟩
   have kp:=a3.size
   have jd:=ja.trans a3
   have dj:=dc.ext (Ak<|Am 153 6) a3
   have b9:=dd.ext (o1) a3
   have dk:=de.ext (o1) a3
   have dl:=df.ext a3
   have dn:=dh.ext a3
   have am:=bw.ext (Ak<|Am 153 6) a3
   have ba:=di.ext a3
   have gn:=Bp a3 gm
   rw[show(decide (((EB (nn+1) (DJ pD fD.toNat aD)).getD nn [])=(DJ pD fD.toNat aD nn)))=true from A5 (by rw[CE [] oM])]
   refine Bq false Z Z (Ae (e:=116) Z Z Z)<|Ac 1 Z<|Aj Z<|A2<|fC [2,0,0,3,0,0,0,3,4,0] Z<|AF (p:=zP c2.heap.size) (.inr Z) [bo] Ba Z (fun bx af=>LD.of_box<|BX.ext (w:=eb) ba af) Z Aa<|Ad 2 Z<|At 29 [] [] [.agg #[bo],zI (pD.length:Int),vaD] Z Z aW Aa (IV _ 6 bo (DY pD fD (nn:Int)) (pD.length:Int) vaD aD (RN.of_frF am fun b hb=>by cases hb) oM (RN.of_fr1 b9 fun b hb=>absurd hb z2) hokx hszx oM oM hla.2) ?_
   rintro em bz ⟨i50,bl,bm,bn,bp,c3,en,c4,rfl,a4,er,kq,go,gp,gq⟩
   refine⟨_,rfl,a4,?_⟩
   have kr:=a4.size
   have je:=jd.trans a4
   have dq:=dj.ext (Ak<|Am 153 6) a4
   have dt:=b9.ext (o1) a4
   have du:=dk.ext (o1) a4
   have bb:=dl.ext a4
   have bc:=dn.ext a4
   have bd:=ba.ext a4
   have gr:=Bp a4 gn
   have ks:FS (DY pD fD (nn:Int)) (pD.length:Int).toNat aD=c4:=LT (A7 1) hvx oM hla.2 (IC (C1 hla.2) (Dh _)) oM er
   have gs:=AD.refl bz
   refine Ad 1 Z<|AO (vs:=[.agg #[zI i50,bl,bm,bn],zI c4]) (.agg #[zI i50,bl,bm,bn]) Z Z Aa<|AO (vs:=[.agg #[zI i50,bl,bm,bn],zI c4]) (zI c4) Z Z Aa ?_
   have li:=bb.lt
   have lj:=bc.lt
   have lk:=bd.lt
   refine AU (z:=.agg #[zI 0,zN,zN,zN]) Zt Aa fun e5 a5 ll g0=>?_
   have kt:=a5.size
   have gt:=je.trans a5
   have jf:=gs.trans a5
   have dx:=dq.ext (Ak<|Am 153 6) a5
   have dy:=dt.ext (o1) a5
   have dz:=du.ext (o1) a5
   have e0:=bb.ext a5
   have ku:=Bp a5 gr
   replace g0:BX e5.heap bz.heap.size [zI 0,zN,zN,zN]:=g0
   refine B2 (vs:=[zI i50,bl,bm,bn]) Fh Z Z (fun u hu=>by rcases ze.1 hu with rfl|hu;exact⟨rfl,rfl⟩;exact go u hu) g0 Z Z Aa fun c0 a6 lm g2=>?_
   replace g2:BX c0.heap bz.heap.size [zI i50,bl,bm,bn]:=g2
   have kv:e5.heap.size≤c0.heap.size:=a6.size
   have jg:AD w c0:=a6.below gt (fun _ h=>zE h) gt.size
   have jh:=dx.chg (Ak<|Am 153 6) a6 fun _ h=>zA h
   have gu:=dy.chg (o1) a6 fun _ h=>zA h
   have gv:=dz.chg (o1) a6 fun _ h=>zA h
   have ji:=e0.chg a6 (zB ·)
   have c6:Ax [bz.heap.size] bz c0:=(Ax.of_ext _ jf).trans a6
   have be:=AD.refl c0
   refine Ac 1 Z<|fC [2,0,0,3,0,0,0,0,0] Z ?_
   have gw:c4=0:=by omega
   obtain⟨m0,hTB,ln,hxl,hEn,lo,lq,lr⟩:=gq gw
   have gx:=er
   rw[gw]at gx
   have hRc:Jg (DY pD fD (nn:Int)) (pD.length:Int).toNat aD bp c3:=⟨hvx,zO,zO,hla.2,_,gx⟩
   have hTR:=hRc.tpr hTB ln
   have gy:RN [] (E1 4 ON) c0.heap bl c3.code:=RN.ext (An Be) (RN.none (RN.chg (An Be) (RG.rnG (g:=bz.heap.size) (An Be) lo oM) c6)) be
   have gz:RN [] (E1 2 OO) c0.heap bm c3.grd:=RN.ext (An Bj) (RN.none (RN.chg (An Bj) (RG.rnG (g:=bz.heap.size) (An Bj) lq oM) c6)) be
   have i0:RN [] (Bd rI) c0.heap bn bp:=RN.ext g1 (RN.none (RN.chg g1 (RG.rnG (g:=bz.heap.size) g1 lr oM) c6)) be
   have hxw:bD.length=bp.length:=by omega
   have hRb:=hRc
   rw[Int.toNat_natCast]at hRb
   have hbk:Eg (MI 2 c3 bp bD (Fe aD aD 2))=(Oq pD fD.toNat aD nn bD):=by have h9:=hLp.back (ws:=bD) oM hlb.2 hRb;rw[Int.toNat_natCast]at h9;rw[hRb.bkR (by decide) (DK hla.2 hla.2) (DX _ _)];exact h9
   refine AF (p:=zP bz.heap.size) (.inr Z) [zI i50,bl,bm,bn] Fh Z (fun bx af=>LD.of_box<|BX.ext (w:=c0) g2 af) Z Aa<|Ad 2 Z<|At 31 [] [] [.agg #[zI i50,bl,bm,bn],vaD,vbD] Z Z aX Aa (G5 _ (i50) bl bm bn (c3) (bp) _ _ _ _ gp gy gz i0 gu.rd1 gv.rd1 oM hTR (by exact⟨hxw,hlb.2⟩)) ?_
   rintro eo e6 ⟨bf,rfl,a2,g3⟩
   refine⟨_,rfl,a2,?_⟩
   have kw:=a2.size
   have jq:=jg.trans a2
   have bg:=jh.ext (Ak<|Am 153 6) a2
   have bh:=gu.ext (o1) a2
   have bi:=gv.ext (o1) a2
   have bj:=ji.ext a2
   refine Ad 1 Z<|AO (vs:=[bf,zI 0]) bf Z Z Aa<|AO (vs:=[bf,zI 0]) (zI 0) Z Z Aa<|Ac 2 Z<|fC [2,0,0,0,0,3,0,0,0,0,0] Z<|AF (p:=zP w7.heap.size) (.inr Z) [vD] Ba Z (fun bx af=>LD.of_box<|BX.ext (w:=e6) bj af) Z Aa<|Ad 4 Z<|At 47 [] [] [.agg #[vD],zI fD,vaD,vbD,zI (nn:Int)] Z Z f8 Aa (In _ 6 vD (pD) _ _ _ _ _ _ (RN.of_frF bg fun b hb=>by cases hb) oM bh.rd1 bi.rd1 oM hRD.dr.szp) ?_
   rintro f1 e8 ⟨an,rfl,a0,g4,jv⟩
   refine⟨_,rfl,a0,?_⟩
   have kx:=a0.size
   have jw:=jq.trans a0
   have bq:=g3.ext (o1) a0
   refine Ad 1 Z<|AO (vs:=[an,zI<|Jh pD fD aD bD (nn:Int)]) an Z Z Aa<|AO (vs:=[an,zI<|Jh pD fD aD bD (nn:Int)]) (zI<|Jh pD fD aD bD (nn:Int)) Z Z Aa<|Ac 2 Z<|fC [0,0,0,0,0,0,0,0,0,0,0,0,0,3,0,0] Z ?_
   have hgc:=I7<|PW (p:=pD) (f:=fD) (n:=(nn:Int)) hct.1<|BH.2 ⟨zO,zO⟩
   rw[Int.toNat_natCast]at hgc
   have ls:Jh pD fD aD bD (nn:Int)=0:=by omega
   have es:Fr (BA rI 2) e6.heap.size e8.heap.size e8.heap an (Oq pD fD.toNat aD nn bD):=by have h:=g4;rw[NZ ls]at h;simp only[Int.toNat_natCast]at h;exact h
   refine Ad 1 Z ?_
   have k1:c4=((0:Nat):Int):=oM
   refine As true Z Z (A5 k1) Aa<|Ad 2 Z ?_
   have k2:0=((0:Nat):Int):=rfl
   refine As true Z Z (A5 k2) (Ae (e:=150) Z Z Z)<|Ad 3 Z ?_
   have k3:Jh pD fD aD bD (nn:Int)=((0:Nat):Int):=oM
   refine As true Z Z (A5 k3) (Ae (e:=154) Z Z Z)<|Ad 4 Z<|At 48 [] [] [bf,an] Z Z Zp (Ae (e:=158) Z Z Z) (GH _ _ _ _ _ bq.rd1 es.rd1) ?_
   rintro f2 f3 ⟨rfl,a1⟩
   refine⟨_,rfl,a1,?_⟩
   have ky:=a1.size
   have k4:=jw.trans a1
   exact Ac 2 Z<|A1<|Ah [4] Z (.bool<|decide ((Eg<|MI 2 c3 bp bD<|Fe aD aD 2)=(Oq pD fD.toNat aD nn bD))) Z ⟨V8,k4⟩
  have kz:=of_decide_eq_true i2
  exact Af (by first|rfl|exact zW i2)<|fE Z<|A1<|Ao<|Ah [4] Z (.bool true) Z ⟨V8,ij⟩
 have l0:=of_decide_eq_true k6
 exact Ac 3 Z<|Af Z<|fE Z<|A1<|Ao<|Ah [4] Z (.bool true) Z ⟨V8,ih⟩
end
end Go.Proofs.YtbajepcpgncekaaGreat
