/- Yv: texts of this claim, joined; what the claim does not come to is left out. -/
import Derived.Test.YtbajepcpgncekaaGreatQJ5
import Derived.Test.YtbajepcpgncekaaGreatProg
set_option linter.unusedVariables false
set_option linter.unusedSimpArgs false
namespace Go.Proofs.YtbajepcpgncekaaGreat
open Go Go.RowKit
section
set_option maxHeartbeats 4000000
set_option maxRecDepth 100000
attribute [local irreducible] LW
theorem UN {p:Prop}(h:p:=by first|rfl|exact AI (A5 oM)):p:=h
theorem Oi {p:Prop}(h:p:=by exact hRD.dr.szp):p:=h
theorem HL (w:World)(vc:Value)(cs:List UInt8)(vd:Value)(ds:List UInt8)(hcs:Rd (B3 rU) w.heap vc cs)(hds:Rd (B3 rU) w.heap vd ds)(hcp_ds:C5 vd)  :
  Calls Tryz.prog 8 #[vc,vd] w (fun e w'=>e=.returned (.bool true)∧AF w w'):=by
 refine Aq [vc,vd] 243 Tryz.func8 Z Z sM ?_
 have ir:AF w w:=AF.refl w
 have hl_vc:=hcs.lenle
 have hl_vd:=hds.lenle
 refine A0 (Ab _ [0] Z (Ac 1 Z (A0 (A0 (Ab _ [0,3,0,0,3,0] Z (Ad 1 Z (As 41 [] [] [vc] Z Z Yx Aa (Jr _ _ _ (hcs.ext Cx ir)) ?_)))))))
 rintro e1 w1 ⟨rfl,il⟩
 refine⟨_,rfl,il,?_⟩
 have is:=il.size
 have im:=ir.trans il
 refine Ad 1 Z ?_
 cases k7:(decide (((4096:Nat):Int)<((cs.length:Nat):Int)))
 ·have kq:=of_decide_eq_false k7
  refine Ad 1 Z (As 41 [] [] [vd] Z Z Yx (Ae (e:=33) Z Z Z) (Jr _ _ _ (hds.ext Cx im)) ?_)
  rintro e4 w4 ⟨rfl,io⟩
  refine⟨_,rfl,io,?_⟩
  have kr:=io.size
  have it:=im.trans io
  refine Ac 1 Z ?_
  cases ip:(decide (((4096:Nat):Int)<((ds.length:Nat):Int)))
  ·have ks:=of_decide_eq_false ip
   refine Ah (by first|rfl|(show Value.bool _=_;rw[ip])) (A2 (A0 (Ab _ [0,3,0,0,0,0,0,3,4,0,0,0] Z (Ad 1 Z (As 42 [] [] [vc] Z Z bA Aa (Kg _ vc _ (hcs.ext Cx it)) ?_)))))
   rintro e7 w7 ⟨vD,vaD,vbD,pD,fD,aD,bD,rfl,iq,hOD,haD,hbD,hRD⟩
   refine⟨_,rfl,iq,?_⟩
   have kt:=iq.size
   have ku:=it.trans iq
   have hfe:=hRD.fe
   have hlc:=hRD.len
   have hpa:=hRD.par
   have hsq:=hRD.sq
   have hla:=hRD.la
   have hlb:=hRD.lb
   have hvp:=FG hRD.dr.ok
   have hct:=O9 (ws:=bD) hRD.dr.ok oM ⟨hpa.1,hsq⟩ hla hlb
   refine Ad 1 Z (AM (vs:=[(.agg #[vD]),(.int .i64 fD),vaD,vbD]) (.agg #[vD]) Z Z Aa (AM (vs:=[(.agg #[vD]),(.int .i64 fD),vaD,vbD]) (.int .i64 fD) Z Z Aa (AM (vs:=[(.agg #[vD]),(.int .i64 fD),vaD,vbD]) vaD Z Z Aa (AM (vs:=[(.agg #[vD]),(.int .i64 fD),vaD,vbD]) vbD Z Z Aa (Bo (z:=.agg #[.slice none 0 0]) T8 Aa fun w8 g4 kv iu=>?_)))))
   have iv:=g4.size
   have iw:=ku.trans g4
   have ek:=hOD.ext ((Ao (AL 153 6))) g4
   have g6:=haD.ext (o1) g4
   have g7:=hbD.ext (o1) g4
   replace iu:BX w8.heap w7.heap.size [(.slice none 0 0)]:=iu
   refine Bz (vs:=[vD]) BZ Z Z (by intro u hu;simp only[List.mem_cons,List.not_mem_nil,or_false]at hu;rcases hu with rfl <;> first|exact⟨rfl,rfl⟩|exact Bp ek.isSlS) iu Z Z Aa fun w9 g5 kw ix=>?_
   replace ix:BX w9.heap w7.heap.size [vD]:=ix
   have iy:w8.heap.size≤w9.heap.size:=g5.size
   have iz:AF w w9:=g5.below iw (fun c hc=>by have:=A9 hc;omega) iw.size
   have g8:=ek.chg ((Ao (AL 153 6))) g5 (fun c hc=>by have:=A9 hc;omega)
   have g9:=g6.chg (o1) g5 (fun c hc=>by have:=A9 hc;omega)
   have ga:=g7.chg (o1) g5 (fun c hc=>by have:=A9 hc;omega)
   refine Ac 3 Z (A0 (Ab _ [0,3,0] Z (Ad 1 Z (As 43 [] [] [vd,(.int .i64 ((9:Nat):Int))] Z Z Yy Aa (HK _ _ _ _ (hds.ext Cx iz) oM oM) ?_))))
   rintro e13 w13 ⟨x13_0,rfl,cx,j0⟩
   refine⟨_,rfl,cx,?_⟩
   have gb:=cx.size
   have dv:=iz.trans cx
   have cl:=g8.ext ((Ao (AL 153 6))) cx
   have cm:=g9.ext (o1) cx
   have cn:=ga.ext (o1) cx
   have dw:=ix.ext cx
   refine Ac 1 Z (A0 (Ab _ [0] Z ?_))
   generalize hg_nn:x13_0=nnI at *
   obtain⟨nn,rfl⟩:∃n:Nat,nnI=((n:Nat):Int):=⟨nnI.toNat,by omega⟩
   refine Ac 1 Z (A0 (J1 (S:=Int) (fun(kk:Int)=>([(10,(.int .i64 kk)),(1,vd),(5,(.pointer (some ⟨w7.heap.size,0,none⟩))),(6,(.int .i64 fD)),(7,vaD),(8,vbD),(9,(.int .i64 ((nn:Nat):Int)))])) (fun(kk:Int) (W:World)=>AF w W∧Fr (E4 3 (Pn 153 6) 49) w4.heap.size w7.heap.size W.heap vD pD∧Fr (Bh rI 2) w4.heap.size w7.heap.size W.heap vaD aD∧Fr (Bh rI 2) w4.heap.size w7.heap.size W.heap vbD bD∧BX W.heap w7.heap.size [vD]∧(0≤kk∧kk≤((nn:Nat):Int))∧w4.heap.size≤W.heap.size) ?_ ?_))
   ·refine A0 (Ab _ [0,0,0] Z (Ad 1 Z (AQ (v:=vd) QT Z hds.isSl Aa ?_)))
    by_cases gc:((1:Nat):Int)<((ds.length:Nat):Int)
    ·refine BU true Z Z (A5 gc) Aa (Aj (Ag Z (Ab _ [0,0,0,0,3,0] Z (Ad 1 Z ?_))))
     have gd:=Rd.suf (k:=1) (hds.ext Cx dv) oM hcp_ds
     refine ST (v:=vd) (k:=1) QT bK Z (hds.ext Cx dv).isSl hcp_ds Z oM Aa (Ad 1 Z ?_)
     refine AP (((nn:Nat):Int)+((1:Nat):Int)) Z Z (Da sD sD) Aa ?_
     refine As 43 [] [] [(Oa vd 1),(.int .i64 (((nn:Nat):Int)+((1:Nat):Int)))] Z Z Yy Aa (HK _ _ _ _ gd oM oM) ?_
     rintro e18 w18 ⟨x18_0,rfl,d4,j1⟩
     refine⟨_,rfl,d4,?_⟩
     have k8:=d4.size
     have j2:=dv.trans d4
     have eh:=cl.ext ((Ao (AL 153 6))) d4
     have ei:=cm.ext (o1) d4
     have ej:=cn.ext (o1) d4
     have ex:=dw.ext d4
     exact Ac 1 Z ⟨x18_0,_,rfl,⟨rfl,rfl,rfl,rfl,rfl,rfl,rfl,trivial⟩,⟨j2,eh,ei,ej,ex,oM,oM⟩⟩
    ·exact BU false Z Z (A6 gc) Aa (Aj (Ah Z (A2 ⟨((0:Nat):Int),_,rfl,⟨rfl,rfl,rfl,rfl,rfl,rfl,rfl,trivial⟩,⟨dv,cl,cm,cn,dw,oM,oM⟩⟩)))
   ·clear ir il is im io iq kv g4 iv iw kw g5 iy iz g8 g9 ga cx gb dv cl cm cn
    rintro kk ρ14 w14 ⟨ey,d5,d6,dx,co,hkk,k9⟩
    have ge:w.heap.size≤w14.heap.size:=ey.size
    have kx:=co.lt
    refine A0 (Ab _ [2,0,0,0,3,0,0,0,0,0] Z ?_)
    generalize hg_kn:kk=knI at *
    obtain⟨kn,rfl⟩:∃n:Nat,knI=((n:Nat):Int):=⟨knI.toNat,by omega⟩
    refine AK (p:=(.pointer (some ⟨w7.heap.size,0,none⟩))) (.inr Z) [vD] BZ Z (fun wq9 d7=>LD.of_box (BX.ext (w:=w14) co d7)) Z Aa (Ad 3 Z (As 44 [] [] [(.agg #[vD]),(.int .i64 fD),vaD,(.int .i64 ((nn:Nat):Int))] Z Z Yz Aa (Ft _ 6 vD (pD) _ _ _ _ (RN.of_frF d5 (fun b hb=>by cases hb)) oM d6.rd1 oM Oi) ?_))
    rintro e20 w20 ⟨a1,rfl,cy,dy,j3,j4⟩
    refine⟨_,rfl,cy,?_⟩
    have gf:=cy.size
    have gg:=ey.trans cy
    have aa:=d5.ext ((Ao (AL 153 6))) cy
    have ab:=d6.ext (o1) cy
    have b9:=dx.ext (o1) cy
    have ac:=co.ext cy
    refine Ad 1 Z (AM (vs:=[a1,(.int .i64 (LR pD fD aD ((nn:Nat):Int)))]) a1 Z Z Aa (AM (vs:=[a1,(.int .i64 (LR pD fD aD ((nn:Nat):Int)))]) (.int .i64 (LR pD fD aD ((nn:Nat):Int))) Z Z Aa (Ac 2 Z (A0 (Ab _ [2,0,0,0,3,0,0,0,0,0] Z (AK (p:=(.pointer (some ⟨w7.heap.size,0,none⟩))) (.inr Z) [vD] BZ Z (fun wq9 d7=>LD.of_box (BX.ext (w:=w20) ac d7)) Z Aa (Ad 3 Z (As 45 [] [] [(.agg #[vD]),(.int .i64 fD),vaD,(.int .i64 ((nn:Nat):Int))] Z Z bB Aa (IL _ 6 vD (pD) _ _ _ _ (RN.of_frF aa (fun b hb=>by cases hb)) oM ab.rd1 oM Oi) ?_))))))))
    rintro e21 w21 ⟨dc,rfl,cp,d8⟩
    refine⟨_,rfl,cp,?_⟩
    have gh:=cp.size
    have gi:=gg.trans cp
    have ba:=aa.ext ((Ao (AL 153 6))) cp
    have bb:=ab.ext (o1) cp
    have bc:=b9.ext (o1) cp
    have bd:=ac.ext cp
    have ad:=dy.ext (o2) cp
    refine Ad 1 Z (AM (vs:=[dc,(.int .i64 (LR pD fD aD ((nn:Nat):Int)))]) dc Z Z Aa (AM (vs:=[dc,(.int .i64 (LR pD fD aD ((nn:Nat):Int)))]) (.int .i64 (LR pD fD aD ((nn:Nat):Int))) Z Z Aa (Ac 2 Z (A0 (A0 (Ab _ [0,0,0,0,0,0,3,0,0] Z (Ad 2 Z (AT false Z Z sM Aa (Ad 3 Z (As 46 [] [] [a1,dc] Z Z YB (Ae (e:=73) Z Z Z) (Ii _ _ _ _ _ ad.rd2 d8.rd2) ?_))))))))))
    rintro e22 w22 ⟨rfl,b7⟩
    refine⟨_,rfl,b7,?_⟩
    have ka:=b7.size
    have j5:=gi.trans b7
    have ae:=ba.ext ((Ao (AL 153 6))) b7
    have af:=bb.ext (o1) b7
    have ag:=bc.ext (o1) b7
    have ah:=bd.ext b7
    have be:=ad.ext (o2) b7
    have bf:=d8.ext (o2) b7
    rw[show(decide ((Tz pD fD aD ((nn:Nat):Int))=(Tz pD fD aD ((nn:Nat):Int))))=true from A5 rfl]
    refine Bn false Z Z (Ae (e:=73) Z Z Z) (Ac 1 Z (Ah Z (A2 (A0 (Ab _ [2,0,0,0,0,3,0,0,0,0,0] Z (AK (p:=(.pointer (some ⟨w7.heap.size,0,none⟩))) (.inr Z) [vD] BZ Z (fun wq9 d7=>LD.of_box (BX.ext (w:=w22) ah d7)) Z Aa (Ad 4 Z (As 47 [] [] [(.agg #[vD]),(.int .i64 fD),vaD,vbD,(.int .i64 ((nn:Nat):Int))] Z Z SU Aa (C7 _ 6 vD (pD) _ _ _ _ _ _ (RN.of_frF ae (fun b hb=>by cases hb)) oM af.rd1 ag.rd1 oM Oi) ?_))))))))
    rintro e23 w23 ⟨a0,rfl,b8,dz,j6⟩
    refine⟨_,rfl,b8,?_⟩
    have kb:=b8.size
    have gj:=j5.trans b8
    have ai:=ae.ext ((Ao (AL 153 6))) b8
    have bg:=af.ext (o1) b8
    have bh:=ag.ext (o1) b8
    have aj:=ah.ext b8
    have bi:=be.ext (o2) b8
    have bj:=bf.ext (o2) b8
    refine Ad 1 Z (AM (vs:=[a0,(.int .i64 (D7 pD fD aD bD ((nn:Nat):Int)))]) a0 Z Z Aa (AM (vs:=[a0,(.int .i64 (D7 pD fD aD bD ((nn:Nat):Int)))]) (.int .i64 (D7 pD fD aD bD ((nn:Nat):Int))) Z Z Aa (Ac 2 Z (A0 (A0 (Ab _ [0,0] Z ?_))))))
    have hga:=Iz (p:=pD) (f:=fD) (n:=((nn:Nat):Int)) hct.1 (Br.2 ⟨by omega,by omega⟩)
    have hgc:=EF hga
    have hrd:=Vl (p:=pD) (f:=fD) (n:=((nn:Nat):Int)) hct.2 oM
    have hrc:=NT hrd
    rw[Int.toNat_natCast]at hgc hrc
    refine Ad 1 Z ?_
    by_cases gk:LR pD fD aD ((nn:Nat):Int)≠((0:Nat):Int)
    ·exact AT true Z Z (A5 gk) Aa (Aj (Ag Z (A0 (Ab _ [0,0,0,0] Z (Ad 2 Z (Am (decide (D7 pD fD aD bD ((nn:Nat):Int)=LR pD fD aD ((nn:Nat):Int))) Z Z Z Aa (Ac 1 Z (A1 (Al (Af [4] Z (.bool (decide (D7 pD fD aD bD ((nn:Nat):Int)=LR pD fD aD ((nn:Nat):Int)))) Z ⟨UN,gj⟩))))))))))
    ·refine AT false Z Z (A6 gk) Aa (Aj (Ah Z (A2 (A0 (A0 (Ab _ [0,0,0,0,0,0,0,0,0] Z ?_))))))
     have hrk:Eo pD fD.toNat aD nn=0:=by omega
     have hCh:Mr pD fD.toNat aD nn:=⟨hvp,by omega,hsq,hla.1,hla.2,hrk⟩
     have ky:D7 pD fD aD bD ((nn:Nat):Int)=0:=by omega
     have dd:Fr (Bh (Bh rI 2) 27) w14.heap.size w20.heap.size w23.heap a1 ((CC (nn+1) (Ch pD fD.toNat aD))):=by have h:=bi;rw[L2 hrd,Int.toNat_natCast,K6 hrk]at h;exact h
     have gl:Fr (Bh rI 2) w22.heap.size w23.heap.size w23.heap a0 ((Jt pD fD.toNat aD nn bD)):=by have h:=dz;rw[Ht ky]at h;simp only[Int.toNat_natCast]at h;exact h
     have htl:(CC (nn+1) (Ch pD fD.toNat aD)).length=nn+1:=by simp[CC]
     have hti:=C4 (f:=Ch pD fD.toNat aD) (n:=nn+1) (k:=kn) [] oM
     have hst:=(hCh.low (k:=kn) oM).st
     obtain⟨sK,hsK⟩:∃l,l=Ch pD fD.toNat aD kn:=⟨_,rfl⟩
     rw[← hsK]at hti hst
     have hcs:=O9 (a:=sK) (ws:=bD) hRD.dr.ok oM ⟨hpa.1,hsq⟩ ⟨by omega,hst.2⟩ hlb
     have hSh:=hCh.shift (k:=kn) oM
     have hTl:=hCh.tail (k:=kn) oM
     rw[← hsK]at hSh hTl
     have gm:=Vl (p:=pD) (f:=fD) (n:=((nn-kn:Nat):Int)) hcs.2 oM
     have kz:=NT gm
     have j7:=Iz (p:=pD) (f:=fD) (n:=((nn-kn:Nat):Int)) hcs.1 (Br.2 ⟨by omega,by omega⟩)
     have l0:=EF j7
     rw[Int.toNat_natCast]at kz l0
     have l5:=(hSh (nn-kn) oM).k
     have j8:D7 pD fD sK bD ((nn-kn:Nat):Int)=0:=by omega
     refine Ad 1 Z ?_
     have j9:¬(D7 pD fD aD bD ((nn:Nat):Int)≠((0:Nat):Int)):=oM
     refine AT false Z Z (A6 j9) Aa (Ad 2 Z (AQ (v:=a1) BH Z dd.isSl (Ae (e:=95) Z Z Z) (Ad 1 Z ?_)))
     refine AP (((nn:Nat):Int)+((1:Nat):Int)) Z Z (Da sD sD) (Ae (e:=95) Z Z Z) ?_
     have ja:¬((((CC (nn+1) (Ch pD fD.toNat aD)).length:Nat):Int)≠((nn:Nat):Int)+((1:Nat):Int)):=oM
     refine AT false Z Z (A6 ja) (Ae (e:=95) Z Z Z) (Ac 1 Z (Ah Z (A2 (A0 (AO _ [1,0,0,0,0,1,0,0,0,3,0,0,0,0,0] mixed (by kernel_rfl) (AK (p:=(.pointer (some ⟨w7.heap.size,0,none⟩))) (.inl Z) [vD] BZ Z (fun wq9 d7=>LD.of_box (BX.ext (w:=w23.drew) aj d7)) Z Aa (Ad 3 Z (AB (v:=a1) kn BH B8 Z Z dd.isSl Z sD Aa ?_))))))))
     obtain⟨gn,go,gp⟩:=dd.rd2.get (k:=kn) [] sD
     have gq:=gp.lenle
     refine Ai (p:=Ay a1 kn 1) (.inl Z) gn Bj Z go Aa (Ad 2 Z (Bs ((nn-kn:Nat):Int) Z Z (by rw[Da oM oM];omega) Aa (As 44 [] [] [(.agg #[vD]),(.int .i64 fD),gn,(.int .i64 ((nn-kn:Nat):Int))] Z Z Yz Aa (Ft _ 6 vD (pD) _ _ _ _ (RN.of_frF ai (fun b hb=>by cases hb)) oM gp oM Oi) ?_)))
     rintro e30 w30 ⟨cz,rfl,a6,cq,jb,jc⟩
     refine⟨_,rfl,a6,?_⟩
     replace a6:=a6.of_drew
     have gr:=a6.size
     have gs:=gj.trans a6
     have ak:=ai.ext ((Ao (AL 153 6))) a6
     have bl:=bg.ext (o1) a6
     have al:=bh.ext (o1) a6
     have am:=aj.ext a6
     have b1:=dd.ext (o2) a6
     have bm:=bj.ext (o2) a6
     have e0:=gl.ext (o1) a6
     have el:=AZ a6 go
     replace cq:=cq.low (B':=w23.heap.size) (A7 _)
     refine Ad 1 Z (AM (vs:=[cz,(.int .i64 (LR pD fD ((CC (nn+1) (Ch pD fD.toNat aD)).getD kn []) ((nn-kn:Nat):Int)))]) cz Z Z Aa (AM (vs:=[cz,(.int .i64 (LR pD fD ((CC (nn+1) (Ch pD fD.toNat aD)).getD kn []) ((nn-kn:Nat):Int)))]) (.int .i64 (LR pD fD ((CC (nn+1) (Ch pD fD.toNat aD)).getD kn []) ((nn-kn:Nat):Int))) Z Z Aa (Ac 2 Z (A0 (AO _ [1,0,0,0,0,1,0,0,0,0,3,0,0,0,0,0] mixed (by kernel_rfl) ?_)))))
     have gt:Fr (Bh (Bh rI 2) 27) w23.heap.size w30.heap.size w30.heap cz ((CC (nn+1) (Ch pD fD.toNat aD)).drop kn):=by have h:=cq;rw[hti]at h;rw[L2 gm,Int.toNat_natCast,hTl]at h;exact h
     refine AK (p:=(.pointer (some ⟨w7.heap.size,0,none⟩))) (.inl Z) [vD] BZ Z (fun wq9 d7=>LD.of_box (BX.ext (w:=w30.drew) am d7)) Z Aa (Ad 3 Z (AB (v:=a1) kn BH B8 Z Z b1.isSl Z sD Aa ?_))
     obtain⟨gu,gv,gw⟩:=b1.rd2.get (k:=kn) [] sD
     have gx:=gw.lenle
     refine Ai (p:=Ay a1 kn 1) (.inl Z) gu Bj Z gv Aa (Ad 3 Z (Bs ((nn-kn:Nat):Int) Z Z (by rw[Da oM oM];omega) Aa (As 47 [] [] [(.agg #[vD]),(.int .i64 fD),gu,vbD,(.int .i64 ((nn-kn:Nat):Int))] Z Z SU Aa (C7 _ 6 vD (pD) _ _ _ _ _ _ (RN.of_frF ak (fun b hb=>by cases hb)) oM gw al.rd1 oM Oi) ?_)))
     rintro e34 w34 ⟨d0,rfl,a2,cr,jd⟩
     refine⟨_,rfl,a2,?_⟩
     replace a2:=a2.of_drew
     have gy:=a2.size
     have gz:=gs.trans a2
     have an:=ak.ext ((Ao (AL 153 6))) a2
     have ao:=bl.ext (o1) a2
     have bn:=al.ext (o1) a2
     have ap:=am.ext a2
     have e2:=b1.ext (o2) a2
     have bo:=bm.ext (o2) a2
     have e3:=e0.ext (o1) a2
     have em:=AZ a2 el
     have e5:=gt.ext (o2) a2
     have en:=AZ a2 gv
     replace cr:=cr.low (B':=w30.heap.size) (A7 _)
     refine Ad 1 Z (AM (vs:=[d0,(.int .i64 (D7 pD fD ((CC (nn+1) (Ch pD fD.toNat aD)).getD kn []) bD ((nn-kn:Nat):Int)))]) d0 Z Z Aa (AM (vs:=[d0,(.int .i64 (D7 pD fD ((CC (nn+1) (Ch pD fD.toNat aD)).getD kn []) bD ((nn-kn:Nat):Int)))]) (.int .i64 (D7 pD fD ((CC (nn+1) (Ch pD fD.toNat aD)).getD kn []) bD ((nn-kn:Nat):Int))) Z Z Aa (Ac 2 Z (A0 (Ab _ [2,0,0,0,0,3,0,0,0,0,0] Z ?_)))))
     have i0:Fr (Bh rI 2) w30.heap.size w34.heap.size w34.heap d0 (Jt pD fD.toNat sK (nn-kn) bD):=by have h:=cr;rw[hti]at h;rw[Ht j8,Int.toNat_natCast]at h;exact h
     obtain⟨bk,hbk⟩:∃l:List Int,l=(Jt pD fD.toNat sK (nn-kn) bD):=⟨_,rfl⟩
     have hn_bk:=i0
     rw[← hbk]at hn_bk
     have hbl:bk.length=aD.length:=by rw[hbk,KE (hSh (nn-kn) oM) oM];omega
     have hbn:B2 bk=true:=by rw[hbk];exact Qh (hSh (nn-kn) oM) hlb.2
     have hcb:=O9 (a:=aD) (ws:=bk) hRD.dr.ok oM ⟨hpa.1,hsq⟩ hla ⟨by omega,hbn⟩
     have je:=Iz (p:=pD) (f:=fD) (n:=((kn:Nat):Int)) hcb.1 (Br.2 ⟨by omega,by omega⟩)
     have l1:=EF je
     rw[Int.toNat_natCast]at l1
     have jf:D7 pD fD aD bk ((kn:Nat):Int)=0:=by omega
     have hpc:=Lf (p:=pD) (f:=fD.toNat) (a:=aD) kn (nn-kn) bD
     rw[show kn+(nn-kn)=nn from by omega,← hsK,← hbk]at hpc
     refine AK (p:=(.pointer (some ⟨w7.heap.size,0,none⟩))) (.inr Z) [vD] BZ Z (fun wq9 d7=>LD.of_box (BX.ext (w:=w34) ap d7)) Z Aa (Ad 4 Z (As 47 [] [] [(.agg #[vD]),(.int .i64 fD),vaD,d0,(.int .i64 ((kn:Nat):Int))] Z Z SU Aa (C7 _ 6 vD (pD) _ _ _ _ _ _ (RN.of_frF an (fun b hb=>by cases hb)) oM ao.rd1 hn_bk.rd1 oM Oi) ?_))
     rintro e38 w38 ⟨de,rfl,a7,e6,jg⟩
     refine⟨_,rfl,a7,?_⟩
     have i1:=a7.size
     have i2:=gz.trans a7
     have bp:=an.ext ((Ao (AL 153 6))) a7
     have bq:=ao.ext (o1) a7
     have br:=bn.ext (o1) a7
     have bs:=ap.ext a7
     have a8:=e2.ext (o2) a7
     have bt:=bo.ext (o2) a7
     have e8:=e3.ext (o1) a7
     have eo:=AZ a7 em
     have e9:=e5.ext (o2) a7
     have ep:=AZ a7 en
     refine Ad 1 Z (AM (vs:=[de,(.int .i64 (D7 pD fD aD bk ((kn:Nat):Int)))]) de Z Z Aa (AM (vs:=[de,(.int .i64 (D7 pD fD aD bk ((kn:Nat):Int)))]) (.int .i64 (D7 pD fD aD bk ((kn:Nat):Int))) Z Z Aa (Ac 2 Z (A0 (A0 (Ab _ [0,0,0,0,0,0,0,0,0,0,0,0,0,0,0,3,0,0,0,0,0,3,0,0] Z (Ad 1 Z ?_)))))))
     have jh:¬(LR pD fD ((CC (nn+1) (Ch pD fD.toNat aD)).getD kn []) ((nn-kn:Nat):Int)≠((0:Nat):Int)):=(fun h9=>h9 (by rw[hti];omega))
     refine AT false Z Z (A6 jh) Aa (Ad 2 Z ?_)
     have ji:¬(D7 pD fD ((CC (nn+1) (Ch pD fD.toNat aD)).getD kn []) bD ((nn-kn:Nat):Int)≠((0:Nat):Int)):=(fun h9=>h9 (by rw[hti];omega))
     refine AT false Z Z (A6 ji) (Ae (e:=140) Z Z Z) (Ad 3 Z ?_)
     have jj:¬(D7 pD fD aD bk ((kn:Nat):Int)≠((0:Nat):Int)):=oM
     refine AT false Z Z (A6 jj) (Ae (e:=144) Z Z Z) (Ad 5 Z ?_)
     have i3:=Rd.suf (k:=kn) a8.rd2 oM a8.cap
     refine ST (v:=a1) (k:=kn) BH B8 Z a8.rd2.isSl a8.cap Z oM (Ae (e:=148) Z Z Z) (As 46 [] [] [cz,(Oa a1 kn)] Z Z YB (Ae (e:=148) Z Z Z) (Ii _ _ _ _ _ e9.rd2 i3) ?_)
     rintro e45 w45 ⟨rfl,aq⟩
     refine⟨_,rfl,aq,?_⟩
     have i4:=aq.size
     have i5:=i2.trans aq
     have bu:=bp.ext ((Ao (AL 153 6))) aq
     have bv:=bq.ext (o1) aq
     have bw:=br.ext (o1) aq
     have bx:=bs.ext aq
     have bz:=bt.ext (o2) aq
     have d1:=e8.ext (o1) aq
     have eq:=AZ aq eo
     have er:=AZ aq ep
     have ar:=e6.ext (o1) aq
     rw[show(decide (((CC (nn+1) (Ch pD fD.toNat aD)).drop kn)=((CC (nn+1) (Ch pD fD.toNat aD)).drop kn)))=true from A5 rfl]
     refine Bn false Z Z (Ae (e:=148) Z Z Z) (Ad 4 Z (As 48 [] [] [de,a0] Z Z YC (Ae (e:=156) Z Z Z) (Ih _ _ _ _ _ ar.rd1 d1.rd1) ?_))
     rintro e48 w48 ⟨rfl,au⟩
     refine⟨_,rfl,au,?_⟩
     have i6:=au.size
     have ez:=i5.trans au
     have c0:=bu.ext ((Ao (AL 153 6))) au
     have c1:=bv.ext (o1) au
     have av:=bw.ext (o1) au
     have c2:=bx.ext au
     have c3:=bz.ext (o2) au
     have ea:=d1.ext (o1) au
     have es:=AZ au eq
     have et:=AZ au er
     have c4:=ar.ext (o1) au
     rw[show(decide ((Uu pD fD aD bk ((kn:Nat):Int))=(Jt pD fD.toNat aD nn bD)))=true from A5 (by rw[Ht jf,Int.toNat_natCast,hpc])]
     refine Bn false Z Z (Ae (e:=156) Z Z Z) (Ac 1 Z (Ah Z (A2 (A0 (Ab _ [0,0,0,3,0] Z (Ad 2 Z (AQ (v:=vbD) Bt Z av.isSl Aa (As 49 [] [] [vd,(.int .i64 ((bD.length:Nat):Int))] Z Z bC Aa (Jq _ _ _ _ (hds.ext Cx ez) oM oM) ?_))))))))
     rintro e51 w51 ⟨d2,x51_0,rfl,aw,eb,jk⟩
     refine⟨_,rfl,aw,?_⟩
     have i7:=aw.size
     have g0:=ez.trans aw
     have c5:=c0.ext ((Ao (AL 153 6))) aw
     have c6:=c1.ext (o1) aw
     have c7:=av.ext (o1) aw
     have c8:=c2.ext aw
     have c9:=c3.ext (o2) aw
     have ec:=ea.ext (o1) aw
     have eu:=AZ aw es
     have ev:=AZ aw et
     have ca:=c4.ext (o1) aw
     refine Ac 1 Z (A0 (Ab _ [3,0] Z ?_))
     obtain⟨oD,hoD⟩:∃l:List Int,l=x51_0:=⟨_,rfl⟩
     have hn_oD:=eb
     rw[← hoD]at hn_oD
     have hot:oD.length=bD.length∧B2 oD=true:=by rw[hoD];exact⟨by have h9:=‹_∧B2 x51_0=true›.1;omega,‹_∧B2 x51_0=true›.2⟩
     refine CQ (rI) AR Bt BT Aa fun v54 w54 ax jl i8=>?_
     have i9:=ax.size
     have ia:=g0.trans ax
     have cb:=c5.ext ((Ao (AL 153 6))) ax
     have cc:=c6.ext (o1) ax
     have cd:=c7.ext (o1) ax
     have ce:=c8.ext ax
     have df:=c9.ext (o2) ax
     have ed:=ec.ext (o1) ax
     have ib:=AZ ax eu
     have ic:=AZ ax ev
     have dg:=ca.ext (o1) ax
     have hn_oDx54:=hn_oD.ext (o1) ax
     refine Ac 1 Z (A0 (A0 (Ab _ [0] Z (Ac 1 Z (A3 ?_)))))
     refine B1 (S:=Nat×Value) (fun⟨i,vo⟩=>([(24,vo),(25,(.int .i64 ((i:Nat):Int))),(5,(.pointer (some ⟨w7.heap.size,0,none⟩))),(6,(.int .i64 fD)),(7,vaD),(8,vbD),(9,(.int .i64 ((nn:Nat):Int))),(15,a0),(23,d2)])) (fun⟨i,vo⟩ W=>AF w W∧Fr (E4 3 (Pn 153 6) 49) w4.heap.size w7.heap.size W.heap vD pD∧Fr (Bh rI 2) w51.heap.size W.heap.size W.heap vo ((Ce bD oD).take i)∧Fr (Bh rI 2) w4.heap.size w7.heap.size W.heap vaD aD∧Fr (Bh rI 2) w4.heap.size w7.heap.size W.heap vbD bD∧Fr (Bh rI 2) w22.heap.size w23.heap.size W.heap a0 (Jt pD fD.toNat aD nn bD)∧Fr (Bh rI 2) w48.heap.size w51.heap.size W.heap d2 oD∧BX W.heap w7.heap.size [vD]∧i≤bD.length∧w23.heap.size≤w51.heap.size∧w7.heap.size<w51.heap.size∧w4.heap.size≤W.heap.size∧w51.heap.size≤W.heap.size) (fun⟨i,vo⟩=>bD.length-i) (0,v54) ⟨rfl,rfl,rfl,rfl,rfl,rfl,rfl,rfl,rfl,trivial⟩ ⟨ia,cb,i8.up o1,cc,cd,ed,hn_oDx54,ce,oM,oM,oM,oM,oM⟩ ?_
     clear co dx d6 d5 ey ge dy cy gf gg aa ab b9 ac d8 cp gh gi ba bb bc bd ad b7 ae af ag ah be bf dz b8 ai bg bh aj bi bj gq cq a6 gr gs ak bl al am bm el gx cr a2 gy gz an ao bn ap bo em en e6 a7 i1 i2 bp bq br bs bt eo ep aq i4 i5 bu bv bw bx bz eq er ar au c0 c1 av c2 c3 es et c4 eb aw c5 c6 c7 c8 c9 eu ev ca i8 jl ax i9 ia cb cc cd ce df ib ic dg
     rintro⟨i,vo⟩ ρ58 w58 ⟨g1,ct,d9,cu,a4,da,a5,b2,jm,hgu,kc,kd,ke⟩
     have kf:w.heap.size≤w58.heap.size:=g1.size
     have l2:=b2.lt
     refine A0 (A0 (Ab _ [0,0,0,0] Z (Ad 2 Z (AQ (v:=vbD) Bt Z a4.isSl Aa ?_))))
     by_cases id:((i:Nat):Int)<((bD.length:Nat):Int)
     ·refine AG true Z Z (A5 id) Aa (Aj (Ag Z (A2 (A0 (A3 (AO _ [0,0,0,0,1,0,0,0,1,0,3,4,0] mixed (by kernel_rfl) (Ad 3 Z (AB (v:=vbD) i Bt BT Z Z a4.isSl Z sD Aa ?_))))))))
      refine Ai (p:=Ay vbD i 1) (.inl Z) (.int .i64 (bD.getD i 0)) AD Z (a4.rd1.getI sD).1 Aa (Ad 2 Z ?_)
      refine AB (v:=d2) i Bt BT Z Z a5.isSl Z sD Aa ?_
      refine Ai (p:=Ay d2 i 1) (.inl Z) (.int .i64 (oD.getD i 0)) AD Z (a5.rd1.getI sD).1 Aa ?_
      refine Az 50 [] [] [(.int .i64 (bD.getD i 0)),(.int .i64 (oD.getD i 0))] Z Z Uv Aa (.int .i64 (md ((bD.getD i 0)+(oD.getD i 0)))) (fun wq=>FM wq _ _ (a4.rd1.getI sD).2 (a5.rd1.getI sD).2) ?_
      refine BI (u:=(.int .i64 (md ((bD.getD i 0)+(oD.getD i 0))))) (B:=w58.heap.size) AR Bt BT Z Z (Ov w58.heap.size w58.heap.size _ _ (ED _)) (A7 _) Aa fun v64 Da b3 l3 ie=>?_
      replace b3:=b3.of_drew
      have kg:=b3.size
      have ig:=g1.trans b3
      have dh:=ct.ext ((Ao (AL 153 6))) b3
      have di:=d9.ext (o1) b3
      have dj:=cu.ext (o1) b3
      have dk:=a4.ext (o1) b3
      have dl:=da.ext (o1) b3
      have dm:=a5.ext (o1) b3
      have dn:=b2.ext b3
      refine FO (v:=vo) (a:=v64) Bt BT Z Z Z di oM ie.rd1 sD (by unfold maxLen;first|omega|assumption|(simp;done)|(simp;omega)) Aa fun v65 w65 F65 cv d3 jn=>?_
      have jo:AF w w65:=cv.below ig (fun c hc=>A8 g0.size (d3 c hc).1) ig.size
      have kh:Da.heap.size≤w65.heap.size:=cv.size
      have jp:=dh.chg ((Ao (AL 153 6))) cv (fun c hc=>by have:=d3 c hc;omega)
      have jq:=dj.chg (o1) cv (fun c hc=>by have:=d3 c hc;omega)
      have jr:=dk.chg (o1) cv (fun c hc=>by have:=d3 c hc;omega)
      have js:=dl.chg (o1) cv (fun c hc=>by have:=d3 c hc;omega)
      have jt:=dm.chg (o1) cv (fun c hc=>by have:=d3 c hc;omega)
      have ju:=dn.chg cv (fun hm=>by have:=d3 _ hm;omega)
      have l4:=ie.chg (o1) cv (fun c hc=>by have:=d3 c hc;omega)
      exact Ac 1 Z (Ab _ [0,0,0] Z (Ad 1 Z (AP ((i+1:Nat):Int) Z Z (Bl oM sD) Aa (Ac 1 Z ⟨((i+1),v65),_,rfl,⟨rfl,rfl,rfl,rfl,rfl,rfl,rfl,rfl,rfl,trivial⟩,⟨jo,jp,(by rw[Dq 0 (by simp;omega),Ic oM];exact jn.up o1),jq,jr,js,jt,ju,oM,oM,oM,oM,oM⟩,by first|omega|(dsimp only;omega)⟩))))
     ·refine AG false Z Z (A6 id) Aa (Aj (Ah Z (A4 (Ax (Ax (At (A0 (Ab _ [2,0,0,0,0,3,0,0,0,0,0] Z ?_))))))))
      have ih:Fr (Bh rI 2) w51.heap.size w58.heap.size w58.heap vo (Ce bD oD):=by have h:=d9;rwa [List.take_of_length_le (by simp;omega)]at h
      have hcO:=O9 (a:=aD) (ws:=oD) hRD.dr.ok oM ⟨hpa.1,hsq⟩ hla ⟨by omega,hot.2⟩
      have hcS:=O9 (a:=aD) (ws:=Ce bD oD) hRD.dr.ok oM ⟨hpa.1,hsq⟩ hla ⟨by rw[Di];omega,Gh _ _⟩
      have hgO:=EF (Iz (p:=pD) (f:=fD) (n:=((nn:Nat):Int)) hcO.1 (Br.2 ⟨by omega,by omega⟩))
      have hgS:=EF (Iz (p:=pD) (f:=fD) (n:=((nn:Nat):Int)) hcS.1 (Br.2 ⟨by omega,by omega⟩))
      rw[Int.toNat_natCast]at hgO hgS
      have jv:D7 pD fD aD oD ((nn:Nat):Int)=0:=by omega
      have jw:D7 pD fD aD (Ce bD oD) ((nn:Nat):Int)=0:=by omega
      have hadd:=Qi (us:=oD) hCh (show bD.length=aD.length by omega)
      have hlG:=KE hCh (show bD.length=aD.length by omega)
      have hlO:=KE hCh (show oD.length=aD.length by omega)
      refine AK (p:=(.pointer (some ⟨w7.heap.size,0,none⟩))) (.inr Z) [vD] BZ Z (fun wq9 d7=>LD.of_box (BX.ext (w:=w58) b2 d7)) Z Aa (Ad 4 Z (As 47 [] [] [(.agg #[vD]),(.int .i64 fD),vaD,d2,(.int .i64 ((nn:Nat):Int))] Z Z SU Aa (C7 _ 6 vD (pD) _ _ _ _ _ _ (RN.of_frF ct (fun b hb=>by cases hb)) oM cu.rd1 a5.rd1 oM Oi) ?_))
      rintro e74 w74 ⟨a9,rfl,b4,ee,jx⟩
      refine⟨_,rfl,b4,?_⟩
      have ki:=b4.size
      have jy:=g1.trans b4
      have ay:=ct.ext ((Ao (AL 153 6))) b4
      have ef:=ih.ext (o1) b4
      have az:=cu.ext (o1) b4
      have cf:=a4.ext (o1) b4
      have cg:=da.ext (o1) b4
      have ch:=a5.ext (o1) b4
      have b0:=b2.ext b4
      refine Ad 1 Z (AM (vs:=[a9,(.int .i64 (D7 pD fD aD oD ((nn:Nat):Int)))]) a9 Z Z Aa (AM (vs:=[a9,(.int .i64 (D7 pD fD aD oD ((nn:Nat):Int)))]) (.int .i64 (D7 pD fD aD oD ((nn:Nat):Int))) Z Z Aa (Ac 2 Z (A0 (Ab _ [2,0,0,0,0,3,0,0,0,0,0] Z (AK (p:=(.pointer (some ⟨w7.heap.size,0,none⟩))) (.inr Z) [vD] BZ Z (fun wq9 d7=>LD.of_box (BX.ext (w:=w74) b0 d7)) Z Aa (Ad 4 Z (As 47 [] [] [(.agg #[vD]),(.int .i64 fD),vaD,vo,(.int .i64 ((nn:Nat):Int))] Z Z SU Aa (C7 _ 6 vD (pD) _ _ _ _ _ _ (RN.of_frF ay (fun b hb=>by cases hb)) oM az.rd1 ef.rd1 oM Oi) ?_))))))))
      rintro e75 w75 ⟨a3,rfl,b5,eg,jz⟩
      refine⟨_,rfl,b5,?_⟩
      have kj:=b5.size
      have k0:=jy.trans b5
      have ci:=ay.ext ((Ao (AL 153 6))) b5
      have dp:=az.ext (o1) b5
      have dq:=cf.ext (o1) b5
      have cj:=cg.ext (o1) b5
      have dt:=ch.ext (o1) b5
      have du:=b0.ext b5
      have ck:=ee.ext (o1) b5
      refine Ad 1 Z (AM (vs:=[a3,(.int .i64 (D7 pD fD aD (Ce bD oD) ((nn:Nat):Int)))]) a3 Z Z Aa (AM (vs:=[a3,(.int .i64 (D7 pD fD aD (Ce bD oD) ((nn:Nat):Int)))]) (.int .i64 (D7 pD fD aD (Ce bD oD) ((nn:Nat):Int))) Z Z Aa (Ac 2 Z (A0 (A0 (Ab _ [0,0,0,0,0,0,0,0,0,0,0,0,0,0,0,0,0,0,0,0] Z ?_))))))
      have ii:Fr (Bh rI 2) w58.heap.size w74.heap.size w75.heap a9 ((Jt pD fD.toNat aD nn oD)):=by have h:=ck;rw[Ht jv]at h;simp only[Int.toNat_natCast]at h;exact h
      have ij:Fr (Bh rI 2) w74.heap.size w75.heap.size w75.heap a3 ((Jt pD fD.toNat aD nn (Ce bD oD))):=by have h:=eg;rw[Ht jw]at h;simp only[Int.toNat_natCast]at h;exact h
      obtain⟨gB,hgB⟩:∃l:List Int,l=(Jt pD fD.toNat aD nn bD):=⟨_,rfl⟩
      have hn_gB:=cj
      rw[← hgB]at hn_gB
      obtain⟨gO,hgO_⟩:∃l:List Int,l=(Jt pD fD.toNat aD nn oD):=⟨_,rfl⟩
      have hn_gO:=ii
      rw[← hgO_]at hn_gO
      have ew:Fr (Bh rI 2) w74.heap.size w75.heap.size w75.heap a3 (Ce gB gO):=by rw[hgB,hgO_] ;have h:=ij;rw[hadd]at h;exact h
      rw[← hgB]at hlG
      rw[← hgO_]at hlO
      refine Ad 1 Z ?_
      have k1:¬(D7 pD fD aD oD ((nn:Nat):Int)≠((0:Nat):Int)):=oM
      refine AT false Z Z (A6 k1) Aa (Ad 2 Z ?_)
      have k2:¬(D7 pD fD aD (Ce bD oD) ((nn:Nat):Int)≠((0:Nat):Int)):=oM
      refine AT false Z Z (A6 k2) (Ae (e:=205) Z Z Z) (Ad 3 Z (AQ (v:=a9) Bt Z hn_gO.isSl (Ae (e:=209) Z Z Z) (Ad 1 Z (AQ (v:=a0) Bt Z hn_gB.isSl (Ae (e:=209) Z Z Z) ?_))))
      have k3:¬(((gO.length:Nat):Int)≠((gB.length:Nat):Int)):=oM
      refine AT false Z Z (A6 k3) (Ae (e:=209) Z Z Z) (Ad 3 Z (AQ (v:=a3) Bt Z ew.isSl (Ae (e:=216) Z Z Z) (Ad 1 Z (AQ (v:=a0) Bt Z hn_gB.isSl (Ae (e:=216) Z Z Z) ?_))))
      have k4:¬((((Ce gB gO).length:Nat):Int)≠((gB.length:Nat):Int)):=(fun h9=>h9 (by rw[Di]))
      refine AT false Z Z (A6 k4) (Ae (e:=216) Z Z Z) (Ac 1 Z (Ah Z (A2 (A0 (A0 (Ab _ [0] Z (Ac 1 Z (A3 (B1 (S:=Nat) (fun i=>([(30,(.int .i64 ((i:Nat):Int))),(15,a0),(26,a9),(28,a3)])) (fun i W=>AF w W∧Fr (E4 3 (Pn 153 6) 49) w4.heap.size w7.heap.size W.heap vD pD∧Fr (Bh rI 2) w22.heap.size w23.heap.size W.heap a0 gB∧Fr (Bh rI 2) w58.heap.size w74.heap.size W.heap a9 gO∧Fr (Bh rI 2) w74.heap.size w75.heap.size W.heap a3 (Ce gB gO)∧i≤gB.length∧w4.heap.size≤W.heap.size) (fun i=>gB.length-i) 0 ⟨rfl,rfl,rfl,rfl,trivial⟩ ⟨k0,ci,hn_gB,hn_gO,ew,oM,oM⟩ ?_)))))))))
      clear i6 ez i7 g0 b2 a5 da a4 cu d9 ct ee b4 ay az cf cg ch b0 eg b5 ci dp dq cj dt du ck
      rintro i ρ83 w83 ⟨g2,g3,b6,cw,db,k5,kl⟩
      have km:w.heap.size≤w83.heap.size:=g2.size
      refine A0 (A0 (Ab _ [0,0,0,0] Z (Ad 2 Z (AQ (v:=a0) Bt Z b6.isSl Aa ?_))))
      by_cases ik:((i:Nat):Int)<((gB.length:Nat):Int)
      ·refine AG true Z Z (A5 ik) Aa (Aj (Ag Z (A2 (A0 (A3 (A0 (AO _ [0,0,0,1,0,0,0,1,0,0,0,1,0,0] mixed (by kernel_rfl) (Ad 2 Z (AB (v:=a3) i Bt BT Z Z db.isSl Z (by rw[Di];omega) Aa (Ai (p:=Ay a3 i 1) (.inl Z) (.int .i64 ((Ce gB gO).getD i 0)) AD Z (db.rd1.getI (by rw[Di];omega)).1 Aa (Ad 2 Z ?_)))))))))))
       refine AB (v:=a0) i Bt BT Z Z b6.isSl Z sD Aa ?_
       refine Ai (p:=Ay a0 i 1) (.inl Z) (.int .i64 (gB.getD i 0)) AD Z (b6.rd1.getI sD).1 Aa (Ad 2 Z ?_)
       refine AB (v:=a9) i Bt BT Z Z cw.isSl Z sD Aa ?_
       refine Ai (p:=Ay a9 i 1) (.inl Z) (.int .i64 (gO.getD i 0)) AD Z (cw.rd1.getI sD).1 Aa ?_
       refine Az 50 [] [] [(.int .i64 (gB.getD i 0)),(.int .i64 (gO.getD i 0))] Z Z Uv Aa (.int .i64 (md ((gB.getD i 0)+(gO.getD i 0)))) (fun wq=>FM wq _ _ (b6.rd1.getI sD).2 (cw.rd1.getI sD).2) ?_
       have k6:¬((Ce gB gO).getD i 0≠md ((gB.getD i 0)+(gO.getD i 0))):=(fun h9=>h9 (Ic oM))
       refine AT false Z Z (A6 k6) Aa (Aj (Ah Z (A2 (Ab _ [0,0,0] Z (Ad 1 Z (AP ((i+1:Nat):Int) Z Z (Bl oM sD) Aa (Ac 1 Z ?_)))))))
       have hdrw:w83.drew.heap.size=w83.heap.size:=rfl
       exact⟨(i+1),_,rfl,⟨rfl,rfl,rfl,rfl,trivial⟩,⟨g2.drew,g3,b6,cw,db,oM,oM⟩,by first|omega|(dsimp only;omega)⟩
      ·exact AG false Z Z (A6 ik) Aa (Aj (Ah Z (A4 (Ax (Ax (At (A0 (Ab _ [0] Z (Ac 1 Z (A1 (Af [4] Z (.bool true) Z ⟨UN,g2⟩)))))))))))
  ·have ko:=of_decide_eq_true ip
   exact Ag (by first|rfl|(show Value.bool _=_;rw[ip])) (A0 (Ab _ [0] Z (Ac 1 Z (A1 (Al (Af [4] Z (.bool true) Z ⟨UN,it⟩))))))
 ·have kp:=of_decide_eq_true k7
  exact Ac 3 Z (Ag Z (A0 (Ab _ [0] Z (Ac 1 Z (A1 (Al (Af [4] Z (.bool true) Z ⟨UN,im⟩)))))))
end
end Go.Proofs.YtbajepcpgncekaaGreat
