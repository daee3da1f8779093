/- Yt, Xa, Xb, Yu, Yv: texts of this claim, joined; what the claim does not come to is left out. -/
import Derived.Test.YtbajepcpgncekaaGreatQJ4
import Derived.Test.YtbajepcpgncekaaGreatProg
set_option linter.unusedVariables false
set_option linter.unusedSimpArgs false
namespace Go.Proofs.YtbajepcpgncekaaGreat
open Go Go.RowKit
section
set_option maxHeartbeats 4000000
set_option maxRecDepth 100000
attribute [local irreducible] LW
theorem DL (w:World)(dp:Nat)(vp:Value)(p:List Fn)(f:Int)(va:Value)(a:Sr)(vw:Value)(ws:Sr)(hp:RP [] dp w.heap vp p)(_hf:Bx f)(ha:Rd (B3 rI) w.heap va a)(hws:Rd (B3 rI) w.heap vw ws)(hok:G7 p=true)(hz:PJ p)(hf:0≤f∧f<(p.length:Int))(hl:(a.length:Int)=(p.getD f.toNat Fn.zero).params)(hna:B2 a=true)(hc:G8 p f.toNat a=0)(hw:ws.length=(p.getD f.toNat Fn.zero).outs.length∧B2 ws=true) :
  Calls Tryz.prog 131 #[(.agg #[vp]),zI f,va,vw] w (fun e w'=>∃v0:Value,e=.returned (.tuple #[v0,zI 0])∧AF w w'∧Fr (Bh rI 2) w.heap.size w'.heap.size w'.heap v0 (SQ p f.toNat a ws)):=by
 refine Aq [.agg #[vp],zI f,va,vw] 28 Tryz.func131 Z Z sM ?_
 have av:AF w w:=AF.refl w
 have bc:=hp.lenle
 unfold maxLen at bc
 have bk:=ha.lenle
 have bl:=hws.lenle
 have bd:=FG hok
 have bn:=bd.par f.toNat oM
 have bo:=bd.outs f.toNat oM
 refine bZ [3,0,0] Z (Bu (cs:=#[vp]) Z Aa fun w1 aq be ad=>?_)
 have aw:=aq.size
 have ai:=av.trans aq
 replace ad:BX w1.heap w.heap.size [vp]:=ad
 refine Ac 2 Z<|bZ [2,0,0,3,0,0,0,3,4,0] Z<|AK (p:=zP w.heap.size) (.inr Z) [vp] BZ Z (fun bm aj=>LD.of_box<|BX.ext (w:=w1) ad aj) Z Aa<|Ad 2 Z<|As 29 [] [] [.agg #[vp],zI f,va] Z Z aY Aa (M2 _ dp vp p (f) va a (hp.ext (An<|Av dp) ai) _hf (RN.of<|ha.ext g1 ai) hok hz oM oM hna) ?_
 rintro e2 w2 ⟨i2,a6,au,b4,bj,T2,s2,c2,rfl,ae,a5,ax,ak,al,am⟩
 refine⟨_,rfl,ae,?_⟩
 have ay:=ae.size
 have az:=ai.trans ae
 have a2:=ad.ext ae
 have b0:G8 p (f).toNat a=c2:=O0 (A7 1) bd oM hna (Jk (CJ hna) (DZ _)) oM a5
 have an:=AF.refl w2
 refine Ad 1 Z<|AM (vs:=[.agg #[zI i2,a6,au,b4],zI c2]) (.agg #[zI i2,a6,au,b4]) Z Z Aa<|AM (vs:=[.agg #[zI i2,a6,au,b4],zI c2]) (zI c2) Z Z Aa ?_
 have bf:=a2.lt
 refine Bo (z:=.agg #[zI 0,zN,zN,zN]) Zr Aa fun w3 af bg ao=>?_
 have b1:=af.size
 have ar:=az.trans af
 have b2:=an.trans af
 replace ao:BX w3.heap w2.heap.size [zI 0,zN,zN,zN]:=ao
 refine Bz (vs:=[zI i2,a6,au,b4]) Fj Z Z (fun u hu=>by rcases ze.1 hu with rfl|hu;exact⟨rfl,rfl⟩;exact ak u hu) ao Z Z Aa fun w5 ag bh ap=>?_
 replace ap:BX w5.heap w2.heap.size [zI i2,a6,au,b4]:=ap
 have ah:AF w w5:=ag.below ar (fun _ h=>zE h) ar.size
 have b3:w3.heap.size≤w5.heap.size:=ag.size
 have a4:Au [w2.heap.size] w2 w5:=(Au.of_ext _ b2).trans ag
 have a1:=AF.refl w5
 refine Ac 1 Z<|A0<|bZ [0,0] Z<|Ad 1 Z ?_
 have b5:¬(c2≠((0:Nat):Int)):=oM
 refine AT false Z Z (A6 b5) Aa<|Aj<|Ah Z<|A2<|bZ [2,0,0,3,0,0,0,0] Z ?_
 have a7:c2=0:=by omega
 obtain⟨bi,hTB,b6,hxl,hEn,b7,b8,b9⟩:=am a7
 have a8:=a5
 rw[a7]at a8
 have hRc:JM p (f).toNat a bj T2:=⟨bd,zO,zO,hna,_,a8⟩
 have hTR:=hRc.tpr hTB b6
 have a9:RN [] (DM 4 On) w5.heap a6 T2.code:=RN.ext (An Bb) (RN.none (RN.chg (An Bb) (RG.rnG (g:=w2.heap.size) (An Bb) b7 oM) a4)) a1
 have aa:RN [] (DM 2 Oo) w5.heap au T2.grd:=RN.ext (An Bm) (RN.none (RN.chg (An Bm) (RG.rnG (g:=w2.heap.size) (An Bm) b8 oM) a4)) a1
 have ab:RN [] (B3 rI) w5.heap b4 bj:=RN.ext g1 (RN.none (RN.chg g1 (RG.rnG (g:=w2.heap.size) g1 b9 oM) a4)) a1
 refine AK (p:=zP w2.heap.size) (.inr Z) [zI i2,a6,au,b4] Fj Z (fun bm aj=>LD.of_box<|BX.ext (w:=w5) ap aj) Z Aa<|Ad 2 Z<|As 31 [] [] [.agg #[zI i2,a6,au,b4],va,vw] Z Z aZ Aa (IR _ (i2) a6 au b4 (T2) (bj) _ _ _ _ al a9 aa ab (ha.ext g1 ah) (hws.ext g1 ah) oM hTR (by exact⟨zO,hw.2⟩)) ?_
 rintro e8 w8 ⟨a0,rfl,a3,ac⟩
 refine⟨_,rfl,a3,?_⟩
 have ba:=a3.size
 have bb:=ah.trans a3
 exact AM (vs:=[a0,zI 0]) a0 Z Z Aa<|AM (vs:=[a0,zI 0]) (zI 0) Z Z Aa<|Ac 2 Z<|A1<|Af [8,9] Z (.tuple #[a0,zI 0]) Z ⟨a0,rfl,bb,(by have h:=(ac.up o1).low ah.size;rwa [hRc.bkR (m:=2) (by decide) (FH hRc.n hRc.n)<|FI _ _]at h)⟩
theorem Oh {p:Prop}(h:p:=by first|(have h:=Hh _ _ _;rw[Ht hgc,hLg,show(i+1).toNat=0 from by omega];exact h)|(rw[GO (by rw[EF hg0];omega)];exact Hh _ _ _)|(rw[GO (by rw[FZ (by rw[FX oM];omega)];exact(by rw[FX oM];omega))];exact Hh _ _ _)|(rw[GO (by rw[FZ (by rw[FY oM (CX (by assumption))];omega)];exact(by rw[FY oM (CX (by assumption))];omega))];exact Hh _ _ _)):p:=h
theorem LE {p:Prop}(h:p:=by first|(rw[hgc];done)|(rw[hgc];rfl)|(rw[EF hg0];done)|(rw[FZ (by rw[FX oM];omega),FX oM];done)|(rw[FZ (by rw[FY oM (CX (by assumption))];omega),FY oM (CX (by assumption))];rfl)):p:=h
theorem LF {p:Prop}(h:p:=by first|(rw[hgc];omega)|(rw[EF hg0];exact ‹PU p f.toNat a n.toNat›.code)|(rw[FZ (by rw[FX oM];omega)];omega)|(rw[FZ (by rw[FY oM (CX (by assumption))];omega)];omega)):p:=h
theorem VQ {p:Prop}(h:p:=by rw[show(i-1+1).toNat=i.toNat from by omega,hLg,show(i+1).toNat=i.toNat+1 from by omega,hti];rfl):p:=h
theorem VR {p:Prop}(h:p:=by rw[hti];exact(hCh.rc (k:=i.toNat) oM).elim fun _ h=>h.elim fun _ h=>h.bkR_num):p:=h
theorem C7 (w:World)(dp:Nat)(vp:Value)(p:List Fn)(f:Int)(va:Value)(a:Sr)(vw:Value)(ws:Sr)(n:Int)(hp:RP [] dp w.heap vp p)(_hf:Bx f)(ha:Rd (B3 rI) w.heap va a)(hws:Rd (B3 rI) w.heap vw ws)(_hn:Bx n)(hz:PJ p) :
  Calls Tryz.prog 47 #[(.agg #[vp]),zI f,va,vw,zI n] w (fun e w'=>∃v0:Value,e=.returned (.tuple #[v0,zI (D7 p f a ws n)])∧AF w w'∧Fr (Bh rI 2) w.heap.size w'.heap.size w'.heap v0 (Uu p f a ws n)∧(0≤D7 p f a ws n∧D7 p f a ws n≤9)):=by
 refine Aq [.agg #[vp],zI f,va,vw,zI n] 66 Tryz.func47 Z Z sM ?_
 have c4:AF w w:=AF.refl w
 have dd:=hp.lenle
 unfold maxLen at dd
 have dh:=ha.lenle
 have di:=hws.lenle
 refine bZ [3,0,0] Z (Bu (cs:=#[vp]) Z Aa fun w1 bz ch c0=>?_)
 have bb:=bz.size
 have bc:=c4.trans bz
 replace c0:BX w1.heap w.heap.size [vp]:=c0
 refine Ac 2 Z<|bZ [2,0,0,0,3,3,0] Z<|AK (p:=zP w.heap.size) (.inr Z) [vp] BZ Z (fun de ay=>LD.of_box<|BX.ext (w:=w1) c0 ay) Z Aa<|Ad 3 Z (Qj (x0:=a) (x1:=ws) BH B8 Z Z Z (RN.of<|ha.ext g1 bc) (RN.of<|hws.ext g1 bc) Aa fun v2 w2 bd ci cj d3=>?_)
 have be:=bd.size
 have c1:=bc.trans bd
 have bf:=c0.ext bd
 refine As 125 [] [] [.agg #[vp],zI f,v2] Z Z Vp Aa (Gt _ dp vp (p) _ v2 ([a,ws]) (hp.ext (An<|Av dp) c1) _hf cj d3 hz) ?_
 rintro e3 w3 ⟨rfl,b2⟩
 refine⟨_,rfl,b2,?_⟩
 have c5:=b2.size
 have b9:=c1.trans b2
 have ap:=bf.ext b2
 have ck:=cj.ext g2 b2
 refine Ac 1 Z<|A0<|bZ [0,0,0,0,3,0,0] Z ?_
 have hcr:=Kt p f [a,ws]
 refine Ad 1 Z ?_
 by_cases cl:EQ p f ([a,ws])=((0:Nat):Int)
 ·refine Am true Z Z (A5 cl) Aa<|Ad 2 Z<|As 126 [] [] [zI n] Z Z Vq (Ae (e:=24) Z Z Z) (H2 _ _ _hn) ?_
  rintro e6 w6 ⟨rfl,ba⟩
  refine⟨_,rfl,ba,?_⟩
  have d4:=ba.size
  have bg:=b9.trans ba
  have b1:=ap.ext ba
  have d5:=ck.ext g2 ba
  refine Bn (!(E7 n 0 40)) Z Z (Ae (e:=24) Z Z Z)<|Ac 1 Z ?_
  cases cm:(!(E7 n 0 40))
  ·refine Ah (by first|rfl|exact zW cm)<|A2<|A0<|bZ [0,0] Z ?_
   have hdr:=Lg (p:=p) (f:=f) (a:=a) (ws:=ws) (n:=n)
   refine Ad 1 Z ?_
   by_cases cn:EQ p f ([a,ws])≠((0:Nat):Int)
   ·refine AT true Z Z (A5 cn) Aa<|Aj<|Ag Z<|bZ [0,0,0] Z<|Ac 3 Z<|A1<|Al ?_
    exact Af [10,11] Z (.tuple #[zN,zI<|EQ p f<|[a,ws]]) Z ⟨zN,LE,bg,Oh,LF⟩
   refine AT false Z Z (A6 cn) Aa<|Aj<|Ah Z<|A2<|bZ [2,0,0,0,3,0,0,0,0,0] Z ?_
   have hg0:I1 p f a ws n=0:=by first|exact Iz oM (Do (by assumption))|(exfalso;omega)
   have c6:=SR hg0
   have a6:=Vk c6.1
   have da:=FG a6.1
   refine AK (p:=zP w.heap.size) (.inr Z) [vp] BZ Z (fun de ay=>LD.of_box<|BX.ext (w:=w6) b1 ay) Z Aa<|Ad 3 Z<|As 127 [] [] [.agg #[vp],zI f,va,zI n] Z Z Ql Aa (Cp _ dp vp (p) _ _ _ _ (hp.ext (An<|Av dp) bg) _hf (ha.ext g1 bg) _hn da oM oM a6.2.2.2.1.2 oM oM) ?_
   rintro dj db ⟨a0,rfl,aj,aq,c7⟩
   refine⟨_,rfl,aj,?_⟩
   have co:=aj.size
   have a7:=bg.trans aj
   have b3:=b1.ext aj
   have c8:=d5.ext g2 aj
   refine Ad 1 Z<|AM (vs:=[a0,zI<|Eo p f.toNat a n.toNat]) a0 Z Z Aa<|AM (vs:=[a0,zI<|Eo p f.toNat a n.toNat]) (zI<|Eo p f.toNat a n.toNat) Z Z Aa<|Ac 2 Z<|A0<|bZ [0,0] Z<|Ad 1 Z ?_
   by_cases bh:Eo p f.toNat a n.toNat≠((0:Nat):Int)
   ·refine AT true Z Z (A5 bh) Aa<|Aj<|Ag Z<|bZ [0,0,0] Z<|Ac 3 Z<|A1<|Al ?_
    exact Af [10,11] Z (.tuple #[zN,zI<|Eo p f.toNat a n.toNat]) Z ⟨zN,LE,a7,Oh,LF⟩
   refine AT false Z Z (A6 bh) Aa<|Aj<|Ah Z<|A2<|bZ [0,3,0] Z ?_
   have hpar:=da.par f.toNat oM
   have hrk:Eo p f.toNat a n.toNat=0:=by omega
   have hCh:Mr p f.toNat a n.toNat:=⟨da,zO,a6.2.2.1.2,a6.2.2.2.1.1,a6.2.2.2.1.2,hrk⟩
   have hgc:D7 p f a ws n=0:=by rw[EF hg0];exact hrk
   have bi:Fr (Bh (Bh rI 2) 27) w6.heap.size db.heap.size db.heap a0 (CC (n.toNat+1) (Ch p f.toNat a)):=by have h:=aq;rwa [K6 hrk]at h
   have htl:(CC (n.toNat+1) (Ch p f.toNat a)).length=n.toNat+1:=by simp[CC]
   refine Ad 1 Z<|As 130 [] [] [vw] Z Z Qm Aa (BG _ _ _ (hws.ext g1 a7) oM) ?_
   rintro dk dm ⟨bj,rfl,a8,ar⟩
   refine⟨_,rfl,a8,?_⟩
   have bk:=a8.size
   have bl:=a7.trans a8
   have b4:=b3.ext a8
   have au:=bi.ext (o2) a8
   have d6:=c8.ext g2 a8
   refine Ac 1 Z<|A0<|bZ [0,0,0] Z<|Ad 1 Z<|Bs (n-1) Z Z (Da oM oM) Aa<|Ac 1 Z<|A3 ?_
   refine B1 (S:=Int×Value×Sr) (fun⟨i,vo,L⟩=>([(14,vo),(15,zI i),(1,zI f),(5,zP w.heap.size),(13,a0)])) (fun⟨i,vo,L⟩ W=>AF w W∧Fr (Bh rI 2) db.heap.size W.heap.size W.heap vo L∧Fr (Bh (Bh rI 2) 27) w6.heap.size db.heap.size W.heap a0 (CC (n.toNat+1)<|Ch p f.toNat a)∧BX W.heap w.heap.size [vp]∧(-1≤i∧i<n)∧((L.length:Int)=(p.getD f.toNat Fn.zero).params)∧B2 L=true∧Jt p f.toNat a n.toNat ws=Jt p f.toNat a (i+1).toNat L∧w.heap.size<db.heap.size∧db.heap.size≤W.heap.size) (fun⟨i,vo,L⟩=>(i+1).toNat) (n-1,bj,ws) ⟨rfl,rfl,rfl,rfl,rfl,trivial⟩ ⟨bl,ar.up o1,au,b4,oM,oM,a6.2.2.2.2.2,(by rw[show(n-1+1).toNat=n.toNat from by omega]),oM,oM⟩ ?_
   clear c4 ch bz bb bc ci bd be c1 b2 c5 b9 ba aq aj ar a8 bk bl
   rintro⟨i,vo,L⟩ ρ17 df ⟨az,a2,a9,aa,c9,hLl,hLn,hLg,cp,cq⟩
   have cr:w.heap.size≤df.heap.size:=az.size
   have d7:=aa.lt
   refine A0<|bZ [0,0] Z<|Ad 1 Z ?_
   by_cases bm:((0:Nat):Int)≤i
   ·refine Dv true Z Z (A5 bm) Aa<|Aj<|Ag Z<|A2<|A0<|A3<|A0<|AO _ [1,0,0,0,0,1,0,3,0,0,0,0,0] mixed (by kernel_rfl) ?_
    have hti:=C4 (f:=Ch p f.toNat a) (n:=n.toNat+1) (k:=i.toNat) [] oM
    have his:=(hCh.low (k:=i.toNat) oM).st
    have hin:=hCh.nx (k:=i.toNat) oM
    refine AK (p:=zP w.heap.size) (.inl Z) [vp] BZ Z (fun de ay=>LD.of_box<|BX.ext (w:=df.drew) aa ay) Z Aa<|Ad 3 Z<|AB (v:=a0) ((i).toNat) BH B8 Z Z a9.isSl oM sD Aa ?_
    obtain⟨bn,bo,b5⟩:=a9.rd2.get (k:=(i).toNat) [] sD
    have ct:=b5.lenle
    refine Ai (p:=Ay a0 ((i).toNat) 1) (.inl Z) bn Bj Z bo Aa<|Ad 1 Z<|As 131 [] [] [.agg #[vp],zI f,bn,vo] Z Z Vr Aa (DL _ dp vp (p) _ _ _ _ _ (hp.ext (An<|Av dp) az.drew) _hf b5 a2.rd1 a6.1 hz oM (by rw[hti];omega) (by rw[hti];exact his.2) (by rw[hti];exact hin) (by exact⟨zO,hLn⟩)) ?_
    rintro dn dq ⟨ah,rfl,a4,ab⟩
    refine⟨_,rfl,a4,?_⟩
    replace a4:=a4.of_drew
    have cu:=a4.size
    have ca:=az.trans a4
    have ak:=a9.ext (o2) a4
    have al:=aa.ext a4
    have c2:=b5.ext g1 a4
    have cv:=AZ a4 bo
    replace ab:=ab.low (B':=df.heap.size)<|A7 _
    refine Ad 1 Z<|AM (vs:=[ah,zI 0]) ah Z Z Aa<|AM (vs:=[ah,zI 0]) (zI 0) Z Z Aa<|Ac 2 Z<|bZ [0,0] Z<|Ad 1 Z ?_
    have cb:¬(0≠((0:Nat):Int)):=(fun h9=>h9 Z)
    exact AT false Z Z (A6 cb) Aa<|Aj<|Ah Z<|A2<|Ab _ [0,0,0] Z<|Ad 1 Z<|Bs (i-1) Z Z (Da oM oM) Aa<|Ac 1 Z ⟨(i-1,ah,SQ p f.toNat ((CC (n.toNat+1)<|Ch p f.toNat a).getD ((i).toNat) []) L),_,rfl,zR,⟨ca,(ab.up o1).low oM,ak,al,oM,(by rw[FK,hti];omega),VR,VQ,oM,oM⟩,zD⟩
   refine Dv false Z Z (A6 bm) Aa<|Aj<|Ah Z<|A4<|Ax<|Ax<|At<|bZ [0,0,0] Z<|Ac 3 Z<|A1 ?_
   exact Af [10,11] Z (.tuple #[vo,zI ((0:Nat):Int)]) Z ⟨vo,LE,az,(by first|(have h:=(a2.up o1).low a7.size;rw[Ht hgc,hLg,show(i+1).toNat=0 from by omega];exact h)|(rw[GO (by rw[EF hg0];omega)];exact(a2.up o1).low a7.size)|(rw[GO (by rw[FZ (by rw[FX oM];omega)];exact(by rw[FX oM];omega))];exact(a2.up o1).low a7.size)|(rw[GO (by rw[FZ (by rw[FY oM<|CX (by assumption)];omega)];exact(by rw[FY oM<|CX (by assumption)];omega))];exact(a2.up o1).low a7.size)),LF⟩
  refine Ag (by first|rfl|exact zW cm)<|Ab _ [0] Z<|Ac 1 Z<|A0<|bZ [0,0] Z ?_
  have hdr:=Lg (p:=p) (f:=f) (a:=a) (ws:=ws) (n:=n)
  refine Ad 1 Z<|AT true Z Z (by decide) Aa<|Aj<|Ag Z<|bZ [0,0,0] Z<|Ac 3 Z<|A1<|Al ?_
  exact Af [10,11] Z (.tuple #[zN,zI ((2:Nat):Int)]) Z ⟨zN,LE,bg,Oh,LF⟩
 refine Am false Z Z (A6 cl) Aa<|Ac 5 Z<|Ah Z<|A2<|A0<|bZ [0,0] Z ?_
 have hdr:=Lg (p:=p) (f:=f) (a:=a) (ws:=ws) (n:=n)
 refine Ad 1 Z ?_
 by_cases bp:EQ p f ([a,ws])≠((0:Nat):Int)
 ·refine AT true Z Z (A5 bp) Aa<|Aj<|Ag Z<|bZ [0,0,0] Z<|Ac 3 Z<|A1<|Al ?_
  exact Af [10,11] Z (.tuple #[zN,zI<|EQ p f<|[a,ws]]) Z ⟨zN,LE,b9,Oh,LF⟩
 refine AT false Z Z (A6 bp) Aa<|Aj<|Ah Z<|A2<|bZ [2,0,0,0,3,0,0,0,0,0] Z ?_
 have hg0:I1 p f a ws n=0:=by first|exact Iz oM (Do (by assumption))|(exfalso;omega)
 have c6:=SR hg0
 have a6:=Vk c6.1
 have da:=FG a6.1
 refine AK (p:=zP w.heap.size) (.inr Z) [vp] BZ Z (fun de ay=>LD.of_box<|BX.ext (w:=w3) ap ay) Z Aa<|Ad 3 Z<|As 127 [] [] [.agg #[vp],zI f,va,zI n] Z Z Ql Aa (Cp _ dp vp (p) _ _ _ _ (hp.ext (An<|Av dp) b9) _hf (ha.ext g1 b9) _hn da oM oM a6.2.2.2.1.2 oM oM) ?_
 rintro dr dc ⟨a1,rfl,am,av,cc⟩
 refine⟨_,rfl,am,?_⟩
 have cw:=am.size
 have ac:=b9.trans am
 have b6:=ap.ext am
 have cd:=ck.ext g2 am
 refine Ad 1 Z<|AM (vs:=[a1,zI<|Eo p f.toNat a n.toNat]) a1 Z Z Aa<|AM (vs:=[a1,zI<|Eo p f.toNat a n.toNat]) (zI<|Eo p f.toNat a n.toNat) Z Z Aa<|Ac 2 Z<|A0<|bZ [0,0] Z<|Ad 1 Z ?_
 by_cases bq:Eo p f.toNat a n.toNat≠((0:Nat):Int)
 ·refine AT true Z Z (A5 bq) Aa<|Aj<|Ag Z<|bZ [0,0,0] Z<|Ac 3 Z<|A1<|Al ?_
  exact Af [10,11] Z (.tuple #[zN,zI<|Eo p f.toNat a n.toNat]) Z ⟨zN,LE,ac,Oh,LF⟩
 refine AT false Z Z (A6 bq) Aa<|Aj<|Ah Z<|A2<|bZ [0,3,0] Z ?_
 have hpar:=da.par f.toNat oM
 have hrk:Eo p f.toNat a n.toNat=0:=by omega
 have hCh:Mr p f.toNat a n.toNat:=⟨da,zO,a6.2.2.1.2,a6.2.2.2.1.1,a6.2.2.2.1.2,hrk⟩
 have hgc:D7 p f a ws n=0:=by rw[EF hg0];exact hrk
 have br:Fr (Bh (Bh rI 2) 27) w3.heap.size dc.heap.size dc.heap a1 (CC (n.toNat+1) (Ch p f.toNat a)):=by have h:=av;rwa [K6 hrk]at h
 have htl:(CC (n.toNat+1) (Ch p f.toNat a)).length=n.toNat+1:=by simp[CC]
 refine Ad 1 Z<|As 130 [] [] [vw] Z Z Qm Aa (BG _ _ _ (hws.ext g1 ac) oM) ?_
 rintro ds dt ⟨bs,rfl,ad,aw⟩
 refine⟨_,rfl,ad,?_⟩
 have bt:=ad.size
 have bu:=ac.trans ad
 have b7:=b6.ext ad
 have ax:=br.ext (o2) ad
 have d8:=cd.ext g2 ad
 refine Ac 1 Z<|A0<|bZ [0,0,0] Z<|Ad 1 Z<|Bs (n-1) Z Z (Da oM oM) Aa<|Ac 1 Z<|A3 ?_
 refine B1 (S:=Int×Value×Sr) (fun⟨i,vo,L⟩=>([(14,vo),(15,zI i),(1,zI f),(5,zP w.heap.size),(13,a1)])) (fun⟨i,vo,L⟩ W=>AF w W∧Fr (Bh rI 2) dc.heap.size W.heap.size W.heap vo L∧Fr (Bh (Bh rI 2) 27) w3.heap.size dc.heap.size W.heap a1 (CC (n.toNat+1)<|Ch p f.toNat a)∧BX W.heap w.heap.size [vp]∧(-1≤i∧i<n)∧((L.length:Int)=(p.getD f.toNat Fn.zero).params)∧B2 L=true∧Jt p f.toNat a n.toNat ws=Jt p f.toNat a (i+1).toNat L∧w.heap.size<dc.heap.size∧dc.heap.size≤W.heap.size) (fun⟨i,vo,L⟩=>(i+1).toNat) (n-1,bs,ws) ⟨rfl,rfl,rfl,rfl,rfl,trivial⟩ ⟨bu,aw.up o1,ax,b7,oM,oM,a6.2.2.2.2.2,(by rw[show(n-1+1).toNat=n.toNat from by omega]),oM,oM⟩ ?_
 clear c4 ch bz bb bc ci bd be c1 b2 av am aw ad bt bu
 rintro⟨i,vo,L⟩ ρ33 dg ⟨b0,a3,ae,af,ce,hLl,hLn,hLg,cx,cy⟩
 have cz:w.heap.size≤dg.heap.size:=b0.size
 have d9:=af.lt
 refine A0<|bZ [0,0] Z<|Ad 1 Z ?_
 by_cases bv:((0:Nat):Int)≤i
 ·refine Dv true Z Z (A5 bv) Aa<|Aj<|Ag Z<|A2<|A0<|A3<|A0<|AO _ [1,0,0,0,0,1,0,3,0,0,0,0,0] mixed (by kernel_rfl) ?_
  have hti:=C4 (f:=Ch p f.toNat a) (n:=n.toNat+1) (k:=i.toNat) [] oM
  have his:=(hCh.low (k:=i.toNat) oM).st
  have hin:=hCh.nx (k:=i.toNat) oM
  refine AK (p:=zP w.heap.size) (.inl Z) [vp] BZ Z (fun de ay=>LD.of_box<|BX.ext (w:=dg.drew) af ay) Z Aa<|Ad 3 Z<|AB (v:=a1) ((i).toNat) BH B8 Z Z ae.isSl oM sD Aa ?_
  obtain⟨bw,bx,b8⟩:=ae.rd2.get (k:=(i).toNat) [] sD
  have d0:=b8.lenle
  refine Ai (p:=Ay a1 ((i).toNat) 1) (.inl Z) bw Bj Z bx Aa<|Ad 1 Z<|As 131 [] [] [.agg #[vp],zI f,bw,vo] Z Z Vr Aa (DL _ dp vp (p) _ _ _ _ _ (hp.ext (An<|Av dp) b0.drew) _hf b8 a3.rd1 a6.1 hz oM (by rw[hti];omega) (by rw[hti];exact his.2) (by rw[hti];exact hin) (by exact⟨zO,hLn⟩)) ?_
  rintro du dv ⟨ai,rfl,a5,ag⟩
  refine⟨_,rfl,a5,?_⟩
  replace a5:=a5.of_drew
  have d1:=a5.size
  have cf:=b0.trans a5
  have an:=ae.ext (o2) a5
  have ao:=af.ext a5
  have c3:=b8.ext g1 a5
  have d2:=AZ a5 bx
  replace ag:=ag.low (B':=dg.heap.size)<|A7 _
  refine Ad 1 Z<|AM (vs:=[ai,zI 0]) ai Z Z Aa<|AM (vs:=[ai,zI 0]) (zI 0) Z Z Aa<|Ac 2 Z<|bZ [0,0] Z<|Ad 1 Z ?_
  have cg:¬(0≠((0:Nat):Int)):=(fun h9=>h9 Z)
  exact AT false Z Z (A6 cg) Aa<|Aj<|Ah Z<|A2<|Ab _ [0,0,0] Z<|Ad 1 Z<|Bs (i-1) Z Z (Da oM oM) Aa<|Ac 1 Z ⟨(i-1,ai,SQ p f.toNat ((CC (n.toNat+1)<|Ch p f.toNat a).getD ((i).toNat) []) L),_,rfl,zR,⟨cf,(ag.up o1).low oM,an,ao,oM,(by rw[FK,hti];omega),VR,VQ,oM,oM⟩,zD⟩
 refine Dv false Z Z (A6 bv) Aa<|Aj<|Ah Z<|A4<|Ax<|Ax<|At<|bZ [0,0,0] Z<|Ac 3 Z<|A1 ?_
 exact Af [10,11] Z (.tuple #[vo,zI ((0:Nat):Int)]) Z ⟨vo,LE,b0,(by first|(have h:=(a3.up o1).low ac.size;rw[Ht hgc,hLg,show(i+1).toNat=0 from by omega];exact h)|(rw[GO (by rw[EF hg0];omega)];exact(a3.up o1).low ac.size)|(rw[GO (by rw[FZ (by rw[FX oM];omega)];exact(by rw[FX oM];omega))];exact(a3.up o1).low ac.size)|(rw[GO (by rw[FZ (by rw[FY oM<|CX (by assumption)];omega)];exact(by rw[FY oM<|CX (by assumption)];omega))];exact(a3.up o1).low ac.size)),LF⟩
theorem GW {p:Prop}(h:p:=by intro u hu;simp only[ze,z2,or_false]at hu;rcases hu with rfl|rfl|rfl|rfl|rfl <;> first|exact⟨rfl,rfl⟩):p:=h
theorem Pd {p:Prop}(h:p:=by simp only[zc,zf,zh];rfl):p:=h
theorem Pe {p:Prop}(h:p:=by first|exact OK.var oM|exact OK.num oM):p:=h
theorem CZ (w:World)(gg gs:Nat)(sv:Value)(cs:List UInt8)(n0:Nat)(pp:Value)(dp:Nat)(l0:Int)(pl:Bool)(p:List Fn)(vars:Int)(hgg:gs<gg)(hs:EB w.heap gs sv cs n0)(hB0:BX w.heap gg [zP gs,pp,zI l0,.bool pl])(hp:RN [gs,gg] (rP (Ki dp)) w.heap pp p)(_hvars:Bx vars)(hv:0≤vars∧vars≤1000)(hn:n0+20≤1000000000000) :
  Calls Tryz.prog 196 #[zP gg,zI vars] w (fun e w'=>∃(ex:Ex) (n1:Nat),e=.returned (.agg #[zI ex.kind,zI ex.num,zI ex.pick,zI ex.count,zN])∧Au [gs,gg] w w'∧EB w'.heap gs sv cs n1∧(n0≤n1∧n1≤n0+20)∧BX w'.heap gg [zP gs,pp,zI l0,.bool pl]∧Ty ex∧ex.kids=[]∧OK p vars ex):=by
 refine Aq [zP gg,zI vars] 28 Tryz.func196 Z Z sM ?_
 have bh:Au [gs,gg] w w:=Au.refl [gs,gg] w
 have ca:=hs.lt
 have bi:=hB0.lt
 refine bZ [3] Z ?_
 have bu:=hB0.lt
 refine Bo (z:=.agg #[zI 0,zI 0,zI 0,zI 0,zN]) Hw Aa fun w1 ad bv ae=>?_
 have bj:w.heap.size≤w1.heap.size:=ad.size
 have b4:Au [gs,gg] w w1:=bh.ext ad
 have a9:=hs.ext ad
 have a0:=hB0.ext ad
 replace ae:BX w1.heap w.heap.size [zI 0,zI 0,zI 0,zI 0,zN]:=ae
 refine Aj<|A0<|bZ [0,0,0,0,0,0,2,4,0,0] Z<|Ad 1 Z ?_
 by_cases b5:((0:Nat):Int)<vars
 ·refine BU true Z Z (A5 b5) Aa<|Ad 2 Z<|AY Z (Ae (e:=7) Z Z Z)<|Ak (p:=zP gg) 0 Ep Z Z (Ae (e:=7) Z Z Z)<|Ai (p:=Ap (zP gg) 0) (.inr Z) (zP gs) Id Z (a0.ldp (i:=0) sM) (Ae (e:=7) Z Z Z) ?_
  refine AA 122 [] [] [zP gs,zI ((4:Nat):Int)] Z Z Ms (Ae (e:=7) Z Z Z) (C8 _ gs _ _ _ ((4:Nat):Int) a9 oM oM sD) ?_
  rintro e4 w4 ⟨c2,n4,rfl,af,b6,bw,b7⟩
  refine⟨_,rfl,?_⟩
  have bk:w1.heap.size≤w4.heap.size:=af.size
  have b8:Au [gs,gg] w w4:=b4.trans (af.sub FV)
  have ag:=a0.chg af (zB ·)
  have b9:=ae.chg af (zB ·)
  refine Bn (!c2) Z Z (Ae (e:=7) Z Z Z)<|Ac 1 Z ?_
  cases ba:(!c2)
  ·refine Ah (by first|rfl|exact zW ba)<|A2<|bZ [0,0,0,2,4,0,4] Z<|Ad 1 Z<|AY Z Aa<|Ak (p:=zP gg) 0 Ep Z Z Aa<|Ai (p:=Ap (zP gg) 0) (.inr Z) (zP gs) Id Z (ag.ldp (i:=0) sM) Aa<|AA 152 [] [] [zP gs] Z Z SX Aa (G0 _ gs _ _ _ b6 oM) ?_
   rintro e8 w8 ⟨c1,n8,rfl,ah,bl,bx,bb⟩
   refine⟨_,rfl,?_⟩
   have bm:w4.heap.size≤w8.heap.size:=ah.size
   have bn:Au [gs,gg] w w8:=b8.trans (ah.sub FV)
   have bo:=ag.chg ah (zB ·)
   have ai:=b9.chg ah (zB ·)
   have aa:∀(wq:World),(Instr.build 153 #[(0,zI ((1:Nat):Int)),(1,zI c1)]).run Tryz.prog wq=.ok (.agg #[zI ((1:Nat):Int),zI c1,zI 0,zI 0,zN]) wq:=by intro wq;kernel_rfl
   refine C3 (ps:=#[(0,zI ((1:Nat):Int)),(1,zI c1)]) (.agg #[zI ((1:Nat):Int),zI c1,zI 0,zI 0,zN]) Pd (fun wq=>aa  wq) Aa (Bz (vs:=[zI ((1:Nat):Int),zI c1,zI 0,zI 0,zN]) B6 Z Z GW ai Z Z Aa fun c3 a1 bp a6=>?_)
   replace a6:BX c3.heap w.heap.size [zI ((1:Nat):Int),zI c1,zI 0,zI 0,zN]:=a6
   have bc:w8.heap.size≤c3.heap.size:=a1.size
   have aj:Au [gs,gg] w c3:=bn.fresh a1 (fun _ h=>zE h)
   have ak:=bl.chg a1 fun c hc=>zH<|A9 hc
   have al:=bo.chg a1 (zB ·)
   exact Aj<|A1<|CI (cs:=[zI ((1:Nat):Int),zI c1,zI 0,zI 0,zN]) Z B6 Z a6 Z ⟨.mk ((1:Nat):Int) c1 0 0 [],n8,rfl,aj,ak,⟨zO,zO⟩,al,KT oM oM oM oM,rfl,Pe⟩
  refine Ag (by first|rfl|exact zW ba)<|bZ [0,0,0,2,0,4,0,4] Z<|Ad 1 Z<|AY Z Aa<|Ak (p:=zP gg) 0 Ep Z Z Aa<|Ai (p:=Ap (zP gg) 0) (.inr Z) (zP gs) Id Z (ag.ldp (i:=0) sM) Aa<|Ad 1 Z ?_
  refine AA 68 [] [] [zP gs,zI vars] Z Z H8 Aa (AV _ gs _ _ _ (vars) b6 oM _hvars sD) ?_
  rintro cb c4 ⟨bz,c8,rfl,a2,am,bq,an⟩
  refine⟨_,rfl,?_⟩
  have bd:w4.heap.size≤c4.heap.size:=a2.size
  have ao:Au [gs,gg] w c4:=b8.trans (a2.sub FV)
  have ap:=ag.chg a2 (zB ·)
  have aq:=b9.chg a2 (zB ·)
  have ab:∀(wq:World),(Instr.build 153 #[(0,zI ((2:Nat):Int)),(1,zI bz)]).run Tryz.prog wq=.ok (.agg #[zI ((2:Nat):Int),zI bz,zI 0,zI 0,zN]) wq:=by intro wq;kernel_rfl
  refine C3 (ps:=#[(0,zI ((2:Nat):Int)),(1,zI bz)]) (.agg #[zI ((2:Nat):Int),zI bz,zI 0,zI 0,zN]) Pd (fun wq=>ab  wq) Aa (Bz (vs:=[zI ((2:Nat):Int),zI bz,zI 0,zI 0,zN]) B6 Z Z GW aq Z Z Aa fun c5 a3 br a7=>?_)
  replace a7:BX c5.heap w.heap.size [zI ((2:Nat):Int),zI bz,zI 0,zI 0,zN]:=a7
  have be:c4.heap.size≤c5.heap.size:=a3.size
  have ar:Au [gs,gg] w c5:=ao.fresh a3 (fun _ h=>zE h)
  have au:=am.chg a3 fun c hc=>zH<|A9 hc
  have av:=ap.chg a3 (zB ·)
  exact Aj<|A1<|Al<|CI (cs:=[zI ((2:Nat):Int),zI bz,zI 0,zI 0,zN]) Z B6 Z a7 Z ⟨.mk ((2:Nat):Int) bz 0 0 [],c8,rfl,ar,au,⟨zO,zO⟩,av,KT oM oM oM oM,rfl,Pe⟩
 refine BU false Z Z (A6 b5) Aa<|Ac 8 Z<|Ah Z<|A2<|bZ [0,0,0,2,4,0,4] Z<|Ad 1 Z<|AY Z Aa<|Ak (p:=zP gg) 0 Ep Z Z Aa<|Ai (p:=Ap (zP gg) 0) (.inr Z) (zP gs) Id Z (a0.ldp (i:=0) sM) Aa<|AA 152 [] [] [zP gs] Z Z SX Aa (G0 _ gs _ _ _ a9 oM) ?_
 rintro cc c6 ⟨c0,c9,rfl,a4,aw,bs,ax⟩
 refine⟨_,rfl,?_⟩
 have bf:w1.heap.size≤c6.heap.size:=a4.size
 have ay:Au [gs,gg] w c6:=b4.trans (a4.sub FV)
 have az:=a0.chg a4 (zB ·)
 have b0:=ae.chg a4 (zB ·)
 have ac:∀(wq:World),(Instr.build 153 #[(0,zI ((1:Nat):Int)),(1,zI c0)]).run Tryz.prog wq=.ok (.agg #[zI ((1:Nat):Int),zI c0,zI 0,zI 0,zN]) wq:=by intro wq;kernel_rfl
 refine C3 (ps:=#[(0,zI ((1:Nat):Int)),(1,zI c0)]) (.agg #[zI ((1:Nat):Int),zI c0,zI 0,zI 0,zN]) Pd (fun wq=>ac  wq) Aa (Bz (vs:=[zI ((1:Nat):Int),zI c0,zI 0,zI 0,zN]) B6 Z Z GW b0 Z Z Aa fun c7 a5 bt a8=>?_)
 replace a8:BX c7.heap w.heap.size [zI ((1:Nat):Int),zI c0,zI 0,zI 0,zN]:=a8
 have bg:c6.heap.size≤c7.heap.size:=a5.size
 have b1:Au [gs,gg] w c7:=ay.fresh a5 (fun _ h=>zE h)
 have b2:=aw.chg a5 fun c hc=>zH<|A9 hc
 have b3:=az.chg a5 (zB ·)
 exact Aj<|A1<|CI (cs:=[zI ((1:Nat):Int),zI c0,zI 0,zI 0,zN]) Z B6 Z a8 Z ⟨.mk ((1:Nat):Int) c0 0 0 [],c9,rfl,b1,b2,⟨zO,zO⟩,b3,KT oM oM oM oM,rfl,Pe⟩
theorem G5 {p:Prop}(h:p:=by first|(rw[ZY oM];rfl)|(rw[ZZ oM];rfl)|(rw[aA oM];rfl)|(rw[aB oM];rfl)|(rw[aC (by assumption) (by assumption) (by assumption) (by assumption) (by assumption) (by assumption) (by assumption) (by assumption) (by assumption)])):p:=h
theorem bV (w:World)(k:Int)(_hk:Bx k)  :
  Calls Tryz.prog 198 #[zI k] w (fun e w'=>e=.returned (zI (kn k))∧w'=w):=by
 refine Aq [zI k] 17 Tryz.func198 Z Z sM ?_
 have a0:w=w:=rfl
 refine cA Z<|A0<|cA Z<|A3<|A0<|bZ [0,0] Z ?_
 by_cases a1:k=((1:Nat):Int)
 ·exact Am true Z Z (A5 a1) Aa<|Ac 1 Z<|Ag Z<|A2<|Ag Z<|cA Z<|A1<|AC<|Al<|Af [2] Z (zI ((0:Nat):Int)) Z ⟨G5,a0⟩
 refine Am false Z Z (A6 a1) Aa<|Ac 1 Z<|Ah Z<|Ab _ [0,0] Z ?_
 by_cases a2:k=((2:Nat):Int)
 ·exact Am true Z Z (A5 a2) Aa<|Ac 1 Z<|Ag Z<|cA Z<|A1<|AC<|Al<|Af [2] Z (zI ((0:Nat):Int)) Z ⟨G5,a0⟩
 refine Am false Z Z (A6 a2) Aa<|Ac 1 Z<|Ah Z<|A0<|bZ [0,0] Z ?_
 by_cases a3:k=((3:Nat):Int)
 ·exact Am true Z Z (A5 a3) Aa<|Ac 1 Z<|Ag Z<|A2<|Ag Z<|cA Z<|A1<|AC<|Al<|Af [2] Z (zI ((2:Nat):Int)) Z ⟨G5,a0⟩
 refine Am false Z Z (A6 a3) Aa<|Ac 1 Z<|Ah Z<|bZ [0,0] Z ?_
 by_cases a4:k=((4:Nat):Int)
 ·exact Am true Z Z (A5 a4) Aa<|Ac 1 Z<|Ag Z<|A2<|Ag Z<|cA Z<|A1<|AC<|Al<|Af [2] Z (zI ((2:Nat):Int)) Z ⟨G5,a0⟩
 refine Am false Z Z (A6 a4) Aa<|Ac 1 Z<|Ah Z<|bZ [0,0] Z ?_
 by_cases a5:k=((5:Nat):Int)
 ·exact Am true Z Z (A5 a5) Aa<|Ac 1 Z<|Ag Z<|A2<|Ag Z<|cA Z<|A1<|AC<|Al<|Af [2] Z (zI ((2:Nat):Int)) Z ⟨G5,a0⟩
 refine Am false Z Z (A6 a5) Aa<|Ac 1 Z<|Ah Z<|bZ [0,0] Z ?_
 by_cases a6:k=((6:Nat):Int)
 ·exact Am true Z Z (A5 a6) Aa<|Ac 1 Z<|Ag Z<|A2<|Ag Z<|cA Z<|A1<|AC<|Al<|Af [2] Z (zI ((2:Nat):Int)) Z ⟨G5,a0⟩
 refine Am false Z Z (A6 a6) Aa<|Ac 1 Z<|Ah Z<|Ab _ [0,0] Z ?_
 by_cases a7:k=((9:Nat):Int)
 ·exact Am true Z Z (A5 a7) Aa<|Ac 1 Z<|Ag Z<|cA Z<|A1<|AC<|Al<|Af [2] Z (zI ((2:Nat):Int)) Z ⟨G5,a0⟩
 refine Am false Z Z (A6 a7) Aa<|Ac 1 Z<|Ah Z<|bZ [0,0] Z ?_
 by_cases a8:k=((7:Nat):Int)
 ·exact Am true Z Z (A5 a8) Aa<|Ac 1 Z<|Ag Z<|cA Z<|A1<|AC<|Al<|Af [2] Z (zI ((1:Nat):Int)) Z ⟨G5,a0⟩
 refine Am false Z Z (A6 a8) Aa<|Ac 1 Z<|Ah Z<|bZ [0,0] Z ?_
 by_cases a9:k=((8:Nat):Int)
 ·exact Am true Z Z (A5 a9) Aa<|Ac 1 Z<|Ag Z<|cA Z<|A1<|AC<|Al<|Af [2] Z (zI ((3:Nat):Int)) Z ⟨G5,a0⟩
 exact Am false Z Z (A6 a9) Aa<|Ac 1 Z<|Ah Z<|A2<|cA Z<|A1<|Af [2] Z (zI (-1)) Z ⟨G5,a0⟩
def GX (d:Nat):Prop:=∀(w:World) (gg gs:Nat) (sv:Value) (cs:List UInt8) (n0:Nat) (pp:Value) (dp:Nat) (l0:Int) (pl:Bool) (p:List Fn) (vars funcs:Int) (hgg:gs<gg) (hs:EB w.heap gs sv cs n0) (hB0:BX w.heap gg [.pointer (some ⟨gs,0,none⟩),pp,.int .i64 l0,.bool pl]) (hp:RN [gs,gg] (rP (Ki dp)) w.heap pp p) (_hvars:Bx vars) (_hfuncs:Bx funcs) (hv:0≤vars∧vars+((d:Nat):Int)≤1000) (hfu:0≤funcs∧funcs≤((p.length:Nat):Int)) (hpr:Yb p) (hd:d≤8) (hn:n0+Hr d≤1000000000000) (hl:LP d-1000000≤l0∧l0≤1000),Calls Tryz.prog 124 #[.pointer (some ⟨gg,0,none⟩),.int .i64 vars,.int .i64 funcs,.int .i64 ((d:Nat):Int)] w (fun e w'=>∃(v:Value) (ex:Ex) (n1:Nat) (l1:Int),e=.returned (.agg #[.int .i64 ex.kind,.int .i64 ex.num,.int .i64 ex.pick,.int .i64 ex.count,v])∧Au [gs,gg] w w'∧EB w'.heap gs sv cs n1∧(n0≤n1∧n1≤n0+(Hr d))∧BX w'.heap gg [.pointer (some ⟨gs,0,none⟩),pp,.int .i64 l1,.bool pl]∧Fr (E4 5 (LM 153 d) 153) w.heap.size w'.heap.size w'.heap v ex.kids∧Ty ex∧Nn p funcs vars pl d l0 l1 ex)
def GC (d:Nat):Prop:=∀(w:World) (gg gs:Nat) (sv:Value) (cs:List UInt8) (n0:Nat) (pp:Value) (dp:Nat) (l0:Int) (pl:Bool) (p:List Fn) (vars funcs:Int) (hgg:gs<gg) (hs:EB w.heap gs sv cs n0) (hB0:BX w.heap gg [.pointer (some ⟨gs,0,none⟩),pp,.int .i64 l0,.bool pl]) (hp:RN [gs,gg] (rP (Ki dp)) w.heap pp p) (_hvars:Bx vars) (_hfuncs:Bx funcs) (hv:0≤vars∧vars+((d:Nat):Int)≤1000) (hfu:0≤funcs∧funcs≤((p.length:Nat):Int)) (hpr:Yb p) (hd:1≤d∧d≤8) (hn:n0+(20+4*Hr (d-1))≤1000000000000) (hl:1≤l0∧l0≤1000),Calls Tryz.prog 197 #[.pointer (some ⟨gg,0,none⟩),.int .i64 vars,.int .i64 funcs,.int .i64 ((d:Nat):Int)] w (fun e w'=>∃(v:Value) (ex:Ex) (n1:Nat) (l1:Int),e=.returned (.agg #[.int .i64 ex.kind,.int .i64 ex.num,.int .i64 ex.pick,.int .i64 ex.count,v])∧Au [gs,gg] w w'∧EB w'.heap gs sv cs n1∧(n0≤n1∧n1≤n0+(20+4*Hr (d-1)))∧BX w'.heap gg [.pointer (some ⟨gs,0,none⟩),pp,.int .i64 l1,.bool pl]∧Fr (E4 5 (LM 153 d) 153) w.heap.size w'.heap.size w'.heap v ex.kids∧Ty ex∧Nn p funcs vars pl d (l0+1) l1 ex)
theorem IS (w:World)(gg gs:Nat)(sv:Value)(cs:List UInt8)(n0:Nat)(pp:Value)(dp:Nat)(l0:Int)(pl:Bool)(p:List Fn)(vars:Int)(funcs:Int)(d:Nat)(hgg:gs<gg)(hs:EB w.heap gs sv cs n0)(hB0:BX w.heap gg [zP gs,pp,zI l0,.bool pl])(hp:RN [gs,gg] (rP (Ki dp)) w.heap pp p)(_hvars:Bx vars)(_hfuncs:Bx funcs)(hv:0≤vars∧vars+(d:Int)≤1000)(hfu:0≤funcs∧funcs≤(p.length:Int))(hpr:Yb p)(hd:1≤d∧d≤8)(hn:n0+(20+4*Hr (d-1))≤1000000000000)(hl:1≤l0∧l0≤1000)(IH:GX (d-1)) :
  Calls Tryz.prog 197 #[zP gg,zI vars,zI funcs,zI (d:Int)] w (fun e w'=>∃(v:Value) (ex:Ex) (n1:Nat) (l1:Int),e=.returned (.agg #[zI ex.kind,zI ex.num,zI ex.pick,zI ex.count,v])∧Au [gs,gg] w w'∧EB w'.heap gs sv cs n1∧(n0≤n1∧n1≤n0+(20+4*Hr (d-1)))∧BX w'.heap gg [zP gs,pp,zI l1,.bool pl]∧Fr (E4 5 (LM 153 d) 153) w.heap.size w'.heap.size w'.heap v ex.kids∧Ty ex∧Nn p funcs vars pl d (l0+1) l1 ex):=by
 refine Aq [zP gg,zI vars,zI funcs,zI (d:Int)] 89 Tryz.func197 Z Z sM ?_
 have dx:Au [gs,gg] w w:=Au.refl [gs,gg] w
 have ft:=hs.lt
 have ei:=hB0.lt
 have hst:=OJ (d-1)
 have hnd:=HP (d-1)
 have hnl:=RK (d:=d-1) oM
 have hpl:=hpr.len
 refine bZ [3] Z ?_
 have gh:=hB0.lt
 refine Bo (z:=.agg #[zI 0,zI 0,zI 0,zI 0,zN]) Hw Aa fun w1 bm ej ce=>?_
 have ch:w.heap.size≤w1.heap.size:=bm.size
 have cf:Au [gs,gg] w w1:=dx.ext bm
 have bn:=hs.ext bm
 have ap:=hB0.ext bm
 replace ce:BX w1.heap w.heap.size [zI 0,zI 0,zI 0,zI 0,zN]:=ce
 refine Aj<|A0<|bZ [0,0] Z<|Ad 1 Z ?_
 by_cases dy:funcs=((0:Nat):Int)
 ·refine Am true Z Z (A5 dy) Aa<|Aj<|Ag Z<|bZ [0,0,4,4] Z<|Ad 2 Z<|AA 196 [] [] [zP gg,zI vars] Z Z Qn Aa (CZ _ gg gs sv cs n0 pp dp l0 pl p (vars) oM bn ap (hp.chg (B5<|AU dp) cf) _hvars oM oM) ?_
  rintro e4 w4 ⟨x4,n4,rfl,ci,ek,gi,el,em,cj,gj⟩
  refine⟨_,rfl,?_⟩
  have en:w1.heap.size≤w4.heap.size:=ci.size
  have eo:Au [gs,gg] w w4:=cf.trans ci
  have ep:=ce.chg ci fun hm=>zH<|CA hm
  refine Bz (vs:=[zI x4.kind,zI x4.num,zI x4.pick,zI x4.count,zN]) B6 Z Z GW ep Z Z Aa fun w6 cg gk ck=>?_
  replace ck:BX w6.heap w.heap.size [zI x4.kind,zI x4.num,zI x4.pick,zI x4.count,zN]:=ck
  have eq:w4.heap.size≤w6.heap.size:=cg.size
  have er:Au [gs,gg] w w6:=eo.fresh cg (fun _ h=>zE h)
  have es:=ek.chg cg fun c hc=>zH<|A9 hc
  have et:=el.chg cg (zB ·)
  exact Aj<|A1<|Al<|CI (cs:=[zI x4.kind,zI x4.num,zI x4.pick,zI x4.count,zN]) Z B6 Z ck Z ⟨zN,x4,n4,l0,rfl,er,es,⟨zO,zO⟩,et,(by rw[cj];exact GE _ _ _),em,(by exact OK.okc (by assumption) d)⟩
 refine Am false Z Z (A6 dy) Aa<|Aj<|Ah Z<|A2<|bZ [0,0,0,2,0,4,0,3,4] Z<|Ad 1 Z<|AY Z Aa<|Ak (p:=zP gg) 0 Ep Z Z Aa<|Ai (p:=Ap (zP gg) 0) (.inr Z) (zP gs) Id Z (ap.ldp (i:=0) sM) Aa<|Ad 1 Z ?_
 refine AA 68 [] [] [zP gs,zI funcs] Z Z H8 Aa (AV _ gs _ _ _ (funcs) bn oM _hfuncs sD) ?_
 rintro e9 w9 ⟨f0,n9,rfl,bo,eu,gl,dz⟩
 refine⟨_,rfl,?_⟩
 have cl:w1.heap.size≤w9.heap.size:=bo.size
 have e0:Au [gs,gg] w w9:=cf.trans (bo.sub FV)
 have ba:=ap.chg bo (zB ·)
 have bb:=ce.chg bo (zB ·)
 have bp:∀(wq:World),(Instr.build 153 #[(0,zI ((10:Nat):Int)),(1,zI f0)]).run Tryz.prog wq=.ok (.agg #[zI ((10:Nat):Int),zI f0,zI 0,zI 0,zN]) wq:=by intro wq;kernel_rfl
 refine C3 (ps:=#[(0,zI ((10:Nat):Int)),(1,zI f0)]) (.agg #[zI ((10:Nat):Int),zI f0,zI 0,zI 0,zN]) (by simp only[zc,zf,zh];rfl) (fun wq=>bp  wq) Aa ?_
 have ev:=ba.lt
 have ew:=bb.lt
 refine Bo (z:=.agg #[zI 0,zI 0,zI 0,zI 0,zN]) Hw Aa fun f7 ah cm bc=>?_
 have bq:w9.heap.size≤f7.heap.size:=ah.size
 have br:Au [gs,gg] w f7:=e0.ext ah
 have bd:=eu.ext ah
 have af:=ba.ext ah
 have ag:=bb.ext ah
 replace bc:BX f7.heap w9.heap.size [zI 0,zI 0,zI 0,zI 0,zN]:=bc
 refine Bz (vs:=[zI ((10:Nat):Int),zI f0,zI 0,zI 0,zN]) B6 Z Z GW bc Z Z Aa fun f8 ai cn ay=>?_
 replace ay:BX f8.heap w9.heap.size [zI ((10:Nat):Int),zI f0,zI 0,zI 0,zN]:=ay
 have bs:f7.heap.size≤f8.heap.size:=ai.size
 have aj:Au [gs,gg] w f8:=br.fresh ai (fun _ h=>zE h)
 have bt:=bd.chg ai fun c hc=>zH<|A9 hc
 have az:=af.chg ai (zB ·)
 have bu:=ag.chg ai (zB ·)
 refine Aj<|A0<|AO _ [0,0,0,1,0,0,1,0,1,0,0] mixed (by kernel_rfl)<|Ad 1 Z ?_
 have hxk:f0<funcs:=by omega
 refine AY Z Aa<|Ak (p:=zP gg) 1 UA Z Z Aa<|Ai (p:=Ap (zP gg) 1) (.inl Z) pp VI Z (az.ldp (i:=1) sM) Aa<|AN (hp.isPtr) Z Aa ?_
 obtain⟨cs20,co,bv⟩:=RN.at (AU _) hp
 obtain⟨a0,rfl,a5⟩:=RPr.of co
 have b8:=a5.lenle
 unfold maxLen at b8
 refine AJ (p:=pp) 0 Bv Z (bv _ aj.drew) Aa<|Ai (p:=Ap pp 0) (.inl Z) a0 BY Z ((bv _ aj.drew).ld (i:=0) (by simp[EX,EY])) Aa<|Ak (p:=zP w9.heap.size) 1 BE Z Z Aa<|Ai (p:=Ap (zP w9.heap.size) 1) (.inl Z) (zI f0) AD Z (ay.ldp (i:=1) sM) Aa ?_
 refine AB (v:=a0) ((f0).toNat) Gb Cj Z Z a5.isSl oM sD Aa<|Ac 1 Z<|A0<|AO _ [0,0,0,1,0,0,0,1,0,4,0,4] mixed (by kernel_rfl) ?_
 have fu:=hpr.outs (f0).toNat oM
 have hpa:=hpr.par (f0).toNat oM
 refine Ad 1 Z<|AY Z Aa<|Ak (p:=zP gg) 0 Ep Z Z Aa<|Ai (p:=Ap (zP gg) 0) (.inl Z) (zP gs) Id Z (az.ldp (i:=0) sM) Aa<|Ad 1 Z<|AN (RN.isPtr<|RN.ptr (Av dp) (by decide) Fn.zero a5 sD) Z Aa ?_
 obtain⟨cs21,cp,a3⟩:=a5.get (Av dp) Fn.zero (k:=(f0).toNat) sD
 obtain⟨b0,rfl,be⟩:=RF.of cp
 have b9:=be.rn.lenle
 unfold maxLen at b9
 refine AJ (p:=Ay a0 ((f0).toNat) 3) 2 BL Z (a3 _ aj.drew.drew) Aa<|Ai (p:=Ap (Ay a0 ((f0).toNat) 3) 2) (.inl Z) b0 Bd Z ((a3 _ aj.drew.drew).ld (i:=2) (by simp[EX,EY])) Aa<|AQ (v:=b0) D1 Z be.rn.isSl Aa ?_
 refine AA 68 [] [] [zP gs,zI ((((p.getD ((f0).toNat) Fn.zero).outs).length:Nat):Int)] Z Z H8 Aa (AV _ gs _ _ _ ((((p.getD ((f0).toNat) Fn.zero).outs).length:Nat):Int) bt oM oM sD) ?_
 rintro fv f9 ⟨f1,fl,rfl,a2,cq,ey,cr⟩
 refine⟨_,rfl,?_⟩
 replace a2:=a2.of_drew
 replace a2:=a2.of_drew
 have bw:f8.heap.size≤f9.heap.size:=a2.size
 have bx:Au [gs,gg] w f9:=aj.trans (a2.sub FV)
 have bz:=az.chg a2 (zB ·)
 have c0:=bu.chg a2 (zB ·)
 have c1:=ay.chg a2 (zB ·)
 refine Ak (p:=zP w9.heap.size) 2 Dc Z Z Aa (Be (k:=2) (w:=f9) Hv Z Z ⟨rfl,rfl⟩ c1 sM Aa fun fa ak ct b1=>?_)
 replace b1:BX fa.heap w9.heap.size [zI ((10:Nat):Int),zI f0,zI f1,zI 0,zN]:=b1
 have c2:f9.heap.size≤fa.heap.size:=ak.size
 have a6:Au [gs,gg] w fa:=bx.fresh ak (fun _ h=>zE h)
 have bf:=cq.chg ak fun c hc=>zH<|A9 hc
 have b2:=bz.chg ak (zB ·)
 have bg:=c0.chg ak (zB ·)
 refine Aj ?_
 refine A0<|J1 (S:=Int×Int×Nat) (fun⟨k,cnt,m1⟩=>([(0,zP gg),(1,zI vars),(2,zI funcs),(3,zI (d:Int)),(8,zP w.heap.size),(9,zP w9.heap.size),(10,Ay a0 ((f0).toNat) 3)])) (fun⟨k,cnt,m1⟩ W=>Au [gs,gg] w W∧EB W.heap gs sv cs m1∧BX W.heap gg [zP gs,pp,zI l0,.bool pl]∧BX W.heap w.heap.size [zI 0,zI 0,zI 0,zI 0,zN]∧BX W.heap w9.heap.size [zI k,zI f0,zI f1,zI cnt,zN]∧((k=10∧cnt=0)∨(k=11∧(((p.getD (f0).toNat Fn.zero).outs.length:Nat):Int)=(p.getD (f0).toNat Fn.zero).params∧0≤cnt∧cnt≤8))∧(n0≤m1∧m1≤n0+8)) ?_ ?_
 ·refine A0<|AO _ [0,0,0,1,0,0,0,0,1,0,0,0,0,0,1,4,0] mixed (by kernel_rfl)<|Ad 1 Z<|AN (RN.isPtr<|RN.ptr (Av dp) (by decide) Fn.zero a5 sD) Z Aa<|AJ (p:=Ay a0 ((f0).toNat) 3) 2 BL Z (a3 _ a6.drew) Aa<|Ai (p:=Ap (Ay a0 ((f0).toNat) 3) 2) (.inl Z) b0 Bd Z ((a3 _ a6.drew).ld (i:=2) (by simp[EX,EY])) Aa<|AQ (v:=b0) D1 Z be.rn.isSl Aa ?_
  refine Ad 1 Z<|AN (RN.isPtr<|RN.ptr (Av dp) (by decide) Fn.zero a5 sD) Z Aa<|AJ (p:=Ay a0 ((f0).toNat) 3) 1 C2 Z (a3 _ a6.drew) Aa<|Ai (p:=Ap (Ay a0 ((f0).toNat) 3) 1) (.inl Z) (zI<|(p.getD ((f0).toNat) Fn.zero).params) AD Z ((a3 _ a6.drew).ld (i:=1) (by simp[EX,EY])) Aa ?_
  by_cases c3:((((p.getD ((f0).toNat) Fn.zero).outs).length:Nat):Int)=(p.getD ((f0).toNat) Fn.zero).params
  ·refine Am true Z Z (A5 c3) Aa<|Ad 2 Z<|AY Z (Ae (e:=55) Z Z Z)<|Ak (p:=zP gg) 0 Ep Z Z (Ae (e:=55) Z Z Z)<|Ai (p:=Ap (zP gg) 0) (.inl Z) (zP gs) Id Z (b2.ldp (i:=0) sM) (Ae (e:=55) Z Z Z) ?_
   refine AA 122 [] [] [zP gs,zI ((2:Nat):Int)] Z Z Ms (Ae (e:=55) Z Z Z) (C8 _ gs _ _ _ ((2:Nat):Int) bf oM oM sD) ?_
   rintro fw fb ⟨f6,fm,rfl,a7,c4,ez,cu⟩
   refine⟨_,rfl,?_⟩
   replace a7:=a7.of_drew
   have e1:fa.heap.size≤fb.heap.size:=a7.size
   have c5:Au [gs,gg] w fb:=a6.trans (a7.sub FV)
   have c6:=b2.chg a7 (zB ·)
   have c7:=bg.chg a7 (zB ·)
   have c8:=b1.chg a7 (zB ·)
   refine Ac 1 Z ?_
   cases c9:f6
   ·exact Ah (by first|rfl|exact zW c9)<|A2 ⟨(((10:Nat):Int),0,fm),_,rfl,zR,⟨c5,c4,c6,c7,c8,oM,oM⟩⟩
   refine Ag (by first|rfl|exact zW c9)<|bZ [0,4] Z<|Ak (p:=zP w9.heap.size) 0 Bf Z Z Aa (Be (k:=0) (w:=fb) Hv Z Z ⟨rfl,rfl⟩ c8 sM Aa fun fc aq g0 bh=>?_)
   replace bh:BX fc.heap w9.heap.size [zI ((11:Nat):Int),zI f0,zI f1,zI 0,zN]:=bh
   have e2:fb.heap.size≤fc.heap.size:=aq.size
   have cv:Au [gs,gg] w fc:=c5.fresh aq (fun _ h=>zE h)
   have cw:=c4.chg aq fun c hc=>zH<|A9 hc
   have ca:=c6.chg aq (zB ·)
   have cx:=c7.chg aq (zB ·)
   refine Aj<|Ab _ [0,0,0,2,4,0,4] Z<|Ad 1 Z<|AY Z Aa<|Ak (p:=zP gg) 0 Ep Z Z Aa<|Ai (p:=Ap (zP gg) 0) (.inr Z) (zP gs) Id Z (ca.ldp (i:=0) sM) Aa ?_
   refine AA 68 [] [] [zP gs,zI ((4:Nat):Int)] Z Z H8 Aa (AV _ gs _ _ _ ((4:Nat):Int) cw oM oM sD) ?_
   rintro fx fd ⟨f2,fo,rfl,ar,cy,g1,cz⟩
   refine⟨_,rfl,?_⟩
   have e3:fc.heap.size≤fd.heap.size:=ar.size
   have d0:Au [gs,gg] w fd:=cv.trans (ar.sub FV)
   have d1:=ca.chg ar (zB ·)
   have d2:=cx.chg ar (zB ·)
   have d3:=bh.chg ar (zB ·)
   refine Ak (p:=zP w9.heap.size) 3 Du Z Z Aa (Be (k:=3) (w:=fd) Hv Z Z ⟨rfl,rfl⟩ d3 sM Aa fun ff au g2 bi=>?_)
   replace bi:BX ff.heap w9.heap.size [zI ((11:Nat):Int),zI f0,zI f1,zI f2,zN]:=bi
   have e5:fd.heap.size≤ff.heap.size:=au.size
   have d4:Au [gs,gg] w ff:=d0.fresh au (fun _ h=>zE h)
   have d5:=cy.chg au fun c hc=>zH<|A9 hc
   have d6:=d1.chg au (zB ·)
   have d7:=d2.chg au (zB ·)
   exact Aj ⟨(((11:Nat):Int),f2,fo),_,rfl,zR,⟨d4,d5,d6,d7,bi,oM,oM⟩⟩
  exact Am false Z Z (A6 c3) Aa<|Ac 7 Z<|Ah Z<|A2 ⟨(((10:Nat):Int),0,fl),_,rfl,zR,⟨a6.drew,bf,b2,bg,b1,oM,oM⟩⟩
 clear dx ej bm ch cf bo cl e0 ba bb cm ah bq br af ag cn ai bs aj bt az bu b8 b9 a2 bw bx bz c0 c1 ct ak c2 a6 bf b2 bg
 rintro⟨k,cnt,m1⟩ ρ30 f4 ⟨cb,av,a8,a9,aa,hkc,gm⟩
 have e6:w.heap.size≤f4.heap.size:=cb.size
 have g3:=a8.lt
 have g4:=a9.lt
 have g5:=aa.lt
 refine A0<|cA Z<|A3 ?_
 refine B1 (S:=Nat×Int×Nat×Value×List Ex) (fun⟨i,l,m,vk,xs⟩=>([(11,zI (i:Int)),(0,zP gg),(1,zI vars),(2,zI funcs),(3,zI (d:Int)),(8,zP w.heap.size),(9,zP w9.heap.size),(10,Ay a0 ((f0).toNat) 3)])) (fun⟨i,l,m,vk,xs⟩ W=>Au [gs,gg] w W∧Fr (E4 5 (LM 153 d) 153) f4.heap.size W.heap.size W.heap vk xs∧EB W.heap gs sv cs m∧BX W.heap gg [zP gs,pp,zI l,.bool pl]∧BX W.heap w.heap.size [zI 0,zI 0,zI 0,zI 0,zN]∧BX W.heap w9.heap.size [zI k,zI f0,zI f1,zI cnt,vk]∧(i:Int)≤(p.getD (f0).toNat Fn.zero).params∧PL p funcs vars pl k d l0 l xs i∧(n0≤m∧m≤n0+8+QH i (Hr (d-1)))∧gg<f4.heap.size∧w.heap.size<f4.heap.size∧w9.heap.size<f4.heap.size∧f4.heap.size≤W.heap.size) (fun⟨i,l,m,vk,xs⟩=>(p.getD (f0).toNat Fn.zero).params.toNat-i) (0,l0,m1,zN,([]:List Ex)) ⟨rfl,rfl,rfl,rfl,rfl,rfl,rfl,rfl,trivial⟩ ⟨cb,(GE _ 0 _).up<|Ao<|AS 153 d,av,a8,a9,aa,oM,(by exact PL.nil ..),(by exact⟨zO,by show _≤n0+8+0;omega⟩),oM,oM,oM,oM⟩ ?_
 clear aa a9 a8 av
 rintro⟨i,l,m,vk,xs⟩ ρ55 f3 ⟨al,ab,aw,ac,ad,a1,gn,hko,hmb,e7,e8,ea,eb⟩
 have ec:w.heap.size≤f3.heap.size:=al.size
 have g6:=ac.lt
 have g7:=ad.lt
 have g8:=a1.lt
 refine A0<|bZ [0,0,0,0,2,0] Z<|Ad 2 Z<|AN (RN.isPtr<|RN.ptr (Av dp) (by decide) Fn.zero a5 sD) Z Aa<|AJ (p:=Ay a0 ((f0).toNat) 3) 1 C2 Z (a3 _ al) Aa<|Ai (p:=Ap (Ay a0 ((f0).toNat) 3) 1) (.inr Z) (zI<|(p.getD ((f0).toNat) Fn.zero).params) AD Z ((a3 _ al).ld (i:=1) (by simp[EX,EY])) Aa ?_
 by_cases cc:(i:Int)<(p.getD ((f0).toNat) Fn.zero).params
 ·refine AG true Z Z (A5 cc) Aa<|Aj<|Ag Z<|A2<|A0<|A3 ?_
  letI:JR:=QW [gs,gg]
  refine Jx.AO _ [0,1,0,0,0,0,0,3,3,4,0,4] mixed (by kernel_rfl) ?_
  have htn:=Mh (k:=Hr (d-1)) (i:=i+1) oM
  have hts:QH (i+1) (Hr (d-1))=QH i (Hr (d-1))+Hr (d-1):=rfl
  have hti:=NI (k:=LP (d-1)) (i:=i) oM oM
  have hlo:=hko.lo
  have hln:=hko.len
  refine Jx.Ak (p:=zP w9.heap.size) 4 B9 Z Z Aa<|Jx.ZQ (p:=Ap (zP w9.heap.size) 4) vk Bd Z (fun wj hj=>(BX.chg (w:=f3.drew) (F:=[gs,gg]) a1 hj fun hm=>zH<|CA hm).ldp (i:=4) sM) Aa<|Jx.VU (zP gg) Z Aa<|Jx.VU (zI vars) Z Aa<|Jx.VU (zI funcs) Z Aa<|Jx.VU (zI (d:Int)) Z Aa<|Jx.j1<|Bs ((d-1:Nat):Int) Z Z (by rw[Da oM oM];omega) Aa<|Aj ?_
  refine Jx.As 124 [] [] [zP gg,zI vars,zI funcs,zI ((d-1:Nat):Int)] Z Z Mu Aa (IH _ gg gs sv cs m pp dp l pl p (vars) (funcs) oM aw ac (hp.chg (B5<|AU dp) al.drew) _hvars _hfuncs oM oM hpr oM oM oM) ?_
  rintro fy fg ⟨fp,f5,fq,fr,rfl,a4,d8,g9,d9,bj,da,ga⟩
  refine⟨_,rfl,a4,?_⟩
  replace bj:=bj.low (B':=f3.heap.size)<|A7 _
  replace a4:=a4.of_drew
  have ed:f3.heap.size≤fg.heap.size:=a4.size
  have db:Au [gs,gg] w fg:=al.trans a4
  have dc:=ab.chg (Ao<|AS 153 d) a4 fun c hc=>zH<|CA hc
  have dd:=ad.chg a4 fun hm=>zH<|CA hm
  have de:=a1.chg a4 fun hm=>zH<|CA hm
  refine Jx.TS Z (EZ (cs:=[zI f5.kind,zI f5.num,zI f5.pick,zI f5.count,fp]) (y:=f5) (B:=f3.heap.size) (AS 153 d) D1 Bk Z (by decide) Z (MB.mk1 oM da bj) oM Aa fun fs fh ae gb df=>?_)
  have ee:fg.heap.size≤fh.heap.size:=ae.size
  have dg:Au [gs,gg] w fh:=db.ext ae
  have b3:=dc.ext (Ao<|AS 153 d) ae
  have b4:=d8.ext ae
  have b5:=d9.ext ae
  have b6:=dd.ext ae
  have b7:=de.ext ae
  refine Is (v:=vk) (a:=fs) (AS 153 d) D1 Bk Z (by decide) Z Z b3 oM df oM oM oM (by unfold maxLen;omega) Aa fun fk fe fz am ax cd=>?_
  have ef:fh.heap.size≤fe.heap.size:=am.size
  have dh:Au [gs,gg] w fe:=dg.fresh am (fun c hc=>zH<|ax _ hc)
  have di:=b4.chg am fun c hc=>zH<|ax _ hc
  have dj:=b5.chg am fun hm=>zH<|ax _ hm
  have dk:=b6.chg am fun hm=>zH<|ax _ hm
  have dl:=b7.chg am fun hm=>zH<|ax _ hm
  refine Ak (p:=zP w9.heap.size) 4 B9 Z Z Aa (Be (k:=4) (w:=fe) QS Z Z (Bp cd.isSlS) dl sM Aa fun fi an gc bk=>?_)
  replace bk:BX fi.heap w9.heap.size [zI k,zI f0,zI f1,zI cnt,fk]:=bk
  have eg:fe.heap.size≤fi.heap.size:=an.size
  have dm:Au [gs,gg] w fi:=dh.fresh an (fun _ h=>zE h)
  have dn:=di.chg an fun c hc=>zH<|A9 hc
  have dq:=dj.chg an (zB ·)
  have dr:=dk.chg an (zB ·)
  have ds:=cd.chg (Ao<|AS 153 d) an fun _ h=>zA h
  exact Aj<|Ab _ [0,0,0] Z<|Ad 1 Z<|AP ((i+1:Nat):Int) Z Z (Bl oM oM) Aa<|Ac 1 Z ⟨(i+1,fr,fq,fk,xs++[f5]),_,rfl,zR,⟨dm,ds.up<|Ao<|AS 153 d,dn,dq,dr,bk,oM,(by exact hko.snoc oM (by rw[if_neg oM]) (by assumption)),oM,oM,oM,oM,oM⟩,zD⟩
 refine AG false Z Z (A6 cc) Aa<|Aj<|Ah Z<|A4<|Ax<|Ax<|At<|bZ [2,4] Z<|AK (p:=zP w9.heap.size) (.inr Z) [zI k,zI f0,zI f1,zI cnt,vk] B6 Z (fun gp gd=>LD.of_box<|BX.ext (w:=f3) a1 gd) Z Aa (Bz (vs:=[zI k,zI f0,zI f1,zI cnt,vk]) B6 Z Z (by intro u hu;simp only[ze,z2,or_false]at hu;rcases hu with rfl|rfl|rfl|rfl|rfl <;> first|exact⟨rfl,rfl⟩|exact Bp ab.isSlS) ad Z Z Aa fun fj ao ge bl=>?_)
 replace bl:BX fj.heap w.heap.size [zI k,zI f0,zI f1,zI cnt,vk]:=bl
 have eh:f3.heap.size≤fj.heap.size:=ao.size
 have dt:Au [gs,gg] w fj:=al.fresh ao (fun _ h=>zE h)
 have du:=ab.chg (Ao<|AS 153 d) ao fun _ h=>zA h
 have dv:=aw.chg ao fun c hc=>zH<|A9 hc
 have dw:=ac.chg ao (zB ·)
 have gf:=a1.chg ao (zB ·)
 refine Aj<|A1 ?_
 have hln:=hko.len
 have htn:=Mh (k:=Hr (d-1)) (i:=i) oM
 exact CI (cs:=[zI k,zI f0,zI f1,zI cnt,vk]) Z B6 Z bl Z ⟨vk,.mk k f0 f1 cnt xs,m,l,rfl,dt,dv,⟨zO,zO⟩,dw,(du.up<|Ao<|AS 153 d).low (B':=w.heap.size) oM,KT oM oM oM oM,(by exact hko.node1 oM oM oM (fun _=>by omega) (Xi hkc oM oM oM))⟩
theorem Pf {p:Prop}(h:p:=by exact hko.snoc oM (by first|rw[if_pos oM]|rw[if_neg oM]) (by assumption)):p:=h
theorem Nl {p:Prop}(h:p:=by intro hpl;first|omega|(simp_all;omega)|simp_all):p:=h
theorem IT (w:World)(gg gs:Nat)(sv:Value)(cs:List UInt8)(n0:Nat)(pp:Value)(dp:Nat)(l0:Int)(pl:Bool)(p:List Fn)(vars:Int)(funcs:Int)(d:Nat)(hgg:gs<gg)(hs:EB w.heap gs sv cs n0)(hB0:BX w.heap gg [zP gs,pp,zI l0,.bool pl])(hp:RN [gs,gg] (rP (Ki dp)) w.heap pp p)(_hvars:Bx vars)(_hfuncs:Bx funcs)(hv:0≤vars∧vars+(d:Int)≤1000)(hfu:0≤funcs∧funcs≤(p.length:Int))(hpr:Yb p)(hd:d≤8)(hn:n0+Hr d≤1000000000000)(hl:LP d-1000000≤l0∧l0≤1000)(IH1:∀d',d'<d→GX d')(IH2:1≤d→GC d) :
  Calls Tryz.prog 124 #[zP gg,zI vars,zI funcs,zI (d:Int)] w (fun e w'=>∃(v:Value) (ex:Ex) (n1:Nat) (l1:Int),e=.returned (.agg #[zI ex.kind,zI ex.num,zI ex.pick,zI ex.count,v])∧Au [gs,gg] w w'∧EB w'.heap gs sv cs n1∧(n0≤n1∧n1≤n0+(Hr d))∧BX w'.heap gg [zP gs,pp,zI l1,.bool pl]∧Fr (E4 5 (LM 153 d) 153) w.heap.size w'.heap.size w'.heap v ex.kids∧Ty ex∧Nn p funcs vars pl d l0 l1 ex):=by
 refine Aq [zP gg,zI vars,zI funcs,zI (d:Int)] 117 Tryz.func124 Z Z sM ?_
 have l8:Au [gs,gg] w w:=Au.refl [gs,gg] w
 have pd:=hs.lt
 have mj:=hB0.lt
 have hst:=OJ d
 have hnd:=HP d
 have hnl:=RK (d:=d) oM
 refine bZ [3] Z ?_
 have nt:=hB0.lt
 refine Bo (z:=.agg #[zI 0,zI 0,zI 0,zI 0,zN]) Hw Aa fun w1 db ml ih=>?_
 have ii:w.heap.size≤w1.heap.size:=db.size
 have l9:Au [gs,gg] w w1:=l8.ext db
 have ij:=hs.ext db
 have ci:=hB0.ext db
 replace ih:BX w1.heap w.heap.size [zI 0,zI 0,zI 0,zI 0,zN]:=ih
 refine Aj<|bZ [0,0,0,2,0,0,0,4] Z<|Ad 1 Z<|AY Z Aa<|Ak (p:=zP gg) 2 N4 Z Z Aa<|Ai (p:=Ap (zP gg) 2) (.inr Z) (zI l0) AD Z (ci.ldp (i:=2) sM) Aa ?_
 refine Bs (l0-((1:Nat):Int)) Z Z (Da sD sD) Aa<|AY Z Aa ?_
 refine Ak (p:=zP gg) 2 N4 Z Z Aa (Be (k:=2) (w:=w1) Hv Z Z ⟨rfl,rfl⟩ ci sM Aa fun w3 dc mm cq=>?_)
 replace cq:BX w3.heap gg [zP gs,pp,zI (l0-((1:Nat):Int)),.bool pl]:=cq
 have ik:w1.heap.size≤w3.heap.size:=dc.size
 have da:Au [gs,gg] w w3:=l9.trans (dc.sub Xj)
 have id:=ij.chg dc fun c hc=>zH<|A9 hc
 have ie:=ih.chg dc (zB ·)
 refine Aj<|A0<|bZ [0,0,0,2,0,0,0,0,0,0,0,0,0,2,4,0] Z<|Ad 1 Z<|AY Z Aa<|Ak (p:=zP gg) 2 N4 Z Z Aa<|Ai (p:=Ap (zP gg) 2) (.inr Z) (zI (l0-((1:Nat):Int))) AD Z (cq.ldp (i:=2) sM) Aa ?_
 by_cases la:l0-((1:Nat):Int)<((1:Nat):Int)
 ·refine AG true Z Z (A5 la) Aa<|Ac 11 Z<|Ag Z<|bZ [0,0,4,4] Z<|Ad 2 Z<|AA 196 [] [] [zP gg,zI vars] Z Z Qn Aa (CZ _ gg gs sv cs n0 pp dp (l0-((1:Nat):Int)) pl p (vars) oM id cq (hp.chg (B5<|AU dp) da) _hvars oM oM) ?_
  rintro e7 w7 ⟨x7,n7,rfl,il,mn,nu,mo,mp,im,nv⟩
  refine⟨_,rfl,?_⟩
  have mq:w3.heap.size≤w7.heap.size:=il.size
  have mr:Au [gs,gg] w w7:=da.trans il
  have ms:=ie.chg il fun hm=>zH<|CA hm
  refine Bz (vs:=[zI x7.kind,zI x7.num,zI x7.pick,zI x7.count,zN]) B6 Z Z GW ms Z Z Aa fun w9 ig nw io=>?_
  replace io:BX w9.heap w.heap.size [zI x7.kind,zI x7.num,zI x7.pick,zI x7.count,zN]:=io
  have mt:w7.heap.size≤w9.heap.size:=ig.size
  have mu:Au [gs,gg] w w9:=mr.fresh ig (fun _ h=>zE h)
  have ip:=mn.chg ig fun c hc=>zH<|A9 hc
  have iq:=mo.chg ig (zB ·)
  exact Aj<|A1<|Al<|CI (cs:=[zI x7.kind,zI x7.num,zI x7.pick,zI x7.count,zN]) Z B6 Z io Z ⟨zN,x7,n7,l0-((1:Nat):Int),rfl,mu,ip,⟨zO,zO⟩,iq,(by rw[im];exact GE _ _ _),mp,(by exact OK.ok (by assumption) d)⟩
 refine AG false Z Z (A6 la) Aa<|Ad 2 Z ?_
 by_cases dd:(d:Int)<((1:Nat):Int)
 ·refine AG true Z Z (A5 dd) (Ae (e:=24) Z Z Z)<|Ac 8 Z<|Ag Z<|bZ [0,0,4,4] Z<|Ad 2 Z<|AA 196 [] [] [zP gg,zI vars] Z Z Qn Aa (CZ _ gg gs sv cs n0 pp dp (l0-((1:Nat):Int)) pl p (vars) oM id cq (hp.chg (B5<|AU dp) da) _hvars oM oM) ?_
  rintro pe o0 ⟨f5,oy,rfl,cr,ir,mv,is,it,de,mw⟩
  refine⟨_,rfl,?_⟩
  have lb:w3.heap.size≤o0.heap.size:=cr.size
  have iu:Au [gs,gg] w o0:=da.trans cr
  have iv:=ie.chg cr fun hm=>zH<|CA hm
  refine Bz (vs:=[zI f5.kind,zI f5.num,zI f5.pick,zI f5.count,zN]) B6 Z Z GW iv Z Z Aa fun o4 cc mx ct=>?_
  replace ct:BX o4.heap w.heap.size [zI f5.kind,zI f5.num,zI f5.pick,zI f5.count,zN]:=ct
  have lc:o0.heap.size≤o4.heap.size:=cc.size
  have iw:Au [gs,gg] w o4:=iu.fresh cc (fun _ h=>zE h)
  have ix:=ir.chg cc fun c hc=>zH<|A9 hc
  have iy:=is.chg cc (zB ·)
  exact Aj<|A1<|Al<|CI (cs:=[zI f5.kind,zI f5.num,zI f5.pick,zI f5.count,zN]) Z B6 Z ct Z ⟨zN,f5,oy,l0-((1:Nat):Int),rfl,iw,ix,⟨zO,zO⟩,iy,(by rw[de];exact GE _ _ _),it,(by exact OK.ok (by assumption) d)⟩
 refine AG false Z Z (A6 dd) (Ae (e:=24) Z Z Z)<|Ad 3 Z<|AY Z (Ae (e:=28) Z Z Z)<|Ak (p:=zP gg) 0 Ep Z Z (Ae (e:=28) Z Z Z)<|Ai (p:=Ap (zP gg) 0) (.inr Z) (zP gs) Id Z (cq.ldp (i:=0) sM) (Ae (e:=28) Z Z Z) ?_
 refine AA 122 [] [] [zP gs,zI ((5:Nat):Int)] Z Z Ms (Ae (e:=28) Z Z Z) (C8 _ gs _ _ _ ((5:Nat):Int) id oM oM sD) ?_
 rintro pf f0 ⟨ft,oz,rfl,bn,df,my,iz⟩
 refine⟨_,rfl,?_⟩
 have dg:w3.heap.size≤f0.heap.size:=bn.size
 have cd:Au [gs,gg] w f0:=da.trans (bn.sub FV)
 have ce:=cq.chg bn (zB ·)
 have cf:=ie.chg bn (zB ·)
 refine Ac 1 Z ?_
 cases dh:ft
 ·refine Ah (by first|rfl|exact zW dh)<|A2<|bZ [0,3,4] Z ?_
  have p0:=UV (d:=d) oM
  have p2:=Ya (d:=d) oM
  have mz:=OJ (d-1)
  have n2:=HP (d-1)
  have di:∀(wq:World),(Instr.build 153 #[]).run Tryz.prog wq=.ok (.agg #[zI 0,zI 0,zI 0,zI 0,zN]) wq:=by intro wq;kernel_rfl
  refine C3 (ps:=#[]) (.agg #[zI 0,zI 0,zI 0,zI 0,zN]) (by simp only[zc,zf,zh]) (fun wq=>di  wq) Aa ?_
  have n3:=ce.lt
  have n4:=cf.lt
  refine Bo (z:=.agg #[zI 0,zI 0,zI 0,zI 0,zN]) Hw Aa fun fy b4 j0 cu=>?_
  have dj:f0.heap.size≤fy.heap.size:=b4.size
  have dk:Au [gs,gg] w fy:=cd.ext b4
  have cg:=df.ext b4
  have b1:=ce.ext b4
  have b2:=cf.ext b4
  replace cu:BX fy.heap f0.heap.size [zI 0,zI 0,zI 0,zI 0,zN]:=cu
  refine Bz (vs:=[zI 0,zI 0,zI 0,zI 0,zN]) B6 Z Z GW cu Z Z Aa fun fz b5 j2 cv=>?_
  replace cv:BX fz.heap f0.heap.size [zI 0,zI 0,zI 0,zI 0,zN]:=cv
  have dl:fy.heap.size≤fz.heap.size:=b5.size
  have dm:Au [gs,gg] w fz:=dk.fresh b5 (fun _ h=>zE h)
  have dn:=cg.chg b5 fun c hc=>zH<|A9 hc
  have cw:=b1.chg b5 (zB ·)
  have dq:=b2.chg b5 (zB ·)
  refine Aj<|A0<|J1 (S:=Int×Nat) (fun⟨k,m1⟩=>([(0,zP gg),(1,zI vars),(2,zI funcs),(3,zI (d:Int)),(8,zP w.heap.size),(9,zP f0.heap.size)])) (fun⟨k,m1⟩ W=>Au [gs,gg] w W∧EB W.heap gs sv cs m1∧BX W.heap gg [zP gs,pp,zI (l0-((1:Nat):Int)),.bool pl]∧BX W.heap w.heap.size [zI 0,zI 0,zI 0,zI 0,zN]∧BX W.heap f0.heap.size [zI k,zI 0,zI 0,zI 0,zN]∧(k=3∨k=4∨k=5∨k=6∨k=7∨k=8∨k=9)∧(n0≤m1∧m1≤n0+4)) ?_ ?_
  ·refine bZ [0,0,0,2,4] Z<|Ad 1 Z<|AY Z Aa<|Ak (p:=zP gg) 0 Ep Z Z Aa<|Ai (p:=Ap (zP gg) 0) (.inr Z) (zP gs) Id Z (cw.ldp (i:=0) sM) Aa ?_
   refine AA 68 [] [] [zP gs,zI ((12:Nat):Int)] Z Z H8 Aa (AV _ gs _ _ _ ((12:Nat):Int) dn oM oM sD) ?_
   rintro pg f4 ⟨f1,fa,rfl,bo,ad,n5,j3⟩
   refine⟨_,rfl,?_⟩
   have ld:fz.heap.size≤f4.heap.size:=bo.size
   have ab:Au [gs,gg] w f4:=dm.trans (bo.sub FV)
   have ae:=cw.chg bo (zB ·)
   have af:=dq.chg bo (zB ·)
   have ag:=cv.chg bo (zB ·)
   refine Aj<|A3<|bZ [0,0] Z ?_
   by_cases dr:f1=((0:Nat):Int)
   ·refine Am true Z Z (A5 dr) Aa<|Ac 1 Z<|Ag Z<|Ab _ [0,4] Z<|Ak (p:=zP f0.heap.size) 0 Bf Z Z Aa (Be (k:=0) (w:=f4) Hv Z Z ⟨rfl,rfl⟩ ag sM Aa fun o5 bp n6 cx=>?_)
    replace cx:BX o5.heap f0.heap.size [zI ((7:Nat):Int),zI 0,zI 0,zI 0,zN]:=cx
    have le:f4.heap.size≤o5.heap.size:=bp.size
    have j4:Au [gs,gg] w o5:=ab.fresh bp (fun _ h=>zE h)
    have j5:=ad.chg bp fun c hc=>zH<|A9 hc
    have j6:=ae.chg bp (zB ·)
    have j7:=af.chg bp (zB ·)
    exact Aj ⟨(((7:Nat):Int),fa),_,rfl,zR,⟨j4,j5,j6,j7,cx,oM,oM⟩⟩
   refine Am false Z Z (A6 dr) Aa<|Ac 1 Z<|Ah Z<|bZ [0,0] Z ?_
   by_cases ds:f1=((1:Nat):Int)
   ·refine Am true Z Z (A5 ds) Aa<|Ac 1 Z<|Ag Z<|Ab _ [0,4] Z<|Ak (p:=zP f0.heap.size) 0 Bf Z Z Aa (Be (k:=0) (w:=f4) Hv Z Z ⟨rfl,rfl⟩ ag sM Aa fun o6 bq n8 cy=>?_)
    replace cy:BX o6.heap f0.heap.size [zI ((9:Nat):Int),zI 0,zI 0,zI 0,zN]:=cy
    have lf:f4.heap.size≤o6.heap.size:=bq.size
    have j8:Au [gs,gg] w o6:=ab.fresh bq (fun _ h=>zE h)
    have j9:=ad.chg bq fun c hc=>zH<|A9 hc
    have ja:=ae.chg bq (zB ·)
    have jb:=af.chg bq (zB ·)
    exact Aj ⟨(((9:Nat):Int),fa),_,rfl,zR,⟨j8,j9,ja,jb,cy,oM,oM⟩⟩
   refine Am false Z Z (A6 ds) Aa<|Ac 1 Z<|Ah Z<|bZ [0,0] Z ?_
   by_cases dt:f1=((2:Nat):Int)
   ·refine Am true Z Z (A5 dt) Aa<|Ac 1 Z<|Ag Z<|Ab _ [0,4] Z<|Ak (p:=zP f0.heap.size) 0 Bf Z Z Aa (Be (k:=0) (w:=f4) Hv Z Z ⟨rfl,rfl⟩ ag sM Aa fun o7 br n9 cz=>?_)
    replace cz:BX o7.heap f0.heap.size [zI ((8:Nat):Int),zI 0,zI 0,zI 0,zN]:=cz
    have lg:f4.heap.size≤o7.heap.size:=br.size
    have jc:Au [gs,gg] w o7:=ab.fresh br (fun _ h=>zE h)
    have jd:=ad.chg br fun c hc=>zH<|A9 hc
    have je:=ae.chg br (zB ·)
    have jf:=af.chg br (zB ·)
    exact Aj ⟨(((8:Nat):Int),fa),_,rfl,zR,⟨jc,jd,je,jf,cz,oM,oM⟩⟩
   refine Am false Z Z (A6 dt) Aa<|Ac 1 Z<|Ah Z<|bZ [0,0] Z ?_
   by_cases du:f1=((3:Nat):Int)
   ·refine Am true Z Z (A5 du) Aa<|Ac 1 Z<|Ag Z<|Ab _ [0,4] Z<|Ak (p:=zP f0.heap.size) 0 Bf Z Z Aa (Be (k:=0) (w:=f4) Hv Z Z ⟨rfl,rfl⟩ ag sM Aa fun o8 bs na d0=>?_)
    replace d0:BX o8.heap f0.heap.size [zI ((6:Nat):Int),zI 0,zI 0,zI 0,zN]:=d0
    have lh:f4.heap.size≤o8.heap.size:=bs.size
    have jg:Au [gs,gg] w o8:=ab.fresh bs (fun _ h=>zE h)
    have jh:=ad.chg bs fun c hc=>zH<|A9 hc
    have ji:=ae.chg bs (zB ·)
    have jj:=af.chg bs (zB ·)
    exact Aj ⟨(((6:Nat):Int),fa),_,rfl,zR,⟨jg,jh,ji,jj,d0,oM,oM⟩⟩
   refine Am false Z Z (A6 du) Aa<|Ac 1 Z<|Ah Z<|A0<|bZ [0,0] Z ?_
   by_cases dv:f1=((4:Nat):Int)
   ·refine Am true Z Z (A5 dv) Aa<|Ac 1 Z<|Ag Z<|A2<|Ag Z<|Ab _ [0,4] Z<|Ak (p:=zP f0.heap.size) 0 Bf Z Z Aa (Be (k:=0) (w:=f4) Hv Z Z ⟨rfl,rfl⟩ ag sM Aa fun o9 bt nb d1=>?_)
    replace d1:BX o9.heap f0.heap.size [zI ((3:Nat):Int),zI 0,zI 0,zI 0,zN]:=d1
    have li:f4.heap.size≤o9.heap.size:=bt.size
    have jk:Au [gs,gg] w o9:=ab.fresh bt (fun _ h=>zE h)
    have jl:=ad.chg bt fun c hc=>zH<|A9 hc
    have jm:=ae.chg bt (zB ·)
    have jn:=af.chg bt (zB ·)
    exact Aj ⟨(((3:Nat):Int),fa),_,rfl,zR,⟨jk,jl,jm,jn,d1,oM,oM⟩⟩
   refine Am false Z Z (A6 dv) Aa<|Ac 1 Z<|Ah Z<|Ab _ [0,0] Z ?_
   by_cases dw:f1=((5:Nat):Int)
   ·refine Am true Z Z (A5 dw) Aa<|Ac 1 Z<|Ag Z<|Ab _ [0,4] Z<|Ak (p:=zP f0.heap.size) 0 Bf Z Z Aa (Be (k:=0) (w:=f4) Hv Z Z ⟨rfl,rfl⟩ ag sM Aa fun oa bu nc d2=>?_)
    replace d2:BX oa.heap f0.heap.size [zI ((3:Nat):Int),zI 0,zI 0,zI 0,zN]:=d2
    have lj:f4.heap.size≤oa.heap.size:=bu.size
    have jo:Au [gs,gg] w oa:=ab.fresh bu (fun _ h=>zE h)
    have jp:=ad.chg bu fun c hc=>zH<|A9 hc
    have jq:=ae.chg bu (zB ·)
    have jr:=af.chg bu (zB ·)
    exact Aj ⟨(((3:Nat):Int),fa),_,rfl,zR,⟨jo,jp,jq,jr,d2,oM,oM⟩⟩
   refine Am false Z Z (A6 dw) Aa<|Ac 1 Z<|Ah Z<|bZ [0,0] Z ?_
   by_cases dx:f1=((6:Nat):Int)
   ·refine Am true Z Z (A5 dx) Aa<|Ac 1 Z<|Ag Z<|Ab _ [0,4] Z<|Ak (p:=zP f0.heap.size) 0 Bf Z Z Aa (Be (k:=0) (w:=f4) Hv Z Z ⟨rfl,rfl⟩ ag sM Aa fun ob bv nd d3=>?_)
    replace d3:BX ob.heap f0.heap.size [zI ((4:Nat):Int),zI 0,zI 0,zI 0,zN]:=d3
    have lk:f4.heap.size≤ob.heap.size:=bv.size
    have js:Au [gs,gg] w ob:=ab.fresh bv (fun _ h=>zE h)
    have jt:=ad.chg bv fun c hc=>zH<|A9 hc
    have ju:=ae.chg bv (zB ·)
    have jv:=af.chg bv (zB ·)
    exact Aj ⟨(((4:Nat):Int),fa),_,rfl,zR,⟨js,jt,ju,jv,d3,oM,oM⟩⟩
   refine Am false Z Z (A6 dx) Aa<|Ac 1 Z<|Ah Z<|A0<|bZ [0,0] Z ?_
   by_cases dy:f1=((7:Nat):Int)
   ·refine Am true Z Z (A5 dy) Aa<|Ac 1 Z<|Ag Z<|A2<|Ag Z<|Ab _ [0,4] Z<|Ak (p:=zP f0.heap.size) 0 Bf Z Z Aa (Be (k:=0) (w:=f4) Hv Z Z ⟨rfl,rfl⟩ ag sM Aa fun oc bw ne d4=>?_)
    replace d4:BX oc.heap f0.heap.size [zI ((5:Nat):Int),zI 0,zI 0,zI 0,zN]:=d4
    have ll:f4.heap.size≤oc.heap.size:=bw.size
    have jw:Au [gs,gg] w oc:=ab.fresh bw (fun _ h=>zE h)
    have jx:=ad.chg bw fun c hc=>zH<|A9 hc
    have jy:=ae.chg bw (zB ·)
    have jz:=af.chg bw (zB ·)
    exact Aj ⟨(((5:Nat):Int),fa),_,rfl,zR,⟨jw,jx,jy,jz,d4,oM,oM⟩⟩
   refine Am false Z Z (A6 dy) Aa<|Ac 1 Z<|Ah Z<|bZ [0,0] Z ?_
   by_cases dz:f1=((8:Nat):Int)
   ·refine Am true Z Z (A5 dz) Aa<|Ac 1 Z<|Ag Z<|A2<|Ag Z<|Ab _ [0,4] Z<|Ak (p:=zP f0.heap.size) 0 Bf Z Z Aa (Be (k:=0) (w:=f4) Hv Z Z ⟨rfl,rfl⟩ ag sM Aa fun od bx nf d5=>?_)
    replace d5:BX od.heap f0.heap.size [zI ((5:Nat):Int),zI 0,zI 0,zI 0,zN]:=d5
    have lm:f4.heap.size≤od.heap.size:=bx.size
    have k0:Au [gs,gg] w od:=ab.fresh bx (fun _ h=>zE h)
    have k1:=ad.chg bx fun c hc=>zH<|A9 hc
    have k3:=ae.chg bx (zB ·)
    have k4:=af.chg bx (zB ·)
    exact Aj ⟨(((5:Nat):Int),fa),_,rfl,zR,⟨k0,k1,k3,k4,d5,oM,oM⟩⟩
   refine Am false Z Z (A6 dz) Aa<|Ac 1 Z<|Ah Z<|Ab _ [0,0] Z ?_
   by_cases e0:f1=((9:Nat):Int)
   ·refine Am true Z Z (A5 e0) Aa<|Ac 1 Z<|Ag Z<|Ab _ [0,4] Z<|Ak (p:=zP f0.heap.size) 0 Bf Z Z Aa (Be (k:=0) (w:=f4) Hv Z Z ⟨rfl,rfl⟩ ag sM Aa fun oe bz ng d6=>?_)
    replace d6:BX oe.heap f0.heap.size [zI ((5:Nat):Int),zI 0,zI 0,zI 0,zN]:=d6
    have ln:f4.heap.size≤oe.heap.size:=bz.size
    have k5:Au [gs,gg] w oe:=ab.fresh bz (fun _ h=>zE h)
    have k6:=ad.chg bz fun c hc=>zH<|A9 hc
    have k7:=ae.chg bz (zB ·)
    have k8:=af.chg bz (zB ·)
    exact Aj ⟨(((5:Nat):Int),fa),_,rfl,zR,⟨k5,k6,k7,k8,d6,oM,oM⟩⟩
   refine Am false Z Z (A6 e0) Aa<|Ac 1 Z<|Ah Z<|bZ [0,0,0,0,4,4] Z<|Ad 4 Z<|AA 197 [] [] [zP gg,zI vars,zI funcs,zI (d:Int)] Z Z YZ Aa (IH2 oM _ gg gs sv cs fa pp dp (l0-((1:Nat):Int)) pl p (vars) (funcs) oM ad ae (hp.chg (B5<|AU dp) ab) _hvars _hfuncs oM oM hpr oM oM oM) ?_
   rintro ph og ⟨nz,f6,p4,p5,rfl,ch,k9,nh,ka,e1,kb,ni⟩
   refine⟨_,rfl,?_⟩
   have lp:f4.heap.size≤og.heap.size:=ch.size
   have kc:Au [gs,gg] w og:=ab.trans ch
   have kd:=af.chg ch fun hm=>zH<|CA hm
   have ke:=ag.chg ch fun hm=>zH<|CA hm
   refine Bz (vs:=[zI f6.kind,zI f6.num,zI f6.pick,zI f6.count,nz]) B6 Z Z (by intro u hu;simp only[ze,z2,or_false]at hu;rcases hu with rfl|rfl|rfl|rfl|rfl <;> first|exact⟨rfl,rfl⟩|exact Bp e1.isSlS) kd Z Z Aa fun oh b6 nj d7=>?_
   replace d7:BX oh.heap w.heap.size [zI f6.kind,zI f6.num,zI f6.pick,zI f6.count,nz]:=d7
   have lq:og.heap.size≤oh.heap.size:=b6.size
   have kf:Au [gs,gg] w oh:=kc.fresh b6 (fun _ h=>zE h)
   have kg:=k9.chg b6 fun c hc=>zH<|A9 hc
   have kh:=ka.chg b6 (zB ·)
   have nk:=ke.chg b6 (zB ·)
   have ki:=e1.chg (Ao<|AS 153 d) b6 fun _ h=>zA h
   exact Aj<|A1<|AC<|Al<|CI (cs:=[zI f6.kind,zI f6.num,zI f6.pick,zI f6.count,nz]) Z B6 Z d7 Z ⟨nz,f6,p4,p5,rfl,kf,kg,⟨zO,zO⟩,kh,(ki.up<|Ao<|AS 153 d).low (B':=w.heap.size) oM,kb,(by exact Nn.up1 (by assumption))⟩
  clear l8 ml db ii l9 mm dc ik da id ie bn dg cd ce cf j0 b4 dj dk b1 b2 j2 b5 dl dm dn cw dq
  rintro⟨k,m1⟩ ρ30 fu ⟨b7,ah,a2,a6,a1,hkk,nx⟩
  have e2:w.heap.size≤fu.heap.size:=b7.size
  have nl:=a2.lt
  have nm:=a6.lt
  have nn:=a1.lt
  refine A0<|J1 (S:=Int) (fun(k2:Int)=>([(0,zP gg),(1,zI vars),(2,zI funcs),(3,zI (d:Int)),(8,zP w.heap.size),(9,zP f0.heap.size)])) (fun(k2:Int) (W:World)=>Au [gs,gg] w W∧EB W.heap gs sv cs m1∧BX W.heap gg [zP gs,pp,zI (l0-((1:Nat):Int)),.bool pl]∧BX W.heap w.heap.size [zI 0,zI 0,zI 0,zI 0,zN]∧BX W.heap f0.heap.size [zI k2,zI 0,zI 0,zI 0,zN]∧(k2=3∨k2=4∨k2=5∨k2=6∨k2=7∨k2=8∨k2=9)∧(pl=true→k2≠6∧k2≠8)) ?_ ?_
  ·refine bZ [0,0,0,2,0,0,2,0,0,0,2,0,0,0] Z<|Ad 1 Z<|AY Z Aa<|Ak (p:=zP gg) 3 UB Z Z Aa<|Ai (p:=Ap (zP gg) 3) (.inr Z) (.bool (true && pl)) bH Z (a2.ldp (i:=3) sM) Aa<|Ad 1 Z ?_
   cases no:(true && pl)
   ·exact Ac 9 Z<|Ah Z<|A2 ⟨k,_,rfl,zR,⟨b7,ah,a2,a6,a1,oM,Nl⟩⟩
   refine Ak (p:=zP f0.heap.size) 0 Bf Z Z (Ae (e:=77) Z Z Z)<|Ai (p:=Ap (zP f0.heap.size) 0) (.inr Z) (zI k) AD Z (a1.ldp (i:=0) sM) (Ae (e:=77) Z Z Z) ?_
   by_cases e3:k=((8:Nat):Int)
   ·refine Am true Z Z (A5 e3) (Ae (e:=77) Z Z Z)<|Ac 6 Z<|Ag Z<|Ab _ [0,4] Z<|Ak (p:=zP f0.heap.size) 0 Bf Z Z Aa (Be (k:=0) (w:=fu) Hv Z Z ⟨rfl,rfl⟩ a1 sM Aa fun oi c0 np d8=>?_)
    replace d8:BX oi.heap f0.heap.size [zI ((5:Nat):Int),zI 0,zI 0,zI 0,zN]:=d8
    have lr:fu.heap.size≤oi.heap.size:=c0.size
    have kj:Au [gs,gg] w oi:=b7.fresh c0 (fun _ h=>zE h)
    have e4:=ah.chg c0 fun c hc=>zH<|A9 hc
    have e5:=a2.chg c0 (zB ·)
    have e6:=a6.chg c0 (zB ·)
    exact Aj ⟨((5:Nat):Int),_,rfl,zR,⟨kj,e4,e5,e6,d8,oM,Nl⟩⟩
   refine Am false Z Z (A6 e3) (Ae (e:=77) Z Z Z)<|Ad 1 Z<|Ak (p:=zP f0.heap.size) 0 Bf Z Z (Ae (e:=81) Z Z Z)<|Ai (p:=Ap (zP f0.heap.size) 0) (.inr Z) (zI k) AD Z (a1.ldp (i:=0) sM) (Ae (e:=81) Z Z Z) ?_
   by_cases cj:k=((6:Nat):Int)
   ·refine Am true Z Z (A5 cj) (Ae (e:=81) Z Z Z)<|Ac 2 Z<|Ag Z<|Ab _ [0,4] Z<|Ak (p:=zP f0.heap.size) 0 Bf Z Z Aa (Be (k:=0) (w:=fu) Hv Z Z ⟨rfl,rfl⟩ a1 sM Aa fun fe au ls c1=>?_)
    replace c1:BX fe.heap f0.heap.size [zI ((5:Nat):Int),zI 0,zI 0,zI 0,zN]:=c1
    have kk:fu.heap.size≤fe.heap.size:=au.size
    have e8:Au [gs,gg] w fe:=b7.fresh au (fun _ h=>zE h)
    have e9:=ah.chg au fun c hc=>zH<|A9 hc
    have ea:=a2.chg au (zB ·)
    have eb:=a6.chg au (zB ·)
    exact Aj ⟨((5:Nat):Int),_,rfl,zR,⟨e8,e9,ea,eb,c1,oM,Nl⟩⟩
   exact Am false Z Z (A6 cj) (Ae (e:=81) Z Z Z)<|Ac 2 Z<|Ah Z<|A2 ⟨k,_,rfl,zR,⟨b7,ah,a2,a6,a1,oM,Nl⟩⟩
  clear a1 a6 a2 ah b7 e2
  rintro k2 ρ96 fs ⟨ec,c2,ay,az,b0,nq,nr⟩
  have lu:w.heap.size≤fs.heap.size:=ec.size
  have lv:=ay.lt
  have lw:=az.lt
  have lx:=b0.lt
  refine A0<|cA Z<|A3 ?_
  have hknb:=aE nq
  refine B1 (S:=Nat×Int×Nat×Value×List Ex) (fun⟨i,l,m,vk,xs⟩=>([(10,zI (i:Int)),(0,zP gg),(1,zI vars),(2,zI funcs),(3,zI (d:Int)),(8,zP w.heap.size),(9,zP f0.heap.size)])) (fun⟨i,l,m,vk,xs⟩ W=>Au [gs,gg] w W∧Fr (E4 5 (LM 153 d) 153) fs.heap.size W.heap.size W.heap vk xs∧EB W.heap gs sv cs m∧BX W.heap gg [zP gs,pp,zI l,.bool pl]∧BX W.heap w.heap.size [zI 0,zI 0,zI 0,zI 0,zN]∧BX W.heap f0.heap.size [zI k2,zI 0,zI 0,zI 0,vk]∧(i:Int)≤kn k2∧PL p funcs vars pl k2 d (l0-1) l xs i∧(n0≤m∧m≤n0+8+QH i (Hr (d-1)))∧gg<fs.heap.size∧w.heap.size<fs.heap.size∧f0.heap.size<fs.heap.size∧fs.heap.size≤W.heap.size) (fun⟨i,l,m,vk,xs⟩=>(kn k2).toNat-i) (0,l0-((1:Nat):Int),m1,zN,([]:List Ex)) ⟨rfl,rfl,rfl,rfl,rfl,rfl,rfl,trivial⟩ ⟨ec,(GE _ 0 _).up<|Ao<|AS 153 d,c2,ay,az,b0,oM,(by exact PL.nil ..),(by exact⟨zO,by show _≤n0+8+0;omega⟩),oM,oM,oM,oM⟩ ?_
  clear b0 az ay c2
  rintro⟨i,l,m,vk,xs⟩ ρ114 f2 ⟨a7,a3,ac,a4,a5,a0,ny,hko,hmb,kl,km,ko,kp⟩
  have kq:w.heap.size≤f2.heap.size:=a7.size
  have ly:=a4.lt
  have lz:=a5.lt
  have m0:=a0.lt
  refine A0<|bZ [0,0,2,0,0] Z<|Ad 1 Z<|Ak (p:=zP f0.heap.size) 0 Bf Z Z Aa<|Ai (p:=Ap (zP f0.heap.size) 0) (.inr Z) (zI k2) AD Z (a0.ldp (i:=0) sM) Aa<|Az 198 [] [] [zI k2] Z Z VA Aa (zI<|kn k2) (fun wq=>bV wq _ oM) ?_
  by_cases ck:(i:Int)<kn k2
  ·refine AG true Z Z (A5 ck) Aa<|Aj<|Ag Z<|A2<|A0<|A3<|bZ [0,0] Z<|Ac 2 Z<|A0<|bZ [0,2,0,0,0,0,0] Z<|Ak (p:=zP f0.heap.size) 0 Bf Z Z Aa<|Ai (p:=Ap (zP f0.heap.size) 0) (.inr Z) (zI k2) AD Z (a0.ldp (i:=0) sM) Aa ?_
   by_cases cl:k2=((9:Nat):Int)
   ·refine Am true Z Z (A5 cl) Aa<|Ad 2 Z ?_
    by_cases cm:(i:Int)=((1:Nat):Int)
    ·refine Am true Z Z (A5 cm) (Ae (e:=99) Z Z Z)<|Ac 1 Z<|Ag Z<|Ab _ [0,0,0] Z<|Ad 1 Z ?_
     refine AP (vars+((1:Nat):Int)) Z Z (Da sD sD) Aa<|Ac 1 Z ?_
     letI:JR:=QW [gs,gg]
     refine Jx.AO _ [0,1,0,0,0,0,0,3,3,4,0,4] mixed (by kernel_rfl) ?_
     have htn:=Mh (k:=Hr (d-1)) (i:=i+1) oM
     have hts:QH (i+1) (Hr (d-1))=QH i (Hr (d-1))+Hr (d-1):=rfl
     have hti:=NI (k:=LP (d-1)) (i:=i) oM oM
     have hlo:=hko.lo
     have hln:=hko.len
     refine Jx.Ak (p:=zP f0.heap.size) 4 B9 Z Z Aa<|Jx.ZQ (p:=Ap (zP f0.heap.size) 4) vk Bd Z (fun wj hj=>(BX.chg (w:=f2.drew) (F:=[gs,gg]) a0 hj fun hm=>zH<|CA hm).ldp (i:=4) sM) Aa<|Jx.VU (zP gg) Z Aa<|Jx.VU (zI (vars+((1:Nat):Int))) Z Aa<|Jx.VU (zI funcs) Z Aa<|Jx.VU (zI (d:Int)) Z Aa<|Jx.j1<|Bs ((d-1:Nat):Int) Z Z (by rw[Da oM oM];omega) Aa<|Aj ?_
     refine Jx.As 124 [] [] [zP gg,zI (vars+((1:Nat):Int)),zI funcs,zI ((d-1:Nat):Int)] Z Z Mu Aa (IH1 (d-1) oM _ gg gs sv cs m pp dp l pl p (vars+((1:Nat):Int)) (funcs) oM ac a4 (hp.chg (B5<|AU dp) a7.drew) oM _hfuncs oM oM hpr oM oM oM) ?_
     rintro p6 ff ⟨oj,f7,ol,om,rfl,a8,ed,m2,ee,c3,ef,m3⟩
     refine⟨_,rfl,a8,?_⟩
     replace c3:=c3.low (B':=f2.heap.size)<|A7 _
     replace a8:=a8.of_drew
     have kr:f2.heap.size≤ff.heap.size:=a8.size
     have eg:Au [gs,gg] w ff:=a7.trans a8
     have eh:=a3.chg (Ao<|AS 153 d) a8 fun c hc=>zH<|CA hc
     have ei:=a5.chg a8 fun hm=>zH<|CA hm
     have ej:=a0.chg a8 fun hm=>zH<|CA hm
     refine Jx.TS Z (EZ (cs:=[zI f7.kind,zI f7.num,zI f7.pick,zI f7.count,oj]) (y:=f7) (B:=f2.heap.size) (AS 153 d) D1 Bk Z (by decide) Z (MB.mk1 oM ef c3) oM Aa fun on fg ai m4 ek=>?_)
     have ks:ff.heap.size≤fg.heap.size:=ai.size
     have el:Au [gs,gg] w fg:=eg.ext ai
     have b8:=eh.ext (Ao<|AS 153 d) ai
     have b9:=ed.ext ai
     have ba:=ee.ext ai
     have bb:=ei.ext ai
     have bc:=ej.ext ai
     refine Is (v:=vk) (a:=on) (AS 153 d) D1 Bk Z (by decide) Z Z b8 oM ek oM oM oM (by unfold maxLen;omega) Aa fun fv fb p7 al av cn=>?_
     have kt:fg.heap.size≤fb.heap.size:=al.size
     have em:Au [gs,gg] w fb:=el.fresh al (fun c hc=>zH<|av _ hc)
     have en:=b9.chg al fun c hc=>zH<|av _ hc
     have eo:=ba.chg al fun hm=>zH<|av _ hm
     have ep:=bb.chg al fun hm=>zH<|av _ hm
     have eq:=bc.chg al fun hm=>zH<|av _ hm
     refine Ak (p:=zP f0.heap.size) 4 B9 Z Z Aa (Be (k:=4) (w:=fb) QS Z Z (Bp cn.isSlS) eq sM Aa fun fh am m5 c4=>?_)
     replace c4:BX fh.heap f0.heap.size [zI k2,zI 0,zI 0,zI 0,fv]:=c4
     have ku:fb.heap.size≤fh.heap.size:=am.size
     have er:Au [gs,gg] w fh:=em.fresh am (fun _ h=>zE h)
     have es:=en.chg am fun c hc=>zH<|A9 hc
     have et:=eo.chg am (zB ·)
     have eu:=ep.chg am (zB ·)
     have ev:=cn.chg (Ao<|AS 153 d) am fun _ h=>zA h
     exact Aj<|Ab _ [0,0,0] Z<|Ad 1 Z<|AP ((i+1:Nat):Int) Z Z (Bl oM oM) Aa<|Ac 1 Z ⟨(i+1,om,ol,fv,xs++[f7]),_,rfl,zR,⟨er,ev.up<|Ao<|AS 153 d,es,et,eu,c4,oM,Pf,oM,oM,oM,oM,oM⟩,zD⟩
    refine Am false Z Z (A6 cm) (Ae (e:=99) Z Z Z)<|Ac 1 Z<|Ah Z<|A2 ?_
    letI:JR:=QW [gs,gg]
    refine Jx.AO _ [0,1,0,0,0,0,0,3,3,4,0,4] mixed (by kernel_rfl) ?_
    have htn:=Mh (k:=Hr (d-1)) (i:=i+1) oM
    have hts:QH (i+1) (Hr (d-1))=QH i (Hr (d-1))+Hr (d-1):=rfl
    have hti:=NI (k:=LP (d-1)) (i:=i) oM oM
    have hlo:=hko.lo
    have hln:=hko.len
    refine Jx.Ak (p:=zP f0.heap.size) 4 B9 Z Z Aa<|Jx.ZQ (p:=Ap (zP f0.heap.size) 4) vk Bd Z (fun wj hj=>(BX.chg (w:=f2.drew) (F:=[gs,gg]) a0 hj fun hm=>zH<|CA hm).ldp (i:=4) sM) Aa<|Jx.VU (zP gg) Z Aa<|Jx.VU (zI vars) Z Aa<|Jx.VU (zI funcs) Z Aa<|Jx.VU (zI (d:Int)) Z Aa<|Jx.j1<|Bs ((d-1:Nat):Int) Z Z (by rw[Da oM oM];omega) Aa<|Aj ?_
    refine Jx.As 124 [] [] [zP gg,zI vars,zI funcs,zI ((d-1:Nat):Int)] Z Z Mu Aa (IH1 (d-1) oM _ gg gs sv cs m pp dp l pl p (vars) (funcs) oM ac a4 (hp.chg (B5<|AU dp) a7.drew) _hvars _hfuncs oM oM hpr oM oM oM) ?_
    rintro p8 fi ⟨oo,f8,op,oq,rfl,a9,ew,m6,ey,c5,ez,m7⟩
    refine⟨_,rfl,a9,?_⟩
    replace c5:=c5.low (B':=f2.heap.size)<|A7 _
    replace a9:=a9.of_drew
    have kv:f2.heap.size≤fi.heap.size:=a9.size
    have g0:Au [gs,gg] w fi:=a7.trans a9
    have g1:=a3.chg (Ao<|AS 153 d) a9 fun c hc=>zH<|CA hc
    have g2:=a5.chg a9 fun hm=>zH<|CA hm
    have g3:=a0.chg a9 fun hm=>zH<|CA hm
    refine Jx.TS Z (EZ (cs:=[zI f8.kind,zI f8.num,zI f8.pick,zI f8.count,oo]) (y:=f8) (B:=f2.heap.size) (AS 153 d) D1 Bk Z (by decide) Z (MB.mk1 oM ez c5) oM Aa fun os fj aj m8 g4=>?_)
    have kw:fi.heap.size≤fj.heap.size:=aj.size
    have g5:Au [gs,gg] w fj:=g0.ext aj
    have bd:=g1.ext (Ao<|AS 153 d) aj
    have be:=ew.ext aj
    have bf:=ey.ext aj
    have bg:=g2.ext aj
    have bh:=g3.ext aj
    refine Is (v:=vk) (a:=os) (AS 153 d) D1 Bk Z (by decide) Z Z bd oM g4 oM oM oM (by unfold maxLen;omega) Aa fun fw fc p9 an aw co=>?_
    have kx:fj.heap.size≤fc.heap.size:=an.size
    have g6:Au [gs,gg] w fc:=g5.fresh an (fun c hc=>zH<|aw _ hc)
    have g7:=be.chg an fun c hc=>zH<|aw _ hc
    have g8:=bf.chg an fun hm=>zH<|aw _ hm
    have g9:=bg.chg an fun hm=>zH<|aw _ hm
    have ga:=bh.chg an fun hm=>zH<|aw _ hm
    refine Ak (p:=zP f0.heap.size) 4 B9 Z Z Aa (Be (k:=4) (w:=fc) QS Z Z (Bp co.isSlS) ga sM Aa fun fk ao m9 c6=>?_)
    replace c6:BX fk.heap f0.heap.size [zI k2,zI 0,zI 0,zI 0,fw]:=c6
    have ky:fc.heap.size≤fk.heap.size:=ao.size
    have gb:Au [gs,gg] w fk:=g6.fresh ao (fun _ h=>zE h)
    have gc:=g7.chg ao fun c hc=>zH<|A9 hc
    have gd:=g8.chg ao (zB ·)
    have ge:=g9.chg ao (zB ·)
    have gf:=co.chg (Ao<|AS 153 d) ao fun _ h=>zA h
    exact Aj<|Ab _ [0,0,0] Z<|Ad 1 Z<|AP ((i+1:Nat):Int) Z Z (Bl oM oM) Aa<|Ac 1 Z ⟨(i+1,oq,op,fw,xs++[f8]),_,rfl,zR,⟨gb,gf.up<|Ao<|AS 153 d,gc,gd,ge,c6,oM,Pf,oM,oM,oM,oM,oM⟩,zD⟩
   refine Am false Z Z (A6 cl) Aa<|Ac 4 Z<|Ah Z<|A2 ?_
   letI:JR:=QW [gs,gg]
   refine Jx.AO _ [0,1,0,0,0,0,0,3,3,4,0,4] mixed (by kernel_rfl) ?_
   have htn:=Mh (k:=Hr (d-1)) (i:=i+1) oM
   have hts:QH (i+1) (Hr (d-1))=QH i (Hr (d-1))+Hr (d-1):=rfl
   have hti:=NI (k:=LP (d-1)) (i:=i) oM oM
   have hlo:=hko.lo
   have hln:=hko.len
   refine Jx.Ak (p:=zP f0.heap.size) 4 B9 Z Z Aa<|Jx.ZQ (p:=Ap (zP f0.heap.size) 4) vk Bd Z (fun wj hj=>(BX.chg (w:=f2.drew) (F:=[gs,gg]) a0 hj fun hm=>zH<|CA hm).ldp (i:=4) sM) Aa<|Jx.VU (zP gg) Z Aa<|Jx.VU (zI vars) Z Aa<|Jx.VU (zI funcs) Z Aa<|Jx.VU (zI (d:Int)) Z Aa<|Jx.j1<|Bs ((d-1:Nat):Int) Z Z (by rw[Da oM oM];omega) Aa<|Aj ?_
   refine Jx.As 124 [] [] [zP gg,zI vars,zI funcs,zI ((d-1:Nat):Int)] Z Z Mu Aa (IH1 (d-1) oM _ gg gs sv cs m pp dp l pl p (vars) (funcs) oM ac a4 (hp.chg (B5<|AU dp) a7.drew) _hvars _hfuncs oM oM hpr oM oM oM) ?_
   rintro pa fl ⟨ot,f9,ou,ov,rfl,aa,gh,ma,gi,c7,gj,mb⟩
   refine⟨_,rfl,aa,?_⟩
   replace c7:=c7.low (B':=f2.heap.size)<|A7 _
   replace aa:=aa.of_drew
   have kz:f2.heap.size≤fl.heap.size:=aa.size
   have gk:Au [gs,gg] w fl:=a7.trans aa
   have gl:=a3.chg (Ao<|AS 153 d) aa fun c hc=>zH<|CA hc
   have gm:=a5.chg aa fun hm=>zH<|CA hm
   have gn:=a0.chg aa fun hm=>zH<|CA hm
   refine Jx.TS Z (EZ (cs:=[zI f9.kind,zI f9.num,zI f9.pick,zI f9.count,ot]) (y:=f9) (B:=f2.heap.size) (AS 153 d) D1 Bk Z (by decide) Z (MB.mk1 oM gj c7) oM Aa fun ow fm ak mc go=>?_)
   have l2:fl.heap.size≤fm.heap.size:=ak.size
   have gp:Au [gs,gg] w fm:=gk.ext ak
   have bi:=gl.ext (Ao<|AS 153 d) ak
   have bj:=gh.ext ak
   have bk:=gi.ext ak
   have bl:=gm.ext ak
   have bm:=gn.ext ak
   refine Is (v:=vk) (a:=ow) (AS 153 d) D1 Bk Z (by decide) Z Z bi oM go oM oM oM (by unfold maxLen;omega) Aa fun fx fd pb ap ax cp=>?_
   have l3:fm.heap.size≤fd.heap.size:=ap.size
   have gq:Au [gs,gg] w fd:=gp.fresh ap (fun c hc=>zH<|ax _ hc)
   have gr:=bj.chg ap fun c hc=>zH<|ax _ hc
   have gt:=bk.chg ap fun hm=>zH<|ax _ hm
   have gu:=bl.chg ap fun hm=>zH<|ax _ hm
   have gv:=bm.chg ap fun hm=>zH<|ax _ hm
   refine Ak (p:=zP f0.heap.size) 4 B9 Z Z Aa (Be (k:=4) (w:=fd) QS Z Z (Bp cp.isSlS) gv sM Aa fun fo aq md c8=>?_)
   replace c8:BX fo.heap f0.heap.size [zI k2,zI 0,zI 0,zI 0,fx]:=c8
   have l4:fd.heap.size≤fo.heap.size:=aq.size
   have gw:Au [gs,gg] w fo:=gq.fresh aq (fun _ h=>zE h)
   have gx:=gr.chg aq fun c hc=>zH<|A9 hc
   have gy:=gt.chg aq (zB ·)
   have gz:=gu.chg aq (zB ·)
   have i0:=cp.chg (Ao<|AS 153 d) aq fun _ h=>zA h
   exact Aj<|Ab _ [0,0,0] Z<|Ad 1 Z<|AP ((i+1:Nat):Int) Z Z (Bl oM oM) Aa<|Ac 1 Z ⟨(i+1,ov,ou,fx,xs++[f9]),_,rfl,zR,⟨gw,i0.up<|Ao<|AS 153 d,gx,gy,gz,c8,oM,Pf,oM,oM,oM,oM,oM⟩,zD⟩
  refine AG false Z Z (A6 ck) Aa<|Aj<|Ah Z<|A4<|Ax<|Ax<|At<|bZ [2,4] Z<|AK (p:=zP f0.heap.size) (.inr Z) [zI k2,zI 0,zI 0,zI 0,vk] B6 Z (fun pi ns=>LD.of_box<|BX.ext (w:=f2) a0 ns) Z Aa (Bz (vs:=[zI k2,zI 0,zI 0,zI 0,vk]) B6 Z Z (by intro u hu;simp only[ze,z2,or_false]at hu;rcases hu with rfl|rfl|rfl|rfl|rfl <;> first|exact⟨rfl,rfl⟩|exact Bp a3.isSlS) a5 Z Z Aa fun fp ar me c9=>?_)
  replace c9:BX fp.heap w.heap.size [zI k2,zI 0,zI 0,zI 0,vk]:=c9
  have l5:f2.heap.size≤fp.heap.size:=ar.size
  have i1:Au [gs,gg] w fp:=a7.fresh ar (fun _ h=>zE h)
  have i2:=a3.chg (Ao<|AS 153 d) ar fun _ h=>zA h
  have i3:=ac.chg ar fun c hc=>zH<|A9 hc
  have i4:=a4.chg ar (zB ·)
  have mf:=a0.chg ar (zB ·)
  refine Aj<|A1 ?_
  have hln:=hko.len
  have htn:=Mh (k:=Hr (d-1)) (i:=i) oM
  exact CI (cs:=[zI k2,zI 0,zI 0,zI 0,vk]) Z B6 Z c9 Z ⟨vk,.mk k2 0 0 0 xs,m,l,rfl,i1,i3,⟨zO,zO⟩,i4,(i2.up<|Ao<|AS 153 d).low (B':=w.heap.size) oM,KT oM oM oM oM,(by exact hko.node oM oM oM nr (Xh oM oM))⟩
 refine Ag (by first|rfl|exact zW dh)<|bZ [0,0,4,4] Z<|Ad 2 Z<|AA 196 [] [] [zP gg,zI vars] Z Z Qn Aa (CZ _ gg gs sv cs oz pp dp (l0-((1:Nat):Int)) pl p (vars) oM df ce (hp.chg (B5<|AU dp) cd) _hvars oM oM) ?_
 rintro pc fq ⟨f3,ox,rfl,ca,i5,mg,i6,i7,d9,mh⟩
 refine⟨_,rfl,?_⟩
 have l6:f0.heap.size≤fq.heap.size:=ca.size
 have i8:Au [gs,gg] w fq:=cd.trans ca
 have i9:=cf.chg ca fun hm=>zH<|CA hm
 refine Bz (vs:=[zI f3.kind,zI f3.num,zI f3.pick,zI f3.count,zN]) B6 Z Z GW i9 Z Z Aa fun fr b3 mi cb=>?_
 replace cb:BX fr.heap w.heap.size [zI f3.kind,zI f3.num,zI f3.pick,zI f3.count,zN]:=cb
 have l7:fq.heap.size≤fr.heap.size:=b3.size
 have ia:Au [gs,gg] w fr:=i8.fresh b3 (fun _ h=>zE h)
 have ib:=i5.chg b3 fun c hc=>zH<|A9 hc
 have ic:=i6.chg b3 (zB ·)
 exact Aj<|A1<|Al<|CI (cs:=[zI f3.kind,zI f3.num,zI f3.pick,zI f3.count,zN]) Z B6 Z cb Z ⟨zN,f3,ox,l0-((1:Nat):Int),rfl,ia,ib,⟨zO,zO⟩,ic,(by rw[d9];exact GE _ _ _),i7,(by exact OK.ok (by assumption) d)⟩
theorem XZ:∀d,GX d∧(1≤d→GC d):=by
  intro d
  induction d using Nat.strongRecOn with
  |_ d ih =>
    have hc:1≤d→GC d:=fun h1 w gg gs sv cs n0 pp dp l0 pl p vars funcs hgg hs hB0 hp hv' hf' hv hfu hpr hd hn hl=>IS w gg gs sv cs n0 pp dp l0 pl p vars funcs d hgg hs hB0 hp hv' hf' hv hfu hpr hd hn hl (ih (d-1) zO).1
    exact⟨fun w gg gs sv cs n0 pp dp l0 pl p vars funcs hgg hs hB0 hp hv' hf' hv hfu hpr hd hn hl=>IT w gg gs sv cs n0 pp dp l0 pl p vars funcs d hgg hs hB0 hp hv' hf' hv hfu hpr hd hn hl (fun d' h=>(ih d' h).1) hc,hc⟩
theorem Tx (d:Nat):GX d:=(XZ d).1
theorem Fy (w:World)(g:Nat)(sv:Value)(cs:List UInt8)(n0:Nat)(vl:Value)(us:List Value)(hs:EB w.heap g sv cs n0)(a7:n0+2≤1000000000000)(hl:∀w',Au [g] w w'→Rd (B3 rV) w'.heap vl us)(hus:∀u∈us,∃s,u=Value.string s)(hul:1≤us.length∧us.length≤1000)  :
  Calls Tryz.prog 123 #[zP g,vl] w (fun e w'=>∃(x0:ByteArray) (n1:Nat),e=.returned (.string x0)∧Au [g] w w'∧EB w'.heap g sv cs n1∧(n0≤n1∧n1≤n0+2)∧(Value.string x0∈us)):=by
 refine Aq [zP g,vl] 12 Tryz.func123 Z Z sM ?_
 have a1:Au [g] w w:=Au.refl [g] w
 have aa:=(hl _ a1).lenle
 have ab:=hs.lt
 refine cA Z<|bZ [0,0,0,0,4,0,2,0] Z<|Ad 3 Z<|AQ (v:=vl) Ux Z (hl _ a1).isSl Aa<|AA 68 [] [] [zP g,zI (us.length:Int)] Z Z H8 Aa (AV _ g _ _ _ (us.length:Int) hs oM oM oM) ?_
 rintro e1 w1 ⟨a9,n1,rfl,a3,a5,a8,a4⟩
 refine⟨_,rfl,?_⟩
 have a6:w.heap.size≤w1.heap.size:=a3.size
 have a2:Au [g] w w1:=a1.trans a3
 refine AB (v:=vl) ((a9).toNat) Ux bL Z Z (hl _ a2).isSl oM sD Aa ?_
 obtain⟨sx2,a0⟩:=hus (us.getD ((a9).toNat) undef) (RM sD)
 refine Ai (p:=Ay vl ((a9).toNat) 1) (.inr Z) (.string sx2) OT Z (by rw[← a0];exact(Rd.getV (hl _ a2) sD).1) Aa ?_
 have hsm:Value.string sx2∈us:=a0 ▸ RM sD
 exact Ac 1 Z<|A1<|Af [4] Z (.string sx2) Z ⟨sx2,n1,rfl,a2,a5,⟨zO,zO⟩,hsm⟩
theorem LG (w:World)(n:Int)(_hn:Bx n)(hk:0≤n∧n<10) :
  Calls Tryz.prog 150 #[zI n] w (fun e w'=>∃s,e=.returned (.string s)∧AF w w'∧s=IU n.toNat):=by
 refine Aq [zI n] 20 Tryz.func150 Z Z sM ?_
 have a2:AF w w:=AF.refl w
 refine cA Z<|A0<|bZ [0,0] Z<|Ad 1 Z ?_
 by_cases a0:n<((10:Nat):Int)
 ·refine AG true Z Z (A5 a0) Aa<|Aj<|Ag Z<|bZ [0,0,0,3,2,0] Z<|Ad 1 Z ?_
  refine AP (((48:Nat):Int)+n) Z Z (Da sD sD) Aa<|Jw (IntKind.u8.wrap (((48:Nat):Int)+n)) u2 u5 Z Z Aa ?_
  refine BI (u:=.int .u8<|IntKind.u8.wrap (((48:Nat):Int)+n)) (B:=w.heap.size) By QT bK Z Z (Oj (w.heap.size) (w.heap.size) _ ⟨rfl,rfl⟩) (A7 _) Aa fun v2 w2 a1 a6 a3=>?_
  have a4:=a1.size
  have a5:=a2.trans a1
  exact TV QT u5 u9 Z a3 Aa<|Ac 1 Z<|A1<|Al<|Af [2] Z (.string (⟨#[UInt8.ofNat (IntKind.u8.wrap (((48:Nat):Int)+n)).toNat]⟩:ByteArray)) Z ⟨(⟨#[UInt8.ofNat (IntKind.u8.wrap (((48:Nat):Int)+n)).toNat]⟩:ByteArray),rfl,a5,(by exact Xk hk.1 hk.2)⟩
 exact absurd hk.2 a0
theorem LH (w:World)(g:Nat)(sv:Value)(cs:List UInt8)(n0:Nat)(funcs:Int)(nodes:Int)(plain:Bool)(hs:EB w.heap g sv cs n0)(j0:n0+(150000*funcs.toNat)≤1000000000000)(_hfuncs:Bx funcs)(_hnodes:Bx nodes)(hfn:0≤funcs∧funcs≤9)(hnd:1≤nodes∧nodes≤30) :
  Calls Tryz.prog 67 #[zP g,zI funcs,zI nodes,.bool plain] w (fun e w'=>∃(v:Value) (p:List Fn) (n1:Nat),e=.returned (.agg #[v])∧Au [g] w w'∧EB w'.heap g sv cs n1∧(n0≤n1∧n1≤n0+(150000*funcs.toNat))∧Fr (E4 3 (Pn 153 6) 49) w.heap.size w'.heap.size w'.heap v p∧KU p plain∧Dn p∧(p.length:Int)=funcs):=by
 refine Aq [zP g,zI funcs,zI nodes,.bool plain] 65 Tryz.func67 Z Z sM ?_
 have ga:Au [g] w w:=Au.refl [g] w
 have j7:=hs.lt
 have j1:=aF
 have j2:=aG
 refine bZ [3] Z (Bo (z:=.agg #[zN]) T8 Aa fun w1 dr i1 ds=>?_)
 have dt:w.heap.size≤w1.heap.size:=dr.size
 have gb:Au [g] w w1:=ga.ext dr
 have du:=hs.ext dr
 replace ds:BX w1.heap w.heap.size [zN]:=ds
 refine Aj<|bZ [0,3,4] Z ?_
 have dv:∀(wq:World),(Instr.build 26 #[]).run Tryz.prog wq=.ok (.agg #[zN]) wq:=by intro wq;kernel_rfl
 refine C3 (ps:=#[]) (.agg #[zN]) (by simp only[zc,zf,zh]) (fun wq=>dv  wq) Aa ?_
 have j3:=ds.lt
 refine Bo (z:=.agg #[zN]) T8 Aa fun w3 cb i2 dw=>?_
 have dx:w1.heap.size≤w3.heap.size:=cb.size
 have gc:Au [g] w w3:=gb.ext cb
 have dy:=du.ext cb
 have cc:=ds.ext cb
 replace dw:BX w3.heap w1.heap.size [zN]:=dw
 refine Bz (vs:=[zN]) BZ Z Z (by intro u hu;simp only[ze,z2,or_false]at hu;rcases hu with rfl <;> first|exact⟨rfl,rfl⟩) dw Z Z Aa fun w5 cd i3 dz=>?_
 replace dz:BX w5.heap w1.heap.size [zN]:=dz
 have i4:w3.heap.size≤w5.heap.size:=cd.size
 have i5:Au [g] w w5:=gc.fresh cd (fun _ h=>zE h)
 have gd:=dy.chg cd fun c hc=>zH<|A9 hc
 have ge:=cc.chg cd (zB ·)
 refine Aj<|A0<|cA Z<|A3 ?_
 refine B1 (S:=Nat×Value×List Fn×Nat) (fun⟨k,vp,ps,m⟩=>([(10,zI (k:Int)),(0,zP g),(1,zI funcs),(2,zI nodes),(3,.bool plain),(8,zP w.heap.size),(9,zP w1.heap.size)])) (fun⟨k,vp,ps,m⟩ W=>Au [g] w W∧Fr (E4 3 (Pn 153 6) 49) w5.heap.size W.heap.size W.heap vp ps∧EB W.heap g sv cs m∧BX W.heap w.heap.size [zN]∧BX W.heap w1.heap.size [vp]∧(k:Int)≤funcs∧KU ps plain∧Dn ps∧ps.length=k∧(n0≤m∧m≤n0+150000*k)∧(g<w5.heap.size∧w.heap.size≤w5.heap.size)∧w.heap.size<w5.heap.size∧w1.heap.size<w5.heap.size∧w5.heap.size≤W.heap.size) (fun⟨k,vp,ps,m⟩=>funcs.toNat-k) (0,zN,([]:List Fn),n0) ⟨rfl,rfl,rfl,rfl,rfl,rfl,rfl,trivial⟩ ⟨i5,(GE _ 0 _).up<|Ao<|AL 153 6,gd,ge,dz,oM,(by exact KU.nil _),Dn.nil,(by rfl),oM,oM,oM,oM,oM⟩ ?_
 clear ga i1 dr dt gb i2 cb dx gc i3 cd gd ge
 rintro⟨k,vp,ps,m⟩ ρ10 f4 ⟨bx,ab,an,ac,a1,hkf,fb,hdn,hpk,hmk,hgb,i6,i7,gf⟩
 have gg:w.heap.size≤f4.heap.size:=bx.size
 have i8:=ac.lt
 have i9:=a1.lt
 refine A0<|bZ [0,0,0] Z<|Ad 2 Z ?_
 by_cases ce:(k:Int)<funcs
 ·refine AG true Z Z (A5 ce) Aa<|Aj<|Ag Z<|A2<|A0<|A3<|bZ [0,3,4,0,3,0,0,4,0,0,3,4] Z<|Ad 1 Z (RR (ys:=[.string<|⟨#[102]⟩,.string<|⟨#[103]⟩,.string<|⟨#[115,116,101,112]⟩,.string<|⟨#[104,50]⟩]) By Ux bL Z Z Z Z Z Z (UW ⟨rfl,rfl⟩ ⟨rfl,rfl⟩ ⟨rfl,rfl⟩ ⟨rfl,rfl⟩) Aa fun fq fh ao e0 bz=>?_)
  have cf:f4.heap.size≤fh.heap.size:=ao.size
  have cg:Au [g] w fh:=bx.ext ao
  have a5:=ab.ext (Ao<|AL 153 6) ao
  have a6:=an.ext ao
  have a7:=ac.ext ao
  have a8:=a1.ext ao
  refine AA 123 [] [] [zP g,fq] Z Z Vo Aa (Fy _ g _ _ _ fq _ a6 oM (fun w9 h9=>(bz.chg oV h9 fun c hc=>zH<|A9 hc).rdV1) (by intro u hu;simp only[ze,z2,or_false]at hu;rcases hu with rfl|rfl|rfl|rfl <;> exact⟨_,rfl⟩) sM) ?_
  rintro j8 fi ⟨f1,j9,rfl,ap,e1,ia,c0⟩
  refine⟨_,rfl,?_⟩
  have ch:fh.heap.size≤fi.heap.size:=ap.size
  have ci:Au [g] w fi:=cg.trans ap
  have cj:=a5.chg (Ao<|AL 153 6) ap fun _ h=>zA h
  have ck:=a7.chg ap (zB ·)
  have cl:=a8.chg ap (zB ·)
  have cm:=bz.chg (oV) ap fun _ h=>zA h
  have hfo:=RS c0
  refine Ad 1 Z<|As 150 [] [] [zI (k:Int)] Z Z YQ Aa (LG _ (k:Int) oM oM) ?_
  rintro ja fj ⟨st21,rfl,ad,rfl⟩
  refine⟨_,rfl,ad,?_⟩
  have cn:fi.heap.size≤fj.heap.size:=ad.size
  have co:Au [g] w fj:=ci.ext ad
  have az:=cj.ext (Ao<|AL 153 6) ad
  have bo:=e1.ext ad
  have b0:=ck.ext ad
  have b1:=cl.ext ad
  have b2:=cm.ext (oV) ad
  refine X1 (a:=f1) (b:=IU k) Z Z (by have:=QI _ hfo;have:=RQ k;omega) Aa<|Ad 1 Z<|AA 68 [] [] [zP g,zI ((3:Nat):Int)] Z Z H8 Aa (AV _ g _ _ _ ((3:Nat):Int) bo oM oM sD) ?_
  rintro jb f2 ⟨f0,jc,rfl,aq,e2,ib,e3⟩
  refine⟨_,rfl,?_⟩
  have cp:fj.heap.size≤f2.heap.size:=aq.size
  have cq:Au [g] w f2:=co.trans aq
  have cr:=az.chg (Ao<|AL 153 6) aq fun _ h=>zA h
  have c1:=b0.chg aq (zB ·)
  have c2:=b1.chg aq (zB ·)
  have ct:=b2.chg (oV) aq fun _ h=>zA h
  refine AP (((1:Nat):Int)+f0) Z Z (Da sD sD) Aa ?_
  have cu:∀(wq:World),(Instr.build 49 #[(0,.string (f1++IU k)),(1,zI (((1:Nat):Int)+f0))]).run Tryz.prog wq=.ok (.agg #[.string (f1++IU k),zI (((1:Nat):Int)+f0),zN]) wq:=by intro wq;kernel_rfl
  refine C3 (ps:=#[(0,.string (f1++IU k)),(1,zI (((1:Nat):Int)+f0))]) (.agg #[.string (f1++IU k),zI (((1:Nat):Int)+f0),zN]) (by simp only[zc,zf,zh];rfl) (fun wq=>cu  wq) Aa ?_
  have ic:=c1.lt
  have id:=c2.lt
  refine Bo (z:=.agg #[.string ByteArray.empty,zI 0,zN]) Uz Aa fun fc ag e4 c3=>?_
  have cv:f2.heap.size≤fc.heap.size:=ag.size
  have cw:Au [g] w fc:=cq.ext ag
  have b3:=cr.ext (Ao<|AL 153 6) ag
  have bp:=e2.ext ag
  have b4:=c1.ext ag
  have b5:=c2.ext ag
  have b6:=ct.ext (oV) ag
  replace c3:BX fc.heap f2.heap.size [.string ByteArray.empty,zI 0,zN]:=c3
  refine Bz (vs:=[.string (f1++IU k),zI (((1:Nat):Int)+f0),zN]) Jm Z Z (by intro u hu;simp only[ze,z2,or_false]at hu;rcases hu with rfl|rfl|rfl <;> first|exact⟨rfl,rfl⟩) c3 Z Z Aa fun fd ah e5 c4=>?_
  replace c4:BX fd.heap f2.heap.size [.string (f1++IU k),zI (((1:Nat):Int)+f0),zN]:=c4
  have cx:fc.heap.size≤fd.heap.size:=ah.size
  have cy:Au [g] w fd:=cw.fresh ah (fun _ h=>zE h)
  have cz:=b3.chg (Ao<|AL 153 6) ah fun _ h=>zA h
  have d0:=bp.chg ah fun c hc=>zH<|A9 hc
  have d1:=b4.chg ah (zB ·)
  have d2:=b5.chg ah (zB ·)
  have d3:=b6.chg (oV) ah fun _ h=>zA h
  refine Aj<|bZ [0,4,0,0] Z<|Ad 1 Z<|AA 68 [] [] [zP g,zI ((3:Nat):Int)] Z Z H8 Aa (AV _ g _ _ _ ((3:Nat):Int) d0 oM oM sD) ?_
  rintro jd fe ⟨f5,je,rfl,ai,e6,ie,e7⟩
  refine⟨_,rfl,?_⟩
  have d4:fd.heap.size≤fe.heap.size:=ai.size
  have d5:Au [g] w fe:=cy.trans ai
  have d6:=cz.chg (Ao<|AL 153 6) ai fun _ h=>zA h
  have d7:=d1.chg ai (zB ·)
  have d8:=d2.chg ai (zB ·)
  have d9:=d3.chg (oV) ai fun _ h=>zA h
  have da:=c4.chg ai (zB ·)
  refine AP (((1:Nat):Int)+f5) Z Z (Da sD sD) Aa<|Ac 1 Z ?_
  refine A0<|J1 (S:=Int×Nat) (fun⟨o,m1⟩=>([(12,zI o),(0,zP g),(1,zI funcs),(2,zI nodes),(3,.bool plain),(8,zP w.heap.size),(9,zP w1.heap.size),(10,zI (k:Int)),(11,zP f2.heap.size)])) (fun⟨o,m1⟩ W=>Au [g] w W∧Fr (E4 3 (Pn 153 6) 49) w5.heap.size f4.heap.size W.heap vp ps∧EB W.heap g sv cs m1∧BX W.heap w.heap.size [zN]∧BX W.heap w1.heap.size [vp]∧BX W.heap f2.heap.size [.string (f1++IU k),zI (((1:Nat):Int)+f0),zN]∧(1≤o∧o≤3)∧(n0≤m1∧m1≤n0+150000*k+8)∧f4.heap.size≤fe.heap.size∧(g<w5.heap.size∧w.heap.size≤w5.heap.size)∧f4.heap.size≤f2.heap.size∧w5.heap.size≤W.heap.size) ?_ ?_
  ·refine bZ [0,4] Z<|Ad 1 Z<|AA 122 [] [] [zP g,zI ((2:Nat):Int)] Z Z Ms Aa (C8 _ g _ _ _ ((2:Nat):Int) e6 oM oM sD) ?_
   rintro jf fr ⟨fa,fs,rfl,ar,db,ig,e8⟩
   refine⟨_,rfl,?_⟩
   have gh:fe.heap.size≤fr.heap.size:=ar.size
   have dc:Au [g] w fr:=d5.trans ar
   have dd:=d6.chg (Ao<|AL 153 6) ar fun _ h=>zA h
   have de:=d7.chg ar (zB ·)
   have df:=d8.chg ar (zB ·)
   have ih:=d9.chg (oV) ar fun _ h=>zA h
   have c5:=da.chg ar (zB ·)
   refine Aj ?_
   cases dg:fa
   ·exact Ah (by first|rfl|exact zW dg)<|A2 ⟨(((1:Nat):Int)+f5,fs),_,rfl,zR,⟨dc,dd,db,de,df,c5,oM,oM,oM,oM,oM,oM⟩⟩
   exact Ag (by first|rfl|exact zW dg)<|Ab _ [0,2,0] Z<|Ak (p:=zP f2.heap.size) 1 C2 Z Z Aa<|Ai (p:=Ap (zP f2.heap.size) 1) (.inr Z) (zI (((1:Nat):Int)+f0)) AD Z (c5.ldp (i:=1) sM) Aa<|Ac 1 Z ⟨(((1:Nat):Int)+f0,fs),_,rfl,zR,⟨dc,dd,db,de,df,c5,oM,oM,oM,oM,oM,oM⟩⟩
  clear a1 ac an ab bz e0 ao cf cg a5 a6 a7 a8 ap ch ci cj ck cl cm ad cn co az b0 b1 b2 aq cp cq cr c1 c2 ct e4 ag cv cw b3 b4 b5 b6 e5 ah cx cy cz d0 d1 d2 d3 ai d4 d5 d6 d7 d8 d9 da
  rintro⟨o,m1⟩ ρ43 f6 ⟨dh,bh,bi,au,av,aw,j4,j5,huw,hgb,huf,gi⟩
  have gj:w.heap.size≤f6.heap.size:=dh.size
  have ii:=au.lt
  have ij:=av.lt
  have ik:=aw.lt
  refine A0<|cA Z<|A3 ?_
  refine B1 (S:=Nat×Value×List Ex×Nat) (fun⟨i,vo,xs,m2⟩=>([(13,zI (i:Int)),(0,zP g),(1,zI funcs),(2,zI nodes),(3,.bool plain),(8,zP w.heap.size),(9,zP w1.heap.size),(10,zI (k:Int)),(11,zP f2.heap.size),(12,zI o)])) (fun⟨i,vo,xs,m2⟩ W=>Au [g] w W∧Fr (E4 5 (LM 153 6) 153) f6.heap.size W.heap.size W.heap vo xs∧Fr (E4 3 (Pn 153 6) 49) w5.heap.size f4.heap.size W.heap vp ps∧EB W.heap g sv cs m2∧BX W.heap w.heap.size [zN]∧BX W.heap w1.heap.size [vp]∧BX W.heap f2.heap.size [.string (f1++IU k),zI (((1:Nat):Int)+f0),vo]∧(i:Int)≤o∧Om ps (((1:Nat):Int)+f0) plain xs i∧(n0≤m2∧m2≤n0+150000*k+8+47770*i)∧f4.heap.size≤f6.heap.size∧(g<w5.heap.size∧w.heap.size≤w5.heap.size)∧f4.heap.size≤f2.heap.size∧w.heap.size<f6.heap.size∧w1.heap.size<f6.heap.size∧f2.heap.size<f6.heap.size∧f6.heap.size≤W.heap.size∧w5.heap.size≤W.heap.size) (fun⟨i,vo,xs,m2⟩=>o.toNat-i) (0,zN,([]:List Ex),m1) ⟨rfl,rfl,rfl,rfl,rfl,rfl,rfl,rfl,rfl,rfl,trivial⟩ ⟨dh,(GE _ 0 _).up<|Ao<|AS 153 6,bh,bi,au,av,aw,oM,(by exact Om.nil _ _ _),oM,oM,oM,oM,oM,oM,oM,oM,oM⟩ ?_
  clear aw av au bi bh
  rintro⟨i,vo,xs,m2⟩ ρ58 f3 ⟨c6,bj,bk,bl,ae,a2,a3,hio,hff,j6,huw,hgb,huf,gk,gl,gm,gn,go⟩
  have gp:w.heap.size≤f3.heap.size:=c6.size
  have il:=ae.lt
  have im:=a2.lt
  have io:=a3.lt
  refine A0<|bZ [0,0,0] Z<|Ad 2 Z ?_
  by_cases di:(i:Int)<o
  ·refine AG true Z Z (A5 di) Aa<|Aj<|Ag Z<|A2<|A0<|A3<|bZ [0,0,0,0,3,0] Z<|Ad 3 Z ?_
   have dj:∀(wq:World),(Instr.build 151 #[(0,zP g),(1,zP w1.heap.size),(2,zI nodes),(3,.bool plain)]).run Tryz.prog wq=.ok (.agg #[zP g,zP w1.heap.size,zI nodes,.bool plain]) wq:=by intro wq;kernel_rfl
   refine C3 (ps:=#[(0,zP g),(1,zP w1.heap.size),(2,zI nodes),(3,.bool plain)]) (.agg #[zP g,zP w1.heap.size,zI nodes,.bool plain]) (by simp only[zc,zf,zh];rfl) (fun wq=>dj  wq) Aa ?_
   have ip:=ae.lt
   have iq:=a2.lt
   have ir:=a3.lt
   refine Bu (cs:=#[zP g,zP w1.heap.size,zI nodes,.bool plain]) Z Aa fun f7 aj is c7=>?_
   have gq:f3.heap.size≤f7.heap.size:=aj.size
   have e9:Au [g] w f7:=c6.ext aj
   have b7:=bj.ext (Ao<|AS 153 6) aj
   have a9:=bk.ext (Ao<|AL 153 6) aj
   have b8:=bl.ext aj
   have b9:=ae.ext aj
   have aa:=a2.ext aj
   have a0:=a3.ext aj
   replace c7:BX f7.heap f3.heap.size [zP g,zP w1.heap.size,zI nodes,.bool plain]:=c7
   refine Ac 1 Z ?_
   letI:JR:=QW [g,f3.heap.size]
   refine Jx.AO _ [0,1,0,0,1,0,3,3,4,0,4] mixed (by kernel_rfl)<|Jx.Ak (p:=zP f2.heap.size) 2 BL Z Z Aa<|Jx.ZQ (p:=Ap (zP f2.heap.size) 2) vo Bd Z (fun wj hj=>(BX.chg (w:=f7.drew) (F:=[g,f3.heap.size]) a0 hj fun hm=>zH<|CA hm).ldp (i:=2) sM) Aa<|Jx.VU (zP f3.heap.size) Z Aa<|Jx.Ak (p:=zP f2.heap.size) 1 C2 Z Z Aa ?_
   refine Jx.ZQ (p:=Ap (zP f2.heap.size) 1) (zI (((1:Nat):Int)+f0)) AD Z (fun wj hj=>(BX.chg (w:=f7.drew) (F:=[g,f3.heap.size]) a0 hj fun hm=>zH<|CA hm).ldp (i:=1) sM) Aa<|Jx.VU (zI (k:Int)) Z Aa ?_
   refine Jx.As 124 [] [] [zP f3.heap.size,zI (((1:Nat):Int)+f0),zI (k:Int),zI ((5:Nat):Int)] Z Z Mu Aa (Tx 5 _ f3.heap.size g sv cs m2 (zP w1.heap.size) 6 nodes plain ps (((1:Nat):Int)+f0) (k:Int) oM b8 c7 (RN.box aa (RP.mk'<|RN.of_frF2 a9 fun b hb=>zH<|CA hb) fun hb=>zH<|CA hb) oM oM oM oM fb.gpr oM oM oM) ?_
   rintro jg fk ⟨fv,f9,fw,jh,rfl,a4,ea,it,eb,c8,ec,iu⟩
   refine⟨_,rfl,a4,?_⟩
   replace c8:=c8.low (B':=f7.heap.size)<|A7 _
   replace a4:=a4.of_drew
   have gr:f7.heap.size≤fk.heap.size:=a4.size
   have ed:Au [g] w fk:=e9.new2 a4 (List.mem_singleton.2 Z) oM
   have ee:=b7.chg (Ao<|AS 153 6) a4 fun c hc=>zH<|CA hc
   have ef:=a9.chg (Ao<|AL 153 6) a4 fun c hc=>zH<|CA hc
   have eg:=b9.chg a4 fun hm=>zH<|CA hm
   have eh:=aa.chg a4 fun hm=>zH<|CA hm
   have ei:=a0.chg a4 fun hm=>zH<|CA hm
   refine Jx.TS Z (EZ (cs:=[zI f9.kind,zI f9.num,zI f9.pick,zI f9.count,fv]) (y:=f9) (B:=f7.heap.size) (AS 153 6) D1 Bk Z (by decide) Z (MB.mk1 (d:=6) oM ec c8) oM Aa fun fx fl af iv ej=>?_)
   have gs:fk.heap.size≤fl.heap.size:=af.size
   have ek:Au [g] w fl:=ed.ext af
   have bq:=ee.ext (Ao<|AS 153 6) af
   have br:=ef.ext (Ao<|AL 153 6) af
   have bs:=ea.ext af
   have bt:=eg.ext af
   have bu:=eh.ext af
   have bv:=ei.ext af
   have bw:=eb.ext af
   refine Is (v:=vo) (a:=fx) (AS 153 6) D1 Bk Z (by decide) Z Z bq oM ej oM oM (zH<|hff.len) (by have:=hff.len;unfold maxLen;omega) Aa fun ft ff ji ak ax dk=>?_
   have gt:fl.heap.size≤ff.heap.size:=ak.size
   have el:Au [g] w ff:=ek.fresh ak (fun c hc=>zH<|ax _ hc)
   have em:=br.chg (Ao<|AL 153 6) ak fun c hc=>zH<|ax _ hc
   have en:=bs.chg ak fun c hc=>zH<|ax _ hc
   have eo:=bt.chg ak fun hm=>zH<|ax _ hm
   have ep:=bu.chg ak fun hm=>zH<|ax _ hm
   have eq:=bv.chg ak fun hm=>zH<|ax _ hm
   have er:=bw.chg ak fun hm=>zH<|ax _ hm
   refine Ak (p:=zP f2.heap.size) 2 BL Z Z Aa (Be (k:=2) (w:=ff) QS Z Z (Bp dk.isSlS) eq sM Aa fun fm al iw c9=>?_)
   replace c9:BX fm.heap f2.heap.size [.string (f1++IU k),zI (((1:Nat):Int)+f0),ft]:=c9
   have gu:ff.heap.size≤fm.heap.size:=al.size
   have es:Au [g] w fm:=el.fresh al (fun _ h=>zE h)
   have et:=em.chg (Ao<|AL 153 6) al fun _ h=>zA h
   have eu:=en.chg al fun c hc=>zH<|A9 hc
   have ev:=eo.chg al (zB ·)
   have ew:=ep.chg al (zB ·)
   have ix:=er.chg al (zB ·)
   have ex:=dk.chg (Ao<|AS 153 6) al fun _ h=>zA h
   exact Aj<|Ab _ [0,0,0] Z<|Ad 1 Z<|AP ((i+1:Nat):Int) Z Z (Bl oM oM) Aa<|Ac 1 Z ⟨(i+1,ft,xs++[f9],fw),_,rfl,zR,⟨es,ex.up<|Ao<|AS 153 6,et,eu,ev,ew,c9,oM,(by exact hff.snoc (funcs:=(k:Int)) (d:=5) (l0:=nodes) oM oM oM (by assumption)),oM,oM,oM,oM,oM,oM,oM,oM,oM⟩,zD⟩
  refine AG false Z Z (A6 di) Aa<|Aj<|Ah Z<|A4<|Ax<|Ax<|At<|Ab _ [0,2,2,3,4,0,4] Z<|Ak (p:=zP w1.heap.size) 0 Bv Z Z Aa<|Ai (p:=Ap (zP w1.heap.size) 0) (.inr Z) vp BY Z (a2.ldp (i:=0) sM) Aa<|AK (p:=zP f2.heap.size) (.inr Z) [.string (f1++IU k),zI (((1:Nat):Int)+f0),vo] Jm Z (fun fy ey=>LD.of_box<|BX.ext (w:=f3) a3 ey) Z Aa ?_
  refine EZ (cs:=[.string (f1++IU k),zI (((1:Nat):Int)+f0),vo]) (y:=Fn.mk (f1++IU k) (((1:Nat):Int)+f0) xs) (B:=f6.heap.size) (AL 153 6) Gb Cj Z (by decide) Z (MB.mkF (x:=⟨f1++IU k,((1:Nat):Int)+f0,xs⟩) (RO (a:=((1:Nat):Int)+f0) oM) bj) oM Aa fun fz fo ay iy ez=>?_
  have gv:f3.heap.size≤fo.heap.size:=ay.size
  have g0:Au [g] w fo:=c6.ext ay
  have ba:=bk.ext (Ao<|AL 153 6) ay
  have bb:=bl.ext ay
  have bc:=ae.ext ay
  have bd:=a2.ext ay
  have be:=a3.ext ay
  refine Is (v:=vp) (a:=fz) (AL 153 6) Gb Cj Z (by decide) Z Z ba oM ez oM oM oM (by unfold maxLen;omega) Aa fun fu fg jj bf bm dl=>?_
  have gw:fo.heap.size≤fg.heap.size:=bf.size
  have g1:Au [g] w fg:=g0.fresh bf (fun c hc=>zH<|bm _ hc)
  have g2:=bb.chg bf fun c hc=>zH<|bm _ hc
  have g3:=bc.chg bf fun hm=>zH<|bm _ hm
  have g4:=bd.chg bf fun hm=>zH<|bm _ hm
  have g5:=be.chg bf fun hm=>zH<|bm _ hm
  refine Ak (p:=zP w1.heap.size) 0 Bv Z Z Aa (Be (k:=0) (w:=fg) Zo Z Z (Bp dl.isSlS) g4 sM Aa fun fp bg iz ca=>?_)
  replace ca:BX fp.heap w1.heap.size [fu]:=ca
  have gx:fg.heap.size≤fp.heap.size:=bg.size
  have g6:Au [g] w fp:=g1.fresh bg (fun _ h=>zE h)
  have g7:=g2.chg bg fun c hc=>zH<|A9 hc
  have g8:=g3.chg bg (zB ·)
  have gy:=g5.chg bg (zB ·)
  have dm:=dl.chg (Ao<|AL 153 6) bg fun _ h=>zA h
  refine Aj<|Ab _ [0,0,0] Z<|Ad 1 Z<|AP ((k+1:Nat):Int) Z Z (Bl oM oM) Aa<|Ac 1 Z ?_
  exact⟨(k+1,fu,ps++[Fn.mk (f1++IU k) (((1:Nat):Int)+f0) xs],m2),_,rfl,zR,⟨g6,dm.up (Ao (AL 153 6)),g7,g8,ca,oM,(by exact(Om.fn (i:=i) (f:=⟨f1++IU k,((1:Nat):Int)+f0,xs⟩) fb hdn oM ⟨by show 1≤(((1:Nat):Int)+f0);omega,by show(((1:Nat):Int)+f0)≤3;omega⟩ ⟨zO,zO⟩ hff hfo (by show _=_++IU ps.length;rw[hpk])).1),(by exact(Om.fn (i:=i) (f:=⟨f1++IU k,((1:Nat):Int)+f0,xs⟩) fb hdn oM ⟨by show 1≤(((1:Nat):Int)+f0);omega,by show(((1:Nat):Int)+f0)≤3;omega⟩ ⟨zO,zO⟩ hff hfo (by show _=_++IU ps.length;rw[hpk])).2),(by rw[z4,hpk];rfl),oM,oM,oM,oM,oM⟩,zD⟩
 refine AG false Z Z (A6 ce) Aa<|Aj<|Ah Z<|A4<|Ax<|Ax<|At<|bZ [2,4] Z<|AK (p:=zP w1.heap.size) (.inr Z) [vp] BZ Z (fun fy ey=>LD.of_box<|BX.ext (w:=f4) a1 ey) Z Aa (Bz (vs:=[vp]) BZ Z Z (by intro u hu;simp only[ze,z2,or_false]at hu;rcases hu with rfl <;> first|exact⟨rfl,rfl⟩|exact Bp ab.isSlS) ac Z Z Aa fun f8 am gz bn=>?_)
 replace bn:BX f8.heap w.heap.size [vp]:=bn
 have g9:f4.heap.size≤f8.heap.size:=am.size
 have dn:Au [g] w f8:=bx.fresh am (fun _ h=>zE h)
 have dp:=ab.chg (Ao<|AL 153 6) am fun _ h=>zA h
 have dq:=an.chg am fun c hc=>zH<|A9 hc
 have i0:=a1.chg am (zB ·)
 exact Aj<|A1<|CI (cs:=[vp]) Z BZ Z bn Z ⟨vp,ps,m,rfl,dn,dq,⟨zO,zO⟩,(dp.up<|Ao<|AL 153 6).low (B':=w.heap.size) oM,(by exact⟨fb,hdn,zO⟩)⟩
theorem Kg (w:World)(vc:Value)(cs:List UInt8)(hcs:Rd (B3 rU) w.heap vc cs)  :
  Calls Tryz.prog 42 #[vc] w (fun e w'=>∃(v va vb:Value) (p:List Fn) (f:Int) (a b:Sr),e=.returned (.tuple #[.agg #[v],zI f,va,vb])∧AF w w'∧Fr (E4 3 (Pn 153 6) 49) w.heap.size w'.heap.size w'.heap v p∧Fr (Bh rI 2) w.heap.size w'.heap.size w'.heap va a∧Fr (Bh rI 2) w.heap.size w'.heap.size w'.heap vb b∧Us p f a b):=by
 refine Aq [vc] 74 Tryz.func42 Z Z sM ?_
 have go:AF w w:=AF.refl w
 have fm:=hcs.lenle
 have gp:=aH
 have jg:=aI
 refine bZ [3,0,0,0] Z (Bo (z:=.agg #[zN]) T8 Aa fun w1 dv ii dw=>?_)
 have dx:=dv.size
 have dy:=go.trans dv
 replace dw:BX w1.heap w.heap.size [zN]:=dw
 refine Ac 3 Z<|bZ [0,3,0] Z<|Ad 1 Z<|As 66 [] [] [vc] Z Z XM Aa (Fs _ _ _<|hcs.ext Cs dy) ?_
 rintro e2 w2 ⟨gB2,rfl,cc,gq,jh⟩
 refine⟨_,rfl,cc,?_⟩
 have dz:=cc.size
 have e0:=dy.trans cc
 have cd:=dw.ext cc
 refine Ac 1 Z<|bZ [0,0,4,0,4,4,3,4] Z ?_
 have jo:=gq.lt
 refine Ad 2 Z<|AA 68 [] [] [zP gB2,zI ((3:Nat):Int)] Z Z H8 Aa (AV _ gB2 _ _ _ ((3:Nat):Int) gq oM oM oM) ?_
 rintro e3 w3 ⟨fa,n3,rfl,dr,ij,ji,gr⟩
 refine⟨_,rfl,?_⟩
 have e1:w2.heap.size≤w3.heap.size:=dr.size
 have e4:AF w w3:=dr.below e0 (fun _ h=>zE h) e0.size
 have gs:=cd.chg dr (zB ·)
 refine Ad 1 Z<|AA 122 [] [] [zP gB2,zI ((2:Nat):Int)] Z Z Ms Aa (C8 _ gB2 _ _ _ ((2:Nat):Int) ij oM oM oM) ?_
 rintro e5 w5 ⟨fb,n5,rfl,ds,gp,jj,gt⟩
 refine⟨_,rfl,?_⟩
 have ik:w3.heap.size≤w5.heap.size:=ds.size
 have gu:AF w w5:=ds.below e4 (fun _ h=>zE h) e4.size
 have gv:=gs.chg ds (zB ·)
 refine AA 67 [] [] [zP gB2,zI fa,zI ((7:Nat):Int),.bool fb] Z Z bE Aa (LH _ gB2 vc cs n5 (fa) ((7:Nat):Int) fb gp oM oM oM oM oM) ?_
 rintro e7 w7 ⟨v7,p7,n7,rfl,dt,il,jk,gw,du⟩
 refine⟨_,rfl,?_⟩
 have im:w5.heap.size≤w7.heap.size:=dt.size
 have io:AF w w7:=dt.below gu (fun _ h=>zE h) gu.size
 have e6:=gv.chg dt (zB ·)
 have fo:=du.1.npl
 have hdn:=du.2.1
 have hpk:=du.2.2
 have ip:=e6.lt
 refine Bo (z:=.agg #[zN]) T8 Aa fun w9 cb iq e8=>?_
 have e9:=cb.size
 have ea:=io.trans cb
 have bn:=e6.ext cb
 have ce:=il.ext cb
 have b8:=gw.ext (Ao<|AL 153 6) cb
 replace e8:BX w9.heap w7.heap.size [zN]:=e8
 refine Bz (vs:=[v7]) BZ Z Z (by intro u hu;simp only[ze,z2,or_false]at hu;rcases hu with rfl <;> first|exact⟨rfl,rfl⟩|exact Bp b8.isSlS) e8 Z Z Aa fun fi aw eb bo=>?_
 replace bo:BX fi.heap w7.heap.size [v7]:=bo
 have cf:w9.heap.size≤fi.heap.size:=aw.size
 have cg:AF w fi:=aw.below ea (fun _ h=>zE h) ea.size
 have ch:=bn.chg aw (zB ·)
 have ci:=ce.chg aw fun c hc=>zH<|A9 hc
 have cj:=b8.chg (Ao<|AL 153 6) aw fun _ h=>zA h
 refine Aj<|bZ [0,3,4,0,4,0,0,3,4] Z<|Ad 1 Z (RR (ys:=[.string<|⟨#[114]⟩,.string<|⟨#[114]⟩,.string<|⟨#[114]⟩,.string<|⟨#[108,111,111,112]⟩]) By Ux bL Z Z Z Z Z Z (UW ⟨rfl,rfl⟩ ⟨rfl,rfl⟩ ⟨rfl,rfl⟩ ⟨rfl,rfl⟩) Aa fun fp fu af ec bp=>?_)
 have ck:=af.size
 have bq:=cg.trans af
 have al:=ch.ext af
 have am:=ci.ext af
 have an:=cj.ext (Ao<|AL 153 6) af
 have be:=bo.ext af
 refine AA 123 [] [] [zP gB2,fp] Z Z Vo Aa (Fy _ gB2 _ _ _ fp _ am oM (fun w9 h9=>(bp.chg oV h9 fun c hc=>zH<|A9 hc).rdV1) (by intro u hu;simp only[ze,z2,or_false]at hu;rcases hu with rfl|rfl|rfl|rfl <;> exact⟨_,rfl⟩) sM) ?_
 rintro jp fj ⟨f1,jq,rfl,ag,ed,ir,br⟩
 refine⟨_,rfl,?_⟩
 have cl:fu.heap.size≤fj.heap.size:=ag.size
 have bs:AF w fj:=ag.below bq (fun _ h=>zE h) bq.size
 have cm:=al.chg ag (zB ·)
 have cn:=an.chg (Ao<|AL 153 6) ag fun _ h=>zA h
 have co:=be.chg ag (zB ·)
 have cp:=bp.chg (oV) ag fun _ h=>zA h
 have hnm:=Ur br
 refine Ad 1 Z<|AA 68 [] [] [zP gB2,zI ((3:Nat):Int)] Z Z H8 Aa (AV _ gB2 _ _ _ ((3:Nat):Int) ed oM oM oM) ?_
 rintro jr f3 ⟨f0,js,rfl,ah,ee,is,ef⟩
 refine⟨_,rfl,?_⟩
 have cq:fj.heap.size≤f3.heap.size:=ah.size
 have cr:AF w f3:=ah.below bs (fun _ h=>zE h) bs.size
 have bt:=cm.chg ah (zB ·)
 have ct:=cn.chg (Ao<|AL 153 6) ah fun _ h=>zA h
 have bu:=co.chg ah (zB ·)
 have cu:=cp.chg (oV) ah fun _ h=>zA h
 refine AP (((1:Nat):Int)+f0) Z Z (Da sD sD) Aa ?_
 have cv:∀(wq:World),(Instr.build 49 #[(0,.string f1),(1,zI (((1:Nat):Int)+f0))]).run Tryz.prog wq=.ok (.agg #[.string f1,zI (((1:Nat):Int)+f0),zN]) wq:=by intro wq;kernel_rfl
 refine C3 (ps:=#[(0,.string f1),(1,zI (((1:Nat):Int)+f0))]) (.agg #[.string f1,zI (((1:Nat):Int)+f0),zN]) (by simp only[zc,zf,zh];rfl) (fun wq=>cv  wq) Aa ?_
 have it:=bt.lt
 have iu:=bu.lt
 refine Bo (z:=.agg #[.string ByteArray.empty,zI 0,zN]) Uz Aa fun fq a9 eg bv=>?_
 have cw:=a9.size
 have bw:=cr.trans a9
 have ao:=bt.ext a9
 have bf:=ee.ext a9
 have ap:=ct.ext (Ao<|AL 153 6) a9
 have aq:=bu.ext a9
 have ar:=cu.ext (oV) a9
 replace bv:BX fq.heap f3.heap.size [.string ByteArray.empty,zI 0,zN]:=bv
 refine Bz (vs:=[.string f1,zI (((1:Nat):Int)+f0),zN]) Jm Z Z (by intro u hu;simp only[ze,z2,or_false]at hu;rcases hu with rfl|rfl|rfl <;> first|exact⟨rfl,rfl⟩) bv Z Z Aa fun ff aa eh bx=>?_
 replace bx:BX ff.heap f3.heap.size [.string f1,zI (((1:Nat):Int)+f0),zN]:=bx
 have cx:fq.heap.size≤ff.heap.size:=aa.size
 have bz:AF w ff:=aa.below bw (fun _ h=>zE h) bw.size
 have cy:=ao.chg aa (zB ·)
 have cz:=bf.chg aa fun c hc=>zH<|A9 hc
 have d0:=ap.chg (Ao<|AL 153 6) aa fun _ h=>zA h
 have d1:=aq.chg aa (zB ·)
 have d2:=ar.chg (oV) aa fun _ h=>zA h
 refine Aj<|bZ [0,4,0] Z<|Ad 1 Z<|AA 122 [] [] [zP gB2,zI ((2:Nat):Int)] Z Z Ms Aa (C8 _ gB2 _ _ _ ((2:Nat):Int) cz oM oM oM) ?_
 rintro jt f5 ⟨f2,fv,rfl,ab,ei,iv,ej⟩
 refine⟨_,rfl,?_⟩
 have gx:ff.heap.size≤f5.heap.size:=ab.size
 have ek:AF w f5:=ab.below bz (fun _ h=>zE h) bz.size
 have d3:=cy.chg ab (zB ·)
 have d4:=d0.chg (Ao<|AL 153 6) ab fun _ h=>zA h
 have d5:=d1.chg ab (zB ·)
 have el:=d2.chg (oV) ab fun _ h=>zA h
 have d6:=bx.chg ab (zB ·)
 refine Ac 1 Z<|A0<|cA Z<|A3 ?_
 refine B1 (S:=Nat×Value×List Ex×Nat) (fun⟨i,vo,xs,m⟩=>([(10,zI (i:Int)),(2,zP w.heap.size),(6,zP gB2),(7,zP w7.heap.size),(8,zP f3.heap.size),(9,.bool f2)])) (fun⟨i,vo,xs,m⟩ W=>AF w W∧Fr (E4 5 (LM 153 6) 153) f5.heap.size W.heap.size W.heap vo xs∧Fr (E4 3 (Pn 153 6) 49) w5.heap.size w7.heap.size W.heap v7 p7∧EB W.heap gB2 vc cs m∧BX W.heap w.heap.size [zN]∧BX W.heap w7.heap.size [v7]∧BX W.heap f3.heap.size [.string f1,zI (((1:Nat):Int)+f0),vo]∧(i:Int)≤(((1:Nat):Int)+f0)∧Om p7 (((1:Nat):Int)+f0) false xs i∧m≤500000+20000*i∧w7.heap.size≤f5.heap.size∧(gB2<w5.heap.size∧w.heap.size≤w5.heap.size∧w.heap.size<gB2)∧w7.heap.size≤f3.heap.size∧w.heap.size<f5.heap.size∧w7.heap.size<f5.heap.size∧f3.heap.size<f5.heap.size∧f5.heap.size≤W.heap.size∧w5.heap.size≤W.heap.size) (fun⟨i,vo,xs,m⟩=>(((1:Nat):Int)+f0).toNat-i) (0,zN,([]:List Ex),fv) ⟨rfl,rfl,rfl,rfl,rfl,rfl,trivial⟩ ⟨ek,(GE _ 0 _).up<|Ao<|AS 153 6,d4,ei,d3,d5,d6,oM,(by exact Om.nil _ _ _),oM,oM,oM,oM,oM,oM,oM,oM,oM⟩ ?_
 clear go ii dv dx dy cc dz e0 dr e1 e4 gs ds gv du gw dt e6 iq cb e9 ea bn b8 eb aw cf cg ch ci cj bp ec af ck bq al am an ag cl bs cm cn co cp ah cq cr bt ct bu cu eg a9 cw bw ao ap aq ar eh aa cx bz cy cz d0 d1 d2 ab d3 d4 d5 el d6
 rintro⟨i,vo,xs,m⟩ ρ45 f4 ⟨c0,b9,ba,bb,a7,a5,a1,hio,hff,jl,huw,hgb,huf,gy,gz,i0,i1,i2⟩
 have i3:w.heap.size≤f4.heap.size:=c0.size
 have iw:=a7.lt
 have ix:=a5.lt
 have iy:=a1.lt
 refine A0<|bZ [0,0,2,0] Z<|Ad 1 Z<|Ak (p:=zP f3.heap.size) 1 C2 Z Z Aa<|Ai (p:=Ap (zP f3.heap.size) 1) (.inr Z) (zI (((1:Nat):Int)+f0)) AD Z (a1.ldp (i:=1) sM) Aa ?_
 by_cases d7:(i:Int)<((1:Nat):Int)+f0
 ·refine AG true Z Z (A5 d7) Aa<|Aj<|Ag Z<|A2<|A0<|A3<|bZ [0,0,0,3,0] Z<|Ad 2 Z ?_
  have d8:∀(wq:World),(Instr.build 151 #[(0,zP gB2),(1,zP w7.heap.size),(2,zI ((9:Nat):Int)),(3,.bool f2)]).run Tryz.prog wq=.ok (.agg #[zP gB2,zP w7.heap.size,zI ((9:Nat):Int),.bool f2]) wq:=by intro wq;kernel_rfl
  refine C3 (ps:=#[(0,zP gB2),(1,zP w7.heap.size),(2,zI ((9:Nat):Int)),(3,.bool f2)]) (.agg #[zP gB2,zP w7.heap.size,zI ((9:Nat):Int),.bool f2]) (by simp only[zc,zf,zh];rfl) (fun wq=>d8  wq) Aa ?_
  have iz:=a7.lt
  have j0:=a5.lt
  have j2:=a1.lt
  refine Bu (cs:=#[zP gB2,zP w7.heap.size,zI ((9:Nat):Int),.bool f2]) Z Aa fun f7 ac j3 c1=>?_
  have i4:=ac.size
  have d9:=c0.trans ac
  have ax:=b9.ext (Ao<|AS 153 6) ac
  have a2:=ba.ext (Ao<|AL 153 6) ac
  have ay:=bb.ext ac
  have az:=a7.ext ac
  have a3:=a5.ext ac
  have a4:=a1.ext ac
  replace c1:BX f7.heap f4.heap.size [zP gB2,zP w7.heap.size,zI ((9:Nat):Int),.bool f2]:=c1
  refine Ac 1 Z ?_
  letI:JR:=QW [gB2,f4.heap.size]
  refine Jx.AO _ [0,1,0,0,1,0,1,0,3,3,4,0,4] mixed (by kernel_rfl)<|Jx.Ak (p:=zP f3.heap.size) 2 BL Z Z Aa<|Jx.ZQ (p:=Ap (zP f3.heap.size) 2) vo Bd Z (fun wj hj=>(BX.chg (w:=f7.drew) (F:=[gB2,f4.heap.size]) a4 hj fun hm=>zH<|CA hm).ldp (i:=2) sM) Aa<|Jx.VU (zP f4.heap.size) Z Aa<|Jx.Ak (p:=zP f3.heap.size) 1 C2 Z Z Aa ?_
  refine Jx.ZQ (p:=Ap (zP f3.heap.size) 1) (zI (((1:Nat):Int)+f0)) AD Z (fun wj hj=>(BX.chg (w:=f7.drew) (F:=[gB2,f4.heap.size]) a4 hj fun hm=>zH<|CA hm).ldp (i:=1) sM) Aa<|Jx.Ak (p:=zP w7.heap.size) 0 Bv Z Z Aa<|Jx.ZQ (p:=Ap (zP w7.heap.size) 0) v7 BY Z (fun wj hj=>(BX.chg (w:=f7.drew) (F:=[gB2,f4.heap.size]) a3 hj fun hm=>zH<|CA hm).ldp (i:=0) sM) Aa<|Jx.j1<|AQ (v:=v7) Gb Z a2.isSlS Aa<|Aj ?_
  refine Jx.As 124 [] [] [zP f4.heap.size,zI (((1:Nat):Int)+f0),zI (p7.length:Int),zI ((4:Nat):Int)] Z Z Mu Aa (Tx 4 _ f4.heap.size gB2 vc cs m (zP w7.heap.size) 6 ((9:Nat):Int) f2 p7 (((1:Nat):Int)+f0) (p7.length:Int) oM ay c1 (RN.box a3 (RP.mk'<|RN.of_frF2 a2 fun b hb=>zH<|CA hb) fun hb=>zH<|CA hb) oM oM oM oM fo.gpr oM oM oM) ?_
  rintro ju fs ⟨fw,f9,fx,jv,rfl,a6,em,j4,en,c2,eo,j5⟩
  refine⟨_,rfl,a6,?_⟩
  replace c2:=c2.low (B':=f7.heap.size)<|A7 _
  replace a6:=a6.of_drew
  have i5:f7.heap.size≤fs.heap.size:=a6.size
  have ep:AF w fs:=a6.below d9 (fun c hc=>zH<|CA hc) d9.size
  have eq:=ax.chg (Ao<|AS 153 6) a6 fun c hc=>zH<|CA hc
  have er:=a2.chg (Ao<|AL 153 6) a6 fun c hc=>zH<|CA hc
  have es:=az.chg a6 fun hm=>zH<|CA hm
  have et:=a3.chg a6 fun hm=>zH<|CA hm
  have eu:=a4.chg a6 fun hm=>zH<|CA hm
  refine Jx.TS Z (EZ (cs:=[zI f9.kind,zI f9.num,zI f9.pick,zI f9.count,fw]) (y:=f9) (B:=f7.heap.size) (AS 153 6) D1 Bk Z (by decide) Z (MB.le (MB.mk1 (d:=5) oM eo c2) oM) oM Aa fun fy fz a8 j6 ev=>?_)
  have i6:=a8.size
  have da:=ep.trans a8
  have bg:=eq.ext (Ao<|AS 153 6) a8
  have bh:=er.ext (Ao<|AL 153 6) a8
  have bi:=em.ext a8
  have bj:=es.ext a8
  have bk:=et.ext a8
  have bl:=eu.ext a8
  have bm:=en.ext a8
  refine Is (v:=vo) (a:=fy) (AS 153 6) D1 Bk Z (by decide) Z Z bg oM ev oM oM (zH<|hff.len) (by have:=hff.len;unfold maxLen;omega) Aa fun ft Da jw ad ai db=>?_
  have i7:fz.heap.size≤Da.heap.size:=ad.size
  have dc:AF w Da:=ad.below da (fun c hc=>zH<|ai _ hc) da.size
  have ew:=bh.chg (Ao<|AL 153 6) ad fun c hc=>zH<|ai _ hc
  have ex:=bi.chg ad fun c hc=>zH<|ai _ hc
  have ey:=bj.chg ad fun hm=>zH<|ai _ hm
  have ez:=bk.chg ad fun hm=>zH<|ai _ hm
  have g0:=bl.chg ad fun hm=>zH<|ai _ hm
  have g1:=bm.chg ad fun hm=>zH<|ai _ hm
  refine Ak (p:=zP f3.heap.size) 2 BL Z Z Aa (Be (k:=2) (w:=Da) QS Z Z (Bp db.isSlS) g0 sM Aa fun fk ae j7 c3=>?_)
  replace c3:BX fk.heap f3.heap.size [.string f1,zI (((1:Nat):Int)+f0),ft]:=c3
  have i8:Da.heap.size≤fk.heap.size:=ae.size
  have g2:AF w fk:=ae.below dc (fun _ h=>zE h) dc.size
  have g3:=ew.chg (Ao<|AL 153 6) ae fun _ h=>zA h
  have g4:=ex.chg ae fun c hc=>zH<|A9 hc
  have g5:=ey.chg ae (zB ·)
  have g6:=ez.chg ae (zB ·)
  have j8:=g1.chg ae (zB ·)
  have g7:=db.chg (Ao<|AS 153 6) ae fun _ h=>zA h
  exact Aj<|Ab _ [0,0,0] Z<|Ad 1 Z<|AP ((i+1:Nat):Int) Z Z (Bl oM oM) Aa<|Ac 1 Z ⟨(i+1,ft,xs++[f9],fx),_,rfl,zR,⟨g2,g7.up<|Ao<|AS 153 6,g3,g4,g5,g6,c3,oM,(by exact(hff.snoc (funcs:=(p7.length:Int)) (d:=4) (l0:=9) oM oM oM<|Nn.npl (by assumption))),oM,oM,oM,oM,oM,oM,oM,oM,oM⟩,zD⟩
 refine AG false Z Z (A6 d7) Aa<|Aj<|Ah Z<|A4<|Ax<|Ax<|At<|bZ [0,2,2,3,4,0,4] Z<|Ak (p:=zP w7.heap.size) 0 Bv Z Z Aa<|Ai (p:=Ap (zP w7.heap.size) 0) (.inr Z) v7 BY Z (a5.ldp (i:=0) sM) Aa<|AK (p:=zP f3.heap.size) (.inr Z) [.string f1,zI (((1:Nat):Int)+f0),vo] Jm Z (fun jx j9=>LD.of_box<|BX.ext (w:=f4) a1 j9) Z Aa ?_
 refine EZ (cs:=[.string f1,zI (((1:Nat):Int)+f0),vo]) (y:=Fn.mk f1 (((1:Nat):Int)+f0) xs) (B:=f5.heap.size) (AL 153 6) Gb Cj Z (by decide) Z (MB.mkF (x:=⟨f1,((1:Nat):Int)+f0,xs⟩) (RO (a:=((1:Nat):Int)+f0) oM) b9) oM Aa fun jm jn aj ja g8=>?_
 have i9:=aj.size
 have dd:=c0.trans aj
 have b0:=ba.ext (Ao<|AL 153 6) aj
 have b1:=bb.ext aj
 have b2:=a7.ext aj
 have b3:=a5.ext aj
 have b4:=a1.ext aj
 refine X2 (v:=v7) (a:=jm) (AL 153 6) Gb Cj Z (by decide) Z Z b0 g8 oM oM (by unfold maxLen;omega) Aa fun f6 fg jy b5 bc de=>?_
 have ia:jn.heap.size≤fg.heap.size:=b5.size
 have df:AF w fg:=b5.below dd (fun c hc=>zH<|bc _ hc) dd.size
 have g9:=b1.chg b5 fun c hc=>zH<|bc _ hc
 have ga:=b2.chg b5 fun hm=>zH<|bc _ hm
 have gb:=b3.chg b5 fun hm=>zH<|bc _ hm
 have gc:=b4.chg b5 fun hm=>zH<|bc _ hm
 refine Ak (p:=zP w7.heap.size) 0 Bv Z Z Aa (Be (k:=0) (w:=fg) Zo Z Z (Bp<|QD.isSlS de) gb sM Aa fun fh b6 jb c4=>?_)
 replace c4:BX fh.heap w7.heap.size [f6]:=c4
 have ib:fg.heap.size≤fh.heap.size:=b6.size
 have dg:AF w fh:=b6.below df (fun _ h=>zE h) df.size
 have gd:=g9.chg b6 fun c hc=>zH<|A9 hc
 have ge:=ga.chg b6 (zB ·)
 have dh:=gc.chg b6 (zB ·)
 have gf:=de.chg (Ao<|AL 153 6) b6 fun c hc=>by have:=A9 hc;intro jc;(try dsimp only at jc);omega
 have gg:=gf.fr (Ao<|AL 153 6) (B:=w5.heap.size) fun b hb=>by(try dsimp only at hb);omega
 refine Aj<|bZ [0,0,2,4,0] Z<|Ad 1 Z<|Ak (p:=zP f3.heap.size) 1 C2 Z Z Aa<|Ai (p:=Ap (zP f3.heap.size) 1) (.inr Z) (zI (((1:Nat):Int)+f0)) AD Z (dh.ldp (i:=1) sM) Aa<|AA 69 [] [] [zP gB2,zI (((1:Nat):Int)+f0)] Z Z XN Aa (Fq _ gB2 _ _ _ (((1:Nat):Int)+f0) gd oM oM oM) ?_
 rintro jz fl ⟨au,fc,k0,rfl,b7,gh,jd,c5,c6⟩
 refine⟨_,rfl,?_⟩
 have ic:fh.heap.size≤fl.heap.size:=b7.size
 have di:AF w fl:=b7.below dg (fun _ h=>zE h) dg.size
 have gi:=ge.chg b7 (zB ·)
 have gj:=c4.chg b7 (zB ·)
 have dj:=dh.chg b7 (zB ·)
 have gk:=gg.chg (Ao<|AL 153 6) b7 fun _ h=>zA h
 have hst:=c6
 refine Ac 1 Z<|bZ [0,0,2,4,0] Z<|Ad 1 Z<|Ak (p:=zP f3.heap.size) 1 C2 Z Z Aa<|Ai (p:=Ap (zP f3.heap.size) 1) (.inr Z) (zI (((1:Nat):Int)+f0)) AD Z (dj.ldp (i:=1) sM) Aa<|AA 69 [] [] [zP gB2,zI (((1:Nat):Int)+f0)] Z Z XN Aa (Fq _ gB2 _ _ _ (((1:Nat):Int)+f0) gh oM oM oM) ?_
 rintro k1 fd ⟨av,fe,k2,rfl,ak,je,jf,c7,c8⟩
 refine⟨_,rfl,?_⟩
 have id:fl.heap.size≤fd.heap.size:=ak.size
 have dk:AF w fd:=ak.below di (fun _ h=>zE h) di.size
 have gl:=gi.chg ak (zB ·)
 have c9:=gj.chg ak (zB ·)
 have gm:=dj.chg ak (zB ·)
 have ca:=gk.chg (Ao<|AL 153 6) ak fun _ h=>zA h
 have dl:=c5.chg (o1) ak fun _ h=>zA h
 have hsw:=c8
 refine Ac 1 Z<|A0 ?_
 letI:JR:=QW [w.heap.size]
 refine Jx.AO _ [1,0,1,0,0,0,0,3,0,0,0] mixed (by kernel_rfl)<|Jx.Y6 (p:=zP w7.heap.size) [f6] BZ Z (fun wj hj=>LD.of_box<|BX.chg (w:=fd.drew) (F:=[w.heap.size]) c9 hj (zB ·)) Z Aa<|Jx.Ak (p:=zP w7.heap.size) 0 Bv Z Z Aa<|Jx.ZQ (p:=Ap (zP w7.heap.size) 0) f6 BY Z (fun wj hj=>(BX.chg (w:=fd.drew) (F:=[w.heap.size]) c9 hj (zB ·)).ldp (i:=0) sM) Aa<|Jx.j1<|AQ (v:=f6) Gb Z ca.isSlS Aa<|Aj<|Jx.j1 ?_
 refine Bs ((((p7++[Fn.mk f1 (((1:Nat):Int)+f0) xs]).length:Nat):Int)-((1:Nat):Int)) Z Z (Da sD sD) Aa<|Aj ?_
 refine Jx.VU au Z Aa<|Jx.VU av Z Aa<|Jx.cE (Bz (vs:=[f6]) BZ Z Z (by intro u hu;simp only[ze,z2,or_false]at hu;rcases hu with rfl <;> first|exact⟨rfl,rfl⟩|exact Bp ca.isSlS) gl Z Z Aa fun f8 a0 ie bd=>?_)
 replace bd:BX f8.heap w.heap.size [f6]:=bd
 replace a0:=a0.of_drew
 have gn:fd.heap.size≤f8.heap.size:=a0.size
 have dm:AF w f8:=a0.below dk (fun _ h=>zE h) dk.size
 have ig:=c9.chg a0 (zB ·)
 have ih:=gm.chg a0 (zB ·)
 have dn:=ca.chg (Ao<|AL 153 6) a0 fun _ h=>zA h
 have dp:=dl.chg (o1) a0 fun _ h=>zA h
 have dq:=c7.chg (o1) a0 fun _ h=>zA h
 refine Aj ⟨⟨a0.os,a0.tape,a0.output,a0.size,a0.block⟩,?_⟩
 refine Jx.R7 (zI ((((p7++[Fn.mk f1 (((1:Nat):Int)+f0) xs]).length:Nat):Int)-((1:Nat):Int))) Z Aa<|Jx.R7 au Z Aa<|Jx.R7 av Z Aa<|Jx.Aj<|A1 ?_
 exact JD (t0:=3) (ts:=[4,5]) (cs:=[f6]) [zI ((((p7++[Fn.mk f1 (((1:Nat):Int)+f0) xs]).length:Nat):Int)-((1:Nat):Int)),au,av] Z BZ Z bd Z Z ⟨f6,au,av,p7++[Fn.mk f1 (((1:Nat):Int)+f0) xs],(((p7++[Fn.mk f1 (((1:Nat):Int)+f0) xs]).length:Nat):Int)-((1:Nat):Int),fc,fe,rfl,dm,(dn.up<|Ao<|AL 153 6).low (B':=w.heap.size) oM,(dp.up o1).low (B':=w.heap.size) oM,(dq.up o1).low (B':=w.heap.size) oM,(by exact Us.mk' (i:=i) fo hdn oM ⟨by show 1≤(((1:Nat):Int)+f0);omega,by show(((1:Nat):Int)+f0)≤3;omega⟩ hff (by show _=(((1:Nat):Int)+f0);omega) hnm (by rw[z4,zd];omega) ⟨by show _=(((1:Nat):Int)+f0);omega,hst.2⟩ ⟨by show _=(((1:Nat):Int)+f0);omega,hsw.2⟩)⟩
theorem HK (w:World)(vc:Value)(cs:List UInt8)(n:Int)(hcs:Rd (B3 rU) w.heap vc cs)(_hn:Bx n)(hn:n≤1000000) :
  Calls Tryz.prog 43 #[vc,zI n] w (fun e w'=>∃(x0:Int),e=.returned (zI x0)∧AF w w'∧(0≤x0∧x0≤1000000∧(1≤n→x0<n))):=by
 refine Aq [vc,zI n] 11 Tryz.func43 Z Z sM ?_
 have a1:AF w w:=AF.refl w
 have ad:=hcs.lenle
 refine cA Z<|bZ [0,3,0] Z<|Ad 1 Z<|As 66 [] [] [vc] Z Z XM Aa (Fs _ _ _<|hcs.ext Cs a1) ?_
 rintro e1 w1 ⟨gB1,rfl,a0,a5,a9⟩
 refine⟨_,rfl,a0,?_⟩
 have a6:=a0.size
 have a2:=a1.trans a0
 refine Ac 1 Z<|bZ [0,0,4,0] Z<|Ad 2 Z<|AA 68 [] [] [zP gB1,zI n] Z Z H8 Aa (AV _ gB1 _ _ _ _ a5 oM _hn hn) ?_
 rintro e2 w2 ⟨ac,n2,rfl,a3,aa,ab,a4⟩
 refine⟨_,rfl,?_⟩
 have a7:w1.heap.size≤w2.heap.size:=a3.size
 have a8:AF w w2:=a3.below a2 (fun b hb=>by have:b=gB1:=(by simpa using hb);omega) a2.size
 exact Ac 1 Z<|A1<|Af [4] Z (zI ac) Z ⟨ac,rfl,a8,(by assumption)⟩
theorem Jq (w:World)(vc:Value)(cs:List UInt8)(k:Int)(hcs:Rd (B3 rU) w.heap vc cs)(_hk:Bx k)(hk:k≤1000) :
  Calls Tryz.prog 49 #[vc,zI k] w (fun e w'=>∃v0:Value,∃(x0:Sr),e=.returned (v0)∧AF w w'∧Fr (Bh rI 2) w.heap.size w'.heap.size w'.heap v0 x0∧(x0.length=k.toNat∧B2 x0=true)):=by
 refine Aq [vc,zI k] 11 Tryz.func49 Z Z sM ?_
 have a4:AF w w:=AF.refl w
 have af:=hcs.lenle
 refine cA Z<|bZ [0,3,0] Z<|Ad 1 Z<|As 66 [] [] [vc] Z Z XM Aa (Fs _ _ _<|hcs.ext Cs a4) ?_
 rintro e1 w1 ⟨gB1,rfl,a2,a7,ab⟩
 refine⟨_,rfl,a2,?_⟩
 have a8:=a2.size
 have a3:=a4.trans a2
 refine Ac 1 Z<|bZ [0,0,4,0] Z<|Ad 2 Z<|AA 69 [] [] [zP gB1,zI k] Z Z XN Aa (Fq _ gB1 _ _ _ _ a7 oM _hk hk) ?_
 rintro e2 w2 ⟨a0,ae,n2,rfl,a5,ac,ad,a1,a6⟩
 refine⟨_,rfl,?_⟩
 have a9:w1.heap.size≤w2.heap.size:=a5.size
 have aa:AF w w2:=a5.below a3 (fun b hb=>by have:b=gB1:=(by simpa using hb);omega) a3.size
 exact Ac 1 Z<|A1<|Af [4] Z a0 Z ⟨a0,ae,rfl,aa,(a1.up o1).low a3.size,(by assumption)⟩
theorem Jr (w:World)(vc:Value)(cs:List UInt8)(hcs:Rd (B3 rU) w.heap vc cs)  :
  Calls Tryz.prog 41 #[vc] w (fun e w'=>e=.returned (.bool (decide (((4096:Nat):Int)<(cs.length:Int))))∧AF w w'):=by
 refine Aq [vc] 6 Tryz.func41 Z Z sM ?_
 have a0:AF w w:=AF.refl w
 have a1:=hcs.lenle
 exact cA Z<|bZ [0,0,0,0] Z<|Ad 1 Z<|AQ (v:=vc) QT Z hcs.isSl Aa<|BU (decide (((4096:Nat):Int)<(cs.length:Int))) Z Z Z Aa<|Ac 1 Z<|A1<|Af [2] Z (.bool<|decide (((4096:Nat):Int)<(cs.length:Int))) Z ⟨rfl,a0⟩
theorem Ih (w:World)(va:Value)(a:Sr)(vb:Value)(b:Sr)(ha:Rd (B3 rI) w.heap va a)(hb:Rd (B3 rI) w.heap vb b)  :
  Calls Tryz.prog 48 #[va,vb] w (fun e w'=>e=.returned (.bool (decide (a=b)))∧AF w w'):=by
 refine Aq [va,vb] 26 Tryz.func48 Z Z sM ?_
 have a1:AF w w:=AF.refl w
 have a7:=ha.lenle
 have a8:=hb.lenle
 refine cA Z<|A0<|bZ [0,0,0,0,0] Z<|Ad 1 Z<|AQ (v:=va) Bt Z ha.isSl Aa<|Ad 1 Z<|AQ (v:=vb) Bt Z hb.isSl Aa ?_
 by_cases a2:(a.length:Int)≠(b.length:Int)
 ·exact AT true Z Z (A5 a2) Aa<|Aj<|Ag Z<|cA Z<|A1<|Al<|Af [4] Z (.bool false) Z ⟨AI (A6<|TL oM).symm,a1⟩
 refine AT false Z Z (A6 a2) Aa<|Aj<|Ah Z<|A2<|A0<|cA Z<|A3<|B1 (S:=Nat) (fun k=>([(5,zI (k:Int)),(0,va),(1,vb)])) (fun k W=>AF w W∧k≤a.length∧(∀j,j<k→a.getD j 0=b.getD j 0)) (fun k=>a.length-k) 0 ⟨rfl,rfl,rfl,trivial⟩ ⟨a1,sD,(by intro j hj;omega)⟩ ?_
 clear a1
 rintro k ρ2 w2 ⟨a0,a3,hq⟩
 have a6:w.heap.size≤w2.heap.size:=a0.size
 refine A0<|bZ [0,0,0,0] Z<|Ad 2 Z<|AQ (v:=va) Bt Z ha.isSl Aa ?_
 by_cases a4:(k:Int)<(a.length:Int)
 ·refine AG true Z Z (A5 a4) Aa<|Aj<|Ag Z<|A2<|A0<|A3<|A0<|AO _ [0,0,0,1,0,0,0,1,0] mixed (by kernel_rfl)<|Ad 2 Z<|AB (v:=va) k Bt BT Z Z ha.isSl Z sD Aa ?_
  refine Ai (p:=Ay va k 1) (.inl Z) (zI<|a.getD k 0) AD Z (AZ a0.drew (ha.getI sD).1) Aa<|Ad 2 Z ?_
  refine AB (v:=vb) k Bt BT Z Z hb.isSl Z sD Aa ?_
  refine Ai (p:=Ay vb k 1) (.inl Z) (zI<|b.getD k 0) AD Z (AZ a0.drew (hb.getI sD).1) Aa ?_
  by_cases a5:a.getD k 0≠b.getD k 0
  ·exact AT true Z Z (A5 a5) Aa<|Aj<|Ag Z<|cA Z<|A1<|AC<|Al<|Al<|AC<|Al<|Af [4] Z (.bool false) Z ⟨AI (A6<|Rt (d:=0) (k:=k) oM).symm,a0.drew⟩
  refine AT false Z Z (A6 a5) Aa<|Aj<|Ah Z<|A2<|Ab _ [0,0,0] Z<|Ad 1 Z<|AP ((k+1:Nat):Int) Z Z (Bl oM sD) Aa<|Ac 1 Z ?_
  exact⟨k+1,_,rfl,zR,⟨a0.drew,sD,(by exact Rr hq oM)⟩,zD⟩
 exact AG false Z Z (A6 a4) Aa<|Aj<|Ah Z<|A4<|Ax<|Ax<|At<|cA Z<|A1<|Af [4] Z (.bool true) Z ⟨AI (A5<|NC hq oM oM).symm,a0⟩
theorem QU {a b:List (List Int)}{k:Nat}(h:∀j,j<k→a.getD j []=b.getD j [])(h1:a.length=k)(h2:b.length=k):a=b:=Ue zO fun j hj=>h j zO
theorem QV {a b:List (List Int)}{k:Nat}(h:¬a.getD k []=b.getD k []):¬a=b:=fun e=>h (by rw[e])
theorem ZJ {p:Prop} [Decidable p] (h:(!decide p)=true):¬p:=by simpa using h
theorem ZK {p:Prop} [Decidable p] (h:(!decide p)=false):p:=by simpa using h
theorem Ii (w:World)(va:Value)(a:List (Sr))(vb:Value)(b:List (Sr))(ha:Rd (B3 (B3 rI)) w.heap va a)(hb:Rd (B3 (B3 rI)) w.heap vb b)  :
  Calls Tryz.prog 46 #[va,vb] w (fun e w'=>e=.returned (.bool (decide (a=b)))∧AF w w'):=by
 refine Aq [va,vb] 27 Tryz.func46 Z Z sM ?_
 have a2:AF w w:=AF.refl w
 have ai:=ha.lenle
 have aj:=hb.lenle
 refine cA Z<|A0<|bZ [0,0,0,0,0] Z<|Ad 1 Z<|AQ (v:=va) BH Z ha.isSl Aa<|Ad 1 Z<|AQ (v:=vb) BH Z hb.isSl Aa ?_
 by_cases a3:(a.length:Int)≠(b.length:Int)
 ·exact AT true Z Z (A5 a3) Aa<|Aj<|Ag Z<|cA Z<|A1<|Al<|Af [4] Z (.bool false) Z ⟨AI (A6 fun e=>zH<|congrArg List.length e).symm,a2⟩
 refine AT false Z Z (A6 a3) Aa<|Aj<|Ah Z<|A2<|A0<|cA Z<|A3<|B1 (S:=Nat) (fun k=>([(5,zI (k:Int)),(0,va),(1,vb)])) (fun k W=>AF w W∧k≤a.length∧(∀j,j<k→a.getD j []=b.getD j [])) (fun k=>a.length-k) 0 ⟨rfl,rfl,rfl,trivial⟩ ⟨a2,sD,(by intro j hj;omega)⟩ ?_
 clear a2
 rintro k ρ2 w2 ⟨a0,a4,hq⟩
 have ac:w.heap.size≤w2.heap.size:=a0.size
 refine A0<|bZ [0,0,0,0] Z<|Ad 2 Z<|AQ (v:=va) BH Z ha.isSl Aa ?_
 by_cases a5:(k:Int)<(a.length:Int)
 ·refine AG true Z Z (A5 a5) Aa<|Aj<|Ag Z<|A2<|A0<|A3<|A0<|AO _ [0,0,0,1,0,0,0,1,3,0] mixed (by kernel_rfl)<|Ad 2 Z<|AB (v:=va) k BH B8 Z Z ha.isSl Z sD Aa ?_
  obtain⟨a6,ad,a7⟩:=ha.get (k:=k) [] sD
  have ae:=a7.lenle
  refine Ai (p:=Ay va k 1) (.inl Z) a6 Bj Z (AZ a0.drew ad) Aa<|Ad 2 Z<|AB (v:=vb) k BH B8 Z Z hb.isSl Z sD Aa ?_
  obtain⟨a8,af,a9⟩:=hb.get (k:=k) [] sD
  have ag:=a9.lenle
  refine Ai (p:=Ay vb k 1) (.inl Z) a8 Bj Z (AZ a0.drew af) Aa<|As 48 [] [] [a6,a8] Z Z YC Aa (Ih _ _ _ _ _ (a7.ext g1 a0.drew)<|a9.ext g1 a0.drew) ?_
  rintro e6 w6 ⟨rfl,a1⟩
  refine⟨_,rfl,a1,?_⟩
  replace a1:=a1.of_drew
  have ah:=a1.size
  have aa:=a0.trans a1
  refine Bn (!(decide ((a.getD k [])=(b.getD k [])))) Z Z Aa<|Aj ?_
  cases ab:(!(decide ((a.getD k [])=(b.getD k []))))
  ·refine Ah (by first|rfl|exact zW ab)<|A2<|Ab _ [0,0,0] Z<|Ad 1 Z<|AP ((k+1:Nat):Int) Z Z (Bl oM sD) Aa<|Ac 1 Z ?_
   exact⟨k+1,_,rfl,zR,⟨aa,sD,(by intro j hj;by_cases e:j=k;(subst e;exact ZK (by assumption));exact hq j oM)⟩,zD⟩
  exact Ag (by first|rfl|exact zW ab)<|cA Z<|A1<|AC<|Al<|Al<|AC<|Al<|Af [4] Z (.bool false) Z ⟨AI (A6<|QV (k:=k)<|ZJ (by assumption)).symm,aa⟩
 exact AG false Z Z (A6 a5) Aa<|Aj<|Ah Z<|A4<|Ax<|Ax<|At<|cA Z<|A1<|Af [4] Z (.bool true) Z ⟨AI (A5<|QU hq oM oM).symm,a0⟩
theorem UN {p:Prop}(h:p:=by first|rfl|exact AI (A5 oM)):p:=h
theorem Oi {p:Prop}(h:p:=by exact hRD.dr.szp):p:=h
theorem HL (w:World)(vc:Value)(cs:List UInt8)(vd:Value)(ds:List UInt8)(hcs:Rd (B3 rU) w.heap vc cs)(hds:Rd (B3 rU) w.heap vd ds)(hcp_ds:C5 vd)  :
  Calls Tryz.prog 8 #[vc,vd] w (fun e w'=>e=.returned (.bool true)∧AF w w'):=by
 refine Aq [vc,vd] 243 Tryz.func8 Z Z sM ?_
 have jk:AF w w:=AF.refl w
 have ff:=hcs.lenle
 have fg:=hds.lenle
 refine cA Z<|A0<|bZ [0,3,0,0,3,0] Z<|Ad 1 Z<|As 41 [] [] [vc] Z Z Yx Aa (Jr _ _ _<|hcs.ext Cs jk) ?_
 rintro e1 w1 ⟨rfl,jd⟩
 refine⟨_,rfl,jd,?_⟩
 have jl:=jd.size
 have je:=jk.trans jd
 refine Ad 1 Z ?_
 cases l2:(decide (((4096:Nat):Int)<(cs.length:Int)))
 ·have ll:=of_decide_eq_false l2
  refine Ad 1 Z<|As 41 [] [] [vd] Z Z Yx (Ae (e:=33) Z Z Z) (Jr _ _ _<|hds.ext Cs je) ?_
  rintro e4 w4 ⟨rfl,jf⟩
  refine⟨_,rfl,jf,?_⟩
  have lm:=jf.size
  have jm:=je.trans jf
  refine Ac 1 Z ?_
  cases jg:(decide (((4096:Nat):Int)<(ds.length:Int)))
  ·have ln:=of_decide_eq_false jg
   refine Ah (by first|rfl|exact zW jg)<|A2<|bZ [0,3,0,0,0,0,0,3,4,0,0,0] Z<|Ad 1 Z<|As 42 [] [] [vc] Z Z bA Aa (Kg _ vc _<|hcs.ext Cs jm) ?_
   rintro e7 w7 ⟨vD,vaD,vbD,pD,fD,aD,bD,rfl,jh,hOD,haD,hbD,hRD⟩
   refine⟨_,rfl,jh,?_⟩
   have lo:=jh.size
   have lp:=jm.trans jh
   have hfe:=hRD.fe
   have hlc:=hRD.len
   have hpa:=hRD.par
   have hsq:=hRD.sq
   have hla:=hRD.la
   have hlb:=hRD.lb
   have fj:=FG hRD.dr.ok
   have hct:=O9 (ws:=bD) hRD.dr.ok oM ⟨hpa.1,hsq⟩ hla hlb
   refine Ad 1 Z<|AM (vs:=[.agg #[vD],zI fD,vaD,vbD]) (.agg #[vD]) Z Z Aa<|AM (vs:=[.agg #[vD],zI fD,vaD,vbD]) (zI fD) Z Z Aa<|AM (vs:=[.agg #[vD],zI fD,vaD,vbD]) vaD Z Z Aa<|AM (vs:=[.agg #[vD],zI fD,vaD,vbD]) vbD Z Z Aa (Bo (z:=.agg #[zN]) T8 Aa fun w8 gu lq jn=>?_)
   have jo:=gu.size
   have jp:=lp.trans gu
   have g6:=hOD.ext (Ao<|AL 153 6) gu
   have gw:=haD.ext (o1) gu
   have gx:=hbD.ext (o1) gu
   replace jn:BX w8.heap w7.heap.size [zN]:=jn
   refine Bz (vs:=[vD]) BZ Z Z (by intro u hu;simp only[ze,z2,or_false]at hu;rcases hu with rfl <;> first|exact⟨rfl,rfl⟩|exact Bp g6.isSlS) jn Z Z Aa fun w9 gv lr jq=>?_
   replace jq:BX w9.heap w7.heap.size [vD]:=jq
   have jr:w8.heap.size≤w9.heap.size:=gv.size
   have js:AF w w9:=gv.below jp (fun _ h=>zE h) jp.size
   have gy:=g6.chg (Ao<|AL 153 6) gv fun _ h=>zA h
   have gz:=gw.chg (o1) gv fun _ h=>zA h
   have i0:=gx.chg (o1) gv fun _ h=>zA h
   refine Ac 3 Z<|bZ [0,3,0] Z<|Ad 1 Z<|As 43 [] [] [vd,zI ((9:Nat):Int)] Z Z Yy Aa (HK _ _ _ _ (hds.ext Cs js) oM oM) ?_
   rintro fp fq ⟨f7,rfl,cx,jt⟩
   refine⟨_,rfl,cx,?_⟩
   have i1:=cx.size
   have dx:=js.trans cx
   have cl:=gy.ext (Ao<|AL 153 6) cx
   have cm:=gz.ext (o1) cx
   have cn:=i0.ext (o1) cx
   have dy:=jq.ext cx
   refine Ac 1 Z<|bZ [0] Z ?_
   generalize hg_nn:f7=nnI at *
   obtain⟨nn,rfl⟩:∃n:Nat,nnI=(n:Int):=⟨nnI.toNat,zO⟩
   refine Ac 1 Z<|A0<|J1 (S:=Int) (fun(kk:Int)=>([(10,zI kk),(1,vd),(5,zP w7.heap.size),(6,zI fD),(7,vaD),(8,vbD),(9,zI (nn:Int))])) (fun(kk:Int) (W:World)=>AF w W∧Fr (E4 3 (Pn 153 6) 49) w4.heap.size w7.heap.size W.heap vD pD∧Fr (Bh rI 2) w4.heap.size w7.heap.size W.heap vaD aD∧Fr (Bh rI 2) w4.heap.size w7.heap.size W.heap vbD bD∧BX W.heap w7.heap.size [vD]∧(0≤kk∧kk≤(nn:Int))∧w4.heap.size≤W.heap.size) ?_ ?_
   ·refine bZ [0,0,0] Z<|Ad 1 Z<|AQ (v:=vd) QT Z hds.isSl Aa ?_
    by_cases i2:((1:Nat):Int)<(ds.length:Int)
    ·refine BU true Z Z (A5 i2) Aa<|Aj<|Ag Z<|Ab _ [0,0,0,0,3,0] Z<|Ad 1 Z ?_
     have g7:=Rd.suf (k:=1) (hds.ext Cs dx) oM hcp_ds
     refine ST (v:=vd) (k:=1) QT bK Z (hds.ext Cs dx).isSl hcp_ds Z oM Aa<|Ad 1 Z ?_
     refine AP ((nn:Int)+((1:Nat):Int)) Z Z (Da sD sD) Aa ?_
     refine As 43 [] [] [Oa vd 1,zI ((nn:Int)+((1:Nat):Int))] Z Z Yy Aa (HK _ _ _ _ g7 oM oM) ?_
     rintro fr fs ⟨f8,rfl,cy,ju⟩
     refine⟨_,rfl,cy,?_⟩
     have l3:=cy.size
     have jv:=dx.trans cy
     have eq:=cl.ext (Ao<|AL 153 6) cy
     have er:=cm.ext (o1) cy
     have es:=cn.ext (o1) cy
     have gl:=dy.ext cy
     have i3:=g7.ext Cs cy
     exact Ac 1 Z ⟨f8,_,rfl,zR,⟨jv,eq,er,es,gl,oM,oM⟩⟩
    exact BU false Z Z (A6 i2) Aa<|Aj<|Ah Z<|A2 ⟨((0:Nat):Int),_,rfl,zR,⟨dx,cl,cm,cn,dy,oM,oM⟩⟩
   clear jk jd jl je jf jh lq gu jo jp lr gv jr js gy gz i0 cx i1 dx cl cm cn
   rintro kk ρ14 fb ⟨gm,d7,d8,dz,co,hkk,l4⟩
   have i4:w.heap.size≤fb.heap.size:=gm.size
   have ls:=co.lt
   refine bZ [2,0,0,0,3,0,0,0,0,0] Z ?_
   generalize hg_kn:kk=knI at *
   obtain⟨kn,rfl⟩:∃n:Nat,knI=(n:Int):=⟨knI.toNat,zO⟩
   refine AK (p:=zP w7.heap.size) (.inr Z) [vD] BZ Z (fun f3 d9=>LD.of_box<|BX.ext (w:=fb) co d9) Z Aa<|Ad 3 Z<|As 44 [] [] [.agg #[vD],zI fD,vaD,zI (nn:Int)] Z Z Yz Aa (Ft _ 6 vD (pD) _ _ _ _ (RN.of_frF d7 fun b hb=>by cases hb) oM d8.rd1 oM Oi) ?_
   rintro ft fh ⟨a5,rfl,cz,e0,jw,jx⟩
   refine⟨_,rfl,cz,?_⟩
   have i5:=cz.size
   have i6:=gm.trans cz
   have ae:=d7.ext (Ao<|AL 153 6) cz
   have af:=d8.ext (o1) cz
   have b9:=dz.ext (o1) cz
   have ag:=co.ext cz
   refine Ad 1 Z<|AM (vs:=[a5,zI<|LR pD fD aD (nn:Int)]) a5 Z Z Aa<|AM (vs:=[a5,zI<|LR pD fD aD (nn:Int)]) (zI<|LR pD fD aD (nn:Int)) Z Z Aa<|Ac 2 Z<|bZ [2,0,0,0,3,0,0,0,0,0] Z<|AK (p:=zP w7.heap.size) (.inr Z) [vD] BZ Z (fun f3 d9=>LD.of_box<|BX.ext (w:=fh) ag d9) Z Aa<|Ad 3 Z<|As 45 [] [] [.agg #[vD],zI fD,vaD,zI (nn:Int)] Z Z bB Aa (IL _ 6 vD (pD) _ _ _ _ (RN.of_frF ae fun b hb=>by cases hb) oM af.rd1 oM Oi) ?_
   rintro fu fv ⟨de,rfl,cp,da⟩
   refine⟨_,rfl,cp,?_⟩
   have i7:=cp.size
   have i8:=i6.trans cp
   have ba:=ae.ext (Ao<|AL 153 6) cp
   have bb:=af.ext (o1) cp
   have bc:=b9.ext (o1) cp
   have bd:=ag.ext cp
   have ah:=e0.ext (o2) cp
   refine Ad 1 Z<|AM (vs:=[de,zI<|LR pD fD aD (nn:Int)]) de Z Z Aa<|AM (vs:=[de,zI<|LR pD fD aD (nn:Int)]) (zI<|LR pD fD aD (nn:Int)) Z Z Aa<|Ac 2 Z<|A0<|bZ [0,0,0,0,0,0,3,0,0] Z<|Ad 2 Z<|AT false Z Z sM Aa<|Ad 3 Z<|As 46 [] [] [a5,de] Z Z YB (Ae (e:=73) Z Z Z) (Ii _ _ _ _ _ ah.rd2 da.rd2) ?_
   rintro fw fa ⟨rfl,b7⟩
   refine⟨_,rfl,b7,?_⟩
   have l5:=b7.size
   have jy:=i8.trans b7
   have ai:=ba.ext (Ao<|AL 153 6) b7
   have aj:=bb.ext (o1) b7
   have ak:=bc.ext (o1) b7
   have al:=bd.ext b7
   have be:=ah.ext (o2) b7
   have bf:=da.ext (o2) b7
   rw[show(decide ((Tz pD fD aD (nn:Int))=(Tz pD fD aD (nn:Int))))=true from A5 rfl]
   refine Bn false Z Z (Ae (e:=73) Z Z Z)<|Ac 1 Z<|Ah Z<|A2<|bZ [2,0,0,0,0,3,0,0,0,0,0] Z<|AK (p:=zP w7.heap.size) (.inr Z) [vD] BZ Z (fun f3 d9=>LD.of_box<|BX.ext (w:=fa) al d9) Z Aa<|Ad 4 Z<|As 47 [] [] [.agg #[vD],zI fD,vaD,vbD,zI (nn:Int)] Z Z SU Aa (C7 _ 6 vD (pD) _ _ _ _ _ _ (RN.of_frF ai fun b hb=>by cases hb) oM aj.rd1 ak.rd1 oM Oi) ?_
   rintro fx f1 ⟨a0,rfl,b8,e2,jz⟩
   refine⟨_,rfl,b8,?_⟩
   have l6:=b8.size
   have i9:=jy.trans b8
   have am:=ai.ext (Ao<|AL 153 6) b8
   have bg:=aj.ext (o1) b8
   have bh:=ak.ext (o1) b8
   have an:=al.ext b8
   have bi:=be.ext (o2) b8
   have bj:=bf.ext (o2) b8
   refine Ad 1 Z<|AM (vs:=[a0,zI<|D7 pD fD aD bD (nn:Int)]) a0 Z Z Aa<|AM (vs:=[a0,zI<|D7 pD fD aD bD (nn:Int)]) (zI<|D7 pD fD aD bD (nn:Int)) Z Z Aa<|Ac 2 Z<|A0<|bZ [0,0] Z ?_
   have hga:=Iz (p:=pD) (f:=fD) (n:=(nn:Int)) hct.1<|Br.2 ⟨zO,zO⟩
   have hgc:=EF hga
   have hrd:=Vl (p:=pD) (f:=fD) (n:=(nn:Int)) hct.2 oM
   have hrc:=NT hrd
   rw[Int.toNat_natCast]at hgc hrc
   refine Ad 1 Z ?_
   by_cases ia:LR pD fD aD (nn:Int)≠((0:Nat):Int)
   ·exact AT true Z Z (A5 ia) Aa<|Aj<|Ag Z<|bZ [0,0,0,0] Z<|Ad 2 Z<|Am (decide (D7 pD fD aD bD (nn:Int)=LR pD fD aD (nn:Int))) Z Z Z Aa<|Ac 1 Z<|A1<|Al<|Af [4] Z (.bool<|decide (D7 pD fD aD bD (nn:Int)=LR pD fD aD (nn:Int))) Z ⟨UN,i9⟩
   refine AT false Z Z (A6 ia) Aa<|Aj<|Ah Z<|A2<|A0<|bZ [0,0,0,0,0,0,0,0,0] Z ?_
   have hrk:Eo pD fD.toNat aD nn=0:=by omega
   have hCh:Mr pD fD.toNat aD nn:=⟨fj,zO,hsq,hla.1,hla.2,hrk⟩
   have lu:D7 pD fD aD bD (nn:Int)=0:=by omega
   have df:Fr (Bh (Bh rI 2) 27) fb.heap.size fh.heap.size f1.heap a5 (CC (nn+1) (Ch pD fD.toNat aD)):=by have h:=bi;rw[L2 hrd,Int.toNat_natCast,K6 hrk]at h;exact h
   have ib:Fr (Bh rI 2) fa.heap.size f1.heap.size f1.heap a0 (Jt pD fD.toNat aD nn bD):=by have h:=e2;rw[Ht lu]at h;simp only[Int.toNat_natCast]at h;exact h
   have htl:(CC (nn+1) (Ch pD fD.toNat aD)).length=nn+1:=by simp[CC]
   have hti:=C4 (f:=Ch pD fD.toNat aD) (n:=nn+1) (k:=kn) [] oM
   have hst:=(hCh.low (k:=kn) oM).st
   obtain⟨sK,hsK⟩:∃l,l=Ch pD fD.toNat aD kn:=⟨_,rfl⟩
   rw[← hsK]at hti hst
   have hcs:=O9 (a:=sK) (ws:=bD) hRD.dr.ok oM ⟨hpa.1,hsq⟩ ⟨zO,hst.2⟩ hlb
   have hSh:=hCh.shift (k:=kn) oM
   have hTl:=hCh.tail (k:=kn) oM
   rw[← hsK]at hSh hTl
   have ic:=Vl (p:=pD) (f:=fD) (n:=((nn-kn:Nat):Int)) hcs.2 oM
   have lv:=NT ic
   have k0:=Iz (p:=pD) (f:=fD) (n:=((nn-kn:Nat):Int)) hcs.1<|Br.2 ⟨zO,zO⟩
   have lw:=EF k0
   rw[Int.toNat_natCast]at lv lw
   have m1:=(hSh (nn-kn) oM).k
   have k1:D7 pD fD sK bD ((nn-kn:Nat):Int)=0:=by omega
   refine Ad 1 Z ?_
   have k2:¬(D7 pD fD aD bD (nn:Int)≠((0:Nat):Int)):=oM
   refine AT false Z Z (A6 k2) Aa<|Ad 2 Z<|AQ (v:=a5) BH Z df.isSl (Ae (e:=95) Z Z Z)<|Ad 1 Z ?_
   refine AP ((nn:Int)+((1:Nat):Int)) Z Z (Da sD sD) (Ae (e:=95) Z Z Z) ?_
   have k3:¬((((CC (nn+1) (Ch pD fD.toNat aD)).length:Nat):Int)≠(nn:Int)+((1:Nat):Int)):=oM
   refine AT false Z Z (A6 k3) (Ae (e:=95) Z Z Z)<|Ac 1 Z<|Ah Z<|A2<|A0<|AO _ [1,0,0,0,0,1,0,0,0,3,0,0,0,0,0] mixed (by kernel_rfl)<|AK (p:=zP w7.heap.size) (.inl Z) [vD] BZ Z (fun f3 d9=>LD.of_box<|BX.ext (w:=f1.drew) an d9) Z Aa<|Ad 3 Z<|AB (v:=a5) kn BH B8 Z Z df.isSl Z sD Aa ?_
   obtain⟨id,ie,gn⟩:=df.rd2.get (k:=kn) [] sD
   have ig:=gn.lenle
   refine Ai (p:=Ay a5 kn 1) (.inl Z) id Bj Z ie Aa<|Ad 2 Z<|Bs ((nn-kn:Nat):Int) Z Z (by rw[Da oM oM];omega) Aa<|As 44 [] [] [.agg #[vD],zI fD,id,zI ((nn-kn:Nat):Int)] Z Z Yz Aa (Ft _ 6 vD (pD) _ _ _ _ (RN.of_frF am fun b hb=>by cases hb) oM gn oM Oi) ?_
   rintro fy f9 ⟨d0,rfl,aa,cq,k4,k5⟩
   refine⟨_,rfl,aa,?_⟩
   replace aa:=aa.of_drew
   have ih:=aa.size
   have ii:=i9.trans aa
   have ao:=am.ext (Ao<|AL 153 6) aa
   have bl:=bg.ext (o1) aa
   have ap:=bh.ext (o1) aa
   have aq:=an.ext aa
   have b2:=df.ext (o2) aa
   have bm:=bj.ext (o2) aa
   have e3:=ib.ext (o1) aa
   have et:=gn.ext g1 aa
   have g8:=AZ aa ie
   replace cq:=cq.low (B':=f1.heap.size)<|A7 _
   refine Ad 1 Z<|AM (vs:=[d0,zI<|LR pD fD ((CC (nn+1)<|Ch pD fD.toNat aD).getD kn []) ((nn-kn:Nat):Int)]) d0 Z Z Aa<|AM (vs:=[d0,zI<|LR pD fD ((CC (nn+1)<|Ch pD fD.toNat aD).getD kn []) ((nn-kn:Nat):Int)]) (zI<|LR pD fD ((CC (nn+1)<|Ch pD fD.toNat aD).getD kn []) ((nn-kn:Nat):Int)) Z Z Aa<|Ac 2 Z<|A0<|AO _ [1,0,0,0,0,1,0,0,0,0,3,0,0,0,0,0] mixed (by kernel_rfl) ?_
   have ij:Fr (Bh (Bh rI 2) 27) f1.heap.size f9.heap.size f9.heap d0 ((CC (nn+1) (Ch pD fD.toNat aD)).drop kn):=by have h:=cq;rw[hti]at h;rw[L2 ic,Int.toNat_natCast,hTl]at h;exact h
   refine AK (p:=zP w7.heap.size) (.inl Z) [vD] BZ Z (fun f3 d9=>LD.of_box<|BX.ext (w:=f9.drew) aq d9) Z Aa<|Ad 3 Z<|AB (v:=a5) kn BH B8 Z Z b2.isSl Z sD Aa ?_
   obtain⟨ik,il,go⟩:=b2.rd2.get (k:=kn) [] sD
   have im:=go.lenle
   refine Ai (p:=Ay a5 kn 1) (.inl Z) ik Bj Z il Aa<|Ad 3 Z<|Bs ((nn-kn:Nat):Int) Z Z (by rw[Da oM oM];omega) Aa<|As 47 [] [] [.agg #[vD],zI fD,ik,vbD,zI ((nn-kn:Nat):Int)] Z Z SU Aa (C7 _ 6 vD (pD) _ _ _ _ _ _ (RN.of_frF ao fun b hb=>by cases hb) oM go ap.rd1 oM Oi) ?_
   rintro fz fc ⟨d1,rfl,a6,cr,k6⟩
   refine⟨_,rfl,a6,?_⟩
   replace a6:=a6.of_drew
   have io:=a6.size
   have ip:=ii.trans a6
   have ar:=ao.ext (Ao<|AL 153 6) a6
   have au:=bl.ext (o1) a6
   have bn:=ap.ext (o1) a6
   have av:=aq.ext a6
   have e5:=b2.ext (o2) a6
   have bo:=bm.ext (o2) a6
   have e6:=e3.ext (o1) a6
   have eu:=et.ext g1 a6
   have g9:=AZ a6 g8
   have e8:=ij.ext (o2) a6
   have ev:=go.ext g1 a6
   have ga:=AZ a6 il
   replace cr:=cr.low (B':=f9.heap.size)<|A7 _
   refine Ad 1 Z<|AM (vs:=[d1,zI<|D7 pD fD ((CC (nn+1)<|Ch pD fD.toNat aD).getD kn []) bD ((nn-kn:Nat):Int)]) d1 Z Z Aa<|AM (vs:=[d1,zI<|D7 pD fD ((CC (nn+1)<|Ch pD fD.toNat aD).getD kn []) bD ((nn-kn:Nat):Int)]) (zI<|D7 pD fD ((CC (nn+1)<|Ch pD fD.toNat aD).getD kn []) bD ((nn-kn:Nat):Int)) Z Z Aa<|Ac 2 Z<|bZ [2,0,0,0,0,3,0,0,0,0,0] Z ?_
   have iq:Fr (Bh rI 2) f9.heap.size fc.heap.size fc.heap d1 (Jt pD fD.toNat sK (nn-kn) bD):=by have h:=cr;rw[hti]at h;rw[Ht k1,Int.toNat_natCast]at h;exact h
   obtain⟨bk,hbk⟩:∃l:Sr,l=(Jt pD fD.toNat sK (nn-kn) bD):=⟨_,rfl⟩
   have hn_bk:=iq
   rw[← hbk]at hn_bk
   have hbl:bk.length=aD.length:=by rw[hbk,KE (hSh (nn-kn) oM) oM];omega
   have hbn:B2 bk=true:=by rw[hbk];exact Qh (hSh (nn-kn) oM) hlb.2
   have hcb:=O9 (a:=aD) (ws:=bk) hRD.dr.ok oM ⟨hpa.1,hsq⟩ hla ⟨zO,hbn⟩
   have k7:=Iz (p:=pD) (f:=fD) (n:=(kn:Int)) hcb.1<|Br.2 ⟨zO,zO⟩
   have lx:=EF k7
   rw[Int.toNat_natCast]at lx
   have m2:=(hCh.low (k:=kn) oM).k
   have k8:D7 pD fD aD bk (kn:Int)=0:=by omega
   have hpc:=Lf (p:=pD) (f:=fD.toNat) (a:=aD) kn (nn-kn) bD
   rw[show kn+(nn-kn)=nn from by omega,← hsK,← hbk]at hpc
   refine AK (p:=zP w7.heap.size) (.inr Z) [vD] BZ Z (fun f3 d9=>LD.of_box<|BX.ext (w:=fc) av d9) Z Aa<|Ad 4 Z<|As 47 [] [] [.agg #[vD],zI fD,vaD,d1,zI (kn:Int)] Z Z SU Aa (C7 _ 6 vD (pD) _ _ _ _ _ _ (RN.of_frF ar fun b hb=>by cases hb) oM au.rd1 hn_bk.rd1 oM Oi) ?_
   rintro m3 m4 ⟨dg,rfl,a7,e9,k9⟩
   refine⟨_,rfl,a7,?_⟩
   have ir:=a7.size
   have is:=ip.trans a7
   have bp:=ar.ext (Ao<|AL 153 6) a7
   have bq:=au.ext (o1) a7
   have br:=bn.ext (o1) a7
   have bs:=av.ext a7
   have a8:=e5.ext (o2) a7
   have bt:=bo.ext (o2) a7
   have ea:=e6.ext (o1) a7
   have ew:=eu.ext g1 a7
   have gb:=AZ a7 g9
   have d2:=e8.ext (o2) a7
   have ex:=ev.ext g1 a7
   have gc:=AZ a7 ga
   have hn_bkx38:=hn_bk.ext (o1) a7
   refine Ad 1 Z<|AM (vs:=[dg,zI<|D7 pD fD aD bk (kn:Int)]) dg Z Z Aa<|AM (vs:=[dg,zI<|D7 pD fD aD bk (kn:Int)]) (zI<|D7 pD fD aD bk (kn:Int)) Z Z Aa<|Ac 2 Z<|A0<|bZ [0,0,0,0,0,0,0,0,0,0,0,0,0,0,0,3,0,0,0,0,0,3,0,0] Z<|Ad 1 Z ?_
   have ka:¬(LR pD fD ((CC (nn+1) (Ch pD fD.toNat aD)).getD kn []) ((nn-kn:Nat):Int)≠((0:Nat):Int)):=(fun h9=>h9 (by rw[hti];omega))
   refine AT false Z Z (A6 ka) Aa<|Ad 2 Z ?_
   have kb:¬(D7 pD fD ((CC (nn+1) (Ch pD fD.toNat aD)).getD kn []) bD ((nn-kn:Nat):Int)≠((0:Nat):Int)):=(fun h9=>h9 (by rw[hti];omega))
   refine AT false Z Z (A6 kb) (Ae (e:=140) Z Z Z)<|Ad 3 Z ?_
   have kc:¬(D7 pD fD aD bk (kn:Int)≠((0:Nat):Int)):=oM
   refine AT false Z Z (A6 kc) (Ae (e:=144) Z Z Z)<|Ad 5 Z ?_
   have gd:=Rd.suf (k:=kn) a8.rd2 oM a8.cap
   refine ST (v:=a5) (k:=kn) BH B8 Z a8.rd2.isSl a8.cap Z oM (Ae (e:=148) Z Z Z)<|As 46 [] [] [d0,Oa a5 kn] Z Z YB (Ae (e:=148) Z Z Z) (Ii _ _ _ _ _ d2.rd2 gd) ?_
   rintro m5 m6 ⟨rfl,a1⟩
   refine⟨_,rfl,a1,?_⟩
   have it:=a1.size
   have iu:=is.trans a1
   have bu:=bp.ext (Ao<|AL 153 6) a1
   have bv:=bq.ext (o1) a1
   have bw:=br.ext (o1) a1
   have bx:=bs.ext a1
   have eb:=a8.ext (o2) a1
   have bz:=bt.ext (o2) a1
   have d3:=ea.ext (o1) a1
   have ey:=ew.ext g1 a1
   have ge:=AZ a1 gb
   have ec:=d2.ext (o2) a1
   have ez:=ex.ext g1 a1
   have gf:=AZ a1 gc
   have hn_bkx45:=hn_bkx38.ext (o1) a1
   have aw:=e9.ext (o1) a1
   have ed:=gd.ext g2 a1
   rw[show(decide (((CC (nn+1) (Ch pD fD.toNat aD)).drop kn)=((CC (nn+1) (Ch pD fD.toNat aD)).drop kn)))=true from A5 rfl]
   refine Bn false Z Z (Ae (e:=148) Z Z Z)<|Ad 4 Z<|As 48 [] [] [dg,a0] Z Z YC (Ae (e:=156) Z Z Z) (Ih _ _ _ _ _ aw.rd1 d3.rd1) ?_
   rintro m7 fk ⟨rfl,a2⟩
   refine⟨_,rfl,a2,?_⟩
   have iv:=a2.size
   have gp:=iu.trans a2
   have c0:=bu.ext (Ao<|AL 153 6) a2
   have c1:=bv.ext (o1) a2
   have ax:=bw.ext (o1) a2
   have c2:=bx.ext a2
   have ee:=eb.ext (o2) a2
   have c3:=bz.ext (o2) a2
   have ef:=d3.ext (o1) a2
   have g0:=ey.ext g1 a2
   have gg:=AZ a2 ge
   have eg:=ec.ext (o2) a2
   have g3:=ez.ext g1 a2
   have gh:=AZ a2 gf
   have hn_bkx48:=hn_bkx45.ext (o1) a2
   have c4:=aw.ext (o1) a2
   have eh:=ed.ext g2 a2
   rw[show(decide ((Uu pD fD aD bk (kn:Int))=(Jt pD fD.toNat aD nn bD)))=true from A5 (by rw[Ht k8,Int.toNat_natCast,hpc])]
   refine Bn false Z Z (Ae (e:=156) Z Z Z)<|Ac 1 Z<|Ah Z<|A2<|bZ [0,0,0,3,0] Z<|Ad 2 Z<|AQ (v:=vbD) Bt Z ax.isSl Aa<|As 49 [] [] [vd,zI (bD.length:Int)] Z Z bC Aa (Jq _ _ _ _ (hds.ext Cs gp) oM oM) ?_
   rintro m8 f4 ⟨d4,f0,rfl,a3,ei,kd⟩
   refine⟨_,rfl,a3,?_⟩
   have iw:=a3.size
   have gq:=gp.trans a3
   have c5:=c0.ext (Ao<|AL 153 6) a3
   have c6:=c1.ext (o1) a3
   have c7:=ax.ext (o1) a3
   have c8:=c2.ext a3
   have ej:=ee.ext (o2) a3
   have c9:=c3.ext (o2) a3
   have ek:=ef.ext (o1) a3
   have g4:=g0.ext g1 a3
   have gi:=AZ a3 gg
   have el:=eg.ext (o2) a3
   have g5:=g3.ext g1 a3
   have gj:=AZ a3 gh
   have hn_bkx51:=hn_bkx48.ext (o1) a3
   have ca:=c4.ext (o1) a3
   have em:=eh.ext g2 a3
   refine Ac 1 Z<|bZ [3,0] Z ?_
   obtain⟨oD,hoD⟩:∃l:Sr,l=f0:=⟨_,rfl⟩
   have hn_oD:=ei
   rw[← hoD]at hn_oD
   have hot:oD.length=bD.length∧B2 oD=true:=by rw[hoD];exact⟨by have h9:=‹_∧B2 f0=true›.1;omega,‹_∧B2 f0=true›.2⟩
   refine CQ (rI) AR Bt BT Aa fun fl m9 a4 ke ix=>?_
   have iy:=a4.size
   have iz:=gq.trans a4
   have cb:=c5.ext (Ao<|AL 153 6) a4
   have cc:=c6.ext (o1) a4
   have cd:=c7.ext (o1) a4
   have ce:=c8.ext a4
   have j0:=ej.ext (o2) a4
   have dh:=c9.ext (o2) a4
   have en:=ek.ext (o1) a4
   have ji:=g4.ext g1 a4
   have j1:=AZ a4 gi
   have j2:=el.ext (o2) a4
   have jj:=g5.ext g1 a4
   have j3:=AZ a4 gj
   have hn_bkx54:=hn_bkx51.ext (o1) a4
   have di:=ca.ext (o1) a4
   have j4:=em.ext g2 a4
   have hn_oDx54:=hn_oD.ext (o1) a4
   refine Ac 1 Z<|A0<|cA Z<|A3 ?_
   refine B1 (S:=Nat×Value) (fun⟨i,vo⟩=>([(24,vo),(25,zI (i:Int)),(5,zP w7.heap.size),(6,zI fD),(7,vaD),(8,vbD),(9,zI (nn:Int)),(15,a0),(23,d4)])) (fun⟨i,vo⟩ W=>AF w W∧Fr (E4 3 (Pn 153 6) 49) w4.heap.size w7.heap.size W.heap vD pD∧Fr (Bh rI 2) f4.heap.size W.heap.size W.heap vo ((Ce bD oD).take i)∧Fr (Bh rI 2) w4.heap.size w7.heap.size W.heap vaD aD∧Fr (Bh rI 2) w4.heap.size w7.heap.size W.heap vbD bD∧Fr (Bh rI 2) fa.heap.size f1.heap.size W.heap a0 (Jt pD fD.toNat aD nn bD)∧Fr (Bh rI 2) fk.heap.size f4.heap.size W.heap d4 oD∧BX W.heap w7.heap.size [vD]∧i≤bD.length∧f1.heap.size≤f4.heap.size∧w7.heap.size<f4.heap.size∧w4.heap.size≤W.heap.size∧f4.heap.size≤W.heap.size) (fun⟨i,vo⟩=>bD.length-i) (0,fl) ⟨rfl,rfl,rfl,rfl,rfl,rfl,rfl,rfl,rfl,trivial⟩ ⟨iz,cb,ix.up o1,cc,cd,en,hn_oDx54,ce,oM,oM,oM,oM,oM⟩ ?_
   clear co dz d8 d7 gm i4 e0 cz i5 i6 ae af b9 ag da cp i7 i8 ba bb bc bd ah b7 ai aj ak al be bf e2 b8 am bg bh an bi bj ig cq aa ih ii ao bl ap aq bm g8 im cr a6 io ip ar au bn av bo g9 ga e9 a7 ir is bp bq br bs bt gb gc a1 it iu bu bv bw bx bz ge gf aw a2 c0 c1 ax c2 c3 gg gh c4 ei a3 c5 c6 c7 c8 c9 gi gj ca ix ke a4 iy iz cb cc cd ce dh j1 j3 di
   rintro⟨i,vo⟩ ρ58 f2 ⟨gr,ct,db,cu,ab,dc,ac,b3,kf,hgu,l7,l8,l9⟩
   have lc:w.heap.size≤f2.heap.size:=gr.size
   have ly:=b3.lt
   refine A0<|bZ [0,0,0,0] Z<|Ad 2 Z<|AQ (v:=vbD) Bt Z ab.isSl Aa ?_
   by_cases j5:(i:Int)<(bD.length:Int)
   ·refine AG true Z Z (A5 j5) Aa<|Aj<|Ag Z<|A2<|A0<|A3<|AO _ [0,0,0,0,1,0,0,0,1,0,3,4,0] mixed (by kernel_rfl)<|Ad 3 Z<|AB (v:=vbD) i Bt BT Z Z ab.isSl Z sD Aa ?_
    refine Ai (p:=Ay vbD i 1) (.inl Z) (zI<|bD.getD i 0) AD Z (ab.rd1.getI sD).1 Aa (Ad 2 Z ?_)
    refine AB (v:=d4) i Bt BT Z Z ac.isSl Z sD Aa ?_
    refine Ai (p:=Ay d4 i 1) (.inl Z) (zI<|oD.getD i 0) AD Z (ac.rd1.getI sD).1 Aa ?_
    refine Az 50 [] [] [zI<|bD.getD i 0,zI<|oD.getD i 0] Z Z Uv Aa (zI<|md ((bD.getD i 0)+(oD.getD i 0))) (fun wq=>FM wq _ _ (ab.rd1.getI sD).2 (ac.rd1.getI sD).2) ?_
    refine BI (u:=zI<|md ((bD.getD i 0)+(oD.getD i 0))) (B:=f2.heap.size) AR Bt BT Z Z (Ov f2.heap.size f2.heap.size _ _<|ED _) (A7 _) Aa fun fm Da b4 lz j6=>?_
    replace b4:=b4.of_drew
    have ld:=b4.size
    have j7:=gr.trans b4
    have dj:=ct.ext (Ao<|AL 153 6) b4
    have dk:=db.ext (o1) b4
    have dl:=cu.ext (o1) b4
    have dm:=ab.ext (o1) b4
    have dn:=dc.ext (o1) b4
    have dp:=ac.ext (o1) b4
    have dq:=b3.ext b4
    refine FO (v:=vo) (a:=fm) Bt BT Z Z Z dk oM j6.rd1 sD (by unfold maxLen;first|omega|assumption|(simp;done)|(simp;omega)) Aa fun fo fi ma cv d5 kg=>?_
    have kh:AF w fi:=cv.below j7 (fun c hc=>A8 gq.size (d5 c hc).1) j7.size
    have le:Da.heap.size≤fi.heap.size:=cv.size
    have ki:=dj.chg (Ao<|AL 153 6) cv fun c hc=>zH<|d5 c hc
    have kj:=dl.chg (o1) cv fun c hc=>zH<|d5 c hc
    have kl:=dm.chg (o1) cv fun c hc=>zH<|d5 c hc
    have km:=dn.chg (o1) cv fun c hc=>zH<|d5 c hc
    have ko:=dp.chg (o1) cv fun c hc=>zH<|d5 c hc
    have kp:=dq.chg cv fun hm=>zH<|d5 _ hm
    have m0:=j6.chg (o1) cv fun c hc=>zH<|d5 c hc
    exact Ac 1 Z<|Ab _ [0,0,0] Z<|Ad 1 Z<|AP ((i+1:Nat):Int) Z Z (Bl oM sD) Aa<|Ac 1 Z ⟨(i+1,fo),_,rfl,zR,⟨kh,ki,(by rw[Dq 0 (by simp;omega),Ic oM];exact kg.up o1),kj,kl,km,ko,kp,oM,oM,oM,oM,oM⟩,zD⟩
   refine AG false Z Z (A6 j5) Aa<|Aj<|Ah Z<|A4<|Ax<|Ax<|At<|bZ [2,0,0,0,0,3,0,0,0,0,0] Z ?_
   have j8:Fr (Bh rI 2) f4.heap.size f2.heap.size f2.heap vo (Ce bD oD):=by have h:=db;rwa [za (by simp;omega)]at h
   have hcO:=O9 (a:=aD) (ws:=oD) hRD.dr.ok oM ⟨hpa.1,hsq⟩ hla ⟨zO,hot.2⟩
   have hcS:=O9 (a:=aD) (ws:=Ce bD oD) hRD.dr.ok oM ⟨hpa.1,hsq⟩ hla ⟨by rw[Di];omega,Gh _ _⟩
   have hgO:=EF<|Iz (p:=pD) (f:=fD) (n:=(nn:Int)) hcO.1<|Br.2 ⟨zO,zO⟩
   have hgS:=EF<|Iz (p:=pD) (f:=fD) (n:=(nn:Int)) hcS.1<|Br.2 ⟨zO,zO⟩
   rw[Int.toNat_natCast]at hgO hgS
   have kq:D7 pD fD aD oD (nn:Int)=0:=by omega
   have kr:D7 pD fD aD (Ce bD oD) (nn:Int)=0:=by omega
   have hadd:=Qi (us:=oD) hCh (show bD.length=aD.length by omega)
   have hlG:=KE hCh (show bD.length=aD.length by omega)
   have hlO:=KE hCh (show oD.length=aD.length by omega)
   refine AK (p:=zP w7.heap.size) (.inr Z) [vD] BZ Z (fun f3 d9=>LD.of_box<|BX.ext (w:=f2) b3 d9) Z Aa<|Ad 4 Z<|As 47 [] [] [.agg #[vD],zI fD,vaD,d4,zI (nn:Int)] Z Z SU Aa (C7 _ 6 vD (pD) _ _ _ _ _ _ (RN.of_frF ct fun b hb=>by cases hb) oM cu.rd1 ac.rd1 oM Oi) ?_
   rintro mb f5 ⟨ad,rfl,b5,eo,ks⟩
   refine⟨_,rfl,b5,?_⟩
   have lf:=b5.size
   have kt:=gr.trans b5
   have ay:=ct.ext (Ao<|AL 153 6) b5
   have d6:=j8.ext (o1) b5
   have az:=cu.ext (o1) b5
   have cf:=ab.ext (o1) b5
   have cg:=dc.ext (o1) b5
   have ch:=ac.ext (o1) b5
   have b0:=b3.ext b5
   refine Ad 1 Z<|AM (vs:=[ad,zI<|D7 pD fD aD oD (nn:Int)]) ad Z Z Aa<|AM (vs:=[ad,zI<|D7 pD fD aD oD (nn:Int)]) (zI<|D7 pD fD aD oD (nn:Int)) Z Z Aa<|Ac 2 Z<|bZ [2,0,0,0,0,3,0,0,0,0,0] Z<|AK (p:=zP w7.heap.size) (.inr Z) [vD] BZ Z (fun f3 d9=>LD.of_box<|BX.ext (w:=f5) b0 d9) Z Aa<|Ad 4 Z<|As 47 [] [] [.agg #[vD],zI fD,vaD,vo,zI (nn:Int)] Z Z SU Aa (C7 _ 6 vD (pD) _ _ _ _ _ _ (RN.of_frF ay fun b hb=>by cases hb) oM az.rd1 d6.rd1 oM Oi) ?_
   rintro mc f6 ⟨a9,rfl,b1,ep,ku⟩
   refine⟨_,rfl,b1,?_⟩
   have lg:=b1.size
   have kv:=kt.trans b1
   have ci:=ay.ext (Ao<|AL 153 6) b1
   have j9:=d6.ext (o1) b1
   have dt:=az.ext (o1) b1
   have du:=cf.ext (o1) b1
   have cj:=cg.ext (o1) b1
   have dv:=ch.ext (o1) b1
   have dw:=b0.ext b1
   have ck:=eo.ext (o1) b1
   refine Ad 1 Z<|AM (vs:=[a9,zI<|D7 pD fD aD (Ce bD oD) (nn:Int)]) a9 Z Z Aa<|AM (vs:=[a9,zI<|D7 pD fD aD (Ce bD oD) (nn:Int)]) (zI<|D7 pD fD aD (Ce bD oD) (nn:Int)) Z Z Aa<|Ac 2 Z<|A0<|bZ [0,0,0,0,0,0,0,0,0,0,0,0,0,0,0,0,0,0,0,0] Z ?_
   have ja:Fr (Bh rI 2) f2.heap.size f5.heap.size f6.heap ad (Jt pD fD.toNat aD nn oD):=by have h:=ck;rw[Ht kq]at h;simp only[Int.toNat_natCast]at h;exact h
   have jb:Fr (Bh rI 2) f5.heap.size f6.heap.size f6.heap a9 (Jt pD fD.toNat aD nn (Ce bD oD)):=by have h:=ep;rw[Ht kr]at h;simp only[Int.toNat_natCast]at h;exact h
   obtain⟨gB,hgB⟩:∃l:Sr,l=(Jt pD fD.toNat aD nn bD):=⟨_,rfl⟩
   have hn_gB:=cj
   rw[← hgB]at hn_gB
   obtain⟨gO,hgO_⟩:∃l:Sr,l=(Jt pD fD.toNat aD nn oD):=⟨_,rfl⟩
   have hn_gO:=ja
   rw[← hgO_]at hn_gO
   have gk:Fr (Bh rI 2) f5.heap.size f6.heap.size f6.heap a9 (Ce gB gO):=by rw[hgB,hgO_] ;have h:=jb;rw[hadd]at h;exact h
   rw[← hgB]at hlG
   rw[← hgO_]at hlO
   refine Ad 1 Z ?_
   have kw:¬(D7 pD fD aD oD (nn:Int)≠((0:Nat):Int)):=oM
   refine AT false Z Z (A6 kw) Aa<|Ad 2 Z ?_
   have kx:¬(D7 pD fD aD (Ce bD oD) (nn:Int)≠((0:Nat):Int)):=oM
   refine AT false Z Z (A6 kx) (Ae (e:=205) Z Z Z)<|Ad 3 Z<|AQ (v:=ad) Bt Z hn_gO.isSl (Ae (e:=209) Z Z Z)<|Ad 1 Z<|AQ (v:=a0) Bt Z hn_gB.isSl (Ae (e:=209) Z Z Z) ?_
   have ky:¬((gO.length:Int)≠(gB.length:Int)):=oM
   refine AT false Z Z (A6 ky) (Ae (e:=209) Z Z Z)<|Ad 3 Z<|AQ (v:=a9) Bt Z gk.isSl (Ae (e:=216) Z Z Z)<|Ad 1 Z<|AQ (v:=a0) Bt Z hn_gB.isSl (Ae (e:=216) Z Z Z) ?_
   have kz:¬((((Ce gB gO).length:Nat):Int)≠(gB.length:Int)):=(fun h9=>h9 (by rw[Di]))
   refine AT false Z Z (A6 kz) (Ae (e:=216) Z Z Z)<|Ac 1 Z<|Ah Z<|A2<|A0<|cA Z<|A3<|B1 (S:=Nat) (fun i=>([(30,zI (i:Int)),(15,a0),(26,ad),(28,a9)])) (fun i W=>AF w W∧Fr (E4 3 (Pn 153 6) 49) w4.heap.size w7.heap.size W.heap vD pD∧Fr (Bh rI 2) fa.heap.size f1.heap.size W.heap a0 gB∧Fr (Bh rI 2) f2.heap.size f5.heap.size W.heap ad gO∧Fr (Bh rI 2) f5.heap.size f6.heap.size W.heap a9 (Ce gB gO)∧i≤gB.length∧w4.heap.size≤W.heap.size) (fun i=>gB.length-i) 0 ⟨rfl,rfl,rfl,rfl,trivial⟩ ⟨kv,ci,hn_gB,hn_gO,gk,oM,oM⟩ ?_
   clear iv gp iw gq b3 ac dc ab cu db ct eo b5 ay az cf cg ch b0 ep b1 ci dt du cj dv dw ck
   rintro i ρ83 fd ⟨gs,gt,b6,cw,dd,l0,lh⟩
   have li:w.heap.size≤fd.heap.size:=gs.size
   refine A0<|bZ [0,0,0,0] Z<|Ad 2 Z<|AQ (v:=a0) Bt Z b6.isSl Aa ?_
   by_cases jc:(i:Int)<(gB.length:Int)
   ·refine AG true Z Z (A5 jc) Aa<|Aj<|Ag Z<|A2<|A0<|A3<|A0<|AO _ [0,0,0,1,0,0,0,1,0,0,0,1,0,0] mixed (by kernel_rfl)<|Ad 2 Z<|AB (v:=a9) i Bt BT Z Z dd.isSl Z (by rw[Di];omega) Aa (Ai (p:=Ay a9 i 1) (.inl Z) (zI<|(Ce gB gO).getD i 0) AD Z (dd.rd1.getI (by rw[Di];omega)).1 Aa (Ad 2 Z ?_))
    refine AB (v:=a0) i Bt BT Z Z b6.isSl Z sD Aa ?_
    refine Ai (p:=Ay a0 i 1) (.inl Z) (zI<|gB.getD i 0) AD Z (b6.rd1.getI sD).1 Aa (Ad 2 Z ?_)
    refine AB (v:=ad) i Bt BT Z Z cw.isSl Z sD Aa ?_
    refine Ai (p:=Ay ad i 1) (.inl Z) (zI<|gO.getD i 0) AD Z (cw.rd1.getI sD).1 Aa ?_
    refine Az 50 [] [] [zI<|gB.getD i 0,zI<|gO.getD i 0] Z Z Uv Aa (zI<|md ((gB.getD i 0)+(gO.getD i 0))) (fun wq=>FM wq _ _ (b6.rd1.getI sD).2 (cw.rd1.getI sD).2) ?_
    have l1:¬((Ce gB gO).getD i 0≠md ((gB.getD i 0)+(gO.getD i 0))):=(fun h9=>h9 (Ic oM))
    refine AT false Z Z (A6 l1) Aa<|Aj<|Ah Z<|A2<|Ab _ [0,0,0] Z<|Ad 1 Z<|AP ((i+1:Nat):Int) Z Z (Bl oM sD) Aa<|Ac 1 Z ?_
    have hdrw:fd.drew.heap.size=fd.heap.size:=rfl
    exact⟨i+1,_,rfl,zR,⟨gs.drew,gt,b6,cw,dd,oM,oM⟩,zD⟩
   exact AG false Z Z (A6 jc) Aa<|Aj<|Ah Z<|A4<|Ax<|Ax<|At<|cA Z<|A1<|Af [4] Z (.bool true) Z ⟨UN,gs⟩
  have lj:=of_decide_eq_true jg
  exact Ag (by first|rfl|exact zW jg)<|cA Z<|A1<|Al<|Af [4] Z (.bool true) Z ⟨UN,jm⟩
 have lk:=of_decide_eq_true l2
 exact Ac 3 Z<|Ag Z<|cA Z<|A1<|Al<|Af [4] Z (.bool true) Z ⟨UN,je⟩
end
end Go.Proofs.YtbajepcpgncekaaGreat
