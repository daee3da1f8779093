/- Sd, Sl, Sp, Wa, Yj, Ym, Yq: texts of this claim, joined; what the claim does not come to is left out. -/
import Derived.Test.YtbajepcpgncekaaGreatQH5
import Derived.Test.YtbajepcpgncekaaGreatProg
set_option linter.unusedVariables false
set_option linter.unusedSimpArgs false
namespace Go.Proofs.YtbajepcpgncekaaGreat
open Go Go.RowKit
section
set_option maxHeartbeats 4000000
set_option maxRecDepth 100000
attribute [local irreducible] LW
theorem Ze {n c:Nat}{M:List (List Int)}{det R:Int}(h:M0 n (n-c) c M det=R)(hc:c<n)(hp:Un n c M≠n) :
    M0 n (n-(c+1)) (c+1) (Ix c ((Bv M c (Un n c M) []).getD c []) (inv (((Bv M c (Un n c M) []).getD c []).getD c 0)) (n-(c+1)) (Bv M c (Un n c M) [])) (md ((if Un n c M≠c then md (-det)else det)*((Bv M c (Un n c M) []).getD c []).getD c 0))=R:=by
  rw[← h,show n-c=(n-(c+1))+1 from by omega]
  conv=>rhs;unfold M0
  rw[if_neg hp]
theorem Zf {n c:Nat}{M:List (List Int)}{det R:Int}(h:M0 n (n-c) c M det=R)(hc:c<n)(hp:Un n c M=n):(0:Int)=R:=by
  rw[← h]
  obtain⟨m,hm⟩:∃m,n-c=m+1:=⟨n-c-1,zO⟩
  rw[hm]
  unfold M0
  rw[if_pos hp]
theorem bX {n c:Nat}{M:List (List Int)}{det R:Int}(h:M0 n (n-c) c M det=R)(hc:n≤c):det=R:=by
  rw[← h,show n-c=0 from by omega];rfl
theorem Zg {n c j:Nat}{M1 M2:List (List Int)}(h1:Sq n M1)(hM:M2=Ix c (M1.getD c []) (inv ((M1.getD c []).getD c 0)) j M1)(hj:c+1+j<n) :
    M2.set (c+1+j) (OD (M2.getD (c+1+j) []) (M2.getD c []) (md ((M2.getD (c+1+j) []).getD c 0*inv ((M1.getD c []).getD c 0))))=Ix c (M1.getD c []) (inv ((M1.getD c []).getD c 0)) (j+1) M1:=by
  have e:M2.getD c []=M1.getD c []:=by rw[hM];exact Pe h1 [] (A9 _) j zO
  rw[e]
  subst hM
  rfl
theorem NX {β:Type}(l:List β)(i j:Nat)(d:β):Bv l i j d=Bv l j i d:=by
  unfold Bv
  by_cases h:i=j
  · subst h;rfl
  · rw[List.set_comm _ _ h]
theorem US {n c j:Nat}{M1 M2:List (List Int)}(h1:Sq n M1)(hM:M2=Ix c (M1.getD c []) (inv ((M1.getD c []).getD c 0)) j M1)(hj:c+1+j<n) :
    M2.set (c+1+j) (OD (M2.getD (c+1+j) []) (M2.getD c []) (md ((M2.getD (c+1+j) []).getD c 0*inv ((M2.getD c []).getD c 0))))=Ix c (M1.getD c []) (inv ((M1.getD c []).getD c 0)) (j+1) M1:=by
  have e:M2.getD c []=M1.getD c []:=by rw[hM];exact Pe h1 [] (A9 _) j zO
  rw[← Zg h1 hM hj,e]
theorem eZ {p:Prop}(h:p:=by first|exact DZ (by rw[← hpv.out];exact(ST oM).symm)|exact DZ (by rw[← hpv.out];exact(MX (A8 ‹¬(M.getD p []).getD c 0=((0:Nat):Int)›)).symm)):p:=h
theorem f0 {p:Prop}(h:p:=by first|exact DZ (by rw[if_pos oM])|exact DZ (by rw[if_neg oM])):p:=h
theorem On (w:World)(va:Value)(a:List (Sr))(ha:Rd (B3 (B3 rI)) w.heap va a)(hS:Sq a.length a)(h6:a.length≤6) :
  Calls Tryz.prog 78 #[va] w (fun e w'=>e=.returned (zI (DD a))∧AB w w'):=by
 refine At [va] 101 Tryz.func78 Z Z sM ?_
 have bi:AB w w:=AB.refl w
 have d6:=ha.lenle
 refine qT Z<|qS [0,3,0] Z<|Af 1 Z<|As 161 [] [] [va] Z Z dT Ac (JD _ _ _ (ha.ext g2 bi) oM (by intro k;by_cases hk:k<a.length;(have:=hS.row k hk;omega);(rw[show a.getD k []=[]from by simp[Nat.not_lt.1 hk]];simp))) ?_
 rintro e1 w1 ⟨a0,rfl,be,ab⟩
 refine⟨_,rfl,be,?_⟩
 have bj:=be.size
 have c7:=bi.trans be
 refine Ae 1 Z<|qT Z<|A0<|qT Z<|A5 ?_
 refine AQ (S:=Nat×List (Sr)×Int) (fun⟨c,M,det⟩=>([(4,zI det),(5,zI (c:Int)),(3,a0)])) (fun⟨c,M,det⟩ W=>AB w W∧Fr (AY (AY rI 2) 27) w.heap.size W.heap.size W.heap a0 M∧c≤a.length∧Sq a.length M∧(0≤det∧det<1000003)∧Hid (M0 a.length (a.length-c) c M det=DD a)) (fun⟨c,M,det⟩=>a.length-c) (0,a,((1:Nat):Int)) ⟨rfl,rfl,rfl,trivial⟩ ⟨c7,ab.up o2,sD,hS,oM,(by exact DZ Z)⟩ ?_
 clear bi ab be bj c7
 rintro⟨c,M,det⟩ ρ2 w2 ⟨bf,a5,c8,hSM,hdet,hdF⟩
 have bk:w.heap.size≤w2.heap.size:=bf.size
 have hlM:=hSM.len
 refine A0<|qS [0,0,0,0] Z<|Af 2 Z<|AN (v:=a0) Bn Z a5.isSl Ac ?_
 by_cases c9:(c:Int)<(M.length:Int)
 ·refine Ay true Z Z (A7 c9) Ac<|Ai<|Ag Z<|A4<|A0<|A5<|qS [0,0] Z<|Ae 2 Z<|A0<|Ib (S:=Nat) (fun p=>([(6,zI (p:Int)),(3,a0),(4,zI det),(5,zI (c:Int))])) (fun p W=>AB w W∧Fr (AY (AY rI 2) 27) w.heap.size w2.heap.size W.heap a0 M∧c≤p∧p≤a.length∧Hid (p=Un a.length c M)) ?_ ?_
  ·refine A5 ?_
   refine AQ (S:=Nat) (fun p=>([(6,zI (p:Int)),(3,a0),(4,zI det),(5,zI (c:Int))])) (fun p W=>AB w W∧Fr (AY (AY rI 2) 27) w.heap.size w2.heap.size W.heap a0 M∧c≤p∧p≤a.length∧Hid (O7 (fun r=>decide ((M.getD r []).getD c 0=0)) (a.length-p) p=Un a.length c M)) (fun p=>a.length-p) c ⟨rfl,rfl,rfl,rfl,trivial⟩ ⟨bf,a5,sD,sD,(by exact DZ Z)⟩ ?_
   clear a5
   rintro p ρ5 w5 ⟨bg,a3,ca,cb,hpv⟩
   have cs:w.heap.size≤w5.heap.size:=bg.size
   refine A0<|qS [0,0,0,0,0,0,0,0,2,0,0,2,0,0] Z<|Af 2 Z<|AN (v:=a0) Bn Z a3.isSl Ac ?_
   by_cases cc:(p:Int)<(M.length:Int)
   ·refine Ay true Z Z (A7 cc) Ac<|Af 3 Z<|Aw (v:=a0) p Bn AU Z Z a3.isSl Z sD (Ak (e:=22) Z Z Z) ?_
    obtain⟨bl,ct,bm⟩:=a3.rd2.get (k:=p) [] sD
    have cu:=bm.lenle
    refine Al (p:=Ax a0 p 1) (.inr Z) bl B7 Z ct (Ak (e:=22) Z Z Z) ?_
    have hrp:=hSM.row p oM
    refine Af 1 Z<|Aw (v:=bl) c Bm BM Z Z bm.isSl Z sD (Ak (e:=22) Z Z Z) ?_
    refine Al (p:=Ax bl c 1) (.inr Z) (zI<|(M.getD p []).getD c 0) AO Z (bm.getI sD).1 (Ak (e:=22) Z Z Z) ?_
    by_cases cd:(M.getD p []).getD c 0=((0:Nat):Int)
    ·refine Av true Z Z (A7 cd) (Ak (e:=22) Z Z Z)<|Ae 1 Z<|Ag Z<|A4<|A5<|Ad _ [0,0,0] Z<|Af 1 Z<|AG ((p+1:Nat):Int) Z Z (Bd oM sD) Ac<|Ae 1 Z ?_
     exact⟨p+1,_,rfl,zR,⟨bg,a3,sD,sD,(by exact DZ (by rw[← hpv.out,Kv (f:=fun r=>decide ((M.getD r []).getD c 0=0)) (n:=a.length) (p:=p) oM (A7 ‹(M.getD p []).getD c 0=((0:Nat):Int)›)]))⟩,zD⟩
    refine Av false Z Z (A8 cd) (Ak (e:=22) Z Z Z)<|Ae 1 Z<|Aj Z<|A6<|Au<|Au<|An ?_
    exact⟨p,_,rfl,zR,⟨bg,a3,sD,sD,eZ⟩⟩
   refine Ay false Z Z (A8 cc) Ac<|Ae 10 Z<|Aj Z<|A6<|Au<|Au<|An ?_
   exact⟨p,_,rfl,zR,⟨bg,a3,sD,sD,eZ⟩⟩
  clear a5
  rintro p ρ4 w4 ⟨aj,a2,ce,cf,hpe⟩
  have bn:w.heap.size≤w4.heap.size:=aj.size
  refine A0<|qS [0,0,0,0] Z<|Af 2 Z<|AN (v:=a0) Bn Z a2.isSl Ac ?_
  by_cases cg:(p:Int)=(M.length:Int)
  ·exact Av true Z Z (A7 cg) Ac<|Ai<|Ag Z<|qT Z<|A3<|Ap<|AK<|Ap<|Ap<|AK<|Ap<|Ah [2] Z (zI ((0:Nat):Int)) Z ⟨B5<|Zf hdF.out oM (by have h9:=hpe.out;omega),aj⟩
  refine Av false Z Z (A8 cg) Ac<|Ai<|Aj Z<|A4<|A0<|Ib (S:=Int) (fun(d2:Int)=>([(4,zI d2),(3,a0),(5,zI (c:Int))])) (fun(d2:Int) (W:World)=>AB w W∧Fr (AY (AY rI 2) 27) w.heap.size W.heap.size W.heap a0 (Bv M c p [])∧Hid (d2=(if p≠c then md (-det)else det))∧(0≤d2∧d2<1000003)) ?_ ?_
  ·refine qS [0,0,0] Z<|Af 2 Z ?_
   by_cases ak:(c:Int)<(p:Int)
   ·refine C9 true Z Z (A7 ak) Ac<|Ai<|Ag Z<|qS [0,0,0,2,0] Z<|Af 2 Z<|Aw (v:=a0) p Bn AU Z Z a2.isSl Z sD Ac ?_
    obtain⟨al,am,an⟩:=a2.rd2.get (k:=p) [] sD
    have ch:=an.lenle
    refine Al (p:=Ax a0 p 1) (.inr Z) al B7 Z am Ac<|Ae 1 Z<|qS [0,0,0,0,0,2,0,4] Z<|Af 4 Z<|Aw (v:=a0) c Bn AU Z Z a2.isSl Z sD Ac ?_
    obtain⟨ao,ap,aq⟩:=a2.rd2.get (k:=c) [] sD
    have ci:=aq.lenle
    refine Al (p:=Ax a0 c 1) (.inr Z) ao B7 Z ap Ac<|Aw (v:=a0) p Bn AU Z Z a2.isSl Z sD Ac ?_
    have ar:=Bl aq.isSl
    have au:=Bl an.isSl
    obtain⟨cv,av,ac,ad⟩:=a2.opn o1 oM
    obtain⟨ua14,aw,ax⟩:=ad c sD
    obtain⟨uc14,ay,az⟩:=ad p sD
    have b0:=IZ aw ax ap
    have b1:=IZ ay az am
    refine Lc o1 (v:=a0) (u:=ao) (w:=w4) KS Z Z av ar (by rw[ac];exact sD) Ac fun d7 dc b2 cw bo bp=>?_
    have b3:AB w d7:=b2.below aj (fun c hc=>Aa (A9 _) (bo c hc).1) aj.size
    have cj:=b2.size
    refine Ai<|qS [0,0,0,0,4] Z<|Af 3 Z<|Aw (v:=a0) c Bn AU Z Z a2.isSl Z sD Ac ?_
    refine Lc o1 (v:=a0) (u:=al) (w:=d7) KS Z Z bp au (by rw[z6,ac];exact sD) Ac fun d8 dd b4 cx bq br=>?_
    have bs:AB w d8:=b4.below b3 (fun c hc=>Aa (A9 _) (bq c hc).1) b3.size
    have ck:=b4.size
    have b5:=br.swap [] (i:=p) (j:=c) sD sD (by unfold Bv;rw[b0,b1])
    exact Ai<|Ad _ [0,0,0] Z<|Af 1 Z<|AD 83 [] [] [zI det] Z Z kU Ac (zI<|md (-det)) (fun wq=>JC wq _ oM oM)<|Ae 1 Z ⟨md (-det),_,rfl,zR,⟨bs,(by first|(rw[NX];exact b5.up o2)|(rw[show p=c from by omega,MM _ _ _ oM];exact b5.up o2)),f0,(by first|exact BU _|exact hdet)⟩⟩
   exact C9 false Z Z (A8 ak) Ac<|Ai<|Aj Z<|A4 ⟨det,_,rfl,zR,⟨aj,(by first|(rw[NX];exact a2.up o2)|(rw[show p=c from by omega,MM _ _ _ oM];exact a2.up o2)),f0,(by first|exact BU _|exact hdet)⟩⟩
  clear bf bk a2 aj bn
  rintro d2 ρ10 d9 ⟨af,a4,cy,hd2r⟩
  have b6:w.heap.size≤d9.heap.size:=af.size
  refine qS [0,0,0,0,2,0,0,2,0,0] Z ?_
  have bh:Sq a.length (Bv M c p []):=hSM.swap oM oM
  have d0:=bh.len
  have d1:=bh.row c oM
  refine Af 3 Z<|Aw (v:=a0) c Bn AU Z Z a4.isSl Z sD Ac ?_
  obtain⟨ag,bt,a7⟩:=a4.rd2.get (k:=c) [] sD
  have b7:=a7.lenle
  refine Al (p:=Ax a0 c 1) (.inr Z) ag B7 Z bt Ac<|Af 1 Z<|Aw (v:=ag) c Bm BM Z Z a7.isSl Z sD Ac ?_
  refine Al (p:=Ax ag c 1) (.inr Z) (zI<|((Bv M c p []).getD c []).getD c 0) AO Z (a7.getI sD).1 Ac ?_
  refine AD 112 [] [] [zI d2,zI<|((Bv M c p []).getD c []).getD c 0] Z Z JA Ac (zI<|md (d2*(((Bv M c p []).getD c []).getD c 0))) (fun wq=>Cy wq _ _ oM (a7.getI sD).2)<|Ae 1 Z<|qS [0,0,0] Z<|Af 1 Z ?_
  refine AG ((c+1:Nat):Int) Z Z (Bd oM sD) Ac<|Ae 1 Z<|A5 ?_
  refine AQ (S:=Nat×List (Sr)) (fun⟨j,M2⟩=>([(8,zI ((c+1+j:Nat):Int)),(3,a0),(4,zI<|md (d2*(((Bv M c p []).getD c []).getD c 0))),(5,zI (c:Int))])) (fun⟨j,M2⟩ W=>AB w W∧Fr (AY (AY rI 2) 27) w.heap.size W.heap.size W.heap a0 M2∧c+1+j≤a.length∧Sq a.length M2∧Hid (M2=Ix c ((Bv M c p []).getD c []) (inv<|((Bv M c p []).getD c []).getD c 0) j (Bv M c p []))) (fun⟨j,M2⟩=>a.length-j) (0,Bv M c p []) ⟨rfl,rfl,rfl,rfl,trivial⟩ ⟨af,a4.up o2,sD,bh,(by exact DZ Z)⟩ ?_
  clear a4 af b6 b7
  rintro⟨j,M2⟩ ρ19 da ⟨a8,a1,bu,ae,hEl⟩
  have cl:w.heap.size≤da.heap.size:=a8.size
  have d3:=ae.len
  have d4:=ae.row c oM
  have cm:=ae.row (c+1+j)
  refine A0<|qS [0,0,0,0] Z<|Af 2 Z<|AN (v:=a0) Bn Z a1.isSl Ac ?_
  by_cases b8:((c+1+j:Nat):Int)<(M2.length:Int)
  ·refine Ay true Z Z (A7 b8) Ac<|Ai<|Ag Z<|A4<|A0<|A5<|AW _ [0,0,0,1,0,0,0,1,0,0,0,1,0,0,1,0,0,0,1,0,0,1,0,0,4] mixed (by kernel_rfl) ?_
   have d5:=cm oM
   refine Af 2 Z<|Aw (v:=a0) (c+1+j) Bn AU Z Z a1.isSl Z sD Ac ?_
   obtain⟨b9,ba,bv⟩:=a1.rd2.get (k:=c+1+j) [] sD
   have cn:=bv.lenle
   refine Al (p:=Ax a0 (c+1+j) 1) (.inl Z) b9 B7 Z ba Ac<|Af 2 Z<|Aw (v:=a0) c Bn AU Z Z a1.isSl Z sD Ac ?_
   obtain⟨bb,bc,bw⟩:=a1.rd2.get (k:=c) [] sD
   have co:=bw.lenle
   refine Al (p:=Ax a0 c 1) (.inl Z) bb B7 Z bc Ac<|Af 2 Z<|Aw (v:=a0) (c+1+j) Bn AU Z Z a1.isSl Z sD Ac ?_
   obtain⟨ah,bx,a9⟩:=a1.rd2.get (k:=c+1+j) [] sD
   have cp:=a9.lenle
   refine Al (p:=Ax a0 (c+1+j) 1) (.inl Z) ah B7 Z bx Ac<|Af 1 Z<|Aw (v:=ah) c Bm BM Z Z a9.isSl Z sD Ac ?_
   refine Al (p:=Ax ah c 1) (.inl Z) (zI<|(M2.getD (c+1+j) []).getD c 0) AO Z (a9.getI sD).1 Ac (Af 2 Z ?_)
   refine Aw (v:=a0) c Bn AU Z Z a1.isSl Z sD Ac ?_
   obtain⟨ai,bz,aa⟩:=a1.rd2.get (k:=c) [] sD
   have cq:=aa.lenle
   refine Al (p:=Ax a0 c 1) (.inl Z) ai B7 Z bz Ac<|Af 1 Z<|Aw (v:=ai) c Bm BM Z Z aa.isSl Z sD Ac ?_
   refine Al (p:=Ax ai c 1) (.inl Z) (zI<|(M2.getD c []).getD c 0) AO Z (aa.getI sD).1 Ac ?_
   refine AD 163 [] [] [zI<|(M2.getD c []).getD c 0] Z Z Yt Ac (zI<|inv<|(M2.getD c []).getD c 0) (fun wq=>H7 wq _ (aa.getI sD).2) ?_
   refine AD 112 [] [] [zI<|(M2.getD (c+1+j) []).getD c 0,zI<|inv<|(M2.getD c []).getD c 0] Z Z JA Ac (zI<|md (((M2.getD (c+1+j) []).getD c 0)*(inv<|(M2.getD c []).getD c 0))) (fun wq=>Cy wq _ _ (a9.getI sD).2 (Mh _)) ?_
   obtain⟨G27,c0,c1,bd,c2,c3⟩:=a1.row_two o1 [] sD ba
   refine AE 162 [] [] [b9,bb,zI<|md (((M2.getD (c+1+j) []).getD c 0)*(inv<|(M2.getD c []).getD c 0))] Z Z dU Ac (IR _ _ _ _ _ _ _ c0 c1 (fun w2 h2=>(c3 _ _ oM sD bc w2 h2.of_drew).imp fun C h=>h.rd id) (DI _) (zH<|cm oM) (by exact ae.num _) (by exact ae.num _) (by exact BU _)) ?_
   rintro de db ⟨rfl,a6,c4⟩
   replace a6:=a6.of_drew
   refine⟨_,rfl,?_⟩
   have c5:AB w db:=a6.below a8 (fun b hb=>Aa (A9 _) (bd b hb).1) a8.size
   have cz:=bd
   have c6:=c2 a6 c4
   have cr:=a6.size
   refine Ai<|Ad _ [0,0,0] Z<|Af 1 Z<|AG (((c+1+j)+1:Nat):Int) Z Z (Bd oM sD) Ac<|Ae 1 Z ?_
   exact⟨(j+1,M2.set (c+1+j) (OD (M2.getD (c+1+j) []) (M2.getD c []) (md (((M2.getD (c+1+j) []).getD c 0)*(inv ((M2.getD c []).getD c 0)))))),_,rfl,zR,⟨c5,c6.up o2,sD,(by exact Sq.set (r:=c+1+j) ae oM (by rw[HP];exact ae.row _ oM) (SS _ _ _)),(by exact DZ (US bh hEl.out oM))⟩,zD⟩
  refine Ay false Z Z (A8 b8) Ac<|Ai<|Aj Z<|A6<|Au<|Au<|An<|Ad _ [0,0,0] Z<|Af 1 Z<|AG ((c+1:Nat):Int) Z Z (Bd oM sD) Ac<|Ae 1 Z ?_
  exact⟨(c+1,M2,md (d2*(((Bv M c p []).getD c []).getD c 0))),_,rfl,zR,⟨a8,a1.up o2,sD,ae,(by exact BU _),(by exact DZ (by have h:=Ze hdF.out oM (by have h9:=hpe.out;omega);rw[← hpe.out]at h;rw[← cy.out]at h;obtain rfl:j=a.length-(c+1):=oM;rw[← hEl.out]at h;exact h))⟩,zD⟩
 exact Ay false Z Z (A8 c9) Ac<|Ai<|Aj Z<|A6<|Au<|Au<|An<|qS [0,0] Z<|Ae 2 Z<|A3<|Ah [2] Z (zI det) Z ⟨B5<|bX hdF.out oM,bf⟩
theorem Md (w:World)(va:Value)(a:List (Sr))(vb:Value)(b:Sr)(ha:Rd (B3 (B3 rI)) w.heap va a)(hb:Rd (B3 rI) w.heap vb b)(hS:Sq a.length a)(h6:a.length≤6)(hbl:b.length=a.length)(hqb:B9 b=true)(hok:Iy a b≠none) :
  Calls Tryz.prog 84 #[va,vb] w (fun e w'=>∃v0:Value,e=.returned (v0)∧AB w w'∧Fr (AY rI 2) w.heap.size w'.heap.size w'.heap v0 (Ji a b)):=by
 refine At [va,vb] 116 Tryz.func84 Z Z sM ?_
 have cj:AB w w:=AB.refl w
 have eg:=ha.lenle
 have eh:=hb.lenle
 refine qT Z<|qS [0,3,0] Z<|Af 1 Z<|As 161 [] [] [va] Z Z dT Ac (JD _ _ _ (ha.ext g2 cj) oM (by intro k;by_cases hk:k<a.length;(have:=hS.row k hk;omega);(rw[show a.getD k []=[]from by simp[Nat.not_lt.1 hk]];simp))) ?_
 rintro e1 w1 ⟨a0,rfl,ch,aq⟩
 refine⟨_,rfl,ch,?_⟩
 have ck:=ch.size
 have d9:=cj.trans ch
 refine Ae 1 Z<|A0<|qT Z<|A5 ?_
 have kY3:=P8.of (X:=[]) (U':=0) aq (A9 _) fun b hb=>by cases hb
 refine AQ (S:=Nat) (fun i=>([(6,zI (i:Int)),(1,vb),(5,a0)])) (fun i W=>AB w W∧P8 2 27 w.heap.size [] W.heap a0 (CK i (E6 a b) a)∧i≤a.length) (fun i=>a.length-i) 0 ⟨rfl,rfl,rfl,trivial⟩ ⟨d9,(by rw[D8];exact kY3),sD⟩ ?_
 clear cj aq ch ck d9
 rintro i ρ2 w2 ⟨b7,a5,da⟩
 have cl:w.heap.size≤w2.heap.size:=b7.size
 have hml:=VI a b i
 have hri:i<a.length→((CK i (E6 a b) a).getD i []).length=a.length:=fun h=>by rw[Pp a b h];exact hS.row i h
 refine A0<|qS [0,0,0,0] Z<|Af 2 Z<|AN (v:=a0) Bn Z a5.isSl Ac ?_
 by_cases db:(i:Int)<(((CK i (E6 a b) a).length:Nat):Int)
 ·refine Ay true Z Z (A7 db) Ac<|Ai<|Ag Z<|A4<|A0<|A5<|AW _ [0,0,0,0,0,1,0,0,0,1,3,4,0,4] mixed (by kernel_rfl)<|Af 4 Z<|Aw (v:=a0) i Bn AU Z Z a5.isSl Z sD Ac ?_
  obtain⟨dc,dd,de⟩:=a5.rd2.get (k:=i) [] sD
  have dx:=de.lenle
  refine Al (p:=Ax a0 i 1) (.inl Z) dc B7 Z dd Ac<|Af 2 Z<|Aw (v:=vb) i Bm BM Z Z hb.isSl Z sD Ac ?_
  refine Al (p:=Ax vb i 1) (.inl Z) (zI<|b.getD i 0) AO Z (AR b7.drew (hb.getI sD).1) Ac ?_
  refine Bs (u:=zI<|b.getD i 0) (B:=w2.heap.size) AS Bm BM Z Z (Mf w2.heap.size w2.heap.size _ _ (hb.getI sD).2) (A9 _) Ac fun v6 w6 av ec dy=>?_
  replace av:=av.of_drew
  have dz:=av.size
  have cm:=b7.trans av
  have aj:=a5.ext (o2) av
  have df:=de.ext g1 av
  have cn:=AR av dd
  refine Va (v:=a0) (u:=dc) (a:=v6) (r:=i) Bm BM Z Z Z aj cm.size (fun b hb=>by cases hb) sD cn dy.rd1 (by have:=hS.row i oM;rw[Pp a b oM];simp only[z9,zb];omega) (by unfold maxLen;have:=hS.row i oM;rw[Pp a b oM];simp only[z9,zb];omega) Ac fun v8 w8 F8 dg e0 dh=>?_
  have di:AB w w8:=dg.below cm (fun b hb=>(e0 b hb).1) cm.size
  have e3:=dg.size
  refine Aw (v:=a0) i Bn AU Z Z dh.isSl Z sD Ac (Vb (v:=a0) (u:=v8) (w:=w8) KS Z Z dh Ac fun w9 F9 dj ed e4 e5=>?_)
  have e6:AB w w9:=dj.below di (fun b hb=>(e4 b hb).1) di.size
  have e7:=dj.size
  refine Ai<|Ad _ [0,0,0] Z<|Af 1 Z<|AG ((i+1:Nat):Int) Z Z (Bd oM sD) Ac<|Ae 1 Z ?_
  exact⟨i+1,_,rfl,zR,⟨e6,(by rw[← VH a b oM];exact e5),sD⟩,zD⟩
 refine Ay false Z Z (A8 db) Ac<|Ai<|Aj Z<|A6<|Au<|Au<|An<|A0<|qT Z<|A5 ?_
 have kF11:=a5.fr
 refine AQ (S:=Nat×List (Sr)) (fun⟨c,M⟩=>([(7,zI (c:Int)),(5,a0)])) (fun⟨c,M⟩ W=>AB w W∧Fr (AY (AY rI 2) 27) w.heap.size W.heap.size W.heap a0 M∧c≤a.length∧Sh Nm 0 a.length (a.length+1) M∧Hid (O3 nA a.length (a.length-c) c M=Iy a b)) (fun⟨c,M⟩=>a.length-c) (0,E6 a b) ⟨rfl,rfl,trivial⟩ ⟨b7,(by have h:=kF11.up o2;rw[DS (by simp[E6]) oM]at h;exact h),sD,(by exact H0 hS hqb),(by exact DZ Z)⟩ ?_
 clear a5 b7 cl
 rintro⟨c,M⟩ ρ10 ee ⟨a9,a3,co,hSM,hJ⟩
 have b8:w.heap.size≤ee.heap.size:=a9.size
 have hlM:=hSM.len
 refine A0<|qS [0,0,0,0] Z<|Af 2 Z<|AN (v:=a0) Bn Z a3.isSl Ac ?_
 by_cases b9:(c:Int)<(M.length:Int)
 ·refine Ay true Z Z (A7 b9) Ac<|Ai<|Ag Z<|A4<|A0<|A5<|qS [0,0] Z<|Ae 2 Z<|A0<|A5 ?_
  have hne:=ZA hJ.out oM hok
  have hpl:=Lj nA hne oM
  refine AQ (S:=Nat) (fun p=>([(8,zI (p:Int)),(5,a0),(7,zI (c:Int))])) (fun p W=>AB w W∧Fr (AY (AY rI 2) 27) w.heap.size W.heap.size W.heap a0 M∧c≤p∧p<a.length∧Hid (O7 (fun r=>nA.z<|(M.getD r []).getD c nA.d) (a.length-p) p=HF nA a.length c M)) (fun p=>a.length-p) c ⟨rfl,rfl,rfl,trivial⟩ ⟨a9,a3.up o2,sD,oM,(by exact DZ Z)⟩ ?_
  clear a3 a9 b8
  rintro p ρ13 ei ⟨ad,a1,cp,cq,hpv⟩
  have ba:w.heap.size≤ei.heap.size:=ad.size
  refine A0<|qS [0,0,0,2,0,0,2,0] Z ?_
  have hrp:=hSM.row p oM
  have hrl:=hrp.len
  refine Af 2 Z<|Aw (v:=a0) p Bn AU Z Z a1.isSl Z sD Ac ?_
  obtain⟨aw,cr,ax⟩:=a1.rd2.get (k:=p) [] sD
  have bb:=ax.lenle
  refine Al (p:=Ax a0 p 1) (.inr Z) aw B7 Z cr Ac<|Af 1 Z<|Aw (v:=aw) c Bm BM Z Z ax.isSl Z sD Ac ?_
  refine Al (p:=Ax aw c 1) (.inr Z) (zI<|(M.getD p []).getD c 0) AO Z (ax.getI sD).1 Ac ?_
  by_cases bc:(M.getD p []).getD c 0=((0:Nat):Int)
  ·refine Av true Z Z (A7 bc) Ac<|Ai<|Ag Z<|A4<|A5<|Ad _ [0,0,0] Z<|Af 1 Z<|AG ((p+1:Nat):Int) Z Z (Bd oM sD) Ac<|Ae 1 Z ?_
   exact⟨p+1,_,rfl,zR,⟨ad,a1.up o2,sD,(by have e1:=hpv.out;rw[Kv (f:=fun r=>nA.z ((M.getD r []).getD c nA.d)) (n:=a.length) (p:=p) oM (A7 ‹(M.getD p []).getD c 0=((0:Nat):Int)›)]at e1;have e2:=(Pd (fun r=>nA.z ((M.getD r []).getD c nA.d)) (a.length-(p+1)) (p+1)).1;omega),(by exact DZ (by rw[← hpv.out,Kv (f:=fun r=>nA.z ((M.getD r []).getD c nA.d)) (n:=a.length) (p:=p) oM (A7 ‹(M.getD p []).getD c 0=((0:Nat):Int)›)]))⟩,zD⟩
  refine Av false Z Z (A8 bc) Ac<|Ai<|Aj Z<|A6<|Au<|Au<|An<|qS [0,0,0,2,0] Z ?_
  have hpe:p=HF nA a.length c M:=by rw[← hpv.out];exact(MX (f:=fun r=>nA.z ((M.getD r []).getD c nA.d)) (A8 ‹¬(M.getD p []).getD c 0=((0:Nat):Int)›)).symm
  have hrp:=hSM.row p oM
  have hrl:=hrp.len
  refine Af 2 Z<|Aw (v:=a0) p Bn AU Z Z a1.isSl Z sD Ac ?_
  obtain⟨ak,bd,be⟩:=a1.rd2.get (k:=p) [] sD
  have bf:=be.lenle
  refine Al (p:=Ax a0 p 1) (.inr Z) ak B7 Z bd Ac<|Ae 1 Z<|qS [0,0,0,0,0,2,0,4] Z<|Af 4 Z<|Aw (v:=a0) c Bn AU Z Z a1.isSl Z sD Ac ?_
  obtain⟨bg,bh,bi⟩:=a1.rd2.get (k:=c) [] sD
  have bj:=bi.lenle
  refine Al (p:=Ax a0 c 1) (.inr Z) bg B7 Z bh Ac<|Aw (v:=a0) p Bn AU Z Z a1.isSl Z sD Ac ?_
  have bk:=Bl bi.isSl
  have dk:=Bl be.isSl
  obtain⟨e8,bl,ar,au⟩:=a1.opn o1 oM
  obtain⟨ua18,bm,bn⟩:=au c sD
  obtain⟨uc18,bo,bp⟩:=au p sD
  have bq:=IZ bm bn bh
  have br:=IZ bo bp bd
  refine Lc o1 (v:=a0) (u:=bg) (w:=ei) KS Z Z bl bk (by rw[ar];exact sD) Ac fun ej et ay cs bs az=>?_
  have b0:AB w ej:=ay.below ad (fun c hc=>Aa (A9 _) (bs c hc).1) ad.size
  have bt:=ay.size
  have al:=Zq<|az.row [] sD br
  refine Ai<|qS [0,0,0,0,0,0,2,0,3,0,4] Z<|Af 5 Z<|Aw (v:=ak) c Bm BM Z Z al.isSl Z sD Ac ?_
  refine Al (p:=Ax ak c 1) (.inr Z) (zI<|(M.getD p []).getD c 0) AO Z (al.getI sD).1 Ac ?_
  refine AD 163 [] [] [zI<|(M.getD p []).getD c 0] Z Z Yt Ac (zI<|inv<|(M.getD p []).getD c 0) (fun wq=>H7 wq _ (al.getI sD).2)<|As 165 [] [] [ak,zI<|inv<|(M.getD p []).getD c 0] Z Z Yu Ac (FQ _ _ _ _ al (Mh _) (zH<|hrp.len)) ?_
  rintro eu ek ⟨bu,rfl,ae,a7⟩
  refine⟨_,rfl,ae,?_⟩
  have bv:=ae.size
  have b1:=b0.trans ae
  have a8:=az.ext o1 ae
  refine Aw (v:=a0) c Bn AU Z Z a1.isSl Z sD Ac ?_
  refine Lc o1 (v:=a0) (u:=bu) (w:=ek) KS Z Z a8 (Bl a7.isSl) (by rw[z6,ar];exact sD) Ac fun el ew am ct b2 bw=>?_
  have bx:AB w el:=am.below b1 (fun c hc=>Aa (A9 _) (b2 c hc).1) b1.size
  have bz:=am.size
  have c0:=a7.chg (o1) am fun c hc=>zH<|b2 c hc
  have c1:=bw.rot o1 [] (c:=c) (p:=p) sD sD (by rw[bq]) c0 oM b0.size
  refine Ai<|qS [0] Z ?_
  have hD:Sh Nm 0 a.length (a.length+1) (Gq nA c p M):=hSM.div Ph oM oM oM
  have hlD:=hD.len
  refine Ae 1 Z<|A5<|AQ (S:=Nat) (fun i=>([(10,zI (i:Int)),(5,a0),(7,zI (c:Int))])) (fun i W=>AB w W∧Fr (AY (AY rI 2) 27) w.heap.size W.heap.size W.heap a0 (CK i (Cq nA a.length c<|Gq nA c p M)<|Gq nA c p M)∧i≤a.length) (fun i=>a.length-i) 0 ⟨rfl,rfl,rfl,trivial⟩ ⟨bx,(by rw[D8,← oB oM oM];exact c1.up o2),sD⟩ ?_
  clear a1 ad ba bb bf bj az bs cs ay b0 bt a7 ae bv b1 a8 bw b2 ct am bx bz c0 c1
  rintro i ρ23 em ⟨af,a2,cu⟩
  have dl:w.heap.size≤em.heap.size:=af.size
  have hlr:=Ur (R:=nA) (c:=c) hlD i
  refine A0<|qS [0,0,0,0] Z<|Af 2 Z<|AN (v:=a0) Bn Z a2.isSl Ac ?_
  by_cases c2:(i:Int)<(((CK i (Cq nA a.length c (Gq nA c p M)) (Gq nA c p M)).length:Nat):Int)
  ·refine Ay true Z Z (A7 c2) Ac<|Ai<|Ag Z<|A4<|A0<|A5<|qS [0,0,0] Z<|Af 2 Z ?_
   by_cases c3:(i:Int)≠(c:Int)
   ·refine B4 true Z Z (A7 c3) Ac<|Ai<|Ag Z<|AW _ [0,0,0,1,0,0,0,1,0,0,0,1,0,0,1,4] mixed (by kernel_rfl) ?_
    have hrI:=OH Ph hD (c:=c) oM oM (show i≤a.length by omega) (show i<a.length by omega)
    have hrC:=OH Ph hD (c:=c) oM oM (show i≤a.length by omega) (show c<a.length by omega)
    have hrIl:=hrI.len
    have hrCl:=hrC.len
    refine Af 2 Z<|Aw (v:=a0) i Bn AU Z Z a2.isSl Z sD Ac ?_
    obtain⟨c4,c5,cv⟩:=a2.rd2.get (k:=i) [] sD
    have dm:=cv.lenle
    refine Al (p:=Ax a0 i 1) (.inl Z) c4 B7 Z c5 Ac<|Af 2 Z<|Aw (v:=a0) c Bn AU Z Z a2.isSl Z sD Ac ?_
    obtain⟨c6,c7,cw⟩:=a2.rd2.get (k:=c) [] sD
    have dn:=cw.lenle
    refine Al (p:=Ax a0 c 1) (.inl Z) c6 B7 Z c7 Ac<|Af 2 Z<|Aw (v:=a0) i Bn AU Z Z a2.isSl Z sD Ac ?_
    obtain⟨b3,cx,an⟩:=a2.rd2.get (k:=i) [] sD
    have dp:=an.lenle
    refine Al (p:=Ax a0 i 1) (.inl Z) b3 B7 Z cx Ac<|Af 1 Z<|Aw (v:=b3) c Bm BM Z Z an.isSl Z sD Ac ?_
    refine Al (p:=Ax b3 c 1) (.inl Z) (zI<|((CK i (Cq nA a.length c<|Gq nA c p M)<|Gq nA c p M).getD i []).getD c 0) AO Z (an.getI sD).1 Ac ?_
    obtain⟨G29,cy,cz,c8,d0,d1⟩:=a2.row_two o1 [] sD c5
    refine AE 162 [] [] [c4,c6,zI<|((CK i (Cq nA a.length c<|Gq nA c p M)<|Gq nA c p M).getD i []).getD c 0] Z Z dU Ac (IR _ _ _ _ _ _ _ cy cz (fun w2 h2=>(d1 _ _ oM sD c7 w2 h2.of_drew).imp fun C h=>h.rd id) (an.getI sD).2 (by have:=hrI.len;have:=hrC.len;omega) (by exact Qs hrI) (by exact Qs hrC) (by exact hrI.val c oM)) ?_
    rintro ex en ⟨rfl,ag,d2⟩
    replace ag:=ag.of_drew
    refine⟨_,rfl,?_⟩
    have d3:AB w en:=ag.below af (fun b hb=>Aa (A9 _) (c8 b hb).1) af.size
    have e9:=c8
    have c9:=d0 ag d2
    have dq:=ag.size
    refine Ai<|Ad _ [0,0,0] Z<|Af 1 Z<|AG ((i+1:Nat):Int) Z Z (Bd oM sD) Ac<|Ae 1 Z ?_
    exact⟨i+1,_,rfl,zR,⟨d3,(by first|(rw[← QA hlD oM oM oM];exact c9.up o2)|(rw[JY hlD oM oM];exact c9.up o2)),sD⟩,zD⟩
   refine B4 false Z Z (A8 c3) Ac<|Ai<|Aj Z<|A4<|Ad _ [0,0,0] Z<|Af 1 Z<|AG ((i+1:Nat):Int) Z Z (Bd oM sD) Ac<|Ae 1 Z ?_
   exact⟨i+1,_,rfl,zR,⟨af,(by first|(rw[← QA hlD oM oM oM];exact a2.up o2)|(rw[JY hlD oM oM];exact a2.up o2)),sD⟩,zD⟩
  refine Ay false Z Z (A8 c2) Ac<|Ai<|Aj Z<|A6<|Au<|Au<|An<|Ad _ [0,0,0] Z<|Af 1 Z<|AG ((c+1:Nat):Int) Z Z (Bd oM sD) Ac<|Ae 1 Z ?_
  exact⟨(c+1,CK i (Cq nA a.length c (Gq nA c p M)) (Gq nA c p M)),_,rfl,⟨rfl,rfl,trivial⟩,⟨af,(by have h:=a2.up o2;exact h),sD,(by rw[DS (by simp[Cq,hlD]) oM];exact hD.rows Ph oM oM),(by rw[DS (by simp[Cq,hlD]) oM];exact DZ (by have h:=Qw hJ.out oM (by rw[← hpe];omega);rw[← hpe]at h;exact h))⟩,zD⟩
 refine Ay false Z Z (A8 b9) Ac<|Ai<|Aj Z<|A6<|Au<|Au<|An<|qS [3,0] Z (BS (rI) AS Bm BM Ac fun eo ey ao d4 ca=>?_)
 have cb:=ao.size
 have cc:=a9.trans ao
 have a6:=a3.ext (o2) ao
 refine Ae 1 Z<|A0<|qT Z<|A5 ?_
 have hsome:=Ta hJ.out oM
 refine AQ (S:=Nat×Value) (fun⟨k,vo⟩=>([(11,vo),(12,zI (k:Int)),(5,a0)])) (fun⟨k,vo⟩ W=>AB w W∧Fr (AY rI 2) ee.heap.size W.heap.size W.heap vo ((M.take k).map fun r=>r.getD a.length 0)∧Fr (AY (AY rI 2) 27) w.heap.size ee.heap.size W.heap a0 M∧k≤a.length∧ee.heap.size≤W.heap.size) (fun⟨k,vo⟩=>a.length-k) (0,eo) ⟨rfl,rfl,rfl,trivial⟩ ⟨cc,ca.up o1,a6,sD,oM⟩ ?_
 clear a3 ca d4 ao cb cc a6
 rintro⟨k,vo⟩ ρ31 ef ⟨b4,ah,a4,d5,dr⟩
 have ds:w.heap.size≤ef.heap.size:=b4.size
 refine A0<|qS [0,0,0,0] Z<|Af 2 Z<|AN (v:=a0) Bn Z a4.isSl Ac ?_
 by_cases cd:(k:Int)<(M.length:Int)
 ·refine Ay true Z Z (A7 cd) Ac<|Ai<|Ag Z<|A4<|A0<|A5<|Ad _ [0,0,0,0,2,0,0,0,2,3,4,0] Z ?_
  have hrk:=(hSM.row k oM).len
  refine Af 3 Z<|Aw (v:=a0) k Bn AU Z Z a4.isSl Z sD Ac ?_
  obtain⟨b5,ce,ai⟩:=a4.rd2.get (k:=k) [] sD
  have dt:=ai.lenle
  refine Al (p:=Ax a0 k 1) (.inr Z) b5 B7 Z ce Ac<|Af 1 Z<|AN (v:=a0) Bn Z a4.isSl Ac<|Aw (v:=b5) M.length Bm BM Z Z ai.isSl Z sD Ac ?_
  refine Al (p:=Ax b5 M.length 1) (.inr Z) (zI<|(M.getD k []).getD M.length 0) AO Z (ai.getI sD).1 Ac ?_
  refine Bs (u:=zI<|(M.getD k []).getD M.length 0) (B:=ef.heap.size) AS Bm BM Z Z (Mf ef.heap.size ef.heap.size _ _ (ai.getI sD).2) (A9 _) Ac fun ep ez aa ea cf=>?_
  have du:=aa.size
  have cg:=b4.trans aa
  have ab:=ah.ext (o1) aa
  have ac:=a4.ext (o2) aa
  have ci:=ai.ext g1 aa
  have dv:=AR aa ce
  refine Ey (v:=vo) (a:=ep) Bm BM Z Z Z ab oM cf.rd1 sD (by unfold maxLen;first|omega|assumption|(simp;done)|(simp;omega)) Ac fun er es f1 ap b6 d6=>?_
  have d7:AB w es:=ap.below cg (fun c hc=>Aa a9.size (b6 c hc).1) cg.size
  have dw:=ap.size
  have d8:=ac.chg (o2) ap fun c hc=>zH<|b6 c hc
  have eb:=cf.chg (o1) ap fun c hc=>zH<|b6 c hc
  refine Ae 1 Z<|Ad _ [0,0,0] Z<|Af 1 Z<|AG ((k+1:Nat):Int) Z Z (Bd oM sD) Ac<|Ae 1 Z ?_
  exact⟨(k+1,er),_,rfl,zR,⟨d7,(by have h:=d6.up o1;rw[hlM]at h;rw[Dq [] oM];exact h),d8,sD,oM⟩,zD⟩
 exact Ay false Z Z (A8 cd) Ac<|Ai<|Aj Z<|A6<|Au<|Au<|An<|qS [0,0] Z<|Ae 2 Z<|A3<|Ah [4] Z vo Z ⟨vo,rfl,b4,(by have h:=(ah.up o1).low a9.size;rw[za oM]at h;rw[Pq hsome];exact h)⟩
theorem NY (w:World)(n:Nat)(k:Int)(_hn:n≤1000000000000)(_hk:BI k)(hn:n≤1000)(hk:0≤k∧k<(n:Int)) :
  Calls Tryz.prog 160 #[zI (n:Int),zI k] w (fun e w'=>∃v0:Value,e=.returned (v0)∧AB w w'∧Fr (AY rI 2) w.heap.size w'.heap.size w'.heap v0 (uN n k.toNat)):=by
 refine At [zI (n:Int),zI k] 12 Tryz.func160 Z Z sM ?_
 have a4:AB w w:=AB.refl w
 refine qT Z<|qS [0,3,0] Z<|Af 1 Z (FM (n:=n) Bm BM Z Z Z sD Ac fun v1 w1 a0 aa a1=>?_)
 have a5:=a0.size
 have a2:=a4.trans a0
 refine Ae 1 Z<|qS [0,0,0,4] Z<|Af 2 Z<|Aw (v:=v1) ((k).toNat) Bm BM Z Z a1.isSl oM sD Ac ?_
 refine EV (v:=v1) (w:=w1) I0 Z Z oM a1 sD Ac fun w2 F2 a3 ab a6 a7=>?_
 have a8:AB w w2:=a3.below a2 (fun c hc=>Aa (A9 _) (a6 c hc).1) a2.size
 have a9:=a3.size
 exact Ai<|qS [0,0] Z<|Ae 2 Z<|A3<|Ah [4] Z v1 Z ⟨v1,rfl,a8,(by exact a7.up o1)⟩
theorem Oo (w:World)(vy:Value)(y:List (Sr))(By Uy:Nat)(m:Nat)(hy:Fr (AY (AY rI 2) 27) By Uy w.heap vy y)(hUy:Uy≤w.heap.size)(_hm:m≤1000000000000)(hml:∀k,k<y.length→m≤(y.getD k []).length∧(y.getD k []).length≤1000000)(hyl:y.length≤1000000) :
  Calls Tryz.prog 82 #[vy,zI (m:Int)] w (fun e w'=>∃v0:Value,e=.returned (v0)∧AB w w'∧Fr (AY (AY rI 2) 27) w.heap.size w'.heap.size w'.heap v0 (y.map (CC m))):=by
 refine At [vy,zI (m:Int)] 25 Tryz.func82 Z Z sM ?_
 have av:AB w w:=AB.refl w
 refine qT Z<|qS [3,0] Z (BS (AY rI 2) o1 Bn AU Ac fun v1 w1 ae b2 aw=>?_)
 have ah:=ae.size
 have ax:=av.trans ae
 have ai:=hy.ext (o2) ae
 refine Ae 1 Z<|A0<|qT Z<|A5 ?_
 refine AQ (S:=Nat×Value) (fun⟨k,vo⟩=>([(5,vo),(6,zI (k:Int)),(0,vy),(1,zI (m:Int))])) (fun⟨k,vo⟩ W=>AB w W∧Fr (AY (AY rI 2) 27) w.heap.size W.heap.size W.heap vo ((y.take k).map<|CC m)∧Fr (AY (AY rI 2) 27) By Uy W.heap vy y∧k≤y.length) (fun⟨k,vo⟩=>y.length-k) (0,v1) ⟨rfl,rfl,rfl,rfl,trivial⟩ ⟨ax,aw.up o2,ai,sD⟩ ?_
 clear av aw b2 ae ah ax
 rintro⟨k,vo⟩ ρ2 w2 ⟨af,a5,a0,ay⟩
 have b3:w.heap.size≤w2.heap.size:=af.size
 refine A0<|qS [0,0,0,0] Z<|Af 2 Z<|AN (v:=vy) Bn Z a0.isSl Ac ?_
 by_cases az:(k:Int)<(y.length:Int)
 ·refine Ay true Z Z (A7 az) Ac<|Ai<|Ag Z<|A4<|A0<|A5<|Ad _ [0,0,0,0,2,0,0,3,3,4,0] Z ?_
  have hmk:=hml k oM
  refine Af 3 Z<|Aw (v:=vy) k Bn AU Z Z a0.isSl Z sD Ac ?_
  obtain⟨aj,ak,ag⟩:=a0.rd2.get (k:=k) [] sD
  have b4:=ag.lenle
  refine Al (p:=Ax vy k 1) (.inr Z) aj B7 Z ak Ac<|Af 1 Z ?_
  have al:=Fr.rowCap o1 a0 sD ak
  have aa:=Rd.pref (k:=m) ag sD
  refine Vf (v:=aj) (k:=m) Bm BM Z ag.isSl al Z sD Ac<|As 143 [] [] [MP aj m] Z Z TZ Ac (Fy _ _ _ aa (by rw[List.length_take];omega)) ?_
  rintro e6 w6 ⟨am,rfl,a6,ab⟩
  refine⟨_,rfl,a6,?_⟩
  have b5:=a6.size
  have b6:=af.trans a6
  have a1:=a5.ext (o2) a6
  have a2:=a0.ext (o2) a6
  have ac:=ag.ext g1 a6
  have an:=AR a6 ak
  have a7:=aa.ext g1 a6
  refine Bs (u:=am) (B:=w2.heap.size) o1 Bn AU Z Z ab (by first|exact A9 _|omega) Ac fun v8 w8 a8 ba b7=>?_
  have b8:=a8.size
  have ao:=b6.trans a8
  have a3:=a1.ext (o2) a8
  have a4:=a2.ext (o2) a8
  have b0:=ac.ext g1 a8
  have b9:=AR a8 an
  have ap:=a7.ext g1 a8
  refine Ez o1 (v:=vo) (a:=v8) Bn AU Z Z Z a3 ao.size b7 oM af.size sD (by unfold maxLen;first|omega|assumption|(simp;done)|(simp;omega)) Ac fun bc bb bd a9 ad aq=>?_
  have ar:AB w bb:=a9.below ao (fun c hc=>Aa (A9 _) (ad c hc).1) ao.size
  have b1:w8.heap.size≤bb.heap.size:=a9.size
  have au:=a4.chg (o2) a9 fun c hc=>zH<|ad c hc
  refine Ae 1 Z<|Ad _ [0,0,0] Z<|Af 1 Z<|AG ((k+1:Nat):Int) Z Z (Bd oM sD) Ac<|Ae 1 Z ?_
  exact⟨(k+1,bc),_,rfl,zR,⟨ar,(by rw[Dq [] oM];exact aq.up o2),au,sD⟩,zD⟩
 exact Ay false Z Z (A8 az) Ac<|Ai<|Aj Z<|A6<|Au<|Au<|An<|qS [0,0] Z<|Ae 2 Z<|A3<|Ah [4] Z vo Z ⟨vo,rfl,af,(by have h:=a5.up o2;rwa [za oM]at h)⟩
theorem Ug {p:Prop}(h:p:=by first|exact B5 (eQ oM)|exact B5 (pG oM (GL (by assumption)))|exact B5 (pH oM oM)|exact B5 (pI oM (ES (by assumption)) oM)):p:=h
theorem OZ {p:Prop}(h:p:=by simp[Dd,FU]):p:=h
theorem Kj (w:World)(dp:Nat)(vp:Value)(p:List Fn)(f:Int)(hp:RN [] (rP (LS dp)) w.heap vp p)(_hf:BI f)(hz:Px p) :
  Calls Tryz.prog 72 #[vp,zI f] w (fun e w'=>e=.returned (zI (Gg p f D2))∧AB w w'):=by
 refine At [vp,zI f] 45 Tryz.func72 Z Z sM ?_
 have a9:AB w w:=AB.refl w
 refine qT Z<|qS [0,0,3,0] Z<|Af 2 Z<|As 156 [] [] [vp,zI f] Z Z lF Ac (Mb _ dp vp (p) _ (hp.ext (Bf<|B2 dp) a9) _hf hz) ?_
 rintro e1 w1 ⟨rfl,a5⟩
 refine⟨_,rfl,a5,?_⟩
 have ad:=a5.size
 have a0:=a9.trans a5
 refine Ae 1 Z<|A0<|A0<|AW _ [0,0,0,0,0,0,1,0,0,0,1,0,0,0,0,0,0,1,0,0,0,1,0,0,0,0,1,0,0,0,1,0,0,0,0] mixed (by kernel_rfl)<|Af 1 Z ?_
 by_cases aa:Jz p f=((0:Nat):Int)
 ·refine Av true Z Z (A7 aa) Ac<|Af 2 Z ?_
  have ae:=Xn (p:=p) (f:=f) oM
  have hpq:=(Fu ae.1).par f.toNat oM
  refine AV (hp.isPtr) Z (Ak (e:=11) Z Z Z) ?_
  obtain⟨cs3,af,a2⟩:=RN.at (B2 _) hp
  obtain⟨a1,rfl,a4⟩:=RPr.of af
  have a6:=a4.lenle
  unfold maxLen at a6
  refine AP (p:=vp) 0 BQ Z (a2 _<|Az.of_ext [] a0.drew) (Ak (e:=11) Z Z Z)<|Al (p:=AA vp 0) (.inl Z) a1 Cr Z ((a2 _<|Az.of_ext [] a0.drew).ld (i:=0) OZ) (Ak (e:=11) Z Z Z)<|Af 1 Z<|Aw (v:=a1) ((f).toNat) H6 CM Z Z a4.isSl oM sD (Ak (e:=11) Z Z Z) ?_
  obtain⟨cs4,ag,a3⟩:=a4.get (AC dp) Fn.zero (k:=(f).toNat) sD
  obtain⟨ab,rfl,a7⟩:=RF.of ag
  have a8:=a7.rn.lenle
  unfold maxLen at a8
  refine AP (p:=Ax a1 ((f).toNat) 3) 1 CG Z (a3 _<|Az.of_ext [] a0.drew) (Ak (e:=11) Z Z Z)<|Al (p:=AA (Ax a1 ((f).toNat) 3) 1) (.inl Z) (zI<|(p.getD ((f).toNat) Fn.zero).params) AO Z ((a3 _<|Az.of_ext [] a0.drew).ld (i:=1) OZ) (Ak (e:=11) Z Z Z)<|AD 74 [] [] [zI<|(p.getD ((f).toNat) Fn.zero).params,zI ((2:Nat):Int),zI ((7:Nat):Int)] Z Z Jl (Ak (e:=11) Z Z Z) (.bool (decide (((2:Nat):Int)≤((p.getD ((f).toNat) Fn.zero).params)) && decide (((p.getD ((f).toNat) Fn.zero).params)≤((7:Nat):Int)))) (fun wq=>BJ wq _ _ _ a7.rng oM oM) ?_
  refine BH (!(decide (((2:Nat):Int)≤((p.getD ((f).toNat) Fn.zero).params)) && decide (((p.getD ((f).toNat) Fn.zero).params)≤((7:Nat):Int)))) Z Z (Ak (e:=11) Z Z Z)<|Af 1 Z ?_
  cases ah:(!(decide (((2:Nat):Int)≤((p.getD ((f).toNat) Fn.zero).params)) && decide (((p.getD ((f).toNat) Fn.zero).params)≤((7:Nat):Int))))
  ·refine Af 1 Z<|AV (hp.isPtr) Z (Ak (e:=22) Z Z Z)<|AP (p:=vp) 0 BQ Z (a2 _<|Az.of_ext [] a0.drew) (Ak (e:=22) Z Z Z)<|Al (p:=AA vp 0) (.inl Z) a1 Cr Z ((a2 _<|Az.of_ext [] a0.drew).ld (i:=0) OZ) (Ak (e:=22) Z Z Z)<|Af 1 Z<|Aw (v:=a1) ((f).toNat) H6 CM Z Z a4.isSl oM sD (Ak (e:=22) Z Z Z) ?_
   refine AP (p:=Ax a1 ((f).toNat) 3) 2 Cn Z (a3 _<|Az.of_ext [] a0.drew) (Ak (e:=22) Z Z Z)<|Al (p:=AA (Ax a1 ((f).toNat) 3) 2) (.inl Z) ab BA Z ((a3 _<|Az.of_ext [] a0.drew).ld (i:=2) OZ) (Ak (e:=22) Z Z Z)<|AN (v:=ab) DE Z a7.rn.isSl (Ak (e:=22) Z Z Z)<|Af 1 Z<|AV (hp.isPtr) Z (Ak (e:=22) Z Z Z)<|AP (p:=vp) 0 BQ Z (a2 _<|Az.of_ext [] a0.drew) (Ak (e:=22) Z Z Z)<|Al (p:=AA vp 0) (.inl Z) a1 Cr Z ((a2 _<|Az.of_ext [] a0.drew).ld (i:=0) OZ) (Ak (e:=22) Z Z Z)<|Af 1 Z ?_
   refine Aw (v:=a1) ((f).toNat) H6 CM Z Z a4.isSl oM sD (Ak (e:=22) Z Z Z)<|AP (p:=Ax a1 ((f).toNat) 3) 1 CG Z (a3 _<|Az.of_ext [] a0.drew) (Ak (e:=22) Z Z Z)<|Al (p:=AA (Ax a1 ((f).toNat) 3) 1) (.inl Z) (zI<|(p.getD ((f).toNat) Fn.zero).params) AO Z ((a3 _<|Az.of_ext [] a0.drew).ld (i:=1) OZ) (Ak (e:=22) Z Z Z) ?_
   refine Cb ((p.getD f.toNat Fn.zero).params-1) Z Z (Dh oM oM) (Ak (e:=22) Z Z Z) ?_
   by_cases ac:((((p.getD ((f).toNat) Fn.zero).outs).length:Nat):Int)≠(p.getD f.toNat Fn.zero).params-1
   ·exact B4 true Z Z (A7 ac) (Ak (e:=22) Z Z Z)<|Ae 2 Z<|Ag Z<|Ad _ [0] Z<|Ae 1 Z<|qS [0,0] Z<|Ae 2 Z<|A3<|Ah [4] Z (zI ((2:Nat):Int)) Z ⟨Ug,a0.drew⟩
   exact B4 false Z Z (A8 ac) (Ak (e:=22) Z Z Z)<|Ae 2 Z<|Aj Z<|A4<|qS [0,0] Z<|Ae 2 Z<|A3<|Ah [4] Z (zI<|Jz p f) Z ⟨Ug,a0.drew⟩
  exact Ae 21 Z<|Ag Z<|Ad _ [0] Z<|Ae 1 Z<|qS [0,0] Z<|Ae 2 Z<|A3<|Ah [4] Z (zI ((2:Nat):Int)) Z ⟨Ug,a0.drew⟩
 exact Av false Z Z (A8 aa) Ac<|Ae 33 Z<|Aj Z<|A4<|qS [0,0] Z<|Ae 2 Z<|A3<|Ah [4] Z (zI<|Jz p f) Z ⟨Ug,a0.drew⟩
theorem NZ (w:World)(n:Nat)(_hn:n≤1000000000000)(hn:1≤n∧n≤13) :
  Calls Tryz.prog 164 #[zI (n:Int)] w (fun e w'=>∃v0:Value,e=.returned (v0)∧AB w w'∧Fr (AY rI 2) w.heap.size w'.heap.size w'.heap v0 (PM n)):=by
 refine At [zI (n:Int)] 11 Tryz.func164 Z Z sM ?_
 have a6:AB w w:=AB.refl w
 refine qT Z<|qS [0,3,0] Z<|Af 1 Z<|As 79 [] [] [zI ((0:Nat):Int),zI (n:Int)] Z Z UN Ac (CW _ _ (n) oM sD oM) ?_
 rintro e1 w1 ⟨a0,rfl,a2,a1⟩
 refine⟨_,rfl,a2,?_⟩
 have a7:=a2.size
 have a3:=a6.trans a2
 refine Ae 1 Z<|A0<|qS [0,0] Z<|Af 1 Z ?_
 by_cases a4:((1:Nat):Int)<(n:Int)
 ·refine C9 true Z Z (A7 a4) Ac<|Ai<|Ag Z<|Ad _ [0,0,4] Z<|Af 1 Z<|Aw (v:=a0) 1 Bm BM Z Z a1.isSl Z (by first|omega|(rw[G7];omega)|(simp;omega)) Ac (EV (v:=a0) (w:=w1) I0 Z Z oM a1 (by first|omega|(rw[G7];omega)|(simp;omega)) Ac fun w3 F3 a5 ac a8 a9=>?_)
  have aa:AB w w3:=a5.below a3 (fun c hc=>Aa (A9 _) (a8 c hc).1) a3.size
  have ab:w1.heap.size≤w3.heap.size:=a5.size
  exact Ai<|qS [0,0] Z<|Ae 2 Z<|A3<|Ah [2] Z a0 Z ⟨a0,rfl,aa,(by have h:=a9.up o1;unfold PM;first|(rw[show cst n ((0:Nat):Int)=List.replicate n 0 from PN n]at h;exact h)|(rw[show cst n ((0:Nat):Int)=List.replicate n 0 from PN n]at h;rw[show n=1 from by omega]at h ⊢;exact h))⟩
 exact C9 false Z Z (A8 a4) Ac<|Ai<|Aj Z<|A4<|qS [0,0] Z<|Ae 2 Z<|A3<|Ah [2] Z a0 Z ⟨a0,rfl,a3,(by have h:=a1.up o1;unfold PM;first|(rw[show cst n ((0:Nat):Int)=List.replicate n 0 from PN n]at h;exact h)|(rw[show cst n ((0:Nat):Int)=List.replicate n 0 from PN n]at h;rw[show n=1 from by omega]at h ⊢;exact h))⟩
theorem O0 (w:World)(vy:Value)(y:List (Sr))(hy:RN [] (B3 (B3 rI)) w.heap vy y)(hqy:Cj vy)(hyb:0<y.length∧y.length≤1000)(hr:1≤(y.getD 0 []).length∧(y.getD 0 []).length≤13) :
  Calls Tryz.prog 81 #[vy] w (fun e w'=>∃v0:Value,e=.returned v0∧AB w w'∧RN [] (B3 (B3 rI)) w'.heap v0 (Cc y)∧Cj v0):=by
 refine At [vy] 25 Tryz.func81 Z Z sM ?_
 have a9:AB w w:=AB.refl w
 have b8:=hy.lenL
 unfold maxLen at b8
 have hS:∀b∈([]:List Nat),b<w.heap.size:=fun b hb=>by cases hb
 refine qT Z<|qS [0,0,2,0,3,3,0] Z<|Af 1 Z<|Aw (v:=vy) 0 Bn AU Z Z hy.slL Z sD Ac ?_
 obtain⟨ak,aw,al⟩:=RN.getL (w:=w) g1 [] (k:=0) hy sD
 have a4:=al.lenL
 unfold maxLen at a4
 refine Al (p:=Ax vy 0 1) (.inr Z) ak B7 Z (aw _<|Az.of_ext [] a9) Ac<|AN (v:=ak) Bm Z al.slL Ac<|As 164 [] [] [zI (((y.getD 0 []).length:Nat):Int)] Z Z lJ Ac (NZ _ ((y.getD 0 []).length) sD oM) ?_
 rintro e2 w2 ⟨aa,rfl,a6,a0⟩
 refine⟨_,rfl,a6,?_⟩
 have ab:=a6.size
 have am:=a9.trans a6
 refine Bs (u:=aa) (B:=w2.heap.size) Bc Bn AU Z Z (LR w2.heap.size w2.heap.size _<|⟨(Bl a0.isSl).1,(Bl a0.isSl).2⟩) (A9 _) Ac fun v3 w3 a7 ax an=>?_
 have ac:=a7.size
 have ao:=am.trans a7
 have a1:=a0.ext (o1) a7
 obtain⟨BO,hBO⟩:∃b:Nat,b=w2.heap.size:=⟨_,rfl⟩
 have hwB:w.heap.size≤BO:=by omega
 obtain⟨b5,F4,ay⟩:=Ic.one an a1 oM
 rw[← hBO]at ay
 refine Ae 1 Z<|A0<|qT Z<|A5<|AQ (S:=Nat×Value) (fun⟨k,vo⟩=>([(3,vo),(4,zI (k:Int)),(0,vy)])) (fun⟨k,vo⟩ W=>AB w W∧k≤y.length∧w.heap.size≤BO∧BO≤W.heap.size∧Pa 27 [] BO W.heap vo (PM (y.getD 0 []).length::y.take k)) (fun⟨k,vo⟩=>y.length-k) (0,v3) ⟨rfl,rfl,rfl,trivial⟩ ⟨ao,oM,oM,oM,(by exact⟨_,_,by assumption⟩)⟩ ?_
 clear a9 a4 a0 a6 ab am an ax a7 ac ao a1
 rintro⟨k,vo⟩ ρ5 w5 ⟨a8,ap,aq,ar,hbld⟩
 have az:w.heap.size≤w5.heap.size:=a8.size
 have hpkl:(PM (y.getD 0 []).length::y.take k).length=k+1:=by rw[z9,List.length_take];omega
 obtain⟨b6,F6,a2⟩:=hbld
 have hFl:∀b∈F6,b<w5.heap.size:=a2.lt
 refine A0<|qS [0,0,0,0] Z<|Af 2 Z<|AN (v:=vy) Bn Z hy.slL Ac ?_
 by_cases au:(k:Int)<(y.length:Int)
 ·refine Ay true Z Z (A7 au) Ac<|Ai<|Ag Z<|A4<|A0<|A5<|Ad _ [0,0,0,0,2,3,4,0] Z<|Af 3 Z<|Aw (v:=vy) k Bn AU Z Z hy.slL Z sD Ac ?_
  obtain⟨ad,b0,ae⟩:=RN.getL (w:=w) g1 [] (k:=k) hy sD
  have af:=ae.lenL
  unfold maxLen at af
  refine Al (p:=Ax vy k 1) (.inr Z) ad B7 Z (b0 _<|Az.of_ext [] a8) Ac (Bs (u:=ad) (B:=w5.heap.size) Bc Bn AU Z Z (LR w5.heap.size w5.heap.size _<|ae.one1 g1) (A9 _) Ac fun v9 w9 ag b7 b1=>?_)
  have b2:=ag.size
  have ah:=a8.trans ag
  have a3:=a2.ext ag
  refine Ei (v:=vo) (a:=v9) (u:=ad) Bn AU Z Z Z a3 oM b1 (RN.stp g1 ae (Az.of_ext [] ah) fun b hb=>.inr (zH<|a3.low b (by simpa using hb))) sD (by unfold maxLen;first|omega|assumption|(simp;done)|(simp;omega)) Ac ?_
  rintro ba b9 G11 a5 ai ⟨b3,bb,b4⟩
  have av:w9.heap.size≤b9.heap.size:=a5.size
  have aj:AB w b9:=a5.below ah (fun c hc=>Aa hwB (a3.low c (ai c hc))) ah.size
  exact Ae 1 Z<|Ad _ [0,0,0] Z<|Af 1 Z<|AG ((k+1:Nat):Int) Z Z (Bd oM sD) Ac<|Ae 1 Z ⟨(k+1,ba),_,rfl,zR,⟨aj,oM,oM,oM,(by rw[← Y0 oM];exact⟨_,_,by assumption⟩)⟩,zD⟩
 exact Ay false Z Z (A8 au) Ac<|Ai<|Aj Z<|A6<|Au<|Au<|An<|qS [0,0] Z<|Ae 2 Z<|A3<|Ah [2] Z vo Z ⟨_,rfl,a8,(by have h9:=(a2.done fun b hb=>absurd hb z2);rw[za oM]at h9;exact h9),a2.cap⟩
theorem Fi {p:Prop}(h:p:=by first|omega|assumption|(simp only[zb,z9,z4,z6,z5,G7];omega)|(simp[zb,z9,z4,z6,z5,G7];done)|(simp[zb,z9,z4,z6,z5,G7];omega)):p:=h
theorem O1 (w:World)(va:Value)(a:Sr)(vd:Value)(d:Sr)(o:Int)(ha:Rd (B3 rI) w.heap va a)(hd:Rd (B3 rI) w.heap vd d)(_ho:BI o)(ho:o=1)(hld:d.length=a.length)(hla:a.length≤1000000) :
  Calls Tryz.prog 222 #[va,vd,zI o] w (fun e w'=>∃v0:Value,e=.returned (v0)∧AB w w'∧Fr (AY (AY rI 2) 27) w.heap.size w'.heap.size w'.heap v0 (GK a d 2)):=by
 refine At [va,vd,zI o] 37 Tryz.func222 Z Z sM ?_
 have ad:AB w w:=AB.refl w
 have b1:=ha.lenle
 have b2:=hd.lenle
 refine qT Z<|qS [3,0] Z (BS (AY rI 2) o1 Bn AU Ac fun v1 w1 a7 aj ae=>?_)
 have a8:=a7.size
 have hE1:=ad.trans a7
 refine Ae 1 Z<|A0<|qT Z<|A5 ?_
 refine AQ (S:=Nat×Value) (fun⟨k,vo⟩=>([(7,vo),(8,zI (k:Int)),(0,va),(1,vd),(2,zI o)])) (fun⟨k,vo⟩ W=>AB w W∧Fr (AY (AY rI 2) 27) w.heap.size W.heap.size W.heap vo ((GK a d 2).take k)∧k≤a.length) (fun⟨k,vo⟩=>a.length-k) (0,v1) ⟨rfl,rfl,rfl,rfl,rfl,trivial⟩ ⟨hE1,ae.up o2,Fi⟩ ?_
 clear ad ae aj a7 a8 hE1
 rintro⟨k,vo⟩ ρ2 w2 ⟨a4,a1,af⟩
 have ak:w.heap.size≤w2.heap.size:=a4.size
 refine A0<|qS [0,0,0,0] Z<|Af 2 Z<|AN (v:=va) Bm Z ha.isSl Ac ?_
 by_cases ag:(k:Int)<(a.length:Int)
 ·refine Ay true Z Z (A7 ag) Ac<|Ai<|Ag Z<|A4<|A0<|A5<|qS [0,0,0,2,0,0,3,0] Z<|Af 2 Z<|Aw (v:=va) k Bm BM Z Z ha.isSl Z Fi Ac ?_
  refine Al (p:=Ax va k 1) (.inr Z) (zI<|a.getD k 0) AO Z (AR a4 (ha.getI Fi).1) Ac<|Af 1 Z<|AG ((o.toNat+1:Nat):Int) Z Z (by rw[Dh oM oM];omega) Ac ?_
  refine As 79 [] [] [zI<|a.getD k 0,zI ((o.toNat+1:Nat):Int)] Z Z UN Ac (CW _ _ (o.toNat+1) (ha.getI Fi).2 Fi oM) ?_
  rintro e4 w4 ⟨a3,rfl,a6,a2⟩
  refine⟨_,rfl,a6,?_⟩
  have al:=a6.size
  have a9:=a4.trans a6
  have a0:=a1.ext (o2) a6
  refine Ae 1 Z<|A0<|qS [0,0] Z<|Af 1 Z ?_
  have am:((0:Nat):Int)<o:=oM
  refine C9 true Z Z (A7 am) Ac<|Ai<|Ag Z<|Ad _ [0,0,0,0,2,0,4] Z<|Af 3 Z<|Aw (v:=vd) k Bm BM Z Z hd.isSl Z Fi Ac ?_
  refine Al (p:=Ax vd k 1) (.inr Z) (zI<|d.getD k 0) AO Z (AR a9 (hd.getI Fi).1) Ac ?_
  refine Aw (v:=a3) 1 Bm BM Z Z a2.isSl Z Fi Ac ?_
  refine EV (v:=a3) (w:=w4) I0 Z Z (hd.getI Fi).2 a2 Fi Ac fun w6 F6 aa az ah an=>?_
  have ao:AB w w6:=aa.below a9 (fun c hc=>Aa a4.size (ah c hc).1) a9.size
  have ap:w4.heap.size≤w6.heap.size:=aa.size
  have aq:=a0.chg (o2) aa fun c hc=>zH<|ah c hc
  refine Ai<|Ad _ [0,0,3,4,0] Z<|Af 2 Z (Bs (u:=a3) (B:=w2.heap.size) o1 Bn AU Z Z an (by first|exact A9 _|omega) Ac fun v8 w8 ab b0 ar=>?_)
  have au:=ab.size
  have ac:=ao.trans ab
  have a5:=aq.ext (o2) ab
  refine Ez o1 (v:=vo) (a:=v8) Bn AU Z Z Z a5 ac.size ar oM a4.size Fi (by unfold maxLen;first|omega|assumption|(simp[G7];done)|(simp[G7];omega)) Ac fun v9 w9 F9 ai av aw=>?_
  have ax:AB w w9:=ai.below ac (fun c hc=>Aa (A9 _) (av c hc).1) ac.size
  have ay:w8.heap.size≤w9.heap.size:=ai.size
  refine Ae 1 Z<|Ad _ [0,0,0] Z<|Af 1 Z<|AG ((k+1:Nat):Int) Z Z (Bd oM Fi) Ac<|Ae 1 Z ?_
  exact⟨(k+1,v9),_,rfl,zR,⟨ax,(by rw[Cp [] (by simp;omega),Nj oM];have h:=aw.up o2;rw[show o.toNat+1=2 from by omega]at h;exact h),Fi⟩,zD⟩
 exact Ay false Z Z (A8 ag) Ac<|Ai<|Aj Z<|A6<|Au<|Au<|An<|qS [0,0] Z<|Ae 2 Z<|A3<|Ah [6] Z vo Z ⟨vo,rfl,a4,(by have h:=a1.up o2;rwa [za (by simp;omega)]at h)⟩
theorem LO (w:World)(dp:Nat)(vp:Value)(p:List Fn)(f:Int)(va:Value)(a:Sr)(vd:Value)(d:Sr)(o:Int)(hp:RN [] (rP (LS dp)) w.heap vp p)(_hf:BI f)(ha:Rd (B3 rI) w.heap va a)(hd:Rd (B3 rI) w.heap vd d)(_ho:BI o)(hvp:J2 p)(hf:0≤f∧f<(p.length:Int))(hl:(a.length:Int)=(p.getD f.toNat Fn.zero).params)(ho:o=1)(hld:d.length=a.length)(hna:B9 a=true)(hnd:B9 d=true) :
  Calls Tryz.prog 159 #[vp,zI f,va,vd,zI o] w (fun e w'=>∃v0:Value,e=.returned (.tuple #[v0,zI (H2 p (o.toNat+1) f.toNat (GK a d 2))])∧AB w w'∧Fr (AY (AY rI 2) 27) w.heap.size w'.heap.size w'.heap v0 (CS p (o.toNat+1) f.toNat (GK a d 2))∧ZK p (o.toNat+1) f.toNat (GK a d 2)):=by
 refine At [vp,zI f,va,vd,zI o] 23 Tryz.func159 Z Z sM ?_
 have a4:AB w w:=AB.refl w
 have ab:=ha.lenle
 have ac:=hd.lenle
 have ad:=hvp.par f.toNat oM
 refine qS [0,0] Z<|Ae 2 Z<|qS [0,0,0,0,0,3,0,0,3,0,0,0,0] Z<|Af 5 Z<|As 222 [] [] [va,vd,zI o] Z Z mA Ac (O1 _ _ _ _ _ _ (ha.ext g1 a4) (hd.ext g1 a4) _ho ho hld oM) ?_
 rintro e1 w1 ⟨a2,rfl,a5,a1⟩
 refine⟨_,rfl,a5,?_⟩
 have a8:=a5.size
 have hE1:=a4.trans a5
 refine Af 1 Z<|AG ((o.toNat+1:Nat):Int) Z Z (by rw[Dh oM oM];omega) Ac<|As 80 [] [] [vp,zI f,a2,zI ((o.toNat+1:Nat):Int)] Z Z kT Ac (IW _ dp vp (p) _ a2 (GK a d 2) (o.toNat+1) (hp.ext (Bf<|B2 dp) hE1) _hf (RN.of_fr2 a1 fun b hb=>by cases hb) a1.cap hvp oM (by rw[D4];exact hl) (by rw[show o.toNat+1=2 from by omega];exact HW hna hnd) oM) ?_
 rintro e2 w2 ⟨a0,rfl,a6,a3,a7⟩
 refine⟨_,rfl,a6,?_⟩
 have a9:=a6.size
 have aa:=hE1.trans a6
 exact AI (vs:=[a0,zI<|H2 p (o.toNat+1) f.toNat<|GK a d 2]) a0 Z Z Ac<|AI (vs:=[a0,zI<|H2 p (o.toNat+1) f.toNat<|GK a d 2]) (zI<|H2 p (o.toNat+1) f.toNat<|GK a d 2) Z Z Ac<|Ae 2 Z<|A3<|Ah [10,11] Z (.tuple #[a0,zI<|H2 p (o.toNat+1) f.toNat<|GK a d 2]) Z ⟨a0,rfl,aa,(a3.up o2).low hE1.size,(by assumption)⟩
theorem f5 {p:Prop}(h:p:=by first|(rw[if_neg oM];exact(hL10_0.up o2).low hE1.size)|(have h:=(hL10_0.up o2).low hE1.size;rw[if_pos oM];rw[show k=a.length from by omega,hNP.len oM]at h;exact h)):p:=h
theorem Uh {p:Prop}(h:p:=by first|(rw[hce];done)|(rw[← hce,show c=0 from by omega];rfl)):p:=h
theorem Kk (w:World)(dp:Nat)(vp:Value)(p:List Fn)(f:Int)(va:Value)(a:Sr)(hp:RN [] (rP (LS dp)) w.heap vp p)(_hf:BI f)(ha:Rd (B3 rI) w.heap va a)(hvp:J2 p)(hf:0≤f∧f<(p.length:Int))(hl:(a.length:Int)=(p.getD f.toNat Fn.zero).params)(hna:B9 a=true) :
  Calls Tryz.prog 76 #[vp,zI f,va] w (fun e w'=>∃v0:Value,e=.returned (.tuple #[v0,zI (Et p f.toNat a)])∧AB w w'∧Fr (AY (AY rI 2) 27) w.heap.size w'.heap.size w'.heap v0 (if Et p f.toNat a=0 then S8 p f.toNat a (p.getD f.toNat Fn.zero).outs.length else [])∧(0≤Et p f.toNat a∧Et p f.toNat a≤9)):=by
 refine At [vp,zI f,va] 83 Tryz.func76 Z Z sM ?_
 have bo:AB w w:=AB.refl w
 have dk:=ha.lenle
 have dx:=hvp.par f.toNat oM
 have dy:=hvp.outs f.toNat oM
 have bp:=kP hvp (f:=f.toNat) oM hna hl
 refine qS [0,0] Z<|Ae 2 Z<|qS [0,0,0,3,0,0,0,0,0,0,0] Z<|Af 3 Z<|As 75 [] [] [vp,zI f,va] Z Z iI Ac (GE _ dp vp (p) _ _ _ (hp.ext (Bf<|B2 dp) bo) _hf (ha.ext g1 bo) hvp oM oM hna) ?_
 rintro e1 w1 ⟨a9,rfl,bq,ar,cd,ce⟩
 refine⟨_,rfl,bq,?_⟩
 have cy:=bq.size
 have hE1:=bo.trans bq
 refine Af 1 Z<|AI (vs:=[a9,zI ((Pw p 1 f.toNat (Cd a):Nat):Int),zI<|Et p f.toNat a]) a9 Z Z Ac<|AI (vs:=[a9,zI ((Pw p 1 f.toNat (Cd a):Nat):Int),zI<|Et p f.toNat a]) (zI ((Pw p 1 f.toNat (Cd a):Nat):Int)) Z Z Ac<|AI (vs:=[a9,zI ((Pw p 1 f.toNat (Cd a):Nat):Int),zI<|Et p f.toNat a]) (zI<|Et p f.toNat a) Z Z Ac<|Ae 3 Z<|qS [3,0] Z ?_
 have hNP:=‹gC p f.toNat a›
 have hvl:(Eq p f.toNat a).length≤1000:=by by_cases h9:Et p f.toNat a=0;(rw[hNP.len h9];omega);(rw[hNP.non h9];decide)
 refine BS (AY rI 2) o1 Bn AU Ac fun v2 w2 br cz cf=>?_
 have bx:=br.size
 have cg:=hE1.trans br
 have ac:=ar.ext (o1) br
 refine Ae 1 Z<|A0<|qT Z<|A5<|AQ (S:=Nat×Value) (fun⟨i,vo⟩=>([(11,vo),(12,zI (i:Int)),(0,vp),(1,zI f),(2,va),(8,a9),(10,zI<|Et p f.toNat a)])) (fun⟨i,vo⟩ W=>AB w W∧Fr (AY (AY rI 2) 27) w1.heap.size W.heap.size W.heap vo (List.replicate i [])∧Fr (AY rI 2) w.heap.size w1.heap.size W.heap a9 (Eq p f.toNat a)∧i≤(Eq p f.toNat a).length∧w1.heap.size≤W.heap.size) (fun⟨i,vo⟩=>(Eq p f.toNat a).length-i) (0,v2) ⟨rfl,rfl,rfl,rfl,rfl,rfl,rfl,trivial⟩ ⟨cg,cf.up o2,ac,oM,oM⟩ ?_
 clear bo ar bq cf cz br bx cg ac
 rintro⟨i,vo⟩ ρ3 w3 ⟨bs,ah,ai,ch,d0⟩
 have bz:w.heap.size≤w3.heap.size:=bs.size
 refine A0<|qS [0,0,0,0] Z<|Af 2 Z<|AN (v:=a9) Bm Z ai.isSl Ac ?_
 by_cases ci:(i:Int)<(((Eq p f.toNat a).length:Nat):Int)
 ·refine Ay true Z Z (A7 ci) Ac<|Ai<|Ag Z<|A4<|A0<|A5<|Ad _ [0,3,3,4,0] Z<|Af 1 Z (BS (rI) AS Bm BM Ac fun v6 w6 bt dg d1=>?_)
  have d2:=bt.size
  have d3:=bs.trans bt
  have al:=ah.ext (o2) bt
  have am:=ai.ext (o1) bt
  refine Bs (u:=v6) (B:=w3.heap.size) o1 Bn AU Z Z d1 (by first|exact A9 _|omega) Ac fun v7 w7 bu dh d4=>?_
  have d5:=bu.size
  have cj:=d3.trans bu
  have an:=al.ext (o2) bu
  have ao:=am.ext (o1) bu
  refine Ez o1 (v:=vo) (a:=v7) Bn AU Z Z Z an oM d4 oM oM sD (by unfold maxLen;first|omega|assumption|(simp;done)|(simp;omega)) Ac fun v8 w8 F8 c0 ck d6=>?_
  have d7:AB w w8:=c0.below cj (fun c hc=>Aa hE1.size (ck c hc).1) cj.size
  have d8:w7.heap.size≤w8.heap.size:=c0.size
  have d9:=ao.chg (o1) c0 fun c hc=>zH<|ck c hc
  exact Ae 1 Z<|Ad _ [0,0,0] Z<|Af 1 Z<|AG ((i+1:Nat):Int) Z Z (Bd oM sD) Ac<|Ae 1 Z ⟨(i+1,v8),_,rfl,zR,⟨d7,(by rw[List.replicate_succ'];exact d6.up o2),d9,oM,oM⟩,zD⟩
 refine Ay false Z Z (A8 ci) Ac<|Ai<|Aj Z<|A6<|Au<|Au<|An<|A0<|qT Z<|A5 ?_
 refine AQ (S:=Nat×Int) (fun⟨k,c⟩=>([(10,zI c),(13,zI (k:Int)),(0,vp),(1,zI f),(2,va),(11,vo)])) (fun⟨k,c⟩ W=>AB w W∧Fr (AY (AY rI 2) 27) w1.heap.size W.heap.size W.heap vo (PG p f.toNat a (Eq p f.toNat a).length k)∧k≤a.length∧c=Et p f.toNat a∧w1.heap.size≤W.heap.size) (fun⟨k,c⟩=>a.length-k) (0,Et p f.toNat a) ⟨rfl,rfl,rfl,rfl,rfl,rfl,trivial⟩ ⟨bs,(by have h:=ah.up o2;rw[show i=(Eq p f.toNat a).length from by omega,← pA p f.toNat a]at h;exact h),oM,(by rfl),oM⟩ ?_
 clear ai ah bs bz
 rintro⟨k,c⟩ ρ10 ds ⟨a1,hL10_0,c1,hce,cl⟩
 have az:w.heap.size≤ds.heap.size:=a1.size
 refine A0<|qS [0,0,0,0,0,0,0,0] Z<|Af 2 Z<|AN (v:=va) Bm Z ha.isSl Ac ?_
 by_cases b0:(k:Int)<(a.length:Int)
 ·refine Ay true Z Z (A7 b0) Ac<|Af 2 Z ?_
  by_cases b1:c=((0:Nat):Int)
  ·refine Av true Z Z (A7 b1) (Ak (e:=39) Z Z Z)<|Ae 1 Z<|Ag Z<|A4<|A0<|A5<|qS [3,0] Z (BS (AY rI 2) o1 Bn AU Ac fun dz e0 ap c2 b2=>?_)
   have b3:=ap.size
   have b4:=a1.trans ap
   have a3:=hL10_0.ext (o2) ap
   refine Ae 1 Z<|qS [0,0,0,0,0,0,3,3,0,0,0,0,0] Z<|Af 4 Z<|AN (v:=va) Bm Z ha.isSl Ac<|Af 1 Z<|As 160 [] [] [zI (a.length:Int),zI (k:Int)] Z Z lI Ac (NY _ (a.length) _ sD oM oM oM) ?_
   rintro e2 dt ⟨b5,rfl,ae,aa⟩
   refine⟨_,rfl,ae,?_⟩
   have cm:=ae.size
   have au:=b4.trans ae
   have a4:=a3.ext (o2) ae
   have ad:=b2.ext (o2) ae
   refine As 159 [] [] [vp,zI f,va,b5,zI ((1:Nat):Int)] Z Z lH Ac (LO _ dp vp (p) _ _ _ _ _ _ (hp.ext (Bf<|B2 dp) au) _hf (ha.ext g1 au) aa.rd1 oM hvp oM oM (by rfl) (by simp[uN]) hna (by rw[TX];exact RW _ _)) ?_
   rintro e3 dm ⟨a0,rfl,ab,aj,c3⟩
   refine⟨_,rfl,ab,?_⟩
   have cn:=ab.size
   have c4:=au.trans ab
   have a5:=a4.ext (o2) ab
   have aq:=ad.ext (o2) ab
   have af:=aa.ext (o1) ab
   refine Af 1 Z<|AI (vs:=[a0,zI<|H2 p (((1:Nat):Int).toNat+1) f.toNat<|GK a (uN a.length (k:Int).toNat) 2]) a0 Z Z Ac<|AI (vs:=[a0,zI<|H2 p (((1:Nat):Int).toNat+1) f.toNat<|GK a (uN a.length (k:Int).toNat) 2]) (zI<|H2 p (((1:Nat):Int).toNat+1) f.toNat<|GK a (uN a.length (k:Int).toNat) 2) Z Z Ac<|Ae 2 Z<|qS [0] Z ?_
   have hEI:ZK p 2 f.toNat (GK a (uN a.length k) 2):=by assumption
   rw[TX]at hEI
   have hdi:kC p f.toNat a (eV a.length k)=Et p f.toNat a:=kD _ _ _ _
   have da:Et p f.toNat a=0:=by omega
   have hvK:=hNP.len da
   have hol:(QW p f.toNat a (eV a.length k)).length=(Eq p f.toNat a).length:=by rw[hvK];exact hEI.len (by show kC p f.toNat a (eV a.length k)=0;omega)
   have hos:=hEI.ser
   have b6:Fr (AY (AY rI 2) 27) dt.heap.size dm.heap.size dm.heap a0 (QW p f.toNat a (eV a.length k)):=by have h:=aj;rw[Int.toNat_natCast,TX]at h;exact h
   refine Ae 1 Z<|A5 ?_
   obtain⟨Xn19,kO19,kN19,kR19⟩:=id b6
   have kY19:=P8.of a5 oM kR19
   refine AQ (S:=Nat) (fun i=>([(15,zI (i:Int)),(0,vp),(1,zI f),(2,va),(10,zI<|H2 p (((1:Nat):Int).toNat+1) f.toNat<|GK a (uN a.length (k:Int).toNat) 2),(11,vo),(13,zI (k:Int)),(14,a0)])) (fun i W=>AB w W∧P8 2 27 w1.heap.size Xn19 W.heap vo (CK i (PG p f.toNat a (Eq p f.toNat a).length (k+1))<|PG p f.toNat a (Eq p f.toNat a).length k)∧AY (AY rI 2) 27 W.heap a0 (QW p f.toNat a<|eV a.length k) Xn19∧i≤(Eq p f.toNat a).length∧w1.heap.size≤W.heap.size) (fun i=>(Eq p f.toNat a).length-i) 0 ⟨rfl,rfl,rfl,rfl,rfl,rfl,rfl,rfl,trivial⟩ ⟨c4,(by rw[D8];exact kY19),kO19,oM,oM⟩ ?_
   clear hL10_0 a1 az b2 c2 ap b3 b4 a3 aa ae a4 ad aj ab a5 aq af
   rintro i ρ18 di ⟨av,a7,a8,c5,co⟩
   have cp:w.heap.size≤di.heap.size:=av.size
   have hlm:=EC i (PG p f.toNat a (Eq p f.toNat a).length (k+1)) (PG p f.toNat a (Eq p f.toNat a).length k) sM
   rw[PH]at hlm
   refine A0<|qS [0,0,0,0] Z<|Af 2 Z<|AN (v:=a0) Bn Z (MN a8).isSl Ac ?_
   by_cases b7:(i:Int)<(((QW p f.toNat a (eV a.length k)).length:Nat):Int)
   ·refine Ay true Z Z (A7 b7) Ac<|Ai<|Ag Z<|A4<|A0<|A5<|AW _ [0,0,0,0,0,1,0,0,0,1,0,1,3,4,0,4] mixed (by kernel_rfl) ?_
    have hor:=(hos i (by show i<(QW p f.toNat a<|eV a.length k).length;omega)).1
    have db:((QW p f.toNat a (eV a.length k)).getD i []).length=2:=hor
    refine Af 4 Z<|Aw (v:=vo) i Bn AU Z Z a7.isSl Z sD Ac ?_
    obtain⟨b8,b9,ba⟩:=a7.rd2.get (k:=i) [] sD
    have cq:=ba.lenle
    refine Al (p:=Ax vo i 1) (.inl Z) b8 B7 Z b9 Ac<|Af 2 Z<|Aw (v:=a0) i Bn AU Z Z (MN a8).isSl Z sD Ac ?_
    obtain⟨aw,bb,ak⟩:=(MN a8).get (k:=i) [] sD
    have cr:=ak.lenle
    refine Al (p:=Ax a0 i 1) (.inl Z) aw B7 Z bb Ac<|Aw (v:=aw) 1 Bm BM Z Z ak.isSl Z sD Ac ?_
    refine Al (p:=Ax aw 1 1) (.inl Z) (zI<|((QW p f.toNat a<|eV a.length k).getD i []).getD 1 0) AO Z (ak.getI sD).1 Ac ?_
    refine Bs (u:=zI<|((QW p f.toNat a<|eV a.length k).getD i []).getD 1 0) (B:=di.heap.size) AS Bm BM Z Z (Mf di.heap.size di.heap.size _ _ (ak.getI sD).2) (A9 _) Ac fun du dv a2 dc c6=>?_
    replace a2:=a2.of_drew
    have cs:=a2.size
    have bc:=av.trans a2
    have ag:=a7.ext (o2) a2
    have a6:=P7 (o2) a8 a2
    have bv:=ba.ext g1 a2
    have bd:=AR a2 b9
    have bw:=ak.ext g1 a2
    have ct:=AR a2 bb
    refine Va (v:=vo) (u:=b8) (a:=du) (r:=i) Bm BM Z Z Z ag oM (o2.lt a6) sD bd c6.rd1 (by have h9:=XI (p:=p) (f:=f.toNat) (a:=a) (K:=(Eq p f.toNat a).length) (i:=k) (r:=i) oM;simp only[z9,zb];omega) (by unfold maxLen;have h9:=XI (p:=p) (f:=f.toNat) (a:=a) (K:=(Eq p f.toNat a).length) (i:=k) (r:=i) oM;simp only[z9,zb];omega) Ac fun dw dj e4 ax be bf=>?_
    have bg:AB w dj:=ax.below bc (fun b hb=>Aa hE1.size (be b hb).1) bc.size
    have cu:dv.heap.size≤dj.heap.size:=ax.size
    have c7:=Ld o2 a6 ax fun b hb=>(be b hb).2.1
    refine Aw (v:=vo) i Bn AU Z Z bf.isSl Z sD Ac (Vb (v:=vo) (u:=dw) (w:=dj) KS Z Z bf Ac fun dn e5 ay dd bh c8=>?_)
    have c9:AB w dn:=ay.below bg (fun b hb=>Aa hE1.size (bh b hb).1) bg.size
    have cv:dj.heap.size≤dn.heap.size:=ay.size
    have ca:=Ld o2 c7 ay fun b hb=>(bh b hb).2.1
    exact Ai<|Ad _ [0,0,0] Z<|Af 1 Z<|AG ((i+1:Nat):Int) Z Z (Bd oM sD) Ac<|Ae 1 Z ⟨i+1,_,rfl,zR,⟨c9,(by have h:=c8;rw[← gE oM];exact h),ca,oM,oM⟩,zD⟩
   refine Ay false Z Z (A8 b7) Ac<|Ai<|Aj Z<|A6<|Au<|Au<|An<|Ad _ [0,0,0] Z<|Af 1 Z<|AG ((k+1:Nat):Int) Z Z (Bd oM sD) Ac<|Ae 1 Z ?_
   exact⟨(k+1,H2 p (((1:Nat):Int).toNat+1) f.toNat (GK a (uN a.length (k:Int).toNat) 2)),_,rfl,zR,⟨av,(by have h:=a7.fr;rwa [DS sM (by rw[PH];omega)]at h),oM,(by show kC p f.toNat a (uN a.length k)=_;rw[TX];exact hdi),oM⟩,zD⟩
  refine Av false Z Z (A8 b1) (Ak (e:=39) Z Z Z)<|Ae 1 Z<|Aj Z<|A6<|Au<|Au<|An<|A0<|qS [0,0] Z<|Af 1 Z ?_
  by_cases bi:c≠((0:Nat):Int)
  ·refine B4 true Z Z (A7 bi) Ac<|Ai<|Ag Z<|qS [3,0,0,0] Z (BS (AY rI 2) o1 Bn AU Ac fun dq e6 bj de bk=>?_)
   have cw:=bj.size
   have cb:=a1.trans bj
   exact Ae 3 Z<|A3<|Ap<|Ah [6,7] Z (.tuple #[dq,zI c]) Z ⟨dq,Uh,cb,(by first|(rw[if_neg oM];exact(bk.up o2).low a1.size)|(have h:=(bk.up o2).low a1.size;rw[if_pos oM];rw[show k=a.length from by omega,hNP.len oM]at h;exact h)),bp⟩
  exact B4 false Z Z (A8 bi) Ac<|Ai<|Aj Z<|A4<|qS [0,0,0] Z<|Ae 3 Z<|A3<|Ah [6,7] Z (.tuple #[vo,zI ((0:Nat):Int)]) Z ⟨vo,Uh,a1,f5,bp⟩
 refine Ay false Z Z (A8 b0) Ac<|Ae 4 Z<|Aj Z<|A6<|Au<|Au<|An<|A0<|qS [0,0] Z<|Af 1 Z ?_
 by_cases bl:c≠((0:Nat):Int)
 ·refine B4 true Z Z (A7 bl) Ac<|Ai<|Ag Z<|qS [3,0,0,0] Z (BS (AY rI 2) o1 Bn AU Ac fun dr e7 bm df bn=>?_)
  have cx:=bm.size
  have cc:=a1.trans bm
  exact Ae 3 Z<|A3<|Ap<|Ah [6,7] Z (.tuple #[dr,zI c]) Z ⟨dr,Uh,cc,(by first|(rw[if_neg oM];exact(bn.up o2).low a1.size)|(have h:=(bn.up o2).low a1.size;rw[if_pos oM];rw[show k=a.length from by omega,hNP.len oM]at h;exact h)),bp⟩
 exact B4 false Z Z (A8 bl) Ac<|Ai<|Aj Z<|A4<|qS [0,0,0] Z<|Ae 3 Z<|A3<|Ah [6,7] Z (.tuple #[vo,zI ((0:Nat):Int)]) Z ⟨vo,Uh,a1,f5,bp⟩
theorem O2 (w:World)(vy:Value)(y:List (Sr))(By Uy:Nat)(hy:Fr (AY (AY rI 2) 27) By Uy w.heap vy y)(hUy:Uy≤w.heap.size)(hml:∀k,k<y.length→1≤(y.getD k []).length∧(y.getD k []).length≤1000000)(hyl:y.length≤1000000) :
  Calls Tryz.prog 77 #[vy] w (fun e w'=>∃v0:Value,e=.returned (v0)∧AB w w'∧Fr (AY (AY rI 2) 27) w.heap.size w'.heap.size w'.heap v0 (y.map (fun r=>r.drop 1))):=by
 refine At [vy] 22 Tryz.func77 Z Z sM ?_
 have av:AB w w:=AB.refl w
 refine qT Z<|qS [3,0] Z (BS (AY rI 2) o1 Bn AU Ac fun v1 w1 af b1 aw=>?_)
 have ai:=af.size
 have hE1:=av.trans af
 have aj:=hy.ext (o2) af
 refine Ae 1 Z<|A0<|qT Z<|A5 ?_
 refine AQ (S:=Nat×Value) (fun⟨k,vo⟩=>([(3,vo),(4,zI (k:Int)),(0,vy)])) (fun⟨k,vo⟩ W=>AB w W∧Fr (AY (AY rI 2) 27) w.heap.size W.heap.size W.heap vo ((y.take k).map fun r=>r.drop 1)∧Fr (AY (AY rI 2) 27) By Uy W.heap vy y∧k≤y.length) (fun⟨k,vo⟩=>y.length-k) (0,v1) ⟨rfl,rfl,rfl,trivial⟩ ⟨hE1,aw.up o2,aj,sD⟩ ?_
 clear av aw b1 af ai hE1
 rintro⟨k,vo⟩ ρ2 w2 ⟨ag,a5,a0,ax⟩
 have b2:w.heap.size≤w2.heap.size:=ag.size
 refine A0<|qS [0,0,0,0] Z<|Af 2 Z<|AN (v:=vy) Bn Z a0.isSl Ac ?_
 by_cases ay:(k:Int)<(y.length:Int)
 ·refine Ay true Z Z (A7 ay) Ac<|Ai<|Ag Z<|A4<|A0<|A5<|Ad _ [0,0,0,0,2,0,3,3,4,0] Z ?_
  have hmk:=hml k oM
  refine Af 3 Z<|Aw (v:=vy) k Bn AU Z Z a0.isSl Z sD Ac ?_
  obtain⟨ak,al,ah⟩:=a0.rd2.get (k:=k) [] sD
  have b3:=ah.lenle
  refine Al (p:=Ax vy k 1) (.inr Z) ak B7 Z al Ac ?_
  have aa:=Fr.rowCap o1 a0 sD al
  refine cR (v:=ak) Bm BM Z ah.isSl aa Z sD Ac ?_
  have ab:=(RN.suf (S:=[]) AS (RN.of ah) sD aa).rd
  refine As 143 [] [] [PK ak] Z Z TZ Ac (Fy _ _ _ ab (by rw[List.length_drop];omega)) ?_
  rintro e6 w6 ⟨am,rfl,a6,ac⟩
  refine⟨_,rfl,a6,?_⟩
  have b4:=a6.size
  have b5:=ag.trans a6
  have a1:=a5.ext (o2) a6
  have a2:=a0.ext (o2) a6
  have ad:=ah.ext g1 a6
  have an:=AR a6 al
  have a7:=ab.ext g1 a6
  refine Bs (u:=am) (B:=w2.heap.size) o1 Bn AU Z Z ac (by first|exact A9 _|omega) Ac fun v8 w8 a8 b9 b6=>?_
  have b7:=a8.size
  have ao:=b5.trans a8
  have a3:=a1.ext (o2) a8
  have a4:=a2.ext (o2) a8
  have az:=ad.ext g1 a8
  have b8:=AR a8 an
  have ap:=a7.ext g1 a8
  refine Ez o1 (v:=vo) (a:=v8) Bn AU Z Z Z a3 ao.size b6 oM ag.size sD (by unfold maxLen;first|omega|assumption|(simp;done)|(simp;omega)) Ac fun bb ba bc a9 ae aq=>?_
  have ar:AB w ba:=a9.below ao (fun c hc=>Aa (A9 _) (ae c hc).1) ao.size
  have b0:w8.heap.size≤ba.heap.size:=a9.size
  have au:=a4.chg (o2) a9 fun c hc=>zH<|ae c hc
  refine Ae 1 Z<|Ad _ [0,0,0] Z<|Af 1 Z<|AG ((k+1:Nat):Int) Z Z (Bd oM sD) Ac<|Ae 1 Z ?_
  exact⟨(k+1,bb),_,rfl,zR,⟨ar,(by rw[Dq [] oM];exact aq.up o2),au,sD⟩,zD⟩
 exact Ay false Z Z (A8 ay) Ac<|Ai<|Aj Z<|A6<|Au<|Au<|An<|qS [0,0] Z<|Ae 2 Z<|A3<|Ah [2] Z vo Z ⟨vo,rfl,ag,(by have h:=a5.up o2;rwa [za oM]at h)⟩
theorem Zh {p:Prop}(h:p:=by unfold maxLen;first|omega|assumption|(simp only[zb,z9,z4,z6,z5,Gb,DC];omega)|(simp[zb,z9,z4,z6,z5,Gb,DC];done)|(simp[zb,z9,z4,z6,z5,Gb,DC];omega)):p:=h
theorem CI {p:Prop}(h:p:=by first|omega|assumption|(simp only[zb,z9,z4,z6,z5,Gb,DC];omega)|(simp[zb,z9,z4,z6,z5,Gb,DC];done)|(simp[zb,z9,z4,z6,z5,Gb,DC];omega)):p:=h
theorem Iu (w:World)(dp:Nat)(vp:Value)(p:List Fn)(f:Int)(va:Value)(a:Sr)(order:Int)(hp:RP [] dp w.heap vp p)(_hf:BI f)(ha:Rd (B3 rI) w.heap va a)(_horder:BI order)(hz:Px p) :
  Calls Tryz.prog 14 #[(.agg #[vp]),zI f,va,zI order] w (fun e w'=>∃v0:Value,e=.returned (.tuple #[v0,zI (Ny p f a order)])∧AB w w'∧Fr (AY (AY rI 2) 27) w.heap.size w'.heap.size w'.heap v0 (DP p f a order)):=by
 refine At [.agg #[vp],zI f,va,zI order] 162 Tryz.func14 Z Z sM ?_
 have jo:AB w w:=AB.refl w
 have fx:=hp.lenle
 unfold maxLen at fx
 have lg:=ha.lenle
 refine qS [3,0,0] Z (C8 (cs:=#[vp]) Z Ac fun w1 go kk gl=>?_)
 have gp:=go.size
 have hE1:=jo.trans go
 replace gl:BX w1.heap w.heap.size [vp]:=gl
 refine Ae 2 Z<|qS [0,3,0] Z<|Af 1 Z<|As 72 [] [] [zP w.heap.size,zI f] Z Z pX Ac (Kj _ dp (zP w.heap.size) (p) _ (RN.box gl (RP.mk'<|hp.ext (Am<|AC dp) hE1) sM) _hf hz) ?_
 rintro e2 w2 ⟨rfl,dv⟩
 refine⟨_,rfl,dv,?_⟩
 have gq:=dv.size
 have dd:=hE1.trans dv
 have d3:=gl.ext dv
 refine Ae 1 Z<|A0<|qS [0,0,0,0,0,2,0,0,0,2,0,3,0,0,0,0,0,0,0] Z<|Af 1 Z ?_
 by_cases jp:Gg p f D2=((0:Nat):Int)
 ·refine Av true Z Z (A7 jp) Ac<|Af 2 Z ?_
  have kl:=R5 (p:=p) (f:=f) oM
  refine Aq (p:=zP w.heap.size) 0 BQ Z Z (Ak (e:=31) Z Z Z)<|Al (p:=AA (zP w.heap.size) 0) (.inr Z) vp Cr Z (d3.ldp (i:=0) sM) (Ak (e:=31) Z Z Z)<|Af 1 Z<|Aw (v:=vp) ((f).toNat) H6 CM Z Z hp.isSl oM CI (Ak (e:=31) Z Z Z) ?_
  obtain⟨cs4,km,jq⟩:=hp.get (AC dp) Fn.zero (k:=(f).toNat) CI
  obtain⟨l4,rfl,kn⟩:=RF.of km
  have dw:=kn.rn.lenle
  unfold maxLen at dw
  refine AP (p:=Ax vp ((f).toNat) 3) 1 CG Z (jq _<|Az.of_ext [] dd) (Ak (e:=31) Z Z Z)<|Al (p:=AA (Ax vp ((f).toNat) 3) 1) (.inr Z) (zI<|(p.getD ((f).toNat) Fn.zero).params) AO Z ((jq _<|Az.of_ext [] dd).ld (i:=1) (by simp[Dd,FU])) (Ak (e:=31) Z Z Z)<|Cb ((p.getD f.toNat Fn.zero).params-1) Z Z (Dh oM oM) (Ak (e:=31) Z Z Z)<|As 73 [] [] [va,zI ((p.getD f.toNat Fn.zero).params-1)] Z Z pY (Ak (e:=31) Z Z Z) (KW _ _ _ _ (ha.ext g1 dd) oM) ?_
  rintro e5 w5 ⟨rfl,dx⟩
  refine⟨_,rfl,dx,?_⟩
  have gr:=dx.size
  have de:=dd.trans dx
  have dy:=d3.ext dx
  refine BH (!(decide ((a.length:Int)=((p.getD f.toNat Fn.zero).params-1)) && B9 a)) Z Z (Ak (e:=31) Z Z Z)<|Af 1 Z ?_
  cases ko:(!(decide ((a.length:Int)=((p.getD f.toNat Fn.zero).params-1)) && B9 a))
  ·refine Af 1 Z<|AD 74 [] [] [zI order,zI ((0:Nat):Int),zI ((12:Nat):Int)] Z Z Jl (Ak (e:=42) Z Z Z) (.bool (decide (((0:Nat):Int)≤order) && decide (order≤((12:Nat):Int)))) (fun wq=>BJ wq _ _ _ _horder oM oM)<|BH (!(decide (((0:Nat):Int)≤order) && decide (order≤((12:Nat):Int)))) Z Z (Ak (e:=42) Z Z Z)<|Ae 2 Z ?_
   cases jr:(!(decide (((0:Nat):Int)≤order) && decide (order≤((12:Nat):Int))))
   ·refine Aj (by first|rfl|exact zW jr)<|A4<|A0<|qS [0,0] Z<|Af 1 Z ?_
    have kp:¬(Gg p f D2≠((0:Nat):Int)):=oM
    refine B4 false Z Z (A8 kp) Ac<|Ai<|Aj Z<|A4<|qS [3,0,4,0] Z ?_
    have dt:KO p f a order=0:=dJ oM (ES ‹(!(decide ((a.length:Int)=((p.getD f.toNat Fn.zero).params-1)) && B9 a))=false›) (show Gp order 0 12=true from ES ‹(!(decide (((0:Nat):Int)≤order) && decide (order≤((12:Nat):Int))))=false›)
    have hKP:=Yg dt
    have hIm:=hKP.1
    have ko:=hIm.b
    have hpl:=hIm.l
    have lb:=hIm.v
    clear kl
    refine Bs (u:=zI ((0:Nat):Int)) (B:=w5.heap.size) AS Bm BM Z Z (Mf w5.heap.size w5.heap.size _ _ oM) (A9 _) Ac fun lp lq cu gs dz=>?_
    have e0:=cu.size
    have cv:=de.trans cu
    have df:=dy.ext cu
    refine Af 1 Z ?_
    refine Ey (v:=lp) (a:=va) Bm BM Z Z Z dz oM (ha.ext g1 cv) CI Zh Ac fun l5 fr m4 cw dg e1=>?_
    have dh:AB w fr:=cw.below cv (fun c hc=>Aa de.size (dg c hc).1) cv.size
    have e3:lq.heap.size≤fr.heap.size:=cw.size
    have di:=df.chg cw fun hm=>zH<|dg _ hm
    refine Ae 1 Z<|qS [0,0,3,0,0,0,0,0,0,0] Z ?_
    have d4:Fr (AY rI 2) w5.heap.size fr.heap.size fr.heap l5 (0::a):=by exact e1
    refine Af 2 Z<|As 75 [] [] [zP w.heap.size,zI f,l5] Z Z iI Ac (GE _ dp (zP w.heap.size) (p) _ _ _ (RN.box di (RP.mk'<|hp.ext (Am<|AC dp) dh) sM) _hf d4.rd1 lb hKP.2.2.1 (by rw[z9];omega) hIm.num) ?_
    rintro m5 lr ⟨a1,rfl,bx,ch,gt,gu⟩
    refine⟨_,rfl,bx,?_⟩
    have e4:=bx.size
    have cx:=dh.trans bx
    have b2:=di.ext bx
    have bf:=d4.ext (o1) bx
    refine Af 1 Z<|AI (vs:=[a1,zI ((Pw p 1 f.toNat (Cd (0::a)):Nat):Int),zI<|Et p f.toNat (0::a)]) a1 Z Z Ac<|AI (vs:=[a1,zI ((Pw p 1 f.toNat (Cd (0::a)):Nat):Int),zI<|Et p f.toNat (0::a)]) (zI ((Pw p 1 f.toNat (Cd (0::a)):Nat):Int)) Z Z Ac<|AI (vs:=[a1,zI ((Pw p 1 f.toNat (Cd (0::a)):Nat):Int),zI<|Et p f.toNat (0::a)]) (zI<|Et p f.toNat (0::a)) Z Z Ac<|Ae 3 Z<|A0<|qS [0,0] Z ?_
    have hNP:=‹gC p f.toNat (0::a)›
    have hNC:=hNP.code
    refine Af 1 Z ?_
    by_cases e6:Et p f.toNat (0::a)≠((0:Nat):Int)
    ·refine B4 true Z Z (A7 e6) Ac<|Ai<|Ag Z<|qS [3,0,0,0] Z (BS (AY rI 2) o1 Bn AU Ac fun lh m6 cy kq gv=>?_)
     have js:=cy.size
     have gw:=cx.trans cy
     have gm:=b2.ext cy
     have e7:=bf.ext (o1) cy
     refine Ae 3 Z<|A3<|Ap ?_
     have hcn:Et p f.toNat (0::a)≠0:=by omega
     exact Ah [8,9] Z (.tuple #[lh,zI<|Et p f.toNat (0::a)]) Z ⟨lh,(by rw[R8 dt hcn]),gw,(by rw[KP (by rw[R8 dt hcn];exact hcn)];exact(gv.up o2).low cx.size)⟩
    refine B4 false Z Z (A8 e6) Ac<|Ai<|Aj Z<|A4<|A0<|qS [0] Z ?_
    have du:Et p f.toNat (0::a)=0:=by omega
    have hnl:(Eq p f.toNat (0::a)).length=a.length:=by rw[hNP.len du];have:=hIm.o;omega
    obtain⟨m7,T0,hrc⟩:=Yk hIm.v hIm.lt (by rw[z9];omega) hIm.num du
    refine Ae 1 Z<|A5<|AQ (S:=Nat) (fun i=>([(14,zI (i:Int)),(1,zI f),(2,va),(3,zI order),(4,zP w.heap.size),(11,l5),(12,a1)])) (fun i W=>AB w W∧Fr (AY rI 2) w5.heap.size fr.heap.size W.heap l5 (0::a)∧Fr (AY rI 2) fr.heap.size lr.heap.size W.heap a1 (Eq p f.toNat (0::a))∧BX W.heap w.heap.size [vp]∧i≤a.length∧(∀j,j<i→(Eq p f.toNat (0::a)).getD j 0=0)) (fun i=>a.length-i) 0 ⟨rfl,rfl,rfl,rfl,rfl,rfl,rfl,trivial⟩ ⟨cx,bf,ch,b2,oM,(by intro j hj;omega)⟩ ?_
    clear jo kk go gp hE1 dv gq dd dw dx dz gs cu e0 cv e1 dg cw di ch bx b2
    rintro i ρ17 lc ⟨bm,b3,a2,a6,gx,hzz⟩
    have e8:w.heap.size≤lc.heap.size:=bm.size
    have kr:=a6.lt
    refine A0<|qS [0,0,0,0] Z<|Af 2 Z<|AN (v:=a1) Bm Z a2.isSl Ac ?_
    by_cases e9:(i:Int)<(((Eq p f.toNat (0::a)).length:Nat):Int)
    ·refine Ay true Z Z (A7 e9) Ac<|Ai<|Ag Z<|A4<|A0<|A5<|qS [0,0,0,2,0] Z<|Af 2 Z<|Aw (v:=a1) i Bm BM Z Z a2.isSl Z CI Ac ?_
     refine Al (p:=Ax a1 i 1) (.inr Z) (zI<|(Eq p f.toNat (0::a)).getD i 0) AO Z (a2.rd1.getI CI).1 Ac ?_
     by_cases ea:(Eq p f.toNat (0::a)).getD i 0≠((0:Nat):Int)
     ·refine B4 true Z Z (A7 ea) Ac<|Ai<|Ag Z<|qS [3,0,0] Z (BS (AY rI 2) o1 Bn AU Ac fun li m8 eb ks gy=>?_)
      have jt:=eb.size
      have gz:=bm.trans eb
      refine Ae 2 Z<|A3<|AK<|Ap<|Ap<|AK<|Ap ?_
      have hcf:=Yh dt du<|gX (j:=i) oM (by assumption)
      exact Ah [8,9] Z (.tuple #[li,zI ((4:Nat):Int)]) Z ⟨li,(by rw[hcf];rfl),gz,(by rw[KP (by rw[hcf];decide)];exact(gy.up o2).low bm.size)⟩
     refine B4 false Z Z (A8 ea) Ac<|Ai<|Aj Z<|A4<|Ad _ [0,0,0] Z<|Af 1 Z<|AG ((i+1:Nat):Int) Z Z (Bd oM CI) Ac<|Ae 1 Z ?_
     exact⟨i+1,_,rfl,zR,⟨bm,b3,a2,a6,oM,(by intro j hj;by_cases h9:j=i;(subst h9;omega);exact hzz j oM)⟩,zD⟩
    refine Ay false Z Z (A8 e9) Ac<|Ai<|Aj Z<|A6<|Au<|Au<|An<|qS [0,0,3,0,0,0,0,0] Z ?_
    have hnz:(Eq p f.toNat (0::a)).any (fun x=>x != 0)=false:=kQ (fun j hj=>hzz j oM)
    refine Af 2 Z<|As 76 [] [] [zP w.heap.size,zI f,l5] Z Z pZ Ac (Kk _ dp (zP w.heap.size) (p) _ _ _ (RN.box a6 (RP.mk'<|hp.ext (Am<|AC dp) bm) sM) _hf b3.rd1 lb hKP.2.2.1 (by rw[z9];omega) hIm.num) ?_
    rintro m9 f4 ⟨a8,rfl,bn,ci,i0⟩
    refine⟨_,rfl,bn,?_⟩
    have ju:=bn.size
    have i1:=bm.trans bn
    have a9:=b3.ext (o1) bn
    have aa:=a2.ext (o1) bn
    have ab:=a6.ext bn
    refine Af 1 Z<|AI (vs:=[a8,zI<|Et p f.toNat (0::a)]) a8 Z Z Ac<|AI (vs:=[a8,zI<|Et p f.toNat (0::a)]) (zI<|Et p f.toNat (0::a)) Z Z Ac<|Ae 2 Z<|qS [0,3,0] Z ?_
    have d5:Fr (AY (AY rI 2) 27) lc.heap.size f4.heap.size f4.heap a8 (S8 p f.toNat (0::a) a.length):=by have h:=ci;rw[if_pos du,show(p.getD f.toNat Fn.zero).outs.length=a.length from by have:=hIm.o;omega]at h;exact h
    have hjl:(S8 p f.toNat (0::a) a.length).length=a.length:=by simp[S8]
    refine Af 1 Z<|As 77 [] [] [a8] Z Z qA Ac (O2 _ a8 (S8 p f.toNat (0::a) a.length) (lc.heap.size) (f4.heap.size) d5 oM (by intro j hj;rw[MC oM,DR,z9];omega) oM) ?_
    rintro ma la ⟨a0,rfl,bg,cj⟩
    refine⟨_,rfl,bg,?_⟩
    have ec:=bg.size
    have ed:=i1.trans bg
    have ac:=a9.ext (o1) bg
    have ad:=aa.ext (o1) bg
    have ae:=ab.ext bg
    have ck:=d5.ext (o2) bg
    refine Ae 1 Z<|A0<|qS [0,3,0] Z ?_
    have d6:Fr (AY (AY rI 2) 27) f4.heap.size la.heap.size la.heap a0 (FP p f.toNat a):=by exact cj
    have hjS:=Sa hrc (by have:=hrc.xl;have:=hIm.o;omega)
    have i2:(FP p f.toNat a).length=a.length:=Jh
    have i3:Sq (FP p f.toNat a).length (FP p f.toNat a):=by rw[i2];exact hjS
    refine Af 1 Z<|As 78 [] [] [a0] Z Z qB Ac (On _ _ _ d6.rd2 i3 oM) ?_
    rintro mb f1 ⟨rfl,b4⟩
    refine⟨_,rfl,b4,?_⟩
    have jv:=b4.size
    have bz:=ed.trans b4
    have af:=ac.ext (o1) b4
    have ag:=ad.ext (o1) b4
    have ah:=ae.ext b4
    have bh:=ck.ext (o2) b4
    have bi:=d6.ext (o2) b4
    by_cases ee:DD (FP p f.toNat a)=((0:Nat):Int)
    ·refine Av true Z Z (A7 ee) Ac<|Ai<|Ag Z<|qS [3,0,0] Z (BS (AY rI 2) o1 Bn AU Ac fun lj mc cz kt i4=>?_)
     have jw:=cz.size
     have i5:=bz.trans cz
     have ef:=bh.ext (o2) cz
     have eg:=bi.ext (o2) cz
     refine Ae 2 Z<|A3<|Ap ?_
     have hcf:=Yi dt du hnz (by assumption)
     exact Ah [8,9] Z (.tuple #[lj,zI ((6:Nat):Int)]) Z ⟨lj,(by rw[hcf];rfl),i5,(by rw[KP (by rw[hcf];decide)];exact(i4.up o2).low bz.size)⟩
    refine Av false Z Z (A8 ee) Ac<|Ai<|Aj Z<|A4<|qS [3,0] Z ?_
    have hdt:DD (FP p f.toNat a)≠0:=by omega
    refine BS (AY rI 2) o1 Bn AU Ac fun ls me bj i6 eh=>?_
    have ei:=bj.size
    have ej:=bz.trans bj
    have c0:=af.ext (o1) bj
    have c1:=ag.ext (o1) bj
    have ai:=ah.ext bj
    have ek:=bh.ext (o2) bj
    have cl:=bi.ext (o2) bj
    refine Ae 1 Z<|A0<|qT Z<|A5 ?_
    refine AQ (S:=Nat×Value) (fun⟨i,vy⟩=>([(18,vy),(19,zI (i:Int)),(1,zI f),(2,va),(3,zI order),(4,zP w.heap.size),(17,a0)])) (fun⟨i,vy⟩ W=>AB w W∧Fr (AY (AY rI 2) 27) f1.heap.size W.heap.size W.heap vy ((a.take i).map<|cst (order.toNat+1))∧Fr (AY (AY rI 2) 27) f4.heap.size la.heap.size W.heap a0 (FP p f.toNat a)∧BX W.heap w.heap.size [vp]∧i≤a.length∧w.heap.size<f1.heap.size∧f1.heap.size≤W.heap.size) (fun⟨i,vy⟩=>a.length-i) (0,ls) ⟨rfl,rfl,rfl,rfl,rfl,rfl,rfl,trivial⟩ ⟨ej,eh.up o2,cl,ai,CI,oM,oM⟩ ?_
    clear gr de dh e3 e4 cx a6 a2 b3 bm e8 ci bn a9 aa ab cj bg ac ad ae b4 af ag ah eh i6 bj ei ej c0 c1 ai
    rintro⟨i,vy⟩ ρ31 l6 ⟨cm,bo,bp,b5,i7,jx,jy⟩
    have el:w.heap.size≤l6.heap.size:=cm.size
    have ku:=b5.lt
    refine A0<|qS [0,0,0,0] Z<|Af 2 Z<|AN (v:=va) Bm Z ha.isSl Ac ?_
    by_cases em:(i:Int)<(a.length:Int)
    ·refine Ay true Z Z (A7 em) Ac<|Ai<|Ag Z<|A4<|A0<|A5<|Ad _ [0,0,0,0,2,0,0,3,3,4,0] Z<|Af 3 Z<|Aw (v:=va) i Bm BM Z Z ha.isSl Z CI Ac ?_
     refine Al (p:=Ax va i 1) (.inr Z) (zI<|a.getD i 0) AO Z (AR cm (ha.getI CI).1) Ac<|Af 1 Z<|AG ((order.toNat+1:Nat):Int) Z Z (by rw[Dh oM oM];omega) Ac ?_
     refine As 79 [] [] [zI<|a.getD i 0,zI ((order.toNat+1:Nat):Int)] Z Z UN Ac (CW _ _ (order.toNat+1) (ha.getI CI).2 CI oM) ?_
     rintro mf mg ⟨en,rfl,c2,dj⟩
     refine⟨_,rfl,c2,?_⟩
     have jz:=c2.size
     have i8:=cm.trans c2
     have c3:=bo.ext (o2) c2
     have c4:=bp.ext (o2) c2
     have c5:=b5.ext c2
     refine Bs (u:=en) (B:=l6.heap.size) o1 Bn AU Z Z dj (by first|exact A9 _|omega) Ac fun lu lv cn kv i9=>?_
     have k0:=cn.size
     have eo:=i8.trans cn
     have c6:=c3.ext (o2) cn
     have c7:=c4.ext (o2) cn
     have c8:=c5.ext cn
     refine Ez o1 (v:=vy) (a:=lu) Bn AU Z Z Z c6 oM i9 oM oM CI Zh Ac fun lw lk mh d0 dk ia=>?_
     have ib:AB w lk:=d0.below eo (fun c hc=>Aa bz.size (dk c hc).1) eo.size
     have k1:lv.heap.size≤lk.heap.size:=d0.size
     have ic:=c7.chg (o2) d0 fun c hc=>zH<|dk c hc
     have id:=c8.chg d0 fun hm=>zH<|dk _ hm
     refine Ae 1 Z<|Ad _ [0,0,0] Z<|Af 1 Z<|AG ((i+1:Nat):Int) Z Z (Bd oM CI) Ac<|Ae 1 Z ?_
     exact⟨(i+1,lw),_,rfl,zR,⟨ib,(by rw[Dq 0 oM];exact ia.up o2),ic,id,CI,oM,oM⟩,zD⟩
    refine Ay false Z Z (A8 em) Ac<|Ai<|Aj Z<|A6<|Au<|Au<|An<|A0<|qS [0] Z ?_
    have ep:Fr (AY (AY rI 2) 27) f1.heap.size l6.heap.size l6.heap vy (L7 p f.toNat a order.toNat 0):=by have h:=bo;rw[za oM]at h;exact h
    obtain⟨BL,hBL⟩:∃b:Nat,b=la.heap.size:=⟨_,rfl⟩
    have d7:=bp
    rw[← hBL]at d7
    have ie:BL≤l6.heap.size:=by omega
    have ig:BL≤f1.heap.size:=by omega
    refine Ae 1 Z<|A5 ?_
    refine AQ (S:=Nat×List (Sr)) (fun⟨k,ys⟩=>([(20,zI (k:Int)),(1,zI f),(3,zI order),(4,zP w.heap.size),(17,a0),(18,vy)])) (fun⟨k,ys⟩ W=>AB w W∧Fr (AY (AY rI 2) 27) f1.heap.size W.heap.size W.heap vy ys∧Fr (AY (AY rI 2) 27) f4.heap.size BL W.heap a0 (FP p f.toNat a)∧BX W.heap w.heap.size [vp]∧BL≤W.heap.size∧1≤k∧k≤order.toNat+1∧ys=L7 p f.toNat a order.toNat (k-1)∧w.heap.size<f1.heap.size∧f1.heap.size≤W.heap.size) (fun⟨k,ys⟩=>order.toNat+1-k) (1,L7 p f.toNat a order.toNat 0) ⟨rfl,rfl,rfl,rfl,rfl,rfl,trivial⟩ ⟨cm,ep.up o2,d7,b5,oM,oM,oM,(by rfl),oM,oM⟩ ?_
    clear ec ed b5 bp bo cm el
    rintro⟨k,ys⟩ ρ45 f3 ⟨dl,b6,co,bq,ih,ii,ij,hyf,k2,k3⟩
    have k4:w.heap.size≤f3.heap.size:=dl.size
    have kw:=bq.lt
    refine A0<|qS [0,0,0] Z<|Af 2 Z ?_
    by_cases eq:(k:Int)≤order
    ·refine DF true Z Z (A7 eq) Ac<|Ai<|Ag Z<|A4<|A0<|A5<|qS [0,0,0,0,3,3,0,0,3,0,0,0,0,0] Z ?_
     have hse:=iA (o:=order.toNat) (k:=k-1) hIm hrc hdt hnz oM
     rw[← hyf]at hse
     have hsel:=hse.2.1
     have hso:=iB (o:=order.toNat) (k:=k) hIm hrc hse.1 hse.2.2 oM oM
     refine Af 3 Z<|AG ((k+1:Nat):Int) Z Z (Bd oM oM) Ac<|As 82 [] [] [vy,zI ((k+1:Nat):Int)] Z Z qD Ac (Oo _ vy (ys) (f1.heap.size) (f3.heap.size) (k+1) b6 oM CI (by intro j hj;have:=(hse.1 j hj).1;omega) oM) ?_
     rintro mi ll ⟨d8,rfl,br,b7⟩
     refine⟨_,rfl,br,?_⟩
     have er:=br.size
     have es:=dl.trans br
     have aj:=b6.ext (o2) br
     have ak:=co.ext (o2) br
     have al:=bq.ext br
     refine As 81 [] [] [d8] Z Z qC Ac (O0 _ d8 (ys.map<|CC (k+1)) (RN.of_fr2 b7 fun b hb=>absurd hb z2) b7.cap (by rw[zg];omega) (by rw[hso.2.2.2];omega)) ?_
     rintro mj fs ⟨lm,rfl,bk,et,eu⟩
     refine⟨_,rfl,bk,?_⟩
     have ev:=bk.size
     have dm:=es.trans bk
     have am:=aj.ext (o2) bk
     have an:=ak.ext (o2) bk
     have a3:=al.ext bk
     have ao:=b7.ext (o2) bk
     refine Af 1 Z<|AG ((k+1:Nat):Int) Z Z (Bd oM oM) Ac<|As 80 [] [] [zP w.heap.size,zI f,lm,zI ((k+1:Nat):Int)] Z Z kT Ac (IW _ dp (zP w.heap.size) (p) _ lm (Cc<|ys.map<|CC (k+1)) (k+1) (RN.box a3 (RP.mk'<|hp.ext (Am<|AC dp) dm) sM) _hf et eu lb hKP.2.2.1 (by rw[DC,zg];omega) hso.2.2.1 oM) ?_
     rintro ml f2 ⟨a5,rfl,b8,cp,ik⟩
     refine⟨_,rfl,b8,?_⟩
     have ew:=b8.size
     have dn:=dm.trans b8
     have ap:=am.ext (o2) b8
     have aq:=an.ext (o2) b8
     have ar:=a3.ext b8
     have au:=ao.ext (o2) b8
     have il:=et.ext g2 b8
     refine Af 1 Z<|AI (vs:=[a5,zI<|H2 p (k+1) f.toNat<|Cc<|ys.map<|CC (k+1)]) a5 Z Z Ac<|AI (vs:=[a5,zI<|H2 p (k+1) f.toNat<|Cc<|ys.map<|CC (k+1)]) (zI<|H2 p (k+1) f.toNat<|Cc<|ys.map<|CC (k+1)) Z Z Ac<|Ae 2 Z<|qS [3,0] Z ?_
     have hol:=hso.1
     have im:f3.heap.size≤f2.heap.size:=by omega
     have io:f3.heap.size≤fs.heap.size:=by omega
     have ip:BL≤f2.heap.size:=by omega
     have iq:BL≤f1.heap.size:=by omega
     have ir:BL≤f3.heap.size:=by omega
     have is:BL≤fs.heap.size:=by omega
     have it:ll.heap.size≤f2.heap.size:=by omega
     have iu:ll.heap.size≤fs.heap.size:=by omega
     refine BS (rI) AS Bm BM Ac fun lx mn b9 iv ex=>?_
     have ey:=b9.size
     have ez:=dn.trans b9
     have av:=ap.ext (o2) b9
     have aw:=aq.ext (o2) b9
     have ax:=ar.ext b9
     have c9:=au.ext (o2) b9
     have ay:=cp.ext (o2) b9
     have kx:=il.ext g2 b9
     refine Ae 1 Z<|A0<|qT Z<|A5 ?_
     refine AQ (S:=Nat×Value) (fun⟨i,vr⟩=>([(23,vr),(24,zI (i:Int)),(1,zI f),(3,zI order),(4,zP w.heap.size),(17,a0),(18,vy),(20,zI (k:Int)),(21,a5)])) (fun⟨i,vr⟩ W=>AB w W∧Fr (AY rI 2) f2.heap.size W.heap.size W.heap vr ((dN p f.toNat a k ys).take i)∧Fr (AY (AY rI 2) 27) f1.heap.size f3.heap.size W.heap vy ys∧Fr (AY (AY rI 2) 27) f4.heap.size BL W.heap a0 (FP p f.toNat a)∧Fr (AY (AY rI 2) 27) fs.heap.size f2.heap.size W.heap a5 (CS p (k+1) f.toNat<|Cc<|ys.map<|CC (k+1))∧BX W.heap w.heap.size [vp]∧i≤a.length∧w.heap.size<f2.heap.size∧f2.heap.size≤W.heap.size) (fun⟨i,vr⟩=>a.length-i) (0,lx) ⟨rfl,rfl,rfl,rfl,rfl,rfl,rfl,rfl,rfl,trivial⟩ ⟨ez,ex.up o1,av,aw,ay,ax,oM,oM,oM⟩ ?_
     clear bq co b6 b7 br er es aj ak al bk am an a3 ao cp b8 ap aq ar au ex iv b9 ey ez av aw ax c9 ay
     rintro⟨i,vr⟩ ρ64 Dh ⟨dq,bs,bt,ba,a4,bb,iw,k5,k6⟩
     have k7:w.heap.size≤Dh.heap.size:=dq.size
     have ky:=bb.lt
     refine A0<|qS [0,0,0,0] Z<|Af 2 Z<|AN (v:=a5) Bn Z a4.isSl Ac ?_
     by_cases g0:(i:Int)<(((CS p (k+1) f.toNat (Cc (ys.map (CC (k+1))))).length:Nat):Int)
     ·refine Ay true Z Z (A7 g0) Ac<|Ai<|Ag Z<|A4<|A0<|A5<|Ad _ [0,0,0,0,2,0,0,2,0,3,4,0] Z ?_
      have hoi:=hso.2.1 i oM
      have kz:=hoi.1
      have ix:=Bg hoi.2 k
      refine Af 3 Z<|Aw (v:=a5) i Bn AU Z Z a4.isSl Z CI Ac ?_
      obtain⟨dr,g3,cq⟩:=a4.rd2.get (k:=i) [] CI
      have k8:=cq.lenle
      refine Al (p:=Ax a5 i 1) (.inr Z) dr B7 Z g3 Ac<|Af 1 Z<|Aw (v:=dr) k Bm BM Z Z cq.isSl Z CI Ac ?_
      refine Al (p:=Ax dr k 1) (.inr Z) (zI<|((CS p (k+1) f.toNat<|Cc<|ys.map<|CC (k+1)).getD i []).getD k 0) AO Z (cq.getI CI).1 Ac ?_
      refine AD 83 [] [] [zI<|((CS p (k+1) f.toNat<|Cc<|ys.map<|CC (k+1)).getD i []).getD k 0] Z Z kU Ac (zI<|md (-(((CS p (k+1) f.toNat<|Cc<|ys.map<|CC (k+1)).getD i []).getD k 0))) (fun wq=>JC wq _ (cq.getI CI).2 ix.1) ?_
      refine Bs (u:=zI<|md (-(((CS p (k+1) f.toNat<|Cc<|ys.map<|CC (k+1)).getD i []).getD k 0))) (B:=Dh.heap.size) AS Bm BM Z Z (Mf Dh.heap.size Dh.heap.size _ _<|DI _) (A9 _) Ac fun ly lz bc l0 g4=>?_
      have k9:=bc.size
      have g5:=dq.trans bc
      have ca:=bs.ext (o1) bc
      have cb:=bt.ext (o2) bc
      have cc:=ba.ext (o2) bc
      have cd:=a4.ext (o2) bc
      have ce:=bb.ext bc
      have gn:=cq.ext g1 bc
      have ka:=AR bc g3
      refine Ey (v:=vr) (a:=ly) Bm BM Z Z Z ca oM g4.rd1 CI Zh Ac fun m0 ln mo bu cf iy=>?_
      have iz:AB w ln:=bu.below g5 (fun c hc=>Aa dn.size (cf c hc).1) g5.size
      have kb:lz.heap.size≤ln.heap.size:=bu.size
      have j0:=cb.chg (o2) bu fun c hc=>zH<|cf c hc
      have j1:=cc.chg (o2) bu fun c hc=>zH<|cf c hc
      have j2:=cd.chg (o2) bu fun c hc=>zH<|cf c hc
      have j3:=ce.chg bu fun hm=>zH<|cf _ hm
      have l1:=g4.chg (o1) bu fun c hc=>zH<|cf c hc
      exact Ae 1 Z<|Ad _ [0,0,0] Z<|Af 1 Z<|AG ((i+1:Nat):Int) Z Z (Bd oM CI) Ac<|Ae 1 Z ⟨(i+1,m0),_,rfl,zR,⟨iz,(by rw[Cp 0 (by rw[Gb];omega),gY oM];exact iy.up o1),j0,j1,j2,j3,oM,oM,oM⟩,zD⟩
     refine Ay false Z Z (A8 g0) Ac<|Ai<|Aj Z<|A6<|Au<|Au<|An<|qS [0,0,3,0] Z ?_
     have d9:Fr (AY rI 2) f2.heap.size Dh.heap.size Dh.heap vr (dN p f.toNat a k ys):=by have h:=bs;rw[za (by rw[Gb];omega)]at h;exact h
     have hhk:=iC hIm hrc hdt (b:=dN p f.toNat a k ys) PT
     refine Af 2 Z<|As 84 [] [] [a0,vr] Z Z qE Ac (Md _ _ _ _ _ ba.rd2 d9.rd1 hhk.1 oM (by rw[Gb];omega) PT hhk.2.2) ?_
     rintro mp fe ⟨bl,rfl,bd,cr⟩
     refine⟨_,rfl,bd,?_⟩
     have kc:=bd.size
     have j4:=dq.trans bd
     have g6:=d9.ext (o1) bd
     have az:=bt.ext (o2) bd
     have b0:=ba.ext (o2) bd
     have cg:=a4.ext (o2) bd
     have b1:=bb.ext bd
     refine Ae 1 Z<|qS [0] Z ?_
     have hnw:(Zl p f.toNat a k ys).length=a.length:=by rw[gZ,N4 hhk.1 PT hhk.2.2];exact hhk.2.1
     have g7:Fr (AY rI 2) Dh.heap.size fe.heap.size fe.heap bl (Zl p f.toNat a k ys):=by exact cr
     have j5:Dh.heap.size≤fe.heap.size:=by omega
     have j6:f3.heap.size≤fe.heap.size:=by omega
     have j7:f3.heap.size≤f2.heap.size:=by omega
     have j8:f3.heap.size≤fs.heap.size:=by omega
     have j9:f3.heap.size≤Dh.heap.size:=by omega
     have ja:BL≤fe.heap.size:=by omega
     have jb:BL≤f2.heap.size:=by omega
     have jc:BL≤f1.heap.size:=by omega
     have jd:BL≤fs.heap.size:=by omega
     have je:BL≤Dh.heap.size:=by omega
     have jf:f2.heap.size≤fe.heap.size:=by omega
     have jg:f2.heap.size≤Dh.heap.size:=by omega
     refine Ae 1 Z<|A5<|AQ (S:=Nat) (fun i=>([(26,zI (i:Int)),(1,zI f),(3,zI order),(4,zP w.heap.size),(17,a0),(18,vy),(20,zI (k:Int)),(25,bl)])) (fun i W=>AB w W∧Fr (AY (AY rI 2) 27) f1.heap.size f3.heap.size W.heap vy (CK i (L7 p f.toNat a order.toNat k) ys)∧Fr (AY (AY rI 2) 27) f4.heap.size BL W.heap a0 (FP p f.toNat a)∧Fr (AY rI 2) Dh.heap.size fe.heap.size W.heap bl (Zl p f.toNat a k ys)∧BX W.heap w.heap.size [vp]∧i≤a.length∧f1.heap.size≤W.heap.size) (fun i=>a.length-i) 0 ⟨rfl,rfl,rfl,rfl,rfl,rfl,rfl,rfl,trivial⟩ ⟨j4,(by rw[D8];exact az),b0,g7,b1,oM,oM⟩ ?_
     clear ev dm ew dn bb a4 ba bt bs cr bd az b0 cg b1
     rintro i ρ93 lf ⟨d1,a7,ct,be,bv,jh,kd⟩
     have ke:w.heap.size≤lf.heap.size:=d1.size
     have hml:(CK i (L7 p f.toNat a order.toNat k) ys).length=ys.length:=EC i _ ys (by rw[hsel];unfold L7;rw[Jf,zg])
     have l2:=bv.lt
     refine A0<|qS [0,0,0,0] Z<|Af 2 Z<|AN (v:=vy) Bn Z a7.isSl Ac ?_
     by_cases g8:(i:Int)<(((CK i (L7 p f.toNat a order.toNat k) ys).length:Nat):Int)
     ·refine Ay true Z Z (A7 g8) Ac<|Ai<|Ag Z<|A4<|A0<|A5<|AW _ [0,0,0,1,0,0,0,0,1,0,4] mixed (by kernel_rfl) ?_
      have hrw:(CK i (L7 p f.toNat a order.toNat k) ys).getD i []=ys.getD i []:=by rw[hyf];exact Yl oM (by rw[zg];omega)
      have hrwl:=congrArg List.length hrw
      have hrl:=(hse.1 i oM).1
      refine Af 2 Z<|Aw (v:=vy) i Bn AU Z Z a7.isSl Z CI Ac ?_
      obtain⟨ds,g9,ga⟩:=a7.rd2.get (k:=i) [] CI
      have kf:=ga.lenle
      refine Al (p:=Ax vy i 1) (.inl Z) ds B7 Z g9 Ac<|Af 3 Z<|Aw (v:=bl) i Bm BM Z Z be.isSl Z CI Ac ?_
      refine Al (p:=Ax bl i 1) (.inl Z) (zI<|(Zl p f.toNat a k ys).getD i 0) AO Z (be.rd1.getI CI).1 Ac ?_
      refine Aw (v:=ds) k Bm BM Z Z ga.isSl Z CI Ac ?_
      refine f9 (v:=vy) (u:=ds) (w:=lf.drew) I0 Z Z (be.rd1.getI CI).2 a7 CI g9 CI Ac fun lo mq bw l3 d2 ji=>?_
      replace bw:=bw.of_drew
      have jj:AB w lo:=bw.below d1 (fun c hc=>Aa bz.size (d2 c hc).1) d1.size
      have kg:lf.heap.size≤lo.heap.size:=bw.size
      have jk:=ct.chg (o2) bw fun c hc=>zH<|d2 c hc
      have gb:=be.chg (o1) bw fun c hc=>zH<|d2 c hc
      have gc:=bv.chg bw fun hm=>zH<|d2 _ hm
      refine Ai<|Ad _ [0,0,0] Z<|Af 1 Z<|AG ((i+1:Nat):Int) Z Z (Bd oM CI) Ac<|Ae 1 Z ?_
      exact⟨i+1,_,rfl,zR,⟨jj,(by have h:=ji;rw[hrw]at h;rw[show CK (i+1) (L7 p f.toNat a order.toNat k) ys=_ from hZ hyf oM oM];exact h),jk,gb,gc,oM,oM⟩,zD⟩
     refine Ay false Z Z (A8 g8) Ac<|Ai<|Aj Z<|A6<|Au<|Au<|An<|Ad _ [0,0,0] Z<|Af 1 Z<|AG ((k+1:Nat):Int) Z Z (Bd oM CI) Ac<|Ae 1 Z ?_
     exact⟨(k+1,CK i (L7 p f.toNat a order.toNat k) ys),_,rfl,zR,⟨d1,a7.up o2,ct,bv,oM,oM,oM,(by rw[DS (by rw[hsel];unfold L7;rw[Jf,zg]) oM];exact congrArg _ oM),oM,oM⟩,zD⟩
    refine DF false Z Z (A8 eq) Ac<|Ai<|Aj Z<|A6<|Au<|Au<|An<|qS [0,0,0] Z<|Ae 3 Z<|A3 ?_
    have hcf:=dK dt du hnz hdt
    exact Ah [8,9] Z (.tuple #[vy,zI ((0:Nat):Int)]) Z ⟨vy,(by rw[hcf];rfl),dl,(by have h:=(b6.up o2).low bz.size;rw[Yj hcf];rw[hyf,show k-1=order.toNat from by omega]at h;exact h)⟩
   refine Ag (by first|rfl|exact zW jr)<|Ad _ [0] Z<|Ae 1 Z<|A0<|qS [0,0] Z<|Af 1 Z<|B4 true Z Z (by decide) Ac<|Ai<|Ag Z<|qS [3,0,0,0] Z (BS (AY rI 2) o1 Bn AU Ac fun l7 m1 da kh gd=>?_)
   have jl:=da.size
   have ge:=de.trans da
   refine Ae 3 Z<|A3<|Ap ?_
   have gf:KO p f a order=2:=TW oM (by rw[(show Gp order 0 12=false from GL ‹(!(decide (((0:Nat):Int)≤order) && decide (order≤((12:Nat):Int))))=true›),Bool.and_false])
   have hcf:=NA (o:=order) (show KO p f a order≠0 by rw[gf];decide)
   rw[gf]at hcf
   exact Ah [8,9] Z (.tuple #[l7,zI ((2:Nat):Int)]) Z ⟨l7,(by rw[hcf];rfl),ge,(by rw[KP (by rw[hcf];decide)];exact(gd.up o2).low de.size)⟩
  refine Ae 5 Z<|Ag Z<|Ad _ [0] Z<|Ae 1 Z<|A0<|qS [0,0] Z<|Af 1 Z<|B4 true Z Z (by decide) Ac<|Ai<|Ag Z<|qS [3,0,0,0] Z (BS (AY rI 2) o1 Bn AU Ac fun l8 m2 db ki gg=>?_)
  have jm:=db.size
  have gh:=de.trans db
  refine Ae 3 Z<|A3<|Ap ?_
  have gf:KO p f a order=2:=TW oM (by rw[(GL ‹(!(decide ((a.length:Int)=((p.getD f.toNat Fn.zero).params-1)) && B9 a))=true›),Bool.false_and])
  have hcf:=NA (o:=order) (show KO p f a order≠0 by rw[gf];decide)
  rw[gf]at hcf
  exact Ah [8,9] Z (.tuple #[l8,zI ((2:Nat):Int)]) Z ⟨l8,(by rw[hcf];rfl),gh,(by rw[KP (by rw[hcf];decide)];exact(gg.up o2).low de.size)⟩
 refine Av false Z Z (A8 jp) Ac<|Ae 17 Z<|Aj Z<|A4<|A0<|qS [0,0] Z<|Af 1 Z ?_
 have gi:Gg p f D2≠((0:Nat):Int):=oM
 refine B4 true Z Z (A7 gi) Ac<|Ai<|Ag Z<|qS [3,0,0,0] Z (BS (AY rI 2) o1 Bn AU Ac fun l9 m3 dc kj gj=>?_)
 have jn:=dc.size
 have gk:=dd.trans dc
 refine Ae 3 Z<|A3<|Ap ?_
 have hcn:Gg p f D2≠0:=by omega
 have hkn:=Yf (a:=a) (o:=order) hcn
 have hcf:=NA (o:=order) (show KO p f a order≠0 by rw[hkn];exact hcn)
 rw[hkn]at hcf
 exact Ah [8,9] Z (.tuple #[l9,zI<|Gg p f D2]) Z ⟨l9,(by rw[hcf]),gk,(by rw[KP (by rw[hcf];exact hcn)];exact(gj.up o2).low dd.size)⟩
theorem Oq (w:World)(va:Value)(a:Sr)(k:Nat)(x:Int)(ha:Rd (B3 rI) w.heap va a)(_hk:k≤1000000000000)(_hx:BI x)(hla:a.length≤1000000000000) :
  Calls Tryz.prog 25 #[va,zI (k:Int),zI x] w (fun e w'=>∃v0:Value,e=.returned (v0)∧AB w w'∧Fr (AY rI 2) w.heap.size w'.heap.size w'.heap v0 (a.set k (md (a.getD k 0+x)))):=by
 refine At [va,zI (k:Int),zI x] 25 Tryz.func25 Z Z sM ?_
 have a8:AB w w:=AB.refl w
 have ai:=ha.lenle
 refine qT Z<|qS [3,0,4,0] Z (BS (rI) AS Bm BM Ac fun v1 w1 a3 ag a9=>?_)
 have aa:=a3.size
 have a1:=a8.trans a3
 refine Af 1 Z (Ey (v:=v1) (a:=va) Bm BM Z Z Z a9 a1.size (ha.ext g1 a1) sD (by unfold maxLen;first|omega|assumption|(simp;done)|(simp;omega)) Ac fun v2 w2 F2 a4 ab a0=>?_)
 have a2:AB w w2:=a4.below a1 (fun c hc=>Aa (A9 _) (ab c hc).1) a1.size
 have ac:w1.heap.size≤w2.heap.size:=a4.size
 refine Ae 1 Z<|A0<|qS [0,0,0,0] Z ?_
 have hnl:(([]:Sr)++a).length=a.length:=by rw[zl]
 refine Af 2 Z<|AN (v:=v2) Bm Z a0.isSl Ac ?_
 by_cases a5:(k:Int)<(((([]:Sr)++a).length:Nat):Int)
 ·refine Ay true Z Z (A7 a5) Ac<|Ai<|Ag Z<|Ad _ [0,0,0,0,0,2,0,0,0,4] Z<|Af 4 Z<|Aw (v:=v2) k Bm BM Z Z a0.isSl Z sD Ac ?_
  refine Al (p:=Ax v2 k 1) (.inr Z) (zI<|(([]:Sr)++a).getD k 0) AO Z (a0.rd1.getI sD).1 Ac (Af 1 Z ?_)
  refine AD 50 [] [] [zI<|(([]:Sr)++a).getD k 0,zI x] Z Z iH Ac (zI<|md (((([]:Sr)++a).getD k 0)+x)) (fun wq=>IP wq _ _ (a0.rd1.getI sD).2 _hx) ?_
  refine Aw (v:=v2) k Bm BM Z Z a0.isSl Z sD Ac (EV (v:=v2) (w:=w2) I0 Z Z (DI _) a0 sD Ac fun w5 F5 a6 ah ad a7=>?_)
  have ae:AB w w5:=a6.below a2 (fun c hc=>Aa (A9 _) (ad c hc).1) a2.size
  have af:w2.heap.size≤w5.heap.size:=a6.size
  exact Ai<|qS [0,0] Z<|Ae 2 Z<|A3<|Ah [6] Z v2 Z ⟨v2,rfl,ae,(by first|exact a7.up o1|(have h:=a7.up o1;rw[List.set_eq_of_length_le oM];exact h))⟩
 exact Ay false Z Z (A8 a5) Ac<|Ai<|Aj Z<|A4<|qS [0,0] Z<|Ae 2 Z<|A3<|Ah [6] Z v2 Z ⟨v2,rfl,a2,(by first|exact a0.up o1|(have h:=a0.up o1;rw[List.set_eq_of_length_le oM];exact h))⟩
theorem Zi (w:World)(va:Value)(a:List (Sr))(n m:Int)(ha:Rd (B3 (B3 rI)) w.heap va a)(_hn:BI n)(_hm:BI m)
  (hl:(a.length:Int)=n) (hr:∀k,k<a.length→(((a.getD k []).length:Nat):Int)=m):Calls Tryz.prog 21 #[va,zI n,zI m] w (fun e w'=>e=.returned (.bool true)∧AB w w'):=by
 have h:=Of w va a n m ha _hn _hm
 have hq:(decide ((a.length:Int)=n) && a.all (fun r=>decide ((r.length:Int)=m)))=true:=by
  rw[A7 hl,Bool.true_and,zm]
  intro r hr'
  obtain⟨j,hj,rfl⟩:=List.mem_iff_getElem.1 hr'
  have h9:=hr j hj
  rw[D9 hj]at h9
  exact A7 h9
 rw[hq]at h;exact h
theorem nJ {p:Prop}(h:p:=by unfold maxLen;first|omega|assumption|(simp only[zb,z9,z4,z6,z5];omega)|(simp[zb,z9,z4,z6,z5];done)|(simp[zb,z9,z4,z6,z5];omega)):p:=h
theorem nK {p:Prop}(h:p:=by first|(rw[← iE oM oM];exact⟨_,_,by assumption⟩)|(rw[← iF oM oM];exact⟨_,_,by assumption⟩)):p:=h
theorem iY {p:Prop}(h:p:=by first|rfl|exact AF (A7 oM)):p:=h
theorem L4 (w:World)(vc:Value)(cs:List UInt8)(vd:Value)(ds:List UInt8)(hcs:Rd (B3 rU) w.heap vc cs)(hds:Rd (B3 rU) w.heap vd ds)  :
  Calls Tryz.prog 4 #[vc,vd] w (fun e w'=>e=.returned (.bool true)∧AB w w'):=by
 refine At [vc,vd] 153 Tryz.func4 Z Z sM ?_
 have er:AB w w:=AB.refl w
 have f4:=hcs.lenle
 have fr:=hds.lenle
 have hS:∀b∈([]:List Nat),b<w.heap.size:=fun b hb=>by cases hb
 have ix:=KX ds ((0:Nat):Int) ((8:Nat):Int)
 have gt:=KX ds ((3:Nat):Int) ((200:Nat):Int)
 refine qT Z<|A0<|qS [0,0,3] Z<|Af 2 Z<|As 12 [] [] [vc,vd] Z Z pJ Ac (Oe _ _ _ _ _ (hcs.ext Di er)<|hds.ext Di er) ?_
 rintro e1 w1 ⟨rfl,es⟩
 refine⟨_,rfl,es,?_⟩
 have ib:=es.size
 have ew:=er.trans es
 refine Ai ?_
 cases gu:(decide (((3000:Nat):Int)<(cs.length:Int)) || decide (((3000:Nat):Int)<(ds.length:Int)))
 ·refine Aj (by first|rfl|exact zW gu)<|A4<|qS [0,3,0,0,0,0,3,4,0,0] Z<|Af 1 Z<|As 13 [] [] [vc] Z Z pK Ac (L1 _ vc _<|hcs.ext Di ew) ?_
  rintro e3 w3 ⟨vD,vaD,pD,fD,aD,rfl,et,hOD,haD,hED⟩
  refine⟨_,rfl,et,?_⟩
  have ic:=et.size
  have id:=ew.trans et
  have hfe:=hED.fe
  have hlc:=hED.len
  refine Af 1 Z<|AI (vs:=[.agg #[vD],zI fD,vaD]) (.agg #[vD]) Z Z Ac<|AI (vs:=[.agg #[vD],zI fD,vaD]) (zI fD) Z Z Ac<|AI (vs:=[.agg #[vD],zI fD,vaD]) vaD Z Z Ac (Br (z:=.agg #[zN]) YG Ac fun w4 dn ie ex=>?_)
  have ey:=dn.size
  have ez:=id.trans dn
  have d2:=hOD.ext (Ao<|AJ 153 9) dn
  have dp:=haD.ext (o1) dn
  replace ex:BX w4.heap w3.heap.size [zN]:=ex
  refine BR (vs:=[vD]) CL Z Z (by intro u hu;simp only[ze,z2,or_false]at hu;rcases hu with rfl <;> first|exact⟨rfl,rfl⟩|exact Bo d2.isSlS) ex Z Z Ac fun w5 dq ig g0=>?_
  replace g0:BX w5.heap w3.heap.size [vD]:=g0
  have g3:w4.heap.size≤w5.heap.size:=dq.size
  have g4:AB w w5:=dq.below ez (fun _ h=>zE h) ez.size
  have gv:=d2.chg (Ao<|AJ 153 9) dq fun _ h=>zA h
  have gw:=dp.chg (o1) dq fun _ h=>zA h
  refine Ae 2 Z<|qS [0,3,0,0] Z<|Af 1 Z<|As 15 [] [] [vd,zI ((0:Nat):Int),zI ((8:Nat):Int)] Z Z bF Ac (GW _ _ _ _ _ (hds.ext Di g4) oM oM oM) ?_
  rintro e8 w8 ⟨rfl,d7⟩
  refine⟨_,rfl,d7,?_⟩
  have g5:=d7.size
  have gx:=g4.trans d7
  have c4:=gv.ext (Ao<|AJ 153 9) d7
  have c5:=gw.ext (o1) d7
  have d3:=g0.ext d7
  refine AG (((1:Nat):Int)+(FS ds ((0:Nat):Int) ((8:Nat):Int))) Z Z (Dh sD sD) Ac<|Ae 1 Z<|A0 ?_
  refine Ad _ [2,0,0,0,3,0,0,0,0,0] Z ?_
  generalize hg_o:(((1:Nat):Int)+(FS ds ((0:Nat):Int) ((8:Nat):Int)))=o
  refine AZ (p:=zP w3.heap.size) (.inr Z) [vD] CL Z (fun f2 cx=>LD.of_box<|BX.ext (w:=w8) d3 cx) Z Ac<|Af 3 Z<|As 14 [] [] [.agg #[vD],zI fD,vaD,zI o] Z Z pL Ac (Iu _ 9 vD (pD) _ _ _ _ (RN.of_frF c4 fun b hb=>by cases hb) oM c5.rd1 oM hED.sz) ?_
  rintro e9 w9 ⟨d8,rfl,d9,d4⟩
  refine⟨_,rfl,d9,?_⟩
  have ih:=d9.size
  have ii:=gx.trans d9
  have c6:=c4.ext (Ao<|AJ 153 9) d9
  have c7:=c5.ext (o1) d9
  have d5:=d3.ext d9
  refine Af 1 Z<|AI (vs:=[d8,zI<|Ny pD fD aD o]) d8 Z Z Ac<|AI (vs:=[d8,zI<|Ny pD fD aD o]) (zI<|Ny pD fD aD o) Z Z Ac<|Ae 2 Z<|qS [2,0,0,0,3,0,0,0,0,0] Z<|AZ (p:=zP w3.heap.size) (.inr Z) [vD] CL Z (fun f2 cx=>LD.of_box<|BX.ext (w:=w9) d5 cx) Z Ac<|Af 3 Z<|As 16 [] [] [.agg #[vD],zI fD,vaD,zI o] Z Z pM Ac (It _ 9 vD (pD) _ _ _ _ (RN.of_frF c6 fun b hb=>by cases hb) oM c7.rd1 oM hED.sz) ?_
  rintro jc fx ⟨a0,rfl,b1,bd⟩
  refine⟨_,rfl,b1,?_⟩
  have gy:=b1.size
  have dr:=ii.trans b1
  have c8:=c6.ext (Ao<|AJ 153 9) b1
  have be:=c7.ext (o1) b1
  have da:=d5.ext b1
  have b2:=d4.ext (o2) b1
  refine Af 1 Z<|AI (vs:=[a0,zI<|Ny pD fD aD o]) a0 Z Z Ac<|AI (vs:=[a0,zI<|Ny pD fD aD o]) (zI<|Ny pD fD aD o) Z Z Ac<|Ae 2 Z<|A0<|qS [0,0,0] Z<|Af 2 Z<|B4 false Z Z sM Ac<|Ai<|Aj Z<|A4<|A0<|qS [0,0] Z<|Af 1 Z ?_
  by_cases dt:Ny pD fD aD o≠((0:Nat):Int)
  ·exact B4 true Z Z (A7 dt) Ac<|Ai<|Ag Z<|qT Z<|A3<|Ap<|Ah [4] Z (.bool true) Z ⟨iY,dr⟩
  refine B4 false Z Z (A8 dt) Ac<|Ai<|Aj Z<|A4<|A0<|qS [0,0,0,0,0,3,0,0,0,3,0,3,0,0] Z ?_
  have hcz:Ny pD fD aD o=0:=by omega
  obtain⟨xsI,TI,hIS⟩:=iD hcz
  have hil:=hIS.l
  have hal:=hED.al
  have hme:=hIS.me
  have hib:=hIS.I.b
  have hrow:=hIS.s
  have hRQ:=hIS.rq hIS.s hIS.fs
  have hRR:=hIS.res
  have hSM:=hIS.same
  refine Af 2 Z<|AN (v:=vaD) Bm Z be.isSl Ac<|Af 1 Z ?_
  refine AG (o+((1:Nat):Int)) Z Z (Dh sD sD) Ac ?_
  refine As 21 [] [] [a0,zI (aD.length:Int),zI (o+((1:Nat):Int))] Z Z pP Ac (Zi _ _ _ _ _ bd.rd2 oM oM oM (by intro r hr;have:=(hrow r hr).1;omega)) ?_
  rintro jd je ⟨rfl,aw⟩
  refine⟨_,rfl,aw,?_⟩
  have du:=aw.size
  have dv:=dr.trans aw
  have c9:=c8.ext (Ao<|AJ 153 9) aw
  have ca:=be.ext (o1) aw
  have db:=da.ext aw
  have b3:=b2.ext (o2) aw
  have a4:=bd.ext (o2) aw
  refine BH false Z Z Ac<|Af 2 Z<|As 23 [] [] [a0,zI ((0:Nat):Int)] Z Z pQ (Ak (e:=63) Z Z Z) (M9 _ _ _ (0) a4.rd2 sD oM (by intro r hr;have:=(hrow r hr).1;omega)) ?_
  rintro jf jg ⟨dw,rfl,ax,bf⟩
  refine⟨_,rfl,ax,?_⟩
  have dx:=ax.size
  have dy:=dv.trans ax
  have cb:=c9.ext (Ao<|AJ 153 9) ax
  have bg:=ca.ext (o1) ax
  have dc:=db.ext ax
  have b4:=b3.ext (o2) ax
  have af:=a4.ext (o2) ax
  refine Af 1 Z<|As 22 [] [] [dw,vaD] Z Z kR (Ak (e:=63) Z Z Z) (JG _ _ _ _ _ bf.rd1 bg.rd1) ?_
  rintro jh j0 ⟨rfl,ab⟩
  refine⟨_,rfl,ab,?_⟩
  have dz:=ab.size
  have e0:=dy.trans ab
  have bh:=cb.ext (Ao<|AJ 153 9) ab
  have cc:=bg.ext (o1) ab
  have cd:=dc.ext ab
  have b5:=b4.ext (o2) ab
  have a1:=af.ext (o2) ab
  have ag:=bf.ext (o1) ab
  rw[show(decide (((DP pD fD aD o).map (fun r=>r.getD 0 0))=aD))=true from A7 hIS.fs]
  refine BH false Z Z (Ak (e:=63) Z Z Z)<|Ae 1 Z<|Aj Z<|A4<|qS [2,0,0,3,0,0,0,0,0] Z<|AZ (p:=zP w3.heap.size) (.inr Z) [vD] CL Z (fun f2 cx=>LD.of_box<|BX.ext (w:=j0) cd cx) Z Ac<|Af 2 Z<|As 24 [] [] [.agg #[vD],zI fD,a0] Z Z kS Ac (FX _ 9 vD (pD) _ a0 (DP pD fD aD o) (RN.of_frF bh fun b hb=>by cases hb) oM (RN.of_fr2 a1 fun b hb=>by cases hb) a1.cap hED.sz) ?_
  rintro ji j2 ⟨rfl,ac⟩
  refine⟨_,rfl,ac,?_⟩
  have e2:=ac.size
  have e4:=e0.trans ac
  have bi:=bh.ext (Ao<|AJ 153 9) ac
  have ce:=cc.ext (o1) ac
  have cf:=cd.ext ac
  have b6:=b5.ext (o2) ac
  have a2:=a1.ext (o2) ac
  have ah:=ag.ext (o1) ac
  refine Af 1 Z<|AI (vs:=[zI<|S3 pD fD<|DP pD fD aD o,zI<|LA pD fD<|DP pD fD aD o]) (zI<|S3 pD fD<|DP pD fD aD o) Z Z Ac<|AI (vs:=[zI<|S3 pD fD<|DP pD fD aD o,zI<|LA pD fD<|DP pD fD aD o]) (zI<|LA pD fD<|DP pD fD aD o) Z Z Ac<|Ae 2 Z<|qS [2,0,0,3,0,0,0,0,0] Z<|AZ (p:=zP w3.heap.size) (.inr Z) [vD] CL Z (fun f2 cx=>LD.of_box<|BX.ext (w:=j2) cf cx) Z Ac<|Af 2 Z ?_
  refine As 18 [] [] [.agg #[vD],zI fD,a0] Z Z pN Ac (L3 _ 9 vD (pD) _ a0 (DP pD fD aD o) (RN.of_frF bi fun b hb=>by cases hb) oM (RN.of_fr2 a2 fun b hb=>by cases hb) a2.cap hED.sz) ?_
  rintro jj jk ⟨bm,rfl,ad,bj⟩
  refine⟨_,rfl,ad,?_⟩
  have e5:=ad.size
  have e6:=e4.trans ad
  have cg:=bi.ext (Ao<|AJ 153 9) ad
  have ch:=ce.ext (o1) ad
  have dd:=cf.ext ad
  have b7:=b6.ext (o2) ad
  have a5:=a2.ext (o2) ad
  have ai:=ah.ext (o1) ad
  refine Af 1 Z<|AI (vs:=[bm,zI<|Rk pD fD<|DP pD fD aD o]) bm Z Z Ac<|AI (vs:=[bm,zI<|Rk pD fD<|DP pD fD aD o]) (zI<|Rk pD fD<|DP pD fD aD o) Z Z Ac<|Ae 2 Z<|A0<|qS [0,0,0,0,0,0,0,0,0,0,0,0,0,0,0,3,0,0] Z<|Af 1 Z ?_
  have g6:¬(LA pD fD (DP pD fD aD o)≠((0:Nat):Int)):=(fun h9=>h9 hRQ)
  refine B4 false Z Z (A8 g6) Ac<|Af 2 Z ?_
  have g7:¬(Rk pD fD (DP pD fD aD o)≠((0:Nat):Int)):=(fun h9=>h9 hSM.1)
  refine B4 false Z Z (A8 g7) (Ak (e:=86) Z Z Z)<|Af 4 Z ?_
  refine AG (o+((1:Nat):Int)) Z Z (Dh sD sD) (Ak (e:=90) Z Z Z) ?_
  have g8:¬(S3 pD fD (DP pD fD aD o)≠o+((1:Nat):Int)):=oM
  refine B4 false Z Z (A8 g8) (Ak (e:=90) Z Z Z)<|Af 4 Z<|As 19 [] [] [bm,a0] Z Z pO (Ak (e:=96) Z Z Z) (KY _ _ _ _ _ bj.rd2 a5.rd2) ?_
  rintro jl jm ⟨rfl,a7⟩
  refine⟨_,rfl,a7,?_⟩
  have e7:=a7.size
  have de:=e6.trans a7
  have ci:=cg.ext (Ao<|AJ 153 9) a7
  have cj:=ch.ext (o1) a7
  have df:=dd.ext a7
  have b8:=b7.ext (o2) a7
  have aj:=a5.ext (o2) a7
  have ak:=ai.ext (o1) a7
  have am:=bj.ext (o2) a7
  rw[show(decide ((bD pD fD (DP pD fD aD o))=(DP pD fD aD o)))=true from A7 hSM.2]
  refine BH false Z Z (Ak (e:=96) Z Z Z)<|Ae 1 Z<|Aj Z<|A4<|qS [0,0,3,0,0] Z ?_
  have hak:=KX ds ((1:Nat):Int) o
  refine Af 2 Z<|As 15 [] [] [vd,zI ((1:Nat):Int),zI o] Z Z bF Ac (GW _ _ _ _ _ (hds.ext Di de) oM oM oM) ?_
  rintro jn jo ⟨rfl,a8⟩
  refine⟨_,rfl,a8,?_⟩
  have ea:=a8.size
  have dg:=de.trans a8
  have ck:=ci.ext (Ao<|AJ 153 9) a8
  have cl:=cj.ext (o1) a8
  have dh:=df.ext a8
  have b9:=b8.ext (o2) a8
  have a6:=aj.ext (o2) a8
  have an:=ak.ext (o1) a8
  have ao:=am.ext (o2) a8
  refine AG (((1:Nat):Int)+(FS ds ((1:Nat):Int) o)) Z Z (Dh sD sD) Ac<|Ae 1 Z<|A0 ?_
  refine Ad _ [0,0,0,3,0] Z ?_
  generalize hg_kk:(((1:Nat):Int)+(FS ds ((1:Nat):Int) o))=kkI at *
  obtain⟨kk,rfl⟩:∃n:Nat,kkI=(n:Int):=⟨kkI.toNat,zO⟩
  have hkk:1≤(kk:Int)∧(kk:Int)≤o:=by have:=hak.2;omega
  have haq:=KX ds ((2:Nat):Int) (((DP pD fD aD o).length:Nat):Int)
  refine Af 2 Z<|AN (v:=a0) Bn Z a6.isSl Ac<|As 15 [] [] [vd,zI ((2:Nat):Int),zI (((DP pD fD aD o).length:Nat):Int)] Z Z bF Ac (GW _ _ _ _ _ (hds.ext Di dg) oM oM oM) ?_
  rintro jp j3 ⟨rfl,a9⟩
  refine⟨_,rfl,a9,?_⟩
  have eb:=a9.size
  have ec:=dg.trans a9
  have cm:=ck.ext (Ao<|AJ 153 9) a9
  have cn:=cl.ext (o1) a9
  have co:=dh.ext a9
  have ba:=b9.ext (o2) a9
  have ap:=a6.ext (o2) a9
  have aq:=an.ext (o1) a9
  have ar:=ao.ext (o2) a9
  refine Ae 1 Z<|qS [3,0] Z ?_
  generalize hg_qq:(FS ds ((2:Nat):Int) (((DP pD fD aD o).length:Nat):Int))=qq
  obtain⟨BO,hBO⟩:∃b:Nat,b=j3.heap.size:=⟨_,rfl⟩
  have hwB:w.heap.size≤BO:=by omega
  have ij:w3.heap.size<BO:=by have:=BX.lt co;omega
  refine BS rV Bc Bn AU Ac fun j4 jq ae g9 di=>?_
  have ed:=ae.size
  have ee:=ec.trans ae
  have cp:=cm.ext (Ao<|AJ 153 9) ae
  have dj:=cn.ext (o1) ae
  have dk:=co.ext ae
  have cq:=ba.ext (o2) ae
  have au:=ap.ext (o2) ae
  have bo:=aq.ext (o1) ae
  have bp:=ar.ext (o2) ae
  obtain⟨ik,jr,il⟩:=Ic.nil (S:=[]) (by rw[← hBO]at di;exact di)
  refine Ae 1 Z<|A0<|qT Z<|A5 ?_
  refine AQ (S:=Nat×Value) (fun⟨i,vo⟩=>([(19,vo),(20,zI (i:Int)),(1,vd),(5,zP w3.heap.size),(6,zI fD),(11,a0),(17,zI (kk:Int)),(18,zI qq)])) (fun⟨i,vo⟩ W=>AB w W∧Fr (D7 3 (LZ 153 9) 49) w1.heap.size w3.heap.size W.heap vD pD∧Fr (AY (AY rI 2) 27) w9.heap.size fx.heap.size W.heap a0 (DP pD fD aD o)∧BX W.heap w3.heap.size [vD]∧i≤(DP pD fD aD o).length∧w.heap.size≤BO∧BO≤W.heap.size∧fx.heap.size≤BO∧w3.heap.size≤BO∧Pa 27 [] BO W.heap vo ((O6 (DP pD fD aD o) qq.toNat kk (((1:Nat):Int)+FS ds ((3:Nat):Int) ((200:Nat):Int))).take i)∧w1.heap.size≤W.heap.size) (fun⟨i,vo⟩=>(DP pD fD aD o).length-i) (0,j4) ⟨rfl,rfl,rfl,rfl,rfl,rfl,rfl,rfl,trivial⟩ ⟨ee,cp,au,dk,oM,oM,oM,oM,oM,(by exact⟨_,_,by assumption⟩),oM⟩ ?_
  clear er es et ie dn ey ez ig dq g3 g4 gv gw d7 g5 gx c4 c5 d4 d9 c6 c7 bd b1 c8 be b2 aw du dv c9 ca b3 a4 bf ax dx dy cb bg b4 af ab dz e0 bh cc b5 a1 ag ac e2 e4 bi ce b6 a2 ah bj ad e5 e6 cg ch b7 a5 ai a7 e7 de ci cj b8 aj ak am a8 ea dg ck cl b9 a6 an ao a9 eb ec cm cn ba ap aq ar di g9 ae ed ee cp dj cq au bo bp
  rintro⟨i,vo⟩ ρ25 f1 ⟨cr,bk,a3,ay,ga,gb,gc,hyU,hpU,hbld,gz⟩
  have i0:w.heap.size≤f1.heap.size:=cr.size
  have hwl:((O6 (DP pD fD aD o) qq.toNat kk (((1:Nat):Int)+FS ds ((3:Nat):Int) ((200:Nat):Int))).take i).length=i:=by rw[List.length_take,MD];omega
  have im:=ay.lt
  obtain⟨io,j5,bb⟩:=hbld
  have hFl:∀b∈j5,b<f1.heap.size:=bb.lt
  refine A0<|qS [0,0,0,0] Z<|Af 2 Z<|AN (v:=a0) Bn Z a3.isSl Ac ?_
  by_cases ef:(i:Int)<(((DP pD fD aD o).length:Nat):Int)
  ·refine Ay true Z Z (A7 ef) Ac<|Ai<|Ag Z<|A4<|A0<|A5<|qS [0,0,0] Z<|Af 2 Z ?_
   by_cases eg:(i:Int)=qq
   ·refine Av true Z Z (A7 eg) Ac<|Ai<|Ag Z<|AW _ [0,0,0,0,1,0,0,3,0,3,3,4,0] mixed (by kernel_rfl)<|Af 3 Z<|Aw (v:=a0) i Bn AU Z Z a3.isSl Z sD Ac ?_
    obtain⟨eh,ei,ej⟩:=a3.rd2.get (k:=i) [] sD
    have i1:=ej.lenle
    refine Al (p:=Ax a0 i 1) (.inl Z) eh B7 Z ei Ac<|Af 2 Z<|As 15 [] [] [vd,zI ((3:Nat):Int),zI ((200:Nat):Int)] Z Z bF Ac (GW _ _ _ _ _ (hds.ext Di cr.drew) oM oM oM) ?_
    rintro js jt ⟨rfl,aa⟩
    refine⟨_,rfl,aa,?_⟩
    replace aa:=aa.of_drew
    have i2:=aa.size
    have gd:=cr.trans aa
    have bq:=bk.ext (Ao<|AJ 153 9) aa
    have br:=a3.ext (o2) aa
    have bs:=ay.ext aa
    have bn:=ej.ext g1 aa
    have ek:=AR aa ei
    have ge:=bb.ext aa
    refine AG (((1:Nat):Int)+(FS ds ((3:Nat):Int) ((200:Nat):Int))) Z Z (Dh sD sD) Ac ?_
    refine As 25 [] [] [eh,zI (kk:Int),zI (((1:Nat):Int)+(FS ds ((3:Nat):Int) ((200:Nat):Int)))] Z Z pR Ac (Oq _ _ _ (kk) _ bn sD oM (zH<|(hrow i oM).1)) ?_
    rintro ju f3 ⟨d6,rfl,az,bl⟩
    refine⟨_,rfl,az,?_⟩
    have i3:=az.size
    have gf:=gd.trans az
    have bt:=bq.ext (Ao<|AJ 153 9) az
    have bu:=br.ext (o2) az
    have bv:=bs.ext az
    have cy:=bn.ext g1 az
    have el:=AR az ek
    have gg:=ge.ext az
    refine Bs (u:=d6) (B:=f3.heap.size) Bc Bn AU Z Z (LR f3.heap.size f3.heap.size _<|⟨(Bl bl.isSl).1,(Bl bl.isSl).2⟩) (A9 _) Ac fun j6 j7 b0 ip gh=>?_
    have i4:=b0.size
    have em:=gf.trans b0
    have bw:=bt.ext (Ao<|AJ 153 9) b0
    have bx:=bu.ext (o2) b0
    have bz:=bv.ext b0
    have eu:=cy.ext g1 b0
    have i5:=AR b0 el
    have c0:=bl.ext (o1) b0
    have ct:=gg.ext b0
    refine Ei (v:=vo) (a:=j6) (u:=d6) Bn AU Z Z Z ct oM gh (RN.of_fr1 c0 fun b hb=>zH<|hFl b (by simpa using hb)) sD nJ Ac ?_
    rintro j8 iy G41 cu cz ⟨iq,jv,ir⟩
    have i6:j7.heap.size≤iy.heap.size:=cu.size
    have gi:AB w iy:=cu.below em (fun c hc=>Aa hwB (ct.low c (cz c hc))) em.size
    have gj:=bw.chg (Ao<|AJ 153 9) cu fun c hc=>.inr (zH<|ct.low _ (cz _ hc))
    have gk:=bx.chg (o2) cu fun c hc=>.inr (zH<|ct.low _ (cz _ hc))
    have gl:=bz.chg cu fun hm=>zH<|ct.low _ (cz _ hm)
    refine Ae 1 Z<|Ad _ [0,0,0] Z<|Af 1 Z<|AG ((i+1:Nat):Int) Z Z (Bd oM sD) Ac<|Ae 1 Z ?_
    exact⟨(i+1,j8),_,rfl,zR,⟨gi,gj,gk,gl,oM,oM,oM,oM,oM,nK,oM⟩,zD⟩
   refine Av false Z Z (A8 eg) Ac<|Ai<|Aj Z<|Ad _ [0,0,0,0,2,3,4,0] Z<|Af 3 Z<|Aw (v:=a0) i Bn AU Z Z a3.isSl Z sD Ac ?_
   obtain⟨dl,en,dm⟩:=a3.rd2.get (k:=i) [] sD
   have i7:=dm.lenle
   refine Al (p:=Ax a0 i 1) (.inr Z) dl B7 Z en Ac (Bs (u:=dl) (B:=f1.heap.size) Bc Bn AU Z Z (LR f1.heap.size f1.heap.size _<|(RN.of dm).one1 g1) (A9 _) Ac fun j9 ja bc is gm=>?_)
   have i8:=bc.size
   have eo:=cr.trans bc
   have c1:=bk.ext (Ao<|AJ 153 9) bc
   have av:=a3.ext (o2) bc
   have c2:=ay.ext bc
   have ev:=dm.ext g1 bc
   have ep:=AR bc en
   have c3:=bb.ext bc
   refine Ei (v:=vo) (a:=j9) (u:=dl) Bn AU Z Z Z c3 oM gm (RN.of_frU (Fr.rowFr o1 av sD ep) fun b hb=>zH<|c3.low b (by simpa using hb)) sD nJ Ac ?_
   rintro jb iz G49 cv d0 ⟨it,jw,iu⟩
   have i9:ja.heap.size≤iz.heap.size:=cv.size
   have gn:AB w iz:=cv.below eo (fun c hc=>Aa hwB (c3.low c (d0 c hc))) eo.size
   have go:=c1.chg (Ao<|AJ 153 9) cv fun c hc=>.inr (zH<|c3.low _ (d0 _ hc))
   have gp:=av.chg (o2) cv fun c hc=>.inr (zH<|c3.low _ (d0 _ hc))
   have gq:=c2.chg cv fun hm=>zH<|c3.low _ (d0 _ hm)
   refine Ae 1 Z<|Ad _ [0,0,0] Z<|Af 1 Z<|AG ((i+1:Nat):Int) Z Z (Bd oM sD) Ac<|Ae 1 Z ?_
   exact⟨(i+1,jb),_,rfl,zR,⟨gn,go,gp,gq,oM,oM,oM,oM,oM,nK,oM⟩,zD⟩
  refine Ay false Z Z (A8 ef) Ac<|Ai<|Aj Z<|A6<|Au<|Au<|An<|qS [2,0,0,3,0,0,0,0,0] Z ?_
  have cw:=bb.done fun b hb=>absurd hb z2
  have eq:=bb.cap
  rw[za (by rw[MD];omega)]at cw
  have hWR:=hIS.wrG (q:=qq.toNat) (k:=kk) (x:=((1:Nat):Int)+FS ds ((3:Nat):Int) ((200:Nat):Int)) oM oM oM oM
  have iv:=hWR.2
  refine AZ (p:=zP w3.heap.size) (.inr Z) [vD] CL Z (fun f2 cx=>LD.of_box<|BX.ext (w:=f1) ay cx) Z Ac<|Af 2 Z<|As 24 [] [] [.agg #[vD],zI fD,vo] Z Z kS Ac (FX _ 9 vD (pD) _ vo (O6 (DP pD fD aD o) qq.toNat kk (((1:Nat):Int)+FS ds ((3:Nat):Int) ((200:Nat):Int))) (RN.of_frF bk fun b hb=>by cases hb) oM cw eq hED.sz) ?_
  rintro jx jy ⟨rfl,d1⟩
  refine⟨_,rfl,d1,?_⟩
  have ia:=d1.size
  have gr:=cr.trans d1
  have iw:=cw.ext g2 d1
  refine Af 1 Z<|AI (vs:=[zI<|S3 pD fD<|O6 (DP pD fD aD o) qq.toNat kk (((1:Nat):Int)+FS ds ((3:Nat):Int) ((200:Nat):Int)),zI<|LA pD fD<|O6 (DP pD fD aD o) qq.toNat kk (((1:Nat):Int)+FS ds ((3:Nat):Int) ((200:Nat):Int))]) (zI<|S3 pD fD<|O6 (DP pD fD aD o) qq.toNat kk (((1:Nat):Int)+FS ds ((3:Nat):Int) ((200:Nat):Int))) Z Z Ac<|AI (vs:=[zI<|S3 pD fD<|O6 (DP pD fD aD o) qq.toNat kk (((1:Nat):Int)+FS ds ((3:Nat):Int) ((200:Nat):Int)),zI<|LA pD fD<|O6 (DP pD fD aD o) qq.toNat kk (((1:Nat):Int)+FS ds ((3:Nat):Int) ((200:Nat):Int))]) (zI<|LA pD fD<|O6 (DP pD fD aD o) qq.toNat kk (((1:Nat):Int)+FS ds ((3:Nat):Int) ((200:Nat):Int))) Z Z Ac<|Ae 2 Z ?_
  refine qS [0,0,0,0,0,0,0,0] Z<|Af 1 Z ?_
  have gs:LA pD fD (O6 (DP pD fD aD o) qq.toNat kk (((1:Nat):Int)+FS ds ((3:Nat):Int) ((200:Nat):Int)))=((0:Nat):Int):=hWR.1
  exact Av true Z Z (A7 gs) Ac<|Af 3 Z<|Av (decide (S3 pD fD (O6 (DP pD fD aD o) qq.toNat kk (((1:Nat):Int)+FS ds ((3:Nat):Int) ((200:Nat):Int)))=(kk:Int))) Z Z Z (Ak (e:=148) Z Z Z)<|Ae 2 Z<|A3<|Ah [4] Z (.bool<|decide (S3 pD fD (O6 (DP pD fD aD o) qq.toNat kk (((1:Nat):Int)+FS ds ((3:Nat):Int) ((200:Nat):Int)))=(kk:Int))) Z ⟨iY,gr⟩
 exact Ag (by first|rfl|exact zW gu)<|qT Z<|A3<|Ap<|Ah [4] Z (.bool true) Z ⟨iY,ew⟩
end
end Go.Proofs.YtbajepcpgncekaaGreat
