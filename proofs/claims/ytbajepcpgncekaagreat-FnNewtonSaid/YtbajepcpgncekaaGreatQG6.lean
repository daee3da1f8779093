/- Sd, Sl, Sp, Wa, Yj, Ym, Yp: texts of this claim, joined; what the claim does not come to is left out. -/
import Derived.Test.YtbajepcpgncekaaGreatQG5
import Derived.Test.YtbajepcpgncekaaGreatProg
set_option linter.unusedVariables false
set_option linter.unusedSimpArgs false
namespace Go.Proofs.YtbajepcpgncekaaGreat
open Go Go.RowKit
section
set_option maxHeartbeats 4000000
set_option maxRecDepth 100000
attribute [local irreducible] LW
theorem YZ {n c:Nat}{M:List (List Int)}{det R:Int}(h:LQ n (n-c) c M det=R)(hc:c<n)(hp:U9 n c M≠n) :
    LQ n (n-(c+1)) (c+1) (Is c ((Bu M c (U9 n c M) []).getD c []) (inv (((Bu M c (U9 n c M) []).getD c []).getD c 0)) (n-(c+1)) (Bu M c (U9 n c M) [])) (md ((if U9 n c M≠c then md (-det)else det)*((Bu M c (U9 n c M) []).getD c []).getD c 0))=R:=by
  rw[← h,show n-c=(n-(c+1))+1 from by omega]
  conv=>rhs;unfold LQ
  rw[if_neg hp]
theorem Z0 {n c:Nat}{M:List (List Int)}{det R:Int}(h:LQ n (n-c) c M det=R)(hc:c<n)(hp:U9 n c M=n):(0:Int)=R:=by
  rw[← h]
  obtain⟨m,hm⟩:∃m,n-c=m+1:=⟨n-c-1,zO⟩
  rw[hm]
  unfold LQ
  rw[if_pos hp]
theorem bF {n c:Nat}{M:List (List Int)}{det R:Int}(h:LQ n (n-c) c M det=R)(hc:n≤c):det=R:=by
  rw[← h,show n-c=0 from by omega];rfl
theorem Z1 {n c j:Nat}{M1 M2:List (List Int)}(h1:Sq n M1)(hM:M2=Is c (M1.getD c []) (inv ((M1.getD c []).getD c 0)) j M1)(hj:c+1+j<n) :
    M2.set (c+1+j) (Ok (M2.getD (c+1+j) []) (M2.getD c []) (md ((M2.getD (c+1+j) []).getD c 0*inv ((M1.getD c []).getD c 0))))=Is c (M1.getD c []) (inv ((M1.getD c []).getD c 0)) (j+1) M1:=by
  have e:M2.getD c []=M1.getD c []:=by rw[hM];exact OX h1 [] (A9 _) j zO
  rw[e]
  subst hM
  rfl
theorem NJ {β:Type}(l:List β)(i j:Nat)(d:β):Bu l i j d=Bu l j i d:=by
  unfold Bu
  by_cases h:i=j
  · subst h;rfl
  · rw[List.set_comm _ _ h]
theorem UH {n c j:Nat}{M1 M2:List (List Int)}(h1:Sq n M1)(hM:M2=Is c (M1.getD c []) (inv ((M1.getD c []).getD c 0)) j M1)(hj:c+1+j<n) :
    M2.set (c+1+j) (Ok (M2.getD (c+1+j) []) (M2.getD c []) (md ((M2.getD (c+1+j) []).getD c 0*inv ((M2.getD c []).getD c 0))))=Is c (M1.getD c []) (inv ((M1.getD c []).getD c 0)) (j+1) M1:=by
  have e:M2.getD c []=M1.getD c []:=by rw[hM];exact OX h1 [] (A9 _) j zO
  rw[← Z1 h1 hM hj,e]
theorem eL {p:Prop}(h:p:=by first|exact DZ (by rw[← hpv.out];exact(SF oM).symm)|exact DZ (by rw[← hpv.out];exact(MJ (A8 ‹¬(M.getD p []).getD c 0=((0:Nat):Int)›)).symm)):p:=h
theorem eN {p:Prop}(h:p:=by first|exact DZ (by rw[if_pos oM])|exact DZ (by rw[if_neg oM])):p:=h
theorem O8 (w:World)(va:Value)(a:List (Sr))(ha:Rd (B3 (B3 rI)) w.heap va a)(hS:Sq a.length a)(h6:a.length≤6) :
  Calls Tryz.prog 78 #[va] w (fun e w'=>e=.returned (zI (DC a))∧AB w w'):=by
 refine Au [va] 101 Tryz.func78 Z Z sM ?_
 have bi:AB w w:=AB.refl w
 have d6:=ha.lenle
 refine qD Z<|qC [0,3,0] Z<|Af 1 Z<|As 161 [] [] [va] Z Z dG Ac (Jw _ _ _ (ha.ext g2 bi) oM (by intro k;by_cases hk:k<a.length;(have:=hS.row k hk;omega);(rw[show a.getD k []=[]from by simp[Nat.not_lt.1 hk]];simp))) ?_
 rintro e1 w1 ⟨a0,rfl,be,ab⟩
 refine⟨_,rfl,be,?_⟩
 have bj:=be.size
 have c7:=bi.trans be
 refine Ae 1 Z<|qD Z<|A0<|qD Z<|A5 ?_
 refine AR (S:=Nat×List (Sr)×Int) (fun⟨c,M,det⟩=>([(4,zI det),(5,zI (c:Int)),(3,a0)])) (fun⟨c,M,det⟩ W=>AB w W∧Fr (AX (AX rI 2) 27) w.heap.size W.heap.size W.heap a0 M∧c≤a.length∧Sq a.length M∧(0≤det∧det<1000003)∧Hid (LQ a.length (a.length-c) c M det=DC a)) (fun⟨c,M,det⟩=>a.length-c) (0,a,((1:Nat):Int)) ⟨rfl,rfl,rfl,trivial⟩ ⟨c7,ab.up o2,sD,hS,oM,(by exact DZ Z)⟩ ?_
 clear bi ab be bj c7
 rintro⟨c,M,det⟩ ρ2 w2 ⟨bf,a5,c8,hSM,hdet,hdF⟩
 have bk:w.heap.size≤w2.heap.size:=bf.size
 have hlM:=hSM.len
 refine A0<|qC [0,0,0,0] Z<|Af 2 Z<|AL (v:=a0) Bm Z a5.isSl Ac ?_
 by_cases c9:(c:Int)<(M.length:Int)
 ·refine Ay true Z Z (A7 c9) Ac<|Ai<|Ag Z<|A4<|A0<|A5<|qC [0,0] Z<|Ae 2 Z<|A0<|I6 (S:=Nat) (fun p=>([(6,zI (p:Int)),(3,a0),(4,zI det),(5,zI (c:Int))])) (fun p W=>AB w W∧Fr (AX (AX rI 2) 27) w.heap.size w2.heap.size W.heap a0 M∧c≤p∧p≤a.length∧Hid (p=U9 a.length c M)) ?_ ?_
  ·refine A5 ?_
   refine AR (S:=Nat) (fun p=>([(6,zI (p:Int)),(3,a0),(4,zI det),(5,zI (c:Int))])) (fun p W=>AB w W∧Fr (AX (AX rI 2) 27) w.heap.size w2.heap.size W.heap a0 M∧c≤p∧p≤a.length∧Hid (NT (fun r=>decide ((M.getD r []).getD c 0=0)) (a.length-p) p=U9 a.length c M)) (fun p=>a.length-p) c ⟨rfl,rfl,rfl,rfl,trivial⟩ ⟨bf,a5,sD,sD,(by exact DZ Z)⟩ ?_
   clear a5
   rintro p ρ5 w5 ⟨bg,a3,ca,cb,hpv⟩
   have cs:w.heap.size≤w5.heap.size:=bg.size
   refine A0<|qC [0,0,0,0,0,0,0,0,2,0,0,2,0,0] Z<|Af 2 Z<|AL (v:=a0) Bm Z a3.isSl Ac ?_
   by_cases cc:(p:Int)<(M.length:Int)
   ·refine Ay true Z Z (A7 cc) Ac<|Af 3 Z<|Aw (v:=a0) p Bm AV Z Z a3.isSl Z sD (Ak (e:=22) Z Z Z) ?_
    obtain⟨bl,ct,bm⟩:=a3.rd2.get (k:=p) [] sD
    have cu:=bm.lenle
    refine Al (p:=Ax a0 p 1) (.inr Z) bl B7 Z ct (Ak (e:=22) Z Z Z) ?_
    have hrp:=hSM.row p oM
    refine Af 1 Z<|Aw (v:=bl) c Bo BQ Z Z bm.isSl Z sD (Ak (e:=22) Z Z Z) ?_
    refine Al (p:=Ax bl c 1) (.inr Z) (zI<|(M.getD p []).getD c 0) AN Z (bm.getI sD).1 (Ak (e:=22) Z Z Z) ?_
    by_cases cd:(M.getD p []).getD c 0=((0:Nat):Int)
    ·refine Av true Z Z (A7 cd) (Ak (e:=22) Z Z Z)<|Ae 1 Z<|Ag Z<|A4<|A5<|Ad _ [0,0,0] Z<|Af 1 Z<|AG ((p+1:Nat):Int) Z Z (Bc oM sD) Ac<|Ae 1 Z ?_
     exact⟨p+1,_,rfl,zR,⟨bg,a3,sD,sD,(by exact DZ (by rw[← hpv.out,Ko (f:=fun r=>decide ((M.getD r []).getD c 0=0)) (n:=a.length) (p:=p) oM (A7 ‹(M.getD p []).getD c 0=((0:Nat):Int)›)]))⟩,zD⟩
    refine Av false Z Z (A8 cd) (Ak (e:=22) Z Z Z)<|Ae 1 Z<|Aj Z<|A6<|At<|At<|An ?_
    exact⟨p,_,rfl,zR,⟨bg,a3,sD,sD,eL⟩⟩
   refine Ay false Z Z (A8 cc) Ac<|Ae 10 Z<|Aj Z<|A6<|At<|At<|An ?_
   exact⟨p,_,rfl,zR,⟨bg,a3,sD,sD,eL⟩⟩
  clear a5
  rintro p ρ4 w4 ⟨aj,a2,ce,cf,hpe⟩
  have bn:w.heap.size≤w4.heap.size:=aj.size
  refine A0<|qC [0,0,0,0] Z<|Af 2 Z<|AL (v:=a0) Bm Z a2.isSl Ac ?_
  by_cases cg:(p:Int)=(M.length:Int)
  ·exact Av true Z Z (A7 cg) Ac<|Ai<|Ag Z<|qD Z<|A3<|Aq<|AJ<|Aq<|Aq<|AJ<|Aq<|Ah [2] Z (zI ((0:Nat):Int)) Z ⟨B5<|Z0 hdF.out oM (by have h9:=hpe.out;omega),aj⟩
  refine Av false Z Z (A8 cg) Ac<|Ai<|Aj Z<|A4<|A0<|I6 (S:=Int) (fun(d2:Int)=>([(4,zI d2),(3,a0),(5,zI (c:Int))])) (fun(d2:Int) (W:World)=>AB w W∧Fr (AX (AX rI 2) 27) w.heap.size W.heap.size W.heap a0 (Bu M c p [])∧Hid (d2=(if p≠c then md (-det)else det))∧(0≤d2∧d2<1000003)) ?_ ?_
  ·refine qC [0,0,0] Z<|Af 2 Z ?_
   by_cases ak:(c:Int)<(p:Int)
   ·refine C6 true Z Z (A7 ak) Ac<|Ai<|Ag Z<|qC [0,0,0,2,0] Z<|Af 2 Z<|Aw (v:=a0) p Bm AV Z Z a2.isSl Z sD Ac ?_
    obtain⟨al,am,an⟩:=a2.rd2.get (k:=p) [] sD
    have ch:=an.lenle
    refine Al (p:=Ax a0 p 1) (.inr Z) al B7 Z am Ac<|Ae 1 Z<|qC [0,0,0,0,0,2,0,4] Z<|Af 4 Z<|Aw (v:=a0) c Bm AV Z Z a2.isSl Z sD Ac ?_
    obtain⟨ao,ap,aq⟩:=a2.rd2.get (k:=c) [] sD
    have ci:=aq.lenle
    refine Al (p:=Ax a0 c 1) (.inr Z) ao B7 Z ap Ac<|Aw (v:=a0) p Bm AV Z Z a2.isSl Z sD Ac ?_
    have ar:=Bl aq.isSl
    have au:=Bl an.isSl
    obtain⟨cv,av,ac,ad⟩:=a2.opn o1 oM
    obtain⟨ua14,aw,ax⟩:=ad c sD
    obtain⟨uc14,ay,az⟩:=ad p sD
    have b0:=IV aw ax ap
    have b1:=IV ay az am
    refine L6 o1 (v:=a0) (u:=ao) (w:=w4) KN Z Z av ar (by rw[ac];exact sD) Ac fun d7 db b2 cw bo bp=>?_
    have b3:AB w d7:=b2.below aj (fun c hc=>Aa (A9 _) (bo c hc).1) aj.size
    have cj:=b2.size
    refine Ai<|qC [0,0,0,0,4] Z<|Af 3 Z<|Aw (v:=a0) c Bm AV Z Z a2.isSl Z sD Ac ?_
    refine L6 o1 (v:=a0) (u:=al) (w:=d7) KN Z Z bp au (by rw[z6,ac];exact sD) Ac fun d8 dc b4 cx bq br=>?_
    have bs:AB w d8:=b4.below b3 (fun c hc=>Aa (A9 _) (bq c hc).1) b3.size
    have ck:=b4.size
    have b5:=br.swap [] (i:=p) (j:=c) sD sD (by unfold Bu;rw[b0,b1])
    exact Ai<|Ad _ [0,0,0] Z<|Af 1 Z<|AD 83 [] [] [zI det] Z Z kK Ac (zI<|md (-det)) (fun wq=>Jv wq _ oM oM)<|Ae 1 Z ⟨md (-det),_,rfl,zR,⟨bs,(by first|(rw[NJ];exact b5.up o2)|(rw[show p=c from by omega,MB _ _ _ oM];exact b5.up o2)),eN,(by first|exact BT _|exact hdet)⟩⟩
   exact C6 false Z Z (A8 ak) Ac<|Ai<|Aj Z<|A4 ⟨det,_,rfl,zR,⟨aj,(by first|(rw[NJ];exact a2.up o2)|(rw[show p=c from by omega,MB _ _ _ oM];exact a2.up o2)),eN,(by first|exact BT _|exact hdet)⟩⟩
  clear bf bk a2 aj bn
  rintro d2 ρ10 d9 ⟨af,a4,cy,hd2r⟩
  have b6:w.heap.size≤d9.heap.size:=af.size
  refine qC [0,0,0,0,2,0,0,2,0,0] Z ?_
  have bh:Sq a.length (Bu M c p []):=hSM.swap oM oM
  have d0:=bh.len
  have d1:=bh.row c oM
  refine Af 3 Z<|Aw (v:=a0) c Bm AV Z Z a4.isSl Z sD Ac ?_
  obtain⟨ag,bt,a7⟩:=a4.rd2.get (k:=c) [] sD
  have b7:=a7.lenle
  refine Al (p:=Ax a0 c 1) (.inr Z) ag B7 Z bt Ac<|Af 1 Z<|Aw (v:=ag) c Bo BQ Z Z a7.isSl Z sD Ac ?_
  refine Al (p:=Ax ag c 1) (.inr Z) (zI<|((Bu M c p []).getD c []).getD c 0) AN Z (a7.getI sD).1 Ac ?_
  refine AD 112 [] [] [zI d2,zI<|((Bu M c p []).getD c []).getD c 0] Z Z Jt Ac (zI<|md (d2*(((Bu M c p []).getD c []).getD c 0))) (fun wq=>Cx wq _ _ oM (a7.getI sD).2)<|Ae 1 Z<|qC [0,0,0] Z<|Af 1 Z ?_
  refine AG ((c+1:Nat):Int) Z Z (Bc oM sD) Ac<|Ae 1 Z<|A5 ?_
  refine AR (S:=Nat×List (Sr)) (fun⟨j,M2⟩=>([(8,zI ((c+1+j:Nat):Int)),(3,a0),(4,zI<|md (d2*(((Bu M c p []).getD c []).getD c 0))),(5,zI (c:Int))])) (fun⟨j,M2⟩ W=>AB w W∧Fr (AX (AX rI 2) 27) w.heap.size W.heap.size W.heap a0 M2∧c+1+j≤a.length∧Sq a.length M2∧Hid (M2=Is c ((Bu M c p []).getD c []) (inv<|((Bu M c p []).getD c []).getD c 0) j (Bu M c p []))) (fun⟨j,M2⟩=>a.length-j) (0,Bu M c p []) ⟨rfl,rfl,rfl,rfl,trivial⟩ ⟨af,a4.up o2,sD,bh,(by exact DZ Z)⟩ ?_
  clear a4 af b6 b7
  rintro⟨j,M2⟩ ρ19 w19 ⟨a8,a1,bu,ae,hEl⟩
  have cl:w.heap.size≤w19.heap.size:=a8.size
  have d3:=ae.len
  have d4:=ae.row c oM
  have cm:=ae.row (c+1+j)
  refine A0<|qC [0,0,0,0] Z<|Af 2 Z<|AL (v:=a0) Bm Z a1.isSl Ac ?_
  by_cases b8:((c+1+j:Nat):Int)<(M2.length:Int)
  ·refine Ay true Z Z (A7 b8) Ac<|Ai<|Ag Z<|A4<|A0<|A5<|AS _ [0,0,0,1,0,0,0,1,0,0,0,1,0,0,1,0,0,0,1,0,0,1,0,0,4] mixed (by kernel_rfl) ?_
   have d5:=cm oM
   refine Af 2 Z<|Aw (v:=a0) (c+1+j) Bm AV Z Z a1.isSl Z sD Ac ?_
   obtain⟨b9,ba,bv⟩:=a1.rd2.get (k:=c+1+j) [] sD
   have cn:=bv.lenle
   refine Al (p:=Ax a0 (c+1+j) 1) (.inl Z) b9 B7 Z ba Ac<|Af 2 Z<|Aw (v:=a0) c Bm AV Z Z a1.isSl Z sD Ac ?_
   obtain⟨bb,bc,bw⟩:=a1.rd2.get (k:=c) [] sD
   have co:=bw.lenle
   refine Al (p:=Ax a0 c 1) (.inl Z) bb B7 Z bc Ac<|Af 2 Z<|Aw (v:=a0) (c+1+j) Bm AV Z Z a1.isSl Z sD Ac ?_
   obtain⟨ah,bx,a9⟩:=a1.rd2.get (k:=c+1+j) [] sD
   have cp:=a9.lenle
   refine Al (p:=Ax a0 (c+1+j) 1) (.inl Z) ah B7 Z bx Ac<|Af 1 Z<|Aw (v:=ah) c Bo BQ Z Z a9.isSl Z sD Ac ?_
   refine Al (p:=Ax ah c 1) (.inl Z) (zI<|(M2.getD (c+1+j) []).getD c 0) AN Z (a9.getI sD).1 Ac (Af 2 Z ?_)
   refine Aw (v:=a0) c Bm AV Z Z a1.isSl Z sD Ac ?_
   obtain⟨ai,bz,aa⟩:=a1.rd2.get (k:=c) [] sD
   have cq:=aa.lenle
   refine Al (p:=Ax a0 c 1) (.inl Z) ai B7 Z bz Ac<|Af 1 Z<|Aw (v:=ai) c Bo BQ Z Z aa.isSl Z sD Ac ?_
   refine Al (p:=Ax ai c 1) (.inl Z) (zI<|(M2.getD c []).getD c 0) AN Z (aa.getI sD).1 Ac ?_
   refine AD 163 [] [] [zI<|(M2.getD c []).getD c 0] Z Z Ye Ac (zI<|inv<|(M2.getD c []).getD c 0) (fun wq=>H2 wq _ (aa.getI sD).2) ?_
   refine AD 112 [] [] [zI<|(M2.getD (c+1+j) []).getD c 0,zI<|inv<|(M2.getD c []).getD c 0] Z Z Jt Ac (zI<|md (((M2.getD (c+1+j) []).getD c 0)*(inv<|(M2.getD c []).getD c 0))) (fun wq=>Cx wq _ _ (a9.getI sD).2 (M8 _)) ?_
   obtain⟨G27,c0,c1,bd,c2,c3⟩:=a1.row_two o1 [] sD ba
   refine AE 162 [] [] [b9,bb,zI<|md (((M2.getD (c+1+j) []).getD c 0)*(inv<|(M2.getD c []).getD c 0))] Z Z dH Ac (IK _ _ _ _ _ _ _ c0 c1 (fun w2 h2=>(c3 _ _ oM sD bc w2 h2.of_drew).imp fun C h=>h.rd id) (E0 _) (zH<|cm oM) (by exact ae.num _) (by exact ae.num _) (by exact BT _)) ?_
   rintro dd da ⟨rfl,a6,c4⟩
   replace a6:=a6.of_drew
   refine⟨_,rfl,?_⟩
   have c5:AB w da:=a6.below a8 (fun b hb=>Aa (A9 _) (bd b hb).1) a8.size
   have cz:=bd
   have c6:=c2 a6 c4
   have cr:=a6.size
   refine Ai<|Ad _ [0,0,0] Z<|Af 1 Z<|AG (((c+1+j)+1:Nat):Int) Z Z (Bc oM sD) Ac<|Ae 1 Z ?_
   exact⟨(j+1,M2.set (c+1+j) (Ok (M2.getD (c+1+j) []) (M2.getD c []) (md (((M2.getD (c+1+j) []).getD c 0)*(inv ((M2.getD c []).getD c 0)))))),_,rfl,zR,⟨c5,c6.up o2,sD,(by exact Sq.set (r:=c+1+j) ae oM (by rw[HK];exact ae.row _ oM) (SE _ _ _)),(by exact DZ (UH bh hEl.out oM))⟩,zD⟩
  refine Ay false Z Z (A8 b8) Ac<|Ai<|Aj Z<|A6<|At<|At<|An<|Ad _ [0,0,0] Z<|Af 1 Z<|AG ((c+1:Nat):Int) Z Z (Bc oM sD) Ac<|Ae 1 Z ?_
  exact⟨(c+1,M2,md (d2*(((Bu M c p []).getD c []).getD c 0))),_,rfl,zR,⟨a8,a1.up o2,sD,ae,(by exact BT _),(by exact DZ (by have h:=YZ hdF.out oM (by have h9:=hpe.out;omega);rw[← hpe.out]at h;rw[← cy.out]at h;obtain rfl:j=a.length-(c+1):=oM;rw[← hEl.out]at h;exact h))⟩,zD⟩
 exact Ay false Z Z (A8 c9) Ac<|Ai<|Aj Z<|A6<|At<|At<|An<|qC [0,0] Z<|Ae 2 Z<|A3<|Ah [2] Z (zI det) Z ⟨B5<|bF hdF.out oM,bf⟩
theorem M0 (w:World)(va:Value)(a:List (Sr))(vb:Value)(b:Sr)(ha:Rd (B3 (B3 rI)) w.heap va a)(hb:Rd (B3 rI) w.heap vb b)(hS:Sq a.length a)(h6:a.length≤6)(hbl:b.length=a.length)(hqb:B8 b=true)(hok:Ja a b≠none) :
  Calls Tryz.prog 84 #[va,vb] w (fun e w'=>∃v0:Value,e=.returned (v0)∧AB w w'∧Fr (AX rI 2) w.heap.size w'.heap.size w'.heap v0 (Jb a b)):=by
 refine Au [va,vb] 116 Tryz.func84 Z Z sM ?_
 have cj:AB w w:=AB.refl w
 have eg:=ha.lenle
 have eh:=hb.lenle
 refine qD Z<|qC [0,3,0] Z<|Af 1 Z<|As 161 [] [] [va] Z Z dG Ac (Jw _ _ _ (ha.ext g2 cj) oM (by intro k;by_cases hk:k<a.length;(have:=hS.row k hk;omega);(rw[show a.getD k []=[]from by simp[Nat.not_lt.1 hk]];simp))) ?_
 rintro e1 w1 ⟨a0,rfl,ch,aq⟩
 refine⟨_,rfl,ch,?_⟩
 have ck:=ch.size
 have d9:=cj.trans ch
 refine Ae 1 Z<|A0<|qD Z<|A5 ?_
 have kY3:=OR.of (X:=[]) (U':=0) aq (A9 _) fun b hb=>by cases hb
 refine AR (S:=Nat) (fun i=>([(6,zI (i:Int)),(1,vb),(5,a0)])) (fun i W=>AB w W∧OR 2 27 w.heap.size [] W.heap a0 (CJ i (E6 a b) a)∧i≤a.length) (fun i=>a.length-i) 0 ⟨rfl,rfl,rfl,trivial⟩ ⟨d9,(by rw[D6];exact kY3),sD⟩ ?_
 clear cj aq ch ck d9
 rintro i ρ2 w2 ⟨b7,a5,da⟩
 have cl:w.heap.size≤w2.heap.size:=b7.size
 have hml:=Vx a b i
 have hri:i<a.length→((CJ i (E6 a b) a).getD i []).length=a.length:=fun h=>by rw[Pa a b h];exact hS.row i h
 refine A0<|qC [0,0,0,0] Z<|Af 2 Z<|AL (v:=a0) Bm Z a5.isSl Ac ?_
 by_cases db:(i:Int)<(((CJ i (E6 a b) a).length:Nat):Int)
 ·refine Ay true Z Z (A7 db) Ac<|Ai<|Ag Z<|A4<|A0<|A5<|AS _ [0,0,0,0,0,1,0,0,0,1,3,4,0,4] mixed (by kernel_rfl)<|Af 4 Z<|Aw (v:=a0) i Bm AV Z Z a5.isSl Z sD Ac ?_
  obtain⟨dc,dd,de⟩:=a5.rd2.get (k:=i) [] sD
  have dx:=de.lenle
  refine Al (p:=Ax a0 i 1) (.inl Z) dc B7 Z dd Ac<|Af 2 Z<|Aw (v:=vb) i Bo BQ Z Z hb.isSl Z sD Ac ?_
  refine Al (p:=Ax vb i 1) (.inl Z) (zI<|b.getD i 0) AN Z (AQ b7.drew (hb.getI sD).1) Ac ?_
  refine Bt (u:=zI<|b.getD i 0) (B:=w2.heap.size) AT Bo BQ Z Z (Mz w2.heap.size w2.heap.size _ _ (hb.getI sD).2) (A9 _) Ac fun v6 w6 av ec dy=>?_
  replace av:=av.of_drew
  have dz:=av.size
  have cm:=b7.trans av
  have aj:=a5.ext (o2) av
  have df:=de.ext g1 av
  have cn:=AQ av dd
  refine UY (v:=a0) (u:=dc) (a:=v6) (r:=i) Bo BQ Z Z Z aj cm.size (fun b hb=>by cases hb) sD cn dy.rd1 (by have:=hS.row i oM;rw[Pa a b oM];simp only[z9,zb];omega) (by unfold maxLen;have:=hS.row i oM;rw[Pa a b oM];simp only[z9,zb];omega) Ac fun v8 w8 F8 dg e0 dh=>?_
  have di:AB w w8:=dg.below cm (fun b hb=>(e0 b hb).1) cm.size
  have e3:=dg.size
  refine Aw (v:=a0) i Bm AV Z Z dh.isSl Z sD Ac (UZ (v:=a0) (u:=v8) (w:=w8) KN Z Z dh Ac fun w9 F9 dj ed e4 e5=>?_)
  have e6:AB w w9:=dj.below di (fun b hb=>(e4 b hb).1) di.size
  have e7:=dj.size
  refine Ai<|Ad _ [0,0,0] Z<|Af 1 Z<|AG ((i+1:Nat):Int) Z Z (Bc oM sD) Ac<|Ae 1 Z ?_
  exact⟨i+1,_,rfl,zR,⟨e6,(by rw[← Vw a b oM];exact e5),sD⟩,zD⟩
 refine Ay false Z Z (A8 db) Ac<|Ai<|Aj Z<|A6<|At<|At<|An<|A0<|qD Z<|A5 ?_
 have kF11:=a5.fr
 refine AR (S:=Nat×List (Sr)) (fun⟨c,M⟩=>([(7,zI (c:Int)),(5,a0)])) (fun⟨c,M⟩ W=>AB w W∧Fr (AX (AX rI 2) 27) w.heap.size W.heap.size W.heap a0 M∧c≤a.length∧Sh Nm 0 a.length (a.length+1) M∧Hid (NP nA a.length (a.length-c) c M=Ja a b)) (fun⟨c,M⟩=>a.length-c) (0,E6 a b) ⟨rfl,rfl,trivial⟩ ⟨b7,(by have h:=kF11.up o2;rw[DQ (by simp[E6]) oM]at h;exact h),sD,(by exact GV hS hqb),(by exact DZ Z)⟩ ?_
 clear a5 b7 cl
 rintro⟨c,M⟩ ρ10 ee ⟨a9,a3,co,hSM,hJ⟩
 have b8:w.heap.size≤ee.heap.size:=a9.size
 have hlM:=hSM.len
 refine A0<|qC [0,0,0,0] Z<|Af 2 Z<|AL (v:=a0) Bm Z a3.isSl Ac ?_
 by_cases b9:(c:Int)<(M.length:Int)
 ·refine Ay true Z Z (A7 b9) Ac<|Ai<|Ag Z<|A4<|A0<|A5<|qC [0,0] Z<|Ae 2 Z<|A0<|A5 ?_
  have hne:=Zk hJ.out oM hok
  have hpl:=Ld nA hne oM
  refine AR (S:=Nat) (fun p=>([(8,zI (p:Int)),(5,a0),(7,zI (c:Int))])) (fun p W=>AB w W∧Fr (AX (AX rI 2) 27) w.heap.size W.heap.size W.heap a0 M∧c≤p∧p<a.length∧Hid (NT (fun r=>nA.z<|(M.getD r []).getD c nA.d) (a.length-p) p=HA nA a.length c M)) (fun p=>a.length-p) c ⟨rfl,rfl,rfl,trivial⟩ ⟨a9,a3.up o2,sD,oM,(by exact DZ Z)⟩ ?_
  clear a3 a9 b8
  rintro p ρ13 ei ⟨ad,a1,cp,cq,hpv⟩
  have ba:w.heap.size≤ei.heap.size:=ad.size
  refine A0<|qC [0,0,0,2,0,0,2,0] Z ?_
  have hrp:=hSM.row p oM
  have hrl:=hrp.len
  refine Af 2 Z<|Aw (v:=a0) p Bm AV Z Z a1.isSl Z sD Ac ?_
  obtain⟨aw,cr,ax⟩:=a1.rd2.get (k:=p) [] sD
  have bb:=ax.lenle
  refine Al (p:=Ax a0 p 1) (.inr Z) aw B7 Z cr Ac<|Af 1 Z<|Aw (v:=aw) c Bo BQ Z Z ax.isSl Z sD Ac ?_
  refine Al (p:=Ax aw c 1) (.inr Z) (zI<|(M.getD p []).getD c 0) AN Z (ax.getI sD).1 Ac ?_
  by_cases bc:(M.getD p []).getD c 0=((0:Nat):Int)
  ·refine Av true Z Z (A7 bc) Ac<|Ai<|Ag Z<|A4<|A5<|Ad _ [0,0,0] Z<|Af 1 Z<|AG ((p+1:Nat):Int) Z Z (Bc oM sD) Ac<|Ae 1 Z ?_
   exact⟨p+1,_,rfl,zR,⟨ad,a1.up o2,sD,(by have e1:=hpv.out;rw[Ko (f:=fun r=>nA.z ((M.getD r []).getD c nA.d)) (n:=a.length) (p:=p) oM (A7 ‹(M.getD p []).getD c 0=((0:Nat):Int)›)]at e1;have e2:=(OW (fun r=>nA.z ((M.getD r []).getD c nA.d)) (a.length-(p+1)) (p+1)).1;omega),(by exact DZ (by rw[← hpv.out,Ko (f:=fun r=>nA.z ((M.getD r []).getD c nA.d)) (n:=a.length) (p:=p) oM (A7 ‹(M.getD p []).getD c 0=((0:Nat):Int)›)]))⟩,zD⟩
  refine Av false Z Z (A8 bc) Ac<|Ai<|Aj Z<|A6<|At<|At<|An<|qC [0,0,0,2,0] Z ?_
  have hpe:p=HA nA a.length c M:=by rw[← hpv.out];exact(MJ (f:=fun r=>nA.z ((M.getD r []).getD c nA.d)) (A8 ‹¬(M.getD p []).getD c 0=((0:Nat):Int)›)).symm
  have hrp:=hSM.row p oM
  have hrl:=hrp.len
  refine Af 2 Z<|Aw (v:=a0) p Bm AV Z Z a1.isSl Z sD Ac ?_
  obtain⟨ak,bd,be⟩:=a1.rd2.get (k:=p) [] sD
  have bf:=be.lenle
  refine Al (p:=Ax a0 p 1) (.inr Z) ak B7 Z bd Ac<|Ae 1 Z<|qC [0,0,0,0,0,2,0,4] Z<|Af 4 Z<|Aw (v:=a0) c Bm AV Z Z a1.isSl Z sD Ac ?_
  obtain⟨bg,bh,bi⟩:=a1.rd2.get (k:=c) [] sD
  have bj:=bi.lenle
  refine Al (p:=Ax a0 c 1) (.inr Z) bg B7 Z bh Ac<|Aw (v:=a0) p Bm AV Z Z a1.isSl Z sD Ac ?_
  have bk:=Bl bi.isSl
  have dk:=Bl be.isSl
  obtain⟨e8,bl,ar,au⟩:=a1.opn o1 oM
  obtain⟨ua18,bm,bn⟩:=au c sD
  obtain⟨uc18,bo,bp⟩:=au p sD
  have bq:=IV bm bn bh
  have br:=IV bo bp bd
  refine L6 o1 (v:=a0) (u:=bg) (w:=ei) KN Z Z bl bk (by rw[ar];exact sD) Ac fun ej et ay cs bs az=>?_
  have b0:AB w ej:=ay.below ad (fun c hc=>Aa (A9 _) (bs c hc).1) ad.size
  have bt:=ay.size
  have al:=Za<|az.row [] sD br
  refine Ai<|qC [0,0,0,0,0,0,2,0,3,0,4] Z<|Af 5 Z<|Aw (v:=ak) c Bo BQ Z Z al.isSl Z sD Ac ?_
  refine Al (p:=Ax ak c 1) (.inr Z) (zI<|(M.getD p []).getD c 0) AN Z (al.getI sD).1 Ac ?_
  refine AD 163 [] [] [zI<|(M.getD p []).getD c 0] Z Z Ye Ac (zI<|inv<|(M.getD p []).getD c 0) (fun wq=>H2 wq _ (al.getI sD).2)<|As 165 [] [] [ak,zI<|inv<|(M.getD p []).getD c 0] Z Z Yf Ac (FO _ _ _ _ al (M8 _) (zH<|hrp.len)) ?_
  rintro eu ek ⟨bu,rfl,ae,a7⟩
  refine⟨_,rfl,ae,?_⟩
  have bv:=ae.size
  have b1:=b0.trans ae
  have a8:=az.ext o1 ae
  refine Aw (v:=a0) c Bm AV Z Z a1.isSl Z sD Ac ?_
  refine L6 o1 (v:=a0) (u:=bu) (w:=ek) KN Z Z a8 (Bl a7.isSl) (by rw[z6,ar];exact sD) Ac fun el ew am ct b2 bw=>?_
  have bx:AB w el:=am.below b1 (fun c hc=>Aa (A9 _) (b2 c hc).1) b1.size
  have bz:=am.size
  have c0:=a7.chg (o1) am fun c hc=>zH<|b2 c hc
  have c1:=bw.rot o1 [] (c:=c) (p:=p) sD sD (by rw[bq]) c0 oM b0.size
  refine Ai<|qC [0] Z ?_
  have hD:Sh Nm 0 a.length (a.length+1) (Gm nA c p M):=hSM.div P0 oM oM oM
  have hlD:=hD.len
  refine Ae 1 Z<|A5<|AR (S:=Nat) (fun i=>([(10,zI (i:Int)),(5,a0),(7,zI (c:Int))])) (fun i W=>AB w W∧Fr (AX (AX rI 2) 27) w.heap.size W.heap.size W.heap a0 (CJ i (Co nA a.length c<|Gm nA c p M)<|Gm nA c p M)∧i≤a.length) (fun i=>a.length-i) 0 ⟨rfl,rfl,rfl,trivial⟩ ⟨bx,(by rw[D6,← nN oM oM];exact c1.up o2),sD⟩ ?_
  clear a1 ad ba bb bf bj az bs cs ay b0 bt a7 ae bv b1 a8 bw b2 ct am bx bz c0 c1
  rintro i ρ23 em ⟨af,a2,cu⟩
  have dl:w.heap.size≤em.heap.size:=af.size
  have hlr:=Ue (R:=nA) (c:=c) hlD i
  refine A0<|qC [0,0,0,0] Z<|Af 2 Z<|AL (v:=a0) Bm Z a2.isSl Ac ?_
  by_cases c2:(i:Int)<(((CJ i (Co nA a.length c (Gm nA c p M)) (Gm nA c p M)).length:Nat):Int)
  ·refine Ay true Z Z (A7 c2) Ac<|Ai<|Ag Z<|A4<|A0<|A5<|qC [0,0,0] Z<|Af 2 Z ?_
   by_cases c3:(i:Int)≠(c:Int)
   ·refine B4 true Z Z (A7 c3) Ac<|Ai<|Ag Z<|AS _ [0,0,0,1,0,0,0,1,0,0,0,1,0,0,1,4] mixed (by kernel_rfl) ?_
    have hrI:=Oo P0 hD (c:=c) oM oM (show i≤a.length by omega) (show i<a.length by omega)
    have hrC:=Oo P0 hD (c:=c) oM oM (show i≤a.length by omega) (show c<a.length by omega)
    have hrIl:=hrI.len
    have hrCl:=hrC.len
    refine Af 2 Z<|Aw (v:=a0) i Bm AV Z Z a2.isSl Z sD Ac ?_
    obtain⟨c4,c5,cv⟩:=a2.rd2.get (k:=i) [] sD
    have dm:=cv.lenle
    refine Al (p:=Ax a0 i 1) (.inl Z) c4 B7 Z c5 Ac<|Af 2 Z<|Aw (v:=a0) c Bm AV Z Z a2.isSl Z sD Ac ?_
    obtain⟨c6,c7,cw⟩:=a2.rd2.get (k:=c) [] sD
    have dn:=cw.lenle
    refine Al (p:=Ax a0 c 1) (.inl Z) c6 B7 Z c7 Ac<|Af 2 Z<|Aw (v:=a0) i Bm AV Z Z a2.isSl Z sD Ac ?_
    obtain⟨b3,cx,an⟩:=a2.rd2.get (k:=i) [] sD
    have dp:=an.lenle
    refine Al (p:=Ax a0 i 1) (.inl Z) b3 B7 Z cx Ac<|Af 1 Z<|Aw (v:=b3) c Bo BQ Z Z an.isSl Z sD Ac ?_
    refine Al (p:=Ax b3 c 1) (.inl Z) (zI<|((CJ i (Co nA a.length c<|Gm nA c p M)<|Gm nA c p M).getD i []).getD c 0) AN Z (an.getI sD).1 Ac ?_
    obtain⟨G29,cy,cz,c8,d0,d1⟩:=a2.row_two o1 [] sD c5
    refine AE 162 [] [] [c4,c6,zI<|((CJ i (Co nA a.length c<|Gm nA c p M)<|Gm nA c p M).getD i []).getD c 0] Z Z dH Ac (IK _ _ _ _ _ _ _ cy cz (fun w2 h2=>(d1 _ _ oM sD c7 w2 h2.of_drew).imp fun C h=>h.rd id) (an.getI sD).2 (by have:=hrI.len;have:=hrC.len;omega) (by exact Qh hrI) (by exact Qh hrC) (by exact hrI.val c oM)) ?_
    rintro ex en ⟨rfl,ag,d2⟩
    replace ag:=ag.of_drew
    refine⟨_,rfl,?_⟩
    have d3:AB w en:=ag.below af (fun b hb=>Aa (A9 _) (c8 b hb).1) af.size
    have e9:=c8
    have c9:=d0 ag d2
    have dq:=ag.size
    refine Ai<|Ad _ [0,0,0] Z<|Af 1 Z<|AG ((i+1:Nat):Int) Z Z (Bc oM sD) Ac<|Ae 1 Z ?_
    exact⟨i+1,_,rfl,zR,⟨d3,(by first|(rw[← Qo hlD oM oM oM];exact c9.up o2)|(rw[JQ hlD oM oM];exact c9.up o2)),sD⟩,zD⟩
   refine B4 false Z Z (A8 c3) Ac<|Ai<|Aj Z<|A4<|Ad _ [0,0,0] Z<|Af 1 Z<|AG ((i+1:Nat):Int) Z Z (Bc oM sD) Ac<|Ae 1 Z ?_
   exact⟨i+1,_,rfl,zR,⟨af,(by first|(rw[← Qo hlD oM oM oM];exact a2.up o2)|(rw[JQ hlD oM oM];exact a2.up o2)),sD⟩,zD⟩
  refine Ay false Z Z (A8 c2) Ac<|Ai<|Aj Z<|A6<|At<|At<|An<|Ad _ [0,0,0] Z<|Af 1 Z<|AG ((c+1:Nat):Int) Z Z (Bc oM sD) Ac<|Ae 1 Z ?_
  exact⟨(c+1,CJ i (Co nA a.length c (Gm nA c p M)) (Gm nA c p M)),_,rfl,⟨rfl,rfl,trivial⟩,⟨af,(by have h:=a2.up o2;exact h),sD,(by rw[DQ (by simp[Co,hlD]) oM];exact hD.rows P0 oM oM),(by rw[DQ (by simp[Co,hlD]) oM];exact DZ (by have h:=Ql hJ.out oM (by rw[← hpe];omega);rw[← hpe]at h;exact h))⟩,zD⟩
 refine Ay false Z Z (A8 b9) Ac<|Ai<|Aj Z<|A6<|At<|At<|An<|qC [3,0] Z (BU (rI) AT Bo BQ Ac fun eo ey ao d4 ca=>?_)
 have cb:=ao.size
 have cc:=a9.trans ao
 have a6:=a3.ext (o2) ao
 refine Ae 1 Z<|A0<|qD Z<|A5 ?_
 have hsome:=SR hJ.out oM
 refine AR (S:=Nat×Value) (fun⟨k,vo⟩=>([(11,vo),(12,zI (k:Int)),(5,a0)])) (fun⟨k,vo⟩ W=>AB w W∧Fr (AX rI 2) ee.heap.size W.heap.size W.heap vo ((M.take k).map fun r=>r.getD a.length 0)∧Fr (AX (AX rI 2) 27) w.heap.size ee.heap.size W.heap a0 M∧k≤a.length∧ee.heap.size≤W.heap.size) (fun⟨k,vo⟩=>a.length-k) (0,eo) ⟨rfl,rfl,rfl,trivial⟩ ⟨cc,ca.up o1,a6,sD,oM⟩ ?_
 clear a3 ca d4 ao cb cc a6
 rintro⟨k,vo⟩ ρ31 ef ⟨b4,ah,a4,d5,dr⟩
 have ds:w.heap.size≤ef.heap.size:=b4.size
 refine A0<|qC [0,0,0,0] Z<|Af 2 Z<|AL (v:=a0) Bm Z a4.isSl Ac ?_
 by_cases cd:(k:Int)<(M.length:Int)
 ·refine Ay true Z Z (A7 cd) Ac<|Ai<|Ag Z<|A4<|A0<|A5<|Ad _ [0,0,0,0,2,0,0,0,2,3,4,0] Z ?_
  have hrk:=(hSM.row k oM).len
  refine Af 3 Z<|Aw (v:=a0) k Bm AV Z Z a4.isSl Z sD Ac ?_
  obtain⟨b5,ce,ai⟩:=a4.rd2.get (k:=k) [] sD
  have dt:=ai.lenle
  refine Al (p:=Ax a0 k 1) (.inr Z) b5 B7 Z ce Ac<|Af 1 Z<|AL (v:=a0) Bm Z a4.isSl Ac<|Aw (v:=b5) M.length Bo BQ Z Z ai.isSl Z sD Ac ?_
  refine Al (p:=Ax b5 M.length 1) (.inr Z) (zI<|(M.getD k []).getD M.length 0) AN Z (ai.getI sD).1 Ac ?_
  refine Bt (u:=zI<|(M.getD k []).getD M.length 0) (B:=ef.heap.size) AT Bo BQ Z Z (Mz ef.heap.size ef.heap.size _ _ (ai.getI sD).2) (A9 _) Ac fun ep ez aa ea cf=>?_
  have du:=aa.size
  have cg:=b4.trans aa
  have ab:=ah.ext (o1) aa
  have ac:=a4.ext (o2) aa
  have ci:=ai.ext g1 aa
  have dv:=AQ aa ce
  refine FK (v:=vo) (a:=ep) Bo BQ Z Z Z ab oM cf.rd1 sD (by unfold maxLen;first|omega|assumption|(simp;done)|(simp;omega)) Ac fun er es f1 ap b6 d6=>?_
  have d7:AB w es:=ap.below cg (fun c hc=>Aa a9.size (b6 c hc).1) cg.size
  have dw:=ap.size
  have d8:=ac.chg (o2) ap fun c hc=>zH<|b6 c hc
  have eb:=cf.chg (o1) ap fun c hc=>zH<|b6 c hc
  refine Ae 1 Z<|Ad _ [0,0,0] Z<|Af 1 Z<|AG ((k+1:Nat):Int) Z Z (Bc oM sD) Ac<|Ae 1 Z ?_
  exact⟨(k+1,er),_,rfl,zR,⟨d7,(by have h:=d6.up o1;rw[hlM]at h;rw[DH [] oM];exact h),d8,sD,oM⟩,zD⟩
 exact Ay false Z Z (A8 cd) Ac<|Ai<|Aj Z<|A6<|At<|At<|An<|qC [0,0] Z<|Ae 2 Z<|A3<|Ah [4] Z vo Z ⟨vo,rfl,b4,(by have h:=(ah.up o1).low a9.size;rw[za oM]at h;rw[Pb hsome];exact h)⟩
theorem NK (w:World)(n:Nat)(k:Int)(_hn:n≤1000000000000)(_hk:BI k)(hn:n≤1000)(hk:0≤k∧k<(n:Int)) :
  Calls Tryz.prog 160 #[zI (n:Int),zI k] w (fun e w'=>∃v0:Value,e=.returned (v0)∧AB w w'∧Fr (AX rI 2) w.heap.size w'.heap.size w'.heap v0 (uN n k.toNat)):=by
 refine Au [zI (n:Int),zI k] 12 Tryz.func160 Z Z sM ?_
 have a4:AB w w:=AB.refl w
 refine qD Z<|qC [0,3,0] Z<|Af 1 Z (FJ (n:=n) Bo BQ Z Z Z sD Ac fun v1 w1 a0 aa a1=>?_)
 have a5:=a0.size
 have a2:=a4.trans a0
 refine Ae 1 Z<|qC [0,0,0,4] Z<|Af 2 Z<|Aw (v:=v1) ((k).toNat) Bo BQ Z Z a1.isSl oM sD Ac ?_
 refine ES (v:=v1) (w:=w1) HV Z Z oM a1 sD Ac fun w2 F2 a3 ab a6 a7=>?_
 have a8:AB w w2:=a3.below a2 (fun c hc=>Aa (A9 _) (a6 c hc).1) a2.size
 have a9:=a3.size
 exact Ai<|qC [0,0] Z<|Ae 2 Z<|A3<|Ah [4] Z v1 Z ⟨v1,rfl,a8,(by exact a7.up o1)⟩
theorem O9 (w:World)(vy:Value)(y:List (Sr))(By Uy:Nat)(m:Nat)(hy:Fr (AX (AX rI 2) 27) By Uy w.heap vy y)(hUy:Uy≤w.heap.size)(_hm:m≤1000000000000)(hml:∀k,k<y.length→m≤(y.getD k []).length∧(y.getD k []).length≤1000000)(hyl:y.length≤1000000) :
  Calls Tryz.prog 82 #[vy,zI (m:Int)] w (fun e w'=>∃v0:Value,e=.returned (v0)∧AB w w'∧Fr (AX (AX rI 2) 27) w.heap.size w'.heap.size w'.heap v0 (y.map (CB m))):=by
 refine Au [vy,zI (m:Int)] 25 Tryz.func82 Z Z sM ?_
 have av:AB w w:=AB.refl w
 refine qD Z<|qC [3,0] Z (BU (AX rI 2) o1 Bm AV Ac fun v1 w1 ae b2 aw=>?_)
 have ah:=ae.size
 have ax:=av.trans ae
 have ai:=hy.ext (o2) ae
 refine Ae 1 Z<|A0<|qD Z<|A5 ?_
 refine AR (S:=Nat×Value) (fun⟨k,vo⟩=>([(5,vo),(6,zI (k:Int)),(0,vy),(1,zI (m:Int))])) (fun⟨k,vo⟩ W=>AB w W∧Fr (AX (AX rI 2) 27) w.heap.size W.heap.size W.heap vo ((y.take k).map<|CB m)∧Fr (AX (AX rI 2) 27) By Uy W.heap vy y∧k≤y.length) (fun⟨k,vo⟩=>y.length-k) (0,v1) ⟨rfl,rfl,rfl,rfl,trivial⟩ ⟨ax,aw.up o2,ai,sD⟩ ?_
 clear av aw b2 ae ah ax
 rintro⟨k,vo⟩ ρ2 w2 ⟨af,a5,a0,ay⟩
 have b3:w.heap.size≤w2.heap.size:=af.size
 refine A0<|qC [0,0,0,0] Z<|Af 2 Z<|AL (v:=vy) Bm Z a0.isSl Ac ?_
 by_cases az:(k:Int)<(y.length:Int)
 ·refine Ay true Z Z (A7 az) Ac<|Ai<|Ag Z<|A4<|A0<|A5<|Ad _ [0,0,0,0,2,0,0,3,3,4,0] Z ?_
  have hmk:=hml k oM
  refine Af 3 Z<|Aw (v:=vy) k Bm AV Z Z a0.isSl Z sD Ac ?_
  obtain⟨aj,ak,ag⟩:=a0.rd2.get (k:=k) [] sD
  have b4:=ag.lenle
  refine Al (p:=Ax vy k 1) (.inr Z) aj B7 Z ak Ac<|Af 1 Z ?_
  have al:=Fr.rowCap o1 a0 sD ak
  have aa:=Rd.pref (k:=m) ag sD
  refine OT (v:=aj) (k:=m) Bo BQ Z ag.isSl al Z sD Ac<|As 143 [] [] [Kk aj m] Z Z TN Ac (Fu _ _ _ aa (by rw[List.length_take];omega)) ?_
  rintro e6 w6 ⟨am,rfl,a6,ab⟩
  refine⟨_,rfl,a6,?_⟩
  have b5:=a6.size
  have b6:=af.trans a6
  have a1:=a5.ext (o2) a6
  have a2:=a0.ext (o2) a6
  have ac:=ag.ext g1 a6
  have an:=AQ a6 ak
  have a7:=aa.ext g1 a6
  refine Bt (u:=am) (B:=w2.heap.size) o1 Bm AV Z Z ab (by first|exact A9 _|omega) Ac fun v8 w8 a8 ba b7=>?_
  have b8:=a8.size
  have ao:=b6.trans a8
  have a3:=a1.ext (o2) a8
  have a4:=a2.ext (o2) a8
  have b0:=ac.ext g1 a8
  have b9:=AQ a8 an
  have ap:=a7.ext g1 a8
  refine DY o1 (v:=vo) (a:=v8) Bm AV Z Z Z a3 ao.size b7 oM af.size sD (by unfold maxLen;first|omega|assumption|(simp;done)|(simp;omega)) Ac fun bc bb bd a9 ad aq=>?_
  have ar:AB w bb:=a9.below ao (fun c hc=>Aa (A9 _) (ad c hc).1) ao.size
  have b1:w8.heap.size≤bb.heap.size:=a9.size
  have au:=a4.chg (o2) a9 fun c hc=>zH<|ad c hc
  refine Ae 1 Z<|Ad _ [0,0,0] Z<|Af 1 Z<|AG ((k+1:Nat):Int) Z Z (Bc oM sD) Ac<|Ae 1 Z ?_
  exact⟨(k+1,bc),_,rfl,zR,⟨ar,(by rw[DH [] oM];exact aq.up o2),au,sD⟩,zD⟩
 exact Ay false Z Z (A8 az) Ac<|Ai<|Aj Z<|A6<|At<|At<|An<|qC [0,0] Z<|Ae 2 Z<|A3<|Ah [4] Z vo Z ⟨vo,rfl,af,(by have h:=a5.up o2;rwa [za oM]at h)⟩
theorem U2 {p:Prop}(h:p:=by first|exact B5 (eC oM)|exact B5 (oR oM (GJ (by assumption)))|exact B5 (oS oM oM)|exact B5 (oU oM (EO (by assumption)) oM)):p:=h
theorem OL {p:Prop}(h:p:=by simp[Dc,FS]):p:=h
theorem Kc (w:World)(dp:Nat)(vp:Value)(p:List Fn)(f:Int)(hp:RN [] (rP (LJ dp)) w.heap vp p)(_hf:BI f)(hz:PY p) :
  Calls Tryz.prog 72 #[vp,zI f] w (fun e w'=>e=.returned (zI (Ge p f CZ))∧AB w w'):=by
 refine Au [vp,zI f] 45 Tryz.func72 Z Z sM ?_
 have a9:AB w w:=AB.refl w
 refine qD Z<|qC [0,0,3,0] Z<|Af 2 Z<|As 156 [] [] [vp,zI f] Z Z kU Ac (LY _ dp vp (p) _ (hp.ext (Be<|B1 dp) a9) _hf hz) ?_
 rintro e1 w1 ⟨rfl,a5⟩
 refine⟨_,rfl,a5,?_⟩
 have ad:=a5.size
 have a0:=a9.trans a5
 refine Ae 1 Z<|A0<|A0<|AS _ [0,0,0,0,0,0,1,0,0,0,1,0,0,0,0,0,0,1,0,0,0,1,0,0,0,0,1,0,0,0,1,0,0,0,0] mixed (by kernel_rfl)<|Af 1 Z ?_
 by_cases aa:Js p f=((0:Nat):Int)
 ·refine Av true Z Z (A7 aa) Ac<|Af 2 Z ?_
  have ae:=Xb (p:=p) (f:=f) oM
  have hpq:=(G5 ae.1).par f.toNat oM
  refine AW (hp.isPtr) Z (Ak (e:=11) Z Z Z) ?_
  obtain⟨cs3,af,a2⟩:=RN.at (B1 _) hp
  obtain⟨a1,rfl,a4⟩:=RPr.of af
  have a6:=a4.lenle
  unfold maxLen at a6
  refine AO (p:=vp) 0 BP Z (a2 _<|Az.of_ext [] a0.drew) (Ak (e:=11) Z Z Z)<|Al (p:=AA vp 0) (.inl Z) a1 Cp Z ((a2 _<|Az.of_ext [] a0.drew).ld (i:=0) OL) (Ak (e:=11) Z Z Z)<|Af 1 Z<|Aw (v:=a1) ((f).toNat) H1 CK Z Z a4.isSl oM sD (Ak (e:=11) Z Z Z) ?_
  obtain⟨cs4,ag,a3⟩:=a4.get (AC dp) Fn.zero (k:=(f).toNat) sD
  obtain⟨ab,rfl,a7⟩:=RF.of ag
  have a8:=a7.rn.lenle
  unfold maxLen at a8
  refine AO (p:=Ax a1 ((f).toNat) 3) 1 CF Z (a3 _<|Az.of_ext [] a0.drew) (Ak (e:=11) Z Z Z)<|Al (p:=AA (Ax a1 ((f).toNat) 3) 1) (.inl Z) (zI<|(p.getD ((f).toNat) Fn.zero).params) AN Z ((a3 _<|Az.of_ext [] a0.drew).ld (i:=1) OL) (Ak (e:=11) Z Z Z)<|AD 74 [] [] [zI<|(p.getD ((f).toNat) Fn.zero).params,zI ((2:Nat):Int),zI ((7:Nat):Int)] Z Z Jf (Ak (e:=11) Z Z Z) (.bool (decide (((2:Nat):Int)≤((p.getD ((f).toNat) Fn.zero).params)) && decide (((p.getD ((f).toNat) Fn.zero).params)≤((7:Nat):Int)))) (fun wq=>BH wq _ _ _ a7.rng oM oM) ?_
  refine BF (!(decide (((2:Nat):Int)≤((p.getD ((f).toNat) Fn.zero).params)) && decide (((p.getD ((f).toNat) Fn.zero).params)≤((7:Nat):Int)))) Z Z (Ak (e:=11) Z Z Z)<|Af 1 Z ?_
  cases ah:(!(decide (((2:Nat):Int)≤((p.getD ((f).toNat) Fn.zero).params)) && decide (((p.getD ((f).toNat) Fn.zero).params)≤((7:Nat):Int))))
  ·refine Af 1 Z<|AW (hp.isPtr) Z (Ak (e:=22) Z Z Z)<|AO (p:=vp) 0 BP Z (a2 _<|Az.of_ext [] a0.drew) (Ak (e:=22) Z Z Z)<|Al (p:=AA vp 0) (.inl Z) a1 Cp Z ((a2 _<|Az.of_ext [] a0.drew).ld (i:=0) OL) (Ak (e:=22) Z Z Z)<|Af 1 Z<|Aw (v:=a1) ((f).toNat) H1 CK Z Z a4.isSl oM sD (Ak (e:=22) Z Z Z) ?_
   refine AO (p:=Ax a1 ((f).toNat) 3) 2 Ck Z (a3 _<|Az.of_ext [] a0.drew) (Ak (e:=22) Z Z Z)<|Al (p:=AA (Ax a1 ((f).toNat) 3) 2) (.inl Z) ab BA Z ((a3 _<|Az.of_ext [] a0.drew).ld (i:=2) OL) (Ak (e:=22) Z Z Z)<|AL (v:=ab) DD Z a7.rn.isSl (Ak (e:=22) Z Z Z)<|Af 1 Z<|AW (hp.isPtr) Z (Ak (e:=22) Z Z Z)<|AO (p:=vp) 0 BP Z (a2 _<|Az.of_ext [] a0.drew) (Ak (e:=22) Z Z Z)<|Al (p:=AA vp 0) (.inl Z) a1 Cp Z ((a2 _<|Az.of_ext [] a0.drew).ld (i:=0) OL) (Ak (e:=22) Z Z Z)<|Af 1 Z ?_
   refine Aw (v:=a1) ((f).toNat) H1 CK Z Z a4.isSl oM sD (Ak (e:=22) Z Z Z)<|AO (p:=Ax a1 ((f).toNat) 3) 1 CF Z (a3 _<|Az.of_ext [] a0.drew) (Ak (e:=22) Z Z Z)<|Al (p:=AA (Ax a1 ((f).toNat) 3) 1) (.inl Z) (zI<|(p.getD ((f).toNat) Fn.zero).params) AN Z ((a3 _<|Az.of_ext [] a0.drew).ld (i:=1) OL) (Ak (e:=22) Z Z Z) ?_
   refine Cb ((p.getD f.toNat Fn.zero).params-1) Z Z (Do oM oM) (Ak (e:=22) Z Z Z) ?_
   by_cases ac:((((p.getD ((f).toNat) Fn.zero).outs).length:Nat):Int)≠(p.getD f.toNat Fn.zero).params-1
   ·exact B4 true Z Z (A7 ac) (Ak (e:=22) Z Z Z)<|Ae 2 Z<|Ag Z<|Ad _ [0] Z<|Ae 1 Z<|qC [0,0] Z<|Ae 2 Z<|A3<|Ah [4] Z (zI ((2:Nat):Int)) Z ⟨U2,a0.drew⟩
   exact B4 false Z Z (A8 ac) (Ak (e:=22) Z Z Z)<|Ae 2 Z<|Aj Z<|A4<|qC [0,0] Z<|Ae 2 Z<|A3<|Ah [4] Z (zI<|Js p f) Z ⟨U2,a0.drew⟩
  exact Ae 21 Z<|Ag Z<|Ad _ [0] Z<|Ae 1 Z<|qC [0,0] Z<|Ae 2 Z<|A3<|Ah [4] Z (zI ((2:Nat):Int)) Z ⟨U2,a0.drew⟩
 exact Av false Z Z (A8 aa) Ac<|Ae 33 Z<|Aj Z<|A4<|qC [0,0] Z<|Ae 2 Z<|A3<|Ah [4] Z (zI<|Js p f) Z ⟨U2,a0.drew⟩
theorem NL (w:World)(n:Nat)(_hn:n≤1000000000000)(hn:1≤n∧n≤13) :
  Calls Tryz.prog 164 #[zI (n:Int)] w (fun e w'=>∃v0:Value,e=.returned (v0)∧AB w w'∧Fr (AX rI 2) w.heap.size w'.heap.size w'.heap v0 (Px n)):=by
 refine Au [zI (n:Int)] 11 Tryz.func164 Z Z sM ?_
 have a6:AB w w:=AB.refl w
 refine qD Z<|qC [0,3,0] Z<|Af 1 Z<|As 79 [] [] [zI ((0:Nat):Int),zI (n:Int)] Z Z UC Ac (CT _ _ (n) oM sD oM) ?_
 rintro e1 w1 ⟨a0,rfl,a2,a1⟩
 refine⟨_,rfl,a2,?_⟩
 have a7:=a2.size
 have a3:=a6.trans a2
 refine Ae 1 Z<|A0<|qC [0,0] Z<|Af 1 Z ?_
 by_cases a4:((1:Nat):Int)<(n:Int)
 ·refine C6 true Z Z (A7 a4) Ac<|Ai<|Ag Z<|Ad _ [0,0,4] Z<|Af 1 Z<|Aw (v:=a0) 1 Bo BQ Z Z a1.isSl Z (by first|omega|(rw[G4];omega)|(simp;omega)) Ac (ES (v:=a0) (w:=w1) HV Z Z oM a1 (by first|omega|(rw[G4];omega)|(simp;omega)) Ac fun w3 F3 a5 ac a8 a9=>?_)
  have aa:AB w w3:=a5.below a3 (fun c hc=>Aa (A9 _) (a8 c hc).1) a3.size
  have ab:w1.heap.size≤w3.heap.size:=a5.size
  exact Ai<|qC [0,0] Z<|Ae 2 Z<|A3<|Ah [2] Z a0 Z ⟨a0,rfl,aa,(by have h:=a9.up o1;unfold Px;first|(rw[show cst n ((0:Nat):Int)=List.replicate n 0 from Py n]at h;exact h)|(rw[show cst n ((0:Nat):Int)=List.replicate n 0 from Py n]at h;rw[show n=1 from by omega]at h ⊢;exact h))⟩
 exact C6 false Z Z (A8 a4) Ac<|Ai<|Aj Z<|A4<|qC [0,0] Z<|Ae 2 Z<|A3<|Ah [2] Z a0 Z ⟨a0,rfl,a3,(by have h:=a1.up o1;unfold Px;first|(rw[show cst n ((0:Nat):Int)=List.replicate n 0 from Py n]at h;exact h)|(rw[show cst n ((0:Nat):Int)=List.replicate n 0 from Py n]at h;rw[show n=1 from by omega]at h ⊢;exact h))⟩
theorem NM (w:World)(vy:Value)(y:List (Sr))(hy:RN [] (B3 (B3 rI)) w.heap vy y)(hqy:Cn vy)(hyb:0<y.length∧y.length≤1000)(hr:1≤(y.getD 0 []).length∧(y.getD 0 []).length≤13) :
  Calls Tryz.prog 81 #[vy] w (fun e w'=>∃v0:Value,e=.returned v0∧AB w w'∧RN [] (B3 (B3 rI)) w'.heap v0 (Cv y)∧Cn v0):=by
 refine Au [vy] 25 Tryz.func81 Z Z sM ?_
 have a9:AB w w:=AB.refl w
 have b8:=hy.lenL
 unfold maxLen at b8
 have hS:∀b∈([]:List Nat),b<w.heap.size:=fun b hb=>by cases hb
 refine qD Z<|qC [0,0,2,0,3,3,0] Z<|Af 1 Z<|Aw (v:=vy) 0 Bm AV Z Z hy.slL Z sD Ac ?_
 obtain⟨ak,aw,al⟩:=RN.getL (w:=w) g1 [] (k:=0) hy sD
 have a4:=al.lenL
 unfold maxLen at a4
 refine Al (p:=Ax vy 0 1) (.inr Z) ak B7 Z (aw _<|Az.of_ext [] a9) Ac<|AL (v:=ak) Bo Z al.slL Ac<|As 164 [] [] [zI (((y.getD 0 []).length:Nat):Int)] Z Z kY Ac (NL _ ((y.getD 0 []).length) sD oM) ?_
 rintro e2 w2 ⟨aa,rfl,a6,a0⟩
 refine⟨_,rfl,a6,?_⟩
 have ab:=a6.size
 have am:=a9.trans a6
 refine Bt (u:=aa) (B:=w2.heap.size) Bf Bm AV Z Z (M5 w2.heap.size w2.heap.size _<|⟨(Bl a0.isSl).1,(Bl a0.isSl).2⟩) (A9 _) Ac fun v3 w3 a7 ax an=>?_
 have ac:=a7.size
 have ao:=am.trans a7
 have a1:=a0.ext (o1) a7
 obtain⟨BO,hBO⟩:∃b:Nat,b=w2.heap.size:=⟨_,rfl⟩
 have hwB:w.heap.size≤BO:=by omega
 obtain⟨b5,F4,ay⟩:=Ii.one an a1 oM
 rw[← hBO]at ay
 refine Ae 1 Z<|A0<|qD Z<|A5<|AR (S:=Nat×Value) (fun⟨k,vo⟩=>([(3,vo),(4,zI (k:Int)),(0,vy)])) (fun⟨k,vo⟩ W=>AB w W∧k≤y.length∧w.heap.size≤BO∧BO≤W.heap.size∧Qa 27 [] BO W.heap vo (Px (y.getD 0 []).length::y.take k)) (fun⟨k,vo⟩=>y.length-k) (0,v3) ⟨rfl,rfl,rfl,trivial⟩ ⟨ao,oM,oM,oM,(by exact⟨_,_,by assumption⟩)⟩ ?_
 clear a9 a4 a0 a6 ab am an ax a7 ac ao a1
 rintro⟨k,vo⟩ ρ5 w5 ⟨a8,ap,aq,ar,hbld⟩
 have az:w.heap.size≤w5.heap.size:=a8.size
 have hpkl:(Px (y.getD 0 []).length::y.take k).length=k+1:=by rw[z9,List.length_take];omega
 obtain⟨b6,F6,a2⟩:=hbld
 have hFl:∀b∈F6,b<w5.heap.size:=a2.lt
 refine A0<|qC [0,0,0,0] Z<|Af 2 Z<|AL (v:=vy) Bm Z hy.slL Ac ?_
 by_cases au:(k:Int)<(y.length:Int)
 ·refine Ay true Z Z (A7 au) Ac<|Ai<|Ag Z<|A4<|A0<|A5<|Ad _ [0,0,0,0,2,3,4,0] Z<|Af 3 Z<|Aw (v:=vy) k Bm AV Z Z hy.slL Z sD Ac ?_
  obtain⟨ad,b0,ae⟩:=RN.getL (w:=w) g1 [] (k:=k) hy sD
  have af:=ae.lenL
  unfold maxLen at af
  refine Al (p:=Ax vy k 1) (.inr Z) ad B7 Z (b0 _<|Az.of_ext [] a8) Ac (Bt (u:=ad) (B:=w5.heap.size) Bf Bm AV Z Z (M5 w5.heap.size w5.heap.size _<|ae.one1 g1) (A9 _) Ac fun v9 w9 ag b7 b1=>?_)
  have b2:=ag.size
  have ah:=a8.trans ag
  have a3:=a2.ext ag
  refine EW (v:=vo) (a:=v9) (u:=ad) Bm AV Z Z Z a3 oM b1 (RN.stp g1 ae (Az.of_ext [] ah) fun b hb=>.inr (zH<|a3.low b (by simpa using hb))) sD (by unfold maxLen;first|omega|assumption|(simp;done)|(simp;omega)) Ac ?_
  rintro ba b9 G11 a5 ai ⟨b3,bb,b4⟩
  have av:w9.heap.size≤b9.heap.size:=a5.size
  have aj:AB w b9:=a5.below ah (fun c hc=>Aa hwB (a3.low c (ai c hc))) ah.size
  exact Ae 1 Z<|Ad _ [0,0,0] Z<|Af 1 Z<|AG ((k+1:Nat):Int) Z Z (Bc oM sD) Ac<|Ae 1 Z ⟨(k+1,ba),_,rfl,zR,⟨aj,oM,oM,oM,(by rw[← XL oM];exact⟨_,_,by assumption⟩)⟩,zD⟩
 exact Ay false Z Z (A8 au) Ac<|Ai<|Aj Z<|A6<|At<|At<|An<|qC [0,0] Z<|Ae 2 Z<|A3<|Ah [2] Z vo Z ⟨_,rfl,a8,(by have h9:=(a2.done fun b hb=>absurd hb z2);rw[za oM]at h9;exact h9),a2.cap⟩
theorem Fh {p:Prop}(h:p:=by first|omega|assumption|(simp only[zb,z9,z4,z6,z5,G4];omega)|(simp[zb,z9,z4,z6,z5,G4];done)|(simp[zb,z9,z4,z6,z5,G4];omega)):p:=h
theorem NN (w:World)(va:Value)(a:Sr)(vd:Value)(d:Sr)(o:Int)(ha:Rd (B3 rI) w.heap va a)(hd:Rd (B3 rI) w.heap vd d)(_ho:BI o)(ho:o=1)(hld:d.length=a.length)(hla:a.length≤1000000) :
  Calls Tryz.prog 222 #[va,vd,zI o] w (fun e w'=>∃v0:Value,e=.returned (v0)∧AB w w'∧Fr (AX (AX rI 2) 27) w.heap.size w'.heap.size w'.heap v0 (GI a d 2)):=by
 refine Au [va,vd,zI o] 37 Tryz.func222 Z Z sM ?_
 have ad:AB w w:=AB.refl w
 have b1:=ha.lenle
 have b2:=hd.lenle
 refine qD Z<|qC [3,0] Z (BU (AX rI 2) o1 Bm AV Ac fun v1 w1 a7 aj ae=>?_)
 have a8:=a7.size
 have hE1:=ad.trans a7
 refine Ae 1 Z<|A0<|qD Z<|A5 ?_
 refine AR (S:=Nat×Value) (fun⟨k,vo⟩=>([(7,vo),(8,zI (k:Int)),(0,va),(1,vd),(2,zI o)])) (fun⟨k,vo⟩ W=>AB w W∧Fr (AX (AX rI 2) 27) w.heap.size W.heap.size W.heap vo ((GI a d 2).take k)∧k≤a.length) (fun⟨k,vo⟩=>a.length-k) (0,v1) ⟨rfl,rfl,rfl,rfl,rfl,trivial⟩ ⟨hE1,ae.up o2,Fh⟩ ?_
 clear ad ae aj a7 a8 hE1
 rintro⟨k,vo⟩ ρ2 w2 ⟨a4,a1,af⟩
 have ak:w.heap.size≤w2.heap.size:=a4.size
 refine A0<|qC [0,0,0,0] Z<|Af 2 Z<|AL (v:=va) Bo Z ha.isSl Ac ?_
 by_cases ag:(k:Int)<(a.length:Int)
 ·refine Ay true Z Z (A7 ag) Ac<|Ai<|Ag Z<|A4<|A0<|A5<|qC [0,0,0,2,0,0,3,0] Z<|Af 2 Z<|Aw (v:=va) k Bo BQ Z Z ha.isSl Z Fh Ac ?_
  refine Al (p:=Ax va k 1) (.inr Z) (zI<|a.getD k 0) AN Z (AQ a4 (ha.getI Fh).1) Ac<|Af 1 Z<|AG ((o.toNat+1:Nat):Int) Z Z (by rw[Do oM oM];omega) Ac ?_
  refine As 79 [] [] [zI<|a.getD k 0,zI ((o.toNat+1:Nat):Int)] Z Z UC Ac (CT _ _ (o.toNat+1) (ha.getI Fh).2 Fh oM) ?_
  rintro e4 w4 ⟨a3,rfl,a6,a2⟩
  refine⟨_,rfl,a6,?_⟩
  have al:=a6.size
  have a9:=a4.trans a6
  have a0:=a1.ext (o2) a6
  refine Ae 1 Z<|A0<|qC [0,0] Z<|Af 1 Z ?_
  have am:((0:Nat):Int)<o:=oM
  refine C6 true Z Z (A7 am) Ac<|Ai<|Ag Z<|Ad _ [0,0,0,0,2,0,4] Z<|Af 3 Z<|Aw (v:=vd) k Bo BQ Z Z hd.isSl Z Fh Ac ?_
  refine Al (p:=Ax vd k 1) (.inr Z) (zI<|d.getD k 0) AN Z (AQ a9 (hd.getI Fh).1) Ac ?_
  refine Aw (v:=a3) 1 Bo BQ Z Z a2.isSl Z Fh Ac ?_
  refine ES (v:=a3) (w:=w4) HV Z Z (hd.getI Fh).2 a2 Fh Ac fun w6 F6 aa az ah an=>?_
  have ao:AB w w6:=aa.below a9 (fun c hc=>Aa a4.size (ah c hc).1) a9.size
  have ap:w4.heap.size≤w6.heap.size:=aa.size
  have aq:=a0.chg (o2) aa fun c hc=>zH<|ah c hc
  refine Ai<|Ad _ [0,0,3,4,0] Z<|Af 2 Z (Bt (u:=a3) (B:=w2.heap.size) o1 Bm AV Z Z an (by first|exact A9 _|omega) Ac fun v8 w8 ab b0 ar=>?_)
  have au:=ab.size
  have ac:=ao.trans ab
  have a5:=aq.ext (o2) ab
  refine DY o1 (v:=vo) (a:=v8) Bm AV Z Z Z a5 ac.size ar oM a4.size Fh (by unfold maxLen;first|omega|assumption|(simp[G4];done)|(simp[G4];omega)) Ac fun v9 w9 F9 ai av aw=>?_
  have ax:AB w w9:=ai.below ac (fun c hc=>Aa (A9 _) (av c hc).1) ac.size
  have ay:w8.heap.size≤w9.heap.size:=ai.size
  refine Ae 1 Z<|Ad _ [0,0,0] Z<|Af 1 Z<|AG ((k+1:Nat):Int) Z Z (Bc oM Fh) Ac<|Ae 1 Z ?_
  exact⟨(k+1,v9),_,rfl,zR,⟨ax,(by rw[CA [] (by simp;omega),N7 oM];have h:=aw.up o2;rw[show o.toNat+1=2 from by omega]at h;exact h),Fh⟩,zD⟩
 exact Ay false Z Z (A8 ag) Ac<|Ai<|Aj Z<|A6<|At<|At<|An<|qC [0,0] Z<|Ae 2 Z<|A3<|Ah [6] Z vo Z ⟨vo,rfl,a4,(by have h:=a1.up o2;rwa [za (by simp;omega)]at h)⟩
theorem LF (w:World)(dp:Nat)(vp:Value)(p:List Fn)(f:Int)(va:Value)(a:Sr)(vd:Value)(d:Sr)(o:Int)(hp:RN [] (rP (LJ dp)) w.heap vp p)(_hf:BI f)(ha:Rd (B3 rI) w.heap va a)(hd:Rd (B3 rI) w.heap vd d)(_ho:BI o)(hvp:Jd p)(hf:0≤f∧f<(p.length:Int))(hl:(a.length:Int)=(p.getD f.toNat Fn.zero).params)(ho:o=1)(hld:d.length=a.length)(hna:B8 a=true)(hnd:B8 d=true) :
  Calls Tryz.prog 159 #[vp,zI f,va,vd,zI o] w (fun e w'=>∃v0:Value,e=.returned (.tuple #[v0,zI (H7 p (o.toNat+1) f.toNat (GI a d 2))])∧AB w w'∧Fr (AX (AX rI 2) 27) w.heap.size w'.heap.size w'.heap v0 (DB p (o.toNat+1) f.toNat (GI a d 2))∧bQ p (o.toNat+1) f.toNat (GI a d 2)):=by
 refine Au [vp,zI f,va,vd,zI o] 23 Tryz.func159 Z Z sM ?_
 have a4:AB w w:=AB.refl w
 have ab:=ha.lenle
 have ac:=hd.lenle
 have ad:=hvp.par f.toNat oM
 refine qC [0,0] Z<|Ae 2 Z<|qC [0,0,0,0,0,3,0,0,3,0,0,0,0] Z<|Af 5 Z<|As 222 [] [] [va,vd,zI o] Z Z lP Ac (NN _ _ _ _ _ _ (ha.ext g1 a4) (hd.ext g1 a4) _ho ho hld oM) ?_
 rintro e1 w1 ⟨a2,rfl,a5,a1⟩
 refine⟨_,rfl,a5,?_⟩
 have a8:=a5.size
 have hE1:=a4.trans a5
 refine Af 1 Z<|AG ((o.toNat+1:Nat):Int) Z Z (by rw[Do oM oM];omega) Ac<|As 80 [] [] [vp,zI f,a2,zI ((o.toNat+1:Nat):Int)] Z Z kJ Ac (IT _ dp vp (p) _ a2 (GI a d 2) (o.toNat+1) (hp.ext (Be<|B1 dp) hE1) _hf (RN.of_fr2 a1 fun b hb=>by cases hb) a1.cap hvp oM (by rw[D2];exact hl) (by rw[show o.toNat+1=2 from by omega];exact HR hna hnd) oM) ?_
 rintro e2 w2 ⟨a0,rfl,a6,a3,a7⟩
 refine⟨_,rfl,a6,?_⟩
 have a9:=a6.size
 have aa:=hE1.trans a6
 exact AM (vs:=[a0,zI<|H7 p (o.toNat+1) f.toNat<|GI a d 2]) a0 Z Z Ac<|AM (vs:=[a0,zI<|H7 p (o.toNat+1) f.toNat<|GI a d 2]) (zI<|H7 p (o.toNat+1) f.toNat<|GI a d 2) Z Z Ac<|Ae 2 Z<|A3<|Ah [10,11] Z (.tuple #[a0,zI<|H7 p (o.toNat+1) f.toNat<|GI a d 2]) Z ⟨a0,rfl,aa,(a3.up o2).low hE1.size,(by assumption)⟩
theorem eO {p:Prop}(h:p:=by first|(rw[if_neg oM];exact(hL10_0.up o2).low hE1.size)|(have h:=(hL10_0.up o2).low hE1.size;rw[if_pos oM];rw[show k=a.length from by omega,hNP.len oM]at h;exact h)):p:=h
theorem U3 {p:Prop}(h:p:=by first|(rw[hce];done)|(rw[← hce,show c=0 from by omega];rfl)):p:=h
theorem Kd (w:World)(dp:Nat)(vp:Value)(p:List Fn)(f:Int)(va:Value)(a:Sr)(hp:RN [] (rP (LJ dp)) w.heap vp p)(_hf:BI f)(ha:Rd (B3 rI) w.heap va a)(hvp:Jd p)(hf:0≤f∧f<(p.length:Int))(hl:(a.length:Int)=(p.getD f.toNat Fn.zero).params)(hna:B8 a=true) :
  Calls Tryz.prog 76 #[vp,zI f,va] w (fun e w'=>∃v0:Value,e=.returned (.tuple #[v0,zI (Es p f.toNat a)])∧AB w w'∧Fr (AX (AX rI 2) 27) w.heap.size w'.heap.size w'.heap v0 (if Es p f.toNat a=0 then RR p f.toNat a (p.getD f.toNat Fn.zero).outs.length else [])∧(0≤Es p f.toNat a∧Es p f.toNat a≤9)):=by
 refine Au [vp,zI f,va] 83 Tryz.func76 Z Z sM ?_
 have bo:AB w w:=AB.refl w
 have dk:=ha.lenle
 have dx:=hvp.par f.toNat oM
 have dy:=hvp.outs f.toNat oM
 have bp:=kC hvp (f:=f.toNat) oM hna hl
 refine qC [0,0] Z<|Ae 2 Z<|qC [0,0,0,3,0,0,0,0,0,0,0] Z<|Af 3 Z<|As 75 [] [] [vp,zI f,va] Z Z gT Ac (GA _ dp vp (p) _ _ _ (hp.ext (Be<|B1 dp) bo) _hf (ha.ext g1 bo) hvp oM oM hna) ?_
 rintro e1 w1 ⟨a9,rfl,bq,ar,cd,ce⟩
 refine⟨_,rfl,bq,?_⟩
 have cy:=bq.size
 have hE1:=bo.trans bq
 refine Af 1 Z<|AM (vs:=[a9,zI ((Ph p 1 f.toNat (Cc a):Nat):Int),zI<|Es p f.toNat a]) a9 Z Z Ac<|AM (vs:=[a9,zI ((Ph p 1 f.toNat (Cc a):Nat):Int),zI<|Es p f.toNat a]) (zI ((Ph p 1 f.toNat (Cc a):Nat):Int)) Z Z Ac<|AM (vs:=[a9,zI ((Ph p 1 f.toNat (Cc a):Nat):Int),zI<|Es p f.toNat a]) (zI<|Es p f.toNat a) Z Z Ac<|Ae 3 Z<|qC [3,0] Z ?_
 have hNP:=‹fQ p f.toNat a›
 have hvl:(Ep p f.toNat a).length≤1000:=by by_cases h9:Es p f.toNat a=0;(rw[hNP.len h9];omega);(rw[hNP.non h9];decide)
 refine BU (AX rI 2) o1 Bm AV Ac fun v2 w2 br cz cf=>?_
 have bx:=br.size
 have cg:=hE1.trans br
 have ac:=ar.ext (o1) br
 refine Ae 1 Z<|A0<|qD Z<|A5<|AR (S:=Nat×Value) (fun⟨i,vo⟩=>([(11,vo),(12,zI (i:Int)),(0,vp),(1,zI f),(2,va),(8,a9),(10,zI<|Es p f.toNat a)])) (fun⟨i,vo⟩ W=>AB w W∧Fr (AX (AX rI 2) 27) w1.heap.size W.heap.size W.heap vo (List.replicate i [])∧Fr (AX rI 2) w.heap.size w1.heap.size W.heap a9 (Ep p f.toNat a)∧i≤(Ep p f.toNat a).length∧w1.heap.size≤W.heap.size) (fun⟨i,vo⟩=>(Ep p f.toNat a).length-i) (0,v2) ⟨rfl,rfl,rfl,rfl,rfl,rfl,rfl,trivial⟩ ⟨cg,cf.up o2,ac,oM,oM⟩ ?_
 clear bo ar bq cf cz br bx cg ac
 rintro⟨i,vo⟩ ρ3 w3 ⟨bs,ah,ai,ch,d0⟩
 have bz:w.heap.size≤w3.heap.size:=bs.size
 refine A0<|qC [0,0,0,0] Z<|Af 2 Z<|AL (v:=a9) Bo Z ai.isSl Ac ?_
 by_cases ci:(i:Int)<(((Ep p f.toNat a).length:Nat):Int)
 ·refine Ay true Z Z (A7 ci) Ac<|Ai<|Ag Z<|A4<|A0<|A5<|Ad _ [0,3,3,4,0] Z<|Af 1 Z (BU (rI) AT Bo BQ Ac fun v6 w6 bt dg d1=>?_)
  have d2:=bt.size
  have d3:=bs.trans bt
  have al:=ah.ext (o2) bt
  have am:=ai.ext (o1) bt
  refine Bt (u:=v6) (B:=w3.heap.size) o1 Bm AV Z Z d1 (by first|exact A9 _|omega) Ac fun v7 w7 bu dh d4=>?_
  have d5:=bu.size
  have cj:=d3.trans bu
  have an:=al.ext (o2) bu
  have ao:=am.ext (o1) bu
  refine DY o1 (v:=vo) (a:=v7) Bm AV Z Z Z an oM d4 oM oM sD (by unfold maxLen;first|omega|assumption|(simp;done)|(simp;omega)) Ac fun v8 w8 F8 c0 ck d6=>?_
  have d7:AB w w8:=c0.below cj (fun c hc=>Aa hE1.size (ck c hc).1) cj.size
  have d8:w7.heap.size≤w8.heap.size:=c0.size
  have d9:=ao.chg (o1) c0 fun c hc=>zH<|ck c hc
  exact Ae 1 Z<|Ad _ [0,0,0] Z<|Af 1 Z<|AG ((i+1:Nat):Int) Z Z (Bc oM sD) Ac<|Ae 1 Z ⟨(i+1,v8),_,rfl,zR,⟨d7,(by rw[List.replicate_succ'];exact d6.up o2),d9,oM,oM⟩,zD⟩
 refine Ay false Z Z (A8 ci) Ac<|Ai<|Aj Z<|A6<|At<|At<|An<|A0<|qD Z<|A5 ?_
 refine AR (S:=Nat×Int) (fun⟨k,c⟩=>([(10,zI c),(13,zI (k:Int)),(0,vp),(1,zI f),(2,va),(11,vo)])) (fun⟨k,c⟩ W=>AB w W∧Fr (AX (AX rI 2) 27) w1.heap.size W.heap.size W.heap vo (Pr p f.toNat a (Ep p f.toNat a).length k)∧k≤a.length∧c=Es p f.toNat a∧w1.heap.size≤W.heap.size) (fun⟨k,c⟩=>a.length-k) (0,Es p f.toNat a) ⟨rfl,rfl,rfl,rfl,rfl,rfl,trivial⟩ ⟨bs,(by have h:=ah.up o2;rw[show i=(Ep p f.toNat a).length from by omega,← oK p f.toNat a]at h;exact h),oM,(by rfl),oM⟩ ?_
 clear ai ah bs bz
 rintro⟨k,c⟩ ρ10 ds ⟨a1,hL10_0,c1,hce,cl⟩
 have az:w.heap.size≤ds.heap.size:=a1.size
 refine A0<|qC [0,0,0,0,0,0,0,0] Z<|Af 2 Z<|AL (v:=va) Bo Z ha.isSl Ac ?_
 by_cases b0:(k:Int)<(a.length:Int)
 ·refine Ay true Z Z (A7 b0) Ac<|Af 2 Z ?_
  by_cases b1:c=((0:Nat):Int)
  ·refine Av true Z Z (A7 b1) (Ak (e:=39) Z Z Z)<|Ae 1 Z<|Ag Z<|A4<|A0<|A5<|qC [3,0] Z (BU (AX rI 2) o1 Bm AV Ac fun dz e0 ap c2 b2=>?_)
   have b3:=ap.size
   have b4:=a1.trans ap
   have a3:=hL10_0.ext (o2) ap
   refine Ae 1 Z<|qC [0,0,0,0,0,0,3,3,0,0,0,0,0] Z<|Af 4 Z<|AL (v:=va) Bo Z ha.isSl Ac<|Af 1 Z<|As 160 [] [] [zI (a.length:Int),zI (k:Int)] Z Z kX Ac (NK _ (a.length) _ sD oM oM oM) ?_
   rintro e2 dt ⟨b5,rfl,ae,aa⟩
   refine⟨_,rfl,ae,?_⟩
   have cm:=ae.size
   have au:=b4.trans ae
   have a4:=a3.ext (o2) ae
   have ad:=b2.ext (o2) ae
   refine As 159 [] [] [vp,zI f,va,b5,zI ((1:Nat):Int)] Z Z kW Ac (LF _ dp vp (p) _ _ _ _ _ _ (hp.ext (Be<|B1 dp) au) _hf (ha.ext g1 au) aa.rd1 oM hvp oM oM (by rfl) (by simp[uN]) hna (by rw[TL];exact RE _ _)) ?_
   rintro e3 dm ⟨a0,rfl,ab,aj,c3⟩
   refine⟨_,rfl,ab,?_⟩
   have cn:=ab.size
   have c4:=au.trans ab
   have a5:=a4.ext (o2) ab
   have aq:=ad.ext (o2) ab
   have af:=aa.ext (o1) ab
   refine Af 1 Z<|AM (vs:=[a0,zI<|H7 p (((1:Nat):Int).toNat+1) f.toNat<|GI a (uN a.length (k:Int).toNat) 2]) a0 Z Z Ac<|AM (vs:=[a0,zI<|H7 p (((1:Nat):Int).toNat+1) f.toNat<|GI a (uN a.length (k:Int).toNat) 2]) (zI<|H7 p (((1:Nat):Int).toNat+1) f.toNat<|GI a (uN a.length (k:Int).toNat) 2) Z Z Ac<|Ae 2 Z<|qC [0] Z ?_
   have hEI:bQ p 2 f.toNat (GI a (uN a.length k) 2):=by assumption
   rw[TL]at hEI
   have hdi:jO p f.toNat a (eV a.length k)=Es p f.toNat a:=jP _ _ _ _
   have da:Es p f.toNat a=0:=by omega
   have hvK:=hNP.len da
   have hol:(QK p f.toNat a (eV a.length k)).length=(Ep p f.toNat a).length:=by rw[hvK];exact hEI.len (by show jO p f.toNat a (eV a.length k)=0;omega)
   have hos:=hEI.ser
   have b6:Fr (AX (AX rI 2) 27) dt.heap.size dm.heap.size dm.heap a0 (QK p f.toNat a (eV a.length k)):=by have h:=aj;rw[Int.toNat_natCast,TL]at h;exact h
   refine Ae 1 Z<|A5 ?_
   obtain⟨Xn19,kO19,kN19,kR19⟩:=id b6
   have kY19:=OR.of a5 oM kR19
   refine AR (S:=Nat) (fun i=>([(15,zI (i:Int)),(0,vp),(1,zI f),(2,va),(10,zI<|H7 p (((1:Nat):Int).toNat+1) f.toNat<|GI a (uN a.length (k:Int).toNat) 2),(11,vo),(13,zI (k:Int)),(14,a0)])) (fun i W=>AB w W∧OR 2 27 w1.heap.size Xn19 W.heap vo (CJ i (Pr p f.toNat a (Ep p f.toNat a).length (k+1))<|Pr p f.toNat a (Ep p f.toNat a).length k)∧AX (AX rI 2) 27 W.heap a0 (QK p f.toNat a<|eV a.length k) Xn19∧i≤(Ep p f.toNat a).length∧w1.heap.size≤W.heap.size) (fun i=>(Ep p f.toNat a).length-i) 0 ⟨rfl,rfl,rfl,rfl,rfl,rfl,rfl,rfl,trivial⟩ ⟨c4,(by rw[D6];exact kY19),kO19,oM,oM⟩ ?_
   clear hL10_0 a1 az b2 c2 ap b3 b4 a3 aa ae a4 ad aj ab a5 aq af
   rintro i ρ18 di ⟨av,a7,a8,c5,co⟩
   have cp:w.heap.size≤di.heap.size:=av.size
   have hlm:=Ey i (Pr p f.toNat a (Ep p f.toNat a).length (k+1)) (Pr p f.toNat a (Ep p f.toNat a).length k) sM
   rw[Ps]at hlm
   refine A0<|qC [0,0,0,0] Z<|Af 2 Z<|AL (v:=a0) Bm Z (MC a8).isSl Ac ?_
   by_cases b7:(i:Int)<(((QK p f.toNat a (eV a.length k)).length:Nat):Int)
   ·refine Ay true Z Z (A7 b7) Ac<|Ai<|Ag Z<|A4<|A0<|A5<|AS _ [0,0,0,0,0,1,0,0,0,1,0,1,3,4,0,4] mixed (by kernel_rfl) ?_
    have hor:=(hos i (by show i<(QK p f.toNat a<|eV a.length k).length;omega)).1
    have db:((QK p f.toNat a (eV a.length k)).getD i []).length=2:=hor
    refine Af 4 Z<|Aw (v:=vo) i Bm AV Z Z a7.isSl Z sD Ac ?_
    obtain⟨b8,b9,ba⟩:=a7.rd2.get (k:=i) [] sD
    have cq:=ba.lenle
    refine Al (p:=Ax vo i 1) (.inl Z) b8 B7 Z b9 Ac<|Af 2 Z<|Aw (v:=a0) i Bm AV Z Z (MC a8).isSl Z sD Ac ?_
    obtain⟨aw,bb,ak⟩:=(MC a8).get (k:=i) [] sD
    have cr:=ak.lenle
    refine Al (p:=Ax a0 i 1) (.inl Z) aw B7 Z bb Ac<|Aw (v:=aw) 1 Bo BQ Z Z ak.isSl Z sD Ac ?_
    refine Al (p:=Ax aw 1 1) (.inl Z) (zI<|((QK p f.toNat a<|eV a.length k).getD i []).getD 1 0) AN Z (ak.getI sD).1 Ac ?_
    refine Bt (u:=zI<|((QK p f.toNat a<|eV a.length k).getD i []).getD 1 0) (B:=di.heap.size) AT Bo BQ Z Z (Mz di.heap.size di.heap.size _ _ (ak.getI sD).2) (A9 _) Ac fun du dv a2 dc c6=>?_
    replace a2:=a2.of_drew
    have cs:=a2.size
    have bc:=av.trans a2
    have ag:=a7.ext (o2) a2
    have a6:=OQ (o2) a8 a2
    have bv:=ba.ext g1 a2
    have bd:=AQ a2 b9
    have bw:=ak.ext g1 a2
    have ct:=AQ a2 bb
    refine UY (v:=vo) (u:=b8) (a:=du) (r:=i) Bo BQ Z Z Z ag oM (o2.lt a6) sD bd c6.rd1 (by have h9:=Xw (p:=p) (f:=f.toNat) (a:=a) (K:=(Ep p f.toNat a).length) (i:=k) (r:=i) oM;simp only[z9,zb];omega) (by unfold maxLen;have h9:=Xw (p:=p) (f:=f.toNat) (a:=a) (K:=(Ep p f.toNat a).length) (i:=k) (r:=i) oM;simp only[z9,zb];omega) Ac fun dw dj e4 ax be bf=>?_
    have bg:AB w dj:=ax.below bc (fun b hb=>Aa hE1.size (be b hb).1) bc.size
    have cu:dv.heap.size≤dj.heap.size:=ax.size
    have c7:=L7 o2 a6 ax fun b hb=>(be b hb).2.1
    refine Aw (v:=vo) i Bm AV Z Z bf.isSl Z sD Ac (UZ (v:=vo) (u:=dw) (w:=dj) KN Z Z bf Ac fun dn e5 ay dd bh c8=>?_)
    have c9:AB w dn:=ay.below bg (fun b hb=>Aa hE1.size (bh b hb).1) bg.size
    have cv:dj.heap.size≤dn.heap.size:=ay.size
    have ca:=L7 o2 c7 ay fun b hb=>(bh b hb).2.1
    exact Ai<|Ad _ [0,0,0] Z<|Af 1 Z<|AG ((i+1:Nat):Int) Z Z (Bc oM sD) Ac<|Ae 1 Z ⟨i+1,_,rfl,zR,⟨c9,(by have h:=c8;rw[← fS oM];exact h),ca,oM,oM⟩,zD⟩
   refine Ay false Z Z (A8 b7) Ac<|Ai<|Aj Z<|A6<|At<|At<|An<|Ad _ [0,0,0] Z<|Af 1 Z<|AG ((k+1:Nat):Int) Z Z (Bc oM sD) Ac<|Ae 1 Z ?_
   exact⟨(k+1,H7 p (((1:Nat):Int).toNat+1) f.toNat (GI a (uN a.length (k:Int).toNat) 2)),_,rfl,zR,⟨av,(by have h:=a7.fr;rwa [DQ sM (by rw[Ps];omega)]at h),oM,(by show jO p f.toNat a (uN a.length k)=_;rw[TL];exact hdi),oM⟩,zD⟩
  refine Av false Z Z (A8 b1) (Ak (e:=39) Z Z Z)<|Ae 1 Z<|Aj Z<|A6<|At<|At<|An<|A0<|qC [0,0] Z<|Af 1 Z ?_
  by_cases bi:c≠((0:Nat):Int)
  ·refine B4 true Z Z (A7 bi) Ac<|Ai<|Ag Z<|qC [3,0,0,0] Z (BU (AX rI 2) o1 Bm AV Ac fun dq e6 bj de bk=>?_)
   have cw:=bj.size
   have cb:=a1.trans bj
   exact Ae 3 Z<|A3<|Aq<|Ah [6,7] Z (.tuple #[dq,zI c]) Z ⟨dq,U3,cb,(by first|(rw[if_neg oM];exact(bk.up o2).low a1.size)|(have h:=(bk.up o2).low a1.size;rw[if_pos oM];rw[show k=a.length from by omega,hNP.len oM]at h;exact h)),bp⟩
  exact B4 false Z Z (A8 bi) Ac<|Ai<|Aj Z<|A4<|qC [0,0,0] Z<|Ae 3 Z<|A3<|Ah [6,7] Z (.tuple #[vo,zI ((0:Nat):Int)]) Z ⟨vo,U3,a1,eO,bp⟩
 refine Ay false Z Z (A8 b0) Ac<|Ae 4 Z<|Aj Z<|A6<|At<|At<|An<|A0<|qC [0,0] Z<|Af 1 Z ?_
 by_cases bl:c≠((0:Nat):Int)
 ·refine B4 true Z Z (A7 bl) Ac<|Ai<|Ag Z<|qC [3,0,0,0] Z (BU (AX rI 2) o1 Bm AV Ac fun dr e7 bm df bn=>?_)
  have cx:=bm.size
  have cc:=a1.trans bm
  exact Ae 3 Z<|A3<|Aq<|Ah [6,7] Z (.tuple #[dr,zI c]) Z ⟨dr,U3,cc,(by first|(rw[if_neg oM];exact(bn.up o2).low a1.size)|(have h:=(bn.up o2).low a1.size;rw[if_pos oM];rw[show k=a.length from by omega,hNP.len oM]at h;exact h)),bp⟩
 exact B4 false Z Z (A8 bl) Ac<|Ai<|Aj Z<|A4<|qC [0,0,0] Z<|Ae 3 Z<|A3<|Ah [6,7] Z (.tuple #[vo,zI ((0:Nat):Int)]) Z ⟨vo,U3,a1,eO,bp⟩
theorem NO (w:World)(vy:Value)(y:List (Sr))(By Uy:Nat)(hy:Fr (AX (AX rI 2) 27) By Uy w.heap vy y)(hUy:Uy≤w.heap.size)(hml:∀k,k<y.length→1≤(y.getD k []).length∧(y.getD k []).length≤1000000)(hyl:y.length≤1000000) :
  Calls Tryz.prog 77 #[vy] w (fun e w'=>∃v0:Value,e=.returned (v0)∧AB w w'∧Fr (AX (AX rI 2) 27) w.heap.size w'.heap.size w'.heap v0 (y.map (fun r=>r.drop 1))):=by
 refine Au [vy] 22 Tryz.func77 Z Z sM ?_
 have av:AB w w:=AB.refl w
 refine qD Z<|qC [3,0] Z (BU (AX rI 2) o1 Bm AV Ac fun v1 w1 af b1 aw=>?_)
 have ai:=af.size
 have hE1:=av.trans af
 have aj:=hy.ext (o2) af
 refine Ae 1 Z<|A0<|qD Z<|A5 ?_
 refine AR (S:=Nat×Value) (fun⟨k,vo⟩=>([(3,vo),(4,zI (k:Int)),(0,vy)])) (fun⟨k,vo⟩ W=>AB w W∧Fr (AX (AX rI 2) 27) w.heap.size W.heap.size W.heap vo ((y.take k).map fun r=>r.drop 1)∧Fr (AX (AX rI 2) 27) By Uy W.heap vy y∧k≤y.length) (fun⟨k,vo⟩=>y.length-k) (0,v1) ⟨rfl,rfl,rfl,trivial⟩ ⟨hE1,aw.up o2,aj,sD⟩ ?_
 clear av aw b1 af ai hE1
 rintro⟨k,vo⟩ ρ2 w2 ⟨ag,a5,a0,ax⟩
 have b2:w.heap.size≤w2.heap.size:=ag.size
 refine A0<|qC [0,0,0,0] Z<|Af 2 Z<|AL (v:=vy) Bm Z a0.isSl Ac ?_
 by_cases ay:(k:Int)<(y.length:Int)
 ·refine Ay true Z Z (A7 ay) Ac<|Ai<|Ag Z<|A4<|A0<|A5<|Ad _ [0,0,0,0,2,0,3,3,4,0] Z ?_
  have hmk:=hml k oM
  refine Af 3 Z<|Aw (v:=vy) k Bm AV Z Z a0.isSl Z sD Ac ?_
  obtain⟨ak,al,ah⟩:=a0.rd2.get (k:=k) [] sD
  have b3:=ah.lenle
  refine Al (p:=Ax vy k 1) (.inr Z) ak B7 Z al Ac ?_
  have aa:=Fr.rowCap o1 a0 sD al
  refine cE (v:=ak) Bo BQ Z ah.isSl aa Z sD Ac ?_
  have ab:=(RN.suf (S:=[]) AT (RN.of ah) sD aa).rd
  refine As 143 [] [] [Pv ak] Z Z TN Ac (Fu _ _ _ ab (by rw[List.length_drop];omega)) ?_
  rintro e6 w6 ⟨am,rfl,a6,ac⟩
  refine⟨_,rfl,a6,?_⟩
  have b4:=a6.size
  have b5:=ag.trans a6
  have a1:=a5.ext (o2) a6
  have a2:=a0.ext (o2) a6
  have ad:=ah.ext g1 a6
  have an:=AQ a6 al
  have a7:=ab.ext g1 a6
  refine Bt (u:=am) (B:=w2.heap.size) o1 Bm AV Z Z ac (by first|exact A9 _|omega) Ac fun v8 w8 a8 b9 b6=>?_
  have b7:=a8.size
  have ao:=b5.trans a8
  have a3:=a1.ext (o2) a8
  have a4:=a2.ext (o2) a8
  have az:=ad.ext g1 a8
  have b8:=AQ a8 an
  have ap:=a7.ext g1 a8
  refine DY o1 (v:=vo) (a:=v8) Bm AV Z Z Z a3 ao.size b6 oM ag.size sD (by unfold maxLen;first|omega|assumption|(simp;done)|(simp;omega)) Ac fun bb ba bc a9 ae aq=>?_
  have ar:AB w ba:=a9.below ao (fun c hc=>Aa (A9 _) (ae c hc).1) ao.size
  have b0:w8.heap.size≤ba.heap.size:=a9.size
  have au:=a4.chg (o2) a9 fun c hc=>zH<|ae c hc
  refine Ae 1 Z<|Ad _ [0,0,0] Z<|Af 1 Z<|AG ((k+1:Nat):Int) Z Z (Bc oM sD) Ac<|Ae 1 Z ?_
  exact⟨(k+1,bb),_,rfl,zR,⟨ar,(by rw[DH [] oM];exact aq.up o2),au,sD⟩,zD⟩
 exact Ay false Z Z (A8 ay) Ac<|Ai<|Aj Z<|A6<|At<|At<|An<|qC [0,0] Z<|Ae 2 Z<|A3<|Ah [2] Z vo Z ⟨vo,rfl,ag,(by have h:=a5.up o2;rwa [za oM]at h)⟩
theorem Z2 {p:Prop}(h:p:=by unfold maxLen;first|omega|assumption|(simp only[zb,z9,z4,z6,z5,G7,DV];omega)|(simp[zb,z9,z4,z6,z5,G7,DV];done)|(simp[zb,z9,z4,z6,z5,G7,DV];omega)):p:=h
theorem CH {p:Prop}(h:p:=by first|omega|assumption|(simp only[zb,z9,z4,z6,z5,G7,DV];omega)|(simp[zb,z9,z4,z6,z5,G7,DV];done)|(simp[zb,z9,z4,z6,z5,G7,DV];omega)):p:=h
theorem Ip (w:World)(dp:Nat)(vp:Value)(p:List Fn)(f:Int)(va:Value)(a:Sr)(order:Int)(hp:RP [] dp w.heap vp p)(_hf:BI f)(ha:Rd (B3 rI) w.heap va a)(_horder:BI order)(hz:PY p) :
  Calls Tryz.prog 14 #[(.agg #[vp]),zI f,va,zI order] w (fun e w'=>∃v0:Value,e=.returned (.tuple #[v0,zI (Nk p f a order)])∧AB w w'∧Fr (AX (AX rI 2) 27) w.heap.size w'.heap.size w'.heap v0 (L1 p f a order)):=by
 refine Au [.agg #[vp],zI f,va,zI order] 162 Tryz.func14 Z Z sM ?_
 have jo:AB w w:=AB.refl w
 have fx:=hp.lenle
 unfold maxLen at fx
 have lg:=ha.lenle
 refine qC [3,0,0] Z (C9 (cs:=#[vp]) Z Ac fun w1 go kk gl=>?_)
 have gp:=go.size
 have hE1:=jo.trans go
 replace gl:BX w1.heap w.heap.size [vp]:=gl
 refine Ae 2 Z<|qC [0,3,0] Z<|Af 1 Z<|As 72 [] [] [zP w.heap.size,zI f] Z Z pH Ac (Kc _ dp (zP w.heap.size) (p) _ (RN.box gl (RP.mk'<|hp.ext (Am<|AC dp) hE1) sM) _hf hz) ?_
 rintro e2 w2 ⟨rfl,dv⟩
 refine⟨_,rfl,dv,?_⟩
 have gq:=dv.size
 have dd:=hE1.trans dv
 have d3:=gl.ext dv
 refine Ae 1 Z<|A0<|qC [0,0,0,0,0,2,0,0,0,2,0,3,0,0,0,0,0,0,0] Z<|Af 1 Z ?_
 by_cases jp:Ge p f CZ=((0:Nat):Int)
 ·refine Av true Z Z (A7 jp) Ac<|Af 2 Z ?_
  have kl:=QT (p:=p) (f:=f) oM
  refine Ap (p:=zP w.heap.size) 0 BP Z Z (Ak (e:=31) Z Z Z)<|Al (p:=AA (zP w.heap.size) 0) (.inr Z) vp Cp Z (d3.ldp (i:=0) sM) (Ak (e:=31) Z Z Z)<|Af 1 Z<|Aw (v:=vp) ((f).toNat) H1 CK Z Z hp.isSl oM CH (Ak (e:=31) Z Z Z) ?_
  obtain⟨cs4,km,jq⟩:=hp.get (AC dp) Fn.zero (k:=(f).toNat) CH
  obtain⟨l4,rfl,kn⟩:=RF.of km
  have dw:=kn.rn.lenle
  unfold maxLen at dw
  refine AO (p:=Ax vp ((f).toNat) 3) 1 CF Z (jq _<|Az.of_ext [] dd) (Ak (e:=31) Z Z Z)<|Al (p:=AA (Ax vp ((f).toNat) 3) 1) (.inr Z) (zI<|(p.getD ((f).toNat) Fn.zero).params) AN Z ((jq _<|Az.of_ext [] dd).ld (i:=1) (by simp[Dc,FS])) (Ak (e:=31) Z Z Z)<|Cb ((p.getD f.toNat Fn.zero).params-1) Z Z (Do oM oM) (Ak (e:=31) Z Z Z)<|As 73 [] [] [va,zI ((p.getD f.toNat Fn.zero).params-1)] Z Z pI (Ak (e:=31) Z Z Z) (KR _ _ _ _ (ha.ext g1 dd) oM) ?_
  rintro e5 w5 ⟨rfl,dx⟩
  refine⟨_,rfl,dx,?_⟩
  have gr:=dx.size
  have de:=dd.trans dx
  have dy:=d3.ext dx
  refine BF (!(decide ((a.length:Int)=((p.getD f.toNat Fn.zero).params-1)) && B8 a)) Z Z (Ak (e:=31) Z Z Z)<|Af 1 Z ?_
  cases ko:(!(decide ((a.length:Int)=((p.getD f.toNat Fn.zero).params-1)) && B8 a))
  ·refine Af 1 Z<|AD 74 [] [] [zI order,zI ((0:Nat):Int),zI ((12:Nat):Int)] Z Z Jf (Ak (e:=42) Z Z Z) (.bool (decide (((0:Nat):Int)≤order) && decide (order≤((12:Nat):Int)))) (fun wq=>BH wq _ _ _ _horder oM oM)<|BF (!(decide (((0:Nat):Int)≤order) && decide (order≤((12:Nat):Int)))) Z Z (Ak (e:=42) Z Z Z)<|Ae 2 Z ?_
   cases jr:(!(decide (((0:Nat):Int)≤order) && decide (order≤((12:Nat):Int))))
   ·refine Aj (by first|rfl|exact zW jr)<|A4<|A0<|qC [0,0] Z<|Af 1 Z ?_
    have kp:¬(Ge p f CZ≠((0:Nat):Int)):=oM
    refine B4 false Z Z (A8 kp) Ac<|Ai<|Aj Z<|A4<|qC [3,0,4,0] Z ?_
    have dt:KK p f a order=0:=cW oM (EO ‹(!(decide ((a.length:Int)=((p.getD f.toNat Fn.zero).params-1)) && B8 a))=false›) (show Gl order 0 12=true from EO ‹(!(decide (((0:Nat):Int)≤order) && decide (order≤((12:Nat):Int))))=false›)
    have hKP:=Y1 dt
    have hIm:=hKP.1
    have ko:=hIm.b
    have hpl:=hIm.l
    have lb:=hIm.v
    clear kl
    refine Bt (u:=zI ((0:Nat):Int)) (B:=w5.heap.size) AT Bo BQ Z Z (Mz w5.heap.size w5.heap.size _ _ oM) (A9 _) Ac fun lp lq cu gs dz=>?_
    have e0:=cu.size
    have cv:=de.trans cu
    have df:=dy.ext cu
    refine Af 1 Z ?_
    refine FK (v:=lp) (a:=va) Bo BQ Z Z Z dz oM (ha.ext g1 cv) CH Z2 Ac fun l5 fr m4 cw dg e1=>?_
    have dh:AB w fr:=cw.below cv (fun c hc=>Aa de.size (dg c hc).1) cv.size
    have e3:lq.heap.size≤fr.heap.size:=cw.size
    have di:=df.chg cw fun hm=>zH<|dg _ hm
    refine Ae 1 Z<|qC [0,0,3,0,0,0,0,0,0,0] Z ?_
    have d4:Fr (AX rI 2) w5.heap.size fr.heap.size fr.heap l5 (0::a):=by exact e1
    refine Af 2 Z<|As 75 [] [] [zP w.heap.size,zI f,l5] Z Z gT Ac (GA _ dp (zP w.heap.size) (p) _ _ _ (RN.box di (RP.mk'<|hp.ext (Am<|AC dp) dh) sM) _hf d4.rd1 lb hKP.2.2.1 (by rw[z9];omega) hIm.num) ?_
    rintro m5 lr ⟨a1,rfl,bx,ch,gt,gu⟩
    refine⟨_,rfl,bx,?_⟩
    have e4:=bx.size
    have cx:=dh.trans bx
    have b2:=di.ext bx
    have bf:=d4.ext (o1) bx
    refine Af 1 Z<|AM (vs:=[a1,zI ((Ph p 1 f.toNat (Cc (0::a)):Nat):Int),zI<|Es p f.toNat (0::a)]) a1 Z Z Ac<|AM (vs:=[a1,zI ((Ph p 1 f.toNat (Cc (0::a)):Nat):Int),zI<|Es p f.toNat (0::a)]) (zI ((Ph p 1 f.toNat (Cc (0::a)):Nat):Int)) Z Z Ac<|AM (vs:=[a1,zI ((Ph p 1 f.toNat (Cc (0::a)):Nat):Int),zI<|Es p f.toNat (0::a)]) (zI<|Es p f.toNat (0::a)) Z Z Ac<|Ae 3 Z<|A0<|qC [0,0] Z ?_
    have hNP:=‹fQ p f.toNat (0::a)›
    have hNC:=hNP.code
    refine Af 1 Z ?_
    by_cases e6:Es p f.toNat (0::a)≠((0:Nat):Int)
    ·refine B4 true Z Z (A7 e6) Ac<|Ai<|Ag Z<|qC [3,0,0,0] Z (BU (AX rI 2) o1 Bm AV Ac fun lh m6 cy kq gv=>?_)
     have js:=cy.size
     have gw:=cx.trans cy
     have gm:=b2.ext cy
     have e7:=bf.ext (o1) cy
     refine Ae 3 Z<|A3<|Aq ?_
     have hcn:Es p f.toNat (0::a)≠0:=by omega
     exact Ah [8,9] Z (.tuple #[lh,zI<|Es p f.toNat (0::a)]) Z ⟨lh,(by rw[QW dt hcn]),gw,(by rw[KL (by rw[QW dt hcn];exact hcn)];exact(gv.up o2).low cx.size)⟩
    refine B4 false Z Z (A8 e6) Ac<|Ai<|Aj Z<|A4<|A0<|qC [0] Z ?_
    have du:Es p f.toNat (0::a)=0:=by omega
    have hnl:(Ep p f.toNat (0::a)).length=a.length:=by rw[hNP.len du];have:=hIm.o;omega
    obtain⟨m7,T0,hrc⟩:=Y5 hIm.v hIm.lt (by rw[z9];omega) hIm.num du
    refine Ae 1 Z<|A5<|AR (S:=Nat) (fun i=>([(14,zI (i:Int)),(1,zI f),(2,va),(3,zI order),(4,zP w.heap.size),(11,l5),(12,a1)])) (fun i W=>AB w W∧Fr (AX rI 2) w5.heap.size fr.heap.size W.heap l5 (0::a)∧Fr (AX rI 2) fr.heap.size lr.heap.size W.heap a1 (Ep p f.toNat (0::a))∧BX W.heap w.heap.size [vp]∧i≤a.length∧(∀j,j<i→(Ep p f.toNat (0::a)).getD j 0=0)) (fun i=>a.length-i) 0 ⟨rfl,rfl,rfl,rfl,rfl,rfl,rfl,trivial⟩ ⟨cx,bf,ch,b2,oM,(by intro j hj;omega)⟩ ?_
    clear jo kk go gp hE1 dv gq dd dw dx dz gs cu e0 cv e1 dg cw di ch bx b2
    rintro i ρ17 lc ⟨bm,b3,a2,a6,gx,hzz⟩
    have e8:w.heap.size≤lc.heap.size:=bm.size
    have kr:=a6.lt
    refine A0<|qC [0,0,0,0] Z<|Af 2 Z<|AL (v:=a1) Bo Z a2.isSl Ac ?_
    by_cases e9:(i:Int)<(((Ep p f.toNat (0::a)).length:Nat):Int)
    ·refine Ay true Z Z (A7 e9) Ac<|Ai<|Ag Z<|A4<|A0<|A5<|qC [0,0,0,2,0] Z<|Af 2 Z<|Aw (v:=a1) i Bo BQ Z Z a2.isSl Z CH Ac ?_
     refine Al (p:=Ax a1 i 1) (.inr Z) (zI<|(Ep p f.toNat (0::a)).getD i 0) AN Z (a2.rd1.getI CH).1 Ac ?_
     by_cases ea:(Ep p f.toNat (0::a)).getD i 0≠((0:Nat):Int)
     ·refine B4 true Z Z (A7 ea) Ac<|Ai<|Ag Z<|qC [3,0,0] Z (BU (AX rI 2) o1 Bm AV Ac fun li m8 eb ks gy=>?_)
      have jt:=eb.size
      have gz:=bm.trans eb
      refine Ae 2 Z<|A3<|AJ<|Aq<|Aq<|AJ<|Aq ?_
      have hcf:=Y2 dt du<|gJ (j:=i) oM (by assumption)
      exact Ah [8,9] Z (.tuple #[li,zI ((4:Nat):Int)]) Z ⟨li,(by rw[hcf];rfl),gz,(by rw[KL (by rw[hcf];decide)];exact(gy.up o2).low bm.size)⟩
     refine B4 false Z Z (A8 ea) Ac<|Ai<|Aj Z<|A4<|Ad _ [0,0,0] Z<|Af 1 Z<|AG ((i+1:Nat):Int) Z Z (Bc oM CH) Ac<|Ae 1 Z ?_
     exact⟨i+1,_,rfl,zR,⟨bm,b3,a2,a6,oM,(by intro j hj;by_cases h9:j=i;(subst h9;omega);exact hzz j oM)⟩,zD⟩
    refine Ay false Z Z (A8 e9) Ac<|Ai<|Aj Z<|A6<|At<|At<|An<|qC [0,0,3,0,0,0,0,0] Z ?_
    have hnz:(Ep p f.toNat (0::a)).any (fun x=>x != 0)=false:=kD (fun j hj=>hzz j oM)
    refine Af 2 Z<|As 76 [] [] [zP w.heap.size,zI f,l5] Z Z pJ Ac (Kd _ dp (zP w.heap.size) (p) _ _ _ (RN.box a6 (RP.mk'<|hp.ext (Am<|AC dp) bm) sM) _hf b3.rd1 lb hKP.2.2.1 (by rw[z9];omega) hIm.num) ?_
    rintro m9 f4 ⟨a8,rfl,bn,ci,i0⟩
    refine⟨_,rfl,bn,?_⟩
    have ju:=bn.size
    have i1:=bm.trans bn
    have a9:=b3.ext (o1) bn
    have aa:=a2.ext (o1) bn
    have ab:=a6.ext bn
    refine Af 1 Z<|AM (vs:=[a8,zI<|Es p f.toNat (0::a)]) a8 Z Z Ac<|AM (vs:=[a8,zI<|Es p f.toNat (0::a)]) (zI<|Es p f.toNat (0::a)) Z Z Ac<|Ae 2 Z<|qC [0,3,0] Z ?_
    have d5:Fr (AX (AX rI 2) 27) lc.heap.size f4.heap.size f4.heap a8 (RR p f.toNat (0::a) a.length):=by have h:=ci;rw[if_pos du,show(p.getD f.toNat Fn.zero).outs.length=a.length from by have:=hIm.o;omega]at h;exact h
    have hjl:(RR p f.toNat (0::a) a.length).length=a.length:=by simp[RR]
    refine Af 1 Z<|As 77 [] [] [a8] Z Z pK Ac (NO _ a8 (RR p f.toNat (0::a) a.length) (lc.heap.size) (f4.heap.size) d5 oM (by intro j hj;rw[Mr oM,DP,z9];omega) oM) ?_
    rintro ma la ⟨a0,rfl,bg,cj⟩
    refine⟨_,rfl,bg,?_⟩
    have ec:=bg.size
    have ed:=i1.trans bg
    have ac:=a9.ext (o1) bg
    have ad:=aa.ext (o1) bg
    have ae:=ab.ext bg
    have ck:=d5.ext (o2) bg
    refine Ae 1 Z<|A0<|qC [0,3,0] Z ?_
    have d6:Fr (AX (AX rI 2) 27) f4.heap.size la.heap.size la.heap a0 (Gv p f.toNat a):=by exact cj
    have hjS:=RS hrc (by have:=hrc.xl;have:=hIm.o;omega)
    have i2:(Gv p f.toNat a).length=a.length:=KJ
    have i3:Sq (Gv p f.toNat a).length (Gv p f.toNat a):=by rw[i2];exact hjS
    refine Af 1 Z<|As 78 [] [] [a0] Z Z pL Ac (O8 _ _ _ d6.rd2 i3 oM) ?_
    rintro mb f1 ⟨rfl,b4⟩
    refine⟨_,rfl,b4,?_⟩
    have jv:=b4.size
    have bz:=ed.trans b4
    have af:=ac.ext (o1) b4
    have ag:=ad.ext (o1) b4
    have ah:=ae.ext b4
    have bh:=ck.ext (o2) b4
    have bi:=d6.ext (o2) b4
    by_cases ee:DC (Gv p f.toNat a)=((0:Nat):Int)
    ·refine Av true Z Z (A7 ee) Ac<|Ai<|Ag Z<|qC [3,0,0] Z (BU (AX rI 2) o1 Bm AV Ac fun lj mc cz kt i4=>?_)
     have jw:=cz.size
     have i5:=bz.trans cz
     have ef:=bh.ext (o2) cz
     have eg:=bi.ext (o2) cz
     refine Ae 2 Z<|A3<|Aq ?_
     have hcf:=Y3 dt du hnz (by assumption)
     exact Ah [8,9] Z (.tuple #[lj,zI ((6:Nat):Int)]) Z ⟨lj,(by rw[hcf];rfl),i5,(by rw[KL (by rw[hcf];decide)];exact(i4.up o2).low bz.size)⟩
    refine Av false Z Z (A8 ee) Ac<|Ai<|Aj Z<|A4<|qC [3,0] Z ?_
    have hdt:DC (Gv p f.toNat a)≠0:=by omega
    refine BU (AX rI 2) o1 Bm AV Ac fun ls me bj i6 eh=>?_
    have ei:=bj.size
    have ej:=bz.trans bj
    have c0:=af.ext (o1) bj
    have c1:=ag.ext (o1) bj
    have ai:=ah.ext bj
    have ek:=bh.ext (o2) bj
    have cl:=bi.ext (o2) bj
    refine Ae 1 Z<|A0<|qD Z<|A5 ?_
    refine AR (S:=Nat×Value) (fun⟨i,vy⟩=>([(18,vy),(19,zI (i:Int)),(1,zI f),(2,va),(3,zI order),(4,zP w.heap.size),(17,a0)])) (fun⟨i,vy⟩ W=>AB w W∧Fr (AX (AX rI 2) 27) f1.heap.size W.heap.size W.heap vy ((a.take i).map<|cst (order.toNat+1))∧Fr (AX (AX rI 2) 27) f4.heap.size la.heap.size W.heap a0 (Gv p f.toNat a)∧BX W.heap w.heap.size [vp]∧i≤a.length∧w.heap.size<f1.heap.size∧f1.heap.size≤W.heap.size) (fun⟨i,vy⟩=>a.length-i) (0,ls) ⟨rfl,rfl,rfl,rfl,rfl,rfl,rfl,trivial⟩ ⟨ej,eh.up o2,cl,ai,CH,oM,oM⟩ ?_
    clear gr de dh e3 e4 cx a6 a2 b3 bm e8 ci bn a9 aa ab cj bg ac ad ae b4 af ag ah eh i6 bj ei ej c0 c1 ai
    rintro⟨i,vy⟩ ρ31 l6 ⟨cm,bo,bp,b5,i7,jx,jy⟩
    have el:w.heap.size≤l6.heap.size:=cm.size
    have ku:=b5.lt
    refine A0<|qC [0,0,0,0] Z<|Af 2 Z<|AL (v:=va) Bo Z ha.isSl Ac ?_
    by_cases em:(i:Int)<(a.length:Int)
    ·refine Ay true Z Z (A7 em) Ac<|Ai<|Ag Z<|A4<|A0<|A5<|Ad _ [0,0,0,0,2,0,0,3,3,4,0] Z<|Af 3 Z<|Aw (v:=va) i Bo BQ Z Z ha.isSl Z CH Ac ?_
     refine Al (p:=Ax va i 1) (.inr Z) (zI<|a.getD i 0) AN Z (AQ cm (ha.getI CH).1) Ac<|Af 1 Z<|AG ((order.toNat+1:Nat):Int) Z Z (by rw[Do oM oM];omega) Ac ?_
     refine As 79 [] [] [zI<|a.getD i 0,zI ((order.toNat+1:Nat):Int)] Z Z UC Ac (CT _ _ (order.toNat+1) (ha.getI CH).2 CH oM) ?_
     rintro mf mg ⟨en,rfl,c2,dj⟩
     refine⟨_,rfl,c2,?_⟩
     have jz:=c2.size
     have i8:=cm.trans c2
     have c3:=bo.ext (o2) c2
     have c4:=bp.ext (o2) c2
     have c5:=b5.ext c2
     refine Bt (u:=en) (B:=l6.heap.size) o1 Bm AV Z Z dj (by first|exact A9 _|omega) Ac fun lu lv cn kv i9=>?_
     have k0:=cn.size
     have eo:=i8.trans cn
     have c6:=c3.ext (o2) cn
     have c7:=c4.ext (o2) cn
     have c8:=c5.ext cn
     refine DY o1 (v:=vy) (a:=lu) Bm AV Z Z Z c6 oM i9 oM oM CH Z2 Ac fun lw lk mh d0 dk ia=>?_
     have ib:AB w lk:=d0.below eo (fun c hc=>Aa bz.size (dk c hc).1) eo.size
     have k1:lv.heap.size≤lk.heap.size:=d0.size
     have ic:=c7.chg (o2) d0 fun c hc=>zH<|dk c hc
     have id:=c8.chg d0 fun hm=>zH<|dk _ hm
     refine Ae 1 Z<|Ad _ [0,0,0] Z<|Af 1 Z<|AG ((i+1:Nat):Int) Z Z (Bc oM CH) Ac<|Ae 1 Z ?_
     exact⟨(i+1,lw),_,rfl,zR,⟨ib,(by rw[DH 0 oM];exact ia.up o2),ic,id,CH,oM,oM⟩,zD⟩
    refine Ay false Z Z (A8 em) Ac<|Ai<|Aj Z<|A6<|At<|At<|An<|A0<|qC [0] Z ?_
    have ep:Fr (AX (AX rI 2) 27) f1.heap.size l6.heap.size l6.heap vy (KZ p f.toNat a order.toNat 0):=by have h:=bo;rw[za oM]at h;exact h
    obtain⟨BL,hBL⟩:∃b:Nat,b=la.heap.size:=⟨_,rfl⟩
    have d7:=bp
    rw[← hBL]at d7
    have ie:BL≤l6.heap.size:=by omega
    have ig:BL≤f1.heap.size:=by omega
    refine Ae 1 Z<|A5 ?_
    refine AR (S:=Nat×List (Sr)) (fun⟨k,ys⟩=>([(20,zI (k:Int)),(1,zI f),(3,zI order),(4,zP w.heap.size),(17,a0),(18,vy)])) (fun⟨k,ys⟩ W=>AB w W∧Fr (AX (AX rI 2) 27) f1.heap.size W.heap.size W.heap vy ys∧Fr (AX (AX rI 2) 27) f4.heap.size BL W.heap a0 (Gv p f.toNat a)∧BX W.heap w.heap.size [vp]∧BL≤W.heap.size∧1≤k∧k≤order.toNat+1∧ys=KZ p f.toNat a order.toNat (k-1)∧w.heap.size<f1.heap.size∧f1.heap.size≤W.heap.size) (fun⟨k,ys⟩=>order.toNat+1-k) (1,KZ p f.toNat a order.toNat 0) ⟨rfl,rfl,rfl,rfl,rfl,rfl,trivial⟩ ⟨cm,ep.up o2,d7,b5,oM,oM,oM,(by rfl),oM,oM⟩ ?_
    clear ec ed b5 bp bo cm el
    rintro⟨k,ys⟩ ρ45 f3 ⟨dl,b6,co,bq,ih,ii,ij,hyf,k2,k3⟩
    have k4:w.heap.size≤f3.heap.size:=dl.size
    have kw:=bq.lt
    refine A0<|qC [0,0,0] Z<|Af 2 Z ?_
    by_cases eq:(k:Int)≤order
    ·refine DE true Z Z (A7 eq) Ac<|Ai<|Ag Z<|A4<|A0<|A5<|qC [0,0,0,0,3,3,0,0,3,0,0,0,0,0] Z ?_
     have hse:=gN (o:=order.toNat) (k:=k-1) hIm hrc hdt hnz oM
     rw[← hyf]at hse
     have hsel:=hse.2.1
     have hso:=gO (o:=order.toNat) (k:=k) hIm hrc hse.1 hse.2.2 oM oM
     refine Af 3 Z<|AG ((k+1:Nat):Int) Z Z (Bc oM oM) Ac<|As 82 [] [] [vy,zI ((k+1:Nat):Int)] Z Z pN Ac (O9 _ vy (ys) (f1.heap.size) (f3.heap.size) (k+1) b6 oM CH (by intro j hj;have:=(hse.1 j hj).1;omega) oM) ?_
     rintro mi ll ⟨d8,rfl,br,b7⟩
     refine⟨_,rfl,br,?_⟩
     have er:=br.size
     have es:=dl.trans br
     have aj:=b6.ext (o2) br
     have ak:=co.ext (o2) br
     have al:=bq.ext br
     refine As 81 [] [] [d8] Z Z pM Ac (NM _ d8 (ys.map<|CB (k+1)) (RN.of_fr2 b7 fun b hb=>absurd hb z2) b7.cap (by rw[zg];omega) (by rw[hso.2.2.2];omega)) ?_
     rintro mj fs ⟨lm,rfl,bk,et,eu⟩
     refine⟨_,rfl,bk,?_⟩
     have ev:=bk.size
     have dm:=es.trans bk
     have am:=aj.ext (o2) bk
     have an:=ak.ext (o2) bk
     have a3:=al.ext bk
     have ao:=b7.ext (o2) bk
     refine Af 1 Z<|AG ((k+1:Nat):Int) Z Z (Bc oM oM) Ac<|As 80 [] [] [zP w.heap.size,zI f,lm,zI ((k+1:Nat):Int)] Z Z kJ Ac (IT _ dp (zP w.heap.size) (p) _ lm (Cv<|ys.map<|CB (k+1)) (k+1) (RN.box a3 (RP.mk'<|hp.ext (Am<|AC dp) dm) sM) _hf et eu lb hKP.2.2.1 (by rw[DV,zg];omega) hso.2.2.1 oM) ?_
     rintro ml f2 ⟨a5,rfl,b8,cp,ik⟩
     refine⟨_,rfl,b8,?_⟩
     have ew:=b8.size
     have dn:=dm.trans b8
     have ap:=am.ext (o2) b8
     have aq:=an.ext (o2) b8
     have ar:=a3.ext b8
     have au:=ao.ext (o2) b8
     have il:=et.ext g2 b8
     refine Af 1 Z<|AM (vs:=[a5,zI<|H7 p (k+1) f.toNat<|Cv<|ys.map<|CB (k+1)]) a5 Z Z Ac<|AM (vs:=[a5,zI<|H7 p (k+1) f.toNat<|Cv<|ys.map<|CB (k+1)]) (zI<|H7 p (k+1) f.toNat<|Cv<|ys.map<|CB (k+1)) Z Z Ac<|Ae 2 Z<|qC [3,0] Z ?_
     have hol:=hso.1
     have im:f3.heap.size≤f2.heap.size:=by omega
     have io:f3.heap.size≤fs.heap.size:=by omega
     have ip:BL≤f2.heap.size:=by omega
     have iq:BL≤f1.heap.size:=by omega
     have ir:BL≤f3.heap.size:=by omega
     have is:BL≤fs.heap.size:=by omega
     have it:ll.heap.size≤f2.heap.size:=by omega
     have iu:ll.heap.size≤fs.heap.size:=by omega
     refine BU (rI) AT Bo BQ Ac fun lx mn b9 iv ex=>?_
     have ey:=b9.size
     have ez:=dn.trans b9
     have av:=ap.ext (o2) b9
     have aw:=aq.ext (o2) b9
     have ax:=ar.ext b9
     have c9:=au.ext (o2) b9
     have ay:=cp.ext (o2) b9
     have kx:=il.ext g2 b9
     refine Ae 1 Z<|A0<|qD Z<|A5 ?_
     refine AR (S:=Nat×Value) (fun⟨i,vr⟩=>([(23,vr),(24,zI (i:Int)),(1,zI f),(3,zI order),(4,zP w.heap.size),(17,a0),(18,vy),(20,zI (k:Int)),(21,a5)])) (fun⟨i,vr⟩ W=>AB w W∧Fr (AX rI 2) f2.heap.size W.heap.size W.heap vr ((dA p f.toNat a k ys).take i)∧Fr (AX (AX rI 2) 27) f1.heap.size f3.heap.size W.heap vy ys∧Fr (AX (AX rI 2) 27) f4.heap.size BL W.heap a0 (Gv p f.toNat a)∧Fr (AX (AX rI 2) 27) fs.heap.size f2.heap.size W.heap a5 (DB p (k+1) f.toNat<|Cv<|ys.map<|CB (k+1))∧BX W.heap w.heap.size [vp]∧i≤a.length∧w.heap.size<f2.heap.size∧f2.heap.size≤W.heap.size) (fun⟨i,vr⟩=>a.length-i) (0,lx) ⟨rfl,rfl,rfl,rfl,rfl,rfl,rfl,rfl,rfl,trivial⟩ ⟨ez,ex.up o1,av,aw,ay,ax,oM,oM,oM⟩ ?_
     clear bq co b6 b7 br er es aj ak al bk am an a3 ao cp b8 ap aq ar au ex iv b9 ey ez av aw ax c9 ay
     rintro⟨i,vr⟩ ρ64 Do ⟨dq,bs,bt,ba,a4,bb,iw,k5,k6⟩
     have k7:w.heap.size≤Do.heap.size:=dq.size
     have ky:=bb.lt
     refine A0<|qC [0,0,0,0] Z<|Af 2 Z<|AL (v:=a5) Bm Z a4.isSl Ac ?_
     by_cases g0:(i:Int)<(((DB p (k+1) f.toNat (Cv (ys.map (CB (k+1))))).length:Nat):Int)
     ·refine Ay true Z Z (A7 g0) Ac<|Ai<|Ag Z<|A4<|A0<|A5<|Ad _ [0,0,0,0,2,0,0,2,0,3,4,0] Z ?_
      have hoi:=hso.2.1 i oM
      have kz:=hoi.1
      have ix:=Bk hoi.2 k
      refine Af 3 Z<|Aw (v:=a5) i Bm AV Z Z a4.isSl Z CH Ac ?_
      obtain⟨dr,g3,cq⟩:=a4.rd2.get (k:=i) [] CH
      have k8:=cq.lenle
      refine Al (p:=Ax a5 i 1) (.inr Z) dr B7 Z g3 Ac<|Af 1 Z<|Aw (v:=dr) k Bo BQ Z Z cq.isSl Z CH Ac ?_
      refine Al (p:=Ax dr k 1) (.inr Z) (zI<|((DB p (k+1) f.toNat<|Cv<|ys.map<|CB (k+1)).getD i []).getD k 0) AN Z (cq.getI CH).1 Ac ?_
      refine AD 83 [] [] [zI<|((DB p (k+1) f.toNat<|Cv<|ys.map<|CB (k+1)).getD i []).getD k 0] Z Z kK Ac (zI<|md (-(((DB p (k+1) f.toNat<|Cv<|ys.map<|CB (k+1)).getD i []).getD k 0))) (fun wq=>Jv wq _ (cq.getI CH).2 ix.1) ?_
      refine Bt (u:=zI<|md (-(((DB p (k+1) f.toNat<|Cv<|ys.map<|CB (k+1)).getD i []).getD k 0))) (B:=Do.heap.size) AT Bo BQ Z Z (Mz Do.heap.size Do.heap.size _ _<|E0 _) (A9 _) Ac fun ly lz bc l0 g4=>?_
      have k9:=bc.size
      have g5:=dq.trans bc
      have ca:=bs.ext (o1) bc
      have cb:=bt.ext (o2) bc
      have cc:=ba.ext (o2) bc
      have cd:=a4.ext (o2) bc
      have ce:=bb.ext bc
      have gn:=cq.ext g1 bc
      have ka:=AQ bc g3
      refine FK (v:=vr) (a:=ly) Bo BQ Z Z Z ca oM g4.rd1 CH Z2 Ac fun m0 ln mo bu cf iy=>?_
      have iz:AB w ln:=bu.below g5 (fun c hc=>Aa dn.size (cf c hc).1) g5.size
      have kb:lz.heap.size≤ln.heap.size:=bu.size
      have j0:=cb.chg (o2) bu fun c hc=>zH<|cf c hc
      have j1:=cc.chg (o2) bu fun c hc=>zH<|cf c hc
      have j2:=cd.chg (o2) bu fun c hc=>zH<|cf c hc
      have j3:=ce.chg bu fun hm=>zH<|cf _ hm
      have l1:=g4.chg (o1) bu fun c hc=>zH<|cf c hc
      exact Ae 1 Z<|Ad _ [0,0,0] Z<|Af 1 Z<|AG ((i+1:Nat):Int) Z Z (Bc oM CH) Ac<|Ae 1 Z ⟨(i+1,m0),_,rfl,zR,⟨iz,(by rw[CA 0 (by rw[G7];omega),gK oM];exact iy.up o1),j0,j1,j2,j3,oM,oM,oM⟩,zD⟩
     refine Ay false Z Z (A8 g0) Ac<|Ai<|Aj Z<|A6<|At<|At<|An<|qC [0,0,3,0] Z ?_
     have d9:Fr (AX rI 2) f2.heap.size Do.heap.size Do.heap vr (dA p f.toNat a k ys):=by have h:=bs;rw[za (by rw[G7];omega)]at h;exact h
     have hhk:=gP hIm hrc hdt (b:=dA p f.toNat a k ys) PE
     refine Af 2 Z<|As 84 [] [] [a0,vr] Z Z pO Ac (M0 _ _ _ _ _ ba.rd2 d9.rd1 hhk.1 oM (by rw[G7];omega) PE hhk.2.2) ?_
     rintro mp fe ⟨bl,rfl,bd,cr⟩
     refine⟨_,rfl,bd,?_⟩
     have kc:=bd.size
     have j4:=dq.trans bd
     have g6:=d9.ext (o1) bd
     have az:=bt.ext (o2) bd
     have b0:=ba.ext (o2) bd
     have cg:=a4.ext (o2) bd
     have b1:=bb.ext bd
     refine Ae 1 Z<|qC [0] Z ?_
     have hnw:(Z5 p f.toNat a k ys).length=a.length:=by rw[gL,MQ hhk.1 PE hhk.2.2];exact hhk.2.1
     have g7:Fr (AX rI 2) Do.heap.size fe.heap.size fe.heap bl (Z5 p f.toNat a k ys):=by exact cr
     have j5:Do.heap.size≤fe.heap.size:=by omega
     have j6:f3.heap.size≤fe.heap.size:=by omega
     have j7:f3.heap.size≤f2.heap.size:=by omega
     have j8:f3.heap.size≤fs.heap.size:=by omega
     have j9:f3.heap.size≤Do.heap.size:=by omega
     have ja:BL≤fe.heap.size:=by omega
     have jb:BL≤f2.heap.size:=by omega
     have jc:BL≤f1.heap.size:=by omega
     have jd:BL≤fs.heap.size:=by omega
     have je:BL≤Do.heap.size:=by omega
     have jf:f2.heap.size≤fe.heap.size:=by omega
     have jg:f2.heap.size≤Do.heap.size:=by omega
     refine Ae 1 Z<|A5<|AR (S:=Nat) (fun i=>([(26,zI (i:Int)),(1,zI f),(3,zI order),(4,zP w.heap.size),(17,a0),(18,vy),(20,zI (k:Int)),(25,bl)])) (fun i W=>AB w W∧Fr (AX (AX rI 2) 27) f1.heap.size f3.heap.size W.heap vy (CJ i (KZ p f.toNat a order.toNat k) ys)∧Fr (AX (AX rI 2) 27) f4.heap.size BL W.heap a0 (Gv p f.toNat a)∧Fr (AX rI 2) Do.heap.size fe.heap.size W.heap bl (Z5 p f.toNat a k ys)∧BX W.heap w.heap.size [vp]∧i≤a.length∧f1.heap.size≤W.heap.size) (fun i=>a.length-i) 0 ⟨rfl,rfl,rfl,rfl,rfl,rfl,rfl,rfl,trivial⟩ ⟨j4,(by rw[D6];exact az),b0,g7,b1,oM,oM⟩ ?_
     clear ev dm ew dn bb a4 ba bt bs cr bd az b0 cg b1
     rintro i ρ93 lf ⟨d1,a7,ct,be,bv,jh,kd⟩
     have ke:w.heap.size≤lf.heap.size:=d1.size
     have hml:(CJ i (KZ p f.toNat a order.toNat k) ys).length=ys.length:=Ey i _ ys (by rw[hsel];unfold KZ;rw[J8,zg])
     have l2:=bv.lt
     refine A0<|qC [0,0,0,0] Z<|Af 2 Z<|AL (v:=vy) Bm Z a7.isSl Ac ?_
     by_cases g8:(i:Int)<(((CJ i (KZ p f.toNat a order.toNat k) ys).length:Nat):Int)
     ·refine Ay true Z Z (A7 g8) Ac<|Ai<|Ag Z<|A4<|A0<|A5<|AS _ [0,0,0,1,0,0,0,0,1,0,4] mixed (by kernel_rfl) ?_
      have hrw:(CJ i (KZ p f.toNat a order.toNat k) ys).getD i []=ys.getD i []:=by rw[hyf];exact Y6 oM (by rw[zg];omega)
      have hrwl:=congrArg List.length hrw
      have hrl:=(hse.1 i oM).1
      refine Af 2 Z<|Aw (v:=vy) i Bm AV Z Z a7.isSl Z CH Ac ?_
      obtain⟨ds,g9,ga⟩:=a7.rd2.get (k:=i) [] CH
      have kf:=ga.lenle
      refine Al (p:=Ax vy i 1) (.inl Z) ds B7 Z g9 Ac<|Af 3 Z<|Aw (v:=bl) i Bo BQ Z Z be.isSl Z CH Ac ?_
      refine Al (p:=Ax bl i 1) (.inl Z) (zI<|(Z5 p f.toNat a k ys).getD i 0) AN Z (be.rd1.getI CH).1 Ac ?_
      refine Aw (v:=ds) k Bo BQ Z Z ga.isSl Z CH Ac ?_
      refine eS (v:=vy) (u:=ds) (w:=lf.drew) HV Z Z (be.rd1.getI CH).2 a7 CH g9 CH Ac fun lo mq bw l3 d2 ji=>?_
      replace bw:=bw.of_drew
      have jj:AB w lo:=bw.below d1 (fun c hc=>Aa bz.size (d2 c hc).1) d1.size
      have kg:lf.heap.size≤lo.heap.size:=bw.size
      have jk:=ct.chg (o2) bw fun c hc=>zH<|d2 c hc
      have gb:=be.chg (o1) bw fun c hc=>zH<|d2 c hc
      have gc:=bv.chg bw fun hm=>zH<|d2 _ hm
      refine Ai<|Ad _ [0,0,0] Z<|Af 1 Z<|AG ((i+1:Nat):Int) Z Z (Bc oM CH) Ac<|Ae 1 Z ?_
      exact⟨i+1,_,rfl,zR,⟨jj,(by have h:=ji;rw[hrw]at h;rw[show CJ (i+1) (KZ p f.toNat a order.toNat k) ys=_ from gM hyf oM oM];exact h),jk,gb,gc,oM,oM⟩,zD⟩
     refine Ay false Z Z (A8 g8) Ac<|Ai<|Aj Z<|A6<|At<|At<|An<|Ad _ [0,0,0] Z<|Af 1 Z<|AG ((k+1:Nat):Int) Z Z (Bc oM CH) Ac<|Ae 1 Z ?_
     exact⟨(k+1,CJ i (KZ p f.toNat a order.toNat k) ys),_,rfl,zR,⟨d1,a7.up o2,ct,bv,oM,oM,oM,(by rw[DQ (by rw[hsel];unfold KZ;rw[J8,zg]) oM];exact congrArg _ oM),oM,oM⟩,zD⟩
    refine DE false Z Z (A8 eq) Ac<|Ai<|Aj Z<|A6<|At<|At<|An<|qC [0,0,0] Z<|Ae 3 Z<|A3 ?_
    have hcf:=cX dt du hnz hdt
    exact Ah [8,9] Z (.tuple #[vy,zI ((0:Nat):Int)]) Z ⟨vy,(by rw[hcf];rfl),dl,(by have h:=(b6.up o2).low bz.size;rw[Y4 hcf];rw[hyf,show k-1=order.toNat from by omega]at h;exact h)⟩
   refine Ag (by first|rfl|exact zW jr)<|Ad _ [0] Z<|Ae 1 Z<|A0<|qC [0,0] Z<|Af 1 Z<|B4 true Z Z (by decide) Ac<|Ai<|Ag Z<|qC [3,0,0,0] Z (BU (AX rI 2) o1 Bm AV Ac fun l7 m1 da kh gd=>?_)
   have jl:=da.size
   have ge:=de.trans da
   refine Ae 3 Z<|A3<|Aq ?_
   have gf:KK p f a order=2:=TK oM (by rw[(show Gl order 0 12=false from GJ ‹(!(decide (((0:Nat):Int)≤order) && decide (order≤((12:Nat):Int))))=true›),Bool.and_false])
   have hcf:=Nn (o:=order) (show KK p f a order≠0 by rw[gf];decide)
   rw[gf]at hcf
   exact Ah [8,9] Z (.tuple #[l7,zI ((2:Nat):Int)]) Z ⟨l7,(by rw[hcf];rfl),ge,(by rw[KL (by rw[hcf];decide)];exact(gd.up o2).low de.size)⟩
  refine Ae 5 Z<|Ag Z<|Ad _ [0] Z<|Ae 1 Z<|A0<|qC [0,0] Z<|Af 1 Z<|B4 true Z Z (by decide) Ac<|Ai<|Ag Z<|qC [3,0,0,0] Z (BU (AX rI 2) o1 Bm AV Ac fun l8 m2 db ki gg=>?_)
  have jm:=db.size
  have gh:=de.trans db
  refine Ae 3 Z<|A3<|Aq ?_
  have gf:KK p f a order=2:=TK oM (by rw[(GJ ‹(!(decide ((a.length:Int)=((p.getD f.toNat Fn.zero).params-1)) && B8 a))=true›),Bool.false_and])
  have hcf:=Nn (o:=order) (show KK p f a order≠0 by rw[gf];decide)
  rw[gf]at hcf
  exact Ah [8,9] Z (.tuple #[l8,zI ((2:Nat):Int)]) Z ⟨l8,(by rw[hcf];rfl),gh,(by rw[KL (by rw[hcf];decide)];exact(gg.up o2).low de.size)⟩
 refine Av false Z Z (A8 jp) Ac<|Ae 17 Z<|Aj Z<|A4<|A0<|qC [0,0] Z<|Af 1 Z ?_
 have gi:Ge p f CZ≠((0:Nat):Int):=oM
 refine B4 true Z Z (A7 gi) Ac<|Ai<|Ag Z<|qC [3,0,0,0] Z (BU (AX rI 2) o1 Bm AV Ac fun l9 m3 dc kj gj=>?_)
 have jn:=dc.size
 have gk:=dd.trans dc
 refine Ae 3 Z<|A3<|Aq ?_
 have hcn:Ge p f CZ≠0:=by omega
 have hkn:=Y0 (a:=a) (o:=order) hcn
 have hcf:=Nn (o:=order) (show KK p f a order≠0 by rw[hkn];exact hcn)
 rw[hkn]at hcf
 exact Ah [8,9] Z (.tuple #[l9,zI<|Ge p f CZ]) Z ⟨l9,(by rw[hcf]),gk,(by rw[KL (by rw[hcf];exact hcn)];exact(gj.up o2).low dd.size)⟩
theorem mX {a b:List Int}{n:Int}(h0:0≤n)(h1:n≤((a.length:Nat):Int))(h2:n≤((b.length:Nat):Int))(h:∀t,((t:Nat):Int)<n→a.getD t 0=b.getD t 0):iN a b n=true:=by
  unfold iN
  rw[A7 h1,A7 h2]
  simp only[Bool.true_and]
  refine A7 (oE (by rw[List.length_take,List.length_take];omega) fun j hj=>?_)
  rw[List.length_take]at hj
  have tk:∀(l:List Int),(l.take n.toNat).getD j 0=l.getD j 0:=fun l=>by rw[List.getD_eq_getElem?_getD,List.getElem?_take,if_pos zO,← List.getD_eq_getElem?_getD]
  rw[tk,tk]
  exact h j zO
theorem bG {p:Prop}(h:p:=by show _≤w19.heap.size;omega):p:=h
theorem M3 (w:World)(vc:Value)(cs:List UInt8)(vd:Value)(ds:List UInt8)(hcs:Rd (B3 rU) w.heap vc cs)(hds:Rd (B3 rU) w.heap vd ds)  :
  Calls Tryz.prog 3 #[vc,vd] w (fun e w'=>e=.returned (.bool true)∧AB w w'):=by
 refine Au [vc,vd] 112 Tryz.func3 Z Z sM ?_
 have cr:AB w w:=AB.refl w
 have d0:=hcs.lenle
 have d1:=hds.lenle
 refine qD Z<|A0<|qC [0,0,3] Z<|Af 2 Z<|As 12 [] [] [vc,vd] Z Z oW Ac (O0 _ _ _ _ _ (hcs.ext D5 cr)<|hds.ext D5 cr) ?_
 rintro e1 w1 ⟨rfl,ct⟩
 refine⟨_,rfl,ct,?_⟩
 have d4:=ct.size
 have cu:=cr.trans ct
 refine Ai ?_
 cases di:(decide (((3000:Nat):Int)<(cs.length:Int)) || decide (((3000:Nat):Int)<(ds.length:Int)))
 ·refine Aj (by first|rfl|exact zW di)<|A4<|qC [0,3,0,0,0,0,3,4,0,0] Z<|Af 1 Z<|As 13 [] [] [vc] Z Z oX Ac (KU _ vc _<|hcs.ext D5 cu) ?_
  rintro e3 w3 ⟨vD,vaD,pD,fD,aD,rfl,cv,hOD,haD,hED⟩
  refine⟨_,rfl,cv,?_⟩
  have d5:=cv.size
  have dj:=cu.trans cv
  have hfe:=hED.fe
  have hlc:=hED.len
  refine Af 1 Z<|AM (vs:=[.agg #[vD],zI fD,vaD]) (.agg #[vD]) Z Z Ac<|AM (vs:=[.agg #[vD],zI fD,vaD]) (zI fD) Z Z Ac<|AM (vs:=[.agg #[vD],zI fD,vaD]) vaD Z Z Ac (Bv (z:=.agg #[zN]) Yp Ac fun w4 c6 eb d6=>?_)
  have d7:=c6.size
  have d8:=dj.trans c6
  have bg:=hOD.ext (Ao<|AP 153 9) c6
  have c7:=haD.ext (o1) c6
  replace d6:BX w4.heap w3.heap.size [zN]:=d6
  refine BR (vs:=[vD]) D8 Z Z (by intro u hu;simp only[ze,z2,or_false]at hu;rcases hu with rfl <;> first|exact⟨rfl,rfl⟩|exact Bn bg.isSlS) d6 Z Z Ac fun w5 c8 ec cw=>?_
  replace cw:BX w5.heap w3.heap.size [vD]:=cw
  have d9:w4.heap.size≤w5.heap.size:=c8.size
  have da:AB w w5:=c8.below d8 (fun _ h=>zE h) d8.size
  have dk:=bg.chg (Ao<|AP 153 9) c8 fun _ h=>zA h
  have dl:=c7.chg (o1) c8 fun _ h=>zA h
  refine Ae 2 Z<|A0<|AS _ [1,0,0,0,3,0,3,0,0,0,0,0] mixed (by kernel_rfl)<|B2 (p:=zP w3.heap.size) (.inl Z) [vD] D8 Z (fun d2 c9=>LD.of_box<|BX.ext (w:=w5.drew) cw c9) Z Ac<|Af 3 Z<|As 15 [] [] [vd,zI ((0:Nat):Int),zI ((6:Nat):Int)] Z Z gR Ac (IN _ _ _ _ _ (hds.ext D5 da.drew) oM oM oM) ?_
  rintro e8 w8 ⟨rfl,bc⟩
  refine⟨_,rfl,bc,?_⟩
  replace bc:=bc.of_drew
  have ed:=bc.size
  have ee:=da.trans bc
  have b2:=dk.ext (Ao<|AP 153 9) bc
  have b3:=dl.ext (o1) bc
  have ca:=cw.ext bc
  have eg:=R3 ds ((0:Nat):Int) ((6:Nat):Int)
  refine AG (((3:Nat):Int)+(Ds ds ((0:Nat):Int) ((6:Nat):Int))) Z Z (Do sD sD) Ac ?_
  refine As 14 [] [] [.agg #[vD],zI fD,vaD,zI (((3:Nat):Int)+(Ds ds ((0:Nat):Int) ((6:Nat):Int)))] Z Z oY Ac (Ip _ 9 vD (pD) _ _ _ _ (RN.of_frF b2 fun b hb=>by cases hb) oM b3.rd1 oM hED.sz) ?_
  rintro e9 w9 ⟨a3,rfl,bm,bh⟩
  refine⟨_,rfl,bm,?_⟩
  have ef:=bm.size
  have dm:=ee.trans bm
  have bi:=b2.ext (Ao<|AP 153 9) bm
  have bj:=b3.ext (o1) bm
  have bk:=ca.ext bm
  refine Af 1 Z<|AM (vs:=[a3,zI<|Nk pD fD aD (((3:Nat):Int)+(Ds ds ((0:Nat):Int) ((6:Nat):Int)))]) a3 Z Z Ac<|AM (vs:=[a3,zI<|Nk pD fD aD (((3:Nat):Int)+(Ds ds ((0:Nat):Int) ((6:Nat):Int)))]) (zI<|Nk pD fD aD (((3:Nat):Int)+(Ds ds ((0:Nat):Int) ((6:Nat):Int)))) Z Z Ac<|Ae 2 Z<|A0<|AS _ [1,0,0,0,3,0,3,0,0,0,0,0] mixed (by kernel_rfl)<|B2 (p:=zP w3.heap.size) (.inl Z) [vD] D8 Z (fun d2 c9=>LD.of_box<|BX.ext (w:=w9.drew) bk c9) Z Ac<|Af 3 Z ?_
  refine As 15 [] [] [vd,zI ((0:Nat):Int),zI ((6:Nat):Int)] Z Z gR Ac (IN _ _ _ _ _ (hds.ext D5 dm.drew) oM oM oM) ?_
  rintro d3 ei ⟨rfl,a9⟩
  refine⟨_,rfl,a9,?_⟩
  replace a9:=a9.of_drew
  have cb:=a9.size
  have cc:=dm.trans a9
  have ap:=bi.ext (Ao<|AP 153 9) a9
  have aq:=bj.ext (o1) a9
  have bn:=bk.ext a9
  have aj:=bh.ext (o2) a9
  refine AG (((3:Nat):Int)+(Ds ds ((0:Nat):Int) ((6:Nat):Int))) Z Z (Do sD sD) Ac ?_
  refine As 16 [] [] [.agg #[vD],zI fD,vaD,zI (((3:Nat):Int)+(Ds ds ((0:Nat):Int) ((6:Nat):Int)))] Z Z oZ Ac (Io _ 9 vD (pD) _ _ _ _ (RN.of_frF ap fun b hb=>by cases hb) oM aq.rd1 oM hED.sz) ?_
  rintro ej ek ⟨av,rfl,ak,b4⟩
  refine⟨_,rfl,ak,?_⟩
  have cd:=ak.size
  have bd:=cc.trans ak
  have b5:=ap.ext (Ao<|AP 153 9) ak
  have b6:=aq.ext (o1) ak
  have bo:=bn.ext ak
  have am:=aj.ext (o2) ak
  refine Af 1 Z<|AM (vs:=[av,zI<|Nk pD fD aD (((3:Nat):Int)+(Ds ds ((0:Nat):Int) ((6:Nat):Int)))]) av Z Z Ac<|AM (vs:=[av,zI<|Nk pD fD aD (((3:Nat):Int)+(Ds ds ((0:Nat):Int) ((6:Nat):Int)))]) (zI<|Nk pD fD aD (((3:Nat):Int)+(Ds ds ((0:Nat):Int) ((6:Nat):Int)))) Z Z Ac<|Ae 2 Z<|A0<|qC [0,0,0] Z<|Af 2 Z<|B4 false Z Z sM Ac<|Ai<|Aj Z<|A4<|A0<|qC [0,0] Z<|Af 1 Z ?_
  by_cases ce:Nk pD fD aD (((3:Nat):Int)+(Ds ds ((0:Nat):Int) ((6:Nat):Int)))≠((0:Nat):Int)
  ·exact B4 true Z Z (A7 ce) Ac<|Ai<|Ag Z<|qD Z<|A3<|Aq<|Ah [4] Z (.bool true) Z ⟨rfl,bd⟩
  refine B4 false Z Z (A8 ce) Ac<|Ai<|Aj Z<|A4<|qC [0,3,0,0] Z ?_
  have hcz:Nk pD fD aD (((3:Nat):Int)+Ds ds ((0:Nat):Int) ((6:Nat):Int))=0:=by omega
  obtain⟨xsI,TI,hIS⟩:=gQ hcz
  have hil:=hIS.l
  have hal:=hED.al
  refine Af 1 Z<|As 15 [] [] [vd,zI ((1:Nat):Int),zI ((4:Nat):Int)] Z Z gR Ac (IN _ _ _ _ _ (hds.ext D5 bd) oM oM oM) ?_
  rintro el em ⟨rfl,af⟩
  refine⟨_,rfl,af,?_⟩
  have cf:=af.size
  have bp:=bd.trans af
  have b7:=b5.ext (Ao<|AP 153 9) af
  have b8:=b6.ext (o1) af
  have bq:=bo.ext af
  have a8:=am.ext (o2) af
  have ab:=b4.ext (o2) af
  have eh:=R3 ds ((1:Nat):Int) ((4:Nat):Int)
  refine AG (((1:Nat):Int)+(Ds ds ((1:Nat):Int) ((4:Nat):Int))) Z Z (Do sD sD) Ac<|Ae 1 Z<|A0 ?_
  refine Ad _ [0,0,0,3,0] Z<|Af 3 Z<|As 17 [] [] [vd,a3,zI (((1:Nat):Int)+(Ds ds ((1:Nat):Int) ((4:Nat):Int)))] Z Z pA Ac (Nv _ _ _ _ _ _ (hds.ext D5 bp) a8.rd2 oM oM (by intro k;by_cases hk:k<(L1 pD fD aD (((3:Nat):Int)+Ds ds ((0:Nat):Int) ((6:Nat):Int))).length;(have:=(hIS.s k hk).1;omega);(rw[List.getD_eq_getElem?_getD,List.getElem?_eq_none oM];simp)) (by intro k;by_cases hk:k<(L1 pD fD aD (((3:Nat):Int)+Ds ds ((0:Nat):Int) ((6:Nat):Int))).length;exact(hIS.s k hk).2;(rw[List.getD_eq_getElem?_getD,List.getElem?_eq_none oM];rfl))) ?_
  rintro en cy ⟨bl,cx,rfl,ag,ah,br⟩
  refine⟨_,rfl,ag,?_⟩
  have dn:=ag.size
  have db:=bp.trans ag
  have ar:=b7.ext (Ao<|AP 153 9) ag
  have b9:=b8.ext (o1) ag
  have bs:=bq.ext ag
  have an:=a8.ext (o2) ag
  have ac:=ab.ext (o2) ag
  refine Ae 1 Z<|qC [2,0,0,3,0,0,0,0,0] Z<|B2 (p:=zP w3.heap.size) (.inr Z) [vD] D8 Z (fun d2 c9=>LD.of_box<|BX.ext (w:=cy) bs c9) Z Ac<|Af 2 Z<|As 18 [] [] [.agg #[vD],zI fD,bl] Z Z pB Ac (KW _ 9 vD (pD) _ bl (cx) (RN.of_frF ar fun b hb=>by cases hb) oM (RN.of_fr2 ah fun b hb=>by cases hb) ah.cap hED.sz) ?_
  rintro eo cz ⟨a2,rfl,ai,au⟩
  refine⟨_,rfl,ai,?_⟩
  have dp:=ai.size
  have dc:=db.trans ai
  have ba:=ar.ext (Ao<|AP 153 9) ai
  have bb:=b9.ext (o1) ai
  have a5:=an.ext (o2) ai
  have a6:=ac.ext (o2) ai
  have ad:=ah.ext (o2) ai
  refine Af 1 Z<|AM (vs:=[a2,zI<|R8 pD fD cx]) a2 Z Z Ac<|AM (vs:=[a2,zI<|R8 pD fD cx]) (zI<|R8 pD fD cx) Z Z Ac<|Ae 2 Z<|A0<|qC [0,0,0,0,0,0,0,0,0,0,0,0,3,0,0] Z ?_
  have hgu:=hIS.guess (M:=((1:Nat):Int)+Ds ds ((1:Nat):Int) ((4:Nat):Int)) oM br
  have hgr:=hgu.2.2.1
  have hzr:=hgu.2.1
  refine Af 1 Z ?_
  have dd:¬(R8 pD fD cx≠((0:Nat):Int)):=(fun h9=>h9 hgu.1)
  refine B4 false Z Z (A8 dd) Ac<|Af 2 Z<|AL (v:=a2) Bm Z au.isSl (Ak (e:=68) Z Z Z)<|Af 1 Z<|AL (v:=a3) Bm Z a5.isSl (Ak (e:=68) Z Z Z) ?_
  have de:¬((((OG pD fD cx).length:Nat):Int)≠(((L1 pD fD aD (((3:Nat):Int)+(Ds ds ((0:Nat):Int) ((6:Nat):Int)))).length:Nat):Int)):=oM
  refine B4 false Z Z (A8 de) (Ak (e:=68) Z Z Z)<|Af 4 Z<|As 19 [] [] [av,a3] Z Z pC (Ak (e:=75) Z Z Z) (KS _ _ _ _ _ a6.rd2 a5.rd2) ?_
  rintro ep er ⟨rfl,aa⟩
  refine⟨_,rfl,aa,?_⟩
  have cg:=aa.size
  have ch:=dc.trans aa
  have bt:=ba.ext (Ao<|AP 153 9) aa
  have bu:=bb.ext (o1) aa
  have ao:=a5.ext (o2) aa
  have aw:=a6.ext (o2) aa
  have ax:=ad.ext (o2) aa
  have ae:=au.ext (o2) aa
  rw[show(decide ((L1 pD fD aD (((3:Nat):Int)+(Ds ds ((0:Nat):Int) ((6:Nat):Int))))=(L1 pD fD aD (((3:Nat):Int)+(Ds ds ((0:Nat):Int) ((6:Nat):Int))))))=true from A7 rfl]
  refine BF false Z Z (Ak (e:=75) Z Z Z)<|Ae 1 Z<|Aj Z<|A4<|A0<|qD Z<|A5 ?_
  refine AR (S:=Nat) (fun i=>([(16,zI (i:Int)),(8,a3),(12,zI (((1:Nat):Int)+(Ds ds ((1:Nat):Int) ((4:Nat):Int)))),(14,a2)])) (fun i W=>AB w W∧Fr (AX (AX rI 2) 27) w8.heap.size w9.heap.size W.heap a3 (L1 pD fD aD (((3:Nat):Int)+(Ds ds ((0:Nat):Int) ((6:Nat):Int))))∧Fr (AX (AX rI 2) 27) cy.heap.size cz.heap.size W.heap a2 (OG pD fD cx)∧i≤(OG pD fD cx).length∧(cz.heap.size≤W.heap.size∧w9.heap.size≤W.heap.size)) (fun i=>(OG pD fD cx).length-i) 0 ⟨rfl,rfl,rfl,rfl,trivial⟩ ⟨ch,ao,ae,oM,oM⟩ ?_
  clear cr ct d4 cu cv d5 dj eb c6 d7 d8 ec c8 d9 da dk dl bc b2 b3 bh bm bi bj a9 cb cc ap aq aj b4 ak cd bd b5 b6 am af cf bp b7 b8 a8 ab ah ag ar b9 an ac au ai ba bb a5 a6 ad aa cg ch bt bu ao aw ax ae
  rintro i ρ19 w19 ⟨be,a0,a1,df,hbU⟩
  have dq:w.heap.size≤w19.heap.size:=be.size
  refine A0<|qC [0,0,0,0] Z<|Af 2 Z<|AL (v:=a2) Bm Z a1.isSl Ac ?_
  by_cases ci:(i:Int)<(((OG pD fD cx).length:Nat):Int)
  ·refine Ay true Z Z (A7 ci) Ac<|Ai<|Ag Z<|A4<|A0<|A5<|qC [0,0,0] Z<|Af 1 Z ?_
   refine FR (((2:Nat):Int)*(((1:Nat):Int)+(Ds ds ((1:Nat):Int) ((4:Nat):Int)))) Z Z (Do sD sD) Ac<|Ae 1 Z ?_
   refine A0<|qC [0,0,0,0,2,0,0] Z ?_
   have hzi:=(hzr i oM).1
   have hyi:=(hIS.s i oM).1
   refine Af 3 Z<|Aw (v:=a3) i Bm AV Z Z a0.isSl Z sD Ac ?_
   obtain⟨cj,bv,bf⟩:=a0.rd2.get (k:=i) [] sD
   have dr:=bf.lenle
   refine Al (p:=Ax a3 i 1) (.inr Z) cj B7 Z bv Ac<|AL (v:=cj) Bo Z bf.isSl Ac ?_
   by_cases ck:((((L1 pD fD aD (((3:Nat):Int)+(Ds ds ((0:Nat):Int) ((6:Nat):Int)))).getD i []).length:Nat):Int)<((2:Nat):Int)*(((1:Nat):Int)+(Ds ds ((1:Nat):Int) ((4:Nat):Int)))
   ·refine C6 true Z Z (A7 ck) Ac<|Ai<|Ag Z<|Ad _ [0,0,0,2,0,0] Z<|Af 2 Z<|Aw (v:=a3) i Bm AV Z Z a0.isSl Z sD Ac ?_
    obtain⟨cl,cm,bw⟩:=a0.rd2.get (k:=i) [] sD
    have dt:=bw.lenle
    refine Al (p:=Ax a3 i 1) (.inr Z) cl B7 Z cm Ac<|AL (v:=cl) Bo Z bw.isSl Ac<|Ae 1 Z<|A0<|AS _ [0,0,0,1,0,0,0,1,0,3,0] mixed (by kernel_rfl)<|Af 2 Z<|Aw (v:=a2) i Bm AV Z Z a1.isSl Z sD Ac ?_
    obtain⟨bx,bz,cn⟩:=a1.rd2.get (k:=i) [] sD
    have du:=cn.lenle
    refine Al (p:=Ax a2 i 1) (.inl Z) bx B7 Z bz Ac<|Af 2 Z<|Aw (v:=a3) i Bm AV Z Z a0.isSl Z sD Ac ?_
    obtain⟨c0,c1,co⟩:=a0.rd2.get (k:=i) [] sD
    have dv:=co.lenle
    refine Al (p:=Ax a3 i 1) (.inl Z) c0 B7 Z c1 Ac<|Af 1 Z ?_
    refine As 20 [] [] [bx,c0,zI ((((L1 pD fD aD (((3:Nat):Int)+(Ds ds ((0:Nat):Int) ((6:Nat):Int)))).getD i []).length:Nat):Int)] Z Z kE Ac (IQ _ bx ((OG pD fD cx).getD i []) (cy.heap.size) (cz.heap.size) c0 ((L1 pD fD aD (((3:Nat):Int)+(Ds ds ((0:Nat):Int) ((6:Nat):Int)))).getD i []) (w8.heap.size) (w9.heap.size) _ (Fr.rowFr o1 a1 sD bz) bG (Fr.rowFr o1 a0 sD c1) bG oM oM) ?_
    rintro es et ⟨rfl,a4⟩
    refine⟨_,rfl,a4,?_⟩
    replace a4:=a4.of_drew
    have dw:=a4.size
    have dg:=be.trans a4
    have ay:=a0.ext (o2) a4
    have az:=a1.ext (o2) a4
    have dx:=AQ a4 bv
    have dy:=AQ a4 cm
    have dz:=AQ a4 bz
    have e0:=AQ a4 c1
    rw[show(iN ((OG pD fD cx).getD i []) ((L1 pD fD aD (((3:Nat):Int)+(Ds ds ((0:Nat):Int) ((6:Nat):Int)))).getD i []) ((((L1 pD fD aD (((3:Nat):Int)+(Ds ds ((0:Nat):Int) ((6:Nat):Int)))).getD i []).length:Nat):Int))=true from mX oM oM oM (fun t ht=>hgu.2.2.2 i oM t oM oM)]
    exact BF false Z Z Ac<|Ai<|Aj Z<|A4<|Ad _ [0,0,0] Z<|Af 1 Z<|AG ((i+1:Nat):Int) Z Z (Bc oM oM) Ac<|Ae 1 Z ⟨i+1,_,rfl,zR,⟨dg,ay,az,oM,oM⟩,zD⟩
   refine C6 false Z Z (A8 ck) Ac<|Ai<|Aj Z<|A4<|A0<|AS _ [0,0,0,1,0,0,0,1,0,3,0] mixed (by kernel_rfl)<|Af 2 Z<|Aw (v:=a2) i Bm AV Z Z a1.isSl Z sD Ac ?_
   obtain⟨c2,c3,cp⟩:=a1.rd2.get (k:=i) [] sD
   have e2:=cp.lenle
   refine Al (p:=Ax a2 i 1) (.inl Z) c2 B7 Z c3 Ac<|Af 2 Z<|Aw (v:=a3) i Bm AV Z Z a0.isSl Z sD Ac ?_
   obtain⟨c4,c5,cq⟩:=a0.rd2.get (k:=i) [] sD
   have e4:=cq.lenle
   refine Al (p:=Ax a3 i 1) (.inl Z) c4 B7 Z c5 Ac<|Af 1 Z ?_
   refine As 20 [] [] [c2,c4,zI (((2:Nat):Int)*(((1:Nat):Int)+(Ds ds ((1:Nat):Int) ((4:Nat):Int))))] Z Z kE Ac (IQ _ c2 ((OG pD fD cx).getD i []) (cy.heap.size) (cz.heap.size) c4 ((L1 pD fD aD (((3:Nat):Int)+(Ds ds ((0:Nat):Int) ((6:Nat):Int)))).getD i []) (w8.heap.size) (w9.heap.size) _ (Fr.rowFr o1 a1 sD c3) bG (Fr.rowFr o1 a0 sD c5) bG oM oM) ?_
   rintro eu ew ⟨rfl,a7⟩
   refine⟨_,rfl,a7,?_⟩
   replace a7:=a7.of_drew
   have e5:=a7.size
   have dh:=be.trans a7
   have b0:=a0.ext (o2) a7
   have b1:=a1.ext (o2) a7
   have e6:=AQ a7 bv
   have e7:=AQ a7 c3
   have ea:=AQ a7 c5
   rw[show(iN ((OG pD fD cx).getD i []) ((L1 pD fD aD (((3:Nat):Int)+(Ds ds ((0:Nat):Int) ((6:Nat):Int)))).getD i []) (((2:Nat):Int)*(((1:Nat):Int)+(Ds ds ((1:Nat):Int) ((4:Nat):Int)))))=true from mX oM oM oM (fun t ht=>hgu.2.2.2 i oM t oM oM)]
   exact BF false Z Z Ac<|Ai<|Aj Z<|A4<|Ad _ [0,0,0] Z<|Af 1 Z<|AG ((i+1:Nat):Int) Z Z (Bc oM oM) Ac<|Ae 1 Z ⟨i+1,_,rfl,zR,⟨dh,b0,b1,oM,oM⟩,zD⟩
  exact Ay false Z Z (A8 ci) Ac<|Ai<|Aj Z<|A6<|At<|At<|An<|qD Z<|A3<|Ah [4] Z (.bool true) Z ⟨rfl,be⟩
 exact Ag (by first|rfl|exact zW di)<|qD Z<|A3<|Aq<|Ah [4] Z (.bool true) Z ⟨rfl,cu⟩
end
end Go.Proofs.YtbajepcpgncekaaGreat
