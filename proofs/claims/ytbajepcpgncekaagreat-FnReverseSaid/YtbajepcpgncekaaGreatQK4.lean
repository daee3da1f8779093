/- Vn, Vo, Xf, Xa, Xb, Xh, Xk, Ya, Yb, Yc: texts of this claim, joined; what the claim does not come to is left out. -/
import Derived.Test.YtbajepcpgncekaaGreatQK3
import Derived.Test.YtbajepcpgncekaaGreatProg
set_option linter.unusedVariables false
set_option linter.unusedSimpArgs false
namespace Go.Proofs.YtbajepcpgncekaaGreat
open Go Go.RowKit
section
set_option maxHeartbeats 4000000
set_option maxRecDepth 100000
attribute [local irreducible] LW
theorem SL (F d:Nat)(IH1:∀F',F'<F→∀d,SV F' d)(IH2:∀d',d'<d→SV F d'):SC F d:=by
 intro w S g pp dp n s0 c0 p ve ex vv env hS hgS a0 hp hn a1 a2 hex henv hqenv hvp hF hwf hse hdp hk
 exact Ik w S F g pp dp n s0 c0 p d ve ex vv env hS hgS a0 hp hn a1 a2 hex henv hqenv hvp hF hwf hse hdp hk IH1 IH2
theorem SM {p:Prop}(h:p:=by first|exact Ee hc00 hs1 oM oM ‹AH (go c0 (Cf _ _ (ex.kids.getD 0 _) _ _)) _ _ _› oM (by assumption)|exact Ef hc00 hs1 oM oM ‹AH (go c0 (Cf _ _ (ex.kids.getD 0 _) _ _)) _ _ _› oM (by assumption)):p:=h
theorem MQ {p:Prop}(h:p:=by have:=D7 (l:=ex.kids) (k:=0) oM;omega):p:=h
theorem Il {p:Prop}(h:p:=by exact Dz hwf oM oM):p:=h
theorem DU {p:Prop}(h:p:=by simp[EP,EQ]):p:=h
theorem Im (w:World)(S:List Nat)(F:Nat)(g:Nat)(pp:Value)(dp n s0:Nat)(c0:Int)(p:List Fn)(dex:Nat)(ve:Value)(ex:Ex)(vv:Value)(env:List (Sr))(hS:∀b∈S,b<w.heap.size)(hgS:g∈S)(b0:BX w.heap g [pp,zI (n:Int),zI (s0:Int),zI c0])(hp:RN S (rP (JY dp)) w.heap pp p)(hn:1≤n∧n≤13)(j2:s0≤3000)(j3:0≤c0∧c0≤9)(hex:RN S (rP (Lm dex)) w.heap ve ex)(henv:RN S (AX (AX rI)) w.heap vv env)(hqenv:C8 vv)(hvp:HE p)(hF:F≤p.length)(hwf:wf p (F:Int) ex (env.length:Int)=true)(hse:C0 n env)(hdp:env.length+ex.deep≤1000000)(IH1:∀F',F'<F→∀d,SV F' d)(IH2:∀d',d'<dex→SV F d') :
  Calls Tryz.prog 221 #[zP g,ve,vv] w (fun e w'=>∃(v:Value) (x:Sr) (s1:Nat) (c1:Int),e=.returned v∧As [g] w w'∧BX w'.heap g [pp,zI (n:Int),zI (s1:Int),zI c1]∧RN S (AX rI) w'.heap v x∧Cb n x∧s1≤3000∧(0≤c1∧c1≤9)∧AH (go c0 (Cf n (E4 p n F) ex env s0)) x s1 c1):=by
 refine Ap [zP g,ve,vv] 186 Tryz.func221 Z Z sM ?_
 have bk:As [g] w w:=As.refl [g] w
 have f5:=henv.lenL
 unfold maxLen at f5
 have k9:=b0.lt
 have hdk:=DC ex
 refine aI Z<|A0<|aH [0,0,0,2,0] Z<|Ad 1 Z<|AT Z Aa<|Ak (p:=zP g) 3 Gu Z Z Aa<|Ah (p:=Ao (zP g) 3) (.inr Z) (zI c0) AC Z (b0.ldp (i:=3) sM) Aa ?_
 by_cases e8:c0≠((0:Nat):Int)
 ·refine B3 true Z Z (A5 e8) Aa<|Aj<|Ag Z<|aH [0,0,0,0,2,4,0] Z<|Ad 2 Z<|AT Z Aa<|Ak (p:=zP g) 3 Gu Z Z Aa<|Ah (p:=Ao (zP g) 3) (.inr Z) (zI c0) AC Z (b0.ldp (i:=3) sM) Aa<|AB 250 [] [] [zP g,zI c0] Z Z PH Aa (CQ _ S g pp dp (n) (s0) (c0) (p) (c0) (fun b hb=>(by have:=hS b hb;omega:b<w.heap.size)) hgS b0 (hp.chg (B7<|AR dp)<|bk.sub<|AS hgS) oM oM oM oM oM) ?_
  rintro e2 w2 ⟨v2,x2,s2,c2,rfl,e9,i9,ia,d1,ib,ic,bl⟩
  refine⟨_,rfl,?_⟩
  have id:=e9.size
  have ie:As [g] w w2:=bk.trans e9
  have ig:=d1.1
  have hfs:=bl.1
  have hff:=bl.2
  exact Ac 1 Z<|A1<|Am<|Af [6] Z v2 Z ⟨v2,x2,s2,c2,rfl,ie,i9,ia,(by assumption),oM,oM,(by rw[hff,if_neg oM];exact Dm oM)⟩
 refine B3 false Z Z (A6 e8) Aa<|Aj<|Ai Z<|A2<|A0<|aH [0,0,0,2,0] Z<|Ad 1 Z<|AT Z Aa<|Ak (p:=zP g) 2 Km Z Z Aa<|Ah (p:=Ao (zP g) 2) (.inr Z) (zI (s0:Int)) AC Z (b0.ldp (i:=2) sM) Aa ?_
 by_cases ea:(s0:Int)=((3000:Nat):Int)
 ·refine Al true Z Z (A5 ea) Aa<|Aj<|Ag Z<|aH [0,4,0] Z<|Ad 1 Z<|AB 250 [] [] [zP g,zI ((7:Nat):Int)] Z Z PH Aa (CQ _ S g pp dp (n) (s0) (c0) (p) ((7:Nat):Int) (fun b hb=>(by have:=hS b hb;omega:b<w.heap.size)) hgS b0 (hp.chg (B7<|AR dp)<|bk.sub<|AS hgS) oM oM oM oM oM) ?_
  rintro e7 w7 ⟨v7,x7,s7,c7,rfl,eb,ih,ii,d2,ij,ik,bm⟩
  refine⟨_,rfl,?_⟩
  have il:=eb.size
  have im:As [g] w w7:=bk.trans eb
  have io:=d2.1
  have hfs:=bm.1
  have hff:=bm.2
  exact Ac 1 Z<|A1<|Am<|Af [6] Z v7 Z ⟨v7,x7,s7,c7,rfl,im,ih,ii,(by assumption),oM,oM,(by rw[hff,if_pos oM];exact Cw oM oM)⟩
 refine Al false Z Z (A6 ea) Aa<|Aj<|Ai Z<|A2<|aH [0,0,0,2,0,0,0,4] Z<|Ad 1 Z<|AT Z Aa<|Ak (p:=zP g) 2 Km Z Z Aa<|Ah (p:=Ao (zP g) 2) (.inr Z) (zI (s0:Int)) AC Z (b0.ldp (i:=2) sM) Aa<|AN ((s0+1:Nat):Int) Z Z (Be oM oM) Aa<|AT Z Aa<|Ak (p:=zP g) 2 Km Z Z Aa (Bl (k:=2) (w:=w) GH Z Z ⟨rfl,rfl⟩ b0 sM Aa fun f0 bn ip a7=>?_)
 replace a7:BX f0.heap g [pp,zI (n:Int),zI ((s0+1:Nat):Int),zI c0]:=a7
 have a0:As [g] w f0:=bk.trans bn
 have ec:=bn.size
 refine Aj<|A0<|aH [0,0,0,2] Z ?_
 have hc00:c0=0:=by omega
 have hs1:s0+1≤3000:=by omega
 refine Ad 1 Z<|AM (hex.isPtr) Z Aa ?_
 obtain⟨cs12,d3,a2⟩:=RN.at (Aw _) hex
 obtain⟨dd12,a1,iq,rfl,a3⟩:=RX.of d3
 have bo:=a3.rn.lenle
 unfold maxLen at bo
 refine AI (p:=ve) 0 Bg Z (a2 _<|a0.sub<|AS hgS) Aa<|Ah (p:=Ao ve 0) (.inr Z) (zI ex.kind) AC Z ((a2 _<|a0.sub<|AS hgS).ld (i:=0) DU) Aa<|Aj<|A3<|aH [0,0] Z ?_
 by_cases bp:ex.kind=((1:Nat):Int)
 ·refine Al true Z Z (A5 bp) Aa<|Ac 1 Z<|Ag Z<|A0<|AQ _ [0,0,0,1,0,0,0,1,3,0] mixed (by kernel_rfl) ?_
  have hwk:=O4 hwf oM
  refine Ad 1 Z<|AM (hex.isPtr) Z Aa<|AI (p:=ve) 1 BE Z (a2 _<|a0.drew.sub<|AS hgS) Aa<|Ah (p:=Ao ve 1) (.inl Z) (zI ex.num) AC Z ((a2 _<|a0.drew.sub<|AS hgS).ld (i:=1) DU) Aa<|Ad 1 Z<|AT Z Aa<|Ak (p:=zP g) 1 MJ Z Z Aa<|Ah (p:=Ao (zP g) 1) (.inl Z) (zI (n:Int)) KU Z (a7.ldp (i:=1) sM) Aa ?_
  refine Au 79 [] [] [zI ex.num,zI (n:Int)] Z Z VY Aa (Ey _ _ (n) a3.rng.num sD oM) ?_
  rintro ka fx ⟨b1,rfl,ae,aa⟩
  refine⟨_,rfl,ae,?_⟩
  replace ae:=ae.of_drew
  have ed:=ae.size
  have d4:As [g] w fx:=a0.ext ae
  have an:=a7.ext ae
  replace aa:=aa.low (B':=f0.heap.size)<|A7 _
  exact Ac 1 Z<|A1<|AF<|Am<|Af [6] Z b1 Z ⟨b1,cst n ex.num,s0+1,c0,rfl,d4,an,RN.of_fr1 aa fun b hb=>zH<|hS b hb,(by exact DM (Ce.2 oM)),oM,oM,(by exact Ec hc00 hs1 oM)⟩
 refine Al false Z Z (A6 bp) Aa<|Ac 1 Z<|Ai Z<|aH [0,0] Z ?_
 by_cases bq:ex.kind=((2:Nat):Int)
 ·refine Al true Z Z (A5 bq) Aa<|Ac 1 Z<|Ag Z<|aH [0,0,0,0,2,0,2,0] Z ?_
  have hwk:=O5 hwf oM
  refine Ad 2 Z<|AM (hex.isPtr) Z Aa<|AI (p:=ve) 1 BE Z (a2 _<|a0.sub<|AS hgS) Aa<|Ah (p:=Ao ve 1) (.inr Z) (zI ex.num) AC Z ((a2 _<|a0.sub<|AS hgS).ld (i:=1) DU) Aa<|Az (v:=vv) ((ex.num).toNat) BH B9 Z Z henv.slL oM sD Aa ?_
  obtain⟨ba,d5,br⟩:=RN.getL (w:=w) g1 [] (k:=(ex.num).toNat) henv sD
  have bs:=br.lenL
  unfold maxLen at bs
  exact Ah (p:=Ax vv ((ex.num).toNat) 1) (.inr Z) ba Bk Z (d5 _<|a0.sub<|AS hgS) Aa<|Ac 1 Z<|A1<|AF<|Am<|Af [6] Z ba Z ⟨ba,env.getD ((ex.num).toNat) [],s0+1,c0,rfl,a0,a7,br.chg g1<|a0.sub<|AS hgS,(by exact hse _ oM),oM,oM,(by exact Ed hc00 hs1 oM)⟩
 refine Al false Z Z (A6 bq) Aa<|Ac 1 Z<|Ai Z<|aH [0,0] Z ?_
 by_cases bt:ex.kind=((7:Nat):Int)
 ·refine Al true Z Z (A5 bt) Aa<|Ac 1 Z<|Ag Z<|aH [0,0,0,0,2,0,0,4,3,0] Z ?_
  have hwk:=O7 hwf oM
  refine Ad 2 Z<|AM (hex.isPtr) Z Aa<|AI (p:=ve) 4 B8 Z (a2 _<|a0.sub<|AS hgS) Aa<|Ah (p:=Ao ve 4) (.inr Z) a1 Bf Z ((a2 _<|a0.sub<|AS hgS).ld (i:=4) DU) Aa<|Az (v:=a1) 0 CZ Bm Z Z a3.rn.isSl Z sD Aa<|Ad 1 Z ?_
  refine AB 221 [] [] [zP g,Ax a1 0 5,vv] Z Z H9 Aa (IH2 dd12 oM _ S g pp dp (n) (s0+1) (c0) (p) (Ax a1 0 5) (ex.kids.getD 0 Ex.zero) vv (env) (fun b hb=>(by have:=hS b hb;omega:b<f0.heap.size)) hgS a7 (hp.chg (B7<|AR dp)<|a0.sub<|AS hgS) oM oM oM (RN.ptr (Aw dd12) (by decide) Ex.zero (a3.rn.chg (An<|Aw dd12)<|a0.sub<|AS hgS) sD) (henv.chg g2<|a0.sub<|AS hgS) hqenv hvp oM Il hse MQ) ?_
  rintro kb fy ⟨fz,j8,j9,ja,rfl,bu,d6,bv,bw,ee,ef,eg⟩
  refine⟨_,rfl,?_⟩
  have eh:=bu.size
  have d7:As [g] w fy:=a0.trans bu
  have ei:=bw.1
  refine Au 165 [] [] [fz,zI ((1000002:Nat):Int)] Z Z Uz Aa (GJ _ _ _ _ (bv).rd oM oM) ?_
  rintro kc jb ⟨b2,rfl,aj,bb⟩
  refine⟨_,rfl,aj,?_⟩
  have ej:=aj.size
  have d8:As [g] w jb:=d7.ext aj
  have ao:=d6.ext aj
  have ir:=bv.ext g1 aj
  exact Ac 1 Z<|A1<|AF<|Am<|Af [6] Z b2 Z ⟨b2,scl j8 ((1000002:Nat):Int),j9,ja,rfl,d8,ao,RN.of_fr1 bb fun b hb=>zH<|hS b hb,(by rw[OC];exact Kw (by assumption)),oM,oM,(by exact Gq hc00 hs1 oM (VD oM ‹AH (go c0<|Cf _ _ (ex.kids.getD 0 _) _ _) _ _ _›) (fun h0=>by rw[h0,OC];exact FF oM) (fun _=>rfl))⟩
 refine Al false Z Z (A6 bt) Aa<|Ac 1 Z<|Ai Z<|aH [0,0] Z ?_
 by_cases bx:ex.kind=((8:Nat):Int)
 ·refine Al true Z Z (A5 bx) Aa<|Ac 1 Z<|Ag Z<|A0<|aH [0,0,0,0,2,0,0,4,0,2,0] Z ?_
  have hwk:=QX hwf oM
  refine Ad 2 Z<|AM (hex.isPtr) Z Aa<|AI (p:=ve) 4 B8 Z (a2 _<|a0.sub<|AS hgS) Aa<|Ah (p:=Ao ve 4) (.inr Z) a1 Bf Z ((a2 _<|a0.sub<|AS hgS).ld (i:=4) DU) Aa<|Az (v:=a1) 0 CZ Bm Z Z a3.rn.isSl Z sD Aa<|Ad 1 Z ?_
  refine AB 221 [] [] [zP g,Ax a1 0 5,vv] Z Z H9 Aa (IH2 dd12 oM _ S g pp dp (n) (s0+1) (c0) (p) (Ax a1 0 5) (ex.kids.getD 0 Ex.zero) vv (env) (fun b hb=>(by have:=hS b hb;omega:b<f0.heap.size)) hgS a7 (hp.chg (B7<|AR dp)<|a0.sub<|AS hgS) oM oM oM (RN.ptr (Aw dd12) (by decide) Ex.zero (a3.rn.chg (An<|Aw dd12)<|a0.sub<|AS hgS) sD) (henv.chg g2<|a0.sub<|AS hgS) hqenv hvp oM Il hse MQ) ?_
  rintro kd f7 ⟨fg,fh,fi,fj,rfl,bz,c3,ap,c4,ek,el,en⟩
  refine⟨_,rfl,?_⟩
  have eo:=bz.size
  have a5:As [g] w f7:=a0.trans bz
  have ep:=c4.1
  refine Az (v:=fg) 0 Bj Bz Z Z ap.slL Z sD Aa ?_
  have d9:=RN.getI (w:=f7) (k:=0) ap sD
  refine Ah (p:=Ax fg 0 1) (.inr Z) (zI<|fh.getD 0 0) AC Z (d9.1 _<|As.refl _ _) Aa ?_
  by_cases c5:fh.getD 0 0=((0:Nat):Int)
  ·refine Al true Z Z (A5 c5) Aa<|Aj<|Ag Z<|aH [0,0,0,0,2,0,0,4,0] Z<|Ad 2 Z<|AM (hex.isPtr) Z Aa<|AI (p:=ve) 4 B8 Z (a2 _<|a5.sub<|AS hgS) Aa<|Ah (p:=Ao ve 4) (.inr Z) a1 Bf Z ((a2 _<|a5.sub<|AS hgS).ld (i:=4) DU) Aa<|Az (v:=a1) 1 CZ Bm Z Z a3.rn.isSl Z sD Aa ?_
   refine Ad 1 Z ?_
   refine AB 221 [] [] [zP g,Ax a1 1 5,vv] Z Z H9 Aa (IH2 dd12 oM _ S g pp dp (n) (fi) (fj) (p) (Ax a1 1 5) (ex.kids.getD 1 Ex.zero) vv (env) (fun b hb=>(by have:=hS b hb;omega:b<f7.heap.size)) hgS c3 (hp.chg (B7<|AR dp)<|a5.sub<|AS hgS) oM oM oM (RN.ptr (Aw dd12) (by decide) Ex.zero (a3.rn.chg (An<|Aw dd12)<|a5.sub<|AS hgS) sD) (henv.chg g2<|a5.sub<|AS hgS) hqenv hvp oM Il hse (zH<|D7 (l:=ex.kids) (k:=1) oM)) ?_
   rintro ke jc ⟨fk,jd,je,jf,rfl,bc,da,db,c6,eq,er,es⟩
   refine⟨_,rfl,?_⟩
   have et:=bc.size
   have dc:As [g] w jc:=a5.trans bc
   have is:=ap.run g1 hgS bc
   have eu:=c6.1
   exact Ac 1 Z<|A1<|Am<|AF<|Am<|Af [6] Z fk Z ⟨fk,jd,je,jf,rfl,dc,da,db,(by assumption),oM,oM,SM⟩
  refine Al false Z Z (A6 c5) Aa<|Aj<|Ai Z<|A2<|aH [0,0,0,0,2,0,0,4,0] Z<|Ad 2 Z<|AM (hex.isPtr) Z Aa<|AI (p:=ve) 4 B8 Z (a2 _<|a5.sub<|AS hgS) Aa<|Ah (p:=Ao ve 4) (.inr Z) a1 Bf Z ((a2 _<|a5.sub<|AS hgS).ld (i:=4) DU) Aa ?_
  refine Az (v:=a1) 2 CZ Bm Z Z a3.rn.isSl Z sD Aa<|Ad 1 Z ?_
  refine AB 221 [] [] [zP g,Ax a1 2 5,vv] Z Z H9 Aa (IH2 dd12 oM _ S g pp dp (n) (fi) (fj) (p) (Ax a1 2 5) (ex.kids.getD 2 Ex.zero) vv (env) (fun b hb=>(by have:=hS b hb;omega:b<f7.heap.size)) hgS c3 (hp.chg (B7<|AR dp)<|a5.sub<|AS hgS) oM oM oM (RN.ptr (Aw dd12) (by decide) Ex.zero (a3.rn.chg (An<|Aw dd12)<|a5.sub<|AS hgS) sD) (henv.chg g2<|a5.sub<|AS hgS) hqenv hvp oM Il hse (zH<|D7 (l:=ex.kids) (k:=2) oM)) ?_
  rintro kf jg ⟨fl,jh,ji,jj,rfl,bd,dd,de,c8,ev,ew,ey⟩
  refine⟨_,rfl,?_⟩
  have ez:=bd.size
  have df:As [g] w jg:=a5.trans bd
  have it:=ap.run g1 hgS bd
  have g0:=c8.1
  exact Ac 1 Z<|A1<|AF<|Am<|Af [6] Z fl Z ⟨fl,jh,ji,jj,rfl,df,dd,de,(by assumption),oM,oM,SM⟩
 refine Al false Z Z (A6 bx) Aa<|Ac 1 Z<|Ai Z<|aH [0,0] Z ?_
 by_cases c9:ex.kind=((9:Nat):Int)
 ·refine Al true Z Z (A5 c9) Aa<|Ac 1 Z<|Ag Z<|aH [0,0,0,0,2,0,0,4,0] Z ?_
  have hwk:=O6 hwf oM
  refine Ad 2 Z<|AM (hex.isPtr) Z Aa<|AI (p:=ve) 4 B8 Z (a2 _<|a0.sub<|AS hgS) Aa<|Ah (p:=Ao ve 4) (.inr Z) a1 Bf Z ((a2 _<|a0.sub<|AS hgS).ld (i:=4) DU) Aa<|Az (v:=a1) 0 CZ Bm Z Z a3.rn.isSl Z sD Aa<|Ad 1 Z ?_
  refine AB 221 [] [] [zP g,Ax a1 0 5,vv] Z Z H9 Aa (IH2 dd12 oM _ S g pp dp (n) (s0+1) (c0) (p) (Ax a1 0 5) (ex.kids.getD 0 Ex.zero) vv (env) (fun b hb=>(by have:=hS b hb;omega:b<f0.heap.size)) hgS a7 (hp.chg (B7<|AR dp)<|a0.sub<|AS hgS) oM oM oM (RN.ptr (Aw dd12) (by decide) Ex.zero (a3.rn.chg (An<|Aw dd12)<|a0.sub<|AS hgS) sD) (henv.chg g2<|a0.sub<|AS hgS) hqenv hvp oM Il hse MQ) ?_
  rintro kg fm ⟨fo,fp,jk,jl,rfl,ca,dg,cb,cc,g3,g4,g5⟩
  refine⟨_,rfl,?_⟩
  have g6:=ca.size
  have aq:As [g] w fm:=a0.trans ca
  have g7:=cc.1
  refine Ac 1 Z<|A0<|AQ _ [0,0,0,0,1,0,0,0,3,4,0] mixed (by kernel_rfl)<|Ad 2 Z<|AM (hex.isPtr) Z Aa<|AI (p:=ve) 4 B8 Z (a2 _<|aq.drew.sub<|AS hgS) Aa<|Ah (p:=Ao ve 4) (.inl Z) a1 Bf Z ((a2 _<|aq.drew.sub<|AS hgS).ld (i:=4) DU) Aa<|Az (v:=a1) 1 CZ Bm Z Z a3.rn.isSl Z sD Aa<|Ad 2 Z ?_
  refine Au 251 [] [] [vv,fo] Z Z Yy Aa (LB _ S vv (env) fo (fp) (fun b hb=>(by have:=hS b hb;omega:b<fm.heap.size)) (henv.chg g2<|aq.drew.sub<|AS hgS) hqenv cb oM) ?_
  rintro kh fq ⟨fr,rfl,ab,cd,ce⟩
  refine⟨_,rfl,ab,?_⟩
  replace ab:=ab.of_drew
  have g8:=ab.size
  have be:As [g] w fq:=aq.ext ab
  have ar:=dg.ext ab
  have dh:=cb.ext g1 ab
  refine AB 221 [] [] [zP g,Ax a1 1 5,fr] Z Z H9 Aa (IH2 dd12 oM _ S g pp dp (n) (jk) (jl) (p) (Ax a1 1 5) (ex.kids.getD 1 Ex.zero) fr (env++[fp]) (fun b hb=>(by have:=hS b hb;omega:b<fq.heap.size)) hgS ar (hp.chg (B7<|AR dp)<|be.sub<|AS hgS) oM oM oM (RN.ptr (Aw dd12) (by decide) Ex.zero (a3.rn.chg (An<|Aw dd12)<|be.sub<|AS hgS) sD) cd ce hvp oM (by have h9:=Je hwf oM oM;rw[z4,zd];exact h9) (by exact hse.snoc (by assumption)) (by have:=D7 (l:=ex.kids) (k:=1) oM;rw[z4,zd];omega)) ?_
  rintro ki jm ⟨fs,jn,jo,jp,rfl,au,di,dj,cf,g9,ga,gb⟩
  refine⟨_,rfl,?_⟩
  have gc:=au.size
  have dk:As [g] w jm:=be.trans au
  have iu:=dh.run g1 hgS au
  have iv:=cd.run g2 hgS au
  have gd:=cf.1
  exact Ac 1 Z<|A1<|AF<|Am<|Af [6] Z fs Z ⟨fs,jn,jo,jp,rfl,dk,di,dj,(by assumption),oM,oM,(by exact Eg hc00 hs1 oM oM ‹AH (go c0<|Cf _ _ (ex.kids.getD 0 _) _ _) _ _ _› (by assumption))⟩
 refine Al false Z Z (A6 c9) Aa<|Ac 1 Z<|Ai Z<|A0<|aH [0,0] Z ?_
 by_cases cg:ex.kind=((10:Nat):Int)
 ·refine Al true Z Z (A5 cg) Aa<|Ac 1 Z<|Ag Z<|A2<|Ag Z<|aH [0,0,0,4,0] Z<|Ad 3 Z<|AB 252 [] [] [zP g,ve,vv] Z Z UI Aa (SL F dex IH1 IH2 _ S g pp dp (n) (s0+1) (c0) (p) ve (ex) vv (env) (fun b hb=>(by have:=hS b hb;omega:b<f0.heap.size)) hgS a7 (hp.chg (B7<|AR dp)<|a0.sub<|AS hgS) oM oM oM (hex.chg (B7<|Aw dex)<|a0.sub<|AS hgS) (henv.chg g2<|a0.sub<|AS hgS) hqenv hvp oM hwf hse oM oM) ?_
  rintro kj jq ⟨ft,jr,js,jt,rfl,ch,dl,dm,ci,ge,gf,gg⟩
  refine⟨_,rfl,?_⟩
  have gh:=ch.size
  have dn:As [g] w jq:=a0.trans ch
  have gi:=ci.1
  exact Ac 1 Z<|A1<|AF<|Am<|Af [6] Z ft Z ⟨ft,jr,js,jt,rfl,dn,dl,dm,(by assumption),oM,oM,(by exact M3 hc00 hs1 oM (by assumption))⟩
 refine Al false Z Z (A6 cg) Aa<|Ac 1 Z<|Ai Z<|Ab _ [0,0] Z ?_
 by_cases cj:ex.kind=((11:Nat):Int)
 ·refine Al true Z Z (A5 cj) Aa<|Ac 1 Z<|Ag Z<|aH [0,0,0,4,0] Z<|Ad 3 Z<|AB 252 [] [] [zP g,ve,vv] Z Z UI Aa (SL F dex IH1 IH2 _ S g pp dp (n) (s0+1) (c0) (p) ve (ex) vv (env) (fun b hb=>(by have:=hS b hb;omega:b<f0.heap.size)) hgS a7 (hp.chg (B7<|AR dp)<|a0.sub<|AS hgS) oM oM oM (hex.chg (B7<|Aw dex)<|a0.sub<|AS hgS) (henv.chg g2<|a0.sub<|AS hgS) hqenv hvp oM hwf hse oM oM) ?_
  rintro kk ju ⟨fu,jv,jw,jx,rfl,ck,dq,dr,cl,gj,gk,gl⟩
  refine⟨_,rfl,?_⟩
  have gm:=ck.size
  have ds:As [g] w ju:=a0.trans ck
  have gn:=cl.1
  exact Ac 1 Z<|A1<|AF<|Am<|Af [6] Z fu Z ⟨fu,jv,jw,jx,rfl,ds,dq,dr,(by assumption),oM,oM,(by exact M3 hc00 hs1 oM (by assumption))⟩
 refine Al false Z Z (A6 cj) Aa<|Ac 1 Z<|Ai Z<|A2<|aH [0,0,0,0,2,0,0,4,0] Z ?_
 have hkk:ex.kind=3∨ex.kind=4∨ex.kind=5∨ex.kind=6:=Vk hwf oM
 have j4:ex.kids.length=2:=Jf hwf hkk
 have j5:=D7 (l:=ex.kids) (k:=0) oM
 have j6:=D7 (l:=ex.kids) (k:=1) oM
 refine Ad 2 Z<|AM (hex.isPtr) Z Aa<|AI (p:=ve) 4 B8 Z (a2 _<|a0.sub<|AS hgS) Aa<|Ah (p:=Ao ve 4) (.inr Z) a1 Bf Z ((a2 _<|a0.sub<|AS hgS).ld (i:=4) DU) Aa<|Az (v:=a1) 0 CZ Bm Z Z a3.rn.isSl Z sD Aa<|Ad 1 Z ?_
 refine AB 221 [] [] [zP g,Ax a1 0 5,vv] Z Z H9 Aa (IH2 dd12 oM _ S g pp dp (n) (s0+1) (c0) (p) (Ax a1 0 5) (ex.kids.getD 0 Ex.zero) vv (env) (fun b hb=>(by have:=hS b hb;omega:b<f0.heap.size)) hgS a7 (hp.chg (B7<|AR dp)<|a0.sub<|AS hgS) oM oM oM (RN.ptr (Aw dd12) (by decide) Ex.zero (a3.rn.chg (An<|Aw dd12)<|a0.sub<|AS hgS) sD) (henv.chg g2<|a0.sub<|AS hgS) hqenv hvp oM Il hse MQ) ?_
 rintro kl fv ⟨f8,f9,jy,jz,rfl,cm,dt,du,b3,gp,gq,cn⟩
 refine⟨_,rfl,?_⟩
 have gr:=cm.size
 have af:As [g] w fv:=a0.trans cm
 have gs:=b3.1
 have hra:=cn
 have co:=b3
 refine Ac 1 Z<|aH [0,0,0,0,2,0,0,4,0] Z<|Ad 2 Z<|AM (hex.isPtr) Z Aa<|AI (p:=ve) 4 B8 Z (a2 _<|af.sub<|AS hgS) Aa<|Ah (p:=Ao ve 4) (.inr Z) a1 Bf Z ((a2 _<|af.sub<|AS hgS).ld (i:=4) DU) Aa<|Az (v:=a1) 1 CZ Bm Z Z a3.rn.isSl Z sD Aa<|Ad 1 Z ?_
 refine AB 221 [] [] [zP g,Ax a1 1 5,vv] Z Z H9 Aa (IH2 dd12 oM _ S g pp dp (n) (jy) (jz) (p) (Ax a1 1 5) (ex.kids.getD 1 Ex.zero) vv (env) (fun b hb=>(by have:=hS b hb;omega:b<fv.heap.size)) hgS dt (hp.chg (B7<|AR dp)<|af.sub<|AS hgS) oM oM oM (RN.ptr (Aw dd12) (by decide) Ex.zero (a3.rn.chg (An<|Aw dd12)<|af.sub<|AS hgS) sD) (henv.chg g2<|af.sub<|AS hgS) hqenv hvp oM Il hse (zH<|D7 (l:=ex.kids) (k:=1) oM)) ?_
 rintro km fa ⟨f3,f1,f4,f2,rfl,bf,ac,a6,b4,gt,gu,cp⟩
 refine⟨_,rfl,?_⟩
 have gv:=bf.size
 have a4:As [g] w fa:=af.trans bf
 have a8:=du.run g1 hgS bf
 have cq:=b4.1
 have hrb:=cp
 have j7:=b4
 have hlb:=cq
 have hzz:f1.getD 0 0=0∨¬f1.getD 0 0=0:=Decidable.em _
 refine Ac 1 Z<|A0<|A3<|aH [0,0,0,2,0,0] Z<|Ad 1 Z<|AM (hex.isPtr) Z Aa<|AI (p:=ve) 0 Bg Z (a2 _<|a4.sub<|AS hgS) Aa<|Ah (p:=Ao ve 0) (.inr Z) (zI ex.kind) AC Z ((a2 _<|a4.sub<|AS hgS).ld (i:=0) DU) Aa ?_
 by_cases cr:ex.kind=((3:Nat):Int)
 ·refine Al true Z Z (A5 cr) Aa<|Ac 1 Z<|Ag Z<|aH [0,0,3,0] Z<|Ad 2 Z<|Au 253 [] [] [f8,f3] Z Z UJ Aa (HW _ _ _ _ _ (a8).rd (a6).rd oM oM) ?_
  rintro ko k0 ⟨b5,rfl,ag,bg⟩
  refine⟨_,rfl,ag,?_⟩
  have gw:=ag.size
  have dv:As [g] w k0:=a4.ext ag
  have av:=ac.ext ag
  have iw:=a8.ext g1 ag
  have ix:=a6.ext g1 ag
  exact Ac 1 Z<|A1<|AF<|Am<|Af [6] Z b5 Z ⟨b5,DF f9 f1,f4,f2,rfl,dv,av,RN.of_fr1 bg fun b hb=>zH<|hS b hb,(by exact FY co),oM,oM,(by exact Gq hc00 hs1 oM (Jo oM hra hrb) (fun h0=>by rw[h0];exact FC oM) (fun _=>rfl))⟩
 refine Al false Z Z (A6 cr) Aa<|Ac 1 Z<|Ai Z<|aH [0,0,0,2,0,0] Z<|Ad 1 Z<|AM (hex.isPtr) Z Aa<|AI (p:=ve) 0 Bg Z (a2 _<|a4.sub<|AS hgS) Aa<|Ah (p:=Ao ve 0) (.inr Z) (zI ex.kind) AC Z ((a2 _<|a4.sub<|AS hgS).ld (i:=0) DU) Aa ?_
 by_cases cs:ex.kind=((4:Nat):Int)
 ·refine Al true Z Z (A5 cs) Aa<|Ac 1 Z<|Ag Z<|aH [0,0,3,0] Z<|Ad 2 Z<|Au 254 [] [] [f8,f3] Z Z Yz Aa (Ly _ _ _ _ _ (a8).rd (a6).rd oM oM oM) ?_
  rintro kp k1 ⟨b6,rfl,ah,bh⟩
  refine⟨_,rfl,ah,?_⟩
  have gx:=ah.size
  have dw:As [g] w k1:=a4.ext ah
  have aw:=ac.ext ah
  have iy:=a8.ext g1 ah
  have iz:=a6.ext g1 ah
  exact Ac 1 Z<|A1<|AF<|Am<|Af [6] Z b6 Z ⟨b6,EE f9 f1,f4,f2,rfl,dw,aw,RN.of_fr1 bh fun b hb=>zH<|hS b hb,(by exact Kv co),oM,oM,(by exact Gq hc00 hs1 oM (Jo oM hra hrb) (fun h0=>by rw[h0];exact FD oM) (fun _=>rfl))⟩
 refine Al false Z Z (A6 cs) Aa<|Ac 1 Z<|Ai Z<|aH [0,0,0,2,0,0] Z<|Ad 1 Z<|AM (hex.isPtr) Z Aa<|AI (p:=ve) 0 Bg Z (a2 _<|a4.sub<|AS hgS) Aa<|Ah (p:=Ao ve 0) (.inr Z) (zI ex.kind) AC Z ((a2 _<|a4.sub<|AS hgS).ld (i:=0) DU) Aa ?_
 by_cases ct:ex.kind=((5:Nat):Int)
 ·refine Al true Z Z (A5 ct) Aa<|Ac 1 Z<|Ag Z<|aH [0,0,3,0] Z<|Ad 2 Z<|Au 255 [] [] [f8,f3] Z Z YB Aa (Lz _ _ _ _ _ (a8).rd (a6).rd oM oM) ?_
  rintro kq k2 ⟨b7,rfl,ai,bi⟩
  refine⟨_,rfl,ai,?_⟩
  have gy:=ai.size
  have dx:As [g] w k2:=a4.ext ai
  have ax:=ac.ext ai
  have j0:=a8.ext g1 ai
  have j1:=a6.ext g1 ai
  exact Ac 1 Z<|A1<|AF<|Am<|Af [6] Z b7 Z ⟨b7,C5 f9 f1,f4,f2,rfl,dx,ax,RN.of_fr1 bi fun b hb=>zH<|hS b hb,(by exact FZ co),oM,oM,(by exact Gq hc00 hs1 oM (Jo oM hra hrb) (fun h0=>by rw[h0];exact FE oM) (fun _=>rfl))⟩
 refine Al false Z Z (A6 ct) Aa<|Ac 1 Z<|Ai Z<|aH [0,0,0,2,0,0,0,0,2,0,0,0] Z<|Ad 1 Z<|AT Z Aa<|Ak (p:=zP g) 3 Gu Z Z Aa<|Ah (p:=Ao (zP g) 3) (.inr Z) (zI f2) AC Z (ac.ldp (i:=3) sM) Aa ?_
 by_cases cu:f2≠((0:Nat):Int)
 ·refine B3 true Z Z (A5 cu) Aa<|Ac 7 Z<|Ag Z<|aH [0,4,0] Z<|Ad 1 Z<|AB 250 [] [] [zP g,zI ((6:Nat):Int)] Z Z PH Aa (CQ _ S g pp dp (n) (f4) (f2) (p) ((6:Nat):Int) (fun b hb=>(by have:=hS b hb;omega:b<fa.heap.size)) hgS ac (hp.chg (B7<|AR dp)<|a4.sub<|AS hgS) oM oM oM oM oM) ?_
  rintro kr k3 ⟨fw,k4,k5,k6,rfl,ay,dy,dz,cv,gz,i0,b8⟩
  refine⟨_,rfl,?_⟩
  have i1:=ay.size
  have e0:As [g] w k3:=a4.trans ay
  have i2:=a8.run g1 hgS ay
  have i3:=a6.run g1 hgS ay
  have i4:=cv.1
  have hfs:=b8.1
  have hff:=b8.2
  exact Ac 1 Z<|A1<|AF<|Am<|Af [6] Z fw Z ⟨fw,k4,k5,k6,rfl,e0,dy,dz,(by assumption),oM,oM,(by rw[hfs];exact Gq hc00 hs1 oM (Jo oM hra hrb) (fun h0=>absurd h0 oM) (fun h0=>by rw[hff,if_neg h0]))⟩
 refine B3 false Z Z (A6 cu) Aa<|Ad 2 Z<|Az (v:=f3) 0 Bj Bz Z Z a6.slL Z (by rw[hlb];omega) (Ae (e:=175) Z Z Z) ?_
 have cw:=RN.getI (w:=fa) (k:=0) a6 (by rw[hlb];omega)
 refine Ah (p:=Ax f3 0 1) (.inr Z) (zI<|f1.getD 0 0) AC Z (cw.1 _<|As.refl _ _) (Ae (e:=175) Z Z Z) ?_
 by_cases b9:f1.getD 0 0=((0:Nat):Int)
 ·refine Al true Z Z (A5 b9) (Ae (e:=175) Z Z Z)<|Ac 2 Z<|Ag Z<|aH [0,4,0] Z<|Ad 1 Z<|AB 250 [] [] [zP g,zI ((6:Nat):Int)] Z Z PH Aa (CQ _ S g pp dp (n) (f4) (f2) (p) ((6:Nat):Int) (fun b hb=>(by have:=hS b hb;omega:b<fa.heap.size)) hgS ac (hp.chg (B7<|AR dp)<|a4.sub<|AS hgS) oM oM oM oM oM) ?_
  rintro k7 fb ⟨f6,fc,fd,fe,rfl,ad,cx,cy,bj,e1,e3,ak⟩
  refine⟨_,rfl,?_⟩
  have e4:=ad.size
  have cz:As [g] w fb:=a4.trans ad
  have i5:=a8.run g1 hgS ad
  have i6:=a6.run g1 hgS ad
  have e5:=bj.1
  have hfs:=ak.1
  have hff:=ak.2
  exact Ac 1 Z<|A1<|AF<|Am<|Af [6] Z f6 Z ⟨f6,fc,fd,fe,rfl,cz,cx,cy,(by assumption),oM,oM,(by rw[hfs];exact Gq hc00 hs1 oM (Jo oM hra hrb) (fun h0=>by rw[hff,if_pos h0];exact Eh (xs:=[_,_]) oM (hzz.resolve_right oM)) (fun h0=>by rw[hff,if_neg h0]))⟩
 refine Al false Z Z (A6 b9) (Ae (e:=175) Z Z Z)<|Ac 2 Z<|Ai Z<|A2<|aH [0,0,3,0] Z<|Ad 2 Z<|Au 256 [] [] [f8,f3] Z Z YC Aa (LA _ _ _ _ _ (a8).rd (a6).rd oM oM oM co.2) ?_
 rintro k8 ff ⟨al,rfl,a9,az⟩
 refine⟨_,rfl,a9,?_⟩
 have e6:=a9.size
 have d0:As [g] w ff:=a4.ext a9
 have am:=ac.ext a9
 have i7:=a8.ext g1 a9
 have i8:=a6.ext g1 a9
 exact Ac 1 Z<|A1<|Af [6] Z al Z ⟨al,BP f9 f1,f4,f2,rfl,d0,am,RN.of_fr1 az fun b hb=>zH<|hS b hb,(by exact ET co),oM,oM,(by exact Gq hc00 hs1 oM (Jo oM hra hrb) (fun h0=>by rw[h0];exact FG (xs:=[_,_]) oM (hzz.resolve_left oM)) (fun _=>rfl))⟩
theorem TU:∀F d,SV F d:=by
  intro F
  induction F using Nat.strongRecOn with
  |_ F ihF =>
    intro d
    induction d using Nat.strongRecOn with
    |_ d ihd =>
      intro w S g pp dp n s0 c0 p ve ex vv env hS hgS hB0 hp hn hs0 hc0 hex henv hqenv hvp hF hwf hse hdp
      exact Im w S F g pp dp n s0 c0 p d ve ex vv env hS hgS hB0 hp hn hs0 hc0 hex henv hqenv hvp hF hwf hse hdp ihF ihd
theorem X8 (F:Nat):SO F:=SJ F fun d=>TU F d
theorem UX {p:Prop}(h:p:=by unfold maxLen;first|omega|assumption|(simp only[zb,z9,z4,z6,z5];omega)|(simp[zb,z9,z4,z6,z5];done)|(simp[zb,z9,z4,z6,z5];omega)):p:=h
theorem La (w:World)(dp:Nat)(vp:Value)(p:List Fn)(f:Int)(va:Value)(a:Sr)(hp:RN [] (rP (JY dp)) w.heap vp p)(_hf:Bt f)(ha:Rd (AX rI) w.heap va a)(hvp:HE p)(hf:0≤f∧f<(p.length:Int))(hl:(a.length:Int)=(p.getD f.toNat Fn.zero).params)(hna:B2 a=true) :
  Calls Tryz.prog 75 #[vp,zI f,va] w (fun e w'=>∃v0:Value,e=.returned (.tuple #[v0,zI ((Mq p 1 f.toNat (FB a):Nat):Int),zI (HS p f.toNat a)])∧AG w w'∧Fr (Bi rI 2) w.heap.size w'.heap.size w'.heap v0 (Tt p f.toNat a)∧Za p f.toNat a∧Mq p 1 f.toNat (FB a)≤3000):=by
 refine Ap [vp,zI f,va] 73 Tryz.func75 Z Z sM ?_
 have cb:AG w w:=AG.refl w
 have dh:=ha.lenle
 have dt:=hvp.par f.toNat oM
 have du:=hvp.outs f.toNat oM
 refine aH [0,0,0] Z<|Ac 3 Z<|aH [0,0,3,0] Z<|Ad 1 Z ?_
 have bm:∀(vp:Value) (ap:∃b o,vp=.pointer (some ⟨b,o,none⟩)) (wq:World),(Instr.build 187 #[(0,vp),(1,zI ((1:Nat):Int))]).run Tryz.prog wq=.ok (.agg #[vp,zI ((1:Nat):Int),zI 0,zI 0]) wq:=by intro vp ap wq;obtain⟨b0,o0,rfl⟩:=ap;kernel_rfl
 refine C7 (ps:=#[(0,vp),(1,zI ((1:Nat):Int))]) (.agg #[vp,zI ((1:Nat):Int),zI 0,zI 0]) (by simp only[zc,zf,zh];rfl) (fun wq=>bm vp hp.isPtr wq) Aa (Bu (cs:=#[vp,zI ((1:Nat):Int),zI 0,zI 0]) Z Aa fun w2 bn ct bo=>?_)
 have bp:=bn.size
 have bq:=cb.trans bn
 replace bo:BX w2.heap w.heap.size [vp,zI ((1:Nat):Int),zI 0,zI 0]:=bo
 refine Ac 1 Z<|aH [3,0] Z (Ch (Bi rI 2) o1 BH B9 Aa fun v3 w3 bj cu cc=>?_)
 have br:=bj.size
 have cd:=bq.trans bj
 have b3:=bo.ext bj
 refine Ac 1 Z<|A0<|aI Z<|A3 ?_
 refine AW (S:=Nat×Value) (fun⟨k,vo⟩=>([(10,vo),(11,zI (k:Int)),(0,vp),(1,zI f),(2,va),(9,zP w.heap.size)])) (fun⟨k,vo⟩ W=>AG w W∧Fr (Bi (Bi rI 2) 27) w2.heap.size W.heap.size W.heap vo ((a.take k).map fun x=>[x])∧BX W.heap w.heap.size [vp,zI ((1:Nat):Int),zI 0,zI 0]∧k≤a.length∧w.heap.size<w2.heap.size∧w2.heap.size≤W.heap.size) (fun⟨k,vo⟩=>a.length-k) (0,v3) ⟨rfl,rfl,rfl,rfl,rfl,rfl,trivial⟩ ⟨cd,cc.up o2,b3,sD,oM,oM⟩ ?_
 clear cb ct bn cc cu bj br cd
 rintro⟨k,vo⟩ ρ5 w5 ⟨ag,a0,a2,ce,cv,cw⟩
 have bs:w.heap.size≤w5.heap.size:=ag.size
 have d9:=a2.lt
 refine A0<|aH [0,0,0,0] Z<|Ad 2 Z<|AO (v:=va) Bj Z ha.isSl Aa ?_
 by_cases cf:(k:Int)<(a.length:Int)
 ·refine AE true Z Z (A5 cf) Aa<|Aj<|Ag Z<|A2<|A0<|A3<|Ab _ [0,0,0,0,2,3,3,4,0] Z<|Ad 3 Z<|Az (v:=va) k Bj Bz Z Z ha.isSl Z sD Aa ?_
  refine Ah (p:=Ax va k 1) (.inr Z) (zI<|a.getD k 0) AC Z (Bc ag (ha.getI sD).1) Aa ?_
  refine BI (u:=zI<|a.getD k 0) (B:=w5.heap.size) AK Bj Bz Z Z (Lh w5.heap.size w5.heap.size _ _ (ha.getI sD).2) (A7 _) Aa fun v9 w9 bk da cx=>?_
  have cy:=bk.size
  have cz:=ag.trans bk
  have ah:=a0.ext (o2) bk
  have ai:=a2.ext bk
  refine BI (u:=v9) (B:=w5.heap.size) o1 BH B9 Z Z cx (by first|exact A7 _|omega) Aa fun dj dv aj d0 bt=>?_
  have cg:=aj.size
  have b4:=cz.trans aj
  have aa:=ah.ext (o2) aj
  have ab:=ai.ext aj
  refine I0 o1 (v:=vo) (a:=dj) BH B9 Z Z Z aa oM bt oM oM sD UX Aa fun dk dm dw aw b5 bu=>?_
  have bv:AG w dm:=aw.below b4 (fun c hc=>A8 bq.size (b5 c hc).1) b4.size
  have ch:=aw.size
  have bw:=ab.chg aw fun hm=>zH<|b5 _ hm
  refine Ac 1 Z<|Ab _ [0,0,0] Z<|Ad 1 Z<|AN ((k+1:Nat):Int) Z Z (Be oM sD) Aa<|Ac 1 Z ?_
  exact⟨(k+1,dk),_,rfl,zR,⟨bv,(by rw[CS 0 oM];exact bu.up o2),bw,sD,oM,oM⟩,zD⟩
 refine AE false Z Z (A6 cf) Aa<|Aj<|Ai Z<|A4<|Av<|Av<|Aq<|aH [0,0,0,0,2,0,0,0,4,0] Z ?_
 have henv:(a.take k).map (fun x=>[x])=FB a:=by rw[za oM];rfl
 have hle:((a.take k).map (fun x=>[x])).length=a.length:=by rw[henv];unfold FB;rw[zg]
 refine Ad 2 Z<|AM (hp.isPtr) Z Aa ?_
 obtain⟨cs13,bx,b6⟩:=RN.at (AR _) hp
 obtain⟨ak,rfl,ax⟩:=RPr.of bx
 have aq:=ax.lenle
 unfold maxLen at aq
 refine AI (p:=vp) 0 BC Z (b6 _<|As.of_ext [] ag) Aa<|Ah (p:=Ao vp 0) (.inr Z) ak C2 Z ((b6 _<|As.of_ext [] ag).ld (i:=0) (by simp[EP,EQ])) Aa<|Ad 1 Z<|Az (v:=ak) ((f).toNat) GI Cy Z Z ax.isSl oM sD Aa<|Ad 1 Z ?_
 refine AB 158 [] [] [zP w.heap.size,Ax ak ((f).toNat) 3,vo] Z Z Uy Aa (X8 f.toNat _ [w.heap.size] w.heap.size vp dp (1) (0) (0) (p) dp (Ax ak ((f).toNat) 3) (p.getD ((f).toNat) Fn.zero) vo ((a.take k).map fun x=>[x]) (fun b hb=>(by have:=A9 hb;omega:b<w5.heap.size)) (List.mem_singleton.2 Z) a2 ((hp.add (F:=[w.heap.size]) (B7<|AR dp) fun b hb=>zH<|A9 hb).ext (B7<|AR dp) ag) oM oM oM (RN.ptr (Ay dp) (by decide) Fn.zero ((ax.add (F:=[w.heap.size]) (An<|Ay dp) fun b hb=>zH<|A9 hb).ext (An<|Ay dp) ag) sD) (RN.of_fr2 a0 fun b hb=>zH<|A9 hb) a0.cap hvp oM (by intro k9 bz;have h9:=hvp.wf f.toNat oM k9 bz;rw[hle];rw[hl];exact h9) (by rw[henv];exact IM hna) (by intro k9 bz;have:=hvp.deep f.toNat oM k9 bz;omega) oM) ?_
 rintro dx db ⟨dd,dc,dg,de,rfl,al,ay,c0,ac,b7,b8,b9⟩
 refine⟨_,rfl,?_⟩
 have ci:=al.size
 have ad:AG w db:=al.below ag (fun b hb=>by have:b=w.heap.size:=(by simpa using hb);omega) ag.size
 have az:=a0.chg (o2) al fun _ h=>zA h
 have ar:=ac.2.1
 have au:=ac.2.2
 have cj:=ac.1
 have av:=c0.rt g2
 have hRL:=b9
 rw[henv]at hRL
 have hCB:=b8
 have hEP:=R2.mk' hRL hCB b7 ar au
 have hNP:=Za.mk' hEP
 have hST:=hEP.steps
 have hXS:=au
 have hXL:=ar
 refine Ac 1 Z<|A0<|aH [0,0,0,2,0] Z<|Ad 1 Z<|AT Z Aa<|Ak (p:=zP w.heap.size) 3 Gu Z Z Aa<|Ah (p:=Ao (zP w.heap.size) 3) (.inr Z) (zI de) AC Z (ay.ldp (i:=3) sM) Aa ?_
 by_cases ba:de≠((0:Nat):Int)
 ·refine B3 true Z Z (A5 ba) Aa<|Aj<|Ag Z<|A0<|AQ _ [3,0,0,0,1,0,0,0] mixed (by kernel_rfl) (Ch (rI) AK Bj Bz Aa fun di dy a4 d1 c1=>?_)
  replace a4:=a4.of_drew
  have ck:=a4.size
  have c2:=ad.trans a4
  have bl:=az.ext (o2) a4
  have d2:=av.ext g2 a4
  exact Ad 1 Z<|AT Z Aa<|Ak (p:=zP w.heap.size) 3 Gu Z Z Aa<|Ah (p:=Ao (zP w.heap.size) 3) (.inl Z) (zI de) AC Z (ay.ldp (i:=3) sM) Aa<|Ac 3 Z<|A1<|Am<|Af [6,7,8] Z (.tuple #[di,zI ((0:Nat):Int),zI de]) Z ⟨di,(by rw[R1<|I8 hRL oM,show HS p f.toNat a=_ from JI (I8 hRL oM)] <;> rfl),c2,(by rw[hNP.non (by rw[show HS p f.toNat a=_ from JI (I8 hRL oM)];omega)];exact(c1.up o1).low ad.size),hNP,hST⟩
 refine B3 false Z Z (A6 ba) Aa<|Aj<|Ai Z<|A2<|aH [3,0] Z (Ch (rI) AK Bj Bz Aa fun dn dz a5 c3 bb=>?_)
 have bc:=a5.size
 have bd:=ad.trans a5
 have am:=az.ext (o2) a5
 have an:=ay.ext a5
 have d3:=av.ext g2 a5
 refine Ac 1 Z<|A0<|aI Z<|A3 ?_
 refine AW (S:=Nat×Value) (fun⟨k,vo⟩=>([(13,vo),(14,zI (k:Int)),(9,zP w.heap.size),(12,dd)])) (fun⟨k,vo⟩ W=>AG w W∧Fr (Bi rI 2) db.heap.size W.heap.size W.heap vo (((dc).take k).map fun s=>s.getD 0 0)∧BX W.heap w.heap.size [vp,zI ((1:Nat):Int),zI (dg:Int),zI de]∧k≤(dc).length∧RT db.heap.size (AX<|AX rI) W.heap dd dc∧db.heap.size≤W.heap.size∧w.heap.size<db.heap.size∧db.heap.size≤db.heap.size∧db.heap.size≤W.heap.size) (fun⟨k,vo⟩=>(dc).length-k) (0,dn) ⟨rfl,rfl,rfl,rfl,trivial⟩ ⟨bd,bb.up o1,an,sD,(by assumption),oM,oM,oM,oM⟩ ?_
 clear bp bq a2 a0 ag bs aq al az bb c3 a5 bc bd am
 rintro⟨k,vo⟩ ρ28 df ⟨b1,ae,a1,c4,a3,cl,cm,cn,co⟩
 have cp:w.heap.size≤df.heap.size:=b1.size
 have d4:=a1.lt
 refine A0<|aH [0,0,0,0] Z<|Ad 2 Z<|AO (v:=dd) BH Z a3.slL Aa ?_
 by_cases be:(k:Int)<(dc.length:Int)
 ·refine AE true Z Z (A5 be) Aa<|Aj<|Ag Z<|A2<|A0<|A3<|Ab _ [0,0,0,0,2,0,2,3,4,0] Z ?_
  have hkx:=hXS k oM
  have hkl:=hkx.1
  refine Ad 3 Z<|Az (v:=dd) k BH B9 Z Z a3.slL Z sD Aa ?_
  obtain⟨b2,c5,ao⟩:=RT.getL g1 [] (k:=k) a3 sD
  have bf:=ao.lenL
  unfold maxLen at bf
  refine Ah (p:=Ax dd k 1) (.inr Z) b2 Bk Z c5 Aa<|Az (v:=b2) 0 Bj Bz Z Z ao.slL Z sD Aa ?_
  have bg:=RT.getI (k:=0) ao sD
  refine Ah (p:=Ax b2 0 1) (.inr Z) (zI<|(dc.getD k []).getD 0 0) AC Z bg.1 Aa (BI (u:=zI<|(dc.getD k []).getD 0 0) (B:=df.heap.size) AK Bj Bz Z Z (Lh df.heap.size df.heap.size _ _ bg.2) (A7 _) Aa fun dq e0 a6 d5 bh=>?_)
  have cq:=a6.size
  have bi:=b1.trans a6
  have a7:=ae.ext (o1) a6
  have a8:=a1.ext a6
  have c6:=a3.ext g2 a6
  have c7:=ao.ext g1 a6
  refine Fy (v:=vo) (a:=dq) Bj Bz Z Z Z a7 oM bh.rd1 sD UX Aa fun dr ds e1 a9 af c8=>?_
  have c9:AG w ds:=a9.below bi (fun c hc=>A8 ad.size (af c hc).1) bi.size
  have cr:=a9.size
  have d6:=c6.chg g2 a9 fun c hc=>zH<|af c hc
  have d7:=c7.chg g1 a9 fun c hc=>zH<|af c hc
  have ca:=a8.chg a9 fun hm=>zH<|af _ hm
  have d8:=bh.chg (o1) a9 fun c hc=>zH<|af c hc
  refine Ac 1 Z<|Ab _ [0,0,0] Z<|Ad 1 Z<|AN ((k+1:Nat):Int) Z Z (Be oM sD) Aa<|Ac 1 Z ?_
  exact⟨(k+1,dr),_,rfl,zR,⟨c9,(by rw[CS [] oM];exact c8.up o1),ca,sD,(by assumption),oM,oM,oM,oM⟩,zD⟩
 refine AE false Z Z (A6 be) Aa<|Aj<|Ai Z<|A4<|Av<|Av<|Aq<|A0<|AQ _ [0,0,0,0,1,0,0,0] mixed (by kernel_rfl)<|Ad 2 Z<|AT Z Aa<|Ak (p:=zP w.heap.size) 2 Km Z Z Aa<|Ah (p:=Ao (zP w.heap.size) 2) (.inl Z) (zI (dg:Int)) AC Z (a1.ldp (i:=2) sM) Aa<|Ac 3 Z<|A1 ?_
 exact Af [6,7,8] Z (.tuple #[vo,zI (dg:Int),zI ((0:Nat):Int)]) Z ⟨vo,(by rw[QZ<|Kx hRL oM,show HS p f.toNat a=_ from Nl (Kx hRL oM)] <;> rfl),b1.drew,(by have h:=(ae.up o1).low ad.size;unfold Tt;rw[Ky<|Kx hRL oM];rwa [za oM]at h),hNP,hST⟩
theorem YV {p:List Fn}{f:Int}{a:Sr}(h:G3 p f=0)(h2:((a.length:Nat):Int)≠(p.getD f.toNat Fn.zero).params):2=IO p f a:=XD h (by rw[A6 h2];rfl)
theorem YW {p:List Fn}{f:Int}{a:Sr}(h:G3 p f=0)(h2:B2 a=false):2=IO p f a:=XD h (by rw[h2,Bool.and_false])
theorem YX {p:List Fn}{f:Int}{a:Sr}(h:G3 p f=0)(h1:((a.length:Nat):Int)=(p.getD f.toNat Fn.zero).params)(h2:B2 a=true):0=IO p f a:=Zv h (by rw[h2,A5 h1];rfl)
theorem ZW {b:Bool}(h:(!b)=true):b=false:=by simpa using h
theorem ZX {b:Bool}(h:(!b)=false):b=true:=by simpa using h
theorem PP {p:Prop}(h:p:=by first|exact XC oM|exact YV oM oM|exact YW oM (ZW (by assumption))|exact(by omega:_=G3 p f).trans (XC oM)|exact(show G3 p f=0 by omega).trans (YX oM oM (ZX (by assumption)))):p:=h
theorem Lb (w:World)(dp:Nat)(vp:Value)(p:List Fn)(f:Int)(va:Value)(a:Sr)(hp:RN [] (rP (JY dp)) w.heap vp p)(_hf:Bt f)(ha:Rd (AX rI) w.heap va a)(hz:Qh p) :
  Calls Tryz.prog 99 #[vp,zI f,va] w (fun e w'=>e=.returned (zI (IO p f a))∧AG w w'):=by
 refine Ap [vp,zI f,va] 32 Tryz.func99 Z Z sM ?_
 have a7:AG w w:=AG.refl w
 have al:=ha.lenle
 refine aI Z<|aH [0,0,3,0] Z<|Ad 2 Z<|Au 156 [] [] [vp,zI f] Z Z Y9 Aa (JU _ dp vp (p) _ (hp.ext (B7<|AR dp) a7) _hf hz) ?_
 rintro e1 w1 ⟨rfl,a2⟩
 refine⟨_,rfl,a2,?_⟩
 have ae:=a2.size
 have a0:=a7.trans a2
 refine Ac 1 Z<|A0<|aH [0,0,0,0,0,0,0,0,2,0,0,0,2,0,0,0,3,0,0,0] Z<|Ad 1 Z ?_
 by_cases a8:G3 p f=((0:Nat):Int)
 ·refine Al true Z Z (A5 a8) Aa<|Ad 2 Z<|AO (v:=va) Bj Z ha.isSl (Ae (e:=13) Z Z Z)<|Ad 1 Z<|AM (hp.isPtr) Z (Ae (e:=13) Z Z Z) ?_
  have aj:=Pj (p:=p) (f:=f) oM
  obtain⟨cs3,af,a9⟩:=RN.at (AR _) hp
  obtain⟨a1,rfl,a3⟩:=RPr.of af
  have a4:=a3.lenle
  unfold maxLen at a4
  refine AI (p:=vp) 0 BC Z (a9 _<|As.of_ext [] a0) (Ae (e:=13) Z Z Z)<|Ah (p:=Ao vp 0) (.inr Z) a1 C2 Z ((a9 _<|As.of_ext [] a0).ld (i:=0) (by simp[EP,EQ])) (Ae (e:=13) Z Z Z)<|Ad 1 Z<|Az (v:=a1) ((f).toNat) GI Cy Z Z a3.isSl oM sD (Ae (e:=13) Z Z Z) ?_
  obtain⟨cs4,ag,aa⟩:=a3.get (Ay dp) Fn.zero (k:=(f).toNat) sD
  obtain⟨ak,rfl,ah⟩:=RF.of ag
  have a5:=ah.rn.lenle
  unfold maxLen at a5
  refine AI (p:=Ax a1 ((f).toNat) 3) 1 Ck Z (aa _<|As.of_ext [] a0) (Ae (e:=13) Z Z Z)<|Ah (p:=Ao (Ax a1 ((f).toNat) 3) 1) (.inr Z) (zI<|(p.getD ((f).toNat) Fn.zero).params) AC Z ((aa _<|As.of_ext [] a0).ld (i:=1) (by simp[EP,EQ])) (Ae (e:=13) Z Z Z) ?_
  by_cases ab:(a.length:Int)≠(p.getD ((f).toNat) Fn.zero).params
  ·exact B3 true Z Z (A5 ab) (Ae (e:=13) Z Z Z)<|Ac 6 Z<|Ag Z<|Ab _ [0] Z<|Ac 1 Z<|aH [0,0] Z<|Ac 2 Z<|A1<|Af [6] Z (zI ((2:Nat):Int)) Z ⟨B1 PP,a0⟩
  refine B3 false Z Z (A6 ab) (Ae (e:=13) Z Z Z)<|Ad 2 Z<|Au 157 [] [] [va] Z Z Ya (Ae (e:=25) Z Z Z) (J1 _ _ _<|ha.ext g1 a0) ?_
  rintro e6 w6 ⟨rfl,a6⟩
  refine⟨_,rfl,a6,?_⟩
  have ai:=a6.size
  have ac:=a0.trans a6
  refine Br (!(B2 a)) Z Z (Ae (e:=25) Z Z Z)<|Ac 2 Z ?_
  cases ad:(!(B2 a))
  ·exact Ai (by first|rfl|exact zW ad)<|A2<|aH [0,0] Z<|Ac 2 Z<|A1<|Af [6] Z (zI<|G3 p f) Z ⟨B1 PP,ac⟩
  exact Ag (by first|rfl|exact zW ad)<|Ab _ [0] Z<|Ac 1 Z<|aH [0,0] Z<|Ac 2 Z<|A1<|Af [6] Z (zI ((2:Nat):Int)) Z ⟨B1 PP,ac⟩
 exact Al false Z Z (A6 a8) Aa<|Ac 18 Z<|Ai Z<|A2<|aH [0,0] Z<|Ac 2 Z<|A1<|Af [6] Z (zI<|G3 p f) Z ⟨B1 PP,a0⟩
theorem JV (w:World)(dp:Nat)(vp:Value)(p:List Fn)(f:Int)(va:Value)(a:Sr)(hp:RP [] dp w.heap vp p)(_hf:Bt f)(ha:Rd (AX rI) w.heap va a)(hz:Qh p) :
  Calls Tryz.prog 28 #[(.agg #[vp]),zI f,va] w (fun e w'=>∃v0:Value,e=.returned (.tuple #[v0,zI ((VI p f a:Nat):Int),zI (Oi p f a)])∧AG w w'∧Fr (Bi rI 2) w.heap.size w'.heap.size w'.heap v0 (Zu p f a)):=by
 refine Ap [.agg #[vp],zI f,va] 23 Tryz.func28 Z Z sM ?_
 have ae:AG w w:=AG.refl w
 have ao:=hp.lenle
 unfold maxLen at ao
 have ap:=ha.lenle
 refine aH [3,0,0,0] Z (Bu (cs:=#[vp]) Z Aa fun w1 a9 am a5=>?_)
 have af:=a9.size
 have a7:=ae.trans a9
 replace a5:BX w1.heap w.heap.size [vp]:=a5
 refine Ac 3 Z<|A0<|aH [0,0,3,0] Z<|Ad 2 Z<|Au 99 [] [] [zP w.heap.size,zI f,va] Z Z ZR Aa (Lb _ dp (zP w.heap.size) (p) _ _ _ (RN.box a5 (RP.mk'<|hp.ext (An<|Ay dp) a7) sM) _hf (ha.ext g1 a7) hz) ?_
 rintro e2 w2 ⟨rfl,a6⟩
 refine⟨_,rfl,a6,?_⟩
 have ag:=a6.size
 have a2:=a7.trans a6
 have a3:=a5.ext a6
 refine Ac 1 Z<|aH [0,0] Z<|Ad 1 Z ?_
 by_cases aa:IO p f a≠((0:Nat):Int)
 ·refine B3 true Z Z (A5 aa) Aa<|Aj<|Ag Z<|aH [3,0,0,0,0] Z (Ch (rI) AK Bj Bz Aa fun v4 w4 ab an ah=>?_)
  have ai:=ab.size
  have aj:=a2.trans ab
  exact Ac 4 Z<|A1<|Am<|Af [6,7,8] Z (.tuple #[v4,zI ((0:Nat):Int),zI<|IO p f a]) Z ⟨v4,(by rw[XG oM,XE oM] <;> rfl),aj,(by rw[XF oM];exact(ah.up o1).low a2.size)⟩
 refine B3 false Z Z (A6 aa) Aa<|Aj<|Ai Z<|A2<|aH [0,0,3,0,0,0,0,0,0] Z<|Ad 2 Z ?_
 have har:IO p f a=0:=by omega
 have a1:=XB har
 have aq:=K9 a1.1
 have ar:=aq.par f.toNat oM
 have hal:=a1.2.2.1
 refine Au 75 [] [] [zP w.heap.size,zI f,va] Z Z ZO Aa (La _ dp (zP w.heap.size) (p) _ _ _ (RN.box a3 (RP.mk'<|hp.ext (An<|Ay dp) a2) sM) _hf (ha.ext g1 a2) aq oM oM a1.2.2.2) ?_
 rintro e5 w5 ⟨a0,rfl,a8,a4,ac,ad⟩
 refine⟨_,rfl,a8,?_⟩
 have ak:=a8.size
 have al:=a2.trans a8
 exact AP (vs:=[a0,zI ((Mq p 1 f.toNat (FB a):Nat):Int),zI<|HS p f.toNat a]) a0 Z Z Aa<|AP (vs:=[a0,zI ((Mq p 1 f.toNat (FB a):Nat):Int),zI<|HS p f.toNat a]) (zI ((Mq p 1 f.toNat (FB a):Nat):Int)) Z Z Aa<|AP (vs:=[a0,zI ((Mq p 1 f.toNat (FB a):Nat):Int),zI<|HS p f.toNat a]) (zI<|HS p f.toNat a) Z Z Aa<|Ac 3 Z<|A1<|Af [6,7,8] Z (.tuple #[a0,zI ((Mq p 1 f.toNat (FB a):Nat):Int),zI<|HS p f.toNat a]) Z ⟨a0,(by rw[XI har,RE har]),al,(by rw[XH har];exact(a4.up o1).low a2.size)⟩
theorem Gy {p:Prop}(h:p:=by intro u hu;simp only[ze,z2,or_false]at hu;rcases hu with rfl|rfl|rfl|rfl|rfl <;> first|exact⟨rfl,rfl⟩):p:=h
theorem OD {p:Prop}(h:p:=by simp only[zc,zf,zh];rfl):p:=h
theorem OE {p:Prop}(h:p:=by first|exact Oa.var oM|exact Oa.num oM):p:=h
theorem CR (w:World)(gg gs:Nat)(sv:Value)(cs:List UInt8)(n0:Nat)(pp:Value)(dp:Nat)(l0:Int)(pl:Bool)(p:List Fn)(vars:Int)(hgg:gs<gg)(hs:Ea w.heap gs sv cs n0)(hB0:BX w.heap gg [zP gs,pp,zI l0,.bool pl])(hp:RN [gs,gg] (rP (JY dp)) w.heap pp p)(_hvars:Bt vars)(hv:0≤vars∧vars≤1000)(hn:n0+20≤1000000000000) :
  Calls Tryz.prog 196 #[zP gg,zI vars] w (fun e w'=>∃(ex:Ex) (n1:Nat),e=.returned (.agg #[zI ex.kind,zI ex.num,zI ex.pick,zI ex.count,zN])∧As [gs,gg] w w'∧Ea w'.heap gs sv cs n1∧(n0≤n1∧n1≤n0+20)∧BX w'.heap gg [zP gs,pp,zI l0,.bool pl]∧SS ex∧ex.kids=[]∧Oa p vars ex):=by
 refine Ap [zP gg,zI vars] 28 Tryz.func196 Z Z sM ?_
 have bh:As [gs,gg] w w:=As.refl [gs,gg] w
 have ca:=hs.lt
 have bi:=hB0.lt
 refine aH [3] Z ?_
 have bu:=hB0.lt
 refine Bp (z:=.agg #[zI 0,zI 0,zI 0,zI 0,zN]) Ha Aa fun w1 ad bv ae=>?_
 have bj:w.heap.size≤w1.heap.size:=ad.size
 have b4:As [gs,gg] w w1:=bh.ext ad
 have a9:=hs.ext ad
 have a0:=hB0.ext ad
 replace ae:BX w1.heap w.heap.size [zI 0,zI 0,zI 0,zI 0,zN]:=ae
 refine Aj<|A0<|aH [0,0,0,0,0,0,2,4,0,0] Z<|Ad 1 Z ?_
 by_cases b5:((0:Nat):Int)<vars
 ·refine BN true Z Z (A5 b5) Aa<|Ad 2 Z<|AT Z (Ae (e:=7) Z Z Z)<|Ak (p:=zP gg) 0 Ej Z Z (Ae (e:=7) Z Z Z)<|Ah (p:=Ao (zP gg) 0) (.inr Z) (zP gs) HT Z (a0.ldp (i:=0) sM) (Ae (e:=7) Z Z Z) ?_
  refine AB 122 [] [] [zP gs,zI ((4:Nat):Int)] Z Z NL (Ae (e:=7) Z Z Z) (Cv _ gs _ _ _ ((4:Nat):Int) a9 oM oM sD) ?_
  rintro e4 w4 ⟨c2,n4,rfl,af,b6,bw,b7⟩
  refine⟨_,rfl,?_⟩
  have bk:w1.heap.size≤w4.heap.size:=af.size
  have b8:As [gs,gg] w w4:=b4.trans (af.sub FH)
  have ag:=a0.chg af (zB ·)
  have b9:=ae.chg af (zB ·)
  refine Br (!c2) Z Z (Ae (e:=7) Z Z Z)<|Ac 1 Z ?_
  cases ba:(!c2)
  ·refine Ai (by first|rfl|exact zW ba)<|A2<|aH [0,0,0,2,4,0,4] Z<|Ad 1 Z<|AT Z Aa<|Ak (p:=zP gg) 0 Ej Z Z Aa<|Ah (p:=Ao (zP gg) 0) (.inr Z) (zP gs) HT Z (ag.ldp (i:=0) sM) Aa<|AB 152 [] [] [zP gs] Z Z Sh Aa (FK _ gs _ _ _ b6 oM) ?_
   rintro e8 w8 ⟨c1,n8,rfl,ah,bl,bx,bb⟩
   refine⟨_,rfl,?_⟩
   have bm:w4.heap.size≤w8.heap.size:=ah.size
   have bn:As [gs,gg] w w8:=b8.trans (ah.sub FH)
   have bo:=ag.chg ah (zB ·)
   have ai:=b9.chg ah (zB ·)
   have aa:∀(wq:World),(Instr.build 153 #[(0,zI ((1:Nat):Int)),(1,zI c1)]).run Tryz.prog wq=.ok (.agg #[zI ((1:Nat):Int),zI c1,zI 0,zI 0,zN]) wq:=by intro wq;kernel_rfl
   refine C7 (ps:=#[(0,zI ((1:Nat):Int)),(1,zI c1)]) (.agg #[zI ((1:Nat):Int),zI c1,zI 0,zI 0,zN]) OD (fun wq=>aa  wq) Aa (Bw (vs:=[zI ((1:Nat):Int),zI c1,zI 0,zI 0,zN]) B6 Z Z Gy ai Z Z Aa fun c3 a1 bp a6=>?_)
   replace a6:BX c3.heap w.heap.size [zI ((1:Nat):Int),zI c1,zI 0,zI 0,zN]:=a6
   have bc:w8.heap.size≤c3.heap.size:=a1.size
   have aj:As [gs,gg] w c3:=bn.fresh a1 (fun _ h=>zE h)
   have ak:=bl.chg a1 fun c hc=>zH<|A9 hc
   have al:=bo.chg a1 (zB ·)
   exact Aj<|A1<|Co (cs:=[zI ((1:Nat):Int),zI c1,zI 0,zI 0,zN]) Z B6 Z a6 Z ⟨.mk ((1:Nat):Int) c1 0 0 [],n8,rfl,aj,ak,⟨zO,zO⟩,al,KA oM oM oM oM,rfl,OE⟩
  refine Ag (by first|rfl|exact zW ba)<|aH [0,0,0,2,0,4,0,4] Z<|Ad 1 Z<|AT Z Aa<|Ak (p:=zP gg) 0 Ej Z Z Aa<|Ah (p:=Ao (zP gg) 0) (.inr Z) (zP gs) HT Z (ag.ldp (i:=0) sM) Aa<|Ad 1 Z ?_
  refine AB 68 [] [] [zP gs,zI vars] Z Z H8 Aa (AU _ gs _ _ _ (vars) b6 oM _hvars sD) ?_
  rintro cb c4 ⟨bz,c8,rfl,a2,am,bq,an⟩
  refine⟨_,rfl,?_⟩
  have bd:w4.heap.size≤c4.heap.size:=a2.size
  have ao:As [gs,gg] w c4:=b8.trans (a2.sub FH)
  have ap:=ag.chg a2 (zB ·)
  have aq:=b9.chg a2 (zB ·)
  have ab:∀(wq:World),(Instr.build 153 #[(0,zI ((2:Nat):Int)),(1,zI bz)]).run Tryz.prog wq=.ok (.agg #[zI ((2:Nat):Int),zI bz,zI 0,zI 0,zN]) wq:=by intro wq;kernel_rfl
  refine C7 (ps:=#[(0,zI ((2:Nat):Int)),(1,zI bz)]) (.agg #[zI ((2:Nat):Int),zI bz,zI 0,zI 0,zN]) OD (fun wq=>ab  wq) Aa (Bw (vs:=[zI ((2:Nat):Int),zI bz,zI 0,zI 0,zN]) B6 Z Z Gy aq Z Z Aa fun c5 a3 br a7=>?_)
  replace a7:BX c5.heap w.heap.size [zI ((2:Nat):Int),zI bz,zI 0,zI 0,zN]:=a7
  have be:c4.heap.size≤c5.heap.size:=a3.size
  have ar:As [gs,gg] w c5:=ao.fresh a3 (fun _ h=>zE h)
  have au:=am.chg a3 fun c hc=>zH<|A9 hc
  have av:=ap.chg a3 (zB ·)
  exact Aj<|A1<|Am<|Co (cs:=[zI ((2:Nat):Int),zI bz,zI 0,zI 0,zN]) Z B6 Z a7 Z ⟨.mk ((2:Nat):Int) bz 0 0 [],c8,rfl,ar,au,⟨zO,zO⟩,av,KA oM oM oM oM,rfl,OE⟩
 refine BN false Z Z (A6 b5) Aa<|Ac 8 Z<|Ai Z<|A2<|aH [0,0,0,2,4,0,4] Z<|Ad 1 Z<|AT Z Aa<|Ak (p:=zP gg) 0 Ej Z Z Aa<|Ah (p:=Ao (zP gg) 0) (.inr Z) (zP gs) HT Z (a0.ldp (i:=0) sM) Aa<|AB 152 [] [] [zP gs] Z Z Sh Aa (FK _ gs _ _ _ a9 oM) ?_
 rintro cc c6 ⟨c0,c9,rfl,a4,aw,bs,ax⟩
 refine⟨_,rfl,?_⟩
 have bf:w1.heap.size≤c6.heap.size:=a4.size
 have ay:As [gs,gg] w c6:=b4.trans (a4.sub FH)
 have az:=a0.chg a4 (zB ·)
 have b0:=ae.chg a4 (zB ·)
 have ac:∀(wq:World),(Instr.build 153 #[(0,zI ((1:Nat):Int)),(1,zI c0)]).run Tryz.prog wq=.ok (.agg #[zI ((1:Nat):Int),zI c0,zI 0,zI 0,zN]) wq:=by intro wq;kernel_rfl
 refine C7 (ps:=#[(0,zI ((1:Nat):Int)),(1,zI c0)]) (.agg #[zI ((1:Nat):Int),zI c0,zI 0,zI 0,zN]) OD (fun wq=>ac  wq) Aa (Bw (vs:=[zI ((1:Nat):Int),zI c0,zI 0,zI 0,zN]) B6 Z Z Gy b0 Z Z Aa fun c7 a5 bt a8=>?_)
 replace a8:BX c7.heap w.heap.size [zI ((1:Nat):Int),zI c0,zI 0,zI 0,zN]:=a8
 have bg:c6.heap.size≤c7.heap.size:=a5.size
 have b1:As [gs,gg] w c7:=ay.fresh a5 (fun _ h=>zE h)
 have b2:=aw.chg a5 fun c hc=>zH<|A9 hc
 have b3:=az.chg a5 (zB ·)
 exact Aj<|A1<|Co (cs:=[zI ((1:Nat):Int),zI c0,zI 0,zI 0,zN]) Z B6 Z a8 Z ⟨.mk ((1:Nat):Int) c0 0 0 [],c9,rfl,b1,b2,⟨zO,zO⟩,b3,KA oM oM oM oM,rfl,OE⟩
theorem FM {p:Prop}(h:p:=by first|(rw[Zf oM];rfl)|(rw[Zg oM];rfl)|(rw[Zh oM];rfl)|(rw[Zi oM];rfl)|(rw[Zj (by assumption) (by assumption) (by assumption) (by assumption) (by assumption) (by assumption) (by assumption) (by assumption) (by assumption)])):p:=h
theorem ZY (w:World)(k:Int)(_hk:Bt k)  :
  Calls Tryz.prog 198 #[zI k] w (fun e w'=>e=.returned (zI (kn k))∧w'=w):=by
 refine Ap [zI k] 17 Tryz.func198 Z Z sM ?_
 have a0:w=w:=rfl
 refine aI Z<|A0<|aI Z<|A3<|A0<|aH [0,0] Z ?_
 by_cases a1:k=((1:Nat):Int)
 ·exact Al true Z Z (A5 a1) Aa<|Ac 1 Z<|Ag Z<|A2<|Ag Z<|aI Z<|A1<|AF<|Am<|Af [2] Z (zI ((0:Nat):Int)) Z ⟨FM,a0⟩
 refine Al false Z Z (A6 a1) Aa<|Ac 1 Z<|Ai Z<|Ab _ [0,0] Z ?_
 by_cases a2:k=((2:Nat):Int)
 ·exact Al true Z Z (A5 a2) Aa<|Ac 1 Z<|Ag Z<|aI Z<|A1<|AF<|Am<|Af [2] Z (zI ((0:Nat):Int)) Z ⟨FM,a0⟩
 refine Al false Z Z (A6 a2) Aa<|Ac 1 Z<|Ai Z<|A0<|aH [0,0] Z ?_
 by_cases a3:k=((3:Nat):Int)
 ·exact Al true Z Z (A5 a3) Aa<|Ac 1 Z<|Ag Z<|A2<|Ag Z<|aI Z<|A1<|AF<|Am<|Af [2] Z (zI ((2:Nat):Int)) Z ⟨FM,a0⟩
 refine Al false Z Z (A6 a3) Aa<|Ac 1 Z<|Ai Z<|aH [0,0] Z ?_
 by_cases a4:k=((4:Nat):Int)
 ·exact Al true Z Z (A5 a4) Aa<|Ac 1 Z<|Ag Z<|A2<|Ag Z<|aI Z<|A1<|AF<|Am<|Af [2] Z (zI ((2:Nat):Int)) Z ⟨FM,a0⟩
 refine Al false Z Z (A6 a4) Aa<|Ac 1 Z<|Ai Z<|aH [0,0] Z ?_
 by_cases a5:k=((5:Nat):Int)
 ·exact Al true Z Z (A5 a5) Aa<|Ac 1 Z<|Ag Z<|A2<|Ag Z<|aI Z<|A1<|AF<|Am<|Af [2] Z (zI ((2:Nat):Int)) Z ⟨FM,a0⟩
 refine Al false Z Z (A6 a5) Aa<|Ac 1 Z<|Ai Z<|aH [0,0] Z ?_
 by_cases a6:k=((6:Nat):Int)
 ·exact Al true Z Z (A5 a6) Aa<|Ac 1 Z<|Ag Z<|A2<|Ag Z<|aI Z<|A1<|AF<|Am<|Af [2] Z (zI ((2:Nat):Int)) Z ⟨FM,a0⟩
 refine Al false Z Z (A6 a6) Aa<|Ac 1 Z<|Ai Z<|Ab _ [0,0] Z ?_
 by_cases a7:k=((9:Nat):Int)
 ·exact Al true Z Z (A5 a7) Aa<|Ac 1 Z<|Ag Z<|aI Z<|A1<|AF<|Am<|Af [2] Z (zI ((2:Nat):Int)) Z ⟨FM,a0⟩
 refine Al false Z Z (A6 a7) Aa<|Ac 1 Z<|Ai Z<|aH [0,0] Z ?_
 by_cases a8:k=((7:Nat):Int)
 ·exact Al true Z Z (A5 a8) Aa<|Ac 1 Z<|Ag Z<|aI Z<|A1<|AF<|Am<|Af [2] Z (zI ((1:Nat):Int)) Z ⟨FM,a0⟩
 refine Al false Z Z (A6 a8) Aa<|Ac 1 Z<|Ai Z<|aH [0,0] Z ?_
 by_cases a9:k=((8:Nat):Int)
 ·exact Al true Z Z (A5 a9) Aa<|Ac 1 Z<|Ag Z<|aI Z<|A1<|AF<|Am<|Af [2] Z (zI ((3:Nat):Int)) Z ⟨FM,a0⟩
 exact Al false Z Z (A6 a9) Aa<|Ac 1 Z<|Ai Z<|A2<|aI Z<|A1<|Af [2] Z (zI (-1)) Z ⟨FM,a0⟩
def GX (d:Nat):Prop:=∀(w:World) (gg gs:Nat) (sv:Value) (cs:List UInt8) (n0:Nat) (pp:Value) (dp:Nat) (l0:Int) (pl:Bool) (p:List Fn) (vars funcs:Int) (hgg:gs<gg) (hs:Ea w.heap gs sv cs n0) (hB0:BX w.heap gg [.pointer (some ⟨gs,0,none⟩),pp,.int .i64 l0,.bool pl]) (hp:RN [gs,gg] (rP (JY dp)) w.heap pp p) (_hvars:Bt vars) (_hfuncs:Bt funcs) (hv:0≤vars∧vars+((d:Nat):Int)≤1000) (hfu:0≤funcs∧funcs≤((p.length:Nat):Int)) (hpr:Xr p) (hd:d≤8) (hn:n0+Hu d≤1000000000000) (hl:LY d-1000000≤l0∧l0≤1000),Calls Tryz.prog 124 #[.pointer (some ⟨gg,0,none⟩),.int .i64 vars,.int .i64 funcs,.int .i64 ((d:Nat):Int)] w (fun e w'=>∃(v:Value) (ex:Ex) (n1:Nat) (l1:Int),e=.returned (.agg #[.int .i64 ex.kind,.int .i64 ex.num,.int .i64 ex.pick,.int .i64 ex.count,v])∧As [gs,gg] w w'∧Ea w'.heap gs sv cs n1∧(n0≤n1∧n1≤n0+(Hu d))∧BX w'.heap gg [.pointer (some ⟨gs,0,none⟩),pp,.int .i64 l1,.bool pl]∧Fr (EI 5 (OR 153 d) 153) w.heap.size w'.heap.size w'.heap v ex.kids∧SS ex∧Pb p funcs vars pl d l0 l1 ex)
def GC (d:Nat):Prop:=∀(w:World) (gg gs:Nat) (sv:Value) (cs:List UInt8) (n0:Nat) (pp:Value) (dp:Nat) (l0:Int) (pl:Bool) (p:List Fn) (vars funcs:Int) (hgg:gs<gg) (hs:Ea w.heap gs sv cs n0) (hB0:BX w.heap gg [.pointer (some ⟨gs,0,none⟩),pp,.int .i64 l0,.bool pl]) (hp:RN [gs,gg] (rP (JY dp)) w.heap pp p) (_hvars:Bt vars) (_hfuncs:Bt funcs) (hv:0≤vars∧vars+((d:Nat):Int)≤1000) (hfu:0≤funcs∧funcs≤((p.length:Nat):Int)) (hpr:Xr p) (hd:1≤d∧d≤8) (hn:n0+(20+4*Hu (d-1))≤1000000000000) (hl:1≤l0∧l0≤1000),Calls Tryz.prog 197 #[.pointer (some ⟨gg,0,none⟩),.int .i64 vars,.int .i64 funcs,.int .i64 ((d:Nat):Int)] w (fun e w'=>∃(v:Value) (ex:Ex) (n1:Nat) (l1:Int),e=.returned (.agg #[.int .i64 ex.kind,.int .i64 ex.num,.int .i64 ex.pick,.int .i64 ex.count,v])∧As [gs,gg] w w'∧Ea w'.heap gs sv cs n1∧(n0≤n1∧n1≤n0+(20+4*Hu (d-1)))∧BX w'.heap gg [.pointer (some ⟨gs,0,none⟩),pp,.int .i64 l1,.bool pl]∧Fr (EI 5 (OR 153 d) 153) w.heap.size w'.heap.size w'.heap v ex.kids∧SS ex∧Pb p funcs vars pl d (l0+1) l1 ex)
theorem In (w:World)(gg gs:Nat)(sv:Value)(cs:List UInt8)(n0:Nat)(pp:Value)(dp:Nat)(l0:Int)(pl:Bool)(p:List Fn)(vars:Int)(funcs:Int)(d:Nat)(hgg:gs<gg)(hs:Ea w.heap gs sv cs n0)(hB0:BX w.heap gg [zP gs,pp,zI l0,.bool pl])(hp:RN [gs,gg] (rP (JY dp)) w.heap pp p)(_hvars:Bt vars)(_hfuncs:Bt funcs)(hv:0≤vars∧vars+(d:Int)≤1000)(hfu:0≤funcs∧funcs≤(p.length:Int))(hpr:Xr p)(hd:1≤d∧d≤8)(hn:n0+(20+4*Hu (d-1))≤1000000000000)(hl:1≤l0∧l0≤1000)(IH:GX (d-1)) :
  Calls Tryz.prog 197 #[zP gg,zI vars,zI funcs,zI (d:Int)] w (fun e w'=>∃(v:Value) (ex:Ex) (n1:Nat) (l1:Int),e=.returned (.agg #[zI ex.kind,zI ex.num,zI ex.pick,zI ex.count,v])∧As [gs,gg] w w'∧Ea w'.heap gs sv cs n1∧(n0≤n1∧n1≤n0+(20+4*Hu (d-1)))∧BX w'.heap gg [zP gs,pp,zI l1,.bool pl]∧Fr (EI 5 (OR 153 d) 153) w.heap.size w'.heap.size w'.heap v ex.kids∧SS ex∧Pb p funcs vars pl d (l0+1) l1 ex):=by
 refine Ap [zP gg,zI vars,zI funcs,zI (d:Int)] 89 Tryz.func197 Z Z sM ?_
 have dx:As [gs,gg] w w:=As.refl [gs,gg] w
 have ft:=hs.lt
 have ei:=hB0.lt
 have hst:=O9 (d-1)
 have hnd:=Hv (d-1)
 have hnl:=R3 (d:=d-1) oM
 have hpl:=hpr.len
 refine aH [3] Z ?_
 have gh:=hB0.lt
 refine Bp (z:=.agg #[zI 0,zI 0,zI 0,zI 0,zN]) Ha Aa fun w1 bm ej ce=>?_
 have ch:w.heap.size≤w1.heap.size:=bm.size
 have cf:As [gs,gg] w w1:=dx.ext bm
 have bn:=hs.ext bm
 have ap:=hB0.ext bm
 replace ce:BX w1.heap w.heap.size [zI 0,zI 0,zI 0,zI 0,zN]:=ce
 refine Aj<|A0<|aH [0,0] Z<|Ad 1 Z ?_
 by_cases dy:funcs=((0:Nat):Int)
 ·refine Al true Z Z (A5 dy) Aa<|Aj<|Ag Z<|aH [0,0,4,4] Z<|Ad 2 Z<|AB 196 [] [] [zP gg,zI vars] Z Z PF Aa (CR _ gg gs sv cs n0 pp dp l0 pl p (vars) oM bn ap (hp.chg (B7<|AR dp) cf) _hvars oM oM) ?_
  rintro e4 w4 ⟨x4,n4,rfl,ci,ek,gi,el,em,cj,gj⟩
  refine⟨_,rfl,?_⟩
  have en:w1.heap.size≤w4.heap.size:=ci.size
  have eo:As [gs,gg] w w4:=cf.trans ci
  have ep:=ce.chg ci fun hm=>zH<|Do hm
  refine Bw (vs:=[zI x4.kind,zI x4.num,zI x4.pick,zI x4.count,zN]) B6 Z Z Gy ep Z Z Aa fun w6 cg gk ck=>?_
  replace ck:BX w6.heap w.heap.size [zI x4.kind,zI x4.num,zI x4.pick,zI x4.count,zN]:=ck
  have eq:w4.heap.size≤w6.heap.size:=cg.size
  have er:As [gs,gg] w w6:=eo.fresh cg (fun _ h=>zE h)
  have es:=ek.chg cg fun c hc=>zH<|A9 hc
  have et:=el.chg cg (zB ·)
  exact Aj<|A1<|Am<|Co (cs:=[zI x4.kind,zI x4.num,zI x4.pick,zI x4.count,zN]) Z B6 Z ck Z ⟨zN,x4,n4,l0,rfl,er,es,⟨zO,zO⟩,et,(by rw[cj];exact GZ _ _ _),em,(by exact Oa.okc (by assumption) d)⟩
 refine Al false Z Z (A6 dy) Aa<|Aj<|Ai Z<|A2<|aH [0,0,0,2,0,4,0,3,4] Z<|Ad 1 Z<|AT Z Aa<|Ak (p:=zP gg) 0 Ej Z Z Aa<|Ah (p:=Ao (zP gg) 0) (.inr Z) (zP gs) HT Z (ap.ldp (i:=0) sM) Aa<|Ad 1 Z ?_
 refine AB 68 [] [] [zP gs,zI funcs] Z Z H8 Aa (AU _ gs _ _ _ (funcs) bn oM _hfuncs sD) ?_
 rintro e9 w9 ⟨f0,n9,rfl,bo,eu,gl,dz⟩
 refine⟨_,rfl,?_⟩
 have cl:w1.heap.size≤w9.heap.size:=bo.size
 have e0:As [gs,gg] w w9:=cf.trans (bo.sub FH)
 have ba:=ap.chg bo (zB ·)
 have bb:=ce.chg bo (zB ·)
 have bp:∀(wq:World),(Instr.build 153 #[(0,zI ((10:Nat):Int)),(1,zI f0)]).run Tryz.prog wq=.ok (.agg #[zI ((10:Nat):Int),zI f0,zI 0,zI 0,zN]) wq:=by intro wq;kernel_rfl
 refine C7 (ps:=#[(0,zI ((10:Nat):Int)),(1,zI f0)]) (.agg #[zI ((10:Nat):Int),zI f0,zI 0,zI 0,zN]) (by simp only[zc,zf,zh];rfl) (fun wq=>bp  wq) Aa ?_
 have ev:=ba.lt
 have ew:=bb.lt
 refine Bp (z:=.agg #[zI 0,zI 0,zI 0,zI 0,zN]) Ha Aa fun f7 ah cm bc=>?_
 have bq:w9.heap.size≤f7.heap.size:=ah.size
 have br:As [gs,gg] w f7:=e0.ext ah
 have bd:=eu.ext ah
 have af:=ba.ext ah
 have ag:=bb.ext ah
 replace bc:BX f7.heap w9.heap.size [zI 0,zI 0,zI 0,zI 0,zN]:=bc
 refine Bw (vs:=[zI ((10:Nat):Int),zI f0,zI 0,zI 0,zN]) B6 Z Z Gy bc Z Z Aa fun f8 ai cn ay=>?_
 replace ay:BX f8.heap w9.heap.size [zI ((10:Nat):Int),zI f0,zI 0,zI 0,zN]:=ay
 have bs:f7.heap.size≤f8.heap.size:=ai.size
 have aj:As [gs,gg] w f8:=br.fresh ai (fun _ h=>zE h)
 have bt:=bd.chg ai fun c hc=>zH<|A9 hc
 have az:=af.chg ai (zB ·)
 have bu:=ag.chg ai (zB ·)
 refine Aj<|A0<|AQ _ [0,0,0,1,0,0,1,0,1,0,0] mixed (by kernel_rfl)<|Ad 1 Z ?_
 have hxk:f0<funcs:=by omega
 refine AT Z Aa<|Ak (p:=zP gg) 1 TK Z Z Aa<|Ah (p:=Ao (zP gg) 1) (.inl Z) pp UM Z (az.ldp (i:=1) sM) Aa<|AM (hp.isPtr) Z Aa ?_
 obtain⟨cs20,co,bv⟩:=RN.at (AR _) hp
 obtain⟨a0,rfl,a5⟩:=RPr.of co
 have b8:=a5.lenle
 unfold maxLen at b8
 refine AI (p:=pp) 0 BC Z (bv _ aj.drew) Aa<|Ah (p:=Ao pp 0) (.inl Z) a0 C2 Z ((bv _ aj.drew).ld (i:=0) (by simp[EP,EQ])) Aa<|Ak (p:=zP w9.heap.size) 1 BE Z Z Aa<|Ah (p:=Ao (zP w9.heap.size) 1) (.inl Z) (zI f0) AC Z (ay.ldp (i:=1) sM) Aa ?_
 refine Az (v:=a0) ((f0).toNat) GI Cy Z Z a5.isSl oM sD Aa<|Ac 1 Z<|A0<|AQ _ [0,0,0,1,0,0,0,1,0,4,0,4] mixed (by kernel_rfl) ?_
 have fu:=hpr.outs (f0).toNat oM
 have hpa:=hpr.par (f0).toNat oM
 refine Ad 1 Z<|AT Z Aa<|Ak (p:=zP gg) 0 Ej Z Z Aa<|Ah (p:=Ao (zP gg) 0) (.inl Z) (zP gs) HT Z (az.ldp (i:=0) sM) Aa<|Ad 1 Z<|AM (RN.isPtr<|RN.ptr (Ay dp) (by decide) Fn.zero a5 sD) Z Aa ?_
 obtain⟨cs21,cp,a3⟩:=a5.get (Ay dp) Fn.zero (k:=(f0).toNat) sD
 obtain⟨b0,rfl,be⟩:=RF.of cp
 have b9:=be.rn.lenle
 unfold maxLen at b9
 refine AI (p:=Ax a0 ((f0).toNat) 3) 2 BV Z (a3 _ aj.drew.drew) Aa<|Ah (p:=Ao (Ax a0 ((f0).toNat) 3) 2) (.inl Z) b0 Bf Z ((a3 _ aj.drew.drew).ld (i:=2) (by simp[EP,EQ])) Aa<|AO (v:=b0) CZ Z be.rn.isSl Aa ?_
 refine AB 68 [] [] [zP gs,zI ((((p.getD ((f0).toNat) Fn.zero).outs).length:Nat):Int)] Z Z H8 Aa (AU _ gs _ _ _ ((((p.getD ((f0).toNat) Fn.zero).outs).length:Nat):Int) bt oM oM sD) ?_
 rintro fv f9 ⟨f1,fl,rfl,a2,cq,ey,cr⟩
 refine⟨_,rfl,?_⟩
 replace a2:=a2.of_drew
 replace a2:=a2.of_drew
 have bw:f8.heap.size≤f9.heap.size:=a2.size
 have bx:As [gs,gg] w f9:=aj.trans (a2.sub FH)
 have bz:=az.chg a2 (zB ·)
 have c0:=bu.chg a2 (zB ·)
 have c1:=ay.chg a2 (zB ·)
 refine Ak (p:=zP w9.heap.size) 2 D3 Z Z Aa (Bl (k:=2) (w:=f9) GH Z Z ⟨rfl,rfl⟩ c1 sM Aa fun fa ak ct b1=>?_)
 replace b1:BX fa.heap w9.heap.size [zI ((10:Nat):Int),zI f0,zI f1,zI 0,zN]:=b1
 have c2:f9.heap.size≤fa.heap.size:=ak.size
 have a6:As [gs,gg] w fa:=bx.fresh ak (fun _ h=>zE h)
 have bf:=cq.chg ak fun c hc=>zH<|A9 hc
 have b2:=bz.chg ak (zB ·)
 have bg:=c0.chg ak (zB ·)
 refine Aj ?_
 refine A0<|JG (S:=Int×Int×Nat) (fun⟨k,cnt,m1⟩=>([(0,zP gg),(1,zI vars),(2,zI funcs),(3,zI (d:Int)),(8,zP w.heap.size),(9,zP w9.heap.size),(10,Ax a0 ((f0).toNat) 3)])) (fun⟨k,cnt,m1⟩ W=>As [gs,gg] w W∧Ea W.heap gs sv cs m1∧BX W.heap gg [zP gs,pp,zI l0,.bool pl]∧BX W.heap w.heap.size [zI 0,zI 0,zI 0,zI 0,zN]∧BX W.heap w9.heap.size [zI k,zI f0,zI f1,zI cnt,zN]∧((k=10∧cnt=0)∨(k=11∧(((p.getD (f0).toNat Fn.zero).outs.length:Nat):Int)=(p.getD (f0).toNat Fn.zero).params∧0≤cnt∧cnt≤8))∧(n0≤m1∧m1≤n0+8)) ?_ ?_
 ·refine A0<|AQ _ [0,0,0,1,0,0,0,0,1,0,0,0,0,0,1,4,0] mixed (by kernel_rfl)<|Ad 1 Z<|AM (RN.isPtr<|RN.ptr (Ay dp) (by decide) Fn.zero a5 sD) Z Aa<|AI (p:=Ax a0 ((f0).toNat) 3) 2 BV Z (a3 _ a6.drew) Aa<|Ah (p:=Ao (Ax a0 ((f0).toNat) 3) 2) (.inl Z) b0 Bf Z ((a3 _ a6.drew).ld (i:=2) (by simp[EP,EQ])) Aa<|AO (v:=b0) CZ Z be.rn.isSl Aa ?_
  refine Ad 1 Z<|AM (RN.isPtr<|RN.ptr (Ay dp) (by decide) Fn.zero a5 sD) Z Aa<|AI (p:=Ax a0 ((f0).toNat) 3) 1 Ck Z (a3 _ a6.drew) Aa<|Ah (p:=Ao (Ax a0 ((f0).toNat) 3) 1) (.inl Z) (zI<|(p.getD ((f0).toNat) Fn.zero).params) AC Z ((a3 _ a6.drew).ld (i:=1) (by simp[EP,EQ])) Aa ?_
  by_cases c3:((((p.getD ((f0).toNat) Fn.zero).outs).length:Nat):Int)=(p.getD ((f0).toNat) Fn.zero).params
  ·refine Al true Z Z (A5 c3) Aa<|Ad 2 Z<|AT Z (Ae (e:=55) Z Z Z)<|Ak (p:=zP gg) 0 Ej Z Z (Ae (e:=55) Z Z Z)<|Ah (p:=Ao (zP gg) 0) (.inl Z) (zP gs) HT Z (b2.ldp (i:=0) sM) (Ae (e:=55) Z Z Z) ?_
   refine AB 122 [] [] [zP gs,zI ((2:Nat):Int)] Z Z NL (Ae (e:=55) Z Z Z) (Cv _ gs _ _ _ ((2:Nat):Int) bf oM oM sD) ?_
   rintro fw fb ⟨f6,fm,rfl,a7,c4,ez,cu⟩
   refine⟨_,rfl,?_⟩
   replace a7:=a7.of_drew
   have e1:fa.heap.size≤fb.heap.size:=a7.size
   have c5:As [gs,gg] w fb:=a6.trans (a7.sub FH)
   have c6:=b2.chg a7 (zB ·)
   have c7:=bg.chg a7 (zB ·)
   have c8:=b1.chg a7 (zB ·)
   refine Ac 1 Z ?_
   cases c9:f6
   ·exact Ai (by first|rfl|exact zW c9)<|A2 ⟨(((10:Nat):Int),0,fm),_,rfl,zR,⟨c5,c4,c6,c7,c8,oM,oM⟩⟩
   refine Ag (by first|rfl|exact zW c9)<|aH [0,4] Z<|Ak (p:=zP w9.heap.size) 0 Bg Z Z Aa (Bl (k:=0) (w:=fb) GH Z Z ⟨rfl,rfl⟩ c8 sM Aa fun fc aq g0 bh=>?_)
   replace bh:BX fc.heap w9.heap.size [zI ((11:Nat):Int),zI f0,zI f1,zI 0,zN]:=bh
   have e2:fb.heap.size≤fc.heap.size:=aq.size
   have cv:As [gs,gg] w fc:=c5.fresh aq (fun _ h=>zE h)
   have cw:=c4.chg aq fun c hc=>zH<|A9 hc
   have ca:=c6.chg aq (zB ·)
   have cx:=c7.chg aq (zB ·)
   refine Aj<|Ab _ [0,0,0,2,4,0,4] Z<|Ad 1 Z<|AT Z Aa<|Ak (p:=zP gg) 0 Ej Z Z Aa<|Ah (p:=Ao (zP gg) 0) (.inr Z) (zP gs) HT Z (ca.ldp (i:=0) sM) Aa ?_
   refine AB 68 [] [] [zP gs,zI ((4:Nat):Int)] Z Z H8 Aa (AU _ gs _ _ _ ((4:Nat):Int) cw oM oM sD) ?_
   rintro fx fd ⟨f2,fo,rfl,ar,cy,g1,cz⟩
   refine⟨_,rfl,?_⟩
   have e3:fc.heap.size≤fd.heap.size:=ar.size
   have d0:As [gs,gg] w fd:=cv.trans (ar.sub FH)
   have d1:=ca.chg ar (zB ·)
   have d2:=cx.chg ar (zB ·)
   have d3:=bh.chg ar (zB ·)
   refine Ak (p:=zP w9.heap.size) 3 Di Z Z Aa (Bl (k:=3) (w:=fd) GH Z Z ⟨rfl,rfl⟩ d3 sM Aa fun ff au g2 bi=>?_)
   replace bi:BX ff.heap w9.heap.size [zI ((11:Nat):Int),zI f0,zI f1,zI f2,zN]:=bi
   have e5:fd.heap.size≤ff.heap.size:=au.size
   have d4:As [gs,gg] w ff:=d0.fresh au (fun _ h=>zE h)
   have d5:=cy.chg au fun c hc=>zH<|A9 hc
   have d6:=d1.chg au (zB ·)
   have d7:=d2.chg au (zB ·)
   exact Aj ⟨(((11:Nat):Int),f2,fo),_,rfl,zR,⟨d4,d5,d6,d7,bi,oM,oM⟩⟩
  exact Al false Z Z (A6 c3) Aa<|Ac 7 Z<|Ai Z<|A2 ⟨(((10:Nat):Int),0,fl),_,rfl,zR,⟨a6.drew,bf,b2,bg,b1,oM,oM⟩⟩
 clear dx ej bm ch cf bo cl e0 ba bb cm ah bq br af ag cn ai bs aj bt az bu b8 b9 a2 bw bx bz c0 c1 ct ak c2 a6 bf b2 bg
 rintro⟨k,cnt,m1⟩ ρ30 f4 ⟨cb,av,a8,a9,aa,hkc,gm⟩
 have e6:w.heap.size≤f4.heap.size:=cb.size
 have g3:=a8.lt
 have g4:=a9.lt
 have g5:=aa.lt
 refine A0<|aI Z<|A3 ?_
 refine AW (S:=Nat×Int×Nat×Value×List Ex) (fun⟨i,l,m,vk,xs⟩=>([(11,zI (i:Int)),(0,zP gg),(1,zI vars),(2,zI funcs),(3,zI (d:Int)),(8,zP w.heap.size),(9,zP w9.heap.size),(10,Ax a0 ((f0).toNat) 3)])) (fun⟨i,l,m,vk,xs⟩ W=>As [gs,gg] w W∧Fr (EI 5 (OR 153 d) 153) f4.heap.size W.heap.size W.heap vk xs∧Ea W.heap gs sv cs m∧BX W.heap gg [zP gs,pp,zI l,.bool pl]∧BX W.heap w.heap.size [zI 0,zI 0,zI 0,zI 0,zN]∧BX W.heap w9.heap.size [zI k,zI f0,zI f1,zI cnt,vk]∧(i:Int)≤(p.getD (f0).toNat Fn.zero).params∧Pc p funcs vars pl k d l0 l xs i∧(n0≤m∧m≤n0+8+Q4 i (Hu (d-1)))∧gg<f4.heap.size∧w.heap.size<f4.heap.size∧w9.heap.size<f4.heap.size∧f4.heap.size≤W.heap.size) (fun⟨i,l,m,vk,xs⟩=>(p.getD (f0).toNat Fn.zero).params.toNat-i) (0,l0,m1,zN,([]:List Ex)) ⟨rfl,rfl,rfl,rfl,rfl,rfl,rfl,rfl,trivial⟩ ⟨cb,(GZ _ 0 _).up<|At<|AY 153 d,av,a8,a9,aa,oM,(by exact Pc.nil ..),(by exact⟨zO,by show _≤n0+8+0;omega⟩),oM,oM,oM,oM⟩ ?_
 clear aa a9 a8 av
 rintro⟨i,l,m,vk,xs⟩ ρ55 f3 ⟨al,ab,aw,ac,ad,a1,gn,hko,hmb,e7,e8,ea,eb⟩
 have ec:w.heap.size≤f3.heap.size:=al.size
 have g6:=ac.lt
 have g7:=ad.lt
 have g8:=a1.lt
 refine A0<|aH [0,0,0,0,2,0] Z<|Ad 2 Z<|AM (RN.isPtr<|RN.ptr (Ay dp) (by decide) Fn.zero a5 sD) Z Aa<|AI (p:=Ax a0 ((f0).toNat) 3) 1 Ck Z (a3 _ al) Aa<|Ah (p:=Ao (Ax a0 ((f0).toNat) 3) 1) (.inr Z) (zI<|(p.getD ((f0).toNat) Fn.zero).params) AC Z ((a3 _ al).ld (i:=1) (by simp[EP,EQ])) Aa ?_
 by_cases cc:(i:Int)<(p.getD ((f0).toNat) Fn.zero).params
 ·refine AE true Z Z (A5 cc) Aa<|Aj<|Ag Z<|A2<|A0<|A3 ?_
  letI:JR:=QB [gs,gg]
  refine Jx.AQ _ [0,1,0,0,0,0,0,3,3,4,0,4] mixed (by kernel_rfl) ?_
  have htn:=LZ (k:=Hu (d-1)) (i:=i+1) oM
  have hts:Q4 (i+1) (Hu (d-1))=Q4 i (Hu (d-1))+Hu (d-1):=rfl
  have hti:=Nn (k:=LY (d-1)) (i:=i) oM oM
  have hlo:=hko.lo
  have hln:=hko.len
  refine Jx.Ak (p:=zP w9.heap.size) 4 B8 Z Z Aa<|Jx.Z5 (p:=Ao (zP w9.heap.size) 4) vk Bf Z (fun wj hj=>(BX.chg (w:=f3.drew) (F:=[gs,gg]) a1 hj fun hm=>zH<|Do hm).ldp (i:=4) sM) Aa<|Jx.V0 (zP gg) Z Aa<|Jx.V0 (zI vars) Z Aa<|Jx.V0 (zI funcs) Z Aa<|Jx.V0 (zI (d:Int)) Z Aa<|Jx.j1<|BB ((d-1:Nat):Int) Z Z (by rw[Dp oM oM];omega) Aa<|Aj ?_
  refine Jx.Au 124 [] [] [zP gg,zI vars,zI funcs,zI ((d-1:Nat):Int)] Z Z NM Aa (IH _ gg gs sv cs m pp dp l pl p (vars) (funcs) oM aw ac (hp.chg (B7<|AR dp) al.drew) _hvars _hfuncs oM oM hpr oM oM oM) ?_
  rintro fy fg ⟨fp,f5,fq,fr,rfl,a4,d8,g9,d9,bj,da,ga⟩
  refine⟨_,rfl,a4,?_⟩
  replace bj:=bj.low (B':=f3.heap.size)<|A7 _
  replace a4:=a4.of_drew
  have ed:f3.heap.size≤fg.heap.size:=a4.size
  have db:As [gs,gg] w fg:=al.trans a4
  have dc:=ab.chg (At<|AY 153 d) a4 fun c hc=>zH<|Do hc
  have dd:=ad.chg a4 fun hm=>zH<|Do hm
  have de:=a1.chg a4 fun hm=>zH<|Do hm
  refine Jx.Tb Z (Gk (cs:=[zI f5.kind,zI f5.num,zI f5.pick,zI f5.count,fp]) (y:=f5) (B:=f3.heap.size) (AY 153 d) CZ Bm Z (by decide) Z (PY.mk1 oM da bj) oM Aa fun fs fh ae gb df=>?_)
  have ee:fg.heap.size≤fh.heap.size:=ae.size
  have dg:As [gs,gg] w fh:=db.ext ae
  have b3:=dc.ext (At<|AY 153 d) ae
  have b4:=d8.ext ae
  have b5:=d9.ext ae
  have b6:=dd.ext ae
  have b7:=de.ext ae
  refine Jc (v:=vk) (a:=fs) (AY 153 d) CZ Bm Z (by decide) Z Z b3 oM df oM oM oM (by unfold maxLen;omega) Aa fun fk fe fz am ax cd=>?_
  have ef:fh.heap.size≤fe.heap.size:=am.size
  have dh:As [gs,gg] w fe:=dg.fresh am (fun c hc=>zH<|ax _ hc)
  have di:=b4.chg am fun c hc=>zH<|ax _ hc
  have dj:=b5.chg am fun hm=>zH<|ax _ hm
  have dk:=b6.chg am fun hm=>zH<|ax _ hm
  have dl:=b7.chg am fun hm=>zH<|ax _ hm
  refine Ak (p:=zP w9.heap.size) 4 B8 Z Z Aa (Bl (k:=4) (w:=fe) Sq Z Z (Bq cd.isSlS) dl sM Aa fun fi an gc bk=>?_)
  replace bk:BX fi.heap w9.heap.size [zI k,zI f0,zI f1,zI cnt,fk]:=bk
  have eg:fe.heap.size≤fi.heap.size:=an.size
  have dm:As [gs,gg] w fi:=dh.fresh an (fun _ h=>zE h)
  have dn:=di.chg an fun c hc=>zH<|A9 hc
  have dq:=dj.chg an (zB ·)
  have dr:=dk.chg an (zB ·)
  have ds:=cd.chg (At<|AY 153 d) an fun _ h=>zA h
  exact Aj<|Ab _ [0,0,0] Z<|Ad 1 Z<|AN ((i+1:Nat):Int) Z Z (Be oM oM) Aa<|Ac 1 Z ⟨(i+1,fr,fq,fk,xs++[f5]),_,rfl,zR,⟨dm,ds.up<|At<|AY 153 d,dn,dq,dr,bk,oM,(by exact hko.snoc oM (by rw[if_neg oM]) (by assumption)),oM,oM,oM,oM,oM⟩,zD⟩
 refine AE false Z Z (A6 cc) Aa<|Aj<|Ai Z<|A4<|Av<|Av<|Aq<|aH [2,4] Z<|AL (p:=zP w9.heap.size) (.inr Z) [zI k,zI f0,zI f1,zI cnt,vk] B6 Z (fun gp gd=>LD.of_box<|BX.ext (w:=f3) a1 gd) Z Aa (Bw (vs:=[zI k,zI f0,zI f1,zI cnt,vk]) B6 Z Z (by intro u hu;simp only[ze,z2,or_false]at hu;rcases hu with rfl|rfl|rfl|rfl|rfl <;> first|exact⟨rfl,rfl⟩|exact Bq ab.isSlS) ad Z Z Aa fun fj ao ge bl=>?_)
 replace bl:BX fj.heap w.heap.size [zI k,zI f0,zI f1,zI cnt,vk]:=bl
 have eh:f3.heap.size≤fj.heap.size:=ao.size
 have dt:As [gs,gg] w fj:=al.fresh ao (fun _ h=>zE h)
 have du:=ab.chg (At<|AY 153 d) ao fun _ h=>zA h
 have dv:=aw.chg ao fun c hc=>zH<|A9 hc
 have dw:=ac.chg ao (zB ·)
 have gf:=a1.chg ao (zB ·)
 refine Aj<|A1 ?_
 have hln:=hko.len
 have htn:=LZ (k:=Hu (d-1)) (i:=i) oM
 exact Co (cs:=[zI k,zI f0,zI f1,zI cnt,vk]) Z B6 Z bl Z ⟨vk,.mk k f0 f1 cnt xs,m,l,rfl,dt,dv,⟨zO,zO⟩,dw,(du.up<|At<|AY 153 d).low (B':=w.heap.size) oM,KA oM oM oM oM,(by exact hko.node1 oM oM oM (fun _=>by omega) (Vo hkc oM oM oM))⟩
theorem OF {p:Prop}(h:p:=by exact hko.snoc oM (by first|rw[if_pos oM]|rw[if_neg oM]) (by assumption)):p:=h
theorem MR {p:Prop}(h:p:=by intro hpl;first|omega|(simp_all;omega)|simp_all):p:=h
theorem Io (w:World)(gg gs:Nat)(sv:Value)(cs:List UInt8)(n0:Nat)(pp:Value)(dp:Nat)(l0:Int)(pl:Bool)(p:List Fn)(vars:Int)(funcs:Int)(d:Nat)(hgg:gs<gg)(hs:Ea w.heap gs sv cs n0)(hB0:BX w.heap gg [zP gs,pp,zI l0,.bool pl])(hp:RN [gs,gg] (rP (JY dp)) w.heap pp p)(_hvars:Bt vars)(_hfuncs:Bt funcs)(hv:0≤vars∧vars+(d:Int)≤1000)(hfu:0≤funcs∧funcs≤(p.length:Int))(hpr:Xr p)(hd:d≤8)(hn:n0+Hu d≤1000000000000)(hl:LY d-1000000≤l0∧l0≤1000)(IH1:∀d',d'<d→GX d')(IH2:1≤d→GC d) :
  Calls Tryz.prog 124 #[zP gg,zI vars,zI funcs,zI (d:Int)] w (fun e w'=>∃(v:Value) (ex:Ex) (n1:Nat) (l1:Int),e=.returned (.agg #[zI ex.kind,zI ex.num,zI ex.pick,zI ex.count,v])∧As [gs,gg] w w'∧Ea w'.heap gs sv cs n1∧(n0≤n1∧n1≤n0+(Hu d))∧BX w'.heap gg [zP gs,pp,zI l1,.bool pl]∧Fr (EI 5 (OR 153 d) 153) w.heap.size w'.heap.size w'.heap v ex.kids∧SS ex∧Pb p funcs vars pl d l0 l1 ex):=by
 refine Ap [zP gg,zI vars,zI funcs,zI (d:Int)] 117 Tryz.func124 Z Z sM ?_
 have l8:As [gs,gg] w w:=As.refl [gs,gg] w
 have pd:=hs.lt
 have mj:=hB0.lt
 have hst:=O9 d
 have hnd:=Hv d
 have hnl:=R3 (d:=d) oM
 refine aH [3] Z ?_
 have nt:=hB0.lt
 refine Bp (z:=.agg #[zI 0,zI 0,zI 0,zI 0,zN]) Ha Aa fun w1 db ml ih=>?_
 have ii:w.heap.size≤w1.heap.size:=db.size
 have l9:As [gs,gg] w w1:=l8.ext db
 have ij:=hs.ext db
 have ci:=hB0.ext db
 replace ih:BX w1.heap w.heap.size [zI 0,zI 0,zI 0,zI 0,zN]:=ih
 refine Aj<|aH [0,0,0,2,0,0,0,4] Z<|Ad 1 Z<|AT Z Aa<|Ak (p:=zP gg) 2 MI Z Z Aa<|Ah (p:=Ao (zP gg) 2) (.inr Z) (zI l0) AC Z (ci.ldp (i:=2) sM) Aa ?_
 refine BB (l0-((1:Nat):Int)) Z Z (Dp sD sD) Aa<|AT Z Aa ?_
 refine Ak (p:=zP gg) 2 MI Z Z Aa (Bl (k:=2) (w:=w1) GH Z Z ⟨rfl,rfl⟩ ci sM Aa fun w3 dc mm cq=>?_)
 replace cq:BX w3.heap gg [zP gs,pp,zI (l0-((1:Nat):Int)),.bool pl]:=cq
 have ik:w1.heap.size≤w3.heap.size:=dc.size
 have da:As [gs,gg] w w3:=l9.trans (dc.sub Vp)
 have id:=ij.chg dc fun c hc=>zH<|A9 hc
 have ie:=ih.chg dc (zB ·)
 refine Aj<|A0<|aH [0,0,0,2,0,0,0,0,0,0,0,0,0,2,4,0] Z<|Ad 1 Z<|AT Z Aa<|Ak (p:=zP gg) 2 MI Z Z Aa<|Ah (p:=Ao (zP gg) 2) (.inr Z) (zI (l0-((1:Nat):Int))) AC Z (cq.ldp (i:=2) sM) Aa ?_
 by_cases la:l0-((1:Nat):Int)<((1:Nat):Int)
 ·refine AE true Z Z (A5 la) Aa<|Ac 11 Z<|Ag Z<|aH [0,0,4,4] Z<|Ad 2 Z<|AB 196 [] [] [zP gg,zI vars] Z Z PF Aa (CR _ gg gs sv cs n0 pp dp (l0-((1:Nat):Int)) pl p (vars) oM id cq (hp.chg (B7<|AR dp) da) _hvars oM oM) ?_
  rintro e7 w7 ⟨x7,n7,rfl,il,mn,nu,mo,mp,im,nv⟩
  refine⟨_,rfl,?_⟩
  have mq:w3.heap.size≤w7.heap.size:=il.size
  have mr:As [gs,gg] w w7:=da.trans il
  have ms:=ie.chg il fun hm=>zH<|Do hm
  refine Bw (vs:=[zI x7.kind,zI x7.num,zI x7.pick,zI x7.count,zN]) B6 Z Z Gy ms Z Z Aa fun w9 ig nw io=>?_
  replace io:BX w9.heap w.heap.size [zI x7.kind,zI x7.num,zI x7.pick,zI x7.count,zN]:=io
  have mt:w7.heap.size≤w9.heap.size:=ig.size
  have mu:As [gs,gg] w w9:=mr.fresh ig (fun _ h=>zE h)
  have ip:=mn.chg ig fun c hc=>zH<|A9 hc
  have iq:=mo.chg ig (zB ·)
  exact Aj<|A1<|Am<|Co (cs:=[zI x7.kind,zI x7.num,zI x7.pick,zI x7.count,zN]) Z B6 Z io Z ⟨zN,x7,n7,l0-((1:Nat):Int),rfl,mu,ip,⟨zO,zO⟩,iq,(by rw[im];exact GZ _ _ _),mp,(by exact Oa.ok (by assumption) d)⟩
 refine AE false Z Z (A6 la) Aa<|Ad 2 Z ?_
 by_cases dd:(d:Int)<((1:Nat):Int)
 ·refine AE true Z Z (A5 dd) (Ae (e:=24) Z Z Z)<|Ac 8 Z<|Ag Z<|aH [0,0,4,4] Z<|Ad 2 Z<|AB 196 [] [] [zP gg,zI vars] Z Z PF Aa (CR _ gg gs sv cs n0 pp dp (l0-((1:Nat):Int)) pl p (vars) oM id cq (hp.chg (B7<|AR dp) da) _hvars oM oM) ?_
  rintro pe o0 ⟨f5,oy,rfl,cr,ir,mv,is,it,de,mw⟩
  refine⟨_,rfl,?_⟩
  have lb:w3.heap.size≤o0.heap.size:=cr.size
  have iu:As [gs,gg] w o0:=da.trans cr
  have iv:=ie.chg cr fun hm=>zH<|Do hm
  refine Bw (vs:=[zI f5.kind,zI f5.num,zI f5.pick,zI f5.count,zN]) B6 Z Z Gy iv Z Z Aa fun o4 cc mx ct=>?_
  replace ct:BX o4.heap w.heap.size [zI f5.kind,zI f5.num,zI f5.pick,zI f5.count,zN]:=ct
  have lc:o0.heap.size≤o4.heap.size:=cc.size
  have iw:As [gs,gg] w o4:=iu.fresh cc (fun _ h=>zE h)
  have ix:=ir.chg cc fun c hc=>zH<|A9 hc
  have iy:=is.chg cc (zB ·)
  exact Aj<|A1<|Am<|Co (cs:=[zI f5.kind,zI f5.num,zI f5.pick,zI f5.count,zN]) Z B6 Z ct Z ⟨zN,f5,oy,l0-((1:Nat):Int),rfl,iw,ix,⟨zO,zO⟩,iy,(by rw[de];exact GZ _ _ _),it,(by exact Oa.ok (by assumption) d)⟩
 refine AE false Z Z (A6 dd) (Ae (e:=24) Z Z Z)<|Ad 3 Z<|AT Z (Ae (e:=28) Z Z Z)<|Ak (p:=zP gg) 0 Ej Z Z (Ae (e:=28) Z Z Z)<|Ah (p:=Ao (zP gg) 0) (.inr Z) (zP gs) HT Z (cq.ldp (i:=0) sM) (Ae (e:=28) Z Z Z) ?_
 refine AB 122 [] [] [zP gs,zI ((5:Nat):Int)] Z Z NL (Ae (e:=28) Z Z Z) (Cv _ gs _ _ _ ((5:Nat):Int) id oM oM sD) ?_
 rintro pf f0 ⟨ft,oz,rfl,bn,df,my,iz⟩
 refine⟨_,rfl,?_⟩
 have dg:w3.heap.size≤f0.heap.size:=bn.size
 have cd:As [gs,gg] w f0:=da.trans (bn.sub FH)
 have ce:=cq.chg bn (zB ·)
 have cf:=ie.chg bn (zB ·)
 refine Ac 1 Z ?_
 cases dh:ft
 ·refine Ai (by first|rfl|exact zW dh)<|A2<|aH [0,3,4] Z ?_
  have p0:=U2 (d:=d) oM
  have p2:=Xq (d:=d) oM
  have mz:=O9 (d-1)
  have n2:=Hv (d-1)
  have di:∀(wq:World),(Instr.build 153 #[]).run Tryz.prog wq=.ok (.agg #[zI 0,zI 0,zI 0,zI 0,zN]) wq:=by intro wq;kernel_rfl
  refine C7 (ps:=#[]) (.agg #[zI 0,zI 0,zI 0,zI 0,zN]) (by simp only[zc,zf,zh]) (fun wq=>di  wq) Aa ?_
  have n3:=ce.lt
  have n4:=cf.lt
  refine Bp (z:=.agg #[zI 0,zI 0,zI 0,zI 0,zN]) Ha Aa fun fy b4 j0 cu=>?_
  have dj:f0.heap.size≤fy.heap.size:=b4.size
  have dk:As [gs,gg] w fy:=cd.ext b4
  have cg:=df.ext b4
  have b1:=ce.ext b4
  have b2:=cf.ext b4
  replace cu:BX fy.heap f0.heap.size [zI 0,zI 0,zI 0,zI 0,zN]:=cu
  refine Bw (vs:=[zI 0,zI 0,zI 0,zI 0,zN]) B6 Z Z Gy cu Z Z Aa fun fz b5 j2 cv=>?_
  replace cv:BX fz.heap f0.heap.size [zI 0,zI 0,zI 0,zI 0,zN]:=cv
  have dl:fy.heap.size≤fz.heap.size:=b5.size
  have dm:As [gs,gg] w fz:=dk.fresh b5 (fun _ h=>zE h)
  have dn:=cg.chg b5 fun c hc=>zH<|A9 hc
  have cw:=b1.chg b5 (zB ·)
  have dq:=b2.chg b5 (zB ·)
  refine Aj<|A0<|JG (S:=Int×Nat) (fun⟨k,m1⟩=>([(0,zP gg),(1,zI vars),(2,zI funcs),(3,zI (d:Int)),(8,zP w.heap.size),(9,zP f0.heap.size)])) (fun⟨k,m1⟩ W=>As [gs,gg] w W∧Ea W.heap gs sv cs m1∧BX W.heap gg [zP gs,pp,zI (l0-((1:Nat):Int)),.bool pl]∧BX W.heap w.heap.size [zI 0,zI 0,zI 0,zI 0,zN]∧BX W.heap f0.heap.size [zI k,zI 0,zI 0,zI 0,zN]∧(k=3∨k=4∨k=5∨k=6∨k=7∨k=8∨k=9)∧(n0≤m1∧m1≤n0+4)) ?_ ?_
  ·refine aH [0,0,0,2,4] Z<|Ad 1 Z<|AT Z Aa<|Ak (p:=zP gg) 0 Ej Z Z Aa<|Ah (p:=Ao (zP gg) 0) (.inr Z) (zP gs) HT Z (cw.ldp (i:=0) sM) Aa ?_
   refine AB 68 [] [] [zP gs,zI ((12:Nat):Int)] Z Z H8 Aa (AU _ gs _ _ _ ((12:Nat):Int) dn oM oM sD) ?_
   rintro pg f4 ⟨f1,fa,rfl,bo,ad,n5,j3⟩
   refine⟨_,rfl,?_⟩
   have ld:fz.heap.size≤f4.heap.size:=bo.size
   have ab:As [gs,gg] w f4:=dm.trans (bo.sub FH)
   have ae:=cw.chg bo (zB ·)
   have af:=dq.chg bo (zB ·)
   have ag:=cv.chg bo (zB ·)
   refine Aj<|A3<|aH [0,0] Z ?_
   by_cases dr:f1=((0:Nat):Int)
   ·refine Al true Z Z (A5 dr) Aa<|Ac 1 Z<|Ag Z<|Ab _ [0,4] Z<|Ak (p:=zP f0.heap.size) 0 Bg Z Z Aa (Bl (k:=0) (w:=f4) GH Z Z ⟨rfl,rfl⟩ ag sM Aa fun o5 bp n6 cx=>?_)
    replace cx:BX o5.heap f0.heap.size [zI ((7:Nat):Int),zI 0,zI 0,zI 0,zN]:=cx
    have le:f4.heap.size≤o5.heap.size:=bp.size
    have j4:As [gs,gg] w o5:=ab.fresh bp (fun _ h=>zE h)
    have j5:=ad.chg bp fun c hc=>zH<|A9 hc
    have j6:=ae.chg bp (zB ·)
    have j7:=af.chg bp (zB ·)
    exact Aj ⟨(((7:Nat):Int),fa),_,rfl,zR,⟨j4,j5,j6,j7,cx,oM,oM⟩⟩
   refine Al false Z Z (A6 dr) Aa<|Ac 1 Z<|Ai Z<|aH [0,0] Z ?_
   by_cases ds:f1=((1:Nat):Int)
   ·refine Al true Z Z (A5 ds) Aa<|Ac 1 Z<|Ag Z<|Ab _ [0,4] Z<|Ak (p:=zP f0.heap.size) 0 Bg Z Z Aa (Bl (k:=0) (w:=f4) GH Z Z ⟨rfl,rfl⟩ ag sM Aa fun o6 bq n8 cy=>?_)
    replace cy:BX o6.heap f0.heap.size [zI ((9:Nat):Int),zI 0,zI 0,zI 0,zN]:=cy
    have lf:f4.heap.size≤o6.heap.size:=bq.size
    have j8:As [gs,gg] w o6:=ab.fresh bq (fun _ h=>zE h)
    have j9:=ad.chg bq fun c hc=>zH<|A9 hc
    have ja:=ae.chg bq (zB ·)
    have jb:=af.chg bq (zB ·)
    exact Aj ⟨(((9:Nat):Int),fa),_,rfl,zR,⟨j8,j9,ja,jb,cy,oM,oM⟩⟩
   refine Al false Z Z (A6 ds) Aa<|Ac 1 Z<|Ai Z<|aH [0,0] Z ?_
   by_cases dt:f1=((2:Nat):Int)
   ·refine Al true Z Z (A5 dt) Aa<|Ac 1 Z<|Ag Z<|Ab _ [0,4] Z<|Ak (p:=zP f0.heap.size) 0 Bg Z Z Aa (Bl (k:=0) (w:=f4) GH Z Z ⟨rfl,rfl⟩ ag sM Aa fun o7 br n9 cz=>?_)
    replace cz:BX o7.heap f0.heap.size [zI ((8:Nat):Int),zI 0,zI 0,zI 0,zN]:=cz
    have lg:f4.heap.size≤o7.heap.size:=br.size
    have jc:As [gs,gg] w o7:=ab.fresh br (fun _ h=>zE h)
    have jd:=ad.chg br fun c hc=>zH<|A9 hc
    have je:=ae.chg br (zB ·)
    have jf:=af.chg br (zB ·)
    exact Aj ⟨(((8:Nat):Int),fa),_,rfl,zR,⟨jc,jd,je,jf,cz,oM,oM⟩⟩
   refine Al false Z Z (A6 dt) Aa<|Ac 1 Z<|Ai Z<|aH [0,0] Z ?_
   by_cases du:f1=((3:Nat):Int)
   ·refine Al true Z Z (A5 du) Aa<|Ac 1 Z<|Ag Z<|Ab _ [0,4] Z<|Ak (p:=zP f0.heap.size) 0 Bg Z Z Aa (Bl (k:=0) (w:=f4) GH Z Z ⟨rfl,rfl⟩ ag sM Aa fun o8 bs na d0=>?_)
    replace d0:BX o8.heap f0.heap.size [zI ((6:Nat):Int),zI 0,zI 0,zI 0,zN]:=d0
    have lh:f4.heap.size≤o8.heap.size:=bs.size
    have jg:As [gs,gg] w o8:=ab.fresh bs (fun _ h=>zE h)
    have jh:=ad.chg bs fun c hc=>zH<|A9 hc
    have ji:=ae.chg bs (zB ·)
    have jj:=af.chg bs (zB ·)
    exact Aj ⟨(((6:Nat):Int),fa),_,rfl,zR,⟨jg,jh,ji,jj,d0,oM,oM⟩⟩
   refine Al false Z Z (A6 du) Aa<|Ac 1 Z<|Ai Z<|A0<|aH [0,0] Z ?_
   by_cases dv:f1=((4:Nat):Int)
   ·refine Al true Z Z (A5 dv) Aa<|Ac 1 Z<|Ag Z<|A2<|Ag Z<|Ab _ [0,4] Z<|Ak (p:=zP f0.heap.size) 0 Bg Z Z Aa (Bl (k:=0) (w:=f4) GH Z Z ⟨rfl,rfl⟩ ag sM Aa fun o9 bt nb d1=>?_)
    replace d1:BX o9.heap f0.heap.size [zI ((3:Nat):Int),zI 0,zI 0,zI 0,zN]:=d1
    have li:f4.heap.size≤o9.heap.size:=bt.size
    have jk:As [gs,gg] w o9:=ab.fresh bt (fun _ h=>zE h)
    have jl:=ad.chg bt fun c hc=>zH<|A9 hc
    have jm:=ae.chg bt (zB ·)
    have jn:=af.chg bt (zB ·)
    exact Aj ⟨(((3:Nat):Int),fa),_,rfl,zR,⟨jk,jl,jm,jn,d1,oM,oM⟩⟩
   refine Al false Z Z (A6 dv) Aa<|Ac 1 Z<|Ai Z<|Ab _ [0,0] Z ?_
   by_cases dw:f1=((5:Nat):Int)
   ·refine Al true Z Z (A5 dw) Aa<|Ac 1 Z<|Ag Z<|Ab _ [0,4] Z<|Ak (p:=zP f0.heap.size) 0 Bg Z Z Aa (Bl (k:=0) (w:=f4) GH Z Z ⟨rfl,rfl⟩ ag sM Aa fun oa bu nc d2=>?_)
    replace d2:BX oa.heap f0.heap.size [zI ((3:Nat):Int),zI 0,zI 0,zI 0,zN]:=d2
    have lj:f4.heap.size≤oa.heap.size:=bu.size
    have jo:As [gs,gg] w oa:=ab.fresh bu (fun _ h=>zE h)
    have jp:=ad.chg bu fun c hc=>zH<|A9 hc
    have jq:=ae.chg bu (zB ·)
    have jr:=af.chg bu (zB ·)
    exact Aj ⟨(((3:Nat):Int),fa),_,rfl,zR,⟨jo,jp,jq,jr,d2,oM,oM⟩⟩
   refine Al false Z Z (A6 dw) Aa<|Ac 1 Z<|Ai Z<|aH [0,0] Z ?_
   by_cases dx:f1=((6:Nat):Int)
   ·refine Al true Z Z (A5 dx) Aa<|Ac 1 Z<|Ag Z<|Ab _ [0,4] Z<|Ak (p:=zP f0.heap.size) 0 Bg Z Z Aa (Bl (k:=0) (w:=f4) GH Z Z ⟨rfl,rfl⟩ ag sM Aa fun ob bv nd d3=>?_)
    replace d3:BX ob.heap f0.heap.size [zI ((4:Nat):Int),zI 0,zI 0,zI 0,zN]:=d3
    have lk:f4.heap.size≤ob.heap.size:=bv.size
    have js:As [gs,gg] w ob:=ab.fresh bv (fun _ h=>zE h)
    have jt:=ad.chg bv fun c hc=>zH<|A9 hc
    have ju:=ae.chg bv (zB ·)
    have jv:=af.chg bv (zB ·)
    exact Aj ⟨(((4:Nat):Int),fa),_,rfl,zR,⟨js,jt,ju,jv,d3,oM,oM⟩⟩
   refine Al false Z Z (A6 dx) Aa<|Ac 1 Z<|Ai Z<|A0<|aH [0,0] Z ?_
   by_cases dy:f1=((7:Nat):Int)
   ·refine Al true Z Z (A5 dy) Aa<|Ac 1 Z<|Ag Z<|A2<|Ag Z<|Ab _ [0,4] Z<|Ak (p:=zP f0.heap.size) 0 Bg Z Z Aa (Bl (k:=0) (w:=f4) GH Z Z ⟨rfl,rfl⟩ ag sM Aa fun oc bw ne d4=>?_)
    replace d4:BX oc.heap f0.heap.size [zI ((5:Nat):Int),zI 0,zI 0,zI 0,zN]:=d4
    have ll:f4.heap.size≤oc.heap.size:=bw.size
    have jw:As [gs,gg] w oc:=ab.fresh bw (fun _ h=>zE h)
    have jx:=ad.chg bw fun c hc=>zH<|A9 hc
    have jy:=ae.chg bw (zB ·)
    have jz:=af.chg bw (zB ·)
    exact Aj ⟨(((5:Nat):Int),fa),_,rfl,zR,⟨jw,jx,jy,jz,d4,oM,oM⟩⟩
   refine Al false Z Z (A6 dy) Aa<|Ac 1 Z<|Ai Z<|aH [0,0] Z ?_
   by_cases dz:f1=((8:Nat):Int)
   ·refine Al true Z Z (A5 dz) Aa<|Ac 1 Z<|Ag Z<|A2<|Ag Z<|Ab _ [0,4] Z<|Ak (p:=zP f0.heap.size) 0 Bg Z Z Aa (Bl (k:=0) (w:=f4) GH Z Z ⟨rfl,rfl⟩ ag sM Aa fun od bx nf d5=>?_)
    replace d5:BX od.heap f0.heap.size [zI ((5:Nat):Int),zI 0,zI 0,zI 0,zN]:=d5
    have lm:f4.heap.size≤od.heap.size:=bx.size
    have k0:As [gs,gg] w od:=ab.fresh bx (fun _ h=>zE h)
    have k1:=ad.chg bx fun c hc=>zH<|A9 hc
    have k3:=ae.chg bx (zB ·)
    have k4:=af.chg bx (zB ·)
    exact Aj ⟨(((5:Nat):Int),fa),_,rfl,zR,⟨k0,k1,k3,k4,d5,oM,oM⟩⟩
   refine Al false Z Z (A6 dz) Aa<|Ac 1 Z<|Ai Z<|Ab _ [0,0] Z ?_
   by_cases e0:f1=((9:Nat):Int)
   ·refine Al true Z Z (A5 e0) Aa<|Ac 1 Z<|Ag Z<|Ab _ [0,4] Z<|Ak (p:=zP f0.heap.size) 0 Bg Z Z Aa (Bl (k:=0) (w:=f4) GH Z Z ⟨rfl,rfl⟩ ag sM Aa fun oe bz ng d6=>?_)
    replace d6:BX oe.heap f0.heap.size [zI ((5:Nat):Int),zI 0,zI 0,zI 0,zN]:=d6
    have ln:f4.heap.size≤oe.heap.size:=bz.size
    have k5:As [gs,gg] w oe:=ab.fresh bz (fun _ h=>zE h)
    have k6:=ad.chg bz fun c hc=>zH<|A9 hc
    have k7:=ae.chg bz (zB ·)
    have k8:=af.chg bz (zB ·)
    exact Aj ⟨(((5:Nat):Int),fa),_,rfl,zR,⟨k5,k6,k7,k8,d6,oM,oM⟩⟩
   refine Al false Z Z (A6 e0) Aa<|Ac 1 Z<|Ai Z<|aH [0,0,0,0,4,4] Z<|Ad 4 Z<|AB 197 [] [] [zP gg,zI vars,zI funcs,zI (d:Int)] Z Z Yi Aa (IH2 oM _ gg gs sv cs fa pp dp (l0-((1:Nat):Int)) pl p (vars) (funcs) oM ad ae (hp.chg (B7<|AR dp) ab) _hvars _hfuncs oM oM hpr oM oM oM) ?_
   rintro ph og ⟨nz,f6,p4,p5,rfl,ch,k9,nh,ka,e1,kb,ni⟩
   refine⟨_,rfl,?_⟩
   have lp:f4.heap.size≤og.heap.size:=ch.size
   have kc:As [gs,gg] w og:=ab.trans ch
   have kd:=af.chg ch fun hm=>zH<|Do hm
   have ke:=ag.chg ch fun hm=>zH<|Do hm
   refine Bw (vs:=[zI f6.kind,zI f6.num,zI f6.pick,zI f6.count,nz]) B6 Z Z (by intro u hu;simp only[ze,z2,or_false]at hu;rcases hu with rfl|rfl|rfl|rfl|rfl <;> first|exact⟨rfl,rfl⟩|exact Bq e1.isSlS) kd Z Z Aa fun oh b6 nj d7=>?_
   replace d7:BX oh.heap w.heap.size [zI f6.kind,zI f6.num,zI f6.pick,zI f6.count,nz]:=d7
   have lq:og.heap.size≤oh.heap.size:=b6.size
   have kf:As [gs,gg] w oh:=kc.fresh b6 (fun _ h=>zE h)
   have kg:=k9.chg b6 fun c hc=>zH<|A9 hc
   have kh:=ka.chg b6 (zB ·)
   have nk:=ke.chg b6 (zB ·)
   have ki:=e1.chg (At<|AY 153 d) b6 fun _ h=>zA h
   exact Aj<|A1<|AF<|Am<|Co (cs:=[zI f6.kind,zI f6.num,zI f6.pick,zI f6.count,nz]) Z B6 Z d7 Z ⟨nz,f6,p4,p5,rfl,kf,kg,⟨zO,zO⟩,kh,(ki.up<|At<|AY 153 d).low (B':=w.heap.size) oM,kb,(by exact Pb.up1 (by assumption))⟩
  clear l8 ml db ii l9 mm dc ik da id ie bn dg cd ce cf j0 b4 dj dk b1 b2 j2 b5 dl dm dn cw dq
  rintro⟨k,m1⟩ ρ30 fu ⟨b7,ah,a2,a6,a1,hkk,nx⟩
  have e2:w.heap.size≤fu.heap.size:=b7.size
  have nl:=a2.lt
  have nm:=a6.lt
  have nn:=a1.lt
  refine A0<|JG (S:=Int) (fun(k2:Int)=>([(0,zP gg),(1,zI vars),(2,zI funcs),(3,zI (d:Int)),(8,zP w.heap.size),(9,zP f0.heap.size)])) (fun(k2:Int) (W:World)=>As [gs,gg] w W∧Ea W.heap gs sv cs m1∧BX W.heap gg [zP gs,pp,zI (l0-((1:Nat):Int)),.bool pl]∧BX W.heap w.heap.size [zI 0,zI 0,zI 0,zI 0,zN]∧BX W.heap f0.heap.size [zI k2,zI 0,zI 0,zI 0,zN]∧(k2=3∨k2=4∨k2=5∨k2=6∨k2=7∨k2=8∨k2=9)∧(pl=true→k2≠6∧k2≠8)) ?_ ?_
  ·refine aH [0,0,0,2,0,0,2,0,0,0,2,0,0,0] Z<|Ad 1 Z<|AT Z Aa<|Ak (p:=zP gg) 3 TL Z Z Aa<|Ah (p:=Ao (zP gg) 3) (.inr Z) (.bool (true && pl)) ZS Z (a2.ldp (i:=3) sM) Aa<|Ad 1 Z ?_
   cases no:(true && pl)
   ·exact Ac 9 Z<|Ai Z<|A2 ⟨k,_,rfl,zR,⟨b7,ah,a2,a6,a1,oM,MR⟩⟩
   refine Ak (p:=zP f0.heap.size) 0 Bg Z Z (Ae (e:=77) Z Z Z)<|Ah (p:=Ao (zP f0.heap.size) 0) (.inr Z) (zI k) AC Z (a1.ldp (i:=0) sM) (Ae (e:=77) Z Z Z) ?_
   by_cases e3:k=((8:Nat):Int)
   ·refine Al true Z Z (A5 e3) (Ae (e:=77) Z Z Z)<|Ac 6 Z<|Ag Z<|Ab _ [0,4] Z<|Ak (p:=zP f0.heap.size) 0 Bg Z Z Aa (Bl (k:=0) (w:=fu) GH Z Z ⟨rfl,rfl⟩ a1 sM Aa fun oi c0 np d8=>?_)
    replace d8:BX oi.heap f0.heap.size [zI ((5:Nat):Int),zI 0,zI 0,zI 0,zN]:=d8
    have lr:fu.heap.size≤oi.heap.size:=c0.size
    have kj:As [gs,gg] w oi:=b7.fresh c0 (fun _ h=>zE h)
    have e4:=ah.chg c0 fun c hc=>zH<|A9 hc
    have e5:=a2.chg c0 (zB ·)
    have e6:=a6.chg c0 (zB ·)
    exact Aj ⟨((5:Nat):Int),_,rfl,zR,⟨kj,e4,e5,e6,d8,oM,MR⟩⟩
   refine Al false Z Z (A6 e3) (Ae (e:=77) Z Z Z)<|Ad 1 Z<|Ak (p:=zP f0.heap.size) 0 Bg Z Z (Ae (e:=81) Z Z Z)<|Ah (p:=Ao (zP f0.heap.size) 0) (.inr Z) (zI k) AC Z (a1.ldp (i:=0) sM) (Ae (e:=81) Z Z Z) ?_
   by_cases cj:k=((6:Nat):Int)
   ·refine Al true Z Z (A5 cj) (Ae (e:=81) Z Z Z)<|Ac 2 Z<|Ag Z<|Ab _ [0,4] Z<|Ak (p:=zP f0.heap.size) 0 Bg Z Z Aa (Bl (k:=0) (w:=fu) GH Z Z ⟨rfl,rfl⟩ a1 sM Aa fun fe au ls c1=>?_)
    replace c1:BX fe.heap f0.heap.size [zI ((5:Nat):Int),zI 0,zI 0,zI 0,zN]:=c1
    have kk:fu.heap.size≤fe.heap.size:=au.size
    have e8:As [gs,gg] w fe:=b7.fresh au (fun _ h=>zE h)
    have e9:=ah.chg au fun c hc=>zH<|A9 hc
    have ea:=a2.chg au (zB ·)
    have eb:=a6.chg au (zB ·)
    exact Aj ⟨((5:Nat):Int),_,rfl,zR,⟨e8,e9,ea,eb,c1,oM,MR⟩⟩
   exact Al false Z Z (A6 cj) (Ae (e:=81) Z Z Z)<|Ac 2 Z<|Ai Z<|A2 ⟨k,_,rfl,zR,⟨b7,ah,a2,a6,a1,oM,MR⟩⟩
  clear a1 a6 a2 ah b7 e2
  rintro k2 ρ96 fs ⟨ec,c2,ay,az,b0,nq,nr⟩
  have lu:w.heap.size≤fs.heap.size:=ec.size
  have lv:=ay.lt
  have lw:=az.lt
  have lx:=b0.lt
  refine A0<|aI Z<|A3 ?_
  have hknb:=Zk nq
  refine AW (S:=Nat×Int×Nat×Value×List Ex) (fun⟨i,l,m,vk,xs⟩=>([(10,zI (i:Int)),(0,zP gg),(1,zI vars),(2,zI funcs),(3,zI (d:Int)),(8,zP w.heap.size),(9,zP f0.heap.size)])) (fun⟨i,l,m,vk,xs⟩ W=>As [gs,gg] w W∧Fr (EI 5 (OR 153 d) 153) fs.heap.size W.heap.size W.heap vk xs∧Ea W.heap gs sv cs m∧BX W.heap gg [zP gs,pp,zI l,.bool pl]∧BX W.heap w.heap.size [zI 0,zI 0,zI 0,zI 0,zN]∧BX W.heap f0.heap.size [zI k2,zI 0,zI 0,zI 0,vk]∧(i:Int)≤kn k2∧Pc p funcs vars pl k2 d (l0-1) l xs i∧(n0≤m∧m≤n0+8+Q4 i (Hu (d-1)))∧gg<fs.heap.size∧w.heap.size<fs.heap.size∧f0.heap.size<fs.heap.size∧fs.heap.size≤W.heap.size) (fun⟨i,l,m,vk,xs⟩=>(kn k2).toNat-i) (0,l0-((1:Nat):Int),m1,zN,([]:List Ex)) ⟨rfl,rfl,rfl,rfl,rfl,rfl,rfl,trivial⟩ ⟨ec,(GZ _ 0 _).up<|At<|AY 153 d,c2,ay,az,b0,oM,(by exact Pc.nil ..),(by exact⟨zO,by show _≤n0+8+0;omega⟩),oM,oM,oM,oM⟩ ?_
  clear b0 az ay c2
  rintro⟨i,l,m,vk,xs⟩ ρ114 f2 ⟨a7,a3,ac,a4,a5,a0,ny,hko,hmb,kl,km,ko,kp⟩
  have kq:w.heap.size≤f2.heap.size:=a7.size
  have ly:=a4.lt
  have lz:=a5.lt
  have m0:=a0.lt
  refine A0<|aH [0,0,2,0,0] Z<|Ad 1 Z<|Ak (p:=zP f0.heap.size) 0 Bg Z Z Aa<|Ah (p:=Ao (zP f0.heap.size) 0) (.inr Z) (zI k2) AC Z (a0.ldp (i:=0) sM) Aa<|AA 198 [] [] [zI k2] Z Z UE Aa (zI<|kn k2) (fun wq=>ZY wq _ oM) ?_
  by_cases ck:(i:Int)<kn k2
  ·refine AE true Z Z (A5 ck) Aa<|Aj<|Ag Z<|A2<|A0<|A3<|aH [0,0] Z<|Ac 2 Z<|A0<|aH [0,2,0,0,0,0,0] Z<|Ak (p:=zP f0.heap.size) 0 Bg Z Z Aa<|Ah (p:=Ao (zP f0.heap.size) 0) (.inr Z) (zI k2) AC Z (a0.ldp (i:=0) sM) Aa ?_
   by_cases cl:k2=((9:Nat):Int)
   ·refine Al true Z Z (A5 cl) Aa<|Ad 2 Z ?_
    by_cases cm:(i:Int)=((1:Nat):Int)
    ·refine Al true Z Z (A5 cm) (Ae (e:=99) Z Z Z)<|Ac 1 Z<|Ag Z<|Ab _ [0,0,0] Z<|Ad 1 Z ?_
     refine AN (vars+((1:Nat):Int)) Z Z (Dp sD sD) Aa<|Ac 1 Z ?_
     letI:JR:=QB [gs,gg]
     refine Jx.AQ _ [0,1,0,0,0,0,0,3,3,4,0,4] mixed (by kernel_rfl) ?_
     have htn:=LZ (k:=Hu (d-1)) (i:=i+1) oM
     have hts:Q4 (i+1) (Hu (d-1))=Q4 i (Hu (d-1))+Hu (d-1):=rfl
     have hti:=Nn (k:=LY (d-1)) (i:=i) oM oM
     have hlo:=hko.lo
     have hln:=hko.len
     refine Jx.Ak (p:=zP f0.heap.size) 4 B8 Z Z Aa<|Jx.Z5 (p:=Ao (zP f0.heap.size) 4) vk Bf Z (fun wj hj=>(BX.chg (w:=f2.drew) (F:=[gs,gg]) a0 hj fun hm=>zH<|Do hm).ldp (i:=4) sM) Aa<|Jx.V0 (zP gg) Z Aa<|Jx.V0 (zI (vars+((1:Nat):Int))) Z Aa<|Jx.V0 (zI funcs) Z Aa<|Jx.V0 (zI (d:Int)) Z Aa<|Jx.j1<|BB ((d-1:Nat):Int) Z Z (by rw[Dp oM oM];omega) Aa<|Aj ?_
     refine Jx.Au 124 [] [] [zP gg,zI (vars+((1:Nat):Int)),zI funcs,zI ((d-1:Nat):Int)] Z Z NM Aa (IH1 (d-1) oM _ gg gs sv cs m pp dp l pl p (vars+((1:Nat):Int)) (funcs) oM ac a4 (hp.chg (B7<|AR dp) a7.drew) oM _hfuncs oM oM hpr oM oM oM) ?_
     rintro p6 ff ⟨oj,f7,ol,om,rfl,a8,ed,m2,ee,c3,ef,m3⟩
     refine⟨_,rfl,a8,?_⟩
     replace c3:=c3.low (B':=f2.heap.size)<|A7 _
     replace a8:=a8.of_drew
     have kr:f2.heap.size≤ff.heap.size:=a8.size
     have eg:As [gs,gg] w ff:=a7.trans a8
     have eh:=a3.chg (At<|AY 153 d) a8 fun c hc=>zH<|Do hc
     have ei:=a5.chg a8 fun hm=>zH<|Do hm
     have ej:=a0.chg a8 fun hm=>zH<|Do hm
     refine Jx.Tb Z (Gk (cs:=[zI f7.kind,zI f7.num,zI f7.pick,zI f7.count,oj]) (y:=f7) (B:=f2.heap.size) (AY 153 d) CZ Bm Z (by decide) Z (PY.mk1 oM ef c3) oM Aa fun on fg ai m4 ek=>?_)
     have ks:ff.heap.size≤fg.heap.size:=ai.size
     have el:As [gs,gg] w fg:=eg.ext ai
     have b8:=eh.ext (At<|AY 153 d) ai
     have b9:=ed.ext ai
     have ba:=ee.ext ai
     have bb:=ei.ext ai
     have bc:=ej.ext ai
     refine Jc (v:=vk) (a:=on) (AY 153 d) CZ Bm Z (by decide) Z Z b8 oM ek oM oM oM (by unfold maxLen;omega) Aa fun fv fb p7 al av cn=>?_
     have kt:fg.heap.size≤fb.heap.size:=al.size
     have em:As [gs,gg] w fb:=el.fresh al (fun c hc=>zH<|av _ hc)
     have en:=b9.chg al fun c hc=>zH<|av _ hc
     have eo:=ba.chg al fun hm=>zH<|av _ hm
     have ep:=bb.chg al fun hm=>zH<|av _ hm
     have eq:=bc.chg al fun hm=>zH<|av _ hm
     refine Ak (p:=zP f0.heap.size) 4 B8 Z Z Aa (Bl (k:=4) (w:=fb) Sq Z Z (Bq cn.isSlS) eq sM Aa fun fh am m5 c4=>?_)
     replace c4:BX fh.heap f0.heap.size [zI k2,zI 0,zI 0,zI 0,fv]:=c4
     have ku:fb.heap.size≤fh.heap.size:=am.size
     have er:As [gs,gg] w fh:=em.fresh am (fun _ h=>zE h)
     have es:=en.chg am fun c hc=>zH<|A9 hc
     have et:=eo.chg am (zB ·)
     have eu:=ep.chg am (zB ·)
     have ev:=cn.chg (At<|AY 153 d) am fun _ h=>zA h
     exact Aj<|Ab _ [0,0,0] Z<|Ad 1 Z<|AN ((i+1:Nat):Int) Z Z (Be oM oM) Aa<|Ac 1 Z ⟨(i+1,om,ol,fv,xs++[f7]),_,rfl,zR,⟨er,ev.up<|At<|AY 153 d,es,et,eu,c4,oM,OF,oM,oM,oM,oM,oM⟩,zD⟩
    refine Al false Z Z (A6 cm) (Ae (e:=99) Z Z Z)<|Ac 1 Z<|Ai Z<|A2 ?_
    letI:JR:=QB [gs,gg]
    refine Jx.AQ _ [0,1,0,0,0,0,0,3,3,4,0,4] mixed (by kernel_rfl) ?_
    have htn:=LZ (k:=Hu (d-1)) (i:=i+1) oM
    have hts:Q4 (i+1) (Hu (d-1))=Q4 i (Hu (d-1))+Hu (d-1):=rfl
    have hti:=Nn (k:=LY (d-1)) (i:=i) oM oM
    have hlo:=hko.lo
    have hln:=hko.len
    refine Jx.Ak (p:=zP f0.heap.size) 4 B8 Z Z Aa<|Jx.Z5 (p:=Ao (zP f0.heap.size) 4) vk Bf Z (fun wj hj=>(BX.chg (w:=f2.drew) (F:=[gs,gg]) a0 hj fun hm=>zH<|Do hm).ldp (i:=4) sM) Aa<|Jx.V0 (zP gg) Z Aa<|Jx.V0 (zI vars) Z Aa<|Jx.V0 (zI funcs) Z Aa<|Jx.V0 (zI (d:Int)) Z Aa<|Jx.j1<|BB ((d-1:Nat):Int) Z Z (by rw[Dp oM oM];omega) Aa<|Aj ?_
    refine Jx.Au 124 [] [] [zP gg,zI vars,zI funcs,zI ((d-1:Nat):Int)] Z Z NM Aa (IH1 (d-1) oM _ gg gs sv cs m pp dp l pl p (vars) (funcs) oM ac a4 (hp.chg (B7<|AR dp) a7.drew) _hvars _hfuncs oM oM hpr oM oM oM) ?_
    rintro p8 fi ⟨oo,f8,op,oq,rfl,a9,ew,m6,ey,c5,ez,m7⟩
    refine⟨_,rfl,a9,?_⟩
    replace c5:=c5.low (B':=f2.heap.size)<|A7 _
    replace a9:=a9.of_drew
    have kv:f2.heap.size≤fi.heap.size:=a9.size
    have g0:As [gs,gg] w fi:=a7.trans a9
    have g1:=a3.chg (At<|AY 153 d) a9 fun c hc=>zH<|Do hc
    have g2:=a5.chg a9 fun hm=>zH<|Do hm
    have g3:=a0.chg a9 fun hm=>zH<|Do hm
    refine Jx.Tb Z (Gk (cs:=[zI f8.kind,zI f8.num,zI f8.pick,zI f8.count,oo]) (y:=f8) (B:=f2.heap.size) (AY 153 d) CZ Bm Z (by decide) Z (PY.mk1 oM ez c5) oM Aa fun os fj aj m8 g4=>?_)
    have kw:fi.heap.size≤fj.heap.size:=aj.size
    have g5:As [gs,gg] w fj:=g0.ext aj
    have bd:=g1.ext (At<|AY 153 d) aj
    have be:=ew.ext aj
    have bf:=ey.ext aj
    have bg:=g2.ext aj
    have bh:=g3.ext aj
    refine Jc (v:=vk) (a:=os) (AY 153 d) CZ Bm Z (by decide) Z Z bd oM g4 oM oM oM (by unfold maxLen;omega) Aa fun fw fc p9 an aw co=>?_
    have kx:fj.heap.size≤fc.heap.size:=an.size
    have g6:As [gs,gg] w fc:=g5.fresh an (fun c hc=>zH<|aw _ hc)
    have g7:=be.chg an fun c hc=>zH<|aw _ hc
    have g8:=bf.chg an fun hm=>zH<|aw _ hm
    have g9:=bg.chg an fun hm=>zH<|aw _ hm
    have ga:=bh.chg an fun hm=>zH<|aw _ hm
    refine Ak (p:=zP f0.heap.size) 4 B8 Z Z Aa (Bl (k:=4) (w:=fc) Sq Z Z (Bq co.isSlS) ga sM Aa fun fk ao m9 c6=>?_)
    replace c6:BX fk.heap f0.heap.size [zI k2,zI 0,zI 0,zI 0,fw]:=c6
    have ky:fc.heap.size≤fk.heap.size:=ao.size
    have gb:As [gs,gg] w fk:=g6.fresh ao (fun _ h=>zE h)
    have gc:=g7.chg ao fun c hc=>zH<|A9 hc
    have gd:=g8.chg ao (zB ·)
    have ge:=g9.chg ao (zB ·)
    have gf:=co.chg (At<|AY 153 d) ao fun _ h=>zA h
    exact Aj<|Ab _ [0,0,0] Z<|Ad 1 Z<|AN ((i+1:Nat):Int) Z Z (Be oM oM) Aa<|Ac 1 Z ⟨(i+1,oq,op,fw,xs++[f8]),_,rfl,zR,⟨gb,gf.up<|At<|AY 153 d,gc,gd,ge,c6,oM,OF,oM,oM,oM,oM,oM⟩,zD⟩
   refine Al false Z Z (A6 cl) Aa<|Ac 4 Z<|Ai Z<|A2 ?_
   letI:JR:=QB [gs,gg]
   refine Jx.AQ _ [0,1,0,0,0,0,0,3,3,4,0,4] mixed (by kernel_rfl) ?_
   have htn:=LZ (k:=Hu (d-1)) (i:=i+1) oM
   have hts:Q4 (i+1) (Hu (d-1))=Q4 i (Hu (d-1))+Hu (d-1):=rfl
   have hti:=Nn (k:=LY (d-1)) (i:=i) oM oM
   have hlo:=hko.lo
   have hln:=hko.len
   refine Jx.Ak (p:=zP f0.heap.size) 4 B8 Z Z Aa<|Jx.Z5 (p:=Ao (zP f0.heap.size) 4) vk Bf Z (fun wj hj=>(BX.chg (w:=f2.drew) (F:=[gs,gg]) a0 hj fun hm=>zH<|Do hm).ldp (i:=4) sM) Aa<|Jx.V0 (zP gg) Z Aa<|Jx.V0 (zI vars) Z Aa<|Jx.V0 (zI funcs) Z Aa<|Jx.V0 (zI (d:Int)) Z Aa<|Jx.j1<|BB ((d-1:Nat):Int) Z Z (by rw[Dp oM oM];omega) Aa<|Aj ?_
   refine Jx.Au 124 [] [] [zP gg,zI vars,zI funcs,zI ((d-1:Nat):Int)] Z Z NM Aa (IH1 (d-1) oM _ gg gs sv cs m pp dp l pl p (vars) (funcs) oM ac a4 (hp.chg (B7<|AR dp) a7.drew) _hvars _hfuncs oM oM hpr oM oM oM) ?_
   rintro pa fl ⟨ot,f9,ou,ov,rfl,aa,gh,ma,gi,c7,gj,mb⟩
   refine⟨_,rfl,aa,?_⟩
   replace c7:=c7.low (B':=f2.heap.size)<|A7 _
   replace aa:=aa.of_drew
   have kz:f2.heap.size≤fl.heap.size:=aa.size
   have gk:As [gs,gg] w fl:=a7.trans aa
   have gl:=a3.chg (At<|AY 153 d) aa fun c hc=>zH<|Do hc
   have gm:=a5.chg aa fun hm=>zH<|Do hm
   have gn:=a0.chg aa fun hm=>zH<|Do hm
   refine Jx.Tb Z (Gk (cs:=[zI f9.kind,zI f9.num,zI f9.pick,zI f9.count,ot]) (y:=f9) (B:=f2.heap.size) (AY 153 d) CZ Bm Z (by decide) Z (PY.mk1 oM gj c7) oM Aa fun ow fm ak mc go=>?_)
   have l2:fl.heap.size≤fm.heap.size:=ak.size
   have gp:As [gs,gg] w fm:=gk.ext ak
   have bi:=gl.ext (At<|AY 153 d) ak
   have bj:=gh.ext ak
   have bk:=gi.ext ak
   have bl:=gm.ext ak
   have bm:=gn.ext ak
   refine Jc (v:=vk) (a:=ow) (AY 153 d) CZ Bm Z (by decide) Z Z bi oM go oM oM oM (by unfold maxLen;omega) Aa fun fx fd pb ap ax cp=>?_
   have l3:fm.heap.size≤fd.heap.size:=ap.size
   have gq:As [gs,gg] w fd:=gp.fresh ap (fun c hc=>zH<|ax _ hc)
   have gr:=bj.chg ap fun c hc=>zH<|ax _ hc
   have gt:=bk.chg ap fun hm=>zH<|ax _ hm
   have gu:=bl.chg ap fun hm=>zH<|ax _ hm
   have gv:=bm.chg ap fun hm=>zH<|ax _ hm
   refine Ak (p:=zP f0.heap.size) 4 B8 Z Z Aa (Bl (k:=4) (w:=fd) Sq Z Z (Bq cp.isSlS) gv sM Aa fun fo aq md c8=>?_)
   replace c8:BX fo.heap f0.heap.size [zI k2,zI 0,zI 0,zI 0,fx]:=c8
   have l4:fd.heap.size≤fo.heap.size:=aq.size
   have gw:As [gs,gg] w fo:=gq.fresh aq (fun _ h=>zE h)
   have gx:=gr.chg aq fun c hc=>zH<|A9 hc
   have gy:=gt.chg aq (zB ·)
   have gz:=gu.chg aq (zB ·)
   have i0:=cp.chg (At<|AY 153 d) aq fun _ h=>zA h
   exact Aj<|Ab _ [0,0,0] Z<|Ad 1 Z<|AN ((i+1:Nat):Int) Z Z (Be oM oM) Aa<|Ac 1 Z ⟨(i+1,ov,ou,fx,xs++[f9]),_,rfl,zR,⟨gw,i0.up<|At<|AY 153 d,gx,gy,gz,c8,oM,OF,oM,oM,oM,oM,oM⟩,zD⟩
  refine AE false Z Z (A6 ck) Aa<|Aj<|Ai Z<|A4<|Av<|Av<|Aq<|aH [2,4] Z<|AL (p:=zP f0.heap.size) (.inr Z) [zI k2,zI 0,zI 0,zI 0,vk] B6 Z (fun pi ns=>LD.of_box<|BX.ext (w:=f2) a0 ns) Z Aa (Bw (vs:=[zI k2,zI 0,zI 0,zI 0,vk]) B6 Z Z (by intro u hu;simp only[ze,z2,or_false]at hu;rcases hu with rfl|rfl|rfl|rfl|rfl <;> first|exact⟨rfl,rfl⟩|exact Bq a3.isSlS) a5 Z Z Aa fun fp ar me c9=>?_)
  replace c9:BX fp.heap w.heap.size [zI k2,zI 0,zI 0,zI 0,vk]:=c9
  have l5:f2.heap.size≤fp.heap.size:=ar.size
  have i1:As [gs,gg] w fp:=a7.fresh ar (fun _ h=>zE h)
  have i2:=a3.chg (At<|AY 153 d) ar fun _ h=>zA h
  have i3:=ac.chg ar fun c hc=>zH<|A9 hc
  have i4:=a4.chg ar (zB ·)
  have mf:=a0.chg ar (zB ·)
  refine Aj<|A1 ?_
  have hln:=hko.len
  have htn:=LZ (k:=Hu (d-1)) (i:=i) oM
  exact Co (cs:=[zI k2,zI 0,zI 0,zI 0,vk]) Z B6 Z c9 Z ⟨vk,.mk k2 0 0 0 xs,m,l,rfl,i1,i3,⟨zO,zO⟩,i4,(i2.up<|At<|AY 153 d).low (B':=w.heap.size) oM,KA oM oM oM oM,(by exact hko.node oM oM oM nr (Vn oM oM))⟩
 refine Ag (by first|rfl|exact zW dh)<|aH [0,0,4,4] Z<|Ad 2 Z<|AB 196 [] [] [zP gg,zI vars] Z Z PF Aa (CR _ gg gs sv cs oz pp dp (l0-((1:Nat):Int)) pl p (vars) oM df ce (hp.chg (B7<|AR dp) cd) _hvars oM oM) ?_
 rintro pc fq ⟨f3,ox,rfl,ca,i5,mg,i6,i7,d9,mh⟩
 refine⟨_,rfl,?_⟩
 have l6:f0.heap.size≤fq.heap.size:=ca.size
 have i8:As [gs,gg] w fq:=cd.trans ca
 have i9:=cf.chg ca fun hm=>zH<|Do hm
 refine Bw (vs:=[zI f3.kind,zI f3.num,zI f3.pick,zI f3.count,zN]) B6 Z Z Gy i9 Z Z Aa fun fr b3 mi cb=>?_
 replace cb:BX fr.heap w.heap.size [zI f3.kind,zI f3.num,zI f3.pick,zI f3.count,zN]:=cb
 have l7:fq.heap.size≤fr.heap.size:=b3.size
 have ia:As [gs,gg] w fr:=i8.fresh b3 (fun _ h=>zE h)
 have ib:=i5.chg b3 fun c hc=>zH<|A9 hc
 have ic:=i6.chg b3 (zB ·)
 exact Aj<|A1<|Am<|Co (cs:=[zI f3.kind,zI f3.num,zI f3.pick,zI f3.count,zN]) Z B6 Z cb Z ⟨zN,f3,ox,l0-((1:Nat):Int),rfl,ia,ib,⟨zO,zO⟩,ic,(by rw[d9];exact GZ _ _ _),i7,(by exact Oa.ok (by assumption) d)⟩
theorem X9:∀d,GX d∧(1≤d→GC d):=by
  intro d
  induction d using Nat.strongRecOn with
  |_ d ih =>
    have hc:1≤d→GC d:=fun h1 w gg gs sv cs n0 pp dp l0 pl p vars funcs hgg hs hB0 hp hv' hf' hv hfu hpr hd hn hl=>In w gg gs sv cs n0 pp dp l0 pl p vars funcs d hgg hs hB0 hp hv' hf' hv hfu hpr hd hn hl (ih (d-1) zO).1
    exact⟨fun w gg gs sv cs n0 pp dp l0 pl p vars funcs hgg hs hB0 hp hv' hf' hv hfu hpr hd hn hl=>Io w gg gs sv cs n0 pp dp l0 pl p vars funcs d hgg hs hB0 hp hv' hf' hv hfu hpr hd hn hl (fun d' h=>(ih d' h).1) hc,hc⟩
theorem Xa (d:Nat):GX d:=(X9 d).1
theorem Ip (w:World)(g:Nat)(sv:Value)(cs:List UInt8)(n0:Nat)(vl:Value)(us:List Value)(hs:Ea w.heap g sv cs n0)(a7:n0+2≤1000000000000)(hl:∀w',As [g] w w'→Rd (AX rV) w'.heap vl us)(hus:∀u∈us,∃s,u=Value.string s)(hul:1≤us.length∧us.length≤1000)  :
  Calls Tryz.prog 123 #[zP g,vl] w (fun e w'=>∃(x0:ByteArray) (n1:Nat),e=.returned (.string x0)∧As [g] w w'∧Ea w'.heap g sv cs n1∧(n0≤n1∧n1≤n0+2)∧(Value.string x0∈us)):=by
 refine Ap [zP g,vl] 12 Tryz.func123 Z Z sM ?_
 have a1:As [g] w w:=As.refl [g] w
 have aa:=(hl _ a1).lenle
 have ab:=hs.lt
 refine aI Z<|aH [0,0,0,0,4,0,2,0] Z<|Ad 3 Z<|AO (v:=vl) X0 Z (hl _ a1).isSl Aa<|AB 68 [] [] [zP g,zI (us.length:Int)] Z Z H8 Aa (AU _ g _ _ _ (us.length:Int) hs oM oM oM) ?_
 rintro e1 w1 ⟨a9,n1,rfl,a3,a5,a8,a4⟩
 refine⟨_,rfl,?_⟩
 have a6:w.heap.size≤w1.heap.size:=a3.size
 have a2:As [g] w w1:=a1.trans a3
 refine Az (v:=vl) ((a9).toNat) X0 aP Z Z (hl _ a2).isSl oM sD Aa ?_
 obtain⟨sx2,a0⟩:=hus (us.getD ((a9).toNat) undef) (R4 sD)
 refine Ah (p:=Ax vl ((a9).toNat) 1) (.inr Z) (.string sx2) Om Z (by rw[← a0];exact(Rd.getV (hl _ a2) sD).1) Aa ?_
 have hsm:Value.string sx2∈us:=a0 ▸ R4 sD
 exact Ac 1 Z<|A1<|Af [4] Z (.string sx2) Z ⟨sx2,n1,rfl,a2,a5,⟨zO,zO⟩,hsm⟩
theorem Lc (w:World)(n:Int)(_hn:Bt n)(hk:0≤n∧n<10) :
  Calls Tryz.prog 150 #[zI n] w (fun e w'=>∃s,e=.returned (.string s)∧AG w w'∧s=IJ n.toNat):=by
 refine Ap [zI n] 20 Tryz.func150 Z Z sM ?_
 have a2:AG w w:=AG.refl w
 refine aI Z<|A0<|aH [0,0] Z<|Ad 1 Z ?_
 by_cases a0:n<((10:Nat):Int)
 ·refine AE true Z Z (A5 a0) Aa<|Aj<|Ag Z<|aH [0,0,0,3,2,0] Z<|Ad 1 Z ?_
  refine AN (((48:Nat):Int)+n) Z Z (Dp sD sD) Aa<|J9 (IntKind.u8.wrap (((48:Nat):Int)+n)) u2 u5 Z Z Aa ?_
  refine BI (u:=.int .u8<|IntKind.u8.wrap (((48:Nat):Int)+n)) (B:=w.heap.size) Bs Qk aO Z Z (NS (w.heap.size) (w.heap.size) _ ⟨rfl,rfl⟩) (A7 _) Aa fun v2 w2 a1 a6 a3=>?_
  have a4:=a1.size
  have a5:=a2.trans a1
  exact Te Qk u5 u9 Z a3 Aa<|Ac 1 Z<|A1<|Am<|Af [2] Z (.string (⟨#[UInt8.ofNat (IntKind.u8.wrap (((48:Nat):Int)+n)).toNat]⟩:ByteArray)) Z ⟨(⟨#[UInt8.ofNat (IntKind.u8.wrap (((48:Nat):Int)+n)).toNat]⟩:ByteArray),rfl,a5,(by exact Vr hk.1 hk.2)⟩
 exact absurd hk.2 a0
theorem Ld (w:World)(g:Nat)(sv:Value)(cs:List UInt8)(n0:Nat)(funcs:Int)(nodes:Int)(plain:Bool)(hs:Ea w.heap g sv cs n0)(j0:n0+(150000*funcs.toNat)≤1000000000000)(_hfuncs:Bt funcs)(_hnodes:Bt nodes)(hfn:0≤funcs∧funcs≤9)(hnd:1≤nodes∧nodes≤30) :
  Calls Tryz.prog 67 #[zP g,zI funcs,zI nodes,.bool plain] w (fun e w'=>∃(v:Value) (p:List Fn) (n1:Nat),e=.returned (.agg #[v])∧As [g] w w'∧Ea w'.heap g sv cs n1∧(n0≤n1∧n1≤n0+(150000*funcs.toNat))∧Fr (EI 3 (Qg 153 6) 49) w.heap.size w'.heap.size w'.heap v p∧Li p plain∧Dn p∧(p.length:Int)=funcs):=by
 refine Ap [zP g,zI funcs,zI nodes,.bool plain] 65 Tryz.func67 Z Z sM ?_
 have ga:As [g] w w:=As.refl [g] w
 have j7:=hs.lt
 have j1:=Zl
 have j2:=Zm
 refine aH [3] Z (Bp (z:=.agg #[zN]) Qf Aa fun w1 dr i1 ds=>?_)
 have dt:w.heap.size≤w1.heap.size:=dr.size
 have gb:As [g] w w1:=ga.ext dr
 have du:=hs.ext dr
 replace ds:BX w1.heap w.heap.size [zN]:=ds
 refine Aj<|aH [0,3,4] Z ?_
 have dv:∀(wq:World),(Instr.build 26 #[]).run Tryz.prog wq=.ok (.agg #[zN]) wq:=by intro wq;kernel_rfl
 refine C7 (ps:=#[]) (.agg #[zN]) (by simp only[zc,zf,zh]) (fun wq=>dv  wq) Aa ?_
 have j3:=ds.lt
 refine Bp (z:=.agg #[zN]) Qf Aa fun w3 cb i2 dw=>?_
 have dx:w1.heap.size≤w3.heap.size:=cb.size
 have gc:As [g] w w3:=gb.ext cb
 have dy:=du.ext cb
 have cc:=ds.ext cb
 replace dw:BX w3.heap w1.heap.size [zN]:=dw
 refine Bw (vs:=[zN]) CG Z Z (by intro u hu;simp only[ze,z2,or_false]at hu;rcases hu with rfl <;> first|exact⟨rfl,rfl⟩) dw Z Z Aa fun w5 cd i3 dz=>?_
 replace dz:BX w5.heap w1.heap.size [zN]:=dz
 have i4:w3.heap.size≤w5.heap.size:=cd.size
 have i5:As [g] w w5:=gc.fresh cd (fun _ h=>zE h)
 have gd:=dy.chg cd fun c hc=>zH<|A9 hc
 have ge:=cc.chg cd (zB ·)
 refine Aj<|A0<|aI Z<|A3 ?_
 refine AW (S:=Nat×Value×List Fn×Nat) (fun⟨k,vp,ps,m⟩=>([(10,zI (k:Int)),(0,zP g),(1,zI funcs),(2,zI nodes),(3,.bool plain),(8,zP w.heap.size),(9,zP w1.heap.size)])) (fun⟨k,vp,ps,m⟩ W=>As [g] w W∧Fr (EI 3 (Qg 153 6) 49) w5.heap.size W.heap.size W.heap vp ps∧Ea W.heap g sv cs m∧BX W.heap w.heap.size [zN]∧BX W.heap w1.heap.size [vp]∧(k:Int)≤funcs∧Li ps plain∧Dn ps∧ps.length=k∧(n0≤m∧m≤n0+150000*k)∧(g<w5.heap.size∧w.heap.size≤w5.heap.size)∧w.heap.size<w5.heap.size∧w1.heap.size<w5.heap.size∧w5.heap.size≤W.heap.size) (fun⟨k,vp,ps,m⟩=>funcs.toNat-k) (0,zN,([]:List Fn),n0) ⟨rfl,rfl,rfl,rfl,rfl,rfl,rfl,trivial⟩ ⟨i5,(GZ _ 0 _).up<|At<|AZ 153 6,gd,ge,dz,oM,(by exact Li.nil _),Dn.nil,(by rfl),oM,oM,oM,oM,oM⟩ ?_
 clear ga i1 dr dt gb i2 cb dx gc i3 cd gd ge
 rintro⟨k,vp,ps,m⟩ ρ10 f4 ⟨bx,ab,an,ac,a1,hkf,fb,hdn,hpk,hmk,hgb,i6,i7,gf⟩
 have gg:w.heap.size≤f4.heap.size:=bx.size
 have i8:=ac.lt
 have i9:=a1.lt
 refine A0<|aH [0,0,0] Z<|Ad 2 Z ?_
 by_cases ce:(k:Int)<funcs
 ·refine AE true Z Z (A5 ce) Aa<|Aj<|Ag Z<|A2<|A0<|A3<|aH [0,3,4,0,3,0,0,4,0,0,3,4] Z<|Ad 1 Z (Vs (ys:=[.string<|⟨#[102]⟩,.string<|⟨#[103]⟩,.string<|⟨#[115,116,101,112]⟩,.string<|⟨#[104,50]⟩]) Bs X0 aP Z Z Z Z Z Z (Xs ⟨rfl,rfl⟩ ⟨rfl,rfl⟩ ⟨rfl,rfl⟩ ⟨rfl,rfl⟩) Aa fun fq fh ao e0 bz=>?_)
  have cf:f4.heap.size≤fh.heap.size:=ao.size
  have cg:As [g] w fh:=bx.ext ao
  have a5:=ab.ext (At<|AZ 153 6) ao
  have a6:=an.ext ao
  have a7:=ac.ext ao
  have a8:=a1.ext ao
  refine AB 123 [] [] [zP g,fq] Z Z Y2 Aa (Ip _ g _ _ _ fq _ a6 oM (fun w9 h9=>(bz.chg oV h9 fun c hc=>zH<|A9 hc).rdV1) (by intro u hu;simp only[ze,z2,or_false]at hu;rcases hu with rfl|rfl|rfl|rfl <;> exact⟨_,rfl⟩) sM) ?_
  rintro j8 fi ⟨f1,j9,rfl,ap,e1,ia,c0⟩
  refine⟨_,rfl,?_⟩
  have ch:fh.heap.size≤fi.heap.size:=ap.size
  have ci:As [g] w fi:=cg.trans ap
  have cj:=a5.chg (At<|AZ 153 6) ap fun _ h=>zA h
  have ck:=a7.chg ap (zB ·)
  have cl:=a8.chg ap (zB ·)
  have cm:=bz.chg (oV) ap fun _ h=>zA h
  have hfo:=R7 c0
  refine Ad 1 Z<|Au 150 [] [] [zI (k:Int)] Z Z Y8 Aa (Lc _ (k:Int) oM oM) ?_
  rintro ja fj ⟨st21,rfl,ad,rfl⟩
  refine⟨_,rfl,ad,?_⟩
  have cn:fi.heap.size≤fj.heap.size:=ad.size
  have co:As [g] w fj:=ci.ext ad
  have az:=cj.ext (At<|AZ 153 6) ad
  have bo:=e1.ext ad
  have b0:=ck.ext ad
  have b1:=cl.ext ad
  have b2:=cm.ext (oV) ad
  refine V9 (a:=f1) (b:=IJ k) Z Z (by have:=Q5 _ hfo;have:=R5 k;omega) Aa<|Ad 1 Z<|AB 68 [] [] [zP g,zI ((3:Nat):Int)] Z Z H8 Aa (AU _ g _ _ _ ((3:Nat):Int) bo oM oM sD) ?_
  rintro jb f2 ⟨f0,jc,rfl,aq,e2,ib,e3⟩
  refine⟨_,rfl,?_⟩
  have cp:fj.heap.size≤f2.heap.size:=aq.size
  have cq:As [g] w f2:=co.trans aq
  have cr:=az.chg (At<|AZ 153 6) aq fun _ h=>zA h
  have c1:=b0.chg aq (zB ·)
  have c2:=b1.chg aq (zB ·)
  have ct:=b2.chg (oV) aq fun _ h=>zA h
  refine AN (((1:Nat):Int)+f0) Z Z (Dp sD sD) Aa ?_
  have cu:∀(wq:World),(Instr.build 49 #[(0,.string (f1++IJ k)),(1,zI (((1:Nat):Int)+f0))]).run Tryz.prog wq=.ok (.agg #[.string (f1++IJ k),zI (((1:Nat):Int)+f0),zN]) wq:=by intro wq;kernel_rfl
  refine C7 (ps:=#[(0,.string (f1++IJ k)),(1,zI (((1:Nat):Int)+f0))]) (.agg #[.string (f1++IJ k),zI (((1:Nat):Int)+f0),zN]) (by simp only[zc,zf,zh];rfl) (fun wq=>cu  wq) Aa ?_
  have ic:=c1.lt
  have id:=c2.lt
  refine Bp (z:=.agg #[.string ByteArray.empty,zI 0,zN]) X1 Aa fun fc ag e4 c3=>?_
  have cv:f2.heap.size≤fc.heap.size:=ag.size
  have cw:As [g] w fc:=cq.ext ag
  have b3:=cr.ext (At<|AZ 153 6) ag
  have bp:=e2.ext ag
  have b4:=c1.ext ag
  have b5:=c2.ext ag
  have b6:=ct.ext (oV) ag
  replace c3:BX fc.heap f2.heap.size [.string ByteArray.empty,zI 0,zN]:=c3
  refine Bw (vs:=[.string (f1++IJ k),zI (((1:Nat):Int)+f0),zN]) KW Z Z (by intro u hu;simp only[ze,z2,or_false]at hu;rcases hu with rfl|rfl|rfl <;> first|exact⟨rfl,rfl⟩) c3 Z Z Aa fun fd ah e5 c4=>?_
  replace c4:BX fd.heap f2.heap.size [.string (f1++IJ k),zI (((1:Nat):Int)+f0),zN]:=c4
  have cx:fc.heap.size≤fd.heap.size:=ah.size
  have cy:As [g] w fd:=cw.fresh ah (fun _ h=>zE h)
  have cz:=b3.chg (At<|AZ 153 6) ah fun _ h=>zA h
  have d0:=bp.chg ah fun c hc=>zH<|A9 hc
  have d1:=b4.chg ah (zB ·)
  have d2:=b5.chg ah (zB ·)
  have d3:=b6.chg (oV) ah fun _ h=>zA h
  refine Aj<|aH [0,4,0,0] Z<|Ad 1 Z<|AB 68 [] [] [zP g,zI ((3:Nat):Int)] Z Z H8 Aa (AU _ g _ _ _ ((3:Nat):Int) d0 oM oM sD) ?_
  rintro jd fe ⟨f5,je,rfl,ai,e6,ie,e7⟩
  refine⟨_,rfl,?_⟩
  have d4:fd.heap.size≤fe.heap.size:=ai.size
  have d5:As [g] w fe:=cy.trans ai
  have d6:=cz.chg (At<|AZ 153 6) ai fun _ h=>zA h
  have d7:=d1.chg ai (zB ·)
  have d8:=d2.chg ai (zB ·)
  have d9:=d3.chg (oV) ai fun _ h=>zA h
  have da:=c4.chg ai (zB ·)
  refine AN (((1:Nat):Int)+f5) Z Z (Dp sD sD) Aa<|Ac 1 Z ?_
  refine A0<|JG (S:=Int×Nat) (fun⟨o,m1⟩=>([(12,zI o),(0,zP g),(1,zI funcs),(2,zI nodes),(3,.bool plain),(8,zP w.heap.size),(9,zP w1.heap.size),(10,zI (k:Int)),(11,zP f2.heap.size)])) (fun⟨o,m1⟩ W=>As [g] w W∧Fr (EI 3 (Qg 153 6) 49) w5.heap.size f4.heap.size W.heap vp ps∧Ea W.heap g sv cs m1∧BX W.heap w.heap.size [zN]∧BX W.heap w1.heap.size [vp]∧BX W.heap f2.heap.size [.string (f1++IJ k),zI (((1:Nat):Int)+f0),zN]∧(1≤o∧o≤3)∧(n0≤m1∧m1≤n0+150000*k+8)∧f4.heap.size≤fe.heap.size∧(g<w5.heap.size∧w.heap.size≤w5.heap.size)∧f4.heap.size≤f2.heap.size∧w5.heap.size≤W.heap.size) ?_ ?_
  ·refine aH [0,4] Z<|Ad 1 Z<|AB 122 [] [] [zP g,zI ((2:Nat):Int)] Z Z NL Aa (Cv _ g _ _ _ ((2:Nat):Int) e6 oM oM sD) ?_
   rintro jf fr ⟨fa,fs,rfl,ar,db,ig,e8⟩
   refine⟨_,rfl,?_⟩
   have gh:fe.heap.size≤fr.heap.size:=ar.size
   have dc:As [g] w fr:=d5.trans ar
   have dd:=d6.chg (At<|AZ 153 6) ar fun _ h=>zA h
   have de:=d7.chg ar (zB ·)
   have df:=d8.chg ar (zB ·)
   have ih:=d9.chg (oV) ar fun _ h=>zA h
   have c5:=da.chg ar (zB ·)
   refine Aj ?_
   cases dg:fa
   ·exact Ai (by first|rfl|exact zW dg)<|A2 ⟨(((1:Nat):Int)+f5,fs),_,rfl,zR,⟨dc,dd,db,de,df,c5,oM,oM,oM,oM,oM,oM⟩⟩
   exact Ag (by first|rfl|exact zW dg)<|Ab _ [0,2,0] Z<|Ak (p:=zP f2.heap.size) 1 Ck Z Z Aa<|Ah (p:=Ao (zP f2.heap.size) 1) (.inr Z) (zI (((1:Nat):Int)+f0)) AC Z (c5.ldp (i:=1) sM) Aa<|Ac 1 Z ⟨(((1:Nat):Int)+f0,fs),_,rfl,zR,⟨dc,dd,db,de,df,c5,oM,oM,oM,oM,oM,oM⟩⟩
  clear a1 ac an ab bz e0 ao cf cg a5 a6 a7 a8 ap ch ci cj ck cl cm ad cn co az b0 b1 b2 aq cp cq cr c1 c2 ct e4 ag cv cw b3 b4 b5 b6 e5 ah cx cy cz d0 d1 d2 d3 ai d4 d5 d6 d7 d8 d9 da
  rintro⟨o,m1⟩ ρ43 f6 ⟨dh,bh,bi,au,av,aw,j4,j5,huw,hgb,huf,gi⟩
  have gj:w.heap.size≤f6.heap.size:=dh.size
  have ii:=au.lt
  have ij:=av.lt
  have ik:=aw.lt
  refine A0<|aI Z<|A3 ?_
  refine AW (S:=Nat×Value×List Ex×Nat) (fun⟨i,vo,xs,m2⟩=>([(13,zI (i:Int)),(0,zP g),(1,zI funcs),(2,zI nodes),(3,.bool plain),(8,zP w.heap.size),(9,zP w1.heap.size),(10,zI (k:Int)),(11,zP f2.heap.size),(12,zI o)])) (fun⟨i,vo,xs,m2⟩ W=>As [g] w W∧Fr (EI 5 (OR 153 6) 153) f6.heap.size W.heap.size W.heap vo xs∧Fr (EI 3 (Qg 153 6) 49) w5.heap.size f4.heap.size W.heap vp ps∧Ea W.heap g sv cs m2∧BX W.heap w.heap.size [zN]∧BX W.heap w1.heap.size [vp]∧BX W.heap f2.heap.size [.string (f1++IJ k),zI (((1:Nat):Int)+f0),vo]∧(i:Int)≤o∧R6 ps (((1:Nat):Int)+f0) plain xs i∧(n0≤m2∧m2≤n0+150000*k+8+47770*i)∧f4.heap.size≤f6.heap.size∧(g<w5.heap.size∧w.heap.size≤w5.heap.size)∧f4.heap.size≤f2.heap.size∧w.heap.size<f6.heap.size∧w1.heap.size<f6.heap.size∧f2.heap.size<f6.heap.size∧f6.heap.size≤W.heap.size∧w5.heap.size≤W.heap.size) (fun⟨i,vo,xs,m2⟩=>o.toNat-i) (0,zN,([]:List Ex),m1) ⟨rfl,rfl,rfl,rfl,rfl,rfl,rfl,rfl,rfl,rfl,trivial⟩ ⟨dh,(GZ _ 0 _).up<|At<|AY 153 6,bh,bi,au,av,aw,oM,(by exact R6.nil _ _ _),oM,oM,oM,oM,oM,oM,oM,oM,oM⟩ ?_
  clear aw av au bi bh
  rintro⟨i,vo,xs,m2⟩ ρ58 f3 ⟨c6,bj,bk,bl,ae,a2,a3,hio,hff,j6,huw,hgb,huf,gk,gl,gm,gn,go⟩
  have gp:w.heap.size≤f3.heap.size:=c6.size
  have il:=ae.lt
  have im:=a2.lt
  have io:=a3.lt
  refine A0<|aH [0,0,0] Z<|Ad 2 Z ?_
  by_cases di:(i:Int)<o
  ·refine AE true Z Z (A5 di) Aa<|Aj<|Ag Z<|A2<|A0<|A3<|aH [0,0,0,0,3,0] Z<|Ad 3 Z ?_
   have dj:∀(wq:World),(Instr.build 151 #[(0,zP g),(1,zP w1.heap.size),(2,zI nodes),(3,.bool plain)]).run Tryz.prog wq=.ok (.agg #[zP g,zP w1.heap.size,zI nodes,.bool plain]) wq:=by intro wq;kernel_rfl
   refine C7 (ps:=#[(0,zP g),(1,zP w1.heap.size),(2,zI nodes),(3,.bool plain)]) (.agg #[zP g,zP w1.heap.size,zI nodes,.bool plain]) (by simp only[zc,zf,zh];rfl) (fun wq=>dj  wq) Aa ?_
   have ip:=ae.lt
   have iq:=a2.lt
   have ir:=a3.lt
   refine Bu (cs:=#[zP g,zP w1.heap.size,zI nodes,.bool plain]) Z Aa fun f7 aj is c7=>?_
   have gq:f3.heap.size≤f7.heap.size:=aj.size
   have e9:As [g] w f7:=c6.ext aj
   have b7:=bj.ext (At<|AY 153 6) aj
   have a9:=bk.ext (At<|AZ 153 6) aj
   have b8:=bl.ext aj
   have b9:=ae.ext aj
   have aa:=a2.ext aj
   have a0:=a3.ext aj
   replace c7:BX f7.heap f3.heap.size [zP g,zP w1.heap.size,zI nodes,.bool plain]:=c7
   refine Ac 1 Z ?_
   letI:JR:=QB [g,f3.heap.size]
   refine Jx.AQ _ [0,1,0,0,1,0,3,3,4,0,4] mixed (by kernel_rfl)<|Jx.Ak (p:=zP f2.heap.size) 2 BV Z Z Aa<|Jx.Z5 (p:=Ao (zP f2.heap.size) 2) vo Bf Z (fun wj hj=>(BX.chg (w:=f7.drew) (F:=[g,f3.heap.size]) a0 hj fun hm=>zH<|Do hm).ldp (i:=2) sM) Aa<|Jx.V0 (zP f3.heap.size) Z Aa<|Jx.Ak (p:=zP f2.heap.size) 1 Ck Z Z Aa ?_
   refine Jx.Z5 (p:=Ao (zP f2.heap.size) 1) (zI (((1:Nat):Int)+f0)) AC Z (fun wj hj=>(BX.chg (w:=f7.drew) (F:=[g,f3.heap.size]) a0 hj fun hm=>zH<|Do hm).ldp (i:=1) sM) Aa<|Jx.V0 (zI (k:Int)) Z Aa ?_
   refine Jx.Au 124 [] [] [zP f3.heap.size,zI (((1:Nat):Int)+f0),zI (k:Int),zI ((5:Nat):Int)] Z Z NM Aa (Xa 5 _ f3.heap.size g sv cs m2 (zP w1.heap.size) 6 nodes plain ps (((1:Nat):Int)+f0) (k:Int) oM b8 c7 (RN.box aa (RP.mk'<|RN.of_frF2 a9 fun b hb=>zH<|Do hb) fun hb=>zH<|Do hb) oM oM oM oM fb.gpr oM oM oM) ?_
   rintro jg fk ⟨fv,f9,fw,jh,rfl,a4,ea,it,eb,c8,ec,iu⟩
   refine⟨_,rfl,a4,?_⟩
   replace c8:=c8.low (B':=f7.heap.size)<|A7 _
   replace a4:=a4.of_drew
   have gr:f7.heap.size≤fk.heap.size:=a4.size
   have ed:As [g] w fk:=e9.new2 a4 (List.mem_singleton.2 Z) oM
   have ee:=b7.chg (At<|AY 153 6) a4 fun c hc=>zH<|Do hc
   have ef:=a9.chg (At<|AZ 153 6) a4 fun c hc=>zH<|Do hc
   have eg:=b9.chg a4 fun hm=>zH<|Do hm
   have eh:=aa.chg a4 fun hm=>zH<|Do hm
   have ei:=a0.chg a4 fun hm=>zH<|Do hm
   refine Jx.Tb Z (Gk (cs:=[zI f9.kind,zI f9.num,zI f9.pick,zI f9.count,fv]) (y:=f9) (B:=f7.heap.size) (AY 153 6) CZ Bm Z (by decide) Z (PY.mk1 (d:=6) oM ec c8) oM Aa fun fx fl af iv ej=>?_)
   have gs:fk.heap.size≤fl.heap.size:=af.size
   have ek:As [g] w fl:=ed.ext af
   have bq:=ee.ext (At<|AY 153 6) af
   have br:=ef.ext (At<|AZ 153 6) af
   have bs:=ea.ext af
   have bt:=eg.ext af
   have bu:=eh.ext af
   have bv:=ei.ext af
   have bw:=eb.ext af
   refine Jc (v:=vo) (a:=fx) (AY 153 6) CZ Bm Z (by decide) Z Z bq oM ej oM oM (zH<|hff.len) (by have:=hff.len;unfold maxLen;omega) Aa fun ft ff ji ak ax dk=>?_
   have gt:fl.heap.size≤ff.heap.size:=ak.size
   have el:As [g] w ff:=ek.fresh ak (fun c hc=>zH<|ax _ hc)
   have em:=br.chg (At<|AZ 153 6) ak fun c hc=>zH<|ax _ hc
   have en:=bs.chg ak fun c hc=>zH<|ax _ hc
   have eo:=bt.chg ak fun hm=>zH<|ax _ hm
   have ep:=bu.chg ak fun hm=>zH<|ax _ hm
   have eq:=bv.chg ak fun hm=>zH<|ax _ hm
   have er:=bw.chg ak fun hm=>zH<|ax _ hm
   refine Ak (p:=zP f2.heap.size) 2 BV Z Z Aa (Bl (k:=2) (w:=ff) Sq Z Z (Bq dk.isSlS) eq sM Aa fun fm al iw c9=>?_)
   replace c9:BX fm.heap f2.heap.size [.string (f1++IJ k),zI (((1:Nat):Int)+f0),ft]:=c9
   have gu:ff.heap.size≤fm.heap.size:=al.size
   have es:As [g] w fm:=el.fresh al (fun _ h=>zE h)
   have et:=em.chg (At<|AZ 153 6) al fun _ h=>zA h
   have eu:=en.chg al fun c hc=>zH<|A9 hc
   have ev:=eo.chg al (zB ·)
   have ew:=ep.chg al (zB ·)
   have ix:=er.chg al (zB ·)
   have ex:=dk.chg (At<|AY 153 6) al fun _ h=>zA h
   exact Aj<|Ab _ [0,0,0] Z<|Ad 1 Z<|AN ((i+1:Nat):Int) Z Z (Be oM oM) Aa<|Ac 1 Z ⟨(i+1,ft,xs++[f9],fw),_,rfl,zR,⟨es,ex.up<|At<|AY 153 6,et,eu,ev,ew,c9,oM,(by exact hff.snoc (funcs:=(k:Int)) (d:=5) (l0:=nodes) oM oM oM (by assumption)),oM,oM,oM,oM,oM,oM,oM,oM,oM⟩,zD⟩
  refine AE false Z Z (A6 di) Aa<|Aj<|Ai Z<|A4<|Av<|Av<|Aq<|Ab _ [0,2,2,3,4,0,4] Z<|Ak (p:=zP w1.heap.size) 0 BC Z Z Aa<|Ah (p:=Ao (zP w1.heap.size) 0) (.inr Z) vp C2 Z (a2.ldp (i:=0) sM) Aa<|AL (p:=zP f2.heap.size) (.inr Z) [.string (f1++IJ k),zI (((1:Nat):Int)+f0),vo] KW Z (fun fy ey=>LD.of_box<|BX.ext (w:=f3) a3 ey) Z Aa ?_
  refine Gk (cs:=[.string (f1++IJ k),zI (((1:Nat):Int)+f0),vo]) (y:=Fn.mk (f1++IJ k) (((1:Nat):Int)+f0) xs) (B:=f6.heap.size) (AZ 153 6) GI Cy Z (by decide) Z (PY.mkF (x:=⟨f1++IJ k,((1:Nat):Int)+f0,xs⟩) (Vq (a:=((1:Nat):Int)+f0) oM) bj) oM Aa fun fz fo ay iy ez=>?_
  have gv:f3.heap.size≤fo.heap.size:=ay.size
  have g0:As [g] w fo:=c6.ext ay
  have ba:=bk.ext (At<|AZ 153 6) ay
  have bb:=bl.ext ay
  have bc:=ae.ext ay
  have bd:=a2.ext ay
  have be:=a3.ext ay
  refine Jc (v:=vp) (a:=fz) (AZ 153 6) GI Cy Z (by decide) Z Z ba oM ez oM oM oM (by unfold maxLen;omega) Aa fun fu fg jj bf bm dl=>?_
  have gw:fo.heap.size≤fg.heap.size:=bf.size
  have g1:As [g] w fg:=g0.fresh bf (fun c hc=>zH<|bm _ hc)
  have g2:=bb.chg bf fun c hc=>zH<|bm _ hc
  have g3:=bc.chg bf fun hm=>zH<|bm _ hm
  have g4:=bd.chg bf fun hm=>zH<|bm _ hm
  have g5:=be.chg bf fun hm=>zH<|bm _ hm
  refine Ak (p:=zP w1.heap.size) 0 BC Z Z Aa (Bl (k:=0) (w:=fg) ZU Z Z (Bq dl.isSlS) g4 sM Aa fun fp bg iz ca=>?_)
  replace ca:BX fp.heap w1.heap.size [fu]:=ca
  have gx:fg.heap.size≤fp.heap.size:=bg.size
  have g6:As [g] w fp:=g1.fresh bg (fun _ h=>zE h)
  have g7:=g2.chg bg fun c hc=>zH<|A9 hc
  have g8:=g3.chg bg (zB ·)
  have gy:=g5.chg bg (zB ·)
  have dm:=dl.chg (At<|AZ 153 6) bg fun _ h=>zA h
  refine Aj<|Ab _ [0,0,0] Z<|Ad 1 Z<|AN ((k+1:Nat):Int) Z Z (Be oM oM) Aa<|Ac 1 Z ?_
  exact⟨(k+1,fu,ps++[Fn.mk (f1++IJ k) (((1:Nat):Int)+f0) xs],m2),_,rfl,zR,⟨g6,dm.up (At (AZ 153 6)),g7,g8,ca,oM,(by exact(R6.fn (i:=i) (f:=⟨f1++IJ k,((1:Nat):Int)+f0,xs⟩) fb hdn oM ⟨by show 1≤(((1:Nat):Int)+f0);omega,by show(((1:Nat):Int)+f0)≤3;omega⟩ ⟨zO,zO⟩ hff hfo (by show _=_++IJ ps.length;rw[hpk])).1),(by exact(R6.fn (i:=i) (f:=⟨f1++IJ k,((1:Nat):Int)+f0,xs⟩) fb hdn oM ⟨by show 1≤(((1:Nat):Int)+f0);omega,by show(((1:Nat):Int)+f0)≤3;omega⟩ ⟨zO,zO⟩ hff hfo (by show _=_++IJ ps.length;rw[hpk])).2),(by rw[z4,hpk];rfl),oM,oM,oM,oM,oM⟩,zD⟩
 refine AE false Z Z (A6 ce) Aa<|Aj<|Ai Z<|A4<|Av<|Av<|Aq<|aH [2,4] Z<|AL (p:=zP w1.heap.size) (.inr Z) [vp] CG Z (fun fy ey=>LD.of_box<|BX.ext (w:=f4) a1 ey) Z Aa (Bw (vs:=[vp]) CG Z Z (by intro u hu;simp only[ze,z2,or_false]at hu;rcases hu with rfl <;> first|exact⟨rfl,rfl⟩|exact Bq ab.isSlS) ac Z Z Aa fun f8 am gz bn=>?_)
 replace bn:BX f8.heap w.heap.size [vp]:=bn
 have g9:f4.heap.size≤f8.heap.size:=am.size
 have dn:As [g] w f8:=bx.fresh am (fun _ h=>zE h)
 have dp:=ab.chg (At<|AZ 153 6) am fun _ h=>zA h
 have dq:=an.chg am fun c hc=>zH<|A9 hc
 have i0:=a1.chg am (zB ·)
 exact Aj<|A1<|Co (cs:=[vp]) Z CG Z bn Z ⟨vp,ps,m,rfl,dn,dq,⟨zO,zO⟩,(dp.up<|At<|AZ 153 6).low (B':=w.heap.size) oM,(by exact⟨fb,hdn,zO⟩)⟩
theorem Le (w:World)(g:Nat)(sv:Value)(cs:List UInt8)(n0:Nat)(hs:Ea w.heap g sv cs n0)(ax:n0+500000≤1000000000000)  :
  Calls Tryz.prog 97 #[zP g] w (fun e w'=>∃(v:Value) (p:List Fn) (n1:Nat),e=.returned (.agg #[v])∧As [g] w w'∧Ea w'.heap g sv cs n1∧(n0≤n1∧n1≤n0+500000)∧Fr (EI 3 (Qg 153 6) 49) w.heap.size w'.heap.size w'.heap v p∧(∃pl,Li p pl)∧Dn p∧1≤p.length∧p.length≤3):=by
 refine Ap [zP g] 10 Tryz.func97 Z Z sM ?_
 have ad:As [g] w w:=As.refl [g] w
 have b5:=hs.lt
 refine aH [3] Z (Bp (z:=.agg #[zN]) Qf Aa fun w1 a1 ay a2=>?_)
 have ae:w.heap.size≤w1.heap.size:=a1.size
 have af:As [g] w w1:=ad.ext a1
 have a3:=hs.ext a1
 replace a2:BX w1.heap w.heap.size [zN]:=a2
 refine Aj<|aH [0,0,4,0,0,4,4,4] Z<|Ad 2 Z<|AB 68 [] [] [zP g,zI ((3:Nat):Int)] Z Z H8 Aa (AU _ g _ _ _ ((3:Nat):Int) a3 oM oM sD) ?_
 rintro e2 w2 ⟨b3,n2,rfl,a4,ag,az,a9⟩
 refine⟨_,rfl,?_⟩
 have ah:w1.heap.size≤w2.heap.size:=a4.size
 have ai:As [g] w w2:=af.trans a4
 have aj:=a2.chg a4 (zB ·)
 refine AN (((1:Nat):Int)+b3) Z Z (Dp sD sD) Aa<|Ad 1 Z ?_
 refine AB 122 [] [] [zP g,zI ((4:Nat):Int)] Z Z NL Aa (Cv _ g _ _ _ ((4:Nat):Int) ag oM oM sD) ?_
 rintro e4 w4 ⟨b4,n4,rfl,a5,ak,b0,aa⟩
 refine⟨_,rfl,?_⟩
 have al:w2.heap.size≤w4.heap.size:=a5.size
 have am:As [g] w w4:=ai.trans a5
 have an:=aj.chg a5 (zB ·)
 refine AB 67 [] [] [zP g,zI (((1:Nat):Int)+b3),zI ((14:Nat):Int),.bool b4] Z Z ZN Aa (Ld _ g sv cs n4 (((1:Nat):Int)+b3) ((14:Nat):Int) b4 ak oM oM oM oM oM) ?_
 rintro e6 w6 ⟨v6,p6,n6,rfl,a6,ao,b1,ab,ac⟩
 refine⟨_,rfl,?_⟩
 have ap:w4.heap.size≤w6.heap.size:=a6.size
 have aq:As [g] w w6:=am.trans a6
 have ar:=an.chg a6 (zB ·)
 refine Bw (vs:=[v6]) CG Z Z (by intro u hu;simp only[ze,z2,or_false]at hu;rcases hu with rfl <;> first|exact⟨rfl,rfl⟩|exact Bq ab.isSlS) ar Z Z Aa fun w8 a0 b2 a7=>?_
 replace a7:BX w8.heap w.heap.size [v6]:=a7
 have au:w6.heap.size≤w8.heap.size:=a0.size
 have av:As [g] w w8:=aq.fresh a0 (fun _ h=>zE h)
 have aw:=ao.chg a0 fun c hc=>zH<|A9 hc
 have a8:=ab.chg (At<|AZ 153 6) a0 fun _ h=>zA h
 exact Aj<|A1<|Co (cs:=[v6]) Z CG Z a7 Z ⟨v6,p6,n6,rfl,av,aw,⟨zO,zO⟩,(a8.up<|At<|AZ 153 6).low (B':=w.heap.size) oM,(by refine⟨⟨_,ac.1⟩,ac.2.1,?_⟩;omega)⟩
theorem PQ {p:Prop}(h:p:=by first|omega|exact⟨zO,ha1.2⟩|exact⟨zO,ha2.2⟩):p:=h
theorem Lf {p:Prop}(h:p:=by simp[EP,EQ]):p:=h
theorem JW (w:World)(g:Nat)(sv:Value)(cs:List UInt8)(n0:Nat)(dp:Nat)(vp:Value)(p:List Fn)(hs:Ea w.heap g sv cs n0)(ax:n0+60≤1000000000000)(hp:RN [g] (rP (JY dp)) w.heap vp p)(hdr:Li p false)(hlen:1≤p.length∧p.length≤3) :
  Calls Tryz.prog 98 #[zP g,vp] w (fun e w'=>∃(x0:Int) (x1:Int) (v2:Value) (x2:Sr) (v3:Value) (x3:Sr) (n1:Nat),e=.returned (.tuple #[zI x0,zI x1,v2,v3])∧As [g] w w'∧Ea w'.heap g sv cs n1∧(n0≤n1∧n1≤n0+60)∧(x0=(p.length:Int)-1)∧(0≤x1∧x1<(((p.getD (p.length-1) Fn.zero).outs.length:Nat):Int))∧Fr (Bi rI 2) w.heap.size w'.heap.size w'.heap v2 x2∧((x2.length:Int)=(p.getD (p.length-1) Fn.zero).params∧B2 x2=true)∧Fr (Bi rI 2) w.heap.size w'.heap.size w'.heap v3 x3∧((x3.length:Int)=(p.getD (p.length-1) Fn.zero).params∧B2 x3=true)):=by
 refine Ap [zP g,vp] 53 Tryz.func98 Z Z sM ?_
 have a2:As [g] w w:=As.refl [g] w
 have b4:=hs.lt
 have hpa:=hdr.par (p.length-1) oM
 have b5:=hdr.outs (p.length-1) oM
 refine aH [0,0,0,0] Z<|Ac 4 Z<|aH [0,0,0,2,0,0,0] Z<|Ad 1 Z<|AM (hp.isPtr) Z Aa ?_
 obtain⟨cs1,al,a1⟩:=RN.at (AR _) hp
 obtain⟨a0,rfl,a3⟩:=RPr.of al
 have ae:=a3.lenle
 unfold maxLen at ae
 refine AI (p:=vp) 0 BC Z (a1 _ a2) Aa<|Ah (p:=Ao vp 0) (.inr Z) a0 C2 Z ((a1 _ a2).ld (i:=0) Lf) Aa<|AO (v:=a0) GI Z a3.isSl Aa<|BB ((p.length-1:Nat):Int) Z Z (by rw[Dp oM oM];omega) Aa<|Ac 1 Z<|aH [0,0,0,0,2,0,0,0,2,0,4,0] Z<|Ad 2 Z<|AM (hp.isPtr) Z Aa<|AI (p:=vp) 0 BC Z (a1 _ a2) Aa<|Ah (p:=Ao vp 0) (.inr Z) a0 C2 Z ((a1 _ a2).ld (i:=0) Lf) Aa<|Ad 1 Z ?_
 refine Az (v:=a0) (p.length-1) GI Cy Z Z a3.isSl Z sD Aa ?_
 obtain⟨cs2,am,a4⟩:=a3.get (Ay dp) Fn.zero (k:=p.length-1) sD
 obtain⟨ah,rfl,ad⟩:=RF.of am
 have af:=ad.rn.lenle
 unfold maxLen at af
 refine AI (p:=Ax a0 (p.length-1) 3) 2 BV Z (a4 _ a2) Aa<|Ah (p:=Ao (Ax a0 (p.length-1) 3) 2) (.inr Z) ah Bf Z ((a4 _ a2).ld (i:=2) Lf) Aa<|AO (v:=ah) CZ Z ad.rn.isSl Aa<|AB 68 [] [] [zP g,zI ((((p.getD (p.length-1) Fn.zero).outs).length:Nat):Int)] Z Z H8 Aa (AU _ g _ _ _ ((((p.getD (p.length-1) Fn.zero).outs).length:Nat):Int) hs oM oM oM) ?_
 rintro e3 w3 ⟨b1,n3,rfl,ai,an,ay,aj⟩
 refine⟨_,rfl,?_⟩
 have ao:w.heap.size≤w3.heap.size:=ai.size
 have a5:As [g] w w3:=a2.trans ai
 refine Ac 1 Z<|aH [0,0,0,0,2,0,0,0,2,4,0] Z<|Ad 2 Z<|AM (hp.isPtr) Z Aa<|AI (p:=vp) 0 BC Z (a1 _ a5) Aa<|Ah (p:=Ao vp 0) (.inr Z) a0 C2 Z ((a1 _ a5).ld (i:=0) Lf) Aa<|Ad 1 Z<|Az (v:=a0) (p.length-1) GI Cy Z Z a3.isSl Z sD Aa<|AI (p:=Ax a0 (p.length-1) 3) 1 Ck Z (a4 _ a5) Aa ?_
 refine Ah (p:=Ao (Ax a0 (p.length-1) 3) 1) (.inr Z) (zI<|(p.getD (p.length-1) Fn.zero).params) AC Z ((a4 _ a5).ld (i:=1) Lf) Aa<|AB 69 [] [] [zP g,zI<|(p.getD (p.length-1) Fn.zero).params] Z Z VX Aa (Fe _ g _ _ _ ((p.getD (p.length-1) Fn.zero).params) an oM ad.rng oM) ?_
 rintro e4 w4 ⟨a6,b2,n4,rfl,ak,ap,az,a7,a8⟩
 refine⟨_,rfl,?_⟩
 have aq:w3.heap.size≤w4.heap.size:=ak.size
 have a9:As [g] w w4:=a5.trans ak
 have ha1:=a8
 refine Ac 1 Z<|aH [0,0,0,0,2,0,0,0,2,4,0] Z<|Ad 2 Z<|AM (hp.isPtr) Z Aa<|AI (p:=vp) 0 BC Z (a1 _ a9) Aa<|Ah (p:=Ao vp 0) (.inr Z) a0 C2 Z ((a1 _ a9).ld (i:=0) Lf) Aa<|Ad 1 Z<|Az (v:=a0) (p.length-1) GI Cy Z Z a3.isSl Z sD Aa<|AI (p:=Ax a0 (p.length-1) 3) 1 Ck Z (a4 _ a9) Aa ?_
 refine Ah (p:=Ao (Ax a0 (p.length-1) 3) 1) (.inr Z) (zI<|(p.getD (p.length-1) Fn.zero).params) AC Z ((a4 _ a9).ld (i:=1) Lf) Aa<|AB 69 [] [] [zP g,zI<|(p.getD (p.length-1) Fn.zero).params] Z Z VX Aa (Fe _ g _ _ _ ((p.getD (p.length-1) Fn.zero).params) ap oM ad.rng oM) ?_
 rintro e5 w5 ⟨aa,b3,n5,rfl,ag,ar,b0,ab,ac⟩
 refine⟨_,rfl,?_⟩
 have au:w4.heap.size≤w5.heap.size:=ag.size
 have av:As [g] w w5:=a9.trans ag
 have aw:=a7.chg (o1) ag fun _ h=>zA h
 have ha2:=ac
 exact Ac 1 Z<|aH [0,0,0,0,0,0,0,0] Z<|Ac 8 Z<|A1<|Af [4,5,6,7] Z (.tuple #[zI ((p.length-1:Nat):Int),zI b1,a6,aa]) Z ⟨((p.length-1:Nat):Int),b1,a6,b2,aa,b3,n5,rfl,av,ar,⟨zO,zO⟩,PQ,PQ,(aw.up o1).low (B':=w.heap.size) oM,PQ,(ab.up o1).low (B':=w.heap.size) oM,PQ⟩
theorem LC (w:World)(vc:Value)(cs:List UInt8)(hcs:Rd (AX rU) w.heap vc cs)  :
  Calls Tryz.prog 26 #[vc] w (fun e w'=>∃(v va vb:Value) (p:List Fn) (f pk:Int) (a b:Sr),e=.returned (.tuple #[.agg #[v],zI f,zI pk,va,vb])∧AG w w'∧Fr (EI 3 (Qg 153 6) 49) w.heap.size w'.heap.size w'.heap v p∧Fr (Bi rI 2) w.heap.size w'.heap.size w'.heap va a∧Fr (Bi rI 2) w.heap.size w'.heap.size w'.heap vb b∧XL p f pk a b):=by
 refine Ap [vc] 29 Tryz.func26 Z Z sM ?_
 have b7:AG w w:=AG.refl w
 have c0:=hcs.lenle
 refine aH [3,0,0,0,0] Z (Bp (z:=.agg #[zN]) Qf Aa fun w1 ay bo an=>?_)
 have b8:=ay.size
 have az:=b7.trans ay
 replace an:BX w1.heap w.heap.size [zN]:=an
 refine Ac 4 Z<|aH [0,3,0] Z<|Ad 1 Z<|Au 66 [] [] [vc] Z Z XV Aa (Hi _ _ _<|hcs.ext D5 az) ?_
 rintro e2 w2 ⟨gB2,rfl,al,b0,bp⟩
 refine⟨_,rfl,al,?_⟩
 have b9:=al.size
 have b1:=az.trans al
 have ac:=an.ext al
 refine Ac 1 Z<|aH [0,4,3,4] Z ?_
 have c2:=b0.lt
 refine Ad 1 Z<|AB 97 [] [] [zP gB2] Z Z ZP Aa (Le _ gB2 vc cs 0 b0 oM) ?_
 rintro e3 w3 ⟨v3,p3,n3,rfl,ao,ba,bq,bb,bc⟩
 refine⟨_,rfl,?_⟩
 have bd:w2.heap.size≤w3.heap.size:=ao.size
 have be:AG w w3:=ao.below b1 (fun _ h=>zE h) b1.size
 have b2:=ac.chg ao (zB ·)
 obtain⟨⟨pl0,ap⟩,hdn,hpl⟩:=bc
 have c1:=ap.npl
 have br:=b2.lt
 refine Bp (z:=.agg #[zN]) Qf Aa fun w5 ad bs aq=>?_
 have bf:=ad.size
 have b3:=be.trans ad
 have ae:=b2.ext ad
 have af:=ba.ext ad
 have a4:=bb.ext (At<|AZ 153 6) ad
 replace aq:BX w5.heap w3.heap.size [zN]:=aq
 refine Bw (vs:=[v3]) CG Z Z (by intro u hu;simp only[ze,z2,or_false]at hu;rcases hu with rfl <;> first|exact⟨rfl,rfl⟩|exact Bq a4.isSlS) aq Z Z Aa fun w7 ag bt am=>?_
 replace am:BX w7.heap w3.heap.size [v3]:=am
 have bg:w5.heap.size≤w7.heap.size:=ag.size
 have b4:AG w w7:=ag.below b3 (fun _ h=>zE h) b3.size
 have bh:=ae.chg ag (zB ·)
 have bi:=af.chg ag fun c hc=>zH<|A9 hc
 have ah:=a4.chg (At<|AZ 153 6) ag fun _ h=>zA h
 refine Aj<|aH [0,4,0,0,0,0,0,0,0,0,0] Z<|Ad 1 Z<|AB 98 [] [] [zP gB2,zP w3.heap.size] Z Z ZQ Aa (JW _ gB2 _ _ _ 6 (zP w3.heap.size) p3 bi oM (RN.box am (RP.mk'<|RN.of_frF2 ah fun b hb=>zH<|A9 hb) fun hb=>zH<|A9 hb) c1 oM) ?_
 rintro c3 bx ⟨bn,bu,a0,bv,a1,bw,c4,rfl,a3,bj,bk,a5,a6,a7,a8,a9,aa⟩
 refine⟨_,rfl,?_⟩
 have b5:w7.heap.size≤bx.heap.size:=a3.size
 have ai:AG w bx:=a3.below b4 (fun _ h=>zE h) b4.size
 have ar:=bh.chg a3 (zB ·)
 have aj:=ah.chg (At<|AZ 153 6) a3 fun _ h=>zA h
 have ak:=am.chg a3 (zB ·)
 have h0:=a5
 have h1:=a6
 have h2:=a8
 have h3:=aa
 have hft:bn.toNat=p3.length-1:=by omega
 refine Ad 1 Z<|AP (vs:=[zI bn,zI bu,a0,a1]) (zI bn) Z Z Aa<|AP (vs:=[zI bn,zI bu,a0,a1]) (zI bu) Z Z Aa<|AP (vs:=[zI bn,zI bu,a0,a1]) a0 Z Z Aa<|AP (vs:=[zI bn,zI bu,a0,a1]) a1 Z Z Aa<|Ac 4 Z<|aH [2,0,0,0,0,4,0,0,0,0] Z<|AL (p:=zP w3.heap.size) (.inr Z) [v3] CG Z (fun c5 bl=>LD.of_box<|BX.ext (w:=bx) ak bl) Z Aa<|Ad 4 Z ?_
 refine Bw (vs:=[v3]) CG Z Z (by intro u hu;simp only[ze,z2,or_false]at hu;rcases hu with rfl <;> first|exact⟨rfl,rfl⟩|exact Bq aj.isSlS) ar Z Z Aa fun bz a2 bm ab=>?_
 replace ab:BX bz.heap w.heap.size [v3]:=ab
 have b6:bx.heap.size≤bz.heap.size:=a2.size
 have au:AG w bz:=a2.below ai (fun _ h=>zE h) ai.size
 have av:=aj.chg (At<|AZ 153 6) a2 fun _ h=>zA h
 have aw:=a7.chg (o1) a2 fun _ h=>zA h
 have ax:=a9.chg (o1) a2 fun _ h=>zA h
 exact Ac 4 Z<|A1<|Ji (t0:=3) (ts:=[4,5,6]) (cs:=[v3]) [zI bn,zI bu,a0,a1] Z CG Z ab Z Z ⟨v3,a0,a1,p3,bn,bu,bv,bw,rfl,au,(av.up<|At<|AZ 153 6).low (B':=w.heap.size) oM,(aw.up o1).low (B':=w.heap.size) oM,(ax.up o1).low (B':=w.heap.size) oM,(by exact⟨c1,hdn,zO,h0,by rw[hft];exact h1,by rw[hft];exact h2,by rw[hft];exact h3⟩)⟩
theorem ZZ {p:List Fn}{f:Int}{a d:Sr}(h:G3 p f≠0):G3 p f=Lj p f a d:=by unfold Lj;rw[if_neg h]
theorem aA {p:List Fn}{f:Int}{a d:Sr}(h:G3 p f=0)(h2:(decide (((a.length:Nat):Int)=(p.getD f.toNat Fn.zero).params) && B2 a)=false):2=Lj p f a d:=by unfold Lj;rw[if_pos h,h2];rfl
theorem aB {p:List Fn}{f:Int}{a d:Sr}(h:G3 p f=0)(h2:(decide (((d.length:Nat):Int)=(p.getD f.toNat Fn.zero).params) && B2 d)=false):2=Lj p f a d:=by unfold Lj;rw[if_pos h,h2,Bool.and_false];rfl
theorem aC {p:List Fn}{f:Int}{a d:Sr}(h:G3 p f=0)(h1:(decide (((a.length:Nat):Int)=(p.getD f.toNat Fn.zero).params) && B2 a)=true)(h2:(decide (((d.length:Nat):Int)=(p.getD f.toNat Fn.zero).params) && B2 d)=true):G3 p f=Lj p f a d:=by unfold Lj;rw[if_pos h,h1,h2];exact h
theorem MS {p:Prop}(h:p:=by first|exact ZZ oM|exact aA oM (GQ (by assumption))|exact aB oM (GQ (by assumption))|exact aC oM (EZ (by assumption)) (EZ (by assumption))):p:=h
theorem LE (w:World)(dp:Nat)(vp:Value)(p:List Fn)(f:Int)(va:Value)(a:Sr)(vd:Value)(d:Sr)(hp:RP [] dp w.heap vp p)(_hf:Bt f)(ha:Rd (AX rI) w.heap va a)(hd:Rd (AX rI) w.heap vd d)(hz:Qh p) :
  Calls Tryz.prog 103 #[(.agg #[vp]),zI f,va,vd] w (fun e w'=>e=.returned (zI (Lj p f a d))∧AG w w'):=by
 refine Ap [.agg #[vp],zI f,va,vd] 38 Tryz.func103 Z Z sM ?_
 have ag:AG w w:=AG.refl w
 have ar:=hp.lenle
 unfold maxLen at ar
 have au:=ha.lenle
 have av:=hd.lenle
 refine aH [3,0] Z (Bu (cs:=#[vp]) Z Aa fun w1 ab an a4=>?_)
 have ah:=ab.size
 have ac:=ag.trans ab
 replace a4:BX w1.heap w.heap.size [vp]:=a4
 refine Ac 1 Z<|aH [2,0,3,0] Z<|AL (p:=zP w.heap.size) (.inr Z) [vp] CG Z (fun aw ai=>LD.of_box<|BX.ext (w:=w1) a4 ai) Z Aa<|Ad 1 Z<|Au 100 [] [] [.agg #[vp],zI f] Z Z Ur Aa (HV _ dp vp (p) _ (hp.ext (An<|Ay dp) ac) _hf hz) ?_
 rintro e2 w2 ⟨rfl,a5⟩
 refine⟨_,rfl,a5,?_⟩
 have aj:=a5.size
 have a1:=ac.trans a5
 have a0:=a4.ext a5
 refine Ac 1 Z<|A0<|aH [0,0,0,0,0,2,0,0,0,2,3,0,0,0,0,2,0,0,0,2,3,0,0,0] Z<|Ad 1 Z ?_
 by_cases ad:G3 p f=((0:Nat):Int)
 ·refine Al true Z Z (A5 ad) Aa<|Ad 2 Z ?_
  have ao:=Pj (p:=p) (f:=f) oM
  refine Ak (p:=zP w.heap.size) 0 BC Z Z (Ae (e:=15) Z Z Z)<|Ah (p:=Ao (zP w.heap.size) 0) (.inr Z) vp C2 Z (a0.ldp (i:=0) sM) (Ae (e:=15) Z Z Z)<|Ad 1 Z<|Az (v:=vp) ((f).toNat) GI Cy Z Z hp.isSl oM sD (Ae (e:=15) Z Z Z) ?_
  obtain⟨cs4,ak,a6⟩:=hp.get (Ay dp) Fn.zero (k:=(f).toNat) sD
  obtain⟨ap,rfl,a8⟩:=RF.of ak
  have a9:=a8.rn.lenle
  unfold maxLen at a9
  refine AI (p:=Ax vp ((f).toNat) 3) 1 Ck Z (a6 _<|As.of_ext [] a1) (Ae (e:=15) Z Z Z)<|Ah (p:=Ao (Ax vp ((f).toNat) 3) 1) (.inr Z) (zI<|(p.getD ((f).toNat) Fn.zero).params) AC Z ((a6 _<|As.of_ext [] a1).ld (i:=1) (by simp[EP,EQ])) (Ae (e:=15) Z Z Z)<|Au 86 [] [] [va,zI<|(p.getD ((f).toNat) Fn.zero).params] Z Z Sf (Ae (e:=15) Z Z Z) (Cu _ _ _ _ (ha.ext g1 a1) a8.rng) ?_
  rintro e5 w5 ⟨rfl,a7⟩
  refine⟨_,rfl,a7,?_⟩
  have al:=a7.size
  have a2:=a1.trans a7
  have a3:=a0.ext a7
  refine Br (!(decide ((a.length:Int)=((p.getD ((f).toNat) Fn.zero).params)) && B2 a)) Z Z (Ae (e:=15) Z Z Z)<|Ad 1 Z ?_
  cases aq:(!(decide ((a.length:Int)=((p.getD ((f).toNat) Fn.zero).params)) && B2 a))
  ·refine Ad 1 Z<|Ak (p:=zP w.heap.size) 0 BC Z Z (Ae (e:=25) Z Z Z)<|Ah (p:=Ao (zP w.heap.size) 0) (.inr Z) vp C2 Z (a3.ldp (i:=0) sM) (Ae (e:=25) Z Z Z)<|Ad 1 Z<|Az (v:=vp) ((f).toNat) GI Cy Z Z hp.isSl oM sD (Ae (e:=25) Z Z Z) ?_
   refine AI (p:=Ax vp ((f).toNat) 3) 1 Ck Z (a6 _<|As.of_ext [] a2) (Ae (e:=25) Z Z Z)<|Ah (p:=Ao (Ax vp ((f).toNat) 3) 1) (.inr Z) (zI<|(p.getD ((f).toNat) Fn.zero).params) AC Z ((a6 _<|As.of_ext [] a2).ld (i:=1) (by simp[EP,EQ])) (Ae (e:=25) Z Z Z)<|Au 86 [] [] [vd,zI<|(p.getD ((f).toNat) Fn.zero).params] Z Z Sf (Ae (e:=25) Z Z Z) (Cu _ _ _ _ (hd.ext g1 a2) a8.rng) ?_
   rintro e7 w7 ⟨rfl,aa⟩
   refine⟨_,rfl,aa,?_⟩
   have am:=aa.size
   have ae:=a2.trans aa
   refine Br (!(decide ((d.length:Int)=((p.getD ((f).toNat) Fn.zero).params)) && B2 d)) Z Z (Ae (e:=25) Z Z Z)<|Ac 2 Z ?_
   cases af:(!(decide ((d.length:Int)=((p.getD ((f).toNat) Fn.zero).params)) && B2 d))
   ·exact Ai (by first|rfl|exact zW af)<|A2<|aH [0,0] Z<|Ac 2 Z<|A1<|Af [8] Z (zI<|G3 p f) Z ⟨B1 MS,ae⟩
   exact Ag (by first|rfl|exact zW af)<|Ab _ [0] Z<|Ac 1 Z<|aH [0,0] Z<|Ac 2 Z<|A1<|Af [8] Z (zI ((2:Nat):Int)) Z ⟨B1 MS,ae⟩
  exact Ac 11 Z<|Ag Z<|Ab _ [0] Z<|Ac 1 Z<|aH [0,0] Z<|Ac 2 Z<|A1<|Af [8] Z (zI ((2:Nat):Int)) Z ⟨B1 MS,a2⟩
 exact Al false Z Z (A6 ad) Aa<|Ac 22 Z<|Ai Z<|A2<|aH [0,0] Z<|Ac 2 Z<|A1<|Af [8] Z (zI<|G3 p f) Z ⟨B1 MS,a1⟩
theorem PR (w:World)(n:Nat)(vp:Value)(ps:Sr)(_hn:n≤1000000000000)(hps:Rd (AX rI) w.heap vp ps)(hn:n≤1000)(hk:∀j,j<ps.length→0≤ps.getD j 0∧ps.getD j 0<(n:Int)) :
  Calls Tryz.prog 182 #[zI (n:Int),vp] w (fun e w'=>∃v0:Value,e=.returned (v0)∧AG w w'∧Fr (Bi rI 2) w.heap.size w'.heap.size w'.heap v0 (Cs n ps ps.length)):=by
 refine Ap [zI (n:Int),vp] 27 Tryz.func182 Z Z sM ?_
 have a4:AG w w:=AG.refl w
 have ah:=hps.lenle
 refine aI Z<|aH [0,3,0] Z<|Ad 1 Z (EL (n:=n) Bj Bz Z Z Z sD Aa fun v1 w1 a2 aa a5=>?_)
 have a3:=a2.size
 have a6:=a4.trans a2
 refine Ac 1 Z<|A0<|aH [0,0,0] Z<|Ad 1 Z<|AO (v:=vp) Bj Z hps.isSl Aa<|Ac 1 Z<|A3<|AW (S:=Nat) (fun j=>([(12,zI (j:Int)),(5,v1),(10,vp),(11,zI (ps.length:Int))])) (fun j W=>AG w W∧Fr (Bi rI 2) w.heap.size W.heap.size W.heap v1 (Cs n ps j)∧j≤ps.length) (fun j=>ps.length-j) 0 ⟨rfl,rfl,rfl,rfl,trivial⟩ ⟨a6,(by exact a5.up o1),oM⟩ ?_
 clear a4 a5 aa a2 a3 a6
 rintro j ρ2 w2 ⟨a1,a0,a7⟩
 have ab:w.heap.size≤w2.heap.size:=a1.size
 have hul:=IP n ps j
 refine aH [0] Z ?_
 by_cases a8:(j:Int)<(ps.length:Int)
 ·refine AE true Z Z (A5 a8) Aa<|Aj<|A0<|Ag Z<|A2<|A0<|A3<|aH [0,2,0] Z ?_
  have hkj:=hk j oM
  refine Az (v:=vp) j Bj Bz Z Z hps.isSl Z sD Aa ?_
  refine Ah (p:=Ax vp j 1) (.inr Z) (zI<|ps.getD j 0) AC Z (Bc a1 (hps.getI sD).1) Aa<|Ac 1 Z<|Ab _ [0,0,0,0,0,2,0,0,0,4] Z<|Ad 4 Z ?_
  refine Az (v:=v1) ((ps.getD j 0).toNat) Bj Bz Z Z a0.isSl oM sD Aa ?_
  refine Ah (p:=Ax v1 ((ps.getD j 0).toNat) 1) (.inr Z) (zI<|(Cs n ps j).getD ((ps.getD j 0).toNat) 0) AC Z (a0.rd1.getI sD).1 Aa ?_
  have hgn:=BY (H7 n ps j) (ps.getD j 0).toNat
  refine AN (((Cs n ps j).getD ((ps.getD j 0).toNat) 0)+((1:Nat):Int)) Z Z (Dp sD sD) Aa ?_
  refine DB (md (((Cs n ps j).getD ((ps.getD j 0).toNat) 0)+((1:Nat):Int))) Z Z (by decide) (Int.tmod_eq_emod_of_nonneg oM) Aa<|Az (v:=v1) ((ps.getD j 0).toNat) Bj Bz Z Z a0.isSl oM sD Aa ?_
  refine Fz (v:=v1) (w:=w2) GH Z Z (E3 _) a0 sD Aa fun w4 F4 a9 ag ac ad=>?_
  have ae:AG w w4:=a9.below a1 (fun c hc=>A8 (A7 _) (ac c hc).1) a1.size
  have af:w2.heap.size≤w4.heap.size:=a9.size
  exact Aj<|Ab _ [0,0] Z<|AN ((j+1:Nat):Int) Z Z (Be oM sD) Aa<|Ac 1 Z ⟨j+1,_,rfl,zR,⟨ae,(by exact ad.up o1),oM⟩,zD⟩
 exact AE false Z Z (A6 a8) Aa<|Aj<|A0<|Ai Z<|A4<|Av<|Av<|Aq<|aH [0,0] Z<|Ac 2 Z<|A1<|Af [4] Z v1 Z ⟨v1,rfl,a1,(by have h:=a0.up o1;rw[show j=ps.length from by omega]at h;exact h)⟩
theorem SN {p:Prop}(h:p:=by unfold maxLen;first|omega|assumption|(simp only[zb,z9,z4,z6,z5];omega)|(simp[zb,z9,z4,z6,z5];done)|(simp[zb,z9,z4,z6,z5];omega)):p:=h
theorem Hl (w:World)(dp:Nat)(vp:Value)(p:List Fn)(f:Int)(va:Value)(a:Sr)(vd:Value)(d:Sr)(o:Nat)(hp:RP [] dp w.heap vp p)(_hf:Bt f)(ha:Rd (AX rI) w.heap va a)(hd:Rd (AX rI) w.heap vd d)(hvp:HE p)(hf:0≤f∧f<(p.length:Int))(hl:(a.length:Int)=(p.getD f.toNat Fn.zero).params)(hld:d.length=a.length)(hna:B2 a=true)(hnd:B2 d=true)(ho:o≤12) :
  Calls Tryz.prog 214 #[(.agg #[vp]),zI f,va,vd,zI (o:Int)] w (fun e w'=>∃v0:Value,e=.returned (.tuple #[v0,zI (HR p (o+1) f.toNat (Cc a d (o+1)))])∧AG w w'∧Fr (Bi (Bi rI 2) 27) w.heap.size w'.heap.size w'.heap v0 (J6 p (o+1) f.toNat (Cc a d (o+1)))∧R2 p (o+1) f.toNat (Cc a d (o+1))):=by
 refine Ap [.agg #[vp],zI f,va,vd,zI (o:Int)] 57 Tryz.func214 Z Z sM ?_
 have bg:AG w w:=AG.refl w
 have c9:=hp.lenle
 unfold maxLen at c9
 have ca:=ha.lenle
 have cb:=hd.lenle
 have cl:=hvp.par f.toNat oM
 refine aH [3,0,0] Z (Bu (cs:=#[vp]) Z Aa fun w1 ay bt az=>?_)
 have bu:=ay.size
 have b0:=bg.trans ay
 replace az:BX w1.heap w.heap.size [vp]:=az
 refine Ac 2 Z<|aH [3,0] Z (Ch (Bi rI 2) o1 BH B9 Aa fun v2 w2 au bv bh=>?_)
 have b1:=au.size
 have bi:=b0.trans au
 have ai:=az.ext au
 refine Ac 1 Z<|A0<|aH [0,0,0] Z<|Ad 1 Z<|AO (v:=va) Bj Z ha.isSl Aa<|Ac 1 Z<|A3 ?_
 refine AW (S:=Nat×Value) (fun⟨k,vo⟩=>([(12,vo),(22,zI (k:Int)),(1,zI f),(3,vd),(4,zI (o:Int)),(5,zP w.heap.size),(20,va),(21,zI (a.length:Int))])) (fun⟨k,vo⟩ W=>AG w W∧Fr (Bi (Bi rI 2) 27) w1.heap.size W.heap.size W.heap vo ((Cc a d (o+1)).take k)∧BX W.heap w.heap.size [vp]∧k≤a.length∧w.heap.size<w1.heap.size∧w1.heap.size≤W.heap.size) (fun⟨k,vo⟩=>a.length-k) (0,v2) ⟨rfl,rfl,rfl,rfl,rfl,rfl,rfl,rfl,trivial⟩ ⟨bi,bh.up o2,ai,oM,oM,oM⟩ ?_
 clear bg bt ay bh bv au b1 bi
 rintro⟨k,vo⟩ ρ4 w4 ⟨ac,ad,a1,bj,bw,bx⟩
 have bz:w.heap.size≤w4.heap.size:=ac.size
 have c6:=a1.lt
 refine aH [0] Z ?_
 by_cases bk:(k:Int)<(a.length:Int)
 ·refine AE true Z Z (A5 bk) Aa<|Aj<|A0<|Ag Z<|A2<|A0<|A3<|aH [0,0,2,0,0] Z<|Ad 1 Z<|Az (v:=va) k Bj Bz Z Z ha.isSl Z sD Aa ?_
  refine Ah (p:=Ax va k 1) (.inr Z) (zI<|a.getD k 0) AC Z (Bc ac (ha.getI sD).1) Aa<|Ac 2 Z<|aH [0,0,3,0] Z<|Ad 1 Z<|AN ((o+1:Nat):Int) Z Z (Be oM oM) Aa ?_
  refine EL (n:=o+1) Bj Bz Z Z Z sD Aa fun v8 w8 av c7 bl=>?_
  have c0:=av.size
  have bm:=ac.trans av
  have a2:=ad.ext (o2) av
  have a3:=a1.ext av
  refine Ac 1 Z<|aH [0,0,0,4] Z<|Ad 2 Z<|Az (v:=v8) 0 Bj Bz Z Z bl.isSl Z sD Aa ?_
  refine Fz (v:=v8) (w:=w8) GH Z Z (ha.getI sD).2 bl sD Aa fun w9 F9 aw c8 b2 b3=>?_
  have ax:AG w w9:=aw.below bm (fun c hc=>A8 ac.size (b2 c hc).1) bm.size
  have c1:w8.heap.size≤w9.heap.size:=aw.size
  have aj:=a2.chg (o2) aw fun c hc=>zH<|b2 c hc
  have ak:=a3.chg aw fun hm=>zH<|b2 _ hm
  refine Aj<|A0<|aH [0,0] Z<|Ad 1 Z ?_
  by_cases al:((0:Nat):Int)<(o:Int)
  ·refine BN true Z Z (A5 al) Aa<|Aj<|Ag Z<|Ab _ [0,0,0,0,2,0,4] Z<|Ad 3 Z<|Az (v:=vd) k Bj Bz Z Z hd.isSl Z sD Aa ?_
   refine Ah (p:=Ax vd k 1) (.inr Z) (zI<|d.getD k 0) AC Z (Bc ax (hd.getI sD).1) Aa ?_
   refine Az (v:=v8) 1 Bj Bz Z Z b3.isSl Z sD Aa ?_
   refine Fz (v:=v8) (w:=w9) GH Z Z (hd.getI sD).2 b3 sD Aa fun cc cm a4 c2 ae b4=>?_
   have b5:AG w cc:=a4.below ax (fun c hc=>A8 ac.size (ae c hc).1) ax.size
   have bn:w9.heap.size≤cc.heap.size:=a4.size
   have b6:=aj.chg (o2) a4 fun c hc=>zH<|ae c hc
   have b7:=ak.chg a4 fun hm=>zH<|ae _ hm
   refine Aj<|Ab _ [0,0,3,4,0] Z<|Ad 2 Z (BI (u:=v8) (B:=w4.heap.size) o1 BH B9 Z Z b4 (by first|exact A7 _|omega) Aa fun cf cg a5 c3 b8=>?_)
   have bo:=a5.size
   have am:=b5.trans a5
   have a6:=b6.ext (o2) a5
   have a7:=b7.ext a5
   refine I0 o1 (v:=vo) (a:=cf) BH B9 Z Z Z a6 oM b8 oM oM sD SN Aa fun ch cd cn af an ao=>?_
   have b9:AG w cd:=af.below am (fun c hc=>A8 b0.size (an c hc).1) am.size
   have bp:cg.heap.size≤cd.heap.size:=af.size
   have ba:=a7.chg af fun hm=>zH<|an _ hm
   exact Ac 1 Z<|Ab _ [0,0] Z<|AN ((k+1:Nat):Int) Z Z (Be oM sD) Aa<|Ac 1 Z ⟨(k+1,ch),_,rfl,zR,⟨b9,(by rw[CF [] (by simp;omega),Ic oM];first|exact ao.up o2|(have h:=ao.up o2;rw[List.set_eq_of_length_le (by rw[K8];omega)];exact h)),ba,oM,oM,oM⟩,zD⟩
  refine BN false Z Z (A6 al) Aa<|Aj<|Ai Z<|A2<|Ab _ [0,0,3,4,0] Z<|Ad 2 Z (BI (u:=v8) (B:=w4.heap.size) o1 BH B9 Z Z b3 (by first|exact A7 _|omega) Aa fun ci cj a8 c4 bb=>?_)
  have bq:=a8.size
  have ap:=ax.trans a8
  have a9:=aj.ext (o2) a8
  have aa:=ak.ext a8
  refine I0 o1 (v:=vo) (a:=ci) BH B9 Z Z Z a9 oM bb oM oM sD SN Aa fun ck ce co ag aq ar=>?_
  have bc:AG w ce:=ag.below ap (fun c hc=>A8 b0.size (aq c hc).1) ap.size
  have br:cj.heap.size≤ce.heap.size:=ag.size
  have bd:=aa.chg ag fun hm=>zH<|aq _ hm
  exact Ac 1 Z<|Ab _ [0,0] Z<|AN ((k+1:Nat):Int) Z Z (Be oM sD) Aa<|Ac 1 Z ⟨(k+1,ck),_,rfl,zR,⟨bc,(by rw[CF [] (by simp;omega),Ic oM];first|exact ar.up o2|(have h:=ar.up o2;rw[List.set_eq_of_length_le (by rw[K8];omega)];exact h)),bd,oM,oM,oM⟩,zD⟩
 refine AE false Z Z (A6 bk) Aa<|Aj<|A0<|Ai Z<|A4<|Av<|Av<|Aq<|aH [2,0,0,0,3,0,0,0,0,0,0,0] Z ?_
 have hfull:=ad
 rw[show(Cc a d (o+1)).take k=Cc a d (o+1)from za (by simp;omega)]at hfull
 refine AL (p:=zP w.heap.size) (.inr Z) [vp] CG Z (fun cp c5=>LD.of_box<|BX.ext (w:=w4) a1 c5) Z Aa<|Ad 3 Z<|Au 142 [] [] [.agg #[vp],zI f,vo,zI (o:Int)] Z Z Y7 Aa (FJ _ dp vp (p) _ vo (Cc a d (o+1)) (o) (hp.ext (An<|Ay dp) ac) _hf (RN.of_fr2 hfull fun b hb=>by cases hb) hfull.cap hvp oM (by rw[BK];omega) (by exact Dt hna hnd) oM) ?_
 rintro cq cr ⟨a0,rfl,ab,ah,be⟩
 refine⟨_,rfl,ab,?_⟩
 have bs:=ab.size
 have bf:=ac.trans ab
 have hfullx22:=hfull.ext (o2) ab
 refine Ad 1 Z<|AP (vs:=[a0,zI ((Mq p (o+1) f.toNat (Cc a d (o+1)):Nat):Int),zI<|HR p (o+1) f.toNat<|Cc a d (o+1)]) a0 Z Z Aa<|AP (vs:=[a0,zI ((Mq p (o+1) f.toNat (Cc a d (o+1)):Nat):Int),zI<|HR p (o+1) f.toNat<|Cc a d (o+1)]) (zI ((Mq p (o+1) f.toNat (Cc a d (o+1)):Nat):Int)) Z Z Aa<|AP (vs:=[a0,zI ((Mq p (o+1) f.toNat (Cc a d (o+1)):Nat):Int),zI<|HR p (o+1) f.toNat<|Cc a d (o+1)]) (zI<|HR p (o+1) f.toNat<|Cc a d (o+1)) Z Z Aa<|Ac 3 Z<|aH [0,0,0,0] Z<|Ac 4 Z<|A1 ?_
 exact Af [10,11] Z (.tuple #[a0,zI<|HR p (o+1) f.toNat<|Cc a d (o+1)]) Z ⟨a0,rfl,bf,(ah.up o2).low ac.size,(by assumption)⟩
theorem SP {p:Prop}(h:p:=by rw[show GT p f.toNat a d=[]from hEP.non (by show HR p (1+1) f.toNat (Cc a d (1+1))≠0;omega)];exact N4 _ _ _):p:=h
theorem Dd (w:World)(dp:Nat)(vp:Value)(p:List Fn)(f:Int)(va:Value)(a:Sr)(vd:Value)(d:Sr)(hp:RP [] dp w.heap vp p)(_hf:Bt f)(ha:Rd (AX rI) w.heap va a)(hd:Rd (AX rI) w.heap vd d)(hvp:HE p)(hf:0≤f∧f<(p.length:Int))(hl:(a.length:Int)=(p.getD f.toNat Fn.zero).params)(hld:d.length=a.length)(hna:B2 a=true)(hnd:B2 d=true) :
  Calls Tryz.prog 145 #[(.agg #[vp]),zI f,va,vd] w (fun e w'=>∃v0 v1:Value,e=.returned (.tuple #[v0,v1,zI (MY p f.toNat a d)])∧AG w w'∧Fr (Bi rI 2) w.heap.size w'.heap.size w'.heap v0 ((GT p f.toNat a d).map (fun s:Sr=>s.getD 0 0))∧Fr (Bi rI 2) w.heap.size w'.heap.size w'.heap v1 ((GT p f.toNat a d).map (fun s:Sr=>s.getD 1 0))∧R2 p 2 f.toNat (Cc a d 2)):=by
 refine Ap [.agg #[vp],zI f,va,vd] 44 Tryz.func145 Z Z sM ?_
 have au:AG w w:=AG.refl w
 have bm:=hp.lenle
 unfold maxLen at bm
 have bn:=ha.lenle
 have bo:=hd.lenle
 have br:=hvp.par f.toNat oM
 have bs:=hvp.outs f.toNat oM
 refine aH [3,0,0,0] Z (Bu (cs:=#[vp]) Z Aa fun w1 ak b8 al=>?_)
 have b9:=ak.size
 have af:=au.trans ak
 replace al:BX w1.heap w.heap.size [vp]:=al
 refine Ac 3 Z<|aH [2,0,0,0,3,0,0,0,0,0] Z<|AL (p:=zP w.heap.size) (.inr Z) [vp] CG Z (fun bt ba=>LD.of_box<|BX.ext (w:=w1) al ba) Z Aa<|Ad 3 Z<|Au 214 [] [] [.agg #[vp],zI f,va,vd,zI ((1:Nat):Int)] Z Z Yo Aa (Hl _ dp vp (p) _ _ _ _ _ (1) (hp.ext (An<|Ay dp) af) _hf (ha.ext g1 af) (hd.ext g1 af) hvp oM oM hld hna hnd oM) ?_
 rintro e2 w2 ⟨a0,rfl,ag,a8,av⟩
 refine⟨_,rfl,ag,?_⟩
 have bb:=ag.size
 have ah:=af.trans ag
 refine Ad 1 Z<|AP (vs:=[a0,zI<|HR p (1+1) f.toNat<|Cc a d (1+1)]) a0 Z Z Aa<|AP (vs:=[a0,zI<|HR p (1+1) f.toNat<|Cc a d (1+1)]) (zI<|HR p (1+1) f.toNat<|Cc a d (1+1)) Z Z Aa<|Ac 2 Z<|A0<|aH [0,0] Z<|Ad 1 Z ?_
 have hEP:R2 p 2 f.toNat (Cc a d 2):=by assumption
 by_cases aw:HR p (1+1) f.toNat (Cc a d (1+1))≠((0:Nat):Int)
 ·exact B3 true Z Z (A5 aw) Aa<|Aj<|Ag Z<|aH [0,0,0,0] Z<|Ac 4 Z<|A1<|Am<|Af [8,9,10] Z (.tuple #[zN,zN,zI<|HR p (1+1) f.toNat<|Cc a d (1+1)]) Z ⟨zN,zN,rfl,ah,SP,SP,hEP⟩
 refine B3 false Z Z (A6 aw) Aa<|Aj<|Ai Z<|A2<|aH [3,0] Z ?_
 have hdl:=hEP.len (by show HR p (1+1) f.toNat (Cc a d (1+1))=0;omega)
 have bc:(J6 p (1+1) f.toNat (Cc a d (1+1))).length=(p.getD f.toNat Fn.zero).outs.length:=hdl
 refine Ch (rI) AK Bj Bz Aa fun v4 w4 ai bd ax=>?_
 have am:=ai.size
 have ay:=ah.trans ai
 have a1:=a8.ext (o2) ai
 refine Ac 1 Z<|A0<|aH [0,0,0] Z<|Ad 1 Z<|AO (v:=a0) BH Z a1.isSl Aa<|Ac 1 Z<|A3 ?_
 refine AW (S:=Nat×Value) (fun⟨k,vo⟩=>([(13,vo),(30,zI (k:Int)),(11,a0),(28,a0),(29,zI (((J6 p (1+1) f.toNat<|Cc a d (1+1)).length:Nat):Int))])) (fun⟨k,vo⟩ W=>AG w W∧Fr (Bi rI 2) w2.heap.size W.heap.size W.heap vo (((J6 p (1+1) f.toNat<|Cc a d (1+1)).take k).map fun s=>s.getD 1 0)∧Fr (Bi (Bi rI 2) 27) w1.heap.size w2.heap.size W.heap a0 (J6 p (1+1) f.toNat<|Cc a d (1+1))∧k≤(J6 p (1+1) f.toNat<|Cc a d (1+1)).length∧w2.heap.size≤W.heap.size) (fun⟨k,vo⟩=>(J6 p (1+1) f.toNat<|Cc a d (1+1)).length-k) (0,v4) ⟨rfl,rfl,rfl,rfl,rfl,trivial⟩ ⟨ay,ax.up o1,a1,oM,oM⟩ ?_
 clear au b8 ak a8 ag ax bd ai am ay a1
 rintro⟨k,vo⟩ ρ5 w5 ⟨aj,a9,a2,az,be⟩
 have bf:w.heap.size≤w5.heap.size:=aj.size
 refine aH [0] Z ?_
 by_cases b0:(k:Int)<(((J6 p (1+1) f.toNat (Cc a d (1+1))).length:Nat):Int)
 ·refine AE true Z Z (A5 b0) Aa<|Aj<|A0<|Ag Z<|A2<|A0<|A3<|aH [0,2,0] Z<|Az (v:=a0) k BH B9 Z Z a2.isSl Z sD Aa ?_
  obtain⟨an,b1,ae⟩:=a2.rd2.get (k:=k) [] sD
  have bg:=ae.lenle
  refine Ah (p:=Ax a0 k 1) (.inr Z) an Bk Z b1 Aa<|Ac 1 Z<|Ab _ [0,0,0,2,3,4,0] Z<|Ad 2 Z ?_
  have hrw:=(hEP.ser k (by show k<(J6 p (1+1) f.toNat<|Cc a d (1+1)).length;omega)).1
  have bh:((J6 p (1+1) f.toNat (Cc a d (1+1))).getD k []).length=2:=hrw
  refine Az (v:=an) 1 Bj Bz Z Z ae.isSl Z sD Aa ?_
  refine Ah (p:=Ax an 1 1) (.inr Z) (zI<|((J6 p (1+1) f.toNat<|Cc a d (1+1)).getD k []).getD 1 0) AC Z (ae.getI sD).1 Aa ?_
  refine BI (u:=zI<|((J6 p (1+1) f.toNat<|Cc a d (1+1)).getD k []).getD 1 0) (B:=w5.heap.size) AK Bj Bz Z Z (Lh w5.heap.size w5.heap.size _ _ (ae.getI sD).2) (A7 _) Aa fun v9 w9 ad bl b2=>?_
  have bi:=ad.size
  have b3:=aj.trans ad
  have a4:=a9.ext (o1) ad
  have a5:=a2.ext (o2) ad
  have b4:=ae.ext g1 ad
  have b5:=Bc ad b1
  refine Fy (v:=vo) (a:=v9) Bj Bz Z Z Z a4 oM b2.rd1 sD (by unfold maxLen;first|omega|assumption|(simp;done)|(simp;omega)) Aa fun bq bp bu a6 ab ao=>?_
  have ap:AG w bp:=a6.below b3 (fun c hc=>A8 ah.size (ab c hc).1) b3.size
  have b6:w9.heap.size≤bp.heap.size:=a6.size
  have aq:=a5.chg (o2) a6 fun c hc=>zH<|ab c hc
  have bj:=b2.chg (o1) a6 fun c hc=>zH<|ab c hc
  exact Ac 1 Z<|Ab _ [0,0] Z<|AN ((k+1:Nat):Int) Z Z (Be oM sD) Aa<|Ac 1 Z ⟨(k+1,bq),_,rfl,zR,⟨ap,(by rw[CS [] oM];exact ao.up o1),aq,oM,oM⟩,zD⟩
 refine AE false Z Z (A6 b0) Aa<|Aj<|A0<|Ai Z<|A4<|Av<|Av<|Aq<|aH [0,3,0,0,0,0] Z<|Ad 1 Z<|Au 106 [] [] [a0] Z Z Us Aa (HU _ _ _ a2.rd2 oM (by intro k9 bk;have h9:((J6 p (1+1) f.toNat<|Cc a d (1+1)).getD k9 []).length=2:=(hEP.ser k9 bk).1;omega)) ?_
 rintro bv bw ⟨aa,rfl,a7,ac⟩
 refine⟨_,rfl,a7,?_⟩
 have b7:=a7.size
 have ar:=aj.trans a7
 have a3:=a9.ext (o1) a7
 exact Ac 4 Z<|A1<|Af [8,9,10] Z (.tuple #[aa,vo,zI ((0:Nat):Int)]) Z ⟨aa,vo,(by rw[show MY p f.toNat a d=0 from(by show HR p (1+1) f.toNat (Cc a d (1+1))=0;omega)] <;> rfl),ar,(ac.up o1).low aj.size,(by have h:=(a3.up o1).low ah.size;rwa [za oM]at h),hEP⟩
theorem Gb (w:World)(dp:Nat)(vp:Value)(p:List Fn)(f:Int)(va:Value)(a:Sr)(hp:RP [] dp w.heap vp p)(_hf:Bt f)(ha:Rd (AX rI) w.heap va a)(hvp:HE p)(hf:0≤f∧f<(p.length:Int))(hl:(a.length:Int)=(p.getD f.toNat Fn.zero).params)(hna:B2 a=true) :
  Calls Tryz.prog 104 #[(.agg #[vp]),zI f,va] w (fun e w'=>∃v0:Value,e=.returned (.tuple #[v0,zI (HS p f.toNat a)])∧AG w w'∧Fr (Bi (Bi rI 2) 27) w.heap.size w'.heap.size w'.heap v0 (if HS p f.toNat a=0 then IQ p f.toNat a (p.getD f.toNat Fn.zero).outs.length a.length else [])):=by
 refine Ap [.agg #[vp],zI f,va] 80 Tryz.func104 Z Z sM ?_
 have d0:AG w w:=AG.refl w
 have e1:=hp.lenle
 unfold maxLen at e1
 have e7:=ha.lenle
 have ej:=hvp.par f.toNat oM
 have ek:=hvp.outs f.toNat oM
 have hdz:MY p f.toNat a (Cs a.length ([]:Sr) ([]:Sr).length)=HS p f.toNat a:=VL _ _ _ _
 refine aH [3,0,0] Z (Bu (cs:=#[vp]) Z Aa fun w1 ca dm c6=>?_)
 have cb:=ca.size
 have d1:=d0.trans ca
 replace c6:BX w1.heap w.heap.size [vp]:=c6
 refine Ac 2 Z<|A0<|AQ _ [1,0,0,0,0,3,3,0,0,0,0,0,0,0] mixed (by kernel_rfl)<|AL (p:=zP w.heap.size) (.inl Z) [vp] CG Z (fun ea cc=>LD.of_box<|BX.ext (w:=w1.drew) c6 cc) Z Aa<|Ad 3 Z<|AO (v:=va) Bj Z ha.isSl Aa ?_
 refine Au 182 [] [] [zI (a.length:Int),zN] Z Z UC Aa (PR _ (a.length) zN [] sD Ty oM (by intro j hj;exact absurd hj (Nat.not_lt_zero j))) ?_
 rintro e2 w2 ⟨cd,rfl,bb,ab⟩
 refine⟨_,rfl,bb,?_⟩
 replace bb:=bb.of_drew
 have ce:=bb.size
 have c7:=d1.trans bb
 have bm:=c6.ext bb
 replace ab:=ab.low (B':=w1.heap.size)<|A7 _
 refine Au 145 [] [] [.agg #[vp],zI f,va,cd] Z Z Uw Aa (Dd _ dp vp (p) _ _ _ _ _ (hp.ext (An<|Ay dp) c7) _hf (ha.ext g1 c7) ab.rd1 hvp oM oM (by exact IP _ _ _) hna (by exact H7 _ _ _)) ?_
 rintro e3 w3 ⟨au,b0,rfl,bk,b9,ba,d2⟩
 refine⟨_,rfl,bk,?_⟩
 have dn:=bk.size
 have bl:=c7.trans bk
 have bn:=bm.ext bk
 have ak:=ab.ext (o1) bk
 refine Ad 1 Z<|AP (vs:=[au,b0,zI<|MY p f.toNat a<|Cs a.length ([]:Sr) ([]:Sr).length]) au Z Z Aa<|AP (vs:=[au,b0,zI<|MY p f.toNat a<|Cs a.length ([]:Sr) ([]:Sr).length]) b0 Z Z Aa<|AP (vs:=[au,b0,zI<|MY p f.toNat a<|Cs a.length ([]:Sr) ([]:Sr).length]) (zI<|MY p f.toNat a<|Cs a.length ([]:Sr) ([]:Sr).length) Z Z Aa<|Ac 3 Z<|A0<|aH [0,0] Z<|Ad 1 Z ?_
 have hEP:R2 p 2 f.toNat (Cc a (Cs a.length ([]:Sr) ([]:Sr).length) 2):=by assumption
 by_cases d3:MY p f.toNat a (Cs a.length ([]:Sr) ([]:Sr).length)≠((0:Nat):Int)
 ·exact B3 true Z Z (A5 d3) Aa<|Aj<|Ag Z<|aH [0,0,0] Z<|Ac 3 Z<|A1<|Am<|Af [6,7] Z (.tuple #[zN,zI<|MY p f.toNat a<|Cs a.length ([]:Sr) ([]:Sr).length]) Z ⟨zN,(by rw[hdz]),bl,(by rw[if_neg oM];exact N4 _ _ _)⟩
 refine B3 false Z Z (A6 d3) Aa<|Aj<|Ai Z<|A2<|aH [3,0] Z ?_
 have d4:HS p f.toNat a=0:=by omega
 have hvl:(GT p f.toNat a (Cs a.length ([]:Sr) ([]:Sr).length)).length=(p.getD f.toNat Fn.zero).outs.length:=hEP.len (by show MY p f.toNat a (Cs a.length ([]:Sr) ([]:Sr).length)=0;omega)
 have hvm:((GT p f.toNat a (Cs a.length ([]:Sr) ([]:Sr).length)).map (fun s=>s.getD 0 0)).length=(p.getD f.toNat Fn.zero).outs.length:=by rw[zg];exact hvl
 refine Ch (Bi rI 2) o1 BH B9 Aa fun v5 w5 bc dq d5=>?_
 have cf:=bc.size
 have d6:=bl.trans bc
 have bo:=bn.ext bc
 have b1:=ak.ext (o1) bc
 have al:=b9.ext (o1) bc
 have b2:=ba.ext (o1) bc
 refine Ac 1 Z<|A0<|aH [0,0,0] Z<|Ad 1 Z<|AO (v:=au) Bj Z al.isSl Aa<|Ac 1 Z<|A3 ?_
 refine AW (S:=Nat×Value) (fun⟨k,vo⟩=>([(11,vo),(35,zI (k:Int)),(1,zI f),(2,va),(3,zP w.heap.size),(34,zI ((((GT p f.toNat a<|Cs a.length ([]:Sr) ([]:Sr).length).map fun s:Sr=>s.getD 0 0).length:Nat):Int))])) (fun⟨k,vo⟩ W=>AG w W∧Fr (Bi (Bi rI 2) 27) w3.heap.size W.heap.size W.heap vo (List.replicate k [])∧BX W.heap w.heap.size [vp]∧k≤((GT p f.toNat a<|Cs a.length ([]:Sr) ([]:Sr).length).map fun s:Sr=>s.getD 0 0).length∧w.heap.size<w3.heap.size∧w3.heap.size≤W.heap.size) (fun⟨k,vo⟩=>((GT p f.toNat a<|Cs a.length ([]:Sr) ([]:Sr).length).map fun s:Sr=>s.getD 0 0).length-k) (0,v5) ⟨rfl,rfl,rfl,rfl,rfl,rfl,trivial⟩ ⟨d6,d5.up o2,bo,oM,oM,oM⟩ ?_
 clear d0 dm ca cb d1 ab bb ce c7 ba b9 bk ak d5 dq bc cf d6 b1 al b2
 rintro⟨k,vo⟩ ρ7 w7 ⟨c8,av,am,d7,dr,ds⟩
 have cg:w.heap.size≤w7.heap.size:=c8.size
 have e0:=am.lt
 refine aH [0] Z ?_
 by_cases bp:(k:Int)<((((GT p f.toNat a (Cs a.length ([]:Sr) ([]:Sr).length)).map (fun s:Sr=>s.getD 0 0)).length:Nat):Int)
 ·refine AE true Z Z (A5 bp) Aa<|Aj<|A0<|Ag Z<|A2<|A0<|A3<|Ab _ [0,3,3,4,0] Z<|Ad 1 Z (Ch (rI) AK Bj Bz Aa fun eb el b3 dt ch=>?_)
  have d8:=b3.size
  have ci:=c8.trans b3
  have aw:=av.ext (o2) b3
  have ax:=am.ext b3
  refine BI (u:=eb) (B:=w7.heap.size) o1 BH B9 Z Z ch (by first|exact A7 _|omega) Aa fun ec ed b4 du cj=>?_
  have d9:=b4.size
  have bq:=ci.trans b4
  have ay:=aw.ext (o2) b4
  have az:=ax.ext b4
  refine I0 o1 (v:=vo) (a:=ec) BH B9 Z Z Z ay oM cj oM oM sD (by unfold maxLen;first|omega|assumption|(simp;done)|(simp;omega)) Aa fun ee e8 em bd br ck=>?_
  have cl:AG w e8:=bd.below bq (fun c hc=>A8 bl.size (br c hc).1) bq.size
  have da:ed.heap.size≤e8.heap.size:=bd.size
  have cm:=az.chg bd fun hm=>zH<|br _ hm
  exact Ac 1 Z<|Ab _ [0,0] Z<|AN ((k+1:Nat):Int) Z Z (Be oM sD) Aa<|Ac 1 Z ⟨(k+1,ee),_,rfl,zR,⟨cl,(by rw[List.replicate_succ'];exact ck.up o2),cm,oM,oM,oM⟩,zD⟩
 refine AE false Z Z (A6 bp) Aa<|Aj<|A0<|Ai Z<|A4<|Av<|Av<|Aq<|A0<|aH [0,0,0] Z<|Ad 1 Z<|AO (v:=va) Bj Z ha.isSl Aa<|Ac 1 Z<|A3 ?_
 refine AW (S:=Nat) (fun i=>([(44,zI (i:Int)),(1,zI f),(2,va),(3,zP w.heap.size),(11,vo),(43,zI (a.length:Int))])) (fun i W=>AG w W∧Fr (Bi (Bi rI 2) 27) w3.heap.size W.heap.size W.heap vo (IQ p f.toNat a (p.getD f.toNat Fn.zero).outs.length i)∧BX W.heap w.heap.size [vp]∧i≤a.length∧w.heap.size<w3.heap.size∧w3.heap.size≤W.heap.size) (fun i=>a.length-i) 0 ⟨rfl,rfl,rfl,rfl,rfl,rfl,trivial⟩ ⟨c8,(by have h:=av.up o2;rw[show k=(p.getD f.toNat Fn.zero).outs.length from by omega,← Zy p f.toNat a]at h;exact h),am,oM,oM,oM⟩ ?_
 clear am av c8 cg
 rintro i ρ16 e4 ⟨b5,ad,a8,cn,db,dc⟩
 have bs:w.heap.size≤e4.heap.size:=b5.size
 have dv:=a8.lt
 refine aH [0] Z ?_
 by_cases bt:(i:Int)<(a.length:Int)
 ·refine AE true Z Z (A5 bt) Aa<|Aj<|A0<|Ag Z<|A2<|A0<|A3<|aH [0,0] Z<|Ac 2 Z<|A0<|AQ _ [1,0,0,0,0,0,3,3,3,0,0,0,0,0,0,0] mixed (by kernel_rfl)<|AL (p:=zP w.heap.size) (.inl Z) [vp] CG Z (fun ea cc=>LD.of_box<|BX.ext (w:=e4.drew) a8 cc) Z Aa<|Ad 3 Z<|AO (v:=va) Bj Z ha.isSl Aa<|Ad 1 Z (BI (u:=zI (i:Int)) (B:=e4.heap.size) AK Bj Bz Z Z (Lh e4.heap.size e4.heap.size _ _ oM) (A7 _) Aa fun ef en ae co be=>?_)
  replace ae:=ae.of_drew
  have bu:=ae.size
  have bv:=b5.trans ae
  have a1:=ad.ext (o2) ae
  have a2:=a8.ext ae
  refine Au 182 [] [] [zI (a.length:Int),ef] Z Z UC Aa (PR _ (a.length) _ _ sD be.rd1 oM (by intro j hj;have dw:j=0:=(by have h9:j<1:=hj;omega);subst dw;show 0≤(i:Int)∧(i:Int)<_;omega)) ?_
  rintro eo ep ⟨bw,rfl,af,ag⟩
  refine⟨_,rfl,af,?_⟩
  have dd:=af.size
  have bf:=bv.trans af
  have a3:=a1.ext (o2) af
  have a4:=a2.ext af
  have an:=be.ext (o1) af
  refine Au 145 [] [] [.agg #[vp],zI f,va,bw] Z Z Uw Aa (Dd _ dp vp (p) _ _ _ _ _ (hp.ext (An<|Ay dp) bf) _hf (ha.ext g1 bf) ag.rd1 hvp oM oM (by exact IP _ _ _) hna (by exact H7 _ _ _)) ?_
  rintro er es ⟨ao,a0,rfl,ac,bg,ah,cp⟩
  refine⟨_,rfl,ac,?_⟩
  have de:=ac.size
  have cq:=bf.trans ac
  have a5:=a3.ext (o2) ac
  have a6:=a4.ext ac
  have b6:=an.ext (o1) ac
  have ap:=ag.ext (o1) ac
  refine Ad 1 Z<|AP (vs:=[ao,a0,zI<|MY p f.toNat a<|Cs a.length ([(i:Int)]) ([(i:Int)]).length]) ao Z Z Aa<|AP (vs:=[ao,a0,zI<|MY p f.toNat a<|Cs a.length ([(i:Int)]) ([(i:Int)]).length]) a0 Z Z Aa<|AP (vs:=[ao,a0,zI<|MY p f.toNat a<|Cs a.length ([(i:Int)]) ([(i:Int)]).length]) (zI<|MY p f.toNat a<|Cs a.length ([(i:Int)]) ([(i:Int)]).length) Z Z Aa<|Ac 3 Z<|aH [0,0,0] Z<|Ad 1 Z ?_
  have hEI:R2 p 2 f.toNat (Cc a (Cs a.length [(i:Int)] [(i:Int)].length) 2):=by assumption
  have hdi:MY p f.toNat a (Cs a.length [(i:Int)] [(i:Int)].length)=HS p f.toNat a:=VL _ _ _ _
  have hil:(GT p f.toNat a (Cs a.length [(i:Int)] [(i:Int)].length)).length=(p.getD f.toNat Fn.zero).outs.length:=hEI.len (by show MY p f.toNat a (Cs a.length [(i:Int)] [(i:Int)].length)=0;omega)
  have him:((GT p f.toNat a (Cs a.length [(i:Int)] [(i:Int)].length)).map (fun s=>s.getD 1 0)).length=(p.getD f.toNat Fn.zero).outs.length:=by rw[zg];exact hil
  refine AO (v:=a0) Bj Z ah.isSl Aa<|Ac 1 Z<|A3 ?_
  obtain⟨Xn25,kO25,kN25,kR25⟩:=id ah
  have kY25:=N5.of a5 oM kR25
  refine AW (S:=Nat) (fun r=>([(62,zI (r:Int)),(1,zI f),(2,va),(3,zP w.heap.size),(11,vo),(43,zI (a.length:Int)),(44,zI (i:Int)),(60,a0),(61,zI ((((GT p f.toNat a<|Cs a.length ([(i:Int)]) ([(i:Int)]).length).map fun s:Sr=>s.getD 1 0).length:Nat):Int))])) (fun r W=>AG w W∧N5 2 27 w3.heap.size Xn25 W.heap vo (FR r (IQ p f.toNat a (p.getD f.toNat Fn.zero).outs.length (i+1))<|IQ p f.toNat a (p.getD f.toNat Fn.zero).outs.length i)∧Bi rI 2 W.heap a0 ((GT p f.toNat a<|Cs a.length ([(i:Int)]) ([(i:Int)]).length).map fun s:Sr=>s.getD 1 0) Xn25∧BX W.heap w.heap.size [vp]∧r≤((GT p f.toNat a<|Cs a.length ([(i:Int)]) ([(i:Int)]).length).map fun s:Sr=>s.getD 1 0).length∧w.heap.size<w3.heap.size∧w3.heap.size≤W.heap.size) (fun r=>((GT p f.toNat a<|Cs a.length ([(i:Int)]) ([(i:Int)]).length).map fun s:Sr=>s.getD 1 0).length-r) 0 ⟨rfl,rfl,rfl,rfl,rfl,rfl,rfl,rfl,rfl,trivial⟩ ⟨cq,(by rw[H0];exact kY25),kO25,a6,oM,oM,oM⟩ ?_
  clear a8 ad b5 bs be co ae bu bv a1 a2 ag af a3 a4 an ah bg ac a5 a6 b6 ap
  rintro r ρ24 e5 ⟨bh,a9,aa,ai,cr,df,dg⟩
  have dh:w.heap.size≤e5.heap.size:=bh.size
  have hlm:=Hq r (IQ p f.toNat a (p.getD f.toNat Fn.zero).outs.length (i+1)) (IQ p f.toNat a (p.getD f.toNat Fn.zero).outs.length i) sM
  rw[Fw]at hlm
  have dx:=ai.lt
  refine aH [0] Z ?_
  by_cases bx:(r:Int)<((((GT p f.toNat a (Cs a.length ([(i:Int)]) ([(i:Int)]).length)).map (fun s:Sr=>s.getD 1 0)).length:Nat):Int)
  ·refine AE true Z Z (A5 bx) Aa<|Aj<|A0<|Ag Z<|A2<|A0<|A3<|aH [0,0,2,0,0] Z<|Ad 1 Z<|Az (v:=a0) r Bj Bz Z Z (aa.rd id).isSl Z sD Aa ?_
   refine Ah (p:=Ax a0 r 1) (.inr Z) (zI<|((GT p f.toNat a<|Cs a.length ([(i:Int)]) ([(i:Int)]).length).map fun s:Sr=>s.getD 1 0).getD r 0) AC Z ((ON aa).getI (k:=r) sD).1 Aa (Ac 2 Z<|Ab _ [0,0,0,0,0,2,0,3,4,0,4] Z<|Ad 4 Z ?_)
   refine Az (v:=vo) r BH B9 Z Z a9.isSl Z sD Aa ?_
   obtain⟨bz,c0,c1⟩:=a9.rd2.get (k:=r) [] sD
   have di:=c1.lenle
   refine Ah (p:=Ax vo r 1) (.inr Z) bz Bk Z c0 Aa<|Ad 1 Z (BI (u:=zI<|((GT p f.toNat a<|Cs a.length ([(i:Int)]) ([(i:Int)]).length).map fun s:Sr=>s.getD 1 0).getD r 0) (B:=e5.heap.size) AK Bj Bz Z Z (Lh e5.heap.size e5.heap.size _ _ ((ON aa).getI (k:=r) sD).2) (A7 _) Aa fun eg eh aj dy ct=>?_)
   have dj:=aj.size
   have c2:=bh.trans aj
   have aq:=a9.ext (o2) aj
   have a7:=OO (o1) aa aj
   have ar:=ai.ext aj
   have c9:=c1.ext g1 aj
   have c3:=Bc aj c0
   refine V3 (v:=vo) (u:=bz) (a:=eg) (r:=r) Bj Bz Z Z Z aq oM (o1.lt a7) sD c3 ct.rd1 (by have h9:=RM (p:=p) (f:=f.toNat) (a:=a) (K:=(p.getD f.toNat Fn.zero).outs.length) (i:=i) (r:=r) oM;simp only[z9,zb];omega) (by unfold maxLen;have h9:=RM (p:=p) (f:=f.toNat) (a:=a) (K:=(p.getD f.toNat Fn.zero).outs.length) (i:=i) (r:=r) oM;simp only[z9,zb];omega) Aa fun ei e6 et b7 bi c4=>?_
   have c5:AG w e6:=b7.below c2 (fun b hb=>A8 bl.size (bi b hb).1) c2.size
   have dk:eh.heap.size≤e6.heap.size:=b7.size
   have cu:=Ja o1 a7 b7 fun b hb=>(bi b hb).2.1
   have cv:=ar.chg b7 fun hm=>zH<|(bi _ hm).1
   refine Az (v:=vo) r BH B9 Z Z c4.isSl Z sD Aa (V4 (v:=vo) (u:=ei) (w:=e6) On Z Z c4 Aa fun e9 eu b8 dz bj cw=>?_)
   have cx:AG w e9:=b8.below c5 (fun b hb=>A8 bl.size (bj b hb).1) c5.size
   have dl:e6.heap.size≤e9.heap.size:=b8.size
   have cy:=Ja o1 cu b8 fun b hb=>(bj b hb).2.1
   have cz:=cv.chg b8 fun hm=>zH<|(bj _ hm).1
   exact Aj<|Ab _ [0,0] Z<|AN ((r+1:Nat):Int) Z Z (Be oM sD) Aa<|Ac 1 Z ⟨r+1,_,rfl,zR,⟨cx,(by have h:=cw;rw[BZ (d:=[]) oM]at h;rw[← VJ oM];exact h),cy,cz,oM,oM,oM⟩,zD⟩
  refine AE false Z Z (A6 bx) Aa<|Aj<|A0<|Ai Z<|A4<|Av<|Av<|Aq<|Ab _ [0,0] Z<|AN ((i+1:Nat):Int) Z Z (Be oM sD) Aa<|Ac 1 Z ?_
  exact⟨i+1,_,rfl,zR,⟨bh,(by have h:=a9.fr;rwa [IG sM (by rw[Fw];omega)]at h),ai,oM,oM,oM⟩,zD⟩
 exact AE false Z Z (A6 bt) Aa<|Aj<|A0<|Ai Z<|A4<|Av<|Av<|Aq<|aH [0,0,0] Z<|Ac 3 Z<|A1<|Af [6,7] Z (.tuple #[vo,zI ((0:Nat):Int)]) Z ⟨vo,(by rw[d4];rfl),b5,(by have h:=(ad.up o2).low bl.size;rw[if_pos d4];rwa [show i=a.length from by omega]at h)⟩
theorem J2 (w:World)(dp:Nat)(vp:Value)(p:List Fn)(f:Int)(va:Value)(a:Sr)(hp:RP [] dp w.heap vp p)(_hf:Bt f)(ha:Rd (AX rI) w.heap va a)(hz:Qh p) :
  Calls Tryz.prog 30 #[(.agg #[vp]),zI f,va] w (fun e w'=>∃v0:Value,e=.returned (.tuple #[v0,zI (if Lj p f a a=0 then HS p f.toNat a else Lj p f a a)])∧AG w w'∧Fr (Bi (Bi rI 2) 27) w.heap.size w'.heap.size w'.heap v0 (if Lj p f a a=0∧HS p f.toNat a=0 then IQ p f.toNat a (p.getD f.toNat Fn.zero).outs.length a.length else [])):=by
 refine Ap [.agg #[vp],zI f,va] 23 Tryz.func30 Z Z sM ?_
 have ac:AG w w:=AG.refl w
 have ai:=hp.lenle
 unfold maxLen at ai
 have aj:=ha.lenle
 refine aH [3,0,0] Z (Bu (cs:=#[vp]) Z Aa fun w1 a9 ah a4=>?_)
 have ad:=a9.size
 have a5:=ac.trans a9
 replace a4:BX w1.heap w.heap.size [vp]:=a4
 refine Ac 2 Z<|A0<|aH [2,0,0,0,3,0] Z<|AL (p:=zP w.heap.size) (.inr Z) [vp] CG Z (fun ak a7=>LD.of_box<|BX.ext (w:=w1) a4 a7) Z Aa<|Ad 3 Z<|Au 103 [] [] [.agg #[vp],zI f,va,va] Z Z XW Aa (LE _ dp vp (p) _ _ _ _ _ (hp.ext (An<|Ay dp) a5) _hf (ha.ext g1 a5) (ha.ext g1 a5) hz) ?_
 rintro e2 w2 ⟨rfl,a6⟩
 refine⟨_,rfl,a6,?_⟩
 have ae:=a6.size
 have a1:=a5.trans a6
 have a2:=a4.ext a6
 refine Ac 1 Z<|aH [0,0] Z<|Ad 1 Z ?_
 by_cases aa:Lj p f a a≠((0:Nat):Int)
 ·exact B3 true Z Z (A5 aa) Aa<|Aj<|Ag Z<|aH [0,0,0] Z<|Ac 3 Z<|A1<|Am<|Af [6,7] Z (.tuple #[zN,zI<|Lj p f a a]) Z ⟨zN,(by rw[if_neg (show ¬Lj p f a a=0 by omega)]),a1,(by rw[if_neg (show ¬(Lj p f a a=0∧HS p f.toNat a=0) by omega)];exact N4 _ _ _)⟩
 refine B3 false Z Z (A6 aa) Aa<|Aj<|Ai Z<|A2<|aH [2,0,0,3,0,0,0,0] Z<|AL (p:=zP w.heap.size) (.inr Z) [vp] CG Z (fun ak a7=>LD.of_box<|BX.ext (w:=w2) a2 a7) Z Aa<|Ad 2 Z ?_
 have hli:Lj p f a a=0:=by omega
 have ab:=XN hli
 have al:=K9 ab.1
 refine Au 104 [] [] [.agg #[vp],zI f,va] Z Z XX Aa (Gb _ dp vp (p) _ _ _ (hp.ext (An<|Ay dp) a1) _hf (ha.ext g1 a1) al oM oM ab.2.2.1.2) ?_
 rintro e4 w4 ⟨a0,rfl,a8,a3⟩
 refine⟨_,rfl,a8,?_⟩
 have af:=a8.size
 have ag:=a1.trans a8
 exact AP (vs:=[a0,zI<|HS p f.toNat a]) a0 Z Z Aa<|AP (vs:=[a0,zI<|HS p f.toNat a]) (zI<|HS p f.toNat a) Z Z Aa<|Ac 2 Z<|A1<|Af [6,7] Z (.tuple #[a0,zI<|HS p f.toNat a]) Z ⟨a0,(by rw[if_pos hli]),ag,(by simp only[hli,true_and];exact(a3.up o2).low a1.size)⟩
theorem OG {p:Prop}(h:p:=by simp only[z9,zb];unfold maxLen;omega):p:=h
theorem OH {p:Prop}(h:p:=by simp only[z9,zb];omega):p:=h
theorem Jw {p:Prop}(h:p:=by rw[Gp];omega):p:=h
theorem CC (w:World)(S:List Nat)(g:Nat)(vp:Value)(ip:Int)(s0:Nat)(c0:Int)(T:Tp)(c:AD)(v:Int)(hS:∀b∈S,b<w.heap.size)(hgS:g∈S)(hR0:Qi 69 208 2 S g w.heap vp ip T s0 c0)(_hip:Bt ip)(hln:T.code.length≤4000∧T.vals.length≤4000)(hc:R9 c)(_hv:Bt v)  :
  Calls Tryz.prog 101 #[zP g,(.agg #[(zI c.op),(zI c.a),(zI c.b),(zI c.num)]),zI v] w (fun e w'=>∃S':List Nat,e=.returned (zI (T.vals.length:Int))∧Fj S S' w w'∧Qi 69 208 2 S' g w'.heap vp ip (T.put c v) s0 c0):=by
 refine Ap [zP g,.agg #[zI c.op,zI c.a,zI c.b,zI c.num],zI v] 35 Tryz.func101 Z Z sM ?_
 have dr:As S w w:=As.refl S w
 obtain⟨rc0,rg0,rv0,bt,d5⟩:=hR0
 have fi:=bt.lt
 have hG0:Fj S S w w:=Fj.refl hS
 have hml:=Cj.len d5
 refine aH [3,0] Z ?_
 have eo:=bt.lt
 refine Bu (cs:=#[zI c.op,zI c.a,zI c.b,zI c.num]) Z Aa fun w1 ay ep bu=>?_
 have ds:w.heap.size≤w1.heap.size:=ay.size
 have d6:As S w w1:=dr.ext ay
 have a7:=bt.ext ay
 have dt:=Cj.ext d5 ay
 have d7:=hG0.ext ay
 replace bu:BX w1.heap w.heap.size [zI c.op,zI c.a,zI c.b,zI c.num]:=bu
 refine Ac 1 Z<|A0 ?_
 obtain⟨Fc,Fg,Fv,hOc,hOg,hOv,hdj,hgn,hSc,hSg,hSv⟩:=id dt
 letI:JR:=QB (Fc++Fv)
 refine Jx.Xu _ [0,0,0,0,0,0,1,1,3,3,0,0,0,1,0,3,3,0,0,0,4,0,0,4] [0,1,2,3,4,5,6,7,10,11,12,13,14] 8 9 [15,16,17,18,19,20,21,22,23] 15 [9,16,17,18,19,20,21,22,23] 15 [8,9,16,17,18,19,20,21,22,23] [_,_,_,_,_,_,_,_,_,_,_,_,_] [0,0,0,0,0,0,1,1,0,0,0,1,0] _ _ [_,_,_,_,_,_,_,_,_] [3,3,0,0,0,4,0,0,4] _ [_,_,_,_,_,_,_,_,_] [3,3,0,0,0,4,0,0,4] _ [_,_,_,_,_,_,_,_,_,_] [3,3,3,0,0,0,4,0,0,4] mixed (by kernel_rfl) ⟨rfl,rfl,⟨rfl,rfl,⟨rfl,rfl,⟨rfl,rfl,⟨rfl,rfl,⟨rfl,rfl,⟨rfl,rfl,⟨rfl,rfl,⟨rfl,rfl,⟨rfl,rfl,⟨rfl,rfl,⟨rfl,rfl,⟨rfl,rfl,trivial⟩⟩⟩⟩⟩⟩⟩⟩⟩⟩⟩⟩⟩ ⟨rfl,rfl,trivial⟩ ⟨rfl,rfl,⟨rfl,rfl,⟨rfl,rfl,⟨rfl,rfl,⟨rfl,rfl,⟨rfl,rfl,⟨rfl,rfl,⟨rfl,rfl,⟨rfl,rfl,⟨rfl,rfl,trivial⟩⟩⟩⟩⟩⟩⟩⟩⟩⟩ ⟨rfl,rfl,⟨rfl,rfl,⟨rfl,rfl,⟨rfl,rfl,⟨rfl,rfl,⟨rfl,rfl,⟨rfl,rfl,⟨rfl,rfl,⟨rfl,rfl,⟨rfl,rfl,trivial⟩⟩⟩⟩⟩⟩⟩⟩⟩⟩ ⟨rfl,rfl,⟨rfl,rfl,⟨rfl,rfl,⟨rfl,rfl,⟨rfl,rfl,⟨rfl,rfl,⟨rfl,rfl,⟨rfl,rfl,⟨rfl,rfl,⟨rfl,rfl,⟨rfl,rfl,trivial⟩⟩⟩⟩⟩⟩⟩⟩⟩⟩⟩ ?_
 refine Jx.V0 (zP g) Z Aa<|Jx.V0 (zP g) Z Aa<|Jx.V0 (zP g) Z Aa<|Jx.j1<|AT Z Aa<|Aj ?_
 refine Jx.Ak (p:=zP g) 1 Fx Z Z Aa<|Jx.Ak (p:=Ao (zP g) 1) (b:=g) (o:=1) 1 EW Z Z Aa<|Jx.Z5 (p:=Ao (Ao (zP g) 1) 1) rc0 JN Z (fun wj hj=>(BX.chg (w:=w1.drew) (F:=Fc++Fv) a7 hj fun hm=>(zi.1 hm).elim hgn.1 hgn.2.2).ldp (i:=2) sM) Aa<|Jx.Xm (p:=zP w.heap.size) [zI c.op,zI c.a,zI c.b,zI c.num] EX Z (fun wj hj=>LD.of_box<|BX.chg (w:=w1.drew) (F:=Fc++Fv) bu hj fun hm=>(zi.1 hm).elim (fun h9=>zH<|hS _ (hSc _ h9)) fun h9=>zH<|hS _ (hSv _ h9)) Z Aa<|Jx.V0 (zP g) Z Aa ?_
 refine Jx.j1<|AT Z Aa<|Aj ?_
 refine Jx.Ak (p:=zP g) 5 Du Z Z Aa<|Jx.Z5 (p:=Ao (zP g) 5) rv0 Bk Z (fun wj hj=>(BX.chg (w:=w1.drew) (F:=Fc++Fv) a7 hj fun hm=>(zi.1 hm).elim hgn.1 hgn.2.2).ldp (i:=5) sM) Aa<|Jx.V0 (zI v) Z Aa<|Jx.Aj ⟨?_,?_⟩
 ·refine Jx.Zn<|Gk (cs:=[zI c.op,zI c.a,zI c.b,zI c.num]) (y:=c) (B:=w1.heap.size) B4 Oo IY Z (by decide) Z (Ra (U:=w1.heap.size) hc) (A7 _) Aa ?_
  intro v4 w4 ao eq d8
  refine Aj ?_
  have du:w1.heap.size≤w4.heap.size:=ao.size
  have az:=Ow.ext (w:=w1.drew) (At B4) hOc ao
  have b0:=Ow.ext (w:=w1.drew) (Bb AK) hOv ao
  have b1:=Ow.ext (w:=w1.drew) (At Bd) hOg ao
  have d9:=BX.ext (w:=w1.drew) a7 ao
  have da:As S w w4:=d6.drew.ext ao
  have db:=d7.drew.ext ao
  refine Jx.Aj ⟨?_,?_⟩
  ·refine Jx.aM<|Mu (v:=rc0) (a:=v4) B4 Oo IY Z (by decide) Z Z az d8 oM (Nat.zero_le _) (Nat.zero_le _) oM (by unfold maxLen;omega) Aa ?_
   intro v5 w5 F5 ap dv b2
   refine Aj ⟨As.sub ap fun b hb=>z8 _ hb,?_⟩
   have dw:w4.heap.size≤w5.heap.size:=ap.size
   have bv:=b0.keep (Bb AK) ap fun b hb hm=>hdj.2.1 b hb hm
   have bw:=b1.keep (At Bd) ap fun b hb hm=>hdj.1 b hb hm
   have dx:=BX.chg d9 ap hgn.1
   have dy:As S w w5:=da.trans (ap.sub hSc)
   have dz:=db.more ap hSc
   refine Jx.Zn<|BI (u:=zI v) (B:=w5.heap.size) AK Bj Bz Z Z (Lh w5.heap.size w5.heap.size _ _ _hv) (A7 _) Aa ?_
   intro v6 w6 aq er e0
   refine Aj ?_
   have e1:w5.heap.size≤w6.heap.size:=aq.size
   have bx:=Ow.ext (w:=w5) (At B4) dv aq
   have bz:=Ow.ext (w:=w5) (Bb AK) bv aq
   have c1:=Ow.ext (w:=w5) (At Bd) bw aq
   have e2:=BX.ext (w:=w5) dx aq
   have e3:As S w w6:=dy.ext aq
   have e4:=dz.ext aq
   refine Jx.aM<|KD (v:=rv0) (a:=v6) Bj Bz Z Z Z bz e0.rd1 (Nat.zero_le _) OH OG Aa ?_
   intro v7 w7 F7 ar dc br
   refine Aj ⟨As.sub ar fun b hb=>z1 _ hb,?_⟩
   have e5:w6.heap.size≤w7.heap.size:=ar.size
   have au:=bx.keep (At B4) ar fun b hb hm=>by rcases b2 b hm with h9|h9|h9;exact hdj.2.1 b h9 hb;(have:=hOv.high b hb;omega);(have:=hOv.high b hb;omega)
   have c2:=c1.keep (At Bd) ar fun b hb hm=>hdj.2.2 b hm hb
   have e6:=BX.chg e2 ar hgn.2.2
   have dd:As S w w7:=e3.trans (ar.sub hSv)
   have es:=e4.more ar hSv
   refine Jx.Tb Z ?_
   have av:Cj 69 208 2 (F5++(F7++S)) g w7.heap v5 rg0 v7 (T.put c v):=⟨F5,Fg,F7,au.up oM,c2.up oM,dc,⟨fun b hb hm=>by rcases b2 b hb with h9|h9|h9;exact hdj.1 b h9 hm;(have:=hOg.high b hm;omega);(have:=hOg.high b hm;omega),fun b hb hm=>by rcases br b hm with h8|h8;(rcases b2 b hb with h9|h9|h9;exact hdj.2.1 b h9 h8;(have:=hOv.high b h8;omega);(have:=hOv.high b h8;omega));(have:=au.high b hb;omega),fun b hm hb=>by rcases br b hb with h8|h8;exact hdj.2.2 b hm h8;(have:=hOg.high b hm;omega)⟩,⟨fun hm=>by rcases b2 g hm with h9|h9|h9;exact hgn.1 h9;omega;omega,hgn.2.1,fun hm=>by rcases br g hm with h9|h9;exact hgn.2.2 h9;omega⟩,fun b hb=>z8 _ hb,fun b hb=>z1 _ (z1 _ (hSg b hb)),fun b hb=>z1 _ (z8 _ hb)⟩
   have c3:Fj S (F5++(F7++S)) w w7:=⟨fun b hb=>z1 _ (z1 _ hb),fun b hb=>by rcases zi.1 hb with hb|hb;(rcases b2 b hb with h9|h9|h9;exact .inl (hSc b h9);(right;omega);(right;omega));rcases zi.1 hb with hb|hb;(rcases br b hb with h9|h9;exact .inl (hSv b h9);(right;omega));exact .inl hb,fun b hb=>by rcases zi.1 hb with hb|hb;(have:=au.high b hb;omega);rcases zi.1 hb with hb|hb;(exact dc.high b hb);(have:=hS b hb;omega),dd⟩
   refine AT Z Aa<|Ak (p:=zP g) 1 Fx Z Z Aa<|Ak (p:=Ao (zP g) 1) (b:=g) (o:=1) 1 EW Z Z Aa (Bl (k:=2) (w:=w7) VZ Z Z (Bq av.slc) e6 sM Aa fun w9 bs et c4=>?_)
   replace c4:BX w9.heap g [vp,zI ip,v5,rg0,zN,rv0,zI (s0:Int),zI c0]:=c4
   have e7:As S w w9:=dd.trans (bs.sub (AS hgS))
   have e8:=Cj.chg av bs
   have e9:=c3.set hgS bs
   have ea:w7.heap.size≤w9.heap.size:=bs.size
   refine AT Z Aa<|Ak (p:=zP g) 5 Du Z Z Aa (Bl (k:=5) (w:=w9) On Z Z (Bq av.slv) c4 sM Aa fun f2 ae eb af=>?_)
   replace af:BX f2.heap g [vp,zI ip,v5,rg0,zN,v7,zI (s0:Int),zI c0]:=af
   have ec:As S w f2:=e7.trans (ae.sub (AS hgS))
   have b3:=Cj.chg e8 ae
   have c5:=e9.set hgS ae
   have de:w9.heap.size≤f2.heap.size:=ae.size
   exact Aj<|aH [0,0,0,2,0,0,0] Z<|Ad 1 Z<|AT Z Aa<|Ak (p:=zP g) 5 Du Z Z Aa<|Ah (p:=Ao (zP g) 5) (.inr Z) v7 Bk Z (af.ldp (i:=5) sM) Aa<|AO (v:=v7) Bj Z (Cj.slv b3) Aa<|BB (T.vals.length:Int) Z Z (Be Jw Jw) Aa<|Ac 1 Z<|A1<|Af [6] Z (zI (T.vals.length:Int)) Z ⟨_,(by rfl),c5,⟨_,_,_,af,b3⟩⟩
  refine Jx.Zn<|BI (u:=zI v) (B:=w4.heap.size) AK Bj Bz Z Z (Lh w4.heap.size w4.heap.size _ _ _hv) (A7 _) Aa ?_
  intro ff f3 a0 ed c6
  refine Aj ?_
  have df:w4.heap.size≤f3.heap.size:=a0.size
  have b4:=Ow.ext (w:=w4) (At B4) az a0
  have b5:=Ow.ext (w:=w4) (Bb AK) b0 a0
  have b6:=Ow.ext (w:=w4) (At Bd) b1 a0
  have c7:=d8.ext (At B4) a0
  have c8:=BX.ext (w:=w4) d9 a0
  have c9:As S w f3:=da.ext a0
  have ca:=db.ext a0
  refine Jx.aM<|Mu (v:=rc0) (a:=v4) B4 Oo IY Z (by decide) Z Z b4 c7 oM (Nat.zero_le _) (Nat.zero_le _) oM (by unfold maxLen;omega) Aa ?_
  intro f4 f5 f6 a1 cb a8
  refine Aj ⟨As.sub a1 fun b hb=>z8 _ hb,?_⟩
  have dg:f3.heap.size≤f5.heap.size:=a1.size
  have b7:=b5.keep (Bb AK) a1 fun b hb hm=>hdj.2.1 b hb hm
  have b8:=b6.keep (At Bd) a1 fun b hb hm=>hdj.1 b hb hm
  have cc:=c6.chg (o1) a1 fun b hb=>zH<|hOc.high b hb
  have cd:=BX.chg c8 a1 hgn.1
  have ce:As S w f5:=c9.trans (a1.sub hSc)
  have cf:=ca.more a1 hSc
  refine Jx.aM<|KD (v:=rv0) (a:=ff) Bj Bz Z Z Z b7 cc.rd1 (Nat.zero_le _) OH OG Aa ?_
  intro f0 ew f7 a4 b9 ag
  refine Aj ⟨As.sub a4 fun b hb=>z1 _ hb,?_⟩
  have dh:f5.heap.size≤ew.heap.size:=a4.size
  have a9:=cb.keep (At B4) a4 fun b hb hm=>by rcases a8 b hm with h9|h9|h9;exact hdj.2.1 b h9 hb;(have:=hOv.high b hb;omega);(have:=hOv.high b hb;omega)
  have ba:=b8.keep (At Bd) a4 fun b hb hm=>hdj.2.2 b hm hb
  have cg:=BX.chg cd a4 hgn.2.2
  have bb:As S w ew:=ce.trans (a4.sub hSv)
  have ee:=cf.more a4 hSv
  refine Jx.Tb Z ?_
  have aa:Cj 69 208 2 (f6++(f7++S)) g ew.heap f4 rg0 f0 (T.put c v):=⟨f6,Fg,f7,a9.up oM,ba.up oM,b9,⟨fun b hb hm=>by rcases a8 b hb with h9|h9|h9;exact hdj.1 b h9 hm;(have:=hOg.high b hm;omega);(have:=hOg.high b hm;omega),fun b hb hm=>by rcases ag b hm with h8|h8;(rcases a8 b hb with h9|h9|h9;exact hdj.2.1 b h9 h8;(have:=hOv.high b h8;omega);(have:=hOv.high b h8;omega));(have:=a9.high b hb;omega),fun b hm hb=>by rcases ag b hb with h8|h8;exact hdj.2.2 b hm h8;(have:=hOg.high b hm;omega)⟩,⟨fun hm=>by rcases a8 g hm with h9|h9|h9;exact hgn.1 h9;omega;omega,hgn.2.1,fun hm=>by rcases ag g hm with h9|h9;exact hgn.2.2 h9;omega⟩,fun b hb=>z8 _ hb,fun b hb=>z1 _ (z1 _ (hSg b hb)),fun b hb=>z1 _ (z8 _ hb)⟩
  have bc:Fj S (f6++(f7++S)) w ew:=⟨fun b hb=>z1 _ (z1 _ hb),fun b hb=>by rcases zi.1 hb with hb|hb;(rcases a8 b hb with h9|h9|h9;exact .inl (hSc b h9);(right;omega);(right;omega));rcases zi.1 hb with hb|hb;(rcases ag b hb with h9|h9;exact .inl (hSv b h9);(right;omega));exact .inl hb,fun b hb=>by rcases zi.1 hb with hb|hb;(have:=a9.high b hb;omega);rcases zi.1 hb with hb|hb;(exact b9.high b hb);(have:=hS b hb;omega),bb⟩
  refine AT Z Aa<|Ak (p:=zP g) 1 Fx Z Z Aa<|Ak (p:=Ao (zP g) 1) (b:=g) (o:=1) 1 EW Z Z Aa (Bl (k:=2) (w:=ew) VZ Z Z (Bq aa.slc) cg sM Aa fun ey ah ef aw=>?_)
  replace aw:BX ey.heap g [vp,zI ip,f4,rg0,zN,rv0,zI (s0:Int),zI c0]:=aw
  have ch:As S w ey:=bb.trans (ah.sub (AS hgS))
  have ci:=Cj.chg aa ah
  have cj:=bc.set hgS ah
  have di:ew.heap.size≤ey.heap.size:=ah.size
  refine AT Z Aa<|Ak (p:=zP g) 5 Du Z Z Aa (Bl (k:=5) (w:=ey) On Z Z (Bq aa.slv) aw sM Aa fun f8 ai eg aj=>?_)
  replace aj:BX f8.heap g [vp,zI ip,f4,rg0,zN,f0,zI (s0:Int),zI c0]:=aj
  have eh:As S w f8:=ch.trans (ai.sub (AS hgS))
  have bd:=Cj.chg ci ai
  have ck:=cj.set hgS ai
  have dj:ey.heap.size≤f8.heap.size:=ai.size
  exact Aj<|aH [0,0,0,2,0,0,0] Z<|Ad 1 Z<|AT Z Aa<|Ak (p:=zP g) 5 Du Z Z Aa<|Ah (p:=Ao (zP g) 5) (.inr Z) f0 Bk Z (aj.ldp (i:=5) sM) Aa<|AO (v:=f0) Bj Z (Cj.slv bd) Aa<|BB (T.vals.length:Int) Z Z (Be Jw Jw) Aa<|Ac 1 Z<|A1<|Af [6] Z (zI (T.vals.length:Int)) Z ⟨_,(by rfl),ck,⟨_,_,_,aj,bd⟩⟩
 refine Jx.Zn<|BI (u:=zI v) (B:=w1.heap.size) AK Bj Bz Z Z (Lh w1.heap.size w1.heap.size _ _ _hv) (A7 _) Aa ?_
 intro fg eu a5 ei cl
 refine Aj ?_
 have dk:w1.heap.size≤eu.heap.size:=a5.size
 have be:=Ow.ext (w:=w1.drew) (At B4) hOc a5
 have bf:=Ow.ext (w:=w1.drew) (Bb AK) hOv a5
 have bg:=Ow.ext (w:=w1.drew) (At Bd) hOg a5
 have cm:=BX.ext (w:=w1.drew) a7 a5
 have cn:As S w eu:=d6.drew.ext a5
 have co:=d7.drew.ext a5
 refine Jx.Zn<|Gk (cs:=[zI c.op,zI c.a,zI c.b,zI c.num]) (y:=c) (B:=eu.heap.size) B4 Oo IY Z (by decide) Z (Ra (U:=eu.heap.size) hc) (A7 _) Aa ?_
 intro fh f9 a2 ej cp
 refine Aj ?_
 have dl:eu.heap.size≤f9.heap.size:=a2.size
 have bh:=Ow.ext (w:=eu) (At B4) be a2
 have bi:=Ow.ext (w:=eu) (Bb AK) bf a2
 have bj:=Ow.ext (w:=eu) (At Bd) bg a2
 have cq:=cl.ext (o1) a2
 have cr:=BX.ext (w:=eu) cm a2
 have ct:As S w f9:=cn.ext a2
 have cu:=co.ext a2
 refine Jx.aM<|Mu (v:=rc0) (a:=fh) B4 Oo IY Z (by decide) Z Z bh cp oM (Nat.zero_le _) (Nat.zero_le _) oM (by unfold maxLen;omega) Aa ?_
 intro fa fb fc a3 cv ab
 refine Aj ⟨As.sub a3 fun b hb=>z8 _ hb,?_⟩
 have dm:f9.heap.size≤fb.heap.size:=a3.size
 have bk:=bi.keep (Bb AK) a3 fun b hb hm=>hdj.2.1 b hb hm
 have bl:=bj.keep (At Bd) a3 fun b hb hm=>hdj.1 b hb hm
 have cw:=cq.chg (o1) a3 fun b hb=>zH<|hOc.high b hb
 have cx:=BX.chg cr a3 hgn.1
 have cy:As S w fb:=ct.trans (a3.sub hSc)
 have cz:=cu.more a3 hSc
 refine Jx.aM<|KD (v:=rv0) (a:=fg) Bj Bz Z Z Z bk cw.rd1 (Nat.zero_le _) OH OG Aa ?_
 intro f1 ex fd a6 bm ak
 refine Aj ⟨As.sub a6 fun b hb=>z1 _ hb,?_⟩
 have dn:fb.heap.size≤ex.heap.size:=a6.size
 have ac:=cv.keep (At B4) a6 fun b hb hm=>by rcases ab b hm with h9|h9|h9;exact hdj.2.1 b h9 hb;(have:=hOv.high b hb;omega);(have:=hOv.high b hb;omega)
 have bn:=bl.keep (At Bd) a6 fun b hb hm=>hdj.2.2 b hm hb
 have d0:=BX.chg cx a6 hgn.2.2
 have bo:As S w ex:=cy.trans (a6.sub hSv)
 have ek:=cz.more a6 hSv
 refine Jx.Tb Z ?_
 have ad:Cj 69 208 2 (fc++(fd++S)) g ex.heap fa rg0 f1 (T.put c v):=⟨fc,Fg,fd,ac.up oM,bn.up oM,bm,⟨fun b hb hm=>by rcases ab b hb with h9|h9|h9;exact hdj.1 b h9 hm;(have:=hOg.high b hm;omega);(have:=hOg.high b hm;omega),fun b hb hm=>by rcases ak b hm with h8|h8;(rcases ab b hb with h9|h9|h9;exact hdj.2.1 b h9 h8;(have:=hOv.high b h8;omega);(have:=hOv.high b h8;omega));(have:=ac.high b hb;omega),fun b hm hb=>by rcases ak b hb with h8|h8;exact hdj.2.2 b hm h8;(have:=hOg.high b hm;omega)⟩,⟨fun hm=>by rcases ab g hm with h9|h9|h9;exact hgn.1 h9;omega;omega,hgn.2.1,fun hm=>by rcases ak g hm with h9|h9;exact hgn.2.2 h9;omega⟩,fun b hb=>z8 _ hb,fun b hb=>z1 _ (z1 _ (hSg b hb)),fun b hb=>z1 _ (z8 _ hb)⟩
 have bp:Fj S (fc++(fd++S)) w ex:=⟨fun b hb=>z1 _ (z1 _ hb),fun b hb=>by rcases zi.1 hb with hb|hb;(rcases ab b hb with h9|h9|h9;exact .inl (hSc b h9);(right;omega);(right;omega));rcases zi.1 hb with hb|hb;(rcases ak b hb with h9|h9;exact .inl (hSv b h9);(right;omega));exact .inl hb,fun b hb=>by rcases zi.1 hb with hb|hb;(have:=ac.high b hb;omega);rcases zi.1 hb with hb|hb;(exact bm.high b hb);(have:=hS b hb;omega),bo⟩
 refine AT Z Aa<|Ak (p:=zP g) 1 Fx Z Z Aa<|Ak (p:=Ao (zP g) 1) (b:=g) (o:=1) 1 EW Z Z Aa (Bl (k:=2) (w:=ex) VZ Z Z (Bq ad.slc) d0 sM Aa fun ez al el ax=>?_)
 replace ax:BX ez.heap g [vp,zI ip,fa,rg0,zN,rv0,zI (s0:Int),zI c0]:=ax
 have d1:As S w ez:=bo.trans (al.sub (AS hgS))
 have d2:=Cj.chg ad al
 have d3:=bp.set hgS al
 have dp:ex.heap.size≤ez.heap.size:=al.size
 refine AT Z Aa<|Ak (p:=zP g) 5 Du Z Z Aa (Bl (k:=5) (w:=ez) On Z Z (Bq ad.slv) ax sM Aa fun fe am em an=>?_)
 replace an:BX fe.heap g [vp,zI ip,fa,rg0,zN,f1,zI (s0:Int),zI c0]:=an
 have en:As S w fe:=d1.trans (am.sub (AS hgS))
 have bq:=Cj.chg d2 am
 have d4:=d3.set hgS am
 have dq:ez.heap.size≤fe.heap.size:=am.size
 exact Aj<|aH [0,0,0,2,0,0,0] Z<|Ad 1 Z<|AT Z Aa<|Ak (p:=zP g) 5 Du Z Z Aa<|Ah (p:=Ao (zP g) 5) (.inr Z) f1 Bk Z (an.ldp (i:=5) sM) Aa<|AO (v:=f1) Bj Z (Cj.slv bq) Aa<|BB (T.vals.length:Int) Z Z (Be Jw Jw) Aa<|Ac 1 Z<|A1<|Af [6] Z (zI (T.vals.length:Int)) Z ⟨_,(by rfl),d4,⟨_,_,_,an,bq⟩⟩
def YY (F d:Nat):Prop:=∀(w:World) (S:List Nat) (g:Nat) (vp:Value) (dp:Nat) (ip:Int) (s0:Nat) (c0:Int) (p:List Fn) (T:Tp) (ve:Value) (ex:Ex) (vv:Value) (env:List Int) (hS:∀b∈S,b<w.heap.size) (hgS:g∈S) (hR0:Qi 69 208 2 S g w.heap vp ip T s0 c0) (hp:RP S dp w.heap vp p) (_hip:Bt ip) (hs0:s0≤3000) (hc0:0≤c0∧c0≤9) (hbd:Jl T s0) (hex:RX S d w.heap ve ex) (henv:RN S (AX rI) w.heap vv env) (hqenv:C8 vv)
  (hvp:HE p) (hF:F≤p.length) (hwf:wf p ((F:Nat):Int) ex ((env.length:Nat):Int)=true) (hdp:env.length+ex.deep≤1000000) (hen:c0=0→Jm T env),
  Calls Tryz.prog 181 #[.pointer (some ⟨g,0,none⟩),.agg #[.int .i64 ex.kind,.int .i64 ex.num,.int .i64 ex.pick,.int .i64 ex.count,ve],vv] w (fun e w'=>∃(r:Int) (S':List Nat) (T':Tp) (s1:Nat) (c1:Int),e=.returned (.int .i64 r)∧Fj S S' w w'∧Qi 69 208 2 S' g w'.heap vp ip T' s1 c1∧U4 T T' s0 s1 c1∧(c1=0→0≤r∧r<((T'.vals.length:Nat):Int))∧(Bt r)∧AH (go c0 (GF (JP p F) ex env s0 T)) (r,T') s1 c1)
def aQ (F d:Nat):Prop:=∀(w:World) (S:List Nat) (g:Nat) (vp:Value) (dp:Nat) (ip:Int) (s0:Nat) (c0:Int) (p:List Fn) (T:Tp) (vl:Value) (l:List Ex) (vv:Value) (env:List Int) (hS:∀b∈S,b<w.heap.size) (hgS:g∈S) (hR0:Qi 69 208 2 S g w.heap vp ip T s0 c0) (hp:RP S dp w.heap vp p) (_hip:Bt ip) (hs0:s0≤3000) (hc0:0≤c0∧c0≤9) (hbd:Jl T s0) (hl:RN S (Dw 5 (Lm d)) w.heap vl l) (henv:RN S (AX rI) w.heap vv env) (hqenv:C8 vv)
  (hvp:HE p) (hF:F≤p.length) (hwf:∀k,k<l.length→wf p ((F:Nat):Int) (l.getD k Ex.zero) ((env.length:Nat):Int)=true) (hdp:∀k,k<l.length→env.length+(l.getD k Ex.zero).deep≤1000000) (hll:l.length≤1000000) (hen:c0=0→Jm T env),
  Calls Tryz.prog 102 #[.pointer (some ⟨g,0,none⟩),vl,vv] w (fun e w'=>∃(v:Value) (xs:List Int) (S':List Nat) (T':Tp) (s1:Nat) (c1:Int),e=.returned v∧Fj S S' w w'∧Qi 69 208 2 S' g w'.heap vp ip T' s1 c1∧U4 T T' s0 s1 c1∧Q7 S' w.heap.size (AX rI) w'.heap v xs∧C8 v∧xs.length=l.length∧(c1=0→Jm T' xs)∧AH (go c0 (Hw (JP p F) l env s0 T)) (xs,T') s1 c1)
theorem HJ (w:World)(S:List Nat)(F:Nat)(g:Nat)(vp:Value)(dp:Nat)(ip:Int)(s0:Nat)(c0:Int)(p:List Fn)(T:Tp)(dl:Nat)(vl:Value)(l:List Ex)(vv:Value)(env:Sr)(hS:∀b∈S,b<w.heap.size)(hgS:g∈S)(hR0:Qi 69 208 2 S g w.heap vp ip T s0 c0)(hp:RP S dp w.heap vp p)(_hip:Bt ip)(hs0:s0≤3000)(hc0:0≤c0∧c0≤9)(hbd:Jl T s0)(hl:RN S (Dw 5 (Lm dl)) w.heap vl l)(henv:RN S (AX rI) w.heap vv env)(hqenv:C8 vv)(hvp:HE p)(hF:F≤p.length)(hwf:∀k,k<l.length→wf p (F:Int) (l.getD k Ex.zero) (env.length:Int)=true)(hdp:∀k,k<l.length→env.length+(l.getD k Ex.zero).deep≤1000000)(hll:l.length≤1000000)(hen:c0=0→Jm T env)(IHv:∀d',d'<dl→YY F d') :
  Calls Tryz.prog 102 #[zP g,vl,vv] w (fun e w'=>∃(v:Value) (xs:Sr) (S':List Nat) (T':Tp) (s1:Nat) (c1:Int),e=.returned v∧Fj S S' w w'∧Qi 69 208 2 S' g w'.heap vp ip T' s1 c1∧U4 T T' s0 s1 c1∧Q7 S' w.heap.size (AX rI) w'.heap v xs∧C8 v∧xs.length=l.length∧(c1=0→Jm T' xs)∧AH (go c0 (Hw (JP p F) l env s0 T)) (xs,T') s1 c1):=by
 refine Ap [zP g,vl,vv] 26 Tryz.func102 Z Z sM ?_
 have bd:As S w w:=As.refl S w
 have ce:=hp.lenle
 unfold maxLen at ce
 have cf:=hl.lenle
 unfold maxLen at cf
 have cg:=henv.lenL
 unfold maxLen at cg
 obtain⟨rc0,rg0,rv0,be,bf⟩:=hR0
 have cu:=be.lt
 have hG0:Fj S S w w:=Fj.refl hS
 refine aI Z<|aH [3,0] Z (Ch (rI) AK Bj Bz Aa fun v1 w1 ab bs bg=>?_)
 have ao:w.heap.size≤w1.heap.size:=ab.size
 have bh:As S w w1:=bd.ext ab
 have ae:=be.ext ab
 have bi:=Cj.ext bf ab
 have bj:=hG0.ext ab
 refine Ac 1 Z<|A0<|aH [0,0,0] Z<|Ad 1 Z<|AO (v:=vl) CZ Z hl.isSl Aa<|Ac 1 Z<|A3 ?_
 obtain⟨Fo0,af⟩:=Ow.of_fr bg (A7 _)
 have ap:∀b∈Fo0,b∉S:=fun b hb hm=>by have:=af.low b hb;have:=hS b hm;omega
 have hMs:=bi
 have hGs:=bj
 refine AW (S:=Nat×Value×Sr×List Nat×List Nat×Tp×Nat×Int×Value×Value×Value) (fun⟨k,vo,xs,Fo,S9,T9,s9,c9,ch,vg9,vv9⟩=>([(7,vo),(13,zI (k:Int)),(0,zP g),(2,vv),(11,vl),(12,zI (l.length:Int))])) (fun⟨k,vo,xs,Fo,S9,T9,s9,c9,ch,vg9,vv9⟩ W=>As S w W∧BX W.heap g [vp,zI ip,ch,vg9,zN,vv9,zI (s9:Int),zI c9]∧k≤l.length∧Fj S S9 w W∧Cj 69 208 2 S9 g W.heap ch vg9 vv9 T9∧U4 T T9 s0 s9 c9∧Ow (Bi rI 2) w.heap.size W.heap.size W.heap vo xs Fo∧(∀b∈Fo,b∉S9)∧xs.length=k∧(c9=0→c0=0)∧(c9=0→Jm T9 xs)∧AH (go c0<|Hw (JP p F) (l.take k) env s0 T) (xs,T9) s9 c9) (fun⟨k,vo,xs,Fo,S9,T9,s9,c9,ch,vg9,vv9⟩=>l.length-k) (0,v1,[],Fo0,S,T,s0,c0,rc0,rg0,rv0) ⟨rfl,rfl,rfl,rfl,rfl,rfl,trivial⟩ ⟨bh,ae,sD,hGs,hMs,(by exact⟨hbd,zO⟩),af,ap,(by rfl),(by exact fun h=>h),(by exact fun _=>Jm.nil _),(by exact Rf _ _ _ _ _ _)⟩ ?_
 clear bd bf hG0 bg bs ab ao bh bi bj
 rintro⟨k,vo,xs,Fo,S9,T9,s9,c9,ch,vg9,vv9⟩ ρ3 w3 ⟨aq,a3,bk,hGl,hMl,hPl,hOl,hdl,hxl,hzl,hxb,hrl⟩
 have bt:w.heap.size≤w3.heap.size:=aq.size
 have c7:=a3.lt
 have hnl:=hPl.num
 have hbl:=hPl.bnd
 refine aH [0] Z ?_
 by_cases bl:(k:Int)<(l.length:Int)
 ·refine AE true Z Z (A5 bl) Aa<|Aj<|A0<|Ag Z<|A2<|A0<|A3<|aH [0,2,3,4] Z ?_
  have hkl:k<l.length:=by omega
  refine Az (v:=vl) k CZ Bm Z Z hl.isSl Z sD Aa ?_
  obtain⟨cs6,bu,bv⟩:=hl.get (Aw dl) Ex.zero (k:=k) sD
  obtain⟨dd6,ac,c8,rfl,am⟩:=RX.of bu
  have ar:=am.rn.lenle
  unfold maxLen at ar
  refine AL (p:=Ax vl k 5) (.inr Z) [zI<|(l.getD k Ex.zero).kind,zI<|(l.getD k Ex.zero).num,zI<|(l.getD k Ex.zero).pick,zI<|(l.getD k Ex.zero).count,ac] B6 Z (fun cl au=>bv cl<|aq.ext au) Z Aa ?_
  have ca:=a3.lt
  refine Bp (z:=.agg #[zI 0,zI 0,zI 0,zI 0,zN]) Ha Aa fun w7 ad cb av=>?_
  have bw:w3.heap.size≤w7.heap.size:=ad.size
  have bx:As S w w7:=aq.ext ad
  have a7:=a3.ext ad
  have bz:=Cj.ext hMl ad
  have c2:=hGl.ext ad
  have hO10k:=hOl.ext (Bb AK) ad
  replace av:BX w7.heap w3.heap.size [zI 0,zI 0,zI 0,zI 0,zN]:=av
  refine Bw (vs:=[zI<|(l.getD k Ex.zero).kind,zI<|(l.getD k Ex.zero).num,zI<|(l.getD k Ex.zero).pick,zI<|(l.getD k Ex.zero).count,ac]) B6 Z Z am.ones av Z Z Aa fun cc a4 c3 a8=>?_
  replace a8:BX cc.heap w3.heap.size [zI ((l.getD k Ex.zero).kind),zI ((l.getD k Ex.zero).num),zI ((l.getD k Ex.zero).pick),zI ((l.getD k Ex.zero).count),ac]:=a8
  have a9:As S w cc:=bx.fresh a4 (fun _ h=>zE h)
  have aw:=Cj.chgO bz a4 fun b hb hm=>by rw[A9 hb]at hm;exact(zH<|hGl.lt _ hm)
  have a1:=c2.fresh a4 fun _ h=>zE h
  have bm:w7.heap.size≤cc.heap.size:=a4.size
  have ax:=a7.chg a4 (zB ·)
  have ag:=hO10k.keep (Bb AK) a4 fun b hb hm=>by have:=A9 hb;have:=hO10k.low _ hm;have:=hO10k.high _ hm;omega
  refine Aj<|Ab _ [0,0,2,0,4,3,4,0] Z<|Ad 2 Z<|AL (p:=zP w3.heap.size) (.inr Z) [zI<|(l.getD k Ex.zero).kind,zI<|(l.getD k Ex.zero).num,zI<|(l.getD k Ex.zero).pick,zI<|(l.getD k Ex.zero).count,ac] B6 Z (fun cl au=>LD.of_box<|BX.ext (w:=cc) a8 au) Z Aa<|Ad 1 Z ?_
  refine AB 181 [] [] [zP g,.agg #[zI<|(l.getD k Ex.zero).kind,zI<|(l.getD k Ex.zero).num,zI<|(l.getD k Ex.zero).pick,zI<|(l.getD k Ex.zero).count,ac],vv] Z Z KS Aa (IHv dd6 oM _ S9 g vp dp ip (s9) (c9) p (T9) ac (l.getD k Ex.zero) vv (env) (fun b hb=>(a1.lt b hb:b<cc.heap.size)) (a1.sub _ hgS) ⟨_,_,_,ax,aw⟩ (RN.stp (An<|Ay dp) hp a9 a1.new) _hip oM oM hbl ⟨am.rng,RN.stp (An<|Aw dd6) am.rn a9 a1.new⟩ (RN.stp g1 henv a9 a1.new) hqenv hvp oM (by exact hwf k hkl) (by exact hdp k hkl) (by intro h9;exact(hen<|hzl h9).mono oM)) ?_
  rintro cw cd ⟨cm,ci,cn,co,cp,rfl,a0,⟨cj,vg18,vv18,ay,az⟩,ah,ai,aj,ak⟩
  refine⟨_,rfl,?_⟩
  have bn:cc.heap.size≤cd.heap.size:=a0.chg.size
  have b0:As S w cd:=a9.stp a0.chg a1.new
  have b1:=ag.keep (Bb AK) a0.chg fun b hb hm=>hdl b hm hb
  have a5:∀b∈Fo,b∉ci:=fun b hb hm=>(a0.new b hm).elim (hdl b hb) (fun h9=>zH<|ag.high b hb)
  have b2:=a8.chg a0.chg fun hm=>(zH<|hGl.lt _ hm)
  have b3:w3.heap.size∉ci:=fun hm=>(a0.new _ hm).elim (fun hm=>(zH<|hGl.lt _ hm)) (fun h9=>by omega)
  have b4:=a1.trans a0
  have bo:=ah.bnd
  have bp:=ah.num
  have hcz:=fun h9=>Xw ak h9
  have hrv:=ai
  refine (BI (u:=zI cm) (B:=cd.heap.size) AK Bj Bz Z Z (Lh cd.heap.size cd.heap.size _ _ aj) (A7 _) Aa ?_)
  intro cs ck a2 c4 b5
  have bq:cd.heap.size≤ck.heap.size:=a2.size
  have b6:As S w ck:=b0.ext a2
  have aa:=ay.ext a2
  have an:=b2.ext a2
  have b7:=Cj.ext az a2
  have al:=b4.ext a2
  have hO29k:=b1.ext (Bb AK) a2
  refine KD (v:=vo) (a:=cs) Bj Bz Z Z Z hO29k b5.rd1 oM sD (by unfold maxLen;first|omega|assumption|(simp;done)|(simp;omega)) Aa fun ct cq cr a6 c5 b8=>?_
  have br:ck.heap.size≤cq.heap.size:=a6.size
  have b9:As S w cq:=b6.fresh a6 (fun c hc=>zH<|hO29k.low c hc)
  have c6:∀b∈cr,b∉ci:=fun b hb hm=>(b8 b hb).elim (fun h9=>a5 b h9 hm) (fun h9=>zH<|al.lt b hm)
  have ba:=Cj.chgO b7 a6 a5
  have bb:=al.fresh a6 fun c hc=>zH<|hO29k.low c hc
  have bc:=aa.chg a6 fun hm=>zH<|hO29k.low _ hm
  refine Ac 1 Z<|Ab _ [0,0] Z<|AN ((k+1:Nat):Int) Z Z (Be oM oM) Aa<|Ac 1 Z ?_
  have hMe:=ba
  have hGe:=bb
  have hPe:U4 T cn s0 co cp:=⟨by assumption,zO⟩
  exact⟨(k+1,ct,xs++[cm],cr,ci,cn,co,cp,cj,vg18,vv18),_,rfl,zR,⟨b9,bc,sD,hGe,hMe,hPe,(by assumption),(by assumption),(by rw[z4,zd,hxl]),(by exact fun h9=>hzl (hcz h9)),(by exact fun h9=>Jm.snoc ((hxb (hcz h9)).mono oM) (hrv h9)),(by exact Tm oM hrl (by assumption))⟩,zD⟩
 exact AE false Z Z (A6 bl) Aa<|Aj<|A0<|Ai Z<|A4<|Av<|Av<|Aq<|aH [0,0] Z<|Ac 2 Z<|A1<|Af [6] Z vo Z ⟨vo,xs,_,T9,s9,c9,rfl,hGl,⟨_,_,_,a3,hMl⟩,⟨hbl,oM⟩,Q7.of_ow hOl hdl,hOl.fr.cap,oM,hxb,(by rw[za oM]at hrl;exact hrl)⟩
theorem Ez (w:World)(v:Value)(n:Nat)(hs:El v n)(hcs:C8 v)  :
  Calls Tryz.prog 228 #[v] w (fun e w'=>e=.returned (DD v)∧w'=w):=by
 refine Ap [v] 9 Tryz.func228 Z Z sM ?_
 have a0:w=w:=rfl
 exact aI Z<|aH [0,0,0,0,0,0,0] Z<|Ad 2 Z<|AO (v:=v) Bj Z hs Aa<|Ad 1 Z<|AO (v:=v) Bj Z hs Aa<|QC (v:=v) Bj Bz Z hs Z Z hcs Aa<|Ac 1 Z<|A1<|Af [2] Z (DD v) Z ⟨rfl,a0⟩
theorem Jy {p:Prop}(h:p:=by first|rw[(Rg (k:=c_op) (a:=a) (b:=b) oM).1,(Rg (k:=c_op) (a:=a) (b:=b) oM).2] <;> rfl|rw[(Rh (k:=c_op) (a:=a) (b:=b) oM).1,(Rh (k:=c_op) (a:=a) (b:=b) oM).2] <;> rfl|rw[(Ri (k:=c_op) (a:=a) (b:=b) oM).1,(Ri (k:=c_op) (a:=a) (b:=b) oM).2] <;> rfl|rw[(Rj (k:=c_op) (a:=a) (b:=b) oM).1,(Rj (k:=c_op) (a:=a) (b:=b) oM).2] <;> rfl|rw[(Pg (k:=c_op) (a:=a) (b:=b) oM oM).1,(Pg (k:=c_op) (a:=a) (b:=b) oM oM).2] <;> rfl|rw[(Rk (k:=c_op) (a:=a) (b:=b) oM oM).1,(Rk (k:=c_op) (a:=a) (b:=b) oM oM).2] <;> rfl):p:=h
theorem GL (w:World)(c_op c_a c_b c_n:Int)(a:Int)(b:Int)(_hc_op:Bt c_op)(_hc_a:Bt c_a)(_hc_b:Bt c_b)(_hc_n:Bt c_n)(_ha:Bt a)(_hb:Bt b)(hop:3≤c_op∧c_op≤7) :
  Calls Tryz.prog 258 #[(.agg #[(zI c_op),(zI c_a),(zI c_b),(zI c_n)]),zI a,zI b] w (fun e w'=>e=.returned (.tuple #[zI (if DW c_op b then 0 else GN c_op a b),.bool (!decide (DW c_op b))])∧AG w w'):=by
 refine Ap [.agg #[zI c_op,zI c_a,zI c_b,zI c_n],zI a,zI b] 35 Tryz.func258 Z Z sM ?_
 have a8:AG w w:=AG.refl w
 refine aH [3,0,0] Z (Bu (cs:=#[zI c_op,zI c_a,zI c_b,zI c_n]) Z Aa fun w1 a3 aa a2=>?_)
 have a9:=a3.size
 have a0:=a8.trans a3
 replace a2:BX w1.heap w.heap.size [zI c_op,zI c_a,zI c_b,zI c_n]:=a2
 refine Ac 2 Z<|A0<|aH [0,2] Z<|Ak (p:=zP w.heap.size) 0 KX Z Z Aa<|Ah (p:=Ao (zP w.heap.size) 0) (.inr Z) (zI c_op) AC Z (a2.ldp (i:=0) sM) Aa<|Aj<|A3<|aH [0,0] Z ?_
 by_cases a4:c_op=((3:Nat):Int)
 ·refine Al true Z Z (A5 a4) Aa<|Ac 1 Z<|Ag Z<|aH [0,0,0,0,0] Z<|Ad 2 Z<|AA 230 [] [] [zI a,zI b] Z Z Sn Aa (zI<|md (a+b)) (fun wq=>Hb wq _ _ _ha _hb)<|Ac 2 Z<|A1<|AF<|Am ?_
  exact Af [6,7] Z (.tuple #[zI<|md (a+b),.bool true]) Z ⟨Jy,a0⟩
 refine Al false Z Z (A6 a4) Aa<|Ac 1 Z<|Ai Z<|aH [0,0] Z ?_
 by_cases a5:c_op=((4:Nat):Int)
 ·refine Al true Z Z (A5 a5) Aa<|Ac 1 Z<|Ag Z<|aH [0,0,0,0,0] Z<|Ad 2 Z<|AA 191 [] [] [zI a,zI b] Z Z Sk Aa (zI<|md (a-b)) (fun wq=>Gw wq _ _ _ha _hb)<|Ac 2 Z<|A1<|AF<|Am ?_
  exact Af [6,7] Z (.tuple #[zI<|md (a-b),.bool true]) Z ⟨Jy,a0⟩
 refine Al false Z Z (A6 a5) Aa<|Ac 1 Z<|Ai Z<|aH [0,0] Z ?_
 by_cases a6:c_op=((5:Nat):Int)
 ·refine Al true Z Z (A5 a6) Aa<|Ac 1 Z<|Ag Z<|aH [0,0,0,0,0] Z<|Ad 2 Z<|AA 190 [] [] [zI a,zI b] Z Z UD Aa (zI<|md (a*b)) (fun wq=>IZ wq _ _ _ha _hb)<|Ac 2 Z<|A1<|AF<|Am ?_
  exact Af [6,7] Z (.tuple #[zI<|md (a*b),.bool true]) Z ⟨Jy,a0⟩
 refine Al false Z Z (A6 a6) Aa<|Ac 1 Z<|Ai Z<|aH [0,0] Z ?_
 by_cases a7:c_op=((7:Nat):Int)
 ·refine Al true Z Z (A5 a7) Aa<|Ac 1 Z<|Ag Z<|aH [0,0,0,0] Z<|Ad 1 Z<|AA 191 [] [] [zI ((0:Nat):Int),zI a] Z Z Sk Aa (zI<|md (((0:Nat):Int)-a)) (fun wq=>Gw wq _ _ oM _ha)<|Ac 2 Z<|A1<|AF<|Am ?_
  exact Af [6,7] Z (.tuple #[zI<|md (((0:Nat):Int)-a),.bool true]) Z ⟨Jy,a0⟩
 refine Al false Z Z (A6 a7) Aa<|Ac 1 Z<|Ai Z<|A2<|A0<|aH [0,0] Z<|Ad 1 Z ?_
 by_cases a1:b=((0:Nat):Int)
 ·refine Al true Z Z (A5 a1) Aa<|Aj<|Ag Z<|aH [0,0] Z<|Ac 2 Z<|A1<|Am ?_
  exact Af [6,7] Z (.tuple #[zI ((0:Nat):Int),.bool false]) Z ⟨Jy,a0⟩
 refine Al false Z Z (A6 a1) Aa<|Aj<|Ai Z<|A2<|aH [0,0,0,0,0,0] Z<|Ad 2 Z<|AA 226 [] [] [zI b] Z Z UG Aa (zI<|inv b) (fun wq=>Hd wq _ _hb)<|AA 190 [] [] [zI a,zI<|inv b] Z Z UD Aa (zI<|md (a*(inv b))) (fun wq=>IZ wq _ _ _ha<|OW _)<|Ac 2 Z<|A1 ?_
 exact Af [6,7] Z (.tuple #[zI<|md (a*(inv b)),.bool true]) Z ⟨Jy,a0⟩
theorem MT {p:Prop}(h:p:=by first|exact To hc00 oM (Xx (by assumption))|exact Tq hc00 oM (Zo (by assumption))|exact Tr hc00 oM|exact absurd (Xx (Q:=DW op _) (by assumption)) (U3 oM)):p:=h
theorem MU {p:Prop}(h:p:=by first|(intro h9;exact absurd h9 oM)|(intro h9;omega)):p:=h
theorem MV {p:Prop}(h:p:=by first|exact hbd.up oM|exact hbd.put _ hvr):p:=h
theorem DV {p:Prop}(h:p:=by have:=hG0.lt _ hm;omega):p:=h
theorem Fk (w:World)(S:List Nat)(g:Nat)(vp:Value)(dp:Nat)(ip:Int)(s0:Nat)(c0:Int)(p:List Fn)(T:Tp)(op:Int)(vk:Value)(ks:Sr)(hS:∀b∈S,b<w.heap.size)(hgS:g∈S)(hR0:Qi 69 208 2 S g w.heap vp ip T s0 c0)(hp:RP S dp w.heap vp p)(_hip:Bt ip)(hs0:s0≤3000)(hc0:0≤c0∧c0≤9)(hbd:Jl T s0)(_hop:Bt op)(hks:RN S (AX rI) w.heap vk ks)(hqks:C8 vk)(hop:3≤op∧op≤7)(hkl:1≤ks.length∧(op≠7→2≤ks.length))(hen:Jm T ks)(hc00:c0=0) :
  Calls Tryz.prog 229 #[zP g,zI op,vk] w (fun e w'=>∃(r:Int) (S':List Nat) (T':Tp) (c1:Int),e=.returned (zI r)∧Fj S S' w w'∧Qi 69 208 2 S' g w'.heap vp ip T' s0 c1∧Jl T' (s0+1)∧((0≤c1∧c1≤9)∧T.vals.length≤T'.vals.length∧T'.vals.length≤T.vals.length+1∧T'.grd.length=T.grd.length)∧(c1=0→0≤r∧r<(T'.vals.length:Int))∧(Bt r)∧AH (go c0 (Rb op ks s0 T)) (r,T') s0 c1):=by
 refine Ap [zP g,zI op,vk] 51 Tryz.func229 Z Z sM ?_
 have bi:As S w w:=As.refl S w
 have cd:=hp.lenle
 unfold maxLen at cd
 have cg:=hks.lenL
 unfold maxLen at cg
 obtain⟨rc0,rg0,rv0,b0,bv⟩:=hR0
 have cx:=b0.lt
 have hG0:Fj S S w w:=Fj.refl hS
 have ch:=hen 0 oM
 have hbn:=hbd.ln hs0
 refine aI Z<|aH [0,0,0,2,0,3,4] Z<|Ad 2 Z<|Az (v:=vk) 0 Bj Bz Z Z hks.slL Z sD Aa ?_
 have am:=RN.getI (w:=w) (k:=0) hks sD
 refine Ah (p:=Ax vk 0 1) (.inr Z) (zI<|ks.getD 0 0) AC Z (am.1 _ bi) Aa ?_
 have b1:∀(wq:World),(Instr.build 69 #[(0,zI op),(1,zI (ks.getD 0 0))]).run Tryz.prog wq=.ok (.agg #[zI op,zI (ks.getD 0 0),zI 0,zI 0]) wq:=by intro wq;kernel_rfl
 refine C7 (ps:=#[(0,zI op),(1,zI<|ks.getD 0 0)]) (.agg #[zI op,zI<|ks.getD 0 0,zI 0,zI 0]) (by simp only[zc,zf,zh];rfl) (fun wq=>b1  wq) Aa ?_
 have ci:=b0.lt
 refine Bp (z:=.agg #[zI 0,zI 0,zI 0,zI 0]) Ss Aa fun w3 an cj b2=>?_
 have bw:w.heap.size≤w3.heap.size:=an.size
 have bx:As S w w3:=bi.ext an
 have ao:=b0.ext an
 have bz:=Cj.ext bv an
 have c2:=hG0.ext an
 replace b2:BX w3.heap w.heap.size [zI 0,zI 0,zI 0,zI 0]:=b2
 refine Bw (vs:=[zI op,zI<|ks.getD 0 0,zI (0:Int),zI (0:Int)]) EX Z Z (by intro u hu;simp only[ze,z2,or_false]at hu;rcases hu with rfl|rfl|rfl|rfl <;> first|exact⟨rfl,rfl⟩) b2 Z Z Aa fun w6 ap ck ag=>?_
 replace ag:BX w6.heap w.heap.size [zI op,zI (ks.getD 0 0),zI (0:Int),zI (0:Int)]:=ag
 have b3:As S w w6:=bx.fresh ap (fun _ h=>zE h)
 have af:=Cj.chgO bz ap fun b hb hm=>by rw[A9 hb]at hm;exact DV
 have bj:=c2.fresh ap fun _ h=>zE h
 have c3:w3.heap.size≤w6.heap.size:=ap.size
 have az:=ao.chg ap (zB ·)
 refine Aj<|A0<|aH [0,0] Z<|Ad 1 Z ?_
 by_cases aq:op≠((7:Nat):Int)
 ·refine B3 true Z Z (A5 aq) Aa<|Aj<|Ag Z<|Ab _ [0,0,2,0,4] Z ?_
  have cl:=hen 1 oM
  refine Ad 1 Z<|Az (v:=vk) 1 Bj Bz Z Z hks.slL Z sD Aa ?_
  have ah:=RN.getI (w:=w) (k:=1) hks sD
  refine Ah (p:=Ax vk 1 1) (.inr Z) (zI<|ks.getD 1 0) AC Z (ah.1 _ b3) Aa<|Ak (p:=zP w.heap.size) 2 Cx Z Z Aa (Bl (k:=2) (w:=w6) GH Z Z ⟨rfl,rfl⟩ ag sM Aa fun cm a9 c4 a8=>?_)
  replace a8:BX cm.heap w.heap.size [zI op,zI (ks.getD 0 0),zI (ks.getD 1 0),zI (0:Int)]:=a8
  have b4:As S w cm:=b3.fresh a9 (fun _ h=>zE h)
  have a3:=Cj.chgO af a9 fun b hb hm=>by rw[A9 hb]at hm;exact DV
  have b5:=bj.fresh a9 fun _ h=>zE h
  have bk:w6.heap.size≤cm.heap.size:=a9.size
  have ai:=az.chg a9 (zB ·)
  refine Aj<|A0<|AQ _ [1,0,0,0,1,0,1,0,1,0,0,0,1,0,1,0,1,3,0,0,0,0,0] mixed (by kernel_rfl)<|AL (p:=zP w.heap.size) (.inl Z) [zI op,zI<|ks.getD 0 0,zI<|ks.getD 1 0,zI (0:Int)] EX Z (fun cn aj=>LD.of_box<|BX.ext (w:=cm.drew) a8 aj) Z Aa<|Ad 1 Z<|AT Z Aa<|Ak (p:=zP g) 5 Du Z Z Aa<|Ah (p:=Ao (zP g) 5) (.inl Z) rv0 Bk Z (ai.ldp (i:=5) sM) Aa<|Ak (p:=zP w.heap.size) 1 CH Z Z Aa ?_
  refine Ah (p:=Ao (zP w.heap.size) 1) (.inl Z) (zI<|ks.getD 0 0) AC Z (a8.ldp (i:=1) sM) Aa<|Az (v:=rv0) ((ks.getD 0 0).toNat) Bj Bz Z Z (Cj.slv a3) oM oM Aa (Ah (p:=Ax rv0 ((ks.getD 0 0).toNat) 1) (.inl Z) (zI<|T.vals.getD ((ks.getD 0 0).toNat) 0) AC Z ((Cj.rdv a3).getI oM).1 Aa (Ad 1 Z<|AT Z Aa<|Ak (p:=zP g) 5 Du Z Z Aa<|Ah (p:=Ao (zP g) 5) (.inl Z) rv0 Bk Z (ai.ldp (i:=5) sM) Aa<|Ak (p:=zP w.heap.size) 2 Cx Z Z Aa ?_))
  refine Ah (p:=Ao (zP w.heap.size) 2) (.inl Z) (zI<|ks.getD 1 0) AC Z (a8.ldp (i:=2) sM) Aa<|Az (v:=rv0) ((ks.getD 1 0).toNat) Bj Bz Z Z (Cj.slv a3) oM oM Aa (Ah (p:=Ax rv0 ((ks.getD 1 0).toNat) 1) (.inl Z) (zI<|T.vals.getD ((ks.getD 1 0).toNat) 0) AC Z ((Cj.rdv a3).getI oM).1 Aa (Au 258 [] [] [.agg #[zI op,zI<|ks.getD 0 0,zI<|ks.getD 1 0,zI (0:Int)],zI<|T.vals.getD ((ks.getD 0 0).toNat) 0,zI<|T.vals.getD ((ks.getD 1 0).toNat) 0] Z Z UK Aa (GL _ (op) (ks.getD 0 0) (ks.getD 1 0) (0:Int) _ _ _hop am.2 ah.2 oM ((Cj.rdv a3).getI oM).2 ((Cj.rdv a3).getI oM).2 oM) ?_))
  rintro cy c7 ⟨rfl,a0⟩
  refine⟨_,rfl,a0,?_⟩
  replace a0:=a0.of_drew
  have bl:cm.heap.size≤c7.heap.size:=a0.size
  have ar:As S w c7:=b4.ext a0
  have a7:=ai.ext a0
  have a2:=a8.ext a0
  have c5:=(Cj.rdv a3).ext g1 a0
  have au:=Cj.ext a3 a0
  have aa:=b5.ext a0
  refine Ad 1 Z<|AP (vs:=[zI (if DW op (T.vals.getD ((ks.getD 1 0).toNat) 0)then 0 else GN op (T.vals.getD ((ks.getD 0 0).toNat) 0) (T.vals.getD ((ks.getD 1 0).toNat) 0)),.bool (!decide (DW op<|T.vals.getD ((ks.getD 1 0).toNat) 0))]) (zI (if DW op (T.vals.getD ((ks.getD 1 0).toNat) 0)then 0 else GN op (T.vals.getD ((ks.getD 0 0).toNat) 0) (T.vals.getD ((ks.getD 1 0).toNat) 0))) Z Z Aa<|AP (vs:=[zI (if DW op (T.vals.getD ((ks.getD 1 0).toNat) 0)then 0 else GN op (T.vals.getD ((ks.getD 0 0).toNat) 0) (T.vals.getD ((ks.getD 1 0).toNat) 0)),.bool (!decide (DW op<|T.vals.getD ((ks.getD 1 0).toNat) 0))]) (.bool (!decide (DW op<|T.vals.getD ((ks.getD 1 0).toNat) 0))) Z Z Aa<|Ac 2 Z<|A0<|aH [0,0] Z ?_
  have hvr:0≤(if DW op (T.vals.getD ((ks.getD 1 0).toNat) 0)then 0 else GN op (T.vals.getD ((ks.getD 0 0).toNat) 0) (T.vals.getD ((ks.getD 1 0).toNat) 0))∧(if DW op (T.vals.getD ((ks.getD 1 0).toNat) 0)then 0 else GN op (T.vals.getD ((ks.getD 0 0).toNat) 0) (T.vals.getD ((ks.getD 1 0).toNat) 0))<1000003:=Pi _ _ _
  refine Ad 1 Z<|Br (!(!decide (DW op<|T.vals.getD ((ks.getD 1 0).toNat) 0))) Z Z Aa<|Aj ?_
  cases av:(!(!decide (DW op (T.vals.getD ((ks.getD 1 0).toNat) 0))))
  ·refine Ai (by first|rfl|exact zW av)<|A2<|aH [0,2,0,4,0] Z<|Ad 1 Z<|AL (p:=zP w.heap.size) (.inr Z) [zI op,zI<|ks.getD 0 0,zI<|ks.getD 1 0,zI (0:Int)] EX Z (fun cn aj=>LD.of_box<|BX.ext (w:=c7) a2 aj) Z Aa<|Ad 1 Z ?_
   refine AB 101 [] [] [zP g,.agg #[zI op,zI<|ks.getD 0 0,zI<|ks.getD 1 0,zI (0:Int)],zI (if DW op (T.vals.getD ((ks.getD 1 0).toNat) 0)then 0 else GN op (T.vals.getD ((ks.getD 0 0).toNat) 0) (T.vals.getD ((ks.getD 1 0).toNat) 0))] Z Z PE Aa (CC _ S g vp ip (s0) (c0) (T) (⟨op,ks.getD 0 0,ks.getD 1 0,(0:Int)⟩:AD) (if DW op (T.vals.getD ((ks.getD 1 0).toNat) 0)then 0 else GN op (T.vals.getD ((ks.getD 0 0).toNat) 0) (T.vals.getD ((ks.getD 1 0).toNat) 0)) (fun b hb=>(aa.lt b hb:b<c7.heap.size)) (aa.sub _ hgS) ⟨_,_,_,a7,au⟩ _hip (by exact hbd.ln hs0) ⟨_hop,am.2,ah.2,(show Bt (0:Int)from by omega)⟩ (by have:=Mw op (T.vals.getD ((ks.getD 0 0).toNat) 0) (T.vals.getD ((ks.getD 1 0).toNat) 0);split <;> omega)) ?_
   rintro cz cq ⟨cs,rfl,a4,ct,vg20,vv20,b6,b7⟩
   refine⟨_,rfl,?_⟩
   have bm:c7.heap.size≤cq.heap.size:=a4.chg.size
   have c6:As S w cq:=ar.stp a4.chg aa.new
   have b8:w.heap.size∉cs:=fun hm=>(a4.new _ hm).elim (fun hm=>DV) (fun h9=>by omega)
   have b9:=aa.trans a4
   have bn:(T.put (⟨op,ks.getD 0 0,ks.getD 1 0,(0:Int)⟩:AD) (if DW op (T.vals.getD ((ks.getD 1 0).toNat) 0)then 0 else GN op (T.vals.getD ((ks.getD 0 0).toNat) 0) (T.vals.getD ((ks.getD 1 0).toNat) 0))).vals.length=T.vals.length+1:=Gp _ _ _
   have bo:(T.put (⟨op,ks.getD 0 0,ks.getD 1 0,(0:Int)⟩:AD) (if DW op (T.vals.getD ((ks.getD 1 0).toNat) 0)then 0 else GN op (T.vals.getD ((ks.getD 0 0).toNat) 0) (T.vals.getD ((ks.getD 1 0).toNat) 0))).grd.length=T.grd.length:=rfl
   exact Ac 1 Z<|A1<|Af [6] Z (zI (T.vals.length:Int)) Z ⟨(T.vals.length:Int),_,T.put (⟨op,ks.getD 0 0,ks.getD 1 0,(0:Int)⟩:AD) (if DW op (T.vals.getD ((ks.getD 1 0).toNat) 0)then 0 else GN op (T.vals.getD ((ks.getD 0 0).toNat) 0) (T.vals.getD ((ks.getD 1 0).toNat) 0)),c0,rfl,b9,⟨_,_,_,b6,b7⟩,MV,oM,MU,oM,MT⟩
  refine Ag (by first|rfl|exact zW av)<|aH [0,0,0,4] Z<|Ad 1 Z<|AT Z Aa<|Ak (p:=zP g) 7 EG Z Z Aa (Bl (k:=7) (w:=c7) GH Z Z ⟨rfl,rfl⟩ a7 sM Aa fun co ab c8 ak=>?_)
  replace ak:BX co.heap g [vp,zI ip,rc0,rg0,zN,rv0,zI (s0:Int),zI ((6:Nat):Int)]:=ak
  have c9:As S w co:=ar.trans (ab.sub (AS hgS))
  have ba:=Cj.chg au ab
  have bb:=aa.set hgS ab
  have bp:c7.heap.size≤co.heap.size:=ab.size
  exact Aj<|aI Z<|A1<|Am<|Af [6] Z (zI ((0:Nat):Int)) Z ⟨((0:Nat):Int),_,T,((6:Nat):Int),rfl,bb,⟨_,_,_,ak,ba⟩,MV,oM,MU,oM,MT⟩
 refine B3 false Z Z (A6 aq) Aa<|Aj<|Ai Z<|A2<|A0<|AQ _ [1,0,0,0,1,0,1,0,1,0,0,0,1,0,1,0,1,3,0,0,0,0,0] mixed (by kernel_rfl)<|AL (p:=zP w.heap.size) (.inl Z) [zI op,zI<|ks.getD 0 0,zI (0:Int),zI (0:Int)] EX Z (fun cn aj=>LD.of_box<|BX.ext (w:=w6.drew) ag aj) Z Aa<|Ad 1 Z<|AT Z Aa<|Ak (p:=zP g) 5 Du Z Z Aa<|Ah (p:=Ao (zP g) 5) (.inl Z) rv0 Bk Z (az.ldp (i:=5) sM) Aa<|Ak (p:=zP w.heap.size) 1 CH Z Z Aa ?_
 refine Ah (p:=Ao (zP w.heap.size) 1) (.inl Z) (zI<|ks.getD 0 0) AC Z (ag.ldp (i:=1) sM) Aa<|Az (v:=rv0) ((ks.getD 0 0).toNat) Bj Bz Z Z (Cj.slv af) oM oM Aa (Ah (p:=Ax rv0 ((ks.getD 0 0).toNat) 1) (.inl Z) (zI<|T.vals.getD ((ks.getD 0 0).toNat) 0) AC Z ((Cj.rdv af).getI oM).1 Aa (Ad 1 Z<|AT Z Aa<|Ak (p:=zP g) 5 Du Z Z Aa<|Ah (p:=Ao (zP g) 5) (.inl Z) rv0 Bk Z (az.ldp (i:=5) sM) Aa<|Ak (p:=zP w.heap.size) 2 Cx Z Z Aa ?_))
 refine Ah (p:=Ao (zP w.heap.size) 2) (.inl Z) (zI (0:Int)) AC Z (ag.ldp (i:=2) sM) Aa<|Az (v:=rv0) ((0:Int).toNat) Bj Bz Z Z (Cj.slv af) oM oM Aa (Ah (p:=Ax rv0 ((0:Int).toNat) 1) (.inl Z) (zI<|T.vals.getD ((0:Int).toNat) 0) AC Z ((Cj.rdv af).getI oM).1 Aa (Au 258 [] [] [.agg #[zI op,zI<|ks.getD 0 0,zI (0:Int),zI (0:Int)],zI<|T.vals.getD ((ks.getD 0 0).toNat) 0,zI<|T.vals.getD ((0:Int).toNat) 0] Z Z UK Aa (GL _ (op) (ks.getD 0 0) (0:Int) (0:Int) _ _ _hop am.2 oM oM ((Cj.rdv af).getI oM).2 ((Cj.rdv af).getI oM).2 oM) ?_))
 rintro d0 ca ⟨rfl,a1⟩
 refine⟨_,rfl,a1,?_⟩
 replace a1:=a1.of_drew
 have bq:w6.heap.size≤ca.heap.size:=a1.size
 have aw:As S w ca:=b3.ext a1
 have ac:=az.ext a1
 have a6:=ag.ext a1
 have cb:=(Cj.rdv af).ext g1 a1
 have ax:=Cj.ext af a1
 have ad:=bj.ext a1
 refine Ad 1 Z<|AP (vs:=[zI (if DW op (T.vals.getD ((0:Int).toNat) 0)then 0 else GN op (T.vals.getD ((ks.getD 0 0).toNat) 0) (T.vals.getD ((0:Int).toNat) 0)),.bool (!decide (DW op<|T.vals.getD ((0:Int).toNat) 0))]) (zI (if DW op (T.vals.getD ((0:Int).toNat) 0)then 0 else GN op (T.vals.getD ((ks.getD 0 0).toNat) 0) (T.vals.getD ((0:Int).toNat) 0))) Z Z Aa<|AP (vs:=[zI (if DW op (T.vals.getD ((0:Int).toNat) 0)then 0 else GN op (T.vals.getD ((ks.getD 0 0).toNat) 0) (T.vals.getD ((0:Int).toNat) 0)),.bool (!decide (DW op<|T.vals.getD ((0:Int).toNat) 0))]) (.bool (!decide (DW op<|T.vals.getD ((0:Int).toNat) 0))) Z Z Aa<|Ac 2 Z<|A0<|aH [0,0] Z ?_
 have hvr:0≤(if DW op (T.vals.getD ((0:Int).toNat) 0)then 0 else GN op (T.vals.getD ((ks.getD 0 0).toNat) 0) (T.vals.getD ((0:Int).toNat) 0))∧(if DW op (T.vals.getD ((0:Int).toNat) 0)then 0 else GN op (T.vals.getD ((ks.getD 0 0).toNat) 0) (T.vals.getD ((0:Int).toNat) 0))<1000003:=Pi _ _ _
 refine Ad 1 Z<|Br (!(!decide (DW op<|T.vals.getD ((0:Int).toNat) 0))) Z Z Aa<|Aj ?_
 cases ay:(!(!decide (DW op (T.vals.getD ((0:Int).toNat) 0))))
 ·refine Ai (by first|rfl|exact zW ay)<|A2<|aH [0,2,0,4,0] Z<|Ad 1 Z<|AL (p:=zP w.heap.size) (.inr Z) [zI op,zI<|ks.getD 0 0,zI (0:Int),zI (0:Int)] EX Z (fun cn aj=>LD.of_box<|BX.ext (w:=ca) a6 aj) Z Aa<|Ad 1 Z ?_
  refine AB 101 [] [] [zP g,.agg #[zI op,zI<|ks.getD 0 0,zI (0:Int),zI (0:Int)],zI (if DW op (T.vals.getD ((0:Int).toNat) 0)then 0 else GN op (T.vals.getD ((ks.getD 0 0).toNat) 0) (T.vals.getD ((0:Int).toNat) 0))] Z Z PE Aa (CC _ S g vp ip (s0) (c0) (T) (⟨op,ks.getD 0 0,(0:Int),(0:Int)⟩:AD) (if DW op (T.vals.getD ((0:Int).toNat) 0)then 0 else GN op (T.vals.getD ((ks.getD 0 0).toNat) 0) (T.vals.getD ((0:Int).toNat) 0)) (fun b hb=>(ad.lt b hb:b<ca.heap.size)) (ad.sub _ hgS) ⟨_,_,_,ac,ax⟩ _hip (by exact hbd.ln hs0) ⟨_hop,am.2,(show Bt (0:Int)from by omega),(show Bt (0:Int)from by omega)⟩ (by have:=Mw op (T.vals.getD ((ks.getD 0 0).toNat) 0) (T.vals.getD ((0:Int).toNat) 0);split <;> omega)) ?_
  rintro d1 cr ⟨cu,rfl,a5,cw,vg36,vv36,bc,bd⟩
  refine⟨_,rfl,?_⟩
  have br:ca.heap.size≤cr.heap.size:=a5.chg.size
  have cc:As S w cr:=aw.stp a5.chg ad.new
  have be:w.heap.size∉cu:=fun hm=>(a5.new _ hm).elim (fun hm=>DV) (fun h9=>by omega)
  have bf:=ad.trans a5
  have bs:(T.put (⟨op,ks.getD 0 0,(0:Int),(0:Int)⟩:AD) (if DW op (T.vals.getD ((0:Int).toNat) 0)then 0 else GN op (T.vals.getD ((ks.getD 0 0).toNat) 0) (T.vals.getD ((0:Int).toNat) 0))).vals.length=T.vals.length+1:=Gp _ _ _
  have bt:(T.put (⟨op,ks.getD 0 0,(0:Int),(0:Int)⟩:AD) (if DW op (T.vals.getD ((0:Int).toNat) 0)then 0 else GN op (T.vals.getD ((ks.getD 0 0).toNat) 0) (T.vals.getD ((0:Int).toNat) 0))).grd.length=T.grd.length:=rfl
  exact Ac 1 Z<|A1<|Af [6] Z (zI (T.vals.length:Int)) Z ⟨(T.vals.length:Int),_,T.put (⟨op,ks.getD 0 0,(0:Int),(0:Int)⟩:AD) (if DW op (T.vals.getD ((0:Int).toNat) 0)then 0 else GN op (T.vals.getD ((ks.getD 0 0).toNat) 0) (T.vals.getD ((0:Int).toNat) 0)),c0,rfl,bf,⟨_,_,_,bc,bd⟩,MV,oM,MU,oM,MT⟩
 refine Ag (by first|rfl|exact zW ay)<|aH [0,0,0,4] Z<|Ad 1 Z<|AT Z Aa<|Ak (p:=zP g) 7 EG Z Z Aa (Bl (k:=7) (w:=ca) GH Z Z ⟨rfl,rfl⟩ ac sM Aa fun cp ae ce al=>?_)
 replace al:BX cp.heap g [vp,zI ip,rc0,rg0,zN,rv0,zI (s0:Int),zI ((6:Nat):Int)]:=al
 have cf:As S w cp:=aw.trans (ae.sub (AS hgS))
 have bg:=Cj.chg ax ae
 have bh:=ad.set hgS ae
 have bu:ca.heap.size≤cp.heap.size:=ae.size
 exact Aj<|aI Z<|A1<|Am<|Af [6] Z (zI ((0:Nat):Int)) Z ⟨((0:Nat):Int),_,T,((6:Nat):Int),rfl,bh,⟨_,_,_,al,bg⟩,MV,oM,MU,oM,MT⟩
theorem OI (F d:Nat)(IH:∀d',d'<d→YY F d'):aQ F d:=by
 intro w S g vp dp ip s0 c0 p T vl l vv env hS hgS hR0 hp hip hs0 hc0 hbd hl henv hqenv hvp hF hwf hdp hll hen
 exact HJ w S F g vp dp ip s0 c0 p T d vl l vv env hS hgS hR0 hp hip hs0 hc0 hbd hl henv hqenv hvp hF hwf hdp hll hen IH
theorem E5 {p:Prop}(h:p:=by first|exact Tj oM|exact Q6 oM oM|exact Vu hc00 hs1 oM|exact Vv hc00 hs1 oM|exact Vw hc00 hs1 oM oM hL1 oM|exact Vx hc00 hs1 oM oM hL1 oM (by assumption) hL2|exact Vy hc00 hs1 oM oM hL1 oM (by assumption) hL2|exact Vz hc00 hs1 oM oM hL1 hL2|exact Re hc00 hs1 hkg.1 hkg.2.1 hkg.2.2.1 hkg.2.2.2 hKr oM|exact Tk hc00 hs1 oM oM hKr oM hL2|exact Tl hc00 hs1 oM oM hKr oM (Tn hrl9 oM oM)|exact Xv hc00 hs1 hkg.1 hkg.2.1 hkg.2.2.1 hkg.2.2.2 oM oM hKr oM hL2):p:=h
theorem E6 {p:Prop}(h:p:=by first|(intro h9;exact absurd h9 oM)|assumption|(intro h9;omega)|(intro h9;have:=hkb9 h9;omega)):p:=h
theorem Gz {p:Prop}(h:p:=by first|assumption|exact hbd.up oM|exact Jl.guard (by assumption) _ _ oM):p:=h
theorem E7 {p:Prop}(h:p:=by first|assumption|exact hbd.put _ oM|exact Jl.dn (by assumption) oM oM):p:=h
theorem HK (w:World)(S:List Nat)(F:Nat)(g:Nat)(vp:Value)(dp:Nat)(ip:Int)(s0:Nat)(c0:Int)(p:List Fn)(T:Tp)(dex:Nat)(ve:Value)(ex:Ex)(vv:Value)(env:Sr)(hS:∀b∈S,b<w.heap.size)(hgS:g∈S)(hR0:Qi 69 208 2 S g w.heap vp ip T s0 c0)(hp:RP S dp w.heap vp p)(_hip:Bt ip)(hs0:s0≤3000)(hc0:0≤c0∧c0≤9)(hbd:Jl T s0)(hex:RX S dex w.heap ve ex)(henv:RN S (AX rI) w.heap vv env)(hqenv:C8 vv)(hvp:HE p)(hF:F≤p.length)(hwf:wf p (F:Int) ex (env.length:Int)=true)(hdp:env.length+ex.deep≤1000000)(hen:c0=0→Jm T env)(IH1:∀F',F'<F→∀d,YY F' d)(IH2:∀d',d'<dex→YY F d') :
  Calls Tryz.prog 181 #[zP g,(.agg #[(zI ex.kind),(zI ex.num),(zI ex.pick),(zI ex.count),ve]),vv] w (fun e w'=>∃(r:Int) (S':List Nat) (T':Tp) (s1:Nat) (c1:Int),e=.returned (zI r)∧Fj S S' w w'∧Qi 69 208 2 S' g w'.heap vp ip T' s1 c1∧U4 T T' s0 s1 c1∧(c1=0→0≤r∧r<(T'.vals.length:Int))∧(Bt r)∧AH (go c0 (GF (JP p F) ex env s0 T)) (r,T') s1 c1):=by
 refine Ap [zP g,.agg #[zI ex.kind,zI ex.num,zI ex.pick,zI ex.count,ve],vv] 190 Tryz.func181 Z Z sM ?_
 have j4:As S w w:=As.refl S w
 have fi:=hp.lenle
 unfold maxLen at fi
 have fj:=hex.rn.lenle
 unfold maxLen at fj
 have fk:=henv.lenL
 unfold maxLen at fk
 obtain⟨rc0,rg0,rv0,g9,j5⟩:=hR0
 have mr:=g9.lt
 have hG0:Fj S S w w:=Fj.refl hS
 have hdk:=DC ex
 refine aH [3,0] Z ?_
 have ky:=g9.lt
 refine Bu (cs:=#[zI ex.kind,zI ex.num,zI ex.pick,zI ex.count,ve]) Z Aa fun w1 d3 ka g0=>?_
 have ga:w.heap.size≤w1.heap.size:=d3.size
 have gb:As S w w1:=j4.ext d3
 have ai:=g9.ext d3
 have g2:=Cj.ext j5 d3
 have g3:=hG0.ext d3
 replace g0:BX w1.heap w.heap.size [zI ex.kind,zI ex.num,zI ex.pick,zI ex.count,ve]:=g0
 refine Ac 1 Z<|A0<|aH [0,0,0,2,0] Z<|Ad 1 Z<|AT Z Aa<|Ak (p:=zP g) 7 EG Z Z Aa<|Ah (p:=Ao (zP g) 7) (.inr Z) (zI c0) AC Z (ai.ldp (i:=7) sM) Aa ?_
 by_cases j6:c0≠((0:Nat):Int)
 ·refine B3 true Z Z (A5 j6) Aa<|Aj<|Ag Z<|aI Z<|A1<|Am ?_
  exact Af [6] Z (zI ((0:Nat):Int)) Z ⟨((0:Nat):Int),_,T,s0,c0,rfl,g3,⟨_,_,_,ai,g2⟩,⟨E7,oM⟩,E6,oM,E5⟩
 refine B3 false Z Z (A6 j6) Aa<|Aj<|Ai Z<|A2<|A0<|aH [0,0,0,2,0] Z<|Ad 1 Z<|AT Z Aa<|Ak (p:=zP g) 6 MH Z Z Aa<|Ah (p:=Ao (zP g) 6) (.inr Z) (zI (s0:Int)) AC Z (ai.ldp (i:=6) sM) Aa ?_
 by_cases j7:(s0:Int)=((3000:Nat):Int)
 ·refine Al true Z Z (A5 j7) Aa<|Aj<|Ag Z<|aH [0,0,0,4] Z<|Ad 1 Z<|AT Z Aa<|Ak (p:=zP g) 7 EG Z Z Aa (Bl (k:=7) (w:=w1) GH Z Z ⟨rfl,rfl⟩ ai sM Aa fun w6 d4 kz gc=>?_)
  replace gc:BX w6.heap g [vp,zI ip,rc0,rg0,zN,rv0,zI (s0:Int),zI ((7:Nat):Int)]:=gc
  have l0:As S w w6:=gb.trans (d4.sub (AS hgS))
  have kb:=Cj.chg g2 d4
  have kc:=g3.set hgS d4
  have kd:w1.heap.size≤w6.heap.size:=d4.size
  have ke:=g0.chg d4 (zB ·)
  refine Aj<|aI Z<|A1<|Am ?_
  exact Af [6] Z (zI ((0:Nat):Int)) Z ⟨((0:Nat):Int),_,T,s0,((7:Nat):Int),rfl,kc,⟨_,_,_,gc,kb⟩,⟨E7,oM⟩,E6,oM,E5⟩
 refine Al false Z Z (A6 j7) Aa<|Aj<|Ai Z<|A2<|aH [0,0,0,2,0,0,0,4] Z<|Ad 1 Z<|AT Z Aa<|Ak (p:=zP g) 6 MH Z Z Aa<|Ah (p:=Ao (zP g) 6) (.inr Z) (zI (s0:Int)) AC Z (ai.ldp (i:=6) sM) Aa<|AN ((s0+1:Nat):Int) Z Z (Be oM oM) Aa<|AT Z Aa<|Ak (p:=zP g) 6 MH Z Z Aa (Bl (k:=6) (w:=w1) GH Z Z ⟨rfl,rfl⟩ ai sM Aa fun f3 b0 gd aw=>?_)
 replace aw:BX f3.heap g [vp,zI ip,rc0,rg0,zN,rv0,zI ((s0+1:Nat):Int),zI c0]:=aw
 have a4:As S w f3:=gb.trans (b0.sub (AS hgS))
 have b1:=Cj.chg g2 b0
 have a0:=g3.set hgS b0
 have d5:w1.heap.size≤f3.heap.size:=b0.size
 have ac:=g0.chg b0 (zB ·)
 refine Aj<|A0<|aH [0,2] Z ?_
 have hc00:c0=0:=by omega
 have hs1:s0+1≤3000:=by omega
 have ax:=hen hc00
 have kf:=hbd.up (s':=s0+1) oM
 have hbn:=hbd.2
 refine Ak (p:=zP w.heap.size) 0 Bg Z Z Aa<|Ah (p:=Ao (zP w.heap.size) 0) (.inr Z) (zI ex.kind) AC Z (ac.ldp (i:=0) sM) Aa<|Aj<|A3<|aH [0,0] Z ?_
 by_cases d6:ex.kind=((1:Nat):Int)
 ·refine Al true Z Z (A5 d6) Aa<|Ac 1 Z<|Ag Z<|aH [0,0,2,0,0,2,4,0] Z ?_
  have hwk:=O4 hwf oM
  refine Ad 1 Z<|Ak (p:=zP w.heap.size) 1 BE Z Z Aa<|Ah (p:=Ao (zP w.heap.size) 1) (.inr Z) (zI ex.num) AC Z (ac.ldp (i:=1) sM) Aa ?_
  have d7:∀(wq:World),(Instr.build 69 #[(0,zI ((2:Nat):Int)),(3,zI ex.num)]).run Tryz.prog wq=.ok (.agg #[zI ((2:Nat):Int),zI 0,zI 0,zI ex.num]) wq:=by intro wq;kernel_rfl
  refine C7 (ps:=#[(0,zI ((2:Nat):Int)),(3,zI ex.num)]) (.agg #[zI ((2:Nat):Int),zI 0,zI 0,zI ex.num]) (by simp only[zc,zf,zh];rfl) (fun wq=>d7  wq) Aa<|Ak (p:=zP w.heap.size) 1 BE Z Z Aa<|Ah (p:=Ao (zP w.heap.size) 1) (.inr Z) (zI ex.num) AC Z (ac.ldp (i:=1) sM) Aa ?_
  refine AB 101 [] [] [zP g,.agg #[zI ((2:Nat):Int),zI (0:Int),zI (0:Int),zI ex.num],zI ex.num] Z Z PE Aa (CC _ S g vp ip (s0+1) (c0) (T) (⟨((2:Nat):Int),(0:Int),(0:Int),ex.num⟩:AD) (ex.num) (fun b hb=>(a0.lt b hb:b<f3.heap.size)) (a0.sub _ hgS) ⟨_,_,_,aw,b1⟩ _hip (by exact Jl.ln (by assumption) oM) ⟨(show Bt ((2:Nat):Int)from by omega),(show Bt (0:Int)from by omega),(show Bt (0:Int)from by omega),hex.rng.num⟩ hex.rng.num) ?_
  rintro ms lj ⟨ly,rfl,an,lz,vg18,vv18,ge,gf⟩
  refine⟨_,rfl,?_⟩
  have j8:f3.heap.size≤lj.heap.size:=an.chg.size
  have kg:As S w lj:=a4.stp an.chg a0.new
  have kh:=ac.chg an.chg fun hm=>DV
  have gg:w.heap.size∉ly:=fun hm=>(an.new _ hm).elim (fun hm=>DV) (fun h9=>by omega)
  have gh:=a0.trans an
  have j9:(T.put (⟨((2:Nat):Int),(0:Int),(0:Int),ex.num⟩:AD) (ex.num)).vals.length=T.vals.length+1:=Gp _ _ _
  have ja:(T.put (⟨((2:Nat):Int),(0:Int),(0:Int),ex.num⟩:AD) (ex.num)).grd.length=T.grd.length:=rfl
  refine Ac 1 Z<|A1<|AF<|Am ?_
  exact Af [6] Z (zI (T.vals.length:Int)) Z ⟨(T.vals.length:Int),_,T.put (⟨((2:Nat):Int),(0:Int),(0:Int),ex.num⟩:AD)<|ex.num,s0+1,c0,rfl,gh,⟨_,_,_,ge,gf⟩,⟨E7,oM⟩,E6,oM,E5⟩
 refine Al false Z Z (A6 d6) Aa<|Ac 1 Z<|Ai Z<|aH [0,0] Z ?_
 by_cases d8:ex.kind=((2:Nat):Int)
 ·refine Al true Z Z (A5 d8) Aa<|Ac 1 Z<|Ag Z<|aH [0,0,2,0,2,0] Z ?_
  have hwk:=O5 hwf oM
  have hRv:=ax ex.num.toNat oM
  refine Ad 1 Z<|Ak (p:=zP w.heap.size) 1 BE Z Z Aa<|Ah (p:=Ao (zP w.heap.size) 1) (.inr Z) (zI ex.num) AC Z (ac.ldp (i:=1) sM) Aa<|Az (v:=vv) ((ex.num).toNat) Bj Bz Z Z henv.slL oM oM Aa ?_
  have da:=RN.getI (w:=w) (k:=(ex.num).toNat) henv oM
  refine Ah (p:=Ax vv ((ex.num).toNat) 1) (.inr Z) (zI<|env.getD ((ex.num).toNat) 0) AC Z (da.1 _ a4) Aa<|Ac 1 Z<|A1<|AF<|Am ?_
  exact Af [6] Z (zI<|env.getD ((ex.num).toNat) 0) Z ⟨env.getD ((ex.num).toNat) 0,_,T,s0+1,c0,rfl,a0,⟨_,_,_,aw,b1⟩,⟨E7,oM⟩,E6,da.2,E5⟩
 refine Al false Z Z (A6 d8) Aa<|Ac 1 Z<|Ai Z<|aH [0,0] Z ?_
 by_cases db:ex.kind=((8:Nat):Int)
 ·refine Al true Z Z (A5 db) Aa<|Ac 1 Z<|Ag Z<|aH [0,0,2,0,2,0,4,0] Z ?_
  have hwk:=QX hwf oM
  refine Ad 1 Z<|Ak (p:=zP w.heap.size) 4 B8 Z Z Aa<|Ah (p:=Ao (zP w.heap.size) 4) (.inr Z) ve Bf Z (ac.ldp (i:=4) sM) Aa<|Az (v:=ve) 0 CZ Bm Z Z hex.rn.isSl Z sD Aa ?_
  obtain⟨cs28,gi,gj⟩:=hex.rn.get (Aw dex) Ex.zero (k:=0) sD
  obtain⟨dd28,cc,ki,rfl,cd⟩:=RX.of gi
  have dc:=cd.rn.lenle
  unfold maxLen at dc
  refine AL (p:=Ax ve 0 5) (.inr Z) [zI<|(ex.kids.getD 0 Ex.zero).kind,zI<|(ex.kids.getD 0 Ex.zero).num,zI<|(ex.kids.getD 0 Ex.zero).pick,zI<|(ex.kids.getD 0 Ex.zero).count,cc] B6 Z (fun fc ce=>gj fc<|a4.ext ce) Z Aa<|Ad 1 Z ?_
  refine AB 181 [] [] [zP g,.agg #[zI<|(ex.kids.getD 0 Ex.zero).kind,zI<|(ex.kids.getD 0 Ex.zero).num,zI<|(ex.kids.getD 0 Ex.zero).pick,zI<|(ex.kids.getD 0 Ex.zero).count,cc],vv] Z Z KS Aa (IH2 dd28 oM _ S g vp dp ip (s0+1) (c0) p (T) cc (ex.kids.getD 0 Ex.zero) vv (env) (fun b hb=>(a0.lt b hb:b<f3.heap.size)) (a0.sub _ hgS) ⟨_,_,_,aw,b1⟩ (RN.stp (An<|Ay dp) hp a4 a0.new) _hip oM oM Gz ⟨cd.rng,RN.stp (An<|Aw dd28) cd.rn a4 a0.new⟩ (RN.stp g1 henv a4 a0.new) hqenv hvp oM (by exact Dz hwf oM oM) (zH<|D7 (l:=ex.kids) (k:=0) oM) (by exact fun _=>ax)) ?_
  rintro mt fb ⟨f0,l7,f1,l3,fg,rfl,ao,⟨fl,vg29,vv29,b4,b5⟩,dd,de,df,dg⟩
  refine⟨_,rfl,?_⟩
  have jb:f3.heap.size≤fb.heap.size:=ao.chg.size
  have dh:As S w fb:=a4.stp ao.chg a0.new
  have di:=ac.chg ao.chg fun hm=>DV
  have b6:w.heap.size∉l7:=fun hm=>(ao.new _ hm).elim (fun hm=>DV) (fun h9=>by omega)
  have bi:=a0.trans ao
  have jc:=dd.bnd
  have jd:=dd.num
  have gk:=de
  have hL1:=dg
  refine Ac 1 Z<|A0<|aH [0,0,0,2,0] Z<|Ad 1 Z<|AT Z Aa<|Ak (p:=zP g) 7 EG Z Z Aa<|Ah (p:=Ao (zP g) 7) (.inr Z) (zI fg) AC Z (b4.ldp (i:=7) sM) Aa ?_
  by_cases dj:fg≠((0:Nat):Int)
  ·refine B3 true Z Z (A5 dj) Aa<|Aj<|Ag Z<|aI Z<|A1<|Am<|AF<|Am ?_
   exact Af [6] Z (zI ((0:Nat):Int)) Z ⟨((0:Nat):Int),_,f1,l3,fg,rfl,bi,⟨_,_,_,b4,b5⟩,⟨E7,oM⟩,E6,oM,E5⟩
  refine B3 false Z Z (A6 dj) Aa<|Aj<|Ai Z<|A2<|aH [0,0,0,2,0,0,2,0,0] Z ?_
  have hR1c:=gk oM
  refine Ad 1 Z<|AT Z Aa<|Ak (p:=zP g) 5 Du Z Z Aa<|Ah (p:=Ao (zP g) 5) (.inr Z) vv29 Bk Z (b4.ldp (i:=5) sM) Aa<|Ad 1 Z<|Az (v:=vv29) ((f0).toNat) Bj Bz Z Z (Cj.slv b5) oM oM Aa (Ah (p:=Ax vv29 ((f0).toNat) 1) (.inr Z) (zI<|f1.vals.getD ((f0).toNat) 0) AC Z ((Cj.rdv b5).getI oM).1 Aa (Al (decide (f1.vals.getD ((f0).toNat) 0=((0:Nat):Int))) Z Z Z Aa<|Ac 1 Z<|A0 ?_))
  obtain⟨Fc38,Fg38,Fv38,b7,dk,b8,ap,az,dl,bt,dm⟩:=id b5
  refine Ab _ [0,0,0,0,0,2,0,0,0,3,4,0,0,0,4] Z<|Ad 2 Z<|AT Z Aa<|Ak (p:=zP g) 1 Fx Z Z Aa<|Ak (p:=Ao (zP g) 1) (b:=g) (o:=1) 2 MG Z Z Aa<|Ah (p:=Ao (Ao (zP g) 1) 2) (.inr Z) vg29 Sp Z (b4.ldp (i:=3) sM) Aa<|Ad 2 Z ?_
  have dn:∀(wq:World),(Instr.build 208 #[(0,zI f0),(1,.bool (decide (f1.vals.getD ((f0).toNat) 0=((0:Nat):Int))))]).run Tryz.prog wq=.ok (.agg #[zI f0,.bool (decide (f1.vals.getD ((f0).toNat) 0=((0:Nat):Int)))]) wq:=by intro wq;kernel_rfl
  refine C7 (ps:=#[(0,zI f0),(1,.bool<|decide (f1.vals.getD ((f0).toNat) 0=((0:Nat):Int)))]) (.agg #[zI f0,.bool<|decide (f1.vals.getD ((f0).toNat) 0=((0:Nat):Int))]) (by simp only[zc,zf,zh];rfl) (fun wq=>dn  wq) Aa (Gk (cs:=[zI f0,.bool<|decide (f1.vals.getD ((f0).toNat) 0=((0:Nat):Int))]) (y:=(⟨f0,decide (f1.vals.getD ((f0).toNat) 0=((0:Nat):Int))⟩:I9)) (B:=fb.heap.size) Bd YJ Oq Z (by decide) Z (Vt (x:=(⟨f0,decide (f1.vals.getD ((f0).toNat) 0=((0:Nat):Int))⟩:I9)) (B:=fb.heap.size) (U:=fb.heap.size) df) (A7 _) Aa fun m0 l8 a7 kj gl=>?_)
  have je:fb.heap.size≤l8.heap.size:=a7.size
  have kk:As S w l8:=dh.ext a7
  have bj:=b4.ext a7
  have g4:=di.ext a7
  have kl:=(Cj.rdv b5).ext g1 a7
  have gm:=bi.ext a7
  have hOc38x:=b7.ext (At B4) a7
  have hOg38x:=dk.ext (At Bd) a7
  have hOv38x:=b8.ext (Bb AK) a7
  refine Mu (v:=vg29) (a:=m0) Bd YJ Oq Z (by decide) Z Z hOg38x gl (A7 _) (Nat.zero_le _) (Nat.zero_le _) oM (by unfold maxLen;omega) Aa fun lk fd ll b9 dq bk=>?_
  have dr:l8.heap.size≤fd.heap.size:=b9.size
  obtain⟨fm,bu⟩:∃l:List Nat,l=ll++l7:=⟨_,rfl⟩
  have aq:Fj l7 fm fb fd:=by rw[bu];exact⟨fun b hb=>z1 _ hb,fun b hb=>by rcases zi.1 hb with hb|hb;(rcases bk b hb with h9|h9|h9;exact .inl (bt b h9);(have:=a7.size;omega);(have:=a7.size;omega));exact .inl hb,fun b hb=>by rcases zi.1 hb with hb|hb;exact dq.high b hb;(have:=gm.lt b hb;omega),(As.of_ext _ a7).trans (b9.sub bt)⟩
  have ds:Cj 69 208 2 fm g fd.heap fl lk vv29 (f1.guard (f0) (decide (f1.vals.getD ((f0).toNat) 0=((0:Nat):Int)))):=⟨Fc38,ll,Fv38,(hOc38x.up a7.size).chgS (At B4) b9 (fun b hb hm=>ap.1 b hm hb),dq,(hOv38x.up a7.size).chgS (Bb AK) b9 (fun b hb hm=>ap.2.2 b hb hm),⟨fun b hb hm=>by rcases bk b hm with h9|h9|h9;exact ap.1 b hb h9;(have:=b7.high b hb;omega);(have:=b7.high b hb;have:=a7.size;omega),ap.2.1,fun b hm hb=>by rcases bk b hm with h9|h9|h9;exact ap.2.2 b h9 hb;(have:=b8.high b hb;omega);(have:=b8.high b hb;have:=a7.size;omega)⟩,⟨az.1,fun hm=>by rcases bk g hm with h9|h9|h9;exact az.2.1 h9;omega;omega,az.2.2⟩,by rw[bu];exact⟨fun b hb=>z1 _ (dl b hb),fun b hb=>z8 _ hb,fun b hb=>z1 _ (dm b hb)⟩⟩
  have gn:=bj.chg b9 az.2.1
  have dr:fb.heap.size≤fd.heap.size:=aq.chg.size
  have gp:As S w fd:=dh.stp aq.chg bi.new
  have gq:=di.chg aq.chg fun hm=>b6 hm
  have al:w.heap.size∉fm:=fun hm=>(aq.new _ hm).elim (fun hm=>b6 hm) (fun h9=>by omega)
  have gr:=bi.trans aq
  have jf:(f1.guard (f0) (decide (f1.vals.getD ((f0).toNat) 0=((0:Nat):Int)))).vals.length=f1.vals.length:=rfl
  have jg:(f1.guard (f0) (decide (f1.vals.getD ((f0).toNat) 0=((0:Nat):Int)))).grd.length=f1.grd.length+1:=Nt _ _ _
  refine AT Z Aa<|Ak (p:=zP g) 1 Fx Z Z Aa<|Ak (p:=Ao (zP g) 1) (b:=g) (o:=1) 2 MG Z Z Aa (Bl (k:=3) (w:=fd) ZV Z Z (Bq ds.slg) gn sM Aa fun fe ba km bl=>?_)
  replace bl:BX fe.heap g [vp,zI ip,fl,lk,zN,vv29,zI (l3:Int),zI fg]:=bl
  have ah:As S w fe:=gp.trans (ba.sub (AS hgS))
  have dt:=Cj.chg ds ba
  have aa:=gr.set hgS ba
  have jh:fd.heap.size≤fe.heap.size:=ba.size
  have bm:=gq.chg ba (zB ·)
  refine Aj<|A0<|aH [0] Z<|Ac 1 Z ?_
  cases bn:(decide (f1.vals.getD ((f0).toNat) 0=((0:Nat):Int)))
  ·have ji:=of_decide_eq_false bn
   refine Ai (by first|rfl|exact zW bn)<|A2<|aH [0,0,2,0,2,0,4,0] Z<|Ad 1 Z<|Ak (p:=zP w.heap.size) 4 B8 Z Z Aa<|Ah (p:=Ao (zP w.heap.size) 4) (.inr Z) ve Bf Z (bm.ldp (i:=4) sM) Aa<|Az (v:=ve) 2 CZ Bm Z Z hex.rn.isSl Z sD Aa ?_
   obtain⟨cs60,gs,gt⟩:=hex.rn.get (Aw dex) Ex.zero (k:=2) sD
   obtain⟨dd60,cf,kn,rfl,cg⟩:=RX.of gs
   have du:=cg.rn.lenle
   unfold maxLen at du
   refine AL (p:=Ax ve 2 5) (.inr Z) [zI<|(ex.kids.getD 2 Ex.zero).kind,zI<|(ex.kids.getD 2 Ex.zero).num,zI<|(ex.kids.getD 2 Ex.zero).pick,zI<|(ex.kids.getD 2 Ex.zero).count,cf] B6 Z (fun fc ce=>gt fc<|ah.ext ce) Z Aa<|Ad 1 Z ?_
   refine AB 181 [] [] [zP g,.agg #[zI<|(ex.kids.getD 2 Ex.zero).kind,zI<|(ex.kids.getD 2 Ex.zero).num,zI<|(ex.kids.getD 2 Ex.zero).pick,zI<|(ex.kids.getD 2 Ex.zero).count,cf],vv] Z Z KS Aa (IH2 dd60 oM _ fm g vp dp ip (l3) (fg) p (f1.guard (f0)<|decide (f1.vals.getD ((f0).toNat) 0=((0:Nat):Int))) cf (ex.kids.getD 2 Ex.zero) vv (env) (fun b hb=>(aa.lt b hb:b<fe.heap.size)) (aa.sub _ hgS) ⟨_,_,_,bl,dt⟩ (RN.stp (An<|Ay dp) hp ah aa.new) _hip oM oM Gz ⟨cg.rng,RN.stp (An<|Aw dd60) cg.rn ah aa.new⟩ (RN.stp g1 henv ah aa.new) hqenv hvp oM (by exact Dz hwf oM oM) (zH<|D7 (l:=ex.kids) (k:=2) oM) (by exact fun _=>ax.mono (by simp only[Ns];omega))) ?_
   rintro mu lm ⟨lo,m1,m2,m3,m4,rfl,ar,⟨m5,vg61,vv61,gu,gv⟩,dv,dw,dx,dy⟩
   refine⟨_,rfl,?_⟩
   have jj:fe.heap.size≤lm.heap.size:=ar.chg.size
   have ko:As S w lm:=ah.stp ar.chg aa.new
   have kp:=bm.chg ar.chg fun hm=>al hm
   have gw:w.heap.size∉m1:=fun hm=>(ar.new _ hm).elim (fun hm=>al hm) (fun h9=>by omega)
   have gx:=aa.trans ar
   have jk:=dv.bnd
   have jl:=dv.num
   have hRv:=dw
   have hL2:=dy
   refine Ac 1 Z<|A1<|AF<|Am ?_
   exact Af [6] Z (zI lo) Z ⟨lo,_,m2,m3,m4,rfl,gx,⟨_,_,_,gu,gv⟩,⟨E7,oM⟩,E6,dx,E5⟩
  have jm:=of_decide_eq_true bn
  refine Ag (by first|rfl|exact zW bn)<|aH [0,0,2,0,2,0,4,0] Z<|Ad 1 Z<|Ak (p:=zP w.heap.size) 4 B8 Z Z Aa<|Ah (p:=Ao (zP w.heap.size) 4) (.inr Z) ve Bf Z (bm.ldp (i:=4) sM) Aa<|Az (v:=ve) 1 CZ Bm Z Z hex.rn.isSl Z sD Aa ?_
  obtain⟨cs72,gy,gz⟩:=hex.rn.get (Aw dex) Ex.zero (k:=1) sD
  obtain⟨dd72,ch,kq,rfl,ci⟩:=RX.of gy
  have dz:=ci.rn.lenle
  unfold maxLen at dz
  refine AL (p:=Ax ve 1 5) (.inr Z) [zI<|(ex.kids.getD 1 Ex.zero).kind,zI<|(ex.kids.getD 1 Ex.zero).num,zI<|(ex.kids.getD 1 Ex.zero).pick,zI<|(ex.kids.getD 1 Ex.zero).count,ch] B6 Z (fun fc ce=>gz fc<|ah.ext ce) Z Aa<|Ad 1 Z ?_
  refine AB 181 [] [] [zP g,.agg #[zI<|(ex.kids.getD 1 Ex.zero).kind,zI<|(ex.kids.getD 1 Ex.zero).num,zI<|(ex.kids.getD 1 Ex.zero).pick,zI<|(ex.kids.getD 1 Ex.zero).count,ch],vv] Z Z KS Aa (IH2 dd72 oM _ fm g vp dp ip (l3) (fg) p (f1.guard (f0)<|decide (f1.vals.getD ((f0).toNat) 0=((0:Nat):Int))) ch (ex.kids.getD 1 Ex.zero) vv (env) (fun b hb=>(aa.lt b hb:b<fe.heap.size)) (aa.sub _ hgS) ⟨_,_,_,bl,dt⟩ (RN.stp (An<|Ay dp) hp ah aa.new) _hip oM oM Gz ⟨ci.rng,RN.stp (An<|Aw dd72) ci.rn ah aa.new⟩ (RN.stp g1 henv ah aa.new) hqenv hvp oM (by exact Dz hwf oM oM) (zH<|D7 (l:=ex.kids) (k:=1) oM) (by exact fun _=>ax.mono (by simp only[Ns];omega))) ?_
  rintro mv lp ⟨lq,m6,m7,m8,m9,rfl,au,⟨ma,vg73,vv73,i0,i1⟩,e0,e1,e2,e3⟩
  refine⟨_,rfl,?_⟩
  have jn:fe.heap.size≤lp.heap.size:=au.chg.size
  have kr:As S w lp:=ah.stp au.chg aa.new
  have kt:=bm.chg au.chg fun hm=>al hm
  have i2:w.heap.size∉m6:=fun hm=>(au.new _ hm).elim (fun hm=>al hm) (fun h9=>by omega)
  have i3:=aa.trans au
  have jo:=e0.bnd
  have jp:=e0.num
  have hRv:=e1
  have hL2:=e3
  refine Ac 1 Z<|A1<|Am<|AF<|Am ?_
  exact Af [6] Z (zI lq) Z ⟨lq,_,m7,m8,m9,rfl,i3,⟨_,_,_,i0,i1⟩,⟨E7,oM⟩,E6,e2,E5⟩
 refine Al false Z Z (A6 db) Aa<|Ac 1 Z<|Ai Z<|aH [0,0] Z ?_
 by_cases e4:ex.kind=((9:Nat):Int)
 ·refine Al true Z Z (A5 e4) Aa<|Ac 1 Z<|Ag Z<|A0 ?_
  letI:JR:=QB S
  refine Jx.AQ _ [0,0,1,0,1,0,0,0,0,1,0,1,0,3,3,3,4,0] mixed (by kernel_rfl) ?_
  have hwk:=O6 hwf oM
  refine Jx.V0 (zP g) Z Aa<|Jx.Ak (p:=zP w.heap.size) 4 B8 Z Z Aa<|Jx.Z5 (p:=Ao (zP w.heap.size) 4) ve Bf Z (fun wj hj=>(BX.chg (w:=f3.drew) (F:=S) ac hj fun hm=>zH<|hS _ hm).ldp (i:=4) sM) Aa<|Jx.Az (v:=ve) 1 CZ Bm Z Z hex.rn.isSl Z sD Aa ?_
  obtain⟨cs84,i4,i5⟩:=hex.rn.get (Aw dex) Ex.zero (k:=1) sD
  obtain⟨dd84,cj,ku,rfl,ck⟩:=RX.of i4
  have e5:=ck.rn.lenle
  unfold maxLen at e5
  refine Jx.Xm (p:=Ax ve 1 5) [zI<|(ex.kids.getD 1 Ex.zero).kind,zI<|(ex.kids.getD 1 Ex.zero).num,zI<|(ex.kids.getD 1 Ex.zero).pick,zI<|(ex.kids.getD 1 Ex.zero).count,cj] B6 Z (fun wj hj=>i5 wj<|As.trans a4.drew (show As S f3.drew wj from hj)) Z Aa<|Jx.V0 vv Z Aa<|Jx.AA 228 [] [] [vv] Z Z Ys Aa (DD vv) (fun wq=>Ez wq vv _ henv.slL hqenv)<|Jx.V0 (zP g) Z Aa<|Jx.Ak (p:=zP w.heap.size) 4 B8 Z Z Aa<|Jx.Z5 (p:=Ao (zP w.heap.size) 4) ve Bf Z (fun wj hj=>(BX.chg (w:=f3.drew) (F:=S) ac hj fun hm=>zH<|hS _ hm).ldp (i:=4) sM) Aa ?_
  refine Jx.Az (v:=ve) 0 CZ Bm Z Z hex.rn.isSl Z sD Aa ?_
  obtain⟨cs85,i6,i7⟩:=hex.rn.get (Aw dex) Ex.zero (k:=0) sD
  obtain⟨dd85,cl,kv,rfl,cm⟩:=RX.of i6
  have e6:=cm.rn.lenle
  unfold maxLen at e6
  refine Jx.Xm (p:=Ax ve 0 5) [zI<|(ex.kids.getD 0 Ex.zero).kind,zI<|(ex.kids.getD 0 Ex.zero).num,zI<|(ex.kids.getD 0 Ex.zero).pick,zI<|(ex.kids.getD 0 Ex.zero).count,cl] B6 Z (fun wj hj=>i7 wj<|As.trans a4.drew (show As S f3.drew wj from hj)) Z Aa<|Jx.V0 vv Z Aa ?_
  refine Jx.Au 181 [] [] [zP g,.agg #[zI<|(ex.kids.getD 0 Ex.zero).kind,zI<|(ex.kids.getD 0 Ex.zero).num,zI<|(ex.kids.getD 0 Ex.zero).pick,zI<|(ex.kids.getD 0 Ex.zero).count,cl],vv] Z Z KS Aa (IH2 dd85 oM _ S g vp dp ip (s0+1) (c0) p (T) cl (ex.kids.getD 0 Ex.zero) vv (env) (fun b hb=>(a0.drew.lt b hb:b<f3.heap.size)) (a0.drew.sub _ hgS) ⟨_,_,_,aw,b1⟩ (RN.stp (An<|Ay dp) hp a4.drew a0.drew.new) _hip oM oM Gz ⟨cm.rng,RN.stp (An<|Aw dd85) cm.rn a4.drew a0.drew.new⟩ (RN.stp g1 henv a4.drew a0.drew.new) hqenv hvp oM (by exact Dz hwf oM oM) (zH<|D7 (l:=ex.kids) (k:=0) oM) (by exact fun _=>ax)) ?_
  rintro mw fh ⟨l4,lr,mb,mc,me,rfl,ad,⟨mf,vg86,vv86,i8,i9⟩,e7,e8,e9,ea⟩
  refine⟨_,rfl,ad.chg,?_⟩
  replace ad:=ad.of_drew
  have jq:f3.heap.size≤fh.heap.size:=ad.chg.size
  have ia:As S w fh:=a4.stp ad.chg a0.new
  have ib:=ac.chg ad.chg fun hm=>DV
  have bb:w.heap.size∉lr:=fun hm=>(ad.new _ hm).elim (fun hm=>DV) (fun h9=>by omega)
  have ic:=a0.trans ad
  have jr:=e7.bnd
  have js:=e7.num
  have gk:=e8
  have hL1:=ea
  refine Jx.Zn<|BI (u:=zI l4) (B:=fh.heap.size) Bs Bj Bz Z Z (NS fh.heap.size fh.heap.size _ ⟨rfl,rfl⟩) (A7 _) Aa ?_
  intro mg l5 b2 kw ie
  refine Aj ?_
  have jt:fh.heap.size≤l5.heap.size:=b2.size
  have eb:As S w l5:=ia.ext b2
  have bo:=i8.ext b2
  have bp:=ib.ext b2
  have ig:=Cj.ext i9 b2
  have cn:=ic.ext b2
  refine Jx.aM<|Ti (v:=vv) (a:=mg) (u:=zI<|l4) (r:=l4) Bj Bz Z Z Z (RN.stp g1 henv eb cn.new) ie ⟨[],⟨rfl,rfl,e9⟩,fun b hb=>by cases hb⟩ (fun b hb=>(cn.lt b hb:b<l5.heap.size)) oM (by unfold maxLen;omega) Aa ?_
  intro ls l6 ay ec ed
  refine Aj ⟨JR.ext ay,?_⟩
  have ju:l5.heap.size≤l6.heap.size:=ay.size
  have co:As S w l6:=eb.ext ay
  have bq:=bo.ext ay
  have br:=bp.ext ay
  have ih:=Cj.ext ig ay
  have b3:=cn.ext ay
  refine Jx.Tb Z ?_
  refine AB 181 [] [] [zP g,.agg #[zI<|(ex.kids.getD 1 Ex.zero).kind,zI<|(ex.kids.getD 1 Ex.zero).num,zI<|(ex.kids.getD 1 Ex.zero).pick,zI<|(ex.kids.getD 1 Ex.zero).count,cj],ls] Z Z KS Aa (IH2 dd84 oM _ lr g vp dp ip (mc) (me) p (mb) cj (ex.kids.getD 1 Ex.zero) ls (env++[l4]) (fun b hb=>(b3.lt b hb:b<l6.heap.size)) (b3.sub _ hgS) ⟨_,_,_,bq,ih⟩ (RN.stp (An<|Ay dp) hp co b3.new) _hip oM oM Gz ⟨ck.rng,RN.stp (An<|Aw dd84) ck.rn co b3.new⟩ ec ed hvp oM (by have h9:=Je hwf oM oM;rw[z4,zd];exact h9) (by have:=D7 (l:=ex.kids) (k:=1) oM;rw[z4,zd];omega) (by exact fun h9=>Jm.snoc (ax.mono oM)<|gk h9)) ?_
  rintro mx lu ⟨lv,mh,mi,mj,ml,rfl,af,⟨mm,vg99,vv99,ii,ij⟩,ee,ef,eg,eh⟩
  refine⟨_,rfl,?_⟩
  have jv:l6.heap.size≤lu.heap.size:=af.chg.size
  have kx:As S w lu:=co.stp af.chg b3.new
  have jw:=br.chg af.chg fun hm=>bb hm
  have g5:w.heap.size∉mh:=fun hm=>(af.new _ hm).elim (fun hm=>bb hm) (fun h9=>by omega)
  have jx:=RN.stp g1 ec af.chg af.new
  have ik:=b3.trans af
  have jy:=ee.bnd
  have jz:=ee.num
  have hRv:=ef
  have hL2:=eh
  refine Ac 1 Z<|A1<|AF<|Am ?_
  exact Af [6] Z (zI lv) Z ⟨lv,_,mi,mj,ml,rfl,ik,⟨_,_,_,ii,ij⟩,⟨E7,oM⟩,E6,eg,E5⟩
 refine Al false Z Z (A6 e4) Aa<|Ac 1 Z<|Ai Z<|A2<|aH [0,0,2,0,4,0] Z ?_
 have hkg:ex.kind≠1∧ex.kind≠2∧ex.kind≠8∧ex.kind≠9:=by omega
 have l1:=QY hwf hvp hF
 refine Ad 1 Z<|Ak (p:=zP w.heap.size) 4 B8 Z Z Aa<|Ah (p:=Ao (zP w.heap.size) 4) (.inr Z) ve Bf Z (ac.ldp (i:=4) sM) Aa<|Ad 1 Z ?_
 refine AB 102 [] [] [zP g,ve,vv] Z Z Sg Aa (OI F dex (fun d9 h9=>IH2 d9 oM) _ S g vp dp ip (s0+1) (c0) p (T) ve (ex.kids) vv (env) (fun b hb=>(a0.lt b hb:b<f3.heap.size)) (a0.sub _ hgS) ⟨_,_,_,aw,b1⟩ (RN.stp (An<|Ay dp) hp a4 a0.new) _hip oM oM Gz (RN.stp (An<|Aw dex) hex.rn a4 a0.new) (RN.stp g1 henv a4 a0.new) hqenv hvp oM (by intro k hk;exact Dz hwf hk oM) (by intro k hk;have:=D7 (l:=ex.kids) (k:=k) hk;omega) oM (by exact fun _=>ax)) ?_
 rintro mn f4 ⟨f7,f2,f8,f9,f5,f6,rfl,ag,⟨fo,vg109,vv109,aj,av⟩,bv,ei,bc,cp,cq,cr⟩
 refine⟨_,rfl,?_⟩
 have ct:f3.heap.size≤f4.heap.size:=ag.chg.size
 have a8:As S w f4:=a4.stp ag.chg a0.new
 have ae:=ac.chg ag.chg fun hm=>DV
 have ab:w.heap.size∉f8:=fun hm=>(ag.new _ hm).elim (fun hm=>DV) (fun h9=>by omega)
 have a1:=a0.trans ag
 have il:=bv.bnd
 have im:=bv.num
 have hKr:=cr
 have hKb:=cq
 have hKl:=cp
 have am:=ei.rn
 refine Ac 1 Z<|A0<|aH [0,0,0,2,0] Z<|Ad 1 Z<|AT Z Aa<|Ak (p:=zP g) 7 EG Z Z Aa<|Ah (p:=Ao (zP g) 7) (.inr Z) (zI f6) AC Z (aj.ldp (i:=7) sM) Aa ?_
 by_cases bw:f6≠((0:Nat):Int)
 ·refine B3 true Z Z (A5 bw) Aa<|Aj<|Ag Z<|aI Z<|A1<|Am ?_
  exact Af [6] Z (zI ((0:Nat):Int)) Z ⟨((0:Nat):Int),_,f9,f5,f6,rfl,a1,⟨_,_,_,aj,av⟩,⟨E7,oM⟩,E6,oM,E5⟩
 refine B3 false Z Z (A6 bw) Aa<|Aj<|Ai Z<|A2<|A0<|aH [0,2] Z<|Ak (p:=zP w.heap.size) 0 Bg Z Z Aa<|Ah (p:=Ao (zP w.heap.size) 0) (.inr Z) (zI ex.kind) AC Z (ae.ldp (i:=0) sM) Aa<|Aj<|A3<|aH [0,0] Z ?_
 by_cases bx:ex.kind=((10:Nat):Int)
 ·refine Al true Z Z (A5 bx) Aa<|Ac 1 Z<|Ag Z<|A0<|AQ _ [0,0,0,0,0,1,0,1,0,0,1,0,1,0,1,0,4,0] mixed (by kernel_rfl) ?_
  have hwk:=Ht hwf oM
  refine Ad 2 Z ?_
  have hvo:=hvp.outs (ex.num).toNat oM
  have hvd:=hvp.deep (ex.num).toNat oM (ex.pick).toNat oM
  refine AT Z Aa<|Ak (p:=zP g) 0 PK Z Z Aa<|Ak (p:=Ao (zP g) 0) (b:=g) (o:=0) 0 BC Z Z Aa<|Ah (p:=Ao (Ao (zP g) 0) 0) (.inl Z) vp C2 Z (aj.ldp (i:=0) sM) Aa<|Ak (p:=zP w.heap.size) 1 BE Z Z Aa<|Ah (p:=Ao (zP w.heap.size) 1) (.inl Z) (zI ex.num) AC Z (ae.ldp (i:=1) sM) Aa ?_
  refine Az (v:=vp) ((ex.num).toNat) GI Cy Z Z hp.isSl oM sD Aa ?_
  obtain⟨cs118,ej,bz⟩:=hp.get (Ay dp) Fn.zero (k:=(ex.num).toNat) sD
  obtain⟨bd,rfl,be⟩:=RF.of ej
  have cu:=be.rn.lenle
  unfold maxLen at cu
  refine AI (p:=Ax vp ((ex.num).toNat) 3) 2 BV Z (bz _ a8.drew) Aa<|Ah (p:=Ao (Ax vp ((ex.num).toNat) 3) 2) (.inl Z) bd Bf Z ((bz _ a8.drew).ld (i:=2) (by simp[EP,EQ])) Aa<|Ak (p:=zP w.heap.size) 2 D3 Z Z Aa<|Ah (p:=Ao (zP w.heap.size) 2) (.inl Z) (zI ex.pick) AC Z (ae.ldp (i:=2) sM) Aa ?_
  refine Az (v:=bd) ((ex.pick).toNat) CZ Bm Z Z be.rn.isSl oM sD Aa ?_
  obtain⟨cs119,ek,el⟩:=be.rn.get (Aw dp) Ex.zero (k:=(ex.pick).toNat) sD
  obtain⟨dd119,bf,k0,rfl,bg⟩:=RX.of ek
  have cv:=bg.rn.lenle
  unfold maxLen at cv
  refine AL (p:=Ax bd ((ex.pick).toNat) 5) (.inl Z) [zI<|(((p.getD ((ex.num).toNat) Fn.zero).outs).getD ((ex.pick).toNat) Ex.zero).kind,zI<|(((p.getD ((ex.num).toNat) Fn.zero).outs).getD ((ex.pick).toNat) Ex.zero).num,zI<|(((p.getD ((ex.num).toNat) Fn.zero).outs).getD ((ex.pick).toNat) Ex.zero).pick,zI<|(((p.getD ((ex.num).toNat) Fn.zero).outs).getD ((ex.pick).toNat) Ex.zero).count,bf] B6 Z (fun fc ce=>el fc<|a8.drew.ext ce) Z Aa<|Ad 1 Z ?_
  refine AB 181 [] [] [zP g,.agg #[zI<|(((p.getD ((ex.num).toNat) Fn.zero).outs).getD ((ex.pick).toNat) Ex.zero).kind,zI<|(((p.getD ((ex.num).toNat) Fn.zero).outs).getD ((ex.pick).toNat) Ex.zero).num,zI<|(((p.getD ((ex.num).toNat) Fn.zero).outs).getD ((ex.pick).toNat) Ex.zero).pick,zI<|(((p.getD ((ex.num).toNat) Fn.zero).outs).getD ((ex.pick).toNat) Ex.zero).count,bf],f7] Z Z KS Aa (IH1 (ex.num).toNat oM dd119 _ f8 g vp dp ip (f5) (f6) p (f9) bf (((p.getD ((ex.num).toNat) Fn.zero).outs).getD ((ex.pick).toNat) Ex.zero) f7 (f2) (fun b hb=>(a1.drew.lt b hb:b<f4.heap.size)) (a1.drew.sub _ hgS) ⟨_,_,_,aj,av⟩ (RN.stp (An<|Ay dp) hp a8.drew a1.drew.new) _hip oM oM Gz ⟨bg.rng,RN.stp (An<|Aw dd119) bg.rn a8.drew a1.drew.new⟩ am bc hvp oM (by have h9:=hvp.wf (ex.num).toNat oM (ex.pick).toNat oM;rw[show(f2.length:Int)=(p.getD (ex.num).toNat Fn.zero).params from by omega];exact h9) oM hKb) ?_
  rintro mo fp ⟨fq,l9,la,lb,lc,rfl,a2,⟨lw,vg120,vv120,em,en⟩,c2,cw,cx,cy⟩
  refine⟨_,rfl,?_⟩
  replace a2:=a2.of_drew
  have io:f4.heap.size≤fp.heap.size:=a2.chg.size
  have k1:As S w fp:=a8.stp a2.chg a1.new
  have k2:=ae.chg a2.chg fun hm=>ab hm
  have g6:w.heap.size∉l9:=fun hm=>(a2.new _ hm).elim (fun hm=>ab hm) (fun h9=>by omega)
  have k3:=RN.stp g1 am a2.chg a2.new
  have eo:=a1.trans a2
  have iq:=c2.bnd
  have ir:=c2.num
  have hRv:=cw
  have hL2:=cy
  refine Ac 1 Z<|A1<|AF<|Am ?_
  exact Af [6] Z (zI fq) Z ⟨fq,_,la,lb,lc,rfl,eo,⟨_,_,_,em,en⟩,⟨E7,oM⟩,E6,cx,E5⟩
 refine Al false Z Z (A6 bx) Aa<|Ac 1 Z<|Ai Z<|aH [0,0] Z ?_
 by_cases c3:ex.kind=((11:Nat):Int)
 ·refine Al true Z Z (A5 c3) Aa<|Ac 1 Z<|Ag Z<|A0<|aH [0] Z ?_
  have hwk:=Ht hwf oM
  have hwl:=Mp hwf oM
  refine Ac 1 Z<|A3 ?_
  have hMs:=av
  have hGs:=a1
  have hns:w.heap.size∉f8:=fun hm=>ab hm
  refine AW (S:=Nat×Value×Sr×List Nat×Tp×Nat×Int×Value×Value×Value) (fun⟨i,vk,ks,S9,T9,s9,c9,fr,vg9,vv9⟩=>([(9,vk),(10,zI (i:Int)),(0,zP g),(4,zP w.heap.size)])) (fun⟨i,vk,ks,S9,T9,s9,c9,fr,vg9,vv9⟩ W=>As S w W∧BX W.heap g [vp,zI ip,fr,vg9,zN,vv9,zI (s9:Int),zI c9]∧BX W.heap w.heap.size [zI ex.kind,zI ex.num,zI ex.pick,zI ex.count,ve]∧i≤(ex.count).toNat∧w.heap.size∉S9∧Fj S S9 w W∧Cj 69 208 2 S9 g W.heap fr vg9 vv9 T9∧U4 T T9 s0 s9 c9∧RN S9 (AX rI) W.heap vk ks∧C8 vk∧ks.length=(p.getD (ex.num).toNat Fn.zero).outs.length∧(c9=0→Jm T9 ks)∧AH (Ia (fun a t U=>Hw (JP p (ex.num).toNat) (p.getD (ex.num).toNat Fn.zero).outs a t U) i f2 f5 f9) (ks,T9) s9 c9) (fun⟨i,vk,ks,S9,T9,s9,c9,fr,vg9,vv9⟩=>(ex.count).toNat-i) (0,f7,f2,f8,f9,f5,f6,fo,vg109,vv109) ⟨rfl,rfl,rfl,rfl,trivial⟩ ⟨a8,aj,ae,oM,hns,hGs,hMs,(by exact⟨by assumption,zO⟩),(by assumption),(by assumption),oM,hKb,(by exact⟨rfl,rfl,zO⟩)⟩ ?_
  clear j4 j5 hG0 ka d3 ga gb g2 g3 gd b0 a4 b1 a0 d5 ac av ct a8 ae a1
  rintro⟨i,vk,ks,S9,T9,s9,c9,fr,vg9,vv9⟩ ρ131 fa ⟨ak,a5,a6,g7,hnb,hGl,hMl,hPl,hrk,hck,hkl,hkb,hrl9⟩
  have is:w.heap.size≤fa.heap.size:=ak.size
  have k4:=a5.lt
  have k5:=a6.lt
  have hnl:=hPl.num
  have hbl:=hPl.bnd
  refine A0<|aH [0,0,2,0,0,0,0,0,2,0,0] Z<|Ad 1 Z<|Ak (p:=zP w.heap.size) 3 Di Z Z Aa<|Ah (p:=Ao (zP w.heap.size) 3) (.inr Z) (zI ex.count) AC Z (a6.ldp (i:=3) sM) Aa ?_
  by_cases c4:(i:Int)<ex.count
  ·refine AE true Z Z (A5 c4) Aa<|Ad 2 Z<|AT Z (Ae (e:=156) Z Z Z)<|Ak (p:=zP g) 7 EG Z Z (Ae (e:=156) Z Z Z)<|Ah (p:=Ao (zP g) 7) (.inr Z) (zI c9) AC Z (a5.ldp (i:=7) sM) (Ae (e:=156) Z Z Z) ?_
   by_cases c5:c9=((0:Nat):Int)
   ·refine Al true Z Z (A5 c5) (Ae (e:=156) Z Z Z)<|Ac 1 Z<|Ag Z<|A2<|A0<|A3<|AQ _ [0,0,0,0,0,1,0,1,0,0,1,0,4,0] mixed (by kernel_rfl)<|Ad 2 Z ?_
    have hvo:=hvp.outs (ex.num).toNat oM
    refine AT Z Aa<|Ak (p:=zP g) 0 PK Z Z Aa<|Ak (p:=Ao (zP g) 0) (b:=g) (o:=0) 0 BC Z Z Aa<|Ah (p:=Ao (Ao (zP g) 0) 0) (.inl Z) vp C2 Z (a5.ldp (i:=0) sM) Aa<|Ak (p:=zP w.heap.size) 1 BE Z Z Aa<|Ah (p:=Ao (zP w.heap.size) 1) (.inl Z) (zI ex.num) AC Z (a6.ldp (i:=1) sM) Aa ?_
    refine Az (v:=vp) ((ex.num).toNat) GI Cy Z Z hp.isSl oM sD Aa ?_
    obtain⟨cs136,ep,c6⟩:=hp.get (Ay dp) Fn.zero (k:=(ex.num).toNat) sD
    obtain⟨bh,rfl,c7⟩:=RF.of ep
    have cz:=c7.rn.lenle
    unfold maxLen at cz
    refine AI (p:=Ax vp ((ex.num).toNat) 3) 2 BV Z (c6 _ ak.drew) Aa<|Ah (p:=Ao (Ax vp ((ex.num).toNat) 3) 2) (.inl Z) bh Bf Z ((c6 _ ak.drew).ld (i:=2) (by simp[EP,EQ])) Aa<|Ad 1 Z ?_
    refine AB 102 [] [] [zP g,bh,vk] Z Z Sg Aa (OI (ex.num).toNat dp (fun d9 h9=>IH1 (ex.num).toNat oM d9) _ S9 g vp dp ip (s9) (c9) p (T9) bh ((p.getD ((ex.num).toNat) Fn.zero).outs) vk (ks) (fun b hb=>(hGl.drew.lt b hb:b<fa.heap.size)) (hGl.drew.sub _ hgS) ⟨_,_,_,a5,hMl⟩ (RN.stp (An<|Ay dp) hp ak.drew hGl.drew.new) _hip oM oM Gz (RN.stp (An<|Aw dp) c7.rn ak.drew hGl.drew.new) hrk hck hvp oM (by intro k hk;have h9:=hvp.wf (ex.num).toNat oM k hk;rw[show(ks.length:Int)=(p.getD (ex.num).toNat Fn.zero).params from by omega];exact h9) (by intro k hk;have:=hvp.deep (ex.num).toNat oM k hk;omega) oM hkb) ?_
    rintro mp fs ⟨lf,ft,ff,fu,fv,fw,rfl,a3,⟨fx,vg137,vv137,eq,er⟩,c8,es,it,iu,iv,iw⟩
    refine⟨_,rfl,?_⟩
    replace a3:=a3.of_drew
    have ix:fa.heap.size≤fs.heap.size:=a3.chg.size
    have et:As S w fs:=ak.stp a3.chg hGl.new
    have eu:=a6.chg a3.chg fun hm=>hnb hm
    have bs:w.heap.size∉ff:=fun hm=>(a3.new _ hm).elim (fun hm=>hnb hm) (fun h9=>by omega)
    have k6:=RN.stp g1 hrk a3.chg a3.new
    have ev:=hGl.trans a3
    have iy:=c8.bnd
    have iz:=c8.num
    have j0:=es.rn
    refine Ac 1 Z<|Ab _ [0,0,0] Z<|Ad 1 Z<|AN ((i+1:Nat):Int) Z Z (Be oM oM) Aa<|Ac 1 Z ?_
    have hMe:=er
    have hGe:=ev
    have hPe:U4 T fu s0 fv fw:=⟨by assumption,zO⟩
    have hne:w.heap.size∉ff:=fun hm=>bs hm
    exact⟨(i+1,lf,ft,ff,fu,fv,fw,fx,vg137,vv137),_,rfl,zR,⟨et,eq,eu,oM,hne,hGe,hMe,hPe,(by assumption),(by assumption),oM,(by assumption),(by exact VA hrl9 oM (by assumption))⟩,zD⟩
   refine Al false Z Z (A6 c5) (Ae (e:=156) Z Z Z)<|Ac 1 Z<|Ai Z<|A4<|Av<|Av<|Aq<|aH [0,0,2,0,2,0] Z ?_
   have hkb9:=fun h9:c9=0=>hkb h9 (ex.pick).toNat oM
   refine Ad 1 Z<|Ak (p:=zP w.heap.size) 2 D3 Z Z Aa<|Ah (p:=Ao (zP w.heap.size) 2) (.inr Z) (zI ex.pick) AC Z (a6.ldp (i:=2) sM) Aa<|Az (v:=vk) ((ex.pick).toNat) Bj Bz Z Z hrk.slL oM oM Aa ?_
   have ca:=RN.getI (w:=fa) (k:=(ex.pick).toNat) hrk oM
   refine Ah (p:=Ax vk ((ex.pick).toNat) 1) (.inr Z) (zI<|ks.getD ((ex.pick).toNat) 0) AC Z (ca.1 _<|As.refl _ _) Aa<|Ac 1 Z<|A1<|AF<|Am ?_
   exact Af [6] Z (zI<|ks.getD ((ex.pick).toNat) 0) Z ⟨ks.getD ((ex.pick).toNat) 0,_,T9,s9,c9,rfl,hGl,⟨_,_,_,a5,hMl⟩,⟨E7,oM⟩,E6,ca.2,E5⟩
  refine AE false Z Z (A6 c4) Aa<|Ac 7 Z<|Ai Z<|A4<|Av<|Av<|Aq<|aH [0,0,2,0,2,0] Z ?_
  have hkb9:=fun h9:c9=0=>hkb h9 (ex.pick).toNat oM
  refine Ad 1 Z<|Ak (p:=zP w.heap.size) 2 D3 Z Z Aa<|Ah (p:=Ao (zP w.heap.size) 2) (.inr Z) (zI ex.pick) AC Z (a6.ldp (i:=2) sM) Aa<|Az (v:=vk) ((ex.pick).toNat) Bj Bz Z Z hrk.slL oM oM Aa ?_
  have cb:=RN.getI (w:=fa) (k:=(ex.pick).toNat) hrk oM
  refine Ah (p:=Ax vk ((ex.pick).toNat) 1) (.inr Z) (zI<|ks.getD ((ex.pick).toNat) 0) AC Z (cb.1 _<|As.refl _ _) Aa<|Ac 1 Z<|A1<|AF<|Am ?_
  exact Af [6] Z (zI<|ks.getD ((ex.pick).toNat) 0) Z ⟨ks.getD ((ex.pick).toNat) 0,_,T9,s9,c9,rfl,hGl,⟨_,_,_,a5,hMl⟩,⟨E7,oM⟩,E6,cb.2,E5⟩
 refine Al false Z Z (A6 c3) Aa<|Ac 1 Z<|Ai Z<|A2<|aH [0,0,2,0,0,0,4,0] Z ?_
 have hkb9:=hKb oM
 have l2:3≤ex.kind∧ex.kind≤7:=by have:=(CN (CB hwf)).1;omega
 have hkl:1≤ex.kids.length∧(ex.kind≠7→2≤ex.kids.length):=by by_cases h7:ex.kind=7;(have:=O7 hwf h7;omega);(have:=Jf hwf oM;omega)
 refine Ad 1 Z<|Ak (p:=zP w.heap.size) 0 Bg Z Z Aa<|Ah (p:=Ao (zP w.heap.size) 0) (.inr Z) (zI ex.kind) AC Z (ae.ldp (i:=0) sM) Aa<|BB (ex.kind-((3:Nat):Int)) Z Z (Dp oM oM) Aa<|AN ex.kind Z Z (Zc oM oM oM) Aa<|Ad 1 Z ?_
 refine AB 229 [] [] [zP g,zI ex.kind,f7] Z Z Yt Aa (Fk _ f8 g vp dp ip (f5) (f6) p (f9) (ex.kind) f7 (f2) (fun b hb=>(a1.lt b hb:b<f4.heap.size)) (a1.sub _ hgS) ⟨_,_,_,aj,av⟩ (RN.stp (An<|Ay dp) hp a8 a1.new) _hip oM oM Gz oM am bc oM oM hkb9 oM) ?_
 rintro mq fy ⟨fz,lg,lh,li,rfl,a9,⟨lx,vg148,vv148,ew,ey⟩,j1,j2,d0,d1,d2⟩
 refine⟨_,rfl,?_⟩
 have j3:f4.heap.size≤fy.heap.size:=a9.chg.size
 have k7:As S w fy:=a8.stp a9.chg a1.new
 have k8:=ae.chg a9.chg fun hm=>ab hm
 have g8:w.heap.size∉lg:=fun hm=>(a9.new _ hm).elim (fun hm=>ab hm) (fun h9=>by omega)
 have k9:=RN.stp g1 am a9.chg a9.new
 have ez:=a1.trans a9
 have hRv:=d0
 have hL2:=d2
 refine Ac 1 Z<|A1 ?_
 exact Af [6] Z (zI fz) Z ⟨fz,_,lh,f5,li,rfl,ez,⟨_,_,_,ew,ey⟩,⟨E7,oM⟩,E6,d1,E5⟩
theorem Xb:∀F d,YY F d:=by
 intro F
 induction F using Nat.strongRecOn with
 |_ F ihF =>
  intro d
  induction d using Nat.strongRecOn with
  |_ d ihd =>
   intro w S g vp dp ip s0 c0 p T ve ex vv env hS hgS a0 hp hip a1 a2 hbd hex henv hqenv hvp hF hwf hdp hen
   exact HK w S F g vp dp ip s0 c0 p T d ve ex vv env hS hgS a0 hp hip a1 a2 hbd hex henv hqenv hvp hF hwf hdp hen ihF ihd
theorem Xc (F d:Nat):aQ F d:=OI F d fun d' _=>Xb F d'
theorem PS {p:Prop}(h:p:=by have h9:=hm;rw[hSd]at h9;have:=A9 h9;omega):p:=h
theorem SQ {p:Prop}(h:p:=by simp only[zc,zf,zh];rfl):p:=h
theorem LF (w:World)(dp:Nat)(vp:Value)(p:List Fn)(f:Int)(va:Value)(a:Sr)(hp:RP [] dp w.heap vp p)(_hf:Bt f)(ha:RN [] (AX rI) w.heap va a)(hok:Jg p=true)(hz:Qh p)(hf:0≤f∧f<(p.length:Int))(hl:(a.length:Int)=(p.getD f.toNat Fn.zero).params)(hna:B2 a=true) :
  Calls Tryz.prog 29 #[(.agg #[vp]),zI f,va] w (fun e w'=>∃(i0:Int) (vc vg vo:Value) (xs:Sr) (T':Tp) (s1:Nat) (c1:Int),e=.returned (.tuple #[.agg #[zI i0,vc,vg,vo],zI c1])∧AG w w'∧AH (Q8 p f.toNat a) (xs,T') s1 c1∧(0≤c1∧c1≤9)∧(∀u∈[vc,vg,vo],u.cells=#[u]∧u.oneCell'=true)∧Bt i0∧(c1=0→i0=(p.getD f.toNat Fn.zero).params∧Jl T' s1∧s1≤3000∧xs.length=(p.getD f.toNat Fn.zero).outs.length∧Jm T' xs∧RG w.heap.size (Dw 4 No) w'.heap vc T'.code∧RG w.heap.size (Dw 2 Np) w'.heap vg T'.grd∧RG w.heap.size (AX rI) w'.heap vo xs)):=by
 refine Ap [.agg #[vp],zI f,va] 87 Tryz.func29 Z Z sM ?_
 have dq:AG w w:=AG.refl w
 have f7:=hp.lenle
 unfold maxLen at f7
 have f8:=ha.lenL
 unfold maxLen at f8
 have f9:=K9 hok
 have fv:=f9.par f.toNat oM
 have fw:=f9.outs f.toNat oM
 have hi:G3 p f=0:=by unfold G3;rw[if_pos hok,if_pos oM]
 refine aH [3,3,0] Z (Bu (cs:=#[vp]) Z Aa fun w1 cj e8 cf=>?_)
 have ck:=cj.size
 have dr:=dq.trans cj
 replace cf:BX w1.heap w.heap.size [vp]:=cf
 have ey:=cf.lt
 refine Bp (z:=.agg #[zI 0,zN,zN,zN]) YK Aa fun w2 cg e9 cl=>?_
 have cm:=cg.size
 have cn:=dr.trans cg
 have aq:=cf.ext cg
 replace cl:BX w2.heap w1.heap.size [zI 0,zN,zN,zN]:=cl
 refine Ac 1 Z<|aH [2,0,3,0] Z<|AL (p:=zP w.heap.size) (.inr Z) [vp] CG Z (fun fj ba=>LD.of_box<|BX.ext (w:=w2) aq ba) Z Aa<|Ad 1 Z<|Au 100 [] [] [.agg #[vp],zI f] Z Z Ur Aa (HV _ dp vp (p) _ (hp.ext (An<|Ay dp) cn) _hf hz) ?_
 rintro e4 w4 ⟨rfl,b8⟩
 refine⟨_,rfl,b8,?_⟩
 have co:=b8.size
 have bb:=cn.trans b8
 have ar:=aq.ext b8
 have bc:=cl.ext b8
 refine Ac 1 Z<|A0<|aH [0,0,0,0,0,2,0,0,0,2,3,0,0] Z<|Ad 1 Z ?_
 have ea:G3 p f=((0:Nat):Int):=hi
 refine Al true Z Z (A5 ea) Aa<|Ad 2 Z<|Ak (p:=zP w.heap.size) 0 BC Z Z (Ae (e:=18) Z Z Z)<|Ah (p:=Ao (zP w.heap.size) 0) (.inr Z) vp C2 Z (ar.ldp (i:=0) sM) (Ae (e:=18) Z Z Z)<|Ad 1 Z<|Az (v:=vp) ((f).toNat) GI Cy Z Z hp.isSl oM sD (Ae (e:=18) Z Z Z) ?_
 obtain⟨cs6,eb,ch⟩:=hp.get (Ay dp) Fn.zero (k:=(f).toNat) sD
 obtain⟨ez,rfl,ds⟩:=RF.of eb
 have bd:=ds.rn.lenle
 unfold maxLen at bd
 refine AI (p:=Ax vp ((f).toNat) 3) 1 Ck Z (ch _<|As.of_ext [] bb) (Ae (e:=18) Z Z Z)<|Ah (p:=Ao (Ax vp ((f).toNat) 3) 1) (.inr Z) (zI<|(p.getD ((f).toNat) Fn.zero).params) AC Z ((ch _<|As.of_ext [] bb).ld (i:=1) (by simp[EP,EQ])) (Ae (e:=18) Z Z Z)<|Au 86 [] [] [va,zI<|(p.getD ((f).toNat) Fn.zero).params] Z Z Sf (Ae (e:=18) Z Z Z) (Cu _ _ _ _ (ha.ext g1 bb).rd ds.rng) ?_
 rintro e7 w7 ⟨rfl,b9⟩
 refine⟨_,rfl,b9,?_⟩
 have cp:=b9.size
 have ci:=bb.trans b9
 have ae:=ar.ext b9
 have au:=bc.ext b9
 rw[show(decide ((a.length:Int)=((p.getD ((f).toNat) Fn.zero).params)) && B2 a)=true from(by rw[A5 oM,hna];rfl)]
 refine Br false Z Z (Ae (e:=18) Z Z Z)<|Ac 1 Z<|Ai Z<|A2<|A0<|aH [0,0] Z<|Ad 1 Z ?_
 have ec:¬(G3 p f≠((0:Nat):Int)):=(fun h9=>h9 hi)
 refine B3 false Z Z (A6 ec) Aa<|Aj<|Ai Z<|A2<|A0<|AQ _ [1,0,1,0,0,0,1,0,0,3,0] mixed (by kernel_rfl)<|AL (p:=zP w.heap.size) (.inl Z) [vp] CG Z (fun fj ba=>LD.of_box<|BX.ext (w:=w7.drew) ae ba) Z Aa<|Ak (p:=zP w.heap.size) 0 BC Z Z Aa<|Ah (p:=Ao (zP w.heap.size) 0) (.inl Z) vp C2 Z (ae.ldp (i:=0) sM) Aa<|Ad 1 Z ?_
 refine Az (v:=vp) ((f).toNat) GI Cy Z Z hp.isSl oM sD Aa<|AI (p:=Ax vp ((f).toNat) 3) 1 Ck Z (ch _<|As.of_ext [] ci.drew) Aa<|Ah (p:=Ao (Ax vp ((f).toNat) 3) 1) (.inl Z) (zI<|(p.getD ((f).toNat) Fn.zero).params) AC Z ((ch _<|As.of_ext [] ci.drew).ld (i:=1) (by simp[EP,EQ])) Aa ?_
 have cq:∀(wq:World),(Instr.build 55 #[(0,zI ((p.getD ((f).toNat) Fn.zero).params))]).run Tryz.prog wq=.ok (.agg #[zI ((p.getD ((f).toNat) Fn.zero).params),zN,zN,zN]) wq:=by intro wq;kernel_rfl
 refine C7 (ps:=#[(0,zI<|(p.getD ((f).toNat) Fn.zero).params)]) (.agg #[zI<|(p.getD ((f).toNat) Fn.zero).params,zN,zN,zN]) SQ (fun wq=>cq  wq) Aa ?_
 have be:∀(vp:Value) (f2:Nat) (h10_0:El vp f2) (wq:World),(Instr.build 129 #[(0,.agg #[vp]),(1,.agg #[zI ((p.getD ((f).toNat) Fn.zero).params),zN,zN,zN])]).run Tryz.prog wq=.ok (.agg #[vp,zI ((p.getD ((f).toNat) Fn.zero).params),zN,zN,zN,zN,zI 0,zI 0]) wq:=by intro vp f2 h10_0 wq;obtain⟨a10_0,fk,rfl,_⟩:=h10_0;kernel_rfl
 refine C7 (ps:=#[(0,.agg #[vp]),(1,.agg #[zI<|(p.getD ((f).toNat) Fn.zero).params,zN,zN,zN])]) (.agg #[vp,zI<|(p.getD ((f).toNat) Fn.zero).params,zN,zN,zN,zN,zI 0,zI 0]) SQ (fun wq=>be vp _ hp.isSl wq) Aa ?_
 have ed:=ae.lt
 have ee:=au.lt
 refine Bu (cs:=#[vp,zI<|(p.getD ((f).toNat) Fn.zero).params,zN,zN,zN,zN,zI 0,zI 0]) Z Aa fun f0 a9 cr ak=>?_
 replace a9:=a9.of_drew
 have bf:=a9.size
 have bg:=ci.trans a9
 have av:=ae.ext a9
 have aw:=au.ext a9
 replace ak:BX f0.heap w7.drew.heap.size [vp,zI ((p.getD ((f).toNat) Fn.zero).params),zN,zN,zN,zN,zI 0,zI 0]:=ak
 refine Ac 1 Z<|aH [3,0] Z ?_
 obtain⟨S,hSd⟩:∃S:List Nat,S=[w7.heap.size]:=⟨_,rfl⟩
 have hgS:w7.heap.size∈S:=by rw[hSd];exact List.mem_singleton.2 Z
 have hlr:w7.heap.size<f0.heap.size:=BX.lt ak
 have hMb:Cj 69 208 2 S w7.heap.size f0.heap zN zN zN (IL a 0):=Cj.nil
 have hGb:Fj S S w f0:=⟨fun _ h=>h,fun b hb=>.inl hb,fun b hb=>by rw[hSd]at hb;have:=A9 hb;omega,As.of_ext S bg⟩
 have hEb:As S w f0:=hGb.chg
 have hSn:∀b∈S,w.heap.size≤b:=fun b hb=>by rw[hSd]at hb;have:=A9 hb;omega
 have hBb:BX f0.heap w7.heap.size [vp,zI ((p.getD f.toNat Fn.zero).params),zN,zN,zN,zN,zI ((0:Nat):Int),zI ((0:Nat):Int)]:=ak
 have ax:RN S (Dw 3 (TZ dp)) w.heap vp p:=by rw[hSd];exact RN.add (An (Ay dp)) hp (fun b hb=>zH<|A9 hb)
 have ay:RN S (AX rI) w.heap va a:=by rw[hSd];exact RN.add g1 ha (fun b hb=>zH<|A9 hb)
 refine Ch (rI) AK Bj Bz Aa fun fp fl a4 ct bh=>?_
 have bi:f0.heap.size≤fl.heap.size:=a4.size
 have bj:As S w fl:=hEb.ext a4
 have az:=av.ext a4
 have b0:=aw.ext a4
 have b1:=hBb.ext a4
 have bk:=Cj.ext hMb a4
 have bl:=hGb.ext a4
 refine Ac 1 Z<|A0<|aH [0,0,0] Z<|Ad 1 Z<|AO (v:=va) Bj Z ay.slL Aa<|Ac 1 Z<|A3 ?_
 have hBO:w.heap.size≤f0.heap.size∧w7.heap.size<f0.heap.size:=by omega
 have bm:w.heap.size∉S:=fun hm=>PS
 have bn:w1.heap.size∉S:=fun hm=>PS
 obtain⟨Fo0,bo⟩:=Ow.of_fr bh (A7 _)
 have cu:∀b∈Fo0,b∉S:=fun b hb hm=>by have:=bo.low b hb;have:=hGb.lt b hm;omega
 have hMs:=bk
 have hGs:=bl
 have hnswheaps:w.heap.size∉S:=fun hm=>PS
 have hnsw1heap:w1.heap.size∉S:=fun hm=>PS
 refine AW (S:=Nat×Value×Sr×List Nat×List Nat×Value×Value×Value) (fun⟨k,vo,xs,Fo,S9,fa,vg9,vv9⟩=>([(10,vo),(46,zI (k:Int)),(1,zI f),(3,zP w.heap.size),(6,zP w1.heap.size),(9,zP w7.heap.size),(44,va),(45,zI (a.length:Int))])) (fun⟨k,vo,xs,Fo,S9,fa,vg9,vv9⟩ W=>As S w W∧BX W.heap w.heap.size [vp]∧BX W.heap w1.heap.size [zI 0,zN,zN,zN]∧BX W.heap w7.heap.size [vp,zI (p.getD f.toNat Fn.zero).params,fa,vg9,zN,vv9,zI ((0:Nat):Int),zI ((0:Nat):Int)]∧k≤a.length∧f0.heap.size≤W.heap.size∧Fj S S9 w W∧Cj 69 208 2 S9 w7.heap.size W.heap fa vg9 vv9 (IL a k)∧Ow (Bi rI 2) f0.heap.size W.heap.size W.heap vo xs Fo∧(∀b∈Fo,b∉S9)∧xs=GG k∧w.heap.size∉S9∧w1.heap.size∉S9) (fun⟨k,vo,xs,Fo,S9,fa,vg9,vv9⟩=>a.length-k) (0,fp,[],Fo0,S,zN,zN,zN) ⟨rfl,rfl,rfl,rfl,rfl,rfl,rfl,rfl,trivial⟩ ⟨bj,az,b0,b1,oM,oM,hGs,hMs,bo,cu,(by rfl),bm,bn⟩ ?_
 clear dq e8 cj ck dr e9 cg cm cn b8 co bb bd b9 cp ci cr a9 bf bg bh ct a4 bi bj bk bl
 rintro⟨k,vo,xs,Fo,S9,fa,vg9,vv9⟩ ρ21 fb ⟨a5,a3,aa,ab,cv,hbw,hGl,hMl,hOl,hdl,hxe,af,ag⟩
 have dt:w.heap.size≤fb.heap.size:=a5.size
 have ef:=a3.lt
 have eg:=aa.lt
 have eh:=ab.lt
 refine aH [0] Z ?_
 by_cases bp:(k:Int)<(a.length:Int)
 ·refine AE true Z Z (A5 bp) Aa<|Aj<|A0<|Ag Z<|A2<|A0<|A3<|aH [0,0,2,0,0] Z ?_
  have hak:=BY hna k
  have hvk:=Jn a k
  have hxk:xs.length=k:=by rw[hxe,G0]
  refine Ad 1 Z<|Az (v:=va) k Bj Bz Z Z ay.slL Z sD Aa ?_
  have bq:=RN.getI (w:=w) (k:=k) ay sD
  refine Ah (p:=Ax va k 1) (.inr Z) (zI<|a.getD k 0) AC Z (bq.1 _ a5) Aa<|Ac 2 Z<|Ab _ [0,0,0,0,0,4,3,4,0] Z<|Ad 3 Z ?_
  have br:∀(wq:World),(Instr.build 69 #[(0,zI ((1:Nat):Int)),(3,zI (k:Int))]).run Tryz.prog wq=.ok (.agg #[zI ((1:Nat):Int),zI 0,zI 0,zI (k:Int)]) wq:=by intro wq;kernel_rfl
  refine C7 (ps:=#[(0,zI ((1:Nat):Int)),(3,zI (k:Int))]) (.agg #[zI ((1:Nat):Int),zI 0,zI 0,zI (k:Int)]) SQ (fun wq=>br  wq) Aa<|Ad 1 Z ?_
  refine AB 101 [] [] [zP w7.heap.size,.agg #[zI ((1:Nat):Int),zI (0:Int),zI (0:Int),zI (k:Int)],zI<|a.getD k 0] Z Z PE Aa (CC _ S9 w7.heap.size vp ((p.getD f.toNat Fn.zero).params) (0) ((0:Nat):Int) (IL a k) (⟨((1:Nat):Int),(0:Int),(0:Int),(k:Int)⟩:AD) (a.getD k 0) (fun b hb=>(hGl.lt b hb:b<fb.heap.size)) (hGl.sub _ hgS) ⟨_,_,_,ab,hMl⟩ oM (by rw[Mx,Jn];omega) ⟨(show Bt ((1:Nat):Int)from by omega),(show Bt (0:Int)from by omega),(show Bt (0:Int)from by omega),(show Bt (k:Int)from by omega)⟩ bq.2) ?_
  rintro fx f6 ⟨f3,rfl,a0,ff,vg28,vv28,cw,cx⟩
  refine⟨_,rfl,?_⟩
  have du:fb.heap.size≤f6.heap.size:=a0.chg.size
  have cy:As S w f6:=a5.stp a0.chg hGl.new
  have cz:=a3.chg a0.chg fun hm=>af hm
  have b2:w.heap.size∉f3:=fun hm=>(a0.new _ hm).elim (fun hm=>af hm) (fun h9=>by omega)
  have d0:=aa.chg a0.chg fun hm=>ag hm
  have b3:w1.heap.size∉f3:=fun hm=>(a0.new _ hm).elim (fun hm=>ag hm) (fun h9=>by omega)
  have d1:=hOl.keep (Bb AK) a0.chg fun b hb hm=>hdl b hm hb
  have ai:∀b∈Fo,b∉f3:=fun b hb hm=>(a0.new b hm).elim (hdl b hb) (fun h9=>zH<|hOl.high b hb)
  have d2:=hGl.trans a0
  have dv:((IL a k).put (⟨((1:Nat):Int),(0:Int),(0:Int),(k:Int)⟩:AD) (a.getD k 0)).vals.length=(IL a k).vals.length+1:=Gp _ _ _
  have dw:((IL a k).put (⟨((1:Nat):Int),(0:Int),(0:Int),(k:Int)⟩:AD) (a.getD k 0)).grd.length=(IL a k).grd.length:=rfl
  refine (BI (u:=zI (((IL a k).vals.length:Nat):Int)) (B:=f6.heap.size) AK Bj Bz Z Z (Lh f6.heap.size f6.heap.size _ _ oM) (A7 _) Aa ?_)
  intro fq fg a6 ei d3
  have dx:f6.heap.size≤fg.heap.size:=a6.size
  have d4:As S w fg:=cy.ext a6
  have al:=cz.ext a6
  have am:=d0.ext a6
  have an:=cw.ext a6
  have d5:=Cj.ext cx a6
  have bs:=d2.ext a6
  have hO38k:=d1.ext (Bb AK) a6
  refine KD (v:=vo) (a:=fq) Bj Bz Z Z Z hO38k d3.rd1 oM sD (by unfold maxLen;first|omega|assumption|(simp;done)|(simp;omega)) Aa fun fs fm fo ac ej d6=>?_
  have dy:fg.heap.size≤fm.heap.size:=ac.size
  have d7:As S w fm:=d4.fresh ac (fun c hc=>zH<|hO38k.low c hc)
  have ek:∀b∈fo,b∉f3:=fun b hb hm=>(d6 b hb).elim (fun h9=>ai b h9 hm) (fun h9=>zH<|bs.lt b hm)
  have d8:=Cj.chgO d5 ac ai
  have d9:=bs.fresh ac fun c hc=>zH<|hO38k.low c hc
  have da:=al.chg ac fun hm=>zH<|hO38k.low _ hm
  have db:=am.chg ac fun hm=>zH<|hO38k.low _ hm
  have dc:=an.chg ac fun hm=>zH<|hO38k.low _ hm
  refine Ac 1 Z<|Ab _ [0,0] Z<|AN ((k+1:Nat):Int) Z Z (Be oM oM) Aa<|Ac 1 Z ?_
  have hMe:=d8
  have hGe:=d9
  have bt:w.heap.size∉f3:=fun hm=>b2 hm
  have bu:w1.heap.size∉f3:=fun hm=>b3 hm
  exact⟨(k+1,fs,xs++[(((IL a k).vals.length:Nat):Int)],fo,f3,ff,vg28,vv28),_,rfl,zR,⟨d7,da,db,dc,oM,oM,hGe,hMe,(by assumption),(by assumption),(by rw[hxe,Jn];exact(Og k).symm),bt,bu⟩,zD⟩
 refine AE false Z Z (A6 bp) Aa<|Aj<|A0<|Ai Z<|A4<|Av<|Av<|Aq<|aH [0,0,0,2,0,0,0,2,0,4,0,0,0,4] Z ?_
 have hkl:k=a.length:=by omega
 refine Ad 2 Z<|Ak (p:=zP w.heap.size) 0 BC Z Z Aa<|Ah (p:=Ao (zP w.heap.size) 0) (.inr Z) vp C2 Z (a3.ldp (i:=0) sM) Aa<|Ad 1 Z<|Az (v:=vp) ((f).toNat) GI Cy Z Z ax.isSl oM sD Aa ?_
 obtain⟨cs46,dd,bv⟩:=ax.get (Ay dp) Fn.zero (k:=(f).toNat) sD
 obtain⟨b4,rfl,bw⟩:=RF.of dd
 have bx:=bw.rn.lenle
 unfold maxLen at bx
 refine AI (p:=Ax vp ((f).toNat) 3) 2 BV Z (bv _ a5) Aa<|Ah (p:=Ao (Ax vp ((f).toNat) 3) 2) (.inr Z) b4 Bf Z ((bv _ a5).ld (i:=2) (by simp[EP,EQ])) Aa<|Ad 1 Z ?_
 refine AB 102 [] [] [zP w7.heap.size,b4,vo] Z Z Sg Aa (Xc f.toNat dp _ S9 w7.heap.size vp dp ((p.getD f.toNat Fn.zero).params) (0) ((0:Nat):Int) p (IL a k) b4 ((p.getD ((f).toNat) Fn.zero).outs) vo (xs) (fun b hb=>(hGl.lt b hb:b<fb.heap.size)) (hGl.sub _ hgS) ⟨_,_,_,ab,hMl⟩ (RN.stp (An<|Ay dp) ax a5 hGl.new) oM oM oM (by rw[hkl];exact Xy hna oM) (RN.stp (An<|Aw dp) bw.rn a5 hGl.new) (RN.of_ow hOl hdl) hOl.fr.cap f9 oM (by intro j hj;have h9:=f9.wf f.toNat oM j hj;rw[hxe,G0,hkl,hl];exact h9) (by intro j hj;have h9:=f9.deep f.toNat oM j hj;rw[hxe,G0];omega) oM (by exact fun _=>by rw[hxe];exact Xz a k)) ?_
 rintro fy fd ⟨fc,ft,fe,fz,fu,f4,rfl,a1,⟨f1,vg47,vv47,de,df⟩,bz,c0,dz,c2,c3,c4⟩
 refine⟨_,rfl,?_⟩
 have e0:fb.heap.size≤fd.heap.size:=a1.chg.size
 have dg:As S w fd:=a5.stp a1.chg hGl.new
 have dh:=a3.chg a1.chg fun hm=>af hm
 have di:w.heap.size∉fe:=fun hm=>(a1.new _ hm).elim (fun hm=>af hm) (fun h9=>by omega)
 have dj:=aa.chg a1.chg fun hm=>ag hm
 have aj:w1.heap.size∉fe:=fun hm=>(a1.new _ hm).elim (fun hm=>ag hm) (fun h9=>by omega)
 have b5:=hOl.keep (Bb AK) a1.chg fun b hb hm=>hdl b hm hb
 have dk:∀b∈Fo,b∉fe:=fun b hb hm=>(a1.new b hm).elim (hdl b hb) (fun h9=>zH<|hOl.high b hb)
 have c5:=hGl.trans a1
 have e1:=bz.bnd
 have e2:=bz.num
 have hKr:=c4
 have hKb:=c3
 have hKl:=c2
 rw[hxe,hkl]at hKr
 replace hKr:=AH.go0 hKr
 have c6:=c0.rn
 refine AT Z Aa<|Ak (p:=zP w7.heap.size) 1 Fx Z Z Aa<|Ak (p:=Ao (zP w7.heap.size) 1) (b:=w7.heap.size) (o:=1) 3 Js Z Z Aa (Bl (k:=4) (w:=fd) On Z Z (Bq c6.slL) de sM Aa fun f5 a7 el ad=>?_)
 replace ad:BX f5.heap w7.heap.size [vp,zI ((p.getD f.toNat Fn.zero).params),f1,vg47,fc,vv47,zI (fu:Int),zI f4]:=ad
 have c7:As S w f5:=dg.trans (a7.sub (AS hgS))
 have ao:=Cj.chg df a7
 have c8:=c5.set hgS a7
 have e3:fd.heap.size≤f5.heap.size:=a7.size
 have c9:=dh.chg a7 (zB ·)
 have ca:=dj.chg a7 (zB ·)
 have ah:=b5.keep (Bb AK) a7 fun b hb hm=>by have:=A9 hb;have:=b5.low _ hm;have:=b5.high _ hm;omega
 have hF63l:=c0.upd g1 a7 fun b hb=>by rw[A9 hb];exact .inl (c5.sub _ hgS)
 have dl:=hF63l.rn
 refine Aj<|A0<|aH [0,0,0,2,0] Z<|Ad 1 Z<|AT Z Aa<|Ak (p:=zP w7.heap.size) 7 EG Z Z Aa<|Ah (p:=Ao (zP w7.heap.size) 7) (.inr Z) (zI f4) AC Z (ad.ldp (i:=7) sM) Aa ?_
 by_cases cb:f4≠((0:Nat):Int)
 ·refine B3 true Z Z (A5 cb) Aa<|Aj<|Ag Z<|A0 ?_
  letI:JR:=QB [w1.heap.size]
  refine Jx.AQ _ [0,0,0,0,1,3,0] mixed (by kernel_rfl)<|Jx.j1 ?_
  have cc:∀(wq:World),(Instr.build 55 #[]).run Tryz.prog wq=.ok (.agg #[zI 0,zN,zN,zN]) wq:=by intro wq;kernel_rfl
  refine C7 (ps:=#[]) (.agg #[zI 0,zN,zN,zN]) (by simp only[zc,zf,zh]) (fun wq=>cc  wq) Aa<|Aj<|Jx.V0 (zP w7.heap.size) Z Aa<|Jx.j1<|AT Z Aa<|Aj<|Jx.Ak (p:=zP w7.heap.size) 7 EG Z Z Aa<|Jx.Z5 (p:=Ao (zP w7.heap.size) 7) (zI f4) AC Z (fun wj hj=>(BX.chg (w:=f5.drew) (F:=[w1.heap.size]) ad hj (zB ·)).ldp (i:=7) sM) Aa<|Jx.aM ?_
  refine Bw (vs:=[zI (0:Int),zN,zN,zN]) DY Z Z (by intro u hu;simp only[ze,z2,or_false]at hu;rcases hu with rfl|rfl|rfl|rfl <;> first|exact⟨rfl,rfl⟩) ca Z Z Aa fun fh a2 em b6=>?_
  replace a2:=a2.of_drew
  replace b6:BX fh.heap w1.heap.size [zI (0:Int),zN,zN,zN]:=b6
  have en:As S w fh:=c7.fresh a2 (fun _ h=>zE h)
  have eo:=Cj.chgO ao a2 fun b hb hm=>by rw[A9 hb]at hm;exact aj hm
  have dm:=c8.fresh a2 fun _ h=>zE h
  have e5:f5.heap.size≤fh.heap.size:=a2.size
  have ep:=c9.chg a2 (zB ·)
  have eq:=ad.chg a2 (zB ·)
  have er:=ah.keep (Bb AK) a2 fun b hb hm=>by have:=A9 hb;have:=ah.low _ hm;have:=ah.high _ hm;omega
  have hF73l:=hF63l.upd g1 a2 fun b hb=>by rw[A9 hb];(right;omega)
  have es:=hF73l.rn
  refine Aj ⟨As.drewL a2,?_⟩
  exact Jx.Qq (zI f4) Z Aa<|Jx.Aj<|A1<|Am<|Ji (t0:=7) (ts:=[]) (cs:=[zI (0:Int),zN,zN,zN]) [zI f4] Z DY Z b6 Z Z ⟨_,_,_,_,_,_,_,_,rfl,As.toExt dm.chg hSn,hKr,oM,(by intro u hu;simp only[ze,z2,or_false]at hu;rcases hu with rfl|rfl|rfl <;> exact⟨rfl,rfl⟩),(by show Bt _;unfold Bt;omega),(fun h9=>absurd h9 oM)⟩
 refine B3 false Z Z (A6 cb) Aa<|Aj<|Ai Z<|A2<|aH [0,0,0,2,4,0] Z<|Ad 1 Z<|AT Z Aa<|Ak (p:=zP w7.heap.size) 1 Fx Z Z Aa<|AL (p:=Ao (zP w7.heap.size) 1) (.inr Z) [zI<|(p.getD f.toNat Fn.zero).params,f1,vg47,fc] DY Z (fun fj ba=>LD.part (BX.ext (w:=f5) ad ba) (by show(5:Nat)≤8;decide) (by intro i hi;match i,hi with|0,_=>rfl|1,_=>rfl|2,_=>rfl|3,_=>rfl)) Z Aa ?_
 refine Bw (vs:=[zI<|(p.getD f.toNat Fn.zero).params,f1,vg47,fc]) DY Z Z (by intro u hu;simp only[ze,z2,or_false]at hu;rcases hu with rfl|rfl|rfl|rfl <;> first|exact⟨rfl,rfl⟩|exact Bq (Cj.slc ao)|exact Bq (Cj.slg ao)|exact Bq dl.slL) ca Z Z Aa fun fi a8 et b7=>?_
 replace b7:BX fi.heap w1.heap.size [zI ((p.getD f.toNat Fn.zero).params),f1,vg47,fc]:=b7
 have eu:As S w fi:=c7.fresh a8 (fun _ h=>zE h)
 have ap:=Cj.chgO ao a8 fun b hb hm=>by rw[A9 hb]at hm;exact aj hm
 have cd:=c8.fresh a8 fun _ h=>zE h
 have e6:f5.heap.size≤fi.heap.size:=a8.size
 have ev:=c9.chg a8 (zB ·)
 have ew:=ad.chg a8 (zB ·)
 have ex:=ah.keep (Bb AK) a8 fun b hb hm=>by have:=A9 hb;have:=ah.low _ hm;have:=ah.high _ hm;omega
 have hF81l:=hF63l.upd g1 a8 fun b hb=>by rw[A9 hb];(right;omega)
 have dn:=hF81l.rn
 refine Ac 1 Z<|A1 ?_
 have ce:∀b∈fe,w.heap.size≤b:=fun b hb=>(cd.new b hb).elim (hSn b) id
 exact Ji (t0:=7) (ts:=[]) (cs:=[zI<|(p.getD f.toNat Fn.zero).params,f1,vg47,fc]) [zI ((0:Nat):Int)] Z DY Z b7 Z Z ⟨_,_,_,_,_,_,_,_,rfl,As.toExt cd.chg hSn,(by have h9:=hKr;rwa [show f4=((0:Nat):Int)from by omega]at h9),oM,(by intro u hu;simp only[ze,z2,or_false]at hu;rcases hu with rfl|rfl|rfl;exact Bq (Cj.slc ap);exact Bq (Cj.slg ap);exact RN.one1 g1 dn),(by show Bt _;unfold Bt;omega),(fun _=>⟨rfl,by assumption,zO,hKl,hKb oM,(Cj.readsG ap ce).1,(Cj.readsG ap ce).2,Q7.rg hF81l oM⟩)⟩
theorem Gc (w:World)(n:Int)(vo:Nat)(ord:Int)(_hn:Bt n)(hcord:GE w.heap (zP vo)=some (zI ord))(_hord:Bt ord)(ho:0≤ord∧ord≤12) :
  Calls Tryz.prog 186 #[zI n,zP vo] w (fun e w'=>∃v0:Value,e=.returned (v0)∧AG w w'∧Fr (Bi rI 2) w.heap.size w'.heap.size w'.heap v0 (cst (ord.toNat+1) n)):=by
 refine Ap [zI n,zP vo] 12 Tryz.func186 Z Z sM ?_
 have a0:AG w w:=AG.refl w
 refine aI Z<|aH [2,0,3,0] Z<|Ah (.inr Z) (zI ord) KU Z (Bc a0 hcord) Aa<|AN ((ord.toNat+1:Nat):Int) Z Z (Be oM oM) Aa (EL (n:=ord.toNat+1) Bj Bz Z Z Z sD Aa fun v1 w1 a1 aa a2=>?_)
 have a5:=a1.size
 have a3:=a0.trans a1
 refine Ac 1 Z<|aH [0,0,0,4] Z<|Ad 2 Z<|Az (v:=v1) 0 Bj Bz Z Z a2.isSl Z sM Aa (Fz (v:=v1) (w:=w1) GH Z Z _hn a2 sM Aa fun w2 F2 a4 ab a6 a7=>?_)
 have a8:AG w w2:=a4.below a3 (fun c hc=>A8 (A7 _) (a6 c hc).1) a3.size
 have a9:w1.heap.size≤w2.heap.size:=a4.size
 exact Aj<|aH [0,0] Z<|Ac 2 Z<|A1<|Af [3] Z v1 Z ⟨v1,rfl,a8,a7.up o1⟩
theorem Iq {p:Prop}(h:p:=by first|(rw[Dh oM,Mz oM];exact⟨_,_,by assumption⟩)|(rw[Dh oM,KJ oM];exact⟨_,_,by assumption⟩)|(rw[Dh oM,KK oM];exact⟨_,_,by assumption⟩)|(rw[Dh oM,KL oM];exact⟨_,_,by assumption⟩)|(rw[Dh oM,KM oM];exact⟨_,_,by assumption⟩)|(rw[Dh oM,KN oM];exact⟨_,_,by assumption⟩)|(rw[Dh oM,KO oM];exact⟨_,_,by assumption⟩)):p:=h
theorem Ir {p:Prop}(h:p:=by unfold maxLen;first|omega|assumption|(simp only[zb,z9,z4,z6,z5];omega)|(simp[zb,z9,z4,z6,z5];done)|(simp[zb,z9,z4,z6,z5];omega)):p:=h
theorem Is {p:Prop}(h:p:=by first|exact TA hzk oM|exact TB hzk oM):p:=h
theorem It {p:Prop}(h:p:=by exact Tz hR hsA (hform k hkl) hkl):p:=h
theorem DZ (w:World)(ipT:Int)(vtc vtg vtx:Value)(T:Tp)(oT:Sr)(va:Value)(A:List (Sr))(ord:Int)(_hipT:Bt ipT)(htcT:RN [] (Dw 4 No) w.heap vtc T.code)(htgT:RN [] (Dw 2 Np) w.heap vtg T.grd)(htoT:RN [] (AX rI) w.heap vtx oT)(hA:RN [] (AX (AX rI)) w.heap va A)(hqA:C8 va)(_hord:Bt ord)(ho:0≤ord∧ord≤12)(hsA:C0 (ord.toNat+1) A)(hform:∀k,k<T.code.length→Es A.length k (T.code.getD k AD.zero))(hlt:T.code.length≤4000) :
  Calls Tryz.prog 109 #[(.agg #[(zI ipT),vtc,vtg,vtx]),va,zI ord] w (fun e w'=>∃(v0:Value) (c1:Int),e=.returned (.tuple #[v0,zI c1])∧AG w w'∧VT (ord.toNat+1) A T.code c1∧(c1=0→RN [] (AX (AX rI)) w'.heap v0 (B5 (ord.toNat+1) A T.code)∧C8 v0)):=by
 refine Ap [.agg #[zI ipT,vtc,vtg,vtx],va,zI ord] 109 Tryz.func109 Z Z sM ?_
 have gp:AG w w:=AG.refl w
 have hl_vtx:=htoT.lenL
 unfold maxLen at hl_vtx
 have f1:=hA.lenL
 unfold maxLen at f1
 have hS:∀b∈([]:List Nat),b<w.heap.size:=fun b hb=>by cases hb
 refine aH [3,3,0,0] Z (Bu (cs:=#[zI ipT,vtc,vtg,vtx]) Z Aa fun w1 dx im dt=>?_)
 have dy:=dx.size
 have gq:=gp.trans dx
 replace dt:BX w1.heap w.heap.size [zI ipT,vtc,vtg,vtx]:=dt
 have jr:=dt.lt
 refine VQ (u:=zI ord) Z Z Aa fun w2 du io dv=>?_
 have dz:=du.size
 have gr:=gq.trans du
 have bg:=dt.ext du
 replace dv:BX w2.heap w1.heap.size [zI ord]:=dv
 refine Ac 2 Z<|aH [3,0] Z ?_
 obtain⟨BO,hBO⟩:∃b:Nat,b=w2.heap.size:=⟨_,rfl⟩
 have hwB:w.heap.size≤BO:=by omega
 have js:w.heap.size<BO:=by have:=BX.lt bg;omega
 have jt:w1.heap.size<BO:=by have:=BX.lt dv;omega
 refine Ch rV Bs BH B9 Aa fun v4 w4 ch ip e0=>?_
 have e1:=ch.size
 have gs:=gr.trans ch
 have ci:=bg.ext ch
 have cj:=dv.ext ch
 obtain⟨ju,F4,jv⟩:=GR.nil (S:=[]) (by rw[← hBO]at e0;exact e0)
 refine Ac 1 Z<|aH [0,0] Z<|Mf [] [zP w1.heap.size] Z Z Aa<|Ac 1 Z<|A0<|aH [0,2,0,0] Z<|Ak (p:=zP w.heap.size) 1 EW Z Z Aa<|Ah (p:=Ao (zP w.heap.size) 1) (.inr Z) vtc JN Z (ci.ldp (i:=1) sM) Aa<|AO (v:=vtc) Oo Z htcT.isSl Aa<|Ac 1 Z<|A3 ?_
 refine AW (S:=Nat×Value) (fun⟨k,vo⟩=>([(8,vo),(18,zI (k:Int)),(1,va),(9,.func (.func 186) #[] #[zP w1.heap.size]),(16,vtc),(17,zI (T.code.length:Int))])) (fun⟨k,vo⟩ W=>AG w W∧BX W.heap w1.heap.size [zI ord]∧k≤T.code.length∧w.heap.size≤BO∧BO≤W.heap.size∧N7 27 [] BO W.heap vo (B5 (ord.toNat+1) A<|T.code.take k)∧KI (ord.toNat+1) A T.code k∧C0 (ord.toNat+1) (B5 (ord.toNat+1) A<|T.code.take k)) (fun⟨k,vo⟩=>T.code.length-k) (0,v4) ⟨rfl,rfl,rfl,rfl,rfl,rfl,trivial⟩ ⟨gs,cj,oM,oM,oM,(by exact⟨_,_,by assumption⟩),VR,(by intro j hj;simp at hj)⟩ ?_
 clear gp im dx dy gq io du dz gr e0 ip ch e1 gs
 rintro⟨k,vo⟩ ρ7 w7 ⟨dw,au,gt,gu,gv,hbld,hzk,hR⟩
 have iq:w.heap.size≤w7.heap.size:=dw.size
 have hRl:(B5 (ord.toNat+1) A (T.code.take k)).length=k:=by rw[BG,List.length_take];omega
 have jw:=au.lt
 obtain⟨jx,F9,av⟩:=hbld
 have hFl:∀b∈F9,b<w7.heap.size:=av.lt
 refine aH [0] Z ?_
 by_cases ck:(k:Int)<(T.code.length:Int)
 ·refine AE true Z Z (A5 ck) Aa<|Aj<|A0<|Ag Z<|A2<|A0<|A3<|aH [0,2,3,4] Z ?_
  have hkl:k<T.code.length:=by omega
  refine Az (v:=vtc) k Oo IY Z Z htcT.isSl Z sD Aa ?_
  obtain⟨cs11,e2,e3⟩:=htcT.get B4 AD.zero (k:=k) sD
  obtain⟨rfl,e4⟩:=MA e2
  refine AL (p:=Ax vtc k 4) (.inr Z) [zI<|(T.code.getD k AD.zero).op,zI<|(T.code.getD k AD.zero).a,zI<|(T.code.getD k AD.zero).b,zI<|(T.code.getD k AD.zero).num] EX Z (fun fg ir=>e3 fg<|As.of_ext []<|dw.trans ir) Z Aa ?_
  have is:=au.lt
  refine Bp (z:=.agg #[zI 0,zI 0,zI 0,zI 0]) Ss Aa fun f8 ai it bn=>?_
  have gw:=ai.size
  have cl:=dw.trans ai
  have aw:=au.ext ai
  have iu:=av.ext ai
  replace bn:BX f8.heap w7.heap.size [zI 0,zI 0,zI 0,zI 0]:=bn
  refine Bw (vs:=[zI<|(T.code.getD k AD.zero).op,zI<|(T.code.getD k AD.zero).a,zI<|(T.code.getD k AD.zero).b,zI<|(T.code.getD k AD.zero).num]) EX Z Z (by intro u hu;simp only[ze,z2,or_false]at hu;rcases hu with rfl|rfl|rfl|rfl <;> first|exact⟨rfl,rfl⟩) bn Z Z Aa fun f2 ay iv az=>?_
  replace az:BX f2.heap w7.heap.size [zI ((T.code.getD k AD.zero).op),zI ((T.code.getD k AD.zero).a),zI ((T.code.getD k AD.zero).b),zI ((T.code.getD k AD.zero).num)]:=az
  have e5:AG w f2:=ay.below cl (fun _ h=>zE h) cl.size
  have gx:f8.heap.size≤f2.heap.size:=ay.size
  have cm:=aw.chg ay (zB ·)
  have e6:=av.ext<|ay.below ai (fun _ h=>zE h) ai.size
  refine Aj<|aH [0,0,2,3,0] Z<|Ad 1 Z<|Ak (p:=zP w7.heap.size) 3 EY Z Z Aa<|Ah (p:=Ao (zP w7.heap.size) 3) (.inr Z) (zI<|(T.code.getD k AD.zero).num) AC Z (az.ldp (i:=3) sM) Aa<|Au 186 [] [zP w1.heap.size] [zI<|(T.code.getD k AD.zero).num,zP w1.heap.size] Z Z Yf Aa (Gc _ _ (w1.heap.size) (ord) e4.2.2.2 (cm.ld (k:=0) sM) _hord oM) ?_
  rintro k1 f0 ⟨bh,rfl,aj,ad⟩
  refine⟨_,rfl,aj,?_⟩
  have gy:=aj.size
  have a8:=e5.trans aj
  have a2:=cm.ext aj
  have a0:=az.ext aj
  have a1:=e6.ext aj
  refine Ac 1 Z<|A0<|aH [0,2] Z<|Ak (p:=zP w7.heap.size) 0 KX Z Z Aa<|Ah (p:=Ao (zP w7.heap.size) 0) (.inr Z) (zI<|(T.code.getD k AD.zero).op) AC Z (a0.ldp (i:=0) sM) Aa<|Aj<|A3<|aH [0,0] Z ?_
  by_cases cn:(T.code.getD k AD.zero).op=((1:Nat):Int)
  ·refine Al true Z Z (A5 cn) Aa<|Ac 1 Z<|Ag Z<|Ab _ [0,0,2,0,2,0] Z ?_
   have hio:=(hform k hkl).i1 oM
   refine Ad 1 Z<|Ak (p:=zP w7.heap.size) 3 EY Z Z Aa<|Ah (p:=Ao (zP w7.heap.size) 3) (.inr Z) (zI<|(T.code.getD k AD.zero).num) AC Z (a0.ldp (i:=3) sM) Aa<|Az (v:=va) (((T.code.getD k AD.zero).num).toNat) BH B9 Z Z hA.slL oM sD Aa ?_
   obtain⟨bo,e7,bp⟩:=RN.getL (w:=w) g1 [] (k:=((T.code.getD k AD.zero).num).toNat) hA sD
   have co:=bp.lenL
   unfold maxLen at co
   refine Ah (p:=Ax va (((T.code.getD k AD.zero).num).toNat) 1) (.inr Z) bo Bk Z (e7 _<|As.of_ext [] a8) Aa<|Ac 1 Z<|Ab _ [0,0,3,4,0] Z<|Ad 2 Z (BI (u:=bo) (B:=f0.heap.size) Bs BH B9 Z Z (NS f0.heap.size f0.heap.size _<|bp.one1 g1) (A7 _) Aa fun fh fi b0 iw e8=>?_)
   have gz:=b0.size
   have bq:=a8.trans b0
   have b1:=a2.ext b0
   have b2:=a1.ext b0
   refine E2 (v:=vo) (a:=fh) (u:=bo) BH B9 Z Z Z b2 oM e8 (RN.stp g1 bp (As.of_ext [] bq) fun b hb=>.inr (zH<|b2.low b (by simpa using hb))) sD Ir Aa ?_
   rintro fj f9 G24 br cp ⟨ix,k2,iy⟩
   have i0:fi.heap.size≤f9.heap.size:=br.size
   have e9:AG w f9:=br.below bq (fun c hc=>A8 hwB (b2.low c (cp c hc))) bq.size
   have ea:=b1.chg br fun hm=>zH<|b2.low _ (cp _ hm)
   refine Ac 1 Z<|Ab _ [0,0] Z<|AN ((k+1:Nat):Int) Z Z (Be oM sD) Aa<|Ac 1 Z ?_
   exact⟨(k+1,fj),_,rfl,zR,⟨e9,ea,oM,oM,oM,Iq,Is,It⟩,zD⟩
  refine Al false Z Z (A6 cn) Aa<|Ac 1 Z<|Ai Z<|aH [0,0] Z ?_
  by_cases cq:(T.code.getD k AD.zero).op=((3:Nat):Int)
  ·refine Al true Z Z (A5 cq) Aa<|Ac 1 Z<|Ag Z<|AQ _ [0,0,1,0,1,0,0,1,0,1,3,0] mixed (by kernel_rfl) ?_
   have hio:=(hform k hkl).i2 oM
   have hra:=hR (T.code.getD k AD.zero).a.toNat oM
   have hrb:=hR (T.code.getD k AD.zero).b.toNat oM
   have b3:=hra.1
   have bs:=hrb.1
   refine Ad 1 Z<|Ak (p:=zP w7.heap.size) 1 CH Z Z Aa<|Ah (p:=Ao (zP w7.heap.size) 1) (.inl Z) (zI<|(T.code.getD k AD.zero).a) AC Z (a0.ldp (i:=1) sM) Aa<|Az (v:=vo) (((T.code.getD k AD.zero).a).toNat) BH B9 Z Z (a1.done fun b hb=>absurd hb z2).slL oM sD Aa ?_
   obtain⟨cr,eb,bt⟩:=RN.getL (w:=f0) g1 [] (k:=((T.code.getD k AD.zero).a).toNat) (a1.done (fun b hb=>absurd hb z2)) sD
   have ct:=bt.lenL
   unfold maxLen at ct
   refine Ah (p:=Ax vo (((T.code.getD k AD.zero).a).toNat) 1) (.inl Z) cr Bk Z (eb _ (As.refl _ _).drew) Aa<|Ad 1 Z<|Ak (p:=zP w7.heap.size) 2 Cx Z Z Aa<|Ah (p:=Ao (zP w7.heap.size) 2) (.inl Z) (zI<|(T.code.getD k AD.zero).b) AC Z (a0.ldp (i:=2) sM) Aa ?_
   refine Az (v:=vo) (((T.code.getD k AD.zero).b).toNat) BH B9 Z Z (a1.done fun b hb=>absurd hb z2).slL oM sD Aa ?_
   obtain⟨cu,ec,bu⟩:=RN.getL (w:=f0) g1 [] (k:=((T.code.getD k AD.zero).b).toNat) (a1.done (fun b hb=>absurd hb z2)) sD
   have cv:=bu.lenL
   unfold maxLen at cv
   refine Ah (p:=Ax vo (((T.code.getD k AD.zero).b).toNat) 1) (.inl Z) cu Bk Z (ec _ (As.refl _ _).drew) Aa<|Au 185 [] [] [cr,cu] Z Z NO Aa (DS _ _ _ _ _ (bt).rd (bu).rd oM oM hra.2 hrb.2) ?_
   rintro k3 f3 ⟨bi,rfl,a9,a3⟩
   refine⟨_,rfl,a9,?_⟩
   replace a9:=a9.of_drew
   have i3:=a9.size
   have ed:=a8.trans a9
   have b4:=a2.ext a9
   have ee:=a1.ext a9
   have ef:=bt.ext g1 a9
   have eg:=bu.ext g1 a9
   replace a3:=a3.low (B':=f0.heap.size)<|A7 _
   refine Ac 1 Z<|Ab _ [0,0,3,4,0] Z<|Ad 2 Z (BI (u:=bi) (B:=f3.heap.size) Bs BH B9 Z Z (NS f3.heap.size f3.heap.size _<|⟨(C3 a3.isSl).1,(C3 a3.isSl).2⟩) (A7 _) Aa fun fk fl ae iz eh=>?_)
   have i4:=ae.size
   have cw:=ed.trans ae
   have b5:=b4.ext ae
   have ak:=a3.ext (o1) ae
   have bv:=ee.ext ae
   have j0:=ef.ext g1 ae
   have j1:=eg.ext g1 ae
   refine E2 (v:=vo) (a:=fk) (u:=bi) BH B9 Z Z Z bv oM eh (RN.of_fr1 ak fun b hb=>zH<|hFl b (by simpa using hb)) sD Ir Aa ?_
   rintro fm fa G37 bw cx ⟨j2,k4,j3⟩
   have i5:fl.heap.size≤fa.heap.size:=bw.size
   have ei:AG w fa:=bw.below cw (fun c hc=>A8 hwB (bv.low c (cx c hc))) cw.size
   have ej:=b5.chg bw fun hm=>zH<|bv.low _ (cx _ hm)
   refine Ac 1 Z<|Ab _ [0,0] Z<|AN ((k+1:Nat):Int) Z Z (Be oM sD) Aa<|Ac 1 Z ?_
   exact⟨(k+1,fm),_,rfl,zR,⟨ei,ej,oM,oM,oM,Iq,Is,It⟩,zD⟩
  refine Al false Z Z (A6 cq) Aa<|Ac 1 Z<|Ai Z<|aH [0,0] Z ?_
  by_cases cy:(T.code.getD k AD.zero).op=((4:Nat):Int)
  ·refine Al true Z Z (A5 cy) Aa<|Ac 1 Z<|Ag Z<|AQ _ [0,0,1,0,1,0,0,1,0,1,3,0] mixed (by kernel_rfl) ?_
   have hio:=(hform k hkl).i2 oM
   have hra:=hR (T.code.getD k AD.zero).a.toNat oM
   have hrb:=hR (T.code.getD k AD.zero).b.toNat oM
   have b3:=hra.1
   have bs:=hrb.1
   refine Ad 1 Z<|Ak (p:=zP w7.heap.size) 1 CH Z Z Aa<|Ah (p:=Ao (zP w7.heap.size) 1) (.inl Z) (zI<|(T.code.getD k AD.zero).a) AC Z (a0.ldp (i:=1) sM) Aa<|Az (v:=vo) (((T.code.getD k AD.zero).a).toNat) BH B9 Z Z (a1.done fun b hb=>absurd hb z2).slL oM sD Aa ?_
   obtain⟨cz,ek,bx⟩:=RN.getL (w:=f0) g1 [] (k:=((T.code.getD k AD.zero).a).toNat) (a1.done (fun b hb=>absurd hb z2)) sD
   have d0:=bx.lenL
   unfold maxLen at d0
   refine Ah (p:=Ax vo (((T.code.getD k AD.zero).a).toNat) 1) (.inl Z) cz Bk Z (ek _ (As.refl _ _).drew) Aa<|Ad 1 Z<|Ak (p:=zP w7.heap.size) 2 Cx Z Z Aa<|Ah (p:=Ao (zP w7.heap.size) 2) (.inl Z) (zI<|(T.code.getD k AD.zero).b) AC Z (a0.ldp (i:=2) sM) Aa ?_
   refine Az (v:=vo) (((T.code.getD k AD.zero).b).toNat) BH B9 Z Z (a1.done fun b hb=>absurd hb z2).slL oM sD Aa ?_
   obtain⟨d1,el,bz⟩:=RN.getL (w:=f0) g1 [] (k:=((T.code.getD k AD.zero).b).toNat) (a1.done (fun b hb=>absurd hb z2)) sD
   have d2:=bz.lenL
   unfold maxLen at d2
   refine Ah (p:=Ax vo (((T.code.getD k AD.zero).b).toNat) 1) (.inl Z) d1 Bk Z (el _ (As.refl _ _).drew) Aa<|Au 178 [] [] [cz,d1] Z Z UB Aa (He _ _ _ _ _ (bx).rd (bz).rd oM oM oM hra.2 hrb.2) ?_
   rintro k5 f4 ⟨bj,rfl,aa,a4⟩
   refine⟨_,rfl,aa,?_⟩
   replace aa:=aa.of_drew
   have i6:=aa.size
   have em:=a8.trans aa
   have b6:=a2.ext aa
   have en:=a1.ext aa
   have eo:=bx.ext g1 aa
   have ep:=bz.ext g1 aa
   replace a4:=a4.low (B':=f0.heap.size)<|A7 _
   refine Ac 1 Z<|Ab _ [0,0,3,4,0] Z<|Ad 2 Z (BI (u:=bj) (B:=f4.heap.size) Bs BH B9 Z Z (NS f4.heap.size f4.heap.size _<|⟨(C3 a4.isSl).1,(C3 a4.isSl).2⟩) (A7 _) Aa fun fo fp af j4 eq=>?_)
   have i8:=af.size
   have d3:=em.trans af
   have b7:=b6.ext af
   have al:=a4.ext (o1) af
   have c0:=en.ext af
   have j5:=eo.ext g1 af
   have j6:=ep.ext g1 af
   refine E2 (v:=vo) (a:=fo) (u:=bj) BH B9 Z Z Z c0 oM eq (RN.of_fr1 al fun b hb=>zH<|hFl b (by simpa using hb)) sD Ir Aa ?_
   rintro fq fb G50 c2 d4 ⟨j7,k6,j8⟩
   have i9:fp.heap.size≤fb.heap.size:=c2.size
   have er:AG w fb:=c2.below d3 (fun c hc=>A8 hwB (c0.low c (d4 c hc))) d3.size
   have es:=b7.chg c2 fun hm=>zH<|c0.low _ (d4 _ hm)
   refine Ac 1 Z<|Ab _ [0,0] Z<|AN ((k+1:Nat):Int) Z Z (Be oM sD) Aa<|Ac 1 Z ?_
   exact⟨(k+1,fq),_,rfl,zR,⟨er,es,oM,oM,oM,Iq,Is,It⟩,zD⟩
  refine Al false Z Z (A6 cy) Aa<|Ac 1 Z<|Ai Z<|aH [0,0] Z ?_
  by_cases d5:(T.code.getD k AD.zero).op=((5:Nat):Int)
  ·refine Al true Z Z (A5 d5) Aa<|Ac 1 Z<|Ag Z<|AQ _ [0,0,1,0,1,0,0,1,0,1,3,0] mixed (by kernel_rfl) ?_
   have hio:=(hform k hkl).i2 oM
   have hra:=hR (T.code.getD k AD.zero).a.toNat oM
   have hrb:=hR (T.code.getD k AD.zero).b.toNat oM
   have b3:=hra.1
   have bs:=hrb.1
   refine Ad 1 Z<|Ak (p:=zP w7.heap.size) 1 CH Z Z Aa<|Ah (p:=Ao (zP w7.heap.size) 1) (.inl Z) (zI<|(T.code.getD k AD.zero).a) AC Z (a0.ldp (i:=1) sM) Aa<|Az (v:=vo) (((T.code.getD k AD.zero).a).toNat) BH B9 Z Z (a1.done fun b hb=>absurd hb z2).slL oM sD Aa ?_
   obtain⟨d6,et,c3⟩:=RN.getL (w:=f0) g1 [] (k:=((T.code.getD k AD.zero).a).toNat) (a1.done (fun b hb=>absurd hb z2)) sD
   have d7:=c3.lenL
   unfold maxLen at d7
   refine Ah (p:=Ax vo (((T.code.getD k AD.zero).a).toNat) 1) (.inl Z) d6 Bk Z (et _ (As.refl _ _).drew) Aa<|Ad 1 Z<|Ak (p:=zP w7.heap.size) 2 Cx Z Z Aa<|Ah (p:=Ao (zP w7.heap.size) 2) (.inl Z) (zI<|(T.code.getD k AD.zero).b) AC Z (a0.ldp (i:=2) sM) Aa ?_
   refine Az (v:=vo) (((T.code.getD k AD.zero).b).toNat) BH B9 Z Z (a1.done fun b hb=>absurd hb z2).slL oM sD Aa ?_
   obtain⟨d8,eu,c4⟩:=RN.getL (w:=f0) g1 [] (k:=((T.code.getD k AD.zero).b).toNat) (a1.done (fun b hb=>absurd hb z2)) sD
   have d9:=c4.lenL
   unfold maxLen at d9
   refine Ah (p:=Ax vo (((T.code.getD k AD.zero).b).toNat) 1) (.inl Z) d8 Bk Z (eu _ (As.refl _ _).drew) Aa<|Au 179 [] [] [d6,d8] Z Z NN Aa (Db _ _ _ _ _ (c3).rd (c4).rd oM oM hra.2 hrb.2) ?_
   rintro k7 f5 ⟨bk,rfl,ab,a5⟩
   refine⟨_,rfl,ab,?_⟩
   replace ab:=ab.of_drew
   have ia:=ab.size
   have ev:=a8.trans ab
   have b8:=a2.ext ab
   have ew:=a1.ext ab
   have ex:=c3.ext g1 ab
   have ey:=c4.ext g1 ab
   replace a5:=a5.low (B':=f0.heap.size)<|A7 _
   refine Ac 1 Z<|Ab _ [0,0,3,4,0] Z<|Ad 2 Z (BI (u:=bk) (B:=f5.heap.size) Bs BH B9 Z Z (NS f5.heap.size f5.heap.size _<|⟨(C3 a5.isSl).1,(C3 a5.isSl).2⟩) (A7 _) Aa fun fr fs ag j9 ez=>?_)
   have ib:=ag.size
   have da:=ev.trans ag
   have b9:=b8.ext ag
   have am:=a5.ext (o1) ag
   have c5:=ew.ext ag
   have ja:=ex.ext g1 ag
   have jb:=ey.ext g1 ag
   refine E2 (v:=vo) (a:=fr) (u:=bk) BH B9 Z Z Z c5 oM ez (RN.of_fr1 am fun b hb=>zH<|hFl b (by simpa using hb)) sD Ir Aa ?_
   rintro ft fc G63 c6 db ⟨jc,k8,jd⟩
   have ic:fs.heap.size≤fc.heap.size:=c6.size
   have g0:AG w fc:=c6.below da (fun c hc=>A8 hwB (c5.low c (db c hc))) da.size
   have g2:=b9.chg c6 fun hm=>zH<|c5.low _ (db _ hm)
   refine Ac 1 Z<|Ab _ [0,0] Z<|AN ((k+1:Nat):Int) Z Z (Be oM sD) Aa<|Ac 1 Z ?_
   exact⟨(k+1,ft),_,rfl,zR,⟨g0,g2,oM,oM,oM,Iq,Is,It⟩,zD⟩
  refine Al false Z Z (A6 d5) Aa<|Ac 1 Z<|Ai Z<|aH [0,0] Z ?_
  by_cases dc:(T.code.getD k AD.zero).op=((7:Nat):Int)
  ·refine Al true Z Z (A5 dc) Aa<|Ac 1 Z<|Ag Z<|Ab _ [0,0,2,0,2,3,0] Z ?_
   have hio:=(hform k hkl).i7 oM
   have hra:=hR (T.code.getD k AD.zero).a.toNat oM
   have b3:=hra.1
   refine Ad 1 Z<|Ak (p:=zP w7.heap.size) 1 CH Z Z Aa<|Ah (p:=Ao (zP w7.heap.size) 1) (.inr Z) (zI<|(T.code.getD k AD.zero).a) AC Z (a0.ldp (i:=1) sM) Aa<|Az (v:=vo) (((T.code.getD k AD.zero).a).toNat) BH B9 Z Z (a1.done fun b hb=>absurd hb z2).slL oM sD Aa ?_
   obtain⟨dd,g3,c7⟩:=RN.getL (w:=f0) g1 [] (k:=((T.code.getD k AD.zero).a).toNat) (a1.done (fun b hb=>absurd hb z2)) sD
   have de:=c7.lenL
   unfold maxLen at de
   refine Ah (p:=Ax vo (((T.code.getD k AD.zero).a).toNat) 1) (.inr Z) dd Bk Z (g3 _<|As.refl _ _) Aa<|Au 187 [] [] [dd,zI ((1000002:Nat):Int)] Z Z Ma Aa (CW _ _ _ _ (c7).rd oM oM hra.2 oM) ?_
   rintro k9 f6 ⟨bl,rfl,an,ah⟩
   refine⟨_,rfl,an,?_⟩
   have id:=an.size
   have g4:=a8.trans an
   have ba:=a2.ext an
   have g5:=a1.ext an
   have g6:=c7.ext g1 an
   refine Ac 1 Z<|Ab _ [0,0,3,4,0] Z<|Ad 2 Z (BI (u:=bl) (B:=f6.heap.size) Bs BH B9 Z Z (NS f6.heap.size f6.heap.size _<|⟨(C3 ah.isSl).1,(C3 ah.isSl).2⟩) (A7 _) Aa fun fu fv ao je g7=>?_)
   have ie:=ao.size
   have df:=g4.trans ao
   have bb:=ba.ext ao
   have ap:=ah.ext (o1) ao
   have c8:=g5.ext ao
   have jf:=g6.ext g1 ao
   refine E2 (v:=vo) (a:=fu) (u:=bl) BH B9 Z Z Z c8 oM g7 (RN.of_fr1 ap fun b hb=>zH<|hFl b (by simpa using hb)) sD Ir Aa ?_
   rintro fw fd G73 c9 dg ⟨jg,ka,jh⟩
   have ig:fv.heap.size≤fd.heap.size:=c9.size
   have g8:AG w fd:=c9.below df (fun c hc=>A8 hwB (c8.low c (dg c hc))) df.size
   have g9:=bb.chg c9 fun hm=>zH<|c8.low _ (dg _ hm)
   refine Ac 1 Z<|Ab _ [0,0] Z<|AN ((k+1:Nat):Int) Z Z (Be oM sD) Aa<|Ac 1 Z ?_
   exact⟨(k+1,fw),_,rfl,zR,⟨g8,g9,oM,oM,oM,Iq,Is,It⟩,zD⟩
  refine Al false Z Z (A6 dc) Aa<|Ac 1 Z<|Ai Z<|aH [0,0] Z ?_
  by_cases dh:(T.code.getD k AD.zero).op=((6:Nat):Int)
  ·refine Al true Z Z (A5 dh) Aa<|Ac 1 Z<|Ag Z<|A0<|aH [0,0,2,0,2,0,2,0] Z ?_
   have hio:=(hform k hkl).i2 oM
   have hra:=hR (T.code.getD k AD.zero).a.toNat oM
   have hrb:=hR (T.code.getD k AD.zero).b.toNat oM
   have b3:=hra.1
   have bs:=hrb.1
   refine Ad 1 Z<|Ak (p:=zP w7.heap.size) 2 Cx Z Z Aa<|Ah (p:=Ao (zP w7.heap.size) 2) (.inr Z) (zI<|(T.code.getD k AD.zero).b) AC Z (a0.ldp (i:=2) sM) Aa<|Az (v:=vo) (((T.code.getD k AD.zero).b).toNat) BH B9 Z Z (a1.done fun b hb=>absurd hb z2).slL oM sD Aa ?_
   obtain⟨ca,ga,bc⟩:=RN.getL (w:=f0) g1 [] (k:=((T.code.getD k AD.zero).b).toNat) (a1.done (fun b hb=>absurd hb z2)) sD
   have di:=bc.lenL
   unfold maxLen at di
   refine Ah (p:=Ax vo (((T.code.getD k AD.zero).b).toNat) 1) (.inr Z) ca Bk Z (ga _<|As.refl _ _) Aa<|Az (v:=ca) 0 Bj Bz Z Z bc.slL Z sD Aa ?_
   have gb:=RN.getI (w:=f0) (k:=0) bc sD
   refine Ah (p:=Ax ca 0 1) (.inr Z) (zI<|((B5 (ord.toNat+1) A<|T.code.take k).getD (((T.code.getD k AD.zero).b).toNat) []).getD 0 0) AC Z (gb.1 _<|As.refl _ _) Aa ?_
   by_cases dj:((B5 (ord.toNat+1) A (T.code.take k)).getD (((T.code.getD k AD.zero).b).toNat) []).getD 0 0=((0:Nat):Int)
   ·exact Al true Z Z (A5 dj) Aa<|Aj<|Ag Z<|aH [0,0] Z<|Ac 2 Z<|A1<|Am<|AF<|Am<|AF<|Am<|Am<|AF<|Am<|Af [6,7] Z (.tuple #[zN,zI ((6:Nat):Int)]) Z ⟨_,_,rfl,a8,.inr ⟨rfl,RZ oM oM oM⟩,(fun h9=>absurd h9 oM)⟩
   refine Al false Z Z (A6 dj) Aa<|Aj<|Ai Z<|A2<|AQ _ [0,0,1,0,1,0,0,1,0,1,3,0] mixed (by kernel_rfl)<|Ad 1 Z<|Ak (p:=zP w7.heap.size) 1 CH Z Z Aa<|Ah (p:=Ao (zP w7.heap.size) 1) (.inl Z) (zI<|(T.code.getD k AD.zero).a) AC Z (a0.ldp (i:=1) sM) Aa ?_
   refine Az (v:=vo) (((T.code.getD k AD.zero).a).toNat) BH B9 Z Z (a1.done fun b hb=>absurd hb z2).slL oM sD Aa ?_
   obtain⟨dk,gc,cb⟩:=RN.getL (w:=f0) g1 [] (k:=((T.code.getD k AD.zero).a).toNat) (a1.done (fun b hb=>absurd hb z2)) sD
   have dl:=cb.lenL
   unfold maxLen at dl
   refine Ah (p:=Ax vo (((T.code.getD k AD.zero).a).toNat) 1) (.inl Z) dk Bk Z (gc _ (As.refl _ _).drew) Aa<|Ad 1 Z<|Ak (p:=zP w7.heap.size) 2 Cx Z Z Aa<|Ah (p:=Ao (zP w7.heap.size) 2) (.inl Z) (zI<|(T.code.getD k AD.zero).b) AC Z (a0.ldp (i:=2) sM) Aa ?_
   refine Az (v:=vo) (((T.code.getD k AD.zero).b).toNat) BH B9 Z Z (a1.done fun b hb=>absurd hb z2).slL oM sD Aa ?_
   obtain⟨dm,gd,cc⟩:=RN.getL (w:=f0) g1 [] (k:=((T.code.getD k AD.zero).b).toNat) (a1.done (fun b hb=>absurd hb z2)) sD
   have dn:=cc.lenL
   unfold maxLen at dn
   refine Ah (p:=Ax vo (((T.code.getD k AD.zero).b).toNat) 1) (.inl Z) dm Bk Z (gd _ (As.refl _ _).drew) Aa<|Au 177 [] [] [dk,dm] Z Z Sj Aa (Ew _ _ _ _ _ (cb).rd (cc).rd oM oM oM hra.2 hrb.2) ?_
   rintro kb f7 ⟨bm,rfl,a7,a6⟩
   refine⟨_,rfl,a7,?_⟩
   replace a7:=a7.of_drew
   have ih:=a7.size
   have ge:=a8.trans a7
   have bd:=a2.ext a7
   have gf:=a1.ext a7
   have gg:=bc.ext g1 a7
   have gh:=cb.ext g1 a7
   have gi:=cc.ext g1 a7
   replace a6:=a6.low (B':=f0.heap.size)<|A7 _
   refine Ac 1 Z<|Ab _ [0,0,3,4,0] Z<|Ad 2 Z (BI (u:=bm) (B:=f7.heap.size) Bs BH B9 Z Z (NS f7.heap.size f7.heap.size _<|⟨(C3 a6.isSl).1,(C3 a6.isSl).2⟩) (A7 _) Aa fun fx fy ac ji gj=>?_)
   have ii:=ac.size
   have dp:=ge.trans ac
   have be:=bd.ext ac
   have aq:=a6.ext (o1) ac
   have cd:=gf.ext ac
   have jj:=gg.ext g1 ac
   have jk:=gh.ext g1 ac
   have jl:=gi.ext g1 ac
   refine E2 (v:=vo) (a:=fx) (u:=bm) BH B9 Z Z Z cd oM gj (RN.of_fr1 aq fun b hb=>zH<|hFl b (by simpa using hb)) sD Ir Aa ?_
   rintro fz fe G91 ce dq ⟨jm,kc,jn⟩
   have ij:fy.heap.size≤fe.heap.size:=ce.size
   have gk:AG w fe:=ce.below dp (fun c hc=>A8 hwB (cd.low c (dq c hc))) dp.size
   have gl:=be.chg ce fun hm=>zH<|cd.low _ (dq _ hm)
   refine Ac 1 Z<|Ab _ [0,0] Z<|AN ((k+1:Nat):Int) Z Z (Be oM sD) Aa<|Ac 1 Z ?_
   exact⟨(k+1,fz),_,rfl,zR,⟨gk,gl,oM,oM,oM,Iq,Is,It⟩,zD⟩
  refine Al false Z Z (A6 dh) Aa<|Ac 1 Z<|Ai Z<|A2<|Ab _ [0,0,3,4,0] Z<|Ad 2 Z (BI (u:=bh) (B:=f0.heap.size) Bs BH B9 Z Z (NS f0.heap.size f0.heap.size _<|⟨(C3 ad.isSl).1,(C3 ad.isSl).2⟩) (A7 _) Aa fun jy jz ax jo gm=>?_)
  have ik:=ax.size
  have dr:=a8.trans ax
  have bf:=a2.ext ax
  have ar:=ad.ext (o1) ax
  have cf:=a1.ext ax
  refine E2 (v:=vo) (a:=jy) (u:=bh) BH B9 Z Z Z cf oM gm (RN.of_fr1 ar fun b hb=>zH<|hFl b (by simpa using hb)) sD Ir Aa ?_
  rintro k0 ff G95 cg ds ⟨jp,kd,jq⟩
  have il:jz.heap.size≤ff.heap.size:=cg.size
  have gn:AG w ff:=cg.below dr (fun c hc=>A8 hwB (cf.low c (ds c hc))) dr.size
  have go:=bf.chg cg fun hm=>zH<|cf.low _ (ds _ hm)
  refine Ac 1 Z<|Ab _ [0,0] Z<|AN ((k+1:Nat):Int) Z Z (Be oM sD) Aa<|Ac 1 Z ?_
  exact⟨(k+1,k0),_,rfl,zR,⟨gn,go,oM,oM,oM,Iq,Is,It⟩,zD⟩
 exact AE false Z Z (A6 ck) Aa<|Aj<|A0<|Ai Z<|A4<|Av<|Av<|Aq<|aH [0,0,0] Z<|Ac 3 Z<|A1<|Af [6,7] Z (.tuple #[vo,zI ((0:Nat):Int)]) Z ⟨_,_,rfl,dw,.inl ⟨rfl,(by have h9:=hzk;rwa [show k=T.code.length from by omega]at h9)⟩,(fun _=>⟨(by have h9:=av.done (fun b hb=>absurd hb z2);rwa [za oM]at h9),av.cap⟩)⟩
end
end Go.Proofs.YtbajepcpgncekaaGreat
