/- Vn, Vo, Wa, Ym, Yn, FwZ, Gb: texts of this claim, joined; what the claim does not come to is left out. -/
import Derived.Test.YtnokbaiemimhjaaGreatQE5
import Derived.Test.YtnokbaiemimhjaaGreatProg
import Derived.Deep.Strs
set_option linter.unusedVariables false
set_option linter.unusedSimpArgs false
namespace Go.Proofs.YtnokbaiemimhjaaGreat
open Go Go.RowKit
section
set_option maxHeartbeats 4000000
set_option maxRecDepth 100000
attribute [local irreducible] LW
theorem XJ (F d:Nat)(IH1:∀F',F'<F→∀d,SV F' d)(IH2:∀d',d'<d→SV F d'):SC F d:=by
 intro w S g pp dp n s0 c0 p ve ex vv env hS hgS a0 hp hn a1 a2 hex henv hqenv hvp hF hwf hse hdp hk
 exact Jm w S F g pp dp n s0 c0 p d ve ex vv env hS hgS a0 hp hn a1 a2 hex henv hqenv hvp hF hwf hse hdp hk IH1 IH2
theorem XK {p:Prop}(h:p:=by first|exact Yc hc00 hs1 oM oM ‹AT (go c0 (Eb _ _ (ex.kids.getD 0 _) _ _)) _ _ _› oM (by assumption)|exact Yd hc00 hs1 oM oM ‹AT (go c0 (Eb _ _ (ex.kids.getD 0 _) _ _)) _ _ _› oM (by assumption)):p:=h
theorem P8 {p:Prop}(h:p:=by have:=Fz (l:=ex.kids) (k:=0) oM;omega):p:=h
theorem Jn {p:Prop}(h:p:=by exact GC hwf oM oM):p:=h
theorem Ew {p:Prop}(h:p:=by simp[FL,FM]):p:=h
theorem Jo (w:World)(S:List Nat)(F:Nat)(g:Nat)(pp:Value)(dp n s0:Nat)(c0:Int)(p:List Fn)(dex:Nat)(ve:Value)(ex:Ex)(vv:Value)(env:List (List Int))(hS:∀b∈S,b<w.heap.size)(hgS:g∈S)(b0:BX w.heap g [pp,.int .i64 ((n:Nat):Int),.int .i64 ((s0:Nat):Int),.int .i64 c0])(hp:RN S (rP (N7 dp)) w.heap pp p)(hn:1≤n∧n≤13)(j2:s0≤3000)(j3:0≤c0∧c0≤9)(hex:RN S (rP (Iv dex)) w.heap ve ex)(henv:RN S (B3 (B3 rI)) w.heap vv env)(hqenv:CK vv)(hvp:Iz p)(hF:F≤p.length)(hwf:wf p ((F:Nat):Int) ex ((env.length:Nat):Int)=true)(hse:Bt n env)(hdp:env.length+ex.deep≤1000000)(IH1:∀F',F'<F→∀d,SV F' d)(IH2:∀d',d'<dex→SV F d') :
  Calls Tryz.prog 193 #[.pointer (some ⟨g,0,none⟩),ve,vv] w (fun e w'=>∃(v:Value) (x:List Int) (s1:Nat) (c1:Int),e=.returned v∧AE [g] w w'∧BX w'.heap g [pp,.int .i64 ((n:Nat):Int),.int .i64 ((s1:Nat):Int),.int .i64 c1]∧RN S (B3 rI) w'.heap v x∧Bs n x∧s1≤3000∧(0≤c1∧c1≤9)∧AT (go c0 (Eb n (H1 p n F) ex env s0)) x s1 c1):=by
 refine At [.pointer (some ⟨g,0,none⟩),ve,vv] 186 Tryz.func193 Z Z sM ?_
 have bk:AE [g] w w:=AE.refl [g] w
 have hl_vv:=henv.lenL
 unfold maxLen at hl_vv
 have hgl:=b0.lt
 have hdk:=EG ex
 refine A0 (Ad _ [0] Z (Ae 1 Z (A0 (A0 (Ad _ [0,0,0,2,0] Z (Af 1 Z (Bw Z Ac (Ao (p:=(.pointer (some ⟨g,0,none⟩))) (b:=g) (o:=0) 3 FJ Z Z Ac (Ak (p:=(Ay (.pointer (some ⟨g,0,none⟩)) 3)) (.inr Z) (.int .i64 c0) AH Z (b0.ldp (i:=3) sM) Ac ?_)))))))))
 by_cases e8:c0≠((0:Nat):Int)
 ·refine AZ true Z Z (A7 e8) Ac (Ah (Ai Z (A0 (Ad _ [0,0,0,0,2,4,0] Z (Af 2 Z (Bw Z Ac (Ao (p:=(.pointer (some ⟨g,0,none⟩))) (b:=g) (o:=0) 3 FJ Z Z Ac (Ak (p:=(Ay (.pointer (some ⟨g,0,none⟩)) 3)) (.inr Z) (.int .i64 c0) AH Z (b0.ldp (i:=3) sM) Ac (B1 221 [] [] [(.pointer (some ⟨g,0,none⟩)),(.int .i64 c0)] Z Z SH Ac (Db _ S g pp dp (n) (s0) (c0) (p) (c0) (fun b hb=>(by have:=hS b hb;omega:b<w.heap.size)) hgS b0 (hp.chg (Be (B4 dp)) (bk.sub (Bg hgS))) oM oM oM oM oM) ?_)))))))))
  rintro e2 w2 ⟨v2,x2,s2,c2,rfl,e9,i9,ia,d1,ib,ic,bl⟩
  refine⟨_,rfl,?_⟩
  have id:=e9.size
  have ie:AE [g] w w2:=bk.trans e9
  have ig:=d1.1
  have hfs:=bl.1
  have hff:=bl.2
  exact Ae 1 Z (A3 (Aq (Ag [6] Z v2 Z ⟨v2,x2,s2,c2,rfl,ie,i9,ia,(by assumption),oM,oM,(by rw[hff,if_neg oM];exact UR oM)⟩)))
 ·refine AZ false Z Z (A8 e8) Ac (Ah (Aj Z (A4 (A0 (A0 (Ad _ [0,0,0,2,0] Z (Af 1 Z (Bw Z Ac (Ao (p:=(.pointer (some ⟨g,0,none⟩))) (b:=g) (o:=0) 2 LC Z Z Ac (Ak (p:=(Ay (.pointer (some ⟨g,0,none⟩)) 2)) (.inr Z) (.int .i64 ((s0:Nat):Int)) AH Z (b0.ldp (i:=2) sM) Ac ?_))))))))))
  by_cases ea:((s0:Nat):Int)=((3000:Nat):Int)
  ·refine AA true Z Z (A7 ea) Ac (Ah (Ai Z (A0 (Ad _ [0,4,0] Z (Af 1 Z (B1 221 [] [] [(.pointer (some ⟨g,0,none⟩)),(.int .i64 ((7:Nat):Int))] Z Z SH Ac (Db _ S g pp dp (n) (s0) (c0) (p) (((7:Nat):Int)) (fun b hb=>(by have:=hS b hb;omega:b<w.heap.size)) hgS b0 (hp.chg (Be (B4 dp)) (bk.sub (Bg hgS))) oM oM oM oM oM) ?_))))))
   rintro e7 w7 ⟨v7,x7,s7,c7,rfl,eb,ih,ii,d2,ij,ik,bm⟩
   refine⟨_,rfl,?_⟩
   have il:=eb.size
   have im:AE [g] w w7:=bk.trans eb
   have io:=d2.1
   have hfs:=bm.1
   have hff:=bm.2
   exact Ae 1 Z (A3 (Aq (Ag [6] Z v7 Z ⟨v7,x7,s7,c7,rfl,im,ih,ii,(by assumption),oM,oM,(by rw[hff,if_pos oM];exact QF oM oM)⟩)))
  ·refine AA false Z Z (A8 ea) Ac (Ah (Aj Z (A4 (A0 (Ad _ [0,0,0,2,0,0,0,4] Z (Af 1 Z (Bw Z Ac (Ao (p:=(.pointer (some ⟨g,0,none⟩))) (b:=g) (o:=0) 2 LC Z Z Ac (Ak (p:=(Ay (.pointer (some ⟨g,0,none⟩)) 2)) (.inr Z) (.int .i64 ((s0:Nat):Int)) AH Z (b0.ldp (i:=2) sM) Ac (AI ((s0+1:Nat):Int) Z Z (B8 oM oM) Ac (Bw Z Ac (Ao (p:=(.pointer (some ⟨g,0,none⟩))) (b:=g) (o:=0) 2 LC Z Z Ac (Co (k:=2) (w:=w) ID Z Z ⟨rfl,rfl⟩ b0 sM Ac fun w11 bn ip a7=>?_)))))))))))))
   replace a7:BX w11.heap g [pp,(.int .i64 ((n:Nat):Int)),(.int .i64 ((s0+1:Nat):Int)),(.int .i64 c0)]:=a7
   have a0:AE [g] w w11:=bk.trans bn
   have ec:=bn.size
   refine Ah (A0 (A0 (Ad _ [0,0,0,2] Z ?_)))
   have hc00:c0=0:=by omega
   have hs1:s0+1≤3000:=by omega
   refine Af 1 Z (AU (hex.isPtr) Z Ac ?_)
   obtain⟨cs12,d3,a2⟩:=RN.at (AC _) hex
   obtain⟨dd12,a1,iq,rfl,a3⟩:=RX.of d3
   have bo:=a3.rn.lenle
   unfold maxLen at bo
   refine AM (p:=ve) 0 C5 Z (a2 _ (a0.sub (Bg hgS))) Ac (Ak (p:=(Ay ve 0)) (.inr Z) (.int .i64 ex.kind) AH Z ((a2 _ (a0.sub (Bg hgS))).ld (i:=0) Ew) Ac (Ah (A5 (A0 (Ad _ [0,0] Z ?_)))))
   by_cases bp:ex.kind=((1:Nat):Int)
   ·refine AA true Z Z (A7 bp) Ac (Ae 1 Z (Ai Z (A0 (AY _ [0,0,0,1,0,0,0,1,3,0] mixed (by kernel_rfl) ?_))))
    have hwk:=UM hwf oM
    refine Af 1 Z (AU (hex.isPtr) Z Ac (AM (p:=ve) 1 BT Z (a2 _ (a0.drew.sub (Bg hgS))) Ac (Ak (p:=(Ay ve 1)) (.inl Z) (.int .i64 ex.num) AH Z ((a2 _ (a0.drew.sub (Bg hgS))).ld (i:=1) Ew) Ac (Af 1 Z (Bw Z Ac (Ao (p:=(.pointer (some ⟨g,0,none⟩))) (b:=g) (o:=0) 1 OT Z Z Ac (Ak (p:=(Ay (.pointer (some ⟨g,0,none⟩)) 1)) (.inl Z) (.int .i64 ((n:Nat):Int)) YX Z (a7.ldp (i:=1) sM) Ac ?_)))))))
    refine Ap 122 [] [] [(.int .i64 ex.num),(.int .i64 ((n:Nat):Int))] Z Z Qb Ac (Dd _ _ (n) a3.rng.num sD oM) ?_
    rintro e14 w14 ⟨b1,rfl,ae,aa⟩
    refine⟨_,rfl,ae,?_⟩
    replace ae:=ae.of_drew
    have ed:=ae.size
    have d4:AE [g] w w14:=a0.ext ae
    have an:=a7.ext ae
    replace aa:=aa.low (B':=w11.heap.size) (A9 _)
    exact Ae 1 Z (A3 (AL (Aq (Ag [6] Z b1 Z ⟨b1,cst n ex.num,s0+1,c0,rfl,d4,an,(RN.of_fr1 aa (fun b hb=>by have:=hS b hb;omega)),(by exact DE (C3.2 oM)),oM,oM,(by exact Ya hc00 hs1 oM)⟩))))
   ·refine AA false Z Z (A8 bp) Ac (Ae 1 Z (Aj Z (A0 (Ad _ [0,0] Z ?_))))
    by_cases bq:ex.kind=((2:Nat):Int)
    ·refine AA true Z Z (A7 bq) Ac (Ae 1 Z (Ai Z (A0 (Ad _ [0,0,0,0,2,0,2,0] Z ?_))))
     have hwk:=UN hwf oM
     refine Af 2 Z (AU (hex.isPtr) Z Ac (AM (p:=ve) 1 BT Z (a2 _ (a0.sub (Bg hgS))) Ac (Ak (p:=(Ay ve 1)) (.inr Z) (.int .i64 ex.num) AH Z ((a2 _ (a0.sub (Bg hgS))).ld (i:=1) Ew) Ac (Au (v:=vv) ((ex.num).toNat) Bi AX Z Z henv.slL oM sD Ac ?_))))
     obtain⟨ba,d5,br⟩:=RN.getL (w:=w) g1 [] (k:=(ex.num).toNat) henv sD
     have bs:=br.lenL
     unfold maxLen at bs
     exact Ak (p:=Aw vv ((ex.num).toNat) 1) (.inr Z) ba B6 Z (d5 _ (a0.sub (Bg hgS))) Ac (Ae 1 Z (A3 (AL (Aq (Ag [6] Z ba Z ⟨ba,env.getD ((ex.num).toNat) [],s0+1,c0,rfl,a0,a7,(br.chg g1 (a0.sub (Bg hgS))),(by exact hse _ oM),oM,oM,(by exact Yb hc00 hs1 oM)⟩)))))
    ·refine AA false Z Z (A8 bq) Ac (Ae 1 Z (Aj Z (A0 (Ad _ [0,0] Z ?_))))
     by_cases bt:ex.kind=((7:Nat):Int)
     ·refine AA true Z Z (A7 bt) Ac (Ae 1 Z (Ai Z (A0 (Ad _ [0,0,0,0,2,0,0,4,3,0] Z ?_))))
      have hwk:=UP hwf oM
      refine Af 2 Z (AU (hex.isPtr) Z Ac (AM (p:=ve) 4 Bo Z (a2 _ (a0.sub (Bg hgS))) Ac (Ak (p:=(Ay ve 4)) (.inr Z) a1 Bp Z ((a2 _ (a0.sub (Bg hgS))).ld (i:=4) Ew) Ac (Au (v:=a1) 0 DK BB Z Z a3.rn.isSl Z sD Ac (Af 1 Z ?_)))))
      refine B1 193 [] [] [(.pointer (some ⟨g,0,none⟩)),(Aw a1 0 5),vv] Z Z I2 Ac (IH2 dd12 oM _ S g pp dp (n) (s0+1) (c0) (p) (Aw a1 0 5) (ex.kids.getD 0 Ex.zero) vv (env) (fun b hb=>(by have:=hS b hb;omega:b<w11.heap.size)) hgS a7 (hp.chg (Be (B4 dp)) (a0.sub (Bg hgS))) oM oM oM (RN.ptr (AC dd12) (by decide) Ex.zero (a3.rn.chg (Am (AC dd12)) (a0.sub (Bg hgS))) sD) (henv.chg g2 (a0.sub (Bg hgS))) hqenv (by exact hvp) oM Jn (by exact hse) P8) ?_
      rintro e18 w18 ⟨v18,x18,s18,c18,rfl,bu,d6,bv,bw,ee,ef,eg⟩
      refine⟨_,rfl,?_⟩
      have eh:=bu.size
      have d7:AE [g] w w18:=a0.trans bu
      have ei:=bw.1
      refine Ap 176 [] [] [v18,(.int .i64 ((1000002:Nat):Int))] Z Z X6 Ac (Fw _ _ _ _ (bv).rd oM oM) ?_
      rintro e23 w23 ⟨b2,rfl,aj,bb⟩
      refine⟨_,rfl,aj,?_⟩
      have ej:=aj.size
      have d8:AE [g] w w23:=d7.ext aj
      have ao:=d6.ext aj
      have ir:=bv.ext g1 aj
      exact Ae 1 Z (A3 (AL (Aq (Ag [6] Z b2 Z ⟨b2,scl x18 ((1000002:Nat):Int),s18,c18,rfl,d8,ao,(RN.of_fr1 bb (fun b hb=>by have:=hS b hb;omega)),(by rw[Rj];exact PK (by assumption)),oM,oM,(by exact Hs hc00 hs1 oM (dG oM ‹AT (go c0 (Eb _ _ (ex.kids.getD 0 _) _ _)) _ _ _›) (fun h0=>by rw[h0,Rj];exact cR oM) (fun _=>rfl))⟩))))
     ·refine AA false Z Z (A8 bt) Ac (Ae 1 Z (Aj Z (A0 (Ad _ [0,0] Z ?_))))
      by_cases bx:ex.kind=((8:Nat):Int)
      ·refine AA true Z Z (A7 bx) Ac (Ae 1 Z (Ai Z (A0 (A0 (Ad _ [0,0,0,0,2,0,0,4,0,2,0] Z ?_)))))
       have hwk:=Zk hwf oM
       refine Af 2 Z (AU (hex.isPtr) Z Ac (AM (p:=ve) 4 Bo Z (a2 _ (a0.sub (Bg hgS))) Ac (Ak (p:=(Ay ve 4)) (.inr Z) a1 Bp Z ((a2 _ (a0.sub (Bg hgS))).ld (i:=4) Ew) Ac (Au (v:=a1) 0 DK BB Z Z a3.rn.isSl Z sD Ac (Af 1 Z ?_)))))
       refine B1 193 [] [] [(.pointer (some ⟨g,0,none⟩)),(Aw a1 0 5),vv] Z Z I2 Ac (IH2 dd12 oM _ S g pp dp (n) (s0+1) (c0) (p) (Aw a1 0 5) (ex.kids.getD 0 Ex.zero) vv (env) (fun b hb=>(by have:=hS b hb;omega:b<w11.heap.size)) hgS a7 (hp.chg (Be (B4 dp)) (a0.sub (Bg hgS))) oM oM oM (RN.ptr (AC dd12) (by decide) Ex.zero (a3.rn.chg (Am (AC dd12)) (a0.sub (Bg hgS))) sD) (henv.chg g2 (a0.sub (Bg hgS))) hqenv (by exact hvp) oM Jn (by exact hse) P8) ?_
       rintro e26 w26 ⟨v26,x26,s26,c26,rfl,bz,c3,ap,c4,ek,el,en⟩
       refine⟨_,rfl,?_⟩
       have eo:=bz.size
       have a5:AE [g] w w26:=a0.trans bz
       have ep:=c4.1
       refine Au (v:=v26) 0 Bh BA Z Z ap.slL Z sD Ac ?_
       have d9:=RN.getI (w:=w26) (k:=0) ap sD
       refine Ak (p:=Aw v26 0 1) (.inr Z) (.int .i64 (x26.getD 0 0)) AH Z (d9.1 _ (AE.refl _ _)) Ac ?_
       by_cases c5:x26.getD 0 0=((0:Nat):Int)
       ·refine AA true Z Z (A7 c5) Ac (Ah (Ai Z (A0 (Ad _ [0,0,0,0,2,0,0,4,0] Z (Af 2 Z (AU (hex.isPtr) Z Ac (AM (p:=ve) 4 Bo Z (a2 _ (a5.sub (Bg hgS))) Ac (Ak (p:=(Ay ve 4)) (.inr Z) a1 Bp Z ((a2 _ (a5.sub (Bg hgS))).ld (i:=4) Ew) Ac (Au (v:=a1) 1 DK BB Z Z a3.rn.isSl Z sD Ac ?_)))))))))
        refine Af 1 Z ?_
        refine B1 193 [] [] [(.pointer (some ⟨g,0,none⟩)),(Aw a1 1 5),vv] Z Z I2 Ac (IH2 dd12 oM _ S g pp dp (n) (s26) (c26) (p) (Aw a1 1 5) (ex.kids.getD 1 Ex.zero) vv (env) (fun b hb=>(by have:=hS b hb;omega:b<w26.heap.size)) hgS c3 (hp.chg (Be (B4 dp)) (a5.sub (Bg hgS))) oM oM oM (RN.ptr (AC dd12) (by decide) Ex.zero (a3.rn.chg (Am (AC dd12)) (a5.sub (Bg hgS))) sD) (henv.chg g2 (a5.sub (Bg hgS))) hqenv (by exact hvp) oM Jn (by exact hse) (by have:=Fz (l:=ex.kids) (k:=1) oM;omega)) ?_
        rintro e33 w33 ⟨v33,x33,s33,c33,rfl,bc,da,db,c6,eq,er,es⟩
        refine⟨_,rfl,?_⟩
        have et:=bc.size
        have dc:AE [g] w w33:=a5.trans bc
        have is:=ap.run g1 hgS bc
        have eu:=c6.1
        exact Ae 1 Z (A3 (Aq (AL (Aq (Ag [6] Z v33 Z ⟨v33,x33,s33,c33,rfl,dc,da,db,(by assumption),oM,oM,XK⟩)))))
       ·refine AA false Z Z (A8 c5) Ac (Ah (Aj Z (A4 (A0 (Ad _ [0,0,0,0,2,0,0,4,0] Z (Af 2 Z (AU (hex.isPtr) Z Ac (AM (p:=ve) 4 Bo Z (a2 _ (a5.sub (Bg hgS))) Ac (Ak (p:=(Ay ve 4)) (.inr Z) a1 Bp Z ((a2 _ (a5.sub (Bg hgS))).ld (i:=4) Ew) Ac ?_)))))))))
        refine Au (v:=a1) 2 DK BB Z Z a3.rn.isSl Z sD Ac (Af 1 Z ?_)
        refine B1 193 [] [] [(.pointer (some ⟨g,0,none⟩)),(Aw a1 2 5),vv] Z Z I2 Ac (IH2 dd12 oM _ S g pp dp (n) (s26) (c26) (p) (Aw a1 2 5) (ex.kids.getD 2 Ex.zero) vv (env) (fun b hb=>(by have:=hS b hb;omega:b<w26.heap.size)) hgS c3 (hp.chg (Be (B4 dp)) (a5.sub (Bg hgS))) oM oM oM (RN.ptr (AC dd12) (by decide) Ex.zero (a3.rn.chg (Am (AC dd12)) (a5.sub (Bg hgS))) sD) (henv.chg g2 (a5.sub (Bg hgS))) hqenv (by exact hvp) oM Jn (by exact hse) (by have:=Fz (l:=ex.kids) (k:=2) oM;omega)) ?_
        rintro e39 w39 ⟨v39,x39,s39,c39,rfl,bd,dd,de,c8,ev,ew,ey⟩
        refine⟨_,rfl,?_⟩
        have ez:=bd.size
        have df:AE [g] w w39:=a5.trans bd
        have it:=ap.run g1 hgS bd
        have g0:=c8.1
        exact Ae 1 Z (A3 (AL (Aq (Ag [6] Z v39 Z ⟨v39,x39,s39,c39,rfl,df,dd,de,(by assumption),oM,oM,XK⟩))))
      ·refine AA false Z Z (A8 bx) Ac (Ae 1 Z (Aj Z (A0 (Ad _ [0,0] Z ?_))))
       by_cases c9:ex.kind=((9:Nat):Int)
       ·refine AA true Z Z (A7 c9) Ac (Ae 1 Z (Ai Z (A0 (Ad _ [0,0,0,0,2,0,0,4,0] Z ?_))))
        have hwk:=UO hwf oM
        refine Af 2 Z (AU (hex.isPtr) Z Ac (AM (p:=ve) 4 Bo Z (a2 _ (a0.sub (Bg hgS))) Ac (Ak (p:=(Ay ve 4)) (.inr Z) a1 Bp Z ((a2 _ (a0.sub (Bg hgS))).ld (i:=4) Ew) Ac (Au (v:=a1) 0 DK BB Z Z a3.rn.isSl Z sD Ac (Af 1 Z ?_)))))
        refine B1 193 [] [] [(.pointer (some ⟨g,0,none⟩)),(Aw a1 0 5),vv] Z Z I2 Ac (IH2 dd12 oM _ S g pp dp (n) (s0+1) (c0) (p) (Aw a1 0 5) (ex.kids.getD 0 Ex.zero) vv (env) (fun b hb=>(by have:=hS b hb;omega:b<w11.heap.size)) hgS a7 (hp.chg (Be (B4 dp)) (a0.sub (Bg hgS))) oM oM oM (RN.ptr (AC dd12) (by decide) Ex.zero (a3.rn.chg (Am (AC dd12)) (a0.sub (Bg hgS))) sD) (henv.chg g2 (a0.sub (Bg hgS))) hqenv (by exact hvp) oM Jn (by exact hse) P8) ?_
        rintro e46 w46 ⟨v46,x46,s46,c46,rfl,ca,dg,cb,cc,g3,g4,g5⟩
        refine⟨_,rfl,?_⟩
        have g6:=ca.size
        have aq:AE [g] w w46:=a0.trans ca
        have g7:=cc.1
        refine Ae 1 Z (A0 (AY _ [0,0,0,0,1,0,0,0,3,4,0] mixed (by kernel_rfl) (Af 2 Z (AU (hex.isPtr) Z Ac (AM (p:=ve) 4 Bo Z (a2 _ (aq.drew.sub (Bg hgS))) Ac (Ak (p:=(Ay ve 4)) (.inl Z) a1 Bp Z ((a2 _ (aq.drew.sub (Bg hgS))).ld (i:=4) Ew) Ac (Au (v:=a1) 1 DK BB Z Z a3.rn.isSl Z sD Ac (Af 2 Z ?_))))))))
        refine Ap 222 [] [] [vv,v46] Z Z iC Ac (Nv _ S vv (env) v46 (x46) (fun b hb=>(by have:=hS b hb;omega:b<w46.heap.size)) (henv.chg g2 (aq.drew.sub (Bg hgS))) hqenv cb oM) ?_
        rintro e51 w51 ⟨v51,rfl,ab,cd,ce⟩
        refine⟨_,rfl,ab,?_⟩
        replace ab:=ab.of_drew
        have g8:=ab.size
        have be:AE [g] w w51:=aq.ext ab
        have ar:=dg.ext ab
        have dh:=cb.ext g1 ab
        refine B1 193 [] [] [(.pointer (some ⟨g,0,none⟩)),(Aw a1 1 5),v51] Z Z I2 Ac (IH2 dd12 oM _ S g pp dp (n) (s46) (c46) (p) (Aw a1 1 5) (ex.kids.getD 1 Ex.zero) v51 (env++[x46]) (fun b hb=>(by have:=hS b hb;omega:b<w51.heap.size)) hgS ar (hp.chg (Be (B4 dp)) (be.sub (Bg hgS))) oM oM oM (RN.ptr (AC dd12) (by decide) Ex.zero (a3.rn.chg (Am (AC dd12)) (be.sub (Bg hgS))) sD) cd ce (by exact hvp) oM (by have h9:=M5 hwf oM oM;rw[List.length_append,List.length_singleton];exact h9) (by exact hse.snoc (by assumption)) (by have:=Fz (l:=ex.kids) (k:=1) oM;rw[List.length_append,List.length_singleton];omega)) ?_
        rintro e53 w53 ⟨v53,x53,s53,c53,rfl,au,di,dj,cf,g9,ga,gb⟩
        refine⟨_,rfl,?_⟩
        have gc:=au.size
        have dk:AE [g] w w53:=be.trans au
        have iu:=dh.run g1 hgS au
        have iv:=cd.run g2 hgS au
        have gd:=cf.1
        exact Ae 1 Z (A3 (AL (Aq (Ag [6] Z v53 Z ⟨v53,x53,s53,c53,rfl,dk,di,dj,(by assumption),oM,oM,(by exact Ye hc00 hs1 oM oM ‹AT (go c0 (Eb _ _ (ex.kids.getD 0 _) _ _)) _ _ _› (by assumption))⟩))))
       ·refine AA false Z Z (A8 c9) Ac (Ae 1 Z (Aj Z (A0 (A0 (Ad _ [0,0] Z ?_)))))
        by_cases cg:ex.kind=((10:Nat):Int)
        ·refine AA true Z Z (A7 cg) Ac (Ae 1 Z (Ai Z (A4 (Ai Z (A0 (Ad _ [0,0,0,4,0] Z (Af 3 Z (B1 223 [] [] [(.pointer (some ⟨g,0,none⟩)),ve,vv] Z Z aN Ac (XJ F dex IH1 IH2 _ S g pp dp (n) (s0+1) (c0) (p) ve (ex) vv (env) (fun b hb=>(by have:=hS b hb;omega:b<w11.heap.size)) hgS a7 (hp.chg (Be (B4 dp)) (a0.sub (Bg hgS))) oM oM oM (hex.chg (Be (AC dex)) (a0.sub (Bg hgS))) (henv.chg g2 (a0.sub (Bg hgS))) hqenv (by exact hvp) oM (by exact hwf) (by exact hse) oM oM) ?_))))))))
         rintro e61 w61 ⟨v61,x61,s61,c61,rfl,ch,dl,dm,ci,ge,gf,gg⟩
         refine⟨_,rfl,?_⟩
         have gh:=ch.size
         have dn:AE [g] w w61:=a0.trans ch
         have gi:=ci.1
         exact Ae 1 Z (A3 (AL (Aq (Ag [6] Z v61 Z ⟨v61,x61,s61,c61,rfl,dn,dl,dm,(by assumption),oM,oM,(by exact NU hc00 hs1 oM (by assumption))⟩))))
        ·refine AA false Z Z (A8 cg) Ac (Ae 1 Z (Aj Z (Ad _ [0,0] Z ?_)))
         by_cases cj:ex.kind=((11:Nat):Int)
         ·refine AA true Z Z (A7 cj) Ac (Ae 1 Z (Ai Z (A0 (Ad _ [0,0,0,4,0] Z (Af 3 Z (B1 223 [] [] [(.pointer (some ⟨g,0,none⟩)),ve,vv] Z Z aN Ac (XJ F dex IH1 IH2 _ S g pp dp (n) (s0+1) (c0) (p) ve (ex) vv (env) (fun b hb=>(by have:=hS b hb;omega:b<w11.heap.size)) hgS a7 (hp.chg (Be (B4 dp)) (a0.sub (Bg hgS))) oM oM oM (hex.chg (Be (AC dex)) (a0.sub (Bg hgS))) (henv.chg g2 (a0.sub (Bg hgS))) hqenv (by exact hvp) oM (by exact hwf) (by exact hse) oM oM) ?_))))))
          rintro e67 w67 ⟨v67,x67,s67,c67,rfl,ck,dq,dr,cl,gj,gk,gl⟩
          refine⟨_,rfl,?_⟩
          have gm:=ck.size
          have ds:AE [g] w w67:=a0.trans ck
          have gn:=cl.1
          exact Ae 1 Z (A3 (AL (Aq (Ag [6] Z v67 Z ⟨v67,x67,s67,c67,rfl,ds,dq,dr,(by assumption),oM,oM,(by exact NU hc00 hs1 oM (by assumption))⟩))))
         ·refine AA false Z Z (A8 cj) Ac (Ae 1 Z (Aj Z (A4 (A0 (Ad _ [0,0,0,0,2,0,0,4,0] Z ?_)))))
          have hkk:ex.kind=3∨ex.kind=4∨ex.kind=5∨ex.kind=6:=cJ hwf oM
          have j4:ex.kids.length=2:=UQ hwf hkk
          have j5:=Fz (l:=ex.kids) (k:=0) oM
          have j6:=Fz (l:=ex.kids) (k:=1) oM
          refine Af 2 Z (AU (hex.isPtr) Z Ac (AM (p:=ve) 4 Bo Z (a2 _ (a0.sub (Bg hgS))) Ac (Ak (p:=(Ay ve 4)) (.inr Z) a1 Bp Z ((a2 _ (a0.sub (Bg hgS))).ld (i:=4) Ew) Ac (Au (v:=a1) 0 DK BB Z Z a3.rn.isSl Z sD Ac (Af 1 Z ?_)))))
          refine B1 193 [] [] [(.pointer (some ⟨g,0,none⟩)),(Aw a1 0 5),vv] Z Z I2 Ac (IH2 dd12 oM _ S g pp dp (n) (s0+1) (c0) (p) (Aw a1 0 5) (ex.kids.getD 0 Ex.zero) vv (env) (fun b hb=>(by have:=hS b hb;omega:b<w11.heap.size)) hgS a7 (hp.chg (Be (B4 dp)) (a0.sub (Bg hgS))) oM oM oM (RN.ptr (AC dd12) (by decide) Ex.zero (a3.rn.chg (Am (AC dd12)) (a0.sub (Bg hgS))) sD) (henv.chg g2 (a0.sub (Bg hgS))) hqenv (by exact hvp) oM Jn (by exact hse) P8) ?_
          rintro e72 w72 ⟨v72,x72,s72,c72,rfl,cm,dt,du,b3,gp,gq,cn⟩
          refine⟨_,rfl,?_⟩
          have gr:=cm.size
          have af:AE [g] w w72:=a0.trans cm
          have gs:=b3.1
          have hra:=cn
          have co:=b3
          refine Ae 1 Z (A0 (Ad _ [0,0,0,0,2,0,0,4,0] Z (Af 2 Z (AU (hex.isPtr) Z Ac (AM (p:=ve) 4 Bo Z (a2 _ (af.sub (Bg hgS))) Ac (Ak (p:=(Ay ve 4)) (.inr Z) a1 Bp Z ((a2 _ (af.sub (Bg hgS))).ld (i:=4) Ew) Ac (Au (v:=a1) 1 DK BB Z Z a3.rn.isSl Z sD Ac (Af 1 Z ?_))))))))
          refine B1 193 [] [] [(.pointer (some ⟨g,0,none⟩)),(Aw a1 1 5),vv] Z Z I2 Ac (IH2 dd12 oM _ S g pp dp (n) (s72) (c72) (p) (Aw a1 1 5) (ex.kids.getD 1 Ex.zero) vv (env) (fun b hb=>(by have:=hS b hb;omega:b<w72.heap.size)) hgS dt (hp.chg (Be (B4 dp)) (af.sub (Bg hgS))) oM oM oM (RN.ptr (AC dd12) (by decide) Ex.zero (a3.rn.chg (Am (AC dd12)) (af.sub (Bg hgS))) sD) (henv.chg g2 (af.sub (Bg hgS))) hqenv (by exact hvp) oM Jn (by exact hse) (by have:=Fz (l:=ex.kids) (k:=1) oM;omega)) ?_
          rintro e77 w77 ⟨v77,x77,s77,c77,rfl,bf,ac,a6,b4,gt,gu,cp⟩
          refine⟨_,rfl,?_⟩
          have gv:=bf.size
          have a4:AE [g] w w77:=af.trans bf
          have a8:=du.run g1 hgS bf
          have cq:=b4.1
          have hrb:=cp
          have j7:=b4
          have hlb:=cq
          have hzz:x77.getD 0 0=0∨¬x77.getD 0 0=0:=Decidable.em _
          refine Ae 1 Z (A0 (A5 (A0 (Ad _ [0,0,0,2,0,0] Z (Af 1 Z (AU (hex.isPtr) Z Ac (AM (p:=ve) 0 C5 Z (a2 _ (a4.sub (Bg hgS))) Ac (Ak (p:=(Ay ve 0)) (.inr Z) (.int .i64 ex.kind) AH Z ((a2 _ (a4.sub (Bg hgS))).ld (i:=0) Ew) Ac ?_))))))))
          by_cases cr:ex.kind=((3:Nat):Int)
          ·refine AA true Z Z (A7 cr) Ac (Ae 1 Z (Ai Z (A0 (Ad _ [0,0,3,0] Z (Af 2 Z (Ap 224 [] [] [v72,v77] Z Z aO Ac (IV _ _ _ _ _ (a8).rd (a6).rd oM oM) ?_))))))
           rintro e84 w84 ⟨b5,rfl,ag,bg⟩
           refine⟨_,rfl,ag,?_⟩
           have gw:=ag.size
           have dv:AE [g] w w84:=a4.ext ag
           have av:=ac.ext ag
           have iw:=a8.ext g1 ag
           have ix:=a6.ext g1 ag
           exact Ae 1 Z (A3 (AL (Aq (Ag [6] Z b5 Z ⟨b5,DU x72 x77,s77,c77,rfl,dv,av,(RN.of_fr1 bg (fun b hb=>by have:=hS b hb;omega)),(by exact H3 co),oM,oM,(by exact Hs hc00 hs1 oM (Kz oM hra hrb) (fun h0=>by rw[h0];exact cM oM) (fun _=>rfl))⟩))))
          ·refine AA false Z Z (A8 cr) Ac (Ae 1 Z (Aj Z (A0 (Ad _ [0,0,0,2,0,0] Z (Af 1 Z (AU (hex.isPtr) Z Ac (AM (p:=ve) 0 C5 Z (a2 _ (a4.sub (Bg hgS))) Ac (Ak (p:=(Ay ve 0)) (.inr Z) (.int .i64 ex.kind) AH Z ((a2 _ (a4.sub (Bg hgS))).ld (i:=0) Ew) Ac ?_))))))))
           by_cases cs:ex.kind=((4:Nat):Int)
           ·refine AA true Z Z (A7 cs) Ac (Ae 1 Z (Ai Z (A0 (Ad _ [0,0,3,0] Z (Af 2 Z (Ap 225 [] [] [v72,v77] Z Z iD Ac (Ns _ _ _ _ _ (a8).rd (a6).rd oM oM oM) ?_))))))
            rintro e88 w88 ⟨b6,rfl,ah,bh⟩
            refine⟨_,rfl,ah,?_⟩
            have gx:=ah.size
            have dw:AE [g] w w88:=a4.ext ah
            have aw:=ac.ext ah
            have iy:=a8.ext g1 ah
            have iz:=a6.ext g1 ah
            exact Ae 1 Z (A3 (AL (Aq (Ag [6] Z b6 Z ⟨b6,Dg x72 x77,s77,c77,rfl,dw,aw,(RN.of_fr1 bh (fun b hb=>by have:=hS b hb;omega)),(by exact JO co),oM,oM,(by exact Hs hc00 hs1 oM (Kz oM hra hrb) (fun h0=>by rw[h0];exact cO oM) (fun _=>rfl))⟩))))
           ·refine AA false Z Z (A8 cs) Ac (Ae 1 Z (Aj Z (A0 (Ad _ [0,0,0,2,0,0] Z (Af 1 Z (AU (hex.isPtr) Z Ac (AM (p:=ve) 0 C5 Z (a2 _ (a4.sub (Bg hgS))) Ac (Ak (p:=(Ay ve 0)) (.inr Z) (.int .i64 ex.kind) AH Z ((a2 _ (a4.sub (Bg hgS))).ld (i:=0) Ew) Ac ?_))))))))
            by_cases ct:ex.kind=((5:Nat):Int)
            ·refine AA true Z Z (A7 ct) Ac (Ae 1 Z (Ai Z (A0 (Ad _ [0,0,3,0] Z (Af 2 Z (Ap 226 [] [] [v72,v77] Z Z iE Ac (Nt _ _ _ _ _ (a8).rd (a6).rd oM oM) ?_))))))
             rintro e92 w92 ⟨b7,rfl,ai,bi⟩
             refine⟨_,rfl,ai,?_⟩
             have gy:=ai.size
             have dx:AE [g] w w92:=a4.ext ai
             have ax:=ac.ext ai
             have j0:=a8.ext g1 ai
             have j1:=a6.ext g1 ai
             exact Ae 1 Z (A3 (AL (Aq (Ag [6] Z b7 Z ⟨b7,C7 x72 x77,s77,c77,rfl,dx,ax,(RN.of_fr1 bi (fun b hb=>by have:=hS b hb;omega)),(by exact HX co),oM,oM,(by exact Hs hc00 hs1 oM (Kz oM hra hrb) (fun h0=>by rw[h0];exact cQ oM) (fun _=>rfl))⟩))))
            ·refine AA false Z Z (A8 ct) Ac (Ae 1 Z (Aj Z (A0 (Ad _ [0,0,0,2,0,0,0,0,2,0,0,0] Z (Af 1 Z (Bw Z Ac (Ao (p:=(.pointer (some ⟨g,0,none⟩))) (b:=g) (o:=0) 3 FJ Z Z Ac (Ak (p:=(Ay (.pointer (some ⟨g,0,none⟩)) 3)) (.inr Z) (.int .i64 c77) AH Z (ac.ldp (i:=3) sM) Ac ?_))))))))
             by_cases cu:c77≠((0:Nat):Int)
             ·refine AZ true Z Z (A7 cu) Ac (Ae 7 Z (Ai Z (A0 (Ad _ [0,4,0] Z (Af 1 Z (B1 221 [] [] [(.pointer (some ⟨g,0,none⟩)),(.int .i64 ((6:Nat):Int))] Z Z SH Ac (Db _ S g pp dp (n) (s77) (c77) (p) (((6:Nat):Int)) (fun b hb=>(by have:=hS b hb;omega:b<w77.heap.size)) hgS ac (hp.chg (Be (B4 dp)) (a4.sub (Bg hgS))) oM oM oM oM oM) ?_))))))
              rintro e96 w96 ⟨v96,x96,s96,c96,rfl,ay,dy,dz,cv,gz,i0,b8⟩
              refine⟨_,rfl,?_⟩
              have i1:=ay.size
              have e0:AE [g] w w96:=a4.trans ay
              have i2:=a8.run g1 hgS ay
              have i3:=a6.run g1 hgS ay
              have i4:=cv.1
              have hfs:=b8.1
              have hff:=b8.2
              exact Ae 1 Z (A3 (AL (Aq (Ag [6] Z v96 Z ⟨v96,x96,s96,c96,rfl,e0,dy,dz,(by assumption),oM,oM,(by rw[hfs];exact Hs hc00 hs1 oM (Kz oM hra hrb) (fun h0=>absurd h0 oM) (fun h0=>by rw[hff,if_neg h0]))⟩))))
             ·refine AZ false Z Z (A8 cu) Ac (Af 2 Z (Au (v:=v77) 0 Bh BA Z Z a6.slL Z (by rw[hlb];omega) (Al (e:=175) Z Z Z) ?_))
              have cw:=RN.getI (w:=w77) (k:=0) a6 (by rw[hlb];omega)
              refine Ak (p:=Aw v77 0 1) (.inr Z) (.int .i64 (x77.getD 0 0)) AH Z (cw.1 _ (AE.refl _ _)) (Al (e:=175) Z Z Z) ?_
              by_cases b9:x77.getD 0 0=((0:Nat):Int)
              ·refine AA true Z Z (A7 b9) (Al (e:=175) Z Z Z) (Ae 2 Z (Ai Z (A0 (Ad _ [0,4,0] Z (Af 1 Z (B1 221 [] [] [(.pointer (some ⟨g,0,none⟩)),(.int .i64 ((6:Nat):Int))] Z Z SH Ac (Db _ S g pp dp (n) (s77) (c77) (p) (((6:Nat):Int)) (fun b hb=>(by have:=hS b hb;omega:b<w77.heap.size)) hgS ac (hp.chg (Be (B4 dp)) (a4.sub (Bg hgS))) oM oM oM oM oM) ?_))))))
               rintro e105 w105 ⟨v105,x105,s105,c105,rfl,ad,cx,cy,bj,e1,e3,ak⟩
               refine⟨_,rfl,?_⟩
               have e4:=ad.size
               have cz:AE [g] w w105:=a4.trans ad
               have i5:=a8.run g1 hgS ad
               have i6:=a6.run g1 hgS ad
               have e5:=bj.1
               have hfs:=ak.1
               have hff:=ak.2
               exact Ae 1 Z (A3 (AL (Aq (Ag [6] Z v105 Z ⟨v105,x105,s105,c105,rfl,cz,cx,cy,(by assumption),oM,oM,(by rw[hfs];exact Hs hc00 hs1 oM (Kz oM hra hrb) (fun h0=>by rw[hff,if_pos h0];exact Yf (xs:=[_,_]) oM (hzz.resolve_right oM)) (fun h0=>by rw[hff,if_neg h0]))⟩))))
              ·refine AA false Z Z (A8 b9) (Al (e:=175) Z Z Z) (Ae 2 Z (Aj Z (A4 (A0 (Ad _ [0,0,3,0] Z (Af 2 Z (Ap 227 [] [] [v72,v77] Z Z iF Ac (Nu _ _ _ _ _ (a8).rd (a6).rd oM oM oM (by exact co.2)) ?_)))))))
               rintro e112 w112 ⟨al,rfl,a9,az⟩
               refine⟨_,rfl,a9,?_⟩
               have e6:=a9.size
               have d0:AE [g] w w112:=a4.ext a9
               have am:=ac.ext a9
               have i7:=a8.ext g1 a9
               have i8:=a6.ext g1 a9
               exact Ae 1 Z (A3 (Ag [6] Z al Z ⟨al,BR x72 x77,s77,c77,rfl,d0,am,(RN.of_fr1 az (fun b hb=>by have:=hS b hb;omega)),(by exact H4 co),oM,oM,(by exact Hs hc00 hs1 oM (Kz oM hra hrb) (fun h0=>by rw[h0];exact cT (xs:=[_,_]) oM (hzz.resolve_left oM)) (fun _=>rfl))⟩))
end
section
set_option maxHeartbeats 4000000
set_option maxRecDepth 100000
attribute [local irreducible] LW
theorem Zc:∀F d,SV F d:=by
  intro F
  induction F using Nat.strongRecOn with
  |_ F ihF =>
    intro d
    induction d using Nat.strongRecOn with
    |_ d ihd =>
      intro w S g pp dp n s0 c0 p ve ex vv env hS hgS hB0 hp hn hs0 hc0 hex henv hqenv hvp hF hwf hse hdp
      exact Jo w S F g pp dp n s0 c0 p d ve ex vv env hS hgS hB0 hp hn hs0 hc0 hex henv hqenv hvp hF hwf hse hdp ihF ihd
theorem XL (F:Nat):SO F:=XH F fun d=>Zc F d
theorem Ie (w:World)(dp:Nat)(vp:Value)(p:List Fn)(f:Int)(va:Value)(a:List (List Int))(n:Nat)(hp:RN [] (rP (N7 dp)) w.heap vp p)(_hf:BC f)(ha:RN [] (B3 (B3 rI)) w.heap va a)(hqa:CK va)(hvp:Iz p)(hf:0≤f∧f<((p.length:Nat):Int))(hl:((a.length:Nat):Int)=(p.getD f.toNat Fn.zero).params)(hse:Bt n a)(hn:1≤n∧n≤13) :
  Calls Tryz.prog 110 #[vp,.int .i64 f,va,.int .i64 ((n:Nat):Int)] w (fun e w'=>∃v0:Value,e=.returned (.tuple #[v0,.int .i64 (HF p n f.toNat a)])∧Az w w'∧Fr (AS (AS rI 2) 27) w.heap.size w'.heap.size w'.heap v0 (Dr p n f.toNat a)∧Zn p n f.toNat a):=by
 refine At [vp,.int .i64 f,va,.int .i64 ((n:Nat):Int)] 53 Tryz.func110 Z Z sM ?_
 have bi:Az w w:=Az.refl w
 have hl_va:=ha.lenL
 unfold maxLen at hl_va
 refine A0 (Ad _ [0,0] Z (Ae 2 Z (A0 (Ad _ [0,0,0,3,0] Z (Af 2 Z ?_)))))
 have aw:∀(vp:Value) (a8:∃b o,vp=.pointer (some ⟨b,o,none⟩)) (wq:World),(Instr.build 157 #[(0,vp),(1,(.int .i64 ((n:Nat):Int)))]).run Tryz.prog wq=.ok (.agg #[vp,(.int .i64 ((n:Nat):Int)),(.int .i64 0),(.int .i64 0)]) wq:=by intro vp a8 wq;obtain⟨b0,o0,rfl⟩:=a8;kernel_rfl
 refine ER (ps:=#[(0,vp),(1,(.int .i64 ((n:Nat):Int)))]) (.agg #[vp,(.int .i64 ((n:Nat):Int)),(.int .i64 0),(.int .i64 0)]) (by simp only[List.map_toArray,List.map_cons,List.map_nil];rfl) (fun wq=>aw vp hp.isPtr wq) Ac (Bx (cs:=#[vp,(.int .i64 ((n:Nat):Int)),(.int .i64 0),(.int .i64 0)]) Z Ac fun w2 ax bt ay=>?_)
 have az:=ax.size
 have a9:=bi.trans ax
 replace ay:BX w2.heap w.heap.size [vp,(.int .i64 ((n:Nat):Int)),(.int .i64 0),(.int .i64 0)]:=ay
 refine Ae 1 Z (A0 (Ad _ [0,0,0,0,2,0,0,0,4,0] Z ?_))
 have hpr:=hvp.par f.toNat oM
 have hou:=hvp.outs f.toNat oM
 have hle:a.length=a.length:=rfl
 refine Af 2 Z (AU (hp.isPtr) Z Ac ?_)
 obtain⟨cs3,bu,bj⟩:=RN.at (B4 _) hp
 obtain⟨av,rfl,b1⟩:=RPr.of bu
 have af:=b1.lenle
 unfold maxLen at af
 refine AM (p:=vp) 0 BM Z (bj _ (AE.of_ext [] a9)) Ac (Ak (p:=(Ay vp 0)) (.inr Z) av Cs Z ((bj _ (AE.of_ext [] a9)).ld (i:=0) (by simp[FL,FM])) Ac (Af 1 Z (Au (v:=av) ((f).toNat) Gm CA Z Z b1.isSl oM sD Ac (Af 1 Z ?_))))
 refine B1 145 [] [] [(.pointer (some ⟨w.heap.size,0,none⟩)),(Aw av ((f).toNat) 3),va] Z Z X3 Ac (XL f.toNat _ [w.heap.size] w.heap.size vp dp (n) (0) (0) (p) dp (Aw av ((f).toNat) 3) (p.getD ((f).toNat) Fn.zero) va (a) (fun b hb=>(by have:=Ab hb;omega:b<w2.heap.size)) (List.mem_singleton.2 Z) ay ((hp.add (F:=[w.heap.size]) (Be (B4 dp)) (fun b hb=>by have:=Ab hb;omega)).ext (Be (B4 dp)) a9) oM oM oM (RN.ptr (AB dp) (by decide) Fn.zero ((b1.add (F:=[w.heap.size]) (Am (AB dp)) (fun b hb=>by have:=Ab hb;omega)).ext (Am (AB dp)) a9) sD) ((ha.add (F:=[w.heap.size]) g2 (fun b hb=>by have:=Ab hb;omega)).ext g2 a9) hqa (by exact hvp) oM (by intro k9 b2;have h9:=hvp.wf f.toNat oM k9 b2;rw[hle];rw[hl];exact h9) (by exact hse) (by intro k9 b2;have:=hvp.deep f.toNat oM k9 b2;omega) oM) ?_
 rintro e4 w4 ⟨v4,x4,s4,c4,rfl,b3,bk,bv,aa,b4,b5,b6⟩
 refine⟨_,rfl,?_⟩
 have bw:=b3.size
 have ag:Az w w4:=b3.below a9 (fun b hb=>by have:b=w.heap.size:=(by simpa using hb);omega) a9.size
 have ah:=aa.2.1
 have ai:=aa.2.2
 have bx:=aa.1
 have aj:=bv.rt g2
 have hRL:=b6
 have hCB:=b5
 have hEP:=Zn.mk' hRL hCB b4 ah ai
 have hXS:=ai
 have hXL:=ah
 refine Ae 1 Z (A0 (A0 (Ad _ [0,0,0,2,0] Z (Af 1 Z (Bw Z Ac (Ao (p:=(.pointer (some ⟨w.heap.size,0,none⟩))) (b:=w.heap.size) (o:=0) 3 FJ Z Z Ac (Ak (p:=(Ay (.pointer (some ⟨w.heap.size,0,none⟩)) 3)) (.inr Z) (.int .i64 c4) AH Z (bk.ldp (i:=3) sM) Ac ?_)))))))
 by_cases bl:c4≠((0:Nat):Int)
 ·refine AZ true Z Z (A7 bl) Ac (Ah (Ai Z (A0 (AY _ [3,0,0,0,1,0,0] mixed (by kernel_rfl) (BI (AS rI 2) o1 Bi AX Ac fun v9 w9 ak c8 bz=>?_)))))
  replace ak:=ak.of_drew
  have c0:=ak.size
  have c1:=ag.trans ak
  have c2:=aj.ext g2 ak
  exact Af 1 Z (Bw Z Ac (Ao (p:=(.pointer (some ⟨w.heap.size,0,none⟩))) (b:=w.heap.size) (o:=0) 3 FJ Z Z Ac (Ak (p:=(Ay (.pointer (some ⟨w.heap.size,0,none⟩)) 3)) (.inl Z) (.int .i64 c4) AH Z (bk.ldp (i:=3) sM) Ac (Ae 2 Z (A3 (Aq (Ag [8,9] Z (.tuple #[v9,(.int .i64 c4)]) Z ⟨v9,(by rw[HY (Kt hRL oM)] <;> rfl),c1,(by rw[UT (Kt hRL oM)];exact(bz.up o2).low ag.size),hEP⟩)))))))
 ·refine AZ false Z Z (A8 bl) Ac (Ah (Aj Z (A4 (A0 (Ad _ [3,0] Z (BI (AS rI 2) o1 Bi AX Ac fun v11 w11 a6 b7 al=>?_))))))
  have am:=a6.size
  have an:=ag.trans a6
  have c3:=aj.ext g2 a6
  refine Ae 1 Z (A0 (A0 (Ad _ [0] Z (Ae 1 Z (A5 ?_)))))
  refine AN (S:=Nat×Value) (fun⟨k,vo⟩=>([(12,vo),(13,(.int .i64 ((k:Nat):Int))),(11,v4)])) (fun⟨k,vo⟩ W=>Az w W∧Fr (AS (AS rI 2) 27) w4.heap.size W.heap.size W.heap vo ((x4).take k)∧k≤(x4).length∧RT w4.heap.size (B3 (B3 rI)) W.heap v4 x4∧w4.heap.size≤W.heap.size∧w4.heap.size≤w4.heap.size∧w4.heap.size≤W.heap.size) (fun⟨k,vo⟩=>(x4).length-k) (0,v11) ⟨rfl,rfl,rfl,trivial⟩ ⟨an,al.up o2,sD,(by assumption),oM,oM,oM⟩ ?_
  clear bi bt ax az a9 af b3 al b7 a6 am an
  rintro⟨k,vo⟩ ρ16 w16 ⟨ab,a4,b8,a0,bm,bn,bo⟩
  have bp:w.heap.size≤w16.heap.size:=ab.size
  refine A0 (A0 (Ad _ [0,0,0,0] Z (Af 2 Z (AJ (v:=v4) Bi Z a0.slL Ac ?_))))
  by_cases ao:((k:Nat):Int)<((x4.length:Nat):Int)
  ·refine Ax true Z Z (A7 ao) Ac (Ah (Ai Z (A4 (A0 (A5 (Ad _ [0,0,0,0,2,3,3,4,0] Z ?_))))))
   have hkx:=hXS k oM
   have hkl:=hkx.1
   refine Af 3 Z (Au (v:=v4) k Bi AX Z Z a0.slL Z sD Ac ?_)
   obtain⟨ap,b9,ac⟩:=RT.getL g1 [] (k:=k) a0 sD
   have aq:=ac.lenL
   unfold maxLen at aq
   refine Ak (p:=Aw v4 k 1) (.inr Z) ap B6 Z b9 Ac (Ap 165 [] [] [ap] Z Z X4 Ac (GG _ _ _ ac.rd oM) ?_)
   rintro e20 w20 ⟨ar,rfl,a1,ad⟩
   refine⟨_,rfl,a1,?_⟩
   have bq:=a1.size
   have ba:=ab.trans a1
   have a2:=a4.ext (o2) a1
   have bb:=a0.ext g2 a1
   have bc:=ac.ext g1 a1
   refine Bq (u:=ar) (B:=w16.heap.size) o1 Bi AX Z Z ad (by first|exact A9 _|omega) Ac fun v23 w23 a5 c5 bd=>?_
   have br:=a5.size
   have au:=ba.trans a5
   have a3:=a2.ext (o2) a5
   have be:=bb.ext g2 a5
   have bf:=bc.ext g1 a5
   refine Ej o1 (v:=vo) (a:=v23) Bi AX Z Z Z a3 oM bd oM oM sD (by unfold maxLen;first|omega|assumption|(simp;done)|(simp;omega)) Ac fun v26 w26 F26 a7 ae bg=>?_
   have bh:Az w w26:=a7.below au (fun c hc=>Aa ag.size (ae c hc).1) au.size
   have bs:=a7.size
   have c6:=be.chg g2 a7 (fun c hc=>by have:=ae c hc;omega)
   have c7:=bf.chg g1 a7 (fun c hc=>by have:=ae c hc;omega)
   refine Ae 1 Z (Ad _ [0,0,0] Z (Af 1 Z (AI ((k+1:Nat):Int) Z Z (B8 oM sD) Ac (Ae 1 Z ?_))))
   exact⟨((k+1),v26),_,rfl,⟨rfl,rfl,rfl,trivial⟩,⟨bh,(by rw[Cr [] oM];exact bg.up o2),sD,(by assumption),oM,oM,oM⟩,by first|omega|(dsimp only;omega)⟩
  ·exact Ax false Z Z (A8 ao) Ac (Ah (Aj Z (A6 (As (As (An (A0 (Ad _ [0,0,0] Z (Ae 3 Z (A3 (Ag [8,9] Z (.tuple #[vo,(.int .i64 ((0:Nat):Int))]) Z ⟨vo,(by rw[NN (NM hRL oM)] <;> rfl),ab,(by have h:=(a4.up o2).low ag.size;rw[M7 (NM hRL oM)];rwa [List.take_of_length_le oM]at h),hEP⟩)))))))))))
theorem bC {p:Prop}(h:p:=by unfold maxLen;first|omega|assumption|(simp only[List.length_nil,List.length_cons,List.length_append,List.length_set,List.length_replicate];omega)|(simp[List.length_nil,List.length_cons,List.length_append,List.length_set,List.length_replicate];done)|(simp[List.length_nil,List.length_cons,List.length_append,List.length_set,List.length_replicate];omega)):p:=h
theorem MY (w:World)(dp:Nat)(vp:Value)(p:List Fn)(f:Int)(va:Value)(a:List Int)(hp:RN [] (rP (N7 dp)) w.heap vp p)(_hf:BC f)(ha:Rd (B3 rI) w.heap va a)(hvp:Iz p)(hf:0≤f∧f<((p.length:Nat):Int))(hl:((a.length:Nat):Int)=(p.getD f.toNat Fn.zero).params)(hna:B7 a=true) :
  Calls Tryz.prog 68 #[vp,.int .i64 f,va] w (fun e w'=>∃v0:Value,e=.returned (.tuple #[v0,.int .i64 ((US p 1 f.toNat (Cq a):Nat):Int),.int .i64 (FG p f.toNat a)])∧Az w w'∧Fr (AS rI 2) w.heap.size w'.heap.size w'.heap v0 (FA p f.toNat a)∧fm p f.toNat a∧US p 1 f.toNat (Cq a)≤3000):=by
 refine At [vp,.int .i64 f,va] 73 Tryz.func68 Z Z sM ?_
 have cb:Az w w:=Az.refl w
 have hl_va:=ha.lenle
 have hpr:=hvp.par f.toNat oM
 have hou:=hvp.outs f.toNat oM
 refine A0 (Ad _ [0,0,0] Z (Ae 3 Z (A0 (Ad _ [0,0,3,0] Z (Af 1 Z ?_)))))
 have bm:∀(vp:Value) (ap:∃b o,vp=.pointer (some ⟨b,o,none⟩)) (wq:World),(Instr.build 157 #[(0,vp),(1,(.int .i64 ((1:Nat):Int)))]).run Tryz.prog wq=.ok (.agg #[vp,(.int .i64 ((1:Nat):Int)),(.int .i64 0),(.int .i64 0)]) wq:=by intro vp ap wq;obtain⟨b0,o0,rfl⟩:=ap;kernel_rfl
 refine ER (ps:=#[(0,vp),(1,(.int .i64 ((1:Nat):Int)))]) (.agg #[vp,(.int .i64 ((1:Nat):Int)),(.int .i64 0),(.int .i64 0)]) (by simp only[List.map_toArray,List.map_cons,List.map_nil];rfl) (fun wq=>bm vp hp.isPtr wq) Ac (Bx (cs:=#[vp,(.int .i64 ((1:Nat):Int)),(.int .i64 0),(.int .i64 0)]) Z Ac fun w2 bn ct bo=>?_)
 have bp:=bn.size
 have bq:=cb.trans bn
 replace bo:BX w2.heap w.heap.size [vp,(.int .i64 ((1:Nat):Int)),(.int .i64 0),(.int .i64 0)]:=bo
 refine Ae 1 Z (A0 (Ad _ [3,0] Z (BI (AS rI 2) o1 Bi AX Ac fun v3 w3 bj cu cc=>?_)))
 have br:=bj.size
 have cd:=bq.trans bj
 have b3:=bo.ext bj
 refine Ae 1 Z (A0 (A0 (Ad _ [0] Z (Ae 1 Z (A5 ?_)))))
 refine AN (S:=Nat×Value) (fun⟨k,vo⟩=>([(10,vo),(11,(.int .i64 ((k:Nat):Int))),(0,vp),(1,(.int .i64 f)),(2,va),(9,(.pointer (some ⟨w.heap.size,0,none⟩)))])) (fun⟨k,vo⟩ W=>Az w W∧Fr (AS (AS rI 2) 27) w2.heap.size W.heap.size W.heap vo ((a.take k).map (fun x=>[x]))∧BX W.heap w.heap.size [vp,(.int .i64 ((1:Nat):Int)),(.int .i64 0),(.int .i64 0)]∧k≤a.length∧w.heap.size<w2.heap.size∧w2.heap.size≤W.heap.size) (fun⟨k,vo⟩=>a.length-k) (0,v3) ⟨rfl,rfl,rfl,rfl,rfl,rfl,trivial⟩ ⟨cd,cc.up o2,b3,sD,oM,oM⟩ ?_
 clear cb ct bn cc cu bj br cd
 rintro⟨k,vo⟩ ρ5 w5 ⟨ag,a0,a2,ce,cv,cw⟩
 have bs:w.heap.size≤w5.heap.size:=ag.size
 have d9:=a2.lt
 refine A0 (A0 (Ad _ [0,0,0,0] Z (Af 2 Z (AJ (v:=va) Bh Z ha.isSl Ac ?_))))
 by_cases cf:((k:Nat):Int)<((a.length:Nat):Int)
 ·refine Ax true Z Z (A7 cf) Ac (Ah (Ai Z (A4 (A0 (A5 (Ad _ [0,0,0,0,2,3,3,4,0] Z (Af 3 Z (Au (v:=va) k Bh BA Z Z ha.isSl Z sD Ac ?_))))))))
  refine Ak (p:=Aw va k 1) (.inr Z) (.int .i64 (a.getD k 0)) AH Z (AP ag (ha.getI sD).1) Ac ?_
  refine Bq (u:=(.int .i64 (a.getD k 0))) (B:=w5.heap.size) AQ Bh BA Z Z (N6 w5.heap.size w5.heap.size _ _ (ha.getI sD).2) (A9 _) Ac fun v9 w9 bk da cx=>?_
  have cy:=bk.size
  have cz:=ag.trans bk
  have ah:=a0.ext (o2) bk
  have ai:=a2.ext bk
  refine Bq (u:=v9) (B:=w5.heap.size) o1 Bi AX Z Z cx (by first|exact A9 _|omega) Ac fun v10 w10 aj d0 bt=>?_
  have cg:=aj.size
  have b4:=cz.trans aj
  have aa:=ah.ext (o2) aj
  have ab:=ai.ext aj
  refine Ej o1 (v:=vo) (a:=v10) Bi AX Z Z Z aa oM bt oM oM sD bC Ac fun v11 w11 F11 aw b5 bu=>?_
  have bv:Az w w11:=aw.below b4 (fun c hc=>Aa bq.size (b5 c hc).1) b4.size
  have ch:=aw.size
  have bw:=ab.chg aw (fun hm=>by have:=b5 _ hm;omega)
  refine Ae 1 Z (Ad _ [0,0,0] Z (Af 1 Z (AI ((k+1:Nat):Int) Z Z (B8 oM sD) Ac (Ae 1 Z ?_))))
  exact⟨((k+1),v11),_,rfl,⟨rfl,rfl,rfl,rfl,rfl,rfl,trivial⟩,⟨bv,(by rw[Du 0 oM];exact bu.up o2),bw,sD,oM,oM⟩,by first|omega|(dsimp only;omega)⟩
 ·refine Ax false Z Z (A8 cf) Ac (Ah (Aj Z (A6 (As (As (An (A0 (Ad _ [0,0,0,0,2,0,0,0,4,0] Z ?_))))))))
  have henv:(a.take k).map (fun x=>[x])=Cq a:=by rw[List.take_of_length_le oM];rfl
  have hle:((a.take k).map (fun x=>[x])).length=a.length:=by rw[henv];unfold Cq;rw[List.length_map]
  refine Af 2 Z (AU (hp.isPtr) Z Ac ?_)
  obtain⟨cs13,bx,b6⟩:=RN.at (B4 _) hp
  obtain⟨ak,rfl,ax⟩:=RPr.of bx
  have aq:=ax.lenle
  unfold maxLen at aq
  refine AM (p:=vp) 0 BM Z (b6 _ (AE.of_ext [] ag)) Ac (Ak (p:=(Ay vp 0)) (.inr Z) ak Cs Z ((b6 _ (AE.of_ext [] ag)).ld (i:=0) (by simp[FL,FM])) Ac (Af 1 Z (Au (v:=ak) ((f).toNat) Gm CA Z Z ax.isSl oM sD Ac (Af 1 Z ?_))))
  refine B1 145 [] [] [(.pointer (some ⟨w.heap.size,0,none⟩)),(Aw ak ((f).toNat) 3),vo] Z Z X3 Ac (XL f.toNat _ [w.heap.size] w.heap.size vp dp (1) (0) (0) (p) dp (Aw ak ((f).toNat) 3) (p.getD ((f).toNat) Fn.zero) vo ((a.take k).map (fun x=>[x])) (fun b hb=>(by have:=Ab hb;omega:b<w5.heap.size)) (List.mem_singleton.2 Z) a2 ((hp.add (F:=[w.heap.size]) (Be (B4 dp)) (fun b hb=>by have:=Ab hb;omega)).ext (Be (B4 dp)) ag) oM oM oM (RN.ptr (AB dp) (by decide) Fn.zero ((ax.add (F:=[w.heap.size]) (Am (AB dp)) (fun b hb=>by have:=Ab hb;omega)).ext (Am (AB dp)) ag) sD) (RN.of_fr2 a0 (fun b hb=>by have:=Ab hb;omega)) a0.cap (by exact hvp) oM (by intro k9 bz;have h9:=hvp.wf f.toNat oM k9 bz;rw[hle];rw[hl];exact h9) (by rw[henv];exact DW hna) (by intro k9 bz;have:=hvp.deep f.toNat oM k9 bz;omega) oM) ?_
  rintro e14 w14 ⟨v14,x14,s14,c14,rfl,al,ay,c0,ac,b7,b8,b9⟩
  refine⟨_,rfl,?_⟩
  have ci:=al.size
  have ad:Az w w14:=al.below ag (fun b hb=>by have:b=w.heap.size:=(by simpa using hb);omega) ag.size
  have az:=a0.chg (o2) al (fun c hc=>by have:=Ab hc;omega)
  have ar:=ac.2.1
  have au:=ac.2.2
  have cj:=ac.1
  have av:=c0.rt g2
  have hRL:=b9
  rw[henv]at hRL
  have hCB:=b8
  have hEP:=Zn.mk' hRL hCB b7 ar au
  have hNP:=fm.mk' hEP
  have hST:=hEP.steps
  have hXS:=au
  have hXL:=ar
  refine Ae 1 Z (A0 (A0 (Ad _ [0,0,0,2,0] Z (Af 1 Z (Bw Z Ac (Ao (p:=(.pointer (some ⟨w.heap.size,0,none⟩))) (b:=w.heap.size) (o:=0) 3 FJ Z Z Ac (Ak (p:=(Ay (.pointer (some ⟨w.heap.size,0,none⟩)) 3)) (.inr Z) (.int .i64 c14) AH Z (ay.ldp (i:=3) sM) Ac ?_)))))))
  by_cases ba:c14≠((0:Nat):Int)
  ·refine AZ true Z Z (A7 ba) Ac (Ah (Ai Z (A0 (AY _ [3,0,0,0,1,0,0,0] mixed (by kernel_rfl) (BI (rI) AQ Bh BA Ac fun v20 w20 a4 d1 c1=>?_)))))
   replace a4:=a4.of_drew
   have ck:=a4.size
   have c2:=ad.trans a4
   have bl:=az.ext (o2) a4
   have d2:=av.ext g2 a4
   exact Af 1 Z (Bw Z Ac (Ao (p:=(.pointer (some ⟨w.heap.size,0,none⟩))) (b:=w.heap.size) (o:=0) 3 FJ Z Z Ac (Ak (p:=(Ay (.pointer (some ⟨w.heap.size,0,none⟩)) 3)) (.inl Z) (.int .i64 c14) AH Z (ay.ldp (i:=3) sM) Ac (Ae 3 Z (A3 (Aq (Ag [6,7,8] Z (.tuple #[v20,(.int .i64 ((0:Nat):Int)),(.int .i64 c14)]) Z ⟨v20,(by rw[Zm (Kt hRL oM),show FG p f.toNat a=_ from HY (Kt hRL oM)] <;> rfl),c2,(by rw[hNP.non (by rw[show FG p f.toNat a=_ from HY (Kt hRL oM)];omega)];exact(c1.up o1).low ad.size),hNP,hST⟩)))))))
  ·refine AZ false Z Z (A8 ba) Ac (Ah (Aj Z (A4 (A0 (Ad _ [3,0] Z (BI (rI) AQ Bh BA Ac fun v22 w22 a5 c3 bb=>?_))))))
   have bc:=a5.size
   have bd:=ad.trans a5
   have am:=az.ext (o2) a5
   have an:=ay.ext a5
   have d3:=av.ext g2 a5
   refine Ae 1 Z (A0 (A0 (Ad _ [0] Z (Ae 1 Z (A5 ?_)))))
   refine AN (S:=Nat×Value) (fun⟨k,vo⟩=>([(13,vo),(14,(.int .i64 ((k:Nat):Int))),(9,(.pointer (some ⟨w.heap.size,0,none⟩))),(12,v14)])) (fun⟨k,vo⟩ W=>Az w W∧Fr (AS rI 2) w14.heap.size W.heap.size W.heap vo (((x14).take k).map (fun s=>s.getD 0 0))∧BX W.heap w.heap.size [vp,(.int .i64 ((1:Nat):Int)),(.int .i64 ((s14:Nat):Int)),(.int .i64 c14)]∧k≤(x14).length∧RT w14.heap.size (B3 (B3 rI)) W.heap v14 x14∧w14.heap.size≤W.heap.size∧w.heap.size<w14.heap.size∧w14.heap.size≤w14.heap.size∧w14.heap.size≤W.heap.size) (fun⟨k,vo⟩=>(x14).length-k) (0,v22) ⟨rfl,rfl,rfl,rfl,trivial⟩ ⟨bd,bb.up o1,an,sD,(by assumption),oM,oM,oM,oM⟩ ?_
   clear bp bq a2 a0 ag bs aq al az bb c3 a5 bc bd am
   rintro⟨k,vo⟩ ρ28 w28 ⟨b1,ae,a1,c4,a3,cl,cm,cn,co⟩
   have cp:w.heap.size≤w28.heap.size:=b1.size
   have d4:=a1.lt
   refine A0 (A0 (Ad _ [0,0,0,0] Z (Af 2 Z (AJ (v:=v14) Bi Z a3.slL Ac ?_))))
   by_cases be:((k:Nat):Int)<((x14.length:Nat):Int)
   ·refine Ax true Z Z (A7 be) Ac (Ah (Ai Z (A4 (A0 (A5 (Ad _ [0,0,0,0,2,0,2,3,4,0] Z ?_))))))
    have hkx:=hXS k oM
    have hkl:=hkx.1
    refine Af 3 Z (Au (v:=v14) k Bi AX Z Z a3.slL Z sD Ac ?_)
    obtain⟨b2,c5,ao⟩:=RT.getL g1 [] (k:=k) a3 sD
    have bf:=ao.lenL
    unfold maxLen at bf
    refine Ak (p:=Aw v14 k 1) (.inr Z) b2 B6 Z c5 Ac (Au (v:=b2) 0 Bh BA Z Z ao.slL Z sD Ac ?_)
    have bg:=RT.getI (k:=0) ao sD
    refine Ak (p:=Aw b2 0 1) (.inr Z) (.int .i64 ((x14.getD k []).getD 0 0)) AH Z bg.1 Ac (Bq (u:=(.int .i64 ((x14.getD k []).getD 0 0))) (B:=w28.heap.size) AQ Bh BA Z Z (N6 w28.heap.size w28.heap.size _ _ bg.2) (A9 _) Ac fun v34 w34 a6 d5 bh=>?_)
    have cq:=a6.size
    have bi:=b1.trans a6
    have a7:=ae.ext (o1) a6
    have a8:=a1.ext a6
    have c6:=a3.ext g2 a6
    have c7:=ao.ext g1 a6
    refine GA (v:=vo) (a:=v34) Bh BA Z Z Z a7 oM bh.rd1 sD bC Ac fun v37 w37 F37 a9 af c8=>?_
    have c9:Az w w37:=a9.below bi (fun c hc=>Aa ad.size (af c hc).1) bi.size
    have cr:=a9.size
    have d6:=c6.chg g2 a9 (fun c hc=>by have:=af c hc;omega)
    have d7:=c7.chg g1 a9 (fun c hc=>by have:=af c hc;omega)
    have ca:=a8.chg a9 (fun hm=>by have:=af _ hm;omega)
    have d8:=bh.chg (o1) a9 (fun c hc=>by have:=af c hc;omega)
    refine Ae 1 Z (Ad _ [0,0,0] Z (Af 1 Z (AI ((k+1:Nat):Int) Z Z (B8 oM sD) Ac (Ae 1 Z ?_))))
    exact⟨((k+1),v37),_,rfl,⟨rfl,rfl,rfl,rfl,trivial⟩,⟨c9,(by rw[Du [] oM];exact c8.up o1),ca,sD,(by assumption),oM,oM,oM,oM⟩,by first|omega|(dsimp only;omega)⟩
   ·refine Ax false Z Z (A8 be) Ac (Ah (Aj Z (A6 (As (As (An (A0 (AY _ [0,0,0,0,1,0,0,0] mixed (by kernel_rfl) (Af 2 Z (Bw Z Ac (Ao (p:=(.pointer (some ⟨w.heap.size,0,none⟩))) (b:=w.heap.size) (o:=0) 2 LC Z Z Ac (Ak (p:=(Ay (.pointer (some ⟨w.heap.size,0,none⟩)) 2)) (.inl Z) (.int .i64 ((s14:Nat):Int)) AH Z (a1.ldp (i:=2) sM) Ac (Ae 3 Z (A3 ?_))))))))))))))
    exact Ag [6,7,8] Z (.tuple #[vo,(.int .i64 ((s14:Nat):Int)),(.int .i64 ((0:Nat):Int))]) Z ⟨vo,(by rw[Zl (NM hRL oM),show FG p f.toNat a=_ from NN (NM hRL oM)] <;> rfl),b1.drew,(by have h:=(ae.up o1).low ad.size;unfold FA;rw[M7 (NM hRL oM)];rwa [List.take_of_length_le oM]at h),hNP,hST⟩
end
section
set_option maxHeartbeats 4000000
set_option maxRecDepth 100000
attribute [local irreducible] LW
theorem Nw (w:World)(vy:Value)(y:List (List Int))(By Uy:Nat)(m:Nat)(hy:Fr (AS (AS rI 2) 27) By Uy w.heap vy y)(hUy:Uy≤w.heap.size)(_hm:m≤1000000000000)(hml:∀k,k<y.length→m≤(y.getD k []).length∧(y.getD k []).length≤1000000)(hyl:y.length≤1000000) :
  Calls Tryz.prog 123 #[vy,.int .i64 ((m:Nat):Int)] w (fun e w'=>∃v0:Value,e=.returned (v0)∧Az w w'∧Fr (AS (AS rI 2) 27) w.heap.size w'.heap.size w'.heap v0 (y.map (CB m))):=by
 refine At [vy,.int .i64 ((m:Nat):Int)] 25 Tryz.func123 Z Z sM ?_
 have aq:Az w w:=Az.refl w
 refine A0 (Ad _ [0] Z (Ae 1 Z (A0 (Ad _ [3,0] Z (BI (AS rI 2) o1 Bi AX Ac fun v1 w1 ab ay ar=>?_)))))
 have ad:=ab.size
 have au:=aq.trans ab
 have ae:=hy.ext (o2) ab
 refine Ae 1 Z (A0 (A0 (Ad _ [0] Z (Ae 1 Z (A5 ?_)))))
 refine AN (S:=Nat×Value) (fun⟨k,vo⟩=>([(5,vo),(6,(.int .i64 ((k:Nat):Int))),(0,vy),(1,(.int .i64 ((m:Nat):Int)))])) (fun⟨k,vo⟩ W=>Az w W∧Fr (AS (AS rI 2) 27) w.heap.size W.heap.size W.heap vo ((y.take k).map (CB m))∧Fr (AS (AS rI 2) 27) By Uy W.heap vy y∧k≤y.length) (fun⟨k,vo⟩=>y.length-k) (0,v1) ⟨rfl,rfl,rfl,rfl,trivial⟩ ⟨au,ar.up o2,ae,sD⟩ ?_
 clear aq ar ay ab ad au
 rintro⟨k,vo⟩ ρ2 w2 ⟨ac,a5,a0,av⟩
 have az:w.heap.size≤w2.heap.size:=ac.size
 refine A0 (A0 (Ad _ [0,0,0,0] Z (Af 2 Z (AJ (v:=vy) Bi Z a0.isSl Ac ?_))))
 by_cases aw:((k:Nat):Int)<((y.length:Nat):Int)
 ·refine Ax true Z Z (A7 aw) Ac (Ah (Ai Z (A4 (A0 (A5 (Ad _ [0,0,0,0,2,0,0,3,3,4,0] Z ?_))))))
  have hmk:=hml k oM
  refine Af 3 Z (Au (v:=vy) k Bi AX Z Z a0.isSl Z sD Ac ?_)
  obtain⟨af,ag,ah⟩:=a0.rd2.get (k:=k) [] sD
  have b0:=ah.lenle
  refine Ak (p:=Aw vy k 1) (.inr Z) af B6 Z ag Ac (Af 1 Z ?_)
  have ai:=Fr.rowCap o1 a0 sD ag
  have aj:=Rd.pref (k:=m) ah sD
  refine U2 (v:=af) (k:=m) Bh BA Z ah.isSl ai Z sD Ac (Ap 165 [] [] [(LO af m)] Z Z X4 Ac (GG _ _ _ aj (by rw[List.length_take];omega)) ?_)
  rintro e6 w6 ⟨ak,rfl,a7,a8⟩
  refine⟨_,rfl,a7,?_⟩
  have b1:=a7.size
  have b2:=ac.trans a7
  have a1:=a5.ext (o2) a7
  have a2:=a0.ext (o2) a7
  have al:=AP a7 ag
  refine Bq (u:=ak) (B:=w2.heap.size) o1 Bi AX Z Z a8 (by first|exact A9 _|omega) Ac fun v8 w8 a9 b6 b3=>?_
  have b4:=a9.size
  have am:=b2.trans a9
  have a3:=a1.ext (o2) a9
  have a4:=a2.ext (o2) a9
  have b5:=AP a9 al
  refine Ej o1 (v:=vo) (a:=v8) Bi AX Z Z Z a3 am.size b3 oM ac.size sD (by unfold maxLen;first|omega|assumption|(simp;done)|(simp;omega)) Ac fun v10 w10 F10 a6 aa an=>?_
  have ao:Az w w10:=a6.below am (fun c hc=>Aa (A9 _) (aa c hc).1) am.size
  have ax:w8.heap.size≤w10.heap.size:=a6.size
  have ap:=a4.chg (o2) a6 (fun c hc=>by have:=aa c hc;omega)
  refine Ae 1 Z (Ad _ [0,0,0] Z (Af 1 Z (AI ((k+1:Nat):Int) Z Z (B8 oM sD) Ac (Ae 1 Z ?_))))
  exact⟨((k+1),v10),_,rfl,⟨rfl,rfl,rfl,rfl,trivial⟩,⟨ao,(by rw[Du [] oM];exact an.up o2),ap,sD⟩,by first|omega|(dsimp only;omega)⟩
 ·exact Ax false Z Z (A8 aw) Ac (Ah (Aj Z (A6 (As (As (An (A0 (Ad _ [0,0] Z (Ae 2 Z (A3 (Ag [4] Z vo Z ⟨vo,rfl,ac,(by have h:=a5.up o2;rwa [List.take_of_length_le oM]at h)⟩)))))))))))
end
section
set_option maxHeartbeats 4000000
set_option maxRecDepth 100000
attribute [local irreducible] LW
theorem EP {p:Prop}(h:p:=by first|omega|assumption|(simp only[List.length_nil,List.length_cons,List.length_append,List.length_set,List.length_replicate,Ho];omega)|(simp[List.length_nil,List.length_cons,List.length_append,List.length_set,List.length_replicate,Ho];done)|(simp[List.length_nil,List.length_cons,List.length_append,List.length_set,List.length_replicate,Ho];omega)):p:=h
theorem MZ (w:World)(va:Value)(a:List Int)(vd:Value)(d:List Int)(o:Int)(ha:Rd (B3 rI) w.heap va a)(hd:Rd (B3 rI) w.heap vd d)(_ho:BC o)(ho:o=1)(hld:d.length=a.length)(hla:a.length≤1000000) :
  Calls Tryz.prog 215 #[va,vd,.int .i64 o] w (fun e w'=>∃v0:Value,e=.returned (v0)∧Az w w'∧Fr (AS (AS rI 2) 27) w.heap.size w'.heap.size w'.heap v0 (Gl a d 2)):=by
 refine At [va,vd,.int .i64 o] 37 Tryz.func215 Z Z sM ?_
 have ad:Az w w:=Az.refl w
 have hl_va:=ha.lenle
 have hl_vd:=hd.lenle
 refine A0 (Ad _ [0] Z (Ae 1 Z (A0 (Ad _ [3,0] Z (BI (AS rI 2) o1 Bi AX Ac fun v1 w1 a7 aj ae=>?_)))))
 have a8:=a7.size
 have hE1:=ad.trans a7
 refine Ae 1 Z (A0 (A0 (Ad _ [0] Z (Ae 1 Z (A5 ?_)))))
 refine AN (S:=Nat×Value) (fun⟨k,vo⟩=>([(7,vo),(8,(.int .i64 ((k:Nat):Int))),(0,va),(1,vd),(2,(.int .i64 o))])) (fun⟨k,vo⟩ W=>Az w W∧Fr (AS (AS rI 2) 27) w.heap.size W.heap.size W.heap vo ((Gl a d 2).take k)∧k≤a.length) (fun⟨k,vo⟩=>a.length-k) (0,v1) ⟨rfl,rfl,rfl,rfl,rfl,trivial⟩ ⟨hE1,ae.up o2,EP⟩ ?_
 clear ad ae aj a7 a8 hE1
 rintro⟨k,vo⟩ ρ2 w2 ⟨a4,a1,af⟩
 have ak:w.heap.size≤w2.heap.size:=a4.size
 refine A0 (A0 (Ad _ [0,0,0,0] Z (Af 2 Z (AJ (v:=va) Bh Z ha.isSl Ac ?_))))
 by_cases ag:((k:Nat):Int)<((a.length:Nat):Int)
 ·refine Ax true Z Z (A7 ag) Ac (Ah (Ai Z (A4 (A0 (A5 (A0 (Ad _ [0,0,0,2,0,0,3,0] Z (Af 2 Z (Au (v:=va) k Bh BA Z Z ha.isSl Z EP Ac ?_)))))))))
  refine Ak (p:=Aw va k 1) (.inr Z) (.int .i64 (a.getD k 0)) AH Z (AP a4 (ha.getI EP).1) Ac (Af 1 Z (AI ((o.toNat+1:Nat):Int) Z Z (by rw[FR oM oM];omega) Ac ?_))
  refine Ap 122 [] [] [(.int .i64 (a.getD k 0)),(.int .i64 ((o.toNat+1:Nat):Int))] Z Z Qb Ac (Dd _ _ (o.toNat+1) (ha.getI EP).2 EP oM) ?_
  rintro e4 w4 ⟨a3,rfl,a6,a2⟩
  refine⟨_,rfl,a6,?_⟩
  have al:=a6.size
  have a9:=a4.trans a6
  have a0:=a1.ext (o2) a6
  refine Ae 1 Z (A0 (A0 (Ad _ [0,0] Z (Af 1 Z ?_))))
  have am:((0:Nat):Int)<o:=oM
  refine C6 true Z Z (A7 am) Ac (Ah (Ai Z (Ad _ [0,0,0,0,2,0,4] Z (Af 3 Z (Au (v:=vd) k Bh BA Z Z hd.isSl Z EP Ac ?_)))))
  refine Ak (p:=Aw vd k 1) (.inr Z) (.int .i64 (d.getD k 0)) AH Z (AP a9 (hd.getI EP).1) Ac ?_
  refine Au (v:=a3) 1 Bh BA Z Z a2.isSl Z EP Ac ?_
  refine Fk (v:=a3) (w:=w4) ID Z Z (hd.getI EP).2 a2 EP Ac fun w6 F6 aa az ah an=>?_
  have ao:Az w w6:=aa.below a9 (fun c hc=>Aa a4.size (ah c hc).1) a9.size
  have ap:w4.heap.size≤w6.heap.size:=aa.size
  have aq:=a0.chg (o2) aa (fun c hc=>by have:=ah c hc;omega)
  refine Ah (Ad _ [0,0,3,4,0] Z (Af 2 Z (Bq (u:=a3) (B:=w2.heap.size) o1 Bi AX Z Z an (by first|exact A9 _|omega) Ac fun v8 w8 ab b0 ar=>?_)))
  have au:=ab.size
  have ac:=ao.trans ab
  have a5:=aq.ext (o2) ab
  refine Ej o1 (v:=vo) (a:=v8) Bi AX Z Z Z a5 ac.size ar oM a4.size EP (by unfold maxLen;first|omega|assumption|(simp[Ho];done)|(simp[Ho];omega)) Ac fun v9 w9 F9 ai av aw=>?_
  have ax:Az w w9:=ai.below ac (fun c hc=>Aa (A9 _) (av c hc).1) ac.size
  have ay:w8.heap.size≤w9.heap.size:=ai.size
  refine Ae 1 Z (Ad _ [0,0,0] Z (Af 1 Z (AI ((k+1:Nat):Int) Z Z (B8 oM EP) Ac (Ae 1 Z ?_))))
  exact⟨((k+1),v9),_,rfl,⟨rfl,rfl,rfl,rfl,rfl,trivial⟩,⟨ax,(by rw[Cr [] (by simp;omega),Mi oM];have h:=aw.up o2;rw[show o.toNat+1=2 from by omega]at h;exact h),EP⟩,by first|omega|(dsimp only;omega)⟩
 ·exact Ax false Z Z (A8 ag) Ac (Ah (Aj Z (A6 (As (As (An (A0 (Ad _ [0,0] Z (Ae 2 Z (A3 (Ag [6] Z vo Z ⟨vo,rfl,a4,(by have h:=a1.up o2;rwa [List.take_of_length_le (by simp;omega)]at h)⟩)))))))))))
theorem KQ (w:World)(dp:Nat)(vp:Value)(p:List Fn)(f:Int)(va:Value)(a:List Int)(vd:Value)(d:List Int)(o:Int)(hp:RN [] (rP (N7 dp)) w.heap vp p)(_hf:BC f)(ha:Rd (B3 rI) w.heap va a)(hd:Rd (B3 rI) w.heap vd d)(_ho:BC o)(hvp:Iz p)(hf:0≤f∧f<((p.length:Nat):Int))(hl:((a.length:Nat):Int)=(p.getD f.toNat Fn.zero).params)(ho:o=1)(hld:d.length=a.length)(hna:B7 a=true)(hnd:B7 d=true) :
  Calls Tryz.prog 171 #[vp,.int .i64 f,va,vd,.int .i64 o] w (fun e w'=>∃v0:Value,e=.returned (.tuple #[v0,.int .i64 (HF p (o.toNat+1) f.toNat (Gl a d 2))])∧Az w w'∧Fr (AS (AS rI 2) 27) w.heap.size w'.heap.size w'.heap v0 (Dr p (o.toNat+1) f.toNat (Gl a d 2))∧Zn p (o.toNat+1) f.toNat (Gl a d 2)):=by
 refine At [vp,.int .i64 f,va,vd,.int .i64 o] 23 Tryz.func171 Z Z sM ?_
 have a4:Az w w:=Az.refl w
 have hl_va:=ha.lenle
 have hl_vd:=hd.lenle
 have hpr:=hvp.par f.toNat oM
 refine A0 (Ad _ [0,0] Z (Ae 2 Z (A0 (Ad _ [0,0,0,0,0,3,0,0,3,0,0,0,0] Z (Af 5 Z (Ap 215 [] [] [va,vd,(.int .i64 o)] Z Z hZ Ac (MZ _ _ _ _ _ _ (ha.ext g1 a4) (hd.ext g1 a4) _ho (by exact ho) (by exact hld) oM) ?_))))))
 rintro e1 w1 ⟨a2,rfl,a5,a1⟩
 refine⟨_,rfl,a5,?_⟩
 have a8:=a5.size
 have hE1:=a4.trans a5
 refine Af 1 Z (AI ((o.toNat+1:Nat):Int) Z Z (by rw[FR oM oM];omega) Ac (Ap 110 [] [] [vp,(.int .i64 f),a2,(.int .i64 ((o.toNat+1:Nat):Int))] Z Z ZY Ac (Ie _ dp vp (p) _ a2 (Gl a d 2) (o.toNat+1) (hp.ext (Be (B4 dp)) hE1) _hf (RN.of_fr2 a1 (fun b hb=>by cases hb)) a1.cap (by exact hvp) oM (by rw[CP];exact hl) (by rw[show o.toNat+1=2 from by omega];exact Ht hna hnd) oM) ?_))
 rintro e2 w2 ⟨a0,rfl,a6,a3,a7⟩
 refine⟨_,rfl,a6,?_⟩
 have a9:=a6.size
 have aa:=hE1.trans a6
 exact B2 (vs:=[a0,(.int .i64 (HF p (o.toNat+1) f.toNat (Gl a d 2)))]) a0 Z Z Ac (B2 (vs:=[a0,(.int .i64 (HF p (o.toNat+1) f.toNat (Gl a d 2)))]) (.int .i64 (HF p (o.toNat+1) f.toNat (Gl a d 2))) Z Z Ac (Ae 2 Z (A3 (Ag [10,11] Z (.tuple #[a0,(.int .i64 (HF p (o.toNat+1) f.toNat (Gl a d 2)))]) Z ⟨a0,rfl,aa,(a3.up o2).low hE1.size,(by assumption)⟩))))
theorem XM {p:Prop}(h:p:=by first|(rw[if_neg oM];exact(hL10_0.up o2).low hE1.size)|(have h:=(hL10_0.up o2).low hE1.size;rw[if_pos oM];rw[show k=a.length from by omega,hNP.len oM]at h;exact h)):p:=h
theorem P9 {p:Prop}(h:p:=by first|(rw[hce];done)|(rw[← hce,show c=0 from by omega];rfl)):p:=h
theorem Jp (w:World)(dp:Nat)(vp:Value)(p:List Fn)(f:Int)(va:Value)(a:List Int)(hp:RN [] (rP (N7 dp)) w.heap vp p)(_hf:BC f)(ha:Rd (B3 rI) w.heap va a)(hvp:Iz p)(hf:0≤f∧f<((p.length:Nat):Int))(hl:((a.length:Nat):Int)=(p.getD f.toNat Fn.zero).params)(hna:B7 a=true) :
  Calls Tryz.prog 120 #[vp,.int .i64 f,va] w (fun e w'=>∃v0:Value,e=.returned (.tuple #[v0,.int .i64 (FG p f.toNat a)])∧Az w w'∧Fr (AS (AS rI 2) 27) w.heap.size w'.heap.size w'.heap v0 (if FG p f.toNat a=0 then Gi p f.toNat a (p.getD f.toNat Fn.zero).outs.length else [])∧(0≤FG p f.toNat a∧FG p f.toNat a≤9)):=by
 refine At [vp,.int .i64 f,va] 83 Tryz.func120 Z Z sM ?_
 have bn:Az w w:=Az.refl w
 have hl_va:=ha.lenle
 have hpr:=hvp.par f.toNat oM
 have hou:=hvp.outs f.toNat oM
 have bo:=fI hvp (f:=f.toNat) oM hna hl
 refine A0 (Ad _ [0,0] Z (Ae 2 Z (A0 (Ad _ [0,0,0,3,0,0,0,0,0,0,0] Z (Af 3 Z (Ap 68 [] [] [vp,(.int .i64 f),va] Z Z kT Ac (MY _ dp vp (p) _ _ _ (hp.ext (Be (B4 dp)) bn) _hf (ha.ext g1 bn) (by exact hvp) oM oM (by exact hna)) ?_))))))
 rintro e1 w1 ⟨a9,rfl,bp,ar,cb,cc⟩
 refine⟨_,rfl,bp,?_⟩
 have cw:=bp.size
 have hE1:=bn.trans bp
 refine Af 1 Z (B2 (vs:=[a9,(.int .i64 ((US p 1 f.toNat (Cq a):Nat):Int)),(.int .i64 (FG p f.toNat a))]) a9 Z Z Ac (B2 (vs:=[a9,(.int .i64 ((US p 1 f.toNat (Cq a):Nat):Int)),(.int .i64 (FG p f.toNat a))]) (.int .i64 ((US p 1 f.toNat (Cq a):Nat):Int)) Z Z Ac (B2 (vs:=[a9,(.int .i64 ((US p 1 f.toNat (Cq a):Nat):Int)),(.int .i64 (FG p f.toNat a))]) (.int .i64 (FG p f.toNat a)) Z Z Ac (Ae 3 Z (A0 (Ad _ [3,0] Z ?_))))))
 have hNP:=‹fm p f.toNat a›
 have hvl:(FA p f.toNat a).length≤1000:=by by_cases h9:FG p f.toNat a=0;(rw[hNP.len h9];omega);(rw[hNP.non h9];decide)
 refine BI (AS rI 2) o1 Bi AX Ac fun v2 w2 bq cx cd=>?_
 have bu:=bq.size
 have ce:=hE1.trans bq
 have ac:=ar.ext (o1) bq
 refine Ae 1 Z (A0 (A0 (Ad _ [0] Z (Ae 1 Z (A5 (AN (S:=Nat×Value) (fun⟨i,vo⟩=>([(11,vo),(12,(.int .i64 ((i:Nat):Int))),(0,vp),(1,(.int .i64 f)),(2,va),(8,a9),(10,(.int .i64 (FG p f.toNat a)))])) (fun⟨i,vo⟩ W=>Az w W∧Fr (AS (AS rI 2) 27) w1.heap.size W.heap.size W.heap vo (List.replicate i [])∧Fr (AS rI 2) w.heap.size w1.heap.size W.heap a9 (FA p f.toNat a)∧i≤(FA p f.toNat a).length∧w1.heap.size≤W.heap.size) (fun⟨i,vo⟩=>(FA p f.toNat a).length-i) (0,v2) ⟨rfl,rfl,rfl,rfl,rfl,rfl,rfl,trivial⟩ ⟨ce,cd.up o2,ac,oM,oM⟩ ?_))))))
 clear bn ar bp cd cx bq bu ce ac
 rintro⟨i,vo⟩ ρ3 w3 ⟨br,ah,ai,cf,cy⟩
 have bv:w.heap.size≤w3.heap.size:=br.size
 refine A0 (A0 (Ad _ [0,0,0,0] Z (Af 2 Z (AJ (v:=a9) Bh Z ai.isSl Ac ?_))))
 by_cases cg:((i:Nat):Int)<(((FA p f.toNat a).length:Nat):Int)
 ·refine Ax true Z Z (A7 cg) Ac (Ah (Ai Z (A4 (A0 (A5 (Ad _ [0,3,3,4,0] Z (Af 1 Z (BI (rI) AQ Bh BA Ac fun v6 w6 bs de cz=>?_))))))))
  have d0:=bs.size
  have d1:=br.trans bs
  have ak:=ah.ext (o2) bs
  have al:=ai.ext (o1) bs
  refine Bq (u:=v6) (B:=w3.heap.size) o1 Bi AX Z Z cz (by first|exact A9 _|omega) Ac fun v7 w7 bt df d2=>?_
  have d3:=bt.size
  have ch:=d1.trans bt
  have am:=ak.ext (o2) bt
  have an:=al.ext (o1) bt
  refine Ej o1 (v:=vo) (a:=v7) Bi AX Z Z Z am oM d2 oM oM sD (by unfold maxLen;first|omega|assumption|(simp;done)|(simp;omega)) Ac fun v8 w8 F8 bw ci d4=>?_
  have d5:Az w w8:=bw.below ch (fun c hc=>Aa hE1.size (ci c hc).1) ch.size
  have d6:w7.heap.size≤w8.heap.size:=bw.size
  have d7:=an.chg (o1) bw (fun c hc=>by have:=ci c hc;omega)
  exact Ae 1 Z (Ad _ [0,0,0] Z (Af 1 Z (AI ((i+1:Nat):Int) Z Z (B8 oM sD) Ac (Ae 1 Z ⟨((i+1),v8),_,rfl,⟨rfl,rfl,rfl,rfl,rfl,rfl,rfl,trivial⟩,⟨d5,(by rw[List.replicate_succ'];exact d4.up o2),d7,oM,oM⟩,by first|omega|(dsimp only;omega)⟩))))
 ·refine Ax false Z Z (A8 cg) Ac (Ah (Aj Z (A6 (As (As (An (A0 (A0 (Ad _ [0] Z (Ae 1 Z (A5 ?_)))))))))))
  refine AN (S:=Nat×Int) (fun⟨k,c⟩=>([(10,(.int .i64 c)),(13,(.int .i64 ((k:Nat):Int))),(0,vp),(1,(.int .i64 f)),(2,va),(11,vo)])) (fun⟨k,c⟩ W=>Az w W∧Fr (AS (AS rI 2) 27) w1.heap.size W.heap.size W.heap vo (OD p f.toNat a (FA p f.toNat a).length k)∧k≤a.length∧c=FG p f.toNat a∧w1.heap.size≤W.heap.size) (fun⟨k,c⟩=>a.length-k) (0,(FG p f.toNat a)) ⟨rfl,rfl,rfl,rfl,rfl,rfl,trivial⟩ ⟨br,(by have h:=ah.up o2;rw[show i=(FA p f.toNat a).length from by omega,← kM p f.toNat a]at h;exact h),oM,(by rfl),oM⟩ ?_
  clear ai ah br bv
  rintro⟨k,c⟩ ρ10 w10 ⟨a1,hL10_0,bx,hce,cj⟩
  have az:w.heap.size≤w10.heap.size:=a1.size
  refine A0 (A0 (Ad _ [0,0,0,0,0,0,0,0] Z (Af 2 Z (AJ (v:=va) Bh Z ha.isSl Ac ?_))))
  by_cases b0:((k:Nat):Int)<((a.length:Nat):Int)
  ·refine Ax true Z Z (A7 b0) Ac (Af 2 Z ?_)
   by_cases b1:c=((0:Nat):Int)
   ·refine AA true Z Z (A7 b1) (Al (e:=39) Z Z Z) (Ae 1 Z (Ai Z (A4 (A0 (A5 (A0 (Ad _ [3,0] Z (BI (AS rI 2) o1 Bi AX Ac fun v14 w14 ao bz b2=>?_))))))))
    have b3:=ao.size
    have b4:=a1.trans ao
    have a2:=hL10_0.ext (o2) ao
    refine Ae 1 Z (A0 (Ad _ [0,0,0,0,0,0,3,3,0,0,0,0,0] Z (Af 4 Z (AJ (v:=va) Bh Z ha.isSl Ac (Af 1 Z (Ap 172 [] [] [(.int .i64 ((a.length:Nat):Int)),(.int .i64 ((k:Nat):Int))] Z Z gO Ac (MO _ (a.length) _ sD oM oM oM) ?_))))))
    rintro e15 w15 ⟨b5,rfl,ae,aa⟩
    refine⟨_,rfl,ae,?_⟩
    have ck:=ae.size
    have au:=b4.trans ae
    have a3:=a2.ext (o2) ae
    have ad:=b2.ext (o2) ae
    refine Ap 171 [] [] [vp,(.int .i64 f),va,b5,(.int .i64 ((1:Nat):Int))] Z Z gN Ac (KQ _ dp vp (p) _ _ _ _ _ _ (hp.ext (Be (B4 dp)) au) _hf (ha.ext g1 au) aa.rd1 oM (by exact hvp) oM oM (by rfl) (by simp[uN]) (by exact hna) (by rw[SD];exact QN _ _)) ?_
    rintro e16 w16 ⟨a0,rfl,ab,aj,c0⟩
    refine⟨_,rfl,ab,?_⟩
    have cl:=ab.size
    have c1:=au.trans ab
    have a4:=a3.ext (o2) ab
    have ap:=ad.ext (o2) ab
    have af:=aa.ext (o1) ab
    refine Af 1 Z (B2 (vs:=[a0,(.int .i64 (HF p (((1:Nat):Int).toNat+1) f.toNat (Gl a (uN a.length ((k:Nat):Int).toNat) 2)))]) a0 Z Z Ac (B2 (vs:=[a0,(.int .i64 (HF p (((1:Nat):Int).toNat+1) f.toNat (Gl a (uN a.length ((k:Nat):Int).toNat) 2)))]) (.int .i64 (HF p (((1:Nat):Int).toNat+1) f.toNat (Gl a (uN a.length ((k:Nat):Int).toNat) 2))) Z Z Ac (Ae 2 Z (A0 (Ad _ [0] Z ?_)))))
    have hEI:Zn p 2 f.toNat (Gl a (uN a.length k) 2):=by assumption
    rw[SD]at hEI
    have hdi:ft p f.toNat a (eV a.length k)=FG p f.toNat a:=fu _ _ _ _
    have d8:FG p f.toNat a=0:=by omega
    have hvK:=hNP.len d8
    have hol:(PW p f.toNat a (eV a.length k)).length=(FA p f.toNat a).length:=by rw[hvK];exact hEI.len (by show ft p f.toNat a (eV a.length k)=0;omega)
    have hos:=hEI.ser
    have b6:Fr (AS (AS rI 2) 27) w15.heap.size w16.heap.size w16.heap a0 (PW p f.toNat a (eV a.length k)):=by have h:=aj;rw[Int.toNat_natCast,SD]at h;exact h
    refine Ae 1 Z (A5 ?_)
    obtain⟨Xn19,kO19,kN19,kR19⟩:=id b6
    have kY19:=O8.of a4 oM kR19
    refine AN (S:=Nat) (fun i=>([(15,(.int .i64 ((i:Nat):Int))),(0,vp),(1,(.int .i64 f)),(2,va),(10,(.int .i64 (HF p (((1:Nat):Int).toNat+1) f.toNat (Gl a (uN a.length ((k:Nat):Int).toNat) 2)))),(11,vo),(13,(.int .i64 ((k:Nat):Int))),(14,a0)])) (fun i W=>Az w W∧O8 2 27 w1.heap.size Xn19 W.heap vo (Cn i (OD p f.toNat a (FA p f.toNat a).length (k+1)) (OD p f.toNat a (FA p f.toNat a).length k))∧AS (AS rI 2) 27 W.heap a0 (PW p f.toNat a (eV a.length k)) Xn19∧i≤(FA p f.toNat a).length∧w1.heap.size≤W.heap.size) (fun i=>(FA p f.toNat a).length-i) 0 ⟨rfl,rfl,rfl,rfl,rfl,rfl,rfl,rfl,trivial⟩ ⟨c1,(by rw[C9];exact kY19),kO19,oM,oM⟩ ?_
    clear hL10_0 a1 az b2 bz ao b3 b4 a2 aa ae a3 ad aj ab a4 ap af
    rintro i ρ18 w18 ⟨av,a6,a7,c2,cm⟩
    have cn:w.heap.size≤w18.heap.size:=av.size
    have hlm:=D4 i (OD p f.toNat a (FA p f.toNat a).length (k+1)) (OD p f.toNat a (FA p f.toNat a).length k) sM
    rw[OE]at hlm
    refine A0 (A0 (Ad _ [0,0,0,0] Z (Af 2 Z (AJ (v:=a0) Bi Z (GQ a7).isSl Ac ?_))))
    by_cases b7:((i:Nat):Int)<(((PW p f.toNat a (eV a.length k)).length:Nat):Int)
    ·refine Ax true Z Z (A7 b7) Ac (Ah (Ai Z (A4 (A0 (A5 (AY _ [0,0,0,0,0,1,0,0,0,1,0,1,3,4,0,4] mixed (by kernel_rfl) ?_))))))
     have hor:=(hos i (by show i<(PW p f.toNat a (eV a.length k)).length;omega)).1
     have d9:((PW p f.toNat a (eV a.length k)).getD i []).length=2:=hor
     refine Af 4 Z (Au (v:=vo) i Bi AX Z Z a6.isSl Z sD Ac ?_)
     obtain⟨b8,b9,c3⟩:=a6.rd2.get (k:=i) [] sD
     have co:=c3.lenle
     refine Ak (p:=Aw vo i 1) (.inl Z) b8 B6 Z b9 Ac (Af 2 Z (Au (v:=a0) i Bi AX Z Z (GQ a7).isSl Z sD Ac ?_))
     obtain⟨aw,ba,aq⟩:=(GQ a7).get (k:=i) [] sD
     have cp:=aq.lenle
     refine Ak (p:=Aw a0 i 1) (.inl Z) aw B6 Z ba Ac (Au (v:=aw) 1 Bh BA Z Z aq.isSl Z sD Ac ?_)
     refine Ak (p:=Aw aw 1 1) (.inl Z) (.int .i64 (((PW p f.toNat a (eV a.length k)).getD i []).getD 1 0)) AH Z (aq.getI sD).1 Ac ?_
     refine Bq (u:=(.int .i64 (((PW p f.toNat a (eV a.length k)).getD i []).getD 1 0))) (B:=w18.heap.size) AQ Bh BA Z Z (N6 w18.heap.size w18.heap.size _ _ (aq.getI sD).2) (A9 _) Ac fun v24 w24 a8 da c4=>?_
     replace a8:=a8.of_drew
     have cq:=a8.size
     have bb:=av.trans a8
     have ag:=a6.ext (o2) a8
     have a5:=Jv (o2) a7 a8
     have bc:=AP a8 b9
     have cr:=AP a8 ba
     refine TW (v:=vo) (u:=b8) (a:=v24) (r:=i) Bh BA Z Z Z ag oM (o2.lt a5) sD bc c4.rd1 (by have h9:=Vu (p:=p) (f:=f.toNat) (a:=a) (K:=(FA p f.toNat a).length) (i:=k) (r:=i) oM;simp only[List.length_cons,List.length_nil];omega) (by unfold maxLen;have h9:=Vu (p:=p) (f:=f.toNat) (a:=a) (K:=(FA p f.toNat a).length) (i:=k) (r:=i) oM;simp only[List.length_cons,List.length_nil];omega) Ac fun v27 w27 F27 ax bd be=>?_
     have bf:Az w w27:=ax.below bb (fun b hb=>Aa hE1.size (bd b hb).1) bb.size
     have cs:w24.heap.size≤w27.heap.size:=ax.size
     have c5:=Kg o2 a5 ax (fun b hb=>(bd b hb).2.1)
     refine Au (v:=vo) i Bi AX Z Z be.isSl Z sD Ac (TX (v:=vo) (u:=v27) (w:=w27) Ja Z Z be Ac fun w29 F29 ay db bg c6=>?_)
     have c7:Az w w29:=ay.below bf (fun b hb=>Aa hE1.size (bg b hb).1) bf.size
     have ct:w27.heap.size≤w29.heap.size:=ay.size
     have c8:=Kg o2 c5 ay (fun b hb=>(bg b hb).2.1)
     exact Ah (Ad _ [0,0,0] Z (Af 1 Z (AI ((i+1:Nat):Int) Z Z (B8 oM sD) Ac (Ae 1 Z ⟨(i+1),_,rfl,⟨rfl,rfl,rfl,rfl,rfl,rfl,rfl,rfl,trivial⟩,⟨c7,(by have h:=c6;rw[← dK oM];exact h),c8,oM,oM⟩,by first|omega|(dsimp only;omega)⟩))))
    ·refine Ax false Z Z (A8 b7) Ac (Ah (Aj Z (A6 (As (As (An (Ad _ [0,0,0] Z (Af 1 Z (AI ((k+1:Nat):Int) Z Z (B8 oM sD) Ac (Ae 1 Z ?_))))))))))
     exact⟨((k+1),(HF p (((1:Nat):Int).toNat+1) f.toNat (Gl a (uN a.length ((k:Nat):Int).toNat) 2))),_,rfl,⟨rfl,rfl,rfl,rfl,rfl,rfl,trivial⟩,⟨av,(by have h:=a6.fr;rwa [CL sM (by rw[OE];omega)]at h),oM,(by show ft p f.toNat a (uN a.length k)=_;rw[SD];exact hdi),oM⟩,by first|omega|(dsimp only;omega)⟩
   ·refine AA false Z Z (A8 b1) (Al (e:=39) Z Z Z) (Ae 1 Z (Aj Z (A6 (As (As (An (A0 (A0 (Ad _ [0,0] Z (Af 1 Z ?_))))))))))
    by_cases bh:c≠((0:Nat):Int)
    ·refine AZ true Z Z (A7 bh) Ac (Ah (Ai Z (A0 (Ad _ [3,0,0,0] Z (BI (AS rI 2) o1 Bi AX Ac fun v32 w32 bi dc bj=>?_)))))
     have cu:=bi.size
     have c9:=a1.trans bi
     exact Ae 3 Z (A3 (Aq (Ag [6,7] Z (.tuple #[v32,(.int .i64 c)]) Z ⟨v32,P9,c9,(by first|(rw[if_neg oM];exact(bj.up o2).low a1.size)|(have h:=(bj.up o2).low a1.size;rw[if_pos oM];rw[show k=a.length from by omega,hNP.len oM]at h;exact h)),bo⟩)))
    ·exact AZ false Z Z (A8 bh) Ac (Ah (Aj Z (A4 (A0 (Ad _ [0,0,0] Z (Ae 3 Z (A3 (Ag [6,7] Z (.tuple #[vo,(.int .i64 ((0:Nat):Int))]) Z ⟨vo,P9,a1,XM,bo⟩))))))))
  ·refine Ax false Z Z (A8 b0) Ac (Ae 4 Z (Aj Z (A6 (As (As (An (A0 (A0 (Ad _ [0,0] Z (Af 1 Z ?_))))))))))
   by_cases bk:c≠((0:Nat):Int)
   ·refine AZ true Z Z (A7 bk) Ac (Ah (Ai Z (A0 (Ad _ [3,0,0,0] Z (BI (AS rI 2) o1 Bi AX Ac fun v34 w34 bl dd bm=>?_)))))
    have cv:=bl.size
    have ca:=a1.trans bl
    exact Ae 3 Z (A3 (Aq (Ag [6,7] Z (.tuple #[v34,(.int .i64 c)]) Z ⟨v34,P9,ca,(by first|(rw[if_neg oM];exact(bm.up o2).low a1.size)|(have h:=(bm.up o2).low a1.size;rw[if_pos oM];rw[show k=a.length from by omega,hNP.len oM]at h;exact h)),bo⟩)))
   ·exact AZ false Z Z (A8 bk) Ac (Ah (Aj Z (A4 (A0 (Ad _ [0,0,0] Z (Ae 3 Z (A3 (Ag [6,7] Z (.tuple #[vo,(.int .i64 ((0:Nat):Int))]) Z ⟨vo,P9,a1,XM,bo⟩))))))))
theorem jG {p:List Fn}{f:Int}(h:IP p f=0)(h1:(decide (((1:Nat):Int)≤(p.getD f.toNat Fn.zero).params) && decide ((p.getD f.toNat Fn.zero).params≤((6:Nat):Int)))=false):2=HZ p f E8:=by
  have h1':Hm (p.getD f.toNat Fn.zero).params 1 6=false:=h1
  unfold HZ E8;rw[if_pos h,h1',Bool.false_and];rfl
theorem jH {p:List Fn}{f:Int}(h:IP p f=0)(h1:¬((((p.getD f.toNat Fn.zero).outs.length:Nat):Int)=(p.getD f.toNat Fn.zero).params)):2=HZ p f E8:=by
  unfold HZ E8;rw[if_pos h,A8 h1,Bool.and_false];rfl
theorem jI {p:List Fn}{f:Int}(h:IP p f=0)(h1:(decide (((1:Nat):Int)≤(p.getD f.toNat Fn.zero).params) && decide ((p.getD f.toNat Fn.zero).params≤((6:Nat):Int)))=true)(h2:(((p.getD f.toNat Fn.zero).outs.length:Nat):Int)=(p.getD f.toNat Fn.zero).params):IP p f=HZ p f E8:=by
  have h1':Hm (p.getD f.toNat Fn.zero).params 1 6=true:=h1
  unfold HZ E8;rw[if_pos h,h1',A7 h2,h];rfl
theorem Pa {p:Prop}(h:p:=by first|exact AV (bB oM)|exact AV (jG oM (by rw[← hm];exact Gb (by assumption)))|exact AV (jH oM oM)|exact AV (jI oM (by rw[← hm];exact Ez (by assumption)) oM)):p:=h
theorem eU (w:World)(dp:Nat)(vp:Value)(p:List Fn)(f:Int)(most:Int)(hp:RN [] (rP (N7 dp)) w.heap vp p)(_hf:BC f)(_hmost:BC most)(hz:Tq p)(hm:most=((6:Nat):Int)) :
  Calls Tryz.prog 118 #[vp,.int .i64 f,.int .i64 most] w (fun e w'=>e=.returned (.int .i64 (HZ p f E8))∧Az w w'):=by
 refine At [vp,.int .i64 f,.int .i64 most] 47 Tryz.func118 Z Z sM ?_
 have a8:Az w w:=Az.refl w
 refine A0 (Ad _ [0] Z (Ae 1 Z (A0 (Ad _ [0,0,3,0] Z (Af 2 Z (Ap 91 [] [] [vp,(.int .i64 f)] Z Z kU Ac (Lb _ dp vp (p) _ (hp.ext (Be (B4 dp)) a8) _hf (by exact hz)) ?_))))))
 rintro e1 w1 ⟨rfl,a4⟩
 refine⟨_,rfl,a4,?_⟩
 have ac:=a4.size
 have hE1:=a8.trans a4
 refine Ae 1 Z (A0 (A0 (AY _ [0,0,0,0,0,0,1,0,0,0,1,0,0,0,0,0,0,0,1,0,0,0,1,0,0,0,0,1,0,0,0,1,0,0,0] mixed (by kernel_rfl) (Af 1 Z ?_))))
 by_cases a9:IP p f=((0:Nat):Int)
 ·refine AA true Z Z (A7 a9) Ac (Af 2 Z ?_)
  have af:=Sd (p:=p) (f:=f) oM
  refine AU (hp.isPtr) Z (Al (e:=13) Z Z Z) ?_
  obtain⟨cs3,ad,a1⟩:=RN.at (B4 _) hp
  obtain⟨a0,rfl,a3⟩:=RPr.of ad
  have a5:=a3.lenle
  unfold maxLen at a5
  refine AM (p:=vp) 0 BM Z (a1 _ (AE.of_ext [] hE1.drew)) (Al (e:=13) Z Z Z) (Ak (p:=(Ay vp 0)) (.inl Z) a0 Cs Z ((a1 _ (AE.of_ext [] hE1.drew)).ld (i:=0) (by simp[FL,FM])) (Al (e:=13) Z Z Z) (Af 1 Z (Au (v:=a0) ((f).toNat) Gm CA Z Z a3.isSl oM sD (Al (e:=13) Z Z Z) ?_)))
  obtain⟨cs4,ae,a2⟩:=a3.get (AB dp) Fn.zero (k:=((f).toNat)) sD
  obtain⟨aa,rfl,a6⟩:=RF.of ae
  have a7:=a6.rn.lenle
  unfold maxLen at a7
  refine AM (p:=Aw a0 ((f).toNat) 3) 1 Cw Z (a2 _ (AE.of_ext [] hE1.drew)) (Al (e:=13) Z Z Z) (Ak (p:=(Ay (Aw a0 ((f).toNat) 3) 1)) (.inl Z) (.int .i64 ((p.getD ((f).toNat) Fn.zero).params)) AH Z ((a2 _ (AE.of_ext [] hE1.drew)).ld (i:=1) (by simp[FL,FM])) (Al (e:=13) Z Z Z) (Af 1 Z (AD 92 [] [] [(.int .i64 ((p.getD ((f).toNat) Fn.zero).params)),(.int .i64 ((1:Nat):Int)),(.int .i64 most)] Z Z IC (Al (e:=13) Z Z Z) (.bool (decide (((1:Nat):Int)≤((p.getD ((f).toNat) Fn.zero).params)) && decide (((p.getD ((f).toNat) Fn.zero).params)≤most))) (fun wq=>Br wq _ _ _ a6.rng oM _hmost) ?_)))
  refine Bn (!(decide (((1:Nat):Int)≤((p.getD ((f).toNat) Fn.zero).params)) && decide (((p.getD ((f).toNat) Fn.zero).params)≤most))) Z Z (Al (e:=13) Z Z Z) (Af 1 Z ?_)
  cases ag:(!(decide (((1:Nat):Int)≤((p.getD ((f).toNat) Fn.zero).params)) && decide (((p.getD ((f).toNat) Fn.zero).params)≤most)))
  ·refine Af 1 Z (AU (hp.isPtr) Z (Al (e:=25) Z Z Z) (AM (p:=vp) 0 BM Z (a1 _ (AE.of_ext [] hE1.drew)) (Al (e:=25) Z Z Z) (Ak (p:=(Ay vp 0)) (.inl Z) a0 Cs Z ((a1 _ (AE.of_ext [] hE1.drew)).ld (i:=0) (by simp[FL,FM])) (Al (e:=25) Z Z Z) (Af 1 Z (Au (v:=a0) ((f).toNat) Gm CA Z Z a3.isSl oM sD (Al (e:=25) Z Z Z) ?_)))))
   refine AM (p:=Aw a0 ((f).toNat) 3) 2 Cu Z (a2 _ (AE.of_ext [] hE1.drew)) (Al (e:=25) Z Z Z) (Ak (p:=(Ay (Aw a0 ((f).toNat) 3) 2)) (.inl Z) aa Bp Z ((a2 _ (AE.of_ext [] hE1.drew)).ld (i:=2) (by simp[FL,FM])) (Al (e:=25) Z Z Z) (AJ (v:=aa) DK Z a6.rn.isSl (Al (e:=25) Z Z Z) (Af 1 Z (AU (hp.isPtr) Z (Al (e:=25) Z Z Z) (AM (p:=vp) 0 BM Z (a1 _ (AE.of_ext [] hE1.drew)) (Al (e:=25) Z Z Z) (Ak (p:=(Ay vp 0)) (.inl Z) a0 Cs Z ((a1 _ (AE.of_ext [] hE1.drew)).ld (i:=0) (by simp[FL,FM])) (Al (e:=25) Z Z Z) (Af 1 Z ?_)))))))
   refine Au (v:=a0) ((f).toNat) Gm CA Z Z a3.isSl oM sD (Al (e:=25) Z Z Z) (AM (p:=Aw a0 ((f).toNat) 3) 1 Cw Z (a2 _ (AE.of_ext [] hE1.drew)) (Al (e:=25) Z Z Z) (Ak (p:=(Ay (Aw a0 ((f).toNat) 3) 1)) (.inl Z) (.int .i64 ((p.getD ((f).toNat) Fn.zero).params)) AH Z ((a2 _ (AE.of_ext [] hE1.drew)).ld (i:=1) (by simp[FL,FM])) (Al (e:=25) Z Z Z) ?_))
   by_cases ab:((((p.getD ((f).toNat) Fn.zero).outs).length:Nat):Int)≠(p.getD ((f).toNat) Fn.zero).params
   ·exact AZ true Z Z (A7 ab) (Al (e:=25) Z Z Z) (Ae 2 Z (Ai Z (Ad _ [0] Z (Ae 1 Z (A0 (Ad _ [0,0] Z (Ae 2 Z (A3 (Ag [6] Z (.int .i64 ((2:Nat):Int)) Z ⟨Pa,hE1.drew⟩)))))))))
   ·exact AZ false Z Z (A8 ab) (Al (e:=25) Z Z Z) (Ae 2 Z (Aj Z (A4 (A0 (Ad _ [0,0] Z (Ae 2 Z (A3 (Ag [6] Z (.int .i64 (IP p f)) Z ⟨Pa,hE1.drew⟩))))))))
  ·exact Ae 20 Z (Ai Z (Ad _ [0] Z (Ae 1 Z (A0 (Ad _ [0,0] Z (Ae 2 Z (A3 (Ag [6] Z (.int .i64 ((2:Nat):Int)) Z ⟨Pa,hE1.drew⟩))))))))
 ·exact AA false Z Z (A8 a9) Ac (Ae 33 Z (Aj Z (A4 (A0 (Ad _ [0,0] Z (Ae 2 Z (A3 (Ag [6] Z (.int .i64 (IP p f)) Z ⟨Pa,hE1.drew⟩))))))))
theorem XN {p:Prop}(h:p:=by unfold maxLen;first|omega|assumption|(simp only[List.length_nil,List.length_cons,List.length_append,List.length_set,List.length_replicate,EX];omega)|(simp[List.length_nil,List.length_cons,List.length_append,List.length_set,List.length_replicate,EX];done)|(simp[List.length_nil,List.length_cons,List.length_append,List.length_set,List.length_replicate,EX];omega)):p:=h
theorem C0 {p:Prop}(h:p:=by first|omega|assumption|(simp only[List.length_nil,List.length_cons,List.length_append,List.length_set,List.length_replicate,EX];omega)|(simp[List.length_nil,List.length_cons,List.length_append,List.length_set,List.length_replicate,EX];done)|(simp[List.length_nil,List.length_cons,List.length_append,List.length_set,List.length_replicate,EX];omega)):p:=h
theorem Jq (w:World)(dp:Nat)(vp:Value)(p:List Fn)(f:Int)(va:Value)(a:List Int)(vd:Value)(d:List Int)(order:Int)(hp:RP [] dp w.heap vp p)(_hf:BC f)(ha:Rd (B3 rI) w.heap va a)(hd:Rd (B3 rI) w.heap vd d)(_horder:BC order)(hz:Tq p) :
  Calls Tryz.prog 48 #[(.agg #[vp]),.int .i64 f,va,vd,.int .i64 order] w (fun e w'=>∃v0:Value,e=.returned (.tuple #[v0,.int .i64 (N4 p f a d order)])∧Az w w'∧Fr (AS (AS rI 2) 27) w.heap.size w'.heap.size w'.heap v0 (HJ p f a d order)):=by
 refine At [(.agg #[vp]),.int .i64 f,va,vd,.int .i64 order] 151 Tryz.func48 Z Z sM ?_
 have io:Az w w:=Az.refl w
 have hl_vp:=hp.lenle
 unfold maxLen at hl_vp
 have hl_va:=ha.lenle
 have hl_vd:=hd.lenle
 refine A0 (Ad _ [3,0,0] Z (Bx (cs:=#[vp]) Z Ac fun w1 el jl ei=>?_))
 have em:=el.size
 have hE1:=io.trans el
 replace ei:BX w1.heap w.heap.size [vp]:=ei
 refine Ae 2 Z (A0 (Ad _ [0,3,0] Z (Af 1 Z (Ap 118 [] [] [(.pointer (some ⟨w.heap.size,0,none⟩)),(.int .i64 f),(.int .i64 ((6:Nat):Int))] Z Z fS Ac (eU _ dp ((.pointer (some ⟨w.heap.size,0,none⟩))) (p) _ _ (RN.box ei (RP.mk' (hp.ext (Am (AB dp)) hE1)) sM) _hf oM (by exact hz) (by rfl)) ?_))))
 rintro e2 w2 ⟨rfl,d1⟩
 refine⟨_,rfl,d1,?_⟩
 have en:=d1.size
 have cn:=hE1.trans d1
 have cd:=ei.ext d1
 refine Ae 1 Z (A0 (A0 (Ad _ [0,0,0,0,0,2,0,0,0,2,3,0,0,0,0,2,0,0,0,2,3,0,0,0,0,0,0,0,0] Z (Af 1 Z ?_))))
 by_cases ip:HZ p f E8=((0:Nat):Int)
 ·refine AA true Z Z (A7 ip) Ac (Af 2 Z ?_)
  have jm:=ZR (p:=p) (f:=f) oM
  refine Ao (p:=(.pointer (some ⟨w.heap.size,0,none⟩))) (b:=w.heap.size) (o:=0) 0 BM Z Z (Al (e:=28) Z Z Z) (Ak (p:=(Ay (.pointer (some ⟨w.heap.size,0,none⟩)) 0)) (.inr Z) vp Cs Z (cd.ldp (i:=0) sM) (Al (e:=28) Z Z Z) (Af 1 Z (Au (v:=vp) ((f).toNat) Gm CA Z Z hp.isSl oM C0 (Al (e:=28) Z Z Z) ?_)))
  obtain⟨cs4,jn,ej⟩:=hp.get (AB dp) Fn.zero (k:=((f).toNat)) C0
  obtain⟨k5,rfl,eo⟩:=RF.of jn
  have d2:=eo.rn.lenle
  unfold maxLen at d2
  refine AM (p:=Aw vp ((f).toNat) 3) 1 Cw Z (ej _ (AE.of_ext [] cn)) (Al (e:=28) Z Z Z) (Ak (p:=(Ay (Aw vp ((f).toNat) 3) 1)) (.inr Z) (.int .i64 ((p.getD ((f).toNat) Fn.zero).params)) AH Z ((ej _ (AE.of_ext [] cn)).ld (i:=1) (by simp[FL,FM])) (Al (e:=28) Z Z Z) (Ap 119 [] [] [va,(.int .i64 ((p.getD ((f).toNat) Fn.zero).params))] Z Z ZZ (Al (e:=28) Z Z Z) (Gz _ _ _ _ (ha.ext g1 cn) eo.rng) ?_))
  rintro e5 w5 ⟨rfl,d3⟩
  refine⟨_,rfl,d3,?_⟩
  have ep:=d3.size
  have co:=cn.trans d3
  have ce:=cd.ext d3
  refine Bn (!(decide (((a.length:Nat):Int)=((p.getD ((f).toNat) Fn.zero).params)) && B7 a)) Z Z (Al (e:=28) Z Z Z) (Af 1 Z ?_)
  cases jo:(!(decide (((a.length:Nat):Int)=((p.getD ((f).toNat) Fn.zero).params)) && B7 a))
  ·refine Af 1 Z (Ao (p:=(.pointer (some ⟨w.heap.size,0,none⟩))) (b:=w.heap.size) (o:=0) 0 BM Z Z (Al (e:=38) Z Z Z) (Ak (p:=(Ay (.pointer (some ⟨w.heap.size,0,none⟩)) 0)) (.inr Z) vp Cs Z (ce.ldp (i:=0) sM) (Al (e:=38) Z Z Z) (Af 1 Z (Au (v:=vp) ((f).toNat) Gm CA Z Z hp.isSl oM C0 (Al (e:=38) Z Z Z) ?_))))
   refine AM (p:=Aw vp ((f).toNat) 3) 1 Cw Z (ej _ (AE.of_ext [] co)) (Al (e:=38) Z Z Z) (Ak (p:=(Ay (Aw vp ((f).toNat) 3) 1)) (.inr Z) (.int .i64 ((p.getD ((f).toNat) Fn.zero).params)) AH Z ((ej _ (AE.of_ext [] co)).ld (i:=1) (by simp[FL,FM])) (Al (e:=38) Z Z Z) (Ap 119 [] [] [vd,(.int .i64 ((p.getD ((f).toNat) Fn.zero).params))] Z Z ZZ (Al (e:=38) Z Z Z) (Gz _ _ _ _ (hd.ext g1 co) eo.rng) ?_))
   rintro e7 w7 ⟨rfl,d4⟩
   refine⟨_,rfl,d4,?_⟩
   have jp:=d4.size
   have cp:=co.trans d4
   have cf:=ce.ext d4
   refine Bn (!(decide (((d.length:Nat):Int)=((p.getD ((f).toNat) Fn.zero).params)) && B7 d)) Z Z (Al (e:=38) Z Z Z) (Af 2 Z ?_)
   cases k6:(!(decide (((d.length:Nat):Int)=((p.getD ((f).toNat) Fn.zero).params)) && B7 d))
   ·refine Af 1 Z (AD 92 [] [] [(.int .i64 order),(.int .i64 ((0:Nat):Int)),(.int .i64 ((12:Nat):Int))] Z Z IC (Al (e:=49) Z Z Z) (.bool (decide (((0:Nat):Int)≤order) && decide (order≤((12:Nat):Int)))) (fun wq=>Br wq _ _ _ _horder oM oM) (Bn (!(decide (((0:Nat):Int)≤order) && decide (order≤((12:Nat):Int)))) Z Z (Al (e:=49) Z Z Z) (Ae 2 Z ?_)))
    cases d5:(!(decide (((0:Nat):Int)≤order) && decide (order≤((12:Nat):Int))))
    ·refine Aj (by first|rfl|(show Value.bool _=_;rw[d5])) (A4 (A0 (A0 (Ad _ [0,0] Z (Af 1 Z ?_)))))
     have eq:¬(HZ p f E8≠((0:Nat):Int)):=oM
     refine AZ false Z Z (A8 eq) Ac (Ah (Aj Z (A4 (A0 (Ad _ [0,0,3,0,0,0,0,0] Z ?_)))))
     have d6:IQ p f a d order=0:=ZU oM (Ez ‹(!(decide (((a.length:Nat):Int)=(p.getD f.toNat Fn.zero).params) && B7 a))=false›) (Ez ‹(!(decide (((d.length:Nat):Int)=(p.getD f.toNat Fn.zero).params) && B7 d))=false›) (show Hm order 0 12=true from Ez ‹(!(decide (((0:Nat):Int)≤order) && decide (order≤((12:Nat):Int))))=false›)
     have hKP:=VW d6
     have hIp:=hKP.1
     have jo:=hIp.b
     have hpl:=hIp.l
     have hdl:=hIp.dl
     have hvp:=hIp.v
     clear jm
     refine Af 2 Z (Ap 120 [] [] [(.pointer (some ⟨w.heap.size,0,none⟩)),(.int .i64 f),va] Z Z fT Ac (Jp _ dp ((.pointer (some ⟨w.heap.size,0,none⟩))) (p) _ _ _ (RN.box cf (RP.mk' (hp.ext (Am (AB dp)) cp)) sM) _hf (ha.ext g1 cp) (by exact hvp) (by exact hKP.2.2.1) (by exact hpl) (by exact hIp.n)) ?_)
     rintro e12 w12 ⟨a0,rfl,bt,bu,er⟩
     refine⟨_,rfl,bt,?_⟩
     have d7:=bt.size
     have c6:=cp.trans bt
     have cq:=cf.ext bt
     refine Af 1 Z (B2 (vs:=[a0,(.int .i64 (FG p f.toNat a))]) a0 Z Z Ac (B2 (vs:=[a0,(.int .i64 (FG p f.toNat a))]) (.int .i64 (FG p f.toNat a)) Z Z Ac (Ae 2 Z (A0 (A0 (Ad _ [0,0] Z (Af 1 Z ?_)))))))
     by_cases d8:FG p f.toNat a≠((0:Nat):Int)
     ·refine AZ true Z Z (A7 d8) Ac (Ah (Ai Z (A0 (Ad _ [3,0,0,0] Z (BI (AS rI 2) o1 Bi AX Ac fun v14 w14 d9 jq es=>?_)))))
      have iq:=d9.size
      have et:=c6.trans d9
      refine Ae 3 Z (A3 (Aq ?_))
      have hcn:FG p f.toNat a≠0:=by omega
      exact Ag [10,11] Z (.tuple #[v14,(.int .i64 (FG p f.toNat a))]) Z ⟨v14,(by rw[Q7 d6 hcn]),et,(by rw[IR (by rw[Q7 d6 hcn];exact hcn)];exact(es.up o2).low c6.size)⟩
     ·refine AZ false Z Z (A8 d8) Ac (Ah (Aj Z (A4 (A0 (A0 (Ad _ [0,3,0] Z ?_))))))
      have ek:FG p f.toNat a=0:=by omega
      obtain⟨xs0,T0,hrc⟩:=VZ hIp.v hIp.lt hpl hIp.n ek
      have cg:Fr (AS (AS rI 2) 27) w7.heap.size w12.heap.size w12.heap a0 (Gi p f.toNat a a.length):=by have h:=bu;rw[if_pos ek,show(p.getD f.toNat Fn.zero).outs.length=a.length from by have:=hIp.o;omega]at h;exact h
      have hjS:=QX hrc (by have:=hrc.xl;have:=hIp.o;omega)
      have eu:(Gi p f.toNat a a.length).length=a.length:=by simp[Gi]
      have ev:Sq (Gi p f.toNat a a.length).length (Gi p f.toNat a a.length):=by rw[eu];exact hjS
      refine Af 1 Z (Ap 121 [] [] [a0] Z Z fU Ac (Np _ _ _ cg.rd2 (by exact ev) oM) ?_)
      rintro e16 w16 ⟨rfl,b6⟩
      refine⟨_,rfl,b6,?_⟩
      have ir:=b6.size
      have b7:=c6.trans b6
      have cr:=cq.ext b6
      have bv:=cg.ext (o2) b6
      by_cases da:Ed (Gi p f.toNat a a.length)=((0:Nat):Int)
      ·refine AA true Z Z (A7 da) Ac (Ah (Ai Z (A0 (Ad _ [3,0,0] Z (BI (AS rI 2) o1 Bi AX Ac fun v18 w18 db jr ew=>?_)))))
       have is:=db.size
       have ex:=b7.trans db
       refine Ae 2 Z (A3 (Aq ?_))
       have hcf:=VX (d:=d) d6 ek (by assumption)
       exact Ag [10,11] Z (.tuple #[v18,(.int .i64 ((6:Nat):Int))]) Z ⟨v18,(by rw[hcf];rfl),ex,(by rw[IR (by rw[hcf];decide)];exact(ew.up o2).low b7.size)⟩
      ·refine AA false Z Z (A8 da) Ac (Ah (Aj Z (A4 (A0 (Ad _ [3,0] Z ?_)))))
       have hdt:Ed (Gi p f.toNat a a.length)≠0:=by omega
       refine BI (AS rI 2) o1 Bi AX Ac fun v19 w19 bw ey dc=>?_
       have dd:=bw.size
       have de:=b7.trans bw
       have ct:=cr.ext bw
       have bx:=bv.ext (o2) bw
       refine Ae 1 Z (A0 (A0 (Ad _ [0] Z (Ae 1 Z (A5 ?_)))))
       refine AN (S:=Nat×Value) (fun⟨i,vy⟩=>([(14,vy),(15,(.int .i64 ((i:Nat):Int))),(1,(.int .i64 f)),(2,va),(3,vd),(4,(.int .i64 order)),(5,(.pointer (some ⟨w.heap.size,0,none⟩))),(13,a0)])) (fun⟨i,vy⟩ W=>Az w W∧Fr (AS (AS rI 2) 27) w16.heap.size W.heap.size W.heap vy ((a.take i).map (cst (order.toNat+1)))∧Fr (AS (AS rI 2) 27) w7.heap.size w12.heap.size W.heap a0 (Gi p f.toNat a a.length)∧BX W.heap w.heap.size [vp]∧i≤a.length∧w.heap.size<w16.heap.size∧w16.heap.size≤W.heap.size) (fun⟨i,vy⟩=>a.length-i) (0,v19) ⟨rfl,rfl,rfl,rfl,rfl,rfl,rfl,rfl,trivial⟩ ⟨de,dc.up o2,bx,ct,C0,oM,oM⟩ ?_
       clear io jl el em hE1 d1 en cn d2 d3 ep co d4 bu bt b6 dc ey bw dd de
       rintro⟨i,vy⟩ ρ21 w21 ⟨bz,ay,az,ak,ez,it,iu⟩
       have df:w.heap.size≤w21.heap.size:=bz.size
       have js:=ak.lt
       refine A0 (A0 (Ad _ [0,0,0,0] Z (Af 2 Z (AJ (v:=va) Bh Z ha.isSl Ac ?_))))
       by_cases dg:((i:Nat):Int)<((a.length:Nat):Int)
       ·refine Ax true Z Z (A7 dg) Ac (Ah (Ai Z (A4 (A0 (A5 (Ad _ [0,0,0,0,2,0,0,3,3,4,0] Z (Af 3 Z (Au (v:=va) i Bh BA Z Z ha.isSl Z C0 Ac ?_))))))))
        refine Ak (p:=Aw va i 1) (.inr Z) (.int .i64 (a.getD i 0)) AH Z (AP bz (ha.getI C0).1) Ac (Af 1 Z (AI ((order.toNat+1:Nat):Int) Z Z (by rw[FR oM oM];omega) Ac ?_))
        refine Ap 122 [] [] [(.int .i64 (a.getD i 0)),(.int .i64 ((order.toNat+1:Nat):Int))] Z Z Qb Ac (Dd _ _ (order.toNat+1) (ha.getI C0).2 C0 oM) ?_
        rintro e25 w25 ⟨dh,rfl,b8,cu⟩
        refine⟨_,rfl,b8,?_⟩
        have iv:=b8.size
        have g0:=bz.trans b8
        have b9:=ay.ext (o2) b8
        have ba:=az.ext (o2) b8
        have bb:=ak.ext b8
        refine Bq (u:=dh) (B:=w21.heap.size) o1 Bi AX Z Z cu (by first|exact A9 _|omega) Ac fun v26 w26 c0 jt g2=>?_
        have iw:=c0.size
        have di:=g0.trans c0
        have bc:=b9.ext (o2) c0
        have bd:=ba.ext (o2) c0
        have be:=bb.ext c0
        refine Ej o1 (v:=vy) (a:=v26) Bi AX Z Z Z bc oM g2 oM oM C0 XN Ac fun v27 w27 F27 c7 cv g3=>?_
        have g4:Az w w27:=c7.below di (fun c hc=>Aa b7.size (cv c hc).1) di.size
        have ix:w26.heap.size≤w27.heap.size:=c7.size
        have g5:=bd.chg (o2) c7 (fun c hc=>by have:=cv c hc;omega)
        have g6:=be.chg c7 (fun hm=>by have:=cv _ hm;omega)
        refine Ae 1 Z (Ad _ [0,0,0] Z (Af 1 Z (AI ((i+1:Nat):Int) Z Z (B8 oM C0) Ac (Ae 1 Z ?_))))
        exact⟨((i+1),v27),_,rfl,⟨rfl,rfl,rfl,rfl,rfl,rfl,rfl,rfl,trivial⟩,⟨g4,(by rw[Du 0 oM];exact g3.up o2),g5,g6,C0,oM,oM⟩,by first|omega|(dsimp only;omega)⟩
       ·refine Ax false Z Z (A8 dg) Ac (Ah (Aj Z (A6 (As (As (An (A0 (A0 (Ad _ [0] Z ?_)))))))))
        have dj:Fr (AS (AS rI 2) 27) w16.heap.size w21.heap.size w21.heap vy (K9 p f.toNat a d order.toNat 0):=by have h:=ay;rw[List.take_of_length_le oM]at h;exact h
        obtain⟨BL,hBL⟩:∃b:Nat,b=w12.heap.size:=⟨_,rfl⟩
        have ch:=az
        rw[← hBL]at ch
        have g7:BL≤w21.heap.size:=by omega
        have g8:BL≤w16.heap.size:=by omega
        refine Ae 1 Z (A5 ?_)
        refine AN (S:=Nat×List (List Int)) (fun⟨k,xs⟩=>([(16,(.int .i64 ((k:Nat):Int))),(1,(.int .i64 f)),(3,vd),(4,(.int .i64 order)),(5,(.pointer (some ⟨w.heap.size,0,none⟩))),(13,a0),(14,vy)])) (fun⟨k,xs⟩ W=>Az w W∧Fr (AS (AS rI 2) 27) w16.heap.size W.heap.size W.heap vy xs∧Fr (AS (AS rI 2) 27) w7.heap.size BL W.heap a0 (Gi p f.toNat a a.length)∧BX W.heap w.heap.size [vp]∧BL≤W.heap.size∧1≤k∧k≤order.toNat+1∧xs=K9 p f.toNat a d order.toNat (k-1)∧w.heap.size<w16.heap.size∧w16.heap.size≤W.heap.size) (fun⟨k,xs⟩=>order.toNat+1-k) (1,(K9 p f.toNat a d order.toNat 0)) ⟨rfl,rfl,rfl,rfl,rfl,rfl,rfl,trivial⟩ ⟨bz,dj.up o2,ch,ak,oM,oM,oM,(by rfl),oM,oM⟩ ?_
        clear d7 c6 ak az ay bz df
        rintro⟨k,xs⟩ ρ35 w35 ⟨cw,al,c1,b0,g9,ga,gb,hyf,iy,iz⟩
        have j0:w.heap.size≤w35.heap.size:=cw.size
        have ju:=b0.lt
        refine A0 (A0 (Ad _ [0,0,0] Z (Af 2 Z ?_)))
        by_cases dk:((k:Nat):Int)≤order
        ·refine Ei true Z Z (A7 dk) Ac (Ah (Ai Z (A4 (A0 (A5 (A0 (Ad _ [0,0,0,0,3,0,0,3,0,0,0,0,0] Z ?_)))))))
         have hse:=X2 (o:=order.toNat) (k:=k-1) hIp hrc hdt oM
         rw[← hyf]at hse
         have hsel:=hse.2.1
         have hso:=dZ (o:=order.toNat) (k:=k) hIp hrc hse.1 hse.2.2 oM oM
         refine Af 3 Z (AI ((k+1:Nat):Int) Z Z (B8 oM oM) Ac (Ap 123 [] [] [vy,(.int .i64 ((k+1:Nat):Int))] Z Z fV Ac (Nw _ vy (xs) (w16.heap.size) (w35.heap.size) (k+1) al oM C0 (by intro j hj;have:=(hse.1 j hj).1;omega) oM) ?_))
         rintro e39 w39 ⟨ci,rfl,b1,am⟩
         refine⟨_,rfl,b1,?_⟩
         have dm:=b1.size
         have cx:=cw.trans b1
         have a7:=al.ext (o2) b1
         have a8:=c1.ext (o2) b1
         have a3:=b0.ext b1
         refine Af 1 Z (AI ((k+1:Nat):Int) Z Z (B8 oM oM) Ac (Ap 110 [] [] [(.pointer (some ⟨w.heap.size,0,none⟩)),(.int .i64 f),ci,(.int .i64 ((k+1:Nat):Int))] Z Z ZY Ac (Ie _ dp ((.pointer (some ⟨w.heap.size,0,none⟩))) (p) _ ci (xs.map (CB (k+1))) (k+1) (RN.box a3 (RP.mk' (hp.ext (Am (AB dp)) cx)) sM) _hf (RN.of_fr2 am (fun b hb=>by cases hb)) am.cap (by exact hvp) (by exact hKP.2.2.1) (by rw[List.length_map];omega) (by exact hso.2.2) oM) ?_))
         rintro e40 w40 ⟨a2,rfl,aq,c2,gc⟩
         refine⟨_,rfl,aq,?_⟩
         have dq:=aq.size
         have c8:=cx.trans aq
         have a9:=a7.ext (o2) aq
         have aa:=a8.ext (o2) aq
         have ab:=a3.ext aq
         have ac:=am.ext (o2) aq
         refine Af 1 Z (B2 (vs:=[a2,(.int .i64 (HF p (k+1) f.toNat (xs.map (CB (k+1)))))]) a2 Z Z Ac (B2 (vs:=[a2,(.int .i64 (HF p (k+1) f.toNat (xs.map (CB (k+1)))))]) (.int .i64 (HF p (k+1) f.toNat (xs.map (CB (k+1))))) Z Z Ac (Ae 2 Z (A0 (Ad _ [3,0] Z ?_)))))
         have hol:=hso.1
         have gd:w35.heap.size≤w40.heap.size:=by omega
         have ge:w35.heap.size≤w39.heap.size:=by omega
         have gf:BL≤w40.heap.size:=by omega
         have gg:BL≤w16.heap.size:=by omega
         have gh:BL≤w35.heap.size:=by omega
         have gi:BL≤w39.heap.size:=by omega
         have gj:w39.heap.size≤w40.heap.size:=by omega
         refine BI (rI) AQ Bh BA Ac fun v48 w48 ar gk dr=>?_
         have ds:=ar.size
         have dt:=c8.trans ar
         have ad:=a9.ext (o2) ar
         have ae:=aa.ext (o2) ar
         have af:=ab.ext ar
         have bf:=ac.ext (o2) ar
         have ag:=c2.ext (o2) ar
         refine Ae 1 Z (A0 (A0 (Ad _ [0] Z (Ae 1 Z (A5 ?_)))))
         refine AN (S:=Nat×Value) (fun⟨i,vr⟩=>([(19,vr),(20,(.int .i64 ((i:Nat):Int))),(1,(.int .i64 f)),(3,vd),(4,(.int .i64 order)),(5,(.pointer (some ⟨w.heap.size,0,none⟩))),(13,a0),(14,vy),(16,(.int .i64 ((k:Nat):Int))),(17,a2)])) (fun⟨i,vr⟩ W=>Az w W∧Fr (AS rI 2) w40.heap.size W.heap.size W.heap vr ((ZW p f.toNat a d k xs).take i)∧Fr (AS (AS rI 2) 27) w16.heap.size w35.heap.size W.heap vy xs∧Fr (AS (AS rI 2) 27) w7.heap.size BL W.heap a0 (Gi p f.toNat a a.length)∧Fr (AS (AS rI 2) 27) w39.heap.size w40.heap.size W.heap a2 (Dr p (k+1) f.toNat (xs.map (CB (k+1))))∧BX W.heap w.heap.size [vp]∧i≤a.length∧w.heap.size<w40.heap.size∧w40.heap.size≤W.heap.size) (fun⟨i,vr⟩=>a.length-i) (0,v48) ⟨rfl,rfl,rfl,rfl,rfl,rfl,rfl,rfl,rfl,rfl,trivial⟩ ⟨dt,dr.up o1,ad,ae,ag,af,oM,oM,oM⟩ ?_
         clear b0 c1 al am b1 a7 a8 a3 c2 aq a9 aa ab ac dr gk ar ds dt ad ae af bf ag
         rintro⟨i,vr⟩ ρ50 w50 ⟨c3,an,ao,a4,a1,a5,gl,j1,j2⟩
         have j3:w.heap.size≤w50.heap.size:=c3.size
         have jv:=a5.lt
         refine A0 (A0 (Ad _ [0,0,0,0] Z (Af 2 Z (AJ (v:=a2) Bi Z a1.isSl Ac ?_))))
         by_cases du:((i:Nat):Int)<(((Dr p (k+1) f.toNat (xs.map (CB (k+1)))).length:Nat):Int)
         ·refine Ax true Z Z (A7 du) Ac (Ah (Ai Z (A4 (A0 (A5 (A0 (Ad _ [0] Z ?_)))))))
          have hoi:=hso.2.1 i oM
          have jw:=hoi.1
          have jx:=Ba hoi.2 k
          have hdi:=Ba hIp.dn i
          refine Ae 1 Z (A0 (A0 (Ad _ [0,0] Z (Af 1 Z ?_))))
          by_cases dv:((k:Nat):Int)=((1:Nat):Int)
          ·refine AA true Z Z (A7 dv) Ac (Ah (Ai Z (Ad _ [0,0,0,2,0] Z (Af 2 Z (Au (v:=vd) i Bh BA Z Z hd.isSl Z C0 Ac ?_)))))
           refine Ak (p:=Aw vd i 1) (.inr Z) (.int .i64 (d.getD i 0)) AH Z (AP c3 (hd.getI C0).1) Ac (Ae 1 Z (Ad _ [0,0,0,0,0,2,0,0,2,0,3,4,0] Z (Af 4 Z ?_)))
           refine Au (v:=a2) i Bi AX Z Z a1.isSl Z C0 Ac ?_
           obtain⟨cy,dw,c9⟩:=a1.rd2.get (k:=i) [] C0
           have j4:=c9.lenle
           refine Ak (p:=Aw a2 i 1) (.inr Z) cy B6 Z dw Ac (Af 1 Z (Au (v:=cy) k Bh BA Z Z c9.isSl Z C0 Ac ?_))
           refine Ak (p:=Aw cy k 1) (.inr Z) (.int .i64 (((Dr p (k+1) f.toNat (xs.map (CB (k+1)))).getD i []).getD k 0)) AH Z (c9.getI C0).1 Ac ?_
           refine AD 124 [] [] [(.int .i64 (d.getD i 0)),(.int .i64 (((Dr p (k+1) f.toNat (xs.map (CB (k+1)))).getD i []).getD k 0))] Z Z SE Ac (.int .i64 (md ((d.getD i 0)-(((Dr p (k+1) f.toNat (xs.map (CB (k+1)))).getD i []).getD k 0)))) (fun wq=>E3 wq _ _ (hd.getI C0).2 (c9.getI C0).2 C0) ?_
           refine Bq (u:=(.int .i64 (md ((d.getD i 0)-(((Dr p (k+1) f.toNat (xs.map (CB (k+1)))).getD i []).getD k 0))))) (B:=w50.heap.size) AQ Bh BA Z Z (N6 w50.heap.size w50.heap.size _ _ (Dt _)) (A9 _) Ac fun v57 w57 au jy dx=>?_
           have j5:=au.size
           have dy:=c3.trans au
           have bg:=an.ext (o1) au
           have bh:=ao.ext (o2) au
           have bi:=a4.ext (o2) au
           have bj:=a1.ext (o2) au
           have bk:=a5.ext au
           have j6:=AP au dw
           refine GA (v:=vr) (a:=v57) Bh BA Z Z Z bg oM dx.rd1 C0 XN Ac fun v59 w59 F59 b2 bl gm=>?_
           have gn:Az w w59:=b2.below dy (fun c hc=>Aa c8.size (bl c hc).1) dy.size
           have j7:w57.heap.size≤w59.heap.size:=b2.size
           have go:=bh.chg (o2) b2 (fun c hc=>by have:=bl c hc;omega)
           have gp:=bi.chg (o2) b2 (fun c hc=>by have:=bl c hc;omega)
           have gq:=bj.chg (o2) b2 (fun c hc=>by have:=bl c hc;omega)
           have gr:=bk.chg b2 (fun hm=>by have:=bl _ hm;omega)
           have jz:=dx.chg (o1) b2 (fun c hc=>by have:=bl c hc;omega)
           refine Ae 1 Z (Ad _ [0,0,0] Z (Af 1 Z (AI ((i+1:Nat):Int) Z Z (B8 oM C0) Ac (Ae 1 Z ?_))))
           exact⟨((i+1),v59),_,rfl,⟨rfl,rfl,rfl,rfl,rfl,rfl,rfl,rfl,rfl,rfl,trivial⟩,⟨gn,(by rw[Cr 0 (by rw[EX];omega),X1 oM];have h:=gm.up o1;first|(rw[if_pos oM];exact h)|(rw[if_neg oM];exact h)),go,gp,gq,gr,oM,oM,oM⟩,by first|omega|(dsimp only;omega)⟩
          ·refine AA false Z Z (A8 dv) Ac (Ah (Aj Z (A4 (Ad _ [0,0,0,0,0,2,0,0,2,0,3,4,0] Z (Af 4 Z (Au (v:=a2) i Bi AX Z Z a1.isSl Z C0 Ac ?_))))))
           obtain⟨cz,dz,ca⟩:=a1.rd2.get (k:=i) [] C0
           have j8:=ca.lenle
           refine Ak (p:=Aw a2 i 1) (.inr Z) cz B6 Z dz Ac (Af 1 Z (Au (v:=cz) k Bh BA Z Z ca.isSl Z C0 Ac ?_))
           refine Ak (p:=Aw cz k 1) (.inr Z) (.int .i64 (((Dr p (k+1) f.toNat (xs.map (CB (k+1)))).getD i []).getD k 0)) AH Z (ca.getI C0).1 Ac ?_
           refine AD 124 [] [] [(.int .i64 ((0:Nat):Int)),(.int .i64 (((Dr p (k+1) f.toNat (xs.map (CB (k+1)))).getD i []).getD k 0))] Z Z SE Ac (.int .i64 (md (((0:Nat):Int)-(((Dr p (k+1) f.toNat (xs.map (CB (k+1)))).getD i []).getD k 0)))) (fun wq=>E3 wq _ _ oM (ca.getI C0).2 C0) ?_
           refine Bq (u:=(.int .i64 (md (((0:Nat):Int)-(((Dr p (k+1) f.toNat (xs.map (CB (k+1)))).getD i []).getD k 0))))) (B:=w50.heap.size) AQ Bh BA Z Z (N6 w50.heap.size w50.heap.size _ _ (Dt _)) (A9 _) Ac fun v67 w67 av k0 e0=>?_
           have j9:=av.size
           have e1:=c3.trans av
           have bm:=an.ext (o1) av
           have bn:=ao.ext (o2) av
           have bo:=a4.ext (o2) av
           have bp:=a1.ext (o2) av
           have bq:=a5.ext av
           have ja:=AP av dz
           refine GA (v:=vr) (a:=v67) Bh BA Z Z Z bm oM e0.rd1 C0 XN Ac fun v69 w69 F69 b3 br gs=>?_
           have gt:Az w w69:=b3.below e1 (fun c hc=>Aa c8.size (br c hc).1) e1.size
           have jb:w67.heap.size≤w69.heap.size:=b3.size
           have gu:=bn.chg (o2) b3 (fun c hc=>by have:=br c hc;omega)
           have gv:=bo.chg (o2) b3 (fun c hc=>by have:=br c hc;omega)
           have gw:=bp.chg (o2) b3 (fun c hc=>by have:=br c hc;omega)
           have gx:=bq.chg b3 (fun hm=>by have:=br _ hm;omega)
           have k1:=e0.chg (o1) b3 (fun c hc=>by have:=br c hc;omega)
           refine Ae 1 Z (Ad _ [0,0,0] Z (Af 1 Z (AI ((i+1:Nat):Int) Z Z (B8 oM C0) Ac (Ae 1 Z ?_))))
           exact⟨((i+1),v69),_,rfl,⟨rfl,rfl,rfl,rfl,rfl,rfl,rfl,rfl,rfl,rfl,trivial⟩,⟨gt,(by rw[Cr 0 (by rw[EX];omega),X1 oM];have h:=gs.up o1;first|(rw[if_pos oM];exact h)|(rw[if_neg oM];exact h)),gu,gv,gw,gx,oM,oM,oM⟩,by first|omega|(dsimp only;omega)⟩
         ·refine Ax false Z Z (A8 du) Ac (Ah (Aj Z (A6 (As (As (An (A0 (Ad _ [0,0,3,0] Z ?_))))))))
          have e3:Fr (AS rI 2) w40.heap.size w50.heap.size w50.heap vr ((ZW p f.toNat a d k xs)):=by have h:=an;rw[List.take_of_length_le (by rw[EX];omega)]at h;exact h
          have hhk:=eA hIp hrc hdt (b:=(ZW p f.toNat a d k xs)) OR
          refine Af 2 Z (Ap 125 [] [] [a0,vr] Z Z fW Ac (L9 _ _ _ _ _ a4.rd2 e3.rd1 (by exact hhk.1) oM (by rw[EX];omega) (by exact OR) (by exact hhk.2.2)) ?_)
          rintro e76 w76 ⟨aw,rfl,ax,c4⟩
          refine⟨_,rfl,ax,?_⟩
          have jc:=ax.size
          have gy:=c3.trans ax
          have ah:=ao.ext (o2) ax
          have ai:=a4.ext (o2) ax
          have bs:=a1.ext (o2) ax
          have aj:=a5.ext ax
          refine Ae 1 Z (A0 (Ad _ [0] Z ?_))
          have hnw:(XR p f.toNat a d k xs).length=a.length:=by rw[dY,M0 hhk.1 OR hhk.2.2];exact hhk.2.1
          have e4:Fr (AS rI 2) w50.heap.size w76.heap.size w76.heap aw (XR p f.toNat a d k xs):=by exact c4
          have gz:w50.heap.size≤w76.heap.size:=by omega
          have i0:w35.heap.size≤w76.heap.size:=by omega
          have i1:w35.heap.size≤w40.heap.size:=by omega
          have i2:w35.heap.size≤w39.heap.size:=by omega
          have i3:w35.heap.size≤w50.heap.size:=by omega
          have i4:BL≤w76.heap.size:=by omega
          have i5:BL≤w40.heap.size:=by omega
          have i6:BL≤w16.heap.size:=by omega
          have i7:BL≤w39.heap.size:=by omega
          have i8:BL≤w50.heap.size:=by omega
          have i9:w40.heap.size≤w76.heap.size:=by omega
          have ia:w40.heap.size≤w50.heap.size:=by omega
          refine Ae 1 Z (A5 (AN (S:=Nat) (fun i=>([(23,(.int .i64 ((i:Nat):Int))),(1,(.int .i64 f)),(3,vd),(4,(.int .i64 order)),(5,(.pointer (some ⟨w.heap.size,0,none⟩))),(13,a0),(14,vy),(16,(.int .i64 ((k:Nat):Int))),(22,aw)])) (fun i W=>Az w W∧Fr (AS (AS rI 2) 27) w16.heap.size w35.heap.size W.heap vy (Cn i (K9 p f.toNat a d order.toNat k) xs)∧Fr (AS (AS rI 2) 27) w7.heap.size BL W.heap a0 (Gi p f.toNat a a.length)∧Fr (AS rI 2) w50.heap.size w76.heap.size W.heap aw (XR p f.toNat a d k xs)∧BX W.heap w.heap.size [vp]∧i≤a.length∧w16.heap.size≤W.heap.size) (fun i=>a.length-i) 0 ⟨rfl,rfl,rfl,rfl,rfl,rfl,rfl,rfl,rfl,trivial⟩ ⟨gy,(by rw[C9];exact ah),ai,e4,aj,oM,oM⟩ ?_))
          clear dm cx dq c8 a5 a1 a4 ao an c4 ax ah ai bs aj
          rintro i ρ90 w90 ⟨cb,a6,c5,ap,b4,ib,jd⟩
          have je:w.heap.size≤w90.heap.size:=cb.size
          have hml:(Cn i (K9 p f.toNat a d order.toNat k) xs).length=xs.length:=D4 i _ xs (by rw[hsel];unfold K9;rw[Iu,List.length_map])
          have k2:=b4.lt
          refine A0 (A0 (Ad _ [0,0,0,0] Z (Af 2 Z (AJ (v:=vy) Bi Z a6.isSl Ac ?_))))
          by_cases e6:((i:Nat):Int)<(((Cn i (K9 p f.toNat a d order.toNat k) xs).length:Nat):Int)
          ·refine Ax true Z Z (A7 e6) Ac (Ah (Ai Z (A4 (A0 (A5 (AY _ [0,0,0,1,0,0,0,0,1,0,4] mixed (by kernel_rfl) ?_))))))
           have hrw:(Cn i (K9 p f.toNat a d order.toNat k) xs).getD i []=xs.getD i []:=by rw[hyf];exact X0 oM (by rw[List.length_map];omega)
           have hrwl:=congrArg List.length hrw
           have hrl:=(hse.1 i oM).1
           refine Af 2 Z (Au (v:=vy) i Bi AX Z Z a6.isSl Z C0 Ac ?_)
           obtain⟨d0,e8,e9⟩:=a6.rd2.get (k:=i) [] C0
           have jf:=e9.lenle
           refine Ak (p:=Aw vy i 1) (.inl Z) d0 B6 Z e8 Ac (Af 3 Z (Au (v:=aw) i Bh BA Z Z ap.isSl Z C0 Ac ?_))
           refine Ak (p:=Aw aw i 1) (.inl Z) (.int .i64 ((XR p f.toNat a d k xs).getD i 0)) AH Z (ap.rd1.getI C0).1 Ac ?_
           refine Au (v:=d0) k Bh BA Z Z e9.isSl Z C0 Ac ?_
           refine bI (v:=vy) (u:=d0) (w:=w90.drew) ID Z Z (ap.rd1.getI C0).2 a6 C0 e8 C0 Ac fun w95 F95 b5 k3 cc ic=>?_
           replace b5:=b5.of_drew
           have id:Az w w95:=b5.below cb (fun c hc=>Aa b7.size (cc c hc).1) cb.size
           have jg:w90.heap.size≤w95.heap.size:=b5.size
           have ie:=c5.chg (o2) b5 (fun c hc=>by have:=cc c hc;omega)
           have ig:=ap.chg (o1) b5 (fun c hc=>by have:=cc c hc;omega)
           have ih:=b4.chg b5 (fun hm=>by have:=cc _ hm;omega)
           exact Ah (Ad _ [0,0,0] Z (Af 1 Z (AI ((i+1:Nat):Int) Z Z (B8 oM C0) Ac (Ae 1 Z ⟨(i+1),_,rfl,⟨rfl,rfl,rfl,rfl,rfl,rfl,rfl,rfl,rfl,trivial⟩,⟨id,(by have h:=ic;rw[hrw]at h;rw[show Cn (i+1) (K9 p f.toNat a d order.toNat k) xs=_ from dX hyf oM oM];exact h),ie,ig,ih,oM,oM⟩,by first|omega|(dsimp only;omega)⟩))))
          ·refine Ax false Z Z (A8 e6) Ac (Ah (Aj Z (A6 (As (As (An (Ad _ [0,0,0] Z (Af 1 Z (AI ((k+1:Nat):Int) Z Z (B8 oM C0) Ac (Ae 1 Z ?_))))))))))
           exact⟨((k+1),(Cn i (K9 p f.toNat a d order.toNat k) xs)),_,rfl,⟨rfl,rfl,rfl,rfl,rfl,rfl,rfl,trivial⟩,⟨cb,a6.up o2,c5,b4,oM,oM,oM,(by rw[CL (by rw[hsel];unfold K9;rw[Iu,List.length_map]) oM];exact congrArg _ oM),oM,oM⟩,by first|omega|(dsimp only;omega)⟩
        ·refine Ei false Z Z (A8 dk) Ac (Ah (Aj Z (A6 (As (As (An (A0 (Ad _ [0,0,0] Z (Ae 3 Z (A3 ?_))))))))))
         have hcf:=ZV d6 ek hdt
         exact Ag [10,11] Z (.tuple #[vy,(.int .i64 ((0:Nat):Int))]) Z ⟨vy,(by rw[hcf];rfl),cw,(by have h:=(al.up o2).low b7.size;rw[VY hcf];rw[hyf,show k-1=order.toNat from by omega]at h;exact h)⟩
    ·refine Ai (by first|rfl|(show Value.bool _=_;rw[d5])) (Ad _ [0] Z (Ae 1 Z (A0 (A0 (Ad _ [0,0] Z (Af 1 Z (AZ true Z Z (by decide) Ac (Ah (Ai Z (A0 (Ad _ [3,0,0,0] Z (BI (AS rI 2) o1 Bi AX Ac fun v99 w99 ea k4 ii=>?_))))))))))))
     have jh:=ea.size
     have ij:=cp.trans ea
     refine Ae 3 Z (A3 (Aq ?_))
     have cj:IQ p f a d order=2:=O1 oM (by rw[(show Hm order 0 12=false from Gb ‹(!(decide (((0:Nat):Int)≤order) && decide (order≤((12:Nat):Int))))=true›),Bool.and_false])
     have hcf:=K1 (d:=d) (o:=order) (show IQ p f a d order≠0 by rw[cj];decide)
     rw[cj]at hcf
     exact Ag [10,11] Z (.tuple #[v99,(.int .i64 ((2:Nat):Int))]) Z ⟨v99,(by rw[hcf];rfl),ij,(by rw[IR (by rw[hcf];decide)];exact(ii.up o2).low cp.size)⟩
   ·refine Ae 5 Z (Ai Z (Ad _ [0] Z (Ae 1 Z (A0 (A0 (Ad _ [0,0] Z (Af 1 Z (AZ true Z Z (by decide) Ac (Ah (Ai Z (A0 (Ad _ [3,0,0,0] Z (BI (AS rI 2) o1 Bi AX Ac fun v100 w100 ck ji eb=>?_)))))))))))))
    have ik:=ck.size
    have ec:=cp.trans ck
    refine Ae 3 Z (A3 (Aq ?_))
    have cj:IQ p f a d order=2:=O1 oM (by rw[(Gb ‹(!(decide (((d.length:Nat):Int)=(p.getD f.toNat Fn.zero).params) && B7 d))=true›),Bool.and_false,Bool.false_and])
    have hcf:=K1 (d:=d) (o:=order) (show IQ p f a d order≠0 by rw[cj];decide)
    rw[cj]at hcf
    exact Ag [10,11] Z (.tuple #[v100,(.int .i64 ((2:Nat):Int))]) Z ⟨v100,(by rw[hcf];rfl),ec,(by rw[IR (by rw[hcf];decide)];exact(eb.up o2).low cp.size)⟩
  ·refine Ae 16 Z (Ai Z (Ad _ [0] Z (Ae 1 Z (A0 (A0 (Ad _ [0,0] Z (Af 1 Z (AZ true Z Z (by decide) Ac (Ah (Ai Z (A0 (Ad _ [3,0,0,0] Z (BI (AS rI 2) o1 Bi AX Ac fun v101 w101 cl jj ed=>?_)))))))))))))
   have il:=cl.size
   have ee:=co.trans cl
   refine Ae 3 Z (A3 (Aq ?_))
   have cj:IQ p f a d order=2:=O1 oM (by rw[(Gb ‹(!(decide (((a.length:Nat):Int)=(p.getD f.toNat Fn.zero).params) && B7 a))=true›),Bool.false_and,Bool.false_and])
   have hcf:=K1 (d:=d) (o:=order) (show IQ p f a d order≠0 by rw[cj];decide)
   rw[cj]at hcf
   exact Ag [10,11] Z (.tuple #[v101,(.int .i64 ((2:Nat):Int))]) Z ⟨v101,(by rw[hcf];rfl),ee,(by rw[IR (by rw[hcf];decide)];exact(ed.up o2).low co.size)⟩
 ·refine AA false Z Z (A8 ip) Ac (Ae 27 Z (Aj Z (A4 (A0 (A0 (Ad _ [0,0] Z (Af 1 Z ?_)))))))
  have ef:HZ p f E8≠((0:Nat):Int):=oM
  refine AZ true Z Z (A7 ef) Ac (Ah (Ai Z (A0 (Ad _ [3,0,0,0] Z (BI (AS rI 2) o1 Bi AX Ac fun v103 w103 cm jk eg=>?_)))))
  have im:=cm.size
  have eh:=cn.trans cm
  refine Ae 3 Z (A3 (Aq ?_))
  have hcn:HZ p f E8≠0:=by omega
  have hkn:=ZT (a:=a) (d:=d) (o:=order) hcn
  have hcf:=K1 (d:=d) (o:=order) (show IQ p f a d order≠0 by rw[hkn];exact hcn)
  rw[hkn]at hcf
  exact Ag [10,11] Z (.tuple #[v103,(.int .i64 (HZ p f E8))]) Z ⟨v103,(by rw[hcf]),eh,(by rw[IR (by rw[hcf];exact hcn)];exact(eg.up o2).low cn.size)⟩
end
section
set_option maxHeartbeats 4000000
set_option maxRecDepth 100000
attribute [local irreducible] LW
theorem TA {a:List (List Int)}{L:Nat}(h1:a.length≤L)(h2:∀k,(a.getD k []).length≤L):J3 a a.length≤L*L:=Aa (Un h2 _ (A9 _)) (Nat.mul_le_mul_right L h1)
theorem eW {a:List (List Int)}(h:a.length≤12∧∀k,(a.getD k []).length≤13):J3 a a.length≤169:=by
  have:=TA (L:=13) (by omega) h.2;omega
theorem Zd {m:Nat}{y:List (List Int)}(h:Bt m y)(hm:m≤13)(hl:y.length≤12):y.length≤12∧∀k,(y.getD k []).length≤13:=by
  refine⟨hl,fun k=>?_⟩
  by_cases hk:k<y.length
  · have:=(h k hk).1;omega
  · rw[List.getD_eq_getElem?_getD,List.getElem?_eq_none (by omega)];simp
theorem Ze:([]:List (List Int)).length≤12∧∀k,(([]:List (List Int)).getD k []).length≤13:=⟨by simp,fun k=>by simp⟩
theorem eX {p:List Fn}{f o:Int}{a d:List Int}:(HJ p f a d o).length≤12∧∀k,((HJ p f a d o).getD k []).length≤13:=by
  by_cases hc:N4 p f a d o=0
  · have hk:IQ p f a d o=0:=by
      by_cases h:IQ p f a d o=0
      · exact h
      · rw[K1 h]at hc;exact absurd hc h
    obtain⟨hI,_,_,ho⟩:=VW hk
    have hb:=hI.b
    have hx0:FG p f.toNat a=0:=by
      by_cases h:FG p f.toNat a=0
      · exact h
      · rw[Q7 hk h]at hc;exact absurd hc h
    have hd:Ed (Gi p f.toNat a a.length)≠0:=fun h=>by rw[VX hk hx0 h]at hc;omega
    obtain⟨xs,T,hr⟩:=VZ hI.v hI.lt hI.l hI.n hx0
    rw[VY hc]
    have hs:=X2 (d:=d) (o:=o.toNat) (k:=o.toNat) hI hr hd (A9 _)
    exact Zd hs.1 (by omega) (by rw[hs.2.1];omega)
  · rw[IR hc];exact Ze
theorem jJ {p:Prop}(h:p:=by intro i hi;rw[Ek]at hi;rw[RH,Ij _ _ _ (Nat.le_of_lt hi),RE hi]):p:=h
theorem K7 {p:Prop}(h:p:=by first|rfl|(exfalso;omega)|simp_all):p:=h
theorem Gp (w:World)(dp:Nat)(vp:Value)(p:List Fn)(f:Int)(va:Value)(a:List Int)(vd:Value)(d:List Int)(o:Int)(hp:RP [] dp w.heap vp p)(_hf:BC f)(ha:Rd (B3 rI) w.heap va a)(hd:Rd (B3 rI) w.heap vd d)(_ho:BC o)(hnm:∀k,k<p.length→(p.getD k Fn.zero).name.size≤9223372036854775807) :
  Calls Tryz.prog 7 #[(.agg #[vp]),.int .i64 f,va,vd,.int .i64 o] w (fun e w'=>e=.returned (.bool true)∧Az w w'):=by
 refine At [(.agg #[vp]),.int .i64 f,va,vd,.int .i64 o] 148 Tryz.func7 Z Z sM ?_
 have o5:Az w w:=Az.refl w
 have hl_vp:=hp.lenle
 unfold maxLen at hl_vp
 have hl_va:=ha.lenle
 have hl_vd:=hd.lenle
 refine A0 (Ad _ [3,0] Z (Bx (cs:=#[vp]) Z Ac fun w1 n7 oo kr=>?_))
 have o6:=n7.size
 have ks:=o5.trans n7
 replace kr:BX w1.heap w.heap.size [vp]:=kr
 refine Ae 1 Z (A0 (A0 (Ad _ [0,0,0] Z (Af 1 Z (AJ (v:=va) Bh Z ha.isSl Ac ?_)))))
 by_cases n8:((1048576:Nat):Int)<((a.length:Nat):Int)
 ·exact C6 true Z Z (A7 n8) Ac (Ah (Ai Z (A0 (Ad _ [0] Z (Ae 1 Z (A3 (Aq (Ag [10] Z (.bool true) Z ⟨K7,ks⟩))))))))
 ·refine C6 false Z Z (A8 n8) Ac (Ah (Aj Z (A4 (A0 (A0 (Ad _ [0,0,0] Z (Af 1 Z (AJ (v:=vd) Bh Z hd.isSl Ac ?_))))))))
  by_cases n9:((1048576:Nat):Int)<((d.length:Nat):Int)
  ·exact C6 true Z Z (A7 n9) Ac (Ah (Ai Z (A0 (Ad _ [0] Z (Ae 1 Z (A3 (Aq (Ag [10] Z (.bool true) Z ⟨K7,ks⟩))))))))
  ·refine C6 false Z Z (A8 n9) Ac (Ah (Aj Z (A4 (A0 (Ad _ [0] Z (Ae 1 Z (A0 (Ad _ [2,0,3,0] Z (AR (p:=(.pointer (some ⟨w.heap.size,0,none⟩))) (.inr Z) [vp] Qd Z (fun wq9 az=>LD.of_box (BX.ext (w:=w1) kr az)) Z Ac (Af 1 Z (Ap 40 [] [] [(.agg #[vp]),(.int .i64 ((1048576:Nat):Int))] Z Z kO Ac (KG _ dp vp (p) _ (hp.ext (Am (AB dp)) ks) oM oM (by exact hnm)) ?_)))))))))))
   rintro e4 w4 ⟨rfl,kt⟩
   refine⟨_,rfl,kt,?_⟩
   have o7:=kt.size
   have l6:=ks.trans kt
   have j4:=kr.ext kt
   refine Ae 1 Z (A0 (A0 (Ad _ [0,0] Z (Af 1 Z ?_))))
   by_cases na:JS (OC p) ((1048576:Nat):Int)<((0:Nat):Int)
   ·exact Ax true Z Z (A7 na) Ac (Ah (Ai Z (A0 (Ad _ [0] Z (Ae 1 Z (A3 (Aq (Ag [10] Z (.bool true) Z ⟨K7,l6⟩))))))))
   ·refine Ax false Z Z (A8 na) Ac (Ah (Aj Z (A4 (A0 (Ad _ [2,3,0,0,3,0,3,0,3,0,0,0,0,0] Z ?_)))))
    have hzv:=Lq (t:=OC p) (x:=((1048576:Nat):Int)) oM
    have o8:OC p≤1048576:=by omega
    have hz:=dH o8
    refine AR (p:=(.pointer (some ⟨w.heap.size,0,none⟩))) (.inr Z) [vp] Qd Z (fun wq9 az=>LD.of_box (BX.ext (w:=w4) j4 az)) Z Ac (Ap 43 [] [] [(.agg #[vp])] Z Z YW Ac (DJ _ dp vp (p) (hp.ext (Am (AB dp)) l6) oM) ?_)
    rintro e6 w6 ⟨v6,rfl,ku,o9⟩
    refine⟨_,rfl,ku,?_⟩
    have oa:=ku.size
    have nb:=l6.trans ku
    have jt:=j4.ext ku
    refine Af 2 Z (Ap 49 [] [] [va] Z Z Q9 Ac (Cd _ _ _ (ha.ext g1 nb) oM) ?_)
    rintro e7 w7 ⟨l7,rfl,ju,jv⟩
    refine⟨_,rfl,ju,?_⟩
    have ob:=ju.size
    have nc:=nb.trans ju
    have jw:=jt.ext ju
    have jx:=o9.ext ((Av (AK 174 dp))) ju
    refine Af 1 Z (Ap 49 [] [] [vd] Z Z Q9 Ac (Cd _ _ _ (hd.ext g1 nc) oM) ?_)
    rintro e8 w8 ⟨l8,rfl,js,j5⟩
    refine⟨_,rfl,js,?_⟩
    have oc:=js.size
    have od:=nc.trans js
    have jy:=jw.ext js
    have j6:=jx.ext ((Av (AK 174 dp))) js
    have b0:=jv.ext (o1) js
    refine Af 1 Z (Ap 48 [] [] [(.agg #[v6]),(.int .i64 f),l7,l8,(.int .i64 o)] Z Z kQ Ac (Jq _ dp v6 (p) _ _ _ _ _ _ (RN.of_frF j6 (fun b hb=>by cases hb)) _hf b0.rd1 j5.rd1 _ho (by exact hz)) ?_)
    rintro e9 w9 ⟨be,rfl,j8,jz⟩
    refine⟨_,rfl,j8,?_⟩
    have oe:=j8.size
    have nd:=od.trans j8
    have j7:=jy.ext j8
    have k0:=j6.ext ((Av (AK 174 dp))) j8
    have ch:=b0.ext (o1) j8
    have ci:=j5.ext (o1) j8
    refine Af 1 Z (B2 (vs:=[be,(.int .i64 (N4 p f a d o))]) be Z Z Ac (B2 (vs:=[be,(.int .i64 (N4 p f a d o))]) (.int .i64 (N4 p f a d o)) Z Z Ac (Ae 2 Z (A0 (Ad _ [2,3,3,4] Z (AR (p:=(.pointer (some ⟨w.heap.size,0,none⟩))) (.inr Z) [vp] Qd Z (fun wq9 az=>LD.of_box (BX.ext (w:=w9) j7 az)) Z Ac (Ap 43 [] [] [(.agg #[vp])] Z Z YW Ac (DJ _ dp vp (p) (hp.ext (Am (AB dp)) nd) oM) ?_)))))))
    rintro e10 w10 ⟨v10,rfl,aw,l9⟩
    refine⟨_,rfl,aw,?_⟩
    have ne:=aw.size
    have la:=nd.trans aw
    have c6:=j7.ext aw
    have j9:=k0.ext ((Av (AK 174 dp))) aw
    have c7:=ch.ext (o1) aw
    have c8:=ci.ext (o1) aw
    have c9:=jz.ext (o2) aw
    have og:=c6.lt
    refine BJ (z:=.agg #[.slice none 0 0]) eN Ac fun w11 ax oh ja=>?_
    have nf:=ax.size
    have k1:=la.trans ax
    have jb:=c6.ext ax
    have jc:=j9.ext ((Av (AK 174 dp))) ax
    have ca:=c7.ext (o1) ax
    have cb:=c8.ext (o1) ax
    have cc:=c9.ext (o2) ax
    have b1:=l9.ext ((Av (AK 174 dp))) ax
    replace ja:BX w11.heap w10.heap.size [(.slice none 0 0)]:=ja
    refine CT (vs:=[v10]) EB Z Z (by intro u hu;simp only[List.mem_cons,List.not_mem_nil,or_false]at hu;rcases hu with rfl <;> first|exact⟨rfl,rfl⟩|exact BQ b1.isSlS) ja Z Z Ac fun w13 ay oi jd=>?_
    replace jd:BX w13.heap w10.heap.size [v10]:=jd
    have je:Az w w13:=ay.below k1 (fun c hc=>by have:=Ab hc;omega) k1.size
    have ng:w11.heap.size≤w13.heap.size:=ay.size
    have lb:=jb.chg ay (fun hm=>by have:=Ab hm;omega)
    have lc:=jc.chg ((Av (AK 174 dp))) ay (fun c hc=>by have:=Ab hc;omega)
    have ld:=ca.chg (o1) ay (fun c hc=>by have:=Ab hc;omega)
    have le:=cb.chg (o1) ay (fun c hc=>by have:=Ab hc;omega)
    have lf:=cc.chg (o2) ay (fun c hc=>by have:=Ab hc;omega)
    have lg:=b1.chg ((Av (AK 174 dp))) ay (fun c hc=>by have:=Ab hc;omega)
    refine Ah (A0 (Ad _ [0,3,0] Z (Af 1 Z (Ap 49 [] [] [va] Z Z Q9 Ac (Cd _ _ _ (ha.ext g1 je) oM) ?_))))
    rintro e20 w20 ⟨b2,rfl,aq,jf⟩
    refine⟨_,rfl,aq,?_⟩
    have nh:=aq.size
    have jg:=je.trans aq
    have cj:=lb.ext aq
    have ck:=lc.ext ((Av (AK 174 dp))) aq
    have cl:=ld.ext (o1) aq
    have cm:=le.ext (o1) aq
    have cn:=lf.ext (o2) aq
    have co:=lg.ext ((Av (AK 174 dp))) aq
    have cp:=jd.ext aq
    refine Ae 1 Z (A0 (Ad _ [0,3,0] Z (Af 1 Z (Ap 49 [] [] [vd] Z Z Q9 Ac (Cd _ _ _ (hd.ext g1 jg) oM) ?_))))
    rintro e21 w21 ⟨b3,rfl,am,cd⟩
    refine⟨_,rfl,am,?_⟩
    have ni:=am.size
    have k2:=jg.trans am
    have cq:=cj.ext am
    have cr:=ck.ext ((Av (AK 174 dp))) am
    have ct:=cl.ext (o1) am
    have cu:=cm.ext (o1) am
    have cv:=cn.ext (o2) am
    have b4:=co.ext ((Av (AK 174 dp))) am
    have b5:=cp.ext am
    have ar:=jf.ext (o1) am
    refine Ae 1 Z (A0 (Ad _ [2,0,0,0,0,3,0,0,0,0,0] Z (AR (p:=(.pointer (some ⟨w10.heap.size,0,none⟩))) (.inr Z) [v10] EB Z (fun wq9 az=>LD.of_box (BX.ext (w:=w21) b5 az)) Z Ac (Af 4 Z (Ap 50 [] [] [(.agg #[v10]),(.int .i64 f),b2,b3,(.int .i64 o)] Z Z fL Ac (Gf _ dp v10 (p) _ _ _ _ _ _ (RN.of_frF b4 (fun b hb=>by cases hb)) _hf ar.rd1 cd.rd1 _ho (by exact hz)) ?_)))))
    rintro e22 w22 ⟨ab,rfl,al,ce⟩
    refine⟨_,rfl,al,?_⟩
    have nj:=al.size
    have lh:=k2.trans al
    have cw:=cq.ext al
    have cx:=cr.ext ((Av (AK 174 dp))) al
    have cy:=ct.ext (o1) al
    have cz:=cu.ext (o1) al
    have b6:=cv.ext (o2) al
    have d0:=b4.ext ((Av (AK 174 dp))) al
    have d1:=b5.ext al
    have bf:=ar.ext (o1) al
    have bg:=cd.ext (o1) al
    refine Af 1 Z (B2 (vs:=[ab,(.int .i64 (N4 p f a d o))]) ab Z Z Ac (B2 (vs:=[ab,(.int .i64 (N4 p f a d o))]) (.int .i64 (N4 p f a d o)) Z Z Ac (Ae 2 Z (A0 (A0 (Ad _ [0,0,3,0,0,0,0,0,0] Z (Af 2 Z (Ap 47 [] [] [ab,be] Z Z eB Ac (EK _ _ _ _ _ ce.rd2 b6.rd2) ?_))))))))
    rintro e23 w23 ⟨rfl,ag⟩
    refine⟨_,rfl,ag,?_⟩
    have nk:=ag.size
    have jh:=lh.trans ag
    have b7:=cw.ext ag
    have d2:=cx.ext ((Av (AK 174 dp))) ag
    have d3:=cy.ext (o1) ag
    have d4:=cz.ext (o1) ag
    have d5:=b6.ext (o2) ag
    have d6:=d0.ext ((Av (AK 174 dp))) ag
    have b8:=d1.ext ag
    have bh:=bf.ext (o1) ag
    have bi:=bg.ext (o1) ag
    have bj:=ce.ext (o2) ag
    refine Bn (!(decide ((HJ p f a d o)=(HJ p f a d o)))) Z Z Ac (Af 1 Z ?_)
    cases oj:(!(decide ((HJ p f a d o)=(HJ p f a d o))))
    ·refine Af 2 Z (AZ false Z Z sM (Al (e:=66) Z Z Z) (Ae 1 Z (Aj Z (A4 (A0 (A0 (AY _ [1,1,3,3,0] mixed (by kernel_rfl) (AR (p:=(.pointer (some ⟨w10.heap.size,0,none⟩))) (.inl Z) [v10] EB Z (fun wq9 az=>LD.of_box (BX.ext (w:=w23.drew) b8 az)) Z Ac (AR (p:=(.pointer (some ⟨w.heap.size,0,none⟩))) (.inl Z) [vp] Qd Z (fun wq9 az=>LD.of_box (BX.ext (w:=w23.drew) b7 az)) Z Ac (Ap 43 [] [] [(.agg #[vp])] Z Z YW Ac (DJ _ dp vp (p) (hp.ext (Am (AB dp)) jh.drew) oM) ?_))))))))))
     rintro e25 w25 ⟨v25,rfl,a3,d7⟩
     refine⟨_,rfl,a3,?_⟩
     replace a3:=a3.of_drew
     have nl:=a3.size
     have li:=jh.trans a3
     have d8:=b7.ext a3
     have d9:=d2.ext ((Av (AK 174 dp))) a3
     have da:=d3.ext (o1) a3
     have db:=d4.ext (o1) a3
     have dc:=d5.ext (o2) a3
     have b9:=d6.ext ((Av (AK 174 dp))) a3
     have dd:=b8.ext a3
     have bk:=bh.ext (o1) a3
     have bl:=bi.ext (o1) a3
     have bm:=bj.ext (o2) a3
     replace d7:=d7.low (B':=w23.heap.size) (A9 _)
     refine Ap 46 [] [] [(.agg #[v10]),(.agg #[v25])] Z Z kP Ac (KH _ dp v10 (p) dp v25 (p) (RN.of_frF b9 (fun b hb=>by cases hb)) (RN.of_frF d7 (fun b hb=>by cases hb)) (by rfl)) ?_
     rintro e26 w26 ⟨rfl,ac⟩
     refine⟨_,rfl,ac,?_⟩
     have nm:=ac.size
     have k3:=li.trans ac
     have de:=d8.ext ac
     have df:=d9.ext ((Av (AK 174 dp))) ac
     have dg:=da.ext (o1) ac
     have dh:=db.ext (o1) ac
     have di:=dc.ext (o2) ac
     have dj:=b9.ext ((Av (AK 174 dp))) ac
     have dk:=dd.ext ac
     have bn:=bk.ext (o1) ac
     have bo:=bl.ext (o1) ac
     have bp:=bm.ext (o2) ac
     have dl:=d7.ext ((Av (AK 174 dp))) ac
     refine Bn false Z Z Ac (Ah (Aj Z (A4 (A0 (A0 (Ad _ [0,0,3,3,0] Z (Af 2 Z (Ap 49 [] [] [va] Z Z Q9 Ac (Cd _ _ _ (ha.ext g1 k3) oM) ?_))))))))
     rintro e27 w27 ⟨k4,rfl,ad,cf⟩
     refine⟨_,rfl,ad,?_⟩
     have nn:=ad.size
     have lj:=k3.trans ad
     have dm:=de.ext ad
     have dn:=df.ext ((Av (AK 174 dp))) ad
     have dq:=dg.ext (o1) ad
     have dr:=dh.ext (o1) ad
     have ds:=di.ext (o2) ad
     have dt:=dj.ext ((Av (AK 174 dp))) ad
     have du:=dk.ext ad
     have au:=bn.ext (o1) ad
     have bq:=bo.ext (o1) ad
     have br:=bp.ext (o2) ad
     have dv:=dl.ext ((Av (AK 174 dp))) ad
     refine Ap 51 [] [] [b2,k4] Z Z eC Ac (Fu _ _ _ _ _ au.rd1 cf.rd1) ?_
     rintro e28 w28 ⟨rfl,a4⟩
     refine⟨_,rfl,a4,?_⟩
     have no:=a4.size
     have ji:=lj.trans a4
     have dw:=dm.ext a4
     have dx:=dn.ext ((Av (AK 174 dp))) a4
     have dy:=dq.ext (o1) a4
     have dz:=dr.ext (o1) a4
     have e0:=ds.ext (o2) a4
     have e1:=dt.ext ((Av (AK 174 dp))) a4
     have e2:=du.ext a4
     have bs:=au.ext (o1) a4
     have bt:=bq.ext (o1) a4
     have bu:=br.ext (o2) a4
     have e3:=dv.ext ((Av (AK 174 dp))) a4
     have bv:=cf.ext (o1) a4
     refine Bn (!(decide (a=a))) Z Z Ac (Ah ?_)
     cases k5:(!(decide (a=a)))
     ·refine Aj (by first|rfl|(show Value.bool _=_;rw[k5])) (A4 (A0 (A0 (Ad _ [0,0,3,3,0] Z (Af 2 Z (Ap 49 [] [] [vd] Z Z Q9 Ac (Cd _ _ _ (hd.ext g1 ji) oM) ?_))))))
      rintro e30 w30 ⟨k6,rfl,a5,cg⟩
      refine⟨_,rfl,a5,?_⟩
      have np:=a5.size
      have lk:=ji.trans a5
      have e5:=dw.ext a5
      have ea:=dx.ext ((Av (AK 174 dp))) a5
      have eb:=dy.ext (o1) a5
      have ec:=dz.ext (o1) a5
      have ed:=e0.ext (o2) a5
      have ee:=e1.ext ((Av (AK 174 dp))) a5
      have ef:=e2.ext a5
      have bw:=bs.ext (o1) a5
      have av:=bt.ext (o1) a5
      have bx:=bu.ext (o2) a5
      have eg:=e3.ext ((Av (AK 174 dp))) a5
      have bz:=bv.ext (o1) a5
      refine Ap 51 [] [] [b3,k6] Z Z eC Ac (Fu _ _ _ _ _ av.rd1 cg.rd1) ?_
      rintro e31 w31 ⟨rfl,a1⟩
      refine⟨_,rfl,a1,?_⟩
      have nq:=a1.size
      have jj:=lk.trans a1
      have eh:=e5.ext a1
      have ei:=ea.ext ((Av (AK 174 dp))) a1
      have ej:=eb.ext (o1) a1
      have ek:=ec.ext (o1) a1
      have el:=ed.ext (o2) a1
      have em:=ee.ext ((Av (AK 174 dp))) a1
      have ba:=ef.ext a1
      have c0:=bw.ext (o1) a1
      have c1:=av.ext (o1) a1
      have c2:=bx.ext (o2) a1
      have en:=eg.ext ((Av (AK 174 dp))) a1
      have c3:=bz.ext (o1) a1
      have c4:=cg.ext (o1) a1
      refine Bn (!(decide (d=d))) Z Z Ac (Ah ?_)
      cases k7:(!(decide (d=d)))
      ·refine Aj (by first|rfl|(show Value.bool _=_;rw[k7])) (A4 (A0 (Ad _ [0] Z ?_)))
       have hlt:=eW (eX (p:=p) (f:=f) (o:=o) (a:=a) (d:=d))
       refine Ae 1 Z (A0 (Ad _ [2,0,4,0] Z (AR (p:=(.pointer (some ⟨w10.heap.size,0,none⟩))) (.inr Z) [v10] EB Z (fun wq9 az=>LD.of_box (BX.ext (w:=w31) ba az)) Z Ac (Af 1 Z ?_))))
       obtain⟨F33,ll,lm,ah⟩:=em
       refine B1 52 [] [] [(.agg #[v10]),(.int .i64 ((1:Nat):Int))] Z Z kR Ac (Jf _ dp v10 p F33 (((1:Nat):Int)) (ll.imp fun h=>fb _ h) lm oM oM) ?_
       rintro e33 w33 ⟨k33,rfl,ae,ok,ol⟩
       refine⟨_,rfl,?_⟩
       have k8:Az w w33:=ae.below jj (fun c hc=>Aa oM (ah c hc).1) jj.size
       have nr:w31.heap.size≤w33.heap.size:=ae.size
       have ln:=eh.chg ae (fun hm=>by have:=ah _ hm;omega)
       have lo:=ei.chg ((Av (AK 174 dp))) ae (fun c hc=>by have:=ah c hc;omega)
       have lp:=ej.chg (o1) ae (fun c hc=>by have:=ah c hc;omega)
       have lq:=ek.chg (o1) ae (fun c hc=>by have:=ah c hc;omega)
       have lr:=el.chg (o2) ae (fun c hc=>by have:=ah c hc;omega)
       have ls:=ba.chg ae (fun hm=>by have:=ah _ hm;omega)
       have lu:=c0.chg (o1) ae (fun c hc=>by have:=ah c hc;omega)
       have lv:=c1.chg (o1) ae (fun c hc=>by have:=ah c hc;omega)
       have lw:=c2.chg (o2) ae (fun c hc=>by have:=ah c hc;omega)
       have lx:=en.chg ((Av (AK 174 dp))) ae (fun c hc=>by have:=ah c hc;omega)
       have ly:=c3.chg (o1) ae (fun c hc=>by have:=ah c hc;omega)
       have lz:=c4.chg (o1) ae (fun c hc=>by have:=ah c hc;omega)
       refine Ae 1 Z (A0 (Ad _ [0,0,4,0] Z (Af 2 Z ?_)))
       obtain⟨G46,m0,k9,jk⟩:=lu
       refine B1 53 [] [] [b2,(.int .i64 k33)] Z Z eD Ac (Es _ _ _ _ _ m0 k9 oM oM) ?_
       rintro e46 w46 ⟨rfl,ai,m1⟩
       refine⟨_,rfl,?_⟩
       have ka:Az w w46:=ai.below k8 (fun b hb=>Aa je.size (jk b hb).1) k8.size
       have an:=jk
       have m2:Fr (AS rI 2) w13.heap.size w20.heap.size w46.heap b2 _:=⟨G46,m1,k9,jk⟩
       have ns:w33.heap.size≤w46.heap.size:=ai.size
       have m3:=ln.chg ai (fun hm=>by have:=an _ hm;omega)
       have m4:=lo.chg ((Av (AK 174 dp))) ai (fun c hc=>by have:=an c hc;omega)
       have m5:=lp.chg (o1) ai (fun c hc=>by have:=an c hc;omega)
       have m6:=lq.chg (o1) ai (fun c hc=>by have:=an c hc;omega)
       have m7:=lr.chg (o2) ai (fun c hc=>by have:=an c hc;omega)
       have m8:=ls.chg ai (fun hm=>by have:=an _ hm;omega)
       have m9:=lv.chg (o1) ai (fun c hc=>by have:=an c hc;omega)
       have ma:=lw.chg (o2) ai (fun c hc=>by have:=an c hc;omega)
       have mb:=lx.chg ((Av (AK 174 dp))) ai (fun c hc=>by have:=an c hc;omega)
       have mc:=ly.chg (o1) ai (fun c hc=>by have:=an c hc;omega)
       have md:=lz.chg (o1) ai (fun c hc=>by have:=an c hc;omega)
       refine Ae 1 Z (A0 (Ad _ [0,0,4,0] Z (Af 2 Z ?_)))
       obtain⟨G58,me,kb,jl⟩:=m9
       refine B1 53 [] [] [b3,(.int .i64 (k33+((a.length:Nat):Int)))] Z Z eD Ac (Es _ _ _ _ _ me kb oM oM) ?_
       rintro e58 w58 ⟨rfl,aj,mf⟩
       refine⟨_,rfl,?_⟩
       have kc:Az w w58:=aj.below ka (fun b hb=>Aa jg.size (jl b hb).1) ka.size
       have ao:=jl
       have mg:Fr (AS rI 2) w20.heap.size w21.heap.size w58.heap b3 _:=⟨G58,mf,kb,jl⟩
       have nt:w46.heap.size≤w58.heap.size:=aj.size
       have mh:=m3.chg aj (fun hm=>by have:=ao _ hm;omega)
       have mi:=m4.chg ((Av (AK 174 dp))) aj (fun c hc=>by have:=ao c hc;omega)
       have mj:=m5.chg (o1) aj (fun c hc=>by have:=ao c hc;omega)
       have mk:=m6.chg (o1) aj (fun c hc=>by have:=ao c hc;omega)
       have kd:=m7.chg (o2) aj (fun c hc=>by have:=ao c hc;omega)
       have ml:=m8.chg aj (fun hm=>by have:=ao _ hm;omega)
       have mm:=m2.chg (o1) aj (fun c hc=>by have:=ao c hc;omega)
       have ke:=ma.chg (o2) aj (fun c hc=>by have:=ao c hc;omega)
       have mn:=mb.chg ((Av (AK 174 dp))) aj (fun c hc=>by have:=ao c hc;omega)
       have mo:=mc.chg (o1) aj (fun c hc=>by have:=ao c hc;omega)
       have mp:=md.chg (o1) aj (fun c hc=>by have:=ao c hc;omega)
       refine Ae 1 Z (A0 (A0 (Ad _ [0,0,0,0,0,3,0,0,0,0,0,0,0] Z (Af 1 Z ?_))))
       by_cases kf:(k33+((a.length:Nat):Int))+((d.length:Nat):Int)<((0:Nat):Int)
       ·exact Ax true Z Z (A7 kf) Ac (Ae 11 Z (Ai Z (A0 (Ad _ [0] Z (Ae 1 Z (A3 (Aq (Ag [10] Z (.bool false) Z ⟨K7,kc⟩))))))))
       ·refine Ax false Z Z (A8 kf) Ac (Af 3 Z (Ap 47 [] [] [ab,be] Z Z eB (Al (e:=97) Z Z Z) (EK _ _ _ _ _ ke.rd2 kd.rd2) ?_))
        rintro e71 w71 ⟨rfl,a6⟩
        refine⟨_,rfl,a6,?_⟩
        have nu:=a6.size
        have jm:=kc.trans a6
        have eo:=mh.ext a6
        have ep:=mi.ext ((Av (AK 174 dp))) a6
        have eq:=mj.ext (o1) a6
        have er:=mk.ext (o1) a6
        have es:=kd.ext (o2) a6
        have et:=ml.ext a6
        have eu:=mm.ext (o1) a6
        have ev:=mg.ext (o1) a6
        have ew:=ke.ext (o2) a6
        have ex:=mn.ext ((Av (AK 174 dp))) a6
        have ey:=mo.ext (o1) a6
        have ez:=mp.ext (o1) a6
        refine Bn (!(decide ((HJ p f a d o)=(HJ p f a d o)))) Z Z (Al (e:=97) Z Z Z) (Af 2 Z ?_)
        cases om:(!(decide ((HJ p f a d o)=(HJ p f a d o))))
        ·refine Af 2 Z (AZ false Z Z sM (Al (e:=103) Z Z Z) (Ae 1 Z (Aj Z (A4 (A0 (Ad _ [0] Z (Ae 1 Z (A0 (Ad _ [0,0,4,0] Z (Af 2 Z ?_))))))))))
         obtain⟨G73,mq,kg,jn⟩:=ew
         refine B1 54 [] [] [ab,(.int .i64 ((1:Nat):Int))] Z Z kS Ac (Jb _ _ _ _ _ mq kg oM oM) ?_
         rintro e73 w73 ⟨rfl,ak,mr⟩
         refine⟨_,rfl,?_⟩
         have ms:Az w w73:=ak.below jm (fun b hb=>Aa k2.size (jn b hb).1) jm.size
         have ap:=jn
         have kh:Fr (AS (AS rI 2) 27) w21.heap.size w22.heap.size w73.heap ab _:=⟨G73,mr,kg,jn⟩
         have nv:w71.heap.size≤w73.heap.size:=ak.size
         have mt:=eo.chg ak (fun hm=>by have:=ap _ hm;omega)
         have mu:=ep.chg ((Av (AK 174 dp))) ak (fun c hc=>by have:=ap c hc;omega)
         have mv:=eq.chg (o1) ak (fun c hc=>by have:=ap c hc;omega)
         have mw:=er.chg (o1) ak (fun c hc=>by have:=ap c hc;omega)
         have mx:=es.chg (o2) ak (fun c hc=>by have:=ap c hc;omega)
         have my:=et.chg ak (fun hm=>by have:=ap _ hm;omega)
         have mz:=eu.chg (o1) ak (fun c hc=>by have:=ap c hc;omega)
         have n0:=ev.chg (o1) ak (fun c hc=>by have:=ap c hc;omega)
         have n1:=ex.chg ((Av (AK 174 dp))) ak (fun c hc=>by have:=ap c hc;omega)
         have n2:=ey.chg (o1) ak (fun c hc=>by have:=ap c hc;omega)
         have n3:=ez.chg (o1) ak (fun c hc=>by have:=ap c hc;omega)
         refine Ae 1 Z (A0 (Ad _ [0] Z (Ae 1 Z (A0 (Ad _ [0,0,3,0] Z (Af 2 Z (Ap 55 [] [] [ab,(.int .i64 ((1:Nat):Int))] Z Z fM Ac (Ga _ _ _ _ kh.rd2 oM (by rw[Ek,Ij _ _ _ (A9 _)];omega) jJ) ?_)))))))
         rintro e85 w85 ⟨rfl,a7⟩
         refine⟨_,rfl,a7,?_⟩
         have nw:=a7.size
         have g0:=ms.trans a7
         have bb:=mt.ext a7
         have g2:=mu.ext ((Av (AK 174 dp))) a7
         have g3:=mv.ext (o1) a7
         have g4:=mw.ext (o1) a7
         have g5:=mx.ext (o2) a7
         have g6:=my.ext a7
         have g7:=mz.ext (o1) a7
         have g8:=n0.ext (o1) a7
         have g9:=kh.ext (o2) a7
         have ga:=n1.ext ((Av (AK 174 dp))) a7
         have gb:=n2.ext (o1) a7
         have gc:=n3.ext (o1) a7
         refine Ae 1 Z (A0 (A0 (Ad _ [0,0] Z (Af 1 Z ?_))))
         by_cases ki:((1:Nat):Int)+((J3 (L3 (HJ p f a d o) ((1:Nat):Int)) (L3 (HJ p f a d o) ((1:Nat):Int)).length:Nat):Int)<((0:Nat):Int)
         ·exact Ax true Z Z (A7 ki) Ac (Ah (Ai Z (A0 (Ad _ [0] Z (Ae 1 Z (A3 (Aq (Ag [10] Z (.bool false) Z ⟨K7,g0⟩))))))))
         ·refine Ax false Z Z (A8 ki) Ac (Ah (Aj Z (A4 (A0 (A0 (Ad _ [0,0,0] Z ?_))))))
          have hmt:J3 (L3 (HJ p f a d o) ((1:Nat):Int)) (L3 (HJ p f a d o) ((1:Nat):Int)).length=J3 (HJ p f a d o) (HJ p f a d o).length:=by rw[Ek,Ij _ _ _ (A9 _)]
          refine Af 2 Z ?_
          by_cases kj:((1:Nat):Int)+((J3 (L3 (HJ p f a d o) ((1:Nat):Int)) (L3 (HJ p f a d o) ((1:Nat):Int)).length:Nat):Int)≠((1:Nat):Int)+((J3 (HJ p f a d o) (HJ p f a d o).length:Nat):Int)
          ·exact AZ true Z Z (A7 kj) Ac (Ah (Ai Z (A0 (Ad _ [0] Z (Ae 1 Z (A3 (Aq (Ag [10] Z (.bool false) Z ⟨K7,g0⟩))))))))
          ·refine AZ false Z Z (A8 kj) Ac (Ah (Aj Z (A4 (A0 (Ad _ [2,3,0,0,3,0,3,0,3,0,0,0,0,0] Z (AR (p:=(.pointer (some ⟨w.heap.size,0,none⟩))) (.inr Z) [vp] Qd Z (fun wq9 az=>LD.of_box (BX.ext (w:=w85) bb az)) Z Ac (Ap 43 [] [] [(.agg #[vp])] Z Z YW Ac (DJ _ dp vp (p) (hp.ext (Am (AB dp)) g0) oM) ?_)))))))
           rintro e88 w88 ⟨v88,rfl,a8,n4⟩
           refine⟨_,rfl,a8,?_⟩
           have nx:=a8.size
           have kk:=g0.trans a8
           have gd:=bb.ext a8
           have ge:=g2.ext ((Av (AK 174 dp))) a8
           have gf:=g3.ext (o1) a8
           have gg:=g4.ext (o1) a8
           have gh:=g5.ext (o2) a8
           have gi:=g6.ext a8
           have gj:=g7.ext (o1) a8
           have gk:=g8.ext (o1) a8
           have gl:=g9.ext (o2) a8
           have gm:=ga.ext ((Av (AK 174 dp))) a8
           have gn:=gb.ext (o1) a8
           have go:=gc.ext (o1) a8
           refine Af 2 Z (Ap 49 [] [] [va] Z Z Q9 Ac (Cd _ _ _ (ha.ext g1 kk) oM) ?_)
           rintro e89 w89 ⟨kl,rfl,a2,jo⟩
           refine⟨_,rfl,a2,?_⟩
           have ny:=a2.size
           have km:=kk.trans a2
           have gp:=gd.ext a2
           have gq:=ge.ext ((Av (AK 174 dp))) a2
           have gr:=gf.ext (o1) a2
           have gs:=gg.ext (o1) a2
           have gt:=gh.ext (o2) a2
           have gu:=gi.ext a2
           have gv:=gj.ext (o1) a2
           have gw:=gk.ext (o1) a2
           have gx:=gl.ext (o2) a2
           have gy:=gm.ext ((Av (AK 174 dp))) a2
           have gz:=gn.ext (o1) a2
           have i0:=go.ext (o1) a2
           have i1:=n4.ext ((Av (AK 174 dp))) a2
           refine Af 1 Z (Ap 49 [] [] [vd] Z Z Q9 Ac (Cd _ _ _ (hd.ext g1 km) oM) ?_)
           rintro e90 w90 ⟨kn,rfl,a0,jp⟩
           refine⟨_,rfl,a0,?_⟩
           have nz:=a0.size
           have n5:=km.trans a0
           have i2:=gp.ext a0
           have i3:=gq.ext ((Av (AK 174 dp))) a0
           have i4:=gr.ext (o1) a0
           have i5:=gs.ext (o1) a0
           have i6:=gt.ext (o2) a0
           have i7:=gu.ext a0
           have i8:=gv.ext (o1) a0
           have i9:=gw.ext (o1) a0
           have ia:=gx.ext (o2) a0
           have ib:=gy.ext ((Av (AK 174 dp))) a0
           have ic:=gz.ext (o1) a0
           have id:=i0.ext (o1) a0
           have ie:=i1.ext ((Av (AK 174 dp))) a0
           have c5:=jo.ext (o1) a0
           refine Af 1 Z (Ap 50 [] [] [(.agg #[v88]),(.int .i64 f),kl,kn,(.int .i64 o)] Z Z fL Ac (Gf _ dp v88 (p) _ _ _ _ _ _ (RN.of_frF ie (fun b hb=>by cases hb)) _hf c5.rd1 jp.rd1 _ho (by exact hz)) ?_)
           rintro e91 w91 ⟨bc,rfl,a9,jq⟩
           refine⟨_,rfl,a9,?_⟩
           have o0:=a9.size
           have n6:=n5.trans a9
           have ig:=i2.ext a9
           have ih:=i3.ext ((Av (AK 174 dp))) a9
           have ii:=i4.ext (o1) a9
           have ij:=i5.ext (o1) a9
           have bd:=i6.ext (o2) a9
           have ik:=i7.ext a9
           have il:=i8.ext (o1) a9
           have im:=i9.ext (o1) a9
           have io:=ia.ext (o2) a9
           have ip:=ib.ext ((Av (AK 174 dp))) a9
           have iq:=ic.ext (o1) a9
           have ir:=id.ext (o1) a9
           refine Af 1 Z (B2 (vs:=[bc,(.int .i64 (N4 p f a d o))]) bc Z Z Ac (B2 (vs:=[bc,(.int .i64 (N4 p f a d o))]) (.int .i64 (N4 p f a d o)) Z Z Ac (Ae 2 Z (A0 (A0 (Ad _ [0,0,3,0,0,0,0,0,0] Z (Af 2 Z (Ap 47 [] [] [bc,be] Z Z eB Ac (EK _ _ _ _ _ jq.rd2 bd.rd2) ?_))))))))
           rintro e92 w92 ⟨rfl,aa⟩
           refine⟨_,rfl,aa,?_⟩
           have o3:=aa.size
           have ko:=n6.trans aa
           have is:=ig.ext aa
           have it:=ih.ext ((Av (AK 174 dp))) aa
           have iu:=ii.ext (o1) aa
           have iv:=ij.ext (o1) aa
           have iw:=bd.ext (o2) aa
           have ix:=ik.ext aa
           have iy:=il.ext (o1) aa
           have iz:=im.ext (o1) aa
           have j0:=io.ext (o2) aa
           have j1:=ip.ext ((Av (AK 174 dp))) aa
           have j2:=iq.ext (o1) aa
           have j3:=ir.ext (o1) aa
           refine Bn (!(decide ((HJ p f a d o)=(HJ p f a d o)))) Z Z Ac (Af 1 Z ?_)
           cases on:(!(decide ((HJ p f a d o)=(HJ p f a d o))))
           ·refine Af 2 Z (AZ false Z Z sM (Al (e:=135) Z Z Z) (Ae 1 Z (Aj Z (A4 (A0 (Ad _ [0] Z (Ae 1 Z (A0 (Ad _ [0,0,3,0] Z (Af 2 Z (Ap 55 [] [] [ab,(.int .i64 ((1:Nat):Int))] Z Z fM Ac (Ga _ _ _ _ j0.rd2 oM (by rw[Ek,Ij _ _ _ (A9 _)];omega) jJ) ?_)))))))))))
            rintro e94 w94 ⟨rfl,af⟩
            refine⟨_,rfl,af,?_⟩
            have o4:=af.size
            have jr:=ko.trans af
            have kv:=is.ext af
            have kw:=it.ext ((Av (AK 174 dp))) af
            have kx:=iu.ext (o1) af
            have ky:=iv.ext (o1) af
            have kz:=iw.ext (o2) af
            have l0:=ix.ext af
            have l1:=iy.ext (o1) af
            have l2:=iz.ext (o1) af
            have l3:=j1.ext ((Av (AK 174 dp))) af
            have l4:=j2.ext (o1) af
            have l5:=j3.ext (o1) af
            refine Ae 1 Z (A0 (A0 (Ad _ [0,0] Z (Af 1 Z ?_))))
            by_cases kp:((1:Nat):Int)+((J3 (L3 (HJ p f a d o) ((1:Nat):Int)) (L3 (HJ p f a d o) ((1:Nat):Int)).length:Nat):Int)<((0:Nat):Int)
            ·exact Ax true Z Z (A7 kp) Ac (Ah (Ai Z (A0 (Ad _ [0] Z (Ae 1 Z (A3 (Aq (Ag [10] Z (.bool false) Z ⟨K7,jr⟩))))))))
            ·refine Ax false Z Z (A8 kp) Ac (Ah (Aj Z (A4 (A0 (A0 (Ad _ [0,0,0] Z ?_))))))
             have hmt:J3 (L3 (HJ p f a d o) ((1:Nat):Int)) (L3 (HJ p f a d o) ((1:Nat):Int)).length=J3 (HJ p f a d o) (HJ p f a d o).length:=by rw[Ek,Ij _ _ _ (A9 _)]
             refine Af 2 Z ?_
             by_cases kq:((1:Nat):Int)+((J3 (L3 (HJ p f a d o) ((1:Nat):Int)) (L3 (HJ p f a d o) ((1:Nat):Int)).length:Nat):Int)≠((1:Nat):Int)+((J3 (HJ p f a d o) (HJ p f a d o).length:Nat):Int)
             ·exact AZ true Z Z (A7 kq) Ac (Ah (Ai Z (A0 (Ad _ [0] Z (Ae 1 Z (A3 (Aq (Ag [10] Z (.bool false) Z ⟨K7,jr⟩))))))))
             ·exact AZ false Z Z (A8 kq) Ac (Ah (Aj Z (A4 (A0 (Ad _ [0] Z (Ae 1 Z (A3 (Ag [10] Z (.bool true) Z ⟨K7,jr⟩))))))))
           ·exact Ae 4 Z (Ai Z (A0 (Ad _ [0] Z (Ae 1 Z (A3 (Aq (Ag [10] Z (.bool false) Z ⟨K7,ko⟩)))))))
        ·exact Ae 4 Z (Ai Z (A0 (Ad _ [0] Z (Ae 1 Z (A3 (Aq (Ag [10] Z (.bool false) Z ⟨K7,jm⟩)))))))
      ·exact Ai (by first|rfl|(show Value.bool _=_;rw[k7])) (A0 (Ad _ [0] Z (Ae 1 Z (A3 (Aq (Ag [10] Z (.bool false) Z ⟨K7,jj⟩))))))
     ·exact Ai (by first|rfl|(show Value.bool _=_;rw[k5])) (A0 (Ad _ [0] Z (Ae 1 Z (A3 (Aq (Ag [10] Z (.bool false) Z ⟨K7,ji⟩))))))
    ·exact Ae 4 Z (Ai Z (A0 (Ad _ [0] Z (Ae 1 Z (A3 (Aq (Ag [10] Z (.bool false) Z ⟨K7,jh⟩)))))))
end
section
open Go Go.RowKit Go.ChangeShapes Go.WideShapes Go.Deep
theorem Qf {s:Nat}:∀ {css:List (List Value)}(k:Nat){j:Nat},(∀c∈css,c.length=s)→j<s→css.flatten[k*s+j]? = (css[k]?).bind fun c=>c[j]?
 |[],k,j,_,_=>by simp
 |c::css,0,j,h,hj=>by
  have hc:=h c (List.mem_cons_self ..)
  rw[Nat.zero_mul,Nat.zero_add,List.flatten_cons,List.getElem?_append_left (by omega)]
  simp
 |c::css,k+1,j,h,hj=>by
  have hc:=h c (List.mem_cons_self ..)
  rw[List.flatten_cons,List.getElem?_append_right (by rw[Nat.succ_mul];omega),show(k+1)*s+j-c.length=k*s+j from by rw[Nat.succ_mul];omega,
   Qf k (fun c hc=>h c (List.mem_cons_of_mem _ hc)) hj]
  simp
theorem SY {α:Type}{E:Bu α}{H:Array Obj}(U:Nat→List Value)(X:Nat→α):∀(n:Nat),(∀i,i<n→∃F,E H (U i) (X i) F)→∃F,Cf E H ((List.range n).map U) ((List.range n).map X) F
 |0,_=>⟨[],rfl⟩
 |n+1,h=>by
  obtain⟨F,hF⟩:=SY U X n fun i hi=>h i (by omega)
  obtain⟨G,hG⟩:=h n (by omega)
  rw[List.range_succ,List.map_append,List.map_append]
  exact⟨F++(G++[]),hF.append ⟨G,[],rfl,hG,rfl⟩⟩
theorem Zf {α:Type}{E:Bu α}{s:Nat}(hE:Cj s E)(hs:0<s){W:World}{a:Addr}{n cap:Nat}(hn:n≤maxLen)(hnc:n≤cap)(U:Nat→List Value)(X:Nat→α)
  (hc:∀i,i<n→∀j,j<s→W.cell? (a.add (i*s+j))=(U i)[j]?) (hX:∀i,i<n→∃F,E W.heap (U i) (X i) F):∃F,Dp s E W.heap (.slice (some a) n cap) ((List.range n).map X) F:=by
 by_cases h0:n=0
 ·subst h0
  exact⟨[],.inl ⟨some a,cap,rfl,rfl,rfl⟩⟩
 ·obtain⟨F,hF⟩:=SY U X n hX
  have hlU:∀i,i<n→(U i).length=s:=fun i hi=>by obtain⟨G,hG⟩:=hX i hi;exact hE.len hG
  obtain⟨g,off,spot⟩:=a
  have h1:=hc 0 (by omega) 0 hs
  rw[List.getElem?_eq_getElem (by rw[hlU 0 (by omega)];exact hs)]at h1
  have hsp:spot=none:=by simpa [Addr.add]using World.cell?_spot h1
  subst hsp
  have hcell:∀i,i<n→∀j,j<s→BV W.heap g (off+(i*s+j))=(U i)[j]?:=fun i hi j hj=>by
   have:=hc i hi j hj
   rw[add_plain,C8]at this
   exact this
  have h2:=hcell 0 (by omega) 0 hs
  rw[List.getElem?_eq_getElem (by rw[hlU 0 (by omega)];exact hs)]at h2
  unfold BV at h2
  cases hg:W.heap[g]? with
  |none=>rw[hg]at h2;cases h2
  |some o =>
   cases o with
   |cells cur e fr =>
    refine⟨g::F,.inr ⟨(List.range n).map U,g,off,cap,cur,e,fr,F,hF,by simp,hg,?_,⟨by simpa using hn,by simpa using hnc⟩,rfl⟩⟩
    have hlen:∀c∈(List.range n).map U,c.length=s:=fun c hc=>by
     obtain⟨i,hi,rfl⟩:=List.mem_map.1 hc
     exact hlU i (List.mem_range.1 hi)
    have hfl:=hF.flen hE
    apply List.ext_getElem?
    intro q
    rw[List.getElem?_take,List.getElem?_drop]
    simp only[List.length_map,List.length_range]at hfl ⊢
    by_cases hq:q<n*s
    ·have e1:q=q / s*s+q % s:=by rw[Nat.mul_comm,Nat.div_add_mod]
     have hj:q % s<s:=Nat.mod_lt _ hs
     have hi:q / s<n:=(Nat.div_lt_iff_lt_mul hs).2 hq
     have h3:=hcell (q / s) hi (q % s) hj
     unfold BV at h3
     rw[hg,← e1]at h3
     have h4:=Qf (css:=(List.range n).map U) (q / s) hlen hj
     rw[← e1]at h4
     rw[if_pos hq,h4]
     simp only[Array.getElem?_toList]at *
     rw[h3]
     simp[hi]
    ·rw[if_neg hq,List.getElem?_eq_none (by omega)]
   |_=>rw[hg]at h2;cases h2
def Rk (P:Program)(t:TypeId)(l:List (Nat×TypeId)):Bool :=
 match P.underlying t with
 |some (.struct fs)=>decide (fs.toList.map (fun f=>(f.offset,f.type))=l)
 |_=>false
section
variable {H:Type} {enc:TypeId × Value→H} {P:Program} {W:World} {base:Nat} {held:Bool} {sp:Nat→Bool}
theorem N0 {t:TypeId}{l:List (Nat×TypeId)}{fuel:Nat}{cs:List Value}{x:DataW H×List MemPlace}(ht:Rk P t l=true)(h:DataW.trod enc P W base sp held fuel t cs=some x) :
  ∃n,fuel=n+1∧cs.length=P.cellsOf t∧∀(i o:Nat) (ty:TypeId),l[i]? = some (o,ty)→∃y,DataW.trod enc P W base sp held n ty ((cs.drop o).take (P.cellsOf ty))=some y:=by
 unfold Rk at ht
 split at ht
 ·rename_i fs hfs
  have hl:=of_decide_eq_true ht
  obtain⟨xs,n,hfu,_,hlen,hxl,hf⟩:=DataW.trod_struct hfs h
  refine⟨n,hfu,hlen,fun i o ty hi=>?_⟩
  rw[← hl,List.getElem?_map]at hi
  obtain⟨f,hf1,hf2⟩:=Option.map_eq_some_iff.1 hi
  have hf3:fs[i]? = some f:=by simpa using hf1
  have hil:i<xs.length:=by
   rw[hxl]
   exact(Array.getElem?_eq_some_iff.1 hf3).1
  have h2:=hf i f hf3
  injection hf2 with e1 e2
  rw[← e1,← e2,h2]
  exact⟨xs[i],List.getElem?_eq_getElem hil⟩
 ·cases ht
theorem Rm:∀ {d:Nat}{H:Array Obj}{cs:List Value}{x:Ex}{F:List Nat},Iv d H cs x F→Iv (d+1) H cs x F
 |0,_,_,_,_,h=>h.elim
 |d+1,_,_,_,_,⟨v,h1,h2,h3⟩=>⟨v,h1,h2,h3.imp fun h=>Rm h⟩
theorem Qg {α:Type} [Inhabited α] {E:Bu α}{t e:TypeId}{s fuel:Nat}{u:Value}{x:DataW H×List MemPlace}(hE:Cj s E)(hs:0<s)(ht:P.underlying t=some (.slice e))(ce:P.cellsOf e=s)
  (hel:∀ {n:Nat} {cs:List Value} {x:DataW H×List MemPlace},fuel=n+1→DataW.trod enc P W base (fun _=>true) held n e cs=some x→∃(y:α) (F:List Nat),E W.heap cs y F)
  (hf:DataW.trod enc P W base (fun _=>true) held fuel t [u]=some x):∃(zs:List α) (F:List Nat),Dp s E W.heap u zs F:=by
 rcases DataW.trod_slice ht hf with⟨hcs,_⟩|⟨a,len,cap,elems,rest,n,hfu,hcs,_,_,hl,hm,hlen,helm,_,_⟩
 ·simp only[List.cons.injEq,and_true]at hcs
  subst hcs
  exact⟨[],[],.inl ⟨none,0,rfl,rfl,rfl⟩⟩
 ·simp only[List.cons.injEq,and_true]at hcs
  subst hcs
  have h1:∀i,i<len→∃c:List Value×α,(∀j,j<s→W.cell? (a.add (i*s+j))=c.1[j]?)∧∃F,E W.heap c.1 c.2 F:=by
   intro i hi
   have h2:=helm i hi
   rw[List.getElem?_eq_getElem (by omega)]at h2
   obtain⟨cs',q1,q2⟩:=Option.bind_eq_some_iff.1 h2
   obtain⟨_,ql,qc⟩:=World.cells?_some q1
   obtain⟨y,F,hy⟩:=hel hfu q2
   refine⟨(cs',y),fun j hj=>?_,F,hy⟩
   have:=qc j (by rw[ce];exact hj)
   rwa [add_add,ce]at this
  obtain⟨C,hC⟩:=choose_lt (α:=List Value×α) (n:=len) h1
  obtain⟨F,hF⟩:=Zf hE hs (W:=W) (a:=a) (n:=len) (cap:=cap) (by omega) hl (fun i=>(C i).1) (fun i=>(C i).2) (fun i hi=>(hC i hi).1) (fun i hi=>(hC i hi).2)
  exact⟨_,F,hF⟩
instance:Inhabited Ex:=⟨Ex.zero⟩
instance:Inhabited Fn:=⟨Fn.zero⟩
theorem XO {tS tE ti:TypeId}(hS:P.underlying tS=some (.slice tE))(hE:Rk P tE [(0,ti),(1,ti),(2,ti),(3,ti),(4,tS)]=true)(hi:P.underlying ti=some (.int .i64))(cE:P.cellsOf tE=5)(ci:P.cellsOf ti=1)(cS:P.cellsOf tS=1) :
  ∀(fuel:Nat) (u:Value) (x:DataW H×List MemPlace),DataW.trod enc P W base (fun _=>true) held fuel tS [u]=some x→∃(zs:List Ex) (F:List Nat),Dp 5 (Iv fuel) W.heap u zs F:=by
 intro fuel
 induction fuel using Nat.strongRecOn with
 |_ fuel ih =>
  intro u x hf
  refine Qg (AC fuel) (by decide) hS cE ?_ hf
  intro n cs y hfu hy
  obtain⟨m,hm,hlen,hfd⟩:=N0 hE hy
  have num:∀o,o<4→∃z:Int,(cs.drop o).take 1=[.int .i64 z]∧BC z:=by
   intro o ho
   obtain⟨y',hy'⟩:=hfd o o ti (by match o,ho with|0,_=>rfl|1,_=>rfl|2,_=>rfl|3,_=>rfl)
   rw[ci]at hy'
   obtain⟨z,hz,_,hw⟩:=DataW.trod_int hi hy'
   exact⟨z,hz,LN hw⟩
  obtain⟨y4,hy4⟩:=hfd 4 4 tS rfl
  rw[cS]at hy4
  rw[cE]at hlen
  match cs,hlen with
  |[c0,c1,c2,c3,c4],_ =>
   obtain⟨z0,e0,r0⟩:=num 0 (by decide)
   obtain⟨z1,e1,r1⟩:=num 1 (by decide)
   obtain⟨z2,e2,r2⟩:=num 2 (by decide)
   obtain⟨z3,e3,r3⟩:=num 3 (by decide)
   have q0:c0=.int .i64 z0:=by simpa using e0
   have q1:c1=.int .i64 z1:=by simpa using e1
   have q2:c2=.int .i64 z2:=by simpa using e2
   have q3:c3=.int .i64 z3:=by simpa using e3
   subst q0;subst q1;subst q2;subst q3
   obtain⟨zs,F,hz⟩:=ih m (by omega) c4 y4 hy4
   subst hm
   subst hfu
   exact⟨.mk z0 z1 z2 z3 zs,F,Rm (d:=m+1) ⟨c4,rfl,⟨r0,r1,r2,r3⟩,hz⟩⟩
theorem TB {t tF tN tS tE ti tz:TypeId}{d:DataW H}{ps:List MemPlace}{v:Value}{b0:Nat}{r:Reach}(hP:Rk P t [(0,tF)]=true)(hF:P.underlying tF=some (.slice tN))(hN:Rk P tN [(0,tz),(1,ti),(2,tS)]=true)
  (hS:P.underlying tS=some (.slice tE)) (hE:Rk P tE [(0,ti),(1,ti),(2,ti),(3,ti),(4,tS)]=true) (hi:P.underlying ti=some (.int .i64)) (hz:P.underlying tz=some .string)
  (cP:P.cellsOf t=1) (cF:P.cellsOf tF=1) (cN:P.cellsOf tN=3) (cE:P.cellsOf tE=5) (ci:P.cellsOf ti=1) (cS:P.cellsOf tS=1) (cz:P.cellsOf tz=1)
  (hval:Value.okWide P W r b0 t v) (hd:DataW.Trod enc P W base (fun _=>true) held t v d ps) :
  ∃(u:Value) (dp:Nat) (p:List Fn),v=.agg #[u]∧RP [] dp W.heap u p∧∀k,k<p.length→(p.getD k Fn.zero).name.size≤9223372036854775807:=by
 have hstr:∃fs,P.underlying t=some (.struct fs):=by
  unfold Rk at hP
  split at hP
  ·rename_i fs hfs;exact⟨fs,hfs⟩
  ·cases hP
 obtain⟨fs,hfs⟩:=hstr
 obtain⟨cs,rfl,hcs⟩:=okWide_struct hfs hval
 obtain⟨fuel,hf⟩:=hd
 obtain⟨n,hfu,hlen,hfd⟩:=N0 hP hf
 obtain⟨y,hy⟩:=hfd 0 0 tF rfl
 rw[cF]at hy
 rw[cP]at hlen
 have hlen':cs.toList.length=1:=hlen
 match hcl:cs.toList,hlen' with
 |[u],_ =>
  have hcu:cs=#[u]:=by apply Array.ext';simpa using hcl
  subst hcu
  have hy':DataW.trod enc P W base (fun _=>true) held n tF [u]=some y:=hy
  obtain⟨zs,F,hzs⟩:=Qg (E:=fun H cs f F=>XQ n H cs f F∧f.name.size≤9223372036854775807) (s:=3)
   ⟨fun h=>(AB n).len h.1,fun h=>(AB n).one h.1,fun h=>(AB n).lt h.1,fun h hb=>⟨(AB n).stable h.1 hb,h.2⟩⟩ (by decide) hF cN (by
    intro m cs y hm hy
    obtain⟨q,hq,hlen,hfd⟩:=N0 hN hy
    rw[cN]at hlen
    obtain⟨y0,h0⟩:=hfd 0 0 tz rfl
    obtain⟨y1,h1⟩:=hfd 1 1 ti rfl
    obtain⟨y2,h2⟩:=hfd 2 2 tS rfl
    rw[cz]at h0
    rw[ci]at h1
    rw[cS]at h2
    match cs,hlen with
    |[c0,c1,c2],_ =>
     obtain⟨s,e0,_,hs⟩:=DataW.trod_string hz h0
     obtain⟨z,e1,_,hw⟩:=DataW.trod_int hi h1
     have q0:c0=.string s:=by simpa using e0
     have q1:c1=.int .i64 z:=by simpa using e1
     subst q0;subst q1
     obtain⟨es,F,hes⟩:=XO (enc:=enc) (W:=W) (base:=base) (held:=held) hS hE hi cE ci cS q c2 y2 h2
     have hup:∀k,Dp 5 (Iv (q+k)) W.heap c2 es F:=by
      intro k
      induction k with
      |zero=>exact hes
      |succ k ih=>exact ih.imp fun h=>Rm h
     have hn:Dp 5 (Iv n) W.heap c2 es F:=by
      have:=hup (n-q)
      rwa [show q+(n-q)=n from by omega]at this
     exact⟨⟨s,z,es⟩,F,⟨c2,rfl,LN hw,hn⟩,by unfold maxLen at hs;exact hs⟩) hy'
  refine⟨u,n,zs,rfl,⟨F,hzs.imp fun h=>h.1,fun b hb hm=>by cases hm⟩,fun k hk=>?_⟩
  obtain⟨cs,G,hg,_⟩:=Dp.get (E:=fun H cs f F=>XQ n H cs f F∧f.name.size≤9223372036854775807) (s:=3) ⟨fun h=>(AB n).len h.1,fun h=>(AB n).one h.1,fun h=>(AB n).lt h.1,fun h hb=>⟨(AB n).stable h.1 hb,h.2⟩⟩ Fn.zero hzs hk
  exact hg.2
end
end
section
open Go Go.ChangeShapes Go.RowKit
section
variable {H:Type} {enc:TypeId × Value→H} {P:Program} {w:World} {base:Nat} {spare:Nat→Bool} {held:Bool}
theorem Pb {t0 t1 t2 t3 t4:TypeId}{args:Array Value}{ds:List (DataW H)}{ps:List MemPlace}(h:DataW.TrodAll enc P w base spare held [t0,t1,t2,t3,t4] args.toList ds ps) :
  ∃v0 v1 v2 v3 v4 d0 d1 d2 d3 d4 p0 p1 p2 p3 p4,args=#[v0,v1,v2,v3,v4]∧ds=[d0,d1,d2,d3,d4]∧ps=p0++p1++p2++p3++p4∧DataW.Trod enc P w base spare held t0 v0 d0 p0∧DataW.Trod enc P w base spare held t1 v1 d1 p1∧DataW.Trod enc P w base spare held t2 v2 d2 p2∧DataW.Trod enc P w base spare held t3 v3 d3 p3∧DataW.Trod enc P w base spare held t4 v4 d4 p4:=by
 obtain⟨v0,vs0,d0,ds0,p0,q0,hargs,rfl,rfl,hd0,hr0⟩:=trodAll_cons h
 obtain⟨v1,vs1,d1,ds1,p1,q1,rfl,rfl,rfl,hd1,hr1⟩:=trodAll_cons hr0
 obtain⟨v2,vs2,d2,ds2,p2,q2,rfl,rfl,rfl,hd2,hr2⟩:=trodAll_cons hr1
 obtain⟨v3,vs3,d3,ds3,p3,q3,rfl,rfl,rfl,hd3,hr3⟩:=trodAll_cons hr2
 obtain⟨v4,vs4,d4,ds4,p4,q4,rfl,rfl,rfl,hd4,hr4⟩:=trodAll_cons hr3
 obtain⟨rfl,rfl,rfl⟩:=trodAll_nil hr4
 exact⟨v0,v1,v2,v3,v4,d0,d1,d2,d3,d4,p0,p1,p2,p3,p4,by cases args;simp_all,rfl,by simp,hd0,hd1,hd2,hd3,hd4⟩
end
end
end Go.Proofs.YtnokbaiemimhjaaGreat
