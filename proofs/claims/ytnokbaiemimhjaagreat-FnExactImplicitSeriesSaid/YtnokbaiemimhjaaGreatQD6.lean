/- Vn, Vo, Wa, Yj, Ym, Yn, FwZ: texts of this claim, joined; what the claim does not come to is left out. -/
import Derived.Test.YtnokbaiemimhjaaGreatQD5
import Derived.Test.YtnokbaiemimhjaaGreatProg
import Derived.Deep.Strs
set_option linter.unusedVariables false
set_option linter.unusedSimpArgs false
namespace Go.Proofs.YtnokbaiemimhjaaGreat
open Go Go.RowKit
section
set_option maxHeartbeats 4000000
set_option maxRecDepth 100000
attribute [local irreducible] LW
theorem Y1 (F d:Nat)(IH1:∀F',F'<F→∀d,SV F' d)(IH2:∀d',d'<d→SV F d'):SC F d:=by
 intro w S g pp dp n s0 c0 p ve ex vv env hS hgS a0 hp hn a1 a2 hex henv hqenv hvp hF hwf hse hdp hk
 exact Jt w S F g pp dp n s0 c0 p d ve ex vv env hS hgS a0 hp hn a1 a2 hex henv hqenv hvp hF hwf hse hdp hk IH1 IH2
theorem Y2 {p:Prop}(h:p:=by first|exact Yu hc00 hs1 oM oM ‹AT (go c0 (Ea _ _ (ex.kids.getD 0 _) _ _)) _ _ _› oM (by assumption)|exact Yw hc00 hs1 oM oM ‹AT (go c0 (Ea _ _ (ex.kids.getD 0 _) _ _)) _ _ _› oM (by assumption)):p:=h
theorem Pl {p:Prop}(h:p:=by have:=Fy (l:=ex.kids) (k:=0) oM;omega):p:=h
theorem Ju {p:Prop}(h:p:=by exact Gx hwf oM oM):p:=h
theorem Eu {p:Prop}(h:p:=by simp[Ge,Gf]):p:=h
theorem Jv (w:World)(S:List Nat)(F:Nat)(g:Nat)(pp:Value)(dp n s0:Nat)(c0:Int)(p:List Fn)(dex:Nat)(ve:Value)(ex:Ex)(vv:Value)(env:List (List Int))(hS:∀b∈S,b<w.heap.size)(hgS:g∈S)(b0:BX w.heap g [pp,.int .i64 ((n:Nat):Int),.int .i64 ((s0:Nat):Int),.int .i64 c0])(hp:RN S (rP (Nu dp)) w.heap pp p)(hn:1≤n∧n≤13)(j2:s0≤3000)(j3:0≤c0∧c0≤9)(hex:RN S (rP (IE dex)) w.heap ve ex)(henv:RN S (B3 (B3 rI)) w.heap vv env)(hqenv:Cf vv)(hvp:IJ p)(hF:F≤p.length)(hwf:wf p ((F:Nat):Int) ex ((env.length:Nat):Int)=true)(hse:Bs n env)(hdp:env.length+ex.deep≤1000000)(IH1:∀F',F'<F→∀d,SV F' d)(IH2:∀d',d'<dex→SV F d') :
  Calls Tryz.prog 193 #[.pointer (some ⟨g,0,none⟩),ve,vv] w (fun e w'=>∃(v:Value) (x:List Int) (s1:Nat) (c1:Int),e=.returned v∧AE [g] w w'∧BX w'.heap g [pp,.int .i64 ((n:Nat):Int),.int .i64 ((s1:Nat):Int),.int .i64 c1]∧RN S (B3 rI) w'.heap v x∧Bt n x∧s1≤3000∧(0≤c1∧c1≤9)∧AT (go c0 (Ea n (GY p n F) ex env s0)) x s1 c1):=by
 refine At [.pointer (some ⟨g,0,none⟩),ve,vv] 186 Tryz.func193 Z Z sM ?_
 have bk:AE [g] w w:=AE.refl [g] w
 have hl_vv:=henv.lenL
 unfold maxLen at hl_vv
 have hgl:=b0.lt
 have hdk:=EC ex
 refine A0 (Ad _ [0] Z (Ae 1 Z (A0 (A0 (Ad _ [0,0,0,2,0] Z (Af 1 Z (Bz Z Ac (Ao (p:=(.pointer (some ⟨g,0,none⟩))) (b:=g) (o:=0) 3 FJ Z Z Ac (Ak (p:=(Az (.pointer (some ⟨g,0,none⟩)) 3)) (.inr Z) (.int .i64 c0) AI Z (b0.ldp (i:=3) sM) Ac ?_)))))))))
 by_cases e8:c0≠((0:Nat):Int)
 ·refine AY true Z Z (A7 e8) Ac (Ah (Ai Z (A0 (Ad _ [0,0,0,0,2,4,0] Z (Af 2 Z (Bz Z Ac (Ao (p:=(.pointer (some ⟨g,0,none⟩))) (b:=g) (o:=0) 3 FJ Z Z Ac (Ak (p:=(Az (.pointer (some ⟨g,0,none⟩)) 3)) (.inr Z) (.int .i64 c0) AI Z (b0.ldp (i:=3) sM) Ac (B2 221 [] [] [(.pointer (some ⟨g,0,none⟩)),(.int .i64 c0)] Z Z SY Ac (Db _ S g pp dp (n) (s0) (c0) (p) (c0) (fun b hb=>(by have:=hS b hb;omega:b<w.heap.size)) hgS b0 (hp.chg (Bf (B5 dp)) (bk.sub (Bg hgS))) oM oM oM oM oM) ?_)))))))))
  rintro e2 w2 ⟨v2,x2,s2,c2,rfl,e9,i9,ia,d1,ib,ic,bl⟩
  refine⟨_,rfl,?_⟩
  have id:=e9.size
  have ie:AE [g] w w2:=bk.trans e9
  have ig:=d1.1
  have hfs:=bl.1
  have hff:=bl.2
  exact Ae 1 Z (A3 (Aq (Ag [6] Z v2 Z ⟨v2,x2,s2,c2,rfl,ie,i9,ia,(by assumption),oM,oM,(by rw[hff,if_neg oM];exact V7 oM)⟩)))
 ·refine AY false Z Z (A8 e8) Ac (Ah (Aj Z (A4 (A0 (A0 (Ad _ [0,0,0,2,0] Z (Af 1 Z (Bz Z Ac (Ao (p:=(.pointer (some ⟨g,0,none⟩))) (b:=g) (o:=0) 2 LV Z Z Ac (Ak (p:=(Az (.pointer (some ⟨g,0,none⟩)) 2)) (.inr Z) (.int .i64 ((s0:Nat):Int)) AI Z (b0.ldp (i:=2) sM) Ac ?_))))))))))
  by_cases ea:((s0:Nat):Int)=((3000:Nat):Int)
  ·refine AA true Z Z (A7 ea) Ac (Ah (Ai Z (A0 (Ad _ [0,4,0] Z (Af 1 Z (B2 221 [] [] [(.pointer (some ⟨g,0,none⟩)),(.int .i64 ((7:Nat):Int))] Z Z SY Ac (Db _ S g pp dp (n) (s0) (c0) (p) (((7:Nat):Int)) (fun b hb=>(by have:=hS b hb;omega:b<w.heap.size)) hgS b0 (hp.chg (Bf (B5 dp)) (bk.sub (Bg hgS))) oM oM oM oM oM) ?_))))))
   rintro e7 w7 ⟨v7,x7,s7,c7,rfl,eb,ih,ii,d2,ij,ik,bm⟩
   refine⟨_,rfl,?_⟩
   have il:=eb.size
   have im:AE [g] w w7:=bk.trans eb
   have io:=d2.1
   have hfs:=bm.1
   have hff:=bm.2
   exact Ae 1 Z (A3 (Aq (Ag [6] Z v7 Z ⟨v7,x7,s7,c7,rfl,im,ih,ii,(by assumption),oM,oM,(by rw[hff,if_pos oM];exact QM oM oM)⟩)))
  ·refine AA false Z Z (A8 ea) Ac (Ah (Aj Z (A4 (A0 (Ad _ [0,0,0,2,0,0,0,4] Z (Af 1 Z (Bz Z Ac (Ao (p:=(.pointer (some ⟨g,0,none⟩))) (b:=g) (o:=0) 2 LV Z Z Ac (Ak (p:=(Az (.pointer (some ⟨g,0,none⟩)) 2)) (.inr Z) (.int .i64 ((s0:Nat):Int)) AI Z (b0.ldp (i:=2) sM) Ac (AH ((s0+1:Nat):Int) Z Z (B7 oM oM) Ac (Bz Z Ac (Ao (p:=(.pointer (some ⟨g,0,none⟩))) (b:=g) (o:=0) 2 LV Z Z Ac (Cp (k:=2) (w:=w) ID Z Z ⟨rfl,rfl⟩ b0 sM Ac fun w11 bn ip a7=>?_)))))))))))))
   replace a7:BX w11.heap g [pp,(.int .i64 ((n:Nat):Int)),(.int .i64 ((s0+1:Nat):Int)),(.int .i64 c0)]:=a7
   have a0:AE [g] w w11:=bk.trans bn
   have ec:=bn.size
   refine Ah (A0 (A0 (Ad _ [0,0,0,2] Z ?_)))
   have hc00:c0=0:=by omega
   have hs1:s0+1≤3000:=by omega
   refine Af 1 Z (AV (hex.isPtr) Z Ac ?_)
   obtain⟨cs12,d3,a2⟩:=RN.at (AC _) hex
   obtain⟨dd12,a1,iq,rfl,a3⟩:=RX.of d3
   have bo:=a3.rn.lenle
   unfold maxLen at bo
   refine AM (p:=ve) 0 C3 Z (a2 _ (a0.sub (Bg hgS))) Ac (Ak (p:=(Az ve 0)) (.inr Z) (.int .i64 ex.kind) AI Z ((a2 _ (a0.sub (Bg hgS))).ld (i:=0) Eu) Ac (Ah (A5 (A0 (Ad _ [0,0] Z ?_)))))
   by_cases bp:ex.kind=((1:Nat):Int)
   ·refine AA true Z Z (A7 bp) Ac (Ae 1 Z (Ai Z (A0 (B1 _ [0,0,0,1,0,0,0,1,3,0] mixed (by kernel_rfl) ?_))))
    have hwk:=V2 hwf oM
    refine Af 1 Z (AV (hex.isPtr) Z Ac (AM (p:=ve) 1 BW Z (a2 _ (a0.drew.sub (Bg hgS))) Ac (Ak (p:=(Az ve 1)) (.inl Z) (.int .i64 ex.num) AI Z ((a2 _ (a0.drew.sub (Bg hgS))).ld (i:=1) Eu) Ac (Af 1 Z (Bz Z Ac (Ao (p:=(.pointer (some ⟨g,0,none⟩))) (b:=g) (o:=0) 1 P8 Z Z Ac (Ak (p:=(Az (.pointer (some ⟨g,0,none⟩)) 1)) (.inl Z) (.int .i64 ((n:Nat):Int)) Zh Z (a7.ldp (i:=1) sM) Ac ?_)))))))
    refine Ap 122 [] [] [(.int .i64 ex.num),(.int .i64 ((n:Nat):Int))] Z Z Oj Ac (CI _ _ (n) a3.rng.num sD oM) ?_
    rintro e14 w14 ⟨b1,rfl,ae,aa⟩
    refine⟨_,rfl,ae,?_⟩
    replace ae:=ae.of_drew
    have ed:=ae.size
    have d4:AE [g] w w14:=a0.ext ae
    have an:=a7.ext ae
    replace aa:=aa.low (B':=w11.heap.size) (A9 _)
    exact Ae 1 Z (A3 (AK (Aq (Ag [6] Z b1 Z ⟨b1,cst n ex.num,s0+1,c0,rfl,d4,an,(RN.of_fr1 aa (fun b hb=>by have:=hS b hb;omega)),(by exact ES (Cn.2 oM)),oM,oM,(by exact Ys hc00 hs1 oM)⟩))))
   ·refine AA false Z Z (A8 bp) Ac (Ae 1 Z (Aj Z (A0 (Ad _ [0,0] Z ?_))))
    by_cases bq:ex.kind=((2:Nat):Int)
    ·refine AA true Z Z (A7 bq) Ac (Ae 1 Z (Ai Z (A0 (Ad _ [0,0,0,0,2,0,2,0] Z ?_))))
     have hwk:=V3 hwf oM
     refine Af 2 Z (AV (hex.isPtr) Z Ac (AM (p:=ve) 1 BW Z (a2 _ (a0.sub (Bg hgS))) Ac (Ak (p:=(Az ve 1)) (.inr Z) (.int .i64 ex.num) AI Z ((a2 _ (a0.sub (Bg hgS))).ld (i:=1) Eu) Ac (Au (v:=vv) ((ex.num).toNat) Bi AW Z Z henv.slL oM sD Ac ?_))))
     obtain⟨ba,d5,br⟩:=RN.getL (w:=w) g1 [] (k:=(ex.num).toNat) henv sD
     have bs:=br.lenL
     unfold maxLen at bs
     exact Ak (p:=Aw vv ((ex.num).toNat) 1) (.inr Z) ba B6 Z (d5 _ (a0.sub (Bg hgS))) Ac (Ae 1 Z (A3 (AK (Aq (Ag [6] Z ba Z ⟨ba,env.getD ((ex.num).toNat) [],s0+1,c0,rfl,a0,a7,(br.chg g1 (a0.sub (Bg hgS))),(by exact hse _ oM),oM,oM,(by exact Yt hc00 hs1 oM)⟩)))))
    ·refine AA false Z Z (A8 bq) Ac (Ae 1 Z (Aj Z (A0 (Ad _ [0,0] Z ?_))))
     by_cases bt:ex.kind=((7:Nat):Int)
     ·refine AA true Z Z (A7 bt) Ac (Ae 1 Z (Ai Z (A0 (Ad _ [0,0,0,0,2,0,0,4,3,0] Z ?_))))
      have hwk:=V5 hwf oM
      refine Af 2 Z (AV (hex.isPtr) Z Ac (AM (p:=ve) 4 Bo Z (a2 _ (a0.sub (Bg hgS))) Ac (Ak (p:=(Az ve 4)) (.inr Z) a1 Bq Z ((a2 _ (a0.sub (Bg hgS))).ld (i:=4) Eu) Ac (Au (v:=a1) 0 DM BB Z Z a3.rn.isSl Z sD Ac (Af 1 Z ?_)))))
      refine B2 193 [] [] [(.pointer (some ⟨g,0,none⟩)),(Aw a1 0 5),vv] Z Z Ia Ac (IH2 dd12 oM _ S g pp dp (n) (s0+1) (c0) (p) (Aw a1 0 5) (ex.kids.getD 0 Ex.zero) vv (env) (fun b hb=>(by have:=hS b hb;omega:b<w11.heap.size)) hgS a7 (hp.chg (Bf (B5 dp)) (a0.sub (Bg hgS))) oM oM oM (RN.ptr (AC dd12) (by decide) Ex.zero (a3.rn.chg (Am (AC dd12)) (a0.sub (Bg hgS))) sD) (henv.chg g2 (a0.sub (Bg hgS))) hqenv (by exact hvp) oM Ju (by exact hse) Pl) ?_
      rintro e18 w18 ⟨v18,x18,s18,c18,rfl,bu,d6,bv,bw,ee,ef,eg⟩
      refine⟨_,rfl,?_⟩
      have eh:=bu.size
      have d7:AE [g] w w18:=a0.trans bu
      have ei:=bw.1
      refine Ap 176 [] [] [v18,(.int .i64 ((1000002:Nat):Int))] Z Z Xn Ac (Ft _ _ _ _ (bv).rd oM oM) ?_
      rintro e23 w23 ⟨b2,rfl,aj,bb⟩
      refine⟨_,rfl,aj,?_⟩
      have ej:=aj.size
      have d8:AE [g] w w23:=d7.ext aj
      have ao:=d6.ext aj
      have ir:=bv.ext g1 aj
      exact Ae 1 Z (A3 (AK (Aq (Ag [6] Z b2 Z ⟨b2,scl x18 ((1000002:Nat):Int),s18,c18,rfl,d8,ao,(RN.of_fr1 bb (fun b hb=>by have:=hS b hb;omega)),(by rw[Rv];exact PW (by assumption)),oM,oM,(by exact Hp hc00 hs1 oM (dU oM ‹AT (go c0 (Ea _ _ (ex.kids.getD 0 _) _ _)) _ _ _›) (fun h0=>by rw[h0,Rv];exact dG oM) (fun _=>rfl))⟩))))
     ·refine AA false Z Z (A8 bt) Ac (Ae 1 Z (Aj Z (A0 (Ad _ [0,0] Z ?_))))
      by_cases bx:ex.kind=((8:Nat):Int)
      ·refine AA true Z Z (A7 bx) Ac (Ae 1 Z (Ai Z (A0 (A0 (Ad _ [0,0,0,0,2,0,0,4,0,2,0] Z ?_)))))
       have hwk:=ZE hwf oM
       refine Af 2 Z (AV (hex.isPtr) Z Ac (AM (p:=ve) 4 Bo Z (a2 _ (a0.sub (Bg hgS))) Ac (Ak (p:=(Az ve 4)) (.inr Z) a1 Bq Z ((a2 _ (a0.sub (Bg hgS))).ld (i:=4) Eu) Ac (Au (v:=a1) 0 DM BB Z Z a3.rn.isSl Z sD Ac (Af 1 Z ?_)))))
       refine B2 193 [] [] [(.pointer (some ⟨g,0,none⟩)),(Aw a1 0 5),vv] Z Z Ia Ac (IH2 dd12 oM _ S g pp dp (n) (s0+1) (c0) (p) (Aw a1 0 5) (ex.kids.getD 0 Ex.zero) vv (env) (fun b hb=>(by have:=hS b hb;omega:b<w11.heap.size)) hgS a7 (hp.chg (Bf (B5 dp)) (a0.sub (Bg hgS))) oM oM oM (RN.ptr (AC dd12) (by decide) Ex.zero (a3.rn.chg (Am (AC dd12)) (a0.sub (Bg hgS))) sD) (henv.chg g2 (a0.sub (Bg hgS))) hqenv (by exact hvp) oM Ju (by exact hse) Pl) ?_
       rintro e26 w26 ⟨v26,x26,s26,c26,rfl,bz,c3,ap,c4,ek,el,en⟩
       refine⟨_,rfl,?_⟩
       have eo:=bz.size
       have a5:AE [g] w w26:=a0.trans bz
       have ep:=c4.1
       refine Au (v:=v26) 0 Bh Bx Z Z ap.slL Z sD Ac ?_
       have d9:=RN.getI (w:=w26) (k:=0) ap sD
       refine Ak (p:=Aw v26 0 1) (.inr Z) (.int .i64 (x26.getD 0 0)) AI Z (d9.1 _ (AE.refl _ _)) Ac ?_
       by_cases c5:x26.getD 0 0=((0:Nat):Int)
       ·refine AA true Z Z (A7 c5) Ac (Ah (Ai Z (A0 (Ad _ [0,0,0,0,2,0,0,4,0] Z (Af 2 Z (AV (hex.isPtr) Z Ac (AM (p:=ve) 4 Bo Z (a2 _ (a5.sub (Bg hgS))) Ac (Ak (p:=(Az ve 4)) (.inr Z) a1 Bq Z ((a2 _ (a5.sub (Bg hgS))).ld (i:=4) Eu) Ac (Au (v:=a1) 1 DM BB Z Z a3.rn.isSl Z sD Ac ?_)))))))))
        refine Af 1 Z ?_
        refine B2 193 [] [] [(.pointer (some ⟨g,0,none⟩)),(Aw a1 1 5),vv] Z Z Ia Ac (IH2 dd12 oM _ S g pp dp (n) (s26) (c26) (p) (Aw a1 1 5) (ex.kids.getD 1 Ex.zero) vv (env) (fun b hb=>(by have:=hS b hb;omega:b<w26.heap.size)) hgS c3 (hp.chg (Bf (B5 dp)) (a5.sub (Bg hgS))) oM oM oM (RN.ptr (AC dd12) (by decide) Ex.zero (a3.rn.chg (Am (AC dd12)) (a5.sub (Bg hgS))) sD) (henv.chg g2 (a5.sub (Bg hgS))) hqenv (by exact hvp) oM Ju (by exact hse) (by have:=Fy (l:=ex.kids) (k:=1) oM;omega)) ?_
        rintro e33 w33 ⟨v33,x33,s33,c33,rfl,bc,da,db,c6,eq,er,es⟩
        refine⟨_,rfl,?_⟩
        have et:=bc.size
        have dc:AE [g] w w33:=a5.trans bc
        have is:=ap.run g1 hgS bc
        have eu:=c6.1
        exact Ae 1 Z (A3 (Aq (AK (Aq (Ag [6] Z v33 Z ⟨v33,x33,s33,c33,rfl,dc,da,db,(by assumption),oM,oM,Y2⟩)))))
       ·refine AA false Z Z (A8 c5) Ac (Ah (Aj Z (A4 (A0 (Ad _ [0,0,0,0,2,0,0,4,0] Z (Af 2 Z (AV (hex.isPtr) Z Ac (AM (p:=ve) 4 Bo Z (a2 _ (a5.sub (Bg hgS))) Ac (Ak (p:=(Az ve 4)) (.inr Z) a1 Bq Z ((a2 _ (a5.sub (Bg hgS))).ld (i:=4) Eu) Ac ?_)))))))))
        refine Au (v:=a1) 2 DM BB Z Z a3.rn.isSl Z sD Ac (Af 1 Z ?_)
        refine B2 193 [] [] [(.pointer (some ⟨g,0,none⟩)),(Aw a1 2 5),vv] Z Z Ia Ac (IH2 dd12 oM _ S g pp dp (n) (s26) (c26) (p) (Aw a1 2 5) (ex.kids.getD 2 Ex.zero) vv (env) (fun b hb=>(by have:=hS b hb;omega:b<w26.heap.size)) hgS c3 (hp.chg (Bf (B5 dp)) (a5.sub (Bg hgS))) oM oM oM (RN.ptr (AC dd12) (by decide) Ex.zero (a3.rn.chg (Am (AC dd12)) (a5.sub (Bg hgS))) sD) (henv.chg g2 (a5.sub (Bg hgS))) hqenv (by exact hvp) oM Ju (by exact hse) (by have:=Fy (l:=ex.kids) (k:=2) oM;omega)) ?_
        rintro e39 w39 ⟨v39,x39,s39,c39,rfl,bd,dd,de,c8,ev,ew,ey⟩
        refine⟨_,rfl,?_⟩
        have ez:=bd.size
        have df:AE [g] w w39:=a5.trans bd
        have it:=ap.run g1 hgS bd
        have g0:=c8.1
        exact Ae 1 Z (A3 (AK (Aq (Ag [6] Z v39 Z ⟨v39,x39,s39,c39,rfl,df,dd,de,(by assumption),oM,oM,Y2⟩))))
      ·refine AA false Z Z (A8 bx) Ac (Ae 1 Z (Aj Z (A0 (Ad _ [0,0] Z ?_))))
       by_cases c9:ex.kind=((9:Nat):Int)
       ·refine AA true Z Z (A7 c9) Ac (Ae 1 Z (Ai Z (A0 (Ad _ [0,0,0,0,2,0,0,4,0] Z ?_))))
        have hwk:=V4 hwf oM
        refine Af 2 Z (AV (hex.isPtr) Z Ac (AM (p:=ve) 4 Bo Z (a2 _ (a0.sub (Bg hgS))) Ac (Ak (p:=(Az ve 4)) (.inr Z) a1 Bq Z ((a2 _ (a0.sub (Bg hgS))).ld (i:=4) Eu) Ac (Au (v:=a1) 0 DM BB Z Z a3.rn.isSl Z sD Ac (Af 1 Z ?_)))))
        refine B2 193 [] [] [(.pointer (some ⟨g,0,none⟩)),(Aw a1 0 5),vv] Z Z Ia Ac (IH2 dd12 oM _ S g pp dp (n) (s0+1) (c0) (p) (Aw a1 0 5) (ex.kids.getD 0 Ex.zero) vv (env) (fun b hb=>(by have:=hS b hb;omega:b<w11.heap.size)) hgS a7 (hp.chg (Bf (B5 dp)) (a0.sub (Bg hgS))) oM oM oM (RN.ptr (AC dd12) (by decide) Ex.zero (a3.rn.chg (Am (AC dd12)) (a0.sub (Bg hgS))) sD) (henv.chg g2 (a0.sub (Bg hgS))) hqenv (by exact hvp) oM Ju (by exact hse) Pl) ?_
        rintro e46 w46 ⟨v46,x46,s46,c46,rfl,ca,dg,cb,cc,g3,g4,g5⟩
        refine⟨_,rfl,?_⟩
        have g6:=ca.size
        have aq:AE [g] w w46:=a0.trans ca
        have g7:=cc.1
        refine Ae 1 Z (A0 (B1 _ [0,0,0,0,1,0,0,0,3,4,0] mixed (by kernel_rfl) (Af 2 Z (AV (hex.isPtr) Z Ac (AM (p:=ve) 4 Bo Z (a2 _ (aq.drew.sub (Bg hgS))) Ac (Ak (p:=(Az ve 4)) (.inl Z) a1 Bq Z ((a2 _ (aq.drew.sub (Bg hgS))).ld (i:=4) Eu) Ac (Au (v:=a1) 1 DM BB Z Z a3.rn.isSl Z sD Ac (Af 2 Z ?_))))))))
        refine Ap 222 [] [] [vv,v46] Z Z jE Ac (NO _ S vv (env) v46 (x46) (fun b hb=>(by have:=hS b hb;omega:b<w46.heap.size)) (henv.chg g2 (aq.drew.sub (Bg hgS))) hqenv cb oM) ?_
        rintro e51 w51 ⟨v51,rfl,ab,cd,ce⟩
        refine⟨_,rfl,ab,?_⟩
        replace ab:=ab.of_drew
        have g8:=ab.size
        have be:AE [g] w w51:=aq.ext ab
        have ar:=dg.ext ab
        have dh:=cb.ext g1 ab
        refine B2 193 [] [] [(.pointer (some ⟨g,0,none⟩)),(Aw a1 1 5),v51] Z Z Ia Ac (IH2 dd12 oM _ S g pp dp (n) (s46) (c46) (p) (Aw a1 1 5) (ex.kids.getD 1 Ex.zero) v51 (env++[x46]) (fun b hb=>(by have:=hS b hb;omega:b<w51.heap.size)) hgS ar (hp.chg (Bf (B5 dp)) (be.sub (Bg hgS))) oM oM oM (RN.ptr (AC dd12) (by decide) Ex.zero (a3.rn.chg (Am (AC dd12)) (be.sub (Bg hgS))) sD) cd ce (by exact hvp) oM (by have h9:=Mn hwf oM oM;rw[List.length_append,List.length_singleton];exact h9) (by exact hse.snoc (by assumption)) (by have:=Fy (l:=ex.kids) (k:=1) oM;rw[List.length_append,List.length_singleton];omega)) ?_
        rintro e53 w53 ⟨v53,x53,s53,c53,rfl,au,di,dj,cf,g9,ga,gb⟩
        refine⟨_,rfl,?_⟩
        have gc:=au.size
        have dk:AE [g] w w53:=be.trans au
        have iu:=dh.run g1 hgS au
        have iv:=cd.run g2 hgS au
        have gd:=cf.1
        exact Ae 1 Z (A3 (AK (Aq (Ag [6] Z v53 Z ⟨v53,x53,s53,c53,rfl,dk,di,dj,(by assumption),oM,oM,(by exact Yx hc00 hs1 oM oM ‹AT (go c0 (Ea _ _ (ex.kids.getD 0 _) _ _)) _ _ _› (by assumption))⟩))))
       ·refine AA false Z Z (A8 c9) Ac (Ae 1 Z (Aj Z (A0 (A0 (Ad _ [0,0] Z ?_)))))
        by_cases cg:ex.kind=((10:Nat):Int)
        ·refine AA true Z Z (A7 cg) Ac (Ae 1 Z (Ai Z (A4 (Ai Z (A0 (Ad _ [0,0,0,4,0] Z (Af 3 Z (B2 223 [] [] [(.pointer (some ⟨g,0,none⟩)),ve,vv] Z Z bE Ac (Y1 F dex IH1 IH2 _ S g pp dp (n) (s0+1) (c0) (p) ve (ex) vv (env) (fun b hb=>(by have:=hS b hb;omega:b<w11.heap.size)) hgS a7 (hp.chg (Bf (B5 dp)) (a0.sub (Bg hgS))) oM oM oM (hex.chg (Bf (AC dex)) (a0.sub (Bg hgS))) (henv.chg g2 (a0.sub (Bg hgS))) hqenv (by exact hvp) oM (by exact hwf) (by exact hse) oM oM) ?_))))))))
         rintro e61 w61 ⟨v61,x61,s61,c61,rfl,ch,dl,dm,ci,ge,gf,gg⟩
         refine⟨_,rfl,?_⟩
         have gh:=ch.size
         have dn:AE [g] w w61:=a0.trans ch
         have gi:=ci.1
         exact Ae 1 Z (A3 (AK (Aq (Ag [6] Z v61 Z ⟨v61,x61,s61,c61,rfl,dn,dl,dm,(by assumption),oM,oM,(by exact Ob hc00 hs1 oM (by assumption))⟩))))
        ·refine AA false Z Z (A8 cg) Ac (Ae 1 Z (Aj Z (Ad _ [0,0] Z ?_)))
         by_cases cj:ex.kind=((11:Nat):Int)
         ·refine AA true Z Z (A7 cj) Ac (Ae 1 Z (Ai Z (A0 (Ad _ [0,0,0,4,0] Z (Af 3 Z (B2 223 [] [] [(.pointer (some ⟨g,0,none⟩)),ve,vv] Z Z bE Ac (Y1 F dex IH1 IH2 _ S g pp dp (n) (s0+1) (c0) (p) ve (ex) vv (env) (fun b hb=>(by have:=hS b hb;omega:b<w11.heap.size)) hgS a7 (hp.chg (Bf (B5 dp)) (a0.sub (Bg hgS))) oM oM oM (hex.chg (Bf (AC dex)) (a0.sub (Bg hgS))) (henv.chg g2 (a0.sub (Bg hgS))) hqenv (by exact hvp) oM (by exact hwf) (by exact hse) oM oM) ?_))))))
          rintro e67 w67 ⟨v67,x67,s67,c67,rfl,ck,dq,dr,cl,gj,gk,gl⟩
          refine⟨_,rfl,?_⟩
          have gm:=ck.size
          have ds:AE [g] w w67:=a0.trans ck
          have gn:=cl.1
          exact Ae 1 Z (A3 (AK (Aq (Ag [6] Z v67 Z ⟨v67,x67,s67,c67,rfl,ds,dq,dr,(by assumption),oM,oM,(by exact Ob hc00 hs1 oM (by assumption))⟩))))
         ·refine AA false Z Z (A8 cj) Ac (Ae 1 Z (Aj Z (A4 (A0 (Ad _ [0,0,0,0,2,0,0,4,0] Z ?_)))))
          have hkk:ex.kind=3∨ex.kind=4∨ex.kind=5∨ex.kind=6:=dA hwf oM
          have j4:ex.kids.length=2:=V6 hwf hkk
          have j5:=Fy (l:=ex.kids) (k:=0) oM
          have j6:=Fy (l:=ex.kids) (k:=1) oM
          refine Af 2 Z (AV (hex.isPtr) Z Ac (AM (p:=ve) 4 Bo Z (a2 _ (a0.sub (Bg hgS))) Ac (Ak (p:=(Az ve 4)) (.inr Z) a1 Bq Z ((a2 _ (a0.sub (Bg hgS))).ld (i:=4) Eu) Ac (Au (v:=a1) 0 DM BB Z Z a3.rn.isSl Z sD Ac (Af 1 Z ?_)))))
          refine B2 193 [] [] [(.pointer (some ⟨g,0,none⟩)),(Aw a1 0 5),vv] Z Z Ia Ac (IH2 dd12 oM _ S g pp dp (n) (s0+1) (c0) (p) (Aw a1 0 5) (ex.kids.getD 0 Ex.zero) vv (env) (fun b hb=>(by have:=hS b hb;omega:b<w11.heap.size)) hgS a7 (hp.chg (Bf (B5 dp)) (a0.sub (Bg hgS))) oM oM oM (RN.ptr (AC dd12) (by decide) Ex.zero (a3.rn.chg (Am (AC dd12)) (a0.sub (Bg hgS))) sD) (henv.chg g2 (a0.sub (Bg hgS))) hqenv (by exact hvp) oM Ju (by exact hse) Pl) ?_
          rintro e72 w72 ⟨v72,x72,s72,c72,rfl,cm,dt,du,b3,gp,gq,cn⟩
          refine⟨_,rfl,?_⟩
          have gr:=cm.size
          have af:AE [g] w w72:=a0.trans cm
          have gs:=b3.1
          have hra:=cn
          have co:=b3
          refine Ae 1 Z (A0 (Ad _ [0,0,0,0,2,0,0,4,0] Z (Af 2 Z (AV (hex.isPtr) Z Ac (AM (p:=ve) 4 Bo Z (a2 _ (af.sub (Bg hgS))) Ac (Ak (p:=(Az ve 4)) (.inr Z) a1 Bq Z ((a2 _ (af.sub (Bg hgS))).ld (i:=4) Eu) Ac (Au (v:=a1) 1 DM BB Z Z a3.rn.isSl Z sD Ac (Af 1 Z ?_))))))))
          refine B2 193 [] [] [(.pointer (some ⟨g,0,none⟩)),(Aw a1 1 5),vv] Z Z Ia Ac (IH2 dd12 oM _ S g pp dp (n) (s72) (c72) (p) (Aw a1 1 5) (ex.kids.getD 1 Ex.zero) vv (env) (fun b hb=>(by have:=hS b hb;omega:b<w72.heap.size)) hgS dt (hp.chg (Bf (B5 dp)) (af.sub (Bg hgS))) oM oM oM (RN.ptr (AC dd12) (by decide) Ex.zero (a3.rn.chg (Am (AC dd12)) (af.sub (Bg hgS))) sD) (henv.chg g2 (af.sub (Bg hgS))) hqenv (by exact hvp) oM Ju (by exact hse) (by have:=Fy (l:=ex.kids) (k:=1) oM;omega)) ?_
          rintro e77 w77 ⟨v77,x77,s77,c77,rfl,bf,ac,a6,b4,gt,gu,cp⟩
          refine⟨_,rfl,?_⟩
          have gv:=bf.size
          have a4:AE [g] w w77:=af.trans bf
          have a8:=du.run g1 hgS bf
          have cq:=b4.1
          have hrb:=cp
          have j7:=b4
          have hlb:=cq
          have hzz:x77.getD 0 0=0∨¬x77.getD 0 0=0:=Decidable.em _
          refine Ae 1 Z (A0 (A5 (A0 (Ad _ [0,0,0,2,0,0] Z (Af 1 Z (AV (hex.isPtr) Z Ac (AM (p:=ve) 0 C3 Z (a2 _ (a4.sub (Bg hgS))) Ac (Ak (p:=(Az ve 0)) (.inr Z) (.int .i64 ex.kind) AI Z ((a2 _ (a4.sub (Bg hgS))).ld (i:=0) Eu) Ac ?_))))))))
          by_cases cr:ex.kind=((3:Nat):Int)
          ·refine AA true Z Z (A7 cr) Ac (Ae 1 Z (Ai Z (A0 (Ad _ [0,0,3,0] Z (Af 2 Z (Ap 224 [] [] [v72,v77] Z Z bF Ac (J5 _ _ _ _ _ (a8).rd (a6).rd oM oM) ?_))))))
           rintro e84 w84 ⟨b5,rfl,ag,bg⟩
           refine⟨_,rfl,ag,?_⟩
           have gw:=ag.size
           have dv:AE [g] w w84:=a4.ext ag
           have av:=ac.ext ag
           have iw:=a8.ext g1 ag
           have ix:=a6.ext g1 ag
           exact Ae 1 Z (A3 (AK (Aq (Ag [6] Z b5 Z ⟨b5,Em x72 x77,s77,c77,rfl,dv,av,(RN.of_fr1 bg (fun b hb=>by have:=hS b hb;omega)),(by exact I4 co),oM,oM,(by exact Hp hc00 hs1 oM (KL oM hra hrb) (fun h0=>by rw[h0];exact dD oM) (fun _=>rfl))⟩))))
          ·refine AA false Z Z (A8 cr) Ac (Ae 1 Z (Aj Z (A0 (Ad _ [0,0,0,2,0,0] Z (Af 1 Z (AV (hex.isPtr) Z Ac (AM (p:=ve) 0 C3 Z (a2 _ (a4.sub (Bg hgS))) Ac (Ak (p:=(Az ve 0)) (.inr Z) (.int .i64 ex.kind) AI Z ((a2 _ (a4.sub (Bg hgS))).ld (i:=0) Eu) Ac ?_))))))))
           by_cases cs:ex.kind=((4:Nat):Int)
           ·refine AA true Z Z (A7 cs) Ac (Ae 1 Z (Ai Z (A0 (Ad _ [0,0,3,0] Z (Af 2 Z (Ap 225 [] [] [v72,v77] Z Z jF Ac (NL _ _ _ _ _ (a8).rd (a6).rd oM oM oM) ?_))))))
            rintro e88 w88 ⟨b6,rfl,ah,bh⟩
            refine⟨_,rfl,ah,?_⟩
            have gx:=ah.size
            have dw:AE [g] w w88:=a4.ext ah
            have aw:=ac.ext ah
            have iy:=a8.ext g1 ah
            have iz:=a6.ext g1 ah
            exact Ae 1 Z (A3 (AK (Aq (Ag [6] Z b6 Z ⟨b6,Dt x72 x77,s77,c77,rfl,dw,aw,(RN.of_fr1 bh (fun b hb=>by have:=hS b hb;omega)),(by exact Mp co),oM,oM,(by exact Hp hc00 hs1 oM (KL oM hra hrb) (fun h0=>by rw[h0];exact dE oM) (fun _=>rfl))⟩))))
           ·refine AA false Z Z (A8 cs) Ac (Ae 1 Z (Aj Z (A0 (Ad _ [0,0,0,2,0,0] Z (Af 1 Z (AV (hex.isPtr) Z Ac (AM (p:=ve) 0 C3 Z (a2 _ (a4.sub (Bg hgS))) Ac (Ak (p:=(Az ve 0)) (.inr Z) (.int .i64 ex.kind) AI Z ((a2 _ (a4.sub (Bg hgS))).ld (i:=0) Eu) Ac ?_))))))))
            by_cases ct:ex.kind=((5:Nat):Int)
            ·refine AA true Z Z (A7 ct) Ac (Ae 1 Z (Ai Z (A0 (Ad _ [0,0,3,0] Z (Af 2 Z (Ap 226 [] [] [v72,v77] Z Z jG Ac (NM _ _ _ _ _ (a8).rd (a6).rd oM oM) ?_))))))
             rintro e92 w92 ⟨b7,rfl,ai,bi⟩
             refine⟨_,rfl,ai,?_⟩
             have gy:=ai.size
             have dx:AE [g] w w92:=a4.ext ai
             have ax:=ac.ext ai
             have j0:=a8.ext g1 ai
             have j1:=a6.ext g1 ai
             exact Ae 1 Z (A3 (AK (Aq (Ag [6] Z b7 Z ⟨b7,C5 x72 x77,s77,c77,rfl,dx,ax,(RN.of_fr1 bi (fun b hb=>by have:=hS b hb;omega)),(by exact I5 co),oM,oM,(by exact Hp hc00 hs1 oM (KL oM hra hrb) (fun h0=>by rw[h0];exact dF oM) (fun _=>rfl))⟩))))
            ·refine AA false Z Z (A8 ct) Ac (Ae 1 Z (Aj Z (A0 (Ad _ [0,0,0,2,0,0,0,0,2,0,0,0] Z (Af 1 Z (Bz Z Ac (Ao (p:=(.pointer (some ⟨g,0,none⟩))) (b:=g) (o:=0) 3 FJ Z Z Ac (Ak (p:=(Az (.pointer (some ⟨g,0,none⟩)) 3)) (.inr Z) (.int .i64 c77) AI Z (ac.ldp (i:=3) sM) Ac ?_))))))))
             by_cases cu:c77≠((0:Nat):Int)
             ·refine AY true Z Z (A7 cu) Ac (Ae 7 Z (Ai Z (A0 (Ad _ [0,4,0] Z (Af 1 Z (B2 221 [] [] [(.pointer (some ⟨g,0,none⟩)),(.int .i64 ((6:Nat):Int))] Z Z SY Ac (Db _ S g pp dp (n) (s77) (c77) (p) (((6:Nat):Int)) (fun b hb=>(by have:=hS b hb;omega:b<w77.heap.size)) hgS ac (hp.chg (Bf (B5 dp)) (a4.sub (Bg hgS))) oM oM oM oM oM) ?_))))))
              rintro e96 w96 ⟨v96,x96,s96,c96,rfl,ay,dy,dz,cv,gz,i0,b8⟩
              refine⟨_,rfl,?_⟩
              have i1:=ay.size
              have e0:AE [g] w w96:=a4.trans ay
              have i2:=a8.run g1 hgS ay
              have i3:=a6.run g1 hgS ay
              have i4:=cv.1
              have hfs:=b8.1
              have hff:=b8.2
              exact Ae 1 Z (A3 (AK (Aq (Ag [6] Z v96 Z ⟨v96,x96,s96,c96,rfl,e0,dy,dz,(by assumption),oM,oM,(by rw[hfs];exact Hp hc00 hs1 oM (KL oM hra hrb) (fun h0=>absurd h0 oM) (fun h0=>by rw[hff,if_neg h0]))⟩))))
             ·refine AY false Z Z (A8 cu) Ac (Af 2 Z (Au (v:=v77) 0 Bh Bx Z Z a6.slL Z (by rw[hlb];omega) (Al (e:=175) Z Z Z) ?_))
              have cw:=RN.getI (w:=w77) (k:=0) a6 (by rw[hlb];omega)
              refine Ak (p:=Aw v77 0 1) (.inr Z) (.int .i64 (x77.getD 0 0)) AI Z (cw.1 _ (AE.refl _ _)) (Al (e:=175) Z Z Z) ?_
              by_cases b9:x77.getD 0 0=((0:Nat):Int)
              ·refine AA true Z Z (A7 b9) (Al (e:=175) Z Z Z) (Ae 2 Z (Ai Z (A0 (Ad _ [0,4,0] Z (Af 1 Z (B2 221 [] [] [(.pointer (some ⟨g,0,none⟩)),(.int .i64 ((6:Nat):Int))] Z Z SY Ac (Db _ S g pp dp (n) (s77) (c77) (p) (((6:Nat):Int)) (fun b hb=>(by have:=hS b hb;omega:b<w77.heap.size)) hgS ac (hp.chg (Bf (B5 dp)) (a4.sub (Bg hgS))) oM oM oM oM oM) ?_))))))
               rintro e105 w105 ⟨v105,x105,s105,c105,rfl,ad,cx,cy,bj,e1,e3,ak⟩
               refine⟨_,rfl,?_⟩
               have e4:=ad.size
               have cz:AE [g] w w105:=a4.trans ad
               have i5:=a8.run g1 hgS ad
               have i6:=a6.run g1 hgS ad
               have e5:=bj.1
               have hfs:=ak.1
               have hff:=ak.2
               exact Ae 1 Z (A3 (AK (Aq (Ag [6] Z v105 Z ⟨v105,x105,s105,c105,rfl,cz,cx,cy,(by assumption),oM,oM,(by rw[hfs];exact Hp hc00 hs1 oM (KL oM hra hrb) (fun h0=>by rw[hff,if_pos h0];exact Yy (xs:=[_,_]) oM (hzz.resolve_right oM)) (fun h0=>by rw[hff,if_neg h0]))⟩))))
              ·refine AA false Z Z (A8 b9) (Al (e:=175) Z Z Z) (Ae 2 Z (Aj Z (A4 (A0 (Ad _ [0,0,3,0] Z (Af 2 Z (Ap 227 [] [] [v72,v77] Z Z jH Ac (NN _ _ _ _ _ (a8).rd (a6).rd oM oM oM (by exact co.2)) ?_)))))))
               rintro e112 w112 ⟨al,rfl,a9,az⟩
               refine⟨_,rfl,a9,?_⟩
               have e6:=a9.size
               have d0:AE [g] w w112:=a4.ext a9
               have am:=ac.ext a9
               have i7:=a8.ext g1 a9
               have i8:=a6.ext g1 a9
               exact Ae 1 Z (A3 (Ag [6] Z al Z ⟨al,BT x72 x77,s77,c77,rfl,d0,am,(RN.of_fr1 az (fun b hb=>by have:=hS b hb;omega)),(by exact H0 co),oM,oM,(by exact Hp hc00 hs1 oM (KL oM hra hrb) (fun h0=>by rw[h0];exact dH (xs:=[_,_]) oM (hzz.resolve_left oM)) (fun _=>rfl))⟩))
end
section
set_option maxHeartbeats 4000000
set_option maxRecDepth 100000
attribute [local irreducible] LW
theorem Zw:∀F d,SV F d:=by
  intro F
  induction F using Nat.strongRecOn with
  |_ F ihF =>
    intro d
    induction d using Nat.strongRecOn with
    |_ d ihd =>
      intro w S g pp dp n s0 c0 p ve ex vv env hS hgS hB0 hp hn hs0 hc0 hex henv hqenv hvp hF hwf hse hdp
      exact Jv w S F g pp dp n s0 c0 p d ve ex vv env hS hgS hB0 hp hn hs0 hc0 hex henv hqenv hvp hF hwf hse hdp ihF ihd
theorem Y3 (F:Nat):SO F:=XZ F fun d=>Zw F d
theorem Il (w:World)(dp:Nat)(vp:Value)(p:List Fn)(f:Int)(va:Value)(a:List (List Int))(n:Nat)(hp:RN [] (rP (Nu dp)) w.heap vp p)(_hf:BC f)(ha:RN [] (B3 (B3 rI)) w.heap va a)(hqa:Cf va)(hvp:IJ p)(hf:0≤f∧f<((p.length:Nat):Int))(hl:((a.length:Nat):Int)=(p.getD f.toNat Fn.zero).params)(hse:Bs n a)(hn:1≤n∧n≤13) :
  Calls Tryz.prog 110 #[vp,.int .i64 f,va,.int .i64 ((n:Nat):Int)] w (fun e w'=>∃v0:Value,e=.returned (.tuple #[v0,.int .i64 (Hl p n f.toNat a)])∧Ay w w'∧Fr (AR (AR rI 2) 27) w.heap.size w'.heap.size w'.heap v0 (E7 p n f.toNat a)∧ZH p n f.toNat a):=by
 refine At [vp,.int .i64 f,va,.int .i64 ((n:Nat):Int)] 53 Tryz.func110 Z Z sM ?_
 have bi:Ay w w:=Ay.refl w
 have hl_va:=ha.lenL
 unfold maxLen at hl_va
 refine A0 (Ad _ [0,0] Z (Ae 2 Z (A0 (Ad _ [0,0,0,3,0] Z (Af 2 Z ?_)))))
 have aw:∀(vp:Value) (a8:∃b o,vp=.pointer (some ⟨b,o,none⟩)) (wq:World),(Instr.build 157 #[(0,vp),(1,(.int .i64 ((n:Nat):Int)))]).run Tryz.prog wq=.ok (.agg #[vp,(.int .i64 ((n:Nat):Int)),(.int .i64 0),(.int .i64 0)]) wq:=by intro vp a8 wq;obtain⟨b0,o0,rfl⟩:=a8;kernel_rfl
 refine EO (ps:=#[(0,vp),(1,(.int .i64 ((n:Nat):Int)))]) (.agg #[vp,(.int .i64 ((n:Nat):Int)),(.int .i64 0),(.int .i64 0)]) (by simp only[List.map_toArray,List.map_cons,List.map_nil];rfl) (fun wq=>aw vp hp.isPtr wq) Ac (Bv (cs:=#[vp,(.int .i64 ((n:Nat):Int)),(.int .i64 0),(.int .i64 0)]) Z Ac fun w2 ax bt ay=>?_)
 have az:=ax.size
 have a9:=bi.trans ax
 replace ay:BX w2.heap w.heap.size [vp,(.int .i64 ((n:Nat):Int)),(.int .i64 0),(.int .i64 0)]:=ay
 refine Ae 1 Z (A0 (Ad _ [0,0,0,0,2,0,0,0,4,0] Z ?_))
 have hpr:=hvp.par f.toNat oM
 have hou:=hvp.outs f.toNat oM
 have hle:a.length=a.length:=rfl
 refine Af 2 Z (AV (hp.isPtr) Z Ac ?_)
 obtain⟨cs3,bu,bj⟩:=RN.at (B5 _) hp
 obtain⟨av,rfl,b1⟩:=RPr.of bu
 have af:=b1.lenle
 unfold maxLen at af
 refine AM (p:=vp) 0 BU Z (bj _ (AE.of_ext [] a9)) Ac (Ak (p:=(Az vp 0)) (.inr Z) av Cx Z ((bj _ (AE.of_ext [] a9)).ld (i:=0) (by simp[Ge,Gf])) Ac (Af 1 Z (Au (v:=av) ((f).toNat) GA CE Z Z b1.isSl oM sD Ac (Af 1 Z ?_))))
 refine B2 145 [] [] [(.pointer (some ⟨w.heap.size,0,none⟩)),(Aw av ((f).toNat) 3),va] Z Z Xl Ac (Y3 f.toNat _ [w.heap.size] w.heap.size vp dp (n) (0) (0) (p) dp (Aw av ((f).toNat) 3) (p.getD ((f).toNat) Fn.zero) va (a) (fun b hb=>(by have:=Ab hb;omega:b<w2.heap.size)) (List.mem_singleton.2 Z) ay ((hp.add (F:=[w.heap.size]) (Bf (B5 dp)) (fun b hb=>by have:=Ab hb;omega)).ext (Bf (B5 dp)) a9) oM oM oM (RN.ptr (AB dp) (by decide) Fn.zero ((b1.add (F:=[w.heap.size]) (Am (AB dp)) (fun b hb=>by have:=Ab hb;omega)).ext (Am (AB dp)) a9) sD) ((ha.add (F:=[w.heap.size]) g2 (fun b hb=>by have:=Ab hb;omega)).ext g2 a9) hqa (by exact hvp) oM (by intro k9 b2;have h9:=hvp.wf f.toNat oM k9 b2;rw[hle];rw[hl];exact h9) (by exact hse) (by intro k9 b2;have:=hvp.deep f.toNat oM k9 b2;omega) oM) ?_
 rintro e4 w4 ⟨v4,x4,s4,c4,rfl,b3,bk,bv,aa,b4,b5,b6⟩
 refine⟨_,rfl,?_⟩
 have bw:=b3.size
 have ag:Ay w w4:=b3.below a9 (fun b hb=>by have:b=w.heap.size:=(by simpa using hb);omega) a9.size
 have ah:=aa.2.1
 have ai:=aa.2.2
 have bx:=aa.1
 have aj:=bv.rt g2
 have hRL:=b6
 have hCB:=b5
 have hEP:=ZH.mk' hRL hCB b4 ah ai
 have hXS:=ai
 have hXL:=ah
 refine Ae 1 Z (A0 (A0 (Ad _ [0,0,0,2,0] Z (Af 1 Z (Bz Z Ac (Ao (p:=(.pointer (some ⟨w.heap.size,0,none⟩))) (b:=w.heap.size) (o:=0) 3 FJ Z Z Ac (Ak (p:=(Az (.pointer (some ⟨w.heap.size,0,none⟩)) 3)) (.inr Z) (.int .i64 c4) AI Z (bk.ldp (i:=3) sM) Ac ?_)))))))
 by_cases bl:c4≠((0:Nat):Int)
 ·refine AY true Z Z (A7 bl) Ac (Ah (Ai Z (A0 (B1 _ [3,0,0,0,1,0,0] mixed (by kernel_rfl) (BH (AR rI 2) o1 Bi AW Ac fun v9 w9 ak c8 bz=>?_)))))
  replace ak:=ak.of_drew
  have c0:=ak.size
  have c1:=ag.trans ak
  have c2:=aj.ext g2 ak
  exact Af 1 Z (Bz Z Ac (Ao (p:=(.pointer (some ⟨w.heap.size,0,none⟩))) (b:=w.heap.size) (o:=0) 3 FJ Z Z Ac (Ak (p:=(Az (.pointer (some ⟨w.heap.size,0,none⟩)) 3)) (.inl Z) (.int .i64 c4) AI Z (bk.ldp (i:=3) sM) Ac (Ae 2 Z (A3 (Aq (Ag [8,9] Z (.tuple #[v9,(.int .i64 c4)]) Z ⟨v9,(by rw[I6 (KF hRL oM)] <;> rfl),c1,(by rw[V8 (KF hRL oM)];exact(bz.up o2).low ag.size),hEP⟩)))))))
 ·refine AY false Z Z (A8 bl) Ac (Ah (Aj Z (A4 (A0 (Ad _ [3,0] Z (BH (AR rI 2) o1 Bi AW Ac fun v11 w11 a6 b7 al=>?_))))))
  have am:=a6.size
  have an:=ag.trans a6
  have c3:=aj.ext g2 a6
  refine Ae 1 Z (A0 (A0 (Ad _ [0] Z (Ae 1 Z (A5 ?_)))))
  refine AL (S:=Nat×Value) (fun⟨k,vo⟩=>([(12,vo),(13,(.int .i64 ((k:Nat):Int))),(11,v4)])) (fun⟨k,vo⟩ W=>Ay w W∧Fr (AR (AR rI 2) 27) w4.heap.size W.heap.size W.heap vo ((x4).take k)∧k≤(x4).length∧RT w4.heap.size (B3 (B3 rI)) W.heap v4 x4∧w4.heap.size≤W.heap.size∧w4.heap.size≤w4.heap.size∧w4.heap.size≤W.heap.size) (fun⟨k,vo⟩=>(x4).length-k) (0,v11) ⟨rfl,rfl,rfl,trivial⟩ ⟨an,al.up o2,sD,(by assumption),oM,oM,oM⟩ ?_
  clear bi bt ax az a9 af b3 al b7 a6 am an
  rintro⟨k,vo⟩ ρ16 w16 ⟨ab,a4,b8,a0,bm,bn,bo⟩
  have bp:w.heap.size≤w16.heap.size:=ab.size
  refine A0 (A0 (Ad _ [0,0,0,0] Z (Af 2 Z (AJ (v:=v4) Bi Z a0.slL Ac ?_))))
  by_cases ao:((k:Nat):Int)<((x4.length:Nat):Int)
  ·refine Av true Z Z (A7 ao) Ac (Ah (Ai Z (A4 (A0 (A5 (Ad _ [0,0,0,0,2,3,3,4,0] Z ?_))))))
   have hkx:=hXS k oM
   have hkl:=hkx.1
   refine Af 3 Z (Au (v:=v4) k Bi AW Z Z a0.slL Z sD Ac ?_)
   obtain⟨ap,b9,ac⟩:=RT.getL g1 [] (k:=k) a0 sD
   have aq:=ac.lenL
   unfold maxLen at aq
   refine Ak (p:=Aw v4 k 1) (.inr Z) ap B6 Z b9 Ac (Ap 165 [] [] [ap] Z Z SW Ac (EV _ _ _ ac.rd oM) ?_)
   rintro e20 w20 ⟨ar,rfl,a1,ad⟩
   refine⟨_,rfl,a1,?_⟩
   have bq:=a1.size
   have ba:=ab.trans a1
   have a2:=a4.ext (o2) a1
   have bb:=a0.ext g2 a1
   have bc:=ac.ext g1 a1
   refine Bn (u:=ar) (B:=w16.heap.size) o1 Bi AW Z Z ad (by first|exact A9 _|omega) Ac fun v23 w23 a5 c5 bd=>?_
   have br:=a5.size
   have au:=ba.trans a5
   have a3:=a2.ext (o2) a5
   have be:=bb.ext g2 a5
   have bf:=bc.ext g1 a5
   refine Ej o1 (v:=vo) (a:=v23) Bi AW Z Z Z a3 oM bd oM oM sD (by unfold maxLen;first|omega|assumption|(simp;done)|(simp;omega)) Ac fun v26 w26 F26 a7 ae bg=>?_
   have bh:Ay w w26:=a7.below au (fun c hc=>Aa ag.size (ae c hc).1) au.size
   have bs:=a7.size
   have c6:=be.chg g2 a7 (fun c hc=>by have:=ae c hc;omega)
   have c7:=bf.chg g1 a7 (fun c hc=>by have:=ae c hc;omega)
   refine Ae 1 Z (Ad _ [0,0,0] Z (Af 1 Z (AH ((k+1:Nat):Int) Z Z (B7 oM sD) Ac (Ae 1 Z ?_))))
   exact⟨((k+1),v26),_,rfl,⟨rfl,rfl,rfl,trivial⟩,⟨bh,(by rw[Cq [] oM];exact bg.up o2),sD,(by assumption),oM,oM,oM⟩,by first|omega|(dsimp only;omega)⟩
  ·exact Av false Z Z (A8 ao) Ac (Ah (Aj Z (A6 (As (As (An (A0 (Ad _ [0,0,0] Z (Ae 3 Z (A3 (Ag [8,9] Z (.tuple #[vo,(.int .i64 ((0:Nat):Int))]) Z ⟨vo,(by rw[O5 (O4 hRL oM)] <;> rfl),ab,(by have h:=(a4.up o2).low ag.size;rw[Mq (O4 hRL oM)];rwa [List.take_of_length_le oM]at h),hEP⟩)))))))))))
theorem bR {p:Prop}(h:p:=by unfold maxLen;first|omega|assumption|(simp only[List.length_nil,List.length_cons,List.length_append,List.length_set,List.length_replicate];omega)|(simp[List.length_nil,List.length_cons,List.length_append,List.length_set,List.length_replicate];done)|(simp[List.length_nil,List.length_cons,List.length_append,List.length_set,List.length_replicate];omega)):p:=h
theorem Im (w:World)(dp:Nat)(vp:Value)(p:List Fn)(f:Int)(va:Value)(a:List Int)(hp:RN [] (rP (Nu dp)) w.heap vp p)(_hf:BC f)(ha:Rd (B3 rI) w.heap va a)(hvp:IJ p)(hf:0≤f∧f<((p.length:Nat):Int))(hl:((a.length:Nat):Int)=(p.getD f.toNat Fn.zero).params)(hna:B8 a=true) :
  Calls Tryz.prog 68 #[vp,.int .i64 f,va] w (fun e w'=>∃v0:Value,e=.returned (.tuple #[v0,.int .i64 ((QN p 1 f.toNat (C7 a):Nat):Int),.int .i64 (ET p f.toNat a)])∧Ay w w'∧Fr (AR rI 2) w.heap.size w'.heap.size w'.heap v0 (FN p f.toNat a)∧fi p f.toNat a∧QN p 1 f.toNat (C7 a)≤3000):=by
 refine At [vp,.int .i64 f,va] 73 Tryz.func68 Z Z sM ?_
 have cb:Ay w w:=Ay.refl w
 have hl_va:=ha.lenle
 have hpr:=hvp.par f.toNat oM
 have hou:=hvp.outs f.toNat oM
 refine A0 (Ad _ [0,0,0] Z (Ae 3 Z (A0 (Ad _ [0,0,3,0] Z (Af 1 Z ?_)))))
 have bm:∀(vp:Value) (ap:∃b o,vp=.pointer (some ⟨b,o,none⟩)) (wq:World),(Instr.build 157 #[(0,vp),(1,(.int .i64 ((1:Nat):Int)))]).run Tryz.prog wq=.ok (.agg #[vp,(.int .i64 ((1:Nat):Int)),(.int .i64 0),(.int .i64 0)]) wq:=by intro vp ap wq;obtain⟨b0,o0,rfl⟩:=ap;kernel_rfl
 refine EO (ps:=#[(0,vp),(1,(.int .i64 ((1:Nat):Int)))]) (.agg #[vp,(.int .i64 ((1:Nat):Int)),(.int .i64 0),(.int .i64 0)]) (by simp only[List.map_toArray,List.map_cons,List.map_nil];rfl) (fun wq=>bm vp hp.isPtr wq) Ac (Bv (cs:=#[vp,(.int .i64 ((1:Nat):Int)),(.int .i64 0),(.int .i64 0)]) Z Ac fun w2 bn ct bo=>?_)
 have bp:=bn.size
 have bq:=cb.trans bn
 replace bo:BX w2.heap w.heap.size [vp,(.int .i64 ((1:Nat):Int)),(.int .i64 0),(.int .i64 0)]:=bo
 refine Ae 1 Z (A0 (Ad _ [3,0] Z (BH (AR rI 2) o1 Bi AW Ac fun v3 w3 bj cu cc=>?_)))
 have br:=bj.size
 have cd:=bq.trans bj
 have b3:=bo.ext bj
 refine Ae 1 Z (A0 (A0 (Ad _ [0] Z (Ae 1 Z (A5 ?_)))))
 refine AL (S:=Nat×Value) (fun⟨k,vo⟩=>([(10,vo),(11,(.int .i64 ((k:Nat):Int))),(0,vp),(1,(.int .i64 f)),(2,va),(9,(.pointer (some ⟨w.heap.size,0,none⟩)))])) (fun⟨k,vo⟩ W=>Ay w W∧Fr (AR (AR rI 2) 27) w2.heap.size W.heap.size W.heap vo ((a.take k).map (fun x=>[x]))∧BX W.heap w.heap.size [vp,(.int .i64 ((1:Nat):Int)),(.int .i64 0),(.int .i64 0)]∧k≤a.length∧w.heap.size<w2.heap.size∧w2.heap.size≤W.heap.size) (fun⟨k,vo⟩=>a.length-k) (0,v3) ⟨rfl,rfl,rfl,rfl,rfl,rfl,trivial⟩ ⟨cd,cc.up o2,b3,sD,oM,oM⟩ ?_
 clear cb ct bn cc cu bj br cd
 rintro⟨k,vo⟩ ρ5 w5 ⟨ag,a0,a2,ce,cv,cw⟩
 have bs:w.heap.size≤w5.heap.size:=ag.size
 have d9:=a2.lt
 refine A0 (A0 (Ad _ [0,0,0,0] Z (Af 2 Z (AJ (v:=va) Bh Z ha.isSl Ac ?_))))
 by_cases cf:((k:Nat):Int)<((a.length:Nat):Int)
 ·refine Av true Z Z (A7 cf) Ac (Ah (Ai Z (A4 (A0 (A5 (Ad _ [0,0,0,0,2,3,3,4,0] Z (Af 3 Z (Au (v:=va) k Bh Bx Z Z ha.isSl Z sD Ac ?_))))))))
  refine Ak (p:=Aw va k 1) (.inr Z) (.int .i64 (a.getD k 0)) AI Z (AU ag (ha.getI sD).1) Ac ?_
  refine Bn (u:=(.int .i64 (a.getD k 0))) (B:=w5.heap.size) AO Bh Bx Z Z (Nt w5.heap.size w5.heap.size _ _ (ha.getI sD).2) (A9 _) Ac fun v9 w9 bk da cx=>?_
  have cy:=bk.size
  have cz:=ag.trans bk
  have ah:=a0.ext (o2) bk
  have ai:=a2.ext bk
  refine Bn (u:=v9) (B:=w5.heap.size) o1 Bi AW Z Z cx (by first|exact A9 _|omega) Ac fun v10 w10 aj d0 bt=>?_
  have cg:=aj.size
  have b4:=cz.trans aj
  have aa:=ah.ext (o2) aj
  have ab:=ai.ext aj
  refine Ej o1 (v:=vo) (a:=v10) Bi AW Z Z Z aa oM bt oM oM sD bR Ac fun v11 w11 F11 aw b5 bu=>?_
  have bv:Ay w w11:=aw.below b4 (fun c hc=>Aa bq.size (b5 c hc).1) b4.size
  have ch:=aw.size
  have bw:=ab.chg aw (fun hm=>by have:=b5 _ hm;omega)
  refine Ae 1 Z (Ad _ [0,0,0] Z (Af 1 Z (AH ((k+1:Nat):Int) Z Z (B7 oM sD) Ac (Ae 1 Z ?_))))
  exact⟨((k+1),v11),_,rfl,⟨rfl,rfl,rfl,rfl,rfl,rfl,trivial⟩,⟨bv,(by rw[Dc 0 oM];exact bu.up o2),bw,sD,oM,oM⟩,by first|omega|(dsimp only;omega)⟩
 ·refine Av false Z Z (A8 cf) Ac (Ah (Aj Z (A6 (As (As (An (A0 (Ad _ [0,0,0,0,2,0,0,0,4,0] Z ?_))))))))
  have henv:(a.take k).map (fun x=>[x])=C7 a:=by rw[List.take_of_length_le oM];rfl
  have hle:((a.take k).map (fun x=>[x])).length=a.length:=by rw[henv];unfold C7;rw[List.length_map]
  refine Af 2 Z (AV (hp.isPtr) Z Ac ?_)
  obtain⟨cs13,bx,b6⟩:=RN.at (B5 _) hp
  obtain⟨ak,rfl,ax⟩:=RPr.of bx
  have aq:=ax.lenle
  unfold maxLen at aq
  refine AM (p:=vp) 0 BU Z (b6 _ (AE.of_ext [] ag)) Ac (Ak (p:=(Az vp 0)) (.inr Z) ak Cx Z ((b6 _ (AE.of_ext [] ag)).ld (i:=0) (by simp[Ge,Gf])) Ac (Af 1 Z (Au (v:=ak) ((f).toNat) GA CE Z Z ax.isSl oM sD Ac (Af 1 Z ?_))))
  refine B2 145 [] [] [(.pointer (some ⟨w.heap.size,0,none⟩)),(Aw ak ((f).toNat) 3),vo] Z Z Xl Ac (Y3 f.toNat _ [w.heap.size] w.heap.size vp dp (1) (0) (0) (p) dp (Aw ak ((f).toNat) 3) (p.getD ((f).toNat) Fn.zero) vo ((a.take k).map (fun x=>[x])) (fun b hb=>(by have:=Ab hb;omega:b<w5.heap.size)) (List.mem_singleton.2 Z) a2 ((hp.add (F:=[w.heap.size]) (Bf (B5 dp)) (fun b hb=>by have:=Ab hb;omega)).ext (Bf (B5 dp)) ag) oM oM oM (RN.ptr (AB dp) (by decide) Fn.zero ((ax.add (F:=[w.heap.size]) (Am (AB dp)) (fun b hb=>by have:=Ab hb;omega)).ext (Am (AB dp)) ag) sD) (RN.of_fr2 a0 (fun b hb=>by have:=Ab hb;omega)) a0.cap (by exact hvp) oM (by intro k9 bz;have h9:=hvp.wf f.toNat oM k9 bz;rw[hle];rw[hl];exact h9) (by rw[henv];exact Dv hna) (by intro k9 bz;have:=hvp.deep f.toNat oM k9 bz;omega) oM) ?_
  rintro e14 w14 ⟨v14,x14,s14,c14,rfl,al,ay,c0,ac,b7,b8,b9⟩
  refine⟨_,rfl,?_⟩
  have ci:=al.size
  have ad:Ay w w14:=al.below ag (fun b hb=>by have:b=w.heap.size:=(by simpa using hb);omega) ag.size
  have az:=a0.chg (o2) al (fun c hc=>by have:=Ab hc;omega)
  have ar:=ac.2.1
  have au:=ac.2.2
  have cj:=ac.1
  have av:=c0.rt g2
  have hRL:=b9
  rw[henv]at hRL
  have hCB:=b8
  have hEP:=ZH.mk' hRL hCB b7 ar au
  have hNP:=fi.mk' hEP
  have hST:=hEP.steps
  have hXS:=au
  have hXL:=ar
  refine Ae 1 Z (A0 (A0 (Ad _ [0,0,0,2,0] Z (Af 1 Z (Bz Z Ac (Ao (p:=(.pointer (some ⟨w.heap.size,0,none⟩))) (b:=w.heap.size) (o:=0) 3 FJ Z Z Ac (Ak (p:=(Az (.pointer (some ⟨w.heap.size,0,none⟩)) 3)) (.inr Z) (.int .i64 c14) AI Z (ay.ldp (i:=3) sM) Ac ?_)))))))
  by_cases ba:c14≠((0:Nat):Int)
  ·refine AY true Z Z (A7 ba) Ac (Ah (Ai Z (A0 (B1 _ [3,0,0,0,1,0,0,0] mixed (by kernel_rfl) (BH (rI) AO Bh Bx Ac fun v20 w20 a4 d1 c1=>?_)))))
   replace a4:=a4.of_drew
   have ck:=a4.size
   have c2:=ad.trans a4
   have bl:=az.ext (o2) a4
   have d2:=av.ext g2 a4
   exact Af 1 Z (Bz Z Ac (Ao (p:=(.pointer (some ⟨w.heap.size,0,none⟩))) (b:=w.heap.size) (o:=0) 3 FJ Z Z Ac (Ak (p:=(Az (.pointer (some ⟨w.heap.size,0,none⟩)) 3)) (.inl Z) (.int .i64 c14) AI Z (ay.ldp (i:=3) sM) Ac (Ae 3 Z (A3 (Aq (Ag [6,7,8] Z (.tuple #[v20,(.int .i64 ((0:Nat):Int)),(.int .i64 c14)]) Z ⟨v20,(by rw[ZG (KF hRL oM),show ET p f.toNat a=_ from I6 (KF hRL oM)] <;> rfl),c2,(by rw[hNP.non (by rw[show ET p f.toNat a=_ from I6 (KF hRL oM)];omega)];exact(c1.up o1).low ad.size),hNP,hST⟩)))))))
  ·refine AY false Z Z (A8 ba) Ac (Ah (Aj Z (A4 (A0 (Ad _ [3,0] Z (BH (rI) AO Bh Bx Ac fun v22 w22 a5 c3 bb=>?_))))))
   have bc:=a5.size
   have bd:=ad.trans a5
   have am:=az.ext (o2) a5
   have an:=ay.ext a5
   have d3:=av.ext g2 a5
   refine Ae 1 Z (A0 (A0 (Ad _ [0] Z (Ae 1 Z (A5 ?_)))))
   refine AL (S:=Nat×Value) (fun⟨k,vo⟩=>([(13,vo),(14,(.int .i64 ((k:Nat):Int))),(9,(.pointer (some ⟨w.heap.size,0,none⟩))),(12,v14)])) (fun⟨k,vo⟩ W=>Ay w W∧Fr (AR rI 2) w14.heap.size W.heap.size W.heap vo (((x14).take k).map (fun s=>s.getD 0 0))∧BX W.heap w.heap.size [vp,(.int .i64 ((1:Nat):Int)),(.int .i64 ((s14:Nat):Int)),(.int .i64 c14)]∧k≤(x14).length∧RT w14.heap.size (B3 (B3 rI)) W.heap v14 x14∧w14.heap.size≤W.heap.size∧w.heap.size<w14.heap.size∧w14.heap.size≤w14.heap.size∧w14.heap.size≤W.heap.size) (fun⟨k,vo⟩=>(x14).length-k) (0,v22) ⟨rfl,rfl,rfl,rfl,trivial⟩ ⟨bd,bb.up o1,an,sD,(by assumption),oM,oM,oM,oM⟩ ?_
   clear bp bq a2 a0 ag bs aq al az bb c3 a5 bc bd am
   rintro⟨k,vo⟩ ρ28 w28 ⟨b1,ae,a1,c4,a3,cl,cm,cn,co⟩
   have cp:w.heap.size≤w28.heap.size:=b1.size
   have d4:=a1.lt
   refine A0 (A0 (Ad _ [0,0,0,0] Z (Af 2 Z (AJ (v:=v14) Bi Z a3.slL Ac ?_))))
   by_cases be:((k:Nat):Int)<((x14.length:Nat):Int)
   ·refine Av true Z Z (A7 be) Ac (Ah (Ai Z (A4 (A0 (A5 (Ad _ [0,0,0,0,2,0,2,3,4,0] Z ?_))))))
    have hkx:=hXS k oM
    have hkl:=hkx.1
    refine Af 3 Z (Au (v:=v14) k Bi AW Z Z a3.slL Z sD Ac ?_)
    obtain⟨b2,c5,ao⟩:=RT.getL g1 [] (k:=k) a3 sD
    have bf:=ao.lenL
    unfold maxLen at bf
    refine Ak (p:=Aw v14 k 1) (.inr Z) b2 B6 Z c5 Ac (Au (v:=b2) 0 Bh Bx Z Z ao.slL Z sD Ac ?_)
    have bg:=RT.getI (k:=0) ao sD
    refine Ak (p:=Aw b2 0 1) (.inr Z) (.int .i64 ((x14.getD k []).getD 0 0)) AI Z bg.1 Ac (Bn (u:=(.int .i64 ((x14.getD k []).getD 0 0))) (B:=w28.heap.size) AO Bh Bx Z Z (Nt w28.heap.size w28.heap.size _ _ bg.2) (A9 _) Ac fun v34 w34 a6 d5 bh=>?_)
    have cq:=a6.size
    have bi:=b1.trans a6
    have a7:=ae.ext (o1) a6
    have a8:=a1.ext a6
    have c6:=a3.ext g2 a6
    have c7:=ao.ext g1 a6
    refine Gv (v:=vo) (a:=v34) Bh Bx Z Z Z a7 oM bh.rd1 sD bR Ac fun v37 w37 F37 a9 af c8=>?_
    have c9:Ay w w37:=a9.below bi (fun c hc=>Aa ad.size (af c hc).1) bi.size
    have cr:=a9.size
    have d6:=c6.chg g2 a9 (fun c hc=>by have:=af c hc;omega)
    have d7:=c7.chg g1 a9 (fun c hc=>by have:=af c hc;omega)
    have ca:=a8.chg a9 (fun hm=>by have:=af _ hm;omega)
    have d8:=bh.chg (o1) a9 (fun c hc=>by have:=af c hc;omega)
    refine Ae 1 Z (Ad _ [0,0,0] Z (Af 1 Z (AH ((k+1:Nat):Int) Z Z (B7 oM sD) Ac (Ae 1 Z ?_))))
    exact⟨((k+1),v37),_,rfl,⟨rfl,rfl,rfl,rfl,trivial⟩,⟨c9,(by rw[Dc [] oM];exact c8.up o1),ca,sD,(by assumption),oM,oM,oM,oM⟩,by first|omega|(dsimp only;omega)⟩
   ·refine Av false Z Z (A8 be) Ac (Ah (Aj Z (A6 (As (As (An (A0 (B1 _ [0,0,0,0,1,0,0,0] mixed (by kernel_rfl) (Af 2 Z (Bz Z Ac (Ao (p:=(.pointer (some ⟨w.heap.size,0,none⟩))) (b:=w.heap.size) (o:=0) 2 LV Z Z Ac (Ak (p:=(Az (.pointer (some ⟨w.heap.size,0,none⟩)) 2)) (.inl Z) (.int .i64 ((s14:Nat):Int)) AI Z (a1.ldp (i:=2) sM) Ac (Ae 3 Z (A3 ?_))))))))))))))
    exact Ag [6,7,8] Z (.tuple #[vo,(.int .i64 ((s14:Nat):Int)),(.int .i64 ((0:Nat):Int))]) Z ⟨vo,(by rw[ZF (O4 hRL oM),show ET p f.toNat a=_ from O5 (O4 hRL oM)] <;> rfl),b1.drew,(by have h:=(ae.up o1).low ad.size;unfold FN;rw[Mq (O4 hRL oM)];rwa [List.take_of_length_le oM]at h),hNP,hST⟩
end
section
set_option maxHeartbeats 4000000
set_option maxRecDepth 100000
attribute [local irreducible] LW
theorem NP (w:World)(vy:Value)(y:List (List Int))(By Uy:Nat)(m:Nat)(hy:Fr (AR (AR rI 2) 27) By Uy w.heap vy y)(hUy:Uy≤w.heap.size)(_hm:m≤1000000000000)(hml:∀k,k<y.length→m≤(y.getD k []).length∧(y.getD k []).length≤1000000)(hyl:y.length≤1000000) :
  Calls Tryz.prog 123 #[vy,.int .i64 ((m:Nat):Int)] w (fun e w'=>∃v0:Value,e=.returned (v0)∧Ay w w'∧Fr (AR (AR rI 2) 27) w.heap.size w'.heap.size w'.heap v0 (y.map (Cs m))):=by
 refine At [vy,.int .i64 ((m:Nat):Int)] 25 Tryz.func123 Z Z sM ?_
 have aq:Ay w w:=Ay.refl w
 refine A0 (Ad _ [0] Z (Ae 1 Z (A0 (Ad _ [3,0] Z (BH (AR rI 2) o1 Bi AW Ac fun v1 w1 ab ay ar=>?_)))))
 have ad:=ab.size
 have au:=aq.trans ab
 have ae:=hy.ext (o2) ab
 refine Ae 1 Z (A0 (A0 (Ad _ [0] Z (Ae 1 Z (A5 ?_)))))
 refine AL (S:=Nat×Value) (fun⟨k,vo⟩=>([(5,vo),(6,(.int .i64 ((k:Nat):Int))),(0,vy),(1,(.int .i64 ((m:Nat):Int)))])) (fun⟨k,vo⟩ W=>Ay w W∧Fr (AR (AR rI 2) 27) w.heap.size W.heap.size W.heap vo ((y.take k).map (Cs m))∧Fr (AR (AR rI 2) 27) By Uy W.heap vy y∧k≤y.length) (fun⟨k,vo⟩=>y.length-k) (0,v1) ⟨rfl,rfl,rfl,rfl,trivial⟩ ⟨au,ar.up o2,ae,sD⟩ ?_
 clear aq ar ay ab ad au
 rintro⟨k,vo⟩ ρ2 w2 ⟨ac,a5,a0,av⟩
 have az:w.heap.size≤w2.heap.size:=ac.size
 refine A0 (A0 (Ad _ [0,0,0,0] Z (Af 2 Z (AJ (v:=vy) Bi Z a0.isSl Ac ?_))))
 by_cases aw:((k:Nat):Int)<((y.length:Nat):Int)
 ·refine Av true Z Z (A7 aw) Ac (Ah (Ai Z (A4 (A0 (A5 (Ad _ [0,0,0,0,2,0,0,3,3,4,0] Z ?_))))))
  have hmk:=hml k oM
  refine Af 3 Z (Au (v:=vy) k Bi AW Z Z a0.isSl Z sD Ac ?_)
  obtain⟨af,ag,ah⟩:=a0.rd2.get (k:=k) [] sD
  have b0:=ah.lenle
  refine Ak (p:=Aw vy k 1) (.inr Z) af B6 Z ag Ac (Af 1 Z ?_)
  have ai:=Fr.rowCap o1 a0 sD ag
  have aj:=Rd.pref (k:=m) ah sD
  refine Uf (v:=af) (k:=m) Bh Bx Z ah.isSl ai Z sD Ac (Ap 165 [] [] [(M9 af m)] Z Z SW Ac (EV _ _ _ aj (by rw[List.length_take];omega)) ?_)
  rintro e6 w6 ⟨ak,rfl,a7,a8⟩
  refine⟨_,rfl,a7,?_⟩
  have b1:=a7.size
  have b2:=ac.trans a7
  have a1:=a5.ext (o2) a7
  have a2:=a0.ext (o2) a7
  have al:=AU a7 ag
  refine Bn (u:=ak) (B:=w2.heap.size) o1 Bi AW Z Z a8 (by first|exact A9 _|omega) Ac fun v8 w8 a9 b6 b3=>?_
  have b4:=a9.size
  have am:=b2.trans a9
  have a3:=a1.ext (o2) a9
  have a4:=a2.ext (o2) a9
  have b5:=AU a9 al
  refine Ej o1 (v:=vo) (a:=v8) Bi AW Z Z Z a3 am.size b3 oM ac.size sD (by unfold maxLen;first|omega|assumption|(simp;done)|(simp;omega)) Ac fun v10 w10 F10 a6 aa an=>?_
  have ao:Ay w w10:=a6.below am (fun c hc=>Aa (A9 _) (aa c hc).1) am.size
  have ax:w8.heap.size≤w10.heap.size:=a6.size
  have ap:=a4.chg (o2) a6 (fun c hc=>by have:=aa c hc;omega)
  refine Ae 1 Z (Ad _ [0,0,0] Z (Af 1 Z (AH ((k+1:Nat):Int) Z Z (B7 oM sD) Ac (Ae 1 Z ?_))))
  exact⟨((k+1),v10),_,rfl,⟨rfl,rfl,rfl,rfl,trivial⟩,⟨ao,(by rw[Dc [] oM];exact an.up o2),ap,sD⟩,by first|omega|(dsimp only;omega)⟩
 ·exact Av false Z Z (A8 aw) Ac (Ah (Aj Z (A6 (As (As (An (A0 (Ad _ [0,0] Z (Ae 2 Z (A3 (Ag [4] Z vo Z ⟨vo,rfl,ac,(by have h:=a5.up o2;rwa [List.take_of_length_le oM]at h)⟩)))))))))))
end
section
set_option maxHeartbeats 4000000
set_option maxRecDepth 100000
attribute [local irreducible] LW
theorem Pm {p:Prop}(h:p:=by first|exact AS (bQ oM)|exact AS (lP oM (GD (by assumption)))|exact AS (lQ oM oM)|exact AS (lR oM (Fi (by assumption)) oM)):p:=h
theorem Jw (w:World)(dp:Nat)(vp:Value)(p:List Fn)(f:Int)(hp:RN [] (rP (Nu dp)) w.heap vp p)(_hf:BC f)(hz:Sf p) :
  Calls Tryz.prog 136 #[vp,.int .i64 f] w (fun e w'=>e=.returned (.int .i64 (I7 p f Ef))∧Ay w w'):=by
 refine At [vp,.int .i64 f] 45 Tryz.func136 Z Z sM ?_
 have a9:Ay w w:=Ay.refl w
 refine A0 (Ad _ [0] Z (Ae 1 Z (A0 (Ad _ [0,0,3,0] Z (Af 2 Z (Ap 91 [] [] [vp,(.int .i64 f)] Z Z lX Ac (Lq _ dp vp (p) _ (hp.ext (Bf (B5 dp)) a9) _hf (by exact hz)) ?_))))))
 rintro e1 w1 ⟨rfl,a5⟩
 refine⟨_,rfl,a5,?_⟩
 have ad:=a5.size
 have a0:=a9.trans a5
 refine Ae 1 Z (A0 (A0 (B1 _ [0,0,0,0,0,0,1,0,0,0,1,0,0,0,0,0,0,1,0,0,0,1,0,0,0,0,1,0,0,0,1,0,0,0,0] mixed (by kernel_rfl) (Af 1 Z ?_))))
 by_cases aa:IX p f=((0:Nat):Int)
 ·refine AA true Z Z (A7 aa) Ac (Af 2 Z ?_)
  have ae:=Vn (p:=p) (f:=f) oM
  have hpq:=(Is ae.1).par f.toNat oM
  refine AV (hp.isPtr) Z (Al (e:=11) Z Z Z) ?_
  obtain⟨cs3,af,a2⟩:=RN.at (B5 _) hp
  obtain⟨a1,rfl,a4⟩:=RPr.of af
  have a6:=a4.lenle
  unfold maxLen at a6
  refine AM (p:=vp) 0 BU Z (a2 _ (AE.of_ext [] a0.drew)) (Al (e:=11) Z Z Z) (Ak (p:=(Az vp 0)) (.inl Z) a1 Cx Z ((a2 _ (AE.of_ext [] a0.drew)).ld (i:=0) (by simp[Ge,Gf])) (Al (e:=11) Z Z Z) (Af 1 Z (Au (v:=a1) ((f).toNat) GA CE Z Z a4.isSl oM sD (Al (e:=11) Z Z Z) ?_)))
  obtain⟨cs4,ag,a3⟩:=a4.get (AB dp) Fn.zero (k:=((f).toNat)) sD
  obtain⟨ab,rfl,a7⟩:=RF.of ag
  have a8:=a7.rn.lenle
  unfold maxLen at a8
  refine AM (p:=Aw a1 ((f).toNat) 3) 1 CH Z (a3 _ (AE.of_ext [] a0.drew)) (Al (e:=11) Z Z Z) (Ak (p:=(Az (Aw a1 ((f).toNat) 3) 1)) (.inl Z) (.int .i64 ((p.getD ((f).toNat) Fn.zero).params)) AI Z ((a3 _ (AE.of_ext [] a0.drew)).ld (i:=1) (by simp[Ge,Gf])) (Al (e:=11) Z Z Z) (AD 92 [] [] [(.int .i64 ((p.getD ((f).toNat) Fn.zero).params)),(.int .i64 ((2:Nat):Int)),(.int .i64 ((7:Nat):Int))] Z Z IL (Al (e:=11) Z Z Z) (.bool (decide (((2:Nat):Int)≤((p.getD ((f).toNat) Fn.zero).params)) && decide (((p.getD ((f).toNat) Fn.zero).params)≤((7:Nat):Int)))) (fun wq=>Br wq _ _ _ a7.rng oM oM) ?_))
  refine Bp (!(decide (((2:Nat):Int)≤((p.getD ((f).toNat) Fn.zero).params)) && decide (((p.getD ((f).toNat) Fn.zero).params)≤((7:Nat):Int)))) Z Z (Al (e:=11) Z Z Z) (Af 1 Z ?_)
  cases ah:(!(decide (((2:Nat):Int)≤((p.getD ((f).toNat) Fn.zero).params)) && decide (((p.getD ((f).toNat) Fn.zero).params)≤((7:Nat):Int))))
  ·refine Af 1 Z (AV (hp.isPtr) Z (Al (e:=22) Z Z Z) (AM (p:=vp) 0 BU Z (a2 _ (AE.of_ext [] a0.drew)) (Al (e:=22) Z Z Z) (Ak (p:=(Az vp 0)) (.inl Z) a1 Cx Z ((a2 _ (AE.of_ext [] a0.drew)).ld (i:=0) (by simp[Ge,Gf])) (Al (e:=22) Z Z Z) (Af 1 Z (Au (v:=a1) ((f).toNat) GA CE Z Z a4.isSl oM sD (Al (e:=22) Z Z Z) ?_)))))
   refine AM (p:=Aw a1 ((f).toNat) 3) 2 Cr Z (a3 _ (AE.of_ext [] a0.drew)) (Al (e:=22) Z Z Z) (Ak (p:=(Az (Aw a1 ((f).toNat) 3) 2)) (.inl Z) ab Bq Z ((a3 _ (AE.of_ext [] a0.drew)).ld (i:=2) (by simp[Ge,Gf])) (Al (e:=22) Z Z Z) (AJ (v:=ab) DM Z a7.rn.isSl (Al (e:=22) Z Z Z) (Af 1 Z (AV (hp.isPtr) Z (Al (e:=22) Z Z Z) (AM (p:=vp) 0 BU Z (a2 _ (AE.of_ext [] a0.drew)) (Al (e:=22) Z Z Z) (Ak (p:=(Az vp 0)) (.inl Z) a1 Cx Z ((a2 _ (AE.of_ext [] a0.drew)).ld (i:=0) (by simp[Ge,Gf])) (Al (e:=22) Z Z Z) (Af 1 Z ?_)))))))
   refine Au (v:=a1) ((f).toNat) GA CE Z Z a4.isSl oM sD (Al (e:=22) Z Z Z) (AM (p:=Aw a1 ((f).toNat) 3) 1 CH Z (a3 _ (AE.of_ext [] a0.drew)) (Al (e:=22) Z Z Z) (Ak (p:=(Az (Aw a1 ((f).toNat) 3) 1)) (.inl Z) (.int .i64 ((p.getD ((f).toNat) Fn.zero).params)) AI Z ((a3 _ (AE.of_ext [] a0.drew)).ld (i:=1) (by simp[Ge,Gf])) (Al (e:=22) Z Z Z) ?_))
   refine Cj ((p.getD f.toNat Fn.zero).params-1) Z Z (DX oM oM) (Al (e:=22) Z Z Z) ?_
   by_cases ac:((((p.getD ((f).toNat) Fn.zero).outs).length:Nat):Int)≠(p.getD f.toNat Fn.zero).params-1
   ·exact AY true Z Z (A7 ac) (Al (e:=22) Z Z Z) (Ae 2 Z (Ai Z (Ad _ [0] Z (Ae 1 Z (A0 (Ad _ [0,0] Z (Ae 2 Z (A3 (Ag [4] Z (.int .i64 ((2:Nat):Int)) Z ⟨Pm,a0.drew⟩)))))))))
   ·exact AY false Z Z (A8 ac) (Al (e:=22) Z Z Z) (Ae 2 Z (Aj Z (A4 (A0 (Ad _ [0,0] Z (Ae 2 Z (A3 (Ag [4] Z (.int .i64 (IX p f)) Z ⟨Pm,a0.drew⟩))))))))
  ·exact Ae 21 Z (Ai Z (Ad _ [0] Z (Ae 1 Z (A0 (Ad _ [0,0] Z (Ae 2 Z (A3 (Ag [4] Z (.int .i64 ((2:Nat):Int)) Z ⟨Pm,a0.drew⟩))))))))
 ·exact AA false Z Z (A8 aa) Ac (Ae 33 Z (Aj Z (A4 (A0 (Ad _ [0,0] Z (Ae 2 Z (A3 (Ag [4] Z (.int .i64 (IX p f)) Z ⟨Pm,a0.drew⟩))))))))
theorem Nj (w:World)(n:Nat)(_hn:n≤1000000000000)(hn:1≤n∧n≤13) :
  Calls Tryz.prog 166 #[.int .i64 ((n:Nat):Int)] w (fun e w'=>∃v0:Value,e=.returned (v0)∧Ay w w'∧Fr (AR rI 2) w.heap.size w'.heap.size w'.heap v0 (OY n)):=by
 refine At [.int .i64 ((n:Nat):Int)] 11 Tryz.func166 Z Z sM ?_
 have a6:Ay w w:=Ay.refl w
 refine A0 (Ad _ [0] Z (Ae 1 Z (A0 (Ad _ [0,3,0] Z (Af 1 Z (Ap 122 [] [] [(.int .i64 ((0:Nat):Int)),(.int .i64 ((n:Nat):Int))] Z Z Oj Ac (CI _ _ (n) oM sD oM) ?_))))))
 rintro e1 w1 ⟨a0,rfl,a2,a1⟩
 refine⟨_,rfl,a2,?_⟩
 have a7:=a2.size
 have a3:=a6.trans a2
 refine Ae 1 Z (A0 (A0 (Ad _ [0,0] Z (Af 1 Z ?_))))
 by_cases a4:((1:Nat):Int)<((n:Nat):Int)
 ·refine C4 true Z Z (A7 a4) Ac (Ah (Ai Z (Ad _ [0,0,4] Z (Af 1 Z (Au (v:=a0) 1 Bh Bx Z Z a1.isSl Z (by first|omega|(rw[FG];omega)|(simp;omega)) Ac (EB (v:=a0) (w:=w1) ID Z Z oM a1 (by first|omega|(rw[FG];omega)|(simp;omega)) Ac fun w3 F3 a5 ac a8 a9=>?_))))))
  have aa:Ay w w3:=a5.below a3 (fun c hc=>Aa (A9 _) (a8 c hc).1) a3.size
  have ab:w1.heap.size≤w3.heap.size:=a5.size
  exact Ah (A0 (Ad _ [0,0] Z (Ae 2 Z (A3 (Ag [2] Z a0 Z ⟨a0,rfl,aa,(by have h:=a9.up o1;unfold OY;first|(rw[show cst n ((0:Nat):Int)=List.replicate n 0 from OZ n]at h;exact h)|(rw[show cst n ((0:Nat):Int)=List.replicate n 0 from OZ n]at h;rw[show n=1 from by omega]at h ⊢;exact h))⟩)))))
 ·exact C4 false Z Z (A8 a4) Ac (Ah (Aj Z (A4 (A0 (Ad _ [0,0] Z (Ae 2 Z (A3 (Ag [2] Z a0 Z ⟨a0,rfl,a3,(by have h:=a1.up o1;unfold OY;first|(rw[show cst n ((0:Nat):Int)=List.replicate n 0 from OZ n]at h;exact h)|(rw[show cst n ((0:Nat):Int)=List.replicate n 0 from OZ n]at h;rw[show n=1 from by omega]at h ⊢;exact h))⟩))))))))
theorem Nk (w:World)(vy:Value)(y:List (List Int))(hy:RN [] (B3 (B3 rI)) w.heap vy y)(hqy:Cf vy)(hyb:0<y.length∧y.length≤1000)(hr:1≤(y.getD 0 []).length∧(y.getD 0 []).length≤13) :
  Calls Tryz.prog 111 #[vy] w (fun e w'=>∃v0:Value,e=.returned v0∧Ay w w'∧RN [] (B3 (B3 rI)) w'.heap v0 (CO y)∧Cf v0):=by
 refine At [vy] 25 Tryz.func111 Z Z sM ?_
 have a9:Ay w w:=Ay.refl w
 have hl_vy:=hy.lenL
 unfold maxLen at hl_vy
 have hS:∀b∈([]:List Nat),b<w.heap.size:=fun b hb=>by cases hb
 refine A0 (Ad _ [0] Z (Ae 1 Z (A0 (Ad _ [0,0,2,0,3,3,0] Z (Af 1 Z (Au (v:=vy) 0 Bi AW Z Z hy.slL Z sD Ac ?_))))))
 obtain⟨ak,aw,al⟩:=RN.getL (w:=w) g1 [] (k:=0) hy sD
 have a4:=al.lenL
 unfold maxLen at a4
 refine Ak (p:=Aw vy 0 1) (.inr Z) ak B6 Z (aw _ (AE.of_ext [] a9)) Ac (AJ (v:=ak) Bh Z al.slL Ac (Ap 166 [] [] [(.int .i64 (((y.getD 0 []).length:Nat):Int))] Z Z iK Ac (Nj _ ((y.getD 0 []).length) sD oM) ?_))
 rintro e2 w2 ⟨aa,rfl,a6,a0⟩
 refine⟨_,rfl,a6,?_⟩
 have ab:=a6.size
 have am:=a9.trans a6
 refine Bn (u:=aa) (B:=w2.heap.size) Ba Bi AW Z Z (Lu w2.heap.size w2.heap.size _ (⟨(Bd a0.isSl).1,(Bd a0.isSl).2⟩)) (A9 _) Ac fun v3 w3 a7 ax an=>?_
 have ac:=a7.size
 have ao:=am.trans a7
 have a1:=a0.ext (o1) a7
 obtain⟨BO,hBO⟩:∃b:Nat,b=w2.heap.size:=⟨_,rfl⟩
 have hwB:w.heap.size≤BO:=by omega
 obtain⟨b5,F4,ay⟩:=HO.one an a1 oM
 rw[← hBO]at ay
 refine Ae 1 Z (A0 (A0 (Ad _ [0] Z (Ae 1 Z (A5 (AL (S:=Nat×Value) (fun⟨k,vo⟩=>([(3,vo),(4,(.int .i64 ((k:Nat):Int))),(0,vy)])) (fun⟨k,vo⟩ W=>Ay w W∧k≤y.length∧w.heap.size≤BO∧BO≤W.heap.size∧PA 27 [] BO W.heap vo (OY (y.getD 0 []).length::y.take k)) (fun⟨k,vo⟩=>y.length-k) (0,v3) ⟨rfl,rfl,rfl,trivial⟩ ⟨ao,oM,oM,oM,(by exact⟨_,_,by assumption⟩)⟩ ?_))))))
 clear a9 a4 a0 a6 ab am an ax a7 ac ao a1
 rintro⟨k,vo⟩ ρ5 w5 ⟨a8,ap,aq,ar,hbld⟩
 have az:w.heap.size≤w5.heap.size:=a8.size
 have hpkl:(OY (y.getD 0 []).length::y.take k).length=k+1:=by rw[List.length_cons,List.length_take];omega
 obtain⟨b6,F6,a2⟩:=hbld
 have hFl:∀b∈F6,b<w5.heap.size:=a2.lt
 refine A0 (A0 (Ad _ [0,0,0,0] Z (Af 2 Z (AJ (v:=vy) Bi Z hy.slL Ac ?_))))
 by_cases au:((k:Nat):Int)<((y.length:Nat):Int)
 ·refine Av true Z Z (A7 au) Ac (Ah (Ai Z (A4 (A0 (A5 (Ad _ [0,0,0,0,2,3,4,0] Z (Af 3 Z (Au (v:=vy) k Bi AW Z Z hy.slL Z sD Ac ?_))))))))
  obtain⟨ad,b0,ae⟩:=RN.getL (w:=w) g1 [] (k:=k) hy sD
  have af:=ae.lenL
  unfold maxLen at af
  refine Ak (p:=Aw vy k 1) (.inr Z) ad B6 Z (b0 _ (AE.of_ext [] a8)) Ac (Bn (u:=ad) (B:=w5.heap.size) Ba Bi AW Z Z (Lu w5.heap.size w5.heap.size _ (ae.one1 g1)) (A9 _) Ac fun v9 w9 ag b7 b1=>?_)
  have b2:=ag.size
  have ah:=a8.trans ag
  have a3:=a2.ext ag
  refine EE (v:=vo) (a:=v9) (u:=ad) Bi AW Z Z Z a3 oM b1 (RN.stp g1 ae (AE.of_ext [] ah) (fun b hb=>.inr (by have:=a3.low b (by simpa using hb);omega))) sD (by unfold maxLen;first|omega|assumption|(simp;done)|(simp;omega)) Ac ?_
  rintro v11 w11 G11 a5 ai ⟨b3,F11,b4⟩
  have av:w9.heap.size≤w11.heap.size:=a5.size
  have aj:Ay w w11:=a5.below ah (fun c hc=>Aa hwB (a3.low c (ai c hc))) ah.size
  exact Ae 1 Z (Ad _ [0,0,0] Z (Af 1 Z (AH ((k+1:Nat):Int) Z Z (B7 oM sD) Ac (Ae 1 Z ⟨((k+1),v11),_,rfl,⟨rfl,rfl,rfl,trivial⟩,⟨aj,oM,oM,oM,(by rw[← X1 oM];exact⟨_,_,by assumption⟩)⟩,by first|omega|(dsimp only;omega)⟩))))
 ·exact Av false Z Z (A8 au) Ac (Ah (Aj Z (A6 (As (As (An (A0 (Ad _ [0,0] Z (Ae 2 Z (A3 (Ag [2] Z vo Z ⟨_,rfl,a8,(by have h9:=(a2.done (fun b hb=>absurd hb List.not_mem_nil));rw[List.take_of_length_le oM]at h9;exact h9),a2.cap⟩)))))))))))
end
section
set_option maxHeartbeats 4000000
set_option maxRecDepth 100000
attribute [local irreducible] LW
theorem EL {p:Prop}(h:p:=by first|omega|assumption|(simp only[List.length_nil,List.length_cons,List.length_append,List.length_set,List.length_replicate,FG];omega)|(simp[List.length_nil,List.length_cons,List.length_append,List.length_set,List.length_replicate,FG];done)|(simp[List.length_nil,List.length_cons,List.length_append,List.length_set,List.length_replicate,FG];omega)):p:=h
theorem Nl (w:World)(va:Value)(a:List Int)(vd:Value)(d:List Int)(o:Int)(ha:Rd (B3 rI) w.heap va a)(hd:Rd (B3 rI) w.heap vd d)(_ho:BC o)(ho:o=1)(hld:d.length=a.length)(hla:a.length≤1000000) :
  Calls Tryz.prog 215 #[va,vd,.int .i64 o] w (fun e w'=>∃v0:Value,e=.returned (v0)∧Ay w w'∧Fr (AR (AR rI 2) 27) w.heap.size w'.heap.size w'.heap v0 (Gj a d 2)):=by
 refine At [va,vd,.int .i64 o] 37 Tryz.func215 Z Z sM ?_
 have ad:Ay w w:=Ay.refl w
 have hl_va:=ha.lenle
 have hl_vd:=hd.lenle
 refine A0 (Ad _ [0] Z (Ae 1 Z (A0 (Ad _ [3,0] Z (BH (AR rI 2) o1 Bi AW Ac fun v1 w1 a7 aj ae=>?_)))))
 have a8:=a7.size
 have hE1:=ad.trans a7
 refine Ae 1 Z (A0 (A0 (Ad _ [0] Z (Ae 1 Z (A5 ?_)))))
 refine AL (S:=Nat×Value) (fun⟨k,vo⟩=>([(7,vo),(8,(.int .i64 ((k:Nat):Int))),(0,va),(1,vd),(2,(.int .i64 o))])) (fun⟨k,vo⟩ W=>Ay w W∧Fr (AR (AR rI 2) 27) w.heap.size W.heap.size W.heap vo ((Gj a d 2).take k)∧k≤a.length) (fun⟨k,vo⟩=>a.length-k) (0,v1) ⟨rfl,rfl,rfl,rfl,rfl,trivial⟩ ⟨hE1,ae.up o2,EL⟩ ?_
 clear ad ae aj a7 a8 hE1
 rintro⟨k,vo⟩ ρ2 w2 ⟨a4,a1,af⟩
 have ak:w.heap.size≤w2.heap.size:=a4.size
 refine A0 (A0 (Ad _ [0,0,0,0] Z (Af 2 Z (AJ (v:=va) Bh Z ha.isSl Ac ?_))))
 by_cases ag:((k:Nat):Int)<((a.length:Nat):Int)
 ·refine Av true Z Z (A7 ag) Ac (Ah (Ai Z (A4 (A0 (A5 (A0 (Ad _ [0,0,0,2,0,0,3,0] Z (Af 2 Z (Au (v:=va) k Bh Bx Z Z ha.isSl Z EL Ac ?_)))))))))
  refine Ak (p:=Aw va k 1) (.inr Z) (.int .i64 (a.getD k 0)) AI Z (AU a4 (ha.getI EL).1) Ac (Af 1 Z (AH ((o.toNat+1:Nat):Int) Z Z (by rw[DX oM oM];omega) Ac ?_))
  refine Ap 122 [] [] [(.int .i64 (a.getD k 0)),(.int .i64 ((o.toNat+1:Nat):Int))] Z Z Oj Ac (CI _ _ (o.toNat+1) (ha.getI EL).2 EL oM) ?_
  rintro e4 w4 ⟨a3,rfl,a6,a2⟩
  refine⟨_,rfl,a6,?_⟩
  have al:=a6.size
  have a9:=a4.trans a6
  have a0:=a1.ext (o2) a6
  refine Ae 1 Z (A0 (A0 (Ad _ [0,0] Z (Af 1 Z ?_))))
  have am:((0:Nat):Int)<o:=oM
  refine C4 true Z Z (A7 am) Ac (Ah (Ai Z (Ad _ [0,0,0,0,2,0,4] Z (Af 3 Z (Au (v:=vd) k Bh Bx Z Z hd.isSl Z EL Ac ?_)))))
  refine Ak (p:=Aw vd k 1) (.inr Z) (.int .i64 (d.getD k 0)) AI Z (AU a9 (hd.getI EL).1) Ac ?_
  refine Au (v:=a3) 1 Bh Bx Z Z a2.isSl Z EL Ac ?_
  refine EB (v:=a3) (w:=w4) ID Z Z (hd.getI EL).2 a2 EL Ac fun w6 F6 aa az ah an=>?_
  have ao:Ay w w6:=aa.below a9 (fun c hc=>Aa a4.size (ah c hc).1) a9.size
  have ap:w4.heap.size≤w6.heap.size:=aa.size
  have aq:=a0.chg (o2) aa (fun c hc=>by have:=ah c hc;omega)
  refine Ah (Ad _ [0,0,3,4,0] Z (Af 2 Z (Bn (u:=a3) (B:=w2.heap.size) o1 Bi AW Z Z an (by first|exact A9 _|omega) Ac fun v8 w8 ab b0 ar=>?_)))
  have au:=ab.size
  have ac:=ao.trans ab
  have a5:=aq.ext (o2) ab
  refine Ej o1 (v:=vo) (a:=v8) Bi AW Z Z Z a5 ac.size ar oM a4.size EL (by unfold maxLen;first|omega|assumption|(simp[FG];done)|(simp[FG];omega)) Ac fun v9 w9 F9 ai av aw=>?_
  have ax:Ay w w9:=ai.below ac (fun c hc=>Aa (A9 _) (av c hc).1) ac.size
  have ay:w8.heap.size≤w9.heap.size:=ai.size
  refine Ae 1 Z (Ad _ [0,0,0] Z (Af 1 Z (AH ((k+1:Nat):Int) Z Z (B7 oM EL) Ac (Ae 1 Z ?_))))
  exact⟨((k+1),v9),_,rfl,⟨rfl,rfl,rfl,rfl,rfl,trivial⟩,⟨ax,(by rw[Cq [] (by simp;omega),MB oM];have h:=aw.up o2;rw[show o.toNat+1=2 from by omega]at h;exact h),EL⟩,by first|omega|(dsimp only;omega)⟩
 ·exact Av false Z Z (A8 ag) Ac (Ah (Aj Z (A6 (As (As (An (A0 (Ad _ [0,0] Z (Ae 2 Z (A3 (Ag [6] Z vo Z ⟨vo,rfl,a4,(by have h:=a1.up o2;rwa [List.take_of_length_le (by simp;omega)]at h)⟩)))))))))))
theorem L2 (w:World)(dp:Nat)(vp:Value)(p:List Fn)(f:Int)(va:Value)(a:List Int)(vd:Value)(d:List Int)(o:Int)(hp:RN [] (rP (Nu dp)) w.heap vp p)(_hf:BC f)(ha:Rd (B3 rI) w.heap va a)(hd:Rd (B3 rI) w.heap vd d)(_ho:BC o)(hvp:IJ p)(hf:0≤f∧f<((p.length:Nat):Int))(hl:((a.length:Nat):Int)=(p.getD f.toNat Fn.zero).params)(ho:o=1)(hld:d.length=a.length)(hna:B8 a=true)(hnd:B8 d=true) :
  Calls Tryz.prog 171 #[vp,.int .i64 f,va,vd,.int .i64 o] w (fun e w'=>∃v0:Value,e=.returned (.tuple #[v0,.int .i64 (Hl p (o.toNat+1) f.toNat (Gj a d 2))])∧Ay w w'∧Fr (AR (AR rI 2) 27) w.heap.size w'.heap.size w'.heap v0 (E7 p (o.toNat+1) f.toNat (Gj a d 2))∧ZH p (o.toNat+1) f.toNat (Gj a d 2)):=by
 refine At [vp,.int .i64 f,va,vd,.int .i64 o] 23 Tryz.func171 Z Z sM ?_
 have a4:Ay w w:=Ay.refl w
 have hl_va:=ha.lenle
 have hl_vd:=hd.lenle
 have hpr:=hvp.par f.toNat oM
 refine A0 (Ad _ [0,0] Z (Ae 2 Z (A0 (Ad _ [0,0,0,0,0,3,0,0,3,0,0,0,0] Z (Af 5 Z (Ap 215 [] [] [va,vd,(.int .i64 o)] Z Z jB Ac (Nl _ _ _ _ _ _ (ha.ext g1 a4) (hd.ext g1 a4) _ho (by exact ho) (by exact hld) oM) ?_))))))
 rintro e1 w1 ⟨a2,rfl,a5,a1⟩
 refine⟨_,rfl,a5,?_⟩
 have a8:=a5.size
 have hE1:=a4.trans a5
 refine Af 1 Z (AH ((o.toNat+1:Nat):Int) Z Z (by rw[DX oM oM];omega) Ac (Ap 110 [] [] [vp,(.int .i64 f),a2,(.int .i64 ((o.toNat+1:Nat):Int))] Z Z aP Ac (Il _ dp vp (p) _ a2 (Gj a d 2) (o.toNat+1) (hp.ext (Bf (B5 dp)) hE1) _hf (RN.of_fr2 a1 (fun b hb=>by cases hb)) a1.cap (by exact hvp) oM (by rw[CQ];exact hl) (by rw[show o.toNat+1=2 from by omega];exact Hq hna hnd) oM) ?_))
 rintro e2 w2 ⟨a0,rfl,a6,a3,a7⟩
 refine⟨_,rfl,a6,?_⟩
 have a9:=a6.size
 have aa:=hE1.trans a6
 exact AQ (vs:=[a0,(.int .i64 (Hl p (o.toNat+1) f.toNat (Gj a d 2)))]) a0 Z Z Ac (AQ (vs:=[a0,(.int .i64 (Hl p (o.toNat+1) f.toNat (Gj a d 2)))]) (.int .i64 (Hl p (o.toNat+1) f.toNat (Gj a d 2))) Z Z Ac (Ae 2 Z (A3 (Ag [10,11] Z (.tuple #[a0,(.int .i64 (Hl p (o.toNat+1) f.toNat (Gj a d 2)))]) Z ⟨a0,rfl,aa,(a3.up o2).low hE1.size,(by assumption)⟩))))
theorem Y4 {p:Prop}(h:p:=by first|(rw[if_neg oM];exact(hL10_0.up o2).low hE1.size)|(have h:=(hL10_0.up o2).low hE1.size;rw[if_pos oM];rw[show k=a.length from by omega,hNP.len oM]at h;exact h)):p:=h
theorem Pn {p:Prop}(h:p:=by first|(rw[hce];done)|(rw[← hce,show c=0 from by omega];rfl)):p:=h
theorem Jy (w:World)(dp:Nat)(vp:Value)(p:List Fn)(f:Int)(va:Value)(a:List Int)(hp:RN [] (rP (Nu dp)) w.heap vp p)(_hf:BC f)(ha:Rd (B3 rI) w.heap va a)(hvp:IJ p)(hf:0≤f∧f<((p.length:Nat):Int))(hl:((a.length:Nat):Int)=(p.getD f.toNat Fn.zero).params)(hna:B8 a=true) :
  Calls Tryz.prog 120 #[vp,.int .i64 f,va] w (fun e w'=>∃v0:Value,e=.returned (.tuple #[v0,.int .i64 (ET p f.toNat a)])∧Ay w w'∧Fr (AR (AR rI 2) 27) w.heap.size w'.heap.size w'.heap v0 (if ET p f.toNat a=0 then R5 p f.toNat a (p.getD f.toNat Fn.zero).outs.length else [])∧(0≤ET p f.toNat a∧ET p f.toNat a≤9)):=by
 refine At [vp,.int .i64 f,va] 83 Tryz.func120 Z Z sM ?_
 have bn:Ay w w:=Ay.refl w
 have hl_va:=ha.lenle
 have hpr:=hvp.par f.toNat oM
 have hou:=hvp.outs f.toNat oM
 have bo:=fV hvp (f:=f.toNat) oM hna hl
 refine A0 (Ad _ [0,0] Z (Ae 2 Z (A0 (Ad _ [0,0,0,3,0,0,0,0,0,0,0] Z (Af 3 Z (Ap 68 [] [] [vp,(.int .i64 f),va] Z Z gD Ac (Im _ dp vp (p) _ _ _ (hp.ext (Bf (B5 dp)) bn) _hf (ha.ext g1 bn) (by exact hvp) oM oM (by exact hna)) ?_))))))
 rintro e1 w1 ⟨a9,rfl,bp,ar,cb,cc⟩
 refine⟨_,rfl,bp,?_⟩
 have cw:=bp.size
 have hE1:=bn.trans bp
 refine Af 1 Z (AQ (vs:=[a9,(.int .i64 ((QN p 1 f.toNat (C7 a):Nat):Int)),(.int .i64 (ET p f.toNat a))]) a9 Z Z Ac (AQ (vs:=[a9,(.int .i64 ((QN p 1 f.toNat (C7 a):Nat):Int)),(.int .i64 (ET p f.toNat a))]) (.int .i64 ((QN p 1 f.toNat (C7 a):Nat):Int)) Z Z Ac (AQ (vs:=[a9,(.int .i64 ((QN p 1 f.toNat (C7 a):Nat):Int)),(.int .i64 (ET p f.toNat a))]) (.int .i64 (ET p f.toNat a)) Z Z Ac (Ae 3 Z (A0 (Ad _ [3,0] Z ?_))))))
 have hNP:=‹fi p f.toNat a›
 have hvl:(FN p f.toNat a).length≤1000:=by by_cases h9:ET p f.toNat a=0;(rw[hNP.len h9];omega);(rw[hNP.non h9];decide)
 refine BH (AR rI 2) o1 Bi AW Ac fun v2 w2 bq cx cd=>?_
 have bu:=bq.size
 have ce:=hE1.trans bq
 have ac:=ar.ext (o1) bq
 refine Ae 1 Z (A0 (A0 (Ad _ [0] Z (Ae 1 Z (A5 (AL (S:=Nat×Value) (fun⟨i,vo⟩=>([(11,vo),(12,(.int .i64 ((i:Nat):Int))),(0,vp),(1,(.int .i64 f)),(2,va),(8,a9),(10,(.int .i64 (ET p f.toNat a)))])) (fun⟨i,vo⟩ W=>Ay w W∧Fr (AR (AR rI 2) 27) w1.heap.size W.heap.size W.heap vo (List.replicate i [])∧Fr (AR rI 2) w.heap.size w1.heap.size W.heap a9 (FN p f.toNat a)∧i≤(FN p f.toNat a).length∧w1.heap.size≤W.heap.size) (fun⟨i,vo⟩=>(FN p f.toNat a).length-i) (0,v2) ⟨rfl,rfl,rfl,rfl,rfl,rfl,rfl,trivial⟩ ⟨ce,cd.up o2,ac,oM,oM⟩ ?_))))))
 clear bn ar bp cd cx bq bu ce ac
 rintro⟨i,vo⟩ ρ3 w3 ⟨br,ah,ai,cf,cy⟩
 have bv:w.heap.size≤w3.heap.size:=br.size
 refine A0 (A0 (Ad _ [0,0,0,0] Z (Af 2 Z (AJ (v:=a9) Bh Z ai.isSl Ac ?_))))
 by_cases cg:((i:Nat):Int)<(((FN p f.toNat a).length:Nat):Int)
 ·refine Av true Z Z (A7 cg) Ac (Ah (Ai Z (A4 (A0 (A5 (Ad _ [0,3,3,4,0] Z (Af 1 Z (BH (rI) AO Bh Bx Ac fun v6 w6 bs de cz=>?_))))))))
  have d0:=bs.size
  have d1:=br.trans bs
  have ak:=ah.ext (o2) bs
  have al:=ai.ext (o1) bs
  refine Bn (u:=v6) (B:=w3.heap.size) o1 Bi AW Z Z cz (by first|exact A9 _|omega) Ac fun v7 w7 bt df d2=>?_
  have d3:=bt.size
  have ch:=d1.trans bt
  have am:=ak.ext (o2) bt
  have an:=al.ext (o1) bt
  refine Ej o1 (v:=vo) (a:=v7) Bi AW Z Z Z am oM d2 oM oM sD (by unfold maxLen;first|omega|assumption|(simp;done)|(simp;omega)) Ac fun v8 w8 F8 bw ci d4=>?_
  have d5:Ay w w8:=bw.below ch (fun c hc=>Aa hE1.size (ci c hc).1) ch.size
  have d6:w7.heap.size≤w8.heap.size:=bw.size
  have d7:=an.chg (o1) bw (fun c hc=>by have:=ci c hc;omega)
  exact Ae 1 Z (Ad _ [0,0,0] Z (Af 1 Z (AH ((i+1:Nat):Int) Z Z (B7 oM sD) Ac (Ae 1 Z ⟨((i+1),v8),_,rfl,⟨rfl,rfl,rfl,rfl,rfl,rfl,rfl,trivial⟩,⟨d5,(by rw[List.replicate_succ'];exact d4.up o2),d7,oM,oM⟩,by first|omega|(dsimp only;omega)⟩))))
 ·refine Av false Z Z (A8 cg) Ac (Ah (Aj Z (A6 (As (As (An (A0 (A0 (Ad _ [0] Z (Ae 1 Z (A5 ?_)))))))))))
  refine AL (S:=Nat×Int) (fun⟨k,c⟩=>([(10,(.int .i64 c)),(13,(.int .i64 ((k:Nat):Int))),(0,vp),(1,(.int .i64 f)),(2,va),(11,vo)])) (fun⟨k,c⟩ W=>Ay w W∧Fr (AR (AR rI 2) 27) w1.heap.size W.heap.size W.heap vo (OS p f.toNat a (FN p f.toNat a).length k)∧k≤a.length∧c=ET p f.toNat a∧w1.heap.size≤W.heap.size) (fun⟨k,c⟩=>a.length-k) (0,(ET p f.toNat a)) ⟨rfl,rfl,rfl,rfl,rfl,rfl,trivial⟩ ⟨br,(by have h:=ah.up o2;rw[show i=(FN p f.toNat a).length from by omega,← lM p f.toNat a]at h;exact h),oM,(by rfl),oM⟩ ?_
  clear ai ah br bv
  rintro⟨k,c⟩ ρ10 w10 ⟨a1,hL10_0,bx,hce,cj⟩
  have az:w.heap.size≤w10.heap.size:=a1.size
  refine A0 (A0 (Ad _ [0,0,0,0,0,0,0,0] Z (Af 2 Z (AJ (v:=va) Bh Z ha.isSl Ac ?_))))
  by_cases b0:((k:Nat):Int)<((a.length:Nat):Int)
  ·refine Av true Z Z (A7 b0) Ac (Af 2 Z ?_)
   by_cases b1:c=((0:Nat):Int)
   ·refine AA true Z Z (A7 b1) (Al (e:=39) Z Z Z) (Ae 1 Z (Ai Z (A4 (A0 (A5 (A0 (Ad _ [3,0] Z (BH (AR rI 2) o1 Bi AW Ac fun v14 w14 ao bz b2=>?_))))))))
    have b3:=ao.size
    have b4:=a1.trans ao
    have a2:=hL10_0.ext (o2) ao
    refine Ae 1 Z (A0 (Ad _ [0,0,0,0,0,0,3,3,0,0,0,0,0] Z (Af 4 Z (AJ (v:=va) Bh Z ha.isSl Ac (Af 1 Z (Ap 172 [] [] [(.int .i64 ((a.length:Nat):Int)),(.int .i64 ((k:Nat):Int))] Z Z iQ Ac (N9 _ (a.length) _ sD oM oM oM) ?_))))))
    rintro e15 w15 ⟨b5,rfl,ae,aa⟩
    refine⟨_,rfl,ae,?_⟩
    have ck:=ae.size
    have au:=b4.trans ae
    have a3:=a2.ext (o2) ae
    have ad:=b2.ext (o2) ae
    refine Ap 171 [] [] [vp,(.int .i64 f),va,b5,(.int .i64 ((1:Nat):Int))] Z Z iP Ac (L2 _ dp vp (p) _ _ _ _ _ _ (hp.ext (Bf (B5 dp)) au) _hf (ha.ext g1 au) aa.rd1 oM (by exact hvp) oM oM (by rfl) (by simp[uN]) (by exact hna) (by rw[ST];exact QY _ _)) ?_
    rintro e16 w16 ⟨a0,rfl,ab,aj,c0⟩
    refine⟨_,rfl,ab,?_⟩
    have cl:=ab.size
    have c1:=au.trans ab
    have a4:=a3.ext (o2) ab
    have ap:=ad.ext (o2) ab
    have af:=aa.ext (o1) ab
    refine Af 1 Z (AQ (vs:=[a0,(.int .i64 (Hl p (((1:Nat):Int).toNat+1) f.toNat (Gj a (uN a.length ((k:Nat):Int).toNat) 2)))]) a0 Z Z Ac (AQ (vs:=[a0,(.int .i64 (Hl p (((1:Nat):Int).toNat+1) f.toNat (Gj a (uN a.length ((k:Nat):Int).toNat) 2)))]) (.int .i64 (Hl p (((1:Nat):Int).toNat+1) f.toNat (Gj a (uN a.length ((k:Nat):Int).toNat) 2))) Z Z Ac (Ae 2 Z (A0 (Ad _ [0] Z ?_)))))
    have hEI:ZH p 2 f.toNat (Gj a (uN a.length k) 2):=by assumption
    rw[ST]at hEI
    have hdi:fI p f.toNat a (eV a.length k)=ET p f.toNat a:=fJ _ _ _ _
    have d8:ET p f.toNat a=0:=by omega
    have hvK:=hNP.len d8
    have hol:(Qa p f.toNat a (eV a.length k)).length=(FN p f.toNat a).length:=by rw[hvK];exact hEI.len (by show fI p f.toNat a (eV a.length k)=0;omega)
    have hos:=hEI.ser
    have b6:Fr (AR (AR rI 2) 27) w15.heap.size w16.heap.size w16.heap a0 (Qa p f.toNat a (eV a.length k)):=by have h:=aj;rw[Int.toNat_natCast,ST]at h;exact h
    refine Ae 1 Z (A5 ?_)
    obtain⟨Xn19,kO19,kN19,kR19⟩:=id b6
    have kY19:=Oo.of a4 oM kR19
    refine AL (S:=Nat) (fun i=>([(15,(.int .i64 ((i:Nat):Int))),(0,vp),(1,(.int .i64 f)),(2,va),(10,(.int .i64 (Hl p (((1:Nat):Int).toNat+1) f.toNat (Gj a (uN a.length ((k:Nat):Int).toNat) 2)))),(11,vo),(13,(.int .i64 ((k:Nat):Int))),(14,a0)])) (fun i W=>Ay w W∧Oo 2 27 w1.heap.size Xn19 W.heap vo (Cu i (OS p f.toNat a (FN p f.toNat a).length (k+1)) (OS p f.toNat a (FN p f.toNat a).length k))∧AR (AR rI 2) 27 W.heap a0 (Qa p f.toNat a (eV a.length k)) Xn19∧i≤(FN p f.toNat a).length∧w1.heap.size≤W.heap.size) (fun i=>(FN p f.toNat a).length-i) 0 ⟨rfl,rfl,rfl,rfl,rfl,rfl,rfl,rfl,trivial⟩ ⟨c1,(by rw[Ch];exact kY19),kO19,oM,oM⟩ ?_
    clear hL10_0 a1 az b2 bz ao b3 b4 a2 aa ae a3 ad aj ab a4 ap af
    rintro i ρ18 w18 ⟨av,a6,a7,c2,cm⟩
    have cn:w.heap.size≤w18.heap.size:=av.size
    have hlm:=Dm i (OS p f.toNat a (FN p f.toNat a).length (k+1)) (OS p f.toNat a (FN p f.toNat a).length k) sM
    rw[OT]at hlm
    refine A0 (A0 (Ad _ [0,0,0,0] Z (Af 2 Z (AJ (v:=a0) Bi Z (GM a7).isSl Ac ?_))))
    by_cases b7:((i:Nat):Int)<(((Qa p f.toNat a (eV a.length k)).length:Nat):Int)
    ·refine Av true Z Z (A7 b7) Ac (Ah (Ai Z (A4 (A0 (A5 (B1 _ [0,0,0,0,0,1,0,0,0,1,0,1,3,4,0,4] mixed (by kernel_rfl) ?_))))))
     have hor:=(hos i (by show i<(Qa p f.toNat a (eV a.length k)).length;omega)).1
     have d9:((Qa p f.toNat a (eV a.length k)).getD i []).length=2:=hor
     refine Af 4 Z (Au (v:=vo) i Bi AW Z Z a6.isSl Z sD Ac ?_)
     obtain⟨b8,b9,c3⟩:=a6.rd2.get (k:=i) [] sD
     have co:=c3.lenle
     refine Ak (p:=Aw vo i 1) (.inl Z) b8 B6 Z b9 Ac (Af 2 Z (Au (v:=a0) i Bi AW Z Z (GM a7).isSl Z sD Ac ?_))
     obtain⟨aw,ba,aq⟩:=(GM a7).get (k:=i) [] sD
     have cp:=aq.lenle
     refine Ak (p:=Aw a0 i 1) (.inl Z) aw B6 Z ba Ac (Au (v:=aw) 1 Bh Bx Z Z aq.isSl Z sD Ac ?_)
     refine Ak (p:=Aw aw 1 1) (.inl Z) (.int .i64 (((Qa p f.toNat a (eV a.length k)).getD i []).getD 1 0)) AI Z (aq.getI sD).1 Ac ?_
     refine Bn (u:=(.int .i64 (((Qa p f.toNat a (eV a.length k)).getD i []).getD 1 0))) (B:=w18.heap.size) AO Bh Bx Z Z (Nt w18.heap.size w18.heap.size _ _ (aq.getI sD).2) (A9 _) Ac fun v24 w24 a8 da c4=>?_
     replace a8:=a8.of_drew
     have cq:=a8.size
     have bb:=av.trans a8
     have ag:=a6.ext (o2) a8
     have a5:=JE (o2) a7 a8
     have bc:=AU a8 b9
     have cr:=AU a8 ba
     refine U8 (v:=vo) (u:=b8) (a:=v24) (r:=i) Bh Bx Z Z Z ag oM (o2.lt a5) sD bc c4.rd1 (by have h9:=VI (p:=p) (f:=f.toNat) (a:=a) (K:=(FN p f.toNat a).length) (i:=k) (r:=i) oM;simp only[List.length_cons,List.length_nil];omega) (by unfold maxLen;have h9:=VI (p:=p) (f:=f.toNat) (a:=a) (K:=(FN p f.toNat a).length) (i:=k) (r:=i) oM;simp only[List.length_cons,List.length_nil];omega) Ac fun v27 w27 F27 ax bd be=>?_
     have bf:Ay w w27:=ax.below bb (fun b hb=>Aa hE1.size (bd b hb).1) bb.size
     have cs:w24.heap.size≤w27.heap.size:=ax.size
     have c5:=Kr o2 a5 ax (fun b hb=>(bd b hb).2.1)
     refine Au (v:=vo) i Bi AW Z Z be.isSl Z sD Ac (U9 (v:=vo) (u:=v27) (w:=w27) Kd Z Z be Ac fun w29 F29 ay db bg c6=>?_)
     have c7:Ay w w29:=ay.below bf (fun b hb=>Aa hE1.size (bg b hb).1) bf.size
     have ct:w27.heap.size≤w29.heap.size:=ay.size
     have c8:=Kr o2 c5 ay (fun b hb=>(bg b hb).2.1)
     exact Ah (Ad _ [0,0,0] Z (Af 1 Z (AH ((i+1:Nat):Int) Z Z (B7 oM sD) Ac (Ae 1 Z ⟨(i+1),_,rfl,⟨rfl,rfl,rfl,rfl,rfl,rfl,rfl,rfl,trivial⟩,⟨c7,(by have h:=c6;rw[← dY oM];exact h),c8,oM,oM⟩,by first|omega|(dsimp only;omega)⟩))))
    ·refine Av false Z Z (A8 b7) Ac (Ah (Aj Z (A6 (As (As (An (Ad _ [0,0,0] Z (Af 1 Z (AH ((k+1:Nat):Int) Z Z (B7 oM sD) Ac (Ae 1 Z ?_))))))))))
     exact⟨((k+1),(Hl p (((1:Nat):Int).toNat+1) f.toNat (Gj a (uN a.length ((k:Nat):Int).toNat) 2))),_,rfl,⟨rfl,rfl,rfl,rfl,rfl,rfl,trivial⟩,⟨av,(by have h:=a6.fr;rwa [CP sM (by rw[OT];omega)]at h),oM,(by show fI p f.toNat a (uN a.length k)=_;rw[ST];exact hdi),oM⟩,by first|omega|(dsimp only;omega)⟩
   ·refine AA false Z Z (A8 b1) (Al (e:=39) Z Z Z) (Ae 1 Z (Aj Z (A6 (As (As (An (A0 (A0 (Ad _ [0,0] Z (Af 1 Z ?_))))))))))
    by_cases bh:c≠((0:Nat):Int)
    ·refine AY true Z Z (A7 bh) Ac (Ah (Ai Z (A0 (Ad _ [3,0,0,0] Z (BH (AR rI 2) o1 Bi AW Ac fun v32 w32 bi dc bj=>?_)))))
     have cu:=bi.size
     have c9:=a1.trans bi
     exact Ae 3 Z (A3 (Aq (Ag [6,7] Z (.tuple #[v32,(.int .i64 c)]) Z ⟨v32,Pn,c9,(by first|(rw[if_neg oM];exact(bj.up o2).low a1.size)|(have h:=(bj.up o2).low a1.size;rw[if_pos oM];rw[show k=a.length from by omega,hNP.len oM]at h;exact h)),bo⟩)))
    ·exact AY false Z Z (A8 bh) Ac (Ah (Aj Z (A4 (A0 (Ad _ [0,0,0] Z (Ae 3 Z (A3 (Ag [6,7] Z (.tuple #[vo,(.int .i64 ((0:Nat):Int))]) Z ⟨vo,Pn,a1,Y4,bo⟩))))))))
  ·refine Av false Z Z (A8 b0) Ac (Ae 4 Z (Aj Z (A6 (As (As (An (A0 (A0 (Ad _ [0,0] Z (Af 1 Z ?_))))))))))
   by_cases bk:c≠((0:Nat):Int)
   ·refine AY true Z Z (A7 bk) Ac (Ah (Ai Z (A0 (Ad _ [3,0,0,0] Z (BH (AR rI 2) o1 Bi AW Ac fun v34 w34 bl dd bm=>?_)))))
    have cv:=bl.size
    have ca:=a1.trans bl
    exact Ae 3 Z (A3 (Aq (Ag [6,7] Z (.tuple #[v34,(.int .i64 c)]) Z ⟨v34,Pn,ca,(by first|(rw[if_neg oM];exact(bm.up o2).low a1.size)|(have h:=(bm.up o2).low a1.size;rw[if_pos oM];rw[show k=a.length from by omega,hNP.len oM]at h;exact h)),bo⟩)))
   ·exact AY false Z Z (A8 bk) Ac (Ah (Aj Z (A4 (A0 (Ad _ [0,0,0] Z (Ae 3 Z (A3 (Ag [6,7] Z (.tuple #[vo,(.int .i64 ((0:Nat):Int))]) Z ⟨vo,Pn,a1,Y4,bo⟩))))))))
theorem Nn (w:World)(vy:Value)(y:List (List Int))(By Uy:Nat)(hy:Fr (AR (AR rI 2) 27) By Uy w.heap vy y)(hUy:Uy≤w.heap.size)(hml:∀k,k<y.length→1≤(y.getD k []).length∧(y.getD k []).length≤1000000)(hyl:y.length≤1000000) :
  Calls Tryz.prog 137 #[vy] w (fun e w'=>∃v0:Value,e=.returned (v0)∧Ay w w'∧Fr (AR (AR rI 2) 27) w.heap.size w'.heap.size w'.heap v0 (y.map (fun r=>r.drop 1))):=by
 refine At [vy] 22 Tryz.func137 Z Z sM ?_
 have aq:Ay w w:=Ay.refl w
 refine A0 (Ad _ [0] Z (Ae 1 Z (A0 (Ad _ [3,0] Z (BH (AR rI 2) o1 Bi AW Ac fun v1 w1 ac ax ar=>?_)))))
 have ae:=ac.size
 have hE1:=aq.trans ac
 have af:=hy.ext (o2) ac
 refine Ae 1 Z (A0 (A0 (Ad _ [0] Z (Ae 1 Z (A5 ?_)))))
 refine AL (S:=Nat×Value) (fun⟨k,vo⟩=>([(3,vo),(4,(.int .i64 ((k:Nat):Int))),(0,vy)])) (fun⟨k,vo⟩ W=>Ay w W∧Fr (AR (AR rI 2) 27) w.heap.size W.heap.size W.heap vo ((y.take k).map (fun r=>r.drop 1))∧Fr (AR (AR rI 2) 27) By Uy W.heap vy y∧k≤y.length) (fun⟨k,vo⟩=>y.length-k) (0,v1) ⟨rfl,rfl,rfl,trivial⟩ ⟨hE1,ar.up o2,af,sD⟩ ?_
 clear aq ar ax ac ae hE1
 rintro⟨k,vo⟩ ρ2 w2 ⟨ad,a5,a0,au⟩
 have ay:w.heap.size≤w2.heap.size:=ad.size
 refine A0 (A0 (Ad _ [0,0,0,0] Z (Af 2 Z (AJ (v:=vy) Bi Z a0.isSl Ac ?_))))
 by_cases av:((k:Nat):Int)<((y.length:Nat):Int)
 ·refine Av true Z Z (A7 av) Ac (Ah (Ai Z (A4 (A0 (A5 (Ad _ [0,0,0,0,2,0,3,3,4,0] Z ?_))))))
  have hmk:=hml k oM
  refine Af 3 Z (Au (v:=vy) k Bi AW Z Z a0.isSl Z sD Ac ?_)
  obtain⟨ag,ah,ai⟩:=a0.rd2.get (k:=k) [] sD
  have az:=ai.lenle
  refine Ak (p:=Aw vy k 1) (.inr Z) ag B6 Z ah Ac ?_
  have a8:=Fr.rowCap o1 a0 sD ah
  refine ZV (v:=ag) Bh Bx Z ai.isSl a8 Z sD Ac ?_
  have aj:=(RN.suf (S:=[]) AO (RN.of ai) sD a8).rd
  refine Ap 165 [] [] [(OW ag)] Z Z SW Ac (EV _ _ _ aj (by rw[List.length_drop];omega)) ?_
  rintro e6 w6 ⟨ak,rfl,a7,a9⟩
  refine⟨_,rfl,a7,?_⟩
  have b0:=a7.size
  have b1:=ad.trans a7
  have a1:=a5.ext (o2) a7
  have a2:=a0.ext (o2) a7
  have al:=AU a7 ah
  refine Bn (u:=ak) (B:=w2.heap.size) o1 Bi AW Z Z a9 (by first|exact A9 _|omega) Ac fun v8 w8 aa b5 b2=>?_
  have b3:=aa.size
  have am:=b1.trans aa
  have a3:=a1.ext (o2) aa
  have a4:=a2.ext (o2) aa
  have b4:=AU aa al
  refine Ej o1 (v:=vo) (a:=v8) Bi AW Z Z Z a3 am.size b2 oM ad.size sD (by unfold maxLen;first|omega|assumption|(simp;done)|(simp;omega)) Ac fun v10 w10 F10 a6 ab an=>?_
  have ao:Ay w w10:=a6.below am (fun c hc=>Aa (A9 _) (ab c hc).1) am.size
  have aw:w8.heap.size≤w10.heap.size:=a6.size
  have ap:=a4.chg (o2) a6 (fun c hc=>by have:=ab c hc;omega)
  refine Ae 1 Z (Ad _ [0,0,0] Z (Af 1 Z (AH ((k+1:Nat):Int) Z Z (B7 oM sD) Ac (Ae 1 Z ?_))))
  exact⟨((k+1),v10),_,rfl,⟨rfl,rfl,rfl,trivial⟩,⟨ao,(by rw[Dc [] oM];exact an.up o2),ap,sD⟩,by first|omega|(dsimp only;omega)⟩
 ·exact Av false Z Z (A8 av) Ac (Ah (Aj Z (A6 (As (As (An (A0 (Ad _ [0,0] Z (Ae 2 Z (A3 (Ag [2] Z vo Z ⟨vo,rfl,ad,(by have h:=a5.up o2;rwa [List.take_of_length_le oM]at h)⟩)))))))))))
theorem Y5 {p:Prop}(h:p:=by unfold maxLen;first|omega|assumption|(simp only[List.length_nil,List.length_cons,List.length_append,List.length_set,List.length_replicate,FI,DH];omega)|(simp[List.length_nil,List.length_cons,List.length_append,List.length_set,List.length_replicate,FI,DH];done)|(simp[List.length_nil,List.length_cons,List.length_append,List.length_set,List.length_replicate,FI,DH];omega)):p:=h
theorem Cy {p:Prop}(h:p:=by first|omega|assumption|(simp only[List.length_nil,List.length_cons,List.length_append,List.length_set,List.length_replicate,FI,DH];omega)|(simp[List.length_nil,List.length_cons,List.length_append,List.length_set,List.length_replicate,FI,DH];done)|(simp[List.length_nil,List.length_cons,List.length_append,List.length_set,List.length_replicate,FI,DH];omega)):p:=h
theorem HU (w:World)(dp:Nat)(vp:Value)(p:List Fn)(f:Int)(va:Value)(a:List Int)(order:Int)(hp:RP [] dp w.heap vp p)(_hf:BC f)(ha:Rd (B3 rI) w.heap va a)(_horder:BC order)(hz:Sf p) :
  Calls Tryz.prog 56 #[(.agg #[vp]),.int .i64 f,va,.int .i64 order] w (fun e w'=>∃v0:Value,e=.returned (.tuple #[v0,.int .i64 (LU p f a order)])∧Ay w w'∧Fr (AR (AR rI 2) 27) w.heap.size w'.heap.size w'.heap v0 (HG p f a order)):=by
 refine At [(.agg #[vp]),.int .i64 f,va,.int .i64 order] 162 Tryz.func56 Z Z sM ?_
 have jg:Ay w w:=Ay.refl w
 have hl_vp:=hp.lenle
 unfold maxLen at hl_vp
 have hl_va:=ha.lenle
 refine A0 (Ad _ [3,0,0] Z (Bv (cs:=#[vp]) Z Ac fun w1 gg kc ge=>?_))
 have gh:=gg.size
 have hE1:=jg.trans gg
 replace ge:BX w1.heap w.heap.size [vp]:=ge
 refine Ae 2 Z (A0 (Ad _ [0,3,0] Z (Af 1 Z (Ap 136 [] [] [(.pointer (some ⟨w.heap.size,0,none⟩)),(.int .i64 f)] Z Z hZ Ac (Jw _ dp ((.pointer (some ⟨w.heap.size,0,none⟩))) (p) _ (RN.box ge (RP.mk' (hp.ext (Am (AB dp)) hE1)) sM) _hf (by exact hz)) ?_))))
 rintro e2 w2 ⟨rfl,dq⟩
 refine⟨_,rfl,dq,?_⟩
 have gi:=dq.size
 have d7:=hE1.trans dq
 have cz:=ge.ext dq
 refine Ae 1 Z (A0 (A0 (Ad _ [0,0,0,0,0,2,0,0,0,2,0,3,0,0,0,0,0,0,0] Z (Af 1 Z ?_))))
 by_cases jh:I7 p f Ef=((0:Nat):Int)
 ·refine AA true Z Z (A7 jh) Ac (Af 2 Z ?_)
  have kd:=X0 (p:=p) (f:=f) oM
  refine Ao (p:=(.pointer (some ⟨w.heap.size,0,none⟩))) (b:=w.heap.size) (o:=0) 0 BU Z Z (Al (e:=31) Z Z Z) (Ak (p:=(Az (.pointer (some ⟨w.heap.size,0,none⟩)) 0)) (.inr Z) vp Cx Z (cz.ldp (i:=0) sM) (Al (e:=31) Z Z Z) (Af 1 Z (Au (v:=vp) ((f).toNat) GA CE Z Z hp.isSl oM Cy (Al (e:=31) Z Z Z) ?_)))
  obtain⟨cs4,ke,ji⟩:=hp.get (AB dp) Fn.zero (k:=((f).toNat)) Cy
  obtain⟨kw,rfl,kf⟩:=RF.of ke
  have dr:=kf.rn.lenle
  unfold maxLen at dr
  refine AM (p:=Aw vp ((f).toNat) 3) 1 CH Z (ji _ (AE.of_ext [] d7)) (Al (e:=31) Z Z Z) (Ak (p:=(Az (Aw vp ((f).toNat) 3) 1)) (.inr Z) (.int .i64 ((p.getD ((f).toNat) Fn.zero).params)) AI Z ((ji _ (AE.of_ext [] d7)).ld (i:=1) (by simp[Ge,Gf])) (Al (e:=31) Z Z Z) (Cj ((p.getD f.toNat Fn.zero).params-1) Z Z (DX oM oM) (Al (e:=31) Z Z Z) (Ap 119 [] [] [va,(.int .i64 ((p.getD f.toNat Fn.zero).params-1))] Z Z gN (Al (e:=31) Z Z Z) (Kh _ _ _ _ (ha.ext g1 d7) oM) ?_)))
  rintro e5 w5 ⟨rfl,ds⟩
  refine⟨_,rfl,ds,?_⟩
  have gj:=ds.size
  have d8:=d7.trans ds
  have dt:=cz.ext ds
  refine Bp (!(decide (((a.length:Nat):Int)=((p.getD f.toNat Fn.zero).params-1)) && B8 a)) Z Z (Al (e:=31) Z Z Z) (Af 1 Z ?_)
  cases kg:(!(decide (((a.length:Nat):Int)=((p.getD f.toNat Fn.zero).params-1)) && B8 a))
  ·refine Af 1 Z (AD 92 [] [] [(.int .i64 order),(.int .i64 ((0:Nat):Int)),(.int .i64 ((12:Nat):Int))] Z Z IL (Al (e:=42) Z Z Z) (.bool (decide (((0:Nat):Int)≤order) && decide (order≤((12:Nat):Int)))) (fun wq=>Br wq _ _ _ _horder oM oM) (Bp (!(decide (((0:Nat):Int)≤order) && decide (order≤((12:Nat):Int)))) Z Z (Al (e:=42) Z Z Z) (Ae 2 Z ?_)))
   cases jj:(!(decide (((0:Nat):Int)≤order) && decide (order≤((12:Nat):Int))))
   ·refine Aj (by first|rfl|(show Value.bool _=_;rw[jj])) (A4 (A0 (A0 (Ad _ [0,0] Z (Af 1 Z ?_)))))
    have kh:¬(I7 p f Ef≠((0:Nat):Int)):=oM
    refine AY false Z Z (A8 kh) Ac (Ah (Aj Z (A4 (A0 (Ad _ [3,0,4,0] Z ?_)))))
    have dm:Kb p f a order=0:=aL oM (Fi ‹(!(decide (((a.length:Nat):Int)=((p.getD f.toNat Fn.zero).params-1)) && B8 a))=false›) (show HC order 0 12=true from Fi ‹(!(decide (((0:Nat):Int)≤order) && decide (order≤((12:Nat):Int))))=false›)
    have hKP:=Xd dm
    have hIm:=hKP.1
    have kg:=hIm.b
    have hpl:=hIm.l
    have hvp:=hIm.v
    clear kd
    refine Bn (u:=(.int .i64 ((0:Nat):Int))) (B:=w5.heap.size) AO Bh Bx Z Z (Nt w5.heap.size w5.heap.size _ _ oM) (A9 _) Ac fun v10 w10 cq gk du=>?_
    have dv:=cq.size
    have cr:=d8.trans cq
    have d9:=dt.ext cq
    refine Af 1 Z ?_
    refine Gv (v:=v10) (a:=va) Bh Bx Z Z Z du oM (ha.ext g1 cr) Cy Y5 Ac fun v11 w11 F11 ct da dw=>?_
    have db:Ay w w11:=ct.below cr (fun c hc=>Aa d8.size (da c hc).1) cr.size
    have dx:w10.heap.size≤w11.heap.size:=ct.size
    have dc:=d9.chg ct (fun hm=>by have:=da _ hm;omega)
    refine Ae 1 Z (A0 (Ad _ [0,0,3,0,0,0,0,0,0,0] Z ?_))
    have d0:Fr (AR rI 2) w5.heap.size w11.heap.size w11.heap v11 (0::a):=by exact dw
    refine Af 2 Z (Ap 68 [] [] [(.pointer (some ⟨w.heap.size,0,none⟩)),(.int .i64 f),v11] Z Z gD Ac (Im _ dp ((.pointer (some ⟨w.heap.size,0,none⟩))) (p) _ _ _ (RN.box dc (RP.mk' (hp.ext (Am (AB dp)) db)) sM) _hf d0.rd1 (by exact hvp) (by exact hKP.2.2.1) (by rw[List.length_cons];omega) (by exact hIm.num)) ?_)
    rintro e14 w14 ⟨a1,rfl,bu,ce,gl,gm⟩
    refine⟨_,rfl,bu,?_⟩
    have dy:=bu.size
    have cu:=db.trans bu
    have b2:=dc.ext bu
    have cf:=d0.ext (o1) bu
    refine Af 1 Z (AQ (vs:=[a1,(.int .i64 ((QN p 1 f.toNat (C7 (0::a)):Nat):Int)),(.int .i64 (ET p f.toNat (0::a)))]) a1 Z Z Ac (AQ (vs:=[a1,(.int .i64 ((QN p 1 f.toNat (C7 (0::a)):Nat):Int)),(.int .i64 (ET p f.toNat (0::a)))]) (.int .i64 ((QN p 1 f.toNat (C7 (0::a)):Nat):Int)) Z Z Ac (AQ (vs:=[a1,(.int .i64 ((QN p 1 f.toNat (C7 (0::a)):Nat):Int)),(.int .i64 (ET p f.toNat (0::a)))]) (.int .i64 (ET p f.toNat (0::a))) Z Z Ac (Ae 3 Z (A0 (A0 (Ad _ [0,0] Z ?_)))))))
    have hNP:=‹fi p f.toNat (0::a)›
    have hNC:=hNP.code
    refine Af 1 Z ?_
    by_cases dz:ET p f.toNat (0::a)≠((0:Nat):Int)
    ·refine AY true Z Z (A7 dz) Ac (Ah (Ai Z (A0 (Ad _ [3,0,0,0] Z (BH (AR rI 2) o1 Bi AW Ac fun v16 w16 dd ki gn=>?_)))))
     have jk:=dd.size
     have go:=cu.trans dd
     have gf:=b2.ext dd
     refine Ae 3 Z (A3 (Aq ?_))
     have hcn:ET p f.toNat (0::a)≠0:=by omega
     exact Ag [8,9] Z (.tuple #[v16,(.int .i64 (ET p f.toNat (0::a)))]) Z ⟨v16,(by rw[Qk dm hcn]),go,(by rw[IY (by rw[Qk dm hcn];exact hcn)];exact(gn.up o2).low cu.size)⟩
    ·refine AY false Z Z (A8 dz) Ac (Ah (Aj Z (A4 (A0 (A0 (Ad _ [0] Z ?_))))))
     have dn:ET p f.toNat (0::a)=0:=by omega
     have hnl:(FN p f.toNat (0::a)).length=a.length:=by rw[hNP.len dn];have:=hIm.o;omega
     obtain⟨xs0,T0,hrc⟩:=Xh hIm.v hIm.lt (by rw[List.length_cons];omega) hIm.num dn
     refine Ae 1 Z (A5 (AL (S:=Nat) (fun i=>([(14,(.int .i64 ((i:Nat):Int))),(1,(.int .i64 f)),(2,va),(3,(.int .i64 order)),(4,(.pointer (some ⟨w.heap.size,0,none⟩))),(11,v11),(12,a1)])) (fun i W=>Ay w W∧Fr (AR rI 2) w5.heap.size w11.heap.size W.heap v11 (0::a)∧Fr (AR rI 2) w11.heap.size w14.heap.size W.heap a1 (FN p f.toNat (0::a))∧BX W.heap w.heap.size [vp]∧i≤a.length∧(∀j,j<i→(FN p f.toNat (0::a)).getD j 0=0)) (fun i=>a.length-i) 0 ⟨rfl,rfl,rfl,rfl,rfl,rfl,rfl,trivial⟩ ⟨cu,cf,ce,b2,oM,(by intro j hj;omega)⟩ ?_))
     clear jg kc gg gh hE1 dq gi d7 dr ds du gk cq dv cr dw da ct dc ce bu b2
     rintro i ρ17 w17 ⟨bh,b3,a2,a6,gp,hzz⟩
     have e0:w.heap.size≤w17.heap.size:=bh.size
     have kj:=a6.lt
     refine A0 (A0 (Ad _ [0,0,0,0] Z (Af 2 Z (AJ (v:=a1) Bh Z a2.isSl Ac ?_))))
     by_cases e1:((i:Nat):Int)<(((FN p f.toNat (0::a)).length:Nat):Int)
     ·refine Av true Z Z (A7 e1) Ac (Ah (Ai Z (A4 (A0 (A5 (A0 (Ad _ [0,0,0,2,0] Z (Af 2 Z (Au (v:=a1) i Bh Bx Z Z a2.isSl Z Cy Ac ?_)))))))))
      refine Ak (p:=Aw a1 i 1) (.inr Z) (.int .i64 ((FN p f.toNat (0::a)).getD i 0)) AI Z (a2.rd1.getI Cy).1 Ac ?_
      by_cases e3:(FN p f.toNat (0::a)).getD i 0≠((0:Nat):Int)
      ·refine AY true Z Z (A7 e3) Ac (Ah (Ai Z (A0 (Ad _ [3,0,0] Z (BH (AR rI 2) o1 Bi AW Ac fun v21 w21 e4 kk gq=>?_)))))
       have jl:=e4.size
       have gr:=bh.trans e4
       refine Ae 2 Z (A3 (AK (Aq (Aq (AK (Aq ?_))))))
       have hcf:=Xe dm dn (eO (j:=i) oM (by assumption))
       exact Ag [8,9] Z (.tuple #[v21,(.int .i64 ((4:Nat):Int))]) Z ⟨v21,(by rw[hcf];rfl),gr,(by rw[IY (by rw[hcf];decide)];exact(gq.up o2).low bh.size)⟩
      ·refine AY false Z Z (A8 e3) Ac (Ah (Aj Z (A4 (Ad _ [0,0,0] Z (Af 1 Z (AH ((i+1:Nat):Int) Z Z (B7 oM Cy) Ac (Ae 1 Z ?_)))))))
       exact⟨(i+1),_,rfl,⟨rfl,rfl,rfl,rfl,rfl,rfl,rfl,trivial⟩,⟨bh,b3,a2,a6,oM,(by intro j hj;by_cases h9:j=i;(subst h9;omega);exact hzz j oM)⟩,by first|omega|(dsimp only;omega)⟩
     ·refine Av false Z Z (A8 e1) Ac (Ah (Aj Z (A6 (As (As (An (A0 (Ad _ [0,0,3,0,0,0,0,0] Z ?_))))))))
      have hnz:(FN p f.toNat (0::a)).any (fun x=>x != 0)=false:=fY (fun j hj=>hzz j oM)
      refine Af 2 Z (Ap 120 [] [] [(.pointer (some ⟨w.heap.size,0,none⟩)),(.int .i64 f),v11] Z Z gO Ac (Jy _ dp ((.pointer (some ⟨w.heap.size,0,none⟩))) (p) _ _ _ (RN.box a6 (RP.mk' (hp.ext (Am (AB dp)) bh)) sM) _hf b3.rd1 (by exact hvp) (by exact hKP.2.2.1) (by rw[List.length_cons];omega) (by exact hIm.num)) ?_)
      rintro e22 w22 ⟨a8,rfl,bi,cg,gs⟩
      refine⟨_,rfl,bi,?_⟩
      have jm:=bi.size
      have gt:=bh.trans bi
      have a9:=b3.ext (o1) bi
      have aa:=a2.ext (o1) bi
      have ab:=a6.ext bi
      refine Af 1 Z (AQ (vs:=[a8,(.int .i64 (ET p f.toNat (0::a)))]) a8 Z Z Ac (AQ (vs:=[a8,(.int .i64 (ET p f.toNat (0::a)))]) (.int .i64 (ET p f.toNat (0::a))) Z Z Ac (Ae 2 Z (A0 (Ad _ [0,3,0] Z ?_)))))
      have e6:Fr (AR (AR rI 2) 27) w17.heap.size w22.heap.size w22.heap a8 (R5 p f.toNat (0::a) a.length):=by have h:=cg;rw[if_pos dn,show(p.getD f.toNat Fn.zero).outs.length=a.length from by have:=hIm.o;omega]at h;exact h
      have hjl:(R5 p f.toNat (0::a) a.length).length=a.length:=by simp[R5]
      refine Af 1 Z (Ap 137 [] [] [a8] Z Z iA Ac (Nn _ a8 (R5 p f.toNat (0::a) a.length) (w17.heap.size) (w22.heap.size) e6 oM (by intro j hj;rw[LT oM,DB,List.length_cons];omega) oM) ?_)
      rintro e24 w24 ⟨a0,rfl,bj,ch⟩
      refine⟨_,rfl,bj,?_⟩
      have e7:=bj.size
      have e8:=gt.trans bj
      have ac:=a9.ext (o1) bj
      have ad:=aa.ext (o1) bj
      have ae:=ab.ext bj
      refine Ae 1 Z (A0 (A0 (Ad _ [0,3,0] Z ?_)))
      have d1:Fr (AR (AR rI 2) 27) w22.heap.size w24.heap.size w24.heap a0 (Hb p f.toNat a):=by exact ch
      have hjS:=R6 hrc (by have:=hrc.xl;have:=hIm.o;omega)
      have gu:(Hb p f.toNat a).length=a.length:=Ka
      have gv:Sq (Hb p f.toNat a).length (Hb p f.toNat a):=by rw[gu];exact hjS
      refine Af 1 Z (Ap 121 [] [] [a0] Z Z gP Ac (NI _ _ _ d1.rd2 (by exact gv) oM) ?_)
      rintro e26 w26 ⟨rfl,bc⟩
      refine⟨_,rfl,bc,?_⟩
      have jn:=bc.size
      have bv:=e8.trans bc
      have af:=ac.ext (o1) bc
      have ag:=ad.ext (o1) bc
      have ah:=ae.ext bc
      have ci:=d1.ext (o2) bc
      by_cases e9:Ed (Hb p f.toNat a)=((0:Nat):Int)
      ·refine AA true Z Z (A7 e9) Ac (Ah (Ai Z (A0 (Ad _ [3,0,0] Z (BH (AR rI 2) o1 Bi AW Ac fun v28 w28 ea kl gw=>?_)))))
       have jo:=ea.size
       have gx:=bv.trans ea
       refine Ae 2 Z (A3 (Aq ?_))
       have hcf:=Xf dm dn hnz (by assumption)
       exact Ag [8,9] Z (.tuple #[v28,(.int .i64 ((6:Nat):Int))]) Z ⟨v28,(by rw[hcf];rfl),gx,(by rw[IY (by rw[hcf];decide)];exact(gw.up o2).low bv.size)⟩
      ·refine AA false Z Z (A8 e9) Ac (Ah (Aj Z (A4 (A0 (Ad _ [3,0] Z ?_)))))
       have hdt:Ed (Hb p f.toNat a)≠0:=by omega
       refine BH (AR rI 2) o1 Bi AW Ac fun v29 w29 bk gy eb=>?_
       have ec:=bk.size
       have ed:=bv.trans bk
       have bw:=af.ext (o1) bk
       have bx:=ag.ext (o1) bk
       have ai:=ah.ext bk
       have cj:=ci.ext (o2) bk
       refine Ae 1 Z (A0 (A0 (Ad _ [0] Z (Ae 1 Z (A5 ?_)))))
       refine AL (S:=Nat×Value) (fun⟨i,vy⟩=>([(18,vy),(19,(.int .i64 ((i:Nat):Int))),(1,(.int .i64 f)),(2,va),(3,(.int .i64 order)),(4,(.pointer (some ⟨w.heap.size,0,none⟩))),(17,a0)])) (fun⟨i,vy⟩ W=>Ay w W∧Fr (AR (AR rI 2) 27) w26.heap.size W.heap.size W.heap vy ((a.take i).map (cst (order.toNat+1)))∧Fr (AR (AR rI 2) 27) w22.heap.size w24.heap.size W.heap a0 (Hb p f.toNat a)∧BX W.heap w.heap.size [vp]∧i≤a.length∧w.heap.size<w26.heap.size∧w26.heap.size≤W.heap.size) (fun⟨i,vy⟩=>a.length-i) (0,v29) ⟨rfl,rfl,rfl,rfl,rfl,rfl,rfl,trivial⟩ ⟨ed,eb.up o2,cj,ai,Cy,oM,oM⟩ ?_
       clear gj d8 db dx dy cu a6 a2 b3 bh e0 cg bi a9 aa ab ch bj ac ad ae bc af ag ah eb gy bk ec ed bw bx ai
       rintro⟨i,vy⟩ ρ31 w31 ⟨ck,bl,bm,b4,gz,jp,jq⟩
       have ee:w.heap.size≤w31.heap.size:=ck.size
       have km:=b4.lt
       refine A0 (A0 (Ad _ [0,0,0,0] Z (Af 2 Z (AJ (v:=va) Bh Z ha.isSl Ac ?_))))
       by_cases ef:((i:Nat):Int)<((a.length:Nat):Int)
       ·refine Av true Z Z (A7 ef) Ac (Ah (Ai Z (A4 (A0 (A5 (Ad _ [0,0,0,0,2,0,0,3,3,4,0] Z (Af 3 Z (Au (v:=va) i Bh Bx Z Z ha.isSl Z Cy Ac ?_))))))))
        refine Ak (p:=Aw va i 1) (.inr Z) (.int .i64 (a.getD i 0)) AI Z (AU ck (ha.getI Cy).1) Ac (Af 1 Z (AH ((order.toNat+1:Nat):Int) Z Z (by rw[DX oM oM];omega) Ac ?_))
        refine Ap 122 [] [] [(.int .i64 (a.getD i 0)),(.int .i64 ((order.toNat+1:Nat):Int))] Z Z Oj Ac (CI _ _ (order.toNat+1) (ha.getI Cy).2 Cy oM) ?_
        rintro e35 w35 ⟨eg,rfl,bz,de⟩
        refine⟨_,rfl,bz,?_⟩
        have jr:=bz.size
        have i0:=ck.trans bz
        have c0:=bl.ext (o2) bz
        have c1:=bm.ext (o2) bz
        have c2:=b4.ext bz
        refine Bn (u:=eg) (B:=w31.heap.size) o1 Bi AW Z Z de (by first|exact A9 _|omega) Ac fun v36 w36 cl kn i1=>?_
        have js:=cl.size
        have eh:=i0.trans cl
        have c3:=c0.ext (o2) cl
        have c4:=c1.ext (o2) cl
        have c5:=c2.ext cl
        refine Ej o1 (v:=vy) (a:=v36) Bi AW Z Z Z c3 oM i1 oM oM Cy Y5 Ac fun v37 w37 F37 cv df i2=>?_
        have i3:Ay w w37:=cv.below eh (fun c hc=>Aa bv.size (df c hc).1) eh.size
        have jt:w36.heap.size≤w37.heap.size:=cv.size
        have i4:=c4.chg (o2) cv (fun c hc=>by have:=df c hc;omega)
        have i5:=c5.chg cv (fun hm=>by have:=df _ hm;omega)
        refine Ae 1 Z (Ad _ [0,0,0] Z (Af 1 Z (AH ((i+1:Nat):Int) Z Z (B7 oM Cy) Ac (Ae 1 Z ?_))))
        exact⟨((i+1),v37),_,rfl,⟨rfl,rfl,rfl,rfl,rfl,rfl,rfl,trivial⟩,⟨i3,(by rw[Dc 0 oM];exact i2.up o2),i4,i5,Cy,oM,oM⟩,by first|omega|(dsimp only;omega)⟩
       ·refine Av false Z Z (A8 ef) Ac (Ah (Aj Z (A6 (As (As (An (A0 (A0 (Ad _ [0] Z ?_)))))))))
        have ei:Fr (AR (AR rI 2) 27) w26.heap.size w31.heap.size w31.heap vy (Kl p f.toNat a order.toNat 0):=by have h:=bl;rw[List.take_of_length_le oM]at h;exact h
        obtain⟨BL,hBL⟩:∃b:Nat,b=w24.heap.size:=⟨_,rfl⟩
        have d2:=bm
        rw[← hBL]at d2
        have i6:BL≤w31.heap.size:=by omega
        have i7:BL≤w26.heap.size:=by omega
        refine Ae 1 Z (A5 ?_)
        refine AL (S:=Nat×List (List Int)) (fun⟨k,ys⟩=>([(20,(.int .i64 ((k:Nat):Int))),(1,(.int .i64 f)),(3,(.int .i64 order)),(4,(.pointer (some ⟨w.heap.size,0,none⟩))),(17,a0),(18,vy)])) (fun⟨k,ys⟩ W=>Ay w W∧Fr (AR (AR rI 2) 27) w26.heap.size W.heap.size W.heap vy ys∧Fr (AR (AR rI 2) 27) w22.heap.size BL W.heap a0 (Hb p f.toNat a)∧BX W.heap w.heap.size [vp]∧BL≤W.heap.size∧1≤k∧k≤order.toNat+1∧ys=Kl p f.toNat a order.toNat (k-1)∧w.heap.size<w26.heap.size∧w26.heap.size≤W.heap.size) (fun⟨k,ys⟩=>order.toNat+1-k) (1,(Kl p f.toNat a order.toNat 0)) ⟨rfl,rfl,rfl,rfl,rfl,rfl,trivial⟩ ⟨ck,ei.up o2,d2,b4,oM,oM,oM,(by rfl),oM,oM⟩ ?_
        clear e7 e8 b4 bm bl ck ee
        rintro⟨k,ys⟩ ρ45 w45 ⟨dg,b5,cm,bn,i8,i9,ia,hyf,ju,jv⟩
        have jw:w.heap.size≤w45.heap.size:=dg.size
        have ko:=bn.lt
        refine A0 (A0 (Ad _ [0,0,0] Z (Af 2 Z ?_)))
        by_cases ej:((k:Nat):Int)≤order
        ·refine Ei true Z Z (A7 ej) Ac (Ah (Ai Z (A4 (A0 (A5 (A0 (Ad _ [0,0,0,0,3,3,0,0,3,0,0,0,0,0] Z ?_)))))))
         have hse:=Xj (o:=order.toNat) (k:=k-1) hIm hrc hdt hnz oM
         rw[← hyf]at hse
         have hsel:=hse.2.1
         have hso:=eS (o:=order.toNat) (k:=k) hIm hrc hse.1 hse.2.2 oM oM
         refine Af 3 Z (AH ((k+1:Nat):Int) Z Z (B7 oM oM) Ac (Ap 123 [] [] [vy,(.int .i64 ((k+1:Nat):Int))] Z Z gQ Ac (NP _ vy (ys) (w26.heap.size) (w45.heap.size) (k+1) b5 oM Cy (by intro j hj;have:=(hse.1 j hj).1;omega) oM) ?_))
         rintro e49 w49 ⟨d3,rfl,bo,b6⟩
         refine⟨_,rfl,bo,?_⟩
         have ek:=bo.size
         have el:=dg.trans bo
         have aj:=b5.ext (o2) bo
         have ak:=cm.ext (o2) bo
         have al:=bn.ext bo
         refine Ap 111 [] [] [d3] Z Z gJ Ac (Nk _ d3 (ys.map (Cs (k+1))) (RN.of_fr2 b6 (fun b hb=>absurd hb List.not_mem_nil)) b6.cap (by rw[List.length_map];omega) (by rw[hso.2.2.2];omega)) ?_
         rintro e50 w50 ⟨v50,rfl,bd,em,en⟩
         refine⟨_,rfl,bd,?_⟩
         have eo:=bd.size
         have dh:=el.trans bd
         have am:=aj.ext (o2) bd
         have an:=ak.ext (o2) bd
         have a3:=al.ext bd
         have ao:=b6.ext (o2) bd
         refine Af 1 Z (AH ((k+1:Nat):Int) Z Z (B7 oM oM) Ac (Ap 110 [] [] [(.pointer (some ⟨w.heap.size,0,none⟩)),(.int .i64 f),v50,(.int .i64 ((k+1:Nat):Int))] Z Z aP Ac (Il _ dp ((.pointer (some ⟨w.heap.size,0,none⟩))) (p) _ v50 (CO (ys.map (Cs (k+1)))) (k+1) (RN.box a3 (RP.mk' (hp.ext (Am (AB dp)) dh)) sM) _hf em en (by exact hvp) (by exact hKP.2.2.1) (by rw[DH,List.length_map];omega) (by exact hso.2.2.1) oM) ?_))
         rintro e51 w51 ⟨a5,rfl,b7,cn,ib⟩
         refine⟨_,rfl,b7,?_⟩
         have ep:=b7.size
         have di:=dh.trans b7
         have ap:=am.ext (o2) b7
         have aq:=an.ext (o2) b7
         have ar:=a3.ext b7
         have au:=ao.ext (o2) b7
         have ic:=em.ext g2 b7
         refine Af 1 Z (AQ (vs:=[a5,(.int .i64 (Hl p (k+1) f.toNat (CO (ys.map (Cs (k+1))))))]) a5 Z Z Ac (AQ (vs:=[a5,(.int .i64 (Hl p (k+1) f.toNat (CO (ys.map (Cs (k+1))))))]) (.int .i64 (Hl p (k+1) f.toNat (CO (ys.map (Cs (k+1)))))) Z Z Ac (Ae 2 Z (A0 (Ad _ [3,0] Z ?_)))))
         have hol:=hso.1
         have id:w45.heap.size≤w51.heap.size:=by omega
         have ie:w45.heap.size≤w50.heap.size:=by omega
         have ig:BL≤w51.heap.size:=by omega
         have ih:BL≤w26.heap.size:=by omega
         have ii:BL≤w45.heap.size:=by omega
         have ij:BL≤w50.heap.size:=by omega
         have ik:w49.heap.size≤w51.heap.size:=by omega
         have il:w49.heap.size≤w50.heap.size:=by omega
         refine BH (rI) AO Bh Bx Ac fun v61 w61 b8 im eq=>?_
         have er:=b8.size
         have es:=di.trans b8
         have av:=ap.ext (o2) b8
         have aw:=aq.ext (o2) b8
         have ax:=ar.ext b8
         have c6:=au.ext (o2) b8
         have ay:=cn.ext (o2) b8
         have kp:=ic.ext g2 b8
         refine Ae 1 Z (A0 (A0 (Ad _ [0] Z (Ae 1 Z (A5 ?_)))))
         refine AL (S:=Nat×Value) (fun⟨i,vr⟩=>([(23,vr),(24,(.int .i64 ((i:Nat):Int))),(1,(.int .i64 f)),(3,(.int .i64 order)),(4,(.pointer (some ⟨w.heap.size,0,none⟩))),(17,a0),(18,vy),(20,(.int .i64 ((k:Nat):Int))),(21,a5)])) (fun⟨i,vr⟩ W=>Ay w W∧Fr (AR rI 2) w51.heap.size W.heap.size W.heap vr ((aN p f.toNat a k ys).take i)∧Fr (AR (AR rI 2) 27) w26.heap.size w45.heap.size W.heap vy ys∧Fr (AR (AR rI 2) 27) w22.heap.size BL W.heap a0 (Hb p f.toNat a)∧Fr (AR (AR rI 2) 27) w50.heap.size w51.heap.size W.heap a5 (E7 p (k+1) f.toNat (CO (ys.map (Cs (k+1)))))∧BX W.heap w.heap.size [vp]∧i≤a.length∧w.heap.size<w51.heap.size∧w51.heap.size≤W.heap.size) (fun⟨i,vr⟩=>a.length-i) (0,v61) ⟨rfl,rfl,rfl,rfl,rfl,rfl,rfl,rfl,rfl,trivial⟩ ⟨es,eq.up o1,av,aw,ay,ax,oM,oM,oM⟩ ?_
         clear bn cm b5 b6 bo ek el aj ak al bd am an a3 ao cn b7 ap aq ar au eq im b8 er es av aw ax c6 ay
         rintro⟨i,vr⟩ ρ64 DX ⟨dj,bp,bq,b9,a4,ba,io,jx,jy⟩
         have jz:w.heap.size≤DX.heap.size:=dj.size
         have kq:=ba.lt
         refine A0 (A0 (Ad _ [0,0,0,0] Z (Af 2 Z (AJ (v:=a5) Bi Z a4.isSl Ac ?_))))
         by_cases et:((i:Nat):Int)<(((E7 p (k+1) f.toNat (CO (ys.map (Cs (k+1))))).length:Nat):Int)
         ·refine Av true Z Z (A7 et) Ac (Ah (Ai Z (A4 (A0 (A5 (Ad _ [0,0,0,0,2,0,0,2,0,3,4,0] Z ?_))))))
          have hoi:=hso.2.1 i oM
          have kr:=hoi.1
          have ip:=Be hoi.2 k
          refine Af 3 Z (Au (v:=a5) i Bi AW Z Z a4.isSl Z Cy Ac ?_)
          obtain⟨dk,eu,cw⟩:=a4.rd2.get (k:=i) [] Cy
          have k0:=cw.lenle
          refine Ak (p:=Aw a5 i 1) (.inr Z) dk B6 Z eu Ac (Af 1 Z (Au (v:=dk) k Bh Bx Z Z cw.isSl Z Cy Ac ?_))
          refine Ak (p:=Aw dk k 1) (.inr Z) (.int .i64 (((E7 p (k+1) f.toNat (CO (ys.map (Cs (k+1))))).getD i []).getD k 0)) AI Z (cw.getI Cy).1 Ac ?_
          refine AD 138 [] [] [(.int .i64 (((E7 p (k+1) f.toNat (CO (ys.map (Cs (k+1))))).getD i []).getD k 0))] Z Z aT Ac (.int .i64 (md (-(((E7 p (k+1) f.toNat (CO (ys.map (Cs (k+1))))).getD i []).getD k 0)))) (fun wq=>IZ wq _ (cw.getI Cy).2 (by exact ip.1)) ?_
          refine Bn (u:=(.int .i64 (md (-(((E7 p (k+1) f.toNat (CO (ys.map (Cs (k+1))))).getD i []).getD k 0))))) (B:=DX.heap.size) AO Bh Bx Z Z (Nt DX.heap.size DX.heap.size _ _ (DO _)) (A9 _) Ac fun v70 w70 be ks ev=>?_
          have k1:=be.size
          have ew:=dj.trans be
          have c7:=bp.ext (o1) be
          have c8:=bq.ext (o2) be
          have c9:=b9.ext (o2) be
          have ca:=a4.ext (o2) be
          have cb:=ba.ext be
          have k2:=AU be eu
          refine Gv (v:=vr) (a:=v70) Bh Bx Z Z Z c7 oM ev.rd1 Cy Y5 Ac fun v72 w72 F72 br cc iq=>?_
          have ir:Ay w w72:=br.below ew (fun c hc=>Aa di.size (cc c hc).1) ew.size
          have k3:w70.heap.size≤w72.heap.size:=br.size
          have is:=c8.chg (o2) br (fun c hc=>by have:=cc c hc;omega)
          have it:=c9.chg (o2) br (fun c hc=>by have:=cc c hc;omega)
          have iu:=ca.chg (o2) br (fun c hc=>by have:=cc c hc;omega)
          have iv:=cb.chg br (fun hm=>by have:=cc _ hm;omega)
          have kt:=ev.chg (o1) br (fun c hc=>by have:=cc c hc;omega)
          exact Ae 1 Z (Ad _ [0,0,0] Z (Af 1 Z (AH ((i+1:Nat):Int) Z Z (B7 oM Cy) Ac (Ae 1 Z ⟨((i+1),v72),_,rfl,⟨rfl,rfl,rfl,rfl,rfl,rfl,rfl,rfl,rfl,trivial⟩,⟨ir,(by rw[Cq 0 (by rw[FI];omega),eP oM];exact iq.up o1),is,it,iu,iv,oM,oM,oM⟩,by first|omega|(dsimp only;omega)⟩))))
         ·refine Av false Z Z (A8 et) Ac (Ah (Aj Z (A6 (As (As (An (A0 (Ad _ [0,0,3,0] Z ?_))))))))
          have ex:Fr (AR rI 2) w51.heap.size DX.heap.size DX.heap vr ((aN p f.toNat a k ys)):=by have h:=bp;rw[List.take_of_length_le (by rw[FI];omega)]at h;exact h
          have hhk:=eT hIm hrc hdt (b:=(aN p f.toNat a k ys)) P6
          refine Af 2 Z (Ap 125 [] [] [a0,vr] Z Z gR Ac (Ln _ _ _ _ _ b9.rd2 ex.rd1 (by exact hhk.1) oM (by rw[FI];omega) (by exact P6) (by exact hhk.2.2)) ?_)
          rintro e79 w79 ⟨bf,rfl,bg,co⟩
          refine⟨_,rfl,bg,?_⟩
          have k4:=bg.size
          have iw:=dj.trans bg
          have az:=bq.ext (o2) bg
          have b0:=b9.ext (o2) bg
          have cd:=a4.ext (o2) bg
          have b1:=ba.ext bg
          refine Ae 1 Z (A0 (Ad _ [0] Z ?_))
          have hnw:(Y9 p f.toNat a k ys).length=a.length:=by rw[eQ,Mk hhk.1 P6 hhk.2.2];exact hhk.2.1
          have ey:Fr (AR rI 2) DX.heap.size w79.heap.size w79.heap bf (Y9 p f.toNat a k ys):=by exact co
          have ix:DX.heap.size≤w79.heap.size:=by omega
          have iy:w45.heap.size≤w79.heap.size:=by omega
          have iz:w45.heap.size≤w51.heap.size:=by omega
          have j0:w45.heap.size≤w50.heap.size:=by omega
          have j1:w45.heap.size≤DX.heap.size:=by omega
          have j2:BL≤w79.heap.size:=by omega
          have j3:BL≤w51.heap.size:=by omega
          have j4:BL≤w26.heap.size:=by omega
          have j5:BL≤w50.heap.size:=by omega
          have j6:BL≤DX.heap.size:=by omega
          have j7:w51.heap.size≤w79.heap.size:=by omega
          have j8:w51.heap.size≤DX.heap.size:=by omega
          refine Ae 1 Z (A5 (AL (S:=Nat) (fun i=>([(26,(.int .i64 ((i:Nat):Int))),(1,(.int .i64 f)),(3,(.int .i64 order)),(4,(.pointer (some ⟨w.heap.size,0,none⟩))),(17,a0),(18,vy),(20,(.int .i64 ((k:Nat):Int))),(25,bf)])) (fun i W=>Ay w W∧Fr (AR (AR rI 2) 27) w26.heap.size w45.heap.size W.heap vy (Cu i (Kl p f.toNat a order.toNat k) ys)∧Fr (AR (AR rI 2) 27) w22.heap.size BL W.heap a0 (Hb p f.toNat a)∧Fr (AR rI 2) DX.heap.size w79.heap.size W.heap bf (Y9 p f.toNat a k ys)∧BX W.heap w.heap.size [vp]∧i≤a.length∧w26.heap.size≤W.heap.size) (fun i=>a.length-i) 0 ⟨rfl,rfl,rfl,rfl,rfl,rfl,rfl,rfl,trivial⟩ ⟨iw,(by rw[Ch];exact az),b0,ey,b1,oM,oM⟩ ?_))
          clear eo dh ep di ba a4 b9 bq bp co bg az b0 cd b1
          rintro i ρ93 w93 ⟨cx,a7,cp,bb,bs,j9,k5⟩
          have k6:w.heap.size≤w93.heap.size:=cx.size
          have hml:(Cu i (Kl p f.toNat a order.toNat k) ys).length=ys.length:=Dm i _ ys (by rw[hsel];unfold Kl;rw[IC,List.length_map])
          have ku:=bs.lt
          refine A0 (A0 (Ad _ [0,0,0,0] Z (Af 2 Z (AJ (v:=vy) Bi Z a7.isSl Ac ?_))))
          by_cases ez:((i:Nat):Int)<(((Cu i (Kl p f.toNat a order.toNat k) ys).length:Nat):Int)
          ·refine Av true Z Z (A7 ez) Ac (Ah (Ai Z (A4 (A0 (A5 (B1 _ [0,0,0,1,0,0,0,0,1,0,4] mixed (by kernel_rfl) ?_))))))
           have hrw:(Cu i (Kl p f.toNat a order.toNat k) ys).getD i []=ys.getD i []:=by rw[hyf];exact Xi oM (by rw[List.length_map];omega)
           have hrwl:=congrArg List.length hrw
           have hrl:=(hse.1 i oM).1
           refine Af 2 Z (Au (v:=vy) i Bi AW Z Z a7.isSl Z Cy Ac ?_)
           obtain⟨dl,g0,g3⟩:=a7.rd2.get (k:=i) [] Cy
           have k7:=g3.lenle
           refine Ak (p:=Aw vy i 1) (.inl Z) dl B6 Z g0 Ac (Af 3 Z (Au (v:=bf) i Bh Bx Z Z bb.isSl Z Cy Ac ?_))
           refine Ak (p:=Aw bf i 1) (.inl Z) (.int .i64 ((Y9 p f.toNat a k ys).getD i 0)) AI Z (bb.rd1.getI Cy).1 Ac ?_
           refine Au (v:=dl) k Bh Bx Z Z g3.isSl Z Cy Ac ?_
           refine bW (v:=vy) (u:=dl) (w:=w93.drew) ID Z Z (bb.rd1.getI Cy).2 a7 Cy g0 Cy Ac fun w98 F98 bt kv cy ja=>?_
           replace bt:=bt.of_drew
           have jb:Ay w w98:=bt.below cx (fun c hc=>Aa bv.size (cy c hc).1) cx.size
           have k8:w93.heap.size≤w98.heap.size:=bt.size
           have jc:=cp.chg (o2) bt (fun c hc=>by have:=cy c hc;omega)
           have g4:=bb.chg (o1) bt (fun c hc=>by have:=cy c hc;omega)
           have g5:=bs.chg bt (fun hm=>by have:=cy _ hm;omega)
           refine Ah (Ad _ [0,0,0] Z (Af 1 Z (AH ((i+1:Nat):Int) Z Z (B7 oM Cy) Ac (Ae 1 Z ?_))))
           exact⟨(i+1),_,rfl,⟨rfl,rfl,rfl,rfl,rfl,rfl,rfl,rfl,trivial⟩,⟨jb,(by have h:=ja;rw[hrw]at h;rw[show Cu (i+1) (Kl p f.toNat a order.toNat k) ys=_ from eR hyf oM oM];exact h),jc,g4,g5,oM,oM⟩,by first|omega|(dsimp only;omega)⟩
          ·refine Av false Z Z (A8 ez) Ac (Ah (Aj Z (A6 (As (As (An (Ad _ [0,0,0] Z (Af 1 Z (AH ((k+1:Nat):Int) Z Z (B7 oM Cy) Ac (Ae 1 Z ?_))))))))))
           exact⟨((k+1),(Cu i (Kl p f.toNat a order.toNat k) ys)),_,rfl,⟨rfl,rfl,rfl,rfl,rfl,rfl,trivial⟩,⟨cx,a7.up o2,cp,bs,oM,oM,oM,(by rw[CP (by rw[hsel];unfold Kl;rw[IC,List.length_map]) oM];exact congrArg _ oM),oM,oM⟩,by first|omega|(dsimp only;omega)⟩
        ·refine Ei false Z Z (A8 ej) Ac (Ah (Aj Z (A6 (As (As (An (A0 (Ad _ [0,0,0] Z (Ae 3 Z (A3 ?_))))))))))
         have hcf:=aM dm dn hnz hdt
         exact Ag [8,9] Z (.tuple #[vy,(.int .i64 ((0:Nat):Int))]) Z ⟨vy,(by rw[hcf];rfl),dg,(by have h:=(b5.up o2).low bv.size;rw[Xg hcf];rw[hyf,show k-1=order.toNat from by omega]at h;exact h)⟩
   ·refine Ai (by first|rfl|(show Value.bool _=_;rw[jj])) (Ad _ [0] Z (Ae 1 Z (A0 (A0 (Ad _ [0,0] Z (Af 1 Z (AY true Z Z (by decide) Ac (Ah (Ai Z (A0 (Ad _ [3,0,0,0] Z (BH (AR rI 2) o1 Bi AW Ac fun v102 w102 d4 k9 g6=>?_))))))))))))
    have jd:=d4.size
    have g7:=d8.trans d4
    refine Ae 3 Z (A3 (Aq ?_))
    have g8:Kb p f a order=2:=SS oM (by rw[(show HC order 0 12=false from GD ‹(!(decide (((0:Nat):Int)≤order) && decide (order≤((12:Nat):Int))))=true›),Bool.and_false])
    have hcf:=MO (o:=order) (show Kb p f a order≠0 by rw[g8];decide)
    rw[g8]at hcf
    exact Ag [8,9] Z (.tuple #[v102,(.int .i64 ((2:Nat):Int))]) Z ⟨v102,(by rw[hcf];rfl),g7,(by rw[IY (by rw[hcf];decide)];exact(g6.up o2).low d8.size)⟩
  ·refine Ae 5 Z (Ai Z (Ad _ [0] Z (Ae 1 Z (A0 (A0 (Ad _ [0,0] Z (Af 1 Z (AY true Z Z (by decide) Ac (Ah (Ai Z (A0 (Ad _ [3,0,0,0] Z (BH (AR rI 2) o1 Bi AW Ac fun v103 w103 d5 ka g9=>?_)))))))))))))
   have je:=d5.size
   have ga:=d8.trans d5
   refine Ae 3 Z (A3 (Aq ?_))
   have g8:Kb p f a order=2:=SS oM (by rw[(GD ‹(!(decide (((a.length:Nat):Int)=((p.getD f.toNat Fn.zero).params-1)) && B8 a))=true›),Bool.false_and])
   have hcf:=MO (o:=order) (show Kb p f a order≠0 by rw[g8];decide)
   rw[g8]at hcf
   exact Ag [8,9] Z (.tuple #[v103,(.int .i64 ((2:Nat):Int))]) Z ⟨v103,(by rw[hcf];rfl),ga,(by rw[IY (by rw[hcf];decide)];exact(g9.up o2).low d8.size)⟩
 ·refine AA false Z Z (A8 jh) Ac (Ae 17 Z (Aj Z (A4 (A0 (A0 (Ad _ [0,0] Z (Af 1 Z ?_)))))))
  have gb:I7 p f Ef≠((0:Nat):Int):=oM
  refine AY true Z Z (A7 gb) Ac (Ah (Ai Z (A0 (Ad _ [3,0,0,0] Z (BH (AR rI 2) o1 Bi AW Ac fun v105 w105 d6 kb gc=>?_)))))
  have jf:=d6.size
  have gd:=d7.trans d6
  refine Ae 3 Z (A3 (Aq ?_))
  have hcn:I7 p f Ef≠0:=by omega
  have hkn:=aK (a:=a) (o:=order) hcn
  have hcf:=MO (o:=order) (show Kb p f a order≠0 by rw[hkn];exact hcn)
  rw[hkn]at hcf
  exact Ag [8,9] Z (.tuple #[v105,(.int .i64 (I7 p f Ef))]) Z ⟨v105,(by rw[hcf]),gd,(by rw[IY (by rw[hcf];exact hcn)];exact(gc.up o2).low d7.size)⟩
end
section
set_option maxHeartbeats 4000000
set_option maxRecDepth 100000
attribute [local irreducible] LW
theorem TO {a:List (List Int)}{L:Nat}(h1:a.length≤L)(h2:∀k,(a.getD k []).length≤L):Jc a a.length≤L*L:=Aa (UC h2 _ (A9 _)) (Nat.mul_le_mul_right L h1)
theorem ff {a:List (List Int)}(h:a.length≤12∧∀k,(a.getD k []).length≤13):Jc a a.length≤169:=by
  have:=TO (L:=13) (by omega) h.2;omega
theorem Zx {m:Nat}{y:List (List Int)}(h:Bs m y)(hm:m≤13)(hl:y.length≤12):y.length≤12∧∀k,(y.getD k []).length≤13:=by
  refine⟨hl,fun k=>?_⟩
  by_cases hk:k<y.length
  · have:=(h k hk).1;omega
  · rw[List.getD_eq_getElem?_getD,List.getElem?_eq_none (by omega)];simp
theorem Zy:([]:List (List Int)).length≤12∧∀k,(([]:List (List Int)).getD k []).length≤13:=⟨by simp,fun k=>by simp⟩
theorem fg {p:List Fn}{f o:Int}{a:List Int}:(HG p f a o).length≤12∧∀k,((HG p f a o).getD k []).length≤13:=by
  by_cases hc:LU p f a o=0
  · have hk:Kb p f a o=0:=by
      by_cases h:Kb p f a o=0
      · exact h
      · rw[MO h]at hc;exact absurd hc h
    obtain⟨hI,_,_,ho⟩:=Xd hk
    have hb:=hI.b
    have hx0:ET p f.toNat (0::a)=0:=by
      by_cases h:ET p f.toNat (0::a)=0
      · exact h
      · rw[Qk hk h]at hc;exact absurd hc h
    have hz:(FN p f.toNat (0::a)).any (fun x=>x != 0)=false:=by
      cases h:(FN p f.toNat (0::a)).any (fun x=>x != 0)with
      |false=>rfl
      |true=>rw[Xe hk hx0 h]at hc;omega
    have hd:Ed (Hb p f.toNat a)≠0:=fun h=>by rw[Xf hk hx0 hz h]at hc;omega
    obtain⟨xs,T,hr⟩:=Xh hI.v hI.lt (by rw[List.length_cons];have:=hI.l;omega) hI.num hx0
    rw[Xg hc]
    have hs:=Xj (o:=o.toNat) (k:=o.toNat) hI hr hd hz (A9 _)
    exact Zx hs.1 (by omega) (by rw[hs.2.1];omega)
  · rw[IY hc];exact Zy
theorem kI {p:Prop}(h:p:=by intro i hi;rw[Ek]at hi;rw[RW,Iq _ _ _ (Nat.le_of_lt hi),RV hi]):p:=h
theorem Lr {p:Prop}(h:p:=by first|rfl|(exfalso;omega)|simp_all):p:=h
theorem Fx (w:World)(dp:Nat)(vp:Value)(p:List Fn)(f:Int)(va:Value)(a:List Int)(o:Int)(hp:RP [] dp w.heap vp p)(_hf:BC f)(ha:Rd (B3 rI) w.heap va a)(_ho:BC o)(hnm:∀k,k<p.length→(p.getD k Fn.zero).name.size≤9223372036854775807) :
  Calls Tryz.prog 8 #[(.agg #[vp]),.int .i64 f,va,.int .i64 o] w (fun e w'=>e=.returned (.bool true)∧Ay w w'):=by
 refine At [(.agg #[vp]),.int .i64 f,va,.int .i64 o] 127 Tryz.func8 Z Z sM ?_
 have k1:Ay w w:=Ay.refl w
 have hl_vp:=hp.lenle
 unfold maxLen at hl_vp
 have hl_va:=ha.lenle
 refine A0 (Ad _ [3,0] Z (Bv (cs:=#[vp]) Z Ac fun w1 jd kl gq=>?_))
 have k2:=jd.size
 have i1:=k1.trans jd
 replace gq:BX w1.heap w.heap.size [vp]:=gq
 refine Ae 1 Z (A0 (A0 (Ad _ [0,0,0] Z (Af 1 Z (AJ (v:=va) Bh Z ha.isSl Ac ?_)))))
 by_cases je:((1048576:Nat):Int)<((a.length:Nat):Int)
 ·exact C4 true Z Z (A7 je) Ac (Ah (Ai Z (A0 (Ad _ [0] Z (Ae 1 Z (A3 (Aq (Ag [8] Z (.bool true) Z ⟨Lr,i1⟩))))))))
 ·refine C4 false Z Z (A8 je) Ac (Ah (Aj Z (A4 (A0 (Ad _ [0] Z (Ae 1 Z (A0 (Ad _ [2,0,3,0] Z (AP (p:=(.pointer (some ⟨w.heap.size,0,none⟩))) (.inr Z) [vp] Qo Z (fun wq9 am=>LD.of_box (BX.ext (w:=w1) gq am)) Z Ac (Af 1 Z (Ap 40 [] [] [(.agg #[vp]),(.int .i64 ((1048576:Nat):Int))] Z Z lS Ac (KR _ dp vp (p) _ (hp.ext (Am (AB dp)) i1) oM oM (by exact hnm)) ?_)))))))))))
  rintro e3 w3 ⟨rfl,gr⟩
  refine⟨_,rfl,gr,?_⟩
  have k3:=gr.size
  have i2:=i1.trans gr
  have ef:=gq.ext gr
  refine Ae 1 Z (A0 (A0 (Ad _ [0,0] Z (Af 1 Z ?_))))
  by_cases jf:JZ (OR p) ((1048576:Nat):Int)<((0:Nat):Int)
  ·exact Av true Z Z (A7 jf) Ac (Ah (Ai Z (A0 (Ad _ [0] Z (Ae 1 Z (A3 (Aq (Ag [8] Z (.bool true) Z ⟨Lr,i2⟩))))))))
  ·refine Av false Z Z (A8 jf) Ac (Ah (Aj Z (A4 (A0 (Ad _ [2,3,0,0,3,0,3,0,0,0,0,0] Z ?_)))))
   have hzv:=LG (t:=OR p) (x:=((1048576:Nat):Int)) oM
   have k4:OR p≤1048576:=by omega
   have hz:=dV k4
   refine AP (p:=(.pointer (some ⟨w.heap.size,0,none⟩))) (.inr Z) [vp] Qo Z (fun wq9 am=>LD.of_box (BX.ext (w:=w3) ef am)) Z Ac (Ap 43 [] [] [(.agg #[vp])] Z Z Ze Ac (DK _ dp vp (p) (hp.ext (Am (AB dp)) i2) oM) ?_)
   rintro e5 w5 ⟨v5,rfl,gs,k5⟩
   refine⟨_,rfl,gs,?_⟩
   have k6:=gs.size
   have jg:=i2.trans gs
   have ey:=ef.ext gs
   refine Af 2 Z (Ap 49 [] [] [va] Z Z Zf Ac (E2 _ _ _ (ha.ext g1 jg) oM) ?_)
   rintro e6 w6 ⟨i3,rfl,ez,eg⟩
   refine⟨_,rfl,ez,?_⟩
   have k7:=ez.size
   have k8:=jg.trans ez
   have g0:=ey.ext ez
   have eh:=k5.ext ((Ax (AZ 174 dp))) ez
   refine Af 1 Z (Ap 56 [] [] [(.agg #[v5]),(.int .i64 f),i3,(.int .i64 o)] Z Z lW Ac (HU _ dp v5 (p) _ _ _ _ (RN.of_frF eh (fun b hb=>by cases hb)) _hf eg.rd1 _ho (by exact hz)) ?_)
   rintro e7 w7 ⟨b1,rfl,ex,g2⟩
   refine⟨_,rfl,ex,?_⟩
   have k9:=ex.size
   have jh:=k8.trans ex
   have ei:=g0.ext ex
   have g3:=eh.ext ((Ax (AZ 174 dp))) ex
   have bg:=eg.ext (o1) ex
   refine Af 1 Z (AQ (vs:=[b1,(.int .i64 (LU p f a o))]) b1 Z Z Ac (AQ (vs:=[b1,(.int .i64 (LU p f a o))]) (.int .i64 (LU p f a o)) Z Z Ac (Ae 2 Z (A0 (Ad _ [2,3,3,4] Z (AP (p:=(.pointer (some ⟨w.heap.size,0,none⟩))) (.inr Z) [vp] Qo Z (fun wq9 am=>LD.of_box (BX.ext (w:=w7) ei am)) Z Ac (Ap 43 [] [] [(.agg #[vp])] Z Z Ze Ac (DK _ dp vp (p) (hp.ext (Am (AB dp)) jh) oM) ?_)))))))
   rintro e8 w8 ⟨v8,rfl,el,ka⟩
   refine⟨_,rfl,el,?_⟩
   have kb:=el.size
   have kc:=jh.trans el
   have ej:=ei.ext el
   have g4:=g3.ext ((Ax (AZ 174 dp))) el
   have bh:=bg.ext (o1) el
   have bi:=g2.ext (o2) el
   have kd:=ej.lt
   refine BJ (z:=.agg #[.slice none 0 0]) f5 Ac fun w9 em km i4=>?_
   have ke:=em.size
   have ji:=kc.trans em
   have g5:=ej.ext em
   have g6:=g4.ext ((Ax (AZ 174 dp))) em
   have bj:=bh.ext (o1) em
   have bk:=bi.ext (o2) em
   have ek:=ka.ext ((Ax (AZ 174 dp))) em
   replace i4:BX w9.heap w8.heap.size [(.slice none 0 0)]:=i4
   refine CU (vs:=[v8]) Eq Z Z (by intro u hu;simp only[List.mem_cons,List.not_mem_nil,or_false]at hu;rcases hu with rfl <;> first|exact⟨rfl,rfl⟩|exact BS ek.isSlS) i4 Z Z Ac fun w11 an kf en=>?_
   replace en:BX w11.heap w8.heap.size [v8]:=en
   have eo:Ay w w11:=an.below ji (fun c hc=>by have:=Ab hc;omega) ji.size
   have jj:w9.heap.size≤w11.heap.size:=an.size
   have i5:=g5.chg an (fun hm=>by have:=Ab hm;omega)
   have i6:=g6.chg ((Ax (AZ 174 dp))) an (fun c hc=>by have:=Ab hc;omega)
   have i7:=bj.chg (o1) an (fun c hc=>by have:=Ab hc;omega)
   have i8:=bk.chg (o2) an (fun c hc=>by have:=Ab hc;omega)
   have i9:=ek.chg ((Ax (AZ 174 dp))) an (fun c hc=>by have:=Ab hc;omega)
   refine Ah (A0 (Ad _ [0,3,0] Z (Af 1 Z (Ap 49 [] [] [va] Z Z Zf Ac (E2 _ _ _ (ha.ext g1 eo) oM) ?_))))
   rintro e17 w17 ⟨ao,rfl,aj,bd⟩
   refine⟨_,rfl,aj,?_⟩
   have jk:=aj.size
   have g7:=eo.trans aj
   have bl:=i5.ext aj
   have bm:=i6.ext ((Ax (AZ 174 dp))) aj
   have bn:=i7.ext (o1) aj
   have bo:=i8.ext (o2) aj
   have ap:=i9.ext ((Ax (AZ 174 dp))) aj
   have aq:=en.ext aj
   refine Ae 1 Z (A0 (Ad _ [2,0,0,0,3,0,0,0,0,0] Z (AP (p:=(.pointer (some ⟨w8.heap.size,0,none⟩))) (.inr Z) [v8] Eq Z (fun wq9 am=>LD.of_box (BX.ext (w:=w17) aq am)) Z Ac (Af 3 Z (Ap 57 [] [] [(.agg #[v8]),(.int .i64 f),ao,(.int .i64 o)] Z Z gC Ac (Ey _ dp v8 (p) _ _ _ _ (RN.of_frF ap (fun b hb=>by cases hb)) _hf bd.rd1 _ho (by exact hz)) ?_)))))
   rintro e18 w18 ⟨a0,rfl,ae,be⟩
   refine⟨_,rfl,ae,?_⟩
   have jl:=ae.size
   have ia:=g7.trans ae
   have bp:=bl.ext ae
   have bq:=bm.ext ((Ax (AZ 174 dp))) ae
   have br:=bn.ext (o1) ae
   have ar:=bo.ext (o2) ae
   have bs:=ap.ext ((Ax (AZ 174 dp))) ae
   have bt:=aq.ext ae
   have b2:=bd.ext (o1) ae
   refine Af 1 Z (AQ (vs:=[a0,(.int .i64 (LU p f a o))]) a0 Z Z Ac (AQ (vs:=[a0,(.int .i64 (LU p f a o))]) (.int .i64 (LU p f a o)) Z Z Ac (Ae 2 Z (A0 (A0 (Ad _ [0,0,3,0,0,0,0,0,0] Z (Af 2 Z (Ap 47 [] [] [a0,b1] Z Z eU Ac (EH _ _ _ _ _ be.rd2 ar.rd2) ?_))))))))
   rintro e19 w19 ⟨rfl,ab⟩
   refine⟨_,rfl,ab,?_⟩
   have jm:=ab.size
   have ep:=ia.trans ab
   have au:=bp.ext ab
   have bu:=bq.ext ((Ax (AZ 174 dp))) ab
   have bv:=br.ext (o1) ab
   have bw:=ar.ext (o2) ab
   have bx:=bs.ext ((Ax (AZ 174 dp))) ab
   have av:=bt.ext ab
   have b3:=b2.ext (o1) ab
   have b4:=be.ext (o2) ab
   refine Bp (!(decide ((HG p f a o)=(HG p f a o)))) Z Z Ac (Af 1 Z ?_)
   cases kg:(!(decide ((HG p f a o)=(HG p f a o))))
   ·refine Af 2 Z (AY false Z Z sM (Al (e:=55) Z Z Z) (Ae 1 Z (Aj Z (A4 (A0 (A0 (B1 _ [1,1,3,3,0] mixed (by kernel_rfl) (AP (p:=(.pointer (some ⟨w8.heap.size,0,none⟩))) (.inl Z) [v8] Eq Z (fun wq9 am=>LD.of_box (BX.ext (w:=w19.drew) av am)) Z Ac (AP (p:=(.pointer (some ⟨w.heap.size,0,none⟩))) (.inl Z) [vp] Qo Z (fun wq9 am=>LD.of_box (BX.ext (w:=w19.drew) au am)) Z Ac (Ap 43 [] [] [(.agg #[vp])] Z Z Ze Ac (DK _ dp vp (p) (hp.ext (Am (AB dp)) ep.drew) oM) ?_))))))))))
    rintro e21 w21 ⟨v21,rfl,a1,bz⟩
    refine⟨_,rfl,a1,?_⟩
    replace a1:=a1.of_drew
    have jn:=a1.size
    have ib:=ep.trans a1
    have c0:=au.ext a1
    have c1:=bu.ext ((Ax (AZ 174 dp))) a1
    have c2:=bv.ext (o1) a1
    have c3:=bw.ext (o2) a1
    have aw:=bx.ext ((Ax (AZ 174 dp))) a1
    have c4:=av.ext a1
    have b5:=b3.ext (o1) a1
    have b6:=b4.ext (o2) a1
    replace bz:=bz.low (B':=w19.heap.size) (A9 _)
    refine Ap 46 [] [] [(.agg #[v8]),(.agg #[v21])] Z Z lT Ac (KS _ dp v8 (p) dp v21 (p) (RN.of_frF aw (fun b hb=>by cases hb)) (RN.of_frF bz (fun b hb=>by cases hb)) (by rfl)) ?_
    rintro e22 w22 ⟨rfl,a4⟩
    refine⟨_,rfl,a4,?_⟩
    have jo:=a4.size
    have g8:=ib.trans a4
    have c5:=c0.ext a4
    have c6:=c1.ext ((Ax (AZ 174 dp))) a4
    have c7:=c2.ext (o1) a4
    have c8:=c3.ext (o2) a4
    have c9:=aw.ext ((Ax (AZ 174 dp))) a4
    have ca:=c4.ext a4
    have b7:=b5.ext (o1) a4
    have b8:=b6.ext (o2) a4
    have cb:=bz.ext ((Ax (AZ 174 dp))) a4
    refine Bp false Z Z Ac (Ah (Aj Z (A4 (A0 (A0 (Ad _ [0,0,3,3,0] Z (Af 2 Z (Ap 49 [] [] [va] Z Z Zf Ac (E2 _ _ _ (ha.ext g1 g8) oM) ?_))))))))
    rintro e23 w23 ⟨g9,rfl,a5,bf⟩
    refine⟨_,rfl,a5,?_⟩
    have jp:=a5.size
    have ic:=g8.trans a5
    have cc:=c5.ext a5
    have cd:=c6.ext ((Ax (AZ 174 dp))) a5
    have ce:=c7.ext (o1) a5
    have cf:=c8.ext (o2) a5
    have cg:=c9.ext ((Ax (AZ 174 dp))) a5
    have ch:=ca.ext a5
    have ai:=b7.ext (o1) a5
    have b9:=b8.ext (o2) a5
    have ci:=cb.ext ((Ax (AZ 174 dp))) a5
    refine Ap 51 [] [] [ao,g9] Z Z fZ Ac (HK _ _ _ _ _ ai.rd1 bf.rd1) ?_
    rintro e24 w24 ⟨rfl,a2⟩
    refine⟨_,rfl,a2,?_⟩
    have jq:=a2.size
    have eq:=ic.trans a2
    have cj:=cc.ext a2
    have ck:=cd.ext ((Ax (AZ 174 dp))) a2
    have cl:=ce.ext (o1) a2
    have cm:=cf.ext (o2) a2
    have cn:=cg.ext ((Ax (AZ 174 dp))) a2
    have ax:=ch.ext a2
    have ba:=ai.ext (o1) a2
    have bb:=b9.ext (o2) a2
    have co:=ci.ext ((Ax (AZ 174 dp))) a2
    have bc:=bf.ext (o1) a2
    refine Bp (!(decide (a=a))) Z Z Ac (Ah ?_)
    cases ga:(!(decide (a=a)))
    ·refine Aj (by first|rfl|(show Value.bool _=_;rw[ga])) (A4 (A0 (Ad _ [0] Z ?_)))
     have hlt:=ff (fg (p:=p) (f:=f) (o:=o) (a:=a))
     refine Ae 1 Z (A0 (Ad _ [2,0,4,0] Z (AP (p:=(.pointer (some ⟨w8.heap.size,0,none⟩))) (.inr Z) [v8] Eq Z (fun wq9 am=>LD.of_box (BX.ext (w:=w24) ax am)) Z Ac (Af 1 Z ?_))))
     obtain⟨F26,id,ie,af⟩:=cn
     refine B2 52 [] [] [(.agg #[v8]),(.int .i64 ((1:Nat):Int))] Z Z lU Ac (Jm _ dp v8 p F26 (((1:Nat):Int)) (id.imp fun h=>fq _ h) ie oM oM) ?_
     rintro e26 w26 ⟨k26,rfl,ac,kh,ki⟩
     refine⟨_,rfl,?_⟩
     have gb:Ay w w26:=ac.below eq (fun c hc=>Aa oM (af c hc).1) eq.size
     have jr:w24.heap.size≤w26.heap.size:=ac.size
     have ig:=cj.chg ac (fun hm=>by have:=af _ hm;omega)
     have ih:=ck.chg ((Ax (AZ 174 dp))) ac (fun c hc=>by have:=af c hc;omega)
     have ii:=cl.chg (o1) ac (fun c hc=>by have:=af c hc;omega)
     have ij:=cm.chg (o2) ac (fun c hc=>by have:=af c hc;omega)
     have ik:=ax.chg ac (fun hm=>by have:=af _ hm;omega)
     have il:=ba.chg (o1) ac (fun c hc=>by have:=af c hc;omega)
     have im:=bb.chg (o2) ac (fun c hc=>by have:=af c hc;omega)
     have io:=co.chg ((Ax (AZ 174 dp))) ac (fun c hc=>by have:=af c hc;omega)
     have ip:=bc.chg (o1) ac (fun c hc=>by have:=af c hc;omega)
     refine Ae 1 Z (A0 (Ad _ [0,0,4,0] Z (Af 2 Z ?_)))
     obtain⟨G36,iq,gc,er⟩:=il
     refine B2 53 [] [] [ao,(.int .i64 k26)] Z Z gA Ac (Gu _ _ _ _ _ iq gc oM oM) ?_
     rintro e36 w36 ⟨rfl,ag,ir⟩
     refine⟨_,rfl,?_⟩
     have gd:Ay w w36:=ag.below gb (fun b hb=>Aa eo.size (er b hb).1) gb.size
     have ak:=er
     have is:Fr (AR rI 2) w11.heap.size w17.heap.size w36.heap ao _:=⟨G36,ir,gc,er⟩
     have js:w26.heap.size≤w36.heap.size:=ag.size
     have it:=ig.chg ag (fun hm=>by have:=ak _ hm;omega)
     have iu:=ih.chg ((Ax (AZ 174 dp))) ag (fun c hc=>by have:=ak c hc;omega)
     have iv:=ii.chg (o1) ag (fun c hc=>by have:=ak c hc;omega)
     have ge:=ij.chg (o2) ag (fun c hc=>by have:=ak c hc;omega)
     have iw:=ik.chg ag (fun hm=>by have:=ak _ hm;omega)
     have gf:=im.chg (o2) ag (fun c hc=>by have:=ak c hc;omega)
     have ix:=io.chg ((Ax (AZ 174 dp))) ag (fun c hc=>by have:=ak c hc;omega)
     have iy:=ip.chg (o1) ag (fun c hc=>by have:=ak c hc;omega)
     refine Ae 1 Z (A0 (A0 (Ad _ [0,0,0,0,0,3,0,0,0,0,0,0,0] Z (Af 1 Z ?_))))
     by_cases gg:k26+((a.length:Nat):Int)<((0:Nat):Int)
     ·exact Av true Z Z (A7 gg) Ac (Ae 11 Z (Ai Z (A0 (Ad _ [0] Z (Ae 1 Z (A3 (Aq (Ag [8] Z (.bool false) Z ⟨Lr,gd⟩))))))))
     ·refine Av false Z Z (A8 gg) Ac (Af 3 Z (Ap 47 [] [] [a0,b1] Z Z eU (Al (e:=78) Z Z Z) (EH _ _ _ _ _ gf.rd2 ge.rd2) ?_))
      rintro e46 w46 ⟨rfl,a6⟩
      refine⟨_,rfl,a6,?_⟩
      have jt:=a6.size
      have es:=gd.trans a6
      have cp:=it.ext a6
      have cq:=iu.ext ((Ax (AZ 174 dp))) a6
      have cr:=iv.ext (o1) a6
      have ct:=ge.ext (o2) a6
      have cu:=iw.ext a6
      have cv:=is.ext (o1) a6
      have cw:=gf.ext (o2) a6
      have cx:=ix.ext ((Ax (AZ 174 dp))) a6
      have cy:=iy.ext (o1) a6
      refine Bp (!(decide ((HG p f a o)=(HG p f a o)))) Z Z (Al (e:=78) Z Z Z) (Af 2 Z ?_)
      cases kj:(!(decide ((HG p f a o)=(HG p f a o))))
      ·refine Af 2 Z (AY false Z Z sM (Al (e:=84) Z Z Z) (Ae 1 Z (Aj Z (A4 (A0 (Ad _ [0] Z (Ae 1 Z (A0 (Ad _ [0,0,4,0] Z (Af 2 Z ?_))))))))))
       obtain⟨G48,iz,gh,et⟩:=cw
       refine B2 54 [] [] [a0,(.int .i64 ((1:Nat):Int))] Z Z lV Ac (Ji _ _ _ _ _ iz gh oM oM) ?_
       rintro e48 w48 ⟨rfl,ah,j0⟩
       refine⟨_,rfl,?_⟩
       have j1:Ay w w48:=ah.below es (fun b hb=>Aa g7.size (et b hb).1) es.size
       have al:=et
       have gi:Fr (AR (AR rI 2) 27) w17.heap.size w18.heap.size w48.heap a0 _:=⟨G48,j0,gh,et⟩
       have ju:w46.heap.size≤w48.heap.size:=ah.size
       have j2:=cp.chg ah (fun hm=>by have:=al _ hm;omega)
       have j3:=cq.chg ((Ax (AZ 174 dp))) ah (fun c hc=>by have:=al c hc;omega)
       have j4:=cr.chg (o1) ah (fun c hc=>by have:=al c hc;omega)
       have j5:=ct.chg (o2) ah (fun c hc=>by have:=al c hc;omega)
       have j6:=cu.chg ah (fun hm=>by have:=al _ hm;omega)
       have j7:=cv.chg (o1) ah (fun c hc=>by have:=al c hc;omega)
       have j8:=cx.chg ((Ax (AZ 174 dp))) ah (fun c hc=>by have:=al c hc;omega)
       have j9:=cy.chg (o1) ah (fun c hc=>by have:=al c hc;omega)
       refine Ae 1 Z (A0 (Ad _ [0] Z (Ae 1 Z (A0 (Ad _ [0,0,3,0] Z (Af 2 Z (Ap 55 [] [] [a0,(.int .i64 ((1:Nat):Int))] Z Z gB Ac (G7 _ _ _ _ gi.rd2 oM (by rw[Ek,Iq _ _ _ (A9 _)];omega) kI) ?_)))))))
       rintro e57 w57 ⟨rfl,a7⟩
       refine⟨_,rfl,a7,?_⟩
       have jv:=a7.size
       have cz:=j1.trans a7
       have ay:=j2.ext a7
       have d0:=j3.ext ((Ax (AZ 174 dp))) a7
       have d1:=j4.ext (o1) a7
       have d2:=j5.ext (o2) a7
       have d3:=j6.ext a7
       have d4:=j7.ext (o1) a7
       have d5:=gi.ext (o2) a7
       have d6:=j8.ext ((Ax (AZ 174 dp))) a7
       have d7:=j9.ext (o1) a7
       refine Ae 1 Z (A0 (A0 (Ad _ [0,0] Z (Af 1 Z ?_))))
       by_cases gj:((1:Nat):Int)+((Jc (Lf (HG p f a o) ((1:Nat):Int)) (Lf (HG p f a o) ((1:Nat):Int)).length:Nat):Int)<((0:Nat):Int)
       ·exact Av true Z Z (A7 gj) Ac (Ah (Ai Z (A0 (Ad _ [0] Z (Ae 1 Z (A3 (Aq (Ag [8] Z (.bool false) Z ⟨Lr,cz⟩))))))))
       ·refine Av false Z Z (A8 gj) Ac (Ah (Aj Z (A4 (A0 (A0 (Ad _ [0,0,0] Z ?_))))))
        have hmt:Jc (Lf (HG p f a o) ((1:Nat):Int)) (Lf (HG p f a o) ((1:Nat):Int)).length=Jc (HG p f a o) (HG p f a o).length:=by rw[Ek,Iq _ _ _ (A9 _)]
        refine Af 2 Z ?_
        by_cases gk:((1:Nat):Int)+((Jc (Lf (HG p f a o) ((1:Nat):Int)) (Lf (HG p f a o) ((1:Nat):Int)).length:Nat):Int)≠((1:Nat):Int)+((Jc (HG p f a o) (HG p f a o).length:Nat):Int)
        ·exact AY true Z Z (A7 gk) Ac (Ah (Ai Z (A0 (Ad _ [0] Z (Ae 1 Z (A3 (Aq (Ag [8] Z (.bool false) Z ⟨Lr,cz⟩))))))))
        ·refine AY false Z Z (A8 gk) Ac (Ah (Aj Z (A4 (A0 (Ad _ [2,3,0,0,3,0,3,0,0,0,0,0] Z (AP (p:=(.pointer (some ⟨w.heap.size,0,none⟩))) (.inr Z) [vp] Qo Z (fun wq9 am=>LD.of_box (BX.ext (w:=w57) ay am)) Z Ac (Ap 43 [] [] [(.agg #[vp])] Z Z Ze Ac (DK _ dp vp (p) (hp.ext (Am (AB dp)) cz) oM) ?_)))))))
         rintro e60 w60 ⟨v60,rfl,a8,ja⟩
         refine⟨_,rfl,a8,?_⟩
         have jw:=a8.size
         have gl:=cz.trans a8
         have d8:=ay.ext a8
         have d9:=d0.ext ((Ax (AZ 174 dp))) a8
         have da:=d1.ext (o1) a8
         have db:=d2.ext (o2) a8
         have dc:=d3.ext a8
         have dd:=d4.ext (o1) a8
         have de:=d5.ext (o2) a8
         have df:=d6.ext ((Ax (AZ 174 dp))) a8
         have dg:=d7.ext (o1) a8
         refine Af 2 Z (Ap 49 [] [] [va] Z Z Zf Ac (E2 _ _ _ (ha.ext g1 gl) oM) ?_)
         rintro e61 w61 ⟨gm,rfl,a3,eu⟩
         refine⟨_,rfl,a3,?_⟩
         have jx:=a3.size
         have jb:=gl.trans a3
         have dh:=d8.ext a3
         have di:=d9.ext ((Ax (AZ 174 dp))) a3
         have dj:=da.ext (o1) a3
         have dk:=db.ext (o2) a3
         have dl:=dc.ext a3
         have dm:=dd.ext (o1) a3
         have dn:=de.ext (o2) a3
         have dq:=df.ext ((Ax (AZ 174 dp))) a3
         have dr:=dg.ext (o1) a3
         have ds:=ja.ext ((Ax (AZ 174 dp))) a3
         refine Af 1 Z (Ap 57 [] [] [(.agg #[v60]),(.int .i64 f),gm,(.int .i64 o)] Z Z gC Ac (Ey _ dp v60 (p) _ _ _ _ (RN.of_frF ds (fun b hb=>by cases hb)) _hf eu.rd1 _ho (by exact hz)) ?_)
         rintro e62 w62 ⟨az,rfl,a9,ev⟩
         refine⟨_,rfl,a9,?_⟩
         have jy:=a9.size
         have jc:=jb.trans a9
         have dt:=dh.ext a9
         have du:=di.ext ((Ax (AZ 174 dp))) a9
         have dv:=dj.ext (o1) a9
         have b0:=dk.ext (o2) a9
         have dw:=dl.ext a9
         have dx:=dm.ext (o1) a9
         have dy:=dn.ext (o2) a9
         have dz:=dq.ext ((Ax (AZ 174 dp))) a9
         have e0:=dr.ext (o1) a9
         refine Af 1 Z (AQ (vs:=[az,(.int .i64 (LU p f a o))]) az Z Z Ac (AQ (vs:=[az,(.int .i64 (LU p f a o))]) (.int .i64 (LU p f a o)) Z Z Ac (Ae 2 Z (A0 (A0 (Ad _ [0,0,3,0,0,0,0,0,0] Z (Af 2 Z (Ap 47 [] [] [az,b1] Z Z eU Ac (EH _ _ _ _ _ ev.rd2 b0.rd2) ?_))))))))
         rintro e63 w63 ⟨rfl,aa⟩
         refine⟨_,rfl,aa,?_⟩
         have jz:=aa.size
         have gn:=jc.trans aa
         have e1:=dt.ext aa
         have e2:=du.ext ((Ax (AZ 174 dp))) aa
         have e4:=dv.ext (o1) aa
         have e9:=b0.ext (o2) aa
         have ea:=dw.ext aa
         have eb:=dx.ext (o1) aa
         have ec:=dy.ext (o2) aa
         have ed:=dz.ext ((Ax (AZ 174 dp))) aa
         have ee:=e0.ext (o1) aa
         refine Bp (!(decide ((HG p f a o)=(HG p f a o)))) Z Z Ac (Af 1 Z ?_)
         cases kk:(!(decide ((HG p f a o)=(HG p f a o))))
         ·refine Af 2 Z (AY false Z Z sM (Al (e:=114) Z Z Z) (Ae 1 Z (Aj Z (A4 (A0 (Ad _ [0] Z (Ae 1 Z (A0 (Ad _ [0,0,3,0] Z (Af 2 Z (Ap 55 [] [] [a0,(.int .i64 ((1:Nat):Int))] Z Z gB Ac (G7 _ _ _ _ ec.rd2 oM (by rw[Ek,Iq _ _ _ (A9 _)];omega) kI) ?_)))))))))))
          rintro e65 w65 ⟨rfl,ad⟩
          refine⟨_,rfl,ad,?_⟩
          have k0:=ad.size
          have ew:=gn.trans ad
          have gt:=e1.ext ad
          have gu:=e2.ext ((Ax (AZ 174 dp))) ad
          have gv:=e4.ext (o1) ad
          have gw:=e9.ext (o2) ad
          have gx:=ea.ext ad
          have gy:=eb.ext (o1) ad
          have gz:=ed.ext ((Ax (AZ 174 dp))) ad
          have i0:=ee.ext (o1) ad
          refine Ae 1 Z (A0 (A0 (Ad _ [0,0] Z (Af 1 Z ?_))))
          by_cases go:((1:Nat):Int)+((Jc (Lf (HG p f a o) ((1:Nat):Int)) (Lf (HG p f a o) ((1:Nat):Int)).length:Nat):Int)<((0:Nat):Int)
          ·exact Av true Z Z (A7 go) Ac (Ah (Ai Z (A0 (Ad _ [0] Z (Ae 1 Z (A3 (Aq (Ag [8] Z (.bool false) Z ⟨Lr,ew⟩))))))))
          ·refine Av false Z Z (A8 go) Ac (Ah (Aj Z (A4 (A0 (A0 (Ad _ [0,0,0] Z ?_))))))
           have hmt:Jc (Lf (HG p f a o) ((1:Nat):Int)) (Lf (HG p f a o) ((1:Nat):Int)).length=Jc (HG p f a o) (HG p f a o).length:=by rw[Ek,Iq _ _ _ (A9 _)]
           refine Af 2 Z ?_
           by_cases gp:((1:Nat):Int)+((Jc (Lf (HG p f a o) ((1:Nat):Int)) (Lf (HG p f a o) ((1:Nat):Int)).length:Nat):Int)≠((1:Nat):Int)+((Jc (HG p f a o) (HG p f a o).length:Nat):Int)
           ·exact AY true Z Z (A7 gp) Ac (Ah (Ai Z (A0 (Ad _ [0] Z (Ae 1 Z (A3 (Aq (Ag [8] Z (.bool false) Z ⟨Lr,ew⟩))))))))
           ·exact AY false Z Z (A8 gp) Ac (Ah (Aj Z (A4 (A0 (Ad _ [0] Z (Ae 1 Z (A3 (Ag [8] Z (.bool true) Z ⟨Lr,ew⟩))))))))
         ·exact Ae 4 Z (Ai Z (A0 (Ad _ [0] Z (Ae 1 Z (A3 (Aq (Ag [8] Z (.bool false) Z ⟨Lr,gn⟩)))))))
      ·exact Ae 4 Z (Ai Z (A0 (Ad _ [0] Z (Ae 1 Z (A3 (Aq (Ag [8] Z (.bool false) Z ⟨Lr,es⟩)))))))
    ·exact Ai (by first|rfl|(show Value.bool _=_;rw[ga])) (A0 (Ad _ [0] Z (Ae 1 Z (A3 (Aq (Ag [8] Z (.bool false) Z ⟨Lr,eq⟩))))))
   ·exact Ae 4 Z (Ai Z (A0 (Ad _ [0] Z (Ae 1 Z (A3 (Aq (Ag [8] Z (.bool false) Z ⟨Lr,ep⟩)))))))
end
section
open Go Go.RowKit Go.ChangeShapes Go.WideShapes Go.Deep
theorem Qq {s:Nat}:∀ {css:List (List Value)}(k:Nat){j:Nat},(∀c∈css,c.length=s)→j<s→css.flatten[k*s+j]? = (css[k]?).bind fun c=>c[j]?
 |[],k,j,_,_=>by simp
 |c::css,0,j,h,hj=>by
  have hc:=h c (List.mem_cons_self ..)
  rw[Nat.zero_mul,Nat.zero_add,List.flatten_cons,List.getElem?_append_left (by omega)]
  simp
 |c::css,k+1,j,h,hj=>by
  have hc:=h c (List.mem_cons_self ..)
  rw[List.flatten_cons,List.getElem?_append_right (by rw[Nat.succ_mul];omega),show(k+1)*s+j-c.length=k*s+j from by rw[Nat.succ_mul];omega,
   Qq k (fun c hc=>h c (List.mem_cons_of_mem _ hc)) hj]
  simp
theorem Tg {α:Type}{E:Bw α}{H:Array Obj}(U:Nat→List Value)(X:Nat→α):∀(n:Nat),(∀i,i<n→∃F,E H (U i) (X i) F)→∃F,Ce E H ((List.range n).map U) ((List.range n).map X) F
 |0,_=>⟨[],rfl⟩
 |n+1,h=>by
  obtain⟨F,hF⟩:=Tg U X n fun i hi=>h i (by omega)
  obtain⟨G,hG⟩:=h n (by omega)
  rw[List.range_succ,List.map_append,List.map_append]
  exact⟨F++(G++[]),hF.append ⟨G,[],rfl,hG,rfl⟩⟩
theorem Zz {α:Type}{E:Bw α}{s:Nat}(hE:Ck s E)(hs:0<s){W:World}{a:Addr}{n cap:Nat}(hn:n≤maxLen)(hnc:n≤cap)(U:Nat→List Value)(X:Nat→α)
  (hc:∀i,i<n→∀j,j<s→W.cell? (a.add (i*s+j))=(U i)[j]?) (hX:∀i,i<n→∃F,E W.heap (U i) (X i) F):∃F,Dr s E W.heap (.slice (some a) n cap) ((List.range n).map X) F:=by
 by_cases h0:n=0
 ·subst h0
  exact⟨[],.inl ⟨some a,cap,rfl,rfl,rfl⟩⟩
 ·obtain⟨F,hF⟩:=Tg U X n hX
  have hlU:∀i,i<n→(U i).length=s:=fun i hi=>by obtain⟨G,hG⟩:=hX i hi;exact hE.len hG
  obtain⟨g,off,spot⟩:=a
  have h1:=hc 0 (by omega) 0 hs
  rw[List.getElem?_eq_getElem (by rw[hlU 0 (by omega)];exact hs)]at h1
  have hsp:spot=none:=by simpa [Addr.add]using World.cell?_spot h1
  subst hsp
  have hcell:∀i,i<n→∀j,j<s→BZ W.heap g (off+(i*s+j))=(U i)[j]?:=fun i hi j hj=>by
   have:=hc i hi j hj
   rw[add_plain,C6]at this
   exact this
  have h2:=hcell 0 (by omega) 0 hs
  rw[List.getElem?_eq_getElem (by rw[hlU 0 (by omega)];exact hs)]at h2
  unfold BZ at h2
  cases hg:W.heap[g]? with
  |none=>rw[hg]at h2;cases h2
  |some o =>
   cases o with
   |cells cur e fr =>
    refine⟨g::F,.inr ⟨(List.range n).map U,g,off,cap,cur,e,fr,F,hF,by simp,hg,?_,⟨by simpa using hn,by simpa using hnc⟩,rfl⟩⟩
    have hlen:∀c∈(List.range n).map U,c.length=s:=fun c hc=>by
     obtain⟨i,hi,rfl⟩:=List.mem_map.1 hc
     exact hlU i (List.mem_range.1 hi)
    have hfl:=hF.flen hE
    apply List.ext_getElem?
    intro q
    rw[List.getElem?_take,List.getElem?_drop]
    simp only[List.length_map,List.length_range]at hfl ⊢
    by_cases hq:q<n*s
    ·have e1:q=q / s*s+q % s:=by rw[Nat.mul_comm,Nat.div_add_mod]
     have hj:q % s<s:=Nat.mod_lt _ hs
     have hi:q / s<n:=(Nat.div_lt_iff_lt_mul hs).2 hq
     have h3:=hcell (q / s) hi (q % s) hj
     unfold BZ at h3
     rw[hg,← e1]at h3
     have h4:=Qq (css:=(List.range n).map U) (q / s) hlen hj
     rw[← e1]at h4
     rw[if_pos hq,h4]
     simp only[Array.getElem?_toList]at *
     rw[h3]
     simp[hi]
    ·rw[if_neg hq,List.getElem?_eq_none (by omega)]
   |_=>rw[hg]at h2;cases h2
def Rw (P:Program)(t:TypeId)(l:List (Nat×TypeId)):Bool :=
 match P.underlying t with
 |some (.struct fs)=>decide (fs.toList.map (fun f=>(f.offset,f.type))=l)
 |_=>false
section
variable {H:Type} {enc:TypeId × Value→H} {P:Program} {W:World} {base:Nat} {held:Bool} {sp:Nat→Bool}
theorem No {t:TypeId}{l:List (Nat×TypeId)}{fuel:Nat}{cs:List Value}{x:DataW H×List MemPlace}(ht:Rw P t l=true)(h:DataW.trod enc P W base sp held fuel t cs=some x) :
  ∃n,fuel=n+1∧cs.length=P.cellsOf t∧∀(i o:Nat) (ty:TypeId),l[i]? = some (o,ty)→∃y,DataW.trod enc P W base sp held n ty ((cs.drop o).take (P.cellsOf ty))=some y:=by
 unfold Rw at ht
 split at ht
 ·rename_i fs hfs
  have hl:=of_decide_eq_true ht
  obtain⟨xs,n,hfu,_,hlen,hxl,hf⟩:=DataW.trod_struct hfs h
  refine⟨n,hfu,hlen,fun i o ty hi=>?_⟩
  rw[← hl,List.getElem?_map]at hi
  obtain⟨f,hf1,hf2⟩:=Option.map_eq_some_iff.1 hi
  have hf3:fs[i]? = some f:=by simpa using hf1
  have hil:i<xs.length:=by
   rw[hxl]
   exact(Array.getElem?_eq_some_iff.1 hf3).1
  have h2:=hf i f hf3
  injection hf2 with e1 e2
  rw[← e1,← e2,h2]
  exact⟨xs[i],List.getElem?_eq_getElem hil⟩
 ·cases ht
theorem Rx:∀ {d:Nat}{H:Array Obj}{cs:List Value}{x:Ex}{F:List Nat},IE d H cs x F→IE (d+1) H cs x F
 |0,_,_,_,_,h=>h.elim
 |d+1,_,_,_,_,⟨v,h1,h2,h3⟩=>⟨v,h1,h2,h3.imp fun h=>Rx h⟩
theorem Qr {α:Type} [Inhabited α] {E:Bw α}{t e:TypeId}{s fuel:Nat}{u:Value}{x:DataW H×List MemPlace}(hE:Ck s E)(hs:0<s)(ht:P.underlying t=some (.slice e))(ce:P.cellsOf e=s)
  (hel:∀ {n:Nat} {cs:List Value} {x:DataW H×List MemPlace},fuel=n+1→DataW.trod enc P W base (fun _=>true) held n e cs=some x→∃(y:α) (F:List Nat),E W.heap cs y F)
  (hf:DataW.trod enc P W base (fun _=>true) held fuel t [u]=some x):∃(zs:List α) (F:List Nat),Dr s E W.heap u zs F:=by
 rcases DataW.trod_slice ht hf with⟨hcs,_⟩|⟨a,len,cap,elems,rest,n,hfu,hcs,_,_,hl,hm,hlen,helm,_,_⟩
 ·simp only[List.cons.injEq,and_true]at hcs
  subst hcs
  exact⟨[],[],.inl ⟨none,0,rfl,rfl,rfl⟩⟩
 ·simp only[List.cons.injEq,and_true]at hcs
  subst hcs
  have h1:∀i,i<len→∃c:List Value×α,(∀j,j<s→W.cell? (a.add (i*s+j))=c.1[j]?)∧∃F,E W.heap c.1 c.2 F:=by
   intro i hi
   have h2:=helm i hi
   rw[List.getElem?_eq_getElem (by omega)]at h2
   obtain⟨cs',q1,q2⟩:=Option.bind_eq_some_iff.1 h2
   obtain⟨_,ql,qc⟩:=World.cells?_some q1
   obtain⟨y,F,hy⟩:=hel hfu q2
   refine⟨(cs',y),fun j hj=>?_,F,hy⟩
   have:=qc j (by rw[ce];exact hj)
   rwa [add_add,ce]at this
  obtain⟨C,hC⟩:=choose_lt (α:=List Value×α) (n:=len) h1
  obtain⟨F,hF⟩:=Zz hE hs (W:=W) (a:=a) (n:=len) (cap:=cap) (by omega) hl (fun i=>(C i).1) (fun i=>(C i).2) (fun i hi=>(hC i hi).1) (fun i hi=>(hC i hi).2)
  exact⟨_,F,hF⟩
instance:Inhabited Ex:=⟨Ex.zero⟩
instance:Inhabited Fn:=⟨Fn.zero⟩
theorem Y6 {tS tE ti:TypeId}(hS:P.underlying tS=some (.slice tE))(hE:Rw P tE [(0,ti),(1,ti),(2,ti),(3,ti),(4,tS)]=true)(hi:P.underlying ti=some (.int .i64))(cE:P.cellsOf tE=5)(ci:P.cellsOf ti=1)(cS:P.cellsOf tS=1) :
  ∀(fuel:Nat) (u:Value) (x:DataW H×List MemPlace),DataW.trod enc P W base (fun _=>true) held fuel tS [u]=some x→∃(zs:List Ex) (F:List Nat),Dr 5 (IE fuel) W.heap u zs F:=by
 intro fuel
 induction fuel using Nat.strongRecOn with
 |_ fuel ih =>
  intro u x hf
  refine Qr (AC fuel) (by decide) hS cE ?_ hf
  intro n cs y hfu hy
  obtain⟨m,hm,hlen,hfd⟩:=No hE hy
  have num:∀o,o<4→∃z:Int,(cs.drop o).take 1=[.int .i64 z]∧BC z:=by
   intro o ho
   obtain⟨y',hy'⟩:=hfd o o ti (by match o,ho with|0,_=>rfl|1,_=>rfl|2,_=>rfl|3,_=>rfl)
   rw[ci]at hy'
   obtain⟨z,hz,_,hw⟩:=DataW.trod_int hi hy'
   exact⟨z,hz,M8 hw⟩
  obtain⟨y4,hy4⟩:=hfd 4 4 tS rfl
  rw[cS]at hy4
  rw[cE]at hlen
  match cs,hlen with
  |[c0,c1,c2,c3,c4],_ =>
   obtain⟨z0,e0,r0⟩:=num 0 (by decide)
   obtain⟨z1,e1,r1⟩:=num 1 (by decide)
   obtain⟨z2,e2,r2⟩:=num 2 (by decide)
   obtain⟨z3,e3,r3⟩:=num 3 (by decide)
   have q0:c0=.int .i64 z0:=by simpa using e0
   have q1:c1=.int .i64 z1:=by simpa using e1
   have q2:c2=.int .i64 z2:=by simpa using e2
   have q3:c3=.int .i64 z3:=by simpa using e3
   subst q0;subst q1;subst q2;subst q3
   obtain⟨zs,F,hz⟩:=ih m (by omega) c4 y4 hy4
   subst hm
   subst hfu
   exact⟨.mk z0 z1 z2 z3 zs,F,Rx (d:=m+1) ⟨c4,rfl,⟨r0,r1,r2,r3⟩,hz⟩⟩
theorem TP {t tF tN tS tE ti tz:TypeId}{d:DataW H}{ps:List MemPlace}{v:Value}{b0:Nat}{r:Reach}(hP:Rw P t [(0,tF)]=true)(hF:P.underlying tF=some (.slice tN))(hN:Rw P tN [(0,tz),(1,ti),(2,tS)]=true)
  (hS:P.underlying tS=some (.slice tE)) (hE:Rw P tE [(0,ti),(1,ti),(2,ti),(3,ti),(4,tS)]=true) (hi:P.underlying ti=some (.int .i64)) (hz:P.underlying tz=some .string)
  (cP:P.cellsOf t=1) (cF:P.cellsOf tF=1) (cN:P.cellsOf tN=3) (cE:P.cellsOf tE=5) (ci:P.cellsOf ti=1) (cS:P.cellsOf tS=1) (cz:P.cellsOf tz=1)
  (hval:Value.okWide P W r b0 t v) (hd:DataW.Trod enc P W base (fun _=>true) held t v d ps) :
  ∃(u:Value) (dp:Nat) (p:List Fn),v=.agg #[u]∧RP [] dp W.heap u p∧∀k,k<p.length→(p.getD k Fn.zero).name.size≤9223372036854775807:=by
 have hstr:∃fs,P.underlying t=some (.struct fs):=by
  unfold Rw at hP
  split at hP
  ·rename_i fs hfs;exact⟨fs,hfs⟩
  ·cases hP
 obtain⟨fs,hfs⟩:=hstr
 obtain⟨cs,rfl,hcs⟩:=okWide_struct hfs hval
 obtain⟨fuel,hf⟩:=hd
 obtain⟨n,hfu,hlen,hfd⟩:=No hP hf
 obtain⟨y,hy⟩:=hfd 0 0 tF rfl
 rw[cF]at hy
 rw[cP]at hlen
 have hlen':cs.toList.length=1:=hlen
 match hcl:cs.toList,hlen' with
 |[u],_ =>
  have hcu:cs=#[u]:=by apply Array.ext';simpa using hcl
  subst hcu
  have hy':DataW.trod enc P W base (fun _=>true) held n tF [u]=some y:=hy
  obtain⟨zs,F,hzs⟩:=Qr (E:=fun H cs f F=>Y8 n H cs f F∧f.name.size≤9223372036854775807) (s:=3)
   ⟨fun h=>(AB n).len h.1,fun h=>(AB n).one h.1,fun h=>(AB n).lt h.1,fun h hb=>⟨(AB n).stable h.1 hb,h.2⟩⟩ (by decide) hF cN (by
    intro m cs y hm hy
    obtain⟨q,hq,hlen,hfd⟩:=No hN hy
    rw[cN]at hlen
    obtain⟨y0,h0⟩:=hfd 0 0 tz rfl
    obtain⟨y1,h1⟩:=hfd 1 1 ti rfl
    obtain⟨y2,h2⟩:=hfd 2 2 tS rfl
    rw[cz]at h0
    rw[ci]at h1
    rw[cS]at h2
    match cs,hlen with
    |[c0,c1,c2],_ =>
     obtain⟨s,e0,_,hs⟩:=DataW.trod_string hz h0
     obtain⟨z,e1,_,hw⟩:=DataW.trod_int hi h1
     have q0:c0=.string s:=by simpa using e0
     have q1:c1=.int .i64 z:=by simpa using e1
     subst q0;subst q1
     obtain⟨es,F,hes⟩:=Y6 (enc:=enc) (W:=W) (base:=base) (held:=held) hS hE hi cE ci cS q c2 y2 h2
     have hup:∀k,Dr 5 (IE (q+k)) W.heap c2 es F:=by
      intro k
      induction k with
      |zero=>exact hes
      |succ k ih=>exact ih.imp fun h=>Rx h
     have hn:Dr 5 (IE n) W.heap c2 es F:=by
      have:=hup (n-q)
      rwa [show q+(n-q)=n from by omega]at this
     exact⟨⟨s,z,es⟩,F,⟨c2,rfl,M8 hw,hn⟩,by unfold maxLen at hs;exact hs⟩) hy'
  refine⟨u,n,zs,rfl,⟨F,hzs.imp fun h=>h.1,fun b hb hm=>by cases hm⟩,fun k hk=>?_⟩
  obtain⟨cs,G,hg,_⟩:=Dr.get (E:=fun H cs f F=>Y8 n H cs f F∧f.name.size≤9223372036854775807) (s:=3) ⟨fun h=>(AB n).len h.1,fun h=>(AB n).one h.1,fun h=>(AB n).lt h.1,fun h hb=>⟨(AB n).stable h.1 hb,h.2⟩⟩ Fn.zero hzs hk
  exact hg.2
end
end
end Go.Proofs.YtnokbaiemimhjaaGreat
