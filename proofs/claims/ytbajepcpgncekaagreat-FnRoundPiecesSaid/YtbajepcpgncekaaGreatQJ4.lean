/- Vl, Vn, Vo, Ya, Yb, Yc, Yd, Ye, Yr: texts of this claim, joined; what the claim does not come to is left out. -/
import Derived.Test.YtbajepcpgncekaaGreatQJ3
import Derived.Test.YtbajepcpgncekaaGreatProg
set_option linter.unusedVariables false
set_option linter.unusedSimpArgs false
namespace Go.Proofs.YtbajepcpgncekaaGreat
open Go Go.RowKit
section
set_option maxHeartbeats 4000000
set_option maxRecDepth 100000
attribute [local irreducible] LW
def SV (F d:Nat):Prop:=∀(w:World) (S:List Nat) (g:Nat) (pp:Value) (dp n s0:Nat) (c0:Int) (p:List Fn) (ve:Value) (ex:Ex) (vv:Value) (env:List (List Int)) (hS:∀b∈S,b<w.heap.size) (hgS:g∈S) (hB0:BX w.heap g [pp,.int .i64 ((n:Nat):Int),.int .i64 ((s0:Nat):Int),.int .i64 c0]) (hp:RN S (rP (Ki dp)) w.heap pp p) (hn:1≤n∧n≤13) (hs0:s0≤3000) (hc0:0≤c0∧c0≤9) (hex:RN S (rP (LK d)) w.heap ve ex) (henv:RN S (B3 (B3 rI)) w.heap vv env) (hqenv:C5 vv)
  (hvp:H6 p) (hF:F≤p.length) (hwf:wf p ((F:Nat):Int) ex ((env.length:Nat):Int)=true) (hse:BV n env) (hdp:env.length+ex.deep≤1000000),
  Calls Tryz.prog 221 #[.pointer (some ⟨g,0,none⟩),ve,vv] w (fun e w'=>∃(v:Value) (x:List Int) (s1:Nat) (c1:Int),e=.returned v∧Au [g] w w'∧BX w'.heap g [pp,.int .i64 ((n:Nat):Int),.int .i64 ((s1:Nat):Int),.int .i64 c1]∧RN S (B3 rI) w'.heap v x∧Cf n x∧s1≤3000∧(0≤c1∧c1≤9)∧AH (go c0 (Cn n (E8 p n F) ex env s0)) x s1 c1)
def SC (F d:Nat):Prop:=∀(w:World) (S:List Nat) (g:Nat) (pp:Value) (dp n s0:Nat) (c0:Int) (p:List Fn) (ve:Value) (ex:Ex) (vv:Value) (env:List (List Int)) (hS:∀b∈S,b<w.heap.size) (hgS:g∈S) (hB0:BX w.heap g [pp,.int .i64 ((n:Nat):Int),.int .i64 ((s0:Nat):Int),.int .i64 c0]) (hp:RN S (rP (Ki dp)) w.heap pp p) (hn:1≤n∧n≤13) (hs0:s0≤3000) (hc0:0≤c0∧c0≤9) (hex:RN S (rP (LK d)) w.heap ve ex) (henv:RN S (B3 (B3 rI)) w.heap vv env) (hqenv:C5 vv)
  (hvp:H6 p) (hF:F≤p.length) (hwf:wf p ((F:Nat):Int) ex ((env.length:Nat):Int)=true) (hse:BV n env) (hdp:env.length+ex.deep≤1000000) (hk:ex.kind=10∨ex.kind=11),
  Calls Tryz.prog 252 #[.pointer (some ⟨g,0,none⟩),ve,vv] w (fun e w'=>∃(v:Value) (x:List Int) (s1:Nat) (c1:Int),e=.returned v∧Au [g] w w'∧BX w'.heap g [pp,.int .i64 ((n:Nat):Int),.int .i64 ((s1:Nat):Int),.int .i64 c1]∧RN S (B3 rI) w'.heap v x∧Cf n x∧s1≤3000∧(0≤c1∧c1≤9)∧AH (go c0 (K5 n (E8 p n F) ex env s0)) x s1 c1)
def SO (F:Nat):Prop:=∀(w:World) (S:List Nat) (g:Nat) (pp:Value) (dp n s0:Nat) (c0:Int) (p:List Fn) (dfx:Nat) (vf:Value) (fx:Fn) (va:Value) (env:List (List Int)) (hS:∀b∈S,b<w.heap.size) (hgS:g∈S) (hB0:BX w.heap g [pp,.int .i64 ((n:Nat):Int),.int .i64 ((s0:Nat):Int),.int .i64 c0]) (hp:RN S (rP (Ki dp)) w.heap pp p) (hn:1≤n∧n≤13) (hs0:s0≤3000) (hc0:0≤c0∧c0≤9) (hfx:RN S (rP (UR dfx)) w.heap vf fx) (henv:RN S (B3 (B3 rI)) w.heap va env) (hqenv:C5 va)
  (hvp:H6 p) (hF:F≤p.length) (hwf:∀k,k<fx.outs.length→wf p ((F:Nat):Int) (fx.outs.getD k Ex.zero) ((env.length:Nat):Int)=true) (hse:BV n env) (hdp:∀k,k<fx.outs.length→env.length+(fx.outs.getD k Ex.zero).deep≤1000000) (hll:fx.outs.length≤1000000),
  Calls Tryz.prog 158 #[.pointer (some ⟨g,0,none⟩),vf,va] w (fun e w'=>∃(v:Value) (x:List (List Int)) (s1:Nat) (c1:Int),e=.returned v∧Au [g] w w'∧BX w'.heap g [pp,.int .i64 ((n:Nat):Int),.int .i64 ((s1:Nat):Int),.int .i64 c1]∧RN S (B3 (B3 rI)) w'.heap v x∧(C5 v∧x.length=fx.outs.length∧BV n x)∧s1≤3000∧(0≤c1∧c1≤9)∧AH (go c0 (Df n (E8 p n F) fx.outs env s0)) x s1 c1)
theorem CY (w:World)(S:List Nat)(g:Nat)(pp:Value)(dp n s0:Nat)(c0:Int)(p:List Fn)(code:Int)(hS:∀b∈S,b<w.heap.size)(hgS:g∈S)(hB0:BX w.heap g [pp,zI (n:Int),zI (s0:Int),zI c0])(hp:RN S (rP (Ki dp)) w.heap pp p)(hn:1≤n∧n≤13)(hs0:s0≤3000)(hc0:0≤c0∧c0≤9)(_hcode:Bx code)(hcd:1≤code∧code≤9) :
  Calls Tryz.prog 250 #[zP g,zI code] w (fun e w'=>∃(v:Value) (x:Sr) (s1:Nat) (c1:Int),e=.returned v∧Au [g] w w'∧BX w'.heap g [pp,zI (n:Int),zI (s1:Int),zI c1]∧RN S (B3 rI) w'.heap v x∧Cf n x∧s1≤3000∧(0≤c1∧c1≤9)∧(s1=s0∧c1=if c0=0 then code else c0)):=by
 refine Aq [zP g,zI code] 19 Tryz.func250 Z Z sM ?_
 have a9:Au [g] w w:=Au.refl [g] w
 have aj:=hB0.lt
 refine cA Z<|A0<|bZ [0,0,0,2,0] Z<|Ad 1 Z<|AY Z Aa<|Ak (p:=zP g) 3 GP Z Z Aa<|Ai (p:=Ap (zP g) 3) (.inr Z) (zI c0) AD Z (hB0.ldp (i:=3) sM) Aa ?_
 by_cases aa:c0=((0:Nat):Int)
 ·refine Am true Z Z (A5 aa) Aa<|Aj<|Ag Z<|Ab _ [0,0,0,0,4] Z<|Ad 2 Z<|AY Z Aa<|Ak (p:=zP g) 3 GP Z Z Aa (Be (k:=3) (w:=w) Hv Z Z ⟨rfl,rfl⟩ hB0 sM Aa fun w2 ab ai a6=>?_)
  replace a6:BX w2.heap g [pp,zI (n:Int),zI (s0:Int),zI code]:=a6
  have ac:Au [g] w w2:=a9.trans ab
  have ad:=ab.size
  refine Aj<|bZ [0,0,0,2,3,0] Z<|Ad 1 Z<|AY Z Aa<|Ak (p:=zP g) 1 N5 Z Z Aa<|Ai (p:=Ap (zP g) 1) (.inr Z) (zI (n:Int)) Lk Z (a6.ldp (i:=1) sM) Aa ?_
  refine As 79 [] [] [zI ((0:Nat):Int),zI (n:Int)] Z Z XO Aa (EI _ _ (n) oM sD oM) ?_
  rintro e3 w3 ⟨a0,rfl,a7,a1⟩
  refine⟨_,rfl,a7,?_⟩
  have ae:=a7.size
  have af:Au [g] w w3:=ac.ext a7
  have a2:=a6.ext a7
  exact Ac 1 Z<|A1<|Af [4] Z a0 Z ⟨a0,cst n ((0:Nat):Int),s0,code,rfl,af,a2,RN.of_fr1 a1 fun b hb=>zH<|hS b hb,(by exact DT (by decide)),oM,oM,(by exact⟨rfl,by first|(rw[if_pos oM])|(rw[if_neg oM])⟩)⟩
 refine Am false Z Z (A6 aa) Aa<|Aj<|Ah Z<|A2<|bZ [0,0,0,2,3,0] Z<|Ad 1 Z<|AY Z Aa<|Ak (p:=zP g) 1 N5 Z Z Aa<|Ai (p:=Ap (zP g) 1) (.inr Z) (zI (n:Int)) Lk Z (hB0.ldp (i:=1) sM) Aa ?_
 refine As 79 [] [] [zI ((0:Nat):Int),zI (n:Int)] Z Z XO Aa (EI _ _ (n) oM sD oM) ?_
 rintro e4 w4 ⟨a3,rfl,a8,a4⟩
 refine⟨_,rfl,a8,?_⟩
 have ag:=a8.size
 have ah:Au [g] w w4:=a9.ext a8
 have a5:=hB0.ext a8
 exact Ac 1 Z<|A1<|Af [4] Z a3 Z ⟨a3,cst n ((0:Nat):Int),s0,c0,rfl,ah,a5,RN.of_fr1 a4 fun b hb=>zH<|hS b hb,(by exact DT (by decide)),oM,oM,(by exact⟨rfl,by first|(rw[if_pos oM])|(rw[if_neg oM])⟩)⟩
theorem Tr {p:Prop}(h:p:=by unfold maxLen;first|omega|assumption|(simp only[zb,z9,z4,z6,z5];omega)|(simp[zb,z9,z4,z6,z5];done)|(simp[zb,z9,z4,z6,z5];omega)):p:=h
theorem M1 (w:World)(S:List Nat)(vv:Value)(env:List (Sr))(vx:Value)(x:Sr)(hS:∀b∈S,b<w.heap.size)(henv:RN S (B3 (B3 rI)) w.heap vv env)(hqenv:C5 vv)(hx:RN S (B3 rI) w.heap vx x)(hel:env.length≤1000000) :
  Calls Tryz.prog 251 #[vv,vx] w (fun e w'=>∃v,e=.returned v∧AF w w'∧RN S (B3 (B3 rI)) w'.heap v (env++[x])∧C5 v):=by
 refine Aq [vv,vx] 25 Tryz.func251 Z Z sM ?_
 have ai:AF w w:=AF.refl w
 have b8:=henv.lenL
 unfold maxLen at b8
 have b9:=hx.lenL
 unfold maxLen at b9
 refine cA Z<|bZ [3,0] Z (CQ rV By BH B8 Aa fun v1 w1 a7 aq aj=>?_)
 have a8:=a7.size
 have ak:=ai.trans a7
 obtain⟨b2,F1,b3⟩:=Hi.nil (S:=S) (aj.low (B':=w.heap.size) (A7 _))
 refine Ac 1 Z<|A0<|cA Z<|A3<|B1 (S:=Nat×Value) (fun⟨k,vo⟩=>([(5,vo),(6,zI (k:Int)),(0,vv),(1,vx)])) (fun⟨k,vo⟩ W=>AF w W∧k≤env.length∧Oz 27 S w.heap.size W.heap vo (env.take k)) (fun⟨k,vo⟩=>env.length-k) (0,v1) ⟨rfl,rfl,rfl,rfl,trivial⟩ ⟨ak,sD,(by exact⟨_,_,by assumption⟩)⟩ ?_
 clear ai aj aq a7 a8 ak
 rintro⟨k,vo⟩ ρ2 w2 ⟨a6,al,hbld⟩
 have ar:w.heap.size≤w2.heap.size:=a6.size
 obtain⟨b4,F4,a3⟩:=hbld
 refine A0<|bZ [0,0,0,0] Z<|Ad 2 Z<|AQ (v:=vv) BH Z henv.slL Aa ?_
 by_cases am:(k:Int)<(env.length:Int)
 ·refine AG true Z Z (A5 am) Aa<|Aj<|Ag Z<|A2<|A0<|A3<|Ab _ [0,0,0,0,2,3,4,0] Z<|Ad 3 Z<|AB (v:=vv) k BH B8 Z Z henv.slL Z sD Aa ?_
  obtain⟨a9,au,aa⟩:=RN.getL (w:=w) g1 [] (k:=k) henv sD
  have ab:=aa.lenL
  unfold maxLen at ab
  refine Ai (p:=Ay vv k 1) (.inr Z) a9 Bj Z (au _<|Au.of_ext S a6) Aa (BI (u:=a9) (B:=w2.heap.size) By BH B8 Z Z (Oj w2.heap.size w2.heap.size _<|aa.one1 g1) (A7 _) Aa fun v7 w7 ac b5 av=>?_)
  have aw:=ac.size
  have ad:=a6.trans ac
  have ae:=a3.ext ac
  refine EC (v:=vo) (a:=v7) (u:=a9) BH B8 Z Z Z ae oM av ((aa.add (F:=F4) g1 ae.low).ext g1 ad) sD Tr Aa ?_
  rintro v9 w9 G9 an ax ⟨b6,F9,b7⟩
  have ay:=an.size
  have az:AF w w9:=an.below ad (fun c hc=>ae.low c (ax c hc)) ad.size
  refine Ac 1 Z<|Ab _ [0,0,0] Z<|Ad 1 Z<|AP ((k+1:Nat):Int) Z Z (Bl oM sD) Aa<|Ac 1 Z ?_
  exact⟨(k+1,v9),_,rfl,zR,⟨az,sD,(by rw[Dq [] oM];exact⟨_,_,by assumption⟩)⟩,zD⟩
 refine AG false Z Z (A6 am) Aa<|Aj<|Ah Z<|A4<|Ax<|Ax<|At<|bZ [0,0,3,4,0] Z<|Ad 2 Z (BI (u:=vx) (B:=w2.heap.size) By BH B8 Z Z (Oj w2.heap.size w2.heap.size _<|hx.one1 g1) (A7 _) Aa fun bb bd a0 b0 af=>?_)
 have ao:=a0.size
 have a1:=a6.trans a0
 have a2:=a3.ext a0
 refine EC (v:=vo) (a:=bb) (u:=vx) BH B8 Z Z Z a2 oM af ((hx.add (F:=F4) g1 a2.low).ext g1 a1) sD Tr Aa ?_
 rintro ba bc G12 a4 ag ⟨b1,be,a5⟩
 have ap:=a4.size
 have ah:AF w bc:=a4.below a1 (fun c hc=>a2.low c (ag c hc)) a1.size
 exact Ac 1 Z<|A1<|Af [4] Z ba Z ⟨ba,rfl,ah,(by have h9:=(a5.done hS);rw[za oM]at h9;exact h9),a5.cap⟩
theorem IF (w:World)(S:List Nat)(F:Nat)(g:Nat)(pp:Value)(dp n s0:Nat)(c0:Int)(p:List Fn)(dfx:Nat)(vf:Value)(fx:Fn)(va:Value)(env:List (Sr))(hS:∀b∈S,b<w.heap.size)(hgS:g∈S)(hB0:BX w.heap g [pp,zI (n:Int),zI (s0:Int),zI c0])(hp:RN S (rP (Ki dp)) w.heap pp p)(hn:1≤n∧n≤13)(hs0:s0≤3000)(hc0:0≤c0∧c0≤9)(hfx:RN S (rP (UR dfx)) w.heap vf fx)(henv:RN S (B3 (B3 rI)) w.heap va env)(hqenv:C5 va)(hvp:H6 p)(hF:F≤p.length)(hwf:∀k,k<fx.outs.length→wf p (F:Int) (fx.outs.getD k Ex.zero) (env.length:Int)=true)(hse:BV n env)(hdp:∀k,k<fx.outs.length→env.length+(fx.outs.getD k Ex.zero).deep≤1000000)(hll:fx.outs.length≤1000000)(IHv:∀d,SV F d) :
  Calls Tryz.prog 158 #[zP g,vf,va] w (fun e w'=>∃(v:Value) (x:List (Sr)) (s1:Nat) (c1:Int),e=.returned v∧Au [g] w w'∧BX w'.heap g [pp,zI (n:Int),zI (s1:Int),zI c1]∧RN S (B3 (B3 rI)) w'.heap v x∧(C5 v∧x.length=fx.outs.length∧BV n x)∧s1≤3000∧(0≤c1∧c1≤9)∧AH (go c0 (Df n (E8 p n F) fx.outs env s0)) x s1 c1):=by
 refine Aq [zP g,vf,va] 32 Tryz.func158 Z Z sM ?_
 have ao:Au [g] w w:=Au.refl [g] w
 have bg:=henv.lenL
 unfold maxLen at bg
 have bl:=hB0.lt
 refine cA Z<|bZ [3,0] Z (CQ rV By BH B8 Aa fun v1 w1 aa az ap=>?_)
 have ae:=aa.size
 have aq:Au [g] w w1:=ao.ext aa
 have a9:=hB0.ext aa
 obtain⟨bc,F1,bd⟩:=Hi.nil (S:=S) (ap.low (B':=w.heap.size) (A7 _))
 refine Ac 1 Z<|A0<|cA Z<|A3 ?_
 refine B1 (S:=Nat×Value×List (Sr)×Nat×Int) (fun⟨k,vo,xs,s9,c9⟩=>([(7,vo),(8,zI (k:Int)),(0,zP g),(1,vf),(2,va)])) (fun⟨k,vo,xs,s9,c9⟩ W=>Au [g] w W∧BX W.heap g [pp,zI (n:Int),zI (s9:Int),zI c9]∧k≤fx.outs.length∧Oz 27 S w.heap.size W.heap vo xs∧xs.length=k∧BV n xs∧s9≤3000∧(0≤c9∧c9≤9)∧AH (go c0<|Df n (E8 p n F) (fx.outs.take k) env s0) xs s9 c9) (fun⟨k,vo,xs,s9,c9⟩=>fx.outs.length-k) (0,v1,([]:List (Sr)),s0,c0) ⟨rfl,rfl,rfl,rfl,rfl,trivial⟩ ⟨aq,a9,sD,(by exact⟨_,_,by assumption⟩),(by rfl),(by intro j hj;simp at hj),oM,oM,(by exact Gj _ _ _ _ _ _)⟩ ?_
 clear ao ap az aa ae aq
 rintro⟨k,vo,xs,s9,c9⟩ ρ2 w2 ⟨a3,a1,ar,hbld,hxl,hxs,au,av,hrl⟩
 have b0:w.heap.size≤w2.heap.size:=a3.size
 have be:=a1.lt
 obtain⟨bf,F5,a0⟩:=hbld
 refine A0<|bZ [0,0,0,0,2,0,0] Z<|Ad 2 Z<|AN (hfx.isPtr) Z Aa ?_
 obtain⟨cs6,b1,ab⟩:=RN.at (Av _) hfx
 obtain⟨a8,rfl,ac⟩:=RF.of b1
 have af:=ac.rn.lenle
 unfold maxLen at af
 refine AJ (p:=vf) 2 BL Z (ab _<|a3.sub<|AX hgS) Aa<|Ai (p:=Ap vf 2) (.inr Z) a8 Bd Z ((ab _<|a3.sub<|AX hgS).ld (i:=2) (by simp[EX,EY])) Aa<|AQ (v:=a8) D1 Z ac.rn.isSl Aa ?_
 by_cases aw:(k:Int)<(fx.outs.length:Int)
 ·refine AG true Z Z (A5 aw) Aa<|Aj<|Ag Z<|A2<|A0<|A3<|Ab _ [0,0,0,0,0,2,0,0,0,4,3,4,0] Z<|Ad 3 Z<|AN (hfx.isPtr) Z Aa<|AJ (p:=vf) 2 BL Z (ab _<|a3.sub<|AX hgS) Aa<|Ai (p:=Ap vf 2) (.inr Z) a8 Bd Z ((ab _<|a3.sub<|AX hgS).ld (i:=2) (by simp[EX,EY])) Aa<|Ad 1 Z ?_
  refine AB (v:=a8) k D1 Bk Z Z ac.rn.isSl Z sD Aa<|Ad 1 Z ?_
  refine AA 221 [] [] [zP g,Ay a8 k 5,va] Z Z Hu Aa (IHv dfx _ (S++F5) g pp dp (n) (s9) (c9) (p) (Ay a8 k 5) (fx.outs.getD k Ex.zero) va (env) (fun b hb=>(by rcases zi.1 hb with hb|hb;(have:=hS b hb;omega);exact a0.lt b hb:b<w2.heap.size)) (z8 _ hgS) a1 ((hp.add (F:=F5) (B5<|AU dp) a0.low).chg (B5<|AU dp)<|a3.sub<|LL hgS) oM oM oM (RN.ptr (Aw dfx) (by decide) Ex.zero ((ac.rn.add (F:=F5) (An<|Aw dfx) a0.low).chg (An<|Aw dfx)<|a3.sub<|LL hgS) sD) ((henv.add (F:=F5) g2 a0.low).chg g2<|a3.sub<|LL hgS) hqenv hvp oM (by exact hwf k oM) hse (by exact hdp k oM)) ?_
  rintro e8 w8 ⟨v8,x8,s8,c8,rfl,ag,b2,ad,ah,b3,b4,b5⟩
  refine⟨_,rfl,?_⟩
  have b6:=ag.size
  have b7:Au [g] w w8:=a3.trans ag
  have ai:=a0.run hgS oM ag
  have b8:=ah.1
  replace ad:RN (S++F5) (B3 rI) w8.heap v8 x8:=ad
  refine BI (u:=v8) (B:=w8.heap.size) By BH B8 Z Z (Oj w8.heap.size w8.heap.size _<|ad.one1 g1) (A7 _) Aa fun bh bi a2 b9 aj=>?_
  have ax:=a2.size
  have ak:Au [g] w bi:=b7.ext a2
  have a5:=b2.ext a2
  have a4:=ai.ext a2
  have al:=ad.ext g1 a2
  refine EC (v:=vo) (a:=bh) (u:=v8) BH B8 Z Z Z a4 oM aj al sD (by unfold maxLen;first|omega|assumption|(simp;done)|(simp;omega)) Aa ?_
  rintro bj bk G17 a6 a7 ⟨ba,bm,bb⟩
  have ay:=a6.size
  have am:Au [g] w bk:=ak.fresh a6 (fun c hc=>a4.low c (a7 c hc))
  have an:=a5.chg a6 fun hm=>by have:=a4.low _ (a7 _ hm);have:=a4.lt _ (a7 _ hm);omega
  refine Ac 1 Z<|Ab _ [0,0,0] Z<|Ad 1 Z<|AP ((k+1:Nat):Int) Z Z (Bl oM sD) Aa<|Ac 1 Z ?_
  exact⟨(k+1,bj,xs++[x8],s8,c8),_,rfl,zR,⟨am,an,sD,(by exact⟨_,_,by assumption⟩),(by rw[z4,zd,hxl]),(by exact BV.snoc hxs (by assumption)),oM,oM,(by exact Gi oM hrl (by assumption))⟩,zD⟩
 exact AG false Z Z (A6 aw) Aa<|Aj<|Ah Z<|A4<|Ax<|Ax<|At<|bZ [0,0] Z<|Ac 2 Z<|A1<|Af [6] Z vo Z ⟨vo,xs,s9,c9,rfl,a3,a1,a0.done hS,(by exact⟨a0.cap,zO,hxs⟩),oM,oM,(by rw[za oM]at hrl;exact hrl)⟩
theorem Ts (F:Nat)(IH:∀d,SV F d):SO F:=by
 intro w S g pp dp n s0 c0 p dfx vf fx va env hS hgS hB0 hp hn hs0 hc0 hfx henv hqenv hvp hF hwf hse hdp hll
 exact IF w S F g pp dp n s0 c0 p dfx vf fx va env hS hgS hB0 hp hn hs0 hc0 hfx henv hqenv hvp hF hwf hse hdp hll IH
theorem Tt {p:Prop}(h:p:=by first|exact Sg oM oM hKr (by assumption)|exact Sj oM oM hKr (by rw[show(ex.count).toNat=i from by omega];exact hrl9)):p:=h
theorem GS {p:Prop}(h:p:=by simp[EX,EY]):p:=h
theorem IG (w:World)(S:List Nat)(F:Nat)(g:Nat)(pp:Value)(dp n s0:Nat)(c0:Int)(p:List Fn)(dex:Nat)(ve:Value)(ex:Ex)(vv:Value)(env:List (Sr))(hS:∀b∈S,b<w.heap.size)(hgS:g∈S)(hB0:BX w.heap g [pp,zI (n:Int),zI (s0:Int),zI c0])(hp:RN S (rP (Ki dp)) w.heap pp p)(hn:1≤n∧n≤13)(hs0:s0≤3000)(hc0:0≤c0∧c0≤9)(hex:RN S (rP (LK dex)) w.heap ve ex)(henv:RN S (B3 (B3 rI)) w.heap vv env)(hqenv:C5 vv)(hvp:H6 p)(hF:F≤p.length)(hwf:wf p (F:Int) ex (env.length:Int)=true)(hse:BV n env)(hdp:env.length+ex.deep≤1000000)(hk:ex.kind=10∨ex.kind=11)(IH1:∀F',F'<F→∀d,SV F' d)(IH2:∀d',d'<dex→SV F d') :
  Calls Tryz.prog 252 #[zP g,ve,vv] w (fun e w'=>∃(v:Value) (x:Sr) (s1:Nat) (c1:Int),e=.returned v∧Au [g] w w'∧BX w'.heap g [pp,zI (n:Int),zI (s1:Int),zI c1]∧RN S (B3 rI) w'.heap v x∧Cf n x∧s1≤3000∧(0≤c1∧c1≤9)∧AH (go c0 (K5 n (E8 p n F) ex env s0)) x s1 c1):=by
 refine Aq [zP g,ve,vv] 81 Tryz.func252 Z Z sM ?_
 have bo:Au [g] w w:=Au.refl [g] w
 have d0:=henv.lenL
 unfold maxLen at d0
 have dh:=hB0.lt
 have hwk:=HO hwf hk
 have ay:ex.kind≠9:=by omega
 have hkH:=ZW hk
 clear hk
 have hdk:=DI ex
 refine cA Z<|bZ [3,0] Z (CQ rV By BH B8 Aa fun v1 w1 az cf bp=>?_)
 have b2:=az.size
 have bq:Au [g] w w1:=bo.ext az
 have am:=hB0.ext az
 obtain⟨cv,F1,cw⟩:=Hi.nil (S:=S) (bp.low (B':=w.heap.size) (A7 _))
 refine Ac 1 Z<|A0<|cA Z<|A3 ?_
 refine B1 (S:=Nat×Value×List (Sr)×Nat×Int) (fun⟨k,vo,xs,s9,c9⟩=>([(7,vo),(8,zI (k:Int)),(0,zP g),(1,ve),(2,vv)])) (fun⟨k,vo,xs,s9,c9⟩ W=>Au [g] w W∧BX W.heap g [pp,zI (n:Int),zI (s9:Int),zI c9]∧k≤ex.kids.length∧Oz 27 S w.heap.size W.heap vo xs∧xs.length=k∧BV n xs∧s9≤3000∧(0≤c9∧c9≤9)∧AH (go c0<|Df n (E8 p n F) (ex.kids.take k) env s0) xs s9 c9) (fun⟨k,vo,xs,s9,c9⟩=>ex.kids.length-k) (0,v1,([]:List (Sr)),s0,c0) ⟨rfl,rfl,rfl,rfl,rfl,trivial⟩ ⟨bq,am,sD,(by exact⟨_,_,by assumption⟩),(by rfl),(by intro j hj;simp at hj),oM,oM,(by exact Gj _ _ _ _ _ _)⟩ ?_
 clear bo bp cf az b2 bq
 rintro⟨k,vo,xs,s9,c9⟩ ρ2 w2 ⟨a0,a1,br,hbld,hxl,hxs,bs,bt,hrl⟩
 have b3:w.heap.size≤w2.heap.size:=a0.size
 have cx:=a1.lt
 obtain⟨cy,F5,a3⟩:=hbld
 refine A0<|bZ [0,0,0,0,2,0,0] Z<|Ad 2 Z<|AN (hex.isPtr) Z Aa ?_
 obtain⟨cs6,cg,a7⟩:=RN.at (Aw _) hex
 obtain⟨dd6,al,cz,rfl,b0⟩:=RX.of cg
 have an:=b0.rn.lenle
 unfold maxLen at an
 refine AJ (p:=ve) 4 B9 Z (a7 _<|a0.sub<|AX hgS) Aa<|Ai (p:=Ap ve 4) (.inr Z) al Bd Z ((a7 _<|a0.sub<|AX hgS).ld (i:=4) GS) Aa<|AQ (v:=al) D1 Z b0.rn.isSl Aa ?_
 by_cases bu:(k:Int)<(ex.kids.length:Int)
 ·refine AG true Z Z (A5 bu) Aa<|Aj<|Ag Z<|A2<|A0<|A3<|Ab _ [0,0,0,0,0,2,0,0,0,4,3,4,0] Z ?_
  have hvo:=hvp.outs (ex.num).toNat oM
  have hvr:=hvp.par (ex.num).toNat oM
  have hkd:=Dh (l:=ex.kids) (k:=k) oM
  have hkb:ex.kids.length≤412:=by omega
  refine Ad 3 Z<|AN (hex.isPtr) Z Aa<|AJ (p:=ve) 4 B9 Z (a7 _<|a0.sub<|AX hgS) Aa<|Ai (p:=Ap ve 4) (.inr Z) al Bd Z ((a7 _<|a0.sub<|AX hgS).ld (i:=4) GS) Aa<|Ad 1 Z<|AB (v:=al) k D1 Bk Z Z b0.rn.isSl Z sD Aa<|Ad 1 Z ?_
  refine AA 221 [] [] [zP g,Ay al k 5,vv] Z Z Hu Aa (IH2 dd6 oM _ (S++F5) g pp dp (n) (s9) (c9) (p) (Ay al k 5) (ex.kids.getD k Ex.zero) vv (env) (fun b hb=>(by rcases zi.1 hb with hb|hb;(have:=hS b hb;omega);exact a3.lt b hb:b<w2.heap.size)) (z8 _ hgS) a1 ((hp.add (F:=F5) (B5<|AU dp) a3.low).chg (B5<|AU dp)<|a0.sub<|LL hgS) oM oM oM (RN.ptr (Aw dd6) (by decide) Ex.zero ((b0.rn.add (F:=F5) (An<|Aw dd6) a3.low).chg (An<|Aw dd6)<|a0.sub<|LL hgS) sD) ((henv.add (F:=F5) g2 a3.low).chg g2<|a0.sub<|LL hgS) hqenv hvp oM (by exact DG hwf oM oM) hse oM) ?_
  rintro e8 w8 ⟨v8,x8,s8,c8,rfl,b4,ch,b1,b5,ci,cj,ck⟩
  refine⟨_,rfl,?_⟩
  have cl:=b4.size
  have cm:Au [g] w w8:=a0.trans b4
  have b6:=a3.run hgS oM b4
  have cn:=b5.1
  replace b1:RN (S++F5) (B3 rI) w8.heap v8 x8:=b1
  refine BI (u:=v8) (B:=w8.heap.size) By BH B8 Z Z (Oj w8.heap.size w8.heap.size _<|b1.one1 g1) (A7 _) Aa fun d3 d4 a8 co b7=>?_
  have bv:=a8.size
  have b8:Au [g] w d4:=cm.ext a8
  have af:=ch.ext a8
  have ab:=b6.ext a8
  have b9:=b1.ext g1 a8
  refine EC (v:=vo) (a:=d3) (u:=v8) BH B8 Z Z Z ab oM b7 b9 sD (by unfold maxLen;first|omega|assumption|(simp;done)|(simp;omega)) Aa ?_
  rintro d5 d6 G17 ag ah ⟨cp,di,cq⟩
  have bw:=ag.size
  have ba:Au [g] w d6:=b8.fresh ag (fun c hc=>ab.low c (ah c hc))
  have bb:=af.chg ag fun hm=>by have:=ab.low _ (ah _ hm);have:=ab.lt _ (ah _ hm);omega
  refine Ac 1 Z<|Ab _ [0,0,0] Z<|Ad 1 Z<|AP ((k+1:Nat):Int) Z Z (Bl oM sD) Aa<|Ac 1 Z ?_
  exact⟨(k+1,d5,xs++[x8],s8,c8),_,rfl,zR,⟨ba,bb,sD,(by exact⟨_,_,by assumption⟩),(by rw[z4,zd,hxl]),(by exact BV.snoc hxs (by assumption)),oM,oM,(by exact Gi oM hrl (by assumption))⟩,zD⟩
 refine AG false Z Z (A6 bu) Aa<|Aj<|Ah Z<|A4<|Ax<|Ax<|At<|A0<|AO _ [0,0,0,1,0,0,1,0,0,0,1,0,0] mixed (by kernel_rfl) ?_
 have ad:=a3.done hS
 have hfn19c:=a3.cap
 have hvo:=hvp.outs (ex.num).toNat oM
 have hvr:=hvp.par (ex.num).toNat oM
 have hxk:xs.length=ex.kids.length:=by omega
 have hKr:AH (go c0 (Df n (E8 p n F) ex.kids env s0)) xs s9 c9:=by rw[za oM]at hrl;exact hrl
 refine Ad 1 Z<|AY Z Aa<|Ak (p:=zP g) 0 UC Z Z Aa<|Ai (p:=Ap (zP g) 0) (.inl Z) pp VI Z (a1.ldp (i:=0) sM) Aa<|AN (hp.isPtr) Z Aa ?_
 obtain⟨cs20,bc,ao⟩:=RN.at (AU _) hp
 obtain⟨a4,rfl,a9⟩:=RPr.of bc
 have ae:=a9.lenle
 unfold maxLen at ae
 refine AJ (p:=pp) 0 Bv Z (ao _<|a0.drew.sub<|AX hgS) Aa<|Ai (p:=Ap pp 0) (.inl Z) a4 BY Z ((ao _<|a0.drew.sub<|AX hgS).ld (i:=0) GS) Aa<|Ad 1 Z<|AN (hex.isPtr) Z Aa<|AJ (p:=ve) 1 BE Z (a7 _<|a0.drew.sub<|AX hgS) Aa<|Ai (p:=Ap ve 1) (.inl Z) (zI ex.num) AD Z ((a7 _<|a0.drew.sub<|AX hgS).ld (i:=1) GS) Aa ?_
 refine AB (v:=a4) ((ex.num).toNat) Gb Cj Z Z a9.isSl oM sD Aa<|Ac 1 Z<|A0<|bZ [0,0,0,2,0] Z<|Ad 1 Z<|AN (hex.isPtr) Z Aa<|AJ (p:=ve) 0 Bf Z (a7 _<|a0.drew.sub<|AX hgS) Aa<|Ai (p:=Ap ve 0) (.inr Z) (zI ex.kind) AD Z ((a7 _<|a0.drew.sub<|AX hgS).ld (i:=0) GS) Aa ?_
 by_cases ap:ex.kind=((10:Nat):Int)
 ·refine Am true Z Z (A5 ap) Aa<|Aj<|Ag Z<|A0<|AO _ [0,0,0,0,1,0,0,0,1,0,0,4,0] mixed (by kernel_rfl)<|Ad 2 Z ?_
  have hvd:=hvp.deep (ex.num).toNat oM (ex.pick).toNat oM
  refine AN (RN.isPtr<|RN.ptr (Av dp) (by decide) Fn.zero a9 sD) Z Aa ?_
  obtain⟨cs22,bd,aq⟩:=a9.get (Av dp) Fn.zero (k:=(ex.num).toNat) sD
  obtain⟨ac,rfl,ai⟩:=RF.of bd
  have ar:=ai.rn.lenle
  unfold maxLen at ar
  refine AJ (p:=Ay a4 ((ex.num).toNat) 3) 2 BL Z (aq _<|a0.drew.drew.sub<|AX hgS) Aa<|Ai (p:=Ap (Ay a4 ((ex.num).toNat) 3) 2) (.inl Z) ac Bd Z ((aq _<|a0.drew.drew.sub<|AX hgS).ld (i:=2) GS) Aa<|Ad 1 Z<|AN (hex.isPtr) Z Aa<|AJ (p:=ve) 2 Dc Z (a7 _<|a0.drew.drew.sub<|AX hgS) Aa<|Ai (p:=Ap ve 2) (.inl Z) (zI ex.pick) AD Z ((a7 _<|a0.drew.drew.sub<|AX hgS).ld (i:=2) GS) Aa ?_
  refine AB (v:=ac) ((ex.pick).toNat) D1 Bk Z Z ai.rn.isSl oM sD Aa<|Ad 1 Z ?_
  refine AA 221 [] [] [zP g,Ay ac ((ex.pick).toNat) 5,vo] Z Z Hu Aa (IH1 (ex.num).toNat oM dp _ S g pp dp (n) (s9) (c9) (p) (Ay ac ((ex.pick).toNat) 5) (((p.getD ((ex.num).toNat) Fn.zero).outs).getD ((ex.pick).toNat) Ex.zero) vo (xs) (fun b hb=>(by have:=hS b hb;omega:b<w2.heap.size)) hgS a1 (hp.chg (B5<|AU dp)<|a0.drew.drew.sub<|AX hgS) oM oM oM (RN.ptr (Aw dp) (by decide) Ex.zero (ai.rn.chg (An<|Aw dp)<|a0.drew.drew.sub<|AX hgS) sD) ad hfn19c hvp oM (by have h9:=hvp.wf (ex.num).toNat oM (ex.pick).toNat oM;rw[show(xs.length:Int)=(p.getD (ex.num).toNat Fn.zero).params from by omega];exact h9) hxs oM) ?_
  rintro dj d7 ⟨d2,d8,da,db,rfl,a5,be,bf,au,bx,bz,c2⟩
  refine⟨_,rfl,?_⟩
  replace a5:=a5.of_drew
  replace a5:=a5.of_drew
  have c3:=a5.size
  have bg:Au [g] w d7:=a0.trans a5
  have cr:=ad.run g2 hgS a5
  have c4:=au.1
  exact Ac 1 Z<|A1<|Al<|Af [6] Z d2 Z ⟨d2,d8,da,db,rfl,bg,be,bf,(by first|assumption|exact hks _ oM),oM,oM,Tt⟩
 refine Am false Z Z (A6 ap) Aa<|Aj<|Ah Z<|A2<|A0<|bZ [0] Z ?_
 have bh:ex.kind=11:=by have h9:ex.kind=10∨ex.kind=11:=hkH;omega
 have hwl:=ML hwf bh
 refine Ac 1 Z<|A3 ?_
 refine B1 (S:=Nat×Value×List (Sr)×Nat×Int) (fun⟨i,vk,ks,s8,c8⟩=>([(7,vk),(10,zI (i:Int)),(0,zP g),(1,ve),(9,Ay a4 ((ex.num).toNat) 3)])) (fun⟨i,vk,ks,s8,c8⟩ W=>Au [g] w W∧BX W.heap g [pp,zI (n:Int),zI (s8:Int),zI c8]∧i≤(ex.count).toNat∧RN S (B3<|B3 rI) W.heap vk ks∧C5 vk∧ks.length=(p.getD (ex.num).toNat Fn.zero).outs.length∧BV n ks∧s8≤3000∧(0≤c8∧c8≤9)∧AH (go c9<|HN (fun a t=>Df n (E8 p n (ex.num).toNat) (p.getD (ex.num).toNat Fn.zero).outs a t) i xs s9) ks s8 c8) (fun⟨i,vk,ks,s8,c8⟩=>(ex.count).toNat-i) (0,vo,xs,s9,c9) ⟨rfl,rfl,rfl,rfl,rfl,trivial⟩ ⟨a0.drew,a1,oM,(by assumption),(by assumption),oM,(by assumption),oM,oM,(by exact Si Z)⟩ ?_
 clear a1 a0 b3 an ae
 rintro⟨i,vk,ks,s8,c8⟩ ρ31 d1 ⟨a2,a6,bi,hrk,hck,hkl,hks,bj,bk,hrl9⟩
 have c5:w.heap.size≤d1.heap.size:=a2.size
 have cs:=a6.lt
 refine A0<|bZ [0,0,0,0,2,0] Z<|Ad 2 Z<|AN (hex.isPtr) Z Aa<|AJ (p:=ve) 3 Du Z (a7 _<|a2.sub<|AX hgS) Aa<|Ai (p:=Ap ve 3) (.inr Z) (zI ex.count) AD Z ((a7 _<|a2.sub<|AX hgS).ld (i:=3) GS) Aa ?_
 by_cases av:(i:Int)<ex.count
 ·refine AG true Z Z (A5 av) Aa<|Aj<|Ag Z<|A2<|A0<|A3<|Ab _ [0,0,0,4,0] Z<|Ad 3 Z ?_
  refine AA 158 [] [] [zP g,Ay a4 ((ex.num).toNat) 3,vk] Z Z Vv Aa (Ts (ex.num).toNat (fun d9=>IH1 (ex.num).toNat oM d9) _ S g pp dp (n) (s8) (c8) (p) dp (Ay a4 ((ex.num).toNat) 3) (p.getD ((ex.num).toNat) Fn.zero) vk (ks) (fun b hb=>(by have:=hS b hb;omega:b<d1.heap.size)) hgS a6 (hp.chg (B5<|AU dp)<|a2.sub<|AX hgS) oM oM oM (RN.ptr (Av dp) (by decide) Fn.zero (a9.chg (An<|Av dp)<|a2.sub<|AX hgS) sD) hrk hck hvp oM (by intro k9 ay;have h9:=hvp.wf (ex.num).toNat oM k9 ay;rw[show(ks.length:Int)=(p.getD (ex.num).toNat Fn.zero).params from by omega];exact h9) hks (by intro k9 ay;have:=hvp.deep (ex.num).toNat oM k9 ay;omega) oM) ?_
  rintro dk dc ⟨dd,de,df,dg,rfl,aj,bl,ct,aa,c6,c7,ca⟩
  refine⟨_,rfl,?_⟩
  have cb:=aj.size
  have bm:Au [g] w dc:=a2.trans aj
  have cu:=hrk.run g2 hgS aj
  have cc:=aa.2.1
  have cd:=aa.2.2
  have ce:=aa.1
  exact Ac 1 Z<|Ab _ [0,0,0] Z<|Ad 1 Z<|AP ((i+1:Nat):Int) Z Z (Bl oM oM) Aa<|Ac 1 Z ⟨(i+1,dd,de,df,dg),_,rfl,zR,⟨bm,bl,oM,(by assumption),(by assumption),oM,(by assumption),oM,oM,(by exact Sh hrl9 (by assumption))⟩,zD⟩
 refine AG false Z Z (A6 av) Aa<|Aj<|Ah Z<|A4<|Ax<|Ax<|At<|bZ [0,0,0,0,2,0,2,0] Z<|Ad 2 Z<|AN (hex.isPtr) Z Aa<|AJ (p:=ve) 2 Dc Z (a7 _<|a2.sub<|AX hgS) Aa<|Ai (p:=Ap ve 2) (.inr Z) (zI ex.pick) AD Z ((a7 _<|a2.sub<|AX hgS).ld (i:=2) GS) Aa ?_
 refine AB (v:=vk) ((ex.pick).toNat) BH B8 Z Z hrk.slL oM sD Aa ?_
 obtain⟨ak,bn,aw⟩:=RN.getL (w:=d1) g1 [] (k:=(ex.pick).toNat) hrk sD
 have ax:=aw.lenL
 unfold maxLen at ax
 exact Ai (p:=Ay vk ((ex.pick).toNat) 1) (.inr Z) ak Bj Z (bn _<|Au.refl _ _) Aa<|Ac 1 Z<|A1<|Af [6] Z ak Z ⟨ak,ks.getD ((ex.pick).toNat) [],s8,c8,rfl,a2,a6,aw,(by first|assumption|exact hks _ oM),oM,oM,Tt⟩
theorem Tu (F d:Nat)(IH1:∀F',F'<F→∀d,SV F' d)(IH2:∀d',d'<d→SV F d'):SC F d:=by
 intro w S g pp dp n s0 c0 p ve ex vv env hS hgS a0 hp hn a1 a2 hex henv hqenv hvp hF hwf hse hdp hk
 exact IG w S F g pp dp n s0 c0 p d ve ex vv env hS hgS a0 hp hn a1 a2 hex henv hqenv hvp hF hwf hse hdp hk IH1 IH2
theorem Tv {p:Prop}(h:p:=by first|exact Ek hc00 hs1 oM oM ‹AH (go c0 (Cn _ _ (ex.kids.getD 0 _) _ _)) _ _ _› oM (by assumption)|exact El hc00 hs1 oM oM ‹AH (go c0 (Cn _ _ (ex.kids.getD 0 _) _ _)) _ _ _› oM (by assumption)):p:=h
theorem Nd {p:Prop}(h:p:=by have:=Dh (l:=ex.kids) (k:=0) oM;omega):p:=h
theorem II {p:Prop}(h:p:=by exact DG hwf oM oM):p:=h
theorem E2 {p:Prop}(h:p:=by simp[EX,EY]):p:=h
theorem IJ (w:World)(S:List Nat)(F:Nat)(g:Nat)(pp:Value)(dp n s0:Nat)(c0:Int)(p:List Fn)(dex:Nat)(ve:Value)(ex:Ex)(vv:Value)(env:List (Sr))(hS:∀b∈S,b<w.heap.size)(hgS:g∈S)(b0:BX w.heap g [pp,zI (n:Int),zI (s0:Int),zI c0])(hp:RN S (rP (Ki dp)) w.heap pp p)(hn:1≤n∧n≤13)(j2:s0≤3000)(j3:0≤c0∧c0≤9)(hex:RN S (rP (LK dex)) w.heap ve ex)(henv:RN S (B3 (B3 rI)) w.heap vv env)(hqenv:C5 vv)(hvp:H6 p)(hF:F≤p.length)(hwf:wf p (F:Int) ex (env.length:Int)=true)(hse:BV n env)(hdp:env.length+ex.deep≤1000000)(IH1:∀F',F'<F→∀d,SV F' d)(IH2:∀d',d'<dex→SV F d') :
  Calls Tryz.prog 221 #[zP g,ve,vv] w (fun e w'=>∃(v:Value) (x:Sr) (s1:Nat) (c1:Int),e=.returned v∧Au [g] w w'∧BX w'.heap g [pp,zI (n:Int),zI (s1:Int),zI c1]∧RN S (B3 rI) w'.heap v x∧Cf n x∧s1≤3000∧(0≤c1∧c1≤9)∧AH (go c0 (Cn n (E8 p n F) ex env s0)) x s1 c1):=by
 refine Aq [zP g,ve,vv] 186 Tryz.func221 Z Z sM ?_
 have bk:Au [g] w w:=Au.refl [g] w
 have f5:=henv.lenL
 unfold maxLen at f5
 have k9:=b0.lt
 have hdk:=DI ex
 refine cA Z<|A0<|bZ [0,0,0,2,0] Z<|Ad 1 Z<|AY Z Aa<|Ak (p:=zP g) 3 GP Z Z Aa<|Ai (p:=Ap (zP g) 3) (.inr Z) (zI c0) AD Z (b0.ldp (i:=3) sM) Aa ?_
 by_cases e8:c0≠((0:Nat):Int)
 ·refine AT true Z Z (A5 e8) Aa<|Aj<|Ag Z<|bZ [0,0,0,0,2,4,0] Z<|Ad 2 Z<|AY Z Aa<|Ak (p:=zP g) 3 GP Z Z Aa<|Ai (p:=Ap (zP g) 3) (.inr Z) (zI c0) AD Z (b0.ldp (i:=3) sM) Aa<|AA 250 [] [] [zP g,zI c0] Z Z Qp Aa (CY _ S g pp dp (n) (s0) (c0) (p) (c0) (fun b hb=>(by have:=hS b hb;omega:b<w.heap.size)) hgS b0 (hp.chg (B5<|AU dp)<|bk.sub<|AX hgS) oM oM oM oM oM) ?_
  rintro e2 w2 ⟨v2,x2,s2,c2,rfl,e9,i9,ia,d1,ib,ic,bl⟩
  refine⟨_,rfl,?_⟩
  have id:=e9.size
  have ie:Au [g] w w2:=bk.trans e9
  have ig:=d1.1
  have hfs:=bl.1
  have hff:=bl.2
  exact Ac 1 Z<|A1<|Al<|Af [6] Z v2 Z ⟨v2,x2,s2,c2,rfl,ie,i9,ia,(by assumption),oM,oM,(by rw[hff,if_neg oM];exact Dy oM)⟩
 refine AT false Z Z (A6 e8) Aa<|Aj<|Ah Z<|A2<|A0<|bZ [0,0,0,2,0] Z<|Ad 1 Z<|AY Z Aa<|Ak (p:=zP g) 2 KF Z Z Aa<|Ai (p:=Ap (zP g) 2) (.inr Z) (zI (s0:Int)) AD Z (b0.ldp (i:=2) sM) Aa ?_
 by_cases ea:(s0:Int)=((3000:Nat):Int)
 ·refine Am true Z Z (A5 ea) Aa<|Aj<|Ag Z<|bZ [0,4,0] Z<|Ad 1 Z<|AA 250 [] [] [zP g,zI ((7:Nat):Int)] Z Z Qp Aa (CY _ S g pp dp (n) (s0) (c0) (p) ((7:Nat):Int) (fun b hb=>(by have:=hS b hb;omega:b<w.heap.size)) hgS b0 (hp.chg (B5<|AU dp)<|bk.sub<|AX hgS) oM oM oM oM oM) ?_
  rintro e7 w7 ⟨v7,x7,s7,c7,rfl,eb,ih,ii,d2,ij,ik,bm⟩
  refine⟨_,rfl,?_⟩
  have il:=eb.size
  have im:Au [g] w w7:=bk.trans eb
  have io:=d2.1
  have hfs:=bm.1
  have hff:=bm.2
  exact Ac 1 Z<|A1<|Al<|Af [6] Z v7 Z ⟨v7,x7,s7,c7,rfl,im,ih,ii,(by assumption),oM,oM,(by rw[hff,if_pos oM];exact Cy oM oM)⟩
 refine Am false Z Z (A6 ea) Aa<|Aj<|Ah Z<|A2<|bZ [0,0,0,2,0,0,0,4] Z<|Ad 1 Z<|AY Z Aa<|Ak (p:=zP g) 2 KF Z Z Aa<|Ai (p:=Ap (zP g) 2) (.inr Z) (zI (s0:Int)) AD Z (b0.ldp (i:=2) sM) Aa<|AP ((s0+1:Nat):Int) Z Z (Bl oM oM) Aa<|AY Z Aa<|Ak (p:=zP g) 2 KF Z Z Aa (Be (k:=2) (w:=w) Hv Z Z ⟨rfl,rfl⟩ b0 sM Aa fun f0 bn ip a7=>?_)
 replace a7:BX f0.heap g [pp,zI (n:Int),zI ((s0+1:Nat):Int),zI c0]:=a7
 have a0:Au [g] w f0:=bk.trans bn
 have ec:=bn.size
 refine Aj<|A0<|bZ [0,0,0,2] Z ?_
 have hc00:c0=0:=by omega
 have hs1:s0+1≤3000:=by omega
 refine Ad 1 Z<|AN (hex.isPtr) Z Aa ?_
 obtain⟨cs12,d3,a2⟩:=RN.at (Aw _) hex
 obtain⟨dd12,a1,iq,rfl,a3⟩:=RX.of d3
 have bo:=a3.rn.lenle
 unfold maxLen at bo
 refine AJ (p:=ve) 0 Bf Z (a2 _<|a0.sub<|AX hgS) Aa<|Ai (p:=Ap ve 0) (.inr Z) (zI ex.kind) AD Z ((a2 _<|a0.sub<|AX hgS).ld (i:=0) E2) Aa<|Aj<|A3<|bZ [0,0] Z ?_
 by_cases bp:ex.kind=((1:Nat):Int)
 ·refine Am true Z Z (A5 bp) Aa<|Ac 1 Z<|Ag Z<|A0<|AO _ [0,0,0,1,0,0,0,1,3,0] mixed (by kernel_rfl) ?_
  have hwk:=OD hwf oM
  refine Ad 1 Z<|AN (hex.isPtr) Z Aa<|AJ (p:=ve) 1 BE Z (a2 _<|a0.drew.sub<|AX hgS) Aa<|Ai (p:=Ap ve 1) (.inl Z) (zI ex.num) AD Z ((a2 _<|a0.drew.sub<|AX hgS).ld (i:=1) E2) Aa<|Ad 1 Z<|AY Z Aa<|Ak (p:=zP g) 1 N5 Z Z Aa<|Ai (p:=Ap (zP g) 1) (.inl Z) (zI (n:Int)) Lk Z (a7.ldp (i:=1) sM) Aa ?_
  refine As 79 [] [] [zI ex.num,zI (n:Int)] Z Z XO Aa (EI _ _ (n) a3.rng.num sD oM) ?_
  rintro ka fx ⟨b1,rfl,ae,aa⟩
  refine⟨_,rfl,ae,?_⟩
  replace ae:=ae.of_drew
  have ed:=ae.size
  have d4:Au [g] w fx:=a0.ext ae
  have an:=a7.ext ae
  replace aa:=aa.low (B':=f0.heap.size)<|A7 _
  exact Ac 1 Z<|A1<|AC<|Al<|Af [6] Z b1 Z ⟨b1,cst n ex.num,s0+1,c0,rfl,d4,an,RN.of_fr1 aa fun b hb=>zH<|hS b hb,(by exact DT (Cm.2 oM)),oM,oM,(by exact Ei hc00 hs1 oM)⟩
 refine Am false Z Z (A6 bp) Aa<|Ac 1 Z<|Ah Z<|bZ [0,0] Z ?_
 by_cases bq:ex.kind=((2:Nat):Int)
 ·refine Am true Z Z (A5 bq) Aa<|Ac 1 Z<|Ag Z<|bZ [0,0,0,0,2,0,2,0] Z ?_
  have hwk:=OE hwf oM
  refine Ad 2 Z<|AN (hex.isPtr) Z Aa<|AJ (p:=ve) 1 BE Z (a2 _<|a0.sub<|AX hgS) Aa<|Ai (p:=Ap ve 1) (.inr Z) (zI ex.num) AD Z ((a2 _<|a0.sub<|AX hgS).ld (i:=1) E2) Aa<|AB (v:=vv) ((ex.num).toNat) BH B8 Z Z henv.slL oM sD Aa ?_
  obtain⟨ba,d5,br⟩:=RN.getL (w:=w) g1 [] (k:=(ex.num).toNat) henv sD
  have bs:=br.lenL
  unfold maxLen at bs
  exact Ai (p:=Ay vv ((ex.num).toNat) 1) (.inr Z) ba Bj Z (d5 _<|a0.sub<|AX hgS) Aa<|Ac 1 Z<|A1<|AC<|Al<|Af [6] Z ba Z ⟨ba,env.getD ((ex.num).toNat) [],s0+1,c0,rfl,a0,a7,br.chg g1<|a0.sub<|AX hgS,(by exact hse _ oM),oM,oM,(by exact Ej hc00 hs1 oM)⟩
 refine Am false Z Z (A6 bq) Aa<|Ac 1 Z<|Ah Z<|bZ [0,0] Z ?_
 by_cases bt:ex.kind=((7:Nat):Int)
 ·refine Am true Z Z (A5 bt) Aa<|Ac 1 Z<|Ag Z<|bZ [0,0,0,0,2,0,0,4,3,0] Z ?_
  have hwk:=OG hwf oM
  refine Ad 2 Z<|AN (hex.isPtr) Z Aa<|AJ (p:=ve) 4 B9 Z (a2 _<|a0.sub<|AX hgS) Aa<|Ai (p:=Ap ve 4) (.inr Z) a1 Bd Z ((a2 _<|a0.sub<|AX hgS).ld (i:=4) E2) Aa<|AB (v:=a1) 0 D1 Bk Z Z a3.rn.isSl Z sD Aa<|Ad 1 Z ?_
  refine AA 221 [] [] [zP g,Ay a1 0 5,vv] Z Z Hu Aa (IH2 dd12 oM _ S g pp dp (n) (s0+1) (c0) (p) (Ay a1 0 5) (ex.kids.getD 0 Ex.zero) vv (env) (fun b hb=>(by have:=hS b hb;omega:b<f0.heap.size)) hgS a7 (hp.chg (B5<|AU dp)<|a0.sub<|AX hgS) oM oM oM (RN.ptr (Aw dd12) (by decide) Ex.zero (a3.rn.chg (An<|Aw dd12)<|a0.sub<|AX hgS) sD) (henv.chg g2<|a0.sub<|AX hgS) hqenv hvp oM II hse Nd) ?_
  rintro kb fy ⟨fz,j8,j9,ja,rfl,bu,d6,bv,bw,ee,ef,eg⟩
  refine⟨_,rfl,?_⟩
  have eh:=bu.size
  have d7:Au [g] w fy:=a0.trans bu
  have ei:=bw.1
  refine As 165 [] [] [fz,zI ((1000002:Nat):Int)] Z Z Vw Aa (H0 _ _ _ _ (bv).rd oM oM) ?_
  rintro kc jb ⟨b2,rfl,aj,bb⟩
  refine⟨_,rfl,aj,?_⟩
  have ej:=aj.size
  have d8:Au [g] w jb:=d7.ext aj
  have ao:=d6.ext aj
  have ir:=bv.ext g1 aj
  exact Ac 1 Z<|A1<|AC<|Al<|Af [6] Z b2 Z ⟨b2,scl j8 ((1000002:Nat):Int),j9,ja,rfl,d8,ao,RN.of_fr1 bb fun b hb=>zH<|hS b hb,(by rw[P8];exact KQ (by assumption)),oM,oM,(by exact GK hc00 hs1 oM (Xw oM ‹AH (go c0<|Cn _ _ (ex.kids.getD 0 _) _ _) _ _ _›) (fun h0=>by rw[h0,P8];exact FT oM) (fun _=>rfl))⟩
 refine Am false Z Z (A6 bt) Aa<|Ac 1 Z<|Ah Z<|bZ [0,0] Z ?_
 by_cases bx:ex.kind=((8:Nat):Int)
 ·refine Am true Z Z (A5 bx) Aa<|Ac 1 Z<|Ag Z<|A0<|bZ [0,0,0,0,2,0,0,4,0,2,0] Z ?_
  have hwk:=RH hwf oM
  refine Ad 2 Z<|AN (hex.isPtr) Z Aa<|AJ (p:=ve) 4 B9 Z (a2 _<|a0.sub<|AX hgS) Aa<|Ai (p:=Ap ve 4) (.inr Z) a1 Bd Z ((a2 _<|a0.sub<|AX hgS).ld (i:=4) E2) Aa<|AB (v:=a1) 0 D1 Bk Z Z a3.rn.isSl Z sD Aa<|Ad 1 Z ?_
  refine AA 221 [] [] [zP g,Ay a1 0 5,vv] Z Z Hu Aa (IH2 dd12 oM _ S g pp dp (n) (s0+1) (c0) (p) (Ay a1 0 5) (ex.kids.getD 0 Ex.zero) vv (env) (fun b hb=>(by have:=hS b hb;omega:b<f0.heap.size)) hgS a7 (hp.chg (B5<|AU dp)<|a0.sub<|AX hgS) oM oM oM (RN.ptr (Aw dd12) (by decide) Ex.zero (a3.rn.chg (An<|Aw dd12)<|a0.sub<|AX hgS) sD) (henv.chg g2<|a0.sub<|AX hgS) hqenv hvp oM II hse Nd) ?_
  rintro kd f7 ⟨fg,fh,fi,fj,rfl,bz,c3,ap,c4,ek,el,en⟩
  refine⟨_,rfl,?_⟩
  have eo:=bz.size
  have a5:Au [g] w f7:=a0.trans bz
  have ep:=c4.1
  refine AB (v:=fg) 0 Bt BT Z Z ap.slL Z sD Aa ?_
  have d9:=RN.getI (w:=f7) (k:=0) ap sD
  refine Ai (p:=Ay fg 0 1) (.inr Z) (zI<|fh.getD 0 0) AD Z (d9.1 _<|Au.refl _ _) Aa ?_
  by_cases c5:fh.getD 0 0=((0:Nat):Int)
  ·refine Am true Z Z (A5 c5) Aa<|Aj<|Ag Z<|bZ [0,0,0,0,2,0,0,4,0] Z<|Ad 2 Z<|AN (hex.isPtr) Z Aa<|AJ (p:=ve) 4 B9 Z (a2 _<|a5.sub<|AX hgS) Aa<|Ai (p:=Ap ve 4) (.inr Z) a1 Bd Z ((a2 _<|a5.sub<|AX hgS).ld (i:=4) E2) Aa<|AB (v:=a1) 1 D1 Bk Z Z a3.rn.isSl Z sD Aa ?_
   refine Ad 1 Z ?_
   refine AA 221 [] [] [zP g,Ay a1 1 5,vv] Z Z Hu Aa (IH2 dd12 oM _ S g pp dp (n) (fi) (fj) (p) (Ay a1 1 5) (ex.kids.getD 1 Ex.zero) vv (env) (fun b hb=>(by have:=hS b hb;omega:b<f7.heap.size)) hgS c3 (hp.chg (B5<|AU dp)<|a5.sub<|AX hgS) oM oM oM (RN.ptr (Aw dd12) (by decide) Ex.zero (a3.rn.chg (An<|Aw dd12)<|a5.sub<|AX hgS) sD) (henv.chg g2<|a5.sub<|AX hgS) hqenv hvp oM II hse (zH<|Dh (l:=ex.kids) (k:=1) oM)) ?_
   rintro ke jc ⟨fk,jd,je,jf,rfl,bc,da,db,c6,eq,er,es⟩
   refine⟨_,rfl,?_⟩
   have et:=bc.size
   have dc:Au [g] w jc:=a5.trans bc
   have is:=ap.run g1 hgS bc
   have eu:=c6.1
   exact Ac 1 Z<|A1<|Al<|AC<|Al<|Af [6] Z fk Z ⟨fk,jd,je,jf,rfl,dc,da,db,(by assumption),oM,oM,Tv⟩
  refine Am false Z Z (A6 c5) Aa<|Aj<|Ah Z<|A2<|bZ [0,0,0,0,2,0,0,4,0] Z<|Ad 2 Z<|AN (hex.isPtr) Z Aa<|AJ (p:=ve) 4 B9 Z (a2 _<|a5.sub<|AX hgS) Aa<|Ai (p:=Ap ve 4) (.inr Z) a1 Bd Z ((a2 _<|a5.sub<|AX hgS).ld (i:=4) E2) Aa ?_
  refine AB (v:=a1) 2 D1 Bk Z Z a3.rn.isSl Z sD Aa<|Ad 1 Z ?_
  refine AA 221 [] [] [zP g,Ay a1 2 5,vv] Z Z Hu Aa (IH2 dd12 oM _ S g pp dp (n) (fi) (fj) (p) (Ay a1 2 5) (ex.kids.getD 2 Ex.zero) vv (env) (fun b hb=>(by have:=hS b hb;omega:b<f7.heap.size)) hgS c3 (hp.chg (B5<|AU dp)<|a5.sub<|AX hgS) oM oM oM (RN.ptr (Aw dd12) (by decide) Ex.zero (a3.rn.chg (An<|Aw dd12)<|a5.sub<|AX hgS) sD) (henv.chg g2<|a5.sub<|AX hgS) hqenv hvp oM II hse (zH<|Dh (l:=ex.kids) (k:=2) oM)) ?_
  rintro kf jg ⟨fl,jh,ji,jj,rfl,bd,dd,de,c8,ev,ew,ey⟩
  refine⟨_,rfl,?_⟩
  have ez:=bd.size
  have df:Au [g] w jg:=a5.trans bd
  have it:=ap.run g1 hgS bd
  have g0:=c8.1
  exact Ac 1 Z<|A1<|AC<|Al<|Af [6] Z fl Z ⟨fl,jh,ji,jj,rfl,df,dd,de,(by assumption),oM,oM,Tv⟩
 refine Am false Z Z (A6 bx) Aa<|Ac 1 Z<|Ah Z<|bZ [0,0] Z ?_
 by_cases c9:ex.kind=((9:Nat):Int)
 ·refine Am true Z Z (A5 c9) Aa<|Ac 1 Z<|Ag Z<|bZ [0,0,0,0,2,0,0,4,0] Z ?_
  have hwk:=OF hwf oM
  refine Ad 2 Z<|AN (hex.isPtr) Z Aa<|AJ (p:=ve) 4 B9 Z (a2 _<|a0.sub<|AX hgS) Aa<|Ai (p:=Ap ve 4) (.inr Z) a1 Bd Z ((a2 _<|a0.sub<|AX hgS).ld (i:=4) E2) Aa<|AB (v:=a1) 0 D1 Bk Z Z a3.rn.isSl Z sD Aa<|Ad 1 Z ?_
  refine AA 221 [] [] [zP g,Ay a1 0 5,vv] Z Z Hu Aa (IH2 dd12 oM _ S g pp dp (n) (s0+1) (c0) (p) (Ay a1 0 5) (ex.kids.getD 0 Ex.zero) vv (env) (fun b hb=>(by have:=hS b hb;omega:b<f0.heap.size)) hgS a7 (hp.chg (B5<|AU dp)<|a0.sub<|AX hgS) oM oM oM (RN.ptr (Aw dd12) (by decide) Ex.zero (a3.rn.chg (An<|Aw dd12)<|a0.sub<|AX hgS) sD) (henv.chg g2<|a0.sub<|AX hgS) hqenv hvp oM II hse Nd) ?_
  rintro kg fm ⟨fo,fp,jk,jl,rfl,ca,dg,cb,cc,g3,g4,g5⟩
  refine⟨_,rfl,?_⟩
  have g6:=ca.size
  have aq:Au [g] w fm:=a0.trans ca
  have g7:=cc.1
  refine Ac 1 Z<|A0<|AO _ [0,0,0,0,1,0,0,0,3,4,0] mixed (by kernel_rfl)<|Ad 2 Z<|AN (hex.isPtr) Z Aa<|AJ (p:=ve) 4 B9 Z (a2 _<|aq.drew.sub<|AX hgS) Aa<|Ai (p:=Ap ve 4) (.inl Z) a1 Bd Z ((a2 _<|aq.drew.sub<|AX hgS).ld (i:=4) E2) Aa<|AB (v:=a1) 1 D1 Bk Z Z a3.rn.isSl Z sD Aa<|Ad 2 Z ?_
  refine As 251 [] [] [vv,fo] Z Z Zf Aa (M1 _ S vv (env) fo (fp) (fun b hb=>(by have:=hS b hb;omega:b<fm.heap.size)) (henv.chg g2<|aq.drew.sub<|AX hgS) hqenv cb oM) ?_
  rintro kh fq ⟨fr,rfl,ab,cd,ce⟩
  refine⟨_,rfl,ab,?_⟩
  replace ab:=ab.of_drew
  have g8:=ab.size
  have be:Au [g] w fq:=aq.ext ab
  have ar:=dg.ext ab
  have dh:=cb.ext g1 ab
  refine AA 221 [] [] [zP g,Ay a1 1 5,fr] Z Z Hu Aa (IH2 dd12 oM _ S g pp dp (n) (jk) (jl) (p) (Ay a1 1 5) (ex.kids.getD 1 Ex.zero) fr (env++[fp]) (fun b hb=>(by have:=hS b hb;omega:b<fq.heap.size)) hgS ar (hp.chg (B5<|AU dp)<|be.sub<|AX hgS) oM oM oM (RN.ptr (Aw dd12) (by decide) Ex.zero (a3.rn.chg (An<|Aw dd12)<|be.sub<|AX hgS) sD) cd ce hvp oM (by have h9:=JA hwf oM oM;rw[z4,zd];exact h9) (by exact hse.snoc (by assumption)) (by have:=Dh (l:=ex.kids) (k:=1) oM;rw[z4,zd];omega)) ?_
  rintro ki jm ⟨fs,jn,jo,jp,rfl,au,di,dj,cf,g9,ga,gb⟩
  refine⟨_,rfl,?_⟩
  have gc:=au.size
  have dk:Au [g] w jm:=be.trans au
  have iu:=dh.run g1 hgS au
  have iv:=cd.run g2 hgS au
  have gd:=cf.1
  exact Ac 1 Z<|A1<|AC<|Al<|Af [6] Z fs Z ⟨fs,jn,jo,jp,rfl,dk,di,dj,(by assumption),oM,oM,(by exact Em hc00 hs1 oM oM ‹AH (go c0<|Cn _ _ (ex.kids.getD 0 _) _ _) _ _ _› (by assumption))⟩
 refine Am false Z Z (A6 c9) Aa<|Ac 1 Z<|Ah Z<|A0<|bZ [0,0] Z ?_
 by_cases cg:ex.kind=((10:Nat):Int)
 ·refine Am true Z Z (A5 cg) Aa<|Ac 1 Z<|Ag Z<|A2<|Ag Z<|bZ [0,0,0,4,0] Z<|Ad 3 Z<|AA 252 [] [] [zP g,ve,vv] Z Z VE Aa (Tu F dex IH1 IH2 _ S g pp dp (n) (s0+1) (c0) (p) ve (ex) vv (env) (fun b hb=>(by have:=hS b hb;omega:b<f0.heap.size)) hgS a7 (hp.chg (B5<|AU dp)<|a0.sub<|AX hgS) oM oM oM (hex.chg (B5<|Aw dex)<|a0.sub<|AX hgS) (henv.chg g2<|a0.sub<|AX hgS) hqenv hvp oM hwf hse oM oM) ?_
  rintro kj jq ⟨ft,jr,js,jt,rfl,ch,dl,dm,ci,ge,gf,gg⟩
  refine⟨_,rfl,?_⟩
  have gh:=ch.size
  have dn:Au [g] w jq:=a0.trans ch
  have gi:=ci.1
  exact Ac 1 Z<|A1<|AC<|Al<|Af [6] Z ft Z ⟨ft,jr,js,jt,rfl,dn,dl,dm,(by assumption),oM,oM,(by exact Ml hc00 hs1 oM (by assumption))⟩
 refine Am false Z Z (A6 cg) Aa<|Ac 1 Z<|Ah Z<|Ab _ [0,0] Z ?_
 by_cases cj:ex.kind=((11:Nat):Int)
 ·refine Am true Z Z (A5 cj) Aa<|Ac 1 Z<|Ag Z<|bZ [0,0,0,4,0] Z<|Ad 3 Z<|AA 252 [] [] [zP g,ve,vv] Z Z VE Aa (Tu F dex IH1 IH2 _ S g pp dp (n) (s0+1) (c0) (p) ve (ex) vv (env) (fun b hb=>(by have:=hS b hb;omega:b<f0.heap.size)) hgS a7 (hp.chg (B5<|AU dp)<|a0.sub<|AX hgS) oM oM oM (hex.chg (B5<|Aw dex)<|a0.sub<|AX hgS) (henv.chg g2<|a0.sub<|AX hgS) hqenv hvp oM hwf hse oM oM) ?_
  rintro kk ju ⟨fu,jv,jw,jx,rfl,ck,dq,dr,cl,gj,gk,gl⟩
  refine⟨_,rfl,?_⟩
  have gm:=ck.size
  have ds:Au [g] w ju:=a0.trans ck
  have gn:=cl.1
  exact Ac 1 Z<|A1<|AC<|Al<|Af [6] Z fu Z ⟨fu,jv,jw,jx,rfl,ds,dq,dr,(by assumption),oM,oM,(by exact Ml hc00 hs1 oM (by assumption))⟩
 refine Am false Z Z (A6 cj) Aa<|Ac 1 Z<|Ah Z<|A2<|bZ [0,0,0,0,2,0,0,4,0] Z ?_
 have hkk:ex.kind=3∨ex.kind=4∨ex.kind=5∨ex.kind=6:=Xe hwf oM
 have j4:ex.kids.length=2:=JB hwf hkk
 have j5:=Dh (l:=ex.kids) (k:=0) oM
 have j6:=Dh (l:=ex.kids) (k:=1) oM
 refine Ad 2 Z<|AN (hex.isPtr) Z Aa<|AJ (p:=ve) 4 B9 Z (a2 _<|a0.sub<|AX hgS) Aa<|Ai (p:=Ap ve 4) (.inr Z) a1 Bd Z ((a2 _<|a0.sub<|AX hgS).ld (i:=4) E2) Aa<|AB (v:=a1) 0 D1 Bk Z Z a3.rn.isSl Z sD Aa<|Ad 1 Z ?_
 refine AA 221 [] [] [zP g,Ay a1 0 5,vv] Z Z Hu Aa (IH2 dd12 oM _ S g pp dp (n) (s0+1) (c0) (p) (Ay a1 0 5) (ex.kids.getD 0 Ex.zero) vv (env) (fun b hb=>(by have:=hS b hb;omega:b<f0.heap.size)) hgS a7 (hp.chg (B5<|AU dp)<|a0.sub<|AX hgS) oM oM oM (RN.ptr (Aw dd12) (by decide) Ex.zero (a3.rn.chg (An<|Aw dd12)<|a0.sub<|AX hgS) sD) (henv.chg g2<|a0.sub<|AX hgS) hqenv hvp oM II hse Nd) ?_
 rintro kl fv ⟨f8,f9,jy,jz,rfl,cm,dt,du,b3,gp,gq,cn⟩
 refine⟨_,rfl,?_⟩
 have gr:=cm.size
 have af:Au [g] w fv:=a0.trans cm
 have gs:=b3.1
 have hra:=cn
 have co:=b3
 refine Ac 1 Z<|bZ [0,0,0,0,2,0,0,4,0] Z<|Ad 2 Z<|AN (hex.isPtr) Z Aa<|AJ (p:=ve) 4 B9 Z (a2 _<|af.sub<|AX hgS) Aa<|Ai (p:=Ap ve 4) (.inr Z) a1 Bd Z ((a2 _<|af.sub<|AX hgS).ld (i:=4) E2) Aa<|AB (v:=a1) 1 D1 Bk Z Z a3.rn.isSl Z sD Aa<|Ad 1 Z ?_
 refine AA 221 [] [] [zP g,Ay a1 1 5,vv] Z Z Hu Aa (IH2 dd12 oM _ S g pp dp (n) (jy) (jz) (p) (Ay a1 1 5) (ex.kids.getD 1 Ex.zero) vv (env) (fun b hb=>(by have:=hS b hb;omega:b<fv.heap.size)) hgS dt (hp.chg (B5<|AU dp)<|af.sub<|AX hgS) oM oM oM (RN.ptr (Aw dd12) (by decide) Ex.zero (a3.rn.chg (An<|Aw dd12)<|af.sub<|AX hgS) sD) (henv.chg g2<|af.sub<|AX hgS) hqenv hvp oM II hse (zH<|Dh (l:=ex.kids) (k:=1) oM)) ?_
 rintro km fa ⟨f3,f1,f4,f2,rfl,bf,ac,a6,b4,gt,gu,cp⟩
 refine⟨_,rfl,?_⟩
 have gv:=bf.size
 have a4:Au [g] w fa:=af.trans bf
 have a8:=du.run g1 hgS bf
 have cq:=b4.1
 have hrb:=cp
 have j7:=b4
 have hlb:=cq
 have hzz:f1.getD 0 0=0∨¬f1.getD 0 0=0:=Decidable.em _
 refine Ac 1 Z<|A0<|A3<|bZ [0,0,0,2,0,0] Z<|Ad 1 Z<|AN (hex.isPtr) Z Aa<|AJ (p:=ve) 0 Bf Z (a2 _<|a4.sub<|AX hgS) Aa<|Ai (p:=Ap ve 0) (.inr Z) (zI ex.kind) AD Z ((a2 _<|a4.sub<|AX hgS).ld (i:=0) E2) Aa ?_
 by_cases cr:ex.kind=((3:Nat):Int)
 ·refine Am true Z Z (A5 cr) Aa<|Ac 1 Z<|Ag Z<|bZ [0,0,3,0] Z<|Ad 2 Z<|As 253 [] [] [f8,f3] Z Z VF Aa (Ig _ _ _ _ _ (a8).rd (a6).rd oM oM) ?_
  rintro ko k0 ⟨b5,rfl,ag,bg⟩
  refine⟨_,rfl,ag,?_⟩
  have gw:=ag.size
  have dv:Au [g] w k0:=a4.ext ag
  have av:=ac.ext ag
  have iw:=a8.ext g1 ag
  have ix:=a6.ext g1 ag
  exact Ac 1 Z<|A1<|AC<|Al<|Af [6] Z b5 Z ⟨b5,Ce f9 f1,f4,f2,rfl,dv,av,RN.of_fr1 bg fun b hb=>zH<|hS b hb,(by exact Gk co),oM,oM,(by exact GK hc00 hs1 oM (JJ oM hra hrb) (fun h0=>by rw[h0];exact FQ oM) (fun _=>rfl))⟩
 refine Am false Z Z (A6 cr) Aa<|Ac 1 Z<|Ah Z<|bZ [0,0,0,2,0,0] Z<|Ad 1 Z<|AN (hex.isPtr) Z Aa<|AJ (p:=ve) 0 Bf Z (a2 _<|a4.sub<|AX hgS) Aa<|Ai (p:=Ap ve 0) (.inr Z) (zI ex.kind) AD Z ((a2 _<|a4.sub<|AX hgS).ld (i:=0) E2) Aa ?_
 by_cases cs:ex.kind=((4:Nat):Int)
 ·refine Am true Z Z (A5 cs) Aa<|Ac 1 Z<|Ag Z<|bZ [0,0,3,0] Z<|Ad 2 Z<|As 254 [] [] [f8,f3] Z Z Zg Aa (LY _ _ _ _ _ (a8).rd (a6).rd oM oM oM) ?_
  rintro kp k1 ⟨b6,rfl,ah,bh⟩
  refine⟨_,rfl,ah,?_⟩
  have gx:=ah.size
  have dw:Au [g] w k1:=a4.ext ah
  have aw:=ac.ext ah
  have iy:=a8.ext g1 ah
  have iz:=a6.ext g1 ah
  exact Ac 1 Z<|A1<|AC<|Al<|Af [6] Z b6 Z ⟨b6,EP f9 f1,f4,f2,rfl,dw,aw,RN.of_fr1 bh fun b hb=>zH<|hS b hb,(by exact KP co),oM,oM,(by exact GK hc00 hs1 oM (JJ oM hra hrb) (fun h0=>by rw[h0];exact FR oM) (fun _=>rfl))⟩
 refine Am false Z Z (A6 cs) Aa<|Ac 1 Z<|Ah Z<|bZ [0,0,0,2,0,0] Z<|Ad 1 Z<|AN (hex.isPtr) Z Aa<|AJ (p:=ve) 0 Bf Z (a2 _<|a4.sub<|AX hgS) Aa<|Ai (p:=Ap ve 0) (.inr Z) (zI ex.kind) AD Z ((a2 _<|a4.sub<|AX hgS).ld (i:=0) E2) Aa ?_
 by_cases ct:ex.kind=((5:Nat):Int)
 ·refine Am true Z Z (A5 ct) Aa<|Ac 1 Z<|Ag Z<|bZ [0,0,3,0] Z<|Ad 2 Z<|As 255 [] [] [f8,f3] Z Z Zh Aa (LZ _ _ _ _ _ (a8).rd (a6).rd oM oM) ?_
  rintro kq k2 ⟨b7,rfl,ai,bi⟩
  refine⟨_,rfl,ai,?_⟩
  have gy:=ai.size
  have dx:Au [g] w k2:=a4.ext ai
  have ax:=ac.ext ai
  have j0:=a8.ext g1 ai
  have j1:=a6.ext g1 ai
  exact Ac 1 Z<|A1<|AC<|Al<|Af [6] Z b7 Z ⟨b7,Cc f9 f1,f4,f2,rfl,dx,ax,RN.of_fr1 bi fun b hb=>zH<|hS b hb,(by exact Gl co),oM,oM,(by exact GK hc00 hs1 oM (JJ oM hra hrb) (fun h0=>by rw[h0];exact FS oM) (fun _=>rfl))⟩
 refine Am false Z Z (A6 ct) Aa<|Ac 1 Z<|Ah Z<|bZ [0,0,0,2,0,0,0,0,2,0,0,0] Z<|Ad 1 Z<|AY Z Aa<|Ak (p:=zP g) 3 GP Z Z Aa<|Ai (p:=Ap (zP g) 3) (.inr Z) (zI f2) AD Z (ac.ldp (i:=3) sM) Aa ?_
 by_cases cu:f2≠((0:Nat):Int)
 ·refine AT true Z Z (A5 cu) Aa<|Ac 7 Z<|Ag Z<|bZ [0,4,0] Z<|Ad 1 Z<|AA 250 [] [] [zP g,zI ((6:Nat):Int)] Z Z Qp Aa (CY _ S g pp dp (n) (f4) (f2) (p) ((6:Nat):Int) (fun b hb=>(by have:=hS b hb;omega:b<fa.heap.size)) hgS ac (hp.chg (B5<|AU dp)<|a4.sub<|AX hgS) oM oM oM oM oM) ?_
  rintro kr k3 ⟨fw,k4,k5,k6,rfl,ay,dy,dz,cv,gz,i0,b8⟩
  refine⟨_,rfl,?_⟩
  have i1:=ay.size
  have e0:Au [g] w k3:=a4.trans ay
  have i2:=a8.run g1 hgS ay
  have i3:=a6.run g1 hgS ay
  have i4:=cv.1
  have hfs:=b8.1
  have hff:=b8.2
  exact Ac 1 Z<|A1<|AC<|Al<|Af [6] Z fw Z ⟨fw,k4,k5,k6,rfl,e0,dy,dz,(by assumption),oM,oM,(by rw[hfs];exact GK hc00 hs1 oM (JJ oM hra hrb) (fun h0=>absurd h0 oM) (fun h0=>by rw[hff,if_neg h0]))⟩
 refine AT false Z Z (A6 cu) Aa<|Ad 2 Z<|AB (v:=f3) 0 Bt BT Z Z a6.slL Z (by rw[hlb];omega) (Ae (e:=175) Z Z Z) ?_
 have cw:=RN.getI (w:=fa) (k:=0) a6 (by rw[hlb];omega)
 refine Ai (p:=Ay f3 0 1) (.inr Z) (zI<|f1.getD 0 0) AD Z (cw.1 _<|Au.refl _ _) (Ae (e:=175) Z Z Z) ?_
 by_cases b9:f1.getD 0 0=((0:Nat):Int)
 ·refine Am true Z Z (A5 b9) (Ae (e:=175) Z Z Z)<|Ac 2 Z<|Ag Z<|bZ [0,4,0] Z<|Ad 1 Z<|AA 250 [] [] [zP g,zI ((6:Nat):Int)] Z Z Qp Aa (CY _ S g pp dp (n) (f4) (f2) (p) ((6:Nat):Int) (fun b hb=>(by have:=hS b hb;omega:b<fa.heap.size)) hgS ac (hp.chg (B5<|AU dp)<|a4.sub<|AX hgS) oM oM oM oM oM) ?_
  rintro k7 fb ⟨f6,fc,fd,fe,rfl,ad,cx,cy,bj,e1,e3,ak⟩
  refine⟨_,rfl,?_⟩
  have e4:=ad.size
  have cz:Au [g] w fb:=a4.trans ad
  have i5:=a8.run g1 hgS ad
  have i6:=a6.run g1 hgS ad
  have e5:=bj.1
  have hfs:=ak.1
  have hff:=ak.2
  exact Ac 1 Z<|A1<|AC<|Al<|Af [6] Z f6 Z ⟨f6,fc,fd,fe,rfl,cz,cx,cy,(by assumption),oM,oM,(by rw[hfs];exact GK hc00 hs1 oM (JJ oM hra hrb) (fun h0=>by rw[hff,if_pos h0];exact En (xs:=[_,_]) oM (hzz.resolve_right oM)) (fun h0=>by rw[hff,if_neg h0]))⟩
 refine Am false Z Z (A6 b9) (Ae (e:=175) Z Z Z)<|Ac 2 Z<|Ah Z<|A2<|bZ [0,0,3,0] Z<|Ad 2 Z<|As 256 [] [] [f8,f3] Z Z Zi Aa (M0 _ _ _ _ _ (a8).rd (a6).rd oM oM oM co.2) ?_
 rintro k8 ff ⟨al,rfl,a9,az⟩
 refine⟨_,rfl,a9,?_⟩
 have e6:=a9.size
 have d0:Au [g] w ff:=a4.ext a9
 have am:=ac.ext a9
 have i7:=a8.ext g1 a9
 have i8:=a6.ext g1 a9
 exact Ac 1 Z<|A1<|Af [6] Z al Z ⟨al,BM f9 f1,f4,f2,rfl,d0,am,RN.of_fr1 az fun b hb=>zH<|hS b hb,(by exact Ff co),oM,oM,(by exact GK hc00 hs1 oM (JJ oM hra hrb) (fun h0=>by rw[h0];exact FU (xs:=[_,_]) oM (hzz.resolve_left oM)) (fun _=>rfl))⟩
theorem UL:∀F d,SV F d:=by
  intro F
  induction F using Nat.strongRecOn with
  |_ F ihF =>
    intro d
    induction d using Nat.strongRecOn with
    |_ d ihd =>
      intro w S g pp dp n s0 c0 p ve ex vv env hS hgS hB0 hp hn hs0 hc0 hex henv hqenv hvp hF hwf hse hdp
      exact IJ w S F g pp dp n s0 c0 p d ve ex vv env hS hgS hB0 hp hn hs0 hc0 hex henv hqenv hvp hF hwf hse hdp ihF ihd
theorem XW (F:Nat):SO F:=Ts F fun d=>UL F d
theorem VP {p:Prop}(h:p:=by unfold maxLen;first|omega|assumption|(simp only[zb,z9,z4,z6,z5];omega)|(simp[zb,z9,z4,z6,z5];done)|(simp[zb,z9,z4,z6,z5];omega)):p:=h
theorem LB (w:World)(dp:Nat)(vp:Value)(p:List Fn)(f:Int)(va:Value)(a:Sr)(hp:RN [] (rP (Ki dp)) w.heap vp p)(_hf:Bx f)(ha:Rd (B3 rI) w.heap va a)(hvp:H6 p)(hf:0≤f∧f<(p.length:Int))(hl:(a.length:Int)=(p.getD f.toNat Fn.zero).params)(hna:B2 a=true) :
  Calls Tryz.prog 75 #[vp,zI f,va] w (fun e w'=>∃v0:Value,e=.returned (.tuple #[v0,zI ((Ok p 1 f.toNat (CO a):Nat):Int),zI (G8 p f.toNat a)])∧AF w w'∧Fr (Bh rI 2) w.heap.size w'.heap.size w'.heap v0 (Oq p f.toNat a)∧QY p f.toNat a∧Ok p 1 f.toNat (CO a)≤3000):=by
 refine Aq [vp,zI f,va] 73 Tryz.func75 Z Z sM ?_
 have cb:AF w w:=AF.refl w
 have dh:=ha.lenle
 have dt:=hvp.par f.toNat oM
 have du:=hvp.outs f.toNat oM
 refine bZ [0,0,0] Z<|Ac 3 Z<|bZ [0,0,3,0] Z<|Ad 1 Z ?_
 have bm:∀(vp:Value) (ap:∃b o,vp=.pointer (some ⟨b,o,none⟩)) (wq:World),(Instr.build 187 #[(0,vp),(1,zI ((1:Nat):Int))]).run Tryz.prog wq=.ok (.agg #[vp,zI ((1:Nat):Int),zI 0,zI 0]) wq:=by intro vp ap wq;obtain⟨b0,o0,rfl⟩:=ap;kernel_rfl
 refine C3 (ps:=#[(0,vp),(1,zI ((1:Nat):Int))]) (.agg #[vp,zI ((1:Nat):Int),zI 0,zI 0]) (by simp only[zc,zf,zh];rfl) (fun wq=>bm vp hp.isPtr wq) Aa (Bu (cs:=#[vp,zI ((1:Nat):Int),zI 0,zI 0]) Z Aa fun w2 bn ct bo=>?_)
 have bp:=bn.size
 have bq:=cb.trans bn
 replace bo:BX w2.heap w.heap.size [vp,zI ((1:Nat):Int),zI 0,zI 0]:=bo
 refine Ac 1 Z<|bZ [3,0] Z (CQ (Bh rI 2) o1 BH B8 Aa fun v3 w3 bj cu cc=>?_)
 have br:=bj.size
 have cd:=bq.trans bj
 have b3:=bo.ext bj
 refine Ac 1 Z<|A0<|cA Z<|A3 ?_
 refine B1 (S:=Nat×Value) (fun⟨k,vo⟩=>([(10,vo),(11,zI (k:Int)),(0,vp),(1,zI f),(2,va),(9,zP w.heap.size)])) (fun⟨k,vo⟩ W=>AF w W∧Fr (Bh (Bh rI 2) 27) w2.heap.size W.heap.size W.heap vo ((a.take k).map fun x=>[x])∧BX W.heap w.heap.size [vp,zI ((1:Nat):Int),zI 0,zI 0]∧k≤a.length∧w.heap.size<w2.heap.size∧w2.heap.size≤W.heap.size) (fun⟨k,vo⟩=>a.length-k) (0,v3) ⟨rfl,rfl,rfl,rfl,rfl,rfl,trivial⟩ ⟨cd,cc.up o2,b3,sD,oM,oM⟩ ?_
 clear cb ct bn cc cu bj br cd
 rintro⟨k,vo⟩ ρ5 w5 ⟨ag,a0,a2,ce,cv,cw⟩
 have bs:w.heap.size≤w5.heap.size:=ag.size
 have d9:=a2.lt
 refine A0<|bZ [0,0,0,0] Z<|Ad 2 Z<|AQ (v:=va) Bt Z ha.isSl Aa ?_
 by_cases cf:(k:Int)<(a.length:Int)
 ·refine AG true Z Z (A5 cf) Aa<|Aj<|Ag Z<|A2<|A0<|A3<|Ab _ [0,0,0,0,2,3,3,4,0] Z<|Ad 3 Z<|AB (v:=va) k Bt BT Z Z ha.isSl Z sD Aa ?_
  refine Ai (p:=Ay va k 1) (.inr Z) (zI<|a.getD k 0) AD Z (AZ ag (ha.getI sD).1) Aa ?_
  refine BI (u:=zI<|a.getD k 0) (B:=w5.heap.size) AR Bt BT Z Z (Ov w5.heap.size w5.heap.size _ _ (ha.getI sD).2) (A7 _) Aa fun v9 w9 bk da cx=>?_
  have cy:=bk.size
  have cz:=ag.trans bk
  have ah:=a0.ext (o2) bk
  have ai:=a2.ext bk
  refine BI (u:=v9) (B:=w5.heap.size) o1 BH B8 Z Z cx (by first|exact A7 _|omega) Aa fun dj dv aj d0 bt=>?_
  have cg:=aj.size
  have b4:=cz.trans aj
  have aa:=ah.ext (o2) aj
  have ab:=ai.ext aj
  refine Il o1 (v:=vo) (a:=dj) BH B8 Z Z Z aa oM bt oM oM sD VP Aa fun dk dm dw aw b5 bu=>?_
  have bv:AF w dm:=aw.below b4 (fun c hc=>A8 bq.size (b5 c hc).1) b4.size
  have ch:=aw.size
  have bw:=ab.chg aw fun hm=>zH<|b5 _ hm
  refine Ac 1 Z<|Ab _ [0,0,0] Z<|Ad 1 Z<|AP ((k+1:Nat):Int) Z Z (Bl oM sD) Aa<|Ac 1 Z ?_
  exact⟨(k+1,dk),_,rfl,zR,⟨bv,(by rw[Hj 0 oM];exact bu.up o2),bw,sD,oM,oM⟩,zD⟩
 refine AG false Z Z (A6 cf) Aa<|Aj<|Ah Z<|A4<|Ax<|Ax<|At<|bZ [0,0,0,0,2,0,0,0,4,0] Z ?_
 have henv:(a.take k).map (fun x=>[x])=CO a:=by rw[za oM];rfl
 have hle:((a.take k).map (fun x=>[x])).length=a.length:=by rw[henv];unfold CO;rw[zg]
 refine Ad 2 Z<|AN (hp.isPtr) Z Aa ?_
 obtain⟨cs13,bx,b6⟩:=RN.at (AU _) hp
 obtain⟨ak,rfl,ax⟩:=RPr.of bx
 have aq:=ax.lenle
 unfold maxLen at aq
 refine AJ (p:=vp) 0 Bv Z (b6 _<|Au.of_ext [] ag) Aa<|Ai (p:=Ap vp 0) (.inr Z) ak BY Z ((b6 _<|Au.of_ext [] ag).ld (i:=0) (by simp[EX,EY])) Aa<|Ad 1 Z<|AB (v:=ak) ((f).toNat) Gb Cj Z Z ax.isSl oM sD Aa<|Ad 1 Z ?_
 refine AA 158 [] [] [zP w.heap.size,Ay ak ((f).toNat) 3,vo] Z Z Vv Aa (XW f.toNat _ [w.heap.size] w.heap.size vp dp (1) (0) (0) (p) dp (Ay ak ((f).toNat) 3) (p.getD ((f).toNat) Fn.zero) vo ((a.take k).map fun x=>[x]) (fun b hb=>(by have:=A9 hb;omega:b<w5.heap.size)) (List.mem_singleton.2 Z) a2 ((hp.add (F:=[w.heap.size]) (B5<|AU dp) fun b hb=>zH<|A9 hb).ext (B5<|AU dp) ag) oM oM oM (RN.ptr (Av dp) (by decide) Fn.zero ((ax.add (F:=[w.heap.size]) (An<|Av dp) fun b hb=>zH<|A9 hb).ext (An<|Av dp) ag) sD) (RN.of_fr2 a0 fun b hb=>zH<|A9 hb) a0.cap hvp oM (by intro k9 bz;have h9:=hvp.wf f.toNat oM k9 bz;rw[hle];rw[hl];exact h9) (by rw[henv];exact CJ hna) (by intro k9 bz;have:=hvp.deep f.toNat oM k9 bz;omega) oM) ?_
 rintro dx db ⟨dd,dc,dg,de,rfl,al,ay,c0,ac,b7,b8,b9⟩
 refine⟨_,rfl,?_⟩
 have ci:=al.size
 have ad:AF w db:=al.below ag (fun b hb=>by have:b=w.heap.size:=(by simpa using hb);omega) ag.size
 have az:=a0.chg (o2) al fun _ h=>zA h
 have ar:=ac.2.1
 have au:=ac.2.2
 have cj:=ac.1
 have av:=c0.rt g2
 have hRL:=b9
 rw[henv]at hRL
 have hCB:=b8
 have hEP:=UT.mk' hRL hCB b7 ar au
 have hNP:=QY.mk' hEP
 have hST:=hEP.steps
 have hXS:=au
 have hXL:=ar
 refine Ac 1 Z<|A0<|bZ [0,0,0,2,0] Z<|Ad 1 Z<|AY Z Aa<|Ak (p:=zP w.heap.size) 3 GP Z Z Aa<|Ai (p:=Ap (zP w.heap.size) 3) (.inr Z) (zI de) AD Z (ay.ldp (i:=3) sM) Aa ?_
 by_cases ba:de≠((0:Nat):Int)
 ·refine AT true Z Z (A5 ba) Aa<|Aj<|Ag Z<|A0<|AO _ [3,0,0,0,1,0,0,0] mixed (by kernel_rfl) (CQ (rI) AR Bt BT Aa fun di dy a4 d1 c1=>?_)
  replace a4:=a4.of_drew
  have ck:=a4.size
  have c2:=ad.trans a4
  have bl:=az.ext (o2) a4
  have d2:=av.ext g2 a4
  exact Ad 1 Z<|AY Z Aa<|Ak (p:=zP w.heap.size) 3 GP Z Z Aa<|Ai (p:=Ap (zP w.heap.size) 3) (.inl Z) (zI de) AD Z (ay.ldp (i:=3) sM) Aa<|Ac 3 Z<|A1<|Al<|Af [6,7,8] Z (.tuple #[di,zI ((0:Nat):Int),zI de]) Z ⟨di,(by rw[PI<|Iu hRL oM,show G8 p f.toNat a=_ from Hq (Iu hRL oM)] <;> rfl),c2,(by rw[hNP.non (by rw[show G8 p f.toNat a=_ from Hq (Iu hRL oM)];omega)];exact(c1.up o1).low ad.size),hNP,hST⟩
 refine AT false Z Z (A6 ba) Aa<|Aj<|Ah Z<|A2<|bZ [3,0] Z (CQ (rI) AR Bt BT Aa fun dn dz a5 c3 bb=>?_)
 have bc:=a5.size
 have bd:=ad.trans a5
 have am:=az.ext (o2) a5
 have an:=ay.ext a5
 have d3:=av.ext g2 a5
 refine Ac 1 Z<|A0<|cA Z<|A3 ?_
 refine B1 (S:=Nat×Value) (fun⟨k,vo⟩=>([(13,vo),(14,zI (k:Int)),(9,zP w.heap.size),(12,dd)])) (fun⟨k,vo⟩ W=>AF w W∧Fr (Bh rI 2) db.heap.size W.heap.size W.heap vo (((dc).take k).map fun s=>s.getD 0 0)∧BX W.heap w.heap.size [vp,zI ((1:Nat):Int),zI (dg:Int),zI de]∧k≤(dc).length∧RT db.heap.size (B3<|B3 rI) W.heap dd dc∧db.heap.size≤W.heap.size∧w.heap.size<db.heap.size∧db.heap.size≤db.heap.size∧db.heap.size≤W.heap.size) (fun⟨k,vo⟩=>(dc).length-k) (0,dn) ⟨rfl,rfl,rfl,rfl,trivial⟩ ⟨bd,bb.up o1,an,sD,(by assumption),oM,oM,oM,oM⟩ ?_
 clear bp bq a2 a0 ag bs aq al az bb c3 a5 bc bd am
 rintro⟨k,vo⟩ ρ28 df ⟨b1,ae,a1,c4,a3,cl,cm,cn,co⟩
 have cp:w.heap.size≤df.heap.size:=b1.size
 have d4:=a1.lt
 refine A0<|bZ [0,0,0,0] Z<|Ad 2 Z<|AQ (v:=dd) BH Z a3.slL Aa ?_
 by_cases be:(k:Int)<(dc.length:Int)
 ·refine AG true Z Z (A5 be) Aa<|Aj<|Ag Z<|A2<|A0<|A3<|Ab _ [0,0,0,0,2,0,2,3,4,0] Z ?_
  have hkx:=hXS k oM
  have hkl:=hkx.1
  refine Ad 3 Z<|AB (v:=dd) k BH B8 Z Z a3.slL Z sD Aa ?_
  obtain⟨b2,c5,ao⟩:=RT.getL g1 [] (k:=k) a3 sD
  have bf:=ao.lenL
  unfold maxLen at bf
  refine Ai (p:=Ay dd k 1) (.inr Z) b2 Bj Z c5 Aa<|AB (v:=b2) 0 Bt BT Z Z ao.slL Z sD Aa ?_
  have bg:=RT.getI (k:=0) ao sD
  refine Ai (p:=Ay b2 0 1) (.inr Z) (zI<|(dc.getD k []).getD 0 0) AD Z bg.1 Aa (BI (u:=zI<|(dc.getD k []).getD 0 0) (B:=df.heap.size) AR Bt BT Z Z (Ov df.heap.size df.heap.size _ _ bg.2) (A7 _) Aa fun dq e0 a6 d5 bh=>?_)
  have cq:=a6.size
  have bi:=b1.trans a6
  have a7:=ae.ext (o1) a6
  have a8:=a1.ext a6
  have c6:=a3.ext g2 a6
  have c7:=ao.ext g1 a6
  refine FO (v:=vo) (a:=dq) Bt BT Z Z Z a7 oM bh.rd1 sD VP Aa fun dr ds e1 a9 af c8=>?_
  have c9:AF w ds:=a9.below bi (fun c hc=>A8 ad.size (af c hc).1) bi.size
  have cr:=a9.size
  have d6:=c6.chg g2 a9 fun c hc=>zH<|af c hc
  have d7:=c7.chg g1 a9 fun c hc=>zH<|af c hc
  have ca:=a8.chg a9 fun hm=>zH<|af _ hm
  have d8:=bh.chg (o1) a9 fun c hc=>zH<|af c hc
  refine Ac 1 Z<|Ab _ [0,0,0] Z<|Ad 1 Z<|AP ((k+1:Nat):Int) Z Z (Bl oM sD) Aa<|Ac 1 Z ?_
  exact⟨(k+1,dr),_,rfl,zR,⟨c9,(by rw[Hj [] oM];exact c8.up o1),ca,sD,(by assumption),oM,oM,oM,oM⟩,zD⟩
 refine AG false Z Z (A6 be) Aa<|Aj<|Ah Z<|A4<|Ax<|Ax<|At<|A0<|AO _ [0,0,0,0,1,0,0,0] mixed (by kernel_rfl)<|Ad 2 Z<|AY Z Aa<|Ak (p:=zP w.heap.size) 2 KF Z Z Aa<|Ai (p:=Ap (zP w.heap.size) 2) (.inl Z) (zI (dg:Int)) AD Z (a1.ldp (i:=2) sM) Aa<|Ac 3 Z<|A1 ?_
 exact Af [6,7,8] Z (.tuple #[vo,zI (dg:Int),zI ((0:Nat):Int)]) Z ⟨vo,(by rw[PH<|KR hRL oM,show G8 p f.toNat a=_ from KS (KR hRL oM)] <;> rfl),b1.drew,(by have h:=(ae.up o1).low ad.size;unfold Oq;rw[Jb<|KR hRL oM];rwa [za oM]at h),hNP,hST⟩
theorem bR {p:List Fn}{f:Int}(h:(decide (((0:Nat):Int)≤f) && decide (f≤((p.length:Nat):Int)-1))=false):Mm p f=false:=by
  have h':E7 f 0 (((p.length:Nat):Int)-1)=false:=h
  unfold Mm;rw[h',Bool.false_and]
theorem ZG {p:List Fn}{f:Int}(h:(decide (((0:Nat):Int)≤f) && decide (f≤((p.length:Nat):Int)-1))=true){b:Bool}(hb:b=(decide (1≤(p.getD f.toNat Fn.zero).params) && decide ((((p.getD f.toNat Fn.zero).outs.length:Nat):Int)=(p.getD f.toNat Fn.zero).params))):Mm p f=b:=by
  have h':E7 f 0 (((p.length:Nat):Int)-1)=true:=h
  unfold Mm;rw[h',hb,Bool.true_and]
theorem P9 {p:Prop}(h:p:=by first|exact AI (bR (CX (by assumption))).symm|exact AI (ZG (Do (by assumption)) (by rw[A5 (show 1≤(p.getD f.toNat Fn.zero).params by omega),Bool.true_and])).symm|exact AI (ZG (Do (by assumption)) (by rw[A6 (show ¬1≤(p.getD f.toNat Fn.zero).params by omega),Bool.false_and])).symm):p:=h
theorem IK {p:Prop}(h:p:=by simp[EX,EY]):p:=h
theorem Kf (w:World)(dp:Nat)(vp:Value)(p:List Fn)(f:Int)(hp:RN [] (rP (Ki dp)) w.heap vp p)(_hf:Bx f)(hz:PJ p) :
  Calls Tryz.prog 139 #[vp,zI f] w (fun e w'=>e=.returned (.bool (Mm p f))∧AF w w'):=by
 refine Aq [vp,zI f] 43 Tryz.func139 Z Z sM ?_
 have a0:AF w w:=AF.refl w
 refine cA Z<|A0<|bZ [0,0,0,0,2,0,0,0,0] Z<|Ad 2 Z<|AN (hp.isPtr) Z Aa ?_
 obtain⟨cs1,ab,a2⟩:=RN.at (AU _) hp
 obtain⟨a1,rfl,a3⟩:=RPr.of ab
 have a5:=a3.lenle
 unfold maxLen at a5
 refine AJ (p:=vp) 0 Bv Z (a2 _<|Au.of_ext [] a0) Aa<|Ai (p:=Ap vp 0) (.inr Z) a1 BY Z ((a2 _<|Au.of_ext [] a0).ld (i:=0) IK) Aa<|AQ (v:=a1) Gb Z a3.isSl Aa<|Bs ((p.length:Int)-1) Z Z (Da oM oM) Aa<|Az 74 [] [] [zI f,zI ((0:Nat):Int),zI ((p.length:Int)-1)] Z Z IA Aa (.bool (decide (((0:Nat):Int)≤f) && decide (f≤((p.length:Int)-1)))) (fun wq=>Bw wq _ _ _ _hf oM oM)<|Bn (!(decide (((0:Nat):Int)≤f) && decide (f≤((p.length:Int)-1)))) Z Z Aa<|Aj ?_
 cases a7:(!(decide (((0:Nat):Int)≤f) && decide (f≤((p.length:Int)-1))))
 ·refine Ah (by first|rfl|exact zW a7)<|A2<|A0<|AO _ [0,0,0,1,0,0,0,1,0,0,0,0,0,1,0,0,0,1,0,0,0,0,1,0,0,0,1,0,0,0] mixed (by kernel_rfl) ?_
  have ad:=HB (Do (by assumption):(decide (((0:Nat):Int)≤f) && decide (f≤(p.length:Int)-1))=true)
  refine Ad 1 Z<|AN (hp.isPtr) Z Aa<|AJ (p:=vp) 0 Bv Z (a2 _<|Au.of_ext [] a0.drew) Aa<|Ai (p:=Ap vp 0) (.inl Z) a1 BY Z ((a2 _<|Au.of_ext [] a0.drew).ld (i:=0) IK) Aa<|Ad 1 Z<|AB (v:=a1) ((f).toNat) Gb Cj Z Z a3.isSl oM sD Aa ?_
  obtain⟨cs4,ac,a4⟩:=a3.get (Av dp) Fn.zero (k:=(f).toNat) sD
  obtain⟨a8,rfl,a9⟩:=RF.of ac
  have a6:=a9.rn.lenle
  unfold maxLen at a6
  refine AJ (p:=Ay a1 ((f).toNat) 3) 1 C2 Z (a4 _<|Au.of_ext [] a0.drew) Aa<|Ai (p:=Ap (Ay a1 ((f).toNat) 3) 1) (.inl Z) (zI<|(p.getD ((f).toNat) Fn.zero).params) AD Z ((a4 _<|Au.of_ext [] a0.drew).ld (i:=1) IK) Aa ?_
  by_cases aa:((1:Nat):Int)≤(p.getD ((f).toNat) Fn.zero).params
  ·refine Dv true Z Z (A5 aa) Aa<|Ad 2 Z<|AN (hp.isPtr) Z (Ae (e:=23) Z Z Z)<|AJ (p:=vp) 0 Bv Z (a2 _<|Au.of_ext [] a0.drew) (Ae (e:=23) Z Z Z)<|Ai (p:=Ap vp 0) (.inl Z) a1 BY Z ((a2 _<|Au.of_ext [] a0.drew).ld (i:=0) IK) (Ae (e:=23) Z Z Z)<|Ad 1 Z ?_
   refine AB (v:=a1) ((f).toNat) Gb Cj Z Z a3.isSl oM sD (Ae (e:=23) Z Z Z)<|AJ (p:=Ay a1 ((f).toNat) 3) 2 BL Z (a4 _<|Au.of_ext [] a0.drew) (Ae (e:=23) Z Z Z)<|Ai (p:=Ap (Ay a1 ((f).toNat) 3) 2) (.inl Z) a8 Bd Z ((a4 _<|Au.of_ext [] a0.drew).ld (i:=2) IK) (Ae (e:=23) Z Z Z)<|AQ (v:=a8) D1 Z a9.rn.isSl (Ae (e:=23) Z Z Z)<|Ad 1 Z ?_
   refine AN (hp.isPtr) Z (Ae (e:=23) Z Z Z)<|AJ (p:=vp) 0 Bv Z (a2 _<|Au.of_ext [] a0.drew) (Ae (e:=23) Z Z Z)<|Ai (p:=Ap vp 0) (.inl Z) a1 BY Z ((a2 _<|Au.of_ext [] a0.drew).ld (i:=0) IK) (Ae (e:=23) Z Z Z)<|Ad 1 Z<|AB (v:=a1) ((f).toNat) Gb Cj Z Z a3.isSl oM sD (Ae (e:=23) Z Z Z) ?_
   refine AJ (p:=Ay a1 ((f).toNat) 3) 1 C2 Z (a4 _<|Au.of_ext [] a0.drew) (Ae (e:=23) Z Z Z)<|Ai (p:=Ap (Ay a1 ((f).toNat) 3) 1) (.inl Z) (zI<|(p.getD ((f).toNat) Fn.zero).params) AD Z ((a4 _<|Au.of_ext [] a0.drew).ld (i:=1) IK) (Ae (e:=23) Z Z Z)<|Am (decide (((((p.getD ((f).toNat) Fn.zero).outs).length:Nat):Int)=(p.getD ((f).toNat) Fn.zero).params)) Z Z Z (Ae (e:=23) Z Z Z)<|Ac 2 Z<|A1 ?_
   exact Af [4] Z (.bool<|decide (((((p.getD ((f).toNat) Fn.zero).outs).length:Nat):Int)=(p.getD ((f).toNat) Fn.zero).params)) Z ⟨P9,a0.drew⟩
  exact Dv false Z Z (A6 aa) Aa<|Ac 21 Z<|A1<|Af [4] Z (.bool false) Z ⟨P9,a0.drew⟩
 exact Ag (by first|rfl|exact zW a7)<|cA Z<|A1<|Al<|Af [4] Z (.bool false) Z ⟨P9,a0⟩
theorem bS {p:List Fn}{f n:Int}{a:Sr}(h:G7 p=false):1=Hs p f a n:=by
  have:EQ p f [a]=1:=by unfold EQ;rw[h];rfl
  unfold Hs;rw[this];rfl
theorem bT {p:List Fn}{f n:Int}{a:Sr}(h:G7 p=true)(h2:Mm p f=false):2=Hs p f a n:=by
  have:EQ p f [a]=2:=by unfold EQ;rw[if_pos h,h2];rfl
  unfold Hs;rw[this];rfl
theorem ZH {p:List Fn}{f:Int}{a:Sr}(h:G7 p=true)(h2:Mm p f=true):EQ p f [a]=if (decide (((a.length:Nat):Int)=(p.getD f.toNat Fn.zero).params) && B2 a)=true then 0 else 2:=by
  unfold EQ;rw[if_pos h,if_pos h2,List.all_cons,List.all_nil,Bool.and_true]
theorem UM {p:List Fn}{f n:Int}{a:Sr}{x:Bool}(hx:(decide (((a.length:Nat):Int)=(p.getD f.toNat Fn.zero).params) && B2 a)=x)(h:G7 p=true)(h2:Mm p f=true)(h3:E7 n 0 40=false∨x=false):2=Hs p f a n:=by
  unfold Hs
  rw[ZH h h2,hx]
  cases x with
  |false=>rfl
  |true=>rw[h3.resolve_right (by simp)];rfl
theorem bU {p:List Fn}{f n:Int}{a:Sr}(h:G7 p=true)(h2:Mm p f=true)(h3:E7 n 0 40=true)(h4:((a.length:Nat):Int)=(p.getD f.toNat Fn.zero).params)(h5:B2 a=true):0=Hs p f a n:=by
  unfold Hs
  rw[ZH h h2,A5 h4,h5,h3];rfl
theorem HF {p:Prop}(h:p:=by first|exact B4 (bS (CX (by assumption)))|exact B4 (bT (Do (by assumption)) (CX (by assumption)))|exact B4 (UM Z (Do (by assumption)) (Do (by assumption)) (.inl (CX (by assumption))))|exact B4 (bU hok hrn hin oM (Do (by assumption)))|exact B4 (UM Z hok hrn (.inr (by rw[A6 oM,Bool.false_and])))|exact B4 (UM Z hok hrn (.inr (by rw[← hbn,show B2 b=false from CX (by assumption),Bool.and_false])))|exact B4 (UM Z hok hrn (.inr (by rw[show B2 a=false from CX (by assumption),Bool.and_false])))):p:=h
theorem JS (w:World)(dp:Nat)(vp:Value)(p:List Fn)(f:Int)(va:Value)(a:Sr)(vb:Value)(b:Sr)(n:Int)(hp:RN [] (rP (Ki dp)) w.heap vp p)(_hf:Bx f)(ha:Rd (B3 rI) w.heap va a)(hb:Rd (B3 rI) w.heap vb b)(_hn:Bx n)(hz:PJ p)(hab:b=a) :
  Calls Tryz.prog 128 #[vp,zI f,va,vb,zI n] w (fun e w'=>e=.returned (zI (Hs p f a n))∧AF w w'):=by
 refine Aq [vp,zI f,va,vb,zI n] 52 Tryz.func128 Z Z sM ?_
 have ae:AF w w:=AF.refl w
 have aw:=ha.lenle
 have ax:=hb.lenle
 have hbl:b.length=a.length:=by rw[hab]
 have hbn:B2 b=B2 a:=by rw[hab]
 refine cA Z<|A0<|bZ [0,3,0] Z<|Ad 1 Z<|As 138 [] [] [vp] Z Z YM Aa (Nc _ dp vp (p) (hp.ext (B5<|AU dp) ae) hz) ?_
 rintro e1 w1 ⟨rfl,a8⟩
 refine⟨_,rfl,a8,?_⟩
 have am:=a8.size
 have a9:=ae.trans a8
 refine Bn (!(G7 p)) Z Z Aa<|Aj ?_
 cases af:(!(G7 p))
 ·refine Ah (by first|rfl|exact zW af)<|A2<|A0<|bZ [0,0,3,0,0,0,0,0,0] Z<|Ad 2 Z<|As 139 [] [] [vp,zI f] Z Z YN Aa (Kf _ dp vp (p) _ (hp.ext (B5<|AU dp) a9) _hf hz) ?_
  rintro e3 w3 ⟨rfl,aa⟩
  refine⟨_,rfl,aa,?_⟩
  have an:=aa.size
  have a0:=a9.trans aa
  refine Bn (!(Mm p f)) Z Z Aa<|Ad 1 Z ?_
  cases au:(!(Mm p f))
  ·refine Ad 1 Z<|Az 74 [] [] [zI n,zI ((0:Nat):Int),zI ((40:Nat):Int)] Z Z IA (Ae (e:=19) Z Z Z) (.bool (decide (((0:Nat):Int)≤n) && decide (n≤((40:Nat):Int)))) (fun wq=>Bw wq _ _ _ _hn oM oM)<|Bn (!(decide (((0:Nat):Int)≤n) && decide (n≤((40:Nat):Int)))) Z Z (Ae (e:=19) Z Z Z)<|Ac 1 Z ?_
   cases ag:(!(decide (((0:Nat):Int)≤n) && decide (n≤((40:Nat):Int))))
   ·refine Ah (by first|rfl|exact zW ag)<|A2<|bZ [0,0,0,2,0,0,0,2,0] Z ?_
    have hok:=(Do (by assumption):G7 p=true)
    have hrn:=(Do (by assumption):Mm p f=true)
    have hin:=(Do (by assumption):(decide (((0:Nat):Int)≤n) && decide (n≤((40:Nat):Int)))=true)
    have hrr:=HS.1 hrn
    refine Ad 1 Z<|AN (hp.isPtr) Z Aa ?_
    obtain⟨cs7,ao,ah⟩:=RN.at (AU _) hp
    obtain⟨a7,rfl,ab⟩:=RPr.of ao
    have ac:=ab.lenle
    unfold maxLen at ac
    refine AJ (p:=vp) 0 Bv Z (ah _<|Au.of_ext [] a0) Aa<|Ai (p:=Ap vp 0) (.inr Z) a7 BY Z ((ah _<|Au.of_ext [] a0).ld (i:=0) (by simp[EX,EY])) Aa<|Ad 1 Z<|AB (v:=a7) ((f).toNat) Gb Cj Z Z ab.isSl oM sD Aa ?_
    obtain⟨cs8,ap,ai⟩:=ab.get (Av dp) Fn.zero (k:=(f).toNat) sD
    obtain⟨av,rfl,aq⟩:=RF.of ap
    have ad:=aq.rn.lenle
    unfold maxLen at ad
    refine AJ (p:=Ay a7 ((f).toNat) 3) 1 C2 Z (ai _<|Au.of_ext [] a0) Aa<|Ai (p:=Ap (Ay a7 ((f).toNat) 3) 1) (.inr Z) (zI<|(p.getD ((f).toNat) Fn.zero).params) AD Z ((ai _<|Au.of_ext [] a0).ld (i:=1) (by simp[EX,EY])) Aa<|Ac 1 Z<|A0<|bZ [0,0,0,0,0,0,3,0,0,0,0,0,0,0,0,0,0,3,0,0] Z<|Ad 1 Z<|AQ (v:=va) Bt Z ha.isSl Aa<|Ad 1 Z ?_
    by_cases aj:(a.length:Int)≠(p.getD ((f).toNat) Fn.zero).params
    ·exact AT true Z Z (A5 aj) Aa<|Ac 16 Z<|Ag Z<|cA Z<|A1<|Al<|Af [10] Z (zI ((2:Nat):Int)) Z ⟨HF,a0⟩
    refine AT false Z Z (A6 aj) Aa<|Ad 2 Z<|As 157 [] [] [va] Z Z Vu (Ae (e:=36) Z Z Z) (FN _ _ _<|ha.ext g1 a0) ?_
    rintro ay az ⟨rfl,a2⟩
    refine⟨_,rfl,a2,?_⟩
    have ak:=a2.size
    have a1:=a0.trans a2
    refine Bn (!(B2 a)) Z Z (Ae (e:=36) Z Z Z)<|Ad 2 Z ?_
    cases ar:(!(B2 a))
    ·refine Ad 1 Z<|AQ (v:=vb) Bt Z hb.isSl (Ae (e:=41) Z Z Z)<|Ad 1 Z ?_
     by_cases a4:(b.length:Int)≠(p.getD ((f).toNat) Fn.zero).params
     ·refine AT true Z Z (A5 a4) (Ae (e:=41) Z Z Z)<|Ac 6 Z<|Ag Z<|cA Z<|A1<|Al ?_
      exact Af [10] Z (zI ((2:Nat):Int)) Z ⟨HF,a1⟩
     refine AT false Z Z (A6 a4) (Ae (e:=41) Z Z Z)<|Ad 3 Z<|As 157 [] [] [vb] Z Z Vu (Ae (e:=47) Z Z Z) (FN _ _ _<|hb.ext g1 a1) ?_
     rintro b0 b1 ⟨rfl,a3⟩
     refine⟨_,rfl,a3,?_⟩
     have al:=a3.size
     have a5:=a1.trans a3
     refine Bn (!(B2 b)) Z Z (Ae (e:=47) Z Z Z)<|Ac 1 Z ?_
     cases a6:(!(B2 b))
     ·exact Ah (by first|rfl|exact zW a6)<|A2<|cA Z<|A1<|Af [10] Z (zI ((0:Nat):Int)) Z ⟨HF,a5⟩
     exact Ag (by first|rfl|exact zW a6)<|cA Z<|A1<|Al<|Af [10] Z (zI ((2:Nat):Int)) Z ⟨HF,a5⟩
    exact Ac 10 Z<|Ag Z<|cA Z<|A1<|Al<|Af [10] Z (zI ((2:Nat):Int)) Z ⟨HF,a1⟩
   exact Ag (by first|rfl|exact zW ag)<|cA Z<|A1<|Al<|Af [10] Z (zI ((2:Nat):Int)) Z ⟨HF,a0⟩
  exact Ac 4 Z<|Ag Z<|cA Z<|A1<|Al<|Af [10] Z (zI ((2:Nat):Int)) Z ⟨HF,a0⟩
 exact Ag (by first|rfl|exact zW af)<|cA Z<|A1<|Al<|Af [10] Z (zI ((1:Nat):Int)) Z ⟨HF,a9⟩
theorem JT (w:World)(dp:Nat)(vp:Value)(p:List Fn)(f:Int)(va:Value)(a:Sr)(n:Int)(hp:RN [] (rP (Ki dp)) w.heap vp p)(_hf:Bx f)(ha:Rd (B3 rI) w.heap va a)(_hn:Bx n)(hvp:H6 p)(hf:0≤f∧f<(p.length:Int))(hl:(a.length:Int)=(p.getD f.toNat Fn.zero).params)(hna:B2 a=true)(hn:0≤n∧n≤40)(hou:((p.getD f.toNat Fn.zero).outs.length:Int)=(p.getD f.toNat Fn.zero).params) :
  Calls Tryz.prog 129 #[vp,zI f,va,zI n] w (fun e w'=>∃v0:Value,e=.returned (.tuple #[v0,zI (Eo p f.toNat a n.toNat)])∧AF w w'∧Fr (Bh (Bh rI 2) 27) w.heap.size w'.heap.size w'.heap v0 (Ua p f.toNat a n.toNat)∧PU p f.toNat a n.toNat):=by
 refine Aq [vp,zI f,va,zI n] 43 Tryz.func129 Z Z sM ?_
 have af:AF w w:=AF.refl w
 have bh:=ha.lenle
 have hpar:=hvp.par f.toNat oM
 refine bZ [0,0] Z<|Ac 2 Z<|bZ [0,3,3,0] Z<|Ad 1 Z<|As 143 [] [] [va] Z Z YP Aa (LT _ _ _ (ha.ext g1 af) oM) ?_
 rintro e1 w1 ⟨ag,rfl,ad,a5⟩
 refine⟨_,rfl,ad,?_⟩
 have ah:=ad.size
 have ai:=af.trans ad
 refine BI (u:=ag) (B:=w.heap.size) o1 BH B8 Z Z a5 ai.size Aa fun v2 w2 aj b8 au=>?_
 have ak:=aj.size
 have av:=ai.trans aj
 refine Ac 1 Z<|A0<|cA Z<|A3 ?_
 refine B1 (S:=Nat×Value) (fun⟨k,vo⟩=>([(10,vo),(11,zI (k:Int)),(0,vp),(1,zI f),(3,zI n)])) (fun⟨k,vo⟩ W=>AF w W∧Fr (Bh (Bh rI 2) 27) w.heap.size W.heap.size W.heap vo (CC (k+1)<|Ch p f.toNat a)∧k≤n.toNat∧Eo p f.toNat a k=0∧((Ch p f.toNat a k).length:Int)=(p.getD f.toNat Fn.zero).params∧B2 (Ch p f.toNat a k)=true∧(∀j,j≤k→(Ch p f.toNat a j).length=a.length)) (fun⟨k,vo⟩=>n.toNat-k) (0,v2) ⟨rfl,rfl,rfl,rfl,rfl,trivial⟩ ⟨av,au.up o2,sD,(by rfl),hl,hna,(by intro j hj;rw[show j=0 from by omega];rfl)⟩ ?_
 clear af a5 ad ah ai au b8 aj ak av
 rintro⟨k,vo⟩ ρ3 w3 ⟨a9,a0,aw,hrk,hrl,hrn,hrj⟩
 have b9:w.heap.size≤w3.heap.size:=a9.size
 have hti:=C4 (f:=Ch p f.toNat a) (n:=k+1) (k:=k) [] oM
 have htl:(CC (k+1) (Ch p f.toNat a)).length=k+1:=by simp[CC]
 refine A0<|bZ [0,0,0] Z<|Ad 2 Z ?_
 by_cases ax:(k:Int)<n
 ·refine AG true Z Z (A5 ax) Aa<|Aj<|Ag Z<|A2<|A0<|A3<|bZ [0,0,0,0,0,2,3,0,0,0,0,0,0,0] Z<|Ad 4 Z<|AB (v:=vo) k BH B8 Z Z a0.isSl Z sD Aa ?_
  obtain⟨ay,az,al⟩:=a0.rd2.get (k:=k) [] sD
  have ba:=al.lenle
  refine Ai (p:=Ay vo k 1) (.inr Z) ay Bj Z az Aa<|As 75 [] [] [vp,zI f,ay] Z Z bF Aa (LB _ dp vp (p) _ _ _ (hp.ext (B5<|AU dp) a9) _hf al hvp oM (by rw[hti];exact hrl) (by rw[hti];exact hrn)) ?_
  rintro e6 w6 ⟨a1,rfl,a8,aa,b0,b1⟩
  refine⟨_,rfl,a8,?_⟩
  have bb:=a8.size
  have am:=a9.trans a8
  have a4:=a0.ext (o2) a8
  have a6:=al.ext g1 a8
  have ab:=AZ a8 az
  refine Ad 1 Z<|AM (vs:=[a1,zI ((Ok p 1 f.toNat (CO<|(CC (k+1)<|Ch p f.toNat a).getD k []):Nat):Int),zI<|G8 p f.toNat<|(CC (k+1)<|Ch p f.toNat a).getD k []]) a1 Z Z Aa<|AM (vs:=[a1,zI ((Ok p 1 f.toNat (CO<|(CC (k+1)<|Ch p f.toNat a).getD k []):Nat):Int),zI<|G8 p f.toNat<|(CC (k+1)<|Ch p f.toNat a).getD k []]) (zI ((Ok p 1 f.toNat (CO<|(CC (k+1)<|Ch p f.toNat a).getD k []):Nat):Int)) Z Z Aa<|AM (vs:=[a1,zI ((Ok p 1 f.toNat (CO<|(CC (k+1)<|Ch p f.toNat a).getD k []):Nat):Int),zI<|G8 p f.toNat<|(CC (k+1)<|Ch p f.toNat a).getD k []]) (zI<|G8 p f.toNat<|(CC (k+1)<|Ch p f.toNat a).getD k []) Z Z Aa<|Ac 3 Z<|A0 ?_
  refine bZ [0,0] Z ?_
  have hNX:=‹QY p f.toNat ((CC (k+1)<|Ch p f.toNat a).getD k [])›
  rw[hti]at hNX
  have hnc:=hNX.code
  have hcd:G8 p f.toNat ((CC (k+1) (Ch p f.toNat a)).getD k [])=G8 p f.toNat (Ch p f.toNat a k):=by rw[hti]
  refine Ad 1 Z ?_
  by_cases b2:G8 p f.toNat ((CC (k+1) (Ch p f.toNat a)).getD k [])≠((0:Nat):Int)
  ·refine AT true Z Z (A5 b2) Aa<|Aj<|Ag Z<|bZ [3,0,0,0] Z (CQ (Bh rI 2) o1 BH B8 Aa fun v9 w9 ae bg bc=>?_)
   have bd:=ae.size
   have be:=am.trans ae
   have b3:=a6.ext g1 ae
   have b4:=AZ ae ab
   refine Ac 3 Z<|A1<|Al<|AC<|Al<|Al<|AC<|Al ?_
   have hfc:Eo p f.toNat a n.toNat=G8 p f.toNat (Ch p f.toNat a k):=by rw[Je (k:=k+1) (by rw[DX hrk];omega) oM,DX hrk]
   exact Af [8,9] Z (.tuple #[v9,zI<|G8 p f.toNat<|(CC (k+1)<|Ch p f.toNat a).getD k []]) Z ⟨v9,(by rw[hfc,hti]),be,(by rw[PT (by rw[hfc];omega)];exact(bc.up o2).low am.size),PU.err hfc oM hnc⟩
  refine AT false Z Z (A6 b2) Aa<|Aj<|Ah Z<|A2<|Ab _ [0,0,3,4,0] Z<|Ad 2 Z (BI (u:=a1) (B:=w3.heap.size) o1 BH B8 Z Z aa (by first|exact A7 _|omega) Aa fun bi bl a2 bf an=>?_)
  have b5:=a2.size
  have a7:=am.trans a2
  have a3:=a4.ext (o2) a2
  have ao:=a6.ext g1 a2
  have b6:=AZ a2 ab
  refine Il o1 (v:=vo) (a:=bi) BH B8 Z Z Z a3 a7.size an oM a9.size sD (by unfold maxLen;first|omega|assumption|(simp;done)|(simp;omega)) Aa fun bj bk bm ac ap aq=>?_
  have ar:AF w bk:=ac.below a7 (fun c hc=>A8 (A7 _) (ap c hc).1) a7.size
  have b7:=ac.size
  refine Ac 1 Z<|Ab _ [0,0,0] Z<|Ad 1 Z<|AP ((k+1:Nat):Int) Z Z (Bl oM oM) Aa<|Ac 1 Z ?_
  exact⟨(k+1,bj),_,rfl,zR,⟨ar,(by have h:=aq.up o2;rw[hti]at h;rw[J7];exact h),sD,(by rw[DX hrk];omega),(by have:=hNX.len oM;show(((Oq p f.toNat (Ch p f.toNat a k)).length:Nat):Int)=_;omega),hNX.num,(by intro j hj;by_cases e9:j≤k;(exact hrj j e9);(rw[show j=k+1 from by omega];have:=hNX.len oM;show(Oq p f.toNat (Ch p f.toNat a k)).length=_;omega))⟩,zD⟩
 refine AG false Z Z (A6 ax) Aa<|Aj<|Ah Z<|A4<|Ax<|Ax<|At<|bZ [0,0,0] Z<|Ac 3 Z<|A1 ?_
 have hke:k=n.toNat:=by omega
 exact Af [8,9] Z (.tuple #[vo,zI ((0:Nat):Int)]) Z ⟨vo,(by rw[← hke,hrk];rfl),a9,(by have h:=a0.up o2;rw[← hke,K6 hrk];exact h),PU.ok (by rw[← hke];exact hrk) (by rw[← hke];exact hrj)⟩
theorem IL (w:World)(dp:Nat)(vp:Value)(p:List Fn)(f:Int)(va:Value)(a:Sr)(n:Int)(hp:RP [] dp w.heap vp p)(_hf:Bx f)(ha:Rd (B3 rI) w.heap va a)(_hn:Bx n)(hz:PJ p) :
  Calls Tryz.prog 45 #[(.agg #[vp]),zI f,va,zI n] w (fun e w'=>∃v0:Value,e=.returned (.tuple #[v0,zI (LR p f a n)])∧AF w w'∧Fr (Bh (Bh rI 2) 27) w.heap.size w'.heap.size w'.heap v0 (Tz p f a n)):=by
 refine Aq [.agg #[vp],zI f,va,zI n] 26 Tryz.func45 Z Z sM ?_
 have ae:AF w w:=AF.refl w
 have ao:=hp.lenle
 unfold maxLen at ao
 have ap:=ha.lenle
 refine bZ [3,0,0] Z (Bu (cs:=#[vp]) Z Aa fun w1 a9 am a4=>?_)
 have af:=a9.size
 have a5:=ae.trans a9
 replace a4:BX w1.heap w.heap.size [vp]:=a4
 refine Ac 2 Z<|A0<|bZ [0,0,0,0,3,0] Z<|Ad 4 Z<|As 128 [] [] [zP w.heap.size,zI f,va,va,zI n] Z Z YJ Aa (JS _ dp (zP w.heap.size) (p) _ _ _ _ _ _ (RN.box a4 (RP.mk'<|hp.ext (An<|Av dp) a5) sM) _hf (ha.ext g1 a5) (ha.ext g1 a5) _hn hz (by rfl)) ?_
 rintro e2 w2 ⟨rfl,a6⟩
 refine⟨_,rfl,a6,?_⟩
 have ag:=a6.size
 have a1:=a5.trans a6
 have a2:=a4.ext a6
 refine Ac 1 Z<|bZ [0,0] Z<|Ad 1 Z ?_
 by_cases aa:Hs p f a n≠((0:Nat):Int)
 ·refine AT true Z Z (A5 aa) Aa<|Aj<|Ag Z<|bZ [3,0,0,0] Z (CQ (Bh rI 2) o1 BH B8 Aa fun v4 w4 ab an ah=>?_)
  have ai:=ab.size
  have aj:=a1.trans ab
  exact Ac 3 Z<|A1<|Al<|Af [8,9] Z (.tuple #[v4,zI<|Hs p f a n]) Z ⟨v4,(by rw[PW oM]),aj,(by rw[K7 oM];exact(ah.up o2).low a1.size)⟩
 refine AT false Z Z (A6 aa) Aa<|Aj<|Ah Z<|A2<|bZ [0,0,0,3,0,0,0,0] Z ?_
 have a7:Hs p f a n=0:=by omega
 have ac:=Sk a7
 have aq:=FG ac.1
 refine Ad 3 Z<|As 129 [] [] [zP w.heap.size,zI f,va,zI n] Z Z YK Aa (JT _ dp (zP w.heap.size) (p) _ _ _ _ (RN.box a2 (RP.mk'<|hp.ext (An<|Av dp) a1) sM) _hf (ha.ext g1 a1) _hn aq oM oM ac.2.2.2.2.1 oM oM) ?_
 rintro e5 w5 ⟨a0,rfl,a8,a3,ad⟩
 refine⟨_,rfl,a8,?_⟩
 have ak:=a8.size
 have al:=a1.trans a8
 exact AM (vs:=[a0,zI<|Eo p f.toNat a n.toNat]) a0 Z Z Aa<|AM (vs:=[a0,zI<|Eo p f.toNat a n.toNat]) (zI<|Eo p f.toNat a n.toNat) Z Z Aa<|Ac 2 Z<|A1<|Af [8,9] Z (.tuple #[a0,zI<|Eo p f.toNat a n.toNat]) Z ⟨a0,(by rw[NT a7]),al,(by rw[L2 a7];exact(a3.up o2).low a1.size)⟩
theorem Pa {p:Prop}(h:p:=by simp only[z9,zb];unfold maxLen;omega):p:=h
theorem Pb {p:Prop}(h:p:=by simp only[z9,zb];omega):p:=h
theorem JU {p:Prop}(h:p:=by rw[GJ];omega):p:=h
theorem CF (w:World)(S:List Nat)(g:Nat)(vp:Value)(ip:Int)(s0:Nat)(c0:Int)(T:Tp)(c:AE)(v:Int)(hS:∀b∈S,b<w.heap.size)(hgS:g∈S)(hR0:QX 69 208 2 S g w.heap vp ip T s0 c0)(_hip:Bx ip)(hln:T.code.length≤4000∧T.vals.length≤4000)(hc:RW c)(_hv:Bx v)  :
  Calls Tryz.prog 101 #[zP g,(.agg #[(zI c.op),(zI c.a),(zI c.b),(zI c.num)]),zI v] w (fun e w'=>∃S':List Nat,e=.returned (zI (T.vals.length:Int))∧Fz S S' w w'∧QX 69 208 2 S' g w'.heap vp ip (T.put c v) s0 c0):=by
 refine Aq [zP g,.agg #[zI c.op,zI c.a,zI c.b,zI c.num],zI v] 35 Tryz.func101 Z Z sM ?_
 have dr:Au S w w:=Au.refl S w
 obtain⟨rc0,rg0,rv0,bt,d5⟩:=hR0
 have fi:=bt.lt
 have hG0:Fz S S w w:=Fz.refl hS
 have hml:=Cu.len d5
 refine bZ [3,0] Z ?_
 have eo:=bt.lt
 refine Bu (cs:=#[zI c.op,zI c.a,zI c.b,zI c.num]) Z Aa fun w1 ay ep bu=>?_
 have ds:w.heap.size≤w1.heap.size:=ay.size
 have d6:Au S w w1:=dr.ext ay
 have a7:=bt.ext ay
 have dt:=Cu.ext d5 ay
 have d7:=hG0.ext ay
 replace bu:BX w1.heap w.heap.size [zI c.op,zI c.a,zI c.b,zI c.num]:=bu
 refine Ac 1 Z<|A0 ?_
 obtain⟨Fc,Fg,Fv,hOc,hOg,hOv,hdj,hgn,hSc,hSg,hSv⟩:=id dt
 letI:JR:=QW (Fc++Fv)
 refine Jx.Yd _ [0,0,0,0,0,0,1,1,3,3,0,0,0,1,0,3,3,0,0,0,4,0,0,4] [0,1,2,3,4,5,6,7,10,11,12,13,14] 8 9 [15,16,17,18,19,20,21,22,23] 15 [9,16,17,18,19,20,21,22,23] 15 [8,9,16,17,18,19,20,21,22,23] [_,_,_,_,_,_,_,_,_,_,_,_,_] [0,0,0,0,0,0,1,1,0,0,0,1,0] _ _ [_,_,_,_,_,_,_,_,_] [3,3,0,0,0,4,0,0,4] _ [_,_,_,_,_,_,_,_,_] [3,3,0,0,0,4,0,0,4] _ [_,_,_,_,_,_,_,_,_,_] [3,3,3,0,0,0,4,0,0,4] mixed (by kernel_rfl) ⟨rfl,rfl,⟨rfl,rfl,⟨rfl,rfl,⟨rfl,rfl,⟨rfl,rfl,⟨rfl,rfl,⟨rfl,rfl,⟨rfl,rfl,⟨rfl,rfl,⟨rfl,rfl,⟨rfl,rfl,⟨rfl,rfl,⟨rfl,rfl,trivial⟩⟩⟩⟩⟩⟩⟩⟩⟩⟩⟩⟩⟩ ⟨rfl,rfl,trivial⟩ ⟨rfl,rfl,⟨rfl,rfl,⟨rfl,rfl,⟨rfl,rfl,⟨rfl,rfl,⟨rfl,rfl,⟨rfl,rfl,⟨rfl,rfl,⟨rfl,rfl,⟨rfl,rfl,trivial⟩⟩⟩⟩⟩⟩⟩⟩⟩⟩ ⟨rfl,rfl,⟨rfl,rfl,⟨rfl,rfl,⟨rfl,rfl,⟨rfl,rfl,⟨rfl,rfl,⟨rfl,rfl,⟨rfl,rfl,⟨rfl,rfl,⟨rfl,rfl,trivial⟩⟩⟩⟩⟩⟩⟩⟩⟩⟩ ⟨rfl,rfl,⟨rfl,rfl,⟨rfl,rfl,⟨rfl,rfl,⟨rfl,rfl,⟨rfl,rfl,⟨rfl,rfl,⟨rfl,rfl,⟨rfl,rfl,⟨rfl,rfl,⟨rfl,rfl,trivial⟩⟩⟩⟩⟩⟩⟩⟩⟩⟩⟩ ?_
 refine Jx.VU (zP g) Z Aa<|Jx.VU (zP g) Z Aa<|Jx.VU (zP g) Z Aa<|Jx.j1<|AY Z Aa<|Aj ?_
 refine Jx.Ak (p:=zP g) 1 FL Z Z Aa<|Jx.Ak (p:=Ap (zP g) 1) (b:=g) (o:=1) 1 Fk Z Z Aa<|Jx.ZQ (p:=Ap (Ap (zP g) 1) 1) rc0 K9 Z (fun wj hj=>(BX.chg (w:=w1.drew) (F:=Fc++Fv) a7 hj fun hm=>(zi.1 hm).elim hgn.1 hgn.2.2).ldp (i:=2) sM) Aa<|Jx.Y6 (p:=zP w.heap.size) [zI c.op,zI c.a,zI c.b,zI c.num] Fl Z (fun wj hj=>LD.of_box<|BX.chg (w:=w1.drew) (F:=Fc++Fv) bu hj fun hm=>(zi.1 hm).elim (fun h9=>zH<|hS _ (hSc _ h9)) fun h9=>zH<|hS _ (hSv _ h9)) Z Aa<|Jx.VU (zP g) Z Aa ?_
 refine Jx.j1<|AY Z Aa<|Aj ?_
 refine Jx.Ak (p:=zP g) 5 DC Z Z Aa<|Jx.ZQ (p:=Ap (zP g) 5) rv0 Bj Z (fun wj hj=>(BX.chg (w:=w1.drew) (F:=Fc++Fv) a7 hj fun hm=>(zi.1 hm).elim hgn.1 hgn.2.2).ldp (i:=5) sM) Aa<|Jx.VU (zI v) Z Aa<|Jx.Aj ⟨?_,?_⟩
 ·refine Jx.aJ<|EZ (cs:=[zI c.op,zI c.a,zI c.b,zI c.num]) (y:=c) (B:=w1.heap.size) Bb OU Jn Z (by decide) Z (RY (U:=w1.heap.size) hc) (A7 _) Aa ?_
  intro v4 w4 ao eq d8
  refine Aj ?_
  have du:w1.heap.size≤w4.heap.size:=ao.size
  have az:=Ow.ext (w:=w1.drew) (Ao Bb) hOc ao
  have b0:=Ow.ext (w:=w1.drew) (Bc AR) hOv ao
  have b1:=Ow.ext (w:=w1.drew) (Ao Bm) hOg ao
  have d9:=BX.ext (w:=w1.drew) a7 ao
  have da:Au S w w4:=d6.drew.ext ao
  have db:=d7.drew.ext ao
  refine Jx.Aj ⟨?_,?_⟩
  ·refine Jx.cE<|MN (v:=rc0) (a:=v4) Bb OU Jn Z (by decide) Z Z az d8 oM (Nat.zero_le _) (Nat.zero_le _) oM (by unfold maxLen;omega) Aa ?_
   intro v5 w5 F5 ap dv b2
   refine Aj ⟨Au.sub ap fun b hb=>z8 _ hb,?_⟩
   have dw:w4.heap.size≤w5.heap.size:=ap.size
   have bv:=b0.keep (Bc AR) ap fun b hb hm=>hdj.2.1 b hb hm
   have bw:=b1.keep (Ao Bm) ap fun b hb hm=>hdj.1 b hb hm
   have dx:=BX.chg d9 ap hgn.1
   have dy:Au S w w5:=da.trans (ap.sub hSc)
   have dz:=db.more ap hSc
   refine Jx.aJ<|BI (u:=zI v) (B:=w5.heap.size) AR Bt BT Z Z (Ov w5.heap.size w5.heap.size _ _ _hv) (A7 _) Aa ?_
   intro v6 w6 aq er e0
   refine Aj ?_
   have e1:w5.heap.size≤w6.heap.size:=aq.size
   have bx:=Ow.ext (w:=w5) (Ao Bb) dv aq
   have bz:=Ow.ext (w:=w5) (Bc AR) bv aq
   have c1:=Ow.ext (w:=w5) (Ao Bm) bw aq
   have e2:=BX.ext (w:=w5) dx aq
   have e3:Au S w w6:=dy.ext aq
   have e4:=dz.ext aq
   refine Jx.cE<|KX (v:=rv0) (a:=v6) Bt BT Z Z Z bz e0.rd1 (Nat.zero_le _) Pb Pa Aa ?_
   intro v7 w7 F7 ar dc br
   refine Aj ⟨Au.sub ar fun b hb=>z1 _ hb,?_⟩
   have e5:w6.heap.size≤w7.heap.size:=ar.size
   have au:=bx.keep (Ao Bb) ar fun b hb hm=>by rcases b2 b hm with h9|h9|h9;exact hdj.2.1 b h9 hb;(have:=hOv.high b hb;omega);(have:=hOv.high b hb;omega)
   have c2:=c1.keep (Ao Bm) ar fun b hb hm=>hdj.2.2 b hm hb
   have e6:=BX.chg e2 ar hgn.2.2
   have dd:Au S w w7:=e3.trans (ar.sub hSv)
   have es:=e4.more ar hSv
   refine Jx.TS Z ?_
   have av:Cu 69 208 2 (F5++(F7++S)) g w7.heap v5 rg0 v7 (T.put c v):=⟨F5,Fg,F7,au.up oM,c2.up oM,dc,⟨fun b hb hm=>by rcases b2 b hb with h9|h9|h9;exact hdj.1 b h9 hm;(have:=hOg.high b hm;omega);(have:=hOg.high b hm;omega),fun b hb hm=>by rcases br b hm with h8|h8;(rcases b2 b hb with h9|h9|h9;exact hdj.2.1 b h9 h8;(have:=hOv.high b h8;omega);(have:=hOv.high b h8;omega));(have:=au.high b hb;omega),fun b hm hb=>by rcases br b hb with h8|h8;exact hdj.2.2 b hm h8;(have:=hOg.high b hm;omega)⟩,⟨fun hm=>by rcases b2 g hm with h9|h9|h9;exact hgn.1 h9;omega;omega,hgn.2.1,fun hm=>by rcases br g hm with h9|h9;exact hgn.2.2 h9;omega⟩,fun b hb=>z8 _ hb,fun b hb=>z1 _ (z1 _ (hSg b hb)),fun b hb=>z1 _ (z8 _ hb)⟩
   have c3:Fz S (F5++(F7++S)) w w7:=⟨fun b hb=>z1 _ (z1 _ hb),fun b hb=>by rcases zi.1 hb with hb|hb;(rcases b2 b hb with h9|h9|h9;exact .inl (hSc b h9);(right;omega);(right;omega));rcases zi.1 hb with hb|hb;(rcases br b hb with h9|h9;exact .inl (hSv b h9);(right;omega));exact .inl hb,fun b hb=>by rcases zi.1 hb with hb|hb;(have:=au.high b hb;omega);rcases zi.1 hb with hb|hb;(exact dc.high b hb);(have:=hS b hb;omega),dd⟩
   refine AY Z Aa<|Ak (p:=zP g) 1 FL Z Z Aa<|Ak (p:=Ap (zP g) 1) (b:=g) (o:=1) 1 Fk Z Z Aa (Be (k:=2) (w:=w7) XP Z Z (Bp av.slc) e6 sM Aa fun w9 bs et c4=>?_)
   replace c4:BX w9.heap g [vp,zI ip,v5,rg0,zN,rv0,zI (s0:Int),zI c0]:=c4
   have e7:Au S w w9:=dd.trans (bs.sub (AX hgS))
   have e8:=Cu.chg av bs
   have e9:=c3.set hgS bs
   have ea:w7.heap.size≤w9.heap.size:=bs.size
   refine AY Z Aa<|Ak (p:=zP g) 5 DC Z Z Aa (Be (k:=5) (w:=w9) QR Z Z (Bp av.slv) c4 sM Aa fun f2 ae eb af=>?_)
   replace af:BX f2.heap g [vp,zI ip,v5,rg0,zN,v7,zI (s0:Int),zI c0]:=af
   have ec:Au S w f2:=e7.trans (ae.sub (AX hgS))
   have b3:=Cu.chg e8 ae
   have c5:=e9.set hgS ae
   have de:w9.heap.size≤f2.heap.size:=ae.size
   exact Aj<|bZ [0,0,0,2,0,0,0] Z<|Ad 1 Z<|AY Z Aa<|Ak (p:=zP g) 5 DC Z Z Aa<|Ai (p:=Ap (zP g) 5) (.inr Z) v7 Bj Z (af.ldp (i:=5) sM) Aa<|AQ (v:=v7) Bt Z (Cu.slv b3) Aa<|Bs (T.vals.length:Int) Z Z (Bl JU JU) Aa<|Ac 1 Z<|A1<|Af [6] Z (zI (T.vals.length:Int)) Z ⟨_,(by rfl),c5,⟨_,_,_,af,b3⟩⟩
  refine Jx.aJ<|BI (u:=zI v) (B:=w4.heap.size) AR Bt BT Z Z (Ov w4.heap.size w4.heap.size _ _ _hv) (A7 _) Aa ?_
  intro ff f3 a0 ed c6
  refine Aj ?_
  have df:w4.heap.size≤f3.heap.size:=a0.size
  have b4:=Ow.ext (w:=w4) (Ao Bb) az a0
  have b5:=Ow.ext (w:=w4) (Bc AR) b0 a0
  have b6:=Ow.ext (w:=w4) (Ao Bm) b1 a0
  have c7:=d8.ext (Ao Bb) a0
  have c8:=BX.ext (w:=w4) d9 a0
  have c9:Au S w f3:=da.ext a0
  have ca:=db.ext a0
  refine Jx.cE<|MN (v:=rc0) (a:=v4) Bb OU Jn Z (by decide) Z Z b4 c7 oM (Nat.zero_le _) (Nat.zero_le _) oM (by unfold maxLen;omega) Aa ?_
  intro f4 f5 f6 a1 cb a8
  refine Aj ⟨Au.sub a1 fun b hb=>z8 _ hb,?_⟩
  have dg:f3.heap.size≤f5.heap.size:=a1.size
  have b7:=b5.keep (Bc AR) a1 fun b hb hm=>hdj.2.1 b hb hm
  have b8:=b6.keep (Ao Bm) a1 fun b hb hm=>hdj.1 b hb hm
  have cc:=c6.chg (o1) a1 fun b hb=>zH<|hOc.high b hb
  have cd:=BX.chg c8 a1 hgn.1
  have ce:Au S w f5:=c9.trans (a1.sub hSc)
  have cf:=ca.more a1 hSc
  refine Jx.cE<|KX (v:=rv0) (a:=ff) Bt BT Z Z Z b7 cc.rd1 (Nat.zero_le _) Pb Pa Aa ?_
  intro f0 ew f7 a4 b9 ag
  refine Aj ⟨Au.sub a4 fun b hb=>z1 _ hb,?_⟩
  have dh:f5.heap.size≤ew.heap.size:=a4.size
  have a9:=cb.keep (Ao Bb) a4 fun b hb hm=>by rcases a8 b hm with h9|h9|h9;exact hdj.2.1 b h9 hb;(have:=hOv.high b hb;omega);(have:=hOv.high b hb;omega)
  have ba:=b8.keep (Ao Bm) a4 fun b hb hm=>hdj.2.2 b hm hb
  have cg:=BX.chg cd a4 hgn.2.2
  have bb:Au S w ew:=ce.trans (a4.sub hSv)
  have ee:=cf.more a4 hSv
  refine Jx.TS Z ?_
  have aa:Cu 69 208 2 (f6++(f7++S)) g ew.heap f4 rg0 f0 (T.put c v):=⟨f6,Fg,f7,a9.up oM,ba.up oM,b9,⟨fun b hb hm=>by rcases a8 b hb with h9|h9|h9;exact hdj.1 b h9 hm;(have:=hOg.high b hm;omega);(have:=hOg.high b hm;omega),fun b hb hm=>by rcases ag b hm with h8|h8;(rcases a8 b hb with h9|h9|h9;exact hdj.2.1 b h9 h8;(have:=hOv.high b h8;omega);(have:=hOv.high b h8;omega));(have:=a9.high b hb;omega),fun b hm hb=>by rcases ag b hb with h8|h8;exact hdj.2.2 b hm h8;(have:=hOg.high b hm;omega)⟩,⟨fun hm=>by rcases a8 g hm with h9|h9|h9;exact hgn.1 h9;omega;omega,hgn.2.1,fun hm=>by rcases ag g hm with h9|h9;exact hgn.2.2 h9;omega⟩,fun b hb=>z8 _ hb,fun b hb=>z1 _ (z1 _ (hSg b hb)),fun b hb=>z1 _ (z8 _ hb)⟩
  have bc:Fz S (f6++(f7++S)) w ew:=⟨fun b hb=>z1 _ (z1 _ hb),fun b hb=>by rcases zi.1 hb with hb|hb;(rcases a8 b hb with h9|h9|h9;exact .inl (hSc b h9);(right;omega);(right;omega));rcases zi.1 hb with hb|hb;(rcases ag b hb with h9|h9;exact .inl (hSv b h9);(right;omega));exact .inl hb,fun b hb=>by rcases zi.1 hb with hb|hb;(have:=a9.high b hb;omega);rcases zi.1 hb with hb|hb;(exact b9.high b hb);(have:=hS b hb;omega),bb⟩
  refine AY Z Aa<|Ak (p:=zP g) 1 FL Z Z Aa<|Ak (p:=Ap (zP g) 1) (b:=g) (o:=1) 1 Fk Z Z Aa (Be (k:=2) (w:=ew) XP Z Z (Bp aa.slc) cg sM Aa fun ey ah ef aw=>?_)
  replace aw:BX ey.heap g [vp,zI ip,f4,rg0,zN,rv0,zI (s0:Int),zI c0]:=aw
  have ch:Au S w ey:=bb.trans (ah.sub (AX hgS))
  have ci:=Cu.chg aa ah
  have cj:=bc.set hgS ah
  have di:ew.heap.size≤ey.heap.size:=ah.size
  refine AY Z Aa<|Ak (p:=zP g) 5 DC Z Z Aa (Be (k:=5) (w:=ey) QR Z Z (Bp aa.slv) aw sM Aa fun f8 ai eg aj=>?_)
  replace aj:BX f8.heap g [vp,zI ip,f4,rg0,zN,f0,zI (s0:Int),zI c0]:=aj
  have eh:Au S w f8:=ch.trans (ai.sub (AX hgS))
  have bd:=Cu.chg ci ai
  have ck:=cj.set hgS ai
  have dj:ey.heap.size≤f8.heap.size:=ai.size
  exact Aj<|bZ [0,0,0,2,0,0,0] Z<|Ad 1 Z<|AY Z Aa<|Ak (p:=zP g) 5 DC Z Z Aa<|Ai (p:=Ap (zP g) 5) (.inr Z) f0 Bj Z (aj.ldp (i:=5) sM) Aa<|AQ (v:=f0) Bt Z (Cu.slv bd) Aa<|Bs (T.vals.length:Int) Z Z (Bl JU JU) Aa<|Ac 1 Z<|A1<|Af [6] Z (zI (T.vals.length:Int)) Z ⟨_,(by rfl),ck,⟨_,_,_,aj,bd⟩⟩
 refine Jx.aJ<|BI (u:=zI v) (B:=w1.heap.size) AR Bt BT Z Z (Ov w1.heap.size w1.heap.size _ _ _hv) (A7 _) Aa ?_
 intro fg eu a5 ei cl
 refine Aj ?_
 have dk:w1.heap.size≤eu.heap.size:=a5.size
 have be:=Ow.ext (w:=w1.drew) (Ao Bb) hOc a5
 have bf:=Ow.ext (w:=w1.drew) (Bc AR) hOv a5
 have bg:=Ow.ext (w:=w1.drew) (Ao Bm) hOg a5
 have cm:=BX.ext (w:=w1.drew) a7 a5
 have cn:Au S w eu:=d6.drew.ext a5
 have co:=d7.drew.ext a5
 refine Jx.aJ<|EZ (cs:=[zI c.op,zI c.a,zI c.b,zI c.num]) (y:=c) (B:=eu.heap.size) Bb OU Jn Z (by decide) Z (RY (U:=eu.heap.size) hc) (A7 _) Aa ?_
 intro fh f9 a2 ej cp
 refine Aj ?_
 have dl:eu.heap.size≤f9.heap.size:=a2.size
 have bh:=Ow.ext (w:=eu) (Ao Bb) be a2
 have bi:=Ow.ext (w:=eu) (Bc AR) bf a2
 have bj:=Ow.ext (w:=eu) (Ao Bm) bg a2
 have cq:=cl.ext (o1) a2
 have cr:=BX.ext (w:=eu) cm a2
 have ct:Au S w f9:=cn.ext a2
 have cu:=co.ext a2
 refine Jx.cE<|MN (v:=rc0) (a:=fh) Bb OU Jn Z (by decide) Z Z bh cp oM (Nat.zero_le _) (Nat.zero_le _) oM (by unfold maxLen;omega) Aa ?_
 intro fa fb fc a3 cv ab
 refine Aj ⟨Au.sub a3 fun b hb=>z8 _ hb,?_⟩
 have dm:f9.heap.size≤fb.heap.size:=a3.size
 have bk:=bi.keep (Bc AR) a3 fun b hb hm=>hdj.2.1 b hb hm
 have bl:=bj.keep (Ao Bm) a3 fun b hb hm=>hdj.1 b hb hm
 have cw:=cq.chg (o1) a3 fun b hb=>zH<|hOc.high b hb
 have cx:=BX.chg cr a3 hgn.1
 have cy:Au S w fb:=ct.trans (a3.sub hSc)
 have cz:=cu.more a3 hSc
 refine Jx.cE<|KX (v:=rv0) (a:=fg) Bt BT Z Z Z bk cw.rd1 (Nat.zero_le _) Pb Pa Aa ?_
 intro f1 ex fd a6 bm ak
 refine Aj ⟨Au.sub a6 fun b hb=>z1 _ hb,?_⟩
 have dn:fb.heap.size≤ex.heap.size:=a6.size
 have ac:=cv.keep (Ao Bb) a6 fun b hb hm=>by rcases ab b hm with h9|h9|h9;exact hdj.2.1 b h9 hb;(have:=hOv.high b hb;omega);(have:=hOv.high b hb;omega)
 have bn:=bl.keep (Ao Bm) a6 fun b hb hm=>hdj.2.2 b hm hb
 have d0:=BX.chg cx a6 hgn.2.2
 have bo:Au S w ex:=cy.trans (a6.sub hSv)
 have ek:=cz.more a6 hSv
 refine Jx.TS Z ?_
 have ad:Cu 69 208 2 (fc++(fd++S)) g ex.heap fa rg0 f1 (T.put c v):=⟨fc,Fg,fd,ac.up oM,bn.up oM,bm,⟨fun b hb hm=>by rcases ab b hb with h9|h9|h9;exact hdj.1 b h9 hm;(have:=hOg.high b hm;omega);(have:=hOg.high b hm;omega),fun b hb hm=>by rcases ak b hm with h8|h8;(rcases ab b hb with h9|h9|h9;exact hdj.2.1 b h9 h8;(have:=hOv.high b h8;omega);(have:=hOv.high b h8;omega));(have:=ac.high b hb;omega),fun b hm hb=>by rcases ak b hb with h8|h8;exact hdj.2.2 b hm h8;(have:=hOg.high b hm;omega)⟩,⟨fun hm=>by rcases ab g hm with h9|h9|h9;exact hgn.1 h9;omega;omega,hgn.2.1,fun hm=>by rcases ak g hm with h9|h9;exact hgn.2.2 h9;omega⟩,fun b hb=>z8 _ hb,fun b hb=>z1 _ (z1 _ (hSg b hb)),fun b hb=>z1 _ (z8 _ hb)⟩
 have bp:Fz S (fc++(fd++S)) w ex:=⟨fun b hb=>z1 _ (z1 _ hb),fun b hb=>by rcases zi.1 hb with hb|hb;(rcases ab b hb with h9|h9|h9;exact .inl (hSc b h9);(right;omega);(right;omega));rcases zi.1 hb with hb|hb;(rcases ak b hb with h9|h9;exact .inl (hSv b h9);(right;omega));exact .inl hb,fun b hb=>by rcases zi.1 hb with hb|hb;(have:=ac.high b hb;omega);rcases zi.1 hb with hb|hb;(exact bm.high b hb);(have:=hS b hb;omega),bo⟩
 refine AY Z Aa<|Ak (p:=zP g) 1 FL Z Z Aa<|Ak (p:=Ap (zP g) 1) (b:=g) (o:=1) 1 Fk Z Z Aa (Be (k:=2) (w:=ex) XP Z Z (Bp ad.slc) d0 sM Aa fun ez al el ax=>?_)
 replace ax:BX ez.heap g [vp,zI ip,fa,rg0,zN,rv0,zI (s0:Int),zI c0]:=ax
 have d1:Au S w ez:=bo.trans (al.sub (AX hgS))
 have d2:=Cu.chg ad al
 have d3:=bp.set hgS al
 have dp:ex.heap.size≤ez.heap.size:=al.size
 refine AY Z Aa<|Ak (p:=zP g) 5 DC Z Z Aa (Be (k:=5) (w:=ez) QR Z Z (Bp ad.slv) ax sM Aa fun fe am em an=>?_)
 replace an:BX fe.heap g [vp,zI ip,fa,rg0,zN,f1,zI (s0:Int),zI c0]:=an
 have en:Au S w fe:=d1.trans (am.sub (AX hgS))
 have bq:=Cu.chg d2 am
 have d4:=d3.set hgS am
 have dq:ez.heap.size≤fe.heap.size:=am.size
 exact Aj<|bZ [0,0,0,2,0,0,0] Z<|Ad 1 Z<|AY Z Aa<|Ak (p:=zP g) 5 DC Z Z Aa<|Ai (p:=Ap (zP g) 5) (.inr Z) f1 Bj Z (an.ldp (i:=5) sM) Aa<|AQ (v:=f1) Bt Z (Cu.slv bq) Aa<|Bs (T.vals.length:Int) Z Z (Bl JU JU) Aa<|Ac 1 Z<|A1<|Af [6] Z (zI (T.vals.length:Int)) Z ⟨_,(by rfl),d4,⟨_,_,_,an,bq⟩⟩
def ZI (F d:Nat):Prop:=∀(w:World) (S:List Nat) (g:Nat) (vp:Value) (dp:Nat) (ip:Int) (s0:Nat) (c0:Int) (p:List Fn) (T:Tp) (ve:Value) (ex:Ex) (vv:Value) (env:List Int) (hS:∀b∈S,b<w.heap.size) (hgS:g∈S) (hR0:QX 69 208 2 S g w.heap vp ip T s0 c0) (hp:RP S dp w.heap vp p) (_hip:Bx ip) (hs0:s0≤3000) (hc0:0≤c0∧c0≤9) (hbd:JG T s0) (hex:RX S d w.heap ve ex) (henv:RN S (B3 rI) w.heap vv env) (hqenv:C5 vv)
  (hvp:H6 p) (hF:F≤p.length) (hwf:wf p ((F:Nat):Int) ex ((env.length:Nat):Int)=true) (hdp:env.length+ex.deep≤1000000) (hen:c0=0→JH T env),
  Calls Tryz.prog 181 #[.pointer (some ⟨g,0,none⟩),.agg #[.int .i64 ex.kind,.int .i64 ex.num,.int .i64 ex.pick,.int .i64 ex.count,ve],vv] w (fun e w'=>∃(r:Int) (S':List Nat) (T':Tp) (s1:Nat) (c1:Int),e=.returned (.int .i64 r)∧Fz S S' w w'∧QX 69 208 2 S' g w'.heap vp ip T' s1 c1∧UY T T' s0 s1 c1∧(c1=0→0≤r∧r<((T'.vals.length:Nat):Int))∧(Bx r)∧AH (go c0 (GY (Kc p F) ex env s0 T)) (r,T') s1 c1)
def cH (F d:Nat):Prop:=∀(w:World) (S:List Nat) (g:Nat) (vp:Value) (dp:Nat) (ip:Int) (s0:Nat) (c0:Int) (p:List Fn) (T:Tp) (vl:Value) (l:List Ex) (vv:Value) (env:List Int) (hS:∀b∈S,b<w.heap.size) (hgS:g∈S) (hR0:QX 69 208 2 S g w.heap vp ip T s0 c0) (hp:RP S dp w.heap vp p) (_hip:Bx ip) (hs0:s0≤3000) (hc0:0≤c0∧c0≤9) (hbd:JG T s0) (hl:RN S (DM 5 (LK d)) w.heap vl l) (henv:RN S (B3 rI) w.heap vv env) (hqenv:C5 vv)
  (hvp:H6 p) (hF:F≤p.length) (hwf:∀k,k<l.length→wf p ((F:Nat):Int) (l.getD k Ex.zero) ((env.length:Nat):Int)=true) (hdp:∀k,k<l.length→env.length+(l.getD k Ex.zero).deep≤1000000) (hll:l.length≤1000000) (hen:c0=0→JH T env),
  Calls Tryz.prog 102 #[.pointer (some ⟨g,0,none⟩),vl,vv] w (fun e w'=>∃(v:Value) (xs:List Int) (S':List Nat) (T':Tp) (s1:Nat) (c1:Int),e=.returned v∧Fz S S' w w'∧QX 69 208 2 S' g w'.heap vp ip T' s1 c1∧UY T T' s0 s1 c1∧QK S' w.heap.size (B3 rI) w'.heap v xs∧C5 v∧xs.length=l.length∧(c1=0→JH T' xs)∧AH (go c0 (HQ (Kc p F) l env s0 T)) (xs,T') s1 c1)
theorem I4 (w:World)(S:List Nat)(F:Nat)(g:Nat)(vp:Value)(dp:Nat)(ip:Int)(s0:Nat)(c0:Int)(p:List Fn)(T:Tp)(dl:Nat)(vl:Value)(l:List Ex)(vv:Value)(env:Sr)(hS:∀b∈S,b<w.heap.size)(hgS:g∈S)(hR0:QX 69 208 2 S g w.heap vp ip T s0 c0)(hp:RP S dp w.heap vp p)(_hip:Bx ip)(hs0:s0≤3000)(hc0:0≤c0∧c0≤9)(hbd:JG T s0)(hl:RN S (DM 5 (LK dl)) w.heap vl l)(henv:RN S (B3 rI) w.heap vv env)(hqenv:C5 vv)(hvp:H6 p)(hF:F≤p.length)(hwf:∀k,k<l.length→wf p (F:Int) (l.getD k Ex.zero) (env.length:Int)=true)(hdp:∀k,k<l.length→env.length+(l.getD k Ex.zero).deep≤1000000)(hll:l.length≤1000000)(hen:c0=0→JH T env)(IHv:∀d',d'<dl→ZI F d') :
  Calls Tryz.prog 102 #[zP g,vl,vv] w (fun e w'=>∃(v:Value) (xs:Sr) (S':List Nat) (T':Tp) (s1:Nat) (c1:Int),e=.returned v∧Fz S S' w w'∧QX 69 208 2 S' g w'.heap vp ip T' s1 c1∧UY T T' s0 s1 c1∧QK S' w.heap.size (B3 rI) w'.heap v xs∧C5 v∧xs.length=l.length∧(c1=0→JH T' xs)∧AH (go c0 (HQ (Kc p F) l env s0 T)) (xs,T') s1 c1):=by
 refine Aq [zP g,vl,vv] 26 Tryz.func102 Z Z sM ?_
 have bd:Au S w w:=Au.refl S w
 have ce:=hp.lenle
 unfold maxLen at ce
 have cf:=hl.lenle
 unfold maxLen at cf
 have cg:=henv.lenL
 unfold maxLen at cg
 obtain⟨rc0,rg0,rv0,be,bf⟩:=hR0
 have cu:=be.lt
 have hG0:Fz S S w w:=Fz.refl hS
 refine cA Z<|bZ [3,0] Z (CQ (rI) AR Bt BT Aa fun v1 w1 ab bs bg=>?_)
 have ao:w.heap.size≤w1.heap.size:=ab.size
 have bh:Au S w w1:=bd.ext ab
 have ae:=be.ext ab
 have bi:=Cu.ext bf ab
 have bj:=hG0.ext ab
 refine Ac 1 Z<|A0<|bZ [0,0,0] Z<|Ad 1 Z<|AQ (v:=vl) D1 Z hl.isSl Aa<|Ac 1 Z<|A3 ?_
 obtain⟨Fo0,af⟩:=Ow.of_fr bg (A7 _)
 have ap:∀b∈Fo0,b∉S:=fun b hb hm=>by have:=af.low b hb;have:=hS b hm;omega
 have hMs:=bi
 have hGs:=bj
 refine B1 (S:=Nat×Value×Sr×List Nat×List Nat×Tp×Nat×Int×Value×Value×Value) (fun⟨k,vo,xs,Fo,S9,T9,s9,c9,ch,vg9,vv9⟩=>([(7,vo),(13,zI (k:Int)),(0,zP g),(2,vv),(11,vl),(12,zI (l.length:Int))])) (fun⟨k,vo,xs,Fo,S9,T9,s9,c9,ch,vg9,vv9⟩ W=>Au S w W∧BX W.heap g [vp,zI ip,ch,vg9,zN,vv9,zI (s9:Int),zI c9]∧k≤l.length∧Fz S S9 w W∧Cu 69 208 2 S9 g W.heap ch vg9 vv9 T9∧UY T T9 s0 s9 c9∧Ow (Bh rI 2) w.heap.size W.heap.size W.heap vo xs Fo∧(∀b∈Fo,b∉S9)∧xs.length=k∧(c9=0→c0=0)∧(c9=0→JH T9 xs)∧AH (go c0<|HQ (Kc p F) (l.take k) env s0 T) (xs,T9) s9 c9) (fun⟨k,vo,xs,Fo,S9,T9,s9,c9,ch,vg9,vv9⟩=>l.length-k) (0,v1,[],Fo0,S,T,s0,c0,rc0,rg0,rv0) ⟨rfl,rfl,rfl,rfl,rfl,rfl,trivial⟩ ⟨bh,ae,sD,hGs,hMs,(by exact⟨hbd,zO⟩),af,ap,(by rfl),(by exact fun h=>h),(by exact fun _=>JH.nil _),(by exact S4 _ _ _ _ _ _)⟩ ?_
 clear bd bf hG0 bg bs ab ao bh bi bj
 rintro⟨k,vo,xs,Fo,S9,T9,s9,c9,ch,vg9,vv9⟩ ρ3 w3 ⟨aq,a3,bk,hGl,hMl,hPl,hOl,hdl,hxl,hzl,hxb,hrl⟩
 have bt:w.heap.size≤w3.heap.size:=aq.size
 have c7:=a3.lt
 have hnl:=hPl.num
 have hbl:=hPl.bnd
 refine bZ [0] Z ?_
 by_cases bl:(k:Int)<(l.length:Int)
 ·refine AG true Z Z (A5 bl) Aa<|Aj<|A0<|Ag Z<|A2<|A0<|A3<|bZ [0,2,3,4] Z ?_
  have hkl:k<l.length:=by omega
  refine AB (v:=vl) k D1 Bk Z Z hl.isSl Z sD Aa ?_
  obtain⟨cs6,bu,bv⟩:=hl.get (Aw dl) Ex.zero (k:=k) sD
  obtain⟨dd6,ac,c8,rfl,am⟩:=RX.of bu
  have ar:=am.rn.lenle
  unfold maxLen at ar
  refine AK (p:=Ay vl k 5) (.inr Z) [zI<|(l.getD k Ex.zero).kind,zI<|(l.getD k Ex.zero).num,zI<|(l.getD k Ex.zero).pick,zI<|(l.getD k Ex.zero).count,ac] B6 Z (fun cl au=>bv cl<|aq.ext au) Z Aa ?_
  have ca:=a3.lt
  refine Bo (z:=.agg #[zI 0,zI 0,zI 0,zI 0,zN]) Hw Aa fun w7 ad cb av=>?_
  have bw:w3.heap.size≤w7.heap.size:=ad.size
  have bx:Au S w w7:=aq.ext ad
  have a7:=a3.ext ad
  have bz:=Cu.ext hMl ad
  have c2:=hGl.ext ad
  have hO10k:=hOl.ext (Bc AR) ad
  replace av:BX w7.heap w3.heap.size [zI 0,zI 0,zI 0,zI 0,zN]:=av
  refine Bz (vs:=[zI<|(l.getD k Ex.zero).kind,zI<|(l.getD k Ex.zero).num,zI<|(l.getD k Ex.zero).pick,zI<|(l.getD k Ex.zero).count,ac]) B6 Z Z am.ones av Z Z Aa fun cc a4 c3 a8=>?_
  replace a8:BX cc.heap w3.heap.size [zI ((l.getD k Ex.zero).kind),zI ((l.getD k Ex.zero).num),zI ((l.getD k Ex.zero).pick),zI ((l.getD k Ex.zero).count),ac]:=a8
  have a9:Au S w cc:=bx.fresh a4 (fun _ h=>zE h)
  have aw:=Cu.chgO bz a4 fun b hb hm=>by rw[A9 hb]at hm;exact(zH<|hGl.lt _ hm)
  have a1:=c2.fresh a4 fun _ h=>zE h
  have bm:w7.heap.size≤cc.heap.size:=a4.size
  have ax:=a7.chg a4 (zB ·)
  have ag:=hO10k.keep (Bc AR) a4 fun b hb hm=>by have:=A9 hb;have:=hO10k.low _ hm;have:=hO10k.high _ hm;omega
  refine Aj<|Ab _ [0,0,2,0,4,3,4,0] Z<|Ad 2 Z<|AK (p:=zP w3.heap.size) (.inr Z) [zI<|(l.getD k Ex.zero).kind,zI<|(l.getD k Ex.zero).num,zI<|(l.getD k Ex.zero).pick,zI<|(l.getD k Ex.zero).count,ac] B6 Z (fun cl au=>LD.of_box<|BX.ext (w:=cc) a8 au) Z Aa<|Ad 1 Z ?_
  refine AA 181 [] [] [zP g,.agg #[zI<|(l.getD k Ex.zero).kind,zI<|(l.getD k Ex.zero).num,zI<|(l.getD k Ex.zero).pick,zI<|(l.getD k Ex.zero).count,ac],vv] Z Z Li Aa (IHv dd6 oM _ S9 g vp dp ip (s9) (c9) p (T9) ac (l.getD k Ex.zero) vv (env) (fun b hb=>(a1.lt b hb:b<cc.heap.size)) (a1.sub _ hgS) ⟨_,_,_,ax,aw⟩ (RN.stp (An<|Av dp) hp a9 a1.new) _hip oM oM hbl ⟨am.rng,RN.stp (An<|Aw dd6) am.rn a9 a1.new⟩ (RN.stp g1 henv a9 a1.new) hqenv hvp oM (by exact hwf k hkl) (by exact hdp k hkl) (by intro h9;exact(hen<|hzl h9).mono oM)) ?_
  rintro cw cd ⟨cm,ci,cn,co,cp,rfl,a0,⟨cj,vg18,vv18,ay,az⟩,ah,ai,aj,ak⟩
  refine⟨_,rfl,?_⟩
  have bn:cc.heap.size≤cd.heap.size:=a0.chg.size
  have b0:Au S w cd:=a9.stp a0.chg a1.new
  have b1:=ag.keep (Bc AR) a0.chg fun b hb hm=>hdl b hm hb
  have a5:∀b∈Fo,b∉ci:=fun b hb hm=>(a0.new b hm).elim (hdl b hb) (fun h9=>zH<|ag.high b hb)
  have b2:=a8.chg a0.chg fun hm=>(zH<|hGl.lt _ hm)
  have b3:w3.heap.size∉ci:=fun hm=>(a0.new _ hm).elim (fun hm=>(zH<|hGl.lt _ hm)) (fun h9=>by omega)
  have b4:=a1.trans a0
  have bo:=ah.bnd
  have bp:=ah.num
  have hcz:=fun h9=>Yf ak h9
  have hrv:=ai
  refine (BI (u:=zI cm) (B:=cd.heap.size) AR Bt BT Z Z (Ov cd.heap.size cd.heap.size _ _ aj) (A7 _) Aa ?_)
  intro cs ck a2 c4 b5
  have bq:cd.heap.size≤ck.heap.size:=a2.size
  have b6:Au S w ck:=b0.ext a2
  have aa:=ay.ext a2
  have an:=b2.ext a2
  have b7:=Cu.ext az a2
  have al:=b4.ext a2
  have hO29k:=b1.ext (Bc AR) a2
  refine KX (v:=vo) (a:=cs) Bt BT Z Z Z hO29k b5.rd1 oM sD (by unfold maxLen;first|omega|assumption|(simp;done)|(simp;omega)) Aa fun ct cq cr a6 c5 b8=>?_
  have br:ck.heap.size≤cq.heap.size:=a6.size
  have b9:Au S w cq:=b6.fresh a6 (fun c hc=>zH<|hO29k.low c hc)
  have c6:∀b∈cr,b∉ci:=fun b hb hm=>(b8 b hb).elim (fun h9=>a5 b h9 hm) (fun h9=>zH<|al.lt b hm)
  have ba:=Cu.chgO b7 a6 a5
  have bb:=al.fresh a6 fun c hc=>zH<|hO29k.low c hc
  have bc:=aa.chg a6 fun hm=>zH<|hO29k.low _ hm
  refine Ac 1 Z<|Ab _ [0,0] Z<|AP ((k+1:Nat):Int) Z Z (Bl oM oM) Aa<|Ac 1 Z ?_
  have hMe:=ba
  have hGe:=bb
  have hPe:UY T cn s0 co cp:=⟨by assumption,zO⟩
  exact⟨(k+1,ct,xs++[cm],cr,ci,cn,co,cp,cj,vg18,vv18),_,rfl,zR,⟨b9,bc,sD,hGe,hMe,hPe,(by assumption),(by assumption),(by rw[z4,zd,hxl]),(by exact fun h9=>hzl (hcz h9)),(by exact fun h9=>JH.snoc ((hxb (hcz h9)).mono oM) (hrv h9)),(by exact U3 oM hrl (by assumption))⟩,zD⟩
 exact AG false Z Z (A6 bl) Aa<|Aj<|A0<|Ah Z<|A4<|Ax<|Ax<|At<|bZ [0,0] Z<|Ac 2 Z<|A1<|Af [6] Z vo Z ⟨vo,xs,_,T9,s9,c9,rfl,hGl,⟨_,_,_,a3,hMl⟩,⟨hbl,oM⟩,QK.of_ow hOl hdl,hOl.fr.cap,oM,hxb,(by rw[za oM]at hrl;exact hrl)⟩
theorem EJ (w:World)(v:Value)(n:Nat)(hs:EA v n)(hcs:C5 v)  :
  Calls Tryz.prog 228 #[v] w (fun e w'=>e=.returned (DJ v)∧w'=w):=by
 refine Aq [v] 9 Tryz.func228 Z Z sM ?_
 have a0:w=w:=rfl
 exact cA Z<|bZ [0,0,0,0,0,0,0] Z<|Ad 2 Z<|AQ (v:=v) Bt Z hs Aa<|Ad 1 Z<|AQ (v:=v) Bt Z hs Aa<|Rg (v:=v) Bt BT Z hs Z Z hcs Aa<|Ac 1 Z<|A1<|Af [2] Z (DJ v) Z ⟨rfl,a0⟩
theorem JV {p:Prop}(h:p:=by first|rw[(S5 (k:=c_op) (a:=a) (b:=b) oM).1,(S5 (k:=c_op) (a:=a) (b:=b) oM).2] <;> rfl|rw[(S6 (k:=c_op) (a:=a) (b:=b) oM).1,(S6 (k:=c_op) (a:=a) (b:=b) oM).2] <;> rfl|rw[(S7 (k:=c_op) (a:=a) (b:=b) oM).1,(S7 (k:=c_op) (a:=a) (b:=b) oM).2] <;> rfl|rw[(S8 (k:=c_op) (a:=a) (b:=b) oM).1,(S8 (k:=c_op) (a:=a) (b:=b) oM).2] <;> rfl|rw[(PP (k:=c_op) (a:=a) (b:=b) oM oM).1,(PP (k:=c_op) (a:=a) (b:=b) oM oM).2] <;> rfl|rw[(Sa (k:=c_op) (a:=a) (b:=b) oM oM).1,(Sa (k:=c_op) (a:=a) (b:=b) oM oM).2] <;> rfl):p:=h
theorem H3 (w:World)(c_op c_a c_b c_n:Int)(a:Int)(b:Int)(_hc_op:Bx c_op)(_hc_a:Bx c_a)(_hc_b:Bx c_b)(_hc_n:Bx c_n)(_ha:Bx a)(_hb:Bx b)(hop:3≤c_op∧c_op≤7) :
  Calls Tryz.prog 258 #[(.agg #[(zI c_op),(zI c_a),(zI c_b),(zI c_n)]),zI a,zI b] w (fun e w'=>e=.returned (.tuple #[zI (if E5 c_op b then 0 else H7 c_op a b),.bool (!decide (E5 c_op b))])∧AF w w'):=by
 refine Aq [.agg #[zI c_op,zI c_a,zI c_b,zI c_n],zI a,zI b] 35 Tryz.func258 Z Z sM ?_
 have a8:AF w w:=AF.refl w
 refine bZ [3,0,0] Z (Bu (cs:=#[zI c_op,zI c_a,zI c_b,zI c_n]) Z Aa fun w1 a3 aa a2=>?_)
 have a9:=a3.size
 have a0:=a8.trans a3
 replace a2:BX w1.heap w.heap.size [zI c_op,zI c_a,zI c_b,zI c_n]:=a2
 refine Ac 2 Z<|A0<|bZ [0,2] Z<|Ak (p:=zP w.heap.size) 0 Ln Z Z Aa<|Ai (p:=Ap (zP w.heap.size) 0) (.inr Z) (zI c_op) AD Z (a2.ldp (i:=0) sM) Aa<|Aj<|A3<|bZ [0,0] Z ?_
 by_cases a4:c_op=((3:Nat):Int)
 ·refine Am true Z Z (A5 a4) Aa<|Ac 1 Z<|Ag Z<|bZ [0,0,0,0,0] Z<|Ad 2 Z<|Az 230 [] [] [zI a,zI b] Z Z T5 Aa (zI<|md (a+b)) (fun wq=>Hx wq _ _ _ha _hb)<|Ac 2 Z<|A1<|AC<|Al ?_
  exact Af [6,7] Z (.tuple #[zI<|md (a+b),.bool true]) Z ⟨JV,a0⟩
 refine Am false Z Z (A6 a4) Aa<|Ac 1 Z<|Ah Z<|bZ [0,0] Z ?_
 by_cases a5:c_op=((4:Nat):Int)
 ·refine Am true Z Z (A5 a5) Aa<|Ac 1 Z<|Ag Z<|bZ [0,0,0,0,0] Z<|Ad 2 Z<|Az 191 [] [] [zI a,zI b] Z Z T0 Aa (zI<|md (a-b)) (fun wq=>GR wq _ _ _ha _hb)<|Ac 2 Z<|A1<|AC<|Al ?_
  exact Af [6,7] Z (.tuple #[zI<|md (a-b),.bool true]) Z ⟨JV,a0⟩
 refine Am false Z Z (A6 a5) Aa<|Ac 1 Z<|Ah Z<|bZ [0,0] Z ?_
 by_cases a6:c_op=((5:Nat):Int)
 ·refine Am true Z Z (A5 a6) Aa<|Ac 1 Z<|Ag Z<|bZ [0,0,0,0,0] Z<|Ad 2 Z<|Az 190 [] [] [zI a,zI b] Z Z Vz Aa (zI<|md (a*b)) (fun wq=>Jo wq _ _ _ha _hb)<|Ac 2 Z<|A1<|AC<|Al ?_
  exact Af [6,7] Z (.tuple #[zI<|md (a*b),.bool true]) Z ⟨JV,a0⟩
 refine Am false Z Z (A6 a6) Aa<|Ac 1 Z<|Ah Z<|bZ [0,0] Z ?_
 by_cases a7:c_op=((7:Nat):Int)
 ·refine Am true Z Z (A5 a7) Aa<|Ac 1 Z<|Ag Z<|bZ [0,0,0,0] Z<|Ad 1 Z<|Az 191 [] [] [zI ((0:Nat):Int),zI a] Z Z T0 Aa (zI<|md (((0:Nat):Int)-a)) (fun wq=>GR wq _ _ oM _ha)<|Ac 2 Z<|A1<|AC<|Al ?_
  exact Af [6,7] Z (.tuple #[zI<|md (((0:Nat):Int)-a),.bool true]) Z ⟨JV,a0⟩
 refine Am false Z Z (A6 a7) Aa<|Ac 1 Z<|Ah Z<|A2<|A0<|bZ [0,0] Z<|Ad 1 Z ?_
 by_cases a1:b=((0:Nat):Int)
 ·refine Am true Z Z (A5 a1) Aa<|Aj<|Ag Z<|bZ [0,0] Z<|Ac 2 Z<|A1<|Al ?_
  exact Af [6,7] Z (.tuple #[zI ((0:Nat):Int),.bool false]) Z ⟨JV,a0⟩
 refine Am false Z Z (A6 a1) Aa<|Aj<|Ah Z<|A2<|bZ [0,0,0,0,0,0] Z<|Ad 2 Z<|Az 226 [] [] [zI b] Z Z VC Aa (zI<|inv b) (fun wq=>Hy wq _ _hb)<|Az 190 [] [] [zI a,zI<|inv b] Z Z Vz Aa (zI<|md (a*(inv b))) (fun wq=>Jo wq _ _ _ha<|Ps _)<|Ac 2 Z<|A1 ?_
 exact Af [6,7] Z (.tuple #[zI<|md (a*(inv b)),.bool true]) Z ⟨JV,a0⟩
theorem Nf {p:Prop}(h:p:=by first|exact U5 hc00 oM (Yg (by assumption))|exact U6 hc00 oM (aK (by assumption))|exact U7 hc00 oM|exact absurd (Yg (Q:=E5 op _) (by assumption)) (UX oM)):p:=h
theorem Ng {p:Prop}(h:p:=by first|(intro h9;exact absurd h9 oM)|(intro h9;omega)):p:=h
theorem Nh {p:Prop}(h:p:=by first|exact hbd.up oM|exact hbd.put _ hvr):p:=h
theorem E3 {p:Prop}(h:p:=by have:=hG0.lt _ hm;omega):p:=h
theorem FA (w:World)(S:List Nat)(g:Nat)(vp:Value)(dp:Nat)(ip:Int)(s0:Nat)(c0:Int)(p:List Fn)(T:Tp)(op:Int)(vk:Value)(ks:Sr)(hS:∀b∈S,b<w.heap.size)(hgS:g∈S)(hR0:QX 69 208 2 S g w.heap vp ip T s0 c0)(hp:RP S dp w.heap vp p)(_hip:Bx ip)(hs0:s0≤3000)(hc0:0≤c0∧c0≤9)(hbd:JG T s0)(_hop:Bx op)(hks:RN S (B3 rI) w.heap vk ks)(hqks:C5 vk)(hop:3≤op∧op≤7)(hkl:1≤ks.length∧(op≠7→2≤ks.length))(hen:JH T ks)(hc00:c0=0) :
  Calls Tryz.prog 229 #[zP g,zI op,vk] w (fun e w'=>∃(r:Int) (S':List Nat) (T':Tp) (c1:Int),e=.returned (zI r)∧Fz S S' w w'∧QX 69 208 2 S' g w'.heap vp ip T' s0 c1∧JG T' (s0+1)∧((0≤c1∧c1≤9)∧T.vals.length≤T'.vals.length∧T'.vals.length≤T.vals.length+1∧T'.grd.length=T.grd.length)∧(c1=0→0≤r∧r<(T'.vals.length:Int))∧(Bx r)∧AH (go c0 (RZ op ks s0 T)) (r,T') s0 c1):=by
 refine Aq [zP g,zI op,vk] 51 Tryz.func229 Z Z sM ?_
 have bi:Au S w w:=Au.refl S w
 have cd:=hp.lenle
 unfold maxLen at cd
 have cg:=hks.lenL
 unfold maxLen at cg
 obtain⟨rc0,rg0,rv0,b0,bv⟩:=hR0
 have cx:=b0.lt
 have hG0:Fz S S w w:=Fz.refl hS
 have ch:=hen 0 oM
 have hbn:=hbd.ln hs0
 refine cA Z<|bZ [0,0,0,2,0,3,4] Z<|Ad 2 Z<|AB (v:=vk) 0 Bt BT Z Z hks.slL Z sD Aa ?_
 have am:=RN.getI (w:=w) (k:=0) hks sD
 refine Ai (p:=Ay vk 0 1) (.inr Z) (zI<|ks.getD 0 0) AD Z (am.1 _ bi) Aa ?_
 have b1:∀(wq:World),(Instr.build 69 #[(0,zI op),(1,zI (ks.getD 0 0))]).run Tryz.prog wq=.ok (.agg #[zI op,zI (ks.getD 0 0),zI 0,zI 0]) wq:=by intro wq;kernel_rfl
 refine C3 (ps:=#[(0,zI op),(1,zI<|ks.getD 0 0)]) (.agg #[zI op,zI<|ks.getD 0 0,zI 0,zI 0]) (by simp only[zc,zf,zh];rfl) (fun wq=>b1  wq) Aa ?_
 have ci:=b0.lt
 refine Bo (z:=.agg #[zI 0,zI 0,zI 0,zI 0]) Ta Aa fun w3 an cj b2=>?_
 have bw:w.heap.size≤w3.heap.size:=an.size
 have bx:Au S w w3:=bi.ext an
 have ao:=b0.ext an
 have bz:=Cu.ext bv an
 have c2:=hG0.ext an
 replace b2:BX w3.heap w.heap.size [zI 0,zI 0,zI 0,zI 0]:=b2
 refine Bz (vs:=[zI op,zI<|ks.getD 0 0,zI (0:Int),zI (0:Int)]) Fl Z Z (by intro u hu;simp only[ze,z2,or_false]at hu;rcases hu with rfl|rfl|rfl|rfl <;> first|exact⟨rfl,rfl⟩) b2 Z Z Aa fun w6 ap ck ag=>?_
 replace ag:BX w6.heap w.heap.size [zI op,zI (ks.getD 0 0),zI (0:Int),zI (0:Int)]:=ag
 have b3:Au S w w6:=bx.fresh ap (fun _ h=>zE h)
 have af:=Cu.chgO bz ap fun b hb hm=>by rw[A9 hb]at hm;exact E3
 have bj:=c2.fresh ap fun _ h=>zE h
 have c3:w3.heap.size≤w6.heap.size:=ap.size
 have az:=ao.chg ap (zB ·)
 refine Aj<|A0<|bZ [0,0] Z<|Ad 1 Z ?_
 by_cases aq:op≠((7:Nat):Int)
 ·refine AT true Z Z (A5 aq) Aa<|Aj<|Ag Z<|Ab _ [0,0,2,0,4] Z ?_
  have cl:=hen 1 oM
  refine Ad 1 Z<|AB (v:=vk) 1 Bt BT Z Z hks.slL Z sD Aa ?_
  have ah:=RN.getI (w:=w) (k:=1) hks sD
  refine Ai (p:=Ay vk 1 1) (.inr Z) (zI<|ks.getD 1 0) AD Z (ah.1 _ b3) Aa<|Ak (p:=zP w.heap.size) 2 CB Z Z Aa (Be (k:=2) (w:=w6) Hv Z Z ⟨rfl,rfl⟩ ag sM Aa fun cm a9 c4 a8=>?_)
  replace a8:BX cm.heap w.heap.size [zI op,zI (ks.getD 0 0),zI (ks.getD 1 0),zI (0:Int)]:=a8
  have b4:Au S w cm:=b3.fresh a9 (fun _ h=>zE h)
  have a3:=Cu.chgO af a9 fun b hb hm=>by rw[A9 hb]at hm;exact E3
  have b5:=bj.fresh a9 fun _ h=>zE h
  have bk:w6.heap.size≤cm.heap.size:=a9.size
  have ai:=az.chg a9 (zB ·)
  refine Aj<|A0<|AO _ [1,0,0,0,1,0,1,0,1,0,0,0,1,0,1,0,1,3,0,0,0,0,0] mixed (by kernel_rfl)<|AK (p:=zP w.heap.size) (.inl Z) [zI op,zI<|ks.getD 0 0,zI<|ks.getD 1 0,zI (0:Int)] Fl Z (fun cn aj=>LD.of_box<|BX.ext (w:=cm.drew) a8 aj) Z Aa<|Ad 1 Z<|AY Z Aa<|Ak (p:=zP g) 5 DC Z Z Aa<|Ai (p:=Ap (zP g) 5) (.inl Z) rv0 Bj Z (ai.ldp (i:=5) sM) Aa<|Ak (p:=zP w.heap.size) 1 CK Z Z Aa ?_
  refine Ai (p:=Ap (zP w.heap.size) 1) (.inl Z) (zI<|ks.getD 0 0) AD Z (a8.ldp (i:=1) sM) Aa<|AB (v:=rv0) ((ks.getD 0 0).toNat) Bt BT Z Z (Cu.slv a3) oM oM Aa (Ai (p:=Ay rv0 ((ks.getD 0 0).toNat) 1) (.inl Z) (zI<|T.vals.getD ((ks.getD 0 0).toNat) 0) AD Z ((Cu.rdv a3).getI oM).1 Aa (Ad 1 Z<|AY Z Aa<|Ak (p:=zP g) 5 DC Z Z Aa<|Ai (p:=Ap (zP g) 5) (.inl Z) rv0 Bj Z (ai.ldp (i:=5) sM) Aa<|Ak (p:=zP w.heap.size) 2 CB Z Z Aa ?_))
  refine Ai (p:=Ap (zP w.heap.size) 2) (.inl Z) (zI<|ks.getD 1 0) AD Z (a8.ldp (i:=2) sM) Aa<|AB (v:=rv0) ((ks.getD 1 0).toNat) Bt BT Z Z (Cu.slv a3) oM oM Aa (Ai (p:=Ay rv0 ((ks.getD 1 0).toNat) 1) (.inl Z) (zI<|T.vals.getD ((ks.getD 1 0).toNat) 0) AD Z ((Cu.rdv a3).getI oM).1 Aa (As 258 [] [] [.agg #[zI op,zI<|ks.getD 0 0,zI<|ks.getD 1 0,zI (0:Int)],zI<|T.vals.getD ((ks.getD 0 0).toNat) 0,zI<|T.vals.getD ((ks.getD 1 0).toNat) 0] Z Z VG Aa (H3 _ (op) (ks.getD 0 0) (ks.getD 1 0) (0:Int) _ _ _hop am.2 ah.2 oM ((Cu.rdv a3).getI oM).2 ((Cu.rdv a3).getI oM).2 oM) ?_))
  rintro cy c7 ⟨rfl,a0⟩
  refine⟨_,rfl,a0,?_⟩
  replace a0:=a0.of_drew
  have bl:cm.heap.size≤c7.heap.size:=a0.size
  have ar:Au S w c7:=b4.ext a0
  have a7:=ai.ext a0
  have a2:=a8.ext a0
  have c5:=(Cu.rdv a3).ext g1 a0
  have au:=Cu.ext a3 a0
  have aa:=b5.ext a0
  refine Ad 1 Z<|AM (vs:=[zI (if E5 op (T.vals.getD ((ks.getD 1 0).toNat) 0)then 0 else H7 op (T.vals.getD ((ks.getD 0 0).toNat) 0) (T.vals.getD ((ks.getD 1 0).toNat) 0)),.bool (!decide (E5 op<|T.vals.getD ((ks.getD 1 0).toNat) 0))]) (zI (if E5 op (T.vals.getD ((ks.getD 1 0).toNat) 0)then 0 else H7 op (T.vals.getD ((ks.getD 0 0).toNat) 0) (T.vals.getD ((ks.getD 1 0).toNat) 0))) Z Z Aa<|AM (vs:=[zI (if E5 op (T.vals.getD ((ks.getD 1 0).toNat) 0)then 0 else H7 op (T.vals.getD ((ks.getD 0 0).toNat) 0) (T.vals.getD ((ks.getD 1 0).toNat) 0)),.bool (!decide (E5 op<|T.vals.getD ((ks.getD 1 0).toNat) 0))]) (.bool (!decide (E5 op<|T.vals.getD ((ks.getD 1 0).toNat) 0))) Z Z Aa<|Ac 2 Z<|A0<|bZ [0,0] Z ?_
  have hvr:0≤(if E5 op (T.vals.getD ((ks.getD 1 0).toNat) 0)then 0 else H7 op (T.vals.getD ((ks.getD 0 0).toNat) 0) (T.vals.getD ((ks.getD 1 0).toNat) 0))∧(if E5 op (T.vals.getD ((ks.getD 1 0).toNat) 0)then 0 else H7 op (T.vals.getD ((ks.getD 0 0).toNat) 0) (T.vals.getD ((ks.getD 1 0).toNat) 0))<1000003:=PR _ _ _
  refine Ad 1 Z<|Bn (!(!decide (E5 op<|T.vals.getD ((ks.getD 1 0).toNat) 0))) Z Z Aa<|Aj ?_
  cases av:(!(!decide (E5 op (T.vals.getD ((ks.getD 1 0).toNat) 0))))
  ·refine Ah (by first|rfl|exact zW av)<|A2<|bZ [0,2,0,4,0] Z<|Ad 1 Z<|AK (p:=zP w.heap.size) (.inr Z) [zI op,zI<|ks.getD 0 0,zI<|ks.getD 1 0,zI (0:Int)] Fl Z (fun cn aj=>LD.of_box<|BX.ext (w:=c7) a2 aj) Z Aa<|Ad 1 Z ?_
   refine AA 101 [] [] [zP g,.agg #[zI op,zI<|ks.getD 0 0,zI<|ks.getD 1 0,zI (0:Int)],zI (if E5 op (T.vals.getD ((ks.getD 1 0).toNat) 0)then 0 else H7 op (T.vals.getD ((ks.getD 0 0).toNat) 0) (T.vals.getD ((ks.getD 1 0).toNat) 0))] Z Z Qk Aa (CF _ S g vp ip (s0) (c0) (T) (⟨op,ks.getD 0 0,ks.getD 1 0,(0:Int)⟩:AE) (if E5 op (T.vals.getD ((ks.getD 1 0).toNat) 0)then 0 else H7 op (T.vals.getD ((ks.getD 0 0).toNat) 0) (T.vals.getD ((ks.getD 1 0).toNat) 0)) (fun b hb=>(aa.lt b hb:b<c7.heap.size)) (aa.sub _ hgS) ⟨_,_,_,a7,au⟩ _hip (by exact hbd.ln hs0) ⟨_hop,am.2,ah.2,(show Bx (0:Int)from by omega)⟩ (by have:=MP op (T.vals.getD ((ks.getD 0 0).toNat) 0) (T.vals.getD ((ks.getD 1 0).toNat) 0);split <;> omega)) ?_
   rintro cz cq ⟨cs,rfl,a4,ct,vg20,vv20,b6,b7⟩
   refine⟨_,rfl,?_⟩
   have bm:c7.heap.size≤cq.heap.size:=a4.chg.size
   have c6:Au S w cq:=ar.stp a4.chg aa.new
   have b8:w.heap.size∉cs:=fun hm=>(a4.new _ hm).elim (fun hm=>E3) (fun h9=>by omega)
   have b9:=aa.trans a4
   have bn:(T.put (⟨op,ks.getD 0 0,ks.getD 1 0,(0:Int)⟩:AE) (if E5 op (T.vals.getD ((ks.getD 1 0).toNat) 0)then 0 else H7 op (T.vals.getD ((ks.getD 0 0).toNat) 0) (T.vals.getD ((ks.getD 1 0).toNat) 0))).vals.length=T.vals.length+1:=GJ _ _ _
   have bo:(T.put (⟨op,ks.getD 0 0,ks.getD 1 0,(0:Int)⟩:AE) (if E5 op (T.vals.getD ((ks.getD 1 0).toNat) 0)then 0 else H7 op (T.vals.getD ((ks.getD 0 0).toNat) 0) (T.vals.getD ((ks.getD 1 0).toNat) 0))).grd.length=T.grd.length:=rfl
   exact Ac 1 Z<|A1<|Af [6] Z (zI (T.vals.length:Int)) Z ⟨(T.vals.length:Int),_,T.put (⟨op,ks.getD 0 0,ks.getD 1 0,(0:Int)⟩:AE) (if E5 op (T.vals.getD ((ks.getD 1 0).toNat) 0)then 0 else H7 op (T.vals.getD ((ks.getD 0 0).toNat) 0) (T.vals.getD ((ks.getD 1 0).toNat) 0)),c0,rfl,b9,⟨_,_,_,b6,b7⟩,Nh,oM,Ng,oM,Nf⟩
  refine Ag (by first|rfl|exact zW av)<|bZ [0,0,0,4] Z<|Ad 1 Z<|AY Z Aa<|Ak (p:=zP g) 7 ES Z Z Aa (Be (k:=7) (w:=c7) Hv Z Z ⟨rfl,rfl⟩ a7 sM Aa fun co ab c8 ak=>?_)
  replace ak:BX co.heap g [vp,zI ip,rc0,rg0,zN,rv0,zI (s0:Int),zI ((6:Nat):Int)]:=ak
  have c9:Au S w co:=ar.trans (ab.sub (AX hgS))
  have ba:=Cu.chg au ab
  have bb:=aa.set hgS ab
  have bp:c7.heap.size≤co.heap.size:=ab.size
  exact Aj<|cA Z<|A1<|Al<|Af [6] Z (zI ((0:Nat):Int)) Z ⟨((0:Nat):Int),_,T,((6:Nat):Int),rfl,bb,⟨_,_,_,ak,ba⟩,Nh,oM,Ng,oM,Nf⟩
 refine AT false Z Z (A6 aq) Aa<|Aj<|Ah Z<|A2<|A0<|AO _ [1,0,0,0,1,0,1,0,1,0,0,0,1,0,1,0,1,3,0,0,0,0,0] mixed (by kernel_rfl)<|AK (p:=zP w.heap.size) (.inl Z) [zI op,zI<|ks.getD 0 0,zI (0:Int),zI (0:Int)] Fl Z (fun cn aj=>LD.of_box<|BX.ext (w:=w6.drew) ag aj) Z Aa<|Ad 1 Z<|AY Z Aa<|Ak (p:=zP g) 5 DC Z Z Aa<|Ai (p:=Ap (zP g) 5) (.inl Z) rv0 Bj Z (az.ldp (i:=5) sM) Aa<|Ak (p:=zP w.heap.size) 1 CK Z Z Aa ?_
 refine Ai (p:=Ap (zP w.heap.size) 1) (.inl Z) (zI<|ks.getD 0 0) AD Z (ag.ldp (i:=1) sM) Aa<|AB (v:=rv0) ((ks.getD 0 0).toNat) Bt BT Z Z (Cu.slv af) oM oM Aa (Ai (p:=Ay rv0 ((ks.getD 0 0).toNat) 1) (.inl Z) (zI<|T.vals.getD ((ks.getD 0 0).toNat) 0) AD Z ((Cu.rdv af).getI oM).1 Aa (Ad 1 Z<|AY Z Aa<|Ak (p:=zP g) 5 DC Z Z Aa<|Ai (p:=Ap (zP g) 5) (.inl Z) rv0 Bj Z (az.ldp (i:=5) sM) Aa<|Ak (p:=zP w.heap.size) 2 CB Z Z Aa ?_))
 refine Ai (p:=Ap (zP w.heap.size) 2) (.inl Z) (zI (0:Int)) AD Z (ag.ldp (i:=2) sM) Aa<|AB (v:=rv0) ((0:Int).toNat) Bt BT Z Z (Cu.slv af) oM oM Aa (Ai (p:=Ay rv0 ((0:Int).toNat) 1) (.inl Z) (zI<|T.vals.getD ((0:Int).toNat) 0) AD Z ((Cu.rdv af).getI oM).1 Aa (As 258 [] [] [.agg #[zI op,zI<|ks.getD 0 0,zI (0:Int),zI (0:Int)],zI<|T.vals.getD ((ks.getD 0 0).toNat) 0,zI<|T.vals.getD ((0:Int).toNat) 0] Z Z VG Aa (H3 _ (op) (ks.getD 0 0) (0:Int) (0:Int) _ _ _hop am.2 oM oM ((Cu.rdv af).getI oM).2 ((Cu.rdv af).getI oM).2 oM) ?_))
 rintro d0 ca ⟨rfl,a1⟩
 refine⟨_,rfl,a1,?_⟩
 replace a1:=a1.of_drew
 have bq:w6.heap.size≤ca.heap.size:=a1.size
 have aw:Au S w ca:=b3.ext a1
 have ac:=az.ext a1
 have a6:=ag.ext a1
 have cb:=(Cu.rdv af).ext g1 a1
 have ax:=Cu.ext af a1
 have ad:=bj.ext a1
 refine Ad 1 Z<|AM (vs:=[zI (if E5 op (T.vals.getD ((0:Int).toNat) 0)then 0 else H7 op (T.vals.getD ((ks.getD 0 0).toNat) 0) (T.vals.getD ((0:Int).toNat) 0)),.bool (!decide (E5 op<|T.vals.getD ((0:Int).toNat) 0))]) (zI (if E5 op (T.vals.getD ((0:Int).toNat) 0)then 0 else H7 op (T.vals.getD ((ks.getD 0 0).toNat) 0) (T.vals.getD ((0:Int).toNat) 0))) Z Z Aa<|AM (vs:=[zI (if E5 op (T.vals.getD ((0:Int).toNat) 0)then 0 else H7 op (T.vals.getD ((ks.getD 0 0).toNat) 0) (T.vals.getD ((0:Int).toNat) 0)),.bool (!decide (E5 op<|T.vals.getD ((0:Int).toNat) 0))]) (.bool (!decide (E5 op<|T.vals.getD ((0:Int).toNat) 0))) Z Z Aa<|Ac 2 Z<|A0<|bZ [0,0] Z ?_
 have hvr:0≤(if E5 op (T.vals.getD ((0:Int).toNat) 0)then 0 else H7 op (T.vals.getD ((ks.getD 0 0).toNat) 0) (T.vals.getD ((0:Int).toNat) 0))∧(if E5 op (T.vals.getD ((0:Int).toNat) 0)then 0 else H7 op (T.vals.getD ((ks.getD 0 0).toNat) 0) (T.vals.getD ((0:Int).toNat) 0))<1000003:=PR _ _ _
 refine Ad 1 Z<|Bn (!(!decide (E5 op<|T.vals.getD ((0:Int).toNat) 0))) Z Z Aa<|Aj ?_
 cases ay:(!(!decide (E5 op (T.vals.getD ((0:Int).toNat) 0))))
 ·refine Ah (by first|rfl|exact zW ay)<|A2<|bZ [0,2,0,4,0] Z<|Ad 1 Z<|AK (p:=zP w.heap.size) (.inr Z) [zI op,zI<|ks.getD 0 0,zI (0:Int),zI (0:Int)] Fl Z (fun cn aj=>LD.of_box<|BX.ext (w:=ca) a6 aj) Z Aa<|Ad 1 Z ?_
  refine AA 101 [] [] [zP g,.agg #[zI op,zI<|ks.getD 0 0,zI (0:Int),zI (0:Int)],zI (if E5 op (T.vals.getD ((0:Int).toNat) 0)then 0 else H7 op (T.vals.getD ((ks.getD 0 0).toNat) 0) (T.vals.getD ((0:Int).toNat) 0))] Z Z Qk Aa (CF _ S g vp ip (s0) (c0) (T) (⟨op,ks.getD 0 0,(0:Int),(0:Int)⟩:AE) (if E5 op (T.vals.getD ((0:Int).toNat) 0)then 0 else H7 op (T.vals.getD ((ks.getD 0 0).toNat) 0) (T.vals.getD ((0:Int).toNat) 0)) (fun b hb=>(ad.lt b hb:b<ca.heap.size)) (ad.sub _ hgS) ⟨_,_,_,ac,ax⟩ _hip (by exact hbd.ln hs0) ⟨_hop,am.2,(show Bx (0:Int)from by omega),(show Bx (0:Int)from by omega)⟩ (by have:=MP op (T.vals.getD ((ks.getD 0 0).toNat) 0) (T.vals.getD ((0:Int).toNat) 0);split <;> omega)) ?_
  rintro d1 cr ⟨cu,rfl,a5,cw,vg36,vv36,bc,bd⟩
  refine⟨_,rfl,?_⟩
  have br:ca.heap.size≤cr.heap.size:=a5.chg.size
  have cc:Au S w cr:=aw.stp a5.chg ad.new
  have be:w.heap.size∉cu:=fun hm=>(a5.new _ hm).elim (fun hm=>E3) (fun h9=>by omega)
  have bf:=ad.trans a5
  have bs:(T.put (⟨op,ks.getD 0 0,(0:Int),(0:Int)⟩:AE) (if E5 op (T.vals.getD ((0:Int).toNat) 0)then 0 else H7 op (T.vals.getD ((ks.getD 0 0).toNat) 0) (T.vals.getD ((0:Int).toNat) 0))).vals.length=T.vals.length+1:=GJ _ _ _
  have bt:(T.put (⟨op,ks.getD 0 0,(0:Int),(0:Int)⟩:AE) (if E5 op (T.vals.getD ((0:Int).toNat) 0)then 0 else H7 op (T.vals.getD ((ks.getD 0 0).toNat) 0) (T.vals.getD ((0:Int).toNat) 0))).grd.length=T.grd.length:=rfl
  exact Ac 1 Z<|A1<|Af [6] Z (zI (T.vals.length:Int)) Z ⟨(T.vals.length:Int),_,T.put (⟨op,ks.getD 0 0,(0:Int),(0:Int)⟩:AE) (if E5 op (T.vals.getD ((0:Int).toNat) 0)then 0 else H7 op (T.vals.getD ((ks.getD 0 0).toNat) 0) (T.vals.getD ((0:Int).toNat) 0)),c0,rfl,bf,⟨_,_,_,bc,bd⟩,Nh,oM,Ng,oM,Nf⟩
 refine Ag (by first|rfl|exact zW ay)<|bZ [0,0,0,4] Z<|Ad 1 Z<|AY Z Aa<|Ak (p:=zP g) 7 ES Z Z Aa (Be (k:=7) (w:=ca) Hv Z Z ⟨rfl,rfl⟩ ac sM Aa fun cp ae ce al=>?_)
 replace al:BX cp.heap g [vp,zI ip,rc0,rg0,zN,rv0,zI (s0:Int),zI ((6:Nat):Int)]:=al
 have cf:Au S w cp:=aw.trans (ae.sub (AX hgS))
 have bg:=Cu.chg ax ae
 have bh:=ad.set hgS ae
 have bu:ca.heap.size≤cp.heap.size:=ae.size
 exact Aj<|cA Z<|A1<|Al<|Af [6] Z (zI ((0:Nat):Int)) Z ⟨((0:Nat):Int),_,T,((6:Nat):Int),rfl,bh,⟨_,_,_,al,bg⟩,Nh,oM,Ng,oM,Nf⟩
theorem Pc (F d:Nat)(IH:∀d',d'<d→ZI F d'):cH F d:=by
 intro w S g vp dp ip s0 c0 p T vl l vv env hS hgS hR0 hp hip hs0 hc0 hbd hl henv hqenv hvp hF hwf hdp hll hen
 exact I4 w S F g vp dp ip s0 c0 p T d vl l vv env hS hgS hR0 hp hip hs0 hc0 hbd hl henv hqenv hvp hF hwf hdp hll hen IH
theorem Eb {p:Prop}(h:p:=by first|exact U0 oM|exact QJ oM oM|exact Xn hc00 hs1 oM|exact Xo hc00 hs1 oM|exact Xp hc00 hs1 oM oM hL1 oM|exact Xq hc00 hs1 oM oM hL1 oM (by assumption) hL2|exact Xr hc00 hs1 oM oM hL1 oM (by assumption) hL2|exact Xs hc00 hs1 oM oM hL1 hL2|exact S3 hc00 hs1 hkg.1 hkg.2.1 hkg.2.2.1 hkg.2.2.2 hKr oM|exact U1 hc00 hs1 oM oM hKr oM hL2|exact U2 hc00 hs1 oM oM hKr oM (U4 hrl9 oM oM)|exact Ye hc00 hs1 hkg.1 hkg.2.1 hkg.2.2.1 hkg.2.2.2 oM oM hKr oM hL2):p:=h
theorem Ec {p:Prop}(h:p:=by first|(intro h9;exact absurd h9 oM)|assumption|(intro h9;omega)|(intro h9;have:=hkb9 h9;omega)):p:=h
theorem GT {p:Prop}(h:p:=by first|assumption|exact hbd.up oM|exact JG.guard (by assumption) _ _ oM):p:=h
theorem Ed {p:Prop}(h:p:=by first|assumption|exact hbd.put _ oM|exact JG.dn (by assumption) oM oM):p:=h
theorem I5 (w:World)(S:List Nat)(F:Nat)(g:Nat)(vp:Value)(dp:Nat)(ip:Int)(s0:Nat)(c0:Int)(p:List Fn)(T:Tp)(dex:Nat)(ve:Value)(ex:Ex)(vv:Value)(env:Sr)(hS:∀b∈S,b<w.heap.size)(hgS:g∈S)(hR0:QX 69 208 2 S g w.heap vp ip T s0 c0)(hp:RP S dp w.heap vp p)(_hip:Bx ip)(hs0:s0≤3000)(hc0:0≤c0∧c0≤9)(hbd:JG T s0)(hex:RX S dex w.heap ve ex)(henv:RN S (B3 rI) w.heap vv env)(hqenv:C5 vv)(hvp:H6 p)(hF:F≤p.length)(hwf:wf p (F:Int) ex (env.length:Int)=true)(hdp:env.length+ex.deep≤1000000)(hen:c0=0→JH T env)(IH1:∀F',F'<F→∀d,ZI F' d)(IH2:∀d',d'<dex→ZI F d') :
  Calls Tryz.prog 181 #[zP g,(.agg #[(zI ex.kind),(zI ex.num),(zI ex.pick),(zI ex.count),ve]),vv] w (fun e w'=>∃(r:Int) (S':List Nat) (T':Tp) (s1:Nat) (c1:Int),e=.returned (zI r)∧Fz S S' w w'∧QX 69 208 2 S' g w'.heap vp ip T' s1 c1∧UY T T' s0 s1 c1∧(c1=0→0≤r∧r<(T'.vals.length:Int))∧(Bx r)∧AH (go c0 (GY (Kc p F) ex env s0 T)) (r,T') s1 c1):=by
 refine Aq [zP g,.agg #[zI ex.kind,zI ex.num,zI ex.pick,zI ex.count,ve],vv] 190 Tryz.func181 Z Z sM ?_
 have j4:Au S w w:=Au.refl S w
 have fi:=hp.lenle
 unfold maxLen at fi
 have fj:=hex.rn.lenle
 unfold maxLen at fj
 have fk:=henv.lenL
 unfold maxLen at fk
 obtain⟨rc0,rg0,rv0,g9,j5⟩:=hR0
 have mr:=g9.lt
 have hG0:Fz S S w w:=Fz.refl hS
 have hdk:=DI ex
 refine bZ [3,0] Z ?_
 have ky:=g9.lt
 refine Bu (cs:=#[zI ex.kind,zI ex.num,zI ex.pick,zI ex.count,ve]) Z Aa fun w1 d3 ka g0=>?_
 have ga:w.heap.size≤w1.heap.size:=d3.size
 have gb:Au S w w1:=j4.ext d3
 have ai:=g9.ext d3
 have g2:=Cu.ext j5 d3
 have g3:=hG0.ext d3
 replace g0:BX w1.heap w.heap.size [zI ex.kind,zI ex.num,zI ex.pick,zI ex.count,ve]:=g0
 refine Ac 1 Z<|A0<|bZ [0,0,0,2,0] Z<|Ad 1 Z<|AY Z Aa<|Ak (p:=zP g) 7 ES Z Z Aa<|Ai (p:=Ap (zP g) 7) (.inr Z) (zI c0) AD Z (ai.ldp (i:=7) sM) Aa ?_
 by_cases j6:c0≠((0:Nat):Int)
 ·refine AT true Z Z (A5 j6) Aa<|Aj<|Ag Z<|cA Z<|A1<|Al ?_
  exact Af [6] Z (zI ((0:Nat):Int)) Z ⟨((0:Nat):Int),_,T,s0,c0,rfl,g3,⟨_,_,_,ai,g2⟩,⟨Ed,oM⟩,Ec,oM,Eb⟩
 refine AT false Z Z (A6 j6) Aa<|Aj<|Ah Z<|A2<|A0<|bZ [0,0,0,2,0] Z<|Ad 1 Z<|AY Z Aa<|Ak (p:=zP g) 6 N3 Z Z Aa<|Ai (p:=Ap (zP g) 6) (.inr Z) (zI (s0:Int)) AD Z (ai.ldp (i:=6) sM) Aa ?_
 by_cases j7:(s0:Int)=((3000:Nat):Int)
 ·refine Am true Z Z (A5 j7) Aa<|Aj<|Ag Z<|bZ [0,0,0,4] Z<|Ad 1 Z<|AY Z Aa<|Ak (p:=zP g) 7 ES Z Z Aa (Be (k:=7) (w:=w1) Hv Z Z ⟨rfl,rfl⟩ ai sM Aa fun w6 d4 kz gc=>?_)
  replace gc:BX w6.heap g [vp,zI ip,rc0,rg0,zN,rv0,zI (s0:Int),zI ((7:Nat):Int)]:=gc
  have l0:Au S w w6:=gb.trans (d4.sub (AX hgS))
  have kb:=Cu.chg g2 d4
  have kc:=g3.set hgS d4
  have kd:w1.heap.size≤w6.heap.size:=d4.size
  have ke:=g0.chg d4 (zB ·)
  refine Aj<|cA Z<|A1<|Al ?_
  exact Af [6] Z (zI ((0:Nat):Int)) Z ⟨((0:Nat):Int),_,T,s0,((7:Nat):Int),rfl,kc,⟨_,_,_,gc,kb⟩,⟨Ed,oM⟩,Ec,oM,Eb⟩
 refine Am false Z Z (A6 j7) Aa<|Aj<|Ah Z<|A2<|bZ [0,0,0,2,0,0,0,4] Z<|Ad 1 Z<|AY Z Aa<|Ak (p:=zP g) 6 N3 Z Z Aa<|Ai (p:=Ap (zP g) 6) (.inr Z) (zI (s0:Int)) AD Z (ai.ldp (i:=6) sM) Aa<|AP ((s0+1:Nat):Int) Z Z (Bl oM oM) Aa<|AY Z Aa<|Ak (p:=zP g) 6 N3 Z Z Aa (Be (k:=6) (w:=w1) Hv Z Z ⟨rfl,rfl⟩ ai sM Aa fun f3 b0 gd aw=>?_)
 replace aw:BX f3.heap g [vp,zI ip,rc0,rg0,zN,rv0,zI ((s0+1:Nat):Int),zI c0]:=aw
 have a4:Au S w f3:=gb.trans (b0.sub (AX hgS))
 have b1:=Cu.chg g2 b0
 have a0:=g3.set hgS b0
 have d5:w1.heap.size≤f3.heap.size:=b0.size
 have ac:=g0.chg b0 (zB ·)
 refine Aj<|A0<|bZ [0,2] Z ?_
 have hc00:c0=0:=by omega
 have hs1:s0+1≤3000:=by omega
 have ax:=hen hc00
 have kf:=hbd.up (s':=s0+1) oM
 have hbn:=hbd.2
 refine Ak (p:=zP w.heap.size) 0 Bf Z Z Aa<|Ai (p:=Ap (zP w.heap.size) 0) (.inr Z) (zI ex.kind) AD Z (ac.ldp (i:=0) sM) Aa<|Aj<|A3<|bZ [0,0] Z ?_
 by_cases d6:ex.kind=((1:Nat):Int)
 ·refine Am true Z Z (A5 d6) Aa<|Ac 1 Z<|Ag Z<|bZ [0,0,2,0,0,2,4,0] Z ?_
  have hwk:=OD hwf oM
  refine Ad 1 Z<|Ak (p:=zP w.heap.size) 1 BE Z Z Aa<|Ai (p:=Ap (zP w.heap.size) 1) (.inr Z) (zI ex.num) AD Z (ac.ldp (i:=1) sM) Aa ?_
  have d7:∀(wq:World),(Instr.build 69 #[(0,zI ((2:Nat):Int)),(3,zI ex.num)]).run Tryz.prog wq=.ok (.agg #[zI ((2:Nat):Int),zI 0,zI 0,zI ex.num]) wq:=by intro wq;kernel_rfl
  refine C3 (ps:=#[(0,zI ((2:Nat):Int)),(3,zI ex.num)]) (.agg #[zI ((2:Nat):Int),zI 0,zI 0,zI ex.num]) (by simp only[zc,zf,zh];rfl) (fun wq=>d7  wq) Aa<|Ak (p:=zP w.heap.size) 1 BE Z Z Aa<|Ai (p:=Ap (zP w.heap.size) 1) (.inr Z) (zI ex.num) AD Z (ac.ldp (i:=1) sM) Aa ?_
  refine AA 101 [] [] [zP g,.agg #[zI ((2:Nat):Int),zI (0:Int),zI (0:Int),zI ex.num],zI ex.num] Z Z Qk Aa (CF _ S g vp ip (s0+1) (c0) (T) (⟨((2:Nat):Int),(0:Int),(0:Int),ex.num⟩:AE) (ex.num) (fun b hb=>(a0.lt b hb:b<f3.heap.size)) (a0.sub _ hgS) ⟨_,_,_,aw,b1⟩ _hip (by exact JG.ln (by assumption) oM) ⟨(show Bx ((2:Nat):Int)from by omega),(show Bx (0:Int)from by omega),(show Bx (0:Int)from by omega),hex.rng.num⟩ hex.rng.num) ?_
  rintro ms lj ⟨ly,rfl,an,lz,vg18,vv18,ge,gf⟩
  refine⟨_,rfl,?_⟩
  have j8:f3.heap.size≤lj.heap.size:=an.chg.size
  have kg:Au S w lj:=a4.stp an.chg a0.new
  have kh:=ac.chg an.chg fun hm=>E3
  have gg:w.heap.size∉ly:=fun hm=>(an.new _ hm).elim (fun hm=>E3) (fun h9=>by omega)
  have gh:=a0.trans an
  have j9:(T.put (⟨((2:Nat):Int),(0:Int),(0:Int),ex.num⟩:AE) (ex.num)).vals.length=T.vals.length+1:=GJ _ _ _
  have ja:(T.put (⟨((2:Nat):Int),(0:Int),(0:Int),ex.num⟩:AE) (ex.num)).grd.length=T.grd.length:=rfl
  refine Ac 1 Z<|A1<|AC<|Al ?_
  exact Af [6] Z (zI (T.vals.length:Int)) Z ⟨(T.vals.length:Int),_,T.put (⟨((2:Nat):Int),(0:Int),(0:Int),ex.num⟩:AE)<|ex.num,s0+1,c0,rfl,gh,⟨_,_,_,ge,gf⟩,⟨Ed,oM⟩,Ec,oM,Eb⟩
 refine Am false Z Z (A6 d6) Aa<|Ac 1 Z<|Ah Z<|bZ [0,0] Z ?_
 by_cases d8:ex.kind=((2:Nat):Int)
 ·refine Am true Z Z (A5 d8) Aa<|Ac 1 Z<|Ag Z<|bZ [0,0,2,0,2,0] Z ?_
  have hwk:=OE hwf oM
  have hRv:=ax ex.num.toNat oM
  refine Ad 1 Z<|Ak (p:=zP w.heap.size) 1 BE Z Z Aa<|Ai (p:=Ap (zP w.heap.size) 1) (.inr Z) (zI ex.num) AD Z (ac.ldp (i:=1) sM) Aa<|AB (v:=vv) ((ex.num).toNat) Bt BT Z Z henv.slL oM oM Aa ?_
  have da:=RN.getI (w:=w) (k:=(ex.num).toNat) henv oM
  refine Ai (p:=Ay vv ((ex.num).toNat) 1) (.inr Z) (zI<|env.getD ((ex.num).toNat) 0) AD Z (da.1 _ a4) Aa<|Ac 1 Z<|A1<|AC<|Al ?_
  exact Af [6] Z (zI<|env.getD ((ex.num).toNat) 0) Z ⟨env.getD ((ex.num).toNat) 0,_,T,s0+1,c0,rfl,a0,⟨_,_,_,aw,b1⟩,⟨Ed,oM⟩,Ec,da.2,Eb⟩
 refine Am false Z Z (A6 d8) Aa<|Ac 1 Z<|Ah Z<|bZ [0,0] Z ?_
 by_cases db:ex.kind=((8:Nat):Int)
 ·refine Am true Z Z (A5 db) Aa<|Ac 1 Z<|Ag Z<|bZ [0,0,2,0,2,0,4,0] Z ?_
  have hwk:=RH hwf oM
  refine Ad 1 Z<|Ak (p:=zP w.heap.size) 4 B9 Z Z Aa<|Ai (p:=Ap (zP w.heap.size) 4) (.inr Z) ve Bd Z (ac.ldp (i:=4) sM) Aa<|AB (v:=ve) 0 D1 Bk Z Z hex.rn.isSl Z sD Aa ?_
  obtain⟨cs28,gi,gj⟩:=hex.rn.get (Aw dex) Ex.zero (k:=0) sD
  obtain⟨dd28,cc,ki,rfl,cd⟩:=RX.of gi
  have dc:=cd.rn.lenle
  unfold maxLen at dc
  refine AK (p:=Ay ve 0 5) (.inr Z) [zI<|(ex.kids.getD 0 Ex.zero).kind,zI<|(ex.kids.getD 0 Ex.zero).num,zI<|(ex.kids.getD 0 Ex.zero).pick,zI<|(ex.kids.getD 0 Ex.zero).count,cc] B6 Z (fun fc ce=>gj fc<|a4.ext ce) Z Aa<|Ad 1 Z ?_
  refine AA 181 [] [] [zP g,.agg #[zI<|(ex.kids.getD 0 Ex.zero).kind,zI<|(ex.kids.getD 0 Ex.zero).num,zI<|(ex.kids.getD 0 Ex.zero).pick,zI<|(ex.kids.getD 0 Ex.zero).count,cc],vv] Z Z Li Aa (IH2 dd28 oM _ S g vp dp ip (s0+1) (c0) p (T) cc (ex.kids.getD 0 Ex.zero) vv (env) (fun b hb=>(a0.lt b hb:b<f3.heap.size)) (a0.sub _ hgS) ⟨_,_,_,aw,b1⟩ (RN.stp (An<|Av dp) hp a4 a0.new) _hip oM oM GT ⟨cd.rng,RN.stp (An<|Aw dd28) cd.rn a4 a0.new⟩ (RN.stp g1 henv a4 a0.new) hqenv hvp oM (by exact DG hwf oM oM) (zH<|Dh (l:=ex.kids) (k:=0) oM) (by exact fun _=>ax)) ?_
  rintro mt fb ⟨f0,l7,f1,l3,fg,rfl,ao,⟨fl,vg29,vv29,b4,b5⟩,dd,de,df,dg⟩
  refine⟨_,rfl,?_⟩
  have jb:f3.heap.size≤fb.heap.size:=ao.chg.size
  have dh:Au S w fb:=a4.stp ao.chg a0.new
  have di:=ac.chg ao.chg fun hm=>E3
  have b6:w.heap.size∉l7:=fun hm=>(ao.new _ hm).elim (fun hm=>E3) (fun h9=>by omega)
  have bi:=a0.trans ao
  have jc:=dd.bnd
  have jd:=dd.num
  have gk:=de
  have hL1:=dg
  refine Ac 1 Z<|A0<|bZ [0,0,0,2,0] Z<|Ad 1 Z<|AY Z Aa<|Ak (p:=zP g) 7 ES Z Z Aa<|Ai (p:=Ap (zP g) 7) (.inr Z) (zI fg) AD Z (b4.ldp (i:=7) sM) Aa ?_
  by_cases dj:fg≠((0:Nat):Int)
  ·refine AT true Z Z (A5 dj) Aa<|Aj<|Ag Z<|cA Z<|A1<|Al<|AC<|Al ?_
   exact Af [6] Z (zI ((0:Nat):Int)) Z ⟨((0:Nat):Int),_,f1,l3,fg,rfl,bi,⟨_,_,_,b4,b5⟩,⟨Ed,oM⟩,Ec,oM,Eb⟩
  refine AT false Z Z (A6 dj) Aa<|Aj<|Ah Z<|A2<|bZ [0,0,0,2,0,0,2,0,0] Z ?_
  have hR1c:=gk oM
  refine Ad 1 Z<|AY Z Aa<|Ak (p:=zP g) 5 DC Z Z Aa<|Ai (p:=Ap (zP g) 5) (.inr Z) vv29 Bj Z (b4.ldp (i:=5) sM) Aa<|Ad 1 Z<|AB (v:=vv29) ((f0).toNat) Bt BT Z Z (Cu.slv b5) oM oM Aa (Ai (p:=Ay vv29 ((f0).toNat) 1) (.inr Z) (zI<|f1.vals.getD ((f0).toNat) 0) AD Z ((Cu.rdv b5).getI oM).1 Aa (Am (decide (f1.vals.getD ((f0).toNat) 0=((0:Nat):Int))) Z Z Z Aa<|Ac 1 Z<|A0 ?_))
  obtain⟨Fc38,Fg38,Fv38,b7,dk,b8,ap,az,dl,bt,dm⟩:=id b5
  refine Ab _ [0,0,0,0,0,2,0,0,0,3,4,0,0,0,4] Z<|Ad 2 Z<|AY Z Aa<|Ak (p:=zP g) 1 FL Z Z Aa<|Ak (p:=Ap (zP g) 1) (b:=g) (o:=1) 2 N1 Z Z Aa<|Ai (p:=Ap (Ap (zP g) 1) 2) (.inr Z) vg29 T7 Z (b4.ldp (i:=3) sM) Aa<|Ad 2 Z ?_
  have dn:∀(wq:World),(Instr.build 208 #[(0,zI f0),(1,.bool (decide (f1.vals.getD ((f0).toNat) 0=((0:Nat):Int))))]).run Tryz.prog wq=.ok (.agg #[zI f0,.bool (decide (f1.vals.getD ((f0).toNat) 0=((0:Nat):Int)))]) wq:=by intro wq;kernel_rfl
  refine C3 (ps:=#[(0,zI f0),(1,.bool<|decide (f1.vals.getD ((f0).toNat) 0=((0:Nat):Int)))]) (.agg #[zI f0,.bool<|decide (f1.vals.getD ((f0).toNat) 0=((0:Nat):Int))]) (by simp only[zc,zf,zh];rfl) (fun wq=>dn  wq) Aa (EZ (cs:=[zI f0,.bool<|decide (f1.vals.getD ((f0).toNat) 0=((0:Nat):Int))]) (y:=(⟨f0,decide (f1.vals.getD ((f0).toNat) 0=((0:Nat):Int))⟩:Iv)) (B:=fb.heap.size) Bm Zq OV Z (by decide) Z (Xm (x:=(⟨f0,decide (f1.vals.getD ((f0).toNat) 0=((0:Nat):Int))⟩:Iv)) (B:=fb.heap.size) (U:=fb.heap.size) df) (A7 _) Aa fun m0 l8 a7 kj gl=>?_)
  have je:fb.heap.size≤l8.heap.size:=a7.size
  have kk:Au S w l8:=dh.ext a7
  have bj:=b4.ext a7
  have g4:=di.ext a7
  have kl:=(Cu.rdv b5).ext g1 a7
  have gm:=bi.ext a7
  have hOc38x:=b7.ext (Ao Bb) a7
  have hOg38x:=dk.ext (Ao Bm) a7
  have hOv38x:=b8.ext (Bc AR) a7
  refine MN (v:=vg29) (a:=m0) Bm Zq OV Z (by decide) Z Z hOg38x gl (A7 _) (Nat.zero_le _) (Nat.zero_le _) oM (by unfold maxLen;omega) Aa fun lk fd ll b9 dq bk=>?_
  have dr:l8.heap.size≤fd.heap.size:=b9.size
  obtain⟨fm,bu⟩:∃l:List Nat,l=ll++l7:=⟨_,rfl⟩
  have aq:Fz l7 fm fb fd:=by rw[bu];exact⟨fun b hb=>z1 _ hb,fun b hb=>by rcases zi.1 hb with hb|hb;(rcases bk b hb with h9|h9|h9;exact .inl (bt b h9);(have:=a7.size;omega);(have:=a7.size;omega));exact .inl hb,fun b hb=>by rcases zi.1 hb with hb|hb;exact dq.high b hb;(have:=gm.lt b hb;omega),(Au.of_ext _ a7).trans (b9.sub bt)⟩
  have ds:Cu 69 208 2 fm g fd.heap fl lk vv29 (f1.guard (f0) (decide (f1.vals.getD ((f0).toNat) 0=((0:Nat):Int)))):=⟨Fc38,ll,Fv38,(hOc38x.up a7.size).chgS (Ao Bb) b9 (fun b hb hm=>ap.1 b hm hb),dq,(hOv38x.up a7.size).chgS (Bc AR) b9 (fun b hb hm=>ap.2.2 b hb hm),⟨fun b hb hm=>by rcases bk b hm with h9|h9|h9;exact ap.1 b hb h9;(have:=b7.high b hb;omega);(have:=b7.high b hb;have:=a7.size;omega),ap.2.1,fun b hm hb=>by rcases bk b hm with h9|h9|h9;exact ap.2.2 b h9 hb;(have:=b8.high b hb;omega);(have:=b8.high b hb;have:=a7.size;omega)⟩,⟨az.1,fun hm=>by rcases bk g hm with h9|h9|h9;exact az.2.1 h9;omega;omega,az.2.2⟩,by rw[bu];exact⟨fun b hb=>z1 _ (dl b hb),fun b hb=>z8 _ hb,fun b hb=>z1 _ (dm b hb)⟩⟩
  have gn:=bj.chg b9 az.2.1
  have dr:fb.heap.size≤fd.heap.size:=aq.chg.size
  have gp:Au S w fd:=dh.stp aq.chg bi.new
  have gq:=di.chg aq.chg fun hm=>b6 hm
  have al:w.heap.size∉fm:=fun hm=>(aq.new _ hm).elim (fun hm=>b6 hm) (fun h9=>by omega)
  have gr:=bi.trans aq
  have jf:(f1.guard (f0) (decide (f1.vals.getD ((f0).toNat) 0=((0:Nat):Int)))).vals.length=f1.vals.length:=rfl
  have jg:(f1.guard (f0) (decide (f1.vals.getD ((f0).toNat) 0=((0:Nat):Int)))).grd.length=f1.grd.length+1:=NM _ _ _
  refine AY Z Aa<|Ak (p:=zP g) 1 FL Z Z Aa<|Ak (p:=Ap (zP g) 1) (b:=g) (o:=1) 2 N1 Z Z Aa (Be (k:=3) (w:=fd) bJ Z Z (Bp ds.slg) gn sM Aa fun fe ba km bl=>?_)
  replace bl:BX fe.heap g [vp,zI ip,fl,lk,zN,vv29,zI (l3:Int),zI fg]:=bl
  have ah:Au S w fe:=gp.trans (ba.sub (AX hgS))
  have dt:=Cu.chg ds ba
  have aa:=gr.set hgS ba
  have jh:fd.heap.size≤fe.heap.size:=ba.size
  have bm:=gq.chg ba (zB ·)
  refine Aj<|A0<|bZ [0] Z<|Ac 1 Z ?_
  cases bn:(decide (f1.vals.getD ((f0).toNat) 0=((0:Nat):Int)))
  ·have ji:=of_decide_eq_false bn
   refine Ah (by first|rfl|exact zW bn)<|A2<|bZ [0,0,2,0,2,0,4,0] Z<|Ad 1 Z<|Ak (p:=zP w.heap.size) 4 B9 Z Z Aa<|Ai (p:=Ap (zP w.heap.size) 4) (.inr Z) ve Bd Z (bm.ldp (i:=4) sM) Aa<|AB (v:=ve) 2 D1 Bk Z Z hex.rn.isSl Z sD Aa ?_
   obtain⟨cs60,gs,gt⟩:=hex.rn.get (Aw dex) Ex.zero (k:=2) sD
   obtain⟨dd60,cf,kn,rfl,cg⟩:=RX.of gs
   have du:=cg.rn.lenle
   unfold maxLen at du
   refine AK (p:=Ay ve 2 5) (.inr Z) [zI<|(ex.kids.getD 2 Ex.zero).kind,zI<|(ex.kids.getD 2 Ex.zero).num,zI<|(ex.kids.getD 2 Ex.zero).pick,zI<|(ex.kids.getD 2 Ex.zero).count,cf] B6 Z (fun fc ce=>gt fc<|ah.ext ce) Z Aa<|Ad 1 Z ?_
   refine AA 181 [] [] [zP g,.agg #[zI<|(ex.kids.getD 2 Ex.zero).kind,zI<|(ex.kids.getD 2 Ex.zero).num,zI<|(ex.kids.getD 2 Ex.zero).pick,zI<|(ex.kids.getD 2 Ex.zero).count,cf],vv] Z Z Li Aa (IH2 dd60 oM _ fm g vp dp ip (l3) (fg) p (f1.guard (f0)<|decide (f1.vals.getD ((f0).toNat) 0=((0:Nat):Int))) cf (ex.kids.getD 2 Ex.zero) vv (env) (fun b hb=>(aa.lt b hb:b<fe.heap.size)) (aa.sub _ hgS) ⟨_,_,_,bl,dt⟩ (RN.stp (An<|Av dp) hp ah aa.new) _hip oM oM GT ⟨cg.rng,RN.stp (An<|Aw dd60) cg.rn ah aa.new⟩ (RN.stp g1 henv ah aa.new) hqenv hvp oM (by exact DG hwf oM oM) (zH<|Dh (l:=ex.kids) (k:=2) oM) (by exact fun _=>ax.mono (by simp only[NL];omega))) ?_
   rintro mu lm ⟨lo,m1,m2,m3,m4,rfl,ar,⟨m5,vg61,vv61,gu,gv⟩,dv,dw,dx,dy⟩
   refine⟨_,rfl,?_⟩
   have jj:fe.heap.size≤lm.heap.size:=ar.chg.size
   have ko:Au S w lm:=ah.stp ar.chg aa.new
   have kp:=bm.chg ar.chg fun hm=>al hm
   have gw:w.heap.size∉m1:=fun hm=>(ar.new _ hm).elim (fun hm=>al hm) (fun h9=>by omega)
   have gx:=aa.trans ar
   have jk:=dv.bnd
   have jl:=dv.num
   have hRv:=dw
   have hL2:=dy
   refine Ac 1 Z<|A1<|AC<|Al ?_
   exact Af [6] Z (zI lo) Z ⟨lo,_,m2,m3,m4,rfl,gx,⟨_,_,_,gu,gv⟩,⟨Ed,oM⟩,Ec,dx,Eb⟩
  have jm:=of_decide_eq_true bn
  refine Ag (by first|rfl|exact zW bn)<|bZ [0,0,2,0,2,0,4,0] Z<|Ad 1 Z<|Ak (p:=zP w.heap.size) 4 B9 Z Z Aa<|Ai (p:=Ap (zP w.heap.size) 4) (.inr Z) ve Bd Z (bm.ldp (i:=4) sM) Aa<|AB (v:=ve) 1 D1 Bk Z Z hex.rn.isSl Z sD Aa ?_
  obtain⟨cs72,gy,gz⟩:=hex.rn.get (Aw dex) Ex.zero (k:=1) sD
  obtain⟨dd72,ch,kq,rfl,ci⟩:=RX.of gy
  have dz:=ci.rn.lenle
  unfold maxLen at dz
  refine AK (p:=Ay ve 1 5) (.inr Z) [zI<|(ex.kids.getD 1 Ex.zero).kind,zI<|(ex.kids.getD 1 Ex.zero).num,zI<|(ex.kids.getD 1 Ex.zero).pick,zI<|(ex.kids.getD 1 Ex.zero).count,ch] B6 Z (fun fc ce=>gz fc<|ah.ext ce) Z Aa<|Ad 1 Z ?_
  refine AA 181 [] [] [zP g,.agg #[zI<|(ex.kids.getD 1 Ex.zero).kind,zI<|(ex.kids.getD 1 Ex.zero).num,zI<|(ex.kids.getD 1 Ex.zero).pick,zI<|(ex.kids.getD 1 Ex.zero).count,ch],vv] Z Z Li Aa (IH2 dd72 oM _ fm g vp dp ip (l3) (fg) p (f1.guard (f0)<|decide (f1.vals.getD ((f0).toNat) 0=((0:Nat):Int))) ch (ex.kids.getD 1 Ex.zero) vv (env) (fun b hb=>(aa.lt b hb:b<fe.heap.size)) (aa.sub _ hgS) ⟨_,_,_,bl,dt⟩ (RN.stp (An<|Av dp) hp ah aa.new) _hip oM oM GT ⟨ci.rng,RN.stp (An<|Aw dd72) ci.rn ah aa.new⟩ (RN.stp g1 henv ah aa.new) hqenv hvp oM (by exact DG hwf oM oM) (zH<|Dh (l:=ex.kids) (k:=1) oM) (by exact fun _=>ax.mono (by simp only[NL];omega))) ?_
  rintro mv lp ⟨lq,m6,m7,m8,m9,rfl,au,⟨ma,vg73,vv73,i0,i1⟩,e0,e1,e2,e3⟩
  refine⟨_,rfl,?_⟩
  have jn:fe.heap.size≤lp.heap.size:=au.chg.size
  have kr:Au S w lp:=ah.stp au.chg aa.new
  have kt:=bm.chg au.chg fun hm=>al hm
  have i2:w.heap.size∉m6:=fun hm=>(au.new _ hm).elim (fun hm=>al hm) (fun h9=>by omega)
  have i3:=aa.trans au
  have jo:=e0.bnd
  have jp:=e0.num
  have hRv:=e1
  have hL2:=e3
  refine Ac 1 Z<|A1<|Al<|AC<|Al ?_
  exact Af [6] Z (zI lq) Z ⟨lq,_,m7,m8,m9,rfl,i3,⟨_,_,_,i0,i1⟩,⟨Ed,oM⟩,Ec,e2,Eb⟩
 refine Am false Z Z (A6 db) Aa<|Ac 1 Z<|Ah Z<|bZ [0,0] Z ?_
 by_cases e4:ex.kind=((9:Nat):Int)
 ·refine Am true Z Z (A5 e4) Aa<|Ac 1 Z<|Ag Z<|A0 ?_
  letI:JR:=QW S
  refine Jx.AO _ [0,0,1,0,1,0,0,0,0,1,0,1,0,3,3,3,4,0] mixed (by kernel_rfl) ?_
  have hwk:=OF hwf oM
  refine Jx.VU (zP g) Z Aa<|Jx.Ak (p:=zP w.heap.size) 4 B9 Z Z Aa<|Jx.ZQ (p:=Ap (zP w.heap.size) 4) ve Bd Z (fun wj hj=>(BX.chg (w:=f3.drew) (F:=S) ac hj fun hm=>zH<|hS _ hm).ldp (i:=4) sM) Aa<|Jx.AB (v:=ve) 1 D1 Bk Z Z hex.rn.isSl Z sD Aa ?_
  obtain⟨cs84,i4,i5⟩:=hex.rn.get (Aw dex) Ex.zero (k:=1) sD
  obtain⟨dd84,cj,ku,rfl,ck⟩:=RX.of i4
  have e5:=ck.rn.lenle
  unfold maxLen at e5
  refine Jx.Y6 (p:=Ay ve 1 5) [zI<|(ex.kids.getD 1 Ex.zero).kind,zI<|(ex.kids.getD 1 Ex.zero).num,zI<|(ex.kids.getD 1 Ex.zero).pick,zI<|(ex.kids.getD 1 Ex.zero).count,cj] B6 Z (fun wj hj=>i5 wj<|Au.trans a4.drew (show Au S f3.drew wj from hj)) Z Aa<|Jx.VU vv Z Aa<|Jx.Az 228 [] [] [vv] Z Z Za Aa (DJ vv) (fun wq=>EJ wq vv _ henv.slL hqenv)<|Jx.VU (zP g) Z Aa<|Jx.Ak (p:=zP w.heap.size) 4 B9 Z Z Aa<|Jx.ZQ (p:=Ap (zP w.heap.size) 4) ve Bd Z (fun wj hj=>(BX.chg (w:=f3.drew) (F:=S) ac hj fun hm=>zH<|hS _ hm).ldp (i:=4) sM) Aa ?_
  refine Jx.AB (v:=ve) 0 D1 Bk Z Z hex.rn.isSl Z sD Aa ?_
  obtain⟨cs85,i6,i7⟩:=hex.rn.get (Aw dex) Ex.zero (k:=0) sD
  obtain⟨dd85,cl,kv,rfl,cm⟩:=RX.of i6
  have e6:=cm.rn.lenle
  unfold maxLen at e6
  refine Jx.Y6 (p:=Ay ve 0 5) [zI<|(ex.kids.getD 0 Ex.zero).kind,zI<|(ex.kids.getD 0 Ex.zero).num,zI<|(ex.kids.getD 0 Ex.zero).pick,zI<|(ex.kids.getD 0 Ex.zero).count,cl] B6 Z (fun wj hj=>i7 wj<|Au.trans a4.drew (show Au S f3.drew wj from hj)) Z Aa<|Jx.VU vv Z Aa ?_
  refine Jx.As 181 [] [] [zP g,.agg #[zI<|(ex.kids.getD 0 Ex.zero).kind,zI<|(ex.kids.getD 0 Ex.zero).num,zI<|(ex.kids.getD 0 Ex.zero).pick,zI<|(ex.kids.getD 0 Ex.zero).count,cl],vv] Z Z Li Aa (IH2 dd85 oM _ S g vp dp ip (s0+1) (c0) p (T) cl (ex.kids.getD 0 Ex.zero) vv (env) (fun b hb=>(a0.drew.lt b hb:b<f3.heap.size)) (a0.drew.sub _ hgS) ⟨_,_,_,aw,b1⟩ (RN.stp (An<|Av dp) hp a4.drew a0.drew.new) _hip oM oM GT ⟨cm.rng,RN.stp (An<|Aw dd85) cm.rn a4.drew a0.drew.new⟩ (RN.stp g1 henv a4.drew a0.drew.new) hqenv hvp oM (by exact DG hwf oM oM) (zH<|Dh (l:=ex.kids) (k:=0) oM) (by exact fun _=>ax)) ?_
  rintro mw fh ⟨l4,lr,mb,mc,me,rfl,ad,⟨mf,vg86,vv86,i8,i9⟩,e7,e8,e9,ea⟩
  refine⟨_,rfl,ad.chg,?_⟩
  replace ad:=ad.of_drew
  have jq:f3.heap.size≤fh.heap.size:=ad.chg.size
  have ia:Au S w fh:=a4.stp ad.chg a0.new
  have ib:=ac.chg ad.chg fun hm=>E3
  have bb:w.heap.size∉lr:=fun hm=>(ad.new _ hm).elim (fun hm=>E3) (fun h9=>by omega)
  have ic:=a0.trans ad
  have jr:=e7.bnd
  have js:=e7.num
  have gk:=e8
  have hL1:=ea
  refine Jx.aJ<|BI (u:=zI l4) (B:=fh.heap.size) By Bt BT Z Z (Oj fh.heap.size fh.heap.size _ ⟨rfl,rfl⟩) (A7 _) Aa ?_
  intro mg l5 b2 kw ie
  refine Aj ?_
  have jt:fh.heap.size≤l5.heap.size:=b2.size
  have eb:Au S w l5:=ia.ext b2
  have bo:=i8.ext b2
  have bp:=ib.ext b2
  have ig:=Cu.ext i9 b2
  have cn:=ic.ext b2
  refine Jx.cE<|TZ (v:=vv) (a:=mg) (u:=zI<|l4) (r:=l4) Bt BT Z Z Z (RN.stp g1 henv eb cn.new) ie ⟨[],⟨rfl,rfl,e9⟩,fun b hb=>by cases hb⟩ (fun b hb=>(cn.lt b hb:b<l5.heap.size)) oM (by unfold maxLen;omega) Aa ?_
  intro ls l6 ay ec ed
  refine Aj ⟨JR.ext ay,?_⟩
  have ju:l5.heap.size≤l6.heap.size:=ay.size
  have co:Au S w l6:=eb.ext ay
  have bq:=bo.ext ay
  have br:=bp.ext ay
  have ih:=Cu.ext ig ay
  have b3:=cn.ext ay
  refine Jx.TS Z ?_
  refine AA 181 [] [] [zP g,.agg #[zI<|(ex.kids.getD 1 Ex.zero).kind,zI<|(ex.kids.getD 1 Ex.zero).num,zI<|(ex.kids.getD 1 Ex.zero).pick,zI<|(ex.kids.getD 1 Ex.zero).count,cj],ls] Z Z Li Aa (IH2 dd84 oM _ lr g vp dp ip (mc) (me) p (mb) cj (ex.kids.getD 1 Ex.zero) ls (env++[l4]) (fun b hb=>(b3.lt b hb:b<l6.heap.size)) (b3.sub _ hgS) ⟨_,_,_,bq,ih⟩ (RN.stp (An<|Av dp) hp co b3.new) _hip oM oM GT ⟨ck.rng,RN.stp (An<|Aw dd84) ck.rn co b3.new⟩ ec ed hvp oM (by have h9:=JA hwf oM oM;rw[z4,zd];exact h9) (by have:=Dh (l:=ex.kids) (k:=1) oM;rw[z4,zd];omega) (by exact fun h9=>JH.snoc (ax.mono oM)<|gk h9)) ?_
  rintro mx lu ⟨lv,mh,mi,mj,ml,rfl,af,⟨mm,vg99,vv99,ii,ij⟩,ee,ef,eg,eh⟩
  refine⟨_,rfl,?_⟩
  have jv:l6.heap.size≤lu.heap.size:=af.chg.size
  have kx:Au S w lu:=co.stp af.chg b3.new
  have jw:=br.chg af.chg fun hm=>bb hm
  have g5:w.heap.size∉mh:=fun hm=>(af.new _ hm).elim (fun hm=>bb hm) (fun h9=>by omega)
  have jx:=RN.stp g1 ec af.chg af.new
  have ik:=b3.trans af
  have jy:=ee.bnd
  have jz:=ee.num
  have hRv:=ef
  have hL2:=eh
  refine Ac 1 Z<|A1<|AC<|Al ?_
  exact Af [6] Z (zI lv) Z ⟨lv,_,mi,mj,ml,rfl,ik,⟨_,_,_,ii,ij⟩,⟨Ed,oM⟩,Ec,eg,Eb⟩
 refine Am false Z Z (A6 e4) Aa<|Ac 1 Z<|Ah Z<|A2<|bZ [0,0,2,0,4,0] Z ?_
 have hkg:ex.kind≠1∧ex.kind≠2∧ex.kind≠8∧ex.kind≠9:=by omega
 have l1:=RJ hwf hvp hF
 refine Ad 1 Z<|Ak (p:=zP w.heap.size) 4 B9 Z Z Aa<|Ai (p:=Ap (zP w.heap.size) 4) (.inr Z) ve Bd Z (ac.ldp (i:=4) sM) Aa<|Ad 1 Z ?_
 refine AA 102 [] [] [zP g,ve,vv] Z Z SW Aa (Pc F dex (fun d9 h9=>IH2 d9 oM) _ S g vp dp ip (s0+1) (c0) p (T) ve (ex.kids) vv (env) (fun b hb=>(a0.lt b hb:b<f3.heap.size)) (a0.sub _ hgS) ⟨_,_,_,aw,b1⟩ (RN.stp (An<|Av dp) hp a4 a0.new) _hip oM oM GT (RN.stp (An<|Aw dex) hex.rn a4 a0.new) (RN.stp g1 henv a4 a0.new) hqenv hvp oM (by intro k hk;exact DG hwf hk oM) (by intro k hk;have:=Dh (l:=ex.kids) (k:=k) hk;omega) oM (by exact fun _=>ax)) ?_
 rintro mn f4 ⟨f7,f2,f8,f9,f5,f6,rfl,ag,⟨fo,vg109,vv109,aj,av⟩,bv,ei,bc,cp,cq,cr⟩
 refine⟨_,rfl,?_⟩
 have ct:f3.heap.size≤f4.heap.size:=ag.chg.size
 have a8:Au S w f4:=a4.stp ag.chg a0.new
 have ae:=ac.chg ag.chg fun hm=>E3
 have ab:w.heap.size∉f8:=fun hm=>(ag.new _ hm).elim (fun hm=>E3) (fun h9=>by omega)
 have a1:=a0.trans ag
 have il:=bv.bnd
 have im:=bv.num
 have hKr:=cr
 have hKb:=cq
 have hKl:=cp
 have am:=ei.rn
 refine Ac 1 Z<|A0<|bZ [0,0,0,2,0] Z<|Ad 1 Z<|AY Z Aa<|Ak (p:=zP g) 7 ES Z Z Aa<|Ai (p:=Ap (zP g) 7) (.inr Z) (zI f6) AD Z (aj.ldp (i:=7) sM) Aa ?_
 by_cases bw:f6≠((0:Nat):Int)
 ·refine AT true Z Z (A5 bw) Aa<|Aj<|Ag Z<|cA Z<|A1<|Al ?_
  exact Af [6] Z (zI ((0:Nat):Int)) Z ⟨((0:Nat):Int),_,f9,f5,f6,rfl,a1,⟨_,_,_,aj,av⟩,⟨Ed,oM⟩,Ec,oM,Eb⟩
 refine AT false Z Z (A6 bw) Aa<|Aj<|Ah Z<|A2<|A0<|bZ [0,2] Z<|Ak (p:=zP w.heap.size) 0 Bf Z Z Aa<|Ai (p:=Ap (zP w.heap.size) 0) (.inr Z) (zI ex.kind) AD Z (ae.ldp (i:=0) sM) Aa<|Aj<|A3<|bZ [0,0] Z ?_
 by_cases bx:ex.kind=((10:Nat):Int)
 ·refine Am true Z Z (A5 bx) Aa<|Ac 1 Z<|Ag Z<|A0<|AO _ [0,0,0,0,0,1,0,1,0,0,1,0,1,0,1,0,4,0] mixed (by kernel_rfl) ?_
  have hwk:=HO hwf oM
  refine Ad 2 Z ?_
  have hvo:=hvp.outs (ex.num).toNat oM
  have hvd:=hvp.deep (ex.num).toNat oM (ex.pick).toNat oM
  refine AY Z Aa<|Ak (p:=zP g) 0 Qs Z Z Aa<|Ak (p:=Ap (zP g) 0) (b:=g) (o:=0) 0 Bv Z Z Aa<|Ai (p:=Ap (Ap (zP g) 0) 0) (.inl Z) vp BY Z (aj.ldp (i:=0) sM) Aa<|Ak (p:=zP w.heap.size) 1 BE Z Z Aa<|Ai (p:=Ap (zP w.heap.size) 1) (.inl Z) (zI ex.num) AD Z (ae.ldp (i:=1) sM) Aa ?_
  refine AB (v:=vp) ((ex.num).toNat) Gb Cj Z Z hp.isSl oM sD Aa ?_
  obtain⟨cs118,ej,bz⟩:=hp.get (Av dp) Fn.zero (k:=(ex.num).toNat) sD
  obtain⟨bd,rfl,be⟩:=RF.of ej
  have cu:=be.rn.lenle
  unfold maxLen at cu
  refine AJ (p:=Ay vp ((ex.num).toNat) 3) 2 BL Z (bz _ a8.drew) Aa<|Ai (p:=Ap (Ay vp ((ex.num).toNat) 3) 2) (.inl Z) bd Bd Z ((bz _ a8.drew).ld (i:=2) (by simp[EX,EY])) Aa<|Ak (p:=zP w.heap.size) 2 Dc Z Z Aa<|Ai (p:=Ap (zP w.heap.size) 2) (.inl Z) (zI ex.pick) AD Z (ae.ldp (i:=2) sM) Aa ?_
  refine AB (v:=bd) ((ex.pick).toNat) D1 Bk Z Z be.rn.isSl oM sD Aa ?_
  obtain⟨cs119,ek,el⟩:=be.rn.get (Aw dp) Ex.zero (k:=(ex.pick).toNat) sD
  obtain⟨dd119,bf,k0,rfl,bg⟩:=RX.of ek
  have cv:=bg.rn.lenle
  unfold maxLen at cv
  refine AK (p:=Ay bd ((ex.pick).toNat) 5) (.inl Z) [zI<|(((p.getD ((ex.num).toNat) Fn.zero).outs).getD ((ex.pick).toNat) Ex.zero).kind,zI<|(((p.getD ((ex.num).toNat) Fn.zero).outs).getD ((ex.pick).toNat) Ex.zero).num,zI<|(((p.getD ((ex.num).toNat) Fn.zero).outs).getD ((ex.pick).toNat) Ex.zero).pick,zI<|(((p.getD ((ex.num).toNat) Fn.zero).outs).getD ((ex.pick).toNat) Ex.zero).count,bf] B6 Z (fun fc ce=>el fc<|a8.drew.ext ce) Z Aa<|Ad 1 Z ?_
  refine AA 181 [] [] [zP g,.agg #[zI<|(((p.getD ((ex.num).toNat) Fn.zero).outs).getD ((ex.pick).toNat) Ex.zero).kind,zI<|(((p.getD ((ex.num).toNat) Fn.zero).outs).getD ((ex.pick).toNat) Ex.zero).num,zI<|(((p.getD ((ex.num).toNat) Fn.zero).outs).getD ((ex.pick).toNat) Ex.zero).pick,zI<|(((p.getD ((ex.num).toNat) Fn.zero).outs).getD ((ex.pick).toNat) Ex.zero).count,bf],f7] Z Z Li Aa (IH1 (ex.num).toNat oM dd119 _ f8 g vp dp ip (f5) (f6) p (f9) bf (((p.getD ((ex.num).toNat) Fn.zero).outs).getD ((ex.pick).toNat) Ex.zero) f7 (f2) (fun b hb=>(a1.drew.lt b hb:b<f4.heap.size)) (a1.drew.sub _ hgS) ⟨_,_,_,aj,av⟩ (RN.stp (An<|Av dp) hp a8.drew a1.drew.new) _hip oM oM GT ⟨bg.rng,RN.stp (An<|Aw dd119) bg.rn a8.drew a1.drew.new⟩ am bc hvp oM (by have h9:=hvp.wf (ex.num).toNat oM (ex.pick).toNat oM;rw[show(f2.length:Int)=(p.getD (ex.num).toNat Fn.zero).params from by omega];exact h9) oM hKb) ?_
  rintro mo fp ⟨fq,l9,la,lb,lc,rfl,a2,⟨lw,vg120,vv120,em,en⟩,c2,cw,cx,cy⟩
  refine⟨_,rfl,?_⟩
  replace a2:=a2.of_drew
  have io:f4.heap.size≤fp.heap.size:=a2.chg.size
  have k1:Au S w fp:=a8.stp a2.chg a1.new
  have k2:=ae.chg a2.chg fun hm=>ab hm
  have g6:w.heap.size∉l9:=fun hm=>(a2.new _ hm).elim (fun hm=>ab hm) (fun h9=>by omega)
  have k3:=RN.stp g1 am a2.chg a2.new
  have eo:=a1.trans a2
  have iq:=c2.bnd
  have ir:=c2.num
  have hRv:=cw
  have hL2:=cy
  refine Ac 1 Z<|A1<|AC<|Al ?_
  exact Af [6] Z (zI fq) Z ⟨fq,_,la,lb,lc,rfl,eo,⟨_,_,_,em,en⟩,⟨Ed,oM⟩,Ec,cx,Eb⟩
 refine Am false Z Z (A6 bx) Aa<|Ac 1 Z<|Ah Z<|bZ [0,0] Z ?_
 by_cases c3:ex.kind=((11:Nat):Int)
 ·refine Am true Z Z (A5 c3) Aa<|Ac 1 Z<|Ag Z<|A0<|bZ [0] Z ?_
  have hwk:=HO hwf oM
  have hwl:=ML hwf oM
  refine Ac 1 Z<|A3 ?_
  have hMs:=av
  have hGs:=a1
  have hns:w.heap.size∉f8:=fun hm=>ab hm
  refine B1 (S:=Nat×Value×Sr×List Nat×Tp×Nat×Int×Value×Value×Value) (fun⟨i,vk,ks,S9,T9,s9,c9,fr,vg9,vv9⟩=>([(9,vk),(10,zI (i:Int)),(0,zP g),(4,zP w.heap.size)])) (fun⟨i,vk,ks,S9,T9,s9,c9,fr,vg9,vv9⟩ W=>Au S w W∧BX W.heap g [vp,zI ip,fr,vg9,zN,vv9,zI (s9:Int),zI c9]∧BX W.heap w.heap.size [zI ex.kind,zI ex.num,zI ex.pick,zI ex.count,ve]∧i≤(ex.count).toNat∧w.heap.size∉S9∧Fz S S9 w W∧Cu 69 208 2 S9 g W.heap fr vg9 vv9 T9∧UY T T9 s0 s9 c9∧RN S9 (B3 rI) W.heap vk ks∧C5 vk∧ks.length=(p.getD (ex.num).toNat Fn.zero).outs.length∧(c9=0→JH T9 ks)∧AH (Iw (fun a t U=>HQ (Kc p (ex.num).toNat) (p.getD (ex.num).toNat Fn.zero).outs a t U) i f2 f5 f9) (ks,T9) s9 c9) (fun⟨i,vk,ks,S9,T9,s9,c9,fr,vg9,vv9⟩=>(ex.count).toNat-i) (0,f7,f2,f8,f9,f5,f6,fo,vg109,vv109) ⟨rfl,rfl,rfl,rfl,trivial⟩ ⟨a8,aj,ae,oM,hns,hGs,hMs,(by exact⟨by assumption,zO⟩),(by assumption),(by assumption),oM,hKb,(by exact⟨rfl,rfl,zO⟩)⟩ ?_
  clear j4 j5 hG0 ka d3 ga gb g2 g3 gd b0 a4 b1 a0 d5 ac av ct a8 ae a1
  rintro⟨i,vk,ks,S9,T9,s9,c9,fr,vg9,vv9⟩ ρ131 fa ⟨ak,a5,a6,g7,hnb,hGl,hMl,hPl,hrk,hck,hkl,hkb,hrl9⟩
  have is:w.heap.size≤fa.heap.size:=ak.size
  have k4:=a5.lt
  have k5:=a6.lt
  have hnl:=hPl.num
  have hbl:=hPl.bnd
  refine A0<|bZ [0,0,2,0,0,0,0,0,2,0,0] Z<|Ad 1 Z<|Ak (p:=zP w.heap.size) 3 Du Z Z Aa<|Ai (p:=Ap (zP w.heap.size) 3) (.inr Z) (zI ex.count) AD Z (a6.ldp (i:=3) sM) Aa ?_
  by_cases c4:(i:Int)<ex.count
  ·refine AG true Z Z (A5 c4) Aa<|Ad 2 Z<|AY Z (Ae (e:=156) Z Z Z)<|Ak (p:=zP g) 7 ES Z Z (Ae (e:=156) Z Z Z)<|Ai (p:=Ap (zP g) 7) (.inr Z) (zI c9) AD Z (a5.ldp (i:=7) sM) (Ae (e:=156) Z Z Z) ?_
   by_cases c5:c9=((0:Nat):Int)
   ·refine Am true Z Z (A5 c5) (Ae (e:=156) Z Z Z)<|Ac 1 Z<|Ag Z<|A2<|A0<|A3<|AO _ [0,0,0,0,0,1,0,1,0,0,1,0,4,0] mixed (by kernel_rfl)<|Ad 2 Z ?_
    have hvo:=hvp.outs (ex.num).toNat oM
    refine AY Z Aa<|Ak (p:=zP g) 0 Qs Z Z Aa<|Ak (p:=Ap (zP g) 0) (b:=g) (o:=0) 0 Bv Z Z Aa<|Ai (p:=Ap (Ap (zP g) 0) 0) (.inl Z) vp BY Z (a5.ldp (i:=0) sM) Aa<|Ak (p:=zP w.heap.size) 1 BE Z Z Aa<|Ai (p:=Ap (zP w.heap.size) 1) (.inl Z) (zI ex.num) AD Z (a6.ldp (i:=1) sM) Aa ?_
    refine AB (v:=vp) ((ex.num).toNat) Gb Cj Z Z hp.isSl oM sD Aa ?_
    obtain⟨cs136,ep,c6⟩:=hp.get (Av dp) Fn.zero (k:=(ex.num).toNat) sD
    obtain⟨bh,rfl,c7⟩:=RF.of ep
    have cz:=c7.rn.lenle
    unfold maxLen at cz
    refine AJ (p:=Ay vp ((ex.num).toNat) 3) 2 BL Z (c6 _ ak.drew) Aa<|Ai (p:=Ap (Ay vp ((ex.num).toNat) 3) 2) (.inl Z) bh Bd Z ((c6 _ ak.drew).ld (i:=2) (by simp[EX,EY])) Aa<|Ad 1 Z ?_
    refine AA 102 [] [] [zP g,bh,vk] Z Z SW Aa (Pc (ex.num).toNat dp (fun d9 h9=>IH1 (ex.num).toNat oM d9) _ S9 g vp dp ip (s9) (c9) p (T9) bh ((p.getD ((ex.num).toNat) Fn.zero).outs) vk (ks) (fun b hb=>(hGl.drew.lt b hb:b<fa.heap.size)) (hGl.drew.sub _ hgS) ⟨_,_,_,a5,hMl⟩ (RN.stp (An<|Av dp) hp ak.drew hGl.drew.new) _hip oM oM GT (RN.stp (An<|Aw dp) c7.rn ak.drew hGl.drew.new) hrk hck hvp oM (by intro k hk;have h9:=hvp.wf (ex.num).toNat oM k hk;rw[show(ks.length:Int)=(p.getD (ex.num).toNat Fn.zero).params from by omega];exact h9) (by intro k hk;have:=hvp.deep (ex.num).toNat oM k hk;omega) oM hkb) ?_
    rintro mp fs ⟨lf,ft,ff,fu,fv,fw,rfl,a3,⟨fx,vg137,vv137,eq,er⟩,c8,es,it,iu,iv,iw⟩
    refine⟨_,rfl,?_⟩
    replace a3:=a3.of_drew
    have ix:fa.heap.size≤fs.heap.size:=a3.chg.size
    have et:Au S w fs:=ak.stp a3.chg hGl.new
    have eu:=a6.chg a3.chg fun hm=>hnb hm
    have bs:w.heap.size∉ff:=fun hm=>(a3.new _ hm).elim (fun hm=>hnb hm) (fun h9=>by omega)
    have k6:=RN.stp g1 hrk a3.chg a3.new
    have ev:=hGl.trans a3
    have iy:=c8.bnd
    have iz:=c8.num
    have j0:=es.rn
    refine Ac 1 Z<|Ab _ [0,0,0] Z<|Ad 1 Z<|AP ((i+1:Nat):Int) Z Z (Bl oM oM) Aa<|Ac 1 Z ?_
    have hMe:=er
    have hGe:=ev
    have hPe:UY T fu s0 fv fw:=⟨by assumption,zO⟩
    have hne:w.heap.size∉ff:=fun hm=>bs hm
    exact⟨(i+1,lf,ft,ff,fu,fv,fw,fx,vg137,vv137),_,rfl,zR,⟨et,eq,eu,oM,hne,hGe,hMe,hPe,(by assumption),(by assumption),oM,(by assumption),(by exact Xt hrl9 oM (by assumption))⟩,zD⟩
   refine Am false Z Z (A6 c5) (Ae (e:=156) Z Z Z)<|Ac 1 Z<|Ah Z<|A4<|Ax<|Ax<|At<|bZ [0,0,2,0,2,0] Z ?_
   have hkb9:=fun h9:c9=0=>hkb h9 (ex.pick).toNat oM
   refine Ad 1 Z<|Ak (p:=zP w.heap.size) 2 Dc Z Z Aa<|Ai (p:=Ap (zP w.heap.size) 2) (.inr Z) (zI ex.pick) AD Z (a6.ldp (i:=2) sM) Aa<|AB (v:=vk) ((ex.pick).toNat) Bt BT Z Z hrk.slL oM oM Aa ?_
   have ca:=RN.getI (w:=fa) (k:=(ex.pick).toNat) hrk oM
   refine Ai (p:=Ay vk ((ex.pick).toNat) 1) (.inr Z) (zI<|ks.getD ((ex.pick).toNat) 0) AD Z (ca.1 _<|Au.refl _ _) Aa<|Ac 1 Z<|A1<|AC<|Al ?_
   exact Af [6] Z (zI<|ks.getD ((ex.pick).toNat) 0) Z ⟨ks.getD ((ex.pick).toNat) 0,_,T9,s9,c9,rfl,hGl,⟨_,_,_,a5,hMl⟩,⟨Ed,oM⟩,Ec,ca.2,Eb⟩
  refine AG false Z Z (A6 c4) Aa<|Ac 7 Z<|Ah Z<|A4<|Ax<|Ax<|At<|bZ [0,0,2,0,2,0] Z ?_
  have hkb9:=fun h9:c9=0=>hkb h9 (ex.pick).toNat oM
  refine Ad 1 Z<|Ak (p:=zP w.heap.size) 2 Dc Z Z Aa<|Ai (p:=Ap (zP w.heap.size) 2) (.inr Z) (zI ex.pick) AD Z (a6.ldp (i:=2) sM) Aa<|AB (v:=vk) ((ex.pick).toNat) Bt BT Z Z hrk.slL oM oM Aa ?_
  have cb:=RN.getI (w:=fa) (k:=(ex.pick).toNat) hrk oM
  refine Ai (p:=Ay vk ((ex.pick).toNat) 1) (.inr Z) (zI<|ks.getD ((ex.pick).toNat) 0) AD Z (cb.1 _<|Au.refl _ _) Aa<|Ac 1 Z<|A1<|AC<|Al ?_
  exact Af [6] Z (zI<|ks.getD ((ex.pick).toNat) 0) Z ⟨ks.getD ((ex.pick).toNat) 0,_,T9,s9,c9,rfl,hGl,⟨_,_,_,a5,hMl⟩,⟨Ed,oM⟩,Ec,cb.2,Eb⟩
 refine Am false Z Z (A6 c3) Aa<|Ac 1 Z<|Ah Z<|A2<|bZ [0,0,2,0,0,0,4,0] Z ?_
 have hkb9:=hKb oM
 have l2:3≤ex.kind∧ex.kind≤7:=by have:=(CT (CE hwf)).1;omega
 have hkl:1≤ex.kids.length∧(ex.kind≠7→2≤ex.kids.length):=by by_cases h7:ex.kind=7;(have:=OG hwf h7;omega);(have:=JB hwf oM;omega)
 refine Ad 1 Z<|Ak (p:=zP w.heap.size) 0 Bf Z Z Aa<|Ai (p:=Ap (zP w.heap.size) 0) (.inr Z) (zI ex.kind) AD Z (ae.ldp (i:=0) sM) Aa<|Bs (ex.kind-((3:Nat):Int)) Z Z (Da oM oM) Aa<|AP ex.kind Z Z (ZV oM oM oM) Aa<|Ad 1 Z ?_
 refine AA 229 [] [] [zP g,zI ex.kind,f7] Z Z Zb Aa (FA _ f8 g vp dp ip (f5) (f6) p (f9) (ex.kind) f7 (f2) (fun b hb=>(a1.lt b hb:b<f4.heap.size)) (a1.sub _ hgS) ⟨_,_,_,aj,av⟩ (RN.stp (An<|Av dp) hp a8 a1.new) _hip oM oM GT oM am bc oM oM hkb9 oM) ?_
 rintro mq fy ⟨fz,lg,lh,li,rfl,a9,⟨lx,vg148,vv148,ew,ey⟩,j1,j2,d0,d1,d2⟩
 refine⟨_,rfl,?_⟩
 have j3:f4.heap.size≤fy.heap.size:=a9.chg.size
 have k7:Au S w fy:=a8.stp a9.chg a1.new
 have k8:=ae.chg a9.chg fun hm=>ab hm
 have g8:w.heap.size∉lg:=fun hm=>(a9.new _ hm).elim (fun hm=>ab hm) (fun h9=>by omega)
 have k9:=RN.stp g1 am a9.chg a9.new
 have ez:=a1.trans a9
 have hRv:=d0
 have hL2:=d2
 refine Ac 1 Z<|A1 ?_
 exact Af [6] Z (zI fz) Z ⟨fz,_,lh,f5,li,rfl,ez,⟨_,_,_,ew,ey⟩,⟨Ed,oM⟩,Ec,d1,Eb⟩
theorem XX:∀F d,ZI F d:=by
 intro F
 induction F using Nat.strongRecOn with
 |_ F ihF =>
  intro d
  induction d using Nat.strongRecOn with
  |_ d ihd =>
   intro w S g vp dp ip s0 c0 p T ve ex vv env hS hgS a0 hp hip a1 a2 hbd hex henv hqenv hvp hF hwf hdp hen
   exact I5 w S F g vp dp ip s0 c0 p T d ve ex vv env hS hgS a0 hp hip a1 a2 hbd hex henv hqenv hvp hF hwf hdp hen ihF ihd
theorem XY (F d:Nat):cH F d:=Pc F d fun d' _=>XX F d'
theorem Qz {p:Prop}(h:p:=by have h9:=hm;rw[hSd]at h9;have:=A9 h9;omega):p:=h
theorem Tw {p:Prop}(h:p:=by simp only[zc,zf,zh];rfl):p:=h
theorem M2 (w:World)(dp:Nat)(vp:Value)(p:List Fn)(f:Int)(va:Value)(a:Sr)(hp:RP [] dp w.heap vp p)(_hf:Bx f)(ha:RN [] (B3 rI) w.heap va a)(hok:G7 p=true)(hz:PJ p)(hf:0≤f∧f<(p.length:Int))(hl:(a.length:Int)=(p.getD f.toNat Fn.zero).params)(hna:B2 a=true) :
  Calls Tryz.prog 29 #[(.agg #[vp]),zI f,va] w (fun e w'=>∃(i0:Int) (vc vg vo:Value) (xs:Sr) (T':Tp) (s1:Nat) (c1:Int),e=.returned (.tuple #[.agg #[zI i0,vc,vg,vo],zI c1])∧AF w w'∧AH (MR p f.toNat a) (xs,T') s1 c1∧(0≤c1∧c1≤9)∧(∀u∈[vc,vg,vo],u.cells=#[u]∧u.oneCell'=true)∧Bx i0∧(c1=0→i0=(p.getD f.toNat Fn.zero).params∧JG T' s1∧s1≤3000∧xs.length=(p.getD f.toNat Fn.zero).outs.length∧JH T' xs∧RG w.heap.size (DM 4 On) w'.heap vc T'.code∧RG w.heap.size (DM 2 Oo) w'.heap vg T'.grd∧RG w.heap.size (B3 rI) w'.heap vo xs)):=by
 refine Aq [.agg #[vp],zI f,va] 87 Tryz.func29 Z Z sM ?_
 have dq:AF w w:=AF.refl w
 have f7:=hp.lenle
 unfold maxLen at f7
 have f8:=ha.lenL
 unfold maxLen at f8
 have f9:=FG hok
 have fv:=f9.par f.toNat oM
 have fw:=f9.outs f.toNat oM
 have hi:NP p f=0:=by unfold NP;rw[if_pos hok,if_pos oM]
 refine bZ [3,3,0] Z (Bu (cs:=#[vp]) Z Aa fun w1 cj e8 cf=>?_)
 have ck:=cj.size
 have dr:=dq.trans cj
 replace cf:BX w1.heap w.heap.size [vp]:=cf
 have ey:=cf.lt
 refine Bo (z:=.agg #[zI 0,zN,zN,zN]) Zr Aa fun w2 cg e9 cl=>?_
 have cm:=cg.size
 have cn:=dr.trans cg
 have aq:=cf.ext cg
 replace cl:BX w2.heap w1.heap.size [zI 0,zN,zN,zN]:=cl
 refine Ac 1 Z<|bZ [2,0,3,0] Z<|AK (p:=zP w.heap.size) (.inr Z) [vp] BZ Z (fun fj ba=>LD.of_box<|BX.ext (w:=w2) aq ba) Z Aa<|Ad 1 Z<|As 100 [] [] [.agg #[vp],zI f] Z Z Vm Aa (If _ dp vp (p) _ (hp.ext (An<|Av dp) cn) _hf hz) ?_
 rintro e4 w4 ⟨rfl,b8⟩
 refine⟨_,rfl,b8,?_⟩
 have co:=b8.size
 have bb:=cn.trans b8
 have ar:=aq.ext b8
 have bc:=cl.ext b8
 refine Ac 1 Z<|A0<|bZ [0,0,0,0,0,2,0,0,0,2,3,0,0] Z<|Ad 1 Z ?_
 have ea:NP p f=((0:Nat):Int):=hi
 refine Am true Z Z (A5 ea) Aa<|Ad 2 Z<|Ak (p:=zP w.heap.size) 0 Bv Z Z (Ae (e:=18) Z Z Z)<|Ai (p:=Ap (zP w.heap.size) 0) (.inr Z) vp BY Z (ar.ldp (i:=0) sM) (Ae (e:=18) Z Z Z)<|Ad 1 Z<|AB (v:=vp) ((f).toNat) Gb Cj Z Z hp.isSl oM sD (Ae (e:=18) Z Z Z) ?_
 obtain⟨cs6,eb,ch⟩:=hp.get (Av dp) Fn.zero (k:=(f).toNat) sD
 obtain⟨ez,rfl,ds⟩:=RF.of eb
 have bd:=ds.rn.lenle
 unfold maxLen at bd
 refine AJ (p:=Ay vp ((f).toNat) 3) 1 C2 Z (ch _<|Au.of_ext [] bb) (Ae (e:=18) Z Z Z)<|Ai (p:=Ap (Ay vp ((f).toNat) 3) 1) (.inr Z) (zI<|(p.getD ((f).toNat) Fn.zero).params) AD Z ((ch _<|Au.of_ext [] bb).ld (i:=1) (by simp[EX,EY])) (Ae (e:=18) Z Z Z)<|As 86 [] [] [va,zI<|(p.getD ((f).toNat) Fn.zero).params] Z Z Uw (Ae (e:=18) Z Z Z) (Dd _ _ _ _ (ha.ext g1 bb).rd ds.rng) ?_
 rintro e7 w7 ⟨rfl,b9⟩
 refine⟨_,rfl,b9,?_⟩
 have cp:=b9.size
 have ci:=bb.trans b9
 have ae:=ar.ext b9
 have au:=bc.ext b9
 rw[show(decide ((a.length:Int)=((p.getD ((f).toNat) Fn.zero).params)) && B2 a)=true from(by rw[A5 oM,hna];rfl)]
 refine Bn false Z Z (Ae (e:=18) Z Z Z)<|Ac 1 Z<|Ah Z<|A2<|A0<|bZ [0,0] Z<|Ad 1 Z ?_
 have ec:¬(NP p f≠((0:Nat):Int)):=(fun h9=>h9 hi)
 refine AT false Z Z (A6 ec) Aa<|Aj<|Ah Z<|A2<|A0<|AO _ [1,0,1,0,0,0,1,0,0,3,0] mixed (by kernel_rfl)<|AK (p:=zP w.heap.size) (.inl Z) [vp] BZ Z (fun fj ba=>LD.of_box<|BX.ext (w:=w7.drew) ae ba) Z Aa<|Ak (p:=zP w.heap.size) 0 Bv Z Z Aa<|Ai (p:=Ap (zP w.heap.size) 0) (.inl Z) vp BY Z (ae.ldp (i:=0) sM) Aa<|Ad 1 Z ?_
 refine AB (v:=vp) ((f).toNat) Gb Cj Z Z hp.isSl oM sD Aa<|AJ (p:=Ay vp ((f).toNat) 3) 1 C2 Z (ch _<|Au.of_ext [] ci.drew) Aa<|Ai (p:=Ap (Ay vp ((f).toNat) 3) 1) (.inl Z) (zI<|(p.getD ((f).toNat) Fn.zero).params) AD Z ((ch _<|Au.of_ext [] ci.drew).ld (i:=1) (by simp[EX,EY])) Aa ?_
 have cq:∀(wq:World),(Instr.build 55 #[(0,zI ((p.getD ((f).toNat) Fn.zero).params))]).run Tryz.prog wq=.ok (.agg #[zI ((p.getD ((f).toNat) Fn.zero).params),zN,zN,zN]) wq:=by intro wq;kernel_rfl
 refine C3 (ps:=#[(0,zI<|(p.getD ((f).toNat) Fn.zero).params)]) (.agg #[zI<|(p.getD ((f).toNat) Fn.zero).params,zN,zN,zN]) Tw (fun wq=>cq  wq) Aa ?_
 have be:∀(vp:Value) (f2:Nat) (h10_0:EA vp f2) (wq:World),(Instr.build 129 #[(0,.agg #[vp]),(1,.agg #[zI ((p.getD ((f).toNat) Fn.zero).params),zN,zN,zN])]).run Tryz.prog wq=.ok (.agg #[vp,zI ((p.getD ((f).toNat) Fn.zero).params),zN,zN,zN,zN,zI 0,zI 0]) wq:=by intro vp f2 h10_0 wq;obtain⟨a10_0,fk,rfl,_⟩:=h10_0;kernel_rfl
 refine C3 (ps:=#[(0,.agg #[vp]),(1,.agg #[zI<|(p.getD ((f).toNat) Fn.zero).params,zN,zN,zN])]) (.agg #[vp,zI<|(p.getD ((f).toNat) Fn.zero).params,zN,zN,zN,zN,zI 0,zI 0]) Tw (fun wq=>be vp _ hp.isSl wq) Aa ?_
 have ed:=ae.lt
 have ee:=au.lt
 refine Bu (cs:=#[vp,zI<|(p.getD ((f).toNat) Fn.zero).params,zN,zN,zN,zN,zI 0,zI 0]) Z Aa fun f0 a9 cr ak=>?_
 replace a9:=a9.of_drew
 have bf:=a9.size
 have bg:=ci.trans a9
 have av:=ae.ext a9
 have aw:=au.ext a9
 replace ak:BX f0.heap w7.drew.heap.size [vp,zI ((p.getD ((f).toNat) Fn.zero).params),zN,zN,zN,zN,zI 0,zI 0]:=ak
 refine Ac 1 Z<|bZ [3,0] Z ?_
 obtain⟨S,hSd⟩:∃S:List Nat,S=[w7.heap.size]:=⟨_,rfl⟩
 have hgS:w7.heap.size∈S:=by rw[hSd];exact List.mem_singleton.2 Z
 have hlr:w7.heap.size<f0.heap.size:=BX.lt ak
 have hMb:Cu 69 208 2 S w7.heap.size f0.heap zN zN zN (Jd a 0):=Cu.nil
 have hGb:Fz S S w f0:=⟨fun _ h=>h,fun b hb=>.inl hb,fun b hb=>by rw[hSd]at hb;have:=A9 hb;omega,Au.of_ext S bg⟩
 have hEb:Au S w f0:=hGb.chg
 have hSn:∀b∈S,w.heap.size≤b:=fun b hb=>by rw[hSd]at hb;have:=A9 hb;omega
 have hBb:BX f0.heap w7.heap.size [vp,zI ((p.getD f.toNat Fn.zero).params),zN,zN,zN,zN,zI ((0:Nat):Int),zI ((0:Nat):Int)]:=ak
 have ax:RN S (DM 3 (UR dp)) w.heap vp p:=by rw[hSd];exact RN.add (An (Av dp)) hp (fun b hb=>zH<|A9 hb)
 have ay:RN S (B3 rI) w.heap va a:=by rw[hSd];exact RN.add g1 ha (fun b hb=>zH<|A9 hb)
 refine CQ (rI) AR Bt BT Aa fun fp fl a4 ct bh=>?_
 have bi:f0.heap.size≤fl.heap.size:=a4.size
 have bj:Au S w fl:=hEb.ext a4
 have az:=av.ext a4
 have b0:=aw.ext a4
 have b1:=hBb.ext a4
 have bk:=Cu.ext hMb a4
 have bl:=hGb.ext a4
 refine Ac 1 Z<|A0<|bZ [0,0,0] Z<|Ad 1 Z<|AQ (v:=va) Bt Z ay.slL Aa<|Ac 1 Z<|A3 ?_
 have hBO:w.heap.size≤f0.heap.size∧w7.heap.size<f0.heap.size:=by omega
 have bm:w.heap.size∉S:=fun hm=>Qz
 have bn:w1.heap.size∉S:=fun hm=>Qz
 obtain⟨Fo0,bo⟩:=Ow.of_fr bh (A7 _)
 have cu:∀b∈Fo0,b∉S:=fun b hb hm=>by have:=bo.low b hb;have:=hGb.lt b hm;omega
 have hMs:=bk
 have hGs:=bl
 have hnswheaps:w.heap.size∉S:=fun hm=>Qz
 have hnsw1heap:w1.heap.size∉S:=fun hm=>Qz
 refine B1 (S:=Nat×Value×Sr×List Nat×List Nat×Value×Value×Value) (fun⟨k,vo,xs,Fo,S9,fa,vg9,vv9⟩=>([(10,vo),(46,zI (k:Int)),(1,zI f),(3,zP w.heap.size),(6,zP w1.heap.size),(9,zP w7.heap.size),(44,va),(45,zI (a.length:Int))])) (fun⟨k,vo,xs,Fo,S9,fa,vg9,vv9⟩ W=>Au S w W∧BX W.heap w.heap.size [vp]∧BX W.heap w1.heap.size [zI 0,zN,zN,zN]∧BX W.heap w7.heap.size [vp,zI (p.getD f.toNat Fn.zero).params,fa,vg9,zN,vv9,zI ((0:Nat):Int),zI ((0:Nat):Int)]∧k≤a.length∧f0.heap.size≤W.heap.size∧Fz S S9 w W∧Cu 69 208 2 S9 w7.heap.size W.heap fa vg9 vv9 (Jd a k)∧Ow (Bh rI 2) f0.heap.size W.heap.size W.heap vo xs Fo∧(∀b∈Fo,b∉S9)∧xs=GZ k∧w.heap.size∉S9∧w1.heap.size∉S9) (fun⟨k,vo,xs,Fo,S9,fa,vg9,vv9⟩=>a.length-k) (0,fp,[],Fo0,S,zN,zN,zN) ⟨rfl,rfl,rfl,rfl,rfl,rfl,rfl,rfl,trivial⟩ ⟨bj,az,b0,b1,oM,oM,hGs,hMs,bo,cu,(by rfl),bm,bn⟩ ?_
 clear dq e8 cj ck dr e9 cg cm cn b8 co bb bd b9 cp ci cr a9 bf bg bh ct a4 bi bj bk bl
 rintro⟨k,vo,xs,Fo,S9,fa,vg9,vv9⟩ ρ21 fb ⟨a5,a3,aa,ab,cv,hbw,hGl,hMl,hOl,hdl,hxe,af,ag⟩
 have dt:w.heap.size≤fb.heap.size:=a5.size
 have ef:=a3.lt
 have eg:=aa.lt
 have eh:=ab.lt
 refine bZ [0] Z ?_
 by_cases bp:(k:Int)<(a.length:Int)
 ·refine AG true Z Z (A5 bp) Aa<|Aj<|A0<|Ag Z<|A2<|A0<|A3<|bZ [0,0,2,0,0] Z ?_
  have hak:=C6 hna k
  have hvk:=JI a k
  have hxk:xs.length=k:=by rw[hxe,Gm]
  refine Ad 1 Z<|AB (v:=va) k Bt BT Z Z ay.slL Z sD Aa ?_
  have bq:=RN.getI (w:=w) (k:=k) ay sD
  refine Ai (p:=Ay va k 1) (.inr Z) (zI<|a.getD k 0) AD Z (bq.1 _ a5) Aa<|Ac 2 Z<|Ab _ [0,0,0,0,0,4,3,4,0] Z<|Ad 3 Z ?_
  have br:∀(wq:World),(Instr.build 69 #[(0,zI ((1:Nat):Int)),(3,zI (k:Int))]).run Tryz.prog wq=.ok (.agg #[zI ((1:Nat):Int),zI 0,zI 0,zI (k:Int)]) wq:=by intro wq;kernel_rfl
  refine C3 (ps:=#[(0,zI ((1:Nat):Int)),(3,zI (k:Int))]) (.agg #[zI ((1:Nat):Int),zI 0,zI 0,zI (k:Int)]) Tw (fun wq=>br  wq) Aa<|Ad 1 Z ?_
  refine AA 101 [] [] [zP w7.heap.size,.agg #[zI ((1:Nat):Int),zI (0:Int),zI (0:Int),zI (k:Int)],zI<|a.getD k 0] Z Z Qk Aa (CF _ S9 w7.heap.size vp ((p.getD f.toNat Fn.zero).params) (0) ((0:Nat):Int) (Jd a k) (⟨((1:Nat):Int),(0:Int),(0:Int),(k:Int)⟩:AE) (a.getD k 0) (fun b hb=>(hGl.lt b hb:b<fb.heap.size)) (hGl.sub _ hgS) ⟨_,_,_,ab,hMl⟩ oM (by rw[MQ,JI];omega) ⟨(show Bx ((1:Nat):Int)from by omega),(show Bx (0:Int)from by omega),(show Bx (0:Int)from by omega),(show Bx (k:Int)from by omega)⟩ bq.2) ?_
  rintro fx f6 ⟨f3,rfl,a0,ff,vg28,vv28,cw,cx⟩
  refine⟨_,rfl,?_⟩
  have du:fb.heap.size≤f6.heap.size:=a0.chg.size
  have cy:Au S w f6:=a5.stp a0.chg hGl.new
  have cz:=a3.chg a0.chg fun hm=>af hm
  have b2:w.heap.size∉f3:=fun hm=>(a0.new _ hm).elim (fun hm=>af hm) (fun h9=>by omega)
  have d0:=aa.chg a0.chg fun hm=>ag hm
  have b3:w1.heap.size∉f3:=fun hm=>(a0.new _ hm).elim (fun hm=>ag hm) (fun h9=>by omega)
  have d1:=hOl.keep (Bc AR) a0.chg fun b hb hm=>hdl b hm hb
  have ai:∀b∈Fo,b∉f3:=fun b hb hm=>(a0.new b hm).elim (hdl b hb) (fun h9=>zH<|hOl.high b hb)
  have d2:=hGl.trans a0
  have dv:((Jd a k).put (⟨((1:Nat):Int),(0:Int),(0:Int),(k:Int)⟩:AE) (a.getD k 0)).vals.length=(Jd a k).vals.length+1:=GJ _ _ _
  have dw:((Jd a k).put (⟨((1:Nat):Int),(0:Int),(0:Int),(k:Int)⟩:AE) (a.getD k 0)).grd.length=(Jd a k).grd.length:=rfl
  refine (BI (u:=zI (((Jd a k).vals.length:Nat):Int)) (B:=f6.heap.size) AR Bt BT Z Z (Ov f6.heap.size f6.heap.size _ _ oM) (A7 _) Aa ?_)
  intro fq fg a6 ei d3
  have dx:f6.heap.size≤fg.heap.size:=a6.size
  have d4:Au S w fg:=cy.ext a6
  have al:=cz.ext a6
  have am:=d0.ext a6
  have an:=cw.ext a6
  have d5:=Cu.ext cx a6
  have bs:=d2.ext a6
  have hO38k:=d1.ext (Bc AR) a6
  refine KX (v:=vo) (a:=fq) Bt BT Z Z Z hO38k d3.rd1 oM sD (by unfold maxLen;first|omega|assumption|(simp;done)|(simp;omega)) Aa fun fs fm fo ac ej d6=>?_
  have dy:fg.heap.size≤fm.heap.size:=ac.size
  have d7:Au S w fm:=d4.fresh ac (fun c hc=>zH<|hO38k.low c hc)
  have ek:∀b∈fo,b∉f3:=fun b hb hm=>(d6 b hb).elim (fun h9=>ai b h9 hm) (fun h9=>zH<|bs.lt b hm)
  have d8:=Cu.chgO d5 ac ai
  have d9:=bs.fresh ac fun c hc=>zH<|hO38k.low c hc
  have da:=al.chg ac fun hm=>zH<|hO38k.low _ hm
  have db:=am.chg ac fun hm=>zH<|hO38k.low _ hm
  have dc:=an.chg ac fun hm=>zH<|hO38k.low _ hm
  refine Ac 1 Z<|Ab _ [0,0] Z<|AP ((k+1:Nat):Int) Z Z (Bl oM oM) Aa<|Ac 1 Z ?_
  have hMe:=d8
  have hGe:=d9
  have bt:w.heap.size∉f3:=fun hm=>b2 hm
  have bu:w1.heap.size∉f3:=fun hm=>b3 hm
  exact⟨(k+1,fs,xs++[(((Jd a k).vals.length:Nat):Int)],fo,f3,ff,vg28,vv28),_,rfl,zR,⟨d7,da,db,dc,oM,oM,hGe,hMe,(by assumption),(by assumption),(by rw[hxe,JI];exact(OQ k).symm),bt,bu⟩,zD⟩
 refine AG false Z Z (A6 bp) Aa<|Aj<|A0<|Ah Z<|A4<|Ax<|Ax<|At<|bZ [0,0,0,2,0,0,0,2,0,4,0,0,0,4] Z ?_
 have hkl:k=a.length:=by omega
 refine Ad 2 Z<|Ak (p:=zP w.heap.size) 0 Bv Z Z Aa<|Ai (p:=Ap (zP w.heap.size) 0) (.inr Z) vp BY Z (a3.ldp (i:=0) sM) Aa<|Ad 1 Z<|AB (v:=vp) ((f).toNat) Gb Cj Z Z ax.isSl oM sD Aa ?_
 obtain⟨cs46,dd,bv⟩:=ax.get (Av dp) Fn.zero (k:=(f).toNat) sD
 obtain⟨b4,rfl,bw⟩:=RF.of dd
 have bx:=bw.rn.lenle
 unfold maxLen at bx
 refine AJ (p:=Ay vp ((f).toNat) 3) 2 BL Z (bv _ a5) Aa<|Ai (p:=Ap (Ay vp ((f).toNat) 3) 2) (.inr Z) b4 Bd Z ((bv _ a5).ld (i:=2) (by simp[EX,EY])) Aa<|Ad 1 Z ?_
 refine AA 102 [] [] [zP w7.heap.size,b4,vo] Z Z SW Aa (XY f.toNat dp _ S9 w7.heap.size vp dp ((p.getD f.toNat Fn.zero).params) (0) ((0:Nat):Int) p (Jd a k) b4 ((p.getD ((f).toNat) Fn.zero).outs) vo (xs) (fun b hb=>(hGl.lt b hb:b<fb.heap.size)) (hGl.sub _ hgS) ⟨_,_,_,ab,hMl⟩ (RN.stp (An<|Av dp) ax a5 hGl.new) oM oM oM (by rw[hkl];exact Yh hna oM) (RN.stp (An<|Aw dp) bw.rn a5 hGl.new) (RN.of_ow hOl hdl) hOl.fr.cap f9 oM (by intro j hj;have h9:=f9.wf f.toNat oM j hj;rw[hxe,Gm,hkl,hl];exact h9) (by intro j hj;have h9:=f9.deep f.toNat oM j hj;rw[hxe,Gm];omega) oM (by exact fun _=>by rw[hxe];exact Yi a k)) ?_
 rintro fy fd ⟨fc,ft,fe,fz,fu,f4,rfl,a1,⟨f1,vg47,vv47,de,df⟩,bz,c0,dz,c2,c3,c4⟩
 refine⟨_,rfl,?_⟩
 have e0:fb.heap.size≤fd.heap.size:=a1.chg.size
 have dg:Au S w fd:=a5.stp a1.chg hGl.new
 have dh:=a3.chg a1.chg fun hm=>af hm
 have di:w.heap.size∉fe:=fun hm=>(a1.new _ hm).elim (fun hm=>af hm) (fun h9=>by omega)
 have dj:=aa.chg a1.chg fun hm=>ag hm
 have aj:w1.heap.size∉fe:=fun hm=>(a1.new _ hm).elim (fun hm=>ag hm) (fun h9=>by omega)
 have b5:=hOl.keep (Bc AR) a1.chg fun b hb hm=>hdl b hm hb
 have dk:∀b∈Fo,b∉fe:=fun b hb hm=>(a1.new b hm).elim (hdl b hb) (fun h9=>zH<|hOl.high b hb)
 have c5:=hGl.trans a1
 have e1:=bz.bnd
 have e2:=bz.num
 have hKr:=c4
 have hKb:=c3
 have hKl:=c2
 rw[hxe,hkl]at hKr
 replace hKr:=AH.go0 hKr
 have c6:=c0.rn
 refine AY Z Aa<|Ak (p:=zP w7.heap.size) 1 FL Z Z Aa<|Ak (p:=Ap (zP w7.heap.size) 1) (b:=w7.heap.size) (o:=1) 3 Lm Z Z Aa (Be (k:=4) (w:=fd) QR Z Z (Bp c6.slL) de sM Aa fun f5 a7 el ad=>?_)
 replace ad:BX f5.heap w7.heap.size [vp,zI ((p.getD f.toNat Fn.zero).params),f1,vg47,fc,vv47,zI (fu:Int),zI f4]:=ad
 have c7:Au S w f5:=dg.trans (a7.sub (AX hgS))
 have ao:=Cu.chg df a7
 have c8:=c5.set hgS a7
 have e3:fd.heap.size≤f5.heap.size:=a7.size
 have c9:=dh.chg a7 (zB ·)
 have ca:=dj.chg a7 (zB ·)
 have ah:=b5.keep (Bc AR) a7 fun b hb hm=>by have:=A9 hb;have:=b5.low _ hm;have:=b5.high _ hm;omega
 have hF63l:=c0.upd g1 a7 fun b hb=>by rw[A9 hb];exact .inl (c5.sub _ hgS)
 have dl:=hF63l.rn
 refine Aj<|A0<|bZ [0,0,0,2,0] Z<|Ad 1 Z<|AY Z Aa<|Ak (p:=zP w7.heap.size) 7 ES Z Z Aa<|Ai (p:=Ap (zP w7.heap.size) 7) (.inr Z) (zI f4) AD Z (ad.ldp (i:=7) sM) Aa ?_
 by_cases cb:f4≠((0:Nat):Int)
 ·refine AT true Z Z (A5 cb) Aa<|Aj<|Ag Z<|A0 ?_
  letI:JR:=QW [w1.heap.size]
  refine Jx.AO _ [0,0,0,0,1,3,0] mixed (by kernel_rfl)<|Jx.j1 ?_
  have cc:∀(wq:World),(Instr.build 55 #[]).run Tryz.prog wq=.ok (.agg #[zI 0,zN,zN,zN]) wq:=by intro wq;kernel_rfl
  refine C3 (ps:=#[]) (.agg #[zI 0,zN,zN,zN]) (by simp only[zc,zf,zh]) (fun wq=>cc  wq) Aa<|Aj<|Jx.VU (zP w7.heap.size) Z Aa<|Jx.j1<|AY Z Aa<|Aj<|Jx.Ak (p:=zP w7.heap.size) 7 ES Z Z Aa<|Jx.ZQ (p:=Ap (zP w7.heap.size) 7) (zI f4) AD Z (fun wj hj=>(BX.chg (w:=f5.drew) (F:=[w1.heap.size]) ad hj (zB ·)).ldp (i:=7) sM) Aa<|Jx.cE ?_
  refine Bz (vs:=[zI (0:Int),zN,zN,zN]) Fj Z Z (by intro u hu;simp only[ze,z2,or_false]at hu;rcases hu with rfl|rfl|rfl|rfl <;> first|exact⟨rfl,rfl⟩) ca Z Z Aa fun fh a2 em b6=>?_
  replace a2:=a2.of_drew
  replace b6:BX fh.heap w1.heap.size [zI (0:Int),zN,zN,zN]:=b6
  have en:Au S w fh:=c7.fresh a2 (fun _ h=>zE h)
  have eo:=Cu.chgO ao a2 fun b hb hm=>by rw[A9 hb]at hm;exact aj hm
  have dm:=c8.fresh a2 fun _ h=>zE h
  have e5:f5.heap.size≤fh.heap.size:=a2.size
  have ep:=c9.chg a2 (zB ·)
  have eq:=ad.chg a2 (zB ·)
  have er:=ah.keep (Bc AR) a2 fun b hb hm=>by have:=A9 hb;have:=ah.low _ hm;have:=ah.high _ hm;omega
  have hF73l:=hF63l.upd g1 a2 fun b hb=>by rw[A9 hb];(right;omega)
  have es:=hF73l.rn
  refine Aj ⟨Au.drewL a2,?_⟩
  exact Jx.R7 (zI f4) Z Aa<|Jx.Aj<|A1<|Al<|JD (t0:=7) (ts:=[]) (cs:=[zI (0:Int),zN,zN,zN]) [zI f4] Z Fj Z b6 Z Z ⟨_,_,_,_,_,_,_,_,rfl,Au.toExt dm.chg hSn,hKr,oM,(by intro u hu;simp only[ze,z2,or_false]at hu;rcases hu with rfl|rfl|rfl <;> exact⟨rfl,rfl⟩),(by show Bx _;unfold Bx;omega),(fun h9=>absurd h9 oM)⟩
 refine AT false Z Z (A6 cb) Aa<|Aj<|Ah Z<|A2<|bZ [0,0,0,2,4,0] Z<|Ad 1 Z<|AY Z Aa<|Ak (p:=zP w7.heap.size) 1 FL Z Z Aa<|AK (p:=Ap (zP w7.heap.size) 1) (.inr Z) [zI<|(p.getD f.toNat Fn.zero).params,f1,vg47,fc] Fj Z (fun fj ba=>LD.part (BX.ext (w:=f5) ad ba) (by show(5:Nat)≤8;decide) (by intro i hi;match i,hi with|0,_=>rfl|1,_=>rfl|2,_=>rfl|3,_=>rfl)) Z Aa ?_
 refine Bz (vs:=[zI<|(p.getD f.toNat Fn.zero).params,f1,vg47,fc]) Fj Z Z (by intro u hu;simp only[ze,z2,or_false]at hu;rcases hu with rfl|rfl|rfl|rfl <;> first|exact⟨rfl,rfl⟩|exact Bp (Cu.slc ao)|exact Bp (Cu.slg ao)|exact Bp dl.slL) ca Z Z Aa fun fi a8 et b7=>?_
 replace b7:BX fi.heap w1.heap.size [zI ((p.getD f.toNat Fn.zero).params),f1,vg47,fc]:=b7
 have eu:Au S w fi:=c7.fresh a8 (fun _ h=>zE h)
 have ap:=Cu.chgO ao a8 fun b hb hm=>by rw[A9 hb]at hm;exact aj hm
 have cd:=c8.fresh a8 fun _ h=>zE h
 have e6:f5.heap.size≤fi.heap.size:=a8.size
 have ev:=c9.chg a8 (zB ·)
 have ew:=ad.chg a8 (zB ·)
 have ex:=ah.keep (Bc AR) a8 fun b hb hm=>by have:=A9 hb;have:=ah.low _ hm;have:=ah.high _ hm;omega
 have hF81l:=hF63l.upd g1 a8 fun b hb=>by rw[A9 hb];(right;omega)
 have dn:=hF81l.rn
 refine Ac 1 Z<|A1 ?_
 have ce:∀b∈fe,w.heap.size≤b:=fun b hb=>(cd.new b hb).elim (hSn b) id
 exact JD (t0:=7) (ts:=[]) (cs:=[zI<|(p.getD f.toNat Fn.zero).params,f1,vg47,fc]) [zI ((0:Nat):Int)] Z Fj Z b7 Z Z ⟨_,_,_,_,_,_,_,_,rfl,Au.toExt cd.chg hSn,(by have h9:=hKr;rwa [show f4=((0:Nat):Int)from by omega]at h9),oM,(by intro u hu;simp only[ze,z2,or_false]at hu;rcases hu with rfl|rfl|rfl;exact Bp (Cu.slc ap);exact Bp (Cu.slg ap);exact RN.one1 g1 dn),(by show Bx _;unfold Bx;omega),(fun _=>⟨rfl,by assumption,zO,hKl,hKb oM,(Cu.readsG ap ce).1,(Cu.readsG ap ce).2,QK.rg hF81l oM⟩)⟩
theorem Gu (w:World)(n:Int)(vo:Nat)(ord:Int)(_hn:Bx n)(hcord:Hf w.heap (zP vo)=some (zI ord))(_hord:Bx ord)(ho:0≤ord∧ord≤12) :
  Calls Tryz.prog 186 #[zI n,zP vo] w (fun e w'=>∃v0:Value,e=.returned (v0)∧AF w w'∧Fr (Bh rI 2) w.heap.size w'.heap.size w'.heap v0 (cst (ord.toNat+1) n)):=by
 refine Aq [zI n,zP vo] 12 Tryz.func186 Z Z sM ?_
 have a0:AF w w:=AF.refl w
 refine cA Z<|bZ [2,0,3,0] Z<|Ai (.inr Z) (zI ord) Lk Z (AZ a0 hcord) Aa<|AP ((ord.toNat+1:Nat):Int) Z Z (Bl oM oM) Aa (GA (n:=ord.toNat+1) Bt BT Z Z Z sD Aa fun v1 w1 a1 aa a2=>?_)
 have a5:=a1.size
 have a3:=a0.trans a1
 refine Ac 1 Z<|bZ [0,0,0,4] Z<|Ad 2 Z<|AB (v:=v1) 0 Bt BT Z Z a2.isSl Z sM Aa (Im (v:=v1) (w:=w1) Hv Z Z _hn a2 sM Aa fun w2 F2 a4 ab a6 a7=>?_)
 have a8:AF w w2:=a4.below a3 (fun c hc=>A8 (A7 _) (a6 c hc).1) a3.size
 have a9:w1.heap.size≤w2.heap.size:=a4.size
 exact Aj<|bZ [0,0] Z<|Ac 2 Z<|A1<|Af [3] Z v1 Z ⟨v1,rfl,a8,a7.up o1⟩
theorem IM {p:Prop}(h:p:=by first|(rw[Dt oM,MT oM];exact⟨_,_,by assumption⟩)|(rw[Dt oM,L7 oM];exact⟨_,_,by assumption⟩)|(rw[Dt oM,L8 oM];exact⟨_,_,by assumption⟩)|(rw[Dt oM,L9 oM];exact⟨_,_,by assumption⟩)|(rw[Dt oM,La oM];exact⟨_,_,by assumption⟩)|(rw[Dt oM,Lb oM];exact⟨_,_,by assumption⟩)|(rw[Dt oM,Lc oM];exact⟨_,_,by assumption⟩)):p:=h
theorem IN {p:Prop}(h:p:=by unfold maxLen;first|omega|assumption|(simp only[zb,z9,z4,z6,z5];omega)|(simp[zb,z9,z4,z6,z5];done)|(simp[zb,z9,z4,z6,z5];omega)):p:=h
theorem IO {p:Prop}(h:p:=by first|exact Ui hzk oM|exact Uj hzk oM):p:=h
theorem IP {p:Prop}(h:p:=by exact Uh hR hsA (hform k hkl) hkl):p:=h
theorem Hb (w:World)(ipT:Int)(vtc vtg vtx:Value)(T:Tp)(oT:Sr)(va:Value)(A:List (Sr))(ord:Int)(_hipT:Bx ipT)(htcT:RN [] (DM 4 On) w.heap vtc T.code)(htgT:RN [] (DM 2 Oo) w.heap vtg T.grd)(htoT:RN [] (B3 rI) w.heap vtx oT)(hA:RN [] (B3 (B3 rI)) w.heap va A)(hqA:C5 va)(_hord:Bx ord)(ho:0≤ord∧ord≤12)(hsA:BV (ord.toNat+1) A)(hform:∀k,k<T.code.length→Ey A.length k (T.code.getD k AE.zero))(hlt:T.code.length≤4000) :
  Calls Tryz.prog 109 #[(.agg #[(zI ipT),vtc,vtg,vtx]),va,zI ord] w (fun e w'=>∃(v0:Value) (c1:Int),e=.returned (.tuple #[v0,zI c1])∧AF w w'∧Yq (ord.toNat+1) A T.code c1∧(c1=0→RN [] (B3 (B3 rI)) w'.heap v0 (B7 (ord.toNat+1) A T.code)∧C5 v0)):=by
 refine Aq [.agg #[zI ipT,vtc,vtg,vtx],va,zI ord] 109 Tryz.func109 Z Z sM ?_
 have gp:AF w w:=AF.refl w
 have hl_vtx:=htoT.lenL
 unfold maxLen at hl_vtx
 have f1:=hA.lenL
 unfold maxLen at f1
 have hS:∀b∈([]:List Nat),b<w.heap.size:=fun b hb=>by cases hb
 refine bZ [3,3,0,0] Z (Bu (cs:=#[zI ipT,vtc,vtg,vtx]) Z Aa fun w1 dx im dt=>?_)
 have dy:=dx.size
 have gq:=gp.trans dx
 replace dt:BX w1.heap w.heap.size [zI ipT,vtc,vtg,vtx]:=dt
 have jr:=dt.lt
 refine XF (u:=zI ord) Z Z Aa fun w2 du io dv=>?_
 have dz:=du.size
 have gr:=gq.trans du
 have bg:=dt.ext du
 replace dv:BX w2.heap w1.heap.size [zI ord]:=dv
 refine Ac 2 Z<|bZ [3,0] Z ?_
 obtain⟨BO,hBO⟩:∃b:Nat,b=w2.heap.size:=⟨_,rfl⟩
 have hwB:w.heap.size≤BO:=by omega
 have js:w.heap.size<BO:=by have:=BX.lt bg;omega
 have jt:w1.heap.size<BO:=by have:=BX.lt dv;omega
 refine CQ rV By BH B8 Aa fun v4 w4 ch ip e0=>?_
 have e1:=ch.size
 have gs:=gr.trans ch
 have ci:=bg.ext ch
 have cj:=dv.ext ch
 obtain⟨ju,F4,jv⟩:=Hi.nil (S:=[]) (by rw[← hBO]at e0;exact e0)
 refine Ac 1 Z<|bZ [0,0] Z<|MA [] [zP w1.heap.size] Z Z Aa<|Ac 1 Z<|A0<|bZ [0,2,0,0] Z<|Ak (p:=zP w.heap.size) 1 Fk Z Z Aa<|Ai (p:=Ap (zP w.heap.size) 1) (.inr Z) vtc K9 Z (ci.ldp (i:=1) sM) Aa<|AQ (v:=vtc) OU Z htcT.isSl Aa<|Ac 1 Z<|A3 ?_
 refine B1 (S:=Nat×Value) (fun⟨k,vo⟩=>([(8,vo),(18,zI (k:Int)),(1,va),(9,.func (.func 186) #[] #[zP w1.heap.size]),(16,vtc),(17,zI (T.code.length:Int))])) (fun⟨k,vo⟩ W=>AF w W∧BX W.heap w1.heap.size [zI ord]∧k≤T.code.length∧w.heap.size≤BO∧BO≤W.heap.size∧Oz 27 [] BO W.heap vo (B7 (ord.toNat+1) A<|T.code.take k)∧L6 (ord.toNat+1) A T.code k∧BV (ord.toNat+1) (B7 (ord.toNat+1) A<|T.code.take k)) (fun⟨k,vo⟩=>T.code.length-k) (0,v4) ⟨rfl,rfl,rfl,rfl,rfl,rfl,trivial⟩ ⟨gs,cj,oM,oM,oM,(by exact⟨_,_,by assumption⟩),XG,(by intro j hj;simp at hj)⟩ ?_
 clear gp im dx dy gq io du dz gr e0 ip ch e1 gs
 rintro⟨k,vo⟩ ρ7 w7 ⟨dw,au,gt,gu,gv,hbld,hzk,hR⟩
 have iq:w.heap.size≤w7.heap.size:=dw.size
 have hRl:(B7 (ord.toNat+1) A (T.code.take k)).length=k:=by rw[BQ,List.length_take];omega
 have jw:=au.lt
 obtain⟨jx,F9,av⟩:=hbld
 have hFl:∀b∈F9,b<w7.heap.size:=av.lt
 refine bZ [0] Z ?_
 by_cases ck:(k:Int)<(T.code.length:Int)
 ·refine AG true Z Z (A5 ck) Aa<|Aj<|A0<|Ag Z<|A2<|A0<|A3<|bZ [0,2,3,4] Z ?_
  have hkl:k<T.code.length:=by omega
  refine AB (v:=vtc) k OU Jn Z Z htcT.isSl Z sD Aa ?_
  obtain⟨cs11,e2,e3⟩:=htcT.get Bb AE.zero (k:=k) sD
  obtain⟨rfl,e4⟩:=MU e2
  refine AK (p:=Ay vtc k 4) (.inr Z) [zI<|(T.code.getD k AE.zero).op,zI<|(T.code.getD k AE.zero).a,zI<|(T.code.getD k AE.zero).b,zI<|(T.code.getD k AE.zero).num] Fl Z (fun fg ir=>e3 fg<|Au.of_ext []<|dw.trans ir) Z Aa ?_
  have is:=au.lt
  refine Bo (z:=.agg #[zI 0,zI 0,zI 0,zI 0]) Ta Aa fun f8 ai it bn=>?_
  have gw:=ai.size
  have cl:=dw.trans ai
  have aw:=au.ext ai
  have iu:=av.ext ai
  replace bn:BX f8.heap w7.heap.size [zI 0,zI 0,zI 0,zI 0]:=bn
  refine Bz (vs:=[zI<|(T.code.getD k AE.zero).op,zI<|(T.code.getD k AE.zero).a,zI<|(T.code.getD k AE.zero).b,zI<|(T.code.getD k AE.zero).num]) Fl Z Z (by intro u hu;simp only[ze,z2,or_false]at hu;rcases hu with rfl|rfl|rfl|rfl <;> first|exact⟨rfl,rfl⟩) bn Z Z Aa fun f2 ay iv az=>?_
  replace az:BX f2.heap w7.heap.size [zI ((T.code.getD k AE.zero).op),zI ((T.code.getD k AE.zero).a),zI ((T.code.getD k AE.zero).b),zI ((T.code.getD k AE.zero).num)]:=az
  have e5:AF w f2:=ay.below cl (fun _ h=>zE h) cl.size
  have gx:f8.heap.size≤f2.heap.size:=ay.size
  have cm:=aw.chg ay (zB ·)
  have e6:=av.ext<|ay.below ai (fun _ h=>zE h) ai.size
  refine Aj<|bZ [0,0,2,3,0] Z<|Ad 1 Z<|Ak (p:=zP w7.heap.size) 3 Fm Z Z Aa<|Ai (p:=Ap (zP w7.heap.size) 3) (.inr Z) (zI<|(T.code.getD k AE.zero).num) AD Z (az.ldp (i:=3) sM) Aa<|As 186 [] [zP w1.heap.size] [zI<|(T.code.getD k AE.zero).num,zP w1.heap.size] Z Z YW Aa (Gu _ _ (w1.heap.size) (ord) e4.2.2.2 (cm.ld (k:=0) sM) _hord oM) ?_
  rintro k1 f0 ⟨bh,rfl,aj,ad⟩
  refine⟨_,rfl,aj,?_⟩
  have gy:=aj.size
  have a8:=e5.trans aj
  have a2:=cm.ext aj
  have a0:=az.ext aj
  have a1:=e6.ext aj
  refine Ac 1 Z<|A0<|bZ [0,2] Z<|Ak (p:=zP w7.heap.size) 0 Ln Z Z Aa<|Ai (p:=Ap (zP w7.heap.size) 0) (.inr Z) (zI<|(T.code.getD k AE.zero).op) AD Z (a0.ldp (i:=0) sM) Aa<|Aj<|A3<|bZ [0,0] Z ?_
  by_cases cn:(T.code.getD k AE.zero).op=((1:Nat):Int)
  ·refine Am true Z Z (A5 cn) Aa<|Ac 1 Z<|Ag Z<|Ab _ [0,0,2,0,2,0] Z ?_
   have hio:=(hform k hkl).i1 oM
   refine Ad 1 Z<|Ak (p:=zP w7.heap.size) 3 Fm Z Z Aa<|Ai (p:=Ap (zP w7.heap.size) 3) (.inr Z) (zI<|(T.code.getD k AE.zero).num) AD Z (a0.ldp (i:=3) sM) Aa<|AB (v:=va) (((T.code.getD k AE.zero).num).toNat) BH B8 Z Z hA.slL oM sD Aa ?_
   obtain⟨bo,e7,bp⟩:=RN.getL (w:=w) g1 [] (k:=((T.code.getD k AE.zero).num).toNat) hA sD
   have co:=bp.lenL
   unfold maxLen at co
   refine Ai (p:=Ay va (((T.code.getD k AE.zero).num).toNat) 1) (.inr Z) bo Bj Z (e7 _<|Au.of_ext [] a8) Aa<|Ac 1 Z<|Ab _ [0,0,3,4,0] Z<|Ad 2 Z (BI (u:=bo) (B:=f0.heap.size) By BH B8 Z Z (Oj f0.heap.size f0.heap.size _<|bp.one1 g1) (A7 _) Aa fun fh fi b0 iw e8=>?_)
   have gz:=b0.size
   have bq:=a8.trans b0
   have b1:=a2.ext b0
   have b2:=a1.ext b0
   refine EC (v:=vo) (a:=fh) (u:=bo) BH B8 Z Z Z b2 oM e8 (RN.stp g1 bp (Au.of_ext [] bq) fun b hb=>.inr (zH<|b2.low b (by simpa using hb))) sD IN Aa ?_
   rintro fj f9 G24 br cp ⟨ix,k2,iy⟩
   have i0:fi.heap.size≤f9.heap.size:=br.size
   have e9:AF w f9:=br.below bq (fun c hc=>A8 hwB (b2.low c (cp c hc))) bq.size
   have ea:=b1.chg br fun hm=>zH<|b2.low _ (cp _ hm)
   refine Ac 1 Z<|Ab _ [0,0] Z<|AP ((k+1:Nat):Int) Z Z (Bl oM sD) Aa<|Ac 1 Z ?_
   exact⟨(k+1,fj),_,rfl,zR,⟨e9,ea,oM,oM,oM,IM,IO,IP⟩,zD⟩
  refine Am false Z Z (A6 cn) Aa<|Ac 1 Z<|Ah Z<|bZ [0,0] Z ?_
  by_cases cq:(T.code.getD k AE.zero).op=((3:Nat):Int)
  ·refine Am true Z Z (A5 cq) Aa<|Ac 1 Z<|Ag Z<|AO _ [0,0,1,0,1,0,0,1,0,1,3,0] mixed (by kernel_rfl) ?_
   have hio:=(hform k hkl).i2 oM
   have hra:=hR (T.code.getD k AE.zero).a.toNat oM
   have hrb:=hR (T.code.getD k AE.zero).b.toNat oM
   have b3:=hra.1
   have bs:=hrb.1
   refine Ad 1 Z<|Ak (p:=zP w7.heap.size) 1 CK Z Z Aa<|Ai (p:=Ap (zP w7.heap.size) 1) (.inl Z) (zI<|(T.code.getD k AE.zero).a) AD Z (a0.ldp (i:=1) sM) Aa<|AB (v:=vo) (((T.code.getD k AE.zero).a).toNat) BH B8 Z Z (a1.done fun b hb=>absurd hb z2).slL oM sD Aa ?_
   obtain⟨cr,eb,bt⟩:=RN.getL (w:=f0) g1 [] (k:=((T.code.getD k AE.zero).a).toNat) (a1.done (fun b hb=>absurd hb z2)) sD
   have ct:=bt.lenL
   unfold maxLen at ct
   refine Ai (p:=Ay vo (((T.code.getD k AE.zero).a).toNat) 1) (.inl Z) cr Bj Z (eb _ (Au.refl _ _).drew) Aa<|Ad 1 Z<|Ak (p:=zP w7.heap.size) 2 CB Z Z Aa<|Ai (p:=Ap (zP w7.heap.size) 2) (.inl Z) (zI<|(T.code.getD k AE.zero).b) AD Z (a0.ldp (i:=2) sM) Aa ?_
   refine AB (v:=vo) (((T.code.getD k AE.zero).b).toNat) BH B8 Z Z (a1.done fun b hb=>absurd hb z2).slL oM sD Aa ?_
   obtain⟨cu,ec,bu⟩:=RN.getL (w:=f0) g1 [] (k:=((T.code.getD k AE.zero).b).toNat) (a1.done (fun b hb=>absurd hb z2)) sD
   have cv:=bu.lenL
   unfold maxLen at cv
   refine Ai (p:=Ay vo (((T.code.getD k AE.zero).b).toNat) 1) (.inl Z) cu Bj Z (ec _ (Au.refl _ _).drew) Aa<|As 185 [] [] [cr,cu] Z Z Oc Aa (E0 _ _ _ _ _ (bt).rd (bu).rd oM oM hra.2 hrb.2) ?_
   rintro k3 f3 ⟨bi,rfl,a9,a3⟩
   refine⟨_,rfl,a9,?_⟩
   replace a9:=a9.of_drew
   have i3:=a9.size
   have ed:=a8.trans a9
   have b4:=a2.ext a9
   have ee:=a1.ext a9
   have ef:=bt.ext g1 a9
   have eg:=bu.ext g1 a9
   replace a3:=a3.low (B':=f0.heap.size)<|A7 _
   refine Ac 1 Z<|Ab _ [0,0,3,4,0] Z<|Ad 2 Z (BI (u:=bi) (B:=f3.heap.size) By BH B8 Z Z (Oj f3.heap.size f3.heap.size _<|⟨(C9 a3.isSl).1,(C9 a3.isSl).2⟩) (A7 _) Aa fun fk fl ae iz eh=>?_)
   have i4:=ae.size
   have cw:=ed.trans ae
   have b5:=b4.ext ae
   have ak:=a3.ext (o1) ae
   have bv:=ee.ext ae
   have j0:=ef.ext g1 ae
   have j1:=eg.ext g1 ae
   refine EC (v:=vo) (a:=fk) (u:=bi) BH B8 Z Z Z bv oM eh (RN.of_fr1 ak fun b hb=>zH<|hFl b (by simpa using hb)) sD IN Aa ?_
   rintro fm fa G37 bw cx ⟨j2,k4,j3⟩
   have i5:fl.heap.size≤fa.heap.size:=bw.size
   have ei:AF w fa:=bw.below cw (fun c hc=>A8 hwB (bv.low c (cx c hc))) cw.size
   have ej:=b5.chg bw fun hm=>zH<|bv.low _ (cx _ hm)
   refine Ac 1 Z<|Ab _ [0,0] Z<|AP ((k+1:Nat):Int) Z Z (Bl oM sD) Aa<|Ac 1 Z ?_
   exact⟨(k+1,fm),_,rfl,zR,⟨ei,ej,oM,oM,oM,IM,IO,IP⟩,zD⟩
  refine Am false Z Z (A6 cq) Aa<|Ac 1 Z<|Ah Z<|bZ [0,0] Z ?_
  by_cases cy:(T.code.getD k AE.zero).op=((4:Nat):Int)
  ·refine Am true Z Z (A5 cy) Aa<|Ac 1 Z<|Ag Z<|AO _ [0,0,1,0,1,0,0,1,0,1,3,0] mixed (by kernel_rfl) ?_
   have hio:=(hform k hkl).i2 oM
   have hra:=hR (T.code.getD k AE.zero).a.toNat oM
   have hrb:=hR (T.code.getD k AE.zero).b.toNat oM
   have b3:=hra.1
   have bs:=hrb.1
   refine Ad 1 Z<|Ak (p:=zP w7.heap.size) 1 CK Z Z Aa<|Ai (p:=Ap (zP w7.heap.size) 1) (.inl Z) (zI<|(T.code.getD k AE.zero).a) AD Z (a0.ldp (i:=1) sM) Aa<|AB (v:=vo) (((T.code.getD k AE.zero).a).toNat) BH B8 Z Z (a1.done fun b hb=>absurd hb z2).slL oM sD Aa ?_
   obtain⟨cz,ek,bx⟩:=RN.getL (w:=f0) g1 [] (k:=((T.code.getD k AE.zero).a).toNat) (a1.done (fun b hb=>absurd hb z2)) sD
   have d0:=bx.lenL
   unfold maxLen at d0
   refine Ai (p:=Ay vo (((T.code.getD k AE.zero).a).toNat) 1) (.inl Z) cz Bj Z (ek _ (Au.refl _ _).drew) Aa<|Ad 1 Z<|Ak (p:=zP w7.heap.size) 2 CB Z Z Aa<|Ai (p:=Ap (zP w7.heap.size) 2) (.inl Z) (zI<|(T.code.getD k AE.zero).b) AD Z (a0.ldp (i:=2) sM) Aa ?_
   refine AB (v:=vo) (((T.code.getD k AE.zero).b).toNat) BH B8 Z Z (a1.done fun b hb=>absurd hb z2).slL oM sD Aa ?_
   obtain⟨d1,el,bz⟩:=RN.getL (w:=f0) g1 [] (k:=((T.code.getD k AE.zero).b).toNat) (a1.done (fun b hb=>absurd hb z2)) sD
   have d2:=bz.lenL
   unfold maxLen at d2
   refine Ai (p:=Ay vo (((T.code.getD k AE.zero).b).toNat) 1) (.inl Z) d1 Bj Z (el _ (Au.refl _ _).drew) Aa<|As 178 [] [] [cz,d1] Z Z Vy Aa (Hz _ _ _ _ _ (bx).rd (bz).rd oM oM oM hra.2 hrb.2) ?_
   rintro k5 f4 ⟨bj,rfl,aa,a4⟩
   refine⟨_,rfl,aa,?_⟩
   replace aa:=aa.of_drew
   have i6:=aa.size
   have em:=a8.trans aa
   have b6:=a2.ext aa
   have en:=a1.ext aa
   have eo:=bx.ext g1 aa
   have ep:=bz.ext g1 aa
   replace a4:=a4.low (B':=f0.heap.size)<|A7 _
   refine Ac 1 Z<|Ab _ [0,0,3,4,0] Z<|Ad 2 Z (BI (u:=bj) (B:=f4.heap.size) By BH B8 Z Z (Oj f4.heap.size f4.heap.size _<|⟨(C9 a4.isSl).1,(C9 a4.isSl).2⟩) (A7 _) Aa fun fo fp af j4 eq=>?_)
   have i8:=af.size
   have d3:=em.trans af
   have b7:=b6.ext af
   have al:=a4.ext (o1) af
   have c0:=en.ext af
   have j5:=eo.ext g1 af
   have j6:=ep.ext g1 af
   refine EC (v:=vo) (a:=fo) (u:=bj) BH B8 Z Z Z c0 oM eq (RN.of_fr1 al fun b hb=>zH<|hFl b (by simpa using hb)) sD IN Aa ?_
   rintro fq fb G50 c2 d4 ⟨j7,k6,j8⟩
   have i9:fp.heap.size≤fb.heap.size:=c2.size
   have er:AF w fb:=c2.below d3 (fun c hc=>A8 hwB (c0.low c (d4 c hc))) d3.size
   have es:=b7.chg c2 fun hm=>zH<|c0.low _ (d4 _ hm)
   refine Ac 1 Z<|Ab _ [0,0] Z<|AP ((k+1:Nat):Int) Z Z (Bl oM sD) Aa<|Ac 1 Z ?_
   exact⟨(k+1,fq),_,rfl,zR,⟨er,es,oM,oM,oM,IM,IO,IP⟩,zD⟩
  refine Am false Z Z (A6 cy) Aa<|Ac 1 Z<|Ah Z<|bZ [0,0] Z ?_
  by_cases d5:(T.code.getD k AE.zero).op=((5:Nat):Int)
  ·refine Am true Z Z (A5 d5) Aa<|Ac 1 Z<|Ag Z<|AO _ [0,0,1,0,1,0,0,1,0,1,3,0] mixed (by kernel_rfl) ?_
   have hio:=(hform k hkl).i2 oM
   have hra:=hR (T.code.getD k AE.zero).a.toNat oM
   have hrb:=hR (T.code.getD k AE.zero).b.toNat oM
   have b3:=hra.1
   have bs:=hrb.1
   refine Ad 1 Z<|Ak (p:=zP w7.heap.size) 1 CK Z Z Aa<|Ai (p:=Ap (zP w7.heap.size) 1) (.inl Z) (zI<|(T.code.getD k AE.zero).a) AD Z (a0.ldp (i:=1) sM) Aa<|AB (v:=vo) (((T.code.getD k AE.zero).a).toNat) BH B8 Z Z (a1.done fun b hb=>absurd hb z2).slL oM sD Aa ?_
   obtain⟨d6,et,c3⟩:=RN.getL (w:=f0) g1 [] (k:=((T.code.getD k AE.zero).a).toNat) (a1.done (fun b hb=>absurd hb z2)) sD
   have d7:=c3.lenL
   unfold maxLen at d7
   refine Ai (p:=Ay vo (((T.code.getD k AE.zero).a).toNat) 1) (.inl Z) d6 Bj Z (et _ (Au.refl _ _).drew) Aa<|Ad 1 Z<|Ak (p:=zP w7.heap.size) 2 CB Z Z Aa<|Ai (p:=Ap (zP w7.heap.size) 2) (.inl Z) (zI<|(T.code.getD k AE.zero).b) AD Z (a0.ldp (i:=2) sM) Aa ?_
   refine AB (v:=vo) (((T.code.getD k AE.zero).b).toNat) BH B8 Z Z (a1.done fun b hb=>absurd hb z2).slL oM sD Aa ?_
   obtain⟨d8,eu,c4⟩:=RN.getL (w:=f0) g1 [] (k:=((T.code.getD k AE.zero).b).toNat) (a1.done (fun b hb=>absurd hb z2)) sD
   have d9:=c4.lenL
   unfold maxLen at d9
   refine Ai (p:=Ay vo (((T.code.getD k AE.zero).b).toNat) 1) (.inl Z) d8 Bj Z (eu _ (Au.refl _ _).drew) Aa<|As 179 [] [] [d6,d8] Z Z Ob Aa (Dl _ _ _ _ _ (c3).rd (c4).rd oM oM hra.2 hrb.2) ?_
   rintro k7 f5 ⟨bk,rfl,ab,a5⟩
   refine⟨_,rfl,ab,?_⟩
   replace ab:=ab.of_drew
   have ia:=ab.size
   have ev:=a8.trans ab
   have b8:=a2.ext ab
   have ew:=a1.ext ab
   have ex:=c3.ext g1 ab
   have ey:=c4.ext g1 ab
   replace a5:=a5.low (B':=f0.heap.size)<|A7 _
   refine Ac 1 Z<|Ab _ [0,0,3,4,0] Z<|Ad 2 Z (BI (u:=bk) (B:=f5.heap.size) By BH B8 Z Z (Oj f5.heap.size f5.heap.size _<|⟨(C9 a5.isSl).1,(C9 a5.isSl).2⟩) (A7 _) Aa fun fr fs ag j9 ez=>?_)
   have ib:=ag.size
   have da:=ev.trans ag
   have b9:=b8.ext ag
   have am:=a5.ext (o1) ag
   have c5:=ew.ext ag
   have ja:=ex.ext g1 ag
   have jb:=ey.ext g1 ag
   refine EC (v:=vo) (a:=fr) (u:=bk) BH B8 Z Z Z c5 oM ez (RN.of_fr1 am fun b hb=>zH<|hFl b (by simpa using hb)) sD IN Aa ?_
   rintro ft fc G63 c6 db ⟨jc,k8,jd⟩
   have ic:fs.heap.size≤fc.heap.size:=c6.size
   have g0:AF w fc:=c6.below da (fun c hc=>A8 hwB (c5.low c (db c hc))) da.size
   have g2:=b9.chg c6 fun hm=>zH<|c5.low _ (db _ hm)
   refine Ac 1 Z<|Ab _ [0,0] Z<|AP ((k+1:Nat):Int) Z Z (Bl oM sD) Aa<|Ac 1 Z ?_
   exact⟨(k+1,ft),_,rfl,zR,⟨g0,g2,oM,oM,oM,IM,IO,IP⟩,zD⟩
  refine Am false Z Z (A6 d5) Aa<|Ac 1 Z<|Ah Z<|bZ [0,0] Z ?_
  by_cases dc:(T.code.getD k AE.zero).op=((7:Nat):Int)
  ·refine Am true Z Z (A5 dc) Aa<|Ac 1 Z<|Ag Z<|Ab _ [0,0,2,0,2,3,0] Z ?_
   have hio:=(hform k hkl).i7 oM
   have hra:=hR (T.code.getD k AE.zero).a.toNat oM
   have b3:=hra.1
   refine Ad 1 Z<|Ak (p:=zP w7.heap.size) 1 CK Z Z Aa<|Ai (p:=Ap (zP w7.heap.size) 1) (.inr Z) (zI<|(T.code.getD k AE.zero).a) AD Z (a0.ldp (i:=1) sM) Aa<|AB (v:=vo) (((T.code.getD k AE.zero).a).toNat) BH B8 Z Z (a1.done fun b hb=>absurd hb z2).slL oM sD Aa ?_
   obtain⟨dd,g3,c7⟩:=RN.getL (w:=f0) g1 [] (k:=((T.code.getD k AE.zero).a).toNat) (a1.done (fun b hb=>absurd hb z2)) sD
   have de:=c7.lenL
   unfold maxLen at de
   refine Ai (p:=Ay vo (((T.code.getD k AE.zero).a).toNat) 1) (.inr Z) dd Bj Z (g3 _<|Au.refl _ _) Aa<|As 187 [] [] [dd,zI ((1000002:Nat):Int)] Z Z Mw Aa (D4 _ _ _ _ (c7).rd oM oM hra.2 oM) ?_
   rintro k9 f6 ⟨bl,rfl,an,ah⟩
   refine⟨_,rfl,an,?_⟩
   have id:=an.size
   have g4:=a8.trans an
   have ba:=a2.ext an
   have g5:=a1.ext an
   have g6:=c7.ext g1 an
   refine Ac 1 Z<|Ab _ [0,0,3,4,0] Z<|Ad 2 Z (BI (u:=bl) (B:=f6.heap.size) By BH B8 Z Z (Oj f6.heap.size f6.heap.size _<|⟨(C9 ah.isSl).1,(C9 ah.isSl).2⟩) (A7 _) Aa fun fu fv ao je g7=>?_)
   have ie:=ao.size
   have df:=g4.trans ao
   have bb:=ba.ext ao
   have ap:=ah.ext (o1) ao
   have c8:=g5.ext ao
   have jf:=g6.ext g1 ao
   refine EC (v:=vo) (a:=fu) (u:=bl) BH B8 Z Z Z c8 oM g7 (RN.of_fr1 ap fun b hb=>zH<|hFl b (by simpa using hb)) sD IN Aa ?_
   rintro fw fd G73 c9 dg ⟨jg,ka,jh⟩
   have ig:fv.heap.size≤fd.heap.size:=c9.size
   have g8:AF w fd:=c9.below df (fun c hc=>A8 hwB (c8.low c (dg c hc))) df.size
   have g9:=bb.chg c9 fun hm=>zH<|c8.low _ (dg _ hm)
   refine Ac 1 Z<|Ab _ [0,0] Z<|AP ((k+1:Nat):Int) Z Z (Bl oM sD) Aa<|Ac 1 Z ?_
   exact⟨(k+1,fw),_,rfl,zR,⟨g8,g9,oM,oM,oM,IM,IO,IP⟩,zD⟩
  refine Am false Z Z (A6 dc) Aa<|Ac 1 Z<|Ah Z<|bZ [0,0] Z ?_
  by_cases dh:(T.code.getD k AE.zero).op=((6:Nat):Int)
  ·refine Am true Z Z (A5 dh) Aa<|Ac 1 Z<|Ag Z<|A0<|bZ [0,0,2,0,2,0,2,0] Z ?_
   have hio:=(hform k hkl).i2 oM
   have hra:=hR (T.code.getD k AE.zero).a.toNat oM
   have hrb:=hR (T.code.getD k AE.zero).b.toNat oM
   have b3:=hra.1
   have bs:=hrb.1
   refine Ad 1 Z<|Ak (p:=zP w7.heap.size) 2 CB Z Z Aa<|Ai (p:=Ap (zP w7.heap.size) 2) (.inr Z) (zI<|(T.code.getD k AE.zero).b) AD Z (a0.ldp (i:=2) sM) Aa<|AB (v:=vo) (((T.code.getD k AE.zero).b).toNat) BH B8 Z Z (a1.done fun b hb=>absurd hb z2).slL oM sD Aa ?_
   obtain⟨ca,ga,bc⟩:=RN.getL (w:=f0) g1 [] (k:=((T.code.getD k AE.zero).b).toNat) (a1.done (fun b hb=>absurd hb z2)) sD
   have di:=bc.lenL
   unfold maxLen at di
   refine Ai (p:=Ay vo (((T.code.getD k AE.zero).b).toNat) 1) (.inr Z) ca Bj Z (ga _<|Au.refl _ _) Aa<|AB (v:=ca) 0 Bt BT Z Z bc.slL Z sD Aa ?_
   have gb:=RN.getI (w:=f0) (k:=0) bc sD
   refine Ai (p:=Ay ca 0 1) (.inr Z) (zI<|((B7 (ord.toNat+1) A<|T.code.take k).getD (((T.code.getD k AE.zero).b).toNat) []).getD 0 0) AD Z (gb.1 _<|Au.refl _ _) Aa ?_
   by_cases dj:((B7 (ord.toNat+1) A (T.code.take k)).getD (((T.code.getD k AE.zero).b).toNat) []).getD 0 0=((0:Nat):Int)
   ·exact Am true Z Z (A5 dj) Aa<|Aj<|Ag Z<|bZ [0,0] Z<|Ac 2 Z<|A1<|Al<|AC<|Al<|AC<|Al<|Al<|AC<|Al<|Af [6,7] Z (.tuple #[zN,zI ((6:Nat):Int)]) Z ⟨_,_,rfl,a8,.inr ⟨rfl,SF oM oM oM⟩,(fun h9=>absurd h9 oM)⟩
   refine Am false Z Z (A6 dj) Aa<|Aj<|Ah Z<|A2<|AO _ [0,0,1,0,1,0,0,1,0,1,3,0] mixed (by kernel_rfl)<|Ad 1 Z<|Ak (p:=zP w7.heap.size) 1 CK Z Z Aa<|Ai (p:=Ap (zP w7.heap.size) 1) (.inl Z) (zI<|(T.code.getD k AE.zero).a) AD Z (a0.ldp (i:=1) sM) Aa ?_
   refine AB (v:=vo) (((T.code.getD k AE.zero).a).toNat) BH B8 Z Z (a1.done fun b hb=>absurd hb z2).slL oM sD Aa ?_
   obtain⟨dk,gc,cb⟩:=RN.getL (w:=f0) g1 [] (k:=((T.code.getD k AE.zero).a).toNat) (a1.done (fun b hb=>absurd hb z2)) sD
   have dl:=cb.lenL
   unfold maxLen at dl
   refine Ai (p:=Ay vo (((T.code.getD k AE.zero).a).toNat) 1) (.inl Z) dk Bj Z (gc _ (Au.refl _ _).drew) Aa<|Ad 1 Z<|Ak (p:=zP w7.heap.size) 2 CB Z Z Aa<|Ai (p:=Ap (zP w7.heap.size) 2) (.inl Z) (zI<|(T.code.getD k AE.zero).b) AD Z (a0.ldp (i:=2) sM) Aa ?_
   refine AB (v:=vo) (((T.code.getD k AE.zero).b).toNat) BH B8 Z Z (a1.done fun b hb=>absurd hb z2).slL oM sD Aa ?_
   obtain⟨dm,gd,cc⟩:=RN.getL (w:=f0) g1 [] (k:=((T.code.getD k AE.zero).b).toNat) (a1.done (fun b hb=>absurd hb z2)) sD
   have dn:=cc.lenL
   unfold maxLen at dn
   refine Ai (p:=Ay vo (((T.code.getD k AE.zero).b).toNat) 1) (.inl Z) dm Bj Z (gd _ (Au.refl _ _).drew) Aa<|As 177 [] [] [dk,dm] Z Z SZ Aa (EH _ _ _ _ _ (cb).rd (cc).rd oM oM oM hra.2 hrb.2) ?_
   rintro kb f7 ⟨bm,rfl,a7,a6⟩
   refine⟨_,rfl,a7,?_⟩
   replace a7:=a7.of_drew
   have ih:=a7.size
   have ge:=a8.trans a7
   have bd:=a2.ext a7
   have gf:=a1.ext a7
   have gg:=bc.ext g1 a7
   have gh:=cb.ext g1 a7
   have gi:=cc.ext g1 a7
   replace a6:=a6.low (B':=f0.heap.size)<|A7 _
   refine Ac 1 Z<|Ab _ [0,0,3,4,0] Z<|Ad 2 Z (BI (u:=bm) (B:=f7.heap.size) By BH B8 Z Z (Oj f7.heap.size f7.heap.size _<|⟨(C9 a6.isSl).1,(C9 a6.isSl).2⟩) (A7 _) Aa fun fx fy ac ji gj=>?_)
   have ii:=ac.size
   have dp:=ge.trans ac
   have be:=bd.ext ac
   have aq:=a6.ext (o1) ac
   have cd:=gf.ext ac
   have jj:=gg.ext g1 ac
   have jk:=gh.ext g1 ac
   have jl:=gi.ext g1 ac
   refine EC (v:=vo) (a:=fx) (u:=bm) BH B8 Z Z Z cd oM gj (RN.of_fr1 aq fun b hb=>zH<|hFl b (by simpa using hb)) sD IN Aa ?_
   rintro fz fe G91 ce dq ⟨jm,kc,jn⟩
   have ij:fy.heap.size≤fe.heap.size:=ce.size
   have gk:AF w fe:=ce.below dp (fun c hc=>A8 hwB (cd.low c (dq c hc))) dp.size
   have gl:=be.chg ce fun hm=>zH<|cd.low _ (dq _ hm)
   refine Ac 1 Z<|Ab _ [0,0] Z<|AP ((k+1:Nat):Int) Z Z (Bl oM sD) Aa<|Ac 1 Z ?_
   exact⟨(k+1,fz),_,rfl,zR,⟨gk,gl,oM,oM,oM,IM,IO,IP⟩,zD⟩
  refine Am false Z Z (A6 dh) Aa<|Ac 1 Z<|Ah Z<|A2<|Ab _ [0,0,3,4,0] Z<|Ad 2 Z (BI (u:=bh) (B:=f0.heap.size) By BH B8 Z Z (Oj f0.heap.size f0.heap.size _<|⟨(C9 ad.isSl).1,(C9 ad.isSl).2⟩) (A7 _) Aa fun jy jz ax jo gm=>?_)
  have ik:=ax.size
  have dr:=a8.trans ax
  have bf:=a2.ext ax
  have ar:=ad.ext (o1) ax
  have cf:=a1.ext ax
  refine EC (v:=vo) (a:=jy) (u:=bh) BH B8 Z Z Z cf oM gm (RN.of_fr1 ar fun b hb=>zH<|hFl b (by simpa using hb)) sD IN Aa ?_
  rintro k0 ff G95 cg ds ⟨jp,kd,jq⟩
  have il:jz.heap.size≤ff.heap.size:=cg.size
  have gn:AF w ff:=cg.below dr (fun c hc=>A8 hwB (cf.low c (ds c hc))) dr.size
  have go:=bf.chg cg fun hm=>zH<|cf.low _ (ds _ hm)
  refine Ac 1 Z<|Ab _ [0,0] Z<|AP ((k+1:Nat):Int) Z Z (Bl oM sD) Aa<|Ac 1 Z ?_
  exact⟨(k+1,k0),_,rfl,zR,⟨gn,go,oM,oM,oM,IM,IO,IP⟩,zD⟩
 exact AG false Z Z (A6 ck) Aa<|Aj<|A0<|Ah Z<|A4<|Ax<|Ax<|At<|bZ [0,0,0] Z<|Ac 3 Z<|A1<|Af [6,7] Z (.tuple #[vo,zI ((0:Nat):Int)]) Z ⟨_,_,rfl,dw,.inl ⟨rfl,(by have h9:=hzk;rwa [show k=T.code.length from by omega]at h9)⟩,(fun _=>⟨(by have h9:=av.done (fun b hb=>absurd hb z2);rwa [za oM]at h9),av.cap⟩)⟩
theorem Bg (w:World)(r:Int)(vs:Value)(s:Sr)(S:List Nat)(vo:Nat)(vov:Value)(xs:List (Sr))(usxs:List Value)(Fxs:List Nat)(BO:Nat)(_hr:Bx r)(hs:Rd (B3 rI) w.heap vs s)(hcxs:Hf w.heap (zP vo)=some vov)(hbxs:Hi 27 S BO w.heap vov xs usxs Fxs)(hSB:∀b∈S,b<BO)(a9:∀b∈S,b<w.heap.size)(hr:0≤r∧r<(xs.length:Int))(hxl:(xs.getD r.toNat []).length≤s.length∧s.length≤13)(hxn:B2 (xs.getD r.toNat [])=true)(hsn:B2 s=true) :
  Calls Tryz.prog 231 #[zI r,vs,zP vo] w (fun e w'=>e=.returned (.tuple #[])∧Au Fxs w w'∧∃us',Hi 27 S BO w'.heap vov (ER xs r s) us' Fxs):=by
 refine Aq [zI r,vs,zP vo] 14 Tryz.func231 Z Z sM ?_
 have a2:AF w w:=AF.refl w
 have ad:=hs.lenle
 have hFl:∀b∈Fxs,b<w.heap.size:=hbxs.lt
 refine AO _ [1,0,1,0,0,1,0,3,0,4] mixed (by kernel_rfl)<|Ai (.inl Z) vov Ll Z (AZ a2.drew hcxs) Aa<|Ad 1 Z<|Ai (.inl Z) vov Ll Z (AZ a2.drew hcxs) Aa<|Ad 1 Z<|AB (v:=vov) ((r).toNat) BH B8 Z Z (hbxs.done hSB).none.slL oM sD Aa ?_
 obtain⟨a7,aa,a4⟩:=hbxs.getF (k:=(r).toNat) sD
 have a5:=a4.lenL
 unfold maxLen at a5
 refine Ai (p:=Ay vov ((r).toNat) 1) (.inl Z) a7 Bj Z aa Aa<|Ad 1 Z<|As 185 [] [] [a7,vs] Z Z Oc Aa (E0 _ _ _ _ _ a4.rd (hs.ext g1 a2.drew) oM oM hxn hsn) ?_
 rintro e2 w2 ⟨a6,rfl,a1,a0⟩
 refine⟨_,rfl,a1,?_⟩
 replace a1:=a1.of_drew
 have ab:=a1.size
 have ac:=a2.trans a1
 have a8:=hbxs.ext a1
 replace a0:=a0.low (B':=w.heap.size)<|A7 _
 refine AB (v:=vov) ((r).toNat) BH B8 Z Z (a8.done hSB).none.slL oM sD Aa ?_
 refine SG (v:=vov) (u:=a6) (w:=w2) QR Z Z a8 (RN.of_fr1 a0 fun b hb=>by rcases zi.1 hb with hb|hb;(have:=a9 b hb;omega);(have:=hFl b hb;omega)) sD Aa fun w5 a3 ah ae=>?_
 have af:w2.heap.size≤w5.heap.size:=a3.size
 have ag:Au Fxs w w5:=(Au.of_ext _ ac).trans a3
 exact Aj<|R3 [] Z (.tuple #[]) Z ⟨rfl,ag,_,ae⟩
theorem JW {p:Prop}(h:p:=by first|(rw[show(kk-1+1).toNat=kk.toNat from by omega];exact Gp hadj oM (O1 oM))|(rw[show(kk-1+1).toNat=kk.toNat from by omega];exact Gp hadj oM (O2 oM))|(rw[show(kk-1+1).toNat=kk.toNat from by omega];exact Gp hadj oM (O3 oM))|(rw[show(kk-1+1).toNat=kk.toNat from by omega];exact Gp hadj oM (O4 oM))|(rw[show(kk-1+1).toNat=kk.toNat from by omega];exact Gp hadj oM (O5 oM))|(rw[show(kk-1+1).toNat=kk.toNat from by omega];exact Gp hadj oM (O6 oM))):p:=h
theorem JX {p:Prop}(h:p:=by(try rw[show((1000002:Nat):Int)=1000002 from rfl]);first|(rw[← O1 (k:=kk.toNat) (R:=R) oM];exact GM hxs oM (hform _ hkn))|(rw[← O2 (k:=kk.toNat) (R:=R) oM];exact GM hxs oM (hform _ hkn))|(rw[← O3 (k:=kk.toNat) (R:=R) oM];exact GM hxs oM (hform _ hkn))|(rw[← O4 (k:=kk.toNat) (R:=R) oM];exact GM hxs oM (hform _ hkn))|(rw[← O5 (k:=kk.toNat) (R:=R) oM];exact GM hxs oM (hform _ hkn))|exact hxs):p:=h
theorem Fw {p:Prop}(h:p:=by first|exact hro.2|exact hRa.2|exact hRb.2|exact hRk.2|exact Eu _ _|exact Fd _ _|exact Et _ _):p:=h
theorem GU {p:Prop}(h:p:=by refine⟨?_,?_⟩ <;> first|omega|(simp only[Gg,Gf,DS,Di];omega)):p:=h
theorem GV {p:Prop}(h:p:=by first|exact hro.2|exact Eu _ _|exact Fd _ _|exact Et _ _):p:=h
theorem Fx {p:Prop}(h:p:=by first|omega|(simp only[Gg,Gf,DS,Di];omega)):p:=h
theorem JY {p:Prop}(h:p:=by first|exact hxl|(simp only[BJ];exact hxl)):p:=h
theorem HG (w:World)(m:Nat)(ni:Nat)(S:List Nat)(ipT:Int)(vtc vtg vtx:Value)(T:Tp)(oT:Sr)(vr:Value)(R:List (Sr))(vw:Value)(ws:Sr)(c1:∀b∈S,b<w.heap.size)(_hipT:Bx ipT)(htcT:RN [] (DM 4 On) w.heap vtc T.code)(htgT:RN [] (DM 2 Oo) w.heap vtg T.grd)(htoT:RN [] (B3 rI) w.heap vtx oT)(hR:RN [] (B3 (B3 rI)) w.heap vr R)(hqR:C5 vr)(hws:Rd (B3 rI) w.heap vw ws)(hm:1≤m∧m≤13)(hsR:BV m R)(hlR:R.length=T.code.length)(hlt:T.code.length≤4000)(hlo:oT.length≤ws.length∧ws.length≤1000000)(ho:∀k,k<oT.length→0≤oT.getD k 0∧oT.getD k 0<(T.code.length:Int))(hnw:B2 ws=true)(hform:∀k,k<T.code.length→Ey ni k (T.code.getD k AE.zero)) :
  Calls Tryz.prog 184 #[(.agg #[(zI ipT),vtc,vtg,vtx]),vr,vw] w (fun e w'=>∃v0:Value,e=.returned v0∧AF w w'∧RN S (B3 (B3 rI)) w'.heap v0 (Jh T.code R oT ws)∧C5 v0):=by
 refine Aq [.agg #[zI ipT,vtc,vtg,vtx],vr,vw] 159 Tryz.func184 Z Z sM ?_
 have jn:AF w w:=AF.refl w
 have hl_vtx:=htoT.lenL
 unfold maxLen at hl_vtx
 have f4:=hR.lenL
 unfold maxLen at f4
 have fj:=hws.lenle
 refine bZ [3,0] Z (Bu (cs:=#[zI ipT,vtc,vtg,vtx]) Z Aa fun w1 gx ks gy=>?_)
 have gz:=gx.size
 have jo:=jn.trans gx
 replace gy:BX w1.heap w.heap.size [zI ipT,vtc,vtg,vtx]:=gy
 refine Ac 1 Z<|bZ [3,3,4] Z (CQ (Bh rI 2) o1 BH B8 Aa fun v2 w2 gu kt jp=>?_)
 have i0:=gu.size
 have jq:=jo.trans gu
 have cu:=gy.ext gu
 have lu:=cu.lt
 refine Bo (z:=zN) (by kernel_rfl) Aa fun w3 dx ku i1=>?_
 have i3:=dx.size
 have i4:=jq.trans dx
 have dy:=cu.ext dx
 have c2:=jp.ext (o2) dx
 replace i1:BX w3.heap w2.heap.size [zN]:=i1
 refine Be (k:=0) (w:=w3) Zp Z Z (Bp c2.isSl) i1 sM Aa fun w5 dz kv gv=>?_
 replace gv:BX w5.heap w2.heap.size [v2]:=gv
 have jr:AF w w5:=dz.below i4 (fun _ h=>zE h) i4.size
 have i5:w3.heap.size≤w5.heap.size:=dz.size
 have js:=dy.chg dz (zB ·)
 have jt:=c2.chg (o2) dz fun _ h=>zA h
 refine Aj<|A0<|bZ [0,0,0] Z<|Ad 1 Z<|AQ (v:=vr) BH Z hR.slL Aa<|Ac 1 Z<|A3 ?_
 have hLBa:w.heap.size<w1.heap.size:=by omega
 have hLBb:w1.heap.size≤w2.heap.size:=by omega
 have hLBc:=Nat.le_of_lt hLBa
 obtain⟨Fo8,e0⟩:=Ow.of_fr (T:=w2.heap.size) jt (A7 _)
 have kw:w2.heap.size∉Fo8:=fun hm=>zH<|e0.high _ hm
 have kx:=e0.up (T':=w5.heap.size) oM
 have ky:w2.heap.size<w5.heap.size:=BX.lt gv
 refine B1 (S:=Nat×Value×List Nat) (fun⟨k,vo,Fo⟩=>([(20,zI (k:Int)),(1,vr),(2,vw),(3,zP w.heap.size),(7,zP w2.heap.size),(18,vr),(19,zI (R.length:Int))])) (fun⟨k,vo,Fo⟩ W=>AF w W∧BX W.heap w.heap.size [zI ipT,vtc,vtg,vtx]∧BX W.heap w2.heap.size [vo]∧k≤R.length∧Ow (Bh (Bh rI 2) 27) w1.heap.size W.heap.size W.heap vo (Jg<|R.take k) Fo∧w2.heap.size∉Fo) (fun⟨k,vo,Fo⟩=>R.length-k) (0,v2,Fo8) ⟨rfl,rfl,rfl,rfl,rfl,rfl,rfl,trivial⟩ ⟨jr,js,gv,oM,(by assumption),(by assumption)⟩ ?_
 clear jn ks gx gz jo jp kt gu i0 jq ku dx i3 i4 c2 kv dz jr i5 js jt
 rintro⟨k,vo,Fo⟩ ρ9 w9 ⟨e1,ax,ap,ju,hOl,hgF⟩
 have i6:w.heap.size≤w9.heap.size:=e1.size
 have kz:=ax.lt
 have l0:=ap.lt
 have m1:w2.heap.size<w9.heap.size:=BX.lt ap
 refine bZ [0] Z ?_
 by_cases e2:(k:Int)<(R.length:Int)
 ·refine AG true Z Z (A5 e2) Aa<|Aj<|A0<|Ag Z<|A2<|A0<|A3<|bZ [0,2,0] Z<|AB (v:=vr) k BH B8 Z Z hR.slL Z sD Aa ?_
  obtain⟨e3,i8,e4⟩:=RN.getL (w:=w) g1 [] (k:=k) hR sD
  have e5:=e4.lenL
  unfold maxLen at e5
  refine Ai (p:=Ay vr k 1) (.inr Z) e3 Bj Z (i8 _<|Au.of_ext [] e1) Aa<|Ac 1 Z<|AO _ [1,0,0,3,3,4,4] mixed (by kernel_rfl) ?_
  have hrk:=hsR k oM
  have l1:=hrk.1
  refine Ai (p:=zP w2.heap.size) (.inl Z) vo Ll Z (ap.ld (k:=0) sM) Aa<|Ad 1 Z<|AQ (v:=e3) Bt Z e4.slL Aa (GA (n:=(R.getD k []).length) Bt BT Z Z Z sD Aa fun fq m2 b5 l2 i9=>?_)
  replace b5:=b5.of_drew
  have jv:=b5.size
  have ia:=e1.trans b5
  have c3:=ax.ext b5
  have c4:=ap.ext b5
  have ib:=hOl.ext o2 b5
  refine BI (u:=fq) (B:=w9.heap.size) o1 BH B8 Z Z i9 (by first|exact A7 _|omega) Aa fun fr fs c5 l3 ic=>?_
  have jw:=c5.size
  have e6:=ia.trans c5
  have c6:=c3.ext c5
  have c7:=c4.ext c5
  have df:=ib.ext o2 c5
  refine VX o1 (v:=vo) (a:=fr) BH B8 Z Z Z df ic oM oM oM sD (by unfold maxLen;first|omega|assumption|(simp;done)|(simp;omega)) Aa fun fk f9 fl ck e7 id=>?_
  have jx:fs.heap.size≤f9.heap.size:=ck.size
  have e8:AF w f9:=ck.below e6 (fun c hc=>A8 hLBc (df.low c (zj hc))) e6.size
  have ie:=c6.chg ck fun hm=>zH<|df.low _ (zj hm)
  have ig:=c7.chg ck fun hm=>hgF<|zj hm
  have hF25d:w2.heap.size∉fl:=fun hm=>(id _ hm).elim hgF (fun h9=>by omega)
  refine Be (k:=0) (w:=f9) Zp Z Z (Bp e7.slO) ig sM Aa fun fa cl l4 dg=>?_
  replace dg:BX fa.heap w2.heap.size [fk]:=dg
  have ih:AF w fa:=cl.below e8 (fun _ h=>zE h) e8.size
  have jy:f9.heap.size≤fa.heap.size:=cl.size
  have ii:=ie.chg cl (zB ·)
  have ij:=e7.keep o2 cl fun b hb hm=>by rw[A9 hb]at hm;exact hF25d hm
  refine Aj<|Ab _ [0,0] Z<|AP ((k+1:Nat):Int) Z Z (Bl oM sD) Aa<|Ac 1 Z ?_
  have hOe:=(ij).up (T':=fa.heap.size) oM
  rw[SH oM]at hOe
  exact⟨(k+1,fk,fl),_,rfl,zR,⟨ih,ii,dg,oM,hOe,(by assumption)⟩,zD⟩
 refine AG false Z Z (A6 e2) Aa<|Aj<|A0<|Ah Z<|A4<|Ax<|Ax<|At<|A0<|bZ [0,2,0,0] Z<|Ak (p:=zP w.heap.size) 3 Lm Z Z Aa<|Ai (p:=Ap (zP w.heap.size) 3) (.inr Z) vtx Bj Z (ax.ldp (i:=3) sM) Aa<|AQ (v:=vtx) Bt Z htoT.slL Aa<|Ac 1 Z<|A3 ?_
 refine B1 (S:=Nat) (fun i=>([(34,zI (i:Int)),(1,vr),(2,vw),(3,zP w.heap.size),(7,zP w2.heap.size),(32,vtx),(33,zI (oT.length:Int))])) (fun i W=>AF w W∧BX W.heap w.heap.size [zI ipT,vtc,vtg,vtx]∧BX W.heap w2.heap.size [vo]∧i≤oT.length∧Ow (Bh (Bh rI 2) 27) w1.heap.size W.heap.size W.heap vo (LJ oT ws i<|Jg R) Fo) (fun i=>oT.length-i) 0 ⟨rfl,rfl,rfl,rfl,rfl,rfl,rfl,trivial⟩ ⟨e1,ax,ap,oM,(by have h9:=hOl;rw[za oM]at h9;exact h9)⟩ ?_
 clear ap ax e1 i6
 rintro i ρ30 f5 ⟨b6,aj,a5,ik,ay⟩
 have e9:w.heap.size≤f5.heap.size:=b6.size
 have hwl:(LJ oT ws i (Jg R)).length=T.code.length:=by rw[DY,CU];exact hlR
 have l5:=aj.lt
 have l6:=a5.lt
 have l7:w2.heap.size<f5.heap.size:=BX.lt a5
 refine bZ [0] Z ?_
 by_cases ea:(i:Int)<(oT.length:Int)
 ·refine AG true Z Z (A5 ea) Aa<|Aj<|A0<|Ag Z<|A2<|A0<|A3<|bZ [0,0,2,0,0] Z<|Ad 1 Z<|AB (v:=vtx) i Bt BT Z Z htoT.slL Z sD Aa ?_
  have il:=RN.getI (w:=w) (k:=i) htoT sD
  refine Ai (p:=Ay vtx i 1) (.inr Z) (zI<|oT.getD i 0) AD Z (il.1 _<|Au.of_ext [] b6) Aa<|Ac 2 Z<|AO _ [1,0,0,1,1,0,0,1,0,1,0,0,0,1,0,0,4] mixed (by kernel_rfl) ?_
  have hor:=ho i oM
  have hrw:=HW (m:=m) (ws:=ws) (GL hsR) (fun q hq=>by have:=ho q hq;rw[CU];omega) i oM (oT.getD i 0).toNat oM
  have l8:=hrw.1
  refine Ai (p:=zP w2.heap.size) (.inl Z) vo Ll Z (a5.ld (k:=0) sM) Aa<|Ad 1 Z<|AB (v:=vo) ((oT.getD i 0).toNat) BH B8 Z Z ay.slO oM sD Aa ?_
  obtain⟨dh,eb,ec⟩:=ay.rowO (k:=(oT.getD i 0).toNat) sD
  have ed:=(RN.of ec).lenL
  unfold maxLen at ed
  refine Ai (p:=Ay vo ((oT.getD i 0).toNat) 1) (.inl Z) dh Bj Z eb Aa<|Ai (p:=zP w2.heap.size) (.inl Z) vo Ll Z (a5.ld (k:=0) sM) Aa<|Ad 1 Z<|AB (v:=vo) ((oT.getD i 0).toNat) BH B8 Z Z ay.slO oM sD Aa ?_
  obtain⟨di,im,dj⟩:=ay.rowO (k:=(oT.getD i 0).toNat) sD
  have ee:=(RN.of dj).lenL
  unfold maxLen at ee
  refine Ai (p:=Ay vo ((oT.getD i 0).toNat) 1) (.inl Z) di Bj Z im Aa<|AB (v:=di) 0 Bt BT Z Z (RN.of dj).slL Z sD Aa ?_
  have ef:=RN.getI (w:=f5) (k:=0) (RN.of dj) sD
  refine Ai (p:=Ay di 0 1) (.inl Z) (zI<|((LJ oT ws i<|Jg R).getD ((oT.getD i 0).toNat) []).getD 0 0) AD Z (ef.1 _ (Au.refl _ _).drew) Aa<|Ad 2 Z<|AB (v:=vw) i Bt BT Z Z hws.isSl Z sD Aa ?_
  refine Ai (p:=Ay vw i 1) (.inl Z) (zI<|ws.getD i 0) AD Z (AZ b6.drew (hws.getI sD).1) Aa ?_
  refine Az 230 [] [] [zI<|((LJ oT ws i<|Jg R).getD ((oT.getD i 0).toNat) []).getD 0 0,zI<|ws.getD i 0] Z Z T5 Aa (zI<|md ((((LJ oT ws i<|Jg R).getD ((oT.getD i 0).toNat) []).getD 0 0)+(ws.getD i 0))) (fun wq=>Hx wq _ _ ef.2 (hws.getI sD).2) ?_
  refine AB (v:=dh) 0 Bt BT Z Z (RN.of ec).slL Z sD Aa ?_
  refine Uk (v:=vo) (u:=dh) (w:=f5.drew) Hv Z Z (ED _) ay sD eb sD Aa fun fb G39 bj l9 dk io=>?_
  replace bj:=bj.of_drew
  have jz:f5.heap.size≤fb.heap.size:=bj.size
  have ip:AF w fb:=bj.below b6 (fun c hc=>A8 hLBc (ay.low c (dk c hc))) b6.size
  have iq:=aj.chg bj fun hm=>zH<|ay.low _ (dk _ hm)
  have ir:=a5.chg bj fun hm=>hgF<|dk _ hm
  refine Aj<|Ab _ [0,0] Z<|AP ((i+1:Nat):Int) Z Z (Bl oM sD) Aa<|Ac 1 Z ?_
  have hOe:=(io).up (T':=fb.heap.size) oM
  exact⟨i+1,_,rfl,zR,⟨ip,iq,ir,oM,hOe⟩,zD⟩
 refine AG false Z Z (A6 ea) Aa<|Aj<|A0<|Ah Z<|A4<|Ax<|Ax<|At<|A0<|bZ [0,2,0,0,0] Z ?_
 have hOw:=ay
 rw[show i=oT.length from by omega]at hOw
 obtain⟨la,F0,is,k0⟩:=Hi.ofOw (S:=S) hOw (fun b hb=>zH<|c1 b hb)
 have cm:w2.heap.size∉F0:=fun hm=>hgF (k0 _ hm)
 obtain⟨BO,hBO⟩:∃b:Nat,b=w1.heap.size:=⟨_,rfl⟩
 rw[← hBO]at is
 have hwB:w.heap.size≤BO:=by omega
 have hSB:∀b∈S,b<BO:=fun b hb=>zH<|c1 b hb
 obtain⟨B0,gw⟩:∃l:List Sr,l=LJ oT ws oT.length (Jg R):=⟨_,rfl⟩
 rw[← gw]at is
 have lb:BV m B0:=by rw[gw];exact HW (GL hsR) (fun q hq=>by have:=ho q hq;rw[CU];omega) _ (A7 _)
 have lc:B0.length=T.code.length:=by rw[gw,DY,CU];exact hlR
 refine Ak (p:=zP w.heap.size) 1 Fk Z Z Aa<|Ai (p:=Ap (zP w.heap.size) 1) (.inr Z) vtc K9 Z (aj.ldp (i:=1) sM) Aa<|AQ (v:=vtc) OU Z htcT.isSl Aa ?_
 refine Bs ((T.code.length:Int)-((1:Nat):Int)) Z Z (Da sD sD) Aa<|Ac 1 Z<|A3 ?_
 refine B1 (S:=Int×List Sr×List Value) (fun⟨kk,xs,us⟩=>([(12,zI kk),(1,vr),(3,zP w.heap.size),(7,zP w2.heap.size)])) (fun⟨kk,xs,us⟩ W=>AF w W∧BX W.heap w.heap.size [zI ipT,vtc,vtg,vtx]∧BX W.heap w2.heap.size [vo]∧(-1≤kk∧kk<(T.code.length:Int))∧Hi 27 S BO W.heap vo xs us F0∧BV m xs∧xs.length=T.code.length∧QZ T.code R (kk+1).toNat xs=QZ T.code R T.code.length B0) (fun⟨kk,xs,us⟩=>(kk+1).toNat) ((T.code.length:Int)-1,B0,la) ⟨rfl,rfl,rfl,rfl,trivial⟩ ⟨b6,aj,a5,oM,is,lb,lc,(by rw[show((T.code.length:Int)-1+1).toNat=T.code.length from by omega])⟩ ?_
 clear a5 aj b6 e9 k0
 rintro⟨kk,xs,us⟩ ρ42 f0 ⟨cn,au,a8,it,hbl,hxs,hxl,hadj⟩
 have k1:w.heap.size≤f0.heap.size:=cn.size
 have le:=au.lt
 have lf:=a8.lt
 have hFl:∀b∈F0,b<f0.heap.size:=hbl.lt
 have lg:=BX.lt a8
 refine A0<|bZ [0,0] Z<|Ad 1 Z ?_
 by_cases eg:((0:Nat):Int)≤kk
 ·refine Dv true Z Z (A5 eg) Aa<|Aj<|Ag Z<|A2<|A0<|A3<|A0 ?_
  letI:JR:=QW [f0.drew.heap.size]
  refine Jx.AO _ [0,1,0,0,1,1,0,0,1,3,3,0] mixed (by kernel_rfl) ?_
  have ba:∀wj,Au [f0.drew.heap.size] f0.drew wj→AF f0.drew wj:=fun wj hj=>Au.toExt hj (fun b hb=>Nat.le_of_eq (A9 hb).symm)
  have hkn:kk.toNat<T.code.length:=by omega
  have hro:=hxs kk.toNat oM
  have lh:=hro.1
  have hRk:=hsR kk.toNat oM
  have li:=hRk.1
  refine Jx.Ak (p:=zP w.heap.size) 1 Fk Z Z Aa<|Jx.ZQ (p:=Ap (zP w.heap.size) 1) vtc K9 Z (fun wj hj=>(BX.ext (w:=f0.drew) au<|ba wj hj).ldp (i:=1) sM) Aa<|Jx.VU (zI kk) Z Aa<|Jx.AB (v:=vtc) ((kk).toNat) OU Jn Z Z htcT.isSl oM sD Aa ?_
  obtain⟨cs49,iu,iv⟩:=htcT.get Bb AE.zero (k:=(kk).toNat) sD
  obtain⟨rfl,av⟩:=MU iu
  refine Jx.Y6 (p:=Ay vtc ((kk).toNat) 4) [zI<|(T.code.getD ((kk).toNat) AE.zero).op,zI<|(T.code.getD ((kk).toNat) AE.zero).a,zI<|(T.code.getD ((kk).toNat) AE.zero).b,zI<|(T.code.getD ((kk).toNat) AE.zero).num] Fl Z (fun wj hj=>iv wj<|Au.of_ext []<|cn.drew.trans<|ba wj hj) Z Aa<|Jx.ZQ (p:=zP w2.heap.size) vo Ll Z (fun wj hj=>(BX.ext (w:=f0.drew) a8<|ba wj hj).ldp (i:=0) sM) Aa<|Jx.VU (zI kk) Z Aa ?_
  refine Jx.AB (v:=vo) ((kk).toNat) BH B8 Z Z (hbl.done hSB).none.slL oM sD Aa ?_
  obtain⟨a9,iw,dl⟩:=hbl.getF (k:=(kk).toNat) sD
  have eh:=dl.lenL
  unfold maxLen at eh
  refine Jx.ZQ (p:=Ay vo ((kk).toNat) 1) a9 Bj Z (fun wj hj=>AZ (w:=f0.drew) (ba wj hj) iw) Aa ?_
  have lj:=au.lt
  have lk:=a8.lt
  have k2:f0.drew.heap.size=f0.heap.size:=rfl
  refine Jx.aJ<|Bo (z:=.agg #[zI 0,zI 0,zI 0,zI 0]) Ta Aa ?_
  intro fm ac ll dm
  refine Aj ?_
  replace ac:=ac.of_drew
  have k3:=ac.size
  have ei:=cn.trans ac
  have bk:=au.ext ac
  have bl:=a8.ext ac
  have lm:=hbl.ext ac
  have ln:=dl.ext g1 ac
  replace dm:BX fm.heap f0.drew.heap.size [zI 0,zI 0,zI 0,zI 0]:=dm
  refine Jx.cE (Bz (vs:=[zI<|(T.code.getD ((kk).toNat) AE.zero).op,zI<|(T.code.getD ((kk).toNat) AE.zero).a,zI<|(T.code.getD ((kk).toNat) AE.zero).b,zI<|(T.code.getD ((kk).toNat) AE.zero).num]) Fl Z Z (by intro u hu;simp only[ze,z2,or_false]at hu;rcases hu with rfl|rfl|rfl|rfl <;> first|exact⟨rfl,rfl⟩) dm Z Z Aa fun f1 b7 lo a6=>?_)
  replace a6:BX f1.heap f0.drew.heap.size [zI ((T.code.getD ((kk).toNat) AE.zero).op),zI ((T.code.getD ((kk).toNat) AE.zero).a),zI ((T.code.getD ((kk).toNat) AE.zero).b),zI ((T.code.getD ((kk).toNat) AE.zero).num)]:=a6
  have ad:AF w f1:=b7.below ei (fun _ h=>zE h) ei.size
  have k4:fm.heap.size≤f1.heap.size:=b7.size
  have bm:=bk.chg b7 (zB ·)
  have az:=bl.chg b7 (zB ·)
  have ae:=hbl.ext<|b7.below ac (fun _ h=>zE h) ac.size
  have an:=dl.ext g1<|b7.below ac (fun _ h=>zE h) ac.size
  refine Aj ⟨b7,?_⟩
  refine Jx.R7 a9 Z Aa<|Jx.Aj<|bZ [0,0] Z<|MA [] [zP w2.heap.size] Z Z Aa<|Ac 1 Z<|bZ [0,2] Z<|Ak (p:=zP f0.drew.heap.size) 0 Ln Z Z Aa<|Ai (p:=Ap (zP f0.drew.heap.size) 0) (.inr Z) (zI<|(T.code.getD ((kk).toNat) AE.zero).op) AD Z (a6.ldp (i:=0) sM) Aa<|Aj<|A3<|bZ [0,0] Z ?_
  by_cases ej:(T.code.getD ((kk).toNat) AE.zero).op=((3:Nat):Int)
  ·refine Am true Z Z (A5 ej) Aa<|Ac 1 Z<|Ag Z<|bZ [0,0,2,0,4] Z ?_
   have hio:=(hform kk.toNat hkn).i2 oM
   have hra:=hxs (T.code.getD kk.toNat AE.zero).a.toNat oM
   have co:=hra.1
   have hRa:=hsR (T.code.getD kk.toNat AE.zero).a.toNat oM
   have hRb:=hsR (T.code.getD kk.toNat AE.zero).b.toNat oM
   have dn:=hRa.1
   have dp:=hRb.1
   refine Ad 1 Z<|Ak (p:=zP f0.drew.heap.size) 1 CK Z Z Aa<|Ai (p:=Ap (zP f0.drew.heap.size) 1) (.inr Z) (zI<|(T.code.getD ((kk).toNat) AE.zero).a) AD Z (a6.ldp (i:=1) sM) Aa<|Ad 1 Z ?_
   refine AA 231 [] [zP w2.heap.size] [zI<|(T.code.getD ((kk).toNat) AE.zero).a,a9,zP w2.heap.size] Z Z Jl Aa (Bg _ ((T.code.getD ((kk).toNat) AE.zero).a) a9 (xs.getD ((kk).toNat) []) S w2.heap.size vo (xs) _ _ BO av.2.1 an.rd (az.ld (k:=0) sM) ae hSB (fun b hb=>zH<|c1 b hb) oM GU hra.2 GV) ?_
   rintro m3 fc ⟨rfl,bn,lp,cp⟩
   refine⟨_,rfl,?_⟩
   have k5:f1.heap.size≤fc.heap.size:=bn.size
   have ek:AF w fc:=bn.below ad (fun c hc=>A8 hwB (ae.low c hc)) ad.size
   have ix:=bm.chg bn fun hm=>by have:=ae.low _ hm;have:=hFl _ hm;omega
   have el:=az.chg bn fun hm=>cm hm
   have em:=a6.chg bn fun hm=>by have:=ae.low _ hm;have:=hFl _ hm;omega
   have en:=an.chg g1<|bn.sub fun b hb=>z1 _ hb
   have dq:BV m (ER xs (T.code.getD kk.toNat AE.zero).a (xs.getD kk.toNat [])):=CV hxs oM
   have iy:(ER xs (T.code.getD kk.toNat AE.zero).a (xs.getD kk.toNat [])).length=T.code.length:=by rw[BJ];exact hxl
   have hrb:=dq (T.code.getD kk.toNat AE.zero).b.toNat oM
   have dr:=hrb.1
   refine Aj<|Ab _ [0,0,2,0,4] Z<|Ad 1 Z<|Ak (p:=zP f0.drew.heap.size) 2 CB Z Z Aa<|Ai (p:=Ap (zP f0.drew.heap.size) 2) (.inr Z) (zI<|(T.code.getD ((kk).toNat) AE.zero).b) AD Z (em.ldp (i:=2) sM) Aa<|Ad 1 Z ?_
   refine AA 231 [] [zP w2.heap.size] [zI<|(T.code.getD ((kk).toNat) AE.zero).b,a9,zP w2.heap.size] Z Z Jl Aa (Bg _ ((T.code.getD ((kk).toNat) AE.zero).b) a9 (xs.getD ((kk).toNat) []) S w2.heap.size vo (ER xs ((T.code.getD ((kk).toNat) AE.zero).a)<|xs.getD ((kk).toNat) []) _ _ BO av.2.2.1 en.rd (el.ld (k:=0) sM) cp hSB (fun b hb=>zH<|c1 b hb) oM GU hrb.2 GV) ?_
   rintro m4 fo ⟨rfl,bo,iz,j0⟩
   refine⟨_,rfl,?_⟩
   have k6:fc.heap.size≤fo.heap.size:=bo.size
   have j1:AF w fo:=bo.below ek (fun c hc=>A8 hwB (cp.low c hc)) ek.size
   have j2:=ix.chg bo fun hm=>by have:=cp.low _ hm;have:=hFl _ hm;omega
   have j3:=el.chg bo fun hm=>cm hm
   have lq:=em.chg bo fun hm=>by have:=cp.low _ hm;have:=hFl _ hm;omega
   have lr:=en.chg g1<|bo.sub fun b hb=>z1 _ hb
   refine Aj<|Ab _ [0,0,0] Z<|Ad 1 Z<|Bs (kk-((1:Nat):Int)) Z Z (Da sD sD) Aa<|Ac 1 Z ?_
   have hbe:=j0
   exact⟨(kk-1,ER (ER xs ((T.code.getD ((kk).toNat) AE.zero).a) (xs.getD ((kk).toNat) [])) ((T.code.getD ((kk).toNat) AE.zero).b) (xs.getD ((kk).toNat) []),iz),_,rfl,zR,⟨j1,j2,j3,oM,hbe,JX,JY,JW⟩,zD⟩
  refine Am false Z Z (A6 ej) Aa<|Ac 1 Z<|Ah Z<|bZ [0,0] Z ?_
  by_cases eo:(T.code.getD ((kk).toNat) AE.zero).op=((4:Nat):Int)
  ·refine Am true Z Z (A5 eo) Aa<|Ac 1 Z<|Ag Z<|bZ [0,0,2,0,4] Z ?_
   have hio:=(hform kk.toNat hkn).i2 oM
   have hra:=hxs (T.code.getD kk.toNat AE.zero).a.toNat oM
   have co:=hra.1
   have hRa:=hsR (T.code.getD kk.toNat AE.zero).a.toNat oM
   have hRb:=hsR (T.code.getD kk.toNat AE.zero).b.toNat oM
   have dn:=hRa.1
   have dp:=hRb.1
   refine Ad 1 Z<|Ak (p:=zP f0.drew.heap.size) 1 CK Z Z Aa<|Ai (p:=Ap (zP f0.drew.heap.size) 1) (.inr Z) (zI<|(T.code.getD ((kk).toNat) AE.zero).a) AD Z (a6.ldp (i:=1) sM) Aa<|Ad 1 Z ?_
   refine AA 231 [] [zP w2.heap.size] [zI<|(T.code.getD ((kk).toNat) AE.zero).a,a9,zP w2.heap.size] Z Z Jl Aa (Bg _ ((T.code.getD ((kk).toNat) AE.zero).a) a9 (xs.getD ((kk).toNat) []) S w2.heap.size vo (xs) _ _ BO av.2.1 an.rd (az.ld (k:=0) sM) ae hSB (fun b hb=>zH<|c1 b hb) oM GU hra.2 GV) ?_
   rintro m5 fd ⟨rfl,bp,ls,j4⟩
   refine⟨_,rfl,?_⟩
   have k7:f1.heap.size≤fd.heap.size:=bp.size
   have j5:AF w fd:=bp.below ad (fun c hc=>A8 hwB (ae.low c hc)) ad.size
   have j6:=bm.chg bp fun hm=>by have:=ae.low _ hm;have:=hFl _ hm;omega
   have j7:=az.chg bp fun hm=>cm hm
   have ep:=a6.chg bp fun hm=>by have:=ae.low _ hm;have:=hFl _ hm;omega
   have eq:=an.chg g1<|bp.sub fun b hb=>z1 _ hb
   have dq:BV m (ER xs (T.code.getD kk.toNat AE.zero).a (xs.getD kk.toNat [])):=CV hxs oM
   have iy:(ER xs (T.code.getD kk.toNat AE.zero).a (xs.getD kk.toNat [])).length=T.code.length:=by rw[BJ];exact hxl
   have hrb:=dq (T.code.getD kk.toNat AE.zero).b.toNat oM
   have dr:=hrb.1
   refine Aj<|AO _ [0,0,1,0,3,4] mixed (by kernel_rfl)<|Ad 1 Z<|Ak (p:=zP f0.drew.heap.size) 2 CB Z Z Aa<|Ai (p:=Ap (zP f0.drew.heap.size) 2) (.inl Z) (zI<|(T.code.getD ((kk).toNat) AE.zero).b) AD Z (ep.ldp (i:=2) sM) Aa<|Ad 1 Z<|As 187 [] [] [a9,zI ((1000002:Nat):Int)] Z Z Mw Aa (D4 _ _ _ _ eq.rd oM Fx Fw oM) ?_
   rintro m6 ft ⟨cv,rfl,ao,aw⟩
   refine⟨_,rfl,ao,?_⟩
   replace ao:=ao.of_drew
   have k8:=ao.size
   have er:=j5.trans ao
   have cq:=j6.ext ao
   have bb:=j7.ext ao
   have cr:=ep.ext ao
   have ct:=j4.ext ao
   have j8:=eq.ext g1 ao
   replace aw:=aw.low (B':=fd.heap.size)<|A7 _
   refine AA 231 [] [zP w2.heap.size] [zI<|(T.code.getD ((kk).toNat) AE.zero).b,cv,zP w2.heap.size] Z Z Jl Aa (Bg _ ((T.code.getD ((kk).toNat) AE.zero).b) cv (Ct (xs.getD ((kk).toNat) []) ((1000002:Nat):Int)) S w2.heap.size vo (ER xs ((T.code.getD ((kk).toNat) AE.zero).a)<|xs.getD ((kk).toNat) []) _ _ BO av.2.2.1 aw.rd1 (bb.ld (k:=0) sM) ct hSB (fun b hb=>zH<|c1 b hb) oM GU hrb.2 GV) ?_
   rintro m7 fp ⟨rfl,b8,j9,ja⟩
   refine⟨_,rfl,?_⟩
   have k9:ft.heap.size≤fp.heap.size:=b8.size
   have jb:AF w fp:=b8.below er (fun c hc=>A8 hwB (ct.low c hc)) er.size
   have es:=cq.chg b8 fun hm=>by have:=ct.low _ hm;have:=hFl _ hm;omega
   have et:=bb.chg b8 fun hm=>cm hm
   have ka:=cr.chg b8 fun hm=>by have:=ct.low _ hm;have:=hFl _ hm;omega
   have kb:=j8.chg g1<|b8.sub fun b hb=>z1 _ hb
   have kc:=aw.chg (o1) b8 fun c hc=>zH<|hFl c hc
   refine Aj<|Ab _ [0,0,0] Z<|Ad 1 Z<|Bs (kk-((1:Nat):Int)) Z Z (Da sD sD) Aa<|Ac 1 Z ?_
   have hbe:=ja
   exact⟨(kk-1,ER (ER xs ((T.code.getD ((kk).toNat) AE.zero).a) (xs.getD ((kk).toNat) [])) ((T.code.getD ((kk).toNat) AE.zero).b) (Ct (xs.getD ((kk).toNat) []) ((1000002:Nat):Int)),j9),_,rfl,zR,⟨jb,es,et,oM,hbe,JX,JY,JW⟩,zD⟩
  refine Am false Z Z (A6 eo) Aa<|Ac 1 Z<|Ah Z<|bZ [0,0] Z ?_
  by_cases cw:(T.code.getD ((kk).toNat) AE.zero).op=((5:Nat):Int)
  ·refine Am true Z Z (A5 cw) Aa<|Ac 1 Z<|Ag Z<|A0<|AO _ [0,0,1,0,0,0,1,0,1,3,4] mixed (by kernel_rfl) ?_
   have hio:=(hform kk.toNat hkn).i2 oM
   have hra:=hxs (T.code.getD kk.toNat AE.zero).a.toNat oM
   have co:=hra.1
   have hRa:=hsR (T.code.getD kk.toNat AE.zero).a.toNat oM
   have hRb:=hsR (T.code.getD kk.toNat AE.zero).b.toNat oM
   have dn:=hRa.1
   have dp:=hRb.1
   refine Ad 1 Z<|Ak (p:=zP f0.drew.heap.size) 1 CK Z Z Aa<|Ai (p:=Ap (zP f0.drew.heap.size) 1) (.inl Z) (zI<|(T.code.getD ((kk).toNat) AE.zero).a) AD Z (a6.ldp (i:=1) sM) Aa<|Ad 2 Z<|Ak (p:=zP f0.drew.heap.size) 2 CB Z Z Aa<|Ai (p:=Ap (zP f0.drew.heap.size) 2) (.inl Z) (zI<|(T.code.getD ((kk).toNat) AE.zero).b) AD Z (a6.ldp (i:=2) sM) Aa ?_
   refine AB (v:=vr) (((T.code.getD ((kk).toNat) AE.zero).b).toNat) BH B8 Z Z hR.slL oM sD Aa ?_
   obtain⟨cx,eu,cy⟩:=RN.getL (w:=w) g1 [] (k:=((T.code.getD ((kk).toNat) AE.zero).b).toNat) hR sD
   have ds:=cy.lenL
   unfold maxLen at ds
   refine Ai (p:=Ay vr (((T.code.getD ((kk).toNat) AE.zero).b).toNat) 1) (.inl Z) cx Bj Z (eu _<|Au.of_ext [] ad.drew) Aa<|As 179 [] [] [a9,cx] Z Z Ob Aa (Dl _ _ _ _ _ an.rd (cy.ext g1 ad.drew).rd Fx Fx Fw Fw) ?_
   rintro fu fe ⟨c8,rfl,a2,af⟩
   refine⟨_,rfl,a2,?_⟩
   replace a2:=a2.of_drew
   have jc:=a2.size
   have cz:=ad.trans a2
   have c9:=bm.ext a2
   have b0:=az.ext a2
   have ca:=a6.ext a2
   have bc:=ae.ext a2
   have ev:=an.ext g1 a2
   replace af:=af.low (B':=f1.heap.size)<|A7 _
   refine AA 231 [] [zP w2.heap.size] [zI<|(T.code.getD ((kk).toNat) AE.zero).a,c8,zP w2.heap.size] Z Z Jl Aa (Bg _ ((T.code.getD ((kk).toNat) AE.zero).a) c8 (Cc (xs.getD ((kk).toNat) [])<|R.getD (((T.code.getD ((kk).toNat) AE.zero).b).toNat) []) S w2.heap.size vo (xs) _ _ BO av.2.1 af.rd1 (b0.ld (k:=0) sM) bc hSB (fun b hb=>zH<|c1 b hb) oM GU hra.2 GV) ?_
   rintro fv f2 ⟨rfl,ak,kd,ew⟩
   refine⟨_,rfl,?_⟩
   have jd:fe.heap.size≤f2.heap.size:=ak.size
   have cb:AF w f2:=ak.below cz (fun c hc=>A8 hwB (bc.low c hc)) cz.size
   have ex:=c9.chg ak fun hm=>by have:=bc.low _ hm;have:=hFl _ hm;omega
   have ey:=b0.chg ak fun hm=>cm hm
   have cc:=ca.chg ak fun hm=>by have:=bc.low _ hm;have:=hFl _ hm;omega
   have d0:=ev.chg g1<|ak.sub fun b hb=>z1 _ hb
   have ez:=af.chg (o1) ak fun c hc=>zH<|hFl c hc
   have dq:BV m (ER xs (T.code.getD kk.toNat AE.zero).a (Cc (xs.getD kk.toNat []) (R.getD (T.code.getD kk.toNat AE.zero).b.toNat []))):=CV hxs oM
   have iy:(ER xs (T.code.getD kk.toNat AE.zero).a (Cc (xs.getD kk.toNat []) (R.getD (T.code.getD kk.toNat AE.zero).b.toNat []))).length=T.code.length:=by rw[BJ];exact hxl
   have hrb:=dq (T.code.getD kk.toNat AE.zero).b.toNat oM
   have dr:=hrb.1
   refine Aj<|AO _ [0,0,1,0,0,0,1,0,1,3,4] mixed (by kernel_rfl)<|Ad 1 Z<|Ak (p:=zP f0.drew.heap.size) 2 CB Z Z Aa<|Ai (p:=Ap (zP f0.drew.heap.size) 2) (.inl Z) (zI<|(T.code.getD ((kk).toNat) AE.zero).b) AD Z (cc.ldp (i:=2) sM) Aa<|Ad 2 Z<|Ak (p:=zP f0.drew.heap.size) 1 CK Z Z Aa<|Ai (p:=Ap (zP f0.drew.heap.size) 1) (.inl Z) (zI<|(T.code.getD ((kk).toNat) AE.zero).a) AD Z (cc.ldp (i:=1) sM) Aa ?_
   refine AB (v:=vr) (((T.code.getD ((kk).toNat) AE.zero).a).toNat) BH B8 Z Z hR.slL oM sD Aa ?_
   obtain⟨d1,g0,d2⟩:=RN.getL (w:=w) g1 [] (k:=((T.code.getD ((kk).toNat) AE.zero).a).toNat) hR sD
   have dt:=d2.lenL
   unfold maxLen at dt
   refine Ai (p:=Ay vr (((T.code.getD ((kk).toNat) AE.zero).a).toNat) 1) (.inl Z) d1 Bj Z (g0 _<|Au.of_ext [] cb.drew) Aa<|As 179 [] [] [a9,d1] Z Z Ob Aa (Dl _ _ _ _ _ d0.rd (d2.ext g1 cb.drew).rd Fx Fx Fw Fw) ?_
   rintro fw ff ⟨cd,rfl,a0,ag⟩
   refine⟨_,rfl,a0,?_⟩
   replace a0:=a0.of_drew
   have je:=a0.size
   have d3:=cb.trans a0
   have bq:=ex.ext a0
   have aq:=ey.ext a0
   have br:=cc.ext a0
   have bs:=ez.ext (o1) a0
   have bd:=ew.ext a0
   have g2:=d0.ext g1 a0
   replace ag:=ag.low (B':=f2.heap.size)<|A7 _
   refine AA 231 [] [zP w2.heap.size] [zI<|(T.code.getD ((kk).toNat) AE.zero).b,cd,zP w2.heap.size] Z Z Jl Aa (Bg _ ((T.code.getD ((kk).toNat) AE.zero).b) cd (Cc (xs.getD ((kk).toNat) [])<|R.getD (((T.code.getD ((kk).toNat) AE.zero).a).toNat) []) S w2.heap.size vo (ER xs ((T.code.getD ((kk).toNat) AE.zero).a)<|Cc (xs.getD ((kk).toNat) [])<|R.getD (((T.code.getD ((kk).toNat) AE.zero).b).toNat) []) _ _ BO av.2.2.1 ag.rd1 (aq.ld (k:=0) sM) bd hSB (fun b hb=>zH<|c1 b hb) oM GU hrb.2 GV) ?_
   rintro fx f6 ⟨rfl,aa,g3,g4⟩
   refine⟨_,rfl,?_⟩
   have jf:ff.heap.size≤f6.heap.size:=aa.size
   have g5:AF w f6:=aa.below d3 (fun c hc=>A8 hwB (bd.low c hc)) d3.size
   have g6:=bq.chg aa fun hm=>by have:=bd.low _ hm;have:=hFl _ hm;omega
   have g7:=aq.chg aa fun hm=>cm hm
   have ke:=br.chg aa fun hm=>by have:=bd.low _ hm;have:=hFl _ hm;omega
   have kf:=g2.chg g1<|aa.sub fun b hb=>z1 _ hb
   have kg:=bs.chg (o1) aa fun c hc=>zH<|hFl c hc
   have kh:=ag.chg (o1) aa fun c hc=>zH<|hFl c hc
   refine Aj<|Ab _ [0,0,0] Z<|Ad 1 Z<|Bs (kk-((1:Nat):Int)) Z Z (Da sD sD) Aa<|Ac 1 Z ?_
   have hbe:=g4
   exact⟨(kk-1,ER (ER xs ((T.code.getD ((kk).toNat) AE.zero).a) (Cc (xs.getD ((kk).toNat) []) (R.getD (((T.code.getD ((kk).toNat) AE.zero).b).toNat) []))) ((T.code.getD ((kk).toNat) AE.zero).b) (Cc (xs.getD ((kk).toNat) []) (R.getD (((T.code.getD ((kk).toNat) AE.zero).a).toNat) [])),g3),_,rfl,zR,⟨g5,g6,g7,oM,hbe,JX,JY,JW⟩,zD⟩
  refine Am false Z Z (A6 cw) Aa<|Ac 1 Z<|Ah Z<|bZ [0,0] Z ?_
  by_cases d4:(T.code.getD ((kk).toNat) AE.zero).op=((6:Nat):Int)
  ·refine Am true Z Z (A5 d4) Aa<|Ac 1 Z<|Ag Z<|bZ [0,0,0,2,0,2,3,0] Z ?_
   have hio:=(hform kk.toNat hkn).i2 oM
   have hra:=hxs (T.code.getD kk.toNat AE.zero).a.toNat oM
   have co:=hra.1
   have hRa:=hsR (T.code.getD kk.toNat AE.zero).a.toNat oM
   have hRb:=hsR (T.code.getD kk.toNat AE.zero).b.toNat oM
   have dn:=hRa.1
   have dp:=hRb.1
   refine Ad 2 Z<|Ak (p:=zP f0.drew.heap.size) 2 CB Z Z Aa<|Ai (p:=Ap (zP f0.drew.heap.size) 2) (.inr Z) (zI<|(T.code.getD ((kk).toNat) AE.zero).b) AD Z (a6.ldp (i:=2) sM) Aa<|AB (v:=vr) (((T.code.getD ((kk).toNat) AE.zero).b).toNat) BH B8 Z Z hR.slL oM sD Aa ?_
   obtain⟨d5,g8,d6⟩:=RN.getL (w:=w) g1 [] (k:=((T.code.getD ((kk).toNat) AE.zero).b).toNat) hR sD
   have du:=d6.lenL
   unfold maxLen at du
   refine Ai (p:=Ay vr (((T.code.getD ((kk).toNat) AE.zero).b).toNat) 1) (.inr Z) d5 Bj Z (g8 _<|Au.of_ext [] ad) Aa<|As 177 [] [] [a9,d5] Z Z SZ Aa (EH _ _ _ _ _ an.rd (d6.ext g1 ad).rd Fx Fx oM Fw Fw) ?_
   rintro fy fg ⟨b9,rfl,ab,be⟩
   refine⟨_,rfl,ab,?_⟩
   have jg:=ab.size
   have d7:=ad.trans ab
   have ce:=bm.ext ab
   have b1:=az.ext ab
   have b2:=a6.ext ab
   have bf:=ae.ext ab
   have g9:=an.ext g1 ab
   refine Ac 1 Z<|bZ [0,0,2,0,4] Z<|Ad 1 Z<|Ak (p:=zP f0.drew.heap.size) 1 CK Z Z Aa<|Ai (p:=Ap (zP f0.drew.heap.size) 1) (.inr Z) (zI<|(T.code.getD ((kk).toNat) AE.zero).a) AD Z (b2.ldp (i:=1) sM) Aa<|Ad 1 Z ?_
   refine AA 231 [] [zP w2.heap.size] [zI<|(T.code.getD ((kk).toNat) AE.zero).a,b9,zP w2.heap.size] Z Z Jl Aa (Bg _ ((T.code.getD ((kk).toNat) AE.zero).a) b9 (BM (xs.getD ((kk).toNat) [])<|R.getD (((T.code.getD ((kk).toNat) AE.zero).b).toNat) []) S w2.heap.size vo (xs) _ _ BO av.2.1 be.rd1 (b1.ld (k:=0) sM) bf hSB (fun b hb=>zH<|c1 b hb) oM GU hra.2 GV) ?_
   rintro fz f3 ⟨rfl,al,ki,ga⟩
   refine⟨_,rfl,?_⟩
   have jh:fg.heap.size≤f3.heap.size:=al.size
   have cf:AF w f3:=al.below d7 (fun c hc=>A8 hwB (bf.low c hc)) d7.size
   have gb:=ce.chg al fun hm=>by have:=bf.low _ hm;have:=hFl _ hm;omega
   have gc:=b1.chg al fun hm=>cm hm
   have d8:=b2.chg al fun hm=>by have:=bf.low _ hm;have:=hFl _ hm;omega
   have gd:=g9.chg g1<|al.sub fun b hb=>z1 _ hb
   have d9:=be.chg (o1) al fun c hc=>zH<|hFl c hc
   have dq:BV m (ER xs (T.code.getD kk.toNat AE.zero).a (BM (xs.getD kk.toNat []) (R.getD (T.code.getD kk.toNat AE.zero).b.toNat []))):=CV hxs oM
   have iy:(ER xs (T.code.getD kk.toNat AE.zero).a (BM (xs.getD kk.toNat []) (R.getD (T.code.getD kk.toNat AE.zero).b.toNat []))).length=T.code.length:=by rw[BJ];exact hxl
   have hrb:=dq (T.code.getD kk.toNat AE.zero).b.toNat oM
   have dr:=hrb.1
   refine Aj<|AO _ [0,0,1,0,0,0,0,1,3,3,4] mixed (by kernel_rfl)<|Ad 1 Z<|Ak (p:=zP f0.drew.heap.size) 2 CB Z Z Aa<|Ai (p:=Ap (zP f0.drew.heap.size) 2) (.inl Z) (zI<|(T.code.getD ((kk).toNat) AE.zero).b) AD Z (d8.ldp (i:=2) sM) Aa<|Ad 3 Z ?_
   refine AB (v:=vr) ((kk).toNat) BH B8 Z Z hR.slL oM sD Aa ?_
   obtain⟨da,ge,db⟩:=RN.getL (w:=w) g1 [] (k:=(kk).toNat) hR sD
   have dv:=db.lenL
   unfold maxLen at dv
   refine Ai (p:=Ay vr ((kk).toNat) 1) (.inl Z) da Bj Z (ge _<|Au.of_ext [] cf.drew) Aa<|As 179 [] [] [b9,da] Z Z Ob Aa (Dl _ _ _ _ _ d9.rd1 (db.ext g1 cf.drew).rd Fx Fx Fw Fw) ?_
   rintro lv lw ⟨dw,rfl,a1,ah⟩
   refine⟨_,rfl,a1,?_⟩
   replace a1:=a1.of_drew
   have ji:=a1.size
   have gf:=cf.trans a1
   have bt:=gb.ext a1
   have bu:=gc.ext a1
   have bv:=d8.ext a1
   have bw:=d9.ext (o1) a1
   have gg:=ga.ext a1
   have gh:=gd.ext g1 a1
   replace ah:=ah.low (B':=f3.heap.size)<|A7 _
   refine As 187 [] [] [dw,zI ((1000002:Nat):Int)] Z Z Mw Aa (D4 _ _ _ _ ah.rd1 oM Fx Fw oM) ?_
   rintro lx fh ⟨cg,rfl,a3,bg⟩
   refine⟨_,rfl,a3,?_⟩
   have jj:=a3.size
   have dc:=gf.trans a3
   have bx:=bt.ext a3
   have ar:=bu.ext a3
   have bz:=bv.ext a3
   have c0:=bw.ext (o1) a3
   have b3:=ah.ext (o1) a3
   have bh:=gg.ext a3
   have gi:=gh.ext g1 a3
   refine AA 231 [] [zP w2.heap.size] [zI<|(T.code.getD ((kk).toNat) AE.zero).b,cg,zP w2.heap.size] Z Z Jl Aa (Bg _ ((T.code.getD ((kk).toNat) AE.zero).b) cg (Ct (Cc (BM (xs.getD ((kk).toNat) [])<|R.getD (((T.code.getD ((kk).toNat) AE.zero).b).toNat) [])<|R.getD ((kk).toNat) []) ((1000002:Nat):Int)) S w2.heap.size vo (ER xs ((T.code.getD ((kk).toNat) AE.zero).a)<|BM (xs.getD ((kk).toNat) [])<|R.getD (((T.code.getD ((kk).toNat) AE.zero).b).toNat) []) _ _ BO av.2.2.1 bg.rd1 (ar.ld (k:=0) sM) bh hSB (fun b hb=>zH<|c1 b hb) oM GU hrb.2 GV) ?_
   rintro ly f7 ⟨rfl,a7,gj,gk⟩
   refine⟨_,rfl,?_⟩
   have jk:fh.heap.size≤f7.heap.size:=a7.size
   have gl:AF w f7:=a7.below dc (fun c hc=>A8 hwB (bh.low c hc)) dc.size
   have gm:=bx.chg a7 fun hm=>by have:=bh.low _ hm;have:=hFl _ hm;omega
   have gn:=ar.chg a7 fun hm=>cm hm
   have kj:=bz.chg a7 fun hm=>by have:=bh.low _ hm;have:=hFl _ hm;omega
   have kl:=gi.chg g1<|a7.sub fun b hb=>z1 _ hb
   have km:=c0.chg (o1) a7 fun c hc=>zH<|hFl c hc
   have kn:=b3.chg (o1) a7 fun c hc=>zH<|hFl c hc
   have ko:=bg.chg (o1) a7 fun c hc=>zH<|hFl c hc
   refine Aj<|Ab _ [0,0,0] Z<|Ad 1 Z<|Bs (kk-((1:Nat):Int)) Z Z (Da sD sD) Aa<|Ac 1 Z ?_
   have hbe:=gk
   exact⟨(kk-1,ER (ER xs ((T.code.getD ((kk).toNat) AE.zero).a) (BM (xs.getD ((kk).toNat) []) (R.getD (((T.code.getD ((kk).toNat) AE.zero).b).toNat) []))) ((T.code.getD ((kk).toNat) AE.zero).b) (Ct (Cc (BM (xs.getD ((kk).toNat) []) (R.getD (((T.code.getD ((kk).toNat) AE.zero).b).toNat) [])) (R.getD ((kk).toNat) [])) ((1000002:Nat):Int)),gj),_,rfl,zR,⟨gl,gm,gn,oM,hbe,JX,JY,JW⟩,zD⟩
  refine Am false Z Z (A6 d4) Aa<|Ac 1 Z<|Ah Z<|bZ [0,0] Z ?_
  by_cases dd:(T.code.getD ((kk).toNat) AE.zero).op=((7:Nat):Int)
  ·refine Am true Z Z (A5 dd) Aa<|Ac 1 Z<|Ag Z<|AO _ [0,0,1,0,3,4] mixed (by kernel_rfl) ?_
   have hio:=(hform kk.toNat hkn).i7 oM
   have hra:=hxs (T.code.getD kk.toNat AE.zero).a.toNat oM
   have co:=hra.1
   refine Ad 1 Z<|Ak (p:=zP f0.drew.heap.size) 1 CK Z Z Aa<|Ai (p:=Ap (zP f0.drew.heap.size) 1) (.inl Z) (zI<|(T.code.getD ((kk).toNat) AE.zero).a) AD Z (a6.ldp (i:=1) sM) Aa<|Ad 1 Z<|As 187 [] [] [a9,zI ((1000002:Nat):Int)] Z Z Mw Aa (D4 _ _ _ _ an.rd oM Fx Fw oM) ?_
   rintro lz fi ⟨ch,rfl,a4,ai⟩
   refine⟨_,rfl,a4,?_⟩
   replace a4:=a4.of_drew
   have jl:=a4.size
   have de:=ad.trans a4
   have ci:=bm.ext a4
   have b4:=az.ext a4
   have cj:=a6.ext a4
   have bi:=ae.ext a4
   have go:=an.ext g1 a4
   replace ai:=ai.low (B':=f1.heap.size)<|A7 _
   refine AA 231 [] [zP w2.heap.size] [zI<|(T.code.getD ((kk).toNat) AE.zero).a,ch,zP w2.heap.size] Z Z Jl Aa (Bg _ ((T.code.getD ((kk).toNat) AE.zero).a) ch (Ct (xs.getD ((kk).toNat) []) ((1000002:Nat):Int)) S w2.heap.size vo (xs) _ _ BO av.2.1 ai.rd1 (b4.ld (k:=0) sM) bi hSB (fun b hb=>zH<|c1 b hb) oM GU hra.2 GV) ?_
   rintro m0 f8 ⟨rfl,am,gp,gq⟩
   refine⟨_,rfl,?_⟩
   have jm:fi.heap.size≤f8.heap.size:=am.size
   have gr:AF w f8:=am.below de (fun c hc=>A8 hwB (bi.low c hc)) de.size
   have gs:=ci.chg am fun hm=>by have:=bi.low _ hm;have:=hFl _ hm;omega
   have gt:=b4.chg am fun hm=>cm hm
   have kp:=cj.chg am fun hm=>by have:=bi.low _ hm;have:=hFl _ hm;omega
   have kq:=go.chg g1<|am.sub fun b hb=>z1 _ hb
   have kr:=ai.chg (o1) am fun c hc=>zH<|hFl c hc
   refine Aj<|Ab _ [0,0,0] Z<|Ad 1 Z<|Bs (kk-((1:Nat):Int)) Z Z (Da sD sD) Aa<|Ac 1 Z ?_
   have hbe:=gq
   exact⟨(kk-1,ER xs ((T.code.getD ((kk).toNat) AE.zero).a) (Ct (xs.getD ((kk).toNat) []) ((1000002:Nat):Int)),gp),_,rfl,zR,⟨gr,gs,gt,oM,hbe,JX,JY,JW⟩,zD⟩
  refine Am false Z Z (A6 dd) Aa<|Ac 1 Z<|Ah Z<|A2<|Ab _ [0,0,0] Z<|Ad 1 Z ?_
  refine Bs (kk-((1:Nat):Int)) Z Z (Da sD sD) Aa<|Ac 1 Z ?_
  have hbe:=ae
  exact⟨(kk-1,xs,us),_,rfl,zR,⟨ad,bm,az,oM,hbe,JX,JY,JW⟩,zD⟩
 refine Dv false Z Z (A6 eg) Aa<|Aj<|Ah Z<|A4<|Ax<|Ax<|At<|bZ [2,0] Z<|Ai (p:=zP w2.heap.size) (.inr Z) vo Ll Z (a8.ld (k:=0) sM) Aa<|Ac 1 Z<|A1 ?_
 have hfin:xs=Jh T.code R oT ws:=by have h9:=hadj;rw[show(kk+1).toNat=0 from by omega,gw]at h9;exact h9
 exact Af [6] Z vo Z ⟨_,rfl,cn,(by rw[← hfin];exact(hbl.done hSB)),hbl.cap⟩
theorem HI (w:World)(m:Nat)(ni:Nat)(S:List Nat)(ipT:Int)(vtc vtg vtx:Value)(T:Tp)(oT:Sr)(vl:Value)(L:List (Sr))(b5:∀b∈S,b<w.heap.size)(_hipT:Bx ipT)(htcT:RN [] (DM 4 On) w.heap vtc T.code)(htgT:RN [] (DM 2 Oo) w.heap vtg T.grd)(htoT:RN [] (B3 rI) w.heap vtx oT)(hL:RN [] (B3 (B3 rI)) w.heap vl L)(hqL:C5 vl)(hm:1≤m∧m≤13)(hni:ipT=(ni:Int)∧ni≤1000)(hsL:BV m L)(hlL:L.length=T.code.length∧0<L.length)(hlt:T.code.length≤4000)(hform:∀k,k<T.code.length→Ey ni k (T.code.getD k AE.zero)) :
  Calls Tryz.prog 107 #[(.agg #[(zI ipT),vtc,vtg,vtx]),vl] w (fun e w'=>∃v0:Value,e=.returned v0∧AF w w'∧RN S (B3 (B3 rI)) w'.heap v0 (Ul ni m T.code L)∧C5 v0):=by
 refine Aq [.agg #[zI ipT,vtc,vtg,vtx],vl] 54 Tryz.func107 Z Z sM ?_
 have bt:AF w w:=AF.refl w
 have hl_vtx:=htoT.lenL
 unfold maxLen at hl_vtx
 have cz:=hL.lenL
 unfold maxLen at cz
 have bu:=hsL 0 oM
 have c9:=bu.1
 refine bZ [3,0] Z (Bu (cs:=#[zI ipT,vtc,vtg,vtx]) Z Aa fun w1 b6 ca b7=>?_)
 have b8:=b6.size
 have b9:=bt.trans b6
 replace b7:BX w1.heap w.heap.size [zI ipT,vtc,vtg,vtx]:=b7
 refine Ac 1 Z<|bZ [3,0,0] Z (CQ (Bh rI 2) o1 BH B8 Aa fun v2 w2 b2 cb bv=>?_)
 have ba:=b2.size
 have bb:=b9.trans b2
 have ai:=b7.ext b2
 refine Ac 2 Z<|A0<|bZ [0,0,0] Z<|Ad 1 Z<|AQ (v:=vl) BH Z hL.slL Aa ?_
 have cc:((0:Nat):Int)<(L.length:Int):=oM
 refine BU true Z Z (A5 cc) Aa<|Aj<|Ag Z<|Ab _ [0,0,2,0,0] Z<|Ad 1 Z<|AB (v:=vl) 0 BH B8 Z Z hL.slL Z sD Aa ?_
 obtain⟨bw,cd,bx⟩:=RN.getL (w:=w) g1 [] (k:=0) hL sD
 have ao:=bx.lenL
 unfold maxLen at ao
 refine Ai (p:=Ay vl 0 1) (.inr Z) bw Bj Z (cd _<|Au.of_ext [] bb) Aa<|AQ (v:=bw) Bt Z bx.slL Aa<|Ac 1 Z<|A0<|bZ [0,2,0] Z<|Ak (p:=zP w.heap.size) 0 N0 Z Z Aa<|Ai (p:=Ap (zP w.heap.size) 0) (.inr Z) (zI ipT) AD Z (ai.ldp (i:=0) sM) Aa<|Ac 1 Z<|A3 ?_
 refine B1 (S:=Nat×Value) (fun⟨k,vo⟩=>([(5,vo),(19,zI (k:Int)),(1,vl),(2,zP w.heap.size),(6,zI (((L.getD 0 []).length:Nat):Int)),(18,zI ipT)])) (fun⟨k,vo⟩ W=>AF w W∧Fr (Bh (Bh rI 2) 27) w1.heap.size W.heap.size W.heap vo (List.replicate k<|List.replicate m 0)∧BX W.heap w.heap.size [zI ipT,vtc,vtg,vtx]∧k≤ni∧w.heap.size<w1.heap.size∧w1.heap.size≤W.heap.size) (fun⟨k,vo⟩=>ni-k) (0,v2) ⟨rfl,rfl,rfl,rfl,rfl,rfl,trivial⟩ ⟨bb,bv.up o2,ai,oM,oM,oM⟩ ?_
 clear bt bu ca b6 bv cb b2 ba bb ao
 rintro⟨k,vo⟩ ρ6 w6 ⟨b3,a4,a2,bz,ce,cf⟩
 have bc:w.heap.size≤w6.heap.size:=b3.size
 have cx:=a2.lt
 refine bZ [0] Z ?_
 by_cases c0:(k:Int)<ipT
 ·refine AG true Z Z (A5 c0) Aa<|Aj<|A0<|Ag Z<|A2<|A0<|A3<|Ab _ [0,0,3,3,4,0] Z<|Ad 2 Z (GA (n:=(L.getD 0 []).length) Bt BT Z Z Z sD Aa fun d5 da ab cg bd=>?_)
  have c1:=ab.size
  have be:=b3.trans ab
  have a5:=a4.ext (o2) ab
  have a6:=a2.ext ab
  refine BI (u:=d5) (B:=w6.heap.size) o1 BH B8 Z Z bd (by first|exact A7 _|omega) Aa fun d6 d7 ac ch bf=>?_
  have c2:=ac.size
  have ap:=be.trans ac
  have a7:=a5.ext (o2) ac
  have a8:=a6.ext ac
  refine Il o1 (v:=vo) (a:=d6) BH B8 Z Z Z a7 oM bf oM oM sD (by unfold maxLen;first|omega|assumption|(simp;done)|(simp;omega)) Aa fun d8 d1 db ak aq bg=>?_
  have bh:AF w d1:=ak.below ap (fun c hc=>A8 b9.size (aq c hc).1) ap.size
  have c3:d7.heap.size≤d1.heap.size:=ak.size
  have bi:=a8.chg ak fun hm=>zH<|aq _ hm
  exact Ac 1 Z<|Ab _ [0,0] Z<|AP ((k+1:Nat):Int) Z Z (Bl oM oM) Aa<|Ac 1 Z ⟨(k+1,d8),_,rfl,zR,⟨bh,(by have h:=bg.up o2;rw[c9,← List.replicate_succ']at h;exact h),bi,oM,oM,oM⟩,zD⟩
 refine AG false Z Z (A6 c0) Aa<|Aj<|A0<|Ah Z<|A4<|Ax<|Ax<|At<|A0<|bZ [0,2,0,0] Z ?_
 have hOw:=a4
 rw[show k=ni from by omega]at hOw
 obtain⟨ci,F0,bj,cj⟩:=Hi.ofFr (S:=S) hOw (fun b hb=>zH<|b5 b hb)
 obtain⟨BO,hBO⟩:∃b:Nat,b=w1.heap.size:=⟨_,rfl⟩
 rw[← hBO]at bj
 have hwB:w.heap.size≤BO:=by omega
 have hSB:∀b∈S,b<BO:=fun b hb=>zH<|b5 b hb
 obtain⟨B0,b4⟩:∃l:List Sr,l=(List.replicate ni (List.replicate m 0)):=⟨_,rfl⟩
 rw[← b4]at bj
 have ck:BV m B0:=by rw[b4];exact Ji m ni
 have bk:B0.length=ni:=by rw[b4,z5]
 refine Ak (p:=zP w.heap.size) 1 Fk Z Z Aa<|Ai (p:=Ap (zP w.heap.size) 1) (.inr Z) vtc K9 Z (a2.ldp (i:=1) sM) Aa<|AQ (v:=vtc) OU Z htcT.isSl Aa<|Ac 1 Z<|A3<|B1 (S:=Nat×List Value) (fun⟨j,us⟩=>([(30,zI (j:Int)),(1,vl),(5,vo),(28,vtc),(29,zI (T.code.length:Int))])) (fun⟨j,us⟩ W=>AF w W∧j≤T.code.length∧Hi 27 S BO W.heap vo (QN T.code L j B0) us F0) (fun⟨j,us⟩=>T.code.length-j) (0,ci) ⟨rfl,rfl,rfl,rfl,rfl,trivial⟩ ⟨b3,oM,bj⟩ ?_
 clear b8 b9 a2 a4 b3 bc cj
 rintro⟨j,us⟩ ρ14 cy ⟨ad,bl,hbl⟩
 have c4:w.heap.size≤cy.heap.size:=ad.size
 have hFl:∀b∈F0,b<cy.heap.size:=hbl.lt
 refine bZ [0] Z ?_
 by_cases ar:(j:Int)<(T.code.length:Int)
 ·refine AG true Z Z (A5 ar) Aa<|Aj<|A0<|Ag Z<|A2<|A0<|A3<|bZ [0,0,2,3,0,4] Z ?_
  have hjk:j<T.code.length:=by omega
  refine Ad 1 Z<|AB (v:=vtc) j OU Jn Z Z htcT.isSl Z sD Aa ?_
  obtain⟨cs16,bm,bn⟩:=htcT.get Bb AE.zero (k:=j) sD
  obtain⟨rfl,cl⟩:=MU bm
  refine AK (p:=Ay vtc j 4) (.inr Z) [zI<|(T.code.getD j AE.zero).op,zI<|(T.code.getD j AE.zero).a,zI<|(T.code.getD j AE.zero).b,zI<|(T.code.getD j AE.zero).num] Fl Z (fun d9 cm=>bn d9<|Au.of_ext []<|ad.trans cm) Z Aa (Bo (z:=.agg #[zI 0,zI 0,zI 0,zI 0]) Ta Aa fun d2 a9 cn al=>?_)
  have c5:=a9.size
  have au:=ad.trans a9
  have co:=hbl.ext a9
  replace al:BX d2.heap cy.heap.size [zI 0,zI 0,zI 0,zI 0]:=al
  refine Ad 1 Z (Bz (vs:=[zI<|(T.code.getD j AE.zero).op,zI<|(T.code.getD j AE.zero).a,zI<|(T.code.getD j AE.zero).b,zI<|(T.code.getD j AE.zero).num]) Fl Z Z (by intro u hu;simp only[ze,z2,or_false]at hu;rcases hu with rfl|rfl|rfl|rfl <;> first|exact⟨rfl,rfl⟩) al Z Z Aa fun d0 am cp a3=>?_)
  replace a3:BX d0.heap cy.heap.size [zI ((T.code.getD j AE.zero).op),zI ((T.code.getD j AE.zero).a),zI ((T.code.getD j AE.zero).b),zI ((T.code.getD j AE.zero).num)]:=a3
  have ae:AF w d0:=am.below au (fun _ h=>zE h) au.size
  have c6:d2.heap.size≤d0.heap.size:=am.size
  have af:=hbl.ext<|am.below a9 (fun _ h=>zE h) a9.size
  refine Aj<|bZ [0,2,0] Z<|Ak (p:=zP cy.heap.size) 0 Ln Z Z Aa<|Ai (p:=Ap (zP cy.heap.size) 0) (.inr Z) (zI<|(T.code.getD j AE.zero).op) AD Z (a3.ldp (i:=0) sM) Aa ?_
  by_cases av:(T.code.getD j AE.zero).op=((1:Nat):Int)
  ·refine Am true Z Z (A5 av) Aa<|Aj<|Ag Z<|AO _ [0,0,1,0,0,1,0,1,0,0,0,1,3,0,4] mixed (by kernel_rfl) ?_
   have hio:=(hform j hjk).i1 oM
   have hra:=KC (cs:=T.code) (L:=L) (B:=B0) (fun q hq=>by rw[bk];exact hform q hq) ck j oM (T.code.getD j AE.zero).num.toNat (by rw[HX,bk];omega)
   have cq:=hra.1
   have hLj:=hsL j oM
   have cr:=hLj.1
   have hbn:(QN T.code L j B0).length=ni:=by rw[HX,bk]
   refine Ad 1 Z<|Ak (p:=zP cy.heap.size) 3 Fm Z Z Aa<|Ai (p:=Ap (zP cy.heap.size) 3) (.inl Z) (zI<|(T.code.getD j AE.zero).num) AD Z (a3.ldp (i:=3) sM) Aa<|Ad 1 Z<|Ak (p:=zP cy.heap.size) 3 Fm Z Z Aa<|Ai (p:=Ap (zP cy.heap.size) 3) (.inl Z) (zI<|(T.code.getD j AE.zero).num) AD Z (a3.ldp (i:=3) sM) Aa ?_
   refine AB (v:=vo) (((T.code.getD j AE.zero).num).toNat) BH B8 Z Z (af.done hSB).none.slL oM sD Aa ?_
   obtain⟨aw,bo,an⟩:=af.getF (k:=((T.code.getD j AE.zero).num).toNat) sD
   have ax:=an.lenL
   unfold maxLen at ax
   refine Ai (p:=Ay vo (((T.code.getD j AE.zero).num).toNat) 1) (.inl Z) aw Bj Z bo Aa<|Ad 2 Z<|AB (v:=vl) j BH B8 Z Z hL.slL Z sD Aa ?_
   obtain⟨ay,bp,az⟩:=RN.getL (w:=w) g1 [] (k:=j) hL sD
   have b0:=az.lenL
   unfold maxLen at b0
   refine Ai (p:=Ay vl j 1) (.inl Z) ay Bj Z (bp _<|Au.of_ext [] ae.drew) Aa<|As 185 [] [] [aw,ay] Z Z Oc Aa (E0 _ _ _ _ _ an.rd (az.ext g1 ae.drew).rd oM oM hra.2 hLj.2) ?_
   rintro dc d3 ⟨aj,rfl,a1,a0⟩
   refine⟨_,rfl,a1,?_⟩
   replace a1:=a1.of_drew
   have c7:=a1.size
   have b1:=ae.trans a1
   have ag:=a3.ext a1
   have ah:=af.ext a1
   have bq:=an.ext g1 a1
   replace a0:=a0.low (B':=d0.heap.size)<|A7 _
   refine AB (v:=vo) (((T.code.getD j AE.zero).num).toNat) BH B8 Z Z (ah.done hSB).none.slL oM sD Aa ?_
   refine SG (v:=vo) (u:=aj) (w:=d3) QR Z Z ah (RN.of_fr1 a0 fun b hb=>by rcases zi.1 hb with hb|hb;(have:=b5 b hb;omega);(have:=hFl b hb;omega)) sD Aa fun d4 aa ct br=>?_
   have c8:d3.heap.size≤d4.heap.size:=aa.size
   have bs:AF w d4:=aa.below b1 (fun c hc=>A8 hwB (ah.low c hc)) b1.size
   have cu:=ag.chg aa fun hm=>by have:=ah.low _ hm;have:=hFl _ hm;omega
   have cv:=bq.chg g1<|aa.sub fun b hb=>z1 _ hb
   have cw:=a0.chg (o1) aa fun c hc=>zH<|hFl c hc
   refine Aj<|Ab _ [0,0] Z<|AP ((j+1:Nat):Int) Z Z (Bl oM sD) Aa<|Ac 1 Z ?_
   have hbe:=br
   exact⟨(j+1,us.set (((T.code.getD j AE.zero).num).toNat) aj),_,rfl,zR,⟨bs,oM,(by first|(rw[Ld oM];exact hbe)|(rw[Le oM];exact hbe))⟩,zD⟩
  refine Am false Z Z (A6 av) Aa<|Aj<|Ah Z<|A2<|Ab _ [0,0] Z<|AP ((j+1:Nat):Int) Z Z (Bl oM sD) Aa<|Ac 1 Z ?_
  have hbe:=af
  exact⟨(j+1,us),_,rfl,zR,⟨ae,oM,(by first|(rw[Ld oM];exact hbe)|(rw[Le oM];exact hbe))⟩,zD⟩
 exact AG false Z Z (A6 ar) Aa<|Aj<|A0<|Ah Z<|A4<|Ax<|Ax<|At<|bZ [0,0] Z<|Ac 2 Z<|A1<|Af [4] Z vo Z ⟨_,rfl,ad,(by have h9:=(hbl.done hSB);rw[show j=T.code.length from by omega,b4]at h9;exact h9),hbl.cap⟩
theorem IQ (w:World)(r:Int)(vm:Nat)(m:Int)(_hr:Bx r)(hcm:Hf w.heap (zP vm)=some (zI m))(_hm:Bx m)(hm:0≤m∧m≤1000000) :
  Calls Tryz.prog 193 #[zI r,zP vm] w (fun e w'=>e=.returned (.bool (!(decide (0≤r) && decide (r≤m-1))))∧AF w w'):=by
 refine Aq [zI r,zP vm] 9 Tryz.func193 Z Z sM ?_
 have a0:AF w w:=AF.refl w
 refine cA Z<|bZ [0,2,0,0,0,0] Z<|Ad 1 Z<|Ai (.inr Z) (zI m) AD Z (AZ a0 hcm) Aa ?_
 refine Bs (m-((1:Nat):Int)) Z Z (Da sD sD) Aa ?_
 exact Az 117 [] [] [zI r,zI ((0:Nat):Int),zI (m-((1:Nat):Int))] Z Z CR Aa (.bool (decide (((0:Nat):Int)≤r) && decide (r≤(m-((1:Nat):Int))))) (fun wq=>AW wq _ _ _ _hr oM oM)<|Bn (!(decide (((0:Nat):Int)≤r) && decide (r≤(m-((1:Nat):Int))))) Z Z Aa<|Ac 1 Z<|A1<|Af [3] Z (.bool (!(decide (((0:Nat):Int)≤r) && decide (r≤(m-((1:Nat):Int)))))) Z ⟨AI (by first|rfl|simp_all),a0⟩
theorem HJ {p:Prop}(h:p:=by first|rfl|exact AI (A5 oM)|(exfalso;(try unfold Ey at hf);omega)):p:=h
theorem Ee {p:Prop}(h:p:=by rw[A5 oM,A5 oM];rfl):p:=h
theorem I6 (w:World)(ni:Nat)(ipT:Int)(vtc vtg vtx:Value)(T:Tp)(oT:Sr)(c:AE)(k:Int)(_hipT:Bx ipT)(htcT:RN [] (DM 4 On) w.heap vtc T.code)(htgT:RN [] (DM 2 Oo) w.heap vtg T.grd)(htoT:RN [] (B3 rI) w.heap vtx oT)(hc:RW c)(_hk:Bx k)(hip:ipT=(ni:Int)∧ni≤12)(hk:0≤k∧k≤4000)(hf:Ey ni k.toNat c) :
  Calls Tryz.prog 192 #[(.agg #[(zI ipT),vtc,vtg,vtx]),(.agg #[(zI c.op),(zI c.a),(zI c.b),(zI c.num)]),zI k] w (fun e w'=>e=.returned (.bool true)∧AF w w'):=by
 refine Aq [.agg #[zI ipT,vtc,vtg,vtx],.agg #[zI c.op,zI c.a,zI c.b,zI c.num],zI k] 81 Tryz.func192 Z Z sM ?_
 have af:AF w w:=AF.refl w
 have hl_vtx:=htoT.lenL
 unfold maxLen at hl_vtx
 refine bZ [3,3,0] Z (Bu (cs:=#[zI ipT,vtc,vtg,vtx]) Z Aa fun w1 ac am a8=>?_)
 have ag:=ac.size
 have ah:=af.trans ac
 replace a8:BX w1.heap w.heap.size [zI ipT,vtc,vtg,vtx]:=a8
 have an:=a8.lt
 refine Bu (cs:=#[zI c.op,zI c.a,zI c.b,zI c.num]) Z Aa fun w2 a9 ao a0=>?_
 have ai:=a9.size
 have a1:=ah.trans a9
 have a2:=a8.ext a9
 replace a0:BX w2.heap w1.heap.size [zI c.op,zI c.a,zI c.b,zI c.num]:=a0
 refine Ac 1 Z<|A0<|bZ [0,2] Z<|Ak (p:=zP w1.heap.size) 0 Ln Z Z Aa<|Ai (p:=Ap (zP w1.heap.size) 0) (.inr Z) (zI c.op) AD Z (a0.ldp (i:=0) sM) Aa<|Aj<|A3<|bZ [0,0] Z ?_
 by_cases ad:c.op=((1:Nat):Int)
 ·refine Am true Z Z (A5 ad) Aa<|Ac 1 Z<|Ag Z<|bZ [0,2,0,0,0,2,0,0,0,0,2,0,2,0,0,0,0] Z ?_
  unfold Ey at hf
  refine Ak (p:=zP w1.heap.size) 1 CK Z Z Aa<|Ai (p:=Ap (zP w1.heap.size) 1) (.inr Z) (zI c.a) AD Z (a0.ldp (i:=1) sM) Aa ?_
  have aj:c.a=((0:Nat):Int):=oM
  refine Am true Z Z (A5 aj) Aa<|Ad 1 Z<|Ak (p:=zP w1.heap.size) 2 CB Z Z (Ae (e:=14) Z Z Z)<|Ai (p:=Ap (zP w1.heap.size) 2) (.inr Z) (zI c.b) AD Z (a0.ldp (i:=2) sM) (Ae (e:=14) Z Z Z) ?_
  have ak:c.b=((0:Nat):Int):=oM
  refine Am true Z Z (A5 ak) (Ae (e:=14) Z Z Z)<|Ad 2 Z<|Ak (p:=zP w1.heap.size) 3 Fm Z Z (Ae (e:=19) Z Z Z)<|Ai (p:=Ap (zP w1.heap.size) 3) (.inr Z) (zI c.num) AD Z (a0.ldp (i:=3) sM) (Ae (e:=19) Z Z Z)<|Ak (p:=zP w.heap.size) 0 N0 Z Z (Ae (e:=19) Z Z Z)<|Ai (p:=Ap (zP w.heap.size) 0) (.inr Z) (zI ipT) AD Z (a2.ldp (i:=0) sM) (Ae (e:=19) Z Z Z) ?_
  refine Bs (ipT-((1:Nat):Int)) Z Z (Da sD sD) (Ae (e:=19) Z Z Z) ?_
  refine Az 117 [] [] [zI c.num,zI ((0:Nat):Int),zI (ipT-((1:Nat):Int))] Z Z CR (Ae (e:=19) Z Z Z) (.bool (decide (((0:Nat):Int)≤c.num) && decide (c.num≤(ipT-((1:Nat):Int))))) (fun wq=>AW wq _ _ _ hc.2.2.2 oM oM) ?_
  rw[show(decide (((0:Nat):Int)≤c.num) && decide (c.num≤(ipT-((1:Nat):Int))))=true from Ee]
  exact Ac 2 Z<|A1<|AC<|Al<|Af [6] Z (.bool true) Z ⟨HJ,a1⟩
 refine Am false Z Z (A6 ad) Aa<|Ac 1 Z<|Ah Z<|bZ [0,0] Z ?_
 by_cases ae:c.op=((2:Nat):Int)
 ·refine Am true Z Z (A5 ae) Aa<|Ac 1 Z<|Ag Z<|bZ [0,2,0,0,0,2,0,0,0,0,2,0,0,0] Z ?_
  unfold Ey at hf
  refine Ak (p:=zP w1.heap.size) 1 CK Z Z Aa<|Ai (p:=Ap (zP w1.heap.size) 1) (.inr Z) (zI c.a) AD Z (a0.ldp (i:=1) sM) Aa ?_
  have al:c.a=((0:Nat):Int):=oM
  refine Am true Z Z (A5 al) Aa<|Ad 1 Z<|Ak (p:=zP w1.heap.size) 2 CB Z Z (Ae (e:=32) Z Z Z)<|Ai (p:=Ap (zP w1.heap.size) 2) (.inr Z) (zI c.b) AD Z (a0.ldp (i:=2) sM) (Ae (e:=32) Z Z Z) ?_
  have aa:c.b=((0:Nat):Int):=oM
  refine Am true Z Z (A5 aa) (Ae (e:=32) Z Z Z)<|Ad 2 Z<|Ak (p:=zP w1.heap.size) 3 Fm Z Z (Ae (e:=37) Z Z Z)<|Ai (p:=Ap (zP w1.heap.size) 3) (.inr Z) (zI c.num) AD Z (a0.ldp (i:=3) sM) (Ae (e:=37) Z Z Z)<|Az 170 [] [] [zI c.num] Z Z SY (Ae (e:=37) Z Z Z) (.bool<|Ia c.num) (fun wq=>EG wq _ hc.2.2.2) ?_
  rw[show(Ia c.num)=true from Cm.2 ⟨zO,zO⟩]
  exact Ac 2 Z<|A1<|AC<|Al<|Af [6] Z (.bool true) Z ⟨HJ,a1⟩
 refine Am false Z Z (A6 ae) Aa<|Ac 1 Z<|Ah Z<|A0<|bZ [0,0] Z ?_
 by_cases a3:c.op=((3:Nat):Int)
 ·refine Am true Z Z (A5 a3) Aa<|Ac 1 Z<|Ag Z<|A2<|Ag Z<|bZ [0,2,0,0,0,0,0,2,0,0,0,0,0,0,2,0,0,0] Z ?_
  unfold Ey at hf
  refine Ak (p:=zP w1.heap.size) 1 CK Z Z Aa<|Ai (p:=Ap (zP w1.heap.size) 1) (.inr Z) (zI c.a) AD Z (a0.ldp (i:=1) sM) Aa<|Ad 1 Z ?_
  refine Bs (k-((1:Nat):Int)) Z Z (Da sD sD) Aa ?_
  refine Az 117 [] [] [zI c.a,zI ((0:Nat):Int),zI (k-((1:Nat):Int))] Z Z CR Aa (.bool (decide (((0:Nat):Int)≤c.a) && decide (c.a≤(k-((1:Nat):Int))))) (fun wq=>AW wq _ _ _ hc.2.1 oM oM) ?_
  rw[show(decide (((0:Nat):Int)≤c.a) && decide (c.a≤(k-((1:Nat):Int))))=true from Ee]
  refine Ad 1 Z<|Ak (p:=zP w1.heap.size) 2 CB Z Z (Ae (e:=52) Z Z Z)<|Ai (p:=Ap (zP w1.heap.size) 2) (.inr Z) (zI c.b) AD Z (a0.ldp (i:=2) sM) (Ae (e:=52) Z Z Z)<|Ad 1 Z ?_
  refine Bs (k-((1:Nat):Int)) Z Z (Da sD sD) (Ae (e:=52) Z Z Z) ?_
  refine Az 117 [] [] [zI c.b,zI ((0:Nat):Int),zI (k-((1:Nat):Int))] Z Z CR (Ae (e:=52) Z Z Z) (.bool (decide (((0:Nat):Int)≤c.b) && decide (c.b≤(k-((1:Nat):Int))))) (fun wq=>AW wq _ _ _ hc.2.2.1 oM oM) ?_
  rw[show(decide (((0:Nat):Int)≤c.b) && decide (c.b≤(k-((1:Nat):Int))))=true from Ee]
  exact Ad 2 Z<|Ak (p:=zP w1.heap.size) 3 Fm Z Z (Ae (e:=59) Z Z Z)<|Ai (p:=Ap (zP w1.heap.size) 3) (.inr Z) (zI c.num) AD Z (a0.ldp (i:=3) sM) (Ae (e:=59) Z Z Z)<|Am (decide (c.num=((0:Nat):Int))) Z Z Z (Ae (e:=59) Z Z Z)<|Ac 2 Z<|A1<|AC<|Al<|Af [6] Z (.bool<|decide (c.num=((0:Nat):Int))) Z ⟨HJ,a1⟩
 refine Am false Z Z (A6 a3) Aa<|Ac 1 Z<|Ah Z<|bZ [0,0] Z ?_
 by_cases a4:c.op=((4:Nat):Int)
 ·refine Am true Z Z (A5 a4) Aa<|Ac 1 Z<|Ag Z<|A2<|Ag Z<|bZ [0,2,0,0,0,0,0,2,0,0,0,0,0,0,2,0,0,0] Z ?_
  unfold Ey at hf
  refine Ak (p:=zP w1.heap.size) 1 CK Z Z Aa<|Ai (p:=Ap (zP w1.heap.size) 1) (.inr Z) (zI c.a) AD Z (a0.ldp (i:=1) sM) Aa<|Ad 1 Z ?_
  refine Bs (k-((1:Nat):Int)) Z Z (Da sD sD) Aa ?_
  refine Az 117 [] [] [zI c.a,zI ((0:Nat):Int),zI (k-((1:Nat):Int))] Z Z CR Aa (.bool (decide (((0:Nat):Int)≤c.a) && decide (c.a≤(k-((1:Nat):Int))))) (fun wq=>AW wq _ _ _ hc.2.1 oM oM) ?_
  rw[show(decide (((0:Nat):Int)≤c.a) && decide (c.a≤(k-((1:Nat):Int))))=true from Ee]
  refine Ad 1 Z<|Ak (p:=zP w1.heap.size) 2 CB Z Z (Ae (e:=52) Z Z Z)<|Ai (p:=Ap (zP w1.heap.size) 2) (.inr Z) (zI c.b) AD Z (a0.ldp (i:=2) sM) (Ae (e:=52) Z Z Z)<|Ad 1 Z ?_
  refine Bs (k-((1:Nat):Int)) Z Z (Da sD sD) (Ae (e:=52) Z Z Z) ?_
  refine Az 117 [] [] [zI c.b,zI ((0:Nat):Int),zI (k-((1:Nat):Int))] Z Z CR (Ae (e:=52) Z Z Z) (.bool (decide (((0:Nat):Int)≤c.b) && decide (c.b≤(k-((1:Nat):Int))))) (fun wq=>AW wq _ _ _ hc.2.2.1 oM oM) ?_
  rw[show(decide (((0:Nat):Int)≤c.b) && decide (c.b≤(k-((1:Nat):Int))))=true from Ee]
  exact Ad 2 Z<|Ak (p:=zP w1.heap.size) 3 Fm Z Z (Ae (e:=59) Z Z Z)<|Ai (p:=Ap (zP w1.heap.size) 3) (.inr Z) (zI c.num) AD Z (a0.ldp (i:=3) sM) (Ae (e:=59) Z Z Z)<|Am (decide (c.num=((0:Nat):Int))) Z Z Z (Ae (e:=59) Z Z Z)<|Ac 2 Z<|A1<|AC<|Al<|Af [6] Z (.bool<|decide (c.num=((0:Nat):Int))) Z ⟨HJ,a1⟩
 refine Am false Z Z (A6 a4) Aa<|Ac 1 Z<|Ah Z<|bZ [0,0] Z ?_
 by_cases a5:c.op=((5:Nat):Int)
 ·refine Am true Z Z (A5 a5) Aa<|Ac 1 Z<|Ag Z<|A2<|Ag Z<|bZ [0,2,0,0,0,0,0,2,0,0,0,0,0,0,2,0,0,0] Z ?_
  unfold Ey at hf
  refine Ak (p:=zP w1.heap.size) 1 CK Z Z Aa<|Ai (p:=Ap (zP w1.heap.size) 1) (.inr Z) (zI c.a) AD Z (a0.ldp (i:=1) sM) Aa<|Ad 1 Z ?_
  refine Bs (k-((1:Nat):Int)) Z Z (Da sD sD) Aa ?_
  refine Az 117 [] [] [zI c.a,zI ((0:Nat):Int),zI (k-((1:Nat):Int))] Z Z CR Aa (.bool (decide (((0:Nat):Int)≤c.a) && decide (c.a≤(k-((1:Nat):Int))))) (fun wq=>AW wq _ _ _ hc.2.1 oM oM) ?_
  rw[show(decide (((0:Nat):Int)≤c.a) && decide (c.a≤(k-((1:Nat):Int))))=true from Ee]
  refine Ad 1 Z<|Ak (p:=zP w1.heap.size) 2 CB Z Z (Ae (e:=52) Z Z Z)<|Ai (p:=Ap (zP w1.heap.size) 2) (.inr Z) (zI c.b) AD Z (a0.ldp (i:=2) sM) (Ae (e:=52) Z Z Z)<|Ad 1 Z ?_
  refine Bs (k-((1:Nat):Int)) Z Z (Da sD sD) (Ae (e:=52) Z Z Z) ?_
  refine Az 117 [] [] [zI c.b,zI ((0:Nat):Int),zI (k-((1:Nat):Int))] Z Z CR (Ae (e:=52) Z Z Z) (.bool (decide (((0:Nat):Int)≤c.b) && decide (c.b≤(k-((1:Nat):Int))))) (fun wq=>AW wq _ _ _ hc.2.2.1 oM oM) ?_
  rw[show(decide (((0:Nat):Int)≤c.b) && decide (c.b≤(k-((1:Nat):Int))))=true from Ee]
  exact Ad 2 Z<|Ak (p:=zP w1.heap.size) 3 Fm Z Z (Ae (e:=59) Z Z Z)<|Ai (p:=Ap (zP w1.heap.size) 3) (.inr Z) (zI c.num) AD Z (a0.ldp (i:=3) sM) (Ae (e:=59) Z Z Z)<|Am (decide (c.num=((0:Nat):Int))) Z Z Z (Ae (e:=59) Z Z Z)<|Ac 2 Z<|A1<|AC<|Al<|Af [6] Z (.bool<|decide (c.num=((0:Nat):Int))) Z ⟨HJ,a1⟩
 refine Am false Z Z (A6 a5) Aa<|Ac 1 Z<|Ah Z<|Ab _ [0,0] Z ?_
 by_cases a6:c.op=((6:Nat):Int)
 ·refine Am true Z Z (A5 a6) Aa<|Ac 1 Z<|Ag Z<|bZ [0,2,0,0,0,0,0,2,0,0,0,0,0,0,2,0,0,0] Z ?_
  unfold Ey at hf
  refine Ak (p:=zP w1.heap.size) 1 CK Z Z Aa<|Ai (p:=Ap (zP w1.heap.size) 1) (.inr Z) (zI c.a) AD Z (a0.ldp (i:=1) sM) Aa<|Ad 1 Z ?_
  refine Bs (k-((1:Nat):Int)) Z Z (Da sD sD) Aa ?_
  refine Az 117 [] [] [zI c.a,zI ((0:Nat):Int),zI (k-((1:Nat):Int))] Z Z CR Aa (.bool (decide (((0:Nat):Int)≤c.a) && decide (c.a≤(k-((1:Nat):Int))))) (fun wq=>AW wq _ _ _ hc.2.1 oM oM) ?_
  rw[show(decide (((0:Nat):Int)≤c.a) && decide (c.a≤(k-((1:Nat):Int))))=true from Ee]
  refine Ad 1 Z<|Ak (p:=zP w1.heap.size) 2 CB Z Z (Ae (e:=52) Z Z Z)<|Ai (p:=Ap (zP w1.heap.size) 2) (.inr Z) (zI c.b) AD Z (a0.ldp (i:=2) sM) (Ae (e:=52) Z Z Z)<|Ad 1 Z ?_
  refine Bs (k-((1:Nat):Int)) Z Z (Da sD sD) (Ae (e:=52) Z Z Z) ?_
  refine Az 117 [] [] [zI c.b,zI ((0:Nat):Int),zI (k-((1:Nat):Int))] Z Z CR (Ae (e:=52) Z Z Z) (.bool (decide (((0:Nat):Int)≤c.b) && decide (c.b≤(k-((1:Nat):Int))))) (fun wq=>AW wq _ _ _ hc.2.2.1 oM oM) ?_
  rw[show(decide (((0:Nat):Int)≤c.b) && decide (c.b≤(k-((1:Nat):Int))))=true from Ee]
  exact Ad 2 Z<|Ak (p:=zP w1.heap.size) 3 Fm Z Z (Ae (e:=59) Z Z Z)<|Ai (p:=Ap (zP w1.heap.size) 3) (.inr Z) (zI c.num) AD Z (a0.ldp (i:=3) sM) (Ae (e:=59) Z Z Z)<|Am (decide (c.num=((0:Nat):Int))) Z Z Z (Ae (e:=59) Z Z Z)<|Ac 2 Z<|A1<|AC<|Al<|Af [6] Z (.bool<|decide (c.num=((0:Nat):Int))) Z ⟨HJ,a1⟩
 refine Am false Z Z (A6 a6) Aa<|Ac 1 Z<|Ah Z<|bZ [0,0] Z ?_
 by_cases a7:c.op=((7:Nat):Int)
 ·refine Am true Z Z (A5 a7) Aa<|Ac 1 Z<|Ag Z<|bZ [0,2,0,0,0,0,0,2,0,0,0,0,2,0,0,0] Z ?_
  unfold Ey at hf
  refine Ak (p:=zP w1.heap.size) 1 CK Z Z Aa<|Ai (p:=Ap (zP w1.heap.size) 1) (.inr Z) (zI c.a) AD Z (a0.ldp (i:=1) sM) Aa<|Ad 1 Z ?_
  refine Bs (k-((1:Nat):Int)) Z Z (Da sD sD) Aa ?_
  refine Az 117 [] [] [zI c.a,zI ((0:Nat):Int),zI (k-((1:Nat):Int))] Z Z CR Aa (.bool (decide (((0:Nat):Int)≤c.a) && decide (c.a≤(k-((1:Nat):Int))))) (fun wq=>AW wq _ _ _ hc.2.1 oM oM) ?_
  rw[show(decide (((0:Nat):Int)≤c.a) && decide (c.a≤(k-((1:Nat):Int))))=true from Ee]
  refine Ad 1 Z<|Ak (p:=zP w1.heap.size) 2 CB Z Z (Ae (e:=71) Z Z Z)<|Ai (p:=Ap (zP w1.heap.size) 2) (.inr Z) (zI c.b) AD Z (a0.ldp (i:=2) sM) (Ae (e:=71) Z Z Z) ?_
  have ab:c.b=((0:Nat):Int):=oM
  exact Am true Z Z (A5 ab) (Ae (e:=71) Z Z Z)<|Ad 2 Z<|Ak (p:=zP w1.heap.size) 3 Fm Z Z (Ae (e:=76) Z Z Z)<|Ai (p:=Ap (zP w1.heap.size) 3) (.inr Z) (zI c.num) AD Z (a0.ldp (i:=3) sM) (Ae (e:=76) Z Z Z)<|Am (decide (c.num=((0:Nat):Int))) Z Z Z (Ae (e:=76) Z Z Z)<|Ac 2 Z<|A1<|AC<|Al<|Af [6] Z (.bool<|decide (c.num=((0:Nat):Int))) Z ⟨HJ,a1⟩
 exact Am false Z Z (A6 a7) Aa<|Ac 1 Z<|Ah Z<|A2<|cA Z<|A1<|Af [6] Z (.bool false) Z ⟨HJ,a1⟩
theorem JZ (w:World)(a:Sr)(ipT:Int)(vtc vtg vtx:Value)(T:Tp)(oT:Sr)(_hipT:Bx ipT)(htcT:RN [] (DM 4 On) w.heap vtc T.code)(htgT:RN [] (DM 2 Oo) w.heap vtg T.grd)(htoT:RN [] (B3 rI) w.heap vtx oT)(hip:ipT=(a.length:Int))(hR:R0 a T oT) :
  Calls Tryz.prog 116 #[(.agg #[(zI ipT),vtc,vtg,vtx])] w (fun e w'=>e=.returned (.bool true)∧AF w w'):=by
 refine Aq [.agg #[zI ipT,vtc,vtg,vtx]] 67 Tryz.func116 Z Z sM ?_
 have bm:AF w w:=AF.refl w
 have hl_vtx:=htoT.lenL
 unfold maxLen at hl_vtx
 have hK:=hR.k
 have hni:=hK.nb
 have hcl:=hK.cl
 have cn:=hK.gl
 have hol:=hK.ol
 have hpos:=hK.pos
 refine bZ [3,0] Z (Bu (cs:=#[zI ipT,vtc,vtg,vtx]) Z Aa fun w1 b2 bw ab=>?_)
 have b3:=b2.size
 have bn:=bm.trans b2
 replace ab:BX w1.heap w.heap.size [zI ipT,vtc,vtg,vtx]:=ab
 refine Ac 1 Z<|A0<|bZ [0,2,0,0,0,0,2,0,0,0,0,0,2,0,0,0,0,0,2,0,0,0,0] Z<|Ak (p:=zP w.heap.size) 0 N0 Z Z Aa<|Ai (p:=Ap (zP w.heap.size) 0) (.inr Z) (zI ipT) AD Z (ab.ldp (i:=0) sM) Aa<|Az 117 [] [] [zI ipT,zI ((0:Nat):Int),zI ((12:Nat):Int)] Z Z CR Aa (.bool (decide (((0:Nat):Int)≤ipT) && decide (ipT≤((12:Nat):Int)))) (fun wq=>AW wq _ _ _ _hipT oM oM) ?_
 rw[show(decide (((0:Nat):Int)≤ipT) && decide (ipT≤((12:Nat):Int)))=true from Ee]
 refine Bn false Z Z Aa<|Ad 1 Z<|Ak (p:=zP w.heap.size) 1 Fk Z Z (Ae (e:=12) Z Z Z)<|Ai (p:=Ap (zP w.heap.size) 1) (.inr Z) vtc K9 Z (ab.ldp (i:=1) sM) (Ae (e:=12) Z Z Z)<|AQ (v:=vtc) OU Z htcT.isSl (Ae (e:=12) Z Z Z) ?_
 have bx:¬(((3200:Nat):Int)<(T.code.length:Int)):=oM
 refine BU false Z Z (A6 bx) (Ae (e:=12) Z Z Z)<|Ad 2 Z<|Ak (p:=zP w.heap.size) 2 N1 Z Z (Ae (e:=18) Z Z Z)<|Ai (p:=Ap (zP w.heap.size) 2) (.inr Z) vtg T7 Z (ab.ldp (i:=2) sM) (Ae (e:=18) Z Z Z)<|AQ (v:=vtg) Zq Z htgT.isSl (Ae (e:=18) Z Z Z) ?_
 have bz:¬(((3200:Nat):Int)<(T.grd.length:Int)):=oM
 refine BU false Z Z (A6 bz) (Ae (e:=18) Z Z Z)<|Ad 2 Z<|Ak (p:=zP w.heap.size) 3 Lm Z Z (Ae (e:=24) Z Z Z)<|Ai (p:=Ap (zP w.heap.size) 3) (.inr Z) vtx Bj Z (ab.ldp (i:=3) sM) (Ae (e:=24) Z Z Z)<|AQ (v:=vtx) Bt Z htoT.slL (Ae (e:=24) Z Z Z)<|Az 117 [] [] [zI (oT.length:Int),zI ((1:Nat):Int),zI ((12:Nat):Int)] Z Z CR (Ae (e:=24) Z Z Z) (.bool (decide (((1:Nat):Int)≤(oT.length:Int)) && decide ((oT.length:Int)≤((12:Nat):Int)))) (fun wq=>AW wq _ _ _ oM oM oM) ?_
 rw[show(decide (((1:Nat):Int)≤(oT.length:Int)) && decide ((oT.length:Int)≤((12:Nat):Int)))=true from Ee]
 refine Bn false Z Z (Ae (e:=24) Z Z Z)<|Ac 1 Z<|Ah Z<|A2<|bZ [0,2,0,3,4] Z<|Ak (p:=zP w.heap.size) 1 Fk Z Z Aa<|Ai (p:=Ap (zP w.heap.size) 1) (.inr Z) vtc K9 Z (ab.ldp (i:=1) sM) Aa<|AQ (v:=vtc) OU Z htcT.isSl Aa ?_
 have ce:=ab.lt
 refine Bo (z:=zI (0:Int)) (by kernel_rfl) Aa fun w6 b0 c0 b4=>?_
 have b5:=b0.size
 have b6:=bn.trans b0
 have aq:=ab.ext b0
 replace b4:BX w6.heap w1.heap.size [zI (0:Int)]:=b4
 refine Be (k:=0) (w:=w6) Hv Z Z ⟨rfl,rfl⟩ b4 sM Aa fun w8 b1 c1 b7=>?_
 replace b7:BX w8.heap w1.heap.size [zI (T.code.length:Int)]:=b7
 have bo:AF w w8:=b1.below b6 (fun _ h=>zE h) b6.size
 have b8:w6.heap.size≤w8.heap.size:=b1.size
 have b9:=aq.chg b1 (zB ·)
 refine Aj<|A0<|bZ [0,2,0,0] Z<|Ak (p:=zP w.heap.size) 1 Fk Z Z Aa<|Ai (p:=Ap (zP w.heap.size) 1) (.inr Z) vtc K9 Z (b9.ldp (i:=1) sM) Aa<|AQ (v:=vtc) OU Z htcT.isSl Aa<|Ac 1 Z<|A3 ?_
 refine B1 (S:=Nat) (fun k=>([(37,zI (k:Int)),(1,zP w.heap.size),(3,zP w1.heap.size),(35,vtc),(36,zI (T.code.length:Int))])) (fun k W=>AF w W∧BX W.heap w.heap.size [zI ipT,vtc,vtg,vtx]∧BX W.heap w1.heap.size [zI (T.code.length:Int)]∧k≤T.code.length) (fun k=>T.code.length-k) 0 ⟨rfl,rfl,rfl,rfl,rfl,trivial⟩ ⟨bo,b9,b7,oM⟩ ?_
 clear bm bw b2 b3 bn c0 b0 b5 b6 c1 b1 bo b8 b9
 rintro k ρ10 ci ⟨a8,a0,a1,ba⟩
 have ar:w.heap.size≤ci.heap.size:=a8.size
 have c2:=a0.lt
 have c3:=a1.lt
 refine bZ [0] Z ?_
 by_cases au:(k:Int)<(T.code.length:Int)
 ·refine AG true Z Z (A5 au) Aa<|Aj<|A0<|Ag Z<|A2<|A0<|A3<|bZ [0,0,2,3,0,4] Z<|Ad 1 Z<|AB (v:=vtc) k OU Jn Z Z htcT.isSl Z sD Aa ?_
  obtain⟨cs14,bb,bc⟩:=htcT.get Bb AE.zero (k:=k) sD
  obtain⟨rfl,ac⟩:=MU bb
  refine AK (p:=Ay vtc k 4) (.inr Z) [zI<|(T.code.getD k AE.zero).op,zI<|(T.code.getD k AE.zero).a,zI<|(T.code.getD k AE.zero).b,zI<|(T.code.getD k AE.zero).num] Fl Z (fun cg ak=>bc cg<|Au.of_ext []<|a8.trans ak) Z Aa ?_
  have c4:=a0.lt
  have c5:=a1.lt
  refine Bo (z:=.agg #[zI 0,zI 0,zI 0,zI 0]) Ta Aa fun ck ad c6 al=>?_
  have bp:=ad.size
  have av:=a8.trans ad
  have a4:=a0.ext ad
  have a5:=a1.ext ad
  replace al:BX ck.heap ci.heap.size [zI 0,zI 0,zI 0,zI 0]:=al
  refine Ad 1 Z (Bz (vs:=[zI<|(T.code.getD k AE.zero).op,zI<|(T.code.getD k AE.zero).a,zI<|(T.code.getD k AE.zero).b,zI<|(T.code.getD k AE.zero).num]) Fl Z Z (by intro u hu;simp only[ze,z2,or_false]at hu;rcases hu with rfl|rfl|rfl|rfl <;> first|exact⟨rfl,rfl⟩) al Z Z Aa fun ch ae c7 am=>?_)
  replace am:BX ch.heap ci.heap.size [zI ((T.code.getD k AE.zero).op),zI ((T.code.getD k AE.zero).a),zI ((T.code.getD k AE.zero).b),zI ((T.code.getD k AE.zero).num)]:=am
  have af:AF w ch:=ae.below av (fun _ h=>zE h) av.size
  have bq:ck.heap.size≤ch.heap.size:=ae.size
  have aw:=a4.chg ae (zB ·)
  have bd:=a5.chg ae (zB ·)
  refine Aj<|bZ [2,2,0,3,0] Z<|AK (p:=zP w.heap.size) (.inr Z) [zI ipT,vtc,vtg,vtx] Fj Z (fun cg ak=>LD.of_box<|BX.ext (w:=ch) aw ak) Z Aa<|AK (p:=zP ci.heap.size) (.inr Z) [zI<|(T.code.getD k AE.zero).op,zI<|(T.code.getD k AE.zero).a,zI<|(T.code.getD k AE.zero).b,zI<|(T.code.getD k AE.zero).num] Fl Z (fun cg ak=>LD.of_box<|BX.ext (w:=ch) am ak) Z Aa<|Ad 1 Z ?_
  refine As 192 [] [] [.agg #[zI ipT,vtc,vtg,vtx],.agg #[zI<|(T.code.getD k AE.zero).op,zI<|(T.code.getD k AE.zero).a,zI<|(T.code.getD k AE.zero).b,zI<|(T.code.getD k AE.zero).num],zI (k:Int)] Z Z YX Aa (I6 _ a.length (ipT) vtc vtg vtx (T) (oT) (⟨(T.code.getD k AE.zero).op,(T.code.getD k AE.zero).a,(T.code.getD k AE.zero).b,(T.code.getD k AE.zero).num⟩:AE) _ _hipT (htcT.ext (An Bb) af) (htgT.ext (An Bm) af) (htoT.ext g1 af) ⟨ac.1,ac.2.1,ac.2.2.1,ac.2.2.2⟩ oM oM oM (by have h9:=hK.form k oM;rw[Int.toNat_natCast];exact h9)) ?_
  rintro co cp ⟨rfl,a9⟩
  refine⟨_,rfl,a9,?_⟩
  have br:=a9.size
  have be:=af.trans a9
  have ag:=aw.ext a9
  have ah:=bd.ext a9
  exact Bn false Z Z Aa<|Aj<|Ah Z<|A2<|Ab _ [0,0] Z<|AP ((k+1:Nat):Int) Z Z (Bl oM sD) Aa<|Ac 1 Z ⟨k+1,_,rfl,zR,⟨be,ag,ah,oM⟩,zD⟩
 refine AG false Z Z (A6 au) Aa<|Aj<|A0<|Ah Z<|A4<|Ax<|Ax<|At<|A0<|bZ [0,2,0,0] Z<|Ak (p:=zP w.heap.size) 2 N1 Z Z Aa<|Ai (p:=Ap (zP w.heap.size) 2) (.inr Z) vtg T7 Z (a0.ldp (i:=2) sM) Aa<|AQ (v:=vtg) Zq Z htgT.isSl Aa<|Ac 1 Z<|A3 ?_
 refine B1 (S:=Nat) (fun j=>([(51,zI (j:Int)),(1,zP w.heap.size),(3,zP w1.heap.size),(49,vtg),(50,zI (T.grd.length:Int))])) (fun j W=>AF w W∧BX W.heap w.heap.size [zI ipT,vtc,vtg,vtx]∧BX W.heap w1.heap.size [zI (T.code.length:Int)]∧j≤T.grd.length) (fun j=>T.grd.length-j) 0 ⟨rfl,rfl,rfl,rfl,rfl,trivial⟩ ⟨a8,a0,a1,oM⟩ ?_
 clear a1 a0 a8 ar
 rintro j ρ22 cf ⟨aa,a2,a3,bf⟩
 have bs:w.heap.size≤cf.heap.size:=aa.size
 have c8:=a2.lt
 have c9:=a3.lt
 refine bZ [0] Z ?_
 by_cases ax:(j:Int)<(T.grd.length:Int)
 ·refine AG true Z Z (A5 ax) Aa<|Aj<|A0<|Ag Z<|A2<|A0<|A3<|bZ [0,2,3,4] Z<|AB (v:=vtg) j Zq OV Z Z htgT.isSl Z sD Aa ?_
  obtain⟨cs26,bg,bh⟩:=htgT.get Bm Iv.zero (k:=j) sD
  obtain⟨rfl,bi⟩:=XH bg
  refine AK (p:=Ay vtg j 2) (.inr Z) [zI<|(T.grd.getD j Iv.zero).reg,.bool<|(T.grd.getD j Iv.zero).z] Tb Z (fun cg ak=>bh cg<|Au.of_ext []<|aa.trans ak) Z Aa ?_
  have ca:=a2.lt
  have cb:=a3.lt
  refine Bo (z:=.agg #[zI 0,.bool false]) Zs Aa fun cm ai cc an=>?_
  have bt:=ai.size
  have ay:=aa.trans ai
  have a6:=a2.ext ai
  have a7:=a3.ext ai
  replace an:BX cm.heap cf.heap.size [zI 0,.bool false]:=an
  refine Bz (vs:=[zI<|(T.grd.getD j Iv.zero).reg,.bool<|(T.grd.getD j Iv.zero).z]) Tb Z Z (by intro u hu;simp only[ze,z2,or_false]at hu;rcases hu with rfl|rfl <;> first|exact⟨rfl,rfl⟩) an Z Z Aa fun cj aj cd ao=>?_
  replace ao:BX cj.heap cf.heap.size [zI ((T.grd.getD j Iv.zero).reg),.bool ((T.grd.getD j Iv.zero).z)]:=ao
  have bj:AF w cj:=aj.below ay (fun _ h=>zE h) ay.size
  have bu:cm.heap.size≤cj.heap.size:=aj.size
  have bk:=a6.chg aj (zB ·)
  have az:=a7.chg aj (zB ·)
  refine Aj<|bZ [0,2,2,0,0,0] Z ?_
  have hgj:=hK.gd j oM
  refine Ak (p:=zP cf.heap.size) 0 UD Z Z Aa<|Ai (p:=Ap (zP cf.heap.size) 0) (.inr Z) (zI<|(T.grd.getD j Iv.zero).reg) AD Z (ao.ldp (i:=0) sM) Aa<|Ai (p:=zP w1.heap.size) (.inr Z) (zI (T.code.length:Int)) AD Z (az.ld (k:=0) sM) Aa ?_
  refine Bs ((T.code.length:Int)-((1:Nat):Int)) Z Z (Da sD sD) Aa ?_
  refine Az 117 [] [] [zI<|(T.grd.getD j Iv.zero).reg,zI ((0:Nat):Int),zI ((T.code.length:Int)-((1:Nat):Int))] Z Z CR Aa (.bool (decide (((0:Nat):Int)≤((T.grd.getD j Iv.zero).reg)) && decide (((T.grd.getD j Iv.zero).reg)≤((T.code.length:Int)-((1:Nat):Int))))) (fun wq=>AW wq _ _ _ bi oM oM) ?_
  rw[show(decide (((0:Nat):Int)≤((T.grd.getD j Iv.zero).reg)) && decide (((T.grd.getD j Iv.zero).reg)≤((T.code.length:Int)-((1:Nat):Int))))=true from Ee]
  exact Bn false Z Z Aa<|Aj<|Ah Z<|A2<|Ab _ [0,0] Z<|AP ((j+1:Nat):Int) Z Z (Bl oM sD) Aa<|Ac 1 Z ⟨j+1,_,rfl,zR,⟨bj,bk,az,oM⟩,zD⟩
 refine AG false Z Z (A6 ax) Aa<|Aj<|A0<|Ah Z<|A4<|Ax<|Ax<|At<|bZ [0,2,0,3,0,0] Z<|Ak (p:=zP w.heap.size) 3 Lm Z Z Aa<|Ai (p:=Ap (zP w.heap.size) 3) (.inr Z) vtx Bj Z (a2.ldp (i:=3) sM) Aa<|MA [] [zP w1.heap.size] Z Z Aa ?_
 refine As 168 [] [] [vtx,.func (.func 193) #[] #[zP w1.heap.size]] Z Z Vx Aa (Cd _ _ _ 193 [] [zP w1.heap.size] (fun x=>!(decide (0≤x) && decide (x≤(T.code.length:Int)-1))) (htoT.ext g1 aa).rd YY fun x hx wz hw=>IQ wz x w1.heap.size (T.code.length:Int) hx ((BX.ext (w:=cf) a3 hw).ld (k:=0) sM) oM oM) ?_
 rintro cq cr ⟨rfl,ap⟩
 refine⟨_,rfl,ap,?_⟩
 have bv:=ap.size
 have bl:=aa.trans ap
 rw[show(oT.any (fun x=>!(decide (0≤x) && decide (x≤(T.code.length:Int)-1))))=false from hK.any]
 exact Bn true Z Z Aa<|Ac 1 Z<|A1<|Af [2] Z (.bool true) Z ⟨rfl,bl⟩
theorem Ni (w:World)(a:Sr)(ipT:Int)(vtc vtg vtx:Value)(T:Tp)(oT:Sr)(vl:Value)(L:List (Sr))(_hipT:Bx ipT)(htcT:RN [] (DM 4 On) w.heap vtc T.code)(htgT:RN [] (DM 2 Oo) w.heap vtg T.grd)(htoT:RN [] (B3 rI) w.heap vtx oT)(hL:RN [] (B3 (B3 rI)) w.heap vl L)(hqL:C5 vl)(hip:ipT=(a.length:Int))(hR:R0 a T oT)(hLL:∀k,k<L.length→(L.getD k []).length=a.length∧B2 (L.getD k [])=true) :
  Calls Tryz.prog 108 #[(.agg #[(zI ipT),vtc,vtg,vtx]),vl] w (fun e w'=>e=.returned (zI 0)∧AF w w'):=by
 refine Aq [.agg #[zI ipT,vtc,vtg,vtx],vl] 22 Tryz.func108 Z Z sM ?_
 have ac:AF w w:=AF.refl w
 have hl_vtx:=htoT.lenL
 unfold maxLen at hl_vtx
 have ap:=hL.lenL
 unfold maxLen at ap
 refine bZ [3,0] Z (Bu (cs:=#[zI ipT,vtc,vtg,vtx]) Z Aa fun w1 a8 ai a6=>?_)
 have a9:=a8.size
 have a2:=ac.trans a8
 replace a6:BX w1.heap w.heap.size [zI ipT,vtc,vtg,vtx]:=a6
 refine Ac 1 Z<|A0<|bZ [2,3,0] Z<|AK (p:=zP w.heap.size) (.inr Z) [zI ipT,vtc,vtg,vtx] Fj Z (fun aq aj=>LD.of_box<|BX.ext (w:=w1) a6 aj) Z Aa<|As 116 [] [] [.agg #[zI ipT,vtc,vtg,vtx]] Z Z YI Aa (JZ _ a (ipT) vtc vtg vtx (T) (oT) _hipT (htcT.ext (An Bb) a2) (htgT.ext (An Bm) a2) (htoT.ext g1 a2) oM hR) ?_
 rintro e2 w2 ⟨rfl,a3⟩
 refine⟨_,rfl,a3,?_⟩
 have aa:=a3.size
 have ad:=a2.trans a3
 have a4:=a6.ext a3
 refine Bn false Z Z Aa<|Aj<|Ah Z<|A2<|A0<|bZ [0,0,0] Z<|Ad 1 Z<|AQ (v:=vl) BH Z hL.slL Aa<|Ac 1 Z<|A3<|B1 (S:=Nat) (fun k=>([(12,zI (k:Int)),(2,zP w.heap.size),(10,vl),(11,zI (L.length:Int))])) (fun k W=>AF w W∧BX W.heap w.heap.size [zI ipT,vtc,vtg,vtx]∧k≤L.length) (fun k=>L.length-k) 0 ⟨rfl,rfl,rfl,rfl,trivial⟩ ⟨ad,a4,oM⟩ ?_
 clear ac ai a8 a9 a2 a3 aa ad
 rintro k ρ3 w3 ⟨a5,a0,ae⟩
 have ak:w.heap.size≤w3.heap.size:=a5.size
 have ao:=a0.lt
 refine bZ [0] Z ?_
 by_cases af:(k:Int)<(L.length:Int)
 ·refine AG true Z Z (A5 af) Aa<|Aj<|A0<|Ag Z<|A2<|A0<|A3<|bZ [0,2,0] Z<|AB (v:=vl) k BH B8 Z Z hL.slL Z sD Aa ?_
  obtain⟨ag,al,ah⟩:=RN.getL (w:=w) g1 [] (k:=k) hL sD
  have ab:=ah.lenL
  unfold maxLen at ab
  refine Ai (p:=Ay vl k 1) (.inr Z) ag Bj Z (al _<|Au.of_ext [] a5) Aa<|Ac 1 Z<|bZ [0,0,2,3,0] Z ?_
  have hLk:=hLL k oM
  refine Ad 1 Z<|Ak (p:=zP w.heap.size) 0 N0 Z Z Aa<|Ai (p:=Ap (zP w.heap.size) 0) (.inr Z) (zI ipT) AD Z (a0.ldp (i:=0) sM) Aa<|As 86 [] [] [ag,zI ipT] Z Z Uw Aa (Dd _ _ _ _ (ah.ext g1 a5).rd _hipT) ?_
  rintro e7 w7 ⟨rfl,a7⟩
  refine⟨_,rfl,a7,?_⟩
  have am:=a7.size
  have an:=a5.trans a7
  have a1:=a0.ext a7
  rw[show(decide ((((L.getD k []).length:Nat):Int)=ipT) && B2 (L.getD k []))=true from(by rw[A5 oM,hLk.2];rfl)]
  exact Bn false Z Z Aa<|Aj<|Ah Z<|A2<|Ab _ [0,0] Z<|AP ((k+1:Nat):Int) Z Z (Bl oM sD) Aa<|Ac 1 Z ⟨k+1,_,rfl,zR,⟨an,a1,oM⟩,zD⟩
 exact AG false Z Z (A6 af) Aa<|Aj<|A0<|Ah Z<|A4<|Ax<|Ax<|At<|cA Z<|A1<|Af [4] Z (zI ((0:Nat):Int)) Z ⟨rfl,a5⟩
theorem Nj (w:World)(va:Value)(a:Sr)(vd:Value)(d:Sr)(ha:Rd (B3 rI) w.heap va a)(hd:Rd (B3 rI) w.heap vd d)(hl:d.length=a.length)(hla:a.length≤1000) :
  Calls Tryz.prog 110 #[va,vd] w (fun e w'=>∃v0:Value,e=.returned (v0)∧AF w w'∧Fr (Bh (Bh rI 2) 27) w.heap.size w'.heap.size w'.heap v0 (Ga a d 2)):=by
 refine Aq [va,vd] 27 Tryz.func110 Z Z sM ?_
 have a9:AF w w:=AF.refl w
 have au:=ha.lenle
 have av:=hd.lenle
 refine cA Z<|bZ [3,0] Z (CQ (Bh rI 2) o1 BH B8 Aa fun v1 w1 a4 af aa=>?_)
 have a5:=a4.size
 have ab:=a9.trans a4
 refine Ac 1 Z<|A0<|bZ [0,0,0] Z<|Ad 1 Z<|AQ (v:=va) Bt Z ha.isSl Aa<|Ac 1 Z<|A3 ?_
 refine B1 (S:=Nat×Value) (fun⟨k,vo⟩=>([(5,vo),(11,zI (k:Int)),(1,vd),(9,va),(10,zI (a.length:Int))])) (fun⟨k,vo⟩ W=>AF w W∧Fr (Bh (Bh rI 2) 27) w.heap.size W.heap.size W.heap vo ((Ga a d 2).take k)∧k≤a.length) (fun⟨k,vo⟩=>a.length-k) (0,v1) ⟨rfl,rfl,rfl,rfl,rfl,trivial⟩ ⟨ab,aa.up o2,sD⟩ ?_
 clear a9 aa af a4 a5 ab
 rintro⟨k,vo⟩ ρ2 w2 ⟨a3,a2,ac⟩
 have ag:w.heap.size≤w2.heap.size:=a3.size
 refine bZ [0] Z ?_
 by_cases ad:(k:Int)<(a.length:Int)
 ·refine AG true Z Z (A5 ad) Aa<|Aj<|A0<|Ag Z<|A2<|A0<|A3<|bZ [0,0,2,0,0] Z<|Ad 1 Z<|AB (v:=va) k Bt BT Z Z ha.isSl Z sD Aa ?_
  refine Ai (p:=Ay va k 1) (.inr Z) (zI<|a.getD k 0) AD Z (AZ a3 (ha.getI sD).1) Aa<|Ac 2 Z<|Ab _ [0,0,0,0,0,2,3,3,4,0] Z<|Ad 4 Z ?_
  refine AB (v:=vd) k Bt BT Z Z hd.isSl Z sD Aa ?_
  refine Ai (p:=Ay vd k 1) (.inr Z) (zI<|d.getD k 0) AD Z (AZ a3 (hd.getI sD).1) Aa ?_
  refine V6 (ys:=[a.getD k 0,d.getD k 0]) AR Bt BT Z Z Z Z (Yn (ha.getI sD).2 (hd.getI sD).2) Aa fun v4 w4 a6 aq ah=>?_
  have ai:=a6.size
  have aj:=a3.trans a6
  have a0:=a2.ext (o2) a6
  refine BI (u:=v4) (B:=w2.heap.size) o1 BH B8 Z Z ah (by first|exact A7 _|omega) Aa fun v5 w5 a7 ar ak=>?_
  have al:=a7.size
  have a8:=aj.trans a7
  have a1:=a0.ext (o2) a7
  refine Il o1 (v:=vo) (a:=v5) BH B8 Z Z Z a1 a8.size ak oM a3.size sD (by unfold maxLen;first|omega|assumption|(simp;done)|(simp;omega)) Aa fun v6 w6 F6 ae am an=>?_
  have ao:AF w w6:=ae.below a8 (fun c hc=>A8 (A7 _) (am c hc).1) a8.size
  have ap:w5.heap.size≤w6.heap.size:=ae.size
  refine Ac 1 Z<|Ab _ [0,0] Z<|AP ((k+1:Nat):Int) Z Z (Bl oM sD) Aa<|Ac 1 Z ?_
  exact⟨(k+1,v6),_,rfl,zR,⟨ao,(by rw[Dq [] (by simp;omega),Ut oM];exact an.up o2),sD⟩,zD⟩
 exact AG false Z Z (A6 ad) Aa<|Aj<|A0<|Ah Z<|A4<|Ax<|Ax<|At<|bZ [0,0] Z<|Ac 2 Z<|A1<|Af [4] Z vo Z ⟨vo,rfl,a3,(by have h:=a2.up o2;rwa [za (by simp;omega)]at h)⟩
theorem LC (w:World)(ipT:Int)(vtc vtg vtx:Value)(T:Tp)(oT:Sr)(va:Value)(a:Sr)(vw:Value)(ws:Sr)(vd:Value)(d:Sr)(_hipT:Bx ipT)(htcT:RN [] (DM 4 On) w.heap vtc T.code)(htgT:RN [] (DM 2 Oo) w.heap vtg T.grd)(htoT:RN [] (B3 rI) w.heap vtx oT)(ha:Rd (B3 rI) w.heap va a)(hws:Rd (B3 rI) w.heap vw ws)(hd:Rd (B3 rI) w.heap vd d)(hip:ipT=(a.length:Int))(hR:R0 a T oT)(hw:ws.length=oT.length∧B2 ws=true)(hdd:d.length=a.length∧B2 d=true) :
  Calls Tryz.prog 183 #[(.agg #[(zI ipT),vtc,vtg,vtx]),va,vw,vd] w (fun e w'=>e=.returned (zI 0)∧AF w w'):=by
 refine Aq [.agg #[zI ipT,vtc,vtg,vtx],va,vw,vd] 26 Tryz.func183 Z Z sM ?_
 have ab:AF w w:=AF.refl w
 have hl_vtx:=htoT.lenL
 unfold maxLen at hl_vtx
 have ah:=ha.lenle
 have an:=hws.lenle
 have ao:=hd.lenle
 have hK:=hR.k
 have hni:=hK.nb
 have hcl:=hK.cl
 have ap:=hK.gl
 have hol:=hK.ol
 have hpos:=hK.pos
 refine bZ [3,0] Z (Bu (cs:=#[zI ipT,vtc,vtg,vtx]) Z Aa fun w1 a8 al a3=>?_)
 have ac:=a8.size
 have a6:=ab.trans a8
 replace a3:BX w1.heap w.heap.size [zI ipT,vtc,vtg,vtx]:=a3
 refine Ac 1 Z<|bZ [2,0,0,3,3,0] Z<|AK (p:=zP w.heap.size) (.inr Z) [zI ipT,vtc,vtg,vtx] Fj Z (fun aq ad=>LD.of_box<|BX.ext (w:=w1) a3 ad) Z Aa<|Ad 2 Z (Qj (x0:=a) (x1:=d) BH B8 Z Z Z (RN.of<|ha.ext g1 a6) (RN.of<|hd.ext g1 a6) Aa fun v2 w2 a7 am a9 ae=>?_)
 have af:=a7.size
 have a4:=a6.trans a7
 have a0:=a3.ext a7
 refine As 108 [] [] [.agg #[zI ipT,vtc,vtg,vtx],v2] Z Z YF Aa (Ni _ a (ipT) vtc vtg vtx (T) (oT) v2 ([a,d]) _hipT (htcT.ext (An Bb) a4) (htgT.ext (An Bm) a4) (htoT.ext g1 a4) a9 ae oM hR (by intro k hk;match k,hk with|0,_=>exact⟨rfl,hR.n⟩|1,_=>exact hdd)) ?_
 rintro e3 w3 ⟨rfl,a1⟩
 refine⟨_,rfl,a1,?_⟩
 have ag:=a1.size
 have aa:=a4.trans a1
 have a2:=a0.ext a1
 refine Ac 1 Z<|A0<|bZ [0,0,0,0,0,2,0,3,0,0] Z<|Ad 1 Z ?_
 have ai:0=((0:Nat):Int):=rfl
 refine Am true Z Z (A5 ai) Aa<|Ad 2 Z<|Ak (p:=zP w.heap.size) 3 Lm Z Z (Ae (e:=17) Z Z Z)<|Ai (p:=Ap (zP w.heap.size) 3) (.inr Z) vtx Bj Z (a2.ldp (i:=3) sM) (Ae (e:=17) Z Z Z)<|AQ (v:=vtx) Bt Z htoT.slL (Ae (e:=17) Z Z Z)<|As 86 [] [] [vw,zI (oT.length:Int)] Z Z Uw (Ae (e:=17) Z Z Z) (Dd _ _ _ _ (hws.ext g1 aa) oM) ?_
 rintro e6 w6 ⟨rfl,a5⟩
 refine⟨_,rfl,a5,?_⟩
 have aj:=a5.size
 have ak:=aa.trans a5
 rw[show(decide ((ws.length:Int)=(oT.length:Int)) && B2 ws)=true from(by rw[A5 oM,hw.2];rfl)]
 exact Bn false Z Z (Ae (e:=17) Z Z Z)<|Ac 1 Z<|Ah Z<|A2<|bZ [0,0] Z<|Ac 2 Z<|A1<|Af [8] Z (zI 0) Z ⟨rfl,ak⟩
theorem Nk (w:World)(ipT:Int)(vtc vtg vtx:Value)(T:Tp)(oT:Sr)(va:Value)(a:Sr)(vw:Value)(ws:Sr)(vd:Value)(d:Sr)(_hipT:Bx ipT)(htcT:RN [] (DM 4 On) w.heap vtc T.code)(htgT:RN [] (DM 2 Oo) w.heap vtg T.grd)(htoT:RN [] (B3 rI) w.heap vtx oT)(ha:Rd (B3 rI) w.heap va a)(hws:Rd (B3 rI) w.heap vw ws)(hd:Rd (B3 rI) w.heap vd d)(hip:ipT=(a.length:Int))(hR:R0 a T oT)(hw:ws.length=oT.length∧B2 ws=true)(hdd:d.length=a.length∧B2 d=true) :
  Calls Tryz.prog 105 #[(.agg #[(zI ipT),vtc,vtg,vtx]),va,vw,vd] w (fun e w'=>∃v0:Value,e=.returned (.tuple #[v0,zI 0])∧AF w w'∧RN [] (B3 (B3 rI)) w'.heap v0 (Jh T.code (B7 2 (Ga a d 2) T.code) oT ws)∧C5 v0):=by
 refine Aq [.agg #[zI ipT,vtc,vtg,vtx],va,vw,vd] 36 Tryz.func105 Z Z sM ?_
 have ak:AF w w:=AF.refl w
 have hl_vtx:=htoT.lenL
 unfold maxLen at hl_vtx
 have ay:=ha.lenle
 have az:=hws.lenle
 have b0:=hd.lenle
 have hK:=hR.k
 have hni:=hK.nb
 have hcl:=hK.cl
 have b2:=hK.gl
 have hol:=hK.ol
 have hpos:=hK.pos
 refine bZ [3,0,0] Z (Bu (cs:=#[zI ipT,vtc,vtg,vtx]) Z Aa fun w1 aj ax ab=>?_)
 have al:=aj.size
 have a3:=ak.trans aj
 replace ab:BX w1.heap w.heap.size [zI ipT,vtc,vtg,vtx]:=ab
 refine Ac 2 Z<|A0<|bZ [2,0,0,0,3,0] Z<|AK (p:=zP w.heap.size) (.inr Z) [zI ipT,vtc,vtg,vtx] Fj Z (fun b1 a5=>LD.of_box<|BX.ext (w:=w1) ab a5) Z Aa<|Ad 3 Z<|As 183 [] [] [.agg #[zI ipT,vtc,vtg,vtx],va,vw,vd] Z Z YU Aa (LC _ (ipT) vtc vtg vtx (T) (oT) _ _ _ _ _ _ _hipT (htcT.ext (An Bb) a3) (htgT.ext (An Bm) a3) (htoT.ext g1 a3) (ha.ext g1 a3) (hws.ext g1 a3) (hd.ext g1 a3) oM hR hw hdd) ?_
 rintro e2 w2 ⟨rfl,ac⟩
 refine⟨_,rfl,ac,?_⟩
 have am:=ac.size
 have ag:=a3.trans ac
 have a2:=ab.ext ac
 refine Ac 1 Z<|bZ [0,0] Z<|Ad 1 Z ?_
 have an:¬(0≠((0:Nat):Int)):=(fun h9=>h9 Z)
 refine AT false Z Z (A6 an) Aa<|Aj<|Ah Z<|A2<|A0<|AO _ [1,0,0,3,3,0,0,0,0,0] mixed (by kernel_rfl)<|AK (p:=zP w.heap.size) (.inl Z) [zI ipT,vtc,vtg,vtx] Fj Z (fun b1 a5=>LD.of_box<|BX.ext (w:=w2.drew) a2 a5) Z Aa<|Ad 2 Z<|As 110 [] [] [va,vd] Z Z YH Aa (Nj _ _ _ _ _ (ha.ext g1 ag.drew) (hd.ext g1 ag.drew) oM oM) ?_
 rintro e4 w4 ⟨a6,rfl,a4,a0⟩
 refine⟨_,rfl,a4,?_⟩
 replace a4:=a4.of_drew
 have ao:=a4.size
 have ad:=ag.trans a4
 have a7:=a2.ext a4
 replace a0:=a0.low (B':=w2.heap.size)<|A7 _
 refine As 109 [] [] [.agg #[zI ipT,vtc,vtg,vtx],a6,zI ((1:Nat):Int)] Z Z YG Aa (Hb _ (ipT) vtc vtg vtx (T) (oT) a6 (Ga a d 2) ((1:Nat):Int) _hipT (htcT.ext (An Bb) ad) (htgT.ext (An Bm) ad) (htoT.ext g1 ad) (RN.of_fr2 a0 fun b hb=>absurd hb z2) a0.cap oM oM (by exact FH hR.n hdd.2) (by intro k hk;rw[Co];exact hR.k.form k hk) oM) ?_
 rintro e5 w5 ⟨v5,c5,rfl,ae,a8,ah⟩
 refine⟨_,rfl,ae,?_⟩
 have ap:=ae.size
 have a9:=ad.trans ae
 have aa:=a7.ext ae
 have aq:c5=0∨c5=6:=by unfold Yq at a8;omega
 have hcz:c5=0:=by rcases a8 with h9|h9;exact h9.1;exact absurd (hR.nz hdd.2) h9.2
 obtain⟨a1,hrvc⟩:=ah hcz
 replace a1:RN [] (B3 (B3 rI)) w5.heap v5 (B7 2 (Ga a d 2) T.code):=a1
 refine Ad 1 Z<|AM (vs:=[v5,zI c5]) v5 Z Z Aa<|AM (vs:=[v5,zI c5]) (zI c5) Z Z Aa<|Ac 2 Z<|A0<|bZ [0,0] Z<|Ad 1 Z ?_
 have ar:¬(c5≠((0:Nat):Int)):=(fun h9=>h9 hcz)
 refine AT false Z Z (A6 ar) Aa<|Aj<|Ah Z<|A2<|bZ [2,0,0,3,0,0] Z<|AK (p:=zP w.heap.size) (.inr Z) [zI ipT,vtc,vtg,vtx] Fj Z (fun b1 a5=>LD.of_box<|BX.ext (w:=w5) aa a5) Z Aa<|Ad 2 Z<|As 184 [] [] [.agg #[zI ipT,vtc,vtg,vtx],v5,vw] Z Z YV Aa (HG _ 2 a.length [] (ipT) vtc vtg vtx (T) (oT) v5 (B7 2 (Ga a d 2) T.code) vw (ws) (fun b hb=>absurd hb z2) _hipT (htcT.ext (An Bb) a9) (htgT.ext (An Bm) a9) (htoT.ext g1 a9) a1 hrvc (hws.ext g1 a9) oM (by exact hR.reg hdd.2) (by rw[BQ]) oM oM hR.k.out hw.2 hR.k.form) ?_
 rintro e7 w7 ⟨v7,rfl,af,au,ai⟩
 refine⟨_,rfl,af,?_⟩
 have av:=af.size
 have aw:=a9.trans af
 exact Ac 2 Z<|A1<|Af [8,9] Z (.tuple #[v7,zI ((0:Nat):Int)]) Z ⟨_,rfl,aw,au,ai⟩
theorem IR (w:World)(ipT:Int)(vtc vtg vtx:Value)(T:Tp)(oT:Sr)(va:Value)(a:Sr)(vw:Value)(ws:Sr)(_hipT:Bx ipT)(htcT:RN [] (DM 4 On) w.heap vtc T.code)(htgT:RN [] (DM 2 Oo) w.heap vtg T.grd)(htoT:RN [] (B3 rI) w.heap vtx oT)(ha:Rd (B3 rI) w.heap va a)(hws:Rd (B3 rI) w.heap vw ws)(hip:ipT=(a.length:Int))(hR:R0 a T oT)(hw:ws.length=oT.length∧B2 ws=true) :
  Calls Tryz.prog 31 #[(.agg #[(zI ipT),vtc,vtg,vtx]),va,vw] w (fun e w'=>∃v0:Value,e=.returned (.tuple #[v0,zI 0])∧AF w w'∧Fr (Bh rI 2) w.heap.size w'.heap.size w'.heap v0 (Ev (MX 2 T oT ws (Ga a a 2)))):=by
 refine Aq [.agg #[zI ipT,vtc,vtg,vtx],va,vw] 25 Tryz.func31 Z Z sM ?_
 have af:AF w w:=AF.refl w
 have hl_vtx:=htoT.lenL
 unfold maxLen at hl_vtx
 have al:=ha.lenle
 have ap:=hws.lenle
 have hK:=hR.k
 have hni:=hK.nb
 have hcl:=hK.cl
 have ar:=hK.gl
 have hol:=hK.ol
 have hpos:=hK.pos
 refine bZ [3,0,0] Z (Bu (cs:=#[zI ipT,vtc,vtg,vtx]) Z Aa fun w1 ab ao a5=>?_)
 have ag:=ab.size
 have a0:=af.trans ab
 replace a5:BX w1.heap w.heap.size [zI ipT,vtc,vtg,vtx]:=a5
 refine Ac 2 Z<|bZ [2,0,0,0,3,0,0,0,0,0] Z<|AK (p:=zP w.heap.size) (.inr Z) [zI ipT,vtc,vtg,vtx] Fj Z (fun aq a9=>LD.of_box<|BX.ext (w:=w1) a5 a9) Z Aa<|Ad 3 Z<|As 105 [] [] [.agg #[zI ipT,vtc,vtg,vtx],va,vw,va] Z Z YD Aa (Nk _ (ipT) vtc vtg vtx (T) (oT) va (a) vw (ws) va (a) _hipT (htcT.ext (An Bb) a0) (htgT.ext (An Bm) a0) (htoT.ext g1 a0) (ha.ext g1 a0) (hws.ext g1 a0) (ha.ext g1 a0) oM hR hw (by exact⟨rfl,hR.n⟩)) ?_
 rintro e2 w2 ⟨v2,rfl,a6,ac,aa⟩
 refine⟨_,rfl,a6,?_⟩
 have ah:=a6.size
 have a7:=a0.trans a6
 have a1:=a5.ext a6
 refine Ad 1 Z<|AM (vs:=[v2,zI 0]) v2 Z Z Aa<|AM (vs:=[v2,zI 0]) (zI 0) Z Z Aa<|Ac 2 Z<|A0<|bZ [0,0] Z<|Ad 1 Z ?_
 have ai:¬(0≠((0:Nat):Int)):=(fun h9=>h9 Z)
 refine AT false Z Z (A6 ai) Aa<|Aj<|Ah Z<|A2<|bZ [2,0,3,3,0,0] Z<|AK (p:=zP w.heap.size) (.inr Z) [zI ipT,vtc,vtg,vtx] Fj Z (fun aq a9=>LD.of_box<|BX.ext (w:=w2) a1 a9) Z Aa<|Ad 1 Z<|As 107 [] [] [.agg #[zI ipT,vtc,vtg,vtx],v2] Z Z YE Aa (HI _ 2 a.length [] (ipT) vtc vtg vtx (T) (oT) v2 (Jh T.code (B7 2 (Ga a a 2) T.code) oT ws) (fun b hb=>absurd hb z2) _hipT (htcT.ext (An Bb) a7) (htgT.ext (An Bm) a7) (htoT.ext g1 a7) ac aa oM oM (by exact hR.adj hR.n) (by rw[SI,BQ];omega) oM hR.k.form) ?_
 rintro e4 w4 ⟨v4,rfl,a8,ad,aj⟩
 refine⟨_,rfl,a8,?_⟩
 have ak:=a8.size
 have ae:=a7.trans a8
 refine As 106 [] [] [v4] Z Z Vn Aa (Ie _ _ _ (ad).rd (by rw[Qa];omega) (by intro k hk;have h9:=((Q9 hR.k.form:BV 2 (Ul a.length 2 T.code<|Jh T.code (B7 2 (Ga a a 2) T.code) oT ws)) k hk).1;omega)) ?_
 rintro e6 w6 ⟨a2,rfl,a3,a4⟩
 refine⟨_,rfl,a3,?_⟩
 have am:=a3.size
 have an:=ae.trans a3
 exact Ac 2 Z<|A1<|Af [6,7] Z (.tuple #[a2,zI ((0:Nat):Int)]) Z ⟨a2,rfl,an,(by first|(unfold Ev MX;rw[Co];exact(a4.up o1).low ae.size)|(exfalso;omega))⟩
end
end Go.Proofs.YtbajepcpgncekaaGreat
