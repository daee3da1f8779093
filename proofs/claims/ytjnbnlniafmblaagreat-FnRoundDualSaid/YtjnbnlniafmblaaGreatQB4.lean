/- Vl, Vn, Vo, Xk, Ya, Yb, Yc, Yd, Ye: texts of this claim, joined; what the claim does not come to is left out. -/
import Derived.Test.YtjnbnlniafmblaaGreatQB3
import Derived.Test.YtjnbnlniafmblaaGreatProg
set_option linter.unusedVariables false
set_option linter.unusedSimpArgs false
namespace Go.Proofs.YtjnbnlniafmblaaGreat
open Go Go.RowKit
section
set_option maxHeartbeats 4000000
set_option maxRecDepth 100000
attribute [local irreducible] LW
def SV (F d:Nat):Prop:=∀(w:World) (S:List Nat) (g:Nat) (pp:Value) (dp n s0:Nat) (c0:Int) (p:List Fn) (ve:Value) (ex:Ex) (vv:Value) (env:List (List Int)) (hS:∀b∈S,b<w.heap.size) (hgS:g∈S) (hB0:BX w.heap g [pp,.int .i64 ((n:Nat):Int),.int .i64 ((s0:Nat):Int),.int .i64 c0]) (hp:RN S (rP (Jj dp)) w.heap pp p) (hn:1≤n∧n≤13) (hs0:s0≤3000) (hc0:0≤c0∧c0≤9) (hex:RN S (rP (LH d)) w.heap ve ex) (henv:RN S (B4 (B4 rI)) w.heap vv env) (hqenv:C3 vv)
  (hvp:FQ p) (hF:F≤p.length) (hwf:wf p ((F:Nat):Int) ex ((env.length:Nat):Int)=true) (hse:BZ n env) (hdp:env.length+ex.deep≤1000000),
  Calls Tryz.prog 167 #[.pointer (some ⟨g,0,none⟩),ve,vv] w (fun e w'=>∃(v:Value) (x:List Int) (s1:Nat) (c1:Int),e=.returned v∧At [g] w w'∧BX w'.heap g [pp,.int .i64 ((n:Nat):Int),.int .i64 ((s1:Nat):Int),.int .i64 c1]∧RN S (B4 rI) w'.heap v x∧Cv n x∧s1≤3000∧(0≤c1∧c1≤9)∧AL (go c0 (CJ n (EO p n F) ex env s0)) x s1 c1)
def SC (F d:Nat):Prop:=∀(w:World) (S:List Nat) (g:Nat) (pp:Value) (dp n s0:Nat) (c0:Int) (p:List Fn) (ve:Value) (ex:Ex) (vv:Value) (env:List (List Int)) (hS:∀b∈S,b<w.heap.size) (hgS:g∈S) (hB0:BX w.heap g [pp,.int .i64 ((n:Nat):Int),.int .i64 ((s0:Nat):Int),.int .i64 c0]) (hp:RN S (rP (Jj dp)) w.heap pp p) (hn:1≤n∧n≤13) (hs0:s0≤3000) (hc0:0≤c0∧c0≤9) (hex:RN S (rP (LH d)) w.heap ve ex) (henv:RN S (B4 (B4 rI)) w.heap vv env) (hqenv:C3 vv)
  (hvp:FQ p) (hF:F≤p.length) (hwf:wf p ((F:Nat):Int) ex ((env.length:Nat):Int)=true) (hse:BZ n env) (hdp:env.length+ex.deep≤1000000) (hk:ex.kind=10∨ex.kind=11),
  Calls Tryz.prog 206 #[.pointer (some ⟨g,0,none⟩),ve,vv] w (fun e w'=>∃(v:Value) (x:List Int) (s1:Nat) (c1:Int),e=.returned v∧At [g] w w'∧BX w'.heap g [pp,.int .i64 ((n:Nat):Int),.int .i64 ((s1:Nat):Int),.int .i64 c1]∧RN S (B4 rI) w'.heap v x∧Cv n x∧s1≤3000∧(0≤c1∧c1≤9)∧AL (go c0 (Lp n (EO p n F) ex env s0)) x s1 c1)
def SO (F:Nat):Prop:=∀(w:World) (S:List Nat) (g:Nat) (pp:Value) (dp n s0:Nat) (c0:Int) (p:List Fn) (dfx:Nat) (vf:Value) (fx:Fn) (va:Value) (env:List (List Int)) (hS:∀b∈S,b<w.heap.size) (hgS:g∈S) (hB0:BX w.heap g [pp,.int .i64 ((n:Nat):Int),.int .i64 ((s0:Nat):Int),.int .i64 c0]) (hp:RN S (rP (Jj dp)) w.heap pp p) (hn:1≤n∧n≤13) (hs0:s0≤3000) (hc0:0≤c0∧c0≤9) (hfx:RN S (rP (Vu dfx)) w.heap vf fx) (henv:RN S (B4 (B4 rI)) w.heap va env) (hqenv:C3 va)
  (hvp:FQ p) (hF:F≤p.length) (hwf:∀k,k<fx.outs.length→wf p ((F:Nat):Int) (fx.outs.getD k Ex.zero) ((env.length:Nat):Int)=true) (hse:BZ n env) (hdp:∀k,k<fx.outs.length→env.length+(fx.outs.getD k Ex.zero).deep≤1000000) (hll:fx.outs.length≤1000000),
  Calls Tryz.prog 114 #[.pointer (some ⟨g,0,none⟩),vf,va] w (fun e w'=>∃(v:Value) (x:List (List Int)) (s1:Nat) (c1:Int),e=.returned v∧At [g] w w'∧BX w'.heap g [pp,.int .i64 ((n:Nat):Int),.int .i64 ((s1:Nat):Int),.int .i64 c1]∧RN S (B4 (B4 rI)) w'.heap v x∧(C3 v∧x.length=fx.outs.length∧BZ n x)∧s1≤3000∧(0≤c1∧c1≤9)∧AL (go c0 (DC n (EO p n F) fx.outs env s0)) x s1 c1)
theorem Dj (w:World)(S:List Nat)(g:Nat)(pp:Value)(dp n s0:Nat)(c0:Int)(p:List Fn)(code:Int)(hS:∀b∈S,b<w.heap.size)(hgS:g∈S)(hB0:BX w.heap g [pp,zI (n:Int),zI (s0:Int),zI c0])(hp:RN S (rP (Jj dp)) w.heap pp p)(hn:1≤n∧n≤13)(hs0:s0≤3000)(hc0:0≤c0∧c0≤9)(_hcode:Bn code)(hcd:1≤code∧code≤9) :
  Calls Tryz.prog 202 #[zP g,zI code] w (fun e w'=>∃(v:Value) (x:Sr) (s1:Nat) (c1:Int),e=.returned v∧At [g] w w'∧BX w'.heap g [pp,zI (n:Int),zI (s1:Int),zI c1]∧RN S (B4 rI) w'.heap v x∧Cv n x∧s1≤3000∧(0≤c1∧c1≤9)∧(s1=s0∧c1=if c0=0 then code else c0)):=by
 refine Aq [zP g,zI code] 19 Tryz.func202 Z Z sM ?_
 have a9:At [g] w w:=At.refl [g] w
 have aj:=hB0.lt
 refine gL Z<|A0<|gK [0,0,0,2,0] Z<|Ad 1 Z<|AV Z Aa<|Ak (p:=zP g) 3 HO Z Z Aa<|Af (p:=An (zP g) 3) (.inr Z) (zI c0) AC Z (hB0.ldp (i:=3) sM) Aa ?_
 by_cases aa:c0=((0:Nat):Int)
 ·refine Al true Z Z (A5 aa) Aa<|Aj<|Ag Z<|Ab _ [0,0,0,0,4] Z<|Ad 2 Z<|AV Z Aa<|Ak (p:=zP g) 3 HO Z Z Aa (Bm (k:=3) (w:=w) HL Z Z ⟨rfl,rfl⟩ hB0 sM Aa fun w2 ab ai a6=>?_)
  replace a6:BX w2.heap g [pp,zI (n:Int),zI (s0:Int),zI code]:=a6
  have ac:At [g] w w2:=a9.trans ab
  have ad:=ab.size
  refine Aj<|gK [0,0,0,2,3,0] Z<|Ad 1 Z<|AV Z Aa<|Ak (p:=zP g) 1 Oz Z Z Aa<|Af (p:=An (zP g) 1) (.inr Z) (zI (n:Int)) MM Z (a6.ldp (i:=1) sM) Aa ?_
  refine Ap 203 [] [] [zI ((0:Nat):Int),zI (n:Int)] Z Z MK Aa (Cx _ _ (n) oM sD oM) ?_
  rintro e3 w3 ⟨a0,rfl,a7,a1⟩
  refine⟨_,rfl,a7,?_⟩
  have ae:=a7.size
  have af:At [g] w w3:=ac.ext a7
  have a2:=a6.ext a7
  exact Ac 1 Z<|A1<|Ah [4] Z a0 Z ⟨a0,cst n ((0:Nat):Int),s0,code,rfl,af,a2,RN.of_fr1 a1 fun b hb=>zH<|hS b hb,(by exact Et (by decide)),oM,oM,(by exact⟨rfl,by first|(rw[if_pos oM])|(rw[if_neg oM])⟩)⟩
 refine Al false Z Z (A6 aa) Aa<|Aj<|Ai Z<|A2<|gK [0,0,0,2,3,0] Z<|Ad 1 Z<|AV Z Aa<|Ak (p:=zP g) 1 Oz Z Z Aa<|Af (p:=An (zP g) 1) (.inr Z) (zI (n:Int)) MM Z (hB0.ldp (i:=1) sM) Aa ?_
 refine Ap 203 [] [] [zI ((0:Nat):Int),zI (n:Int)] Z Z MK Aa (Cx _ _ (n) oM sD oM) ?_
 rintro e4 w4 ⟨a3,rfl,a8,a4⟩
 refine⟨_,rfl,a8,?_⟩
 have ag:=a8.size
 have ah:At [g] w w4:=a9.ext a8
 have a5:=hB0.ext a8
 exact Ac 1 Z<|A1<|Ah [4] Z a3 Z ⟨a3,cst n ((0:Nat):Int),s0,c0,rfl,ah,a5,RN.of_fr1 a4 fun b hb=>zH<|hS b hb,(by exact Et (by decide)),oM,oM,(by exact⟨rfl,by first|(rw[if_pos oM])|(rw[if_neg oM])⟩)⟩
theorem V9 {p:Prop}(h:p:=by unfold maxLen;first|omega|assumption|(simp only[zb,z9,z4,z6,z5];omega)|(simp[zb,z9,z4,z6,z5];done)|(simp[zb,z9,z4,z6,z5];omega)):p:=h
theorem No (w:World)(S:List Nat)(vv:Value)(env:List (Sr))(vx:Value)(x:Sr)(hS:∀b∈S,b<w.heap.size)(henv:RN S (B4 (B4 rI)) w.heap vv env)(hqenv:C3 vv)(hx:RN S (B4 rI) w.heap vx x)(hel:env.length≤1000000) :
  Calls Tryz.prog 205 #[vv,vx] w (fun e w'=>∃v,e=.returned v∧AH w w'∧RN S (B4 (B4 rI)) w'.heap v (env++[x])∧C3 v):=by
 refine Aq [vv,vx] 25 Tryz.func205 Z Z sM ?_
 have ai:AH w w:=AH.refl w
 have b8:=henv.lenL
 unfold maxLen at b8
 have b9:=hx.lenL
 unfold maxLen at b9
 refine gL Z<|gK [3,0] Z (Cn rV Bv Bx AT Aa fun v1 w1 a7 aq aj=>?_)
 have a8:=a7.size
 have ak:=ai.trans a7
 obtain⟨b2,F1,b3⟩:=Hy.nil (S:=S) (aj.low (B':=w.heap.size) (A7 _))
 refine Ac 1 Z<|A0<|gL Z<|A3<|AU (S:=Nat×Value) (fun⟨k,vo⟩=>([(5,vo),(6,zI (k:Int)),(0,vv),(1,vx)])) (fun⟨k,vo⟩ W=>AH w W∧k≤env.length∧P3 27 S w.heap.size W.heap vo (env.take k)) (fun⟨k,vo⟩=>env.length-k) (0,v1) ⟨rfl,rfl,rfl,rfl,trivial⟩ ⟨ak,sD,(by exact⟨_,_,by assumption⟩)⟩ ?_
 clear ai aj aq a7 a8 ak
 rintro⟨k,vo⟩ ρ2 w2 ⟨a6,al,hbld⟩
 have ar:w.heap.size≤w2.heap.size:=a6.size
 obtain⟨b4,F4,a3⟩:=hbld
 refine A0<|gK [0,0,0,0] Z<|Ad 2 Z<|AR (v:=vv) Bx Z henv.slL Aa ?_
 by_cases am:(k:Int)<(env.length:Int)
 ·refine AI true Z Z (A5 am) Aa<|Aj<|Ag Z<|A2<|A0<|A3<|Ab _ [0,0,0,0,2,3,4,0] Z<|Ad 3 Z<|Aw (v:=vv) k Bx AT Z Z henv.slL Z sD Aa ?_
  obtain⟨a9,au,aa⟩:=RN.getL (w:=w) g1 [] (k:=k) henv sD
  have ab:=aa.lenL
  unfold maxLen at ab
  refine Af (p:=Ay vv k 1) (.inr Z) a9 B6 Z (au _<|At.of_ext S a6) Aa (BA (u:=a9) (B:=w2.heap.size) Bv Bx AT Z Z (Md w2.heap.size w2.heap.size _<|aa.one1 g1) (A7 _) Aa fun v7 w7 ac b5 av=>?_)
  have aw:=ac.size
  have ad:=a6.trans ac
  have ae:=a3.ext ac
  refine Dh (v:=vo) (a:=v7) (u:=a9) Bx AT Z Z Z ae oM av ((aa.add (F:=F4) g1 ae.low).ext g1 ad) sD V9 Aa ?_
  rintro v9 w9 G9 an ax ⟨b6,F9,b7⟩
  have ay:=an.size
  have az:AH w w9:=an.below ad (fun c hc=>ae.low c (ax c hc)) ad.size
  refine Ac 1 Z<|Ab _ [0,0,0] Z<|Ad 1 Z<|AQ ((k+1:Nat):Int) Z Z (Bi oM sD) Aa<|Ac 1 Z ?_
  exact⟨(k+1,v9),_,rfl,zR,⟨az,sD,(by rw[D6 [] oM];exact⟨_,_,by assumption⟩)⟩,zD⟩
 refine AI false Z Z (A6 am) Aa<|Aj<|Ai Z<|A4<|AA<|AA<|Av<|gK [0,0,3,4,0] Z<|Ad 2 Z (BA (u:=vx) (B:=w2.heap.size) Bv Bx AT Z Z (Md w2.heap.size w2.heap.size _<|hx.one1 g1) (A7 _) Aa fun bb bd a0 b0 af=>?_)
 have ao:=a0.size
 have a1:=a6.trans a0
 have a2:=a3.ext a0
 refine Dh (v:=vo) (a:=bb) (u:=vx) Bx AT Z Z Z a2 oM af ((hx.add (F:=F4) g1 a2.low).ext g1 a1) sD V9 Aa ?_
 rintro ba bc G12 a4 ag ⟨b1,be,a5⟩
 have ap:=a4.size
 have ah:AH w bc:=a4.below a1 (fun c hc=>a2.low c (ag c hc)) a1.size
 exact Ac 1 Z<|A1<|Ah [4] Z ba Z ⟨ba,rfl,ah,(by have h9:=(a5.done hS);rw[za oM]at h9;exact h9),a5.cap⟩
theorem Jz (w:World)(S:List Nat)(F:Nat)(g:Nat)(pp:Value)(dp n s0:Nat)(c0:Int)(p:List Fn)(dfx:Nat)(vf:Value)(fx:Fn)(va:Value)(env:List (Sr))(hS:∀b∈S,b<w.heap.size)(hgS:g∈S)(hB0:BX w.heap g [pp,zI (n:Int),zI (s0:Int),zI c0])(hp:RN S (rP (Jj dp)) w.heap pp p)(hn:1≤n∧n≤13)(hs0:s0≤3000)(hc0:0≤c0∧c0≤9)(hfx:RN S (rP (Vu dfx)) w.heap vf fx)(henv:RN S (B4 (B4 rI)) w.heap va env)(hqenv:C3 va)(hvp:FQ p)(hF:F≤p.length)(hwf:∀k,k<fx.outs.length→wf p (F:Int) (fx.outs.getD k Ex.zero) (env.length:Int)=true)(hse:BZ n env)(hdp:∀k,k<fx.outs.length→env.length+(fx.outs.getD k Ex.zero).deep≤1000000)(hll:fx.outs.length≤1000000)(IHv:∀d,SV F d) :
  Calls Tryz.prog 114 #[zP g,vf,va] w (fun e w'=>∃(v:Value) (x:List (Sr)) (s1:Nat) (c1:Int),e=.returned v∧At [g] w w'∧BX w'.heap g [pp,zI (n:Int),zI (s1:Int),zI c1]∧RN S (B4 (B4 rI)) w'.heap v x∧(C3 v∧x.length=fx.outs.length∧BZ n x)∧s1≤3000∧(0≤c1∧c1≤9)∧AL (go c0 (DC n (EO p n F) fx.outs env s0)) x s1 c1):=by
 refine Aq [zP g,vf,va] 32 Tryz.func114 Z Z sM ?_
 have ao:At [g] w w:=At.refl [g] w
 have bg:=henv.lenL
 unfold maxLen at bg
 have bl:=hB0.lt
 refine gL Z<|gK [3,0] Z (Cn rV Bv Bx AT Aa fun v1 w1 aa az ap=>?_)
 have ae:=aa.size
 have aq:At [g] w w1:=ao.ext aa
 have a9:=hB0.ext aa
 obtain⟨bc,F1,bd⟩:=Hy.nil (S:=S) (ap.low (B':=w.heap.size) (A7 _))
 refine Ac 1 Z<|A0<|gL Z<|A3 ?_
 refine AU (S:=Nat×Value×List (Sr)×Nat×Int) (fun⟨k,vo,xs,s9,c9⟩=>([(7,vo),(8,zI (k:Int)),(0,zP g),(1,vf),(2,va)])) (fun⟨k,vo,xs,s9,c9⟩ W=>At [g] w W∧BX W.heap g [pp,zI (n:Int),zI (s9:Int),zI c9]∧k≤fx.outs.length∧P3 27 S w.heap.size W.heap vo xs∧xs.length=k∧BZ n xs∧s9≤3000∧(0≤c9∧c9≤9)∧AL (go c0<|DC n (EO p n F) (fx.outs.take k) env s0) xs s9 c9) (fun⟨k,vo,xs,s9,c9⟩=>fx.outs.length-k) (0,v1,([]:List (Sr)),s0,c0) ⟨rfl,rfl,rfl,rfl,rfl,trivial⟩ ⟨aq,a9,sD,(by exact⟨_,_,by assumption⟩),(by rfl),(by intro j hj;simp at hj),oM,oM,(by exact He _ _ _ _ _ _)⟩ ?_
 clear ao ap az aa ae aq
 rintro⟨k,vo,xs,s9,c9⟩ ρ2 w2 ⟨a3,a1,ar,hbld,hxl,hxs,au,av,hrl⟩
 have b0:w.heap.size≤w2.heap.size:=a3.size
 have be:=a1.lt
 obtain⟨bf,F5,a0⟩:=hbld
 refine A0<|gK [0,0,0,0,2,0,0] Z<|Ad 2 Z<|AF (hfx.isPtr) Z Aa ?_
 obtain⟨cs6,b1,ab⟩:=RN.at (Az _) hfx
 obtain⟨a8,rfl,ac⟩:=RF.of b1
 have af:=ac.rn.lenle
 unfold maxLen at af
 refine AE (p:=vf) 2 BU Z (ab _<|a3.sub<|B7 hgS) Aa<|Af (p:=An vf 2) (.inr Z) a8 Bf Z ((ab _<|a3.sub<|B7 hgS).ld (i:=2) (by simp[DR,DV])) Aa<|AR (v:=a8) CR Z ac.rn.isSl Aa ?_
 by_cases aw:(k:Int)<(fx.outs.length:Int)
 ·refine AI true Z Z (A5 aw) Aa<|Aj<|Ag Z<|A2<|A0<|A3<|Ab _ [0,0,0,0,0,2,0,0,0,4,3,4,0] Z<|Ad 3 Z<|AF (hfx.isPtr) Z Aa<|AE (p:=vf) 2 BU Z (ab _<|a3.sub<|B7 hgS) Aa<|Af (p:=An vf 2) (.inr Z) a8 Bf Z ((ab _<|a3.sub<|B7 hgS).ld (i:=2) (by simp[DR,DV])) Aa<|Ad 1 Z ?_
  refine Aw (v:=a8) k CR Bj Z Z ac.rn.isSl Z sD Aa<|Ad 1 Z ?_
  refine AD 167 [] [] [zP g,Ay a8 k 5,va] Z Z Iq Aa (IHv dfx _ (S++F5) g pp dp (n) (s9) (c9) (p) (Ay a8 k 5) (fx.outs.getD k Ex.zero) va (env) (fun b hb=>(by rcases zi.1 hb with hb|hb;(have:=hS b hb;omega);exact a0.lt b hb:b<w2.heap.size)) (z8 _ hgS) a1 ((hp.add (F:=F5) (AS<|AN dp) a0.low).chg (AS<|AN dp)<|a3.sub<|Nc hgS) oM oM oM (RN.ptr (Ax dfx) (by decide) Ex.zero ((ac.rn.add (F:=F5) (Am<|Ax dfx) a0.low).chg (Am<|Ax dfx)<|a3.sub<|Nc hgS) sD) ((henv.add (F:=F5) g2 a0.low).chg g2<|a3.sub<|Nc hgS) hqenv hvp oM (by exact hwf k oM) hse (by exact hdp k oM)) ?_
  rintro e8 w8 ⟨v8,x8,s8,c8,rfl,ag,b2,ad,ah,b3,b4,b5⟩
  refine⟨_,rfl,?_⟩
  have b6:=ag.size
  have b7:At [g] w w8:=a3.trans ag
  have ai:=a0.run hgS oM ag
  have b8:=ah.1
  replace ad:RN (S++F5) (B4 rI) w8.heap v8 x8:=ad
  refine BA (u:=v8) (B:=w8.heap.size) Bv Bx AT Z Z (Md w8.heap.size w8.heap.size _<|ad.one1 g1) (A7 _) Aa fun bh bi a2 b9 aj=>?_
  have ax:=a2.size
  have ak:At [g] w bi:=b7.ext a2
  have a5:=b2.ext a2
  have a4:=ai.ext a2
  have al:=ad.ext g1 a2
  refine Dh (v:=vo) (a:=bh) (u:=v8) Bx AT Z Z Z a4 oM aj al sD (by unfold maxLen;first|omega|assumption|(simp;done)|(simp;omega)) Aa ?_
  rintro bj bk G17 a6 a7 ⟨ba,bm,bb⟩
  have ay:=a6.size
  have am:At [g] w bk:=ak.fresh a6 (fun c hc=>a4.low c (a7 c hc))
  have an:=a5.chg a6 fun hm=>by have:=a4.low _ (a7 _ hm);have:=a4.lt _ (a7 _ hm);omega
  refine Ac 1 Z<|Ab _ [0,0,0] Z<|Ad 1 Z<|AQ ((k+1:Nat):Int) Z Z (Bi oM sD) Aa<|Ac 1 Z ?_
  exact⟨(k+1,bj,xs++[x8],s8,c8),_,rfl,zR,⟨am,an,sD,(by exact⟨_,_,by assumption⟩),(by rw[z4,zd,hxl]),(by exact BZ.snoc hxs (by assumption)),oM,oM,(by exact Hd oM hrl (by assumption))⟩,zD⟩
 exact AI false Z Z (A6 aw) Aa<|Aj<|Ai Z<|A4<|AA<|AA<|Av<|gK [0,0] Z<|Ac 2 Z<|A1<|Ah [6] Z vo Z ⟨vo,xs,s9,c9,rfl,a3,a1,a0.done hS,(by exact⟨a0.cap,zO,hxs⟩),oM,oM,(by rw[za oM]at hrl;exact hrl)⟩
theorem Va (F:Nat)(IH:∀d,SV F d):SO F:=by
 intro w S g pp dp n s0 c0 p dfx vf fx va env hS hgS hB0 hp hn hs0 hc0 hfx henv hqenv hvp hF hwf hse hdp hll
 exact Jz w S F g pp dp n s0 c0 p dfx vf fx va env hS hgS hB0 hp hn hs0 hc0 hfx henv hqenv hvp hF hwf hse hdp hll IH
theorem Vb {p:Prop}(h:p:=by first|exact TQ oM oM hKr (by assumption)|exact TT oM oM hKr (by rw[show(ex.count).toNat=i from by omega];exact hrl9)):p:=h
theorem HR {p:Prop}(h:p:=by simp[DR,DV]):p:=h
theorem JA (w:World)(S:List Nat)(F:Nat)(g:Nat)(pp:Value)(dp n s0:Nat)(c0:Int)(p:List Fn)(dex:Nat)(ve:Value)(ex:Ex)(vv:Value)(env:List (Sr))(hS:∀b∈S,b<w.heap.size)(hgS:g∈S)(hB0:BX w.heap g [pp,zI (n:Int),zI (s0:Int),zI c0])(hp:RN S (rP (Jj dp)) w.heap pp p)(hn:1≤n∧n≤13)(hs0:s0≤3000)(hc0:0≤c0∧c0≤9)(hex:RN S (rP (LH dex)) w.heap ve ex)(henv:RN S (B4 (B4 rI)) w.heap vv env)(hqenv:C3 vv)(hvp:FQ p)(hF:F≤p.length)(hwf:wf p (F:Int) ex (env.length:Int)=true)(hse:BZ n env)(hdp:env.length+ex.deep≤1000000)(hk:ex.kind=10∨ex.kind=11)(IH1:∀F',F'<F→∀d,SV F' d)(IH2:∀d',d'<dex→SV F d') :
  Calls Tryz.prog 206 #[zP g,ve,vv] w (fun e w'=>∃(v:Value) (x:Sr) (s1:Nat) (c1:Int),e=.returned v∧At [g] w w'∧BX w'.heap g [pp,zI (n:Int),zI (s1:Int),zI c1]∧RN S (B4 rI) w'.heap v x∧Cv n x∧s1≤3000∧(0≤c1∧c1≤9)∧AL (go c0 (Lp n (EO p n F) ex env s0)) x s1 c1):=by
 refine Aq [zP g,ve,vv] 81 Tryz.func206 Z Z sM ?_
 have bo:At [g] w w:=At.refl [g] w
 have d0:=henv.lenL
 unfold maxLen at d0
 have dh:=hB0.lt
 have hwk:=FY hwf hk
 have ay:ex.kind≠9:=by omega
 have hkH:=eU hk
 clear hk
 have hdk:=Dq ex
 refine gL Z<|gK [3,0] Z (Cn rV Bv Bx AT Aa fun v1 w1 az cf bp=>?_)
 have b2:=az.size
 have bq:At [g] w w1:=bo.ext az
 have am:=hB0.ext az
 obtain⟨cv,F1,cw⟩:=Hy.nil (S:=S) (bp.low (B':=w.heap.size) (A7 _))
 refine Ac 1 Z<|A0<|gL Z<|A3 ?_
 refine AU (S:=Nat×Value×List (Sr)×Nat×Int) (fun⟨k,vo,xs,s9,c9⟩=>([(7,vo),(8,zI (k:Int)),(0,zP g),(1,ve),(2,vv)])) (fun⟨k,vo,xs,s9,c9⟩ W=>At [g] w W∧BX W.heap g [pp,zI (n:Int),zI (s9:Int),zI c9]∧k≤ex.kids.length∧P3 27 S w.heap.size W.heap vo xs∧xs.length=k∧BZ n xs∧s9≤3000∧(0≤c9∧c9≤9)∧AL (go c0<|DC n (EO p n F) (ex.kids.take k) env s0) xs s9 c9) (fun⟨k,vo,xs,s9,c9⟩=>ex.kids.length-k) (0,v1,([]:List (Sr)),s0,c0) ⟨rfl,rfl,rfl,rfl,rfl,trivial⟩ ⟨bq,am,sD,(by exact⟨_,_,by assumption⟩),(by rfl),(by intro j hj;simp at hj),oM,oM,(by exact He _ _ _ _ _ _)⟩ ?_
 clear bo bp cf az b2 bq
 rintro⟨k,vo,xs,s9,c9⟩ ρ2 w2 ⟨a0,a1,br,hbld,hxl,hxs,bs,bt,hrl⟩
 have b3:w.heap.size≤w2.heap.size:=a0.size
 have cx:=a1.lt
 obtain⟨cy,F5,a3⟩:=hbld
 refine A0<|gK [0,0,0,0,2,0,0] Z<|Ad 2 Z<|AF (hex.isPtr) Z Aa ?_
 obtain⟨cs6,cg,a7⟩:=RN.at (Ax _) hex
 obtain⟨dd6,al,cz,rfl,b0⟩:=RX.of cg
 have an:=b0.rn.lenle
 unfold maxLen at an
 refine AE (p:=ve) 4 Bc Z (a7 _<|a0.sub<|B7 hgS) Aa<|Af (p:=An ve 4) (.inr Z) al Bf Z ((a7 _<|a0.sub<|B7 hgS).ld (i:=4) HR) Aa<|AR (v:=al) CR Z b0.rn.isSl Aa ?_
 by_cases bu:(k:Int)<(ex.kids.length:Int)
 ·refine AI true Z Z (A5 bu) Aa<|Aj<|Ag Z<|A2<|A0<|A3<|Ab _ [0,0,0,0,0,2,0,0,0,4,3,4,0] Z ?_
  have hvo:=hvp.outs (ex.num).toNat oM
  have hvr:=hvp.par (ex.num).toNat oM
  have hkd:=CS (l:=ex.kids) (k:=k) oM
  have hkb:ex.kids.length≤412:=by omega
  refine Ad 3 Z<|AF (hex.isPtr) Z Aa<|AE (p:=ve) 4 Bc Z (a7 _<|a0.sub<|B7 hgS) Aa<|Af (p:=An ve 4) (.inr Z) al Bf Z ((a7 _<|a0.sub<|B7 hgS).ld (i:=4) HR) Aa<|Ad 1 Z<|Aw (v:=al) k CR Bj Z Z b0.rn.isSl Z sD Aa<|Ad 1 Z ?_
  refine AD 167 [] [] [zP g,Ay al k 5,vv] Z Z Iq Aa (IH2 dd6 oM _ (S++F5) g pp dp (n) (s9) (c9) (p) (Ay al k 5) (ex.kids.getD k Ex.zero) vv (env) (fun b hb=>(by rcases zi.1 hb with hb|hb;(have:=hS b hb;omega);exact a3.lt b hb:b<w2.heap.size)) (z8 _ hgS) a1 ((hp.add (F:=F5) (AS<|AN dp) a3.low).chg (AS<|AN dp)<|a0.sub<|Nc hgS) oM oM oM (RN.ptr (Ax dd6) (by decide) Ex.zero ((b0.rn.add (F:=F5) (Am<|Ax dd6) a3.low).chg (Am<|Ax dd6)<|a0.sub<|Nc hgS) sD) ((henv.add (F:=F5) g2 a3.low).chg g2<|a0.sub<|Nc hgS) hqenv hvp oM (by exact C1 hwf oM oM) hse oM) ?_
  rintro e8 w8 ⟨v8,x8,s8,c8,rfl,b4,ch,b1,b5,ci,cj,ck⟩
  refine⟨_,rfl,?_⟩
  have cl:=b4.size
  have cm:At [g] w w8:=a0.trans b4
  have b6:=a3.run hgS oM b4
  have cn:=b5.1
  replace b1:RN (S++F5) (B4 rI) w8.heap v8 x8:=b1
  refine BA (u:=v8) (B:=w8.heap.size) Bv Bx AT Z Z (Md w8.heap.size w8.heap.size _<|b1.one1 g1) (A7 _) Aa fun d3 d4 a8 co b7=>?_
  have bv:=a8.size
  have b8:At [g] w d4:=cm.ext a8
  have af:=ch.ext a8
  have ab:=b6.ext a8
  have b9:=b1.ext g1 a8
  refine Dh (v:=vo) (a:=d3) (u:=v8) Bx AT Z Z Z ab oM b7 b9 sD (by unfold maxLen;first|omega|assumption|(simp;done)|(simp;omega)) Aa ?_
  rintro d5 d6 G17 ag ah ⟨cp,di,cq⟩
  have bw:=ag.size
  have ba:At [g] w d6:=b8.fresh ag (fun c hc=>ab.low c (ah c hc))
  have bb:=af.chg ag fun hm=>by have:=ab.low _ (ah _ hm);have:=ab.lt _ (ah _ hm);omega
  refine Ac 1 Z<|Ab _ [0,0,0] Z<|Ad 1 Z<|AQ ((k+1:Nat):Int) Z Z (Bi oM sD) Aa<|Ac 1 Z ?_
  exact⟨(k+1,d5,xs++[x8],s8,c8),_,rfl,zR,⟨ba,bb,sD,(by exact⟨_,_,by assumption⟩),(by rw[z4,zd,hxl]),(by exact BZ.snoc hxs (by assumption)),oM,oM,(by exact Hd oM hrl (by assumption))⟩,zD⟩
 refine AI false Z Z (A6 bu) Aa<|Aj<|Ai Z<|A4<|AA<|AA<|Av<|A0<|AM _ [0,0,0,1,0,0,1,0,0,0,1,0,0] mixed (by kernel_rfl) ?_
 have ad:=a3.done hS
 have hfn19c:=a3.cap
 have hvo:=hvp.outs (ex.num).toNat oM
 have hvr:=hvp.par (ex.num).toNat oM
 have hxk:xs.length=ex.kids.length:=by omega
 have hKr:AL (go c0 (DC n (EO p n F) ex.kids env s0)) xs s9 c9:=by rw[za oM]at hrl;exact hrl
 refine Ad 1 Z<|AV Z Aa<|Ak (p:=zP g) 0 Xv Z Z Aa<|Af (p:=An (zP g) 0) (.inl Z) pp UP Z (a1.ldp (i:=0) sM) Aa<|AF (hp.isPtr) Z Aa ?_
 obtain⟨cs20,bc,ao⟩:=RN.at (AN _) hp
 obtain⟨a4,rfl,a9⟩:=RPr.of bc
 have ae:=a9.lenle
 unfold maxLen at ae
 refine AE (p:=pp) 0 BB Z (ao _<|a0.drew.sub<|B7 hgS) Aa<|Af (p:=An pp 0) (.inl Z) a4 C4 Z ((ao _<|a0.drew.sub<|B7 hgS).ld (i:=0) HR) Aa<|Ad 1 Z<|AF (hex.isPtr) Z Aa<|AE (p:=ve) 1 BF Z (a7 _<|a0.drew.sub<|B7 hgS) Aa<|Af (p:=An ve 1) (.inl Z) (zI ex.num) AC Z ((a7 _<|a0.drew.sub<|B7 hgS).ld (i:=1) HR) Aa ?_
 refine Aw (v:=a4) ((ex.num).toNat) Gx Co Z Z a9.isSl oM sD Aa<|Ac 1 Z<|A0<|gK [0,0,0,2,0] Z<|Ad 1 Z<|AF (hex.isPtr) Z Aa<|AE (p:=ve) 0 Br Z (a7 _<|a0.drew.sub<|B7 hgS) Aa<|Af (p:=An ve 0) (.inr Z) (zI ex.kind) AC Z ((a7 _<|a0.drew.sub<|B7 hgS).ld (i:=0) HR) Aa ?_
 by_cases ap:ex.kind=((10:Nat):Int)
 ·refine Al true Z Z (A5 ap) Aa<|Aj<|Ag Z<|A0<|AM _ [0,0,0,0,1,0,0,0,1,0,0,4,0] mixed (by kernel_rfl)<|Ad 2 Z ?_
  have hvd:=hvp.deep (ex.num).toNat oM (ex.pick).toNat oM
  refine AF (RN.isPtr<|RN.ptr (Az dp) (by decide) Fn.zero a9 sD) Z Aa ?_
  obtain⟨cs22,bd,aq⟩:=a9.get (Az dp) Fn.zero (k:=(ex.num).toNat) sD
  obtain⟨ac,rfl,ai⟩:=RF.of bd
  have ar:=ai.rn.lenle
  unfold maxLen at ar
  refine AE (p:=Ay a4 ((ex.num).toNat) 3) 2 BU Z (aq _<|a0.drew.drew.sub<|B7 hgS) Aa<|Af (p:=An (Ay a4 ((ex.num).toNat) 3) 2) (.inl Z) ac Bf Z ((aq _<|a0.drew.drew.sub<|B7 hgS).ld (i:=2) HR) Aa<|Ad 1 Z<|AF (hex.isPtr) Z Aa<|AE (p:=ve) 2 D1 Z (a7 _<|a0.drew.drew.sub<|B7 hgS) Aa<|Af (p:=An ve 2) (.inl Z) (zI ex.pick) AC Z ((a7 _<|a0.drew.drew.sub<|B7 hgS).ld (i:=2) HR) Aa ?_
  refine Aw (v:=ac) ((ex.pick).toNat) CR Bj Z Z ai.rn.isSl oM sD Aa<|Ad 1 Z ?_
  refine AD 167 [] [] [zP g,Ay ac ((ex.pick).toNat) 5,vo] Z Z Iq Aa (IH1 (ex.num).toNat oM dp _ S g pp dp (n) (s9) (c9) (p) (Ay ac ((ex.pick).toNat) 5) (((p.getD ((ex.num).toNat) Fn.zero).outs).getD ((ex.pick).toNat) Ex.zero) vo (xs) (fun b hb=>(by have:=hS b hb;omega:b<w2.heap.size)) hgS a1 (hp.chg (AS<|AN dp)<|a0.drew.drew.sub<|B7 hgS) oM oM oM (RN.ptr (Ax dp) (by decide) Ex.zero (ai.rn.chg (Am<|Ax dp)<|a0.drew.drew.sub<|B7 hgS) sD) ad hfn19c hvp oM (by have h9:=hvp.wf (ex.num).toNat oM (ex.pick).toNat oM;rw[show(xs.length:Int)=(p.getD (ex.num).toNat Fn.zero).params from by omega];exact h9) hxs oM) ?_
  rintro dj d7 ⟨d2,d8,da,db,rfl,a5,be,bf,au,bx,bz,c2⟩
  refine⟨_,rfl,?_⟩
  replace a5:=a5.of_drew
  replace a5:=a5.of_drew
  have c3:=a5.size
  have bg:At [g] w d7:=a0.trans a5
  have cr:=ad.run g2 hgS a5
  have c4:=au.1
  exact Ac 1 Z<|A1<|Ao<|Ah [6] Z d2 Z ⟨d2,d8,da,db,rfl,bg,be,bf,(by first|assumption|exact hks _ oM),oM,oM,Vb⟩
 refine Al false Z Z (A6 ap) Aa<|Aj<|Ai Z<|A2<|A0<|gK [0] Z ?_
 have bh:ex.kind=11:=by have h9:ex.kind=10∨ex.kind=11:=hkH;omega
 have hwl:=Kg hwf bh
 refine Ac 1 Z<|A3 ?_
 refine AU (S:=Nat×Value×List (Sr)×Nat×Int) (fun⟨i,vk,ks,s8,c8⟩=>([(7,vk),(10,zI (i:Int)),(0,zP g),(1,ve),(9,Ay a4 ((ex.num).toNat) 3)])) (fun⟨i,vk,ks,s8,c8⟩ W=>At [g] w W∧BX W.heap g [pp,zI (n:Int),zI (s8:Int),zI c8]∧i≤(ex.count).toNat∧RN S (B4<|B4 rI) W.heap vk ks∧C3 vk∧ks.length=(p.getD (ex.num).toNat Fn.zero).outs.length∧BZ n ks∧s8≤3000∧(0≤c8∧c8≤9)∧AL (go c9<|IM (fun a t=>DC n (EO p n (ex.num).toNat) (p.getD (ex.num).toNat Fn.zero).outs a t) i xs s9) ks s8 c8) (fun⟨i,vk,ks,s8,c8⟩=>(ex.count).toNat-i) (0,vo,xs,s9,c9) ⟨rfl,rfl,rfl,rfl,rfl,trivial⟩ ⟨a0.drew,a1,oM,(by assumption),(by assumption),oM,(by assumption),oM,oM,(by exact TS Z)⟩ ?_
 clear a1 a0 b3 an ae
 rintro⟨i,vk,ks,s8,c8⟩ ρ31 d1 ⟨a2,a6,bi,hrk,hck,hkl,hks,bj,bk,hrl9⟩
 have c5:w.heap.size≤d1.heap.size:=a2.size
 have cs:=a6.lt
 refine A0<|gK [0,0,0,0,2,0] Z<|Ad 2 Z<|AF (hex.isPtr) Z Aa<|AE (p:=ve) 3 Dz Z (a7 _<|a2.sub<|B7 hgS) Aa<|Af (p:=An ve 3) (.inr Z) (zI ex.count) AC Z ((a7 _<|a2.sub<|B7 hgS).ld (i:=3) HR) Aa ?_
 by_cases av:(i:Int)<ex.count
 ·refine AI true Z Z (A5 av) Aa<|Aj<|Ag Z<|A2<|A0<|A3<|Ab _ [0,0,0,4,0] Z<|Ad 3 Z ?_
  refine AD 114 [] [] [zP g,Ay a4 ((ex.num).toNat) 3,vk] Z Z Yi Aa (Va (ex.num).toNat (fun d9=>IH1 (ex.num).toNat oM d9) _ S g pp dp (n) (s8) (c8) (p) dp (Ay a4 ((ex.num).toNat) 3) (p.getD ((ex.num).toNat) Fn.zero) vk (ks) (fun b hb=>(by have:=hS b hb;omega:b<d1.heap.size)) hgS a6 (hp.chg (AS<|AN dp)<|a2.sub<|B7 hgS) oM oM oM (RN.ptr (Az dp) (by decide) Fn.zero (a9.chg (Am<|Az dp)<|a2.sub<|B7 hgS) sD) hrk hck hvp oM (by intro k9 ay;have h9:=hvp.wf (ex.num).toNat oM k9 ay;rw[show(ks.length:Int)=(p.getD (ex.num).toNat Fn.zero).params from by omega];exact h9) hks (by intro k9 ay;have:=hvp.deep (ex.num).toNat oM k9 ay;omega) oM) ?_
  rintro dk dc ⟨dd,de,df,dg,rfl,aj,bl,ct,aa,c6,c7,ca⟩
  refine⟨_,rfl,?_⟩
  have cb:=aj.size
  have bm:At [g] w dc:=a2.trans aj
  have cu:=hrk.run g2 hgS aj
  have cc:=aa.2.1
  have cd:=aa.2.2
  have ce:=aa.1
  exact Ac 1 Z<|Ab _ [0,0,0] Z<|Ad 1 Z<|AQ ((i+1:Nat):Int) Z Z (Bi oM oM) Aa<|Ac 1 Z ⟨(i+1,dd,de,df,dg),_,rfl,zR,⟨bm,bl,oM,(by assumption),(by assumption),oM,(by assumption),oM,oM,(by exact TR hrl9 (by assumption))⟩,zD⟩
 refine AI false Z Z (A6 av) Aa<|Aj<|Ai Z<|A4<|AA<|AA<|Av<|gK [0,0,0,0,2,0,2,0] Z<|Ad 2 Z<|AF (hex.isPtr) Z Aa<|AE (p:=ve) 2 D1 Z (a7 _<|a2.sub<|B7 hgS) Aa<|Af (p:=An ve 2) (.inr Z) (zI ex.pick) AC Z ((a7 _<|a2.sub<|B7 hgS).ld (i:=2) HR) Aa ?_
 refine Aw (v:=vk) ((ex.pick).toNat) Bx AT Z Z hrk.slL oM sD Aa ?_
 obtain⟨ak,bn,aw⟩:=RN.getL (w:=d1) g1 [] (k:=(ex.pick).toNat) hrk sD
 have ax:=aw.lenL
 unfold maxLen at ax
 exact Af (p:=Ay vk ((ex.pick).toNat) 1) (.inr Z) ak B6 Z (bn _<|At.refl _ _) Aa<|Ac 1 Z<|A1<|Ah [6] Z ak Z ⟨ak,ks.getD ((ex.pick).toNat) [],s8,c8,rfl,a2,a6,aw,(by first|assumption|exact hks _ oM),oM,oM,Vb⟩
theorem Vc (F d:Nat)(IH1:∀F',F'<F→∀d,SV F' d)(IH2:∀d',d'<d→SV F d'):SC F d:=by
 intro w S g pp dp n s0 c0 p ve ex vv env hS hgS a0 hp hn a1 a2 hex henv hqenv hvp hF hwf hse hdp hk
 exact JA w S F g pp dp n s0 c0 p d ve ex vv env hS hgS a0 hp hn a1 a2 hex henv hqenv hvp hF hwf hse hdp hk IH1 IH2
theorem Vd {p:Prop}(h:p:=by first|exact Fj hc00 hs1 oM oM ‹AL (go c0 (CJ _ _ (ex.kids.getD 0 _) _ _)) _ _ _› oM (by assumption)|exact Fk hc00 hs1 oM oM ‹AL (go c0 (CJ _ _ (ex.kids.getD 0 _) _ _)) _ _ _› oM (by assumption)):p:=h
theorem OH {p:Prop}(h:p:=by have:=CS (l:=ex.kids) (k:=0) oM;omega):p:=h
theorem JB {p:Prop}(h:p:=by exact C1 hwf oM oM):p:=h
theorem EH {p:Prop}(h:p:=by simp[DR,DV]):p:=h
theorem JC (w:World)(S:List Nat)(F:Nat)(g:Nat)(pp:Value)(dp n s0:Nat)(c0:Int)(p:List Fn)(dex:Nat)(ve:Value)(ex:Ex)(vv:Value)(env:List (Sr))(hS:∀b∈S,b<w.heap.size)(hgS:g∈S)(b0:BX w.heap g [pp,zI (n:Int),zI (s0:Int),zI c0])(hp:RN S (rP (Jj dp)) w.heap pp p)(hn:1≤n∧n≤13)(j2:s0≤3000)(j3:0≤c0∧c0≤9)(hex:RN S (rP (LH dex)) w.heap ve ex)(henv:RN S (B4 (B4 rI)) w.heap vv env)(hqenv:C3 vv)(hvp:FQ p)(hF:F≤p.length)(hwf:wf p (F:Int) ex (env.length:Int)=true)(hse:BZ n env)(hdp:env.length+ex.deep≤1000000)(IH1:∀F',F'<F→∀d,SV F' d)(IH2:∀d',d'<dex→SV F d') :
  Calls Tryz.prog 167 #[zP g,ve,vv] w (fun e w'=>∃(v:Value) (x:Sr) (s1:Nat) (c1:Int),e=.returned v∧At [g] w w'∧BX w'.heap g [pp,zI (n:Int),zI (s1:Int),zI c1]∧RN S (B4 rI) w'.heap v x∧Cv n x∧s1≤3000∧(0≤c1∧c1≤9)∧AL (go c0 (CJ n (EO p n F) ex env s0)) x s1 c1):=by
 refine Aq [zP g,ve,vv] 186 Tryz.func167 Z Z sM ?_
 have bk:At [g] w w:=At.refl [g] w
 have fr:=henv.lenL
 unfold maxLen at fr
 have l1:=b0.lt
 have hdk:=Dq ex
 refine gL Z<|A0<|gK [0,0,0,2,0] Z<|Ad 1 Z<|AV Z Aa<|Ak (p:=zP g) 3 HO Z Z Aa<|Af (p:=An (zP g) 3) (.inr Z) (zI c0) AC Z (b0.ldp (i:=3) sM) Aa ?_
 by_cases e8:c0≠((0:Nat):Int)
 ·refine B2 true Z Z (A5 e8) Aa<|Aj<|Ag Z<|gK [0,0,0,0,2,4,0] Z<|Ad 2 Z<|AV Z Aa<|Ak (p:=zP g) 3 HO Z Z Aa<|Af (p:=An (zP g) 3) (.inr Z) (zI c0) AC Z (b0.ldp (i:=3) sM) Aa<|AD 202 [] [] [zP g,zI c0] Z Z RR Aa (Dj _ S g pp dp (n) (s0) (c0) (p) (c0) (fun b hb=>(by have:=hS b hb;omega:b<w.heap.size)) hgS b0 (hp.chg (AS<|AN dp)<|bk.sub<|B7 hgS) oM oM oM oM oM) ?_
  rintro e2 w2 ⟨v2,x2,s2,c2,rfl,e9,i9,ia,d1,ib,ic,bl⟩
  refine⟨_,rfl,?_⟩
  have id:=e9.size
  have ie:At [g] w w2:=bk.trans e9
  have ig:=d1.1
  have hfs:=bl.1
  have hff:=bl.2
  exact Ac 1 Z<|A1<|Ao<|Ah [6] Z v2 Z ⟨v2,x2,s2,c2,rfl,ie,i9,ia,(by assumption),oM,oM,(by rw[hff,if_neg oM];exact DX oM)⟩
 refine B2 false Z Z (A6 e8) Aa<|Aj<|Ai Z<|A2<|A0<|gK [0,0,0,2,0] Z<|Ad 1 Z<|AV Z Aa<|Ak (p:=zP g) 2 M7 Z Z Aa<|Af (p:=An (zP g) 2) (.inr Z) (zI (s0:Int)) AC Z (b0.ldp (i:=2) sM) Aa ?_
 by_cases ea:(s0:Int)=((3000:Nat):Int)
 ·refine Al true Z Z (A5 ea) Aa<|Aj<|Ag Z<|gK [0,4,0] Z<|Ad 1 Z<|AD 202 [] [] [zP g,zI ((7:Nat):Int)] Z Z RR Aa (Dj _ S g pp dp (n) (s0) (c0) (p) ((7:Nat):Int) (fun b hb=>(by have:=hS b hb;omega:b<w.heap.size)) hgS b0 (hp.chg (AS<|AN dp)<|bk.sub<|B7 hgS) oM oM oM oM oM) ?_
  rintro e7 w7 ⟨v7,x7,s7,c7,rfl,eb,ih,ii,d2,ij,ik,bm⟩
  refine⟨_,rfl,?_⟩
  have il:=eb.size
  have im:At [g] w w7:=bk.trans eb
  have io:=d2.1
  have hfs:=bm.1
  have hff:=bm.2
  exact Ac 1 Z<|A1<|Ao<|Ah [6] Z v7 Z ⟨v7,x7,s7,c7,rfl,im,ih,ii,(by assumption),oM,oM,(by rw[hff,if_pos oM];exact CW oM oM)⟩
 refine Al false Z Z (A6 ea) Aa<|Aj<|Ai Z<|A2<|gK [0,0,0,2,0,0,0,4] Z<|Ad 1 Z<|AV Z Aa<|Ak (p:=zP g) 2 M7 Z Z Aa<|Af (p:=An (zP g) 2) (.inr Z) (zI (s0:Int)) AC Z (b0.ldp (i:=2) sM) Aa<|AQ ((s0+1:Nat):Int) Z Z (Bi oM oM) Aa<|AV Z Aa<|Ak (p:=zP g) 2 M7 Z Z Aa (Bm (k:=2) (w:=w) HL Z Z ⟨rfl,rfl⟩ b0 sM Aa fun f1 bn ip a7=>?_)
 replace a7:BX f1.heap g [pp,zI (n:Int),zI ((s0+1:Nat):Int),zI c0]:=a7
 have a0:At [g] w f1:=bk.trans bn
 have ec:=bn.size
 refine Aj<|A0<|gK [0,0,0,2] Z ?_
 have hc00:c0=0:=by omega
 have hs1:s0+1≤3000:=by omega
 refine Ad 1 Z<|AF (hex.isPtr) Z Aa ?_
 obtain⟨cs12,d3,a2⟩:=RN.at (Ax _) hex
 obtain⟨dd12,a1,iq,rfl,a3⟩:=RX.of d3
 have bo:=a3.rn.lenle
 unfold maxLen at bo
 refine AE (p:=ve) 0 Br Z (a2 _<|a0.sub<|B7 hgS) Aa<|Af (p:=An ve 0) (.inr Z) (zI ex.kind) AC Z ((a2 _<|a0.sub<|B7 hgS).ld (i:=0) EH) Aa<|Aj<|A3<|gK [0,0] Z ?_
 by_cases bp:ex.kind=((1:Nat):Int)
 ·refine Al true Z Z (A5 bp) Aa<|Ac 1 Z<|Ag Z<|A0<|AM _ [0,0,0,1,0,0,0,1,3,0] mixed (by kernel_rfl) ?_
  have hwk:=Mh hwf oM
  refine Ad 1 Z<|AF (hex.isPtr) Z Aa<|AE (p:=ve) 1 BF Z (a2 _<|a0.drew.sub<|B7 hgS) Aa<|Af (p:=An ve 1) (.inl Z) (zI ex.num) AC Z ((a2 _<|a0.drew.sub<|B7 hgS).ld (i:=1) EH) Aa<|Ad 1 Z<|AV Z Aa<|Ak (p:=zP g) 1 Oz Z Z Aa<|Af (p:=An (zP g) 1) (.inl Z) (zI (n:Int)) MM Z (a7.ldp (i:=1) sM) Aa ?_
  refine Ap 203 [] [] [zI ex.num,zI (n:Int)] Z Z MK Aa (Cx _ _ (n) a3.rng.num sD oM) ?_
  rintro l2 jw ⟨b1,rfl,ae,aa⟩
  refine⟨_,rfl,ae,?_⟩
  replace ae:=ae.of_drew
  have ed:=ae.size
  have d4:At [g] w jw:=a0.ext ae
  have an:=a7.ext ae
  replace aa:=aa.low (B':=f1.heap.size)<|A7 _
  exact Ac 1 Z<|A1<|AG<|Ao<|Ah [6] Z b1 Z ⟨b1,cst n ex.num,s0+1,c0,rfl,d4,an,RN.of_fr1 aa fun b hb=>zH<|hS b hb,(by exact Et (CI.2 oM)),oM,oM,(by exact Fh hc00 hs1 oM)⟩
 refine Al false Z Z (A6 bp) Aa<|Ac 1 Z<|Ai Z<|gK [0,0] Z ?_
 by_cases bq:ex.kind=((2:Nat):Int)
 ·refine Al true Z Z (A5 bq) Aa<|Ac 1 Z<|Ag Z<|gK [0,0,0,0,2,0,2,0] Z ?_
  have hwk:=Mi hwf oM
  refine Ad 2 Z<|AF (hex.isPtr) Z Aa<|AE (p:=ve) 1 BF Z (a2 _<|a0.sub<|B7 hgS) Aa<|Af (p:=An ve 1) (.inr Z) (zI ex.num) AC Z ((a2 _<|a0.sub<|B7 hgS).ld (i:=1) EH) Aa<|Aw (v:=vv) ((ex.num).toNat) Bx AT Z Z henv.slL oM sD Aa ?_
  obtain⟨ba,d5,br⟩:=RN.getL (w:=w) g1 [] (k:=(ex.num).toNat) henv sD
  have bs:=br.lenL
  unfold maxLen at bs
  exact Af (p:=Ay vv ((ex.num).toNat) 1) (.inr Z) ba B6 Z (d5 _<|a0.sub<|B7 hgS) Aa<|Ac 1 Z<|A1<|AG<|Ao<|Ah [6] Z ba Z ⟨ba,env.getD ((ex.num).toNat) [],s0+1,c0,rfl,a0,a7,br.chg g1<|a0.sub<|B7 hgS,(by exact hse _ oM),oM,oM,(by exact Fi hc00 hs1 oM)⟩
 refine Al false Z Z (A6 bq) Aa<|Ac 1 Z<|Ai Z<|gK [0,0] Z ?_
 by_cases bt:ex.kind=((7:Nat):Int)
 ·refine Al true Z Z (A5 bt) Aa<|Ac 1 Z<|Ag Z<|gK [0,0,0,0,2,0,0,4,3,0] Z ?_
  have hwk:=Oh hwf oM
  refine Ad 2 Z<|AF (hex.isPtr) Z Aa<|AE (p:=ve) 4 Bc Z (a2 _<|a0.sub<|B7 hgS) Aa<|Af (p:=An ve 4) (.inr Z) a1 Bf Z ((a2 _<|a0.sub<|B7 hgS).ld (i:=4) EH) Aa<|Aw (v:=a1) 0 CR Bj Z Z a3.rn.isSl Z sD Aa<|Ad 1 Z ?_
  refine AD 167 [] [] [zP g,Ay a1 0 5,vv] Z Z Iq Aa (IH2 dd12 oM _ S g pp dp (n) (s0+1) (c0) (p) (Ay a1 0 5) (ex.kids.getD 0 Ex.zero) vv (env) (fun b hb=>(by have:=hS b hb;omega:b<f1.heap.size)) hgS a7 (hp.chg (AS<|AN dp)<|a0.sub<|B7 hgS) oM oM oM (RN.ptr (Ax dd12) (by decide) Ex.zero (a3.rn.chg (Am<|Ax dd12)<|a0.sub<|B7 hgS) sD) (henv.chg g2<|a0.sub<|B7 hgS) hqenv hvp oM JB hse OH) ?_
  rintro l3 jx ⟨jy,jz,k0,k1,rfl,bu,d6,bv,bw,ee,ef,eg⟩
  refine⟨_,rfl,?_⟩
  have eh:=bu.size
  have d7:At [g] w jx:=a0.trans bu
  have ei:=bw.1
  refine Ap 204 [] [] [jy,zI ((1000002:Nat):Int)] Z Z UM Aa (FL _ _ _ _ (bv).rd oM oM) ?_
  rintro l4 k2 ⟨b2,rfl,aj,bb⟩
  refine⟨_,rfl,aj,?_⟩
  have ej:=aj.size
  have d8:At [g] w k2:=d7.ext aj
  have ao:=d6.ext aj
  have ir:=bv.ext g1 aj
  exact Ac 1 Z<|A1<|AG<|Ao<|Ah [6] Z b2 Z ⟨b2,scl jz ((1000002:Nat):Int),k0,k1,rfl,d8,ao,RN.of_fr1 bb fun b hb=>zH<|hS b hb,(by rw[OG];exact Ml (by assumption)),oM,oM,(by exact HE hc00 hs1 oM (Zn oM ‹AL (go c0<|CJ _ _ (ex.kids.getD 0 _) _ _) _ _ _›) (fun h0=>by rw[h0,OG];exact GV oM) (fun _=>rfl))⟩
 refine Al false Z Z (A6 bt) Aa<|Ac 1 Z<|Ai Z<|gK [0,0] Z ?_
 by_cases bx:ex.kind=((8:Nat):Int)
 ·refine Al true Z Z (A5 bx) Aa<|Ac 1 Z<|Ag Z<|A0<|gK [0,0,0,0,2,0,0,4,0,2,0] Z ?_
  have hwk:=Pe hwf oM
  refine Ad 2 Z<|AF (hex.isPtr) Z Aa<|AE (p:=ve) 4 Bc Z (a2 _<|a0.sub<|B7 hgS) Aa<|Af (p:=An ve 4) (.inr Z) a1 Bf Z ((a2 _<|a0.sub<|B7 hgS).ld (i:=4) EH) Aa<|Aw (v:=a1) 0 CR Bj Z Z a3.rn.isSl Z sD Aa<|Ad 1 Z ?_
  refine AD 167 [] [] [zP g,Ay a1 0 5,vv] Z Z Iq Aa (IH2 dd12 oM _ S g pp dp (n) (s0+1) (c0) (p) (Ay a1 0 5) (ex.kids.getD 0 Ex.zero) vv (env) (fun b hb=>(by have:=hS b hb;omega:b<f1.heap.size)) hgS a7 (hp.chg (AS<|AN dp)<|a0.sub<|B7 hgS) oM oM oM (RN.ptr (Ax dd12) (by decide) Ex.zero (a3.rn.chg (Am<|Ax dd12)<|a0.sub<|B7 hgS) sD) (henv.chg g2<|a0.sub<|B7 hgS) hqenv hvp oM JB hse OH) ?_
  rintro l5 fx ⟨jg,jh,ji,jj,rfl,bz,c3,ap,c4,ek,el,en⟩
  refine⟨_,rfl,?_⟩
  have eo:=bz.size
  have a5:At [g] w fx:=a0.trans bz
  have ep:=c4.1
  refine Aw (v:=jg) 0 Bt BG Z Z ap.slL Z sD Aa ?_
  have d9:=RN.getI (w:=fx) (k:=0) ap sD
  refine Af (p:=Ay jg 0 1) (.inr Z) (zI<|jh.getD 0 0) AC Z (d9.1 _<|At.refl _ _) Aa ?_
  by_cases c5:jh.getD 0 0=((0:Nat):Int)
  ·refine Al true Z Z (A5 c5) Aa<|Aj<|Ag Z<|gK [0,0,0,0,2,0,0,4,0] Z<|Ad 2 Z<|AF (hex.isPtr) Z Aa<|AE (p:=ve) 4 Bc Z (a2 _<|a5.sub<|B7 hgS) Aa<|Af (p:=An ve 4) (.inr Z) a1 Bf Z ((a2 _<|a5.sub<|B7 hgS).ld (i:=4) EH) Aa<|Aw (v:=a1) 1 CR Bj Z Z a3.rn.isSl Z sD Aa ?_
   refine Ad 1 Z ?_
   refine AD 167 [] [] [zP g,Ay a1 1 5,vv] Z Z Iq Aa (IH2 dd12 oM _ S g pp dp (n) (ji) (jj) (p) (Ay a1 1 5) (ex.kids.getD 1 Ex.zero) vv (env) (fun b hb=>(by have:=hS b hb;omega:b<fx.heap.size)) hgS c3 (hp.chg (AS<|AN dp)<|a5.sub<|B7 hgS) oM oM oM (RN.ptr (Ax dd12) (by decide) Ex.zero (a3.rn.chg (Am<|Ax dd12)<|a5.sub<|B7 hgS) sD) (henv.chg g2<|a5.sub<|B7 hgS) hqenv hvp oM JB hse (zH<|CS (l:=ex.kids) (k:=1) oM)) ?_
   rintro l6 k3 ⟨jk,k4,k5,k6,rfl,bc,da,db,c6,eq,er,es⟩
   refine⟨_,rfl,?_⟩
   have et:=bc.size
   have dc:At [g] w k3:=a5.trans bc
   have is:=ap.run g1 hgS bc
   have eu:=c6.1
   exact Ac 1 Z<|A1<|Ao<|AG<|Ao<|Ah [6] Z jk Z ⟨jk,k4,k5,k6,rfl,dc,da,db,(by assumption),oM,oM,Vd⟩
  refine Al false Z Z (A6 c5) Aa<|Aj<|Ai Z<|A2<|gK [0,0,0,0,2,0,0,4,0] Z<|Ad 2 Z<|AF (hex.isPtr) Z Aa<|AE (p:=ve) 4 Bc Z (a2 _<|a5.sub<|B7 hgS) Aa<|Af (p:=An ve 4) (.inr Z) a1 Bf Z ((a2 _<|a5.sub<|B7 hgS).ld (i:=4) EH) Aa ?_
  refine Aw (v:=a1) 2 CR Bj Z Z a3.rn.isSl Z sD Aa<|Ad 1 Z ?_
  refine AD 167 [] [] [zP g,Ay a1 2 5,vv] Z Z Iq Aa (IH2 dd12 oM _ S g pp dp (n) (ji) (jj) (p) (Ay a1 2 5) (ex.kids.getD 2 Ex.zero) vv (env) (fun b hb=>(by have:=hS b hb;omega:b<fx.heap.size)) hgS c3 (hp.chg (AS<|AN dp)<|a5.sub<|B7 hgS) oM oM oM (RN.ptr (Ax dd12) (by decide) Ex.zero (a3.rn.chg (Am<|Ax dd12)<|a5.sub<|B7 hgS) sD) (henv.chg g2<|a5.sub<|B7 hgS) hqenv hvp oM JB hse (zH<|CS (l:=ex.kids) (k:=2) oM)) ?_
  rintro l7 k7 ⟨jl,k8,k9,ka,rfl,bd,dd,de,c8,ev,ew,ey⟩
  refine⟨_,rfl,?_⟩
  have ez:=bd.size
  have df:At [g] w k7:=a5.trans bd
  have it:=ap.run g1 hgS bd
  have g0:=c8.1
  exact Ac 1 Z<|A1<|AG<|Ao<|Ah [6] Z jl Z ⟨jl,k8,k9,ka,rfl,df,dd,de,(by assumption),oM,oM,Vd⟩
 refine Al false Z Z (A6 bx) Aa<|Ac 1 Z<|Ai Z<|gK [0,0] Z ?_
 by_cases c9:ex.kind=((9:Nat):Int)
 ·refine Al true Z Z (A5 c9) Aa<|Ac 1 Z<|Ag Z<|gK [0,0,0,0,2,0,0,4,0] Z ?_
  have hwk:=Mj hwf oM
  refine Ad 2 Z<|AF (hex.isPtr) Z Aa<|AE (p:=ve) 4 Bc Z (a2 _<|a0.sub<|B7 hgS) Aa<|Af (p:=An ve 4) (.inr Z) a1 Bf Z ((a2 _<|a0.sub<|B7 hgS).ld (i:=4) EH) Aa<|Aw (v:=a1) 0 CR Bj Z Z a3.rn.isSl Z sD Aa<|Ad 1 Z ?_
  refine AD 167 [] [] [zP g,Ay a1 0 5,vv] Z Z Iq Aa (IH2 dd12 oM _ S g pp dp (n) (s0+1) (c0) (p) (Ay a1 0 5) (ex.kids.getD 0 Ex.zero) vv (env) (fun b hb=>(by have:=hS b hb;omega:b<f1.heap.size)) hgS a7 (hp.chg (AS<|AN dp)<|a0.sub<|B7 hgS) oM oM oM (RN.ptr (Ax dd12) (by decide) Ex.zero (a3.rn.chg (Am<|Ax dd12)<|a0.sub<|B7 hgS) sD) (henv.chg g2<|a0.sub<|B7 hgS) hqenv hvp oM JB hse OH) ?_
  rintro l8 jm ⟨jn,jo,kb,kc,rfl,ca,dg,cb,cc,g3,g4,g5⟩
  refine⟨_,rfl,?_⟩
  have g6:=ca.size
  have aq:At [g] w jm:=a0.trans ca
  have g7:=cc.1
  refine Ac 1 Z<|A0<|AM _ [0,0,0,0,1,0,0,0,3,4,0] mixed (by kernel_rfl)<|Ad 2 Z<|AF (hex.isPtr) Z Aa<|AE (p:=ve) 4 Bc Z (a2 _<|aq.drew.sub<|B7 hgS) Aa<|Af (p:=An ve 4) (.inl Z) a1 Bf Z ((a2 _<|aq.drew.sub<|B7 hgS).ld (i:=4) EH) Aa<|Aw (v:=a1) 1 CR Bj Z Z a3.rn.isSl Z sD Aa<|Ad 2 Z ?_
  refine Ap 205 [] [] [vv,jn] Z Z dC Aa (No _ S vv (env) jn (jo) (fun b hb=>(by have:=hS b hb;omega:b<jm.heap.size)) (henv.chg g2<|aq.drew.sub<|B7 hgS) hqenv cb oM) ?_
  rintro l9 jp ⟨jq,rfl,ab,cd,ce⟩
  refine⟨_,rfl,ab,?_⟩
  replace ab:=ab.of_drew
  have g8:=ab.size
  have be:At [g] w jp:=aq.ext ab
  have ar:=dg.ext ab
  have dh:=cb.ext g1 ab
  refine AD 167 [] [] [zP g,Ay a1 1 5,jq] Z Z Iq Aa (IH2 dd12 oM _ S g pp dp (n) (kb) (kc) (p) (Ay a1 1 5) (ex.kids.getD 1 Ex.zero) jq (env++[jo]) (fun b hb=>(by have:=hS b hb;omega:b<jp.heap.size)) hgS ar (hp.chg (AS<|AN dp)<|be.sub<|B7 hgS) oM oM oM (RN.ptr (Ax dd12) (by decide) Ex.zero (a3.rn.chg (Am<|Ax dd12)<|be.sub<|B7 hgS) sD) cd ce hvp oM (by have h9:=HC hwf oM oM;rw[z4,zd];exact h9) (by exact hse.snoc (by assumption)) (by have:=CS (l:=ex.kids) (k:=1) oM;rw[z4,zd];omega)) ?_
  rintro la kd ⟨jr,ke,kf,kg,rfl,au,di,dj,cf,g9,ga,gb⟩
  refine⟨_,rfl,?_⟩
  have gc:=au.size
  have dk:At [g] w kd:=be.trans au
  have iu:=dh.run g1 hgS au
  have iv:=cd.run g2 hgS au
  have gd:=cf.1
  exact Ac 1 Z<|A1<|AG<|Ao<|Ah [6] Z jr Z ⟨jr,ke,kf,kg,rfl,dk,di,dj,(by assumption),oM,oM,(by exact Fl hc00 hs1 oM oM ‹AL (go c0<|CJ _ _ (ex.kids.getD 0 _) _ _) _ _ _› (by assumption))⟩
 refine Al false Z Z (A6 c9) Aa<|Ac 1 Z<|Ai Z<|A0<|gK [0,0] Z ?_
 by_cases cg:ex.kind=((10:Nat):Int)
 ·refine Al true Z Z (A5 cg) Aa<|Ac 1 Z<|Ag Z<|A2<|Ag Z<|gK [0,0,0,4,0] Z<|Ad 3 Z<|AD 206 [] [] [zP g,ve,vv] Z Z Yq Aa (Vc F dex IH1 IH2 _ S g pp dp (n) (s0+1) (c0) (p) ve (ex) vv (env) (fun b hb=>(by have:=hS b hb;omega:b<f1.heap.size)) hgS a7 (hp.chg (AS<|AN dp)<|a0.sub<|B7 hgS) oM oM oM (hex.chg (AS<|Ax dex)<|a0.sub<|B7 hgS) (henv.chg g2<|a0.sub<|B7 hgS) hqenv hvp oM hwf hse oM oM) ?_
  rintro lb kh ⟨js,ki,kj,kk,rfl,ch,dl,dm,ci,ge,gf,gg⟩
  refine⟨_,rfl,?_⟩
  have gh:=ch.size
  have dn:At [g] w kh:=a0.trans ch
  have gi:=ci.1
  exact Ac 1 Z<|A1<|AG<|Ao<|Ah [6] Z js Z ⟨js,ki,kj,kk,rfl,dn,dl,dm,(by assumption),oM,oM,(by exact NM hc00 hs1 oM (by assumption))⟩
 refine Al false Z Z (A6 cg) Aa<|Ac 1 Z<|Ai Z<|Ab _ [0,0] Z ?_
 by_cases cj:ex.kind=((11:Nat):Int)
 ·refine Al true Z Z (A5 cj) Aa<|Ac 1 Z<|Ag Z<|gK [0,0,0,4,0] Z<|Ad 3 Z<|AD 206 [] [] [zP g,ve,vv] Z Z Yq Aa (Vc F dex IH1 IH2 _ S g pp dp (n) (s0+1) (c0) (p) ve (ex) vv (env) (fun b hb=>(by have:=hS b hb;omega:b<f1.heap.size)) hgS a7 (hp.chg (AS<|AN dp)<|a0.sub<|B7 hgS) oM oM oM (hex.chg (AS<|Ax dex)<|a0.sub<|B7 hgS) (henv.chg g2<|a0.sub<|B7 hgS) hqenv hvp oM hwf hse oM oM) ?_
  rintro lc kl ⟨jt,km,ko,kp,rfl,ck,dq,dr,cl,gj,gk,gl⟩
  refine⟨_,rfl,?_⟩
  have gm:=ck.size
  have ds:At [g] w kl:=a0.trans ck
  have gn:=cl.1
  exact Ac 1 Z<|A1<|AG<|Ao<|Ah [6] Z jt Z ⟨jt,km,ko,kp,rfl,ds,dq,dr,(by assumption),oM,oM,(by exact NM hc00 hs1 oM (by assumption))⟩
 refine Al false Z Z (A6 cj) Aa<|Ac 1 Z<|Ai Z<|A2<|gK [0,0,0,0,2,0,0,4,0] Z ?_
 have hkk:ex.kind=3∨ex.kind=4∨ex.kind=5∨ex.kind=6:=Z7 hwf oM
 have j4:ex.kids.length=2:=Jm hwf hkk
 have j5:=CS (l:=ex.kids) (k:=0) oM
 have j6:=CS (l:=ex.kids) (k:=1) oM
 refine Ad 2 Z<|AF (hex.isPtr) Z Aa<|AE (p:=ve) 4 Bc Z (a2 _<|a0.sub<|B7 hgS) Aa<|Af (p:=An ve 4) (.inr Z) a1 Bf Z ((a2 _<|a0.sub<|B7 hgS).ld (i:=4) EH) Aa<|Aw (v:=a1) 0 CR Bj Z Z a3.rn.isSl Z sD Aa<|Ad 1 Z ?_
 refine AD 167 [] [] [zP g,Ay a1 0 5,vv] Z Z Iq Aa (IH2 dd12 oM _ S g pp dp (n) (s0+1) (c0) (p) (Ay a1 0 5) (ex.kids.getD 0 Ex.zero) vv (env) (fun b hb=>(by have:=hS b hb;omega:b<f1.heap.size)) hgS a7 (hp.chg (AS<|AN dp)<|a0.sub<|B7 hgS) oM oM oM (RN.ptr (Ax dd12) (by decide) Ex.zero (a3.rn.chg (Am<|Ax dd12)<|a0.sub<|B7 hgS) sD) (henv.chg g2<|a0.sub<|B7 hgS) hqenv hvp oM JB hse OH) ?_
 rintro lf ju ⟨j8,j9,kq,kr,rfl,cm,dt,du,b3,gp,gq,cn⟩
 refine⟨_,rfl,?_⟩
 have gr:=cm.size
 have af:At [g] w ju:=a0.trans cm
 have gs:=b3.1
 have hra:=cn
 have co:=b3
 refine Ac 1 Z<|gK [0,0,0,0,2,0,0,4,0] Z<|Ad 2 Z<|AF (hex.isPtr) Z Aa<|AE (p:=ve) 4 Bc Z (a2 _<|af.sub<|B7 hgS) Aa<|Af (p:=An ve 4) (.inr Z) a1 Bf Z ((a2 _<|af.sub<|B7 hgS).ld (i:=4) EH) Aa<|Aw (v:=a1) 1 CR Bj Z Z a3.rn.isSl Z sD Aa<|Ad 1 Z ?_
 refine AD 167 [] [] [zP g,Ay a1 1 5,vv] Z Z Iq Aa (IH2 dd12 oM _ S g pp dp (n) (kq) (kr) (p) (Ay a1 1 5) (ex.kids.getD 1 Ex.zero) vv (env) (fun b hb=>(by have:=hS b hb;omega:b<ju.heap.size)) hgS dt (hp.chg (AS<|AN dp)<|af.sub<|B7 hgS) oM oM oM (RN.ptr (Ax dd12) (by decide) Ex.zero (a3.rn.chg (Am<|Ax dd12)<|af.sub<|B7 hgS) sD) (henv.chg g2<|af.sub<|B7 hgS) hqenv hvp oM JB hse (zH<|CS (l:=ex.kids) (k:=1) oM)) ?_
 rintro lg ja ⟨f4,f2,fe,f3,rfl,bf,ac,a6,b4,gt,gu,cp⟩
 refine⟨_,rfl,?_⟩
 have gv:=bf.size
 have a4:At [g] w ja:=af.trans bf
 have a8:=du.run g1 hgS bf
 have cq:=b4.1
 have hrb:=cp
 have j7:=b4
 have hlb:=cq
 have hzz:f2.getD 0 0=0∨¬f2.getD 0 0=0:=Decidable.em _
 refine Ac 1 Z<|A0<|A3<|gK [0,0,0,2,0,0] Z<|Ad 1 Z<|AF (hex.isPtr) Z Aa<|AE (p:=ve) 0 Br Z (a2 _<|a4.sub<|B7 hgS) Aa<|Af (p:=An ve 0) (.inr Z) (zI ex.kind) AC Z ((a2 _<|a4.sub<|B7 hgS).ld (i:=0) EH) Aa ?_
 by_cases cr:ex.kind=((3:Nat):Int)
 ·refine Al true Z Z (A5 cr) Aa<|Ac 1 Z<|Ag Z<|gK [0,0,3,0] Z<|Ad 2 Z<|Ap 207 [] [] [j8,f4] Z Z J8 Aa (C6 _ _ _ _ _ (a8).rd (a6).rd oM oM) ?_
  rintro lh ks ⟨b5,rfl,ag,bg⟩
  refine⟨_,rfl,ag,?_⟩
  have gw:=ag.size
  have dv:At [g] w ks:=a4.ext ag
  have av:=ac.ext ag
  have iw:=a8.ext g1 ag
  have ix:=a6.ext g1 ag
  exact Ac 1 Z<|A1<|AG<|Ao<|Ah [6] Z b5 Z ⟨b5,Cq j9 f2,fe,f3,rfl,dv,av,RN.of_fr1 bg fun b hb=>zH<|hS b hb,(by exact Hf co),oM,oM,(by exact HE hc00 hs1 oM (KY oM hra hrb) (fun h0=>by rw[h0];exact GS oM) (fun _=>rfl))⟩
 refine Al false Z Z (A6 cr) Aa<|Ac 1 Z<|Ai Z<|gK [0,0,0,2,0,0] Z<|Ad 1 Z<|AF (hex.isPtr) Z Aa<|AE (p:=ve) 0 Br Z (a2 _<|a4.sub<|B7 hgS) Aa<|Af (p:=An ve 0) (.inr Z) (zI ex.kind) AC Z ((a2 _<|a4.sub<|B7 hgS).ld (i:=0) EH) Aa ?_
 by_cases cs:ex.kind=((4:Nat):Int)
 ·refine Al true Z Z (A5 cs) Aa<|Ac 1 Z<|Ag Z<|gK [0,0,3,0] Z<|Ad 2 Z<|Ap 208 [] [] [j8,f4] Z Z PH Aa (E1 _ _ _ _ _ (a8).rd (a6).rd oM oM oM) ?_
  rintro li kt ⟨b6,rfl,ah,bh⟩
  refine⟨_,rfl,ah,?_⟩
  have gx:=ah.size
  have dw:At [g] w kt:=a4.ext ah
  have aw:=ac.ext ah
  have iy:=a8.ext g1 ah
  have iz:=a6.ext g1 ah
  exact Ac 1 Z<|A1<|AG<|Ao<|Ah [6] Z b6 Z ⟨b6,EK j9 f2,fe,f3,rfl,dw,aw,RN.of_fr1 bh fun b hb=>zH<|hS b hb,(by exact Mk co),oM,oM,(by exact HE hc00 hs1 oM (KY oM hra hrb) (fun h0=>by rw[h0];exact GT oM) (fun _=>rfl))⟩
 refine Al false Z Z (A6 cs) Aa<|Ac 1 Z<|Ai Z<|gK [0,0,0,2,0,0] Z<|Ad 1 Z<|AF (hex.isPtr) Z Aa<|AE (p:=ve) 0 Br Z (a2 _<|a4.sub<|B7 hgS) Aa<|Af (p:=An ve 0) (.inr Z) (zI ex.kind) AC Z ((a2 _<|a4.sub<|B7 hgS).ld (i:=0) EH) Aa ?_
 by_cases ct:ex.kind=((5:Nat):Int)
 ·refine Al true Z Z (A5 ct) Aa<|Ac 1 Z<|Ag Z<|gK [0,0,3,0] Z<|Ad 2 Z<|Ap 209 [] [] [j8,f4] Z Z PI Aa (E2 _ _ _ _ _ (a8).rd (a6).rd oM oM) ?_
  rintro lj ku ⟨b7,rfl,ai,bi⟩
  refine⟨_,rfl,ai,?_⟩
  have gy:=ai.size
  have dx:At [g] w ku:=a4.ext ai
  have ax:=ac.ext ai
  have j0:=a8.ext g1 ai
  have j1:=a6.ext g1 ai
  exact Ac 1 Z<|A1<|AG<|Ao<|Ah [6] Z b7 Z ⟨b7,Ce j9 f2,fe,f3,rfl,dx,ax,RN.of_fr1 bi fun b hb=>zH<|hS b hb,(by exact Hg co),oM,oM,(by exact HE hc00 hs1 oM (KY oM hra hrb) (fun h0=>by rw[h0];exact GU oM) (fun _=>rfl))⟩
 refine Al false Z Z (A6 ct) Aa<|Ac 1 Z<|Ai Z<|gK [0,0,0,2,0,0,0,0,2,0,0,0] Z<|Ad 1 Z<|AV Z Aa<|Ak (p:=zP g) 3 HO Z Z Aa<|Af (p:=An (zP g) 3) (.inr Z) (zI f3) AC Z (ac.ldp (i:=3) sM) Aa ?_
 by_cases cu:f3≠((0:Nat):Int)
 ·refine B2 true Z Z (A5 cu) Aa<|Ac 7 Z<|Ag Z<|gK [0,4,0] Z<|Ad 1 Z<|AD 202 [] [] [zP g,zI ((6:Nat):Int)] Z Z RR Aa (Dj _ S g pp dp (n) (fe) (f3) (p) ((6:Nat):Int) (fun b hb=>(by have:=hS b hb;omega:b<ja.heap.size)) hgS ac (hp.chg (AS<|AN dp)<|a4.sub<|B7 hgS) oM oM oM oM oM) ?_
  rintro lk kv ⟨jv,kw,kx,ky,rfl,ay,dy,dz,cv,gz,i0,b8⟩
  refine⟨_,rfl,?_⟩
  have i1:=ay.size
  have e0:At [g] w kv:=a4.trans ay
  have i2:=a8.run g1 hgS ay
  have i3:=a6.run g1 hgS ay
  have i4:=cv.1
  have hfs:=b8.1
  have hff:=b8.2
  exact Ac 1 Z<|A1<|AG<|Ao<|Ah [6] Z jv Z ⟨jv,kw,kx,ky,rfl,e0,dy,dz,(by assumption),oM,oM,(by rw[hfs];exact HE hc00 hs1 oM (KY oM hra hrb) (fun h0=>absurd h0 oM) (fun h0=>by rw[hff,if_neg h0]))⟩
 refine B2 false Z Z (A6 cu) Aa<|Ad 2 Z<|Aw (v:=f4) 0 Bt BG Z Z a6.slL Z (by rw[hlb];omega) (Ae (e:=175) Z Z Z) ?_
 have cw:=RN.getI (w:=ja) (k:=0) a6 (by rw[hlb];omega)
 refine Af (p:=Ay f4 0 1) (.inr Z) (zI<|f2.getD 0 0) AC Z (cw.1 _<|At.refl _ _) (Ae (e:=175) Z Z Z) ?_
 by_cases b9:f2.getD 0 0=((0:Nat):Int)
 ·refine Al true Z Z (A5 b9) (Ae (e:=175) Z Z Z)<|Ac 2 Z<|Ag Z<|gK [0,4,0] Z<|Ad 1 Z<|AD 202 [] [] [zP g,zI ((6:Nat):Int)] Z Z RR Aa (Dj _ S g pp dp (n) (fe) (f3) (p) ((6:Nat):Int) (fun b hb=>(by have:=hS b hb;omega:b<ja.heap.size)) hgS ac (hp.chg (AS<|AN dp)<|a4.sub<|B7 hgS) oM oM oM oM oM) ?_
  rintro kz jb ⟨fs,jc,jd,je,rfl,ad,cx,cy,bj,e1,e3,ak⟩
  refine⟨_,rfl,?_⟩
  have e4:=ad.size
  have cz:At [g] w jb:=a4.trans ad
  have i5:=a8.run g1 hgS ad
  have i6:=a6.run g1 hgS ad
  have e5:=bj.1
  have hfs:=ak.1
  have hff:=ak.2
  exact Ac 1 Z<|A1<|AG<|Ao<|Ah [6] Z fs Z ⟨fs,jc,jd,je,rfl,cz,cx,cy,(by assumption),oM,oM,(by rw[hfs];exact HE hc00 hs1 oM (KY oM hra hrb) (fun h0=>by rw[hff,if_pos h0];exact Fm (xs:=[_,_]) oM (hzz.resolve_right oM)) (fun h0=>by rw[hff,if_neg h0]))⟩
 refine Al false Z Z (A6 b9) (Ae (e:=175) Z Z Z)<|Ac 2 Z<|Ai Z<|A2<|gK [0,0,3,0] Z<|Ad 2 Z<|Ap 210 [] [] [j8,f4] Z Z UN Aa (H7 _ _ _ _ _ (a8).rd (a6).rd oM oM oM co.2) ?_
 rintro l0 jf ⟨al,rfl,a9,az⟩
 refine⟨_,rfl,a9,?_⟩
 have e6:=a9.size
 have d0:At [g] w jf:=a4.ext a9
 have am:=ac.ext a9
 have i7:=a8.ext g1 a9
 have i8:=a6.ext g1 a9
 exact Ac 1 Z<|A1<|Ah [6] Z al Z ⟨al,BT j9 f2,fe,f3,rfl,d0,am,RN.of_fr1 az fun b hb=>zH<|hS b hb,(by exact Gi co),oM,oM,(by exact HE hc00 hs1 oM (KY oM hra hrb) (fun h0=>by rw[h0];exact GW (xs:=[_,_]) oM (hzz.resolve_left oM)) (fun _=>rfl))⟩
theorem XE:∀F d,SV F d:=by
  intro F
  induction F using Nat.strongRecOn with
  |_ F ihF =>
    intro d
    induction d using Nat.strongRecOn with
    |_ d ihd =>
      intro w S g pp dp n s0 c0 p ve ex vv env hS hgS hB0 hp hn hs0 hc0 hex henv hqenv hvp hF hwf hse hdp
      exact JC w S F g pp dp n s0 c0 p d ve ex vv env hS hgS hB0 hp hn hs0 hc0 hex henv hqenv hvp hF hwf hse hdp ihF ihd
theorem ZM (F:Nat):SO F:=Va F fun d=>XE F d
theorem YG {p:Prop}(h:p:=by unfold maxLen;first|omega|assumption|(simp only[zb,z9,z4,z6,z5];omega)|(simp[zb,z9,z4,z6,z5];done)|(simp[zb,z9,z4,z6,z5];omega)):p:=h
theorem N1 (w:World)(dp:Nat)(vp:Value)(p:List Fn)(f:Int)(va:Value)(a:Sr)(hp:RN [] (rP (Jj dp)) w.heap vp p)(_hf:Bn f)(ha:Rd (B4 rI) w.heap va a)(hvp:FQ p)(hf:0≤f∧f<(p.length:Int))(hl:(a.length:Int)=(p.getD f.toNat Fn.zero).params)(hna:AX a=true) :
  Calls Tryz.prog 55 #[vp,zI f,va] w (fun e w'=>∃v0:Value,e=.returned (.tuple #[v0,zI ((NG p 1 f.toNat (Cw a):Nat):Int),zI (GL p f.toNat a)])∧AH w w'∧Fr (Bp rI 2) w.heap.size w'.heap.size w'.heap v0 (PS p f.toNat a)∧SF p f.toNat a∧NG p 1 f.toNat (Cw a)≤3000):=by
 refine Aq [vp,zI f,va] 73 Tryz.func55 Z Z sM ?_
 have cb:AH w w:=AH.refl w
 have dh:=ha.lenle
 have dt:=hvp.par f.toNat oM
 have du:=hvp.outs f.toNat oM
 refine gK [0,0,0] Z<|Ac 3 Z<|gK [0,0,3,0] Z<|Ad 1 Z ?_
 have bm:∀(vp:Value) (ap:∃b o,vp=.pointer (some ⟨b,o,none⟩)) (wq:World),(Instr.build 166 #[(0,vp),(1,zI ((1:Nat):Int))]).run Tryz.prog wq=.ok (.agg #[vp,zI ((1:Nat):Int),zI 0,zI 0]) wq:=by intro vp ap wq;obtain⟨b0,o0,rfl⟩:=ap;kernel_rfl
 refine BQ (ps:=#[(0,vp),(1,zI ((1:Nat):Int))]) (.agg #[vp,zI ((1:Nat):Int),zI 0,zI 0]) (by simp only[zc,zf,zh];rfl) (fun wq=>bm vp hp.isPtr wq) Aa (By (cs:=#[vp,zI ((1:Nat):Int),zI 0,zI 0]) Z Aa fun w2 bn ct bo=>?_)
 have bp:=bn.size
 have bq:=cb.trans bn
 replace bo:BX w2.heap w.heap.size [vp,zI ((1:Nat):Int),zI 0,zI 0]:=bo
 refine Ac 1 Z<|gK [3,0] Z (Cn (Bp rI 2) o1 Bx AT Aa fun v3 w3 bj cu cc=>?_)
 have br:=bj.size
 have cd:=bq.trans bj
 have b3:=bo.ext bj
 refine Ac 1 Z<|A0<|gL Z<|A3 ?_
 refine AU (S:=Nat×Value) (fun⟨k,vo⟩=>([(10,vo),(11,zI (k:Int)),(0,vp),(1,zI f),(2,va),(9,zP w.heap.size)])) (fun⟨k,vo⟩ W=>AH w W∧Fr (Bp (Bp rI 2) 27) w2.heap.size W.heap.size W.heap vo ((a.take k).map fun x=>[x])∧BX W.heap w.heap.size [vp,zI ((1:Nat):Int),zI 0,zI 0]∧k≤a.length∧w.heap.size<w2.heap.size∧w2.heap.size≤W.heap.size) (fun⟨k,vo⟩=>a.length-k) (0,v3) ⟨rfl,rfl,rfl,rfl,rfl,rfl,trivial⟩ ⟨cd,cc.up o2,b3,sD,oM,oM⟩ ?_
 clear cb ct bn cc cu bj br cd
 rintro⟨k,vo⟩ ρ5 w5 ⟨ag,a0,a2,ce,cv,cw⟩
 have bs:w.heap.size≤w5.heap.size:=ag.size
 have d9:=a2.lt
 refine A0<|gK [0,0,0,0] Z<|Ad 2 Z<|AR (v:=va) Bt Z ha.isSl Aa ?_
 by_cases cf:(k:Int)<(a.length:Int)
 ·refine AI true Z Z (A5 cf) Aa<|Aj<|Ag Z<|A2<|A0<|A3<|Ab _ [0,0,0,0,2,3,3,4,0] Z<|Ad 3 Z<|Aw (v:=va) k Bt BG Z Z ha.isSl Z sD Aa ?_
  refine Af (p:=Ay va k 1) (.inr Z) (zI<|a.getD k 0) AC Z (Bd ag (ha.getI sD).1) Aa ?_
  refine BA (u:=zI<|a.getD k 0) (B:=w5.heap.size) AJ Bt BG Z Z (Nb w5.heap.size w5.heap.size _ _ (ha.getI sD).2) (A7 _) Aa fun v9 w9 bk da cx=>?_
  have cy:=bk.size
  have cz:=ag.trans bk
  have ah:=a0.ext (o2) bk
  have ai:=a2.ext bk
  refine BA (u:=v9) (B:=w5.heap.size) o1 Bx AT Z Z cx (by first|exact A7 _|omega) Aa fun dj dv aj d0 bt=>?_
  have cg:=aj.size
  have b4:=cz.trans aj
  have aa:=ah.ext (o2) aj
  have ab:=ai.ext aj
  refine Gb o1 (v:=vo) (a:=dj) Bx AT Z Z Z aa oM bt oM oM sD YG Aa fun dk dm dw aw b5 bu=>?_
  have bv:AH w dm:=aw.below b4 (fun c hc=>A8 bq.size (b5 c hc).1) b4.size
  have ch:=aw.size
  have bw:=ab.chg aw fun hm=>zH<|b5 _ hm
  refine Ac 1 Z<|Ab _ [0,0,0] Z<|Ad 1 Z<|AQ ((k+1:Nat):Int) Z Z (Bi oM sD) Aa<|Ac 1 Z ?_
  exact⟨(k+1,dk),_,rfl,zR,⟨bv,(by rw[Hc 0 oM];exact bu.up o2),bw,sD,oM,oM⟩,zD⟩
 refine AI false Z Z (A6 cf) Aa<|Aj<|Ai Z<|A4<|AA<|AA<|Av<|gK [0,0,0,0,2,0,0,0,4,0] Z ?_
 have henv:(a.take k).map (fun x=>[x])=Cw a:=by rw[za oM];rfl
 have hle:((a.take k).map (fun x=>[x])).length=a.length:=by rw[henv];unfold Cw;rw[zg]
 refine Ad 2 Z<|AF (hp.isPtr) Z Aa ?_
 obtain⟨cs13,bx,b6⟩:=RN.at (AN _) hp
 obtain⟨ak,rfl,ax⟩:=RPr.of bx
 have aq:=ax.lenle
 unfold maxLen at aq
 refine AE (p:=vp) 0 BB Z (b6 _<|At.of_ext [] ag) Aa<|Af (p:=An vp 0) (.inr Z) ak C4 Z ((b6 _<|At.of_ext [] ag).ld (i:=0) (by simp[DR,DV])) Aa<|Ad 1 Z<|Aw (v:=ak) ((f).toNat) Gx Co Z Z ax.isSl oM sD Aa<|Ad 1 Z ?_
 refine AD 114 [] [] [zP w.heap.size,Ay ak ((f).toNat) 3,vo] Z Z Yi Aa (ZM f.toNat _ [w.heap.size] w.heap.size vp dp (1) (0) (0) (p) dp (Ay ak ((f).toNat) 3) (p.getD ((f).toNat) Fn.zero) vo ((a.take k).map fun x=>[x]) (fun b hb=>(by have:=A9 hb;omega:b<w5.heap.size)) (List.mem_singleton.2 Z) a2 ((hp.add (F:=[w.heap.size]) (AS<|AN dp) fun b hb=>zH<|A9 hb).ext (AS<|AN dp) ag) oM oM oM (RN.ptr (Az dp) (by decide) Fn.zero ((ax.add (F:=[w.heap.size]) (Am<|Az dp) fun b hb=>zH<|A9 hb).ext (Am<|Az dp) ag) sD) (RN.of_fr2 a0 fun b hb=>zH<|A9 hb) a0.cap hvp oM (by intro k9 bz;have h9:=hvp.wf f.toNat oM k9 bz;rw[hle];rw[hl];exact h9) (by rw[henv];exact CF hna) (by intro k9 bz;have:=hvp.deep f.toNat oM k9 bz;omega) oM) ?_
 rintro dx db ⟨dd,dc,dg,de,rfl,al,ay,c0,ac,b7,b8,b9⟩
 refine⟨_,rfl,?_⟩
 have ci:=al.size
 have ad:AH w db:=al.below ag (fun b hb=>by have:b=w.heap.size:=(by simpa using hb);omega) ag.size
 have az:=a0.chg (o2) al fun _ h=>zA h
 have ar:=ac.2.1
 have au:=ac.2.2
 have cj:=ac.1
 have av:=c0.rt g2
 have hRL:=b9
 rw[henv]at hRL
 have hCB:=b8
 have hEP:=SD.mk' hRL hCB b7 ar au
 have hNP:=SF.mk' hEP
 have hST:=hEP.steps
 have hXS:=au
 have hXL:=ar
 refine Ac 1 Z<|A0<|gK [0,0,0,2,0] Z<|Ad 1 Z<|AV Z Aa<|Ak (p:=zP w.heap.size) 3 HO Z Z Aa<|Af (p:=An (zP w.heap.size) 3) (.inr Z) (zI de) AC Z (ay.ldp (i:=3) sM) Aa ?_
 by_cases ba:de≠((0:Nat):Int)
 ·refine B2 true Z Z (A5 ba) Aa<|Aj<|Ag Z<|A0<|AM _ [3,0,0,0,1,0,0,0] mixed (by kernel_rfl) (Cn (rI) AJ Bt BG Aa fun di dy a4 d1 c1=>?_)
  replace a4:=a4.of_drew
  have ck:=a4.size
  have c2:=ad.trans a4
  have bl:=az.ext (o2) a4
  have d2:=av.ext g2 a4
  exact Ad 1 Z<|AV Z Aa<|Ak (p:=zP w.heap.size) 3 HO Z Z Aa<|Af (p:=An (zP w.heap.size) 3) (.inl Z) (zI de) AC Z (ay.ldp (i:=3) sM) Aa<|Ac 3 Z<|A1<|Ao<|Ah [6,7,8] Z (.tuple #[di,zI ((0:Nat):Int),zI de]) Z ⟨di,(by rw[R5<|Jn hRL oM,show GL p f.toNat a=_ from Il (Jn hRL oM)] <;> rfl),c2,(by rw[hNP.non (by rw[show GL p f.toNat a=_ from Il (Jn hRL oM)];omega)];exact(c1.up o1).low ad.size),hNP,hST⟩
 refine B2 false Z Z (A6 ba) Aa<|Aj<|Ai Z<|A2<|gK [3,0] Z (Cn (rI) AJ Bt BG Aa fun dn dz a5 c3 bb=>?_)
 have bc:=a5.size
 have bd:=ad.trans a5
 have am:=az.ext (o2) a5
 have an:=ay.ext a5
 have d3:=av.ext g2 a5
 refine Ac 1 Z<|A0<|gL Z<|A3 ?_
 refine AU (S:=Nat×Value) (fun⟨k,vo⟩=>([(13,vo),(14,zI (k:Int)),(9,zP w.heap.size),(12,dd)])) (fun⟨k,vo⟩ W=>AH w W∧Fr (Bp rI 2) db.heap.size W.heap.size W.heap vo (((dc).take k).map fun s=>s.getD 0 0)∧BX W.heap w.heap.size [vp,zI ((1:Nat):Int),zI (dg:Int),zI de]∧k≤(dc).length∧RT db.heap.size (B4<|B4 rI) W.heap dd dc∧db.heap.size≤W.heap.size∧w.heap.size<db.heap.size∧db.heap.size≤db.heap.size∧db.heap.size≤W.heap.size) (fun⟨k,vo⟩=>(dc).length-k) (0,dn) ⟨rfl,rfl,rfl,rfl,trivial⟩ ⟨bd,bb.up o1,an,sD,(by assumption),oM,oM,oM,oM⟩ ?_
 clear bp bq a2 a0 ag bs aq al az bb c3 a5 bc bd am
 rintro⟨k,vo⟩ ρ28 df ⟨b1,ae,a1,c4,a3,cl,cm,cn,co⟩
 have cp:w.heap.size≤df.heap.size:=b1.size
 have d4:=a1.lt
 refine A0<|gK [0,0,0,0] Z<|Ad 2 Z<|AR (v:=dd) Bx Z a3.slL Aa ?_
 by_cases be:(k:Int)<(dc.length:Int)
 ·refine AI true Z Z (A5 be) Aa<|Aj<|Ag Z<|A2<|A0<|A3<|Ab _ [0,0,0,0,2,0,2,3,4,0] Z ?_
  have hkx:=hXS k oM
  have hkl:=hkx.1
  refine Ad 3 Z<|Aw (v:=dd) k Bx AT Z Z a3.slL Z sD Aa ?_
  obtain⟨b2,c5,ao⟩:=RT.getL g1 [] (k:=k) a3 sD
  have bf:=ao.lenL
  unfold maxLen at bf
  refine Af (p:=Ay dd k 1) (.inr Z) b2 B6 Z c5 Aa<|Aw (v:=b2) 0 Bt BG Z Z ao.slL Z sD Aa ?_
  have bg:=RT.getI (k:=0) ao sD
  refine Af (p:=Ay b2 0 1) (.inr Z) (zI<|(dc.getD k []).getD 0 0) AC Z bg.1 Aa (BA (u:=zI<|(dc.getD k []).getD 0 0) (B:=df.heap.size) AJ Bt BG Z Z (Nb df.heap.size df.heap.size _ _ bg.2) (A7 _) Aa fun dq e0 a6 d5 bh=>?_)
  have cq:=a6.size
  have bi:=b1.trans a6
  have a7:=ae.ext (o1) a6
  have a8:=a1.ext a6
  have c6:=a3.ext g2 a6
  have c7:=ao.ext g1 a6
  refine GP (v:=vo) (a:=dq) Bt BG Z Z Z a7 oM bh.rd1 sD YG Aa fun dr ds e1 a9 af c8=>?_
  have c9:AH w ds:=a9.below bi (fun c hc=>A8 ad.size (af c hc).1) bi.size
  have cr:=a9.size
  have d6:=c6.chg g2 a9 fun c hc=>zH<|af c hc
  have d7:=c7.chg g1 a9 fun c hc=>zH<|af c hc
  have ca:=a8.chg a9 fun hm=>zH<|af _ hm
  have d8:=bh.chg (o1) a9 fun c hc=>zH<|af c hc
  refine Ac 1 Z<|Ab _ [0,0,0] Z<|Ad 1 Z<|AQ ((k+1:Nat):Int) Z Z (Bi oM sD) Aa<|Ac 1 Z ?_
  exact⟨(k+1,dr),_,rfl,zR,⟨c9,(by rw[Hc [] oM];exact c8.up o1),ca,sD,(by assumption),oM,oM,oM,oM⟩,zD⟩
 refine AI false Z Z (A6 be) Aa<|Aj<|Ai Z<|A4<|AA<|AA<|Av<|A0<|AM _ [0,0,0,0,1,0,0,0] mixed (by kernel_rfl)<|Ad 2 Z<|AV Z Aa<|Ak (p:=zP w.heap.size) 2 M7 Z Z Aa<|Af (p:=An (zP w.heap.size) 2) (.inl Z) (zI (dg:Int)) AC Z (a1.ldp (i:=2) sM) Aa<|Ac 3 Z<|A1 ?_
 exact Ah [6,7,8] Z (.tuple #[vo,zI (dg:Int),zI ((0:Nat):Int)]) Z ⟨vo,(by rw[R4<|Mm hRL oM,show GL p f.toNat a=_ from Mn (Mm hRL oM)] <;> rfl),b1.drew,(by have h:=(ae.up o1).low ad.size;unfold PS;rw[Kh<|Mm hRL oM];rwa [za oM]at h),hNP,hST⟩
theorem gB {p:List Fn}{f:Int}(h:(decide (((0:Nat):Int)≤f) && decide (f≤((p.length:Nat):Int)-1))=false):NN p f=false:=by
  have h':Ff f 0 (((p.length:Nat):Int)-1)=false:=h
  unfold NN;rw[h',Bool.false_and]
theorem eH {p:List Fn}{f:Int}(h:(decide (((0:Nat):Int)≤f) && decide (f≤((p.length:Nat):Int)-1))=true){b:Bool}(hb:b=(decide (1≤(p.getD f.toNat Fn.zero).params) && decide ((((p.getD f.toNat Fn.zero).outs.length:Nat):Int)=(p.getD f.toNat Fn.zero).params))):NN p f=b:=by
  have h':Ff f 0 (((p.length:Nat):Int)-1)=true:=h
  unfold NN;rw[h',hb,Bool.true_and]
theorem Qz {p:Prop}(h:p:=by first|exact AO (gB (Db (by assumption))).symm|exact AO (eH (Dp (by assumption)) (by rw[A5 (show 1≤(p.getD f.toNat Fn.zero).params by omega),Bool.true_and])).symm|exact AO (eH (Dp (by assumption)) (by rw[A6 (show ¬1≤(p.getD f.toNat Fn.zero).params by omega),Bool.false_and])).symm):p:=h
theorem JD {p:Prop}(h:p:=by simp[DR,DV]):p:=h
theorem Lz (w:World)(dp:Nat)(vp:Value)(p:List Fn)(f:Int)(hp:RN [] (rP (Jj dp)) w.heap vp p)(_hf:Bn f)(hz:PO p) :
  Calls Tryz.prog 137 #[vp,zI f] w (fun e w'=>e=.returned (.bool (NN p f))∧AH w w'):=by
 refine Aq [vp,zI f] 43 Tryz.func137 Z Z sM ?_
 have a0:AH w w:=AH.refl w
 refine gL Z<|A0<|gK [0,0,0,0,2,0,0,0,0] Z<|Ad 2 Z<|AF (hp.isPtr) Z Aa ?_
 obtain⟨cs1,ab,a2⟩:=RN.at (AN _) hp
 obtain⟨a1,rfl,a3⟩:=RPr.of ab
 have a5:=a3.lenle
 unfold maxLen at a5
 refine AE (p:=vp) 0 BB Z (a2 _<|At.of_ext [] a0) Aa<|Af (p:=An vp 0) (.inr Z) a1 C4 Z ((a2 _<|At.of_ext [] a0).ld (i:=0) JD) Aa<|AR (v:=a1) Gx Z a3.isSl Aa<|Bk ((p.length:Int)-1) Z Z (CM oM oM) Aa<|AB 94 [] [] [zI f,zI ((0:Nat):Int),zI ((p.length:Int)-1)] Z Z ED Aa (.bool (decide (((0:Nat):Int)≤f) && decide (f≤((p.length:Int)-1)))) (fun wq=>B9 wq _ _ _ _hf oM oM)<|Bo (!(decide (((0:Nat):Int)≤f) && decide (f≤((p.length:Int)-1)))) Z Z Aa<|Aj ?_
 cases a7:(!(decide (((0:Nat):Int)≤f) && decide (f≤((p.length:Int)-1))))
 ·refine Ai (by first|rfl|exact zW a7)<|A2<|A0<|AM _ [0,0,0,1,0,0,0,1,0,0,0,0,0,1,0,0,0,1,0,0,0,0,1,0,0,0,1,0,0,0] mixed (by kernel_rfl) ?_
  have ad:=Iw (Dp (by assumption):(decide (((0:Nat):Int)≤f) && decide (f≤(p.length:Int)-1))=true)
  refine Ad 1 Z<|AF (hp.isPtr) Z Aa<|AE (p:=vp) 0 BB Z (a2 _<|At.of_ext [] a0.drew) Aa<|Af (p:=An vp 0) (.inl Z) a1 C4 Z ((a2 _<|At.of_ext [] a0.drew).ld (i:=0) JD) Aa<|Ad 1 Z<|Aw (v:=a1) ((f).toNat) Gx Co Z Z a3.isSl oM sD Aa ?_
  obtain⟨cs4,ac,a4⟩:=a3.get (Az dp) Fn.zero (k:=(f).toNat) sD
  obtain⟨a8,rfl,a9⟩:=RF.of ac
  have a6:=a9.rn.lenle
  unfold maxLen at a6
  refine AE (p:=Ay a1 ((f).toNat) 3) 1 C9 Z (a4 _<|At.of_ext [] a0.drew) Aa<|Af (p:=An (Ay a1 ((f).toNat) 3) 1) (.inl Z) (zI<|(p.getD ((f).toNat) Fn.zero).params) AC Z ((a4 _<|At.of_ext [] a0.drew).ld (i:=1) JD) Aa ?_
  by_cases aa:((1:Nat):Int)≤(p.getD ((f).toNat) Fn.zero).params
  ·refine De true Z Z (A5 aa) Aa<|Ad 2 Z<|AF (hp.isPtr) Z (Ae (e:=23) Z Z Z)<|AE (p:=vp) 0 BB Z (a2 _<|At.of_ext [] a0.drew) (Ae (e:=23) Z Z Z)<|Af (p:=An vp 0) (.inl Z) a1 C4 Z ((a2 _<|At.of_ext [] a0.drew).ld (i:=0) JD) (Ae (e:=23) Z Z Z)<|Ad 1 Z ?_
   refine Aw (v:=a1) ((f).toNat) Gx Co Z Z a3.isSl oM sD (Ae (e:=23) Z Z Z)<|AE (p:=Ay a1 ((f).toNat) 3) 2 BU Z (a4 _<|At.of_ext [] a0.drew) (Ae (e:=23) Z Z Z)<|Af (p:=An (Ay a1 ((f).toNat) 3) 2) (.inl Z) a8 Bf Z ((a4 _<|At.of_ext [] a0.drew).ld (i:=2) JD) (Ae (e:=23) Z Z Z)<|AR (v:=a8) CR Z a9.rn.isSl (Ae (e:=23) Z Z Z)<|Ad 1 Z ?_
   refine AF (hp.isPtr) Z (Ae (e:=23) Z Z Z)<|AE (p:=vp) 0 BB Z (a2 _<|At.of_ext [] a0.drew) (Ae (e:=23) Z Z Z)<|Af (p:=An vp 0) (.inl Z) a1 C4 Z ((a2 _<|At.of_ext [] a0.drew).ld (i:=0) JD) (Ae (e:=23) Z Z Z)<|Ad 1 Z<|Aw (v:=a1) ((f).toNat) Gx Co Z Z a3.isSl oM sD (Ae (e:=23) Z Z Z) ?_
   refine AE (p:=Ay a1 ((f).toNat) 3) 1 C9 Z (a4 _<|At.of_ext [] a0.drew) (Ae (e:=23) Z Z Z)<|Af (p:=An (Ay a1 ((f).toNat) 3) 1) (.inl Z) (zI<|(p.getD ((f).toNat) Fn.zero).params) AC Z ((a4 _<|At.of_ext [] a0.drew).ld (i:=1) JD) (Ae (e:=23) Z Z Z)<|Al (decide (((((p.getD ((f).toNat) Fn.zero).outs).length:Nat):Int)=(p.getD ((f).toNat) Fn.zero).params)) Z Z Z (Ae (e:=23) Z Z Z)<|Ac 2 Z<|A1 ?_
   exact Ah [4] Z (.bool<|decide (((((p.getD ((f).toNat) Fn.zero).outs).length:Nat):Int)=(p.getD ((f).toNat) Fn.zero).params)) Z ⟨Qz,a0.drew⟩
  exact De false Z Z (A6 aa) Aa<|Ac 21 Z<|A1<|Ah [4] Z (.bool false) Z ⟨Qz,a0.drew⟩
 exact Ag (by first|rfl|exact zW a7)<|gL Z<|A1<|Ao<|Ah [4] Z (.bool false) Z ⟨Qz,a0⟩
theorem L7 (w:World)(dp:Nat)(vp:Value)(p:List Fn)(f:Int)(va:Value)(a:Sr)(n:Int)(hp:RN [] (rP (Jj dp)) w.heap vp p)(_hf:Bn f)(ha:Rd (B4 rI) w.heap va a)(_hn:Bn n)(hvp:FQ p)(hf:0≤f∧f<(p.length:Int))(hl:(a.length:Int)=(p.getD f.toNat Fn.zero).params)(hna:AX a=true)(hn:0≤n∧n≤40)(hou:((p.getD f.toNat Fn.zero).outs.length:Int)=(p.getD f.toNat Fn.zero).params) :
  Calls Tryz.prog 82 #[vp,zI f,va,zI n] w (fun e w'=>∃v0:Value,e=.returned (.tuple #[v0,zI (EP p f.toNat a n.toNat)])∧AH w w'∧Fr (Bp (Bp rI 2) 27) w.heap.size w'.heap.size w'.heap v0 (XQ p f.toNat a n.toNat)∧Qh p f.toNat a n.toNat):=by
 refine Aq [vp,zI f,va,zI n] 43 Tryz.func82 Z Z sM ?_
 have af:AH w w:=AH.refl w
 have bh:=ha.lenle
 have hpar:=hvp.par f.toNat oM
 refine gK [0,0] Z<|Ac 2 Z<|gK [0,3,3,0] Z<|Ad 1 Z<|Ap 83 [] [] [va] Z Z MH Aa (BY _ _ _ (ha.ext g1 af) oM) ?_
 rintro e1 w1 ⟨ag,rfl,ad,a5⟩
 refine⟨_,rfl,ad,?_⟩
 have ah:=ad.size
 have ai:=af.trans ad
 refine BA (u:=ag) (B:=w.heap.size) o1 Bx AT Z Z a5 ai.size Aa fun v2 w2 aj b8 au=>?_
 have ak:=aj.size
 have av:=ai.trans aj
 refine Ac 1 Z<|A0<|gL Z<|A3 ?_
 refine AU (S:=Nat×Value) (fun⟨k,vo⟩=>([(10,vo),(11,zI (k:Int)),(0,vp),(1,zI f),(3,zI n)])) (fun⟨k,vo⟩ W=>AH w W∧Fr (Bp (Bp rI 2) 27) w.heap.size W.heap.size W.heap vo (CD (k+1)<|Cr p f.toNat a)∧k≤n.toNat∧EP p f.toNat a k=0∧((Cr p f.toNat a k).length:Int)=(p.getD f.toNat Fn.zero).params∧AX (Cr p f.toNat a k)=true∧(∀j,j≤k→(Cr p f.toNat a j).length=a.length)) (fun⟨k,vo⟩=>n.toNat-k) (0,v2) ⟨rfl,rfl,rfl,rfl,rfl,trivial⟩ ⟨av,au.up o2,sD,(by rfl),hl,hna,(by intro j hj;rw[show j=0 from by omega];rfl)⟩ ?_
 clear af a5 ad ah ai au b8 aj ak av
 rintro⟨k,vo⟩ ρ3 w3 ⟨a9,a0,aw,hrk,hrl,hrn,hrj⟩
 have b9:w.heap.size≤w3.heap.size:=a9.size
 have hti:=C8 (f:=Cr p f.toNat a) (n:=k+1) (k:=k) [] oM
 have htl:(CD (k+1) (Cr p f.toNat a)).length=k+1:=by simp[CD]
 refine A0<|gK [0,0,0] Z<|Ad 2 Z ?_
 by_cases ax:(k:Int)<n
 ·refine AI true Z Z (A5 ax) Aa<|Aj<|Ag Z<|A2<|A0<|A3<|gK [0,0,0,0,0,2,3,0,0,0,0,0,0,0] Z<|Ad 4 Z<|Aw (v:=vo) k Bx AT Z Z a0.isSl Z sD Aa ?_
  obtain⟨ay,az,al⟩:=a0.rd2.get (k:=k) [] sD
  have ba:=al.lenle
  refine Af (p:=Ay vo k 1) (.inr Z) ay B6 Z az Aa<|Ap 55 [] [] [vp,zI f,ay] Z Z fI Aa (N1 _ dp vp (p) _ _ _ (hp.ext (AS<|AN dp) a9) _hf al hvp oM (by rw[hti];exact hrl) (by rw[hti];exact hrn)) ?_
  rintro e6 w6 ⟨a1,rfl,a8,aa,b0,b1⟩
  refine⟨_,rfl,a8,?_⟩
  have bb:=a8.size
  have am:=a9.trans a8
  have a4:=a0.ext (o2) a8
  have a6:=al.ext g1 a8
  have ab:=Bd a8 az
  refine Ad 1 Z<|AP (vs:=[a1,zI ((NG p 1 f.toNat (Cw<|(CD (k+1)<|Cr p f.toNat a).getD k []):Nat):Int),zI<|GL p f.toNat<|(CD (k+1)<|Cr p f.toNat a).getD k []]) a1 Z Z Aa<|AP (vs:=[a1,zI ((NG p 1 f.toNat (Cw<|(CD (k+1)<|Cr p f.toNat a).getD k []):Nat):Int),zI<|GL p f.toNat<|(CD (k+1)<|Cr p f.toNat a).getD k []]) (zI ((NG p 1 f.toNat (Cw<|(CD (k+1)<|Cr p f.toNat a).getD k []):Nat):Int)) Z Z Aa<|AP (vs:=[a1,zI ((NG p 1 f.toNat (Cw<|(CD (k+1)<|Cr p f.toNat a).getD k []):Nat):Int),zI<|GL p f.toNat<|(CD (k+1)<|Cr p f.toNat a).getD k []]) (zI<|GL p f.toNat<|(CD (k+1)<|Cr p f.toNat a).getD k []) Z Z Aa<|Ac 3 Z<|A0 ?_
  refine gK [0,0] Z ?_
  have hNX:=‹SF p f.toNat ((CD (k+1)<|Cr p f.toNat a).getD k [])›
  rw[hti]at hNX
  have hnc:=hNX.code
  have hcd:GL p f.toNat ((CD (k+1) (Cr p f.toNat a)).getD k [])=GL p f.toNat (Cr p f.toNat a k):=by rw[hti]
  refine Ad 1 Z ?_
  by_cases b2:GL p f.toNat ((CD (k+1) (Cr p f.toNat a)).getD k [])≠((0:Nat):Int)
  ·refine B2 true Z Z (A5 b2) Aa<|Aj<|Ag Z<|gK [3,0,0,0] Z (Cn (Bp rI 2) o1 Bx AT Aa fun v9 w9 ae bg bc=>?_)
   have bd:=ae.size
   have be:=am.trans ae
   have b3:=a6.ext g1 ae
   have b4:=Bd ae ab
   refine Ac 3 Z<|A1<|Ao<|AG<|Ao<|Ao<|AG<|Ao ?_
   have hfc:EP p f.toNat a n.toNat=GL p f.toNat (Cr p f.toNat a k):=by rw[Km (k:=k+1) (by rw[FA hrk];omega) oM,FA hrk]
   exact Ah [8,9] Z (.tuple #[v9,zI<|GL p f.toNat<|(CD (k+1)<|Cr p f.toNat a).getD k []]) Z ⟨v9,(by rw[hfc,hti]),be,(by rw[Rf (by rw[hfc];omega)];exact(bc.up o2).low am.size),Qh.err hfc oM hnc⟩
  refine B2 false Z Z (A6 b2) Aa<|Aj<|Ai Z<|A2<|Ab _ [0,0,3,4,0] Z<|Ad 2 Z (BA (u:=a1) (B:=w3.heap.size) o1 Bx AT Z Z aa (by first|exact A7 _|omega) Aa fun bi bl a2 bf an=>?_)
  have b5:=a2.size
  have a7:=am.trans a2
  have a3:=a4.ext (o2) a2
  have ao:=a6.ext g1 a2
  have b6:=Bd a2 ab
  refine Gb o1 (v:=vo) (a:=bi) Bx AT Z Z Z a3 a7.size an oM a9.size sD (by unfold maxLen;first|omega|assumption|(simp;done)|(simp;omega)) Aa fun bj bk bm ac ap aq=>?_
  have ar:AH w bk:=ac.below a7 (fun c hc=>A8 (A7 _) (ap c hc).1) a7.size
  have b7:=ac.size
  refine Ac 1 Z<|Ab _ [0,0,0] Z<|Ad 1 Z<|AQ ((k+1:Nat):Int) Z Z (Bi oM oM) Aa<|Ac 1 Z ?_
  exact⟨(k+1,bj),_,rfl,zR,⟨ar,(by have h:=aq.up o2;rw[hti]at h;rw[Kb];exact h),sD,(by rw[FA hrk];omega),(by have:=hNX.len oM;show(((PS p f.toNat (Cr p f.toNat a k)).length:Nat):Int)=_;omega),hNX.num,(by intro j hj;by_cases e9:j≤k;(exact hrj j e9);(rw[show j=k+1 from by omega];have:=hNX.len oM;show(PS p f.toNat (Cr p f.toNat a k)).length=_;omega))⟩,zD⟩
 refine AI false Z Z (A6 ax) Aa<|Aj<|Ai Z<|A4<|AA<|AA<|Av<|gK [0,0,0] Z<|Ac 3 Z<|A1 ?_
 have hke:k=n.toNat:=by omega
 exact Ah [8,9] Z (.tuple #[vo,zI ((0:Nat):Int)]) Z ⟨vo,(by rw[← hke,hrk];rfl),a9,(by have h:=a0.up o2;rw[← hke,Lq hrk];exact h),Qh.ok (by rw[← hke];exact hrk) (by rw[← hke];exact hrj)⟩
theorem gC {p:List Fn}{f:Int}{a d:Sr}(h:Kl p f≠0):Kl p f=HX p f a d:=by unfold HX;rw[if_neg h]
theorem gD {p:List Fn}{f:Int}{a d:Sr}(h:Kl p f=0)(h2:(decide (((a.length:Nat):Int)=(p.getD f.toNat Fn.zero).params) && AX a)=false):2=HX p f a d:=by unfold HX;rw[if_pos h,h2];rfl
theorem gE {p:List Fn}{f:Int}{a d:Sr}(h:Kl p f=0)(h2:(decide (((d.length:Nat):Int)=(p.getD f.toNat Fn.zero).params) && AX d)=false):2=HX p f a d:=by unfold HX;rw[if_pos h,h2,Bool.and_false];rfl
theorem gF {p:List Fn}{f:Int}{a d:Sr}(h:Kl p f=0)(h1:(decide (((a.length:Nat):Int)=(p.getD f.toNat Fn.zero).params) && AX a)=true)(h2:(decide (((d.length:Nat):Int)=(p.getD f.toNat Fn.zero).params) && AX d)=true):Kl p f=HX p f a d:=by unfold HX;rw[if_pos h,h1,h2];exact h
theorem Sb {p:Prop}(h:p:=by first|exact gC oM|exact gD oM (Db (by assumption))|exact gE oM (Db (by assumption))|exact gF oM (Dp (by assumption)) (Dp (by assumption))):p:=h
theorem Np (w:World)(dp:Nat)(vp:Value)(p:List Fn)(f:Int)(va:Value)(a:Sr)(vd:Value)(d:Sr)(hp:RP [] dp w.heap vp p)(_hf:Bn f)(ha:Rd (B4 rI) w.heap va a)(hd:Rd (B4 rI) w.heap vd d)(hz:PO p) :
  Calls Tryz.prog 85 #[(.agg #[vp]),zI f,va,vd] w (fun e w'=>e=.returned (zI (HX p f a d))∧AH w w'):=by
 refine Aq [.agg #[vp],zI f,va,vd] 38 Tryz.func85 Z Z sM ?_
 have ag:AH w w:=AH.refl w
 have ar:=hp.lenle
 unfold maxLen at ar
 have au:=ha.lenle
 have av:=hd.lenle
 refine gK [3,0] Z (By (cs:=#[vp]) Z Aa fun w1 ab an a4=>?_)
 have ah:=ab.size
 have ac:=ag.trans ab
 replace a4:BX w1.heap w.heap.size [vp]:=a4
 refine Ac 1 Z<|gK [2,0,3,0] Z<|AK (p:=zP w.heap.size) (.inr Z) [vp] Cf Z (fun aw ai=>LD.of_box<|BX.ext (w:=w1) a4 ai) Z Aa<|Ad 1 Z<|Ap 56 [] [] [.agg #[vp],zI f] Z Z ZD Aa (H5 _ dp vp (p) _ (hp.ext (Am<|Az dp) ac) _hf hz) ?_
 rintro e2 w2 ⟨rfl,a5⟩
 refine⟨_,rfl,a5,?_⟩
 have aj:=a5.size
 have a1:=ac.trans a5
 have a0:=a4.ext a5
 refine Ac 1 Z<|A0<|gK [0,0,0,0,0,2,0,0,0,2,3,0,0,0,0,2,0,0,0,2,3,0,0,0] Z<|Ad 1 Z ?_
 by_cases ad:Kl p f=((0:Nat):Int)
 ·refine Al true Z Z (A5 ad) Aa<|Ad 2 Z ?_
  have ao:=Rc (p:=p) (f:=f) oM
  refine Ak (p:=zP w.heap.size) 0 BB Z Z (Ae (e:=15) Z Z Z)<|Af (p:=An (zP w.heap.size) 0) (.inr Z) vp C4 Z (a0.ldp (i:=0) sM) (Ae (e:=15) Z Z Z)<|Ad 1 Z<|Aw (v:=vp) ((f).toNat) Gx Co Z Z hp.isSl oM sD (Ae (e:=15) Z Z Z) ?_
  obtain⟨cs4,ak,a6⟩:=hp.get (Az dp) Fn.zero (k:=(f).toNat) sD
  obtain⟨ap,rfl,a8⟩:=RF.of ak
  have a9:=a8.rn.lenle
  unfold maxLen at a9
  refine AE (p:=Ay vp ((f).toNat) 3) 1 C9 Z (a6 _<|At.of_ext [] a1) (Ae (e:=15) Z Z Z)<|Af (p:=An (Ay vp ((f).toNat) 3) 1) (.inr Z) (zI<|(p.getD ((f).toNat) Fn.zero).params) AC Z ((a6 _<|At.of_ext [] a1).ld (i:=1) (by simp[DR,DV])) (Ae (e:=15) Z Z Z)<|Ap 57 [] [] [va,zI<|(p.getD ((f).toNat) Fn.zero).params] Z Z Sw (Ae (e:=15) Z Z Z) (Ct _ _ _ _ (ha.ext g1 a1) a8.rng) ?_
  rintro e5 w5 ⟨rfl,a7⟩
  refine⟨_,rfl,a7,?_⟩
  have al:=a7.size
  have a2:=a1.trans a7
  have a3:=a0.ext a7
  refine Bo (!(decide ((a.length:Int)=((p.getD ((f).toNat) Fn.zero).params)) && AX a)) Z Z (Ae (e:=15) Z Z Z)<|Ad 1 Z ?_
  cases aq:(!(decide ((a.length:Int)=((p.getD ((f).toNat) Fn.zero).params)) && AX a))
  ·refine Ad 1 Z<|Ak (p:=zP w.heap.size) 0 BB Z Z (Ae (e:=25) Z Z Z)<|Af (p:=An (zP w.heap.size) 0) (.inr Z) vp C4 Z (a3.ldp (i:=0) sM) (Ae (e:=25) Z Z Z)<|Ad 1 Z<|Aw (v:=vp) ((f).toNat) Gx Co Z Z hp.isSl oM sD (Ae (e:=25) Z Z Z) ?_
   refine AE (p:=Ay vp ((f).toNat) 3) 1 C9 Z (a6 _<|At.of_ext [] a2) (Ae (e:=25) Z Z Z)<|Af (p:=An (Ay vp ((f).toNat) 3) 1) (.inr Z) (zI<|(p.getD ((f).toNat) Fn.zero).params) AC Z ((a6 _<|At.of_ext [] a2).ld (i:=1) (by simp[DR,DV])) (Ae (e:=25) Z Z Z)<|Ap 57 [] [] [vd,zI<|(p.getD ((f).toNat) Fn.zero).params] Z Z Sw (Ae (e:=25) Z Z Z) (Ct _ _ _ _ (hd.ext g1 a2) a8.rng) ?_
   rintro e7 w7 ⟨rfl,aa⟩
   refine⟨_,rfl,aa,?_⟩
   have am:=aa.size
   have ae:=a2.trans aa
   refine Bo (!(decide ((d.length:Int)=((p.getD ((f).toNat) Fn.zero).params)) && AX d)) Z Z (Ae (e:=25) Z Z Z)<|Ac 2 Z ?_
   cases af:(!(decide ((d.length:Int)=((p.getD ((f).toNat) Fn.zero).params)) && AX d))
   ·exact Ai (by first|rfl|exact zW af)<|A2<|gK [0,0] Z<|Ac 2 Z<|A1<|Ah [8] Z (zI<|Kl p f) Z ⟨B5 Sb,ae⟩
   exact Ag (by first|rfl|exact zW af)<|Ab _ [0] Z<|Ac 1 Z<|gK [0,0] Z<|Ac 2 Z<|A1<|Ah [8] Z (zI ((2:Nat):Int)) Z ⟨B5 Sb,ae⟩
  exact Ac 11 Z<|Ag Z<|Ab _ [0] Z<|Ac 1 Z<|gK [0,0] Z<|Ac 2 Z<|A1<|Ah [8] Z (zI ((2:Nat):Int)) Z ⟨B5 Sb,a2⟩
 exact Al false Z Z (A6 ad) Aa<|Ac 22 Z<|Ai Z<|A2<|gK [0,0] Z<|Ac 2 Z<|A1<|Ah [8] Z (zI<|Kl p f) Z ⟨B5 Sb,a1⟩
theorem Ve {p:Prop}(h:p:=by unfold maxLen;first|omega|assumption|(simp only[zb,z9,z4,z6,z5];omega)|(simp[zb,z9,z4,z6,z5];done)|(simp[zb,z9,z4,z6,z5];omega)):p:=h
theorem IA (w:World)(dp:Nat)(vp:Value)(p:List Fn)(f:Int)(va:Value)(a:Sr)(vd:Value)(d:Sr)(o:Nat)(hp:RP [] dp w.heap vp p)(_hf:Bn f)(ha:Rd (B4 rI) w.heap va a)(hd:Rd (B4 rI) w.heap vd d)(hvp:FQ p)(hf:0≤f∧f<(p.length:Int))(hl:(a.length:Int)=(p.getD f.toNat Fn.zero).params)(hld:d.length=a.length)(hna:AX a=true)(hnd:AX d=true)(ho:o≤12) :
  Calls Tryz.prog 141 #[(.agg #[vp]),zI f,va,vd,zI (o:Int)] w (fun e w'=>∃v0:Value,e=.returned (.tuple #[v0,zI (HD p (o+1) f.toNat (D7 a d (o+1)))])∧AH w w'∧Fr (Bp (Bp rI 2) 27) w.heap.size w'.heap.size w'.heap v0 (Ib p (o+1) f.toNat (D7 a d (o+1)))∧SD p (o+1) f.toNat (D7 a d (o+1))):=by
 refine Aq [.agg #[vp],zI f,va,vd,zI (o:Int)] 57 Tryz.func141 Z Z sM ?_
 have bg:AH w w:=AH.refl w
 have c9:=hp.lenle
 unfold maxLen at c9
 have ca:=ha.lenle
 have cb:=hd.lenle
 have cl:=hvp.par f.toNat oM
 refine gK [3,0,0] Z (By (cs:=#[vp]) Z Aa fun w1 ay bt az=>?_)
 have bu:=ay.size
 have b0:=bg.trans ay
 replace az:BX w1.heap w.heap.size [vp]:=az
 refine Ac 2 Z<|gK [3,0] Z (Cn (Bp rI 2) o1 Bx AT Aa fun v2 w2 au bv bh=>?_)
 have b1:=au.size
 have bi:=b0.trans au
 have ai:=az.ext au
 refine Ac 1 Z<|A0<|gK [0,0,0] Z<|Ad 1 Z<|AR (v:=va) Bt Z ha.isSl Aa<|Ac 1 Z<|A3 ?_
 refine AU (S:=Nat×Value) (fun⟨k,vo⟩=>([(12,vo),(22,zI (k:Int)),(1,zI f),(3,vd),(4,zI (o:Int)),(5,zP w.heap.size),(20,va),(21,zI (a.length:Int))])) (fun⟨k,vo⟩ W=>AH w W∧Fr (Bp (Bp rI 2) 27) w1.heap.size W.heap.size W.heap vo ((D7 a d (o+1)).take k)∧BX W.heap w.heap.size [vp]∧k≤a.length∧w.heap.size<w1.heap.size∧w1.heap.size≤W.heap.size) (fun⟨k,vo⟩=>a.length-k) (0,v2) ⟨rfl,rfl,rfl,rfl,rfl,rfl,rfl,rfl,trivial⟩ ⟨bi,bh.up o2,ai,oM,oM,oM⟩ ?_
 clear bg bt ay bh bv au b1 bi
 rintro⟨k,vo⟩ ρ4 w4 ⟨ac,ad,a1,bj,bw,bx⟩
 have bz:w.heap.size≤w4.heap.size:=ac.size
 have c6:=a1.lt
 refine gK [0] Z ?_
 by_cases bk:(k:Int)<(a.length:Int)
 ·refine AI true Z Z (A5 bk) Aa<|Aj<|A0<|Ag Z<|A2<|A0<|A3<|gK [0,0,2,0,0] Z<|Ad 1 Z<|Aw (v:=va) k Bt BG Z Z ha.isSl Z sD Aa ?_
  refine Af (p:=Ay va k 1) (.inr Z) (zI<|a.getD k 0) AC Z (Bd ac (ha.getI sD).1) Aa<|Ac 2 Z<|gK [0,0,3,0] Z<|Ad 1 Z<|AQ ((o+1:Nat):Int) Z Z (Bi oM oM) Aa ?_
  refine Ga (n:=o+1) Bt BG Z Z Z sD Aa fun v8 w8 av c7 bl=>?_
  have c0:=av.size
  have bm:=ac.trans av
  have a2:=ad.ext (o2) av
  have a3:=a1.ext av
  refine Ac 1 Z<|gK [0,0,0,4] Z<|Ad 2 Z<|Aw (v:=v8) 0 Bt BG Z Z bl.isSl Z sD Aa ?_
  refine GQ (v:=v8) (w:=w8) HL Z Z (ha.getI sD).2 bl sD Aa fun w9 F9 aw c8 b2 b3=>?_
  have ax:AH w w9:=aw.below bm (fun c hc=>A8 ac.size (b2 c hc).1) bm.size
  have c1:w8.heap.size≤w9.heap.size:=aw.size
  have aj:=a2.chg (o2) aw fun c hc=>zH<|b2 c hc
  have ak:=a3.chg aw fun hm=>zH<|b2 _ hm
  refine Aj<|A0<|gK [0,0] Z<|Ad 1 Z ?_
  by_cases al:((0:Nat):Int)<(o:Int)
  ·refine C2 true Z Z (A5 al) Aa<|Aj<|Ag Z<|Ab _ [0,0,0,0,2,0,4] Z<|Ad 3 Z<|Aw (v:=vd) k Bt BG Z Z hd.isSl Z sD Aa ?_
   refine Af (p:=Ay vd k 1) (.inr Z) (zI<|d.getD k 0) AC Z (Bd ax (hd.getI sD).1) Aa ?_
   refine Aw (v:=v8) 1 Bt BG Z Z b3.isSl Z sD Aa ?_
   refine GQ (v:=v8) (w:=w9) HL Z Z (hd.getI sD).2 b3 sD Aa fun cc cm a4 c2 ae b4=>?_
   have b5:AH w cc:=a4.below ax (fun c hc=>A8 ac.size (ae c hc).1) ax.size
   have bn:w9.heap.size≤cc.heap.size:=a4.size
   have b6:=aj.chg (o2) a4 fun c hc=>zH<|ae c hc
   have b7:=ak.chg a4 fun hm=>zH<|ae _ hm
   refine Aj<|Ab _ [0,0,3,4,0] Z<|Ad 2 Z (BA (u:=v8) (B:=w4.heap.size) o1 Bx AT Z Z b4 (by first|exact A7 _|omega) Aa fun cf cg a5 c3 b8=>?_)
   have bo:=a5.size
   have am:=b5.trans a5
   have a6:=b6.ext (o2) a5
   have a7:=b7.ext a5
   refine Gb o1 (v:=vo) (a:=cf) Bx AT Z Z Z a6 oM b8 oM oM sD Ve Aa fun ch cd cn af an ao=>?_
   have b9:AH w cd:=af.below am (fun c hc=>A8 b0.size (an c hc).1) am.size
   have bp:cg.heap.size≤cd.heap.size:=af.size
   have ba:=a7.chg af fun hm=>zH<|an _ hm
   exact Ac 1 Z<|Ab _ [0,0] Z<|AQ ((k+1:Nat):Int) Z Z (Bi oM sD) Aa<|Ac 1 Z ⟨(k+1,ch),_,rfl,zR,⟨b9,(by rw[D6 [] (by simp;omega),Jo oM];first|exact ao.up o2|(have h:=ao.up o2;rw[List.set_eq_of_length_le (by rw[E4];omega)];exact h)),ba,oM,oM,oM⟩,zD⟩
  refine C2 false Z Z (A6 al) Aa<|Aj<|Ai Z<|A2<|Ab _ [0,0,3,4,0] Z<|Ad 2 Z (BA (u:=v8) (B:=w4.heap.size) o1 Bx AT Z Z b3 (by first|exact A7 _|omega) Aa fun ci cj a8 c4 bb=>?_)
  have bq:=a8.size
  have ap:=ax.trans a8
  have a9:=aj.ext (o2) a8
  have aa:=ak.ext a8
  refine Gb o1 (v:=vo) (a:=ci) Bx AT Z Z Z a9 oM bb oM oM sD Ve Aa fun ck ce co ag aq ar=>?_
  have bc:AH w ce:=ag.below ap (fun c hc=>A8 b0.size (aq c hc).1) ap.size
  have br:cj.heap.size≤ce.heap.size:=ag.size
  have bd:=aa.chg ag fun hm=>zH<|aq _ hm
  exact Ac 1 Z<|Ab _ [0,0] Z<|AQ ((k+1:Nat):Int) Z Z (Bi oM sD) Aa<|Ac 1 Z ⟨(k+1,ck),_,rfl,zR,⟨bc,(by rw[D6 [] (by simp;omega),Jo oM];first|exact ar.up o2|(have h:=ar.up o2;rw[List.set_eq_of_length_le (by rw[E4];omega)];exact h)),bd,oM,oM,oM⟩,zD⟩
 refine AI false Z Z (A6 bk) Aa<|Aj<|A0<|Ai Z<|A4<|AA<|AA<|Av<|gK [2,0,0,0,3,0,0,0,0,0,0,0] Z ?_
 have hfull:=ad
 rw[show(D7 a d (o+1)).take k=D7 a d (o+1)from za (by simp;omega)]at hfull
 refine AK (p:=zP w.heap.size) (.inr Z) [vp] Cf Z (fun cp c5=>LD.of_box<|BX.ext (w:=w4) a1 c5) Z Aa<|Ad 3 Z<|Ap 163 [] [] [.agg #[vp],zI f,vo,zI (o:Int)] Z Z Ym Aa (E0 _ dp vp (p) _ vo (D7 a d (o+1)) (o) (hp.ext (Am<|Az dp) ac) _hf (RN.of_fr2 hfull fun b hb=>by cases hb) hfull.cap hvp oM (by rw[CB];omega) (by exact EB hna hnd) oM) ?_
 rintro cq cr ⟨a0,rfl,ab,ah,be⟩
 refine⟨_,rfl,ab,?_⟩
 have bs:=ab.size
 have bf:=ac.trans ab
 have hfullx22:=hfull.ext (o2) ab
 refine Ad 1 Z<|AP (vs:=[a0,zI ((NG p (o+1) f.toNat (D7 a d (o+1)):Nat):Int),zI<|HD p (o+1) f.toNat<|D7 a d (o+1)]) a0 Z Z Aa<|AP (vs:=[a0,zI ((NG p (o+1) f.toNat (D7 a d (o+1)):Nat):Int),zI<|HD p (o+1) f.toNat<|D7 a d (o+1)]) (zI ((NG p (o+1) f.toNat (D7 a d (o+1)):Nat):Int)) Z Z Aa<|AP (vs:=[a0,zI ((NG p (o+1) f.toNat (D7 a d (o+1)):Nat):Int),zI<|HD p (o+1) f.toNat<|D7 a d (o+1)]) (zI<|HD p (o+1) f.toNat<|D7 a d (o+1)) Z Z Aa<|Ac 3 Z<|gK [0,0,0,0] Z<|Ac 4 Z<|A1 ?_
 exact Ah [10,11] Z (.tuple #[a0,zI<|HD p (o+1) f.toNat<|D7 a d (o+1)]) Z ⟨a0,rfl,bf,(ah.up o2).low ac.size,(by assumption)⟩
theorem YH {p:Prop}(h:p:=by rw[show Lw p f.toNat a d=[]from hEP.non (by show HD p (1+1) f.toNat (D7 a d (1+1))≠0;omega)];exact GF _ _ _):p:=h
theorem Gr (w:World)(dp:Nat)(vp:Value)(p:List Fn)(f:Int)(va:Value)(a:Sr)(vd:Value)(d:Sr)(hp:RP [] dp w.heap vp p)(_hf:Bn f)(ha:Rd (B4 rI) w.heap va a)(hd:Rd (B4 rI) w.heap vd d)(hvp:FQ p)(hf:0≤f∧f<(p.length:Int))(hl:(a.length:Int)=(p.getD f.toNat Fn.zero).params)(hld:d.length=a.length)(hna:AX a=true)(hnd:AX d=true) :
  Calls Tryz.prog 86 #[(.agg #[vp]),zI f,va,vd] w (fun e w'=>∃v0 v1:Value,e=.returned (.tuple #[v0,v1,zI (PU p f.toNat a d)])∧AH w w'∧Fr (Bp rI 2) w.heap.size w'.heap.size w'.heap v0 ((Lw p f.toNat a d).map (fun s:Sr=>s.getD 0 0))∧Fr (Bp rI 2) w.heap.size w'.heap.size w'.heap v1 ((Lw p f.toNat a d).map (fun s:Sr=>s.getD 1 0))∧SD p 2 f.toNat (D7 a d 2)):=by
 refine Aq [.agg #[vp],zI f,va,vd] 44 Tryz.func86 Z Z sM ?_
 have au:AH w w:=AH.refl w
 have bm:=hp.lenle
 unfold maxLen at bm
 have bn:=ha.lenle
 have bo:=hd.lenle
 have br:=hvp.par f.toNat oM
 have bs:=hvp.outs f.toNat oM
 refine gK [3,0,0,0] Z (By (cs:=#[vp]) Z Aa fun w1 ak b8 al=>?_)
 have b9:=ak.size
 have af:=au.trans ak
 replace al:BX w1.heap w.heap.size [vp]:=al
 refine Ac 3 Z<|gK [2,0,0,0,3,0,0,0,0,0] Z<|AK (p:=zP w.heap.size) (.inr Z) [vp] Cf Z (fun bt ba=>LD.of_box<|BX.ext (w:=w1) al ba) Z Aa<|Ad 3 Z<|Ap 141 [] [] [.agg #[vp],zI f,va,vd,zI ((1:Nat):Int)] Z Z cK Aa (IA _ dp vp (p) _ _ _ _ _ (1) (hp.ext (Am<|Az dp) af) _hf (ha.ext g1 af) (hd.ext g1 af) hvp oM oM hld hna hnd oM) ?_
 rintro e2 w2 ⟨a0,rfl,ag,a8,av⟩
 refine⟨_,rfl,ag,?_⟩
 have bb:=ag.size
 have ah:=af.trans ag
 refine Ad 1 Z<|AP (vs:=[a0,zI<|HD p (1+1) f.toNat<|D7 a d (1+1)]) a0 Z Z Aa<|AP (vs:=[a0,zI<|HD p (1+1) f.toNat<|D7 a d (1+1)]) (zI<|HD p (1+1) f.toNat<|D7 a d (1+1)) Z Z Aa<|Ac 2 Z<|A0<|gK [0,0] Z<|Ad 1 Z ?_
 have hEP:SD p 2 f.toNat (D7 a d 2):=by assumption
 by_cases aw:HD p (1+1) f.toNat (D7 a d (1+1))≠((0:Nat):Int)
 ·exact B2 true Z Z (A5 aw) Aa<|Aj<|Ag Z<|gK [0,0,0,0] Z<|Ac 4 Z<|A1<|Ao<|Ah [8,9,10] Z (.tuple #[zN,zN,zI<|HD p (1+1) f.toNat<|D7 a d (1+1)]) Z ⟨zN,zN,rfl,ah,YH,YH,hEP⟩
 refine B2 false Z Z (A6 aw) Aa<|Aj<|Ai Z<|A2<|gK [3,0] Z ?_
 have hdl:=hEP.len (by show HD p (1+1) f.toNat (D7 a d (1+1))=0;omega)
 have bc:(Ib p (1+1) f.toNat (D7 a d (1+1))).length=(p.getD f.toNat Fn.zero).outs.length:=hdl
 refine Cn (rI) AJ Bt BG Aa fun v4 w4 ai bd ax=>?_
 have am:=ai.size
 have ay:=ah.trans ai
 have a1:=a8.ext (o2) ai
 refine Ac 1 Z<|A0<|gK [0,0,0] Z<|Ad 1 Z<|AR (v:=a0) Bx Z a1.isSl Aa<|Ac 1 Z<|A3 ?_
 refine AU (S:=Nat×Value) (fun⟨k,vo⟩=>([(13,vo),(30,zI (k:Int)),(11,a0),(28,a0),(29,zI (((Ib p (1+1) f.toNat<|D7 a d (1+1)).length:Nat):Int))])) (fun⟨k,vo⟩ W=>AH w W∧Fr (Bp rI 2) w2.heap.size W.heap.size W.heap vo (((Ib p (1+1) f.toNat<|D7 a d (1+1)).take k).map fun s=>s.getD 1 0)∧Fr (Bp (Bp rI 2) 27) w1.heap.size w2.heap.size W.heap a0 (Ib p (1+1) f.toNat<|D7 a d (1+1))∧k≤(Ib p (1+1) f.toNat<|D7 a d (1+1)).length∧w2.heap.size≤W.heap.size) (fun⟨k,vo⟩=>(Ib p (1+1) f.toNat<|D7 a d (1+1)).length-k) (0,v4) ⟨rfl,rfl,rfl,rfl,rfl,trivial⟩ ⟨ay,ax.up o1,a1,oM,oM⟩ ?_
 clear au b8 ak a8 ag ax bd ai am ay a1
 rintro⟨k,vo⟩ ρ5 w5 ⟨aj,a9,a2,az,be⟩
 have bf:w.heap.size≤w5.heap.size:=aj.size
 refine gK [0] Z ?_
 by_cases b0:(k:Int)<(((Ib p (1+1) f.toNat (D7 a d (1+1))).length:Nat):Int)
 ·refine AI true Z Z (A5 b0) Aa<|Aj<|A0<|Ag Z<|A2<|A0<|A3<|gK [0,2,0] Z<|Aw (v:=a0) k Bx AT Z Z a2.isSl Z sD Aa ?_
  obtain⟨an,b1,ae⟩:=a2.rd2.get (k:=k) [] sD
  have bg:=ae.lenle
  refine Af (p:=Ay a0 k 1) (.inr Z) an B6 Z b1 Aa<|Ac 1 Z<|Ab _ [0,0,0,2,3,4,0] Z<|Ad 2 Z ?_
  have hrw:=(hEP.ser k (by show k<(Ib p (1+1) f.toNat<|D7 a d (1+1)).length;omega)).1
  have bh:((Ib p (1+1) f.toNat (D7 a d (1+1))).getD k []).length=2:=hrw
  refine Aw (v:=an) 1 Bt BG Z Z ae.isSl Z sD Aa ?_
  refine Af (p:=Ay an 1 1) (.inr Z) (zI<|((Ib p (1+1) f.toNat<|D7 a d (1+1)).getD k []).getD 1 0) AC Z (ae.getI sD).1 Aa ?_
  refine BA (u:=zI<|((Ib p (1+1) f.toNat<|D7 a d (1+1)).getD k []).getD 1 0) (B:=w5.heap.size) AJ Bt BG Z Z (Nb w5.heap.size w5.heap.size _ _ (ae.getI sD).2) (A7 _) Aa fun v9 w9 ad bl b2=>?_
  have bi:=ad.size
  have b3:=aj.trans ad
  have a4:=a9.ext (o1) ad
  have a5:=a2.ext (o2) ad
  have b4:=ae.ext g1 ad
  have b5:=Bd ad b1
  refine GP (v:=vo) (a:=v9) Bt BG Z Z Z a4 oM b2.rd1 sD (by unfold maxLen;first|omega|assumption|(simp;done)|(simp;omega)) Aa fun bq bp bu a6 ab ao=>?_
  have ap:AH w bp:=a6.below b3 (fun c hc=>A8 ah.size (ab c hc).1) b3.size
  have b6:w9.heap.size≤bp.heap.size:=a6.size
  have aq:=a5.chg (o2) a6 fun c hc=>zH<|ab c hc
  have bj:=b2.chg (o1) a6 fun c hc=>zH<|ab c hc
  exact Ac 1 Z<|Ab _ [0,0] Z<|AQ ((k+1:Nat):Int) Z Z (Bi oM sD) Aa<|Ac 1 Z ⟨(k+1,bq),_,rfl,zR,⟨ap,(by rw[Hc [] oM];exact ao.up o1),aq,oM,oM⟩,zD⟩
 refine AI false Z Z (A6 b0) Aa<|Aj<|A0<|Ai Z<|A4<|AA<|AA<|Av<|gK [0,3,0,0,0,0] Z<|Ad 1 Z<|Ap 61 [] [] [a0] Z Z ZF Aa (H4 _ _ _ a2.rd2 oM (by intro k9 bk;have h9:((Ib p (1+1) f.toNat<|D7 a d (1+1)).getD k9 []).length=2:=(hEP.ser k9 bk).1;omega)) ?_
 rintro bv bw ⟨aa,rfl,a7,ac⟩
 refine⟨_,rfl,a7,?_⟩
 have b7:=a7.size
 have ar:=aj.trans a7
 have a3:=a9.ext (o1) a7
 exact Ac 4 Z<|A1<|Ah [8,9,10] Z (.tuple #[aa,vo,zI ((0:Nat):Int)]) Z ⟨aa,vo,(by rw[show PU p f.toNat a d=0 from(by show HD p (1+1) f.toNat (D7 a d (1+1))=0;omega)] <;> rfl),ar,(ac.up o1).low aj.size,(by have h:=(a3.up o1).low ah.size;rwa [za oM]at h),hEP⟩
theorem JE (w:World)(dp:Nat)(vp:Value)(p:List Fn)(f:Int)(va:Value)(a:Sr)(vd:Value)(d:Sr)(hp:RP [] dp w.heap vp p)(_hf:Bn f)(ha:Rd (B4 rI) w.heap va a)(hd:Rd (B4 rI) w.heap vd d)(hz:PO p) :
  Calls Tryz.prog 29 #[(.agg #[vp]),zI f,va,vd] w (fun e w'=>∃v0 v1:Value,e=.returned (.tuple #[v0,v1,zI (if HX p f a d=0 then PU p f.toNat a d else HX p f a d)])∧AH w w'∧Fr (Bp rI 2) w.heap.size w'.heap.size w'.heap v0 (if HX p f a d=0 then(Lw p f.toNat a d).map (fun s:Sr=>s.getD 0 0)else [])∧Fr (Bp rI 2) w.heap.size w'.heap.size w'.heap v1 (if HX p f a d=0 then(Lw p f.toNat a d).map (fun s:Sr=>s.getD 1 0)else [])∧(HX p f a d=0→SD p 2 f.toNat (D7 a d 2))):=by
 refine Aq [.agg #[vp],zI f,va,vd] 28 Tryz.func29 Z Z sM ?_
 have af:AH w w:=AH.refl w
 have al:=hp.lenle
 unfold maxLen at al
 have am:=ha.lenle
 have an:=hd.lenle
 refine gK [3,0,0,0] Z (By (cs:=#[vp]) Z Aa fun w1 ac ak a6=>?_)
 have ag:=ac.size
 have a7:=af.trans ac
 replace a6:BX w1.heap w.heap.size [vp]:=a6
 refine Ac 3 Z<|A0<|gK [2,0,0,0,3,0] Z<|AK (p:=zP w.heap.size) (.inr Z) [vp] Cf Z (fun ao a9=>LD.of_box<|BX.ext (w:=w1) a6 a9) Z Aa<|Ad 3 Z<|Ap 85 [] [] [.agg #[vp],zI f,va,vd] Z Z fQ Aa (Np _ dp vp (p) _ _ _ _ _ (hp.ext (Am<|Az dp) a7) _hf (ha.ext g1 a7) (hd.ext g1 a7) hz) ?_
 rintro e2 w2 ⟨rfl,a8⟩
 refine⟨_,rfl,a8,?_⟩
 have ah:=a8.size
 have a2:=a7.trans a8
 have a3:=a6.ext a8
 refine Ac 1 Z<|gK [0,0] Z<|Ad 1 Z ?_
 by_cases ad:HX p f a d≠((0:Nat):Int)
 ·exact B2 true Z Z (A5 ad) Aa<|Aj<|Ag Z<|gK [0,0,0,0] Z<|Ac 4 Z<|A1<|Ao<|Ah [8,9,10] Z (.tuple #[zN,zN,zI<|HX p f a d]) Z ⟨zN,zN,(by rw[if_neg (show ¬HX p f a d=0 by omega)]),a2,(by rw[show(if HX p f a d=0 then(Lw p f.toNat a d).map (fun s:Sr=>s.getD 0 0)else [])=[]from if_neg oM];exact GF _ _ _),(by rw[show(if HX p f a d=0 then(Lw p f.toNat a d).map (fun s:Sr=>s.getD 1 0)else [])=[]from if_neg oM];exact GF _ _ _),(fun h9=>absurd h9 oM)⟩
 refine B2 false Z Z (A6 ad) Aa<|Aj<|Ai Z<|A2<|gK [2,0,0,0,3,0,0,0,0,0,0] Z<|AK (p:=zP w.heap.size) (.inr Z) [vp] Cf Z (fun ao a9=>LD.of_box<|BX.ext (w:=w2) a3 a9) Z Aa<|Ad 3 Z ?_
 have hli:HX p f a d=0:=by omega
 have aa:=aR hli
 have hvp:=FZ aa.1
 refine Ap 86 [] [] [.agg #[vp],zI f,va,vd] Z Z fR Aa (Gr _ dp vp (p) _ _ _ _ _ (hp.ext (Am<|Az dp) a2) _hf (ha.ext g1 a2) (hd.ext g1 a2) hvp oM oM oM aa.2.2.1.2 aa.2.2.2.2) ?_
 rintro e4 w4 ⟨a0,a1,rfl,ab,a4,a5,ae⟩
 refine⟨_,rfl,ab,?_⟩
 have ai:=ab.size
 have aj:=a2.trans ab
 refine AP (vs:=[a0,a1,zI<|PU p f.toNat a d]) a0 Z Z Aa<|AP (vs:=[a0,a1,zI<|PU p f.toNat a d]) a1 Z Z Aa<|AP (vs:=[a0,a1,zI<|PU p f.toNat a d]) (zI<|PU p f.toNat a d) Z Z Aa<|Ac 3 Z<|A1 ?_
 exact Ah [8,9,10] Z (.tuple #[a0,a1,zI<|PU p f.toNat a d]) Z ⟨a0,a1,(by rw[if_pos hli]),aj,(by rw[show(if HX p f a d=0 then(Lw p f.toNat a d).map (fun s:Sr=>s.getD 0 0)else [])=(Lw p f.toNat a d).map (fun s:Sr=>s.getD 0 0)from if_pos hli];exact(a4.up o1).low a2.size),(by rw[show(if HX p f a d=0 then(Lw p f.toNat a d).map (fun s:Sr=>s.getD 1 0)else [])=(Lw p f.toNat a d).map (fun s:Sr=>s.getD 1 0)from if_pos hli];exact(a5.up o1).low a2.size),(fun _=>by assumption)⟩
theorem Vf {p:Prop}(h:p:=by simp only[z9,zb];unfold maxLen;omega):p:=h
theorem Vg {p:Prop}(h:p:=by simp only[z9,zb];omega):p:=h
theorem O2 {p:Prop}(h:p:=by rw[EA];omega):p:=h
theorem D2 (w:World)(S:List Nat)(g:Nat)(vp:Value)(ip:Int)(s0:Nat)(c0:Int)(T:Tp)(c:As)(v:Int)(hS:∀b∈S,b<w.heap.size)(hgS:g∈S)(hR0:SE 46 177 2 S g w.heap vp ip T s0 c0)(_hip:Bn ip)(hln:T.code.length≤4000∧T.vals.length≤4000)(hc:Qb c)(_hv:Bn v)  :
  Calls Tryz.prog 58 #[zP g,(.agg #[(zI c.op),(zI c.a),(zI c.b),(zI c.num)]),zI v] w (fun e w'=>∃S':List Nat,e=.returned (zI (T.vals.length:Int))∧DU S S' w w'∧SE 46 177 2 S' g w'.heap vp ip (T.put c v) s0 c0):=by
 refine Aq [zP g,.agg #[zI c.op,zI c.a,zI c.b,zI c.num],zI v] 35 Tryz.func58 Z Z sM ?_
 have dr:At S w w:=At.refl S w
 obtain⟨rc0,rg0,rv0,bt,d5⟩:=hR0
 have gd:=bt.lt
 have hG0:DU S S w w:=DU.refl hS
 have hml:=BK.len d5
 refine gK [3,0] Z ?_
 have eo:=bt.lt
 refine By (cs:=#[zI c.op,zI c.a,zI c.b,zI c.num]) Z Aa fun w1 ay ep bu=>?_
 have ds:w.heap.size≤w1.heap.size:=ay.size
 have d6:At S w w1:=dr.ext ay
 have a7:=bt.ext ay
 have dt:=BK.ext d5 ay
 have d7:=hG0.ext ay
 replace bu:BX w1.heap w.heap.size [zI c.op,zI c.a,zI c.b,zI c.num]:=bu
 refine Ac 1 Z<|A0 ?_
 obtain⟨Fc,Fg,Fv,hOc,hOg,hOv,hdj,hgn,hSc,hSg,hSv⟩:=id dt
 letI:JR:=SA (Fc++Fv)
 refine Jx.aH _ [0,0,0,0,0,0,1,1,3,3,0,0,0,1,0,3,3,0,0,0,4,0,0,4] [0,1,2,3,4,5,6,7,10,11,12,13,14] 8 9 [15,16,17,18,19,20,21,22,23] 15 [9,16,17,18,19,20,21,22,23] 15 [8,9,16,17,18,19,20,21,22,23] [_,_,_,_,_,_,_,_,_,_,_,_,_] [0,0,0,0,0,0,1,1,0,0,0,1,0] _ _ [_,_,_,_,_,_,_,_,_] [3,3,0,0,0,4,0,0,4] _ [_,_,_,_,_,_,_,_,_] [3,3,0,0,0,4,0,0,4] _ [_,_,_,_,_,_,_,_,_,_] [3,3,3,0,0,0,4,0,0,4] mixed (by kernel_rfl) ⟨rfl,rfl,⟨rfl,rfl,⟨rfl,rfl,⟨rfl,rfl,⟨rfl,rfl,⟨rfl,rfl,⟨rfl,rfl,⟨rfl,rfl,⟨rfl,rfl,⟨rfl,rfl,⟨rfl,rfl,⟨rfl,rfl,⟨rfl,rfl,trivial⟩⟩⟩⟩⟩⟩⟩⟩⟩⟩⟩⟩⟩ ⟨rfl,rfl,trivial⟩ ⟨rfl,rfl,⟨rfl,rfl,⟨rfl,rfl,⟨rfl,rfl,⟨rfl,rfl,⟨rfl,rfl,⟨rfl,rfl,⟨rfl,rfl,⟨rfl,rfl,⟨rfl,rfl,trivial⟩⟩⟩⟩⟩⟩⟩⟩⟩⟩ ⟨rfl,rfl,⟨rfl,rfl,⟨rfl,rfl,⟨rfl,rfl,⟨rfl,rfl,⟨rfl,rfl,⟨rfl,rfl,⟨rfl,rfl,⟨rfl,rfl,⟨rfl,rfl,trivial⟩⟩⟩⟩⟩⟩⟩⟩⟩⟩ ⟨rfl,rfl,⟨rfl,rfl,⟨rfl,rfl,⟨rfl,rfl,⟨rfl,rfl,⟨rfl,rfl,⟨rfl,rfl,⟨rfl,rfl,⟨rfl,rfl,⟨rfl,rfl,⟨rfl,rfl,trivial⟩⟩⟩⟩⟩⟩⟩⟩⟩⟩⟩ ?_
 refine Jx.YM (zP g) Z Aa<|Jx.YM (zP g) Z Aa<|Jx.YM (zP g) Z Aa<|Jx.j1<|AV Z Aa<|Aj ?_
 refine Jx.Ak (p:=zP g) 1 GN Z Z Aa<|Jx.Ak (p:=An (zP g) 1) (b:=g) (o:=1) 1 Cp Z Z Aa<|Jx.eO (p:=An (An (zP g) 1) 1) rc0 DQ Z (fun wj hj=>(BX.chg (w:=w1.drew) (F:=Fc++Fv) a7 hj fun hm=>(zi.1 hm).elim hgn.1 hgn.2.2).ldp (i:=2) sM) Aa<|Jx.ZZ (p:=zP w.heap.size) [zI c.op,zI c.a,zI c.b,zI c.num] DZ Z (fun wj hj=>LD.of_box<|BX.chg (w:=w1.drew) (F:=Fc++Fv) bu hj fun hm=>(zi.1 hm).elim (fun h9=>zH<|hS _ (hSc _ h9)) fun h9=>zH<|hS _ (hSv _ h9)) Z Aa<|Jx.YM (zP g) Z Aa ?_
 refine Jx.j1<|AV Z Aa<|Aj ?_
 refine Jx.Ak (p:=zP g) 5 E7 Z Z Aa<|Jx.eO (p:=An (zP g) 5) rv0 B6 Z (fun wj hj=>(BX.chg (w:=w1.drew) (F:=Fc++Fv) a7 hj fun hm=>(zi.1 hm).elim hgn.1 hgn.2.2).ldp (i:=5) sM) Aa<|Jx.YM (zI v) Z Aa<|Jx.Aj ⟨?_,?_⟩
 ·refine Jx.fa<|ES (cs:=[zI c.op,zI c.a,zI c.b,zI c.num]) (y:=c) (B:=w1.heap.size) AY JY FD Z (by decide) Z (Qc (U:=w1.heap.size) hc) (A7 _) Aa ?_
  intro v4 w4 ao eq d8
  refine Aj ?_
  have du:w1.heap.size≤w4.heap.size:=ao.size
  have az:=Ow.ext (w:=w1.drew) (Au AY) hOc ao
  have b0:=Ow.ext (w:=w1.drew) (AZ AJ) hOv ao
  have b1:=Ow.ext (w:=w1.drew) (Au Bb) hOg ao
  have d9:=BX.ext (w:=w1.drew) a7 ao
  have da:At S w w4:=d6.drew.ext ao
  have db:=d7.drew.ext ao
  refine Jx.Aj ⟨?_,?_⟩
  ·refine Jx.gP<|KW (v:=rc0) (a:=v4) AY JY FD Z (by decide) Z Z az d8 oM (Nat.zero_le _) (Nat.zero_le _) oM (by unfold maxLen;omega) Aa ?_
   intro v5 w5 F5 ap dv b2
   refine Aj ⟨At.sub ap fun b hb=>z8 _ hb,?_⟩
   have dw:w4.heap.size≤w5.heap.size:=ap.size
   have bv:=b0.keep (AZ AJ) ap fun b hb hm=>hdj.2.1 b hb hm
   have bw:=b1.keep (Au Bb) ap fun b hb hm=>hdj.1 b hb hm
   have dx:=BX.chg d9 ap hgn.1
   have dy:At S w w5:=da.trans (ap.sub hSc)
   have dz:=db.more ap hSc
   refine Jx.fa<|BA (u:=zI v) (B:=w5.heap.size) AJ Bt BG Z Z (Nb w5.heap.size w5.heap.size _ _ _hv) (A7 _) Aa ?_
   intro v6 w6 aq er e0
   refine Aj ?_
   have e1:w5.heap.size≤w6.heap.size:=aq.size
   have bx:=Ow.ext (w:=w5) (Au AY) dv aq
   have bz:=Ow.ext (w:=w5) (AZ AJ) bv aq
   have c1:=Ow.ext (w:=w5) (Au Bb) bw aq
   have e2:=BX.ext (w:=w5) dx aq
   have e3:At S w w6:=dy.ext aq
   have e4:=dz.ext aq
   refine Jx.gP<|FI (v:=rv0) (a:=v6) Bt BG Z Z Z bz e0.rd1 (Nat.zero_le _) Vg Vf Aa ?_
   intro v7 w7 F7 ar dc br
   refine Aj ⟨At.sub ar fun b hb=>z1 _ hb,?_⟩
   have e5:w6.heap.size≤w7.heap.size:=ar.size
   have au:=bx.keep (Au AY) ar fun b hb hm=>by rcases b2 b hm with h9|h9|h9;exact hdj.2.1 b h9 hb;(have:=hOv.high b hb;omega);(have:=hOv.high b hb;omega)
   have c2:=c1.keep (Au Bb) ar fun b hb hm=>hdj.2.2 b hm hb
   have e6:=BX.chg e2 ar hgn.2.2
   have dd:At S w w7:=e3.trans (ar.sub hSv)
   have es:=e4.more ar hSv
   refine Jx.VI Z ?_
   have av:BK 46 177 2 (F5++(F7++S)) g w7.heap v5 rg0 v7 (T.put c v):=⟨F5,Fg,F7,au.up oM,c2.up oM,dc,⟨fun b hb hm=>by rcases b2 b hb with h9|h9|h9;exact hdj.1 b h9 hm;(have:=hOg.high b hm;omega);(have:=hOg.high b hm;omega),fun b hb hm=>by rcases br b hm with h8|h8;(rcases b2 b hb with h9|h9|h9;exact hdj.2.1 b h9 h8;(have:=hOv.high b h8;omega);(have:=hOv.high b h8;omega));(have:=au.high b hb;omega),fun b hm hb=>by rcases br b hb with h8|h8;exact hdj.2.2 b hm h8;(have:=hOg.high b hm;omega)⟩,⟨fun hm=>by rcases b2 g hm with h9|h9|h9;exact hgn.1 h9;omega;omega,hgn.2.1,fun hm=>by rcases br g hm with h9|h9;exact hgn.2.2 h9;omega⟩,fun b hb=>z8 _ hb,fun b hb=>z1 _ (z1 _ (hSg b hb)),fun b hb=>z1 _ (z8 _ hb)⟩
   have c3:DU S (F5++(F7++S)) w w7:=⟨fun b hb=>z1 _ (z1 _ hb),fun b hb=>by rcases zi.1 hb with hb|hb;(rcases b2 b hb with h9|h9|h9;exact .inl (hSc b h9);(right;omega);(right;omega));rcases zi.1 hb with hb|hb;(rcases br b hb with h9|h9;exact .inl (hSv b h9);(right;omega));exact .inl hb,fun b hb=>by rcases zi.1 hb with hb|hb;(have:=au.high b hb;omega);rcases zi.1 hb with hb|hb;(exact dc.high b hb);(have:=hS b hb;omega),dd⟩
   refine AV Z Aa<|Ak (p:=zP g) 1 GN Z Z Aa<|Ak (p:=An (zP g) 1) (b:=g) (o:=1) 1 Cp Z Z Aa (Bm (k:=2) (w:=w7) Xo Z Z (Bg av.slc) e6 sM Aa fun w9 bs et c4=>?_)
   replace c4:BX w9.heap g [vp,zI ip,v5,rg0,zN,rv0,zI (s0:Int),zI c0]:=c4
   have e7:At S w w9:=dd.trans (bs.sub (B7 hgS))
   have e8:=BK.chg av bs
   have e9:=c3.set hgS bs
   have ea:w7.heap.size≤w9.heap.size:=bs.size
   refine AV Z Aa<|Ak (p:=zP g) 5 E7 Z Z Aa (Bm (k:=5) (w:=w9) I6 Z Z (Bg av.slv) c4 sM Aa fun f3 ae eb af=>?_)
   replace af:BX f3.heap g [vp,zI ip,v5,rg0,zN,v7,zI (s0:Int),zI c0]:=af
   have ec:At S w f3:=e7.trans (ae.sub (B7 hgS))
   have b3:=BK.chg e8 ae
   have c5:=e9.set hgS ae
   have de:w9.heap.size≤f3.heap.size:=ae.size
   exact Aj<|gK [0,0,0,2,0,0,0] Z<|Ad 1 Z<|AV Z Aa<|Ak (p:=zP g) 5 E7 Z Z Aa<|Af (p:=An (zP g) 5) (.inr Z) v7 B6 Z (af.ldp (i:=5) sM) Aa<|AR (v:=v7) Bt Z (BK.slv b3) Aa<|Bk (T.vals.length:Int) Z Z (Bi O2 O2) Aa<|Ac 1 Z<|A1<|Ah [6] Z (zI (T.vals.length:Int)) Z ⟨_,(by rfl),c5,⟨_,_,_,af,b3⟩⟩
  refine Jx.fa<|BA (u:=zI v) (B:=w4.heap.size) AJ Bt BG Z Z (Nb w4.heap.size w4.heap.size _ _ _hv) (A7 _) Aa ?_
  intro ga f4 a0 ed c6
  refine Aj ?_
  have df:w4.heap.size≤f4.heap.size:=a0.size
  have b4:=Ow.ext (w:=w4) (Au AY) az a0
  have b5:=Ow.ext (w:=w4) (AZ AJ) b0 a0
  have b6:=Ow.ext (w:=w4) (Au Bb) b1 a0
  have c7:=d8.ext (Au AY) a0
  have c8:=BX.ext (w:=w4) d9 a0
  have c9:At S w f4:=da.ext a0
  have ca:=db.ext a0
  refine Jx.gP<|KW (v:=rc0) (a:=v4) AY JY FD Z (by decide) Z Z b4 c7 oM (Nat.zero_le _) (Nat.zero_le _) oM (by unfold maxLen;omega) Aa ?_
  intro fe fr fs a1 cb a8
  refine Aj ⟨At.sub a1 fun b hb=>z8 _ hb,?_⟩
  have dg:f4.heap.size≤fr.heap.size:=a1.size
  have b7:=b5.keep (AZ AJ) a1 fun b hb hm=>hdj.2.1 b hb hm
  have b8:=b6.keep (Au Bb) a1 fun b hb hm=>hdj.1 b hb hm
  have cc:=c6.chg (o1) a1 fun b hb=>zH<|hOc.high b hb
  have cd:=BX.chg c8 a1 hgn.1
  have ce:At S w fr:=c9.trans (a1.sub hSc)
  have cf:=ca.more a1 hSc
  refine Jx.gP<|FI (v:=rv0) (a:=ga) Bt BG Z Z Z b7 cc.rd1 (Nat.zero_le _) Vg Vf Aa ?_
  intro f1 ew fx a4 b9 ag
  refine Aj ⟨At.sub a4 fun b hb=>z1 _ hb,?_⟩
  have dh:fr.heap.size≤ew.heap.size:=a4.size
  have a9:=cb.keep (Au AY) a4 fun b hb hm=>by rcases a8 b hm with h9|h9|h9;exact hdj.2.1 b h9 hb;(have:=hOv.high b hb;omega);(have:=hOv.high b hb;omega)
  have ba:=b8.keep (Au Bb) a4 fun b hb hm=>hdj.2.2 b hm hb
  have cg:=BX.chg cd a4 hgn.2.2
  have bb:At S w ew:=ce.trans (a4.sub hSv)
  have ee:=cf.more a4 hSv
  refine Jx.VI Z ?_
  have aa:BK 46 177 2 (fs++(fx++S)) g ew.heap fe rg0 f1 (T.put c v):=⟨fs,Fg,fx,a9.up oM,ba.up oM,b9,⟨fun b hb hm=>by rcases a8 b hb with h9|h9|h9;exact hdj.1 b h9 hm;(have:=hOg.high b hm;omega);(have:=hOg.high b hm;omega),fun b hb hm=>by rcases ag b hm with h8|h8;(rcases a8 b hb with h9|h9|h9;exact hdj.2.1 b h9 h8;(have:=hOv.high b h8;omega);(have:=hOv.high b h8;omega));(have:=a9.high b hb;omega),fun b hm hb=>by rcases ag b hb with h8|h8;exact hdj.2.2 b hm h8;(have:=hOg.high b hm;omega)⟩,⟨fun hm=>by rcases a8 g hm with h9|h9|h9;exact hgn.1 h9;omega;omega,hgn.2.1,fun hm=>by rcases ag g hm with h9|h9;exact hgn.2.2 h9;omega⟩,fun b hb=>z8 _ hb,fun b hb=>z1 _ (z1 _ (hSg b hb)),fun b hb=>z1 _ (z8 _ hb)⟩
  have bc:DU S (fs++(fx++S)) w ew:=⟨fun b hb=>z1 _ (z1 _ hb),fun b hb=>by rcases zi.1 hb with hb|hb;(rcases a8 b hb with h9|h9|h9;exact .inl (hSc b h9);(right;omega);(right;omega));rcases zi.1 hb with hb|hb;(rcases ag b hb with h9|h9;exact .inl (hSv b h9);(right;omega));exact .inl hb,fun b hb=>by rcases zi.1 hb with hb|hb;(have:=a9.high b hb;omega);rcases zi.1 hb with hb|hb;(exact b9.high b hb);(have:=hS b hb;omega),bb⟩
  refine AV Z Aa<|Ak (p:=zP g) 1 GN Z Z Aa<|Ak (p:=An (zP g) 1) (b:=g) (o:=1) 1 Cp Z Z Aa (Bm (k:=2) (w:=ew) Xo Z Z (Bg aa.slc) cg sM Aa fun ey ah ef aw=>?_)
  replace aw:BX ey.heap g [vp,zI ip,fe,rg0,zN,rv0,zI (s0:Int),zI c0]:=aw
  have ch:At S w ey:=bb.trans (ah.sub (B7 hgS))
  have ci:=BK.chg aa ah
  have cj:=bc.set hgS ah
  have di:ew.heap.size≤ey.heap.size:=ah.size
  refine AV Z Aa<|Ak (p:=zP g) 5 E7 Z Z Aa (Bm (k:=5) (w:=ey) I6 Z Z (Bg aa.slv) aw sM Aa fun g0 ai eg aj=>?_)
  replace aj:BX g0.heap g [vp,zI ip,fe,rg0,zN,f1,zI (s0:Int),zI c0]:=aj
  have eh:At S w g0:=ch.trans (ai.sub (B7 hgS))
  have bd:=BK.chg ci ai
  have ck:=cj.set hgS ai
  have dj:ey.heap.size≤g0.heap.size:=ai.size
  exact Aj<|gK [0,0,0,2,0,0,0] Z<|Ad 1 Z<|AV Z Aa<|Ak (p:=zP g) 5 E7 Z Z Aa<|Af (p:=An (zP g) 5) (.inr Z) f1 B6 Z (aj.ldp (i:=5) sM) Aa<|AR (v:=f1) Bt Z (BK.slv bd) Aa<|Bk (T.vals.length:Int) Z Z (Bi O2 O2) Aa<|Ac 1 Z<|A1<|Ah [6] Z (zI (T.vals.length:Int)) Z ⟨_,(by rfl),ck,⟨_,_,_,aj,bd⟩⟩
 refine Jx.fa<|BA (u:=zI v) (B:=w1.heap.size) AJ Bt BG Z Z (Nb w1.heap.size w1.heap.size _ _ _hv) (A7 _) Aa ?_
 intro gb eu a5 ei cl
 refine Aj ?_
 have dk:w1.heap.size≤eu.heap.size:=a5.size
 have be:=Ow.ext (w:=w1.drew) (Au AY) hOc a5
 have bf:=Ow.ext (w:=w1.drew) (AZ AJ) hOv a5
 have bg:=Ow.ext (w:=w1.drew) (Au Bb) hOg a5
 have cm:=BX.ext (w:=w1.drew) a7 a5
 have cn:At S w eu:=d6.drew.ext a5
 have co:=d7.drew.ext a5
 refine Jx.fa<|ES (cs:=[zI c.op,zI c.a,zI c.b,zI c.num]) (y:=c) (B:=eu.heap.size) AY JY FD Z (by decide) Z (Qc (U:=eu.heap.size) hc) (A7 _) Aa ?_
 intro gc g4 a2 ej cp
 refine Aj ?_
 have dl:eu.heap.size≤g4.heap.size:=a2.size
 have bh:=Ow.ext (w:=eu) (Au AY) be a2
 have bi:=Ow.ext (w:=eu) (AZ AJ) bf a2
 have bj:=Ow.ext (w:=eu) (Au Bb) bg a2
 have cq:=cl.ext (o1) a2
 have cr:=BX.ext (w:=eu) cm a2
 have ct:At S w g4:=cn.ext a2
 have cu:=co.ext a2
 refine Jx.gP<|KW (v:=rc0) (a:=gc) AY JY FD Z (by decide) Z Z bh cp oM (Nat.zero_le _) (Nat.zero_le _) oM (by unfold maxLen;omega) Aa ?_
 intro g5 g6 g7 a3 cv ab
 refine Aj ⟨At.sub a3 fun b hb=>z8 _ hb,?_⟩
 have dm:g4.heap.size≤g6.heap.size:=a3.size
 have bk:=bi.keep (AZ AJ) a3 fun b hb hm=>hdj.2.1 b hb hm
 have bl:=bj.keep (Au Bb) a3 fun b hb hm=>hdj.1 b hb hm
 have cw:=cq.chg (o1) a3 fun b hb=>zH<|hOc.high b hb
 have cx:=BX.chg cr a3 hgn.1
 have cy:At S w g6:=ct.trans (a3.sub hSc)
 have cz:=cu.more a3 hSc
 refine Jx.gP<|FI (v:=rv0) (a:=gb) Bt BG Z Z Z bk cw.rd1 (Nat.zero_le _) Vg Vf Aa ?_
 intro f2 ex g8 a6 bm ak
 refine Aj ⟨At.sub a6 fun b hb=>z1 _ hb,?_⟩
 have dn:g6.heap.size≤ex.heap.size:=a6.size
 have ac:=cv.keep (Au AY) a6 fun b hb hm=>by rcases ab b hm with h9|h9|h9;exact hdj.2.1 b h9 hb;(have:=hOv.high b hb;omega);(have:=hOv.high b hb;omega)
 have bn:=bl.keep (Au Bb) a6 fun b hb hm=>hdj.2.2 b hm hb
 have d0:=BX.chg cx a6 hgn.2.2
 have bo:At S w ex:=cy.trans (a6.sub hSv)
 have ek:=cz.more a6 hSv
 refine Jx.VI Z ?_
 have ad:BK 46 177 2 (g7++(g8++S)) g ex.heap g5 rg0 f2 (T.put c v):=⟨g7,Fg,g8,ac.up oM,bn.up oM,bm,⟨fun b hb hm=>by rcases ab b hb with h9|h9|h9;exact hdj.1 b h9 hm;(have:=hOg.high b hm;omega);(have:=hOg.high b hm;omega),fun b hb hm=>by rcases ak b hm with h8|h8;(rcases ab b hb with h9|h9|h9;exact hdj.2.1 b h9 h8;(have:=hOv.high b h8;omega);(have:=hOv.high b h8;omega));(have:=ac.high b hb;omega),fun b hm hb=>by rcases ak b hb with h8|h8;exact hdj.2.2 b hm h8;(have:=hOg.high b hm;omega)⟩,⟨fun hm=>by rcases ab g hm with h9|h9|h9;exact hgn.1 h9;omega;omega,hgn.2.1,fun hm=>by rcases ak g hm with h9|h9;exact hgn.2.2 h9;omega⟩,fun b hb=>z8 _ hb,fun b hb=>z1 _ (z1 _ (hSg b hb)),fun b hb=>z1 _ (z8 _ hb)⟩
 have bp:DU S (g7++(g8++S)) w ex:=⟨fun b hb=>z1 _ (z1 _ hb),fun b hb=>by rcases zi.1 hb with hb|hb;(rcases ab b hb with h9|h9|h9;exact .inl (hSc b h9);(right;omega);(right;omega));rcases zi.1 hb with hb|hb;(rcases ak b hb with h9|h9;exact .inl (hSv b h9);(right;omega));exact .inl hb,fun b hb=>by rcases zi.1 hb with hb|hb;(have:=ac.high b hb;omega);rcases zi.1 hb with hb|hb;(exact bm.high b hb);(have:=hS b hb;omega),bo⟩
 refine AV Z Aa<|Ak (p:=zP g) 1 GN Z Z Aa<|Ak (p:=An (zP g) 1) (b:=g) (o:=1) 1 Cp Z Z Aa (Bm (k:=2) (w:=ex) Xo Z Z (Bg ad.slc) d0 sM Aa fun ez al el ax=>?_)
 replace ax:BX ez.heap g [vp,zI ip,g5,rg0,zN,rv0,zI (s0:Int),zI c0]:=ax
 have d1:At S w ez:=bo.trans (al.sub (B7 hgS))
 have d2:=BK.chg ad al
 have d3:=bp.set hgS al
 have dp:ex.heap.size≤ez.heap.size:=al.size
 refine AV Z Aa<|Ak (p:=zP g) 5 E7 Z Z Aa (Bm (k:=5) (w:=ez) I6 Z Z (Bg ad.slv) ax sM Aa fun g9 am em an=>?_)
 replace an:BX g9.heap g [vp,zI ip,g5,rg0,zN,f2,zI (s0:Int),zI c0]:=an
 have en:At S w g9:=d1.trans (am.sub (B7 hgS))
 have bq:=BK.chg d2 am
 have d4:=d3.set hgS am
 have dq:ez.heap.size≤g9.heap.size:=am.size
 exact Aj<|gK [0,0,0,2,0,0,0] Z<|Ad 1 Z<|AV Z Aa<|Ak (p:=zP g) 5 E7 Z Z Aa<|Af (p:=An (zP g) 5) (.inr Z) f2 B6 Z (an.ldp (i:=5) sM) Aa<|AR (v:=f2) Bt Z (BK.slv bq) Aa<|Bk (T.vals.length:Int) Z Z (Bi O2 O2) Aa<|Ac 1 Z<|A1<|Ah [6] Z (zI (T.vals.length:Int)) Z ⟨_,(by rfl),d4,⟨_,_,_,an,bq⟩⟩
def eI (F d:Nat):Prop:=∀(w:World) (S:List Nat) (g:Nat) (vp:Value) (dp:Nat) (ip:Int) (s0:Nat) (c0:Int) (p:List Fn) (T:Tp) (ve:Value) (ex:Ex) (vv:Value) (env:List Int) (hS:∀b∈S,b<w.heap.size) (hgS:g∈S) (hR0:SE 46 177 2 S g w.heap vp ip T s0 c0) (hp:RP S dp w.heap vp p) (_hip:Bn ip) (hs0:s0≤3000) (hc0:0≤c0∧c0≤9) (hbd:GK T s0) (hex:RX S d w.heap ve ex) (henv:RN S (B4 rI) w.heap vv env) (hqenv:C3 vv)
  (hvp:FQ p) (hF:F≤p.length) (hwf:wf p ((F:Nat):Int) ex ((env.length:Nat):Int)=true) (hdp:env.length+ex.deep≤1000000) (hen:c0=0→Gj T env),
  Calls Tryz.prog 118 #[.pointer (some ⟨g,0,none⟩),.agg #[.int .i64 ex.kind,.int .i64 ex.num,.int .i64 ex.pick,.int .i64 ex.count,ve],vv] w (fun e w'=>∃(r:Int) (S':List Nat) (T':Tp) (s1:Nat) (c1:Int),e=.returned (.int .i64 r)∧DU S S' w w'∧SE 46 177 2 S' g w'.heap vp ip T' s1 c1∧XO T T' s0 s1 c1∧(c1=0→0≤r∧r<((T'.vals.length:Nat):Int))∧(Bn r)∧AL (go c0 (Ej (Hi p F) ex env s0 T)) (r,T') s1 c1)
def gT (F d:Nat):Prop:=∀(w:World) (S:List Nat) (g:Nat) (vp:Value) (dp:Nat) (ip:Int) (s0:Nat) (c0:Int) (p:List Fn) (T:Tp) (vl:Value) (l:List Ex) (vv:Value) (env:List Int) (hS:∀b∈S,b<w.heap.size) (hgS:g∈S) (hR0:SE 46 177 2 S g w.heap vp ip T s0 c0) (hp:RP S dp w.heap vp p) (_hip:Bn ip) (hs0:s0≤3000) (hc0:0≤c0∧c0≤9) (hbd:GK T s0) (hl:RN S (D5 5 (LH d)) w.heap vl l) (henv:RN S (B4 rI) w.heap vv env) (hqenv:C3 vv)
  (hvp:FQ p) (hF:F≤p.length) (hwf:∀k,k<l.length→wf p ((F:Nat):Int) (l.getD k Ex.zero) ((env.length:Nat):Int)=true) (hdp:∀k,k<l.length→env.length+(l.getD k Ex.zero).deep≤1000000) (hll:l.length≤1000000) (hen:c0=0→Gj T env),
  Calls Tryz.prog 59 #[.pointer (some ⟨g,0,none⟩),vl,vv] w (fun e w'=>∃(v:Value) (xs:List Int) (S':List Nat) (T':Tp) (s1:Nat) (c1:Int),e=.returned v∧DU S S' w w'∧SE 46 177 2 S' g w'.heap vp ip T' s1 c1∧XO T T' s0 s1 c1∧PR S' w.heap.size (B4 rI) w'.heap v xs∧C3 v∧xs.length=l.length∧(c1=0→Gj T' xs)∧AL (go c0 (Ey (Hi p F) l env s0 T)) (xs,T') s1 c1)
theorem J1 (w:World)(S:List Nat)(F:Nat)(g:Nat)(vp:Value)(dp:Nat)(ip:Int)(s0:Nat)(c0:Int)(p:List Fn)(T:Tp)(dl:Nat)(vl:Value)(l:List Ex)(vv:Value)(env:Sr)(hS:∀b∈S,b<w.heap.size)(hgS:g∈S)(hR0:SE 46 177 2 S g w.heap vp ip T s0 c0)(hp:RP S dp w.heap vp p)(_hip:Bn ip)(hs0:s0≤3000)(hc0:0≤c0∧c0≤9)(hbd:GK T s0)(hl:RN S (D5 5 (LH dl)) w.heap vl l)(henv:RN S (B4 rI) w.heap vv env)(hqenv:C3 vv)(hvp:FQ p)(hF:F≤p.length)(hwf:∀k,k<l.length→wf p (F:Int) (l.getD k Ex.zero) (env.length:Int)=true)(hdp:∀k,k<l.length→env.length+(l.getD k Ex.zero).deep≤1000000)(hll:l.length≤1000000)(hen:c0=0→Gj T env)(IHv:∀d',d'<dl→eI F d') :
  Calls Tryz.prog 59 #[zP g,vl,vv] w (fun e w'=>∃(v:Value) (xs:Sr) (S':List Nat) (T':Tp) (s1:Nat) (c1:Int),e=.returned v∧DU S S' w w'∧SE 46 177 2 S' g w'.heap vp ip T' s1 c1∧XO T T' s0 s1 c1∧PR S' w.heap.size (B4 rI) w'.heap v xs∧C3 v∧xs.length=l.length∧(c1=0→Gj T' xs)∧AL (go c0 (Ey (Hi p F) l env s0 T)) (xs,T') s1 c1):=by
 refine Aq [zP g,vl,vv] 26 Tryz.func59 Z Z sM ?_
 have bd:At S w w:=At.refl S w
 have ce:=hp.lenle
 unfold maxLen at ce
 have cf:=hl.lenle
 unfold maxLen at cf
 have cg:=henv.lenL
 unfold maxLen at cg
 obtain⟨rc0,rg0,rv0,be,bf⟩:=hR0
 have cu:=be.lt
 have hG0:DU S S w w:=DU.refl hS
 refine gL Z<|gK [3,0] Z (Cn (rI) AJ Bt BG Aa fun v1 w1 ab bs bg=>?_)
 have ao:w.heap.size≤w1.heap.size:=ab.size
 have bh:At S w w1:=bd.ext ab
 have ae:=be.ext ab
 have bi:=BK.ext bf ab
 have bj:=hG0.ext ab
 refine Ac 1 Z<|A0<|gK [0,0,0] Z<|Ad 1 Z<|AR (v:=vl) CR Z hl.isSl Aa<|Ac 1 Z<|A3 ?_
 obtain⟨Fo0,af⟩:=Ow.of_fr bg (A7 _)
 have ap:∀b∈Fo0,b∉S:=fun b hb hm=>by have:=af.low b hb;have:=hS b hm;omega
 have hMs:=bi
 have hGs:=bj
 refine AU (S:=Nat×Value×Sr×List Nat×List Nat×Tp×Nat×Int×Value×Value×Value) (fun⟨k,vo,xs,Fo,S9,T9,s9,c9,ch,vg9,vv9⟩=>([(7,vo),(13,zI (k:Int)),(0,zP g),(2,vv),(11,vl),(12,zI (l.length:Int))])) (fun⟨k,vo,xs,Fo,S9,T9,s9,c9,ch,vg9,vv9⟩ W=>At S w W∧BX W.heap g [vp,zI ip,ch,vg9,zN,vv9,zI (s9:Int),zI c9]∧k≤l.length∧DU S S9 w W∧BK 46 177 2 S9 g W.heap ch vg9 vv9 T9∧XO T T9 s0 s9 c9∧Ow (Bp rI 2) w.heap.size W.heap.size W.heap vo xs Fo∧(∀b∈Fo,b∉S9)∧xs.length=k∧(c9=0→c0=0)∧(c9=0→Gj T9 xs)∧AL (go c0<|Ey (Hi p F) (l.take k) env s0 T) (xs,T9) s9 c9) (fun⟨k,vo,xs,Fo,S9,T9,s9,c9,ch,vg9,vv9⟩=>l.length-k) (0,v1,[],Fo0,S,T,s0,c0,rc0,rg0,rv0) ⟨rfl,rfl,rfl,rfl,rfl,rfl,trivial⟩ ⟨bh,ae,sD,hGs,hMs,(by exact⟨hbd,zO⟩),af,ap,(by rfl),(by exact fun h=>h),(by exact fun _=>Gj.nil _),(by exact Mu _ _ _ _ _ _)⟩ ?_
 clear bd bf hG0 bg bs ab ao bh bi bj
 rintro⟨k,vo,xs,Fo,S9,T9,s9,c9,ch,vg9,vv9⟩ ρ3 w3 ⟨aq,a3,bk,hGl,hMl,hPl,hOl,hdl,hxl,hzl,hxb,hrl⟩
 have bt:w.heap.size≤w3.heap.size:=aq.size
 have c7:=a3.lt
 have hnl:=hPl.num
 have hbl:=hPl.bnd
 refine gK [0] Z ?_
 by_cases bl:(k:Int)<(l.length:Int)
 ·refine AI true Z Z (A5 bl) Aa<|Aj<|A0<|Ag Z<|A2<|A0<|A3<|gK [0,2,3,4] Z ?_
  have hkl:k<l.length:=by omega
  refine Aw (v:=vl) k CR Bj Z Z hl.isSl Z sD Aa ?_
  obtain⟨cs6,bu,bv⟩:=hl.get (Ax dl) Ex.zero (k:=k) sD
  obtain⟨dd6,ac,c8,rfl,am⟩:=RX.of bu
  have ar:=am.rn.lenle
  unfold maxLen at ar
  refine AK (p:=Ay vl k 5) (.inr Z) [zI<|(l.getD k Ex.zero).kind,zI<|(l.getD k Ex.zero).num,zI<|(l.getD k Ex.zero).pick,zI<|(l.getD k Ex.zero).count,ac] Bh Z (fun cl au=>bv cl<|aq.ext au) Z Aa ?_
  have ca:=a3.lt
  refine Bs (z:=.agg #[zI 0,zI 0,zI 0,zI 0,zN]) Ir Aa fun w7 ad cb av=>?_
  have bw:w3.heap.size≤w7.heap.size:=ad.size
  have bx:At S w w7:=aq.ext ad
  have a7:=a3.ext ad
  have bz:=BK.ext hMl ad
  have c2:=hGl.ext ad
  have hO10k:=hOl.ext (AZ AJ) ad
  replace av:BX w7.heap w3.heap.size [zI 0,zI 0,zI 0,zI 0,zN]:=av
  refine BE (vs:=[zI<|(l.getD k Ex.zero).kind,zI<|(l.getD k Ex.zero).num,zI<|(l.getD k Ex.zero).pick,zI<|(l.getD k Ex.zero).count,ac]) Bh Z Z am.ones av Z Z Aa fun cc a4 c3 a8=>?_
  replace a8:BX cc.heap w3.heap.size [zI ((l.getD k Ex.zero).kind),zI ((l.getD k Ex.zero).num),zI ((l.getD k Ex.zero).pick),zI ((l.getD k Ex.zero).count),ac]:=a8
  have a9:At S w cc:=bx.fresh a4 (fun _ h=>zE h)
  have aw:=BK.chgO bz a4 fun b hb hm=>by rw[A9 hb]at hm;exact(zH<|hGl.lt _ hm)
  have a1:=c2.fresh a4 fun _ h=>zE h
  have bm:w7.heap.size≤cc.heap.size:=a4.size
  have ax:=a7.chg a4 (zB ·)
  have ag:=hO10k.keep (AZ AJ) a4 fun b hb hm=>by have:=A9 hb;have:=hO10k.low _ hm;have:=hO10k.high _ hm;omega
  refine Aj<|Ab _ [0,0,2,0,4,3,4,0] Z<|Ad 2 Z<|AK (p:=zP w3.heap.size) (.inr Z) [zI<|(l.getD k Ex.zero).kind,zI<|(l.getD k Ex.zero).num,zI<|(l.getD k Ex.zero).pick,zI<|(l.getD k Ex.zero).count,ac] Bh Z (fun cl au=>LD.of_box<|BX.ext (w:=cc) a8 au) Z Aa<|Ad 1 Z ?_
  refine AD 118 [] [] [zP g,.agg #[zI<|(l.getD k Ex.zero).kind,zI<|(l.getD k Ex.zero).num,zI<|(l.getD k Ex.zero).pick,zI<|(l.getD k Ex.zero).count,ac],vv] Z Z MI Aa (IHv dd6 oM _ S9 g vp dp ip (s9) (c9) p (T9) ac (l.getD k Ex.zero) vv (env) (fun b hb=>(a1.lt b hb:b<cc.heap.size)) (a1.sub _ hgS) ⟨_,_,_,ax,aw⟩ (RN.stp (Am<|Az dp) hp a9 a1.new) _hip oM oM hbl ⟨am.rng,RN.stp (Am<|Ax dd6) am.rn a9 a1.new⟩ (RN.stp g1 henv a9 a1.new) hqenv hvp oM (by exact hwf k hkl) (by exact hdp k hkl) (by intro h9;exact(hen<|hzl h9).mono oM)) ?_
  rintro cw cd ⟨cm,ci,cn,co,cp,rfl,a0,⟨cj,vg18,vv18,ay,az⟩,ah,ai,aj,ak⟩
  refine⟨_,rfl,?_⟩
  have bn:cc.heap.size≤cd.heap.size:=a0.chg.size
  have b0:At S w cd:=a9.stp a0.chg a1.new
  have b1:=ag.keep (AZ AJ) a0.chg fun b hb hm=>hdl b hm hb
  have a5:∀b∈Fo,b∉ci:=fun b hb hm=>(a0.new b hm).elim (hdl b hb) (fun h9=>zH<|ag.high b hb)
  have b2:=a8.chg a0.chg fun hm=>(zH<|hGl.lt _ hm)
  have b3:w3.heap.size∉ci:=fun hm=>(a0.new _ hm).elim (fun hm=>(zH<|hGl.lt _ hm)) (fun h9=>by omega)
  have b4:=a1.trans a0
  have bo:=ah.bnd
  have bp:=ah.num
  have hcz:=fun h9=>aL ak h9
  have hrv:=ai
  refine (BA (u:=zI cm) (B:=cd.heap.size) AJ Bt BG Z Z (Nb cd.heap.size cd.heap.size _ _ aj) (A7 _) Aa ?_)
  intro cs ck a2 c4 b5
  have bq:cd.heap.size≤ck.heap.size:=a2.size
  have b6:At S w ck:=b0.ext a2
  have aa:=ay.ext a2
  have an:=b2.ext a2
  have b7:=BK.ext az a2
  have al:=b4.ext a2
  have hO29k:=b1.ext (AZ AJ) a2
  refine FI (v:=vo) (a:=cs) Bt BG Z Z Z hO29k b5.rd1 oM sD (by unfold maxLen;first|omega|assumption|(simp;done)|(simp;omega)) Aa fun ct cq cr a6 c5 b8=>?_
  have br:ck.heap.size≤cq.heap.size:=a6.size
  have b9:At S w cq:=b6.fresh a6 (fun c hc=>zH<|hO29k.low c hc)
  have c6:∀b∈cr,b∉ci:=fun b hb hm=>(b8 b hb).elim (fun h9=>a5 b h9 hm) (fun h9=>zH<|al.lt b hm)
  have ba:=BK.chgO b7 a6 a5
  have bb:=al.fresh a6 fun c hc=>zH<|hO29k.low c hc
  have bc:=aa.chg a6 fun hm=>zH<|hO29k.low _ hm
  refine Ac 1 Z<|Ab _ [0,0] Z<|AQ ((k+1:Nat):Int) Z Z (Bi oM oM) Aa<|Ac 1 Z ?_
  have hMe:=ba
  have hGe:=bb
  have hPe:XO T cn s0 co cp:=⟨by assumption,zO⟩
  exact⟨(k+1,ct,xs++[cm],cr,ci,cn,co,cp,cj,vg18,vv18),_,rfl,zR,⟨b9,bc,sD,hGe,hMe,hPe,(by assumption),(by assumption),(by rw[z4,zd,hxl]),(by exact fun h9=>hzl (hcz h9)),(by exact fun h9=>Gj.snoc ((hxb (hcz h9)).mono oM) (hrv h9)),(by exact VT oM hrl (by assumption))⟩,zD⟩
 exact AI false Z Z (A6 bl) Aa<|Aj<|A0<|Ai Z<|A4<|AA<|AA<|Av<|gK [0,0] Z<|Ac 2 Z<|A1<|Ah [6] Z vo Z ⟨vo,xs,_,T9,s9,c9,rfl,hGl,⟨_,_,_,a3,hMl⟩,⟨hbl,oM⟩,PR.of_ow hOl hdl,hOl.fr.cap,oM,hxb,(by rw[za oM]at hrl;exact hrl)⟩
theorem FN (w:World)(v:Value)(n:Nat)(hs:FU v n)(hcs:C3 v)  :
  Calls Tryz.prog 169 #[v] w (fun e w'=>e=.returned (Eg v)∧w'=w):=by
 refine Aq [v] 9 Tryz.func169 Z Z sM ?_
 have a0:w=w:=rfl
 exact gL Z<|gK [0,0,0,0,0,0,0] Z<|Ad 2 Z<|AR (v:=v) Bt Z hs Aa<|Ad 1 Z<|AR (v:=v) Bt Z hs Aa<|SX (v:=v) Bt BG Z hs Z Z hcs Aa<|Ac 1 Z<|A1<|Ah [2] Z (Eg v) Z ⟨rfl,a0⟩
theorem L8 {p:Prop}(h:p:=by first|rw[(TC (k:=c_op) (a:=a) (b:=b) oM).1,(TC (k:=c_op) (a:=a) (b:=b) oM).2] <;> rfl|rw[(TD (k:=c_op) (a:=a) (b:=b) oM).1,(TD (k:=c_op) (a:=a) (b:=b) oM).2] <;> rfl|rw[(TF (k:=c_op) (a:=a) (b:=b) oM).1,(TF (k:=c_op) (a:=a) (b:=b) oM).2] <;> rfl|rw[(TG (k:=c_op) (a:=a) (b:=b) oM).1,(TG (k:=c_op) (a:=a) (b:=b) oM).2] <;> rfl|rw[(Ra (k:=c_op) (a:=a) (b:=b) oM oM).1,(Ra (k:=c_op) (a:=a) (b:=b) oM oM).2] <;> rfl|rw[(TH (k:=c_op) (a:=a) (b:=b) oM oM).1,(TH (k:=c_op) (a:=a) (b:=b) oM oM).2] <;> rfl):p:=h
theorem I1 (w:World)(c_op c_a c_b c_n:Int)(a:Int)(b:Int)(_hc_op:Bn c_op)(_hc_a:Bn c_a)(_hc_b:Bn c_b)(_hc_n:Bn c_n)(_ha:Bn a)(_hb:Bn b)(hop:3≤c_op∧c_op≤7) :
  Calls Tryz.prog 211 #[(.agg #[(zI c_op),(zI c_a),(zI c_b),(zI c_n)]),zI a,zI b] w (fun e w'=>e=.returned (.tuple #[zI (if Ez c_op b then 0 else Gz c_op a b),.bool (!decide (Ez c_op b))])∧AH w w'):=by
 refine Aq [.agg #[zI c_op,zI c_a,zI c_b,zI c_n],zI a,zI b] 35 Tryz.func211 Z Z sM ?_
 have a8:AH w w:=AH.refl w
 refine gK [3,0,0] Z (By (cs:=#[zI c_op,zI c_a,zI c_b,zI c_n]) Z Aa fun w1 a3 aa a2=>?_)
 have a9:=a3.size
 have a0:=a8.trans a3
 replace a2:BX w1.heap w.heap.size [zI c_op,zI c_a,zI c_b,zI c_n]:=a2
 refine Ac 2 Z<|A0<|gK [0,2] Z<|Ak (p:=zP w.heap.size) 0 HN Z Z Aa<|Af (p:=An (zP w.heap.size) 0) (.inr Z) (zI c_op) AC Z (a2.ldp (i:=0) sM) Aa<|Aj<|A3<|gK [0,0] Z ?_
 by_cases a4:c_op=((3:Nat):Int)
 ·refine Al true Z Z (A5 a4) Aa<|Ac 1 Z<|Ag Z<|gK [0,0,0,0,0] Z<|Ad 2 Z<|AB 176 [] [] [zI a,zI b] Z Z UJ Aa (zI<|md (a+b)) (fun wq=>Is wq _ _ _ha _hb)<|Ac 2 Z<|A1<|AG<|Ao ?_
  exact Ah [6,7] Z (.tuple #[zI<|md (a+b),.bool true]) Z ⟨L8,a0⟩
 refine Al false Z Z (A6 a4) Aa<|Ac 1 Z<|Ai Z<|gK [0,0] Z ?_
 by_cases a5:c_op=((4:Nat):Int)
 ·refine Al true Z Z (A5 a5) Aa<|Ac 1 Z<|Ag Z<|gK [0,0,0,0,0] Z<|Ad 2 Z<|AB 213 [] [] [zI a,zI b] Z Z UO Aa (zI<|md (a-b)) (fun wq=>HQ wq _ _ _ha _hb)<|Ac 2 Z<|A1<|AG<|Ao ?_
  exact Ah [6,7] Z (.tuple #[zI<|md (a-b),.bool true]) Z ⟨L8,a0⟩
 refine Al false Z Z (A6 a5) Aa<|Ac 1 Z<|Ai Z<|gK [0,0] Z ?_
 by_cases a6:c_op=((5:Nat):Int)
 ·refine Al true Z Z (A5 a6) Aa<|Ac 1 Z<|Ag Z<|gK [0,0,0,0,0] Z<|Ad 2 Z<|AB 237 [] [] [zI a,zI b] Z Z Yx Aa (zI<|md (a*b)) (fun wq=>KE wq _ _ _ha _hb)<|Ac 2 Z<|A1<|AG<|Ao ?_
  exact Ah [6,7] Z (.tuple #[zI<|md (a*b),.bool true]) Z ⟨L8,a0⟩
 refine Al false Z Z (A6 a6) Aa<|Ac 1 Z<|Ai Z<|gK [0,0] Z ?_
 by_cases a7:c_op=((7:Nat):Int)
 ·refine Al true Z Z (A5 a7) Aa<|Ac 1 Z<|Ag Z<|gK [0,0,0,0] Z<|Ad 1 Z<|AB 213 [] [] [zI ((0:Nat):Int),zI a] Z Z UO Aa (zI<|md (((0:Nat):Int)-a)) (fun wq=>HQ wq _ _ oM _ha)<|Ac 2 Z<|A1<|AG<|Ao ?_
  exact Ah [6,7] Z (.tuple #[zI<|md (((0:Nat):Int)-a),.bool true]) Z ⟨L8,a0⟩
 refine Al false Z Z (A6 a7) Aa<|Ac 1 Z<|Ai Z<|A2<|A0<|gK [0,0] Z<|Ad 1 Z ?_
 by_cases a1:b=((0:Nat):Int)
 ·refine Al true Z Z (A5 a1) Aa<|Aj<|Ag Z<|gK [0,0] Z<|Ac 2 Z<|A1<|Ao ?_
  exact Ah [6,7] Z (.tuple #[zI ((0:Nat):Int),.bool false]) Z ⟨L8,a0⟩
 refine Al false Z Z (A6 a1) Aa<|Aj<|Ai Z<|A2<|gK [0,0,0,0,0,0] Z<|Ad 2 Z<|AB 212 [] [] [zI b] Z Z Ys Aa (zI<|inv b) (fun wq=>It wq _ _hb)<|AB 237 [] [] [zI a,zI<|inv b] Z Z Yx Aa (zI<|md (a*(inv b))) (fun wq=>KE wq _ _ _ha<|O9 _)<|Ac 2 Z<|A1 ?_
 exact Ah [6,7] Z (.tuple #[zI<|md (a*(inv b)),.bool true]) Z ⟨L8,a0⟩
theorem OI {p:Prop}(h:p:=by first|exact VV hc00 oM (aM (by assumption))|exact VW hc00 oM (fb (by assumption))|exact VX hc00 oM|exact absurd (aM (Q:=Ez op _) (by assumption)) (XN oM)):p:=h
theorem OJ {p:Prop}(h:p:=by first|(intro h9;exact absurd h9 oM)|(intro h9;omega)):p:=h
theorem OK {p:Prop}(h:p:=by first|exact hbd.up oM|exact hbd.put _ hvr):p:=h
theorem EI {p:Prop}(h:p:=by have:=hG0.lt _ hm;omega):p:=h
theorem GB (w:World)(S:List Nat)(g:Nat)(vp:Value)(dp:Nat)(ip:Int)(s0:Nat)(c0:Int)(p:List Fn)(T:Tp)(op:Int)(vk:Value)(ks:Sr)(hS:∀b∈S,b<w.heap.size)(hgS:g∈S)(hR0:SE 46 177 2 S g w.heap vp ip T s0 c0)(hp:RP S dp w.heap vp p)(_hip:Bn ip)(hs0:s0≤3000)(hc0:0≤c0∧c0≤9)(hbd:GK T s0)(_hop:Bn op)(hks:RN S (B4 rI) w.heap vk ks)(hqks:C3 vk)(hop:3≤op∧op≤7)(hkl:1≤ks.length∧(op≠7→2≤ks.length))(hen:Gj T ks)(hc00:c0=0) :
  Calls Tryz.prog 170 #[zP g,zI op,vk] w (fun e w'=>∃(r:Int) (S':List Nat) (T':Tp) (c1:Int),e=.returned (zI r)∧DU S S' w w'∧SE 46 177 2 S' g w'.heap vp ip T' s0 c1∧GK T' (s0+1)∧((0≤c1∧c1≤9)∧T.vals.length≤T'.vals.length∧T'.vals.length≤T.vals.length+1∧T'.grd.length=T.grd.length)∧(c1=0→0≤r∧r<(T'.vals.length:Int))∧(Bn r)∧AL (go c0 (Qe op ks s0 T)) (r,T') s0 c1):=by
 refine Aq [zP g,zI op,vk] 51 Tryz.func170 Z Z sM ?_
 have bi:At S w w:=At.refl S w
 have cd:=hp.lenle
 unfold maxLen at cd
 have cg:=hks.lenL
 unfold maxLen at cg
 obtain⟨rc0,rg0,rv0,b0,bv⟩:=hR0
 have cx:=b0.lt
 have hG0:DU S S w w:=DU.refl hS
 have ch:=hen 0 oM
 have hbn:=hbd.ln hs0
 refine gL Z<|gK [0,0,0,2,0,3,4] Z<|Ad 2 Z<|Aw (v:=vk) 0 Bt BG Z Z hks.slL Z sD Aa ?_
 have am:=RN.getI (w:=w) (k:=0) hks sD
 refine Af (p:=Ay vk 0 1) (.inr Z) (zI<|ks.getD 0 0) AC Z (am.1 _ bi) Aa ?_
 have b1:∀(wq:World),(Instr.build 46 #[(0,zI op),(1,zI (ks.getD 0 0))]).run Tryz.prog wq=.ok (.agg #[zI op,zI (ks.getD 0 0),zI 0,zI 0]) wq:=by intro wq;kernel_rfl
 refine BQ (ps:=#[(0,zI op),(1,zI<|ks.getD 0 0)]) (.agg #[zI op,zI<|ks.getD 0 0,zI 0,zI 0]) (by simp only[zc,zf,zh];rfl) (fun wq=>b1  wq) Aa ?_
 have ci:=b0.lt
 refine Bs (z:=.agg #[zI 0,zI 0,zI 0,zI 0]) Qo Aa fun w3 an cj b2=>?_
 have bw:w.heap.size≤w3.heap.size:=an.size
 have bx:At S w w3:=bi.ext an
 have ao:=b0.ext an
 have bz:=BK.ext bv an
 have c2:=hG0.ext an
 replace b2:BX w3.heap w.heap.size [zI 0,zI 0,zI 0,zI 0]:=b2
 refine BE (vs:=[zI op,zI<|ks.getD 0 0,zI (0:Int),zI (0:Int)]) DZ Z Z (by intro u hu;simp only[ze,z2,or_false]at hu;rcases hu with rfl|rfl|rfl|rfl <;> first|exact⟨rfl,rfl⟩) b2 Z Z Aa fun w6 ap ck ag=>?_
 replace ag:BX w6.heap w.heap.size [zI op,zI (ks.getD 0 0),zI (0:Int),zI (0:Int)]:=ag
 have b3:At S w w6:=bx.fresh ap (fun _ h=>zE h)
 have af:=BK.chgO bz ap fun b hb hm=>by rw[A9 hb]at hm;exact EI
 have bj:=c2.fresh ap fun _ h=>zE h
 have c3:w3.heap.size≤w6.heap.size:=ap.size
 have az:=ao.chg ap (zB ·)
 refine Aj<|A0<|gK [0,0] Z<|Ad 1 Z ?_
 by_cases aq:op≠((7:Nat):Int)
 ·refine B2 true Z Z (A5 aq) Aa<|Aj<|Ag Z<|Ab _ [0,0,2,0,4] Z ?_
  have cl:=hen 1 oM
  refine Ad 1 Z<|Aw (v:=vk) 1 Bt BG Z Z hks.slL Z sD Aa ?_
  have ah:=RN.getI (w:=w) (k:=1) hks sD
  refine Af (p:=Ay vk 1 1) (.inr Z) (zI<|ks.getD 1 0) AC Z (ah.1 _ b3) Aa<|Ak (p:=zP w.heap.size) 2 BD Z Z Aa (Bm (k:=2) (w:=w6) HL Z Z ⟨rfl,rfl⟩ ag sM Aa fun cm a9 c4 a8=>?_)
  replace a8:BX cm.heap w.heap.size [zI op,zI (ks.getD 0 0),zI (ks.getD 1 0),zI (0:Int)]:=a8
  have b4:At S w cm:=b3.fresh a9 (fun _ h=>zE h)
  have a3:=BK.chgO af a9 fun b hb hm=>by rw[A9 hb]at hm;exact EI
  have b5:=bj.fresh a9 fun _ h=>zE h
  have bk:w6.heap.size≤cm.heap.size:=a9.size
  have ai:=az.chg a9 (zB ·)
  refine Aj<|A0<|AM _ [1,0,0,0,1,0,1,0,1,0,0,0,1,0,1,0,1,3,0,0,0,0,0] mixed (by kernel_rfl)<|AK (p:=zP w.heap.size) (.inl Z) [zI op,zI<|ks.getD 0 0,zI<|ks.getD 1 0,zI (0:Int)] DZ Z (fun cn aj=>LD.of_box<|BX.ext (w:=cm.drew) a8 aj) Z Aa<|Ad 1 Z<|AV Z Aa<|Ak (p:=zP g) 5 E7 Z Z Aa<|Af (p:=An (zP g) 5) (.inl Z) rv0 B6 Z (ai.ldp (i:=5) sM) Aa<|Ak (p:=zP w.heap.size) 1 BC Z Z Aa ?_
  refine Af (p:=An (zP w.heap.size) 1) (.inl Z) (zI<|ks.getD 0 0) AC Z (a8.ldp (i:=1) sM) Aa<|Aw (v:=rv0) ((ks.getD 0 0).toNat) Bt BG Z Z (BK.slv a3) oM oM Aa (Af (p:=Ay rv0 ((ks.getD 0 0).toNat) 1) (.inl Z) (zI<|T.vals.getD ((ks.getD 0 0).toNat) 0) AC Z ((BK.rdv a3).getI oM).1 Aa (Ad 1 Z<|AV Z Aa<|Ak (p:=zP g) 5 E7 Z Z Aa<|Af (p:=An (zP g) 5) (.inl Z) rv0 B6 Z (ai.ldp (i:=5) sM) Aa<|Ak (p:=zP w.heap.size) 2 BD Z Z Aa ?_))
  refine Af (p:=An (zP w.heap.size) 2) (.inl Z) (zI<|ks.getD 1 0) AC Z (a8.ldp (i:=2) sM) Aa<|Aw (v:=rv0) ((ks.getD 1 0).toNat) Bt BG Z Z (BK.slv a3) oM oM Aa (Af (p:=Ay rv0 ((ks.getD 1 0).toNat) 1) (.inl Z) (zI<|T.vals.getD ((ks.getD 1 0).toNat) 0) AC Z ((BK.rdv a3).getI oM).1 Aa (Ap 211 [] [] [.agg #[zI op,zI<|ks.getD 0 0,zI<|ks.getD 1 0,zI (0:Int)],zI<|T.vals.getD ((ks.getD 0 0).toNat) 0,zI<|T.vals.getD ((ks.getD 1 0).toNat) 0] Z Z Yr Aa (I1 _ (op) (ks.getD 0 0) (ks.getD 1 0) (0:Int) _ _ _hop am.2 ah.2 oM ((BK.rdv a3).getI oM).2 ((BK.rdv a3).getI oM).2 oM) ?_))
  rintro cy c7 ⟨rfl,a0⟩
  refine⟨_,rfl,a0,?_⟩
  replace a0:=a0.of_drew
  have bl:cm.heap.size≤c7.heap.size:=a0.size
  have ar:At S w c7:=b4.ext a0
  have a7:=ai.ext a0
  have a2:=a8.ext a0
  have c5:=(BK.rdv a3).ext g1 a0
  have au:=BK.ext a3 a0
  have aa:=b5.ext a0
  refine Ad 1 Z<|AP (vs:=[zI (if Ez op (T.vals.getD ((ks.getD 1 0).toNat) 0)then 0 else Gz op (T.vals.getD ((ks.getD 0 0).toNat) 0) (T.vals.getD ((ks.getD 1 0).toNat) 0)),.bool (!decide (Ez op<|T.vals.getD ((ks.getD 1 0).toNat) 0))]) (zI (if Ez op (T.vals.getD ((ks.getD 1 0).toNat) 0)then 0 else Gz op (T.vals.getD ((ks.getD 0 0).toNat) 0) (T.vals.getD ((ks.getD 1 0).toNat) 0))) Z Z Aa<|AP (vs:=[zI (if Ez op (T.vals.getD ((ks.getD 1 0).toNat) 0)then 0 else Gz op (T.vals.getD ((ks.getD 0 0).toNat) 0) (T.vals.getD ((ks.getD 1 0).toNat) 0)),.bool (!decide (Ez op<|T.vals.getD ((ks.getD 1 0).toNat) 0))]) (.bool (!decide (Ez op<|T.vals.getD ((ks.getD 1 0).toNat) 0))) Z Z Aa<|Ac 2 Z<|A0<|gK [0,0] Z ?_
  have hvr:0≤(if Ez op (T.vals.getD ((ks.getD 1 0).toNat) 0)then 0 else Gz op (T.vals.getD ((ks.getD 0 0).toNat) 0) (T.vals.getD ((ks.getD 1 0).toNat) 0))∧(if Ez op (T.vals.getD ((ks.getD 1 0).toNat) 0)then 0 else Gz op (T.vals.getD ((ks.getD 0 0).toNat) 0) (T.vals.getD ((ks.getD 1 0).toNat) 0))<1000003:=Rb _ _ _
  refine Ad 1 Z<|Bo (!(!decide (Ez op<|T.vals.getD ((ks.getD 1 0).toNat) 0))) Z Z Aa<|Aj ?_
  cases av:(!(!decide (Ez op (T.vals.getD ((ks.getD 1 0).toNat) 0))))
  ·refine Ai (by first|rfl|exact zW av)<|A2<|gK [0,2,0,4,0] Z<|Ad 1 Z<|AK (p:=zP w.heap.size) (.inr Z) [zI op,zI<|ks.getD 0 0,zI<|ks.getD 1 0,zI (0:Int)] DZ Z (fun cn aj=>LD.of_box<|BX.ext (w:=c7) a2 aj) Z Aa<|Ad 1 Z ?_
   refine AD 58 [] [] [zP g,.agg #[zI op,zI<|ks.getD 0 0,zI<|ks.getD 1 0,zI (0:Int)],zI (if Ez op (T.vals.getD ((ks.getD 1 0).toNat) 0)then 0 else Gz op (T.vals.getD ((ks.getD 0 0).toNat) 0) (T.vals.getD ((ks.getD 1 0).toNat) 0))] Z Z Xl Aa (D2 _ S g vp ip (s0) (c0) (T) (⟨op,ks.getD 0 0,ks.getD 1 0,(0:Int)⟩:As) (if Ez op (T.vals.getD ((ks.getD 1 0).toNat) 0)then 0 else Gz op (T.vals.getD ((ks.getD 0 0).toNat) 0) (T.vals.getD ((ks.getD 1 0).toNat) 0)) (fun b hb=>(aa.lt b hb:b<c7.heap.size)) (aa.sub _ hgS) ⟨_,_,_,a7,au⟩ _hip (by exact hbd.ln hs0) ⟨_hop,am.2,ah.2,(show Bn (0:Int)from by omega)⟩ (by have:=Kk op (T.vals.getD ((ks.getD 0 0).toNat) 0) (T.vals.getD ((ks.getD 1 0).toNat) 0);split <;> omega)) ?_
   rintro cz cq ⟨cs,rfl,a4,ct,vg20,vv20,b6,b7⟩
   refine⟨_,rfl,?_⟩
   have bm:c7.heap.size≤cq.heap.size:=a4.chg.size
   have c6:At S w cq:=ar.stp a4.chg aa.new
   have b8:w.heap.size∉cs:=fun hm=>(a4.new _ hm).elim (fun hm=>EI) (fun h9=>by omega)
   have b9:=aa.trans a4
   have bn:(T.put (⟨op,ks.getD 0 0,ks.getD 1 0,(0:Int)⟩:As) (if Ez op (T.vals.getD ((ks.getD 1 0).toNat) 0)then 0 else Gz op (T.vals.getD ((ks.getD 0 0).toNat) 0) (T.vals.getD ((ks.getD 1 0).toNat) 0))).vals.length=T.vals.length+1:=EA _ _ _
   have bo:(T.put (⟨op,ks.getD 0 0,ks.getD 1 0,(0:Int)⟩:As) (if Ez op (T.vals.getD ((ks.getD 1 0).toNat) 0)then 0 else Gz op (T.vals.getD ((ks.getD 0 0).toNat) 0) (T.vals.getD ((ks.getD 1 0).toNat) 0))).grd.length=T.grd.length:=rfl
   exact Ac 1 Z<|A1<|Ah [6] Z (zI (T.vals.length:Int)) Z ⟨(T.vals.length:Int),_,T.put (⟨op,ks.getD 0 0,ks.getD 1 0,(0:Int)⟩:As) (if Ez op (T.vals.getD ((ks.getD 1 0).toNat) 0)then 0 else Gz op (T.vals.getD ((ks.getD 0 0).toNat) 0) (T.vals.getD ((ks.getD 1 0).toNat) 0)),c0,rfl,b9,⟨_,_,_,b6,b7⟩,OK,oM,OJ,oM,OI⟩
  refine Ag (by first|rfl|exact zW av)<|gK [0,0,0,4] Z<|Ad 1 Z<|AV Z Aa<|Ak (p:=zP g) 7 G5 Z Z Aa (Bm (k:=7) (w:=c7) HL Z Z ⟨rfl,rfl⟩ a7 sM Aa fun co ab c8 ak=>?_)
  replace ak:BX co.heap g [vp,zI ip,rc0,rg0,zN,rv0,zI (s0:Int),zI ((6:Nat):Int)]:=ak
  have c9:At S w co:=ar.trans (ab.sub (B7 hgS))
  have ba:=BK.chg au ab
  have bb:=aa.set hgS ab
  have bp:c7.heap.size≤co.heap.size:=ab.size
  exact Aj<|gL Z<|A1<|Ao<|Ah [6] Z (zI ((0:Nat):Int)) Z ⟨((0:Nat):Int),_,T,((6:Nat):Int),rfl,bb,⟨_,_,_,ak,ba⟩,OK,oM,OJ,oM,OI⟩
 refine B2 false Z Z (A6 aq) Aa<|Aj<|Ai Z<|A2<|A0<|AM _ [1,0,0,0,1,0,1,0,1,0,0,0,1,0,1,0,1,3,0,0,0,0,0] mixed (by kernel_rfl)<|AK (p:=zP w.heap.size) (.inl Z) [zI op,zI<|ks.getD 0 0,zI (0:Int),zI (0:Int)] DZ Z (fun cn aj=>LD.of_box<|BX.ext (w:=w6.drew) ag aj) Z Aa<|Ad 1 Z<|AV Z Aa<|Ak (p:=zP g) 5 E7 Z Z Aa<|Af (p:=An (zP g) 5) (.inl Z) rv0 B6 Z (az.ldp (i:=5) sM) Aa<|Ak (p:=zP w.heap.size) 1 BC Z Z Aa ?_
 refine Af (p:=An (zP w.heap.size) 1) (.inl Z) (zI<|ks.getD 0 0) AC Z (ag.ldp (i:=1) sM) Aa<|Aw (v:=rv0) ((ks.getD 0 0).toNat) Bt BG Z Z (BK.slv af) oM oM Aa (Af (p:=Ay rv0 ((ks.getD 0 0).toNat) 1) (.inl Z) (zI<|T.vals.getD ((ks.getD 0 0).toNat) 0) AC Z ((BK.rdv af).getI oM).1 Aa (Ad 1 Z<|AV Z Aa<|Ak (p:=zP g) 5 E7 Z Z Aa<|Af (p:=An (zP g) 5) (.inl Z) rv0 B6 Z (az.ldp (i:=5) sM) Aa<|Ak (p:=zP w.heap.size) 2 BD Z Z Aa ?_))
 refine Af (p:=An (zP w.heap.size) 2) (.inl Z) (zI (0:Int)) AC Z (ag.ldp (i:=2) sM) Aa<|Aw (v:=rv0) ((0:Int).toNat) Bt BG Z Z (BK.slv af) oM oM Aa (Af (p:=Ay rv0 ((0:Int).toNat) 1) (.inl Z) (zI<|T.vals.getD ((0:Int).toNat) 0) AC Z ((BK.rdv af).getI oM).1 Aa (Ap 211 [] [] [.agg #[zI op,zI<|ks.getD 0 0,zI (0:Int),zI (0:Int)],zI<|T.vals.getD ((ks.getD 0 0).toNat) 0,zI<|T.vals.getD ((0:Int).toNat) 0] Z Z Yr Aa (I1 _ (op) (ks.getD 0 0) (0:Int) (0:Int) _ _ _hop am.2 oM oM ((BK.rdv af).getI oM).2 ((BK.rdv af).getI oM).2 oM) ?_))
 rintro d0 ca ⟨rfl,a1⟩
 refine⟨_,rfl,a1,?_⟩
 replace a1:=a1.of_drew
 have bq:w6.heap.size≤ca.heap.size:=a1.size
 have aw:At S w ca:=b3.ext a1
 have ac:=az.ext a1
 have a6:=ag.ext a1
 have cb:=(BK.rdv af).ext g1 a1
 have ax:=BK.ext af a1
 have ad:=bj.ext a1
 refine Ad 1 Z<|AP (vs:=[zI (if Ez op (T.vals.getD ((0:Int).toNat) 0)then 0 else Gz op (T.vals.getD ((ks.getD 0 0).toNat) 0) (T.vals.getD ((0:Int).toNat) 0)),.bool (!decide (Ez op<|T.vals.getD ((0:Int).toNat) 0))]) (zI (if Ez op (T.vals.getD ((0:Int).toNat) 0)then 0 else Gz op (T.vals.getD ((ks.getD 0 0).toNat) 0) (T.vals.getD ((0:Int).toNat) 0))) Z Z Aa<|AP (vs:=[zI (if Ez op (T.vals.getD ((0:Int).toNat) 0)then 0 else Gz op (T.vals.getD ((ks.getD 0 0).toNat) 0) (T.vals.getD ((0:Int).toNat) 0)),.bool (!decide (Ez op<|T.vals.getD ((0:Int).toNat) 0))]) (.bool (!decide (Ez op<|T.vals.getD ((0:Int).toNat) 0))) Z Z Aa<|Ac 2 Z<|A0<|gK [0,0] Z ?_
 have hvr:0≤(if Ez op (T.vals.getD ((0:Int).toNat) 0)then 0 else Gz op (T.vals.getD ((ks.getD 0 0).toNat) 0) (T.vals.getD ((0:Int).toNat) 0))∧(if Ez op (T.vals.getD ((0:Int).toNat) 0)then 0 else Gz op (T.vals.getD ((ks.getD 0 0).toNat) 0) (T.vals.getD ((0:Int).toNat) 0))<1000003:=Rb _ _ _
 refine Ad 1 Z<|Bo (!(!decide (Ez op<|T.vals.getD ((0:Int).toNat) 0))) Z Z Aa<|Aj ?_
 cases ay:(!(!decide (Ez op (T.vals.getD ((0:Int).toNat) 0))))
 ·refine Ai (by first|rfl|exact zW ay)<|A2<|gK [0,2,0,4,0] Z<|Ad 1 Z<|AK (p:=zP w.heap.size) (.inr Z) [zI op,zI<|ks.getD 0 0,zI (0:Int),zI (0:Int)] DZ Z (fun cn aj=>LD.of_box<|BX.ext (w:=ca) a6 aj) Z Aa<|Ad 1 Z ?_
  refine AD 58 [] [] [zP g,.agg #[zI op,zI<|ks.getD 0 0,zI (0:Int),zI (0:Int)],zI (if Ez op (T.vals.getD ((0:Int).toNat) 0)then 0 else Gz op (T.vals.getD ((ks.getD 0 0).toNat) 0) (T.vals.getD ((0:Int).toNat) 0))] Z Z Xl Aa (D2 _ S g vp ip (s0) (c0) (T) (⟨op,ks.getD 0 0,(0:Int),(0:Int)⟩:As) (if Ez op (T.vals.getD ((0:Int).toNat) 0)then 0 else Gz op (T.vals.getD ((ks.getD 0 0).toNat) 0) (T.vals.getD ((0:Int).toNat) 0)) (fun b hb=>(ad.lt b hb:b<ca.heap.size)) (ad.sub _ hgS) ⟨_,_,_,ac,ax⟩ _hip (by exact hbd.ln hs0) ⟨_hop,am.2,(show Bn (0:Int)from by omega),(show Bn (0:Int)from by omega)⟩ (by have:=Kk op (T.vals.getD ((ks.getD 0 0).toNat) 0) (T.vals.getD ((0:Int).toNat) 0);split <;> omega)) ?_
  rintro d1 cr ⟨cu,rfl,a5,cw,vg36,vv36,bc,bd⟩
  refine⟨_,rfl,?_⟩
  have br:ca.heap.size≤cr.heap.size:=a5.chg.size
  have cc:At S w cr:=aw.stp a5.chg ad.new
  have be:w.heap.size∉cu:=fun hm=>(a5.new _ hm).elim (fun hm=>EI) (fun h9=>by omega)
  have bf:=ad.trans a5
  have bs:(T.put (⟨op,ks.getD 0 0,(0:Int),(0:Int)⟩:As) (if Ez op (T.vals.getD ((0:Int).toNat) 0)then 0 else Gz op (T.vals.getD ((ks.getD 0 0).toNat) 0) (T.vals.getD ((0:Int).toNat) 0))).vals.length=T.vals.length+1:=EA _ _ _
  have bt:(T.put (⟨op,ks.getD 0 0,(0:Int),(0:Int)⟩:As) (if Ez op (T.vals.getD ((0:Int).toNat) 0)then 0 else Gz op (T.vals.getD ((ks.getD 0 0).toNat) 0) (T.vals.getD ((0:Int).toNat) 0))).grd.length=T.grd.length:=rfl
  exact Ac 1 Z<|A1<|Ah [6] Z (zI (T.vals.length:Int)) Z ⟨(T.vals.length:Int),_,T.put (⟨op,ks.getD 0 0,(0:Int),(0:Int)⟩:As) (if Ez op (T.vals.getD ((0:Int).toNat) 0)then 0 else Gz op (T.vals.getD ((ks.getD 0 0).toNat) 0) (T.vals.getD ((0:Int).toNat) 0)),c0,rfl,bf,⟨_,_,_,bc,bd⟩,OK,oM,OJ,oM,OI⟩
 refine Ag (by first|rfl|exact zW ay)<|gK [0,0,0,4] Z<|Ad 1 Z<|AV Z Aa<|Ak (p:=zP g) 7 G5 Z Z Aa (Bm (k:=7) (w:=ca) HL Z Z ⟨rfl,rfl⟩ ac sM Aa fun cp ae ce al=>?_)
 replace al:BX cp.heap g [vp,zI ip,rc0,rg0,zN,rv0,zI (s0:Int),zI ((6:Nat):Int)]:=al
 have cf:At S w cp:=aw.trans (ae.sub (B7 hgS))
 have bg:=BK.chg ax ae
 have bh:=ad.set hgS ae
 have bu:ca.heap.size≤cp.heap.size:=ae.size
 exact Aj<|gL Z<|A1<|Ao<|Ah [6] Z (zI ((0:Nat):Int)) Z ⟨((0:Nat):Int),_,T,((6:Nat):Int),rfl,bh,⟨_,_,_,al,bg⟩,OK,oM,OJ,oM,OI⟩
theorem QA (F d:Nat)(IH:∀d',d'<d→eI F d'):gT F d:=by
 intro w S g vp dp ip s0 c0 p T vl l vv env hS hgS hR0 hp hip hs0 hc0 hbd hl henv hqenv hvp hF hwf hdp hll hen
 exact J1 w S F g vp dp ip s0 c0 p T d vl l vv env hS hgS hR0 hp hip hs0 hc0 hbd hl henv hqenv hvp hF hwf hdp hll hen IH
theorem EX {p:Prop}(h:p:=by first|exact VQ oM|exact Sn oM oM|exact Zf hc00 hs1 oM|exact Zg hc00 hs1 oM|exact Zh hc00 hs1 oM oM hL1 oM|exact Zi hc00 hs1 oM oM hL1 oM (by assumption) hL2|exact Zj hc00 hs1 oM oM hL1 oM (by assumption) hL2|exact Zk hc00 hs1 oM oM hL1 hL2|exact TB hc00 hs1 hkg.1 hkg.2.1 hkg.2.2.1 hkg.2.2.2 hKr oM|exact VR hc00 hs1 oM oM hKr oM hL2|exact VS hc00 hs1 oM oM hKr oM (VU hrl9 oM oM)|exact aK hc00 hs1 hkg.1 hkg.2.1 hkg.2.2.1 hkg.2.2.2 oM oM hKr oM hL2):p:=h
theorem EY {p:Prop}(h:p:=by first|(intro h9;exact absurd h9 oM)|assumption|(intro h9;omega)|(intro h9;have:=hkb9 h9;omega)):p:=h
theorem HS {p:Prop}(h:p:=by first|assumption|exact hbd.up oM|exact GK.guard (by assumption) _ _ oM):p:=h
theorem EZ {p:Prop}(h:p:=by first|assumption|exact hbd.put _ oM|exact GK.dn (by assumption) oM oM):p:=h
theorem J2 (w:World)(S:List Nat)(F:Nat)(g:Nat)(vp:Value)(dp:Nat)(ip:Int)(s0:Nat)(c0:Int)(p:List Fn)(T:Tp)(dex:Nat)(ve:Value)(ex:Ex)(vv:Value)(env:Sr)(hS:∀b∈S,b<w.heap.size)(hgS:g∈S)(hR0:SE 46 177 2 S g w.heap vp ip T s0 c0)(hp:RP S dp w.heap vp p)(_hip:Bn ip)(hs0:s0≤3000)(hc0:0≤c0∧c0≤9)(hbd:GK T s0)(hex:RX S dex w.heap ve ex)(henv:RN S (B4 rI) w.heap vv env)(hqenv:C3 vv)(hvp:FQ p)(hF:F≤p.length)(hwf:wf p (F:Int) ex (env.length:Int)=true)(hdp:env.length+ex.deep≤1000000)(hen:c0=0→Gj T env)(IH1:∀F',F'<F→∀d,eI F' d)(IH2:∀d',d'<dex→eI F d') :
  Calls Tryz.prog 118 #[zP g,(.agg #[(zI ex.kind),(zI ex.num),(zI ex.pick),(zI ex.count),ve]),vv] w (fun e w'=>∃(r:Int) (S':List Nat) (T':Tp) (s1:Nat) (c1:Int),e=.returned (zI r)∧DU S S' w w'∧SE 46 177 2 S' g w'.heap vp ip T' s1 c1∧XO T T' s0 s1 c1∧(c1=0→0≤r∧r<(T'.vals.length:Int))∧(Bn r)∧AL (go c0 (Ej (Hi p F) ex env s0 T)) (r,T') s1 c1):=by
 refine Aq [zP g,.agg #[zI ex.kind,zI ex.num,zI ex.pick,zI ex.count,ve],vv] 190 Tryz.func118 Z Z sM ?_
 have j4:At S w w:=At.refl S w
 have lf:=hp.lenle
 unfold maxLen at lf
 have lg:=hex.rn.lenle
 unfold maxLen at lg
 have lh:=henv.lenL
 unfold maxLen at lh
 obtain⟨rc0,rg0,rv0,g9,j5⟩:=hR0
 have nj:=g9.lt
 have hG0:DU S S w w:=DU.refl hS
 have hdk:=Dq ex
 refine gK [3,0] Z ?_
 have ky:=g9.lt
 refine By (cs:=#[zI ex.kind,zI ex.num,zI ex.pick,zI ex.count,ve]) Z Aa fun w1 d3 ka g0=>?_
 have ga:w.heap.size≤w1.heap.size:=d3.size
 have gb:At S w w1:=j4.ext d3
 have ai:=g9.ext d3
 have g2:=BK.ext j5 d3
 have g3:=hG0.ext d3
 replace g0:BX w1.heap w.heap.size [zI ex.kind,zI ex.num,zI ex.pick,zI ex.count,ve]:=g0
 refine Ac 1 Z<|A0<|gK [0,0,0,2,0] Z<|Ad 1 Z<|AV Z Aa<|Ak (p:=zP g) 7 G5 Z Z Aa<|Af (p:=An (zP g) 7) (.inr Z) (zI c0) AC Z (ai.ldp (i:=7) sM) Aa ?_
 by_cases j6:c0≠((0:Nat):Int)
 ·refine B2 true Z Z (A5 j6) Aa<|Aj<|Ag Z<|gL Z<|A1<|Ao ?_
  exact Ah [6] Z (zI ((0:Nat):Int)) Z ⟨((0:Nat):Int),_,T,s0,c0,rfl,g3,⟨_,_,_,ai,g2⟩,⟨EZ,oM⟩,EY,oM,EX⟩
 refine B2 false Z Z (A6 j6) Aa<|Aj<|Ai Z<|A2<|A0<|gK [0,0,0,2,0] Z<|Ad 1 Z<|AV Z Aa<|Ak (p:=zP g) 6 Ox Z Z Aa<|Af (p:=An (zP g) 6) (.inr Z) (zI (s0:Int)) AC Z (ai.ldp (i:=6) sM) Aa ?_
 by_cases j7:(s0:Int)=((3000:Nat):Int)
 ·refine Al true Z Z (A5 j7) Aa<|Aj<|Ag Z<|gK [0,0,0,4] Z<|Ad 1 Z<|AV Z Aa<|Ak (p:=zP g) 7 G5 Z Z Aa (Bm (k:=7) (w:=w1) HL Z Z ⟨rfl,rfl⟩ ai sM Aa fun w6 d4 kz gc=>?_)
  replace gc:BX w6.heap g [vp,zI ip,rc0,rg0,zN,rv0,zI (s0:Int),zI ((7:Nat):Int)]:=gc
  have l0:At S w w6:=gb.trans (d4.sub (B7 hgS))
  have kb:=BK.chg g2 d4
  have kc:=g3.set hgS d4
  have kd:w1.heap.size≤w6.heap.size:=d4.size
  have ke:=g0.chg d4 (zB ·)
  refine Aj<|gL Z<|A1<|Ao ?_
  exact Ah [6] Z (zI ((0:Nat):Int)) Z ⟨((0:Nat):Int),_,T,s0,((7:Nat):Int),rfl,kc,⟨_,_,_,gc,kb⟩,⟨EZ,oM⟩,EY,oM,EX⟩
 refine Al false Z Z (A6 j7) Aa<|Aj<|Ai Z<|A2<|gK [0,0,0,2,0,0,0,4] Z<|Ad 1 Z<|AV Z Aa<|Ak (p:=zP g) 6 Ox Z Z Aa<|Af (p:=An (zP g) 6) (.inr Z) (zI (s0:Int)) AC Z (ai.ldp (i:=6) sM) Aa<|AQ ((s0+1:Nat):Int) Z Z (Bi oM oM) Aa<|AV Z Aa<|Ak (p:=zP g) 6 Ox Z Z Aa (Bm (k:=6) (w:=w1) HL Z Z ⟨rfl,rfl⟩ ai sM Aa fun f4 b0 gd aw=>?_)
 replace aw:BX f4.heap g [vp,zI ip,rc0,rg0,zN,rv0,zI ((s0+1:Nat):Int),zI c0]:=aw
 have a4:At S w f4:=gb.trans (b0.sub (B7 hgS))
 have b1:=BK.chg g2 b0
 have a0:=g3.set hgS b0
 have d5:w1.heap.size≤f4.heap.size:=b0.size
 have ac:=g0.chg b0 (zB ·)
 refine Aj<|A0<|gK [0,2] Z ?_
 have hc00:c0=0:=by omega
 have hs1:s0+1≤3000:=by omega
 have ax:=hen hc00
 have kf:=hbd.up (s':=s0+1) oM
 have hbn:=hbd.2
 refine Ak (p:=zP w.heap.size) 0 Br Z Z Aa<|Af (p:=An (zP w.heap.size) 0) (.inr Z) (zI ex.kind) AC Z (ac.ldp (i:=0) sM) Aa<|Aj<|A3<|gK [0,0] Z ?_
 by_cases d6:ex.kind=((1:Nat):Int)
 ·refine Al true Z Z (A5 d6) Aa<|Ac 1 Z<|Ag Z<|gK [0,0,2,0,0,2,4,0] Z ?_
  have hwk:=Mh hwf oM
  refine Ad 1 Z<|Ak (p:=zP w.heap.size) 1 BF Z Z Aa<|Af (p:=An (zP w.heap.size) 1) (.inr Z) (zI ex.num) AC Z (ac.ldp (i:=1) sM) Aa ?_
  have d7:∀(wq:World),(Instr.build 46 #[(0,zI ((2:Nat):Int)),(3,zI ex.num)]).run Tryz.prog wq=.ok (.agg #[zI ((2:Nat):Int),zI 0,zI 0,zI ex.num]) wq:=by intro wq;kernel_rfl
  refine BQ (ps:=#[(0,zI ((2:Nat):Int)),(3,zI ex.num)]) (.agg #[zI ((2:Nat):Int),zI 0,zI 0,zI ex.num]) (by simp only[zc,zf,zh];rfl) (fun wq=>d7  wq) Aa<|Ak (p:=zP w.heap.size) 1 BF Z Z Aa<|Af (p:=An (zP w.heap.size) 1) (.inr Z) (zI ex.num) AC Z (ac.ldp (i:=1) sM) Aa ?_
  refine AD 58 [] [] [zP g,.agg #[zI ((2:Nat):Int),zI (0:Int),zI (0:Int),zI ex.num],zI ex.num] Z Z Xl Aa (D2 _ S g vp ip (s0+1) (c0) (T) (⟨((2:Nat):Int),(0:Int),(0:Int),ex.num⟩:As) (ex.num) (fun b hb=>(a0.lt b hb:b<f4.heap.size)) (a0.sub _ hgS) ⟨_,_,_,aw,b1⟩ _hip (by exact GK.ln (by assumption) oM) ⟨(show Bn ((2:Nat):Int)from by omega),(show Bn (0:Int)from by omega),(show Bn (0:Int)from by omega),hex.rng.num⟩ hex.rng.num) ?_
  rintro nk mc ⟨mr,rfl,an,ms,vg18,vv18,ge,gf⟩
  refine⟨_,rfl,?_⟩
  have j8:f4.heap.size≤mc.heap.size:=an.chg.size
  have kg:At S w mc:=a4.stp an.chg a0.new
  have kh:=ac.chg an.chg fun hm=>EI
  have gg:w.heap.size∉mr:=fun hm=>(an.new _ hm).elim (fun hm=>EI) (fun h9=>by omega)
  have gh:=a0.trans an
  have j9:(T.put (⟨((2:Nat):Int),(0:Int),(0:Int),ex.num⟩:As) (ex.num)).vals.length=T.vals.length+1:=EA _ _ _
  have ja:(T.put (⟨((2:Nat):Int),(0:Int),(0:Int),ex.num⟩:As) (ex.num)).grd.length=T.grd.length:=rfl
  refine Ac 1 Z<|A1<|AG<|Ao ?_
  exact Ah [6] Z (zI (T.vals.length:Int)) Z ⟨(T.vals.length:Int),_,T.put (⟨((2:Nat):Int),(0:Int),(0:Int),ex.num⟩:As)<|ex.num,s0+1,c0,rfl,gh,⟨_,_,_,ge,gf⟩,⟨EZ,oM⟩,EY,oM,EX⟩
 refine Al false Z Z (A6 d6) Aa<|Ac 1 Z<|Ai Z<|gK [0,0] Z ?_
 by_cases d8:ex.kind=((2:Nat):Int)
 ·refine Al true Z Z (A5 d8) Aa<|Ac 1 Z<|Ag Z<|gK [0,0,2,0,2,0] Z ?_
  have hwk:=Mi hwf oM
  have hRv:=ax ex.num.toNat oM
  refine Ad 1 Z<|Ak (p:=zP w.heap.size) 1 BF Z Z Aa<|Af (p:=An (zP w.heap.size) 1) (.inr Z) (zI ex.num) AC Z (ac.ldp (i:=1) sM) Aa<|Aw (v:=vv) ((ex.num).toNat) Bt BG Z Z henv.slL oM oM Aa ?_
  have da:=RN.getI (w:=w) (k:=(ex.num).toNat) henv oM
  refine Af (p:=Ay vv ((ex.num).toNat) 1) (.inr Z) (zI<|env.getD ((ex.num).toNat) 0) AC Z (da.1 _ a4) Aa<|Ac 1 Z<|A1<|AG<|Ao ?_
  exact Ah [6] Z (zI<|env.getD ((ex.num).toNat) 0) Z ⟨env.getD ((ex.num).toNat) 0,_,T,s0+1,c0,rfl,a0,⟨_,_,_,aw,b1⟩,⟨EZ,oM⟩,EY,da.2,EX⟩
 refine Al false Z Z (A6 d8) Aa<|Ac 1 Z<|Ai Z<|gK [0,0] Z ?_
 by_cases db:ex.kind=((8:Nat):Int)
 ·refine Al true Z Z (A5 db) Aa<|Ac 1 Z<|Ag Z<|gK [0,0,2,0,2,0,4,0] Z ?_
  have hwk:=Pe hwf oM
  refine Ad 1 Z<|Ak (p:=zP w.heap.size) 4 Bc Z Z Aa<|Af (p:=An (zP w.heap.size) 4) (.inr Z) ve Bf Z (ac.ldp (i:=4) sM) Aa<|Aw (v:=ve) 0 CR Bj Z Z hex.rn.isSl Z sD Aa ?_
  obtain⟨cs28,gi,gj⟩:=hex.rn.get (Ax dex) Ex.zero (k:=0) sD
  obtain⟨dd28,cc,ki,rfl,cd⟩:=RX.of gi
  have dc:=cd.rn.lenle
  unfold maxLen at dc
  refine AK (p:=Ay ve 0 5) (.inr Z) [zI<|(ex.kids.getD 0 Ex.zero).kind,zI<|(ex.kids.getD 0 Ex.zero).num,zI<|(ex.kids.getD 0 Ex.zero).pick,zI<|(ex.kids.getD 0 Ex.zero).count,cc] Bh Z (fun l7 ce=>gj l7<|a4.ext ce) Z Aa<|Ad 1 Z ?_
  refine AD 118 [] [] [zP g,.agg #[zI<|(ex.kids.getD 0 Ex.zero).kind,zI<|(ex.kids.getD 0 Ex.zero).num,zI<|(ex.kids.getD 0 Ex.zero).pick,zI<|(ex.kids.getD 0 Ex.zero).count,cc],vv] Z Z MI Aa (IH2 dd28 oM _ S g vp dp ip (s0+1) (c0) p (T) cc (ex.kids.getD 0 Ex.zero) vv (env) (fun b hb=>(a0.lt b hb:b<f4.heap.size)) (a0.sub _ hgS) ⟨_,_,_,aw,b1⟩ (RN.stp (Am<|Az dp) hp a4 a0.new) _hip oM oM HS ⟨cd.rng,RN.stp (Am<|Ax dd28) cd.rn a4 a0.new⟩ (RN.stp g1 henv a4 a0.new) hqenv hvp oM (by exact C1 hwf oM oM) (zH<|CS (l:=ex.kids) (k:=0) oM) (by exact fun _=>ax)) ?_
  rintro nl l6 ⟨f1,m2,f2,ly,lb,rfl,ao,⟨li,vg29,vv29,b4,b5⟩,dd,de,df,dg⟩
  refine⟨_,rfl,?_⟩
  have jb:f4.heap.size≤l6.heap.size:=ao.chg.size
  have dh:At S w l6:=a4.stp ao.chg a0.new
  have di:=ac.chg ao.chg fun hm=>EI
  have b6:w.heap.size∉m2:=fun hm=>(ao.new _ hm).elim (fun hm=>EI) (fun h9=>by omega)
  have bi:=a0.trans ao
  have jc:=dd.bnd
  have jd:=dd.num
  have gk:=de
  have hL1:=dg
  refine Ac 1 Z<|A0<|gK [0,0,0,2,0] Z<|Ad 1 Z<|AV Z Aa<|Ak (p:=zP g) 7 G5 Z Z Aa<|Af (p:=An (zP g) 7) (.inr Z) (zI lb) AC Z (b4.ldp (i:=7) sM) Aa ?_
  by_cases dj:lb≠((0:Nat):Int)
  ·refine B2 true Z Z (A5 dj) Aa<|Aj<|Ag Z<|gL Z<|A1<|Ao<|AG<|Ao ?_
   exact Ah [6] Z (zI ((0:Nat):Int)) Z ⟨((0:Nat):Int),_,f2,ly,lb,rfl,bi,⟨_,_,_,b4,b5⟩,⟨EZ,oM⟩,EY,oM,EX⟩
  refine B2 false Z Z (A6 dj) Aa<|Aj<|Ai Z<|A2<|gK [0,0,0,2,0,0,2,0,0] Z ?_
  have hR1c:=gk oM
  refine Ad 1 Z<|AV Z Aa<|Ak (p:=zP g) 5 E7 Z Z Aa<|Af (p:=An (zP g) 5) (.inr Z) vv29 B6 Z (b4.ldp (i:=5) sM) Aa<|Ad 1 Z<|Aw (v:=vv29) ((f1).toNat) Bt BG Z Z (BK.slv b5) oM oM Aa (Af (p:=Ay vv29 ((f1).toNat) 1) (.inr Z) (zI<|f2.vals.getD ((f1).toNat) 0) AC Z ((BK.rdv b5).getI oM).1 Aa (Al (decide (f2.vals.getD ((f1).toNat) 0=((0:Nat):Int))) Z Z Z Aa<|Ac 1 Z<|A0 ?_))
  obtain⟨Fc38,Fg38,Fv38,b7,dk,b8,ap,az,dl,bt,dm⟩:=id b5
  refine Ab _ [0,0,0,0,0,2,0,0,0,3,4,0,0,0,4] Z<|Ad 2 Z<|AV Z Aa<|Ak (p:=zP g) 1 GN Z Z Aa<|Ak (p:=An (zP g) 1) (b:=g) (o:=1) 2 HM Z Z Aa<|Af (p:=An (An (zP g) 1) 2) (.inr Z) vg29 MN Z (b4.ldp (i:=3) sM) Aa<|Ad 2 Z ?_
  have dn:∀(wq:World),(Instr.build 177 #[(0,zI f1),(1,.bool (decide (f2.vals.getD ((f1).toNat) 0=((0:Nat):Int))))]).run Tryz.prog wq=.ok (.agg #[zI f1,.bool (decide (f2.vals.getD ((f1).toNat) 0=((0:Nat):Int)))]) wq:=by intro wq;kernel_rfl
  refine BQ (ps:=#[(0,zI f1),(1,.bool<|decide (f2.vals.getD ((f1).toNat) 0=((0:Nat):Int)))]) (.agg #[zI f1,.bool<|decide (f2.vals.getD ((f1).toNat) 0=((0:Nat):Int))]) (by simp only[zc,zf,zh];rfl) (fun wq=>dn  wq) Aa (ES (cs:=[zI f1,.bool<|decide (f2.vals.getD ((f1).toNat) 0=((0:Nat):Int))]) (y:=(⟨f1,decide (f2.vals.getD ((f1).toNat) 0=((0:Nat):Int))⟩:Hh)) (B:=l6.heap.size) Bb Vp L3 Z (by decide) Z (TA (x:=(⟨f1,decide (f2.vals.getD ((f1).toNat) 0=((0:Nat):Int))⟩:Hh)) (B:=l6.heap.size) (U:=l6.heap.size) df) (A7 _) Aa fun mt m3 a7 kj gl=>?_)
  have je:l6.heap.size≤m3.heap.size:=a7.size
  have kk:At S w m3:=dh.ext a7
  have bj:=b4.ext a7
  have g4:=di.ext a7
  have kl:=(BK.rdv b5).ext g1 a7
  have gm:=bi.ext a7
  have hOc38x:=b7.ext (Au AY) a7
  have hOg38x:=dk.ext (Au Bb) a7
  have hOv38x:=b8.ext (AZ AJ) a7
  refine KW (v:=vg29) (a:=mt) Bb Vp L3 Z (by decide) Z Z hOg38x gl (A7 _) (Nat.zero_le _) (Nat.zero_le _) oM (by unfold maxLen;omega) Aa fun me l8 mf b9 dq bk=>?_
  have dr:m3.heap.size≤l8.heap.size:=b9.size
  obtain⟨lj,bu⟩:∃l:List Nat,l=mf++m2:=⟨_,rfl⟩
  have aq:DU m2 lj l6 l8:=by rw[bu];exact⟨fun b hb=>z1 _ hb,fun b hb=>by rcases zi.1 hb with hb|hb;(rcases bk b hb with h9|h9|h9;exact .inl (bt b h9);(have:=a7.size;omega);(have:=a7.size;omega));exact .inl hb,fun b hb=>by rcases zi.1 hb with hb|hb;exact dq.high b hb;(have:=gm.lt b hb;omega),(At.of_ext _ a7).trans (b9.sub bt)⟩
  have ds:BK 46 177 2 lj g l8.heap li me vv29 (f2.guard (f1) (decide (f2.vals.getD ((f1).toNat) 0=((0:Nat):Int)))):=⟨Fc38,mf,Fv38,(hOc38x.up a7.size).chgS (Au AY) b9 (fun b hb hm=>ap.1 b hm hb),dq,(hOv38x.up a7.size).chgS (AZ AJ) b9 (fun b hb hm=>ap.2.2 b hb hm),⟨fun b hb hm=>by rcases bk b hm with h9|h9|h9;exact ap.1 b hb h9;(have:=b7.high b hb;omega);(have:=b7.high b hb;have:=a7.size;omega),ap.2.1,fun b hm hb=>by rcases bk b hm with h9|h9|h9;exact ap.2.2 b h9 hb;(have:=b8.high b hb;omega);(have:=b8.high b hb;have:=a7.size;omega)⟩,⟨az.1,fun hm=>by rcases bk g hm with h9|h9|h9;exact az.2.1 h9;omega;omega,az.2.2⟩,by rw[bu];exact⟨fun b hb=>z1 _ (dl b hb),fun b hb=>z8 _ hb,fun b hb=>z1 _ (dm b hb)⟩⟩
  have gn:=bj.chg b9 az.2.1
  have dr:l6.heap.size≤l8.heap.size:=aq.chg.size
  have gp:At S w l8:=dh.stp aq.chg bi.new
  have gq:=di.chg aq.chg fun hm=>b6 hm
  have al:w.heap.size∉lj:=fun hm=>(aq.new _ hm).elim (fun hm=>b6 hm) (fun h9=>by omega)
  have gr:=bi.trans aq
  have jf:(f2.guard (f1) (decide (f2.vals.getD ((f1).toNat) 0=((0:Nat):Int)))).vals.length=f2.vals.length:=rfl
  have jg:(f2.guard (f1) (decide (f2.vals.getD ((f1).toNat) 0=((0:Nat):Int)))).grd.length=f2.grd.length+1:=Mv _ _ _
  refine AV Z Aa<|Ak (p:=zP g) 1 GN Z Z Aa<|Ak (p:=An (zP g) 1) (b:=g) (o:=1) 2 HM Z Z Aa (Bm (k:=3) (w:=l8) dR Z Z (Bg ds.slg) gn sM Aa fun l9 ba km bl=>?_)
  replace bl:BX l9.heap g [vp,zI ip,li,me,zN,vv29,zI (ly:Int),zI lb]:=bl
  have ah:At S w l9:=gp.trans (ba.sub (B7 hgS))
  have dt:=BK.chg ds ba
  have aa:=gr.set hgS ba
  have jh:l8.heap.size≤l9.heap.size:=ba.size
  have bm:=gq.chg ba (zB ·)
  refine Aj<|A0<|gK [0] Z<|Ac 1 Z ?_
  cases bn:(decide (f2.vals.getD ((f1).toNat) 0=((0:Nat):Int)))
  ·have ji:=of_decide_eq_false bn
   refine Ai (by first|rfl|exact zW bn)<|A2<|gK [0,0,2,0,2,0,4,0] Z<|Ad 1 Z<|Ak (p:=zP w.heap.size) 4 Bc Z Z Aa<|Af (p:=An (zP w.heap.size) 4) (.inr Z) ve Bf Z (bm.ldp (i:=4) sM) Aa<|Aw (v:=ve) 2 CR Bj Z Z hex.rn.isSl Z sD Aa ?_
   obtain⟨cs60,gs,gt⟩:=hex.rn.get (Ax dex) Ex.zero (k:=2) sD
   obtain⟨dd60,cf,kn,rfl,cg⟩:=RX.of gs
   have du:=cg.rn.lenle
   unfold maxLen at du
   refine AK (p:=Ay ve 2 5) (.inr Z) [zI<|(ex.kids.getD 2 Ex.zero).kind,zI<|(ex.kids.getD 2 Ex.zero).num,zI<|(ex.kids.getD 2 Ex.zero).pick,zI<|(ex.kids.getD 2 Ex.zero).count,cf] Bh Z (fun l7 ce=>gt l7<|ah.ext ce) Z Aa<|Ad 1 Z ?_
   refine AD 118 [] [] [zP g,.agg #[zI<|(ex.kids.getD 2 Ex.zero).kind,zI<|(ex.kids.getD 2 Ex.zero).num,zI<|(ex.kids.getD 2 Ex.zero).pick,zI<|(ex.kids.getD 2 Ex.zero).count,cf],vv] Z Z MI Aa (IH2 dd60 oM _ lj g vp dp ip (ly) (lb) p (f2.guard (f1)<|decide (f2.vals.getD ((f1).toNat) 0=((0:Nat):Int))) cf (ex.kids.getD 2 Ex.zero) vv (env) (fun b hb=>(aa.lt b hb:b<l9.heap.size)) (aa.sub _ hgS) ⟨_,_,_,bl,dt⟩ (RN.stp (Am<|Az dp) hp ah aa.new) _hip oM oM HS ⟨cg.rng,RN.stp (Am<|Ax dd60) cg.rn ah aa.new⟩ (RN.stp g1 henv ah aa.new) hqenv hvp oM (by exact C1 hwf oM oM) (zH<|CS (l:=ex.kids) (k:=2) oM) (by exact fun _=>ax.mono (by simp only[Hj];omega))) ?_
   rintro nm mg ⟨mh,mu,mv,mw,mx,rfl,ar,⟨my,vg61,vv61,gu,gv⟩,dv,dw,dx,dy⟩
   refine⟨_,rfl,?_⟩
   have jj:l9.heap.size≤mg.heap.size:=ar.chg.size
   have ko:At S w mg:=ah.stp ar.chg aa.new
   have kp:=bm.chg ar.chg fun hm=>al hm
   have gw:w.heap.size∉mu:=fun hm=>(ar.new _ hm).elim (fun hm=>al hm) (fun h9=>by omega)
   have gx:=aa.trans ar
   have jk:=dv.bnd
   have jl:=dv.num
   have hRv:=dw
   have hL2:=dy
   refine Ac 1 Z<|A1<|AG<|Ao ?_
   exact Ah [6] Z (zI mh) Z ⟨mh,_,mv,mw,mx,rfl,gx,⟨_,_,_,gu,gv⟩,⟨EZ,oM⟩,EY,dx,EX⟩
  have jm:=of_decide_eq_true bn
  refine Ag (by first|rfl|exact zW bn)<|gK [0,0,2,0,2,0,4,0] Z<|Ad 1 Z<|Ak (p:=zP w.heap.size) 4 Bc Z Z Aa<|Af (p:=An (zP w.heap.size) 4) (.inr Z) ve Bf Z (bm.ldp (i:=4) sM) Aa<|Aw (v:=ve) 1 CR Bj Z Z hex.rn.isSl Z sD Aa ?_
  obtain⟨cs72,gy,gz⟩:=hex.rn.get (Ax dex) Ex.zero (k:=1) sD
  obtain⟨dd72,ch,kq,rfl,ci⟩:=RX.of gy
  have dz:=ci.rn.lenle
  unfold maxLen at dz
  refine AK (p:=Ay ve 1 5) (.inr Z) [zI<|(ex.kids.getD 1 Ex.zero).kind,zI<|(ex.kids.getD 1 Ex.zero).num,zI<|(ex.kids.getD 1 Ex.zero).pick,zI<|(ex.kids.getD 1 Ex.zero).count,ch] Bh Z (fun l7 ce=>gz l7<|ah.ext ce) Z Aa<|Ad 1 Z ?_
  refine AD 118 [] [] [zP g,.agg #[zI<|(ex.kids.getD 1 Ex.zero).kind,zI<|(ex.kids.getD 1 Ex.zero).num,zI<|(ex.kids.getD 1 Ex.zero).pick,zI<|(ex.kids.getD 1 Ex.zero).count,ch],vv] Z Z MI Aa (IH2 dd72 oM _ lj g vp dp ip (ly) (lb) p (f2.guard (f1)<|decide (f2.vals.getD ((f1).toNat) 0=((0:Nat):Int))) ch (ex.kids.getD 1 Ex.zero) vv (env) (fun b hb=>(aa.lt b hb:b<l9.heap.size)) (aa.sub _ hgS) ⟨_,_,_,bl,dt⟩ (RN.stp (Am<|Az dp) hp ah aa.new) _hip oM oM HS ⟨ci.rng,RN.stp (Am<|Ax dd72) ci.rn ah aa.new⟩ (RN.stp g1 henv ah aa.new) hqenv hvp oM (by exact C1 hwf oM oM) (zH<|CS (l:=ex.kids) (k:=1) oM) (by exact fun _=>ax.mono (by simp only[Hj];omega))) ?_
  rintro nn mi ⟨mj,mz,n0,n1,n2,rfl,au,⟨n3,vg73,vv73,i0,i1⟩,e0,e1,e2,e3⟩
  refine⟨_,rfl,?_⟩
  have jn:l9.heap.size≤mi.heap.size:=au.chg.size
  have kr:At S w mi:=ah.stp au.chg aa.new
  have kt:=bm.chg au.chg fun hm=>al hm
  have i2:w.heap.size∉mz:=fun hm=>(au.new _ hm).elim (fun hm=>al hm) (fun h9=>by omega)
  have i3:=aa.trans au
  have jo:=e0.bnd
  have jp:=e0.num
  have hRv:=e1
  have hL2:=e3
  refine Ac 1 Z<|A1<|Ao<|AG<|Ao ?_
  exact Ah [6] Z (zI mj) Z ⟨mj,_,n0,n1,n2,rfl,i3,⟨_,_,_,i0,i1⟩,⟨EZ,oM⟩,EY,e2,EX⟩
 refine Al false Z Z (A6 db) Aa<|Ac 1 Z<|Ai Z<|gK [0,0] Z ?_
 by_cases e4:ex.kind=((9:Nat):Int)
 ·refine Al true Z Z (A5 e4) Aa<|Ac 1 Z<|Ag Z<|A0 ?_
  letI:JR:=SA S
  refine Jx.AM _ [0,0,1,0,1,0,0,0,0,1,0,1,0,3,3,3,4,0] mixed (by kernel_rfl) ?_
  have hwk:=Mj hwf oM
  refine Jx.YM (zP g) Z Aa<|Jx.Ak (p:=zP w.heap.size) 4 Bc Z Z Aa<|Jx.eO (p:=An (zP w.heap.size) 4) ve Bf Z (fun wj hj=>(BX.chg (w:=f4.drew) (F:=S) ac hj fun hm=>zH<|hS _ hm).ldp (i:=4) sM) Aa<|Jx.Aw (v:=ve) 1 CR Bj Z Z hex.rn.isSl Z sD Aa ?_
  obtain⟨cs84,i4,i5⟩:=hex.rn.get (Ax dex) Ex.zero (k:=1) sD
  obtain⟨dd84,cj,ku,rfl,ck⟩:=RX.of i4
  have e5:=ck.rn.lenle
  unfold maxLen at e5
  refine Jx.ZZ (p:=Ay ve 1 5) [zI<|(ex.kids.getD 1 Ex.zero).kind,zI<|(ex.kids.getD 1 Ex.zero).num,zI<|(ex.kids.getD 1 Ex.zero).pick,zI<|(ex.kids.getD 1 Ex.zero).count,cj] Bh Z (fun wj hj=>i5 wj<|At.trans a4.drew (show At S f4.drew wj from hj)) Z Aa<|Jx.YM vv Z Aa<|Jx.AB 169 [] [] [vv] Z Z cR Aa (Eg vv) (fun wq=>FN wq vv _ henv.slL hqenv)<|Jx.YM (zP g) Z Aa<|Jx.Ak (p:=zP w.heap.size) 4 Bc Z Z Aa<|Jx.eO (p:=An (zP w.heap.size) 4) ve Bf Z (fun wj hj=>(BX.chg (w:=f4.drew) (F:=S) ac hj fun hm=>zH<|hS _ hm).ldp (i:=4) sM) Aa ?_
  refine Jx.Aw (v:=ve) 0 CR Bj Z Z hex.rn.isSl Z sD Aa ?_
  obtain⟨cs85,i6,i7⟩:=hex.rn.get (Ax dex) Ex.zero (k:=0) sD
  obtain⟨dd85,cl,kv,rfl,cm⟩:=RX.of i6
  have e6:=cm.rn.lenle
  unfold maxLen at e6
  refine Jx.ZZ (p:=Ay ve 0 5) [zI<|(ex.kids.getD 0 Ex.zero).kind,zI<|(ex.kids.getD 0 Ex.zero).num,zI<|(ex.kids.getD 0 Ex.zero).pick,zI<|(ex.kids.getD 0 Ex.zero).count,cl] Bh Z (fun wj hj=>i7 wj<|At.trans a4.drew (show At S f4.drew wj from hj)) Z Aa<|Jx.YM vv Z Aa ?_
  refine Jx.Ap 118 [] [] [zP g,.agg #[zI<|(ex.kids.getD 0 Ex.zero).kind,zI<|(ex.kids.getD 0 Ex.zero).num,zI<|(ex.kids.getD 0 Ex.zero).pick,zI<|(ex.kids.getD 0 Ex.zero).count,cl],vv] Z Z MI Aa (IH2 dd85 oM _ S g vp dp ip (s0+1) (c0) p (T) cl (ex.kids.getD 0 Ex.zero) vv (env) (fun b hb=>(a0.drew.lt b hb:b<f4.heap.size)) (a0.drew.sub _ hgS) ⟨_,_,_,aw,b1⟩ (RN.stp (Am<|Az dp) hp a4.drew a0.drew.new) _hip oM oM HS ⟨cm.rng,RN.stp (Am<|Ax dd85) cm.rn a4.drew a0.drew.new⟩ (RN.stp g1 henv a4.drew a0.drew.new) hqenv hvp oM (by exact C1 hwf oM oM) (zH<|CS (l:=ex.kids) (k:=0) oM) (by exact fun _=>ax)) ?_
  rintro no lc ⟨lz,ml,n4,n5,n6,rfl,ad,⟨n7,vg86,vv86,i8,i9⟩,e7,e8,e9,ea⟩
  refine⟨_,rfl,ad.chg,?_⟩
  replace ad:=ad.of_drew
  have jq:f4.heap.size≤lc.heap.size:=ad.chg.size
  have ia:At S w lc:=a4.stp ad.chg a0.new
  have ib:=ac.chg ad.chg fun hm=>EI
  have bb:w.heap.size∉ml:=fun hm=>(ad.new _ hm).elim (fun hm=>EI) (fun h9=>by omega)
  have ic:=a0.trans ad
  have jr:=e7.bnd
  have js:=e7.num
  have gk:=e8
  have hL1:=ea
  refine Jx.fa<|BA (u:=zI lz) (B:=lc.heap.size) Bv Bt BG Z Z (Md lc.heap.size lc.heap.size _ ⟨rfl,rfl⟩) (A7 _) Aa ?_
  intro n8 m0 b2 kw ie
  refine Aj ?_
  have jt:lc.heap.size≤m0.heap.size:=b2.size
  have eb:At S w m0:=ia.ext b2
  have bo:=i8.ext b2
  have bp:=ib.ext b2
  have ig:=BK.ext i9 b2
  have cn:=ic.ext b2
  refine Jx.gP<|VP (v:=vv) (a:=n8) (u:=zI<|lz) (r:=lz) Bt BG Z Z Z (RN.stp g1 henv eb cn.new) ie ⟨[],⟨rfl,rfl,e9⟩,fun b hb=>by cases hb⟩ (fun b hb=>(cn.lt b hb:b<m0.heap.size)) oM (by unfold maxLen;omega) Aa ?_
  intro mm m1 ay ec ed
  refine Aj ⟨JR.ext ay,?_⟩
  have ju:m0.heap.size≤m1.heap.size:=ay.size
  have co:At S w m1:=eb.ext ay
  have bq:=bo.ext ay
  have br:=bp.ext ay
  have ih:=BK.ext ig ay
  have b3:=cn.ext ay
  refine Jx.VI Z ?_
  refine AD 118 [] [] [zP g,.agg #[zI<|(ex.kids.getD 1 Ex.zero).kind,zI<|(ex.kids.getD 1 Ex.zero).num,zI<|(ex.kids.getD 1 Ex.zero).pick,zI<|(ex.kids.getD 1 Ex.zero).count,cj],mm] Z Z MI Aa (IH2 dd84 oM _ ml g vp dp ip (n5) (n6) p (n4) cj (ex.kids.getD 1 Ex.zero) mm (env++[lz]) (fun b hb=>(b3.lt b hb:b<m1.heap.size)) (b3.sub _ hgS) ⟨_,_,_,bq,ih⟩ (RN.stp (Am<|Az dp) hp co b3.new) _hip oM oM HS ⟨ck.rng,RN.stp (Am<|Ax dd84) ck.rn co b3.new⟩ ec ed hvp oM (by have h9:=HC hwf oM oM;rw[z4,zd];exact h9) (by have:=CS (l:=ex.kids) (k:=1) oM;rw[z4,zd];omega) (by exact fun h9=>Gj.snoc (ax.mono oM)<|gk h9)) ?_
  rintro np mn ⟨mo,n9,na,nb,nc,rfl,af,⟨nd,vg99,vv99,ii,ij⟩,ee,ef,eg,eh⟩
  refine⟨_,rfl,?_⟩
  have jv:m1.heap.size≤mn.heap.size:=af.chg.size
  have kx:At S w mn:=co.stp af.chg b3.new
  have jw:=br.chg af.chg fun hm=>bb hm
  have g5:w.heap.size∉n9:=fun hm=>(af.new _ hm).elim (fun hm=>bb hm) (fun h9=>by omega)
  have jx:=RN.stp g1 ec af.chg af.new
  have ik:=b3.trans af
  have jy:=ee.bnd
  have jz:=ee.num
  have hRv:=ef
  have hL2:=eh
  refine Ac 1 Z<|A1<|AG<|Ao ?_
  exact Ah [6] Z (zI mo) Z ⟨mo,_,na,nb,nc,rfl,ik,⟨_,_,_,ii,ij⟩,⟨EZ,oM⟩,EY,eg,EX⟩
 refine Al false Z Z (A6 e4) Aa<|Ac 1 Z<|Ai Z<|A2<|gK [0,0,2,0,4,0] Z ?_
 have hkg:ex.kind≠1∧ex.kind≠2∧ex.kind≠8∧ex.kind≠9:=by omega
 have l1:=Oi hwf hvp hF
 refine Ad 1 Z<|Ak (p:=zP w.heap.size) 4 Bc Z Z Aa<|Af (p:=An (zP w.heap.size) 4) (.inr Z) ve Bf Z (ac.ldp (i:=4) sM) Aa<|Ad 1 Z ?_
 refine AD 59 [] [] [zP g,ve,vv] Z Z ZE Aa (QA F dex (fun d9 h9=>IH2 d9 oM) _ S g vp dp ip (s0+1) (c0) p (T) ve (ex.kids) vv (env) (fun b hb=>(a0.lt b hb:b<f4.heap.size)) (a0.sub _ hgS) ⟨_,_,_,aw,b1⟩ (RN.stp (Am<|Az dp) hp a4 a0.new) _hip oM oM HS (RN.stp (Am<|Ax dex) hex.rn a4 a0.new) (RN.stp g1 henv a4 a0.new) hqenv hvp oM (by intro k hk;exact C1 hwf hk oM) (by intro k hk;have:=CS (l:=ex.kids) (k:=k) hk;omega) oM (by exact fun _=>ax)) ?_
 rintro nf fe ⟨fx,f3,l3,l4,fr,fs,rfl,ag,⟨lk,vg109,vv109,aj,av⟩,bv,ei,bc,cp,cq,cr⟩
 refine⟨_,rfl,?_⟩
 have ct:f4.heap.size≤fe.heap.size:=ag.chg.size
 have a8:At S w fe:=a4.stp ag.chg a0.new
 have ae:=ac.chg ag.chg fun hm=>EI
 have ab:w.heap.size∉l3:=fun hm=>(ag.new _ hm).elim (fun hm=>EI) (fun h9=>by omega)
 have a1:=a0.trans ag
 have il:=bv.bnd
 have im:=bv.num
 have hKr:=cr
 have hKb:=cq
 have hKl:=cp
 have am:=ei.rn
 refine Ac 1 Z<|A0<|gK [0,0,0,2,0] Z<|Ad 1 Z<|AV Z Aa<|Ak (p:=zP g) 7 G5 Z Z Aa<|Af (p:=An (zP g) 7) (.inr Z) (zI fs) AC Z (aj.ldp (i:=7) sM) Aa ?_
 by_cases bw:fs≠((0:Nat):Int)
 ·refine B2 true Z Z (A5 bw) Aa<|Aj<|Ag Z<|gL Z<|A1<|Ao ?_
  exact Ah [6] Z (zI ((0:Nat):Int)) Z ⟨((0:Nat):Int),_,l4,fr,fs,rfl,a1,⟨_,_,_,aj,av⟩,⟨EZ,oM⟩,EY,oM,EX⟩
 refine B2 false Z Z (A6 bw) Aa<|Aj<|Ai Z<|A2<|A0<|gK [0,2] Z<|Ak (p:=zP w.heap.size) 0 Br Z Z Aa<|Af (p:=An (zP w.heap.size) 0) (.inr Z) (zI ex.kind) AC Z (ae.ldp (i:=0) sM) Aa<|Aj<|A3<|gK [0,0] Z ?_
 by_cases bx:ex.kind=((10:Nat):Int)
 ·refine Al true Z Z (A5 bx) Aa<|Ac 1 Z<|Ag Z<|A0<|AM _ [0,0,0,0,0,1,0,1,0,0,1,0,1,0,1,0,4,0] mixed (by kernel_rfl) ?_
  have hwk:=FY hwf oM
  refine Ad 2 Z ?_
  have hvo:=hvp.outs (ex.num).toNat oM
  have hvd:=hvp.deep (ex.num).toNat oM (ex.pick).toNat oM
  refine AV Z Aa<|Ak (p:=zP g) 0 RV Z Z Aa<|Ak (p:=An (zP g) 0) (b:=g) (o:=0) 0 BB Z Z Aa<|Af (p:=An (An (zP g) 0) 0) (.inl Z) vp C4 Z (aj.ldp (i:=0) sM) Aa<|Ak (p:=zP w.heap.size) 1 BF Z Z Aa<|Af (p:=An (zP w.heap.size) 1) (.inl Z) (zI ex.num) AC Z (ae.ldp (i:=1) sM) Aa ?_
  refine Aw (v:=vp) ((ex.num).toNat) Gx Co Z Z hp.isSl oM sD Aa ?_
  obtain⟨cs118,ej,bz⟩:=hp.get (Az dp) Fn.zero (k:=(ex.num).toNat) sD
  obtain⟨bd,rfl,be⟩:=RF.of ej
  have cu:=be.rn.lenle
  unfold maxLen at cu
  refine AE (p:=Ay vp ((ex.num).toNat) 3) 2 BU Z (bz _ a8.drew) Aa<|Af (p:=An (Ay vp ((ex.num).toNat) 3) 2) (.inl Z) bd Bf Z ((bz _ a8.drew).ld (i:=2) (by simp[DR,DV])) Aa<|Ak (p:=zP w.heap.size) 2 D1 Z Z Aa<|Af (p:=An (zP w.heap.size) 2) (.inl Z) (zI ex.pick) AC Z (ae.ldp (i:=2) sM) Aa ?_
  refine Aw (v:=bd) ((ex.pick).toNat) CR Bj Z Z be.rn.isSl oM sD Aa ?_
  obtain⟨cs119,ek,el⟩:=be.rn.get (Ax dp) Ex.zero (k:=(ex.pick).toNat) sD
  obtain⟨dd119,bf,k0,rfl,bg⟩:=RX.of ek
  have cv:=bg.rn.lenle
  unfold maxLen at cv
  refine AK (p:=Ay bd ((ex.pick).toNat) 5) (.inl Z) [zI<|(((p.getD ((ex.num).toNat) Fn.zero).outs).getD ((ex.pick).toNat) Ex.zero).kind,zI<|(((p.getD ((ex.num).toNat) Fn.zero).outs).getD ((ex.pick).toNat) Ex.zero).num,zI<|(((p.getD ((ex.num).toNat) Fn.zero).outs).getD ((ex.pick).toNat) Ex.zero).pick,zI<|(((p.getD ((ex.num).toNat) Fn.zero).outs).getD ((ex.pick).toNat) Ex.zero).count,bf] Bh Z (fun l7 ce=>el l7<|a8.drew.ext ce) Z Aa<|Ad 1 Z ?_
  refine AD 118 [] [] [zP g,.agg #[zI<|(((p.getD ((ex.num).toNat) Fn.zero).outs).getD ((ex.pick).toNat) Ex.zero).kind,zI<|(((p.getD ((ex.num).toNat) Fn.zero).outs).getD ((ex.pick).toNat) Ex.zero).num,zI<|(((p.getD ((ex.num).toNat) Fn.zero).outs).getD ((ex.pick).toNat) Ex.zero).pick,zI<|(((p.getD ((ex.num).toNat) Fn.zero).outs).getD ((ex.pick).toNat) Ex.zero).count,bf],fx] Z Z MI Aa (IH1 (ex.num).toNat oM dd119 _ l3 g vp dp ip (fr) (fs) p (l4) bf (((p.getD ((ex.num).toNat) Fn.zero).outs).getD ((ex.pick).toNat) Ex.zero) fx (f3) (fun b hb=>(a1.drew.lt b hb:b<fe.heap.size)) (a1.drew.sub _ hgS) ⟨_,_,_,aj,av⟩ (RN.stp (Am<|Az dp) hp a8.drew a1.drew.new) _hip oM oM HS ⟨bg.rng,RN.stp (Am<|Ax dd119) bg.rn a8.drew a1.drew.new⟩ am bc hvp oM (by have h9:=hvp.wf (ex.num).toNat oM (ex.pick).toNat oM;rw[show(f3.length:Int)=(p.getD (ex.num).toNat Fn.zero).params from by omega];exact h9) oM hKb) ?_
  rintro ng ll ⟨lm,m4,m5,m6,m7,rfl,a2,⟨mp,vg120,vv120,em,en⟩,c2,cw,cx,cy⟩
  refine⟨_,rfl,?_⟩
  replace a2:=a2.of_drew
  have io:fe.heap.size≤ll.heap.size:=a2.chg.size
  have k1:At S w ll:=a8.stp a2.chg a1.new
  have k2:=ae.chg a2.chg fun hm=>ab hm
  have g6:w.heap.size∉m4:=fun hm=>(a2.new _ hm).elim (fun hm=>ab hm) (fun h9=>by omega)
  have k3:=RN.stp g1 am a2.chg a2.new
  have eo:=a1.trans a2
  have iq:=c2.bnd
  have ir:=c2.num
  have hRv:=cw
  have hL2:=cy
  refine Ac 1 Z<|A1<|AG<|Ao ?_
  exact Ah [6] Z (zI lm) Z ⟨lm,_,m5,m6,m7,rfl,eo,⟨_,_,_,em,en⟩,⟨EZ,oM⟩,EY,cx,EX⟩
 refine Al false Z Z (A6 bx) Aa<|Ac 1 Z<|Ai Z<|gK [0,0] Z ?_
 by_cases c3:ex.kind=((11:Nat):Int)
 ·refine Al true Z Z (A5 c3) Aa<|Ac 1 Z<|Ag Z<|A0<|gK [0] Z ?_
  have hwk:=FY hwf oM
  have hwl:=Kg hwf oM
  refine Ac 1 Z<|A3 ?_
  have hMs:=av
  have hGs:=a1
  have hns:w.heap.size∉l3:=fun hm=>ab hm
  refine AU (S:=Nat×Value×Sr×List Nat×Tp×Nat×Int×Value×Value×Value) (fun⟨i,vk,ks,S9,T9,s9,c9,lo,vg9,vv9⟩=>([(9,vk),(10,zI (i:Int)),(0,zP g),(4,zP w.heap.size)])) (fun⟨i,vk,ks,S9,T9,s9,c9,lo,vg9,vv9⟩ W=>At S w W∧BX W.heap g [vp,zI ip,lo,vg9,zN,vv9,zI (s9:Int),zI c9]∧BX W.heap w.heap.size [zI ex.kind,zI ex.num,zI ex.pick,zI ex.count,ve]∧i≤(ex.count).toNat∧w.heap.size∉S9∧DU S S9 w W∧BK 46 177 2 S9 g W.heap lo vg9 vv9 T9∧XO T T9 s0 s9 c9∧RN S9 (B4 rI) W.heap vk ks∧C3 vk∧ks.length=(p.getD (ex.num).toNat Fn.zero).outs.length∧(c9=0→Gj T9 ks)∧AL (Eb (fun a t U=>Ey (Hi p (ex.num).toNat) (p.getD (ex.num).toNat Fn.zero).outs a t U) i f3 fr l4) (ks,T9) s9 c9) (fun⟨i,vk,ks,S9,T9,s9,c9,lo,vg9,vv9⟩=>(ex.count).toNat-i) (0,fx,f3,l3,l4,fr,fs,lk,vg109,vv109) ⟨rfl,rfl,rfl,rfl,trivial⟩ ⟨a8,aj,ae,oM,hns,hGs,hMs,(by exact⟨by assumption,zO⟩),(by assumption),(by assumption),oM,hKb,(by exact⟨rfl,rfl,zO⟩)⟩ ?_
  clear j4 j5 hG0 ka d3 ga gb g2 g3 gd b0 a4 b1 a0 d5 ac av ct a8 ae a1
  rintro⟨i,vk,ks,S9,T9,s9,c9,lo,vg9,vv9⟩ ρ131 l5 ⟨ak,a5,a6,g7,hnb,hGl,hMl,hPl,hrk,hck,hkl,hkb,hrl9⟩
  have is:w.heap.size≤l5.heap.size:=ak.size
  have k4:=a5.lt
  have k5:=a6.lt
  have hnl:=hPl.num
  have hbl:=hPl.bnd
  refine A0<|gK [0,0,2,0,0,0,0,0,2,0,0] Z<|Ad 1 Z<|Ak (p:=zP w.heap.size) 3 Dz Z Z Aa<|Af (p:=An (zP w.heap.size) 3) (.inr Z) (zI ex.count) AC Z (a6.ldp (i:=3) sM) Aa ?_
  by_cases c4:(i:Int)<ex.count
  ·refine AI true Z Z (A5 c4) Aa<|Ad 2 Z<|AV Z (Ae (e:=156) Z Z Z)<|Ak (p:=zP g) 7 G5 Z Z (Ae (e:=156) Z Z Z)<|Af (p:=An (zP g) 7) (.inr Z) (zI c9) AC Z (a5.ldp (i:=7) sM) (Ae (e:=156) Z Z Z) ?_
   by_cases c5:c9=((0:Nat):Int)
   ·refine Al true Z Z (A5 c5) (Ae (e:=156) Z Z Z)<|Ac 1 Z<|Ag Z<|A2<|A0<|A3<|AM _ [0,0,0,0,0,1,0,1,0,0,1,0,4,0] mixed (by kernel_rfl)<|Ad 2 Z ?_
    have hvo:=hvp.outs (ex.num).toNat oM
    refine AV Z Aa<|Ak (p:=zP g) 0 RV Z Z Aa<|Ak (p:=An (zP g) 0) (b:=g) (o:=0) 0 BB Z Z Aa<|Af (p:=An (An (zP g) 0) 0) (.inl Z) vp C4 Z (a5.ldp (i:=0) sM) Aa<|Ak (p:=zP w.heap.size) 1 BF Z Z Aa<|Af (p:=An (zP w.heap.size) 1) (.inl Z) (zI ex.num) AC Z (a6.ldp (i:=1) sM) Aa ?_
    refine Aw (v:=vp) ((ex.num).toNat) Gx Co Z Z hp.isSl oM sD Aa ?_
    obtain⟨cs136,ep,c6⟩:=hp.get (Az dp) Fn.zero (k:=(ex.num).toNat) sD
    obtain⟨bh,rfl,c7⟩:=RF.of ep
    have cz:=c7.rn.lenle
    unfold maxLen at cz
    refine AE (p:=Ay vp ((ex.num).toNat) 3) 2 BU Z (c6 _ ak.drew) Aa<|Af (p:=An (Ay vp ((ex.num).toNat) 3) 2) (.inl Z) bh Bf Z ((c6 _ ak.drew).ld (i:=2) (by simp[DR,DV])) Aa<|Ad 1 Z ?_
    refine AD 59 [] [] [zP g,bh,vk] Z Z ZE Aa (QA (ex.num).toNat dp (fun d9 h9=>IH1 (ex.num).toNat oM d9) _ S9 g vp dp ip (s9) (c9) p (T9) bh ((p.getD ((ex.num).toNat) Fn.zero).outs) vk (ks) (fun b hb=>(hGl.drew.lt b hb:b<l5.heap.size)) (hGl.drew.sub _ hgS) ⟨_,_,_,a5,hMl⟩ (RN.stp (Am<|Az dp) hp ak.drew hGl.drew.new) _hip oM oM HS (RN.stp (Am<|Ax dp) c7.rn ak.drew hGl.drew.new) hrk hck hvp oM (by intro k hk;have h9:=hvp.wf (ex.num).toNat oM k hk;rw[show(ks.length:Int)=(p.getD (ex.num).toNat Fn.zero).params from by omega];exact h9) (by intro k hk;have:=hvp.deep (ex.num).toNat oM k hk;omega) oM hkb) ?_
    rintro nh lp ⟨m8,lq,la,lr,ls,lu,rfl,a3,⟨lv,vg137,vv137,eq,er⟩,c8,es,it,iu,iv,iw⟩
    refine⟨_,rfl,?_⟩
    replace a3:=a3.of_drew
    have ix:l5.heap.size≤lp.heap.size:=a3.chg.size
    have et:At S w lp:=ak.stp a3.chg hGl.new
    have eu:=a6.chg a3.chg fun hm=>hnb hm
    have bs:w.heap.size∉la:=fun hm=>(a3.new _ hm).elim (fun hm=>hnb hm) (fun h9=>by omega)
    have k6:=RN.stp g1 hrk a3.chg a3.new
    have ev:=hGl.trans a3
    have iy:=c8.bnd
    have iz:=c8.num
    have j0:=es.rn
    refine Ac 1 Z<|Ab _ [0,0,0] Z<|Ad 1 Z<|AQ ((i+1:Nat):Int) Z Z (Bi oM oM) Aa<|Ac 1 Z ?_
    have hMe:=er
    have hGe:=ev
    have hPe:XO T lr s0 ls lu:=⟨by assumption,zO⟩
    have hne:w.heap.size∉la:=fun hm=>bs hm
    exact⟨(i+1,m8,lq,la,lr,ls,lu,lv,vg137,vv137),_,rfl,zR,⟨et,eq,eu,oM,hne,hGe,hMe,hPe,(by assumption),(by assumption),oM,(by assumption),(by exact Zl hrl9 oM (by assumption))⟩,zD⟩
   refine Al false Z Z (A6 c5) (Ae (e:=156) Z Z Z)<|Ac 1 Z<|Ai Z<|A4<|AA<|AA<|Av<|gK [0,0,2,0,2,0] Z ?_
   have hkb9:=fun h9:c9=0=>hkb h9 (ex.pick).toNat oM
   refine Ad 1 Z<|Ak (p:=zP w.heap.size) 2 D1 Z Z Aa<|Af (p:=An (zP w.heap.size) 2) (.inr Z) (zI ex.pick) AC Z (a6.ldp (i:=2) sM) Aa<|Aw (v:=vk) ((ex.pick).toNat) Bt BG Z Z hrk.slL oM oM Aa ?_
   have ca:=RN.getI (w:=l5) (k:=(ex.pick).toNat) hrk oM
   refine Af (p:=Ay vk ((ex.pick).toNat) 1) (.inr Z) (zI<|ks.getD ((ex.pick).toNat) 0) AC Z (ca.1 _<|At.refl _ _) Aa<|Ac 1 Z<|A1<|AG<|Ao ?_
   exact Ah [6] Z (zI<|ks.getD ((ex.pick).toNat) 0) Z ⟨ks.getD ((ex.pick).toNat) 0,_,T9,s9,c9,rfl,hGl,⟨_,_,_,a5,hMl⟩,⟨EZ,oM⟩,EY,ca.2,EX⟩
  refine AI false Z Z (A6 c4) Aa<|Ac 7 Z<|Ai Z<|A4<|AA<|AA<|Av<|gK [0,0,2,0,2,0] Z ?_
  have hkb9:=fun h9:c9=0=>hkb h9 (ex.pick).toNat oM
  refine Ad 1 Z<|Ak (p:=zP w.heap.size) 2 D1 Z Z Aa<|Af (p:=An (zP w.heap.size) 2) (.inr Z) (zI ex.pick) AC Z (a6.ldp (i:=2) sM) Aa<|Aw (v:=vk) ((ex.pick).toNat) Bt BG Z Z hrk.slL oM oM Aa ?_
  have cb:=RN.getI (w:=l5) (k:=(ex.pick).toNat) hrk oM
  refine Af (p:=Ay vk ((ex.pick).toNat) 1) (.inr Z) (zI<|ks.getD ((ex.pick).toNat) 0) AC Z (cb.1 _<|At.refl _ _) Aa<|Ac 1 Z<|A1<|AG<|Ao ?_
  exact Ah [6] Z (zI<|ks.getD ((ex.pick).toNat) 0) Z ⟨ks.getD ((ex.pick).toNat) 0,_,T9,s9,c9,rfl,hGl,⟨_,_,_,a5,hMl⟩,⟨EZ,oM⟩,EY,cb.2,EX⟩
 refine Al false Z Z (A6 c3) Aa<|Ac 1 Z<|Ai Z<|A2<|gK [0,0,2,0,0,0,4,0] Z ?_
 have hkb9:=hKb oM
 have l2:3≤ex.kind∧ex.kind≤7:=by have:=(CZ (CU hwf)).1;omega
 have hkl:1≤ex.kids.length∧(ex.kind≠7→2≤ex.kids.length):=by by_cases h7:ex.kind=7;(have:=Oh hwf h7;omega);(have:=Jm hwf oM;omega)
 refine Ad 1 Z<|Ak (p:=zP w.heap.size) 0 Br Z Z Aa<|Af (p:=An (zP w.heap.size) 0) (.inr Z) (zI ex.kind) AC Z (ae.ldp (i:=0) sM) Aa<|Bk (ex.kind-((3:Nat):Int)) Z Z (CM oM oM) Aa<|AQ ex.kind Z Z (eT oM oM oM) Aa<|Ad 1 Z ?_
 refine AD 170 [] [] [zP g,zI ex.kind,fx] Z Z cS Aa (GB _ l3 g vp dp ip (fr) (fs) p (l4) (ex.kind) fx (f3) (fun b hb=>(a1.lt b hb:b<fe.heap.size)) (a1.sub _ hgS) ⟨_,_,_,aj,av⟩ (RN.stp (Am<|Az dp) hp a8 a1.new) _hip oM oM HS oM am bc oM oM hkb9 oM) ?_
 rintro ni lw ⟨lx,m9,ma,mb,rfl,a9,⟨mq,vg148,vv148,ew,ey⟩,j1,j2,d0,d1,d2⟩
 refine⟨_,rfl,?_⟩
 have j3:fe.heap.size≤lw.heap.size:=a9.chg.size
 have k7:At S w lw:=a8.stp a9.chg a1.new
 have k8:=ae.chg a9.chg fun hm=>ab hm
 have g8:w.heap.size∉m9:=fun hm=>(a9.new _ hm).elim (fun hm=>ab hm) (fun h9=>by omega)
 have k9:=RN.stp g1 am a9.chg a9.new
 have ez:=a1.trans a9
 have hRv:=d0
 have hL2:=d2
 refine Ac 1 Z<|A1 ?_
 exact Ah [6] Z (zI lx) Z ⟨lx,_,ma,fr,mb,rfl,ez,⟨_,_,_,ew,ey⟩,⟨EZ,oM⟩,EY,d1,EX⟩
theorem ZN:∀F d,eI F d:=by
 intro F
 induction F using Nat.strongRecOn with
 |_ F ihF =>
  intro d
  induction d using Nat.strongRecOn with
  |_ d ihd =>
   intro w S g vp dp ip s0 c0 p T ve ex vv env hS hgS a0 hp hip a1 a2 hbd hex henv hqenv hvp hF hwf hdp hen
   exact J2 w S F g vp dp ip s0 c0 p T d ve ex vv env hS hgS a0 hp hip a1 a2 hbd hex henv hqenv hvp hF hwf hdp hen ihF ihd
theorem ZO (F d:Nat):gT F d:=QA F d fun d' _=>ZN F d'
theorem Sc {p:Prop}(h:p:=by have h9:=hm;rw[hSd]at h9;have:=A9 h9;omega):p:=h
theorem Vh {p:Prop}(h:p:=by simp only[zc,zf,zh];rfl):p:=h
theorem Nq (w:World)(dp:Nat)(vp:Value)(p:List Fn)(f:Int)(va:Value)(a:Sr)(hp:RP [] dp w.heap vp p)(_hf:Bn f)(ha:RN [] (B4 rI) w.heap va a)(hok:GJ p=true)(hz:PO p)(hf:0≤f∧f<(p.length:Int))(hl:(a.length:Int)=(p.getD f.toNat Fn.zero).params)(hna:AX a=true) :
  Calls Tryz.prog 12 #[(.agg #[vp]),zI f,va] w (fun e w'=>∃(i0:Int) (vc vg vo:Value) (xs:Sr) (T':Tp) (s1:Nat) (c1:Int),e=.returned (.tuple #[.agg #[zI i0,vc,vg,vo],zI c1])∧AH w w'∧AL (Lv p f.toNat a) (xs,T') s1 c1∧(0≤c1∧c1≤9)∧(∀u∈[vc,vg,vo],u.cells=#[u]∧u.oneCell'=true)∧Bn i0∧(c1=0→i0=(p.getD f.toNat Fn.zero).params∧GK T' s1∧s1≤3000∧xs.length=(p.getD f.toNat Fn.zero).outs.length∧Gj T' xs∧RG w.heap.size (D5 4 KU) w'.heap vc T'.code∧RG w.heap.size (D5 2 KV) w'.heap vg T'.grd∧RG w.heap.size (B4 rI) w'.heap vo xs)):=by
 refine Aq [.agg #[vp],zI f,va] 87 Tryz.func12 Z Z sM ?_
 have dq:AH w w:=AH.refl w
 have g0:=hp.lenle
 unfold maxLen at g0
 have g4:=ha.lenL
 unfold maxLen at g4
 have hvp:=FZ hok
 have gp:=hvp.par f.toNat oM
 have gq:=hvp.outs f.toNat oM
 have hi:Kl p f=0:=by unfold Kl;rw[if_pos hok,if_pos oM]
 refine gK [3,3,0] Z (By (cs:=#[vp]) Z Aa fun w1 cj e8 cf=>?_)
 have ck:=cj.size
 have dr:=dq.trans cj
 replace cf:BX w1.heap w.heap.size [vp]:=cf
 have ey:=cf.lt
 refine Bs (z:=.agg #[zI 0,zN,zN,zN]) Xs Aa fun w2 cg e9 cl=>?_
 have cm:=cg.size
 have cn:=dr.trans cg
 have aq:=cf.ext cg
 replace cl:BX w2.heap w1.heap.size [zI 0,zN,zN,zN]:=cl
 refine Ac 1 Z<|gK [2,0,3,0] Z<|AK (p:=zP w.heap.size) (.inr Z) [vp] Cf Z (fun ge ba=>LD.of_box<|BX.ext (w:=w2) aq ba) Z Aa<|Ad 1 Z<|Ap 56 [] [] [.agg #[vp],zI f] Z Z ZD Aa (H5 _ dp vp (p) _ (hp.ext (Am<|Az dp) cn) _hf hz) ?_
 rintro e4 w4 ⟨rfl,b8⟩
 refine⟨_,rfl,b8,?_⟩
 have co:=b8.size
 have bb:=cn.trans b8
 have ar:=aq.ext b8
 have bc:=cl.ext b8
 refine Ac 1 Z<|A0<|gK [0,0,0,0,0,2,0,0,0,2,3,0,0] Z<|Ad 1 Z ?_
 have ea:Kl p f=((0:Nat):Int):=hi
 refine Al true Z Z (A5 ea) Aa<|Ad 2 Z<|Ak (p:=zP w.heap.size) 0 BB Z Z (Ae (e:=18) Z Z Z)<|Af (p:=An (zP w.heap.size) 0) (.inr Z) vp C4 Z (ar.ldp (i:=0) sM) (Ae (e:=18) Z Z Z)<|Ad 1 Z<|Aw (v:=vp) ((f).toNat) Gx Co Z Z hp.isSl oM sD (Ae (e:=18) Z Z Z) ?_
 obtain⟨cs6,eb,ch⟩:=hp.get (Az dp) Fn.zero (k:=(f).toNat) sD
 obtain⟨ez,rfl,ds⟩:=RF.of eb
 have bd:=ds.rn.lenle
 unfold maxLen at bd
 refine AE (p:=Ay vp ((f).toNat) 3) 1 C9 Z (ch _<|At.of_ext [] bb) (Ae (e:=18) Z Z Z)<|Af (p:=An (Ay vp ((f).toNat) 3) 1) (.inr Z) (zI<|(p.getD ((f).toNat) Fn.zero).params) AC Z ((ch _<|At.of_ext [] bb).ld (i:=1) (by simp[DR,DV])) (Ae (e:=18) Z Z Z)<|Ap 57 [] [] [va,zI<|(p.getD ((f).toNat) Fn.zero).params] Z Z Sw (Ae (e:=18) Z Z Z) (Ct _ _ _ _ (ha.ext g1 bb).rd ds.rng) ?_
 rintro e7 w7 ⟨rfl,b9⟩
 refine⟨_,rfl,b9,?_⟩
 have cp:=b9.size
 have ci:=bb.trans b9
 have ae:=ar.ext b9
 have au:=bc.ext b9
 rw[show(decide ((a.length:Int)=((p.getD ((f).toNat) Fn.zero).params)) && AX a)=true from(by rw[A5 oM,hna];rfl)]
 refine Bo false Z Z (Ae (e:=18) Z Z Z)<|Ac 1 Z<|Ai Z<|A2<|A0<|gK [0,0] Z<|Ad 1 Z ?_
 have ec:¬(Kl p f≠((0:Nat):Int)):=(fun h9=>h9 hi)
 refine B2 false Z Z (A6 ec) Aa<|Aj<|Ai Z<|A2<|A0<|AM _ [1,0,1,0,0,0,1,0,0,3,0] mixed (by kernel_rfl)<|AK (p:=zP w.heap.size) (.inl Z) [vp] Cf Z (fun ge ba=>LD.of_box<|BX.ext (w:=w7.drew) ae ba) Z Aa<|Ak (p:=zP w.heap.size) 0 BB Z Z Aa<|Af (p:=An (zP w.heap.size) 0) (.inl Z) vp C4 Z (ae.ldp (i:=0) sM) Aa<|Ad 1 Z ?_
 refine Aw (v:=vp) ((f).toNat) Gx Co Z Z hp.isSl oM sD Aa<|AE (p:=Ay vp ((f).toNat) 3) 1 C9 Z (ch _<|At.of_ext [] ci.drew) Aa<|Af (p:=An (Ay vp ((f).toNat) 3) 1) (.inl Z) (zI<|(p.getD ((f).toNat) Fn.zero).params) AC Z ((ch _<|At.of_ext [] ci.drew).ld (i:=1) (by simp[DR,DV])) Aa ?_
 have cq:∀(wq:World),(Instr.build 39 #[(0,zI ((p.getD ((f).toNat) Fn.zero).params))]).run Tryz.prog wq=.ok (.agg #[zI ((p.getD ((f).toNat) Fn.zero).params),zN,zN,zN]) wq:=by intro wq;kernel_rfl
 refine BQ (ps:=#[(0,zI<|(p.getD ((f).toNat) Fn.zero).params)]) (.agg #[zI<|(p.getD ((f).toNat) Fn.zero).params,zN,zN,zN]) Vh (fun wq=>cq  wq) Aa ?_
 have be:∀(vp:Value) (f3:Nat) (h10_0:FU vp f3) (wq:World),(Instr.build 104 #[(0,.agg #[vp]),(1,.agg #[zI ((p.getD ((f).toNat) Fn.zero).params),zN,zN,zN])]).run Tryz.prog wq=.ok (.agg #[vp,zI ((p.getD ((f).toNat) Fn.zero).params),zN,zN,zN,zN,zI 0,zI 0]) wq:=by intro vp f3 h10_0 wq;obtain⟨a10_0,gf,rfl,_⟩:=h10_0;kernel_rfl
 refine BQ (ps:=#[(0,.agg #[vp]),(1,.agg #[zI<|(p.getD ((f).toNat) Fn.zero).params,zN,zN,zN])]) (.agg #[vp,zI<|(p.getD ((f).toNat) Fn.zero).params,zN,zN,zN,zN,zI 0,zI 0]) Vh (fun wq=>be vp _ hp.isSl wq) Aa ?_
 have ed:=ae.lt
 have ee:=au.lt
 refine By (cs:=#[vp,zI<|(p.getD ((f).toNat) Fn.zero).params,zN,zN,zN,zN,zI 0,zI 0]) Z Aa fun f1 a9 cr ak=>?_
 replace a9:=a9.of_drew
 have bf:=a9.size
 have bg:=ci.trans a9
 have av:=ae.ext a9
 have aw:=au.ext a9
 replace ak:BX f1.heap w7.drew.heap.size [vp,zI ((p.getD ((f).toNat) Fn.zero).params),zN,zN,zN,zN,zI 0,zI 0]:=ak
 refine Ac 1 Z<|gK [3,0] Z ?_
 obtain⟨S,hSd⟩:∃S:List Nat,S=[w7.heap.size]:=⟨_,rfl⟩
 have hgS:w7.heap.size∈S:=by rw[hSd];exact List.mem_singleton.2 Z
 have hlr:w7.heap.size<f1.heap.size:=BX.lt ak
 have hMb:BK 46 177 2 S w7.heap.size f1.heap zN zN zN (Hk a 0):=BK.nil
 have hGb:DU S S w f1:=⟨fun _ h=>h,fun b hb=>.inl hb,fun b hb=>by rw[hSd]at hb;have:=A9 hb;omega,At.of_ext S bg⟩
 have hEb:At S w f1:=hGb.chg
 have hSn:∀b∈S,w.heap.size≤b:=fun b hb=>by rw[hSd]at hb;have:=A9 hb;omega
 have hBb:BX f1.heap w7.heap.size [vp,zI ((p.getD f.toNat Fn.zero).params),zN,zN,zN,zN,zI ((0:Nat):Int),zI ((0:Nat):Int)]:=ak
 have ax:RN S (D5 3 (Vu dp)) w.heap vp p:=by rw[hSd];exact RN.add (Am (Az dp)) hp (fun b hb=>zH<|A9 hb)
 have ay:RN S (B4 rI) w.heap va a:=by rw[hSd];exact RN.add g1 ha (fun b hb=>zH<|A9 hb)
 refine Cn (rI) AJ Bt BG Aa fun gj gg a4 ct bh=>?_
 have bi:f1.heap.size≤gg.heap.size:=a4.size
 have bj:At S w gg:=hEb.ext a4
 have az:=av.ext a4
 have b0:=aw.ext a4
 have b1:=hBb.ext a4
 have bk:=BK.ext hMb a4
 have bl:=hGb.ext a4
 refine Ac 1 Z<|A0<|gK [0,0,0] Z<|Ad 1 Z<|AR (v:=va) Bt Z ay.slL Aa<|Ac 1 Z<|A3 ?_
 have hBO:w.heap.size≤f1.heap.size∧w7.heap.size<f1.heap.size:=by omega
 have bm:w.heap.size∉S:=fun hm=>Sc
 have bn:w1.heap.size∉S:=fun hm=>Sc
 obtain⟨Fo0,bo⟩:=Ow.of_fr bh (A7 _)
 have cu:∀b∈Fo0,b∉S:=fun b hb hm=>by have:=bo.low b hb;have:=hGb.lt b hm;omega
 have hMs:=bk
 have hGs:=bl
 have hnswheaps:w.heap.size∉S:=fun hm=>Sc
 have hnsw1heap:w1.heap.size∉S:=fun hm=>Sc
 refine AU (S:=Nat×Value×Sr×List Nat×List Nat×Value×Value×Value) (fun⟨k,vo,xs,Fo,S9,g5,vg9,vv9⟩=>([(10,vo),(46,zI (k:Int)),(1,zI f),(3,zP w.heap.size),(6,zP w1.heap.size),(9,zP w7.heap.size),(44,va),(45,zI (a.length:Int))])) (fun⟨k,vo,xs,Fo,S9,g5,vg9,vv9⟩ W=>At S w W∧BX W.heap w.heap.size [vp]∧BX W.heap w1.heap.size [zI 0,zN,zN,zN]∧BX W.heap w7.heap.size [vp,zI (p.getD f.toNat Fn.zero).params,g5,vg9,zN,vv9,zI ((0:Nat):Int),zI ((0:Nat):Int)]∧k≤a.length∧f1.heap.size≤W.heap.size∧DU S S9 w W∧BK 46 177 2 S9 w7.heap.size W.heap g5 vg9 vv9 (Hk a k)∧Ow (Bp rI 2) f1.heap.size W.heap.size W.heap vo xs Fo∧(∀b∈Fo,b∉S9)∧xs=FR k∧w.heap.size∉S9∧w1.heap.size∉S9) (fun⟨k,vo,xs,Fo,S9,g5,vg9,vv9⟩=>a.length-k) (0,gj,[],Fo0,S,zN,zN,zN) ⟨rfl,rfl,rfl,rfl,rfl,rfl,rfl,rfl,trivial⟩ ⟨bj,az,b0,b1,oM,oM,hGs,hMs,bo,cu,(by rfl),bm,bn⟩ ?_
 clear dq e8 cj ck dr e9 cg cm cn b8 co bb bd b9 cp ci cr a9 bf bg bh ct a4 bi bj bk bl
 rintro⟨k,vo,xs,Fo,S9,g5,vg9,vv9⟩ ρ21 g6 ⟨a5,a3,aa,ab,cv,hbw,hGl,hMl,hOl,hdl,hxe,af,ag⟩
 have dt:w.heap.size≤g6.heap.size:=a5.size
 have ef:=a3.lt
 have eg:=aa.lt
 have eh:=ab.lt
 refine gK [0] Z ?_
 by_cases bp:(k:Int)<(a.length:Int)
 ·refine AI true Z Z (A5 bp) Aa<|Aj<|A0<|Ag Z<|A2<|A0<|A3<|gK [0,0,2,0,0] Z ?_
  have hak:=BW hna k
  have hvk:=H0 a k
  have hxk:xs.length=k:=by rw[hxe,DP]
  refine Ad 1 Z<|Aw (v:=va) k Bt BG Z Z ay.slL Z sD Aa ?_
  have bq:=RN.getI (w:=w) (k:=k) ay sD
  refine Af (p:=Ay va k 1) (.inr Z) (zI<|a.getD k 0) AC Z (bq.1 _ a5) Aa<|Ac 2 Z<|Ab _ [0,0,0,0,0,4,3,4,0] Z<|Ad 3 Z ?_
  have br:∀(wq:World),(Instr.build 46 #[(0,zI ((1:Nat):Int)),(3,zI (k:Int))]).run Tryz.prog wq=.ok (.agg #[zI ((1:Nat):Int),zI 0,zI 0,zI (k:Int)]) wq:=by intro wq;kernel_rfl
  refine BQ (ps:=#[(0,zI ((1:Nat):Int)),(3,zI (k:Int))]) (.agg #[zI ((1:Nat):Int),zI 0,zI 0,zI (k:Int)]) Vh (fun wq=>br  wq) Aa<|Ad 1 Z ?_
  refine AD 58 [] [] [zP w7.heap.size,.agg #[zI ((1:Nat):Int),zI (0:Int),zI (0:Int),zI (k:Int)],zI<|a.getD k 0] Z Z Xl Aa (D2 _ S9 w7.heap.size vp ((p.getD f.toNat Fn.zero).params) (0) ((0:Nat):Int) (Hk a k) (⟨((1:Nat):Int),(0:Int),(0:Int),(k:Int)⟩:As) (a.getD k 0) (fun b hb=>(hGl.lt b hb:b<g6.heap.size)) (hGl.sub _ hgS) ⟨_,_,_,ab,hMl⟩ oM (by rw[KX,H0];omega) ⟨(show Bn ((1:Nat):Int)from by omega),(show Bn (0:Int)from by omega),(show Bn (0:Int)from by omega),(show Bn (k:Int)from by omega)⟩ bq.2) ?_
  rintro gr fx ⟨f4,rfl,a0,ga,vg28,vv28,cw,cx⟩
  refine⟨_,rfl,?_⟩
  have du:g6.heap.size≤fx.heap.size:=a0.chg.size
  have cy:At S w fx:=a5.stp a0.chg hGl.new
  have cz:=a3.chg a0.chg fun hm=>af hm
  have b2:w.heap.size∉f4:=fun hm=>(a0.new _ hm).elim (fun hm=>af hm) (fun h9=>by omega)
  have d0:=aa.chg a0.chg fun hm=>ag hm
  have b3:w1.heap.size∉f4:=fun hm=>(a0.new _ hm).elim (fun hm=>ag hm) (fun h9=>by omega)
  have d1:=hOl.keep (AZ AJ) a0.chg fun b hb hm=>hdl b hm hb
  have ai:∀b∈Fo,b∉f4:=fun b hb hm=>(a0.new b hm).elim (hdl b hb) (fun h9=>zH<|hOl.high b hb)
  have d2:=hGl.trans a0
  have dv:((Hk a k).put (⟨((1:Nat):Int),(0:Int),(0:Int),(k:Int)⟩:As) (a.getD k 0)).vals.length=(Hk a k).vals.length+1:=EA _ _ _
  have dw:((Hk a k).put (⟨((1:Nat):Int),(0:Int),(0:Int),(k:Int)⟩:As) (a.getD k 0)).grd.length=(Hk a k).grd.length:=rfl
  refine (BA (u:=zI (((Hk a k).vals.length:Nat):Int)) (B:=fx.heap.size) AJ Bt BG Z Z (Nb fx.heap.size fx.heap.size _ _ oM) (A7 _) Aa ?_)
  intro gk gb a6 ei d3
  have dx:fx.heap.size≤gb.heap.size:=a6.size
  have d4:At S w gb:=cy.ext a6
  have al:=cz.ext a6
  have am:=d0.ext a6
  have an:=cw.ext a6
  have d5:=BK.ext cx a6
  have bs:=d2.ext a6
  have hO38k:=d1.ext (AZ AJ) a6
  refine FI (v:=vo) (a:=gk) Bt BG Z Z Z hO38k d3.rd1 oM sD (by unfold maxLen;first|omega|assumption|(simp;done)|(simp;omega)) Aa fun gl gh gi ac ej d6=>?_
  have dy:gb.heap.size≤gh.heap.size:=ac.size
  have d7:At S w gh:=d4.fresh ac (fun c hc=>zH<|hO38k.low c hc)
  have ek:∀b∈gi,b∉f4:=fun b hb hm=>(d6 b hb).elim (fun h9=>ai b h9 hm) (fun h9=>zH<|bs.lt b hm)
  have d8:=BK.chgO d5 ac ai
  have d9:=bs.fresh ac fun c hc=>zH<|hO38k.low c hc
  have da:=al.chg ac fun hm=>zH<|hO38k.low _ hm
  have db:=am.chg ac fun hm=>zH<|hO38k.low _ hm
  have dc:=an.chg ac fun hm=>zH<|hO38k.low _ hm
  refine Ac 1 Z<|Ab _ [0,0] Z<|AQ ((k+1:Nat):Int) Z Z (Bi oM oM) Aa<|Ac 1 Z ?_
  have hMe:=d8
  have hGe:=d9
  have bt:w.heap.size∉f4:=fun hm=>b2 hm
  have bu:w1.heap.size∉f4:=fun hm=>b3 hm
  exact⟨(k+1,gl,xs++[(((Hk a k).vals.length:Nat):Int)],gi,f4,ga,vg28,vv28),_,rfl,zR,⟨d7,da,db,dc,oM,oM,hGe,hMe,(by assumption),(by assumption),(by rw[hxe,H0];exact(Mw k).symm),bt,bu⟩,zD⟩
 refine AI false Z Z (A6 bp) Aa<|Aj<|A0<|Ai Z<|A4<|AA<|AA<|Av<|gK [0,0,0,2,0,0,0,2,0,4,0,0,0,4] Z ?_
 have hkl:k=a.length:=by omega
 refine Ad 2 Z<|Ak (p:=zP w.heap.size) 0 BB Z Z Aa<|Af (p:=An (zP w.heap.size) 0) (.inr Z) vp C4 Z (a3.ldp (i:=0) sM) Aa<|Ad 1 Z<|Aw (v:=vp) ((f).toNat) Gx Co Z Z ax.isSl oM sD Aa ?_
 obtain⟨cs46,dd,bv⟩:=ax.get (Az dp) Fn.zero (k:=(f).toNat) sD
 obtain⟨b4,rfl,bw⟩:=RF.of dd
 have bx:=bw.rn.lenle
 unfold maxLen at bx
 refine AE (p:=Ay vp ((f).toNat) 3) 2 BU Z (bv _ a5) Aa<|Af (p:=An (Ay vp ((f).toNat) 3) 2) (.inr Z) b4 Bf Z ((bv _ a5).ld (i:=2) (by simp[DR,DV])) Aa<|Ad 1 Z ?_
 refine AD 59 [] [] [zP w7.heap.size,b4,vo] Z Z ZE Aa (ZO f.toNat dp _ S9 w7.heap.size vp dp ((p.getD f.toNat Fn.zero).params) (0) ((0:Nat):Int) p (Hk a k) b4 ((p.getD ((f).toNat) Fn.zero).outs) vo (xs) (fun b hb=>(hGl.lt b hb:b<g6.heap.size)) (hGl.sub _ hgS) ⟨_,_,_,ab,hMl⟩ (RN.stp (Am<|Az dp) ax a5 hGl.new) oM oM oM (by rw[hkl];exact TL hna oM) (RN.stp (Am<|Ax dp) bw.rn a5 hGl.new) (RN.of_ow hOl hdl) hOl.fr.cap hvp oM (by intro j hj;have h9:=hvp.wf f.toNat oM j hj;rw[hxe,DP,hkl,hl];exact h9) (by intro j hj;have h9:=hvp.deep f.toNat oM j hj;rw[hxe,DP];omega) oM (by exact fun _=>by rw[hxe];exact TM a k)) ?_
 rintro gs g8 ⟨g7,gm,g9,gt,gn,fe,rfl,a1,⟨f2,vg47,vv47,de,df⟩,bz,c0,dz,c2,c3,c4⟩
 refine⟨_,rfl,?_⟩
 have e0:g6.heap.size≤g8.heap.size:=a1.chg.size
 have dg:At S w g8:=a5.stp a1.chg hGl.new
 have dh:=a3.chg a1.chg fun hm=>af hm
 have di:w.heap.size∉g9:=fun hm=>(a1.new _ hm).elim (fun hm=>af hm) (fun h9=>by omega)
 have dj:=aa.chg a1.chg fun hm=>ag hm
 have aj:w1.heap.size∉g9:=fun hm=>(a1.new _ hm).elim (fun hm=>ag hm) (fun h9=>by omega)
 have b5:=hOl.keep (AZ AJ) a1.chg fun b hb hm=>hdl b hm hb
 have dk:∀b∈Fo,b∉g9:=fun b hb hm=>(a1.new b hm).elim (hdl b hb) (fun h9=>zH<|hOl.high b hb)
 have c5:=hGl.trans a1
 have e1:=bz.bnd
 have e2:=bz.num
 have hKr:=c4
 have hKb:=c3
 have hKl:=c2
 rw[hxe,hkl]at hKr
 replace hKr:=AL.go0 hKr
 have c6:=c0.rn
 refine AV Z Aa<|Ak (p:=zP w7.heap.size) 1 GN Z Z Aa<|Ak (p:=An (zP w7.heap.size) 1) (b:=w7.heap.size) (o:=1) 3 EV Z Z Aa (Bm (k:=4) (w:=g8) I6 Z Z (Bg c6.slL) de sM Aa fun fs a7 el ad=>?_)
 replace ad:BX fs.heap w7.heap.size [vp,zI ((p.getD f.toNat Fn.zero).params),f2,vg47,g7,vv47,zI (gn:Int),zI fe]:=ad
 have c7:At S w fs:=dg.trans (a7.sub (B7 hgS))
 have ao:=BK.chg df a7
 have c8:=c5.set hgS a7
 have e3:g8.heap.size≤fs.heap.size:=a7.size
 have c9:=dh.chg a7 (zB ·)
 have ca:=dj.chg a7 (zB ·)
 have ah:=b5.keep (AZ AJ) a7 fun b hb hm=>by have:=A9 hb;have:=b5.low _ hm;have:=b5.high _ hm;omega
 have hF63l:=c0.upd g1 a7 fun b hb=>by rw[A9 hb];exact .inl (c5.sub _ hgS)
 have dl:=hF63l.rn
 refine Aj<|A0<|gK [0,0,0,2,0] Z<|Ad 1 Z<|AV Z Aa<|Ak (p:=zP w7.heap.size) 7 G5 Z Z Aa<|Af (p:=An (zP w7.heap.size) 7) (.inr Z) (zI fe) AC Z (ad.ldp (i:=7) sM) Aa ?_
 by_cases cb:fe≠((0:Nat):Int)
 ·refine B2 true Z Z (A5 cb) Aa<|Aj<|Ag Z<|A0 ?_
  letI:JR:=SA [w1.heap.size]
  refine Jx.AM _ [0,0,0,0,1,3,0] mixed (by kernel_rfl)<|Jx.j1 ?_
  have cc:∀(wq:World),(Instr.build 39 #[]).run Tryz.prog wq=.ok (.agg #[zI 0,zN,zN,zN]) wq:=by intro wq;kernel_rfl
  refine BQ (ps:=#[]) (.agg #[zI 0,zN,zN,zN]) (by simp only[zc,zf,zh]) (fun wq=>cc  wq) Aa<|Aj<|Jx.YM (zP w7.heap.size) Z Aa<|Jx.j1<|AV Z Aa<|Aj<|Jx.Ak (p:=zP w7.heap.size) 7 G5 Z Z Aa<|Jx.eO (p:=An (zP w7.heap.size) 7) (zI fe) AC Z (fun wj hj=>(BX.chg (w:=fs.drew) (F:=[w1.heap.size]) ad hj (zB ·)).ldp (i:=7) sM) Aa<|Jx.gP ?_
  refine BE (vs:=[zI (0:Int),zN,zN,zN]) EE Z Z (by intro u hu;simp only[ze,z2,or_false]at hu;rcases hu with rfl|rfl|rfl|rfl <;> first|exact⟨rfl,rfl⟩) ca Z Z Aa fun gc a2 em b6=>?_
  replace a2:=a2.of_drew
  replace b6:BX gc.heap w1.heap.size [zI (0:Int),zN,zN,zN]:=b6
  have en:At S w gc:=c7.fresh a2 (fun _ h=>zE h)
  have eo:=BK.chgO ao a2 fun b hb hm=>by rw[A9 hb]at hm;exact aj hm
  have dm:=c8.fresh a2 fun _ h=>zE h
  have e5:fs.heap.size≤gc.heap.size:=a2.size
  have ep:=c9.chg a2 (zB ·)
  have eq:=ad.chg a2 (zB ·)
  have er:=ah.keep (AZ AJ) a2 fun b hb hm=>by have:=A9 hb;have:=ah.low _ hm;have:=ah.high _ hm;omega
  have hF73l:=hF63l.upd g1 a2 fun b hb=>by rw[A9 hb];(right;omega)
  have es:=hF73l.rn
  refine Aj ⟨At.drewL a2,?_⟩
  exact Jx.SN (zI fe) Z Aa<|Jx.Aj<|A1<|Ao<|KS (t0:=7) (ts:=[]) (cs:=[zI (0:Int),zN,zN,zN]) [zI fe] Z EE Z b6 Z Z ⟨_,_,_,_,_,_,_,_,rfl,At.toExt dm.chg hSn,hKr,oM,(by intro u hu;simp only[ze,z2,or_false]at hu;rcases hu with rfl|rfl|rfl <;> exact⟨rfl,rfl⟩),(by show Bn _;unfold Bn;omega),(fun h9=>absurd h9 oM)⟩
 refine B2 false Z Z (A6 cb) Aa<|Aj<|Ai Z<|A2<|gK [0,0,0,2,4,0] Z<|Ad 1 Z<|AV Z Aa<|Ak (p:=zP w7.heap.size) 1 GN Z Z Aa<|AK (p:=An (zP w7.heap.size) 1) (.inr Z) [zI<|(p.getD f.toNat Fn.zero).params,f2,vg47,g7] EE Z (fun ge ba=>LD.part (BX.ext (w:=fs) ad ba) (by show(5:Nat)≤8;decide) (by intro i hi;match i,hi with|0,_=>rfl|1,_=>rfl|2,_=>rfl|3,_=>rfl)) Z Aa ?_
 refine BE (vs:=[zI<|(p.getD f.toNat Fn.zero).params,f2,vg47,g7]) EE Z Z (by intro u hu;simp only[ze,z2,or_false]at hu;rcases hu with rfl|rfl|rfl|rfl <;> first|exact⟨rfl,rfl⟩|exact Bg (BK.slc ao)|exact Bg (BK.slg ao)|exact Bg dl.slL) ca Z Z Aa fun gd a8 et b7=>?_
 replace b7:BX gd.heap w1.heap.size [zI ((p.getD f.toNat Fn.zero).params),f2,vg47,g7]:=b7
 have eu:At S w gd:=c7.fresh a8 (fun _ h=>zE h)
 have ap:=BK.chgO ao a8 fun b hb hm=>by rw[A9 hb]at hm;exact aj hm
 have cd:=c8.fresh a8 fun _ h=>zE h
 have e6:fs.heap.size≤gd.heap.size:=a8.size
 have ev:=c9.chg a8 (zB ·)
 have ew:=ad.chg a8 (zB ·)
 have ex:=ah.keep (AZ AJ) a8 fun b hb hm=>by have:=A9 hb;have:=ah.low _ hm;have:=ah.high _ hm;omega
 have hF81l:=hF63l.upd g1 a8 fun b hb=>by rw[A9 hb];(right;omega)
 have dn:=hF81l.rn
 refine Ac 1 Z<|A1 ?_
 have ce:∀b∈g9,w.heap.size≤b:=fun b hb=>(cd.new b hb).elim (hSn b) id
 exact KS (t0:=7) (ts:=[]) (cs:=[zI<|(p.getD f.toNat Fn.zero).params,f2,vg47,g7]) [zI ((0:Nat):Int)] Z EE Z b7 Z Z ⟨_,_,_,_,_,_,_,_,rfl,At.toExt cd.chg hSn,(by have h9:=hKr;rwa [show fe=((0:Nat):Int)from by omega]at h9),oM,(by intro u hu;simp only[ze,z2,or_false]at hu;rcases hu with rfl|rfl|rfl;exact Bg (BK.slc ap);exact Bg (BK.slg ap);exact RN.one1 g1 dn),(by show Bn _;unfold Bn;omega),(fun _=>⟨rfl,by assumption,zO,hKl,hKb oM,(BK.readsG ap ce).1,(BK.readsG ap ce).2,PR.rg hF81l oM⟩)⟩
theorem Hq (w:World)(n:Int)(vo:Nat)(ord:Int)(_hn:Bn n)(hcord:If w.heap (zP vo)=some (zI ord))(_hord:Bn ord)(ho:0≤ord∧ord≤12) :
  Calls Tryz.prog 171 #[zI n,zP vo] w (fun e w'=>∃v0:Value,e=.returned (v0)∧AH w w'∧Fr (Bp rI 2) w.heap.size w'.heap.size w'.heap v0 (cst (ord.toNat+1) n)):=by
 refine Aq [zI n,zP vo] 12 Tryz.func171 Z Z sM ?_
 have a0:AH w w:=AH.refl w
 refine gL Z<|gK [2,0,3,0] Z<|Af (.inr Z) (zI ord) MM Z (Bd a0 hcord) Aa<|AQ ((ord.toNat+1:Nat):Int) Z Z (Bi oM oM) Aa (Ga (n:=ord.toNat+1) Bt BG Z Z Z sD Aa fun v1 w1 a1 aa a2=>?_)
 have a5:=a1.size
 have a3:=a0.trans a1
 refine Ac 1 Z<|gK [0,0,0,4] Z<|Ad 2 Z<|Aw (v:=v1) 0 Bt BG Z Z a2.isSl Z sM Aa (GQ (v:=v1) (w:=w1) HL Z Z _hn a2 sM Aa fun w2 F2 a4 ab a6 a7=>?_)
 have a8:AH w w2:=a4.below a3 (fun c hc=>A8 (A7 _) (a6 c hc).1) a3.size
 have a9:w1.heap.size≤w2.heap.size:=a4.size
 exact Aj<|gK [0,0] Z<|Ac 2 Z<|A1<|Ah [3] Z v1 Z ⟨v1,rfl,a8,a7.up o1⟩
theorem JF {p:Prop}(h:p:=by first|(rw[Cc oM,M3 oM];exact⟨_,_,by assumption⟩)|(rw[Cc oM,Ko oM];exact⟨_,_,by assumption⟩)|(rw[Cc oM,Kp oM];exact⟨_,_,by assumption⟩)|(rw[Cc oM,Kq oM];exact⟨_,_,by assumption⟩)|(rw[Cc oM,Kr oM];exact⟨_,_,by assumption⟩)|(rw[Cc oM,Ks oM];exact⟨_,_,by assumption⟩)|(rw[Cc oM,Kt oM];exact⟨_,_,by assumption⟩)):p:=h
theorem JG {p:Prop}(h:p:=by unfold maxLen;first|omega|assumption|(simp only[zb,z9,z4,z6,z5];omega)|(simp[zb,z9,z4,z6,z5];done)|(simp[zb,z9,z4,z6,z5];omega)):p:=h
theorem JH {p:Prop}(h:p:=by first|exact X5 hzk oM|exact X6 hzk oM):p:=h
theorem JI {p:Prop}(h:p:=by exact Rp hR hsA (hform k hkl) hkl):p:=h
theorem I9 (w:World)(ipT:Int)(vtc vtg vtx:Value)(T:Tp)(oT:Sr)(va:Value)(A:List (Sr))(ord:Int)(_hipT:Bn ipT)(htcT:RN [] (D5 4 KU) w.heap vtc T.code)(htgT:RN [] (D5 2 KV) w.heap vtg T.grd)(htoT:RN [] (B4 rI) w.heap vtx oT)(hA:RN [] (B4 (B4 rI)) w.heap va A)(hqA:C3 va)(_hord:Bn ord)(ho:0≤ord∧ord≤12)(hsA:BZ (ord.toNat+1) A)(hform:∀k,k<T.code.length→DN A.length k (T.code.getD k As.zero))(hlt:T.code.length≤4000) :
  Calls Tryz.prog 120 #[(.agg #[(zI ipT),vtc,vtg,vtx]),va,zI ord] w (fun e w'=>∃(v0:Value) (c1:Int),e=.returned (.tuple #[v0,zI c1])∧AH w w'∧aW (ord.toNat+1) A T.code c1∧(c1=0→RN [] (B4 (B4 rI)) w'.heap v0 (Be (ord.toNat+1) A T.code)∧C3 v0)):=by
 refine Aq [.agg #[zI ipT,vtc,vtg,vtx],va,zI ord] 109 Tryz.func120 Z Z sM ?_
 have gp:AH w w:=AH.refl w
 have hl_vtx:=htoT.lenL
 unfold maxLen at hl_vtx
 have f2:=hA.lenL
 unfold maxLen at f2
 have hS:∀b∈([]:List Nat),b<w.heap.size:=fun b hb=>by cases hb
 refine gK [3,3,0,0] Z (By (cs:=#[zI ipT,vtc,vtg,vtx]) Z Aa fun w1 dx im dt=>?_)
 have dy:=dx.size
 have gq:=gp.trans dx
 replace dt:BX w1.heap w.heap.size [zI ipT,vtc,vtg,vtx]:=dt
 have jr:=dt.lt
 refine Zs (u:=zI ord) Z Z Aa fun w2 du io dv=>?_
 have dz:=du.size
 have gr:=gq.trans du
 have bg:=dt.ext du
 replace dv:BX w2.heap w1.heap.size [zI ord]:=dv
 refine Ac 2 Z<|gK [3,0] Z ?_
 obtain⟨BO,hBO⟩:∃b:Nat,b=w2.heap.size:=⟨_,rfl⟩
 have hwB:w.heap.size≤BO:=by omega
 have js:w.heap.size<BO:=by have:=BX.lt bg;omega
 have jt:w1.heap.size<BO:=by have:=BX.lt dv;omega
 refine Cn rV Bv Bx AT Aa fun v4 w4 ch ip e0=>?_
 have e1:=ch.size
 have gs:=gr.trans ch
 have ci:=bg.ext ch
 have cj:=dv.ext ch
 obtain⟨ju,F4,jv⟩:=Hy.nil (S:=[]) (by rw[← hBO]at e0;exact e0)
 refine Ac 1 Z<|gK [0,0] Z<|O5 [] [zP w1.heap.size] Z Z Aa<|Ac 1 Z<|A0<|gK [0,2,0,0] Z<|Ak (p:=zP w.heap.size) 1 Cp Z Z Aa<|Af (p:=An (zP w.heap.size) 1) (.inr Z) vtc DQ Z (ci.ldp (i:=1) sM) Aa<|AR (v:=vtc) JY Z htcT.isSl Aa<|Ac 1 Z<|A3 ?_
 refine AU (S:=Nat×Value) (fun⟨k,vo⟩=>([(8,vo),(18,zI (k:Int)),(1,va),(9,.func (.func 171) #[] #[zP w1.heap.size]),(16,vtc),(17,zI (T.code.length:Int))])) (fun⟨k,vo⟩ W=>AH w W∧BX W.heap w1.heap.size [zI ord]∧k≤T.code.length∧w.heap.size≤BO∧BO≤W.heap.size∧P3 27 [] BO W.heap vo (Be (ord.toNat+1) A<|T.code.take k)∧Lx (ord.toNat+1) A T.code k∧BZ (ord.toNat+1) (Be (ord.toNat+1) A<|T.code.take k)) (fun⟨k,vo⟩=>T.code.length-k) (0,v4) ⟨rfl,rfl,rfl,rfl,rfl,rfl,trivial⟩ ⟨gs,cj,oM,oM,oM,(by exact⟨_,_,by assumption⟩),Zt,(by intro j hj;simp at hj)⟩ ?_
 clear gp im dx dy gq io du dz gr e0 ip ch e1 gs
 rintro⟨k,vo⟩ ρ7 w7 ⟨dw,au,gt,gu,gv,hbld,hzk,hR⟩
 have iq:w.heap.size≤w7.heap.size:=dw.size
 have hRl:(Be (ord.toNat+1) A (T.code.take k)).length=k:=by rw[BS,List.length_take];omega
 have jw:=au.lt
 obtain⟨jx,F9,av⟩:=hbld
 have hFl:∀b∈F9,b<w7.heap.size:=av.lt
 refine gK [0] Z ?_
 by_cases ck:(k:Int)<(T.code.length:Int)
 ·refine AI true Z Z (A5 ck) Aa<|Aj<|A0<|Ag Z<|A2<|A0<|A3<|gK [0,2,3,4] Z ?_
  have hkl:k<T.code.length:=by omega
  refine Aw (v:=vtc) k JY FD Z Z htcT.isSl Z sD Aa ?_
  obtain⟨cs11,e2,e3⟩:=htcT.get AY As.zero (k:=k) sD
  obtain⟨rfl,e4⟩:=Io e2
  refine AK (p:=Ay vtc k 4) (.inr Z) [zI<|(T.code.getD k As.zero).op,zI<|(T.code.getD k As.zero).a,zI<|(T.code.getD k As.zero).b,zI<|(T.code.getD k As.zero).num] DZ Z (fun k6 ir=>e3 k6<|At.of_ext []<|dw.trans ir) Z Aa ?_
  have is:=au.lt
  refine Bs (z:=.agg #[zI 0,zI 0,zI 0,zI 0]) Qo Aa fun jy ai it bn=>?_
  have gw:=ai.size
  have cl:=dw.trans ai
  have aw:=au.ext ai
  have iu:=av.ext ai
  replace bn:BX jy.heap w7.heap.size [zI 0,zI 0,zI 0,zI 0]:=bn
  refine BE (vs:=[zI<|(T.code.getD k As.zero).op,zI<|(T.code.getD k As.zero).a,zI<|(T.code.getD k As.zero).b,zI<|(T.code.getD k As.zero).num]) DZ Z Z (by intro u hu;simp only[ze,z2,or_false]at hu;rcases hu with rfl|rfl|rfl|rfl <;> first|exact⟨rfl,rfl⟩) bn Z Z Aa fun f3 ay iv az=>?_
  replace az:BX f3.heap w7.heap.size [zI ((T.code.getD k As.zero).op),zI ((T.code.getD k As.zero).a),zI ((T.code.getD k As.zero).b),zI ((T.code.getD k As.zero).num)]:=az
  have e5:AH w f3:=ay.below cl (fun _ h=>zE h) cl.size
  have gx:jy.heap.size≤f3.heap.size:=ay.size
  have cm:=aw.chg ay (zB ·)
  have e6:=av.ext<|ay.below ai (fun _ h=>zE h) ai.size
  refine Aj<|gK [0,0,2,3,0] Z<|Ad 1 Z<|Ak (p:=zP w7.heap.size) 3 CO Z Z Aa<|Af (p:=An (zP w7.heap.size) 3) (.inr Z) (zI<|(T.code.getD k As.zero).num) AC Z (az.ldp (i:=3) sM) Aa<|Ap 171 [] [zP w1.heap.size] [zI<|(T.code.getD k As.zero).num,zP w1.heap.size] Z Z cT Aa (Hq _ _ (w1.heap.size) (ord) e4.2.2.2 (cm.ld (k:=0) sM) _hord oM) ?_
  rintro kt f1 ⟨bh,rfl,aj,ad⟩
  refine⟨_,rfl,aj,?_⟩
  have gy:=aj.size
  have a8:=e5.trans aj
  have a2:=cm.ext aj
  have a0:=az.ext aj
  have a1:=e6.ext aj
  refine Ac 1 Z<|A0<|gK [0,2] Z<|Ak (p:=zP w7.heap.size) 0 HN Z Z Aa<|Af (p:=An (zP w7.heap.size) 0) (.inr Z) (zI<|(T.code.getD k As.zero).op) AC Z (a0.ldp (i:=0) sM) Aa<|Aj<|A3<|gK [0,0] Z ?_
  by_cases cn:(T.code.getD k As.zero).op=((1:Nat):Int)
  ·refine Al true Z Z (A5 cn) Aa<|Ac 1 Z<|Ag Z<|Ab _ [0,0,2,0,2,0] Z ?_
   have hio:=(hform k hkl).i1 oM
   refine Ad 1 Z<|Ak (p:=zP w7.heap.size) 3 CO Z Z Aa<|Af (p:=An (zP w7.heap.size) 3) (.inr Z) (zI<|(T.code.getD k As.zero).num) AC Z (a0.ldp (i:=3) sM) Aa<|Aw (v:=va) (((T.code.getD k As.zero).num).toNat) Bx AT Z Z hA.slL oM sD Aa ?_
   obtain⟨bo,e7,bp⟩:=RN.getL (w:=w) g1 [] (k:=((T.code.getD k As.zero).num).toNat) hA sD
   have co:=bp.lenL
   unfold maxLen at co
   refine Af (p:=Ay va (((T.code.getD k As.zero).num).toNat) 1) (.inr Z) bo B6 Z (e7 _<|At.of_ext [] a8) Aa<|Ac 1 Z<|Ab _ [0,0,3,4,0] Z<|Ad 2 Z (BA (u:=bo) (B:=f1.heap.size) Bv Bx AT Z Z (Md f1.heap.size f1.heap.size _<|bp.one1 g1) (A7 _) Aa fun k7 k8 b0 iw e8=>?_)
   have gz:=b0.size
   have bq:=a8.trans b0
   have b1:=a2.ext b0
   have b2:=a1.ext b0
   refine Dh (v:=vo) (a:=k7) (u:=bo) Bx AT Z Z Z b2 oM e8 (RN.stp g1 bp (At.of_ext [] bq) fun b hb=>.inr (zH<|b2.low b (by simpa using hb))) sD JG Aa ?_
   rintro k9 jz G24 br cp ⟨ix,ku,iy⟩
   have i0:k8.heap.size≤jz.heap.size:=br.size
   have e9:AH w jz:=br.below bq (fun c hc=>A8 hwB (b2.low c (cp c hc))) bq.size
   have ea:=b1.chg br fun hm=>zH<|b2.low _ (cp _ hm)
   refine Ac 1 Z<|Ab _ [0,0] Z<|AQ ((k+1:Nat):Int) Z Z (Bi oM sD) Aa<|Ac 1 Z ?_
   exact⟨(k+1,k9),_,rfl,zR,⟨e9,ea,oM,oM,oM,JF,JH,JI⟩,zD⟩
  refine Al false Z Z (A6 cn) Aa<|Ac 1 Z<|Ai Z<|gK [0,0] Z ?_
  by_cases cq:(T.code.getD k As.zero).op=((3:Nat):Int)
  ·refine Al true Z Z (A5 cq) Aa<|Ac 1 Z<|Ag Z<|AM _ [0,0,1,0,1,0,0,1,0,1,3,0] mixed (by kernel_rfl) ?_
   have hio:=(hform k hkl).i2 oM
   have hra:=hR (T.code.getD k As.zero).a.toNat oM
   have hrb:=hR (T.code.getD k As.zero).b.toNat oM
   have b3:=hra.1
   have bs:=hrb.1
   refine Ad 1 Z<|Ak (p:=zP w7.heap.size) 1 BC Z Z Aa<|Af (p:=An (zP w7.heap.size) 1) (.inl Z) (zI<|(T.code.getD k As.zero).a) AC Z (a0.ldp (i:=1) sM) Aa<|Aw (v:=vo) (((T.code.getD k As.zero).a).toNat) Bx AT Z Z (a1.done fun b hb=>absurd hb z2).slL oM sD Aa ?_
   obtain⟨cr,eb,bt⟩:=RN.getL (w:=f1) g1 [] (k:=((T.code.getD k As.zero).a).toNat) (a1.done (fun b hb=>absurd hb z2)) sD
   have ct:=bt.lenL
   unfold maxLen at ct
   refine Af (p:=Ay vo (((T.code.getD k As.zero).a).toNat) 1) (.inl Z) cr B6 Z (eb _ (At.refl _ _).drew) Aa<|Ad 1 Z<|Ak (p:=zP w7.heap.size) 2 BD Z Z Aa<|Af (p:=An (zP w7.heap.size) 2) (.inl Z) (zI<|(T.code.getD k As.zero).b) AC Z (a0.ldp (i:=2) sM) Aa ?_
   refine Aw (v:=vo) (((T.code.getD k As.zero).b).toNat) Bx AT Z Z (a1.done fun b hb=>absurd hb z2).slL oM sD Aa ?_
   obtain⟨cu,ec,bu⟩:=RN.getL (w:=f1) g1 [] (k:=((T.code.getD k As.zero).b).toNat) (a1.done (fun b hb=>absurd hb z2)) sD
   have cv:=bu.lenL
   unfold maxLen at cv
   refine Af (p:=Ay vo (((T.code.getD k As.zero).b).toNat) 1) (.inl Z) cu B6 Z (ec _ (At.refl _ _).drew) Aa<|Ap 123 [] [] [cr,cu] Z Z PF Aa (EF _ _ _ _ _ (bt).rd (bu).rd oM oM hra.2 hrb.2) ?_
   rintro kv f4 ⟨bi,rfl,a9,a3⟩
   refine⟨_,rfl,a9,?_⟩
   replace a9:=a9.of_drew
   have i3:=a9.size
   have ed:=a8.trans a9
   have b4:=a2.ext a9
   have ee:=a1.ext a9
   have ef:=bt.ext g1 a9
   have eg:=bu.ext g1 a9
   replace a3:=a3.low (B':=f1.heap.size)<|A7 _
   refine Ac 1 Z<|Ab _ [0,0,3,4,0] Z<|Ad 2 Z (BA (u:=bi) (B:=f4.heap.size) Bv Bx AT Z Z (Md f4.heap.size f4.heap.size _<|⟨(Bq a3.isSl).1,(Bq a3.isSl).2⟩) (A7 _) Aa fun ka kb ae iz eh=>?_)
   have i4:=ae.size
   have cw:=ed.trans ae
   have b5:=b4.ext ae
   have ak:=a3.ext (o1) ae
   have bv:=ee.ext ae
   have j0:=ef.ext g1 ae
   have j1:=eg.ext g1 ae
   refine Dh (v:=vo) (a:=ka) (u:=bi) Bx AT Z Z Z bv oM eh (RN.of_fr1 ak fun b hb=>zH<|hFl b (by simpa using hb)) sD JG Aa ?_
   rintro kc k0 G37 bw cx ⟨j2,kw,j3⟩
   have i5:kb.heap.size≤k0.heap.size:=bw.size
   have ei:AH w k0:=bw.below cw (fun c hc=>A8 hwB (bv.low c (cx c hc))) cw.size
   have ej:=b5.chg bw fun hm=>zH<|bv.low _ (cx _ hm)
   refine Ac 1 Z<|Ab _ [0,0] Z<|AQ ((k+1:Nat):Int) Z Z (Bi oM sD) Aa<|Ac 1 Z ?_
   exact⟨(k+1,kc),_,rfl,zR,⟨ei,ej,oM,oM,oM,JF,JH,JI⟩,zD⟩
  refine Al false Z Z (A6 cq) Aa<|Ac 1 Z<|Ai Z<|gK [0,0] Z ?_
  by_cases cy:(T.code.getD k As.zero).op=((4:Nat):Int)
  ·refine Al true Z Z (A5 cy) Aa<|Ac 1 Z<|Ag Z<|AM _ [0,0,1,0,1,0,0,1,0,1,3,0] mixed (by kernel_rfl) ?_
   have hio:=(hform k hkl).i2 oM
   have hra:=hR (T.code.getD k As.zero).a.toNat oM
   have hrb:=hR (T.code.getD k As.zero).b.toNat oM
   have b3:=hra.1
   have bs:=hrb.1
   refine Ad 1 Z<|Ak (p:=zP w7.heap.size) 1 BC Z Z Aa<|Af (p:=An (zP w7.heap.size) 1) (.inl Z) (zI<|(T.code.getD k As.zero).a) AC Z (a0.ldp (i:=1) sM) Aa<|Aw (v:=vo) (((T.code.getD k As.zero).a).toNat) Bx AT Z Z (a1.done fun b hb=>absurd hb z2).slL oM sD Aa ?_
   obtain⟨cz,ek,bx⟩:=RN.getL (w:=f1) g1 [] (k:=((T.code.getD k As.zero).a).toNat) (a1.done (fun b hb=>absurd hb z2)) sD
   have d0:=bx.lenL
   unfold maxLen at d0
   refine Af (p:=Ay vo (((T.code.getD k As.zero).a).toNat) 1) (.inl Z) cz B6 Z (ek _ (At.refl _ _).drew) Aa<|Ad 1 Z<|Ak (p:=zP w7.heap.size) 2 BD Z Z Aa<|Af (p:=An (zP w7.heap.size) 2) (.inl Z) (zI<|(T.code.getD k As.zero).b) AC Z (a0.ldp (i:=2) sM) Aa ?_
   refine Aw (v:=vo) (((T.code.getD k As.zero).b).toNat) Bx AT Z Z (a1.done fun b hb=>absurd hb z2).slL oM sD Aa ?_
   obtain⟨d1,el,bz⟩:=RN.getL (w:=f1) g1 [] (k:=((T.code.getD k As.zero).b).toNat) (a1.done (fun b hb=>absurd hb z2)) sD
   have d2:=bz.lenL
   unfold maxLen at d2
   refine Af (p:=Ay vo (((T.code.getD k As.zero).b).toNat) 1) (.inl Z) d1 B6 Z (el _ (At.refl _ _).drew) Aa<|Ap 172 [] [] [cz,d1] Z Z Yn Aa (Iu _ _ _ _ _ (bx).rd (bz).rd oM oM oM hra.2 hrb.2) ?_
   rintro kx fe ⟨bj,rfl,aa,a4⟩
   refine⟨_,rfl,aa,?_⟩
   replace aa:=aa.of_drew
   have i6:=aa.size
   have em:=a8.trans aa
   have b6:=a2.ext aa
   have en:=a1.ext aa
   have eo:=bx.ext g1 aa
   have ep:=bz.ext g1 aa
   replace a4:=a4.low (B':=f1.heap.size)<|A7 _
   refine Ac 1 Z<|Ab _ [0,0,3,4,0] Z<|Ad 2 Z (BA (u:=bj) (B:=fe.heap.size) Bv Bx AT Z Z (Md fe.heap.size fe.heap.size _<|⟨(Bq a4.isSl).1,(Bq a4.isSl).2⟩) (A7 _) Aa fun kd ke af j4 eq=>?_)
   have i8:=af.size
   have d3:=em.trans af
   have b7:=b6.ext af
   have al:=a4.ext (o1) af
   have c0:=en.ext af
   have j5:=eo.ext g1 af
   have j6:=ep.ext g1 af
   refine Dh (v:=vo) (a:=kd) (u:=bj) Bx AT Z Z Z c0 oM eq (RN.of_fr1 al fun b hb=>zH<|hFl b (by simpa using hb)) sD JG Aa ?_
   rintro kf k1 G50 c2 d4 ⟨j7,ky,j8⟩
   have i9:ke.heap.size≤k1.heap.size:=c2.size
   have er:AH w k1:=c2.below d3 (fun c hc=>A8 hwB (c0.low c (d4 c hc))) d3.size
   have es:=b7.chg c2 fun hm=>zH<|c0.low _ (d4 _ hm)
   refine Ac 1 Z<|Ab _ [0,0] Z<|AQ ((k+1:Nat):Int) Z Z (Bi oM sD) Aa<|Ac 1 Z ?_
   exact⟨(k+1,kf),_,rfl,zR,⟨er,es,oM,oM,oM,JF,JH,JI⟩,zD⟩
  refine Al false Z Z (A6 cy) Aa<|Ac 1 Z<|Ai Z<|gK [0,0] Z ?_
  by_cases d5:(T.code.getD k As.zero).op=((5:Nat):Int)
  ·refine Al true Z Z (A5 d5) Aa<|Ac 1 Z<|Ag Z<|AM _ [0,0,1,0,1,0,0,1,0,1,3,0] mixed (by kernel_rfl) ?_
   have hio:=(hform k hkl).i2 oM
   have hra:=hR (T.code.getD k As.zero).a.toNat oM
   have hrb:=hR (T.code.getD k As.zero).b.toNat oM
   have b3:=hra.1
   have bs:=hrb.1
   refine Ad 1 Z<|Ak (p:=zP w7.heap.size) 1 BC Z Z Aa<|Af (p:=An (zP w7.heap.size) 1) (.inl Z) (zI<|(T.code.getD k As.zero).a) AC Z (a0.ldp (i:=1) sM) Aa<|Aw (v:=vo) (((T.code.getD k As.zero).a).toNat) Bx AT Z Z (a1.done fun b hb=>absurd hb z2).slL oM sD Aa ?_
   obtain⟨d6,et,c3⟩:=RN.getL (w:=f1) g1 [] (k:=((T.code.getD k As.zero).a).toNat) (a1.done (fun b hb=>absurd hb z2)) sD
   have d7:=c3.lenL
   unfold maxLen at d7
   refine Af (p:=Ay vo (((T.code.getD k As.zero).a).toNat) 1) (.inl Z) d6 B6 Z (et _ (At.refl _ _).drew) Aa<|Ad 1 Z<|Ak (p:=zP w7.heap.size) 2 BD Z Z Aa<|Af (p:=An (zP w7.heap.size) 2) (.inl Z) (zI<|(T.code.getD k As.zero).b) AC Z (a0.ldp (i:=2) sM) Aa ?_
   refine Aw (v:=vo) (((T.code.getD k As.zero).b).toNat) Bx AT Z Z (a1.done fun b hb=>absurd hb z2).slL oM sD Aa ?_
   obtain⟨d8,eu,c4⟩:=RN.getL (w:=f1) g1 [] (k:=((T.code.getD k As.zero).b).toNat) (a1.done (fun b hb=>absurd hb z2)) sD
   have d9:=c4.lenL
   unfold maxLen at d9
   refine Af (p:=Ay vo (((T.code.getD k As.zero).b).toNat) 1) (.inl Z) d8 B6 Z (eu _ (At.refl _ _).drew) Aa<|Ap 173 [] [] [d6,d8] Z Z PG Aa (DL _ _ _ _ _ (c3).rd (c4).rd oM oM hra.2 hrb.2) ?_
   rintro kz fr ⟨bk,rfl,ab,a5⟩
   refine⟨_,rfl,ab,?_⟩
   replace ab:=ab.of_drew
   have ia:=ab.size
   have ev:=a8.trans ab
   have b8:=a2.ext ab
   have ew:=a1.ext ab
   have ex:=c3.ext g1 ab
   have ey:=c4.ext g1 ab
   replace a5:=a5.low (B':=f1.heap.size)<|A7 _
   refine Ac 1 Z<|Ab _ [0,0,3,4,0] Z<|Ad 2 Z (BA (u:=bk) (B:=fr.heap.size) Bv Bx AT Z Z (Md fr.heap.size fr.heap.size _<|⟨(Bq a5.isSl).1,(Bq a5.isSl).2⟩) (A7 _) Aa fun kg kh ag j9 ez=>?_)
   have ib:=ag.size
   have da:=ev.trans ag
   have b9:=b8.ext ag
   have am:=a5.ext (o1) ag
   have c5:=ew.ext ag
   have ja:=ex.ext g1 ag
   have jb:=ey.ext g1 ag
   refine Dh (v:=vo) (a:=kg) (u:=bk) Bx AT Z Z Z c5 oM ez (RN.of_fr1 am fun b hb=>zH<|hFl b (by simpa using hb)) sD JG Aa ?_
   rintro ki k2 G63 c6 db ⟨jc,l0,jd⟩
   have ic:kh.heap.size≤k2.heap.size:=c6.size
   have g0:AH w k2:=c6.below da (fun c hc=>A8 hwB (c5.low c (db c hc))) da.size
   have g2:=b9.chg c6 fun hm=>zH<|c5.low _ (db _ hm)
   refine Ac 1 Z<|Ab _ [0,0] Z<|AQ ((k+1:Nat):Int) Z Z (Bi oM sD) Aa<|Ac 1 Z ?_
   exact⟨(k+1,ki),_,rfl,zR,⟨g0,g2,oM,oM,oM,JF,JH,JI⟩,zD⟩
  refine Al false Z Z (A6 d5) Aa<|Ac 1 Z<|Ai Z<|gK [0,0] Z ?_
  by_cases dc:(T.code.getD k As.zero).op=((7:Nat):Int)
  ·refine Al true Z Z (A5 dc) Aa<|Ac 1 Z<|Ag Z<|Ab _ [0,0,2,0,2,3,0] Z ?_
   have hio:=(hform k hkl).i7 oM
   have hra:=hR (T.code.getD k As.zero).a.toNat oM
   have b3:=hra.1
   refine Ad 1 Z<|Ak (p:=zP w7.heap.size) 1 BC Z Z Aa<|Af (p:=An (zP w7.heap.size) 1) (.inr Z) (zI<|(T.code.getD k As.zero).a) AC Z (a0.ldp (i:=1) sM) Aa<|Aw (v:=vo) (((T.code.getD k As.zero).a).toNat) Bx AT Z Z (a1.done fun b hb=>absurd hb z2).slL oM sD Aa ?_
   obtain⟨dd,g3,c7⟩:=RN.getL (w:=f1) g1 [] (k:=((T.code.getD k As.zero).a).toNat) (a1.done (fun b hb=>absurd hb z2)) sD
   have de:=c7.lenL
   unfold maxLen at de
   refine Af (p:=Ay vo (((T.code.getD k As.zero).a).toNat) 1) (.inr Z) dd B6 Z (g3 _<|At.refl _ _) Aa<|Ap 174 [] [] [dd,zI ((1000002:Nat):Int)] Z Z NZ Aa (Ds _ _ _ _ (c7).rd oM oM hra.2 oM) ?_
   rintro l1 fs ⟨bl,rfl,an,ah⟩
   refine⟨_,rfl,an,?_⟩
   have id:=an.size
   have g4:=a8.trans an
   have ba:=a2.ext an
   have g5:=a1.ext an
   have g6:=c7.ext g1 an
   refine Ac 1 Z<|Ab _ [0,0,3,4,0] Z<|Ad 2 Z (BA (u:=bl) (B:=fs.heap.size) Bv Bx AT Z Z (Md fs.heap.size fs.heap.size _<|⟨(Bq ah.isSl).1,(Bq ah.isSl).2⟩) (A7 _) Aa fun kj kk ao je g7=>?_)
   have ie:=ao.size
   have df:=g4.trans ao
   have bb:=ba.ext ao
   have ap:=ah.ext (o1) ao
   have c8:=g5.ext ao
   have jf:=g6.ext g1 ao
   refine Dh (v:=vo) (a:=kj) (u:=bl) Bx AT Z Z Z c8 oM g7 (RN.of_fr1 ap fun b hb=>zH<|hFl b (by simpa using hb)) sD JG Aa ?_
   rintro kl k3 G73 c9 dg ⟨jg,l2,jh⟩
   have ig:kk.heap.size≤k3.heap.size:=c9.size
   have g8:AH w k3:=c9.below df (fun c hc=>A8 hwB (c8.low c (dg c hc))) df.size
   have g9:=bb.chg c9 fun hm=>zH<|c8.low _ (dg _ hm)
   refine Ac 1 Z<|Ab _ [0,0] Z<|AQ ((k+1:Nat):Int) Z Z (Bi oM sD) Aa<|Ac 1 Z ?_
   exact⟨(k+1,kl),_,rfl,zR,⟨g8,g9,oM,oM,oM,JF,JH,JI⟩,zD⟩
  refine Al false Z Z (A6 dc) Aa<|Ac 1 Z<|Ai Z<|gK [0,0] Z ?_
  by_cases dh:(T.code.getD k As.zero).op=((6:Nat):Int)
  ·refine Al true Z Z (A5 dh) Aa<|Ac 1 Z<|Ag Z<|A0<|gK [0,0,2,0,2,0,2,0] Z ?_
   have hio:=(hform k hkl).i2 oM
   have hra:=hR (T.code.getD k As.zero).a.toNat oM
   have hrb:=hR (T.code.getD k As.zero).b.toNat oM
   have b3:=hra.1
   have bs:=hrb.1
   refine Ad 1 Z<|Ak (p:=zP w7.heap.size) 2 BD Z Z Aa<|Af (p:=An (zP w7.heap.size) 2) (.inr Z) (zI<|(T.code.getD k As.zero).b) AC Z (a0.ldp (i:=2) sM) Aa<|Aw (v:=vo) (((T.code.getD k As.zero).b).toNat) Bx AT Z Z (a1.done fun b hb=>absurd hb z2).slL oM sD Aa ?_
   obtain⟨ca,ga,bc⟩:=RN.getL (w:=f1) g1 [] (k:=((T.code.getD k As.zero).b).toNat) (a1.done (fun b hb=>absurd hb z2)) sD
   have di:=bc.lenL
   unfold maxLen at di
   refine Af (p:=Ay vo (((T.code.getD k As.zero).b).toNat) 1) (.inr Z) ca B6 Z (ga _<|At.refl _ _) Aa<|Aw (v:=ca) 0 Bt BG Z Z bc.slL Z sD Aa ?_
   have gb:=RN.getI (w:=f1) (k:=0) bc sD
   refine Af (p:=Ay ca 0 1) (.inr Z) (zI<|((Be (ord.toNat+1) A<|T.code.take k).getD (((T.code.getD k As.zero).b).toNat) []).getD 0 0) AC Z (gb.1 _<|At.refl _ _) Aa ?_
   by_cases dj:((Be (ord.toNat+1) A (T.code.take k)).getD (((T.code.getD k As.zero).b).toNat) []).getD 0 0=((0:Nat):Int)
   ·exact Al true Z Z (A5 dj) Aa<|Aj<|Ag Z<|gK [0,0] Z<|Ac 2 Z<|A1<|Ao<|AG<|Ao<|AG<|Ao<|Ao<|AG<|Ao<|Ah [6,7] Z (.tuple #[zN,zI ((6:Nat):Int)]) Z ⟨_,_,rfl,a8,.inr ⟨rfl,Uh oM oM oM⟩,(fun h9=>absurd h9 oM)⟩
   refine Al false Z Z (A6 dj) Aa<|Aj<|Ai Z<|A2<|AM _ [0,0,1,0,1,0,0,1,0,1,3,0] mixed (by kernel_rfl)<|Ad 1 Z<|Ak (p:=zP w7.heap.size) 1 BC Z Z Aa<|Af (p:=An (zP w7.heap.size) 1) (.inl Z) (zI<|(T.code.getD k As.zero).a) AC Z (a0.ldp (i:=1) sM) Aa ?_
   refine Aw (v:=vo) (((T.code.getD k As.zero).a).toNat) Bx AT Z Z (a1.done fun b hb=>absurd hb z2).slL oM sD Aa ?_
   obtain⟨dk,gc,cb⟩:=RN.getL (w:=f1) g1 [] (k:=((T.code.getD k As.zero).a).toNat) (a1.done (fun b hb=>absurd hb z2)) sD
   have dl:=cb.lenL
   unfold maxLen at dl
   refine Af (p:=Ay vo (((T.code.getD k As.zero).a).toNat) 1) (.inl Z) dk B6 Z (gc _ (At.refl _ _).drew) Aa<|Ad 1 Z<|Ak (p:=zP w7.heap.size) 2 BD Z Z Aa<|Af (p:=An (zP w7.heap.size) 2) (.inl Z) (zI<|(T.code.getD k As.zero).b) AC Z (a0.ldp (i:=2) sM) Aa ?_
   refine Aw (v:=vo) (((T.code.getD k As.zero).b).toNat) Bx AT Z Z (a1.done fun b hb=>absurd hb z2).slL oM sD Aa ?_
   obtain⟨dm,gd,cc⟩:=RN.getL (w:=f1) g1 [] (k:=((T.code.getD k As.zero).b).toNat) (a1.done (fun b hb=>absurd hb z2)) sD
   have dn:=cc.lenL
   unfold maxLen at dn
   refine Af (p:=Ay vo (((T.code.getD k As.zero).b).toNat) 1) (.inl Z) dm B6 Z (gd _ (At.refl _ _).drew) Aa<|Ap 175 [] [] [dk,dm] Z Z UI Aa (FM _ _ _ _ _ (cb).rd (cc).rd oM oM oM hra.2 hrb.2) ?_
   rintro l3 fx ⟨bm,rfl,a7,a6⟩
   refine⟨_,rfl,a7,?_⟩
   replace a7:=a7.of_drew
   have ih:=a7.size
   have ge:=a8.trans a7
   have bd:=a2.ext a7
   have gf:=a1.ext a7
   have gg:=bc.ext g1 a7
   have gh:=cb.ext g1 a7
   have gi:=cc.ext g1 a7
   replace a6:=a6.low (B':=f1.heap.size)<|A7 _
   refine Ac 1 Z<|Ab _ [0,0,3,4,0] Z<|Ad 2 Z (BA (u:=bm) (B:=fx.heap.size) Bv Bx AT Z Z (Md fx.heap.size fx.heap.size _<|⟨(Bq a6.isSl).1,(Bq a6.isSl).2⟩) (A7 _) Aa fun km ko ac ji gj=>?_)
   have ii:=ac.size
   have dp:=ge.trans ac
   have be:=bd.ext ac
   have aq:=a6.ext (o1) ac
   have cd:=gf.ext ac
   have jj:=gg.ext g1 ac
   have jk:=gh.ext g1 ac
   have jl:=gi.ext g1 ac
   refine Dh (v:=vo) (a:=km) (u:=bm) Bx AT Z Z Z cd oM gj (RN.of_fr1 aq fun b hb=>zH<|hFl b (by simpa using hb)) sD JG Aa ?_
   rintro kp k4 G91 ce dq ⟨jm,l4,jn⟩
   have ij:ko.heap.size≤k4.heap.size:=ce.size
   have gk:AH w k4:=ce.below dp (fun c hc=>A8 hwB (cd.low c (dq c hc))) dp.size
   have gl:=be.chg ce fun hm=>zH<|cd.low _ (dq _ hm)
   refine Ac 1 Z<|Ab _ [0,0] Z<|AQ ((k+1:Nat):Int) Z Z (Bi oM sD) Aa<|Ac 1 Z ?_
   exact⟨(k+1,kp),_,rfl,zR,⟨gk,gl,oM,oM,oM,JF,JH,JI⟩,zD⟩
  refine Al false Z Z (A6 dh) Aa<|Ac 1 Z<|Ai Z<|A2<|Ab _ [0,0,3,4,0] Z<|Ad 2 Z (BA (u:=bh) (B:=f1.heap.size) Bv Bx AT Z Z (Md f1.heap.size f1.heap.size _<|⟨(Bq ad.isSl).1,(Bq ad.isSl).2⟩) (A7 _) Aa fun kq kr ax jo gm=>?_)
  have ik:=ax.size
  have dr:=a8.trans ax
  have bf:=a2.ext ax
  have ar:=ad.ext (o1) ax
  have cf:=a1.ext ax
  refine Dh (v:=vo) (a:=kq) (u:=bh) Bx AT Z Z Z cf oM gm (RN.of_fr1 ar fun b hb=>zH<|hFl b (by simpa using hb)) sD JG Aa ?_
  rintro ks k5 G95 cg ds ⟨jp,l5,jq⟩
  have il:kr.heap.size≤k5.heap.size:=cg.size
  have gn:AH w k5:=cg.below dr (fun c hc=>A8 hwB (cf.low c (ds c hc))) dr.size
  have go:=bf.chg cg fun hm=>zH<|cf.low _ (ds _ hm)
  refine Ac 1 Z<|Ab _ [0,0] Z<|AQ ((k+1:Nat):Int) Z Z (Bi oM sD) Aa<|Ac 1 Z ?_
  exact⟨(k+1,ks),_,rfl,zR,⟨gn,go,oM,oM,oM,JF,JH,JI⟩,zD⟩
 exact AI false Z Z (A6 ck) Aa<|Aj<|A0<|Ai Z<|A4<|AA<|AA<|Av<|gK [0,0,0] Z<|Ac 3 Z<|A1<|Ah [6,7] Z (.tuple #[vo,zI ((0:Nat):Int)]) Z ⟨_,_,rfl,dw,.inl ⟨rfl,(by have h9:=hzk;rwa [show k=T.code.length from by omega]at h9)⟩,(fun _=>⟨(by have h9:=av.done (fun b hb=>absurd hb z2);rwa [za oM]at h9),av.cap⟩)⟩
theorem Bu (w:World)(r:Int)(vs:Value)(s:Sr)(S:List Nat)(vo:Nat)(vov:Value)(xs:List (Sr))(usxs:List Value)(Fxs:List Nat)(BO:Nat)(_hr:Bn r)(hs:Rd (B4 rI) w.heap vs s)(hcxs:If w.heap (zP vo)=some vov)(hbxs:Hy 27 S BO w.heap vov xs usxs Fxs)(hSB:∀b∈S,b<BO)(a9:∀b∈S,b<w.heap.size)(hr:0≤r∧r<(xs.length:Int))(hxl:(xs.getD r.toNat []).length≤s.length∧s.length≤13)(hxn:AX (xs.getD r.toNat [])=true)(hsn:AX s=true) :
  Calls Tryz.prog 177 #[zI r,vs,zP vo] w (fun e w'=>e=.returned (.tuple #[])∧At Fxs w w'∧∃us',Hy 27 S BO w'.heap vov (ET xs r s) us' Fxs):=by
 refine Aq [zI r,vs,zP vo] 14 Tryz.func177 Z Z sM ?_
 have a2:AH w w:=AH.refl w
 have ad:=hs.lenle
 have hFl:∀b∈Fxs,b<w.heap.size:=hbxs.lt
 refine AM _ [1,0,1,0,0,1,0,3,0,4] mixed (by kernel_rfl)<|Af (.inl Z) vov MO Z (Bd a2.drew hcxs) Aa<|Ad 1 Z<|Af (.inl Z) vov MO Z (Bd a2.drew hcxs) Aa<|Ad 1 Z<|Aw (v:=vov) ((r).toNat) Bx AT Z Z (hbxs.done hSB).none.slL oM sD Aa ?_
 obtain⟨a7,aa,a4⟩:=hbxs.getF (k:=(r).toNat) sD
 have a5:=a4.lenL
 unfold maxLen at a5
 refine Af (p:=Ay vov ((r).toNat) 1) (.inl Z) a7 B6 Z aa Aa<|Ad 1 Z<|Ap 123 [] [] [a7,vs] Z Z PF Aa (EF _ _ _ _ _ a4.rd (hs.ext g1 a2.drew) oM oM hxn hsn) ?_
 rintro e2 w2 ⟨a6,rfl,a1,a0⟩
 refine⟨_,rfl,a1,?_⟩
 replace a1:=a1.of_drew
 have ab:=a1.size
 have ac:=a2.trans a1
 have a8:=hbxs.ext a1
 replace a0:=a0.low (B':=w.heap.size)<|A7 _
 refine Aw (v:=vov) ((r).toNat) Bx AT Z Z (a8.done hSB).none.slL oM sD Aa ?_
 refine FJ (v:=vov) (u:=a6) (w:=w2) I6 Z Z a8 (RN.of_fr1 a0 fun b hb=>by rcases zi.1 hb with hb|hb;(have:=a9 b hb;omega);(have:=hFl b hb;omega)) sD Aa fun w5 a3 ah ae=>?_
 have af:w2.heap.size≤w5.heap.size:=a3.size
 have ag:At Fxs w w5:=(At.of_ext _ ac).trans a3
 exact Aj<|SJ [] Z (.tuple #[]) Z ⟨rfl,ag,_,ae⟩
theorem L9 {p:Prop}(h:p:=by first|(rw[show(kk-1+1).toNat=kk.toNat from by omega];exact Dm hadj oM (MF oM))|(rw[show(kk-1+1).toNat=kk.toNat from by omega];exact Dm hadj oM (NU oM))|(rw[show(kk-1+1).toNat=kk.toNat from by omega];exact Dm hadj oM (MG oM))|(rw[show(kk-1+1).toNat=kk.toNat from by omega];exact Dm hadj oM (NV oM))|(rw[show(kk-1+1).toNat=kk.toNat from by omega];exact Dm hadj oM (NW oM))|(rw[show(kk-1+1).toNat=kk.toNat from by omega];exact Dm hadj oM (NX oM))):p:=h
theorem La {p:Prop}(h:p:=by(try rw[show((1000002:Nat):Int)=1000002 from rfl]);first|(rw[← MF (k:=kk.toNat) (R:=R) oM];exact E6 hxs oM (hform _ hkn))|(rw[← NU (k:=kk.toNat) (R:=R) oM];exact E6 hxs oM (hform _ hkn))|(rw[← MG (k:=kk.toNat) (R:=R) oM];exact E6 hxs oM (hform _ hkn))|(rw[← NV (k:=kk.toNat) (R:=R) oM];exact E6 hxs oM (hform _ hkn))|(rw[← NW (k:=kk.toNat) (R:=R) oM];exact E6 hxs oM (hform _ hkn))|exact hxs):p:=h
theorem Gs {p:Prop}(h:p:=by first|exact hro.2|exact hRa.2|exact hRb.2|exact hRk.2|exact Fy _ _|exact Ge _ _|exact Fw _ _):p:=h
theorem HT {p:Prop}(h:p:=by refine⟨?_,?_⟩ <;> first|omega|(simp only[Gf,Er,Dl,Fx];omega)):p:=h
theorem HU {p:Prop}(h:p:=by first|exact hro.2|exact Fy _ _|exact Ge _ _|exact Fw _ _):p:=h
theorem Gt {p:Prop}(h:p:=by first|omega|(simp only[Gf,Er,Dl,Fx];omega)):p:=h
theorem Lb {p:Prop}(h:p:=by first|exact hxl|(simp only[C5];exact hxl)):p:=h
theorem IB (w:World)(m:Nat)(ni:Nat)(S:List Nat)(ipT:Int)(vtc vtg vtx:Value)(T:Tp)(oT:Sr)(vr:Value)(R:List (Sr))(vw:Value)(ws:Sr)(c1:∀b∈S,b<w.heap.size)(_hipT:Bn ipT)(htcT:RN [] (D5 4 KU) w.heap vtc T.code)(htgT:RN [] (D5 2 KV) w.heap vtg T.grd)(htoT:RN [] (B4 rI) w.heap vtx oT)(hR:RN [] (B4 (B4 rI)) w.heap vr R)(hqR:C3 vr)(hws:Rd (B4 rI) w.heap vw ws)(hm:1≤m∧m≤13)(hsR:BZ m R)(hlR:R.length=T.code.length)(hlt:T.code.length≤4000)(hlo:oT.length≤ws.length∧ws.length≤1000000)(ho:∀k,k<oT.length→0≤oT.getD k 0∧oT.getD k 0<(T.code.length:Int))(hnw:AX ws=true)(hform:∀k,k<T.code.length→DN ni k (T.code.getD k As.zero)) :
  Calls Tryz.prog 122 #[(.agg #[(zI ipT),vtc,vtg,vtx]),vr,vw] w (fun e w'=>∃v0:Value,e=.returned v0∧AH w w'∧RN S (B4 (B4 rI)) w'.heap v0 (HF T.code R oT ws)∧C3 v0):=by
 refine Aq [.agg #[zI ipT,vtc,vtg,vtx],vr,vw] 159 Tryz.func122 Z Z sM ?_
 have jn:AH w w:=AH.refl w
 have hl_vtx:=htoT.lenL
 unfold maxLen at hl_vtx
 have fe:=hR.lenL
 unfold maxLen at fe
 have m6:=hws.lenle
 refine gK [3,0] Z (By (cs:=#[zI ipT,vtc,vtg,vtx]) Z Aa fun w1 gx ks gy=>?_)
 have gz:=gx.size
 have jo:=jn.trans gx
 replace gy:BX w1.heap w.heap.size [zI ipT,vtc,vtg,vtx]:=gy
 refine Ac 1 Z<|gK [3,3,4] Z (Cn (Bp rI 2) o1 Bx AT Aa fun v2 w2 gu kt jp=>?_)
 have i0:=gu.size
 have jq:=jo.trans gu
 have cu:=gy.ext gu
 have lu:=cu.lt
 refine Bs (z:=zN) (by kernel_rfl) Aa fun w3 dx ku i1=>?_
 have i3:=dx.size
 have i4:=jq.trans dx
 have dy:=cu.ext dx
 have c2:=jp.ext (o2) dx
 replace i1:BX w3.heap w2.heap.size [zN]:=i1
 refine Bm (k:=0) (w:=w3) dS Z Z (Bg c2.isSl) i1 sM Aa fun w5 dz kv gv=>?_
 replace gv:BX w5.heap w2.heap.size [v2]:=gv
 have jr:AH w w5:=dz.below i4 (fun _ h=>zE h) i4.size
 have i5:w3.heap.size≤w5.heap.size:=dz.size
 have js:=dy.chg dz (zB ·)
 have jt:=c2.chg (o2) dz fun _ h=>zA h
 refine Aj<|A0<|gK [0,0,0] Z<|Ad 1 Z<|AR (v:=vr) Bx Z hR.slL Aa<|Ac 1 Z<|A3 ?_
 have hLBa:w.heap.size<w1.heap.size:=by omega
 have hLBb:w1.heap.size≤w2.heap.size:=by omega
 have hLBc:=Nat.le_of_lt hLBa
 obtain⟨Fo8,e0⟩:=Ow.of_fr (T:=w2.heap.size) jt (A7 _)
 have kw:w2.heap.size∉Fo8:=fun hm=>zH<|e0.high _ hm
 have kx:=e0.up (T':=w5.heap.size) oM
 have ky:w2.heap.size<w5.heap.size:=BX.lt gv
 refine AU (S:=Nat×Value×List Nat) (fun⟨k,vo,Fo⟩=>([(20,zI (k:Int)),(1,vr),(2,vw),(3,zP w.heap.size),(7,zP w2.heap.size),(18,vr),(19,zI (R.length:Int))])) (fun⟨k,vo,Fo⟩ W=>AH w W∧BX W.heap w.heap.size [zI ipT,vtc,vtg,vtx]∧BX W.heap w2.heap.size [vo]∧k≤R.length∧Ow (Bp (Bp rI 2) 27) w1.heap.size W.heap.size W.heap vo (IX<|R.take k) Fo∧w2.heap.size∉Fo) (fun⟨k,vo,Fo⟩=>R.length-k) (0,v2,Fo8) ⟨rfl,rfl,rfl,rfl,rfl,rfl,rfl,trivial⟩ ⟨jr,js,gv,oM,(by assumption),(by assumption)⟩ ?_
 clear jn ks gx gz jo jp kt gu i0 jq ku dx i3 i4 c2 kv dz jr i5 js jt
 rintro⟨k,vo,Fo⟩ ρ9 w9 ⟨e1,ax,ap,ju,hOl,hgF⟩
 have i6:w.heap.size≤w9.heap.size:=e1.size
 have kz:=ax.lt
 have l0:=ap.lt
 have mu:w2.heap.size<w9.heap.size:=BX.lt ap
 refine gK [0] Z ?_
 by_cases e2:(k:Int)<(R.length:Int)
 ·refine AI true Z Z (A5 e2) Aa<|Aj<|A0<|Ag Z<|A2<|A0<|A3<|gK [0,2,0] Z<|Aw (v:=vr) k Bx AT Z Z hR.slL Z sD Aa ?_
  obtain⟨e3,i8,e4⟩:=RN.getL (w:=w) g1 [] (k:=k) hR sD
  have e5:=e4.lenL
  unfold maxLen at e5
  refine Af (p:=Ay vr k 1) (.inr Z) e3 B6 Z (i8 _<|At.of_ext [] e1) Aa<|Ac 1 Z<|AM _ [1,0,0,3,3,4,4] mixed (by kernel_rfl) ?_
  have hrk:=hsR k oM
  have l1:=hrk.1
  refine Af (p:=zP w2.heap.size) (.inl Z) vo MO Z (ap.ld (k:=0) sM) Aa<|Ad 1 Z<|AR (v:=e3) Bt Z e4.slL Aa (Ga (n:=(R.getD k []).length) Bt BG Z Z Z sD Aa fun mc mv b5 l2 i9=>?_)
  replace b5:=b5.of_drew
  have jv:=b5.size
  have ia:=e1.trans b5
  have c3:=ax.ext b5
  have c4:=ap.ext b5
  have ib:=hOl.ext o2 b5
  refine BA (u:=mc) (B:=w9.heap.size) o1 Bx AT Z Z i9 (by first|exact A7 _|omega) Aa fun me mf c5 l3 ic=>?_
  have jw:=c5.size
  have e6:=ia.trans c5
  have c6:=c3.ext c5
  have c7:=c4.ext c5
  have df:=ib.ext o2 c5
  refine YP o1 (v:=vo) (a:=me) Bx AT Z Z Z df ic oM oM oM sD (by unfold maxLen;first|omega|assumption|(simp;done)|(simp;omega)) Aa fun m7 lw m8 ck e7 id=>?_
  have jx:mf.heap.size≤lw.heap.size:=ck.size
  have e8:AH w lw:=ck.below e6 (fun c hc=>A8 hLBc (df.low c (zj hc))) e6.size
  have ie:=c6.chg ck fun hm=>zH<|df.low _ (zj hm)
  have ig:=c7.chg ck fun hm=>hgF<|zj hm
  have hF25d:w2.heap.size∉m8:=fun hm=>(id _ hm).elim hgF (fun h9=>by omega)
  refine Bm (k:=0) (w:=lw) dS Z Z (Bg e7.slO) ig sM Aa fun lx cl l4 dg=>?_
  replace dg:BX lx.heap w2.heap.size [m7]:=dg
  have ih:AH w lx:=cl.below e8 (fun _ h=>zE h) e8.size
  have jy:lw.heap.size≤lx.heap.size:=cl.size
  have ii:=ie.chg cl (zB ·)
  have ij:=e7.keep o2 cl fun b hb hm=>by rw[A9 hb]at hm;exact hF25d hm
  refine Aj<|Ab _ [0,0] Z<|AQ ((k+1:Nat):Int) Z Z (Bi oM sD) Aa<|Ac 1 Z ?_
  have hOe:=(ij).up (T':=lx.heap.size) oM
  rw[Uj oM]at hOe
  exact⟨(k+1,m7,m8),_,rfl,zR,⟨ih,ii,dg,oM,hOe,(by assumption)⟩,zD⟩
 refine AI false Z Z (A6 e2) Aa<|Aj<|A0<|Ai Z<|A4<|AA<|AA<|Av<|A0<|gK [0,2,0,0] Z<|Ak (p:=zP w.heap.size) 3 EV Z Z Aa<|Af (p:=An (zP w.heap.size) 3) (.inr Z) vtx B6 Z (ax.ldp (i:=3) sM) Aa<|AR (v:=vtx) Bt Z htoT.slL Aa<|Ac 1 Z<|A3 ?_
 refine AU (S:=Nat) (fun i=>([(34,zI (i:Int)),(1,vr),(2,vw),(3,zP w.heap.size),(7,zP w2.heap.size),(32,vtx),(33,zI (oT.length:Int))])) (fun i W=>AH w W∧BX W.heap w.heap.size [zI ipT,vtc,vtg,vtx]∧BX W.heap w2.heap.size [vo]∧i≤oT.length∧Ow (Bp (Bp rI 2) 27) w1.heap.size W.heap.size W.heap vo (Ku oT ws i<|IX R) Fo) (fun i=>oT.length-i) 0 ⟨rfl,rfl,rfl,rfl,rfl,rfl,rfl,trivial⟩ ⟨e1,ax,ap,oM,(by have h9:=hOl;rw[za oM]at h9;exact h9)⟩ ?_
 clear ap ax e1 i6
 rintro i ρ30 fr ⟨b6,aj,a5,ik,ay⟩
 have e9:w.heap.size≤fr.heap.size:=b6.size
 have hwl:(Ku oT ws i (IX R)).length=T.code.length:=by rw[Di,D0];exact hlR
 have l5:=aj.lt
 have l6:=a5.lt
 have l7:w2.heap.size<fr.heap.size:=BX.lt a5
 refine gK [0] Z ?_
 by_cases ea:(i:Int)<(oT.length:Int)
 ·refine AI true Z Z (A5 ea) Aa<|Aj<|A0<|Ag Z<|A2<|A0<|A3<|gK [0,0,2,0,0] Z<|Ad 1 Z<|Aw (v:=vtx) i Bt BG Z Z htoT.slL Z sD Aa ?_
  have il:=RN.getI (w:=w) (k:=i) htoT sD
  refine Af (p:=Ay vtx i 1) (.inr Z) (zI<|oT.getD i 0) AC Z (il.1 _<|At.of_ext [] b6) Aa<|Ac 2 Z<|AM _ [1,0,0,1,1,0,0,1,0,1,0,0,0,1,0,0,4] mixed (by kernel_rfl) ?_
  have hor:=ho i oM
  have hrw:=G3 (m:=m) (ws:=ws) (GM hsR) (fun q hq=>by have:=ho q hq;rw[D0];omega) i oM (oT.getD i 0).toNat oM
  have l8:=hrw.1
  refine Af (p:=zP w2.heap.size) (.inl Z) vo MO Z (a5.ld (k:=0) sM) Aa<|Ad 1 Z<|Aw (v:=vo) ((oT.getD i 0).toNat) Bx AT Z Z ay.slO oM sD Aa ?_
  obtain⟨dh,eb,ec⟩:=ay.rowO (k:=(oT.getD i 0).toNat) sD
  have ed:=(RN.of ec).lenL
  unfold maxLen at ed
  refine Af (p:=Ay vo ((oT.getD i 0).toNat) 1) (.inl Z) dh B6 Z eb Aa<|Af (p:=zP w2.heap.size) (.inl Z) vo MO Z (a5.ld (k:=0) sM) Aa<|Ad 1 Z<|Aw (v:=vo) ((oT.getD i 0).toNat) Bx AT Z Z ay.slO oM sD Aa ?_
  obtain⟨di,im,dj⟩:=ay.rowO (k:=(oT.getD i 0).toNat) sD
  have ee:=(RN.of dj).lenL
  unfold maxLen at ee
  refine Af (p:=Ay vo ((oT.getD i 0).toNat) 1) (.inl Z) di B6 Z im Aa<|Aw (v:=di) 0 Bt BG Z Z (RN.of dj).slL Z sD Aa ?_
  have ef:=RN.getI (w:=fr) (k:=0) (RN.of dj) sD
  refine Af (p:=Ay di 0 1) (.inl Z) (zI<|((Ku oT ws i<|IX R).getD ((oT.getD i 0).toNat) []).getD 0 0) AC Z (ef.1 _ (At.refl _ _).drew) Aa<|Ad 2 Z<|Aw (v:=vw) i Bt BG Z Z hws.isSl Z sD Aa ?_
  refine Af (p:=Ay vw i 1) (.inl Z) (zI<|ws.getD i 0) AC Z (Bd b6.drew (hws.getI sD).1) Aa ?_
  refine AB 176 [] [] [zI<|((Ku oT ws i<|IX R).getD ((oT.getD i 0).toNat) []).getD 0 0,zI<|ws.getD i 0] Z Z UJ Aa (zI<|md ((((Ku oT ws i<|IX R).getD ((oT.getD i 0).toNat) []).getD 0 0)+(ws.getD i 0))) (fun wq=>Is wq _ _ ef.2 (hws.getI sD).2) ?_
  refine Aw (v:=dh) 0 Bt BG Z Z (RN.of ec).slL Z sD Aa ?_
  refine X7 (v:=vo) (u:=dh) (w:=fr.drew) HL Z Z (Eo _) ay sD eb sD Aa fun ly G39 bj l9 dk io=>?_
  replace bj:=bj.of_drew
  have jz:fr.heap.size≤ly.heap.size:=bj.size
  have ip:AH w ly:=bj.below b6 (fun c hc=>A8 hLBc (ay.low c (dk c hc))) b6.size
  have iq:=aj.chg bj fun hm=>zH<|ay.low _ (dk _ hm)
  have ir:=a5.chg bj fun hm=>hgF<|dk _ hm
  refine Aj<|Ab _ [0,0] Z<|AQ ((i+1:Nat):Int) Z Z (Bi oM sD) Aa<|Ac 1 Z ?_
  have hOe:=(io).up (T':=ly.heap.size) oM
  exact⟨i+1,_,rfl,zR,⟨ip,iq,ir,oM,hOe⟩,zD⟩
 refine AI false Z Z (A6 ea) Aa<|Aj<|A0<|Ai Z<|A4<|AA<|AA<|Av<|A0<|gK [0,2,0,0,0] Z ?_
 have hOw:=ay
 rw[show i=oT.length from by omega]at hOw
 obtain⟨la,F0,is,k0⟩:=Hy.ofOw (S:=S) hOw (fun b hb=>zH<|c1 b hb)
 have cm:w2.heap.size∉F0:=fun hm=>hgF (k0 _ hm)
 obtain⟨BO,hBO⟩:∃b:Nat,b=w1.heap.size:=⟨_,rfl⟩
 rw[← hBO]at is
 have hwB:w.heap.size≤BO:=by omega
 have hSB:∀b∈S,b<BO:=fun b hb=>zH<|c1 b hb
 obtain⟨B0,gw⟩:∃l:List Sr,l=Ku oT ws oT.length (IX R):=⟨_,rfl⟩
 rw[← gw]at is
 have lb:BZ m B0:=by rw[gw];exact G3 (GM hsR) (fun q hq=>by have:=ho q hq;rw[D0];omega) _ (A7 _)
 have lc:B0.length=T.code.length:=by rw[gw,Di,D0];exact hlR
 refine Ak (p:=zP w.heap.size) 1 Cp Z Z Aa<|Af (p:=An (zP w.heap.size) 1) (.inr Z) vtc DQ Z (aj.ldp (i:=1) sM) Aa<|AR (v:=vtc) JY Z htcT.isSl Aa ?_
 refine Bk ((T.code.length:Int)-((1:Nat):Int)) Z Z (CM sD sD) Aa<|Ac 1 Z<|A3 ?_
 refine AU (S:=Int×List Sr×List Value) (fun⟨kk,xs,us⟩=>([(12,zI kk),(1,vr),(3,zP w.heap.size),(7,zP w2.heap.size)])) (fun⟨kk,xs,us⟩ W=>AH w W∧BX W.heap w.heap.size [zI ipT,vtc,vtg,vtx]∧BX W.heap w2.heap.size [vo]∧(-1≤kk∧kk<(T.code.length:Int))∧Hy 27 S BO W.heap vo xs us F0∧BZ m xs∧xs.length=T.code.length∧Rq T.code R (kk+1).toNat xs=Rq T.code R T.code.length B0) (fun⟨kk,xs,us⟩=>(kk+1).toNat) ((T.code.length:Int)-1,B0,la) ⟨rfl,rfl,rfl,rfl,trivial⟩ ⟨b6,aj,a5,oM,is,lb,lc,(by rw[show((T.code.length:Int)-1+1).toNat=T.code.length from by omega])⟩ ?_
 clear a5 aj b6 e9 k0
 rintro⟨kk,xs,us⟩ ρ42 f1 ⟨cn,au,a8,it,hbl,hxs,hxl,hadj⟩
 have k1:w.heap.size≤f1.heap.size:=cn.size
 have le:=au.lt
 have lf:=a8.lt
 have hFl:∀b∈F0,b<f1.heap.size:=hbl.lt
 have lg:=BX.lt a8
 refine A0<|gK [0,0] Z<|Ad 1 Z ?_
 by_cases eg:((0:Nat):Int)≤kk
 ·refine De true Z Z (A5 eg) Aa<|Aj<|Ag Z<|A2<|A0<|A3<|A0 ?_
  letI:JR:=SA [f1.drew.heap.size]
  refine Jx.AM _ [0,1,0,0,1,1,0,0,1,3,3,0] mixed (by kernel_rfl) ?_
  have ba:∀wj,At [f1.drew.heap.size] f1.drew wj→AH f1.drew wj:=fun wj hj=>At.toExt hj (fun b hb=>Nat.le_of_eq (A9 hb).symm)
  have hkn:kk.toNat<T.code.length:=by omega
  have hro:=hxs kk.toNat oM
  have lh:=hro.1
  have hRk:=hsR kk.toNat oM
  have li:=hRk.1
  refine Jx.Ak (p:=zP w.heap.size) 1 Cp Z Z Aa<|Jx.eO (p:=An (zP w.heap.size) 1) vtc DQ Z (fun wj hj=>(BX.ext (w:=f1.drew) au<|ba wj hj).ldp (i:=1) sM) Aa<|Jx.YM (zI kk) Z Aa<|Jx.Aw (v:=vtc) ((kk).toNat) JY FD Z Z htcT.isSl oM sD Aa ?_
  obtain⟨cs49,iu,iv⟩:=htcT.get AY As.zero (k:=(kk).toNat) sD
  obtain⟨rfl,av⟩:=Io iu
  refine Jx.ZZ (p:=Ay vtc ((kk).toNat) 4) [zI<|(T.code.getD ((kk).toNat) As.zero).op,zI<|(T.code.getD ((kk).toNat) As.zero).a,zI<|(T.code.getD ((kk).toNat) As.zero).b,zI<|(T.code.getD ((kk).toNat) As.zero).num] DZ Z (fun wj hj=>iv wj<|At.of_ext []<|cn.drew.trans<|ba wj hj) Z Aa<|Jx.eO (p:=zP w2.heap.size) vo MO Z (fun wj hj=>(BX.ext (w:=f1.drew) a8<|ba wj hj).ldp (i:=0) sM) Aa<|Jx.YM (zI kk) Z Aa ?_
  refine Jx.Aw (v:=vo) ((kk).toNat) Bx AT Z Z (hbl.done hSB).none.slL oM sD Aa ?_
  obtain⟨a9,iw,dl⟩:=hbl.getF (k:=(kk).toNat) sD
  have eh:=dl.lenL
  unfold maxLen at eh
  refine Jx.eO (p:=Ay vo ((kk).toNat) 1) a9 B6 Z (fun wj hj=>Bd (w:=f1.drew) (ba wj hj) iw) Aa ?_
  have lj:=au.lt
  have lk:=a8.lt
  have k2:f1.drew.heap.size=f1.heap.size:=rfl
  refine Jx.fa<|Bs (z:=.agg #[zI 0,zI 0,zI 0,zI 0]) Qo Aa ?_
  intro m9 ac ll dm
  refine Aj ?_
  replace ac:=ac.of_drew
  have k3:=ac.size
  have ei:=cn.trans ac
  have bk:=au.ext ac
  have bl:=a8.ext ac
  have lm:=hbl.ext ac
  have ln:=dl.ext g1 ac
  replace dm:BX m9.heap f1.drew.heap.size [zI 0,zI 0,zI 0,zI 0]:=dm
  refine Jx.gP (BE (vs:=[zI<|(T.code.getD ((kk).toNat) As.zero).op,zI<|(T.code.getD ((kk).toNat) As.zero).a,zI<|(T.code.getD ((kk).toNat) As.zero).b,zI<|(T.code.getD ((kk).toNat) As.zero).num]) DZ Z Z (by intro u hu;simp only[ze,z2,or_false]at hu;rcases hu with rfl|rfl|rfl|rfl <;> first|exact⟨rfl,rfl⟩) dm Z Z Aa fun f2 b7 lo a6=>?_)
  replace a6:BX f2.heap f1.drew.heap.size [zI ((T.code.getD ((kk).toNat) As.zero).op),zI ((T.code.getD ((kk).toNat) As.zero).a),zI ((T.code.getD ((kk).toNat) As.zero).b),zI ((T.code.getD ((kk).toNat) As.zero).num)]:=a6
  have ad:AH w f2:=b7.below ei (fun _ h=>zE h) ei.size
  have k4:m9.heap.size≤f2.heap.size:=b7.size
  have bm:=bk.chg b7 (zB ·)
  have az:=bl.chg b7 (zB ·)
  have ae:=hbl.ext<|b7.below ac (fun _ h=>zE h) ac.size
  have an:=dl.ext g1<|b7.below ac (fun _ h=>zE h) ac.size
  refine Aj ⟨b7,?_⟩
  refine Jx.SN a9 Z Aa<|Jx.Aj<|gK [0,0] Z<|O5 [] [zP w2.heap.size] Z Z Aa<|Ac 1 Z<|gK [0,2] Z<|Ak (p:=zP f1.drew.heap.size) 0 HN Z Z Aa<|Af (p:=An (zP f1.drew.heap.size) 0) (.inr Z) (zI<|(T.code.getD ((kk).toNat) As.zero).op) AC Z (a6.ldp (i:=0) sM) Aa<|Aj<|A3<|gK [0,0] Z ?_
  by_cases ej:(T.code.getD ((kk).toNat) As.zero).op=((3:Nat):Int)
  ·refine Al true Z Z (A5 ej) Aa<|Ac 1 Z<|Ag Z<|gK [0,0,2,0,4] Z ?_
   have hio:=(hform kk.toNat hkn).i2 oM
   have hra:=hxs (T.code.getD kk.toNat As.zero).a.toNat oM
   have co:=hra.1
   have hRa:=hsR (T.code.getD kk.toNat As.zero).a.toNat oM
   have hRb:=hsR (T.code.getD kk.toNat As.zero).b.toNat oM
   have dn:=hRa.1
   have dp:=hRb.1
   refine Ad 1 Z<|Ak (p:=zP f1.drew.heap.size) 1 BC Z Z Aa<|Af (p:=An (zP f1.drew.heap.size) 1) (.inr Z) (zI<|(T.code.getD ((kk).toNat) As.zero).a) AC Z (a6.ldp (i:=1) sM) Aa<|Ad 1 Z ?_
   refine AD 177 [] [zP w2.heap.size] [zI<|(T.code.getD ((kk).toNat) As.zero).a,a9,zP w2.heap.size] Z Z KC Aa (Bu _ ((T.code.getD ((kk).toNat) As.zero).a) a9 (xs.getD ((kk).toNat) []) S w2.heap.size vo (xs) _ _ BO av.2.1 an.rd (az.ld (k:=0) sM) ae hSB (fun b hb=>zH<|c1 b hb) oM HT hra.2 HU) ?_
   rintro mw lz ⟨rfl,bn,lp,cp⟩
   refine⟨_,rfl,?_⟩
   have k5:f2.heap.size≤lz.heap.size:=bn.size
   have ek:AH w lz:=bn.below ad (fun c hc=>A8 hwB (ae.low c hc)) ad.size
   have ix:=bm.chg bn fun hm=>by have:=ae.low _ hm;have:=hFl _ hm;omega
   have el:=az.chg bn fun hm=>cm hm
   have em:=a6.chg bn fun hm=>by have:=ae.low _ hm;have:=hFl _ hm;omega
   have en:=an.chg g1<|bn.sub fun b hb=>z1 _ hb
   have dq:BZ m (ET xs (T.code.getD kk.toNat As.zero).a (xs.getD kk.toNat [])):=CC hxs oM
   have iy:(ET xs (T.code.getD kk.toNat As.zero).a (xs.getD kk.toNat [])).length=T.code.length:=by rw[C5];exact hxl
   have hrb:=dq (T.code.getD kk.toNat As.zero).b.toNat oM
   have dr:=hrb.1
   refine Aj<|Ab _ [0,0,2,0,4] Z<|Ad 1 Z<|Ak (p:=zP f1.drew.heap.size) 2 BD Z Z Aa<|Af (p:=An (zP f1.drew.heap.size) 2) (.inr Z) (zI<|(T.code.getD ((kk).toNat) As.zero).b) AC Z (em.ldp (i:=2) sM) Aa<|Ad 1 Z ?_
   refine AD 177 [] [zP w2.heap.size] [zI<|(T.code.getD ((kk).toNat) As.zero).b,a9,zP w2.heap.size] Z Z KC Aa (Bu _ ((T.code.getD ((kk).toNat) As.zero).b) a9 (xs.getD ((kk).toNat) []) S w2.heap.size vo (ET xs ((T.code.getD ((kk).toNat) As.zero).a)<|xs.getD ((kk).toNat) []) _ _ BO av.2.2.1 en.rd (el.ld (k:=0) sM) cp hSB (fun b hb=>zH<|c1 b hb) oM HT hrb.2 HU) ?_
   rintro mx ma ⟨rfl,bo,iz,j0⟩
   refine⟨_,rfl,?_⟩
   have k6:lz.heap.size≤ma.heap.size:=bo.size
   have j1:AH w ma:=bo.below ek (fun c hc=>A8 hwB (cp.low c hc)) ek.size
   have j2:=ix.chg bo fun hm=>by have:=cp.low _ hm;have:=hFl _ hm;omega
   have j3:=el.chg bo fun hm=>cm hm
   have lq:=em.chg bo fun hm=>by have:=cp.low _ hm;have:=hFl _ hm;omega
   have lr:=en.chg g1<|bo.sub fun b hb=>z1 _ hb
   refine Aj<|Ab _ [0,0,0] Z<|Ad 1 Z<|Bk (kk-((1:Nat):Int)) Z Z (CM sD sD) Aa<|Ac 1 Z ?_
   have hbe:=j0
   exact⟨(kk-1,ET (ET xs ((T.code.getD ((kk).toNat) As.zero).a) (xs.getD ((kk).toNat) [])) ((T.code.getD ((kk).toNat) As.zero).b) (xs.getD ((kk).toNat) []),iz),_,rfl,zR,⟨j1,j2,j3,oM,hbe,La,Lb,L9⟩,zD⟩
  refine Al false Z Z (A6 ej) Aa<|Ac 1 Z<|Ai Z<|gK [0,0] Z ?_
  by_cases eo:(T.code.getD ((kk).toNat) As.zero).op=((4:Nat):Int)
  ·refine Al true Z Z (A5 eo) Aa<|Ac 1 Z<|Ag Z<|gK [0,0,2,0,4] Z ?_
   have hio:=(hform kk.toNat hkn).i2 oM
   have hra:=hxs (T.code.getD kk.toNat As.zero).a.toNat oM
   have co:=hra.1
   have hRa:=hsR (T.code.getD kk.toNat As.zero).a.toNat oM
   have hRb:=hsR (T.code.getD kk.toNat As.zero).b.toNat oM
   have dn:=hRa.1
   have dp:=hRb.1
   refine Ad 1 Z<|Ak (p:=zP f1.drew.heap.size) 1 BC Z Z Aa<|Af (p:=An (zP f1.drew.heap.size) 1) (.inr Z) (zI<|(T.code.getD ((kk).toNat) As.zero).a) AC Z (a6.ldp (i:=1) sM) Aa<|Ad 1 Z ?_
   refine AD 177 [] [zP w2.heap.size] [zI<|(T.code.getD ((kk).toNat) As.zero).a,a9,zP w2.heap.size] Z Z KC Aa (Bu _ ((T.code.getD ((kk).toNat) As.zero).a) a9 (xs.getD ((kk).toNat) []) S w2.heap.size vo (xs) _ _ BO av.2.1 an.rd (az.ld (k:=0) sM) ae hSB (fun b hb=>zH<|c1 b hb) oM HT hra.2 HU) ?_
   rintro my m0 ⟨rfl,bp,ls,j4⟩
   refine⟨_,rfl,?_⟩
   have k7:f2.heap.size≤m0.heap.size:=bp.size
   have j5:AH w m0:=bp.below ad (fun c hc=>A8 hwB (ae.low c hc)) ad.size
   have j6:=bm.chg bp fun hm=>by have:=ae.low _ hm;have:=hFl _ hm;omega
   have j7:=az.chg bp fun hm=>cm hm
   have ep:=a6.chg bp fun hm=>by have:=ae.low _ hm;have:=hFl _ hm;omega
   have eq:=an.chg g1<|bp.sub fun b hb=>z1 _ hb
   have dq:BZ m (ET xs (T.code.getD kk.toNat As.zero).a (xs.getD kk.toNat [])):=CC hxs oM
   have iy:(ET xs (T.code.getD kk.toNat As.zero).a (xs.getD kk.toNat [])).length=T.code.length:=by rw[C5];exact hxl
   have hrb:=dq (T.code.getD kk.toNat As.zero).b.toNat oM
   have dr:=hrb.1
   refine Aj<|AM _ [0,0,1,0,3,4] mixed (by kernel_rfl)<|Ad 1 Z<|Ak (p:=zP f1.drew.heap.size) 2 BD Z Z Aa<|Af (p:=An (zP f1.drew.heap.size) 2) (.inl Z) (zI<|(T.code.getD ((kk).toNat) As.zero).b) AC Z (ep.ldp (i:=2) sM) Aa<|Ad 1 Z<|Ap 174 [] [] [a9,zI ((1000002:Nat):Int)] Z Z NZ Aa (Ds _ _ _ _ eq.rd oM Gt Gs oM) ?_
   rintro mz mg ⟨cv,rfl,ao,aw⟩
   refine⟨_,rfl,ao,?_⟩
   replace ao:=ao.of_drew
   have k8:=ao.size
   have er:=j5.trans ao
   have cq:=j6.ext ao
   have bb:=j7.ext ao
   have cr:=ep.ext ao
   have ct:=j4.ext ao
   have j8:=eq.ext g1 ao
   replace aw:=aw.low (B':=m0.heap.size)<|A7 _
   refine AD 177 [] [zP w2.heap.size] [zI<|(T.code.getD ((kk).toNat) As.zero).b,cv,zP w2.heap.size] Z Z KC Aa (Bu _ ((T.code.getD ((kk).toNat) As.zero).b) cv (CL (xs.getD ((kk).toNat) []) ((1000002:Nat):Int)) S w2.heap.size vo (ET xs ((T.code.getD ((kk).toNat) As.zero).a)<|xs.getD ((kk).toNat) []) _ _ BO av.2.2.1 aw.rd1 (bb.ld (k:=0) sM) ct hSB (fun b hb=>zH<|c1 b hb) oM HT hrb.2 HU) ?_
   rintro n0 mb ⟨rfl,b8,j9,ja⟩
   refine⟨_,rfl,?_⟩
   have k9:mg.heap.size≤mb.heap.size:=b8.size
   have jb:AH w mb:=b8.below er (fun c hc=>A8 hwB (ct.low c hc)) er.size
   have es:=cq.chg b8 fun hm=>by have:=ct.low _ hm;have:=hFl _ hm;omega
   have et:=bb.chg b8 fun hm=>cm hm
   have ka:=cr.chg b8 fun hm=>by have:=ct.low _ hm;have:=hFl _ hm;omega
   have kb:=j8.chg g1<|b8.sub fun b hb=>z1 _ hb
   have kc:=aw.chg (o1) b8 fun c hc=>zH<|hFl c hc
   refine Aj<|Ab _ [0,0,0] Z<|Ad 1 Z<|Bk (kk-((1:Nat):Int)) Z Z (CM sD sD) Aa<|Ac 1 Z ?_
   have hbe:=ja
   exact⟨(kk-1,ET (ET xs ((T.code.getD ((kk).toNat) As.zero).a) (xs.getD ((kk).toNat) [])) ((T.code.getD ((kk).toNat) As.zero).b) (CL (xs.getD ((kk).toNat) []) ((1000002:Nat):Int)),j9),_,rfl,zR,⟨jb,es,et,oM,hbe,La,Lb,L9⟩,zD⟩
  refine Al false Z Z (A6 eo) Aa<|Ac 1 Z<|Ai Z<|gK [0,0] Z ?_
  by_cases cw:(T.code.getD ((kk).toNat) As.zero).op=((5:Nat):Int)
  ·refine Al true Z Z (A5 cw) Aa<|Ac 1 Z<|Ag Z<|A0<|AM _ [0,0,1,0,0,0,1,0,1,3,4] mixed (by kernel_rfl) ?_
   have hio:=(hform kk.toNat hkn).i2 oM
   have hra:=hxs (T.code.getD kk.toNat As.zero).a.toNat oM
   have co:=hra.1
   have hRa:=hsR (T.code.getD kk.toNat As.zero).a.toNat oM
   have hRb:=hsR (T.code.getD kk.toNat As.zero).b.toNat oM
   have dn:=hRa.1
   have dp:=hRb.1
   refine Ad 1 Z<|Ak (p:=zP f1.drew.heap.size) 1 BC Z Z Aa<|Af (p:=An (zP f1.drew.heap.size) 1) (.inl Z) (zI<|(T.code.getD ((kk).toNat) As.zero).a) AC Z (a6.ldp (i:=1) sM) Aa<|Ad 2 Z<|Ak (p:=zP f1.drew.heap.size) 2 BD Z Z Aa<|Af (p:=An (zP f1.drew.heap.size) 2) (.inl Z) (zI<|(T.code.getD ((kk).toNat) As.zero).b) AC Z (a6.ldp (i:=2) sM) Aa ?_
   refine Aw (v:=vr) (((T.code.getD ((kk).toNat) As.zero).b).toNat) Bx AT Z Z hR.slL oM sD Aa ?_
   obtain⟨cx,eu,cy⟩:=RN.getL (w:=w) g1 [] (k:=((T.code.getD ((kk).toNat) As.zero).b).toNat) hR sD
   have ds:=cy.lenL
   unfold maxLen at ds
   refine Af (p:=Ay vr (((T.code.getD ((kk).toNat) As.zero).b).toNat) 1) (.inl Z) cx B6 Z (eu _<|At.of_ext [] ad.drew) Aa<|Ap 173 [] [] [a9,cx] Z Z PG Aa (DL _ _ _ _ _ an.rd (cy.ext g1 ad.drew).rd Gt Gt Gs Gs) ?_
   rintro mh m1 ⟨c8,rfl,a2,af⟩
   refine⟨_,rfl,a2,?_⟩
   replace a2:=a2.of_drew
   have jc:=a2.size
   have cz:=ad.trans a2
   have c9:=bm.ext a2
   have b0:=az.ext a2
   have ca:=a6.ext a2
   have bc:=ae.ext a2
   have ev:=an.ext g1 a2
   replace af:=af.low (B':=f2.heap.size)<|A7 _
   refine AD 177 [] [zP w2.heap.size] [zI<|(T.code.getD ((kk).toNat) As.zero).a,c8,zP w2.heap.size] Z Z KC Aa (Bu _ ((T.code.getD ((kk).toNat) As.zero).a) c8 (Ce (xs.getD ((kk).toNat) [])<|R.getD (((T.code.getD ((kk).toNat) As.zero).b).toNat) []) S w2.heap.size vo (xs) _ _ BO av.2.1 af.rd1 (b0.ld (k:=0) sM) bc hSB (fun b hb=>zH<|c1 b hb) oM HT hra.2 HU) ?_
   rintro mi f3 ⟨rfl,ak,kd,ew⟩
   refine⟨_,rfl,?_⟩
   have jd:m1.heap.size≤f3.heap.size:=ak.size
   have cb:AH w f3:=ak.below cz (fun c hc=>A8 hwB (bc.low c hc)) cz.size
   have ex:=c9.chg ak fun hm=>by have:=bc.low _ hm;have:=hFl _ hm;omega
   have ey:=b0.chg ak fun hm=>cm hm
   have cc:=ca.chg ak fun hm=>by have:=bc.low _ hm;have:=hFl _ hm;omega
   have d0:=ev.chg g1<|ak.sub fun b hb=>z1 _ hb
   have ez:=af.chg (o1) ak fun c hc=>zH<|hFl c hc
   have dq:BZ m (ET xs (T.code.getD kk.toNat As.zero).a (Ce (xs.getD kk.toNat []) (R.getD (T.code.getD kk.toNat As.zero).b.toNat []))):=CC hxs oM
   have iy:(ET xs (T.code.getD kk.toNat As.zero).a (Ce (xs.getD kk.toNat []) (R.getD (T.code.getD kk.toNat As.zero).b.toNat []))).length=T.code.length:=by rw[C5];exact hxl
   have hrb:=dq (T.code.getD kk.toNat As.zero).b.toNat oM
   have dr:=hrb.1
   refine Aj<|AM _ [0,0,1,0,0,0,1,0,1,3,4] mixed (by kernel_rfl)<|Ad 1 Z<|Ak (p:=zP f1.drew.heap.size) 2 BD Z Z Aa<|Af (p:=An (zP f1.drew.heap.size) 2) (.inl Z) (zI<|(T.code.getD ((kk).toNat) As.zero).b) AC Z (cc.ldp (i:=2) sM) Aa<|Ad 2 Z<|Ak (p:=zP f1.drew.heap.size) 1 BC Z Z Aa<|Af (p:=An (zP f1.drew.heap.size) 1) (.inl Z) (zI<|(T.code.getD ((kk).toNat) As.zero).a) AC Z (cc.ldp (i:=1) sM) Aa ?_
   refine Aw (v:=vr) (((T.code.getD ((kk).toNat) As.zero).a).toNat) Bx AT Z Z hR.slL oM sD Aa ?_
   obtain⟨d1,g0,d2⟩:=RN.getL (w:=w) g1 [] (k:=((T.code.getD ((kk).toNat) As.zero).a).toNat) hR sD
   have dt:=d2.lenL
   unfold maxLen at dt
   refine Af (p:=Ay vr (((T.code.getD ((kk).toNat) As.zero).a).toNat) 1) (.inl Z) d1 B6 Z (g0 _<|At.of_ext [] cb.drew) Aa<|Ap 173 [] [] [a9,d1] Z Z PG Aa (DL _ _ _ _ _ d0.rd (d2.ext g1 cb.drew).rd Gt Gt Gs Gs) ?_
   rintro mj m2 ⟨cd,rfl,a0,ag⟩
   refine⟨_,rfl,a0,?_⟩
   replace a0:=a0.of_drew
   have je:=a0.size
   have d3:=cb.trans a0
   have bq:=ex.ext a0
   have aq:=ey.ext a0
   have br:=cc.ext a0
   have bs:=ez.ext (o1) a0
   have bd:=ew.ext a0
   have g2:=d0.ext g1 a0
   replace ag:=ag.low (B':=f3.heap.size)<|A7 _
   refine AD 177 [] [zP w2.heap.size] [zI<|(T.code.getD ((kk).toNat) As.zero).b,cd,zP w2.heap.size] Z Z KC Aa (Bu _ ((T.code.getD ((kk).toNat) As.zero).b) cd (Ce (xs.getD ((kk).toNat) [])<|R.getD (((T.code.getD ((kk).toNat) As.zero).a).toNat) []) S w2.heap.size vo (ET xs ((T.code.getD ((kk).toNat) As.zero).a)<|Ce (xs.getD ((kk).toNat) [])<|R.getD (((T.code.getD ((kk).toNat) As.zero).b).toNat) []) _ _ BO av.2.2.1 ag.rd1 (aq.ld (k:=0) sM) bd hSB (fun b hb=>zH<|c1 b hb) oM HT hrb.2 HU) ?_
   rintro ml fs ⟨rfl,aa,g3,g4⟩
   refine⟨_,rfl,?_⟩
   have jf:m2.heap.size≤fs.heap.size:=aa.size
   have g5:AH w fs:=aa.below d3 (fun c hc=>A8 hwB (bd.low c hc)) d3.size
   have g6:=bq.chg aa fun hm=>by have:=bd.low _ hm;have:=hFl _ hm;omega
   have g7:=aq.chg aa fun hm=>cm hm
   have ke:=br.chg aa fun hm=>by have:=bd.low _ hm;have:=hFl _ hm;omega
   have kf:=g2.chg g1<|aa.sub fun b hb=>z1 _ hb
   have kg:=bs.chg (o1) aa fun c hc=>zH<|hFl c hc
   have kh:=ag.chg (o1) aa fun c hc=>zH<|hFl c hc
   refine Aj<|Ab _ [0,0,0] Z<|Ad 1 Z<|Bk (kk-((1:Nat):Int)) Z Z (CM sD sD) Aa<|Ac 1 Z ?_
   have hbe:=g4
   exact⟨(kk-1,ET (ET xs ((T.code.getD ((kk).toNat) As.zero).a) (Ce (xs.getD ((kk).toNat) []) (R.getD (((T.code.getD ((kk).toNat) As.zero).b).toNat) []))) ((T.code.getD ((kk).toNat) As.zero).b) (Ce (xs.getD ((kk).toNat) []) (R.getD (((T.code.getD ((kk).toNat) As.zero).a).toNat) [])),g3),_,rfl,zR,⟨g5,g6,g7,oM,hbe,La,Lb,L9⟩,zD⟩
  refine Al false Z Z (A6 cw) Aa<|Ac 1 Z<|Ai Z<|gK [0,0] Z ?_
  by_cases d4:(T.code.getD ((kk).toNat) As.zero).op=((6:Nat):Int)
  ·refine Al true Z Z (A5 d4) Aa<|Ac 1 Z<|Ag Z<|gK [0,0,0,2,0,2,3,0] Z ?_
   have hio:=(hform kk.toNat hkn).i2 oM
   have hra:=hxs (T.code.getD kk.toNat As.zero).a.toNat oM
   have co:=hra.1
   have hRa:=hsR (T.code.getD kk.toNat As.zero).a.toNat oM
   have hRb:=hsR (T.code.getD kk.toNat As.zero).b.toNat oM
   have dn:=hRa.1
   have dp:=hRb.1
   refine Ad 2 Z<|Ak (p:=zP f1.drew.heap.size) 2 BD Z Z Aa<|Af (p:=An (zP f1.drew.heap.size) 2) (.inr Z) (zI<|(T.code.getD ((kk).toNat) As.zero).b) AC Z (a6.ldp (i:=2) sM) Aa<|Aw (v:=vr) (((T.code.getD ((kk).toNat) As.zero).b).toNat) Bx AT Z Z hR.slL oM sD Aa ?_
   obtain⟨d5,g8,d6⟩:=RN.getL (w:=w) g1 [] (k:=((T.code.getD ((kk).toNat) As.zero).b).toNat) hR sD
   have du:=d6.lenL
   unfold maxLen at du
   refine Af (p:=Ay vr (((T.code.getD ((kk).toNat) As.zero).b).toNat) 1) (.inr Z) d5 B6 Z (g8 _<|At.of_ext [] ad) Aa<|Ap 175 [] [] [a9,d5] Z Z UI Aa (FM _ _ _ _ _ an.rd (d6.ext g1 ad).rd Gt Gt oM Gs Gs) ?_
   rintro mm m3 ⟨b9,rfl,ab,be⟩
   refine⟨_,rfl,ab,?_⟩
   have jg:=ab.size
   have d7:=ad.trans ab
   have ce:=bm.ext ab
   have b1:=az.ext ab
   have b2:=a6.ext ab
   have bf:=ae.ext ab
   have g9:=an.ext g1 ab
   refine Ac 1 Z<|gK [0,0,2,0,4] Z<|Ad 1 Z<|Ak (p:=zP f1.drew.heap.size) 1 BC Z Z Aa<|Af (p:=An (zP f1.drew.heap.size) 1) (.inr Z) (zI<|(T.code.getD ((kk).toNat) As.zero).a) AC Z (b2.ldp (i:=1) sM) Aa<|Ad 1 Z ?_
   refine AD 177 [] [zP w2.heap.size] [zI<|(T.code.getD ((kk).toNat) As.zero).a,b9,zP w2.heap.size] Z Z KC Aa (Bu _ ((T.code.getD ((kk).toNat) As.zero).a) b9 (BT (xs.getD ((kk).toNat) [])<|R.getD (((T.code.getD ((kk).toNat) As.zero).b).toNat) []) S w2.heap.size vo (xs) _ _ BO av.2.1 be.rd1 (b1.ld (k:=0) sM) bf hSB (fun b hb=>zH<|c1 b hb) oM HT hra.2 HU) ?_
   rintro mn f4 ⟨rfl,al,ki,ga⟩
   refine⟨_,rfl,?_⟩
   have jh:m3.heap.size≤f4.heap.size:=al.size
   have cf:AH w f4:=al.below d7 (fun c hc=>A8 hwB (bf.low c hc)) d7.size
   have gb:=ce.chg al fun hm=>by have:=bf.low _ hm;have:=hFl _ hm;omega
   have gc:=b1.chg al fun hm=>cm hm
   have d8:=b2.chg al fun hm=>by have:=bf.low _ hm;have:=hFl _ hm;omega
   have gd:=g9.chg g1<|al.sub fun b hb=>z1 _ hb
   have d9:=be.chg (o1) al fun c hc=>zH<|hFl c hc
   have dq:BZ m (ET xs (T.code.getD kk.toNat As.zero).a (BT (xs.getD kk.toNat []) (R.getD (T.code.getD kk.toNat As.zero).b.toNat []))):=CC hxs oM
   have iy:(ET xs (T.code.getD kk.toNat As.zero).a (BT (xs.getD kk.toNat []) (R.getD (T.code.getD kk.toNat As.zero).b.toNat []))).length=T.code.length:=by rw[C5];exact hxl
   have hrb:=dq (T.code.getD kk.toNat As.zero).b.toNat oM
   have dr:=hrb.1
   refine Aj<|AM _ [0,0,1,0,0,0,0,1,3,3,4] mixed (by kernel_rfl)<|Ad 1 Z<|Ak (p:=zP f1.drew.heap.size) 2 BD Z Z Aa<|Af (p:=An (zP f1.drew.heap.size) 2) (.inl Z) (zI<|(T.code.getD ((kk).toNat) As.zero).b) AC Z (d8.ldp (i:=2) sM) Aa<|Ad 3 Z ?_
   refine Aw (v:=vr) ((kk).toNat) Bx AT Z Z hR.slL oM sD Aa ?_
   obtain⟨da,ge,db⟩:=RN.getL (w:=w) g1 [] (k:=(kk).toNat) hR sD
   have dv:=db.lenL
   unfold maxLen at dv
   refine Af (p:=Ay vr ((kk).toNat) 1) (.inl Z) da B6 Z (ge _<|At.of_ext [] cf.drew) Aa<|Ap 173 [] [] [b9,da] Z Z PG Aa (DL _ _ _ _ _ d9.rd1 (db.ext g1 cf.drew).rd Gt Gt Gs Gs) ?_
   rintro mo mp ⟨dw,rfl,a1,ah⟩
   refine⟨_,rfl,a1,?_⟩
   replace a1:=a1.of_drew
   have ji:=a1.size
   have gf:=cf.trans a1
   have bt:=gb.ext a1
   have bu:=gc.ext a1
   have bv:=d8.ext a1
   have bw:=d9.ext (o1) a1
   have gg:=ga.ext a1
   have gh:=gd.ext g1 a1
   replace ah:=ah.low (B':=f4.heap.size)<|A7 _
   refine Ap 174 [] [] [dw,zI ((1000002:Nat):Int)] Z Z NZ Aa (Ds _ _ _ _ ah.rd1 oM Gt Gs oM) ?_
   rintro mq m4 ⟨cg,rfl,a3,bg⟩
   refine⟨_,rfl,a3,?_⟩
   have jj:=a3.size
   have dc:=gf.trans a3
   have bx:=bt.ext a3
   have ar:=bu.ext a3
   have bz:=bv.ext a3
   have c0:=bw.ext (o1) a3
   have b3:=ah.ext (o1) a3
   have bh:=gg.ext a3
   have gi:=gh.ext g1 a3
   refine AD 177 [] [zP w2.heap.size] [zI<|(T.code.getD ((kk).toNat) As.zero).b,cg,zP w2.heap.size] Z Z KC Aa (Bu _ ((T.code.getD ((kk).toNat) As.zero).b) cg (CL (Ce (BT (xs.getD ((kk).toNat) [])<|R.getD (((T.code.getD ((kk).toNat) As.zero).b).toNat) [])<|R.getD ((kk).toNat) []) ((1000002:Nat):Int)) S w2.heap.size vo (ET xs ((T.code.getD ((kk).toNat) As.zero).a)<|BT (xs.getD ((kk).toNat) [])<|R.getD (((T.code.getD ((kk).toNat) As.zero).b).toNat) []) _ _ BO av.2.2.1 bg.rd1 (ar.ld (k:=0) sM) bh hSB (fun b hb=>zH<|c1 b hb) oM HT hrb.2 HU) ?_
   rintro mr fx ⟨rfl,a7,gj,gk⟩
   refine⟨_,rfl,?_⟩
   have jk:m4.heap.size≤fx.heap.size:=a7.size
   have gl:AH w fx:=a7.below dc (fun c hc=>A8 hwB (bh.low c hc)) dc.size
   have gm:=bx.chg a7 fun hm=>by have:=bh.low _ hm;have:=hFl _ hm;omega
   have gn:=ar.chg a7 fun hm=>cm hm
   have kj:=bz.chg a7 fun hm=>by have:=bh.low _ hm;have:=hFl _ hm;omega
   have kl:=gi.chg g1<|a7.sub fun b hb=>z1 _ hb
   have km:=c0.chg (o1) a7 fun c hc=>zH<|hFl c hc
   have kn:=b3.chg (o1) a7 fun c hc=>zH<|hFl c hc
   have ko:=bg.chg (o1) a7 fun c hc=>zH<|hFl c hc
   refine Aj<|Ab _ [0,0,0] Z<|Ad 1 Z<|Bk (kk-((1:Nat):Int)) Z Z (CM sD sD) Aa<|Ac 1 Z ?_
   have hbe:=gk
   exact⟨(kk-1,ET (ET xs ((T.code.getD ((kk).toNat) As.zero).a) (BT (xs.getD ((kk).toNat) []) (R.getD (((T.code.getD ((kk).toNat) As.zero).b).toNat) []))) ((T.code.getD ((kk).toNat) As.zero).b) (CL (Ce (BT (xs.getD ((kk).toNat) []) (R.getD (((T.code.getD ((kk).toNat) As.zero).b).toNat) [])) (R.getD ((kk).toNat) [])) ((1000002:Nat):Int)),gj),_,rfl,zR,⟨gl,gm,gn,oM,hbe,La,Lb,L9⟩,zD⟩
  refine Al false Z Z (A6 d4) Aa<|Ac 1 Z<|Ai Z<|gK [0,0] Z ?_
  by_cases dd:(T.code.getD ((kk).toNat) As.zero).op=((7:Nat):Int)
  ·refine Al true Z Z (A5 dd) Aa<|Ac 1 Z<|Ag Z<|AM _ [0,0,1,0,3,4] mixed (by kernel_rfl) ?_
   have hio:=(hform kk.toNat hkn).i7 oM
   have hra:=hxs (T.code.getD kk.toNat As.zero).a.toNat oM
   have co:=hra.1
   refine Ad 1 Z<|Ak (p:=zP f1.drew.heap.size) 1 BC Z Z Aa<|Af (p:=An (zP f1.drew.heap.size) 1) (.inl Z) (zI<|(T.code.getD ((kk).toNat) As.zero).a) AC Z (a6.ldp (i:=1) sM) Aa<|Ad 1 Z<|Ap 174 [] [] [a9,zI ((1000002:Nat):Int)] Z Z NZ Aa (Ds _ _ _ _ an.rd oM Gt Gs oM) ?_
   rintro ms m5 ⟨ch,rfl,a4,ai⟩
   refine⟨_,rfl,a4,?_⟩
   replace a4:=a4.of_drew
   have jl:=a4.size
   have de:=ad.trans a4
   have ci:=bm.ext a4
   have b4:=az.ext a4
   have cj:=a6.ext a4
   have bi:=ae.ext a4
   have go:=an.ext g1 a4
   replace ai:=ai.low (B':=f2.heap.size)<|A7 _
   refine AD 177 [] [zP w2.heap.size] [zI<|(T.code.getD ((kk).toNat) As.zero).a,ch,zP w2.heap.size] Z Z KC Aa (Bu _ ((T.code.getD ((kk).toNat) As.zero).a) ch (CL (xs.getD ((kk).toNat) []) ((1000002:Nat):Int)) S w2.heap.size vo (xs) _ _ BO av.2.1 ai.rd1 (b4.ld (k:=0) sM) bi hSB (fun b hb=>zH<|c1 b hb) oM HT hra.2 HU) ?_
   rintro mt lv ⟨rfl,am,gp,gq⟩
   refine⟨_,rfl,?_⟩
   have jm:m5.heap.size≤lv.heap.size:=am.size
   have gr:AH w lv:=am.below de (fun c hc=>A8 hwB (bi.low c hc)) de.size
   have gs:=ci.chg am fun hm=>by have:=bi.low _ hm;have:=hFl _ hm;omega
   have gt:=b4.chg am fun hm=>cm hm
   have kp:=cj.chg am fun hm=>by have:=bi.low _ hm;have:=hFl _ hm;omega
   have kq:=go.chg g1<|am.sub fun b hb=>z1 _ hb
   have kr:=ai.chg (o1) am fun c hc=>zH<|hFl c hc
   refine Aj<|Ab _ [0,0,0] Z<|Ad 1 Z<|Bk (kk-((1:Nat):Int)) Z Z (CM sD sD) Aa<|Ac 1 Z ?_
   have hbe:=gq
   exact⟨(kk-1,ET xs ((T.code.getD ((kk).toNat) As.zero).a) (CL (xs.getD ((kk).toNat) []) ((1000002:Nat):Int)),gp),_,rfl,zR,⟨gr,gs,gt,oM,hbe,La,Lb,L9⟩,zD⟩
  refine Al false Z Z (A6 dd) Aa<|Ac 1 Z<|Ai Z<|A2<|Ab _ [0,0,0] Z<|Ad 1 Z ?_
  refine Bk (kk-((1:Nat):Int)) Z Z (CM sD sD) Aa<|Ac 1 Z ?_
  have hbe:=ae
  exact⟨(kk-1,xs,us),_,rfl,zR,⟨ad,bm,az,oM,hbe,La,Lb,L9⟩,zD⟩
 refine De false Z Z (A6 eg) Aa<|Aj<|Ai Z<|A4<|AA<|AA<|Av<|gK [2,0] Z<|Af (p:=zP w2.heap.size) (.inr Z) vo MO Z (a8.ld (k:=0) sM) Aa<|Ac 1 Z<|A1 ?_
 have hfin:xs=HF T.code R oT ws:=by have h9:=hadj;rw[show(kk+1).toNat=0 from by omega,gw]at h9;exact h9
 exact Ah [6] Z vo Z ⟨_,rfl,cn,(by rw[← hfin];exact(hbl.done hSB)),hbl.cap⟩
theorem IC (w:World)(m:Nat)(ni:Nat)(S:List Nat)(ipT:Int)(vtc vtg vtx:Value)(T:Tp)(oT:Sr)(vl:Value)(L:List (Sr))(b5:∀b∈S,b<w.heap.size)(_hipT:Bn ipT)(htcT:RN [] (D5 4 KU) w.heap vtc T.code)(htgT:RN [] (D5 2 KV) w.heap vtg T.grd)(htoT:RN [] (B4 rI) w.heap vtx oT)(hL:RN [] (B4 (B4 rI)) w.heap vl L)(hqL:C3 vl)(hm:1≤m∧m≤13)(hni:ipT=(ni:Int)∧ni≤1000)(hsL:BZ m L)(hlL:L.length=T.code.length∧0<L.length)(hlt:T.code.length≤4000)(hform:∀k,k<T.code.length→DN ni k (T.code.getD k As.zero)) :
  Calls Tryz.prog 62 #[(.agg #[(zI ipT),vtc,vtg,vtx]),vl] w (fun e w'=>∃v0:Value,e=.returned v0∧AH w w'∧RN S (B4 (B4 rI)) w'.heap v0 (Ul ni m T.code L)∧C3 v0):=by
 refine Aq [.agg #[zI ipT,vtc,vtg,vtx],vl] 54 Tryz.func62 Z Z sM ?_
 have bt:AH w w:=AH.refl w
 have hl_vtx:=htoT.lenL
 unfold maxLen at hl_vtx
 have cz:=hL.lenL
 unfold maxLen at cz
 have bu:=hsL 0 oM
 have c9:=bu.1
 refine gK [3,0] Z (By (cs:=#[zI ipT,vtc,vtg,vtx]) Z Aa fun w1 b6 ca b7=>?_)
 have b8:=b6.size
 have b9:=bt.trans b6
 replace b7:BX w1.heap w.heap.size [zI ipT,vtc,vtg,vtx]:=b7
 refine Ac 1 Z<|gK [3,0,0] Z (Cn (Bp rI 2) o1 Bx AT Aa fun v2 w2 b2 cb bv=>?_)
 have ba:=b2.size
 have bb:=b9.trans b2
 have ai:=b7.ext b2
 refine Ac 2 Z<|A0<|gK [0,0,0] Z<|Ad 1 Z<|AR (v:=vl) Bx Z hL.slL Aa ?_
 have cc:((0:Nat):Int)<(L.length:Int):=oM
 refine C2 true Z Z (A5 cc) Aa<|Aj<|Ag Z<|Ab _ [0,0,2,0,0] Z<|Ad 1 Z<|Aw (v:=vl) 0 Bx AT Z Z hL.slL Z sD Aa ?_
 obtain⟨bw,cd,bx⟩:=RN.getL (w:=w) g1 [] (k:=0) hL sD
 have ao:=bx.lenL
 unfold maxLen at ao
 refine Af (p:=Ay vl 0 1) (.inr Z) bw B6 Z (cd _<|At.of_ext [] bb) Aa<|AR (v:=bw) Bt Z bx.slL Aa<|Ac 1 Z<|A0<|gK [0,2,0] Z<|Ak (p:=zP w.heap.size) 0 H2 Z Z Aa<|Af (p:=An (zP w.heap.size) 0) (.inr Z) (zI ipT) AC Z (ai.ldp (i:=0) sM) Aa<|Ac 1 Z<|A3 ?_
 refine AU (S:=Nat×Value) (fun⟨k,vo⟩=>([(5,vo),(19,zI (k:Int)),(1,vl),(2,zP w.heap.size),(6,zI (((L.getD 0 []).length:Nat):Int)),(18,zI ipT)])) (fun⟨k,vo⟩ W=>AH w W∧Fr (Bp (Bp rI 2) 27) w1.heap.size W.heap.size W.heap vo (List.replicate k<|List.replicate m 0)∧BX W.heap w.heap.size [zI ipT,vtc,vtg,vtx]∧k≤ni∧w.heap.size<w1.heap.size∧w1.heap.size≤W.heap.size) (fun⟨k,vo⟩=>ni-k) (0,v2) ⟨rfl,rfl,rfl,rfl,rfl,rfl,trivial⟩ ⟨bb,bv.up o2,ai,oM,oM,oM⟩ ?_
 clear bt bu ca b6 bv cb b2 ba bb ao
 rintro⟨k,vo⟩ ρ6 w6 ⟨b3,a4,a2,bz,ce,cf⟩
 have bc:w.heap.size≤w6.heap.size:=b3.size
 have cx:=a2.lt
 refine gK [0] Z ?_
 by_cases c0:(k:Int)<ipT
 ·refine AI true Z Z (A5 c0) Aa<|Aj<|A0<|Ag Z<|A2<|A0<|A3<|Ab _ [0,0,3,3,4,0] Z<|Ad 2 Z (Ga (n:=(L.getD 0 []).length) Bt BG Z Z Z sD Aa fun d5 da ab cg bd=>?_)
  have c1:=ab.size
  have be:=b3.trans ab
  have a5:=a4.ext (o2) ab
  have a6:=a2.ext ab
  refine BA (u:=d5) (B:=w6.heap.size) o1 Bx AT Z Z bd (by first|exact A7 _|omega) Aa fun d6 d7 ac ch bf=>?_
  have c2:=ac.size
  have ap:=be.trans ac
  have a7:=a5.ext (o2) ac
  have a8:=a6.ext ac
  refine Gb o1 (v:=vo) (a:=d6) Bx AT Z Z Z a7 oM bf oM oM sD (by unfold maxLen;first|omega|assumption|(simp;done)|(simp;omega)) Aa fun d8 d1 db ak aq bg=>?_
  have bh:AH w d1:=ak.below ap (fun c hc=>A8 b9.size (aq c hc).1) ap.size
  have c3:d7.heap.size≤d1.heap.size:=ak.size
  have bi:=a8.chg ak fun hm=>zH<|aq _ hm
  exact Ac 1 Z<|Ab _ [0,0] Z<|AQ ((k+1:Nat):Int) Z Z (Bi oM oM) Aa<|Ac 1 Z ⟨(k+1,d8),_,rfl,zR,⟨bh,(by have h:=bg.up o2;rw[c9,← List.replicate_succ']at h;exact h),bi,oM,oM,oM⟩,zD⟩
 refine AI false Z Z (A6 c0) Aa<|Aj<|A0<|Ai Z<|A4<|AA<|AA<|Av<|A0<|gK [0,2,0,0] Z ?_
 have hOw:=a4
 rw[show k=ni from by omega]at hOw
 obtain⟨ci,F0,bj,cj⟩:=Hy.ofFr (S:=S) hOw (fun b hb=>zH<|b5 b hb)
 obtain⟨BO,hBO⟩:∃b:Nat,b=w1.heap.size:=⟨_,rfl⟩
 rw[← hBO]at bj
 have hwB:w.heap.size≤BO:=by omega
 have hSB:∀b∈S,b<BO:=fun b hb=>zH<|b5 b hb
 obtain⟨B0,b4⟩:∃l:List Sr,l=(List.replicate ni (List.replicate m 0)):=⟨_,rfl⟩
 rw[← b4]at bj
 have ck:BZ m B0:=by rw[b4];exact IT m ni
 have bk:B0.length=ni:=by rw[b4,z5]
 refine Ak (p:=zP w.heap.size) 1 Cp Z Z Aa<|Af (p:=An (zP w.heap.size) 1) (.inr Z) vtc DQ Z (a2.ldp (i:=1) sM) Aa<|AR (v:=vtc) JY Z htcT.isSl Aa<|Ac 1 Z<|A3<|AU (S:=Nat×List Value) (fun⟨j,us⟩=>([(30,zI (j:Int)),(1,vl),(5,vo),(28,vtc),(29,zI (T.code.length:Int))])) (fun⟨j,us⟩ W=>AH w W∧j≤T.code.length∧Hy 27 S BO W.heap vo (Ru T.code L j B0) us F0) (fun⟨j,us⟩=>T.code.length-j) (0,ci) ⟨rfl,rfl,rfl,rfl,rfl,trivial⟩ ⟨b3,oM,bj⟩ ?_
 clear b8 b9 a2 a4 b3 bc cj
 rintro⟨j,us⟩ ρ14 cy ⟨ad,bl,hbl⟩
 have c4:w.heap.size≤cy.heap.size:=ad.size
 have hFl:∀b∈F0,b<cy.heap.size:=hbl.lt
 refine gK [0] Z ?_
 by_cases ar:(j:Int)<(T.code.length:Int)
 ·refine AI true Z Z (A5 ar) Aa<|Aj<|A0<|Ag Z<|A2<|A0<|A3<|gK [0,0,2,3,0,4] Z ?_
  have hjk:j<T.code.length:=by omega
  refine Ad 1 Z<|Aw (v:=vtc) j JY FD Z Z htcT.isSl Z sD Aa ?_
  obtain⟨cs16,bm,bn⟩:=htcT.get AY As.zero (k:=j) sD
  obtain⟨rfl,cl⟩:=Io bm
  refine AK (p:=Ay vtc j 4) (.inr Z) [zI<|(T.code.getD j As.zero).op,zI<|(T.code.getD j As.zero).a,zI<|(T.code.getD j As.zero).b,zI<|(T.code.getD j As.zero).num] DZ Z (fun d9 cm=>bn d9<|At.of_ext []<|ad.trans cm) Z Aa (Bs (z:=.agg #[zI 0,zI 0,zI 0,zI 0]) Qo Aa fun d2 a9 cn al=>?_)
  have c5:=a9.size
  have au:=ad.trans a9
  have co:=hbl.ext a9
  replace al:BX d2.heap cy.heap.size [zI 0,zI 0,zI 0,zI 0]:=al
  refine Ad 1 Z (BE (vs:=[zI<|(T.code.getD j As.zero).op,zI<|(T.code.getD j As.zero).a,zI<|(T.code.getD j As.zero).b,zI<|(T.code.getD j As.zero).num]) DZ Z Z (by intro u hu;simp only[ze,z2,or_false]at hu;rcases hu with rfl|rfl|rfl|rfl <;> first|exact⟨rfl,rfl⟩) al Z Z Aa fun d0 am cp a3=>?_)
  replace a3:BX d0.heap cy.heap.size [zI ((T.code.getD j As.zero).op),zI ((T.code.getD j As.zero).a),zI ((T.code.getD j As.zero).b),zI ((T.code.getD j As.zero).num)]:=a3
  have ae:AH w d0:=am.below au (fun _ h=>zE h) au.size
  have c6:d2.heap.size≤d0.heap.size:=am.size
  have af:=hbl.ext<|am.below a9 (fun _ h=>zE h) a9.size
  refine Aj<|gK [0,2,0] Z<|Ak (p:=zP cy.heap.size) 0 HN Z Z Aa<|Af (p:=An (zP cy.heap.size) 0) (.inr Z) (zI<|(T.code.getD j As.zero).op) AC Z (a3.ldp (i:=0) sM) Aa ?_
  by_cases av:(T.code.getD j As.zero).op=((1:Nat):Int)
  ·refine Al true Z Z (A5 av) Aa<|Aj<|Ag Z<|AM _ [0,0,1,0,0,1,0,1,0,0,0,1,3,0,4] mixed (by kernel_rfl) ?_
   have hio:=(hform j hjk).i1 oM
   have hra:=Kv (cs:=T.code) (L:=L) (B:=B0) (fun q hq=>by rw[bk];exact hform q hq) ck j oM (T.code.getD j As.zero).num.toNat (by rw[HG,bk];omega)
   have cq:=hra.1
   have hLj:=hsL j oM
   have cr:=hLj.1
   have hbn:(Ru T.code L j B0).length=ni:=by rw[HG,bk]
   refine Ad 1 Z<|Ak (p:=zP cy.heap.size) 3 CO Z Z Aa<|Af (p:=An (zP cy.heap.size) 3) (.inl Z) (zI<|(T.code.getD j As.zero).num) AC Z (a3.ldp (i:=3) sM) Aa<|Ad 1 Z<|Ak (p:=zP cy.heap.size) 3 CO Z Z Aa<|Af (p:=An (zP cy.heap.size) 3) (.inl Z) (zI<|(T.code.getD j As.zero).num) AC Z (a3.ldp (i:=3) sM) Aa ?_
   refine Aw (v:=vo) (((T.code.getD j As.zero).num).toNat) Bx AT Z Z (af.done hSB).none.slL oM sD Aa ?_
   obtain⟨aw,bo,an⟩:=af.getF (k:=((T.code.getD j As.zero).num).toNat) sD
   have ax:=an.lenL
   unfold maxLen at ax
   refine Af (p:=Ay vo (((T.code.getD j As.zero).num).toNat) 1) (.inl Z) aw B6 Z bo Aa<|Ad 2 Z<|Aw (v:=vl) j Bx AT Z Z hL.slL Z sD Aa ?_
   obtain⟨ay,bp,az⟩:=RN.getL (w:=w) g1 [] (k:=j) hL sD
   have b0:=az.lenL
   unfold maxLen at b0
   refine Af (p:=Ay vl j 1) (.inl Z) ay B6 Z (bp _<|At.of_ext [] ae.drew) Aa<|Ap 123 [] [] [aw,ay] Z Z PF Aa (EF _ _ _ _ _ an.rd (az.ext g1 ae.drew).rd oM oM hra.2 hLj.2) ?_
   rintro dc d3 ⟨aj,rfl,a1,a0⟩
   refine⟨_,rfl,a1,?_⟩
   replace a1:=a1.of_drew
   have c7:=a1.size
   have b1:=ae.trans a1
   have ag:=a3.ext a1
   have ah:=af.ext a1
   have bq:=an.ext g1 a1
   replace a0:=a0.low (B':=d0.heap.size)<|A7 _
   refine Aw (v:=vo) (((T.code.getD j As.zero).num).toNat) Bx AT Z Z (ah.done hSB).none.slL oM sD Aa ?_
   refine FJ (v:=vo) (u:=aj) (w:=d3) I6 Z Z ah (RN.of_fr1 a0 fun b hb=>by rcases zi.1 hb with hb|hb;(have:=b5 b hb;omega);(have:=hFl b hb;omega)) sD Aa fun d4 aa ct br=>?_
   have c8:d3.heap.size≤d4.heap.size:=aa.size
   have bs:AH w d4:=aa.below b1 (fun c hc=>A8 hwB (ah.low c hc)) b1.size
   have cu:=ag.chg aa fun hm=>by have:=ah.low _ hm;have:=hFl _ hm;omega
   have cv:=bq.chg g1<|aa.sub fun b hb=>z1 _ hb
   have cw:=a0.chg (o1) aa fun c hc=>zH<|hFl c hc
   refine Aj<|Ab _ [0,0] Z<|AQ ((j+1:Nat):Int) Z Z (Bi oM sD) Aa<|Ac 1 Z ?_
   have hbe:=br
   exact⟨(j+1,us.set (((T.code.getD j As.zero).num).toNat) aj),_,rfl,zR,⟨bs,oM,(by first|(rw[Lr oM];exact hbe)|(rw[Ls oM];exact hbe))⟩,zD⟩
  refine Al false Z Z (A6 av) Aa<|Aj<|Ai Z<|A2<|Ab _ [0,0] Z<|AQ ((j+1:Nat):Int) Z Z (Bi oM sD) Aa<|Ac 1 Z ?_
  have hbe:=af
  exact⟨(j+1,us),_,rfl,zR,⟨ae,oM,(by first|(rw[Lr oM];exact hbe)|(rw[Ls oM];exact hbe))⟩,zD⟩
 exact AI false Z Z (A6 ar) Aa<|Aj<|A0<|Ai Z<|A4<|AA<|AA<|Av<|gK [0,0] Z<|Ac 2 Z<|A1<|Ah [4] Z vo Z ⟨_,rfl,ad,(by have h9:=(hbl.done hSB);rw[show j=T.code.length from by omega,b4]at h9;exact h9),hbl.cap⟩
end
end Go.Proofs.YtjnbnlniafmblaaGreat
