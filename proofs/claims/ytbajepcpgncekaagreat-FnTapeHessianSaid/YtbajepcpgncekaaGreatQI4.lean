/- Vl, Vn, Vo, Xf, Xa, Xb, Xh, Xk, Xl, Ya: texts of this claim, joined; what the claim does not come to is left out. -/
import Derived.Test.YtbajepcpgncekaaGreatQI3
import Derived.Test.YtbajepcpgncekaaGreatProg
set_option linter.unusedVariables false
set_option linter.unusedSimpArgs false
namespace Go.Proofs.YtbajepcpgncekaaGreat
open Go Go.RowKit
section
set_option maxHeartbeats 4000000
set_option maxRecDepth 100000
attribute [local irreducible] LW
def SV (F d:Nat):Prop:=∀(w:World) (S:List Nat) (g:Nat) (pp:Value) (dp n s0:Nat) (c0:Int) (p:List Fn) (ve:Value) (ex:Ex) (vv:Value) (env:List (List Int)) (hS:∀b∈S,b<w.heap.size) (hgS:g∈S) (hB0:BX w.heap g [pp,.int .i64 ((n:Nat):Int),.int .i64 ((s0:Nat):Int),.int .i64 c0]) (hp:RN S (rP (Kb dp)) w.heap pp p) (hn:1≤n∧n≤13) (hs0:s0≤3000) (hc0:0≤c0∧c0≤9) (hex:RN S (rP (LO d)) w.heap ve ex) (henv:RN S (B2 (B2 rI)) w.heap vv env) (hqenv:Ci vv)
  (hvp:HW p) (hF:F≤p.length) (hwf:wf p ((F:Nat):Int) ex ((env.length:Nat):Int)=true) (hse:C7 n env) (hdp:env.length+ex.deep≤1000000),
  Calls Tryz.prog 221 #[.pointer (some ⟨g,0,none⟩),ve,vv] w (fun e w'=>∃(v:Value) (x:List Int) (s1:Nat) (c1:Int),e=.returned v∧At [g] w w'∧BX w'.heap g [pp,.int .i64 ((n:Nat):Int),.int .i64 ((s1:Nat):Int),.int .i64 c1]∧RN S (B2 rI) w'.heap v x∧Cj n x∧s1≤3000∧(0≤c1∧c1≤9)∧AH (go c0 (Cn n (Ee p n F) ex env s0)) x s1 c1)
def SC (F d:Nat):Prop:=∀(w:World) (S:List Nat) (g:Nat) (pp:Value) (dp n s0:Nat) (c0:Int) (p:List Fn) (ve:Value) (ex:Ex) (vv:Value) (env:List (List Int)) (hS:∀b∈S,b<w.heap.size) (hgS:g∈S) (hB0:BX w.heap g [pp,.int .i64 ((n:Nat):Int),.int .i64 ((s0:Nat):Int),.int .i64 c0]) (hp:RN S (rP (Kb dp)) w.heap pp p) (hn:1≤n∧n≤13) (hs0:s0≤3000) (hc0:0≤c0∧c0≤9) (hex:RN S (rP (LO d)) w.heap ve ex) (henv:RN S (B2 (B2 rI)) w.heap vv env) (hqenv:Ci vv)
  (hvp:HW p) (hF:F≤p.length) (hwf:wf p ((F:Nat):Int) ex ((env.length:Nat):Int)=true) (hse:C7 n env) (hdp:env.length+ex.deep≤1000000) (hk:ex.kind=10∨ex.kind=11),
  Calls Tryz.prog 252 #[.pointer (some ⟨g,0,none⟩),ve,vv] w (fun e w'=>∃(v:Value) (x:List Int) (s1:Nat) (c1:Int),e=.returned v∧At [g] w w'∧BX w'.heap g [pp,.int .i64 ((n:Nat):Int),.int .i64 ((s1:Nat):Int),.int .i64 c1]∧RN S (B2 rI) w'.heap v x∧Cj n x∧s1≤3000∧(0≤c1∧c1≤9)∧AH (go c0 (K9 n (Ee p n F) ex env s0)) x s1 c1)
def SO (F:Nat):Prop:=∀(w:World) (S:List Nat) (g:Nat) (pp:Value) (dp n s0:Nat) (c0:Int) (p:List Fn) (dfx:Nat) (vf:Value) (fx:Fn) (va:Value) (env:List (List Int)) (hS:∀b∈S,b<w.heap.size) (hgS:g∈S) (hB0:BX w.heap g [pp,.int .i64 ((n:Nat):Int),.int .i64 ((s0:Nat):Int),.int .i64 c0]) (hp:RN S (rP (Kb dp)) w.heap pp p) (hn:1≤n∧n≤13) (hs0:s0≤3000) (hc0:0≤c0∧c0≤9) (hfx:RN S (rP (UZ dfx)) w.heap vf fx) (henv:RN S (B2 (B2 rI)) w.heap va env) (hqenv:Ci va)
  (hvp:HW p) (hF:F≤p.length) (hwf:∀k,k<fx.outs.length→wf p ((F:Nat):Int) (fx.outs.getD k Ex.zero) ((env.length:Nat):Int)=true) (hse:C7 n env) (hdp:∀k,k<fx.outs.length→env.length+(fx.outs.getD k Ex.zero).deep≤1000000) (hll:fx.outs.length≤1000000),
  Calls Tryz.prog 158 #[.pointer (some ⟨g,0,none⟩),vf,va] w (fun e w'=>∃(v:Value) (x:List (List Int)) (s1:Nat) (c1:Int),e=.returned v∧At [g] w w'∧BX w'.heap g [pp,.int .i64 ((n:Nat):Int),.int .i64 ((s1:Nat):Int),.int .i64 c1]∧RN S (B2 (B2 rI)) w'.heap v x∧(Ci v∧x.length=fx.outs.length∧C7 n x)∧s1≤3000∧(0≤c1∧c1≤9)∧AH (go c0 (Dj n (Ee p n F) fx.outs env s0)) x s1 c1)
theorem D1 (w:World)(S:List Nat)(g:Nat)(pp:Value)(dp n s0:Nat)(c0:Int)(p:List Fn)(code:Int)(hS:∀b∈S,b<w.heap.size)(hgS:g∈S)(hB0:BX w.heap g [pp,zI (n:Int),zI (s0:Int),zI c0])(hp:RN S (rP (Kb dp)) w.heap pp p)(hn:1≤n∧n≤13)(hs0:s0≤3000)(hc0:0≤c0∧c0≤9)(_hcode:Bw code)(hcd:1≤code∧code≤9) :
  Calls Tryz.prog 250 #[zP g,zI code] w (fun e w'=>∃(v:Value) (x:List Int) (s1:Nat) (c1:Int),e=.returned v∧At [g] w w'∧BX w'.heap g [pp,zI (n:Int),zI (s1:Int),zI c1]∧RN S (B2 rI) w'.heap v x∧Cj n x∧s1≤3000∧(0≤c1∧c1≤9)∧(s1=s0∧c1=if c0=0 then code else c0)):=by
 refine Ap [zP g,zI code] 19 Tryz.func250 Z Z sM ?_
 have a9:At [g] w w:=At.refl [g] w
 have aj:=hB0.lt
 refine cQ Z<|A0<|cP [0,0,0,2,0] Z<|Ad 1 Z<|AU Z Aa<|Ak (p:=zP g) 3 GG Z Z Aa<|Ah (p:=Ao (zP g) 3) (.inr Z) (zI c0) AC Z (hB0.ldp (i:=3) sM) Aa ?_
 by_cases aa:c0=((0:Nat):Int)
 ·refine Al true Z Z (A5 aa) Aa<|Aj<|Ag Z<|Ab _ [0,0,0,0,4] Z<|Ad 2 Z<|AU Z Aa<|Ak (p:=zP g) 3 GG Z Z Aa (Bl (k:=3) (w:=w) GT Z Z ⟨rfl,rfl⟩ hB0 sM Aa fun w2 ab ai a6=>?_)
  replace a6:BX w2.heap g [pp,zI (n:Int),zI (s0:Int),zI code]:=a6
  have ac:At [g] w w2:=a9.trans ab
  have ad:=ab.size
  refine Aj<|cP [0,0,0,2,3,0] Z<|Ad 1 Z<|AU Z Aa<|Ak (p:=zP g) 1 Nb Z Z Aa<|Ah (p:=Ao (zP g) 1) (.inr Z) (zI (n:Int)) Ll Z (a6.ldp (i:=1) sM) Aa ?_
  refine Au 79 [] [] [zI ((0:Nat):Int),zI (n:Int)] Z Z XN Aa (EP _ _ (n) oM sD oM) ?_
  rintro e3 w3 ⟨a0,rfl,a7,a1⟩
  refine⟨_,rfl,a7,?_⟩
  have ae:=a7.size
  have af:At [g] w w3:=ac.ext a7
  have a2:=a6.ext a7
  exact Ac 1 Z<|A1<|Af [4] Z a0 Z ⟨a0,cst n ((0:Nat):Int),s0,code,rfl,af,a2,RN.of_fr1 a1 fun b hb=>by have:=hS b hb;omega,(by exact Dr (by decide)),oM,oM,(by exact⟨rfl,by first|(rw[if_pos oM])|(rw[if_neg oM])⟩)⟩
 refine Al false Z Z (A6 aa) Aa<|Aj<|Ai Z<|A2<|cP [0,0,0,2,3,0] Z<|Ad 1 Z<|AU Z Aa<|Ak (p:=zP g) 1 Nb Z Z Aa<|Ah (p:=Ao (zP g) 1) (.inr Z) (zI (n:Int)) Ll Z (hB0.ldp (i:=1) sM) Aa ?_
 refine Au 79 [] [] [zI ((0:Nat):Int),zI (n:Int)] Z Z XN Aa (EP _ _ (n) oM sD oM) ?_
 rintro e4 w4 ⟨a3,rfl,a8,a4⟩
 refine⟨_,rfl,a8,?_⟩
 have ag:=a8.size
 have ah:At [g] w w4:=a9.ext a8
 have a5:=hB0.ext a8
 exact Ac 1 Z<|A1<|Af [4] Z a3 Z ⟨a3,cst n ((0:Nat):Int),s0,c0,rfl,ah,a5,RN.of_fr1 a4 fun b hb=>by have:=hS b hb;omega,(by exact Dr (by decide)),oM,oM,(by exact⟨rfl,by first|(rw[if_pos oM])|(rw[if_neg oM])⟩)⟩
theorem Tr {p:Prop}(h:p:=by unfold maxLen;first|omega|assumption|(simp only[List.length_nil,List.length_cons,List.length_append,List.length_set,List.length_replicate];omega)|(simp[List.length_nil,List.length_cons,List.length_append,List.length_set,List.length_replicate];done)|(simp[List.length_nil,List.length_cons,List.length_append,List.length_set,List.length_replicate];omega)):p:=h
theorem M3 (w:World)(S:List Nat)(vv:Value)(env:List (List Int))(vx:Value)(x:List Int)(hS:∀b∈S,b<w.heap.size)(henv:RN S (B2 (B2 rI)) w.heap vv env)(hqenv:Ci vv)(hx:RN S (B2 rI) w.heap vx x)(hel:env.length≤1000000) :
  Calls Tryz.prog 251 #[vv,vx] w (fun e w'=>∃v,e=.returned v∧AG w w'∧RN S (B2 (B2 rI)) w'.heap v (env++[x])∧Ci v):=by
 refine Ap [vv,vx] 25 Tryz.func251 Z Z sM ?_
 have ai:AG w w:=AG.refl w
 have b8:=henv.lenL
 unfold maxLen at b8
 have b9:=hx.lenL
 unfold maxLen at b9
 refine cQ Z<|cP [3,0] Z (CH rV BE C0 Bf Aa fun v1 w1 a7 aq aj=>?_)
 have a8:=a7.size
 have ak:=ai.trans a7
 obtain⟨b2,F1,b3⟩:=Ha.nil (S:=S) (aj.low (B':=w.heap.size) (A7 _))
 refine Ac 1 Z<|A0<|cQ Z<|A3<|AY (S:=Nat×Value) (fun⟨k,vo⟩=>([(5,vo),(6,zI (k:Int)),(0,vv),(1,vx)])) (fun⟨k,vo⟩ W=>AG w W∧k≤env.length∧Oq 27 S w.heap.size W.heap vo (env.take k)) (fun⟨k,vo⟩=>env.length-k) (0,v1) ⟨rfl,rfl,rfl,rfl,trivial⟩ ⟨ak,sD,(by exact⟨_,_,by assumption⟩)⟩ ?_
 clear ai aj aq a7 a8 ak
 rintro⟨k,vo⟩ ρ2 w2 ⟨a6,al,hbld⟩
 have ar:w.heap.size≤w2.heap.size:=a6.size
 obtain⟨b4,F4,a3⟩:=hbld
 refine A0<|cP [0,0,0,0] Z<|Ad 2 Z<|AO (v:=vv) C0 Z henv.slL Aa ?_
 by_cases am:(k:Int)<(env.length:Int)
 ·refine AE true Z Z (A5 am) Aa<|Aj<|Ag Z<|A2<|A0<|A3<|Ab _ [0,0,0,0,2,3,4,0] Z<|Ad 3 Z<|AA (v:=vv) k C0 Bf Z Z henv.slL Z sD Aa ?_
  obtain⟨a9,au,aa⟩:=RN.getL (w:=w) g1 [] (k:=k) henv sD
  have ab:=aa.lenL
  unfold maxLen at ab
  refine Ah (p:=Ay vv k 1) (.inr Z) a9 Bk Z (au _<|At.of_ext S a6) Aa (BK (u:=a9) (B:=w2.heap.size) BE C0 Bf Z Z (On w2.heap.size w2.heap.size _<|aa.one1 g1) (A7 _) Aa fun v7 w7 ac b5 av=>?_)
  have aw:=ac.size
  have ad:=a6.trans ac
  have ae:=a3.ext ac
  refine EJ (v:=vo) (a:=v7) (u:=a9) C0 Bf Z Z Z ae oM av ((aa.add (F:=F4) g1 ae.low).ext g1 ad) sD Tr Aa ?_
  rintro v9 w9 G9 an ax ⟨b6,F9,b7⟩
  have ay:=an.size
  have az:AG w w9:=an.below ad (fun c hc=>ae.low c (ax c hc)) ad.size
  refine Ac 1 Z<|Ab _ [0,0,0] Z<|Ad 1 Z<|AN ((k+1:Nat):Int) Z Z (Bg oM sD) Aa<|Ac 1 Z ?_
  exact⟨(k+1,v9),_,rfl,zR,⟨az,sD,(by rw[CP [] oM];exact⟨_,_,by assumption⟩)⟩,zD⟩
 refine AE false Z Z (A6 am) Aa<|Aj<|Ai Z<|A4<|Aw<|Aw<|Aq<|cP [0,0,3,4,0] Z<|Ad 2 Z (BK (u:=vx) (B:=w2.heap.size) BE C0 Bf Z Z (On w2.heap.size w2.heap.size _<|hx.one1 g1) (A7 _) Aa fun bb bd a0 b0 af=>?_)
 have ao:=a0.size
 have a1:=a6.trans a0
 have a2:=a3.ext a0
 refine EJ (v:=vo) (a:=bb) (u:=vx) C0 Bf Z Z Z a2 oM af ((hx.add (F:=F4) g1 a2.low).ext g1 a1) sD Tr Aa ?_
 rintro ba bc G12 a4 ag ⟨b1,be,a5⟩
 have ap:=a4.size
 have ah:AG w bc:=a4.below a1 (fun c hc=>a2.low c (ag c hc)) a1.size
 exact Ac 1 Z<|A1<|Af [4] Z ba Z ⟨ba,rfl,ah,(by have h9:=(a5.done hS);rw[List.take_of_length_le oM]at h9;exact h9),a5.cap⟩
theorem IB (w:World)(S:List Nat)(F:Nat)(g:Nat)(pp:Value)(dp n s0:Nat)(c0:Int)(p:List Fn)(dfx:Nat)(vf:Value)(fx:Fn)(va:Value)(env:List (List Int))(hS:∀b∈S,b<w.heap.size)(hgS:g∈S)(hB0:BX w.heap g [pp,zI (n:Int),zI (s0:Int),zI c0])(hp:RN S (rP (Kb dp)) w.heap pp p)(hn:1≤n∧n≤13)(hs0:s0≤3000)(hc0:0≤c0∧c0≤9)(hfx:RN S (rP (UZ dfx)) w.heap vf fx)(henv:RN S (B2 (B2 rI)) w.heap va env)(hqenv:Ci va)(hvp:HW p)(hF:F≤p.length)(hwf:∀k,k<fx.outs.length→wf p (F:Int) (fx.outs.getD k Ex.zero) (env.length:Int)=true)(hse:C7 n env)(hdp:∀k,k<fx.outs.length→env.length+(fx.outs.getD k Ex.zero).deep≤1000000)(hll:fx.outs.length≤1000000)(IHv:∀d,SV F d) :
  Calls Tryz.prog 158 #[zP g,vf,va] w (fun e w'=>∃(v:Value) (x:List (List Int)) (s1:Nat) (c1:Int),e=.returned v∧At [g] w w'∧BX w'.heap g [pp,zI (n:Int),zI (s1:Int),zI c1]∧RN S (B2 (B2 rI)) w'.heap v x∧(Ci v∧x.length=fx.outs.length∧C7 n x)∧s1≤3000∧(0≤c1∧c1≤9)∧AH (go c0 (Dj n (Ee p n F) fx.outs env s0)) x s1 c1):=by
 refine Ap [zP g,vf,va] 32 Tryz.func158 Z Z sM ?_
 have ao:At [g] w w:=At.refl [g] w
 have bg:=henv.lenL
 unfold maxLen at bg
 have bl:=hB0.lt
 refine cQ Z<|cP [3,0] Z (CH rV BE C0 Bf Aa fun v1 w1 aa az ap=>?_)
 have ae:=aa.size
 have aq:At [g] w w1:=ao.ext aa
 have a9:=hB0.ext aa
 obtain⟨bc,F1,bd⟩:=Ha.nil (S:=S) (ap.low (B':=w.heap.size) (A7 _))
 refine Ac 1 Z<|A0<|cQ Z<|A3 ?_
 refine AY (S:=Nat×Value×List (List Int)×Nat×Int) (fun⟨k,vo,xs,s9,c9⟩=>([(7,vo),(8,zI (k:Int)),(0,zP g),(1,vf),(2,va)])) (fun⟨k,vo,xs,s9,c9⟩ W=>At [g] w W∧BX W.heap g [pp,zI (n:Int),zI (s9:Int),zI c9]∧k≤fx.outs.length∧Oq 27 S w.heap.size W.heap vo xs∧xs.length=k∧C7 n xs∧s9≤3000∧(0≤c9∧c9≤9)∧AH (go c0<|Dj n (Ee p n F) (fx.outs.take k) env s0) xs s9 c9) (fun⟨k,vo,xs,s9,c9⟩=>fx.outs.length-k) (0,v1,([]:List (List Int)),s0,c0) ⟨rfl,rfl,rfl,rfl,rfl,trivial⟩ ⟨aq,a9,sD,(by exact⟨_,_,by assumption⟩),(by rfl),(by intro j hj;simp at hj),oM,oM,(by exact Ge _ _ _ _ _ _)⟩ ?_
 clear ao ap az aa ae aq
 rintro⟨k,vo,xs,s9,c9⟩ ρ2 w2 ⟨a3,a1,ar,hbld,hxl,hxs,au,av,hrl⟩
 have b0:w.heap.size≤w2.heap.size:=a3.size
 have be:=a1.lt
 obtain⟨bf,F5,a0⟩:=hbld
 refine A0<|cP [0,0,0,0,2,0,0] Z<|Ad 2 Z<|AL (hfx.isPtr) Z Aa ?_
 obtain⟨cs6,b1,ab⟩:=RN.at (Av _) hfx
 obtain⟨a8,rfl,ac⟩:=RF.of b1
 have af:=ac.rn.lenle
 unfold maxLen at af
 refine AI (p:=vf) 2 BU Z (ab _<|a3.sub<|AT hgS) Aa<|Ah (p:=Ao vf 2) (.inr Z) a8 Be Z ((ab _<|a3.sub<|AT hgS).ld (i:=2) (by simp[Fb,Fd])) Aa<|AO (v:=a8) D5 Z ac.rn.isSl Aa ?_
 by_cases aw:(k:Int)<(fx.outs.length:Int)
 ·refine AE true Z Z (A5 aw) Aa<|Aj<|Ag Z<|A2<|A0<|A3<|Ab _ [0,0,0,0,0,2,0,0,0,4,3,4,0] Z<|Ad 3 Z<|AL (hfx.isPtr) Z Aa<|AI (p:=vf) 2 BU Z (ab _<|a3.sub<|AT hgS) Aa<|Ah (p:=Ao vf 2) (.inr Z) a8 Be Z ((ab _<|a3.sub<|AT hgS).ld (i:=2) (by simp[Fb,Fd])) Aa<|Ad 1 Z ?_
  refine AA (v:=a8) k D5 Bn Z Z ac.rn.isSl Z sD Aa<|Ad 1 Z ?_
  refine AB 221 [] [] [zP g,Ay a8 k 5,va] Z Z Hp Aa (IHv dfx _ (S++F5) g pp dp (n) (s9) (c9) (p) (Ay a8 k 5) (fx.outs.getD k Ex.zero) va (env) (fun b hb=>(by rcases List.mem_append.1 hb with hb|hb;(have:=hS b hb;omega);exact a0.lt b hb:b<w2.heap.size)) (List.mem_append_left _ hgS) a1 ((hp.add (F:=F5) (B8<|AQ dp) a0.low).chg (B8<|AQ dp)<|a3.sub<|LP hgS) oM oM oM (RN.ptr (Ax dfx) (by decide) Ex.zero ((ac.rn.add (F:=F5) (Am<|Ax dfx) a0.low).chg (Am<|Ax dfx)<|a3.sub<|LP hgS) sD) ((henv.add (F:=F5) g2 a0.low).chg g2<|a3.sub<|LP hgS) hqenv hvp oM (by exact hwf k oM) hse (by exact hdp k oM)) ?_
  rintro e8 w8 ⟨v8,x8,s8,c8,rfl,ag,b2,ad,ah,b3,b4,b5⟩
  refine⟨_,rfl,?_⟩
  have b6:=ag.size
  have b7:At [g] w w8:=a3.trans ag
  have ai:=a0.run hgS oM ag
  have b8:=ah.1
  replace ad:RN (S++F5) (B2 rI) w8.heap v8 x8:=ad
  refine BK (u:=v8) (B:=w8.heap.size) BE C0 Bf Z Z (On w8.heap.size w8.heap.size _<|ad.one1 g1) (A7 _) Aa fun bh bi a2 b9 aj=>?_
  have ax:=a2.size
  have ak:At [g] w bi:=b7.ext a2
  have a5:=b2.ext a2
  have a4:=ai.ext a2
  have al:=ad.ext g1 a2
  refine EJ (v:=vo) (a:=bh) (u:=v8) C0 Bf Z Z Z a4 oM aj al sD (by unfold maxLen;first|omega|assumption|(simp;done)|(simp;omega)) Aa ?_
  rintro bj bk G17 a6 a7 ⟨ba,bm,bb⟩
  have ay:=a6.size
  have am:At [g] w bk:=ak.fresh a6 (fun c hc=>a4.low c (a7 c hc))
  have an:=a5.chg a6 fun hm=>by have:=a4.low _ (a7 _ hm);have:=a4.lt _ (a7 _ hm);omega
  refine Ac 1 Z<|Ab _ [0,0,0] Z<|Ad 1 Z<|AN ((k+1:Nat):Int) Z Z (Bg oM sD) Aa<|Ac 1 Z ?_
  exact⟨(k+1,bj,xs++[x8],s8,c8),_,rfl,zR,⟨am,an,sD,(by exact⟨_,_,by assumption⟩),(by rw[List.length_append,List.length_singleton,hxl]),(by exact C7.snoc hxs (by assumption)),oM,oM,(by exact Gd oM hrl (by assumption))⟩,zD⟩
 exact AE false Z Z (A6 aw) Aa<|Aj<|Ai Z<|A4<|Aw<|Aw<|Aq<|cP [0,0] Z<|Ac 2 Z<|A1<|Af [6] Z vo Z ⟨vo,xs,s9,c9,rfl,a3,a1,a0.done hS,(by exact⟨a0.cap,zO,hxs⟩),oM,oM,(by rw[List.take_of_length_le oM]at hrl;exact hrl)⟩
theorem Ts (F:Nat)(IH:∀d,SV F d):SO F:=by
 intro w S g pp dp n s0 c0 p dfx vf fx va env hS hgS hB0 hp hn hs0 hc0 hfx henv hqenv hvp hF hwf hse hdp hll
 exact IB w S F g pp dp n s0 c0 p dfx vf fx va env hS hgS hB0 hp hn hs0 hc0 hfx henv hqenv hvp hF hwf hse hdp hll IH
theorem Tt {p:Prop}(h:p:=by first|exact Sb oM oM hKr (by assumption)|exact Se oM oM hKr (by rw[show(ex.count).toNat=i from by omega];exact hrl9)):p:=h
theorem GJ {p:Prop}(h:p:=by simp[Fb,Fd]):p:=h
theorem IC (w:World)(S:List Nat)(F:Nat)(g:Nat)(pp:Value)(dp n s0:Nat)(c0:Int)(p:List Fn)(dex:Nat)(ve:Value)(ex:Ex)(vv:Value)(env:List (List Int))(hS:∀b∈S,b<w.heap.size)(hgS:g∈S)(hB0:BX w.heap g [pp,zI (n:Int),zI (s0:Int),zI c0])(hp:RN S (rP (Kb dp)) w.heap pp p)(hn:1≤n∧n≤13)(hs0:s0≤3000)(hc0:0≤c0∧c0≤9)(hex:RN S (rP (LO dex)) w.heap ve ex)(henv:RN S (B2 (B2 rI)) w.heap vv env)(hqenv:Ci vv)(hvp:HW p)(hF:F≤p.length)(hwf:wf p (F:Int) ex (env.length:Int)=true)(hse:C7 n env)(hdp:env.length+ex.deep≤1000000)(hk:ex.kind=10∨ex.kind=11)(IH1:∀F',F'<F→∀d,SV F' d)(IH2:∀d',d'<dex→SV F d') :
  Calls Tryz.prog 252 #[zP g,ve,vv] w (fun e w'=>∃(v:Value) (x:List Int) (s1:Nat) (c1:Int),e=.returned v∧At [g] w w'∧BX w'.heap g [pp,zI (n:Int),zI (s1:Int),zI c1]∧RN S (B2 rI) w'.heap v x∧Cj n x∧s1≤3000∧(0≤c1∧c1≤9)∧AH (go c0 (K9 n (Ee p n F) ex env s0)) x s1 c1):=by
 refine Ap [zP g,ve,vv] 81 Tryz.func252 Z Z sM ?_
 have bo:At [g] w w:=At.refl [g] w
 have d0:=henv.lenL
 unfold maxLen at d0
 have dh:=hB0.lt
 have hwk:=HJ hwf hk
 have ay:ex.kind≠9:=by omega
 have hkH:=aP hk
 clear hk
 have hdk:=DP ex
 refine cQ Z<|cP [3,0] Z (CH rV BE C0 Bf Aa fun v1 w1 az cf bp=>?_)
 have b2:=az.size
 have bq:At [g] w w1:=bo.ext az
 have am:=hB0.ext az
 obtain⟨cv,F1,cw⟩:=Ha.nil (S:=S) (bp.low (B':=w.heap.size) (A7 _))
 refine Ac 1 Z<|A0<|cQ Z<|A3 ?_
 refine AY (S:=Nat×Value×List (List Int)×Nat×Int) (fun⟨k,vo,xs,s9,c9⟩=>([(7,vo),(8,zI (k:Int)),(0,zP g),(1,ve),(2,vv)])) (fun⟨k,vo,xs,s9,c9⟩ W=>At [g] w W∧BX W.heap g [pp,zI (n:Int),zI (s9:Int),zI c9]∧k≤ex.kids.length∧Oq 27 S w.heap.size W.heap vo xs∧xs.length=k∧C7 n xs∧s9≤3000∧(0≤c9∧c9≤9)∧AH (go c0<|Dj n (Ee p n F) (ex.kids.take k) env s0) xs s9 c9) (fun⟨k,vo,xs,s9,c9⟩=>ex.kids.length-k) (0,v1,([]:List (List Int)),s0,c0) ⟨rfl,rfl,rfl,rfl,rfl,trivial⟩ ⟨bq,am,sD,(by exact⟨_,_,by assumption⟩),(by rfl),(by intro j hj;simp at hj),oM,oM,(by exact Ge _ _ _ _ _ _)⟩ ?_
 clear bo bp cf az b2 bq
 rintro⟨k,vo,xs,s9,c9⟩ ρ2 w2 ⟨a0,a1,br,hbld,hxl,hxs,bs,bt,hrl⟩
 have b3:w.heap.size≤w2.heap.size:=a0.size
 have cx:=a1.lt
 obtain⟨cy,F5,a3⟩:=hbld
 refine A0<|cP [0,0,0,0,2,0,0] Z<|Ad 2 Z<|AL (hex.isPtr) Z Aa ?_
 obtain⟨cs6,cg,a7⟩:=RN.at (Ax _) hex
 obtain⟨dd6,al,cz,rfl,b0⟩:=RX.of cg
 have an:=b0.rn.lenle
 unfold maxLen at an
 refine AI (p:=ve) 4 Ba Z (a7 _<|a0.sub<|AT hgS) Aa<|Ah (p:=Ao ve 4) (.inr Z) al Be Z ((a7 _<|a0.sub<|AT hgS).ld (i:=4) GJ) Aa<|AO (v:=al) D5 Z b0.rn.isSl Aa ?_
 by_cases bu:(k:Int)<(ex.kids.length:Int)
 ·refine AE true Z Z (A5 bu) Aa<|Aj<|Ag Z<|A2<|A0<|A3<|Ab _ [0,0,0,0,0,2,0,0,0,4,3,4,0] Z ?_
  have hvo:=hvp.outs (ex.num).toNat oM
  have hvr:=hvp.par (ex.num).toNat oM
  have hkd:=Di (l:=ex.kids) (k:=k) oM
  have hkb:ex.kids.length≤412:=by omega
  refine Ad 3 Z<|AL (hex.isPtr) Z Aa<|AI (p:=ve) 4 Ba Z (a7 _<|a0.sub<|AT hgS) Aa<|Ah (p:=Ao ve 4) (.inr Z) al Be Z ((a7 _<|a0.sub<|AT hgS).ld (i:=4) GJ) Aa<|Ad 1 Z<|AA (v:=al) k D5 Bn Z Z b0.rn.isSl Z sD Aa<|Ad 1 Z ?_
  refine AB 221 [] [] [zP g,Ay al k 5,vv] Z Z Hp Aa (IH2 dd6 oM _ (S++F5) g pp dp (n) (s9) (c9) (p) (Ay al k 5) (ex.kids.getD k Ex.zero) vv (env) (fun b hb=>(by rcases List.mem_append.1 hb with hb|hb;(have:=hS b hb;omega);exact a3.lt b hb:b<w2.heap.size)) (List.mem_append_left _ hgS) a1 ((hp.add (F:=F5) (B8<|AQ dp) a3.low).chg (B8<|AQ dp)<|a0.sub<|LP hgS) oM oM oM (RN.ptr (Ax dd6) (by decide) Ex.zero ((b0.rn.add (F:=F5) (Am<|Ax dd6) a3.low).chg (Am<|Ax dd6)<|a0.sub<|LP hgS) sD) ((henv.add (F:=F5) g2 a3.low).chg g2<|a0.sub<|LP hgS) hqenv hvp oM (by exact DN hwf oM oM) hse oM) ?_
  rintro e8 w8 ⟨v8,x8,s8,c8,rfl,b4,ch,b1,b5,ci,cj,ck⟩
  refine⟨_,rfl,?_⟩
  have cl:=b4.size
  have cm:At [g] w w8:=a0.trans b4
  have b6:=a3.run hgS oM b4
  have cn:=b5.1
  replace b1:RN (S++F5) (B2 rI) w8.heap v8 x8:=b1
  refine BK (u:=v8) (B:=w8.heap.size) BE C0 Bf Z Z (On w8.heap.size w8.heap.size _<|b1.one1 g1) (A7 _) Aa fun d3 d4 a8 co b7=>?_
  have bv:=a8.size
  have b8:At [g] w d4:=cm.ext a8
  have af:=ch.ext a8
  have ab:=b6.ext a8
  have b9:=b1.ext g1 a8
  refine EJ (v:=vo) (a:=d3) (u:=v8) C0 Bf Z Z Z ab oM b7 b9 sD (by unfold maxLen;first|omega|assumption|(simp;done)|(simp;omega)) Aa ?_
  rintro d5 d6 G17 ag ah ⟨cp,di,cq⟩
  have bw:=ag.size
  have ba:At [g] w d6:=b8.fresh ag (fun c hc=>ab.low c (ah c hc))
  have bb:=af.chg ag fun hm=>by have:=ab.low _ (ah _ hm);have:=ab.lt _ (ah _ hm);omega
  refine Ac 1 Z<|Ab _ [0,0,0] Z<|Ad 1 Z<|AN ((k+1:Nat):Int) Z Z (Bg oM sD) Aa<|Ac 1 Z ?_
  exact⟨(k+1,d5,xs++[x8],s8,c8),_,rfl,zR,⟨ba,bb,sD,(by exact⟨_,_,by assumption⟩),(by rw[List.length_append,List.length_singleton,hxl]),(by exact C7.snoc hxs (by assumption)),oM,oM,(by exact Gd oM hrl (by assumption))⟩,zD⟩
 refine AE false Z Z (A6 bu) Aa<|Aj<|Ai Z<|A4<|Aw<|Aw<|Aq<|A0<|AP _ [0,0,0,1,0,0,1,0,0,0,1,0,0] mixed (by kernel_rfl) ?_
 have ad:=a3.done hS
 have hfn19c:=a3.cap
 have hvo:=hvp.outs (ex.num).toNat oM
 have hvr:=hvp.par (ex.num).toNat oM
 have hxk:xs.length=ex.kids.length:=by omega
 have hKr:AH (go c0 (Dj n (Ee p n F) ex.kids env s0)) xs s9 c9:=by rw[List.take_of_length_le oM]at hrl;exact hrl
 refine Ad 1 Z<|AU Z Aa<|Ak (p:=zP g) 0 UM Z Z Aa<|Ah (p:=Ao (zP g) 0) (.inl Z) pp VJ Z (a1.ldp (i:=0) sM) Aa<|AL (hp.isPtr) Z Aa ?_
 obtain⟨cs20,bc,ao⟩:=RN.at (AQ _) hp
 obtain⟨a4,rfl,a9⟩:=RPr.of bc
 have ae:=a9.lenle
 unfold maxLen at ae
 refine AI (p:=pp) 0 BA Z (ao _<|a0.drew.sub<|AT hgS) Aa<|Ah (p:=Ao pp 0) (.inl Z) a4 C9 Z ((ao _<|a0.drew.sub<|AT hgS).ld (i:=0) GJ) Aa<|Ad 1 Z<|AL (hex.isPtr) Z Aa<|AI (p:=ve) 1 BI Z (a7 _<|a0.drew.sub<|AT hgS) Aa<|Ah (p:=Ao ve 1) (.inl Z) (zI ex.num) AC Z ((a7 _<|a0.drew.sub<|AT hgS).ld (i:=1) GJ) Aa ?_
 refine AA (v:=a4) ((ex.num).toNat) GF CC Z Z a9.isSl oM sD Aa<|Ac 1 Z<|A0<|cP [0,0,0,2,0] Z<|Ad 1 Z<|AL (hex.isPtr) Z Aa<|AI (p:=ve) 0 Bh Z (a7 _<|a0.drew.sub<|AT hgS) Aa<|Ah (p:=Ao ve 0) (.inr Z) (zI ex.kind) AC Z ((a7 _<|a0.drew.sub<|AT hgS).ld (i:=0) GJ) Aa ?_
 by_cases ap:ex.kind=((10:Nat):Int)
 ·refine Al true Z Z (A5 ap) Aa<|Aj<|Ag Z<|A0<|AP _ [0,0,0,0,1,0,0,0,1,0,0,4,0] mixed (by kernel_rfl)<|Ad 2 Z ?_
  have hvd:=hvp.deep (ex.num).toNat oM (ex.pick).toNat oM
  refine AL (RN.isPtr<|RN.ptr (Av dp) (by decide) Fn.zero a9 sD) Z Aa ?_
  obtain⟨cs22,bd,aq⟩:=a9.get (Av dp) Fn.zero (k:=(ex.num).toNat) sD
  obtain⟨ac,rfl,ai⟩:=RF.of bd
  have ar:=ai.rn.lenle
  unfold maxLen at ar
  refine AI (p:=Ay a4 ((ex.num).toNat) 3) 2 BU Z (aq _<|a0.drew.drew.sub<|AT hgS) Aa<|Ah (p:=Ao (Ay a4 ((ex.num).toNat) 3) 2) (.inl Z) ac Be Z ((aq _<|a0.drew.drew.sub<|AT hgS).ld (i:=2) GJ) Aa<|Ad 1 Z<|AL (hex.isPtr) Z Aa<|AI (p:=ve) 2 Dd Z (a7 _<|a0.drew.drew.sub<|AT hgS) Aa<|Ah (p:=Ao ve 2) (.inl Z) (zI ex.pick) AC Z ((a7 _<|a0.drew.drew.sub<|AT hgS).ld (i:=2) GJ) Aa ?_
  refine AA (v:=ac) ((ex.pick).toNat) D5 Bn Z Z ai.rn.isSl oM sD Aa<|Ad 1 Z ?_
  refine AB 221 [] [] [zP g,Ay ac ((ex.pick).toNat) 5,vo] Z Z Hp Aa (IH1 (ex.num).toNat oM dp _ S g pp dp (n) (s9) (c9) (p) (Ay ac ((ex.pick).toNat) 5) (((p.getD ((ex.num).toNat) Fn.zero).outs).getD ((ex.pick).toNat) Ex.zero) vo (xs) (fun b hb=>(by have:=hS b hb;omega:b<w2.heap.size)) hgS a1 (hp.chg (B8<|AQ dp)<|a0.drew.drew.sub<|AT hgS) oM oM oM (RN.ptr (Ax dp) (by decide) Ex.zero (ai.rn.chg (Am<|Ax dp)<|a0.drew.drew.sub<|AT hgS) sD) ad hfn19c hvp oM (by have h9:=hvp.wf (ex.num).toNat oM (ex.pick).toNat oM;rw[show(xs.length:Int)=(p.getD (ex.num).toNat Fn.zero).params from by omega];exact h9) hxs oM) ?_
  rintro dj d7 ⟨d2,d8,da,db,rfl,a5,be,bf,au,bx,bz,c2⟩
  refine⟨_,rfl,?_⟩
  replace a5:=a5.of_drew
  replace a5:=a5.of_drew
  have c3:=a5.size
  have bg:At [g] w d7:=a0.trans a5
  have cr:=ad.run g2 hgS a5
  have c4:=au.1
  exact Ac 1 Z<|A1<|An<|Af [6] Z d2 Z ⟨d2,d8,da,db,rfl,bg,be,bf,(by first|assumption|exact hks _ oM),oM,oM,Tt⟩
 refine Al false Z Z (A6 ap) Aa<|Aj<|Ai Z<|A2<|A0<|cP [0] Z ?_
 have bh:ex.kind=11:=by have h9:ex.kind=10∨ex.kind=11:=hkH;omega
 have hwl:=MH hwf bh
 refine Ac 1 Z<|A3 ?_
 refine AY (S:=Nat×Value×List (List Int)×Nat×Int) (fun⟨i,vk,ks,s8,c8⟩=>([(7,vk),(10,zI (i:Int)),(0,zP g),(1,ve),(9,Ay a4 ((ex.num).toNat) 3)])) (fun⟨i,vk,ks,s8,c8⟩ W=>At [g] w W∧BX W.heap g [pp,zI (n:Int),zI (s8:Int),zI c8]∧i≤(ex.count).toNat∧RN S (B2<|B2 rI) W.heap vk ks∧Ci vk∧ks.length=(p.getD (ex.num).toNat Fn.zero).outs.length∧C7 n ks∧s8≤3000∧(0≤c8∧c8≤9)∧AH (go c9<|HH (fun a t=>Dj n (Ee p n (ex.num).toNat) (p.getD (ex.num).toNat Fn.zero).outs a t) i xs s9) ks s8 c8) (fun⟨i,vk,ks,s8,c8⟩=>(ex.count).toNat-i) (0,vo,xs,s9,c9) ⟨rfl,rfl,rfl,rfl,rfl,trivial⟩ ⟨a0.drew,a1,oM,(by assumption),(by assumption),oM,(by assumption),oM,oM,(by exact Sd Z)⟩ ?_
 clear a1 a0 b3 an ae
 rintro⟨i,vk,ks,s8,c8⟩ ρ31 d1 ⟨a2,a6,bi,hrk,hck,hkl,hks,bj,bk,hrl9⟩
 have c5:w.heap.size≤d1.heap.size:=a2.size
 have cs:=a6.lt
 refine A0<|cP [0,0,0,0,2,0] Z<|Ad 2 Z<|AL (hex.isPtr) Z Aa<|AI (p:=ve) 3 Dt Z (a7 _<|a2.sub<|AT hgS) Aa<|Ah (p:=Ao ve 3) (.inr Z) (zI ex.count) AC Z ((a7 _<|a2.sub<|AT hgS).ld (i:=3) GJ) Aa ?_
 by_cases av:(i:Int)<ex.count
 ·refine AE true Z Z (A5 av) Aa<|Aj<|Ag Z<|A2<|A0<|A3<|Ab _ [0,0,0,4,0] Z<|Ad 3 Z ?_
  refine AB 158 [] [] [zP g,Ay a4 ((ex.num).toNat) 3,vk] Z Z Vv Aa (Ts (ex.num).toNat (fun d9=>IH1 (ex.num).toNat oM d9) _ S g pp dp (n) (s8) (c8) (p) dp (Ay a4 ((ex.num).toNat) 3) (p.getD ((ex.num).toNat) Fn.zero) vk (ks) (fun b hb=>(by have:=hS b hb;omega:b<d1.heap.size)) hgS a6 (hp.chg (B8<|AQ dp)<|a2.sub<|AT hgS) oM oM oM (RN.ptr (Av dp) (by decide) Fn.zero (a9.chg (Am<|Av dp)<|a2.sub<|AT hgS) sD) hrk hck hvp oM (by intro k9 ay;have h9:=hvp.wf (ex.num).toNat oM k9 ay;rw[show(ks.length:Int)=(p.getD (ex.num).toNat Fn.zero).params from by omega];exact h9) hks (by intro k9 ay;have:=hvp.deep (ex.num).toNat oM k9 ay;omega) oM) ?_
  rintro dk dc ⟨dd,de,df,dg,rfl,aj,bl,ct,aa,c6,c7,ca⟩
  refine⟨_,rfl,?_⟩
  have cb:=aj.size
  have bm:At [g] w dc:=a2.trans aj
  have cu:=hrk.run g2 hgS aj
  have cc:=aa.2.1
  have cd:=aa.2.2
  have ce:=aa.1
  exact Ac 1 Z<|Ab _ [0,0,0] Z<|Ad 1 Z<|AN ((i+1:Nat):Int) Z Z (Bg oM oM) Aa<|Ac 1 Z ⟨(i+1,dd,de,df,dg),_,rfl,zR,⟨bm,bl,oM,(by assumption),(by assumption),oM,(by assumption),oM,oM,(by exact Sc hrl9 (by assumption))⟩,zD⟩
 refine AE false Z Z (A6 av) Aa<|Aj<|Ai Z<|A4<|Aw<|Aw<|Aq<|cP [0,0,0,0,2,0,2,0] Z<|Ad 2 Z<|AL (hex.isPtr) Z Aa<|AI (p:=ve) 2 Dd Z (a7 _<|a2.sub<|AT hgS) Aa<|Ah (p:=Ao ve 2) (.inr Z) (zI ex.pick) AC Z ((a7 _<|a2.sub<|AT hgS).ld (i:=2) GJ) Aa ?_
 refine AA (v:=vk) ((ex.pick).toNat) C0 Bf Z Z hrk.slL oM sD Aa ?_
 obtain⟨ak,bn,aw⟩:=RN.getL (w:=d1) g1 [] (k:=(ex.pick).toNat) hrk sD
 have ax:=aw.lenL
 unfold maxLen at ax
 exact Ah (p:=Ay vk ((ex.pick).toNat) 1) (.inr Z) ak Bk Z (bn _<|At.refl _ _) Aa<|Ac 1 Z<|A1<|Af [6] Z ak Z ⟨ak,ks.getD ((ex.pick).toNat) [],s8,c8,rfl,a2,a6,aw,(by first|assumption|exact hks _ oM),oM,oM,Tt⟩
theorem Tu (F d:Nat)(IH1:∀F',F'<F→∀d,SV F' d)(IH2:∀d',d'<d→SV F d'):SC F d:=by
 intro w S g pp dp n s0 c0 p ve ex vv env hS hgS a0 hp hn a1 a2 hex henv hqenv hvp hF hwf hse hdp hk
 exact IC w S F g pp dp n s0 c0 p d ve ex vv env hS hgS a0 hp hn a1 a2 hex henv hqenv hvp hF hwf hse hdp hk IH1 IH2
theorem Tv {p:Prop}(h:p:=by first|exact Ep hc00 hs1 oM oM ‹AH (go c0 (Cn _ _ (ex.kids.getD 0 _) _ _)) _ _ _› oM (by assumption)|exact Er hc00 hs1 oM oM ‹AH (go c0 (Cn _ _ (ex.kids.getD 0 _) _ _)) _ _ _› oM (by assumption)):p:=h
theorem Nk {p:Prop}(h:p:=by have:=Di (l:=ex.kids) (k:=0) oM;omega):p:=h
theorem ID {p:Prop}(h:p:=by exact DN hwf oM oM):p:=h
theorem E6 {p:Prop}(h:p:=by simp[Fb,Fd]):p:=h
theorem IE (w:World)(S:List Nat)(F:Nat)(g:Nat)(pp:Value)(dp n s0:Nat)(c0:Int)(p:List Fn)(dex:Nat)(ve:Value)(ex:Ex)(vv:Value)(env:List (List Int))(hS:∀b∈S,b<w.heap.size)(hgS:g∈S)(b0:BX w.heap g [pp,zI (n:Int),zI (s0:Int),zI c0])(hp:RN S (rP (Kb dp)) w.heap pp p)(hn:1≤n∧n≤13)(j2:s0≤3000)(j3:0≤c0∧c0≤9)(hex:RN S (rP (LO dex)) w.heap ve ex)(henv:RN S (B2 (B2 rI)) w.heap vv env)(hqenv:Ci vv)(hvp:HW p)(hF:F≤p.length)(hwf:wf p (F:Int) ex (env.length:Int)=true)(hse:C7 n env)(hdp:env.length+ex.deep≤1000000)(IH1:∀F',F'<F→∀d,SV F' d)(IH2:∀d',d'<dex→SV F d') :
  Calls Tryz.prog 221 #[zP g,ve,vv] w (fun e w'=>∃(v:Value) (x:List Int) (s1:Nat) (c1:Int),e=.returned v∧At [g] w w'∧BX w'.heap g [pp,zI (n:Int),zI (s1:Int),zI c1]∧RN S (B2 rI) w'.heap v x∧Cj n x∧s1≤3000∧(0≤c1∧c1≤9)∧AH (go c0 (Cn n (Ee p n F) ex env s0)) x s1 c1):=by
 refine Ap [zP g,ve,vv] 186 Tryz.func221 Z Z sM ?_
 have bk:At [g] w w:=At.refl [g] w
 have f5:=henv.lenL
 unfold maxLen at f5
 have k9:=b0.lt
 have hdk:=DP ex
 refine cQ Z<|A0<|cP [0,0,0,2,0] Z<|Ad 1 Z<|AU Z Aa<|Ak (p:=zP g) 3 GG Z Z Aa<|Ah (p:=Ao (zP g) 3) (.inr Z) (zI c0) AC Z (b0.ldp (i:=3) sM) Aa ?_
 by_cases e8:c0≠((0:Nat):Int)
 ·refine B4 true Z Z (A5 e8) Aa<|Aj<|Ag Z<|cP [0,0,0,0,2,4,0] Z<|Ad 2 Z<|AU Z Aa<|Ak (p:=zP g) 3 GG Z Z Aa<|Ah (p:=Ao (zP g) 3) (.inr Z) (zI c0) AC Z (b0.ldp (i:=3) sM) Aa<|AB 250 [] [] [zP g,zI c0] Z Z Qd Aa (D1 _ S g pp dp (n) (s0) (c0) (p) (c0) (fun b hb=>(by have:=hS b hb;omega:b<w.heap.size)) hgS b0 (hp.chg (B8<|AQ dp)<|bk.sub<|AT hgS) oM oM oM oM oM) ?_
  rintro e2 w2 ⟨v2,x2,s2,c2,rfl,e9,i9,ia,d1,ib,ic,bl⟩
  refine⟨_,rfl,?_⟩
  have id:=e9.size
  have ie:At [g] w w2:=bk.trans e9
  have ig:=d1.1
  have hfs:=bl.1
  have hff:=bl.2
  exact Ac 1 Z<|A1<|An<|Af [6] Z v2 Z ⟨v2,x2,s2,c2,rfl,ie,i9,ia,(by assumption),oM,oM,(by rw[hff,if_neg oM];exact DB oM)⟩
 refine B4 false Z Z (A6 e8) Aa<|Aj<|Ai Z<|A2<|A0<|cP [0,0,0,2,0] Z<|Ad 1 Z<|AU Z Aa<|Ak (p:=zP g) 2 KF Z Z Aa<|Ah (p:=Ao (zP g) 2) (.inr Z) (zI (s0:Int)) AC Z (b0.ldp (i:=2) sM) Aa ?_
 by_cases ea:(s0:Int)=((3000:Nat):Int)
 ·refine Al true Z Z (A5 ea) Aa<|Aj<|Ag Z<|cP [0,4,0] Z<|Ad 1 Z<|AB 250 [] [] [zP g,zI ((7:Nat):Int)] Z Z Qd Aa (D1 _ S g pp dp (n) (s0) (c0) (p) ((7:Nat):Int) (fun b hb=>(by have:=hS b hb;omega:b<w.heap.size)) hgS b0 (hp.chg (B8<|AQ dp)<|bk.sub<|AT hgS) oM oM oM oM oM) ?_
  rintro e7 w7 ⟨v7,x7,s7,c7,rfl,eb,ih,ii,d2,ij,ik,bm⟩
  refine⟨_,rfl,?_⟩
  have il:=eb.size
  have im:At [g] w w7:=bk.trans eb
  have io:=d2.1
  have hfs:=bm.1
  have hff:=bm.2
  exact Ac 1 Z<|A1<|An<|Af [6] Z v7 Z ⟨v7,x7,s7,c7,rfl,im,ih,ii,(by assumption),oM,oM,(by rw[hff,if_pos oM];exact CF oM oM)⟩
 refine Al false Z Z (A6 ea) Aa<|Aj<|Ai Z<|A2<|cP [0,0,0,2,0,0,0,4] Z<|Ad 1 Z<|AU Z Aa<|Ak (p:=zP g) 2 KF Z Z Aa<|Ah (p:=Ao (zP g) 2) (.inr Z) (zI (s0:Int)) AC Z (b0.ldp (i:=2) sM) Aa<|AN ((s0+1:Nat):Int) Z Z (Bg oM oM) Aa<|AU Z Aa<|Ak (p:=zP g) 2 KF Z Z Aa (Bl (k:=2) (w:=w) GT Z Z ⟨rfl,rfl⟩ b0 sM Aa fun f0 bn ip a7=>?_)
 replace a7:BX f0.heap g [pp,zI (n:Int),zI ((s0+1:Nat):Int),zI c0]:=a7
 have a0:At [g] w f0:=bk.trans bn
 have ec:=bn.size
 refine Aj<|A0<|cP [0,0,0,2] Z ?_
 have hc00:c0=0:=by omega
 have hs1:s0+1≤3000:=by omega
 refine Ad 1 Z<|AL (hex.isPtr) Z Aa ?_
 obtain⟨cs12,d3,a2⟩:=RN.at (Ax _) hex
 obtain⟨dd12,a1,iq,rfl,a3⟩:=RX.of d3
 have bo:=a3.rn.lenle
 unfold maxLen at bo
 refine AI (p:=ve) 0 Bh Z (a2 _<|a0.sub<|AT hgS) Aa<|Ah (p:=Ao ve 0) (.inr Z) (zI ex.kind) AC Z ((a2 _<|a0.sub<|AT hgS).ld (i:=0) E6) Aa<|Aj<|A3<|cP [0,0] Z ?_
 by_cases bp:ex.kind=((1:Nat):Int)
 ·refine Al true Z Z (A5 bp) Aa<|Ac 1 Z<|Ag Z<|A0<|AP _ [0,0,0,1,0,0,0,1,3,0] mixed (by kernel_rfl) ?_
  have hwk:=Ov hwf oM
  refine Ad 1 Z<|AL (hex.isPtr) Z Aa<|AI (p:=ve) 1 BI Z (a2 _<|a0.drew.sub<|AT hgS) Aa<|Ah (p:=Ao ve 1) (.inl Z) (zI ex.num) AC Z ((a2 _<|a0.drew.sub<|AT hgS).ld (i:=1) E6) Aa<|Ad 1 Z<|AU Z Aa<|Ak (p:=zP g) 1 Nb Z Z Aa<|Ah (p:=Ao (zP g) 1) (.inl Z) (zI (n:Int)) Ll Z (a7.ldp (i:=1) sM) Aa ?_
  refine Au 79 [] [] [zI ex.num,zI (n:Int)] Z Z XN Aa (EP _ _ (n) a3.rng.num sD oM) ?_
  rintro ka fx ⟨b1,rfl,ae,aa⟩
  refine⟨_,rfl,ae,?_⟩
  replace ae:=ae.of_drew
  have ed:=ae.size
  have d4:At [g] w fx:=a0.ext ae
  have an:=a7.ext ae
  replace aa:=aa.low (B':=f0.heap.size)<|A7 _
  exact Ac 1 Z<|A1<|AF<|An<|Af [6] Z b1 Z ⟨b1,cst n ex.num,s0+1,c0,rfl,d4,an,RN.of_fr1 aa fun b hb=>by have:=hS b hb;omega,(by exact Dr (BR.2 oM)),oM,oM,(by exact En hc00 hs1 oM)⟩
 refine Al false Z Z (A6 bp) Aa<|Ac 1 Z<|Ai Z<|cP [0,0] Z ?_
 by_cases bq:ex.kind=((2:Nat):Int)
 ·refine Al true Z Z (A5 bq) Aa<|Ac 1 Z<|Ag Z<|cP [0,0,0,0,2,0,2,0] Z ?_
  have hwk:=Ox hwf oM
  refine Ad 2 Z<|AL (hex.isPtr) Z Aa<|AI (p:=ve) 1 BI Z (a2 _<|a0.sub<|AT hgS) Aa<|Ah (p:=Ao ve 1) (.inr Z) (zI ex.num) AC Z ((a2 _<|a0.sub<|AT hgS).ld (i:=1) E6) Aa<|AA (v:=vv) ((ex.num).toNat) C0 Bf Z Z henv.slL oM sD Aa ?_
  obtain⟨ba,d5,br⟩:=RN.getL (w:=w) g1 [] (k:=(ex.num).toNat) henv sD
  have bs:=br.lenL
  unfold maxLen at bs
  exact Ah (p:=Ay vv ((ex.num).toNat) 1) (.inr Z) ba Bk Z (d5 _<|a0.sub<|AT hgS) Aa<|Ac 1 Z<|A1<|AF<|An<|Af [6] Z ba Z ⟨ba,env.getD ((ex.num).toNat) [],s0+1,c0,rfl,a0,a7,br.chg g1<|a0.sub<|AT hgS,(by exact hse _ oM),oM,oM,(by exact Eo hc00 hs1 oM)⟩
 refine Al false Z Z (A6 bq) Aa<|Ac 1 Z<|Ai Z<|cP [0,0] Z ?_
 by_cases bt:ex.kind=((7:Nat):Int)
 ·refine Al true Z Z (A5 bt) Aa<|Ac 1 Z<|Ag Z<|cP [0,0,0,0,2,0,0,4,3,0] Z ?_
  have hwk:=Oz hwf oM
  refine Ad 2 Z<|AL (hex.isPtr) Z Aa<|AI (p:=ve) 4 Ba Z (a2 _<|a0.sub<|AT hgS) Aa<|Ah (p:=Ao ve 4) (.inr Z) a1 Be Z ((a2 _<|a0.sub<|AT hgS).ld (i:=4) E6) Aa<|AA (v:=a1) 0 D5 Bn Z Z a3.rn.isSl Z sD Aa<|Ad 1 Z ?_
  refine AB 221 [] [] [zP g,Ay a1 0 5,vv] Z Z Hp Aa (IH2 dd12 oM _ S g pp dp (n) (s0+1) (c0) (p) (Ay a1 0 5) (ex.kids.getD 0 Ex.zero) vv (env) (fun b hb=>(by have:=hS b hb;omega:b<f0.heap.size)) hgS a7 (hp.chg (B8<|AQ dp)<|a0.sub<|AT hgS) oM oM oM (RN.ptr (Ax dd12) (by decide) Ex.zero (a3.rn.chg (Am<|Ax dd12)<|a0.sub<|AT hgS) sD) (henv.chg g2<|a0.sub<|AT hgS) hqenv hvp oM ID hse Nk) ?_
  rintro kb fy ⟨fz,j8,j9,ja,rfl,bu,d6,bv,bw,ee,ef,eg⟩
  refine⟨_,rfl,?_⟩
  have eh:=bu.size
  have d7:At [g] w fy:=a0.trans bu
  have ei:=bw.1
  refine Au 165 [] [] [fz,zI ((1000002:Nat):Int)] Z Z Vw Aa (GU _ _ _ _ (bv).rd oM oM) ?_
  rintro kc jb ⟨b2,rfl,aj,bb⟩
  refine⟨_,rfl,aj,?_⟩
  have ej:=aj.size
  have d8:At [g] w jb:=d7.ext aj
  have ao:=d6.ext aj
  have ir:=bv.ext g1 aj
  exact Ac 1 Z<|A1<|AF<|An<|Af [6] Z b2 Z ⟨b2,scl j8 ((1000002:Nat):Int),j9,ja,rfl,d8,ao,RN.of_fr1 bb fun b hb=>by have:=hS b hb;omega,(by rw[P0];exact KP (by assumption)),oM,oM,(by exact GA hc00 hs1 oM (Xy oM ‹AH (go c0<|Cn _ _ (ex.kids.getD 0 _) _ _) _ _ _›) (fun h0=>by rw[h0,P0];exact FU oM) (fun _=>rfl))⟩
 refine Al false Z Z (A6 bt) Aa<|Ac 1 Z<|Ai Z<|cP [0,0] Z ?_
 by_cases bx:ex.kind=((8:Nat):Int)
 ·refine Al true Z Z (A5 bx) Aa<|Ac 1 Z<|Ag Z<|A0<|cP [0,0,0,0,2,0,0,4,0,2,0] Z ?_
  have hwk:=RA hwf oM
  refine Ad 2 Z<|AL (hex.isPtr) Z Aa<|AI (p:=ve) 4 Ba Z (a2 _<|a0.sub<|AT hgS) Aa<|Ah (p:=Ao ve 4) (.inr Z) a1 Be Z ((a2 _<|a0.sub<|AT hgS).ld (i:=4) E6) Aa<|AA (v:=a1) 0 D5 Bn Z Z a3.rn.isSl Z sD Aa<|Ad 1 Z ?_
  refine AB 221 [] [] [zP g,Ay a1 0 5,vv] Z Z Hp Aa (IH2 dd12 oM _ S g pp dp (n) (s0+1) (c0) (p) (Ay a1 0 5) (ex.kids.getD 0 Ex.zero) vv (env) (fun b hb=>(by have:=hS b hb;omega:b<f0.heap.size)) hgS a7 (hp.chg (B8<|AQ dp)<|a0.sub<|AT hgS) oM oM oM (RN.ptr (Ax dd12) (by decide) Ex.zero (a3.rn.chg (Am<|Ax dd12)<|a0.sub<|AT hgS) sD) (henv.chg g2<|a0.sub<|AT hgS) hqenv hvp oM ID hse Nk) ?_
  rintro kd f7 ⟨fg,fh,fi,fj,rfl,bz,c3,ap,c4,ek,el,en⟩
  refine⟨_,rfl,?_⟩
  have eo:=bz.size
  have a5:At [g] w f7:=a0.trans bz
  have ep:=c4.1
  refine AA (v:=fg) 0 Bj BH Z Z ap.slL Z sD Aa ?_
  have d9:=RN.getI (w:=f7) (k:=0) ap sD
  refine Ah (p:=Ay fg 0 1) (.inr Z) (zI<|fh.getD 0 0) AC Z (d9.1 _<|At.refl _ _) Aa ?_
  by_cases c5:fh.getD 0 0=((0:Nat):Int)
  ·refine Al true Z Z (A5 c5) Aa<|Aj<|Ag Z<|cP [0,0,0,0,2,0,0,4,0] Z<|Ad 2 Z<|AL (hex.isPtr) Z Aa<|AI (p:=ve) 4 Ba Z (a2 _<|a5.sub<|AT hgS) Aa<|Ah (p:=Ao ve 4) (.inr Z) a1 Be Z ((a2 _<|a5.sub<|AT hgS).ld (i:=4) E6) Aa<|AA (v:=a1) 1 D5 Bn Z Z a3.rn.isSl Z sD Aa ?_
   refine Ad 1 Z ?_
   refine AB 221 [] [] [zP g,Ay a1 1 5,vv] Z Z Hp Aa (IH2 dd12 oM _ S g pp dp (n) (fi) (fj) (p) (Ay a1 1 5) (ex.kids.getD 1 Ex.zero) vv (env) (fun b hb=>(by have:=hS b hb;omega:b<f7.heap.size)) hgS c3 (hp.chg (B8<|AQ dp)<|a5.sub<|AT hgS) oM oM oM (RN.ptr (Ax dd12) (by decide) Ex.zero (a3.rn.chg (Am<|Ax dd12)<|a5.sub<|AT hgS) sD) (henv.chg g2<|a5.sub<|AT hgS) hqenv hvp oM ID hse (by have:=Di (l:=ex.kids) (k:=1) oM;omega)) ?_
   rintro ke jc ⟨fk,jd,je,jf,rfl,bc,da,db,c6,eq,er,es⟩
   refine⟨_,rfl,?_⟩
   have et:=bc.size
   have dc:At [g] w jc:=a5.trans bc
   have is:=ap.run g1 hgS bc
   have eu:=c6.1
   exact Ac 1 Z<|A1<|An<|AF<|An<|Af [6] Z fk Z ⟨fk,jd,je,jf,rfl,dc,da,db,(by assumption),oM,oM,Tv⟩
  refine Al false Z Z (A6 c5) Aa<|Aj<|Ai Z<|A2<|cP [0,0,0,0,2,0,0,4,0] Z<|Ad 2 Z<|AL (hex.isPtr) Z Aa<|AI (p:=ve) 4 Ba Z (a2 _<|a5.sub<|AT hgS) Aa<|Ah (p:=Ao ve 4) (.inr Z) a1 Be Z ((a2 _<|a5.sub<|AT hgS).ld (i:=4) E6) Aa ?_
  refine AA (v:=a1) 2 D5 Bn Z Z a3.rn.isSl Z sD Aa<|Ad 1 Z ?_
  refine AB 221 [] [] [zP g,Ay a1 2 5,vv] Z Z Hp Aa (IH2 dd12 oM _ S g pp dp (n) (fi) (fj) (p) (Ay a1 2 5) (ex.kids.getD 2 Ex.zero) vv (env) (fun b hb=>(by have:=hS b hb;omega:b<f7.heap.size)) hgS c3 (hp.chg (B8<|AQ dp)<|a5.sub<|AT hgS) oM oM oM (RN.ptr (Ax dd12) (by decide) Ex.zero (a3.rn.chg (Am<|Ax dd12)<|a5.sub<|AT hgS) sD) (henv.chg g2<|a5.sub<|AT hgS) hqenv hvp oM ID hse (by have:=Di (l:=ex.kids) (k:=2) oM;omega)) ?_
  rintro kf jg ⟨fl,jh,ji,jj,rfl,bd,dd,de,c8,ev,ew,ey⟩
  refine⟨_,rfl,?_⟩
  have ez:=bd.size
  have df:At [g] w jg:=a5.trans bd
  have it:=ap.run g1 hgS bd
  have g0:=c8.1
  exact Ac 1 Z<|A1<|AF<|An<|Af [6] Z fl Z ⟨fl,jh,ji,jj,rfl,df,dd,de,(by assumption),oM,oM,Tv⟩
 refine Al false Z Z (A6 bx) Aa<|Ac 1 Z<|Ai Z<|cP [0,0] Z ?_
 by_cases c9:ex.kind=((9:Nat):Int)
 ·refine Al true Z Z (A5 c9) Aa<|Ac 1 Z<|Ag Z<|cP [0,0,0,0,2,0,0,4,0] Z ?_
  have hwk:=Oy hwf oM
  refine Ad 2 Z<|AL (hex.isPtr) Z Aa<|AI (p:=ve) 4 Ba Z (a2 _<|a0.sub<|AT hgS) Aa<|Ah (p:=Ao ve 4) (.inr Z) a1 Be Z ((a2 _<|a0.sub<|AT hgS).ld (i:=4) E6) Aa<|AA (v:=a1) 0 D5 Bn Z Z a3.rn.isSl Z sD Aa<|Ad 1 Z ?_
  refine AB 221 [] [] [zP g,Ay a1 0 5,vv] Z Z Hp Aa (IH2 dd12 oM _ S g pp dp (n) (s0+1) (c0) (p) (Ay a1 0 5) (ex.kids.getD 0 Ex.zero) vv (env) (fun b hb=>(by have:=hS b hb;omega:b<f0.heap.size)) hgS a7 (hp.chg (B8<|AQ dp)<|a0.sub<|AT hgS) oM oM oM (RN.ptr (Ax dd12) (by decide) Ex.zero (a3.rn.chg (Am<|Ax dd12)<|a0.sub<|AT hgS) sD) (henv.chg g2<|a0.sub<|AT hgS) hqenv hvp oM ID hse Nk) ?_
  rintro kg fm ⟨fo,fp,jk,jl,rfl,ca,dg,cb,cc,g3,g4,g5⟩
  refine⟨_,rfl,?_⟩
  have g6:=ca.size
  have aq:At [g] w fm:=a0.trans ca
  have g7:=cc.1
  refine Ac 1 Z<|A0<|AP _ [0,0,0,0,1,0,0,0,3,4,0] mixed (by kernel_rfl)<|Ad 2 Z<|AL (hex.isPtr) Z Aa<|AI (p:=ve) 4 Ba Z (a2 _<|aq.drew.sub<|AT hgS) Aa<|Ah (p:=Ao ve 4) (.inl Z) a1 Be Z ((a2 _<|aq.drew.sub<|AT hgS).ld (i:=4) E6) Aa<|AA (v:=a1) 1 D5 Bn Z Z a3.rn.isSl Z sD Aa<|Ad 2 Z ?_
  refine Au 251 [] [] [vv,fo] Z Z ZB Aa (M3 _ S vv (env) fo (fp) (fun b hb=>(by have:=hS b hb;omega:b<fm.heap.size)) (henv.chg g2<|aq.drew.sub<|AT hgS) hqenv cb oM) ?_
  rintro kh fq ⟨fr,rfl,ab,cd,ce⟩
  refine⟨_,rfl,ab,?_⟩
  replace ab:=ab.of_drew
  have g8:=ab.size
  have be:At [g] w fq:=aq.ext ab
  have ar:=dg.ext ab
  have dh:=cb.ext g1 ab
  refine AB 221 [] [] [zP g,Ay a1 1 5,fr] Z Z Hp Aa (IH2 dd12 oM _ S g pp dp (n) (jk) (jl) (p) (Ay a1 1 5) (ex.kids.getD 1 Ex.zero) fr (env++[fp]) (fun b hb=>(by have:=hS b hb;omega:b<fq.heap.size)) hgS ar (hp.chg (B8<|AQ dp)<|be.sub<|AT hgS) oM oM oM (RN.ptr (Ax dd12) (by decide) Ex.zero (a3.rn.chg (Am<|Ax dd12)<|be.sub<|AT hgS) sD) cd ce hvp oM (by have h9:=JC hwf oM oM;rw[List.length_append,List.length_singleton];exact h9) (by exact hse.snoc (by assumption)) (by have:=Di (l:=ex.kids) (k:=1) oM;rw[List.length_append,List.length_singleton];omega)) ?_
  rintro ki jm ⟨fs,jn,jo,jp,rfl,au,di,dj,cf,g9,ga,gb⟩
  refine⟨_,rfl,?_⟩
  have gc:=au.size
  have dk:At [g] w jm:=be.trans au
  have iu:=dh.run g1 hgS au
  have iv:=cd.run g2 hgS au
  have gd:=cf.1
  exact Ac 1 Z<|A1<|AF<|An<|Af [6] Z fs Z ⟨fs,jn,jo,jp,rfl,dk,di,dj,(by assumption),oM,oM,(by exact Es hc00 hs1 oM oM ‹AH (go c0<|Cn _ _ (ex.kids.getD 0 _) _ _) _ _ _› (by assumption))⟩
 refine Al false Z Z (A6 c9) Aa<|Ac 1 Z<|Ai Z<|A0<|cP [0,0] Z ?_
 by_cases cg:ex.kind=((10:Nat):Int)
 ·refine Al true Z Z (A5 cg) Aa<|Ac 1 Z<|Ag Z<|A2<|Ag Z<|cP [0,0,0,4,0] Z<|Ad 3 Z<|AB 252 [] [] [zP g,ve,vv] Z Z VF Aa (Tu F dex IH1 IH2 _ S g pp dp (n) (s0+1) (c0) (p) ve (ex) vv (env) (fun b hb=>(by have:=hS b hb;omega:b<f0.heap.size)) hgS a7 (hp.chg (B8<|AQ dp)<|a0.sub<|AT hgS) oM oM oM (hex.chg (B8<|Ax dex)<|a0.sub<|AT hgS) (henv.chg g2<|a0.sub<|AT hgS) hqenv hvp oM hwf hse oM oM) ?_
  rintro kj jq ⟨ft,jr,js,jt,rfl,ch,dl,dm,ci,ge,gf,gg⟩
  refine⟨_,rfl,?_⟩
  have gh:=ch.size
  have dn:At [g] w jq:=a0.trans ch
  have gi:=ci.1
  exact Ac 1 Z<|A1<|AF<|An<|Af [6] Z ft Z ⟨ft,jr,js,jt,rfl,dn,dl,dm,(by assumption),oM,oM,(by exact Mq hc00 hs1 oM (by assumption))⟩
 refine Al false Z Z (A6 cg) Aa<|Ac 1 Z<|Ai Z<|Ab _ [0,0] Z ?_
 by_cases cj:ex.kind=((11:Nat):Int)
 ·refine Al true Z Z (A5 cj) Aa<|Ac 1 Z<|Ag Z<|cP [0,0,0,4,0] Z<|Ad 3 Z<|AB 252 [] [] [zP g,ve,vv] Z Z VF Aa (Tu F dex IH1 IH2 _ S g pp dp (n) (s0+1) (c0) (p) ve (ex) vv (env) (fun b hb=>(by have:=hS b hb;omega:b<f0.heap.size)) hgS a7 (hp.chg (B8<|AQ dp)<|a0.sub<|AT hgS) oM oM oM (hex.chg (B8<|Ax dex)<|a0.sub<|AT hgS) (henv.chg g2<|a0.sub<|AT hgS) hqenv hvp oM hwf hse oM oM) ?_
  rintro kk ju ⟨fu,jv,jw,jx,rfl,ck,dq,dr,cl,gj,gk,gl⟩
  refine⟨_,rfl,?_⟩
  have gm:=ck.size
  have ds:At [g] w ju:=a0.trans ck
  have gn:=cl.1
  exact Ac 1 Z<|A1<|AF<|An<|Af [6] Z fu Z ⟨fu,jv,jw,jx,rfl,ds,dq,dr,(by assumption),oM,oM,(by exact Mq hc00 hs1 oM (by assumption))⟩
 refine Al false Z Z (A6 cj) Aa<|Ac 1 Z<|Ai Z<|A2<|cP [0,0,0,0,2,0,0,4,0] Z ?_
 have hkk:ex.kind=3∨ex.kind=4∨ex.kind=5∨ex.kind=6:=Xf hwf oM
 have j4:ex.kids.length=2:=JD hwf hkk
 have j5:=Di (l:=ex.kids) (k:=0) oM
 have j6:=Di (l:=ex.kids) (k:=1) oM
 refine Ad 2 Z<|AL (hex.isPtr) Z Aa<|AI (p:=ve) 4 Ba Z (a2 _<|a0.sub<|AT hgS) Aa<|Ah (p:=Ao ve 4) (.inr Z) a1 Be Z ((a2 _<|a0.sub<|AT hgS).ld (i:=4) E6) Aa<|AA (v:=a1) 0 D5 Bn Z Z a3.rn.isSl Z sD Aa<|Ad 1 Z ?_
 refine AB 221 [] [] [zP g,Ay a1 0 5,vv] Z Z Hp Aa (IH2 dd12 oM _ S g pp dp (n) (s0+1) (c0) (p) (Ay a1 0 5) (ex.kids.getD 0 Ex.zero) vv (env) (fun b hb=>(by have:=hS b hb;omega:b<f0.heap.size)) hgS a7 (hp.chg (B8<|AQ dp)<|a0.sub<|AT hgS) oM oM oM (RN.ptr (Ax dd12) (by decide) Ex.zero (a3.rn.chg (Am<|Ax dd12)<|a0.sub<|AT hgS) sD) (henv.chg g2<|a0.sub<|AT hgS) hqenv hvp oM ID hse Nk) ?_
 rintro kl fv ⟨f8,f9,jy,jz,rfl,cm,dt,du,b3,gp,gq,cn⟩
 refine⟨_,rfl,?_⟩
 have gr:=cm.size
 have af:At [g] w fv:=a0.trans cm
 have gs:=b3.1
 have hra:=cn
 have co:=b3
 refine Ac 1 Z<|cP [0,0,0,0,2,0,0,4,0] Z<|Ad 2 Z<|AL (hex.isPtr) Z Aa<|AI (p:=ve) 4 Ba Z (a2 _<|af.sub<|AT hgS) Aa<|Ah (p:=Ao ve 4) (.inr Z) a1 Be Z ((a2 _<|af.sub<|AT hgS).ld (i:=4) E6) Aa<|AA (v:=a1) 1 D5 Bn Z Z a3.rn.isSl Z sD Aa<|Ad 1 Z ?_
 refine AB 221 [] [] [zP g,Ay a1 1 5,vv] Z Z Hp Aa (IH2 dd12 oM _ S g pp dp (n) (jy) (jz) (p) (Ay a1 1 5) (ex.kids.getD 1 Ex.zero) vv (env) (fun b hb=>(by have:=hS b hb;omega:b<fv.heap.size)) hgS dt (hp.chg (B8<|AQ dp)<|af.sub<|AT hgS) oM oM oM (RN.ptr (Ax dd12) (by decide) Ex.zero (a3.rn.chg (Am<|Ax dd12)<|af.sub<|AT hgS) sD) (henv.chg g2<|af.sub<|AT hgS) hqenv hvp oM ID hse (by have:=Di (l:=ex.kids) (k:=1) oM;omega)) ?_
 rintro km fa ⟨f3,f1,f4,f2,rfl,bf,ac,a6,b4,gt,gu,cp⟩
 refine⟨_,rfl,?_⟩
 have gv:=bf.size
 have a4:At [g] w fa:=af.trans bf
 have a8:=du.run g1 hgS bf
 have cq:=b4.1
 have hrb:=cp
 have j7:=b4
 have hlb:=cq
 have hzz:f1.getD 0 0=0∨¬f1.getD 0 0=0:=Decidable.em _
 refine Ac 1 Z<|A0<|A3<|cP [0,0,0,2,0,0] Z<|Ad 1 Z<|AL (hex.isPtr) Z Aa<|AI (p:=ve) 0 Bh Z (a2 _<|a4.sub<|AT hgS) Aa<|Ah (p:=Ao ve 0) (.inr Z) (zI ex.kind) AC Z ((a2 _<|a4.sub<|AT hgS).ld (i:=0) E6) Aa ?_
 by_cases cr:ex.kind=((3:Nat):Int)
 ·refine Al true Z Z (A5 cr) Aa<|Ac 1 Z<|Ag Z<|cP [0,0,3,0] Z<|Ad 2 Z<|Au 253 [] [] [f8,f3] Z Z VG Aa (Ig _ _ _ _ _ (a8).rd (a6).rd oM oM) ?_
  rintro ko k0 ⟨b5,rfl,ag,bg⟩
  refine⟨_,rfl,ag,?_⟩
  have gw:=ag.size
  have dv:At [g] w k0:=a4.ext ag
  have av:=ac.ext ag
  have iw:=a8.ext g1 ag
  have ix:=a6.ext g1 ag
  exact Ac 1 Z<|A1<|AF<|An<|Af [6] Z b5 Z ⟨b5,Dy f9 f1,f4,f2,rfl,dv,av,RN.of_fr1 bg fun b hb=>by have:=hS b hb;omega,(by exact J5 co),oM,oM,(by exact GA hc00 hs1 oM (JM oM hra hrb) (fun h0=>by rw[h0];exact FR oM) (fun _=>rfl))⟩
 refine Al false Z Z (A6 cr) Aa<|Ac 1 Z<|Ai Z<|cP [0,0,0,2,0,0] Z<|Ad 1 Z<|AL (hex.isPtr) Z Aa<|AI (p:=ve) 0 Bh Z (a2 _<|a4.sub<|AT hgS) Aa<|Ah (p:=Ao ve 0) (.inr Z) (zI ex.kind) AC Z ((a2 _<|a4.sub<|AT hgS).ld (i:=0) E6) Aa ?_
 by_cases cs:ex.kind=((4:Nat):Int)
 ·refine Al true Z Z (A5 cs) Aa<|Ac 1 Z<|Ag Z<|cP [0,0,3,0] Z<|Ad 2 Z<|Au 254 [] [] [f8,f3] Z Z ZC Aa (M0 _ _ _ _ _ (a8).rd (a6).rd oM oM oM) ?_
  rintro kp k1 ⟨b6,rfl,ah,bh⟩
  refine⟨_,rfl,ah,?_⟩
  have gx:=ah.size
  have dw:At [g] w k1:=a4.ext ah
  have aw:=ac.ext ah
  have iy:=a8.ext g1 ah
  have iz:=a6.ext g1 ah
  exact Ac 1 Z<|A1<|AF<|An<|Af [6] Z b6 Z ⟨b6,EU f9 f1,f4,f2,rfl,dw,aw,RN.of_fr1 bh fun b hb=>by have:=hS b hb;omega,(by exact KO co),oM,oM,(by exact GA hc00 hs1 oM (JM oM hra hrb) (fun h0=>by rw[h0];exact FS oM) (fun _=>rfl))⟩
 refine Al false Z Z (A6 cs) Aa<|Ac 1 Z<|Ai Z<|cP [0,0,0,2,0,0] Z<|Ad 1 Z<|AL (hex.isPtr) Z Aa<|AI (p:=ve) 0 Bh Z (a2 _<|a4.sub<|AT hgS) Aa<|Ah (p:=Ao ve 0) (.inr Z) (zI ex.kind) AC Z ((a2 _<|a4.sub<|AT hgS).ld (i:=0) E6) Aa ?_
 by_cases ct:ex.kind=((5:Nat):Int)
 ·refine Al true Z Z (A5 ct) Aa<|Ac 1 Z<|Ag Z<|cP [0,0,3,0] Z<|Ad 2 Z<|Au 255 [] [] [f8,f3] Z Z ZD Aa (M1 _ _ _ _ _ (a8).rd (a6).rd oM oM) ?_
  rintro kq k2 ⟨b7,rfl,ai,bi⟩
  refine⟨_,rfl,ai,?_⟩
  have gy:=ai.size
  have dx:At [g] w k2:=a4.ext ai
  have ax:=ac.ext ai
  have j0:=a8.ext g1 ai
  have j1:=a6.ext g1 ai
  exact Ac 1 Z<|A1<|AF<|An<|Af [6] Z b7 Z ⟨b7,Cb f9 f1,f4,f2,rfl,dx,ax,RN.of_fr1 bi fun b hb=>by have:=hS b hb;omega,(by exact J6 co),oM,oM,(by exact GA hc00 hs1 oM (JM oM hra hrb) (fun h0=>by rw[h0];exact FT oM) (fun _=>rfl))⟩
 refine Al false Z Z (A6 ct) Aa<|Ac 1 Z<|Ai Z<|cP [0,0,0,2,0,0,0,0,2,0,0,0] Z<|Ad 1 Z<|AU Z Aa<|Ak (p:=zP g) 3 GG Z Z Aa<|Ah (p:=Ao (zP g) 3) (.inr Z) (zI f2) AC Z (ac.ldp (i:=3) sM) Aa ?_
 by_cases cu:f2≠((0:Nat):Int)
 ·refine B4 true Z Z (A5 cu) Aa<|Ac 7 Z<|Ag Z<|cP [0,4,0] Z<|Ad 1 Z<|AB 250 [] [] [zP g,zI ((6:Nat):Int)] Z Z Qd Aa (D1 _ S g pp dp (n) (f4) (f2) (p) ((6:Nat):Int) (fun b hb=>(by have:=hS b hb;omega:b<fa.heap.size)) hgS ac (hp.chg (B8<|AQ dp)<|a4.sub<|AT hgS) oM oM oM oM oM) ?_
  rintro kr k3 ⟨fw,k4,k5,k6,rfl,ay,dy,dz,cv,gz,i0,b8⟩
  refine⟨_,rfl,?_⟩
  have i1:=ay.size
  have e0:At [g] w k3:=a4.trans ay
  have i2:=a8.run g1 hgS ay
  have i3:=a6.run g1 hgS ay
  have i4:=cv.1
  have hfs:=b8.1
  have hff:=b8.2
  exact Ac 1 Z<|A1<|AF<|An<|Af [6] Z fw Z ⟨fw,k4,k5,k6,rfl,e0,dy,dz,(by assumption),oM,oM,(by rw[hfs];exact GA hc00 hs1 oM (JM oM hra hrb) (fun h0=>absurd h0 oM) (fun h0=>by rw[hff,if_neg h0]))⟩
 refine B4 false Z Z (A6 cu) Aa<|Ad 2 Z<|AA (v:=f3) 0 Bj BH Z Z a6.slL Z (by rw[hlb];omega) (Ae (e:=175) Z Z Z) ?_
 have cw:=RN.getI (w:=fa) (k:=0) a6 (by rw[hlb];omega)
 refine Ah (p:=Ay f3 0 1) (.inr Z) (zI<|f1.getD 0 0) AC Z (cw.1 _<|At.refl _ _) (Ae (e:=175) Z Z Z) ?_
 by_cases b9:f1.getD 0 0=((0:Nat):Int)
 ·refine Al true Z Z (A5 b9) (Ae (e:=175) Z Z Z)<|Ac 2 Z<|Ag Z<|cP [0,4,0] Z<|Ad 1 Z<|AB 250 [] [] [zP g,zI ((6:Nat):Int)] Z Z Qd Aa (D1 _ S g pp dp (n) (f4) (f2) (p) ((6:Nat):Int) (fun b hb=>(by have:=hS b hb;omega:b<fa.heap.size)) hgS ac (hp.chg (B8<|AQ dp)<|a4.sub<|AT hgS) oM oM oM oM oM) ?_
  rintro k7 fb ⟨f6,fc,fd,fe,rfl,ad,cx,cy,bj,e1,e3,ak⟩
  refine⟨_,rfl,?_⟩
  have e4:=ad.size
  have cz:At [g] w fb:=a4.trans ad
  have i5:=a8.run g1 hgS ad
  have i6:=a6.run g1 hgS ad
  have e5:=bj.1
  have hfs:=ak.1
  have hff:=ak.2
  exact Ac 1 Z<|A1<|AF<|An<|Af [6] Z f6 Z ⟨f6,fc,fd,fe,rfl,cz,cx,cy,(by assumption),oM,oM,(by rw[hfs];exact GA hc00 hs1 oM (JM oM hra hrb) (fun h0=>by rw[hff,if_pos h0];exact Et (xs:=[_,_]) oM (hzz.resolve_right oM)) (fun h0=>by rw[hff,if_neg h0]))⟩
 refine Al false Z Z (A6 b9) (Ae (e:=175) Z Z Z)<|Ac 2 Z<|Ai Z<|A2<|cP [0,0,3,0] Z<|Ad 2 Z<|Au 256 [] [] [f8,f3] Z Z ZE Aa (M2 _ _ _ _ _ (a8).rd (a6).rd oM oM oM co.2) ?_
 rintro k8 ff ⟨al,rfl,a9,az⟩
 refine⟨_,rfl,a9,?_⟩
 have e6:=a9.size
 have d0:At [g] w ff:=a4.ext a9
 have am:=ac.ext a9
 have i7:=a8.ext g1 a9
 have i8:=a6.ext g1 a9
 exact Ac 1 Z<|A1<|Af [6] Z al Z ⟨al,Bs f9 f1,f4,f2,rfl,d0,am,RN.of_fr1 az fun b hb=>by have:=hS b hb;omega,(by exact Hg co),oM,oM,(by exact GA hc00 hs1 oM (JM oM hra hrb) (fun h0=>by rw[h0];exact FV (xs:=[_,_]) oM (hzz.resolve_left oM)) (fun _=>rfl))⟩
theorem UU:∀F d,SV F d:=by
  intro F
  induction F using Nat.strongRecOn with
  |_ F ihF =>
    intro d
    induction d using Nat.strongRecOn with
    |_ d ihd =>
      intro w S g pp dp n s0 c0 p ve ex vv env hS hgS hB0 hp hn hs0 hc0 hex henv hqenv hvp hF hwf hse hdp
      exact IE w S F g pp dp n s0 c0 p d ve ex vv env hS hgS hB0 hp hn hs0 hc0 hex henv hqenv hvp hF hwf hse hdp ihF ihd
theorem XX (F:Nat):SO F:=Ts F fun d=>UU F d
theorem VV {p:Prop}(h:p:=by unfold maxLen;first|omega|assumption|(simp only[List.length_nil,List.length_cons,List.length_append,List.length_set,List.length_replicate];omega)|(simp[List.length_nil,List.length_cons,List.length_append,List.length_set,List.length_replicate];done)|(simp[List.length_nil,List.length_cons,List.length_append,List.length_set,List.length_replicate];omega)):p:=h
theorem LC (w:World)(dp:Nat)(vp:Value)(p:List Fn)(f:Int)(va:Value)(a:List Int)(hp:RN [] (rP (Kb dp)) w.heap vp p)(_hf:Bw f)(ha:Rd (B2 rI) w.heap va a)(hvp:HW p)(hf:0≤f∧f<(p.length:Int))(hl:(a.length:Int)=(p.getD f.toNat Fn.zero).params)(hna:AV a=true) :
  Calls Tryz.prog 75 #[vp,zI f,va] w (fun e w'=>∃v0:Value,e=.returned (.tuple #[v0,zI ((MI p 1 f.toNat (DY a):Nat):Int),zI (Ea p f.toNat a)])∧AG w w'∧Fr (Bt rI 2) w.heap.size w'.heap.size w'.heap v0 (Ud p f.toNat a)∧aM p f.toNat a∧MI p 1 f.toNat (DY a)≤3000):=by
 refine Ap [vp,zI f,va] 73 Tryz.func75 Z Z sM ?_
 have cb:AG w w:=AG.refl w
 have dh:=ha.lenle
 have dt:=hvp.par f.toNat oM
 have du:=hvp.outs f.toNat oM
 refine cP [0,0,0] Z<|Ac 3 Z<|cP [0,0,3,0] Z<|Ad 1 Z ?_
 have bm:∀(vp:Value) (ap:∃b o,vp=.pointer (some ⟨b,o,none⟩)) (wq:World),(Instr.build 187 #[(0,vp),(1,zI ((1:Nat):Int))]).run Tryz.prog wq=.ok (.agg #[vp,zI ((1:Nat):Int),zI 0,zI 0]) wq:=by intro vp ap wq;obtain⟨b0,o0,rfl⟩:=ap;kernel_rfl
 refine Cf (ps:=#[(0,vp),(1,zI ((1:Nat):Int))]) (.agg #[vp,zI ((1:Nat):Int),zI 0,zI 0]) (by simp only[List.map_toArray,List.map_cons,List.map_nil];rfl) (fun wq=>bm vp hp.isPtr wq) Aa (Bx (cs:=#[vp,zI ((1:Nat):Int),zI 0,zI 0]) Z Aa fun w2 bn ct bo=>?_)
 have bp:=bn.size
 have bq:=cb.trans bn
 replace bo:BX w2.heap w.heap.size [vp,zI ((1:Nat):Int),zI 0,zI 0]:=bo
 refine Ac 1 Z<|cP [3,0] Z (CH (Bt rI 2) o1 C0 Bf Aa fun v3 w3 bj cu cc=>?_)
 have br:=bj.size
 have cd:=bq.trans bj
 have b3:=bo.ext bj
 refine Ac 1 Z<|A0<|cQ Z<|A3 ?_
 refine AY (S:=Nat×Value) (fun⟨k,vo⟩=>([(10,vo),(11,zI (k:Int)),(0,vp),(1,zI f),(2,va),(9,zP w.heap.size)])) (fun⟨k,vo⟩ W=>AG w W∧Fr (Bt (Bt rI 2) 27) w2.heap.size W.heap.size W.heap vo ((a.take k).map fun x=>[x])∧BX W.heap w.heap.size [vp,zI ((1:Nat):Int),zI 0,zI 0]∧k≤a.length∧w.heap.size<w2.heap.size∧w2.heap.size≤W.heap.size) (fun⟨k,vo⟩=>a.length-k) (0,v3) ⟨rfl,rfl,rfl,rfl,rfl,rfl,trivial⟩ ⟨cd,cc.up o2,b3,sD,oM,oM⟩ ?_
 clear cb ct bn cc cu bj br cd
 rintro⟨k,vo⟩ ρ5 w5 ⟨ag,a0,a2,ce,cv,cw⟩
 have bs:w.heap.size≤w5.heap.size:=ag.size
 have d9:=a2.lt
 refine A0<|cP [0,0,0,0] Z<|Ad 2 Z<|AO (v:=va) Bj Z ha.isSl Aa ?_
 by_cases cf:(k:Int)<(a.length:Int)
 ·refine AE true Z Z (A5 cf) Aa<|Aj<|Ag Z<|A2<|A0<|A3<|Ab _ [0,0,0,0,2,3,3,4,0] Z<|Ad 3 Z<|AA (v:=va) k Bj BH Z Z ha.isSl Z sD Aa ?_
  refine Ah (p:=Ay va k 1) (.inr Z) (zI<|a.getD k 0) AC Z (B7 ag (ha.getI sD).1) Aa ?_
  refine BK (u:=zI<|a.getD k 0) (B:=w5.heap.size) AK Bj BH Z Z (LN w5.heap.size w5.heap.size _ _ (ha.getI sD).2) (A7 _) Aa fun v9 w9 bk da cx=>?_
  have cy:=bk.size
  have cz:=ag.trans bk
  have ah:=a0.ext (o2) bk
  have ai:=a2.ext bk
  refine BK (u:=v9) (B:=w5.heap.size) o1 C0 Bf Z Z cx (by first|exact A7 _|omega) Aa fun dj dv aj d0 bt=>?_
  have cg:=aj.size
  have b4:=cz.trans aj
  have aa:=ah.ext (o2) aj
  have ab:=ai.ext aj
  refine Ij o1 (v:=vo) (a:=dj) C0 Bf Z Z Z aa oM bt oM oM sD VV Aa fun dk dm dw aw b5 bu=>?_
  have bv:AG w dm:=aw.below b4 (fun c hc=>A8 bq.size (b5 c hc).1) b4.size
  have ch:=aw.size
  have bw:=ab.chg aw fun hm=>by have:=b5 _ hm;omega
  refine Ac 1 Z<|Ab _ [0,0,0] Z<|Ad 1 Z<|AN ((k+1:Nat):Int) Z Z (Bg oM sD) Aa<|Ac 1 Z ?_
  exact⟨(k+1,dk),_,rfl,zR,⟨bv,(by rw[G8 0 oM];exact bu.up o2),bw,sD,oM,oM⟩,zD⟩
 refine AE false Z Z (A6 cf) Aa<|Aj<|Ai Z<|A4<|Aw<|Aw<|Aq<|cP [0,0,0,0,2,0,0,0,4,0] Z ?_
 have henv:(a.take k).map (fun x=>[x])=DY a:=by rw[List.take_of_length_le oM];rfl
 have hle:((a.take k).map (fun x=>[x])).length=a.length:=by rw[henv];unfold DY;rw[List.length_map]
 refine Ad 2 Z<|AL (hp.isPtr) Z Aa ?_
 obtain⟨cs13,bx,b6⟩:=RN.at (AQ _) hp
 obtain⟨ak,rfl,ax⟩:=RPr.of bx
 have aq:=ax.lenle
 unfold maxLen at aq
 refine AI (p:=vp) 0 BA Z (b6 _<|At.of_ext [] ag) Aa<|Ah (p:=Ao vp 0) (.inr Z) ak C9 Z ((b6 _<|At.of_ext [] ag).ld (i:=0) (by simp[Fb,Fd])) Aa<|Ad 1 Z<|AA (v:=ak) ((f).toNat) GF CC Z Z ax.isSl oM sD Aa<|Ad 1 Z ?_
 refine AB 158 [] [] [zP w.heap.size,Ay ak ((f).toNat) 3,vo] Z Z Vv Aa (XX f.toNat _ [w.heap.size] w.heap.size vp dp (1) (0) (0) (p) dp (Ay ak ((f).toNat) 3) (p.getD ((f).toNat) Fn.zero) vo ((a.take k).map fun x=>[x]) (fun b hb=>(by have:=A9 hb;omega:b<w5.heap.size)) (List.mem_singleton.2 Z) a2 ((hp.add (F:=[w.heap.size]) (B8<|AQ dp) fun b hb=>by have:=A9 hb;omega).ext (B8<|AQ dp) ag) oM oM oM (RN.ptr (Av dp) (by decide) Fn.zero ((ax.add (F:=[w.heap.size]) (Am<|Av dp) fun b hb=>by have:=A9 hb;omega).ext (Am<|Av dp) ag) sD) (RN.of_fr2 a0 fun b hb=>by have:=A9 hb;omega) a0.cap hvp oM (by intro k9 bz;have h9:=hvp.wf f.toNat oM k9 bz;rw[hle];rw[hl];exact h9) (by rw[henv];exact ED hna) (by intro k9 bz;have:=hvp.deep f.toNat oM k9 bz;omega) oM) ?_
 rintro dx db ⟨dd,dc,dg,de,rfl,al,ay,c0,ac,b7,b8,b9⟩
 refine⟨_,rfl,?_⟩
 have ci:=al.size
 have ad:AG w db:=al.below ag (fun b hb=>by have:b=w.heap.size:=(by simpa using hb);omega) ag.size
 have az:=a0.chg (o2) al fun _ h=>zA h
 have ar:=ac.2.1
 have au:=ac.2.2
 have cj:=ac.1
 have av:=c0.rt g2
 have hRL:=b9
 rw[henv]at hRL
 have hCB:=b8
 have hEP:=TV.mk' hRL hCB b7 ar au
 have hNP:=aM.mk' hEP
 have hST:=hEP.steps
 have hXS:=au
 have hXL:=ar
 refine Ac 1 Z<|A0<|cP [0,0,0,2,0] Z<|Ad 1 Z<|AU Z Aa<|Ak (p:=zP w.heap.size) 3 GG Z Z Aa<|Ah (p:=Ao (zP w.heap.size) 3) (.inr Z) (zI de) AC Z (ay.ldp (i:=3) sM) Aa ?_
 by_cases ba:de≠((0:Nat):Int)
 ·refine B4 true Z Z (A5 ba) Aa<|Aj<|Ag Z<|A0<|AP _ [3,0,0,0,1,0,0,0] mixed (by kernel_rfl) (CH (rI) AK Bj BH Aa fun di dy a4 d1 c1=>?_)
  replace a4:=a4.of_drew
  have ck:=a4.size
  have c2:=ad.trans a4
  have bl:=az.ext (o2) a4
  have d2:=av.ext g2 a4
  exact Ad 1 Z<|AU Z Aa<|Ak (p:=zP w.heap.size) 3 GG Z Z Aa<|Ah (p:=Ao (zP w.heap.size) 3) (.inl Z) (zI de) AC Z (ay.ldp (i:=3) sM) Aa<|Ac 3 Z<|A1<|An<|Af [6,7,8] Z (.tuple #[di,zI ((0:Nat):Int),zI de]) Z ⟨di,(by rw[RE<|Ir hRL oM,show Ea p f.toNat a=_ from K6 (Ir hRL oM)] <;> rfl),c2,(by rw[hNP.non (by rw[show Ea p f.toNat a=_ from K6 (Ir hRL oM)];omega)];exact(c1.up o1).low ad.size),hNP,hST⟩
 refine B4 false Z Z (A6 ba) Aa<|Aj<|Ai Z<|A2<|cP [3,0] Z (CH (rI) AK Bj BH Aa fun dn dz a5 c3 bb=>?_)
 have bc:=a5.size
 have bd:=ad.trans a5
 have am:=az.ext (o2) a5
 have an:=ay.ext a5
 have d3:=av.ext g2 a5
 refine Ac 1 Z<|A0<|cQ Z<|A3 ?_
 refine AY (S:=Nat×Value) (fun⟨k,vo⟩=>([(13,vo),(14,zI (k:Int)),(9,zP w.heap.size),(12,dd)])) (fun⟨k,vo⟩ W=>AG w W∧Fr (Bt rI 2) db.heap.size W.heap.size W.heap vo (((dc).take k).map fun s=>s.getD 0 0)∧BX W.heap w.heap.size [vp,zI ((1:Nat):Int),zI (dg:Int),zI de]∧k≤(dc).length∧RT db.heap.size (B2<|B2 rI) W.heap dd dc∧db.heap.size≤W.heap.size∧w.heap.size<db.heap.size∧db.heap.size≤db.heap.size∧db.heap.size≤W.heap.size) (fun⟨k,vo⟩=>(dc).length-k) (0,dn) ⟨rfl,rfl,rfl,rfl,trivial⟩ ⟨bd,bb.up o1,an,sD,(by assumption),oM,oM,oM,oM⟩ ?_
 clear bp bq a2 a0 ag bs aq al az bb c3 a5 bc bd am
 rintro⟨k,vo⟩ ρ28 df ⟨b1,ae,a1,c4,a3,cl,cm,cn,co⟩
 have cp:w.heap.size≤df.heap.size:=b1.size
 have d4:=a1.lt
 refine A0<|cP [0,0,0,0] Z<|Ad 2 Z<|AO (v:=dd) C0 Z a3.slL Aa ?_
 by_cases be:(k:Int)<(dc.length:Int)
 ·refine AE true Z Z (A5 be) Aa<|Aj<|Ag Z<|A2<|A0<|A3<|Ab _ [0,0,0,0,2,0,2,3,4,0] Z ?_
  have hkx:=hXS k oM
  have hkl:=hkx.1
  refine Ad 3 Z<|AA (v:=dd) k C0 Bf Z Z a3.slL Z sD Aa ?_
  obtain⟨b2,c5,ao⟩:=RT.getL g1 [] (k:=k) a3 sD
  have bf:=ao.lenL
  unfold maxLen at bf
  refine Ah (p:=Ay dd k 1) (.inr Z) b2 Bk Z c5 Aa<|AA (v:=b2) 0 Bj BH Z Z ao.slL Z sD Aa ?_
  have bg:=RT.getI (k:=0) ao sD
  refine Ah (p:=Ay b2 0 1) (.inr Z) (zI<|(dc.getD k []).getD 0 0) AC Z bg.1 Aa (BK (u:=zI<|(dc.getD k []).getD 0 0) (B:=df.heap.size) AK Bj BH Z Z (LN df.heap.size df.heap.size _ _ bg.2) (A7 _) Aa fun dq e0 a6 d5 bh=>?_)
  have cq:=a6.size
  have bi:=b1.trans a6
  have a7:=ae.ext (o1) a6
  have a8:=a1.ext a6
  have c6:=a3.ext g2 a6
  have c7:=ao.ext g1 a6
  refine EI (v:=vo) (a:=dq) Bj BH Z Z Z a7 oM bh.rd1 sD VV Aa fun dr ds e1 a9 af c8=>?_
  have c9:AG w ds:=a9.below bi (fun c hc=>A8 ad.size (af c hc).1) bi.size
  have cr:=a9.size
  have d6:=c6.chg g2 a9 fun c hc=>by have:=af c hc;omega
  have d7:=c7.chg g1 a9 fun c hc=>by have:=af c hc;omega
  have ca:=a8.chg a9 fun hm=>by have:=af _ hm;omega
  have d8:=bh.chg (o1) a9 fun c hc=>by have:=af c hc;omega
  refine Ac 1 Z<|Ab _ [0,0,0] Z<|Ad 1 Z<|AN ((k+1:Nat):Int) Z Z (Bg oM sD) Aa<|Ac 1 Z ?_
  exact⟨(k+1,dr),_,rfl,zR,⟨c9,(by rw[G8 [] oM];exact c8.up o1),ca,sD,(by assumption),oM,oM,oM,oM⟩,zD⟩
 refine AE false Z Z (A6 be) Aa<|Aj<|Ai Z<|A4<|Aw<|Aw<|Aq<|A0<|AP _ [0,0,0,0,1,0,0,0] mixed (by kernel_rfl)<|Ad 2 Z<|AU Z Aa<|Ak (p:=zP w.heap.size) 2 KF Z Z Aa<|Ah (p:=Ao (zP w.heap.size) 2) (.inl Z) (zI (dg:Int)) AC Z (a1.ldp (i:=2) sM) Aa<|Ac 3 Z<|A1 ?_
 exact Af [6,7,8] Z (.tuple #[vo,zI (dg:Int),zI ((0:Nat):Int)]) Z ⟨vo,(by rw[RC<|KQ hRL oM,show Ea p f.toNat a=_ from NL (KQ hRL oM)] <;> rfl),b1.drew,(by have h:=(ae.up o1).low ad.size;unfold Ud;rw[KR<|KQ hRL oM];rwa [List.take_of_length_le oM]at h),hNP,hST⟩
theorem ZW {p:List Fn}{f:Int}{a:Sr}(h:Gg p f=0)(h2:((a.length:Nat):Int)≠(p.getD f.toNat Fn.zero).params):2=Jt p f a:=Yp h (by rw[A6 h2];rfl)
theorem ZX {p:List Fn}{f:Int}{a:Sr}(h:Gg p f=0)(h2:AV a=false):2=Jt p f a:=Yp h (by rw[h2,Bool.and_false])
theorem ZY {p:List Fn}{f:Int}{a:Sr}(h:Gg p f=0)(h1:((a.length:Nat):Int)=(p.getD f.toNat Fn.zero).params)(h2:AV a=true):0=Jt p f a:=bH h (by rw[h2,A5 h1];rfl)
theorem cF {b:Bool}(h:(!b)=true):b=false:=by simpa using h
theorem cG {b:Bool}(h:(!b)=false):b=true:=by simpa using h
theorem Ql {p:Prop}(h:p:=by first|exact Yo oM|exact ZW oM oM|exact ZX oM (cF (by assumption))|exact(by omega:_=Gg p f).trans (Yo oM)|exact(show Gg p f=0 by omega).trans (ZY oM oM (cG (by assumption)))):p:=h
theorem LE (w:World)(dp:Nat)(vp:Value)(p:List Fn)(f:Int)(va:Value)(a:List Int)(hp:RN [] (rP (Kb dp)) w.heap vp p)(_hf:Bw f)(ha:Rd (B2 rI) w.heap va a)(hz:QL p) :
  Calls Tryz.prog 99 #[vp,zI f,va] w (fun e w'=>e=.returned (zI (Jt p f a))∧AG w w'):=by
 refine Ap [vp,zI f,va] 32 Tryz.func99 Z Z sM ?_
 have a7:AG w w:=AG.refl w
 have al:=ha.lenle
 refine cQ Z<|cP [0,0,3,0] Z<|Ad 2 Z<|Au 156 [] [] [vp,zI f] Z Z Zd Aa (Kh _ dp vp (p) _ (hp.ext (B8<|AQ dp) a7) _hf hz) ?_
 rintro e1 w1 ⟨rfl,a2⟩
 refine⟨_,rfl,a2,?_⟩
 have ae:=a2.size
 have a0:=a7.trans a2
 refine Ac 1 Z<|A0<|cP [0,0,0,0,0,0,0,0,2,0,0,0,2,0,0,0,3,0,0,0] Z<|Ad 1 Z ?_
 by_cases a8:Gg p f=((0:Nat):Int)
 ·refine Al true Z Z (A5 a8) Aa<|Ad 2 Z<|AO (v:=va) Bj Z ha.isSl (Ae (e:=13) Z Z Z)<|Ad 1 Z<|AL (hp.isPtr) Z (Ae (e:=13) Z Z Z) ?_
  have aj:=PH (p:=p) (f:=f) oM
  obtain⟨cs3,af,a9⟩:=RN.at (AQ _) hp
  obtain⟨a1,rfl,a3⟩:=RPr.of af
  have a4:=a3.lenle
  unfold maxLen at a4
  refine AI (p:=vp) 0 BA Z (a9 _<|At.of_ext [] a0) (Ae (e:=13) Z Z Z)<|Ah (p:=Ao vp 0) (.inr Z) a1 C9 Z ((a9 _<|At.of_ext [] a0).ld (i:=0) (by simp[Fb,Fd])) (Ae (e:=13) Z Z Z)<|Ad 1 Z<|AA (v:=a1) ((f).toNat) GF CC Z Z a3.isSl oM sD (Ae (e:=13) Z Z Z) ?_
  obtain⟨cs4,ag,aa⟩:=a3.get (Av dp) Fn.zero (k:=(f).toNat) sD
  obtain⟨ak,rfl,ah⟩:=RF.of ag
  have a5:=ah.rn.lenle
  unfold maxLen at a5
  refine AI (p:=Ay a1 ((f).toNat) 3) 1 Cr Z (aa _<|At.of_ext [] a0) (Ae (e:=13) Z Z Z)<|Ah (p:=Ao (Ay a1 ((f).toNat) 3) 1) (.inr Z) (zI<|(p.getD ((f).toNat) Fn.zero).params) AC Z ((aa _<|At.of_ext [] a0).ld (i:=1) (by simp[Fb,Fd])) (Ae (e:=13) Z Z Z) ?_
  by_cases ab:(a.length:Int)≠(p.getD ((f).toNat) Fn.zero).params
  ·exact B4 true Z Z (A5 ab) (Ae (e:=13) Z Z Z)<|Ac 6 Z<|Ag Z<|Ab _ [0] Z<|Ac 1 Z<|cP [0,0] Z<|Ac 2 Z<|A1<|Af [6] Z (zI ((2:Nat):Int)) Z ⟨B3 Ql,a0⟩
  refine B4 false Z Z (A6 ab) (Ae (e:=13) Z Z Z)<|Ad 2 Z<|Au 157 [] [] [va] Z Z Ze (Ae (e:=25) Z Z Z) (Jp _ _ _<|ha.ext g1 a0) ?_
  rintro e6 w6 ⟨rfl,a6⟩
  refine⟨_,rfl,a6,?_⟩
  have ai:=a6.size
  have ac:=a0.trans a6
  refine Bv (!(AV a)) Z Z (Ae (e:=25) Z Z Z)<|Ac 2 Z ?_
  cases ad:(!(AV a))
  ·exact Ai (by first|rfl|exact zW ad)<|A2<|cP [0,0] Z<|Ac 2 Z<|A1<|Af [6] Z (zI<|Gg p f) Z ⟨B3 Ql,ac⟩
  exact Ag (by first|rfl|exact zW ad)<|Ab _ [0] Z<|Ac 1 Z<|cP [0,0] Z<|Ac 2 Z<|A1<|Af [6] Z (zI ((2:Nat):Int)) Z ⟨B3 Ql,ac⟩
 exact Al false Z Z (A6 a8) Aa<|Ac 18 Z<|Ai Z<|A2<|cP [0,0] Z<|Ac 2 Z<|A1<|Af [6] Z (zI<|Gg p f) Z ⟨B3 Ql,a0⟩
theorem Ki (w:World)(dp:Nat)(vp:Value)(p:List Fn)(f:Int)(va:Value)(a:List Int)(hp:RP [] dp w.heap vp p)(_hf:Bw f)(ha:Rd (B2 rI) w.heap va a)(hz:QL p) :
  Calls Tryz.prog 28 #[(.agg #[vp]),zI f,va] w (fun e w'=>∃v0:Value,e=.returned (.tuple #[v0,zI ((XB p f a:Nat):Int),zI (Ui p f a)])∧AG w w'∧Fr (Bt rI 2) w.heap.size w'.heap.size w'.heap v0 (bG p f a)):=by
 refine Ap [.agg #[vp],zI f,va] 23 Tryz.func28 Z Z sM ?_
 have ae:AG w w:=AG.refl w
 have ao:=hp.lenle
 unfold maxLen at ao
 have ap:=ha.lenle
 refine cP [3,0,0,0] Z (Bx (cs:=#[vp]) Z Aa fun w1 a9 am a5=>?_)
 have af:=a9.size
 have a7:=ae.trans a9
 replace a5:BX w1.heap w.heap.size [vp]:=a5
 refine Ac 3 Z<|A0<|cP [0,0,3,0] Z<|Ad 2 Z<|Au 99 [] [] [zP w.heap.size,zI f,va] Z Z cA Aa (LE _ dp (zP w.heap.size) (p) _ _ _ (RN.box a5 (RP.mk'<|hp.ext (Am<|Av dp) a7) sM) _hf (ha.ext g1 a7) hz) ?_
 rintro e2 w2 ⟨rfl,a6⟩
 refine⟨_,rfl,a6,?_⟩
 have ag:=a6.size
 have a2:=a7.trans a6
 have a3:=a5.ext a6
 refine Ac 1 Z<|cP [0,0] Z<|Ad 1 Z ?_
 by_cases aa:Jt p f a≠((0:Nat):Int)
 ·refine B4 true Z Z (A5 aa) Aa<|Aj<|Ag Z<|cP [3,0,0,0,0] Z (CH (rI) AK Bj BH Aa fun v4 w4 ab an ah=>?_)
  have ai:=ab.size
  have aj:=a2.trans ab
  exact Ac 4 Z<|A1<|An<|Af [6,7,8] Z (.tuple #[v4,zI ((0:Nat):Int),zI<|Jt p f a]) Z ⟨v4,(by rw[Ys oM,Yq oM] <;> rfl),aj,(by rw[Yr oM];exact(ah.up o1).low a2.size)⟩
 refine B4 false Z Z (A6 aa) Aa<|Aj<|Ai Z<|A2<|cP [0,0,3,0,0,0,0,0,0] Z<|Ad 2 Z ?_
 have har:Jt p f a=0:=by omega
 have a1:=Yn har
 have aq:=J7 a1.1
 have ar:=aq.par f.toNat oM
 have hal:=a1.2.2.1
 refine Au 75 [] [] [zP w.heap.size,zI f,va] Z Z bX Aa (LC _ dp (zP w.heap.size) (p) _ _ _ (RN.box a3 (RP.mk'<|hp.ext (Am<|Av dp) a2) sM) _hf (ha.ext g1 a2) aq oM oM a1.2.2.2) ?_
 rintro e5 w5 ⟨a0,rfl,a8,a4,ac,ad⟩
 refine⟨_,rfl,a8,?_⟩
 have ak:=a8.size
 have al:=a2.trans a8
 exact AR (vs:=[a0,zI ((MI p 1 f.toNat (DY a):Nat):Int),zI<|Ea p f.toNat a]) a0 Z Z Aa<|AR (vs:=[a0,zI ((MI p 1 f.toNat (DY a):Nat):Int),zI<|Ea p f.toNat a]) (zI ((MI p 1 f.toNat (DY a):Nat):Int)) Z Z Aa<|AR (vs:=[a0,zI ((MI p 1 f.toNat (DY a):Nat):Int),zI<|Ea p f.toNat a]) (zI<|Ea p f.toNat a) Z Z Aa<|Ac 3 Z<|A1<|Af [6,7,8] Z (.tuple #[a0,zI ((MI p 1 f.toNat (DY a):Nat):Int),zI<|Ea p f.toNat a]) Z ⟨a0,(by rw[Yu har,V7 har]),al,(by rw[Yt har];exact(a4.up o1).low a2.size)⟩
theorem GK {p:Prop}(h:p:=by intro u hu;simp only[List.mem_cons,List.not_mem_nil,or_false]at hu;rcases hu with rfl|rfl|rfl|rfl|rfl <;> first|exact⟨rfl,rfl⟩):p:=h
theorem P1 {p:Prop}(h:p:=by simp only[List.map_toArray,List.map_cons,List.map_nil];rfl):p:=h
theorem P3 {p:Prop}(h:p:=by first|exact OC.var oM|exact OC.num oM):p:=h
theorem D2 (w:World)(gg gs:Nat)(sv:Value)(cs:List UInt8)(n0:Nat)(pp:Value)(dp:Nat)(l0:Int)(pl:Bool)(p:List Fn)(vars:Int)(hgg:gs<gg)(hs:El w.heap gs sv cs n0)(hB0:BX w.heap gg [zP gs,pp,zI l0,.bool pl])(hp:RN [gs,gg] (rP (Kb dp)) w.heap pp p)(_hvars:Bw vars)(hv:0≤vars∧vars≤1000)(hn:n0+20≤1000000000000) :
  Calls Tryz.prog 196 #[zP gg,zI vars] w (fun e w'=>∃(ex:Ex) (n1:Nat),e=.returned (.agg #[zI ex.kind,zI ex.num,zI ex.pick,zI ex.count,zN])∧At [gs,gg] w w'∧El w'.heap gs sv cs n1∧(n0≤n1∧n1≤n0+20)∧BX w'.heap gg [zP gs,pp,zI l0,.bool pl]∧TA ex∧ex.kids=[]∧OC p vars ex):=by
 refine Ap [zP gg,zI vars] 28 Tryz.func196 Z Z sM ?_
 have bh:At [gs,gg] w w:=At.refl [gs,gg] w
 have ca:=hs.lt
 have bi:=hB0.lt
 refine cP [3] Z ?_
 have bu:=hB0.lt
 refine Bp (z:=.agg #[zI 0,zI 0,zI 0,zI 0,zN]) Hq Aa fun w1 ad bv ae=>?_
 have bj:w.heap.size≤w1.heap.size:=ad.size
 have b4:At [gs,gg] w w1:=bh.ext ad
 have a9:=hs.ext ad
 have a0:=hB0.ext ad
 replace ae:BX w1.heap w.heap.size [zI 0,zI 0,zI 0,zI 0,zN]:=ae
 refine Aj<|A0<|cP [0,0,0,0,0,0,2,4,0,0] Z<|Ad 1 Z ?_
 by_cases b5:((0:Nat):Int)<vars
 ·refine BN true Z Z (A5 b5) Aa<|Ad 2 Z<|AU Z (Ae (e:=7) Z Z Z)<|Ak (p:=zP gg) 0 Ey Z Z (Ae (e:=7) Z Z Z)<|Ah (p:=Ao (zP gg) 0) (.inr Z) (zP gs) Id Z (a0.ldp (i:=0) sM) (Ae (e:=7) Z Z Z) ?_
  refine AB 122 [] [] [zP gs,zI ((4:Nat):Int)] Z Z Ob (Ae (e:=7) Z Z Z) (CE _ gs _ _ _ ((4:Nat):Int) a9 oM oM sD) ?_
  rintro e4 w4 ⟨c2,n4,rfl,af,b6,bw,b7⟩
  refine⟨_,rfl,?_⟩
  have bk:w1.heap.size≤w4.heap.size:=af.size
  have b8:At [gs,gg] w w4:=b4.trans (af.sub FW)
  have ag:=a0.chg af (zB ·)
  have b9:=ae.chg af (zB ·)
  refine Bv (!c2) Z Z (Ae (e:=7) Z Z Z)<|Ac 1 Z ?_
  cases ba:(!c2)
  ·refine Ai (by first|rfl|exact zW ba)<|A2<|cP [0,0,0,2,4,0,4] Z<|Ad 1 Z<|AU Z Aa<|Ak (p:=zP gg) 0 Ey Z Z Aa<|Ah (p:=Ao (zP gg) 0) (.inr Z) (zP gs) Id Z (ag.ldp (i:=0) sM) Aa<|AB 152 [] [] [zP gs] Z Z SW Aa (FZ _ gs _ _ _ b6 oM) ?_
   rintro e8 w8 ⟨c1,n8,rfl,ah,bl,bx,bb⟩
   refine⟨_,rfl,?_⟩
   have bm:w4.heap.size≤w8.heap.size:=ah.size
   have bn:At [gs,gg] w w8:=b8.trans (ah.sub FW)
   have bo:=ag.chg ah (zB ·)
   have ai:=b9.chg ah (zB ·)
   have aa:∀(wq:World),(Instr.build 153 #[(0,zI ((1:Nat):Int)),(1,zI c1)]).run Tryz.prog wq=.ok (.agg #[zI ((1:Nat):Int),zI c1,zI 0,zI 0,zN]) wq:=by intro wq;kernel_rfl
   refine Cf (ps:=#[(0,zI ((1:Nat):Int)),(1,zI c1)]) (.agg #[zI ((1:Nat):Int),zI c1,zI 0,zI 0,zN]) P1 (fun wq=>aa  wq) Aa (Bz (vs:=[zI ((1:Nat):Int),zI c1,zI 0,zI 0,zN]) B6 Z Z GK ai Z Z Aa fun c3 a1 bp a6=>?_)
   replace a6:BX c3.heap w.heap.size [zI ((1:Nat):Int),zI c1,zI 0,zI 0,zN]:=a6
   have bc:w8.heap.size≤c3.heap.size:=a1.size
   have aj:At [gs,gg] w c3:=bn.fresh a1 (fun _ h=>zE h)
   have ak:=bl.chg a1 fun c hc=>by have:=A9 hc;omega
   have al:=bo.chg a1 (zB ·)
   exact Aj<|A1<|Cu (cs:=[zI ((1:Nat):Int),zI c1,zI 0,zI 0,zN]) Z B6 Z a6 Z ⟨.mk ((1:Nat):Int) c1 0 0 [],n8,rfl,aj,ak,⟨zO,zO⟩,al,KT oM oM oM oM,rfl,P3⟩
  refine Ag (by first|rfl|exact zW ba)<|cP [0,0,0,2,0,4,0,4] Z<|Ad 1 Z<|AU Z Aa<|Ak (p:=zP gg) 0 Ey Z Z Aa<|Ah (p:=Ao (zP gg) 0) (.inr Z) (zP gs) Id Z (ag.ldp (i:=0) sM) Aa<|Ad 1 Z ?_
  refine AB 68 [] [] [zP gs,zI vars] Z Z Ho Aa (AX _ gs _ _ _ (vars) b6 oM _hvars sD) ?_
  rintro cb c4 ⟨bz,c8,rfl,a2,am,bq,an⟩
  refine⟨_,rfl,?_⟩
  have bd:w4.heap.size≤c4.heap.size:=a2.size
  have ao:At [gs,gg] w c4:=b8.trans (a2.sub FW)
  have ap:=ag.chg a2 (zB ·)
  have aq:=b9.chg a2 (zB ·)
  have ab:∀(wq:World),(Instr.build 153 #[(0,zI ((2:Nat):Int)),(1,zI bz)]).run Tryz.prog wq=.ok (.agg #[zI ((2:Nat):Int),zI bz,zI 0,zI 0,zN]) wq:=by intro wq;kernel_rfl
  refine Cf (ps:=#[(0,zI ((2:Nat):Int)),(1,zI bz)]) (.agg #[zI ((2:Nat):Int),zI bz,zI 0,zI 0,zN]) P1 (fun wq=>ab  wq) Aa (Bz (vs:=[zI ((2:Nat):Int),zI bz,zI 0,zI 0,zN]) B6 Z Z GK aq Z Z Aa fun c5 a3 br a7=>?_)
  replace a7:BX c5.heap w.heap.size [zI ((2:Nat):Int),zI bz,zI 0,zI 0,zN]:=a7
  have be:c4.heap.size≤c5.heap.size:=a3.size
  have ar:At [gs,gg] w c5:=ao.fresh a3 (fun _ h=>zE h)
  have au:=am.chg a3 fun c hc=>by have:=A9 hc;omega
  have av:=ap.chg a3 (zB ·)
  exact Aj<|A1<|An<|Cu (cs:=[zI ((2:Nat):Int),zI bz,zI 0,zI 0,zN]) Z B6 Z a7 Z ⟨.mk ((2:Nat):Int) bz 0 0 [],c8,rfl,ar,au,⟨zO,zO⟩,av,KT oM oM oM oM,rfl,P3⟩
 refine BN false Z Z (A6 b5) Aa<|Ac 8 Z<|Ai Z<|A2<|cP [0,0,0,2,4,0,4] Z<|Ad 1 Z<|AU Z Aa<|Ak (p:=zP gg) 0 Ey Z Z Aa<|Ah (p:=Ao (zP gg) 0) (.inr Z) (zP gs) Id Z (a0.ldp (i:=0) sM) Aa<|AB 152 [] [] [zP gs] Z Z SW Aa (FZ _ gs _ _ _ a9 oM) ?_
 rintro cc c6 ⟨c0,c9,rfl,a4,aw,bs,ax⟩
 refine⟨_,rfl,?_⟩
 have bf:w1.heap.size≤c6.heap.size:=a4.size
 have ay:At [gs,gg] w c6:=b4.trans (a4.sub FW)
 have az:=a0.chg a4 (zB ·)
 have b0:=ae.chg a4 (zB ·)
 have ac:∀(wq:World),(Instr.build 153 #[(0,zI ((1:Nat):Int)),(1,zI c0)]).run Tryz.prog wq=.ok (.agg #[zI ((1:Nat):Int),zI c0,zI 0,zI 0,zN]) wq:=by intro wq;kernel_rfl
 refine Cf (ps:=#[(0,zI ((1:Nat):Int)),(1,zI c0)]) (.agg #[zI ((1:Nat):Int),zI c0,zI 0,zI 0,zN]) P1 (fun wq=>ac  wq) Aa (Bz (vs:=[zI ((1:Nat):Int),zI c0,zI 0,zI 0,zN]) B6 Z Z GK b0 Z Z Aa fun c7 a5 bt a8=>?_)
 replace a8:BX c7.heap w.heap.size [zI ((1:Nat):Int),zI c0,zI 0,zI 0,zN]:=a8
 have bg:c6.heap.size≤c7.heap.size:=a5.size
 have b1:At [gs,gg] w c7:=ay.fresh a5 (fun _ h=>zE h)
 have b2:=aw.chg a5 fun c hc=>by have:=A9 hc;omega
 have b3:=az.chg a5 (zB ·)
 exact Aj<|A1<|Cu (cs:=[zI ((1:Nat):Int),zI c0,zI 0,zI 0,zN]) Z B6 Z a8 Z ⟨.mk ((1:Nat):Int) c0 0 0 [],c9,rfl,b1,b2,⟨zO,zO⟩,b3,KT oM oM oM oM,rfl,P3⟩
theorem G3 {p:Prop}(h:p:=by first|(rw[aQ oM];rfl)|(rw[aR oM];rfl)|(rw[aS oM];rfl)|(rw[aT oM];rfl)|(rw[aU (by assumption) (by assumption) (by assumption) (by assumption) (by assumption) (by assumption) (by assumption) (by assumption) (by assumption)])):p:=h
theorem cH (w:World)(k:Int)(_hk:Bw k)  :
  Calls Tryz.prog 198 #[zI k] w (fun e w'=>e=.returned (zI (kn k))∧w'=w):=by
 refine Ap [zI k] 17 Tryz.func198 Z Z sM ?_
 have a0:w=w:=rfl
 refine cQ Z<|A0<|cQ Z<|A3<|A0<|cP [0,0] Z ?_
 by_cases a1:k=((1:Nat):Int)
 ·exact Al true Z Z (A5 a1) Aa<|Ac 1 Z<|Ag Z<|A2<|Ag Z<|cQ Z<|A1<|AF<|An<|Af [2] Z (zI ((0:Nat):Int)) Z ⟨G3,a0⟩
 refine Al false Z Z (A6 a1) Aa<|Ac 1 Z<|Ai Z<|Ab _ [0,0] Z ?_
 by_cases a2:k=((2:Nat):Int)
 ·exact Al true Z Z (A5 a2) Aa<|Ac 1 Z<|Ag Z<|cQ Z<|A1<|AF<|An<|Af [2] Z (zI ((0:Nat):Int)) Z ⟨G3,a0⟩
 refine Al false Z Z (A6 a2) Aa<|Ac 1 Z<|Ai Z<|A0<|cP [0,0] Z ?_
 by_cases a3:k=((3:Nat):Int)
 ·exact Al true Z Z (A5 a3) Aa<|Ac 1 Z<|Ag Z<|A2<|Ag Z<|cQ Z<|A1<|AF<|An<|Af [2] Z (zI ((2:Nat):Int)) Z ⟨G3,a0⟩
 refine Al false Z Z (A6 a3) Aa<|Ac 1 Z<|Ai Z<|cP [0,0] Z ?_
 by_cases a4:k=((4:Nat):Int)
 ·exact Al true Z Z (A5 a4) Aa<|Ac 1 Z<|Ag Z<|A2<|Ag Z<|cQ Z<|A1<|AF<|An<|Af [2] Z (zI ((2:Nat):Int)) Z ⟨G3,a0⟩
 refine Al false Z Z (A6 a4) Aa<|Ac 1 Z<|Ai Z<|cP [0,0] Z ?_
 by_cases a5:k=((5:Nat):Int)
 ·exact Al true Z Z (A5 a5) Aa<|Ac 1 Z<|Ag Z<|A2<|Ag Z<|cQ Z<|A1<|AF<|An<|Af [2] Z (zI ((2:Nat):Int)) Z ⟨G3,a0⟩
 refine Al false Z Z (A6 a5) Aa<|Ac 1 Z<|Ai Z<|cP [0,0] Z ?_
 by_cases a6:k=((6:Nat):Int)
 ·exact Al true Z Z (A5 a6) Aa<|Ac 1 Z<|Ag Z<|A2<|Ag Z<|cQ Z<|A1<|AF<|An<|Af [2] Z (zI ((2:Nat):Int)) Z ⟨G3,a0⟩
 refine Al false Z Z (A6 a6) Aa<|Ac 1 Z<|Ai Z<|Ab _ [0,0] Z ?_
 by_cases a7:k=((9:Nat):Int)
 ·exact Al true Z Z (A5 a7) Aa<|Ac 1 Z<|Ag Z<|cQ Z<|A1<|AF<|An<|Af [2] Z (zI ((2:Nat):Int)) Z ⟨G3,a0⟩
 refine Al false Z Z (A6 a7) Aa<|Ac 1 Z<|Ai Z<|cP [0,0] Z ?_
 by_cases a8:k=((7:Nat):Int)
 ·exact Al true Z Z (A5 a8) Aa<|Ac 1 Z<|Ag Z<|cQ Z<|A1<|AF<|An<|Af [2] Z (zI ((1:Nat):Int)) Z ⟨G3,a0⟩
 refine Al false Z Z (A6 a8) Aa<|Ac 1 Z<|Ai Z<|cP [0,0] Z ?_
 by_cases a9:k=((8:Nat):Int)
 ·exact Al true Z Z (A5 a9) Aa<|Ac 1 Z<|Ag Z<|cQ Z<|A1<|AF<|An<|Af [2] Z (zI ((3:Nat):Int)) Z ⟨G3,a0⟩
 exact Al false Z Z (A6 a9) Aa<|Ac 1 Z<|Ai Z<|A2<|cQ Z<|A1<|Af [2] Z (zI (-1)) Z ⟨G3,a0⟩
def GX (d:Nat):Prop:=∀(w:World) (gg gs:Nat) (sv:Value) (cs:List UInt8) (n0:Nat) (pp:Value) (dp:Nat) (l0:Int) (pl:Bool) (p:List Fn) (vars funcs:Int) (hgg:gs<gg) (hs:El w.heap gs sv cs n0) (hB0:BX w.heap gg [.pointer (some ⟨gs,0,none⟩),pp,.int .i64 l0,.bool pl]) (hp:RN [gs,gg] (rP (Kb dp)) w.heap pp p) (_hvars:Bw vars) (_hfuncs:Bw funcs) (hv:0≤vars∧vars+((d:Nat):Int)≤1000) (hfu:0≤funcs∧funcs≤((p.length:Nat):Int)) (hpr:Yd p) (hd:d≤8) (hn:n0+HK d≤1000000000000) (hl:Ml d-1000000≤l0∧l0≤1000),Calls Tryz.prog 124 #[.pointer (some ⟨gg,0,none⟩),.int .i64 vars,.int .i64 funcs,.int .i64 ((d:Nat):Int)] w (fun e w'=>∃(v:Value) (ex:Ex) (n1:Nat) (l1:Int),e=.returned (.agg #[.int .i64 ex.kind,.int .i64 ex.num,.int .i64 ex.pick,.int .i64 ex.count,v])∧At [gs,gg] w w'∧El w'.heap gs sv cs n1∧(n0≤n1∧n1≤n0+(HK d))∧BX w'.heap gg [.pointer (some ⟨gs,0,none⟩),pp,.int .i64 l1,.bool pl]∧Fr (Fe 5 (Ph 153 d) 153) w.heap.size w'.heap.size w'.heap v ex.kids∧TA ex∧Py p funcs vars pl d l0 l1 ex)
def GC (d:Nat):Prop:=∀(w:World) (gg gs:Nat) (sv:Value) (cs:List UInt8) (n0:Nat) (pp:Value) (dp:Nat) (l0:Int) (pl:Bool) (p:List Fn) (vars funcs:Int) (hgg:gs<gg) (hs:El w.heap gs sv cs n0) (hB0:BX w.heap gg [.pointer (some ⟨gs,0,none⟩),pp,.int .i64 l0,.bool pl]) (hp:RN [gs,gg] (rP (Kb dp)) w.heap pp p) (_hvars:Bw vars) (_hfuncs:Bw funcs) (hv:0≤vars∧vars+((d:Nat):Int)≤1000) (hfu:0≤funcs∧funcs≤((p.length:Nat):Int)) (hpr:Yd p) (hd:1≤d∧d≤8) (hn:n0+(20+4*HK (d-1))≤1000000000000) (hl:1≤l0∧l0≤1000),Calls Tryz.prog 197 #[.pointer (some ⟨gg,0,none⟩),.int .i64 vars,.int .i64 funcs,.int .i64 ((d:Nat):Int)] w (fun e w'=>∃(v:Value) (ex:Ex) (n1:Nat) (l1:Int),e=.returned (.agg #[.int .i64 ex.kind,.int .i64 ex.num,.int .i64 ex.pick,.int .i64 ex.count,v])∧At [gs,gg] w w'∧El w'.heap gs sv cs n1∧(n0≤n1∧n1≤n0+(20+4*HK (d-1)))∧BX w'.heap gg [.pointer (some ⟨gs,0,none⟩),pp,.int .i64 l1,.bool pl]∧Fr (Fe 5 (Ph 153 d) 153) w.heap.size w'.heap.size w'.heap v ex.kids∧TA ex∧Py p funcs vars pl d (l0+1) l1 ex)
theorem IF (w:World)(gg gs:Nat)(sv:Value)(cs:List UInt8)(n0:Nat)(pp:Value)(dp:Nat)(l0:Int)(pl:Bool)(p:List Fn)(vars:Int)(funcs:Int)(d:Nat)(hgg:gs<gg)(hs:El w.heap gs sv cs n0)(hB0:BX w.heap gg [zP gs,pp,zI l0,.bool pl])(hp:RN [gs,gg] (rP (Kb dp)) w.heap pp p)(_hvars:Bw vars)(_hfuncs:Bw funcs)(hv:0≤vars∧vars+(d:Int)≤1000)(hfu:0≤funcs∧funcs≤(p.length:Int))(hpr:Yd p)(hd:1≤d∧d≤8)(hn:n0+(20+4*HK (d-1))≤1000000000000)(hl:1≤l0∧l0≤1000)(IH:GX (d-1)) :
  Calls Tryz.prog 197 #[zP gg,zI vars,zI funcs,zI (d:Int)] w (fun e w'=>∃(v:Value) (ex:Ex) (n1:Nat) (l1:Int),e=.returned (.agg #[zI ex.kind,zI ex.num,zI ex.pick,zI ex.count,v])∧At [gs,gg] w w'∧El w'.heap gs sv cs n1∧(n0≤n1∧n1≤n0+(20+4*HK (d-1)))∧BX w'.heap gg [zP gs,pp,zI l1,.bool pl]∧Fr (Fe 5 (Ph 153 d) 153) w.heap.size w'.heap.size w'.heap v ex.kids∧TA ex∧Py p funcs vars pl d (l0+1) l1 ex):=by
 refine Ap [zP gg,zI vars,zI funcs,zI (d:Int)] 89 Tryz.func197 Z Z sM ?_
 have dx:At [gs,gg] w w:=At.refl [gs,gg] w
 have ft:=hs.lt
 have ei:=hB0.lt
 have hst:=OB (d-1)
 have hnd:=HL (d-1)
 have hnl:=RH (d:=d-1) oM
 have hpl:=hpr.len
 refine cP [3] Z ?_
 have gh:=hB0.lt
 refine Bp (z:=.agg #[zI 0,zI 0,zI 0,zI 0,zN]) Hq Aa fun w1 bm ej ce=>?_
 have ch:w.heap.size≤w1.heap.size:=bm.size
 have cf:At [gs,gg] w w1:=dx.ext bm
 have bn:=hs.ext bm
 have ap:=hB0.ext bm
 replace ce:BX w1.heap w.heap.size [zI 0,zI 0,zI 0,zI 0,zN]:=ce
 refine Aj<|A0<|cP [0,0] Z<|Ad 1 Z ?_
 by_cases dy:funcs=((0:Nat):Int)
 ·refine Al true Z Z (A5 dy) Aa<|Aj<|Ag Z<|cP [0,0,4,4] Z<|Ad 2 Z<|AB 196 [] [] [zP gg,zI vars] Z Z Qb Aa (D2 _ gg gs sv cs n0 pp dp l0 pl p (vars) oM bn ap (hp.chg (B8<|AQ dp) cf) _hvars oM oM) ?_
  rintro e4 w4 ⟨x4,n4,rfl,ci,ek,gi,el,em,cj,gj⟩
  refine⟨_,rfl,?_⟩
  have en:w1.heap.size≤w4.heap.size:=ci.size
  have eo:At [gs,gg] w w4:=cf.trans ci
  have ep:=ce.chg ci fun hm=>by have:=DC hm;omega
  refine Bz (vs:=[zI x4.kind,zI x4.num,zI x4.pick,zI x4.count,zN]) B6 Z Z GK ep Z Z Aa fun w6 cg gk ck=>?_
  replace ck:BX w6.heap w.heap.size [zI x4.kind,zI x4.num,zI x4.pick,zI x4.count,zN]:=ck
  have eq:w4.heap.size≤w6.heap.size:=cg.size
  have er:At [gs,gg] w w6:=eo.fresh cg (fun _ h=>zE h)
  have es:=ek.chg cg fun c hc=>by have:=A9 hc;omega
  have et:=el.chg cg (zB ·)
  exact Aj<|A1<|An<|Cu (cs:=[zI x4.kind,zI x4.num,zI x4.pick,zI x4.count,zN]) Z B6 Z ck Z ⟨zN,x4,n4,l0,rfl,er,es,⟨zO,zO⟩,et,(by rw[cj];exact Hb _ _ _),em,(by exact OC.okc (by assumption) d)⟩
 refine Al false Z Z (A6 dy) Aa<|Aj<|Ai Z<|A2<|cP [0,0,0,2,0,4,0,3,4] Z<|Ad 1 Z<|AU Z Aa<|Ak (p:=zP gg) 0 Ey Z Z Aa<|Ah (p:=Ao (zP gg) 0) (.inr Z) (zP gs) Id Z (ap.ldp (i:=0) sM) Aa<|Ad 1 Z ?_
 refine AB 68 [] [] [zP gs,zI funcs] Z Z Ho Aa (AX _ gs _ _ _ (funcs) bn oM _hfuncs sD) ?_
 rintro e9 w9 ⟨f0,n9,rfl,bo,eu,gl,dz⟩
 refine⟨_,rfl,?_⟩
 have cl:w1.heap.size≤w9.heap.size:=bo.size
 have e0:At [gs,gg] w w9:=cf.trans (bo.sub FW)
 have ba:=ap.chg bo (zB ·)
 have bb:=ce.chg bo (zB ·)
 have bp:∀(wq:World),(Instr.build 153 #[(0,zI ((10:Nat):Int)),(1,zI f0)]).run Tryz.prog wq=.ok (.agg #[zI ((10:Nat):Int),zI f0,zI 0,zI 0,zN]) wq:=by intro wq;kernel_rfl
 refine Cf (ps:=#[(0,zI ((10:Nat):Int)),(1,zI f0)]) (.agg #[zI ((10:Nat):Int),zI f0,zI 0,zI 0,zN]) (by simp only[List.map_toArray,List.map_cons,List.map_nil];rfl) (fun wq=>bp  wq) Aa ?_
 have ev:=ba.lt
 have ew:=bb.lt
 refine Bp (z:=.agg #[zI 0,zI 0,zI 0,zI 0,zN]) Hq Aa fun f7 ah cm bc=>?_
 have bq:w9.heap.size≤f7.heap.size:=ah.size
 have br:At [gs,gg] w f7:=e0.ext ah
 have bd:=eu.ext ah
 have af:=ba.ext ah
 have ag:=bb.ext ah
 replace bc:BX f7.heap w9.heap.size [zI 0,zI 0,zI 0,zI 0,zN]:=bc
 refine Bz (vs:=[zI ((10:Nat):Int),zI f0,zI 0,zI 0,zN]) B6 Z Z GK bc Z Z Aa fun f8 ai cn ay=>?_
 replace ay:BX f8.heap w9.heap.size [zI ((10:Nat):Int),zI f0,zI 0,zI 0,zN]:=ay
 have bs:f7.heap.size≤f8.heap.size:=ai.size
 have aj:At [gs,gg] w f8:=br.fresh ai (fun _ h=>zE h)
 have bt:=bd.chg ai fun c hc=>by have:=A9 hc;omega
 have az:=af.chg ai (zB ·)
 have bu:=ag.chg ai (zB ·)
 refine Aj<|A0<|AP _ [0,0,0,1,0,0,1,0,1,0,0] mixed (by kernel_rfl)<|Ad 1 Z ?_
 have hxk:f0<funcs:=by omega
 refine AU Z Aa<|Ak (p:=zP gg) 1 UK Z Z Aa<|Ah (p:=Ao (zP gg) 1) (.inl Z) pp VJ Z (az.ldp (i:=1) sM) Aa<|AL (hp.isPtr) Z Aa ?_
 obtain⟨cs20,co,bv⟩:=RN.at (AQ _) hp
 obtain⟨a0,rfl,a5⟩:=RPr.of co
 have b8:=a5.lenle
 unfold maxLen at b8
 refine AI (p:=pp) 0 BA Z (bv _ aj.drew) Aa<|Ah (p:=Ao pp 0) (.inl Z) a0 C9 Z ((bv _ aj.drew).ld (i:=0) (by simp[Fb,Fd])) Aa<|Ak (p:=zP w9.heap.size) 1 BI Z Z Aa<|Ah (p:=Ao (zP w9.heap.size) 1) (.inl Z) (zI f0) AC Z (ay.ldp (i:=1) sM) Aa ?_
 refine AA (v:=a0) ((f0).toNat) GF CC Z Z a5.isSl oM sD Aa<|Ac 1 Z<|A0<|AP _ [0,0,0,1,0,0,0,1,0,4,0,4] mixed (by kernel_rfl) ?_
 have fu:=hpr.outs (f0).toNat oM
 have hpa:=hpr.par (f0).toNat oM
 refine Ad 1 Z<|AU Z Aa<|Ak (p:=zP gg) 0 Ey Z Z Aa<|Ah (p:=Ao (zP gg) 0) (.inl Z) (zP gs) Id Z (az.ldp (i:=0) sM) Aa<|Ad 1 Z<|AL (RN.isPtr<|RN.ptr (Av dp) (by decide) Fn.zero a5 sD) Z Aa ?_
 obtain⟨cs21,cp,a3⟩:=a5.get (Av dp) Fn.zero (k:=(f0).toNat) sD
 obtain⟨b0,rfl,be⟩:=RF.of cp
 have b9:=be.rn.lenle
 unfold maxLen at b9
 refine AI (p:=Ay a0 ((f0).toNat) 3) 2 BU Z (a3 _ aj.drew.drew) Aa<|Ah (p:=Ao (Ay a0 ((f0).toNat) 3) 2) (.inl Z) b0 Be Z ((a3 _ aj.drew.drew).ld (i:=2) (by simp[Fb,Fd])) Aa<|AO (v:=b0) D5 Z be.rn.isSl Aa ?_
 refine AB 68 [] [] [zP gs,zI ((((p.getD ((f0).toNat) Fn.zero).outs).length:Nat):Int)] Z Z Ho Aa (AX _ gs _ _ _ ((((p.getD ((f0).toNat) Fn.zero).outs).length:Nat):Int) bt oM oM sD) ?_
 rintro fv f9 ⟨f1,fl,rfl,a2,cq,ey,cr⟩
 refine⟨_,rfl,?_⟩
 replace a2:=a2.of_drew
 replace a2:=a2.of_drew
 have bw:f8.heap.size≤f9.heap.size:=a2.size
 have bx:At [gs,gg] w f9:=aj.trans (a2.sub FW)
 have bz:=az.chg a2 (zB ·)
 have c0:=bu.chg a2 (zB ·)
 have c1:=ay.chg a2 (zB ·)
 refine Ak (p:=zP w9.heap.size) 2 Dd Z Z Aa (Bl (k:=2) (w:=f9) GT Z Z ⟨rfl,rfl⟩ c1 sM Aa fun fa ak ct b1=>?_)
 replace b1:BX fa.heap w9.heap.size [zI ((10:Nat):Int),zI f0,zI f1,zI 0,zN]:=b1
 have c2:f9.heap.size≤fa.heap.size:=ak.size
 have a6:At [gs,gg] w fa:=bx.fresh ak (fun _ h=>zE h)
 have bf:=cq.chg ak fun c hc=>by have:=A9 hc;omega
 have b2:=bz.chg ak (zB ·)
 have bg:=c0.chg ak (zB ·)
 refine Aj ?_
 refine A0<|K4 (S:=Int×Int×Nat) (fun⟨k,cnt,m1⟩=>([(0,zP gg),(1,zI vars),(2,zI funcs),(3,zI (d:Int)),(8,zP w.heap.size),(9,zP w9.heap.size),(10,Ay a0 ((f0).toNat) 3)])) (fun⟨k,cnt,m1⟩ W=>At [gs,gg] w W∧El W.heap gs sv cs m1∧BX W.heap gg [zP gs,pp,zI l0,.bool pl]∧BX W.heap w.heap.size [zI 0,zI 0,zI 0,zI 0,zN]∧BX W.heap w9.heap.size [zI k,zI f0,zI f1,zI cnt,zN]∧((k=10∧cnt=0)∨(k=11∧(((p.getD (f0).toNat Fn.zero).outs.length:Nat):Int)=(p.getD (f0).toNat Fn.zero).params∧0≤cnt∧cnt≤8))∧(n0≤m1∧m1≤n0+8)) ?_ ?_
 ·refine A0<|AP _ [0,0,0,1,0,0,0,0,1,0,0,0,0,0,1,4,0] mixed (by kernel_rfl)<|Ad 1 Z<|AL (RN.isPtr<|RN.ptr (Av dp) (by decide) Fn.zero a5 sD) Z Aa<|AI (p:=Ay a0 ((f0).toNat) 3) 2 BU Z (a3 _ a6.drew) Aa<|Ah (p:=Ao (Ay a0 ((f0).toNat) 3) 2) (.inl Z) b0 Be Z ((a3 _ a6.drew).ld (i:=2) (by simp[Fb,Fd])) Aa<|AO (v:=b0) D5 Z be.rn.isSl Aa ?_
  refine Ad 1 Z<|AL (RN.isPtr<|RN.ptr (Av dp) (by decide) Fn.zero a5 sD) Z Aa<|AI (p:=Ay a0 ((f0).toNat) 3) 1 Cr Z (a3 _ a6.drew) Aa<|Ah (p:=Ao (Ay a0 ((f0).toNat) 3) 1) (.inl Z) (zI<|(p.getD ((f0).toNat) Fn.zero).params) AC Z ((a3 _ a6.drew).ld (i:=1) (by simp[Fb,Fd])) Aa ?_
  by_cases c3:((((p.getD ((f0).toNat) Fn.zero).outs).length:Nat):Int)=(p.getD ((f0).toNat) Fn.zero).params
  ·refine Al true Z Z (A5 c3) Aa<|Ad 2 Z<|AU Z (Ae (e:=55) Z Z Z)<|Ak (p:=zP gg) 0 Ey Z Z (Ae (e:=55) Z Z Z)<|Ah (p:=Ao (zP gg) 0) (.inl Z) (zP gs) Id Z (b2.ldp (i:=0) sM) (Ae (e:=55) Z Z Z) ?_
   refine AB 122 [] [] [zP gs,zI ((2:Nat):Int)] Z Z Ob (Ae (e:=55) Z Z Z) (CE _ gs _ _ _ ((2:Nat):Int) bf oM oM sD) ?_
   rintro fw fb ⟨f6,fm,rfl,a7,c4,ez,cu⟩
   refine⟨_,rfl,?_⟩
   replace a7:=a7.of_drew
   have e1:fa.heap.size≤fb.heap.size:=a7.size
   have c5:At [gs,gg] w fb:=a6.trans (a7.sub FW)
   have c6:=b2.chg a7 (zB ·)
   have c7:=bg.chg a7 (zB ·)
   have c8:=b1.chg a7 (zB ·)
   refine Ac 1 Z ?_
   cases c9:f6
   ·exact Ai (by first|rfl|exact zW c9)<|A2 ⟨(((10:Nat):Int),0,fm),_,rfl,zR,⟨c5,c4,c6,c7,c8,oM,oM⟩⟩
   refine Ag (by first|rfl|exact zW c9)<|cP [0,4] Z<|Ak (p:=zP w9.heap.size) 0 Bh Z Z Aa (Bl (k:=0) (w:=fb) GT Z Z ⟨rfl,rfl⟩ c8 sM Aa fun fc aq g0 bh=>?_)
   replace bh:BX fc.heap w9.heap.size [zI ((11:Nat):Int),zI f0,zI f1,zI 0,zN]:=bh
   have e2:fb.heap.size≤fc.heap.size:=aq.size
   have cv:At [gs,gg] w fc:=c5.fresh aq (fun _ h=>zE h)
   have cw:=c4.chg aq fun c hc=>by have:=A9 hc;omega
   have ca:=c6.chg aq (zB ·)
   have cx:=c7.chg aq (zB ·)
   refine Aj<|Ab _ [0,0,0,2,4,0,4] Z<|Ad 1 Z<|AU Z Aa<|Ak (p:=zP gg) 0 Ey Z Z Aa<|Ah (p:=Ao (zP gg) 0) (.inr Z) (zP gs) Id Z (ca.ldp (i:=0) sM) Aa ?_
   refine AB 68 [] [] [zP gs,zI ((4:Nat):Int)] Z Z Ho Aa (AX _ gs _ _ _ ((4:Nat):Int) cw oM oM sD) ?_
   rintro fx fd ⟨f2,fo,rfl,ar,cy,g1,cz⟩
   refine⟨_,rfl,?_⟩
   have e3:fc.heap.size≤fd.heap.size:=ar.size
   have d0:At [gs,gg] w fd:=cv.trans (ar.sub FW)
   have d1:=ca.chg ar (zB ·)
   have d2:=cx.chg ar (zB ·)
   have d3:=bh.chg ar (zB ·)
   refine Ak (p:=zP w9.heap.size) 3 Dt Z Z Aa (Bl (k:=3) (w:=fd) GT Z Z ⟨rfl,rfl⟩ d3 sM Aa fun ff au g2 bi=>?_)
   replace bi:BX ff.heap w9.heap.size [zI ((11:Nat):Int),zI f0,zI f1,zI f2,zN]:=bi
   have e5:fd.heap.size≤ff.heap.size:=au.size
   have d4:At [gs,gg] w ff:=d0.fresh au (fun _ h=>zE h)
   have d5:=cy.chg au fun c hc=>by have:=A9 hc;omega
   have d6:=d1.chg au (zB ·)
   have d7:=d2.chg au (zB ·)
   exact Aj ⟨(((11:Nat):Int),f2,fo),_,rfl,zR,⟨d4,d5,d6,d7,bi,oM,oM⟩⟩
  exact Al false Z Z (A6 c3) Aa<|Ac 7 Z<|Ai Z<|A2 ⟨(((10:Nat):Int),0,fl),_,rfl,zR,⟨a6.drew,bf,b2,bg,b1,oM,oM⟩⟩
 clear dx ej bm ch cf bo cl e0 ba bb cm ah bq br af ag cn ai bs aj bt az bu b8 b9 a2 bw bx bz c0 c1 ct ak c2 a6 bf b2 bg
 rintro⟨k,cnt,m1⟩ ρ30 f4 ⟨cb,av,a8,a9,aa,hkc,gm⟩
 have e6:w.heap.size≤f4.heap.size:=cb.size
 have g3:=a8.lt
 have g4:=a9.lt
 have g5:=aa.lt
 refine A0<|cQ Z<|A3 ?_
 refine AY (S:=Nat×Int×Nat×Value×List Ex) (fun⟨i,l,m,vk,xs⟩=>([(11,zI (i:Int)),(0,zP gg),(1,zI vars),(2,zI funcs),(3,zI (d:Int)),(8,zP w.heap.size),(9,zP w9.heap.size),(10,Ay a0 ((f0).toNat) 3)])) (fun⟨i,l,m,vk,xs⟩ W=>At [gs,gg] w W∧Fr (Fe 5 (Ph 153 d) 153) f4.heap.size W.heap.size W.heap vk xs∧El W.heap gs sv cs m∧BX W.heap gg [zP gs,pp,zI l,.bool pl]∧BX W.heap w.heap.size [zI 0,zI 0,zI 0,zI 0,zN]∧BX W.heap w9.heap.size [zI k,zI f0,zI f1,zI cnt,vk]∧(i:Int)≤(p.getD (f0).toNat Fn.zero).params∧Pz p funcs vars pl k d l0 l xs i∧(n0≤m∧m≤n0+8+Qw i (HK (d-1)))∧gg<f4.heap.size∧w.heap.size<f4.heap.size∧w9.heap.size<f4.heap.size∧f4.heap.size≤W.heap.size) (fun⟨i,l,m,vk,xs⟩=>(p.getD (f0).toNat Fn.zero).params.toNat-i) (0,l0,m1,zN,([]:List Ex)) ⟨rfl,rfl,rfl,rfl,rfl,rfl,rfl,rfl,trivial⟩ ⟨cb,(Hb _ 0 _).up<|As<|B1 153 d,av,a8,a9,aa,oM,(by exact Pz.nil ..),(by exact⟨zO,by show _≤n0+8+0;omega⟩),oM,oM,oM,oM⟩ ?_
 clear aa a9 a8 av
 rintro⟨i,l,m,vk,xs⟩ ρ55 f3 ⟨al,ab,aw,ac,ad,a1,gn,hko,hmb,e7,e8,ea,eb⟩
 have ec:w.heap.size≤f3.heap.size:=al.size
 have g6:=ac.lt
 have g7:=ad.lt
 have g8:=a1.lt
 refine A0<|cP [0,0,0,0,2,0] Z<|Ad 2 Z<|AL (RN.isPtr<|RN.ptr (Av dp) (by decide) Fn.zero a5 sD) Z Aa<|AI (p:=Ay a0 ((f0).toNat) 3) 1 Cr Z (a3 _ al) Aa<|Ah (p:=Ao (Ay a0 ((f0).toNat) 3) 1) (.inr Z) (zI<|(p.getD ((f0).toNat) Fn.zero).params) AC Z ((a3 _ al).ld (i:=1) (by simp[Fb,Fd])) Aa ?_
 by_cases cc:(i:Int)<(p.getD ((f0).toNat) Fn.zero).params
 ·refine AE true Z Z (A5 cc) Aa<|Aj<|Ag Z<|A2<|A0<|A3 ?_
  letI:JR:=TB [gs,gg]
  refine Jx.AP _ [0,1,0,0,0,0,0,3,3,4,0,4] mixed (by kernel_rfl) ?_
  have htn:=Mm (k:=HK (d-1)) (i:=i+1) oM
  have hts:Qw (i+1) (HK (d-1))=Qw i (HK (d-1))+HK (d-1):=rfl
  have hti:=NN (k:=Ml (d-1)) (i:=i) oM oM
  have hlo:=hko.lo
  have hln:=hko.len
  refine Jx.Ak (p:=zP w9.heap.size) 4 Ba Z Z Aa<|Jx.aH (p:=Ao (zP w9.heap.size) 4) vk Be Z (fun wj hj=>(BX.chg (w:=f3.drew) (F:=[gs,gg]) a1 hj fun hm=>by have:=DC hm;omega).ldp (i:=4) sM) Aa<|Jx.VY (zP gg) Z Aa<|Jx.VY (zI vars) Z Aa<|Jx.VY (zI funcs) Z Aa<|Jx.VY (zI (d:Int)) Z Aa<|Jx.j1<|BC ((d-1:Nat):Int) Z Z (by rw[DK oM oM];omega) Aa<|Aj ?_
  refine Jx.Au 124 [] [] [zP gg,zI vars,zI funcs,zI ((d-1:Nat):Int)] Z Z Oc Aa (IH _ gg gs sv cs m pp dp l pl p (vars) (funcs) oM aw ac (hp.chg (B8<|AQ dp) al.drew) _hvars _hfuncs oM oM hpr oM oM oM) ?_
  rintro fy fg ⟨fp,f5,fq,fr,rfl,a4,d8,g9,d9,bj,da,ga⟩
  refine⟨_,rfl,a4,?_⟩
  replace bj:=bj.low (B':=f3.heap.size)<|A7 _
  replace a4:=a4.of_drew
  have ed:f3.heap.size≤fg.heap.size:=a4.size
  have db:At [gs,gg] w fg:=al.trans a4
  have dc:=ab.chg (As<|B1 153 d) a4 fun c hc=>by have:=DC hc;omega
  have dd:=ad.chg a4 fun hm=>by have:=DC hm;omega
  have de:=a1.chg a4 fun hm=>by have:=DC hm;omega
  refine Jx.TW Z (Gu (cs:=[zI f5.kind,zI f5.num,zI f5.pick,zI f5.count,fp]) (y:=f5) (B:=f3.heap.size) (B1 153 d) D5 Bn Z (by decide) Z (Qs.mk1 oM da bj) oM Aa fun fs fh ae gb df=>?_)
  have ee:fg.heap.size≤fh.heap.size:=ae.size
  have dg:At [gs,gg] w fh:=db.ext ae
  have b3:=dc.ext (As<|B1 153 d) ae
  have b4:=d8.ext ae
  have b5:=d9.ext ae
  have b6:=dd.ext ae
  have b7:=de.ext ae
  refine JA (v:=vk) (a:=fs) (B1 153 d) D5 Bn Z (by decide) Z Z b3 oM df oM oM oM (by unfold maxLen;omega) Aa fun fk fe fz am ax cd=>?_
  have ef:fh.heap.size≤fe.heap.size:=am.size
  have dh:At [gs,gg] w fe:=dg.fresh am (fun c hc=>by have:=ax _ hc;omega)
  have di:=b4.chg am fun c hc=>by have:=ax _ hc;omega
  have dj:=b5.chg am fun hm=>by have:=ax _ hm;omega
  have dk:=b6.chg am fun hm=>by have:=ax _ hm;omega
  have dl:=b7.chg am fun hm=>by have:=ax _ hm;omega
  refine Ak (p:=zP w9.heap.size) 4 Ba Z Z Aa (Bl (k:=4) (w:=fe) T7 Z Z (Br cd.isSlS) dl sM Aa fun fi an gc bk=>?_)
  replace bk:BX fi.heap w9.heap.size [zI k,zI f0,zI f1,zI cnt,fk]:=bk
  have eg:fe.heap.size≤fi.heap.size:=an.size
  have dm:At [gs,gg] w fi:=dh.fresh an (fun _ h=>zE h)
  have dn:=di.chg an fun c hc=>by have:=A9 hc;omega
  have dq:=dj.chg an (zB ·)
  have dr:=dk.chg an (zB ·)
  have ds:=cd.chg (As<|B1 153 d) an fun _ h=>zA h
  exact Aj<|Ab _ [0,0,0] Z<|Ad 1 Z<|AN ((i+1:Nat):Int) Z Z (Bg oM oM) Aa<|Ac 1 Z ⟨(i+1,fr,fq,fk,xs++[f5]),_,rfl,zR,⟨dm,ds.up<|As<|B1 153 d,dn,dq,dr,bk,oM,(by exact hko.snoc oM (by rw[if_neg oM]) (by assumption)),oM,oM,oM,oM,oM⟩,zD⟩
 refine AE false Z Z (A6 cc) Aa<|Aj<|Ai Z<|A4<|Aw<|Aw<|Aq<|cP [2,4] Z<|AM (p:=zP w9.heap.size) (.inr Z) [zI k,zI f0,zI f1,zI cnt,vk] B6 Z (fun gp gd=>LD.of_box<|BX.ext (w:=f3) a1 gd) Z Aa (Bz (vs:=[zI k,zI f0,zI f1,zI cnt,vk]) B6 Z Z (by intro u hu;simp only[List.mem_cons,List.not_mem_nil,or_false]at hu;rcases hu with rfl|rfl|rfl|rfl|rfl <;> first|exact⟨rfl,rfl⟩|exact Br ab.isSlS) ad Z Z Aa fun fj ao ge bl=>?_)
 replace bl:BX fj.heap w.heap.size [zI k,zI f0,zI f1,zI cnt,vk]:=bl
 have eh:f3.heap.size≤fj.heap.size:=ao.size
 have dt:At [gs,gg] w fj:=al.fresh ao (fun _ h=>zE h)
 have du:=ab.chg (As<|B1 153 d) ao fun _ h=>zA h
 have dv:=aw.chg ao fun c hc=>by have:=A9 hc;omega
 have dw:=ac.chg ao (zB ·)
 have gf:=a1.chg ao (zB ·)
 refine Aj<|A1 ?_
 have hln:=hko.len
 have htn:=Mm (k:=HK (d-1)) (i:=i) oM
 exact Cu (cs:=[zI k,zI f0,zI f1,zI cnt,vk]) Z B6 Z bl Z ⟨vk,.mk k f0 f1 cnt xs,m,l,rfl,dt,dv,⟨zO,zO⟩,dw,(du.up<|As<|B1 153 d).low (B':=w.heap.size) oM,KT oM oM oM oM,(by exact hko.node1 oM oM oM (fun _=>by omega) (Xj hkc oM oM oM))⟩
theorem P5 {p:Prop}(h:p:=by exact hko.snoc oM (by first|rw[if_pos oM]|rw[if_neg oM]) (by assumption)):p:=h
theorem Nl {p:Prop}(h:p:=by intro hpl;first|omega|(simp_all;omega)|simp_all):p:=h
theorem IG (w:World)(gg gs:Nat)(sv:Value)(cs:List UInt8)(n0:Nat)(pp:Value)(dp:Nat)(l0:Int)(pl:Bool)(p:List Fn)(vars:Int)(funcs:Int)(d:Nat)(hgg:gs<gg)(hs:El w.heap gs sv cs n0)(hB0:BX w.heap gg [zP gs,pp,zI l0,.bool pl])(hp:RN [gs,gg] (rP (Kb dp)) w.heap pp p)(_hvars:Bw vars)(_hfuncs:Bw funcs)(hv:0≤vars∧vars+(d:Int)≤1000)(hfu:0≤funcs∧funcs≤(p.length:Int))(hpr:Yd p)(hd:d≤8)(hn:n0+HK d≤1000000000000)(hl:Ml d-1000000≤l0∧l0≤1000)(IH1:∀d',d'<d→GX d')(IH2:1≤d→GC d) :
  Calls Tryz.prog 124 #[zP gg,zI vars,zI funcs,zI (d:Int)] w (fun e w'=>∃(v:Value) (ex:Ex) (n1:Nat) (l1:Int),e=.returned (.agg #[zI ex.kind,zI ex.num,zI ex.pick,zI ex.count,v])∧At [gs,gg] w w'∧El w'.heap gs sv cs n1∧(n0≤n1∧n1≤n0+(HK d))∧BX w'.heap gg [zP gs,pp,zI l1,.bool pl]∧Fr (Fe 5 (Ph 153 d) 153) w.heap.size w'.heap.size w'.heap v ex.kids∧TA ex∧Py p funcs vars pl d l0 l1 ex):=by
 refine Ap [zP gg,zI vars,zI funcs,zI (d:Int)] 117 Tryz.func124 Z Z sM ?_
 have l8:At [gs,gg] w w:=At.refl [gs,gg] w
 have pd:=hs.lt
 have mj:=hB0.lt
 have hst:=OB d
 have hnd:=HL d
 have hnl:=RH (d:=d) oM
 refine cP [3] Z ?_
 have nt:=hB0.lt
 refine Bp (z:=.agg #[zI 0,zI 0,zI 0,zI 0,zN]) Hq Aa fun w1 db ml ih=>?_
 have ii:w.heap.size≤w1.heap.size:=db.size
 have l9:At [gs,gg] w w1:=l8.ext db
 have ij:=hs.ext db
 have ci:=hB0.ext db
 replace ih:BX w1.heap w.heap.size [zI 0,zI 0,zI 0,zI 0,zN]:=ih
 refine Aj<|cP [0,0,0,2,0,0,0,4] Z<|Ad 1 Z<|AU Z Aa<|Ak (p:=zP gg) 2 Na Z Z Aa<|Ah (p:=Ao (zP gg) 2) (.inr Z) (zI l0) AC Z (ci.ldp (i:=2) sM) Aa ?_
 refine BC (l0-((1:Nat):Int)) Z Z (DK sD sD) Aa<|AU Z Aa ?_
 refine Ak (p:=zP gg) 2 Na Z Z Aa (Bl (k:=2) (w:=w1) GT Z Z ⟨rfl,rfl⟩ ci sM Aa fun w3 dc mm cq=>?_)
 replace cq:BX w3.heap gg [zP gs,pp,zI (l0-((1:Nat):Int)),.bool pl]:=cq
 have ik:w1.heap.size≤w3.heap.size:=dc.size
 have da:At [gs,gg] w w3:=l9.trans (dc.sub Xk)
 have id:=ij.chg dc fun c hc=>by have:=A9 hc;omega
 have ie:=ih.chg dc (zB ·)
 refine Aj<|A0<|cP [0,0,0,2,0,0,0,0,0,0,0,0,0,2,4,0] Z<|Ad 1 Z<|AU Z Aa<|Ak (p:=zP gg) 2 Na Z Z Aa<|Ah (p:=Ao (zP gg) 2) (.inr Z) (zI (l0-((1:Nat):Int))) AC Z (cq.ldp (i:=2) sM) Aa ?_
 by_cases la:l0-((1:Nat):Int)<((1:Nat):Int)
 ·refine AE true Z Z (A5 la) Aa<|Ac 11 Z<|Ag Z<|cP [0,0,4,4] Z<|Ad 2 Z<|AB 196 [] [] [zP gg,zI vars] Z Z Qb Aa (D2 _ gg gs sv cs n0 pp dp (l0-((1:Nat):Int)) pl p (vars) oM id cq (hp.chg (B8<|AQ dp) da) _hvars oM oM) ?_
  rintro e7 w7 ⟨x7,n7,rfl,il,mn,nu,mo,mp,im,nv⟩
  refine⟨_,rfl,?_⟩
  have mq:w3.heap.size≤w7.heap.size:=il.size
  have mr:At [gs,gg] w w7:=da.trans il
  have ms:=ie.chg il fun hm=>by have:=DC hm;omega
  refine Bz (vs:=[zI x7.kind,zI x7.num,zI x7.pick,zI x7.count,zN]) B6 Z Z GK ms Z Z Aa fun w9 ig nw io=>?_
  replace io:BX w9.heap w.heap.size [zI x7.kind,zI x7.num,zI x7.pick,zI x7.count,zN]:=io
  have mt:w7.heap.size≤w9.heap.size:=ig.size
  have mu:At [gs,gg] w w9:=mr.fresh ig (fun _ h=>zE h)
  have ip:=mn.chg ig fun c hc=>by have:=A9 hc;omega
  have iq:=mo.chg ig (zB ·)
  exact Aj<|A1<|An<|Cu (cs:=[zI x7.kind,zI x7.num,zI x7.pick,zI x7.count,zN]) Z B6 Z io Z ⟨zN,x7,n7,l0-((1:Nat):Int),rfl,mu,ip,⟨zO,zO⟩,iq,(by rw[im];exact Hb _ _ _),mp,(by exact OC.ok (by assumption) d)⟩
 refine AE false Z Z (A6 la) Aa<|Ad 2 Z ?_
 by_cases dd:(d:Int)<((1:Nat):Int)
 ·refine AE true Z Z (A5 dd) (Ae (e:=24) Z Z Z)<|Ac 8 Z<|Ag Z<|cP [0,0,4,4] Z<|Ad 2 Z<|AB 196 [] [] [zP gg,zI vars] Z Z Qb Aa (D2 _ gg gs sv cs n0 pp dp (l0-((1:Nat):Int)) pl p (vars) oM id cq (hp.chg (B8<|AQ dp) da) _hvars oM oM) ?_
  rintro pe o0 ⟨f5,oy,rfl,cr,ir,mv,is,it,de,mw⟩
  refine⟨_,rfl,?_⟩
  have lb:w3.heap.size≤o0.heap.size:=cr.size
  have iu:At [gs,gg] w o0:=da.trans cr
  have iv:=ie.chg cr fun hm=>by have:=DC hm;omega
  refine Bz (vs:=[zI f5.kind,zI f5.num,zI f5.pick,zI f5.count,zN]) B6 Z Z GK iv Z Z Aa fun o4 cc mx ct=>?_
  replace ct:BX o4.heap w.heap.size [zI f5.kind,zI f5.num,zI f5.pick,zI f5.count,zN]:=ct
  have lc:o0.heap.size≤o4.heap.size:=cc.size
  have iw:At [gs,gg] w o4:=iu.fresh cc (fun _ h=>zE h)
  have ix:=ir.chg cc fun c hc=>by have:=A9 hc;omega
  have iy:=is.chg cc (zB ·)
  exact Aj<|A1<|An<|Cu (cs:=[zI f5.kind,zI f5.num,zI f5.pick,zI f5.count,zN]) Z B6 Z ct Z ⟨zN,f5,oy,l0-((1:Nat):Int),rfl,iw,ix,⟨zO,zO⟩,iy,(by rw[de];exact Hb _ _ _),it,(by exact OC.ok (by assumption) d)⟩
 refine AE false Z Z (A6 dd) (Ae (e:=24) Z Z Z)<|Ad 3 Z<|AU Z (Ae (e:=28) Z Z Z)<|Ak (p:=zP gg) 0 Ey Z Z (Ae (e:=28) Z Z Z)<|Ah (p:=Ao (zP gg) 0) (.inr Z) (zP gs) Id Z (cq.ldp (i:=0) sM) (Ae (e:=28) Z Z Z) ?_
 refine AB 122 [] [] [zP gs,zI ((5:Nat):Int)] Z Z Ob (Ae (e:=28) Z Z Z) (CE _ gs _ _ _ ((5:Nat):Int) id oM oM sD) ?_
 rintro pf f0 ⟨ft,oz,rfl,bn,df,my,iz⟩
 refine⟨_,rfl,?_⟩
 have dg:w3.heap.size≤f0.heap.size:=bn.size
 have cd:At [gs,gg] w f0:=da.trans (bn.sub FW)
 have ce:=cq.chg bn (zB ·)
 have cf:=ie.chg bn (zB ·)
 refine Ac 1 Z ?_
 cases dh:ft
 ·refine Ai (by first|rfl|exact zW dh)<|A2<|cP [0,3,4] Z ?_
  have p0:=V2 (d:=d) oM
  have p2:=Yc (d:=d) oM
  have mz:=OB (d-1)
  have n2:=HL (d-1)
  have di:∀(wq:World),(Instr.build 153 #[]).run Tryz.prog wq=.ok (.agg #[zI 0,zI 0,zI 0,zI 0,zN]) wq:=by intro wq;kernel_rfl
  refine Cf (ps:=#[]) (.agg #[zI 0,zI 0,zI 0,zI 0,zN]) (by simp only[List.map_toArray,List.map_cons,List.map_nil]) (fun wq=>di  wq) Aa ?_
  have n3:=ce.lt
  have n4:=cf.lt
  refine Bp (z:=.agg #[zI 0,zI 0,zI 0,zI 0,zN]) Hq Aa fun fy b4 j0 cu=>?_
  have dj:f0.heap.size≤fy.heap.size:=b4.size
  have dk:At [gs,gg] w fy:=cd.ext b4
  have cg:=df.ext b4
  have b1:=ce.ext b4
  have b2:=cf.ext b4
  replace cu:BX fy.heap f0.heap.size [zI 0,zI 0,zI 0,zI 0,zN]:=cu
  refine Bz (vs:=[zI 0,zI 0,zI 0,zI 0,zN]) B6 Z Z GK cu Z Z Aa fun fz b5 j2 cv=>?_
  replace cv:BX fz.heap f0.heap.size [zI 0,zI 0,zI 0,zI 0,zN]:=cv
  have dl:fy.heap.size≤fz.heap.size:=b5.size
  have dm:At [gs,gg] w fz:=dk.fresh b5 (fun _ h=>zE h)
  have dn:=cg.chg b5 fun c hc=>by have:=A9 hc;omega
  have cw:=b1.chg b5 (zB ·)
  have dq:=b2.chg b5 (zB ·)
  refine Aj<|A0<|K4 (S:=Int×Nat) (fun⟨k,m1⟩=>([(0,zP gg),(1,zI vars),(2,zI funcs),(3,zI (d:Int)),(8,zP w.heap.size),(9,zP f0.heap.size)])) (fun⟨k,m1⟩ W=>At [gs,gg] w W∧El W.heap gs sv cs m1∧BX W.heap gg [zP gs,pp,zI (l0-((1:Nat):Int)),.bool pl]∧BX W.heap w.heap.size [zI 0,zI 0,zI 0,zI 0,zN]∧BX W.heap f0.heap.size [zI k,zI 0,zI 0,zI 0,zN]∧(k=3∨k=4∨k=5∨k=6∨k=7∨k=8∨k=9)∧(n0≤m1∧m1≤n0+4)) ?_ ?_
  ·refine cP [0,0,0,2,4] Z<|Ad 1 Z<|AU Z Aa<|Ak (p:=zP gg) 0 Ey Z Z Aa<|Ah (p:=Ao (zP gg) 0) (.inr Z) (zP gs) Id Z (cw.ldp (i:=0) sM) Aa ?_
   refine AB 68 [] [] [zP gs,zI ((12:Nat):Int)] Z Z Ho Aa (AX _ gs _ _ _ ((12:Nat):Int) dn oM oM sD) ?_
   rintro pg f4 ⟨f1,fa,rfl,bo,ad,n5,j3⟩
   refine⟨_,rfl,?_⟩
   have ld:fz.heap.size≤f4.heap.size:=bo.size
   have ab:At [gs,gg] w f4:=dm.trans (bo.sub FW)
   have ae:=cw.chg bo (zB ·)
   have af:=dq.chg bo (zB ·)
   have ag:=cv.chg bo (zB ·)
   refine Aj<|A3<|cP [0,0] Z ?_
   by_cases dr:f1=((0:Nat):Int)
   ·refine Al true Z Z (A5 dr) Aa<|Ac 1 Z<|Ag Z<|Ab _ [0,4] Z<|Ak (p:=zP f0.heap.size) 0 Bh Z Z Aa (Bl (k:=0) (w:=f4) GT Z Z ⟨rfl,rfl⟩ ag sM Aa fun o5 bp n6 cx=>?_)
    replace cx:BX o5.heap f0.heap.size [zI ((7:Nat):Int),zI 0,zI 0,zI 0,zN]:=cx
    have le:f4.heap.size≤o5.heap.size:=bp.size
    have j4:At [gs,gg] w o5:=ab.fresh bp (fun _ h=>zE h)
    have j5:=ad.chg bp fun c hc=>by have:=A9 hc;omega
    have j6:=ae.chg bp (zB ·)
    have j7:=af.chg bp (zB ·)
    exact Aj ⟨(((7:Nat):Int),fa),_,rfl,zR,⟨j4,j5,j6,j7,cx,oM,oM⟩⟩
   refine Al false Z Z (A6 dr) Aa<|Ac 1 Z<|Ai Z<|cP [0,0] Z ?_
   by_cases ds:f1=((1:Nat):Int)
   ·refine Al true Z Z (A5 ds) Aa<|Ac 1 Z<|Ag Z<|Ab _ [0,4] Z<|Ak (p:=zP f0.heap.size) 0 Bh Z Z Aa (Bl (k:=0) (w:=f4) GT Z Z ⟨rfl,rfl⟩ ag sM Aa fun o6 bq n8 cy=>?_)
    replace cy:BX o6.heap f0.heap.size [zI ((9:Nat):Int),zI 0,zI 0,zI 0,zN]:=cy
    have lf:f4.heap.size≤o6.heap.size:=bq.size
    have j8:At [gs,gg] w o6:=ab.fresh bq (fun _ h=>zE h)
    have j9:=ad.chg bq fun c hc=>by have:=A9 hc;omega
    have ja:=ae.chg bq (zB ·)
    have jb:=af.chg bq (zB ·)
    exact Aj ⟨(((9:Nat):Int),fa),_,rfl,zR,⟨j8,j9,ja,jb,cy,oM,oM⟩⟩
   refine Al false Z Z (A6 ds) Aa<|Ac 1 Z<|Ai Z<|cP [0,0] Z ?_
   by_cases dt:f1=((2:Nat):Int)
   ·refine Al true Z Z (A5 dt) Aa<|Ac 1 Z<|Ag Z<|Ab _ [0,4] Z<|Ak (p:=zP f0.heap.size) 0 Bh Z Z Aa (Bl (k:=0) (w:=f4) GT Z Z ⟨rfl,rfl⟩ ag sM Aa fun o7 br n9 cz=>?_)
    replace cz:BX o7.heap f0.heap.size [zI ((8:Nat):Int),zI 0,zI 0,zI 0,zN]:=cz
    have lg:f4.heap.size≤o7.heap.size:=br.size
    have jc:At [gs,gg] w o7:=ab.fresh br (fun _ h=>zE h)
    have jd:=ad.chg br fun c hc=>by have:=A9 hc;omega
    have je:=ae.chg br (zB ·)
    have jf:=af.chg br (zB ·)
    exact Aj ⟨(((8:Nat):Int),fa),_,rfl,zR,⟨jc,jd,je,jf,cz,oM,oM⟩⟩
   refine Al false Z Z (A6 dt) Aa<|Ac 1 Z<|Ai Z<|cP [0,0] Z ?_
   by_cases du:f1=((3:Nat):Int)
   ·refine Al true Z Z (A5 du) Aa<|Ac 1 Z<|Ag Z<|Ab _ [0,4] Z<|Ak (p:=zP f0.heap.size) 0 Bh Z Z Aa (Bl (k:=0) (w:=f4) GT Z Z ⟨rfl,rfl⟩ ag sM Aa fun o8 bs na d0=>?_)
    replace d0:BX o8.heap f0.heap.size [zI ((6:Nat):Int),zI 0,zI 0,zI 0,zN]:=d0
    have lh:f4.heap.size≤o8.heap.size:=bs.size
    have jg:At [gs,gg] w o8:=ab.fresh bs (fun _ h=>zE h)
    have jh:=ad.chg bs fun c hc=>by have:=A9 hc;omega
    have ji:=ae.chg bs (zB ·)
    have jj:=af.chg bs (zB ·)
    exact Aj ⟨(((6:Nat):Int),fa),_,rfl,zR,⟨jg,jh,ji,jj,d0,oM,oM⟩⟩
   refine Al false Z Z (A6 du) Aa<|Ac 1 Z<|Ai Z<|A0<|cP [0,0] Z ?_
   by_cases dv:f1=((4:Nat):Int)
   ·refine Al true Z Z (A5 dv) Aa<|Ac 1 Z<|Ag Z<|A2<|Ag Z<|Ab _ [0,4] Z<|Ak (p:=zP f0.heap.size) 0 Bh Z Z Aa (Bl (k:=0) (w:=f4) GT Z Z ⟨rfl,rfl⟩ ag sM Aa fun o9 bt nb d1=>?_)
    replace d1:BX o9.heap f0.heap.size [zI ((3:Nat):Int),zI 0,zI 0,zI 0,zN]:=d1
    have li:f4.heap.size≤o9.heap.size:=bt.size
    have jk:At [gs,gg] w o9:=ab.fresh bt (fun _ h=>zE h)
    have jl:=ad.chg bt fun c hc=>by have:=A9 hc;omega
    have jm:=ae.chg bt (zB ·)
    have jn:=af.chg bt (zB ·)
    exact Aj ⟨(((3:Nat):Int),fa),_,rfl,zR,⟨jk,jl,jm,jn,d1,oM,oM⟩⟩
   refine Al false Z Z (A6 dv) Aa<|Ac 1 Z<|Ai Z<|Ab _ [0,0] Z ?_
   by_cases dw:f1=((5:Nat):Int)
   ·refine Al true Z Z (A5 dw) Aa<|Ac 1 Z<|Ag Z<|Ab _ [0,4] Z<|Ak (p:=zP f0.heap.size) 0 Bh Z Z Aa (Bl (k:=0) (w:=f4) GT Z Z ⟨rfl,rfl⟩ ag sM Aa fun oa bu nc d2=>?_)
    replace d2:BX oa.heap f0.heap.size [zI ((3:Nat):Int),zI 0,zI 0,zI 0,zN]:=d2
    have lj:f4.heap.size≤oa.heap.size:=bu.size
    have jo:At [gs,gg] w oa:=ab.fresh bu (fun _ h=>zE h)
    have jp:=ad.chg bu fun c hc=>by have:=A9 hc;omega
    have jq:=ae.chg bu (zB ·)
    have jr:=af.chg bu (zB ·)
    exact Aj ⟨(((3:Nat):Int),fa),_,rfl,zR,⟨jo,jp,jq,jr,d2,oM,oM⟩⟩
   refine Al false Z Z (A6 dw) Aa<|Ac 1 Z<|Ai Z<|cP [0,0] Z ?_
   by_cases dx:f1=((6:Nat):Int)
   ·refine Al true Z Z (A5 dx) Aa<|Ac 1 Z<|Ag Z<|Ab _ [0,4] Z<|Ak (p:=zP f0.heap.size) 0 Bh Z Z Aa (Bl (k:=0) (w:=f4) GT Z Z ⟨rfl,rfl⟩ ag sM Aa fun ob bv nd d3=>?_)
    replace d3:BX ob.heap f0.heap.size [zI ((4:Nat):Int),zI 0,zI 0,zI 0,zN]:=d3
    have lk:f4.heap.size≤ob.heap.size:=bv.size
    have js:At [gs,gg] w ob:=ab.fresh bv (fun _ h=>zE h)
    have jt:=ad.chg bv fun c hc=>by have:=A9 hc;omega
    have ju:=ae.chg bv (zB ·)
    have jv:=af.chg bv (zB ·)
    exact Aj ⟨(((4:Nat):Int),fa),_,rfl,zR,⟨js,jt,ju,jv,d3,oM,oM⟩⟩
   refine Al false Z Z (A6 dx) Aa<|Ac 1 Z<|Ai Z<|A0<|cP [0,0] Z ?_
   by_cases dy:f1=((7:Nat):Int)
   ·refine Al true Z Z (A5 dy) Aa<|Ac 1 Z<|Ag Z<|A2<|Ag Z<|Ab _ [0,4] Z<|Ak (p:=zP f0.heap.size) 0 Bh Z Z Aa (Bl (k:=0) (w:=f4) GT Z Z ⟨rfl,rfl⟩ ag sM Aa fun oc bw ne d4=>?_)
    replace d4:BX oc.heap f0.heap.size [zI ((5:Nat):Int),zI 0,zI 0,zI 0,zN]:=d4
    have ll:f4.heap.size≤oc.heap.size:=bw.size
    have jw:At [gs,gg] w oc:=ab.fresh bw (fun _ h=>zE h)
    have jx:=ad.chg bw fun c hc=>by have:=A9 hc;omega
    have jy:=ae.chg bw (zB ·)
    have jz:=af.chg bw (zB ·)
    exact Aj ⟨(((5:Nat):Int),fa),_,rfl,zR,⟨jw,jx,jy,jz,d4,oM,oM⟩⟩
   refine Al false Z Z (A6 dy) Aa<|Ac 1 Z<|Ai Z<|cP [0,0] Z ?_
   by_cases dz:f1=((8:Nat):Int)
   ·refine Al true Z Z (A5 dz) Aa<|Ac 1 Z<|Ag Z<|A2<|Ag Z<|Ab _ [0,4] Z<|Ak (p:=zP f0.heap.size) 0 Bh Z Z Aa (Bl (k:=0) (w:=f4) GT Z Z ⟨rfl,rfl⟩ ag sM Aa fun od bx nf d5=>?_)
    replace d5:BX od.heap f0.heap.size [zI ((5:Nat):Int),zI 0,zI 0,zI 0,zN]:=d5
    have lm:f4.heap.size≤od.heap.size:=bx.size
    have k0:At [gs,gg] w od:=ab.fresh bx (fun _ h=>zE h)
    have k1:=ad.chg bx fun c hc=>by have:=A9 hc;omega
    have k3:=ae.chg bx (zB ·)
    have k4:=af.chg bx (zB ·)
    exact Aj ⟨(((5:Nat):Int),fa),_,rfl,zR,⟨k0,k1,k3,k4,d5,oM,oM⟩⟩
   refine Al false Z Z (A6 dz) Aa<|Ac 1 Z<|Ai Z<|Ab _ [0,0] Z ?_
   by_cases e0:f1=((9:Nat):Int)
   ·refine Al true Z Z (A5 e0) Aa<|Ac 1 Z<|Ag Z<|Ab _ [0,4] Z<|Ak (p:=zP f0.heap.size) 0 Bh Z Z Aa (Bl (k:=0) (w:=f4) GT Z Z ⟨rfl,rfl⟩ ag sM Aa fun oe bz ng d6=>?_)
    replace d6:BX oe.heap f0.heap.size [zI ((5:Nat):Int),zI 0,zI 0,zI 0,zN]:=d6
    have ln:f4.heap.size≤oe.heap.size:=bz.size
    have k5:At [gs,gg] w oe:=ab.fresh bz (fun _ h=>zE h)
    have k6:=ad.chg bz fun c hc=>by have:=A9 hc;omega
    have k7:=ae.chg bz (zB ·)
    have k8:=af.chg bz (zB ·)
    exact Aj ⟨(((5:Nat):Int),fa),_,rfl,zR,⟨k5,k6,k7,k8,d6,oM,oM⟩⟩
   refine Al false Z Z (A6 e0) Aa<|Ac 1 Z<|Ai Z<|cP [0,0,0,0,4,4] Z<|Ad 4 Z<|AB 197 [] [] [zP gg,zI vars,zI funcs,zI (d:Int)] Z Z Zm Aa (IH2 oM _ gg gs sv cs fa pp dp (l0-((1:Nat):Int)) pl p (vars) (funcs) oM ad ae (hp.chg (B8<|AQ dp) ab) _hvars _hfuncs oM oM hpr oM oM oM) ?_
   rintro ph og ⟨nz,f6,p4,p5,rfl,ch,k9,nh,ka,e1,kb,ni⟩
   refine⟨_,rfl,?_⟩
   have lp:f4.heap.size≤og.heap.size:=ch.size
   have kc:At [gs,gg] w og:=ab.trans ch
   have kd:=af.chg ch fun hm=>by have:=DC hm;omega
   have ke:=ag.chg ch fun hm=>by have:=DC hm;omega
   refine Bz (vs:=[zI f6.kind,zI f6.num,zI f6.pick,zI f6.count,nz]) B6 Z Z (by intro u hu;simp only[List.mem_cons,List.not_mem_nil,or_false]at hu;rcases hu with rfl|rfl|rfl|rfl|rfl <;> first|exact⟨rfl,rfl⟩|exact Br e1.isSlS) kd Z Z Aa fun oh b6 nj d7=>?_
   replace d7:BX oh.heap w.heap.size [zI f6.kind,zI f6.num,zI f6.pick,zI f6.count,nz]:=d7
   have lq:og.heap.size≤oh.heap.size:=b6.size
   have kf:At [gs,gg] w oh:=kc.fresh b6 (fun _ h=>zE h)
   have kg:=k9.chg b6 fun c hc=>by have:=A9 hc;omega
   have kh:=ka.chg b6 (zB ·)
   have nk:=ke.chg b6 (zB ·)
   have ki:=e1.chg (As<|B1 153 d) b6 fun _ h=>zA h
   exact Aj<|A1<|AF<|An<|Cu (cs:=[zI f6.kind,zI f6.num,zI f6.pick,zI f6.count,nz]) Z B6 Z d7 Z ⟨nz,f6,p4,p5,rfl,kf,kg,⟨zO,zO⟩,kh,(ki.up<|As<|B1 153 d).low (B':=w.heap.size) oM,kb,(by exact Py.up1 (by assumption))⟩
  clear l8 ml db ii l9 mm dc ik da id ie bn dg cd ce cf j0 b4 dj dk b1 b2 j2 b5 dl dm dn cw dq
  rintro⟨k,m1⟩ ρ30 fu ⟨b7,ah,a2,a6,a1,hkk,nx⟩
  have e2:w.heap.size≤fu.heap.size:=b7.size
  have nl:=a2.lt
  have nm:=a6.lt
  have nn:=a1.lt
  refine A0<|K4 (S:=Int) (fun(k2:Int)=>([(0,zP gg),(1,zI vars),(2,zI funcs),(3,zI (d:Int)),(8,zP w.heap.size),(9,zP f0.heap.size)])) (fun(k2:Int) (W:World)=>At [gs,gg] w W∧El W.heap gs sv cs m1∧BX W.heap gg [zP gs,pp,zI (l0-((1:Nat):Int)),.bool pl]∧BX W.heap w.heap.size [zI 0,zI 0,zI 0,zI 0,zN]∧BX W.heap f0.heap.size [zI k2,zI 0,zI 0,zI 0,zN]∧(k2=3∨k2=4∨k2=5∨k2=6∨k2=7∨k2=8∨k2=9)∧(pl=true→k2≠6∧k2≠8)) ?_ ?_
  ·refine cP [0,0,0,2,0,0,2,0,0,0,2,0,0,0] Z<|Ad 1 Z<|AU Z Aa<|Ak (p:=zP gg) 3 UL Z Z Aa<|Ah (p:=Ao (zP gg) 3) (.inr Z) (.bool (true && pl)) cB Z (a2.ldp (i:=3) sM) Aa<|Ad 1 Z ?_
   cases no:(true && pl)
   ·exact Ac 9 Z<|Ai Z<|A2 ⟨k,_,rfl,zR,⟨b7,ah,a2,a6,a1,oM,Nl⟩⟩
   refine Ak (p:=zP f0.heap.size) 0 Bh Z Z (Ae (e:=77) Z Z Z)<|Ah (p:=Ao (zP f0.heap.size) 0) (.inr Z) (zI k) AC Z (a1.ldp (i:=0) sM) (Ae (e:=77) Z Z Z) ?_
   by_cases e3:k=((8:Nat):Int)
   ·refine Al true Z Z (A5 e3) (Ae (e:=77) Z Z Z)<|Ac 6 Z<|Ag Z<|Ab _ [0,4] Z<|Ak (p:=zP f0.heap.size) 0 Bh Z Z Aa (Bl (k:=0) (w:=fu) GT Z Z ⟨rfl,rfl⟩ a1 sM Aa fun oi c0 np d8=>?_)
    replace d8:BX oi.heap f0.heap.size [zI ((5:Nat):Int),zI 0,zI 0,zI 0,zN]:=d8
    have lr:fu.heap.size≤oi.heap.size:=c0.size
    have kj:At [gs,gg] w oi:=b7.fresh c0 (fun _ h=>zE h)
    have e4:=ah.chg c0 fun c hc=>by have:=A9 hc;omega
    have e5:=a2.chg c0 (zB ·)
    have e6:=a6.chg c0 (zB ·)
    exact Aj ⟨((5:Nat):Int),_,rfl,zR,⟨kj,e4,e5,e6,d8,oM,Nl⟩⟩
   refine Al false Z Z (A6 e3) (Ae (e:=77) Z Z Z)<|Ad 1 Z<|Ak (p:=zP f0.heap.size) 0 Bh Z Z (Ae (e:=81) Z Z Z)<|Ah (p:=Ao (zP f0.heap.size) 0) (.inr Z) (zI k) AC Z (a1.ldp (i:=0) sM) (Ae (e:=81) Z Z Z) ?_
   by_cases cj:k=((6:Nat):Int)
   ·refine Al true Z Z (A5 cj) (Ae (e:=81) Z Z Z)<|Ac 2 Z<|Ag Z<|Ab _ [0,4] Z<|Ak (p:=zP f0.heap.size) 0 Bh Z Z Aa (Bl (k:=0) (w:=fu) GT Z Z ⟨rfl,rfl⟩ a1 sM Aa fun fe au ls c1=>?_)
    replace c1:BX fe.heap f0.heap.size [zI ((5:Nat):Int),zI 0,zI 0,zI 0,zN]:=c1
    have kk:fu.heap.size≤fe.heap.size:=au.size
    have e8:At [gs,gg] w fe:=b7.fresh au (fun _ h=>zE h)
    have e9:=ah.chg au fun c hc=>by have:=A9 hc;omega
    have ea:=a2.chg au (zB ·)
    have eb:=a6.chg au (zB ·)
    exact Aj ⟨((5:Nat):Int),_,rfl,zR,⟨e8,e9,ea,eb,c1,oM,Nl⟩⟩
   exact Al false Z Z (A6 cj) (Ae (e:=81) Z Z Z)<|Ac 2 Z<|Ai Z<|A2 ⟨k,_,rfl,zR,⟨b7,ah,a2,a6,a1,oM,Nl⟩⟩
  clear a1 a6 a2 ah b7 e2
  rintro k2 ρ96 fs ⟨ec,c2,ay,az,b0,nq,nr⟩
  have lu:w.heap.size≤fs.heap.size:=ec.size
  have lv:=ay.lt
  have lw:=az.lt
  have lx:=b0.lt
  refine A0<|cQ Z<|A3 ?_
  have hknb:=aV nq
  refine AY (S:=Nat×Int×Nat×Value×List Ex) (fun⟨i,l,m,vk,xs⟩=>([(10,zI (i:Int)),(0,zP gg),(1,zI vars),(2,zI funcs),(3,zI (d:Int)),(8,zP w.heap.size),(9,zP f0.heap.size)])) (fun⟨i,l,m,vk,xs⟩ W=>At [gs,gg] w W∧Fr (Fe 5 (Ph 153 d) 153) fs.heap.size W.heap.size W.heap vk xs∧El W.heap gs sv cs m∧BX W.heap gg [zP gs,pp,zI l,.bool pl]∧BX W.heap w.heap.size [zI 0,zI 0,zI 0,zI 0,zN]∧BX W.heap f0.heap.size [zI k2,zI 0,zI 0,zI 0,vk]∧(i:Int)≤kn k2∧Pz p funcs vars pl k2 d (l0-1) l xs i∧(n0≤m∧m≤n0+8+Qw i (HK (d-1)))∧gg<fs.heap.size∧w.heap.size<fs.heap.size∧f0.heap.size<fs.heap.size∧fs.heap.size≤W.heap.size) (fun⟨i,l,m,vk,xs⟩=>(kn k2).toNat-i) (0,l0-((1:Nat):Int),m1,zN,([]:List Ex)) ⟨rfl,rfl,rfl,rfl,rfl,rfl,rfl,trivial⟩ ⟨ec,(Hb _ 0 _).up<|As<|B1 153 d,c2,ay,az,b0,oM,(by exact Pz.nil ..),(by exact⟨zO,by show _≤n0+8+0;omega⟩),oM,oM,oM,oM⟩ ?_
  clear b0 az ay c2
  rintro⟨i,l,m,vk,xs⟩ ρ114 f2 ⟨a7,a3,ac,a4,a5,a0,ny,hko,hmb,kl,km,ko,kp⟩
  have kq:w.heap.size≤f2.heap.size:=a7.size
  have ly:=a4.lt
  have lz:=a5.lt
  have m0:=a0.lt
  refine A0<|cP [0,0,2,0,0] Z<|Ad 1 Z<|Ak (p:=zP f0.heap.size) 0 Bh Z Z Aa<|Ah (p:=Ao (zP f0.heap.size) 0) (.inr Z) (zI k2) AC Z (a0.ldp (i:=0) sM) Aa<|Az 198 [] [] [zI k2] Z Z VB Aa (zI<|kn k2) (fun wq=>cH wq _ oM) ?_
  by_cases ck:(i:Int)<kn k2
  ·refine AE true Z Z (A5 ck) Aa<|Aj<|Ag Z<|A2<|A0<|A3<|cP [0,0] Z<|Ac 2 Z<|A0<|cP [0,2,0,0,0,0,0] Z<|Ak (p:=zP f0.heap.size) 0 Bh Z Z Aa<|Ah (p:=Ao (zP f0.heap.size) 0) (.inr Z) (zI k2) AC Z (a0.ldp (i:=0) sM) Aa ?_
   by_cases cl:k2=((9:Nat):Int)
   ·refine Al true Z Z (A5 cl) Aa<|Ad 2 Z ?_
    by_cases cm:(i:Int)=((1:Nat):Int)
    ·refine Al true Z Z (A5 cm) (Ae (e:=99) Z Z Z)<|Ac 1 Z<|Ag Z<|Ab _ [0,0,0] Z<|Ad 1 Z ?_
     refine AN (vars+((1:Nat):Int)) Z Z (DK sD sD) Aa<|Ac 1 Z ?_
     letI:JR:=TB [gs,gg]
     refine Jx.AP _ [0,1,0,0,0,0,0,3,3,4,0,4] mixed (by kernel_rfl) ?_
     have htn:=Mm (k:=HK (d-1)) (i:=i+1) oM
     have hts:Qw (i+1) (HK (d-1))=Qw i (HK (d-1))+HK (d-1):=rfl
     have hti:=NN (k:=Ml (d-1)) (i:=i) oM oM
     have hlo:=hko.lo
     have hln:=hko.len
     refine Jx.Ak (p:=zP f0.heap.size) 4 Ba Z Z Aa<|Jx.aH (p:=Ao (zP f0.heap.size) 4) vk Be Z (fun wj hj=>(BX.chg (w:=f2.drew) (F:=[gs,gg]) a0 hj fun hm=>by have:=DC hm;omega).ldp (i:=4) sM) Aa<|Jx.VY (zP gg) Z Aa<|Jx.VY (zI (vars+((1:Nat):Int))) Z Aa<|Jx.VY (zI funcs) Z Aa<|Jx.VY (zI (d:Int)) Z Aa<|Jx.j1<|BC ((d-1:Nat):Int) Z Z (by rw[DK oM oM];omega) Aa<|Aj ?_
     refine Jx.Au 124 [] [] [zP gg,zI (vars+((1:Nat):Int)),zI funcs,zI ((d-1:Nat):Int)] Z Z Oc Aa (IH1 (d-1) oM _ gg gs sv cs m pp dp l pl p (vars+((1:Nat):Int)) (funcs) oM ac a4 (hp.chg (B8<|AQ dp) a7.drew) oM _hfuncs oM oM hpr oM oM oM) ?_
     rintro p6 ff ⟨oj,f7,ol,om,rfl,a8,ed,m2,ee,c3,ef,m3⟩
     refine⟨_,rfl,a8,?_⟩
     replace c3:=c3.low (B':=f2.heap.size)<|A7 _
     replace a8:=a8.of_drew
     have kr:f2.heap.size≤ff.heap.size:=a8.size
     have eg:At [gs,gg] w ff:=a7.trans a8
     have eh:=a3.chg (As<|B1 153 d) a8 fun c hc=>by have:=DC hc;omega
     have ei:=a5.chg a8 fun hm=>by have:=DC hm;omega
     have ej:=a0.chg a8 fun hm=>by have:=DC hm;omega
     refine Jx.TW Z (Gu (cs:=[zI f7.kind,zI f7.num,zI f7.pick,zI f7.count,oj]) (y:=f7) (B:=f2.heap.size) (B1 153 d) D5 Bn Z (by decide) Z (Qs.mk1 oM ef c3) oM Aa fun on fg ai m4 ek=>?_)
     have ks:ff.heap.size≤fg.heap.size:=ai.size
     have el:At [gs,gg] w fg:=eg.ext ai
     have b8:=eh.ext (As<|B1 153 d) ai
     have b9:=ed.ext ai
     have ba:=ee.ext ai
     have bb:=ei.ext ai
     have bc:=ej.ext ai
     refine JA (v:=vk) (a:=on) (B1 153 d) D5 Bn Z (by decide) Z Z b8 oM ek oM oM oM (by unfold maxLen;omega) Aa fun fv fb p7 al av cn=>?_
     have kt:fg.heap.size≤fb.heap.size:=al.size
     have em:At [gs,gg] w fb:=el.fresh al (fun c hc=>by have:=av _ hc;omega)
     have en:=b9.chg al fun c hc=>by have:=av _ hc;omega
     have eo:=ba.chg al fun hm=>by have:=av _ hm;omega
     have ep:=bb.chg al fun hm=>by have:=av _ hm;omega
     have eq:=bc.chg al fun hm=>by have:=av _ hm;omega
     refine Ak (p:=zP f0.heap.size) 4 Ba Z Z Aa (Bl (k:=4) (w:=fb) T7 Z Z (Br cn.isSlS) eq sM Aa fun fh am m5 c4=>?_)
     replace c4:BX fh.heap f0.heap.size [zI k2,zI 0,zI 0,zI 0,fv]:=c4
     have ku:fb.heap.size≤fh.heap.size:=am.size
     have er:At [gs,gg] w fh:=em.fresh am (fun _ h=>zE h)
     have es:=en.chg am fun c hc=>by have:=A9 hc;omega
     have et:=eo.chg am (zB ·)
     have eu:=ep.chg am (zB ·)
     have ev:=cn.chg (As<|B1 153 d) am fun _ h=>zA h
     exact Aj<|Ab _ [0,0,0] Z<|Ad 1 Z<|AN ((i+1:Nat):Int) Z Z (Bg oM oM) Aa<|Ac 1 Z ⟨(i+1,om,ol,fv,xs++[f7]),_,rfl,zR,⟨er,ev.up<|As<|B1 153 d,es,et,eu,c4,oM,P5,oM,oM,oM,oM,oM⟩,zD⟩
    refine Al false Z Z (A6 cm) (Ae (e:=99) Z Z Z)<|Ac 1 Z<|Ai Z<|A2 ?_
    letI:JR:=TB [gs,gg]
    refine Jx.AP _ [0,1,0,0,0,0,0,3,3,4,0,4] mixed (by kernel_rfl) ?_
    have htn:=Mm (k:=HK (d-1)) (i:=i+1) oM
    have hts:Qw (i+1) (HK (d-1))=Qw i (HK (d-1))+HK (d-1):=rfl
    have hti:=NN (k:=Ml (d-1)) (i:=i) oM oM
    have hlo:=hko.lo
    have hln:=hko.len
    refine Jx.Ak (p:=zP f0.heap.size) 4 Ba Z Z Aa<|Jx.aH (p:=Ao (zP f0.heap.size) 4) vk Be Z (fun wj hj=>(BX.chg (w:=f2.drew) (F:=[gs,gg]) a0 hj fun hm=>by have:=DC hm;omega).ldp (i:=4) sM) Aa<|Jx.VY (zP gg) Z Aa<|Jx.VY (zI vars) Z Aa<|Jx.VY (zI funcs) Z Aa<|Jx.VY (zI (d:Int)) Z Aa<|Jx.j1<|BC ((d-1:Nat):Int) Z Z (by rw[DK oM oM];omega) Aa<|Aj ?_
    refine Jx.Au 124 [] [] [zP gg,zI vars,zI funcs,zI ((d-1:Nat):Int)] Z Z Oc Aa (IH1 (d-1) oM _ gg gs sv cs m pp dp l pl p (vars) (funcs) oM ac a4 (hp.chg (B8<|AQ dp) a7.drew) _hvars _hfuncs oM oM hpr oM oM oM) ?_
    rintro p8 fi ⟨oo,f8,op,oq,rfl,a9,ew,m6,ey,c5,ez,m7⟩
    refine⟨_,rfl,a9,?_⟩
    replace c5:=c5.low (B':=f2.heap.size)<|A7 _
    replace a9:=a9.of_drew
    have kv:f2.heap.size≤fi.heap.size:=a9.size
    have g0:At [gs,gg] w fi:=a7.trans a9
    have g1:=a3.chg (As<|B1 153 d) a9 fun c hc=>by have:=DC hc;omega
    have g2:=a5.chg a9 fun hm=>by have:=DC hm;omega
    have g3:=a0.chg a9 fun hm=>by have:=DC hm;omega
    refine Jx.TW Z (Gu (cs:=[zI f8.kind,zI f8.num,zI f8.pick,zI f8.count,oo]) (y:=f8) (B:=f2.heap.size) (B1 153 d) D5 Bn Z (by decide) Z (Qs.mk1 oM ez c5) oM Aa fun os fj aj m8 g4=>?_)
    have kw:fi.heap.size≤fj.heap.size:=aj.size
    have g5:At [gs,gg] w fj:=g0.ext aj
    have bd:=g1.ext (As<|B1 153 d) aj
    have be:=ew.ext aj
    have bf:=ey.ext aj
    have bg:=g2.ext aj
    have bh:=g3.ext aj
    refine JA (v:=vk) (a:=os) (B1 153 d) D5 Bn Z (by decide) Z Z bd oM g4 oM oM oM (by unfold maxLen;omega) Aa fun fw fc p9 an aw co=>?_
    have kx:fj.heap.size≤fc.heap.size:=an.size
    have g6:At [gs,gg] w fc:=g5.fresh an (fun c hc=>by have:=aw _ hc;omega)
    have g7:=be.chg an fun c hc=>by have:=aw _ hc;omega
    have g8:=bf.chg an fun hm=>by have:=aw _ hm;omega
    have g9:=bg.chg an fun hm=>by have:=aw _ hm;omega
    have ga:=bh.chg an fun hm=>by have:=aw _ hm;omega
    refine Ak (p:=zP f0.heap.size) 4 Ba Z Z Aa (Bl (k:=4) (w:=fc) T7 Z Z (Br co.isSlS) ga sM Aa fun fk ao m9 c6=>?_)
    replace c6:BX fk.heap f0.heap.size [zI k2,zI 0,zI 0,zI 0,fw]:=c6
    have ky:fc.heap.size≤fk.heap.size:=ao.size
    have gb:At [gs,gg] w fk:=g6.fresh ao (fun _ h=>zE h)
    have gc:=g7.chg ao fun c hc=>by have:=A9 hc;omega
    have gd:=g8.chg ao (zB ·)
    have ge:=g9.chg ao (zB ·)
    have gf:=co.chg (As<|B1 153 d) ao fun _ h=>zA h
    exact Aj<|Ab _ [0,0,0] Z<|Ad 1 Z<|AN ((i+1:Nat):Int) Z Z (Bg oM oM) Aa<|Ac 1 Z ⟨(i+1,oq,op,fw,xs++[f8]),_,rfl,zR,⟨gb,gf.up<|As<|B1 153 d,gc,gd,ge,c6,oM,P5,oM,oM,oM,oM,oM⟩,zD⟩
   refine Al false Z Z (A6 cl) Aa<|Ac 4 Z<|Ai Z<|A2 ?_
   letI:JR:=TB [gs,gg]
   refine Jx.AP _ [0,1,0,0,0,0,0,3,3,4,0,4] mixed (by kernel_rfl) ?_
   have htn:=Mm (k:=HK (d-1)) (i:=i+1) oM
   have hts:Qw (i+1) (HK (d-1))=Qw i (HK (d-1))+HK (d-1):=rfl
   have hti:=NN (k:=Ml (d-1)) (i:=i) oM oM
   have hlo:=hko.lo
   have hln:=hko.len
   refine Jx.Ak (p:=zP f0.heap.size) 4 Ba Z Z Aa<|Jx.aH (p:=Ao (zP f0.heap.size) 4) vk Be Z (fun wj hj=>(BX.chg (w:=f2.drew) (F:=[gs,gg]) a0 hj fun hm=>by have:=DC hm;omega).ldp (i:=4) sM) Aa<|Jx.VY (zP gg) Z Aa<|Jx.VY (zI vars) Z Aa<|Jx.VY (zI funcs) Z Aa<|Jx.VY (zI (d:Int)) Z Aa<|Jx.j1<|BC ((d-1:Nat):Int) Z Z (by rw[DK oM oM];omega) Aa<|Aj ?_
   refine Jx.Au 124 [] [] [zP gg,zI vars,zI funcs,zI ((d-1:Nat):Int)] Z Z Oc Aa (IH1 (d-1) oM _ gg gs sv cs m pp dp l pl p (vars) (funcs) oM ac a4 (hp.chg (B8<|AQ dp) a7.drew) _hvars _hfuncs oM oM hpr oM oM oM) ?_
   rintro pa fl ⟨ot,f9,ou,ov,rfl,aa,gh,ma,gi,c7,gj,mb⟩
   refine⟨_,rfl,aa,?_⟩
   replace c7:=c7.low (B':=f2.heap.size)<|A7 _
   replace aa:=aa.of_drew
   have kz:f2.heap.size≤fl.heap.size:=aa.size
   have gk:At [gs,gg] w fl:=a7.trans aa
   have gl:=a3.chg (As<|B1 153 d) aa fun c hc=>by have:=DC hc;omega
   have gm:=a5.chg aa fun hm=>by have:=DC hm;omega
   have gn:=a0.chg aa fun hm=>by have:=DC hm;omega
   refine Jx.TW Z (Gu (cs:=[zI f9.kind,zI f9.num,zI f9.pick,zI f9.count,ot]) (y:=f9) (B:=f2.heap.size) (B1 153 d) D5 Bn Z (by decide) Z (Qs.mk1 oM gj c7) oM Aa fun ow fm ak mc go=>?_)
   have l2:fl.heap.size≤fm.heap.size:=ak.size
   have gp:At [gs,gg] w fm:=gk.ext ak
   have bi:=gl.ext (As<|B1 153 d) ak
   have bj:=gh.ext ak
   have bk:=gi.ext ak
   have bl:=gm.ext ak
   have bm:=gn.ext ak
   refine JA (v:=vk) (a:=ow) (B1 153 d) D5 Bn Z (by decide) Z Z bi oM go oM oM oM (by unfold maxLen;omega) Aa fun fx fd pb ap ax cp=>?_
   have l3:fm.heap.size≤fd.heap.size:=ap.size
   have gq:At [gs,gg] w fd:=gp.fresh ap (fun c hc=>by have:=ax _ hc;omega)
   have gr:=bj.chg ap fun c hc=>by have:=ax _ hc;omega
   have gt:=bk.chg ap fun hm=>by have:=ax _ hm;omega
   have gu:=bl.chg ap fun hm=>by have:=ax _ hm;omega
   have gv:=bm.chg ap fun hm=>by have:=ax _ hm;omega
   refine Ak (p:=zP f0.heap.size) 4 Ba Z Z Aa (Bl (k:=4) (w:=fd) T7 Z Z (Br cp.isSlS) gv sM Aa fun fo aq md c8=>?_)
   replace c8:BX fo.heap f0.heap.size [zI k2,zI 0,zI 0,zI 0,fx]:=c8
   have l4:fd.heap.size≤fo.heap.size:=aq.size
   have gw:At [gs,gg] w fo:=gq.fresh aq (fun _ h=>zE h)
   have gx:=gr.chg aq fun c hc=>by have:=A9 hc;omega
   have gy:=gt.chg aq (zB ·)
   have gz:=gu.chg aq (zB ·)
   have i0:=cp.chg (As<|B1 153 d) aq fun _ h=>zA h
   exact Aj<|Ab _ [0,0,0] Z<|Ad 1 Z<|AN ((i+1:Nat):Int) Z Z (Bg oM oM) Aa<|Ac 1 Z ⟨(i+1,ov,ou,fx,xs++[f9]),_,rfl,zR,⟨gw,i0.up<|As<|B1 153 d,gx,gy,gz,c8,oM,P5,oM,oM,oM,oM,oM⟩,zD⟩
  refine AE false Z Z (A6 ck) Aa<|Aj<|Ai Z<|A4<|Aw<|Aw<|Aq<|cP [2,4] Z<|AM (p:=zP f0.heap.size) (.inr Z) [zI k2,zI 0,zI 0,zI 0,vk] B6 Z (fun pi ns=>LD.of_box<|BX.ext (w:=f2) a0 ns) Z Aa (Bz (vs:=[zI k2,zI 0,zI 0,zI 0,vk]) B6 Z Z (by intro u hu;simp only[List.mem_cons,List.not_mem_nil,or_false]at hu;rcases hu with rfl|rfl|rfl|rfl|rfl <;> first|exact⟨rfl,rfl⟩|exact Br a3.isSlS) a5 Z Z Aa fun fp ar me c9=>?_)
  replace c9:BX fp.heap w.heap.size [zI k2,zI 0,zI 0,zI 0,vk]:=c9
  have l5:f2.heap.size≤fp.heap.size:=ar.size
  have i1:At [gs,gg] w fp:=a7.fresh ar (fun _ h=>zE h)
  have i2:=a3.chg (As<|B1 153 d) ar fun _ h=>zA h
  have i3:=ac.chg ar fun c hc=>by have:=A9 hc;omega
  have i4:=a4.chg ar (zB ·)
  have mf:=a0.chg ar (zB ·)
  refine Aj<|A1 ?_
  have hln:=hko.len
  have htn:=Mm (k:=HK (d-1)) (i:=i) oM
  exact Cu (cs:=[zI k2,zI 0,zI 0,zI 0,vk]) Z B6 Z c9 Z ⟨vk,.mk k2 0 0 0 xs,m,l,rfl,i1,i3,⟨zO,zO⟩,i4,(i2.up<|As<|B1 153 d).low (B':=w.heap.size) oM,KT oM oM oM oM,(by exact hko.node oM oM oM nr (Xi oM oM))⟩
 refine Ag (by first|rfl|exact zW dh)<|cP [0,0,4,4] Z<|Ad 2 Z<|AB 196 [] [] [zP gg,zI vars] Z Z Qb Aa (D2 _ gg gs sv cs oz pp dp (l0-((1:Nat):Int)) pl p (vars) oM df ce (hp.chg (B8<|AQ dp) cd) _hvars oM oM) ?_
 rintro pc fq ⟨f3,ox,rfl,ca,i5,mg,i6,i7,d9,mh⟩
 refine⟨_,rfl,?_⟩
 have l6:f0.heap.size≤fq.heap.size:=ca.size
 have i8:At [gs,gg] w fq:=cd.trans ca
 have i9:=cf.chg ca fun hm=>by have:=DC hm;omega
 refine Bz (vs:=[zI f3.kind,zI f3.num,zI f3.pick,zI f3.count,zN]) B6 Z Z GK i9 Z Z Aa fun fr b3 mi cb=>?_
 replace cb:BX fr.heap w.heap.size [zI f3.kind,zI f3.num,zI f3.pick,zI f3.count,zN]:=cb
 have l7:fq.heap.size≤fr.heap.size:=b3.size
 have ia:At [gs,gg] w fr:=i8.fresh b3 (fun _ h=>zE h)
 have ib:=i5.chg b3 fun c hc=>by have:=A9 hc;omega
 have ic:=i6.chg b3 (zB ·)
 exact Aj<|A1<|An<|Cu (cs:=[zI f3.kind,zI f3.num,zI f3.pick,zI f3.count,zN]) Z B6 Z cb Z ⟨zN,f3,ox,l0-((1:Nat):Int),rfl,ia,ib,⟨zO,zO⟩,ic,(by rw[d9];exact Hb _ _ _),i7,(by exact OC.ok (by assumption) d)⟩
theorem XY:∀d,GX d∧(1≤d→GC d):=by
  intro d
  induction d using Nat.strongRecOn with
  |_ d ih =>
    have hc:1≤d→GC d:=fun h1 w gg gs sv cs n0 pp dp l0 pl p vars funcs hgg hs hB0 hp hv' hf' hv hfu hpr hd hn hl=>IF w gg gs sv cs n0 pp dp l0 pl p vars funcs d hgg hs hB0 hp hv' hf' hv hfu hpr hd hn hl (ih (d-1) zO).1
    exact⟨fun w gg gs sv cs n0 pp dp l0 pl p vars funcs hgg hs hB0 hp hv' hf' hv hfu hpr hd hn hl=>IG w gg gs sv cs n0 pp dp l0 pl p vars funcs d hgg hs hB0 hp hv' hf' hv hfu hpr hd hn hl (fun d' h=>(ih d' h).1) hc,hc⟩
theorem XZ (d:Nat):GX d:=(XY d).1
theorem II (w:World)(g:Nat)(sv:Value)(cs:List UInt8)(n0:Nat)(vl:Value)(us:List Value)(hs:El w.heap g sv cs n0)(a7:n0+2≤1000000000000)(hl:∀w',At [g] w w'→Rd (B2 rV) w'.heap vl us)(hus:∀u∈us,∃s,u=Value.string s)(hul:1≤us.length∧us.length≤1000)  :
  Calls Tryz.prog 123 #[zP g,vl] w (fun e w'=>∃(x0:ByteArray) (n1:Nat),e=.returned (.string x0)∧At [g] w w'∧El w'.heap g sv cs n1∧(n0≤n1∧n1≤n0+2)∧(Value.string x0∈us)):=by
 refine Ap [zP g,vl] 12 Tryz.func123 Z Z sM ?_
 have a1:At [g] w w:=At.refl [g] w
 have aa:=(hl _ a1).lenle
 have ab:=hs.lt
 refine cQ Z<|cP [0,0,0,0,4,0,2,0] Z<|Ad 3 Z<|AO (v:=vl) XP Z (hl _ a1).isSl Aa<|AB 68 [] [] [zP g,zI (us.length:Int)] Z Z Ho Aa (AX _ g _ _ _ (us.length:Int) hs oM oM oM) ?_
 rintro e1 w1 ⟨a9,n1,rfl,a3,a5,a8,a4⟩
 refine⟨_,rfl,?_⟩
 have a6:w.heap.size≤w1.heap.size:=a3.size
 have a2:At [g] w w1:=a1.trans a3
 refine AA (v:=vl) ((a9).toNat) XP cX Z Z (hl _ a2).isSl oM sD Aa ?_
 obtain⟨sx2,a0⟩:=hus (us.getD ((a9).toNat) undef) (KU sD)
 refine Ah (p:=Ay vl ((a9).toNat) 1) (.inr Z) (.string sx2) ON Z (by rw[← a0];exact(Rd.getV (hl _ a2) sD).1) Aa ?_
 have hsm:Value.string sx2∈us:=a0 ▸ KU sD
 exact Ac 1 Z<|A1<|Af [4] Z (.string sx2) Z ⟨sx2,n1,rfl,a2,a5,⟨zO,zO⟩,hsm⟩
theorem LF (w:World)(n:Int)(_hn:Bw n)(hk:0≤n∧n<10) :
  Calls Tryz.prog 150 #[zI n] w (fun e w'=>∃s,e=.returned (.string s)∧AG w w'∧s=J8 n.toNat):=by
 refine Ap [zI n] 20 Tryz.func150 Z Z sM ?_
 have a2:AG w w:=AG.refl w
 refine cQ Z<|A0<|cP [0,0] Z<|Ad 1 Z ?_
 by_cases a0:n<((10:Nat):Int)
 ·refine AE true Z Z (A5 a0) Aa<|Aj<|Ag Z<|cP [0,0,0,3,2,0] Z<|Ad 1 Z ?_
  refine AN (((48:Nat):Int)+n) Z Z (DK sD sD) Aa<|Jy (IntKind.u8.wrap (((48:Nat):Int)+n)) u2 u5 Z Z Aa ?_
  refine BK (u:=.int .u8<|IntKind.u8.wrap (((48:Nat):Int)+n)) (B:=w.heap.size) BE QP cW Z Z (On (w.heap.size) (w.heap.size) _ ⟨rfl,rfl⟩) (A7 _) Aa fun v2 w2 a1 a6 a3=>?_
  have a4:=a1.size
  have a5:=a2.trans a1
  exact TZ QP u5 u9 Z a3 Aa<|Ac 1 Z<|A1<|An<|Af [2] Z (.string (⟨#[UInt8.ofNat (IntKind.u8.wrap (((48:Nat):Int)+n)).toNat]⟩:ByteArray)) Z ⟨(⟨#[UInt8.ofNat (IntKind.u8.wrap (((48:Nat):Int)+n)).toNat]⟩:ByteArray),rfl,a5,(by exact Xm hk.1 hk.2)⟩
 exact absurd hk.2 a0
theorem LG (w:World)(g:Nat)(sv:Value)(cs:List UInt8)(n0:Nat)(funcs:Int)(nodes:Int)(plain:Bool)(hs:El w.heap g sv cs n0)(j0:n0+(150000*funcs.toNat)≤1000000000000)(_hfuncs:Bw funcs)(_hnodes:Bw nodes)(hfn:0≤funcs∧funcs≤9)(hnd:1≤nodes∧nodes≤30) :
  Calls Tryz.prog 67 #[zP g,zI funcs,zI nodes,.bool plain] w (fun e w'=>∃(v:Value) (p:List Fn) (n1:Nat),e=.returned (.agg #[v])∧At [g] w w'∧El w'.heap g sv cs n1∧(n0≤n1∧n1≤n0+(150000*funcs.toNat))∧Fr (Fe 3 (QK 153 6) 49) w.heap.size w'.heap.size w'.heap v p∧LL p plain∧Dn p∧(p.length:Int)=funcs):=by
 refine Ap [zP g,zI funcs,zI nodes,.bool plain] 65 Tryz.func67 Z Z sM ?_
 have ga:At [g] w w:=At.refl [g] w
 have j7:=hs.lt
 have j1:=aW
 have j2:=aX
 refine cP [3] Z (Bp (z:=.agg #[zN]) QJ Aa fun w1 dr i1 ds=>?_)
 have dt:w.heap.size≤w1.heap.size:=dr.size
 have gb:At [g] w w1:=ga.ext dr
 have du:=hs.ext dr
 replace ds:BX w1.heap w.heap.size [zN]:=ds
 refine Aj<|cP [0,3,4] Z ?_
 have dv:∀(wq:World),(Instr.build 26 #[]).run Tryz.prog wq=.ok (.agg #[zN]) wq:=by intro wq;kernel_rfl
 refine Cf (ps:=#[]) (.agg #[zN]) (by simp only[List.map_toArray,List.map_cons,List.map_nil]) (fun wq=>dv  wq) Aa ?_
 have j3:=ds.lt
 refine Bp (z:=.agg #[zN]) QJ Aa fun w3 cb i2 dw=>?_
 have dx:w1.heap.size≤w3.heap.size:=cb.size
 have gc:At [g] w w3:=gb.ext cb
 have dy:=du.ext cb
 have cc:=ds.ext cb
 replace dw:BX w3.heap w1.heap.size [zN]:=dw
 refine Bz (vs:=[zN]) CI Z Z (by intro u hu;simp only[List.mem_cons,List.not_mem_nil,or_false]at hu;rcases hu with rfl <;> first|exact⟨rfl,rfl⟩) dw Z Z Aa fun w5 cd i3 dz=>?_
 replace dz:BX w5.heap w1.heap.size [zN]:=dz
 have i4:w3.heap.size≤w5.heap.size:=cd.size
 have i5:At [g] w w5:=gc.fresh cd (fun _ h=>zE h)
 have gd:=dy.chg cd fun c hc=>by have:=A9 hc;omega
 have ge:=cc.chg cd (zB ·)
 refine Aj<|A0<|cQ Z<|A3 ?_
 refine AY (S:=Nat×Value×List Fn×Nat) (fun⟨k,vp,ps,m⟩=>([(10,zI (k:Int)),(0,zP g),(1,zI funcs),(2,zI nodes),(3,.bool plain),(8,zP w.heap.size),(9,zP w1.heap.size)])) (fun⟨k,vp,ps,m⟩ W=>At [g] w W∧Fr (Fe 3 (QK 153 6) 49) w5.heap.size W.heap.size W.heap vp ps∧El W.heap g sv cs m∧BX W.heap w.heap.size [zN]∧BX W.heap w1.heap.size [vp]∧(k:Int)≤funcs∧LL ps plain∧Dn ps∧ps.length=k∧(n0≤m∧m≤n0+150000*k)∧(g<w5.heap.size∧w.heap.size≤w5.heap.size)∧w.heap.size<w5.heap.size∧w1.heap.size<w5.heap.size∧w5.heap.size≤W.heap.size) (fun⟨k,vp,ps,m⟩=>funcs.toNat-k) (0,zN,([]:List Fn),n0) ⟨rfl,rfl,rfl,rfl,rfl,rfl,rfl,trivial⟩ ⟨i5,(Hb _ 0 _).up<|As<|AW 153 6,gd,ge,dz,oM,(by exact LL.nil _),Dn.nil,(by rfl),oM,oM,oM,oM,oM⟩ ?_
 clear ga i1 dr dt gb i2 cb dx gc i3 cd gd ge
 rintro⟨k,vp,ps,m⟩ ρ10 f4 ⟨bx,ab,an,ac,a1,hkf,fb,hdn,hpk,hmk,hgb,i6,i7,gf⟩
 have gg:w.heap.size≤f4.heap.size:=bx.size
 have i8:=ac.lt
 have i9:=a1.lt
 refine A0<|cP [0,0,0] Z<|Ad 2 Z ?_
 by_cases ce:(k:Int)<funcs
 ·refine AE true Z Z (A5 ce) Aa<|Aj<|Ag Z<|A2<|A0<|A3<|cP [0,3,4,0,3,0,0,4,0,0,3,4] Z<|Ad 1 Z (Xn (ys:=[.string<|⟨#[102]⟩,.string<|⟨#[103]⟩,.string<|⟨#[115,116,101,112]⟩,.string<|⟨#[104,50]⟩]) BE XP cX Z Z Z Z Z Z (Ye ⟨rfl,rfl⟩ ⟨rfl,rfl⟩ ⟨rfl,rfl⟩ ⟨rfl,rfl⟩) Aa fun fq fh ao e0 bz=>?_)
  have cf:f4.heap.size≤fh.heap.size:=ao.size
  have cg:At [g] w fh:=bx.ext ao
  have a5:=ab.ext (As<|AW 153 6) ao
  have a6:=an.ext ao
  have a7:=ac.ext ao
  have a8:=a1.ext ao
  refine AB 123 [] [] [zP g,fq] Z Z Z6 Aa (II _ g _ _ _ fq _ a6 oM (fun w9 h9=>(bz.chg oV h9 fun c hc=>by have:=A9 hc;omega).rdV1) (by intro u hu;simp only[List.mem_cons,List.not_mem_nil,or_false]at hu;rcases hu with rfl|rfl|rfl|rfl <;> exact⟨_,rfl⟩) sM) ?_
  rintro j8 fi ⟨f1,j9,rfl,ap,e1,ia,c0⟩
  refine⟨_,rfl,?_⟩
  have ch:fh.heap.size≤fi.heap.size:=ap.size
  have ci:At [g] w fi:=cg.trans ap
  have cj:=a5.chg (As<|AW 153 6) ap fun _ h=>zA h
  have ck:=a7.chg ap (zB ·)
  have cl:=a8.chg ap (zB ·)
  have cm:=bz.chg (oV) ap fun _ h=>zA h
  have hfo:=RM c0
  refine Ad 1 Z<|Au 150 [] [] [zI (k:Int)] Z Z Zc Aa (LF _ (k:Int) oM oM) ?_
  rintro ja fj ⟨st21,rfl,ad,rfl⟩
  refine⟨_,rfl,ad,?_⟩
  have cn:fi.heap.size≤fj.heap.size:=ad.size
  have co:At [g] w fj:=ci.ext ad
  have az:=cj.ext (As<|AW 153 6) ad
  have bo:=e1.ext ad
  have b0:=ck.ext ad
  have b1:=cl.ext ad
  have b2:=cm.ext (oV) ad
  refine X4 (a:=f1) (b:=J8 k) Z Z (by have:=Qy _ hfo;have:=RJ k;omega) Aa<|Ad 1 Z<|AB 68 [] [] [zP g,zI ((3:Nat):Int)] Z Z Ho Aa (AX _ g _ _ _ ((3:Nat):Int) bo oM oM sD) ?_
  rintro jb f2 ⟨f0,jc,rfl,aq,e2,ib,e3⟩
  refine⟨_,rfl,?_⟩
  have cp:fj.heap.size≤f2.heap.size:=aq.size
  have cq:At [g] w f2:=co.trans aq
  have cr:=az.chg (As<|AW 153 6) aq fun _ h=>zA h
  have c1:=b0.chg aq (zB ·)
  have c2:=b1.chg aq (zB ·)
  have ct:=b2.chg (oV) aq fun _ h=>zA h
  refine AN (((1:Nat):Int)+f0) Z Z (DK sD sD) Aa ?_
  have cu:∀(wq:World),(Instr.build 49 #[(0,.string (f1++J8 k)),(1,zI (((1:Nat):Int)+f0))]).run Tryz.prog wq=.ok (.agg #[.string (f1++J8 k),zI (((1:Nat):Int)+f0),zN]) wq:=by intro wq;kernel_rfl
  refine Cf (ps:=#[(0,.string (f1++J8 k)),(1,zI (((1:Nat):Int)+f0))]) (.agg #[.string (f1++J8 k),zI (((1:Nat):Int)+f0),zN]) (by simp only[List.map_toArray,List.map_cons,List.map_nil];rfl) (fun wq=>cu  wq) Aa ?_
  have ic:=c1.lt
  have id:=c2.lt
  refine Bp (z:=.agg #[.string ByteArray.empty,zI 0,zN]) XQ Aa fun fc ag e4 c3=>?_
  have cv:f2.heap.size≤fc.heap.size:=ag.size
  have cw:At [g] w fc:=cq.ext ag
  have b3:=cr.ext (As<|AW 153 6) ag
  have bp:=e2.ext ag
  have b4:=c1.ext ag
  have b5:=c2.ext ag
  have b6:=ct.ext (oV) ag
  replace c3:BX fc.heap f2.heap.size [.string ByteArray.empty,zI 0,zN]:=c3
  refine Bz (vs:=[.string (f1++J8 k),zI (((1:Nat):Int)+f0),zN]) Ln Z Z (by intro u hu;simp only[List.mem_cons,List.not_mem_nil,or_false]at hu;rcases hu with rfl|rfl|rfl <;> first|exact⟨rfl,rfl⟩) c3 Z Z Aa fun fd ah e5 c4=>?_
  replace c4:BX fd.heap f2.heap.size [.string (f1++J8 k),zI (((1:Nat):Int)+f0),zN]:=c4
  have cx:fc.heap.size≤fd.heap.size:=ah.size
  have cy:At [g] w fd:=cw.fresh ah (fun _ h=>zE h)
  have cz:=b3.chg (As<|AW 153 6) ah fun _ h=>zA h
  have d0:=bp.chg ah fun c hc=>by have:=A9 hc;omega
  have d1:=b4.chg ah (zB ·)
  have d2:=b5.chg ah (zB ·)
  have d3:=b6.chg (oV) ah fun _ h=>zA h
  refine Aj<|cP [0,4,0,0] Z<|Ad 1 Z<|AB 68 [] [] [zP g,zI ((3:Nat):Int)] Z Z Ho Aa (AX _ g _ _ _ ((3:Nat):Int) d0 oM oM sD) ?_
  rintro jd fe ⟨f5,je,rfl,ai,e6,ie,e7⟩
  refine⟨_,rfl,?_⟩
  have d4:fd.heap.size≤fe.heap.size:=ai.size
  have d5:At [g] w fe:=cy.trans ai
  have d6:=cz.chg (As<|AW 153 6) ai fun _ h=>zA h
  have d7:=d1.chg ai (zB ·)
  have d8:=d2.chg ai (zB ·)
  have d9:=d3.chg (oV) ai fun _ h=>zA h
  have da:=c4.chg ai (zB ·)
  refine AN (((1:Nat):Int)+f5) Z Z (DK sD sD) Aa<|Ac 1 Z ?_
  refine A0<|K4 (S:=Int×Nat) (fun⟨o,m1⟩=>([(12,zI o),(0,zP g),(1,zI funcs),(2,zI nodes),(3,.bool plain),(8,zP w.heap.size),(9,zP w1.heap.size),(10,zI (k:Int)),(11,zP f2.heap.size)])) (fun⟨o,m1⟩ W=>At [g] w W∧Fr (Fe 3 (QK 153 6) 49) w5.heap.size f4.heap.size W.heap vp ps∧El W.heap g sv cs m1∧BX W.heap w.heap.size [zN]∧BX W.heap w1.heap.size [vp]∧BX W.heap f2.heap.size [.string (f1++J8 k),zI (((1:Nat):Int)+f0),zN]∧(1≤o∧o≤3)∧(n0≤m1∧m1≤n0+150000*k+8)∧f4.heap.size≤fe.heap.size∧(g<w5.heap.size∧w.heap.size≤w5.heap.size)∧f4.heap.size≤f2.heap.size∧w5.heap.size≤W.heap.size) ?_ ?_
  ·refine cP [0,4] Z<|Ad 1 Z<|AB 122 [] [] [zP g,zI ((2:Nat):Int)] Z Z Ob Aa (CE _ g _ _ _ ((2:Nat):Int) e6 oM oM sD) ?_
   rintro jf fr ⟨fa,fs,rfl,ar,db,ig,e8⟩
   refine⟨_,rfl,?_⟩
   have gh:fe.heap.size≤fr.heap.size:=ar.size
   have dc:At [g] w fr:=d5.trans ar
   have dd:=d6.chg (As<|AW 153 6) ar fun _ h=>zA h
   have de:=d7.chg ar (zB ·)
   have df:=d8.chg ar (zB ·)
   have ih:=d9.chg (oV) ar fun _ h=>zA h
   have c5:=da.chg ar (zB ·)
   refine Aj ?_
   cases dg:fa
   ·exact Ai (by first|rfl|exact zW dg)<|A2 ⟨(((1:Nat):Int)+f5,fs),_,rfl,zR,⟨dc,dd,db,de,df,c5,oM,oM,oM,oM,oM,oM⟩⟩
   exact Ag (by first|rfl|exact zW dg)<|Ab _ [0,2,0] Z<|Ak (p:=zP f2.heap.size) 1 Cr Z Z Aa<|Ah (p:=Ao (zP f2.heap.size) 1) (.inr Z) (zI (((1:Nat):Int)+f0)) AC Z (c5.ldp (i:=1) sM) Aa<|Ac 1 Z ⟨(((1:Nat):Int)+f0,fs),_,rfl,zR,⟨dc,dd,db,de,df,c5,oM,oM,oM,oM,oM,oM⟩⟩
  clear a1 ac an ab bz e0 ao cf cg a5 a6 a7 a8 ap ch ci cj ck cl cm ad cn co az b0 b1 b2 aq cp cq cr c1 c2 ct e4 ag cv cw b3 b4 b5 b6 e5 ah cx cy cz d0 d1 d2 d3 ai d4 d5 d6 d7 d8 d9 da
  rintro⟨o,m1⟩ ρ43 f6 ⟨dh,bh,bi,au,av,aw,j4,j5,huw,hgb,huf,gi⟩
  have gj:w.heap.size≤f6.heap.size:=dh.size
  have ii:=au.lt
  have ij:=av.lt
  have ik:=aw.lt
  refine A0<|cQ Z<|A3 ?_
  refine AY (S:=Nat×Value×List Ex×Nat) (fun⟨i,vo,xs,m2⟩=>([(13,zI (i:Int)),(0,zP g),(1,zI funcs),(2,zI nodes),(3,.bool plain),(8,zP w.heap.size),(9,zP w1.heap.size),(10,zI (k:Int)),(11,zP f2.heap.size),(12,zI o)])) (fun⟨i,vo,xs,m2⟩ W=>At [g] w W∧Fr (Fe 5 (Ph 153 6) 153) f6.heap.size W.heap.size W.heap vo xs∧Fr (Fe 3 (QK 153 6) 49) w5.heap.size f4.heap.size W.heap vp ps∧El W.heap g sv cs m2∧BX W.heap w.heap.size [zN]∧BX W.heap w1.heap.size [vp]∧BX W.heap f2.heap.size [.string (f1++J8 k),zI (((1:Nat):Int)+f0),vo]∧(i:Int)≤o∧RK ps (((1:Nat):Int)+f0) plain xs i∧(n0≤m2∧m2≤n0+150000*k+8+47770*i)∧f4.heap.size≤f6.heap.size∧(g<w5.heap.size∧w.heap.size≤w5.heap.size)∧f4.heap.size≤f2.heap.size∧w.heap.size<f6.heap.size∧w1.heap.size<f6.heap.size∧f2.heap.size<f6.heap.size∧f6.heap.size≤W.heap.size∧w5.heap.size≤W.heap.size) (fun⟨i,vo,xs,m2⟩=>o.toNat-i) (0,zN,([]:List Ex),m1) ⟨rfl,rfl,rfl,rfl,rfl,rfl,rfl,rfl,rfl,rfl,trivial⟩ ⟨dh,(Hb _ 0 _).up<|As<|B1 153 6,bh,bi,au,av,aw,oM,(by exact RK.nil _ _ _),oM,oM,oM,oM,oM,oM,oM,oM,oM⟩ ?_
  clear aw av au bi bh
  rintro⟨i,vo,xs,m2⟩ ρ58 f3 ⟨c6,bj,bk,bl,ae,a2,a3,hio,hff,j6,huw,hgb,huf,gk,gl,gm,gn,go⟩
  have gp:w.heap.size≤f3.heap.size:=c6.size
  have il:=ae.lt
  have im:=a2.lt
  have io:=a3.lt
  refine A0<|cP [0,0,0] Z<|Ad 2 Z ?_
  by_cases di:(i:Int)<o
  ·refine AE true Z Z (A5 di) Aa<|Aj<|Ag Z<|A2<|A0<|A3<|cP [0,0,0,0,3,0] Z<|Ad 3 Z ?_
   have dj:∀(wq:World),(Instr.build 151 #[(0,zP g),(1,zP w1.heap.size),(2,zI nodes),(3,.bool plain)]).run Tryz.prog wq=.ok (.agg #[zP g,zP w1.heap.size,zI nodes,.bool plain]) wq:=by intro wq;kernel_rfl
   refine Cf (ps:=#[(0,zP g),(1,zP w1.heap.size),(2,zI nodes),(3,.bool plain)]) (.agg #[zP g,zP w1.heap.size,zI nodes,.bool plain]) (by simp only[List.map_toArray,List.map_cons,List.map_nil];rfl) (fun wq=>dj  wq) Aa ?_
   have ip:=ae.lt
   have iq:=a2.lt
   have ir:=a3.lt
   refine Bx (cs:=#[zP g,zP w1.heap.size,zI nodes,.bool plain]) Z Aa fun f7 aj is c7=>?_
   have gq:f3.heap.size≤f7.heap.size:=aj.size
   have e9:At [g] w f7:=c6.ext aj
   have b7:=bj.ext (As<|B1 153 6) aj
   have a9:=bk.ext (As<|AW 153 6) aj
   have b8:=bl.ext aj
   have b9:=ae.ext aj
   have aa:=a2.ext aj
   have a0:=a3.ext aj
   replace c7:BX f7.heap f3.heap.size [zP g,zP w1.heap.size,zI nodes,.bool plain]:=c7
   refine Ac 1 Z ?_
   letI:JR:=TB [g,f3.heap.size]
   refine Jx.AP _ [0,1,0,0,1,0,3,3,4,0,4] mixed (by kernel_rfl)<|Jx.Ak (p:=zP f2.heap.size) 2 BU Z Z Aa<|Jx.aH (p:=Ao (zP f2.heap.size) 2) vo Be Z (fun wj hj=>(BX.chg (w:=f7.drew) (F:=[g,f3.heap.size]) a0 hj fun hm=>by have:=DC hm;omega).ldp (i:=2) sM) Aa<|Jx.VY (zP f3.heap.size) Z Aa<|Jx.Ak (p:=zP f2.heap.size) 1 Cr Z Z Aa ?_
   refine Jx.aH (p:=Ao (zP f2.heap.size) 1) (zI (((1:Nat):Int)+f0)) AC Z (fun wj hj=>(BX.chg (w:=f7.drew) (F:=[g,f3.heap.size]) a0 hj fun hm=>by have:=DC hm;omega).ldp (i:=1) sM) Aa<|Jx.VY (zI (k:Int)) Z Aa ?_
   refine Jx.Au 124 [] [] [zP f3.heap.size,zI (((1:Nat):Int)+f0),zI (k:Int),zI ((5:Nat):Int)] Z Z Oc Aa (XZ 5 _ f3.heap.size g sv cs m2 (zP w1.heap.size) 6 nodes plain ps (((1:Nat):Int)+f0) (k:Int) oM b8 c7 (RN.box aa (RP.mk'<|RN.of_frF2 a9 fun b hb=>by have:=DC hb;omega) fun hb=>by have:=DC hb;omega) oM oM oM oM fb.gpr oM oM oM) ?_
   rintro jg fk ⟨fv,f9,fw,jh,rfl,a4,ea,it,eb,c8,ec,iu⟩
   refine⟨_,rfl,a4,?_⟩
   replace c8:=c8.low (B':=f7.heap.size)<|A7 _
   replace a4:=a4.of_drew
   have gr:f7.heap.size≤fk.heap.size:=a4.size
   have ed:At [g] w fk:=e9.new2 a4 (List.mem_singleton.2 Z) oM
   have ee:=b7.chg (As<|B1 153 6) a4 fun c hc=>by have:=DC hc;omega
   have ef:=a9.chg (As<|AW 153 6) a4 fun c hc=>by have:=DC hc;omega
   have eg:=b9.chg a4 fun hm=>by have:=DC hm;omega
   have eh:=aa.chg a4 fun hm=>by have:=DC hm;omega
   have ei:=a0.chg a4 fun hm=>by have:=DC hm;omega
   refine Jx.TW Z (Gu (cs:=[zI f9.kind,zI f9.num,zI f9.pick,zI f9.count,fv]) (y:=f9) (B:=f7.heap.size) (B1 153 6) D5 Bn Z (by decide) Z (Qs.mk1 (d:=6) oM ec c8) oM Aa fun fx fl af iv ej=>?_)
   have gs:fk.heap.size≤fl.heap.size:=af.size
   have ek:At [g] w fl:=ed.ext af
   have bq:=ee.ext (As<|B1 153 6) af
   have br:=ef.ext (As<|AW 153 6) af
   have bs:=ea.ext af
   have bt:=eg.ext af
   have bu:=eh.ext af
   have bv:=ei.ext af
   have bw:=eb.ext af
   refine JA (v:=vo) (a:=fx) (B1 153 6) D5 Bn Z (by decide) Z Z bq oM ej oM oM (by have:=hff.len;omega) (by have:=hff.len;unfold maxLen;omega) Aa fun ft ff ji ak ax dk=>?_
   have gt:fl.heap.size≤ff.heap.size:=ak.size
   have el:At [g] w ff:=ek.fresh ak (fun c hc=>by have:=ax _ hc;omega)
   have em:=br.chg (As<|AW 153 6) ak fun c hc=>by have:=ax _ hc;omega
   have en:=bs.chg ak fun c hc=>by have:=ax _ hc;omega
   have eo:=bt.chg ak fun hm=>by have:=ax _ hm;omega
   have ep:=bu.chg ak fun hm=>by have:=ax _ hm;omega
   have eq:=bv.chg ak fun hm=>by have:=ax _ hm;omega
   have er:=bw.chg ak fun hm=>by have:=ax _ hm;omega
   refine Ak (p:=zP f2.heap.size) 2 BU Z Z Aa (Bl (k:=2) (w:=ff) T7 Z Z (Br dk.isSlS) eq sM Aa fun fm al iw c9=>?_)
   replace c9:BX fm.heap f2.heap.size [.string (f1++J8 k),zI (((1:Nat):Int)+f0),ft]:=c9
   have gu:ff.heap.size≤fm.heap.size:=al.size
   have es:At [g] w fm:=el.fresh al (fun _ h=>zE h)
   have et:=em.chg (As<|AW 153 6) al fun _ h=>zA h
   have eu:=en.chg al fun c hc=>by have:=A9 hc;omega
   have ev:=eo.chg al (zB ·)
   have ew:=ep.chg al (zB ·)
   have ix:=er.chg al (zB ·)
   have ex:=dk.chg (As<|B1 153 6) al fun _ h=>zA h
   exact Aj<|Ab _ [0,0,0] Z<|Ad 1 Z<|AN ((i+1:Nat):Int) Z Z (Bg oM oM) Aa<|Ac 1 Z ⟨(i+1,ft,xs++[f9],fw),_,rfl,zR,⟨es,ex.up<|As<|B1 153 6,et,eu,ev,ew,c9,oM,(by exact hff.snoc (funcs:=(k:Int)) (d:=5) (l0:=nodes) oM oM oM (by assumption)),oM,oM,oM,oM,oM,oM,oM,oM,oM⟩,zD⟩
  refine AE false Z Z (A6 di) Aa<|Aj<|Ai Z<|A4<|Aw<|Aw<|Aq<|Ab _ [0,2,2,3,4,0,4] Z<|Ak (p:=zP w1.heap.size) 0 BA Z Z Aa<|Ah (p:=Ao (zP w1.heap.size) 0) (.inr Z) vp C9 Z (a2.ldp (i:=0) sM) Aa<|AM (p:=zP f2.heap.size) (.inr Z) [.string (f1++J8 k),zI (((1:Nat):Int)+f0),vo] Ln Z (fun fy ey=>LD.of_box<|BX.ext (w:=f3) a3 ey) Z Aa ?_
  refine Gu (cs:=[.string (f1++J8 k),zI (((1:Nat):Int)+f0),vo]) (y:=Fn.mk (f1++J8 k) (((1:Nat):Int)+f0) xs) (B:=f6.heap.size) (AW 153 6) GF CC Z (by decide) Z (Qs.mkF (x:=⟨f1++J8 k,((1:Nat):Int)+f0,xs⟩) (Xl (a:=((1:Nat):Int)+f0) oM) bj) oM Aa fun fz fo ay iy ez=>?_
  have gv:f3.heap.size≤fo.heap.size:=ay.size
  have g0:At [g] w fo:=c6.ext ay
  have ba:=bk.ext (As<|AW 153 6) ay
  have bb:=bl.ext ay
  have bc:=ae.ext ay
  have bd:=a2.ext ay
  have be:=a3.ext ay
  refine JA (v:=vp) (a:=fz) (AW 153 6) GF CC Z (by decide) Z Z ba oM ez oM oM oM (by unfold maxLen;omega) Aa fun fu fg jj bf bm dl=>?_
  have gw:fo.heap.size≤fg.heap.size:=bf.size
  have g1:At [g] w fg:=g0.fresh bf (fun c hc=>by have:=bm _ hc;omega)
  have g2:=bb.chg bf fun c hc=>by have:=bm _ hc;omega
  have g3:=bc.chg bf fun hm=>by have:=bm _ hm;omega
  have g4:=bd.chg bf fun hm=>by have:=bm _ hm;omega
  have g5:=be.chg bf fun hm=>by have:=bm _ hm;omega
  refine Ak (p:=zP w1.heap.size) 0 BA Z Z Aa (Bl (k:=0) (w:=fg) cD Z Z (Br dl.isSlS) g4 sM Aa fun fp bg iz ca=>?_)
  replace ca:BX fp.heap w1.heap.size [fu]:=ca
  have gx:fg.heap.size≤fp.heap.size:=bg.size
  have g6:At [g] w fp:=g1.fresh bg (fun _ h=>zE h)
  have g7:=g2.chg bg fun c hc=>by have:=A9 hc;omega
  have g8:=g3.chg bg (zB ·)
  have gy:=g5.chg bg (zB ·)
  have dm:=dl.chg (As<|AW 153 6) bg fun _ h=>zA h
  refine Aj<|Ab _ [0,0,0] Z<|Ad 1 Z<|AN ((k+1:Nat):Int) Z Z (Bg oM oM) Aa<|Ac 1 Z ?_
  exact⟨(k+1,fu,ps++[Fn.mk (f1++J8 k) (((1:Nat):Int)+f0) xs],m2),_,rfl,zR,⟨g6,dm.up (As (AW 153 6)),g7,g8,ca,oM,(by exact(RK.fn (i:=i) (f:=⟨f1++J8 k,((1:Nat):Int)+f0,xs⟩) fb hdn oM ⟨by show 1≤(((1:Nat):Int)+f0);omega,by show(((1:Nat):Int)+f0)≤3;omega⟩ ⟨zO,zO⟩ hff hfo (by show _=_++J8 ps.length;rw[hpk])).1),(by exact(RK.fn (i:=i) (f:=⟨f1++J8 k,((1:Nat):Int)+f0,xs⟩) fb hdn oM ⟨by show 1≤(((1:Nat):Int)+f0);omega,by show(((1:Nat):Int)+f0)≤3;omega⟩ ⟨zO,zO⟩ hff hfo (by show _=_++J8 ps.length;rw[hpk])).2),(by rw[List.length_append,hpk];rfl),oM,oM,oM,oM,oM⟩,zD⟩
 refine AE false Z Z (A6 ce) Aa<|Aj<|Ai Z<|A4<|Aw<|Aw<|Aq<|cP [2,4] Z<|AM (p:=zP w1.heap.size) (.inr Z) [vp] CI Z (fun fy ey=>LD.of_box<|BX.ext (w:=f4) a1 ey) Z Aa (Bz (vs:=[vp]) CI Z Z (by intro u hu;simp only[List.mem_cons,List.not_mem_nil,or_false]at hu;rcases hu with rfl <;> first|exact⟨rfl,rfl⟩|exact Br ab.isSlS) ac Z Z Aa fun f8 am gz bn=>?_)
 replace bn:BX f8.heap w.heap.size [vp]:=bn
 have g9:f4.heap.size≤f8.heap.size:=am.size
 have dn:At [g] w f8:=bx.fresh am (fun _ h=>zE h)
 have dp:=ab.chg (As<|AW 153 6) am fun _ h=>zA h
 have dq:=an.chg am fun c hc=>by have:=A9 hc;omega
 have i0:=a1.chg am (zB ·)
 exact Aj<|A1<|Cu (cs:=[vp]) Z CI Z bn Z ⟨vp,ps,m,rfl,dn,dq,⟨zO,zO⟩,(dp.up<|As<|AW 153 6).low (B':=w.heap.size) oM,(by exact⟨fb,hdn,zO⟩)⟩
theorem LH (w:World)(g:Nat)(sv:Value)(cs:List UInt8)(n0:Nat)(hs:El w.heap g sv cs n0)(ax:n0+500000≤1000000000000)  :
  Calls Tryz.prog 97 #[zP g] w (fun e w'=>∃(v:Value) (p:List Fn) (n1:Nat),e=.returned (.agg #[v])∧At [g] w w'∧El w'.heap g sv cs n1∧(n0≤n1∧n1≤n0+500000)∧Fr (Fe 3 (QK 153 6) 49) w.heap.size w'.heap.size w'.heap v p∧(∃pl,LL p pl)∧Dn p∧1≤p.length∧p.length≤3):=by
 refine Ap [zP g] 10 Tryz.func97 Z Z sM ?_
 have ad:At [g] w w:=At.refl [g] w
 have b5:=hs.lt
 refine cP [3] Z (Bp (z:=.agg #[zN]) QJ Aa fun w1 a1 ay a2=>?_)
 have ae:w.heap.size≤w1.heap.size:=a1.size
 have af:At [g] w w1:=ad.ext a1
 have a3:=hs.ext a1
 replace a2:BX w1.heap w.heap.size [zN]:=a2
 refine Aj<|cP [0,0,4,0,0,4,4,4] Z<|Ad 2 Z<|AB 68 [] [] [zP g,zI ((3:Nat):Int)] Z Z Ho Aa (AX _ g _ _ _ ((3:Nat):Int) a3 oM oM sD) ?_
 rintro e2 w2 ⟨b3,n2,rfl,a4,ag,az,a9⟩
 refine⟨_,rfl,?_⟩
 have ah:w1.heap.size≤w2.heap.size:=a4.size
 have ai:At [g] w w2:=af.trans a4
 have aj:=a2.chg a4 (zB ·)
 refine AN (((1:Nat):Int)+b3) Z Z (DK sD sD) Aa<|Ad 1 Z ?_
 refine AB 122 [] [] [zP g,zI ((4:Nat):Int)] Z Z Ob Aa (CE _ g _ _ _ ((4:Nat):Int) ag oM oM sD) ?_
 rintro e4 w4 ⟨b4,n4,rfl,a5,ak,b0,aa⟩
 refine⟨_,rfl,?_⟩
 have al:w2.heap.size≤w4.heap.size:=a5.size
 have am:At [g] w w4:=ai.trans a5
 have an:=aj.chg a5 (zB ·)
 refine AB 67 [] [] [zP g,zI (((1:Nat):Int)+b3),zI ((14:Nat):Int),.bool b4] Z Z bW Aa (LG _ g sv cs n4 (((1:Nat):Int)+b3) ((14:Nat):Int) b4 ak oM oM oM oM oM) ?_
 rintro e6 w6 ⟨v6,p6,n6,rfl,a6,ao,b1,ab,ac⟩
 refine⟨_,rfl,?_⟩
 have ap:w4.heap.size≤w6.heap.size:=a6.size
 have aq:At [g] w w6:=am.trans a6
 have ar:=an.chg a6 (zB ·)
 refine Bz (vs:=[v6]) CI Z Z (by intro u hu;simp only[List.mem_cons,List.not_mem_nil,or_false]at hu;rcases hu with rfl <;> first|exact⟨rfl,rfl⟩|exact Br ab.isSlS) ar Z Z Aa fun w8 a0 b2 a7=>?_
 replace a7:BX w8.heap w.heap.size [v6]:=a7
 have au:w6.heap.size≤w8.heap.size:=a0.size
 have av:At [g] w w8:=aq.fresh a0 (fun _ h=>zE h)
 have aw:=ao.chg a0 fun c hc=>by have:=A9 hc;omega
 have a8:=ab.chg (As<|AW 153 6) a0 fun _ h=>zA h
 exact Aj<|A1<|Cu (cs:=[v6]) Z CI Z a7 Z ⟨v6,p6,n6,rfl,av,aw,⟨zO,zO⟩,(a8.up<|As<|AW 153 6).low (B':=w.heap.size) oM,(by refine⟨⟨_,ac.1⟩,ac.2.1,?_⟩;omega)⟩
theorem Qm {p:Prop}(h:p:=by first|omega|exact⟨zO,ha1.2⟩|exact⟨zO,ha2.2⟩):p:=h
theorem LJ {p:Prop}(h:p:=by simp[Fb,Fd]):p:=h
theorem Kj (w:World)(g:Nat)(sv:Value)(cs:List UInt8)(n0:Nat)(dp:Nat)(vp:Value)(p:List Fn)(hs:El w.heap g sv cs n0)(ax:n0+60≤1000000000000)(hp:RN [g] (rP (Kb dp)) w.heap vp p)(hdr:LL p false)(hlen:1≤p.length∧p.length≤3) :
  Calls Tryz.prog 98 #[zP g,vp] w (fun e w'=>∃(x0:Int) (x1:Int) (v2:Value) (x2:List Int) (v3:Value) (x3:List Int) (n1:Nat),e=.returned (.tuple #[zI x0,zI x1,v2,v3])∧At [g] w w'∧El w'.heap g sv cs n1∧(n0≤n1∧n1≤n0+60)∧(x0=(p.length:Int)-1)∧(0≤x1∧x1<(((p.getD (p.length-1) Fn.zero).outs.length:Nat):Int))∧Fr (Bt rI 2) w.heap.size w'.heap.size w'.heap v2 x2∧((x2.length:Int)=(p.getD (p.length-1) Fn.zero).params∧AV x2=true)∧Fr (Bt rI 2) w.heap.size w'.heap.size w'.heap v3 x3∧((x3.length:Int)=(p.getD (p.length-1) Fn.zero).params∧AV x3=true)):=by
 refine Ap [zP g,vp] 53 Tryz.func98 Z Z sM ?_
 have a2:At [g] w w:=At.refl [g] w
 have b4:=hs.lt
 have hpa:=hdr.par (p.length-1) oM
 have b5:=hdr.outs (p.length-1) oM
 refine cP [0,0,0,0] Z<|Ac 4 Z<|cP [0,0,0,2,0,0,0] Z<|Ad 1 Z<|AL (hp.isPtr) Z Aa ?_
 obtain⟨cs1,al,a1⟩:=RN.at (AQ _) hp
 obtain⟨a0,rfl,a3⟩:=RPr.of al
 have ae:=a3.lenle
 unfold maxLen at ae
 refine AI (p:=vp) 0 BA Z (a1 _ a2) Aa<|Ah (p:=Ao vp 0) (.inr Z) a0 C9 Z ((a1 _ a2).ld (i:=0) LJ) Aa<|AO (v:=a0) GF Z a3.isSl Aa<|BC ((p.length-1:Nat):Int) Z Z (by rw[DK oM oM];omega) Aa<|Ac 1 Z<|cP [0,0,0,0,2,0,0,0,2,0,4,0] Z<|Ad 2 Z<|AL (hp.isPtr) Z Aa<|AI (p:=vp) 0 BA Z (a1 _ a2) Aa<|Ah (p:=Ao vp 0) (.inr Z) a0 C9 Z ((a1 _ a2).ld (i:=0) LJ) Aa<|Ad 1 Z ?_
 refine AA (v:=a0) (p.length-1) GF CC Z Z a3.isSl Z sD Aa ?_
 obtain⟨cs2,am,a4⟩:=a3.get (Av dp) Fn.zero (k:=p.length-1) sD
 obtain⟨ah,rfl,ad⟩:=RF.of am
 have af:=ad.rn.lenle
 unfold maxLen at af
 refine AI (p:=Ay a0 (p.length-1) 3) 2 BU Z (a4 _ a2) Aa<|Ah (p:=Ao (Ay a0 (p.length-1) 3) 2) (.inr Z) ah Be Z ((a4 _ a2).ld (i:=2) LJ) Aa<|AO (v:=ah) D5 Z ad.rn.isSl Aa<|AB 68 [] [] [zP g,zI ((((p.getD (p.length-1) Fn.zero).outs).length:Nat):Int)] Z Z Ho Aa (AX _ g _ _ _ ((((p.getD (p.length-1) Fn.zero).outs).length:Nat):Int) hs oM oM oM) ?_
 rintro e3 w3 ⟨b1,n3,rfl,ai,an,ay,aj⟩
 refine⟨_,rfl,?_⟩
 have ao:w.heap.size≤w3.heap.size:=ai.size
 have a5:At [g] w w3:=a2.trans ai
 refine Ac 1 Z<|cP [0,0,0,0,2,0,0,0,2,4,0] Z<|Ad 2 Z<|AL (hp.isPtr) Z Aa<|AI (p:=vp) 0 BA Z (a1 _ a5) Aa<|Ah (p:=Ao vp 0) (.inr Z) a0 C9 Z ((a1 _ a5).ld (i:=0) LJ) Aa<|Ad 1 Z<|AA (v:=a0) (p.length-1) GF CC Z Z a3.isSl Z sD Aa<|AI (p:=Ay a0 (p.length-1) 3) 1 Cr Z (a4 _ a5) Aa ?_
 refine Ah (p:=Ao (Ay a0 (p.length-1) 3) 1) (.inr Z) (zI<|(p.getD (p.length-1) Fn.zero).params) AC Z ((a4 _ a5).ld (i:=1) LJ) Aa<|AB 69 [] [] [zP g,zI<|(p.getD (p.length-1) Fn.zero).params] Z Z XM Aa (FC _ g _ _ _ ((p.getD (p.length-1) Fn.zero).params) an oM ad.rng oM) ?_
 rintro e4 w4 ⟨a6,b2,n4,rfl,ak,ap,az,a7,a8⟩
 refine⟨_,rfl,?_⟩
 have aq:w3.heap.size≤w4.heap.size:=ak.size
 have a9:At [g] w w4:=a5.trans ak
 have ha1:=a8
 refine Ac 1 Z<|cP [0,0,0,0,2,0,0,0,2,4,0] Z<|Ad 2 Z<|AL (hp.isPtr) Z Aa<|AI (p:=vp) 0 BA Z (a1 _ a9) Aa<|Ah (p:=Ao vp 0) (.inr Z) a0 C9 Z ((a1 _ a9).ld (i:=0) LJ) Aa<|Ad 1 Z<|AA (v:=a0) (p.length-1) GF CC Z Z a3.isSl Z sD Aa<|AI (p:=Ay a0 (p.length-1) 3) 1 Cr Z (a4 _ a9) Aa ?_
 refine Ah (p:=Ao (Ay a0 (p.length-1) 3) 1) (.inr Z) (zI<|(p.getD (p.length-1) Fn.zero).params) AC Z ((a4 _ a9).ld (i:=1) LJ) Aa<|AB 69 [] [] [zP g,zI<|(p.getD (p.length-1) Fn.zero).params] Z Z XM Aa (FC _ g _ _ _ ((p.getD (p.length-1) Fn.zero).params) ap oM ad.rng oM) ?_
 rintro e5 w5 ⟨aa,b3,n5,rfl,ag,ar,b0,ab,ac⟩
 refine⟨_,rfl,?_⟩
 have au:w4.heap.size≤w5.heap.size:=ag.size
 have av:At [g] w w5:=a9.trans ag
 have aw:=a7.chg (o1) ag fun _ h=>zA h
 have ha2:=ac
 exact Ac 1 Z<|cP [0,0,0,0,0,0,0,0] Z<|Ac 8 Z<|A1<|Af [4,5,6,7] Z (.tuple #[zI ((p.length-1:Nat):Int),zI b1,a6,aa]) Z ⟨((p.length-1:Nat):Int),b1,a6,b2,aa,b3,n5,rfl,av,ar,⟨zO,zO⟩,Qm,Qm,(aw.up o1).low (B':=w.heap.size) oM,Qm,(ab.up o1).low (B':=w.heap.size) oM,Qm⟩
theorem M4 (w:World)(vc:Value)(cs:List UInt8)(hcs:Rd (B2 rU) w.heap vc cs)  :
  Calls Tryz.prog 26 #[vc] w (fun e w'=>∃(v va vb:Value) (p:List Fn) (f pk:Int) (a b:List Int),e=.returned (.tuple #[.agg #[v],zI f,zI pk,va,vb])∧AG w w'∧Fr (Fe 3 (QK 153 6) 49) w.heap.size w'.heap.size w'.heap v p∧Fr (Bt rI 2) w.heap.size w'.heap.size w'.heap va a∧Fr (Bt rI 2) w.heap.size w'.heap.size w'.heap vb b∧Yy p f pk a b):=by
 refine Ap [vc] 29 Tryz.func26 Z Z sM ?_
 have b7:AG w w:=AG.refl w
 have c0:=hcs.lenle
 refine cP [3,0,0,0,0] Z (Bp (z:=.agg #[zN]) QJ Aa fun w1 ay bo an=>?_)
 have b8:=ay.size
 have az:=b7.trans ay
 replace an:BX w1.heap w.heap.size [zN]:=an
 refine Ac 4 Z<|cP [0,3,0] Z<|Ad 1 Z<|Au 66 [] [] [vc] Z Z YV Aa (Hx _ _ _<|hcs.ext D7 az) ?_
 rintro e2 w2 ⟨gB2,rfl,al,b0,bp⟩
 refine⟨_,rfl,al,?_⟩
 have b9:=al.size
 have b1:=az.trans al
 have ac:=an.ext al
 refine Ac 1 Z<|cP [0,4,3,4] Z ?_
 have c2:=b0.lt
 refine Ad 1 Z<|AB 97 [] [] [zP gB2] Z Z bY Aa (LH _ gB2 vc cs 0 b0 oM) ?_
 rintro e3 w3 ⟨v3,p3,n3,rfl,ao,ba,bq,bb,bc⟩
 refine⟨_,rfl,?_⟩
 have bd:w2.heap.size≤w3.heap.size:=ao.size
 have be:AG w w3:=ao.below b1 (fun _ h=>zE h) b1.size
 have b2:=ac.chg ao (zB ·)
 obtain⟨⟨pl0,ap⟩,hdn,hpl⟩:=bc
 have c1:=ap.npl
 have br:=b2.lt
 refine Bp (z:=.agg #[zN]) QJ Aa fun w5 ad bs aq=>?_
 have bf:=ad.size
 have b3:=be.trans ad
 have ae:=b2.ext ad
 have af:=ba.ext ad
 have a4:=bb.ext (As<|AW 153 6) ad
 replace aq:BX w5.heap w3.heap.size [zN]:=aq
 refine Bz (vs:=[v3]) CI Z Z (by intro u hu;simp only[List.mem_cons,List.not_mem_nil,or_false]at hu;rcases hu with rfl <;> first|exact⟨rfl,rfl⟩|exact Br a4.isSlS) aq Z Z Aa fun w7 ag bt am=>?_
 replace am:BX w7.heap w3.heap.size [v3]:=am
 have bg:w5.heap.size≤w7.heap.size:=ag.size
 have b4:AG w w7:=ag.below b3 (fun _ h=>zE h) b3.size
 have bh:=ae.chg ag (zB ·)
 have bi:=af.chg ag fun c hc=>by have:=A9 hc;omega
 have ah:=a4.chg (As<|AW 153 6) ag fun _ h=>zA h
 refine Aj<|cP [0,4,0,0,0,0,0,0,0,0,0] Z<|Ad 1 Z<|AB 98 [] [] [zP gB2,zP w3.heap.size] Z Z bZ Aa (Kj _ gB2 _ _ _ 6 (zP w3.heap.size) p3 bi oM (RN.box am (RP.mk'<|RN.of_frF2 ah fun b hb=>by have:=A9 hb;omega) fun hb=>by have:=A9 hb;omega) c1 oM) ?_
 rintro c3 bx ⟨bn,bu,a0,bv,a1,bw,c4,rfl,a3,bj,bk,a5,a6,a7,a8,a9,aa⟩
 refine⟨_,rfl,?_⟩
 have b5:w7.heap.size≤bx.heap.size:=a3.size
 have ai:AG w bx:=a3.below b4 (fun _ h=>zE h) b4.size
 have ar:=bh.chg a3 (zB ·)
 have aj:=ah.chg (As<|AW 153 6) a3 fun _ h=>zA h
 have ak:=am.chg a3 (zB ·)
 have h0:=a5
 have h1:=a6
 have h2:=a8
 have h3:=aa
 have hft:bn.toNat=p3.length-1:=by omega
 refine Ad 1 Z<|AR (vs:=[zI bn,zI bu,a0,a1]) (zI bn) Z Z Aa<|AR (vs:=[zI bn,zI bu,a0,a1]) (zI bu) Z Z Aa<|AR (vs:=[zI bn,zI bu,a0,a1]) a0 Z Z Aa<|AR (vs:=[zI bn,zI bu,a0,a1]) a1 Z Z Aa<|Ac 4 Z<|cP [2,0,0,0,0,4,0,0,0,0] Z<|AM (p:=zP w3.heap.size) (.inr Z) [v3] CI Z (fun c5 bl=>LD.of_box<|BX.ext (w:=bx) ak bl) Z Aa<|Ad 4 Z ?_
 refine Bz (vs:=[v3]) CI Z Z (by intro u hu;simp only[List.mem_cons,List.not_mem_nil,or_false]at hu;rcases hu with rfl <;> first|exact⟨rfl,rfl⟩|exact Br aj.isSlS) ar Z Z Aa fun bz a2 bm ab=>?_
 replace ab:BX bz.heap w.heap.size [v3]:=ab
 have b6:bx.heap.size≤bz.heap.size:=a2.size
 have au:AG w bz:=a2.below ai (fun _ h=>zE h) ai.size
 have av:=aj.chg (As<|AW 153 6) a2 fun _ h=>zA h
 have aw:=a7.chg (o1) a2 fun _ h=>zA h
 have ax:=a9.chg (o1) a2 fun _ h=>zA h
 exact Ac 4 Z<|A1<|JH (t0:=3) (ts:=[4,5,6]) (cs:=[v3]) [zI bn,zI bu,a0,a1] Z CI Z ab Z Z ⟨v3,a0,a1,p3,bn,bu,bv,bw,rfl,au,(av.up<|As<|AW 153 6).low (B':=w.heap.size) oM,(aw.up o1).low (B':=w.heap.size) oM,(ax.up o1).low (B':=w.heap.size) oM,(by exact⟨c1,hdn,zO,h0,by rw[hft];exact h1,by rw[hft];exact h2,by rw[hft];exact h3⟩)⟩
theorem cI {p:List Fn}{f:Int}{a d:Sr}(h:Gg p f≠0):Gg p f=Nu p f a d:=by unfold Nu;rw[if_neg h]
theorem cJ {p:List Fn}{f:Int}{a d:Sr}(h:Gg p f=0)(h2:(decide (((a.length:Nat):Int)=(p.getD f.toNat Fn.zero).params) && AV a)=false):2=Nu p f a d:=by unfold Nu;rw[if_pos h,h2];rfl
theorem cK {p:List Fn}{f:Int}{a d:Sr}(h:Gg p f=0)(h2:(decide (((d.length:Nat):Int)=(p.getD f.toNat Fn.zero).params) && AV d)=false):2=Nu p f a d:=by unfold Nu;rw[if_pos h,h2,Bool.and_false];rfl
theorem cL {p:List Fn}{f:Int}{a d:Sr}(h:Gg p f=0)(h1:(decide (((a.length:Nat):Int)=(p.getD f.toNat Fn.zero).params) && AV a)=true)(h2:(decide (((d.length:Nat):Int)=(p.getD f.toNat Fn.zero).params) && AV d)=true):Gg p f=Nu p f a d:=by unfold Nu;rw[if_pos h,h1,h2];exact h
theorem Nm {p:Prop}(h:p:=by first|exact cI oM|exact cJ oM (H3 (by assumption))|exact cK oM (H3 (by assumption))|exact cL oM (Fz (by assumption)) (Fz (by assumption))):p:=h
theorem M5 (w:World)(dp:Nat)(vp:Value)(p:List Fn)(f:Int)(va:Value)(a:List Int)(vd:Value)(d:List Int)(hp:RP [] dp w.heap vp p)(_hf:Bw f)(ha:Rd (B2 rI) w.heap va a)(hd:Rd (B2 rI) w.heap vd d)(hz:QL p) :
  Calls Tryz.prog 103 #[(.agg #[vp]),zI f,va,vd] w (fun e w'=>e=.returned (zI (Nu p f a d))∧AG w w'):=by
 refine Ap [.agg #[vp],zI f,va,vd] 38 Tryz.func103 Z Z sM ?_
 have ag:AG w w:=AG.refl w
 have ar:=hp.lenle
 unfold maxLen at ar
 have au:=ha.lenle
 have av:=hd.lenle
 refine cP [3,0] Z (Bx (cs:=#[vp]) Z Aa fun w1 ab an a4=>?_)
 have ah:=ab.size
 have ac:=ag.trans ab
 replace a4:BX w1.heap w.heap.size [vp]:=a4
 refine Ac 1 Z<|cP [2,0,3,0] Z<|AM (p:=zP w.heap.size) (.inr Z) [vp] CI Z (fun aw ai=>LD.of_box<|BX.ext (w:=w1) a4 ai) Z Aa<|Ad 1 Z<|Au 100 [] [] [.agg #[vp],zI f] Z Z Vt Aa (Ie _ dp vp (p) _ (hp.ext (Am<|Av dp) ac) _hf hz) ?_
 rintro e2 w2 ⟨rfl,a5⟩
 refine⟨_,rfl,a5,?_⟩
 have aj:=a5.size
 have a1:=ac.trans a5
 have a0:=a4.ext a5
 refine Ac 1 Z<|A0<|cP [0,0,0,0,0,2,0,0,0,2,3,0,0,0,0,2,0,0,0,2,3,0,0,0] Z<|Ad 1 Z ?_
 by_cases ad:Gg p f=((0:Nat):Int)
 ·refine Al true Z Z (A5 ad) Aa<|Ad 2 Z ?_
  have ao:=PH (p:=p) (f:=f) oM
  refine Ak (p:=zP w.heap.size) 0 BA Z Z (Ae (e:=15) Z Z Z)<|Ah (p:=Ao (zP w.heap.size) 0) (.inr Z) vp C9 Z (a0.ldp (i:=0) sM) (Ae (e:=15) Z Z Z)<|Ad 1 Z<|AA (v:=vp) ((f).toNat) GF CC Z Z hp.isSl oM sD (Ae (e:=15) Z Z Z) ?_
  obtain⟨cs4,ak,a6⟩:=hp.get (Av dp) Fn.zero (k:=(f).toNat) sD
  obtain⟨ap,rfl,a8⟩:=RF.of ak
  have a9:=a8.rn.lenle
  unfold maxLen at a9
  refine AI (p:=Ay vp ((f).toNat) 3) 1 Cr Z (a6 _<|At.of_ext [] a1) (Ae (e:=15) Z Z Z)<|Ah (p:=Ao (Ay vp ((f).toNat) 3) 1) (.inr Z) (zI<|(p.getD ((f).toNat) Fn.zero).params) AC Z ((a6 _<|At.of_ext [] a1).ld (i:=1) (by simp[Fb,Fd])) (Ae (e:=15) Z Z Z)<|Au 86 [] [] [va,zI<|(p.getD ((f).toNat) Fn.zero).params] Z Z ST (Ae (e:=15) Z Z Z) (CD _ _ _ _ (ha.ext g1 a1) a8.rng) ?_
  rintro e5 w5 ⟨rfl,a7⟩
  refine⟨_,rfl,a7,?_⟩
  have al:=a7.size
  have a2:=a1.trans a7
  have a3:=a0.ext a7
  refine Bv (!(decide ((a.length:Int)=((p.getD ((f).toNat) Fn.zero).params)) && AV a)) Z Z (Ae (e:=15) Z Z Z)<|Ad 1 Z ?_
  cases aq:(!(decide ((a.length:Int)=((p.getD ((f).toNat) Fn.zero).params)) && AV a))
  ·refine Ad 1 Z<|Ak (p:=zP w.heap.size) 0 BA Z Z (Ae (e:=25) Z Z Z)<|Ah (p:=Ao (zP w.heap.size) 0) (.inr Z) vp C9 Z (a3.ldp (i:=0) sM) (Ae (e:=25) Z Z Z)<|Ad 1 Z<|AA (v:=vp) ((f).toNat) GF CC Z Z hp.isSl oM sD (Ae (e:=25) Z Z Z) ?_
   refine AI (p:=Ay vp ((f).toNat) 3) 1 Cr Z (a6 _<|At.of_ext [] a2) (Ae (e:=25) Z Z Z)<|Ah (p:=Ao (Ay vp ((f).toNat) 3) 1) (.inr Z) (zI<|(p.getD ((f).toNat) Fn.zero).params) AC Z ((a6 _<|At.of_ext [] a2).ld (i:=1) (by simp[Fb,Fd])) (Ae (e:=25) Z Z Z)<|Au 86 [] [] [vd,zI<|(p.getD ((f).toNat) Fn.zero).params] Z Z ST (Ae (e:=25) Z Z Z) (CD _ _ _ _ (hd.ext g1 a2) a8.rng) ?_
   rintro e7 w7 ⟨rfl,aa⟩
   refine⟨_,rfl,aa,?_⟩
   have am:=aa.size
   have ae:=a2.trans aa
   refine Bv (!(decide ((d.length:Int)=((p.getD ((f).toNat) Fn.zero).params)) && AV d)) Z Z (Ae (e:=25) Z Z Z)<|Ac 2 Z ?_
   cases af:(!(decide ((d.length:Int)=((p.getD ((f).toNat) Fn.zero).params)) && AV d))
   ·exact Ai (by first|rfl|exact zW af)<|A2<|cP [0,0] Z<|Ac 2 Z<|A1<|Af [8] Z (zI<|Gg p f) Z ⟨B3 Nm,ae⟩
   exact Ag (by first|rfl|exact zW af)<|Ab _ [0] Z<|Ac 1 Z<|cP [0,0] Z<|Ac 2 Z<|A1<|Af [8] Z (zI ((2:Nat):Int)) Z ⟨B3 Nm,ae⟩
  exact Ac 11 Z<|Ag Z<|Ab _ [0] Z<|Ac 1 Z<|cP [0,0] Z<|Ac 2 Z<|A1<|Af [8] Z (zI ((2:Nat):Int)) Z ⟨B3 Nm,a2⟩
 exact Al false Z Z (A6 ad) Aa<|Ac 22 Z<|Ai Z<|A2<|cP [0,0] Z<|Ac 2 Z<|A1<|Af [8] Z (zI<|Gg p f) Z ⟨B3 Nm,a1⟩
theorem Qn (w:World)(n:Nat)(vp:Value)(ps:List Int)(_hn:n≤1000000000000)(hps:Rd (B2 rI) w.heap vp ps)(hn:n≤1000)(hk:∀j,j<ps.length→0≤ps.getD j 0∧ps.getD j 0<(n:Int)) :
  Calls Tryz.prog 182 #[zI (n:Int),vp] w (fun e w'=>∃v0:Value,e=.returned (v0)∧AG w w'∧Fr (Bt rI 2) w.heap.size w'.heap.size w'.heap v0 (Bm n ps ps.length)):=by
 refine Ap [zI (n:Int),vp] 27 Tryz.func182 Z Z sM ?_
 have a4:AG w w:=AG.refl w
 have ah:=hps.lenle
 refine cQ Z<|cP [0,3,0] Z<|Ad 1 Z (Fj (n:=n) Bj BH Z Z Z sD Aa fun v1 w1 a2 aa a5=>?_)
 have a3:=a2.size
 have a6:=a4.trans a2
 refine Ac 1 Z<|A0<|cP [0,0,0] Z<|Ad 1 Z<|AO (v:=vp) Bj Z hps.isSl Aa<|Ac 1 Z<|A3<|AY (S:=Nat) (fun j=>([(12,zI (j:Int)),(5,v1),(10,vp),(11,zI (ps.length:Int))])) (fun j W=>AG w W∧Fr (Bt rI 2) w.heap.size W.heap.size W.heap v1 (Bm n ps j)∧j≤ps.length) (fun j=>ps.length-j) 0 ⟨rfl,rfl,rfl,rfl,trivial⟩ ⟨a6,(by exact a5.up o1),oM⟩ ?_
 clear a4 a5 aa a2 a3 a6
 rintro j ρ2 w2 ⟨a1,a0,a7⟩
 have ab:w.heap.size≤w2.heap.size:=a1.size
 have hul:=Hk n ps j
 refine cP [0] Z ?_
 by_cases a8:(j:Int)<(ps.length:Int)
 ·refine AE true Z Z (A5 a8) Aa<|Aj<|A0<|Ag Z<|A2<|A0<|A3<|cP [0,2,0] Z ?_
  have hkj:=hk j oM
  refine AA (v:=vp) j Bj BH Z Z hps.isSl Z sD Aa ?_
  refine Ah (p:=Ay vp j 1) (.inr Z) (zI<|ps.getD j 0) AC Z (B7 a1 (hps.getI sD).1) Aa<|Ac 1 Z<|Ab _ [0,0,0,0,0,2,0,0,0,4] Z<|Ad 4 Z ?_
  refine AA (v:=v1) ((ps.getD j 0).toNat) Bj BH Z Z a0.isSl oM sD Aa ?_
  refine Ah (p:=Ay v1 ((ps.getD j 0).toNat) 1) (.inr Z) (zI<|(Bm n ps j).getD ((ps.getD j 0).toNat) 0) AC Z (a0.rd1.getI sD).1 Aa ?_
  have hgn:=Bu (E3 n ps j) (ps.getD j 0).toNat
  refine AN (((Bm n ps j).getD ((ps.getD j 0).toNat) 0)+((1:Nat):Int)) Z Z (DK sD sD) Aa ?_
  refine Dw (md (((Bm n ps j).getD ((ps.getD j 0).toNat) 0)+((1:Nat):Int))) Z Z (by decide) (Int.tmod_eq_emod_of_nonneg oM) Aa<|AA (v:=v1) ((ps.getD j 0).toNat) Bj BH Z Z a0.isSl oM sD Aa ?_
  refine FQ (v:=v1) (w:=w2) GT Z Z (Dh _) a0 sD Aa fun w4 F4 a9 ag ac ad=>?_
  have ae:AG w w4:=a9.below a1 (fun c hc=>A8 (A7 _) (ac c hc).1) a1.size
  have af:w2.heap.size≤w4.heap.size:=a9.size
  exact Aj<|Ab _ [0,0] Z<|AN ((j+1:Nat):Int) Z Z (Bg oM sD) Aa<|Ac 1 Z ⟨j+1,_,rfl,zR,⟨ae,(by exact ad.up o1),oM⟩,zD⟩
 exact AE false Z Z (A6 a8) Aa<|Aj<|A0<|Ai Z<|A4<|Aw<|Aw<|Aq<|cP [0,0] Z<|Ac 2 Z<|A1<|Af [4] Z v1 Z ⟨v1,rfl,a1,(by have h:=a0.up o1;rw[show j=ps.length from by omega]at h;exact h)⟩
theorem Tw {p:Prop}(h:p:=by unfold maxLen;first|omega|assumption|(simp only[List.length_nil,List.length_cons,List.length_append,List.length_set,List.length_replicate];omega)|(simp[List.length_nil,List.length_cons,List.length_append,List.length_set,List.length_replicate];done)|(simp[List.length_nil,List.length_cons,List.length_append,List.length_set,List.length_replicate];omega)):p:=h
theorem HA (w:World)(dp:Nat)(vp:Value)(p:List Fn)(f:Int)(va:Value)(a:List Int)(vd:Value)(d:List Int)(o:Nat)(hp:RP [] dp w.heap vp p)(_hf:Bw f)(ha:Rd (B2 rI) w.heap va a)(hd:Rd (B2 rI) w.heap vd d)(hvp:HW p)(hf:0≤f∧f<(p.length:Int))(hl:(a.length:Int)=(p.getD f.toNat Fn.zero).params)(hld:d.length=a.length)(hna:AV a=true)(hnd:AV d=true)(ho:o≤12) :
  Calls Tryz.prog 214 #[(.agg #[vp]),zI f,va,vd,zI (o:Int)] w (fun e w'=>∃v0:Value,e=.returned (.tuple #[v0,zI (Js p (o+1) f.toNat (Df a d (o+1)))])∧AG w w'∧Fr (Bt (Bt rI 2) 27) w.heap.size w'.heap.size w'.heap v0 (JE p (o+1) f.toNat (Df a d (o+1)))∧TV p (o+1) f.toNat (Df a d (o+1))):=by
 refine Ap [.agg #[vp],zI f,va,vd,zI (o:Int)] 57 Tryz.func214 Z Z sM ?_
 have bg:AG w w:=AG.refl w
 have c9:=hp.lenle
 unfold maxLen at c9
 have ca:=ha.lenle
 have cb:=hd.lenle
 have cl:=hvp.par f.toNat oM
 refine cP [3,0,0] Z (Bx (cs:=#[vp]) Z Aa fun w1 ay bt az=>?_)
 have bu:=ay.size
 have b0:=bg.trans ay
 replace az:BX w1.heap w.heap.size [vp]:=az
 refine Ac 2 Z<|cP [3,0] Z (CH (Bt rI 2) o1 C0 Bf Aa fun v2 w2 au bv bh=>?_)
 have b1:=au.size
 have bi:=b0.trans au
 have ai:=az.ext au
 refine Ac 1 Z<|A0<|cP [0,0,0] Z<|Ad 1 Z<|AO (v:=va) Bj Z ha.isSl Aa<|Ac 1 Z<|A3 ?_
 refine AY (S:=Nat×Value) (fun⟨k,vo⟩=>([(12,vo),(22,zI (k:Int)),(1,zI f),(3,vd),(4,zI (o:Int)),(5,zP w.heap.size),(20,va),(21,zI (a.length:Int))])) (fun⟨k,vo⟩ W=>AG w W∧Fr (Bt (Bt rI 2) 27) w1.heap.size W.heap.size W.heap vo ((Df a d (o+1)).take k)∧BX W.heap w.heap.size [vp]∧k≤a.length∧w.heap.size<w1.heap.size∧w1.heap.size≤W.heap.size) (fun⟨k,vo⟩=>a.length-k) (0,v2) ⟨rfl,rfl,rfl,rfl,rfl,rfl,rfl,rfl,trivial⟩ ⟨bi,bh.up o2,ai,oM,oM,oM⟩ ?_
 clear bg bt ay bh bv au b1 bi
 rintro⟨k,vo⟩ ρ4 w4 ⟨ab,ac,a1,bj,bw,bx⟩
 have bz:w.heap.size≤w4.heap.size:=ab.size
 have c6:=a1.lt
 refine cP [0] Z ?_
 by_cases bk:(k:Int)<(a.length:Int)
 ·refine AE true Z Z (A5 bk) Aa<|Aj<|A0<|Ag Z<|A2<|A0<|A3<|cP [0,0,2,0,0] Z<|Ad 1 Z<|AA (v:=va) k Bj BH Z Z ha.isSl Z sD Aa ?_
  refine Ah (p:=Ay va k 1) (.inr Z) (zI<|a.getD k 0) AC Z (B7 ab (ha.getI sD).1) Aa<|Ac 2 Z<|cP [0,0,3,0] Z<|Ad 1 Z<|AN ((o+1:Nat):Int) Z Z (Bg oM oM) Aa ?_
  refine Fj (n:=o+1) Bj BH Z Z Z sD Aa fun v8 w8 av c7 bl=>?_
  have c0:=av.size
  have bm:=ab.trans av
  have a2:=ac.ext (o2) av
  have a3:=a1.ext av
  refine Ac 1 Z<|cP [0,0,0,4] Z<|Ad 2 Z<|AA (v:=v8) 0 Bj BH Z Z bl.isSl Z sD Aa ?_
  refine FQ (v:=v8) (w:=w8) GT Z Z (ha.getI sD).2 bl sD Aa fun w9 F9 aw c8 b2 b3=>?_
  have ax:AG w w9:=aw.below bm (fun c hc=>A8 ab.size (b2 c hc).1) bm.size
  have c1:w8.heap.size≤w9.heap.size:=aw.size
  have aj:=a2.chg (o2) aw fun c hc=>by have:=b2 c hc;omega
  have ak:=a3.chg aw fun hm=>by have:=b2 _ hm;omega
  refine Aj<|A0<|cP [0,0] Z<|Ad 1 Z ?_
  by_cases al:((0:Nat):Int)<(o:Int)
  ·refine BN true Z Z (A5 al) Aa<|Aj<|Ag Z<|Ab _ [0,0,0,0,2,0,4] Z<|Ad 3 Z<|AA (v:=vd) k Bj BH Z Z hd.isSl Z sD Aa ?_
   refine Ah (p:=Ay vd k 1) (.inr Z) (zI<|d.getD k 0) AC Z (B7 ax (hd.getI sD).1) Aa ?_
   refine AA (v:=v8) 1 Bj BH Z Z b3.isSl Z sD Aa ?_
   refine FQ (v:=v8) (w:=w9) GT Z Z (hd.getI sD).2 b3 sD Aa fun cc cm a4 c2 ad b4=>?_
   have b5:AG w cc:=a4.below ax (fun c hc=>A8 ab.size (ad c hc).1) ax.size
   have bn:w9.heap.size≤cc.heap.size:=a4.size
   have b6:=aj.chg (o2) a4 fun c hc=>by have:=ad c hc;omega
   have b7:=ak.chg a4 fun hm=>by have:=ad _ hm;omega
   refine Aj<|Ab _ [0,0,3,4,0] Z<|Ad 2 Z (BK (u:=v8) (B:=w4.heap.size) o1 C0 Bf Z Z b4 (by first|exact A7 _|omega) Aa fun cf cg a5 c3 b8=>?_)
   have bo:=a5.size
   have am:=b5.trans a5
   have a6:=b6.ext (o2) a5
   have a7:=b7.ext a5
   refine Ij o1 (v:=vo) (a:=cf) C0 Bf Z Z Z a6 oM b8 oM oM sD Tw Aa fun ch cd cn ae an ao=>?_
   have b9:AG w cd:=ae.below am (fun c hc=>A8 b0.size (an c hc).1) am.size
   have bp:cg.heap.size≤cd.heap.size:=ae.size
   have ba:=a7.chg ae fun hm=>by have:=an _ hm;omega
   exact Ac 1 Z<|Ab _ [0,0] Z<|AN ((k+1:Nat):Int) Z Z (Bg oM sD) Aa<|Ac 1 Z ⟨(k+1,ch),_,rfl,zR,⟨b9,(by rw[CP [] (by simp;omega),Fu oM];first|exact ao.up o2|(have h:=ao.up o2;rw[List.set_eq_of_length_le (by rw[Kt];omega)];exact h)),ba,oM,oM,oM⟩,zD⟩
  refine BN false Z Z (A6 al) Aa<|Aj<|Ai Z<|A2<|Ab _ [0,0,3,4,0] Z<|Ad 2 Z (BK (u:=v8) (B:=w4.heap.size) o1 C0 Bf Z Z b3 (by first|exact A7 _|omega) Aa fun ci cj a8 c4 bb=>?_)
  have bq:=a8.size
  have ap:=ax.trans a8
  have a9:=aj.ext (o2) a8
  have aa:=ak.ext a8
  refine Ij o1 (v:=vo) (a:=ci) C0 Bf Z Z Z a9 oM bb oM oM sD Tw Aa fun ck ce co af aq ar=>?_
  have bc:AG w ce:=af.below ap (fun c hc=>A8 b0.size (aq c hc).1) ap.size
  have br:cj.heap.size≤ce.heap.size:=af.size
  have bd:=aa.chg af fun hm=>by have:=aq _ hm;omega
  exact Ac 1 Z<|Ab _ [0,0] Z<|AN ((k+1:Nat):Int) Z Z (Bg oM sD) Aa<|Ac 1 Z ⟨(k+1,ck),_,rfl,zR,⟨bc,(by rw[CP [] (by simp;omega),Fu oM];first|exact ar.up o2|(have h:=ar.up o2;rw[List.set_eq_of_length_le (by rw[Kt];omega)];exact h)),bd,oM,oM,oM⟩,zD⟩
 refine AE false Z Z (A6 bk) Aa<|Aj<|A0<|Ai Z<|A4<|Aw<|Aw<|Aq<|cP [2,0,0,0,3,0,0,0,0,0,0,0] Z ?_
 have hfull:=ac
 rw[show(Df a d (o+1)).take k=Df a d (o+1)from List.take_of_length_le (by simp;omega)]at hfull
 refine AM (p:=zP w.heap.size) (.inr Z) [vp] CI Z (fun cp c5=>LD.of_box<|BX.ext (w:=w4) a1 c5) Z Aa<|Ad 3 Z<|Au 142 [] [] [.agg #[vp],zI f,vo,zI (o:Int)] Z Z Zb Aa (FY _ dp vp (p) _ vo (Df a d (o+1)) (o) (hp.ext (Am<|Av dp) ab) _hf (RN.of_fr2 hfull fun b hb=>by cases hb) hfull.cap hvp oM (by rw[CA];omega) (by exact Kz hna hnd) oM) ?_
 rintro cq cr ⟨a0,rfl,ag,ah,be⟩
 refine⟨_,rfl,ag,?_⟩
 have bs:=ag.size
 have bf:=ab.trans ag
 refine Ad 1 Z<|AR (vs:=[a0,zI ((MI p (o+1) f.toNat (Df a d (o+1)):Nat):Int),zI<|Js p (o+1) f.toNat<|Df a d (o+1)]) a0 Z Z Aa<|AR (vs:=[a0,zI ((MI p (o+1) f.toNat (Df a d (o+1)):Nat):Int),zI<|Js p (o+1) f.toNat<|Df a d (o+1)]) (zI ((MI p (o+1) f.toNat (Df a d (o+1)):Nat):Int)) Z Z Aa<|AR (vs:=[a0,zI ((MI p (o+1) f.toNat (Df a d (o+1)):Nat):Int),zI<|Js p (o+1) f.toNat<|Df a d (o+1)]) (zI<|Js p (o+1) f.toNat<|Df a d (o+1)) Z Z Aa<|Ac 3 Z<|cP [0,0,0,0] Z<|Ac 4 Z<|A1 ?_
 exact Af [10,11] Z (.tuple #[a0,zI<|Js p (o+1) f.toNat<|Df a d (o+1)]) Z ⟨a0,rfl,bf,(ah.up o2).low ab.size,(by assumption)⟩
theorem Kk (w:World)(dp:Nat)(vp:Value)(p:List Fn)(f:Int)(pick:Int)(va:Value)(a:List Int)(vd:Value)(d:List Int)(hp:RP [] dp w.heap vp p)(_hf:Bw f)(_hpick:Bw pick)(ha:Rd (B2 rI) w.heap va a)(hd:Rd (B2 rI) w.heap vd d)(hli:Nu p f a d=0)(hz:QL p)(hpk:0≤pick∧pick<(((p.getD f.toNat Fn.zero).outs.length:Nat):Int)) :
  Calls Tryz.prog 113 #[(.agg #[vp]),zI f,zI pick,va,vd] w (fun e w'=>e=.returned (zI ((0:Nat):Int))∧AG w w'):=by
 refine Ap [.agg #[vp],zI f,zI pick,va,vd] 33 Tryz.func113 Z Z sM ?_
 have aa:AG w w:=AG.refl w
 have ai:=hp.lenle
 unfold maxLen at ai
 have aj:=ha.lenle
 have ak:=hd.lenle
 have ab:=Vc hli
 have al:=J7 ab.1
 have am:=al.outs f.toNat oM
 refine cP [3,0] Z (Bx (cs:=#[vp]) Z Aa fun w1 a6 ah a1=>?_)
 have ac:=a6.size
 have a2:=aa.trans a6
 replace a1:BX w1.heap w.heap.size [vp]:=a1
 refine Ac 1 Z<|cP [2,0,0,0,3,0] Z<|AM (p:=zP w.heap.size) (.inr Z) [vp] CI Z (fun an ad=>LD.of_box<|BX.ext (w:=w1) a1 ad) Z Aa<|Ad 3 Z<|Au 103 [] [] [.agg #[vp],zI f,va,vd] Z Z YW Aa (M5 _ dp vp (p) _ _ _ _ _ (hp.ext (Am<|Av dp) a2) _hf (ha.ext g1 a2) (hd.ext g1 a2) hz) ?_
 rintro e2 w2 ⟨rfl,a3⟩
 refine⟨_,rfl,a3,?_⟩
 have ae:=a3.size
 have a4:=a2.trans a3
 have a0:=a1.ext a3
 refine Ac 1 Z<|A0<|cP [0,0,0,0,0,2,0,0,0,2,0,0,0,0,0] Z<|Ad 1 Z ?_
 have af:Nu p f a d=((0:Nat):Int):=hli
 refine Al true Z Z (A5 af) Aa<|Ad 2 Z<|Ak (p:=zP w.heap.size) 0 BA Z Z (Ae (e:=19) Z Z Z)<|Ah (p:=Ao (zP w.heap.size) 0) (.inr Z) vp C9 Z (a0.ldp (i:=0) sM) (Ae (e:=19) Z Z Z)<|Ad 1 Z<|AA (v:=vp) ((f).toNat) GF CC Z Z hp.isSl oM sD (Ae (e:=19) Z Z Z) ?_
 obtain⟨cs4,ag,a7⟩:=hp.get (Av dp) Fn.zero (k:=(f).toNat) sD
 obtain⟨a8,rfl,a9⟩:=RF.of ag
 have a5:=a9.rn.lenle
 unfold maxLen at a5
 refine AI (p:=Ay vp ((f).toNat) 3) 2 BU Z (a7 _<|At.of_ext [] a4) (Ae (e:=19) Z Z Z)<|Ah (p:=Ao (Ay vp ((f).toNat) 3) 2) (.inr Z) a8 Be Z ((a7 _<|At.of_ext [] a4).ld (i:=2) (by simp[Fb,Fd])) (Ae (e:=19) Z Z Z)<|AO (v:=a8) D5 Z a9.rn.isSl (Ae (e:=19) Z Z Z) ?_
 refine BC (((((p.getD ((f).toNat) Fn.zero).outs).length:Nat):Int)-((1:Nat):Int)) Z Z (DK sD sD) (Ae (e:=19) Z Z Z) ?_
 refine Az 117 [] [] [zI pick,zI ((0:Nat):Int),zI (((((p.getD ((f).toNat) Fn.zero).outs).length:Nat):Int)-((1:Nat):Int))] Z Z CW (Ae (e:=19) Z Z Z) (.bool (decide (((0:Nat):Int)≤pick) && decide (pick≤(((((p.getD ((f).toNat) Fn.zero).outs).length:Nat):Int)-((1:Nat):Int))))) (fun wq=>AS wq _ _ _ _hpick oM oM) ?_
 rw[show(decide (((0:Nat):Int)≤pick) && decide (pick≤(((((p.getD ((f).toNat) Fn.zero).outs).length:Nat):Int)-((1:Nat):Int))))=true from(by rw[A5 oM,A5 oM];rfl)]
 exact Bv false Z Z (Ae (e:=19) Z Z Z)<|Ac 1 Z<|Ai Z<|A2<|cP [0,0] Z<|Ac 2 Z<|A1<|Af [10] Z (zI<|Nu p f a d) Z ⟨(by rw[hli];rfl),a4⟩
theorem Dp (w:World)(dp:Nat)(vp:Value)(p:List Fn)(f:Int)(pick:Int)(va:Value)(a:List Int)(vd:Value)(d:List Int)(o:Nat)(hp:RP [] dp w.heap vp p)(_hf:Bw f)(_hpick:Bw pick)(ha:Rd (B2 rI) w.heap va a)(hd:Rd (B2 rI) w.heap vd d)(hvp:HW p)(hf:0≤f∧f<(p.length:Int))(hl:(a.length:Int)=(p.getD f.toNat Fn.zero).params)(hld:d.length=a.length)(hna:AV a=true)(hnd:AV d=true)(hpk:0≤pick∧pick<(((p.getD f.toNat Fn.zero).outs.length:Nat):Int))(ho:o≤12) :
  Calls Tryz.prog 188 #[(.agg #[vp]),zI f,zI pick,va,vd,zI (o:Int)] w (fun e w'=>e=.returned (.tuple #[zI (Dl p f.toNat pick.toNat a d o),zI (Ea p f.toNat a)])∧AG w w'∧(0≤Dl p f.toNat pick.toNat a d o∧Dl p f.toNat pick.toNat a d o<1000003)∧(0≤Ea p f.toNat a∧Ea p f.toNat a≤9)):=by
 refine Ap [.agg #[vp],zI f,zI pick,va,vd,zI (o:Int)] 35 Tryz.func188 Z Z sM ?_
 have ab:AG w w:=AG.refl w
 have aj:=hp.lenle
 unfold maxLen at aj
 have ak:=ha.lenle
 have al:=hd.lenle
 have am:=hvp.par f.toNat oM
 have an:=hvp.outs f.toNat oM
 refine cP [3,0,0] Z (Bx (cs:=#[vp]) Z Aa fun w1 a7 ah a3=>?_)
 have ac:=a7.size
 have a2:=ab.trans a7
 replace a3:BX w1.heap w.heap.size [vp]:=a3
 refine Ac 2 Z<|cP [2,0,0,0,0,3,0,0,0,0,0] Z<|AM (p:=zP w.heap.size) (.inr Z) [vp] CI Z (fun ao ad=>LD.of_box<|BX.ext (w:=w1) a3 ad) Z Aa<|Ad 4 Z<|Au 214 [] [] [.agg #[vp],zI f,va,vd,zI (o:Int)] Z Z Zs Aa (HA _ dp vp (p) _ _ _ _ _ (o) (hp.ext (Am<|Av dp) a2) _hf (ha.ext g1 a2) (hd.ext g1 a2) hvp oM oM hld hna hnd oM) ?_
 rintro e2 w2 ⟨a0,rfl,a4,a1,a8⟩
 refine⟨_,rfl,a4,?_⟩
 have ae:=a4.size
 have a9:=a2.trans a4
 refine Ad 1 Z<|AR (vs:=[a0,zI<|Js p (o+1) f.toNat<|Df a d (o+1)]) a0 Z Z Aa<|AR (vs:=[a0,zI<|Js p (o+1) f.toNat<|Df a d (o+1)]) (zI<|Js p (o+1) f.toNat<|Df a d (o+1)) Z Z Aa<|Ac 2 Z<|A0<|cP [0,0] Z<|Ad 1 Z ?_
 have hEP:TV p (o+1) f.toNat (Df a d (o+1)):=by assumption
 have hcc:=bK p f.toNat a d o
 have hcn:=XD (pk:=pick.toNat) hEP
 have ai:=hEP.code
 by_cases aa:Js p (o+1) f.toNat (Df a d (o+1))≠((0:Nat):Int)
 ·exact B4 true Z Z (A5 aa) Aa<|Aj<|Ag Z<|cP [0,0,0] Z<|Ac 3 Z<|A1<|An<|Af [12,13] Z (.tuple #[zI ((0:Nat):Int),zI<|Js p (o+1) f.toNat<|Df a d (o+1)]) Z ⟨(by rw[show Dl p f.toNat pick.toNat a d o=0 from by unfold Dl;rw[hEP.non oM];rfl,← hcc] <;> rfl),a9,hcn,oM⟩
 refine B4 false Z Z (A6 aa) Aa<|Aj<|Ai Z<|A2<|cP [0,0,0,2,0,0,2,0,0] Z ?_
 have hdl:=hEP.len oM
 have hrw:=(hEP.ser pick.toNat oM).1
 refine Ad 2 Z<|AA (v:=a0) ((pick).toNat) C0 Bf Z Z a1.isSl oM oM Aa ?_
 obtain⟨a5,af,a6⟩:=a1.rd2.get (k:=(pick).toNat) [] oM
 have ag:=a6.lenle
 exact Ah (p:=Ay a0 ((pick).toNat) 1) (.inr Z) a5 Bk Z af Aa<|Ad 1 Z<|AA (v:=a5) o Bj BH Z Z a6.isSl Z oM Aa (Ah (p:=Ay a5 o 1) (.inr Z) (zI<|((JE p (o+1) f.toNat<|Df a d (o+1)).getD ((pick).toNat) []).getD o 0) AC Z (a6.getI oM).1 Aa (Ac 2 Z<|A1<|Af [12,13] Z (.tuple #[zI<|((JE p (o+1) f.toNat<|Df a d (o+1)).getD ((pick).toNat) []).getD o 0,zI ((0:Nat):Int)]) Z ⟨(by rw[show Ea p f.toNat a=0 by omega];rfl),a9,hcn,oM⟩))
theorem C6 (w:World)(vs:Value)(ps:List Int)(dp:Nat)(vp:Value)(p:List Fn)(bf:Nat)(f:Int)(bk:Nat)(pick:Int)(ba:Nat)(bav:Value)(a:List Int)(hps:Rd (B2 rI) w.heap vs ps)(hp:RN [] (rP (Kb dp)) w.heap vp p)(hcf:GP w.heap (zP bf)=some (zI f))(_hf:Bw f)(hcpick:GP w.heap (zP bk)=some (zI pick))(_hpick:Bw pick)(hca:GP w.heap (zP ba)=some bav)(ha:Rd (B2 rI) w.heap bav a)(hvp:HW p)(hf:0≤f∧f<(p.length:Int))(hl:(a.length:Int)=(p.getD f.toNat Fn.zero).params)(hna:AV a=true)(hpk:0≤pick∧pick<(((p.getD f.toNat Fn.zero).outs.length:Nat):Int))(hpz:∀j,j<ps.length→0≤ps.getD j 0∧ps.getD j 0<(a.length:Int)) :
  Calls Tryz.prog 189 #[vs,vp,zP bf,zP bk,zP ba] w (fun e w'=>e=.returned (zI (Dl p f.toNat pick.toNat a (Bm a.length ps ps.length) 2))∧AG w w'∧(0≤Dl p f.toNat pick.toNat a (Bm a.length ps ps.length) 2∧Dl p f.toNat pick.toNat a (Bm a.length ps ps.length) 2<1000003)):=by
 refine Ap [vs,vp,zP bf,zP bk,zP ba] 22 Tryz.func189 Z Z sM ?_
 have a1:AG w w:=AG.refl w
 have ah:=hps.lenle
 have hl_bav:=ha.lenle
 have aj:=hvp.par f.toNat oM
 refine cQ Z<|A0<|AP _ [1,1,1,1,1,0,0,3,3,0,0,0,0,0] mixed (by kernel_rfl) ?_
 obtain⟨cs1,ab,ac⟩:=RN.at (AQ _) hp
 obtain⟨a3,rfl,a8⟩:=RPr.of ab
 have a4:=a8.lenle
 unfold maxLen at a4
 refine AM (p:=vp) (.inl Z) [a3] CI Z (fun ai ad=>ac ai<|At.of_ext []<|a1.drew.trans ad) Z Aa<|Ah (.inl Z) (zI f) AC Z (B7 a1.drew hcf) Aa<|Ah (.inl Z) (zI pick) AC Z (B7 a1.drew hcpick) Aa<|Ah (.inl Z) bav Bk Z (B7 a1.drew hca) Aa<|Ah (.inl Z) bav Bk Z (B7 a1.drew hca) Aa<|AO (v:=bav) Bj Z ha.isSl Aa<|Ad 1 Z ?_
 refine Au 182 [] [] [zI (a.length:Int),vs] Z Z Vz Aa (Qn _ (a.length) _ _ sD (hps.ext g1 a1.drew) oM hpz) ?_
 rintro e2 w2 ⟨a5,rfl,a2,a0⟩
 refine⟨_,rfl,a2,?_⟩
 replace a2:=a2.of_drew
 have ae:=a2.size
 have a6:=a1.trans a2
 replace a0:=a0.low (B':=w.heap.size)<|A7 _
 refine Au 188 [] [] [.agg #[a3],zI f,zI pick,bav,a5,zI ((2:Nat):Int)] Z Z VA Aa (Dp _ dp a3 (p) _ _ _ _ _ _ (2) (a8.ext (Am<|Av dp) a6) _hf _hpick (ha.ext g1 a6) a0.rd1 hvp oM oM (by exact Hk _ _ _) hna (by exact E3 _ _ _) oM oM) ?_
 rintro e3 w3 ⟨rfl,a7,a9,aa⟩
 refine⟨_,rfl,a7,?_⟩
 have af:=a7.size
 have ag:=a6.trans a7
 exact Ad 1 Z<|AR (vs:=[zI<|Dl p f.toNat pick.toNat a (Bm a.length ps ps.length) 2,zI<|Ea p f.toNat a]) (zI<|Dl p f.toNat pick.toNat a (Bm a.length ps ps.length) 2) Z Z Aa<|AR (vs:=[zI<|Dl p f.toNat pick.toNat a (Bm a.length ps ps.length) 2,zI<|Ea p f.toNat a]) (zI<|Ea p f.toNat a) Z Z Aa<|Ac 2 Z<|cP [0,0] Z<|Ac 2 Z<|A1<|Af [6] Z (zI<|Dl p f.toNat pick.toNat a (Bm a.length ps ps.length) 2) Z ⟨rfl,ag,(by assumption)⟩
theorem Tx {p:Prop}(h:p:=by intro j hj;have hj0:j=0:=(by have h9:j<1:=hj;omega);subst hj0;show 0≤((i:Nat):Int)∧((i:Nat):Int)<_;omega):p:=h
theorem Ty {p:Prop}(h:p:=by rw[Jd];unfold maxLen;simp only[List.length_cons,List.length_nil];omega):p:=h
theorem GL (w:World)(dp:Nat)(vp:Value)(p:List Fn)(f:Int)(pick:Int)(va:Value)(a:List Int)(hp:RP [] dp w.heap vp p)(_hf:Bw f)(_hpick:Bw pick)(ha:Rd (B2 rI) w.heap va a)(hvp:HW p)(hf:0≤f∧f<(p.length:Int))(hl:(a.length:Int)=(p.getD f.toNat Fn.zero).params)(hna:AV a=true)(hpk:0≤pick∧pick<(((p.getD f.toNat Fn.zero).outs.length:Nat):Int)) :
  Calls Tryz.prog 114 #[(.agg #[vp]),zI f,zI pick,va] w (fun e w'=>∃v0:Value,e=.returned (.tuple #[v0,zI (Ea p f.toNat a)])∧AG w w'∧Fr (Bt (Bt rI 2) 27) w.heap.size w'.heap.size w'.heap v0 (if Ea p f.toNat a=0 then O2 p f.toNat pick.toNat a a.length else [])∧(0≤Ea p f.toNat a∧Ea p f.toNat a≤9)):=by
 refine Ap [.agg #[vp],zI f,zI pick,va] 80 Tryz.func114 Z Z sM ?_
 have i4:AG w w:=AG.refl w
 have f2:=hp.lenle
 unfold maxLen at f2
 have f8:=ha.lenle
 have fs:=hvp.par f.toNat oM
 refine cP [3,3,3,3,0,0] Z (Bx (cs:=#[vp]) Z Aa fun w1 g2 j3 ex=>?_)
 have g3:=g2.size
 have i5:=i4.trans g2
 replace ex:BX w1.heap w.heap.size [vp]:=ex
 have ju:=ex.lt
 refine MR (u:=zI f) Z Z Aa fun w2 ey j4 ez=>?_
 have g4:=ey.size
 have i6:=i5.trans ey
 have dk:=ex.ext ey
 replace ez:BX w2.heap w1.heap.size [zI f]:=ez
 have jv:=dk.lt
 have jw:=ez.lt
 refine MR (u:=zI pick) Z Z Aa fun w4 e8 j5 g0=>?_
 have g5:=e8.size
 have i7:=i6.trans e8
 have dl:=dk.ext e8
 have dm:=ez.ext e8
 replace g0:BX w4.heap w2.heap.size [zI pick]:=g0
 have jx:=dl.lt
 have jy:=dm.lt
 have j6:=g0.lt
 refine MR (u:=va) Z (C1 ha.isSl).1 Aa fun w7 e7 j7 e9=>?_
 have g6:=e7.size
 have i8:=i7.trans e7
 have dn:=dl.ext e7
 have dq:=dm.ext e7
 have dr:=g0.ext e7
 replace e9:BX w7.heap w4.heap.size [va]:=e9
 refine Ac 2 Z<|A0<|A0<|AP _ [1,1,1,1,1,0,3,3,0,0,0,0,0] mixed (by kernel_rfl)<|AM (p:=zP w.heap.size) (.inl Z) [vp] CI Z (fun ft j8=>LD.of_box<|BX.ext (w:=w7.drew) dn j8) Z Aa<|Ah (p:=zP w1.heap.size) (.inl Z) (zI f) AC Z (dq.ld (k:=0) sM) Aa<|Ah (p:=zP w2.heap.size) (.inl Z) (zI pick) AC Z (dr.ld (k:=0) sM) Aa<|Ah (p:=zP w4.heap.size) (.inl Z) va Bk Z (e9.ld (k:=0) sM) Aa<|Ah (p:=zP w4.heap.size) (.inl Z) va Bk Z (e9.ld (k:=0) sM) Aa<|AO (v:=va) Bj Z ha.isSl Aa ?_
 refine Au 182 [] [] [zI (a.length:Int),zN] Z Z Vz Aa (Qn _ (a.length) zN [] sD Uk oM (by intro j hj;exact absurd hj (Nat.not_lt_zero j))) ?_
 rintro fu fv ⟨ea,rfl,a6,a2⟩
 refine⟨_,rfl,a6,?_⟩
 replace a6:=a6.of_drew
 have eb:=a6.size
 have d3:=i8.trans a6
 have ds:=dn.ext a6
 have dt:=dq.ext a6
 have du:=dr.ext a6
 have dv:=e9.ext a6
 replace a2:=a2.low (B':=w7.heap.size)<|A7 _
 refine Au 188 [] [] [.agg #[vp],zI f,zI pick,va,ea,zI ((2:Nat):Int)] Z Z VA Aa (Dp _ dp vp (p) _ _ _ _ _ _ (2) (hp.ext (Am<|Av dp) d3) _hf _hpick (ha.ext g1 d3) a2.rd1 hvp oM oM (by exact Hk _ _ _) hna (by exact E3 _ _ _) oM oM) ?_
 rintro fw f1 ⟨rfl,ay,g7,g8⟩
 refine⟨_,rfl,ay,?_⟩
 have i9:=ay.size
 have d4:=d3.trans ay
 have dw:=ds.ext ay
 have dx:=dt.ext ay
 have dy:=du.ext ay
 have dz:=dv.ext ay
 have ab:=a2.ext (o1) ay
 refine Ad 1 Z<|AR (vs:=[zI<|Dl p f.toNat pick.toNat a (Bm a.length ([]:List Int) ([]:List Int).length) 2,zI<|Ea p f.toNat a]) (zI<|Dl p f.toNat pick.toNat a (Bm a.length ([]:List Int) ([]:List Int).length) 2) Z Z Aa<|AR (vs:=[zI<|Dl p f.toNat pick.toNat a (Bm a.length ([]:List Int) ([]:List Int).length) 2,zI<|Ea p f.toNat a]) (zI<|Ea p f.toNat a) Z Z Aa<|Ac 2 Z<|cP [0,0] Z<|Ad 1 Z ?_
 have ia:=‹0≤Ea p f.toNat a∧Ea p f.toNat a≤9›
 by_cases ec:Ea p f.toNat a≠((0:Nat):Int)
 ·exact B4 true Z Z (A5 ec) Aa<|Aj<|Ag Z<|cP [0,0,0] Z<|Ac 3 Z<|A1<|An<|Af [8,9] Z (.tuple #[zN,zI<|Ea p f.toNat a]) Z ⟨zN,rfl,d4,(by rw[if_neg oM];exact Pb _ _ _),ia⟩
 refine B4 false Z Z (A6 ec) Aa<|Aj<|Ai Z<|A2<|cP [0,0] Z<|KJ [] [zP w.heap.size,zP w1.heap.size,zP w2.heap.size,zP w4.heap.size] Z Z Aa<|Ac 1 Z<|cP [3,0] Z (CH (Bt rI 2) o1 C0 Bf Aa fun fc fx b6 g9 ed=>?_)
 have ee:=b6.size
 have ef:=d4.trans b6
 have e0:=dw.ext b6
 have e1:=dx.ext b6
 have e2:=dy.ext b6
 have d0:=dz.ext b6
 have bj:=ab.ext (o1) b6
 refine Ac 1 Z<|A0<|cP [2,0,0] Z<|Ah (p:=zP w4.heap.size) (.inr Z) va Bk Z (d0.ld (k:=0) sM) Aa<|AO (v:=va) Bj Z ha.isSl Aa<|Ac 1 Z<|A3 ?_
 refine AY (S:=Nat×Value) (fun⟨i,vo⟩=>([(13,vo),(35,zI (i:Int)),(7,zP w4.heap.size),(12,.func (.func 189) #[] #[zP w.heap.size,zP w1.heap.size,zP w2.heap.size,zP w4.heap.size]),(34,zI (a.length:Int))])) (fun⟨i,vo⟩ W=>AG w W∧Fr (Bt (Bt rI 2) 27) f1.heap.size W.heap.size W.heap vo (O2 p f.toNat pick.toNat a i)∧BX W.heap w.heap.size [vp]∧BX W.heap w1.heap.size [zI f]∧BX W.heap w2.heap.size [zI pick]∧BX W.heap w4.heap.size [va]∧i≤a.length∧w.heap.size<f1.heap.size∧w1.heap.size<f1.heap.size∧w2.heap.size<f1.heap.size∧w4.heap.size<f1.heap.size∧f1.heap.size≤W.heap.size) (fun⟨i,vo⟩=>a.length-i) (0,fc) ⟨rfl,rfl,rfl,rfl,rfl,trivial⟩ ⟨ef,ed.up o2,e0,e1,e2,d0,oM,oM,oM,oM,oM,oM⟩ ?_
 clear i4 j3 g2 g3 i5 j4 ey g4 i6 j5 e8 g5 i7 j7 e7 g6 i8 a2 a6 eb d3 ay ab ed g9 b6 ee ef bj
 rintro⟨i,vo⟩ ρ19 f0 ⟨d1,bb,bc,bd,be,bf,ga,ib,ic,id,ie,ig⟩
 have ih:w.heap.size≤f0.heap.size:=d1.size
 have j9:=bc.lt
 have ja:=bd.lt
 have jb:=be.lt
 have jc:=bf.lt
 refine cP [0] Z ?_
 by_cases eg:(i:Int)<(a.length:Int)
 ·refine AE true Z Z (A5 eg) Aa<|Aj<|A0<|Ag Z<|A2<|A0<|A3<|cP [0,0] Z<|Ac 2 Z<|cP [3,0] Z (CH (rI) AK Bj BH Aa fun fd fy b7 gb eh=>?_)
  have ei:=b7.size
  have ej:=d1.trans b7
  have ac:=bb.ext (o2) b7
  have ad:=bc.ext b7
  have ae:=bd.ext b7
  have af:=be.ext b7
  have a0:=bf.ext b7
  refine Ac 1 Z<|A0<|cP [2,0,0] Z<|Ah (p:=zP w4.heap.size) (.inr Z) va Bk Z (a0.ld (k:=0) sM) Aa<|AO (v:=va) Bj Z ha.isSl Aa<|Ac 1 Z<|A3 ?_
  refine AY (S:=Nat×Value) (fun⟨k,vr⟩=>([(15,vr),(41,zI (k:Int)),(7,zP w4.heap.size),(12,.func (.func 189) #[] #[zP w.heap.size,zP w1.heap.size,zP w2.heap.size,zP w4.heap.size]),(13,vo),(14,zI (i:Int)),(34,zI (a.length:Int)),(35,zI (i:Int)),(40,zI (a.length:Int))])) (fun⟨k,vr⟩ W=>AG w W∧Fr (Bt rI 2) f0.heap.size W.heap.size W.heap vr (PQ p f.toNat pick.toNat a i k)∧Fr (Bt (Bt rI 2) 27) f1.heap.size f0.heap.size W.heap vo (O2 p f.toNat pick.toNat a i)∧BX W.heap w.heap.size [vp]∧BX W.heap w1.heap.size [zI f]∧BX W.heap w2.heap.size [zI pick]∧BX W.heap w4.heap.size [va]∧k≤a.length∧w.heap.size<f0.heap.size∧w1.heap.size<f0.heap.size∧w2.heap.size<f0.heap.size∧w4.heap.size<f0.heap.size∧f0.heap.size≤W.heap.size) (fun⟨k,vr⟩=>a.length-k) (0,fd) ⟨rfl,rfl,rfl,rfl,rfl,rfl,rfl,rfl,rfl,trivial⟩ ⟨ej,eh.up o1,ac,ad,ae,af,a0,oM,oM,oM,oM,oM,oM⟩ ?_
  clear bf be bd bc bb eh gb b7 ei ej ac ad ae af a0
  rintro⟨k,vr⟩ ρ31 f3 ⟨d5,bg,bh,az,b0,b1,b2,gc,ii,ij,ik,il,im⟩
  have io:w.heap.size≤f3.heap.size:=d5.size
  have jd:=az.lt
  have je:=b0.lt
  have jf:=b1.lt
  have jg:=b2.lt
  refine cP [0] Z ?_
  by_cases ek:(k:Int)<(a.length:Int)
  ·refine AE true Z Z (A5 ek) Aa<|Aj<|A0<|Ag Z<|A2<|A0<|A3<|cP [0,0] Z<|Ac 2 Z<|cP [0,0,0] Z<|Ad 2 Z ?_
   by_cases el:(i:Int)=(k:Int)
   ·refine Al true Z Z (A5 el) Aa<|Aj<|Ag Z<|Ab _ [0,0,0,3,3,0,3,4,0] Z<|Ad 3 Z (BK (u:=zI (i:Int)) (B:=f3.heap.size) AK Bj BH Z Z (LN f3.heap.size f3.heap.size _ _ oM) (A7 _) Aa fun fe fz b8 jh em=>?_)
    have ip:=b8.size
    have e3:=d5.trans b8
    have bk:=bg.ext (o1) b8
    have bl:=bh.ext (o2) b8
    have ag:=az.ext b8
    have ah:=b0.ext b8
    have ai:=b1.ext b8
    have aj:=b2.ext b8
    refine Au 189 [] [zP w.heap.size,zP w1.heap.size,zP w2.heap.size,zP w4.heap.size] [fe,zP w.heap.size,zP w1.heap.size,zP w2.heap.size,zP w4.heap.size] Z Z Q9 Aa (C6 _ _ _ dp (zP w.heap.size) (p) (w1.heap.size) (f) (w2.heap.size) (pick) (w4.heap.size) va (a) em.rd1 (RN.box ag (RP.mk'<|hp.ext (Am<|Av dp) e3) sM) (ah.ld (k:=0) sM) _hf (ai.ld (k:=0) sM) _hpick (aj.ld (k:=0) sM) (ha.ext g1 e3) hvp oM oM hna oM Tx) ?_
    rintro jz f4 ⟨rfl,a7,gd⟩
    refine⟨_,rfl,a7,?_⟩
    have iq:=a7.size
    have ge:=e3.trans a7
    have bm:=bk.ext (o1) a7
    have bn:=bl.ext (o2) a7
    have bo:=ag.ext a7
    have bp:=ah.ext a7
    have bq:=ai.ext a7
    have br:=aj.ext a7
    have d6:=em.ext (o1) a7
    refine Az 190 [] [] [zI ((2:Nat):Int),zI<|Dl p f.toNat pick.toNat a (Bm a.length ([(i:Int)]) ([(i:Int)]).length) 2] Z Z SZ Aa (zI<|md (((2:Nat):Int)*(Dl p f.toNat pick.toNat a (Bm a.length ([(i:Int)]) ([(i:Int)]).length) 2))) (fun wq=>GI wq _ _ oM oM) (BK (u:=zI<|md (((2:Nat):Int)*(Dl p f.toNat pick.toNat a (Bm a.length ([(i:Int)]) ([(i:Int)]).length) 2))) (B:=f4.heap.size) AK Bj BH Z Z (LN f4.heap.size f4.heap.size _ _<|Dh _) (A7 _) Aa fun ff fg b3 ji en=>?_)
    have ir:=b3.size
    have eo:=ge.trans b3
    have bs:=bm.ext (o1) b3
    have bt:=bn.ext (o2) b3
    have bu:=bo.ext b3
    have bv:=bp.ext b3
    have bw:=bq.ext b3
    have bx:=br.ext b3
    have d7:=d6.ext (o1) b3
    refine EI (v:=vr) (a:=ff) Bj BH Z Z Z bs oM en.rd1 (by rw[Jd];simp only[List.length_cons,List.length_nil];omega) Ty Aa fun fh f9 k0 b4 b9 ep=>?_
    have gf:AG w f9:=b4.below eo (fun c hc=>A8 d1.size (b9 c hc).1) eo.size
    have is:fg.heap.size≤f9.heap.size:=b4.size
    have gg:=bt.chg (o2) b4 fun c hc=>by have:=b9 c hc;omega
    have gh:=bu.chg b4 fun hm=>by have:=b9 _ hm;omega
    have gi:=bv.chg b4 fun hm=>by have:=b9 _ hm;omega
    have gj:=bw.chg b4 fun hm=>by have:=b9 _ hm;omega
    have gk:=bx.chg b4 fun hm=>by have:=b9 _ hm;omega
    have jj:=d7.chg (o1) b4 fun c hc=>by have:=b9 c hc;omega
    have jk:=en.chg (o1) b4 fun c hc=>by have:=b9 c hc;omega
    exact Ac 1 Z<|Ab _ [0,0] Z<|AN ((k+1:Nat):Int) Z Z (Bg oM oM) Aa<|Ac 1 Z ⟨(k+1,fh),_,rfl,zR,⟨gf,(by first|(rw[← Sq oM];exact ep.up o1)|(rw[← Ss oM];exact ep.up o1)),gg,gh,gi,gj,gk,oM,oM,oM,oM,oM,oM⟩,zD⟩
   refine Al false Z Z (A6 el) Aa<|Aj<|Ai Z<|Ab _ [0,0,0,0,3,3,0,0,3,3,0,0,3,3,0,0,3,4,0] Z<|Ad 4 Z (Sp (ys:=[(i:Int),(k:Int)]) AK Bj BH Z Z Z Z (Vg oM oM) Aa fun fi k1 ba jl eq=>?_)
   have it:=ba.size
   have e4:=d5.trans ba
   have bz:=bg.ext (o1) ba
   have c0:=bh.ext (o2) ba
   have ak:=az.ext ba
   have al:=b0.ext ba
   have am:=b1.ext ba
   have an:=b2.ext ba
   refine Au 189 [] [zP w.heap.size,zP w1.heap.size,zP w2.heap.size,zP w4.heap.size] [fi,zP w.heap.size,zP w1.heap.size,zP w2.heap.size,zP w4.heap.size] Z Z Q9 Aa (C6 _ _ _ dp (zP w.heap.size) (p) (w1.heap.size) (f) (w2.heap.size) (pick) (w4.heap.size) va (a) eq.rd1 (RN.box ak (RP.mk'<|hp.ext (Am<|Av dp) e4) sM) (al.ld (k:=0) sM) _hf (am.ld (k:=0) sM) _hpick (an.ld (k:=0) sM) (ha.ext g1 e4) hvp oM oM hna oM (by intro j hj;have hj0:j=0∨j=1:=(by have h9:j<2:=hj;omega);rcases hj0 with rfl|rfl;(show 0≤(i:Int)∧(i:Int)<_;omega);(show 0≤(k:Int)∧(k:Int)<_;omega))) ?_
   rintro k2 f5 ⟨rfl,a8,gl⟩
   refine⟨_,rfl,a8,?_⟩
   have iu:=a8.size
   have gm:=e4.trans a8
   have c1:=bz.ext (o1) a8
   have c2:=c0.ext (o2) a8
   have c3:=ak.ext a8
   have c4:=al.ext a8
   have c5:=am.ext a8
   have c6:=an.ext a8
   have d8:=eq.ext (o1) a8
   refine Ad 2 Z (BK (u:=zI (i:Int)) (B:=f5.heap.size) AK Bj BH Z Z (LN f5.heap.size f5.heap.size _ _ oM) (A7 _) Aa fun fj k3 b5 jm er=>?_)
   have iv:=b5.size
   have e5:=gm.trans b5
   have c7:=c1.ext (o1) b5
   have c8:=c2.ext (o2) b5
   have ao:=c3.ext b5
   have ap:=c4.ext b5
   have aq:=c5.ext b5
   have ar:=c6.ext b5
   have d9:=d8.ext (o1) b5
   refine Au 189 [] [zP w.heap.size,zP w1.heap.size,zP w2.heap.size,zP w4.heap.size] [fj,zP w.heap.size,zP w1.heap.size,zP w2.heap.size,zP w4.heap.size] Z Z Q9 Aa (C6 _ _ _ dp (zP w.heap.size) (p) (w1.heap.size) (f) (w2.heap.size) (pick) (w4.heap.size) va (a) er.rd1 (RN.box ao (RP.mk'<|hp.ext (Am<|Av dp) e5) sM) (ap.ld (k:=0) sM) _hf (aq.ld (k:=0) sM) _hpick (ar.ld (k:=0) sM) (ha.ext g1 e5) hvp oM oM hna oM Tx) ?_
   rintro k4 f6 ⟨rfl,a3,gn⟩
   refine⟨_,rfl,a3,?_⟩
   have iw:=a3.size
   have go:=e5.trans a3
   have c9:=c7.ext (o1) a3
   have ca:=c8.ext (o2) a3
   have cb:=ao.ext a3
   have cc:=ap.ext a3
   have cd:=aq.ext a3
   have ce:=ar.ext a3
   have da:=d9.ext (o1) a3
   have db:=er.ext (o1) a3
   refine Ad 2 Z (BK (u:=zI (k:Int)) (B:=f6.heap.size) AK Bj BH Z Z (LN f6.heap.size f6.heap.size _ _ oM) (A7 _) Aa fun fk k5 a9 jn es=>?_)
   have ix:=a9.size
   have e6:=go.trans a9
   have cf:=c9.ext (o1) a9
   have cg:=ca.ext (o2) a9
   have au:=cb.ext a9
   have av:=cc.ext a9
   have aw:=cd.ext a9
   have ax:=ce.ext a9
   have dc:=da.ext (o1) a9
   have dd:=db.ext (o1) a9
   refine Au 189 [] [zP w.heap.size,zP w1.heap.size,zP w2.heap.size,zP w4.heap.size] [fk,zP w.heap.size,zP w1.heap.size,zP w2.heap.size,zP w4.heap.size] Z Z Q9 Aa (C6 _ _ _ dp (zP w.heap.size) (p) (w1.heap.size) (f) (w2.heap.size) (pick) (w4.heap.size) va (a) es.rd1 (RN.box au (RP.mk'<|hp.ext (Am<|Av dp) e6) sM) (av.ld (k:=0) sM) _hf (aw.ld (k:=0) sM) _hpick (ax.ld (k:=0) sM) (ha.ext g1 e6) hvp oM oM hna oM (by intro j hj;have hj0:j=0:=(by have h9:j<1:=hj;omega);subst hj0;show 0≤(k:Int)∧(k:Int)<_;omega)) ?_
   rintro k6 f7 ⟨rfl,a1,gp⟩
   refine⟨_,rfl,a1,?_⟩
   have iy:=a1.size
   have gq:=e6.trans a1
   have ch:=cf.ext (o1) a1
   have ci:=cg.ext (o2) a1
   have cj:=au.ext a1
   have ck:=av.ext a1
   have cl:=aw.ext a1
   have cm:=ax.ext a1
   have de:=dc.ext (o1) a1
   have df:=dd.ext (o1) a1
   have dg:=es.ext (o1) a1
   refine AN ((Dl p f.toNat pick.toNat a (Bm a.length ([(i:Int)]) ([(i:Int)]).length) 2)+(Dl p f.toNat pick.toNat a (Bm a.length ([(k:Int)]) ([(k:Int)]).length) 2)) Z Z (DK sD sD) Aa ?_
   refine Az 191 [] [] [zI<|Dl p f.toNat pick.toNat a (Bm a.length ([(i:Int),(k:Int)]) ([(i:Int),(k:Int)]).length) 2,zI ((Dl p f.toNat pick.toNat a (Bm a.length ([(i:Int)]) ([(i:Int)]).length) 2)+(Dl p f.toNat pick.toNat a (Bm a.length ([(k:Int)]) ([(k:Int)]).length) 2))] Z Z Qa Aa (zI<|md ((Dl p f.toNat pick.toNat a (Bm a.length ([(i:Int),(k:Int)]) ([(i:Int),(k:Int)]).length) 2)-((Dl p f.toNat pick.toNat a (Bm a.length ([(i:Int)]) ([(i:Int)]).length) 2)+(Dl p f.toNat pick.toNat a (Bm a.length ([(k:Int)]) ([(k:Int)]).length) 2)))) (fun wq=>EY wq _ _ oM oM) ?_
   refine BK (u:=zI<|md ((Dl p f.toNat pick.toNat a (Bm a.length ([(i:Int),(k:Int)]) ([(i:Int),(k:Int)]).length) 2)-((Dl p f.toNat pick.toNat a (Bm a.length ([(i:Int)]) ([(i:Int)]).length) 2)+(Dl p f.toNat pick.toNat a (Bm a.length ([(k:Int)]) ([(k:Int)]).length) 2)))) (B:=f7.heap.size) AK Bj BH Z Z (LN f7.heap.size f7.heap.size _ _<|Dh _) (A7 _) Aa fun fl fm a4 jo et=>?_
   have iz:=a4.size
   have eu:=gq.trans a4
   have cn:=ch.ext (o1) a4
   have co:=ci.ext (o2) a4
   have cp:=cj.ext a4
   have cq:=ck.ext a4
   have cr:=cl.ext a4
   have ct:=cm.ext a4
   have dh:=de.ext (o1) a4
   have di:=df.ext (o1) a4
   have dj:=dg.ext (o1) a4
   refine EI (v:=vr) (a:=fl) Bj BH Z Z Z cn oM et.rd1 (by rw[Jd];simp only[List.length_cons,List.length_nil];omega) Ty Aa fun fo fa k7 a5 aa ev=>?_
   have gr:AG w fa:=a5.below eu (fun c hc=>A8 d1.size (aa c hc).1) eu.size
   have j0:fm.heap.size≤fa.heap.size:=a5.size
   have gs:=co.chg (o2) a5 fun c hc=>by have:=aa c hc;omega
   have gt:=cp.chg a5 fun hm=>by have:=aa _ hm;omega
   have gu:=cq.chg a5 fun hm=>by have:=aa _ hm;omega
   have gv:=cr.chg a5 fun hm=>by have:=aa _ hm;omega
   have gw:=ct.chg a5 fun hm=>by have:=aa _ hm;omega
   have jp:=dh.chg (o1) a5 fun c hc=>by have:=aa c hc;omega
   have jq:=di.chg (o1) a5 fun c hc=>by have:=aa c hc;omega
   have jr:=dj.chg (o1) a5 fun c hc=>by have:=aa c hc;omega
   have js:=et.chg (o1) a5 fun c hc=>by have:=aa c hc;omega
   exact Ac 1 Z<|Ab _ [0,0] Z<|AN ((k+1:Nat):Int) Z Z (Bg oM oM) Aa<|Ac 1 Z ⟨(k+1,fo),_,rfl,zR,⟨gr,(by first|(rw[← Sq oM];exact ev.up o1)|(rw[← Ss oM];exact ev.up o1)),gs,gt,gu,gv,gw,oM,oM,oM,oM,oM,oM⟩,zD⟩
  refine AE false Z Z (A6 ek) Aa<|Aj<|A0<|Ai Z<|A4<|Aw<|Aw<|Aq<|Ab _ [0,0,3,4,0] Z<|Ad 2 Z (BK (u:=vr) (B:=f0.heap.size) o1 C0 Bf Z Z bg (by first|exact A7 _|omega) Aa fun fp fq bi jt gx=>?_)
  have j1:=bi.size
  have ew:=d5.trans bi
  have cu:=bh.ext (o2) bi
  have cv:=az.ext bi
  have cw:=b0.ext bi
  have cx:=b1.ext bi
  have cy:=b2.ext bi
  refine Ij o1 (v:=vo) (a:=fp) C0 Bf Z Z Z cu oM gx oM oM (by rw[Eu];simp only[List.length_cons,List.length_nil];omega) (by rw[Eu];unfold maxLen;simp only[List.length_cons,List.length_nil];omega) Aa fun fr fb k8 cz d2 gy=>?_
  have gz:AG w fb:=cz.below ew (fun c hc=>A8 d4.size (d2 c hc).1) ew.size
  have j2:fq.heap.size≤fb.heap.size:=cz.size
  have i0:=cv.chg cz fun hm=>by have:=d2 _ hm;omega
  have i1:=cw.chg cz fun hm=>by have:=d2 _ hm;omega
  have i2:=cx.chg cz fun hm=>by have:=d2 _ hm;omega
  have i3:=cy.chg cz fun hm=>by have:=d2 _ hm;omega
  exact Ac 1 Z<|Ab _ [0,0] Z<|AN ((i+1:Nat):Int) Z Z (Bg oM oM) Aa<|Ac 1 Z ⟨(i+1,fr),_,rfl,zR,⟨gz,(by have h:=gy.up o2;rw[show k=a.length by omega]at h;rw[← St];exact h),i0,i1,i2,i3,oM,oM,oM,oM,oM,oM⟩,zD⟩
 exact AE false Z Z (A6 eg) Aa<|Aj<|A0<|Ai Z<|A4<|Aw<|Aw<|Aq<|cP [0,0,0] Z<|Ac 3 Z<|A1<|Af [8,9] Z (.tuple #[vo,zI ((0:Nat):Int)]) Z ⟨vo,(by rw[show Ea p f.toNat a=0 by omega];rfl),d1,(by have h:=(bb.up o2).low d4.size;rw[if_pos (show Ea p f.toNat a=0 by omega)];rwa [show i=a.length by omega]at h),ia⟩
theorem I1 (w:World)(dp:Nat)(vp:Value)(p:List Fn)(f:Int)(pick:Int)(va:Value)(a:List Int)(vd:Value)(d:List Int)(hp:RP [] dp w.heap vp p)(_hf:Bw f)(_hpick:Bw pick)(ha:Rd (B2 rI) w.heap va a)(hd:Rd (B2 rI) w.heap vd d)(hli:Nu p f a d=0)(hz:QL p)(hpk:0≤pick∧pick<(((p.getD f.toNat Fn.zero).outs.length:Nat):Int)) :
  Calls Tryz.prog 36 #[(.agg #[vp]),zI f,zI pick,va,vd] w (fun e w'=>∃v0:Value,e=.returned (.tuple #[v0,zI (Ea p f.toNat a)])∧AG w w'∧Fr (Bt rI 2) w.heap.size w'.heap.size w'.heap v0 (if Ea p f.toNat a=0 then(O2 p f.toNat pick.toNat a a.length).map (fun r:List Int=>J2 r d)else [])∧(0≤Ea p f.toNat a∧Ea p f.toNat a≤9)):=by
 refine Ap [.agg #[vp],zI f,zI pick,va,vd] 53 Tryz.func36 Z Z sM ?_
 have b1:AG w w:=AG.refl w
 have bp:=hp.lenle
 unfold maxLen at bp
 have bs:=ha.lenle
 have bt:=hd.lenle
 have ad:=Vc hli
 have bq:=J7 ad.1
 have c0:=bq.par f.toNat oM
 have c1:=bq.outs f.toNat oM
 have hal:=ad.2.2.1.1
 have hna:=ad.2.2.1.2
 have hdl:=ad.2.2.2.1
 have hnd:=ad.2.2.2.2
 refine cP [3,0,0] Z (Bx (cs:=#[vp]) Z Aa fun w1 ap bg ak=>?_)
 have aq:=ap.size
 have ae:=b1.trans ap
 replace ak:BX w1.heap w.heap.size [vp]:=ak
 refine Ac 2 Z<|A0<|cP [2,0,0,0,0,3,0] Z<|AM (p:=zP w.heap.size) (.inr Z) [vp] CI Z (fun bv ar=>LD.of_box<|BX.ext (w:=w1) ak ar) Z Aa<|Ad 4 Z<|Au 113 [] [] [.agg #[vp],zI f,zI pick,va,vd] Z Z Z2 Aa (Kk _ dp vp (p) _ _ _ _ _ _ (hp.ext (Am<|Av dp) ae) _hf _hpick (ha.ext g1 ae) (hd.ext g1 ae) hli hz oM) ?_
 rintro e2 w2 ⟨rfl,af⟩
 refine⟨_,rfl,af,?_⟩
 have bh:=af.size
 have au:=ae.trans af
 have ag:=ak.ext af
 refine Ac 1 Z<|cP [0,0] Z<|Ad 1 Z<|B4 false Z Z sM Aa<|Aj<|Ai Z<|A2<|cP [2,0,0,0,3,0,0,0,0,0] Z<|AM (p:=zP w.heap.size) (.inr Z) [vp] CI Z (fun bv ar=>LD.of_box<|BX.ext (w:=w2) ag ar) Z Aa<|Ad 3 Z<|Au 114 [] [] [.agg #[vp],zI f,zI pick,va] Z Z Z3 Aa (GL _ dp vp (p) _ _ _ _ (hp.ext (Am<|Av dp) au) _hf _hpick (ha.ext g1 au) bq oM oM hna oM) ?_
 rintro e3 w3 ⟨a0,rfl,al,a9,b2⟩
 refine⟨_,rfl,al,?_⟩
 have bi:=al.size
 have am:=au.trans al
 refine Ad 1 Z<|AR (vs:=[a0,zI<|Ea p f.toNat a]) a0 Z Z Aa<|AR (vs:=[a0,zI<|Ea p f.toNat a]) (zI<|Ea p f.toNat a) Z Z Aa<|Ac 2 Z<|A0<|cP [0,0] Z<|Ad 1 Z ?_
 have b3:=‹(0≤Ea p f.toNat a∧Ea p f.toNat a≤9)›
 by_cases b4:Ea p f.toNat a≠((0:Nat):Int)
 ·exact B4 true Z Z (A5 b4) Aa<|Aj<|Ag Z<|cP [0,0,0] Z<|Ac 3 Z<|A1<|An<|Af [10,11] Z (.tuple #[zN,zI<|Ea p f.toNat a]) Z ⟨zN,rfl,am,(by rw[if_neg oM];exact Pb _ _ _),b3⟩
 refine B4 false Z Z (A6 b4) Aa<|Aj<|Ai Z<|A2<|cP [3,0] Z ?_
 have av:Ea p f.toNat a=0:=by omega
 have hrw:=a9
 rw[if_pos av]at hrw
 refine CH (rI) AK Bj BH Aa fun v5 w5 an bj b5=>?_
 have aw:=an.size
 have b6:=am.trans an
 have aa:=hrw.ext (o2) an
 refine Ac 1 Z<|A0<|cP [0,0,0] Z<|Ad 1 Z<|AO (v:=a0) C0 Z aa.isSl Aa<|Ac 1 Z<|A3 ?_
 have hhl:=Eu p f.toNat pick.toNat a a.length
 refine AY (S:=Nat×Value) (fun⟨i,vo⟩=>([(15,vo),(41,zI (i:Int)),(4,vd),(39,a0),(40,zI (((O2 p f.toNat pick.toNat a a.length).length:Nat):Int))])) (fun⟨i,vo⟩ W=>AG w W∧Fr (Bt rI 2) w3.heap.size W.heap.size W.heap vo (((O2 p f.toNat pick.toNat a a.length).take i).map fun r:List Int=>J2 r d)∧Fr (Bt (Bt rI 2) 27) w2.heap.size w3.heap.size W.heap a0 (O2 p f.toNat pick.toNat a a.length)∧i≤a.length∧w3.heap.size≤W.heap.size) (fun⟨i,vo⟩=>a.length-i) (0,v5) ⟨rfl,rfl,rfl,rfl,rfl,trivial⟩ ⟨b6,b5.up o1,aa,oM,oM⟩ ?_
 clear b1 bg ap aq ae af a9 al b5 bj an aw b6
 rintro⟨i,vo⟩ ρ6 w6 ⟨ao,ab,a2,b7,bk⟩
 have bl:w.heap.size≤w6.heap.size:=ao.size
 refine cP [0] Z ?_
 by_cases b8:(i:Int)<(((O2 p f.toNat pick.toNat a a.length).length:Nat):Int)
 ·refine AE true Z Z (A5 b8) Aa<|Aj<|A0<|Ag Z<|A2<|A0<|A3<|cP [0,2,0] Z<|AA (v:=a0) i C0 Bf Z Z a2.isSl Z sD Aa ?_
  obtain⟨b9,ba,bb⟩:=a2.rd2.get (k:=i) [] sD
  have bm:=bb.lenle
  refine Ah (p:=Ay a0 i 1) (.inr Z) b9 Bk Z ba Aa<|Ac 1 Z<|Ab _ [0,0,0,3,3,4,0] Z<|Ad 3 Z<|Au 115 [] [] [b9,vd] Z Z Z4 Aa (OR _ _ _ _ _ bb (hd.ext g1 ao) (by rw[OK oM,Jd];omega) (by rw[OK oM];exact Uo _ _ _ _ _ _) hnd) ?_
  rintro c2 br ⟨rfl,a1⟩
  refine⟨_,rfl,a1,?_⟩
  have bc:=a1.size
  have ax:=ao.trans a1
  have a3:=ab.ext (o1) a1
  have a4:=a2.ext (o2) a1
  have ah:=B7 a1 ba
  refine BK (u:=zI<|J2 ((O2 p f.toNat pick.toNat a a.length).getD i []) d) (B:=br.heap.size) AK Bj BH Z Z (LN br.heap.size br.heap.size _ _<|Rp _ _) (A7 _) Aa fun bw bx a5 bn ai=>?_
  have bd:=a5.size
  have aj:=ax.trans a5
  have a6:=a3.ext (o1) a5
  have a7:=a4.ext (o2) a5
  have be:=B7 a5 ah
  refine EI (v:=vo) (a:=bw) Bj BH Z Z Z a6 oM ai.rd1 (by rw[List.length_map,List.length_take];simp only[List.length_cons,List.length_nil];omega) (by rw[List.length_map,List.length_take];unfold maxLen;simp only[List.length_cons,List.length_nil];omega) Aa fun bz bu c3 a8 ac ay=>?_
  have az:AG w bu:=a8.below aj (fun c hc=>A8 am.size (ac c hc).1) aj.size
  have bf:bx.heap.size≤bu.heap.size:=a8.size
  have b0:=a7.chg (o2) a8 fun c hc=>by have:=ac c hc;omega
  have bo:=ai.chg (o1) a8 fun c hc=>by have:=ac c hc;omega
  exact Ac 1 Z<|Ab _ [0,0] Z<|AN ((i+1:Nat):Int) Z Z (Bg oM (by rw[Eu]at *;omega)) Aa<|Ac 1 Z ⟨(i+1,bz),_,rfl,zR,⟨az,(by rw[G8 [] (by rw[Eu];omega)];exact ay.up o1),b0,oM,oM⟩,zD⟩
 exact AE false Z Z (A6 b8) Aa<|Aj<|A0<|Ai Z<|A4<|Aw<|Aw<|Aq<|cP [0,0,0] Z<|Ac 3 Z<|A1<|Af [10,11] Z (.tuple #[vo,zI ((0:Nat):Int)]) Z ⟨vo,(by rw[av];rfl),ao,(by have h:=(ab.up o1).low am.size;rw[if_pos av];rwa [List.take_of_length_le oM]at h),b3⟩
theorem P6 {p:Prop}(h:p:=by simp only[List.length_cons,List.length_nil];unfold maxLen;omega):p:=h
theorem P7 {p:Prop}(h:p:=by simp only[List.length_cons,List.length_nil];omega):p:=h
theorem JV {p:Prop}(h:p:=by rw[Gz];omega):p:=h
theorem CK (w:World)(S:List Nat)(g:Nat)(vp:Value)(ip:Int)(s0:Nat)(c0:Int)(T:Tp)(c:AD)(v:Int)(hS:∀b∈S,b<w.heap.size)(hgS:g∈S)(hR0:QM 69 208 2 S g w.heap vp ip T s0 c0)(_hip:Bw ip)(hln:T.code.length≤4000∧T.vals.length≤4000)(hc:RQ c)(_hv:Bw v)  :
  Calls Tryz.prog 101 #[zP g,(.agg #[(zI c.op),(zI c.a),(zI c.b),(zI c.num)]),zI v] w (fun e w'=>∃S':List Nat,e=.returned (zI (T.vals.length:Int))∧FH S S' w w'∧QM 69 208 2 S' g w'.heap vp ip (T.put c v) s0 c0):=by
 refine Ap [zP g,.agg #[zI c.op,zI c.a,zI c.b,zI c.num],zI v] 35 Tryz.func101 Z Z sM ?_
 have dr:At S w w:=At.refl S w
 obtain⟨rc0,rg0,rv0,bt,d5⟩:=hR0
 have fi:=bt.lt
 have hG0:FH S S w w:=FH.refl hS
 have hml:=Cp.len d5
 refine cP [3,0] Z ?_
 have eo:=bt.lt
 refine Bx (cs:=#[zI c.op,zI c.a,zI c.b,zI c.num]) Z Aa fun w1 ay ep bu=>?_
 have ds:w.heap.size≤w1.heap.size:=ay.size
 have d6:At S w w1:=dr.ext ay
 have a7:=bt.ext ay
 have dt:=Cp.ext d5 ay
 have d7:=hG0.ext ay
 replace bu:BX w1.heap w.heap.size [zI c.op,zI c.a,zI c.b,zI c.num]:=bu
 refine Ac 1 Z<|A0 ?_
 obtain⟨Fc,Fg,Fv,hOc,hOg,hOv,hdj,hgn,hSc,hSg,hSv⟩:=id dt
 letI:JR:=TB (Fc++Fv)
 refine Jx.Yg _ [0,0,0,0,0,0,1,1,3,3,0,0,0,1,0,3,3,0,0,0,4,0,0,4] [0,1,2,3,4,5,6,7,10,11,12,13,14] 8 9 [15,16,17,18,19,20,21,22,23] 15 [9,16,17,18,19,20,21,22,23] 15 [8,9,16,17,18,19,20,21,22,23] [_,_,_,_,_,_,_,_,_,_,_,_,_] [0,0,0,0,0,0,1,1,0,0,0,1,0] _ _ [_,_,_,_,_,_,_,_,_] [3,3,0,0,0,4,0,0,4] _ [_,_,_,_,_,_,_,_,_] [3,3,0,0,0,4,0,0,4] _ [_,_,_,_,_,_,_,_,_,_] [3,3,3,0,0,0,4,0,0,4] mixed (by kernel_rfl) ⟨rfl,rfl,⟨rfl,rfl,⟨rfl,rfl,⟨rfl,rfl,⟨rfl,rfl,⟨rfl,rfl,⟨rfl,rfl,⟨rfl,rfl,⟨rfl,rfl,⟨rfl,rfl,⟨rfl,rfl,⟨rfl,rfl,⟨rfl,rfl,trivial⟩⟩⟩⟩⟩⟩⟩⟩⟩⟩⟩⟩⟩ ⟨rfl,rfl,trivial⟩ ⟨rfl,rfl,⟨rfl,rfl,⟨rfl,rfl,⟨rfl,rfl,⟨rfl,rfl,⟨rfl,rfl,⟨rfl,rfl,⟨rfl,rfl,⟨rfl,rfl,⟨rfl,rfl,trivial⟩⟩⟩⟩⟩⟩⟩⟩⟩⟩ ⟨rfl,rfl,⟨rfl,rfl,⟨rfl,rfl,⟨rfl,rfl,⟨rfl,rfl,⟨rfl,rfl,⟨rfl,rfl,⟨rfl,rfl,⟨rfl,rfl,⟨rfl,rfl,trivial⟩⟩⟩⟩⟩⟩⟩⟩⟩⟩ ⟨rfl,rfl,⟨rfl,rfl,⟨rfl,rfl,⟨rfl,rfl,⟨rfl,rfl,⟨rfl,rfl,⟨rfl,rfl,⟨rfl,rfl,⟨rfl,rfl,⟨rfl,rfl,⟨rfl,rfl,trivial⟩⟩⟩⟩⟩⟩⟩⟩⟩⟩⟩ ?_
 refine Jx.VY (zP g) Z Aa<|Jx.VY (zP g) Z Aa<|Jx.VY (zP g) Z Aa<|Jx.j1<|AU Z Aa<|Aj ?_
 refine Jx.Ak (p:=zP g) 1 FO Z Z Aa<|Jx.Ak (p:=Ao (zP g) 1) (b:=g) (o:=1) 1 Fw Z Z Aa<|Jx.aH (p:=Ao (Ao (zP g) 1) 1) rc0 Ka Z (fun wj hj=>(BX.chg (w:=w1.drew) (F:=Fc++Fv) a7 hj fun hm=>(List.mem_append.1 hm).elim hgn.1 hgn.2.2).ldp (i:=2) sM) Aa<|Jx.Y9 (p:=zP w.heap.size) [zI c.op,zI c.a,zI c.b,zI c.num] Fx Z (fun wj hj=>LD.of_box<|BX.chg (w:=w1.drew) (F:=Fc++Fv) bu hj fun hm=>(List.mem_append.1 hm).elim (fun h9=>by have:=hS _ (hSc _ h9);omega) fun h9=>by have:=hS _ (hSv _ h9);omega) Z Aa<|Jx.VY (zP g) Z Aa ?_
 refine Jx.j1<|AU Z Aa<|Aj ?_
 refine Jx.Ak (p:=zP g) 5 DI Z Z Aa<|Jx.aH (p:=Ao (zP g) 5) rv0 Bk Z (fun wj hj=>(BX.chg (w:=w1.drew) (F:=Fc++Fv) a7 hj fun hm=>(List.mem_append.1 hm).elim hgn.1 hgn.2.2).ldp (i:=5) sM) Aa<|Jx.VY (zI v) Z Aa<|Jx.Aj ⟨?_,?_⟩
 ·refine Jx.aY<|Gu (cs:=[zI c.op,zI c.a,zI c.b,zI c.num]) (y:=c) (B:=w1.heap.size) B5 OO Jo Z (by decide) Z (RR (U:=w1.heap.size) hc) (A7 _) Aa ?_
  intro v4 w4 ao eq d8
  refine Aj ?_
  have du:w1.heap.size≤w4.heap.size:=ao.size
  have az:=Ow.ext (w:=w1.drew) (As B5) hOc ao
  have b0:=Ow.ext (w:=w1.drew) (Bc AK) hOv ao
  have b1:=Ow.ext (w:=w1.drew) (As Bd) hOg ao
  have d9:=BX.ext (w:=w1.drew) a7 ao
  have da:At S w w4:=d6.drew.ext ao
  have db:=d7.drew.ext ao
  refine Jx.Aj ⟨?_,?_⟩
  ·refine Jx.cU<|ML (v:=rc0) (a:=v4) B5 OO Jo Z (by decide) Z Z az d8 oM (Nat.zero_le _) (Nat.zero_le _) oM (by unfold maxLen;omega) Aa ?_
   intro v5 w5 F5 ap dv b2
   refine Aj ⟨At.sub ap fun b hb=>List.mem_append_left _ hb,?_⟩
   have dw:w4.heap.size≤w5.heap.size:=ap.size
   have bv:=b0.keep (Bc AK) ap fun b hb hm=>hdj.2.1 b hb hm
   have bw:=b1.keep (As Bd) ap fun b hb hm=>hdj.1 b hb hm
   have dx:=BX.chg d9 ap hgn.1
   have dy:At S w w5:=da.trans (ap.sub hSc)
   have dz:=db.more ap hSc
   refine Jx.aY<|BK (u:=zI v) (B:=w5.heap.size) AK Bj BH Z Z (LN w5.heap.size w5.heap.size _ _ _hv) (A7 _) Aa ?_
   intro v6 w6 aq er e0
   refine Aj ?_
   have e1:w5.heap.size≤w6.heap.size:=aq.size
   have bx:=Ow.ext (w:=w5) (As B5) dv aq
   have bz:=Ow.ext (w:=w5) (Bc AK) bv aq
   have c1:=Ow.ext (w:=w5) (As Bd) bw aq
   have e2:=BX.ext (w:=w5) dx aq
   have e3:At S w w6:=dy.ext aq
   have e4:=dz.ext aq
   refine Jx.cU<|KX (v:=rv0) (a:=v6) Bj BH Z Z Z bz e0.rd1 (Nat.zero_le _) P7 P6 Aa ?_
   intro v7 w7 F7 ar dc br
   refine Aj ⟨At.sub ar fun b hb=>List.mem_append_right _ hb,?_⟩
   have e5:w6.heap.size≤w7.heap.size:=ar.size
   have au:=bx.keep (As B5) ar fun b hb hm=>by rcases b2 b hm with h9|h9|h9;exact hdj.2.1 b h9 hb;(have:=hOv.high b hb;omega);(have:=hOv.high b hb;omega)
   have c2:=c1.keep (As Bd) ar fun b hb hm=>hdj.2.2 b hm hb
   have e6:=BX.chg e2 ar hgn.2.2
   have dd:At S w w7:=e3.trans (ar.sub hSv)
   have es:=e4.more ar hSv
   refine Jx.TW Z ?_
   have av:Cp 69 208 2 (F5++(F7++S)) g w7.heap v5 rg0 v7 (T.put c v):=⟨F5,Fg,F7,au.up oM,c2.up oM,dc,⟨fun b hb hm=>by rcases b2 b hb with h9|h9|h9;exact hdj.1 b h9 hm;(have:=hOg.high b hm;omega);(have:=hOg.high b hm;omega),fun b hb hm=>by rcases br b hm with h8|h8;(rcases b2 b hb with h9|h9|h9;exact hdj.2.1 b h9 h8;(have:=hOv.high b h8;omega);(have:=hOv.high b h8;omega));(have:=au.high b hb;omega),fun b hm hb=>by rcases br b hb with h8|h8;exact hdj.2.2 b hm h8;(have:=hOg.high b hm;omega)⟩,⟨fun hm=>by rcases b2 g hm with h9|h9|h9;exact hgn.1 h9;omega;omega,hgn.2.1,fun hm=>by rcases br g hm with h9|h9;exact hgn.2.2 h9;omega⟩,fun b hb=>List.mem_append_left _ hb,fun b hb=>List.mem_append_right _ (List.mem_append_right _ (hSg b hb)),fun b hb=>List.mem_append_right _ (List.mem_append_left _ hb)⟩
   have c3:FH S (F5++(F7++S)) w w7:=⟨fun b hb=>List.mem_append_right _ (List.mem_append_right _ hb),fun b hb=>by rcases List.mem_append.1 hb with hb|hb;(rcases b2 b hb with h9|h9|h9;exact .inl (hSc b h9);(right;omega);(right;omega));rcases List.mem_append.1 hb with hb|hb;(rcases br b hb with h9|h9;exact .inl (hSv b h9);(right;omega));exact .inl hb,fun b hb=>by rcases List.mem_append.1 hb with hb|hb;(have:=au.high b hb;omega);rcases List.mem_append.1 hb with hb|hb;(exact dc.high b hb);(have:=hS b hb;omega),dd⟩
   refine AU Z Aa<|Ak (p:=zP g) 1 FO Z Z Aa<|Ak (p:=Ao (zP g) 1) (b:=g) (o:=1) 1 Fw Z Z Aa (Bl (k:=2) (w:=w7) XO Z Z (Br av.slc) e6 sM Aa fun w9 bs et c4=>?_)
   replace c4:BX w9.heap g [vp,zI ip,v5,rg0,zN,rv0,zI (s0:Int),zI c0]:=c4
   have e7:At S w w9:=dd.trans (bs.sub (AT hgS))
   have e8:=Cp.chg av bs
   have e9:=c3.set hgS bs
   have ea:w7.heap.size≤w9.heap.size:=bs.size
   refine AU Z Aa<|Ak (p:=zP g) 5 DI Z Z Aa (Bl (k:=5) (w:=w9) QI Z Z (Br av.slv) c4 sM Aa fun f2 ae eb af=>?_)
   replace af:BX f2.heap g [vp,zI ip,v5,rg0,zN,v7,zI (s0:Int),zI c0]:=af
   have ec:At S w f2:=e7.trans (ae.sub (AT hgS))
   have b3:=Cp.chg e8 ae
   have c5:=e9.set hgS ae
   have de:w9.heap.size≤f2.heap.size:=ae.size
   exact Aj<|cP [0,0,0,2,0,0,0] Z<|Ad 1 Z<|AU Z Aa<|Ak (p:=zP g) 5 DI Z Z Aa<|Ah (p:=Ao (zP g) 5) (.inr Z) v7 Bk Z (af.ldp (i:=5) sM) Aa<|AO (v:=v7) Bj Z (Cp.slv b3) Aa<|BC (T.vals.length:Int) Z Z (Bg JV JV) Aa<|Ac 1 Z<|A1<|Af [6] Z (zI (T.vals.length:Int)) Z ⟨_,(by rfl),c5,⟨_,_,_,af,b3⟩⟩
  refine Jx.aY<|BK (u:=zI v) (B:=w4.heap.size) AK Bj BH Z Z (LN w4.heap.size w4.heap.size _ _ _hv) (A7 _) Aa ?_
  intro ff f3 a0 ed c6
  refine Aj ?_
  have df:w4.heap.size≤f3.heap.size:=a0.size
  have b4:=Ow.ext (w:=w4) (As B5) az a0
  have b5:=Ow.ext (w:=w4) (Bc AK) b0 a0
  have b6:=Ow.ext (w:=w4) (As Bd) b1 a0
  have c7:=d8.ext (As B5) a0
  have c8:=BX.ext (w:=w4) d9 a0
  have c9:At S w f3:=da.ext a0
  have ca:=db.ext a0
  refine Jx.cU<|ML (v:=rc0) (a:=v4) B5 OO Jo Z (by decide) Z Z b4 c7 oM (Nat.zero_le _) (Nat.zero_le _) oM (by unfold maxLen;omega) Aa ?_
  intro f4 f5 f6 a1 cb a8
  refine Aj ⟨At.sub a1 fun b hb=>List.mem_append_left _ hb,?_⟩
  have dg:f3.heap.size≤f5.heap.size:=a1.size
  have b7:=b5.keep (Bc AK) a1 fun b hb hm=>hdj.2.1 b hb hm
  have b8:=b6.keep (As Bd) a1 fun b hb hm=>hdj.1 b hb hm
  have cc:=c6.chg (o1) a1 fun b hb=>by have:=hOc.high b hb;omega
  have cd:=BX.chg c8 a1 hgn.1
  have ce:At S w f5:=c9.trans (a1.sub hSc)
  have cf:=ca.more a1 hSc
  refine Jx.cU<|KX (v:=rv0) (a:=ff) Bj BH Z Z Z b7 cc.rd1 (Nat.zero_le _) P7 P6 Aa ?_
  intro f0 ew f7 a4 b9 ag
  refine Aj ⟨At.sub a4 fun b hb=>List.mem_append_right _ hb,?_⟩
  have dh:f5.heap.size≤ew.heap.size:=a4.size
  have a9:=cb.keep (As B5) a4 fun b hb hm=>by rcases a8 b hm with h9|h9|h9;exact hdj.2.1 b h9 hb;(have:=hOv.high b hb;omega);(have:=hOv.high b hb;omega)
  have ba:=b8.keep (As Bd) a4 fun b hb hm=>hdj.2.2 b hm hb
  have cg:=BX.chg cd a4 hgn.2.2
  have bb:At S w ew:=ce.trans (a4.sub hSv)
  have ee:=cf.more a4 hSv
  refine Jx.TW Z ?_
  have aa:Cp 69 208 2 (f6++(f7++S)) g ew.heap f4 rg0 f0 (T.put c v):=⟨f6,Fg,f7,a9.up oM,ba.up oM,b9,⟨fun b hb hm=>by rcases a8 b hb with h9|h9|h9;exact hdj.1 b h9 hm;(have:=hOg.high b hm;omega);(have:=hOg.high b hm;omega),fun b hb hm=>by rcases ag b hm with h8|h8;(rcases a8 b hb with h9|h9|h9;exact hdj.2.1 b h9 h8;(have:=hOv.high b h8;omega);(have:=hOv.high b h8;omega));(have:=a9.high b hb;omega),fun b hm hb=>by rcases ag b hb with h8|h8;exact hdj.2.2 b hm h8;(have:=hOg.high b hm;omega)⟩,⟨fun hm=>by rcases a8 g hm with h9|h9|h9;exact hgn.1 h9;omega;omega,hgn.2.1,fun hm=>by rcases ag g hm with h9|h9;exact hgn.2.2 h9;omega⟩,fun b hb=>List.mem_append_left _ hb,fun b hb=>List.mem_append_right _ (List.mem_append_right _ (hSg b hb)),fun b hb=>List.mem_append_right _ (List.mem_append_left _ hb)⟩
  have bc:FH S (f6++(f7++S)) w ew:=⟨fun b hb=>List.mem_append_right _ (List.mem_append_right _ hb),fun b hb=>by rcases List.mem_append.1 hb with hb|hb;(rcases a8 b hb with h9|h9|h9;exact .inl (hSc b h9);(right;omega);(right;omega));rcases List.mem_append.1 hb with hb|hb;(rcases ag b hb with h9|h9;exact .inl (hSv b h9);(right;omega));exact .inl hb,fun b hb=>by rcases List.mem_append.1 hb with hb|hb;(have:=a9.high b hb;omega);rcases List.mem_append.1 hb with hb|hb;(exact b9.high b hb);(have:=hS b hb;omega),bb⟩
  refine AU Z Aa<|Ak (p:=zP g) 1 FO Z Z Aa<|Ak (p:=Ao (zP g) 1) (b:=g) (o:=1) 1 Fw Z Z Aa (Bl (k:=2) (w:=ew) XO Z Z (Br aa.slc) cg sM Aa fun ey ah ef aw=>?_)
  replace aw:BX ey.heap g [vp,zI ip,f4,rg0,zN,rv0,zI (s0:Int),zI c0]:=aw
  have ch:At S w ey:=bb.trans (ah.sub (AT hgS))
  have ci:=Cp.chg aa ah
  have cj:=bc.set hgS ah
  have di:ew.heap.size≤ey.heap.size:=ah.size
  refine AU Z Aa<|Ak (p:=zP g) 5 DI Z Z Aa (Bl (k:=5) (w:=ey) QI Z Z (Br aa.slv) aw sM Aa fun f8 ai eg aj=>?_)
  replace aj:BX f8.heap g [vp,zI ip,f4,rg0,zN,f0,zI (s0:Int),zI c0]:=aj
  have eh:At S w f8:=ch.trans (ai.sub (AT hgS))
  have bd:=Cp.chg ci ai
  have ck:=cj.set hgS ai
  have dj:ey.heap.size≤f8.heap.size:=ai.size
  exact Aj<|cP [0,0,0,2,0,0,0] Z<|Ad 1 Z<|AU Z Aa<|Ak (p:=zP g) 5 DI Z Z Aa<|Ah (p:=Ao (zP g) 5) (.inr Z) f0 Bk Z (aj.ldp (i:=5) sM) Aa<|AO (v:=f0) Bj Z (Cp.slv bd) Aa<|BC (T.vals.length:Int) Z Z (Bg JV JV) Aa<|Ac 1 Z<|A1<|Af [6] Z (zI (T.vals.length:Int)) Z ⟨_,(by rfl),ck,⟨_,_,_,aj,bd⟩⟩
 refine Jx.aY<|BK (u:=zI v) (B:=w1.heap.size) AK Bj BH Z Z (LN w1.heap.size w1.heap.size _ _ _hv) (A7 _) Aa ?_
 intro fg eu a5 ei cl
 refine Aj ?_
 have dk:w1.heap.size≤eu.heap.size:=a5.size
 have be:=Ow.ext (w:=w1.drew) (As B5) hOc a5
 have bf:=Ow.ext (w:=w1.drew) (Bc AK) hOv a5
 have bg:=Ow.ext (w:=w1.drew) (As Bd) hOg a5
 have cm:=BX.ext (w:=w1.drew) a7 a5
 have cn:At S w eu:=d6.drew.ext a5
 have co:=d7.drew.ext a5
 refine Jx.aY<|Gu (cs:=[zI c.op,zI c.a,zI c.b,zI c.num]) (y:=c) (B:=eu.heap.size) B5 OO Jo Z (by decide) Z (RR (U:=eu.heap.size) hc) (A7 _) Aa ?_
 intro fh f9 a2 ej cp
 refine Aj ?_
 have dl:eu.heap.size≤f9.heap.size:=a2.size
 have bh:=Ow.ext (w:=eu) (As B5) be a2
 have bi:=Ow.ext (w:=eu) (Bc AK) bf a2
 have bj:=Ow.ext (w:=eu) (As Bd) bg a2
 have cq:=cl.ext (o1) a2
 have cr:=BX.ext (w:=eu) cm a2
 have ct:At S w f9:=cn.ext a2
 have cu:=co.ext a2
 refine Jx.cU<|ML (v:=rc0) (a:=fh) B5 OO Jo Z (by decide) Z Z bh cp oM (Nat.zero_le _) (Nat.zero_le _) oM (by unfold maxLen;omega) Aa ?_
 intro fa fb fc a3 cv ab
 refine Aj ⟨At.sub a3 fun b hb=>List.mem_append_left _ hb,?_⟩
 have dm:f9.heap.size≤fb.heap.size:=a3.size
 have bk:=bi.keep (Bc AK) a3 fun b hb hm=>hdj.2.1 b hb hm
 have bl:=bj.keep (As Bd) a3 fun b hb hm=>hdj.1 b hb hm
 have cw:=cq.chg (o1) a3 fun b hb=>by have:=hOc.high b hb;omega
 have cx:=BX.chg cr a3 hgn.1
 have cy:At S w fb:=ct.trans (a3.sub hSc)
 have cz:=cu.more a3 hSc
 refine Jx.cU<|KX (v:=rv0) (a:=fg) Bj BH Z Z Z bk cw.rd1 (Nat.zero_le _) P7 P6 Aa ?_
 intro f1 ex fd a6 bm ak
 refine Aj ⟨At.sub a6 fun b hb=>List.mem_append_right _ hb,?_⟩
 have dn:fb.heap.size≤ex.heap.size:=a6.size
 have ac:=cv.keep (As B5) a6 fun b hb hm=>by rcases ab b hm with h9|h9|h9;exact hdj.2.1 b h9 hb;(have:=hOv.high b hb;omega);(have:=hOv.high b hb;omega)
 have bn:=bl.keep (As Bd) a6 fun b hb hm=>hdj.2.2 b hm hb
 have d0:=BX.chg cx a6 hgn.2.2
 have bo:At S w ex:=cy.trans (a6.sub hSv)
 have ek:=cz.more a6 hSv
 refine Jx.TW Z ?_
 have ad:Cp 69 208 2 (fc++(fd++S)) g ex.heap fa rg0 f1 (T.put c v):=⟨fc,Fg,fd,ac.up oM,bn.up oM,bm,⟨fun b hb hm=>by rcases ab b hb with h9|h9|h9;exact hdj.1 b h9 hm;(have:=hOg.high b hm;omega);(have:=hOg.high b hm;omega),fun b hb hm=>by rcases ak b hm with h8|h8;(rcases ab b hb with h9|h9|h9;exact hdj.2.1 b h9 h8;(have:=hOv.high b h8;omega);(have:=hOv.high b h8;omega));(have:=ac.high b hb;omega),fun b hm hb=>by rcases ak b hb with h8|h8;exact hdj.2.2 b hm h8;(have:=hOg.high b hm;omega)⟩,⟨fun hm=>by rcases ab g hm with h9|h9|h9;exact hgn.1 h9;omega;omega,hgn.2.1,fun hm=>by rcases ak g hm with h9|h9;exact hgn.2.2 h9;omega⟩,fun b hb=>List.mem_append_left _ hb,fun b hb=>List.mem_append_right _ (List.mem_append_right _ (hSg b hb)),fun b hb=>List.mem_append_right _ (List.mem_append_left _ hb)⟩
 have bp:FH S (fc++(fd++S)) w ex:=⟨fun b hb=>List.mem_append_right _ (List.mem_append_right _ hb),fun b hb=>by rcases List.mem_append.1 hb with hb|hb;(rcases ab b hb with h9|h9|h9;exact .inl (hSc b h9);(right;omega);(right;omega));rcases List.mem_append.1 hb with hb|hb;(rcases ak b hb with h9|h9;exact .inl (hSv b h9);(right;omega));exact .inl hb,fun b hb=>by rcases List.mem_append.1 hb with hb|hb;(have:=ac.high b hb;omega);rcases List.mem_append.1 hb with hb|hb;(exact bm.high b hb);(have:=hS b hb;omega),bo⟩
 refine AU Z Aa<|Ak (p:=zP g) 1 FO Z Z Aa<|Ak (p:=Ao (zP g) 1) (b:=g) (o:=1) 1 Fw Z Z Aa (Bl (k:=2) (w:=ex) XO Z Z (Br ad.slc) d0 sM Aa fun ez al el ax=>?_)
 replace ax:BX ez.heap g [vp,zI ip,fa,rg0,zN,rv0,zI (s0:Int),zI c0]:=ax
 have d1:At S w ez:=bo.trans (al.sub (AT hgS))
 have d2:=Cp.chg ad al
 have d3:=bp.set hgS al
 have dp:ex.heap.size≤ez.heap.size:=al.size
 refine AU Z Aa<|Ak (p:=zP g) 5 DI Z Z Aa (Bl (k:=5) (w:=ez) QI Z Z (Br ad.slv) ax sM Aa fun fe am em an=>?_)
 replace an:BX fe.heap g [vp,zI ip,fa,rg0,zN,f1,zI (s0:Int),zI c0]:=an
 have en:At S w fe:=d1.trans (am.sub (AT hgS))
 have bq:=Cp.chg d2 am
 have d4:=d3.set hgS am
 have dq:ez.heap.size≤fe.heap.size:=am.size
 exact Aj<|cP [0,0,0,2,0,0,0] Z<|Ad 1 Z<|AU Z Aa<|Ak (p:=zP g) 5 DI Z Z Aa<|Ah (p:=Ao (zP g) 5) (.inr Z) f1 Bk Z (an.ldp (i:=5) sM) Aa<|AO (v:=f1) Bj Z (Cp.slv bq) Aa<|BC (T.vals.length:Int) Z Z (Bg JV JV) Aa<|Ac 1 Z<|A1<|Af [6] Z (zI (T.vals.length:Int)) Z ⟨_,(by rfl),d4,⟨_,_,_,an,bq⟩⟩
def ZZ (F d:Nat):Prop:=∀(w:World) (S:List Nat) (g:Nat) (vp:Value) (dp:Nat) (ip:Int) (s0:Nat) (c0:Int) (p:List Fn) (T:Tp) (ve:Value) (ex:Ex) (vv:Value) (env:List Int) (hS:∀b∈S,b<w.heap.size) (hgS:g∈S) (hR0:QM 69 208 2 S g w.heap vp ip T s0 c0) (hp:RP S dp w.heap vp p) (_hip:Bw ip) (hs0:s0≤3000) (hc0:0≤c0∧c0≤9) (hbd:JK T s0) (hex:RX S d w.heap ve ex) (henv:RN S (B2 rI) w.heap vv env) (hqenv:Ci vv)
  (hvp:HW p) (hF:F≤p.length) (hwf:wf p ((F:Nat):Int) ex ((env.length:Nat):Int)=true) (hdp:env.length+ex.deep≤1000000) (hen:c0=0→K8 T env),
  Calls Tryz.prog 181 #[.pointer (some ⟨g,0,none⟩),.agg #[.int .i64 ex.kind,.int .i64 ex.num,.int .i64 ex.pick,.int .i64 ex.count,ve],vv] w (fun e w'=>∃(r:Int) (S':List Nat) (T':Tp) (s1:Nat) (c1:Int),e=.returned (.int .i64 r)∧FH S S' w w'∧QM 69 208 2 S' g w'.heap vp ip T' s1 c1∧V4 T T' s0 s1 c1∧(c1=0→0≤r∧r<((T'.vals.length:Nat):Int))∧(Bw r)∧AH (go c0 (GQ (Kd p F) ex env s0 T)) (r,T') s1 c1)
def cY (F d:Nat):Prop:=∀(w:World) (S:List Nat) (g:Nat) (vp:Value) (dp:Nat) (ip:Int) (s0:Nat) (c0:Int) (p:List Fn) (T:Tp) (vl:Value) (l:List Ex) (vv:Value) (env:List Int) (hS:∀b∈S,b<w.heap.size) (hgS:g∈S) (hR0:QM 69 208 2 S g w.heap vp ip T s0 c0) (hp:RP S dp w.heap vp p) (_hip:Bw ip) (hs0:s0≤3000) (hc0:0≤c0∧c0≤9) (hbd:JK T s0) (hl:RN S (DS 5 (LO d)) w.heap vl l) (henv:RN S (B2 rI) w.heap vv env) (hqenv:Ci vv)
  (hvp:HW p) (hF:F≤p.length) (hwf:∀k,k<l.length→wf p ((F:Nat):Int) (l.getD k Ex.zero) ((env.length:Nat):Int)=true) (hdp:∀k,k<l.length→env.length+(l.getD k Ex.zero).deep≤1000000) (hll:l.length≤1000000) (hen:c0=0→K8 T env),
  Calls Tryz.prog 102 #[.pointer (some ⟨g,0,none⟩),vl,vv] w (fun e w'=>∃(v:Value) (xs:List Int) (S':List Nat) (T':Tp) (s1:Nat) (c1:Int),e=.returned v∧FH S S' w w'∧QM 69 208 2 S' g w'.heap vp ip T' s1 c1∧V4 T T' s0 s1 c1∧QA S' w.heap.size (B2 rI) w'.heap v xs∧Ci v∧xs.length=l.length∧(c1=0→K8 T' xs)∧AH (go c0 (HM (Kd p F) l env s0 T)) (xs,T') s1 c1)
theorem I2 (w:World)(S:List Nat)(F:Nat)(g:Nat)(vp:Value)(dp:Nat)(ip:Int)(s0:Nat)(c0:Int)(p:List Fn)(T:Tp)(dl:Nat)(vl:Value)(l:List Ex)(vv:Value)(env:List Int)(hS:∀b∈S,b<w.heap.size)(hgS:g∈S)(hR0:QM 69 208 2 S g w.heap vp ip T s0 c0)(hp:RP S dp w.heap vp p)(_hip:Bw ip)(hs0:s0≤3000)(hc0:0≤c0∧c0≤9)(hbd:JK T s0)(hl:RN S (DS 5 (LO dl)) w.heap vl l)(henv:RN S (B2 rI) w.heap vv env)(hqenv:Ci vv)(hvp:HW p)(hF:F≤p.length)(hwf:∀k,k<l.length→wf p (F:Int) (l.getD k Ex.zero) (env.length:Int)=true)(hdp:∀k,k<l.length→env.length+(l.getD k Ex.zero).deep≤1000000)(hll:l.length≤1000000)(hen:c0=0→K8 T env)(IHv:∀d',d'<dl→ZZ F d') :
  Calls Tryz.prog 102 #[zP g,vl,vv] w (fun e w'=>∃(v:Value) (xs:List Int) (S':List Nat) (T':Tp) (s1:Nat) (c1:Int),e=.returned v∧FH S S' w w'∧QM 69 208 2 S' g w'.heap vp ip T' s1 c1∧V4 T T' s0 s1 c1∧QA S' w.heap.size (B2 rI) w'.heap v xs∧Ci v∧xs.length=l.length∧(c1=0→K8 T' xs)∧AH (go c0 (HM (Kd p F) l env s0 T)) (xs,T') s1 c1):=by
 refine Ap [zP g,vl,vv] 26 Tryz.func102 Z Z sM ?_
 have bd:At S w w:=At.refl S w
 have ce:=hp.lenle
 unfold maxLen at ce
 have cf:=hl.lenle
 unfold maxLen at cf
 have cg:=henv.lenL
 unfold maxLen at cg
 obtain⟨rc0,rg0,rv0,be,bf⟩:=hR0
 have cu:=be.lt
 have hG0:FH S S w w:=FH.refl hS
 refine cQ Z<|cP [3,0] Z (CH (rI) AK Bj BH Aa fun v1 w1 ab bs bg=>?_)
 have ao:w.heap.size≤w1.heap.size:=ab.size
 have bh:At S w w1:=bd.ext ab
 have ae:=be.ext ab
 have bi:=Cp.ext bf ab
 have bj:=hG0.ext ab
 refine Ac 1 Z<|A0<|cP [0,0,0] Z<|Ad 1 Z<|AO (v:=vl) D5 Z hl.isSl Aa<|Ac 1 Z<|A3 ?_
 obtain⟨Fo0,af⟩:=Ow.of_fr bg (A7 _)
 have ap:∀b∈Fo0,b∉S:=fun b hb hm=>by have:=af.low b hb;have:=hS b hm;omega
 have hMs:=bi
 have hGs:=bj
 refine AY (S:=Nat×Value×List Int×List Nat×List Nat×Tp×Nat×Int×Value×Value×Value) (fun⟨k,vo,xs,Fo,S9,T9,s9,c9,ch,vg9,vv9⟩=>([(7,vo),(13,zI (k:Int)),(0,zP g),(2,vv),(11,vl),(12,zI (l.length:Int))])) (fun⟨k,vo,xs,Fo,S9,T9,s9,c9,ch,vg9,vv9⟩ W=>At S w W∧BX W.heap g [vp,zI ip,ch,vg9,zN,vv9,zI (s9:Int),zI c9]∧k≤l.length∧FH S S9 w W∧Cp 69 208 2 S9 g W.heap ch vg9 vv9 T9∧V4 T T9 s0 s9 c9∧Ow (Bt rI 2) w.heap.size W.heap.size W.heap vo xs Fo∧(∀b∈Fo,b∉S9)∧xs.length=k∧(c9=0→c0=0)∧(c9=0→K8 T9 xs)∧AH (go c0<|HM (Kd p F) (l.take k) env s0 T) (xs,T9) s9 c9) (fun⟨k,vo,xs,Fo,S9,T9,s9,c9,ch,vg9,vv9⟩=>l.length-k) (0,v1,[],Fo0,S,T,s0,c0,rc0,rg0,rv0) ⟨rfl,rfl,rfl,rfl,rfl,rfl,trivial⟩ ⟨bh,ae,sD,hGs,hMs,(by exact⟨hbd,zO⟩),af,ap,(by rfl),(by exact fun h=>h),(by exact fun _=>K8.nil _),(by exact RW _ _ _ _ _ _)⟩ ?_
 clear bd bf hG0 bg bs ab ao bh bi bj
 rintro⟨k,vo,xs,Fo,S9,T9,s9,c9,ch,vg9,vv9⟩ ρ3 w3 ⟨aq,a3,bk,hGl,hMl,hPl,hOl,hdl,hxl,hzl,hxb,hrl⟩
 have bt:w.heap.size≤w3.heap.size:=aq.size
 have c7:=a3.lt
 have hnl:=hPl.num
 have hbl:=hPl.bnd
 refine cP [0] Z ?_
 by_cases bl:(k:Int)<(l.length:Int)
 ·refine AE true Z Z (A5 bl) Aa<|Aj<|A0<|Ag Z<|A2<|A0<|A3<|cP [0,2,3,4] Z ?_
  have hkl:k<l.length:=by omega
  refine AA (v:=vl) k D5 Bn Z Z hl.isSl Z sD Aa ?_
  obtain⟨cs6,bu,bv⟩:=hl.get (Ax dl) Ex.zero (k:=k) sD
  obtain⟨dd6,ac,c8,rfl,am⟩:=RX.of bu
  have ar:=am.rn.lenle
  unfold maxLen at ar
  refine AM (p:=Ay vl k 5) (.inr Z) [zI<|(l.getD k Ex.zero).kind,zI<|(l.getD k Ex.zero).num,zI<|(l.getD k Ex.zero).pick,zI<|(l.getD k Ex.zero).count,ac] B6 Z (fun cl au=>bv cl<|aq.ext au) Z Aa ?_
  have ca:=a3.lt
  refine Bp (z:=.agg #[zI 0,zI 0,zI 0,zI 0,zN]) Hq Aa fun w7 ad cb av=>?_
  have bw:w3.heap.size≤w7.heap.size:=ad.size
  have bx:At S w w7:=aq.ext ad
  have a7:=a3.ext ad
  have bz:=Cp.ext hMl ad
  have c2:=hGl.ext ad
  have hO10k:=hOl.ext (Bc AK) ad
  replace av:BX w7.heap w3.heap.size [zI 0,zI 0,zI 0,zI 0,zN]:=av
  refine Bz (vs:=[zI<|(l.getD k Ex.zero).kind,zI<|(l.getD k Ex.zero).num,zI<|(l.getD k Ex.zero).pick,zI<|(l.getD k Ex.zero).count,ac]) B6 Z Z am.ones av Z Z Aa fun cc a4 c3 a8=>?_
  replace a8:BX cc.heap w3.heap.size [zI ((l.getD k Ex.zero).kind),zI ((l.getD k Ex.zero).num),zI ((l.getD k Ex.zero).pick),zI ((l.getD k Ex.zero).count),ac]:=a8
  have a9:At S w cc:=bx.fresh a4 (fun _ h=>zE h)
  have aw:=Cp.chgO bz a4 fun b hb hm=>by rw[A9 hb]at hm;exact(by have:=hGl.lt _ hm;omega)
  have a1:=c2.fresh a4 fun _ h=>zE h
  have bm:w7.heap.size≤cc.heap.size:=a4.size
  have ax:=a7.chg a4 (zB ·)
  have ag:=hO10k.keep (Bc AK) a4 fun b hb hm=>by have:=A9 hb;have:=hO10k.low _ hm;have:=hO10k.high _ hm;omega
  refine Aj<|Ab _ [0,0,2,0,4,3,4,0] Z<|Ad 2 Z<|AM (p:=zP w3.heap.size) (.inr Z) [zI<|(l.getD k Ex.zero).kind,zI<|(l.getD k Ex.zero).num,zI<|(l.getD k Ex.zero).pick,zI<|(l.getD k Ex.zero).count,ac] B6 Z (fun cl au=>LD.of_box<|BX.ext (w:=cc) a8 au) Z Aa<|Ad 1 Z ?_
  refine AB 181 [] [] [zP g,.agg #[zI<|(l.getD k Ex.zero).kind,zI<|(l.getD k Ex.zero).num,zI<|(l.getD k Ex.zero).pick,zI<|(l.getD k Ex.zero).count,ac],vv] Z Z Lj Aa (IHv dd6 oM _ S9 g vp dp ip (s9) (c9) p (T9) ac (l.getD k Ex.zero) vv (env) (fun b hb=>(a1.lt b hb:b<cc.heap.size)) (a1.sub _ hgS) ⟨_,_,_,ax,aw⟩ (RN.stp (Am<|Av dp) hp a9 a1.new) _hip oM oM hbl ⟨am.rng,RN.stp (Am<|Ax dd6) am.rn a9 a1.new⟩ (RN.stp g1 henv a9 a1.new) hqenv hvp oM (by exact hwf k hkl) (by exact hdp k hkl) (by intro h9;exact(hen<|hzl h9).mono oM)) ?_
  rintro cw cd ⟨cm,ci,cn,co,cp,rfl,a0,⟨cj,vg18,vv18,ay,az⟩,ah,ai,aj,ak⟩
  refine⟨_,rfl,?_⟩
  have bn:cc.heap.size≤cd.heap.size:=a0.chg.size
  have b0:At S w cd:=a9.stp a0.chg a1.new
  have b1:=ag.keep (Bc AK) a0.chg fun b hb hm=>hdl b hm hb
  have a5:∀b∈Fo,b∉ci:=fun b hb hm=>(a0.new b hm).elim (hdl b hb) (fun h9=>by have:=ag.high b hb;omega)
  have b2:=a8.chg a0.chg fun hm=>(by have:=hGl.lt _ hm;omega)
  have b3:w3.heap.size∉ci:=fun hm=>(a0.new _ hm).elim (fun hm=>(by have:=hGl.lt _ hm;omega)) (fun h9=>by omega)
  have b4:=a1.trans a0
  have bo:=ah.bnd
  have bp:=ah.num
  have hcz:=fun h9=>Yi ak h9
  have hrv:=ai
  refine (BK (u:=zI cm) (B:=cd.heap.size) AK Bj BH Z Z (LN cd.heap.size cd.heap.size _ _ aj) (A7 _) Aa ?_)
  intro cs ck a2 c4 b5
  have bq:cd.heap.size≤ck.heap.size:=a2.size
  have b6:At S w ck:=b0.ext a2
  have aa:=ay.ext a2
  have an:=b2.ext a2
  have b7:=Cp.ext az a2
  have al:=b4.ext a2
  have hO29k:=b1.ext (Bc AK) a2
  refine KX (v:=vo) (a:=cs) Bj BH Z Z Z hO29k b5.rd1 oM sD (by unfold maxLen;first|omega|assumption|(simp;done)|(simp;omega)) Aa fun ct cq cr a6 c5 b8=>?_
  have br:ck.heap.size≤cq.heap.size:=a6.size
  have b9:At S w cq:=b6.fresh a6 (fun c hc=>by have:=hO29k.low c hc;omega)
  have c6:∀b∈cr,b∉ci:=fun b hb hm=>(b8 b hb).elim (fun h9=>a5 b h9 hm) (fun h9=>by have:=al.lt b hm;omega)
  have ba:=Cp.chgO b7 a6 a5
  have bb:=al.fresh a6 fun c hc=>by have:=hO29k.low c hc;omega
  have bc:=aa.chg a6 fun hm=>by have:=hO29k.low _ hm;omega
  refine Ac 1 Z<|Ab _ [0,0] Z<|AN ((k+1:Nat):Int) Z Z (Bg oM oM) Aa<|Ac 1 Z ?_
  have hMe:=ba
  have hGe:=bb
  have hPe:V4 T cn s0 co cp:=⟨by assumption,zO⟩
  exact⟨(k+1,ct,xs++[cm],cr,ci,cn,co,cp,cj,vg18,vv18),_,rfl,zR,⟨b9,bc,sD,hGe,hMe,hPe,(by assumption),(by assumption),(by rw[List.length_append,List.length_singleton,hxl]),(by exact fun h9=>hzl (hcz h9)),(by exact fun h9=>K8.snoc ((hxb (hcz h9)).mono oM) (hrv h9)),(by exact U7 oM hrl (by assumption))⟩,zD⟩
 exact AE false Z Z (A6 bl) Aa<|Aj<|A0<|Ai Z<|A4<|Aw<|Aw<|Aq<|cP [0,0] Z<|Ac 2 Z<|A1<|Af [6] Z vo Z ⟨vo,xs,_,T9,s9,c9,rfl,hGl,⟨_,_,_,a3,hMl⟩,⟨hbl,oM⟩,QA.of_ow hOl hdl,hOl.fr.cap,oM,hxb,(by rw[List.take_of_length_le oM]at hrl;exact hrl)⟩
theorem EQ (w:World)(v:Value)(n:Nat)(hs:ET v n)(hcs:Ci v)  :
  Calls Tryz.prog 228 #[v] w (fun e w'=>e=.returned (DQ v)∧w'=w):=by
 refine Ap [v] 9 Tryz.func228 Z Z sM ?_
 have a0:w=w:=rfl
 exact cQ Z<|cP [0,0,0,0,0,0,0] Z<|Ad 2 Z<|AO (v:=v) Bj Z hs Aa<|Ad 1 Z<|AO (v:=v) Bj Z hs Aa<|R5 (v:=v) Bj BH Z hs Z Z hcs Aa<|Ac 1 Z<|A1<|Af [2] Z (DQ v) Z ⟨rfl,a0⟩
theorem JW {p:Prop}(h:p:=by first|rw[(RY (k:=c_op) (a:=a) (b:=b) oM).1,(RY (k:=c_op) (a:=a) (b:=b) oM).2] <;> rfl|rw[(RZ (k:=c_op) (a:=a) (b:=b) oM).1,(RZ (k:=c_op) (a:=a) (b:=b) oM).2] <;> rfl|rw[(S0 (k:=c_op) (a:=a) (b:=b) oM).1,(S0 (k:=c_op) (a:=a) (b:=b) oM).2] <;> rfl|rw[(S3 (k:=c_op) (a:=a) (b:=b) oM).1,(S3 (k:=c_op) (a:=a) (b:=b) oM).2] <;> rfl|rw[(PE (k:=c_op) (a:=a) (b:=b) oM oM).1,(PE (k:=c_op) (a:=a) (b:=b) oM oM).2] <;> rfl|rw[(S4 (k:=c_op) (a:=a) (b:=b) oM oM).1,(S4 (k:=c_op) (a:=a) (b:=b) oM oM).2] <;> rfl):p:=h
theorem GW (w:World)(c_op c_a c_b c_n:Int)(a:Int)(b:Int)(_hc_op:Bw c_op)(_hc_a:Bw c_a)(_hc_b:Bw c_b)(_hc_n:Bw c_n)(_ha:Bw a)(_hb:Bw b)(hop:3≤c_op∧c_op≤7) :
  Calls Tryz.prog 258 #[(.agg #[(zI c_op),(zI c_a),(zI c_b),(zI c_n)]),zI a,zI b] w (fun e w'=>e=.returned (.tuple #[zI (if E8 c_op b then 0 else GZ c_op a b),.bool (!decide (E8 c_op b))])∧AG w w'):=by
 refine Ap [.agg #[zI c_op,zI c_a,zI c_b,zI c_n],zI a,zI b] 35 Tryz.func258 Z Z sM ?_
 have a8:AG w w:=AG.refl w
 refine cP [3,0,0] Z (Bx (cs:=#[zI c_op,zI c_a,zI c_b,zI c_n]) Z Aa fun w1 a3 aa a2=>?_)
 have a9:=a3.size
 have a0:=a8.trans a3
 replace a2:BX w1.heap w.heap.size [zI c_op,zI c_a,zI c_b,zI c_n]:=a2
 refine Ac 2 Z<|A0<|cP [0,2] Z<|Ak (p:=zP w.heap.size) 0 Lq Z Z Aa<|Ah (p:=Ao (zP w.heap.size) 0) (.inr Z) (zI c_op) AC Z (a2.ldp (i:=0) sM) Aa<|Aj<|A3<|cP [0,0] Z ?_
 by_cases a4:c_op=((3:Nat):Int)
 ·refine Al true Z Z (A5 a4) Aa<|Ac 1 Z<|Ag Z<|cP [0,0,0,0,0] Z<|Ad 2 Z<|Az 230 [] [] [zI a,zI b] Z Z T4 Aa (zI<|md (a+b)) (fun wq=>Hr wq _ _ _ha _hb)<|Ac 2 Z<|A1<|AF<|An ?_
  exact Af [6,7] Z (.tuple #[zI<|md (a+b),.bool true]) Z ⟨JW,a0⟩
 refine Al false Z Z (A6 a4) Aa<|Ac 1 Z<|Ai Z<|cP [0,0] Z ?_
 by_cases a5:c_op=((4:Nat):Int)
 ·refine Al true Z Z (A5 a5) Aa<|Ac 1 Z<|Ag Z<|cP [0,0,0,0,0] Z<|Ad 2 Z<|Az 191 [] [] [zI a,zI b] Z Z Qa Aa (zI<|md (a-b)) (fun wq=>EY wq _ _ _ha _hb)<|Ac 2 Z<|A1<|AF<|An ?_
  exact Af [6,7] Z (.tuple #[zI<|md (a-b),.bool true]) Z ⟨JW,a0⟩
 refine Al false Z Z (A6 a5) Aa<|Ac 1 Z<|Ai Z<|cP [0,0] Z ?_
 by_cases a6:c_op=((5:Nat):Int)
 ·refine Al true Z Z (A5 a6) Aa<|Ac 1 Z<|Ag Z<|cP [0,0,0,0,0] Z<|Ad 2 Z<|Az 190 [] [] [zI a,zI b] Z Z SZ Aa (zI<|md (a*b)) (fun wq=>GI wq _ _ _ha _hb)<|Ac 2 Z<|A1<|AF<|An ?_
  exact Af [6,7] Z (.tuple #[zI<|md (a*b),.bool true]) Z ⟨JW,a0⟩
 refine Al false Z Z (A6 a6) Aa<|Ac 1 Z<|Ai Z<|cP [0,0] Z ?_
 by_cases a7:c_op=((7:Nat):Int)
 ·refine Al true Z Z (A5 a7) Aa<|Ac 1 Z<|Ag Z<|cP [0,0,0,0] Z<|Ad 1 Z<|Az 191 [] [] [zI ((0:Nat):Int),zI a] Z Z Qa Aa (zI<|md (((0:Nat):Int)-a)) (fun wq=>EY wq _ _ oM _ha)<|Ac 2 Z<|A1<|AF<|An ?_
  exact Af [6,7] Z (.tuple #[zI<|md (((0:Nat):Int)-a),.bool true]) Z ⟨JW,a0⟩
 refine Al false Z Z (A6 a7) Aa<|Ac 1 Z<|Ai Z<|A2<|A0<|cP [0,0] Z<|Ad 1 Z ?_
 by_cases a1:b=((0:Nat):Int)
 ·refine Al true Z Z (A5 a1) Aa<|Aj<|Ag Z<|cP [0,0] Z<|Ac 2 Z<|A1<|An ?_
  exact Af [6,7] Z (.tuple #[zI ((0:Nat):Int),.bool false]) Z ⟨JW,a0⟩
 refine Al false Z Z (A6 a1) Aa<|Aj<|Ai Z<|A2<|cP [0,0,0,0,0,0] Z<|Ad 2 Z<|Az 226 [] [] [zI b] Z Z VD Aa (zI<|inv b) (fun wq=>Hs wq _ _hb)<|Az 190 [] [] [zI a,zI<|inv b] Z Z SZ Aa (zI<|md (a*(inv b))) (fun wq=>GI wq _ _ _ha<|Pk _)<|Ac 2 Z<|A1 ?_
 exact Af [6,7] Z (.tuple #[zI<|md (a*(inv b)),.bool true]) Z ⟨JW,a0⟩
theorem Nn {p:Prop}(h:p:=by first|exact U9 hc00 oM (Yj (by assumption))|exact Ua hc00 oM (aZ (by assumption))|exact Ub hc00 oM|exact absurd (Yj (Q:=E8 op _) (by assumption)) (V3 oM)):p:=h
theorem No {p:Prop}(h:p:=by first|(intro h9;exact absurd h9 oM)|(intro h9;omega)):p:=h
theorem Np {p:Prop}(h:p:=by first|exact hbd.up oM|exact hbd.put _ hvr):p:=h
theorem E7 {p:Prop}(h:p:=by have:=hG0.lt _ hm;omega):p:=h
theorem FI (w:World)(S:List Nat)(g:Nat)(vp:Value)(dp:Nat)(ip:Int)(s0:Nat)(c0:Int)(p:List Fn)(T:Tp)(op:Int)(vk:Value)(ks:List Int)(hS:∀b∈S,b<w.heap.size)(hgS:g∈S)(hR0:QM 69 208 2 S g w.heap vp ip T s0 c0)(hp:RP S dp w.heap vp p)(_hip:Bw ip)(hs0:s0≤3000)(hc0:0≤c0∧c0≤9)(hbd:JK T s0)(_hop:Bw op)(hks:RN S (B2 rI) w.heap vk ks)(hqks:Ci vk)(hop:3≤op∧op≤7)(hkl:1≤ks.length∧(op≠7→2≤ks.length))(hen:K8 T ks)(hc00:c0=0) :
  Calls Tryz.prog 229 #[zP g,zI op,vk] w (fun e w'=>∃(r:Int) (S':List Nat) (T':Tp) (c1:Int),e=.returned (zI r)∧FH S S' w w'∧QM 69 208 2 S' g w'.heap vp ip T' s0 c1∧JK T' (s0+1)∧((0≤c1∧c1≤9)∧T.vals.length≤T'.vals.length∧T'.vals.length≤T.vals.length+1∧T'.grd.length=T.grd.length)∧(c1=0→0≤r∧r<(T'.vals.length:Int))∧(Bw r)∧AH (go c0 (RS op ks s0 T)) (r,T') s0 c1):=by
 refine Ap [zP g,zI op,vk] 51 Tryz.func229 Z Z sM ?_
 have bi:At S w w:=At.refl S w
 have cd:=hp.lenle
 unfold maxLen at cd
 have cg:=hks.lenL
 unfold maxLen at cg
 obtain⟨rc0,rg0,rv0,b0,bv⟩:=hR0
 have cx:=b0.lt
 have hG0:FH S S w w:=FH.refl hS
 have ch:=hen 0 oM
 have hbn:=hbd.ln hs0
 refine cQ Z<|cP [0,0,0,2,0,3,4] Z<|Ad 2 Z<|AA (v:=vk) 0 Bj BH Z Z hks.slL Z sD Aa ?_
 have am:=RN.getI (w:=w) (k:=0) hks sD
 refine Ah (p:=Ay vk 0 1) (.inr Z) (zI<|ks.getD 0 0) AC Z (am.1 _ bi) Aa ?_
 have b1:∀(wq:World),(Instr.build 69 #[(0,zI op),(1,zI (ks.getD 0 0))]).run Tryz.prog wq=.ok (.agg #[zI op,zI (ks.getD 0 0),zI 0,zI 0]) wq:=by intro wq;kernel_rfl
 refine Cf (ps:=#[(0,zI op),(1,zI<|ks.getD 0 0)]) (.agg #[zI op,zI<|ks.getD 0 0,zI 0,zI 0]) (by simp only[List.map_toArray,List.map_cons,List.map_nil];rfl) (fun wq=>b1  wq) Aa ?_
 have ci:=b0.lt
 refine Bp (z:=.agg #[zI 0,zI 0,zI 0,zI 0]) T8 Aa fun w3 an cj b2=>?_
 have bw:w.heap.size≤w3.heap.size:=an.size
 have bx:At S w w3:=bi.ext an
 have ao:=b0.ext an
 have bz:=Cp.ext bv an
 have c2:=hG0.ext an
 replace b2:BX w3.heap w.heap.size [zI 0,zI 0,zI 0,zI 0]:=b2
 refine Bz (vs:=[zI op,zI<|ks.getD 0 0,zI (0:Int),zI (0:Int)]) Fx Z Z (by intro u hu;simp only[List.mem_cons,List.not_mem_nil,or_false]at hu;rcases hu with rfl|rfl|rfl|rfl <;> first|exact⟨rfl,rfl⟩) b2 Z Z Aa fun w6 ap ck ag=>?_
 replace ag:BX w6.heap w.heap.size [zI op,zI (ks.getD 0 0),zI (0:Int),zI (0:Int)]:=ag
 have b3:At S w w6:=bx.fresh ap (fun _ h=>zE h)
 have af:=Cp.chgO bz ap fun b hb hm=>by rw[A9 hb]at hm;exact E7
 have bj:=c2.fresh ap fun _ h=>zE h
 have c3:w3.heap.size≤w6.heap.size:=ap.size
 have az:=ao.chg ap (zB ·)
 refine Aj<|A0<|cP [0,0] Z<|Ad 1 Z ?_
 by_cases aq:op≠((7:Nat):Int)
 ·refine B4 true Z Z (A5 aq) Aa<|Aj<|Ag Z<|Ab _ [0,0,2,0,4] Z ?_
  have cl:=hen 1 oM
  refine Ad 1 Z<|AA (v:=vk) 1 Bj BH Z Z hks.slL Z sD Aa ?_
  have ah:=RN.getI (w:=w) (k:=1) hks sD
  refine Ah (p:=Ay vk 1 1) (.inr Z) (zI<|ks.getD 1 0) AC Z (ah.1 _ b3) Aa<|Ak (p:=zP w.heap.size) 2 CG Z Z Aa (Bl (k:=2) (w:=w6) GT Z Z ⟨rfl,rfl⟩ ag sM Aa fun cm a9 c4 a8=>?_)
  replace a8:BX cm.heap w.heap.size [zI op,zI (ks.getD 0 0),zI (ks.getD 1 0),zI (0:Int)]:=a8
  have b4:At S w cm:=b3.fresh a9 (fun _ h=>zE h)
  have a3:=Cp.chgO af a9 fun b hb hm=>by rw[A9 hb]at hm;exact E7
  have b5:=bj.fresh a9 fun _ h=>zE h
  have bk:w6.heap.size≤cm.heap.size:=a9.size
  have ai:=az.chg a9 (zB ·)
  refine Aj<|A0<|AP _ [1,0,0,0,1,0,1,0,1,0,0,0,1,0,1,0,1,3,0,0,0,0,0] mixed (by kernel_rfl)<|AM (p:=zP w.heap.size) (.inl Z) [zI op,zI<|ks.getD 0 0,zI<|ks.getD 1 0,zI (0:Int)] Fx Z (fun cn aj=>LD.of_box<|BX.ext (w:=cm.drew) a8 aj) Z Aa<|Ad 1 Z<|AU Z Aa<|Ak (p:=zP g) 5 DI Z Z Aa<|Ah (p:=Ao (zP g) 5) (.inl Z) rv0 Bk Z (ai.ldp (i:=5) sM) Aa<|Ak (p:=zP w.heap.size) 1 CS Z Z Aa ?_
  refine Ah (p:=Ao (zP w.heap.size) 1) (.inl Z) (zI<|ks.getD 0 0) AC Z (a8.ldp (i:=1) sM) Aa<|AA (v:=rv0) ((ks.getD 0 0).toNat) Bj BH Z Z (Cp.slv a3) oM oM Aa (Ah (p:=Ay rv0 ((ks.getD 0 0).toNat) 1) (.inl Z) (zI<|T.vals.getD ((ks.getD 0 0).toNat) 0) AC Z ((Cp.rdv a3).getI oM).1 Aa (Ad 1 Z<|AU Z Aa<|Ak (p:=zP g) 5 DI Z Z Aa<|Ah (p:=Ao (zP g) 5) (.inl Z) rv0 Bk Z (ai.ldp (i:=5) sM) Aa<|Ak (p:=zP w.heap.size) 2 CG Z Z Aa ?_))
  refine Ah (p:=Ao (zP w.heap.size) 2) (.inl Z) (zI<|ks.getD 1 0) AC Z (a8.ldp (i:=2) sM) Aa<|AA (v:=rv0) ((ks.getD 1 0).toNat) Bj BH Z Z (Cp.slv a3) oM oM Aa (Ah (p:=Ay rv0 ((ks.getD 1 0).toNat) 1) (.inl Z) (zI<|T.vals.getD ((ks.getD 1 0).toNat) 0) AC Z ((Cp.rdv a3).getI oM).1 Aa (Au 258 [] [] [.agg #[zI op,zI<|ks.getD 0 0,zI<|ks.getD 1 0,zI (0:Int)],zI<|T.vals.getD ((ks.getD 0 0).toNat) 0,zI<|T.vals.getD ((ks.getD 1 0).toNat) 0] Z Z VH Aa (GW _ (op) (ks.getD 0 0) (ks.getD 1 0) (0:Int) _ _ _hop am.2 ah.2 oM ((Cp.rdv a3).getI oM).2 ((Cp.rdv a3).getI oM).2 oM) ?_))
  rintro cy c7 ⟨rfl,a0⟩
  refine⟨_,rfl,a0,?_⟩
  replace a0:=a0.of_drew
  have bl:cm.heap.size≤c7.heap.size:=a0.size
  have ar:At S w c7:=b4.ext a0
  have a7:=ai.ext a0
  have a2:=a8.ext a0
  have c5:=(Cp.rdv a3).ext g1 a0
  have au:=Cp.ext a3 a0
  have aa:=b5.ext a0
  refine Ad 1 Z<|AR (vs:=[zI (if E8 op (T.vals.getD ((ks.getD 1 0).toNat) 0)then 0 else GZ op (T.vals.getD ((ks.getD 0 0).toNat) 0) (T.vals.getD ((ks.getD 1 0).toNat) 0)),.bool (!decide (E8 op<|T.vals.getD ((ks.getD 1 0).toNat) 0))]) (zI (if E8 op (T.vals.getD ((ks.getD 1 0).toNat) 0)then 0 else GZ op (T.vals.getD ((ks.getD 0 0).toNat) 0) (T.vals.getD ((ks.getD 1 0).toNat) 0))) Z Z Aa<|AR (vs:=[zI (if E8 op (T.vals.getD ((ks.getD 1 0).toNat) 0)then 0 else GZ op (T.vals.getD ((ks.getD 0 0).toNat) 0) (T.vals.getD ((ks.getD 1 0).toNat) 0)),.bool (!decide (E8 op<|T.vals.getD ((ks.getD 1 0).toNat) 0))]) (.bool (!decide (E8 op<|T.vals.getD ((ks.getD 1 0).toNat) 0))) Z Z Aa<|Ac 2 Z<|A0<|cP [0,0] Z ?_
  have hvr:0≤(if E8 op (T.vals.getD ((ks.getD 1 0).toNat) 0)then 0 else GZ op (T.vals.getD ((ks.getD 0 0).toNat) 0) (T.vals.getD ((ks.getD 1 0).toNat) 0))∧(if E8 op (T.vals.getD ((ks.getD 1 0).toNat) 0)then 0 else GZ op (T.vals.getD ((ks.getD 0 0).toNat) 0) (T.vals.getD ((ks.getD 1 0).toNat) 0))<1000003:=PG _ _ _
  refine Ad 1 Z<|Bv (!(!decide (E8 op<|T.vals.getD ((ks.getD 1 0).toNat) 0))) Z Z Aa<|Aj ?_
  cases av:(!(!decide (E8 op (T.vals.getD ((ks.getD 1 0).toNat) 0))))
  ·refine Ai (by first|rfl|exact zW av)<|A2<|cP [0,2,0,4,0] Z<|Ad 1 Z<|AM (p:=zP w.heap.size) (.inr Z) [zI op,zI<|ks.getD 0 0,zI<|ks.getD 1 0,zI (0:Int)] Fx Z (fun cn aj=>LD.of_box<|BX.ext (w:=c7) a2 aj) Z Aa<|Ad 1 Z ?_
   refine AB 101 [] [] [zP g,.agg #[zI op,zI<|ks.getD 0 0,zI<|ks.getD 1 0,zI (0:Int)],zI (if E8 op (T.vals.getD ((ks.getD 1 0).toNat) 0)then 0 else GZ op (T.vals.getD ((ks.getD 0 0).toNat) 0) (T.vals.getD ((ks.getD 1 0).toNat) 0))] Z Z Q8 Aa (CK _ S g vp ip (s0) (c0) (T) (⟨op,ks.getD 0 0,ks.getD 1 0,(0:Int)⟩:AD) (if E8 op (T.vals.getD ((ks.getD 1 0).toNat) 0)then 0 else GZ op (T.vals.getD ((ks.getD 0 0).toNat) 0) (T.vals.getD ((ks.getD 1 0).toNat) 0)) (fun b hb=>(aa.lt b hb:b<c7.heap.size)) (aa.sub _ hgS) ⟨_,_,_,a7,au⟩ _hip (by exact hbd.ln hs0) ⟨_hop,am.2,ah.2,(show Bw (0:Int)from by omega)⟩ (by have:=MN op (T.vals.getD ((ks.getD 0 0).toNat) 0) (T.vals.getD ((ks.getD 1 0).toNat) 0);split <;> omega)) ?_
   rintro cz cq ⟨cs,rfl,a4,ct,vg20,vv20,b6,b7⟩
   refine⟨_,rfl,?_⟩
   have bm:c7.heap.size≤cq.heap.size:=a4.chg.size
   have c6:At S w cq:=ar.stp a4.chg aa.new
   have b8:w.heap.size∉cs:=fun hm=>(a4.new _ hm).elim (fun hm=>E7) (fun h9=>by omega)
   have b9:=aa.trans a4
   have bn:(T.put (⟨op,ks.getD 0 0,ks.getD 1 0,(0:Int)⟩:AD) (if E8 op (T.vals.getD ((ks.getD 1 0).toNat) 0)then 0 else GZ op (T.vals.getD ((ks.getD 0 0).toNat) 0) (T.vals.getD ((ks.getD 1 0).toNat) 0))).vals.length=T.vals.length+1:=Gz _ _ _
   have bo:(T.put (⟨op,ks.getD 0 0,ks.getD 1 0,(0:Int)⟩:AD) (if E8 op (T.vals.getD ((ks.getD 1 0).toNat) 0)then 0 else GZ op (T.vals.getD ((ks.getD 0 0).toNat) 0) (T.vals.getD ((ks.getD 1 0).toNat) 0))).grd.length=T.grd.length:=rfl
   exact Ac 1 Z<|A1<|Af [6] Z (zI (T.vals.length:Int)) Z ⟨(T.vals.length:Int),_,T.put (⟨op,ks.getD 0 0,ks.getD 1 0,(0:Int)⟩:AD) (if E8 op (T.vals.getD ((ks.getD 1 0).toNat) 0)then 0 else GZ op (T.vals.getD ((ks.getD 0 0).toNat) 0) (T.vals.getD ((ks.getD 1 0).toNat) 0)),c0,rfl,b9,⟨_,_,_,b6,b7⟩,Np,oM,No,oM,Nn⟩
  refine Ag (by first|rfl|exact zW av)<|cP [0,0,0,4] Z<|Ad 1 Z<|AU Z Aa<|Ak (p:=zP g) 7 EX Z Z Aa (Bl (k:=7) (w:=c7) GT Z Z ⟨rfl,rfl⟩ a7 sM Aa fun co ab c8 ak=>?_)
  replace ak:BX co.heap g [vp,zI ip,rc0,rg0,zN,rv0,zI (s0:Int),zI ((6:Nat):Int)]:=ak
  have c9:At S w co:=ar.trans (ab.sub (AT hgS))
  have ba:=Cp.chg au ab
  have bb:=aa.set hgS ab
  have bp:c7.heap.size≤co.heap.size:=ab.size
  exact Aj<|cQ Z<|A1<|An<|Af [6] Z (zI ((0:Nat):Int)) Z ⟨((0:Nat):Int),_,T,((6:Nat):Int),rfl,bb,⟨_,_,_,ak,ba⟩,Np,oM,No,oM,Nn⟩
 refine B4 false Z Z (A6 aq) Aa<|Aj<|Ai Z<|A2<|A0<|AP _ [1,0,0,0,1,0,1,0,1,0,0,0,1,0,1,0,1,3,0,0,0,0,0] mixed (by kernel_rfl)<|AM (p:=zP w.heap.size) (.inl Z) [zI op,zI<|ks.getD 0 0,zI (0:Int),zI (0:Int)] Fx Z (fun cn aj=>LD.of_box<|BX.ext (w:=w6.drew) ag aj) Z Aa<|Ad 1 Z<|AU Z Aa<|Ak (p:=zP g) 5 DI Z Z Aa<|Ah (p:=Ao (zP g) 5) (.inl Z) rv0 Bk Z (az.ldp (i:=5) sM) Aa<|Ak (p:=zP w.heap.size) 1 CS Z Z Aa ?_
 refine Ah (p:=Ao (zP w.heap.size) 1) (.inl Z) (zI<|ks.getD 0 0) AC Z (ag.ldp (i:=1) sM) Aa<|AA (v:=rv0) ((ks.getD 0 0).toNat) Bj BH Z Z (Cp.slv af) oM oM Aa (Ah (p:=Ay rv0 ((ks.getD 0 0).toNat) 1) (.inl Z) (zI<|T.vals.getD ((ks.getD 0 0).toNat) 0) AC Z ((Cp.rdv af).getI oM).1 Aa (Ad 1 Z<|AU Z Aa<|Ak (p:=zP g) 5 DI Z Z Aa<|Ah (p:=Ao (zP g) 5) (.inl Z) rv0 Bk Z (az.ldp (i:=5) sM) Aa<|Ak (p:=zP w.heap.size) 2 CG Z Z Aa ?_))
 refine Ah (p:=Ao (zP w.heap.size) 2) (.inl Z) (zI (0:Int)) AC Z (ag.ldp (i:=2) sM) Aa<|AA (v:=rv0) ((0:Int).toNat) Bj BH Z Z (Cp.slv af) oM oM Aa (Ah (p:=Ay rv0 ((0:Int).toNat) 1) (.inl Z) (zI<|T.vals.getD ((0:Int).toNat) 0) AC Z ((Cp.rdv af).getI oM).1 Aa (Au 258 [] [] [.agg #[zI op,zI<|ks.getD 0 0,zI (0:Int),zI (0:Int)],zI<|T.vals.getD ((ks.getD 0 0).toNat) 0,zI<|T.vals.getD ((0:Int).toNat) 0] Z Z VH Aa (GW _ (op) (ks.getD 0 0) (0:Int) (0:Int) _ _ _hop am.2 oM oM ((Cp.rdv af).getI oM).2 ((Cp.rdv af).getI oM).2 oM) ?_))
 rintro d0 ca ⟨rfl,a1⟩
 refine⟨_,rfl,a1,?_⟩
 replace a1:=a1.of_drew
 have bq:w6.heap.size≤ca.heap.size:=a1.size
 have aw:At S w ca:=b3.ext a1
 have ac:=az.ext a1
 have a6:=ag.ext a1
 have cb:=(Cp.rdv af).ext g1 a1
 have ax:=Cp.ext af a1
 have ad:=bj.ext a1
 refine Ad 1 Z<|AR (vs:=[zI (if E8 op (T.vals.getD ((0:Int).toNat) 0)then 0 else GZ op (T.vals.getD ((ks.getD 0 0).toNat) 0) (T.vals.getD ((0:Int).toNat) 0)),.bool (!decide (E8 op<|T.vals.getD ((0:Int).toNat) 0))]) (zI (if E8 op (T.vals.getD ((0:Int).toNat) 0)then 0 else GZ op (T.vals.getD ((ks.getD 0 0).toNat) 0) (T.vals.getD ((0:Int).toNat) 0))) Z Z Aa<|AR (vs:=[zI (if E8 op (T.vals.getD ((0:Int).toNat) 0)then 0 else GZ op (T.vals.getD ((ks.getD 0 0).toNat) 0) (T.vals.getD ((0:Int).toNat) 0)),.bool (!decide (E8 op<|T.vals.getD ((0:Int).toNat) 0))]) (.bool (!decide (E8 op<|T.vals.getD ((0:Int).toNat) 0))) Z Z Aa<|Ac 2 Z<|A0<|cP [0,0] Z ?_
 have hvr:0≤(if E8 op (T.vals.getD ((0:Int).toNat) 0)then 0 else GZ op (T.vals.getD ((ks.getD 0 0).toNat) 0) (T.vals.getD ((0:Int).toNat) 0))∧(if E8 op (T.vals.getD ((0:Int).toNat) 0)then 0 else GZ op (T.vals.getD ((ks.getD 0 0).toNat) 0) (T.vals.getD ((0:Int).toNat) 0))<1000003:=PG _ _ _
 refine Ad 1 Z<|Bv (!(!decide (E8 op<|T.vals.getD ((0:Int).toNat) 0))) Z Z Aa<|Aj ?_
 cases ay:(!(!decide (E8 op (T.vals.getD ((0:Int).toNat) 0))))
 ·refine Ai (by first|rfl|exact zW ay)<|A2<|cP [0,2,0,4,0] Z<|Ad 1 Z<|AM (p:=zP w.heap.size) (.inr Z) [zI op,zI<|ks.getD 0 0,zI (0:Int),zI (0:Int)] Fx Z (fun cn aj=>LD.of_box<|BX.ext (w:=ca) a6 aj) Z Aa<|Ad 1 Z ?_
  refine AB 101 [] [] [zP g,.agg #[zI op,zI<|ks.getD 0 0,zI (0:Int),zI (0:Int)],zI (if E8 op (T.vals.getD ((0:Int).toNat) 0)then 0 else GZ op (T.vals.getD ((ks.getD 0 0).toNat) 0) (T.vals.getD ((0:Int).toNat) 0))] Z Z Q8 Aa (CK _ S g vp ip (s0) (c0) (T) (⟨op,ks.getD 0 0,(0:Int),(0:Int)⟩:AD) (if E8 op (T.vals.getD ((0:Int).toNat) 0)then 0 else GZ op (T.vals.getD ((ks.getD 0 0).toNat) 0) (T.vals.getD ((0:Int).toNat) 0)) (fun b hb=>(ad.lt b hb:b<ca.heap.size)) (ad.sub _ hgS) ⟨_,_,_,ac,ax⟩ _hip (by exact hbd.ln hs0) ⟨_hop,am.2,(show Bw (0:Int)from by omega),(show Bw (0:Int)from by omega)⟩ (by have:=MN op (T.vals.getD ((ks.getD 0 0).toNat) 0) (T.vals.getD ((0:Int).toNat) 0);split <;> omega)) ?_
  rintro d1 cr ⟨cu,rfl,a5,cw,vg36,vv36,bc,bd⟩
  refine⟨_,rfl,?_⟩
  have br:ca.heap.size≤cr.heap.size:=a5.chg.size
  have cc:At S w cr:=aw.stp a5.chg ad.new
  have be:w.heap.size∉cu:=fun hm=>(a5.new _ hm).elim (fun hm=>E7) (fun h9=>by omega)
  have bf:=ad.trans a5
  have bs:(T.put (⟨op,ks.getD 0 0,(0:Int),(0:Int)⟩:AD) (if E8 op (T.vals.getD ((0:Int).toNat) 0)then 0 else GZ op (T.vals.getD ((ks.getD 0 0).toNat) 0) (T.vals.getD ((0:Int).toNat) 0))).vals.length=T.vals.length+1:=Gz _ _ _
  have bt:(T.put (⟨op,ks.getD 0 0,(0:Int),(0:Int)⟩:AD) (if E8 op (T.vals.getD ((0:Int).toNat) 0)then 0 else GZ op (T.vals.getD ((ks.getD 0 0).toNat) 0) (T.vals.getD ((0:Int).toNat) 0))).grd.length=T.grd.length:=rfl
  exact Ac 1 Z<|A1<|Af [6] Z (zI (T.vals.length:Int)) Z ⟨(T.vals.length:Int),_,T.put (⟨op,ks.getD 0 0,(0:Int),(0:Int)⟩:AD) (if E8 op (T.vals.getD ((0:Int).toNat) 0)then 0 else GZ op (T.vals.getD ((ks.getD 0 0).toNat) 0) (T.vals.getD ((0:Int).toNat) 0)),c0,rfl,bf,⟨_,_,_,bc,bd⟩,Np,oM,No,oM,Nn⟩
 refine Ag (by first|rfl|exact zW ay)<|cP [0,0,0,4] Z<|Ad 1 Z<|AU Z Aa<|Ak (p:=zP g) 7 EX Z Z Aa (Bl (k:=7) (w:=ca) GT Z Z ⟨rfl,rfl⟩ ac sM Aa fun cp ae ce al=>?_)
 replace al:BX cp.heap g [vp,zI ip,rc0,rg0,zN,rv0,zI (s0:Int),zI ((6:Nat):Int)]:=al
 have cf:At S w cp:=aw.trans (ae.sub (AT hgS))
 have bg:=Cp.chg ax ae
 have bh:=ad.set hgS ae
 have bu:ca.heap.size≤cp.heap.size:=ae.size
 exact Aj<|cQ Z<|A1<|An<|Af [6] Z (zI ((0:Nat):Int)) Z ⟨((0:Nat):Int),_,T,((6:Nat):Int),rfl,bh,⟨_,_,_,al,bg⟩,Np,oM,No,oM,Nn⟩
theorem P8 (F d:Nat)(IH:∀d',d'<d→ZZ F d'):cY F d:=by
 intro w S g vp dp ip s0 c0 p T vl l vv env hS hgS hR0 hp hip hs0 hc0 hbd hl henv hqenv hvp hF hwf hdp hll hen
 exact I2 w S F g vp dp ip s0 c0 p T d vl l vv env hS hgS hR0 hp hip hs0 hc0 hbd hl henv hqenv hvp hF hwf hdp hll hen IH
theorem Eg {p:Prop}(h:p:=by first|exact U4 oM|exact Qz oM oM|exact Xp hc00 hs1 oM|exact Xq hc00 hs1 oM|exact Xr hc00 hs1 oM oM hL1 oM|exact Xs hc00 hs1 oM oM hL1 oM (by assumption) hL2|exact Xt hc00 hs1 oM oM hL1 oM (by assumption) hL2|exact Xu hc00 hs1 oM oM hL1 hL2|exact RV hc00 hs1 hkg.1 hkg.2.1 hkg.2.2.1 hkg.2.2.2 hKr oM|exact U5 hc00 hs1 oM oM hKr oM hL2|exact U6 hc00 hs1 oM oM hKr oM (U8 hrl9 oM oM)|exact Yh hc00 hs1 hkg.1 hkg.2.1 hkg.2.2.1 hkg.2.2.2 oM oM hKr oM hL2):p:=h
theorem Eh {p:Prop}(h:p:=by first|(intro h9;exact absurd h9 oM)|assumption|(intro h9;omega)|(intro h9;have:=hkb9 h9;omega)):p:=h
theorem GM {p:Prop}(h:p:=by first|assumption|exact hbd.up oM|exact JK.guard (by assumption) _ _ oM):p:=h
theorem Ei {p:Prop}(h:p:=by first|assumption|exact hbd.put _ oM|exact JK.dn (by assumption) oM oM):p:=h
theorem I3 (w:World)(S:List Nat)(F:Nat)(g:Nat)(vp:Value)(dp:Nat)(ip:Int)(s0:Nat)(c0:Int)(p:List Fn)(T:Tp)(dex:Nat)(ve:Value)(ex:Ex)(vv:Value)(env:List Int)(hS:∀b∈S,b<w.heap.size)(hgS:g∈S)(hR0:QM 69 208 2 S g w.heap vp ip T s0 c0)(hp:RP S dp w.heap vp p)(_hip:Bw ip)(hs0:s0≤3000)(hc0:0≤c0∧c0≤9)(hbd:JK T s0)(hex:RX S dex w.heap ve ex)(henv:RN S (B2 rI) w.heap vv env)(hqenv:Ci vv)(hvp:HW p)(hF:F≤p.length)(hwf:wf p (F:Int) ex (env.length:Int)=true)(hdp:env.length+ex.deep≤1000000)(hen:c0=0→K8 T env)(IH1:∀F',F'<F→∀d,ZZ F' d)(IH2:∀d',d'<dex→ZZ F d') :
  Calls Tryz.prog 181 #[zP g,(.agg #[(zI ex.kind),(zI ex.num),(zI ex.pick),(zI ex.count),ve]),vv] w (fun e w'=>∃(r:Int) (S':List Nat) (T':Tp) (s1:Nat) (c1:Int),e=.returned (zI r)∧FH S S' w w'∧QM 69 208 2 S' g w'.heap vp ip T' s1 c1∧V4 T T' s0 s1 c1∧(c1=0→0≤r∧r<(T'.vals.length:Int))∧(Bw r)∧AH (go c0 (GQ (Kd p F) ex env s0 T)) (r,T') s1 c1):=by
 refine Ap [zP g,.agg #[zI ex.kind,zI ex.num,zI ex.pick,zI ex.count,ve],vv] 190 Tryz.func181 Z Z sM ?_
 have j4:At S w w:=At.refl S w
 have fi:=hp.lenle
 unfold maxLen at fi
 have fj:=hex.rn.lenle
 unfold maxLen at fj
 have fk:=henv.lenL
 unfold maxLen at fk
 obtain⟨rc0,rg0,rv0,g9,j5⟩:=hR0
 have mr:=g9.lt
 have hG0:FH S S w w:=FH.refl hS
 have hdk:=DP ex
 refine cP [3,0] Z ?_
 have ky:=g9.lt
 refine Bx (cs:=#[zI ex.kind,zI ex.num,zI ex.pick,zI ex.count,ve]) Z Aa fun w1 d3 ka g0=>?_
 have ga:w.heap.size≤w1.heap.size:=d3.size
 have gb:At S w w1:=j4.ext d3
 have ai:=g9.ext d3
 have g2:=Cp.ext j5 d3
 have g3:=hG0.ext d3
 replace g0:BX w1.heap w.heap.size [zI ex.kind,zI ex.num,zI ex.pick,zI ex.count,ve]:=g0
 refine Ac 1 Z<|A0<|cP [0,0,0,2,0] Z<|Ad 1 Z<|AU Z Aa<|Ak (p:=zP g) 7 EX Z Z Aa<|Ah (p:=Ao (zP g) 7) (.inr Z) (zI c0) AC Z (ai.ldp (i:=7) sM) Aa ?_
 by_cases j6:c0≠((0:Nat):Int)
 ·refine B4 true Z Z (A5 j6) Aa<|Aj<|Ag Z<|cQ Z<|A1<|An ?_
  exact Af [6] Z (zI ((0:Nat):Int)) Z ⟨((0:Nat):Int),_,T,s0,c0,rfl,g3,⟨_,_,_,ai,g2⟩,⟨Ei,oM⟩,Eh,oM,Eg⟩
 refine B4 false Z Z (A6 j6) Aa<|Aj<|Ai Z<|A2<|A0<|cP [0,0,0,2,0] Z<|Ad 1 Z<|AU Z Aa<|Ak (p:=zP g) 6 N9 Z Z Aa<|Ah (p:=Ao (zP g) 6) (.inr Z) (zI (s0:Int)) AC Z (ai.ldp (i:=6) sM) Aa ?_
 by_cases j7:(s0:Int)=((3000:Nat):Int)
 ·refine Al true Z Z (A5 j7) Aa<|Aj<|Ag Z<|cP [0,0,0,4] Z<|Ad 1 Z<|AU Z Aa<|Ak (p:=zP g) 7 EX Z Z Aa (Bl (k:=7) (w:=w1) GT Z Z ⟨rfl,rfl⟩ ai sM Aa fun w6 d4 kz gc=>?_)
  replace gc:BX w6.heap g [vp,zI ip,rc0,rg0,zN,rv0,zI (s0:Int),zI ((7:Nat):Int)]:=gc
  have l0:At S w w6:=gb.trans (d4.sub (AT hgS))
  have kb:=Cp.chg g2 d4
  have kc:=g3.set hgS d4
  have kd:w1.heap.size≤w6.heap.size:=d4.size
  have ke:=g0.chg d4 (zB ·)
  refine Aj<|cQ Z<|A1<|An ?_
  exact Af [6] Z (zI ((0:Nat):Int)) Z ⟨((0:Nat):Int),_,T,s0,((7:Nat):Int),rfl,kc,⟨_,_,_,gc,kb⟩,⟨Ei,oM⟩,Eh,oM,Eg⟩
 refine Al false Z Z (A6 j7) Aa<|Aj<|Ai Z<|A2<|cP [0,0,0,2,0,0,0,4] Z<|Ad 1 Z<|AU Z Aa<|Ak (p:=zP g) 6 N9 Z Z Aa<|Ah (p:=Ao (zP g) 6) (.inr Z) (zI (s0:Int)) AC Z (ai.ldp (i:=6) sM) Aa<|AN ((s0+1:Nat):Int) Z Z (Bg oM oM) Aa<|AU Z Aa<|Ak (p:=zP g) 6 N9 Z Z Aa (Bl (k:=6) (w:=w1) GT Z Z ⟨rfl,rfl⟩ ai sM Aa fun f3 b0 gd aw=>?_)
 replace aw:BX f3.heap g [vp,zI ip,rc0,rg0,zN,rv0,zI ((s0+1:Nat):Int),zI c0]:=aw
 have a4:At S w f3:=gb.trans (b0.sub (AT hgS))
 have b1:=Cp.chg g2 b0
 have a0:=g3.set hgS b0
 have d5:w1.heap.size≤f3.heap.size:=b0.size
 have ac:=g0.chg b0 (zB ·)
 refine Aj<|A0<|cP [0,2] Z ?_
 have hc00:c0=0:=by omega
 have hs1:s0+1≤3000:=by omega
 have ax:=hen hc00
 have kf:=hbd.up (s':=s0+1) oM
 have hbn:=hbd.2
 refine Ak (p:=zP w.heap.size) 0 Bh Z Z Aa<|Ah (p:=Ao (zP w.heap.size) 0) (.inr Z) (zI ex.kind) AC Z (ac.ldp (i:=0) sM) Aa<|Aj<|A3<|cP [0,0] Z ?_
 by_cases d6:ex.kind=((1:Nat):Int)
 ·refine Al true Z Z (A5 d6) Aa<|Ac 1 Z<|Ag Z<|cP [0,0,2,0,0,2,4,0] Z ?_
  have hwk:=Ov hwf oM
  refine Ad 1 Z<|Ak (p:=zP w.heap.size) 1 BI Z Z Aa<|Ah (p:=Ao (zP w.heap.size) 1) (.inr Z) (zI ex.num) AC Z (ac.ldp (i:=1) sM) Aa ?_
  have d7:∀(wq:World),(Instr.build 69 #[(0,zI ((2:Nat):Int)),(3,zI ex.num)]).run Tryz.prog wq=.ok (.agg #[zI ((2:Nat):Int),zI 0,zI 0,zI ex.num]) wq:=by intro wq;kernel_rfl
  refine Cf (ps:=#[(0,zI ((2:Nat):Int)),(3,zI ex.num)]) (.agg #[zI ((2:Nat):Int),zI 0,zI 0,zI ex.num]) (by simp only[List.map_toArray,List.map_cons,List.map_nil];rfl) (fun wq=>d7  wq) Aa<|Ak (p:=zP w.heap.size) 1 BI Z Z Aa<|Ah (p:=Ao (zP w.heap.size) 1) (.inr Z) (zI ex.num) AC Z (ac.ldp (i:=1) sM) Aa ?_
  refine AB 101 [] [] [zP g,.agg #[zI ((2:Nat):Int),zI (0:Int),zI (0:Int),zI ex.num],zI ex.num] Z Z Q8 Aa (CK _ S g vp ip (s0+1) (c0) (T) (⟨((2:Nat):Int),(0:Int),(0:Int),ex.num⟩:AD) (ex.num) (fun b hb=>(a0.lt b hb:b<f3.heap.size)) (a0.sub _ hgS) ⟨_,_,_,aw,b1⟩ _hip (by exact JK.ln (by assumption) oM) ⟨(show Bw ((2:Nat):Int)from by omega),(show Bw (0:Int)from by omega),(show Bw (0:Int)from by omega),hex.rng.num⟩ hex.rng.num) ?_
  rintro ms lj ⟨ly,rfl,an,lz,vg18,vv18,ge,gf⟩
  refine⟨_,rfl,?_⟩
  have j8:f3.heap.size≤lj.heap.size:=an.chg.size
  have kg:At S w lj:=a4.stp an.chg a0.new
  have kh:=ac.chg an.chg fun hm=>E7
  have gg:w.heap.size∉ly:=fun hm=>(an.new _ hm).elim (fun hm=>E7) (fun h9=>by omega)
  have gh:=a0.trans an
  have j9:(T.put (⟨((2:Nat):Int),(0:Int),(0:Int),ex.num⟩:AD) (ex.num)).vals.length=T.vals.length+1:=Gz _ _ _
  have ja:(T.put (⟨((2:Nat):Int),(0:Int),(0:Int),ex.num⟩:AD) (ex.num)).grd.length=T.grd.length:=rfl
  refine Ac 1 Z<|A1<|AF<|An ?_
  exact Af [6] Z (zI (T.vals.length:Int)) Z ⟨(T.vals.length:Int),_,T.put (⟨((2:Nat):Int),(0:Int),(0:Int),ex.num⟩:AD)<|ex.num,s0+1,c0,rfl,gh,⟨_,_,_,ge,gf⟩,⟨Ei,oM⟩,Eh,oM,Eg⟩
 refine Al false Z Z (A6 d6) Aa<|Ac 1 Z<|Ai Z<|cP [0,0] Z ?_
 by_cases d8:ex.kind=((2:Nat):Int)
 ·refine Al true Z Z (A5 d8) Aa<|Ac 1 Z<|Ag Z<|cP [0,0,2,0,2,0] Z ?_
  have hwk:=Ox hwf oM
  have hRv:=ax ex.num.toNat oM
  refine Ad 1 Z<|Ak (p:=zP w.heap.size) 1 BI Z Z Aa<|Ah (p:=Ao (zP w.heap.size) 1) (.inr Z) (zI ex.num) AC Z (ac.ldp (i:=1) sM) Aa<|AA (v:=vv) ((ex.num).toNat) Bj BH Z Z henv.slL oM oM Aa ?_
  have da:=RN.getI (w:=w) (k:=(ex.num).toNat) henv oM
  refine Ah (p:=Ay vv ((ex.num).toNat) 1) (.inr Z) (zI<|env.getD ((ex.num).toNat) 0) AC Z (da.1 _ a4) Aa<|Ac 1 Z<|A1<|AF<|An ?_
  exact Af [6] Z (zI<|env.getD ((ex.num).toNat) 0) Z ⟨env.getD ((ex.num).toNat) 0,_,T,s0+1,c0,rfl,a0,⟨_,_,_,aw,b1⟩,⟨Ei,oM⟩,Eh,da.2,Eg⟩
 refine Al false Z Z (A6 d8) Aa<|Ac 1 Z<|Ai Z<|cP [0,0] Z ?_
 by_cases db:ex.kind=((8:Nat):Int)
 ·refine Al true Z Z (A5 db) Aa<|Ac 1 Z<|Ag Z<|cP [0,0,2,0,2,0,4,0] Z ?_
  have hwk:=RA hwf oM
  refine Ad 1 Z<|Ak (p:=zP w.heap.size) 4 Ba Z Z Aa<|Ah (p:=Ao (zP w.heap.size) 4) (.inr Z) ve Be Z (ac.ldp (i:=4) sM) Aa<|AA (v:=ve) 0 D5 Bn Z Z hex.rn.isSl Z sD Aa ?_
  obtain⟨cs28,gi,gj⟩:=hex.rn.get (Ax dex) Ex.zero (k:=0) sD
  obtain⟨dd28,cc,ki,rfl,cd⟩:=RX.of gi
  have dc:=cd.rn.lenle
  unfold maxLen at dc
  refine AM (p:=Ay ve 0 5) (.inr Z) [zI<|(ex.kids.getD 0 Ex.zero).kind,zI<|(ex.kids.getD 0 Ex.zero).num,zI<|(ex.kids.getD 0 Ex.zero).pick,zI<|(ex.kids.getD 0 Ex.zero).count,cc] B6 Z (fun fc ce=>gj fc<|a4.ext ce) Z Aa<|Ad 1 Z ?_
  refine AB 181 [] [] [zP g,.agg #[zI<|(ex.kids.getD 0 Ex.zero).kind,zI<|(ex.kids.getD 0 Ex.zero).num,zI<|(ex.kids.getD 0 Ex.zero).pick,zI<|(ex.kids.getD 0 Ex.zero).count,cc],vv] Z Z Lj Aa (IH2 dd28 oM _ S g vp dp ip (s0+1) (c0) p (T) cc (ex.kids.getD 0 Ex.zero) vv (env) (fun b hb=>(a0.lt b hb:b<f3.heap.size)) (a0.sub _ hgS) ⟨_,_,_,aw,b1⟩ (RN.stp (Am<|Av dp) hp a4 a0.new) _hip oM oM GM ⟨cd.rng,RN.stp (Am<|Ax dd28) cd.rn a4 a0.new⟩ (RN.stp g1 henv a4 a0.new) hqenv hvp oM (by exact DN hwf oM oM) (by have:=Di (l:=ex.kids) (k:=0) oM;omega) (by exact fun _=>ax)) ?_
  rintro mt fb ⟨f0,l7,f1,l3,fg,rfl,ao,⟨fl,vg29,vv29,b4,b5⟩,dd,de,df,dg⟩
  refine⟨_,rfl,?_⟩
  have jb:f3.heap.size≤fb.heap.size:=ao.chg.size
  have dh:At S w fb:=a4.stp ao.chg a0.new
  have di:=ac.chg ao.chg fun hm=>E7
  have b6:w.heap.size∉l7:=fun hm=>(ao.new _ hm).elim (fun hm=>E7) (fun h9=>by omega)
  have bi:=a0.trans ao
  have jc:=dd.bnd
  have jd:=dd.num
  have gk:=de
  have hL1:=dg
  refine Ac 1 Z<|A0<|cP [0,0,0,2,0] Z<|Ad 1 Z<|AU Z Aa<|Ak (p:=zP g) 7 EX Z Z Aa<|Ah (p:=Ao (zP g) 7) (.inr Z) (zI fg) AC Z (b4.ldp (i:=7) sM) Aa ?_
  by_cases dj:fg≠((0:Nat):Int)
  ·refine B4 true Z Z (A5 dj) Aa<|Aj<|Ag Z<|cQ Z<|A1<|An<|AF<|An ?_
   exact Af [6] Z (zI ((0:Nat):Int)) Z ⟨((0:Nat):Int),_,f1,l3,fg,rfl,bi,⟨_,_,_,b4,b5⟩,⟨Ei,oM⟩,Eh,oM,Eg⟩
  refine B4 false Z Z (A6 dj) Aa<|Aj<|Ai Z<|A2<|cP [0,0,0,2,0,0,2,0,0] Z ?_
  have hR1c:=gk oM
  refine Ad 1 Z<|AU Z Aa<|Ak (p:=zP g) 5 DI Z Z Aa<|Ah (p:=Ao (zP g) 5) (.inr Z) vv29 Bk Z (b4.ldp (i:=5) sM) Aa<|Ad 1 Z<|AA (v:=vv29) ((f0).toNat) Bj BH Z Z (Cp.slv b5) oM oM Aa (Ah (p:=Ay vv29 ((f0).toNat) 1) (.inr Z) (zI<|f1.vals.getD ((f0).toNat) 0) AC Z ((Cp.rdv b5).getI oM).1 Aa (Al (decide (f1.vals.getD ((f0).toNat) 0=((0:Nat):Int))) Z Z Z Aa<|Ac 1 Z<|A0 ?_))
  obtain⟨Fc38,Fg38,Fv38,b7,dk,b8,ap,az,dl,bt,dm⟩:=id b5
  refine Ab _ [0,0,0,0,0,2,0,0,0,3,4,0,0,0,4] Z<|Ad 2 Z<|AU Z Aa<|Ak (p:=zP g) 1 FO Z Z Aa<|Ak (p:=Ao (zP g) 1) (b:=g) (o:=1) 2 N8 Z Z Aa<|Ah (p:=Ao (Ao (zP g) 1) 2) (.inr Z) vg29 T6 Z (b4.ldp (i:=3) sM) Aa<|Ad 2 Z ?_
  have dn:∀(wq:World),(Instr.build 208 #[(0,zI f0),(1,.bool (decide (f1.vals.getD ((f0).toNat) 0=((0:Nat):Int))))]).run Tryz.prog wq=.ok (.agg #[zI f0,.bool (decide (f1.vals.getD ((f0).toNat) 0=((0:Nat):Int)))]) wq:=by intro wq;kernel_rfl
  refine Cf (ps:=#[(0,zI f0),(1,.bool<|decide (f1.vals.getD ((f0).toNat) 0=((0:Nat):Int)))]) (.agg #[zI f0,.bool<|decide (f1.vals.getD ((f0).toNat) 0=((0:Nat):Int))]) (by simp only[List.map_toArray,List.map_cons,List.map_nil];rfl) (fun wq=>dn  wq) Aa (Gu (cs:=[zI f0,.bool<|decide (f1.vals.getD ((f0).toNat) 0=((0:Nat):Int))]) (y:=(⟨f0,decide (f1.vals.getD ((f0).toNat) 0=((0:Nat):Int))⟩:Is)) (B:=fb.heap.size) Bd ZL OP Z (by decide) Z (Xo (x:=(⟨f0,decide (f1.vals.getD ((f0).toNat) 0=((0:Nat):Int))⟩:Is)) (B:=fb.heap.size) (U:=fb.heap.size) df) (A7 _) Aa fun m0 l8 a7 kj gl=>?_)
  have je:fb.heap.size≤l8.heap.size:=a7.size
  have kk:At S w l8:=dh.ext a7
  have bj:=b4.ext a7
  have g4:=di.ext a7
  have kl:=(Cp.rdv b5).ext g1 a7
  have gm:=bi.ext a7
  have hOc38x:=b7.ext (As B5) a7
  have hOg38x:=dk.ext (As Bd) a7
  have hOv38x:=b8.ext (Bc AK) a7
  refine ML (v:=vg29) (a:=m0) Bd ZL OP Z (by decide) Z Z hOg38x gl (A7 _) (Nat.zero_le _) (Nat.zero_le _) oM (by unfold maxLen;omega) Aa fun lk fd ll b9 dq bk=>?_
  have dr:l8.heap.size≤fd.heap.size:=b9.size
  obtain⟨fm,bu⟩:∃l:List Nat,l=ll++l7:=⟨_,rfl⟩
  have aq:FH l7 fm fb fd:=by rw[bu];exact⟨fun b hb=>List.mem_append_right _ hb,fun b hb=>by rcases List.mem_append.1 hb with hb|hb;(rcases bk b hb with h9|h9|h9;exact .inl (bt b h9);(have:=a7.size;omega);(have:=a7.size;omega));exact .inl hb,fun b hb=>by rcases List.mem_append.1 hb with hb|hb;exact dq.high b hb;(have:=gm.lt b hb;omega),(At.of_ext _ a7).trans (b9.sub bt)⟩
  have ds:Cp 69 208 2 fm g fd.heap fl lk vv29 (f1.guard (f0) (decide (f1.vals.getD ((f0).toNat) 0=((0:Nat):Int)))):=⟨Fc38,ll,Fv38,(hOc38x.up a7.size).chgS (As B5) b9 (fun b hb hm=>ap.1 b hm hb),dq,(hOv38x.up a7.size).chgS (Bc AK) b9 (fun b hb hm=>ap.2.2 b hb hm),⟨fun b hb hm=>by rcases bk b hm with h9|h9|h9;exact ap.1 b hb h9;(have:=b7.high b hb;omega);(have:=b7.high b hb;have:=a7.size;omega),ap.2.1,fun b hm hb=>by rcases bk b hm with h9|h9|h9;exact ap.2.2 b h9 hb;(have:=b8.high b hb;omega);(have:=b8.high b hb;have:=a7.size;omega)⟩,⟨az.1,fun hm=>by rcases bk g hm with h9|h9|h9;exact az.2.1 h9;omega;omega,az.2.2⟩,by rw[bu];exact⟨fun b hb=>List.mem_append_right _ (dl b hb),fun b hb=>List.mem_append_left _ hb,fun b hb=>List.mem_append_right _ (dm b hb)⟩⟩
  have gn:=bj.chg b9 az.2.1
  have dr:fb.heap.size≤fd.heap.size:=aq.chg.size
  have gp:At S w fd:=dh.stp aq.chg bi.new
  have gq:=di.chg aq.chg fun hm=>b6 hm
  have al:w.heap.size∉fm:=fun hm=>(aq.new _ hm).elim (fun hm=>b6 hm) (fun h9=>by omega)
  have gr:=bi.trans aq
  have jf:(f1.guard (f0) (decide (f1.vals.getD ((f0).toNat) 0=((0:Nat):Int)))).vals.length=f1.vals.length:=rfl
  have jg:(f1.guard (f0) (decide (f1.vals.getD ((f0).toNat) 0=((0:Nat):Int)))).grd.length=f1.grd.length+1:=NS _ _ _
  refine AU Z Aa<|Ak (p:=zP g) 1 FO Z Z Aa<|Ak (p:=Ao (zP g) 1) (b:=g) (o:=1) 2 N8 Z Z Aa (Bl (k:=3) (w:=fd) cE Z Z (Br ds.slg) gn sM Aa fun fe ba km bl=>?_)
  replace bl:BX fe.heap g [vp,zI ip,fl,lk,zN,vv29,zI (l3:Int),zI fg]:=bl
  have ah:At S w fe:=gp.trans (ba.sub (AT hgS))
  have dt:=Cp.chg ds ba
  have aa:=gr.set hgS ba
  have jh:fd.heap.size≤fe.heap.size:=ba.size
  have bm:=gq.chg ba (zB ·)
  refine Aj<|A0<|cP [0] Z<|Ac 1 Z ?_
  cases bn:(decide (f1.vals.getD ((f0).toNat) 0=((0:Nat):Int)))
  ·have ji:=of_decide_eq_false bn
   refine Ai (by first|rfl|exact zW bn)<|A2<|cP [0,0,2,0,2,0,4,0] Z<|Ad 1 Z<|Ak (p:=zP w.heap.size) 4 Ba Z Z Aa<|Ah (p:=Ao (zP w.heap.size) 4) (.inr Z) ve Be Z (bm.ldp (i:=4) sM) Aa<|AA (v:=ve) 2 D5 Bn Z Z hex.rn.isSl Z sD Aa ?_
   obtain⟨cs60,gs,gt⟩:=hex.rn.get (Ax dex) Ex.zero (k:=2) sD
   obtain⟨dd60,cf,kn,rfl,cg⟩:=RX.of gs
   have du:=cg.rn.lenle
   unfold maxLen at du
   refine AM (p:=Ay ve 2 5) (.inr Z) [zI<|(ex.kids.getD 2 Ex.zero).kind,zI<|(ex.kids.getD 2 Ex.zero).num,zI<|(ex.kids.getD 2 Ex.zero).pick,zI<|(ex.kids.getD 2 Ex.zero).count,cf] B6 Z (fun fc ce=>gt fc<|ah.ext ce) Z Aa<|Ad 1 Z ?_
   refine AB 181 [] [] [zP g,.agg #[zI<|(ex.kids.getD 2 Ex.zero).kind,zI<|(ex.kids.getD 2 Ex.zero).num,zI<|(ex.kids.getD 2 Ex.zero).pick,zI<|(ex.kids.getD 2 Ex.zero).count,cf],vv] Z Z Lj Aa (IH2 dd60 oM _ fm g vp dp ip (l3) (fg) p (f1.guard (f0)<|decide (f1.vals.getD ((f0).toNat) 0=((0:Nat):Int))) cf (ex.kids.getD 2 Ex.zero) vv (env) (fun b hb=>(aa.lt b hb:b<fe.heap.size)) (aa.sub _ hgS) ⟨_,_,_,bl,dt⟩ (RN.stp (Am<|Av dp) hp ah aa.new) _hip oM oM GM ⟨cg.rng,RN.stp (Am<|Ax dd60) cg.rn ah aa.new⟩ (RN.stp g1 henv ah aa.new) hqenv hvp oM (by exact DN hwf oM oM) (by have:=Di (l:=ex.kids) (k:=2) oM;omega) (by exact fun _=>ax.mono (by simp only[NR];omega))) ?_
   rintro mu lm ⟨lo,m1,m2,m3,m4,rfl,ar,⟨m5,vg61,vv61,gu,gv⟩,dv,dw,dx,dy⟩
   refine⟨_,rfl,?_⟩
   have jj:fe.heap.size≤lm.heap.size:=ar.chg.size
   have ko:At S w lm:=ah.stp ar.chg aa.new
   have kp:=bm.chg ar.chg fun hm=>al hm
   have gw:w.heap.size∉m1:=fun hm=>(ar.new _ hm).elim (fun hm=>al hm) (fun h9=>by omega)
   have gx:=aa.trans ar
   have jk:=dv.bnd
   have jl:=dv.num
   have hRv:=dw
   have hL2:=dy
   refine Ac 1 Z<|A1<|AF<|An ?_
   exact Af [6] Z (zI lo) Z ⟨lo,_,m2,m3,m4,rfl,gx,⟨_,_,_,gu,gv⟩,⟨Ei,oM⟩,Eh,dx,Eg⟩
  have jm:=of_decide_eq_true bn
  refine Ag (by first|rfl|exact zW bn)<|cP [0,0,2,0,2,0,4,0] Z<|Ad 1 Z<|Ak (p:=zP w.heap.size) 4 Ba Z Z Aa<|Ah (p:=Ao (zP w.heap.size) 4) (.inr Z) ve Be Z (bm.ldp (i:=4) sM) Aa<|AA (v:=ve) 1 D5 Bn Z Z hex.rn.isSl Z sD Aa ?_
  obtain⟨cs72,gy,gz⟩:=hex.rn.get (Ax dex) Ex.zero (k:=1) sD
  obtain⟨dd72,ch,kq,rfl,ci⟩:=RX.of gy
  have dz:=ci.rn.lenle
  unfold maxLen at dz
  refine AM (p:=Ay ve 1 5) (.inr Z) [zI<|(ex.kids.getD 1 Ex.zero).kind,zI<|(ex.kids.getD 1 Ex.zero).num,zI<|(ex.kids.getD 1 Ex.zero).pick,zI<|(ex.kids.getD 1 Ex.zero).count,ch] B6 Z (fun fc ce=>gz fc<|ah.ext ce) Z Aa<|Ad 1 Z ?_
  refine AB 181 [] [] [zP g,.agg #[zI<|(ex.kids.getD 1 Ex.zero).kind,zI<|(ex.kids.getD 1 Ex.zero).num,zI<|(ex.kids.getD 1 Ex.zero).pick,zI<|(ex.kids.getD 1 Ex.zero).count,ch],vv] Z Z Lj Aa (IH2 dd72 oM _ fm g vp dp ip (l3) (fg) p (f1.guard (f0)<|decide (f1.vals.getD ((f0).toNat) 0=((0:Nat):Int))) ch (ex.kids.getD 1 Ex.zero) vv (env) (fun b hb=>(aa.lt b hb:b<fe.heap.size)) (aa.sub _ hgS) ⟨_,_,_,bl,dt⟩ (RN.stp (Am<|Av dp) hp ah aa.new) _hip oM oM GM ⟨ci.rng,RN.stp (Am<|Ax dd72) ci.rn ah aa.new⟩ (RN.stp g1 henv ah aa.new) hqenv hvp oM (by exact DN hwf oM oM) (by have:=Di (l:=ex.kids) (k:=1) oM;omega) (by exact fun _=>ax.mono (by simp only[NR];omega))) ?_
  rintro mv lp ⟨lq,m6,m7,m8,m9,rfl,au,⟨ma,vg73,vv73,i0,i1⟩,e0,e1,e2,e3⟩
  refine⟨_,rfl,?_⟩
  have jn:fe.heap.size≤lp.heap.size:=au.chg.size
  have kr:At S w lp:=ah.stp au.chg aa.new
  have kt:=bm.chg au.chg fun hm=>al hm
  have i2:w.heap.size∉m6:=fun hm=>(au.new _ hm).elim (fun hm=>al hm) (fun h9=>by omega)
  have i3:=aa.trans au
  have jo:=e0.bnd
  have jp:=e0.num
  have hRv:=e1
  have hL2:=e3
  refine Ac 1 Z<|A1<|An<|AF<|An ?_
  exact Af [6] Z (zI lq) Z ⟨lq,_,m7,m8,m9,rfl,i3,⟨_,_,_,i0,i1⟩,⟨Ei,oM⟩,Eh,e2,Eg⟩
 refine Al false Z Z (A6 db) Aa<|Ac 1 Z<|Ai Z<|cP [0,0] Z ?_
 by_cases e4:ex.kind=((9:Nat):Int)
 ·refine Al true Z Z (A5 e4) Aa<|Ac 1 Z<|Ag Z<|A0 ?_
  letI:JR:=TB S
  refine Jx.AP _ [0,0,1,0,1,0,0,0,0,1,0,1,0,3,3,3,4,0] mixed (by kernel_rfl) ?_
  have hwk:=Oy hwf oM
  refine Jx.VY (zP g) Z Aa<|Jx.Ak (p:=zP w.heap.size) 4 Ba Z Z Aa<|Jx.aH (p:=Ao (zP w.heap.size) 4) ve Be Z (fun wj hj=>(BX.chg (w:=f3.drew) (F:=S) ac hj fun hm=>by have:=hS _ hm;omega).ldp (i:=4) sM) Aa<|Jx.AA (v:=ve) 1 D5 Bn Z Z hex.rn.isSl Z sD Aa ?_
  obtain⟨cs84,i4,i5⟩:=hex.rn.get (Ax dex) Ex.zero (k:=1) sD
  obtain⟨dd84,cj,ku,rfl,ck⟩:=RX.of i4
  have e5:=ck.rn.lenle
  unfold maxLen at e5
  refine Jx.Y9 (p:=Ay ve 1 5) [zI<|(ex.kids.getD 1 Ex.zero).kind,zI<|(ex.kids.getD 1 Ex.zero).num,zI<|(ex.kids.getD 1 Ex.zero).pick,zI<|(ex.kids.getD 1 Ex.zero).count,cj] B6 Z (fun wj hj=>i5 wj<|At.trans a4.drew (show At S f3.drew wj from hj)) Z Aa<|Jx.VY vv Z Aa<|Jx.Az 228 [] [] [vv] Z Z Zw Aa (DQ vv) (fun wq=>EQ wq vv _ henv.slL hqenv)<|Jx.VY (zP g) Z Aa<|Jx.Ak (p:=zP w.heap.size) 4 Ba Z Z Aa<|Jx.aH (p:=Ao (zP w.heap.size) 4) ve Be Z (fun wj hj=>(BX.chg (w:=f3.drew) (F:=S) ac hj fun hm=>by have:=hS _ hm;omega).ldp (i:=4) sM) Aa ?_
  refine Jx.AA (v:=ve) 0 D5 Bn Z Z hex.rn.isSl Z sD Aa ?_
  obtain⟨cs85,i6,i7⟩:=hex.rn.get (Ax dex) Ex.zero (k:=0) sD
  obtain⟨dd85,cl,kv,rfl,cm⟩:=RX.of i6
  have e6:=cm.rn.lenle
  unfold maxLen at e6
  refine Jx.Y9 (p:=Ay ve 0 5) [zI<|(ex.kids.getD 0 Ex.zero).kind,zI<|(ex.kids.getD 0 Ex.zero).num,zI<|(ex.kids.getD 0 Ex.zero).pick,zI<|(ex.kids.getD 0 Ex.zero).count,cl] B6 Z (fun wj hj=>i7 wj<|At.trans a4.drew (show At S f3.drew wj from hj)) Z Aa<|Jx.VY vv Z Aa ?_
  refine Jx.Au 181 [] [] [zP g,.agg #[zI<|(ex.kids.getD 0 Ex.zero).kind,zI<|(ex.kids.getD 0 Ex.zero).num,zI<|(ex.kids.getD 0 Ex.zero).pick,zI<|(ex.kids.getD 0 Ex.zero).count,cl],vv] Z Z Lj Aa (IH2 dd85 oM _ S g vp dp ip (s0+1) (c0) p (T) cl (ex.kids.getD 0 Ex.zero) vv (env) (fun b hb=>(a0.drew.lt b hb:b<f3.heap.size)) (a0.drew.sub _ hgS) ⟨_,_,_,aw,b1⟩ (RN.stp (Am<|Av dp) hp a4.drew a0.drew.new) _hip oM oM GM ⟨cm.rng,RN.stp (Am<|Ax dd85) cm.rn a4.drew a0.drew.new⟩ (RN.stp g1 henv a4.drew a0.drew.new) hqenv hvp oM (by exact DN hwf oM oM) (by have:=Di (l:=ex.kids) (k:=0) oM;omega) (by exact fun _=>ax)) ?_
  rintro mw fh ⟨l4,lr,mb,mc,me,rfl,ad,⟨mf,vg86,vv86,i8,i9⟩,e7,e8,e9,ea⟩
  refine⟨_,rfl,ad.chg,?_⟩
  replace ad:=ad.of_drew
  have jq:f3.heap.size≤fh.heap.size:=ad.chg.size
  have ia:At S w fh:=a4.stp ad.chg a0.new
  have ib:=ac.chg ad.chg fun hm=>E7
  have bb:w.heap.size∉lr:=fun hm=>(ad.new _ hm).elim (fun hm=>E7) (fun h9=>by omega)
  have ic:=a0.trans ad
  have jr:=e7.bnd
  have js:=e7.num
  have gk:=e8
  have hL1:=ea
  refine Jx.aY<|BK (u:=zI l4) (B:=fh.heap.size) BE Bj BH Z Z (On fh.heap.size fh.heap.size _ ⟨rfl,rfl⟩) (A7 _) Aa ?_
  intro mg l5 b2 kw ie
  refine Aj ?_
  have jt:fh.heap.size≤l5.heap.size:=b2.size
  have eb:At S w l5:=ia.ext b2
  have bo:=i8.ext b2
  have bp:=ib.ext b2
  have ig:=Cp.ext i9 b2
  have cn:=ic.ext b2
  refine Jx.cU<|U3 (v:=vv) (a:=mg) (u:=zI<|l4) (r:=l4) Bj BH Z Z Z (RN.stp g1 henv eb cn.new) ie ⟨[],⟨rfl,rfl,e9⟩,fun b hb=>by cases hb⟩ (fun b hb=>(cn.lt b hb:b<l5.heap.size)) oM (by unfold maxLen;omega) Aa ?_
  intro ls l6 ay ec ed
  refine Aj ⟨JR.ext ay,?_⟩
  have ju:l5.heap.size≤l6.heap.size:=ay.size
  have co:At S w l6:=eb.ext ay
  have bq:=bo.ext ay
  have br:=bp.ext ay
  have ih:=Cp.ext ig ay
  have b3:=cn.ext ay
  refine Jx.TW Z ?_
  refine AB 181 [] [] [zP g,.agg #[zI<|(ex.kids.getD 1 Ex.zero).kind,zI<|(ex.kids.getD 1 Ex.zero).num,zI<|(ex.kids.getD 1 Ex.zero).pick,zI<|(ex.kids.getD 1 Ex.zero).count,cj],ls] Z Z Lj Aa (IH2 dd84 oM _ lr g vp dp ip (mc) (me) p (mb) cj (ex.kids.getD 1 Ex.zero) ls (env++[l4]) (fun b hb=>(b3.lt b hb:b<l6.heap.size)) (b3.sub _ hgS) ⟨_,_,_,bq,ih⟩ (RN.stp (Am<|Av dp) hp co b3.new) _hip oM oM GM ⟨ck.rng,RN.stp (Am<|Ax dd84) ck.rn co b3.new⟩ ec ed hvp oM (by have h9:=JC hwf oM oM;rw[List.length_append,List.length_singleton];exact h9) (by have:=Di (l:=ex.kids) (k:=1) oM;rw[List.length_append,List.length_singleton];omega) (by exact fun h9=>K8.snoc (ax.mono oM)<|gk h9)) ?_
  rintro mx lu ⟨lv,mh,mi,mj,ml,rfl,af,⟨mm,vg99,vv99,ii,ij⟩,ee,ef,eg,eh⟩
  refine⟨_,rfl,?_⟩
  have jv:l6.heap.size≤lu.heap.size:=af.chg.size
  have kx:At S w lu:=co.stp af.chg b3.new
  have jw:=br.chg af.chg fun hm=>bb hm
  have g5:w.heap.size∉mh:=fun hm=>(af.new _ hm).elim (fun hm=>bb hm) (fun h9=>by omega)
  have jx:=RN.stp g1 ec af.chg af.new
  have ik:=b3.trans af
  have jy:=ee.bnd
  have jz:=ee.num
  have hRv:=ef
  have hL2:=eh
  refine Ac 1 Z<|A1<|AF<|An ?_
  exact Af [6] Z (zI lv) Z ⟨lv,_,mi,mj,ml,rfl,ik,⟨_,_,_,ii,ij⟩,⟨Ei,oM⟩,Eh,eg,Eg⟩
 refine Al false Z Z (A6 e4) Aa<|Ac 1 Z<|Ai Z<|A2<|cP [0,0,2,0,4,0] Z ?_
 have hkg:ex.kind≠1∧ex.kind≠2∧ex.kind≠8∧ex.kind≠9:=by omega
 have l1:=RB hwf hvp hF
 refine Ad 1 Z<|Ak (p:=zP w.heap.size) 4 Ba Z Z Aa<|Ah (p:=Ao (zP w.heap.size) 4) (.inr Z) ve Be Z (ac.ldp (i:=4) sM) Aa<|Ad 1 Z ?_
 refine AB 102 [] [] [zP g,ve,vv] Z Z SU Aa (P8 F dex (fun d9 h9=>IH2 d9 oM) _ S g vp dp ip (s0+1) (c0) p (T) ve (ex.kids) vv (env) (fun b hb=>(a0.lt b hb:b<f3.heap.size)) (a0.sub _ hgS) ⟨_,_,_,aw,b1⟩ (RN.stp (Am<|Av dp) hp a4 a0.new) _hip oM oM GM (RN.stp (Am<|Ax dex) hex.rn a4 a0.new) (RN.stp g1 henv a4 a0.new) hqenv hvp oM (by intro k hk;exact DN hwf hk oM) (by intro k hk;have:=Di (l:=ex.kids) (k:=k) hk;omega) oM (by exact fun _=>ax)) ?_
 rintro mn f4 ⟨f7,f2,f8,f9,f5,f6,rfl,ag,⟨fo,vg109,vv109,aj,av⟩,bv,ei,bc,cp,cq,cr⟩
 refine⟨_,rfl,?_⟩
 have ct:f3.heap.size≤f4.heap.size:=ag.chg.size
 have a8:At S w f4:=a4.stp ag.chg a0.new
 have ae:=ac.chg ag.chg fun hm=>E7
 have ab:w.heap.size∉f8:=fun hm=>(ag.new _ hm).elim (fun hm=>E7) (fun h9=>by omega)
 have a1:=a0.trans ag
 have il:=bv.bnd
 have im:=bv.num
 have hKr:=cr
 have hKb:=cq
 have hKl:=cp
 have am:=ei.rn
 refine Ac 1 Z<|A0<|cP [0,0,0,2,0] Z<|Ad 1 Z<|AU Z Aa<|Ak (p:=zP g) 7 EX Z Z Aa<|Ah (p:=Ao (zP g) 7) (.inr Z) (zI f6) AC Z (aj.ldp (i:=7) sM) Aa ?_
 by_cases bw:f6≠((0:Nat):Int)
 ·refine B4 true Z Z (A5 bw) Aa<|Aj<|Ag Z<|cQ Z<|A1<|An ?_
  exact Af [6] Z (zI ((0:Nat):Int)) Z ⟨((0:Nat):Int),_,f9,f5,f6,rfl,a1,⟨_,_,_,aj,av⟩,⟨Ei,oM⟩,Eh,oM,Eg⟩
 refine B4 false Z Z (A6 bw) Aa<|Aj<|Ai Z<|A2<|A0<|cP [0,2] Z<|Ak (p:=zP w.heap.size) 0 Bh Z Z Aa<|Ah (p:=Ao (zP w.heap.size) 0) (.inr Z) (zI ex.kind) AC Z (ae.ldp (i:=0) sM) Aa<|Aj<|A3<|cP [0,0] Z ?_
 by_cases bx:ex.kind=((10:Nat):Int)
 ·refine Al true Z Z (A5 bx) Aa<|Ac 1 Z<|Ag Z<|A0<|AP _ [0,0,0,0,0,1,0,1,0,0,1,0,1,0,1,0,4,0] mixed (by kernel_rfl) ?_
  have hwk:=HJ hwf oM
  refine Ad 2 Z ?_
  have hvo:=hvp.outs (ex.num).toNat oM
  have hvd:=hvp.deep (ex.num).toNat oM (ex.pick).toNat oM
  refine AU Z Aa<|Ak (p:=zP g) 0 Qg Z Z Aa<|Ak (p:=Ao (zP g) 0) (b:=g) (o:=0) 0 BA Z Z Aa<|Ah (p:=Ao (Ao (zP g) 0) 0) (.inl Z) vp C9 Z (aj.ldp (i:=0) sM) Aa<|Ak (p:=zP w.heap.size) 1 BI Z Z Aa<|Ah (p:=Ao (zP w.heap.size) 1) (.inl Z) (zI ex.num) AC Z (ae.ldp (i:=1) sM) Aa ?_
  refine AA (v:=vp) ((ex.num).toNat) GF CC Z Z hp.isSl oM sD Aa ?_
  obtain⟨cs118,ej,bz⟩:=hp.get (Av dp) Fn.zero (k:=(ex.num).toNat) sD
  obtain⟨bd,rfl,be⟩:=RF.of ej
  have cu:=be.rn.lenle
  unfold maxLen at cu
  refine AI (p:=Ay vp ((ex.num).toNat) 3) 2 BU Z (bz _ a8.drew) Aa<|Ah (p:=Ao (Ay vp ((ex.num).toNat) 3) 2) (.inl Z) bd Be Z ((bz _ a8.drew).ld (i:=2) (by simp[Fb,Fd])) Aa<|Ak (p:=zP w.heap.size) 2 Dd Z Z Aa<|Ah (p:=Ao (zP w.heap.size) 2) (.inl Z) (zI ex.pick) AC Z (ae.ldp (i:=2) sM) Aa ?_
  refine AA (v:=bd) ((ex.pick).toNat) D5 Bn Z Z be.rn.isSl oM sD Aa ?_
  obtain⟨cs119,ek,el⟩:=be.rn.get (Ax dp) Ex.zero (k:=(ex.pick).toNat) sD
  obtain⟨dd119,bf,k0,rfl,bg⟩:=RX.of ek
  have cv:=bg.rn.lenle
  unfold maxLen at cv
  refine AM (p:=Ay bd ((ex.pick).toNat) 5) (.inl Z) [zI<|(((p.getD ((ex.num).toNat) Fn.zero).outs).getD ((ex.pick).toNat) Ex.zero).kind,zI<|(((p.getD ((ex.num).toNat) Fn.zero).outs).getD ((ex.pick).toNat) Ex.zero).num,zI<|(((p.getD ((ex.num).toNat) Fn.zero).outs).getD ((ex.pick).toNat) Ex.zero).pick,zI<|(((p.getD ((ex.num).toNat) Fn.zero).outs).getD ((ex.pick).toNat) Ex.zero).count,bf] B6 Z (fun fc ce=>el fc<|a8.drew.ext ce) Z Aa<|Ad 1 Z ?_
  refine AB 181 [] [] [zP g,.agg #[zI<|(((p.getD ((ex.num).toNat) Fn.zero).outs).getD ((ex.pick).toNat) Ex.zero).kind,zI<|(((p.getD ((ex.num).toNat) Fn.zero).outs).getD ((ex.pick).toNat) Ex.zero).num,zI<|(((p.getD ((ex.num).toNat) Fn.zero).outs).getD ((ex.pick).toNat) Ex.zero).pick,zI<|(((p.getD ((ex.num).toNat) Fn.zero).outs).getD ((ex.pick).toNat) Ex.zero).count,bf],f7] Z Z Lj Aa (IH1 (ex.num).toNat oM dd119 _ f8 g vp dp ip (f5) (f6) p (f9) bf (((p.getD ((ex.num).toNat) Fn.zero).outs).getD ((ex.pick).toNat) Ex.zero) f7 (f2) (fun b hb=>(a1.drew.lt b hb:b<f4.heap.size)) (a1.drew.sub _ hgS) ⟨_,_,_,aj,av⟩ (RN.stp (Am<|Av dp) hp a8.drew a1.drew.new) _hip oM oM GM ⟨bg.rng,RN.stp (Am<|Ax dd119) bg.rn a8.drew a1.drew.new⟩ am bc hvp oM (by have h9:=hvp.wf (ex.num).toNat oM (ex.pick).toNat oM;rw[show(f2.length:Int)=(p.getD (ex.num).toNat Fn.zero).params from by omega];exact h9) oM hKb) ?_
  rintro mo fp ⟨fq,l9,la,lb,lc,rfl,a2,⟨lw,vg120,vv120,em,en⟩,c2,cw,cx,cy⟩
  refine⟨_,rfl,?_⟩
  replace a2:=a2.of_drew
  have io:f4.heap.size≤fp.heap.size:=a2.chg.size
  have k1:At S w fp:=a8.stp a2.chg a1.new
  have k2:=ae.chg a2.chg fun hm=>ab hm
  have g6:w.heap.size∉l9:=fun hm=>(a2.new _ hm).elim (fun hm=>ab hm) (fun h9=>by omega)
  have k3:=RN.stp g1 am a2.chg a2.new
  have eo:=a1.trans a2
  have iq:=c2.bnd
  have ir:=c2.num
  have hRv:=cw
  have hL2:=cy
  refine Ac 1 Z<|A1<|AF<|An ?_
  exact Af [6] Z (zI fq) Z ⟨fq,_,la,lb,lc,rfl,eo,⟨_,_,_,em,en⟩,⟨Ei,oM⟩,Eh,cx,Eg⟩
 refine Al false Z Z (A6 bx) Aa<|Ac 1 Z<|Ai Z<|cP [0,0] Z ?_
 by_cases c3:ex.kind=((11:Nat):Int)
 ·refine Al true Z Z (A5 c3) Aa<|Ac 1 Z<|Ag Z<|A0<|cP [0] Z ?_
  have hwk:=HJ hwf oM
  have hwl:=MH hwf oM
  refine Ac 1 Z<|A3 ?_
  have hMs:=av
  have hGs:=a1
  have hns:w.heap.size∉f8:=fun hm=>ab hm
  refine AY (S:=Nat×Value×List Int×List Nat×Tp×Nat×Int×Value×Value×Value) (fun⟨i,vk,ks,S9,T9,s9,c9,fr,vg9,vv9⟩=>([(9,vk),(10,zI (i:Int)),(0,zP g),(4,zP w.heap.size)])) (fun⟨i,vk,ks,S9,T9,s9,c9,fr,vg9,vv9⟩ W=>At S w W∧BX W.heap g [vp,zI ip,fr,vg9,zN,vv9,zI (s9:Int),zI c9]∧BX W.heap w.heap.size [zI ex.kind,zI ex.num,zI ex.pick,zI ex.count,ve]∧i≤(ex.count).toNat∧w.heap.size∉S9∧FH S S9 w W∧Cp 69 208 2 S9 g W.heap fr vg9 vv9 T9∧V4 T T9 s0 s9 c9∧RN S9 (B2 rI) W.heap vk ks∧Ci vk∧ks.length=(p.getD (ex.num).toNat Fn.zero).outs.length∧(c9=0→K8 T9 ks)∧AH (It (fun a t U=>HM (Kd p (ex.num).toNat) (p.getD (ex.num).toNat Fn.zero).outs a t U) i f2 f5 f9) (ks,T9) s9 c9) (fun⟨i,vk,ks,S9,T9,s9,c9,fr,vg9,vv9⟩=>(ex.count).toNat-i) (0,f7,f2,f8,f9,f5,f6,fo,vg109,vv109) ⟨rfl,rfl,rfl,rfl,trivial⟩ ⟨a8,aj,ae,oM,hns,hGs,hMs,(by exact⟨by assumption,zO⟩),(by assumption),(by assumption),oM,hKb,(by exact⟨rfl,rfl,zO⟩)⟩ ?_
  clear j4 j5 hG0 ka d3 ga gb g2 g3 gd b0 a4 b1 a0 d5 ac av ct a8 ae a1
  rintro⟨i,vk,ks,S9,T9,s9,c9,fr,vg9,vv9⟩ ρ131 fa ⟨ak,a5,a6,g7,hnb,hGl,hMl,hPl,hrk,hck,hkl,hkb,hrl9⟩
  have is:w.heap.size≤fa.heap.size:=ak.size
  have k4:=a5.lt
  have k5:=a6.lt
  have hnl:=hPl.num
  have hbl:=hPl.bnd
  refine A0<|cP [0,0,2,0,0,0,0,0,2,0,0] Z<|Ad 1 Z<|Ak (p:=zP w.heap.size) 3 Dt Z Z Aa<|Ah (p:=Ao (zP w.heap.size) 3) (.inr Z) (zI ex.count) AC Z (a6.ldp (i:=3) sM) Aa ?_
  by_cases c4:(i:Int)<ex.count
  ·refine AE true Z Z (A5 c4) Aa<|Ad 2 Z<|AU Z (Ae (e:=156) Z Z Z)<|Ak (p:=zP g) 7 EX Z Z (Ae (e:=156) Z Z Z)<|Ah (p:=Ao (zP g) 7) (.inr Z) (zI c9) AC Z (a5.ldp (i:=7) sM) (Ae (e:=156) Z Z Z) ?_
   by_cases c5:c9=((0:Nat):Int)
   ·refine Al true Z Z (A5 c5) (Ae (e:=156) Z Z Z)<|Ac 1 Z<|Ag Z<|A2<|A0<|A3<|AP _ [0,0,0,0,0,1,0,1,0,0,1,0,4,0] mixed (by kernel_rfl)<|Ad 2 Z ?_
    have hvo:=hvp.outs (ex.num).toNat oM
    refine AU Z Aa<|Ak (p:=zP g) 0 Qg Z Z Aa<|Ak (p:=Ao (zP g) 0) (b:=g) (o:=0) 0 BA Z Z Aa<|Ah (p:=Ao (Ao (zP g) 0) 0) (.inl Z) vp C9 Z (a5.ldp (i:=0) sM) Aa<|Ak (p:=zP w.heap.size) 1 BI Z Z Aa<|Ah (p:=Ao (zP w.heap.size) 1) (.inl Z) (zI ex.num) AC Z (a6.ldp (i:=1) sM) Aa ?_
    refine AA (v:=vp) ((ex.num).toNat) GF CC Z Z hp.isSl oM sD Aa ?_
    obtain⟨cs136,ep,c6⟩:=hp.get (Av dp) Fn.zero (k:=(ex.num).toNat) sD
    obtain⟨bh,rfl,c7⟩:=RF.of ep
    have cz:=c7.rn.lenle
    unfold maxLen at cz
    refine AI (p:=Ay vp ((ex.num).toNat) 3) 2 BU Z (c6 _ ak.drew) Aa<|Ah (p:=Ao (Ay vp ((ex.num).toNat) 3) 2) (.inl Z) bh Be Z ((c6 _ ak.drew).ld (i:=2) (by simp[Fb,Fd])) Aa<|Ad 1 Z ?_
    refine AB 102 [] [] [zP g,bh,vk] Z Z SU Aa (P8 (ex.num).toNat dp (fun d9 h9=>IH1 (ex.num).toNat oM d9) _ S9 g vp dp ip (s9) (c9) p (T9) bh ((p.getD ((ex.num).toNat) Fn.zero).outs) vk (ks) (fun b hb=>(hGl.drew.lt b hb:b<fa.heap.size)) (hGl.drew.sub _ hgS) ⟨_,_,_,a5,hMl⟩ (RN.stp (Am<|Av dp) hp ak.drew hGl.drew.new) _hip oM oM GM (RN.stp (Am<|Ax dp) c7.rn ak.drew hGl.drew.new) hrk hck hvp oM (by intro k hk;have h9:=hvp.wf (ex.num).toNat oM k hk;rw[show(ks.length:Int)=(p.getD (ex.num).toNat Fn.zero).params from by omega];exact h9) (by intro k hk;have:=hvp.deep (ex.num).toNat oM k hk;omega) oM hkb) ?_
    rintro mp fs ⟨lf,ft,ff,fu,fv,fw,rfl,a3,⟨fx,vg137,vv137,eq,er⟩,c8,es,it,iu,iv,iw⟩
    refine⟨_,rfl,?_⟩
    replace a3:=a3.of_drew
    have ix:fa.heap.size≤fs.heap.size:=a3.chg.size
    have et:At S w fs:=ak.stp a3.chg hGl.new
    have eu:=a6.chg a3.chg fun hm=>hnb hm
    have bs:w.heap.size∉ff:=fun hm=>(a3.new _ hm).elim (fun hm=>hnb hm) (fun h9=>by omega)
    have k6:=RN.stp g1 hrk a3.chg a3.new
    have ev:=hGl.trans a3
    have iy:=c8.bnd
    have iz:=c8.num
    have j0:=es.rn
    refine Ac 1 Z<|Ab _ [0,0,0] Z<|Ad 1 Z<|AN ((i+1:Nat):Int) Z Z (Bg oM oM) Aa<|Ac 1 Z ?_
    have hMe:=er
    have hGe:=ev
    have hPe:V4 T fu s0 fv fw:=⟨by assumption,zO⟩
    have hne:w.heap.size∉ff:=fun hm=>bs hm
    exact⟨(i+1,lf,ft,ff,fu,fv,fw,fx,vg137,vv137),_,rfl,zR,⟨et,eq,eu,oM,hne,hGe,hMe,hPe,(by assumption),(by assumption),oM,(by assumption),(by exact Xv hrl9 oM (by assumption))⟩,zD⟩
   refine Al false Z Z (A6 c5) (Ae (e:=156) Z Z Z)<|Ac 1 Z<|Ai Z<|A4<|Aw<|Aw<|Aq<|cP [0,0,2,0,2,0] Z ?_
   have hkb9:=fun h9:c9=0=>hkb h9 (ex.pick).toNat oM
   refine Ad 1 Z<|Ak (p:=zP w.heap.size) 2 Dd Z Z Aa<|Ah (p:=Ao (zP w.heap.size) 2) (.inr Z) (zI ex.pick) AC Z (a6.ldp (i:=2) sM) Aa<|AA (v:=vk) ((ex.pick).toNat) Bj BH Z Z hrk.slL oM oM Aa ?_
   have ca:=RN.getI (w:=fa) (k:=(ex.pick).toNat) hrk oM
   refine Ah (p:=Ay vk ((ex.pick).toNat) 1) (.inr Z) (zI<|ks.getD ((ex.pick).toNat) 0) AC Z (ca.1 _<|At.refl _ _) Aa<|Ac 1 Z<|A1<|AF<|An ?_
   exact Af [6] Z (zI<|ks.getD ((ex.pick).toNat) 0) Z ⟨ks.getD ((ex.pick).toNat) 0,_,T9,s9,c9,rfl,hGl,⟨_,_,_,a5,hMl⟩,⟨Ei,oM⟩,Eh,ca.2,Eg⟩
  refine AE false Z Z (A6 c4) Aa<|Ac 7 Z<|Ai Z<|A4<|Aw<|Aw<|Aq<|cP [0,0,2,0,2,0] Z ?_
  have hkb9:=fun h9:c9=0=>hkb h9 (ex.pick).toNat oM
  refine Ad 1 Z<|Ak (p:=zP w.heap.size) 2 Dd Z Z Aa<|Ah (p:=Ao (zP w.heap.size) 2) (.inr Z) (zI ex.pick) AC Z (a6.ldp (i:=2) sM) Aa<|AA (v:=vk) ((ex.pick).toNat) Bj BH Z Z hrk.slL oM oM Aa ?_
  have cb:=RN.getI (w:=fa) (k:=(ex.pick).toNat) hrk oM
  refine Ah (p:=Ay vk ((ex.pick).toNat) 1) (.inr Z) (zI<|ks.getD ((ex.pick).toNat) 0) AC Z (cb.1 _<|At.refl _ _) Aa<|Ac 1 Z<|A1<|AF<|An ?_
  exact Af [6] Z (zI<|ks.getD ((ex.pick).toNat) 0) Z ⟨ks.getD ((ex.pick).toNat) 0,_,T9,s9,c9,rfl,hGl,⟨_,_,_,a5,hMl⟩,⟨Ei,oM⟩,Eh,cb.2,Eg⟩
 refine Al false Z Z (A6 c3) Aa<|Ac 1 Z<|Ai Z<|A2<|cP [0,0,2,0,0,0,4,0] Z ?_
 have hkb9:=hKb oM
 have l2:3≤ex.kind∧ex.kind≤7:=by have:=(CY (CJ hwf)).1;omega
 have hkl:1≤ex.kids.length∧(ex.kind≠7→2≤ex.kids.length):=by by_cases h7:ex.kind=7;(have:=Oz hwf h7;omega);(have:=JD hwf oM;omega)
 refine Ad 1 Z<|Ak (p:=zP w.heap.size) 0 Bh Z Z Aa<|Ah (p:=Ao (zP w.heap.size) 0) (.inr Z) (zI ex.kind) AC Z (ae.ldp (i:=0) sM) Aa<|BC (ex.kind-((3:Nat):Int)) Z Z (DK oM oM) Aa<|AN ex.kind Z Z (aO oM oM oM) Aa<|Ad 1 Z ?_
 refine AB 229 [] [] [zP g,zI ex.kind,f7] Z Z Zx Aa (FI _ f8 g vp dp ip (f5) (f6) p (f9) (ex.kind) f7 (f2) (fun b hb=>(a1.lt b hb:b<f4.heap.size)) (a1.sub _ hgS) ⟨_,_,_,aj,av⟩ (RN.stp (Am<|Av dp) hp a8 a1.new) _hip oM oM GM oM am bc oM oM hkb9 oM) ?_
 rintro mq fy ⟨fz,lg,lh,li,rfl,a9,⟨lx,vg148,vv148,ew,ey⟩,j1,j2,d0,d1,d2⟩
 refine⟨_,rfl,?_⟩
 have j3:f4.heap.size≤fy.heap.size:=a9.chg.size
 have k7:At S w fy:=a8.stp a9.chg a1.new
 have k8:=ae.chg a9.chg fun hm=>ab hm
 have g8:w.heap.size∉lg:=fun hm=>(a9.new _ hm).elim (fun hm=>ab hm) (fun h9=>by omega)
 have k9:=RN.stp g1 am a9.chg a9.new
 have ez:=a1.trans a9
 have hRv:=d0
 have hL2:=d2
 refine Ac 1 Z<|A1 ?_
 exact Af [6] Z (zI fz) Z ⟨fz,_,lh,f5,li,rfl,ez,⟨_,_,_,ew,ey⟩,⟨Ei,oM⟩,Eh,d1,Eg⟩
end
end Go.Proofs.YtbajepcpgncekaaGreat
