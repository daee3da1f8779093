/- Yr, Yt, Xa, Xb, Yu, Ta, Tb, Tc: texts of this claim, joined; what the claim does not come to is left out. -/
import Derived.Test.YtjnbnlniafmblaaGreatQB4
import Derived.Test.YtjnbnlniafmblaaGreatProg
set_option linter.unusedVariables false
set_option linter.unusedSimpArgs false
namespace Go.Proofs.YtjnbnlniafmblaaGreat
open Go Go.RowKit
section
set_option maxHeartbeats 4000000
set_option maxRecDepth 100000
attribute [local irreducible] LW
theorem JJ (w:World)(r:Int)(vm:Nat)(m:Int)(_hr:Bn r)(hcm:If w.heap (zP vm)=some (zI m))(_hm:Bn m)(hm:0≤m∧m≤1000000) :
  Calls Tryz.prog 126 #[zI r,zP vm] w (fun e w'=>e=.returned (.bool (!(decide (0≤r) && decide (r≤m-1))))∧AH w w'):=by
 refine Aq [zI r,zP vm] 9 Tryz.func126 Z Z sM ?_
 have a0:AH w w:=AH.refl w
 refine gL Z<|gK [0,2,0,0,0,0] Z<|Ad 1 Z<|Af (.inr Z) (zI m) AC Z (Bd a0 hcm) Aa ?_
 refine Bk (m-((1:Nat):Int)) Z Z (CM sD sD) Aa ?_
 exact AB 66 [] [] [zI r,zI ((0:Nat):Int),zI (m-((1:Nat):Int))] Z Z FC Aa (.bool (decide (((0:Nat):Int)≤r) && decide (r≤(m-((1:Nat):Int))))) (fun wq=>Ba wq _ _ _ _hr oM oM)<|Bo (!(decide (((0:Nat):Int)≤r) && decide (r≤(m-((1:Nat):Int))))) Z Z Aa<|Ac 1 Z<|A1<|Ah [3] Z (.bool (!(decide (((0:Nat):Int)≤r) && decide (r≤(m-((1:Nat):Int)))))) Z ⟨AO (by first|rfl|simp_all),a0⟩
theorem ID {p:Prop}(h:p:=by first|rfl|exact AO (A5 oM)|(exfalso;(try unfold DN at hf);omega)):p:=h
theorem Fb {p:Prop}(h:p:=by rw[A5 oM,A5 oM];rfl):p:=h
theorem J3 (w:World)(ni:Nat)(ipT:Int)(vtc vtg vtx:Value)(T:Tp)(oT:Sr)(c:As)(k:Int)(_hipT:Bn ipT)(htcT:RN [] (D5 4 KU) w.heap vtc T.code)(htgT:RN [] (D5 2 KV) w.heap vtg T.grd)(htoT:RN [] (B4 rI) w.heap vtx oT)(hc:Qb c)(_hk:Bn k)(hip:ipT=(ni:Int)∧ni≤12)(hk:0≤k∧k≤4000)(hf:DN ni k.toNat c) :
  Calls Tryz.prog 125 #[(.agg #[(zI ipT),vtc,vtg,vtx]),(.agg #[(zI c.op),(zI c.a),(zI c.b),(zI c.num)]),zI k] w (fun e w'=>e=.returned (.bool true)∧AH w w'):=by
 refine Aq [.agg #[zI ipT,vtc,vtg,vtx],.agg #[zI c.op,zI c.a,zI c.b,zI c.num],zI k] 81 Tryz.func125 Z Z sM ?_
 have af:AH w w:=AH.refl w
 have hl_vtx:=htoT.lenL
 unfold maxLen at hl_vtx
 refine gK [3,3,0] Z (By (cs:=#[zI ipT,vtc,vtg,vtx]) Z Aa fun w1 ac am a8=>?_)
 have ag:=ac.size
 have ah:=af.trans ac
 replace a8:BX w1.heap w.heap.size [zI ipT,vtc,vtg,vtx]:=a8
 have an:=a8.lt
 refine By (cs:=#[zI c.op,zI c.a,zI c.b,zI c.num]) Z Aa fun w2 a9 ao a0=>?_
 have ai:=a9.size
 have a1:=ah.trans a9
 have a2:=a8.ext a9
 replace a0:BX w2.heap w1.heap.size [zI c.op,zI c.a,zI c.b,zI c.num]:=a0
 refine Ac 1 Z<|A0<|gK [0,2] Z<|Ak (p:=zP w1.heap.size) 0 HN Z Z Aa<|Af (p:=An (zP w1.heap.size) 0) (.inr Z) (zI c.op) AC Z (a0.ldp (i:=0) sM) Aa<|Aj<|A3<|gK [0,0] Z ?_
 by_cases ad:c.op=((1:Nat):Int)
 ·refine Al true Z Z (A5 ad) Aa<|Ac 1 Z<|Ag Z<|gK [0,2,0,0,0,2,0,0,0,0,2,0,2,0,0,0,0] Z ?_
  unfold DN at hf
  refine Ak (p:=zP w1.heap.size) 1 BC Z Z Aa<|Af (p:=An (zP w1.heap.size) 1) (.inr Z) (zI c.a) AC Z (a0.ldp (i:=1) sM) Aa ?_
  have aj:c.a=((0:Nat):Int):=oM
  refine Al true Z Z (A5 aj) Aa<|Ad 1 Z<|Ak (p:=zP w1.heap.size) 2 BD Z Z (Ae (e:=14) Z Z Z)<|Af (p:=An (zP w1.heap.size) 2) (.inr Z) (zI c.b) AC Z (a0.ldp (i:=2) sM) (Ae (e:=14) Z Z Z) ?_
  have ak:c.b=((0:Nat):Int):=oM
  refine Al true Z Z (A5 ak) (Ae (e:=14) Z Z Z)<|Ad 2 Z<|Ak (p:=zP w1.heap.size) 3 CO Z Z (Ae (e:=19) Z Z Z)<|Af (p:=An (zP w1.heap.size) 3) (.inr Z) (zI c.num) AC Z (a0.ldp (i:=3) sM) (Ae (e:=19) Z Z Z)<|Ak (p:=zP w.heap.size) 0 H2 Z Z (Ae (e:=19) Z Z Z)<|Af (p:=An (zP w.heap.size) 0) (.inr Z) (zI ipT) AC Z (a2.ldp (i:=0) sM) (Ae (e:=19) Z Z Z) ?_
  refine Bk (ipT-((1:Nat):Int)) Z Z (CM sD sD) (Ae (e:=19) Z Z Z) ?_
  refine AB 66 [] [] [zI c.num,zI ((0:Nat):Int),zI (ipT-((1:Nat):Int))] Z Z FC (Ae (e:=19) Z Z Z) (.bool (decide (((0:Nat):Int)≤c.num) && decide (c.num≤(ipT-((1:Nat):Int))))) (fun wq=>Ba wq _ _ _ hc.2.2.2 oM oM) ?_
  rw[show(decide (((0:Nat):Int)≤c.num) && decide (c.num≤(ipT-((1:Nat):Int))))=true from Fb]
  exact Ac 2 Z<|A1<|AG<|Ao<|Ah [6] Z (.bool true) Z ⟨ID,a1⟩
 refine Al false Z Z (A6 ad) Aa<|Ac 1 Z<|Ai Z<|gK [0,0] Z ?_
 by_cases ae:c.op=((2:Nat):Int)
 ·refine Al true Z Z (A5 ae) Aa<|Ac 1 Z<|Ag Z<|gK [0,2,0,0,0,2,0,0,0,0,2,0,0,0] Z ?_
  unfold DN at hf
  refine Ak (p:=zP w1.heap.size) 1 BC Z Z Aa<|Af (p:=An (zP w1.heap.size) 1) (.inr Z) (zI c.a) AC Z (a0.ldp (i:=1) sM) Aa ?_
  have al:c.a=((0:Nat):Int):=oM
  refine Al true Z Z (A5 al) Aa<|Ad 1 Z<|Ak (p:=zP w1.heap.size) 2 BD Z Z (Ae (e:=32) Z Z Z)<|Af (p:=An (zP w1.heap.size) 2) (.inr Z) (zI c.b) AC Z (a0.ldp (i:=2) sM) (Ae (e:=32) Z Z Z) ?_
  have aa:c.b=((0:Nat):Int):=oM
  refine Al true Z Z (A5 aa) (Ae (e:=32) Z Z Z)<|Ad 2 Z<|Ak (p:=zP w1.heap.size) 3 CO Z Z (Ae (e:=37) Z Z Z)<|Af (p:=An (zP w1.heap.size) 3) (.inr Z) (zI c.num) AC Z (a0.ldp (i:=3) sM) (Ae (e:=37) Z Z Z)<|AB 117 [] [] [zI c.num] Z Z UF (Ae (e:=37) Z Z Z) (.bool<|IL c.num) (fun wq=>FK wq _ hc.2.2.2) ?_
  rw[show(IL c.num)=true from CI.2 ⟨zO,zO⟩]
  exact Ac 2 Z<|A1<|AG<|Ao<|Ah [6] Z (.bool true) Z ⟨ID,a1⟩
 refine Al false Z Z (A6 ae) Aa<|Ac 1 Z<|Ai Z<|A0<|gK [0,0] Z ?_
 by_cases a3:c.op=((3:Nat):Int)
 ·refine Al true Z Z (A5 a3) Aa<|Ac 1 Z<|Ag Z<|A2<|Ag Z<|gK [0,2,0,0,0,0,0,2,0,0,0,0,0,0,2,0,0,0] Z ?_
  unfold DN at hf
  refine Ak (p:=zP w1.heap.size) 1 BC Z Z Aa<|Af (p:=An (zP w1.heap.size) 1) (.inr Z) (zI c.a) AC Z (a0.ldp (i:=1) sM) Aa<|Ad 1 Z ?_
  refine Bk (k-((1:Nat):Int)) Z Z (CM sD sD) Aa ?_
  refine AB 66 [] [] [zI c.a,zI ((0:Nat):Int),zI (k-((1:Nat):Int))] Z Z FC Aa (.bool (decide (((0:Nat):Int)≤c.a) && decide (c.a≤(k-((1:Nat):Int))))) (fun wq=>Ba wq _ _ _ hc.2.1 oM oM) ?_
  rw[show(decide (((0:Nat):Int)≤c.a) && decide (c.a≤(k-((1:Nat):Int))))=true from Fb]
  refine Ad 1 Z<|Ak (p:=zP w1.heap.size) 2 BD Z Z (Ae (e:=52) Z Z Z)<|Af (p:=An (zP w1.heap.size) 2) (.inr Z) (zI c.b) AC Z (a0.ldp (i:=2) sM) (Ae (e:=52) Z Z Z)<|Ad 1 Z ?_
  refine Bk (k-((1:Nat):Int)) Z Z (CM sD sD) (Ae (e:=52) Z Z Z) ?_
  refine AB 66 [] [] [zI c.b,zI ((0:Nat):Int),zI (k-((1:Nat):Int))] Z Z FC (Ae (e:=52) Z Z Z) (.bool (decide (((0:Nat):Int)≤c.b) && decide (c.b≤(k-((1:Nat):Int))))) (fun wq=>Ba wq _ _ _ hc.2.2.1 oM oM) ?_
  rw[show(decide (((0:Nat):Int)≤c.b) && decide (c.b≤(k-((1:Nat):Int))))=true from Fb]
  exact Ad 2 Z<|Ak (p:=zP w1.heap.size) 3 CO Z Z (Ae (e:=59) Z Z Z)<|Af (p:=An (zP w1.heap.size) 3) (.inr Z) (zI c.num) AC Z (a0.ldp (i:=3) sM) (Ae (e:=59) Z Z Z)<|Al (decide (c.num=((0:Nat):Int))) Z Z Z (Ae (e:=59) Z Z Z)<|Ac 2 Z<|A1<|AG<|Ao<|Ah [6] Z (.bool<|decide (c.num=((0:Nat):Int))) Z ⟨ID,a1⟩
 refine Al false Z Z (A6 a3) Aa<|Ac 1 Z<|Ai Z<|gK [0,0] Z ?_
 by_cases a4:c.op=((4:Nat):Int)
 ·refine Al true Z Z (A5 a4) Aa<|Ac 1 Z<|Ag Z<|A2<|Ag Z<|gK [0,2,0,0,0,0,0,2,0,0,0,0,0,0,2,0,0,0] Z ?_
  unfold DN at hf
  refine Ak (p:=zP w1.heap.size) 1 BC Z Z Aa<|Af (p:=An (zP w1.heap.size) 1) (.inr Z) (zI c.a) AC Z (a0.ldp (i:=1) sM) Aa<|Ad 1 Z ?_
  refine Bk (k-((1:Nat):Int)) Z Z (CM sD sD) Aa ?_
  refine AB 66 [] [] [zI c.a,zI ((0:Nat):Int),zI (k-((1:Nat):Int))] Z Z FC Aa (.bool (decide (((0:Nat):Int)≤c.a) && decide (c.a≤(k-((1:Nat):Int))))) (fun wq=>Ba wq _ _ _ hc.2.1 oM oM) ?_
  rw[show(decide (((0:Nat):Int)≤c.a) && decide (c.a≤(k-((1:Nat):Int))))=true from Fb]
  refine Ad 1 Z<|Ak (p:=zP w1.heap.size) 2 BD Z Z (Ae (e:=52) Z Z Z)<|Af (p:=An (zP w1.heap.size) 2) (.inr Z) (zI c.b) AC Z (a0.ldp (i:=2) sM) (Ae (e:=52) Z Z Z)<|Ad 1 Z ?_
  refine Bk (k-((1:Nat):Int)) Z Z (CM sD sD) (Ae (e:=52) Z Z Z) ?_
  refine AB 66 [] [] [zI c.b,zI ((0:Nat):Int),zI (k-((1:Nat):Int))] Z Z FC (Ae (e:=52) Z Z Z) (.bool (decide (((0:Nat):Int)≤c.b) && decide (c.b≤(k-((1:Nat):Int))))) (fun wq=>Ba wq _ _ _ hc.2.2.1 oM oM) ?_
  rw[show(decide (((0:Nat):Int)≤c.b) && decide (c.b≤(k-((1:Nat):Int))))=true from Fb]
  exact Ad 2 Z<|Ak (p:=zP w1.heap.size) 3 CO Z Z (Ae (e:=59) Z Z Z)<|Af (p:=An (zP w1.heap.size) 3) (.inr Z) (zI c.num) AC Z (a0.ldp (i:=3) sM) (Ae (e:=59) Z Z Z)<|Al (decide (c.num=((0:Nat):Int))) Z Z Z (Ae (e:=59) Z Z Z)<|Ac 2 Z<|A1<|AG<|Ao<|Ah [6] Z (.bool<|decide (c.num=((0:Nat):Int))) Z ⟨ID,a1⟩
 refine Al false Z Z (A6 a4) Aa<|Ac 1 Z<|Ai Z<|gK [0,0] Z ?_
 by_cases a5:c.op=((5:Nat):Int)
 ·refine Al true Z Z (A5 a5) Aa<|Ac 1 Z<|Ag Z<|A2<|Ag Z<|gK [0,2,0,0,0,0,0,2,0,0,0,0,0,0,2,0,0,0] Z ?_
  unfold DN at hf
  refine Ak (p:=zP w1.heap.size) 1 BC Z Z Aa<|Af (p:=An (zP w1.heap.size) 1) (.inr Z) (zI c.a) AC Z (a0.ldp (i:=1) sM) Aa<|Ad 1 Z ?_
  refine Bk (k-((1:Nat):Int)) Z Z (CM sD sD) Aa ?_
  refine AB 66 [] [] [zI c.a,zI ((0:Nat):Int),zI (k-((1:Nat):Int))] Z Z FC Aa (.bool (decide (((0:Nat):Int)≤c.a) && decide (c.a≤(k-((1:Nat):Int))))) (fun wq=>Ba wq _ _ _ hc.2.1 oM oM) ?_
  rw[show(decide (((0:Nat):Int)≤c.a) && decide (c.a≤(k-((1:Nat):Int))))=true from Fb]
  refine Ad 1 Z<|Ak (p:=zP w1.heap.size) 2 BD Z Z (Ae (e:=52) Z Z Z)<|Af (p:=An (zP w1.heap.size) 2) (.inr Z) (zI c.b) AC Z (a0.ldp (i:=2) sM) (Ae (e:=52) Z Z Z)<|Ad 1 Z ?_
  refine Bk (k-((1:Nat):Int)) Z Z (CM sD sD) (Ae (e:=52) Z Z Z) ?_
  refine AB 66 [] [] [zI c.b,zI ((0:Nat):Int),zI (k-((1:Nat):Int))] Z Z FC (Ae (e:=52) Z Z Z) (.bool (decide (((0:Nat):Int)≤c.b) && decide (c.b≤(k-((1:Nat):Int))))) (fun wq=>Ba wq _ _ _ hc.2.2.1 oM oM) ?_
  rw[show(decide (((0:Nat):Int)≤c.b) && decide (c.b≤(k-((1:Nat):Int))))=true from Fb]
  exact Ad 2 Z<|Ak (p:=zP w1.heap.size) 3 CO Z Z (Ae (e:=59) Z Z Z)<|Af (p:=An (zP w1.heap.size) 3) (.inr Z) (zI c.num) AC Z (a0.ldp (i:=3) sM) (Ae (e:=59) Z Z Z)<|Al (decide (c.num=((0:Nat):Int))) Z Z Z (Ae (e:=59) Z Z Z)<|Ac 2 Z<|A1<|AG<|Ao<|Ah [6] Z (.bool<|decide (c.num=((0:Nat):Int))) Z ⟨ID,a1⟩
 refine Al false Z Z (A6 a5) Aa<|Ac 1 Z<|Ai Z<|Ab _ [0,0] Z ?_
 by_cases a6:c.op=((6:Nat):Int)
 ·refine Al true Z Z (A5 a6) Aa<|Ac 1 Z<|Ag Z<|gK [0,2,0,0,0,0,0,2,0,0,0,0,0,0,2,0,0,0] Z ?_
  unfold DN at hf
  refine Ak (p:=zP w1.heap.size) 1 BC Z Z Aa<|Af (p:=An (zP w1.heap.size) 1) (.inr Z) (zI c.a) AC Z (a0.ldp (i:=1) sM) Aa<|Ad 1 Z ?_
  refine Bk (k-((1:Nat):Int)) Z Z (CM sD sD) Aa ?_
  refine AB 66 [] [] [zI c.a,zI ((0:Nat):Int),zI (k-((1:Nat):Int))] Z Z FC Aa (.bool (decide (((0:Nat):Int)≤c.a) && decide (c.a≤(k-((1:Nat):Int))))) (fun wq=>Ba wq _ _ _ hc.2.1 oM oM) ?_
  rw[show(decide (((0:Nat):Int)≤c.a) && decide (c.a≤(k-((1:Nat):Int))))=true from Fb]
  refine Ad 1 Z<|Ak (p:=zP w1.heap.size) 2 BD Z Z (Ae (e:=52) Z Z Z)<|Af (p:=An (zP w1.heap.size) 2) (.inr Z) (zI c.b) AC Z (a0.ldp (i:=2) sM) (Ae (e:=52) Z Z Z)<|Ad 1 Z ?_
  refine Bk (k-((1:Nat):Int)) Z Z (CM sD sD) (Ae (e:=52) Z Z Z) ?_
  refine AB 66 [] [] [zI c.b,zI ((0:Nat):Int),zI (k-((1:Nat):Int))] Z Z FC (Ae (e:=52) Z Z Z) (.bool (decide (((0:Nat):Int)≤c.b) && decide (c.b≤(k-((1:Nat):Int))))) (fun wq=>Ba wq _ _ _ hc.2.2.1 oM oM) ?_
  rw[show(decide (((0:Nat):Int)≤c.b) && decide (c.b≤(k-((1:Nat):Int))))=true from Fb]
  exact Ad 2 Z<|Ak (p:=zP w1.heap.size) 3 CO Z Z (Ae (e:=59) Z Z Z)<|Af (p:=An (zP w1.heap.size) 3) (.inr Z) (zI c.num) AC Z (a0.ldp (i:=3) sM) (Ae (e:=59) Z Z Z)<|Al (decide (c.num=((0:Nat):Int))) Z Z Z (Ae (e:=59) Z Z Z)<|Ac 2 Z<|A1<|AG<|Ao<|Ah [6] Z (.bool<|decide (c.num=((0:Nat):Int))) Z ⟨ID,a1⟩
 refine Al false Z Z (A6 a6) Aa<|Ac 1 Z<|Ai Z<|gK [0,0] Z ?_
 by_cases a7:c.op=((7:Nat):Int)
 ·refine Al true Z Z (A5 a7) Aa<|Ac 1 Z<|Ag Z<|gK [0,2,0,0,0,0,0,2,0,0,0,0,2,0,0,0] Z ?_
  unfold DN at hf
  refine Ak (p:=zP w1.heap.size) 1 BC Z Z Aa<|Af (p:=An (zP w1.heap.size) 1) (.inr Z) (zI c.a) AC Z (a0.ldp (i:=1) sM) Aa<|Ad 1 Z ?_
  refine Bk (k-((1:Nat):Int)) Z Z (CM sD sD) Aa ?_
  refine AB 66 [] [] [zI c.a,zI ((0:Nat):Int),zI (k-((1:Nat):Int))] Z Z FC Aa (.bool (decide (((0:Nat):Int)≤c.a) && decide (c.a≤(k-((1:Nat):Int))))) (fun wq=>Ba wq _ _ _ hc.2.1 oM oM) ?_
  rw[show(decide (((0:Nat):Int)≤c.a) && decide (c.a≤(k-((1:Nat):Int))))=true from Fb]
  refine Ad 1 Z<|Ak (p:=zP w1.heap.size) 2 BD Z Z (Ae (e:=71) Z Z Z)<|Af (p:=An (zP w1.heap.size) 2) (.inr Z) (zI c.b) AC Z (a0.ldp (i:=2) sM) (Ae (e:=71) Z Z Z) ?_
  have ab:c.b=((0:Nat):Int):=oM
  exact Al true Z Z (A5 ab) (Ae (e:=71) Z Z Z)<|Ad 2 Z<|Ak (p:=zP w1.heap.size) 3 CO Z Z (Ae (e:=76) Z Z Z)<|Af (p:=An (zP w1.heap.size) 3) (.inr Z) (zI c.num) AC Z (a0.ldp (i:=3) sM) (Ae (e:=76) Z Z Z)<|Al (decide (c.num=((0:Nat):Int))) Z Z Z (Ae (e:=76) Z Z Z)<|Ac 2 Z<|A1<|AG<|Ao<|Ah [6] Z (.bool<|decide (c.num=((0:Nat):Int))) Z ⟨ID,a1⟩
 exact Al false Z Z (A6 a7) Aa<|Ac 1 Z<|Ai Z<|A2<|gL Z<|A1<|Ah [6] Z (.bool false) Z ⟨ID,a1⟩
theorem Lc (w:World)(a:Sr)(ipT:Int)(vtc vtg vtx:Value)(T:Tp)(oT:Sr)(_hipT:Bn ipT)(htcT:RN [] (D5 4 KU) w.heap vtc T.code)(htgT:RN [] (D5 2 KV) w.heap vtg T.grd)(htoT:RN [] (B4 rI) w.heap vtx oT)(hip:ipT=(a.length:Int))(hR:PB a T oT) :
  Calls Tryz.prog 65 #[(.agg #[(zI ipT),vtc,vtg,vtx])] w (fun e w'=>e=.returned (.bool true)∧AH w w'):=by
 refine Aq [.agg #[zI ipT,vtc,vtg,vtx]] 67 Tryz.func65 Z Z sM ?_
 have bm:AH w w:=AH.refl w
 have hl_vtx:=htoT.lenL
 unfold maxLen at hl_vtx
 have hK:=hR.k
 have hni:=hK.nb
 have hcl:=hK.cl
 have cn:=hK.gl
 have hol:=hK.ol
 have hpos:=hK.pos
 refine gK [3,0] Z (By (cs:=#[zI ipT,vtc,vtg,vtx]) Z Aa fun w1 b2 bw ab=>?_)
 have b3:=b2.size
 have bn:=bm.trans b2
 replace ab:BX w1.heap w.heap.size [zI ipT,vtc,vtg,vtx]:=ab
 refine Ac 1 Z<|A0<|gK [0,2,0,0,0,0,2,0,0,0,0,0,2,0,0,0,0,0,2,0,0,0,0] Z<|Ak (p:=zP w.heap.size) 0 H2 Z Z Aa<|Af (p:=An (zP w.heap.size) 0) (.inr Z) (zI ipT) AC Z (ab.ldp (i:=0) sM) Aa<|AB 66 [] [] [zI ipT,zI ((0:Nat):Int),zI ((12:Nat):Int)] Z Z FC Aa (.bool (decide (((0:Nat):Int)≤ipT) && decide (ipT≤((12:Nat):Int)))) (fun wq=>Ba wq _ _ _ _hipT oM oM) ?_
 rw[show(decide (((0:Nat):Int)≤ipT) && decide (ipT≤((12:Nat):Int)))=true from Fb]
 refine Bo false Z Z Aa<|Ad 1 Z<|Ak (p:=zP w.heap.size) 1 Cp Z Z (Ae (e:=12) Z Z Z)<|Af (p:=An (zP w.heap.size) 1) (.inr Z) vtc DQ Z (ab.ldp (i:=1) sM) (Ae (e:=12) Z Z Z)<|AR (v:=vtc) JY Z htcT.isSl (Ae (e:=12) Z Z Z) ?_
 have bx:¬(((3200:Nat):Int)<(T.code.length:Int)):=oM
 refine C2 false Z Z (A6 bx) (Ae (e:=12) Z Z Z)<|Ad 2 Z<|Ak (p:=zP w.heap.size) 2 HM Z Z (Ae (e:=18) Z Z Z)<|Af (p:=An (zP w.heap.size) 2) (.inr Z) vtg MN Z (ab.ldp (i:=2) sM) (Ae (e:=18) Z Z Z)<|AR (v:=vtg) Vp Z htgT.isSl (Ae (e:=18) Z Z Z) ?_
 have bz:¬(((3200:Nat):Int)<(T.grd.length:Int)):=oM
 refine C2 false Z Z (A6 bz) (Ae (e:=18) Z Z Z)<|Ad 2 Z<|Ak (p:=zP w.heap.size) 3 EV Z Z (Ae (e:=24) Z Z Z)<|Af (p:=An (zP w.heap.size) 3) (.inr Z) vtx B6 Z (ab.ldp (i:=3) sM) (Ae (e:=24) Z Z Z)<|AR (v:=vtx) Bt Z htoT.slL (Ae (e:=24) Z Z Z)<|AB 66 [] [] [zI (oT.length:Int),zI ((1:Nat):Int),zI ((12:Nat):Int)] Z Z FC (Ae (e:=24) Z Z Z) (.bool (decide (((1:Nat):Int)≤(oT.length:Int)) && decide ((oT.length:Int)≤((12:Nat):Int)))) (fun wq=>Ba wq _ _ _ oM oM oM) ?_
 rw[show(decide (((1:Nat):Int)≤(oT.length:Int)) && decide ((oT.length:Int)≤((12:Nat):Int)))=true from Fb]
 refine Bo false Z Z (Ae (e:=24) Z Z Z)<|Ac 1 Z<|Ai Z<|A2<|gK [0,2,0,3,4] Z<|Ak (p:=zP w.heap.size) 1 Cp Z Z Aa<|Af (p:=An (zP w.heap.size) 1) (.inr Z) vtc DQ Z (ab.ldp (i:=1) sM) Aa<|AR (v:=vtc) JY Z htcT.isSl Aa ?_
 have ce:=ab.lt
 refine Bs (z:=zI (0:Int)) (by kernel_rfl) Aa fun w6 b0 c0 b4=>?_
 have b5:=b0.size
 have b6:=bn.trans b0
 have aq:=ab.ext b0
 replace b4:BX w6.heap w1.heap.size [zI (0:Int)]:=b4
 refine Bm (k:=0) (w:=w6) HL Z Z ⟨rfl,rfl⟩ b4 sM Aa fun w8 b1 c1 b7=>?_
 replace b7:BX w8.heap w1.heap.size [zI (T.code.length:Int)]:=b7
 have bo:AH w w8:=b1.below b6 (fun _ h=>zE h) b6.size
 have b8:w6.heap.size≤w8.heap.size:=b1.size
 have b9:=aq.chg b1 (zB ·)
 refine Aj<|A0<|gK [0,2,0,0] Z<|Ak (p:=zP w.heap.size) 1 Cp Z Z Aa<|Af (p:=An (zP w.heap.size) 1) (.inr Z) vtc DQ Z (b9.ldp (i:=1) sM) Aa<|AR (v:=vtc) JY Z htcT.isSl Aa<|Ac 1 Z<|A3 ?_
 refine AU (S:=Nat) (fun k=>([(37,zI (k:Int)),(1,zP w.heap.size),(3,zP w1.heap.size),(35,vtc),(36,zI (T.code.length:Int))])) (fun k W=>AH w W∧BX W.heap w.heap.size [zI ipT,vtc,vtg,vtx]∧BX W.heap w1.heap.size [zI (T.code.length:Int)]∧k≤T.code.length) (fun k=>T.code.length-k) 0 ⟨rfl,rfl,rfl,rfl,rfl,trivial⟩ ⟨bo,b9,b7,oM⟩ ?_
 clear bm bw b2 b3 bn c0 b0 b5 b6 c1 b1 bo b8 b9
 rintro k ρ10 ci ⟨a8,a0,a1,ba⟩
 have ar:w.heap.size≤ci.heap.size:=a8.size
 have c2:=a0.lt
 have c3:=a1.lt
 refine gK [0] Z ?_
 by_cases au:(k:Int)<(T.code.length:Int)
 ·refine AI true Z Z (A5 au) Aa<|Aj<|A0<|Ag Z<|A2<|A0<|A3<|gK [0,0,2,3,0,4] Z<|Ad 1 Z<|Aw (v:=vtc) k JY FD Z Z htcT.isSl Z sD Aa ?_
  obtain⟨cs14,bb,bc⟩:=htcT.get AY As.zero (k:=k) sD
  obtain⟨rfl,ac⟩:=Io bb
  refine AK (p:=Ay vtc k 4) (.inr Z) [zI<|(T.code.getD k As.zero).op,zI<|(T.code.getD k As.zero).a,zI<|(T.code.getD k As.zero).b,zI<|(T.code.getD k As.zero).num] DZ Z (fun cg ak=>bc cg<|At.of_ext []<|a8.trans ak) Z Aa ?_
  have c4:=a0.lt
  have c5:=a1.lt
  refine Bs (z:=.agg #[zI 0,zI 0,zI 0,zI 0]) Qo Aa fun ck ad c6 al=>?_
  have bp:=ad.size
  have av:=a8.trans ad
  have a4:=a0.ext ad
  have a5:=a1.ext ad
  replace al:BX ck.heap ci.heap.size [zI 0,zI 0,zI 0,zI 0]:=al
  refine Ad 1 Z (BE (vs:=[zI<|(T.code.getD k As.zero).op,zI<|(T.code.getD k As.zero).a,zI<|(T.code.getD k As.zero).b,zI<|(T.code.getD k As.zero).num]) DZ Z Z (by intro u hu;simp only[ze,z2,or_false]at hu;rcases hu with rfl|rfl|rfl|rfl <;> first|exact⟨rfl,rfl⟩) al Z Z Aa fun ch ae c7 am=>?_)
  replace am:BX ch.heap ci.heap.size [zI ((T.code.getD k As.zero).op),zI ((T.code.getD k As.zero).a),zI ((T.code.getD k As.zero).b),zI ((T.code.getD k As.zero).num)]:=am
  have af:AH w ch:=ae.below av (fun _ h=>zE h) av.size
  have bq:ck.heap.size≤ch.heap.size:=ae.size
  have aw:=a4.chg ae (zB ·)
  have bd:=a5.chg ae (zB ·)
  refine Aj<|gK [2,2,0,3,0] Z<|AK (p:=zP w.heap.size) (.inr Z) [zI ipT,vtc,vtg,vtx] EE Z (fun cg ak=>LD.of_box<|BX.ext (w:=ch) aw ak) Z Aa<|AK (p:=zP ci.heap.size) (.inr Z) [zI<|(T.code.getD k As.zero).op,zI<|(T.code.getD k As.zero).a,zI<|(T.code.getD k As.zero).b,zI<|(T.code.getD k As.zero).num] DZ Z (fun cg ak=>LD.of_box<|BX.ext (w:=ch) am ak) Z Aa<|Ad 1 Z ?_
  refine Ap 125 [] [] [.agg #[zI ipT,vtc,vtg,vtx],.agg #[zI<|(T.code.getD k As.zero).op,zI<|(T.code.getD k As.zero).a,zI<|(T.code.getD k As.zero).b,zI<|(T.code.getD k As.zero).num],zI (k:Int)] Z Z bZ Aa (J3 _ a.length (ipT) vtc vtg vtx (T) (oT) (⟨(T.code.getD k As.zero).op,(T.code.getD k As.zero).a,(T.code.getD k As.zero).b,(T.code.getD k As.zero).num⟩:As) _ _hipT (htcT.ext (Am AY) af) (htgT.ext (Am Bb) af) (htoT.ext g1 af) ⟨ac.1,ac.2.1,ac.2.2.1,ac.2.2.2⟩ oM oM oM (by have h9:=hK.form k oM;rw[Int.toNat_natCast];exact h9)) ?_
  rintro co cp ⟨rfl,a9⟩
  refine⟨_,rfl,a9,?_⟩
  have br:=a9.size
  have be:=af.trans a9
  have ag:=aw.ext a9
  have ah:=bd.ext a9
  exact Bo false Z Z Aa<|Aj<|Ai Z<|A2<|Ab _ [0,0] Z<|AQ ((k+1:Nat):Int) Z Z (Bi oM sD) Aa<|Ac 1 Z ⟨k+1,_,rfl,zR,⟨be,ag,ah,oM⟩,zD⟩
 refine AI false Z Z (A6 au) Aa<|Aj<|A0<|Ai Z<|A4<|AA<|AA<|Av<|A0<|gK [0,2,0,0] Z<|Ak (p:=zP w.heap.size) 2 HM Z Z Aa<|Af (p:=An (zP w.heap.size) 2) (.inr Z) vtg MN Z (a0.ldp (i:=2) sM) Aa<|AR (v:=vtg) Vp Z htgT.isSl Aa<|Ac 1 Z<|A3 ?_
 refine AU (S:=Nat) (fun j=>([(51,zI (j:Int)),(1,zP w.heap.size),(3,zP w1.heap.size),(49,vtg),(50,zI (T.grd.length:Int))])) (fun j W=>AH w W∧BX W.heap w.heap.size [zI ipT,vtc,vtg,vtx]∧BX W.heap w1.heap.size [zI (T.code.length:Int)]∧j≤T.grd.length) (fun j=>T.grd.length-j) 0 ⟨rfl,rfl,rfl,rfl,rfl,trivial⟩ ⟨a8,a0,a1,oM⟩ ?_
 clear a1 a0 a8 ar
 rintro j ρ22 cf ⟨aa,a2,a3,bf⟩
 have bs:w.heap.size≤cf.heap.size:=aa.size
 have c8:=a2.lt
 have c9:=a3.lt
 refine gK [0] Z ?_
 by_cases ax:(j:Int)<(T.grd.length:Int)
 ·refine AI true Z Z (A5 ax) Aa<|Aj<|A0<|Ag Z<|A2<|A0<|A3<|gK [0,2,3,4] Z<|Aw (v:=vtg) j Vp L3 Z Z htgT.isSl Z sD Aa ?_
  obtain⟨cs26,bg,bh⟩:=htgT.get Bb Hh.zero (k:=j) sD
  obtain⟨rfl,bi⟩:=Ui bg
  refine AK (p:=Ay vtg j 2) (.inr Z) [zI<|(T.grd.getD j Hh.zero).reg,.bool<|(T.grd.getD j Hh.zero).z] US Z (fun cg ak=>bh cg<|At.of_ext []<|aa.trans ak) Z Aa ?_
  have ca:=a2.lt
  have cb:=a3.lt
  refine Bs (z:=.agg #[zI 0,.bool false]) dT Aa fun cm ai cc an=>?_
  have bt:=ai.size
  have ay:=aa.trans ai
  have a6:=a2.ext ai
  have a7:=a3.ext ai
  replace an:BX cm.heap cf.heap.size [zI 0,.bool false]:=an
  refine BE (vs:=[zI<|(T.grd.getD j Hh.zero).reg,.bool<|(T.grd.getD j Hh.zero).z]) US Z Z (by intro u hu;simp only[ze,z2,or_false]at hu;rcases hu with rfl|rfl <;> first|exact⟨rfl,rfl⟩) an Z Z Aa fun cj aj cd ao=>?_
  replace ao:BX cj.heap cf.heap.size [zI ((T.grd.getD j Hh.zero).reg),.bool ((T.grd.getD j Hh.zero).z)]:=ao
  have bj:AH w cj:=aj.below ay (fun _ h=>zE h) ay.size
  have bu:cm.heap.size≤cj.heap.size:=aj.size
  have bk:=a6.chg aj (zB ·)
  have az:=a7.chg aj (zB ·)
  refine Aj<|gK [0,2,2,0,0,0] Z ?_
  have hgj:=hK.gd j oM
  refine Ak (p:=zP cf.heap.size) 0 RW Z Z Aa<|Af (p:=An (zP cf.heap.size) 0) (.inr Z) (zI<|(T.grd.getD j Hh.zero).reg) AC Z (ao.ldp (i:=0) sM) Aa<|Af (p:=zP w1.heap.size) (.inr Z) (zI (T.code.length:Int)) AC Z (az.ld (k:=0) sM) Aa ?_
  refine Bk ((T.code.length:Int)-((1:Nat):Int)) Z Z (CM sD sD) Aa ?_
  refine AB 66 [] [] [zI<|(T.grd.getD j Hh.zero).reg,zI ((0:Nat):Int),zI ((T.code.length:Int)-((1:Nat):Int))] Z Z FC Aa (.bool (decide (((0:Nat):Int)≤((T.grd.getD j Hh.zero).reg)) && decide (((T.grd.getD j Hh.zero).reg)≤((T.code.length:Int)-((1:Nat):Int))))) (fun wq=>Ba wq _ _ _ bi oM oM) ?_
  rw[show(decide (((0:Nat):Int)≤((T.grd.getD j Hh.zero).reg)) && decide (((T.grd.getD j Hh.zero).reg)≤((T.code.length:Int)-((1:Nat):Int))))=true from Fb]
  exact Bo false Z Z Aa<|Aj<|Ai Z<|A2<|Ab _ [0,0] Z<|AQ ((j+1:Nat):Int) Z Z (Bi oM sD) Aa<|Ac 1 Z ⟨j+1,_,rfl,zR,⟨bj,bk,az,oM⟩,zD⟩
 refine AI false Z Z (A6 ax) Aa<|Aj<|A0<|Ai Z<|A4<|AA<|AA<|Av<|gK [0,2,0,3,0,0] Z<|Ak (p:=zP w.heap.size) 3 EV Z Z Aa<|Af (p:=An (zP w.heap.size) 3) (.inr Z) vtx B6 Z (a2.ldp (i:=3) sM) Aa<|O5 [] [zP w1.heap.size] Z Z Aa ?_
 refine Ap 115 [] [] [vtx,.func (.func 126) #[] #[zP w1.heap.size]] Z Z Yj Aa (CA _ _ _ 126 [] [zP w1.heap.size] (fun x=>!(decide (0≤x) && decide (x≤(T.code.length:Int)-1))) (htoT.ext g1 aa).rd cA fun x hx wz hw=>JJ wz x w1.heap.size (T.code.length:Int) hx ((BX.ext (w:=cf) a3 hw).ld (k:=0) sM) oM oM) ?_
 rintro cq cr ⟨rfl,ap⟩
 refine⟨_,rfl,ap,?_⟩
 have bv:=ap.size
 have bl:=aa.trans ap
 rw[show(oT.any (fun x=>!(decide (0≤x) && decide (x≤(T.code.length:Int)-1))))=false from hK.any]
 exact Bo true Z Z Aa<|Ac 1 Z<|A1<|Ah [2] Z (.bool true) Z ⟨rfl,bl⟩
theorem OL (w:World)(a:Sr)(ipT:Int)(vtc vtg vtx:Value)(T:Tp)(oT:Sr)(vl:Value)(L:List (Sr))(_hipT:Bn ipT)(htcT:RN [] (D5 4 KU) w.heap vtc T.code)(htgT:RN [] (D5 2 KV) w.heap vtg T.grd)(htoT:RN [] (B4 rI) w.heap vtx oT)(hL:RN [] (B4 (B4 rI)) w.heap vl L)(hqL:C3 vl)(hip:ipT=(a.length:Int))(hR:PB a T oT)(hLL:∀k,k<L.length→(L.getD k []).length=a.length∧AX (L.getD k [])=true) :
  Calls Tryz.prog 129 #[(.agg #[(zI ipT),vtc,vtg,vtx]),vl] w (fun e w'=>e=.returned (zI 0)∧AH w w'):=by
 refine Aq [.agg #[zI ipT,vtc,vtg,vtx],vl] 22 Tryz.func129 Z Z sM ?_
 have ac:AH w w:=AH.refl w
 have hl_vtx:=htoT.lenL
 unfold maxLen at hl_vtx
 have ap:=hL.lenL
 unfold maxLen at ap
 refine gK [3,0] Z (By (cs:=#[zI ipT,vtc,vtg,vtx]) Z Aa fun w1 a8 ai a6=>?_)
 have a9:=a8.size
 have a2:=ac.trans a8
 replace a6:BX w1.heap w.heap.size [zI ipT,vtc,vtg,vtx]:=a6
 refine Ac 1 Z<|A0<|gK [2,3,0] Z<|AK (p:=zP w.heap.size) (.inr Z) [zI ipT,vtc,vtg,vtx] EE Z (fun aq aj=>LD.of_box<|BX.ext (w:=w1) a6 aj) Z Aa<|Ap 65 [] [] [.agg #[zI ipT,vtc,vtg,vtx]] Z Z fL Aa (Lc _ a (ipT) vtc vtg vtx (T) (oT) _hipT (htcT.ext (Am AY) a2) (htgT.ext (Am Bb) a2) (htoT.ext g1 a2) oM hR) ?_
 rintro e2 w2 ⟨rfl,a3⟩
 refine⟨_,rfl,a3,?_⟩
 have aa:=a3.size
 have ad:=a2.trans a3
 have a4:=a6.ext a3
 refine Bo false Z Z Aa<|Aj<|Ai Z<|A2<|A0<|gK [0,0,0] Z<|Ad 1 Z<|AR (v:=vl) Bx Z hL.slL Aa<|Ac 1 Z<|A3<|AU (S:=Nat) (fun k=>([(12,zI (k:Int)),(2,zP w.heap.size),(10,vl),(11,zI (L.length:Int))])) (fun k W=>AH w W∧BX W.heap w.heap.size [zI ipT,vtc,vtg,vtx]∧k≤L.length) (fun k=>L.length-k) 0 ⟨rfl,rfl,rfl,rfl,trivial⟩ ⟨ad,a4,oM⟩ ?_
 clear ac ai a8 a9 a2 a3 aa ad
 rintro k ρ3 w3 ⟨a5,a0,ae⟩
 have ak:w.heap.size≤w3.heap.size:=a5.size
 have ao:=a0.lt
 refine gK [0] Z ?_
 by_cases af:(k:Int)<(L.length:Int)
 ·refine AI true Z Z (A5 af) Aa<|Aj<|A0<|Ag Z<|A2<|A0<|A3<|gK [0,2,0] Z<|Aw (v:=vl) k Bx AT Z Z hL.slL Z sD Aa ?_
  obtain⟨ag,al,ah⟩:=RN.getL (w:=w) g1 [] (k:=k) hL sD
  have ab:=ah.lenL
  unfold maxLen at ab
  refine Af (p:=Ay vl k 1) (.inr Z) ag B6 Z (al _<|At.of_ext [] a5) Aa<|Ac 1 Z<|gK [0,0,2,3,0] Z ?_
  have hLk:=hLL k oM
  refine Ad 1 Z<|Ak (p:=zP w.heap.size) 0 H2 Z Z Aa<|Af (p:=An (zP w.heap.size) 0) (.inr Z) (zI ipT) AC Z (a0.ldp (i:=0) sM) Aa<|Ap 57 [] [] [ag,zI ipT] Z Z Sw Aa (Ct _ _ _ _ (ah.ext g1 a5).rd _hipT) ?_
  rintro e7 w7 ⟨rfl,a7⟩
  refine⟨_,rfl,a7,?_⟩
  have am:=a7.size
  have an:=a5.trans a7
  have a1:=a0.ext a7
  rw[show(decide ((((L.getD k []).length:Nat):Int)=ipT) && AX (L.getD k []))=true from(by rw[A5 oM,hLk.2];rfl)]
  exact Bo false Z Z Aa<|Aj<|Ai Z<|A2<|Ab _ [0,0] Z<|AQ ((k+1:Nat):Int) Z Z (Bi oM sD) Aa<|Ac 1 Z ⟨k+1,_,rfl,zR,⟨an,a1,oM⟩,zD⟩
 exact AI false Z Z (A6 af) Aa<|Aj<|A0<|Ai Z<|A4<|AA<|AA<|Av<|gL Z<|A1<|Ah [4] Z (zI ((0:Nat):Int)) Z ⟨rfl,a5⟩
theorem OM (w:World)(va:Value)(a:Sr)(vd:Value)(d:Sr)(ha:Rd (B4 rI) w.heap va a)(hd:Rd (B4 rI) w.heap vd d)(hl:d.length=a.length)(hla:a.length≤1000) :
  Calls Tryz.prog 121 #[va,vd] w (fun e w'=>∃v0:Value,e=.returned (v0)∧AH w w'∧Fr (Bp (Bp rI 2) 27) w.heap.size w'.heap.size w'.heap v0 (D7 a d 2)):=by
 refine Aq [va,vd] 27 Tryz.func121 Z Z sM ?_
 have a9:AH w w:=AH.refl w
 have au:=ha.lenle
 have av:=hd.lenle
 refine gL Z<|gK [3,0] Z (Cn (Bp rI 2) o1 Bx AT Aa fun v1 w1 a4 af aa=>?_)
 have a5:=a4.size
 have ab:=a9.trans a4
 refine Ac 1 Z<|A0<|gK [0,0,0] Z<|Ad 1 Z<|AR (v:=va) Bt Z ha.isSl Aa<|Ac 1 Z<|A3 ?_
 refine AU (S:=Nat×Value) (fun⟨k,vo⟩=>([(5,vo),(11,zI (k:Int)),(1,vd),(9,va),(10,zI (a.length:Int))])) (fun⟨k,vo⟩ W=>AH w W∧Fr (Bp (Bp rI 2) 27) w.heap.size W.heap.size W.heap vo ((D7 a d 2).take k)∧k≤a.length) (fun⟨k,vo⟩=>a.length-k) (0,v1) ⟨rfl,rfl,rfl,rfl,rfl,trivial⟩ ⟨ab,aa.up o2,sD⟩ ?_
 clear a9 aa af a4 a5 ab
 rintro⟨k,vo⟩ ρ2 w2 ⟨a3,a2,ac⟩
 have ag:w.heap.size≤w2.heap.size:=a3.size
 refine gK [0] Z ?_
 by_cases ad:(k:Int)<(a.length:Int)
 ·refine AI true Z Z (A5 ad) Aa<|Aj<|A0<|Ag Z<|A2<|A0<|A3<|gK [0,0,2,0,0] Z<|Ad 1 Z<|Aw (v:=va) k Bt BG Z Z ha.isSl Z sD Aa ?_
  refine Af (p:=Ay va k 1) (.inr Z) (zI<|a.getD k 0) AC Z (Bd a3 (ha.getI sD).1) Aa<|Ac 2 Z<|Ab _ [0,0,0,0,0,2,3,3,4,0] Z<|Ad 4 Z ?_
  refine Aw (v:=vd) k Bt BG Z Z hd.isSl Z sD Aa ?_
  refine Af (p:=Ay vd k 1) (.inr Z) (zI<|d.getD k 0) AC Z (Bd a3 (hd.getI sD).1) Aa ?_
  refine XX (ys:=[a.getD k 0,d.getD k 0]) AJ Bt BG Z Z Z Z (aT (ha.getI sD).2 (hd.getI sD).2) Aa fun v4 w4 a6 aq ah=>?_
  have ai:=a6.size
  have aj:=a3.trans a6
  have a0:=a2.ext (o2) a6
  refine BA (u:=v4) (B:=w2.heap.size) o1 Bx AT Z Z ah (by first|exact A7 _|omega) Aa fun v5 w5 a7 ar ak=>?_
  have al:=a7.size
  have a8:=aj.trans a7
  have a1:=a0.ext (o2) a7
  refine Gb o1 (v:=vo) (a:=v5) Bx AT Z Z Z a1 a8.size ak oM a3.size sD (by unfold maxLen;first|omega|assumption|(simp;done)|(simp;omega)) Aa fun v6 w6 F6 ae am an=>?_
  have ao:AH w w6:=ae.below a8 (fun c hc=>A8 (A7 _) (am c hc).1) a8.size
  have ap:w5.heap.size≤w6.heap.size:=ae.size
  refine Ac 1 Z<|Ab _ [0,0] Z<|AQ ((k+1:Nat):Int) Z Z (Bi oM sD) Aa<|Ac 1 Z ?_
  exact⟨(k+1,v6),_,rfl,zR,⟨ao,(by rw[D6 [] (by simp;omega),Xd oM];exact an.up o2),sD⟩,zD⟩
 exact AI false Z Z (A6 ad) Aa<|Aj<|A0<|Ai Z<|A4<|AA<|AA<|Av<|gK [0,0] Z<|Ac 2 Z<|A1<|Ah [4] Z vo Z ⟨vo,rfl,a3,(by have h:=a2.up o2;rwa [za (by simp;omega)]at h)⟩
theorem N3 (w:World)(ipT:Int)(vtc vtg vtx:Value)(T:Tp)(oT:Sr)(va:Value)(a:Sr)(vw:Value)(ws:Sr)(vd:Value)(d:Sr)(_hipT:Bn ipT)(htcT:RN [] (D5 4 KU) w.heap vtc T.code)(htgT:RN [] (D5 2 KV) w.heap vtg T.grd)(htoT:RN [] (B4 rI) w.heap vtx oT)(ha:Rd (B4 rI) w.heap va a)(hws:Rd (B4 rI) w.heap vw ws)(hd:Rd (B4 rI) w.heap vd d)(hip:ipT=(a.length:Int))(hR:PB a T oT)(hw:ws.length=oT.length∧AX ws=true)(hdd:d.length=a.length∧AX d=true) :
  Calls Tryz.prog 119 #[(.agg #[(zI ipT),vtc,vtg,vtx]),va,vw,vd] w (fun e w'=>e=.returned (zI 0)∧AH w w'):=by
 refine Aq [.agg #[zI ipT,vtc,vtg,vtx],va,vw,vd] 26 Tryz.func119 Z Z sM ?_
 have ab:AH w w:=AH.refl w
 have hl_vtx:=htoT.lenL
 unfold maxLen at hl_vtx
 have ah:=ha.lenle
 have an:=hws.lenle
 have ao:=hd.lenle
 have hK:=hR.k
 have hni:=hK.nb
 have hcl:=hK.cl
 have ap:=hK.gl
 have hol:=hK.ol
 have hpos:=hK.pos
 refine gK [3,0] Z (By (cs:=#[zI ipT,vtc,vtg,vtx]) Z Aa fun w1 a8 al a3=>?_)
 have ac:=a8.size
 have a6:=ab.trans a8
 replace a3:BX w1.heap w.heap.size [zI ipT,vtc,vtg,vtx]:=a3
 refine Ac 1 Z<|gK [2,0,0,3,3,0] Z<|AK (p:=zP w.heap.size) (.inr Z) [zI ipT,vtc,vtg,vtx] EE Z (fun aq ad=>LD.of_box<|BX.ext (w:=w1) a3 ad) Z Aa<|Ad 2 Z (RE (x0:=a) (x1:=d) Bx AT Z Z Z (RN.of<|ha.ext g1 a6) (RN.of<|hd.ext g1 a6) Aa fun v2 w2 a7 am a9 ae=>?_)
 have af:=a7.size
 have a4:=a6.trans a7
 have a0:=a3.ext a7
 refine Ap 129 [] [] [.agg #[zI ipT,vtc,vtg,vtx],v2] Z Z cB Aa (OL _ a (ipT) vtc vtg vtx (T) (oT) v2 ([a,d]) _hipT (htcT.ext (Am AY) a4) (htgT.ext (Am Bb) a4) (htoT.ext g1 a4) a9 ae oM hR (by intro k hk;match k,hk with|0,_=>exact⟨rfl,hR.n⟩|1,_=>exact hdd)) ?_
 rintro e3 w3 ⟨rfl,a1⟩
 refine⟨_,rfl,a1,?_⟩
 have ag:=a1.size
 have aa:=a4.trans a1
 have a2:=a0.ext a1
 refine Ac 1 Z<|A0<|gK [0,0,0,0,0,2,0,3,0,0] Z<|Ad 1 Z ?_
 have ai:0=((0:Nat):Int):=rfl
 refine Al true Z Z (A5 ai) Aa<|Ad 2 Z<|Ak (p:=zP w.heap.size) 3 EV Z Z (Ae (e:=17) Z Z Z)<|Af (p:=An (zP w.heap.size) 3) (.inr Z) vtx B6 Z (a2.ldp (i:=3) sM) (Ae (e:=17) Z Z Z)<|AR (v:=vtx) Bt Z htoT.slL (Ae (e:=17) Z Z Z)<|Ap 57 [] [] [vw,zI (oT.length:Int)] Z Z Sw (Ae (e:=17) Z Z Z) (Ct _ _ _ _ (hws.ext g1 aa) oM) ?_
 rintro e6 w6 ⟨rfl,a5⟩
 refine⟨_,rfl,a5,?_⟩
 have aj:=a5.size
 have ak:=aa.trans a5
 rw[show(decide ((ws.length:Int)=(oT.length:Int)) && AX ws)=true from(by rw[A5 oM,hw.2];rfl)]
 exact Bo false Z Z (Ae (e:=17) Z Z Z)<|Ac 1 Z<|Ai Z<|A2<|gK [0,0] Z<|Ac 2 Z<|A1<|Ah [8] Z (zI 0) Z ⟨rfl,ak⟩
theorem ON (w:World)(ipT:Int)(vtc vtg vtx:Value)(T:Tp)(oT:Sr)(va:Value)(a:Sr)(vw:Value)(ws:Sr)(vd:Value)(d:Sr)(_hipT:Bn ipT)(htcT:RN [] (D5 4 KU) w.heap vtc T.code)(htgT:RN [] (D5 2 KV) w.heap vtg T.grd)(htoT:RN [] (B4 rI) w.heap vtx oT)(ha:Rd (B4 rI) w.heap va a)(hws:Rd (B4 rI) w.heap vw ws)(hd:Rd (B4 rI) w.heap vd d)(hip:ipT=(a.length:Int))(hR:PB a T oT)(hw:ws.length=oT.length∧AX ws=true)(hdd:d.length=a.length∧AX d=true) :
  Calls Tryz.prog 60 #[(.agg #[(zI ipT),vtc,vtg,vtx]),va,vw,vd] w (fun e w'=>∃v0:Value,e=.returned (.tuple #[v0,zI 0])∧AH w w'∧RN [] (B4 (B4 rI)) w'.heap v0 (HF T.code (Be 2 (D7 a d 2) T.code) oT ws)∧C3 v0):=by
 refine Aq [.agg #[zI ipT,vtc,vtg,vtx],va,vw,vd] 36 Tryz.func60 Z Z sM ?_
 have ak:AH w w:=AH.refl w
 have hl_vtx:=htoT.lenL
 unfold maxLen at hl_vtx
 have ay:=ha.lenle
 have az:=hws.lenle
 have b0:=hd.lenle
 have hK:=hR.k
 have hni:=hK.nb
 have hcl:=hK.cl
 have b2:=hK.gl
 have hol:=hK.ol
 have hpos:=hK.pos
 refine gK [3,0,0] Z (By (cs:=#[zI ipT,vtc,vtg,vtx]) Z Aa fun w1 aj ax ab=>?_)
 have al:=aj.size
 have a3:=ak.trans aj
 replace ab:BX w1.heap w.heap.size [zI ipT,vtc,vtg,vtx]:=ab
 refine Ac 2 Z<|A0<|gK [2,0,0,0,3,0] Z<|AK (p:=zP w.heap.size) (.inr Z) [zI ipT,vtc,vtg,vtx] EE Z (fun b1 a5=>LD.of_box<|BX.ext (w:=w1) ab a5) Z Aa<|Ad 3 Z<|Ap 119 [] [] [.agg #[zI ipT,vtc,vtg,vtx],va,vw,vd] Z Z bV Aa (N3 _ (ipT) vtc vtg vtx (T) (oT) _ _ _ _ _ _ _hipT (htcT.ext (Am AY) a3) (htgT.ext (Am Bb) a3) (htoT.ext g1 a3) (ha.ext g1 a3) (hws.ext g1 a3) (hd.ext g1 a3) oM hR hw hdd) ?_
 rintro e2 w2 ⟨rfl,ac⟩
 refine⟨_,rfl,ac,?_⟩
 have am:=ac.size
 have ag:=a3.trans ac
 have a2:=ab.ext ac
 refine Ac 1 Z<|gK [0,0] Z<|Ad 1 Z ?_
 have an:¬(0≠((0:Nat):Int)):=(fun h9=>h9 Z)
 refine B2 false Z Z (A6 an) Aa<|Aj<|Ai Z<|A2<|A0<|AM _ [1,0,0,3,3,0,0,0,0,0] mixed (by kernel_rfl)<|AK (p:=zP w.heap.size) (.inl Z) [zI ipT,vtc,vtg,vtx] EE Z (fun b1 a5=>LD.of_box<|BX.ext (w:=w2.drew) a2 a5) Z Aa<|Ad 2 Z<|Ap 121 [] [] [va,vd] Z Z bX Aa (OM _ _ _ _ _ (ha.ext g1 ag.drew) (hd.ext g1 ag.drew) oM oM) ?_
 rintro e4 w4 ⟨a6,rfl,a4,a0⟩
 refine⟨_,rfl,a4,?_⟩
 replace a4:=a4.of_drew
 have ao:=a4.size
 have ad:=ag.trans a4
 have a7:=a2.ext a4
 replace a0:=a0.low (B':=w2.heap.size)<|A7 _
 refine Ap 120 [] [] [.agg #[zI ipT,vtc,vtg,vtx],a6,zI ((1:Nat):Int)] Z Z bW Aa (I9 _ (ipT) vtc vtg vtx (T) (oT) a6 (D7 a d 2) ((1:Nat):Int) _hipT (htcT.ext (Am AY) ad) (htgT.ext (Am Bb) ad) (htoT.ext g1 ad) (RN.of_fr2 a0 fun b hb=>absurd hb z2) a0.cap oM oM (by exact EB hR.n hdd.2) (by intro k hk;rw[CB];exact hR.k.form k hk) oM) ?_
 rintro e5 w5 ⟨v5,c5,rfl,ae,a8,ah⟩
 refine⟨_,rfl,ae,?_⟩
 have ap:=ae.size
 have a9:=ad.trans ae
 have aa:=a7.ext ae
 have aq:c5=0∨c5=6:=by unfold aW at a8;omega
 have hcz:c5=0:=by rcases a8 with h9|h9;exact h9.1;exact absurd (hR.nz hdd.2) h9.2
 obtain⟨a1,hrvc⟩:=ah hcz
 replace a1:RN [] (B4 (B4 rI)) w5.heap v5 (Be 2 (D7 a d 2) T.code):=a1
 refine Ad 1 Z<|AP (vs:=[v5,zI c5]) v5 Z Z Aa<|AP (vs:=[v5,zI c5]) (zI c5) Z Z Aa<|Ac 2 Z<|A0<|gK [0,0] Z<|Ad 1 Z ?_
 have ar:¬(c5≠((0:Nat):Int)):=(fun h9=>h9 hcz)
 refine B2 false Z Z (A6 ar) Aa<|Aj<|Ai Z<|A2<|gK [2,0,0,3,0,0] Z<|AK (p:=zP w.heap.size) (.inr Z) [zI ipT,vtc,vtg,vtx] EE Z (fun b1 a5=>LD.of_box<|BX.ext (w:=w5) aa a5) Z Aa<|Ad 2 Z<|Ap 122 [] [] [.agg #[zI ipT,vtc,vtg,vtx],v5,vw] Z Z bY Aa (IB _ 2 a.length [] (ipT) vtc vtg vtx (T) (oT) v5 (Be 2 (D7 a d 2) T.code) vw (ws) (fun b hb=>absurd hb z2) _hipT (htcT.ext (Am AY) a9) (htgT.ext (Am Bb) a9) (htoT.ext g1 a9) a1 hrvc (hws.ext g1 a9) oM (by exact hR.reg hdd.2) (by rw[BS]) oM oM hR.k.out hw.2 hR.k.form) ?_
 rintro e7 w7 ⟨v7,rfl,af,au,ai⟩
 refine⟨_,rfl,af,?_⟩
 have av:=af.size
 have aw:=a9.trans af
 exact Ac 2 Z<|A1<|Ah [8,9] Z (.tuple #[v7,zI ((0:Nat):Int)]) Z ⟨_,rfl,aw,au,ai⟩
theorem JK (w:World)(ipT:Int)(vtc vtg vtx:Value)(T:Tp)(oT:Sr)(va:Value)(a:Sr)(vw:Value)(ws:Sr)(_hipT:Bn ipT)(htcT:RN [] (D5 4 KU) w.heap vtc T.code)(htgT:RN [] (D5 2 KV) w.heap vtg T.grd)(htoT:RN [] (B4 rI) w.heap vtx oT)(ha:Rd (B4 rI) w.heap va a)(hws:Rd (B4 rI) w.heap vw ws)(hip:ipT=(a.length:Int))(hR:PB a T oT)(hw:ws.length=oT.length∧AX ws=true) :
  Calls Tryz.prog 14 #[(.agg #[(zI ipT),vtc,vtg,vtx]),va,vw] w (fun e w'=>∃v0:Value,e=.returned (.tuple #[v0,zI 0])∧AH w w'∧Fr (Bp rI 2) w.heap.size w'.heap.size w'.heap v0 (DI (PW 2 T oT ws (D7 a a 2)))):=by
 refine Aq [.agg #[zI ipT,vtc,vtg,vtx],va,vw] 25 Tryz.func14 Z Z sM ?_
 have af:AH w w:=AH.refl w
 have hl_vtx:=htoT.lenL
 unfold maxLen at hl_vtx
 have al:=ha.lenle
 have ap:=hws.lenle
 have hK:=hR.k
 have hni:=hK.nb
 have hcl:=hK.cl
 have ar:=hK.gl
 have hol:=hK.ol
 have hpos:=hK.pos
 refine gK [3,0,0] Z (By (cs:=#[zI ipT,vtc,vtg,vtx]) Z Aa fun w1 ab ao a5=>?_)
 have ag:=ab.size
 have a0:=af.trans ab
 replace a5:BX w1.heap w.heap.size [zI ipT,vtc,vtg,vtx]:=a5
 refine Ac 2 Z<|gK [2,0,0,0,3,0,0,0,0,0] Z<|AK (p:=zP w.heap.size) (.inr Z) [zI ipT,vtc,vtg,vtx] EE Z (fun aq a9=>LD.of_box<|BX.ext (w:=w1) a5 a9) Z Aa<|Ad 3 Z<|Ap 60 [] [] [.agg #[zI ipT,vtc,vtg,vtx],va,vw,va] Z Z fJ Aa (ON _ (ipT) vtc vtg vtx (T) (oT) va (a) vw (ws) va (a) _hipT (htcT.ext (Am AY) a0) (htgT.ext (Am Bb) a0) (htoT.ext g1 a0) (ha.ext g1 a0) (hws.ext g1 a0) (ha.ext g1 a0) oM hR hw (by exact⟨rfl,hR.n⟩)) ?_
 rintro e2 w2 ⟨v2,rfl,a6,ac,aa⟩
 refine⟨_,rfl,a6,?_⟩
 have ah:=a6.size
 have a7:=a0.trans a6
 have a1:=a5.ext a6
 refine Ad 1 Z<|AP (vs:=[v2,zI 0]) v2 Z Z Aa<|AP (vs:=[v2,zI 0]) (zI 0) Z Z Aa<|Ac 2 Z<|A0<|gK [0,0] Z<|Ad 1 Z ?_
 have ai:¬(0≠((0:Nat):Int)):=(fun h9=>h9 Z)
 refine B2 false Z Z (A6 ai) Aa<|Aj<|Ai Z<|A2<|gK [2,0,3,3,0,0] Z<|AK (p:=zP w.heap.size) (.inr Z) [zI ipT,vtc,vtg,vtx] EE Z (fun aq a9=>LD.of_box<|BX.ext (w:=w2) a1 a9) Z Aa<|Ad 1 Z<|Ap 62 [] [] [.agg #[zI ipT,vtc,vtg,vtx],v2] Z Z fK Aa (IC _ 2 a.length [] (ipT) vtc vtg vtx (T) (oT) v2 (HF T.code (Be 2 (D7 a a 2) T.code) oT ws) (fun b hb=>absurd hb z2) _hipT (htcT.ext (Am AY) a7) (htgT.ext (Am Bb) a7) (htoT.ext g1 a7) ac aa oM oM (by exact hR.adj hR.n) (by rw[Pv,BS];omega) oM hR.k.form) ?_
 rintro e4 w4 ⟨v4,rfl,a8,ad,aj⟩
 refine⟨_,rfl,a8,?_⟩
 have ak:=a8.size
 have ae:=a7.trans a8
 refine Ap 61 [] [] [v4] Z Z ZF Aa (H4 _ _ _ (ad).rd (by rw[Rw];omega) (by intro k hk;have h9:=((Rv hR.k.form:BZ 2 (Ul a.length 2 T.code<|HF T.code (Be 2 (D7 a a 2) T.code) oT ws)) k hk).1;omega)) ?_
 rintro e6 w6 ⟨a2,rfl,a3,a4⟩
 refine⟨_,rfl,a3,?_⟩
 have am:=a3.size
 have an:=ae.trans a3
 exact Ac 2 Z<|A1<|Ah [6,7] Z (.tuple #[a2,zI ((0:Nat):Int)]) Z ⟨a2,rfl,an,(by first|(unfold DI PW;rw[CB];exact(a4.up o1).low ae.size)|(exfalso;omega))⟩
theorem Ei (w:World)(dp:Nat)(vp:Value)(p:List Fn)(f:Int)(va:Value)(a:Sr)(vw:Value)(ws:Sr)(hp:RP [] dp w.heap vp p)(_hf:Bn f)(ha:Rd (B4 rI) w.heap va a)(hws:Rd (B4 rI) w.heap vw ws)(hok:GJ p=true)(hz:PO p)(hf:0≤f∧f<(p.length:Int))(hl:(a.length:Int)=(p.getD f.toNat Fn.zero).params)(hna:AX a=true)(hc:GL p f.toNat a=0)(hw:ws.length=(p.getD f.toNat Fn.zero).outs.length∧AX ws=true) :
  Calls Tryz.prog 80 #[(.agg #[vp]),zI f,va,vw] w (fun e w'=>∃v0:Value,e=.returned (.tuple #[v0,zI 0])∧AH w w'∧Fr (Bp rI 2) w.heap.size w'.heap.size w'.heap v0 (SG p f.toNat a ws)):=by
 refine Aq [.agg #[vp],zI f,va,vw] 28 Tryz.func80 Z Z sM ?_
 have av:AH w w:=AH.refl w
 have bc:=hp.lenle
 unfold maxLen at bc
 have bj:=ha.lenle
 have bk:=hws.lenle
 have hvp:=FZ hok
 have bm:=hvp.par f.toNat oM
 have bn:=hvp.outs f.toNat oM
 refine gK [3,0,0] Z (By (cs:=#[vp]) Z Aa fun w1 aq be ad=>?_)
 have aw:=aq.size
 have ai:=av.trans aq
 replace ad:BX w1.heap w.heap.size [vp]:=ad
 refine Ac 2 Z<|gK [2,0,0,3,0,0,0,3,4,0] Z<|AK (p:=zP w.heap.size) (.inr Z) [vp] Cf Z (fun bl aj=>LD.of_box<|BX.ext (w:=w1) ad aj) Z Aa<|Ad 2 Z<|Ap 12 [] [] [.agg #[vp],zI f,va] Z Z fy Aa (Nq _ dp vp p (f) va a (hp.ext (Am<|Az dp) ai) _hf (RN.of<|ha.ext g1 ai) hok hz oM oM hna) ?_
 rintro e2 w2 ⟨i2,a6,au,b4,bd,T2,s2,c2,rfl,ae,a5,ax,ak,al,am⟩
 refine⟨_,rfl,ae,?_⟩
 have ay:=ae.size
 have az:=ai.trans ae
 have a2:=ad.ext ae
 have b0:GL p (f).toNat a=c2:=Pu (A7 1) hvp oM hna (Kx (CF hna) (DY _)) oM a5
 have an:=AH.refl w2
 refine Ad 1 Z<|AP (vs:=[.agg #[zI i2,a6,au,b4],zI c2]) (.agg #[zI i2,a6,au,b4]) Z Z Aa<|AP (vs:=[.agg #[zI i2,a6,au,b4],zI c2]) (zI c2) Z Z Aa ?_
 have bf:=a2.lt
 refine Bs (z:=.agg #[zI 0,zN,zN,zN]) Xs Aa fun w3 af bg ao=>?_
 have b1:=af.size
 have ar:=az.trans af
 have b2:=an.trans af
 replace ao:BX w3.heap w2.heap.size [zI 0,zN,zN,zN]:=ao
 refine BE (vs:=[zI i2,a6,au,b4]) EE Z Z (fun u hu=>by rcases ze.1 hu with rfl|hu;exact⟨rfl,rfl⟩;exact ak u hu) ao Z Z Aa fun w5 ag bh ap=>?_
 replace ap:BX w5.heap w2.heap.size [zI i2,a6,au,b4]:=ap
 have ah:AH w w5:=ag.below ar (fun _ h=>zE h) ar.size
 have b3:w3.heap.size≤w5.heap.size:=ag.size
 have a4:At [w2.heap.size] w2 w5:=(At.of_ext _ b2).trans ag
 have a1:=AH.refl w5
 refine Ac 1 Z<|A0<|gK [0,0] Z<|Ad 1 Z ?_
 have b5:¬(c2≠((0:Nat):Int)):=oM
 refine B2 false Z Z (A6 b5) Aa<|Aj<|Ai Z<|A2<|gK [2,0,0,3,0,0,0,0] Z ?_
 have a7:c2=0:=by omega
 obtain⟨bi,hTB,b6,hxl,hEn,b7,b8,b9⟩:=am a7
 have a8:=a5
 rw[a7]at a8
 have hRc:Lt p (f).toNat a bd T2:=⟨hvp,zO,zO,hna,_,a8⟩
 have hTR:=hRc.tpr hTB b6
 have a9:RN [] (D5 4 KU) w5.heap a6 T2.code:=RN.ext (Am AY) (RN.none (RN.chg (Am AY) (RG.rnG (g:=w2.heap.size) (Am AY) b7 oM) a4)) a1
 have aa:RN [] (D5 2 KV) w5.heap au T2.grd:=RN.ext (Am Bb) (RN.none (RN.chg (Am Bb) (RG.rnG (g:=w2.heap.size) (Am Bb) b8 oM) a4)) a1
 have ab:RN [] (B4 rI) w5.heap b4 bd:=RN.ext g1 (RN.none (RN.chg g1 (RG.rnG (g:=w2.heap.size) g1 b9 oM) a4)) a1
 refine AK (p:=zP w2.heap.size) (.inr Z) [zI i2,a6,au,b4] EE Z (fun bl aj=>LD.of_box<|BX.ext (w:=w5) ap aj) Z Aa<|Ad 2 Z<|Ap 14 [] [] [.agg #[zI i2,a6,au,b4],va,vw] Z Z fz Aa (JK _ (i2) a6 au b4 (T2) (bd) _ _ _ _ al a9 aa ab (ha.ext g1 ah) (hws.ext g1 ah) oM hTR (by exact⟨zO,hw.2⟩)) ?_
 rintro e8 w8 ⟨a0,rfl,a3,ac⟩
 refine⟨_,rfl,a3,?_⟩
 have ba:=a3.size
 have bb:=ah.trans a3
 exact AP (vs:=[a0,zI 0]) a0 Z Z Aa<|AP (vs:=[a0,zI 0]) (zI 0) Z Z Aa<|Ac 2 Z<|A1<|Ah [8,9] Z (.tuple #[a0,zI 0]) Z ⟨a0,rfl,bb,(by have h:=(ac.up o1).low ah.size;rwa [hRc.bkR (m:=2) (by decide) (EB hRc.n hRc.n)<|Fp _ _]at h)⟩
theorem PN {p:Prop}(h:p:=by first|(have h:=GF _ _ _;rw[Jr hgc,hLg,show(i+1).toNat=0 from by omega];exact h)|(rw[Ee (by rw[EC hg0];omega)];exact GF _ _ _)|(rw[Ee (by rw[Ed (by rw[EU oM];omega)];exact(by rw[EU oM];omega))];exact GF _ _ _)|(rw[Ee (by rw[Ed (by rw[Gl oM (Db (by assumption))];omega)];exact(by rw[Gl oM (Db (by assumption))];omega))];exact GF _ _ _)):p:=h
theorem N4 {p:Prop}(h:p:=by first|(rw[hgc];done)|(rw[hgc];rfl)|(rw[EC hg0];done)|(rw[Ed (by rw[EU oM];omega),EU oM];done)|(rw[Ed (by rw[Gl oM (Db (by assumption))];omega),Gl oM (Db (by assumption))];rfl)):p:=h
theorem N5 {p:Prop}(h:p:=by first|(rw[hgc];omega)|(rw[EC hg0];exact ‹Qh p f.toNat a n.toNat›.code)|(rw[Ed (by rw[EU oM];omega)];omega)|(rw[Ed (by rw[Gl oM (Db (by assumption))];omega)];omega)):p:=h
theorem YI {p:Prop}(h:p:=by rw[show(i-1+1).toNat=i.toNat from by omega,hLg,show(i+1).toNat=i.toNat+1 from by omega,hti];rfl):p:=h
theorem YJ {p:Prop}(h:p:=by rw[hti];exact(hCh.rc (k:=i.toNat) oM).elim fun _ h=>h.elim fun _ h=>h.bkR_num):p:=h
theorem IE (w:World)(dp:Nat)(vp:Value)(p:List Fn)(f:Int)(va:Value)(a:Sr)(vw:Value)(ws:Sr)(n:Int)(hp:RP [] dp w.heap vp p)(_hf:Bn f)(ha:Rd (B4 rI) w.heap va a)(hws:Rd (B4 rI) w.heap vw ws)(_hn:Bn n)(hz:PO p) :
  Calls Tryz.prog 24 #[(.agg #[vp]),zI f,va,vw,zI n] w (fun e w'=>∃v0:Value,e=.returned (.tuple #[v0,zI (GA p f a ws n)])∧AH w w'∧Fr (Bp rI 2) w.heap.size w'.heap.size w'.heap v0 (Su p f a ws n)∧(0≤GA p f a ws n∧GA p f a ws n≤9)):=by
 refine Aq [.agg #[vp],zI f,va,vw,zI n] 66 Tryz.func24 Z Z sM ?_
 have c4:AH w w:=AH.refl w
 have dc:=hp.lenle
 unfold maxLen at dc
 have dg:=ha.lenle
 have dh:=hws.lenle
 refine gK [3,0,0] Z (By (cs:=#[vp]) Z Aa fun w1 bz ch c0=>?_)
 have bb:=bz.size
 have bc:=c4.trans bz
 replace c0:BX w1.heap w.heap.size [vp]:=c0
 refine Ac 2 Z<|gK [2,0,0,0,3,3,0] Z<|AK (p:=zP w.heap.size) (.inr Z) [vp] Cf Z (fun dd ay=>LD.of_box<|BX.ext (w:=w1) c0 ay) Z Aa<|Ad 3 Z (RE (x0:=a) (x1:=ws) Bx AT Z Z Z (RN.of<|ha.ext g1 bc) (RN.of<|hws.ext g1 bc) Aa fun v2 w2 bd ci cj d3=>?_)
 have be:=bd.size
 have c1:=bc.trans bd
 have bf:=c0.ext bd
 refine Ap 76 [] [] [.agg #[vp],zI f,v2] Z Z bQ Aa (Hp _ dp vp (p) _ v2 ([a,ws]) (hp.ext (Am<|Az dp) c1) _hf cj d3 hz) ?_
 rintro e3 w3 ⟨rfl,b2⟩
 refine⟨_,rfl,b2,?_⟩
 have c5:=b2.size
 have b9:=c1.trans b2
 have ap:=bf.ext b2
 have ck:=cj.ext g2 b2
 refine Ac 1 Z<|A0<|gK [0,0,0,0,3,0,0] Z ?_
 have hcr:=LU p f [a,ws]
 refine Ad 1 Z ?_
 by_cases cl:G0 p f ([a,ws])=((0:Nat):Int)
 ·refine Al true Z Z (A5 cl) Aa<|Ad 2 Z<|Ap 77 [] [] [zI n] Z Z bR (Ae (e:=24) Z Z Z) (I0 _ _ _hn) ?_
  rintro e6 w6 ⟨rfl,ba⟩
  refine⟨_,rfl,ba,?_⟩
  have d4:=ba.size
  have bg:=b9.trans ba
  have b1:=ap.ext ba
  have d5:=ck.ext g2 ba
  refine Bo (!(Ff n 0 40)) Z Z (Ae (e:=24) Z Z Z)<|Ac 1 Z ?_
  cases cm:(!(Ff n 0 40))
  ·refine Ai (by first|rfl|exact zW cm)<|A2<|A0<|gK [0,0] Z ?_
   have hdr:=Kz (p:=p) (f:=f) (a:=a) (ws:=ws) (n:=n)
   refine Ad 1 Z ?_
   by_cases cn:G0 p f ([a,ws])≠((0:Nat):Int)
   ·refine B2 true Z Z (A5 cn) Aa<|Aj<|Ag Z<|gK [0,0,0] Z<|Ac 3 Z<|A1<|Ao ?_
    exact Ah [10,11] Z (.tuple #[zN,zI<|G0 p f<|[a,ws]]) Z ⟨zN,N4,bg,PN,N5⟩
   refine B2 false Z Z (A6 cn) Aa<|Aj<|Ai Z<|A2<|gK [2,0,0,0,3,0,0,0,0,0] Z ?_
   have hg0:G4 p f a ws n=0:=by first|exact Oq oM (Dp (by assumption))|(exfalso;omega)
   have c6:=Ql hg0
   have a6:=Uu c6.1
   have hvp:=FZ a6.1
   refine AK (p:=zP w.heap.size) (.inr Z) [vp] Cf Z (fun dd ay=>LD.of_box<|BX.ext (w:=w6) b1 ay) Z Aa<|Ad 3 Z<|Ap 78 [] [] [.agg #[vp],zI f,va,zI n] Z Z Xm Aa (CK _ dp vp (p) _ _ _ _ (hp.ext (Am<|Az dp) bg) _hf (ha.ext g1 bg) _hn hvp oM oM a6.2.2.2.1.2 oM oM) ?_
   rintro di da ⟨a0,rfl,aj,aq,c7⟩
   refine⟨_,rfl,aj,?_⟩
   have co:=aj.size
   have a7:=bg.trans aj
   have b3:=b1.ext aj
   have c8:=d5.ext g2 aj
   refine Ad 1 Z<|AP (vs:=[a0,zI<|EP p f.toNat a n.toNat]) a0 Z Z Aa<|AP (vs:=[a0,zI<|EP p f.toNat a n.toNat]) (zI<|EP p f.toNat a n.toNat) Z Z Aa<|Ac 2 Z<|A0<|gK [0,0] Z<|Ad 1 Z ?_
   by_cases bh:EP p f.toNat a n.toNat≠((0:Nat):Int)
   ·refine B2 true Z Z (A5 bh) Aa<|Aj<|Ag Z<|gK [0,0,0] Z<|Ac 3 Z<|A1<|Ao ?_
    exact Ah [10,11] Z (.tuple #[zN,zI<|EP p f.toNat a n.toNat]) Z ⟨zN,N4,a7,PN,N5⟩
   refine B2 false Z Z (A6 bh) Aa<|Aj<|Ai Z<|A2<|gK [0,3,0] Z ?_
   have hpar:=hvp.par f.toNat oM
   have hrk:EP p f.toNat a n.toNat=0:=by omega
   have hCh:Py p f.toNat a n.toNat:=⟨hvp,zO,a6.2.2.1.2,a6.2.2.2.1.1,a6.2.2.2.1.2,hrk⟩
   have hgc:GA p f a ws n=0:=by rw[EC hg0];exact hrk
   have bi:Fr (Bp (Bp rI 2) 27) w6.heap.size da.heap.size da.heap a0 (CD (n.toNat+1) (Cr p f.toNat a)):=by have h:=aq;rwa [Lq hrk]at h
   have htl:(CD (n.toNat+1) (Cr p f.toNat a)).length=n.toNat+1:=by simp[CD]
   refine Ad 1 Z<|Ap 79 [] [] [vw] Z Z Xn Aa (BV _ _ _ (hws.ext g1 a7) oM) ?_
   rintro dj dk ⟨bj,rfl,a8,ar⟩
   refine⟨_,rfl,a8,?_⟩
   have bk:=a8.size
   have bl:=a7.trans a8
   have b4:=b3.ext a8
   have au:=bi.ext (o2) a8
   have d6:=c8.ext g2 a8
   refine Ac 1 Z<|A0<|gK [0,0,0] Z<|Ad 1 Z<|Bk (n-1) Z Z (CM oM oM) Aa<|Ac 1 Z<|A3 ?_
   refine AU (S:=Int×Value×Sr) (fun⟨i,vo,L⟩=>([(14,vo),(15,zI i),(1,zI f),(5,zP w.heap.size),(13,a0)])) (fun⟨i,vo,L⟩ W=>AH w W∧Fr (Bp rI 2) da.heap.size W.heap.size W.heap vo L∧Fr (Bp (Bp rI 2) 27) w6.heap.size da.heap.size W.heap a0 (CD (n.toNat+1)<|Cr p f.toNat a)∧BX W.heap w.heap.size [vp]∧(-1≤i∧i<n)∧((L.length:Int)=(p.getD f.toNat Fn.zero).params)∧AX L=true∧NY p f.toNat a n.toNat ws=NY p f.toNat a (i+1).toNat L∧w.heap.size<da.heap.size∧da.heap.size≤W.heap.size) (fun⟨i,vo,L⟩=>(i+1).toNat) (n-1,bj,ws) ⟨rfl,rfl,rfl,rfl,rfl,trivial⟩ ⟨bl,ar.up o1,au,b4,oM,oM,a6.2.2.2.2.2,(by rw[show(n-1+1).toNat=n.toNat from by omega]),oM,oM⟩ ?_
   clear c4 ch bz bb bc ci bd be c1 b2 c5 b9 ba aq aj ar a8 bk bl
   rintro⟨i,vo,L⟩ ρ17 de ⟨az,a2,a9,aa,c9,hLl,hLn,hLg,cp,cq⟩
   have cr:w.heap.size≤de.heap.size:=az.size
   have d7:=aa.lt
   refine A0<|gK [0,0] Z<|Ad 1 Z ?_
   by_cases bm:((0:Nat):Int)≤i
   ·refine De true Z Z (A5 bm) Aa<|Aj<|Ag Z<|A2<|A0<|A3<|A0<|AM _ [1,0,0,0,0,1,0,3,0,0,0,0,0] mixed (by kernel_rfl) ?_
    have hti:=C8 (f:=Cr p f.toNat a) (n:=n.toNat+1) (k:=i.toNat) [] oM
    have his:=(hCh.low (k:=i.toNat) oM).st
    have hin:=hCh.nx (k:=i.toNat) oM
    refine AK (p:=zP w.heap.size) (.inl Z) [vp] Cf Z (fun dd ay=>LD.of_box<|BX.ext (w:=de.drew) aa ay) Z Aa<|Ad 3 Z<|Aw (v:=a0) ((i).toNat) Bx AT Z Z a9.isSl oM sD Aa ?_
    obtain⟨bn,bo,b5⟩:=a9.rd2.get (k:=(i).toNat) [] sD
    have ct:=b5.lenle
    refine Af (p:=Ay a0 ((i).toNat) 1) (.inl Z) bn B6 Z bo Aa<|Ad 1 Z<|Ap 80 [] [] [.agg #[vp],zI f,bn,vo] Z Z bS Aa (Ei _ dp vp (p) _ _ _ _ _ (hp.ext (Am<|Az dp) az.drew) _hf b5 a2.rd1 a6.1 hz oM (by rw[hti];omega) (by rw[hti];exact his.2) (by rw[hti];exact hin) (by exact⟨zO,hLn⟩)) ?_
    rintro dm dn ⟨ah,rfl,a4,ab⟩
    refine⟨_,rfl,a4,?_⟩
    replace a4:=a4.of_drew
    have cu:=a4.size
    have ca:=az.trans a4
    have ak:=a9.ext (o2) a4
    have al:=aa.ext a4
    have c2:=b5.ext g1 a4
    have cv:=Bd a4 bo
    replace ab:=ab.low (B':=de.heap.size)<|A7 _
    refine Ad 1 Z<|AP (vs:=[ah,zI 0]) ah Z Z Aa<|AP (vs:=[ah,zI 0]) (zI 0) Z Z Aa<|Ac 2 Z<|gK [0,0] Z<|Ad 1 Z ?_
    have cb:¬(0≠((0:Nat):Int)):=(fun h9=>h9 Z)
    exact B2 false Z Z (A6 cb) Aa<|Aj<|Ai Z<|A2<|Ab _ [0,0,0] Z<|Ad 1 Z<|Bk (i-1) Z Z (CM oM oM) Aa<|Ac 1 Z ⟨(i-1,ah,SG p f.toNat ((CD (n.toNat+1)<|Cr p f.toNat a).getD ((i).toNat) []) L),_,rfl,zR,⟨ca,(ab.up o1).low oM,ak,al,oM,(by rw[Ky,hti];omega),YJ,YI,oM,oM⟩,zD⟩
   refine De false Z Z (A6 bm) Aa<|Aj<|Ai Z<|A4<|AA<|AA<|Av<|gK [0,0,0] Z<|Ac 3 Z<|A1 ?_
   exact Ah [10,11] Z (.tuple #[vo,zI ((0:Nat):Int)]) Z ⟨vo,N4,az,(by first|(have h:=(a2.up o1).low a7.size;rw[Jr hgc,hLg,show(i+1).toNat=0 from by omega];exact h)|(rw[Ee (by rw[EC hg0];omega)];exact(a2.up o1).low a7.size)|(rw[Ee (by rw[Ed (by rw[EU oM];omega)];exact(by rw[EU oM];omega))];exact(a2.up o1).low a7.size)|(rw[Ee (by rw[Ed (by rw[Gl oM<|Db (by assumption)];omega)];exact(by rw[Gl oM<|Db (by assumption)];omega))];exact(a2.up o1).low a7.size)),N5⟩
  refine Ag (by first|rfl|exact zW cm)<|Ab _ [0] Z<|Ac 1 Z<|A0<|gK [0,0] Z ?_
  have hdr:=Kz (p:=p) (f:=f) (a:=a) (ws:=ws) (n:=n)
  refine Ad 1 Z<|B2 true Z Z (by decide) Aa<|Aj<|Ag Z<|gK [0,0,0] Z<|Ac 3 Z<|A1<|Ao ?_
  exact Ah [10,11] Z (.tuple #[zN,zI ((2:Nat):Int)]) Z ⟨zN,N4,bg,PN,N5⟩
 refine Al false Z Z (A6 cl) Aa<|Ac 5 Z<|Ai Z<|A2<|A0<|gK [0,0] Z ?_
 have hdr:=Kz (p:=p) (f:=f) (a:=a) (ws:=ws) (n:=n)
 refine Ad 1 Z ?_
 by_cases bp:G0 p f ([a,ws])≠((0:Nat):Int)
 ·refine B2 true Z Z (A5 bp) Aa<|Aj<|Ag Z<|gK [0,0,0] Z<|Ac 3 Z<|A1<|Ao ?_
  exact Ah [10,11] Z (.tuple #[zN,zI<|G0 p f<|[a,ws]]) Z ⟨zN,N4,b9,PN,N5⟩
 refine B2 false Z Z (A6 bp) Aa<|Aj<|Ai Z<|A2<|gK [2,0,0,0,3,0,0,0,0,0] Z ?_
 have hg0:G4 p f a ws n=0:=by first|exact Oq oM (Dp (by assumption))|(exfalso;omega)
 have c6:=Ql hg0
 have a6:=Uu c6.1
 have hvp:=FZ a6.1
 refine AK (p:=zP w.heap.size) (.inr Z) [vp] Cf Z (fun dd ay=>LD.of_box<|BX.ext (w:=w3) ap ay) Z Aa<|Ad 3 Z<|Ap 78 [] [] [.agg #[vp],zI f,va,zI n] Z Z Xm Aa (CK _ dp vp (p) _ _ _ _ (hp.ext (Am<|Az dp) b9) _hf (ha.ext g1 b9) _hn hvp oM oM a6.2.2.2.1.2 oM oM) ?_
 rintro dq db ⟨a1,rfl,am,av,cc⟩
 refine⟨_,rfl,am,?_⟩
 have cw:=am.size
 have ac:=b9.trans am
 have b6:=ap.ext am
 have cd:=ck.ext g2 am
 refine Ad 1 Z<|AP (vs:=[a1,zI<|EP p f.toNat a n.toNat]) a1 Z Z Aa<|AP (vs:=[a1,zI<|EP p f.toNat a n.toNat]) (zI<|EP p f.toNat a n.toNat) Z Z Aa<|Ac 2 Z<|A0<|gK [0,0] Z<|Ad 1 Z ?_
 by_cases bq:EP p f.toNat a n.toNat≠((0:Nat):Int)
 ·refine B2 true Z Z (A5 bq) Aa<|Aj<|Ag Z<|gK [0,0,0] Z<|Ac 3 Z<|A1<|Ao ?_
  exact Ah [10,11] Z (.tuple #[zN,zI<|EP p f.toNat a n.toNat]) Z ⟨zN,N4,ac,PN,N5⟩
 refine B2 false Z Z (A6 bq) Aa<|Aj<|Ai Z<|A2<|gK [0,3,0] Z ?_
 have hpar:=hvp.par f.toNat oM
 have hrk:EP p f.toNat a n.toNat=0:=by omega
 have hCh:Py p f.toNat a n.toNat:=⟨hvp,zO,a6.2.2.1.2,a6.2.2.2.1.1,a6.2.2.2.1.2,hrk⟩
 have hgc:GA p f a ws n=0:=by rw[EC hg0];exact hrk
 have br:Fr (Bp (Bp rI 2) 27) w3.heap.size db.heap.size db.heap a1 (CD (n.toNat+1) (Cr p f.toNat a)):=by have h:=av;rwa [Lq hrk]at h
 have htl:(CD (n.toNat+1) (Cr p f.toNat a)).length=n.toNat+1:=by simp[CD]
 refine Ad 1 Z<|Ap 79 [] [] [vw] Z Z Xn Aa (BV _ _ _ (hws.ext g1 ac) oM) ?_
 rintro dr ds ⟨bs,rfl,ad,aw⟩
 refine⟨_,rfl,ad,?_⟩
 have bt:=ad.size
 have bu:=ac.trans ad
 have b7:=b6.ext ad
 have ax:=br.ext (o2) ad
 have d8:=cd.ext g2 ad
 refine Ac 1 Z<|A0<|gK [0,0,0] Z<|Ad 1 Z<|Bk (n-1) Z Z (CM oM oM) Aa<|Ac 1 Z<|A3 ?_
 refine AU (S:=Int×Value×Sr) (fun⟨i,vo,L⟩=>([(14,vo),(15,zI i),(1,zI f),(5,zP w.heap.size),(13,a1)])) (fun⟨i,vo,L⟩ W=>AH w W∧Fr (Bp rI 2) db.heap.size W.heap.size W.heap vo L∧Fr (Bp (Bp rI 2) 27) w3.heap.size db.heap.size W.heap a1 (CD (n.toNat+1)<|Cr p f.toNat a)∧BX W.heap w.heap.size [vp]∧(-1≤i∧i<n)∧((L.length:Int)=(p.getD f.toNat Fn.zero).params)∧AX L=true∧NY p f.toNat a n.toNat ws=NY p f.toNat a (i+1).toNat L∧w.heap.size<db.heap.size∧db.heap.size≤W.heap.size) (fun⟨i,vo,L⟩=>(i+1).toNat) (n-1,bs,ws) ⟨rfl,rfl,rfl,rfl,rfl,trivial⟩ ⟨bu,aw.up o1,ax,b7,oM,oM,a6.2.2.2.2.2,(by rw[show(n-1+1).toNat=n.toNat from by omega]),oM,oM⟩ ?_
 clear c4 ch bz bb bc ci bd be c1 b2 av am aw ad bt bu
 rintro⟨i,vo,L⟩ ρ33 df ⟨b0,a3,ae,af,ce,hLl,hLn,hLg,cx,cy⟩
 have cz:w.heap.size≤df.heap.size:=b0.size
 have d9:=af.lt
 refine A0<|gK [0,0] Z<|Ad 1 Z ?_
 by_cases bv:((0:Nat):Int)≤i
 ·refine De true Z Z (A5 bv) Aa<|Aj<|Ag Z<|A2<|A0<|A3<|A0<|AM _ [1,0,0,0,0,1,0,3,0,0,0,0,0] mixed (by kernel_rfl) ?_
  have hti:=C8 (f:=Cr p f.toNat a) (n:=n.toNat+1) (k:=i.toNat) [] oM
  have his:=(hCh.low (k:=i.toNat) oM).st
  have hin:=hCh.nx (k:=i.toNat) oM
  refine AK (p:=zP w.heap.size) (.inl Z) [vp] Cf Z (fun dd ay=>LD.of_box<|BX.ext (w:=df.drew) af ay) Z Aa<|Ad 3 Z<|Aw (v:=a1) ((i).toNat) Bx AT Z Z ae.isSl oM sD Aa ?_
  obtain⟨bw,bx,b8⟩:=ae.rd2.get (k:=(i).toNat) [] sD
  have d0:=b8.lenle
  refine Af (p:=Ay a1 ((i).toNat) 1) (.inl Z) bw B6 Z bx Aa<|Ad 1 Z<|Ap 80 [] [] [.agg #[vp],zI f,bw,vo] Z Z bS Aa (Ei _ dp vp (p) _ _ _ _ _ (hp.ext (Am<|Az dp) b0.drew) _hf b8 a3.rd1 a6.1 hz oM (by rw[hti];omega) (by rw[hti];exact his.2) (by rw[hti];exact hin) (by exact⟨zO,hLn⟩)) ?_
  rintro dt du ⟨ai,rfl,a5,ag⟩
  refine⟨_,rfl,a5,?_⟩
  replace a5:=a5.of_drew
  have d1:=a5.size
  have cf:=b0.trans a5
  have an:=ae.ext (o2) a5
  have ao:=af.ext a5
  have c3:=b8.ext g1 a5
  have d2:=Bd a5 bx
  replace ag:=ag.low (B':=df.heap.size)<|A7 _
  refine Ad 1 Z<|AP (vs:=[ai,zI 0]) ai Z Z Aa<|AP (vs:=[ai,zI 0]) (zI 0) Z Z Aa<|Ac 2 Z<|gK [0,0] Z<|Ad 1 Z ?_
  have cg:¬(0≠((0:Nat):Int)):=(fun h9=>h9 Z)
  exact B2 false Z Z (A6 cg) Aa<|Aj<|Ai Z<|A2<|Ab _ [0,0,0] Z<|Ad 1 Z<|Bk (i-1) Z Z (CM oM oM) Aa<|Ac 1 Z ⟨(i-1,ai,SG p f.toNat ((CD (n.toNat+1)<|Cr p f.toNat a).getD ((i).toNat) []) L),_,rfl,zR,⟨cf,(ag.up o1).low oM,an,ao,oM,(by rw[Ky,hti];omega),YJ,YI,oM,oM⟩,zD⟩
 refine De false Z Z (A6 bv) Aa<|Aj<|Ai Z<|A4<|AA<|AA<|Av<|gK [0,0,0] Z<|Ac 3 Z<|A1 ?_
 exact Ah [10,11] Z (.tuple #[vo,zI ((0:Nat):Int)]) Z ⟨vo,N4,b0,(by first|(have h:=(a3.up o1).low ac.size;rw[Jr hgc,hLg,show(i+1).toNat=0 from by omega];exact h)|(rw[Ee (by rw[EC hg0];omega)];exact(a3.up o1).low ac.size)|(rw[Ee (by rw[Ed (by rw[EU oM];omega)];exact(by rw[EU oM];omega))];exact(a3.up o1).low ac.size)|(rw[Ee (by rw[Ed (by rw[Gl oM<|Db (by assumption)];omega)];exact(by rw[Gl oM<|Db (by assumption)];omega))];exact(a3.up o1).low ac.size)),N5⟩
theorem HV {p:Prop}(h:p:=by intro u hu;simp only[ze,z2,or_false]at hu;rcases hu with rfl|rfl|rfl|rfl|rfl <;> first|exact⟨rfl,rfl⟩):p:=h
theorem QB {p:Prop}(h:p:=by simp only[zc,zf,zh];rfl):p:=h
theorem QC {p:Prop}(h:p:=by first|exact Q8.var oM|exact Q8.num oM):p:=h
theorem Dk (w:World)(gg gs:Nat)(sv:Value)(cs:List UInt8)(n0:Nat)(pp:Value)(dp:Nat)(l0:Int)(pl:Bool)(p:List Fn)(vars:Int)(hgg:gs<gg)(hs:FG w.heap gs sv cs n0)(hB0:BX w.heap gg [zP gs,pp,zI l0,.bool pl])(hp:RN [gs,gg] (rP (Jj dp)) w.heap pp p)(_hvars:Bn vars)(hv:0≤vars∧vars≤1000)(hn:n0+20≤1000000000000) :
  Calls Tryz.prog 133 #[zP gg,zI vars] w (fun e w'=>∃(ex:Ex) (n1:Nat),e=.returned (.agg #[zI ex.kind,zI ex.num,zI ex.pick,zI ex.count,zN])∧At [gs,gg] w w'∧FG w'.heap gs sv cs n1∧(n0≤n1∧n1≤n0+20)∧BX w'.heap gg [zP gs,pp,zI l0,.bool pl]∧Vm ex∧ex.kids=[]∧Q8 p vars ex):=by
 refine Aq [zP gg,zI vars] 28 Tryz.func133 Z Z sM ?_
 have bh:At [gs,gg] w w:=At.refl [gs,gg] w
 have ca:=hs.lt
 have bi:=hB0.lt
 refine gK [3] Z ?_
 have bu:=hB0.lt
 refine Bs (z:=.agg #[zI 0,zI 0,zI 0,zI 0,zN]) Ir Aa fun w1 ad bv ae=>?_
 have bj:w.heap.size≤w1.heap.size:=ad.size
 have b4:At [gs,gg] w w1:=bh.ext ad
 have a9:=hs.ext ad
 have a0:=hB0.ext ad
 replace ae:BX w1.heap w.heap.size [zI 0,zI 0,zI 0,zI 0,zN]:=ae
 refine Aj<|A0<|gK [0,0,0,0,0,0,2,4,0,0] Z<|Ad 1 Z ?_
 by_cases b5:((0:Nat):Int)<vars
 ·refine C2 true Z Z (A5 b5) Aa<|Ad 2 Z<|AV Z (Ae (e:=7) Z Z Z)<|Ak (p:=zP gg) 0 Fq Z Z (Ae (e:=7) Z Z Z)<|Af (p:=An (zP gg) 0) (.inr Z) (zP gs) J9 Z (a0.ldp (i:=0) sM) (Ae (e:=7) Z Z Z) ?_
  refine AD 73 [] [] [zP gs,zI ((4:Nat):Int)] Z Z Sx (Ae (e:=7) Z Z Z) (Cu _ gs _ _ _ ((4:Nat):Int) a9 oM oM sD) ?_
  rintro e4 w4 ⟨c2,n4,rfl,af,b6,bw,b7⟩
  refine⟨_,rfl,?_⟩
  have bk:w1.heap.size≤w4.heap.size:=af.size
  have b8:At [gs,gg] w w4:=b4.trans (af.sub GY)
  have ag:=a0.chg af (zB ·)
  have b9:=ae.chg af (zB ·)
  refine Bo (!c2) Z Z (Ae (e:=7) Z Z Z)<|Ac 1 Z ?_
  cases ba:(!c2)
  ·refine Ai (by first|rfl|exact zW ba)<|A2<|gK [0,0,0,2,4,0,4] Z<|Ad 1 Z<|AV Z Aa<|Ak (p:=zP gg) 0 Fq Z Z Aa<|Af (p:=An (zP gg) 0) (.inr Z) (zP gs) J9 Z (ag.ldp (i:=0) sM) Aa<|AD 111 [] [] [zP gs] Z Z UE Aa (H3 _ gs _ _ _ b6 oM) ?_
   rintro e8 w8 ⟨c1,n8,rfl,ah,bl,bx,bb⟩
   refine⟨_,rfl,?_⟩
   have bm:w4.heap.size≤w8.heap.size:=ah.size
   have bn:At [gs,gg] w w8:=b8.trans (ah.sub GY)
   have bo:=ag.chg ah (zB ·)
   have ai:=b9.chg ah (zB ·)
   have aa:∀(wq:World),(Instr.build 127 #[(0,zI ((1:Nat):Int)),(1,zI c1)]).run Tryz.prog wq=.ok (.agg #[zI ((1:Nat):Int),zI c1,zI 0,zI 0,zN]) wq:=by intro wq;kernel_rfl
   refine BQ (ps:=#[(0,zI ((1:Nat):Int)),(1,zI c1)]) (.agg #[zI ((1:Nat):Int),zI c1,zI 0,zI 0,zN]) QB (fun wq=>aa  wq) Aa (BE (vs:=[zI ((1:Nat):Int),zI c1,zI 0,zI 0,zN]) Bh Z Z HV ai Z Z Aa fun c3 a1 bp a6=>?_)
   replace a6:BX c3.heap w.heap.size [zI ((1:Nat):Int),zI c1,zI 0,zI 0,zN]:=a6
   have bc:w8.heap.size≤c3.heap.size:=a1.size
   have aj:At [gs,gg] w c3:=bn.fresh a1 (fun _ h=>zE h)
   have ak:=bl.chg a1 fun c hc=>zH<|A9 hc
   have al:=bo.chg a1 (zB ·)
   exact Aj<|A1<|CQ (cs:=[zI ((1:Nat):Int),zI c1,zI 0,zI 0,zN]) Z Bh Z a6 Z ⟨.mk ((1:Nat):Int) c1 0 0 [],n8,rfl,aj,ak,⟨zO,zO⟩,al,Mo oM oM oM oM,rfl,QC⟩
  refine Ag (by first|rfl|exact zW ba)<|gK [0,0,0,2,0,4,0,4] Z<|Ad 1 Z<|AV Z Aa<|Ak (p:=zP gg) 0 Fq Z Z Aa<|Af (p:=An (zP gg) 0) (.inr Z) (zP gs) J9 Z (ag.ldp (i:=0) sM) Aa<|Ad 1 Z ?_
  refine AD 72 [] [] [zP gs,zI vars] Z Z I5 Aa (B8 _ gs _ _ _ (vars) b6 oM _hvars sD) ?_
  rintro cb c4 ⟨bz,c8,rfl,a2,am,bq,an⟩
  refine⟨_,rfl,?_⟩
  have bd:w4.heap.size≤c4.heap.size:=a2.size
  have ao:At [gs,gg] w c4:=b8.trans (a2.sub GY)
  have ap:=ag.chg a2 (zB ·)
  have aq:=b9.chg a2 (zB ·)
  have ab:∀(wq:World),(Instr.build 127 #[(0,zI ((2:Nat):Int)),(1,zI bz)]).run Tryz.prog wq=.ok (.agg #[zI ((2:Nat):Int),zI bz,zI 0,zI 0,zN]) wq:=by intro wq;kernel_rfl
  refine BQ (ps:=#[(0,zI ((2:Nat):Int)),(1,zI bz)]) (.agg #[zI ((2:Nat):Int),zI bz,zI 0,zI 0,zN]) QB (fun wq=>ab  wq) Aa (BE (vs:=[zI ((2:Nat):Int),zI bz,zI 0,zI 0,zN]) Bh Z Z HV aq Z Z Aa fun c5 a3 br a7=>?_)
  replace a7:BX c5.heap w.heap.size [zI ((2:Nat):Int),zI bz,zI 0,zI 0,zN]:=a7
  have be:c4.heap.size≤c5.heap.size:=a3.size
  have ar:At [gs,gg] w c5:=ao.fresh a3 (fun _ h=>zE h)
  have au:=am.chg a3 fun c hc=>zH<|A9 hc
  have av:=ap.chg a3 (zB ·)
  exact Aj<|A1<|Ao<|CQ (cs:=[zI ((2:Nat):Int),zI bz,zI 0,zI 0,zN]) Z Bh Z a7 Z ⟨.mk ((2:Nat):Int) bz 0 0 [],c8,rfl,ar,au,⟨zO,zO⟩,av,Mo oM oM oM oM,rfl,QC⟩
 refine C2 false Z Z (A6 b5) Aa<|Ac 8 Z<|Ai Z<|A2<|gK [0,0,0,2,4,0,4] Z<|Ad 1 Z<|AV Z Aa<|Ak (p:=zP gg) 0 Fq Z Z Aa<|Af (p:=An (zP gg) 0) (.inr Z) (zP gs) J9 Z (a0.ldp (i:=0) sM) Aa<|AD 111 [] [] [zP gs] Z Z UE Aa (H3 _ gs _ _ _ a9 oM) ?_
 rintro cc c6 ⟨c0,c9,rfl,a4,aw,bs,ax⟩
 refine⟨_,rfl,?_⟩
 have bf:w1.heap.size≤c6.heap.size:=a4.size
 have ay:At [gs,gg] w c6:=b4.trans (a4.sub GY)
 have az:=a0.chg a4 (zB ·)
 have b0:=ae.chg a4 (zB ·)
 have ac:∀(wq:World),(Instr.build 127 #[(0,zI ((1:Nat):Int)),(1,zI c0)]).run Tryz.prog wq=.ok (.agg #[zI ((1:Nat):Int),zI c0,zI 0,zI 0,zN]) wq:=by intro wq;kernel_rfl
 refine BQ (ps:=#[(0,zI ((1:Nat):Int)),(1,zI c0)]) (.agg #[zI ((1:Nat):Int),zI c0,zI 0,zI 0,zN]) QB (fun wq=>ac  wq) Aa (BE (vs:=[zI ((1:Nat):Int),zI c0,zI 0,zI 0,zN]) Bh Z Z HV b0 Z Z Aa fun c7 a5 bt a8=>?_)
 replace a8:BX c7.heap w.heap.size [zI ((1:Nat):Int),zI c0,zI 0,zI 0,zN]:=a8
 have bg:c6.heap.size≤c7.heap.size:=a5.size
 have b1:At [gs,gg] w c7:=ay.fresh a5 (fun _ h=>zE h)
 have b2:=aw.chg a5 fun c hc=>zH<|A9 hc
 have b3:=az.chg a5 (zB ·)
 exact Aj<|A1<|CQ (cs:=[zI ((1:Nat):Int),zI c0,zI 0,zI 0,zN]) Z Bh Z a8 Z ⟨.mk ((1:Nat):Int) c0 0 0 [],c9,rfl,b1,b2,⟨zO,zO⟩,b3,Mo oM oM oM oM,rfl,QC⟩
theorem H8 {p:Prop}(h:p:=by first|(rw[eW oM];rfl)|(rw[eX oM];rfl)|(rw[eY oM];rfl)|(rw[eZ oM];rfl)|(rw[f0 (by assumption) (by assumption) (by assumption) (by assumption) (by assumption) (by assumption) (by assumption) (by assumption) (by assumption)])):p:=h
theorem gG (w:World)(k:Int)(_hk:Bn k)  :
  Calls Tryz.prog 135 #[zI k] w (fun e w'=>e=.returned (zI (kn k))∧w'=w):=by
 refine Aq [zI k] 17 Tryz.func135 Z Z sM ?_
 have a0:w=w:=rfl
 refine gL Z<|A0<|gL Z<|A3<|A0<|gK [0,0] Z ?_
 by_cases a1:k=((1:Nat):Int)
 ·exact Al true Z Z (A5 a1) Aa<|Ac 1 Z<|Ag Z<|A2<|Ag Z<|gL Z<|A1<|AG<|Ao<|Ah [2] Z (zI ((0:Nat):Int)) Z ⟨H8,a0⟩
 refine Al false Z Z (A6 a1) Aa<|Ac 1 Z<|Ai Z<|Ab _ [0,0] Z ?_
 by_cases a2:k=((2:Nat):Int)
 ·exact Al true Z Z (A5 a2) Aa<|Ac 1 Z<|Ag Z<|gL Z<|A1<|AG<|Ao<|Ah [2] Z (zI ((0:Nat):Int)) Z ⟨H8,a0⟩
 refine Al false Z Z (A6 a2) Aa<|Ac 1 Z<|Ai Z<|A0<|gK [0,0] Z ?_
 by_cases a3:k=((3:Nat):Int)
 ·exact Al true Z Z (A5 a3) Aa<|Ac 1 Z<|Ag Z<|A2<|Ag Z<|gL Z<|A1<|AG<|Ao<|Ah [2] Z (zI ((2:Nat):Int)) Z ⟨H8,a0⟩
 refine Al false Z Z (A6 a3) Aa<|Ac 1 Z<|Ai Z<|gK [0,0] Z ?_
 by_cases a4:k=((4:Nat):Int)
 ·exact Al true Z Z (A5 a4) Aa<|Ac 1 Z<|Ag Z<|A2<|Ag Z<|gL Z<|A1<|AG<|Ao<|Ah [2] Z (zI ((2:Nat):Int)) Z ⟨H8,a0⟩
 refine Al false Z Z (A6 a4) Aa<|Ac 1 Z<|Ai Z<|gK [0,0] Z ?_
 by_cases a5:k=((5:Nat):Int)
 ·exact Al true Z Z (A5 a5) Aa<|Ac 1 Z<|Ag Z<|A2<|Ag Z<|gL Z<|A1<|AG<|Ao<|Ah [2] Z (zI ((2:Nat):Int)) Z ⟨H8,a0⟩
 refine Al false Z Z (A6 a5) Aa<|Ac 1 Z<|Ai Z<|gK [0,0] Z ?_
 by_cases a6:k=((6:Nat):Int)
 ·exact Al true Z Z (A5 a6) Aa<|Ac 1 Z<|Ag Z<|A2<|Ag Z<|gL Z<|A1<|AG<|Ao<|Ah [2] Z (zI ((2:Nat):Int)) Z ⟨H8,a0⟩
 refine Al false Z Z (A6 a6) Aa<|Ac 1 Z<|Ai Z<|Ab _ [0,0] Z ?_
 by_cases a7:k=((9:Nat):Int)
 ·exact Al true Z Z (A5 a7) Aa<|Ac 1 Z<|Ag Z<|gL Z<|A1<|AG<|Ao<|Ah [2] Z (zI ((2:Nat):Int)) Z ⟨H8,a0⟩
 refine Al false Z Z (A6 a7) Aa<|Ac 1 Z<|Ai Z<|gK [0,0] Z ?_
 by_cases a8:k=((7:Nat):Int)
 ·exact Al true Z Z (A5 a8) Aa<|Ac 1 Z<|Ag Z<|gL Z<|A1<|AG<|Ao<|Ah [2] Z (zI ((1:Nat):Int)) Z ⟨H8,a0⟩
 refine Al false Z Z (A6 a8) Aa<|Ac 1 Z<|Ai Z<|gK [0,0] Z ?_
 by_cases a9:k=((8:Nat):Int)
 ·exact Al true Z Z (A5 a9) Aa<|Ac 1 Z<|Ag Z<|gL Z<|A1<|AG<|Ao<|Ah [2] Z (zI ((3:Nat):Int)) Z ⟨H8,a0⟩
 exact Al false Z Z (A6 a9) Aa<|Ac 1 Z<|Ai Z<|A2<|gL Z<|A1<|Ah [2] Z (zI (-1)) Z ⟨H8,a0⟩
def GX (d:Nat):Prop:=∀(w:World) (gg gs:Nat) (sv:Value) (cs:List UInt8) (n0:Nat) (pp:Value) (dp:Nat) (l0:Int) (pl:Bool) (p:List Fn) (vars funcs:Int) (hgg:gs<gg) (hs:FG w.heap gs sv cs n0) (hB0:BX w.heap gg [.pointer (some ⟨gs,0,none⟩),pp,.int .i64 l0,.bool pl]) (hp:RN [gs,gg] (rP (Jj dp)) w.heap pp p) (_hvars:Bn vars) (_hfuncs:Bn funcs) (hv:0≤vars∧vars+((d:Nat):Int)≤1000) (hfu:0≤funcs∧funcs≤((p.length:Nat):Int)) (hpr:aF p) (hd:d≤8) (hn:n0+Im d≤1000000000000) (hl:Nh d-1000000≤l0∧l0≤1000),Calls Tryz.prog 75 #[.pointer (some ⟨gg,0,none⟩),.int .i64 vars,.int .i64 funcs,.int .i64 ((d:Nat):Int)] w (fun e w'=>∃(v:Value) (ex:Ex) (n1:Nat) (l1:Int),e=.returned (.agg #[.int .i64 ex.kind,.int .i64 ex.num,.int .i64 ex.pick,.int .i64 ex.count,v])∧At [gs,gg] w w'∧FG w'.heap gs sv cs n1∧(n0≤n1∧n1≤n0+(Im d))∧BX w'.heap gg [.pointer (some ⟨gs,0,none⟩),pp,.int .i64 l1,.bool pl]∧Fr (EM 5 (Nd 127 d) 127) w.heap.size w'.heap.size w'.heap v ex.kids∧Vm ex∧OU p funcs vars pl d l0 l1 ex)
def GC (d:Nat):Prop:=∀(w:World) (gg gs:Nat) (sv:Value) (cs:List UInt8) (n0:Nat) (pp:Value) (dp:Nat) (l0:Int) (pl:Bool) (p:List Fn) (vars funcs:Int) (hgg:gs<gg) (hs:FG w.heap gs sv cs n0) (hB0:BX w.heap gg [.pointer (some ⟨gs,0,none⟩),pp,.int .i64 l0,.bool pl]) (hp:RN [gs,gg] (rP (Jj dp)) w.heap pp p) (_hvars:Bn vars) (_hfuncs:Bn funcs) (hv:0≤vars∧vars+((d:Nat):Int)≤1000) (hfu:0≤funcs∧funcs≤((p.length:Nat):Int)) (hpr:aF p) (hd:1≤d∧d≤8) (hn:n0+(20+4*Im (d-1))≤1000000000000) (hl:1≤l0∧l0≤1000),Calls Tryz.prog 134 #[.pointer (some ⟨gg,0,none⟩),.int .i64 vars,.int .i64 funcs,.int .i64 ((d:Nat):Int)] w (fun e w'=>∃(v:Value) (ex:Ex) (n1:Nat) (l1:Int),e=.returned (.agg #[.int .i64 ex.kind,.int .i64 ex.num,.int .i64 ex.pick,.int .i64 ex.count,v])∧At [gs,gg] w w'∧FG w'.heap gs sv cs n1∧(n0≤n1∧n1≤n0+(20+4*Im (d-1)))∧BX w'.heap gg [.pointer (some ⟨gs,0,none⟩),pp,.int .i64 l1,.bool pl]∧Fr (EM 5 (Nd 127 d) 127) w.heap.size w'.heap.size w'.heap v ex.kids∧Vm ex∧OU p funcs vars pl d (l0+1) l1 ex)
theorem JL (w:World)(gg gs:Nat)(sv:Value)(cs:List UInt8)(n0:Nat)(pp:Value)(dp:Nat)(l0:Int)(pl:Bool)(p:List Fn)(vars:Int)(funcs:Int)(d:Nat)(hgg:gs<gg)(hs:FG w.heap gs sv cs n0)(hB0:BX w.heap gg [zP gs,pp,zI l0,.bool pl])(hp:RN [gs,gg] (rP (Jj dp)) w.heap pp p)(_hvars:Bn vars)(_hfuncs:Bn funcs)(hv:0≤vars∧vars+(d:Int)≤1000)(hfu:0≤funcs∧funcs≤(p.length:Int))(hpr:aF p)(hd:1≤d∧d≤8)(hn:n0+(20+4*Im (d-1))≤1000000000000)(hl:1≤l0∧l0≤1000)(IH:GX (d-1)) :
  Calls Tryz.prog 134 #[zP gg,zI vars,zI funcs,zI (d:Int)] w (fun e w'=>∃(v:Value) (ex:Ex) (n1:Nat) (l1:Int),e=.returned (.agg #[zI ex.kind,zI ex.num,zI ex.pick,zI ex.count,v])∧At [gs,gg] w w'∧FG w'.heap gs sv cs n1∧(n0≤n1∧n1≤n0+(20+4*Im (d-1)))∧BX w'.heap gg [zP gs,pp,zI l1,.bool pl]∧Fr (EM 5 (Nd 127 d) 127) w.heap.size w'.heap.size w'.heap v ex.kids∧Vm ex∧OU p funcs vars pl d (l0+1) l1 ex):=by
 refine Aq [zP gg,zI vars,zI funcs,zI (d:Int)] 89 Tryz.func134 Z Z sM ?_
 have dx:At [gs,gg] w w:=At.refl [gs,gg] w
 have ia:=hs.lt
 have ei:=hB0.lt
 have hst:=Q7 (d-1)
 have hnd:=IN (d-1)
 have hnl:=Ts (d:=d-1) oM
 have hpl:=hpr.len
 refine gK [3] Z ?_
 have gh:=hB0.lt
 refine Bs (z:=.agg #[zI 0,zI 0,zI 0,zI 0,zN]) Ir Aa fun w1 bm ej ce=>?_
 have ch:w.heap.size≤w1.heap.size:=bm.size
 have cf:At [gs,gg] w w1:=dx.ext bm
 have bn:=hs.ext bm
 have ap:=hB0.ext bm
 replace ce:BX w1.heap w.heap.size [zI 0,zI 0,zI 0,zI 0,zN]:=ce
 refine Aj<|A0<|gK [0,0] Z<|Ad 1 Z ?_
 by_cases dy:funcs=((0:Nat):Int)
 ·refine Al true Z Z (A5 dy) Aa<|Aj<|Ag Z<|gK [0,0,4,4] Z<|Ad 2 Z<|AD 133 [] [] [zP gg,zI vars] Z Z RM Aa (Dk _ gg gs sv cs n0 pp dp l0 pl p (vars) oM bn ap (hp.chg (AS<|AN dp) cf) _hvars oM oM) ?_
  rintro e4 w4 ⟨x4,n4,rfl,ci,ek,gi,el,em,cj,gj⟩
  refine⟨_,rfl,?_⟩
  have en:w1.heap.size≤w4.heap.size:=ci.size
  have eo:At [gs,gg] w w4:=cf.trans ci
  have ep:=ce.chg ci fun hm=>zH<|CX hm
  refine BE (vs:=[zI x4.kind,zI x4.num,zI x4.pick,zI x4.count,zN]) Bh Z Z HV ep Z Z Aa fun w6 cg gk ck=>?_
  replace ck:BX w6.heap w.heap.size [zI x4.kind,zI x4.num,zI x4.pick,zI x4.count,zN]:=ck
  have eq:w4.heap.size≤w6.heap.size:=cg.size
  have er:At [gs,gg] w w6:=eo.fresh cg (fun _ h=>zE h)
  have es:=ek.chg cg fun c hc=>zH<|A9 hc
  have et:=el.chg cg (zB ·)
  exact Aj<|A1<|Ao<|CQ (cs:=[zI x4.kind,zI x4.num,zI x4.pick,zI x4.count,zN]) Z Bh Z ck Z ⟨zN,x4,n4,l0,rfl,er,es,⟨zO,zO⟩,et,(by rw[cj];exact Hz _ _ _),em,(by exact Q8.okc (by assumption) d)⟩
 refine Al false Z Z (A6 dy) Aa<|Aj<|Ai Z<|A2<|gK [0,0,0,2,0,4,0,3,4] Z<|Ad 1 Z<|AV Z Aa<|Ak (p:=zP gg) 0 Fq Z Z Aa<|Af (p:=An (zP gg) 0) (.inr Z) (zP gs) J9 Z (ap.ldp (i:=0) sM) Aa<|Ad 1 Z ?_
 refine AD 72 [] [] [zP gs,zI funcs] Z Z I5 Aa (B8 _ gs _ _ _ (funcs) bn oM _hfuncs sD) ?_
 rintro e9 w9 ⟨f1,n9,rfl,bo,eu,gl,dz⟩
 refine⟨_,rfl,?_⟩
 have cl:w1.heap.size≤w9.heap.size:=bo.size
 have e0:At [gs,gg] w w9:=cf.trans (bo.sub GY)
 have ba:=ap.chg bo (zB ·)
 have bb:=ce.chg bo (zB ·)
 have bp:∀(wq:World),(Instr.build 127 #[(0,zI ((10:Nat):Int)),(1,zI f1)]).run Tryz.prog wq=.ok (.agg #[zI ((10:Nat):Int),zI f1,zI 0,zI 0,zN]) wq:=by intro wq;kernel_rfl
 refine BQ (ps:=#[(0,zI ((10:Nat):Int)),(1,zI f1)]) (.agg #[zI ((10:Nat):Int),zI f1,zI 0,zI 0,zN]) (by simp only[zc,zf,zh];rfl) (fun wq=>bp  wq) Aa ?_
 have ev:=ba.lt
 have ew:=bb.lt
 refine Bs (z:=.agg #[zI 0,zI 0,zI 0,zI 0,zN]) Ir Aa fun fx ah cm bc=>?_
 have bq:w9.heap.size≤fx.heap.size:=ah.size
 have br:At [gs,gg] w fx:=e0.ext ah
 have bd:=eu.ext ah
 have af:=ba.ext ah
 have ag:=bb.ext ah
 replace bc:BX fx.heap w9.heap.size [zI 0,zI 0,zI 0,zI 0,zN]:=bc
 refine BE (vs:=[zI ((10:Nat):Int),zI f1,zI 0,zI 0,zN]) Bh Z Z HV bc Z Z Aa fun gp ai cn ay=>?_
 replace ay:BX gp.heap w9.heap.size [zI ((10:Nat):Int),zI f1,zI 0,zI 0,zN]:=ay
 have bs:fx.heap.size≤gp.heap.size:=ai.size
 have aj:At [gs,gg] w gp:=br.fresh ai (fun _ h=>zE h)
 have bt:=bd.chg ai fun c hc=>zH<|A9 hc
 have az:=af.chg ai (zB ·)
 have bu:=ag.chg ai (zB ·)
 refine Aj<|A0<|AM _ [0,0,0,1,0,0,1,0,1,0,0] mixed (by kernel_rfl)<|Ad 1 Z ?_
 have hxk:f1<funcs:=by omega
 refine AV Z Aa<|Ak (p:=zP gg) 1 Xt Z Z Aa<|Af (p:=An (zP gg) 1) (.inl Z) pp UP Z (az.ldp (i:=1) sM) Aa<|AF (hp.isPtr) Z Aa ?_
 obtain⟨cs20,co,bv⟩:=RN.at (AN _) hp
 obtain⟨a0,rfl,a5⟩:=RPr.of co
 have b8:=a5.lenle
 unfold maxLen at b8
 refine AE (p:=pp) 0 BB Z (bv _ aj.drew) Aa<|Af (p:=An pp 0) (.inl Z) a0 C4 Z ((bv _ aj.drew).ld (i:=0) (by simp[DR,DV])) Aa<|Ak (p:=zP w9.heap.size) 1 BF Z Z Aa<|Af (p:=An (zP w9.heap.size) 1) (.inl Z) (zI f1) AC Z (ay.ldp (i:=1) sM) Aa ?_
 refine Aw (v:=a0) ((f1).toNat) Gx Co Z Z a5.isSl oM sD Aa<|Ac 1 Z<|A0<|AM _ [0,0,0,1,0,0,0,1,0,4,0,4] mixed (by kernel_rfl) ?_
 have ib:=hpr.outs (f1).toNat oM
 have hpa:=hpr.par (f1).toNat oM
 refine Ad 1 Z<|AV Z Aa<|Ak (p:=zP gg) 0 Fq Z Z Aa<|Af (p:=An (zP gg) 0) (.inl Z) (zP gs) J9 Z (az.ldp (i:=0) sM) Aa<|Ad 1 Z<|AF (RN.isPtr<|RN.ptr (Az dp) (by decide) Fn.zero a5 sD) Z Aa ?_
 obtain⟨cs21,cp,a3⟩:=a5.get (Az dp) Fn.zero (k:=(f1).toNat) sD
 obtain⟨b0,rfl,be⟩:=RF.of cp
 have b9:=be.rn.lenle
 unfold maxLen at b9
 refine AE (p:=Ay a0 ((f1).toNat) 3) 2 BU Z (a3 _ aj.drew.drew) Aa<|Af (p:=An (Ay a0 ((f1).toNat) 3) 2) (.inl Z) b0 Bf Z ((a3 _ aj.drew.drew).ld (i:=2) (by simp[DR,DV])) Aa<|AR (v:=b0) CR Z be.rn.isSl Aa ?_
 refine AD 72 [] [] [zP gs,zI ((((p.getD ((f1).toNat) Fn.zero).outs).length:Nat):Int)] Z Z I5 Aa (B8 _ gs _ _ _ ((((p.getD ((f1).toNat) Fn.zero).outs).length:Nat):Int) bt oM oM sD) ?_
 rintro ic gq ⟨f2,i3,rfl,a2,cq,ey,cr⟩
 refine⟨_,rfl,?_⟩
 replace a2:=a2.of_drew
 replace a2:=a2.of_drew
 have bw:gp.heap.size≤gq.heap.size:=a2.size
 have bx:At [gs,gg] w gq:=aj.trans (a2.sub GY)
 have bz:=az.chg a2 (zB ·)
 have c0:=bu.chg a2 (zB ·)
 have c1:=ay.chg a2 (zB ·)
 refine Ak (p:=zP w9.heap.size) 2 D1 Z Z Aa (Bm (k:=2) (w:=gq) HL Z Z ⟨rfl,rfl⟩ c1 sM Aa fun gr ak ct b1=>?_)
 replace b1:BX gr.heap w9.heap.size [zI ((10:Nat):Int),zI f1,zI f2,zI 0,zN]:=b1
 have c2:gq.heap.size≤gr.heap.size:=ak.size
 have a6:At [gs,gg] w gr:=bx.fresh ak (fun _ h=>zE h)
 have bf:=cq.chg ak fun c hc=>zH<|A9 hc
 have b2:=bz.chg ak (zB ·)
 have bg:=c0.chg ak (zB ·)
 refine Aj ?_
 refine A0<|Ll (S:=Int×Int×Nat) (fun⟨k,cnt,m1⟩=>([(0,zP gg),(1,zI vars),(2,zI funcs),(3,zI (d:Int)),(8,zP w.heap.size),(9,zP w9.heap.size),(10,Ay a0 ((f1).toNat) 3)])) (fun⟨k,cnt,m1⟩ W=>At [gs,gg] w W∧FG W.heap gs sv cs m1∧BX W.heap gg [zP gs,pp,zI l0,.bool pl]∧BX W.heap w.heap.size [zI 0,zI 0,zI 0,zI 0,zN]∧BX W.heap w9.heap.size [zI k,zI f1,zI f2,zI cnt,zN]∧((k=10∧cnt=0)∨(k=11∧(((p.getD (f1).toNat Fn.zero).outs.length:Nat):Int)=(p.getD (f1).toNat Fn.zero).params∧0≤cnt∧cnt≤8))∧(n0≤m1∧m1≤n0+8)) ?_ ?_
 ·refine A0<|AM _ [0,0,0,1,0,0,0,0,1,0,0,0,0,0,1,4,0] mixed (by kernel_rfl)<|Ad 1 Z<|AF (RN.isPtr<|RN.ptr (Az dp) (by decide) Fn.zero a5 sD) Z Aa<|AE (p:=Ay a0 ((f1).toNat) 3) 2 BU Z (a3 _ a6.drew) Aa<|Af (p:=An (Ay a0 ((f1).toNat) 3) 2) (.inl Z) b0 Bf Z ((a3 _ a6.drew).ld (i:=2) (by simp[DR,DV])) Aa<|AR (v:=b0) CR Z be.rn.isSl Aa ?_
  refine Ad 1 Z<|AF (RN.isPtr<|RN.ptr (Az dp) (by decide) Fn.zero a5 sD) Z Aa<|AE (p:=Ay a0 ((f1).toNat) 3) 1 C9 Z (a3 _ a6.drew) Aa<|Af (p:=An (Ay a0 ((f1).toNat) 3) 1) (.inl Z) (zI<|(p.getD ((f1).toNat) Fn.zero).params) AC Z ((a3 _ a6.drew).ld (i:=1) (by simp[DR,DV])) Aa ?_
  by_cases c3:((((p.getD ((f1).toNat) Fn.zero).outs).length:Nat):Int)=(p.getD ((f1).toNat) Fn.zero).params
  ·refine Al true Z Z (A5 c3) Aa<|Ad 2 Z<|AV Z (Ae (e:=55) Z Z Z)<|Ak (p:=zP gg) 0 Fq Z Z (Ae (e:=55) Z Z Z)<|Af (p:=An (zP gg) 0) (.inl Z) (zP gs) J9 Z (b2.ldp (i:=0) sM) (Ae (e:=55) Z Z Z) ?_
   refine AD 73 [] [] [zP gs,zI ((2:Nat):Int)] Z Z Sx (Ae (e:=55) Z Z Z) (Cu _ gs _ _ _ ((2:Nat):Int) bf oM oM sD) ?_
   rintro ie gt ⟨fs,i4,rfl,a7,c4,ez,cu⟩
   refine⟨_,rfl,?_⟩
   replace a7:=a7.of_drew
   have e1:gr.heap.size≤gt.heap.size:=a7.size
   have c5:At [gs,gg] w gt:=a6.trans (a7.sub GY)
   have c6:=b2.chg a7 (zB ·)
   have c7:=bg.chg a7 (zB ·)
   have c8:=b1.chg a7 (zB ·)
   refine Ac 1 Z ?_
   cases c9:fs
   ·exact Ai (by first|rfl|exact zW c9)<|A2 ⟨(((10:Nat):Int),0,i4),_,rfl,zR,⟨c5,c4,c6,c7,c8,oM,oM⟩⟩
   refine Ag (by first|rfl|exact zW c9)<|gK [0,4] Z<|Ak (p:=zP w9.heap.size) 0 Br Z Z Aa (Bm (k:=0) (w:=gt) HL Z Z ⟨rfl,rfl⟩ c8 sM Aa fun gu aq g0 bh=>?_)
   replace bh:BX gu.heap w9.heap.size [zI ((11:Nat):Int),zI f1,zI f2,zI 0,zN]:=bh
   have e2:gt.heap.size≤gu.heap.size:=aq.size
   have cv:At [gs,gg] w gu:=c5.fresh aq (fun _ h=>zE h)
   have cw:=c4.chg aq fun c hc=>zH<|A9 hc
   have ca:=c6.chg aq (zB ·)
   have cx:=c7.chg aq (zB ·)
   refine Aj<|Ab _ [0,0,0,2,4,0,4] Z<|Ad 1 Z<|AV Z Aa<|Ak (p:=zP gg) 0 Fq Z Z Aa<|Af (p:=An (zP gg) 0) (.inr Z) (zP gs) J9 Z (ca.ldp (i:=0) sM) Aa ?_
   refine AD 72 [] [] [zP gs,zI ((4:Nat):Int)] Z Z I5 Aa (B8 _ gs _ _ _ ((4:Nat):Int) cw oM oM sD) ?_
   rintro ig gv ⟨f3,i5,rfl,ar,cy,g1,cz⟩
   refine⟨_,rfl,?_⟩
   have e3:gu.heap.size≤gv.heap.size:=ar.size
   have d0:At [gs,gg] w gv:=cv.trans (ar.sub GY)
   have d1:=ca.chg ar (zB ·)
   have d2:=cx.chg ar (zB ·)
   have d3:=bh.chg ar (zB ·)
   refine Ak (p:=zP w9.heap.size) 3 Dz Z Z Aa (Bm (k:=3) (w:=gv) HL Z Z ⟨rfl,rfl⟩ d3 sM Aa fun gx au g2 bi=>?_)
   replace bi:BX gx.heap w9.heap.size [zI ((11:Nat):Int),zI f1,zI f2,zI f3,zN]:=bi
   have e5:gv.heap.size≤gx.heap.size:=au.size
   have d4:At [gs,gg] w gx:=d0.fresh au (fun _ h=>zE h)
   have d5:=cy.chg au fun c hc=>zH<|A9 hc
   have d6:=d1.chg au (zB ·)
   have d7:=d2.chg au (zB ·)
   exact Aj ⟨(((11:Nat):Int),f3,i5),_,rfl,zR,⟨d4,d5,d6,d7,bi,oM,oM⟩⟩
  exact Al false Z Z (A6 c3) Aa<|Ac 7 Z<|Ai Z<|A2 ⟨(((10:Nat):Int),0,i3),_,rfl,zR,⟨a6.drew,bf,b2,bg,b1,oM,oM⟩⟩
 clear dx ej bm ch cf bo cl e0 ba bb cm ah bq br af ag cn ai bs aj bt az bu b8 b9 a2 bw bx bz c0 c1 ct ak c2 a6 bf b2 bg
 rintro⟨k,cnt,m1⟩ ρ30 fe ⟨cb,av,a8,a9,aa,hkc,gm⟩
 have e6:w.heap.size≤fe.heap.size:=cb.size
 have g3:=a8.lt
 have g4:=a9.lt
 have g5:=aa.lt
 refine A0<|gL Z<|A3 ?_
 refine AU (S:=Nat×Int×Nat×Value×List Ex) (fun⟨i,l,m,vk,xs⟩=>([(11,zI (i:Int)),(0,zP gg),(1,zI vars),(2,zI funcs),(3,zI (d:Int)),(8,zP w.heap.size),(9,zP w9.heap.size),(10,Ay a0 ((f1).toNat) 3)])) (fun⟨i,l,m,vk,xs⟩ W=>At [gs,gg] w W∧Fr (EM 5 (Nd 127 d) 127) fe.heap.size W.heap.size W.heap vk xs∧FG W.heap gs sv cs m∧BX W.heap gg [zP gs,pp,zI l,.bool pl]∧BX W.heap w.heap.size [zI 0,zI 0,zI 0,zI 0,zN]∧BX W.heap w9.heap.size [zI k,zI f1,zI f2,zI cnt,vk]∧(i:Int)≤(p.getD (f1).toNat Fn.zero).params∧R7 p funcs vars pl k d l0 l xs i∧(n0≤m∧m≤n0+8+Sl i (Im (d-1)))∧gg<fe.heap.size∧w.heap.size<fe.heap.size∧w9.heap.size<fe.heap.size∧fe.heap.size≤W.heap.size) (fun⟨i,l,m,vk,xs⟩=>(p.getD (f1).toNat Fn.zero).params.toNat-i) (0,l0,m1,zN,([]:List Ex)) ⟨rfl,rfl,rfl,rfl,rfl,rfl,rfl,rfl,trivial⟩ ⟨cb,(Hz _ 0 _).up<|Au<|B3 127 d,av,a8,a9,aa,oM,(by exact R7.nil ..),(by exact⟨zO,by show _≤n0+8+0;omega⟩),oM,oM,oM,oM⟩ ?_
 clear aa a9 a8 av
 rintro⟨i,l,m,vk,xs⟩ ρ55 f4 ⟨al,ab,aw,ac,ad,a1,gn,hko,hmb,e7,e8,ea,eb⟩
 have ec:w.heap.size≤f4.heap.size:=al.size
 have g6:=ac.lt
 have g7:=ad.lt
 have g8:=a1.lt
 refine A0<|gK [0,0,0,0,2,0] Z<|Ad 2 Z<|AF (RN.isPtr<|RN.ptr (Az dp) (by decide) Fn.zero a5 sD) Z Aa<|AE (p:=Ay a0 ((f1).toNat) 3) 1 C9 Z (a3 _ al) Aa<|Af (p:=An (Ay a0 ((f1).toNat) 3) 1) (.inr Z) (zI<|(p.getD ((f1).toNat) Fn.zero).params) AC Z ((a3 _ al).ld (i:=1) (by simp[DR,DV])) Aa ?_
 by_cases cc:(i:Int)<(p.getD ((f1).toNat) Fn.zero).params
 ·refine AI true Z Z (A5 cc) Aa<|Aj<|Ag Z<|A2<|A0<|A3 ?_
  letI:JR:=SA [gs,gg]
  refine Jx.AM _ [0,1,0,0,0,0,0,3,3,4,0,4] mixed (by kernel_rfl) ?_
  have htn:=NH (k:=Im (d-1)) (i:=i+1) oM
  have hts:Sl (i+1) (Im (d-1))=Sl i (Im (d-1))+Im (d-1):=rfl
  have hti:=Ph (k:=Nh (d-1)) (i:=i) oM oM
  have hlo:=hko.lo
  have hln:=hko.len
  refine Jx.Ak (p:=zP w9.heap.size) 4 Bc Z Z Aa<|Jx.eO (p:=An (zP w9.heap.size) 4) vk Bf Z (fun wj hj=>(BX.chg (w:=f4.drew) (F:=[gs,gg]) a1 hj fun hm=>zH<|CX hm).ldp (i:=4) sM) Aa<|Jx.YM (zP gg) Z Aa<|Jx.YM (zI vars) Z Aa<|Jx.YM (zI funcs) Z Aa<|Jx.YM (zI (d:Int)) Z Aa<|Jx.j1<|Bk ((d-1:Nat):Int) Z Z (by rw[CM oM oM];omega) Aa<|Aj ?_
  refine Jx.Ap 75 [] [] [zP gg,zI vars,zI funcs,zI ((d-1:Nat):Int)] Z Z Sy Aa (IH _ gg gs sv cs m pp dp l pl p (vars) (funcs) oM aw ac (hp.chg (AS<|AN dp) al.drew) _hvars _hfuncs oM oM hpr oM oM oM) ?_
  rintro ih gy ⟨i6,fr,i7,i8,rfl,a4,d8,g9,d9,bj,da,ga⟩
  refine⟨_,rfl,a4,?_⟩
  replace bj:=bj.low (B':=f4.heap.size)<|A7 _
  replace a4:=a4.of_drew
  have ed:f4.heap.size≤gy.heap.size:=a4.size
  have db:At [gs,gg] w gy:=al.trans a4
  have dc:=ab.chg (Au<|B3 127 d) a4 fun c hc=>zH<|CX hc
  have dd:=ad.chg a4 fun hm=>zH<|CX hm
  have de:=a1.chg a4 fun hm=>zH<|CX hm
  refine Jx.VI Z (ES (cs:=[zI fr.kind,zI fr.num,zI fr.pick,zI fr.count,i6]) (y:=fr) (B:=f4.heap.size) (B3 127 d) CR Bj Z (by decide) Z (O6.mk1 oM da bj) oM Aa fun i9 gz ae gb df=>?_)
  have ee:gy.heap.size≤gz.heap.size:=ae.size
  have dg:At [gs,gg] w gz:=db.ext ae
  have b3:=dc.ext (Au<|B3 127 d) ae
  have b4:=d8.ext ae
  have b5:=d9.ext ae
  have b6:=dd.ext ae
  have b7:=de.ext ae
  refine Jk (v:=vk) (a:=i9) (B3 127 d) CR Bj Z (by decide) Z Z b3 oM df oM oM oM (by unfold maxLen;omega) Aa fun i2 gw ii am ax cd=>?_
  have ef:gz.heap.size≤gw.heap.size:=am.size
  have dh:At [gs,gg] w gw:=dg.fresh am (fun c hc=>zH<|ax _ hc)
  have di:=b4.chg am fun c hc=>zH<|ax _ hc
  have dj:=b5.chg am fun hm=>zH<|ax _ hm
  have dk:=b6.chg am fun hm=>zH<|ax _ hm
  have dl:=b7.chg am fun hm=>zH<|ax _ hm
  refine Ak (p:=zP w9.heap.size) 4 Bc Z Z Aa (Bm (k:=4) (w:=gw) Sz Z Z (Bg cd.isSlS) dl sM Aa fun i0 an gc bk=>?_)
  replace bk:BX i0.heap w9.heap.size [zI k,zI f1,zI f2,zI cnt,i2]:=bk
  have eg:gw.heap.size≤i0.heap.size:=an.size
  have dm:At [gs,gg] w i0:=dh.fresh an (fun _ h=>zE h)
  have dn:=di.chg an fun c hc=>zH<|A9 hc
  have dq:=dj.chg an (zB ·)
  have dr:=dk.chg an (zB ·)
  have ds:=cd.chg (Au<|B3 127 d) an fun _ h=>zA h
  exact Aj<|Ab _ [0,0,0] Z<|Ad 1 Z<|AQ ((i+1:Nat):Int) Z Z (Bi oM oM) Aa<|Ac 1 Z ⟨(i+1,i8,i7,i2,xs++[fr]),_,rfl,zR,⟨dm,ds.up<|Au<|B3 127 d,dn,dq,dr,bk,oM,(by exact hko.snoc oM (by rw[if_neg oM]) (by assumption)),oM,oM,oM,oM,oM⟩,zD⟩
 refine AI false Z Z (A6 cc) Aa<|Aj<|Ai Z<|A4<|AA<|AA<|Av<|gK [2,4] Z<|AK (p:=zP w9.heap.size) (.inr Z) [zI k,zI f1,zI f2,zI cnt,vk] Bh Z (fun ij gd=>LD.of_box<|BX.ext (w:=f4) a1 gd) Z Aa (BE (vs:=[zI k,zI f1,zI f2,zI cnt,vk]) Bh Z Z (by intro u hu;simp only[ze,z2,or_false]at hu;rcases hu with rfl|rfl|rfl|rfl|rfl <;> first|exact⟨rfl,rfl⟩|exact Bg ab.isSlS) ad Z Z Aa fun i1 ao ge bl=>?_)
 replace bl:BX i1.heap w.heap.size [zI k,zI f1,zI f2,zI cnt,vk]:=bl
 have eh:f4.heap.size≤i1.heap.size:=ao.size
 have dt:At [gs,gg] w i1:=al.fresh ao (fun _ h=>zE h)
 have du:=ab.chg (Au<|B3 127 d) ao fun _ h=>zA h
 have dv:=aw.chg ao fun c hc=>zH<|A9 hc
 have dw:=ac.chg ao (zB ·)
 have gf:=a1.chg ao (zB ·)
 refine Aj<|A1 ?_
 have hln:=hko.len
 have htn:=NH (k:=Im (d-1)) (i:=i) oM
 exact CQ (cs:=[zI k,zI f1,zI f2,zI cnt,vk]) Z Bh Z bl Z ⟨vk,.mk k f1 f2 cnt xs,m,l,rfl,dt,dv,⟨zO,zO⟩,dw,(du.up<|Au<|B3 127 d).low (B':=w.heap.size) oM,Mo oM oM oM oM,(by exact hko.node1 oM oM oM (fun _=>by omega) (Zb hkc oM oM oM))⟩
theorem Vi {p:Prop}(h:p:=by exact hko.snoc oM (by first|rw[if_pos oM]|rw[if_neg oM]) (by assumption)):p:=h
theorem Sd {p:Prop}(h:p:=by intro hpl;first|omega|(simp_all;omega)|simp_all):p:=h
theorem JM (w:World)(gg gs:Nat)(sv:Value)(cs:List UInt8)(n0:Nat)(pp:Value)(dp:Nat)(l0:Int)(pl:Bool)(p:List Fn)(vars:Int)(funcs:Int)(d:Nat)(hgg:gs<gg)(hs:FG w.heap gs sv cs n0)(hB0:BX w.heap gg [zP gs,pp,zI l0,.bool pl])(hp:RN [gs,gg] (rP (Jj dp)) w.heap pp p)(_hvars:Bn vars)(_hfuncs:Bn funcs)(hv:0≤vars∧vars+(d:Int)≤1000)(hfu:0≤funcs∧funcs≤(p.length:Int))(hpr:aF p)(hd:d≤8)(hn:n0+Im d≤1000000000000)(hl:Nh d-1000000≤l0∧l0≤1000)(IH1:∀d',d'<d→GX d')(IH2:1≤d→GC d) :
  Calls Tryz.prog 75 #[zP gg,zI vars,zI funcs,zI (d:Int)] w (fun e w'=>∃(v:Value) (ex:Ex) (n1:Nat) (l1:Int),e=.returned (.agg #[zI ex.kind,zI ex.num,zI ex.pick,zI ex.count,v])∧At [gs,gg] w w'∧FG w'.heap gs sv cs n1∧(n0≤n1∧n1≤n0+(Im d))∧BX w'.heap gg [zP gs,pp,zI l1,.bool pl]∧Fr (EM 5 (Nd 127 d) 127) w.heap.size w'.heap.size w'.heap v ex.kids∧Vm ex∧OU p funcs vars pl d l0 l1 ex):=by
 refine Aq [zP gg,zI vars,zI funcs,zI (d:Int)] 117 Tryz.func75 Z Z sM ?_
 have l8:At [gs,gg] w w:=At.refl [gs,gg] w
 have q9:=hs.lt
 have mj:=hB0.lt
 have hst:=Q7 d
 have hnd:=IN d
 have hnl:=Ts (d:=d) oM
 refine gK [3] Z ?_
 have nt:=hB0.lt
 refine Bs (z:=.agg #[zI 0,zI 0,zI 0,zI 0,zN]) Ir Aa fun w1 db ml ih=>?_
 have ii:w.heap.size≤w1.heap.size:=db.size
 have l9:At [gs,gg] w w1:=l8.ext db
 have ij:=hs.ext db
 have ci:=hB0.ext db
 replace ih:BX w1.heap w.heap.size [zI 0,zI 0,zI 0,zI 0,zN]:=ih
 refine Aj<|gK [0,0,0,2,0,0,0,4] Z<|Ad 1 Z<|AV Z Aa<|Ak (p:=zP gg) 2 Oy Z Z Aa<|Af (p:=An (zP gg) 2) (.inr Z) (zI l0) AC Z (ci.ldp (i:=2) sM) Aa ?_
 refine Bk (l0-((1:Nat):Int)) Z Z (CM sD sD) Aa<|AV Z Aa ?_
 refine Ak (p:=zP gg) 2 Oy Z Z Aa (Bm (k:=2) (w:=w1) HL Z Z ⟨rfl,rfl⟩ ci sM Aa fun w3 dc mm cq=>?_)
 replace cq:BX w3.heap gg [zP gs,pp,zI (l0-((1:Nat):Int)),.bool pl]:=cq
 have ik:w1.heap.size≤w3.heap.size:=dc.size
 have da:At [gs,gg] w w3:=l9.trans (dc.sub Zc)
 have id:=ij.chg dc fun c hc=>zH<|A9 hc
 have ie:=ih.chg dc (zB ·)
 refine Aj<|A0<|gK [0,0,0,2,0,0,0,0,0,0,0,0,0,2,4,0] Z<|Ad 1 Z<|AV Z Aa<|Ak (p:=zP gg) 2 Oy Z Z Aa<|Af (p:=An (zP gg) 2) (.inr Z) (zI (l0-((1:Nat):Int))) AC Z (cq.ldp (i:=2) sM) Aa ?_
 by_cases la:l0-((1:Nat):Int)<((1:Nat):Int)
 ·refine AI true Z Z (A5 la) Aa<|Ac 11 Z<|Ag Z<|gK [0,0,4,4] Z<|Ad 2 Z<|AD 133 [] [] [zP gg,zI vars] Z Z RM Aa (Dk _ gg gs sv cs n0 pp dp (l0-((1:Nat):Int)) pl p (vars) oM id cq (hp.chg (AS<|AN dp) da) _hvars oM oM) ?_
  rintro e7 w7 ⟨x7,n7,rfl,il,mn,nu,mo,mp,im,nv⟩
  refine⟨_,rfl,?_⟩
  have mq:w3.heap.size≤w7.heap.size:=il.size
  have mr:At [gs,gg] w w7:=da.trans il
  have ms:=ie.chg il fun hm=>zH<|CX hm
  refine BE (vs:=[zI x7.kind,zI x7.num,zI x7.pick,zI x7.count,zN]) Bh Z Z HV ms Z Z Aa fun w9 ig nw io=>?_
  replace io:BX w9.heap w.heap.size [zI x7.kind,zI x7.num,zI x7.pick,zI x7.count,zN]:=io
  have mt:w7.heap.size≤w9.heap.size:=ig.size
  have mu:At [gs,gg] w w9:=mr.fresh ig (fun _ h=>zE h)
  have ip:=mn.chg ig fun c hc=>zH<|A9 hc
  have iq:=mo.chg ig (zB ·)
  exact Aj<|A1<|Ao<|CQ (cs:=[zI x7.kind,zI x7.num,zI x7.pick,zI x7.count,zN]) Z Bh Z io Z ⟨zN,x7,n7,l0-((1:Nat):Int),rfl,mu,ip,⟨zO,zO⟩,iq,(by rw[im];exact Hz _ _ _),mp,(by exact Q8.ok (by assumption) d)⟩
 refine AI false Z Z (A6 la) Aa<|Ad 2 Z ?_
 by_cases dd:(d:Int)<((1:Nat):Int)
 ·refine AI true Z Z (A5 dd) (Ae (e:=24) Z Z Z)<|Ac 8 Z<|Ag Z<|gK [0,0,4,4] Z<|Ad 2 Z<|AD 133 [] [] [zP gg,zI vars] Z Z RM Aa (Dk _ gg gs sv cs n0 pp dp (l0-((1:Nat):Int)) pl p (vars) oM id cq (hp.chg (AS<|AN dp) da) _hvars oM oM) ?_
  rintro qa ox ⟨fr,pv,rfl,cr,ir,mv,is,it,de,mw⟩
  refine⟨_,rfl,?_⟩
  have lb:w3.heap.size≤ox.heap.size:=cr.size
  have iu:At [gs,gg] w ox:=da.trans cr
  have iv:=ie.chg cr fun hm=>zH<|CX hm
  refine BE (vs:=[zI fr.kind,zI fr.num,zI fr.pick,zI fr.count,zN]) Bh Z Z HV iv Z Z Aa fun oy cc mx ct=>?_
  replace ct:BX oy.heap w.heap.size [zI fr.kind,zI fr.num,zI fr.pick,zI fr.count,zN]:=ct
  have lc:ox.heap.size≤oy.heap.size:=cc.size
  have iw:At [gs,gg] w oy:=iu.fresh cc (fun _ h=>zE h)
  have ix:=ir.chg cc fun c hc=>zH<|A9 hc
  have iy:=is.chg cc (zB ·)
  exact Aj<|A1<|Ao<|CQ (cs:=[zI fr.kind,zI fr.num,zI fr.pick,zI fr.count,zN]) Z Bh Z ct Z ⟨zN,fr,pv,l0-((1:Nat):Int),rfl,iw,ix,⟨zO,zO⟩,iy,(by rw[de];exact Hz _ _ _),it,(by exact Q8.ok (by assumption) d)⟩
 refine AI false Z Z (A6 dd) (Ae (e:=24) Z Z Z)<|Ad 3 Z<|AV Z (Ae (e:=28) Z Z Z)<|Ak (p:=zP gg) 0 Fq Z Z (Ae (e:=28) Z Z Z)<|Af (p:=An (zP gg) 0) (.inr Z) (zP gs) J9 Z (cq.ldp (i:=0) sM) (Ae (e:=28) Z Z Z) ?_
 refine AD 73 [] [] [zP gs,zI ((5:Nat):Int)] Z Z Sx (Ae (e:=28) Z Z Z) (Cu _ gs _ _ _ ((5:Nat):Int) id oM oM sD) ?_
 rintro qb f1 ⟨oo,px,rfl,bn,df,my,iz⟩
 refine⟨_,rfl,?_⟩
 have dg:w3.heap.size≤f1.heap.size:=bn.size
 have cd:At [gs,gg] w f1:=da.trans (bn.sub GY)
 have ce:=cq.chg bn (zB ·)
 have cf:=ie.chg bn (zB ·)
 refine Ac 1 Z ?_
 cases dh:oo
 ·refine Ai (by first|rfl|exact zW dh)<|A2<|gK [0,3,4] Z ?_
  have py:=XL (d:=d) oM
  have pz:=aE (d:=d) oM
  have mz:=Q7 (d-1)
  have n2:=IN (d-1)
  have di:∀(wq:World),(Instr.build 127 #[]).run Tryz.prog wq=.ok (.agg #[zI 0,zI 0,zI 0,zI 0,zN]) wq:=by intro wq;kernel_rfl
  refine BQ (ps:=#[]) (.agg #[zI 0,zI 0,zI 0,zI 0,zN]) (by simp only[zc,zf,zh]) (fun wq=>di  wq) Aa ?_
  have n3:=ce.lt
  have n4:=cf.lt
  refine Bs (z:=.agg #[zI 0,zI 0,zI 0,zI 0,zN]) Ir Aa fun ou b4 j0 cu=>?_
  have dj:f1.heap.size≤ou.heap.size:=b4.size
  have dk:At [gs,gg] w ou:=cd.ext b4
  have cg:=df.ext b4
  have b1:=ce.ext b4
  have b2:=cf.ext b4
  replace cu:BX ou.heap f1.heap.size [zI 0,zI 0,zI 0,zI 0,zN]:=cu
  refine BE (vs:=[zI 0,zI 0,zI 0,zI 0,zN]) Bh Z Z HV cu Z Z Aa fun ov b5 j2 cv=>?_
  replace cv:BX ov.heap f1.heap.size [zI 0,zI 0,zI 0,zI 0,zN]:=cv
  have dl:ou.heap.size≤ov.heap.size:=b5.size
  have dm:At [gs,gg] w ov:=dk.fresh b5 (fun _ h=>zE h)
  have dn:=cg.chg b5 fun c hc=>zH<|A9 hc
  have cw:=b1.chg b5 (zB ·)
  have dq:=b2.chg b5 (zB ·)
  refine Aj<|A0<|Ll (S:=Int×Nat) (fun⟨k,m1⟩=>([(0,zP gg),(1,zI vars),(2,zI funcs),(3,zI (d:Int)),(8,zP w.heap.size),(9,zP f1.heap.size)])) (fun⟨k,m1⟩ W=>At [gs,gg] w W∧FG W.heap gs sv cs m1∧BX W.heap gg [zP gs,pp,zI (l0-((1:Nat):Int)),.bool pl]∧BX W.heap w.heap.size [zI 0,zI 0,zI 0,zI 0,zN]∧BX W.heap f1.heap.size [zI k,zI 0,zI 0,zI 0,zN]∧(k=3∨k=4∨k=5∨k=6∨k=7∨k=8∨k=9)∧(n0≤m1∧m1≤n0+4)) ?_ ?_
  ·refine gK [0,0,0,2,4] Z<|Ad 1 Z<|AV Z Aa<|Ak (p:=zP gg) 0 Fq Z Z Aa<|Af (p:=An (zP gg) 0) (.inr Z) (zP gs) J9 Z (cw.ldp (i:=0) sM) Aa ?_
   refine AD 72 [] [] [zP gs,zI ((12:Nat):Int)] Z Z I5 Aa (B8 _ gs _ _ _ ((12:Nat):Int) dn oM oM sD) ?_
   rintro qc fe ⟨f2,o4,rfl,bo,ad,n5,j3⟩
   refine⟨_,rfl,?_⟩
   have ld:ov.heap.size≤fe.heap.size:=bo.size
   have ab:At [gs,gg] w fe:=dm.trans (bo.sub GY)
   have ae:=cw.chg bo (zB ·)
   have af:=dq.chg bo (zB ·)
   have ag:=cv.chg bo (zB ·)
   refine Aj<|A3<|gK [0,0] Z ?_
   by_cases dr:f2=((0:Nat):Int)
   ·refine Al true Z Z (A5 dr) Aa<|Ac 1 Z<|Ag Z<|Ab _ [0,4] Z<|Ak (p:=zP f1.heap.size) 0 Br Z Z Aa (Bm (k:=0) (w:=fe) HL Z Z ⟨rfl,rfl⟩ ag sM Aa fun oz bp n6 cx=>?_)
    replace cx:BX oz.heap f1.heap.size [zI ((7:Nat):Int),zI 0,zI 0,zI 0,zN]:=cx
    have le:fe.heap.size≤oz.heap.size:=bp.size
    have j4:At [gs,gg] w oz:=ab.fresh bp (fun _ h=>zE h)
    have j5:=ad.chg bp fun c hc=>zH<|A9 hc
    have j6:=ae.chg bp (zB ·)
    have j7:=af.chg bp (zB ·)
    exact Aj ⟨(((7:Nat):Int),o4),_,rfl,zR,⟨j4,j5,j6,j7,cx,oM,oM⟩⟩
   refine Al false Z Z (A6 dr) Aa<|Ac 1 Z<|Ai Z<|gK [0,0] Z ?_
   by_cases ds:f2=((1:Nat):Int)
   ·refine Al true Z Z (A5 ds) Aa<|Ac 1 Z<|Ag Z<|Ab _ [0,4] Z<|Ak (p:=zP f1.heap.size) 0 Br Z Z Aa (Bm (k:=0) (w:=fe) HL Z Z ⟨rfl,rfl⟩ ag sM Aa fun p0 bq n8 cy=>?_)
    replace cy:BX p0.heap f1.heap.size [zI ((9:Nat):Int),zI 0,zI 0,zI 0,zN]:=cy
    have lf:fe.heap.size≤p0.heap.size:=bq.size
    have j8:At [gs,gg] w p0:=ab.fresh bq (fun _ h=>zE h)
    have j9:=ad.chg bq fun c hc=>zH<|A9 hc
    have ja:=ae.chg bq (zB ·)
    have jb:=af.chg bq (zB ·)
    exact Aj ⟨(((9:Nat):Int),o4),_,rfl,zR,⟨j8,j9,ja,jb,cy,oM,oM⟩⟩
   refine Al false Z Z (A6 ds) Aa<|Ac 1 Z<|Ai Z<|gK [0,0] Z ?_
   by_cases dt:f2=((2:Nat):Int)
   ·refine Al true Z Z (A5 dt) Aa<|Ac 1 Z<|Ag Z<|Ab _ [0,4] Z<|Ak (p:=zP f1.heap.size) 0 Br Z Z Aa (Bm (k:=0) (w:=fe) HL Z Z ⟨rfl,rfl⟩ ag sM Aa fun p2 br n9 cz=>?_)
    replace cz:BX p2.heap f1.heap.size [zI ((8:Nat):Int),zI 0,zI 0,zI 0,zN]:=cz
    have lg:fe.heap.size≤p2.heap.size:=br.size
    have jc:At [gs,gg] w p2:=ab.fresh br (fun _ h=>zE h)
    have jd:=ad.chg br fun c hc=>zH<|A9 hc
    have je:=ae.chg br (zB ·)
    have jf:=af.chg br (zB ·)
    exact Aj ⟨(((8:Nat):Int),o4),_,rfl,zR,⟨jc,jd,je,jf,cz,oM,oM⟩⟩
   refine Al false Z Z (A6 dt) Aa<|Ac 1 Z<|Ai Z<|gK [0,0] Z ?_
   by_cases du:f2=((3:Nat):Int)
   ·refine Al true Z Z (A5 du) Aa<|Ac 1 Z<|Ag Z<|Ab _ [0,4] Z<|Ak (p:=zP f1.heap.size) 0 Br Z Z Aa (Bm (k:=0) (w:=fe) HL Z Z ⟨rfl,rfl⟩ ag sM Aa fun p4 bs na d0=>?_)
    replace d0:BX p4.heap f1.heap.size [zI ((6:Nat):Int),zI 0,zI 0,zI 0,zN]:=d0
    have lh:fe.heap.size≤p4.heap.size:=bs.size
    have jg:At [gs,gg] w p4:=ab.fresh bs (fun _ h=>zE h)
    have jh:=ad.chg bs fun c hc=>zH<|A9 hc
    have ji:=ae.chg bs (zB ·)
    have jj:=af.chg bs (zB ·)
    exact Aj ⟨(((6:Nat):Int),o4),_,rfl,zR,⟨jg,jh,ji,jj,d0,oM,oM⟩⟩
   refine Al false Z Z (A6 du) Aa<|Ac 1 Z<|Ai Z<|A0<|gK [0,0] Z ?_
   by_cases dv:f2=((4:Nat):Int)
   ·refine Al true Z Z (A5 dv) Aa<|Ac 1 Z<|Ag Z<|A2<|Ag Z<|Ab _ [0,4] Z<|Ak (p:=zP f1.heap.size) 0 Br Z Z Aa (Bm (k:=0) (w:=fe) HL Z Z ⟨rfl,rfl⟩ ag sM Aa fun p5 bt nb d1=>?_)
    replace d1:BX p5.heap f1.heap.size [zI ((3:Nat):Int),zI 0,zI 0,zI 0,zN]:=d1
    have li:fe.heap.size≤p5.heap.size:=bt.size
    have jk:At [gs,gg] w p5:=ab.fresh bt (fun _ h=>zE h)
    have jl:=ad.chg bt fun c hc=>zH<|A9 hc
    have jm:=ae.chg bt (zB ·)
    have jn:=af.chg bt (zB ·)
    exact Aj ⟨(((3:Nat):Int),o4),_,rfl,zR,⟨jk,jl,jm,jn,d1,oM,oM⟩⟩
   refine Al false Z Z (A6 dv) Aa<|Ac 1 Z<|Ai Z<|Ab _ [0,0] Z ?_
   by_cases dw:f2=((5:Nat):Int)
   ·refine Al true Z Z (A5 dw) Aa<|Ac 1 Z<|Ag Z<|Ab _ [0,4] Z<|Ak (p:=zP f1.heap.size) 0 Br Z Z Aa (Bm (k:=0) (w:=fe) HL Z Z ⟨rfl,rfl⟩ ag sM Aa fun p6 bu nc d2=>?_)
    replace d2:BX p6.heap f1.heap.size [zI ((3:Nat):Int),zI 0,zI 0,zI 0,zN]:=d2
    have lj:fe.heap.size≤p6.heap.size:=bu.size
    have jo:At [gs,gg] w p6:=ab.fresh bu (fun _ h=>zE h)
    have jp:=ad.chg bu fun c hc=>zH<|A9 hc
    have jq:=ae.chg bu (zB ·)
    have jr:=af.chg bu (zB ·)
    exact Aj ⟨(((3:Nat):Int),o4),_,rfl,zR,⟨jo,jp,jq,jr,d2,oM,oM⟩⟩
   refine Al false Z Z (A6 dw) Aa<|Ac 1 Z<|Ai Z<|gK [0,0] Z ?_
   by_cases dx:f2=((6:Nat):Int)
   ·refine Al true Z Z (A5 dx) Aa<|Ac 1 Z<|Ag Z<|Ab _ [0,4] Z<|Ak (p:=zP f1.heap.size) 0 Br Z Z Aa (Bm (k:=0) (w:=fe) HL Z Z ⟨rfl,rfl⟩ ag sM Aa fun p7 bv nd d3=>?_)
    replace d3:BX p7.heap f1.heap.size [zI ((4:Nat):Int),zI 0,zI 0,zI 0,zN]:=d3
    have lk:fe.heap.size≤p7.heap.size:=bv.size
    have js:At [gs,gg] w p7:=ab.fresh bv (fun _ h=>zE h)
    have jt:=ad.chg bv fun c hc=>zH<|A9 hc
    have ju:=ae.chg bv (zB ·)
    have jv:=af.chg bv (zB ·)
    exact Aj ⟨(((4:Nat):Int),o4),_,rfl,zR,⟨js,jt,ju,jv,d3,oM,oM⟩⟩
   refine Al false Z Z (A6 dx) Aa<|Ac 1 Z<|Ai Z<|A0<|gK [0,0] Z ?_
   by_cases dy:f2=((7:Nat):Int)
   ·refine Al true Z Z (A5 dy) Aa<|Ac 1 Z<|Ag Z<|A2<|Ag Z<|Ab _ [0,4] Z<|Ak (p:=zP f1.heap.size) 0 Br Z Z Aa (Bm (k:=0) (w:=fe) HL Z Z ⟨rfl,rfl⟩ ag sM Aa fun p8 bw ne d4=>?_)
    replace d4:BX p8.heap f1.heap.size [zI ((5:Nat):Int),zI 0,zI 0,zI 0,zN]:=d4
    have ll:fe.heap.size≤p8.heap.size:=bw.size
    have jw:At [gs,gg] w p8:=ab.fresh bw (fun _ h=>zE h)
    have jx:=ad.chg bw fun c hc=>zH<|A9 hc
    have jy:=ae.chg bw (zB ·)
    have jz:=af.chg bw (zB ·)
    exact Aj ⟨(((5:Nat):Int),o4),_,rfl,zR,⟨jw,jx,jy,jz,d4,oM,oM⟩⟩
   refine Al false Z Z (A6 dy) Aa<|Ac 1 Z<|Ai Z<|gK [0,0] Z ?_
   by_cases dz:f2=((8:Nat):Int)
   ·refine Al true Z Z (A5 dz) Aa<|Ac 1 Z<|Ag Z<|A2<|Ag Z<|Ab _ [0,4] Z<|Ak (p:=zP f1.heap.size) 0 Br Z Z Aa (Bm (k:=0) (w:=fe) HL Z Z ⟨rfl,rfl⟩ ag sM Aa fun p9 bx nf d5=>?_)
    replace d5:BX p9.heap f1.heap.size [zI ((5:Nat):Int),zI 0,zI 0,zI 0,zN]:=d5
    have lm:fe.heap.size≤p9.heap.size:=bx.size
    have k0:At [gs,gg] w p9:=ab.fresh bx (fun _ h=>zE h)
    have k1:=ad.chg bx fun c hc=>zH<|A9 hc
    have k3:=ae.chg bx (zB ·)
    have k4:=af.chg bx (zB ·)
    exact Aj ⟨(((5:Nat):Int),o4),_,rfl,zR,⟨k0,k1,k3,k4,d5,oM,oM⟩⟩
   refine Al false Z Z (A6 dz) Aa<|Ac 1 Z<|Ai Z<|Ab _ [0,0] Z ?_
   by_cases e0:f2=((9:Nat):Int)
   ·refine Al true Z Z (A5 e0) Aa<|Ac 1 Z<|Ag Z<|Ab _ [0,4] Z<|Ak (p:=zP f1.heap.size) 0 Br Z Z Aa (Bm (k:=0) (w:=fe) HL Z Z ⟨rfl,rfl⟩ ag sM Aa fun pa bz ng d6=>?_)
    replace d6:BX pa.heap f1.heap.size [zI ((5:Nat):Int),zI 0,zI 0,zI 0,zN]:=d6
    have ln:fe.heap.size≤pa.heap.size:=bz.size
    have k5:At [gs,gg] w pa:=ab.fresh bz (fun _ h=>zE h)
    have k6:=ad.chg bz fun c hc=>zH<|A9 hc
    have k7:=ae.chg bz (zB ·)
    have k8:=af.chg bz (zB ·)
    exact Aj ⟨(((5:Nat):Int),o4),_,rfl,zR,⟨k5,k6,k7,k8,d6,oM,oM⟩⟩
   refine Al false Z Z (A6 e0) Aa<|Ac 1 Z<|Ai Z<|gK [0,0,0,0,4,4] Z<|Ad 4 Z<|AD 134 [] [] [zP gg,zI vars,zI funcs,zI (d:Int)] Z Z cE Aa (IH2 oM _ gg gs sv cs o4 pp dp (l0-((1:Nat):Int)) pl p (vars) (funcs) oM ad ae (hp.chg (AS<|AN dp) ab) _hvars _hfuncs oM oM hpr oM oM oM) ?_
   rintro qd pb ⟨ow,fs,q0,q1,rfl,ch,k9,nh,ka,e1,kb,ni⟩
   refine⟨_,rfl,?_⟩
   have lp:fe.heap.size≤pb.heap.size:=ch.size
   have kc:At [gs,gg] w pb:=ab.trans ch
   have kd:=af.chg ch fun hm=>zH<|CX hm
   have ke:=ag.chg ch fun hm=>zH<|CX hm
   refine BE (vs:=[zI fs.kind,zI fs.num,zI fs.pick,zI fs.count,ow]) Bh Z Z (by intro u hu;simp only[ze,z2,or_false]at hu;rcases hu with rfl|rfl|rfl|rfl|rfl <;> first|exact⟨rfl,rfl⟩|exact Bg e1.isSlS) kd Z Z Aa fun pc b6 nj d7=>?_
   replace d7:BX pc.heap w.heap.size [zI fs.kind,zI fs.num,zI fs.pick,zI fs.count,ow]:=d7
   have lq:pb.heap.size≤pc.heap.size:=b6.size
   have kf:At [gs,gg] w pc:=kc.fresh b6 (fun _ h=>zE h)
   have kg:=k9.chg b6 fun c hc=>zH<|A9 hc
   have kh:=ka.chg b6 (zB ·)
   have nk:=ke.chg b6 (zB ·)
   have ki:=e1.chg (Au<|B3 127 d) b6 fun _ h=>zA h
   exact Aj<|A1<|AG<|Ao<|CQ (cs:=[zI fs.kind,zI fs.num,zI fs.pick,zI fs.count,ow]) Z Bh Z d7 Z ⟨ow,fs,q0,q1,rfl,kf,kg,⟨zO,zO⟩,kh,(ki.up<|Au<|B3 127 d).low (B':=w.heap.size) oM,kb,(by exact OU.up1 (by assumption))⟩
  clear l8 ml db ii l9 mm dc ik da id ie bn dg cd ce cf j0 b4 dj dk b1 b2 j2 b5 dl dm dn cw dq
  rintro⟨k,m1⟩ ρ30 op ⟨b7,ah,a2,a6,a1,hkk,nx⟩
  have e2:w.heap.size≤op.heap.size:=b7.size
  have nl:=a2.lt
  have nm:=a6.lt
  have nn:=a1.lt
  refine A0<|Ll (S:=Int) (fun(k2:Int)=>([(0,zP gg),(1,zI vars),(2,zI funcs),(3,zI (d:Int)),(8,zP w.heap.size),(9,zP f1.heap.size)])) (fun(k2:Int) (W:World)=>At [gs,gg] w W∧FG W.heap gs sv cs m1∧BX W.heap gg [zP gs,pp,zI (l0-((1:Nat):Int)),.bool pl]∧BX W.heap w.heap.size [zI 0,zI 0,zI 0,zI 0,zN]∧BX W.heap f1.heap.size [zI k2,zI 0,zI 0,zI 0,zN]∧(k2=3∨k2=4∨k2=5∨k2=6∨k2=7∨k2=8∨k2=9)∧(pl=true→k2≠6∧k2≠8)) ?_ ?_
  ·refine gK [0,0,0,2,0,0,2,0,0,0,2,0,0,0] Z<|Ad 1 Z<|AV Z Aa<|Ak (p:=zP gg) 3 Xu Z Z Aa<|Af (p:=An (zP gg) 3) (.inr Z) (.bool (true && pl)) fT Z (a2.ldp (i:=3) sM) Aa<|Ad 1 Z ?_
   cases no:(true && pl)
   ·exact Ac 9 Z<|Ai Z<|A2 ⟨k,_,rfl,zR,⟨b7,ah,a2,a6,a1,oM,Sd⟩⟩
   refine Ak (p:=zP f1.heap.size) 0 Br Z Z (Ae (e:=77) Z Z Z)<|Af (p:=An (zP f1.heap.size) 0) (.inr Z) (zI k) AC Z (a1.ldp (i:=0) sM) (Ae (e:=77) Z Z Z) ?_
   by_cases e3:k=((8:Nat):Int)
   ·refine Al true Z Z (A5 e3) (Ae (e:=77) Z Z Z)<|Ac 6 Z<|Ag Z<|Ab _ [0,4] Z<|Ak (p:=zP f1.heap.size) 0 Br Z Z Aa (Bm (k:=0) (w:=op) HL Z Z ⟨rfl,rfl⟩ a1 sM Aa fun pd c0 np d8=>?_)
    replace d8:BX pd.heap f1.heap.size [zI ((5:Nat):Int),zI 0,zI 0,zI 0,zN]:=d8
    have lr:op.heap.size≤pd.heap.size:=c0.size
    have kj:At [gs,gg] w pd:=b7.fresh c0 (fun _ h=>zE h)
    have e4:=ah.chg c0 fun c hc=>zH<|A9 hc
    have e5:=a2.chg c0 (zB ·)
    have e6:=a6.chg c0 (zB ·)
    exact Aj ⟨((5:Nat):Int),_,rfl,zR,⟨kj,e4,e5,e6,d8,oM,Sd⟩⟩
   refine Al false Z Z (A6 e3) (Ae (e:=77) Z Z Z)<|Ad 1 Z<|Ak (p:=zP f1.heap.size) 0 Br Z Z (Ae (e:=81) Z Z Z)<|Af (p:=An (zP f1.heap.size) 0) (.inr Z) (zI k) AC Z (a1.ldp (i:=0) sM) (Ae (e:=81) Z Z Z) ?_
   by_cases cj:k=((6:Nat):Int)
   ·refine Al true Z Z (A5 cj) (Ae (e:=81) Z Z Z)<|Ac 2 Z<|Ag Z<|Ab _ [0,4] Z<|Ak (p:=zP f1.heap.size) 0 Br Z Z Aa (Bm (k:=0) (w:=op) HL Z Z ⟨rfl,rfl⟩ a1 sM Aa fun o8 au ls c1=>?_)
    replace c1:BX o8.heap f1.heap.size [zI ((5:Nat):Int),zI 0,zI 0,zI 0,zN]:=c1
    have kk:op.heap.size≤o8.heap.size:=au.size
    have e8:At [gs,gg] w o8:=b7.fresh au (fun _ h=>zE h)
    have e9:=ah.chg au fun c hc=>zH<|A9 hc
    have ea:=a2.chg au (zB ·)
    have eb:=a6.chg au (zB ·)
    exact Aj ⟨((5:Nat):Int),_,rfl,zR,⟨e8,e9,ea,eb,c1,oM,Sd⟩⟩
   exact Al false Z Z (A6 cj) (Ae (e:=81) Z Z Z)<|Ac 2 Z<|Ai Z<|A2 ⟨k,_,rfl,zR,⟨b7,ah,a2,a6,a1,oM,Sd⟩⟩
  clear a1 a6 a2 ah b7 e2
  rintro k2 ρ96 on ⟨ec,c2,ay,az,b0,nq,nr⟩
  have lu:w.heap.size≤on.heap.size:=ec.size
  have lv:=ay.lt
  have lw:=az.lt
  have lx:=b0.lt
  refine A0<|gL Z<|A3 ?_
  have hknb:=f5 nq
  refine AU (S:=Nat×Int×Nat×Value×List Ex) (fun⟨i,l,m,vk,xs⟩=>([(10,zI (i:Int)),(0,zP gg),(1,zI vars),(2,zI funcs),(3,zI (d:Int)),(8,zP w.heap.size),(9,zP f1.heap.size)])) (fun⟨i,l,m,vk,xs⟩ W=>At [gs,gg] w W∧Fr (EM 5 (Nd 127 d) 127) on.heap.size W.heap.size W.heap vk xs∧FG W.heap gs sv cs m∧BX W.heap gg [zP gs,pp,zI l,.bool pl]∧BX W.heap w.heap.size [zI 0,zI 0,zI 0,zI 0,zN]∧BX W.heap f1.heap.size [zI k2,zI 0,zI 0,zI 0,vk]∧(i:Int)≤kn k2∧R7 p funcs vars pl k2 d (l0-1) l xs i∧(n0≤m∧m≤n0+8+Sl i (Im (d-1)))∧gg<on.heap.size∧w.heap.size<on.heap.size∧f1.heap.size<on.heap.size∧on.heap.size≤W.heap.size) (fun⟨i,l,m,vk,xs⟩=>(kn k2).toNat-i) (0,l0-((1:Nat):Int),m1,zN,([]:List Ex)) ⟨rfl,rfl,rfl,rfl,rfl,rfl,rfl,trivial⟩ ⟨ec,(Hz _ 0 _).up<|Au<|B3 127 d,c2,ay,az,b0,oM,(by exact R7.nil ..),(by exact⟨zO,by show _≤n0+8+0;omega⟩),oM,oM,oM,oM⟩ ?_
  clear b0 az ay c2
  rintro⟨i,l,m,vk,xs⟩ ρ114 f3 ⟨a7,a3,ac,a4,a5,a0,ny,hko,hmb,kl,km,ko,kp⟩
  have kq:w.heap.size≤f3.heap.size:=a7.size
  have ly:=a4.lt
  have lz:=a5.lt
  have m0:=a0.lt
  refine A0<|gK [0,0,2,0,0] Z<|Ad 1 Z<|Ak (p:=zP f1.heap.size) 0 Br Z Z Aa<|Af (p:=An (zP f1.heap.size) 0) (.inr Z) (zI k2) AC Z (a0.ldp (i:=0) sM) Aa<|AB 135 [] [] [zI k2] Z Z Yl Aa (zI<|kn k2) (fun wq=>gG wq _ oM) ?_
  by_cases ck:(i:Int)<kn k2
  ·refine AI true Z Z (A5 ck) Aa<|Aj<|Ag Z<|A2<|A0<|A3<|gK [0,0] Z<|Ac 2 Z<|A0<|gK [0,2,0,0,0,0,0] Z<|Ak (p:=zP f1.heap.size) 0 Br Z Z Aa<|Af (p:=An (zP f1.heap.size) 0) (.inr Z) (zI k2) AC Z (a0.ldp (i:=0) sM) Aa ?_
   by_cases cl:k2=((9:Nat):Int)
   ·refine Al true Z Z (A5 cl) Aa<|Ad 2 Z ?_
    by_cases cm:(i:Int)=((1:Nat):Int)
    ·refine Al true Z Z (A5 cm) (Ae (e:=99) Z Z Z)<|Ac 1 Z<|Ag Z<|Ab _ [0,0,0] Z<|Ad 1 Z ?_
     refine AQ (vars+((1:Nat):Int)) Z Z (CM sD sD) Aa<|Ac 1 Z ?_
     letI:JR:=SA [gs,gg]
     refine Jx.AM _ [0,1,0,0,0,0,0,3,3,4,0,4] mixed (by kernel_rfl) ?_
     have htn:=NH (k:=Im (d-1)) (i:=i+1) oM
     have hts:Sl (i+1) (Im (d-1))=Sl i (Im (d-1))+Im (d-1):=rfl
     have hti:=Ph (k:=Nh (d-1)) (i:=i) oM oM
     have hlo:=hko.lo
     have hln:=hko.len
     refine Jx.Ak (p:=zP f1.heap.size) 4 Bc Z Z Aa<|Jx.eO (p:=An (zP f1.heap.size) 4) vk Bf Z (fun wj hj=>(BX.chg (w:=f3.drew) (F:=[gs,gg]) a0 hj fun hm=>zH<|CX hm).ldp (i:=4) sM) Aa<|Jx.YM (zP gg) Z Aa<|Jx.YM (zI (vars+((1:Nat):Int))) Z Aa<|Jx.YM (zI funcs) Z Aa<|Jx.YM (zI (d:Int)) Z Aa<|Jx.j1<|Bk ((d-1:Nat):Int) Z Z (by rw[CM oM oM];omega) Aa<|Aj ?_
     refine Jx.Ap 75 [] [] [zP gg,zI (vars+((1:Nat):Int)),zI funcs,zI ((d-1:Nat):Int)] Z Z Sy Aa (IH1 (d-1) oM _ gg gs sv cs m pp dp l pl p (vars+((1:Nat):Int)) (funcs) oM ac a4 (hp.chg (AS<|AN dp) a7.drew) oM _hfuncs oM oM hpr oM oM oM) ?_
     rintro q2 o9 ⟨pe,fx,pf,pg,rfl,a8,ed,m2,ee,c3,ef,m3⟩
     refine⟨_,rfl,a8,?_⟩
     replace c3:=c3.low (B':=f3.heap.size)<|A7 _
     replace a8:=a8.of_drew
     have kr:f3.heap.size≤o9.heap.size:=a8.size
     have eg:At [gs,gg] w o9:=a7.trans a8
     have eh:=a3.chg (Au<|B3 127 d) a8 fun c hc=>zH<|CX hc
     have ei:=a5.chg a8 fun hm=>zH<|CX hm
     have ej:=a0.chg a8 fun hm=>zH<|CX hm
     refine Jx.VI Z (ES (cs:=[zI fx.kind,zI fx.num,zI fx.pick,zI fx.count,pe]) (y:=fx) (B:=f3.heap.size) (B3 127 d) CR Bj Z (by decide) Z (O6.mk1 oM ef c3) oM Aa fun ph oa ai m4 ek=>?_)
     have ks:o9.heap.size≤oa.heap.size:=ai.size
     have el:At [gs,gg] w oa:=eg.ext ai
     have b8:=eh.ext (Au<|B3 127 d) ai
     have b9:=ed.ext ai
     have ba:=ee.ext ai
     have bb:=ei.ext ai
     have bc:=ej.ext ai
     refine Jk (v:=vk) (a:=ph) (B3 127 d) CR Bj Z (by decide) Z Z b8 oM ek oM oM oM (by unfold maxLen;omega) Aa fun oq o5 q3 al av cn=>?_
     have kt:oa.heap.size≤o5.heap.size:=al.size
     have em:At [gs,gg] w o5:=el.fresh al (fun c hc=>zH<|av _ hc)
     have en:=b9.chg al fun c hc=>zH<|av _ hc
     have eo:=ba.chg al fun hm=>zH<|av _ hm
     have ep:=bb.chg al fun hm=>zH<|av _ hm
     have eq:=bc.chg al fun hm=>zH<|av _ hm
     refine Ak (p:=zP f1.heap.size) 4 Bc Z Z Aa (Bm (k:=4) (w:=o5) Sz Z Z (Bg cn.isSlS) eq sM Aa fun ob am m5 c4=>?_)
     replace c4:BX ob.heap f1.heap.size [zI k2,zI 0,zI 0,zI 0,oq]:=c4
     have ku:o5.heap.size≤ob.heap.size:=am.size
     have er:At [gs,gg] w ob:=em.fresh am (fun _ h=>zE h)
     have es:=en.chg am fun c hc=>zH<|A9 hc
     have et:=eo.chg am (zB ·)
     have eu:=ep.chg am (zB ·)
     have ev:=cn.chg (Au<|B3 127 d) am fun _ h=>zA h
     exact Aj<|Ab _ [0,0,0] Z<|Ad 1 Z<|AQ ((i+1:Nat):Int) Z Z (Bi oM oM) Aa<|Ac 1 Z ⟨(i+1,pg,pf,oq,xs++[fx]),_,rfl,zR,⟨er,ev.up<|Au<|B3 127 d,es,et,eu,c4,oM,Vi,oM,oM,oM,oM,oM⟩,zD⟩
    refine Al false Z Z (A6 cm) (Ae (e:=99) Z Z Z)<|Ac 1 Z<|Ai Z<|A2 ?_
    letI:JR:=SA [gs,gg]
    refine Jx.AM _ [0,1,0,0,0,0,0,3,3,4,0,4] mixed (by kernel_rfl) ?_
    have htn:=NH (k:=Im (d-1)) (i:=i+1) oM
    have hts:Sl (i+1) (Im (d-1))=Sl i (Im (d-1))+Im (d-1):=rfl
    have hti:=Ph (k:=Nh (d-1)) (i:=i) oM oM
    have hlo:=hko.lo
    have hln:=hko.len
    refine Jx.Ak (p:=zP f1.heap.size) 4 Bc Z Z Aa<|Jx.eO (p:=An (zP f1.heap.size) 4) vk Bf Z (fun wj hj=>(BX.chg (w:=f3.drew) (F:=[gs,gg]) a0 hj fun hm=>zH<|CX hm).ldp (i:=4) sM) Aa<|Jx.YM (zP gg) Z Aa<|Jx.YM (zI vars) Z Aa<|Jx.YM (zI funcs) Z Aa<|Jx.YM (zI (d:Int)) Z Aa<|Jx.j1<|Bk ((d-1:Nat):Int) Z Z (by rw[CM oM oM];omega) Aa<|Aj ?_
    refine Jx.Ap 75 [] [] [zP gg,zI vars,zI funcs,zI ((d-1:Nat):Int)] Z Z Sy Aa (IH1 (d-1) oM _ gg gs sv cs m pp dp l pl p (vars) (funcs) oM ac a4 (hp.chg (AS<|AN dp) a7.drew) _hvars _hfuncs oM oM hpr oM oM oM) ?_
    rintro q4 oc ⟨pi,nz,pj,pk,rfl,a9,ew,m6,ey,c5,ez,m7⟩
    refine⟨_,rfl,a9,?_⟩
    replace c5:=c5.low (B':=f3.heap.size)<|A7 _
    replace a9:=a9.of_drew
    have kv:f3.heap.size≤oc.heap.size:=a9.size
    have g0:At [gs,gg] w oc:=a7.trans a9
    have g1:=a3.chg (Au<|B3 127 d) a9 fun c hc=>zH<|CX hc
    have g2:=a5.chg a9 fun hm=>zH<|CX hm
    have g3:=a0.chg a9 fun hm=>zH<|CX hm
    refine Jx.VI Z (ES (cs:=[zI nz.kind,zI nz.num,zI nz.pick,zI nz.count,pi]) (y:=nz) (B:=f3.heap.size) (B3 127 d) CR Bj Z (by decide) Z (O6.mk1 oM ez c5) oM Aa fun pn od aj m8 g4=>?_)
    have kw:oc.heap.size≤od.heap.size:=aj.size
    have g5:At [gs,gg] w od:=g0.ext aj
    have bd:=g1.ext (Au<|B3 127 d) aj
    have be:=ew.ext aj
    have bf:=ey.ext aj
    have bg:=g2.ext aj
    have bh:=g3.ext aj
    refine Jk (v:=vk) (a:=pn) (B3 127 d) CR Bj Z (by decide) Z Z bd oM g4 oM oM oM (by unfold maxLen;omega) Aa fun os o6 q5 an aw co=>?_
    have kx:od.heap.size≤o6.heap.size:=an.size
    have g6:At [gs,gg] w o6:=g5.fresh an (fun c hc=>zH<|aw _ hc)
    have g7:=be.chg an fun c hc=>zH<|aw _ hc
    have g8:=bf.chg an fun hm=>zH<|aw _ hm
    have g9:=bg.chg an fun hm=>zH<|aw _ hm
    have ga:=bh.chg an fun hm=>zH<|aw _ hm
    refine Ak (p:=zP f1.heap.size) 4 Bc Z Z Aa (Bm (k:=4) (w:=o6) Sz Z Z (Bg co.isSlS) ga sM Aa fun oe ao m9 c6=>?_)
    replace c6:BX oe.heap f1.heap.size [zI k2,zI 0,zI 0,zI 0,os]:=c6
    have ky:o6.heap.size≤oe.heap.size:=ao.size
    have gb:At [gs,gg] w oe:=g6.fresh ao (fun _ h=>zE h)
    have gc:=g7.chg ao fun c hc=>zH<|A9 hc
    have gd:=g8.chg ao (zB ·)
    have ge:=g9.chg ao (zB ·)
    have gf:=co.chg (Au<|B3 127 d) ao fun _ h=>zA h
    exact Aj<|Ab _ [0,0,0] Z<|Ad 1 Z<|AQ ((i+1:Nat):Int) Z Z (Bi oM oM) Aa<|Ac 1 Z ⟨(i+1,pk,pj,os,xs++[nz]),_,rfl,zR,⟨gb,gf.up<|Au<|B3 127 d,gc,gd,ge,c6,oM,Vi,oM,oM,oM,oM,oM⟩,zD⟩
   refine Al false Z Z (A6 cl) Aa<|Ac 4 Z<|Ai Z<|A2 ?_
   letI:JR:=SA [gs,gg]
   refine Jx.AM _ [0,1,0,0,0,0,0,3,3,4,0,4] mixed (by kernel_rfl) ?_
   have htn:=NH (k:=Im (d-1)) (i:=i+1) oM
   have hts:Sl (i+1) (Im (d-1))=Sl i (Im (d-1))+Im (d-1):=rfl
   have hti:=Ph (k:=Nh (d-1)) (i:=i) oM oM
   have hlo:=hko.lo
   have hln:=hko.len
   refine Jx.Ak (p:=zP f1.heap.size) 4 Bc Z Z Aa<|Jx.eO (p:=An (zP f1.heap.size) 4) vk Bf Z (fun wj hj=>(BX.chg (w:=f3.drew) (F:=[gs,gg]) a0 hj fun hm=>zH<|CX hm).ldp (i:=4) sM) Aa<|Jx.YM (zP gg) Z Aa<|Jx.YM (zI vars) Z Aa<|Jx.YM (zI funcs) Z Aa<|Jx.YM (zI (d:Int)) Z Aa<|Jx.j1<|Bk ((d-1:Nat):Int) Z Z (by rw[CM oM oM];omega) Aa<|Aj ?_
   refine Jx.Ap 75 [] [] [zP gg,zI vars,zI funcs,zI ((d-1:Nat):Int)] Z Z Sy Aa (IH1 (d-1) oM _ gg gs sv cs m pp dp l pl p (vars) (funcs) oM ac a4 (hp.chg (AS<|AN dp) a7.drew) _hvars _hfuncs oM oM hpr oM oM oM) ?_
   rintro q6 og ⟨po,o0,pq,pr,rfl,aa,gh,ma,gi,c7,gj,mb⟩
   refine⟨_,rfl,aa,?_⟩
   replace c7:=c7.low (B':=f3.heap.size)<|A7 _
   replace aa:=aa.of_drew
   have kz:f3.heap.size≤og.heap.size:=aa.size
   have gk:At [gs,gg] w og:=a7.trans aa
   have gl:=a3.chg (Au<|B3 127 d) aa fun c hc=>zH<|CX hc
   have gm:=a5.chg aa fun hm=>zH<|CX hm
   have gn:=a0.chg aa fun hm=>zH<|CX hm
   refine Jx.VI Z (ES (cs:=[zI o0.kind,zI o0.num,zI o0.pick,zI o0.count,po]) (y:=o0) (B:=f3.heap.size) (B3 127 d) CR Bj Z (by decide) Z (O6.mk1 oM gj c7) oM Aa fun pt oh ak mc go=>?_)
   have l2:og.heap.size≤oh.heap.size:=ak.size
   have gp:At [gs,gg] w oh:=gk.ext ak
   have bi:=gl.ext (Au<|B3 127 d) ak
   have bj:=gh.ext ak
   have bk:=gi.ext ak
   have bl:=gm.ext ak
   have bm:=gn.ext ak
   refine Jk (v:=vk) (a:=pt) (B3 127 d) CR Bj Z (by decide) Z Z bi oM go oM oM oM (by unfold maxLen;omega) Aa fun ot o7 q7 ap ax cp=>?_
   have l3:oh.heap.size≤o7.heap.size:=ap.size
   have gq:At [gs,gg] w o7:=gp.fresh ap (fun c hc=>zH<|ax _ hc)
   have gr:=bj.chg ap fun c hc=>zH<|ax _ hc
   have gt:=bk.chg ap fun hm=>zH<|ax _ hm
   have gu:=bl.chg ap fun hm=>zH<|ax _ hm
   have gv:=bm.chg ap fun hm=>zH<|ax _ hm
   refine Ak (p:=zP f1.heap.size) 4 Bc Z Z Aa (Bm (k:=4) (w:=o7) Sz Z Z (Bg cp.isSlS) gv sM Aa fun oi aq md c8=>?_)
   replace c8:BX oi.heap f1.heap.size [zI k2,zI 0,zI 0,zI 0,ot]:=c8
   have l4:o7.heap.size≤oi.heap.size:=aq.size
   have gw:At [gs,gg] w oi:=gq.fresh aq (fun _ h=>zE h)
   have gx:=gr.chg aq fun c hc=>zH<|A9 hc
   have gy:=gt.chg aq (zB ·)
   have gz:=gu.chg aq (zB ·)
   have i0:=cp.chg (Au<|B3 127 d) aq fun _ h=>zA h
   exact Aj<|Ab _ [0,0,0] Z<|Ad 1 Z<|AQ ((i+1:Nat):Int) Z Z (Bi oM oM) Aa<|Ac 1 Z ⟨(i+1,pr,pq,ot,xs++[o0]),_,rfl,zR,⟨gw,i0.up<|Au<|B3 127 d,gx,gy,gz,c8,oM,Vi,oM,oM,oM,oM,oM⟩,zD⟩
  refine AI false Z Z (A6 ck) Aa<|Aj<|Ai Z<|A4<|AA<|AA<|Av<|gK [2,4] Z<|AK (p:=zP f1.heap.size) (.inr Z) [zI k2,zI 0,zI 0,zI 0,vk] Bh Z (fun qe ns=>LD.of_box<|BX.ext (w:=f3) a0 ns) Z Aa (BE (vs:=[zI k2,zI 0,zI 0,zI 0,vk]) Bh Z Z (by intro u hu;simp only[ze,z2,or_false]at hu;rcases hu with rfl|rfl|rfl|rfl|rfl <;> first|exact⟨rfl,rfl⟩|exact Bg a3.isSlS) a5 Z Z Aa fun oj ar me c9=>?_)
  replace c9:BX oj.heap w.heap.size [zI k2,zI 0,zI 0,zI 0,vk]:=c9
  have l5:f3.heap.size≤oj.heap.size:=ar.size
  have i1:At [gs,gg] w oj:=a7.fresh ar (fun _ h=>zE h)
  have i2:=a3.chg (Au<|B3 127 d) ar fun _ h=>zA h
  have i3:=ac.chg ar fun c hc=>zH<|A9 hc
  have i4:=a4.chg ar (zB ·)
  have mf:=a0.chg ar (zB ·)
  refine Aj<|A1 ?_
  have hln:=hko.len
  have htn:=NH (k:=Im (d-1)) (i:=i) oM
  exact CQ (cs:=[zI k2,zI 0,zI 0,zI 0,vk]) Z Bh Z c9 Z ⟨vk,.mk k2 0 0 0 xs,m,l,rfl,i1,i3,⟨zO,zO⟩,i4,(i2.up<|Au<|B3 127 d).low (B':=w.heap.size) oM,Mo oM oM oM oM,(by exact hko.node oM oM oM nr (Za oM oM))⟩
 refine Ag (by first|rfl|exact zW dh)<|gK [0,0,4,4] Z<|Ad 2 Z<|AD 133 [] [] [zP gg,zI vars] Z Z RM Aa (Dk _ gg gs sv cs px pp dp (l0-((1:Nat):Int)) pl p (vars) oM df ce (hp.chg (AS<|AN dp) cd) _hvars oM oM) ?_
 rintro q8 ol ⟨f4,pu,rfl,ca,i5,mg,i6,i7,d9,mh⟩
 refine⟨_,rfl,?_⟩
 have l6:f1.heap.size≤ol.heap.size:=ca.size
 have i8:At [gs,gg] w ol:=cd.trans ca
 have i9:=cf.chg ca fun hm=>zH<|CX hm
 refine BE (vs:=[zI f4.kind,zI f4.num,zI f4.pick,zI f4.count,zN]) Bh Z Z HV i9 Z Z Aa fun om b3 mi cb=>?_
 replace cb:BX om.heap w.heap.size [zI f4.kind,zI f4.num,zI f4.pick,zI f4.count,zN]:=cb
 have l7:ol.heap.size≤om.heap.size:=b3.size
 have ia:At [gs,gg] w om:=i8.fresh b3 (fun _ h=>zE h)
 have ib:=i5.chg b3 fun c hc=>zH<|A9 hc
 have ic:=i6.chg b3 (zB ·)
 exact Aj<|A1<|Ao<|CQ (cs:=[zI f4.kind,zI f4.num,zI f4.pick,zI f4.count,zN]) Z Bh Z cb Z ⟨zN,f4,pu,l0-((1:Nat):Int),rfl,ia,ib,⟨zO,zO⟩,ic,(by rw[d9];exact Hz _ _ _),i7,(by exact Q8.ok (by assumption) d)⟩
theorem ZP:∀d,GX d∧(1≤d→GC d):=by
  intro d
  induction d using Nat.strongRecOn with
  |_ d ih =>
    have hc:1≤d→GC d:=fun h1 w gg gs sv cs n0 pp dp l0 pl p vars funcs hgg hs hB0 hp hv' hf' hv hfu hpr hd hn hl=>JL w gg gs sv cs n0 pp dp l0 pl p vars funcs d hgg hs hB0 hp hv' hf' hv hfu hpr hd hn hl (ih (d-1) zO).1
    exact⟨fun w gg gs sv cs n0 pp dp l0 pl p vars funcs hgg hs hB0 hp hv' hf' hv hfu hpr hd hn hl=>JM w gg gs sv cs n0 pp dp l0 pl p vars funcs d hgg hs hB0 hp hv' hf' hv hfu hpr hd hn hl (fun d' h=>(ih d' h).1) hc,hc⟩
theorem Vj (d:Nat):GX d:=(ZP d).1
theorem Gu (w:World)(g:Nat)(sv:Value)(cs:List UInt8)(n0:Nat)(vl:Value)(us:List Value)(hs:FG w.heap g sv cs n0)(a7:n0+2≤1000000000000)(hl:∀w',At [g] w w'→Rd (B4 rV) w'.heap vl us)(hus:∀u∈us,∃s,u=Value.string s)(hul:1≤us.length∧us.length≤1000)  :
  Calls Tryz.prog 74 #[zP g,vl] w (fun e w'=>∃(x0:ByteArray) (n1:Nat),e=.returned (.string x0)∧At [g] w w'∧FG w'.heap g sv cs n1∧(n0≤n1∧n1≤n0+2)∧(Value.string x0∈us)):=by
 refine Aq [zP g,vl] 12 Tryz.func74 Z Z sM ?_
 have a1:At [g] w w:=At.refl [g] w
 have aa:=(hl _ a1).lenle
 have ab:=hs.lt
 refine gL Z<|gK [0,0,0,0,4,0,2,0] Z<|Ad 3 Z<|AR (v:=vl) Xp Z (hl _ a1).isSl Aa<|AD 72 [] [] [zP g,zI (us.length:Int)] Z Z I5 Aa (B8 _ g _ _ _ (us.length:Int) hs oM oM oM) ?_
 rintro e1 w1 ⟨a9,n1,rfl,a3,a5,a8,a4⟩
 refine⟨_,rfl,?_⟩
 have a6:w.heap.size≤w1.heap.size:=a3.size
 have a2:At [g] w w1:=a1.trans a3
 refine Aw (v:=vl) ((a9).toNat) Xp fV Z Z (hl _ a2).isSl oM sD Aa ?_
 obtain⟨sx2,a0⟩:=hus (us.getD ((a9).toNat) undef) (Tt sD)
 refine Af (p:=Ay vl ((a9).toNat) 1) (.inr Z) (.string sx2) Qn Z (by rw[← a0];exact(Rd.getV (hl _ a2) sD).1) Aa ?_
 have hsm:Value.string sx2∈us:=a0 ▸ Tt sD
 exact Ac 1 Z<|A1<|Ah [4] Z (.string sx2) Z ⟨sx2,n1,rfl,a2,a5,⟨zO,zO⟩,hsm⟩
theorem N6 (w:World)(n:Int)(_hn:Bn n)(hk:0≤n∧n<10) :
  Calls Tryz.prog 131 #[zI n] w (fun e w'=>∃s,e=.returned (.string s)∧AH w w'∧s=JX n.toNat):=by
 refine Aq [zI n] 20 Tryz.func131 Z Z sM ?_
 have a2:AH w w:=AH.refl w
 refine gL Z<|A0<|gK [0,0] Z<|Ad 1 Z ?_
 by_cases a0:n<((10:Nat):Int)
 ·refine AI true Z Z (A5 a0) Aa<|Aj<|Ag Z<|gK [0,0,0,3,2,0] Z<|Ad 1 Z ?_
  refine AQ (((48:Nat):Int)+n) Z Z (CM sD sD) Aa<|KO (IntKind.u8.wrap (((48:Nat):Int)+n)) u2 u5 Z Z Aa ?_
  refine BA (u:=.int .u8<|IntKind.u8.wrap (((48:Nat):Int)+n)) (B:=w.heap.size) Bv UQ gS Z Z (Md (w.heap.size) (w.heap.size) _ ⟨rfl,rfl⟩) (A7 _) Aa fun v2 w2 a1 a6 a3=>?_
  have a4:=a1.size
  have a5:=a2.trans a1
  exact VL UQ u5 u9 Z a3 Aa<|Ac 1 Z<|A1<|Ao<|Ah [2] Z (.string (⟨#[UInt8.ofNat (IntKind.u8.wrap (((48:Nat):Int)+n)).toNat]⟩:ByteArray)) Z ⟨(⟨#[UInt8.ofNat (IntKind.u8.wrap (((48:Nat):Int)+n)).toNat]⟩:ByteArray),rfl,a5,(by exact Zd hk.1 hk.2)⟩
 exact absurd hk.2 a0
theorem N7 (w:World)(g:Nat)(sv:Value)(cs:List UInt8)(n0:Nat)(funcs:Int)(nodes:Int)(plain:Bool)(hs:FG w.heap g sv cs n0)(j0:n0+(150000*funcs.toNat)≤1000000000000)(_hfuncs:Bn funcs)(_hnodes:Bn nodes)(hfn:0≤funcs∧funcs≤9)(hnd:1≤nodes∧nodes≤30) :
  Calls Tryz.prog 71 #[zP g,zI funcs,zI nodes,.bool plain] w (fun e w'=>∃(v:Value) (p:List Fn) (n1:Nat),e=.returned (.agg #[v])∧At [g] w w'∧FG w'.heap g sv cs n1∧(n0≤n1∧n1≤n0+(150000*funcs.toNat))∧Fr (EM 3 (SB 127 6) 33) w.heap.size w'.heap.size w'.heap v p∧Mp p plain∧Dn p∧(p.length:Int)=funcs):=by
 refine Aq [zP g,zI funcs,zI nodes,.bool plain] 65 Tryz.func71 Z Z sM ?_
 have ga:At [g] w w:=At.refl [g] w
 have jy:=hs.lt
 have j1:=f6
 have j2:=f7
 refine gK [3] Z (Bs (z:=.agg #[zN]) UR Aa fun w1 dr i1 ds=>?_)
 have dt:w.heap.size≤w1.heap.size:=dr.size
 have gb:At [g] w w1:=ga.ext dr
 have du:=hs.ext dr
 replace ds:BX w1.heap w.heap.size [zN]:=ds
 refine Aj<|gK [0,3,4] Z ?_
 have dv:∀(wq:World),(Instr.build 26 #[]).run Tryz.prog wq=.ok (.agg #[zN]) wq:=by intro wq;kernel_rfl
 refine BQ (ps:=#[]) (.agg #[zN]) (by simp only[zc,zf,zh]) (fun wq=>dv  wq) Aa ?_
 have j3:=ds.lt
 refine Bs (z:=.agg #[zN]) UR Aa fun w3 cb i2 dw=>?_
 have dx:w1.heap.size≤w3.heap.size:=cb.size
 have gc:At [g] w w3:=gb.ext cb
 have dy:=du.ext cb
 have cc:=ds.ext cb
 replace dw:BX w3.heap w1.heap.size [zN]:=dw
 refine BE (vs:=[zN]) Cf Z Z (by intro u hu;simp only[ze,z2,or_false]at hu;rcases hu with rfl <;> first|exact⟨rfl,rfl⟩) dw Z Z Aa fun w5 cd i3 dz=>?_
 replace dz:BX w5.heap w1.heap.size [zN]:=dz
 have i4:w3.heap.size≤w5.heap.size:=cd.size
 have i5:At [g] w w5:=gc.fresh cd (fun _ h=>zE h)
 have gd:=dy.chg cd fun c hc=>zH<|A9 hc
 have ge:=cc.chg cd (zB ·)
 refine Aj<|A0<|gL Z<|A3 ?_
 refine AU (S:=Nat×Value×List Fn×Nat) (fun⟨k,vp,ps,m⟩=>([(10,zI (k:Int)),(0,zP g),(1,zI funcs),(2,zI nodes),(3,.bool plain),(8,zP w.heap.size),(9,zP w1.heap.size)])) (fun⟨k,vp,ps,m⟩ W=>At [g] w W∧Fr (EM 3 (SB 127 6) 33) w5.heap.size W.heap.size W.heap vp ps∧FG W.heap g sv cs m∧BX W.heap w.heap.size [zN]∧BX W.heap w1.heap.size [vp]∧(k:Int)≤funcs∧Mp ps plain∧Dn ps∧ps.length=k∧(n0≤m∧m≤n0+150000*k)∧(g<w5.heap.size∧w.heap.size≤w5.heap.size)∧w.heap.size<w5.heap.size∧w1.heap.size<w5.heap.size∧w5.heap.size≤W.heap.size) (fun⟨k,vp,ps,m⟩=>funcs.toNat-k) (0,zN,([]:List Fn),n0) ⟨rfl,rfl,rfl,rfl,rfl,rfl,rfl,trivial⟩ ⟨i5,(Hz _ 0 _).up<|Au<|AW 127 6,gd,ge,dz,oM,(by exact Mp.nil _),Dn.nil,(by rfl),oM,oM,oM,oM,oM⟩ ?_
 clear ga i1 dr dt gb i2 cb dx gc i3 cd gd ge
 rintro⟨k,vp,ps,m⟩ ρ10 fe ⟨bx,ab,an,ac,a1,hkf,ja,hdn,hpk,hmk,hgb,i6,i7,gf⟩
 have gg:w.heap.size≤fe.heap.size:=bx.size
 have i8:=ac.lt
 have i9:=a1.lt
 refine A0<|gK [0,0,0] Z<|Ad 2 Z ?_
 by_cases ce:(k:Int)<funcs
 ·refine AI true Z Z (A5 ce) Aa<|Aj<|Ag Z<|A2<|A0<|A3<|gK [0,3,4,0,3,0,0,4,0,0,3,4] Z<|Ad 1 Z (Tw (ys:=[.string<|⟨#[102]⟩,.string<|⟨#[103]⟩,.string<|⟨#[115,116,101,112]⟩,.string<|⟨#[104,50]⟩]) Bv Xp fV Z Z Z Z Z Z (XM ⟨rfl,rfl⟩ ⟨rfl,rfl⟩ ⟨rfl,rfl⟩ ⟨rfl,rfl⟩) Aa fun jo jg ao e0 bz=>?_)
  have cf:fe.heap.size≤jg.heap.size:=ao.size
  have cg:At [g] w jg:=bx.ext ao
  have a5:=ab.ext (Au<|AW 127 6) ao
  have a6:=an.ext ao
  have a7:=ac.ext ao
  have a8:=a1.ext ao
  refine AD 74 [] [] [zP g,jo] Z Z bP Aa (Gu _ g _ _ _ jo _ a6 oM (fun w9 h9=>(bz.chg oV h9 fun c hc=>zH<|A9 hc).rdV1) (by intro u hu;simp only[ze,z2,or_false]at hu;rcases hu with rfl|rfl|rfl|rfl <;> exact⟨_,rfl⟩) sM) ?_
  rintro jz jh ⟨f2,k0,rfl,ap,e1,ia,c0⟩
  refine⟨_,rfl,?_⟩
  have ch:jg.heap.size≤jh.heap.size:=ap.size
  have ci:At [g] w jh:=cg.trans ap
  have cj:=a5.chg (Au<|AW 127 6) ap fun _ h=>zA h
  have ck:=a7.chg ap (zB ·)
  have cl:=a8.chg ap (zB ·)
  have cm:=bz.chg (oV) ap fun _ h=>zA h
  have hfo:=Tx c0
  refine Ad 1 Z<|Ap 131 [] [] [zI (k:Int)] Z Z cD Aa (N6 _ (k:Int) oM oM) ?_
  rintro k1 ji ⟨st21,rfl,ad,rfl⟩
  refine⟨_,rfl,ad,?_⟩
  have cn:jh.heap.size≤ji.heap.size:=ad.size
  have co:At [g] w ji:=ci.ext ad
  have az:=cj.ext (Au<|AW 127 6) ad
  have bo:=e1.ext ad
  have b0:=ck.ext ad
  have b1:=cl.ext ad
  have b2:=cm.ext (oV) ad
  refine YU (a:=f2) (b:=JX k) Z Z (by have:=Sm _ hfo;have:=Tv k;omega) Aa<|Ad 1 Z<|AD 72 [] [] [zP g,zI ((3:Nat):Int)] Z Z I5 Aa (B8 _ g _ _ _ ((3:Nat):Int) bo oM oM sD) ?_
  rintro k2 f3 ⟨f1,k3,rfl,aq,e2,ib,e3⟩
  refine⟨_,rfl,?_⟩
  have cp:ji.heap.size≤f3.heap.size:=aq.size
  have cq:At [g] w f3:=co.trans aq
  have cr:=az.chg (Au<|AW 127 6) aq fun _ h=>zA h
  have c1:=b0.chg aq (zB ·)
  have c2:=b1.chg aq (zB ·)
  have ct:=b2.chg (oV) aq fun _ h=>zA h
  refine AQ (((1:Nat):Int)+f1) Z Z (CM sD sD) Aa ?_
  have cu:∀(wq:World),(Instr.build 33 #[(0,.string (f2++JX k)),(1,zI (((1:Nat):Int)+f1))]).run Tryz.prog wq=.ok (.agg #[.string (f2++JX k),zI (((1:Nat):Int)+f1),zN]) wq:=by intro wq;kernel_rfl
  refine BQ (ps:=#[(0,.string (f2++JX k)),(1,zI (((1:Nat):Int)+f1))]) (.agg #[.string (f2++JX k),zI (((1:Nat):Int)+f1),zN]) (by simp only[zc,zf,zh];rfl) (fun wq=>cu  wq) Aa ?_
  have ic:=c1.lt
  have id:=c2.lt
  refine Bs (z:=.agg #[.string ByteArray.empty,zI 0,zN]) Xr Aa fun jb ag e4 c3=>?_
  have cv:f3.heap.size≤jb.heap.size:=ag.size
  have cw:At [g] w jb:=cq.ext ag
  have b3:=cr.ext (Au<|AW 127 6) ag
  have bp:=e2.ext ag
  have b4:=c1.ext ag
  have b5:=c2.ext ag
  have b6:=ct.ext (oV) ag
  replace c3:BX jb.heap f3.heap.size [.string ByteArray.empty,zI 0,zN]:=c3
  refine BE (vs:=[.string (f2++JX k),zI (((1:Nat):Int)+f1),zN]) KD Z Z (by intro u hu;simp only[ze,z2,or_false]at hu;rcases hu with rfl|rfl|rfl <;> first|exact⟨rfl,rfl⟩) c3 Z Z Aa fun jc ah e5 c4=>?_
  replace c4:BX jc.heap f3.heap.size [.string (f2++JX k),zI (((1:Nat):Int)+f1),zN]:=c4
  have cx:jb.heap.size≤jc.heap.size:=ah.size
  have cy:At [g] w jc:=cw.fresh ah (fun _ h=>zE h)
  have cz:=b3.chg (Au<|AW 127 6) ah fun _ h=>zA h
  have d0:=bp.chg ah fun c hc=>zH<|A9 hc
  have d1:=b4.chg ah (zB ·)
  have d2:=b5.chg ah (zB ·)
  have d3:=b6.chg (oV) ah fun _ h=>zA h
  refine Aj<|gK [0,4,0,0] Z<|Ad 1 Z<|AD 72 [] [] [zP g,zI ((3:Nat):Int)] Z Z I5 Aa (B8 _ g _ _ _ ((3:Nat):Int) d0 oM oM sD) ?_
  rintro k4 jd ⟨fr,k5,rfl,ai,e6,ie,e7⟩
  refine⟨_,rfl,?_⟩
  have d4:jc.heap.size≤jd.heap.size:=ai.size
  have d5:At [g] w jd:=cy.trans ai
  have d6:=cz.chg (Au<|AW 127 6) ai fun _ h=>zA h
  have d7:=d1.chg ai (zB ·)
  have d8:=d2.chg ai (zB ·)
  have d9:=d3.chg (oV) ai fun _ h=>zA h
  have da:=c4.chg ai (zB ·)
  refine AQ (((1:Nat):Int)+fr) Z Z (CM sD sD) Aa<|Ac 1 Z ?_
  refine A0<|Ll (S:=Int×Nat) (fun⟨o,m1⟩=>([(12,zI o),(0,zP g),(1,zI funcs),(2,zI nodes),(3,.bool plain),(8,zP w.heap.size),(9,zP w1.heap.size),(10,zI (k:Int)),(11,zP f3.heap.size)])) (fun⟨o,m1⟩ W=>At [g] w W∧Fr (EM 3 (SB 127 6) 33) w5.heap.size fe.heap.size W.heap vp ps∧FG W.heap g sv cs m1∧BX W.heap w.heap.size [zN]∧BX W.heap w1.heap.size [vp]∧BX W.heap f3.heap.size [.string (f2++JX k),zI (((1:Nat):Int)+f1),zN]∧(1≤o∧o≤3)∧(n0≤m1∧m1≤n0+150000*k+8)∧fe.heap.size≤jd.heap.size∧(g<w5.heap.size∧w.heap.size≤w5.heap.size)∧fe.heap.size≤f3.heap.size∧w5.heap.size≤W.heap.size) ?_ ?_
  ·refine gK [0,4] Z<|Ad 1 Z<|AD 73 [] [] [zP g,zI ((2:Nat):Int)] Z Z Sx Aa (Cu _ g _ _ _ ((2:Nat):Int) e6 oM oM sD) ?_
   rintro k6 jp ⟨j9,jq,rfl,ar,db,ig,e8⟩
   refine⟨_,rfl,?_⟩
   have gh:jd.heap.size≤jp.heap.size:=ar.size
   have dc:At [g] w jp:=d5.trans ar
   have dd:=d6.chg (Au<|AW 127 6) ar fun _ h=>zA h
   have de:=d7.chg ar (zB ·)
   have df:=d8.chg ar (zB ·)
   have ih:=d9.chg (oV) ar fun _ h=>zA h
   have c5:=da.chg ar (zB ·)
   refine Aj ?_
   cases dg:j9
   ·exact Ai (by first|rfl|exact zW dg)<|A2 ⟨(((1:Nat):Int)+fr,jq),_,rfl,zR,⟨dc,dd,db,de,df,c5,oM,oM,oM,oM,oM,oM⟩⟩
   exact Ag (by first|rfl|exact zW dg)<|Ab _ [0,2,0] Z<|Ak (p:=zP f3.heap.size) 1 C9 Z Z Aa<|Af (p:=An (zP f3.heap.size) 1) (.inr Z) (zI (((1:Nat):Int)+f1)) AC Z (c5.ldp (i:=1) sM) Aa<|Ac 1 Z ⟨(((1:Nat):Int)+f1,jq),_,rfl,zR,⟨dc,dd,db,de,df,c5,oM,oM,oM,oM,oM,oM⟩⟩
  clear a1 ac an ab bz e0 ao cf cg a5 a6 a7 a8 ap ch ci cj ck cl cm ad cn co az b0 b1 b2 aq cp cq cr c1 c2 ct e4 ag cv cw b3 b4 b5 b6 e5 ah cx cy cz d0 d1 d2 d3 ai d4 d5 d6 d7 d8 d9 da
  rintro⟨o,m1⟩ ρ43 fs ⟨dh,bh,bi,au,av,aw,j4,j5,huw,hgb,huf,gi⟩
  have gj:w.heap.size≤fs.heap.size:=dh.size
  have ii:=au.lt
  have ij:=av.lt
  have ik:=aw.lt
  refine A0<|gL Z<|A3 ?_
  refine AU (S:=Nat×Value×List Ex×Nat) (fun⟨i,vo,xs,m2⟩=>([(13,zI (i:Int)),(0,zP g),(1,zI funcs),(2,zI nodes),(3,.bool plain),(8,zP w.heap.size),(9,zP w1.heap.size),(10,zI (k:Int)),(11,zP f3.heap.size),(12,zI o)])) (fun⟨i,vo,xs,m2⟩ W=>At [g] w W∧Fr (EM 5 (Nd 127 6) 127) fs.heap.size W.heap.size W.heap vo xs∧Fr (EM 3 (SB 127 6) 33) w5.heap.size fe.heap.size W.heap vp ps∧FG W.heap g sv cs m2∧BX W.heap w.heap.size [zN]∧BX W.heap w1.heap.size [vp]∧BX W.heap f3.heap.size [.string (f2++JX k),zI (((1:Nat):Int)+f1),vo]∧(i:Int)≤o∧PQ ps (((1:Nat):Int)+f1) plain xs i∧(n0≤m2∧m2≤n0+150000*k+8+47770*i)∧fe.heap.size≤fs.heap.size∧(g<w5.heap.size∧w.heap.size≤w5.heap.size)∧fe.heap.size≤f3.heap.size∧w.heap.size<fs.heap.size∧w1.heap.size<fs.heap.size∧f3.heap.size<fs.heap.size∧fs.heap.size≤W.heap.size∧w5.heap.size≤W.heap.size) (fun⟨i,vo,xs,m2⟩=>o.toNat-i) (0,zN,([]:List Ex),m1) ⟨rfl,rfl,rfl,rfl,rfl,rfl,rfl,rfl,rfl,rfl,trivial⟩ ⟨dh,(Hz _ 0 _).up<|Au<|B3 127 6,bh,bi,au,av,aw,oM,(by exact PQ.nil _ _ _),oM,oM,oM,oM,oM,oM,oM,oM,oM⟩ ?_
  clear aw av au bi bh
  rintro⟨i,vo,xs,m2⟩ ρ58 f4 ⟨c6,bj,bk,bl,ae,a2,a3,hio,hff,j6,huw,hgb,huf,gk,gl,gm,gn,go⟩
  have gp:w.heap.size≤f4.heap.size:=c6.size
  have il:=ae.lt
  have im:=a2.lt
  have io:=a3.lt
  refine A0<|gK [0,0,0] Z<|Ad 2 Z ?_
  by_cases di:(i:Int)<o
  ·refine AI true Z Z (A5 di) Aa<|Aj<|Ag Z<|A2<|A0<|A3<|gK [0,0,0,0,3,0] Z<|Ad 3 Z ?_
   have dj:∀(wq:World),(Instr.build 125 #[(0,zP g),(1,zP w1.heap.size),(2,zI nodes),(3,.bool plain)]).run Tryz.prog wq=.ok (.agg #[zP g,zP w1.heap.size,zI nodes,.bool plain]) wq:=by intro wq;kernel_rfl
   refine BQ (ps:=#[(0,zP g),(1,zP w1.heap.size),(2,zI nodes),(3,.bool plain)]) (.agg #[zP g,zP w1.heap.size,zI nodes,.bool plain]) (by simp only[zc,zf,zh];rfl) (fun wq=>dj  wq) Aa ?_
   have ip:=ae.lt
   have iq:=a2.lt
   have ir:=a3.lt
   refine By (cs:=#[zP g,zP w1.heap.size,zI nodes,.bool plain]) Z Aa fun fx aj is c7=>?_
   have gq:f4.heap.size≤fx.heap.size:=aj.size
   have e9:At [g] w fx:=c6.ext aj
   have b7:=bj.ext (Au<|B3 127 6) aj
   have a9:=bk.ext (Au<|AW 127 6) aj
   have b8:=bl.ext aj
   have b9:=ae.ext aj
   have aa:=a2.ext aj
   have a0:=a3.ext aj
   replace c7:BX fx.heap f4.heap.size [zP g,zP w1.heap.size,zI nodes,.bool plain]:=c7
   refine Ac 1 Z ?_
   letI:JR:=SA [g,f4.heap.size]
   refine Jx.AM _ [0,1,0,0,1,0,3,3,4,0,4] mixed (by kernel_rfl)<|Jx.Ak (p:=zP f3.heap.size) 2 BU Z Z Aa<|Jx.eO (p:=An (zP f3.heap.size) 2) vo Bf Z (fun wj hj=>(BX.chg (w:=fx.drew) (F:=[g,f4.heap.size]) a0 hj fun hm=>zH<|CX hm).ldp (i:=2) sM) Aa<|Jx.YM (zP f4.heap.size) Z Aa<|Jx.Ak (p:=zP f3.heap.size) 1 C9 Z Z Aa ?_
   refine Jx.eO (p:=An (zP f3.heap.size) 1) (zI (((1:Nat):Int)+f1)) AC Z (fun wj hj=>(BX.chg (w:=fx.drew) (F:=[g,f4.heap.size]) a0 hj fun hm=>zH<|CX hm).ldp (i:=1) sM) Aa<|Jx.YM (zI (k:Int)) Z Aa ?_
   refine Jx.Ap 75 [] [] [zP f4.heap.size,zI (((1:Nat):Int)+f1),zI (k:Int),zI ((5:Nat):Int)] Z Z Sy Aa (Vj 5 _ f4.heap.size g sv cs m2 (zP w1.heap.size) 6 nodes plain ps (((1:Nat):Int)+f1) (k:Int) oM b8 c7 (RN.box aa (RP.mk'<|RN.of_frF2 a9 fun b hb=>zH<|CX hb) fun hb=>zH<|CX hb) oM oM oM oM ja.gpr oM oM oM) ?_
   rintro k7 jj ⟨jt,j8,ju,k8,rfl,a4,ea,it,eb,c8,ec,iu⟩
   refine⟨_,rfl,a4,?_⟩
   replace c8:=c8.low (B':=fx.heap.size)<|A7 _
   replace a4:=a4.of_drew
   have gr:fx.heap.size≤jj.heap.size:=a4.size
   have ed:At [g] w jj:=e9.new2 a4 (List.mem_singleton.2 Z) oM
   have ee:=b7.chg (Au<|B3 127 6) a4 fun c hc=>zH<|CX hc
   have ef:=a9.chg (Au<|AW 127 6) a4 fun c hc=>zH<|CX hc
   have eg:=b9.chg a4 fun hm=>zH<|CX hm
   have eh:=aa.chg a4 fun hm=>zH<|CX hm
   have ei:=a0.chg a4 fun hm=>zH<|CX hm
   refine Jx.VI Z (ES (cs:=[zI j8.kind,zI j8.num,zI j8.pick,zI j8.count,jt]) (y:=j8) (B:=fx.heap.size) (B3 127 6) CR Bj Z (by decide) Z (O6.mk1 (d:=6) oM ec c8) oM Aa fun jv jk af iv ej=>?_)
   have gs:jj.heap.size≤jk.heap.size:=af.size
   have ek:At [g] w jk:=ed.ext af
   have bq:=ee.ext (Au<|B3 127 6) af
   have br:=ef.ext (Au<|AW 127 6) af
   have bs:=ea.ext af
   have bt:=eg.ext af
   have bu:=eh.ext af
   have bv:=ei.ext af
   have bw:=eb.ext af
   refine Jk (v:=vo) (a:=jv) (B3 127 6) CR Bj Z (by decide) Z Z bq oM ej oM oM (zH<|hff.len) (by have:=hff.len;unfold maxLen;omega) Aa fun jr je k9 ak ax dk=>?_
   have gt:jk.heap.size≤je.heap.size:=ak.size
   have el:At [g] w je:=ek.fresh ak (fun c hc=>zH<|ax _ hc)
   have em:=br.chg (Au<|AW 127 6) ak fun c hc=>zH<|ax _ hc
   have en:=bs.chg ak fun c hc=>zH<|ax _ hc
   have eo:=bt.chg ak fun hm=>zH<|ax _ hm
   have ep:=bu.chg ak fun hm=>zH<|ax _ hm
   have eq:=bv.chg ak fun hm=>zH<|ax _ hm
   have er:=bw.chg ak fun hm=>zH<|ax _ hm
   refine Ak (p:=zP f3.heap.size) 2 BU Z Z Aa (Bm (k:=2) (w:=je) Sz Z Z (Bg dk.isSlS) eq sM Aa fun jl al iw c9=>?_)
   replace c9:BX jl.heap f3.heap.size [.string (f2++JX k),zI (((1:Nat):Int)+f1),jr]:=c9
   have gu:je.heap.size≤jl.heap.size:=al.size
   have es:At [g] w jl:=el.fresh al (fun _ h=>zE h)
   have et:=em.chg (Au<|AW 127 6) al fun _ h=>zA h
   have eu:=en.chg al fun c hc=>zH<|A9 hc
   have ev:=eo.chg al (zB ·)
   have ew:=ep.chg al (zB ·)
   have ix:=er.chg al (zB ·)
   have ex:=dk.chg (Au<|B3 127 6) al fun _ h=>zA h
   exact Aj<|Ab _ [0,0,0] Z<|Ad 1 Z<|AQ ((i+1:Nat):Int) Z Z (Bi oM oM) Aa<|Ac 1 Z ⟨(i+1,jr,xs++[j8],ju),_,rfl,zR,⟨es,ex.up<|Au<|B3 127 6,et,eu,ev,ew,c9,oM,(by exact hff.snoc (funcs:=(k:Int)) (d:=5) (l0:=nodes) oM oM oM (by assumption)),oM,oM,oM,oM,oM,oM,oM,oM,oM⟩,zD⟩
  refine AI false Z Z (A6 di) Aa<|Aj<|Ai Z<|A4<|AA<|AA<|Av<|Ab _ [0,2,2,3,4,0,4] Z<|Ak (p:=zP w1.heap.size) 0 BB Z Z Aa<|Af (p:=An (zP w1.heap.size) 0) (.inr Z) vp C4 Z (a2.ldp (i:=0) sM) Aa<|AK (p:=zP f3.heap.size) (.inr Z) [.string (f2++JX k),zI (((1:Nat):Int)+f1),vo] KD Z (fun jw ey=>LD.of_box<|BX.ext (w:=f4) a3 ey) Z Aa ?_
  refine ES (cs:=[.string (f2++JX k),zI (((1:Nat):Int)+f1),vo]) (y:=Fn.mk (f2++JX k) (((1:Nat):Int)+f1) xs) (B:=fs.heap.size) (AW 127 6) Gx Co Z (by decide) Z (O6.mkF (x:=⟨f2++JX k,((1:Nat):Int)+f1,xs⟩) (Tu (a:=((1:Nat):Int)+f1) oM) bj) oM Aa fun jx jm ay iy ez=>?_
  have gv:f4.heap.size≤jm.heap.size:=ay.size
  have g0:At [g] w jm:=c6.ext ay
  have ba:=bk.ext (Au<|AW 127 6) ay
  have bb:=bl.ext ay
  have bc:=ae.ext ay
  have bd:=a2.ext ay
  have be:=a3.ext ay
  refine Jk (v:=vp) (a:=jx) (AW 127 6) Gx Co Z (by decide) Z Z ba oM ez oM oM oM (by unfold maxLen;omega) Aa fun js jf ka bf bm dl=>?_
  have gw:jm.heap.size≤jf.heap.size:=bf.size
  have g1:At [g] w jf:=g0.fresh bf (fun c hc=>zH<|bm _ hc)
  have g2:=bb.chg bf fun c hc=>zH<|bm _ hc
  have g3:=bc.chg bf fun hm=>zH<|bm _ hm
  have g4:=bd.chg bf fun hm=>zH<|bm _ hm
  have g5:=be.chg bf fun hm=>zH<|bm _ hm
  refine Ak (p:=zP w1.heap.size) 0 BB Z Z Aa (Bm (k:=0) (w:=jf) dQ Z Z (Bg dl.isSlS) g4 sM Aa fun jn bg iz ca=>?_)
  replace ca:BX jn.heap w1.heap.size [js]:=ca
  have gx:jf.heap.size≤jn.heap.size:=bg.size
  have g6:At [g] w jn:=g1.fresh bg (fun _ h=>zE h)
  have g7:=g2.chg bg fun c hc=>zH<|A9 hc
  have g8:=g3.chg bg (zB ·)
  have gy:=g5.chg bg (zB ·)
  have dm:=dl.chg (Au<|AW 127 6) bg fun _ h=>zA h
  refine Aj<|Ab _ [0,0,0] Z<|Ad 1 Z<|AQ ((k+1:Nat):Int) Z Z (Bi oM oM) Aa<|Ac 1 Z ?_
  exact⟨(k+1,js,ps++[Fn.mk (f2++JX k) (((1:Nat):Int)+f1) xs],m2),_,rfl,zR,⟨g6,dm.up (Au (AW 127 6)),g7,g8,ca,oM,(by exact(PQ.fn (i:=i) (f:=⟨f2++JX k,((1:Nat):Int)+f1,xs⟩) ja hdn oM ⟨by show 1≤(((1:Nat):Int)+f1);omega,by show(((1:Nat):Int)+f1)≤3;omega⟩ ⟨zO,zO⟩ hff hfo (by show _=_++JX ps.length;rw[hpk])).1),(by exact(PQ.fn (i:=i) (f:=⟨f2++JX k,((1:Nat):Int)+f1,xs⟩) ja hdn oM ⟨by show 1≤(((1:Nat):Int)+f1);omega,by show(((1:Nat):Int)+f1)≤3;omega⟩ ⟨zO,zO⟩ hff hfo (by show _=_++JX ps.length;rw[hpk])).2),(by rw[z4,hpk];rfl),oM,oM,oM,oM,oM⟩,zD⟩
 refine AI false Z Z (A6 ce) Aa<|Aj<|Ai Z<|A4<|AA<|AA<|Av<|gK [2,4] Z<|AK (p:=zP w1.heap.size) (.inr Z) [vp] Cf Z (fun jw ey=>LD.of_box<|BX.ext (w:=fe) a1 ey) Z Aa (BE (vs:=[vp]) Cf Z Z (by intro u hu;simp only[ze,z2,or_false]at hu;rcases hu with rfl <;> first|exact⟨rfl,rfl⟩|exact Bg ab.isSlS) ac Z Z Aa fun j7 am gz bn=>?_)
 replace bn:BX j7.heap w.heap.size [vp]:=bn
 have g9:fe.heap.size≤j7.heap.size:=am.size
 have dn:At [g] w j7:=bx.fresh am (fun _ h=>zE h)
 have dp:=ab.chg (Au<|AW 127 6) am fun _ h=>zA h
 have dq:=an.chg am fun c hc=>zH<|A9 hc
 have i0:=a1.chg am (zB ·)
 exact Aj<|A1<|CQ (cs:=[vp]) Z Cf Z bn Z ⟨vp,ps,m,rfl,dn,dq,⟨zO,zO⟩,(dp.up<|Au<|AW 127 6).low (B':=w.heap.size) oM,(by exact⟨ja,hdn,zO⟩)⟩
theorem LA (w:World)(vc:Value)(cs:List UInt8)(hcs:Rd (B4 rU) w.heap vc cs)  :
  Calls Tryz.prog 22 #[vc] w (fun e w'=>∃(v va vb:Value) (p:List Fn) (f:Int) (a b:Sr),e=.returned (.tuple #[.agg #[v],zI f,va,vb])∧AH w w'∧Fr (EM 3 (SB 127 6) 33) w.heap.size w'.heap.size w'.heap v p∧Fr (Bp rI 2) w.heap.size w'.heap.size w'.heap va a∧Fr (Bp rI 2) w.heap.size w'.heap.size w'.heap vb b∧Xc p f a b):=by
 refine Aq [vc] 74 Tryz.func22 Z Z sM ?_
 have go:AH w w:=AH.refl w
 have k1:=hcs.lenle
 have gp:=f8
 have jg:=f9
 refine gK [3,0,0,0] Z (Bs (z:=.agg #[zN]) UR Aa fun w1 dv ii dw=>?_)
 have dx:=dv.size
 have dy:=go.trans dv
 replace dw:BX w1.heap w.heap.size [zN]:=dw
 refine Ac 3 Z<|gK [0,3,0] Z<|Ad 1 Z<|Ap 50 [] [] [vc] Z Z ZB Aa (Gp _ _ _<|hcs.ext Dg dy) ?_
 rintro e2 w2 ⟨gB2,rfl,cc,gq,jh⟩
 refine⟨_,rfl,cc,?_⟩
 have dz:=cc.size
 have e0:=dy.trans cc
 have cd:=dw.ext cc
 refine Ac 1 Z<|gK [0,0,4,0,4,4,3,4] Z ?_
 have kf:=gq.lt
 refine Ad 2 Z<|AD 72 [] [] [zP gB2,zI ((3:Nat):Int)] Z Z I5 Aa (B8 _ gB2 _ _ _ ((3:Nat):Int) gq oM oM oM) ?_
 rintro e3 w3 ⟨jp,n3,rfl,dr,ij,ji,gr⟩
 refine⟨_,rfl,?_⟩
 have e1:w2.heap.size≤w3.heap.size:=dr.size
 have e4:AH w w3:=dr.below e0 (fun _ h=>zE h) e0.size
 have gs:=cd.chg dr (zB ·)
 refine Ad 1 Z<|AD 73 [] [] [zP gB2,zI ((2:Nat):Int)] Z Z Sx Aa (Cu _ gB2 _ _ _ ((2:Nat):Int) ij oM oM oM) ?_
 rintro e5 w5 ⟨jq,n5,rfl,ds,gp,jj,gt⟩
 refine⟨_,rfl,?_⟩
 have ik:w3.heap.size≤w5.heap.size:=ds.size
 have gu:AH w w5:=ds.below e4 (fun _ h=>zE h) e4.size
 have gv:=gs.chg ds (zB ·)
 refine AD 71 [] [] [zP gB2,zI jp,zI ((7:Nat):Int),.bool jq] Z Z fM Aa (N7 _ gB2 vc cs n5 (jp) ((7:Nat):Int) jq gp oM oM oM oM oM) ?_
 rintro e7 w7 ⟨v7,p7,n7,rfl,dt,il,jk,gw,du⟩
 refine⟨_,rfl,?_⟩
 have im:w5.heap.size≤w7.heap.size:=dt.size
 have io:AH w w7:=dt.below gu (fun _ h=>zE h) gu.size
 have e6:=gv.chg dt (zB ·)
 have k2:=du.1.npl
 have hdn:=du.2.1
 have hpk:=du.2.2
 have ip:=e6.lt
 refine Bs (z:=.agg #[zN]) UR Aa fun w9 cb iq e8=>?_
 have e9:=cb.size
 have ea:=io.trans cb
 have bn:=e6.ext cb
 have ce:=il.ext cb
 have b8:=gw.ext (Au<|AW 127 6) cb
 replace e8:BX w9.heap w7.heap.size [zN]:=e8
 refine BE (vs:=[v7]) Cf Z Z (by intro u hu;simp only[ze,z2,or_false]at hu;rcases hu with rfl <;> first|exact⟨rfl,rfl⟩|exact Bg b8.isSlS) e8 Z Z Aa fun jx aw eb bo=>?_
 replace bo:BX jx.heap w7.heap.size [v7]:=bo
 have cf:w9.heap.size≤jx.heap.size:=aw.size
 have cg:AH w jx:=aw.below ea (fun _ h=>zE h) ea.size
 have ch:=bn.chg aw (zB ·)
 have ci:=ce.chg aw fun c hc=>zH<|A9 hc
 have cj:=b8.chg (Au<|AW 127 6) aw fun _ h=>zA h
 refine Aj<|gK [0,3,4,0,4,0,0,3,4] Z<|Ad 1 Z (Tw (ys:=[.string<|⟨#[114]⟩,.string<|⟨#[114]⟩,.string<|⟨#[114]⟩,.string<|⟨#[108,111,111,112]⟩]) Bv Xp fV Z Z Z Z Z Z (XM ⟨rfl,rfl⟩ ⟨rfl,rfl⟩ ⟨rfl,rfl⟩ ⟨rfl,rfl⟩) Aa fun k3 k7 af ec bp=>?_)
 have ck:=af.size
 have bq:=cg.trans af
 have al:=ch.ext af
 have am:=ci.ext af
 have an:=cj.ext (Au<|AW 127 6) af
 have be:=bo.ext af
 refine AD 74 [] [] [zP gB2,k3] Z Z bP Aa (Gu _ gB2 _ _ _ k3 _ am oM (fun w9 h9=>(bp.chg oV h9 fun c hc=>zH<|A9 hc).rdV1) (by intro u hu;simp only[ze,z2,or_false]at hu;rcases hu with rfl|rfl|rfl|rfl <;> exact⟨_,rfl⟩) sM) ?_
 rintro kg jy ⟨f2,kh,rfl,ag,ed,ir,br⟩
 refine⟨_,rfl,?_⟩
 have cl:k7.heap.size≤jy.heap.size:=ag.size
 have bs:AH w jy:=ag.below bq (fun _ h=>zE h) bq.size
 have cm:=al.chg ag (zB ·)
 have cn:=an.chg (Au<|AW 127 6) ag fun _ h=>zA h
 have co:=be.chg ag (zB ·)
 have cp:=bp.chg (oV) ag fun _ h=>zA h
 have hnm:=Xb br
 refine Ad 1 Z<|AD 72 [] [] [zP gB2,zI ((3:Nat):Int)] Z Z I5 Aa (B8 _ gB2 _ _ _ ((3:Nat):Int) ed oM oM oM) ?_
 rintro ki f4 ⟨f1,kj,rfl,ah,ee,is,ef⟩
 refine⟨_,rfl,?_⟩
 have cq:jy.heap.size≤f4.heap.size:=ah.size
 have cr:AH w f4:=ah.below bs (fun _ h=>zE h) bs.size
 have bt:=cm.chg ah (zB ·)
 have ct:=cn.chg (Au<|AW 127 6) ah fun _ h=>zA h
 have bu:=co.chg ah (zB ·)
 have cu:=cp.chg (oV) ah fun _ h=>zA h
 refine AQ (((1:Nat):Int)+f1) Z Z (CM sD sD) Aa ?_
 have cv:∀(wq:World),(Instr.build 33 #[(0,.string f2),(1,zI (((1:Nat):Int)+f1))]).run Tryz.prog wq=.ok (.agg #[.string f2,zI (((1:Nat):Int)+f1),zN]) wq:=by intro wq;kernel_rfl
 refine BQ (ps:=#[(0,.string f2),(1,zI (((1:Nat):Int)+f1))]) (.agg #[.string f2,zI (((1:Nat):Int)+f1),zN]) (by simp only[zc,zf,zh];rfl) (fun wq=>cv  wq) Aa ?_
 have it:=bt.lt
 have iu:=bu.lt
 refine Bs (z:=.agg #[.string ByteArray.empty,zI 0,zN]) Xr Aa fun k4 a9 eg bv=>?_
 have cw:=a9.size
 have bw:=cr.trans a9
 have ao:=bt.ext a9
 have bf:=ee.ext a9
 have ap:=ct.ext (Au<|AW 127 6) a9
 have aq:=bu.ext a9
 have ar:=cu.ext (oV) a9
 replace bv:BX k4.heap f4.heap.size [.string ByteArray.empty,zI 0,zN]:=bv
 refine BE (vs:=[.string f2,zI (((1:Nat):Int)+f1),zN]) KD Z Z (by intro u hu;simp only[ze,z2,or_false]at hu;rcases hu with rfl|rfl|rfl <;> first|exact⟨rfl,rfl⟩) bv Z Z Aa fun ju aa eh bx=>?_
 replace bx:BX ju.heap f4.heap.size [.string f2,zI (((1:Nat):Int)+f1),zN]:=bx
 have cx:k4.heap.size≤ju.heap.size:=aa.size
 have bz:AH w ju:=aa.below bw (fun _ h=>zE h) bw.size
 have cy:=ao.chg aa (zB ·)
 have cz:=bf.chg aa fun c hc=>zH<|A9 hc
 have d0:=ap.chg (Au<|AW 127 6) aa fun _ h=>zA h
 have d1:=aq.chg aa (zB ·)
 have d2:=ar.chg (oV) aa fun _ h=>zA h
 refine Aj<|gK [0,4,0] Z<|Ad 1 Z<|AD 73 [] [] [zP gB2,zI ((2:Nat):Int)] Z Z Sx Aa (Cu _ gB2 _ _ _ ((2:Nat):Int) cz oM oM oM) ?_
 rintro kk fs ⟨f3,k8,rfl,ab,ei,iv,ej⟩
 refine⟨_,rfl,?_⟩
 have gx:ju.heap.size≤fs.heap.size:=ab.size
 have ek:AH w fs:=ab.below bz (fun _ h=>zE h) bz.size
 have d3:=cy.chg ab (zB ·)
 have d4:=d0.chg (Au<|AW 127 6) ab fun _ h=>zA h
 have d5:=d1.chg ab (zB ·)
 have el:=d2.chg (oV) ab fun _ h=>zA h
 have d6:=bx.chg ab (zB ·)
 refine Ac 1 Z<|A0<|gL Z<|A3 ?_
 refine AU (S:=Nat×Value×List Ex×Nat) (fun⟨i,vo,xs,m⟩=>([(10,zI (i:Int)),(2,zP w.heap.size),(6,zP gB2),(7,zP w7.heap.size),(8,zP f4.heap.size),(9,.bool f3)])) (fun⟨i,vo,xs,m⟩ W=>AH w W∧Fr (EM 5 (Nd 127 6) 127) fs.heap.size W.heap.size W.heap vo xs∧Fr (EM 3 (SB 127 6) 33) w5.heap.size w7.heap.size W.heap v7 p7∧FG W.heap gB2 vc cs m∧BX W.heap w.heap.size [zN]∧BX W.heap w7.heap.size [v7]∧BX W.heap f4.heap.size [.string f2,zI (((1:Nat):Int)+f1),vo]∧(i:Int)≤(((1:Nat):Int)+f1)∧PQ p7 (((1:Nat):Int)+f1) false xs i∧m≤500000+20000*i∧w7.heap.size≤fs.heap.size∧(gB2<w5.heap.size∧w.heap.size≤w5.heap.size∧w.heap.size<gB2)∧w7.heap.size≤f4.heap.size∧w.heap.size<fs.heap.size∧w7.heap.size<fs.heap.size∧f4.heap.size<fs.heap.size∧fs.heap.size≤W.heap.size∧w5.heap.size≤W.heap.size) (fun⟨i,vo,xs,m⟩=>(((1:Nat):Int)+f1).toNat-i) (0,zN,([]:List Ex),k8) ⟨rfl,rfl,rfl,rfl,rfl,rfl,trivial⟩ ⟨ek,(Hz _ 0 _).up<|Au<|B3 127 6,d4,ei,d3,d5,d6,oM,(by exact PQ.nil _ _ _),oM,oM,oM,oM,oM,oM,oM,oM,oM⟩ ?_
 clear go ii dv dx dy cc dz e0 dr e1 e4 gs ds gv du gw dt e6 iq cb e9 ea bn b8 eb aw cf cg ch ci cj bp ec af ck bq al am an ag cl bs cm cn co cp ah cq cr bt ct bu cu eg a9 cw bw ao ap aq ar eh aa cx bz cy cz d0 d1 d2 ab d3 d4 d5 el d6
 rintro⟨i,vo,xs,m⟩ ρ45 fe ⟨c0,b9,ba,bb,a7,a5,a1,hio,hff,jl,huw,hgb,huf,gy,gz,i0,i1,i2⟩
 have i3:w.heap.size≤fe.heap.size:=c0.size
 have iw:=a7.lt
 have ix:=a5.lt
 have iy:=a1.lt
 refine A0<|gK [0,0,2,0] Z<|Ad 1 Z<|Ak (p:=zP f4.heap.size) 1 C9 Z Z Aa<|Af (p:=An (zP f4.heap.size) 1) (.inr Z) (zI (((1:Nat):Int)+f1)) AC Z (a1.ldp (i:=1) sM) Aa ?_
 by_cases d7:(i:Int)<((1:Nat):Int)+f1
 ·refine AI true Z Z (A5 d7) Aa<|Aj<|Ag Z<|A2<|A0<|A3<|gK [0,0,0,3,0] Z<|Ad 2 Z ?_
  have d8:∀(wq:World),(Instr.build 125 #[(0,zP gB2),(1,zP w7.heap.size),(2,zI ((9:Nat):Int)),(3,.bool f3)]).run Tryz.prog wq=.ok (.agg #[zP gB2,zP w7.heap.size,zI ((9:Nat):Int),.bool f3]) wq:=by intro wq;kernel_rfl
  refine BQ (ps:=#[(0,zP gB2),(1,zP w7.heap.size),(2,zI ((9:Nat):Int)),(3,.bool f3)]) (.agg #[zP gB2,zP w7.heap.size,zI ((9:Nat):Int),.bool f3]) (by simp only[zc,zf,zh];rfl) (fun wq=>d8  wq) Aa ?_
  have iz:=a7.lt
  have j0:=a5.lt
  have j2:=a1.lt
  refine By (cs:=#[zP gB2,zP w7.heap.size,zI ((9:Nat):Int),.bool f3]) Z Aa fun jm ac j3 c1=>?_
  have i4:=ac.size
  have d9:=c0.trans ac
  have ax:=b9.ext (Au<|B3 127 6) ac
  have a2:=ba.ext (Au<|AW 127 6) ac
  have ay:=bb.ext ac
  have az:=a7.ext ac
  have a3:=a5.ext ac
  have a4:=a1.ext ac
  replace c1:BX jm.heap fe.heap.size [zP gB2,zP w7.heap.size,zI ((9:Nat):Int),.bool f3]:=c1
  refine Ac 1 Z ?_
  letI:JR:=SA [gB2,fe.heap.size]
  refine Jx.AM _ [0,1,0,0,1,0,1,0,3,3,4,0,4] mixed (by kernel_rfl)<|Jx.Ak (p:=zP f4.heap.size) 2 BU Z Z Aa<|Jx.eO (p:=An (zP f4.heap.size) 2) vo Bf Z (fun wj hj=>(BX.chg (w:=jm.drew) (F:=[gB2,fe.heap.size]) a4 hj fun hm=>zH<|CX hm).ldp (i:=2) sM) Aa<|Jx.YM (zP fe.heap.size) Z Aa<|Jx.Ak (p:=zP f4.heap.size) 1 C9 Z Z Aa ?_
  refine Jx.eO (p:=An (zP f4.heap.size) 1) (zI (((1:Nat):Int)+f1)) AC Z (fun wj hj=>(BX.chg (w:=jm.drew) (F:=[gB2,fe.heap.size]) a4 hj fun hm=>zH<|CX hm).ldp (i:=1) sM) Aa<|Jx.Ak (p:=zP w7.heap.size) 0 BB Z Z Aa<|Jx.eO (p:=An (zP w7.heap.size) 0) v7 C4 Z (fun wj hj=>(BX.chg (w:=jm.drew) (F:=[gB2,fe.heap.size]) a3 hj fun hm=>zH<|CX hm).ldp (i:=0) sM) Aa<|Jx.j1<|AR (v:=v7) Gx Z a2.isSlS Aa<|Aj ?_
  refine Jx.Ap 75 [] [] [zP fe.heap.size,zI (((1:Nat):Int)+f1),zI (p7.length:Int),zI ((4:Nat):Int)] Z Z Sy Aa (Vj 4 _ fe.heap.size gB2 vc cs m (zP w7.heap.size) 6 ((9:Nat):Int) f3 p7 (((1:Nat):Int)+f1) (p7.length:Int) oM ay c1 (RN.box a3 (RP.mk'<|RN.of_frF2 a2 fun b hb=>zH<|CX hb) fun hb=>zH<|CX hb) oM oM oM oM k2.gpr oM oM oM) ?_
  rintro kl k5 ⟨k9,jo,ka,km,rfl,a6,em,j4,en,c2,eo,j5⟩
  refine⟨_,rfl,a6,?_⟩
  replace c2:=c2.low (B':=jm.heap.size)<|A7 _
  replace a6:=a6.of_drew
  have i5:jm.heap.size≤k5.heap.size:=a6.size
  have ep:AH w k5:=a6.below d9 (fun c hc=>zH<|CX hc) d9.size
  have eq:=ax.chg (Au<|B3 127 6) a6 fun c hc=>zH<|CX hc
  have er:=a2.chg (Au<|AW 127 6) a6 fun c hc=>zH<|CX hc
  have es:=az.chg a6 fun hm=>zH<|CX hm
  have et:=a3.chg a6 fun hm=>zH<|CX hm
  have eu:=a4.chg a6 fun hm=>zH<|CX hm
  refine Jx.VI Z (ES (cs:=[zI jo.kind,zI jo.num,zI jo.pick,zI jo.count,k9]) (y:=jo) (B:=jm.heap.size) (B3 127 6) CR Bj Z (by decide) Z (O6.le (O6.mk1 (d:=5) oM eo c2) oM) oM Aa fun kb kc a8 j6 ev=>?_)
  have i6:=a8.size
  have da:=ep.trans a8
  have bg:=eq.ext (Au<|B3 127 6) a8
  have bh:=er.ext (Au<|AW 127 6) a8
  have bi:=em.ext a8
  have bj:=es.ext a8
  have bk:=et.ext a8
  have bl:=eu.ext a8
  have bm:=en.ext a8
  refine Jk (v:=vo) (a:=kb) (B3 127 6) CR Bj Z (by decide) Z Z bg oM ev oM oM (zH<|hff.len) (by have:=hff.len;unfold maxLen;omega) Aa fun k6 CM ko ad ai db=>?_
  have i7:kc.heap.size≤CM.heap.size:=ad.size
  have dc:AH w CM:=ad.below da (fun c hc=>zH<|ai _ hc) da.size
  have ew:=bh.chg (Au<|AW 127 6) ad fun c hc=>zH<|ai _ hc
  have ex:=bi.chg ad fun c hc=>zH<|ai _ hc
  have ey:=bj.chg ad fun hm=>zH<|ai _ hm
  have ez:=bk.chg ad fun hm=>zH<|ai _ hm
  have g0:=bl.chg ad fun hm=>zH<|ai _ hm
  have g1:=bm.chg ad fun hm=>zH<|ai _ hm
  refine Ak (p:=zP f4.heap.size) 2 BU Z Z Aa (Bm (k:=2) (w:=CM) Sz Z Z (Bg db.isSlS) g0 sM Aa fun jz ae j7 c3=>?_)
  replace c3:BX jz.heap f4.heap.size [.string f2,zI (((1:Nat):Int)+f1),k6]:=c3
  have i8:CM.heap.size≤jz.heap.size:=ae.size
  have g2:AH w jz:=ae.below dc (fun _ h=>zE h) dc.size
  have g3:=ew.chg (Au<|AW 127 6) ae fun _ h=>zA h
  have g4:=ex.chg ae fun c hc=>zH<|A9 hc
  have g5:=ey.chg ae (zB ·)
  have g6:=ez.chg ae (zB ·)
  have j8:=g1.chg ae (zB ·)
  have g7:=db.chg (Au<|B3 127 6) ae fun _ h=>zA h
  exact Aj<|Ab _ [0,0,0] Z<|Ad 1 Z<|AQ ((i+1:Nat):Int) Z Z (Bi oM oM) Aa<|Ac 1 Z ⟨(i+1,k6,xs++[jo],ka),_,rfl,zR,⟨g2,g7.up<|Au<|B3 127 6,g3,g4,g5,g6,c3,oM,(by exact(hff.snoc (funcs:=(p7.length:Int)) (d:=4) (l0:=9) oM oM oM<|OU.npl (by assumption))),oM,oM,oM,oM,oM,oM,oM,oM,oM⟩,zD⟩
 refine AI false Z Z (A6 d7) Aa<|Aj<|Ai Z<|A4<|AA<|AA<|Av<|gK [0,2,2,3,4,0,4] Z<|Ak (p:=zP w7.heap.size) 0 BB Z Z Aa<|Af (p:=An (zP w7.heap.size) 0) (.inr Z) v7 C4 Z (a5.ldp (i:=0) sM) Aa<|AK (p:=zP f4.heap.size) (.inr Z) [.string f2,zI (((1:Nat):Int)+f1),vo] KD Z (fun kp j9=>LD.of_box<|BX.ext (w:=fe) a1 j9) Z Aa ?_
 refine ES (cs:=[.string f2,zI (((1:Nat):Int)+f1),vo]) (y:=Fn.mk f2 (((1:Nat):Int)+f1) xs) (B:=fs.heap.size) (AW 127 6) Gx Co Z (by decide) Z (O6.mkF (x:=⟨f2,((1:Nat):Int)+f1,xs⟩) (Tu (a:=((1:Nat):Int)+f1) oM) b9) oM Aa fun kd ke aj ja g8=>?_
 have i9:=aj.size
 have dd:=c0.trans aj
 have b0:=ba.ext (Au<|AW 127 6) aj
 have b1:=bb.ext aj
 have b2:=a7.ext aj
 have b3:=a5.ext aj
 have b4:=a1.ext aj
 refine YV (v:=v7) (a:=kd) (AW 127 6) Gx Co Z (by decide) Z Z b0 g8 oM oM (by unfold maxLen;omega) Aa fun fx jv kq b5 bc de=>?_
 have ia:ke.heap.size≤jv.heap.size:=b5.size
 have df:AH w jv:=b5.below dd (fun c hc=>zH<|bc _ hc) dd.size
 have g9:=b1.chg b5 fun c hc=>zH<|bc _ hc
 have ga:=b2.chg b5 fun hm=>zH<|bc _ hm
 have gb:=b3.chg b5 fun hm=>zH<|bc _ hm
 have gc:=b4.chg b5 fun hm=>zH<|bc _ hm
 refine Ak (p:=zP w7.heap.size) 0 BB Z Z Aa (Bm (k:=0) (w:=jv) dQ Z Z (Bg<|Sh.isSlS de) gb sM Aa fun jw b6 jb c4=>?_)
 replace c4:BX jw.heap w7.heap.size [fx]:=c4
 have ib:jv.heap.size≤jw.heap.size:=b6.size
 have dg:AH w jw:=b6.below df (fun _ h=>zE h) df.size
 have gd:=g9.chg b6 fun c hc=>zH<|A9 hc
 have ge:=ga.chg b6 (zB ·)
 have dh:=gc.chg b6 (zB ·)
 have gf:=de.chg (Au<|AW 127 6) b6 fun c hc=>by have:=A9 hc;intro jc;(try dsimp only at jc);omega
 have gg:=gf.fr (Au<|AW 127 6) (B:=w5.heap.size) fun b hb=>by(try dsimp only at hb);omega
 refine Aj<|gK [0,0,2,4,0] Z<|Ad 1 Z<|Ak (p:=zP f4.heap.size) 1 C9 Z Z Aa<|Af (p:=An (zP f4.heap.size) 1) (.inr Z) (zI (((1:Nat):Int)+f1)) AC Z (dh.ldp (i:=1) sM) Aa<|AD 53 [] [] [zP gB2,zI (((1:Nat):Int)+f1)] Z Z ZC Aa (Gn _ gB2 _ _ _ (((1:Nat):Int)+f1) gd oM oM oM) ?_
 rintro kr k0 ⟨au,jr,ks,rfl,b7,gh,jd,c5,c6⟩
 refine⟨_,rfl,?_⟩
 have ic:jw.heap.size≤k0.heap.size:=b7.size
 have di:AH w k0:=b7.below dg (fun _ h=>zE h) dg.size
 have gi:=ge.chg b7 (zB ·)
 have gj:=c4.chg b7 (zB ·)
 have dj:=dh.chg b7 (zB ·)
 have gk:=gg.chg (Au<|AW 127 6) b7 fun _ h=>zA h
 have hst:=c6
 refine Ac 1 Z<|gK [0,0,2,4,0] Z<|Ad 1 Z<|Ak (p:=zP f4.heap.size) 1 C9 Z Z Aa<|Af (p:=An (zP f4.heap.size) 1) (.inr Z) (zI (((1:Nat):Int)+f1)) AC Z (dj.ldp (i:=1) sM) Aa<|AD 53 [] [] [zP gB2,zI (((1:Nat):Int)+f1)] Z Z ZC Aa (Gn _ gB2 _ _ _ (((1:Nat):Int)+f1) gh oM oM oM) ?_
 rintro kt js ⟨av,jt,ku,rfl,ak,je,jf,c7,c8⟩
 refine⟨_,rfl,?_⟩
 have id:k0.heap.size≤js.heap.size:=ak.size
 have dk:AH w js:=ak.below di (fun _ h=>zE h) di.size
 have gl:=gi.chg ak (zB ·)
 have c9:=gj.chg ak (zB ·)
 have gm:=dj.chg ak (zB ·)
 have ca:=gk.chg (Au<|AW 127 6) ak fun _ h=>zA h
 have dl:=c5.chg (o1) ak fun _ h=>zA h
 have hsw:=c8
 refine Ac 1 Z<|A0 ?_
 letI:JR:=SA [w.heap.size]
 refine Jx.AM _ [1,0,1,0,0,0,0,3,0,0,0] mixed (by kernel_rfl)<|Jx.ZZ (p:=zP w7.heap.size) [fx] Cf Z (fun wj hj=>LD.of_box<|BX.chg (w:=js.drew) (F:=[w.heap.size]) c9 hj (zB ·)) Z Aa<|Jx.Ak (p:=zP w7.heap.size) 0 BB Z Z Aa<|Jx.eO (p:=An (zP w7.heap.size) 0) fx C4 Z (fun wj hj=>(BX.chg (w:=js.drew) (F:=[w.heap.size]) c9 hj (zB ·)).ldp (i:=0) sM) Aa<|Jx.j1<|AR (v:=fx) Gx Z ca.isSlS Aa<|Aj<|Jx.j1 ?_
 refine Bk ((((p7++[Fn.mk f2 (((1:Nat):Int)+f1) xs]).length:Nat):Int)-((1:Nat):Int)) Z Z (CM sD sD) Aa<|Aj ?_
 refine Jx.YM au Z Aa<|Jx.YM av Z Aa<|Jx.gP (BE (vs:=[fx]) Cf Z Z (by intro u hu;simp only[ze,z2,or_false]at hu;rcases hu with rfl <;> first|exact⟨rfl,rfl⟩|exact Bg ca.isSlS) gl Z Z Aa fun jn a0 ie bd=>?_)
 replace bd:BX jn.heap w.heap.size [fx]:=bd
 replace a0:=a0.of_drew
 have gn:js.heap.size≤jn.heap.size:=a0.size
 have dm:AH w jn:=a0.below dk (fun _ h=>zE h) dk.size
 have ig:=c9.chg a0 (zB ·)
 have ih:=gm.chg a0 (zB ·)
 have dn:=ca.chg (Au<|AW 127 6) a0 fun _ h=>zA h
 have dp:=dl.chg (o1) a0 fun _ h=>zA h
 have dq:=c7.chg (o1) a0 fun _ h=>zA h
 refine Aj ⟨⟨a0.os,a0.tape,a0.output,a0.size,a0.block⟩,?_⟩
 refine Jx.SN (zI ((((p7++[Fn.mk f2 (((1:Nat):Int)+f1) xs]).length:Nat):Int)-((1:Nat):Int))) Z Aa<|Jx.SN au Z Aa<|Jx.SN av Z Aa<|Jx.Aj<|A1 ?_
 exact KS (t0:=3) (ts:=[4,5]) (cs:=[fx]) [zI ((((p7++[Fn.mk f2 (((1:Nat):Int)+f1) xs]).length:Nat):Int)-((1:Nat):Int)),au,av] Z Cf Z bd Z Z ⟨fx,au,av,p7++[Fn.mk f2 (((1:Nat):Int)+f1) xs],(((p7++[Fn.mk f2 (((1:Nat):Int)+f1) xs]).length:Nat):Int)-((1:Nat):Int),jr,jt,rfl,dm,(dn.up<|Au<|AW 127 6).low (B':=w.heap.size) oM,(dp.up o1).low (B':=w.heap.size) oM,(dq.up o1).low (B':=w.heap.size) oM,(by exact Xc.mk' (i:=i) k2 hdn oM ⟨by show 1≤(((1:Nat):Int)+f1);omega,by show(((1:Nat):Int)+f1)≤3;omega⟩ hff (by show _=(((1:Nat):Int)+f1);omega) hnm (by rw[z4,zd];omega) ⟨by show _=(((1:Nat):Int)+f1);omega,hst.2⟩ ⟨by show _=(((1:Nat):Int)+f1);omega,hsw.2⟩)⟩
theorem N8 (w:World)(vc:Value)(cs:List UInt8)(n:Int)(hcs:Rd (B4 rU) w.heap vc cs)(_hn:Bn n)(hn:n≤1000000) :
  Calls Tryz.prog 23 #[vc,zI n] w (fun e w'=>∃(x0:Int),e=.returned (zI x0)∧AH w w'∧(0≤x0∧x0≤1000000∧(1≤n→x0<n))):=by
 refine Aq [vc,zI n] 11 Tryz.func23 Z Z sM ?_
 have a1:AH w w:=AH.refl w
 have ad:=hcs.lenle
 refine gL Z<|gK [0,3,0] Z<|Ad 1 Z<|Ap 50 [] [] [vc] Z Z ZB Aa (Gp _ _ _<|hcs.ext Dg a1) ?_
 rintro e1 w1 ⟨gB1,rfl,a0,a5,a9⟩
 refine⟨_,rfl,a0,?_⟩
 have a6:=a0.size
 have a2:=a1.trans a0
 refine Ac 1 Z<|gK [0,0,4,0] Z<|Ad 2 Z<|AD 72 [] [] [zP gB1,zI n] Z Z I5 Aa (B8 _ gB1 _ _ _ _ a5 oM _hn hn) ?_
 rintro e2 w2 ⟨ac,n2,rfl,a3,aa,ab,a4⟩
 refine⟨_,rfl,?_⟩
 have a7:w1.heap.size≤w2.heap.size:=a3.size
 have a8:AH w w2:=a3.below a2 (fun b hb=>by have:b=gB1:=(by simpa using hb);omega) a2.size
 exact Ac 1 Z<|A1<|Ah [4] Z (zI ac) Z ⟨ac,rfl,a8,(by assumption)⟩
theorem KG (w:World)(vc:Value)(cs:List UInt8)(k:Int)(hcs:Rd (B4 rU) w.heap vc cs)(_hk:Bn k)(hk:k≤1000) :
  Calls Tryz.prog 28 #[vc,zI k] w (fun e w'=>∃v0:Value,∃(x0:Sr),e=.returned (v0)∧AH w w'∧Fr (Bp rI 2) w.heap.size w'.heap.size w'.heap v0 x0∧(x0.length=k.toNat∧AX x0=true)):=by
 refine Aq [vc,zI k] 11 Tryz.func28 Z Z sM ?_
 have a4:AH w w:=AH.refl w
 have af:=hcs.lenle
 refine gL Z<|gK [0,3,0] Z<|Ad 1 Z<|Ap 50 [] [] [vc] Z Z ZB Aa (Gp _ _ _<|hcs.ext Dg a4) ?_
 rintro e1 w1 ⟨gB1,rfl,a2,a7,ab⟩
 refine⟨_,rfl,a2,?_⟩
 have a8:=a2.size
 have a3:=a4.trans a2
 refine Ac 1 Z<|gK [0,0,4,0] Z<|Ad 2 Z<|AD 53 [] [] [zP gB1,zI k] Z Z ZC Aa (Gn _ gB1 _ _ _ _ a7 oM _hk hk) ?_
 rintro e2 w2 ⟨a0,ae,n2,rfl,a5,ac,ad,a1,a6⟩
 refine⟨_,rfl,?_⟩
 have a9:w1.heap.size≤w2.heap.size:=a5.size
 have aa:AH w w2:=a5.below a3 (fun b hb=>by have:b=gB1:=(by simpa using hb);omega) a3.size
 exact Ac 1 Z<|A1<|Ah [4] Z a0 Z ⟨a0,ae,rfl,aa,(a1.up o1).low a3.size,(by assumption)⟩
theorem KH (w:World)(vc:Value)(cs:List UInt8)(hcs:Rd (B4 rU) w.heap vc cs)  :
  Calls Tryz.prog 21 #[vc] w (fun e w'=>e=.returned (.bool (decide (((4096:Nat):Int)<(cs.length:Int))))∧AH w w'):=by
 refine Aq [vc] 6 Tryz.func21 Z Z sM ?_
 have a0:AH w w:=AH.refl w
 have a1:=hcs.lenle
 exact gL Z<|gK [0,0,0,0] Z<|Ad 1 Z<|AR (v:=vc) UQ Z hcs.isSl Aa<|C2 (decide (((4096:Nat):Int)<(cs.length:Int))) Z Z Z Aa<|Ac 1 Z<|A1<|Ah [2] Z (.bool<|decide (((4096:Nat):Int)<(cs.length:Int))) Z ⟨rfl,a0⟩
theorem Jb (w:World)(va:Value)(a:Sr)(vb:Value)(b:Sr)(ha:Rd (B4 rI) w.heap va a)(hb:Rd (B4 rI) w.heap vb b)  :
  Calls Tryz.prog 26 #[va,vb] w (fun e w'=>e=.returned (.bool (decide (a=b)))∧AH w w'):=by
 refine Aq [va,vb] 26 Tryz.func26 Z Z sM ?_
 have a1:AH w w:=AH.refl w
 have a7:=ha.lenle
 have a8:=hb.lenle
 refine gL Z<|A0<|gK [0,0,0,0,0] Z<|Ad 1 Z<|AR (v:=va) Bt Z ha.isSl Aa<|Ad 1 Z<|AR (v:=vb) Bt Z hb.isSl Aa ?_
 by_cases a2:(a.length:Int)≠(b.length:Int)
 ·exact B2 true Z Z (A5 a2) Aa<|Aj<|Ag Z<|gL Z<|A1<|Ao<|Ah [4] Z (.bool false) Z ⟨AO (A6<|VA oM).symm,a1⟩
 refine B2 false Z Z (A6 a2) Aa<|Aj<|Ai Z<|A2<|A0<|gL Z<|A3<|AU (S:=Nat) (fun k=>([(5,zI (k:Int)),(0,va),(1,vb)])) (fun k W=>AH w W∧k≤a.length∧(∀j,j<k→a.getD j 0=b.getD j 0)) (fun k=>a.length-k) 0 ⟨rfl,rfl,rfl,trivial⟩ ⟨a1,sD,(by intro j hj;omega)⟩ ?_
 clear a1
 rintro k ρ2 w2 ⟨a0,a3,hq⟩
 have a6:w.heap.size≤w2.heap.size:=a0.size
 refine A0<|gK [0,0,0,0] Z<|Ad 2 Z<|AR (v:=va) Bt Z ha.isSl Aa ?_
 by_cases a4:(k:Int)<(a.length:Int)
 ·refine AI true Z Z (A5 a4) Aa<|Aj<|Ag Z<|A2<|A0<|A3<|A0<|AM _ [0,0,0,1,0,0,0,1,0] mixed (by kernel_rfl)<|Ad 2 Z<|Aw (v:=va) k Bt BG Z Z ha.isSl Z sD Aa ?_
  refine Af (p:=Ay va k 1) (.inl Z) (zI<|a.getD k 0) AC Z (Bd a0.drew (ha.getI sD).1) Aa<|Ad 2 Z ?_
  refine Aw (v:=vb) k Bt BG Z Z hb.isSl Z sD Aa ?_
  refine Af (p:=Ay vb k 1) (.inl Z) (zI<|b.getD k 0) AC Z (Bd a0.drew (hb.getI sD).1) Aa ?_
  by_cases a5:a.getD k 0≠b.getD k 0
  ·exact B2 true Z Z (A5 a5) Aa<|Aj<|Ag Z<|gL Z<|A1<|AG<|Ao<|Ao<|AG<|Ao<|Ah [4] Z (.bool false) Z ⟨AO (A6<|Tf (d:=0) (k:=k) oM).symm,a0.drew⟩
  refine B2 false Z Z (A6 a5) Aa<|Aj<|Ai Z<|A2<|Ab _ [0,0,0] Z<|Ad 1 Z<|AQ ((k+1:Nat):Int) Z Z (Bi oM sD) Aa<|Ac 1 Z ?_
  exact⟨k+1,_,rfl,zR,⟨a0.drew,sD,(by exact Te hq oM)⟩,zD⟩
 exact AI false Z Z (A6 a4) Aa<|Aj<|Ai Z<|A4<|AA<|AA<|Av<|gL Z<|A1<|Ah [4] Z (.bool true) Z ⟨AO (A5<|Mg hq oM oM).symm,a0⟩
theorem DA (w:World)(S:List Nat)(g:Nat)(pp:Value)(ip:Int)(T:Tp)(c:As)(v:Int)(hS:∀b∈S,b<w.heap.size)(hgS:g∈S)(hR0:Vn 46 177 2 S g w.heap pp ip T)(_hip:Bn ip)(hln:T.code.length≤4000∧T.vals.length≤4000)(hcv:T.code.length=T.vals.length)(hc:Qb c)(_hv:Bn v)  :
    Calls Tryz.prog 180 #[zP g,(.agg #[(zI c.op),(zI c.a),(zI c.b),(zI c.num)]),zI v] w (fun e w'=>∃S':List Nat,e=.returned (zI (T.vals.length:Int))∧DU S S' w w'∧Vn 46 177 2 S' g w'.heap pp ip (T.put c v)):=by
  refine Aq [zP g,.agg #[zI c.op,zI c.a,zI c.b,zI c.num],zI v] 36 Tryz.func180 Z Z sM ?_
  have bv:At S w w:=At.refl S w
  obtain⟨rc0,rg0,rv0,b8,bw⟩:=hR0
  have co:=b8.lt
  have b9:DU S S w w:=DU.refl hS
  refine gK [3,0] Z ?_
  have ch:=b8.lt
  refine By (cs:=#[zI c.op,zI c.a,zI c.b,zI c.num]) Z Aa fun w1 ao ci b5=>?_
  have bx:w.heap.size≤w1.heap.size:=ao.size
  have bn:At S w w1:=bv.ext ao
  have ae:=b8.ext ao
  have bz:=BK.ext bw ao
  have ba:=b9.ext ao
  replace b5:BX w1.heap w.heap.size [zI c.op,zI c.a,zI c.b,zI c.num]:=b5
  refine Ac 1 Z<|A0 ?_
  obtain⟨Fc4,Fg4,Fv4,bb,ak,al,a5,am,ap,bc,bd⟩:=id bz
  refine AM _ [0,0,0,0,0,1,1,3,4,0,0,0,4] mixed (by kernel_rfl)<|Ad 2 Z<|AV Z Aa<|Ak (p:=zP g) 1 GO Z Z Aa<|Ak (p:=An (zP g) 1) (b:=g) (o:=1) 1 Cp Z Z Aa<|Af (p:=An (An (zP g) 1) 1) (.inl Z) rc0 DQ Z (ae.ldp (i:=2) sM) Aa<|AK (p:=zP w.heap.size) (.inl Z) [zI c.op,zI c.a,zI c.b,zI c.num] DZ Z (fun cp c0=>LD.of_box<|BX.ext (w:=w1.drew) b5 c0) Z Aa ?_
  refine ES (cs:=[zI c.op,zI c.a,zI c.b,zI c.num]) (y:=(⟨c.op,c.a,c.b,c.num⟩:As)) (B:=w1.heap.size) AY JY FD Z (by decide) Z (Qc (x:=(⟨c.op,c.a,c.b,c.num⟩:As)) (U:=w1.heap.size) ⟨hc.1,hc.2.1,hc.2.2.1,hc.2.2.2⟩) (A7 _) Aa fun v5 w5 a1 cj c1=>?_
  replace a1:=a1.of_drew
  have c2:w1.heap.size≤w5.heap.size:=a1.size
  have ck:At S w w5:=bn.ext a1
  have aq:=ae.ext a1
  have c3:=ba.ext a1
  have hOc4x:=bb.ext (Au AY) a1
  have hOg4x:=ak.ext (Au Bb) a1
  have hOv4x:=al.ext (AZ AJ) a1
  refine KW (v:=rc0) (a:=v5) AY JY FD Z (by decide) Z Z hOc4x c1 (A7 _) (Nat.zero_le _) (Nat.zero_le _) oM (by unfold maxLen;omega) Aa fun v6 w6 F6 ar bo b6=>?_
  have be:w5.heap.size≤w6.heap.size:=ar.size
  obtain⟨S6,au⟩:∃l:List Nat,l=F6++S:=⟨_,rfl⟩
  have a6:DU S S6 w1 w6:=by rw[au];exact⟨fun b hb=>z1 _ hb,fun b hb=>by rcases zi.1 hb with hb|hb;(rcases b6 b hb with h9|h9|h9;exact .inl (ap b h9);(right;have:=a1.size;omega);(right;have:=a1.size;omega));exact .inl hb,fun b hb=>by rcases zi.1 hb with hb|hb;exact bo.high b hb;(have:=c3.lt b hb;omega),(At.of_ext _ a1).trans (ar.sub ap)⟩
  have bp:BK 46 177 2 S6 g w6.heap v6 rg0 rv0 (T.pc (⟨c.op,c.a,c.b,c.num⟩:As)):=⟨F6,Fg4,Fv4,bo,(hOg4x.up a1.size).chgS (Au Bb) ar (fun b hb hm=>a5.1 b hb hm),(hOv4x.up a1.size).chgS (AZ AJ) ar (fun b hb hm=>a5.2.1 b hb hm),⟨fun b hm hb=>by rcases b6 b hm with h9|h9|h9;exact a5.1 b h9 hb;(have:=ak.high b hb;have:=a1.size;omega);(have:=ak.high b hb;have:=a1.size;omega),fun b hm hb=>by rcases b6 b hm with h9|h9|h9;exact a5.2.1 b h9 hb;(have:=al.high b hb;have:=a1.size;omega);(have:=al.high b hb;have:=a1.size;omega),a5.2.2⟩,⟨fun hm=>by rcases b6 g hm with h9|h9|h9;exact am.1 h9;omega;omega,am.2⟩,by rw[au];exact⟨fun b hb=>z8 _ hb,fun b hb=>z1 _ (bc b hb),fun b hb=>z1 _ (bd b hb)⟩⟩
  have c4:=aq.chg ar am.1
  have be:w1.heap.size≤w6.heap.size:=a6.chg.size
  have c5:At S w w6:=bn.stp a6.chg ba.new
  have af:w.heap.size∉S6:=fun hm=>(a6.new _ hm).elim (fun hm=>(zH<|b9.lt _ hm)) (fun h9=>by omega)
  have c7:=ba.trans a6
  have c8:(T.pc (⟨c.op,c.a,c.b,c.num⟩:As)).vals.length=T.vals.length:=by simp[Tp.pc,Tp.pv]
  have c9:(T.pc (⟨c.op,c.a,c.b,c.num⟩:As)).code.length=T.code.length+1:=by simp[Tp.pc,Tp.pv]
  refine AV Z Aa<|Ak (p:=zP g) 1 GO Z Z Aa<|Ak (p:=An (zP g) 1) (b:=g) (o:=1) 1 Cp Z Z Aa (Bm (k:=2) (w:=w6) Xo Z Z (Bg bp.slc) c4 sM Aa fun ax a7 ca aa=>?_)
  replace aa:BX ax.heap g [pp,zI ip,v6,rg0,zN,rv0]:=aa
  have av:At S w ax:=c5.trans (a7.sub (B7 hgS))
  have aw:=BK.chg bp a7
  have an:=c7.set hgS a7
  have bq:w6.heap.size≤ax.heap.size:=a7.size
  refine Aj<|A0 ?_
  obtain⟨Fc15,Fg15,Fv15,ag,ah,ay,a2,a4,az,b0,ai⟩:=id aw
  refine Ab _ [0,0,0,0,2,0,3,4,0,0,4] Z<|Ad 2 Z<|AV Z Aa<|Ak (p:=zP g) 5 IU Z Z Aa<|Af (p:=An (zP g) 5) (.inr Z) rv0 B6 Z (aa.ldp (i:=5) sM) Aa<|Ad 1 Z (BA (u:=zI v) (B:=ax.heap.size) AJ Bt BG Z Z (Nb ax.heap.size ax.heap.size _ _ _hv) (A7 _) Aa fun cn bj a0 cb bf=>?_)
  have br:ax.heap.size≤bj.heap.size:=a0.size
  have cc:At S w bj:=av.ext a0
  have ab:=aa.ext a0
  have cd:=(BK.rdv aw).ext g1 a0
  have bg:=an.ext a0
  have hOc15x:=ag.ext (Au AY) a0
  have hOg15x:=ah.ext (Au Bb) a0
  have hOv15x:=ay.ext (AZ AJ) a0
  refine FI (v:=rv0) (a:=cn) Bt BG Z Z Z hOv15x bf.rd1 (Nat.zero_le _) (by simp only[z9,zb];omega) (by simp only[z9,zb];unfold maxLen;omega) Aa fun cl b7 cm a8 b1 ac=>?_
  have b2:bj.heap.size≤b7.heap.size:=a8.size
  obtain⟨c6,aj⟩:∃l:List Nat,l=cm++S6:=⟨_,rfl⟩
  have a3:DU S6 c6 ax b7:=by rw[aj];exact⟨fun b hb=>z1 _ hb,fun b hb=>by rcases zi.1 hb with hb|hb;(rcases ac b hb with h9|h9;exact .inl (ai b h9);(right;have:=a0.size;omega));exact .inl hb,fun b hb=>by rcases zi.1 hb with hb|hb;exact b1.high b hb;(have:=bg.lt b hb;omega),(At.of_ext _ a0).trans (a8.sub ai)⟩
  have b3:BK 46 177 2 c6 g b7.heap v6 rg0 cl ((T.pc (⟨c.op,c.a,c.b,c.num⟩:As)).pv (v)):=⟨Fc15,Fg15,cm,(hOc15x.up a0.size).chgS (Au AY) a8 (fun b hb hm=>a2.2.1 b hm hb),(hOg15x.up a0.size).chgS (Au Bb) a8 (fun b hb hm=>a2.2.2 b hm hb),b1,⟨a2.1,fun b hb hm=>by rcases ac b hm with h9|h9;exact a2.2.1 b hb h9;(have:=ag.high b hb;have:=a0.size;omega),fun b hb hm=>by rcases ac b hm with h9|h9;exact a2.2.2 b hb h9;(have:=ah.high b hb;have:=a0.size;omega)⟩,⟨a4.1,a4.2.1,fun hm=>by rcases ac g hm with h9|h9;exact a4.2.2 h9;omega⟩,by rw[aj];exact⟨fun b hb=>z1 _ (az b hb),fun b hb=>z1 _ (b0 b hb),fun b hb=>z8 _ hb⟩⟩
  have bh:=ab.chg a8 a4.2.2
  have b2:ax.heap.size≤b7.heap.size:=a3.chg.size
  have bi:At S w b7:=av.stp a3.chg an.new
  have bk:w.heap.size∉c6:=fun hm=>(a3.new _ hm).elim (fun hm=>af hm) (fun h9=>by omega)
  have bl:=an.trans a3
  have bs:((T.pc (⟨c.op,c.a,c.b,c.num⟩:As)).pv (v)).vals.length=(T.pc (⟨c.op,c.a,c.b,c.num⟩:As)).vals.length+1:=by simp[Tp.pc,Tp.pv]
  have bt:((T.pc (⟨c.op,c.a,c.b,c.num⟩:As)).pv (v)).code.length=(T.pc (⟨c.op,c.a,c.b,c.num⟩:As)).code.length:=by simp[Tp.pc,Tp.pv]
  refine AV Z Aa<|Ak (p:=zP g) 5 IU Z Z Aa (Bm (k:=5) (w:=b7) I6 Z Z (Bg b3.slv) bh sM Aa fun cg a9 ce ad=>?_)
  replace ad:BX cg.heap g [pp,zI ip,v6,rg0,zN,cl]:=ad
  have cf:At S w cg:=bi.trans (a9.sub (B7 hgS))
  have b4:=BK.chg b3 a9
  have bm:=bl.set hgS a9
  have bu:b7.heap.size≤cg.heap.size:=a9.size
  exact Aj<|gK [0,0,0,0,2,0,0,0] Z<|Ad 1 Z<|AV Z Aa<|Ak (p:=zP g) 1 GO Z Z Aa<|Ak (p:=An (zP g) 1) (b:=g) (o:=1) 1 Cp Z Z Aa<|Af (p:=An (An (zP g) 1) 1) (.inr Z) v6 DQ Z (ad.ldp (i:=2) sM) Aa<|AR (v:=v6) JY Z (BK.slc b4) Aa<|Bk (T.vals.length:Int) Z Z (Bi oM oM) Aa<|Ac 1 Z<|A1<|Ah [6] Z (zI (T.vals.length:Int)) Z ⟨_,rfl,bm,⟨_,_,_,ad,b4⟩⟩
def ZT (F d:Nat):Prop:=∀(w:World) (S:List Nat) (g:Nat) (pp:Value) (dp:Nat) (ip:Int) (p:List Fn) (s0:Nat) (T:Tp) (ve:Value) (ex:Ex) (vv:Value) (env:List Int) (r:Int) (T':Tp) (s':Nat) (hS:∀b∈S,b<w.heap.size) (hgS:g∈S) (hR0:Vn 46 177 2 S g w.heap pp ip T) (hp:RN S (rP (Jj dp)) w.heap pp p) (_hip:Bn ip) (hs0:s0≤3000) (hbd:GK T s0) (hex:RN S (rP (LH d)) w.heap ve ex) (henv:RN S (B4 rI) w.heap vv env) (hqenv:C3 vv)
  (hvp:FQ p) (hF:F≤p.length) (hwf:wf p ((F:Nat):Int) ex ((env.length:Nat):Int)=true) (hdp:env.length+ex.deep≤1000000) (hen:Gj T env) (hrg:Ej (Hi p F) ex env s0 T=.ok (r,T') s'),
  Calls Tryz.prog 226 #[.pointer (some ⟨g,0,none⟩),ve,vv] w (fun e w'=>∃S':List Nat,e=.returned (.int .i64 r)∧DU S S' w w'∧Vn 46 177 2 S' g w'.heap pp ip T')
theorem Gv (w:World)(S:List Nat)(F:Nat)(xs:Sr)(T':Tp)(s':Nat)(g:Nat)(pp:Value)(dp:Nat)(ip:Int)(p:List Fn)(s0:Nat)(T:Tp)(df:Nat)(vf:Value)(f:Fn)(vv:Value)(env:Sr)(hS:∀b∈S,b<w.heap.size)(hgS:g∈S)(hR0:Vn 46 177 2 S g w.heap pp ip T)(hp:RN S (rP (Jj dp)) w.heap pp p)(_hip:Bn ip)(hs0:s0≤3000)(hbd:GK T s0)(hf:RN S (rP (Vu df)) w.heap vf f)(henv:RN S (B4 rI) w.heap vv env)(hqenv:C3 vv)(hvp:FQ p)(hF:F≤p.length)(hwf:∀k,k<f.outs.length→wf p (F:Int) (f.outs.getD k Ex.zero) (env.length:Int)=true)(hdp:∀k,k<f.outs.length→env.length+(f.outs.getD k Ex.zero).deep≤1000000)(hll:f.outs.length≤1000000)(hen:Gj T env)(hrg:Ey (Hi p F) f.outs env s0 T=.ok (xs,T') s')(IHv:∀d',ZT F d') :
    Calls Tryz.prog 181 #[zP g,vf,vv] w (fun e w'=>∃(v:Value) (S':List Nat),e=.returned v∧DU S S' w w'∧Vn 46 177 2 S' g w'.heap pp ip T'∧PR S' w.heap.size (B4 rI) w'.heap v xs∧C3 v):=by
  refine Aq [zP g,vf,vv] 32 Tryz.func181 Z Z sM ?_
  have aw:At S w w:=At.refl S w
  have bt:=henv.lenL
  unfold maxLen at bt
  obtain⟨rc0,rg0,rv0,ax,ay⟩:=hR0
  have c2:=ax.lt
  have az:DU S S w w:=DU.refl hS
  refine gL Z<|gK [3,0] Z (Cn (rI) AJ Bt BG Aa fun v1 w1 a7 ba b0=>?_)
  have af:w.heap.size≤w1.heap.size:=a7.size
  have b1:At S w w1:=aw.ext a7
  have a9:=ax.ext a7
  have b2:=BK.ext ay a7
  have b3:=az.ext a7
  refine Ac 1 Z<|A0<|gL Z<|A3 ?_
  obtain⟨Fo0,aa⟩:=Ow.of_fr b0 (A7 _)
  have ag:∀b∈Fo0,b∉S:=fun b hb hm=>by have:=aa.low b hb;have:=hS b hm;omega
  have hMs:=b2
  have hGs:=b3
  refine AU (S:=Nat×Value×Sr×List Nat×List Nat×Tp×Nat×Value×Value×Value) (fun⟨k,vo,ys,Fo,S9,T9,s9,bu,vg9,vv9⟩=>([(7,vo),(8,zI (k:Int)),(0,zP g),(1,vf),(2,vv)])) (fun⟨k,vo,ys,Fo,S9,T9,s9,bu,vg9,vv9⟩ W=>At S w W∧BX W.heap g [pp,zI ip,bu,vg9,zN,vv9]∧k≤f.outs.length∧DU S S9 w W∧BK 46 177 2 S9 g W.heap bu vg9 vv9 T9∧Ow (Bp rI 2) w.heap.size W.heap.size W.heap vo ys Fo∧(∀b∈Fo,b∉S9)∧Ey (Hi p F) (f.outs.take k) env s0 T=.ok (ys,T9) s9) (fun⟨k,vo,ys,Fo,S9,T9,s9,bu,vg9,vv9⟩=>f.outs.length-k) (0,v1,[],Fo0,S,T,s0,rc0,rg0,rv0) ⟨rfl,rfl,rfl,rfl,rfl,trivial⟩ ⟨b1,a9,sD,hGs,hMs,aa,ag,(by rfl)⟩ ?_
  clear aw ay az b0 ba a7 af b1 b2 b3
  rintro⟨k,vo,ys,Fo,S9,T9,s9,bu,vg9,vv9⟩ ρ3 w3 ⟨a5,a1,b4,hGl,hMl,hOl,hdl,hrl⟩
  have bb:w.heap.size≤w3.heap.size:=a5.size
  have bs:=a1.lt
  have hqk:=Uw hvp hF hwf hen hbd hs0 hrl
  have b5:=hqk.1.bnd
  have bc:=hqk.1.le
  have bd:=hqk.1.vl
  have hyl:ys.length=k:=by rw[KA hrl,List.length_take];omega
  refine A0<|gK [0,0,0,0,2,0,0] Z<|Ad 2 Z<|AF (hf.isPtr) Z Aa ?_
  obtain⟨cs5,be,ad⟩:=RN.at (Az _) hf
  obtain⟨a8,rfl,ae⟩:=RF.of be
  have ah:=ae.rn.lenle
  unfold maxLen at ah
  refine AE (p:=vf) 2 BU Z (ad _ a5) Aa<|Af (p:=An vf 2) (.inr Z) a8 Bf Z ((ad _ a5).ld (i:=2) (by simp[DR,DV])) Aa<|AR (v:=a8) CR Z ae.rn.isSl Aa ?_
  by_cases b6:(k:Int)<(f.outs.length:Int)
  ·
    refine AI true Z Z (A5 b6) Aa<|Aj<|Ag Z<|A2<|A0<|A3<|Ab _ [0,0,0,0,0,2,0,0,0,4,3,4,0] Z ?_
    have hkl:k<f.outs.length:=by omega
    obtain⟨x1,T1,s1,b7,bf⟩:=KB hrg hkl hrl
    refine Ad 3 Z<|AF (hf.isPtr) Z Aa<|AE (p:=vf) 2 BU Z (ad _ a5) Aa<|Af (p:=An vf 2) (.inr Z) a8 Bf Z ((ad _ a5).ld (i:=2) (by simp[DR,DV])) Aa<|Ad 1 Z<|Aw (v:=a8) k CR Bj Z Z ae.rn.isSl Z sD Aa<|Ad 1 Z ?_
    refine AD 226 [] [] [zP g,Ay a8 k 5,vv] Z Z Hm Aa (IHv df _ S9 g pp dp ip p (s9) (T9) (Ay a8 k 5) (f.outs.getD k Ex.zero) vv (env) x1 T1 s1 (fun b hb=>(hGl.lt b hb:b<w3.heap.size)) (hGl.sub _ hgS) ⟨_,_,_,a1,hMl⟩ (RN.stp (AS<|AN dp) hp a5 hGl.new) _hip oM b5 (RN.ptr (Ax df) (by decide) Ex.zero (RN.stp (Am<|Ax df) ae.rn a5 hGl.new) sD) (RN.stp g1 henv a5 hGl.new) hqenv hvp oM (by exact hwf k hkl) (by exact hdp k hkl) (by exact hen.mono oM) b7) ?_
    rintro e7 w7 ⟨S7,rfl,a2,bz,vg7,vv7,bg,bh⟩
    refine⟨_,rfl,?_⟩
    have bi:w3.heap.size≤w7.heap.size:=a2.chg.size
    have bj:At S w w7:=a5.stp a2.chg hGl.new
    have ai:=hOl.keep (AZ AJ) a2.chg fun b hb hm=>hdl b hm hb
    have a3:∀b∈Fo,b∉S7:=fun b hb hm=>(a2.new b hm).elim (hdl b hb) (fun h9=>zH<|hOl.high b hb)
    have bk:=hGl.trans a2
    have ab:=D8 hvp F hF _ (hwf k hkl) (hen.mono bd.1) b5 bc.2 b7
    have aj:=ab.1
    have ak:=aj.bnd
    have bl:=aj.le
    have bm:=aj.vl
    have bn:=ak.2.1
    have bo:=ab.2
    have al:Bn (x1):=by omega
    refine (BA (u:=zI x1) (B:=w7.heap.size) AJ Bt BG Z Z (Nb w7.heap.size w7.heap.size _ _ al) (A7 _) Aa ?_)
    intro c0 bv a0 bp am
    have b8:w7.heap.size≤bv.heap.size:=a0.size
    have an:At S w bv:=bj.ext a0
    have a6:=bg.ext a0
    have ao:=BK.ext bh a0
    have ac:=bk.ext a0
    have hO17k:=ai.ext (AZ AJ) a0
    refine FI (v:=vo) (a:=c0) Bt BG Z Z Z hO17k am.rd1 oM sD (by unfold maxLen;first|omega|assumption|(simp only[zb,z9,z4,z6,z5];omega)|(simp[zb,z9,z4,z6,z5];done)|(simp[zb,z9,z4,z6,z5];omega)) Aa fun c1 bw bx a4 bq ap=>?_
    have b9:bv.heap.size≤bw.heap.size:=a4.size
    have aq:At S w bw:=an.fresh a4 (fun c hc=>zH<|hO17k.low c hc)
    have br:∀b∈bx,b∉S7:=fun b hb hm=>(ap b hb).elim (fun h9=>a3 b h9 hm) (fun h9=>zH<|ac.lt b hm)
    have ar:=BK.chgO ao a4 a3
    have au:=ac.fresh a4 fun c hc=>zH<|hO17k.low c hc
    have av:=a6.chg a4 fun hm=>zH<|hO17k.low _ hm
    refine Ac 1 Z<|Ab _ [0,0,0] Z<|Ad 1 Z<|AQ ((k+1:Nat):Int) Z Z (Bi oM oM) Aa<|Ac 1 Z ?_
    have hMe:=ar
    have hGe:=au
    exact⟨(k+1,c1,ys++[x1],bx,S7,T1,s1,bz,vg7,vv7),_,rfl,zR,⟨aq,av,sD,hGe,hMe,(by assumption),(by assumption),bf⟩,zD⟩
  refine AI false Z Z (A6 b6) Aa<|Aj<|Ai Z<|A4<|AA<|AA<|Av<|gK [0,0] Z<|Ac 2 Z<|A1 ?_
  obtain⟨e1,e2,e3⟩:=M6 hrg oM hrl
  exact Ah [6] Z vo Z ⟨vo,_,rfl,hGl,(by rw[← e2];exact⟨_,_,_,a1,hMl⟩),(by rw[← e1];exact PR.of_ow hOl hdl),hOl.fr.cap⟩
theorem HW {p:Prop}(h:p:=by simp[DR,DV]):p:=h
theorem Gw (w:World)(S:List Nat)(F:Nat)(r:Int)(T':Tp)(s':Nat)(g:Nat)(pp:Value)(dp:Nat)(ip:Int)(p:List Fn)(s0:Nat)(T:Tp)(dex:Nat)(ve:Value)(ex:Ex)(vv:Value)(env:Sr)(hS:∀b∈S,b<w.heap.size)(hgS:g∈S)(hR0:Vn 46 177 2 S g w.heap pp ip T)(hp:RN S (rP (Jj dp)) w.heap pp p)(_hip:Bn ip)(hs0:s0≤3000)(hbd:GK T s0)(hex:RN S (rP (LH dex)) w.heap ve ex)(henv:RN S (B4 rI) w.heap vv env)(hqenv:C3 vv)(hvp:FQ p)(hF:F≤p.length)(hwf:wf p (F:Int) ex (env.length:Int)=true)(hdp:env.length+ex.deep≤1000000)(hen:Gj T env)(hrg:Ej (Hi p F) ex env s0 T=.ok (r,T') s')(hck:ex.kind=10∨ex.kind=11)(IH1:∀F',F'<F→∀d,ZT F' d)(IH2:∀d',d'<dex→ZT F d') :
    Calls Tryz.prog 246 #[zP g,ve,vv] w (fun e w'=>∃S':List Nat,e=.returned (zI r)∧DU S S' w w'∧Vn 46 177 2 S' g w'.heap pp ip T'):=by
  refine Aq [zP g,ve,vv] 81 Tryz.func246 Z Z sM ?_
  have c4:At S w w:=At.refl S w
  have dn:=henv.lenL
  unfold maxLen at dn
  obtain⟨rc0,rg0,rv0,c5,c6⟩:=hR0
  have e9:=c5.lt
  have c7:DU S S w w:=DU.refl hS
  have hdk:=Dq ex
  have hlt:=Ip hrg
  have b9:=hbd.up (s':=s0+1) oM
  obtain⟨xs,T1,s1,h1,h10,h11,_⟩:=RH hrg oM oM oM oM
  have hwk:=FY hwf hck
  have cv:=Oi hwf hvp hF
  refine gL Z<|gK [3,0] Z (Cn (rI) AJ Bt BG Aa fun v1 w1 am ao c8=>?_)
  have ba:w.heap.size≤w1.heap.size:=am.size
  have c9:At S w w1:=c4.ext am
  have ap:=c5.ext am
  have ca:=BK.ext c6 am
  have cb:=c7.ext am
  refine Ac 1 Z<|A0<|gL Z<|A3 ?_
  obtain⟨Fo0,aq⟩:=Ow.of_fr c8 (A7 _)
  have bb:∀b∈Fo0,b∉S:=fun b hb hm=>by have:=aq.low b hb;have:=hS b hm;omega
  have hMs:=ca
  have hGs:=cb
  refine AU (S:=Nat×Value×Sr×List Nat×List Nat×Tp×Nat×Value×Value×Value) (fun⟨k,vo,ys,Fo,S9,T9,s9,dm,vg9,vv9⟩=>([(7,vo),(8,zI (k:Int)),(0,zP g),(1,ve),(2,vv)])) (fun⟨k,vo,ys,Fo,S9,T9,s9,dm,vg9,vv9⟩ W=>At S w W∧BX W.heap g [pp,zI ip,dm,vg9,zN,vv9]∧k≤ex.kids.length∧DU S S9 w W∧BK 46 177 2 S9 g W.heap dm vg9 vv9 T9∧Ow (Bp rI 2) w.heap.size W.heap.size W.heap vo ys Fo∧(∀b∈Fo,b∉S9)∧Ey (Hi p F) (ex.kids.take k) env (s0+1) T=.ok (ys,T9) s9) (fun⟨k,vo,ys,Fo,S9,T9,s9,dm,vg9,vv9⟩=>ex.kids.length-k) (0,v1,[],Fo0,S,T,s0+1,rc0,rg0,rv0) ⟨rfl,rfl,rfl,rfl,rfl,trivial⟩ ⟨c9,ap,sD,hGs,hMs,aq,bb,(by rfl)⟩ ?_
  clear c4 c6 c7 c8 ao am ba c9 ca cb
  rintro⟨k,vo,ys,Fo,S9,T9,s9,dm,vg9,vv9⟩ ρ3 w3 ⟨a1,a2,cc,hGl,hMl,hOl,hdl,hrl⟩
  have bc:w.heap.size≤w3.heap.size:=a1.size
  have dj:=a2.lt
  have hqk:=Uw (l:=ex.kids) hvp hF (fun k hk=>C1 hwf hk oM) hen b9 hlt hrl
  have ar:=hqk.1.bnd
  have bd:=hqk.1.le
  have cw:=hqk.1.vl
  have hyl:ys.length=k:=by rw[KA hrl,List.length_take];omega
  refine A0<|gK [0,0,0,0,2,0,0] Z<|Ad 2 Z<|AF (hex.isPtr) Z Aa ?_
  obtain⟨cs5,cx,a7⟩:=RN.at (Ax _) hex
  obtain⟨dd5,an,dk,rfl,b8⟩:=RX.of cx
  have au:=b8.rn.lenle
  unfold maxLen at au
  refine AE (p:=ve) 4 Bc Z (a7 _ a1) Aa<|Af (p:=An ve 4) (.inr Z) an Bf Z ((a7 _ a1).ld (i:=4) HW) Aa<|AR (v:=an) CR Z b8.rn.isSl Aa ?_
  by_cases cd:(k:Int)<(ex.kids.length:Int)
  ·
    refine AI true Z Z (A5 cd) Aa<|Aj<|Ag Z<|A2<|A0<|A3<|Ab _ [0,0,0,0,0,2,0,0,0,4,3,4,0] Z ?_
    have hkl:k<ex.kids.length:=by omega
    obtain⟨x1,T1x,s1x,ce,cy⟩:=KB h1 hkl hrl
    refine Ad 3 Z<|AF (hex.isPtr) Z Aa<|AE (p:=ve) 4 Bc Z (a7 _ a1) Aa<|Af (p:=An ve 4) (.inr Z) an Bf Z ((a7 _ a1).ld (i:=4) HW) Aa<|Ad 1 Z<|Aw (v:=an) k CR Bj Z Z b8.rn.isSl Z sD Aa<|Ad 1 Z ?_
    refine AD 226 [] [] [zP g,Ay an k 5,vv] Z Z Hm Aa (IH2 dd5 oM _ S9 g pp dp ip p (s9) (T9) (Ay an k 5) (ex.kids.getD k Ex.zero) vv (env) x1 T1x s1x (fun b hb=>(hGl.lt b hb:b<w3.heap.size)) (hGl.sub _ hgS) ⟨_,_,_,a2,hMl⟩ (RN.stp (AS<|AN dp) hp a1 hGl.new) _hip oM ar (RN.ptr (Ax dd5) (by decide) Ex.zero (RN.stp (Am<|Ax dd5) b8.rn a1 hGl.new) sD) (RN.stp g1 henv a1 hGl.new) hqenv hvp oM (by exact C1 hwf hkl oM) (zH<|CS (l:=ex.kids) (k:=k) hkl) (by exact hen.mono oM) ce) ?_
    rintro e7 w7 ⟨S7,rfl,a9,dy,vg7,vv7,cz,d0⟩
    refine⟨_,rfl,?_⟩
    have d1:w3.heap.size≤w7.heap.size:=a9.chg.size
    have d2:At S w w7:=a1.stp a9.chg hGl.new
    have be:=hOl.keep (AZ AJ) a9.chg fun b hb hm=>hdl b hm hb
    have aa:∀b∈Fo,b∉S7:=fun b hb hm=>(a9.new b hm).elim (hdl b hb) (fun h9=>zH<|hOl.high b hb)
    have d3:=hGl.trans a9
    have av:=D8 hvp F hF _ (C1 hwf hkl oM) (hen.mono cw.1) ar bd.2 ce
    have bf:=av.1
    have bg:=bf.bnd
    have d4:=bf.le
    have d5:=bf.vl
    have d6:=bg.2.1
    have d7:=av.2
    have bh:Bn (x1):=by omega
    refine (BA (u:=zI x1) (B:=w7.heap.size) AJ Bt BG Z Z (Nb w7.heap.size w7.heap.size _ _ bh) (A7 _) Aa ?_)
    intro dz ds a8 d8 bi
    have cf:w7.heap.size≤ds.heap.size:=a8.size
    have bj:At S w ds:=d2.ext a8
    have ag:=cz.ext a8
    have bk:=BK.ext d0 a8
    have aw:=d3.ext a8
    have hO17k:=be.ext (AZ AJ) a8
    refine FI (v:=vo) (a:=dz) Bt BG Z Z Z hO17k bi.rd1 oM sD (by unfold maxLen;first|omega|assumption|(simp only[zb,z9,z4,z6,z5];omega)|(simp[zb,z9,z4,z6,z5];done)|(simp[zb,z9,z4,z6,z5];omega)) Aa fun e0 du dv ab da bl=>?_
    have cg:ds.heap.size≤du.heap.size:=ab.size
    have bm:At S w du:=bj.fresh ab (fun c hc=>zH<|hO17k.low c hc)
    have db:∀b∈dv,b∉S7:=fun b hb hm=>(bl b hb).elim (fun h9=>aa b h9 hm) (fun h9=>zH<|aw.lt b hm)
    have bn:=BK.chgO bk ab aa
    have bo:=aw.fresh ab fun c hc=>zH<|hO17k.low c hc
    have bp:=ag.chg ab fun hm=>zH<|hO17k.low _ hm
    refine Ac 1 Z<|Ab _ [0,0,0] Z<|Ad 1 Z<|AQ ((k+1:Nat):Int) Z Z (Bi oM oM) Aa<|Ac 1 Z ?_
    have hMe:=bn
    have hGe:=bo
    exact⟨(k+1,e0,ys++[x1],dv,S7,T1x,s1x,dy,vg7,vv7),_,rfl,zR,⟨bm,bp,sD,hGe,hMe,(by assumption),(by assumption),cy⟩,zD⟩
  refine AI false Z Z (A6 cd) Aa<|Aj<|Ai Z<|A4<|AA<|AA<|Av<|A0<|AM _ [0,0,0,1,0,0,1,0,0,0,1,0,0] mixed (by kernel_rfl) ?_
  obtain⟨e1,e2,e3⟩:=M6 h1 oM hrl
  rw[← e1,← e2,← e3]at h10 h11
  have hvo:=hvp.outs (ex.num).toNat oM
  refine Ad 1 Z<|AV Z Aa<|Ak (p:=zP g) 0 Xw Z Z Aa<|Af (p:=An (zP g) 0) (.inl Z) pp UP Z (a2.ldp (i:=0) sM) Aa<|AF (hp.isPtr) Z Aa ?_
  obtain⟨cs25,bq,ax⟩:=RN.at (AN _) hp
  obtain⟨a6,rfl,ac⟩:=RPr.of bq
  have ae:=ac.lenle
  unfold maxLen at ae
  refine AE (p:=pp) 0 BB Z (ax _ a1.drew) Aa<|Af (p:=An pp 0) (.inl Z) a6 C4 Z ((ax _ a1.drew).ld (i:=0) HW) Aa<|Ad 1 Z<|AF (hex.isPtr) Z Aa<|AE (p:=ve) 1 BF Z (a7 _ a1.drew) Aa<|Af (p:=An ve 1) (.inl Z) (zI ex.num) AC Z ((a7 _ a1.drew).ld (i:=1) HW) Aa<|Aw (v:=a6) ((ex.num).toNat) Gx Co Z Z ac.isSl oM oM Aa<|Ac 1 Z<|A0<|gK [0,0,0,2,0] Z<|Ad 1 Z<|AF (hex.isPtr) Z Aa<|AE (p:=ve) 0 Br Z (a7 _ a1.drew) Aa ?_
  refine Af (p:=An ve 0) (.inr Z) (zI ex.kind) AC Z ((a7 _ a1.drew).ld (i:=0) HW) Aa ?_
  by_cases ay:ex.kind=((10:Nat):Int)
  ·
    refine Al true Z Z (A5 ay) Aa<|Aj<|Ag Z<|A0<|AM _ [0,0,0,0,1,0,0,0,1,0,0,4,0] mixed (by kernel_rfl) ?_
    have ah:=h10 oM
    rw[LT oM]at ah
    have hvd:=hvp.deep (ex.num).toNat oM (ex.pick).toNat oM
    have hvw:=hvp.wf (ex.num).toNat oM (ex.pick).toNat oM
    rw[show(p.getD (ex.num).toNat Fn.zero).params=(ys.length:Int)from by omega]at hvw
    refine Ad 2 Z<|AF (RN.isPtr<|RN.ptr (Az dp) (by decide) Fn.zero ac oM) Z Aa ?_
    obtain⟨cs27,br,az⟩:=ac.get (Az dp) Fn.zero (k:=(ex.num).toNat) oM
    obtain⟨ad,rfl,ai⟩:=RF.of br
    have b0:=ai.rn.lenle
    unfold maxLen at b0
    refine AE (p:=Ay a6 ((ex.num).toNat) 3) 2 BU Z (az _ a1.drew.drew) Aa<|Af (p:=An (Ay a6 ((ex.num).toNat) 3) 2) (.inl Z) ad Bf Z ((az _ a1.drew.drew).ld (i:=2) HW) Aa<|Ad 1 Z<|AF (hex.isPtr) Z Aa<|AE (p:=ve) 2 D1 Z (a7 _ a1.drew.drew) Aa<|Af (p:=An ve 2) (.inl Z) (zI ex.pick) AC Z ((a7 _ a1.drew.drew).ld (i:=2) HW) Aa<|Aw (v:=ad) ((ex.pick).toNat) CR Bj Z Z ai.rn.isSl oM oM Aa<|Ad 1 Z ?_
    refine AD 226 [] [] [zP g,Ay ad ((ex.pick).toNat) 5,vo] Z Z Hm Aa (IH1 (ex.num).toNat oM dp _ S9 g pp dp ip p (s9) (T9) (Ay ad ((ex.pick).toNat) 5) (((p.getD ((ex.num).toNat) Fn.zero).outs).getD ((ex.pick).toNat) Ex.zero) vo (ys) r T' s' (fun b hb=>(hGl.drew.drew.lt b hb:b<w3.heap.size)) (hGl.drew.drew.sub _ hgS) ⟨_,_,_,a2,hMl⟩ (RN.stp (AS<|AN dp) hp a1.drew.drew hGl.drew.drew.new) _hip oM ar (RN.ptr (Ax dp) (by decide) Ex.zero (RN.stp (Am<|Ax dp) ai.rn a1.drew.drew hGl.drew.drew.new) oM) (RN.of_ow hOl hdl) hOl.fr.cap hvp oM hvw oM hqk.2 ah) ?_
    rintro ea dw ⟨e4,rfl,a0,e5,vg28,vv28,b1,b2⟩
    refine⟨_,rfl,?_⟩
    replace a0:=a0.of_drew
    replace a0:=a0.of_drew
    have ch:w3.heap.size≤dw.heap.size:=a0.chg.size
    have dc:At S w dw:=a1.stp a0.chg hGl.new
    have dd:=hOl.keep (AZ AJ) a0.chg fun b hb hm=>hdl b hm hb
    have bs:∀b∈Fo,b∉e4:=fun b hb hm=>(a0.new b hm).elim (hdl b hb) (fun h9=>zH<|hOl.high b hb)
    have bt:=hGl.trans a0
    have af:=D8 hvp _ oM _ hvw hqk.2 ar bd.2 ah
    have aj:=af.1
    have b3:=aj.bnd
    have ci:=aj.le
    have cj:=aj.vl
    have ck:=b3.2.1
    have cl:=af.2
    have cm:Bn (r):=by omega
    exact Ac 1 Z<|A1<|Ao<|Ah [6] Z (zI r) Z ⟨_,(by first|rfl|(rw[hzr,← g1_];rfl)|(rw[hzr,← g1_])),bt,(by first|exact⟨_,_,_,b1,b2⟩|(rw[← g2_];exact⟨_,_,_,b1,b2⟩))⟩
  refine Al false Z Z (A6 ay) Aa<|Aj<|Ai Z<|A2<|A0<|gK [0] Z ?_
  have b4:ex.kind=11:=by clear h11 h10;omega
  have hwl:=Kg hwf b4
  obtain⟨zs,hlp,hzr⟩:=h11 b4
  clear h10 h11
  refine Ac 1 Z<|A3 ?_
  have hMs:=hMl
  have hGs:=hGl.drew
  have bu:=RN.of_ow hOl hdl
  have bv:=hOl.fr.cap
  refine AU (S:=Nat×Value×Sr×List Nat×Tp×Nat×Value×Value×Value) (fun⟨i,vk,ks,S8,T8,s8,dq,vg8,vv8⟩=>([(7,vk),(10,zI (i:Int)),(0,zP g),(1,ve),(9,Ay a6 ((ex.num).toNat) 3)])) (fun⟨i,vk,ks,S8,T8,s8,dq,vg8,vv8⟩ W=>At S w W∧BX W.heap g [pp,zI ip,dq,vg8,zN,vv8]∧i≤(ex.count).toNat∧DU S S8 w W∧BK 46 177 2 S8 g W.heap dq vg8 vv8 T8∧RN S8 (B4 rI) W.heap vk ks∧C3 vk∧Eb ((Hi p F).all (ex.num).toNat) i ys s9 T9=.ok (ks,T8) s8) (fun⟨i,vk,ks,S8,T8,s8,dq,vg8,vv8⟩=>(ex.count).toNat-i) (0,vo,ys,S9,T9,s9,dm,vg9,vv9) ⟨rfl,rfl,rfl,rfl,rfl,trivial⟩ ⟨a1.drew,a2,oM,hGs,hMs,bu,bv,(by rfl)⟩ ?_
  clear a2 a1 bc au ae
  rintro⟨i,vk,ks,S8,T8,s8,dq,vg8,vv8⟩ ρ38 dr ⟨a4,a3,bw,hGm,hMm,hrk,hck,ak⟩
  have cn:w.heap.size≤dr.heap.size:=a4.size
  have de:=a3.lt
  have hqm:=Ot hvp (f:=(ex.num).toNat) oM hF (fun e=>D8 hvp _ oM e) hwl.1 _ oM hqk.2 ar bd.2 ak
  have co:=hqm.1.bnd
  have df:=hqm.1.le
  have dl:=hqm.1.vl
  have dg:=hqm.2.2
  refine A0<|gK [0,0,0,0,2,0] Z<|Ad 2 Z<|AF (hex.isPtr) Z Aa<|AE (p:=ve) 3 Dz Z (a7 _ a4) Aa<|Af (p:=An ve 3) (.inr Z) (zI ex.count) AC Z ((a7 _ a4).ld (i:=3) HW) Aa ?_
  by_cases b5:(i:Int)<ex.count
  ·
    refine AI true Z Z (A5 b5) Aa<|Aj<|Ag Z<|A2<|A0<|A3<|Ab _ [0,0,0,4,0] Z ?_
    have hkl:i<(ex.count).toNat:=by omega
    obtain⟨z1,T2,s2,ao,dh⟩:=Xg hlp hkl ak
    rw[Ki oM]at ao
    have hwm:∀k,k<(p.getD (ex.num).toNat Fn.zero).outs.length→wf p (((ex.num).toNat:Nat):Int) ((p.getD (ex.num).toNat Fn.zero).outs.getD k Ex.zero) (ks.length:Int)=true:=fun k hk=>by rw[dg];exact hvp.wf _ oM k hk
    refine Ad 3 Z<|AD 181 [] [] [zP g,Ay a6 ((ex.num).toNat) 3,vk] Z Z Yo Aa (Gv _ S8 (ex.num).toNat z1 T2 s2 g pp dp ip p (s8) (T8) dp (Ay a6 ((ex.num).toNat) 3) (p.getD ((ex.num).toNat) Fn.zero) vk (ks) (fun b hb=>(hGm.lt b hb:b<dr.heap.size)) (hGm.sub _ hgS) ⟨_,_,_,a3,hMm⟩ (RN.stp (AS<|AN dp) hp a4 hGm.new) _hip oM co (RN.ptr (Az dp) (by decide) Fn.zero (RN.stp (Am<|Az dp) ac a4 hGm.new) oM) hrk hck hvp oM hwm (by intro k hk;have:=hvp.deep (ex.num).toNat oM k hk;omega) oM hqm.2.1 ao (by exact fun d9=>IH1 _ oM d9)) ?_
    rintro eb dx ⟨e6,e8,rfl,a5,⟨dt,vg41,vv41,bx,bz⟩,c0,cp⟩
    refine⟨_,rfl,?_⟩
    have cq:dr.heap.size≤dx.heap.size:=a5.chg.size
    have c1:At S w dx:=a4.stp a5.chg hGm.new
    have di:=RN.stp g1 hrk a5.chg a5.new
    have c2:=hGm.trans a5
    have b6:=HK _ (fun e _=>D8 hvp _ oM e) (Js hwm) hqm.2.1 co df.2 ao
    have al:=b6.1
    have b7:=al.bnd
    have cr:=al.le
    have cs:=al.vl
    have ct:=b7.2.1
    have cu:=c0.rn
    refine Ac 1 Z<|Ab _ [0,0,0] Z<|Ad 1 Z<|AQ ((i+1:Nat):Int) Z Z (Bi oM oM) Aa<|Ac 1 Z ?_
    have hMe:=bz
    have hGe:=c2
    exact⟨(i+1,e6,z1,e8,T2,s2,dt,vg41,vv41),_,rfl,zR,⟨c1,bx,oM,hGe,hMe,(by assumption),(by assumption),dh⟩,zD⟩
  refine AI false Z Z (A6 b5) Aa<|Aj<|Ai Z<|A4<|AA<|AA<|Av<|gK [0,0,0,0,2,0,2,0] Z ?_
  obtain⟨g1_,g2_,g3_⟩:=Xh hlp oM ak
  refine Ad 2 Z<|AF (hex.isPtr) Z Aa<|AE (p:=ve) 2 D1 Z (a7 _ a4) Aa<|Af (p:=An ve 2) (.inr Z) (zI ex.pick) AC Z ((a7 _ a4).ld (i:=2) HW) Aa<|Aw (v:=vk) ((ex.pick).toNat) Bt BG Z Z hrk.slL oM oM Aa ?_
  have c3:=RN.getI (w:=dr) (k:=(ex.pick).toNat) hrk oM
  exact Af (p:=Ay vk ((ex.pick).toNat) 1) (.inr Z) (zI<|ks.getD ((ex.pick).toNat) 0) AC Z (c3.1 _<|At.refl _ _) Aa<|Ac 1 Z<|A1<|Ah [6] Z (zI<|ks.getD ((ex.pick).toNat) 0) Z ⟨_,(by first|rfl|(rw[hzr,← g1_];rfl)|(rw[hzr,← g1_])),hGm,(by first|exact⟨_,_,_,a3,hMm⟩|(rw[← g2_];exact⟨_,_,_,a3,hMm⟩))⟩
theorem OO (w:World)(k:Int)(_hk:Bn k)(hk:3≤k∧k≤6) :
    Calls Tryz.prog 247 #[zI k] w (fun e w'=>e=.returned (zI k)∧w'=w):=by
  refine Aq [zI k] 10 Tryz.func247 Z Z sM ?_
  have a0:w=w:=rfl
  refine gL Z<|A0<|gL Z<|A3<|gK [0,0] Z ?_
  by_cases a1:k=((3:Nat):Int)
  ·
    exact Al true Z Z (A5 a1) Aa<|Ac 1 Z<|Ag Z<|gL Z<|A1<|AG<|Ao<|Ah [2] Z (zI ((3:Nat):Int)) Z ⟨B5 oM,a0⟩
  refine Al false Z Z (A6 a1) Aa<|Ac 1 Z<|Ai Z<|gK [0,0] Z ?_
  by_cases a2:k=((4:Nat):Int)
  ·
    exact Al true Z Z (A5 a2) Aa<|Ac 1 Z<|Ag Z<|gL Z<|A1<|AG<|Ao<|Ah [2] Z (zI ((4:Nat):Int)) Z ⟨B5 oM,a0⟩
  refine Al false Z Z (A6 a2) Aa<|Ac 1 Z<|Ai Z<|gK [0,0] Z ?_
  by_cases a3:k=((5:Nat):Int)
  ·
    exact Al true Z Z (A5 a3) Aa<|Ac 1 Z<|Ag Z<|gL Z<|A1<|AG<|Ao<|Ah [2] Z (zI ((5:Nat):Int)) Z ⟨B5 oM,a0⟩
  exact Al false Z Z (A6 a3) Aa<|Ac 1 Z<|Ai Z<|A2<|gL Z<|A1<|Ah [2] Z (zI ((6:Nat):Int)) Z ⟨B5 oM,a0⟩
theorem OP {p:Prop}(h:p:=by unfold Gz;first|rw[if_pos oM]|rw[if_neg oM,if_pos oM]|rw[if_neg oM,if_neg oM,if_pos oM]|rw[if_neg oM,if_neg oM,if_neg oM,if_neg oM]):p:=h
theorem LB (w:World)(op:Int)(a:Int)(b:Int)(_hop:Bn op)(_ha:Bn a)(_hb:Bn b)(hop:3≤op∧op≤6)(ha:0≤a∧a<1000003)(hb:0≤b∧b<1000003) :
    Calls Tryz.prog 248 #[zI op,zI a,zI b] w (fun e w'=>e=.returned (zI (Gz op a b))∧AH w w'):=by
  refine Aq [zI op,zI a,zI b] 27 Tryz.func248 Z Z sM ?_
  have a0:AH w w:=AH.refl w
  refine gL Z<|A0<|gL Z<|A3<|gK [0,0] Z ?_
  by_cases a1:op=((3:Nat):Int)
  ·
    exact Al true Z Z (A5 a1) Aa<|Ac 1 Z<|Ag Z<|gK [0,0,0,0] Z<|Ad 2 Z<|AB 64 [] [] [zI a,zI b] Z Z UD Aa (zI<|md (a+b)) (fun wq=>FE wq _ _ _ha _hb)<|Ac 1 Z<|A1<|AG<|Ao<|Ah [6] Z (zI<|md (a+b)) Z ⟨B5 OP,a0⟩
  refine Al false Z Z (A6 a1) Aa<|Ac 1 Z<|Ai Z<|gK [0,0] Z ?_
  by_cases a2:op=((4:Nat):Int)
  ·
    exact Al true Z Z (A5 a2) Aa<|Ac 1 Z<|Ag Z<|gK [0,0,0,0] Z<|Ad 2 Z<|AB 236 [] [] [zI a,zI b] Z Z Yw Aa (zI<|md (a-b)) (fun wq=>HY wq _ _ _ha _hb oM)<|Ac 1 Z<|A1<|AG<|Ao<|Ah [6] Z (zI<|md (a-b)) Z ⟨B5 OP,a0⟩
  refine Al false Z Z (A6 a2) Aa<|Ac 1 Z<|Ai Z<|gK [0,0] Z ?_
  by_cases a3:op=((5:Nat):Int)
  ·
    exact Al true Z Z (A5 a3) Aa<|Ac 1 Z<|Ag Z<|gK [0,0,0,0] Z<|Ad 2 Z<|AB 63 [] [] [zI a,zI b] Z Z Nj Aa (zI<|md (a*b)) (fun wq=>Cm wq _ _ _ha _hb)<|Ac 1 Z<|A1<|AG<|Ao<|Ah [6] Z (zI<|md (a*b)) Z ⟨B5 OP,a0⟩
  exact Al false Z Z (A6 a3) Aa<|Ac 1 Z<|Ai Z<|A2<|gK [0,0,0,0,0] Z<|Ad 2 Z<|AB 235 [] [] [zI b] Z Z Yu Aa (zI<|inv b) (fun wq=>Ja wq _ _hb)<|AB 63 [] [] [zI a,zI<|inv b] Z Z Nj Aa (zI<|md (a*(inv b))) (fun wq=>Cm wq _ _ _ha<|O9 _)<|Ac 1 Z<|A1<|Ah [6] Z (zI<|md (a*(inv b))) Z ⟨B5 OP,a0⟩
theorem QD {p:Prop}(h:p:=by unfold maxLen;first|omega|assumption|(simp only[zb,z9,z4,z6,z5];omega)|(simp[zb,z9,z4,z6,z5];done)|(simp[zb,z9,z4,z6,z5];omega)):p:=h
theorem QE {p:Prop}(h:p:=by have:=CS (l:=ex.kids) (k:=1) oM;rw[z4,zd];omega):p:=h
theorem QF {p:Prop}(h:p:=by have h9:=HC hwf oM oM;rw[z4,zd];exact h9):p:=h
theorem QG {p:Prop}(h:p:=by rw[z4,zd];exact HC hwf oM oM):p:=h
theorem OQ {p:Prop}(h:p:=by simp only[zc,zf,zh];rfl):p:=h
theorem OR {p:Prop}(h:p:=by have:=CS (l:=ex.kids) (k:=0) oM;omega):p:=h
theorem JN {p:Prop}(h:p:=by exact C1 hwf oM oM):p:=h
theorem FO {p:Prop}(h:p:=by simp[DR,DV]):p:=h
theorem FP {p:Prop}(h:p:=by exact hvp):p:=h
theorem JO (w:World)(S:List Nat)(F:Nat)(r:Int)(T':Tp)(s':Nat)(g:Nat)(pp:Value)(dp:Nat)(ip:Int)(p:List Fn)(s0:Nat)(T:Tp)(dex:Nat)(ve:Value)(ex:Ex)(vv:Value)(env:Sr)(hS:∀b∈S,b<w.heap.size)(hgS:g∈S)(la:Vn 46 177 2 S g w.heap pp ip T)(hp:RN S (rP (Jj dp)) w.heap pp p)(_hip:Bn ip)(ju:s0≤3000)(hbd:GK T s0)(hex:RN S (rP (LH dex)) w.heap ve ex)(henv:RN S (B4 rI) w.heap vv env)(hqenv:C3 vv)(hvp:FQ p)(hF:F≤p.length)(hwf:wf p (F:Int) ex (env.length:Int)=true)(hdp:env.length+ex.deep≤1000000)(hen:Gj T env)(hrg:Ej (Hi p F) ex env s0 T=.ok (r,T') s')(IH1:∀F',F'<F→∀d,ZT F' d)(IH2:∀d',d'<dex→ZT F d') :
    Calls Tryz.prog 226 #[zP g,ve,vv] w (fun e w'=>∃S':List Nat,e=.returned (zI r)∧DU S S' w w'∧Vn 46 177 2 S' g w'.heap pp ip T'):=by
  refine Aq [zP g,ve,vv] 183 Tryz.func226 Z Z sM ?_
  have a2:At S w w:=At.refl S w
  have m5:=henv.lenL
  unfold maxLen at m5
  obtain⟨rc0,rg0,rv0,cj,cw⟩:=la
  have nx:=cj.lt
  have a0:DU S S w w:=DU.refl hS
  have hdk:=Dq ex
  have hlt:=Ip hrg
  have ap:=hbd.up (s':=s0+1) oM
  have lb:=Oi hwf hvp hF
  have lu:=hbd.2.1
  have lv:=hbd.2.2.1
  have hall:=(CZ<|CU hwf).1
  refine gL Z<|A0<|gK [0,0,0,2] Z<|Ad 1 Z<|AF (hex.isPtr) Z Aa ?_
  obtain⟨cs1,lc,a8⟩:=RN.at (Ax _) hex
  obtain⟨dd1,a4,lw,rfl,ah⟩:=RX.of lc
  have gu:=ah.rn.lenle
  unfold maxLen at gu
  refine AE (p:=ve) 0 Br Z (a8 _ a2) Aa<|Af (p:=An ve 0) (.inr Z) (zI ex.kind) AC Z ((a8 _ a2).ld (i:=0) FO) Aa<|Aj<|A3<|gK [0,0] Z ?_
  by_cases jv:ex.kind=((1:Nat):Int)
  ·
    refine Al true Z Z (A5 jv) Aa<|Ac 1 Z<|Ag Z<|A0<|AM _ [0,0,0,0,1,0,0,0,0,1,4,0] mixed (by kernel_rfl) ?_
    have hwk:=Mh hwf oM
    obtain⟨hre,hTe,_⟩:=Yb hrg oM
    refine Ad 2 Z<|AF (hex.isPtr) Z Aa<|AE (p:=ve) 1 BF Z (a8 _ a2.drew) Aa<|Af (p:=An ve 1) (.inl Z) (zI ex.num) AC Z ((a8 _ a2.drew).ld (i:=1) FO) Aa ?_
    have gv:∀(wq:World),(Instr.build 46 #[(0,zI ((2:Nat):Int)),(3,zI ex.num)]).run Tryz.prog wq=.ok (.agg #[zI ((2:Nat):Int),zI 0,zI 0,zI ex.num]) wq:=by intro wq;kernel_rfl
    refine BQ (ps:=#[(0,zI ((2:Nat):Int)),(3,zI ex.num)]) (.agg #[zI ((2:Nat):Int),zI 0,zI 0,zI ex.num]) OQ (fun wq=>gv  wq) Aa<|Ad 1 Z<|AF (hex.isPtr) Z Aa<|AE (p:=ve) 1 BF Z (a8 _ a2.drew) Aa<|Af (p:=An ve 1) (.inl Z) (zI ex.num) AC Z ((a8 _ a2.drew).ld (i:=1) FO) Aa ?_
    refine AD 180 [] [] [zP g,.agg #[zI ((2:Nat):Int),zI (0:Int),zI (0:Int),zI ex.num],zI ex.num] Z Z RO Aa (DA _ S g pp ip (T) (⟨((2:Nat):Int),(0:Int),(0:Int),ex.num⟩:As) (ex.num) (fun b hb=>(a0.drew.lt b hb:b<w.heap.size)) (a0.drew.sub _ hgS) ⟨_,_,_,cj,cw⟩ _hip (hbd.ln oM) hbd.1 ⟨(show Bn ((2:Nat):Int)from by omega),(show Bn (0:Int)from by omega),(show Bn (0:Int)from by omega),ah.rng.num⟩ ah.rng.num) ?_
    rintro e4 w4 ⟨S4,rfl,bj,ny,vg4,vv4,lf,lg⟩
    refine⟨_,rfl,?_⟩
    replace bj:=bj.of_drew
    have lh:w.heap.size≤w4.heap.size:=bj.chg.size
    have lx:At S w w4:=a2.stp bj.chg a0.new
    have li:=a0.trans bj
    exact Ac 1 Z<|A1<|AG<|Ao<|Ah [6] Z (zI (T.vals.length:Int)) Z ⟨_,(by rw[hre]),li,(by rw[hTe];exact⟨_,_,_,lf,lg⟩)⟩
  refine Al false Z Z (A6 jv) Aa<|Ac 1 Z<|Ai Z<|gK [0,0] Z ?_
  by_cases dx:ex.kind=((2:Nat):Int)
  ·
    refine Al true Z Z (A5 dx) Aa<|Ac 1 Z<|Ag Z<|gK [0,0,0,0,2,0,2,0] Z ?_
    have hwk:=Mi hwf oM
    have hRv:=hen ex.num.toNat oM
    obtain⟨hre,hTe,_⟩:=Yc hrg oM
    refine Ad 2 Z<|AF (hex.isPtr) Z Aa<|AE (p:=ve) 1 BF Z (a8 _ a2) Aa<|Af (p:=An ve 1) (.inr Z) (zI ex.num) AC Z ((a8 _ a2).ld (i:=1) FO) Aa<|Aw (v:=vv) ((ex.num).toNat) Bt BG Z Z henv.slL oM oM Aa ?_
    have gw:=RN.getI (w:=w) (k:=(ex.num).toNat) henv oM
    exact Af (p:=Ay vv ((ex.num).toNat) 1) (.inr Z) (zI<|env.getD ((ex.num).toNat) 0) AC Z (gw.1 _ a2) Aa<|Ac 1 Z<|A1<|AG<|Ao<|Ah [6] Z (zI<|env.getD ((ex.num).toNat) 0) Z ⟨_,(by rw[hre]),a0,(by rw[hTe];exact⟨_,_,_,cj,cw⟩)⟩
  refine Al false Z Z (A6 dx) Aa<|Ac 1 Z<|Ai Z<|gK [0,0] Z ?_
  by_cases dy:ex.kind=((7:Nat):Int)
  ·
    refine Al true Z Z (A5 dy) Aa<|Ac 1 Z<|Ag Z<|gK [0,0,0,0,2,0,0,4,0] Z ?_
    have hwk:=Oh hwf oM
    obtain⟨a1,T1,s1,h1,hre,hTe,_⟩:=bF hrg oM hwk
    refine Ad 2 Z<|AF (hex.isPtr) Z Aa<|AE (p:=ve) 4 Bc Z (a8 _ a2) Aa<|Af (p:=An ve 4) (.inr Z) a4 Bf Z ((a8 _ a2).ld (i:=4) FO) Aa<|Aw (v:=a4) 0 CR Bj Z Z ah.rn.isSl Z sD Aa<|Ad 1 Z ?_
    refine AD 226 [] [] [zP g,Ay a4 0 5,vv] Z Z Hm Aa (IH2 dd1 oM _ S g pp dp ip p (s0+1) (T) (Ay a4 0 5) (ex.kids.getD 0 Ex.zero) vv (env) a1 T1 s1 (fun b hb=>(a0.lt b hb:b<w.heap.size)) (a0.sub _ hgS) ⟨_,_,_,cj,cw⟩ (RN.stp (AS<|AN dp) hp a2 a0.new) _hip oM ap (RN.ptr (Ax dd1) (by decide) Ex.zero (RN.stp (Am<|Ax dd1) ah.rn a2 a0.new) sD) (RN.stp g1 henv a2 a0.new) hqenv FP oM JN OR hen h1) ?_
    rintro nz mh ⟨n9,rfl,bk,na,vg14,vv14,dz,ck⟩
    refine⟨_,rfl,?_⟩
    have jw:w.heap.size≤mh.heap.size:=bk.chg.size
    have gx:At S w mh:=a2.stp bk.chg a0.new
    have cl:=a0.trans bk
    have cx:=D8 hvp F hF _ (C1 hwf oM oM) (hen) ap hlt h1
    have dc:=cx.1
    have b6:=dc.bnd
    have jx:=dc.le
    have jy:=dc.vl
    have jz:=b6.2.1
    have k0:=cx.2
    have e0:Bn (a1):=by omega
    refine Ac 1 Z<|gK [0,0,0,0,0,0,2,0,0,2,0,4,0] Z ?_
    have hat:=BW b6.2.2.2 a1.toNat
    refine Ad 2 Z ?_
    have e1:∀(wq:World),(Instr.build 46 #[(0,zI ((7:Nat):Int)),(1,zI a1)]).run Tryz.prog wq=.ok (.agg #[zI ((7:Nat):Int),zI a1,zI 0,zI 0]) wq:=by intro wq;kernel_rfl
    refine BQ (ps:=#[(0,zI ((7:Nat):Int)),(1,zI a1)]) (.agg #[zI ((7:Nat):Int),zI a1,zI 0,zI 0]) OQ (fun wq=>e1  wq) Aa<|Ad 1 Z<|AV Z Aa<|Ak (p:=zP g) 5 IU Z Z Aa<|Af (p:=An (zP g) 5) (.inr Z) vv14 B6 Z (dz.ldp (i:=5) sM) Aa<|Ad 1 Z<|Aw (v:=vv14) ((a1).toNat) Bt BG Z Z (BK.slv ck) oM oM Aa (Af (p:=Ay vv14 ((a1).toNat) 1) (.inr Z) (zI<|T1.vals.getD ((a1).toNat) 0) AC Z ((BK.rdv ck).getI oM).1 Aa ?_)
    refine AB 245 [] [] [zI<|T1.vals.getD ((a1).toNat) 0] Z Z dH Aa (zI<|md (-(T1.vals.getD ((a1).toNat) 0))) (fun wq=>Nk wq _ ((BK.rdv ck).getI oM).2 oM)<|AD 180 [] [] [zP g,.agg #[zI ((7:Nat):Int),zI a1,zI (0:Int),zI (0:Int)],zI<|md (-(T1.vals.getD ((a1).toNat) 0))] Z Z RO Aa (DA _ n9 g pp ip (T1) (⟨((7:Nat):Int),a1,(0:Int),(0:Int)⟩:As) (md (-(T1.vals.getD ((a1).toNat) 0))) (fun b hb=>(cl.lt b hb:b<mh.heap.size)) (cl.sub _ hgS) ⟨_,_,_,dz,ck⟩ _hip (b6.ln oM) b6.1 ⟨(show Bn ((7:Nat):Int)from by omega),e0,(show Bn (0:Int)from by omega),(show Bn (0:Int)from by omega)⟩<|Eo _) ?_
    rintro o0 mt ⟨o4,rfl,bl,nb,vg23,vv23,gy,gz⟩
    refine⟨_,rfl,?_⟩
    have k1:mh.heap.size≤mt.heap.size:=bl.chg.size
    have lj:At S w mt:=gx.stp bl.chg cl.new
    have i0:=cl.trans bl
    exact Ac 1 Z<|A1<|AG<|Ao<|Ah [6] Z (zI (T1.vals.length:Int)) Z ⟨_,(by rw[hre]),i0,(by rw[hTe];exact⟨_,_,_,gy,gz⟩)⟩
  refine Al false Z Z (A6 dy) Aa<|Ac 1 Z<|Ai Z<|gK [0,0] Z ?_
  by_cases e2:ex.kind=((8:Nat):Int)
  ·
    refine Al true Z Z (A5 e2) Aa<|Ac 1 Z<|Ag Z<|gK [0,0,0,0,2,0,0,4,0] Z ?_
    have hwk:=Pe hwf oM
    obtain⟨a1,T1,s1,h1,h2,h3⟩:=Yd hrg oM hwk
    refine Ad 2 Z<|AF (hex.isPtr) Z Aa<|AE (p:=ve) 4 Bc Z (a8 _ a2) Aa<|Af (p:=An ve 4) (.inr Z) a4 Bf Z ((a8 _ a2).ld (i:=4) FO) Aa<|Aw (v:=a4) 0 CR Bj Z Z ah.rn.isSl Z sD Aa<|Ad 1 Z ?_
    refine AD 226 [] [] [zP g,Ay a4 0 5,vv] Z Z Hm Aa (IH2 dd1 oM _ S g pp dp ip p (s0+1) (T) (Ay a4 0 5) (ex.kids.getD 0 Ex.zero) vv (env) a1 T1 s1 (fun b hb=>(a0.lt b hb:b<w.heap.size)) (a0.sub _ hgS) ⟨_,_,_,cj,cw⟩ (RN.stp (AS<|AN dp) hp a2 a0.new) _hip oM ap (RN.ptr (Ax dd1) (by decide) Ex.zero (RN.stp (Am<|Ax dd1) ah.rn a2 a0.new) sD) (RN.stp g1 henv a2 a0.new) hqenv FP oM JN OR hen h1) ?_
    rintro o5 ly ⟨mu,rfl,bm,m6,vg32,vv32,dd,cm⟩
    refine⟨_,rfl,?_⟩
    have k2:w.heap.size≤ly.heap.size:=bm.chg.size
    have e3:At S w ly:=a2.stp bm.chg a0.new
    have de:=a0.trans bm
    have cy:=D8 hvp F hF _ (C1 hwf oM oM) (hen) ap hlt h1
    have df:=cy.1
    have bn:=df.bnd
    have k3:=df.le
    have e5:=df.vl
    have k4:=bn.2.1
    have k5:=cy.2
    have e6:Bn (a1):=by omega
    have hq1v:=e5
    refine Ac 1 Z<|gK [0,0,0,2,0,0,2,0,0] Z<|Ad 1 Z<|AV Z Aa<|Ak (p:=zP g) 5 IU Z Z Aa<|Af (p:=An (zP g) 5) (.inr Z) vv32 B6 Z (dd.ldp (i:=5) sM) Aa<|Ad 1 Z<|Aw (v:=vv32) ((a1).toNat) Bt BG Z Z (BK.slv cm) oM oM Aa (Af (p:=Ay vv32 ((a1).toNat) 1) (.inr Z) (zI<|T1.vals.getD ((a1).toNat) 0) AC Z ((BK.rdv cm).getI oM).1 Aa (Al (decide (T1.vals.getD ((a1).toNat) 0=((0:Nat):Int))) Z Z Z Aa<|Ac 1 Z<|A0 ?_))
    obtain⟨Fc39,Fg39,Fv39,bo,e7,bp,aq,b7,e8,cz,e9⟩:=id cm
    refine Ab _ [0,0,0,0,0,2,0,0,0,3,4,0,0,0,4] Z<|Ad 2 Z<|AV Z Aa<|Ak (p:=zP g) 1 GO Z Z Aa<|Ak (p:=An (zP g) 1) (b:=g) (o:=1) 2 HM Z Z Aa<|Af (p:=An (An (zP g) 1) 2) (.inr Z) vg32 MN Z (dd.ldp (i:=3) sM) Aa<|Ad 2 Z ?_
    have ea:∀(wq:World),(Instr.build 177 #[(0,zI a1),(1,.bool (decide (T1.vals.getD ((a1).toNat) 0=((0:Nat):Int))))]).run Tryz.prog wq=.ok (.agg #[zI a1,.bool (decide (T1.vals.getD ((a1).toNat) 0=((0:Nat):Int)))]) wq:=by intro wq;kernel_rfl
    refine BQ (ps:=#[(0,zI a1),(1,.bool<|decide (T1.vals.getD ((a1).toNat) 0=((0:Nat):Int)))]) (.agg #[zI a1,.bool<|decide (T1.vals.getD ((a1).toNat) 0=((0:Nat):Int))]) OQ (fun wq=>ea  wq) Aa (ES (cs:=[zI a1,.bool<|decide (T1.vals.getD ((a1).toNat) 0=((0:Nat):Int))]) (y:=(⟨a1,decide (T1.vals.getD ((a1).toNat) 0=((0:Nat):Int))⟩:Hh)) (B:=ly.heap.size) Bb Vp L3 Z (by decide) Z (TA (x:=(⟨a1,decide (T1.vals.getD ((a1).toNat) 0=((0:Nat):Int))⟩:Hh)) (B:=ly.heap.size) (U:=ly.heap.size) e6) (A7 _) Aa fun nc ml a5 lk i1=>?_)
    have k6:ly.heap.size≤ml.heap.size:=a5.size
    have ll:At S w ml:=e3.ext a5
    have cn:=dd.ext a5
    have lm:=(BK.rdv cm).ext g1 a5
    have i2:=de.ext a5
    have hOc39x:=bo.ext (Au AY) a5
    have hOg39x:=e7.ext (Au Bb) a5
    have hOv39x:=bp.ext (AZ AJ) a5
    refine KW (v:=vg32) (a:=nc) Bb Vp L3 Z (by decide) Z Z hOg39x i1 (A7 _) (Nat.zero_le _) (Nat.zero_le _) oM (by unfold maxLen;omega) Aa fun mv lz mw bq eb co=>?_
    have ec:ml.heap.size≤lz.heap.size:=bq.size
    obtain⟨mi,d0⟩:∃l:List Nat,l=mw++mu:=⟨_,rfl⟩
    have br:DU mu mi ly lz:=by rw[d0];exact⟨fun b hb=>z1 _ hb,fun b hb=>by rcases zi.1 hb with hb|hb;(rcases co b hb with h9|h9|h9;exact .inl (cz b h9);(have:=a5.size;omega);(have:=a5.size;omega));exact .inl hb,fun b hb=>by rcases zi.1 hb with hb|hb;exact eb.high b hb;(have:=i2.lt b hb;omega),(At.of_ext _ a5).trans (bq.sub cz)⟩
    have ed:BK 46 177 2 mi g lz.heap m6 mv vv32 (T1.guard (a1) (decide (T1.vals.getD ((a1).toNat) 0=((0:Nat):Int)))):=⟨Fc39,mw,Fv39,(hOc39x.up a5.size).chgS (Au AY) bq (fun b hb hm=>aq.1 b hm hb),eb,(hOv39x.up a5.size).chgS (AZ AJ) bq (fun b hb hm=>aq.2.2 b hb hm),⟨fun b hb hm=>by rcases co b hm with h9|h9|h9;exact aq.1 b hb h9;(have:=bo.high b hb;omega);(have:=bo.high b hb;have:=a5.size;omega),aq.2.1,fun b hm hb=>by rcases co b hm with h9|h9|h9;exact aq.2.2 b h9 hb;(have:=bp.high b hb;omega);(have:=bp.high b hb;have:=a5.size;omega)⟩,⟨b7.1,fun hm=>by rcases co g hm with h9|h9|h9;exact b7.2.1 h9;omega;omega,b7.2.2⟩,by rw[d0];exact⟨fun b hb=>z1 _ (e8 b hb),fun b hb=>z8 _ hb,fun b hb=>z1 _ (e9 b hb)⟩⟩
    have i3:=cn.chg bq b7.2.1
    have ec:ly.heap.size≤lz.heap.size:=br.chg.size
    have i4:At S w lz:=e3.stp br.chg de.new
    have i5:=de.trans br
    have k7:(T1.guard (a1) (decide (T1.vals.getD ((a1).toNat) 0=((0:Nat):Int)))).vals.length=T1.vals.length:=rfl
    have k8:(T1.guard (a1) (decide (T1.vals.getD ((a1).toNat) 0=((0:Nat):Int)))).grd.length=T1.grd.length+1:=Mv _ _ _
    refine AV Z Aa<|Ak (p:=zP g) 1 GO Z Z Aa<|Ak (p:=An (zP g) 1) (b:=g) (o:=1) 2 HM Z Z Aa (Bm (k:=3) (w:=lz) dR Z Z (Bg ed.slg) i3 sM Aa fun m0 cp lo cq=>?_)
    replace cq:BX m0.heap g [pp,zI ip,m6,mv,zN,vv32]:=cq
    have aa:At S w m0:=i4.trans (cp.sub (B7 hgS))
    have ee:=BK.chg ed cp
    have a6:=i5.set hgS cp
    have k9:lz.heap.size≤m0.heap.size:=cp.size
    refine Aj<|A0<|gK [0] Z<|Ac 1 Z ?_
    cases cr:(decide (T1.vals.getD ((a1).toNat) 0=((0:Nat):Int)))
    ·
      have ka:=of_decide_eq_false cr
      refine Ai (by first|rfl|exact zW cr)<|A2<|gK [0,0,0,0,2,0,0,4,0] Z ?_
      have hbg:GK (T1.guard (a1) (decide (T1.vals.getD ((a1).toNat) 0=((0:Nat):Int)))) s1:=GK.guard bn _ _ oM
      have ax:=h3 (by assumption)
      rw[← A6 (by assumption:¬T1.vals.getD (a1).toNat 0=0)]at ax
      refine Ad 2 Z<|AF (hex.isPtr) Z Aa<|AE (p:=ve) 4 Bc Z (a8 _ aa) Aa<|Af (p:=An ve 4) (.inr Z) a4 Bf Z ((a8 _ aa).ld (i:=4) FO) Aa<|Aw (v:=a4) 2 CR Bj Z Z ah.rn.isSl Z sD Aa<|Ad 1 Z ?_
      refine AD 226 [] [] [zP g,Ay a4 2 5,vv] Z Z Hm Aa (IH2 dd1 oM _ mi g pp dp ip p (s1) (T1.guard (a1)<|decide (T1.vals.getD ((a1).toNat) 0=((0:Nat):Int))) (Ay a4 2 5) (ex.kids.getD 2 Ex.zero) vv (env) r T' s' (fun b hb=>(a6.lt b hb:b<m0.heap.size)) (a6.sub _ hgS) ⟨_,_,_,cq,ee⟩ (RN.stp (AS<|AN dp) hp aa a6.new) _hip oM hbg (RN.ptr (Ax dd1) (by decide) Ex.zero (RN.stp (Am<|Ax dd1) ah.rn aa a6.new) sD) (RN.stp g1 henv aa a6.new) hqenv FP oM JN (zH<|CS (l:=ex.kids) (k:=2) oM) (by exact hen.mono (by simp only[Hj];omega)) ax) ?_
      rintro o6 mx ⟨o7,rfl,bs,nd,vg59,vv59,i6,i7⟩
      refine⟨_,rfl,?_⟩
      have kb:m0.heap.size≤mx.heap.size:=bs.chg.size
      have lp:At S w mx:=aa.stp bs.chg a6.new
      have i8:=a6.trans bs
      have d1:=D8 hvp F hF _ (C1 hwf oM oM) (hen.mono (by simp only[Hj];omega)) hbg oM ax
      have dg:=d1.1
      have ef:=dg.bnd
      have kc:=dg.le
      have kd:=dg.vl
      have ke:=ef.2.1
      have kf:=d1.2
      have kg:Bn (r):=by omega
      exact Ac 1 Z<|A1<|AG<|Ao<|Ah [6] Z (zI r) Z ⟨_,(by rfl),i8,(by exact⟨_,_,_,i6,i7⟩)⟩
    have kh:=of_decide_eq_true cr
    refine Ag (by first|rfl|exact zW cr)<|gK [0,0,0,0,2,0,0,4,0] Z ?_
    have hbg:GK (T1.guard (a1) (decide (T1.vals.getD ((a1).toNat) 0=((0:Nat):Int)))) s1:=GK.guard bn _ _ oM
    have ax:=h2 (by assumption)
    rw[← A5 (by assumption:T1.vals.getD (a1).toNat 0=0)]at ax
    refine Ad 2 Z<|AF (hex.isPtr) Z Aa<|AE (p:=ve) 4 Bc Z (a8 _ aa) Aa<|Af (p:=An ve 4) (.inr Z) a4 Bf Z ((a8 _ aa).ld (i:=4) FO) Aa<|Aw (v:=a4) 1 CR Bj Z Z ah.rn.isSl Z sD Aa<|Ad 1 Z ?_
    refine AD 226 [] [] [zP g,Ay a4 1 5,vv] Z Z Hm Aa (IH2 dd1 oM _ mi g pp dp ip p (s1) (T1.guard (a1)<|decide (T1.vals.getD ((a1).toNat) 0=((0:Nat):Int))) (Ay a4 1 5) (ex.kids.getD 1 Ex.zero) vv (env) r T' s' (fun b hb=>(a6.lt b hb:b<m0.heap.size)) (a6.sub _ hgS) ⟨_,_,_,cq,ee⟩ (RN.stp (AS<|AN dp) hp aa a6.new) _hip oM hbg (RN.ptr (Ax dd1) (by decide) Ex.zero (RN.stp (Am<|Ax dd1) ah.rn aa a6.new) sD) (RN.stp g1 henv aa a6.new) hqenv FP oM JN (zH<|CS (l:=ex.kids) (k:=1) oM) (by exact hen.mono (by simp only[Hj];omega)) ax) ?_
    rintro o8 my ⟨o9,rfl,bt,nf,vg68,vv68,i9,ia⟩
    refine⟨_,rfl,?_⟩
    have ki:m0.heap.size≤my.heap.size:=bt.chg.size
    have lq:At S w my:=aa.stp bt.chg a6.new
    have ib:=a6.trans bt
    have d2:=D8 hvp F hF _ (C1 hwf oM oM) (hen.mono (by simp only[Hj];omega)) hbg oM ax
    have dh:=d2.1
    have eg:=dh.bnd
    have kj:=dh.le
    have kk:=dh.vl
    have kl:=eg.2.1
    have km:=d2.2
    have kn:Bn (r):=by omega
    exact Ac 1 Z<|A1<|Ao<|AG<|Ao<|Ah [6] Z (zI r) Z ⟨_,(by rfl),ib,(by exact⟨_,_,_,i9,ia⟩)⟩
  refine Al false Z Z (A6 e2) Aa<|Ac 1 Z<|Ai Z<|gK [0,0] Z ?_
  by_cases eh:ex.kind=((9:Nat):Int)
  ·
    refine Al true Z Z (A5 eh) Aa<|Ac 1 Z<|Ag Z<|gK [0,0,0,0,2,0,0,4,0] Z ?_
    have hwk:=Mj hwf oM
    obtain⟨a1,T1,s1,h1,h2⟩:=Ye hrg oM hwk
    refine Ad 2 Z<|AF (hex.isPtr) Z Aa<|AE (p:=ve) 4 Bc Z (a8 _ a2) Aa<|Af (p:=An ve 4) (.inr Z) a4 Bf Z ((a8 _ a2).ld (i:=4) FO) Aa<|Aw (v:=a4) 0 CR Bj Z Z ah.rn.isSl Z sD Aa<|Ad 1 Z ?_
    refine AD 226 [] [] [zP g,Ay a4 0 5,vv] Z Z Hm Aa (IH2 dd1 oM _ S g pp dp ip p (s0+1) (T) (Ay a4 0 5) (ex.kids.getD 0 Ex.zero) vv (env) a1 T1 s1 (fun b hb=>(a0.lt b hb:b<w.heap.size)) (a0.sub _ hgS) ⟨_,_,_,cj,cw⟩ (RN.stp (AS<|AN dp) hp a2 a0.new) _hip oM ap (RN.ptr (Ax dd1) (by decide) Ex.zero (RN.stp (Am<|Ax dd1) ah.rn a2 a0.new) sD) (RN.stp g1 henv a2 a0.new) hqenv FP oM JN OR hen h1) ?_
    rintro oa f2 ⟨f3,rfl,bu,ng,vg77,vv77,ei,ej⟩
    refine⟨_,rfl,?_⟩
    have ko:w.heap.size≤f2.heap.size:=bu.chg.size
    have bv:At S w f2:=a2.stp bu.chg a0.new
    have bc:=a0.trans bu
    have d3:=D8 hvp F hF _ (C1 hwf oM oM) (hen) ap hlt h1
    have di:=d3.1
    have ar:=di.bnd
    have ek:=di.le
    have el:=di.vl
    have kp:=ar.2.1
    have em:=d3.2
    have bw:Bn (a1):=by omega
    have hRa:=em
    have hbA:=ar
    have hlA:=ek
    have hvA:=el
    refine Ac 1 Z<|A0 ?_
    letI:JR:=hJ f2.heap.size
    refine Jx.aH _ [0,0,0,0,1,0,0,3,0,3,3,4,0] [0,1,2,3,4,5,6,8] 7 9 [10,11,12] 9 [10,11,12] 9 [7,10,11,12] [_,_,_,_,_,_,_,_] [0,0,0,0,1,0,0,0] _ _ [_,_,_] [3,4,0] _ [_,_,_] [3,4,0] _ [_,_,_,_] [3,3,4,0] mixed (by kernel_rfl) ⟨rfl,rfl,⟨rfl,rfl,⟨rfl,rfl,⟨rfl,rfl,⟨rfl,rfl,⟨rfl,rfl,⟨rfl,rfl,⟨rfl,rfl,trivial⟩⟩⟩⟩⟩⟩⟩⟩ ⟨rfl,rfl,trivial⟩ ⟨rfl,rfl,⟨rfl,rfl,⟨rfl,rfl,⟨rfl,rfl,trivial⟩⟩⟩⟩ ⟨rfl,rfl,⟨rfl,rfl,⟨rfl,rfl,⟨rfl,rfl,trivial⟩⟩⟩⟩ ⟨rfl,rfl,⟨rfl,rfl,⟨rfl,rfl,⟨rfl,rfl,⟨rfl,rfl,trivial⟩⟩⟩⟩⟩<|Jx.YM (zP g) Z Aa<|Jx.YM ve Z Aa<|Jx.j1<|AF (hex.isPtr) Z Aa<|Aj<|Jx.j1<|AE (p:=ve) 4 Bc Z (a8 _ bv.drew) Aa<|Aj ?_
    refine Jx.eO (p:=An ve 4) a4 Bf Z (fun wj hj=>by obtain⟨F9,h8,h9⟩:=hj;exact(a8 _<|At.fresh bv.drew h9 fun c hc=>zH<|h8 c hc).ld (i:=4) (by simp[DR])) Aa<|Jx.j1<|Aw (v:=a4) 1 CR Bj Z Z ah.rn.isSl Z sD Aa<|Aj<|Jx.YM vv Z Aa<|Jx.YM (zI a1) Z Aa<|Jx.Aj ⟨?_,?_⟩
    ·
      refine Jx.fa<|Ap 83 [] [] [vv] Z Z MH Aa (BY _ _ _ (RN.stp g1 henv bv.drew bc.drew.new).rd sD) ?_
      rintro ob f1 ⟨d4,rfl,au,ao⟩
      refine⟨_,rfl,au,?_⟩
      replace au:=au.of_drew
      have kq:f2.heap.size≤f1.heap.size:=au.size
      have en:At S w f1:=bv.ext au
      have b8:=ei.ext au
      have eo:=BK.ext ej au
      have ep:=bc.ext au
      replace ao:=ao.low (B':=f2.heap.size)<|A7 _
      refine Aj<|Jx.Aj ⟨?_,?_⟩
      ·
        refine Jx.fa ?_
        refine (BA (u:=zI a1) (B:=f1.heap.size) AJ Bt BG Z Z (Nb f1.heap.size f1.heap.size _ _ bw) (A7 _) Aa ?_)
        intro nh mm bd lr ic
        have kr:f1.heap.size≤mm.heap.size:=bd.size
        have ie:At S w mm:=en.ext bd
        have ct:=b8.ext bd
        have be:=ao.ext (o1) bd
        have ig:=BK.ext eo bd
        have eq:=ep.ext bd
        refine Aj ?_
        obtain⟨Fo0,a3⟩:=Ow.of_fr be (A7 _)
        have av:∀b∈Fo0,b∉f3:=fun b hb hm=>by have:=a3.low b hb;have:=bc.lt b hm;omega
        refine Jx.gP (FI (v:=d4) (a:=nh) Bt BG Z Z Z a3 ic.rd1 oM sD QD Aa fun mz mj n0 bf cu ih=>?_)
        have ks:mm.heap.size≤mj.heap.size:=bf.size
        have dj:At S w mj:=ie.fresh bf (fun c hc=>zH<|a3.low c hc)
        have dk:∀b∈n0,b∉f3:=fun b hb hm=>(ih b hb).elim (fun h9=>av b h9 hm) (fun h9=>zH<|eq.lt b hm)
        have ii:=BK.chgO ig bf av
        have bg:=eq.fresh bf fun c hc=>zH<|a3.low c hc
        have ij:=ct.chg bf fun hm=>zH<|a3.low _ hm
        refine Aj ⟨⟨_,fun c hc=>zH<|a3.low c hc,bf⟩,?_⟩
        refine Jx.VI Z ?_
        refine AD 226 [] [] [zP g,Ay a4 1 5,mz] Z Z Hm Aa (IH2 dd1 oM _ f3 g pp dp ip p (s1) (T1) (Ay a4 1 5) (ex.kids.getD 1 Ex.zero) mz (env++[a1]) r T' s' (fun b hb=>(bg.lt b hb:b<mj.heap.size)) (bg.sub _ hgS) ⟨_,_,_,ij,ii⟩ (RN.stp (AS<|AN dp) hp dj bg.new) _hip oM ar (RN.ptr (Ax dd1) (by decide) Ex.zero (RN.stp (Am<|Ax dd1) ah.rn dj bg.new) sD) (RN.of_ow cu dk) cu.fr.cap FP oM QF QE (by exact Gj.snoc (hen.mono oM) hRa) h2) ?_
        rintro oc n1 ⟨ni,rfl,aw,nj,vg95,vv95,ik,il⟩
        refine⟨_,rfl,?_⟩
        have kt:mj.heap.size≤n1.heap.size:=aw.chg.size
        have ls:At S w n1:=dj.stp aw.chg bg.new
        have ku:=cu.keep (AZ AJ) aw.chg fun b hb hm=>dk b hm hb
        have gr:∀b∈n0,b∉ni:=fun b hb hm=>(aw.new b hm).elim (dk b hb) (fun h9=>zH<|cu.high b hb)
        have im:=bg.trans aw
        have d5:=D8 hvp F hF _ QG (Gj.snoc (hen.mono oM) hRa) hbA hlA.2 h2
        have dl:=d5.1
        have er:=dl.bnd
        have kv:=dl.le
        have kw:=dl.vl
        have kx:=er.2.1
        have ky:=d5.2
        have kz:Bn (r):=by omega
        exact Ac 1 Z<|A1<|AG<|Ao<|Ah [6] Z (zI r) Z ⟨_,(by rfl),im,(by exact⟨_,_,_,ik,il⟩)⟩
      refine Jx.fa ?_
      refine (BA (u:=zI a1) (B:=f1.heap.size) AJ Bt BG Z Z (Nb f1.heap.size f1.heap.size _ _ bw) (A7 _) Aa ?_)
      intro mn m1 ai l0 es
      have io:f1.heap.size≤m1.heap.size:=ai.size
      have et:At S w m1:=en.ext ai
      have bx:=b8.ext ai
      have ay:=ao.ext (o1) ai
      have eu:=BK.ext eo ai
      have d6:=ep.ext ai
      refine Aj ?_
      obtain⟨Fo0,a3⟩:=Ow.of_fr ay (A7 _)
      have av:∀b∈Fo0,b∉f3:=fun b hb hm=>by have:=a3.low b hb;have:=bc.lt b hm;omega
      refine Jx.gP (FI (v:=d4) (a:=mn) Bt BG Z Z Z a3 es.rd1 oM sD QD Aa fun m7 f4 m8 aj b9 ev=>?_)
      have iq:m1.heap.size≤f4.heap.size:=aj.size
      have bz:At S w f4:=et.fresh aj (fun c hc=>zH<|a3.low c hc)
      have c0:∀b∈m8,b∉f3:=fun b hb hm=>(ev b hb).elim (fun h9=>av b h9 hm) (fun h9=>zH<|d6.lt b hm)
      have ew:=BK.chgO eu aj av
      have ak:=d6.fresh aj fun c hc=>zH<|a3.low c hc
      have ey:=bx.chg aj fun hm=>zH<|a3.low _ hm
      refine Aj ⟨⟨_,fun c hc=>zH<|a3.low c hc,aj⟩,?_⟩
      refine Jx.VI Z ?_
      refine AD 226 [] [] [zP g,Ay a4 1 5,m7] Z Z Hm Aa (IH2 dd1 oM _ f3 g pp dp ip p (s1) (T1) (Ay a4 1 5) (ex.kids.getD 1 Ex.zero) m7 (env++[a1]) r T' s' (fun b hb=>(ak.lt b hb:b<f4.heap.size)) (ak.sub _ hgS) ⟨_,_,_,ey,ew⟩ (RN.stp (AS<|AN dp) hp bz ak.new) _hip oM ar (RN.ptr (Ax dd1) (by decide) Ex.zero (RN.stp (Am<|Ax dd1) ah.rn bz ak.new) sD) (RN.of_ow b9 c0) b9.fr.cap FP oM QF QE (by exact Gj.snoc (hen.mono oM) hRa) h2) ?_
      rintro nk m9 ⟨mo,rfl,ab,n2,vg112,vv112,ez,g0⟩
      refine⟨_,rfl,?_⟩
      have ir:f4.heap.size≤m9.heap.size:=ab.chg.size
      have l1:At S w m9:=bz.stp ab.chg ak.new
      have l2:=b9.keep (AZ AJ) ab.chg fun b hb hm=>c0 b hm hb
      have gs:∀b∈m8,b∉mo:=fun b hb hm=>(ab.new b hm).elim (c0 b hb) (fun h9=>zH<|b9.high b hb)
      have g2:=ak.trans ab
      have c1:=D8 hvp F hF _ QG (Gj.snoc (hen.mono oM) hRa) hbA hlA.2 h2
      have c2:=c1.1
      have dm:=c2.bnd
      have is:=c2.le
      have it:=c2.vl
      have iu:=dm.2.1
      have iv:=c1.2
      have iw:Bn (r):=by omega
      exact Ac 1 Z<|A1<|AG<|Ao<|Ah [6] Z (zI r) Z ⟨_,(by rfl),g2,(by exact⟨_,_,_,ez,g0⟩)⟩
    refine Jx.fa ?_
    refine (BA (u:=zI a1) (B:=f2.heap.size) AJ Bt BG Z Z (Nb f2.heap.size f2.heap.size _ _ bw) (A7 _) Aa ?_)
    intro mp m2 ac l3 g3
    replace ac:=ac.of_drew
    have ix:f2.heap.size≤m2.heap.size:=ac.size
    have d7:At S w m2:=bv.ext ac
    have c3:=ei.ext ac
    have g4:=BK.ext ej ac
    have d8:=bc.ext ac
    refine Aj<|Jx.fa<|Ap 83 [] [] [vv] Z Z MH Aa (BY _ _ _ (RN.stp g1 henv d7 d8.new).rd sD) ?_
    rintro nl m3 ⟨dn,rfl,ad,cv⟩
    refine⟨_,rfl,ad,?_⟩
    have iy:m2.heap.size≤m3.heap.size:=ad.size
    have g5:At S w m3:=d7.ext ad
    have c4:=c3.ext ad
    have bh:=g3.ext (o1) ad
    have g6:=BK.ext g4 ad
    have d9:=d8.ext ad
    refine Aj ?_
    obtain⟨Fo0,a3⟩:=Ow.of_fr cv (A7 _)
    have av:∀b∈Fo0,b∉f3:=fun b hb hm=>by have:=a3.low b hb;have:=bc.lt b hm;omega
    refine Jx.gP (FI (v:=dn) (a:=mp) Bt BG Z Z Z a3 bh.rd1 oM sD QD Aa fun ma fe mb al ba g7=>?_)
    have iz:m3.heap.size≤fe.heap.size:=al.size
    have c5:At S w fe:=g5.fresh al (fun c hc=>zH<|a3.low c hc)
    have c6:∀b∈mb,b∉f3:=fun b hb hm=>(g7 b hb).elim (fun h9=>av b h9 hm) (fun h9=>zH<|d9.lt b hm)
    have g8:=BK.chgO g6 al av
    have am:=d9.fresh al fun c hc=>zH<|a3.low c hc
    have g9:=c4.chg al fun hm=>zH<|a3.low _ hm
    refine Aj ⟨⟨_,fun c hc=>zH<|a3.low c hc,al⟩,?_⟩
    refine Jx.VI Z ?_
    refine AD 226 [] [] [zP g,Ay a4 1 5,ma] Z Z Hm Aa (IH2 dd1 oM _ f3 g pp dp ip p (s1) (T1) (Ay a4 1 5) (ex.kids.getD 1 Ex.zero) ma (env++[a1]) r T' s' (fun b hb=>(am.lt b hb:b<fe.heap.size)) (am.sub _ hgS) ⟨_,_,_,g9,g8⟩ (RN.stp (AS<|AN dp) hp c5 am.new) _hip oM ar (RN.ptr (Ax dd1) (by decide) Ex.zero (RN.stp (Am<|Ax dd1) ah.rn c5 am.new) sD) (RN.of_ow ba c6) ba.fr.cap FP oM QF QE (by exact Gj.snoc (hen.mono oM) hRa) h2) ?_
    rintro nm mc ⟨mq,rfl,ae,n3,vg131,vv131,ga,gb⟩
    refine⟨_,rfl,?_⟩
    have j0:fe.heap.size≤mc.heap.size:=ae.chg.size
    have l4:At S w mc:=c5.stp ae.chg am.new
    have l5:=ba.keep (AZ AJ) ae.chg fun b hb hm=>c6 b hm hb
    have gt:∀b∈mb,b∉mq:=fun b hb hm=>(ae.new b hm).elim (c6 b hb) (fun h9=>zH<|ba.high b hb)
    have gc:=am.trans ae
    have c7:=D8 hvp F hF _ QG (Gj.snoc (hen.mono oM) hRa) hbA hlA.2 h2
    have c8:=c7.1
    have dq:=c8.bnd
    have j2:=c8.le
    have j3:=c8.vl
    have j4:=dq.2.1
    have j5:=c7.2
    have j6:Bn (r):=by omega
    exact Ac 1 Z<|A1<|AG<|Ao<|Ah [6] Z (zI r) Z ⟨_,(by rfl),gc,(by exact⟨_,_,_,ga,gb⟩)⟩
  refine Al false Z Z (A6 eh) Aa<|Ac 1 Z<|Ai Z<|A0<|gK [0,0] Z ?_
  by_cases da:ex.kind=((10:Nat):Int)
  ·
    refine Al true Z Z (A5 da) Aa<|Ac 1 Z<|Ag Z<|A2<|Ag Z<|gK [0,0,0,4,0] Z<|Ad 3 Z<|AD 246 [] [] [zP g,ve,vv] Z Z Yy Aa (Gw _ S F r T' s' g pp dp ip p (s0) (T) dex ve (ex) vv (env) (fun b hb=>(a0.lt b hb:b<w.heap.size)) (a0.sub _ hgS) ⟨_,_,_,cj,cw⟩ (RN.stp (AS<|AN dp) hp a2 a0.new) _hip oM hbd (RN.stp (AS<|Ax dex) hex a2 a0.new) (RN.stp g1 henv a2 a0.new) hqenv FP oM hwf hdp hen hrg oM IH1 IH2) ?_
    rintro nn me ⟨no,rfl,az,n4,vg140,vv140,gd,ge⟩
    refine⟨_,rfl,?_⟩
    have j7:w.heap.size≤me.heap.size:=az.chg.size
    have l6:At S w me:=a2.stp az.chg a0.new
    have gf:=a0.trans az
    have c9:=D8 hvp F hF _ hwf hen hbd ju hrg
    have ca:=c9.1
    have dr:=ca.bnd
    have j8:=ca.le
    have j9:=ca.vl
    have ja:=dr.2.1
    have jb:=c9.2
    have jc:Bn (r):=by omega
    exact Ac 1 Z<|A1<|AG<|Ao<|Ah [6] Z (zI r) Z ⟨_,(by rfl),gf,(by exact⟨_,_,_,gd,ge⟩)⟩
  refine Al false Z Z (A6 da) Aa<|Ac 1 Z<|Ai Z<|Ab _ [0,0] Z ?_
  by_cases db:ex.kind=((11:Nat):Int)
  ·
    refine Al true Z Z (A5 db) Aa<|Ac 1 Z<|Ag Z<|gK [0,0,0,4,0] Z<|Ad 3 Z<|AD 246 [] [] [zP g,ve,vv] Z Z Yy Aa (Gw _ S F r T' s' g pp dp ip p (s0) (T) dex ve (ex) vv (env) (fun b hb=>(a0.lt b hb:b<w.heap.size)) (a0.sub _ hgS) ⟨_,_,_,cj,cw⟩ (RN.stp (AS<|AN dp) hp a2 a0.new) _hip oM hbd (RN.stp (AS<|Ax dex) hex a2 a0.new) (RN.stp g1 henv a2 a0.new) hqenv FP oM hwf hdp hen hrg oM IH1 IH2) ?_
    rintro np mf ⟨nq,rfl,b0,n5,vg148,vv148,gg,gh⟩
    refine⟨_,rfl,?_⟩
    have jd:w.heap.size≤mf.heap.size:=b0.chg.size
    have l7:At S w mf:=a2.stp b0.chg a0.new
    have gi:=a0.trans b0
    have cb:=D8 hvp F hF _ hwf hen hbd ju hrg
    have cc:=cb.1
    have ds:=cc.bnd
    have je:=cc.le
    have jf:=cc.vl
    have jg:=ds.2.1
    have jh:=cb.2
    have ji:Bn (r):=by omega
    exact Ac 1 Z<|A1<|AG<|Ao<|Ah [6] Z (zI r) Z ⟨_,(by rfl),gi,(by exact⟨_,_,_,gg,gh⟩)⟩
  refine Al false Z Z (A6 db) Aa<|Ac 1 Z<|Ai Z<|A2<|gK [0,0,0,0,2,0,0,4,0] Z ?_
  have hwk:=Jm hwf oM
  obtain⟨a1,T1,s1,b1,T2,s2,h1,h2,hre,hTe,_⟩:=bG hrg oM hwk
  refine Ad 2 Z<|AF (hex.isPtr) Z Aa<|AE (p:=ve) 4 Bc Z (a8 _ a2) Aa<|Af (p:=An ve 4) (.inr Z) a4 Bf Z ((a8 _ a2).ld (i:=4) FO) Aa<|Aw (v:=a4) 0 CR Bj Z Z ah.rn.isSl Z sD Aa<|Ad 1 Z ?_
  refine AD 226 [] [] [zP g,Ay a4 0 5,vv] Z Z Hm Aa (IH2 dd1 oM _ S g pp dp ip p (s0+1) (T) (Ay a4 0 5) (ex.kids.getD 0 Ex.zero) vv (env) a1 T1 s1 (fun b hb=>(a0.lt b hb:b<w.heap.size)) (a0.sub _ hgS) ⟨_,_,_,cj,cw⟩ (RN.stp (AS<|AN dp) hp a2 a0.new) _hip oM ap (RN.ptr (Ax dd1) (by decide) Ex.zero (RN.stp (Am<|Ax dd1) ah.rn a2 a0.new) sD) (RN.stp g1 henv a2 a0.new) hqenv FP oM JN OR hen h1) ?_
  rintro nr fs ⟨mr,rfl,b2,n6,vg155,vv155,gj,gk⟩
  refine⟨_,rfl,?_⟩
  have jj:w.heap.size≤fs.heap.size:=b2.chg.size
  have an:At S w fs:=a2.stp b2.chg a0.new
  have af:=a0.trans b2
  have cd:=D8 hvp F hF _ (C1 hwf oM oM) (hen) ap hlt h1
  have ce:=cd.1
  have b3:=ce.bnd
  have dt:=ce.le
  have jk:=ce.vl
  have jl:=b3.2.1
  have jm:=cd.2
  have du:Bn (a1):=by omega
  have hbA:=b3
  have hlA:=dt
  refine Ac 1 Z<|gK [0,0,0,0,2,0,0,4,0] Z<|Ad 2 Z<|AF (hex.isPtr) Z Aa<|AE (p:=ve) 4 Bc Z (a8 _ an) Aa<|Af (p:=An ve 4) (.inr Z) a4 Bf Z ((a8 _ an).ld (i:=4) FO) Aa<|Aw (v:=a4) 1 CR Bj Z Z ah.rn.isSl Z sD Aa<|Ad 1 Z ?_
  refine AD 226 [] [] [zP g,Ay a4 1 5,vv] Z Z Hm Aa (IH2 dd1 oM _ mr g pp dp ip p (s1) (T1) (Ay a4 1 5) (ex.kids.getD 1 Ex.zero) vv (env) b1 T2 s2 (fun b hb=>(af.lt b hb:b<fs.heap.size)) (af.sub _ hgS) ⟨_,_,_,gj,gk⟩ (RN.stp (AS<|AN dp) hp an af.new) _hip oM b3 (RN.ptr (Ax dd1) (by decide) Ex.zero (RN.stp (Am<|Ax dd1) ah.rn an af.new) sD) (RN.stp g1 henv an af.new) hqenv FP oM JN (zH<|CS (l:=ex.kids) (k:=1) oM) (by exact hen.mono oM) h2) ?_
  rintro ns m4 ⟨ms,rfl,b4,n7,vg162,vv162,cf,a9⟩
  refine⟨_,rfl,?_⟩
  have jn:fs.heap.size≤m4.heap.size:=b4.chg.size
  have cg:At S w m4:=an.stp b4.chg af.new
  have gl:=af.trans b4
  have ch:=D8 hvp F hF _ (C1 hwf oM oM) (hen.mono oM) hbA hlA.2 h2
  have ci:=ch.1
  have ag:=ci.bnd
  have jo:=ci.le
  have jp:=ci.vl
  have jq:=ag.2.1
  have jr:=ch.2
  have dv:Bn (b1):=by omega
  refine Ac 1 Z<|gK [0,0,0,2,0,0] Z<|Ad 1 Z<|AF (hex.isPtr) Z Aa<|AE (p:=ve) 0 Br Z (a8 _ cg) Aa<|Af (p:=An ve 0) (.inr Z) (zI ex.kind) AC Z ((a8 _ cg).ld (i:=0) FO) Aa<|AB 247 [] [] [zI ex.kind] Z Z dI Aa (zI ex.kind) (fun wq=>OO wq _ ah.rng.kind oM)<|Ac 1 Z<|A0<|AM _ [0,0,0,0,0,0,0,0,0,1,0,0,1,0,0,0,1,0,0,1,3,4,0] mixed (by kernel_rfl) ?_
  have hat:=BW ag.2.2.2 a1.toNat
  have hbt:=BW ag.2.2.2 b1.toNat
  refine Ad 4 Z ?_
  have dw:∀(wq:World),(Instr.build 46 #[(0,zI ex.kind),(1,zI a1),(2,zI b1)]).run Tryz.prog wq=.ok (.agg #[zI ex.kind,zI a1,zI b1,zI 0]) wq:=by intro wq;kernel_rfl
  refine BQ (ps:=#[(0,zI ex.kind),(1,zI a1),(2,zI b1)]) (.agg #[zI ex.kind,zI a1,zI b1,zI 0]) OQ (fun wq=>dw  wq) Aa<|Ad 2 Z<|AV Z Aa<|Ak (p:=zP g) 5 IU Z Z Aa<|Af (p:=An (zP g) 5) (.inl Z) vv162 B6 Z (cf.ldp (i:=5) sM) Aa<|Ad 1 Z<|Aw (v:=vv162) ((a1).toNat) Bt BG Z Z (BK.slv a9) oM oM Aa (Af (p:=Ay vv162 ((a1).toNat) 1) (.inl Z) (zI<|T2.vals.getD ((a1).toNat) 0) AC Z ((BK.rdv a9).getI oM).1 Aa (Ad 1 Z<|AV Z Aa ?_))
  refine Ak (p:=zP g) 5 IU Z Z Aa<|Af (p:=An (zP g) 5) (.inl Z) vv162 B6 Z (cf.ldp (i:=5) sM) Aa<|Ad 1 Z<|Aw (v:=vv162) ((b1).toNat) Bt BG Z Z (BK.slv a9) oM oM Aa (Af (p:=Ay vv162 ((b1).toNat) 1) (.inl Z) (zI<|T2.vals.getD ((b1).toNat) 0) AC Z ((BK.rdv a9).getI oM).1 Aa (Ap 248 [] [] [zI ex.kind,zI<|T2.vals.getD ((a1).toNat) 0,zI<|T2.vals.getD ((b1).toNat) 0] Z Z dJ Aa (LB _ _ _ _ oM ((BK.rdv a9).getI oM).2 ((BK.rdv a9).getI oM).2 oM hat hbt) ?_))
  rintro nt fx ⟨rfl,a7⟩
  refine⟨_,rfl,a7,?_⟩
  replace a7:=a7.of_drew
  have js:m4.heap.size≤fx.heap.size:=a7.size
  have gm:At S w fx:=cg.ext a7
  have bi:=cf.ext a7
  have l8:=(BK.rdv a9).ext g1 a7
  have gn:=BK.ext a9 a7
  have bb:=gl.ext a7
  refine AD 180 [] [] [zP g,.agg #[zI ex.kind,zI a1,zI b1,zI (0:Int)],zI<|Gz ex.kind (T2.vals.getD ((a1).toNat) 0)<|T2.vals.getD ((b1).toNat) 0] Z Z RO Aa (DA _ ms g pp ip (T2) (⟨ex.kind,a1,b1,(0:Int)⟩:As) (Gz ex.kind (T2.vals.getD ((a1).toNat) 0)<|T2.vals.getD ((b1).toNat) 0) (fun b hb=>(bb.lt b hb:b<fx.heap.size)) (bb.sub _ hgS) ⟨_,_,_,bi,gn⟩ _hip (ag.ln oM) ag.1 ⟨(show Bn (ex.kind)from by omega),du,dv,(show Bn (0:Int)from by omega)⟩ (by have:=Kk ex.kind (T2.vals.getD ((a1).toNat) 0) (T2.vals.getD ((b1).toNat) 0);omega)) ?_
  rintro nu mg ⟨nv,rfl,b5,n8,vg174,vv174,go,gp⟩
  refine⟨_,rfl,?_⟩
  have jt:fx.heap.size≤mg.heap.size:=b5.chg.size
  have l9:At S w mg:=gm.stp b5.chg bb.new
  have gq:=bb.trans b5
  exact Ac 1 Z<|A1<|Ah [6] Z (zI (T2.vals.length:Int)) Z ⟨_,(by rw[hre]),gq,(by rw[hTe];exact⟨_,_,_,go,gp⟩)⟩
theorem ZQ:∀F d,ZT F d:=by
  intro F
  induction F using Nat.strongRecOn with
  |_ F ihF =>
    intro d
    induction d using Nat.strongRecOn with
    |_ d ihd =>
      intro w S g pp dp ip p s0 T ve ex vv env r T' s' hS hgS a0 hp hip a1 hbd hex henv hqenv hvp hF hwf hdp hen hrg
      exact JO w S F r T' s' g pp dp ip p s0 T d ve ex vv env hS hgS a0 hp hip a1 hbd hex henv hqenv hvp hF hwf hdp hen hrg (fun F' h d'=>ihF F' h d') fun d' h=>ihd d' h
theorem Ld (w:World)(dp:Nat)(pp:Value)(p:List Fn)(f:Int)(va:Value)(a:Sr)(hp:RN [] (rP (Jj dp)) w.heap pp p)(_hf:Bn f)(ha:RN [] (B4 rI) w.heap va a)(xs:Sr)(T':Tp)(s':Nat)(hvp:FQ p)(hf:0≤f∧f<(p.length:Int))(hl:(a.length:Int)=(p.getD f.toNat Fn.zero).params)(hna:AX a=true)(hrec:Lv p f.toNat a=.ok (xs,T') s') :
    Calls Tryz.prog 138 #[pp,zI f,va] w (fun e w'=>∃(vc vg vo:Value),e=.returned (.agg #[zI (a.length:Int),vc,vg,vo])∧AH w w'∧RG w.heap.size (D5 4 KU) w'.heap vc T'.code∧RG w.heap.size (D5 2 KV) w'.heap vg T'.grd∧RG w.heap.size (B4 rI) w'.heap vo xs):=by
  refine Aq [pp,zI f,va] 54 Tryz.func138 Z Z sM ?_
  have cr:AH w w:=AH.refl w
  have ds:=ha.lenL
  unfold maxLen at ds
  have e9:=hvp.par f.toNat oM
  have ea:=hvp.outs f.toNat oM
  refine gK [3] Z (Bs (z:=.agg #[zI 0,zN,zN,zN]) Xs Aa fun w1 bp d7 bk=>?_)
  have bq:=bp.size
  have ct:=cr.trans bp
  replace bk:BX w1.heap w.heap.size [zI 0,zN,zN,zN]:=bk
  refine Aj<|gK [0,0,3,0] Z<|Ad 1 Z ?_
  have br:∀(pp:Value) (ah:∃b o,pp=.pointer (some ⟨b,o,none⟩)) (wq:World),(Instr.build 234 #[(0,pp)]).run Tryz.prog wq=.ok (.agg #[pp,zI 0,zN,zN,zN,zN]) wq:=by intro pp ah wq;obtain⟨b0,o0,rfl⟩:=ah;kernel_rfl
  refine BQ (ps:=#[(0,pp)]) (.agg #[pp,zI 0,zN,zN,zN,zN]) (by simp only[zc,zf,zh];rfl) (fun wq=>br pp hp.isPtr wq) Aa ?_
  have dm:=bk.lt
  refine By (cs:=#[pp,zI 0,zN,zN,zN,zN]) Z Aa fun w3 bl d8 bs=>?_
  have bt:=bl.size
  have bu:=ct.trans bl
  have au:=bk.ext bl
  replace bs:BX w3.heap w1.heap.size [pp,zI 0,zN,zN,zN,zN]:=bs
  refine Ac 1 Z<|gK [0,0,0,0,0,0,4] Z<|Ad 2 Z<|AR (v:=va) Bt Z ha.slL Aa<|AV Z Aa<|Ak (p:=zP w1.heap.size) 1 GO Z Z Aa<|Ak (p:=An (zP w1.heap.size) 1) (b:=w1.heap.size) (o:=1) 0 H2 Z Z Aa (Bm (k:=1) (w:=w3) HL Z Z ⟨rfl,rfl⟩ bs sM Aa fun w5 bm da bn=>?_)
  replace bn:BX w5.heap w1.heap.size [pp,zI (a.length:Int),zN,zN,zN,zN]:=bn
  have cu:AH w w5:=bm.below bu (fun _ h=>zE h) bu.size
  have bv:w3.heap.size≤w5.heap.size:=bm.size
  have cv:=au.chg bm (zB ·)
  refine Aj<|gK [3,0] Z ?_
  obtain⟨S,hSd⟩:∃S:List Nat,S=[w1.heap.size]:=⟨_,rfl⟩
  have hgS:w1.heap.size∈S:=by rw[hSd];exact List.mem_singleton.2 Z
  have hlr:w1.heap.size<w5.heap.size:=BX.lt bn
  have hMb:BK 46 177 2 S w1.heap.size w5.heap zN zN zN (Hk a 0):=BK.nil
  have hGb:DU S S w w5:=⟨fun _ h=>h,fun b hb=>.inl hb,fun b hb=>by rw[hSd]at hb;have:=A9 hb;omega,At.of_ext S cu⟩
  have hEb:At S w w5:=hGb.chg
  have hSn:∀b∈S,w.heap.size≤b:=fun b hb=>by rw[hSd]at hb;have:=A9 hb;omega
  have hBb:BX w5.heap w1.heap.size [pp,zI (a.length:Int),zN,zN,zN,zN]:=bn
  have bw:RN S (rP (Jj dp)) w.heap pp p:=by rw[hSd];exact RN.add (AS (AN dp)) hp (fun b hb=>zH<|A9 hb)
  have bx:RN S (B4 rI) w.heap va a:=by rw[hSd];exact RN.add g1 ha (fun b hb=>zH<|A9 hb)
  refine Cn (rI) AJ Bt BG Aa fun e6 e3 a3 bz av=>?_
  have aw:w5.heap.size≤e3.heap.size:=a3.size
  have ax:At S w e3:=hEb.ext a3
  have ab:=cv.ext a3
  have aj:=hBb.ext a3
  have ay:=BK.ext hMb a3
  have az:=hGb.ext a3
  refine Ac 1 Z<|A0<|gL Z<|A3 ?_
  have hBO:w.heap.size≤w5.heap.size∧w1.heap.size<w5.heap.size:=by omega
  have b1:w.heap.size∉S:=fun hm=>(by have h9:=hm;rw[hSd]at h9;have:=A9 h9;omega)
  obtain⟨Fo0,b2⟩:=Ow.of_fr av (A7 _)
  have c0:∀b∈Fo0,b∉S:=fun b hb hm=>by have:=b2.low b hb;have:=hGb.lt b hm;omega
  have hMs:=ay
  have hGs:=az
  have hnswheaps:w.heap.size∉S:=fun hm=>(by have h9:=hm;rw[hSd]at h9;have:=A9 h9;omega)
  refine AU (S:=Nat×Value×Sr×List Nat×List Nat×Value×Value×Value) (fun⟨k,vo,dn,Fo,S9,dt,vg9,vv9⟩=>([(8,vo),(9,zI (k:Int)),(0,pp),(1,zI f),(2,va),(6,zP w.heap.size),(7,zP w1.heap.size)])) (fun⟨k,vo,dn,Fo,S9,dt,vg9,vv9⟩ W=>At S w W∧BX W.heap w.heap.size [zI 0,zN,zN,zN]∧BX W.heap w1.heap.size [pp,zI (a.length:Int),dt,vg9,zN,vv9]∧k≤a.length∧w5.heap.size≤W.heap.size∧DU S S9 w W∧BK 46 177 2 S9 w1.heap.size W.heap dt vg9 vv9 (Hk a k)∧Ow (Bp rI 2) w5.heap.size W.heap.size W.heap vo dn Fo∧(∀b∈Fo,b∉S9)∧dn=FR k∧w.heap.size∉S9) (fun⟨k,vo,dn,Fo,S9,dt,vg9,vv9⟩=>a.length-k) (0,e6,[],Fo0,S,zN,zN,zN) ⟨rfl,rfl,rfl,rfl,rfl,rfl,rfl,trivial⟩ ⟨ax,ab,aj,oM,oM,hGs,hMs,b2,c0,(by rfl),b1⟩ ?_
  clear cr d7 bp bq ct d8 bl bt bu da bm cu bv cv av bz a3 aw ax ab ay az
  rintro⟨k,vo,dn,Fo,S9,dt,vg9,vv9⟩ ρ13 du ⟨a2,a4,a5,c1,hbw,hGl,hMl,hOl,hdl,hxe,a9⟩
  have cw:w.heap.size≤du.heap.size:=a2.size
  have db:=a4.lt
  have dc:=a5.lt
  refine A0<|gK [0,0,0,0] Z<|Ad 2 Z<|AR (v:=va) Bt Z bx.slL Aa ?_
  by_cases b3:(k:Int)<(a.length:Int)
  ·
    refine AI true Z Z (A5 b3) Aa<|Aj<|Ag Z<|A2<|A0<|A3<|Ab _ [0,0,0,0,0,0,0,2,4,3,4,0] Z ?_
    have hak:=BW hna k
    have hvk:=H0 a k
    have hxk:dn.length=k:=by rw[hxe,DP]
    refine Ad 3 Z ?_
    have b4:∀(wq:World),(Instr.build 46 #[(0,zI ((1:Nat):Int)),(3,zI (k:Int))]).run Tryz.prog wq=.ok (.agg #[zI ((1:Nat):Int),zI 0,zI 0,zI (k:Int)]) wq:=by intro wq;kernel_rfl
    refine BQ (ps:=#[(0,zI ((1:Nat):Int)),(3,zI (k:Int))]) (.agg #[zI ((1:Nat):Int),zI 0,zI 0,zI (k:Int)]) (by simp only[zc,zf,zh];rfl) (fun wq=>b4  wq) Aa<|Ad 2 Z<|Aw (v:=va) k Bt BG Z Z bx.slL Z sD Aa ?_
    have b5:=RN.getI (w:=w) (k:=k) bx sD
    refine Af (p:=Ay va k 1) (.inr Z) (zI<|a.getD k 0) AC Z (b5.1 _ a2) Aa<|AD 180 [] [] [zP w1.heap.size,.agg #[zI ((1:Nat):Int),zI (0:Int),zI (0:Int),zI (k:Int)],zI<|a.getD k 0] Z Z RO Aa (DA _ S9 w1.heap.size pp (a.length:Int) (Hk a k) (⟨((1:Nat):Int),(0:Int),(0:Int),(k:Int)⟩:As) (a.getD k 0) (fun b hb=>(hGl.lt b hb:b<du.heap.size)) (hGl.sub _ hgS) ⟨_,_,_,a5,hMl⟩ oM ⟨by rw[KX];omega,by rw[H0];omega⟩ (by rw[KX,H0]) ⟨(show Bn ((1:Nat):Int)from by omega),(show Bn (0:Int)from by omega),(show Bn (0:Int)from by omega),(show Bn (k:Int)from by omega)⟩ b5.2) ?_
    rintro eb dr ⟨dv,rfl,a0,dz,vg19,vv19,c2,c3⟩
    refine⟨_,rfl,?_⟩
    have cx:du.heap.size≤dr.heap.size:=a0.chg.size
    have c4:At S w dr:=a2.stp a0.chg hGl.new
    have c5:=a4.chg a0.chg fun hm=>a9 hm
    have ak:w.heap.size∉dv:=fun hm=>(a0.new _ hm).elim (fun hm=>a9 hm) (fun h9=>by omega)
    have c6:=hOl.keep (AZ AJ) a0.chg fun b hb hm=>hdl b hm hb
    have ac:∀b∈Fo,b∉dv:=fun b hb hm=>(a0.new b hm).elim (hdl b hb) (fun h9=>zH<|hOl.high b hb)
    have c7:=hGl.trans a0
    refine (BA (u:=zI (((Hk a k).vals.length:Nat):Int)) (B:=dr.heap.size) AJ Bt BG Z Z (Nb dr.heap.size dr.heap.size _ _ oM) (A7 _) Aa ?_)
    intro e7 e0 a6 dd c8
    have cy:dr.heap.size≤e0.heap.size:=a6.size
    have c9:At S w e0:=c4.ext a6
    have ad:=c5.ext a6
    have ae:=c2.ext a6
    have ca:=BK.ext c3 a6
    have b6:=c7.ext a6
    have hO28k:=c6.ext (AZ AJ) a6
    refine FI (v:=vo) (a:=e7) Bt BG Z Z Z hO28k c8.rd1 oM sD (by unfold maxLen;first|omega|assumption|(simp only[zb,z9,z4,z6,z5];omega)|(simp[zb,z9,z4,z6,z5];done)|(simp[zb,z9,z4,z6,z5];omega)) Aa fun e8 e4 e5 aa de cb=>?_
    have cz:e0.heap.size≤e4.heap.size:=aa.size
    have cc:At S w e4:=c9.fresh aa (fun c hc=>zH<|hO28k.low c hc)
    have df:∀b∈e5,b∉dv:=fun b hb hm=>(cb b hb).elim (fun h9=>ac b h9 hm) (fun h9=>zH<|b6.lt b hm)
    have cd:=BK.chgO ca aa ac
    have ce:=b6.fresh aa fun c hc=>zH<|hO28k.low c hc
    have cf:=ad.chg aa fun hm=>zH<|hO28k.low _ hm
    have cg:=ae.chg aa fun hm=>zH<|hO28k.low _ hm
    refine Ac 1 Z<|Ab _ [0,0,0] Z<|Ad 1 Z<|AQ ((k+1:Nat):Int) Z Z (Bi oM oM) Aa<|Ac 1 Z ?_
    have hMe:=cd
    have hGe:=ce
    have b7:w.heap.size∉dv:=fun hm=>ak hm
    exact⟨(k+1,e8,dn++[(((Hk a k).vals.length:Nat):Int)],e5,dv,dz,vg19,vv19),_,rfl,zR,⟨cc,cf,cg,oM,oM,hGe,hMe,(by assumption),(by assumption),(by rw[hxe,H0];exact(Mw k).symm),b7⟩,zD⟩
  refine AI false Z Z (A6 b3) Aa<|Aj<|Ai Z<|A4<|AA<|AA<|Av<|gK [0,0,0,0,0,2,0,0,0,4,0,0,0,4] Z ?_
  have hkl:k=a.length:=by omega
  have b8:GK (Hk a k) 0:=by rw[hkl];exact TL hna oM
  have b9:Gj (Hk a k) dn:=by rw[hxe];exact TM a k
  have bo:∀j,j<(p.getD f.toNat Fn.zero).outs.length→wf p (f.toNat:Int) ((p.getD f.toNat Fn.zero).outs.getD j Ex.zero) (dn.length:Int)=true:=by intro j hj;have h9:=hvp.wf f.toNat oM j hj;rw[hxe,DP,hkl,hl];exact h9
  have ai:Ey (Hi p f.toNat) (p.getD f.toNat Fn.zero).outs dn 0 (Hk a k)=.ok (xs,T') s':=by rw[hxe,hkl];exact hrec
  refine Ad 3 Z<|AF (bw.isPtr) Z Aa ?_
  obtain⟨cs35,ch,ba⟩:=RN.at (AN _) bw
  obtain⟨af,rfl,al⟩:=RPr.of ch
  have bb:=al.lenle
  unfold maxLen at bb
  refine AE (p:=pp) 0 BB Z (ba _ a2) Aa<|Af (p:=An pp 0) (.inr Z) af C4 Z ((ba _ a2).ld (i:=0) (by simp[DR,DV])) Aa<|Ad 1 Z<|Aw (v:=af) ((f).toNat) Gx Co Z Z al.isSl oM sD Aa<|Ad 1 Z ?_
  refine AD 181 [] [] [zP w1.heap.size,Ay af ((f).toNat) 3,vo] Z Z Yo Aa (Gv _ S9 f.toNat xs T' s' w1.heap.size pp dp (a.length:Int) p (0) (Hk a k) dp (Ay af ((f).toNat) 3) (p.getD ((f).toNat) Fn.zero) vo (dn) (fun b hb=>(hGl.lt b hb:b<du.heap.size)) (hGl.sub _ hgS) ⟨_,_,_,a5,hMl⟩ (RN.stp (AS<|AN dp) bw a2 hGl.new) oM oM b8 (RN.ptr (Az dp) (by decide) Fn.zero (RN.stp (Am<|Az dp) al a2 hGl.new) sD) (RN.of_ow hOl hdl) hOl.fr.cap hvp oM bo (by intro j hj;have h9:=hvp.deep f.toNat oM j hj;rw[hxe,DP];omega) oM b9 ai (by exact fun d9=>ZQ _ d9)) ?_
  rintro ec dy ⟨dw,e1,rfl,a1,⟨dq,vg36,vv36,ci,cj⟩,bc,d0⟩
  refine⟨_,rfl,?_⟩
  have d1:du.heap.size≤dy.heap.size:=a1.chg.size
  have ck:At S w dy:=a2.stp a1.chg hGl.new
  have cl:=a4.chg a1.chg fun hm=>a9 hm
  have am:w.heap.size∉e1:=fun hm=>(a1.new _ hm).elim (fun hm=>a9 hm) (fun h9=>by omega)
  have an:=hOl.keep (AZ AJ) a1.chg fun b hb hm=>hdl b hm hb
  have cm:∀b∈Fo,b∉e1:=fun b hb hm=>(a1.new b hm).elim (hdl b hb) (fun h9=>zH<|hOl.high b hb)
  have bd:=hGl.trans a1
  have be:=HK _ (fun e _=>D8 hvp _ oM e) (Js bo) b9 b8 oM ai
  have ao:=be.1
  have bf:=ao.bnd
  have d2:=ao.le
  have d3:=ao.vl
  have d4:=bf.2.1
  have bg:=bc.rn
  refine AV Z Aa<|Ak (p:=zP w1.heap.size) 1 GO Z Z Aa<|Ak (p:=An (zP w1.heap.size) 1) (b:=w1.heap.size) (o:=1) 3 EV Z Z Aa (Bm (k:=4) (w:=dy) I6 Z Z (Bg bg.slL) ci sM Aa fun dx a7 dg ag=>?_)
  replace ag:BX dx.heap w1.heap.size [pp,zI (a.length:Int),dq,vg36,dw,vv36]:=ag
  have cn:At S w dx:=ck.trans (a7.sub (B7 hgS))
  have ap:=BK.chg cj a7
  have co:=bd.set hgS a7
  have d5:dy.heap.size≤dx.heap.size:=a7.size
  have cp:=cl.chg a7 (zB ·)
  have aq:=an.keep (AZ AJ) a7 fun b hb hm=>by have:=A9 hb;have:=an.low _ hm;have:=an.high _ hm;omega
  have hF50l:=bc.upd g1 a7 fun b hb=>by rw[A9 hb];exact .inl (bd.sub _ hgS)
  have cq:=hF50l.rn
  refine Aj<|gK [0,0,0,2,4] Z<|Ad 1 Z<|AV Z Aa<|Ak (p:=zP w1.heap.size) 1 GO Z Z Aa<|AK (p:=An (zP w1.heap.size) 1) (.inr Z) [zI (a.length:Int),dq,vg36,dw] EE Z (fun ed bo=>LD.part (BX.ext (w:=dx) ag bo) (by show(5:Nat)≤6;decide) (by intro i hi;match i,hi with|0,_=>rfl|1,_=>rfl|2,_=>rfl|3,_=>rfl)) Z Aa ?_
  refine BE (vs:=[zI (a.length:Int),dq,vg36,dw]) EE Z Z (by intro u hu;simp only[ze,z2,or_false]at hu;rcases hu with rfl|rfl|rfl|rfl <;> first|exact⟨rfl,rfl⟩|exact Bg (BK.slc ap)|exact Bg (BK.slg ap)|exact Bg cq.slL) cp Z Z Aa fun e2 a8 dh ar=>?_
  replace ar:BX e2.heap w.heap.size [zI (a.length:Int),dq,vg36,dw]:=ar
  have di:At S w e2:=cn.fresh a8 (fun _ h=>zE h)
  have bh:=BK.chgO ap a8 fun b hb hm=>by rw[A9 hb]at hm;exact am hm
  have bi:=co.fresh a8 fun _ h=>zE h
  have d6:dx.heap.size≤e2.heap.size:=a8.size
  have dj:=ag.chg a8 (zB ·)
  have dk:=aq.keep (AZ AJ) a8 fun b hb hm=>by have:=A9 hb;have:=aq.low _ hm;have:=aq.high _ hm;omega
  have hF57l:=hF50l.upd g1 a8 fun b hb=>by rw[A9 hb];(right;omega)
  have dl:=hF57l.rn
  refine Aj<|A1 ?_
  have bj:∀b∈e1,w.heap.size≤b:=fun b hb=>(bi.new b hb).elim (hSn b) id
  exact CQ (cs:=[zI (a.length:Int),dq,vg36,dw]) Z EE Z ar Z ⟨_,_,_,rfl,At.toExt bi.chg hSn,(BK.readsG bh bj).1,(BK.readsG bh bj).2,PR.rg hF57l oM⟩
end
end Go.Proofs.YtjnbnlniafmblaaGreat
