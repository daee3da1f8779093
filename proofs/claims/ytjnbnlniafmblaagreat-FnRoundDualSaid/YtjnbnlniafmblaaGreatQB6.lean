/- Td, Te, Tg: texts of this claim, joined; what the claim does not come to is left out. -/
import Derived.Test.YtjnbnlniafmblaaGreatQB5
import Derived.Test.YtjnbnlniafmblaaGreatProg
set_option linter.unusedVariables false
set_option linter.unusedSimpArgs false
namespace Go.Proofs.YtjnbnlniafmblaaGreat
open Go Go.RowKit
section
set_option maxHeartbeats 4000000
set_option maxRecDepth 100000
attribute [local irreducible] LW
theorem IF {p:Prop}(h:p:=by first|rfl|exact AO (A5 oM)|(exfalso;(try unfold DN at hf);omega)):p:=h
theorem EJ {p:Prop}(h:p:=by rw[A5 oM,A5 oM];rfl):p:=h
theorem LC (w:World)(c:As)(k:Int)(n:Int)(hc:Qb c)(_hk:Bn k)(_hn:Bn n)(hk:0≤k∧k≤4000)(hn:0≤n∧n≤12)(hf:DN n.toNat k.toNat c) :
    Calls Tryz.prog 256 #[(.agg #[(zI c.op),(zI c.a),(zI c.b),(zI c.num)]),zI k,zI n] w (fun e w'=>e=.returned (.bool true)∧AH w w'):=by
  refine Aq [.agg #[zI c.op,zI c.a,zI c.b,zI c.num],zI k,zI n] 80 Tryz.func256 Z Z sM ?_
  have ag:AH w w:=AH.refl w
  refine gK [3,0] Z (By (cs:=#[zI c.op,zI c.a,zI c.b,zI c.num]) Z Aa fun w1 ad am a0=>?_)
  have ah:=ad.size
  have a1:=ag.trans ad
  replace a0:BX w1.heap w.heap.size [zI c.op,zI c.a,zI c.b,zI c.num]:=a0
  refine Ac 1 Z<|A0<|gK [0,2] Z<|Ak (p:=zP w.heap.size) 0 HN Z Z Aa<|Af (p:=An (zP w.heap.size) 0) (.inr Z) (zI c.op) AC Z (a0.ldp (i:=0) sM) Aa<|Aj<|A3<|gK [0,0] Z ?_
  by_cases ae:c.op=((1:Nat):Int)
  ·
    refine Al true Z Z (A5 ae) Aa<|Ac 1 Z<|Ag Z<|gK [0,2,0,0,0,2,0,0,0,0,2,0,0,0,0,0] Z ?_
    unfold DN at hf
    refine Ak (p:=zP w.heap.size) 1 BC Z Z Aa<|Af (p:=An (zP w.heap.size) 1) (.inr Z) (zI c.a) AC Z (a0.ldp (i:=1) sM) Aa ?_
    have ai:c.a=((0:Nat):Int):=oM
    refine Al true Z Z (A5 ai) Aa<|Ad 1 Z<|Ak (p:=zP w.heap.size) 2 BD Z Z (Ae (e:=14) Z Z Z)<|Af (p:=An (zP w.heap.size) 2) (.inr Z) (zI c.b) AC Z (a0.ldp (i:=2) sM) (Ae (e:=14) Z Z Z) ?_
    have aj:c.b=((0:Nat):Int):=oM
    refine Al true Z Z (A5 aj) (Ae (e:=14) Z Z Z)<|Ad 2 Z<|Ak (p:=zP w.heap.size) 3 CO Z Z (Ae (e:=19) Z Z Z)<|Af (p:=An (zP w.heap.size) 3) (.inr Z) (zI c.num) AC Z (a0.ldp (i:=3) sM) (Ae (e:=19) Z Z Z)<|Ad 1 Z ?_
    refine Bk (n-((1:Nat):Int)) Z Z (CM sD sD) (Ae (e:=19) Z Z Z) ?_
    refine AB 94 [] [] [zI c.num,zI ((0:Nat):Int),zI (n-((1:Nat):Int))] Z Z ED (Ae (e:=19) Z Z Z) (.bool (decide (((0:Nat):Int)≤c.num) && decide (c.num≤(n-((1:Nat):Int))))) (fun wq=>B9 wq _ _ _ hc.2.2.2 oM oM) ?_
    rw[show(decide (((0:Nat):Int)≤c.num) && decide (c.num≤(n-((1:Nat):Int))))=true from EJ]
    exact Ac 2 Z<|A1<|AG<|Ao<|Ah [6] Z (.bool true) Z ⟨IF,a1⟩
  refine Al false Z Z (A6 ae) Aa<|Ac 1 Z<|Ai Z<|gK [0,0] Z ?_
  by_cases af:c.op=((2:Nat):Int)
  ·
    refine Al true Z Z (A5 af) Aa<|Ac 1 Z<|Ag Z<|gK [0,2,0,0,0,2,0,0,0,0,2,0,0,0] Z ?_
    unfold DN at hf
    refine Ak (p:=zP w.heap.size) 1 BC Z Z Aa<|Af (p:=An (zP w.heap.size) 1) (.inr Z) (zI c.a) AC Z (a0.ldp (i:=1) sM) Aa ?_
    have ak:c.a=((0:Nat):Int):=oM
    refine Al true Z Z (A5 ak) Aa<|Ad 1 Z<|Ak (p:=zP w.heap.size) 2 BD Z Z (Ae (e:=31) Z Z Z)<|Af (p:=An (zP w.heap.size) 2) (.inr Z) (zI c.b) AC Z (a0.ldp (i:=2) sM) (Ae (e:=31) Z Z Z) ?_
    have al:c.b=((0:Nat):Int):=oM
    refine Al true Z Z (A5 al) (Ae (e:=31) Z Z Z)<|Ad 2 Z<|Ak (p:=zP w.heap.size) 3 CO Z Z (Ae (e:=36) Z Z Z)<|Af (p:=An (zP w.heap.size) 3) (.inr Z) (zI c.num) AC Z (a0.ldp (i:=3) sM) (Ae (e:=36) Z Z Z)<|AB 166 [] [] [zI c.num] Z Z UH (Ae (e:=36) Z Z Z) (.bool<|IL c.num) (fun wq=>EW wq _ hc.2.2.2) ?_
    rw[show(IL c.num)=true from CI.2 ⟨zO,zO⟩]
    exact Ac 2 Z<|A1<|AG<|Ao<|Ah [6] Z (.bool true) Z ⟨IF,a1⟩
  refine Al false Z Z (A6 af) Aa<|Ac 1 Z<|Ai Z<|A0<|gK [0,0] Z ?_
  by_cases a2:c.op=((3:Nat):Int)
  ·
    refine Al true Z Z (A5 a2) Aa<|Ac 1 Z<|Ag Z<|A2<|Ag Z<|gK [0,2,0,0,0,2,0,0,0,0,0,0,2,0,0,0,0,0] Z ?_
    unfold DN at hf
    refine Ak (p:=zP w.heap.size) 3 CO Z Z Aa<|Af (p:=An (zP w.heap.size) 3) (.inr Z) (zI c.num) AC Z (a0.ldp (i:=3) sM) Aa ?_
    have a7:c.num=((0:Nat):Int):=oM
    refine Al true Z Z (A5 a7) Aa<|Ad 1 Z<|Ak (p:=zP w.heap.size) 1 BC Z Z (Ae (e:=49) Z Z Z)<|Af (p:=An (zP w.heap.size) 1) (.inr Z) (zI c.a) AC Z (a0.ldp (i:=1) sM) (Ae (e:=49) Z Z Z)<|Ad 1 Z ?_
    refine Bk (k-((1:Nat):Int)) Z Z (CM sD sD) (Ae (e:=49) Z Z Z) ?_
    refine AB 94 [] [] [zI c.a,zI ((0:Nat):Int),zI (k-((1:Nat):Int))] Z Z ED (Ae (e:=49) Z Z Z) (.bool (decide (((0:Nat):Int)≤c.a) && decide (c.a≤(k-((1:Nat):Int))))) (fun wq=>B9 wq _ _ _ hc.2.1 oM oM) ?_
    rw[show(decide (((0:Nat):Int)≤c.a) && decide (c.a≤(k-((1:Nat):Int))))=true from EJ]
    refine Ad 2 Z<|Ak (p:=zP w.heap.size) 2 BD Z Z (Ae (e:=56) Z Z Z)<|Af (p:=An (zP w.heap.size) 2) (.inr Z) (zI c.b) AC Z (a0.ldp (i:=2) sM) (Ae (e:=56) Z Z Z)<|Ad 1 Z ?_
    refine Bk (k-((1:Nat):Int)) Z Z (CM sD sD) (Ae (e:=56) Z Z Z) ?_
    refine AB 94 [] [] [zI c.b,zI ((0:Nat):Int),zI (k-((1:Nat):Int))] Z Z ED (Ae (e:=56) Z Z Z) (.bool (decide (((0:Nat):Int)≤c.b) && decide (c.b≤(k-((1:Nat):Int))))) (fun wq=>B9 wq _ _ _ hc.2.2.1 oM oM) ?_
    rw[show(decide (((0:Nat):Int)≤c.b) && decide (c.b≤(k-((1:Nat):Int))))=true from EJ]
    exact Ac 2 Z<|A1<|AG<|Ao<|Ah [6] Z (.bool true) Z ⟨IF,a1⟩
  refine Al false Z Z (A6 a2) Aa<|Ac 1 Z<|Ai Z<|gK [0,0] Z ?_
  by_cases a3:c.op=((4:Nat):Int)
  ·
    refine Al true Z Z (A5 a3) Aa<|Ac 1 Z<|Ag Z<|A2<|Ag Z<|gK [0,2,0,0,0,2,0,0,0,0,0,0,2,0,0,0,0,0] Z ?_
    unfold DN at hf
    refine Ak (p:=zP w.heap.size) 3 CO Z Z Aa<|Af (p:=An (zP w.heap.size) 3) (.inr Z) (zI c.num) AC Z (a0.ldp (i:=3) sM) Aa ?_
    have a8:c.num=((0:Nat):Int):=oM
    refine Al true Z Z (A5 a8) Aa<|Ad 1 Z<|Ak (p:=zP w.heap.size) 1 BC Z Z (Ae (e:=49) Z Z Z)<|Af (p:=An (zP w.heap.size) 1) (.inr Z) (zI c.a) AC Z (a0.ldp (i:=1) sM) (Ae (e:=49) Z Z Z)<|Ad 1 Z ?_
    refine Bk (k-((1:Nat):Int)) Z Z (CM sD sD) (Ae (e:=49) Z Z Z) ?_
    refine AB 94 [] [] [zI c.a,zI ((0:Nat):Int),zI (k-((1:Nat):Int))] Z Z ED (Ae (e:=49) Z Z Z) (.bool (decide (((0:Nat):Int)≤c.a) && decide (c.a≤(k-((1:Nat):Int))))) (fun wq=>B9 wq _ _ _ hc.2.1 oM oM) ?_
    rw[show(decide (((0:Nat):Int)≤c.a) && decide (c.a≤(k-((1:Nat):Int))))=true from EJ]
    refine Ad 2 Z<|Ak (p:=zP w.heap.size) 2 BD Z Z (Ae (e:=56) Z Z Z)<|Af (p:=An (zP w.heap.size) 2) (.inr Z) (zI c.b) AC Z (a0.ldp (i:=2) sM) (Ae (e:=56) Z Z Z)<|Ad 1 Z ?_
    refine Bk (k-((1:Nat):Int)) Z Z (CM sD sD) (Ae (e:=56) Z Z Z) ?_
    refine AB 94 [] [] [zI c.b,zI ((0:Nat):Int),zI (k-((1:Nat):Int))] Z Z ED (Ae (e:=56) Z Z Z) (.bool (decide (((0:Nat):Int)≤c.b) && decide (c.b≤(k-((1:Nat):Int))))) (fun wq=>B9 wq _ _ _ hc.2.2.1 oM oM) ?_
    rw[show(decide (((0:Nat):Int)≤c.b) && decide (c.b≤(k-((1:Nat):Int))))=true from EJ]
    exact Ac 2 Z<|A1<|AG<|Ao<|Ah [6] Z (.bool true) Z ⟨IF,a1⟩
  refine Al false Z Z (A6 a3) Aa<|Ac 1 Z<|Ai Z<|gK [0,0] Z ?_
  by_cases a4:c.op=((5:Nat):Int)
  ·
    refine Al true Z Z (A5 a4) Aa<|Ac 1 Z<|Ag Z<|A2<|Ag Z<|gK [0,2,0,0,0,2,0,0,0,0,0,0,2,0,0,0,0,0] Z ?_
    unfold DN at hf
    refine Ak (p:=zP w.heap.size) 3 CO Z Z Aa<|Af (p:=An (zP w.heap.size) 3) (.inr Z) (zI c.num) AC Z (a0.ldp (i:=3) sM) Aa ?_
    have a9:c.num=((0:Nat):Int):=oM
    refine Al true Z Z (A5 a9) Aa<|Ad 1 Z<|Ak (p:=zP w.heap.size) 1 BC Z Z (Ae (e:=49) Z Z Z)<|Af (p:=An (zP w.heap.size) 1) (.inr Z) (zI c.a) AC Z (a0.ldp (i:=1) sM) (Ae (e:=49) Z Z Z)<|Ad 1 Z ?_
    refine Bk (k-((1:Nat):Int)) Z Z (CM sD sD) (Ae (e:=49) Z Z Z) ?_
    refine AB 94 [] [] [zI c.a,zI ((0:Nat):Int),zI (k-((1:Nat):Int))] Z Z ED (Ae (e:=49) Z Z Z) (.bool (decide (((0:Nat):Int)≤c.a) && decide (c.a≤(k-((1:Nat):Int))))) (fun wq=>B9 wq _ _ _ hc.2.1 oM oM) ?_
    rw[show(decide (((0:Nat):Int)≤c.a) && decide (c.a≤(k-((1:Nat):Int))))=true from EJ]
    refine Ad 2 Z<|Ak (p:=zP w.heap.size) 2 BD Z Z (Ae (e:=56) Z Z Z)<|Af (p:=An (zP w.heap.size) 2) (.inr Z) (zI c.b) AC Z (a0.ldp (i:=2) sM) (Ae (e:=56) Z Z Z)<|Ad 1 Z ?_
    refine Bk (k-((1:Nat):Int)) Z Z (CM sD sD) (Ae (e:=56) Z Z Z) ?_
    refine AB 94 [] [] [zI c.b,zI ((0:Nat):Int),zI (k-((1:Nat):Int))] Z Z ED (Ae (e:=56) Z Z Z) (.bool (decide (((0:Nat):Int)≤c.b) && decide (c.b≤(k-((1:Nat):Int))))) (fun wq=>B9 wq _ _ _ hc.2.2.1 oM oM) ?_
    rw[show(decide (((0:Nat):Int)≤c.b) && decide (c.b≤(k-((1:Nat):Int))))=true from EJ]
    exact Ac 2 Z<|A1<|AG<|Ao<|Ah [6] Z (.bool true) Z ⟨IF,a1⟩
  refine Al false Z Z (A6 a4) Aa<|Ac 1 Z<|Ai Z<|Ab _ [0,0] Z ?_
  by_cases a5:c.op=((6:Nat):Int)
  ·
    refine Al true Z Z (A5 a5) Aa<|Ac 1 Z<|Ag Z<|gK [0,2,0,0,0,2,0,0,0,0,0,0,2,0,0,0,0,0] Z ?_
    unfold DN at hf
    refine Ak (p:=zP w.heap.size) 3 CO Z Z Aa<|Af (p:=An (zP w.heap.size) 3) (.inr Z) (zI c.num) AC Z (a0.ldp (i:=3) sM) Aa ?_
    have aa:c.num=((0:Nat):Int):=oM
    refine Al true Z Z (A5 aa) Aa<|Ad 1 Z<|Ak (p:=zP w.heap.size) 1 BC Z Z (Ae (e:=49) Z Z Z)<|Af (p:=An (zP w.heap.size) 1) (.inr Z) (zI c.a) AC Z (a0.ldp (i:=1) sM) (Ae (e:=49) Z Z Z)<|Ad 1 Z ?_
    refine Bk (k-((1:Nat):Int)) Z Z (CM sD sD) (Ae (e:=49) Z Z Z) ?_
    refine AB 94 [] [] [zI c.a,zI ((0:Nat):Int),zI (k-((1:Nat):Int))] Z Z ED (Ae (e:=49) Z Z Z) (.bool (decide (((0:Nat):Int)≤c.a) && decide (c.a≤(k-((1:Nat):Int))))) (fun wq=>B9 wq _ _ _ hc.2.1 oM oM) ?_
    rw[show(decide (((0:Nat):Int)≤c.a) && decide (c.a≤(k-((1:Nat):Int))))=true from EJ]
    refine Ad 2 Z<|Ak (p:=zP w.heap.size) 2 BD Z Z (Ae (e:=56) Z Z Z)<|Af (p:=An (zP w.heap.size) 2) (.inr Z) (zI c.b) AC Z (a0.ldp (i:=2) sM) (Ae (e:=56) Z Z Z)<|Ad 1 Z ?_
    refine Bk (k-((1:Nat):Int)) Z Z (CM sD sD) (Ae (e:=56) Z Z Z) ?_
    refine AB 94 [] [] [zI c.b,zI ((0:Nat):Int),zI (k-((1:Nat):Int))] Z Z ED (Ae (e:=56) Z Z Z) (.bool (decide (((0:Nat):Int)≤c.b) && decide (c.b≤(k-((1:Nat):Int))))) (fun wq=>B9 wq _ _ _ hc.2.2.1 oM oM) ?_
    rw[show(decide (((0:Nat):Int)≤c.b) && decide (c.b≤(k-((1:Nat):Int))))=true from EJ]
    exact Ac 2 Z<|A1<|AG<|Ao<|Ah [6] Z (.bool true) Z ⟨IF,a1⟩
  refine Al false Z Z (A6 a5) Aa<|Ac 1 Z<|Ai Z<|gK [0,0] Z ?_
  by_cases a6:c.op=((7:Nat):Int)
  ·
    refine Al true Z Z (A5 a6) Aa<|Ac 1 Z<|Ag Z<|gK [0,2,0,0,0,2,0,0,0,0,2,0,0,0,0,0] Z ?_
    unfold DN at hf
    refine Ak (p:=zP w.heap.size) 3 CO Z Z Aa<|Af (p:=An (zP w.heap.size) 3) (.inr Z) (zI c.num) AC Z (a0.ldp (i:=3) sM) Aa ?_
    have ab:c.num=((0:Nat):Int):=oM
    refine Al true Z Z (A5 ab) Aa<|Ad 1 Z<|Ak (p:=zP w.heap.size) 2 BD Z Z (Ae (e:=68) Z Z Z)<|Af (p:=An (zP w.heap.size) 2) (.inr Z) (zI c.b) AC Z (a0.ldp (i:=2) sM) (Ae (e:=68) Z Z Z) ?_
    have ac:c.b=((0:Nat):Int):=oM
    refine Al true Z Z (A5 ac) (Ae (e:=68) Z Z Z)<|Ad 2 Z<|Ak (p:=zP w.heap.size) 1 BC Z Z (Ae (e:=73) Z Z Z)<|Af (p:=An (zP w.heap.size) 1) (.inr Z) (zI c.a) AC Z (a0.ldp (i:=1) sM) (Ae (e:=73) Z Z Z)<|Ad 1 Z ?_
    refine Bk (k-((1:Nat):Int)) Z Z (CM sD sD) (Ae (e:=73) Z Z Z) ?_
    refine AB 94 [] [] [zI c.a,zI ((0:Nat):Int),zI (k-((1:Nat):Int))] Z Z ED (Ae (e:=73) Z Z Z) (.bool (decide (((0:Nat):Int)≤c.a) && decide (c.a≤(k-((1:Nat):Int))))) (fun wq=>B9 wq _ _ _ hc.2.1 oM oM) ?_
    rw[show(decide (((0:Nat):Int)≤c.a) && decide (c.a≤(k-((1:Nat):Int))))=true from EJ]
    exact Ac 2 Z<|A1<|AG<|Ao<|Ah [6] Z (.bool true) Z ⟨IF,a1⟩
  exact Al false Z Z (A6 a6) Aa<|Ac 1 Z<|Ai Z<|A2<|gL Z<|A1<|Ah [6] Z (.bool false) Z ⟨IF,a1⟩
theorem Dc {p:Prop}(h:p:=by simp[DR,DV]):p:=h
theorem OS (w:World)(a:Sr)(vt:Value)(ipT:Int)(T:Tp)(oT:Sr)(hT:RN [] (rP Vo) w.heap vt ⟨ipT,T,oT⟩)(hip:ipT=(a.length:Int))(hR:PB a T oT) :
    Calls Tryz.prog 249 #[vt] w (fun e w'=>e=.returned (.bool true)∧AH w w'):=by
  refine Aq [vt] 103 Tryz.func249 Z Z sM ?_
  have a4:AH w w:=AH.refl w
  have hK:=hR.k
  have hni:=hK.nb
  have hcl:=hK.cl
  have b2:=hK.gl
  have hol:=hK.ol
  have hpos:=hK.pos
  refine gL Z<|gK [0,0,0,2,0,0] Z<|Ad 1 Z<|AF (hT.isPtr) Z Aa ?_
  obtain⟨cs1,ao,a0⟩:=RN.at DK hT
  obtain⟨ay,vg1,vx1,rfl,ae,a5,a6,a7⟩:=RTp.of ao
  replace ae:Bn ipT:=ae
  replace a5:RN [] (D5 4 KU) w.heap ay T.code:=a5
  replace a6:RN [] (D5 2 KV) w.heap vg1 T.grd:=a6
  replace a7:RN [] (B4 rI) w.heap vx1 oT:=a7
  refine AE (p:=vt) 1 Cp Z (a0 _<|At.of_ext [] a4) Aa<|Af (p:=An vt 1) (.inr Z) ay DQ Z ((a0 _<|At.of_ext [] a4).ld (i:=1) Dc) Aa<|AR (v:=ay) JY Z a5.isSl Aa<|Ac 1 Z<|A0<|gK [0,0,0,2,0,0,0,0,0,0,0,0,0,0,2,0,0,0,0,0,0,0,2,0,0,0,0] Z<|Ad 1 Z<|AF (hT.isPtr) Z Aa<|AE (p:=vt) 0 H2 Z (a0 _<|At.of_ext [] a4) Aa<|Af (p:=An vt 0) (.inr Z) (zI ipT) AC Z ((a0 _<|At.of_ext [] a4).ld (i:=0) Dc) Aa ?_
  refine AB 94 [] [] [zI ipT,zI ((0:Nat):Int),zI ((12:Nat):Int)] Z Z ED Aa (.bool (decide (((0:Nat):Int)≤ipT) && decide (ipT≤((12:Nat):Int)))) (fun wq=>B9 wq _ _ _ ae oM oM) ?_
  rw[show(decide (((0:Nat):Int)≤ipT) && decide (ipT≤((12:Nat):Int)))=true from EJ]
  refine Bo false Z Z Aa<|Ad 2 Z ?_
  have ap:¬(((3200:Nat):Int)<(T.code.length:Int)):=oM
  refine C2 false Z Z (A6 ap) (Ae (e:=18) Z Z Z)<|Ad 3 Z<|AF (hT.isPtr) Z (Ae (e:=22) Z Z Z)<|AE (p:=vt) 2 HM Z (a0 _<|At.of_ext [] a4) (Ae (e:=22) Z Z Z)<|Af (p:=An vt 2) (.inr Z) vg1 MN Z ((a0 _<|At.of_ext [] a4).ld (i:=2) Dc) (Ae (e:=22) Z Z Z)<|AR (v:=vg1) Vp Z a6.isSl (Ae (e:=22) Z Z Z) ?_
  have aq:¬(((3200:Nat):Int)<(T.grd.length:Int)):=oM
  refine C2 false Z Z (A6 aq) (Ae (e:=22) Z Z Z)<|Ad 3 Z<|AF (hT.isPtr) Z (Ae (e:=30) Z Z Z)<|AE (p:=vt) 3 EV Z (a0 _<|At.of_ext [] a4) (Ae (e:=30) Z Z Z)<|Af (p:=An vt 3) (.inr Z) vx1 B6 Z ((a0 _<|At.of_ext [] a4).ld (i:=3) Dc) (Ae (e:=30) Z Z Z)<|AR (v:=vx1) Bt Z a7.slL (Ae (e:=30) Z Z Z)<|AB 94 [] [] [zI (oT.length:Int),zI ((1:Nat):Int),zI ((12:Nat):Int)] Z Z ED (Ae (e:=30) Z Z Z) (.bool (decide (((1:Nat):Int)≤(oT.length:Int)) && decide ((oT.length:Int)≤((12:Nat):Int)))) (fun wq=>B9 wq _ _ _ oM oM oM) ?_
  rw[show(decide (((1:Nat):Int)≤(oT.length:Int)) && decide ((oT.length:Int)≤((12:Nat):Int)))=true from EJ]
  refine Bo false Z Z (Ae (e:=30) Z Z Z)<|Ac 1 Z<|Ai Z<|A2<|A0<|gL Z<|A3<|AU (S:=Nat) (fun k=>([(4,zI (k:Int)),(0,vt),(3,zI (T.code.length:Int))])) (fun k W=>AH w W∧k≤T.code.length) (fun k=>T.code.length-k) 0 ⟨rfl,rfl,rfl,trivial⟩ ⟨a4,oM⟩ ?_
  clear a4
  rintro k ρ6 w6 ⟨a3,al⟩
  have ag:w.heap.size≤w6.heap.size:=a3.size
  refine A0<|gK [0,0,0,0,2,0,0] Z<|Ad 2 Z<|AF (hT.isPtr) Z Aa<|AE (p:=vt) 1 Cp Z (a0 _<|At.of_ext [] a3) Aa<|Af (p:=An vt 1) (.inr Z) ay DQ Z ((a0 _<|At.of_ext [] a3).ld (i:=1) Dc) Aa<|AR (v:=ay) JY Z a5.isSl Aa ?_
  by_cases am:(k:Int)<(T.code.length:Int)
  ·
    refine AI true Z Z (A5 am) Aa<|Aj<|Ag Z<|A2<|A0<|A3<|A0<|AM _ [0,0,0,1,0,0,1,0,0,0,0,1,3,0] mixed (by kernel_rfl)<|Ad 1 Z<|AF (hT.isPtr) Z Aa<|AE (p:=vt) 1 Cp Z (a0 _<|At.of_ext [] a3.drew) Aa<|Af (p:=An vt 1) (.inl Z) ay DQ Z ((a0 _<|At.of_ext [] a3.drew).ld (i:=1) Dc) Aa<|Ad 1 Z ?_
    refine Aw (v:=ay) k JY FD Z Z a5.isSl Z sD Aa ?_
    obtain⟨cs8,ar,au⟩:=a5.get AY As.zero (k:=k) sD
    obtain⟨rfl,af⟩:=Io ar
    refine AK (p:=Ay ay k 4) (.inl Z) [zI<|(T.code.getD k As.zero).op,zI<|(T.code.getD k As.zero).a,zI<|(T.code.getD k As.zero).b,zI<|(T.code.getD k As.zero).num] DZ Z (fun az av=>au az<|At.of_ext []<|a3.drew.trans av) Z Aa<|Ad 2 Z<|AF (hT.isPtr) Z Aa<|AE (p:=vt) 0 H2 Z (a0 _<|At.of_ext [] a3.drew) Aa<|Af (p:=An vt 0) (.inl Z) (zI ipT) AC Z ((a0 _<|At.of_ext [] a3.drew).ld (i:=0) Dc) Aa ?_
    refine Ap 256 [] [] [.agg #[zI<|(T.code.getD k As.zero).op,zI<|(T.code.getD k As.zero).a,zI<|(T.code.getD k As.zero).b,zI<|(T.code.getD k As.zero).num],zI (k:Int),zI ipT] Z Z dP Aa (LC _ (⟨(T.code.getD k As.zero).op,(T.code.getD k As.zero).a,(T.code.getD k As.zero).b,(T.code.getD k As.zero).num⟩:As) _ _ ⟨af.1,af.2.1,af.2.2.1,af.2.2.2⟩ oM ae oM oM (by rw[hip,Int.toNat_natCast,Int.toNat_natCast];exact hK.form k oM)) ?_
    rintro e9 w9 ⟨rfl,a8⟩
    refine⟨_,rfl,a8,?_⟩
    replace a8:=a8.of_drew
    have aw:=a8.size
    have ax:=a3.trans a8
    exact Bo false Z Z Aa<|Aj<|Ai Z<|A2<|Ab _ [0,0,0] Z<|Ad 1 Z<|AQ ((k+1:Nat):Int) Z Z (Bi oM sD) Aa<|Ac 1 Z ⟨k+1,_,rfl,zR,⟨ax,oM⟩,zD⟩
  refine AI false Z Z (A6 am) Aa<|Aj<|Ai Z<|A4<|AA<|AA<|Av<|A0<|gL Z<|A3<|AU (S:=Nat) (fun j=>([(5,zI (j:Int)),(0,vt),(3,zI (T.code.length:Int))])) (fun j W=>AH w W∧j≤T.grd.length) (fun j=>T.grd.length-j) 0 ⟨rfl,rfl,rfl,trivial⟩ ⟨a3,oM⟩ ?_
  clear a3 ag
  rintro j ρ10 b0 ⟨a1,ah⟩
  have a9:w.heap.size≤b0.heap.size:=a1.size
  refine A0<|gK [0,0,0,0,2,0,0] Z<|Ad 2 Z<|AF (hT.isPtr) Z Aa<|AE (p:=vt) 2 HM Z (a0 _<|At.of_ext [] a1) Aa<|Af (p:=An vt 2) (.inr Z) vg1 MN Z ((a0 _<|At.of_ext [] a1).ld (i:=2) Dc) Aa<|AR (v:=vg1) Vp Z a6.isSl Aa ?_
  by_cases aa:(j:Int)<(T.grd.length:Int)
  ·
    refine AI true Z Z (A5 aa) Aa<|Aj<|Ag Z<|A2<|A0<|A3<|gK [0,0,0,2,0,0,0,2,0,0,0,0] Z ?_
    have hgj:=hK.gd j oM
    refine Ad 1 Z<|AF (hT.isPtr) Z Aa<|AE (p:=vt) 2 HM Z (a0 _<|At.of_ext [] a1) Aa<|Af (p:=An vt 2) (.inr Z) vg1 MN Z ((a0 _<|At.of_ext [] a1).ld (i:=2) Dc) Aa<|Ad 1 Z<|Aw (v:=vg1) j Vp L3 Z Z a6.isSl Z sD Aa ?_
    obtain⟨cs12,ai,ab⟩:=a6.get Bb Hh.zero (k:=j) sD
    obtain⟨rfl,aj⟩:=Ui ai
    refine AE (p:=Ay vg1 j 2) 0 RW Z (ab _<|At.of_ext [] a1) Aa<|Af (p:=An (Ay vg1 j 2) 0) (.inr Z) (zI<|(T.grd.getD j Hh.zero).reg) AC Z ((ab _<|At.of_ext [] a1).ld (i:=0) Dc) Aa<|Ad 1 Z ?_
    refine Bk ((T.code.length:Int)-((1:Nat):Int)) Z Z (CM sD sD) Aa ?_
    refine AB 94 [] [] [zI<|(T.grd.getD j Hh.zero).reg,zI ((0:Nat):Int),zI ((T.code.length:Int)-((1:Nat):Int))] Z Z ED Aa (.bool (decide (((0:Nat):Int)≤((T.grd.getD j Hh.zero).reg)) && decide (((T.grd.getD j Hh.zero).reg)≤((T.code.length:Int)-((1:Nat):Int))))) (fun wq=>B9 wq _ _ _ aj oM oM) ?_
    rw[show(decide (((0:Nat):Int)≤((T.grd.getD j Hh.zero).reg)) && decide (((T.grd.getD j Hh.zero).reg)≤((T.code.length:Int)-((1:Nat):Int))))=true from EJ]
    exact Bo false Z Z Aa<|Aj<|Ai Z<|A2<|Ab _ [0,0,0] Z<|Ad 1 Z<|AQ ((j+1:Nat):Int) Z Z (Bi oM sD) Aa<|Ac 1 Z ⟨j+1,_,rfl,zR,⟨a1,oM⟩,zD⟩
  refine AI false Z Z (A6 aa) Aa<|Aj<|Ai Z<|A4<|AA<|AA<|Av<|A0<|gL Z<|A3<|AU (S:=Nat) (fun i=>([(6,zI (i:Int)),(0,vt),(3,zI (T.code.length:Int))])) (fun i W=>AH w W∧i≤oT.length) (fun i=>oT.length-i) 0 ⟨rfl,rfl,rfl,trivial⟩ ⟨a1,oM⟩ ?_
  clear a1 a9
  rintro i ρ14 b1 ⟨a2,ak⟩
  have an:w.heap.size≤b1.heap.size:=a2.size
  refine A0<|gK [0,0,0,0,2,0,0] Z<|Ad 2 Z<|AF (hT.isPtr) Z Aa<|AE (p:=vt) 3 EV Z (a0 _<|At.of_ext [] a2) Aa<|Af (p:=An vt 3) (.inr Z) vx1 B6 Z ((a0 _<|At.of_ext [] a2).ld (i:=3) Dc) Aa<|AR (v:=vx1) Bt Z a7.slL Aa ?_
  by_cases ac:(i:Int)<(oT.length:Int)
  ·
    refine AI true Z Z (A5 ac) Aa<|Aj<|Ag Z<|A2<|A0<|A3<|gK [0,0,0,2,0,0,2,0,0,0,0] Z ?_
    have hoj:=hK.out i oM
    refine Ad 1 Z<|AF (hT.isPtr) Z Aa<|AE (p:=vt) 3 EV Z (a0 _<|At.of_ext [] a2) Aa<|Af (p:=An vt 3) (.inr Z) vx1 B6 Z ((a0 _<|At.of_ext [] a2).ld (i:=3) Dc) Aa<|Ad 1 Z<|Aw (v:=vx1) i Bt BG Z Z a7.slL Z sD Aa ?_
    have ad:=RN.getI (w:=w) (k:=i) a7 sD
    refine Af (p:=Ay vx1 i 1) (.inr Z) (zI<|oT.getD i 0) AC Z (ad.1 _<|At.of_ext [] a2) Aa<|Ad 1 Z ?_
    refine Bk ((T.code.length:Int)-((1:Nat):Int)) Z Z (CM sD sD) Aa ?_
    refine AB 94 [] [] [zI<|oT.getD i 0,zI ((0:Nat):Int),zI ((T.code.length:Int)-((1:Nat):Int))] Z Z ED Aa (.bool (decide (((0:Nat):Int)≤(oT.getD i 0)) && decide ((oT.getD i 0)≤((T.code.length:Int)-((1:Nat):Int))))) (fun wq=>B9 wq _ _ _ ad.2 oM oM) ?_
    rw[show(decide (((0:Nat):Int)≤(oT.getD i 0)) && decide ((oT.getD i 0)≤((T.code.length:Int)-((1:Nat):Int))))=true from EJ]
    exact Bo false Z Z Aa<|Aj<|Ai Z<|A2<|Ab _ [0,0,0] Z<|Ad 1 Z<|AQ ((i+1:Nat):Int) Z Z (Bi oM sD) Aa<|Ac 1 Z ⟨i+1,_,rfl,zR,⟨a2,oM⟩,zD⟩
  exact AI false Z Z (A6 ac) Aa<|Aj<|Ai Z<|A4<|AA<|AA<|Av<|gL Z<|A1<|Ah [2] Z (.bool true) Z ⟨rfl,a2⟩
theorem LE (w:World)(vt:Value)(ipT:Int)(T:Tp)(oT:Sr)(va:Value)(a:Sr)(hT:RN [] (rP Vo) w.heap vt ⟨ipT,T,oT⟩)(ha:Rd (B4 rI) w.heap va a)(hip:ipT=(a.length:Int))(hR:PB a T oT) :
    Calls Tryz.prog 227 #[vt,va] w (fun e w'=>e=.returned (zI 0)∧AH w w'):=by
  refine Aq [vt,va] 20 Tryz.func227 Z Z sM ?_
  have a3:AH w w:=AH.refl w
  have ae:=ha.lenle
  have hK:=hR.k
  have hni:=hK.nb
  have hcl:=hK.cl
  have ag:=hK.gl
  have hol:=hK.ol
  have hpos:=hK.pos
  have hna:=hR.n
  refine gL Z<|A0<|gK [0,3,0] Z<|Ad 1 Z<|Ap 249 [] [] [vt] Z Z dK Aa (OS _ a vt ipT T oT (hT.ext (AS DK) a3) oM hR) ?_
  rintro e1 w1 ⟨rfl,a1⟩
  refine⟨_,rfl,a1,?_⟩
  have a9:=a1.size
  have a0:=a3.trans a1
  refine Bo false Z Z Aa<|Aj<|Ai Z<|A2<|A0<|gK [0,0,0,0,0,2,0,0,0,3,0,0] Z<|Ad 1 Z<|AR (v:=va) Bt Z ha.isSl Aa<|Ad 1 Z<|AF (hT.isPtr) Z Aa ?_
  obtain⟨cs2,aa,a4⟩:=RN.at DK hT
  obtain⟨af,vg2,vx2,rfl,a5,a6,a7,a8⟩:=RTp.of aa
  replace a5:Bn ipT:=a5
  replace a6:RN [] (D5 4 KU) w.heap af T.code:=a6
  replace a7:RN [] (D5 2 KV) w.heap vg2 T.grd:=a7
  replace a8:RN [] (B4 rI) w.heap vx2 oT:=a8
  refine AE (p:=vt) 0 H2 Z (a4 _<|At.of_ext [] a0) Aa<|Af (p:=An vt 0) (.inr Z) (zI ipT) AC Z ((a4 _<|At.of_ext [] a0).ld (i:=0) (by simp[DR,DV])) Aa ?_
  have ab:¬((a.length:Int)≠ipT):=oM
  refine B2 false Z Z (A6 ab) Aa<|Ad 2 Z<|Ap 113 [] [] [va] Z Z PE (Ae (e:=15) Z Z Z) (CV _ _ _<|ha.ext g1 a0) ?_
  rintro e4 w4 ⟨rfl,a2⟩
  refine⟨_,rfl,a2,?_⟩
  have ac:=a2.size
  have ad:=a0.trans a2
  rw[show(AX a)=true from hna]
  exact Bo false Z Z (Ae (e:=15) Z Z Z)<|Ac 1 Z<|Ai Z<|A2<|gL Z<|A1<|Ah [4] Z (zI ((0:Nat):Int)) Z ⟨rfl,ad⟩
theorem KI (w:World)(vt:Value)(ipT:Int)(T:Tp)(oT:Sr)(va:Value)(a:Sr)(vw:Value)(ws:Sr)(vd:Value)(d:Sr)(hT:RN [] (rP Vo) w.heap vt ⟨ipT,T,oT⟩)(ha:Rd (B4 rI) w.heap va a)(hws:Rd (B4 rI) w.heap vw ws)(hd:Rd (B4 rI) w.heap vd d)(hip:ipT=(a.length:Int))(hR:PB a T oT)(hw:ws.length=oT.length∧AX ws=true)(hdd:d.length=a.length∧AX d=true) :
    Calls Tryz.prog 182 #[vt,va,vw,vd] w (fun e w'=>e=.returned (zI 0)∧AH w w'):=by
  refine Aq [vt,va,vw,vd] 45 Tryz.func182 Z Z sM ?_
  have a3:AH w w:=AH.refl w
  have aj:=ha.lenle
  have ak:=hws.lenle
  have al:=hd.lenle
  have hK:=hR.k
  have hni:=hK.nb
  have hcl:=hK.cl
  have an:=hK.gl
  have hol:=hK.ol
  have hpos:=hK.pos
  refine gL Z<|gK [0,0,3,0] Z<|Ad 2 Z<|Ap 227 [] [] [vt,va] Z Z dE Aa (LE _ vt ipT T oT _ _ (hT.ext (AS DK) a3) (ha.ext g1 a3) oM hR) ?_
  rintro e1 w1 ⟨rfl,a4⟩
  refine⟨_,rfl,a4,?_⟩
  have ab:=a4.size
  have a0:=a3.trans a4
  refine Ac 1 Z<|A0<|gK [0,0,0,0,0,0,0,0,2,0,0,0,0,3,0,0,0,0,0,0,0,0,2,0,0,0,0,3,0,0,0] Z<|Ad 1 Z ?_
  have ac:0=((0:Nat):Int):=rfl
  refine Al true Z Z (A5 ac) Aa<|Ad 2 Z<|AR (v:=vw) Bt Z hws.isSl (Ae (e:=15) Z Z Z)<|Ad 1 Z<|AF (hT.isPtr) Z (Ae (e:=15) Z Z Z) ?_
  obtain⟨cs3,ad,a1⟩:=RN.at DK hT
  obtain⟨am,vg3,vx3,rfl,a8,a9,aa,a5⟩:=RTp.of ad
  replace a8:Bn ipT:=a8
  replace a9:RN [] (D5 4 KU) w.heap am T.code:=a9
  replace aa:RN [] (D5 2 KV) w.heap vg3 T.grd:=aa
  replace a5:RN [] (B4 rI) w.heap vx3 oT:=a5
  refine AE (p:=vt) 3 EV Z (a1 _<|At.of_ext [] a0) (Ae (e:=15) Z Z Z)<|Af (p:=An vt 3) (.inr Z) vx3 B6 Z ((a1 _<|At.of_ext [] a0).ld (i:=3) (by simp[DR,DV])) (Ae (e:=15) Z Z Z)<|AR (v:=vx3) Bt Z a5.slL (Ae (e:=15) Z Z Z) ?_
  have ae:¬((ws.length:Int)≠(oT.length:Int)):=oM
  refine B2 false Z Z (A6 ae) (Ae (e:=15) Z Z Z)<|Ad 2 Z<|Ap 113 [] [] [vw] Z Z PE (Ae (e:=24) Z Z Z) (CV _ _ _<|hws.ext g1 a0) ?_
  rintro e5 w5 ⟨rfl,a6⟩
  refine⟨_,rfl,a6,?_⟩
  have af:=a6.size
  have a2:=a0.trans a6
  rw[show(AX ws)=true from hw.2]
  refine Bo false Z Z (Ae (e:=24) Z Z Z)<|Ad 3 Z<|AR (v:=vd) Bt Z hd.isSl (Ae (e:=29) Z Z Z)<|Ad 1 Z<|AF (hT.isPtr) Z (Ae (e:=29) Z Z Z)<|AE (p:=vt) 0 H2 Z (a1 _<|At.of_ext [] a2) (Ae (e:=29) Z Z Z)<|Af (p:=An vt 0) (.inr Z) (zI ipT) AC Z ((a1 _<|At.of_ext [] a2).ld (i:=0) (by simp[DR,DV])) (Ae (e:=29) Z Z Z) ?_
  have ag:¬((d.length:Int)≠ipT):=oM
  refine B2 false Z Z (A6 ag) (Ae (e:=29) Z Z Z)<|Ad 3 Z<|Ap 113 [] [] [vd] Z Z PE (Ae (e:=38) Z Z Z) (CV _ _ _<|hd.ext g1 a2) ?_
  rintro e7 w7 ⟨rfl,a7⟩
  refine⟨_,rfl,a7,?_⟩
  have ah:=a7.size
  have ai:=a2.trans a7
  rw[show(AX d)=true from hdd.2]
  exact Bo false Z Z (Ae (e:=38) Z Z Z)<|Ac 2 Z<|Ai Z<|A2<|gK [0,0] Z<|Ac 2 Z<|A1<|Ah [8] Z (zI 0) Z ⟨rfl,ai⟩
theorem IG {p:Prop}(h:p:=by first|omega|assumption|(simp only[zb,z9,z4,z6,z5,E4];omega)|(simp[zb,z9,z4,z6,z5,E4];done)|(simp[zb,z9,z4,z6,z5,E4];omega)):p:=h
theorem N9 (w:World)(va:Value)(a:Sr)(vd:Value)(d:Sr)(o:Int)(ha:Rd (B4 rI) w.heap va a)(hd:Rd (B4 rI) w.heap vd d)(_ho:Bn o)(ho:o=0)(hla:a.length≤1000000) :
    Calls Tryz.prog 184 #[va,vd,zI o] w (fun e w'=>∃v0:Value,e=.returned (v0)∧AH w w'∧Fr (Bp (Bp rI 2) 27) w.heap.size w'.heap.size w'.heap v0 (Cw a)):=by
  refine Aq [va,vd,zI o] 37 Tryz.func184 Z Z sM ?_
  have ab:AH w w:=AH.refl w
  have av:=ha.lenle
  have aw:=hd.lenle
  refine gL Z<|gK [3,0] Z (Cn (Bp rI 2) o1 Bx AT Aa fun v1 w1 a6 ah ac=>?_)
  have a7:=a6.size
  have ad:=ab.trans a6
  refine Ac 1 Z<|A0<|gL Z<|A3 ?_
  refine AU (S:=Nat×Value) (fun⟨k,vo⟩=>([(7,vo),(8,zI (k:Int)),(0,va),(1,vd),(2,zI o)])) (fun⟨k,vo⟩ W=>AH w W∧Fr (Bp (Bp rI 2) 27) w.heap.size W.heap.size W.heap vo ((Cw a).take k)∧k≤a.length) (fun⟨k,vo⟩=>a.length-k) (0,v1) ⟨rfl,rfl,rfl,rfl,rfl,trivial⟩ ⟨ad,ac.up o2,IG⟩ ?_
  clear ab ac ah a6 a7 ad
  rintro⟨k,vo⟩ ρ2 w2 ⟨a3,a2,ae⟩
  have ai:w.heap.size≤w2.heap.size:=a3.size
  refine A0<|gK [0,0,0,0] Z<|Ad 2 Z<|AR (v:=va) Bt Z ha.isSl Aa ?_
  by_cases af:(k:Int)<(a.length:Int)
  ·
    refine AI true Z Z (A5 af) Aa<|Aj<|Ag Z<|A2<|A0<|A3<|gK [0,0,0,2,0,0,3,0] Z<|Ad 2 Z<|Aw (v:=va) k Bt BG Z Z ha.isSl Z IG Aa ?_
    refine Af (p:=Ay va k 1) (.inr Z) (zI<|a.getD k 0) AC Z (Bd a3 (ha.getI IG).1) Aa<|Ad 1 Z<|AQ ((o.toNat+1:Nat):Int) Z Z (by rw[CM oM oM];omega) Aa ?_
    refine Ap 203 [] [] [zI<|a.getD k 0,zI ((o.toNat+1:Nat):Int)] Z Z MK Aa (Cx _ _ (o.toNat+1) (ha.getI IG).2 IG oM) ?_
    rintro e4 w4 ⟨a8,rfl,a5,a4⟩
    refine⟨_,rfl,a5,?_⟩
    have aj:=a5.size
    have ak:=a3.trans a5
    have a0:=a2.ext (o2) a5
    refine Ac 1 Z<|A0<|gK [0,0] Z<|Ad 1 Z ?_
    have al:¬(((0:Nat):Int)<o):=oM
    refine C2 false Z Z (A6 al) Aa<|Aj<|Ai Z<|A2<|Ab _ [0,0,3,4,0] Z<|Ad 2 Z (BA (u:=a8) (B:=w2.heap.size) o1 Bx AT Z Z a4 (by first|exact A7 _|omega) Aa fun v6 w6 a9 au am=>?_)
    have an:=a9.size
    have aa:=ak.trans a9
    have a1:=a0.ext (o2) a9
    refine Gb o1 (v:=vo) (a:=v6) Bx AT Z Z Z a1 aa.size am oM a3.size IG (by unfold maxLen;first|omega|assumption|(simp only[zb,z9,z4,z6,z5,E4];omega)|(simp[zb,z9,z4,z6,z5,E4];done)|(simp[zb,z9,z4,z6,z5,E4];omega)) Aa fun v7 w7 F7 ag ao ap=>?_
    have aq:AH w w7:=ag.below aa (fun c hc=>A8 (A7 _) (ao c hc).1) aa.size
    have ar:w6.heap.size≤w7.heap.size:=ag.size
    refine Ac 1 Z<|Ab _ [0,0,0] Z<|Ad 1 Z<|AQ ((k+1:Nat):Int) Z Z (Bi oM IG) Aa<|Ac 1 Z ?_
    exact⟨(k+1,v7),_,rfl,zR,⟨aq,(by rw[D6 [] (by rw[Es];omega),Tn _ oM];have h:=ap.up o2;rw[show o.toNat+1=1 from by omega]at h;exact h),IG⟩,zD⟩
  exact AI false Z Z (A6 af) Aa<|Aj<|Ai Z<|A4<|AA<|AA<|Av<|gK [0,0] Z<|Ac 2 Z<|A1<|Ah [6] Z vo Z ⟨vo,rfl,a3,(by have h:=a2.up o2;rwa [za (by rw[Es];omega)]at h)⟩
theorem JP {p:Prop}(h:p:=by first|(rw[Cc oM,M3 oM];exact⟨_,_,by assumption⟩)|(rw[Cc oM,Ko oM];exact⟨_,_,by assumption⟩)|(rw[Cc oM,Kp oM];exact⟨_,_,by assumption⟩)|(rw[Cc oM,Kq oM];exact⟨_,_,by assumption⟩)|(rw[Cc oM,Ks oM];exact⟨_,_,by assumption⟩)|(rw[Cc oM,Kt oM];exact⟨_,_,by assumption⟩)|(rw[Cc oM,Kr oM,← OG];exact⟨_,_,by assumption⟩)):p:=h
theorem JQ {p:Prop}(h:p:=by unfold maxLen;first|omega|assumption|(simp only[zb,z9,z4,z6,z5];omega)|(simp[zb,z9,z4,z6,z5];done)|(simp[zb,z9,z4,z6,z5];omega)):p:=h
theorem JS {p:Prop}(h:p:=by first|omega|(simp only[Fx,Gg,Er,Dl,VB,E4];omega)):p:=h
theorem JT {p:Prop}(h:p:=by exact Rp hR hsA (hform k hkl) hkl):p:=h
theorem JU {p:Prop}(h:p:=by simpa using hb):p:=h
theorem Le (w:World)(vt:Value)(ipT:Int)(T:Tp)(oT:Sr)(va:Value)(A:List (Sr))(K:Nat)(hT:RN [] (rP Vo) w.heap vt ⟨ipT,T,oT⟩)(hA:RN [] (B4 (B4 rI)) w.heap va A)(hqA:C3 va)(_hK:K≤1000000000000)(hK:1≤K∧K≤13)(hsA:BZ K A)(hform:∀k,k<T.code.length→DN A.length k (T.code.getD k As.zero))(hlt:T.code.length≤4000)(hnz:Lx K A T.code T.code.length) :
    Calls Tryz.prog 183 #[vt,va,zI (K:Int)] w (fun e w'=>∃v0:Value,e=.returned (.tuple #[v0,.bool true])∧AH w w'∧RN [] (B4 (B4 rI)) w'.heap v0 (Be K A T.code)∧C3 v0):=by
  refine Aq [vt,va,zI (K:Int)] 118 Tryz.func183 Z Z sM ?_
  have i3:AH w w:=AH.refl w
  have f3:=hA.lenL
  unfold maxLen at f3
  have hS:∀b∈([]:List Nat),b<w.heap.size:=fun b hb=>by cases hb
  refine gK [0,0] Z<|Ac 2 Z<|gK [3,0] Z ?_
  obtain⟨BO,hBO⟩:∃b:Nat,b=w.heap.size:=⟨_,rfl⟩
  have hwB:w.heap.size≤BO:=by omega
  refine Cn rV Bv Bx AT Aa fun v1 w1 dn jc dp=>?_
  have dq:=dn.size
  have i4:=i3.trans dn
  obtain⟨kd,F1,ke⟩:=Hy.nil (S:=[]) (by rw[← hBO]at dp;exact dp)
  refine Ac 1 Z<|A0<|gL Z<|A3<|AU (S:=Nat×Value) (fun⟨k,vo⟩=>([(8,vo),(9,zI (k:Int)),(0,vt),(1,va),(2,zI (K:Int))])) (fun⟨k,vo⟩ W=>AH w W∧k≤T.code.length∧w.heap.size≤BO∧BO≤W.heap.size∧P3 27 [] BO W.heap vo (Be K A<|T.code.take k)∧BZ K (Be K A<|T.code.take k)) (fun⟨k,vo⟩=>T.code.length-k) (0,v1) ⟨rfl,rfl,rfl,rfl,rfl,trivial⟩ ⟨i4,oM,oM,oM,(by exact⟨_,_,by assumption⟩),(by intro j hj;simp at hj)⟩ ?_
  clear i3 dp jc dn dq i4
  rintro⟨k,vo⟩ ρ2 w2 ⟨ba,i5,i6,i8,hbld,hR⟩
  have jd:w.heap.size≤w2.heap.size:=ba.size
  have hRl:(Be K A (T.code.take k)).length=k:=by rw[BS,List.length_take];omega
  obtain⟨kf,F3,az⟩:=hbld
  have hFl:∀b∈F3,b<w2.heap.size:=az.lt
  refine A0<|gK [0,0,0,0,2,0,0] Z<|Ad 2 Z<|AF (hT.isPtr) Z Aa ?_
  obtain⟨cs4,je,dm⟩:=RN.at DK hT
  obtain⟨f2,vg4,vx4,rfl,i9,bx,ia,ib⟩:=RTp.of je
  replace i9:Bn ipT:=i9
  replace bx:RN [] (D5 4 KU) w.heap f2 T.code:=bx
  replace ia:RN [] (D5 2 KV) w.heap vg4 T.grd:=ia
  replace ib:RN [] (B4 rI) w.heap vx4 oT:=ib
  refine AE (p:=vt) 1 Cp Z (dm _<|At.of_ext [] ba) Aa<|Af (p:=An vt 1) (.inr Z) f2 DQ Z ((dm _<|At.of_ext [] ba).ld (i:=1) (by simp[DR,DV])) Aa<|AR (v:=f2) JY Z bx.isSl Aa ?_
  by_cases ic:(k:Int)<(T.code.length:Int)
  ·
    refine AI true Z Z (A5 ic) Aa<|Aj<|Ag Z<|A2<|A0<|A3<|gK [0,0,0,2,0,0,2,3,4] Z ?_
    have hkl:k<T.code.length:=by omega
    refine Ad 1 Z<|AF (hT.isPtr) Z Aa<|AE (p:=vt) 1 Cp Z (dm _<|At.of_ext [] ba) Aa<|Af (p:=An vt 1) (.inr Z) f2 DQ Z ((dm _<|At.of_ext [] ba).ld (i:=1) (by simp[DR,DV])) Aa<|Ad 1 Z<|Aw (v:=f2) k JY FD Z Z bx.isSl Z sD Aa ?_
    obtain⟨cs6,jf,jg⟩:=bx.get AY As.zero (k:=k) sD
    obtain⟨rfl,jh⟩:=Io jf
    refine AK (p:=Ay f2 k 4) (.inr Z) [zI<|(T.code.getD k As.zero).op,zI<|(T.code.getD k As.zero).a,zI<|(T.code.getD k As.zero).b,zI<|(T.code.getD k As.zero).num] DZ Z (fun kx ji=>jg kx<|At.of_ext []<|ba.trans ji) Z Aa (Bs (z:=.agg #[zI 0,zI 0,zI 0,zI 0]) Qo Aa fun w7 bz kg dr=>?_)
    have jj:=bz.size
    have id:=ba.trans bz
    have kh:=az.ext bz
    replace dr:BX w7.heap w2.heap.size [zI 0,zI 0,zI 0,zI 0]:=dr
    refine BE (vs:=[zI<|(T.code.getD k As.zero).op,zI<|(T.code.getD k As.zero).a,zI<|(T.code.getD k As.zero).b,zI<|(T.code.getD k As.zero).num]) DZ Z Z (by intro u hu;simp only[ze,z2,or_false]at hu;rcases hu with rfl|rfl|rfl|rfl <;> first|exact⟨rfl,rfl⟩) dr Z Z Aa fun w9 ds ki dt=>?_
    replace dt:BX w9.heap w2.heap.size [zI ((T.code.getD k As.zero).op),zI ((T.code.getD k As.zero).a),zI ((T.code.getD k As.zero).b),zI ((T.code.getD k As.zero).num)]:=dt
    have jk:AH w w9:=ds.below id (fun _ h=>zE h) id.size
    have jl:w7.heap.size≤w9.heap.size:=ds.size
    have du:=az.ext<|ds.below bz (fun _ h=>zE h) bz.size
    refine Aj<|gK [3,0] Z (Cn (rI) AJ Bt BG Aa fun lj f1 b3 jm jn=>?_)
    have ie:=b3.size
    have a3:=jk.trans b3
    have a0:=dt.ext b3
    have a1:=du.ext b3
    refine Ac 1 Z<|A0<|gK [0,2] Z<|Ak (p:=zP w2.heap.size) 0 HN Z Z Aa<|Af (p:=An (zP w2.heap.size) 0) (.inr Z) (zI<|(T.code.getD k As.zero).op) AC Z (a0.ldp (i:=0) sM) Aa<|Aj<|A3<|gK [0,0] Z ?_
    by_cases c0:(T.code.getD k As.zero).op=((1:Nat):Int)
    ·
      refine Al true Z Z (A5 c0) Aa<|Ac 1 Z<|Ag Z<|Ab _ [0,0,2,0,2,0] Z ?_
      have hio:=(hform k hkl).i1 oM
      have hra:=hsA (T.code.getD k As.zero).num.toNat oM
      have hra1:=hra.1
      refine Ad 1 Z<|Ak (p:=zP w2.heap.size) 3 CO Z Z Aa<|Af (p:=An (zP w2.heap.size) 3) (.inr Z) (zI<|(T.code.getD k As.zero).num) AC Z (a0.ldp (i:=3) sM) Aa<|Aw (v:=va) (((T.code.getD k As.zero).num).toNat) Bx AT Z Z hA.slL oM sD Aa ?_
      obtain⟨c1,dv,c2⟩:=RN.getL (w:=w) g1 [] (k:=((T.code.getD k As.zero).num).toNat) hA sD
      have c3:=c2.lenL
      unfold maxLen at c3
      refine Af (p:=Ay va (((T.code.getD k As.zero).num).toNat) 1) (.inr Z) c1 B6 Z (dv _<|At.of_ext [] a3) Aa<|Ac 1 Z<|Ab _ [0,0,3,3,4,0] Z<|Ad 2 Z<|Ap 83 [] [] [c1] Z Z MH Aa (BY _ _ _ (c2.ext g1 a3).rd JS) ?_
      rintro lk fe ⟨bb,rfl,b4,a8⟩
      refine⟨_,rfl,b4,?_⟩
      have ig:=b4.size
      have dw:=a3.trans b4
      have dx:=a1.ext b4
      refine BA (u:=bb) (B:=fe.heap.size) Bv Bx AT Z Z (Md fe.heap.size fe.heap.size _<|⟨(Bq a8.isSl).1,(Bq a8.isSl).2⟩) (A7 _) Aa fun ky kz b5 jo dy=>?_
      have ih:=b5.size
      have c4:=dw.trans b5
      have al:=a8.ext (o1) b5
      have c5:=dx.ext b5
      refine Dh (v:=vo) (a:=ky) (u:=bb) Bx AT Z Z Z c5 oM dy (RN.of_fr1 al fun b hb=>zH<|hFl b JU) sD JQ Aa ?_
      rintro l0 kr G19 c6 dz ⟨jp,ll,jq⟩
      have ii:kz.heap.size≤kr.heap.size:=c6.size
      have e0:AH w kr:=c6.below c4 (fun c hc=>A8 hwB (c5.low c (dz c hc))) c4.size
      refine Ac 1 Z<|Ab _ [0,0,0] Z<|Ad 1 Z<|AQ ((k+1:Nat):Int) Z Z (Bi oM sD) Aa<|Ac 1 Z ?_
      exact⟨(k+1,l0),_,rfl,zR,⟨e0,oM,oM,oM,JP,JT⟩,zD⟩
    refine Al false Z Z (A6 c0) Aa<|Ac 1 Z<|Ai Z<|gK [0,0] Z ?_
    by_cases c7:(T.code.getD k As.zero).op=((2:Nat):Int)
    ·
      refine Al true Z Z (A5 c7) Aa<|Ac 1 Z<|Ag Z<|Ab _ [0,2,0,3,0] Z<|Ak (p:=zP w2.heap.size) 3 CO Z Z Aa<|Af (p:=An (zP w2.heap.size) 3) (.inr Z) (zI<|(T.code.getD k As.zero).num) AC Z (a0.ldp (i:=3) sM) Aa<|Ad 1 Z ?_
      refine Ap 203 [] [] [zI<|(T.code.getD k As.zero).num,zI (K:Int)] Z Z MK Aa (Cx _ _ (K) jh.2.2.2 sD oM) ?_
      rintro lm ln ⟨c8,rfl,b6,bl⟩
      refine⟨_,rfl,b6,?_⟩
      have ij:=b6.size
      have e1:=a3.trans b6
      have e2:=a1.ext b6
      refine Ac 1 Z<|Ab _ [0,0,3,3,4,0] Z<|Ad 2 Z<|Ap 83 [] [] [c8] Z Z MH Aa (BY _ _ _ bl.rd1 JS) ?_
      rintro lo fr ⟨bc,rfl,b7,a9⟩
      refine⟨_,rfl,b7,?_⟩
      have ik:=b7.size
      have e3:=e1.trans b7
      have e4:=e2.ext b7
      refine BA (u:=bc) (B:=fr.heap.size) Bv Bx AT Z Z (Md fr.heap.size fr.heap.size _<|⟨(Bq a9.isSl).1,(Bq a9.isSl).2⟩) (A7 _) Aa fun l1 l2 b8 jr e5=>?_
      have il:=b8.size
      have c9:=e3.trans b8
      have am:=a9.ext (o1) b8
      have ca:=e4.ext b8
      refine Dh (v:=vo) (a:=l1) (u:=bc) Bx AT Z Z Z ca oM e5 (RN.of_fr1 am fun b hb=>zH<|hFl b JU) sD JQ Aa ?_
      rintro l3 ks G27 cb e6 ⟨js,lp,jt⟩
      have im:l2.heap.size≤ks.heap.size:=cb.size
      have e7:AH w ks:=cb.below c9 (fun c hc=>A8 hwB (ca.low c (e6 c hc))) c9.size
      refine Ac 1 Z<|Ab _ [0,0,0] Z<|Ad 1 Z<|AQ ((k+1:Nat):Int) Z Z (Bi oM sD) Aa<|Ac 1 Z ?_
      exact⟨(k+1,l3),_,rfl,zR,⟨e7,oM,oM,oM,JP,JT⟩,zD⟩
    refine Al false Z Z (A6 c7) Aa<|Ac 1 Z<|Ai Z<|gK [0,0] Z ?_
    by_cases cc:(T.code.getD k As.zero).op=((3:Nat):Int)
    ·
      refine Al true Z Z (A5 cc) Aa<|Ac 1 Z<|Ag Z<|AM _ [0,0,1,0,1,0,0,1,0,1,3,0] mixed (by kernel_rfl) ?_
      have hio:=(hform k hkl).i2 oM
      have hra:=hR (T.code.getD k As.zero).a.toNat oM
      have hrb:=hR (T.code.getD k As.zero).b.toNat oM
      have hra1:=hra.1
      have hrb1:=hrb.1
      refine Ad 1 Z<|Ak (p:=zP w2.heap.size) 1 BC Z Z Aa<|Af (p:=An (zP w2.heap.size) 1) (.inl Z) (zI<|(T.code.getD k As.zero).a) AC Z (a0.ldp (i:=1) sM) Aa<|Aw (v:=vo) (((T.code.getD k As.zero).a).toNat) Bx AT Z Z (a1.done fun b hb=>absurd hb z2).slL oM sD Aa ?_
      obtain⟨cd,e8,bm⟩:=RN.getL (w:=f1) g1 [] (k:=((T.code.getD k As.zero).a).toNat) (a1.done (fun b hb=>absurd hb z2)) sD
      have ce:=bm.lenL
      unfold maxLen at ce
      refine Af (p:=Ay vo (((T.code.getD k As.zero).a).toNat) 1) (.inl Z) cd B6 Z (e8 _ (At.refl _ _).drew) Aa<|Ad 1 Z<|Ak (p:=zP w2.heap.size) 2 BD Z Z Aa<|Af (p:=An (zP w2.heap.size) 2) (.inl Z) (zI<|(T.code.getD k As.zero).b) AC Z (a0.ldp (i:=2) sM) Aa ?_
      refine Aw (v:=vo) (((T.code.getD k As.zero).b).toNat) Bx AT Z Z (a1.done fun b hb=>absurd hb z2).slL oM sD Aa ?_
      obtain⟨cf,e9,bn⟩:=RN.getL (w:=f1) g1 [] (k:=((T.code.getD k As.zero).b).toNat) (a1.done (fun b hb=>absurd hb z2)) sD
      have cg:=bn.lenL
      unfold maxLen at cg
      refine Af (p:=Ay vo (((T.code.getD k As.zero).b).toNat) 1) (.inl Z) cf B6 Z (e9 _ (At.refl _ _).drew) Aa<|Ap 207 [] [] [cd,cf] Z Z J8 Aa (C6 _ _ _ _ _ (bm).rd (bn).rd oM oM) ?_
      rintro lq lr ⟨ch,rfl,a5,aa⟩
      refine⟨_,rfl,a5,?_⟩
      replace a5:=a5.of_drew
      have io:=a5.size
      have ea:=a3.trans a5
      have eb:=a1.ext a5
      have ec:=bm.ext g1 a5
      have ed:=bn.ext g1 a5
      replace aa:=aa.low (B':=f1.heap.size)<|A7 _
      refine Ac 1 Z<|Ab _ [0,0,3,3,4,0] Z<|Ad 2 Z<|Ap 83 [] [] [ch] Z Z MH Aa (BY _ _ _ aa.rd1 JS) ?_
      rintro ls fs ⟨bd,rfl,an,ab⟩
      refine⟨_,rfl,an,?_⟩
      have ip:=an.size
      have ee:=ea.trans an
      have ef:=eb.ext an
      have eg:=ec.ext g1 an
      have eh:=ed.ext g1 an
      refine BA (u:=bd) (B:=fs.heap.size) Bv Bx AT Z Z (Md fs.heap.size fs.heap.size _<|⟨(Bq ab.isSl).1,(Bq ab.isSl).2⟩) (A7 _) Aa fun l4 l5 ao ju ei=>?_
      have iq:=ao.size
      have ci:=ee.trans ao
      have ap:=ab.ext (o1) ao
      have cj:=ef.ext ao
      have jv:=eg.ext g1 ao
      have jw:=eh.ext g1 ao
      refine Dh (v:=vo) (a:=l4) (u:=bd) Bx AT Z Z Z cj oM ei (RN.of_fr1 ap fun b hb=>zH<|hFl b JU) sD JQ Aa ?_
      rintro l6 kt G43 ck ej ⟨jx,lu,jy⟩
      have ir:l5.heap.size≤kt.heap.size:=ck.size
      have ek:AH w kt:=ck.below ci (fun c hc=>A8 hwB (cj.low c (ej c hc))) ci.size
      refine Ac 1 Z<|Ab _ [0,0,0] Z<|Ad 1 Z<|AQ ((k+1:Nat):Int) Z Z (Bi oM sD) Aa<|Ac 1 Z ?_
      exact⟨(k+1,l6),_,rfl,zR,⟨ek,oM,oM,oM,JP,JT⟩,zD⟩
    refine Al false Z Z (A6 cc) Aa<|Ac 1 Z<|Ai Z<|gK [0,0] Z ?_
    by_cases cl:(T.code.getD k As.zero).op=((4:Nat):Int)
    ·
      refine Al true Z Z (A5 cl) Aa<|Ac 1 Z<|Ag Z<|AM _ [0,0,1,0,1,0,0,1,0,1,3,0] mixed (by kernel_rfl) ?_
      have hio:=(hform k hkl).i2 oM
      have hra:=hR (T.code.getD k As.zero).a.toNat oM
      have hrb:=hR (T.code.getD k As.zero).b.toNat oM
      have hra1:=hra.1
      have hrb1:=hrb.1
      refine Ad 1 Z<|Ak (p:=zP w2.heap.size) 1 BC Z Z Aa<|Af (p:=An (zP w2.heap.size) 1) (.inl Z) (zI<|(T.code.getD k As.zero).a) AC Z (a0.ldp (i:=1) sM) Aa<|Aw (v:=vo) (((T.code.getD k As.zero).a).toNat) Bx AT Z Z (a1.done fun b hb=>absurd hb z2).slL oM sD Aa ?_
      obtain⟨cm,el,bo⟩:=RN.getL (w:=f1) g1 [] (k:=((T.code.getD k As.zero).a).toNat) (a1.done (fun b hb=>absurd hb z2)) sD
      have cn:=bo.lenL
      unfold maxLen at cn
      refine Af (p:=Ay vo (((T.code.getD k As.zero).a).toNat) 1) (.inl Z) cm B6 Z (el _ (At.refl _ _).drew) Aa<|Ad 1 Z<|Ak (p:=zP w2.heap.size) 2 BD Z Z Aa<|Af (p:=An (zP w2.heap.size) 2) (.inl Z) (zI<|(T.code.getD k As.zero).b) AC Z (a0.ldp (i:=2) sM) Aa ?_
      refine Aw (v:=vo) (((T.code.getD k As.zero).b).toNat) Bx AT Z Z (a1.done fun b hb=>absurd hb z2).slL oM sD Aa ?_
      obtain⟨co,em,bp⟩:=RN.getL (w:=f1) g1 [] (k:=((T.code.getD k As.zero).b).toNat) (a1.done (fun b hb=>absurd hb z2)) sD
      have cp:=bp.lenL
      unfold maxLen at cp
      refine Af (p:=Ay vo (((T.code.getD k As.zero).b).toNat) 1) (.inl Z) co B6 Z (em _ (At.refl _ _).drew) Aa<|Ap 208 [] [] [cm,co] Z Z PH Aa (E1 _ _ _ _ _ (bo).rd (bp).rd oM oM oM) ?_
      rintro lv lw ⟨cq,rfl,a6,ac⟩
      refine⟨_,rfl,a6,?_⟩
      replace a6:=a6.of_drew
      have is:=a6.size
      have en:=a3.trans a6
      have eo:=a1.ext a6
      have ep:=bo.ext g1 a6
      have eq:=bp.ext g1 a6
      replace ac:=ac.low (B':=f1.heap.size)<|A7 _
      refine Ac 1 Z<|Ab _ [0,0,3,3,4,0] Z<|Ad 2 Z<|Ap 83 [] [] [cq] Z Z MH Aa (BY _ _ _ ac.rd1 JS) ?_
      rintro lx fx ⟨be,rfl,aq,ad⟩
      refine⟨_,rfl,aq,?_⟩
      have it:=aq.size
      have er:=en.trans aq
      have es:=eo.ext aq
      have et:=ep.ext g1 aq
      have eu:=eq.ext g1 aq
      refine BA (u:=be) (B:=fx.heap.size) Bv Bx AT Z Z (Md fx.heap.size fx.heap.size _<|⟨(Bq ad.isSl).1,(Bq ad.isSl).2⟩) (A7 _) Aa fun l7 l8 ar jz ev=>?_
      have iu:=ar.size
      have cr:=er.trans ar
      have au:=ad.ext (o1) ar
      have cs:=es.ext ar
      have k0:=et.ext g1 ar
      have k1:=eu.ext g1 ar
      refine Dh (v:=vo) (a:=l7) (u:=be) Bx AT Z Z Z cs oM ev (RN.of_fr1 au fun b hb=>zH<|hFl b JU) sD JQ Aa ?_
      rintro l9 ku G59 ct ew ⟨k2,ly,k3⟩
      have iv:l8.heap.size≤ku.heap.size:=ct.size
      have ex:AH w ku:=ct.below cr (fun c hc=>A8 hwB (cs.low c (ew c hc))) cr.size
      refine Ac 1 Z<|Ab _ [0,0,0] Z<|Ad 1 Z<|AQ ((k+1:Nat):Int) Z Z (Bi oM sD) Aa<|Ac 1 Z ?_
      exact⟨(k+1,l9),_,rfl,zR,⟨ex,oM,oM,oM,JP,JT⟩,zD⟩
    refine Al false Z Z (A6 cl) Aa<|Ac 1 Z<|Ai Z<|gK [0,0] Z ?_
    by_cases cu:(T.code.getD k As.zero).op=((5:Nat):Int)
    ·
      refine Al true Z Z (A5 cu) Aa<|Ac 1 Z<|Ag Z<|AM _ [0,0,1,0,1,0,0,1,0,1,3,0] mixed (by kernel_rfl) ?_
      have hio:=(hform k hkl).i2 oM
      have hra:=hR (T.code.getD k As.zero).a.toNat oM
      have hrb:=hR (T.code.getD k As.zero).b.toNat oM
      have hra1:=hra.1
      have hrb1:=hrb.1
      refine Ad 1 Z<|Ak (p:=zP w2.heap.size) 1 BC Z Z Aa<|Af (p:=An (zP w2.heap.size) 1) (.inl Z) (zI<|(T.code.getD k As.zero).a) AC Z (a0.ldp (i:=1) sM) Aa<|Aw (v:=vo) (((T.code.getD k As.zero).a).toNat) Bx AT Z Z (a1.done fun b hb=>absurd hb z2).slL oM sD Aa ?_
      obtain⟨cv,ey,bq⟩:=RN.getL (w:=f1) g1 [] (k:=((T.code.getD k As.zero).a).toNat) (a1.done (fun b hb=>absurd hb z2)) sD
      have cw:=bq.lenL
      unfold maxLen at cw
      refine Af (p:=Ay vo (((T.code.getD k As.zero).a).toNat) 1) (.inl Z) cv B6 Z (ey _ (At.refl _ _).drew) Aa<|Ad 1 Z<|Ak (p:=zP w2.heap.size) 2 BD Z Z Aa<|Af (p:=An (zP w2.heap.size) 2) (.inl Z) (zI<|(T.code.getD k As.zero).b) AC Z (a0.ldp (i:=2) sM) Aa ?_
      refine Aw (v:=vo) (((T.code.getD k As.zero).b).toNat) Bx AT Z Z (a1.done fun b hb=>absurd hb z2).slL oM sD Aa ?_
      obtain⟨cx,ez,br⟩:=RN.getL (w:=f1) g1 [] (k:=((T.code.getD k As.zero).b).toNat) (a1.done (fun b hb=>absurd hb z2)) sD
      have cy:=br.lenL
      unfold maxLen at cy
      refine Af (p:=Ay vo (((T.code.getD k As.zero).b).toNat) 1) (.inl Z) cx B6 Z (ez _ (At.refl _ _).drew) Aa<|Ap 209 [] [] [cv,cx] Z Z PI Aa (E2 _ _ _ _ _ (bq).rd (br).rd oM oM) ?_
      rintro lz m0 ⟨cz,rfl,a7,ae⟩
      refine⟨_,rfl,a7,?_⟩
      replace a7:=a7.of_drew
      have iw:=a7.size
      have g0:=a3.trans a7
      have g2:=a1.ext a7
      have g3:=bq.ext g1 a7
      have g4:=br.ext g1 a7
      replace ae:=ae.low (B':=f1.heap.size)<|A7 _
      refine Ac 1 Z<|Ab _ [0,0,3,3,4,0] Z<|Ad 2 Z<|Ap 83 [] [] [cz] Z Z MH Aa (BY _ _ _ ae.rd1 JS) ?_
      rintro m1 kk ⟨bf,rfl,av,af⟩
      refine⟨_,rfl,av,?_⟩
      have ix:=av.size
      have g5:=g0.trans av
      have g6:=g2.ext av
      have g7:=g3.ext g1 av
      have g8:=g4.ext g1 av
      refine BA (u:=bf) (B:=kk.heap.size) Bv Bx AT Z Z (Md kk.heap.size kk.heap.size _<|⟨(Bq af.isSl).1,(Bq af.isSl).2⟩) (A7 _) Aa fun la lb aw k4 g9=>?_
      have iy:=aw.size
      have d0:=g5.trans aw
      have ax:=af.ext (o1) aw
      have d1:=g6.ext aw
      have k5:=g7.ext g1 aw
      have k6:=g8.ext g1 aw
      refine Dh (v:=vo) (a:=la) (u:=bf) Bx AT Z Z Z d1 oM g9 (RN.of_fr1 ax fun b hb=>zH<|hFl b JU) sD JQ Aa ?_
      rintro lc kv G75 d2 ga ⟨k7,m2,k8⟩
      have iz:lb.heap.size≤kv.heap.size:=d2.size
      have gb:AH w kv:=d2.below d0 (fun c hc=>A8 hwB (d1.low c (ga c hc))) d0.size
      refine Ac 1 Z<|Ab _ [0,0,0] Z<|Ad 1 Z<|AQ ((k+1:Nat):Int) Z Z (Bi oM sD) Aa<|Ac 1 Z ?_
      exact⟨(k+1,lc),_,rfl,zR,⟨gb,oM,oM,oM,JP,JT⟩,zD⟩
    refine Al false Z Z (A6 cu) Aa<|Ac 1 Z<|Ai Z<|gK [0,0] Z ?_
    by_cases d3:(T.code.getD k As.zero).op=((7:Nat):Int)
    ·
      refine Al true Z Z (A5 d3) Aa<|Ac 1 Z<|Ag Z<|Ab _ [0,0,2,0,2,3,0] Z ?_
      have hio:=(hform k hkl).i7 oM
      have hra:=hR (T.code.getD k As.zero).a.toNat oM
      have hra1:=hra.1
      refine Ad 1 Z<|Ak (p:=zP w2.heap.size) 1 BC Z Z Aa<|Af (p:=An (zP w2.heap.size) 1) (.inr Z) (zI<|(T.code.getD k As.zero).a) AC Z (a0.ldp (i:=1) sM) Aa<|Aw (v:=vo) (((T.code.getD k As.zero).a).toNat) Bx AT Z Z (a1.done fun b hb=>absurd hb z2).slL oM sD Aa ?_
      obtain⟨d4,gc,bs⟩:=RN.getL (w:=f1) g1 [] (k:=((T.code.getD k As.zero).a).toNat) (a1.done (fun b hb=>absurd hb z2)) sD
      have d5:=bs.lenL
      unfold maxLen at d5
      refine Af (p:=Ay vo (((T.code.getD k As.zero).a).toNat) 1) (.inr Z) d4 B6 Z (gc _<|At.refl _ _) Aa<|Ap 204 [] [] [d4,zI ((1000002:Nat):Int)] Z Z UM Aa (FL _ _ _ _ (bs).rd oM oM) ?_
      rintro m3 m4 ⟨d6,rfl,b0,bt⟩
      refine⟨_,rfl,b0,?_⟩
      have j0:=b0.size
      have gd:=a3.trans b0
      have ge:=a1.ext b0
      have gf:=bs.ext g1 b0
      refine Ac 1 Z<|Ab _ [0,0,3,3,4,0] Z<|Ad 2 Z<|Ap 83 [] [] [d6] Z Z MH Aa (BY _ _ _ bt.rd1 JS) ?_
      rintro m5 kl ⟨bg,rfl,b1,ag⟩
      refine⟨_,rfl,b1,?_⟩
      have j1:=b1.size
      have gg:=gd.trans b1
      have gh:=ge.ext b1
      have gi:=gf.ext g1 b1
      refine BA (u:=bg) (B:=kl.heap.size) Bv Bx AT Z Z (Md kl.heap.size kl.heap.size _<|⟨(Bq ag.isSl).1,(Bq ag.isSl).2⟩) (A7 _) Aa fun lf lg b2 k9 gj=>?_
      have j2:=b2.size
      have d7:=gg.trans b2
      have ay:=ag.ext (o1) b2
      have d8:=gh.ext b2
      have ka:=gi.ext g1 b2
      refine Dh (v:=vo) (a:=lf) (u:=bg) Bx AT Z Z Z d8 oM gj (RN.of_fr1 ay fun b hb=>zH<|hFl b JU) sD JQ Aa ?_
      rintro lh kw G87 d9 gk ⟨kb,m6,kc⟩
      have j3:lg.heap.size≤kw.heap.size:=d9.size
      have gl:AH w kw:=d9.below d7 (fun c hc=>A8 hwB (d8.low c (gk c hc))) d7.size
      refine Ac 1 Z<|Ab _ [0,0,0] Z<|Ad 1 Z<|AQ ((k+1:Nat):Int) Z Z (Bi oM sD) Aa<|Ac 1 Z ?_
      exact⟨(k+1,lh),_,rfl,zR,⟨gl,oM,oM,oM,JP,JT⟩,zD⟩
    refine Al false Z Z (A6 d3) Aa<|Ac 1 Z<|Ai Z<|A0<|gK [0,0,2,0,2,0,2,0] Z ?_
    have kj:=(hform k hkl).i0
    have hio:=(hform k hkl).i2 oM
    have hra:=hR (T.code.getD k As.zero).a.toNat oM
    have hrb:=hR (T.code.getD k As.zero).b.toNat oM
    have hra1:=hra.1
    have hrb1:=hrb.1
    refine Ad 1 Z<|Ak (p:=zP w2.heap.size) 2 BD Z Z Aa<|Af (p:=An (zP w2.heap.size) 2) (.inr Z) (zI<|(T.code.getD k As.zero).b) AC Z (a0.ldp (i:=2) sM) Aa<|Aw (v:=vo) (((T.code.getD k As.zero).b).toNat) Bx AT Z Z (a1.done fun b hb=>absurd hb z2).slL oM sD Aa ?_
    obtain⟨bu,gm,b9⟩:=RN.getL (w:=f1) g1 [] (k:=((T.code.getD k As.zero).b).toNat) (a1.done (fun b hb=>absurd hb z2)) sD
    have da:=b9.lenL
    unfold maxLen at da
    refine Af (p:=Ay vo (((T.code.getD k As.zero).b).toNat) 1) (.inr Z) bu B6 Z (gm _<|At.refl _ _) Aa<|Aw (v:=bu) 0 Bt BG Z Z b9.slL Z sD Aa ?_
    have gn:=RN.getI (w:=f1) (k:=0) b9 sD
    refine Af (p:=Ay bu 0 1) (.inr Z) (zI<|((Be K A<|T.code.take k).getD (((T.code.getD k As.zero).b).toNat) []).getD 0 0) AC Z (gn.1 _<|At.refl _ _) Aa ?_
    have go:¬(((Be K A (T.code.take k)).getD (((T.code.getD k As.zero).b).toNat) []).getD 0 0=((0:Nat):Int)):=(hnz k oM oM)
    refine Al false Z Z (A6 go) Aa<|Aj<|Ai Z<|A2<|AM _ [0,0,1,0,1,0,0,1,0,1,3,0] mixed (by kernel_rfl)<|Ad 1 Z<|Ak (p:=zP w2.heap.size) 1 BC Z Z Aa<|Af (p:=An (zP w2.heap.size) 1) (.inl Z) (zI<|(T.code.getD k As.zero).a) AC Z (a0.ldp (i:=1) sM) Aa ?_
    refine Aw (v:=vo) (((T.code.getD k As.zero).a).toNat) Bx AT Z Z (a1.done fun b hb=>absurd hb z2).slL oM sD Aa ?_
    obtain⟨db,gp,bv⟩:=RN.getL (w:=f1) g1 [] (k:=((T.code.getD k As.zero).a).toNat) (a1.done (fun b hb=>absurd hb z2)) sD
    have dc:=bv.lenL
    unfold maxLen at dc
    refine Af (p:=Ay vo (((T.code.getD k As.zero).a).toNat) 1) (.inl Z) db B6 Z (gp _ (At.refl _ _).drew) Aa<|Ad 1 Z<|Ak (p:=zP w2.heap.size) 2 BD Z Z Aa<|Af (p:=An (zP w2.heap.size) 2) (.inl Z) (zI<|(T.code.getD k As.zero).b) AC Z (a0.ldp (i:=2) sM) Aa ?_
    refine Aw (v:=vo) (((T.code.getD k As.zero).b).toNat) Bx AT Z Z (a1.done fun b hb=>absurd hb z2).slL oM sD Aa ?_
    obtain⟨dd,gq,bw⟩:=RN.getL (w:=f1) g1 [] (k:=((T.code.getD k As.zero).b).toNat) (a1.done (fun b hb=>absurd hb z2)) sD
    have de:=bw.lenL
    unfold maxLen at de
    refine Af (p:=Ay vo (((T.code.getD k As.zero).b).toNat) 1) (.inl Z) dd B6 Z (gq _ (At.refl _ _).drew) Aa<|Ap 210 [] [] [db,dd] Z Z UN Aa (H7 _ _ _ _ _ (bv).rd (bw).rd oM oM oM hra.2) ?_
    rintro m7 m8 ⟨df,rfl,a4,ah⟩
    refine⟨_,rfl,a4,?_⟩
    replace a4:=a4.of_drew
    have j4:=a4.size
    have gr:=a3.trans a4
    have gs:=a1.ext a4
    have gt:=b9.ext g1 a4
    have gu:=bv.ext g1 a4
    have gv:=bw.ext g1 a4
    replace ah:=ah.low (B':=f1.heap.size)<|A7 _
    refine Ac 1 Z<|Ab _ [0,0,3,3,4,0] Z<|Ad 2 Z<|Ap 83 [] [] [df] Z Z MH Aa (BY _ _ _ ah.rd1 JS) ?_
    rintro m9 km ⟨bh,rfl,ai,aj⟩
    refine⟨_,rfl,ai,?_⟩
    have j5:=ai.size
    have gw:=gr.trans ai
    have gx:=gs.ext ai
    have dg:=gt.ext g1 ai
    have dh:=gu.ext g1 ai
    have di:=gv.ext g1 ai
    refine BA (u:=bh) (B:=km.heap.size) Bv Bx AT Z Z (Md km.heap.size km.heap.size _<|⟨(Bq aj.isSl).1,(Bq aj.isSl).2⟩) (A7 _) Aa fun ko kp a2 j6 dj=>?_
    have gy:=a2.size
    have bi:=gw.trans a2
    have ak:=aj.ext (o1) a2
    have bj:=gx.ext a2
    have j7:=dg.ext g1 a2
    have j8:=dh.ext g1 a2
    have j9:=di.ext g1 a2
    refine Dh (v:=vo) (a:=ko) (u:=bh) Bx AT Z Z Z bj oM dj (RN.of_fr1 ak fun b hb=>zH<|hFl b JU) sD JQ Aa ?_
    rintro kq f4 G108 bk dk ⟨ja,li,jb⟩
    have gz:kp.heap.size≤f4.heap.size:=bk.size
    have dl:AH w f4:=bk.below bi (fun c hc=>A8 hwB (bj.low c (dk c hc))) bi.size
    refine Ac 1 Z<|Ab _ [0,0,0] Z<|Ad 1 Z<|AQ ((k+1:Nat):Int) Z Z (Bi oM sD) Aa<|Ac 1 Z ?_
    exact⟨(k+1,kq),_,rfl,zR,⟨dl,oM,oM,oM,JP,JT⟩,zD⟩
  exact AI false Z Z (A6 ic) Aa<|Aj<|Ai Z<|A4<|AA<|AA<|Av<|gK [0,0,0] Z<|Ac 3 Z<|A1<|Ah [6,7] Z (.tuple #[vo,.bool true]) Z ⟨_,rfl,ba,(by have h9:=az.done (fun b hb=>absurd hb z2);rwa [za oM]at h9),az.cap⟩
theorem Lf {p:Prop}(h:p:=by first|(rw[show(kk-1+1).toNat=kk.toNat from by omega];exact Dm hadj oM (MF oM))|(rw[show(kk-1+1).toNat=kk.toNat from by omega];exact Dm hadj oM (Ux oM (Nat.le_of_eq (hrb1.trans hro1.symm))))|(rw[show(kk-1+1).toNat=kk.toNat from by omega];exact Dm hadj oM (MG oM))|(rw[show(kk-1+1).toNat=kk.toNat from by omega];exact Dm hadj oM (Uy oM Z Z Z (Nat.le_of_eq (hrb1.trans hpz.symm))))|(rw[show(kk-1+1).toNat=kk.toNat from by omega];exact Dm hadj oM (Uz oM (Nat.le_of_eq (hra1.trans hro1.symm))))|(rw[show(kk-1+1).toNat=kk.toNat from by omega];exact Dm hadj oM (NX oM))):p:=h
theorem Lg {p:Prop}(h:p:=by first|(have h9:=E6 (R:=R) hxs oM (hform _ hkn);rw[MF oM]at h9;exact h9)|(have h9:=E6 (R:=R) hxs oM (hform _ hkn);rw[Ux oM (Nat.le_of_eq (hrb1.trans hro1.symm))]at h9;exact h9)|(have h9:=E6 (R:=R) hxs oM (hform _ hkn);rw[MG oM]at h9;exact h9)|(have h9:=E6 (R:=R) hxs oM (hform _ hkn);rw[Uy oM Z Z Z (Nat.le_of_eq (hrb1.trans hpz.symm))]at h9;exact h9)|(have h9:=E6 (R:=R) hxs oM (hform _ hkn);rw[Uz oM (Nat.le_of_eq (hra1.trans hro1.symm))]at h9;exact h9)|exact hxs):p:=h
theorem Cb {p:Prop}(h:p:=by first|omega|(simp only[Gf,Er,Dl,Fx,Gg];omega)):p:=h
theorem Lh {p:Prop}(h:p:=by first|exact hxl|(simp only[z6];exact hxl)):p:=h
theorem H9 {p:Prop}(h:p:=by kernel_rfl):p:=h
theorem LF (w:World)(ni:Nat)(S:List Nat)(vt:Value)(ipT:Int)(T:Tp)(oT:Sr)(vr:Value)(R:List (Sr))(vw:Value)(ws:Sr)(K:Nat)(c0:∀b∈S,b<w.heap.size)(hT:RN [] (rP Vo) w.heap vt ⟨ipT,T,oT⟩)(hR:RN [] (B4 (B4 rI)) w.heap vr R)(hqR:C3 vr)(hws:Rd (B4 rI) w.heap vw ws)(_hK:K≤1000000000000)(hK:1≤K∧K≤13)(hsR:BZ K R)(hlR:R.length=T.code.length)(hlt:T.code.length≤4000)(hlo:oT.length≤ws.length∧ws.length≤1000000)(ho:∀k,k<oT.length→0≤oT.getD k 0∧oT.getD k 0<(T.code.length:Int))(hnw:AX ws=true)(hform:∀k,k<T.code.length→DN ni k (T.code.getD k As.zero)) :
    Calls Tryz.prog 185 #[vt,vr,vw,zI (K:Int)] w (fun e w'=>∃v0:Value,e=.returned v0∧AH w w'∧RN S (B4 (B4 rI)) w'.heap v0 (HF T.code R oT ws)∧C3 v0):=by
  refine Aq [vt,vr,vw,zI (K:Int)] 223 Tryz.func185 Z Z sM ?_
  have kr:AH w w:=AH.refl w
  have fr:=hR.lenL
  unfold maxLen at fr
  have np:=hws.lenle
  refine gL Z<|gK [3,0] Z (Cn (Bp rI 2) o1 Bx AT Aa fun v1 w1 j1 me ks=>?_)
  have j2:=j1.size
  have kt:=kr.trans j1
  refine Ac 1 Z<|A0<|gL Z<|A3<|AU (S:=Nat×Value) (fun⟨k,vo⟩=>([(9,vo),(10,zI (k:Int)),(0,vt),(1,vr),(2,vw),(3,zI (K:Int))])) (fun⟨k,vo⟩ W=>AH w W∧Fr (Bp (Bp rI 2) 27) w.heap.size W.heap.size W.heap vo (List.replicate k<|cst K 0)∧k≤T.code.length) (fun⟨k,vo⟩=>T.code.length-k) (0,v1) ⟨rfl,rfl,rfl,rfl,rfl,rfl,trivial⟩ ⟨kt,ks.up o2,oM⟩ ?_
  clear kr ks me j1 j2 kt
  rintro⟨k,vo⟩ ρ2 w2 ⟨dz,c2,ku⟩
  have j3:w.heap.size≤w2.heap.size:=dz.size
  refine A0<|gK [0,0,0,0,2,0,0] Z<|Ad 2 Z<|AF (hT.isPtr) Z Aa ?_
  obtain⟨cs3,mf,c1⟩:=RN.at DK hT
  obtain⟨f2,vg3,vx3,rfl,kv,es,kw,e0⟩:=RTp.of mf
  replace kv:Bn ipT:=kv
  replace es:RN [] (D5 4 KU) w.heap f2 T.code:=es
  replace kw:RN [] (D5 2 KV) w.heap vg3 T.grd:=kw
  replace e0:RN [] (B4 rI) w.heap vx3 oT:=e0
  refine AE (p:=vt) 1 Cp Z (c1 _<|At.of_ext [] dz) Aa<|Af (p:=An vt 1) (.inr Z) f2 DQ Z ((c1 _<|At.of_ext [] dz).ld (i:=1) (by simp[DR,DV])) Aa<|AR (v:=f2) JY Z es.isSl Aa ?_
  by_cases kx:(k:Int)<(T.code.length:Int)
  ·
    refine AI true Z Z (A5 kx) Aa<|Aj<|Ag Z<|A2<|A0<|A3<|Ab _ [0,0,3,3,4,0] Z<|Ad 2 Z<|Ap 203 [] [] [zI ((0:Nat):Int),zI (K:Int)] Z Z MK Aa (Cx _ _ (K) oM sD oM) ?_
    rintro e5 w5 ⟨j4,rfl,iy,et⟩
    refine⟨_,rfl,iy,?_⟩
    have mg:=iy.size
    have mh:=dz.trans iy
    have co:=c2.ext (o2) iy
    refine BA (u:=j4) (B:=w2.heap.size) o1 Bx AT Z Z et (by first|exact A7 _|omega) Aa fun v6 w6 j5 nd mi=>?_
    have mj:=j5.size
    have j6:=mh.trans j5
    have cp:=co.ext (o2) j5
    refine Gb o1 (v:=vo) (a:=v6) Bx AT Z Z Z cp j6.size mi oM dz.size sD (by unfold maxLen;first|omega|assumption|(simp only[zb,z9,z4,z6,z5];omega)|(simp[zb,z9,z4,z6,z5];done)|(simp[zb,z9,z4,z6,z5];omega)) Aa fun v7 w7 F7 ky mk ml=>?_
    have mm:AH w w7:=ky.below j6 (fun c hc=>A8 (A7 _) (mk c hc).1) j6.size
    have mn:w6.heap.size≤w7.heap.size:=ky.size
    exact Ac 1 Z<|Ab _ [0,0,0] Z<|Ad 1 Z<|AQ ((k+1:Nat):Int) Z Z (Bi oM sD) Aa<|Ac 1 Z ⟨(k+1,v7),_,rfl,zR,⟨mm,(by have h:=ml.up o2;rw[show cst K ((0:Nat):Int)=cst K 0 from rfl,← List.replicate_succ']at h;exact h),oM⟩,zD⟩
  refine AI false Z Z (A6 kx) Aa<|Aj<|Ai Z<|A4<|AA<|AA<|Av<|A0<|gK [0] Z ?_
  have hOw:=c2
  rw[show k=T.code.length from by omega,bJ hsR hlR]at hOw
  obtain⟨mo,F0,j7,mp⟩:=Hy.ofFr (S:=S) hOw (fun b hb=>zH<|c0 b hb)
  obtain⟨BO,hBO⟩:∃b:Nat,b=w.heap.size:=⟨_,rfl⟩
  rw[← hBO]at j7
  have hwB:w.heap.size≤BO:=by omega
  have hSB:∀b∈S,b<BO:=fun b hb=>zH<|c0 b hb
  obtain⟨B0,iz⟩:∃l:List Sr,l=IX R:=⟨_,rfl⟩
  rw[← iz]at j7
  have j8:BZ K B0:=by rw[iz];exact GM hsR
  have kz:B0.length=T.code.length:=by rw[iz,D0];exact hlR
  refine Ac 1 Z<|A3<|AU (S:=Nat×List Value) (fun⟨i,us⟩=>([(11,zI (i:Int)),(0,vt),(1,vr),(2,vw),(3,zI (K:Int)),(9,vo)])) (fun⟨i,us⟩ W=>AH w W∧i≤oT.length∧Hy 27 S BO W.heap vo (Ku oT ws i B0) us F0) (fun⟨i,us⟩=>oT.length-i) (0,mo) ⟨rfl,rfl,rfl,rfl,rfl,rfl,trivial⟩ ⟨dz,oM,j7⟩ ?_
  clear c2 dz j3 mp
  rintro⟨i,us⟩ ρ8 w8 ⟨b6,l0,hbw⟩
  have j9:w.heap.size≤w8.heap.size:=b6.size
  have hFl:∀b∈F0,b<w8.heap.size:=hbw.lt
  refine A0<|gK [0,0,0,0,2,0,0] Z<|Ad 2 Z<|AF (hT.isPtr) Z Aa<|AE (p:=vt) 3 EV Z (c1 _<|At.of_ext [] b6) Aa<|Af (p:=An vt 3) (.inr Z) vx3 B6 Z ((c1 _<|At.of_ext [] b6).ld (i:=3) (by simp[DR,DV])) Aa<|AR (v:=vx3) Bt Z e0.slL Aa ?_
  by_cases l1:(i:Int)<(oT.length:Int)
  ·
    refine AI true Z Z (A5 l1) Aa<|Aj<|Ag Z<|A2<|A0<|A3<|AM _ [0,0,0,0,1,0,0,1,0,0,0,0,1,0,0,1,0,1,0,0,0,1,0,3,3,0,4] mixed H9 ?_
    have hoi:=ho i oM
    have hrw:=G3 (ws:=ws) j8 (fun q hq=>zH<|ho q hq) i oM (oT.getD i 0).toNat (by rw[Di];omega)
    have mq:=hrw.1
    have hwl:(Ku oT ws i B0).length=T.code.length:=by rw[Di];exact kz
    refine Ad 2 Z<|AF (hT.isPtr) Z Aa<|AE (p:=vt) 3 EV Z (c1 _<|At.of_ext [] b6.drew) Aa<|Af (p:=An vt 3) (.inl Z) vx3 B6 Z ((c1 _<|At.of_ext [] b6.drew).ld (i:=3) (by simp[DR,DV])) Aa<|Ad 1 Z<|Aw (v:=vx3) i Bt BG Z Z e0.slL Z sD Aa ?_
    have ja:=RN.getI (w:=w) (k:=i) e0 sD
    refine Af (p:=Ay vx3 i 1) (.inl Z) (zI<|oT.getD i 0) AC Z (ja.1 _<|At.of_ext [] b6.drew) Aa<|Ad 2 Z<|AF (hT.isPtr) Z Aa<|AE (p:=vt) 3 EV Z (c1 _<|At.of_ext [] b6.drew) Aa<|Af (p:=An vt 3) (.inl Z) vx3 B6 Z ((c1 _<|At.of_ext [] b6.drew).ld (i:=3) (by simp[DR,DV])) Aa<|Ad 1 Z<|Aw (v:=vx3) i Bt BG Z Z e0.slL Z sD Aa ?_
    have jb:=RN.getI (w:=w) (k:=i) e0 sD
    refine Af (p:=Ay vx3 i 1) (.inl Z) (zI<|oT.getD i 0) AC Z (jb.1 _<|At.of_ext [] b6.drew) Aa<|Aw (v:=vo) ((oT.getD i 0).toNat) Bx AT Z Z (hbw.done hSB).none.slL oM sD Aa ?_
    obtain⟨eu,jc,ev⟩:=hbw.getF (k:=(oT.getD i 0).toNat) sD
    have ew:=ev.lenL
    unfold maxLen at ew
    refine Af (p:=Ay vo ((oT.getD i 0).toNat) 1) (.inl Z) eu B6 Z jc Aa<|Ad 2 Z<|Aw (v:=vw) i Bt BG Z Z hws.isSl Z sD Aa ?_
    refine Af (p:=Ay vw i 1) (.inl Z) (zI<|ws.getD i 0) AC Z (Bd b6.drew (hws.getI sD).1) Aa<|Ad 1 Z ?_
    refine Ap 203 [] [] [zI<|ws.getD i 0,zI (K:Int)] Z Z MK Aa (Cx _ _ (K) (hws.getI sD).2 sD oM) ?_
    rintro oh oi ⟨ex,rfl,b7,aq⟩
    refine⟨_,rfl,b7,?_⟩
    replace b7:=b7.of_drew
    have l2:=b7.size
    have jd:=b6.trans b7
    have je:=hbw.ext b7
    have ey:=ev.ext g1 b7
    replace aq:=aq.low (B':=w8.heap.size)<|A7 _
    refine Ap 207 [] [] [eu,ex] Z Z J8 Aa (C6 _ _ _ _ _ ey.rd aq.rd1 oM (by rw[E4];omega)) ?_
    rintro oj nq ⟨d0,rfl,bi,c3⟩
    refine⟨_,rfl,bi,?_⟩
    have l3:=bi.size
    have ez:=jd.trans bi
    have bj:=aq.ext (o1) bi
    have e1:=je.ext bi
    have jf:=ey.ext g1 bi
    refine Aw (v:=vo) ((oT.getD i 0).toNat) Bx AT Z Z (e1.done hSB).none.slL oM sD Aa ?_
    refine FJ (v:=vo) (u:=d0) (w:=nq) I6 Z Z e1 (RN.of_fr1 c3 fun b hb=>by rcases zi.1 hb with hb|hb;(have:=c0 b hb;omega);(have:=hFl b hb;omega)) sD Aa fun nr c4 mr jg=>?_
    have l4:nq.heap.size≤nr.heap.size:=c4.size
    have jh:AH w nr:=c4.below ez (fun c hc=>A8 hwB (e1.low c hc)) ez.size
    have ms:=jf.chg g1<|c4.sub fun b hb=>z1 _ hb
    have mt:=bj.chg (o1) c4 fun c hc=>zH<|hFl c hc
    have mu:=c3.chg (o1) c4 fun c hc=>zH<|hFl c hc
    refine Aj<|Ab _ [0,0,0] Z<|Ad 1 Z<|AQ ((i+1:Nat):Int) Z Z (Bi oM sD) Aa<|Ac 1 Z ?_
    have hbe:=jg
    exact⟨(i+1,us.set ((oT.getD i 0).toNat) d0),_,rfl,zR,⟨jh,oM,(by rw[bI (G3 j8 (fun q hq=>zH<|ho q hq) i oM) oM];exact hbe)⟩,zD⟩
  refine AI false Z Z (A6 l1) Aa<|Aj<|Ai Z<|A4<|AA<|AA<|Av<|A0<|gK [0,0,0,2,0,0,0] Z ?_
  obtain⟨B1,j0⟩:∃l:List Sr,l=Ku oT ws oT.length B0:=⟨_,rfl⟩
  have l5:=hbw
  rw[show i=oT.length from by omega,← j0]at l5
  have mv:BZ K B1:=by rw[j0];exact G3 j8 (fun q hq=>zH<|ho q hq) _ (A7 _)
  have mw:B1.length=T.code.length:=by rw[j0,Di];exact kz
  refine Ad 1 Z<|AF (hT.isPtr) Z Aa<|AE (p:=vt) 1 Cp Z (c1 _<|At.of_ext [] b6) Aa<|Af (p:=An vt 1) (.inr Z) f2 DQ Z ((c1 _<|At.of_ext [] b6).ld (i:=1) (by simp[DR,DV])) Aa<|AR (v:=f2) JY Z es.isSl Aa<|Bk ((T.code.length:Int)-1) Z Z (CM oM oM) Aa<|Ac 1 Z<|A3 ?_
  refine AU (S:=Int×List Sr×List Value) (fun⟨kk,xs,us⟩=>([(12,zI kk),(0,vt),(1,vr),(9,vo)])) (fun⟨kk,xs,us⟩ W=>AH w W∧(-1≤kk∧kk<(T.code.length:Int))∧Hy 27 S BO W.heap vo xs us F0∧BZ K xs∧xs.length=T.code.length∧Rq T.code R (kk+1).toNat xs=Rq T.code R T.code.length B1) (fun⟨kk,xs,us⟩=>(kk+1).toNat) ((T.code.length:Int)-1,B1,us) ⟨rfl,rfl,rfl,rfl,trivial⟩ ⟨b6,oM,l5,mv,mw,(by rw[show((T.code.length:Int)-1+1).toNat=T.code.length from by omega])⟩ ?_
  clear b6 j9
  rintro⟨kk,xs,us⟩ ρ29 f1 ⟨bk,ji,hbl,hxs,hxl,hadj⟩
  have l6:w.heap.size≤f1.heap.size:=bk.size
  have jj:∀b∈F0,b<f1.heap.size:=hbl.lt
  have hFl:=jj
  refine A0<|gK [0,0] Z<|Ad 1 Z ?_
  by_cases g0:((0:Nat):Int)≤kk
  ·
    refine De true Z Z (A5 g0) Aa<|Aj<|Ag Z<|A2<|A0<|A3<|gK [0,0,0,2,0,0,2,3,4] Z<|Ad 1 Z<|AF (hT.isPtr) Z Aa<|AE (p:=vt) 1 Cp Z (c1 _<|At.of_ext [] bk) Aa<|Af (p:=An vt 1) (.inr Z) f2 DQ Z ((c1 _<|At.of_ext [] bk).ld (i:=1) (by simp[DR,DV])) Aa<|Ad 1 Z ?_
    refine Aw (v:=f2) ((kk).toNat) JY FD Z Z es.isSl oM sD Aa ?_
    obtain⟨cs31,jk,jl⟩:=es.get AY As.zero (k:=(kk).toNat) sD
    obtain⟨rfl,mx⟩:=Io jk
    refine AK (p:=Ay f2 ((kk).toNat) 4) (.inr Z) [zI<|(T.code.getD ((kk).toNat) As.zero).op,zI<|(T.code.getD ((kk).toNat) As.zero).a,zI<|(T.code.getD ((kk).toNat) As.zero).b,zI<|(T.code.getD ((kk).toNat) As.zero).num] DZ Z (fun o0 my=>jl o0<|At.of_ext []<|bk.trans my) Z Aa (Bs (z:=.agg #[zI 0,zI 0,zI 0,zI 0]) Qo Aa fun ns c5 mz e2=>?_)
    have l7:=c5.size
    have g2:=bk.trans c5
    have n0:=hbl.ext c5
    replace e2:BX ns.heap f1.heap.size [zI 0,zI 0,zI 0,zI 0]:=e2
    refine BE (vs:=[zI<|(T.code.getD ((kk).toNat) As.zero).op,zI<|(T.code.getD ((kk).toNat) As.zero).a,zI<|(T.code.getD ((kk).toNat) As.zero).b,zI<|(T.code.getD ((kk).toNat) As.zero).num]) DZ Z Z (by intro u hu;simp only[ze,z2,or_false]at hu;rcases hu with rfl|rfl|rfl|rfl <;> first|exact⟨rfl,rfl⟩) e2 Z Z Aa fun f3 e3 n1 a2=>?_
    replace a2:BX f3.heap f1.heap.size [zI ((T.code.getD ((kk).toNat) As.zero).op),zI ((T.code.getD ((kk).toNat) As.zero).a),zI ((T.code.getD ((kk).toNat) As.zero).b),zI ((T.code.getD ((kk).toNat) As.zero).num)]:=a2
    have an:AH w f3:=e3.below g2 (fun _ h=>zE h) g2.size
    have l8:ns.heap.size≤f3.heap.size:=e3.size
    have a5:=hbl.ext<|e3.below c5 (fun _ h=>zE h) c5.size
    refine Aj<|gK [0,0,0,2,0] Z ?_
    have hkn:kk.toNat<T.code.length:=by omega
    have hro:=hxs kk.toNat oM
    have hro1:=hro.1
    have hRk:=hsR kk.toNat oM
    have n2:=hRk.1
    refine Ad 2 Z<|Aw (v:=vo) ((kk).toNat) Bx AT Z Z (a5.done hSB).none.slL oM sD Aa ?_
    obtain⟨ar,jm,ah⟩:=a5.getF (k:=(kk).toNat) sD
    have g3:=ah.lenL
    unfold maxLen at g3
    refine Af (p:=Ay vo ((kk).toNat) 1) (.inr Z) ar B6 Z jm Aa<|Ac 1 Z<|gK [0,2] Z<|Ak (p:=zP f1.heap.size) 0 HN Z Z Aa<|Af (p:=An (zP f1.heap.size) 0) (.inr Z) (zI<|(T.code.getD ((kk).toNat) As.zero).op) AC Z (a2.ldp (i:=0) sM) Aa<|Aj<|A3<|gK [0,0] Z ?_
    by_cases g4:(T.code.getD ((kk).toNat) As.zero).op=((3:Nat):Int)
    ·
      refine Al true Z Z (A5 g4) Aa<|Ac 1 Z<|Ag Z<|A0<|AM _ [0,0,1,0,0,1,0,1,0,3,0,4] mixed H9 ?_
      have hio:=(hform kk.toNat hkn).i2 oM
      have hra:=hxs (T.code.getD kk.toNat As.zero).a.toNat oM
      have hra1:=hra.1
      have hRa:=hsR (T.code.getD kk.toNat As.zero).a.toNat oM
      have hRb:=hsR (T.code.getD kk.toNat As.zero).b.toNat oM
      have e4:=hRa.1
      have e6:=hRb.1
      refine Ad 1 Z<|Ak (p:=zP f1.heap.size) 1 BC Z Z Aa<|Af (p:=An (zP f1.heap.size) 1) (.inl Z) (zI<|(T.code.getD ((kk).toNat) As.zero).a) AC Z (a2.ldp (i:=1) sM) Aa<|Ad 1 Z<|Ak (p:=zP f1.heap.size) 1 BC Z Z Aa<|Af (p:=An (zP f1.heap.size) 1) (.inl Z) (zI<|(T.code.getD ((kk).toNat) As.zero).a) AC Z (a2.ldp (i:=1) sM) Aa ?_
      refine Aw (v:=vo) (((T.code.getD ((kk).toNat) As.zero).a).toNat) Bx AT Z Z (a5.done hSB).none.slL oM sD Aa ?_
      obtain⟨g5,jn,e7⟩:=a5.getF (k:=((T.code.getD ((kk).toNat) As.zero).a).toNat) sD
      have g6:=e7.lenL
      unfold maxLen at g6
      refine Af (p:=Ay vo (((T.code.getD ((kk).toNat) As.zero).a).toNat) 1) (.inl Z) g5 B6 Z jn Aa<|Ad 1 Z<|Ap 207 [] [] [g5,ar] Z Z J8 Aa (C6 _ _ _ _ _ e7.rd ah.rd Cb Cb) ?_
      rintro ok nt ⟨d1,rfl,au,av⟩
      refine⟨_,rfl,au,?_⟩
      replace au:=au.of_drew
      have l9:=au.size
      have g7:=an.trans au
      have cq:=a2.ext au
      have cr:=a5.ext au
      have jo:=ah.ext g1 au
      have jp:=e7.ext g1 au
      replace av:=av.low (B':=f3.heap.size)<|A7 _
      refine Aw (v:=vo) (((T.code.getD ((kk).toNat) As.zero).a).toNat) Bx AT Z Z (cr.done hSB).none.slL oM sD Aa ?_
      refine FJ (v:=vo) (u:=d1) (w:=nt) I6 Z Z cr (RN.of_fr1 av fun b hb=>by rcases zi.1 hb with hb|hb;(have:=c0 b hb;omega);(have:=hFl b hb;omega)) sD Aa fun nm bl n3 e8=>?_
      have la:nt.heap.size≤nm.heap.size:=bl.size
      have jq:AH w nm:=bl.below g7 (fun c hc=>A8 hwB (cr.low c hc)) g7.size
      have e9:=cq.chg bl fun hm=>by have:=cr.low _ hm;have:=hFl _ hm;omega
      have g8:=jo.chg g1<|bl.sub fun b hb=>z1 _ hb
      have jr:=jp.chg g1<|bl.sub fun b hb=>z1 _ hb
      have js:=av.chg (o1) bl fun c hc=>zH<|hFl c hc
      refine Aj<|AM _ [0,0,1,0,0,1,0,1,0,3,0,4] mixed H9 ?_
      have ea:BZ K (xs.set (T.code.getD kk.toNat As.zero).a.toNat (Cq (xs.getD (T.code.getD kk.toNat As.zero).a.toNat []) (xs.getD kk.toNat []))):=CC hxs oM
      have jt:(xs.set (T.code.getD kk.toNat As.zero).a.toNat (Cq (xs.getD (T.code.getD kk.toNat As.zero).a.toNat []) (xs.getD kk.toNat []))).length=T.code.length:=by rw[z6];exact hxl
      have hrb:=ea (T.code.getD kk.toNat As.zero).b.toNat oM
      have hrb1:=hrb.1
      refine Ad 1 Z<|Ak (p:=zP f1.heap.size) 2 BD Z Z Aa<|Af (p:=An (zP f1.heap.size) 2) (.inl Z) (zI<|(T.code.getD ((kk).toNat) As.zero).b) AC Z (e9.ldp (i:=2) sM) Aa<|Ad 1 Z<|Ak (p:=zP f1.heap.size) 2 BD Z Z Aa<|Af (p:=An (zP f1.heap.size) 2) (.inl Z) (zI<|(T.code.getD ((kk).toNat) As.zero).b) AC Z (e9.ldp (i:=2) sM) Aa ?_
      refine Aw (v:=vo) (((T.code.getD ((kk).toNat) As.zero).b).toNat) Bx AT Z Z (e8.done hSB).none.slL oM sD Aa ?_
      obtain⟨g9,ju,eb⟩:=e8.getF (k:=((T.code.getD ((kk).toNat) As.zero).b).toNat) sD
      have ga:=eb.lenL
      unfold maxLen at ga
      refine Af (p:=Ay vo (((T.code.getD ((kk).toNat) As.zero).b).toNat) 1) (.inl Z) g9 B6 Z ju Aa<|Ad 1 Z<|Ap 207 [] [] [g9,ar] Z Z J8 Aa (C6 _ _ _ _ _ eb.rd g8.rd Cb Cb) ?_
      rintro ol nu ⟨d2,rfl,ai,aw⟩
      refine⟨_,rfl,ai,?_⟩
      replace ai:=ai.of_drew
      have lb:=ai.size
      have gb:=jq.trans ai
      have cs:=e9.ext ai
      have ct:=js.ext (o1) ai
      have cu:=e8.ext ai
      have jv:=g8.ext g1 ai
      have jw:=jr.ext g1 ai
      have jx:=eb.ext g1 ai
      replace aw:=aw.low (B':=nm.heap.size)<|A7 _
      refine Aw (v:=vo) (((T.code.getD ((kk).toNat) As.zero).b).toNat) Bx AT Z Z (cu.done hSB).none.slL oM sD Aa ?_
      refine FJ (v:=vo) (u:=d2) (w:=nu) I6 Z Z cu (RN.of_fr1 aw fun b hb=>by rcases zi.1 hb with hb|hb;(have:=c0 b hb;omega);(have:=hFl b hb;omega)) sD Aa fun nv b0 n4 jy=>?_
      have lc:nu.heap.size≤nv.heap.size:=b0.size
      have jz:AH w nv:=b0.below gb (fun c hc=>A8 hwB (cu.low c hc)) gb.size
      have n5:=cs.chg b0 fun hm=>by have:=cu.low _ hm;have:=hFl _ hm;omega
      have n6:=jv.chg g1<|b0.sub fun b hb=>z1 _ hb
      have n7:=jw.chg g1<|b0.sub fun b hb=>z1 _ hb
      have n8:=ct.chg (o1) b0 fun c hc=>zH<|hFl c hc
      have n9:=jx.chg g1<|b0.sub fun b hb=>z1 _ hb
      have na:=aw.chg (o1) b0 fun c hc=>zH<|hFl c hc
      refine Aj<|Ab _ [0,0,0] Z<|Ad 1 Z<|Bk (kk-1) Z Z (CM oM oM) Aa<|Ac 1 Z ?_
      have hbe:=jy
      exact⟨(kk-1,(xs.set (((T.code.getD ((kk).toNat) As.zero).a).toNat) (Cq (xs.getD (((T.code.getD ((kk).toNat) As.zero).a).toNat) []) (xs.getD ((kk).toNat) []))).set (((T.code.getD ((kk).toNat) As.zero).b).toNat) (Cq ((xs.set (((T.code.getD ((kk).toNat) As.zero).a).toNat) (Cq (xs.getD (((T.code.getD ((kk).toNat) As.zero).a).toNat) []) (xs.getD ((kk).toNat) []))).getD (((T.code.getD ((kk).toNat) As.zero).b).toNat) []) (xs.getD ((kk).toNat) [])),(us.set (((T.code.getD ((kk).toNat) As.zero).a).toNat) d1).set (((T.code.getD ((kk).toNat) As.zero).b).toNat) d2),_,rfl,zR,⟨jz,oM,hbe,Lg,Lh,Lf⟩,zD⟩
    refine Al false Z Z (A6 g4) Aa<|Ac 1 Z<|Ai Z<|gK [0,0] Z ?_
    by_cases gc:(T.code.getD ((kk).toNat) As.zero).op=((4:Nat):Int)
    ·
      refine Al true Z Z (A5 gc) Aa<|Ac 1 Z<|Ag Z<|A0<|AM _ [0,0,1,0,0,1,0,1,0,3,0,4] mixed H9 ?_
      have hio:=(hform kk.toNat hkn).i2 oM
      have hra:=hxs (T.code.getD kk.toNat As.zero).a.toNat oM
      have hra1:=hra.1
      have hRa:=hsR (T.code.getD kk.toNat As.zero).a.toNat oM
      have hRb:=hsR (T.code.getD kk.toNat As.zero).b.toNat oM
      have e4:=hRa.1
      have e6:=hRb.1
      refine Ad 1 Z<|Ak (p:=zP f1.heap.size) 1 BC Z Z Aa<|Af (p:=An (zP f1.heap.size) 1) (.inl Z) (zI<|(T.code.getD ((kk).toNat) As.zero).a) AC Z (a2.ldp (i:=1) sM) Aa<|Ad 1 Z<|Ak (p:=zP f1.heap.size) 1 BC Z Z Aa<|Af (p:=An (zP f1.heap.size) 1) (.inl Z) (zI<|(T.code.getD ((kk).toNat) As.zero).a) AC Z (a2.ldp (i:=1) sM) Aa ?_
      refine Aw (v:=vo) (((T.code.getD ((kk).toNat) As.zero).a).toNat) Bx AT Z Z (a5.done hSB).none.slL oM sD Aa ?_
      obtain⟨gd,k0,ec⟩:=a5.getF (k:=((T.code.getD ((kk).toNat) As.zero).a).toNat) sD
      have ge:=ec.lenL
      unfold maxLen at ge
      refine Af (p:=Ay vo (((T.code.getD ((kk).toNat) As.zero).a).toNat) 1) (.inl Z) gd B6 Z k0 Aa<|Ad 1 Z<|Ap 207 [] [] [gd,ar] Z Z J8 Aa (C6 _ _ _ _ _ ec.rd ah.rd Cb Cb) ?_
      rintro om nx ⟨d3,rfl,ax,ay⟩
      refine⟨_,rfl,ax,?_⟩
      replace ax:=ax.of_drew
      have le:=ax.size
      have gf:=an.trans ax
      have cv:=a2.ext ax
      have cw:=a5.ext ax
      have k1:=ah.ext g1 ax
      have k2:=ec.ext g1 ax
      replace ay:=ay.low (B':=f3.heap.size)<|A7 _
      refine Aw (v:=vo) (((T.code.getD ((kk).toNat) As.zero).a).toNat) Bx AT Z Z (cw.done hSB).none.slL oM sD Aa ?_
      refine FJ (v:=vo) (u:=d3) (w:=nx) I6 Z Z cw (RN.of_fr1 ay fun b hb=>by rcases zi.1 hb with hb|hb;(have:=c0 b hb;omega);(have:=hFl b hb;omega)) sD Aa fun nn bm nb ed=>?_
      have lf:nx.heap.size≤nn.heap.size:=bm.size
      have k3:AH w nn:=bm.below gf (fun c hc=>A8 hwB (cw.low c hc)) gf.size
      have ee:=cv.chg bm fun hm=>by have:=cw.low _ hm;have:=hFl _ hm;omega
      have gg:=k1.chg g1<|bm.sub fun b hb=>z1 _ hb
      have k4:=k2.chg g1<|bm.sub fun b hb=>z1 _ hb
      have k5:=ay.chg (o1) bm fun c hc=>zH<|hFl c hc
      refine Aj<|AM _ [0,0,1,0,0,1,0,1,0,3,0,4] mixed H9 ?_
      have ea:BZ K (xs.set (T.code.getD kk.toNat As.zero).a.toNat (Cq (xs.getD (T.code.getD kk.toNat As.zero).a.toNat []) (xs.getD kk.toNat []))):=CC hxs oM
      have jt:(xs.set (T.code.getD kk.toNat As.zero).a.toNat (Cq (xs.getD (T.code.getD kk.toNat As.zero).a.toNat []) (xs.getD kk.toNat []))).length=T.code.length:=by rw[z6];exact hxl
      have hrb:=ea (T.code.getD kk.toNat As.zero).b.toNat oM
      have hrb1:=hrb.1
      refine Ad 1 Z<|Ak (p:=zP f1.heap.size) 2 BD Z Z Aa<|Af (p:=An (zP f1.heap.size) 2) (.inl Z) (zI<|(T.code.getD ((kk).toNat) As.zero).b) AC Z (ee.ldp (i:=2) sM) Aa<|Ad 1 Z<|Ak (p:=zP f1.heap.size) 2 BD Z Z Aa<|Af (p:=An (zP f1.heap.size) 2) (.inl Z) (zI<|(T.code.getD ((kk).toNat) As.zero).b) AC Z (ee.ldp (i:=2) sM) Aa ?_
      refine Aw (v:=vo) (((T.code.getD ((kk).toNat) As.zero).b).toNat) Bx AT Z Z (ed.done hSB).none.slL oM sD Aa ?_
      obtain⟨gh,k6,ef⟩:=ed.getF (k:=((T.code.getD ((kk).toNat) As.zero).b).toNat) sD
      have gi:=ef.lenL
      unfold maxLen at gi
      refine Af (p:=Ay vo (((T.code.getD ((kk).toNat) As.zero).b).toNat) 1) (.inl Z) gh B6 Z k6 Aa<|Ad 1 Z<|Ap 208 [] [] [gh,ar] Z Z PH Aa (E1 _ _ _ _ _ ef.rd gg.rd Cb Cb Cb) ?_
      rintro on ny ⟨d4,rfl,aj,az⟩
      refine⟨_,rfl,aj,?_⟩
      replace aj:=aj.of_drew
      have lg:=aj.size
      have gj:=k3.trans aj
      have cx:=ee.ext aj
      have cy:=k5.ext (o1) aj
      have cz:=ed.ext aj
      have k7:=gg.ext g1 aj
      have k8:=k4.ext g1 aj
      have k9:=ef.ext g1 aj
      replace az:=az.low (B':=nn.heap.size)<|A7 _
      refine Aw (v:=vo) (((T.code.getD ((kk).toNat) As.zero).b).toNat) Bx AT Z Z (cz.done hSB).none.slL oM sD Aa ?_
      refine FJ (v:=vo) (u:=d4) (w:=ny) I6 Z Z cz (RN.of_fr1 az fun b hb=>by rcases zi.1 hb with hb|hb;(have:=c0 b hb;omega);(have:=hFl b hb;omega)) sD Aa fun nz b1 nc ka=>?_
      have lh:ny.heap.size≤nz.heap.size:=b1.size
      have kb:AH w nz:=b1.below gj (fun c hc=>A8 hwB (cz.low c hc)) gj.size
      have li:=cx.chg b1 fun hm=>by have:=cz.low _ hm;have:=hFl _ hm;omega
      have lj:=k7.chg g1<|b1.sub fun b hb=>z1 _ hb
      have lk:=k8.chg g1<|b1.sub fun b hb=>z1 _ hb
      have ll:=cy.chg (o1) b1 fun c hc=>zH<|hFl c hc
      have lm:=k9.chg g1<|b1.sub fun b hb=>z1 _ hb
      have ln:=az.chg (o1) b1 fun c hc=>zH<|hFl c hc
      refine Aj<|Ab _ [0,0,0] Z<|Ad 1 Z<|Bk (kk-1) Z Z (CM oM oM) Aa<|Ac 1 Z ?_
      have hbe:=ka
      exact⟨(kk-1,(xs.set (((T.code.getD ((kk).toNat) As.zero).a).toNat) (Cq (xs.getD (((T.code.getD ((kk).toNat) As.zero).a).toNat) []) (xs.getD ((kk).toNat) []))).set (((T.code.getD ((kk).toNat) As.zero).b).toNat) (EK ((xs.set (((T.code.getD ((kk).toNat) As.zero).a).toNat) (Cq (xs.getD (((T.code.getD ((kk).toNat) As.zero).a).toNat) []) (xs.getD ((kk).toNat) []))).getD (((T.code.getD ((kk).toNat) As.zero).b).toNat) []) (xs.getD ((kk).toNat) [])),(us.set (((T.code.getD ((kk).toNat) As.zero).a).toNat) d3).set (((T.code.getD ((kk).toNat) As.zero).b).toNat) d4),_,rfl,zR,⟨kb,oM,hbe,Lg,Lh,Lf⟩,zD⟩
    refine Al false Z Z (A6 gc) Aa<|Ac 1 Z<|Ai Z<|gK [0,0] Z ?_
    by_cases d5:(T.code.getD ((kk).toNat) As.zero).op=((5:Nat):Int)
    ·
      refine Al true Z Z (A5 d5) Aa<|Ac 1 Z<|Ag Z<|A0<|AM _ [0,0,1,0,0,1,0,1,0,0,0,1,0,1,3,3,0,4] mixed H9 ?_
      have hio:=(hform kk.toNat hkn).i2 oM
      have hra:=hxs (T.code.getD kk.toNat As.zero).a.toNat oM
      have hra1:=hra.1
      have hRa:=hsR (T.code.getD kk.toNat As.zero).a.toNat oM
      have hRb:=hsR (T.code.getD kk.toNat As.zero).b.toNat oM
      have e4:=hRa.1
      have e6:=hRb.1
      refine Ad 1 Z<|Ak (p:=zP f1.heap.size) 1 BC Z Z Aa<|Af (p:=An (zP f1.heap.size) 1) (.inl Z) (zI<|(T.code.getD ((kk).toNat) As.zero).a) AC Z (a2.ldp (i:=1) sM) Aa<|Ad 1 Z<|Ak (p:=zP f1.heap.size) 1 BC Z Z Aa<|Af (p:=An (zP f1.heap.size) 1) (.inl Z) (zI<|(T.code.getD ((kk).toNat) As.zero).a) AC Z (a2.ldp (i:=1) sM) Aa ?_
      refine Aw (v:=vo) (((T.code.getD ((kk).toNat) As.zero).a).toNat) Bx AT Z Z (a5.done hSB).none.slL oM sD Aa ?_
      obtain⟨d6,gk,d7⟩:=a5.getF (k:=((T.code.getD ((kk).toNat) As.zero).a).toNat) sD
      have eg:=d7.lenL
      unfold maxLen at eg
      refine Af (p:=Ay vo (((T.code.getD ((kk).toNat) As.zero).a).toNat) 1) (.inl Z) d6 B6 Z gk Aa<|Ad 2 Z<|Ak (p:=zP f1.heap.size) 2 BD Z Z Aa<|Af (p:=An (zP f1.heap.size) 2) (.inl Z) (zI<|(T.code.getD ((kk).toNat) As.zero).b) AC Z (a2.ldp (i:=2) sM) Aa ?_
      refine Aw (v:=vr) (((T.code.getD ((kk).toNat) As.zero).b).toNat) Bx AT Z Z hR.slL oM sD Aa ?_
      obtain⟨d8,gl,d9⟩:=RN.getL (w:=w) g1 [] (k:=((T.code.getD ((kk).toNat) As.zero).b).toNat) hR sD
      have eh:=d9.lenL
      unfold maxLen at eh
      refine Af (p:=Ay vr (((T.code.getD ((kk).toNat) As.zero).b).toNat) 1) (.inl Z) d8 B6 Z (gl _<|At.of_ext [] an.drew) Aa<|Ap 209 [] [] [ar,d8] Z Z PI Aa (E2 _ _ _ _ _ ah.rd (d9.ext g1 an.drew).rd Cb Cb) ?_
      rintro o4 o5 ⟨ei,rfl,a9,ac⟩
      refine⟨_,rfl,a9,?_⟩
      replace a9:=a9.of_drew
      have kc:=a9.size
      have gm:=an.trans a9
      have c6:=a2.ext a9
      have gn:=a5.ext a9
      have go:=ah.ext g1 a9
      have da:=d7.ext g1 a9
      replace ac:=ac.low (B':=f3.heap.size)<|A7 _
      refine Ap 207 [] [] [d6,ei] Z Z J8 Aa (C6 _ _ _ _ _ da.rd ac.rd1 Cb Cb) ?_
      rintro o6 fs ⟨c7,rfl,ab,b8⟩
      refine⟨_,rfl,ab,?_⟩
      have kd:=ab.size
      have db:=gm.trans ab
      have c8:=c6.ext ab
      have b2:=ac.ext (o1) ab
      have b9:=gn.ext ab
      have gp:=go.ext g1 ab
      have gq:=da.ext g1 ab
      refine Aw (v:=vo) (((T.code.getD ((kk).toNat) As.zero).a).toNat) Bx AT Z Z (b9.done hSB).none.slL oM sD Aa ?_
      refine FJ (v:=vo) (u:=c7) (w:=fs) I6 Z Z b9 (RN.of_fr1 b8 fun b hb=>by rcases zi.1 hb with hb|hb;(have:=c0 b hb;omega);(have:=hFl b hb;omega)) sD Aa fun f4 ak lo c9=>?_
      have ke:fs.heap.size≤f4.heap.size:=ak.size
      have ca:AH w f4:=ak.below db (fun c hc=>A8 hwB (b9.low c hc)) db.size
      have ba:=c8.chg ak fun hm=>by have:=b9.low _ hm;have:=hFl _ hm;omega
      have dc:=gp.chg g1<|ak.sub fun b hb=>z1 _ hb
      have gr:=gq.chg g1<|ak.sub fun b hb=>z1 _ hb
      have gs:=b2.chg (o1) ak fun c hc=>zH<|hFl c hc
      have gt:=b8.chg (o1) ak fun c hc=>zH<|hFl c hc
      refine Aj<|AM _ [0,0,1,0,0,1,0,1,0,0,0,1,0,1,3,3,0,4] mixed H9 ?_
      have ea:BZ K (xs.set (T.code.getD kk.toNat As.zero).a.toNat (Cq (xs.getD (T.code.getD kk.toNat As.zero).a.toNat []) (Ce (xs.getD kk.toNat []) (R.getD (T.code.getD kk.toNat As.zero).b.toNat [])))):=CC hxs oM
      have jt:(xs.set (T.code.getD kk.toNat As.zero).a.toNat (Cq (xs.getD (T.code.getD kk.toNat As.zero).a.toNat []) (Ce (xs.getD kk.toNat []) (R.getD (T.code.getD kk.toNat As.zero).b.toNat [])))).length=T.code.length:=by rw[z6];exact hxl
      have hrb:=ea (T.code.getD kk.toNat As.zero).b.toNat oM
      have hrb1:=hrb.1
      refine Ad 1 Z<|Ak (p:=zP f1.heap.size) 2 BD Z Z Aa<|Af (p:=An (zP f1.heap.size) 2) (.inl Z) (zI<|(T.code.getD ((kk).toNat) As.zero).b) AC Z (ba.ldp (i:=2) sM) Aa<|Ad 1 Z<|Ak (p:=zP f1.heap.size) 2 BD Z Z Aa<|Af (p:=An (zP f1.heap.size) 2) (.inl Z) (zI<|(T.code.getD ((kk).toNat) As.zero).b) AC Z (ba.ldp (i:=2) sM) Aa ?_
      refine Aw (v:=vo) (((T.code.getD ((kk).toNat) As.zero).b).toNat) Bx AT Z Z (c9.done hSB).none.slL oM sD Aa ?_
      obtain⟨dd,gu,de⟩:=c9.getF (k:=((T.code.getD ((kk).toNat) As.zero).b).toNat) sD
      have ej:=de.lenL
      unfold maxLen at ej
      refine Af (p:=Ay vo (((T.code.getD ((kk).toNat) As.zero).b).toNat) 1) (.inl Z) dd B6 Z gu Aa<|Ad 2 Z<|Ak (p:=zP f1.heap.size) 1 BC Z Z Aa<|Af (p:=An (zP f1.heap.size) 1) (.inl Z) (zI<|(T.code.getD ((kk).toNat) As.zero).a) AC Z (ba.ldp (i:=1) sM) Aa ?_
      refine Aw (v:=vr) (((T.code.getD ((kk).toNat) As.zero).a).toNat) Bx AT Z Z hR.slL oM sD Aa ?_
      obtain⟨df,gv,dg⟩:=RN.getL (w:=w) g1 [] (k:=((T.code.getD ((kk).toNat) As.zero).a).toNat) hR sD
      have ek:=dg.lenL
      unfold maxLen at ek
      refine Af (p:=Ay vr (((T.code.getD ((kk).toNat) As.zero).a).toNat) 1) (.inl Z) df B6 Z (gv _<|At.of_ext [] ca.drew) Aa<|Ap 209 [] [] [ar,df] Z Z PI Aa (E2 _ _ _ _ _ dc.rd (dg.ext g1 ca.drew).rd Cb Cb) ?_
      rintro o7 o8 ⟨el,rfl,a0,ad⟩
      refine⟨_,rfl,a0,?_⟩
      replace a0:=a0.of_drew
      have kf:=a0.size
      have gw:=ca.trans a0
      have bn:=ba.ext a0
      have bo:=gs.ext (o1) a0
      have bp:=gt.ext (o1) a0
      have gx:=c9.ext a0
      have gy:=dc.ext g1 a0
      have gz:=gr.ext g1 a0
      have dh:=de.ext g1 a0
      replace ad:=ad.low (B':=f4.heap.size)<|A7 _
      refine Ap 207 [] [] [dd,el] Z Z J8 Aa (C6 _ _ _ _ _ dh.rd ad.rd1 Cb Cb) ?_
      rintro o9 fx ⟨cb,rfl,a3,bb⟩
      refine⟨_,rfl,a3,?_⟩
      have kg:=a3.size
      have di:=gw.trans a3
      have bq:=bn.ext a3
      have br:=bo.ext (o1) a3
      have bs:=bp.ext (o1) a3
      have b3:=ad.ext (o1) a3
      have bc:=gx.ext a3
      have i0:=gy.ext g1 a3
      have i1:=gz.ext g1 a3
      have i3:=dh.ext g1 a3
      refine Aw (v:=vo) (((T.code.getD ((kk).toNat) As.zero).b).toNat) Bx AT Z Z (bc.done hSB).none.slL oM sD Aa ?_
      refine FJ (v:=vo) (u:=cb) (w:=fx) I6 Z Z bc (RN.of_fr1 bb fun b hb=>by rcases zi.1 hb with hb|hb;(have:=c0 b hb;omega);(have:=hFl b hb;omega)) sD Aa fun nf a6 lp i4=>?_
      have kh:fx.heap.size≤nf.heap.size:=a6.size
      have i5:AH w nf:=a6.below di (fun c hc=>A8 hwB (bc.low c hc)) di.size
      have lq:=bq.chg a6 fun hm=>by have:=bc.low _ hm;have:=hFl _ hm;omega
      have lr:=i0.chg g1<|a6.sub fun b hb=>z1 _ hb
      have ls:=i1.chg g1<|a6.sub fun b hb=>z1 _ hb
      have lu:=br.chg (o1) a6 fun c hc=>zH<|hFl c hc
      have lv:=bs.chg (o1) a6 fun c hc=>zH<|hFl c hc
      have lw:=i3.chg g1<|a6.sub fun b hb=>z1 _ hb
      have lx:=b3.chg (o1) a6 fun c hc=>zH<|hFl c hc
      have ly:=bb.chg (o1) a6 fun c hc=>zH<|hFl c hc
      refine Aj<|Ab _ [0,0,0] Z<|Ad 1 Z<|Bk (kk-1) Z Z (CM oM oM) Aa<|Ac 1 Z ?_
      have hbe:=i4
      exact⟨(kk-1,(xs.set (((T.code.getD ((kk).toNat) As.zero).a).toNat) (Cq (xs.getD (((T.code.getD ((kk).toNat) As.zero).a).toNat) []) (Ce (xs.getD ((kk).toNat) []) (R.getD (((T.code.getD ((kk).toNat) As.zero).b).toNat) [])))).set (((T.code.getD ((kk).toNat) As.zero).b).toNat) (Cq ((xs.set (((T.code.getD ((kk).toNat) As.zero).a).toNat) (Cq (xs.getD (((T.code.getD ((kk).toNat) As.zero).a).toNat) []) (Ce (xs.getD ((kk).toNat) []) (R.getD (((T.code.getD ((kk).toNat) As.zero).b).toNat) [])))).getD (((T.code.getD ((kk).toNat) As.zero).b).toNat) []) (Ce (xs.getD ((kk).toNat) []) (R.getD (((T.code.getD ((kk).toNat) As.zero).a).toNat) []))),(us.set (((T.code.getD ((kk).toNat) As.zero).a).toNat) c7).set (((T.code.getD ((kk).toNat) As.zero).b).toNat) cb),_,rfl,zR,⟨i5,oM,hbe,Lg,Lh,Lf⟩,zD⟩
    refine Al false Z Z (A6 d5) Aa<|Ac 1 Z<|Ai Z<|gK [0,0] Z ?_
    by_cases dj:(T.code.getD ((kk).toNat) As.zero).op=((6:Nat):Int)
    ·
      refine Al true Z Z (A5 dj) Aa<|Ac 1 Z<|Ag Z<|gK [0,0,0,2,0,2,3,0] Z ?_
      have hio:=(hform kk.toNat hkn).i2 oM
      have hra:=hxs (T.code.getD kk.toNat As.zero).a.toNat oM
      have hra1:=hra.1
      have hRa:=hsR (T.code.getD kk.toNat As.zero).a.toNat oM
      have hRb:=hsR (T.code.getD kk.toNat As.zero).b.toNat oM
      have e4:=hRa.1
      have e6:=hRb.1
      refine Ad 2 Z<|Ak (p:=zP f1.heap.size) 2 BD Z Z Aa<|Af (p:=An (zP f1.heap.size) 2) (.inr Z) (zI<|(T.code.getD ((kk).toNat) As.zero).b) AC Z (a2.ldp (i:=2) sM) Aa<|Aw (v:=vr) (((T.code.getD ((kk).toNat) As.zero).b).toNat) Bx AT Z Z hR.slL oM sD Aa ?_
      obtain⟨dk,i6,dl⟩:=RN.getL (w:=w) g1 [] (k:=((T.code.getD ((kk).toNat) As.zero).b).toNat) hR sD
      have em:=dl.lenL
      unfold maxLen at em
      refine Af (p:=Ay vr (((T.code.getD ((kk).toNat) As.zero).b).toNat) 1) (.inr Z) dk B6 Z (i6 _<|At.of_ext [] an) Aa<|Ap 210 [] [] [ar,dk] Z Z UN Aa (H7 _ _ _ _ _ ah.rd (dl.ext g1 an).rd Cb Cb oM hro.2) ?_
      rintro oa no ⟨cc,rfl,ao,bd⟩
      refine⟨_,rfl,ao,?_⟩
      have ki:=ao.size
      have i8:=an.trans ao
      have al:=a2.ext ao
      have cd:=a5.ext ao
      have i9:=ah.ext g1 ao
      refine Ac 1 Z<|A0<|AM _ [0,0,1,0,0,1,0,1,0,3,0,4] mixed H9<|Ad 1 Z<|Ak (p:=zP f1.heap.size) 1 BC Z Z Aa<|Af (p:=An (zP f1.heap.size) 1) (.inl Z) (zI<|(T.code.getD ((kk).toNat) As.zero).a) AC Z (al.ldp (i:=1) sM) Aa<|Ad 1 Z<|Ak (p:=zP f1.heap.size) 1 BC Z Z Aa<|Af (p:=An (zP f1.heap.size) 1) (.inl Z) (zI<|(T.code.getD ((kk).toNat) As.zero).a) AC Z (al.ldp (i:=1) sM) Aa ?_
      refine Aw (v:=vo) (((T.code.getD ((kk).toNat) As.zero).a).toNat) Bx AT Z Z (cd.done hSB).none.slL oM sD Aa ?_
      obtain⟨dm,ia,ce⟩:=cd.getF (k:=((T.code.getD ((kk).toNat) As.zero).a).toNat) sD
      have en:=ce.lenL
      unfold maxLen at en
      refine Af (p:=Ay vo (((T.code.getD ((kk).toNat) As.zero).a).toNat) 1) (.inl Z) dm B6 Z ia Aa<|Ad 1 Z<|Ap 207 [] [] [dm,cc] Z Z J8 Aa (C6 _ _ _ _ _ ce.rd bd.rd1 Cb Cb) ?_
      rintro ob ng ⟨cf,rfl,a7,ae⟩
      refine⟨_,rfl,a7,?_⟩
      replace a7:=a7.of_drew
      have kj:=a7.size
      have dn:=i8.trans a7
      have cg:=al.ext a7
      have b4:=bd.ext (o1) a7
      have be:=cd.ext a7
      have ib:=i9.ext g1 a7
      have ic:=ce.ext g1 a7
      replace ae:=ae.low (B':=no.heap.size)<|A7 _
      refine Aw (v:=vo) (((T.code.getD ((kk).toNat) As.zero).a).toNat) Bx AT Z Z (be.done hSB).none.slL oM sD Aa ?_
      refine FJ (v:=vo) (u:=cf) (w:=ng) I6 Z Z be (RN.of_fr1 ae fun b hb=>by rcases zi.1 hb with hb|hb;(have:=c0 b hb;omega);(have:=hFl b hb;omega)) sD Aa fun fe am lz ch=>?_
      have kl:ng.heap.size≤fe.heap.size:=am.size
      have ci:AH w fe:=am.below dn (fun c hc=>A8 hwB (be.low c hc)) dn.size
      have cj:=cg.chg am fun hm=>by have:=be.low _ hm;have:=hFl _ hm;omega
      have id:=ib.chg g1<|am.sub fun b hb=>z1 _ hb
      have dp:=b4.chg (o1) am fun c hc=>zH<|hFl c hc
      have ie:=ic.chg g1<|am.sub fun b hb=>z1 _ hb
      have ig:=ae.chg (o1) am fun c hc=>zH<|hFl c hc
      refine Aj<|AM _ [0,0,1,0,0,1,0,1,0,0,0,0,1,3,3,0,4] mixed H9 ?_
      have ea:BZ K (xs.set (T.code.getD kk.toNat As.zero).a.toNat (Cq (xs.getD (T.code.getD kk.toNat As.zero).a.toNat []) (BT (xs.getD kk.toNat []) (R.getD (T.code.getD kk.toNat As.zero).b.toNat [])))):=CC hxs oM
      have jt:(xs.set (T.code.getD kk.toNat As.zero).a.toNat (Cq (xs.getD (T.code.getD kk.toNat As.zero).a.toNat []) (BT (xs.getD kk.toNat []) (R.getD (T.code.getD kk.toNat As.zero).b.toNat [])))).length=T.code.length:=by rw[z6];exact hxl
      have hrb:=ea (T.code.getD kk.toNat As.zero).b.toNat oM
      have hrb1:=hrb.1
      have hpz:(Ce (BT (xs.getD kk.toNat []) (R.getD (T.code.getD kk.toNat As.zero).b.toNat [])) (R.getD kk.toNat [])).length=K:=by simp only[Er,Dl];exact hro1
      refine Ad 1 Z<|Ak (p:=zP f1.heap.size) 2 BD Z Z Aa<|Af (p:=An (zP f1.heap.size) 2) (.inl Z) (zI<|(T.code.getD ((kk).toNat) As.zero).b) AC Z (cj.ldp (i:=2) sM) Aa<|Ad 1 Z<|Ak (p:=zP f1.heap.size) 2 BD Z Z Aa<|Af (p:=An (zP f1.heap.size) 2) (.inl Z) (zI<|(T.code.getD ((kk).toNat) As.zero).b) AC Z (cj.ldp (i:=2) sM) Aa ?_
      refine Aw (v:=vo) (((T.code.getD ((kk).toNat) As.zero).b).toNat) Bx AT Z Z (ch.done hSB).none.slL oM sD Aa ?_
      obtain⟨dq,ih,dr⟩:=ch.getF (k:=((T.code.getD ((kk).toNat) As.zero).b).toNat) sD
      have eo:=dr.lenL
      unfold maxLen at eo
      refine Af (p:=Ay vo (((T.code.getD ((kk).toNat) As.zero).b).toNat) 1) (.inl Z) dq B6 Z ih Aa<|Ad 3 Z<|Aw (v:=vr) ((kk).toNat) Bx AT Z Z hR.slL oM sD Aa ?_
      obtain⟨ds,ii,dt⟩:=RN.getL (w:=w) g1 [] (k:=(kk).toNat) hR sD
      have ep:=dt.lenL
      unfold maxLen at ep
      refine Af (p:=Ay vr ((kk).toNat) 1) (.inl Z) ds B6 Z (ii _<|At.of_ext [] ci.drew) Aa<|Ap 209 [] [] [cc,ds] Z Z PI Aa (E2 _ _ _ _ _ dp.rd1 (dt.ext g1 ci.drew).rd Cb Cb) ?_
      rintro oc od ⟨eq,rfl,a1,af⟩
      refine⟨_,rfl,a1,?_⟩
      replace a1:=a1.of_drew
      have km:=a1.size
      have ij:=ci.trans a1
      have bt:=cj.ext a1
      have bu:=dp.ext (o1) a1
      have bv:=ig.ext (o1) a1
      have ik:=ch.ext a1
      have il:=id.ext g1 a1
      have im:=ie.ext g1 a1
      have du:=dr.ext g1 a1
      replace af:=af.low (B':=fe.heap.size)<|A7 _
      refine Ap 208 [] [] [dq,eq] Z Z PH Aa (E1 _ _ _ _ _ du.rd af.rd1 Cb Cb Cb) ?_
      rintro oe nh ⟨ck,rfl,a4,bf⟩
      refine⟨_,rfl,a4,?_⟩
      have kn:=a4.size
      have dv:=ij.trans a4
      have bw:=bt.ext a4
      have bx:=bu.ext (o1) a4
      have bz:=bv.ext (o1) a4
      have b5:=af.ext (o1) a4
      have bg:=ik.ext a4
      have io:=il.ext g1 a4
      have ip:=im.ext g1 a4
      have iq:=du.ext g1 a4
      refine Aw (v:=vo) (((T.code.getD ((kk).toNat) As.zero).b).toNat) Bx AT Z Z (bg.done hSB).none.slL oM sD Aa ?_
      refine FJ (v:=vo) (u:=ck) (w:=nh) I6 Z Z bg (RN.of_fr1 bf fun b hb=>by rcases zi.1 hb with hb|hb;(have:=c0 b hb;omega);(have:=hFl b hb;omega)) sD Aa fun nj a8 m0 ir=>?_
      have ko:nh.heap.size≤nj.heap.size:=a8.size
      have is:AH w nj:=a8.below dv (fun c hc=>A8 hwB (bg.low c hc)) dv.size
      have m1:=bw.chg a8 fun hm=>by have:=bg.low _ hm;have:=hFl _ hm;omega
      have m2:=io.chg g1<|a8.sub fun b hb=>z1 _ hb
      have m3:=bx.chg (o1) a8 fun c hc=>zH<|hFl c hc
      have m4:=ip.chg g1<|a8.sub fun b hb=>z1 _ hb
      have m5:=bz.chg (o1) a8 fun c hc=>zH<|hFl c hc
      have m6:=iq.chg g1<|a8.sub fun b hb=>z1 _ hb
      have m7:=b5.chg (o1) a8 fun c hc=>zH<|hFl c hc
      have m8:=bf.chg (o1) a8 fun c hc=>zH<|hFl c hc
      refine Aj<|Ab _ [0,0,0] Z<|Ad 1 Z<|Bk (kk-1) Z Z (CM oM oM) Aa<|Ac 1 Z ?_
      have hbe:=ir
      exact⟨(kk-1,(xs.set (((T.code.getD ((kk).toNat) As.zero).a).toNat) (Cq (xs.getD (((T.code.getD ((kk).toNat) As.zero).a).toNat) []) (BT (xs.getD ((kk).toNat) []) (R.getD (((T.code.getD ((kk).toNat) As.zero).b).toNat) [])))).set (((T.code.getD ((kk).toNat) As.zero).b).toNat) (EK ((xs.set (((T.code.getD ((kk).toNat) As.zero).a).toNat) (Cq (xs.getD (((T.code.getD ((kk).toNat) As.zero).a).toNat) []) (BT (xs.getD ((kk).toNat) []) (R.getD (((T.code.getD ((kk).toNat) As.zero).b).toNat) [])))).getD (((T.code.getD ((kk).toNat) As.zero).b).toNat) []) (Ce (BT (xs.getD ((kk).toNat) []) (R.getD (((T.code.getD ((kk).toNat) As.zero).b).toNat) [])) (R.getD ((kk).toNat) []))),(us.set (((T.code.getD ((kk).toNat) As.zero).a).toNat) cf).set (((T.code.getD ((kk).toNat) As.zero).b).toNat) ck),_,rfl,zR,⟨is,oM,hbe,Lg,Lh,Lf⟩,zD⟩
    refine Al false Z Z (A6 dj) Aa<|Ac 1 Z<|Ai Z<|gK [0,0] Z ?_
    by_cases dw:(T.code.getD ((kk).toNat) As.zero).op=((7:Nat):Int)
    ·
      refine Al true Z Z (A5 dw) Aa<|Ac 1 Z<|Ag Z<|AM _ [0,0,1,0,0,1,0,1,0,3,0,4] mixed H9 ?_
      have hio:=(hform kk.toNat hkn).i7 oM
      have hra:=hxs (T.code.getD kk.toNat As.zero).a.toNat oM
      have hra1:=hra.1
      refine Ad 1 Z<|Ak (p:=zP f1.heap.size) 1 BC Z Z Aa<|Af (p:=An (zP f1.heap.size) 1) (.inl Z) (zI<|(T.code.getD ((kk).toNat) As.zero).a) AC Z (a2.ldp (i:=1) sM) Aa<|Ad 1 Z<|Ak (p:=zP f1.heap.size) 1 BC Z Z Aa<|Af (p:=An (zP f1.heap.size) 1) (.inl Z) (zI<|(T.code.getD ((kk).toNat) As.zero).a) AC Z (a2.ldp (i:=1) sM) Aa ?_
      refine Aw (v:=vo) (((T.code.getD ((kk).toNat) As.zero).a).toNat) Bx AT Z Z (a5.done hSB).none.slL oM sD Aa ?_
      obtain⟨dx,it,cl⟩:=a5.getF (k:=((T.code.getD ((kk).toNat) As.zero).a).toNat) sD
      have er:=cl.lenL
      unfold maxLen at er
      refine Af (p:=Ay vo (((T.code.getD ((kk).toNat) As.zero).a).toNat) 1) (.inl Z) dx B6 Z it Aa<|Ad 1 Z<|Ap 208 [] [] [dx,ar] Z Z PH Aa (E1 _ _ _ _ _ cl.rd ah.rd Cb Cb Cb) ?_
      rintro og nk ⟨cm,rfl,aa,ag⟩
      refine⟨_,rfl,aa,?_⟩
      replace aa:=aa.of_drew
      have kp:=aa.size
      have dy:=an.trans aa
      have cn:=a2.ext aa
      have bh:=a5.ext aa
      have iu:=ah.ext g1 aa
      have iv:=cl.ext g1 aa
      replace ag:=ag.low (B':=f3.heap.size)<|A7 _
      refine Aw (v:=vo) (((T.code.getD ((kk).toNat) As.zero).a).toNat) Bx AT Z Z (bh.done hSB).none.slL oM sD Aa ?_
      refine FJ (v:=vo) (u:=cm) (w:=nk) I6 Z Z bh (RN.of_fr1 ag fun b hb=>by rcases zi.1 hb with hb|hb;(have:=c0 b hb;omega);(have:=hFl b hb;omega)) sD Aa fun nl ap m9 iw=>?_
      have kq:nk.heap.size≤nl.heap.size:=ap.size
      have ix:AH w nl:=ap.below dy (fun c hc=>A8 hwB (bh.low c hc)) dy.size
      have ma:=cn.chg ap fun hm=>by have:=bh.low _ hm;have:=hFl _ hm;omega
      have mb:=iu.chg g1<|ap.sub fun b hb=>z1 _ hb
      have mc:=iv.chg g1<|ap.sub fun b hb=>z1 _ hb
      have md:=ag.chg (o1) ap fun c hc=>zH<|hFl c hc
      refine Aj<|Ab _ [0,0,0] Z<|Ad 1 Z<|Bk (kk-1) Z Z (CM oM oM) Aa<|Ac 1 Z ?_
      have hbe:=iw
      exact⟨(kk-1,xs.set (((T.code.getD ((kk).toNat) As.zero).a).toNat) (EK (xs.getD (((T.code.getD ((kk).toNat) As.zero).a).toNat) []) (xs.getD ((kk).toNat) [])),us.set (((T.code.getD ((kk).toNat) As.zero).a).toNat) cm),_,rfl,zR,⟨ix,oM,hbe,Lg,Lh,Lf⟩,zD⟩
    refine Al false Z Z (A6 dw) Aa<|Ac 1 Z<|Ai Z<|A2<|Ab _ [0,0,0] Z<|Ad 1 Z<|Bk (kk-1) Z Z (CM oM oM) Aa<|Ac 1 Z ?_
    have hbe:=a5
    exact⟨(kk-1,xs,us),_,rfl,zR,⟨an,oM,hbe,Lg,Lh,Lf⟩,zD⟩
  refine De false Z Z (A6 g0) Aa<|Aj<|Ai Z<|A4<|AA<|AA<|Av<|gK [0,0] Z<|Ac 2 Z<|A1 ?_
  have hfin:xs=HF T.code R oT ws:=by have h9:=hadj;rw[show(kk+1).toNat=0 from by omega,j0,iz]at h9;exact h9
  exact Ah [8] Z vo Z ⟨_,rfl,bk,(by rw[← hfin];exact(hbl.done hSB)),hbl.cap⟩
theorem Li (w:World)(vt:Value)(ipT:Int)(T:Tp)(oT:Sr)(vl:Value)(L:List (Sr))(k:Int)(hT:RN [] (rP Vo) w.heap vt ⟨ipT,T,oT⟩)(hL:RN [] (B4 (B4 rI)) w.heap vl L)(hqL:C3 vl)(_hk:Bn k)(ax:k=0)(hni:0≤ipT∧ipT≤1000)(hlL:L.length=T.code.length)(hsL:∀k,k<L.length→1≤(L.getD k []).length∧AX (L.getD k [])=true)(hlt:T.code.length≤4000)(hform:∀k,k<T.code.length→DN ipT.toNat k (T.code.getD k As.zero)) :
    Calls Tryz.prog 140 #[vt,vl,zI k] w (fun e w'=>∃v0:Value,e=.returned (v0)∧AH w w'∧Fr (Bp rI 2) w.heap.size w'.heap.size w'.heap v0 (OW T.code L (List.replicate ipT.toNat 0) T.code.length)):=by
  refine Aq [vt,vl,zI k] 62 Tryz.func140 Z Z sM ?_
  have a6:AH w w:=AH.refl w
  have b0:=hL.lenL
  unfold maxLen at b0
  refine gL Z<|gK [0,0,0,2,3,0] Z<|Ad 1 Z<|AF (hT.isPtr) Z Aa ?_
  obtain⟨cs1,ap,a2⟩:=RN.at DK hT
  obtain⟨az,vg1,vx1,rfl,af,a4,ag,ah⟩:=RTp.of ap
  replace af:Bn ipT:=af
  replace a4:RN [] (D5 4 KU) w.heap az T.code:=a4
  replace ag:RN [] (D5 2 KV) w.heap vg1 T.grd:=ag
  replace ah:RN [] (B4 rI) w.heap vx1 oT:=ah
  refine AE (p:=vt) 0 H2 Z (a2 _<|At.of_ext [] a6) Aa<|Af (p:=An vt 0) (.inr Z) (zI ipT) AC Z ((a2 _<|At.of_ext [] a6).ld (i:=0) Dc) Aa (Ga (n:=(ipT).toNat) Bt BG Z Z oM sD Aa fun v2 w2 a7 aq ai=>?_)
  have a8:=a7.size
  have aj:=a6.trans a7
  refine Ac 1 Z<|A0<|gL Z<|A3<|AU (S:=Nat) (fun j=>([(8,zI (j:Int)),(0,vt),(1,vl),(2,zI k),(7,v2)])) (fun j W=>AH w W∧Fr (Bp rI 2) w.heap.size W.heap.size W.heap v2 (OW T.code L (List.replicate ipT.toNat 0) j)∧j≤T.code.length) (fun j=>T.code.length-j) 0 ⟨rfl,rfl,rfl,rfl,rfl,trivial⟩ ⟨aj,ai.up o1,oM⟩ ?_
  clear a6 ai aq a7 a8 aj
  rintro j ρ3 w3 ⟨a1,a0,ak⟩
  have ar:w.heap.size≤w3.heap.size:=a1.size
  refine A0<|gK [0,0,0,0,2,0,0] Z<|Ad 2 Z<|AF (hT.isPtr) Z Aa<|AE (p:=vt) 1 Cp Z (a2 _<|At.of_ext [] a1) Aa<|Af (p:=An vt 1) (.inr Z) az DQ Z ((a2 _<|At.of_ext [] a1).ld (i:=1) Dc) Aa<|AR (v:=az) JY Z a4.isSl Aa ?_
  by_cases al:(j:Int)<(T.code.length:Int)
  ·
    refine AI true Z Z (A5 al) Aa<|Aj<|Ag Z<|A2<|A0<|A3<|gK [0,0,0,2,0,0,0,2,0] Z<|Ad 1 Z<|AF (hT.isPtr) Z Aa<|AE (p:=vt) 1 Cp Z (a2 _<|At.of_ext [] a1) Aa<|Af (p:=An vt 1) (.inr Z) az DQ Z ((a2 _<|At.of_ext [] a1).ld (i:=1) Dc) Aa<|Ad 1 Z ?_
    refine Aw (v:=az) j JY FD Z Z a4.isSl Z sD Aa ?_
    obtain⟨cs5,au,a5⟩:=a4.get AY As.zero (k:=j) sD
    obtain⟨rfl,ay⟩:=Io au
    refine AE (p:=Ay az j 4) 0 HN Z (a5 _<|At.of_ext [] a1) Aa<|Af (p:=An (Ay az j 4) 0) (.inr Z) (zI<|(T.code.getD j As.zero).op) AC Z ((a5 _<|At.of_ext [] a1).ld (i:=0) Dc) Aa ?_
    by_cases am:(T.code.getD j As.zero).op=((1:Nat):Int)
    ·
      refine Al true Z Z (A5 am) Aa<|Aj<|Ag Z<|AM _ [0,0,0,0,1,0,0,0,1,0,0,0,0,1,0,0,0,1,0,1,0,0,0,1,0,0,1,0,0,4] mixed (by kernel_rfl) ?_
      have hjk:j<T.code.length:=by omega
      have hio:=(hform j hjk).i1 oM
      have hLj:=hsL j oM
      have hbn:(OW T.code L (List.replicate ipT.toNat 0) j).length=ipT.toNat:=by rw[Xi,z5]
      refine Ad 2 Z<|AF (hT.isPtr) Z Aa<|AE (p:=vt) 1 Cp Z (a2 _<|At.of_ext [] a1.drew) Aa<|Af (p:=An vt 1) (.inl Z) az DQ Z ((a2 _<|At.of_ext [] a1.drew).ld (i:=1) Dc) Aa<|Ad 1 Z<|Aw (v:=az) j JY FD Z Z a4.isSl Z sD Aa<|AE (p:=Ay az j 4) 3 CO Z (a5 _<|At.of_ext [] a1.drew) Aa ?_
      refine Af (p:=An (Ay az j 4) 3) (.inl Z) (zI<|(T.code.getD j As.zero).num) AC Z ((a5 _<|At.of_ext [] a1.drew).ld (i:=3) Dc) Aa<|Ad 2 Z<|AF (hT.isPtr) Z Aa<|AE (p:=vt) 1 Cp Z (a2 _<|At.of_ext [] a1.drew) Aa<|Af (p:=An vt 1) (.inl Z) az DQ Z ((a2 _<|At.of_ext [] a1.drew).ld (i:=1) Dc) Aa<|Ad 1 Z ?_
      refine Aw (v:=az) j JY FD Z Z a4.isSl Z sD Aa<|AE (p:=Ay az j 4) 3 CO Z (a5 _<|At.of_ext [] a1.drew) Aa<|Af (p:=An (Ay az j 4) 3) (.inl Z) (zI<|(T.code.getD j As.zero).num) AC Z ((a5 _<|At.of_ext [] a1.drew).ld (i:=3) Dc) Aa ?_
      refine Aw (v:=v2) (((T.code.getD j As.zero).num).toNat) Bt BG Z Z a0.isSl oM sD Aa ?_
      refine Af (p:=Ay v2 (((T.code.getD j As.zero).num).toNat) 1) (.inl Z) (zI<|(OW T.code L (List.replicate ipT.toNat 0) j).getD (((T.code.getD j As.zero).num).toNat) 0) AC Z (a0.rd1.getI sD).1 Aa (Ad 2 Z ?_)
      refine Aw (v:=vl) j Bx AT Z Z hL.slL Z sD Aa ?_
      obtain⟨a9,av,aa⟩:=RN.getL (w:=w) g1 [] (k:=j) hL sD
      have ab:=aa.lenL
      unfold maxLen at ab
      refine Af (p:=Ay vl j 1) (.inl Z) a9 B6 Z (av _<|At.of_ext [] a1.drew) Aa<|Ad 1 Z<|Aw (v:=a9) ((k).toNat) Bt BG Z Z aa.slL oM sD Aa ?_
      have an:=RN.getI (w:=w) (k:=(k).toNat) aa sD
      refine Af (p:=Ay a9 ((k).toNat) 1) (.inl Z) (zI<|(L.getD j []).getD ((k).toNat) 0) AC Z (an.1 _<|At.of_ext [] a1.drew) Aa ?_
      refine AB 64 [] [] [zI<|(OW T.code L (List.replicate ipT.toNat 0) j).getD (((T.code.getD j As.zero).num).toNat) 0,zI<|(L.getD j []).getD ((k).toNat) 0] Z Z UD Aa (zI<|md (((OW T.code L (List.replicate ipT.toNat 0) j).getD (((T.code.getD j As.zero).num).toNat) 0)+((L.getD j []).getD ((k).toNat) 0))) (fun wq=>FE wq _ _ (a0.rd1.getI sD).2 an.2) ?_
      refine Aw (v:=v2) (((T.code.getD j As.zero).num).toNat) Bt BG Z Z a0.isSl oM sD Aa ?_
      refine GQ (v:=v2) (w:=w3.drew) HL Z Z (Eo _) a0 sD Aa fun b1 b2 a3 aw ac ad=>?_
      replace a3:=a3.of_drew
      have ae:AH w b1:=a3.below a1 (fun c hc=>A8 (A7 _) (ac c hc).1) a1.size
      have ao:w3.heap.size≤b1.heap.size:=a3.size
      exact Aj<|Ab _ [0,0,0] Z<|Ad 1 Z<|AQ ((j+1:Nat):Int) Z Z (Bi oM sD) Aa<|Ac 1 Z ⟨j+1,_,rfl,zR,⟨ae,(by have h:=ad.up o1;(try rw[show(k).toNat=0 from by omega]at h);first|(rw[RJ oM];exact h)|(rw[RK oM];exact h)),oM⟩,zD⟩
    refine Al false Z Z (A6 am) Aa<|Aj<|Ai Z<|A2<|Ab _ [0,0,0] Z<|Ad 1 Z<|AQ ((j+1:Nat):Int) Z Z (Bi oM sD) Aa<|Ac 1 Z ?_
    exact⟨j+1,_,rfl,zR,⟨a1,(by have h:=a0.up o1;(try rw[show(k).toNat=0 from by omega]at h);first|(rw[RJ oM];exact h)|(rw[RK oM];exact h)),oM⟩,zD⟩
  exact AI false Z Z (A6 al) Aa<|Aj<|Ai Z<|A4<|AA<|AA<|Av<|gK [0,0] Z<|Ac 2 Z<|A1<|Ah [6] Z v2 Z ⟨v2,rfl,a1,(by have h:=a0.up o1;rwa [show j=T.code.length from by omega]at h)⟩
theorem JV (w:World)(vt:Value)(ipT:Int)(T:Tp)(oT:Sr)(va:Value)(a:Sr)(vw:Value)(ws:Sr)(vd:Value)(d:Sr)(K:Nat)(hT:RN [] (rP Vo) w.heap vt ⟨ipT,T,oT⟩)(ha:Rd (B4 rI) w.heap va a)(hws:Rd (B4 rI) w.heap vw ws)(hd:Rd (B4 rI) w.heap vd d)(_hK:K≤1000000000000)(hip:ipT=(a.length:Int))(hR:PB a T oT)(hw:ws.length=oT.length∧AX ws=true)(hKe:K=1)(hda:d=a)(hI:DH K (Cw a) T) :
    Calls Tryz.prog 139 #[vt,va,vw,vd,zI (K:Int)] w (fun e w'=>∃v0:Value,e=.returned (.tuple #[v0,zI 0])∧AH w w'∧RN [] (B4 (B4 rI)) w'.heap v0 (HF T.code (Be K (Cw a) T.code) oT ws)∧C3 v0):=by
  refine Aq [vt,va,vw,vd,zI (K:Int)] 43 Tryz.func139 Z Z sM ?_
  have a1:AH w w:=AH.refl w
  have ak:=ha.lenle
  have al:=hws.lenle
  have am:=hd.lenle
  have hK:=hR.k
  have hni:=hK.nb
  have hcl:=hK.cl
  have an:=hK.gl
  have hol:=hK.ol
  have hpos:=hK.pos
  have hna:=hR.n
  refine gK [0,0] Z<|Ac 2 Z<|A0<|gK [0,0,0,0,3,0] Z<|Ad 4 Z<|Ap 182 [] [] [vt,va,vw,vd] Z Z cU Aa (KI _ vt ipT T oT _ _ _ _ _ _ (hT.ext (AS DK) a1) (ha.ext g1 a1) (hws.ext g1 a1) (hd.ext g1 a1) oM hR hw (by rw[hda];exact⟨rfl,hna⟩)) ?_
  rintro e1 w1 ⟨rfl,a4⟩
  refine⟨_,rfl,a4,?_⟩
  have ad:=a4.size
  have a5:=a1.trans a4
  refine Ac 1 Z<|gK [0,0] Z<|Ad 1 Z ?_
  have ae:¬(0≠((0:Nat):Int)):=(fun h9=>h9 Z)
  refine B2 false Z Z (A6 ae) Aa<|Aj<|Ai Z<|A2<|gK [0,0,0,0,0,3,0,3,0,0,0,0,0] Z<|Ad 4 Z<|Bk ((K:Int)-1) Z Z (CM oM oM) Aa<|Ap 184 [] [] [va,vd,zI ((K:Int)-1)] Z Z cW Aa (N9 _ _ _ _ _ _ (ha.ext g1 a5) (hd.ext g1 a5) oM oM oM) ?_
  rintro e3 w3 ⟨a2,rfl,a6,a0⟩
  refine⟨_,rfl,a6,?_⟩
  have af:=a6.size
  have ab:=a5.trans a6
  refine Ad 1 Z<|Ap 183 [] [] [vt,a2,zI (K:Int)] Z Z cV Aa (Le _ vt ipT T oT a2 (Cw a) K (hT.ext (AS DK) ab) (RN.of_fr2 a0 fun b hb=>absurd hb z2) a0.cap oM oM (by rw[hKe];exact CF hna) (by intro k hk;rw[Es];exact hR.k.form k hk) oM hI.nz) ?_
  rintro e4 w4 ⟨v4,rfl,a7,ac,a8⟩
  refine⟨_,rfl,a7,?_⟩
  have ag:=a7.size
  have a9:=ab.trans a7
  refine Ad 1 Z<|AP (vs:=[v4,.bool true]) v4 Z Z Aa<|AP (vs:=[v4,.bool true]) (.bool true) Z Z Aa<|Ac 2 Z<|A0<|gK [0,0] Z<|Ad 1 Z<|Bo false Z Z Aa<|Aj<|Ai Z<|A2<|gK [0,0,0,0,3,0,0] Z<|Ad 4 Z<|Ap 185 [] [] [vt,v4,vw,zI (K:Int)] Z Z cX Aa (LF _ a.length [] vt ipT T oT v4 (Be K (Cw a) T.code) vw (ws) K (fun b hb=>absurd hb z2) (hT.ext (AS DK) a9) ac a8 (hws.ext g1 a9) oM oM hI.regs (by rw[BS]) oM oM hR.k.out hw.2 hR.k.form) ?_
  rintro e5 w5 ⟨v5,rfl,a3,ah,aa⟩
  refine⟨_,rfl,a3,?_⟩
  have ai:=a3.size
  have aj:=a9.trans a3
  exact Ac 2 Z<|A1<|Ah [10,11] Z (.tuple #[v5,zI ((0:Nat):Int)]) Z ⟨_,rfl,aj,ah,aa⟩
theorem Na (w:World)(dp:Nat)(vp:Value)(p:List Fn)(f:Int)(va:Value)(a:Sr)(vw:Value)(ws:Sr)(hp:RN [] (rP (Jj dp)) w.heap vp p)(_hf:Bn f)(ha:Rd (B4 rI) w.heap va a)(hws:Rd (B4 rI) w.heap vw ws)(hvp:FQ p)(hf:0≤f∧f<(p.length:Int))(hl:(a.length:Int)=(p.getD f.toNat Fn.zero).params)(hna:AX a=true)(hc:GL p f.toNat a=0)(hw:ws.length=(p.getD f.toNat Fn.zero).outs.length∧AX ws=true) :
    Calls Tryz.prog 84 #[vp,zI f,va,vw] w (fun e w'=>∃v0:Value,e=.returned (v0)∧AH w w'∧Fr (Bp rI 2) w.heap.size w'.heap.size w'.heap v0 (SG p f.toNat a ws)):=by
  refine Aq [vp,zI f,va,vw] 25 Tryz.func84 Z Z sM ?_
  have aj:AH w w:=AH.refl w
  have bd:=ha.lenle
  have be:=hws.lenle
  have bf:=hvp.par f.toNat oM
  have bg:=hvp.outs f.toNat oM
  obtain⟨b6,T0,s0,a3,hRc,hTR,an⟩:=Xj hvp (f:=f.toNat) oM hl hna hc
  have hen:=hRc.en.1
  have hcl:=hTR.k.cl
  have hni:=hTR.k.nb
  have hsA:=an.adj hTR.e (ws:=ws)
  refine gL Z<|gK [0,0,0,3,3,4] Z<|Ad 3 Z<|Ap 138 [] [] [vp,zI f,va] Z Z cH Aa (Ld _ dp vp p f va a (hp.ext (AS<|AN dp) aj) _hf (RN.of<|ha.ext g1 aj) b6 T0 s0 hvp oM oM sD a3) ?_
  rintro e1 w1 ⟨b8,b9,bc,rfl,ak,aw,ax,ay⟩
  refine⟨_,rfl,ak,?_⟩
  have az:=ak.size
  have b0:=aj.trans ak
  have a7:RN [] (D5 4 KU) w1.heap b8 T0.code:=aw.imp fun F h=>⟨h.1,fun b _ h9=>by cases h9⟩
  have a8:RN [] (D5 2 KV) w1.heap b9 T0.grd:=ax.imp fun F h=>⟨h.1,fun b _ h9=>by cases h9⟩
  have a9:RN [] (B4 rI) w1.heap bc b6:=ay.imp fun F h=>⟨h.1,fun b _ h9=>by cases h9⟩
  refine Bs (z:=.agg #[zI 0,zN,zN,zN]) Xs Aa fun w2 a2 ba al=>?_
  have b1:=a2.size
  have ao:=b0.trans a2
  have b2:=a7.ext (Am AY) a2
  have b3:=a8.ext (Am Bb) a2
  have b4:=a9.ext g1 a2
  replace al:BX w2.heap w1.heap.size [zI 0,zN,zN,zN]:=al
  refine BE (vs:=[zI (a.length:Int),b8,b9,bc]) EE Z Z (by intro u hu;simp only[ze,z2,or_false]at hu;rcases hu with rfl|rfl|rfl|rfl <;> first|exact⟨rfl,rfl⟩|exact Bg b2.isSl|exact Bg b3.isSl|exact Bg b4.slL) al Z Z Aa fun w6 aa bb ah=>?_
  replace ah:BX w6.heap w1.heap.size [zI (a.length:Int),b8,b9,bc]:=ah
  have ai:AH w w6:=aa.below ao (fun _ h=>zE h) ao.size
  have b5:w2.heap.size≤w6.heap.size:=aa.size
  have ap:=a7.ext (Am AY)<|aa.below a2 (fun _ h=>zE h) a2.size
  have aq:=a8.ext (Am Bb)<|aa.below a2 (fun _ h=>zE h) a2.size
  have ar:=a9.ext g1<|aa.below a2 (fun _ h=>zE h) a2.size
  refine Aj<|gK [0,0,0,3,0,0,0,0,0] Z<|Ad 3 Z<|Ap 139 [] [] [zP w1.heap.size,va,vw,va,zI ((1:Nat):Int)] Z Z cI Aa (JV _ (zP w1.heap.size) (a.length:Int) T0 b6 va (a) vw (ws) va (a) 1 (RN.box (S:=[]) ah (RTp.mk' (by unfold Bn;omega) ap aq ar) fun h9=>by cases h9) (ha.ext g1 ai) (hws.ext g1 ai) (ha.ext g1 ai) oM (by rfl) hTR (by exact⟨zO,hw.2⟩) (by rfl) (by rfl) an) ?_
  rintro bh bi ⟨b7,rfl,a0,ab,ac⟩
  refine⟨_,rfl,a0,?_⟩
  have au:=a0.size
  have ad:=ai.trans a0
  have a5:=ah.ext a0
  have ae:=ap.ext (Am AY) a0
  have af:=aq.ext (Am Bb) a0
  have ag:=ar.ext g1 a0
  refine Ad 1 Z<|AP (vs:=[b7,zI 0]) b7 Z Z Aa<|AP (vs:=[b7,zI 0]) (zI 0) Z Z Aa<|Ac 2 Z<|gK [0,3,0] Z<|Ad 1 Z<|Ap 140 [] [] [zP w1.heap.size,b7,zI ((0:Nat):Int)] Z Z cJ Aa (Li _ (zP w1.heap.size) (a.length:Int) T0 b6 b7 (HF T0.code (Be 1 (Cw a) T0.code) b6 ws) _ (RN.box (S:=[]) a5 (RTp.mk' (by unfold Bn;omega) ae af ag) fun h9=>by cases h9) ab ac oM (by rfl) oM (by rw[Pv,BS]) (by intro k hk;have h9:=hsA k hk;exact⟨by have:=h9.1;omega,h9.2⟩) oM (by rw[Int.toNat_natCast];exact hTR.k.form)) ?_
  rintro bj bk ⟨a4,rfl,a1,a6⟩
  refine⟨_,rfl,a1,?_⟩
  have av:=a1.size
  have am:=ad.trans a1
  exact Ac 1 Z<|A1<|Ah [8] Z a4 Z ⟨a4,rfl,am,(by have h:=(a6.up o1).low ad.size;rw[Int.toNat_natCast]at h;rw[Zz (Xk a3) hTR.k.form];exact h)⟩
theorem II {p:Prop}(h:p:=by first|exact B5 (fu (Db (by assumption)))|exact B5 (fv (Dp (by assumption)) (Db (by assumption)))|exact B5 (UC Z Z (Dp (by assumption)) (Dp (by assumption)) (.inl (Db (by assumption))))|exact B5 (fw hok hrn hin oM (Dp ‹(!AX a)=false›) oM (Dp ‹(!AX b)=false›))|exact B5 (UC Z Z hok hrn (.inr (by rw[A6 (show ¬(((a.length:Nat):Int)=(p.getD f.toNat Fn.zero).params) by omega),Bool.false_and,Bool.false_and])))|exact B5 (UC Z Z hok hrn (.inr (by rw[show AX a=false from Db (by assumption),Bool.and_false,Bool.false_and])))|exact B5 (UC Z Z hok hrn (.inr (by rw[A6 (show ¬(((b.length:Nat):Int)=(p.getD f.toNat Fn.zero).params) by omega),Bool.false_and,Bool.and_false])))|exact B5 (UC Z Z hok hrn (.inr (by rw[show AX b=false from Db (by assumption),Bool.and_false,Bool.and_false])))):p:=h
theorem KJ (w:World)(dp:Nat)(vp:Value)(p:List Fn)(f:Int)(va:Value)(a:Sr)(vb:Value)(b:Sr)(n:Int)(hp:RN [] (rP (Jj dp)) w.heap vp p)(_hf:Bn f)(ha:Rd (B4 rI) w.heap va a)(hb:Rd (B4 rI) w.heap vb b)(_hn:Bn n)(hz:PO p) :
    Calls Tryz.prog 81 #[vp,zI f,va,vb,zI n] w (fun e w'=>e=.returned (zI (G4 p f a b n))∧AH w w'):=by
  refine Aq [vp,zI f,va,vb,zI n] 52 Tryz.func81 Z Z sM ?_
  have ae:AH w w:=AH.refl w
  have aw:=ha.lenle
  have ax:=hb.lenle
  refine gL Z<|A0<|gK [0,3,0] Z<|Ad 1 Z<|Ap 91 [] [] [vp] Z Z fS Aa (OF _ dp vp (p) (hp.ext (AS<|AN dp) ae) hz) ?_
  rintro e1 w1 ⟨rfl,a8⟩
  refine⟨_,rfl,a8,?_⟩
  have am:=a8.size
  have a9:=ae.trans a8
  refine Bo (!(GJ p)) Z Z Aa<|Aj ?_
  cases af:(!(GJ p))
  ·
    refine Ai (by first|rfl|exact zW af)<|A2<|A0<|gK [0,0,3,0,0,0,0,0,0] Z<|Ad 2 Z<|Ap 137 [] [] [vp,zI f] Z Z cG Aa (Lz _ dp vp (p) _ (hp.ext (AS<|AN dp) a9) _hf hz) ?_
    rintro e3 w3 ⟨rfl,aa⟩
    refine⟨_,rfl,aa,?_⟩
    have an:=aa.size
    have a0:=a9.trans aa
    refine Bo (!(NN p f)) Z Z Aa<|Ad 1 Z ?_
    cases au:(!(NN p f))
    ·
      refine Ad 1 Z<|AB 94 [] [] [zI n,zI ((0:Nat):Int),zI ((40:Nat):Int)] Z Z ED (Ae (e:=19) Z Z Z) (.bool (decide (((0:Nat):Int)≤n) && decide (n≤((40:Nat):Int)))) (fun wq=>B9 wq _ _ _ _hn oM oM)<|Bo (!(decide (((0:Nat):Int)≤n) && decide (n≤((40:Nat):Int)))) Z Z (Ae (e:=19) Z Z Z)<|Ac 1 Z ?_
      cases ag:(!(decide (((0:Nat):Int)≤n) && decide (n≤((40:Nat):Int))))
      ·
        refine Ai (by first|rfl|exact zW ag)<|A2<|gK [0,0,0,2,0,0,0,2,0] Z ?_
        have hok:=(Dp (by assumption):GJ p=true)
        have hrn:=(Dp (by assumption):NN p f=true)
        have hin:=(Dp (by assumption):(decide (((0:Nat):Int)≤n) && decide (n≤((40:Nat):Int)))=true)
        have hrr:=IP.1 hrn
        refine Ad 1 Z<|AF (hp.isPtr) Z Aa ?_
        obtain⟨cs7,ao,ah⟩:=RN.at (AN _) hp
        obtain⟨a7,rfl,ab⟩:=RPr.of ao
        have ac:=ab.lenle
        unfold maxLen at ac
        refine AE (p:=vp) 0 BB Z (ah _<|At.of_ext [] a0) Aa<|Af (p:=An vp 0) (.inr Z) a7 C4 Z ((ah _<|At.of_ext [] a0).ld (i:=0) (by simp[DR,DV])) Aa<|Ad 1 Z<|Aw (v:=a7) ((f).toNat) Gx Co Z Z ab.isSl oM sD Aa ?_
        obtain⟨cs8,ap,ai⟩:=ab.get (Az dp) Fn.zero (k:=(f).toNat) sD
        obtain⟨av,rfl,aq⟩:=RF.of ap
        have ad:=aq.rn.lenle
        unfold maxLen at ad
        refine AE (p:=Ay a7 ((f).toNat) 3) 1 C9 Z (ai _<|At.of_ext [] a0) Aa<|Af (p:=An (Ay a7 ((f).toNat) 3) 1) (.inr Z) (zI<|(p.getD ((f).toNat) Fn.zero).params) AC Z ((ai _<|At.of_ext [] a0).ld (i:=1) (by simp[DR,DV])) Aa<|Ac 1 Z<|A0<|gK [0,0,0,0,0,0,3,0,0,0,0,0,0,0,0,0,0,3,0,0] Z<|Ad 1 Z<|AR (v:=va) Bt Z ha.isSl Aa<|Ad 1 Z ?_
        by_cases aj:(a.length:Int)≠(p.getD ((f).toNat) Fn.zero).params
        ·
          refine B2 true Z Z (A5 aj) Aa<|Ac 16 Z<|Ag Z<|gL Z<|A1<|Ao ?_
          exact Ah [10] Z (zI ((2:Nat):Int)) Z ⟨II,a0⟩
        refine B2 false Z Z (A6 aj) Aa<|Ad 2 Z<|Ap 113 [] [] [va] Z Z PE (Ae (e:=36) Z Z Z) (CV _ _ _<|ha.ext g1 a0) ?_
        rintro ay az ⟨rfl,a2⟩
        refine⟨_,rfl,a2,?_⟩
        have ak:=a2.size
        have a1:=a0.trans a2
        refine Bo (!(AX a)) Z Z (Ae (e:=36) Z Z Z)<|Ad 2 Z ?_
        cases ar:(!(AX a))
        ·
          refine Ad 1 Z<|AR (v:=vb) Bt Z hb.isSl (Ae (e:=41) Z Z Z)<|Ad 1 Z ?_
          by_cases a4:(b.length:Int)≠(p.getD ((f).toNat) Fn.zero).params
          ·
            refine B2 true Z Z (A5 a4) (Ae (e:=41) Z Z Z)<|Ac 6 Z<|Ag Z<|gL Z<|A1<|Ao ?_
            exact Ah [10] Z (zI ((2:Nat):Int)) Z ⟨II,a1⟩
          refine B2 false Z Z (A6 a4) (Ae (e:=41) Z Z Z)<|Ad 3 Z<|Ap 113 [] [] [vb] Z Z PE (Ae (e:=47) Z Z Z) (CV _ _ _<|hb.ext g1 a1) ?_
          rintro b0 b1 ⟨rfl,a3⟩
          refine⟨_,rfl,a3,?_⟩
          have al:=a3.size
          have a5:=a1.trans a3
          refine Bo (!(AX b)) Z Z (Ae (e:=47) Z Z Z)<|Ac 1 Z ?_
          cases a6:(!(AX b))
          ·
            refine Ai (by first|rfl|exact zW a6)<|A2<|gL Z<|A1 ?_
            exact Ah [10] Z (zI ((0:Nat):Int)) Z ⟨II,a5⟩
          refine Ag (by first|rfl|exact zW a6)<|gL Z<|A1<|Ao ?_
          exact Ah [10] Z (zI ((2:Nat):Int)) Z ⟨II,a5⟩
        refine Ac 10 Z<|Ag Z<|gL Z<|A1<|Ao ?_
        exact Ah [10] Z (zI ((2:Nat):Int)) Z ⟨II,a1⟩
      refine Ag (by first|rfl|exact zW ag)<|gL Z<|A1<|Ao ?_
      exact Ah [10] Z (zI ((2:Nat):Int)) Z ⟨II,a0⟩
    refine Ac 4 Z<|Ag Z<|gL Z<|A1<|Ao ?_
    exact Ah [10] Z (zI ((2:Nat):Int)) Z ⟨II,a0⟩
  refine Ag (by first|rfl|exact zW af)<|gL Z<|A1<|Ao ?_
  exact Ah [10] Z (zI ((1:Nat):Int)) Z ⟨II,a9⟩
theorem Vk {p:Prop}(h:p:=by first|(rw[hgc];omega)|(rw[EC hg0];exact ‹Qh p f.toNat a n.toNat›.code)|(rw[Ed oM];omega)):p:=h
theorem Vl {p:Prop}(h:p:=by first|(rw[hgc];done)|(rw[hgc];rfl)|(rw[EC hg0];done)|(rw[Ed oM];done)):p:=h
theorem IJ (w:World)(dp:Nat)(vp:Value)(p:List Fn)(f:Int)(va:Value)(a:Sr)(vw:Value)(ws:Sr)(n:Int)(hp:RP [] dp w.heap vp p)(_hf:Bn f)(ha:Rd (B4 rI) w.heap va a)(hws:Rd (B4 rI) w.heap vw ws)(_hn:Bn n)(hz:PO p) :
    Calls Tryz.prog 25 #[(.agg #[vp]),zI f,va,vw,zI n] w (fun e w'=>∃v0:Value,e=.returned (.tuple #[v0,zI (GA p f a ws n)])∧AH w w'∧Fr (Bp rI 2) w.heap.size w'.heap.size w'.heap v0 (Su p f a ws n)∧(0≤GA p f a ws n∧GA p f a ws n≤9)):=by
  refine Aq [.agg #[vp],zI f,va,vw,zI n] 53 Tryz.func25 Z Z sM ?_
  have b4:AH w w:=AH.refl w
  have au:=hp.lenle
  unfold maxLen at au
  have bs:=ha.lenle
  have bt:=hws.lenle
  refine gK [3,0,0] Z (By (cs:=#[vp]) Z Aa fun w1 av bh ar=>?_)
  have aw:=av.size
  have ai:=b4.trans av
  replace ar:BX w1.heap w.heap.size [vp]:=ar
  refine Ac 2 Z<|A0<|gK [0,0,0,0,3,0] Z<|Ad 4 Z<|Ap 81 [] [] [zP w.heap.size,zI f,va,vw,zI n] Z Z fN Aa (KJ _ dp (zP w.heap.size) (p) _ _ _ _ _ _ (RN.box ar (RP.mk'<|hp.ext (Am<|Az dp) ai) sM) _hf (ha.ext g1 ai) (hws.ext g1 ai) _hn hz) ?_
  rintro e2 w2 ⟨rfl,aj⟩
  refine⟨_,rfl,aj,?_⟩
  have bi:=aj.size
  have ac:=ai.trans aj
  have a9:=ar.ext aj
  refine Ac 1 Z<|gK [0,0] Z ?_
  have hdr:=Kz (p:=p) (f:=f) (a:=a) (ws:=ws) (n:=n)
  refine Ad 1 Z ?_
  by_cases b5:G4 p f a ws n≠((0:Nat):Int)
  ·
    refine B2 true Z Z (A5 b5) Aa<|Aj<|Ag Z<|gK [3,0,0,0] Z (Cn (rI) AJ Bt BG Aa fun v4 w4 b6 bq ax=>?_)
    have bj:=b6.size
    have bk:=ac.trans b6
    exact Ac 3 Z<|A1<|Ao<|Ah [10,11] Z (.tuple #[v4,zI<|G4 p f a ws n]) Z ⟨v4,Vl,bk,(by first|(have h:=(ax.up o1).low ac.size;rw[Jr hgc,hLg,show(i+1).toNat=0 from by omega];exact h)|(rw[Ee (by rw[EC hg0];omega)];exact(ax.up o1).low ac.size)|(rw[Ee (by rw[Ed oM];omega)];exact(ax.up o1).low ac.size)),Vk⟩
  refine B2 false Z Z (A6 b5) Aa<|Aj<|Ai Z<|A2<|gK [0,0,0,3,0,0,0,0,0] Z ?_
  have hg0:G4 p f a ws n=0:=by omega
  have bl:=Ql hg0
  have ag:=Uu bl.1
  have hvp:=FZ ag.1
  refine Ad 3 Z<|Ap 82 [] [] [zP w.heap.size,zI f,va,zI n] Z Z fO Aa (L7 _ dp (zP w.heap.size) (p) _ _ _ _ (RN.box a9 (RP.mk'<|hp.ext (Am<|Az dp) ac) sM) _hf (ha.ext g1 ac) _hn hvp oM oM ag.2.2.2.1.2 oM oM) ?_
  rintro e5 w5 ⟨a1,rfl,ak,aa,b7⟩
  refine⟨_,rfl,ak,?_⟩
  have bm:=ak.size
  have a7:=ac.trans ak
  have al:=a9.ext ak
  refine Ad 1 Z<|AP (vs:=[a1,zI<|EP p f.toNat a n.toNat]) a1 Z Z Aa<|AP (vs:=[a1,zI<|EP p f.toNat a n.toNat]) (zI<|EP p f.toNat a n.toNat) Z Z Aa<|Ac 2 Z<|A0<|gK [0,0] Z<|Ad 1 Z ?_
  by_cases b8:EP p f.toNat a n.toNat≠((0:Nat):Int)
  ·
    refine B2 true Z Z (A5 b8) Aa<|Aj<|Ag Z<|gK [3,0,0,0] Z (Cn (rI) AJ Bt BG Aa fun v7 w7 b9 br ay=>?_)
    have bn:=b9.size
    have bo:=a7.trans b9
    exact Ac 3 Z<|A1<|Ao<|Ah [10,11] Z (.tuple #[v7,zI<|EP p f.toNat a n.toNat]) Z ⟨v7,Vl,bo,(by first|(have h:=(ay.up o1).low a7.size;rw[Jr hgc,hLg,show(i+1).toNat=0 from by omega];exact h)|(rw[Ee (by rw[EC hg0];omega)];exact(ay.up o1).low a7.size)|(rw[Ee (by rw[Ed oM];omega)];exact(ay.up o1).low a7.size)),Vk⟩
  refine B2 false Z Z (A6 b8) Aa<|Aj<|Ai Z<|A2<|gK [0,3,0] Z ?_
  have hpar:=hvp.par f.toNat oM
  have hrk:EP p f.toNat a n.toNat=0:=by omega
  have hCh:Py p f.toNat a n.toNat:=⟨hvp,zO,ag.2.2.1.2,ag.2.2.2.1.1,ag.2.2.2.1.2,hrk⟩
  have hgc:GA p f a ws n=0:=by rw[EC hg0];exact hrk
  have az:Fr (Bp (Bp rI 2) 27) w2.heap.size w5.heap.size w5.heap a1 (CD (n.toNat+1) (Cr p f.toNat a)):=by have h:=aa;rwa [Lq hrk]at h
  have htl:(CD (n.toNat+1) (Cr p f.toNat a)).length=n.toNat+1:=by simp[CD]
  refine Ad 1 Z<|Ap 83 [] [] [vw] Z Z MH Aa (BY _ _ _ (hws.ext g1 a7) oM) ?_
  rintro e9 w9 ⟨b0,rfl,ah,ab⟩
  refine⟨_,rfl,ah,?_⟩
  have b1:=ah.size
  have ba:=a7.trans ah
  have am:=al.ext ah
  have ad:=az.ext (o2) ah
  refine Ac 1 Z<|A0<|gK [0,0,0] Z<|Ad 1 Z<|Bk (n-1) Z Z (CM oM oM) Aa<|Ac 1 Z<|A3 ?_
  refine AU (S:=Int×Value×Sr) (fun⟨i,vo,L⟩=>([(15,vo),(16,zI i),(1,zI f),(5,zP w.heap.size),(13,a1)])) (fun⟨i,vo,L⟩ W=>AH w W∧Fr (Bp rI 2) w5.heap.size W.heap.size W.heap vo L∧Fr (Bp (Bp rI 2) 27) w2.heap.size w5.heap.size W.heap a1 (CD (n.toNat+1)<|Cr p f.toNat a)∧BX W.heap w.heap.size [vp]∧(-1≤i∧i<n)∧((L.length:Int)=(p.getD f.toNat Fn.zero).params)∧AX L=true∧NY p f.toNat a n.toNat ws=NY p f.toNat a (i+1).toNat L∧w.heap.size<w5.heap.size∧w5.heap.size≤W.heap.size) (fun⟨i,vo,L⟩=>(i+1).toNat) (n-1,b0,ws) ⟨rfl,rfl,rfl,rfl,rfl,trivial⟩ ⟨ba,ab.up o1,ad,am,oM,oM,ag.2.2.2.2.2,(by rw[show(n-1+1).toNat=n.toNat from by omega]),oM,oM⟩ ?_
  clear b4 bh av aw ai aj aa ak ab ah b1 ba
  rintro⟨i,vo,L⟩ ρ11 bu ⟨a8,a0,a2,a3,b2,hLl,hLn,hLg,bb,bc⟩
  have bd:w.heap.size≤bu.heap.size:=a8.size
  have bp:=a3.lt
  refine A0<|gK [0,0] Z<|Ad 1 Z ?_
  by_cases an:((0:Nat):Int)≤i
  ·
    refine De true Z Z (A5 an) Aa<|Aj<|Ag Z<|A2<|A0<|A3<|Ab _ [0,0,0,0,2,0,3,0] Z ?_
    have hti:=C8 (f:=Cr p f.toNat a) (n:=n.toNat+1) (k:=i.toNat) [] oM
    have his:=(hCh.low (k:=i.toNat) oM).st
    have hin:=hCh.nx (k:=i.toNat) oM
    refine Ad 3 Z<|Aw (v:=a1) ((i).toNat) Bx AT Z Z a2.isSl oM sD Aa ?_
    obtain⟨ao,ap,ae⟩:=a2.rd2.get (k:=(i).toNat) [] sD
    have be:=ae.lenle
    refine Af (p:=Ay a1 ((i).toNat) 1) (.inr Z) ao B6 Z ap Aa<|Ad 1 Z<|Ap 84 [] [] [zP w.heap.size,zI f,ao,vo] Z Z fP Aa (Na _ dp (zP w.heap.size) (p) _ _ _ _ _ (RN.box a3 (RP.mk'<|hp.ext (Am<|Az dp) a8) sM) _hf ae a0.rd1 hvp oM (by rw[hti];omega) (by rw[hti];exact his.2) (by rw[hti];exact hin) (by exact⟨zO,hLn⟩)) ?_
    rintro bv bw ⟨aq,rfl,a4,af⟩
    refine⟨_,rfl,a4,?_⟩
    have bf:=a4.size
    have b3:=a8.trans a4
    have a5:=a2.ext (o2) a4
    have a6:=a3.ext a4
    have bg:=Bd a4 ap
    exact Ac 1 Z<|Ab _ [0,0,0] Z<|Ad 1 Z<|Bk (i-1) Z Z (CM oM oM) Aa<|Ac 1 Z ⟨(i-1,aq,SG p f.toNat ((CD (n.toNat+1)<|Cr p f.toNat a).getD ((i).toNat) []) L),_,rfl,zR,⟨b3,(af.up o1).low oM,a5,a6,oM,(by rw[Ky,hti];omega),(by rw[hti];exact(hCh.rc (k:=i.toNat) oM).elim fun _ h=>h.elim fun _ h=>h.bkR_num),(by rw[show(i-1+1).toNat=i.toNat from by omega,hLg,show(i+1).toNat=i.toNat+1 from by omega,hti];rfl),oM,oM⟩,zD⟩
  exact De false Z Z (A6 an) Aa<|Aj<|Ai Z<|A4<|AA<|AA<|Av<|gK [0,0,0] Z<|Ac 3 Z<|A1<|Ah [10,11] Z (.tuple #[vo,zI ((0:Nat):Int)]) Z ⟨vo,Vl,a8,(by first|(have h:=(a0.up o1).low a7.size;rw[Jr hgc,hLg,show(i+1).toNat=0 from by omega];exact h)|(rw[Ee (by rw[EC hg0];omega)];exact(a0.up o1).low a7.size)|(rw[Ee (by rw[Ed oM];omega)];exact(a0.up o1).low a7.size)),Vk⟩
theorem KK (w:World)(va:Value)(a:Sr)(vb:Value)(b:Sr)(ha:Rd (B4 rI) w.heap va a)(hb:Rd (B4 rI) w.heap vb b)(hl:b.length=a.length) :
    Calls Tryz.prog 30 #[va,vb] w (fun e w'=>e=.returned (zI (Jp a b a.length))∧AH w w'):=by
  refine Aq [va,vb] 31 Tryz.func30 Z Z sM ?_
  have a1:AH w w:=AH.refl w
  have a6:=ha.lenle
  have a7:=hb.lenle
  refine gL Z<|gL Z<|A0<|gL Z<|A3 ?_
  refine AU (S:=Nat×Int) (fun⟨k,s⟩=>([(5,zI s),(6,zI (k:Int)),(0,va),(1,vb)])) (fun⟨k,s⟩ W=>AH w W∧k≤a.length∧s=Jp a b k∧(0≤s∧s<1000003)) (fun⟨k,s⟩=>a.length-k) (0,((0:Nat):Int)) ⟨rfl,rfl,rfl,rfl,trivial⟩ ⟨a1,sD,(by rfl),oM⟩ ?_
  clear a1
  rintro⟨k,s⟩ ρ1 w1 ⟨a0,a2,hs,hsr⟩
  have a4:w.heap.size≤w1.heap.size:=a0.size
  refine A0<|gK [0,0,0,0,0,0,0,0,0,0] Z<|Ad 2 Z<|AR (v:=va) Bt Z ha.isSl Aa ?_
  by_cases a3:(k:Int)<(a.length:Int)
  ·
    refine AI true Z Z (A5 a3) Aa<|Ad 3 Z<|AR (v:=vb) Bt Z hb.isSl (Ae (e:=11) Z Z Z) ?_
    have a5:(k:Int)<(b.length:Int):=oM
    refine AI true Z Z (A5 a5) (Ae (e:=11) Z Z Z)<|Ac 1 Z<|Ag Z<|A2<|A0<|A3<|AM _ [0,0,0,0,1,0,0,0,1,0,0,0] mixed (by kernel_rfl)<|Ad 3 Z<|Aw (v:=va) k Bt BG Z Z ha.isSl Z sD Aa ?_
    refine Af (p:=Ay va k 1) (.inl Z) (zI<|a.getD k 0) AC Z (Bd a0.drew (ha.getI sD).1) Aa<|Ad 2 Z ?_
    refine Aw (v:=vb) k Bt BG Z Z hb.isSl Z sD Aa ?_
    refine Af (p:=Ay vb k 1) (.inl Z) (zI<|b.getD k 0) AC Z (Bd a0.drew (hb.getI sD).1) Aa ?_
    refine AB 63 [] [] [zI<|a.getD k 0,zI<|b.getD k 0] Z Z Nj Aa (zI<|md ((a.getD k 0)*(b.getD k 0))) (fun wq=>Cm wq _ _ (ha.getI sD).2 (hb.getI sD).2) ?_
    refine AB 64 [] [] [zI s,zI<|md ((a.getD k 0)*(b.getD k 0))] Z Z UD Aa (zI<|md (s+(md ((a.getD k 0)*(b.getD k 0))))) (fun wq=>FE wq _ _ oM<|Eo _)<|Ac 1 Z<|Ab _ [0,0,0] Z<|Ad 1 Z<|AQ ((k+1:Nat):Int) Z Z (Bi oM sD) Aa<|Ac 1 Z ?_
    exact⟨(k+1,md (s+(md ((a.getD k 0)*(b.getD k 0))))),_,rfl,zR,⟨a0.drew,sD,(by rw[hs,Sq]),(by exact Ck _)⟩,zD⟩
  exact AI false Z Z (A6 a3) Aa<|Ac 6 Z<|Ai Z<|A4<|AA<|AA<|Av<|gK [0,0] Z<|Ac 2 Z<|A1<|Ah [4] Z (zI s) Z ⟨(by rw[hs,show k=a.length from by omega]),a0⟩
theorem XF {p:Prop}(h:p:=by first|rfl|exact AO (A5 hfin)):p:=h
theorem JW (w:World)(vc:Value)(cs:List UInt8)(vd:Value)(ds:List UInt8)(hcs:Rd (B4 rU) w.heap vc cs)(hds:Rd (B4 rU) w.heap vd ds)  :
    Calls Tryz.prog 4 #[vc,vd] w (fun e w'=>e=.returned (.bool true)∧AH w w'):=by
  refine Aq [vc,vd] 125 Tryz.func4 Z Z sM ?_
  have d4:AH w w:=AH.refl w
  have fr:=hcs.lenle
  have fs:=hds.lenle
  refine gL Z<|A0<|gK [0,3,0,0,3,0] Z<|Ad 1 Z<|Ap 21 [] [] [vc] Z Z bM Aa (KH _ _ _<|hcs.ext Dg d4) ?_
  rintro e1 w1 ⟨rfl,cx⟩
  refine⟨_,rfl,cx,?_⟩
  have d5:=cx.size
  have cy:=d4.trans cx
  refine Ad 1 Z ?_
  cases e0:(decide (((4096:Nat):Int)<(cs.length:Int)))
  ·
    have el:=of_decide_eq_false e0
    refine Ad 1 Z<|Ap 21 [] [] [vd] Z Z bM (Ae (e:=24) Z Z Z) (KH _ _ _<|hds.ext Dg cy) ?_
    rintro e4 w4 ⟨rfl,cz⟩
    refine⟨_,rfl,cz,?_⟩
    have em:=cz.size
    have d6:=cy.trans cz
    refine Ac 1 Z ?_
    cases d0:(decide (((4096:Nat):Int)<(ds.length:Int)))
    ·
      have en:=of_decide_eq_false d0
      refine Ai (by first|rfl|exact zW d0)<|A2<|gK [0,3,0,0,0,0,0,3,4,0,0,0] Z<|Ad 1 Z<|Ap 22 [] [] [vc] Z Z fA Aa (LA _ vc _<|hcs.ext Dg d6) ?_
      rintro e7 w7 ⟨vD,vaD,vbD,pD,fD,aD,bD,rfl,d1,hOD,haD,hbD,hRD⟩
      refine⟨_,rfl,d1,?_⟩
      have eo:=d1.size
      have ep:=d6.trans d1
      have hfe:=hRD.fe
      have hlc:=hRD.len
      have hpa:=hRD.par
      have hsq:=hRD.sq
      have hla:=hRD.la
      have hlb:=hRD.lb
      have hvp:=FZ hRD.dr.ok
      have hct:=bC (ws:=bD) hRD.dr.ok oM ⟨hpa.1,hsq⟩ hla hlb
      refine Ad 1 Z<|AP (vs:=[.agg #[vD],zI fD,vaD,vbD]) (.agg #[vD]) Z Z Aa<|AP (vs:=[.agg #[vD],zI fD,vaD,vbD]) (zI fD) Z Z Aa<|AP (vs:=[.agg #[vD],zI fD,vaD,vbD]) vaD Z Z Aa<|AP (vs:=[.agg #[vD],zI fD,vaD,vbD]) vbD Z Z Aa (Bs (z:=.agg #[zN]) UR Aa fun w8 cd eq d7=>?_)
      have d8:=cd.size
      have d9:=ep.trans cd
      have c4:=hOD.ext (Au<|AW 127 6) cd
      have cf:=haD.ext (o1) cd
      have cg:=hbD.ext (o1) cd
      replace d7:BX w8.heap w7.heap.size [zN]:=d7
      refine BE (vs:=[vD]) Cf Z Z (by intro u hu;simp only[ze,z2,or_false]at hu;rcases hu with rfl <;> first|exact⟨rfl,rfl⟩|exact Bg c4.isSlS) d7 Z Z Aa fun w9 ce er da=>?_
      replace da:BX w9.heap w7.heap.size [vD]:=da
      have db:w8.heap.size≤w9.heap.size:=ce.size
      have dc:AH w w9:=ce.below d9 (fun _ h=>zE h) d9.size
      have ch:=c4.chg (Au<|AW 127 6) ce fun _ h=>zA h
      have ci:=cf.chg (o1) ce fun _ h=>zA h
      have cj:=cg.chg (o1) ce fun _ h=>zA h
      refine Ac 3 Z<|gK [0,3,0] Z<|Ad 1 Z<|Ap 23 [] [] [vd,zI ((7:Nat):Int)] Z Z fB Aa (N8 _ _ _ _ (hds.ext Dg dc) oM oM) ?_
      rintro g0 f1 ⟨ex,rfl,ao,dd⟩
      refine⟨_,rfl,ao,?_⟩
      have e2:=ao.size
      have de:=dc.trans ao
      have ae:=ch.ext (Au<|AW 127 6) ao
      have af:=ci.ext (o1) ao
      have ag:=cj.ext (o1) ao
      have bo:=da.ext ao
      refine Ac 1 Z<|gK [2,0,0,0,0,3,0,0,0,0,0] Z ?_
      generalize hg_nn:ex=nnI at *
      obtain⟨nn,rfl⟩:∃n:Nat,nnI=(n:Int):=⟨nnI.toNat,zO⟩
      refine AK (p:=zP w7.heap.size) (.inr Z) [vD] Cf Z (fun f2 c6=>LD.of_box<|BX.ext (w:=f1) bo c6) Z Aa<|Ad 4 Z<|Ap 24 [] [] [.agg #[vD],zI fD,vaD,vbD,zI (nn:Int)] Z Z fC Aa (IE _ 6 vD (pD) _ _ _ _ _ _ (RN.of_frF ae fun b hb=>by cases hb) oM af.rd1 ag.rd1 oM hRD.dr.szp) ?_
      rintro g4 f3 ⟨a5,rfl,ap,bp,df⟩
      refine⟨_,rfl,ap,?_⟩
      have e3:=ap.size
      have dg:=de.trans ap
      have ah:=ae.ext (Au<|AW 127 6) ap
      have ai:=af.ext (o1) ap
      have aj:=ag.ext (o1) ap
      have bq:=bo.ext ap
      refine Ad 1 Z<|AP (vs:=[a5,zI<|GA pD fD aD bD (nn:Int)]) a5 Z Z Aa<|AP (vs:=[a5,zI<|GA pD fD aD bD (nn:Int)]) (zI<|GA pD fD aD bD (nn:Int)) Z Z Aa<|Ac 2 Z<|gK [2,0,0,0,0,3,0,0,0,0,0] Z<|AK (p:=zP w7.heap.size) (.inr Z) [vD] Cf Z (fun f2 c6=>LD.of_box<|BX.ext (w:=f3) bq c6) Z Aa<|Ad 4 Z<|Ap 25 [] [] [.agg #[vD],zI fD,vaD,vbD,zI (nn:Int)] Z Z fE Aa (IJ _ 6 vD (pD) _ _ _ _ _ _ (RN.of_frF ah fun b hb=>by cases hb) oM ai.rd1 aj.rd1 oM hRD.dr.szp) ?_
      rintro g5 g6 ⟨az,rfl,ak,au,dh⟩
      refine⟨_,rfl,ak,?_⟩
      have ck:=ak.size
      have cl:=dg.trans ak
      have b0:=ah.ext (Au<|AW 127 6) ak
      have b1:=ai.ext (o1) ak
      have b2:=aj.ext (o1) ak
      have c7:=bq.ext ak
      have a3:=bp.ext (o1) ak
      refine Ad 1 Z<|AP (vs:=[az,zI<|GA pD fD aD bD (nn:Int)]) az Z Z Aa<|AP (vs:=[az,zI<|GA pD fD aD bD (nn:Int)]) (zI<|GA pD fD aD bD (nn:Int)) Z Z Aa<|Ac 2 Z<|A0<|gK [0,0,0,0,0,0,3,0,0] Z<|Ad 2 Z<|B2 false Z Z sM Aa<|Ad 3 Z<|Ap 26 [] [] [a5,az] Z Z bN (Ae (e:=58) Z Z Z) (Jb _ _ _ _ _ a3.rd1 au.rd1) ?_
      rintro g7 f4 ⟨rfl,a7⟩
      refine⟨_,rfl,a7,?_⟩
      have e5:=a7.size
      have cm:=cl.trans a7
      have al:=b0.ext (Au<|AW 127 6) a7
      have am:=b1.ext (o1) a7
      have b3:=b2.ext (o1) a7
      have br:=c7.ext a7
      have a9:=a3.ext (o1) a7
      have aa:=au.ext (o1) a7
      rw[show(decide ((Su pD fD aD bD (nn:Int))=(Su pD fD aD bD (nn:Int))))=true from A5 rfl]
      refine Bo false Z Z (Ae (e:=58) Z Z Z)<|Ac 1 Z<|Ai Z<|A2<|A0<|gK [0,0] Z<|Ad 1 Z ?_
      by_cases cn:GA pD fD aD bD (nn:Int)≠((0:Nat):Int)
      ·
        exact B2 true Z Z (A5 cn) Aa<|Aj<|Ag Z<|gL Z<|A1<|Ao<|Ah [4] Z (.bool true) Z ⟨XF,cm⟩
      refine B2 false Z Z (A6 cn) Aa<|Aj<|Ai Z<|A2<|gK [2,0,0,0,3,0,0,0,0,0] Z ?_
      have hga:=Oq (p:=pD) (f:=fD) (n:=(nn:Int)) hct.1<|BH.2 ⟨zO,zO⟩
      have hgc:=EC hga
      have hrd:=bE (p:=pD) (f:=fD) (n:=(nn:Int)) hct.2 oM
      have hrc:=TW hrd
      rw[Int.toNat_natCast]at hgc hrc
      refine AK (p:=zP w7.heap.size) (.inr Z) [vD] Cf Z (fun f2 c6=>LD.of_box<|BX.ext (w:=f4) br c6) Z Aa<|Ad 3 Z<|Ap 27 [] [] [.agg #[vD],zI fD,vaD,zI (nn:Int)] Z Z fF Aa (Jw _ 6 vD (pD) _ _ _ _ (RN.of_frF al fun b hb=>by cases hb) oM am.rd1 oM hRD.dr.szp) ?_
      rintro g8 ey ⟨a0,rfl,a8,bs,di,dj⟩
      refine⟨_,rfl,a8,?_⟩
      have e6:=a8.size
      have co:=cm.trans a8
      have b4:=al.ext (Au<|AW 127 6) a8
      have an:=am.ext (o1) a8
      have b5:=b3.ext (o1) a8
      have c8:=br.ext a8
      have ab:=a9.ext (o1) a8
      have ac:=aa.ext (o1) a8
      refine Ad 1 Z<|AP (vs:=[a0,zI<|TU pD fD aD (nn:Int)]) a0 Z Z Aa<|AP (vs:=[a0,zI<|TU pD fD aD (nn:Int)]) (zI<|TU pD fD aD (nn:Int)) Z Z Aa<|Ac 2 Z<|A0<|gK [0,0,0,0,0,0,0,0,0] Z ?_
      have hrk:EP pD fD.toNat aD nn=0:=by omega
      have hCh:Py pD fD.toNat aD nn:=⟨hvp,zO,hsq,hla.1,hla.2,hrk⟩
      have es:GA pD fD aD bD (nn:Int)=0:=by omega
      have c5:Fr (Bp (Bp rI 2) 27) f4.heap.size ey.heap.size ey.heap a0 (CD (nn+1) (Cr pD fD.toNat aD)):=by have h:=bs;rw[Po hrd,Int.toNat_natCast,Lq hrk]at h;exact h
      have cp:Fr (Bp rI 2) f1.heap.size f3.heap.size ey.heap a5 (NY pD fD.toNat aD nn bD):=by have h:=ab;rw[Jr es]at h;simp only[Int.toNat_natCast]at h;exact h
      have htl:(CD (nn+1) (Cr pD fD.toNat aD)).length=nn+1:=by simp[CD]
      refine Ad 1 Z ?_
      have dk:¬(TU pD fD aD (nn:Int)≠((0:Nat):Int)):=oM
      refine B2 false Z Z (A6 dk) Aa<|Ad 2 Z<|AR (v:=a0) Bx Z c5.isSl (Ae (e:=76) Z Z Z)<|Ad 1 Z ?_
      refine AQ ((nn:Int)+((1:Nat):Int)) Z Z (CM sD sD) (Ae (e:=76) Z Z Z) ?_
      have dl:¬((((CD (nn+1) (Cr pD fD.toNat aD)).length:Nat):Int)≠(nn:Int)+((1:Nat):Int)):=oM
      refine B2 false Z Z (A6 dl) (Ae (e:=76) Z Z Z)<|Ac 1 Z<|Ai Z<|A2<|gK [0,0,0,3,0] Z<|Ad 2 Z<|AR (v:=vaD) Bt Z an.isSl Aa<|Ap 28 [] [] [vd,zI (aD.length:Int)] Z Z fG Aa (KG _ _ _ _ (hds.ext Dg co) oM oM) ?_
      rintro g9 fx ⟨b6,ew,rfl,a6,bt,dm⟩
      refine⟨_,rfl,a6,?_⟩
      have e8:=a6.size
      have dn:=co.trans a6
      have b7:=b4.ext (Au<|AW 127 6) a6
      have c1:=an.ext (o1) a6
      have b8:=b5.ext (o1) a6
      have c9:=c8.ext a6
      have bu:=cp.ext (o1) a6
      have b9:=ac.ext (o1) a6
      have bv:=c5.ext (o2) a6
      refine Ac 1 Z<|gK [0,0] Z ?_
      obtain⟨dD,hdD⟩:∃l:Sr,l=ew:=⟨_,rfl⟩
      have hn_dD:=bt
      rw[← hdD]at hn_dD
      have hdt:dD.length=aD.length∧AX dD=true:=by rw[hdD];exact⟨by have h9:=‹_∧AX ew=true›.1;omega,‹_∧AX ew=true›.2⟩
      refine Ac 2 Z<|A0<|gL Z<|A3 ?_
      refine AU (S:=Nat×Value) (fun⟨i,vk⟩=>([(17,vk),(18,zI (i:Int)),(5,zP w7.heap.size),(6,zI fD),(8,vbD),(9,zI (nn:Int)),(10,a5),(14,a0),(16,b6)])) (fun⟨i,vk⟩ W=>AH w W∧Fr (EM 3 (SB 127 6) 33) w4.heap.size w7.heap.size W.heap vD pD∧Fr (Bp rI 2) w4.heap.size w7.heap.size W.heap vbD bD∧Fr (Bp rI 2) f1.heap.size f3.heap.size W.heap a5 (NY pD fD.toNat aD nn bD)∧Fr (Bp (Bp rI 2) 27) f4.heap.size ey.heap.size W.heap a0 (CD (nn+1)<|Cr pD fD.toNat aD)∧Fr (Bp rI 2) ey.heap.size fx.heap.size W.heap b6 dD∧BX W.heap w7.heap.size [vD]∧i≤nn∧RN [] (B4 rI) W.heap vk (Ic pD fD.toNat aD dD i)∧C3 vk∧w4.heap.size≤W.heap.size) (fun⟨i,vk⟩=>nn-i) (0,b6) ⟨rfl,rfl,rfl,rfl,rfl,rfl,rfl,rfl,rfl,trivial⟩ ⟨dn,b7,b8,bu,bv,hn_dD,c9,oM,(by exact(RN.of hn_dD.rd1)),hn_dD.cap,oM⟩ ?_
      clear d4 cx d5 cy cz d1 eq cd d8 d9 er ce db dc ch ci cj ao ae af ag bp ap ah ai aj au ak ck cl b0 b1 b2 a3 a7 al am b3 a9 aa bs a8 b4 an b5 ab ac bt a6 b7 c1 b8 b9
      rintro⟨i,vk⟩ ρ24 ez ⟨ca,bw,bx,bz,av,c0,aw,dp,hnk,hnc,e9⟩
      have ea:w.heap.size≤ez.heap.size:=ca.size
      have et:=aw.lt
      refine A0<|gK [0,0,0] Z<|Ad 2 Z ?_
      by_cases cq:(i:Int)<(nn:Int)
      ·
        refine AI true Z Z (A5 cq) Aa<|Aj<|Ag Z<|A2<|A0<|A3<|A0<|AM _ [1,0,0,0,0,1,0,3,0,0,0,0,0,0,0] mixed (by kernel_rfl) ?_
        have hti:=C8 (f:=Cr pD fD.toNat aD) (n:=nn+1) (k:=i) [] oM
        have htj:=C8 (f:=Cr pD fD.toNat aD) (n:=nn+1) (k:=i+1) [] oM
        have hsi:=(hCh.low (k:=i) oM).st
        have hni:=(hCh.low (k:=i) oM).nwd hdt.1 hdt.2
        have hxi:=hCh.nx (k:=i) oM
        have hli:HX pD fD ((CD (nn+1) (Cr pD fD.toNat aD)).getD i []) (Ic pD fD.toNat aD dD i)=0:=by rw[hti];exact ZA hRD.dr.ok oM (by rw[hsi.1];exact hla.1) hsi.2 (by rw[hni.1];exact hla.1) hni.2
        have hdc:PU pD fD.toNat ((CD (nn+1) (Cr pD fD.toNat aD)).getD i []) (Ic pD fD.toNat aD dD i)=0:=by rw[hti,aS];exact hxi
        refine AK (p:=zP w7.heap.size) (.inl Z) [vD] Cf Z (fun f2 c6=>LD.of_box<|BX.ext (w:=ez.drew) aw c6) Z Aa<|Ad 3 Z<|Aw (v:=a0) i Bx AT Z Z av.isSl Z sD Aa ?_
        obtain⟨cr,ct,cb⟩:=av.rd2.get (k:=i) [] sD
        have eb:=cb.lenle
        refine Af (p:=Ay a0 i 1) (.inl Z) cr B6 Z ct Aa<|Ad 1 Z<|Ap 29 [] [] [.agg #[vD],zI fD,cr,vk] Z Z fH Aa (JE _ 6 vD (pD) _ _ _ _ _ (RN.of_frF bw fun b hb=>by cases hb) oM cb (hnk).rd hRD.dr.szp) ?_
        rintro ga gb ⟨aq,ar,rfl,a2,ax,ay,dq⟩
        refine⟨_,rfl,a2,?_⟩
        replace a2:=a2.of_drew
        have ec:=a2.size
        have dt:=ca.trans a2
        have ba:=bw.ext (Au<|AW 127 6) a2
        have bb:=bx.ext (o1) a2
        have bc:=bz.ext (o1) a2
        have a4:=av.ext (o2) a2
        have bd:=c0.ext (o1) a2
        have be:=aw.ext a2
        have c2:=cb.ext g1 a2
        have cu:=Bd a2 ct
        have du:=hnk.ext g1 a2
        replace ax:=ax.low (B':=ez.heap.size)<|A7 _
        replace ay:=ay.low (B':=ez.heap.size)<|A7 _
        refine Ad 1 Z<|AP (vs:=[aq,ar,zI (if HX pD fD ((CD (nn+1)<|Cr pD fD.toNat aD).getD i []) (Ic pD fD.toNat aD dD i)=0 then PU pD fD.toNat ((CD (nn+1)<|Cr pD fD.toNat aD).getD i []) (Ic pD fD.toNat aD dD i)else HX pD fD ((CD (nn+1)<|Cr pD fD.toNat aD).getD i []) (Ic pD fD.toNat aD dD i))]) aq Z Z Aa<|AP (vs:=[aq,ar,zI (if HX pD fD ((CD (nn+1)<|Cr pD fD.toNat aD).getD i []) (Ic pD fD.toNat aD dD i)=0 then PU pD fD.toNat ((CD (nn+1)<|Cr pD fD.toNat aD).getD i []) (Ic pD fD.toNat aD dD i)else HX pD fD ((CD (nn+1)<|Cr pD fD.toNat aD).getD i []) (Ic pD fD.toNat aD dD i))]) ar Z Z Aa ?_
        refine AP (vs:=[aq,ar,zI (if HX pD fD ((CD (nn+1)<|Cr pD fD.toNat aD).getD i []) (Ic pD fD.toNat aD dD i)=0 then PU pD fD.toNat ((CD (nn+1)<|Cr pD fD.toNat aD).getD i []) (Ic pD fD.toNat aD dD i)else HX pD fD ((CD (nn+1)<|Cr pD fD.toNat aD).getD i []) (Ic pD fD.toNat aD dD i))]) (zI (if HX pD fD ((CD (nn+1)<|Cr pD fD.toNat aD).getD i []) (Ic pD fD.toNat aD dD i)=0 then PU pD fD.toNat ((CD (nn+1)<|Cr pD fD.toNat aD).getD i []) (Ic pD fD.toNat aD dD i)else HX pD fD ((CD (nn+1)<|Cr pD fD.toNat aD).getD i []) (Ic pD fD.toNat aD dD i))) Z Z Aa<|Ac 3 Z<|A0<|gK [0,0,0,0,0,0,0,0,2,3,0,0] Z<|Ad 1 Z ?_
        have dv:¬((if HX pD fD ((CD (nn+1) (Cr pD fD.toNat aD)).getD i []) (Ic pD fD.toNat aD dD i)=0 then PU pD fD.toNat ((CD (nn+1) (Cr pD fD.toNat aD)).getD i []) (Ic pD fD.toNat aD dD i)else HX pD fD ((CD (nn+1) (Cr pD fD.toNat aD)).getD i []) (Ic pD fD.toNat aD dD i))≠((0:Nat):Int)):=oM
        refine B2 false Z Z (A6 dv) Aa<|Ad 4 Z<|AQ ((i+1:Nat):Int) Z Z (Bi oM oM) (Ae (e:=107) Z Z Z)<|Aw (v:=a0) (i+1) Bx AT Z Z a4.isSl Z sD (Ae (e:=107) Z Z Z) ?_
        obtain⟨cv,cw,cc⟩:=a4.rd2.get (k:=i+1) [] sD
        have ed:=cc.lenle
        refine Af (p:=Ay a0 (i+1) 1) (.inr Z) cv B6 Z cw (Ae (e:=107) Z Z Z)<|Ap 26 [] [] [aq,cv] Z Z bN (Ae (e:=107) Z Z Z) (Jb _ _ _ _ _ ax.rd1 cc) ?_
        rintro gc gd ⟨rfl,a1⟩
        refine⟨_,rfl,a1,?_⟩
        have ee:=a1.size
        have dw:=dt.trans a1
        have bf:=ba.ext (Au<|AW 127 6) a1
        have bg:=bb.ext (o1) a1
        have bh:=bc.ext (o1) a1
        have bi:=a4.ext (o2) a1
        have bj:=bd.ext (o1) a1
        have bk:=be.ext a1
        have d2:=c2.ext g1 a1
        have ef:=Bd a1 cu
        have ad:=ay.ext (o1) a1
        have d3:=cc.ext g1 a1
        have eg:=Bd a1 cw
        have eu:=du.ext g1 a1
        rw[show(decide ((if HX pD fD ((CD (nn+1) (Cr pD fD.toNat aD)).getD i []) (Ic pD fD.toNat aD dD i)=0 then(Lw pD fD.toNat ((CD (nn+1) (Cr pD fD.toNat aD)).getD i []) (Ic pD fD.toNat aD dD i)).map (fun s:Sr=>s.getD 0 0)else [])=((CD (nn+1) (Cr pD fD.toNat aD)).getD (i+1) [])))=true from(A5 (by rw[if_pos hli,hti,htj];exact fm _ _ _ _))]
        refine Bo false Z Z (Ae (e:=107) Z Z Z)<|Ac 1 Z<|Ai Z<|A2<|Ab _ [0,0] Z<|Ac 2 Z<|Ab _ [0,0,0] Z<|Ad 1 Z<|AQ ((i+1:Nat):Int) Z Z (Bi oM oM) Aa<|Ac 1 Z ?_
        have hRe:=(RN.of ad.rd1)
        rw[if_pos hli,hti]at hRe
        have hCe:=ad.cap
        exact⟨(i+1,ar),_,rfl,zR,⟨dw,bf,bg,bh,bi,bj,bk,oM,hRe,hCe,oM⟩,zD⟩
      refine AI false Z Z (A6 cq) Aa<|Aj<|Ai Z<|A4<|AA<|AA<|Av<|gK [0,0,3,0,0,3,0,0] Z ?_
      have hin:i=nn:=by omega
      have hdu:=Pz (ws:=bD) (d:=dD) hCh oM hdt.1 hdt.2
      have hlG:=RD hCh (show bD.length=aD.length by omega)
      have hnl:(Ic pD fD.toNat aD dD i).length=aD.length:=by rw[hin];exact(hCh.nwd hdt.1 hdt.2).1
      have hfin:Jp bD (Ic pD fD.toNat aD dD i) bD.length=Jp (NY pD fD.toNat aD nn bD) dD (NY pD fD.toNat aD nn bD).length:=by rw[hin,hlG,show bD.length=aD.length from by omega];exact hdu
      refine Ad 2 Z<|Ap 30 [] [] [vbD,vk] Z Z bO Aa (KK _ _ _ _ _ bx.rd1 (hnk).rd oM) ?_
      rintro ge gf ⟨rfl,bl⟩
      refine⟨_,rfl,bl,?_⟩
      have eh:=bl.size
      have dx:=ca.trans bl
      have bm:=bz.ext (o1) bl
      have bn:=c0.ext (o1) bl
      have dy:=hnk.ext g1 bl
      refine Ad 2 Z<|Ap 30 [] [] [a5,b6] Z Z bO Aa (KK _ _ _ _ _ bm.rd1 bn.rd1 oM) ?_
      rintro gg gh ⟨rfl,c3⟩
      refine⟨_,rfl,c3,?_⟩
      have ei:=c3.size
      have dz:=dx.trans c3
      have ev:=dy.ext g1 c3
      exact Al (decide (Jp bD (Ic pD fD.toNat aD dD i) bD.length=Jp (NY pD fD.toNat aD nn bD) dD (NY pD fD.toNat aD nn bD).length)) Z Z Z Aa<|Ac 1 Z<|A1<|Ah [4] Z (.bool<|decide (Jp bD (Ic pD fD.toNat aD dD i) bD.length=Jp (NY pD fD.toNat aD nn bD) dD (NY pD fD.toNat aD nn bD).length)) Z ⟨XF,dz⟩
    have ej:=of_decide_eq_true d0
    exact Ag (by first|rfl|exact zW d0)<|gL Z<|A1<|Ao<|Ah [4] Z (.bool true) Z ⟨XF,d6⟩
  have ek:=of_decide_eq_true e0
  exact Ac 3 Z<|Ag Z<|gL Z<|A1<|Ao<|Ah [4] Z (.bool true) Z ⟨XF,cy⟩
end
end Go.Proofs.YtjnbnlniafmblaaGreat
