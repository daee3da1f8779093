/- Yr, Yt, Xa, Xb, Yu, Xg, Yx, Yy: texts of this claim, joined; what the claim does not come to is left out. -/
import Derived.Test.YtbajepcpgncekaaGreatQL4
import Derived.Test.YtbajepcpgncekaaGreatProg
set_option linter.unusedVariables false
set_option linter.unusedSimpArgs false
namespace Go.Proofs.YtbajepcpgncekaaGreat
open Go Go.RowKit
section
set_option maxHeartbeats 4000000
set_option maxRecDepth 100000
attribute [local irreducible] LW
theorem Jw (w:World)(r:Int)(vm:Nat)(m:Int)(_hr:BG r)(hcm:HV w.heap (zP vm)=some (zI m))(_hm:BG m)(hm:0≤m∧m≤1000000) :
  Calls Tryz.prog 193 #[zI r,zP vm] w (fun e w'=>e=.returned (.bool (!(decide (0≤r) && decide (r≤m-1))))∧AD w w'):=by
 refine Au [zI r,zP vm] 9 Tryz.func193 Z Z sM ?_
 have a0:AD w w:=AD.refl w
 refine fE Z<|fC [0,2,0,0,0,0] Z<|Ad 1 Z<|Ag (.inr Z) (zI m) AI Z (Bp a0 hcm) Aa ?_
 refine BJ (m-((1:Nat):Int)) Z Z (DH sD sD) Aa ?_
 exact AG 117 [] [] [zI r,zI ((0:Nat):Int),zI (m-((1:Nat):Int))] Z Z D2 Aa (.bool (decide (((0:Nat):Int)≤r) && decide (r≤(m-((1:Nat):Int))))) (fun wq=>B4 wq _ _ _ _hr oM oM)<|Bq (!(decide (((0:Nat):Int)≤r) && decide (r≤(m-((1:Nat):Int))))) Z Z Aa<|Ac 1 Z<|A1<|Ah [3] Z (.bool (!(decide (((0:Nat):Int)≤r) && decide (r≤(m-((1:Nat):Int)))))) Z ⟨AP (by first|rfl|simp_all),a0⟩
theorem Im {p:Prop}(h:p:=by first|rfl|exact AP (A5 oM)|(exfalso;(try unfold Fi at hf);omega)):p:=h
theorem EK {p:Prop}(h:p:=by rw[A5 oM,A5 oM];rfl):p:=h
theorem IO (w:World)(ni:Nat)(ipT:Int)(vtc vtg vtx:Value)(T:Tp)(oT:Sr)(c:AM)(k:Int)(_hipT:BG ipT)(htcT:RN [] (E1 4 ON) w.heap vtc T.code)(htgT:RN [] (E1 2 OO) w.heap vtg T.grd)(htoT:RN [] (Bd rI) w.heap vtx oT)(hc:Td c)(_hk:BG k)(hip:ipT=(ni:Int)∧ni≤12)(hk:0≤k∧k≤4000)(hf:Fi ni k.toNat c) :
  Calls Tryz.prog 192 #[(.agg #[(zI ipT),vtc,vtg,vtx]),(.agg #[(zI c.op),(zI c.a),(zI c.b),(zI c.num)]),zI k] w (fun e w'=>e=.returned (.bool true)∧AD w w'):=by
 refine Au [.agg #[zI ipT,vtc,vtg,vtx],.agg #[zI c.op,zI c.a,zI c.b,zI c.num],zI k] 81 Tryz.func192 Z Z sM ?_
 have af:AD w w:=AD.refl w
 have hl_vtx:=htoT.lenL
 unfold maxLen at hl_vtx
 refine fC [3,3,0] Z (Bv (cs:=#[zI ipT,vtc,vtg,vtx]) Z Aa fun w1 ac am a8=>?_)
 have ag:=ac.size
 have ah:=af.trans ac
 replace a8:BX w1.heap w.heap.size [zI ipT,vtc,vtg,vtx]:=a8
 have an:=a8.lt
 refine Bv (cs:=#[zI c.op,zI c.a,zI c.b,zI c.num]) Z Aa fun w2 a9 ao a0=>?_
 have ai:=a9.size
 have a1:=ah.trans a9
 have a2:=a8.ext a9
 replace a0:BX w2.heap w1.heap.size [zI c.op,zI c.a,zI c.b,zI c.num]:=a0
 refine Ac 1 Z<|A0<|fC [0,2] Z<|Al (p:=zP w1.heap.size) 0 Me Z Z Aa<|Ag (p:=Ap (zP w1.heap.size) 0) (.inr Z) (zI c.op) AI Z (a0.ldp (i:=0) sM) Aa<|Ai<|A3<|fC [0,0] Z ?_
 by_cases ad:c.op=((1:Nat):Int)
 ·refine As true Z Z (A5 ad) Aa<|Ac 1 Z<|Af Z<|fC [0,2,0,0,0,2,0,0,0,0,2,0,2,0,0,0,0] Z ?_
  unfold Fi at hf
  refine Al (p:=zP w1.heap.size) 1 D3 Z Z Aa<|Ag (p:=Ap (zP w1.heap.size) 1) (.inr Z) (zI c.a) AI Z (a0.ldp (i:=1) sM) Aa ?_
  have aj:c.a=((0:Nat):Int):=oM
  refine As true Z Z (A5 aj) Aa<|Ad 1 Z<|Al (p:=zP w1.heap.size) 2 CS Z Z (Ae (e:=14) Z Z Z)<|Ag (p:=Ap (zP w1.heap.size) 2) (.inr Z) (zI c.b) AI Z (a0.ldp (i:=2) sM) (Ae (e:=14) Z Z Z) ?_
  have ak:c.b=((0:Nat):Int):=oM
  refine As true Z Z (A5 ak) (Ae (e:=14) Z Z Z)<|Ad 2 Z<|Al (p:=zP w1.heap.size) 3 FX Z Z (Ae (e:=19) Z Z Z)<|Ag (p:=Ap (zP w1.heap.size) 3) (.inr Z) (zI c.num) AI Z (a0.ldp (i:=3) sM) (Ae (e:=19) Z Z Z)<|Al (p:=zP w.heap.size) 0 O2 Z Z (Ae (e:=19) Z Z Z)<|Ag (p:=Ap (zP w.heap.size) 0) (.inr Z) (zI ipT) AI Z (a2.ldp (i:=0) sM) (Ae (e:=19) Z Z Z) ?_
  refine BJ (ipT-((1:Nat):Int)) Z Z (DH sD sD) (Ae (e:=19) Z Z Z) ?_
  refine AG 117 [] [] [zI c.num,zI ((0:Nat):Int),zI (ipT-((1:Nat):Int))] Z Z D2 (Ae (e:=19) Z Z Z) (.bool (decide (((0:Nat):Int)≤c.num) && decide (c.num≤(ipT-((1:Nat):Int))))) (fun wq=>B4 wq _ _ _ hc.2.2.2 oM oM) ?_
  rw[show(decide (((0:Nat):Int)≤c.num) && decide (c.num≤(ipT-((1:Nat):Int))))=true from EK]
  exact Ac 2 Z<|A1<|AL<|Ao<|Ah [6] Z (.bool true) Z ⟨Im,a1⟩
 refine As false Z Z (A6 ad) Aa<|Ac 1 Z<|Aj Z<|fC [0,0] Z ?_
 by_cases ae:c.op=((2:Nat):Int)
 ·refine As true Z Z (A5 ae) Aa<|Ac 1 Z<|Af Z<|fC [0,2,0,0,0,2,0,0,0,0,2,0,0,0] Z ?_
  unfold Fi at hf
  refine Al (p:=zP w1.heap.size) 1 D3 Z Z Aa<|Ag (p:=Ap (zP w1.heap.size) 1) (.inr Z) (zI c.a) AI Z (a0.ldp (i:=1) sM) Aa ?_
  have al:c.a=((0:Nat):Int):=oM
  refine As true Z Z (A5 al) Aa<|Ad 1 Z<|Al (p:=zP w1.heap.size) 2 CS Z Z (Ae (e:=32) Z Z Z)<|Ag (p:=Ap (zP w1.heap.size) 2) (.inr Z) (zI c.b) AI Z (a0.ldp (i:=2) sM) (Ae (e:=32) Z Z Z) ?_
  have aa:c.b=((0:Nat):Int):=oM
  refine As true Z Z (A5 aa) (Ae (e:=32) Z Z Z)<|Ad 2 Z<|Al (p:=zP w1.heap.size) 3 FX Z Z (Ae (e:=37) Z Z Z)<|Ag (p:=Ap (zP w1.heap.size) 3) (.inr Z) (zI c.num) AI Z (a0.ldp (i:=3) sM) (Ae (e:=37) Z Z Z)<|AG 170 [] [] [zI c.num] Z Z UC (Ae (e:=37) Z Z Z) (.bool<|IS c.num) (fun wq=>Fm wq _ hc.2.2.2) ?_
  rw[show(IS c.num)=true from CD.2 ⟨zO,zO⟩]
  exact Ac 2 Z<|A1<|AL<|Ao<|Ah [6] Z (.bool true) Z ⟨Im,a1⟩
 refine As false Z Z (A6 ae) Aa<|Ac 1 Z<|Aj Z<|A0<|fC [0,0] Z ?_
 by_cases a3:c.op=((3:Nat):Int)
 ·refine As true Z Z (A5 a3) Aa<|Ac 1 Z<|Af Z<|A2<|Af Z<|fC [0,2,0,0,0,0,0,2,0,0,0,0,0,0,2,0,0,0] Z ?_
  unfold Fi at hf
  refine Al (p:=zP w1.heap.size) 1 D3 Z Z Aa<|Ag (p:=Ap (zP w1.heap.size) 1) (.inr Z) (zI c.a) AI Z (a0.ldp (i:=1) sM) Aa<|Ad 1 Z ?_
  refine BJ (k-((1:Nat):Int)) Z Z (DH sD sD) Aa ?_
  refine AG 117 [] [] [zI c.a,zI ((0:Nat):Int),zI (k-((1:Nat):Int))] Z Z D2 Aa (.bool (decide (((0:Nat):Int)≤c.a) && decide (c.a≤(k-((1:Nat):Int))))) (fun wq=>B4 wq _ _ _ hc.2.1 oM oM) ?_
  rw[show(decide (((0:Nat):Int)≤c.a) && decide (c.a≤(k-((1:Nat):Int))))=true from EK]
  refine Ad 1 Z<|Al (p:=zP w1.heap.size) 2 CS Z Z (Ae (e:=52) Z Z Z)<|Ag (p:=Ap (zP w1.heap.size) 2) (.inr Z) (zI c.b) AI Z (a0.ldp (i:=2) sM) (Ae (e:=52) Z Z Z)<|Ad 1 Z ?_
  refine BJ (k-((1:Nat):Int)) Z Z (DH sD sD) (Ae (e:=52) Z Z Z) ?_
  refine AG 117 [] [] [zI c.b,zI ((0:Nat):Int),zI (k-((1:Nat):Int))] Z Z D2 (Ae (e:=52) Z Z Z) (.bool (decide (((0:Nat):Int)≤c.b) && decide (c.b≤(k-((1:Nat):Int))))) (fun wq=>B4 wq _ _ _ hc.2.2.1 oM oM) ?_
  rw[show(decide (((0:Nat):Int)≤c.b) && decide (c.b≤(k-((1:Nat):Int))))=true from EK]
  exact Ad 2 Z<|Al (p:=zP w1.heap.size) 3 FX Z Z (Ae (e:=59) Z Z Z)<|Ag (p:=Ap (zP w1.heap.size) 3) (.inr Z) (zI c.num) AI Z (a0.ldp (i:=3) sM) (Ae (e:=59) Z Z Z)<|As (decide (c.num=((0:Nat):Int))) Z Z Z (Ae (e:=59) Z Z Z)<|Ac 2 Z<|A1<|AL<|Ao<|Ah [6] Z (.bool<|decide (c.num=((0:Nat):Int))) Z ⟨Im,a1⟩
 refine As false Z Z (A6 a3) Aa<|Ac 1 Z<|Aj Z<|fC [0,0] Z ?_
 by_cases a4:c.op=((4:Nat):Int)
 ·refine As true Z Z (A5 a4) Aa<|Ac 1 Z<|Af Z<|A2<|Af Z<|fC [0,2,0,0,0,0,0,2,0,0,0,0,0,0,2,0,0,0] Z ?_
  unfold Fi at hf
  refine Al (p:=zP w1.heap.size) 1 D3 Z Z Aa<|Ag (p:=Ap (zP w1.heap.size) 1) (.inr Z) (zI c.a) AI Z (a0.ldp (i:=1) sM) Aa<|Ad 1 Z ?_
  refine BJ (k-((1:Nat):Int)) Z Z (DH sD sD) Aa ?_
  refine AG 117 [] [] [zI c.a,zI ((0:Nat):Int),zI (k-((1:Nat):Int))] Z Z D2 Aa (.bool (decide (((0:Nat):Int)≤c.a) && decide (c.a≤(k-((1:Nat):Int))))) (fun wq=>B4 wq _ _ _ hc.2.1 oM oM) ?_
  rw[show(decide (((0:Nat):Int)≤c.a) && decide (c.a≤(k-((1:Nat):Int))))=true from EK]
  refine Ad 1 Z<|Al (p:=zP w1.heap.size) 2 CS Z Z (Ae (e:=52) Z Z Z)<|Ag (p:=Ap (zP w1.heap.size) 2) (.inr Z) (zI c.b) AI Z (a0.ldp (i:=2) sM) (Ae (e:=52) Z Z Z)<|Ad 1 Z ?_
  refine BJ (k-((1:Nat):Int)) Z Z (DH sD sD) (Ae (e:=52) Z Z Z) ?_
  refine AG 117 [] [] [zI c.b,zI ((0:Nat):Int),zI (k-((1:Nat):Int))] Z Z D2 (Ae (e:=52) Z Z Z) (.bool (decide (((0:Nat):Int)≤c.b) && decide (c.b≤(k-((1:Nat):Int))))) (fun wq=>B4 wq _ _ _ hc.2.2.1 oM oM) ?_
  rw[show(decide (((0:Nat):Int)≤c.b) && decide (c.b≤(k-((1:Nat):Int))))=true from EK]
  exact Ad 2 Z<|Al (p:=zP w1.heap.size) 3 FX Z Z (Ae (e:=59) Z Z Z)<|Ag (p:=Ap (zP w1.heap.size) 3) (.inr Z) (zI c.num) AI Z (a0.ldp (i:=3) sM) (Ae (e:=59) Z Z Z)<|As (decide (c.num=((0:Nat):Int))) Z Z Z (Ae (e:=59) Z Z Z)<|Ac 2 Z<|A1<|AL<|Ao<|Ah [6] Z (.bool<|decide (c.num=((0:Nat):Int))) Z ⟨Im,a1⟩
 refine As false Z Z (A6 a4) Aa<|Ac 1 Z<|Aj Z<|fC [0,0] Z ?_
 by_cases a5:c.op=((5:Nat):Int)
 ·refine As true Z Z (A5 a5) Aa<|Ac 1 Z<|Af Z<|A2<|Af Z<|fC [0,2,0,0,0,0,0,2,0,0,0,0,0,0,2,0,0,0] Z ?_
  unfold Fi at hf
  refine Al (p:=zP w1.heap.size) 1 D3 Z Z Aa<|Ag (p:=Ap (zP w1.heap.size) 1) (.inr Z) (zI c.a) AI Z (a0.ldp (i:=1) sM) Aa<|Ad 1 Z ?_
  refine BJ (k-((1:Nat):Int)) Z Z (DH sD sD) Aa ?_
  refine AG 117 [] [] [zI c.a,zI ((0:Nat):Int),zI (k-((1:Nat):Int))] Z Z D2 Aa (.bool (decide (((0:Nat):Int)≤c.a) && decide (c.a≤(k-((1:Nat):Int))))) (fun wq=>B4 wq _ _ _ hc.2.1 oM oM) ?_
  rw[show(decide (((0:Nat):Int)≤c.a) && decide (c.a≤(k-((1:Nat):Int))))=true from EK]
  refine Ad 1 Z<|Al (p:=zP w1.heap.size) 2 CS Z Z (Ae (e:=52) Z Z Z)<|Ag (p:=Ap (zP w1.heap.size) 2) (.inr Z) (zI c.b) AI Z (a0.ldp (i:=2) sM) (Ae (e:=52) Z Z Z)<|Ad 1 Z ?_
  refine BJ (k-((1:Nat):Int)) Z Z (DH sD sD) (Ae (e:=52) Z Z Z) ?_
  refine AG 117 [] [] [zI c.b,zI ((0:Nat):Int),zI (k-((1:Nat):Int))] Z Z D2 (Ae (e:=52) Z Z Z) (.bool (decide (((0:Nat):Int)≤c.b) && decide (c.b≤(k-((1:Nat):Int))))) (fun wq=>B4 wq _ _ _ hc.2.2.1 oM oM) ?_
  rw[show(decide (((0:Nat):Int)≤c.b) && decide (c.b≤(k-((1:Nat):Int))))=true from EK]
  exact Ad 2 Z<|Al (p:=zP w1.heap.size) 3 FX Z Z (Ae (e:=59) Z Z Z)<|Ag (p:=Ap (zP w1.heap.size) 3) (.inr Z) (zI c.num) AI Z (a0.ldp (i:=3) sM) (Ae (e:=59) Z Z Z)<|As (decide (c.num=((0:Nat):Int))) Z Z Z (Ae (e:=59) Z Z Z)<|Ac 2 Z<|A1<|AL<|Ao<|Ah [6] Z (.bool<|decide (c.num=((0:Nat):Int))) Z ⟨Im,a1⟩
 refine As false Z Z (A6 a5) Aa<|Ac 1 Z<|Aj Z<|Ab _ [0,0] Z ?_
 by_cases a6:c.op=((6:Nat):Int)
 ·refine As true Z Z (A5 a6) Aa<|Ac 1 Z<|Af Z<|fC [0,2,0,0,0,0,0,2,0,0,0,0,0,0,2,0,0,0] Z ?_
  unfold Fi at hf
  refine Al (p:=zP w1.heap.size) 1 D3 Z Z Aa<|Ag (p:=Ap (zP w1.heap.size) 1) (.inr Z) (zI c.a) AI Z (a0.ldp (i:=1) sM) Aa<|Ad 1 Z ?_
  refine BJ (k-((1:Nat):Int)) Z Z (DH sD sD) Aa ?_
  refine AG 117 [] [] [zI c.a,zI ((0:Nat):Int),zI (k-((1:Nat):Int))] Z Z D2 Aa (.bool (decide (((0:Nat):Int)≤c.a) && decide (c.a≤(k-((1:Nat):Int))))) (fun wq=>B4 wq _ _ _ hc.2.1 oM oM) ?_
  rw[show(decide (((0:Nat):Int)≤c.a) && decide (c.a≤(k-((1:Nat):Int))))=true from EK]
  refine Ad 1 Z<|Al (p:=zP w1.heap.size) 2 CS Z Z (Ae (e:=52) Z Z Z)<|Ag (p:=Ap (zP w1.heap.size) 2) (.inr Z) (zI c.b) AI Z (a0.ldp (i:=2) sM) (Ae (e:=52) Z Z Z)<|Ad 1 Z ?_
  refine BJ (k-((1:Nat):Int)) Z Z (DH sD sD) (Ae (e:=52) Z Z Z) ?_
  refine AG 117 [] [] [zI c.b,zI ((0:Nat):Int),zI (k-((1:Nat):Int))] Z Z D2 (Ae (e:=52) Z Z Z) (.bool (decide (((0:Nat):Int)≤c.b) && decide (c.b≤(k-((1:Nat):Int))))) (fun wq=>B4 wq _ _ _ hc.2.2.1 oM oM) ?_
  rw[show(decide (((0:Nat):Int)≤c.b) && decide (c.b≤(k-((1:Nat):Int))))=true from EK]
  exact Ad 2 Z<|Al (p:=zP w1.heap.size) 3 FX Z Z (Ae (e:=59) Z Z Z)<|Ag (p:=Ap (zP w1.heap.size) 3) (.inr Z) (zI c.num) AI Z (a0.ldp (i:=3) sM) (Ae (e:=59) Z Z Z)<|As (decide (c.num=((0:Nat):Int))) Z Z Z (Ae (e:=59) Z Z Z)<|Ac 2 Z<|A1<|AL<|Ao<|Ah [6] Z (.bool<|decide (c.num=((0:Nat):Int))) Z ⟨Im,a1⟩
 refine As false Z Z (A6 a6) Aa<|Ac 1 Z<|Aj Z<|fC [0,0] Z ?_
 by_cases a7:c.op=((7:Nat):Int)
 ·refine As true Z Z (A5 a7) Aa<|Ac 1 Z<|Af Z<|fC [0,2,0,0,0,0,0,2,0,0,0,0,2,0,0,0] Z ?_
  unfold Fi at hf
  refine Al (p:=zP w1.heap.size) 1 D3 Z Z Aa<|Ag (p:=Ap (zP w1.heap.size) 1) (.inr Z) (zI c.a) AI Z (a0.ldp (i:=1) sM) Aa<|Ad 1 Z ?_
  refine BJ (k-((1:Nat):Int)) Z Z (DH sD sD) Aa ?_
  refine AG 117 [] [] [zI c.a,zI ((0:Nat):Int),zI (k-((1:Nat):Int))] Z Z D2 Aa (.bool (decide (((0:Nat):Int)≤c.a) && decide (c.a≤(k-((1:Nat):Int))))) (fun wq=>B4 wq _ _ _ hc.2.1 oM oM) ?_
  rw[show(decide (((0:Nat):Int)≤c.a) && decide (c.a≤(k-((1:Nat):Int))))=true from EK]
  refine Ad 1 Z<|Al (p:=zP w1.heap.size) 2 CS Z Z (Ae (e:=71) Z Z Z)<|Ag (p:=Ap (zP w1.heap.size) 2) (.inr Z) (zI c.b) AI Z (a0.ldp (i:=2) sM) (Ae (e:=71) Z Z Z) ?_
  have ab:c.b=((0:Nat):Int):=oM
  exact As true Z Z (A5 ab) (Ae (e:=71) Z Z Z)<|Ad 2 Z<|Al (p:=zP w1.heap.size) 3 FX Z Z (Ae (e:=76) Z Z Z)<|Ag (p:=Ap (zP w1.heap.size) 3) (.inr Z) (zI c.num) AI Z (a0.ldp (i:=3) sM) (Ae (e:=76) Z Z Z)<|As (decide (c.num=((0:Nat):Int))) Z Z Z (Ae (e:=76) Z Z Z)<|Ac 2 Z<|A1<|AL<|Ao<|Ah [6] Z (.bool<|decide (c.num=((0:Nat):Int))) Z ⟨Im,a1⟩
 exact As false Z Z (A6 a7) Aa<|Ac 1 Z<|Aj Z<|A2<|fE Z<|A1<|Ah [6] Z (.bool false) Z ⟨Im,a1⟩
theorem KC (w:World)(a:Sr)(ipT:Int)(vtc vtg vtx:Value)(T:Tp)(oT:Sr)(_hipT:BG ipT)(htcT:RN [] (E1 4 ON) w.heap vtc T.code)(htgT:RN [] (E1 2 OO) w.heap vtg T.grd)(htoT:RN [] (Bd rI) w.heap vtx oT)(hip:ipT=(a.length:Int))(hR:Sk a T oT) :
  Calls Tryz.prog 116 #[(.agg #[(zI ipT),vtc,vtg,vtx])] w (fun e w'=>e=.returned (.bool true)∧AD w w'):=by
 refine Au [.agg #[zI ipT,vtc,vtg,vtx]] 67 Tryz.func116 Z Z sM ?_
 have bm:AD w w:=AD.refl w
 have hl_vtx:=htoT.lenL
 unfold maxLen at hl_vtx
 have hK:=hR.k
 have hni:=hK.nb
 have hcl:=hK.cl
 have cn:=hK.gl
 have hol:=hK.ol
 have hpos:=hK.pos
 refine fC [3,0] Z (Bv (cs:=#[zI ipT,vtc,vtg,vtx]) Z Aa fun w1 b2 bw ab=>?_)
 have b3:=b2.size
 have bn:=bm.trans b2
 replace ab:BX w1.heap w.heap.size [zI ipT,vtc,vtg,vtx]:=ab
 refine Ac 1 Z<|A0<|fC [0,2,0,0,0,0,2,0,0,0,0,0,2,0,0,0,0,0,2,0,0,0,0] Z<|Al (p:=zP w.heap.size) 0 O2 Z Z Aa<|Ag (p:=Ap (zP w.heap.size) 0) (.inr Z) (zI ipT) AI Z (ab.ldp (i:=0) sM) Aa<|AG 117 [] [] [zI ipT,zI ((0:Nat):Int),zI ((12:Nat):Int)] Z Z D2 Aa (.bool (decide (((0:Nat):Int)≤ipT) && decide (ipT≤((12:Nat):Int)))) (fun wq=>B4 wq _ _ _ _hipT oM oM) ?_
 rw[show(decide (((0:Nat):Int)≤ipT) && decide (ipT≤((12:Nat):Int)))=true from EK]
 refine Bq false Z Z Aa<|Ad 1 Z<|Al (p:=zP w.heap.size) 1 FV Z Z (Ae (e:=12) Z Z Z)<|Ag (p:=Ap (zP w.heap.size) 1) (.inr Z) vtc KQ Z (ab.ldp (i:=1) sM) (Ae (e:=12) Z Z Z)<|AS (v:=vtc) PY Z htcT.isSl (Ae (e:=12) Z Z Z) ?_
 have bx:¬(((3200:Nat):Int)<(T.code.length:Int)):=oM
 refine Cj false Z Z (A6 bx) (Ae (e:=12) Z Z Z)<|Ad 2 Z<|Al (p:=zP w.heap.size) 2 O3 Z Z (Ae (e:=18) Z Z Z)<|Ag (p:=Ap (zP w.heap.size) 2) (.inr Z) vtg UJ Z (ab.ldp (i:=2) sM) (Ae (e:=18) Z Z Z)<|AS (v:=vtg) cW Z htgT.isSl (Ae (e:=18) Z Z Z) ?_
 have bz:¬(((3200:Nat):Int)<(T.grd.length:Int)):=oM
 refine Cj false Z Z (A6 bz) (Ae (e:=18) Z Z Z)<|Ad 2 Z<|Al (p:=zP w.heap.size) 3 Md Z Z (Ae (e:=24) Z Z Z)<|Ag (p:=Ap (zP w.heap.size) 3) (.inr Z) vtx Bx Z (ab.ldp (i:=3) sM) (Ae (e:=24) Z Z Z)<|AS (v:=vtx) BQ Z htoT.slL (Ae (e:=24) Z Z Z)<|AG 117 [] [] [zI (oT.length:Int),zI ((1:Nat):Int),zI ((12:Nat):Int)] Z Z D2 (Ae (e:=24) Z Z Z) (.bool (decide (((1:Nat):Int)≤(oT.length:Int)) && decide ((oT.length:Int)≤((12:Nat):Int)))) (fun wq=>B4 wq _ _ _ oM oM oM) ?_
 rw[show(decide (((1:Nat):Int)≤(oT.length:Int)) && decide ((oT.length:Int)≤((12:Nat):Int)))=true from EK]
 refine Bq false Z Z (Ae (e:=24) Z Z Z)<|Ac 1 Z<|Aj Z<|A2<|fC [0,2,0,3,4] Z<|Al (p:=zP w.heap.size) 1 FV Z Z Aa<|Ag (p:=Ap (zP w.heap.size) 1) (.inr Z) vtc KQ Z (ab.ldp (i:=1) sM) Aa<|AS (v:=vtc) PY Z htcT.isSl Aa ?_
 have ce:=ab.lt
 refine AU (z:=zI (0:Int)) (by kernel_rfl) Aa fun w6 b0 c0 b4=>?_
 have b5:=b0.size
 have b6:=bn.trans b0
 have aq:=ab.ext b0
 replace b4:BX w6.heap w1.heap.size [zI (0:Int)]:=b4
 refine Bc (k:=0) (w:=w6) I9 Z Z ⟨rfl,rfl⟩ b4 sM Aa fun w8 b1 c1 b7=>?_
 replace b7:BX w8.heap w1.heap.size [zI (T.code.length:Int)]:=b7
 have bo:AD w w8:=b1.below b6 (fun _ h=>zE h) b6.size
 have b8:w6.heap.size≤w8.heap.size:=b1.size
 have b9:=aq.chg b1 (zB ·)
 refine Ai<|A0<|fC [0,2,0,0] Z<|Al (p:=zP w.heap.size) 1 FV Z Z Aa<|Ag (p:=Ap (zP w.heap.size) 1) (.inr Z) vtc KQ Z (b9.ldp (i:=1) sM) Aa<|AS (v:=vtc) PY Z htcT.isSl Aa<|Ac 1 Z<|A3 ?_
 refine AW (S:=Nat) (fun k=>([(37,zI (k:Int)),(1,zP w.heap.size),(3,zP w1.heap.size),(35,vtc),(36,zI (T.code.length:Int))])) (fun k W=>AD w W∧BX W.heap w.heap.size [zI ipT,vtc,vtg,vtx]∧BX W.heap w1.heap.size [zI (T.code.length:Int)]∧k≤T.code.length) (fun k=>T.code.length-k) 0 ⟨rfl,rfl,rfl,rfl,rfl,trivial⟩ ⟨bo,b9,b7,oM⟩ ?_
 clear bm bw b2 b3 bn c0 b0 b5 b6 c1 b1 bo b8 b9
 rintro k ρ10 ci ⟨a8,a0,a1,ba⟩
 have ar:w.heap.size≤ci.heap.size:=a8.size
 have c2:=a0.lt
 have c3:=a1.lt
 refine fC [0] Z ?_
 by_cases au:(k:Int)<(T.code.length:Int)
 ·refine AJ true Z Z (A5 au) Aa<|Ai<|A0<|Af Z<|A2<|A0<|A3<|fC [0,0,2,3,0,4] Z<|Ad 1 Z<|AE (v:=vtc) k PY K2 Z Z htcT.isSl Z sD Aa ?_
  obtain⟨cs14,bb,bc⟩:=htcT.get Be AM.zero (k:=k) sD
  obtain⟨rfl,ac⟩:=NU bb
  refine AF (p:=AA vtc k 4) (.inr Z) [zI<|(T.code.getD k AM.zero).op,zI<|(T.code.getD k AM.zero).a,zI<|(T.code.getD k AM.zero).b,zI<|(T.code.getD k AM.zero).num] FW Z (fun cg ak=>bc cg<|Ax.of_ext []<|a8.trans ak) Z Aa ?_
  have c4:=a0.lt
  have c5:=a1.lt
  refine AU (z:=.agg #[zI 0,zI 0,zI 0,zI 0]) UL Aa fun ck ad c6 al=>?_
  have bp:=ad.size
  have av:=a8.trans ad
  have a4:=a0.ext ad
  have a5:=a1.ext ad
  replace al:BX ck.heap ci.heap.size [zI 0,zI 0,zI 0,zI 0]:=al
  refine Ad 1 Z (B2 (vs:=[zI<|(T.code.getD k AM.zero).op,zI<|(T.code.getD k AM.zero).a,zI<|(T.code.getD k AM.zero).b,zI<|(T.code.getD k AM.zero).num]) FW Z Z (by intro u hu;simp only[ze,z2,or_false]at hu;rcases hu with rfl|rfl|rfl|rfl <;> first|exact⟨rfl,rfl⟩) al Z Z Aa fun ch ae c7 am=>?_)
  replace am:BX ch.heap ci.heap.size [zI ((T.code.getD k AM.zero).op),zI ((T.code.getD k AM.zero).a),zI ((T.code.getD k AM.zero).b),zI ((T.code.getD k AM.zero).num)]:=am
  have af:AD w ch:=ae.below av (fun _ h=>zE h) av.size
  have bq:ck.heap.size≤ch.heap.size:=ae.size
  have aw:=a4.chg ae (zB ·)
  have bd:=a5.chg ae (zB ·)
  refine Ai<|fC [2,2,0,3,0] Z<|AF (p:=zP w.heap.size) (.inr Z) [zI ipT,vtc,vtg,vtx] Fh Z (fun cg ak=>LD.of_box<|BX.ext (w:=ch) aw ak) Z Aa<|AF (p:=zP ci.heap.size) (.inr Z) [zI<|(T.code.getD k AM.zero).op,zI<|(T.code.getD k AM.zero).a,zI<|(T.code.getD k AM.zero).b,zI<|(T.code.getD k AM.zero).num] FW Z (fun cg ak=>LD.of_box<|BX.ext (w:=ch) am ak) Z Aa<|Ad 1 Z ?_
  refine At 192 [] [] [.agg #[zI ipT,vtc,vtg,vtx],.agg #[zI<|(T.code.getD k AM.zero).op,zI<|(T.code.getD k AM.zero).a,zI<|(T.code.getD k AM.zero).b,zI<|(T.code.getD k AM.zero).num],zI (k:Int)] Z Z bU Aa (IO _ a.length (ipT) vtc vtg vtx (T) (oT) (⟨(T.code.getD k AM.zero).op,(T.code.getD k AM.zero).a,(T.code.getD k AM.zero).b,(T.code.getD k AM.zero).num⟩:AM) _ _hipT (htcT.ext (An Be) af) (htgT.ext (An Bj) af) (htoT.ext g1 af) ⟨ac.1,ac.2.1,ac.2.2.1,ac.2.2.2⟩ oM oM oM (by have h9:=hK.form k oM;rw[Int.toNat_natCast];exact h9)) ?_
  rintro co cp ⟨rfl,a9⟩
  refine⟨_,rfl,a9,?_⟩
  have br:=a9.size
  have be:=af.trans a9
  have ag:=aw.ext a9
  have ah:=bd.ext a9
  exact Bq false Z Z Aa<|Ai<|Aj Z<|A2<|Ab _ [0,0] Z<|AR ((k+1:Nat):Int) Z Z (Bl oM sD) Aa<|Ac 1 Z ⟨k+1,_,rfl,zR,⟨be,ag,ah,oM⟩,zD⟩
 refine AJ false Z Z (A6 au) Aa<|Ai<|A0<|Aj Z<|A4<|Az<|Az<|Aw<|A0<|fC [0,2,0,0] Z<|Al (p:=zP w.heap.size) 2 O3 Z Z Aa<|Ag (p:=Ap (zP w.heap.size) 2) (.inr Z) vtg UJ Z (a0.ldp (i:=2) sM) Aa<|AS (v:=vtg) cW Z htgT.isSl Aa<|Ac 1 Z<|A3 ?_
 refine AW (S:=Nat) (fun j=>([(51,zI (j:Int)),(1,zP w.heap.size),(3,zP w1.heap.size),(49,vtg),(50,zI (T.grd.length:Int))])) (fun j W=>AD w W∧BX W.heap w.heap.size [zI ipT,vtc,vtg,vtx]∧BX W.heap w1.heap.size [zI (T.code.length:Int)]∧j≤T.grd.length) (fun j=>T.grd.length-j) 0 ⟨rfl,rfl,rfl,rfl,rfl,trivial⟩ ⟨a8,a0,a1,oM⟩ ?_
 clear a1 a0 a8 ar
 rintro j ρ22 cf ⟨aa,a2,a3,bf⟩
 have bs:w.heap.size≤cf.heap.size:=aa.size
 have c8:=a2.lt
 have c9:=a3.lt
 refine fC [0] Z ?_
 by_cases ax:(j:Int)<(T.grd.length:Int)
 ·refine AJ true Z Z (A5 ax) Aa<|Ai<|A0<|Af Z<|A2<|A0<|A3<|fC [0,2,3,4] Z<|AE (v:=vtg) j cW PZ Z Z htgT.isSl Z sD Aa ?_
  obtain⟨cs26,bg,bh⟩:=htgT.get Bj Jb.zero (k:=j) sD
  obtain⟨rfl,bi⟩:=Zi bg
  refine AF (p:=AA vtg j 2) (.inr Z) [zI<|(T.grd.getD j Jb.zero).reg,.bool<|(T.grd.getD j Jb.zero).z] UM Z (fun cg ak=>bh cg<|Ax.of_ext []<|aa.trans ak) Z Aa ?_
  have ca:=a2.lt
  have cb:=a3.lt
  refine AU (z:=.agg #[zI 0,.bool false]) cX Aa fun cm ai cc an=>?_
  have bt:=ai.size
  have ay:=aa.trans ai
  have a6:=a2.ext ai
  have a7:=a3.ext ai
  replace an:BX cm.heap cf.heap.size [zI 0,.bool false]:=an
  refine B2 (vs:=[zI<|(T.grd.getD j Jb.zero).reg,.bool<|(T.grd.getD j Jb.zero).z]) UM Z Z (by intro u hu;simp only[ze,z2,or_false]at hu;rcases hu with rfl|rfl <;> first|exact⟨rfl,rfl⟩) an Z Z Aa fun cj aj cd ao=>?_
  replace ao:BX cj.heap cf.heap.size [zI ((T.grd.getD j Jb.zero).reg),.bool ((T.grd.getD j Jb.zero).z)]:=ao
  have bj:AD w cj:=aj.below ay (fun _ h=>zE h) ay.size
  have bu:cm.heap.size≤cj.heap.size:=aj.size
  have bk:=a6.chg aj (zB ·)
  have az:=a7.chg aj (zB ·)
  refine Ai<|fC [0,2,2,0,0,0] Z ?_
  have hgj:=hK.gd j oM
  refine Al (p:=zP cf.heap.size) 0 X9 Z Z Aa<|Ag (p:=Ap (zP cf.heap.size) 0) (.inr Z) (zI<|(T.grd.getD j Jb.zero).reg) AI Z (ao.ldp (i:=0) sM) Aa<|Ag (p:=zP w1.heap.size) (.inr Z) (zI (T.code.length:Int)) AI Z (az.ld (k:=0) sM) Aa ?_
  refine BJ ((T.code.length:Int)-((1:Nat):Int)) Z Z (DH sD sD) Aa ?_
  refine AG 117 [] [] [zI<|(T.grd.getD j Jb.zero).reg,zI ((0:Nat):Int),zI ((T.code.length:Int)-((1:Nat):Int))] Z Z D2 Aa (.bool (decide (((0:Nat):Int)≤((T.grd.getD j Jb.zero).reg)) && decide (((T.grd.getD j Jb.zero).reg)≤((T.code.length:Int)-((1:Nat):Int))))) (fun wq=>B4 wq _ _ _ bi oM oM) ?_
  rw[show(decide (((0:Nat):Int)≤((T.grd.getD j Jb.zero).reg)) && decide (((T.grd.getD j Jb.zero).reg)≤((T.code.length:Int)-((1:Nat):Int))))=true from EK]
  exact Bq false Z Z Aa<|Ai<|Aj Z<|A2<|Ab _ [0,0] Z<|AR ((j+1:Nat):Int) Z Z (Bl oM sD) Aa<|Ac 1 Z ⟨j+1,_,rfl,zR,⟨bj,bk,az,oM⟩,zD⟩
 refine AJ false Z Z (A6 ax) Aa<|Ai<|A0<|Aj Z<|A4<|Az<|Az<|Aw<|fC [0,2,0,3,0,0] Z<|Al (p:=zP w.heap.size) 3 Md Z Z Aa<|Ag (p:=Ap (zP w.heap.size) 3) (.inr Z) vtx Bx Z (a2.ldp (i:=3) sM) Aa<|Nw [] [zP w1.heap.size] Z Z Aa ?_
 refine At 168 [] [] [vtx,.func (.func 193) #[] #[zP w1.heap.size]] Z Z XY Aa (Cv _ _ _ 193 [] [zP w1.heap.size] (fun x=>!(decide (0≤x) && decide (x≤(T.code.length:Int)-1))) (htoT.ext g1 aa).rd bV fun x hx wz hw=>Jw wz x w1.heap.size (T.code.length:Int) hx ((BX.ext (w:=cf) a3 hw).ld (k:=0) sM) oM oM) ?_
 rintro cq cr ⟨rfl,ap⟩
 refine⟨_,rfl,ap,?_⟩
 have bv:=ap.size
 have bl:=aa.trans ap
 rw[show(oT.any (fun x=>!(decide (0≤x) && decide (x≤(T.code.length:Int)-1))))=false from hK.any]
 exact Bq true Z Z Aa<|Ac 1 Z<|A1<|Ah [2] Z (.bool true) Z ⟨rfl,bl⟩
theorem Oh (w:World)(a:Sr)(ipT:Int)(vtc vtg vtx:Value)(T:Tp)(oT:Sr)(vl:Value)(L:List (Sr))(_hipT:BG ipT)(htcT:RN [] (E1 4 ON) w.heap vtc T.code)(htgT:RN [] (E1 2 OO) w.heap vtg T.grd)(htoT:RN [] (Bd rI) w.heap vtx oT)(hL:RN [] (Bd (Bd rI)) w.heap vl L)(hqL:Cs vl)(hip:ipT=(a.length:Int))(hR:Sk a T oT)(hLL:∀k,k<L.length→(L.getD k []).length=a.length∧Bb (L.getD k [])=true) :
  Calls Tryz.prog 108 #[(.agg #[(zI ipT),vtc,vtg,vtx]),vl] w (fun e w'=>e=.returned (zI 0)∧AD w w'):=by
 refine Au [.agg #[zI ipT,vtc,vtg,vtx],vl] 22 Tryz.func108 Z Z sM ?_
 have ac:AD w w:=AD.refl w
 have hl_vtx:=htoT.lenL
 unfold maxLen at hl_vtx
 have ap:=hL.lenL
 unfold maxLen at ap
 refine fC [3,0] Z (Bv (cs:=#[zI ipT,vtc,vtg,vtx]) Z Aa fun w1 a8 ai a6=>?_)
 have a9:=a8.size
 have a2:=ac.trans a8
 replace a6:BX w1.heap w.heap.size [zI ipT,vtc,vtg,vtx]:=a6
 refine Ac 1 Z<|A0<|fC [2,3,0] Z<|AF (p:=zP w.heap.size) (.inr Z) [zI ipT,vtc,vtg,vtx] Fh Z (fun aq aj=>LD.of_box<|BX.ext (w:=w1) a6 aj) Z Aa<|At 116 [] [] [.agg #[zI ipT,vtc,vtg,vtx]] Z Z bI Aa (KC _ a (ipT) vtc vtg vtx (T) (oT) _hipT (htcT.ext (An Be) a2) (htgT.ext (An Bj) a2) (htoT.ext g1 a2) oM hR) ?_
 rintro e2 w2 ⟨rfl,a3⟩
 refine⟨_,rfl,a3,?_⟩
 have aa:=a3.size
 have ad:=a2.trans a3
 have a4:=a6.ext a3
 refine Bq false Z Z Aa<|Ai<|Aj Z<|A2<|A0<|fC [0,0,0] Z<|Ad 1 Z<|AS (v:=vl) Cb Z hL.slL Aa<|Ac 1 Z<|A3<|AW (S:=Nat) (fun k=>([(12,zI (k:Int)),(2,zP w.heap.size),(10,vl),(11,zI (L.length:Int))])) (fun k W=>AD w W∧BX W.heap w.heap.size [zI ipT,vtc,vtg,vtx]∧k≤L.length) (fun k=>L.length-k) 0 ⟨rfl,rfl,rfl,rfl,trivial⟩ ⟨ad,a4,oM⟩ ?_
 clear ac ai a8 a9 a2 a3 aa ad
 rintro k ρ3 w3 ⟨a5,a0,ae⟩
 have ak:w.heap.size≤w3.heap.size:=a5.size
 have ao:=a0.lt
 refine fC [0] Z ?_
 by_cases af:(k:Int)<(L.length:Int)
 ·refine AJ true Z Z (A5 af) Aa<|Ai<|A0<|Af Z<|A2<|A0<|A3<|fC [0,2,0] Z<|AE (v:=vl) k Cb Bo Z Z hL.slL Z sD Aa ?_
  obtain⟨ag,al,ah⟩:=RN.getL (w:=w) g1 [] (k:=k) hL sD
  have ab:=ah.lenL
  unfold maxLen at ab
  refine Ag (p:=AA vl k 1) (.inr Z) ag Bx Z (al _<|Ax.of_ext [] a5) Aa<|Ac 1 Z<|fC [0,0,2,3,0] Z ?_
  have hLk:=hLL k oM
  refine Ad 1 Z<|Al (p:=zP w.heap.size) 0 O2 Z Z Aa<|Ag (p:=Ap (zP w.heap.size) 0) (.inr Z) (zI ipT) AI Z (a0.ldp (i:=0) sM) Aa<|At 86 [] [] [ag,zI ipT] Z Z Uu Aa (CO _ _ _ _ (ah.ext g1 a5).rd _hipT) ?_
  rintro e7 w7 ⟨rfl,a7⟩
  refine⟨_,rfl,a7,?_⟩
  have am:=a7.size
  have an:=a5.trans a7
  have a1:=a0.ext a7
  rw[show(decide ((((L.getD k []).length:Nat):Int)=ipT) && Bb (L.getD k []))=true from(by rw[A5 oM,hLk.2];rfl)]
  exact Bq false Z Z Aa<|Ai<|Aj Z<|A2<|Ab _ [0,0] Z<|AR ((k+1:Nat):Int) Z Z (Bl oM sD) Aa<|Ac 1 Z ⟨k+1,_,rfl,zR,⟨an,a1,oM⟩,zD⟩
 exact AJ false Z Z (A6 af) Aa<|Ai<|A0<|Aj Z<|A4<|Az<|Az<|Aw<|fE Z<|A1<|Ah [4] Z (zI ((0:Nat):Int)) Z ⟨rfl,a5⟩
theorem Oi (w:World)(va:Value)(a:Sr)(vd:Value)(d:Sr)(ha:Rd (Bd rI) w.heap va a)(hd:Rd (Bd rI) w.heap vd d)(hl:d.length=a.length)(hla:a.length≤1000) :
  Calls Tryz.prog 110 #[va,vd] w (fun e w'=>∃v0:Value,e=.returned (v0)∧AD w w'∧Fr (BA (BA rI 2) 27) w.heap.size w'.heap.size w'.heap v0 (Fe a d 2)):=by
 refine Au [va,vd] 27 Tryz.func110 Z Z sM ?_
 have a9:AD w w:=AD.refl w
 have au:=ha.lenle
 have av:=hd.lenle
 refine fE Z<|fC [3,0] Z (Dy (BA rI 2) o1 Cb Bo Aa fun v1 w1 a4 af aa=>?_)
 have a5:=a4.size
 have ab:=a9.trans a4
 refine Ac 1 Z<|A0<|fC [0,0,0] Z<|Ad 1 Z<|AS (v:=va) BQ Z ha.isSl Aa<|Ac 1 Z<|A3 ?_
 refine AW (S:=Nat×Value) (fun⟨k,vo⟩=>([(5,vo),(11,zI (k:Int)),(1,vd),(9,va),(10,zI (a.length:Int))])) (fun⟨k,vo⟩ W=>AD w W∧Fr (BA (BA rI 2) 27) w.heap.size W.heap.size W.heap vo ((Fe a d 2).take k)∧k≤a.length) (fun⟨k,vo⟩=>a.length-k) (0,v1) ⟨rfl,rfl,rfl,rfl,rfl,trivial⟩ ⟨ab,aa.up o2,sD⟩ ?_
 clear a9 aa af a4 a5 ab
 rintro⟨k,vo⟩ ρ2 w2 ⟨a3,a2,ac⟩
 have ag:w.heap.size≤w2.heap.size:=a3.size
 refine fC [0] Z ?_
 by_cases ad:(k:Int)<(a.length:Int)
 ·refine AJ true Z Z (A5 ad) Aa<|Ai<|A0<|Af Z<|A2<|A0<|A3<|fC [0,0,2,0,0] Z<|Ad 1 Z<|AE (v:=va) k BQ Ck Z Z ha.isSl Z sD Aa ?_
  refine Ag (p:=AA va k 1) (.inr Z) (zI<|a.getD k 0) AI Z (Bp a3 (ha.getI sD).1) Aa<|Ac 2 Z<|Ab _ [0,0,0,0,0,2,3,3,4,0] Z<|Ad 4 Z ?_
  refine AE (v:=vd) k BQ Ck Z Z hd.isSl Z sD Aa ?_
  refine Ag (p:=AA vd k 1) (.inr Z) (zI<|d.getD k 0) AI Z (Bp a3 (hd.getI sD).1) Aa ?_
  refine XA (ys:=[a.getD k 0,d.getD k 0]) B1 BQ Ck Z Z Z Z (aG (ha.getI sD).2 (hd.getI sD).2) Aa fun v4 w4 a6 aq ah=>?_
  have ai:=a6.size
  have aj:=a3.trans a6
  have a0:=a2.ext (o2) a6
  refine Cd (u:=v4) (B:=w2.heap.size) o1 Cb Bo Z Z ah (by first|exact A7 _|omega) Aa fun v5 w5 a7 ar ak=>?_
  have al:=a7.size
  have a8:=aj.trans a7
  have a1:=a0.ext (o2) a7
  refine Kc o1 (v:=vo) (a:=v5) Cb Bo Z Z Z a1 a8.size ak oM a3.size sD (by unfold maxLen;first|omega|assumption|(simp;done)|(simp;omega)) Aa fun v6 w6 F6 ae am an=>?_
  have ao:AD w w6:=ae.below a8 (fun c hc=>A8 (A7 _) (am c hc).1) a8.size
  have ap:w5.heap.size≤w6.heap.size:=ae.size
  refine Ac 1 Z<|Ab _ [0,0] Z<|AR ((k+1:Nat):Int) Z Z (Bl oM sD) Aa<|Ac 1 Z ?_
  exact⟨(k+1,v6),_,rfl,zR,⟨ao,(by rw[Cn [] (by simp;omega),X1 oM];exact an.up o2),sD⟩,zD⟩
 exact AJ false Z Z (A6 ad) Aa<|Ai<|A0<|Aj Z<|A4<|Az<|Az<|Aw<|fC [0,0] Z<|Ac 2 Z<|A1<|Ah [4] Z vo Z ⟨vo,rfl,a3,(by have h:=a2.up o2;rwa [za (by simp;omega)]at h)⟩
theorem Mu (w:World)(ipT:Int)(vtc vtg vtx:Value)(T:Tp)(oT:Sr)(va:Value)(a:Sr)(vw:Value)(ws:Sr)(vd:Value)(d:Sr)(_hipT:BG ipT)(htcT:RN [] (E1 4 ON) w.heap vtc T.code)(htgT:RN [] (E1 2 OO) w.heap vtg T.grd)(htoT:RN [] (Bd rI) w.heap vtx oT)(ha:Rd (Bd rI) w.heap va a)(hws:Rd (Bd rI) w.heap vw ws)(hd:Rd (Bd rI) w.heap vd d)(hip:ipT=(a.length:Int))(hR:Sk a T oT)(hw:ws.length=oT.length∧Bb ws=true)(hdd:d.length=a.length∧Bb d=true) :
  Calls Tryz.prog 183 #[(.agg #[(zI ipT),vtc,vtg,vtx]),va,vw,vd] w (fun e w'=>e=.returned (zI 0)∧AD w w'):=by
 refine Au [.agg #[zI ipT,vtc,vtg,vtx],va,vw,vd] 26 Tryz.func183 Z Z sM ?_
 have ab:AD w w:=AD.refl w
 have hl_vtx:=htoT.lenL
 unfold maxLen at hl_vtx
 have ah:=ha.lenle
 have an:=hws.lenle
 have ao:=hd.lenle
 have hK:=hR.k
 have hni:=hK.nb
 have hcl:=hK.cl
 have ap:=hK.gl
 have hol:=hK.ol
 have hpos:=hK.pos
 refine fC [3,0] Z (Bv (cs:=#[zI ipT,vtc,vtg,vtx]) Z Aa fun w1 a8 al a3=>?_)
 have ac:=a8.size
 have a6:=ab.trans a8
 replace a3:BX w1.heap w.heap.size [zI ipT,vtc,vtg,vtx]:=a3
 refine Ac 1 Z<|fC [2,0,0,3,3,0] Z<|AF (p:=zP w.heap.size) (.inr Z) [zI ipT,vtc,vtg,vtx] Fh Z (fun aq ad=>LD.of_box<|BX.ext (w:=w1) a3 ad) Z Aa<|Ad 2 Z (Ro (x0:=a) (x1:=d) Cb Bo Z Z Z (RN.of<|ha.ext g1 a6) (RN.of<|hd.ext g1 a6) Aa fun v2 w2 a7 am a9 ae=>?_)
 have af:=a7.size
 have a4:=a6.trans a7
 have a0:=a3.ext a7
 refine At 108 [] [] [.agg #[zI ipT,vtc,vtg,vtx],v2] Z Z bF Aa (Oh _ a (ipT) vtc vtg vtx (T) (oT) v2 ([a,d]) _hipT (htcT.ext (An Be) a4) (htgT.ext (An Bj) a4) (htoT.ext g1 a4) a9 ae oM hR (by intro k hk;match k,hk with|0,_=>exact⟨rfl,hR.n⟩|1,_=>exact hdd)) ?_
 rintro e3 w3 ⟨rfl,a1⟩
 refine⟨_,rfl,a1,?_⟩
 have ag:=a1.size
 have aa:=a4.trans a1
 have a2:=a0.ext a1
 refine Ac 1 Z<|A0<|fC [0,0,0,0,0,2,0,3,0,0] Z<|Ad 1 Z ?_
 have ai:0=((0:Nat):Int):=rfl
 refine As true Z Z (A5 ai) Aa<|Ad 2 Z<|Al (p:=zP w.heap.size) 3 Md Z Z (Ae (e:=17) Z Z Z)<|Ag (p:=Ap (zP w.heap.size) 3) (.inr Z) vtx Bx Z (a2.ldp (i:=3) sM) (Ae (e:=17) Z Z Z)<|AS (v:=vtx) BQ Z htoT.slL (Ae (e:=17) Z Z Z)<|At 86 [] [] [vw,zI (oT.length:Int)] Z Z Uu (Ae (e:=17) Z Z Z) (CO _ _ _ _ (hws.ext g1 aa) oM) ?_
 rintro e6 w6 ⟨rfl,a5⟩
 refine⟨_,rfl,a5,?_⟩
 have aj:=a5.size
 have ak:=aa.trans a5
 rw[show(decide ((ws.length:Int)=(oT.length:Int)) && Bb ws)=true from(by rw[A5 oM,hw.2];rfl)]
 exact Bq false Z Z (Ae (e:=17) Z Z Z)<|Ac 1 Z<|Aj Z<|A2<|fC [0,0] Z<|Ac 2 Z<|A1<|Ah [8] Z (zI 0) Z ⟨rfl,ak⟩
theorem Oj (w:World)(ipT:Int)(vtc vtg vtx:Value)(T:Tp)(oT:Sr)(va:Value)(a:Sr)(vw:Value)(ws:Sr)(vd:Value)(d:Sr)(_hipT:BG ipT)(htcT:RN [] (E1 4 ON) w.heap vtc T.code)(htgT:RN [] (E1 2 OO) w.heap vtg T.grd)(htoT:RN [] (Bd rI) w.heap vtx oT)(ha:Rd (Bd rI) w.heap va a)(hws:Rd (Bd rI) w.heap vw ws)(hd:Rd (Bd rI) w.heap vd d)(hip:ipT=(a.length:Int))(hR:Sk a T oT)(hw:ws.length=oT.length∧Bb ws=true)(hdd:d.length=a.length∧Bb d=true) :
  Calls Tryz.prog 105 #[(.agg #[(zI ipT),vtc,vtg,vtx]),va,vw,vd] w (fun e w'=>∃v0:Value,e=.returned (.tuple #[v0,zI 0])∧AD w w'∧RN [] (Bd (Bd rI)) w'.heap v0 (JW T.code (Bi 2 (Fe a d 2) T.code) oT ws)∧Cs v0):=by
 refine Au [.agg #[zI ipT,vtc,vtg,vtx],va,vw,vd] 36 Tryz.func105 Z Z sM ?_
 have ak:AD w w:=AD.refl w
 have hl_vtx:=htoT.lenL
 unfold maxLen at hl_vtx
 have ay:=ha.lenle
 have az:=hws.lenle
 have b0:=hd.lenle
 have hK:=hR.k
 have hni:=hK.nb
 have hcl:=hK.cl
 have b2:=hK.gl
 have hol:=hK.ol
 have hpos:=hK.pos
 refine fC [3,0,0] Z (Bv (cs:=#[zI ipT,vtc,vtg,vtx]) Z Aa fun w1 aj ax ab=>?_)
 have al:=aj.size
 have a3:=ak.trans aj
 replace ab:BX w1.heap w.heap.size [zI ipT,vtc,vtg,vtx]:=ab
 refine Ac 2 Z<|A0<|fC [2,0,0,0,3,0] Z<|AF (p:=zP w.heap.size) (.inr Z) [zI ipT,vtc,vtg,vtx] Fh Z (fun b1 a5=>LD.of_box<|BX.ext (w:=w1) ab a5) Z Aa<|Ad 3 Z<|At 183 [] [] [.agg #[zI ipT,vtc,vtg,vtx],va,vw,vd] Z Z bR Aa (Mu _ (ipT) vtc vtg vtx (T) (oT) _ _ _ _ _ _ _hipT (htcT.ext (An Be) a3) (htgT.ext (An Bj) a3) (htoT.ext g1 a3) (ha.ext g1 a3) (hws.ext g1 a3) (hd.ext g1 a3) oM hR hw hdd) ?_
 rintro e2 w2 ⟨rfl,ac⟩
 refine⟨_,rfl,ac,?_⟩
 have am:=ac.size
 have ag:=a3.trans ac
 have a2:=ab.ext ac
 refine Ac 1 Z<|fC [0,0] Z<|Ad 1 Z ?_
 have an:¬(0≠((0:Nat):Int)):=(fun h9=>h9 Z)
 refine AT false Z Z (A6 an) Aa<|Ai<|Aj Z<|A2<|A0<|AQ _ [1,0,0,3,3,0,0,0,0,0] mixed (by kernel_rfl)<|AF (p:=zP w.heap.size) (.inl Z) [zI ipT,vtc,vtg,vtx] Fh Z (fun b1 a5=>LD.of_box<|BX.ext (w:=w2.drew) a2 a5) Z Aa<|Ad 2 Z<|At 110 [] [] [va,vd] Z Z bH Aa (Oi _ _ _ _ _ (ha.ext g1 ag.drew) (hd.ext g1 ag.drew) oM oM) ?_
 rintro e4 w4 ⟨a6,rfl,a4,a0⟩
 refine⟨_,rfl,a4,?_⟩
 replace a4:=a4.of_drew
 have ao:=a4.size
 have ad:=ag.trans a4
 have a7:=a2.ext a4
 replace a0:=a0.low (B':=w2.heap.size)<|A7 _
 refine At 109 [] [] [.agg #[zI ipT,vtc,vtg,vtx],a6,zI ((1:Nat):Int)] Z Z bG Aa (HR _ (ipT) vtc vtg vtx (T) (oT) a6 (Fe a d 2) ((1:Nat):Int) _hipT (htcT.ext (An Be) ad) (htgT.ext (An Bj) ad) (htoT.ext g1 ad) (RN.of_fr2 a0 fun b hb=>absurd hb z2) a0.cap oM oM (by exact DK hR.n hdd.2) (by intro k hk;rw[C6];exact hR.k.form k hk) oM) ?_
 rintro e5 w5 ⟨v5,c5,rfl,ae,a8,ah⟩
 refine⟨_,rfl,ae,?_⟩
 have ap:=ae.size
 have a9:=ad.trans ae
 have aa:=a7.ext ae
 have aq:c5=0∨c5=6:=by unfold aJ at a8;omega
 have hcz:c5=0:=by rcases a8 with h9|h9;exact h9.1;exact absurd (hR.nz hdd.2) h9.2
 obtain⟨a1,hrvc⟩:=ah hcz
 replace a1:RN [] (Bd (Bd rI)) w5.heap v5 (Bi 2 (Fe a d 2) T.code):=a1
 refine Ad 1 Z<|AO (vs:=[v5,zI c5]) v5 Z Z Aa<|AO (vs:=[v5,zI c5]) (zI c5) Z Z Aa<|Ac 2 Z<|A0<|fC [0,0] Z<|Ad 1 Z ?_
 have ar:¬(c5≠((0:Nat):Int)):=(fun h9=>h9 hcz)
 refine AT false Z Z (A6 ar) Aa<|Ai<|Aj Z<|A2<|fC [2,0,0,3,0,0] Z<|AF (p:=zP w.heap.size) (.inr Z) [zI ipT,vtc,vtg,vtx] Fh Z (fun b1 a5=>LD.of_box<|BX.ext (w:=w5) aa a5) Z Aa<|Ad 2 Z<|At 184 [] [] [.agg #[zI ipT,vtc,vtg,vtx],v5,vw] Z Z bS Aa (Ik _ 2 a.length [] (ipT) vtc vtg vtx (T) (oT) v5 (Bi 2 (Fe a d 2) T.code) vw (ws) (fun b hb=>absurd hb z2) _hipT (htcT.ext (An Be) a9) (htgT.ext (An Bj) a9) (htoT.ext g1 a9) a1 hrvc (hws.ext g1 a9) oM (by exact hR.reg hdd.2) (by rw[C7]) oM oM hR.k.out hw.2 hR.k.form) ?_
 rintro e7 w7 ⟨v7,rfl,af,au,ai⟩
 refine⟨_,rfl,af,?_⟩
 have av:=af.size
 have aw:=a9.trans af
 exact Ac 2 Z<|A1<|Ah [8,9] Z (.tuple #[v7,zI ((0:Nat):Int)]) Z ⟨_,rfl,aw,au,ai⟩
theorem G5 (w:World)(ipT:Int)(vtc vtg vtx:Value)(T:Tp)(oT:Sr)(va:Value)(a:Sr)(vw:Value)(ws:Sr)(_hipT:BG ipT)(htcT:RN [] (E1 4 ON) w.heap vtc T.code)(htgT:RN [] (E1 2 OO) w.heap vtg T.grd)(htoT:RN [] (Bd rI) w.heap vtx oT)(ha:Rd (Bd rI) w.heap va a)(hws:Rd (Bd rI) w.heap vw ws)(hip:ipT=(a.length:Int))(hR:Sk a T oT)(hw:ws.length=oT.length∧Bb ws=true) :
  Calls Tryz.prog 31 #[(.agg #[(zI ipT),vtc,vtg,vtx]),va,vw] w (fun e w'=>∃v0:Value,e=.returned (.tuple #[v0,zI 0])∧AD w w'∧Fr (BA rI 2) w.heap.size w'.heap.size w'.heap v0 (Eg (MI 2 T oT ws (Fe a a 2)))):=by
 refine Au [.agg #[zI ipT,vtc,vtg,vtx],va,vw] 25 Tryz.func31 Z Z sM ?_
 have af:AD w w:=AD.refl w
 have hl_vtx:=htoT.lenL
 unfold maxLen at hl_vtx
 have al:=ha.lenle
 have ap:=hws.lenle
 have hK:=hR.k
 have hni:=hK.nb
 have hcl:=hK.cl
 have ar:=hK.gl
 have hol:=hK.ol
 have hpos:=hK.pos
 refine fC [3,0,0] Z (Bv (cs:=#[zI ipT,vtc,vtg,vtx]) Z Aa fun w1 ab ao a5=>?_)
 have ag:=ab.size
 have a0:=af.trans ab
 replace a5:BX w1.heap w.heap.size [zI ipT,vtc,vtg,vtx]:=a5
 refine Ac 2 Z<|fC [2,0,0,0,3,0,0,0,0,0] Z<|AF (p:=zP w.heap.size) (.inr Z) [zI ipT,vtc,vtg,vtx] Fh Z (fun aq a9=>LD.of_box<|BX.ext (w:=w1) a5 a9) Z Aa<|Ad 3 Z<|At 105 [] [] [.agg #[zI ipT,vtc,vtg,vtx],va,vw,va] Z Z bC Aa (Oj _ (ipT) vtc vtg vtx (T) (oT) va (a) vw (ws) va (a) _hipT (htcT.ext (An Be) a0) (htgT.ext (An Bj) a0) (htoT.ext g1 a0) (ha.ext g1 a0) (hws.ext g1 a0) (ha.ext g1 a0) oM hR hw (by exact⟨rfl,hR.n⟩)) ?_
 rintro e2 w2 ⟨v2,rfl,a6,ac,aa⟩
 refine⟨_,rfl,a6,?_⟩
 have ah:=a6.size
 have a7:=a0.trans a6
 have a1:=a5.ext a6
 refine Ad 1 Z<|AO (vs:=[v2,zI 0]) v2 Z Z Aa<|AO (vs:=[v2,zI 0]) (zI 0) Z Z Aa<|Ac 2 Z<|A0<|fC [0,0] Z<|Ad 1 Z ?_
 have ai:¬(0≠((0:Nat):Int)):=(fun h9=>h9 Z)
 refine AT false Z Z (A6 ai) Aa<|Ai<|Aj Z<|A2<|fC [2,0,3,3,0,0] Z<|AF (p:=zP w.heap.size) (.inr Z) [zI ipT,vtc,vtg,vtx] Fh Z (fun aq a9=>LD.of_box<|BX.ext (w:=w2) a1 a9) Z Aa<|Ad 1 Z<|At 107 [] [] [.agg #[zI ipT,vtc,vtg,vtx],v2] Z Z bE Aa (Il _ 2 a.length [] (ipT) vtc vtg vtx (T) (oT) v2 (JW T.code (Bi 2 (Fe a a 2) T.code) oT ws) (fun b hb=>absurd hb z2) _hipT (htcT.ext (An Be) a7) (htgT.ext (An Bj) a7) (htoT.ext g1 a7) ac aa oM oM (by exact hR.adj hR.n) (by rw[Uf,C7];omega) oM hR.k.form) ?_
 rintro e4 w4 ⟨v4,rfl,a8,ad,aj⟩
 refine⟨_,rfl,a8,?_⟩
 have ak:=a8.size
 have ae:=a7.trans a8
 refine At 106 [] [] [v4] Z Z Rw Aa (EV _ _ _ (ad).rd (by rw[Re];omega) (by intro k hk;have h9:=((Rc hR.k.form:C4 2 (VU a.length 2 T.code<|JW T.code (Bi 2 (Fe a a 2) T.code) oT ws)) k hk).1;omega)) ?_
 rintro e6 w6 ⟨a2,rfl,a3,a4⟩
 refine⟨_,rfl,a3,?_⟩
 have am:=a3.size
 have an:=ae.trans a3
 exact Ac 2 Z<|A1<|Ah [6,7] Z (.tuple #[a2,zI ((0:Nat):Int)]) Z ⟨a2,rfl,an,(by first|(unfold Eg MI;rw[C6];exact(a4.up o1).low ae.size)|(exfalso;omega))⟩
theorem Ed (w:World)(dp:Nat)(vp:Value)(p:List Fn)(f:Int)(va:Value)(a:Sr)(vw:Value)(ws:Sr)(hp:RP [] dp w.heap vp p)(_hf:BG f)(ha:Rd (Bd rI) w.heap va a)(hws:Rd (Bd rI) w.heap vw ws)(hok:Ef p=true)(hz:LF p)(hf:0≤f∧f<(p.length:Int))(hl:(a.length:Int)=(p.getD f.toNat Fn.zero).params)(hna:Bb a=true)(hc:FS p f.toNat a=0)(hw:ws.length=(p.getD f.toNat Fn.zero).outs.length∧Bb ws=true) :
  Calls Tryz.prog 131 #[(.agg #[vp]),zI f,va,vw] w (fun e w'=>∃v0:Value,e=.returned (.tuple #[v0,zI 0])∧AD w w'∧Fr (BA rI 2) w.heap.size w'.heap.size w'.heap v0 (Vb p f.toNat a ws)):=by
 refine Au [.agg #[vp],zI f,va,vw] 28 Tryz.func131 Z Z sM ?_
 have av:AD w w:=AD.refl w
 have bc:=hp.lenle
 unfold maxLen at bc
 have bk:=ha.lenle
 have bl:=hws.lenle
 have bd:=CM hok
 have bn:=bd.par f.toNat oM
 have bo:=bd.outs f.toNat oM
 refine fC [3,0,0] Z (Bv (cs:=#[vp]) Z Aa fun w1 aq be ad=>?_)
 have aw:=aq.size
 have ai:=av.trans aq
 replace ad:BX w1.heap w.heap.size [vp]:=ad
 refine Ac 2 Z<|fC [2,0,0,3,0,0,0,3,4,0] Z<|AF (p:=zP w.heap.size) (.inr Z) [vp] Ba Z (fun bm aj=>LD.of_box<|BX.ext (w:=w1) ad aj) Z Aa<|Ad 2 Z<|At 29 [] [] [.agg #[vp],zI f,va] Z Z aW Aa (IV _ dp vp p (f) va a (hp.ext (An<|Av dp) ai) _hf (RN.of<|ha.ext g1 ai) hok hz oM oM hna) ?_
 rintro e2 w2 ⟨i2,a6,au,b4,bj,T2,s2,c2,rfl,ae,a5,ax,ak,al,am⟩
 refine⟨_,rfl,ae,?_⟩
 have ay:=ae.size
 have az:=ai.trans ae
 have a2:=ad.ext ae
 have b0:FS p (f).toNat a=c2:=LT (A7 1) bd oM hna (IC (C1 hna) (Dh _)) oM a5
 have an:=AD.refl w2
 refine Ad 1 Z<|AO (vs:=[.agg #[zI i2,a6,au,b4],zI c2]) (.agg #[zI i2,a6,au,b4]) Z Z Aa<|AO (vs:=[.agg #[zI i2,a6,au,b4],zI c2]) (zI c2) Z Z Aa ?_
 have bf:=a2.lt
 refine AU (z:=.agg #[zI 0,zN,zN,zN]) Zt Aa fun w3 af bg ao=>?_
 have b1:=af.size
 have ar:=az.trans af
 have b2:=an.trans af
 replace ao:BX w3.heap w2.heap.size [zI 0,zN,zN,zN]:=ao
 refine B2 (vs:=[zI i2,a6,au,b4]) Fh Z Z (fun u hu=>by rcases ze.1 hu with rfl|hu;exact⟨rfl,rfl⟩;exact ak u hu) ao Z Z Aa fun w5 ag bh ap=>?_
 replace ap:BX w5.heap w2.heap.size [zI i2,a6,au,b4]:=ap
 have ah:AD w w5:=ag.below ar (fun _ h=>zE h) ar.size
 have b3:w3.heap.size≤w5.heap.size:=ag.size
 have a4:Ax [w2.heap.size] w2 w5:=(Ax.of_ext _ b2).trans ag
 have a1:=AD.refl w5
 refine Ac 1 Z<|A0<|fC [0,0] Z<|Ad 1 Z ?_
 have b5:¬(c2≠((0:Nat):Int)):=oM
 refine AT false Z Z (A6 b5) Aa<|Ai<|Aj Z<|A2<|fC [2,0,0,3,0,0,0,0] Z ?_
 have a7:c2=0:=by omega
 obtain⟨bi,hTB,b6,hxl,hEn,b7,b8,b9⟩:=am a7
 have a8:=a5
 rw[a7]at a8
 have hRc:Jg p (f).toNat a bj T2:=⟨bd,zO,zO,hna,_,a8⟩
 have hTR:=hRc.tpr hTB b6
 have a9:RN [] (E1 4 ON) w5.heap a6 T2.code:=RN.ext (An Be) (RN.none (RN.chg (An Be) (RG.rnG (g:=w2.heap.size) (An Be) b7 oM) a4)) a1
 have aa:RN [] (E1 2 OO) w5.heap au T2.grd:=RN.ext (An Bj) (RN.none (RN.chg (An Bj) (RG.rnG (g:=w2.heap.size) (An Bj) b8 oM) a4)) a1
 have ab:RN [] (Bd rI) w5.heap b4 bj:=RN.ext g1 (RN.none (RN.chg g1 (RG.rnG (g:=w2.heap.size) g1 b9 oM) a4)) a1
 refine AF (p:=zP w2.heap.size) (.inr Z) [zI i2,a6,au,b4] Fh Z (fun bm aj=>LD.of_box<|BX.ext (w:=w5) ap aj) Z Aa<|Ad 2 Z<|At 31 [] [] [.agg #[zI i2,a6,au,b4],va,vw] Z Z aX Aa (G5 _ (i2) a6 au b4 (T2) (bj) _ _ _ _ al a9 aa ab (ha.ext g1 ah) (hws.ext g1 ah) oM hTR (by exact⟨zO,hw.2⟩)) ?_
 rintro e8 w8 ⟨a0,rfl,a3,ac⟩
 refine⟨_,rfl,a3,?_⟩
 have ba:=a3.size
 have bb:=ah.trans a3
 exact AO (vs:=[a0,zI 0]) a0 Z Z Aa<|AO (vs:=[a0,zI 0]) (zI 0) Z Z Aa<|Ac 2 Z<|A1<|Ah [8,9] Z (.tuple #[a0,zI 0]) Z ⟨a0,rfl,bb,(by have h:=(ac.up o1).low ah.size;rwa [hRc.bkR (m:=2) (by decide) (DK hRc.n hRc.n)<|DX _ _]at h)⟩
theorem Pr {p:Prop}(h:p:=by first|(have h:=Gf _ _ _;rw[NZ hgc,hLg,show(i+1).toNat=0 from by omega];exact h)|(rw[Hn (by rw[I7 hg0];omega)];exact Gf _ _ _)|(rw[Hn (by rw[GB (by rw[Gz oM];omega)];exact(by rw[Gz oM];omega))];exact Gf _ _ _)|(rw[Hn (by rw[GB (by rw[GA oM (Bz (by assumption))];omega)];exact(by rw[GA oM (Bz (by assumption))];omega))];exact Gf _ _ _)):p:=h
theorem Mv {p:Prop}(h:p:=by first|(rw[hgc];done)|(rw[hgc];rfl)|(rw[I7 hg0];done)|(rw[GB (by rw[Gz oM];omega),Gz oM];done)|(rw[GB (by rw[GA oM (Bz (by assumption))];omega),GA oM (Bz (by assumption))];rfl)):p:=h
theorem Mw {p:Prop}(h:p:=by first|(rw[hgc];omega)|(rw[I7 hg0];exact ‹TB p f.toNat a n.toNat›.code)|(rw[GB (by rw[Gz oM];omega)];omega)|(rw[GB (by rw[GA oM (Bz (by assumption))];omega)];omega)):p:=h
theorem Yn {p:Prop}(h:p:=by rw[show(i-1+1).toNat=i.toNat from by omega,hLg,show(i+1).toNat=i.toNat+1 from by omega,hti];rfl):p:=h
theorem Yo {p:Prop}(h:p:=by rw[hti];exact(hCh.rc (k:=i.toNat) oM).elim fun _ h=>h.elim fun _ h=>h.bkR_num):p:=h
theorem In (w:World)(dp:Nat)(vp:Value)(p:List Fn)(f:Int)(va:Value)(a:Sr)(vw:Value)(ws:Sr)(n:Int)(hp:RP [] dp w.heap vp p)(_hf:BG f)(ha:Rd (Bd rI) w.heap va a)(hws:Rd (Bd rI) w.heap vw ws)(_hn:BG n)(hz:LF p) :
  Calls Tryz.prog 47 #[(.agg #[vp]),zI f,va,vw,zI n] w (fun e w'=>∃v0:Value,e=.returned (.tuple #[v0,zI (Jh p f a ws n)])∧AD w w'∧Fr (BA rI 2) w.heap.size w'.heap.size w'.heap v0 (Zn p f a ws n)∧(0≤Jh p f a ws n∧Jh p f a ws n≤9)):=by
 refine Au [.agg #[vp],zI f,va,vw,zI n] 66 Tryz.func47 Z Z sM ?_
 have c4:AD w w:=AD.refl w
 have dd:=hp.lenle
 unfold maxLen at dd
 have dh:=ha.lenle
 have di:=hws.lenle
 refine fC [3,0,0] Z (Bv (cs:=#[vp]) Z Aa fun w1 bz ch c0=>?_)
 have bb:=bz.size
 have bc:=c4.trans bz
 replace c0:BX w1.heap w.heap.size [vp]:=c0
 refine Ac 2 Z<|fC [2,0,0,0,3,3,0] Z<|AF (p:=zP w.heap.size) (.inr Z) [vp] Ba Z (fun de ay=>LD.of_box<|BX.ext (w:=w1) c0 ay) Z Aa<|Ad 3 Z (Ro (x0:=a) (x1:=ws) Cb Bo Z Z Z (RN.of<|ha.ext g1 bc) (RN.of<|hws.ext g1 bc) Aa fun v2 w2 bd ci cj d3=>?_)
 have be:=bd.size
 have c1:=bc.trans bd
 have bf:=c0.ext bd
 refine At 125 [] [] [.agg #[vp],zI f,v2] Z Z Ux Aa (EG _ dp vp (p) _ v2 ([a,ws]) (hp.ext (An<|Av dp) c1) _hf cj d3 hz) ?_
 rintro e3 w3 ⟨rfl,b2⟩
 refine⟨_,rfl,b2,?_⟩
 have c5:=b2.size
 have b9:=c1.trans b2
 have ap:=bf.ext b2
 have ck:=cj.ext g2 b2
 refine Ac 1 Z<|A0<|fC [0,0,0,0,3,0,0] Z ?_
 have hcr:=Iu p f [a,ws]
 refine Ad 1 Z ?_
 by_cases cl:DO p f ([a,ws])=((0:Nat):Int)
 ·refine As true Z Z (A5 cl) Aa<|Ad 2 Z<|At 126 [] [] [zI n] Z Z XQ (Ae (e:=24) Z Z Z) (HG _ _ _hn) ?_
  rintro e6 w6 ⟨rfl,ba⟩
  refine⟨_,rfl,ba,?_⟩
  have d4:=ba.size
  have bg:=b9.trans ba
  have b1:=ap.ext ba
  have d5:=ck.ext g2 ba
  refine Bq (!(Ey n 0 40)) Z Z (Ae (e:=24) Z Z Z)<|Ac 1 Z ?_
  cases cm:(!(Ey n 0 40))
  ·refine Aj (by first|rfl|exact zW cm)<|A2<|A0<|fC [0,0] Z ?_
   have hdr:=M4 (p:=p) (f:=f) (a:=a) (ws:=ws) (n:=n)
   refine Ad 1 Z ?_
   by_cases cn:DO p f ([a,ws])≠((0:Nat):Int)
   ·refine AT true Z Z (A5 cn) Aa<|Ai<|Af Z<|fC [0,0,0] Z<|Ac 3 Z<|A1<|Ao ?_
    exact Ah [10,11] Z (.tuple #[zN,zI<|DO p f<|[a,ws]]) Z ⟨zN,Mv,bg,Pr,Mw⟩
   refine AT false Z Z (A6 cn) Aa<|Ai<|Aj Z<|A2<|fC [2,0,0,0,3,0,0,0,0,0] Z ?_
   have hg0:IG p f a ws n=0:=by first|exact PW oM (By (by assumption))|(exfalso;omega)
   have c6:=Um hg0
   have a6:=XO c6.1
   have da:=CM a6.1
   refine AF (p:=zP w.heap.size) (.inr Z) [vp] Ba Z (fun de ay=>LD.of_box<|BX.ext (w:=w6) b1 ay) Z Aa<|Ad 3 Z<|At 127 [] [] [.agg #[vp],zI f,va,zI n] Z Z Rx Aa (CF _ dp vp (p) _ _ _ _ (hp.ext (An<|Av dp) bg) _hf (ha.ext g1 bg) _hn da oM oM a6.2.2.2.1.2 oM oM) ?_
   rintro dj db ⟨a0,rfl,aj,aq,c7⟩
   refine⟨_,rfl,aj,?_⟩
   have co:=aj.size
   have a7:=bg.trans aj
   have b3:=b1.ext aj
   have c8:=d5.ext g2 aj
   refine Ad 1 Z<|AO (vs:=[a0,zI<|G8 p f.toNat a n.toNat]) a0 Z Z Aa<|AO (vs:=[a0,zI<|G8 p f.toNat a n.toNat]) (zI<|G8 p f.toNat a n.toNat) Z Z Aa<|Ac 2 Z<|A0<|fC [0,0] Z<|Ad 1 Z ?_
   by_cases bh:G8 p f.toNat a n.toNat≠((0:Nat):Int)
   ·refine AT true Z Z (A5 bh) Aa<|Ai<|Af Z<|fC [0,0,0] Z<|Ac 3 Z<|A1<|Ao ?_
    exact Ah [10,11] Z (.tuple #[zN,zI<|G8 p f.toNat a n.toNat]) Z ⟨zN,Mv,a7,Pr,Mw⟩
   refine AT false Z Z (A6 bh) Aa<|Ai<|Aj Z<|A2<|fC [0,3,0] Z ?_
   have hpar:=da.par f.toNat oM
   have hrk:G8 p f.toNat a n.toNat=0:=by omega
   have hCh:NX p f.toNat a n.toNat:=⟨da,zO,a6.2.2.1.2,a6.2.2.2.1.1,a6.2.2.2.1.2,hrk⟩
   have hgc:Jh p f a ws n=0:=by rw[I7 hg0];exact hrk
   have bi:Fr (BA (BA rI 2) 27) w6.heap.size db.heap.size db.heap a0 (EB (n.toNat+1) (DJ p f.toNat a)):=by have h:=aq;rwa [Nh hrk]at h
   have htl:(EB (n.toNat+1) (DJ p f.toNat a)).length=n.toNat+1:=by simp[EB]
   refine Ad 1 Z<|At 130 [] [] [vw] Z Z Ry Aa (BU _ _ _ (hws.ext g1 a7) oM) ?_
   rintro dk dm ⟨bj,rfl,a8,ar⟩
   refine⟨_,rfl,a8,?_⟩
   have bk:=a8.size
   have bl:=a7.trans a8
   have b4:=b3.ext a8
   have au:=bi.ext (o2) a8
   have d6:=c8.ext g2 a8
   refine Ac 1 Z<|A0<|fC [0,0,0] Z<|Ad 1 Z<|BJ (n-1) Z Z (DH oM oM) Aa<|Ac 1 Z<|A3 ?_
   refine AW (S:=Int×Value×Sr) (fun⟨i,vo,L⟩=>([(14,vo),(15,zI i),(1,zI f),(5,zP w.heap.size),(13,a0)])) (fun⟨i,vo,L⟩ W=>AD w W∧Fr (BA rI 2) db.heap.size W.heap.size W.heap vo L∧Fr (BA (BA rI 2) 27) w6.heap.size db.heap.size W.heap a0 (EB (n.toNat+1)<|DJ p f.toNat a)∧BX W.heap w.heap.size [vp]∧(-1≤i∧i<n)∧((L.length:Int)=(p.getD f.toNat Fn.zero).params)∧Bb L=true∧Oq p f.toNat a n.toNat ws=Oq p f.toNat a (i+1).toNat L∧w.heap.size<db.heap.size∧db.heap.size≤W.heap.size) (fun⟨i,vo,L⟩=>(i+1).toNat) (n-1,bj,ws) ⟨rfl,rfl,rfl,rfl,rfl,trivial⟩ ⟨bl,ar.up o1,au,b4,oM,oM,a6.2.2.2.2.2,(by rw[show(n-1+1).toNat=n.toNat from by omega]),oM,oM⟩ ?_
   clear c4 ch bz bb bc ci bd be c1 b2 c5 b9 ba aq aj ar a8 bk bl
   rintro⟨i,vo,L⟩ ρ17 df ⟨az,a2,a9,aa,c9,hLl,hLn,hLg,cp,cq⟩
   have cr:w.heap.size≤df.heap.size:=az.size
   have d7:=aa.lt
   refine A0<|fC [0,0] Z<|Ad 1 Z ?_
   by_cases bm:((0:Nat):Int)≤i
   ·refine DN true Z Z (A5 bm) Aa<|Ai<|Af Z<|A2<|A0<|A3<|A0<|AQ _ [1,0,0,0,0,1,0,3,0,0,0,0,0] mixed (by kernel_rfl) ?_
    have hti:=CE (f:=DJ p f.toNat a) (n:=n.toNat+1) (k:=i.toNat) [] oM
    have his:=(hCh.low (k:=i.toNat) oM).st
    have hin:=hCh.nx (k:=i.toNat) oM
    refine AF (p:=zP w.heap.size) (.inl Z) [vp] Ba Z (fun de ay=>LD.of_box<|BX.ext (w:=df.drew) aa ay) Z Aa<|Ad 3 Z<|AE (v:=a0) ((i).toNat) Cb Bo Z Z a9.isSl oM sD Aa ?_
    obtain⟨bn,bo,b5⟩:=a9.rd2.get (k:=(i).toNat) [] sD
    have ct:=b5.lenle
    refine Ag (p:=AA a0 ((i).toNat) 1) (.inl Z) bn Bx Z bo Aa<|Ad 1 Z<|At 131 [] [] [.agg #[vp],zI f,bn,vo] Z Z XR Aa (Ed _ dp vp (p) _ _ _ _ _ (hp.ext (An<|Av dp) az.drew) _hf b5 a2.rd1 a6.1 hz oM (by rw[hti];omega) (by rw[hti];exact his.2) (by rw[hti];exact hin) (by exact⟨zO,hLn⟩)) ?_
    rintro dn dq ⟨ah,rfl,a4,ab⟩
    refine⟨_,rfl,a4,?_⟩
    replace a4:=a4.of_drew
    have cu:=a4.size
    have ca:=az.trans a4
    have ak:=a9.ext (o2) a4
    have al:=aa.ext a4
    have c2:=b5.ext g1 a4
    have cv:=Bp a4 bo
    replace ab:=ab.low (B':=df.heap.size)<|A7 _
    refine Ad 1 Z<|AO (vs:=[ah,zI 0]) ah Z Z Aa<|AO (vs:=[ah,zI 0]) (zI 0) Z Z Aa<|Ac 2 Z<|fC [0,0] Z<|Ad 1 Z ?_
    have cb:¬(0≠((0:Nat):Int)):=(fun h9=>h9 Z)
    exact AT false Z Z (A6 cb) Aa<|Ai<|Aj Z<|A2<|Ab _ [0,0,0] Z<|Ad 1 Z<|BJ (i-1) Z Z (DH oM oM) Aa<|Ac 1 Z ⟨(i-1,ah,Vb p f.toNat ((EB (n.toNat+1)<|DJ p f.toNat a).getD ((i).toNat) []) L),_,rfl,zR,⟨ca,(ab.up o1).low oM,ak,al,oM,(by rw[ID,hti];omega),Yo,Yn,oM,oM⟩,zD⟩
   refine DN false Z Z (A6 bm) Aa<|Ai<|Aj Z<|A4<|Az<|Az<|Aw<|fC [0,0,0] Z<|Ac 3 Z<|A1 ?_
   exact Ah [10,11] Z (.tuple #[vo,zI ((0:Nat):Int)]) Z ⟨vo,Mv,az,(by first|(have h:=(a2.up o1).low a7.size;rw[NZ hgc,hLg,show(i+1).toNat=0 from by omega];exact h)|(rw[Hn (by rw[I7 hg0];omega)];exact(a2.up o1).low a7.size)|(rw[Hn (by rw[GB (by rw[Gz oM];omega)];exact(by rw[Gz oM];omega))];exact(a2.up o1).low a7.size)|(rw[Hn (by rw[GB (by rw[GA oM<|Bz (by assumption)];omega)];exact(by rw[GA oM<|Bz (by assumption)];omega))];exact(a2.up o1).low a7.size)),Mw⟩
  refine Af (by first|rfl|exact zW cm)<|Ab _ [0] Z<|Ac 1 Z<|A0<|fC [0,0] Z ?_
  have hdr:=M4 (p:=p) (f:=f) (a:=a) (ws:=ws) (n:=n)
  refine Ad 1 Z<|AT true Z Z (by decide) Aa<|Ai<|Af Z<|fC [0,0,0] Z<|Ac 3 Z<|A1<|Ao ?_
  exact Ah [10,11] Z (.tuple #[zN,zI ((2:Nat):Int)]) Z ⟨zN,Mv,bg,Pr,Mw⟩
 refine As false Z Z (A6 cl) Aa<|Ac 5 Z<|Aj Z<|A2<|A0<|fC [0,0] Z ?_
 have hdr:=M4 (p:=p) (f:=f) (a:=a) (ws:=ws) (n:=n)
 refine Ad 1 Z ?_
 by_cases bp:DO p f ([a,ws])≠((0:Nat):Int)
 ·refine AT true Z Z (A5 bp) Aa<|Ai<|Af Z<|fC [0,0,0] Z<|Ac 3 Z<|A1<|Ao ?_
  exact Ah [10,11] Z (.tuple #[zN,zI<|DO p f<|[a,ws]]) Z ⟨zN,Mv,b9,Pr,Mw⟩
 refine AT false Z Z (A6 bp) Aa<|Ai<|Aj Z<|A2<|fC [2,0,0,0,3,0,0,0,0,0] Z ?_
 have hg0:IG p f a ws n=0:=by first|exact PW oM (By (by assumption))|(exfalso;omega)
 have c6:=Um hg0
 have a6:=XO c6.1
 have da:=CM a6.1
 refine AF (p:=zP w.heap.size) (.inr Z) [vp] Ba Z (fun de ay=>LD.of_box<|BX.ext (w:=w3) ap ay) Z Aa<|Ad 3 Z<|At 127 [] [] [.agg #[vp],zI f,va,zI n] Z Z Rx Aa (CF _ dp vp (p) _ _ _ _ (hp.ext (An<|Av dp) b9) _hf (ha.ext g1 b9) _hn da oM oM a6.2.2.2.1.2 oM oM) ?_
 rintro dr dc ⟨a1,rfl,am,av,cc⟩
 refine⟨_,rfl,am,?_⟩
 have cw:=am.size
 have ac:=b9.trans am
 have b6:=ap.ext am
 have cd:=ck.ext g2 am
 refine Ad 1 Z<|AO (vs:=[a1,zI<|G8 p f.toNat a n.toNat]) a1 Z Z Aa<|AO (vs:=[a1,zI<|G8 p f.toNat a n.toNat]) (zI<|G8 p f.toNat a n.toNat) Z Z Aa<|Ac 2 Z<|A0<|fC [0,0] Z<|Ad 1 Z ?_
 by_cases bq:G8 p f.toNat a n.toNat≠((0:Nat):Int)
 ·refine AT true Z Z (A5 bq) Aa<|Ai<|Af Z<|fC [0,0,0] Z<|Ac 3 Z<|A1<|Ao ?_
  exact Ah [10,11] Z (.tuple #[zN,zI<|G8 p f.toNat a n.toNat]) Z ⟨zN,Mv,ac,Pr,Mw⟩
 refine AT false Z Z (A6 bq) Aa<|Ai<|Aj Z<|A2<|fC [0,3,0] Z ?_
 have hpar:=da.par f.toNat oM
 have hrk:G8 p f.toNat a n.toNat=0:=by omega
 have hCh:NX p f.toNat a n.toNat:=⟨da,zO,a6.2.2.1.2,a6.2.2.2.1.1,a6.2.2.2.1.2,hrk⟩
 have hgc:Jh p f a ws n=0:=by rw[I7 hg0];exact hrk
 have br:Fr (BA (BA rI 2) 27) w3.heap.size dc.heap.size dc.heap a1 (EB (n.toNat+1) (DJ p f.toNat a)):=by have h:=av;rwa [Nh hrk]at h
 have htl:(EB (n.toNat+1) (DJ p f.toNat a)).length=n.toNat+1:=by simp[EB]
 refine Ad 1 Z<|At 130 [] [] [vw] Z Z Ry Aa (BU _ _ _ (hws.ext g1 ac) oM) ?_
 rintro ds dt ⟨bs,rfl,ad,aw⟩
 refine⟨_,rfl,ad,?_⟩
 have bt:=ad.size
 have bu:=ac.trans ad
 have b7:=b6.ext ad
 have ax:=br.ext (o2) ad
 have d8:=cd.ext g2 ad
 refine Ac 1 Z<|A0<|fC [0,0,0] Z<|Ad 1 Z<|BJ (n-1) Z Z (DH oM oM) Aa<|Ac 1 Z<|A3 ?_
 refine AW (S:=Int×Value×Sr) (fun⟨i,vo,L⟩=>([(14,vo),(15,zI i),(1,zI f),(5,zP w.heap.size),(13,a1)])) (fun⟨i,vo,L⟩ W=>AD w W∧Fr (BA rI 2) dc.heap.size W.heap.size W.heap vo L∧Fr (BA (BA rI 2) 27) w3.heap.size dc.heap.size W.heap a1 (EB (n.toNat+1)<|DJ p f.toNat a)∧BX W.heap w.heap.size [vp]∧(-1≤i∧i<n)∧((L.length:Int)=(p.getD f.toNat Fn.zero).params)∧Bb L=true∧Oq p f.toNat a n.toNat ws=Oq p f.toNat a (i+1).toNat L∧w.heap.size<dc.heap.size∧dc.heap.size≤W.heap.size) (fun⟨i,vo,L⟩=>(i+1).toNat) (n-1,bs,ws) ⟨rfl,rfl,rfl,rfl,rfl,trivial⟩ ⟨bu,aw.up o1,ax,b7,oM,oM,a6.2.2.2.2.2,(by rw[show(n-1+1).toNat=n.toNat from by omega]),oM,oM⟩ ?_
 clear c4 ch bz bb bc ci bd be c1 b2 av am aw ad bt bu
 rintro⟨i,vo,L⟩ ρ33 dg ⟨b0,a3,ae,af,ce,hLl,hLn,hLg,cx,cy⟩
 have cz:w.heap.size≤dg.heap.size:=b0.size
 have d9:=af.lt
 refine A0<|fC [0,0] Z<|Ad 1 Z ?_
 by_cases bv:((0:Nat):Int)≤i
 ·refine DN true Z Z (A5 bv) Aa<|Ai<|Af Z<|A2<|A0<|A3<|A0<|AQ _ [1,0,0,0,0,1,0,3,0,0,0,0,0] mixed (by kernel_rfl) ?_
  have hti:=CE (f:=DJ p f.toNat a) (n:=n.toNat+1) (k:=i.toNat) [] oM
  have his:=(hCh.low (k:=i.toNat) oM).st
  have hin:=hCh.nx (k:=i.toNat) oM
  refine AF (p:=zP w.heap.size) (.inl Z) [vp] Ba Z (fun de ay=>LD.of_box<|BX.ext (w:=dg.drew) af ay) Z Aa<|Ad 3 Z<|AE (v:=a1) ((i).toNat) Cb Bo Z Z ae.isSl oM sD Aa ?_
  obtain⟨bw,bx,b8⟩:=ae.rd2.get (k:=(i).toNat) [] sD
  have d0:=b8.lenle
  refine Ag (p:=AA a1 ((i).toNat) 1) (.inl Z) bw Bx Z bx Aa<|Ad 1 Z<|At 131 [] [] [.agg #[vp],zI f,bw,vo] Z Z XR Aa (Ed _ dp vp (p) _ _ _ _ _ (hp.ext (An<|Av dp) b0.drew) _hf b8 a3.rd1 a6.1 hz oM (by rw[hti];omega) (by rw[hti];exact his.2) (by rw[hti];exact hin) (by exact⟨zO,hLn⟩)) ?_
  rintro du dv ⟨ai,rfl,a5,ag⟩
  refine⟨_,rfl,a5,?_⟩
  replace a5:=a5.of_drew
  have d1:=a5.size
  have cf:=b0.trans a5
  have an:=ae.ext (o2) a5
  have ao:=af.ext a5
  have c3:=b8.ext g1 a5
  have d2:=Bp a5 bx
  replace ag:=ag.low (B':=dg.heap.size)<|A7 _
  refine Ad 1 Z<|AO (vs:=[ai,zI 0]) ai Z Z Aa<|AO (vs:=[ai,zI 0]) (zI 0) Z Z Aa<|Ac 2 Z<|fC [0,0] Z<|Ad 1 Z ?_
  have cg:¬(0≠((0:Nat):Int)):=(fun h9=>h9 Z)
  exact AT false Z Z (A6 cg) Aa<|Ai<|Aj Z<|A2<|Ab _ [0,0,0] Z<|Ad 1 Z<|BJ (i-1) Z Z (DH oM oM) Aa<|Ac 1 Z ⟨(i-1,ai,Vb p f.toNat ((EB (n.toNat+1)<|DJ p f.toNat a).getD ((i).toNat) []) L),_,rfl,zR,⟨cf,(ag.up o1).low oM,an,ao,oM,(by rw[ID,hti];omega),Yo,Yn,oM,oM⟩,zD⟩
 refine DN false Z Z (A6 bv) Aa<|Ai<|Aj Z<|A4<|Az<|Az<|Aw<|fC [0,0,0] Z<|Ac 3 Z<|A1 ?_
 exact Ah [10,11] Z (.tuple #[vo,zI ((0:Nat):Int)]) Z ⟨vo,Mv,b0,(by first|(have h:=(a3.up o1).low ac.size;rw[NZ hgc,hLg,show(i+1).toNat=0 from by omega];exact h)|(rw[Hn (by rw[I7 hg0];omega)];exact(a3.up o1).low ac.size)|(rw[Hn (by rw[GB (by rw[Gz oM];omega)];exact(by rw[Gz oM];omega))];exact(a3.up o1).low ac.size)|(rw[Hn (by rw[GB (by rw[GA oM<|Bz (by assumption)];omega)];exact(by rw[GA oM<|Bz (by assumption)];omega))];exact(a3.up o1).low ac.size)),Mw⟩
theorem Hx {p:Prop}(h:p:=by intro u hu;simp only[ze,z2,or_false]at hu;rcases hu with rfl|rfl|rfl|rfl|rfl <;> first|exact⟨rfl,rfl⟩):p:=h
theorem Qj {p:Prop}(h:p:=by simp only[zc,zf,zh];rfl):p:=h
theorem Qk {p:Prop}(h:p:=by first|exact PK.var oM|exact PK.num oM):p:=h
theorem De (w:World)(gg gs:Nat)(sv:Value)(cs:List UInt8)(n0:Nat)(pp:Value)(dp:Nat)(l0:Int)(pl:Bool)(p:List Fn)(vars:Int)(hgg:gs<gg)(hs:Fk w.heap gs sv cs n0)(hB0:BX w.heap gg [zP gs,pp,zI l0,.bool pl])(hp:RN [gs,gg] (rP (KS dp)) w.heap pp p)(_hvars:BG vars)(hv:0≤vars∧vars≤1000)(hn:n0+20≤1000000000000) :
  Calls Tryz.prog 196 #[zP gg,zI vars] w (fun e w'=>∃(ex:Ex) (n1:Nat),e=.returned (.agg #[zI ex.kind,zI ex.num,zI ex.pick,zI ex.count,zN])∧Ax [gs,gg] w w'∧Fk w'.heap gs sv cs n1∧(n0≤n1∧n1≤n0+20)∧BX w'.heap gg [zP gs,pp,zI l0,.bool pl]∧Qu ex∧ex.kids=[]∧PK p vars ex):=by
 refine Au [zP gg,zI vars] 28 Tryz.func196 Z Z sM ?_
 have bh:Ax [gs,gg] w w:=Ax.refl [gs,gg] w
 have ca:=hs.lt
 have bi:=hB0.lt
 refine fC [3] Z ?_
 have bu:=hB0.lt
 refine AU (z:=.agg #[zI 0,zI 0,zI 0,zI 0,zN]) Ec Aa fun w1 ad bv ae=>?_
 have bj:w.heap.size≤w1.heap.size:=ad.size
 have b4:Ax [gs,gg] w w1:=bh.ext ad
 have a9:=hs.ext ad
 have a0:=hB0.ext ad
 replace ae:BX w1.heap w.heap.size [zI 0,zI 0,zI 0,zI 0,zN]:=ae
 refine Ai<|A0<|fC [0,0,0,0,0,0,2,4,0,0] Z<|Ad 1 Z ?_
 by_cases b5:((0:Nat):Int)<vars
 ·refine Cj true Z Z (A5 b5) Aa<|Ad 2 Z<|B9 Z (Ae (e:=7) Z Z Z)<|Al (p:=zP gg) 0 EU Z Z (Ae (e:=7) Z Z Z)<|Ag (p:=Ap (zP gg) 0) (.inr Z) (zP gs) IT Z (a0.ldp (i:=0) sM) (Ae (e:=7) Z Z Z) ?_
  refine AH 122 [] [] [zP gs,zI ((4:Nat):Int)] Z Z Np (Ae (e:=7) Z Z Z) (Co _ gs _ _ _ ((4:Nat):Int) a9 oM oM sD) ?_
  rintro e4 w4 ⟨c2,n4,rfl,af,b6,bw,b7⟩
  refine⟨_,rfl,?_⟩
  have bk:w1.heap.size≤w4.heap.size:=af.size
  have b8:Ax [gs,gg] w w4:=b4.trans (af.sub Gw)
  have ag:=a0.chg af (zB ·)
  have b9:=ae.chg af (zB ·)
  refine Bq (!c2) Z Z (Ae (e:=7) Z Z Z)<|Ac 1 Z ?_
  cases ba:(!c2)
  ·refine Aj (by first|rfl|exact zW ba)<|A2<|fC [0,0,0,2,4,0,4] Z<|Ad 1 Z<|B9 Z Aa<|Al (p:=zP gg) 0 EU Z Z Aa<|Ag (p:=Ap (zP gg) 0) (.inr Z) (zP gs) IT Z (ag.ldp (i:=0) sM) Aa<|AH 152 [] [] [zP gs] Z Z UB Aa (GD _ gs _ _ _ b6 oM) ?_
   rintro e8 w8 ⟨c1,n8,rfl,ah,bl,bx,bb⟩
   refine⟨_,rfl,?_⟩
   have bm:w4.heap.size≤w8.heap.size:=ah.size
   have bn:Ax [gs,gg] w w8:=b8.trans (ah.sub Gw)
   have bo:=ag.chg ah (zB ·)
   have ai:=b9.chg ah (zB ·)
   have aa:∀(wq:World),(Instr.build 153 #[(0,zI ((1:Nat):Int)),(1,zI c1)]).run Tryz.prog wq=.ok (.agg #[zI ((1:Nat):Int),zI c1,zI 0,zI 0,zN]) wq:=by intro wq;kernel_rfl
   refine Bh (ps:=#[(0,zI ((1:Nat):Int)),(1,zI c1)]) (.agg #[zI ((1:Nat):Int),zI c1,zI 0,zI 0,zN]) Qj (fun wq=>aa  wq) Aa (B2 (vs:=[zI ((1:Nat):Int),zI c1,zI 0,zI 0,zN]) AX Z Z Hx ai Z Z Aa fun c3 a1 bp a6=>?_)
   replace a6:BX c3.heap w.heap.size [zI ((1:Nat):Int),zI c1,zI 0,zI 0,zN]:=a6
   have bc:w8.heap.size≤c3.heap.size:=a1.size
   have aj:Ax [gs,gg] w c3:=bn.fresh a1 (fun _ h=>zE h)
   have ak:=bl.chg a1 fun c hc=>zH<|A9 hc
   have al:=bo.chg a1 (zB ·)
   exact Ai<|A1<|C8 (cs:=[zI ((1:Nat):Int),zI c1,zI 0,zI 0,zN]) Z AX Z a6 Z ⟨.mk ((1:Nat):Int) c1 0 0 [],n8,rfl,aj,ak,⟨zO,zO⟩,al,FQ oM oM oM oM,rfl,Qk⟩
  refine Af (by first|rfl|exact zW ba)<|fC [0,0,0,2,0,4,0,4] Z<|Ad 1 Z<|B9 Z Aa<|Al (p:=zP gg) 0 EU Z Z Aa<|Ag (p:=Ap (zP gg) 0) (.inr Z) (zP gs) IT Z (ag.ldp (i:=0) sM) Aa<|Ad 1 Z ?_
  refine AH 68 [] [] [zP gs,zI vars] Z Z HO Aa (B5 _ gs _ _ _ (vars) b6 oM _hvars sD) ?_
  rintro cb c4 ⟨bz,c8,rfl,a2,am,bq,an⟩
  refine⟨_,rfl,?_⟩
  have bd:w4.heap.size≤c4.heap.size:=a2.size
  have ao:Ax [gs,gg] w c4:=b8.trans (a2.sub Gw)
  have ap:=ag.chg a2 (zB ·)
  have aq:=b9.chg a2 (zB ·)
  have ab:∀(wq:World),(Instr.build 153 #[(0,zI ((2:Nat):Int)),(1,zI bz)]).run Tryz.prog wq=.ok (.agg #[zI ((2:Nat):Int),zI bz,zI 0,zI 0,zN]) wq:=by intro wq;kernel_rfl
  refine Bh (ps:=#[(0,zI ((2:Nat):Int)),(1,zI bz)]) (.agg #[zI ((2:Nat):Int),zI bz,zI 0,zI 0,zN]) Qj (fun wq=>ab  wq) Aa (B2 (vs:=[zI ((2:Nat):Int),zI bz,zI 0,zI 0,zN]) AX Z Z Hx aq Z Z Aa fun c5 a3 br a7=>?_)
  replace a7:BX c5.heap w.heap.size [zI ((2:Nat):Int),zI bz,zI 0,zI 0,zN]:=a7
  have be:c4.heap.size≤c5.heap.size:=a3.size
  have ar:Ax [gs,gg] w c5:=ao.fresh a3 (fun _ h=>zE h)
  have au:=am.chg a3 fun c hc=>zH<|A9 hc
  have av:=ap.chg a3 (zB ·)
  exact Ai<|A1<|Ao<|C8 (cs:=[zI ((2:Nat):Int),zI bz,zI 0,zI 0,zN]) Z AX Z a7 Z ⟨.mk ((2:Nat):Int) bz 0 0 [],c8,rfl,ar,au,⟨zO,zO⟩,av,FQ oM oM oM oM,rfl,Qk⟩
 refine Cj false Z Z (A6 b5) Aa<|Ac 8 Z<|Aj Z<|A2<|fC [0,0,0,2,4,0,4] Z<|Ad 1 Z<|B9 Z Aa<|Al (p:=zP gg) 0 EU Z Z Aa<|Ag (p:=Ap (zP gg) 0) (.inr Z) (zP gs) IT Z (a0.ldp (i:=0) sM) Aa<|AH 152 [] [] [zP gs] Z Z UB Aa (GD _ gs _ _ _ a9 oM) ?_
 rintro cc c6 ⟨c0,c9,rfl,a4,aw,bs,ax⟩
 refine⟨_,rfl,?_⟩
 have bf:w1.heap.size≤c6.heap.size:=a4.size
 have ay:Ax [gs,gg] w c6:=b4.trans (a4.sub Gw)
 have az:=a0.chg a4 (zB ·)
 have b0:=ae.chg a4 (zB ·)
 have ac:∀(wq:World),(Instr.build 153 #[(0,zI ((1:Nat):Int)),(1,zI c0)]).run Tryz.prog wq=.ok (.agg #[zI ((1:Nat):Int),zI c0,zI 0,zI 0,zN]) wq:=by intro wq;kernel_rfl
 refine Bh (ps:=#[(0,zI ((1:Nat):Int)),(1,zI c0)]) (.agg #[zI ((1:Nat):Int),zI c0,zI 0,zI 0,zN]) Qj (fun wq=>ac  wq) Aa (B2 (vs:=[zI ((1:Nat):Int),zI c0,zI 0,zI 0,zN]) AX Z Z Hx b0 Z Z Aa fun c7 a5 bt a8=>?_)
 replace a8:BX c7.heap w.heap.size [zI ((1:Nat):Int),zI c0,zI 0,zI 0,zN]:=a8
 have bg:c6.heap.size≤c7.heap.size:=a5.size
 have b1:Ax [gs,gg] w c7:=ay.fresh a5 (fun _ h=>zE h)
 have b2:=aw.chg a5 fun c hc=>zH<|A9 hc
 have b3:=az.chg a5 (zB ·)
 exact Ai<|A1<|C8 (cs:=[zI ((1:Nat):Int),zI c0,zI 0,zI 0,zN]) Z AX Z a8 Z ⟨.mk ((1:Nat):Int) c0 0 0 [],c9,rfl,b1,b2,⟨zO,zO⟩,b3,FQ oM oM oM oM,rfl,Qk⟩
theorem GG {p:Prop}(h:p:=by first|(rw[eC oM];rfl)|(rw[eD oM];rfl)|(rw[eE oM];rfl)|(rw[eF oM];rfl)|(rw[eG (by assumption) (by assumption) (by assumption) (by assumption) (by assumption) (by assumption) (by assumption) (by assumption) (by assumption)])):p:=h
theorem fy (w:World)(k:Int)(_hk:BG k)  :
  Calls Tryz.prog 198 #[zI k] w (fun e w'=>e=.returned (zI (kn k))∧w'=w):=by
 refine Au [zI k] 17 Tryz.func198 Z Z sM ?_
 have a0:w=w:=rfl
 refine fE Z<|A0<|fE Z<|A3<|A0<|fC [0,0] Z ?_
 by_cases a1:k=((1:Nat):Int)
 ·exact As true Z Z (A5 a1) Aa<|Ac 1 Z<|Af Z<|A2<|Af Z<|fE Z<|A1<|AL<|Ao<|Ah [2] Z (zI ((0:Nat):Int)) Z ⟨GG,a0⟩
 refine As false Z Z (A6 a1) Aa<|Ac 1 Z<|Aj Z<|Ab _ [0,0] Z ?_
 by_cases a2:k=((2:Nat):Int)
 ·exact As true Z Z (A5 a2) Aa<|Ac 1 Z<|Af Z<|fE Z<|A1<|AL<|Ao<|Ah [2] Z (zI ((0:Nat):Int)) Z ⟨GG,a0⟩
 refine As false Z Z (A6 a2) Aa<|Ac 1 Z<|Aj Z<|A0<|fC [0,0] Z ?_
 by_cases a3:k=((3:Nat):Int)
 ·exact As true Z Z (A5 a3) Aa<|Ac 1 Z<|Af Z<|A2<|Af Z<|fE Z<|A1<|AL<|Ao<|Ah [2] Z (zI ((2:Nat):Int)) Z ⟨GG,a0⟩
 refine As false Z Z (A6 a3) Aa<|Ac 1 Z<|Aj Z<|fC [0,0] Z ?_
 by_cases a4:k=((4:Nat):Int)
 ·exact As true Z Z (A5 a4) Aa<|Ac 1 Z<|Af Z<|A2<|Af Z<|fE Z<|A1<|AL<|Ao<|Ah [2] Z (zI ((2:Nat):Int)) Z ⟨GG,a0⟩
 refine As false Z Z (A6 a4) Aa<|Ac 1 Z<|Aj Z<|fC [0,0] Z ?_
 by_cases a5:k=((5:Nat):Int)
 ·exact As true Z Z (A5 a5) Aa<|Ac 1 Z<|Af Z<|A2<|Af Z<|fE Z<|A1<|AL<|Ao<|Ah [2] Z (zI ((2:Nat):Int)) Z ⟨GG,a0⟩
 refine As false Z Z (A6 a5) Aa<|Ac 1 Z<|Aj Z<|fC [0,0] Z ?_
 by_cases a6:k=((6:Nat):Int)
 ·exact As true Z Z (A5 a6) Aa<|Ac 1 Z<|Af Z<|A2<|Af Z<|fE Z<|A1<|AL<|Ao<|Ah [2] Z (zI ((2:Nat):Int)) Z ⟨GG,a0⟩
 refine As false Z Z (A6 a6) Aa<|Ac 1 Z<|Aj Z<|Ab _ [0,0] Z ?_
 by_cases a7:k=((9:Nat):Int)
 ·exact As true Z Z (A5 a7) Aa<|Ac 1 Z<|Af Z<|fE Z<|A1<|AL<|Ao<|Ah [2] Z (zI ((2:Nat):Int)) Z ⟨GG,a0⟩
 refine As false Z Z (A6 a7) Aa<|Ac 1 Z<|Aj Z<|fC [0,0] Z ?_
 by_cases a8:k=((7:Nat):Int)
 ·exact As true Z Z (A5 a8) Aa<|Ac 1 Z<|Af Z<|fE Z<|A1<|AL<|Ao<|Ah [2] Z (zI ((1:Nat):Int)) Z ⟨GG,a0⟩
 refine As false Z Z (A6 a8) Aa<|Ac 1 Z<|Aj Z<|fC [0,0] Z ?_
 by_cases a9:k=((8:Nat):Int)
 ·exact As true Z Z (A5 a9) Aa<|Ac 1 Z<|Af Z<|fE Z<|A1<|AL<|Ao<|Ah [2] Z (zI ((3:Nat):Int)) Z ⟨GG,a0⟩
 exact As false Z Z (A6 a9) Aa<|Ac 1 Z<|Aj Z<|A2<|fE Z<|A1<|Ah [2] Z (zI (-1)) Z ⟨GG,a0⟩
def GX (d:Nat):Prop:=∀(w:World) (gg gs:Nat) (sv:Value) (cs:List UInt8) (n0:Nat) (pp:Value) (dp:Nat) (l0:Int) (pl:Bool) (p:List Fn) (vars funcs:Int) (hgg:gs<gg) (hs:Fk w.heap gs sv cs n0) (hB0:BX w.heap gg [.pointer (some ⟨gs,0,none⟩),pp,.int .i64 l0,.bool pl]) (hp:RN [gs,gg] (rP (KS dp)) w.heap pp p) (_hvars:BG vars) (_hfuncs:BG funcs) (hv:0≤vars∧vars+((d:Nat):Int)≤1000) (hfu:0≤funcs∧funcs≤((p.length:Nat):Int)) (hpr:ZQ p) (hd:d≤8) (hn:n0+I6 d≤1000000000000) (hl:MG d-1000000≤l0∧l0≤1000),Calls Tryz.prog 124 #[.pointer (some ⟨gg,0,none⟩),.int .i64 vars,.int .i64 funcs,.int .i64 ((d:Nat):Int)] w (fun e w'=>∃(v:Value) (ex:Ex) (n1:Nat) (l1:Int),e=.returned (.agg #[.int .i64 ex.kind,.int .i64 ex.num,.int .i64 ex.pick,.int .i64 ex.count,v])∧Ax [gs,gg] w w'∧Fk w'.heap gs sv cs n1∧(n0≤n1∧n1≤n0+(I6 d))∧BX w'.heap gg [.pointer (some ⟨gs,0,none⟩),pp,.int .i64 l1,.bool pl]∧Fr (CA 5 (Ga 153 d) 153) w.heap.size w'.heap.size w'.heap v ex.kids∧Qu ex∧Om p funcs vars pl d l0 l1 ex)
def GC (d:Nat):Prop:=∀(w:World) (gg gs:Nat) (sv:Value) (cs:List UInt8) (n0:Nat) (pp:Value) (dp:Nat) (l0:Int) (pl:Bool) (p:List Fn) (vars funcs:Int) (hgg:gs<gg) (hs:Fk w.heap gs sv cs n0) (hB0:BX w.heap gg [.pointer (some ⟨gs,0,none⟩),pp,.int .i64 l0,.bool pl]) (hp:RN [gs,gg] (rP (KS dp)) w.heap pp p) (_hvars:BG vars) (_hfuncs:BG funcs) (hv:0≤vars∧vars+((d:Nat):Int)≤1000) (hfu:0≤funcs∧funcs≤((p.length:Nat):Int)) (hpr:ZQ p) (hd:1≤d∧d≤8) (hn:n0+(20+4*I6 (d-1))≤1000000000000) (hl:1≤l0∧l0≤1000),Calls Tryz.prog 197 #[.pointer (some ⟨gg,0,none⟩),.int .i64 vars,.int .i64 funcs,.int .i64 ((d:Nat):Int)] w (fun e w'=>∃(v:Value) (ex:Ex) (n1:Nat) (l1:Int),e=.returned (.agg #[.int .i64 ex.kind,.int .i64 ex.num,.int .i64 ex.pick,.int .i64 ex.count,v])∧Ax [gs,gg] w w'∧Fk w'.heap gs sv cs n1∧(n0≤n1∧n1≤n0+(20+4*I6 (d-1)))∧BX w'.heap gg [.pointer (some ⟨gs,0,none⟩),pp,.int .i64 l1,.bool pl]∧Fr (CA 5 (Ga 153 d) 153) w.heap.size w'.heap.size w'.heap v ex.kids∧Qu ex∧Om p funcs vars pl d (l0+1) l1 ex)
theorem Jy (w:World)(gg gs:Nat)(sv:Value)(cs:List UInt8)(n0:Nat)(pp:Value)(dp:Nat)(l0:Int)(pl:Bool)(p:List Fn)(vars:Int)(funcs:Int)(d:Nat)(hgg:gs<gg)(hs:Fk w.heap gs sv cs n0)(hB0:BX w.heap gg [zP gs,pp,zI l0,.bool pl])(hp:RN [gs,gg] (rP (KS dp)) w.heap pp p)(_hvars:BG vars)(_hfuncs:BG funcs)(hv:0≤vars∧vars+(d:Int)≤1000)(hfu:0≤funcs∧funcs≤(p.length:Int))(hpr:ZQ p)(hd:1≤d∧d≤8)(hn:n0+(20+4*I6 (d-1))≤1000000000000)(hl:1≤l0∧l0≤1000)(IH:GX (d-1)) :
  Calls Tryz.prog 197 #[zP gg,zI vars,zI funcs,zI (d:Int)] w (fun e w'=>∃(v:Value) (ex:Ex) (n1:Nat) (l1:Int),e=.returned (.agg #[zI ex.kind,zI ex.num,zI ex.pick,zI ex.count,v])∧Ax [gs,gg] w w'∧Fk w'.heap gs sv cs n1∧(n0≤n1∧n1≤n0+(20+4*I6 (d-1)))∧BX w'.heap gg [zP gs,pp,zI l1,.bool pl]∧Fr (CA 5 (Ga 153 d) 153) w.heap.size w'.heap.size w'.heap v ex.kids∧Qu ex∧Om p funcs vars pl d (l0+1) l1 ex):=by
 refine Au [zP gg,zI vars,zI funcs,zI (d:Int)] 89 Tryz.func197 Z Z sM ?_
 have dx:Ax [gs,gg] w w:=Ax.refl [gs,gg] w
 have ia:=hs.lt
 have ei:=hB0.lt
 have hst:=PJ (d-1)
 have hnd:=Ir (d-1)
 have hnl:=T5 (d:=d-1) oM
 have hpl:=hpr.len
 refine fC [3] Z ?_
 have gh:=hB0.lt
 refine AU (z:=.agg #[zI 0,zI 0,zI 0,zI 0,zN]) Ec Aa fun w1 bm ej ce=>?_
 have ch:w.heap.size≤w1.heap.size:=bm.size
 have cf:Ax [gs,gg] w w1:=dx.ext bm
 have bn:=hs.ext bm
 have ap:=hB0.ext bm
 replace ce:BX w1.heap w.heap.size [zI 0,zI 0,zI 0,zI 0,zN]:=ce
 refine Ai<|A0<|fC [0,0] Z<|Ad 1 Z ?_
 by_cases dy:funcs=((0:Nat):Int)
 ·refine As true Z Z (A5 dy) Aa<|Ai<|Af Z<|fC [0,0,4,4] Z<|Ad 2 Z<|AH 196 [] [] [zP gg,zI vars] Z Z RA Aa (De _ gg gs sv cs n0 pp dp l0 pl p (vars) oM bn ap (hp.chg (Bg<|AZ dp) cf) _hvars oM oM) ?_
  rintro e4 w4 ⟨x4,n4,rfl,ci,ek,gi,el,em,cj,gj⟩
  refine⟨_,rfl,?_⟩
  have en:w1.heap.size≤w4.heap.size:=ci.size
  have eo:Ax [gs,gg] w w4:=cf.trans ci
  have ep:=ce.chg ci fun hm=>zH<|CR hm
  refine B2 (vs:=[zI x4.kind,zI x4.num,zI x4.pick,zI x4.count,zN]) AX Z Z Hx ep Z Z Aa fun w6 cg gk ck=>?_
  replace ck:BX w6.heap w.heap.size [zI x4.kind,zI x4.num,zI x4.pick,zI x4.count,zN]:=ck
  have eq:w4.heap.size≤w6.heap.size:=cg.size
  have er:Ax [gs,gg] w w6:=eo.fresh cg (fun _ h=>zE h)
  have es:=ek.chg cg fun c hc=>zH<|A9 hc
  have et:=el.chg cg (zB ·)
  exact Ai<|A1<|Ao<|C8 (cs:=[zI x4.kind,zI x4.num,zI x4.pick,zI x4.count,zN]) Z AX Z ck Z ⟨zN,x4,n4,l0,rfl,er,es,⟨zO,zO⟩,et,(by rw[cj];exact Cq _ _ _),em,(by exact PK.okc (by assumption) d)⟩
 refine As false Z Z (A6 dy) Aa<|Ai<|Aj Z<|A2<|fC [0,0,0,2,0,4,0,3,4] Z<|Ad 1 Z<|B9 Z Aa<|Al (p:=zP gg) 0 EU Z Z Aa<|Ag (p:=Ap (zP gg) 0) (.inr Z) (zP gs) IT Z (ap.ldp (i:=0) sM) Aa<|Ad 1 Z ?_
 refine AH 68 [] [] [zP gs,zI funcs] Z Z HO Aa (B5 _ gs _ _ _ (funcs) bn oM _hfuncs sD) ?_
 rintro e9 w9 ⟨f1,n9,rfl,bo,eu,gl,dz⟩
 refine⟨_,rfl,?_⟩
 have cl:w1.heap.size≤w9.heap.size:=bo.size
 have e0:Ax [gs,gg] w w9:=cf.trans (bo.sub Gw)
 have ba:=ap.chg bo (zB ·)
 have bb:=ce.chg bo (zB ·)
 have bp:∀(wq:World),(Instr.build 153 #[(0,zI ((10:Nat):Int)),(1,zI f1)]).run Tryz.prog wq=.ok (.agg #[zI ((10:Nat):Int),zI f1,zI 0,zI 0,zN]) wq:=by intro wq;kernel_rfl
 refine Bh (ps:=#[(0,zI ((10:Nat):Int)),(1,zI f1)]) (.agg #[zI ((10:Nat):Int),zI f1,zI 0,zI 0,zN]) (by simp only[zc,zf,zh];rfl) (fun wq=>bp  wq) Aa ?_
 have ev:=ba.lt
 have ew:=bb.lt
 refine AU (z:=.agg #[zI 0,zI 0,zI 0,zI 0,zN]) Ec Aa fun fx ah cm bc=>?_
 have bq:w9.heap.size≤fx.heap.size:=ah.size
 have br:Ax [gs,gg] w fx:=e0.ext ah
 have bd:=eu.ext ah
 have af:=ba.ext ah
 have ag:=bb.ext ah
 replace bc:BX fx.heap w9.heap.size [zI 0,zI 0,zI 0,zI 0,zN]:=bc
 refine B2 (vs:=[zI ((10:Nat):Int),zI f1,zI 0,zI 0,zN]) AX Z Z Hx bc Z Z Aa fun gp ai cn ay=>?_
 replace ay:BX gp.heap w9.heap.size [zI ((10:Nat):Int),zI f1,zI 0,zI 0,zN]:=ay
 have bs:fx.heap.size≤gp.heap.size:=ai.size
 have aj:Ax [gs,gg] w gp:=br.fresh ai (fun _ h=>zE h)
 have bt:=bd.chg ai fun c hc=>zH<|A9 hc
 have az:=af.chg ai (zB ·)
 have bu:=ag.chg ai (zB ·)
 refine Ai<|A0<|AQ _ [0,0,0,1,0,0,1,0,1,0,0] mixed (by kernel_rfl)<|Ad 1 Z ?_
 have hxk:f1<funcs:=by omega
 refine B9 Z Aa<|Al (p:=zP gg) 1 X6 Z Z Aa<|Ag (p:=Ap (zP gg) 1) (.inl Z) pp Yc Z (az.ldp (i:=1) sM) Aa<|AK (hp.isPtr) Z Aa ?_
 obtain⟨cs20,co,bv⟩:=RN.at (AZ _) hp
 obtain⟨a0,rfl,a5⟩:=RPr.of co
 have b8:=a5.lenle
 unfold maxLen at b8
 refine AB (p:=pp) 0 B8 Z (bv _ aj.drew) Aa<|Ag (p:=Ap pp 0) (.inl Z) a0 Bt Z ((bv _ aj.drew).ld (i:=0) (by simp[DT,E2])) Aa<|Al (p:=zP w9.heap.size) 1 BL Z Z Aa<|Ag (p:=Ap (zP w9.heap.size) 1) (.inl Z) (zI f1) AI Z (ay.ldp (i:=1) sM) Aa ?_
 refine AE (v:=a0) ((f1).toNat) Du BD Z Z a5.isSl oM sD Aa<|Ac 1 Z<|A0<|AQ _ [0,0,0,1,0,0,0,1,0,4,0,4] mixed (by kernel_rfl) ?_
 have ib:=hpr.outs (f1).toNat oM
 have hpa:=hpr.par (f1).toNat oM
 refine Ad 1 Z<|B9 Z Aa<|Al (p:=zP gg) 0 EU Z Z Aa<|Ag (p:=Ap (zP gg) 0) (.inl Z) (zP gs) IT Z (az.ldp (i:=0) sM) Aa<|Ad 1 Z<|AK (RN.isPtr<|RN.ptr (Av dp) (by decide) Fn.zero a5 sD) Z Aa ?_
 obtain⟨cs21,cp,a3⟩:=a5.get (Av dp) Fn.zero (k:=(f1).toNat) sD
 obtain⟨b0,rfl,be⟩:=RF.of cp
 have b9:=be.rn.lenle
 unfold maxLen at b9
 refine AB (p:=AA a0 ((f1).toNat) 3) 2 Br Z (a3 _ aj.drew.drew) Aa<|Ag (p:=Ap (AA a0 ((f1).toNat) 3) 2) (.inl Z) b0 B7 Z ((a3 _ aj.drew.drew).ld (i:=2) (by simp[DT,E2])) Aa<|AS (v:=b0) Cc Z be.rn.isSl Aa ?_
 refine AH 68 [] [] [zP gs,zI ((((p.getD ((f1).toNat) Fn.zero).outs).length:Nat):Int)] Z Z HO Aa (B5 _ gs _ _ _ ((((p.getD ((f1).toNat) Fn.zero).outs).length:Nat):Int) bt oM oM sD) ?_
 rintro ic gq ⟨f2,i3,rfl,a2,cq,ey,cr⟩
 refine⟨_,rfl,?_⟩
 replace a2:=a2.of_drew
 replace a2:=a2.of_drew
 have bw:gp.heap.size≤gq.heap.size:=a2.size
 have bx:Ax [gs,gg] w gq:=aj.trans (a2.sub Gw)
 have bz:=az.chg a2 (zB ·)
 have c0:=bu.chg a2 (zB ·)
 have c1:=ay.chg a2 (zB ·)
 refine Al (p:=zP w9.heap.size) 2 CN Z Z Aa (Bc (k:=2) (w:=gq) I9 Z Z ⟨rfl,rfl⟩ c1 sM Aa fun gr ak ct b1=>?_)
 replace b1:BX gr.heap w9.heap.size [zI ((10:Nat):Int),zI f1,zI f2,zI 0,zN]:=b1
 have c2:gq.heap.size≤gr.heap.size:=ak.size
 have a6:Ax [gs,gg] w gr:=bx.fresh ak (fun _ h=>zE h)
 have bf:=cq.chg ak fun c hc=>zH<|A9 hc
 have b2:=bz.chg ak (zB ·)
 have bg:=c0.chg ak (zB ·)
 refine Ai ?_
 refine A0<|KG (S:=Int×Int×Nat) (fun⟨k,cnt,m1⟩=>([(0,zP gg),(1,zI vars),(2,zI funcs),(3,zI (d:Int)),(8,zP w.heap.size),(9,zP w9.heap.size),(10,AA a0 ((f1).toNat) 3)])) (fun⟨k,cnt,m1⟩ W=>Ax [gs,gg] w W∧Fk W.heap gs sv cs m1∧BX W.heap gg [zP gs,pp,zI l0,.bool pl]∧BX W.heap w.heap.size [zI 0,zI 0,zI 0,zI 0,zN]∧BX W.heap w9.heap.size [zI k,zI f1,zI f2,zI cnt,zN]∧((k=10∧cnt=0)∨(k=11∧(((p.getD (f1).toNat Fn.zero).outs.length:Nat):Int)=(p.getD (f1).toNat Fn.zero).params∧0≤cnt∧cnt≤8))∧(n0≤m1∧m1≤n0+8)) ?_ ?_
 ·refine A0<|AQ _ [0,0,0,1,0,0,0,0,1,0,0,0,0,0,1,4,0] mixed (by kernel_rfl)<|Ad 1 Z<|AK (RN.isPtr<|RN.ptr (Av dp) (by decide) Fn.zero a5 sD) Z Aa<|AB (p:=AA a0 ((f1).toNat) 3) 2 Br Z (a3 _ a6.drew) Aa<|Ag (p:=Ap (AA a0 ((f1).toNat) 3) 2) (.inl Z) b0 B7 Z ((a3 _ a6.drew).ld (i:=2) (by simp[DT,E2])) Aa<|AS (v:=b0) Cc Z be.rn.isSl Aa ?_
  refine Ad 1 Z<|AK (RN.isPtr<|RN.ptr (Av dp) (by decide) Fn.zero a5 sD) Z Aa<|AB (p:=AA a0 ((f1).toNat) 3) 1 BI Z (a3 _ a6.drew) Aa<|Ag (p:=Ap (AA a0 ((f1).toNat) 3) 1) (.inl Z) (zI<|(p.getD ((f1).toNat) Fn.zero).params) AI Z ((a3 _ a6.drew).ld (i:=1) (by simp[DT,E2])) Aa ?_
  by_cases c3:((((p.getD ((f1).toNat) Fn.zero).outs).length:Nat):Int)=(p.getD ((f1).toNat) Fn.zero).params
  ·refine As true Z Z (A5 c3) Aa<|Ad 2 Z<|B9 Z (Ae (e:=55) Z Z Z)<|Al (p:=zP gg) 0 EU Z Z (Ae (e:=55) Z Z Z)<|Ag (p:=Ap (zP gg) 0) (.inl Z) (zP gs) IT Z (b2.ldp (i:=0) sM) (Ae (e:=55) Z Z Z) ?_
   refine AH 122 [] [] [zP gs,zI ((2:Nat):Int)] Z Z Np (Ae (e:=55) Z Z Z) (Co _ gs _ _ _ ((2:Nat):Int) bf oM oM sD) ?_
   rintro ie gt ⟨fs,i4,rfl,a7,c4,ez,cu⟩
   refine⟨_,rfl,?_⟩
   replace a7:=a7.of_drew
   have e1:gr.heap.size≤gt.heap.size:=a7.size
   have c5:Ax [gs,gg] w gt:=a6.trans (a7.sub Gw)
   have c6:=b2.chg a7 (zB ·)
   have c7:=bg.chg a7 (zB ·)
   have c8:=b1.chg a7 (zB ·)
   refine Ac 1 Z ?_
   cases c9:fs
   ·exact Aj (by first|rfl|exact zW c9)<|A2 ⟨(((10:Nat):Int),0,i4),_,rfl,zR,⟨c5,c4,c6,c7,c8,oM,oM⟩⟩
   refine Af (by first|rfl|exact zW c9)<|fC [0,4] Z<|Al (p:=zP w9.heap.size) 0 Bn Z Z Aa (Bc (k:=0) (w:=gt) I9 Z Z ⟨rfl,rfl⟩ c8 sM Aa fun gu aq g0 bh=>?_)
   replace bh:BX gu.heap w9.heap.size [zI ((11:Nat):Int),zI f1,zI f2,zI 0,zN]:=bh
   have e2:gt.heap.size≤gu.heap.size:=aq.size
   have cv:Ax [gs,gg] w gu:=c5.fresh aq (fun _ h=>zE h)
   have cw:=c4.chg aq fun c hc=>zH<|A9 hc
   have ca:=c6.chg aq (zB ·)
   have cx:=c7.chg aq (zB ·)
   refine Ai<|Ab _ [0,0,0,2,4,0,4] Z<|Ad 1 Z<|B9 Z Aa<|Al (p:=zP gg) 0 EU Z Z Aa<|Ag (p:=Ap (zP gg) 0) (.inr Z) (zP gs) IT Z (ca.ldp (i:=0) sM) Aa ?_
   refine AH 68 [] [] [zP gs,zI ((4:Nat):Int)] Z Z HO Aa (B5 _ gs _ _ _ ((4:Nat):Int) cw oM oM sD) ?_
   rintro ig gv ⟨f3,i5,rfl,ar,cy,g1,cz⟩
   refine⟨_,rfl,?_⟩
   have e3:gu.heap.size≤gv.heap.size:=ar.size
   have d0:Ax [gs,gg] w gv:=cv.trans (ar.sub Gw)
   have d1:=ca.chg ar (zB ·)
   have d2:=cx.chg ar (zB ·)
   have d3:=bh.chg ar (zB ·)
   refine Al (p:=zP w9.heap.size) 3 CV Z Z Aa (Bc (k:=3) (w:=gv) I9 Z Z ⟨rfl,rfl⟩ d3 sM Aa fun gx au g2 bi=>?_)
   replace bi:BX gx.heap w9.heap.size [zI ((11:Nat):Int),zI f1,zI f2,zI f3,zN]:=bi
   have e5:gv.heap.size≤gx.heap.size:=au.size
   have d4:Ax [gs,gg] w gx:=d0.fresh au (fun _ h=>zE h)
   have d5:=cy.chg au fun c hc=>zH<|A9 hc
   have d6:=d1.chg au (zB ·)
   have d7:=d2.chg au (zB ·)
   exact Ai ⟨(((11:Nat):Int),f3,i5),_,rfl,zR,⟨d4,d5,d6,d7,bi,oM,oM⟩⟩
  exact As false Z Z (A6 c3) Aa<|Ac 7 Z<|Aj Z<|A2 ⟨(((10:Nat):Int),0,i3),_,rfl,zR,⟨a6.drew,bf,b2,bg,b1,oM,oM⟩⟩
 clear dx ej bm ch cf bo cl e0 ba bb cm ah bq br af ag cn ai bs aj bt az bu b8 b9 a2 bw bx bz c0 c1 ct ak c2 a6 bf b2 bg
 rintro⟨k,cnt,m1⟩ ρ30 fe ⟨cb,av,a8,a9,aa,hkc,gm⟩
 have e6:w.heap.size≤fe.heap.size:=cb.size
 have g3:=a8.lt
 have g4:=a9.lt
 have g5:=aa.lt
 refine A0<|fE Z<|A3 ?_
 refine AW (S:=Nat×Int×Nat×Value×List Ex) (fun⟨i,l,m,vk,xs⟩=>([(11,zI (i:Int)),(0,zP gg),(1,zI vars),(2,zI funcs),(3,zI (d:Int)),(8,zP w.heap.size),(9,zP w9.heap.size),(10,AA a0 ((f1).toNat) 3)])) (fun⟨i,l,m,vk,xs⟩ W=>Ax [gs,gg] w W∧Fr (CA 5 (Ga 153 d) 153) fe.heap.size W.heap.size W.heap vk xs∧Fk W.heap gs sv cs m∧BX W.heap gg [zP gs,pp,zI l,.bool pl]∧BX W.heap w.heap.size [zI 0,zI 0,zI 0,zI 0,zN]∧BX W.heap w9.heap.size [zI k,zI f1,zI f2,zI cnt,vk]∧(i:Int)≤(p.getD (f1).toNat Fn.zero).params∧QQ p funcs vars pl k d l0 l xs i∧(n0≤m∧m≤n0+8+S3 i (I6 (d-1)))∧gg<fe.heap.size∧w.heap.size<fe.heap.size∧w9.heap.size<fe.heap.size∧fe.heap.size≤W.heap.size) (fun⟨i,l,m,vk,xs⟩=>(p.getD (f1).toNat Fn.zero).params.toNat-i) (0,l0,m1,zN,([]:List Ex)) ⟨rfl,rfl,rfl,rfl,rfl,rfl,rfl,rfl,trivial⟩ ⟨cb,(Cq _ 0 _).up<|Ak<|Aq 153 d,av,a8,a9,aa,oM,(by exact QQ.nil ..),(by exact⟨zO,by show _≤n0+8+0;omega⟩),oM,oM,oM,oM⟩ ?_
 clear aa a9 a8 av
 rintro⟨i,l,m,vk,xs⟩ ρ55 f9 ⟨al,ab,aw,ac,ad,a1,gn,hko,hmb,e7,e8,ea,eb⟩
 have ec:w.heap.size≤f9.heap.size:=al.size
 have g6:=ac.lt
 have g7:=ad.lt
 have g8:=a1.lt
 refine A0<|fC [0,0,0,0,2,0] Z<|Ad 2 Z<|AK (RN.isPtr<|RN.ptr (Av dp) (by decide) Fn.zero a5 sD) Z Aa<|AB (p:=AA a0 ((f1).toNat) 3) 1 BI Z (a3 _ al) Aa<|Ag (p:=Ap (AA a0 ((f1).toNat) 3) 1) (.inr Z) (zI<|(p.getD ((f1).toNat) Fn.zero).params) AI Z ((a3 _ al).ld (i:=1) (by simp[DT,E2])) Aa ?_
 by_cases cc:(i:Int)<(p.getD ((f1).toNat) Fn.zero).params
 ·refine AJ true Z Z (A5 cc) Aa<|Ai<|Af Z<|A2<|A0<|A3 ?_
  letI:JR:=Sg [gs,gg]
  refine Jx.AQ _ [0,1,0,0,0,0,0,3,3,4,0,4] mixed (by kernel_rfl) ?_
  have htn:=Na (k:=I6 (d-1)) (i:=i+1) oM
  have hts:S3 (i+1) (I6 (d-1))=S3 i (I6 (d-1))+I6 (d-1):=rfl
  have hti:=OM (k:=MG (d-1)) (i:=i) oM oM
  have hlo:=hko.lo
  have hln:=hko.len
  refine Jx.Al (p:=zP w9.heap.size) 4 AY Z Z Aa<|Jx.dT (p:=Ap (zP w9.heap.size) 4) vk B7 Z (fun wj hj=>(BX.chg (w:=f9.drew) (F:=[gs,gg]) a1 hj fun hm=>zH<|CR hm).ldp (i:=4) sM) Aa<|Jx.Yt (zP gg) Z Aa<|Jx.Yt (zI vars) Z Aa<|Jx.Yt (zI funcs) Z Aa<|Jx.Yt (zI (d:Int)) Z Aa<|Jx.j1<|BJ ((d-1:Nat):Int) Z Z (by rw[DH oM oM];omega) Aa<|Ai ?_
  refine Jx.At 124 [] [] [zP gg,zI vars,zI funcs,zI ((d-1:Nat):Int)] Z Z Nq Aa (IH _ gg gs sv cs m pp dp l pl p (vars) (funcs) oM aw ac (hp.chg (Bg<|AZ dp) al.drew) _hvars _hfuncs oM oM hpr oM oM oM) ?_
  rintro ih gy ⟨i6,fr,i7,i8,rfl,a4,d8,g9,d9,bj,da,ga⟩
  refine⟨_,rfl,a4,?_⟩
  replace bj:=bj.low (B':=f9.heap.size)<|A7 _
  replace a4:=a4.of_drew
  have ed:f9.heap.size≤gy.heap.size:=a4.size
  have db:Ax [gs,gg] w gy:=al.trans a4
  have dc:=ab.chg (Ak<|Aq 153 d) a4 fun c hc=>zH<|CR hc
  have dd:=ad.chg a4 fun hm=>zH<|CR hm
  have de:=a1.chg a4 fun hm=>zH<|CR hm
  refine Jx.Vr Z (Cw (cs:=[zI fr.kind,zI fr.num,zI fr.pick,zI fr.count,i6]) (y:=fr) (B:=f9.heap.size) (Aq 153 d) Cc B3 Z (by decide) Z (Gg.mk1 oM da bj) oM Aa fun i9 gz ae gb df=>?_)
  have ee:gy.heap.size≤gz.heap.size:=ae.size
  have dg:Ax [gs,gg] w gz:=db.ext ae
  have b3:=dc.ext (Ak<|Aq 153 d) ae
  have b4:=d8.ext ae
  have b5:=d9.ext ae
  have b6:=dd.ext ae
  have b7:=de.ext ae
  refine D8 (v:=vk) (a:=i9) (Aq 153 d) Cc B3 Z (by decide) Z Z b3 oM df oM oM oM (by unfold maxLen;omega) Aa fun i2 gw ii am ax cd=>?_
  have ef:gz.heap.size≤gw.heap.size:=am.size
  have dh:Ax [gs,gg] w gw:=dg.fresh am (fun c hc=>zH<|ax _ hc)
  have di:=b4.chg am fun c hc=>zH<|ax _ hc
  have dj:=b5.chg am fun hm=>zH<|ax _ hm
  have dk:=b6.chg am fun hm=>zH<|ax _ hm
  have dl:=b7.chg am fun hm=>zH<|ax _ hm
  refine Al (p:=zP w9.heap.size) 4 AY Z Z Aa (Bc (k:=4) (w:=gw) Ia Z Z (AV cd.isSlS) dl sM Aa fun i0 an gc bk=>?_)
  replace bk:BX i0.heap w9.heap.size [zI k,zI f1,zI f2,zI cnt,i2]:=bk
  have eg:gw.heap.size≤i0.heap.size:=an.size
  have dm:Ax [gs,gg] w i0:=dh.fresh an (fun _ h=>zE h)
  have dn:=di.chg an fun c hc=>zH<|A9 hc
  have dq:=dj.chg an (zB ·)
  have dr:=dk.chg an (zB ·)
  have ds:=cd.chg (Ak<|Aq 153 d) an fun _ h=>zA h
  exact Ai<|Ab _ [0,0,0] Z<|Ad 1 Z<|AR ((i+1:Nat):Int) Z Z (Bl oM oM) Aa<|Ac 1 Z ⟨(i+1,i8,i7,i2,xs++[fr]),_,rfl,zR,⟨dm,ds.up<|Ak<|Aq 153 d,dn,dq,dr,bk,oM,(by exact hko.snoc oM (by rw[if_neg oM]) (by assumption)),oM,oM,oM,oM,oM⟩,zD⟩
 refine AJ false Z Z (A6 cc) Aa<|Ai<|Aj Z<|A4<|Az<|Az<|Aw<|fC [2,4] Z<|AF (p:=zP w9.heap.size) (.inr Z) [zI k,zI f1,zI f2,zI cnt,vk] AX Z (fun ij gd=>LD.of_box<|BX.ext (w:=f9) a1 gd) Z Aa (B2 (vs:=[zI k,zI f1,zI f2,zI cnt,vk]) AX Z Z (by intro u hu;simp only[ze,z2,or_false]at hu;rcases hu with rfl|rfl|rfl|rfl|rfl <;> first|exact⟨rfl,rfl⟩|exact AV ab.isSlS) ad Z Z Aa fun i1 ao ge bl=>?_)
 replace bl:BX i1.heap w.heap.size [zI k,zI f1,zI f2,zI cnt,vk]:=bl
 have eh:f9.heap.size≤i1.heap.size:=ao.size
 have dt:Ax [gs,gg] w i1:=al.fresh ao (fun _ h=>zE h)
 have du:=ab.chg (Ak<|Aq 153 d) ao fun _ h=>zA h
 have dv:=aw.chg ao fun c hc=>zH<|A9 hc
 have dw:=ac.chg ao (zB ·)
 have gf:=a1.chg ao (zB ·)
 refine Ai<|A1 ?_
 have hln:=hko.len
 have htn:=Na (k:=I6 (d-1)) (i:=i) oM
 exact C8 (cs:=[zI k,zI f1,zI f2,zI cnt,vk]) Z AX Z bl Z ⟨vk,.mk k f1 f2 cnt xs,m,l,rfl,dt,dv,⟨zO,zO⟩,dw,(du.up<|Ak<|Aq 153 d).low (B':=w.heap.size) oM,FQ oM oM oM oM,(by exact hko.node1 oM oM oM (fun _=>by omega) (YT hkc oM oM oM))⟩
theorem Ql {p:Prop}(h:p:=by exact hko.snoc oM (by first|rw[if_pos oM]|rw[if_neg oM]) (by assumption)):p:=h
theorem Ok {p:Prop}(h:p:=by intro hpl;first|omega|(simp_all;omega)|simp_all):p:=h
theorem Jz (w:World)(gg gs:Nat)(sv:Value)(cs:List UInt8)(n0:Nat)(pp:Value)(dp:Nat)(l0:Int)(pl:Bool)(p:List Fn)(vars:Int)(funcs:Int)(d:Nat)(hgg:gs<gg)(hs:Fk w.heap gs sv cs n0)(hB0:BX w.heap gg [zP gs,pp,zI l0,.bool pl])(hp:RN [gs,gg] (rP (KS dp)) w.heap pp p)(_hvars:BG vars)(_hfuncs:BG funcs)(hv:0≤vars∧vars+(d:Int)≤1000)(hfu:0≤funcs∧funcs≤(p.length:Int))(hpr:ZQ p)(hd:d≤8)(hn:n0+I6 d≤1000000000000)(hl:MG d-1000000≤l0∧l0≤1000)(IH1:∀d',d'<d→GX d')(IH2:1≤d→GC d) :
  Calls Tryz.prog 124 #[zP gg,zI vars,zI funcs,zI (d:Int)] w (fun e w'=>∃(v:Value) (ex:Ex) (n1:Nat) (l1:Int),e=.returned (.agg #[zI ex.kind,zI ex.num,zI ex.pick,zI ex.count,v])∧Ax [gs,gg] w w'∧Fk w'.heap gs sv cs n1∧(n0≤n1∧n1≤n0+(I6 d))∧BX w'.heap gg [zP gs,pp,zI l1,.bool pl]∧Fr (CA 5 (Ga 153 d) 153) w.heap.size w'.heap.size w'.heap v ex.kids∧Qu ex∧Om p funcs vars pl d l0 l1 ex):=by
 refine Au [zP gg,zI vars,zI funcs,zI (d:Int)] 117 Tryz.func124 Z Z sM ?_
 have l8:Ax [gs,gg] w w:=Ax.refl [gs,gg] w
 have q9:=hs.lt
 have mj:=hB0.lt
 have hst:=PJ d
 have hnd:=Ir d
 have hnl:=T5 (d:=d) oM
 refine fC [3] Z ?_
 have nt:=hB0.lt
 refine AU (z:=.agg #[zI 0,zI 0,zI 0,zI 0,zN]) Ec Aa fun w1 db ml ih=>?_
 have ii:w.heap.size≤w1.heap.size:=db.size
 have l9:Ax [gs,gg] w w1:=l8.ext db
 have ij:=hs.ext db
 have ci:=hB0.ext db
 replace ih:BX w1.heap w.heap.size [zI 0,zI 0,zI 0,zI 0,zN]:=ih
 refine Ai<|fC [0,0,0,2,0,0,0,4] Z<|Ad 1 Z<|B9 Z Aa<|Al (p:=zP gg) 2 O5 Z Z Aa<|Ag (p:=Ap (zP gg) 2) (.inr Z) (zI l0) AI Z (ci.ldp (i:=2) sM) Aa ?_
 refine BJ (l0-((1:Nat):Int)) Z Z (DH sD sD) Aa<|B9 Z Aa ?_
 refine Al (p:=zP gg) 2 O5 Z Z Aa (Bc (k:=2) (w:=w1) I9 Z Z ⟨rfl,rfl⟩ ci sM Aa fun w3 dc mm cq=>?_)
 replace cq:BX w3.heap gg [zP gs,pp,zI (l0-((1:Nat):Int)),.bool pl]:=cq
 have ik:w1.heap.size≤w3.heap.size:=dc.size
 have da:Ax [gs,gg] w w3:=l9.trans (dc.sub YU)
 have id:=ij.chg dc fun c hc=>zH<|A9 hc
 have ie:=ih.chg dc (zB ·)
 refine Ai<|A0<|fC [0,0,0,2,0,0,0,0,0,0,0,0,0,2,4,0] Z<|Ad 1 Z<|B9 Z Aa<|Al (p:=zP gg) 2 O5 Z Z Aa<|Ag (p:=Ap (zP gg) 2) (.inr Z) (zI (l0-((1:Nat):Int))) AI Z (cq.ldp (i:=2) sM) Aa ?_
 by_cases la:l0-((1:Nat):Int)<((1:Nat):Int)
 ·refine AJ true Z Z (A5 la) Aa<|Ac 11 Z<|Af Z<|fC [0,0,4,4] Z<|Ad 2 Z<|AH 196 [] [] [zP gg,zI vars] Z Z RA Aa (De _ gg gs sv cs n0 pp dp (l0-((1:Nat):Int)) pl p (vars) oM id cq (hp.chg (Bg<|AZ dp) da) _hvars oM oM) ?_
  rintro e7 w7 ⟨x7,n7,rfl,il,mn,nu,mo,mp,im,nv⟩
  refine⟨_,rfl,?_⟩
  have mq:w3.heap.size≤w7.heap.size:=il.size
  have mr:Ax [gs,gg] w w7:=da.trans il
  have ms:=ie.chg il fun hm=>zH<|CR hm
  refine B2 (vs:=[zI x7.kind,zI x7.num,zI x7.pick,zI x7.count,zN]) AX Z Z Hx ms Z Z Aa fun w9 ig nw io=>?_
  replace io:BX w9.heap w.heap.size [zI x7.kind,zI x7.num,zI x7.pick,zI x7.count,zN]:=io
  have mt:w7.heap.size≤w9.heap.size:=ig.size
  have mu:Ax [gs,gg] w w9:=mr.fresh ig (fun _ h=>zE h)
  have ip:=mn.chg ig fun c hc=>zH<|A9 hc
  have iq:=mo.chg ig (zB ·)
  exact Ai<|A1<|Ao<|C8 (cs:=[zI x7.kind,zI x7.num,zI x7.pick,zI x7.count,zN]) Z AX Z io Z ⟨zN,x7,n7,l0-((1:Nat):Int),rfl,mu,ip,⟨zO,zO⟩,iq,(by rw[im];exact Cq _ _ _),mp,(by exact PK.ok (by assumption) d)⟩
 refine AJ false Z Z (A6 la) Aa<|Ad 2 Z ?_
 by_cases dd:(d:Int)<((1:Nat):Int)
 ·refine AJ true Z Z (A5 dd) (Ae (e:=24) Z Z Z)<|Ac 8 Z<|Af Z<|fC [0,0,4,4] Z<|Ad 2 Z<|AH 196 [] [] [zP gg,zI vars] Z Z RA Aa (De _ gg gs sv cs n0 pp dp (l0-((1:Nat):Int)) pl p (vars) oM id cq (hp.chg (Bg<|AZ dp) da) _hvars oM oM) ?_
  rintro qa ox ⟨fr,pv,rfl,cr,ir,mv,is,it,de,mw⟩
  refine⟨_,rfl,?_⟩
  have lb:w3.heap.size≤ox.heap.size:=cr.size
  have iu:Ax [gs,gg] w ox:=da.trans cr
  have iv:=ie.chg cr fun hm=>zH<|CR hm
  refine B2 (vs:=[zI fr.kind,zI fr.num,zI fr.pick,zI fr.count,zN]) AX Z Z Hx iv Z Z Aa fun oy cc mx ct=>?_
  replace ct:BX oy.heap w.heap.size [zI fr.kind,zI fr.num,zI fr.pick,zI fr.count,zN]:=ct
  have lc:ox.heap.size≤oy.heap.size:=cc.size
  have iw:Ax [gs,gg] w oy:=iu.fresh cc (fun _ h=>zE h)
  have ix:=ir.chg cc fun c hc=>zH<|A9 hc
  have iy:=is.chg cc (zB ·)
  exact Ai<|A1<|Ao<|C8 (cs:=[zI fr.kind,zI fr.num,zI fr.pick,zI fr.count,zN]) Z AX Z ct Z ⟨zN,fr,pv,l0-((1:Nat):Int),rfl,iw,ix,⟨zO,zO⟩,iy,(by rw[de];exact Cq _ _ _),it,(by exact PK.ok (by assumption) d)⟩
 refine AJ false Z Z (A6 dd) (Ae (e:=24) Z Z Z)<|Ad 3 Z<|B9 Z (Ae (e:=28) Z Z Z)<|Al (p:=zP gg) 0 EU Z Z (Ae (e:=28) Z Z Z)<|Ag (p:=Ap (zP gg) 0) (.inr Z) (zP gs) IT Z (cq.ldp (i:=0) sM) (Ae (e:=28) Z Z Z) ?_
 refine AH 122 [] [] [zP gs,zI ((5:Nat):Int)] Z Z Np (Ae (e:=28) Z Z Z) (Co _ gs _ _ _ ((5:Nat):Int) id oM oM sD) ?_
 rintro qb f1 ⟨oo,px,rfl,bn,df,my,iz⟩
 refine⟨_,rfl,?_⟩
 have dg:w3.heap.size≤f1.heap.size:=bn.size
 have cd:Ax [gs,gg] w f1:=da.trans (bn.sub Gw)
 have ce:=cq.chg bn (zB ·)
 have cf:=ie.chg bn (zB ·)
 refine Ac 1 Z ?_
 cases dh:oo
 ·refine Aj (by first|rfl|exact zW dh)<|A2<|fC [0,3,4] Z ?_
  have py:=Xn (d:=d) oM
  have pz:=ZP (d:=d) oM
  have mz:=PJ (d-1)
  have n2:=Ir (d-1)
  have di:∀(wq:World),(Instr.build 153 #[]).run Tryz.prog wq=.ok (.agg #[zI 0,zI 0,zI 0,zI 0,zN]) wq:=by intro wq;kernel_rfl
  refine Bh (ps:=#[]) (.agg #[zI 0,zI 0,zI 0,zI 0,zN]) (by simp only[zc,zf,zh]) (fun wq=>di  wq) Aa ?_
  have n3:=ce.lt
  have n4:=cf.lt
  refine AU (z:=.agg #[zI 0,zI 0,zI 0,zI 0,zN]) Ec Aa fun ou b4 j0 cu=>?_
  have dj:f1.heap.size≤ou.heap.size:=b4.size
  have dk:Ax [gs,gg] w ou:=cd.ext b4
  have cg:=df.ext b4
  have b1:=ce.ext b4
  have b2:=cf.ext b4
  replace cu:BX ou.heap f1.heap.size [zI 0,zI 0,zI 0,zI 0,zN]:=cu
  refine B2 (vs:=[zI 0,zI 0,zI 0,zI 0,zN]) AX Z Z Hx cu Z Z Aa fun ov b5 j2 cv=>?_
  replace cv:BX ov.heap f1.heap.size [zI 0,zI 0,zI 0,zI 0,zN]:=cv
  have dl:ou.heap.size≤ov.heap.size:=b5.size
  have dm:Ax [gs,gg] w ov:=dk.fresh b5 (fun _ h=>zE h)
  have dn:=cg.chg b5 fun c hc=>zH<|A9 hc
  have cw:=b1.chg b5 (zB ·)
  have dq:=b2.chg b5 (zB ·)
  refine Ai<|A0<|KG (S:=Int×Nat) (fun⟨k,m1⟩=>([(0,zP gg),(1,zI vars),(2,zI funcs),(3,zI (d:Int)),(8,zP w.heap.size),(9,zP f1.heap.size)])) (fun⟨k,m1⟩ W=>Ax [gs,gg] w W∧Fk W.heap gs sv cs m1∧BX W.heap gg [zP gs,pp,zI (l0-((1:Nat):Int)),.bool pl]∧BX W.heap w.heap.size [zI 0,zI 0,zI 0,zI 0,zN]∧BX W.heap f1.heap.size [zI k,zI 0,zI 0,zI 0,zN]∧(k=3∨k=4∨k=5∨k=6∨k=7∨k=8∨k=9)∧(n0≤m1∧m1≤n0+4)) ?_ ?_
  ·refine fC [0,0,0,2,4] Z<|Ad 1 Z<|B9 Z Aa<|Al (p:=zP gg) 0 EU Z Z Aa<|Ag (p:=Ap (zP gg) 0) (.inr Z) (zP gs) IT Z (cw.ldp (i:=0) sM) Aa ?_
   refine AH 68 [] [] [zP gs,zI ((12:Nat):Int)] Z Z HO Aa (B5 _ gs _ _ _ ((12:Nat):Int) dn oM oM sD) ?_
   rintro qc fe ⟨f2,o4,rfl,bo,ad,n5,j3⟩
   refine⟨_,rfl,?_⟩
   have ld:ov.heap.size≤fe.heap.size:=bo.size
   have ab:Ax [gs,gg] w fe:=dm.trans (bo.sub Gw)
   have ae:=cw.chg bo (zB ·)
   have af:=dq.chg bo (zB ·)
   have ag:=cv.chg bo (zB ·)
   refine Ai<|A3<|fC [0,0] Z ?_
   by_cases dr:f2=((0:Nat):Int)
   ·refine As true Z Z (A5 dr) Aa<|Ac 1 Z<|Af Z<|Ab _ [0,4] Z<|Al (p:=zP f1.heap.size) 0 Bn Z Z Aa (Bc (k:=0) (w:=fe) I9 Z Z ⟨rfl,rfl⟩ ag sM Aa fun oz bp n6 cx=>?_)
    replace cx:BX oz.heap f1.heap.size [zI ((7:Nat):Int),zI 0,zI 0,zI 0,zN]:=cx
    have le:fe.heap.size≤oz.heap.size:=bp.size
    have j4:Ax [gs,gg] w oz:=ab.fresh bp (fun _ h=>zE h)
    have j5:=ad.chg bp fun c hc=>zH<|A9 hc
    have j6:=ae.chg bp (zB ·)
    have j7:=af.chg bp (zB ·)
    exact Ai ⟨(((7:Nat):Int),o4),_,rfl,zR,⟨j4,j5,j6,j7,cx,oM,oM⟩⟩
   refine As false Z Z (A6 dr) Aa<|Ac 1 Z<|Aj Z<|fC [0,0] Z ?_
   by_cases ds:f2=((1:Nat):Int)
   ·refine As true Z Z (A5 ds) Aa<|Ac 1 Z<|Af Z<|Ab _ [0,4] Z<|Al (p:=zP f1.heap.size) 0 Bn Z Z Aa (Bc (k:=0) (w:=fe) I9 Z Z ⟨rfl,rfl⟩ ag sM Aa fun p0 bq n8 cy=>?_)
    replace cy:BX p0.heap f1.heap.size [zI ((9:Nat):Int),zI 0,zI 0,zI 0,zN]:=cy
    have lf:fe.heap.size≤p0.heap.size:=bq.size
    have j8:Ax [gs,gg] w p0:=ab.fresh bq (fun _ h=>zE h)
    have j9:=ad.chg bq fun c hc=>zH<|A9 hc
    have ja:=ae.chg bq (zB ·)
    have jb:=af.chg bq (zB ·)
    exact Ai ⟨(((9:Nat):Int),o4),_,rfl,zR,⟨j8,j9,ja,jb,cy,oM,oM⟩⟩
   refine As false Z Z (A6 ds) Aa<|Ac 1 Z<|Aj Z<|fC [0,0] Z ?_
   by_cases dt:f2=((2:Nat):Int)
   ·refine As true Z Z (A5 dt) Aa<|Ac 1 Z<|Af Z<|Ab _ [0,4] Z<|Al (p:=zP f1.heap.size) 0 Bn Z Z Aa (Bc (k:=0) (w:=fe) I9 Z Z ⟨rfl,rfl⟩ ag sM Aa fun p2 br n9 cz=>?_)
    replace cz:BX p2.heap f1.heap.size [zI ((8:Nat):Int),zI 0,zI 0,zI 0,zN]:=cz
    have lg:fe.heap.size≤p2.heap.size:=br.size
    have jc:Ax [gs,gg] w p2:=ab.fresh br (fun _ h=>zE h)
    have jd:=ad.chg br fun c hc=>zH<|A9 hc
    have je:=ae.chg br (zB ·)
    have jf:=af.chg br (zB ·)
    exact Ai ⟨(((8:Nat):Int),o4),_,rfl,zR,⟨jc,jd,je,jf,cz,oM,oM⟩⟩
   refine As false Z Z (A6 dt) Aa<|Ac 1 Z<|Aj Z<|fC [0,0] Z ?_
   by_cases du:f2=((3:Nat):Int)
   ·refine As true Z Z (A5 du) Aa<|Ac 1 Z<|Af Z<|Ab _ [0,4] Z<|Al (p:=zP f1.heap.size) 0 Bn Z Z Aa (Bc (k:=0) (w:=fe) I9 Z Z ⟨rfl,rfl⟩ ag sM Aa fun p4 bs na d0=>?_)
    replace d0:BX p4.heap f1.heap.size [zI ((6:Nat):Int),zI 0,zI 0,zI 0,zN]:=d0
    have lh:fe.heap.size≤p4.heap.size:=bs.size
    have jg:Ax [gs,gg] w p4:=ab.fresh bs (fun _ h=>zE h)
    have jh:=ad.chg bs fun c hc=>zH<|A9 hc
    have ji:=ae.chg bs (zB ·)
    have jj:=af.chg bs (zB ·)
    exact Ai ⟨(((6:Nat):Int),o4),_,rfl,zR,⟨jg,jh,ji,jj,d0,oM,oM⟩⟩
   refine As false Z Z (A6 du) Aa<|Ac 1 Z<|Aj Z<|A0<|fC [0,0] Z ?_
   by_cases dv:f2=((4:Nat):Int)
   ·refine As true Z Z (A5 dv) Aa<|Ac 1 Z<|Af Z<|A2<|Af Z<|Ab _ [0,4] Z<|Al (p:=zP f1.heap.size) 0 Bn Z Z Aa (Bc (k:=0) (w:=fe) I9 Z Z ⟨rfl,rfl⟩ ag sM Aa fun p5 bt nb d1=>?_)
    replace d1:BX p5.heap f1.heap.size [zI ((3:Nat):Int),zI 0,zI 0,zI 0,zN]:=d1
    have li:fe.heap.size≤p5.heap.size:=bt.size
    have jk:Ax [gs,gg] w p5:=ab.fresh bt (fun _ h=>zE h)
    have jl:=ad.chg bt fun c hc=>zH<|A9 hc
    have jm:=ae.chg bt (zB ·)
    have jn:=af.chg bt (zB ·)
    exact Ai ⟨(((3:Nat):Int),o4),_,rfl,zR,⟨jk,jl,jm,jn,d1,oM,oM⟩⟩
   refine As false Z Z (A6 dv) Aa<|Ac 1 Z<|Aj Z<|Ab _ [0,0] Z ?_
   by_cases dw:f2=((5:Nat):Int)
   ·refine As true Z Z (A5 dw) Aa<|Ac 1 Z<|Af Z<|Ab _ [0,4] Z<|Al (p:=zP f1.heap.size) 0 Bn Z Z Aa (Bc (k:=0) (w:=fe) I9 Z Z ⟨rfl,rfl⟩ ag sM Aa fun p6 bu nc d2=>?_)
    replace d2:BX p6.heap f1.heap.size [zI ((3:Nat):Int),zI 0,zI 0,zI 0,zN]:=d2
    have lj:fe.heap.size≤p6.heap.size:=bu.size
    have jo:Ax [gs,gg] w p6:=ab.fresh bu (fun _ h=>zE h)
    have jp:=ad.chg bu fun c hc=>zH<|A9 hc
    have jq:=ae.chg bu (zB ·)
    have jr:=af.chg bu (zB ·)
    exact Ai ⟨(((3:Nat):Int),o4),_,rfl,zR,⟨jo,jp,jq,jr,d2,oM,oM⟩⟩
   refine As false Z Z (A6 dw) Aa<|Ac 1 Z<|Aj Z<|fC [0,0] Z ?_
   by_cases dx:f2=((6:Nat):Int)
   ·refine As true Z Z (A5 dx) Aa<|Ac 1 Z<|Af Z<|Ab _ [0,4] Z<|Al (p:=zP f1.heap.size) 0 Bn Z Z Aa (Bc (k:=0) (w:=fe) I9 Z Z ⟨rfl,rfl⟩ ag sM Aa fun p7 bv nd d3=>?_)
    replace d3:BX p7.heap f1.heap.size [zI ((4:Nat):Int),zI 0,zI 0,zI 0,zN]:=d3
    have lk:fe.heap.size≤p7.heap.size:=bv.size
    have js:Ax [gs,gg] w p7:=ab.fresh bv (fun _ h=>zE h)
    have jt:=ad.chg bv fun c hc=>zH<|A9 hc
    have ju:=ae.chg bv (zB ·)
    have jv:=af.chg bv (zB ·)
    exact Ai ⟨(((4:Nat):Int),o4),_,rfl,zR,⟨js,jt,ju,jv,d3,oM,oM⟩⟩
   refine As false Z Z (A6 dx) Aa<|Ac 1 Z<|Aj Z<|A0<|fC [0,0] Z ?_
   by_cases dy:f2=((7:Nat):Int)
   ·refine As true Z Z (A5 dy) Aa<|Ac 1 Z<|Af Z<|A2<|Af Z<|Ab _ [0,4] Z<|Al (p:=zP f1.heap.size) 0 Bn Z Z Aa (Bc (k:=0) (w:=fe) I9 Z Z ⟨rfl,rfl⟩ ag sM Aa fun p8 bw ne d4=>?_)
    replace d4:BX p8.heap f1.heap.size [zI ((5:Nat):Int),zI 0,zI 0,zI 0,zN]:=d4
    have ll:fe.heap.size≤p8.heap.size:=bw.size
    have jw:Ax [gs,gg] w p8:=ab.fresh bw (fun _ h=>zE h)
    have jx:=ad.chg bw fun c hc=>zH<|A9 hc
    have jy:=ae.chg bw (zB ·)
    have jz:=af.chg bw (zB ·)
    exact Ai ⟨(((5:Nat):Int),o4),_,rfl,zR,⟨jw,jx,jy,jz,d4,oM,oM⟩⟩
   refine As false Z Z (A6 dy) Aa<|Ac 1 Z<|Aj Z<|fC [0,0] Z ?_
   by_cases dz:f2=((8:Nat):Int)
   ·refine As true Z Z (A5 dz) Aa<|Ac 1 Z<|Af Z<|A2<|Af Z<|Ab _ [0,4] Z<|Al (p:=zP f1.heap.size) 0 Bn Z Z Aa (Bc (k:=0) (w:=fe) I9 Z Z ⟨rfl,rfl⟩ ag sM Aa fun p9 bx nf d5=>?_)
    replace d5:BX p9.heap f1.heap.size [zI ((5:Nat):Int),zI 0,zI 0,zI 0,zN]:=d5
    have lm:fe.heap.size≤p9.heap.size:=bx.size
    have k0:Ax [gs,gg] w p9:=ab.fresh bx (fun _ h=>zE h)
    have k1:=ad.chg bx fun c hc=>zH<|A9 hc
    have k3:=ae.chg bx (zB ·)
    have k4:=af.chg bx (zB ·)
    exact Ai ⟨(((5:Nat):Int),o4),_,rfl,zR,⟨k0,k1,k3,k4,d5,oM,oM⟩⟩
   refine As false Z Z (A6 dz) Aa<|Ac 1 Z<|Aj Z<|Ab _ [0,0] Z ?_
   by_cases e0:f2=((9:Nat):Int)
   ·refine As true Z Z (A5 e0) Aa<|Ac 1 Z<|Af Z<|Ab _ [0,4] Z<|Al (p:=zP f1.heap.size) 0 Bn Z Z Aa (Bc (k:=0) (w:=fe) I9 Z Z ⟨rfl,rfl⟩ ag sM Aa fun pa bz ng d6=>?_)
    replace d6:BX pa.heap f1.heap.size [zI ((5:Nat):Int),zI 0,zI 0,zI 0,zN]:=d6
    have ln:fe.heap.size≤pa.heap.size:=bz.size
    have k5:Ax [gs,gg] w pa:=ab.fresh bz (fun _ h=>zE h)
    have k6:=ad.chg bz fun c hc=>zH<|A9 hc
    have k7:=ae.chg bz (zB ·)
    have k8:=af.chg bz (zB ·)
    exact Ai ⟨(((5:Nat):Int),o4),_,rfl,zR,⟨k5,k6,k7,k8,d6,oM,oM⟩⟩
   refine As false Z Z (A6 e0) Aa<|Ac 1 Z<|Aj Z<|fC [0,0,0,0,4,4] Z<|Ad 4 Z<|AH 197 [] [] [zP gg,zI vars,zI funcs,zI (d:Int)] Z Z bW Aa (IH2 oM _ gg gs sv cs o4 pp dp (l0-((1:Nat):Int)) pl p (vars) (funcs) oM ad ae (hp.chg (Bg<|AZ dp) ab) _hvars _hfuncs oM oM hpr oM oM oM) ?_
   rintro qd pb ⟨ow,fs,q0,q1,rfl,ch,k9,nh,ka,e1,kb,ni⟩
   refine⟨_,rfl,?_⟩
   have lp:fe.heap.size≤pb.heap.size:=ch.size
   have kc:Ax [gs,gg] w pb:=ab.trans ch
   have kd:=af.chg ch fun hm=>zH<|CR hm
   have ke:=ag.chg ch fun hm=>zH<|CR hm
   refine B2 (vs:=[zI fs.kind,zI fs.num,zI fs.pick,zI fs.count,ow]) AX Z Z (by intro u hu;simp only[ze,z2,or_false]at hu;rcases hu with rfl|rfl|rfl|rfl|rfl <;> first|exact⟨rfl,rfl⟩|exact AV e1.isSlS) kd Z Z Aa fun pc b6 nj d7=>?_
   replace d7:BX pc.heap w.heap.size [zI fs.kind,zI fs.num,zI fs.pick,zI fs.count,ow]:=d7
   have lq:pb.heap.size≤pc.heap.size:=b6.size
   have kf:Ax [gs,gg] w pc:=kc.fresh b6 (fun _ h=>zE h)
   have kg:=k9.chg b6 fun c hc=>zH<|A9 hc
   have kh:=ka.chg b6 (zB ·)
   have nk:=ke.chg b6 (zB ·)
   have ki:=e1.chg (Ak<|Aq 153 d) b6 fun _ h=>zA h
   exact Ai<|A1<|AL<|Ao<|C8 (cs:=[zI fs.kind,zI fs.num,zI fs.pick,zI fs.count,ow]) Z AX Z d7 Z ⟨ow,fs,q0,q1,rfl,kf,kg,⟨zO,zO⟩,kh,(ki.up<|Ak<|Aq 153 d).low (B':=w.heap.size) oM,kb,(by exact Om.up1 (by assumption))⟩
  clear l8 ml db ii l9 mm dc ik da id ie bn dg cd ce cf j0 b4 dj dk b1 b2 j2 b5 dl dm dn cw dq
  rintro⟨k,m1⟩ ρ30 op ⟨b7,ah,a2,a6,a1,hkk,nx⟩
  have e2:w.heap.size≤op.heap.size:=b7.size
  have nl:=a2.lt
  have nm:=a6.lt
  have nn:=a1.lt
  refine A0<|KG (S:=Int) (fun(k2:Int)=>([(0,zP gg),(1,zI vars),(2,zI funcs),(3,zI (d:Int)),(8,zP w.heap.size),(9,zP f1.heap.size)])) (fun(k2:Int) (W:World)=>Ax [gs,gg] w W∧Fk W.heap gs sv cs m1∧BX W.heap gg [zP gs,pp,zI (l0-((1:Nat):Int)),.bool pl]∧BX W.heap w.heap.size [zI 0,zI 0,zI 0,zI 0,zN]∧BX W.heap f1.heap.size [zI k2,zI 0,zI 0,zI 0,zN]∧(k2=3∨k2=4∨k2=5∨k2=6∨k2=7∨k2=8∨k2=9)∧(pl=true→k2≠6∧k2≠8)) ?_ ?_
  ·refine fC [0,0,0,2,0,0,2,0,0,0,2,0,0,0] Z<|Ad 1 Z<|B9 Z Aa<|Al (p:=zP gg) 3 X7 Z Z Aa<|Ag (p:=Ap (zP gg) 3) (.inr Z) (.bool (true && pl)) fi Z (a2.ldp (i:=3) sM) Aa<|Ad 1 Z ?_
   cases no:(true && pl)
   ·exact Ac 9 Z<|Aj Z<|A2 ⟨k,_,rfl,zR,⟨b7,ah,a2,a6,a1,oM,Ok⟩⟩
   refine Al (p:=zP f1.heap.size) 0 Bn Z Z (Ae (e:=77) Z Z Z)<|Ag (p:=Ap (zP f1.heap.size) 0) (.inr Z) (zI k) AI Z (a1.ldp (i:=0) sM) (Ae (e:=77) Z Z Z) ?_
   by_cases e3:k=((8:Nat):Int)
   ·refine As true Z Z (A5 e3) (Ae (e:=77) Z Z Z)<|Ac 6 Z<|Af Z<|Ab _ [0,4] Z<|Al (p:=zP f1.heap.size) 0 Bn Z Z Aa (Bc (k:=0) (w:=op) I9 Z Z ⟨rfl,rfl⟩ a1 sM Aa fun pd c0 np d8=>?_)
    replace d8:BX pd.heap f1.heap.size [zI ((5:Nat):Int),zI 0,zI 0,zI 0,zN]:=d8
    have lr:op.heap.size≤pd.heap.size:=c0.size
    have kj:Ax [gs,gg] w pd:=b7.fresh c0 (fun _ h=>zE h)
    have e4:=ah.chg c0 fun c hc=>zH<|A9 hc
    have e5:=a2.chg c0 (zB ·)
    have e6:=a6.chg c0 (zB ·)
    exact Ai ⟨((5:Nat):Int),_,rfl,zR,⟨kj,e4,e5,e6,d8,oM,Ok⟩⟩
   refine As false Z Z (A6 e3) (Ae (e:=77) Z Z Z)<|Ad 1 Z<|Al (p:=zP f1.heap.size) 0 Bn Z Z (Ae (e:=81) Z Z Z)<|Ag (p:=Ap (zP f1.heap.size) 0) (.inr Z) (zI k) AI Z (a1.ldp (i:=0) sM) (Ae (e:=81) Z Z Z) ?_
   by_cases cj:k=((6:Nat):Int)
   ·refine As true Z Z (A5 cj) (Ae (e:=81) Z Z Z)<|Ac 2 Z<|Af Z<|Ab _ [0,4] Z<|Al (p:=zP f1.heap.size) 0 Bn Z Z Aa (Bc (k:=0) (w:=op) I9 Z Z ⟨rfl,rfl⟩ a1 sM Aa fun o8 au ls c1=>?_)
    replace c1:BX o8.heap f1.heap.size [zI ((5:Nat):Int),zI 0,zI 0,zI 0,zN]:=c1
    have kk:op.heap.size≤o8.heap.size:=au.size
    have e8:Ax [gs,gg] w o8:=b7.fresh au (fun _ h=>zE h)
    have e9:=ah.chg au fun c hc=>zH<|A9 hc
    have ea:=a2.chg au (zB ·)
    have eb:=a6.chg au (zB ·)
    exact Ai ⟨((5:Nat):Int),_,rfl,zR,⟨e8,e9,ea,eb,c1,oM,Ok⟩⟩
   exact As false Z Z (A6 cj) (Ae (e:=81) Z Z Z)<|Ac 2 Z<|Aj Z<|A2 ⟨k,_,rfl,zR,⟨b7,ah,a2,a6,a1,oM,Ok⟩⟩
  clear a1 a6 a2 ah b7 e2
  rintro k2 ρ96 on ⟨ec,c2,ay,az,b0,nq,nr⟩
  have lu:w.heap.size≤on.heap.size:=ec.size
  have lv:=ay.lt
  have lw:=az.lt
  have lx:=b0.lt
  refine A0<|fE Z<|A3 ?_
  have hknb:=eH nq
  refine AW (S:=Nat×Int×Nat×Value×List Ex) (fun⟨i,l,m,vk,xs⟩=>([(10,zI (i:Int)),(0,zP gg),(1,zI vars),(2,zI funcs),(3,zI (d:Int)),(8,zP w.heap.size),(9,zP f1.heap.size)])) (fun⟨i,l,m,vk,xs⟩ W=>Ax [gs,gg] w W∧Fr (CA 5 (Ga 153 d) 153) on.heap.size W.heap.size W.heap vk xs∧Fk W.heap gs sv cs m∧BX W.heap gg [zP gs,pp,zI l,.bool pl]∧BX W.heap w.heap.size [zI 0,zI 0,zI 0,zI 0,zN]∧BX W.heap f1.heap.size [zI k2,zI 0,zI 0,zI 0,vk]∧(i:Int)≤kn k2∧QQ p funcs vars pl k2 d (l0-1) l xs i∧(n0≤m∧m≤n0+8+S3 i (I6 (d-1)))∧gg<on.heap.size∧w.heap.size<on.heap.size∧f1.heap.size<on.heap.size∧on.heap.size≤W.heap.size) (fun⟨i,l,m,vk,xs⟩=>(kn k2).toNat-i) (0,l0-((1:Nat):Int),m1,zN,([]:List Ex)) ⟨rfl,rfl,rfl,rfl,rfl,rfl,rfl,trivial⟩ ⟨ec,(Cq _ 0 _).up<|Ak<|Aq 153 d,c2,ay,az,b0,oM,(by exact QQ.nil ..),(by exact⟨zO,by show _≤n0+8+0;omega⟩),oM,oM,oM,oM⟩ ?_
  clear b0 az ay c2
  rintro⟨i,l,m,vk,xs⟩ ρ114 f3 ⟨a7,a3,ac,a4,a5,a0,ny,hko,hmb,kl,km,ko,kp⟩
  have kq:w.heap.size≤f3.heap.size:=a7.size
  have ly:=a4.lt
  have lz:=a5.lt
  have m0:=a0.lt
  refine A0<|fC [0,0,2,0,0] Z<|Ad 1 Z<|Al (p:=zP f1.heap.size) 0 Bn Z Z Aa<|Ag (p:=Ap (zP f1.heap.size) 0) (.inr Z) (zI k2) AI Z (a0.ldp (i:=0) sM) Aa<|AG 198 [] [] [zI k2] Z Z Y1 Aa (zI<|kn k2) (fun wq=>fy wq _ oM) ?_
  by_cases ck:(i:Int)<kn k2
  ·refine AJ true Z Z (A5 ck) Aa<|Ai<|Af Z<|A2<|A0<|A3<|fC [0,0] Z<|Ac 2 Z<|A0<|fC [0,2,0,0,0,0,0] Z<|Al (p:=zP f1.heap.size) 0 Bn Z Z Aa<|Ag (p:=Ap (zP f1.heap.size) 0) (.inr Z) (zI k2) AI Z (a0.ldp (i:=0) sM) Aa ?_
   by_cases cl:k2=((9:Nat):Int)
   ·refine As true Z Z (A5 cl) Aa<|Ad 2 Z ?_
    by_cases cm:(i:Int)=((1:Nat):Int)
    ·refine As true Z Z (A5 cm) (Ae (e:=99) Z Z Z)<|Ac 1 Z<|Af Z<|Ab _ [0,0,0] Z<|Ad 1 Z ?_
     refine AR (vars+((1:Nat):Int)) Z Z (DH sD sD) Aa<|Ac 1 Z ?_
     letI:JR:=Sg [gs,gg]
     refine Jx.AQ _ [0,1,0,0,0,0,0,3,3,4,0,4] mixed (by kernel_rfl) ?_
     have htn:=Na (k:=I6 (d-1)) (i:=i+1) oM
     have hts:S3 (i+1) (I6 (d-1))=S3 i (I6 (d-1))+I6 (d-1):=rfl
     have hti:=OM (k:=MG (d-1)) (i:=i) oM oM
     have hlo:=hko.lo
     have hln:=hko.len
     refine Jx.Al (p:=zP f1.heap.size) 4 AY Z Z Aa<|Jx.dT (p:=Ap (zP f1.heap.size) 4) vk B7 Z (fun wj hj=>(BX.chg (w:=f3.drew) (F:=[gs,gg]) a0 hj fun hm=>zH<|CR hm).ldp (i:=4) sM) Aa<|Jx.Yt (zP gg) Z Aa<|Jx.Yt (zI (vars+((1:Nat):Int))) Z Aa<|Jx.Yt (zI funcs) Z Aa<|Jx.Yt (zI (d:Int)) Z Aa<|Jx.j1<|BJ ((d-1:Nat):Int) Z Z (by rw[DH oM oM];omega) Aa<|Ai ?_
     refine Jx.At 124 [] [] [zP gg,zI (vars+((1:Nat):Int)),zI funcs,zI ((d-1:Nat):Int)] Z Z Nq Aa (IH1 (d-1) oM _ gg gs sv cs m pp dp l pl p (vars+((1:Nat):Int)) (funcs) oM ac a4 (hp.chg (Bg<|AZ dp) a7.drew) oM _hfuncs oM oM hpr oM oM oM) ?_
     rintro q2 o9 ⟨pe,fx,pf,pg,rfl,a8,ed,m2,ee,c3,ef,m3⟩
     refine⟨_,rfl,a8,?_⟩
     replace c3:=c3.low (B':=f3.heap.size)<|A7 _
     replace a8:=a8.of_drew
     have kr:f3.heap.size≤o9.heap.size:=a8.size
     have eg:Ax [gs,gg] w o9:=a7.trans a8
     have eh:=a3.chg (Ak<|Aq 153 d) a8 fun c hc=>zH<|CR hc
     have ei:=a5.chg a8 fun hm=>zH<|CR hm
     have ej:=a0.chg a8 fun hm=>zH<|CR hm
     refine Jx.Vr Z (Cw (cs:=[zI fx.kind,zI fx.num,zI fx.pick,zI fx.count,pe]) (y:=fx) (B:=f3.heap.size) (Aq 153 d) Cc B3 Z (by decide) Z (Gg.mk1 oM ef c3) oM Aa fun ph oa ai m4 ek=>?_)
     have ks:o9.heap.size≤oa.heap.size:=ai.size
     have el:Ax [gs,gg] w oa:=eg.ext ai
     have b8:=eh.ext (Ak<|Aq 153 d) ai
     have b9:=ed.ext ai
     have ba:=ee.ext ai
     have bb:=ei.ext ai
     have bc:=ej.ext ai
     refine D8 (v:=vk) (a:=ph) (Aq 153 d) Cc B3 Z (by decide) Z Z b8 oM ek oM oM oM (by unfold maxLen;omega) Aa fun oq o5 q3 al av cn=>?_
     have kt:oa.heap.size≤o5.heap.size:=al.size
     have em:Ax [gs,gg] w o5:=el.fresh al (fun c hc=>zH<|av _ hc)
     have en:=b9.chg al fun c hc=>zH<|av _ hc
     have eo:=ba.chg al fun hm=>zH<|av _ hm
     have ep:=bb.chg al fun hm=>zH<|av _ hm
     have eq:=bc.chg al fun hm=>zH<|av _ hm
     refine Al (p:=zP f1.heap.size) 4 AY Z Z Aa (Bc (k:=4) (w:=o5) Ia Z Z (AV cn.isSlS) eq sM Aa fun ob am m5 c4=>?_)
     replace c4:BX ob.heap f1.heap.size [zI k2,zI 0,zI 0,zI 0,oq]:=c4
     have ku:o5.heap.size≤ob.heap.size:=am.size
     have er:Ax [gs,gg] w ob:=em.fresh am (fun _ h=>zE h)
     have es:=en.chg am fun c hc=>zH<|A9 hc
     have et:=eo.chg am (zB ·)
     have eu:=ep.chg am (zB ·)
     have ev:=cn.chg (Ak<|Aq 153 d) am fun _ h=>zA h
     exact Ai<|Ab _ [0,0,0] Z<|Ad 1 Z<|AR ((i+1:Nat):Int) Z Z (Bl oM oM) Aa<|Ac 1 Z ⟨(i+1,pg,pf,oq,xs++[fx]),_,rfl,zR,⟨er,ev.up<|Ak<|Aq 153 d,es,et,eu,c4,oM,Ql,oM,oM,oM,oM,oM⟩,zD⟩
    refine As false Z Z (A6 cm) (Ae (e:=99) Z Z Z)<|Ac 1 Z<|Aj Z<|A2 ?_
    letI:JR:=Sg [gs,gg]
    refine Jx.AQ _ [0,1,0,0,0,0,0,3,3,4,0,4] mixed (by kernel_rfl) ?_
    have htn:=Na (k:=I6 (d-1)) (i:=i+1) oM
    have hts:S3 (i+1) (I6 (d-1))=S3 i (I6 (d-1))+I6 (d-1):=rfl
    have hti:=OM (k:=MG (d-1)) (i:=i) oM oM
    have hlo:=hko.lo
    have hln:=hko.len
    refine Jx.Al (p:=zP f1.heap.size) 4 AY Z Z Aa<|Jx.dT (p:=Ap (zP f1.heap.size) 4) vk B7 Z (fun wj hj=>(BX.chg (w:=f3.drew) (F:=[gs,gg]) a0 hj fun hm=>zH<|CR hm).ldp (i:=4) sM) Aa<|Jx.Yt (zP gg) Z Aa<|Jx.Yt (zI vars) Z Aa<|Jx.Yt (zI funcs) Z Aa<|Jx.Yt (zI (d:Int)) Z Aa<|Jx.j1<|BJ ((d-1:Nat):Int) Z Z (by rw[DH oM oM];omega) Aa<|Ai ?_
    refine Jx.At 124 [] [] [zP gg,zI vars,zI funcs,zI ((d-1:Nat):Int)] Z Z Nq Aa (IH1 (d-1) oM _ gg gs sv cs m pp dp l pl p (vars) (funcs) oM ac a4 (hp.chg (Bg<|AZ dp) a7.drew) _hvars _hfuncs oM oM hpr oM oM oM) ?_
    rintro q4 oc ⟨pi,nz,pj,pk,rfl,a9,ew,m6,ey,c5,ez,m7⟩
    refine⟨_,rfl,a9,?_⟩
    replace c5:=c5.low (B':=f3.heap.size)<|A7 _
    replace a9:=a9.of_drew
    have kv:f3.heap.size≤oc.heap.size:=a9.size
    have g0:Ax [gs,gg] w oc:=a7.trans a9
    have g1:=a3.chg (Ak<|Aq 153 d) a9 fun c hc=>zH<|CR hc
    have g2:=a5.chg a9 fun hm=>zH<|CR hm
    have g3:=a0.chg a9 fun hm=>zH<|CR hm
    refine Jx.Vr Z (Cw (cs:=[zI nz.kind,zI nz.num,zI nz.pick,zI nz.count,pi]) (y:=nz) (B:=f3.heap.size) (Aq 153 d) Cc B3 Z (by decide) Z (Gg.mk1 oM ez c5) oM Aa fun pn od aj m8 g4=>?_)
    have kw:oc.heap.size≤od.heap.size:=aj.size
    have g5:Ax [gs,gg] w od:=g0.ext aj
    have bd:=g1.ext (Ak<|Aq 153 d) aj
    have be:=ew.ext aj
    have bf:=ey.ext aj
    have bg:=g2.ext aj
    have bh:=g3.ext aj
    refine D8 (v:=vk) (a:=pn) (Aq 153 d) Cc B3 Z (by decide) Z Z bd oM g4 oM oM oM (by unfold maxLen;omega) Aa fun os o6 q5 an aw co=>?_
    have kx:od.heap.size≤o6.heap.size:=an.size
    have g6:Ax [gs,gg] w o6:=g5.fresh an (fun c hc=>zH<|aw _ hc)
    have g7:=be.chg an fun c hc=>zH<|aw _ hc
    have g8:=bf.chg an fun hm=>zH<|aw _ hm
    have g9:=bg.chg an fun hm=>zH<|aw _ hm
    have ga:=bh.chg an fun hm=>zH<|aw _ hm
    refine Al (p:=zP f1.heap.size) 4 AY Z Z Aa (Bc (k:=4) (w:=o6) Ia Z Z (AV co.isSlS) ga sM Aa fun oe ao m9 c6=>?_)
    replace c6:BX oe.heap f1.heap.size [zI k2,zI 0,zI 0,zI 0,os]:=c6
    have ky:o6.heap.size≤oe.heap.size:=ao.size
    have gb:Ax [gs,gg] w oe:=g6.fresh ao (fun _ h=>zE h)
    have gc:=g7.chg ao fun c hc=>zH<|A9 hc
    have gd:=g8.chg ao (zB ·)
    have ge:=g9.chg ao (zB ·)
    have gf:=co.chg (Ak<|Aq 153 d) ao fun _ h=>zA h
    exact Ai<|Ab _ [0,0,0] Z<|Ad 1 Z<|AR ((i+1:Nat):Int) Z Z (Bl oM oM) Aa<|Ac 1 Z ⟨(i+1,pk,pj,os,xs++[nz]),_,rfl,zR,⟨gb,gf.up<|Ak<|Aq 153 d,gc,gd,ge,c6,oM,Ql,oM,oM,oM,oM,oM⟩,zD⟩
   refine As false Z Z (A6 cl) Aa<|Ac 4 Z<|Aj Z<|A2 ?_
   letI:JR:=Sg [gs,gg]
   refine Jx.AQ _ [0,1,0,0,0,0,0,3,3,4,0,4] mixed (by kernel_rfl) ?_
   have htn:=Na (k:=I6 (d-1)) (i:=i+1) oM
   have hts:S3 (i+1) (I6 (d-1))=S3 i (I6 (d-1))+I6 (d-1):=rfl
   have hti:=OM (k:=MG (d-1)) (i:=i) oM oM
   have hlo:=hko.lo
   have hln:=hko.len
   refine Jx.Al (p:=zP f1.heap.size) 4 AY Z Z Aa<|Jx.dT (p:=Ap (zP f1.heap.size) 4) vk B7 Z (fun wj hj=>(BX.chg (w:=f3.drew) (F:=[gs,gg]) a0 hj fun hm=>zH<|CR hm).ldp (i:=4) sM) Aa<|Jx.Yt (zP gg) Z Aa<|Jx.Yt (zI vars) Z Aa<|Jx.Yt (zI funcs) Z Aa<|Jx.Yt (zI (d:Int)) Z Aa<|Jx.j1<|BJ ((d-1:Nat):Int) Z Z (by rw[DH oM oM];omega) Aa<|Ai ?_
   refine Jx.At 124 [] [] [zP gg,zI vars,zI funcs,zI ((d-1:Nat):Int)] Z Z Nq Aa (IH1 (d-1) oM _ gg gs sv cs m pp dp l pl p (vars) (funcs) oM ac a4 (hp.chg (Bg<|AZ dp) a7.drew) _hvars _hfuncs oM oM hpr oM oM oM) ?_
   rintro q6 og ⟨po,o0,pq,pr,rfl,aa,gh,ma,gi,c7,gj,mb⟩
   refine⟨_,rfl,aa,?_⟩
   replace c7:=c7.low (B':=f3.heap.size)<|A7 _
   replace aa:=aa.of_drew
   have kz:f3.heap.size≤og.heap.size:=aa.size
   have gk:Ax [gs,gg] w og:=a7.trans aa
   have gl:=a3.chg (Ak<|Aq 153 d) aa fun c hc=>zH<|CR hc
   have gm:=a5.chg aa fun hm=>zH<|CR hm
   have gn:=a0.chg aa fun hm=>zH<|CR hm
   refine Jx.Vr Z (Cw (cs:=[zI o0.kind,zI o0.num,zI o0.pick,zI o0.count,po]) (y:=o0) (B:=f3.heap.size) (Aq 153 d) Cc B3 Z (by decide) Z (Gg.mk1 oM gj c7) oM Aa fun pt oh ak mc go=>?_)
   have l2:og.heap.size≤oh.heap.size:=ak.size
   have gp:Ax [gs,gg] w oh:=gk.ext ak
   have bi:=gl.ext (Ak<|Aq 153 d) ak
   have bj:=gh.ext ak
   have bk:=gi.ext ak
   have bl:=gm.ext ak
   have bm:=gn.ext ak
   refine D8 (v:=vk) (a:=pt) (Aq 153 d) Cc B3 Z (by decide) Z Z bi oM go oM oM oM (by unfold maxLen;omega) Aa fun ot o7 q7 ap ax cp=>?_
   have l3:oh.heap.size≤o7.heap.size:=ap.size
   have gq:Ax [gs,gg] w o7:=gp.fresh ap (fun c hc=>zH<|ax _ hc)
   have gr:=bj.chg ap fun c hc=>zH<|ax _ hc
   have gt:=bk.chg ap fun hm=>zH<|ax _ hm
   have gu:=bl.chg ap fun hm=>zH<|ax _ hm
   have gv:=bm.chg ap fun hm=>zH<|ax _ hm
   refine Al (p:=zP f1.heap.size) 4 AY Z Z Aa (Bc (k:=4) (w:=o7) Ia Z Z (AV cp.isSlS) gv sM Aa fun oi aq md c8=>?_)
   replace c8:BX oi.heap f1.heap.size [zI k2,zI 0,zI 0,zI 0,ot]:=c8
   have l4:o7.heap.size≤oi.heap.size:=aq.size
   have gw:Ax [gs,gg] w oi:=gq.fresh aq (fun _ h=>zE h)
   have gx:=gr.chg aq fun c hc=>zH<|A9 hc
   have gy:=gt.chg aq (zB ·)
   have gz:=gu.chg aq (zB ·)
   have i0:=cp.chg (Ak<|Aq 153 d) aq fun _ h=>zA h
   exact Ai<|Ab _ [0,0,0] Z<|Ad 1 Z<|AR ((i+1:Nat):Int) Z Z (Bl oM oM) Aa<|Ac 1 Z ⟨(i+1,pr,pq,ot,xs++[o0]),_,rfl,zR,⟨gw,i0.up<|Ak<|Aq 153 d,gx,gy,gz,c8,oM,Ql,oM,oM,oM,oM,oM⟩,zD⟩
  refine AJ false Z Z (A6 ck) Aa<|Ai<|Aj Z<|A4<|Az<|Az<|Aw<|fC [2,4] Z<|AF (p:=zP f1.heap.size) (.inr Z) [zI k2,zI 0,zI 0,zI 0,vk] AX Z (fun qe ns=>LD.of_box<|BX.ext (w:=f3) a0 ns) Z Aa (B2 (vs:=[zI k2,zI 0,zI 0,zI 0,vk]) AX Z Z (by intro u hu;simp only[ze,z2,or_false]at hu;rcases hu with rfl|rfl|rfl|rfl|rfl <;> first|exact⟨rfl,rfl⟩|exact AV a3.isSlS) a5 Z Z Aa fun oj ar me c9=>?_)
  replace c9:BX oj.heap w.heap.size [zI k2,zI 0,zI 0,zI 0,vk]:=c9
  have l5:f3.heap.size≤oj.heap.size:=ar.size
  have i1:Ax [gs,gg] w oj:=a7.fresh ar (fun _ h=>zE h)
  have i2:=a3.chg (Ak<|Aq 153 d) ar fun _ h=>zA h
  have i3:=ac.chg ar fun c hc=>zH<|A9 hc
  have i4:=a4.chg ar (zB ·)
  have mf:=a0.chg ar (zB ·)
  refine Ai<|A1 ?_
  have hln:=hko.len
  have htn:=Na (k:=I6 (d-1)) (i:=i) oM
  exact C8 (cs:=[zI k2,zI 0,zI 0,zI 0,vk]) Z AX Z c9 Z ⟨vk,.mk k2 0 0 0 xs,m,l,rfl,i1,i3,⟨zO,zO⟩,i4,(i2.up<|Ak<|Aq 153 d).low (B':=w.heap.size) oM,FQ oM oM oM oM,(by exact hko.node oM oM oM nr (YS oM oM))⟩
 refine Af (by first|rfl|exact zW dh)<|fC [0,0,4,4] Z<|Ad 2 Z<|AH 196 [] [] [zP gg,zI vars] Z Z RA Aa (De _ gg gs sv cs px pp dp (l0-((1:Nat):Int)) pl p (vars) oM df ce (hp.chg (Bg<|AZ dp) cd) _hvars oM oM) ?_
 rintro q8 ol ⟨f9,pu,rfl,ca,i5,mg,i6,i7,d9,mh⟩
 refine⟨_,rfl,?_⟩
 have l6:f1.heap.size≤ol.heap.size:=ca.size
 have i8:Ax [gs,gg] w ol:=cd.trans ca
 have i9:=cf.chg ca fun hm=>zH<|CR hm
 refine B2 (vs:=[zI f9.kind,zI f9.num,zI f9.pick,zI f9.count,zN]) AX Z Z Hx i9 Z Z Aa fun om b3 mi cb=>?_
 replace cb:BX om.heap w.heap.size [zI f9.kind,zI f9.num,zI f9.pick,zI f9.count,zN]:=cb
 have l7:ol.heap.size≤om.heap.size:=b3.size
 have ia:Ax [gs,gg] w om:=i8.fresh b3 (fun _ h=>zE h)
 have ib:=i5.chg b3 fun c hc=>zH<|A9 hc
 have ic:=i6.chg b3 (zB ·)
 exact Ai<|A1<|Ao<|C8 (cs:=[zI f9.kind,zI f9.num,zI f9.pick,zI f9.count,zN]) Z AX Z cb Z ⟨zN,f9,pu,l0-((1:Nat):Int),rfl,ia,ib,⟨zO,zO⟩,ic,(by rw[d9];exact Cq _ _ _),i7,(by exact PK.ok (by assumption) d)⟩
theorem ZD:∀d,GX d∧(1≤d→GC d):=by
  intro d
  induction d using Nat.strongRecOn with
  |_ d ih =>
    have hc:1≤d→GC d:=fun h1 w gg gs sv cs n0 pp dp l0 pl p vars funcs hgg hs hB0 hp hv' hf' hv hfu hpr hd hn hl=>Jy w gg gs sv cs n0 pp dp l0 pl p vars funcs d hgg hs hB0 hp hv' hf' hv hfu hpr hd hn hl (ih (d-1) zO).1
    exact⟨fun w gg gs sv cs n0 pp dp l0 pl p vars funcs hgg hs hB0 hp hv' hf' hv hfu hpr hd hn hl=>Jz w gg gs sv cs n0 pp dp l0 pl p vars funcs d hgg hs hB0 hp hv' hf' hv hfu hpr hd hn hl (fun d' h=>(ih d' h).1) hc,hc⟩
theorem V7 (d:Nat):GX d:=(ZD d).1
theorem G6 (w:World)(g:Nat)(sv:Value)(cs:List UInt8)(n0:Nat)(vl:Value)(us:List Value)(hs:Fk w.heap g sv cs n0)(a7:n0+2≤1000000000000)(hl:∀w',Ax [g] w w'→Rd (Bd rV) w'.heap vl us)(hus:∀u∈us,∃s,u=Value.string s)(hul:1≤us.length∧us.length≤1000)  :
  Calls Tryz.prog 123 #[zP g,vl] w (fun e w'=>∃(x0:ByteArray) (n1:Nat),e=.returned (.string x0)∧Ax [g] w w'∧Fk w'.heap g sv cs n1∧(n0≤n1∧n1≤n0+2)∧(Value.string x0∈us)):=by
 refine Au [zP g,vl] 12 Tryz.func123 Z Z sM ?_
 have a1:Ax [g] w w:=Ax.refl [g] w
 have aa:=(hl _ a1).lenle
 have ab:=hs.lt
 refine fE Z<|fC [0,0,0,0,4,0,2,0] Z<|Ad 3 Z<|AS (v:=vl) X4 Z (hl _ a1).isSl Aa<|AH 68 [] [] [zP g,zI (us.length:Int)] Z Z HO Aa (B5 _ g _ _ _ (us.length:Int) hs oM oM oM) ?_
 rintro e1 w1 ⟨a9,n1,rfl,a3,a5,a8,a4⟩
 refine⟨_,rfl,?_⟩
 have a6:w.heap.size≤w1.heap.size:=a3.size
 have a2:Ax [g] w w1:=a1.trans a3
 refine AE (v:=vl) ((a9).toNat) X4 fl Z Z (hl _ a2).isSl oM sD Aa ?_
 obtain⟨sx2,a0⟩:=hus (us.getD ((a9).toNat) undef) (T6 sD)
 refine Ag (p:=AA vl ((a9).toNat) 1) (.inr Z) (.string sx2) K1 Z (by rw[← a0];exact(Rd.getV (hl _ a2) sD).1) Aa ?_
 have hsm:Value.string sx2∈us:=a0 ▸ T6 sD
 exact Ac 1 Z<|A1<|Ah [4] Z (.string sx2) Z ⟨sx2,n1,rfl,a2,a5,⟨zO,zO⟩,hsm⟩
theorem Mx (w:World)(n:Int)(_hn:BG n)(hk:0≤n∧n<10) :
  Calls Tryz.prog 150 #[zI n] w (fun e w'=>∃s,e=.returned (.string s)∧AD w w'∧s=JC n.toNat):=by
 refine Au [zI n] 20 Tryz.func150 Z Z sM ?_
 have a2:AD w w:=AD.refl w
 refine fE Z<|A0<|fC [0,0] Z<|Ad 1 Z ?_
 by_cases a0:n<((10:Nat):Int)
 ·refine AJ true Z Z (A5 a0) Aa<|Ai<|Af Z<|fC [0,0,0,3,2,0] Z<|Ad 1 Z ?_
  refine AR (((48:Nat):Int)+n) Z Z (DH sD sD) Aa<|Kb (IntKind.u8.wrap (((48:Nat):Int)+n)) u2 u5 Z Z Aa ?_
  refine Cd (u:=.int .u8<|IntKind.u8.wrap (((48:Nat):Int)+n)) (B:=w.heap.size) BK UK fK Z Z (Ps (w.heap.size) (w.heap.size) _ ⟨rfl,rfl⟩) (A7 _) Aa fun v2 w2 a1 a6 a3=>?_
  have a4:=a1.size
  have a5:=a2.trans a1
  exact Vu UK u5 u9 Z a3 Aa<|Ac 1 Z<|A1<|Ao<|Ah [2] Z (.string (⟨#[UInt8.ofNat (IntKind.u8.wrap (((48:Nat):Int)+n)).toNat]⟩:ByteArray)) Z ⟨(⟨#[UInt8.ofNat (IntKind.u8.wrap (((48:Nat):Int)+n)).toNat]⟩:ByteArray),rfl,a5,(by exact YV hk.1 hk.2)⟩
 exact absurd hk.2 a0
theorem My (w:World)(g:Nat)(sv:Value)(cs:List UInt8)(n0:Nat)(funcs:Int)(nodes:Int)(plain:Bool)(hs:Fk w.heap g sv cs n0)(j0:n0+(150000*funcs.toNat)≤1000000000000)(_hfuncs:BG funcs)(_hnodes:BG nodes)(hfn:0≤funcs∧funcs≤9)(hnd:1≤nodes∧nodes≤30) :
  Calls Tryz.prog 67 #[zP g,zI funcs,zI nodes,.bool plain] w (fun e w'=>∃(v:Value) (p:List Fn) (n1:Nat),e=.returned (.agg #[v])∧Ax [g] w w'∧Fk w'.heap g sv cs n1∧(n0≤n1∧n1≤n0+(150000*funcs.toNat))∧Fr (CA 3 (KH 153 6) 49) w.heap.size w'.heap.size w'.heap v p∧LG p plain∧Dn p∧(p.length:Int)=funcs):=by
 refine Au [zP g,zI funcs,zI nodes,.bool plain] 65 Tryz.func67 Z Z sM ?_
 have ga:Ax [g] w w:=Ax.refl [g] w
 have jy:=hs.lt
 have j1:=eI
 have j2:=eJ
 refine fC [3] Z (AU (z:=.agg #[zN]) IJ Aa fun w1 dr i1 ds=>?_)
 have dt:w.heap.size≤w1.heap.size:=dr.size
 have gb:Ax [g] w w1:=ga.ext dr
 have du:=hs.ext dr
 replace ds:BX w1.heap w.heap.size [zN]:=ds
 refine Ai<|fC [0,3,4] Z ?_
 have dv:∀(wq:World),(Instr.build 26 #[]).run Tryz.prog wq=.ok (.agg #[zN]) wq:=by intro wq;kernel_rfl
 refine Bh (ps:=#[]) (.agg #[zN]) (by simp only[zc,zf,zh]) (fun wq=>dv  wq) Aa ?_
 have j3:=ds.lt
 refine AU (z:=.agg #[zN]) IJ Aa fun w3 cb i2 dw=>?_
 have dx:w1.heap.size≤w3.heap.size:=cb.size
 have gc:Ax [g] w w3:=gb.ext cb
 have dy:=du.ext cb
 have cc:=ds.ext cb
 replace dw:BX w3.heap w1.heap.size [zN]:=dw
 refine B2 (vs:=[zN]) Ba Z Z (by intro u hu;simp only[ze,z2,or_false]at hu;rcases hu with rfl <;> first|exact⟨rfl,rfl⟩) dw Z Z Aa fun w5 cd i3 dz=>?_
 replace dz:BX w5.heap w1.heap.size [zN]:=dz
 have i4:w3.heap.size≤w5.heap.size:=cd.size
 have i5:Ax [g] w w5:=gc.fresh cd (fun _ h=>zE h)
 have gd:=dy.chg cd fun c hc=>zH<|A9 hc
 have ge:=cc.chg cd (zB ·)
 refine Ai<|A0<|fE Z<|A3 ?_
 refine AW (S:=Nat×Value×List Fn×Nat) (fun⟨k,vp,ps,m⟩=>([(10,zI (k:Int)),(0,zP g),(1,zI funcs),(2,zI nodes),(3,.bool plain),(8,zP w.heap.size),(9,zP w1.heap.size)])) (fun⟨k,vp,ps,m⟩ W=>Ax [g] w W∧Fr (CA 3 (KH 153 6) 49) w5.heap.size W.heap.size W.heap vp ps∧Fk W.heap g sv cs m∧BX W.heap w.heap.size [zN]∧BX W.heap w1.heap.size [vp]∧(k:Int)≤funcs∧LG ps plain∧Dn ps∧ps.length=k∧(n0≤m∧m≤n0+150000*k)∧(g<w5.heap.size∧w.heap.size≤w5.heap.size)∧w.heap.size<w5.heap.size∧w1.heap.size<w5.heap.size∧w5.heap.size≤W.heap.size) (fun⟨k,vp,ps,m⟩=>funcs.toNat-k) (0,zN,([]:List Fn),n0) ⟨rfl,rfl,rfl,rfl,rfl,rfl,rfl,trivial⟩ ⟨i5,(Cq _ 0 _).up<|Ak<|Am 153 6,gd,ge,dz,oM,(by exact LG.nil _),Dn.nil,(by rfl),oM,oM,oM,oM,oM⟩ ?_
 clear ga i1 dr dt gb i2 cb dx gc i3 cd gd ge
 rintro⟨k,vp,ps,m⟩ ρ10 fe ⟨bx,ab,an,ac,a1,hkf,ja,hdn,hpk,hmk,hgb,i6,i7,gf⟩
 have gg:w.heap.size≤fe.heap.size:=bx.size
 have i8:=ac.lt
 have i9:=a1.lt
 refine A0<|fC [0,0,0] Z<|Ad 2 Z ?_
 by_cases ce:(k:Int)<funcs
 ·refine AJ true Z Z (A5 ce) Aa<|Ai<|Af Z<|A2<|A0<|A3<|fC [0,3,4,0,3,0,0,4,0,0,3,4] Z<|Ad 1 Z (T8 (ys:=[.string<|⟨#[102]⟩,.string<|⟨#[103]⟩,.string<|⟨#[115,116,101,112]⟩,.string<|⟨#[104,50]⟩]) BK X4 fl Z Z Z Z Z Z (Xo ⟨rfl,rfl⟩ ⟨rfl,rfl⟩ ⟨rfl,rfl⟩ ⟨rfl,rfl⟩) Aa fun jo jg ao e0 bz=>?_)
  have cf:fe.heap.size≤jg.heap.size:=ao.size
  have cg:Ax [g] w jg:=bx.ext ao
  have a5:=ab.ext (Ak<|Am 153 6) ao
  have a6:=an.ext ao
  have a7:=ac.ext ao
  have a8:=a1.ext ao
  refine AH 123 [] [] [zP g,jo] Z Z XP Aa (G6 _ g _ _ _ jo _ a6 oM (fun w9 h9=>(bz.chg oV h9 fun c hc=>zH<|A9 hc).rdV1) (by intro u hu;simp only[ze,z2,or_false]at hu;rcases hu with rfl|rfl|rfl|rfl <;> exact⟨_,rfl⟩) sM) ?_
  rintro jz jh ⟨f2,k0,rfl,ap,e1,ia,c0⟩
  refine⟨_,rfl,?_⟩
  have ch:jg.heap.size≤jh.heap.size:=ap.size
  have ci:Ax [g] w jh:=cg.trans ap
  have cj:=a5.chg (Ak<|Am 153 6) ap fun _ h=>zA h
  have ck:=a7.chg ap (zB ·)
  have cl:=a8.chg ap (zB ·)
  have cm:=bz.chg (oV) ap fun _ h=>zA h
  have hfo:=Ta c0
  refine Ad 1 Z<|At 150 [] [] [zI (k:Int)] Z Z bM Aa (Mx _ (k:Int) oM oM) ?_
  rintro k1 ji ⟨st21,rfl,ad,rfl⟩
  refine⟨_,rfl,ad,?_⟩
  have cn:jh.heap.size≤ji.heap.size:=ad.size
  have co:Ax [g] w ji:=ci.ext ad
  have az:=cj.ext (Ak<|Am 153 6) ad
  have bo:=e1.ext ad
  have b0:=ck.ext ad
  have b1:=cl.ext ad
  have b2:=cm.ext (oV) ad
  refine YC (a:=f2) (b:=JC k) Z Z (by have:=S4 _ hfo;have:=T7 k;omega) Aa<|Ad 1 Z<|AH 68 [] [] [zP g,zI ((3:Nat):Int)] Z Z HO Aa (B5 _ g _ _ _ ((3:Nat):Int) bo oM oM sD) ?_
  rintro k2 f3 ⟨f1,k3,rfl,aq,e2,ib,e3⟩
  refine⟨_,rfl,?_⟩
  have cp:ji.heap.size≤f3.heap.size:=aq.size
  have cq:Ax [g] w f3:=co.trans aq
  have cr:=az.chg (Ak<|Am 153 6) aq fun _ h=>zA h
  have c1:=b0.chg aq (zB ·)
  have c2:=b1.chg aq (zB ·)
  have ct:=b2.chg (oV) aq fun _ h=>zA h
  refine AR (((1:Nat):Int)+f1) Z Z (DH sD sD) Aa ?_
  have cu:∀(wq:World),(Instr.build 49 #[(0,.string (f2++JC k)),(1,zI (((1:Nat):Int)+f1))]).run Tryz.prog wq=.ok (.agg #[.string (f2++JC k),zI (((1:Nat):Int)+f1),zN]) wq:=by intro wq;kernel_rfl
  refine Bh (ps:=#[(0,.string (f2++JC k)),(1,zI (((1:Nat):Int)+f1))]) (.agg #[.string (f2++JC k),zI (((1:Nat):Int)+f1),zN]) (by simp only[zc,zf,zh];rfl) (fun wq=>cu  wq) Aa ?_
  have ic:=c1.lt
  have id:=c2.lt
  refine AU (z:=.agg #[.string ByteArray.empty,zI 0,zN]) MK Aa fun jb ag e4 c3=>?_
  have cv:f3.heap.size≤jb.heap.size:=ag.size
  have cw:Ax [g] w jb:=cq.ext ag
  have b3:=cr.ext (Ak<|Am 153 6) ag
  have bp:=e2.ext ag
  have b4:=c1.ext ag
  have b5:=c2.ext ag
  have b6:=ct.ext (oV) ag
  replace c3:BX jb.heap f3.heap.size [.string ByteArray.empty,zI 0,zN]:=c3
  refine B2 (vs:=[.string (f2++JC k),zI (((1:Nat):Int)+f1),zN]) DS Z Z (by intro u hu;simp only[ze,z2,or_false]at hu;rcases hu with rfl|rfl|rfl <;> first|exact⟨rfl,rfl⟩) c3 Z Z Aa fun jc ah e5 c4=>?_
  replace c4:BX jc.heap f3.heap.size [.string (f2++JC k),zI (((1:Nat):Int)+f1),zN]:=c4
  have cx:jb.heap.size≤jc.heap.size:=ah.size
  have cy:Ax [g] w jc:=cw.fresh ah (fun _ h=>zE h)
  have cz:=b3.chg (Ak<|Am 153 6) ah fun _ h=>zA h
  have d0:=bp.chg ah fun c hc=>zH<|A9 hc
  have d1:=b4.chg ah (zB ·)
  have d2:=b5.chg ah (zB ·)
  have d3:=b6.chg (oV) ah fun _ h=>zA h
  refine Ai<|fC [0,4,0,0] Z<|Ad 1 Z<|AH 68 [] [] [zP g,zI ((3:Nat):Int)] Z Z HO Aa (B5 _ g _ _ _ ((3:Nat):Int) d0 oM oM sD) ?_
  rintro k4 jd ⟨fr,k5,rfl,ai,e6,ie,e7⟩
  refine⟨_,rfl,?_⟩
  have d4:jc.heap.size≤jd.heap.size:=ai.size
  have d5:Ax [g] w jd:=cy.trans ai
  have d6:=cz.chg (Ak<|Am 153 6) ai fun _ h=>zA h
  have d7:=d1.chg ai (zB ·)
  have d8:=d2.chg ai (zB ·)
  have d9:=d3.chg (oV) ai fun _ h=>zA h
  have da:=c4.chg ai (zB ·)
  refine AR (((1:Nat):Int)+fr) Z Z (DH sD sD) Aa<|Ac 1 Z ?_
  refine A0<|KG (S:=Int×Nat) (fun⟨o,m1⟩=>([(12,zI o),(0,zP g),(1,zI funcs),(2,zI nodes),(3,.bool plain),(8,zP w.heap.size),(9,zP w1.heap.size),(10,zI (k:Int)),(11,zP f3.heap.size)])) (fun⟨o,m1⟩ W=>Ax [g] w W∧Fr (CA 3 (KH 153 6) 49) w5.heap.size fe.heap.size W.heap vp ps∧Fk W.heap g sv cs m1∧BX W.heap w.heap.size [zN]∧BX W.heap w1.heap.size [vp]∧BX W.heap f3.heap.size [.string (f2++JC k),zI (((1:Nat):Int)+f1),zN]∧(1≤o∧o≤3)∧(n0≤m1∧m1≤n0+150000*k+8)∧fe.heap.size≤jd.heap.size∧(g<w5.heap.size∧w.heap.size≤w5.heap.size)∧fe.heap.size≤f3.heap.size∧w5.heap.size≤W.heap.size) ?_ ?_
  ·refine fC [0,4] Z<|Ad 1 Z<|AH 122 [] [] [zP g,zI ((2:Nat):Int)] Z Z Np Aa (Co _ g _ _ _ ((2:Nat):Int) e6 oM oM sD) ?_
   rintro k6 jp ⟨j9,jq,rfl,ar,db,ig,e8⟩
   refine⟨_,rfl,?_⟩
   have gh:jd.heap.size≤jp.heap.size:=ar.size
   have dc:Ax [g] w jp:=d5.trans ar
   have dd:=d6.chg (Ak<|Am 153 6) ar fun _ h=>zA h
   have de:=d7.chg ar (zB ·)
   have df:=d8.chg ar (zB ·)
   have ih:=d9.chg (oV) ar fun _ h=>zA h
   have c5:=da.chg ar (zB ·)
   refine Ai ?_
   cases dg:j9
   ·exact Aj (by first|rfl|exact zW dg)<|A2 ⟨(((1:Nat):Int)+fr,jq),_,rfl,zR,⟨dc,dd,db,de,df,c5,oM,oM,oM,oM,oM,oM⟩⟩
   exact Af (by first|rfl|exact zW dg)<|Ab _ [0,2,0] Z<|Al (p:=zP f3.heap.size) 1 BI Z Z Aa<|Ag (p:=Ap (zP f3.heap.size) 1) (.inr Z) (zI (((1:Nat):Int)+f1)) AI Z (c5.ldp (i:=1) sM) Aa<|Ac 1 Z ⟨(((1:Nat):Int)+f1,jq),_,rfl,zR,⟨dc,dd,db,de,df,c5,oM,oM,oM,oM,oM,oM⟩⟩
  clear a1 ac an ab bz e0 ao cf cg a5 a6 a7 a8 ap ch ci cj ck cl cm ad cn co az b0 b1 b2 aq cp cq cr c1 c2 ct e4 ag cv cw b3 b4 b5 b6 e5 ah cx cy cz d0 d1 d2 d3 ai d4 d5 d6 d7 d8 d9 da
  rintro⟨o,m1⟩ ρ43 fs ⟨dh,bh,bi,au,av,aw,j4,j5,huw,hgb,huf,gi⟩
  have gj:w.heap.size≤fs.heap.size:=dh.size
  have ii:=au.lt
  have ij:=av.lt
  have ik:=aw.lt
  refine A0<|fE Z<|A3 ?_
  refine AW (S:=Nat×Value×List Ex×Nat) (fun⟨i,vo,xs,m2⟩=>([(13,zI (i:Int)),(0,zP g),(1,zI funcs),(2,zI nodes),(3,.bool plain),(8,zP w.heap.size),(9,zP w1.heap.size),(10,zI (k:Int)),(11,zP f3.heap.size),(12,zI o)])) (fun⟨i,vo,xs,m2⟩ W=>Ax [g] w W∧Fr (CA 5 (Ga 153 6) 153) fs.heap.size W.heap.size W.heap vo xs∧Fr (CA 3 (KH 153 6) 49) w5.heap.size fe.heap.size W.heap vp ps∧Fk W.heap g sv cs m2∧BX W.heap w.heap.size [zN]∧BX W.heap w1.heap.size [vp]∧BX W.heap f3.heap.size [.string (f2++JC k),zI (((1:Nat):Int)+f1),vo]∧(i:Int)≤o∧Pu ps (((1:Nat):Int)+f1) plain xs i∧(n0≤m2∧m2≤n0+150000*k+8+47770*i)∧fe.heap.size≤fs.heap.size∧(g<w5.heap.size∧w.heap.size≤w5.heap.size)∧fe.heap.size≤f3.heap.size∧w.heap.size<fs.heap.size∧w1.heap.size<fs.heap.size∧f3.heap.size<fs.heap.size∧fs.heap.size≤W.heap.size∧w5.heap.size≤W.heap.size) (fun⟨i,vo,xs,m2⟩=>o.toNat-i) (0,zN,([]:List Ex),m1) ⟨rfl,rfl,rfl,rfl,rfl,rfl,rfl,rfl,rfl,rfl,trivial⟩ ⟨dh,(Cq _ 0 _).up<|Ak<|Aq 153 6,bh,bi,au,av,aw,oM,(by exact Pu.nil _ _ _),oM,oM,oM,oM,oM,oM,oM,oM,oM⟩ ?_
  clear aw av au bi bh
  rintro⟨i,vo,xs,m2⟩ ρ58 f9 ⟨c6,bj,bk,bl,ae,a2,a3,hio,hff,j6,huw,hgb,huf,gk,gl,gm,gn,go⟩
  have gp:w.heap.size≤f9.heap.size:=c6.size
  have il:=ae.lt
  have im:=a2.lt
  have io:=a3.lt
  refine A0<|fC [0,0,0] Z<|Ad 2 Z ?_
  by_cases di:(i:Int)<o
  ·refine AJ true Z Z (A5 di) Aa<|Ai<|Af Z<|A2<|A0<|A3<|fC [0,0,0,0,3,0] Z<|Ad 3 Z ?_
   have dj:∀(wq:World),(Instr.build 151 #[(0,zP g),(1,zP w1.heap.size),(2,zI nodes),(3,.bool plain)]).run Tryz.prog wq=.ok (.agg #[zP g,zP w1.heap.size,zI nodes,.bool plain]) wq:=by intro wq;kernel_rfl
   refine Bh (ps:=#[(0,zP g),(1,zP w1.heap.size),(2,zI nodes),(3,.bool plain)]) (.agg #[zP g,zP w1.heap.size,zI nodes,.bool plain]) (by simp only[zc,zf,zh];rfl) (fun wq=>dj  wq) Aa ?_
   have ip:=ae.lt
   have iq:=a2.lt
   have ir:=a3.lt
   refine Bv (cs:=#[zP g,zP w1.heap.size,zI nodes,.bool plain]) Z Aa fun fx aj is c7=>?_
   have gq:f9.heap.size≤fx.heap.size:=aj.size
   have e9:Ax [g] w fx:=c6.ext aj
   have b7:=bj.ext (Ak<|Aq 153 6) aj
   have a9:=bk.ext (Ak<|Am 153 6) aj
   have b8:=bl.ext aj
   have b9:=ae.ext aj
   have aa:=a2.ext aj
   have a0:=a3.ext aj
   replace c7:BX fx.heap f9.heap.size [zP g,zP w1.heap.size,zI nodes,.bool plain]:=c7
   refine Ac 1 Z ?_
   letI:JR:=Sg [g,f9.heap.size]
   refine Jx.AQ _ [0,1,0,0,1,0,3,3,4,0,4] mixed (by kernel_rfl)<|Jx.Al (p:=zP f3.heap.size) 2 Br Z Z Aa<|Jx.dT (p:=Ap (zP f3.heap.size) 2) vo B7 Z (fun wj hj=>(BX.chg (w:=fx.drew) (F:=[g,f9.heap.size]) a0 hj fun hm=>zH<|CR hm).ldp (i:=2) sM) Aa<|Jx.Yt (zP f9.heap.size) Z Aa<|Jx.Al (p:=zP f3.heap.size) 1 BI Z Z Aa ?_
   refine Jx.dT (p:=Ap (zP f3.heap.size) 1) (zI (((1:Nat):Int)+f1)) AI Z (fun wj hj=>(BX.chg (w:=fx.drew) (F:=[g,f9.heap.size]) a0 hj fun hm=>zH<|CR hm).ldp (i:=1) sM) Aa<|Jx.Yt (zI (k:Int)) Z Aa ?_
   refine Jx.At 124 [] [] [zP f9.heap.size,zI (((1:Nat):Int)+f1),zI (k:Int),zI ((5:Nat):Int)] Z Z Nq Aa (V7 5 _ f9.heap.size g sv cs m2 (zP w1.heap.size) 6 nodes plain ps (((1:Nat):Int)+f1) (k:Int) oM b8 c7 (RN.box aa (RP.mk'<|RN.of_frF2 a9 fun b hb=>zH<|CR hb) fun hb=>zH<|CR hb) oM oM oM oM ja.gpr oM oM oM) ?_
   rintro k7 jj ⟨jt,j8,ju,k8,rfl,a4,ea,it,eb,c8,ec,iu⟩
   refine⟨_,rfl,a4,?_⟩
   replace c8:=c8.low (B':=fx.heap.size)<|A7 _
   replace a4:=a4.of_drew
   have gr:fx.heap.size≤jj.heap.size:=a4.size
   have ed:Ax [g] w jj:=e9.new2 a4 (List.mem_singleton.2 Z) oM
   have ee:=b7.chg (Ak<|Aq 153 6) a4 fun c hc=>zH<|CR hc
   have ef:=a9.chg (Ak<|Am 153 6) a4 fun c hc=>zH<|CR hc
   have eg:=b9.chg a4 fun hm=>zH<|CR hm
   have eh:=aa.chg a4 fun hm=>zH<|CR hm
   have ei:=a0.chg a4 fun hm=>zH<|CR hm
   refine Jx.Vr Z (Cw (cs:=[zI j8.kind,zI j8.num,zI j8.pick,zI j8.count,jt]) (y:=j8) (B:=fx.heap.size) (Aq 153 6) Cc B3 Z (by decide) Z (Gg.mk1 (d:=6) oM ec c8) oM Aa fun jv jk af iv ej=>?_)
   have gs:jj.heap.size≤jk.heap.size:=af.size
   have ek:Ax [g] w jk:=ed.ext af
   have bq:=ee.ext (Ak<|Aq 153 6) af
   have br:=ef.ext (Ak<|Am 153 6) af
   have bs:=ea.ext af
   have bt:=eg.ext af
   have bu:=eh.ext af
   have bv:=ei.ext af
   have bw:=eb.ext af
   refine D8 (v:=vo) (a:=jv) (Aq 153 6) Cc B3 Z (by decide) Z Z bq oM ej oM oM (zH<|hff.len) (by have:=hff.len;unfold maxLen;omega) Aa fun jr je k9 ak ax dk=>?_
   have gt:jk.heap.size≤je.heap.size:=ak.size
   have el:Ax [g] w je:=ek.fresh ak (fun c hc=>zH<|ax _ hc)
   have em:=br.chg (Ak<|Am 153 6) ak fun c hc=>zH<|ax _ hc
   have en:=bs.chg ak fun c hc=>zH<|ax _ hc
   have eo:=bt.chg ak fun hm=>zH<|ax _ hm
   have ep:=bu.chg ak fun hm=>zH<|ax _ hm
   have eq:=bv.chg ak fun hm=>zH<|ax _ hm
   have er:=bw.chg ak fun hm=>zH<|ax _ hm
   refine Al (p:=zP f3.heap.size) 2 Br Z Z Aa (Bc (k:=2) (w:=je) Ia Z Z (AV dk.isSlS) eq sM Aa fun jl al iw c9=>?_)
   replace c9:BX jl.heap f3.heap.size [.string (f2++JC k),zI (((1:Nat):Int)+f1),jr]:=c9
   have gu:je.heap.size≤jl.heap.size:=al.size
   have es:Ax [g] w jl:=el.fresh al (fun _ h=>zE h)
   have et:=em.chg (Ak<|Am 153 6) al fun _ h=>zA h
   have eu:=en.chg al fun c hc=>zH<|A9 hc
   have ev:=eo.chg al (zB ·)
   have ew:=ep.chg al (zB ·)
   have ix:=er.chg al (zB ·)
   have ex:=dk.chg (Ak<|Aq 153 6) al fun _ h=>zA h
   exact Ai<|Ab _ [0,0,0] Z<|Ad 1 Z<|AR ((i+1:Nat):Int) Z Z (Bl oM oM) Aa<|Ac 1 Z ⟨(i+1,jr,xs++[j8],ju),_,rfl,zR,⟨es,ex.up<|Ak<|Aq 153 6,et,eu,ev,ew,c9,oM,(by exact hff.snoc (funcs:=(k:Int)) (d:=5) (l0:=nodes) oM oM oM (by assumption)),oM,oM,oM,oM,oM,oM,oM,oM,oM⟩,zD⟩
  refine AJ false Z Z (A6 di) Aa<|Ai<|Aj Z<|A4<|Az<|Az<|Aw<|Ab _ [0,2,2,3,4,0,4] Z<|Al (p:=zP w1.heap.size) 0 B8 Z Z Aa<|Ag (p:=Ap (zP w1.heap.size) 0) (.inr Z) vp Bt Z (a2.ldp (i:=0) sM) Aa<|AF (p:=zP f3.heap.size) (.inr Z) [.string (f2++JC k),zI (((1:Nat):Int)+f1),vo] DS Z (fun jw ey=>LD.of_box<|BX.ext (w:=f9) a3 ey) Z Aa ?_
  refine Cw (cs:=[.string (f2++JC k),zI (((1:Nat):Int)+f1),vo]) (y:=Fn.mk (f2++JC k) (((1:Nat):Int)+f1) xs) (B:=fs.heap.size) (Am 153 6) Du BD Z (by decide) Z (Gg.mkF (x:=⟨f2++JC k,((1:Nat):Int)+f1,xs⟩) (Ja (a:=((1:Nat):Int)+f1) oM) bj) oM Aa fun jx jm ay iy ez=>?_
  have gv:f9.heap.size≤jm.heap.size:=ay.size
  have g0:Ax [g] w jm:=c6.ext ay
  have ba:=bk.ext (Ak<|Am 153 6) ay
  have bb:=bl.ext ay
  have bc:=ae.ext ay
  have bd:=a2.ext ay
  have be:=a3.ext ay
  refine D8 (v:=vp) (a:=jx) (Am 153 6) Du BD Z (by decide) Z Z ba oM ez oM oM oM (by unfold maxLen;omega) Aa fun js jf ka bf bm dl=>?_
  have gw:jm.heap.size≤jf.heap.size:=bf.size
  have g1:Ax [g] w jf:=g0.fresh bf (fun c hc=>zH<|bm _ hc)
  have g2:=bb.chg bf fun c hc=>zH<|bm _ hc
  have g3:=bc.chg bf fun hm=>zH<|bm _ hm
  have g4:=bd.chg bf fun hm=>zH<|bm _ hm
  have g5:=be.chg bf fun hm=>zH<|bm _ hm
  refine Al (p:=zP w1.heap.size) 0 B8 Z Z Aa (Bc (k:=0) (w:=jf) PX Z Z (AV dl.isSlS) g4 sM Aa fun jn bg iz ca=>?_)
  replace ca:BX jn.heap w1.heap.size [js]:=ca
  have gx:jf.heap.size≤jn.heap.size:=bg.size
  have g6:Ax [g] w jn:=g1.fresh bg (fun _ h=>zE h)
  have g7:=g2.chg bg fun c hc=>zH<|A9 hc
  have g8:=g3.chg bg (zB ·)
  have gy:=g5.chg bg (zB ·)
  have dm:=dl.chg (Ak<|Am 153 6) bg fun _ h=>zA h
  refine Ai<|Ab _ [0,0,0] Z<|Ad 1 Z<|AR ((k+1:Nat):Int) Z Z (Bl oM oM) Aa<|Ac 1 Z ?_
  exact⟨(k+1,js,ps++[Fn.mk (f2++JC k) (((1:Nat):Int)+f1) xs],m2),_,rfl,zR,⟨g6,dm.up (Ak (Am 153 6)),g7,g8,ca,oM,(by exact(Pu.fn (i:=i) (f:=⟨f2++JC k,((1:Nat):Int)+f1,xs⟩) ja hdn oM ⟨by show 1≤(((1:Nat):Int)+f1);omega,by show(((1:Nat):Int)+f1)≤3;omega⟩ ⟨zO,zO⟩ hff hfo (by show _=_++JC ps.length;rw[hpk])).1),(by exact(Pu.fn (i:=i) (f:=⟨f2++JC k,((1:Nat):Int)+f1,xs⟩) ja hdn oM ⟨by show 1≤(((1:Nat):Int)+f1);omega,by show(((1:Nat):Int)+f1)≤3;omega⟩ ⟨zO,zO⟩ hff hfo (by show _=_++JC ps.length;rw[hpk])).2),(by rw[z4,hpk];rfl),oM,oM,oM,oM,oM⟩,zD⟩
 refine AJ false Z Z (A6 ce) Aa<|Ai<|Aj Z<|A4<|Az<|Az<|Aw<|fC [2,4] Z<|AF (p:=zP w1.heap.size) (.inr Z) [vp] Ba Z (fun jw ey=>LD.of_box<|BX.ext (w:=fe) a1 ey) Z Aa (B2 (vs:=[vp]) Ba Z Z (by intro u hu;simp only[ze,z2,or_false]at hu;rcases hu with rfl <;> first|exact⟨rfl,rfl⟩|exact AV ab.isSlS) ac Z Z Aa fun j7 am gz bn=>?_)
 replace bn:BX j7.heap w.heap.size [vp]:=bn
 have g9:fe.heap.size≤j7.heap.size:=am.size
 have dn:Ax [g] w j7:=bx.fresh am (fun _ h=>zE h)
 have dp:=ab.chg (Ak<|Am 153 6) am fun _ h=>zA h
 have dq:=an.chg am fun c hc=>zH<|A9 hc
 have i0:=a1.chg am (zB ·)
 exact Ai<|A1<|C8 (cs:=[vp]) Z Ba Z bn Z ⟨vp,ps,m,rfl,dn,dq,⟨zO,zO⟩,(dp.up<|Ak<|Am 153 6).low (B':=w.heap.size) oM,(by exact⟨ja,hdn,zO⟩)⟩
theorem L2 (w:World)(vc:Value)(cs:List UInt8)(hcs:Rd (Bd rU) w.heap vc cs)  :
  Calls Tryz.prog 42 #[vc] w (fun e w'=>∃(v va vb:Value) (p:List Fn) (f:Int) (a b:Sr),e=.returned (.tuple #[.agg #[v],zI f,va,vb])∧AD w w'∧Fr (CA 3 (KH 153 6) 49) w.heap.size w'.heap.size w'.heap v p∧Fr (BA rI 2) w.heap.size w'.heap.size w'.heap va a∧Fr (BA rI 2) w.heap.size w'.heap.size w'.heap vb b∧X0 p f a b):=by
 refine Au [vc] 74 Tryz.func42 Z Z sM ?_
 have go:AD w w:=AD.refl w
 have k1:=hcs.lenle
 have gp:=eK
 have jg:=eL
 refine fC [3,0,0,0] Z (AU (z:=.agg #[zN]) IJ Aa fun w1 dv ii dw=>?_)
 have dx:=dv.size
 have dy:=go.trans dv
 replace dw:BX w1.heap w.heap.size [zN]:=dw
 refine Ac 3 Z<|fC [0,3,0] Z<|Ad 1 Z<|At 66 [] [] [vc] Z Z bA Aa (Ie _ _ _<|hcs.ext Dx dy) ?_
 rintro e2 w2 ⟨gB2,rfl,cc,gq,jh⟩
 refine⟨_,rfl,cc,?_⟩
 have dz:=cc.size
 have e0:=dy.trans cc
 have cd:=dw.ext cc
 refine Ac 1 Z<|fC [0,0,4,0,4,4,3,4] Z ?_
 have kf:=gq.lt
 refine Ad 2 Z<|AH 68 [] [] [zP gB2,zI ((3:Nat):Int)] Z Z HO Aa (B5 _ gB2 _ _ _ ((3:Nat):Int) gq oM oM oM) ?_
 rintro e3 w3 ⟨jp,n3,rfl,dr,ij,ji,gr⟩
 refine⟨_,rfl,?_⟩
 have e1:w2.heap.size≤w3.heap.size:=dr.size
 have e4:AD w w3:=dr.below e0 (fun _ h=>zE h) e0.size
 have gs:=cd.chg dr (zB ·)
 refine Ad 1 Z<|AH 122 [] [] [zP gB2,zI ((2:Nat):Int)] Z Z Np Aa (Co _ gB2 _ _ _ ((2:Nat):Int) ij oM oM oM) ?_
 rintro e5 w5 ⟨jq,n5,rfl,ds,gp,jj,gt⟩
 refine⟨_,rfl,?_⟩
 have ik:w3.heap.size≤w5.heap.size:=ds.size
 have gu:AD w w5:=ds.below e4 (fun _ h=>zE h) e4.size
 have gv:=gs.chg ds (zB ·)
 refine AH 67 [] [] [zP gB2,zI jp,zI ((7:Nat):Int),.bool jq] Z Z ff Aa (My _ gB2 vc cs n5 (jp) ((7:Nat):Int) jq gp oM oM oM oM oM) ?_
 rintro e7 w7 ⟨v7,p7,n7,rfl,dt,il,jk,gw,du⟩
 refine⟨_,rfl,?_⟩
 have im:w5.heap.size≤w7.heap.size:=dt.size
 have io:AD w w7:=dt.below gu (fun _ h=>zE h) gu.size
 have e6:=gv.chg dt (zB ·)
 have k2:=du.1.npl
 have hdn:=du.2.1
 have hpk:=du.2.2
 have ip:=e6.lt
 refine AU (z:=.agg #[zN]) IJ Aa fun w9 cb iq e8=>?_
 have e9:=cb.size
 have ea:=io.trans cb
 have bn:=e6.ext cb
 have ce:=il.ext cb
 have b8:=gw.ext (Ak<|Am 153 6) cb
 replace e8:BX w9.heap w7.heap.size [zN]:=e8
 refine B2 (vs:=[v7]) Ba Z Z (by intro u hu;simp only[ze,z2,or_false]at hu;rcases hu with rfl <;> first|exact⟨rfl,rfl⟩|exact AV b8.isSlS) e8 Z Z Aa fun jx aw eb bo=>?_
 replace bo:BX jx.heap w7.heap.size [v7]:=bo
 have cf:w9.heap.size≤jx.heap.size:=aw.size
 have cg:AD w jx:=aw.below ea (fun _ h=>zE h) ea.size
 have ch:=bn.chg aw (zB ·)
 have ci:=ce.chg aw fun c hc=>zH<|A9 hc
 have cj:=b8.chg (Ak<|Am 153 6) aw fun _ h=>zA h
 refine Ai<|fC [0,3,4,0,4,0,0,3,4] Z<|Ad 1 Z (T8 (ys:=[.string<|⟨#[114]⟩,.string<|⟨#[114]⟩,.string<|⟨#[114]⟩,.string<|⟨#[108,111,111,112]⟩]) BK X4 fl Z Z Z Z Z Z (Xo ⟨rfl,rfl⟩ ⟨rfl,rfl⟩ ⟨rfl,rfl⟩ ⟨rfl,rfl⟩) Aa fun k3 k7 af ec bp=>?_)
 have ck:=af.size
 have bq:=cg.trans af
 have al:=ch.ext af
 have am:=ci.ext af
 have an:=cj.ext (Ak<|Am 153 6) af
 have be:=bo.ext af
 refine AH 123 [] [] [zP gB2,k3] Z Z XP Aa (G6 _ gB2 _ _ _ k3 _ am oM (fun w9 h9=>(bp.chg oV h9 fun c hc=>zH<|A9 hc).rdV1) (by intro u hu;simp only[ze,z2,or_false]at hu;rcases hu with rfl|rfl|rfl|rfl <;> exact⟨_,rfl⟩) sM) ?_
 rintro kg jy ⟨f2,kh,rfl,ag,ed,ir,br⟩
 refine⟨_,rfl,?_⟩
 have cl:k7.heap.size≤jy.heap.size:=ag.size
 have bs:AD w jy:=ag.below bq (fun _ h=>zE h) bq.size
 have cm:=al.chg ag (zB ·)
 have cn:=an.chg (Ak<|Am 153 6) ag fun _ h=>zA h
 have co:=be.chg ag (zB ·)
 have cp:=bp.chg (oV) ag fun _ h=>zA h
 have hnm:=VZ br
 refine Ad 1 Z<|AH 68 [] [] [zP gB2,zI ((3:Nat):Int)] Z Z HO Aa (B5 _ gB2 _ _ _ ((3:Nat):Int) ed oM oM oM) ?_
 rintro ki f9 ⟨f1,kj,rfl,ah,ee,is,ef⟩
 refine⟨_,rfl,?_⟩
 have cq:jy.heap.size≤f9.heap.size:=ah.size
 have cr:AD w f9:=ah.below bs (fun _ h=>zE h) bs.size
 have bt:=cm.chg ah (zB ·)
 have ct:=cn.chg (Ak<|Am 153 6) ah fun _ h=>zA h
 have bu:=co.chg ah (zB ·)
 have cu:=cp.chg (oV) ah fun _ h=>zA h
 refine AR (((1:Nat):Int)+f1) Z Z (DH sD sD) Aa ?_
 have cv:∀(wq:World),(Instr.build 49 #[(0,.string f2),(1,zI (((1:Nat):Int)+f1))]).run Tryz.prog wq=.ok (.agg #[.string f2,zI (((1:Nat):Int)+f1),zN]) wq:=by intro wq;kernel_rfl
 refine Bh (ps:=#[(0,.string f2),(1,zI (((1:Nat):Int)+f1))]) (.agg #[.string f2,zI (((1:Nat):Int)+f1),zN]) (by simp only[zc,zf,zh];rfl) (fun wq=>cv  wq) Aa ?_
 have it:=bt.lt
 have iu:=bu.lt
 refine AU (z:=.agg #[.string ByteArray.empty,zI 0,zN]) MK Aa fun k4 a9 eg bv=>?_
 have cw:=a9.size
 have bw:=cr.trans a9
 have ao:=bt.ext a9
 have bf:=ee.ext a9
 have ap:=ct.ext (Ak<|Am 153 6) a9
 have aq:=bu.ext a9
 have ar:=cu.ext (oV) a9
 replace bv:BX k4.heap f9.heap.size [.string ByteArray.empty,zI 0,zN]:=bv
 refine B2 (vs:=[.string f2,zI (((1:Nat):Int)+f1),zN]) DS Z Z (by intro u hu;simp only[ze,z2,or_false]at hu;rcases hu with rfl|rfl|rfl <;> first|exact⟨rfl,rfl⟩) bv Z Z Aa fun ju aa eh bx=>?_
 replace bx:BX ju.heap f9.heap.size [.string f2,zI (((1:Nat):Int)+f1),zN]:=bx
 have cx:k4.heap.size≤ju.heap.size:=aa.size
 have bz:AD w ju:=aa.below bw (fun _ h=>zE h) bw.size
 have cy:=ao.chg aa (zB ·)
 have cz:=bf.chg aa fun c hc=>zH<|A9 hc
 have d0:=ap.chg (Ak<|Am 153 6) aa fun _ h=>zA h
 have d1:=aq.chg aa (zB ·)
 have d2:=ar.chg (oV) aa fun _ h=>zA h
 refine Ai<|fC [0,4,0] Z<|Ad 1 Z<|AH 122 [] [] [zP gB2,zI ((2:Nat):Int)] Z Z Np Aa (Co _ gB2 _ _ _ ((2:Nat):Int) cz oM oM oM) ?_
 rintro kk fs ⟨f3,k8,rfl,ab,ei,iv,ej⟩
 refine⟨_,rfl,?_⟩
 have gx:ju.heap.size≤fs.heap.size:=ab.size
 have ek:AD w fs:=ab.below bz (fun _ h=>zE h) bz.size
 have d3:=cy.chg ab (zB ·)
 have d4:=d0.chg (Ak<|Am 153 6) ab fun _ h=>zA h
 have d5:=d1.chg ab (zB ·)
 have el:=d2.chg (oV) ab fun _ h=>zA h
 have d6:=bx.chg ab (zB ·)
 refine Ac 1 Z<|A0<|fE Z<|A3 ?_
 refine AW (S:=Nat×Value×List Ex×Nat) (fun⟨i,vo,xs,m⟩=>([(10,zI (i:Int)),(2,zP w.heap.size),(6,zP gB2),(7,zP w7.heap.size),(8,zP f9.heap.size),(9,.bool f3)])) (fun⟨i,vo,xs,m⟩ W=>AD w W∧Fr (CA 5 (Ga 153 6) 153) fs.heap.size W.heap.size W.heap vo xs∧Fr (CA 3 (KH 153 6) 49) w5.heap.size w7.heap.size W.heap v7 p7∧Fk W.heap gB2 vc cs m∧BX W.heap w.heap.size [zN]∧BX W.heap w7.heap.size [v7]∧BX W.heap f9.heap.size [.string f2,zI (((1:Nat):Int)+f1),vo]∧(i:Int)≤(((1:Nat):Int)+f1)∧Pu p7 (((1:Nat):Int)+f1) false xs i∧m≤500000+20000*i∧w7.heap.size≤fs.heap.size∧(gB2<w5.heap.size∧w.heap.size≤w5.heap.size∧w.heap.size<gB2)∧w7.heap.size≤f9.heap.size∧w.heap.size<fs.heap.size∧w7.heap.size<fs.heap.size∧f9.heap.size<fs.heap.size∧fs.heap.size≤W.heap.size∧w5.heap.size≤W.heap.size) (fun⟨i,vo,xs,m⟩=>(((1:Nat):Int)+f1).toNat-i) (0,zN,([]:List Ex),k8) ⟨rfl,rfl,rfl,rfl,rfl,rfl,trivial⟩ ⟨ek,(Cq _ 0 _).up<|Ak<|Aq 153 6,d4,ei,d3,d5,d6,oM,(by exact Pu.nil _ _ _),oM,oM,oM,oM,oM,oM,oM,oM,oM⟩ ?_
 clear go ii dv dx dy cc dz e0 dr e1 e4 gs ds gv du gw dt e6 iq cb e9 ea bn b8 eb aw cf cg ch ci cj bp ec af ck bq al am an ag cl bs cm cn co cp ah cq cr bt ct bu cu eg a9 cw bw ao ap aq ar eh aa cx bz cy cz d0 d1 d2 ab d3 d4 d5 el d6
 rintro⟨i,vo,xs,m⟩ ρ45 fe ⟨c0,b9,ba,bb,a7,a5,a1,hio,hff,jl,huw,hgb,huf,gy,gz,i0,i1,i2⟩
 have i3:w.heap.size≤fe.heap.size:=c0.size
 have iw:=a7.lt
 have ix:=a5.lt
 have iy:=a1.lt
 refine A0<|fC [0,0,2,0] Z<|Ad 1 Z<|Al (p:=zP f9.heap.size) 1 BI Z Z Aa<|Ag (p:=Ap (zP f9.heap.size) 1) (.inr Z) (zI (((1:Nat):Int)+f1)) AI Z (a1.ldp (i:=1) sM) Aa ?_
 by_cases d7:(i:Int)<((1:Nat):Int)+f1
 ·refine AJ true Z Z (A5 d7) Aa<|Ai<|Af Z<|A2<|A0<|A3<|fC [0,0,0,3,0] Z<|Ad 2 Z ?_
  have d8:∀(wq:World),(Instr.build 151 #[(0,zP gB2),(1,zP w7.heap.size),(2,zI ((9:Nat):Int)),(3,.bool f3)]).run Tryz.prog wq=.ok (.agg #[zP gB2,zP w7.heap.size,zI ((9:Nat):Int),.bool f3]) wq:=by intro wq;kernel_rfl
  refine Bh (ps:=#[(0,zP gB2),(1,zP w7.heap.size),(2,zI ((9:Nat):Int)),(3,.bool f3)]) (.agg #[zP gB2,zP w7.heap.size,zI ((9:Nat):Int),.bool f3]) (by simp only[zc,zf,zh];rfl) (fun wq=>d8  wq) Aa ?_
  have iz:=a7.lt
  have j0:=a5.lt
  have j2:=a1.lt
  refine Bv (cs:=#[zP gB2,zP w7.heap.size,zI ((9:Nat):Int),.bool f3]) Z Aa fun jm ac j3 c1=>?_
  have i4:=ac.size
  have d9:=c0.trans ac
  have ax:=b9.ext (Ak<|Aq 153 6) ac
  have a2:=ba.ext (Ak<|Am 153 6) ac
  have ay:=bb.ext ac
  have az:=a7.ext ac
  have a3:=a5.ext ac
  have a4:=a1.ext ac
  replace c1:BX jm.heap fe.heap.size [zP gB2,zP w7.heap.size,zI ((9:Nat):Int),.bool f3]:=c1
  refine Ac 1 Z ?_
  letI:JR:=Sg [gB2,fe.heap.size]
  refine Jx.AQ _ [0,1,0,0,1,0,1,0,3,3,4,0,4] mixed (by kernel_rfl)<|Jx.Al (p:=zP f9.heap.size) 2 Br Z Z Aa<|Jx.dT (p:=Ap (zP f9.heap.size) 2) vo B7 Z (fun wj hj=>(BX.chg (w:=jm.drew) (F:=[gB2,fe.heap.size]) a4 hj fun hm=>zH<|CR hm).ldp (i:=2) sM) Aa<|Jx.Yt (zP fe.heap.size) Z Aa<|Jx.Al (p:=zP f9.heap.size) 1 BI Z Z Aa ?_
  refine Jx.dT (p:=Ap (zP f9.heap.size) 1) (zI (((1:Nat):Int)+f1)) AI Z (fun wj hj=>(BX.chg (w:=jm.drew) (F:=[gB2,fe.heap.size]) a4 hj fun hm=>zH<|CR hm).ldp (i:=1) sM) Aa<|Jx.Al (p:=zP w7.heap.size) 0 B8 Z Z Aa<|Jx.dT (p:=Ap (zP w7.heap.size) 0) v7 Bt Z (fun wj hj=>(BX.chg (w:=jm.drew) (F:=[gB2,fe.heap.size]) a3 hj fun hm=>zH<|CR hm).ldp (i:=0) sM) Aa<|Jx.j1<|AS (v:=v7) Du Z a2.isSlS Aa<|Ai ?_
  refine Jx.At 124 [] [] [zP fe.heap.size,zI (((1:Nat):Int)+f1),zI (p7.length:Int),zI ((4:Nat):Int)] Z Z Nq Aa (V7 4 _ fe.heap.size gB2 vc cs m (zP w7.heap.size) 6 ((9:Nat):Int) f3 p7 (((1:Nat):Int)+f1) (p7.length:Int) oM ay c1 (RN.box a3 (RP.mk'<|RN.of_frF2 a2 fun b hb=>zH<|CR hb) fun hb=>zH<|CR hb) oM oM oM oM k2.gpr oM oM oM) ?_
  rintro kl k5 ⟨k9,jo,ka,km,rfl,a6,em,j4,en,c2,eo,j5⟩
  refine⟨_,rfl,a6,?_⟩
  replace c2:=c2.low (B':=jm.heap.size)<|A7 _
  replace a6:=a6.of_drew
  have i5:jm.heap.size≤k5.heap.size:=a6.size
  have ep:AD w k5:=a6.below d9 (fun c hc=>zH<|CR hc) d9.size
  have eq:=ax.chg (Ak<|Aq 153 6) a6 fun c hc=>zH<|CR hc
  have er:=a2.chg (Ak<|Am 153 6) a6 fun c hc=>zH<|CR hc
  have es:=az.chg a6 fun hm=>zH<|CR hm
  have et:=a3.chg a6 fun hm=>zH<|CR hm
  have eu:=a4.chg a6 fun hm=>zH<|CR hm
  refine Jx.Vr Z (Cw (cs:=[zI jo.kind,zI jo.num,zI jo.pick,zI jo.count,k9]) (y:=jo) (B:=jm.heap.size) (Aq 153 6) Cc B3 Z (by decide) Z (Gg.le (Gg.mk1 (d:=5) oM eo c2) oM) oM Aa fun kb kc a8 j6 ev=>?_)
  have i6:=a8.size
  have da:=ep.trans a8
  have bg:=eq.ext (Ak<|Aq 153 6) a8
  have bh:=er.ext (Ak<|Am 153 6) a8
  have bi:=em.ext a8
  have bj:=es.ext a8
  have bk:=et.ext a8
  have bl:=eu.ext a8
  have bm:=en.ext a8
  refine D8 (v:=vo) (a:=kb) (Aq 153 6) Cc B3 Z (by decide) Z Z bg oM ev oM oM (zH<|hff.len) (by have:=hff.len;unfold maxLen;omega) Aa fun k6 DH ko ad ai db=>?_
  have i7:kc.heap.size≤DH.heap.size:=ad.size
  have dc:AD w DH:=ad.below da (fun c hc=>zH<|ai _ hc) da.size
  have ew:=bh.chg (Ak<|Am 153 6) ad fun c hc=>zH<|ai _ hc
  have ex:=bi.chg ad fun c hc=>zH<|ai _ hc
  have ey:=bj.chg ad fun hm=>zH<|ai _ hm
  have ez:=bk.chg ad fun hm=>zH<|ai _ hm
  have g0:=bl.chg ad fun hm=>zH<|ai _ hm
  have g1:=bm.chg ad fun hm=>zH<|ai _ hm
  refine Al (p:=zP f9.heap.size) 2 Br Z Z Aa (Bc (k:=2) (w:=DH) Ia Z Z (AV db.isSlS) g0 sM Aa fun jz ae j7 c3=>?_)
  replace c3:BX jz.heap f9.heap.size [.string f2,zI (((1:Nat):Int)+f1),k6]:=c3
  have i8:DH.heap.size≤jz.heap.size:=ae.size
  have g2:AD w jz:=ae.below dc (fun _ h=>zE h) dc.size
  have g3:=ew.chg (Ak<|Am 153 6) ae fun _ h=>zA h
  have g4:=ex.chg ae fun c hc=>zH<|A9 hc
  have g5:=ey.chg ae (zB ·)
  have g6:=ez.chg ae (zB ·)
  have j8:=g1.chg ae (zB ·)
  have g7:=db.chg (Ak<|Aq 153 6) ae fun _ h=>zA h
  exact Ai<|Ab _ [0,0,0] Z<|Ad 1 Z<|AR ((i+1:Nat):Int) Z Z (Bl oM oM) Aa<|Ac 1 Z ⟨(i+1,k6,xs++[jo],ka),_,rfl,zR,⟨g2,g7.up<|Ak<|Aq 153 6,g3,g4,g5,g6,c3,oM,(by exact(hff.snoc (funcs:=(p7.length:Int)) (d:=4) (l0:=9) oM oM oM<|Om.npl (by assumption))),oM,oM,oM,oM,oM,oM,oM,oM,oM⟩,zD⟩
 refine AJ false Z Z (A6 d7) Aa<|Ai<|Aj Z<|A4<|Az<|Az<|Aw<|fC [0,2,2,3,4,0,4] Z<|Al (p:=zP w7.heap.size) 0 B8 Z Z Aa<|Ag (p:=Ap (zP w7.heap.size) 0) (.inr Z) v7 Bt Z (a5.ldp (i:=0) sM) Aa<|AF (p:=zP f9.heap.size) (.inr Z) [.string f2,zI (((1:Nat):Int)+f1),vo] DS Z (fun kp j9=>LD.of_box<|BX.ext (w:=fe) a1 j9) Z Aa ?_
 refine Cw (cs:=[.string f2,zI (((1:Nat):Int)+f1),vo]) (y:=Fn.mk f2 (((1:Nat):Int)+f1) xs) (B:=fs.heap.size) (Am 153 6) Du BD Z (by decide) Z (Gg.mkF (x:=⟨f2,((1:Nat):Int)+f1,xs⟩) (Ja (a:=((1:Nat):Int)+f1) oM) b9) oM Aa fun kd ke aj ja g8=>?_
 have i9:=aj.size
 have dd:=c0.trans aj
 have b0:=ba.ext (Ak<|Am 153 6) aj
 have b1:=bb.ext aj
 have b2:=a7.ext aj
 have b3:=a5.ext aj
 have b4:=a1.ext aj
 refine SH (v:=v7) (a:=kd) (Am 153 6) Du BD Z (by decide) Z Z b0 g8 oM oM (by unfold maxLen;omega) Aa fun fx jv kq b5 bc de=>?_
 have ia:ke.heap.size≤jv.heap.size:=b5.size
 have df:AD w jv:=b5.below dd (fun c hc=>zH<|bc _ hc) dd.size
 have g9:=b1.chg b5 fun c hc=>zH<|bc _ hc
 have ga:=b2.chg b5 fun hm=>zH<|bc _ hm
 have gb:=b3.chg b5 fun hm=>zH<|bc _ hm
 have gc:=b4.chg b5 fun hm=>zH<|bc _ hm
 refine Al (p:=zP w7.heap.size) 0 B8 Z Z Aa (Bc (k:=0) (w:=jv) PX Z Z (AV<|Ny.isSlS de) gb sM Aa fun jw b6 jb c4=>?_)
 replace c4:BX jw.heap w7.heap.size [fx]:=c4
 have ib:jv.heap.size≤jw.heap.size:=b6.size
 have dg:AD w jw:=b6.below df (fun _ h=>zE h) df.size
 have gd:=g9.chg b6 fun c hc=>zH<|A9 hc
 have ge:=ga.chg b6 (zB ·)
 have dh:=gc.chg b6 (zB ·)
 have gf:=de.chg (Ak<|Am 153 6) b6 fun c hc=>by have:=A9 hc;intro jc;(try dsimp only at jc);omega
 have gg:=gf.fr (Ak<|Am 153 6) (B:=w5.heap.size) fun b hb=>by(try dsimp only at hb);omega
 refine Ai<|fC [0,0,2,4,0] Z<|Ad 1 Z<|Al (p:=zP f9.heap.size) 1 BI Z Z Aa<|Ag (p:=Ap (zP f9.heap.size) 1) (.inr Z) (zI (((1:Nat):Int)+f1)) AI Z (dh.ldp (i:=1) sM) Aa<|AH 69 [] [] [zP gB2,zI (((1:Nat):Int)+f1)] Z Z bB Aa (Id _ gB2 _ _ _ (((1:Nat):Int)+f1) gd oM oM oM) ?_
 rintro kr k0 ⟨au,jr,ks,rfl,b7,gh,jd,c5,c6⟩
 refine⟨_,rfl,?_⟩
 have ic:jw.heap.size≤k0.heap.size:=b7.size
 have di:AD w k0:=b7.below dg (fun _ h=>zE h) dg.size
 have gi:=ge.chg b7 (zB ·)
 have gj:=c4.chg b7 (zB ·)
 have dj:=dh.chg b7 (zB ·)
 have gk:=gg.chg (Ak<|Am 153 6) b7 fun _ h=>zA h
 have hst:=c6
 refine Ac 1 Z<|fC [0,0,2,4,0] Z<|Ad 1 Z<|Al (p:=zP f9.heap.size) 1 BI Z Z Aa<|Ag (p:=Ap (zP f9.heap.size) 1) (.inr Z) (zI (((1:Nat):Int)+f1)) AI Z (dj.ldp (i:=1) sM) Aa<|AH 69 [] [] [zP gB2,zI (((1:Nat):Int)+f1)] Z Z bB Aa (Id _ gB2 _ _ _ (((1:Nat):Int)+f1) gh oM oM oM) ?_
 rintro kt js ⟨av,jt,ku,rfl,ak,je,jf,c7,c8⟩
 refine⟨_,rfl,?_⟩
 have id:k0.heap.size≤js.heap.size:=ak.size
 have dk:AD w js:=ak.below di (fun _ h=>zE h) di.size
 have gl:=gi.chg ak (zB ·)
 have c9:=gj.chg ak (zB ·)
 have gm:=dj.chg ak (zB ·)
 have ca:=gk.chg (Ak<|Am 153 6) ak fun _ h=>zA h
 have dl:=c5.chg (o1) ak fun _ h=>zA h
 have hsw:=c8
 refine Ac 1 Z<|A0 ?_
 letI:JR:=Sg [w.heap.size]
 refine Jx.AQ _ [1,0,1,0,0,0,0,3,0,0,0] mixed (by kernel_rfl)<|Jx.ZL (p:=zP w7.heap.size) [fx] Ba Z (fun wj hj=>LD.of_box<|BX.chg (w:=js.drew) (F:=[w.heap.size]) c9 hj (zB ·)) Z Aa<|Jx.Al (p:=zP w7.heap.size) 0 B8 Z Z Aa<|Jx.dT (p:=Ap (zP w7.heap.size) 0) fx Bt Z (fun wj hj=>(BX.chg (w:=js.drew) (F:=[w.heap.size]) c9 hj (zB ·)).ldp (i:=0) sM) Aa<|Jx.j1<|AS (v:=fx) Du Z ca.isSlS Aa<|Ai<|Jx.j1 ?_
 refine BJ ((((p7++[Fn.mk f2 (((1:Nat):Int)+f1) xs]).length:Nat):Int)-((1:Nat):Int)) Z Z (DH sD sD) Aa<|Ai ?_
 refine Jx.Yt au Z Aa<|Jx.Yt av Z Aa<|Jx.fI (B2 (vs:=[fx]) Ba Z Z (by intro u hu;simp only[ze,z2,or_false]at hu;rcases hu with rfl <;> first|exact⟨rfl,rfl⟩|exact AV ca.isSlS) gl Z Z Aa fun jn a0 ie bd=>?_)
 replace bd:BX jn.heap w.heap.size [fx]:=bd
 replace a0:=a0.of_drew
 have gn:js.heap.size≤jn.heap.size:=a0.size
 have dm:AD w jn:=a0.below dk (fun _ h=>zE h) dk.size
 have ig:=c9.chg a0 (zB ·)
 have ih:=gm.chg a0 (zB ·)
 have dn:=ca.chg (Ak<|Am 153 6) a0 fun _ h=>zA h
 have dp:=dl.chg (o1) a0 fun _ h=>zA h
 have dq:=c7.chg (o1) a0 fun _ h=>zA h
 refine Ai ⟨⟨a0.os,a0.tape,a0.output,a0.size,a0.block⟩,?_⟩
 refine Jx.Ss (zI ((((p7++[Fn.mk f2 (((1:Nat):Int)+f1) xs]).length:Nat):Int)-((1:Nat):Int))) Z Aa<|Jx.Ss au Z Aa<|Jx.Ss av Z Aa<|Jx.Ai<|A1 ?_
 exact BV (t0:=3) (ts:=[4,5]) (cs:=[fx]) [zI ((((p7++[Fn.mk f2 (((1:Nat):Int)+f1) xs]).length:Nat):Int)-((1:Nat):Int)),au,av] Z Ba Z bd Z Z ⟨fx,au,av,p7++[Fn.mk f2 (((1:Nat):Int)+f1) xs],(((p7++[Fn.mk f2 (((1:Nat):Int)+f1) xs]).length:Nat):Int)-((1:Nat):Int),jr,jt,rfl,dm,(dn.up<|Ak<|Am 153 6).low (B':=w.heap.size) oM,(dp.up o1).low (B':=w.heap.size) oM,(dq.up o1).low (B':=w.heap.size) oM,(by exact X0.mk' (i:=i) k2 hdn oM ⟨by show 1≤(((1:Nat):Int)+f1);omega,by show(((1:Nat):Int)+f1)≤3;omega⟩ hff (by show _=(((1:Nat):Int)+f1);omega) hnm (by rw[z4,zd];omega) ⟨by show _=(((1:Nat):Int)+f1);omega,hst.2⟩ ⟨by show _=(((1:Nat):Int)+f1);omega,hsw.2⟩)⟩
theorem Mz (w:World)(vc:Value)(cs:List UInt8)(n:Int)(hcs:Rd (Bd rU) w.heap vc cs)(_hn:BG n)(hn:n≤1000000) :
  Calls Tryz.prog 43 #[vc,zI n] w (fun e w'=>∃(x0:Int),e=.returned (zI x0)∧AD w w'∧(0≤x0∧x0≤1000000∧(1≤n→x0<n))):=by
 refine Au [vc,zI n] 11 Tryz.func43 Z Z sM ?_
 have a1:AD w w:=AD.refl w
 have ad:=hcs.lenle
 refine fE Z<|fC [0,3,0] Z<|Ad 1 Z<|At 66 [] [] [vc] Z Z bA Aa (Ie _ _ _<|hcs.ext Dx a1) ?_
 rintro e1 w1 ⟨gB1,rfl,a0,a5,a9⟩
 refine⟨_,rfl,a0,?_⟩
 have a6:=a0.size
 have a2:=a1.trans a0
 refine Ac 1 Z<|fC [0,0,4,0] Z<|Ad 2 Z<|AH 68 [] [] [zP gB1,zI n] Z Z HO Aa (B5 _ gB1 _ _ _ _ a5 oM _hn hn) ?_
 rintro e2 w2 ⟨ac,n2,rfl,a3,aa,ab,a4⟩
 refine⟨_,rfl,?_⟩
 have a7:w1.heap.size≤w2.heap.size:=a3.size
 have a8:AD w w2:=a3.below a2 (fun b hb=>by have:b=gB1:=(by simpa using hb);omega) a2.size
 exact Ac 1 Z<|A1<|Ah [4] Z (zI ac) Z ⟨ac,rfl,a8,(by assumption)⟩
theorem K6 (w:World)(vc:Value)(cs:List UInt8)(hcs:Rd (Bd rU) w.heap vc cs)  :
  Calls Tryz.prog 41 #[vc] w (fun e w'=>e=.returned (.bool (decide (((4096:Nat):Int)<(cs.length:Int))))∧AD w w'):=by
 refine Au [vc] 6 Tryz.func41 Z Z sM ?_
 have a0:AD w w:=AD.refl w
 have a1:=hcs.lenle
 exact fE Z<|fC [0,0,0,0] Z<|Ad 1 Z<|AS (v:=vc) UK Z hcs.isSl Aa<|Cj (decide (((4096:Nat):Int)<(cs.length:Int))) Z Z Z Aa<|Ac 1 Z<|A1<|Ah [2] Z (.bool<|decide (((4096:Nat):Int)<(cs.length:Int))) Z ⟨rfl,a0⟩
theorem GH (w:World)(va:Value)(a:Sr)(vb:Value)(b:Sr)(ha:Rd (Bd rI) w.heap va a)(hb:Rd (Bd rI) w.heap vb b)  :
  Calls Tryz.prog 48 #[va,vb] w (fun e w'=>e=.returned (.bool (decide (a=b)))∧AD w w'):=by
 refine Au [va,vb] 26 Tryz.func48 Z Z sM ?_
 have a1:AD w w:=AD.refl w
 have a7:=ha.lenle
 have a8:=hb.lenle
 refine fE Z<|A0<|fC [0,0,0,0,0] Z<|Ad 1 Z<|AS (v:=va) BQ Z ha.isSl Aa<|Ad 1 Z<|AS (v:=vb) BQ Z hb.isSl Aa ?_
 by_cases a2:(a.length:Int)≠(b.length:Int)
 ·exact AT true Z Z (A5 a2) Aa<|Ai<|Af Z<|fE Z<|A1<|Ao<|Ah [4] Z (.bool false) Z ⟨AP (A6<|Vk oM).symm,a1⟩
 refine AT false Z Z (A6 a2) Aa<|Ai<|Aj Z<|A2<|A0<|fE Z<|A3<|AW (S:=Nat) (fun k=>([(5,zI (k:Int)),(0,va),(1,vb)])) (fun k W=>AD w W∧k≤a.length∧(∀j,j<k→a.getD j 0=b.getD j 0)) (fun k=>a.length-k) 0 ⟨rfl,rfl,rfl,trivial⟩ ⟨a1,sD,(by intro j hj;omega)⟩ ?_
 clear a1
 rintro k ρ2 w2 ⟨a0,a3,hq⟩
 have a6:w.heap.size≤w2.heap.size:=a0.size
 refine A0<|fC [0,0,0,0] Z<|Ad 2 Z<|AS (v:=va) BQ Z ha.isSl Aa ?_
 by_cases a4:(k:Int)<(a.length:Int)
 ·refine AJ true Z Z (A5 a4) Aa<|Ai<|Af Z<|A2<|A0<|A3<|A0<|AQ _ [0,0,0,1,0,0,0,1,0] mixed (by kernel_rfl)<|Ad 2 Z<|AE (v:=va) k BQ Ck Z Z ha.isSl Z sD Aa ?_
  refine Ag (p:=AA va k 1) (.inl Z) (zI<|a.getD k 0) AI Z (Bp a0.drew (ha.getI sD).1) Aa<|Ad 2 Z ?_
  refine AE (v:=vb) k BQ Ck Z Z hb.isSl Z sD Aa ?_
  refine Ag (p:=AA vb k 1) (.inl Z) (zI<|b.getD k 0) AI Z (Bp a0.drew (hb.getI sD).1) Aa ?_
  by_cases a5:a.getD k 0≠b.getD k 0
  ·exact AT true Z Z (A5 a5) Aa<|Ai<|Af Z<|fE Z<|A1<|AL<|Ao<|Ao<|AL<|Ao<|Ah [4] Z (.bool false) Z ⟨AP (A6<|SP (d:=0) (k:=k) oM).symm,a0.drew⟩
  refine AT false Z Z (A6 a5) Aa<|Ai<|Aj Z<|A2<|Ab _ [0,0,0] Z<|Ad 1 Z<|AR ((k+1:Nat):Int) Z Z (Bl oM sD) Aa<|Ac 1 Z ?_
  exact⟨k+1,_,rfl,zR,⟨a0.drew,sD,(by exact SN hq oM)⟩,zD⟩
 exact AJ false Z Z (A6 a4) Aa<|Ai<|Aj Z<|A4<|Az<|Az<|Aw<|fE Z<|A1<|Ah [4] Z (.bool true) Z ⟨AP (A5<|OH hq oM oM).symm,a0⟩
theorem MT (w:World)(dex:Nat)(ve:Value)(ex:Ex)(hex:RN [] (rP (L6 dex)) w.heap ve ex)(hs:ex.size≤2000000) :
  Calls Tryz.prog 208 #[ve] w (fun e w'=>∃v,e=.returned (.agg #[zI ex.kind,zI ex.num,zI ex.pick,zI ex.count,v])∧AD w w'∧Fr (CA 5 (Ga 153 (dex-1)) 153) w.heap.size w'.heap.size w'.heap v ex.kids∧Qu ex∧1≤dex):=by
 induction dex using Nat.strongRecOn generalizing w ve ex
 rename_i dex ih
 refine Au [ve] 44 Tryz.func208 Z Z sM ?_
 have bg:AD w w:=AD.refl w
 have hsk:=C0 ex
 have hsg:=JS ex.kids 0
 refine fC [3] Z (AU (z:=.agg #[zI 0,zI 0,zI 0,zI 0,zN]) Ec Aa fun w1 ay bp aw=>?_)
 have az:=ay.size
 have ad:=bg.trans ay
 replace aw:BX w1.heap w.heap.size [zI 0,zI 0,zI 0,zI 0,zN]:=aw
 refine Ai<|A0<|AQ _ [0,0,0,1,0,0,0,1,0,0,0,1,0,0,0,1,0,3,4] mixed (by kernel_rfl)<|Ad 1 Z<|AK (hex.isPtr) Z Aa ?_
 obtain⟨cs2,bq,ab⟩:=RN.at (Ay _) hex
 obtain⟨dd2,al,c7,rfl,an⟩:=RX.of bq
 have ao:=an.rn.lenle
 unfold maxLen at ao
 refine AB (p:=ve) 0 Bn Z (ab _<|Ax.of_ext [] ad.drew) Aa<|Ag (p:=Ap ve 0) (.inl Z) (zI ex.kind) AI Z ((ab _<|Ax.of_ext [] ad.drew).ld (i:=0) (by simp[DT,E2])) Aa<|Ad 1 Z<|AK (hex.isPtr) Z Aa<|AB (p:=ve) 1 BL Z (ab _<|Ax.of_ext [] ad.drew) Aa<|Ag (p:=Ap ve 1) (.inl Z) (zI ex.num) AI Z ((ab _<|Ax.of_ext [] ad.drew).ld (i:=1) (by simp[DT,E2])) Aa<|Ad 1 Z<|AK (hex.isPtr) Z Aa<|AB (p:=ve) 2 CN Z (ab _<|Ax.of_ext [] ad.drew) Aa<|Ag (p:=Ap ve 2) (.inl Z) (zI ex.pick) AI Z ((ab _<|Ax.of_ext [] ad.drew).ld (i:=2) (by simp[DT,E2])) Aa<|Ad 1 Z<|AK (hex.isPtr) Z Aa ?_
 refine AB (p:=ve) 3 CV Z (ab _<|Ax.of_ext [] ad.drew) Aa<|Ag (p:=Ap ve 3) (.inl Z) (zI ex.count) AI Z ((ab _<|Ax.of_ext [] ad.drew).ld (i:=3) (by simp[DT,E2])) Aa ?_
 have b0:∀(wq:World),(Instr.build 153 #[(0,zI ex.kind),(1,zI ex.num),(2,zI ex.pick),(3,zI ex.count)]).run Tryz.prog wq=.ok (.agg #[zI ex.kind,zI ex.num,zI ex.pick,zI ex.count,zN]) wq:=by intro wq;kernel_rfl
 refine Bh (ps:=#[(0,zI ex.kind),(1,zI ex.num),(2,zI ex.pick),(3,zI ex.count)]) (.agg #[zI ex.kind,zI ex.num,zI ex.pick,zI ex.count,zN]) (by simp only[zc,zf,zh];rfl) (fun wq=>b0  wq) Aa ?_
 have c8:=aw.lt
 have br:w1.drew.heap.size=w1.heap.size:=rfl
 refine AU (z:=.agg #[zI 0,zI 0,zI 0,zI 0,zN]) Ec Aa fun w4 am bs b1=>?_
 replace am:=am.of_drew
 have b2:=am.size
 have b3:=ad.trans am
 have ap:=aw.ext am
 replace b1:BX w4.heap w1.drew.heap.size [zI 0,zI 0,zI 0,zI 0,zN]:=b1
 refine B2 (vs:=[zI ex.kind,zI ex.num,zI ex.pick,zI ex.count,zN]) AX Z Z (by intro u hu;simp only[ze,z2,or_false]at hu;rcases hu with rfl|rfl|rfl|rfl|rfl <;> first|exact⟨rfl,rfl⟩) b1 Z Z Aa fun w6 ax bt b4=>?_
 replace b4:BX w6.heap w1.drew.heap.size [zI ex.kind,zI ex.num,zI ex.pick,zI ex.count,zN]:=b4
 have bu:w4.heap.size≤w6.heap.size:=ax.size
 have bv:AD w w6:=ax.below b3 (fun _ h=>zE h) b3.size
 have bh:=ap.chg ax (zB ·)
 refine Ai<|A0<|fC [0] Z ?_
 have hrg:Qu ex:=an.rng
 have hdx:1≤dex:=by omega
 refine Ac 1 Z<|A3 ?_
 refine AW (S:=Nat×Value) (fun⟨i,vk⟩=>([(4,zI (i:Int)),(0,ve),(2,zP w.heap.size),(3,zP w1.drew.heap.size)])) (fun⟨i,vk⟩ W=>AD w W∧Fr (CA 5 (Ga 153 (dex-1)) 153) w6.heap.size W.heap.size W.heap vk (ex.kids.take i)∧BX W.heap w.heap.size [zI 0,zI 0,zI 0,zI 0,zN]∧BX W.heap w1.drew.heap.size [zI ex.kind,zI ex.num,zI ex.pick,zI ex.count,vk]∧i≤ex.kids.length∧w.heap.size<w6.heap.size∧w1.drew.heap.size<w6.heap.size∧w6.heap.size≤W.heap.size) (fun⟨i,vk⟩=>ex.kids.length-i) (0,zN) ⟨rfl,rfl,rfl,rfl,trivial⟩ ⟨bv,(Cq _ 0 _).up<|Ak<|Aq 153 (dex-1),bh,b4,oM,oM,oM,oM⟩ ?_
 clear bg bp ay az ad ao bs am b2 b3 bt ax bh
 rintro⟨i,vk⟩ ρ10 c6 ⟨a1,a3,a4,a0,b5,bw,bx,bi⟩
 have bj:w.heap.size≤c6.heap.size:=a1.size
 have bz:=a4.lt
 have c0:=a0.lt
 refine A0<|fC [0,0,0,0,2,0,0] Z<|Ad 2 Z<|AK (hex.isPtr) Z Aa<|AB (p:=ve) 4 AY Z (ab _<|Ax.of_ext [] a1) Aa<|Ag (p:=Ap ve 4) (.inr Z) al B7 Z ((ab _<|Ax.of_ext [] a1).ld (i:=4) (by simp[DT,E2])) Aa<|AS (v:=al) Cc Z an.rn.isSl Aa ?_
 by_cases aq:(i:Int)<(ex.kids.length:Int)
 ·refine AJ true Z Z (A5 aq) Aa<|Ai<|Af Z<|A2<|A0<|A3<|AQ _ [0,1,0,0,0,1,0,0,3,3,4,0,4] mixed (by kernel_rfl)<|Al (p:=zP w1.drew.heap.size) 4 AY Z Z Aa<|Ag (p:=Ap (zP w1.drew.heap.size) 4) (.inl Z) vk B7 Z (a0.ldp (i:=4) sM) Aa<|Ad 1 Z<|AK (hex.isPtr) Z Aa<|AB (p:=ve) 4 AY Z (ab _<|Ax.of_ext [] a1.drew) Aa<|Ag (p:=Ap ve 4) (.inl Z) al B7 Z ((ab _<|Ax.of_ext [] a1.drew).ld (i:=4) (by simp[DT,E2])) Aa<|Ad 1 Z ?_
  refine AE (v:=al) i Cc B3 Z Z an.rn.isSl Z sD Aa ?_
  have hsa:=EY (l:=ex.kids) (k:=i) oM
  refine At 208 [] [] [AA al i 5] Z Z Y3 Aa (ih dd2 oM _ (AA al i 5) (ex.kids.getD i Ex.zero) (RN.ptr (Ay dd2) (by decide) Ex.zero (an.rn.ext (An<|Ay dd2) a1.drew) sD) oM) ?_
  rintro cg ch ⟨cd,rfl,a2,ah,b6,c1⟩
  refine⟨_,rfl,a2,?_⟩
  replace a2:=a2.of_drew
  have bk:=a2.size
  have b7:=a1.trans a2
  have a5:=a3.ext (Ak<|Aq 153 (dex-1)) a2
  have a6:=a4.ext a2
  have a7:=a0.ext a2
  replace ah:=ah.low (B':=c6.heap.size)<|A7 _
  refine Cw (cs:=[zI<|(ex.kids.getD i Ex.zero).kind,zI<|(ex.kids.getD i Ex.zero).num,zI<|(ex.kids.getD i Ex.zero).pick,zI<|(ex.kids.getD i Ex.zero).count,cd]) (y:=ex.kids.getD i Ex.zero) (B:=c6.heap.size) (Aq 153 (dex-1)) Cc B3 Z (by decide) Z (Gg.le (Gg.mk1 oM b6 ah) oM) oM Aa fun ce cf ac c2 b8=>?_
  have bl:=ac.size
  have ar:=b7.trans ac
  have a8:=a5.ext (Ak<|Aq 153 (dex-1)) ac
  have a9:=a6.ext ac
  have aa:=a7.ext ac
  refine D8 (v:=vk) (a:=ce) (Aq 153 (dex-1)) Cc B3 Z (by decide) Z Z a8 oM b8 oM oM (by rw[List.length_take];omega) (by rw[List.length_take];unfold maxLen;omega) Aa fun cc c9 ci ae ai au=>?_
  have bm:cf.heap.size≤c9.heap.size:=ae.size
  have av:AD w c9:=ae.below ar (fun c hc=>zH<|ai _ hc) ar.size
  have b9:=a9.chg ae fun hm=>zH<|ai _ hm
  have ba:=aa.chg ae fun hm=>zH<|ai _ hm
  refine Al (p:=zP w1.drew.heap.size) 4 AY Z Z Aa (Bc (k:=4) (w:=c9) Ia Z Z (AV au.isSlS) ba sM Aa fun ca af c3 aj=>?_)
  replace aj:BX ca.heap w1.drew.heap.size [zI ex.kind,zI ex.num,zI ex.pick,zI ex.count,cc]:=aj
  have bn:c9.heap.size≤ca.heap.size:=af.size
  have bb:AD w ca:=af.below av (fun _ h=>zE h) av.size
  have bc:=b9.chg af (zB ·)
  have bd:=au.chg (Ak<|Aq 153 (dex-1)) af fun c hc=>zH<|A9 hc
  exact Ai<|Ab _ [0,0,0] Z<|Ad 1 Z<|AR ((i+1:Nat):Int) Z Z (Bl oM oM) Aa<|Ac 1 Z ⟨(i+1,cc),_,rfl,zR,⟨bb,(by rw[Cn Ex.zero oM];exact bd.up (Ak<|Aq 153 (dex-1))),bc,aj,oM,oM,oM,oM⟩,zD⟩
 refine AJ false Z Z (A6 aq) Aa<|Ai<|Aj Z<|A4<|Az<|Az<|Aw<|fC [2,4] Z<|AF (p:=zP w1.drew.heap.size) (.inr Z) [zI ex.kind,zI ex.num,zI ex.pick,zI ex.count,vk] AX Z (fun cj c4=>LD.of_box<|BX.ext (w:=c6) a0 c4) Z Aa (B2 (vs:=[zI ex.kind,zI ex.num,zI ex.pick,zI ex.count,vk]) AX Z Z (by intro u hu;simp only[ze,z2,or_false]at hu;rcases hu with rfl|rfl|rfl|rfl|rfl <;> first|exact⟨rfl,rfl⟩|exact AV a3.isSlS) a4 Z Z Aa fun cb ag c5 ak=>?_)
 replace ak:BX cb.heap w.heap.size [zI ex.kind,zI ex.num,zI ex.pick,zI ex.count,vk]:=ak
 have bo:c6.heap.size≤cb.heap.size:=ag.size
 have be:AD w cb:=ag.below a1 (fun _ h=>zE h) a1.size
 have bf:=a3.chg (Ak<|Aq 153 (dex-1)) ag fun c hc=>zH<|A9 hc
 exact Ai<|A1<|C8 (cs:=[zI ex.kind,zI ex.num,zI ex.pick,zI ex.count,vk]) Z AX Z ak Z ⟨vk,rfl,be,(by have h:=((bf.up<|Ak<|Aq 153 (dex-1)).low (B':=w.heap.size) oM);rwa [za oM]at h),hrg,hdx⟩
theorem Hy {p:Prop}(h:p:=by simp[DT,E2]):p:=h
theorem Io (w:World)(dp:Nat)(vp:Value)(p:List Fn)(hp:RN [] (rP (KS dp)) w.heap vp p)(hz:LF p)(hpl:p.length≤1000000) :
  Calls Tryz.prog 140 #[vp] w (fun e w'=>∃v,e=.returned (.agg #[v])∧AD w w'∧Fr (CA 3 (KH 153 dp) 49) w.heap.size w'.heap.size w'.heap v p):=by
 refine Au [vp] 70 Tryz.func140 Z Z sM ?_
 have d2:AD w w:=AD.refl w
 refine fC [3] Z (AU (z:=.agg #[zN]) IJ Aa fun w1 c2 dn bz=>?_)
 have c3:=c2.size
 have d3:=d2.trans c2
 replace bz:BX w1.heap w.heap.size [zN]:=bz
 refine Ai<|fC [0,3,4] Z ?_
 have c4:∀(wq:World),(Instr.build 26 #[]).run Tryz.prog wq=.ok (.agg #[zN]) wq:=by intro wq;kernel_rfl
 refine Bh (ps:=#[]) (.agg #[zN]) (by simp only[zc,zf,zh]) (fun wq=>c4  wq) Aa ?_
 have ec:=bz.lt
 refine AU (z:=.agg #[zN]) IJ Aa fun w3 c0 dq c5=>?_
 have c6:=c0.size
 have c7:=d3.trans c0
 have bk:=bz.ext c0
 replace c5:BX w3.heap w1.heap.size [zN]:=c5
 refine B2 (vs:=[zN]) Ba Z Z (by intro u hu;simp only[ze,z2,or_false]at hu;rcases hu with rfl <;> first|exact⟨rfl,rfl⟩) c5 Z Z Aa fun w5 c1 dr c8=>?_
 replace c8:BX w5.heap w1.heap.size [zN]:=c8
 have ds:w3.heap.size≤w5.heap.size:=c1.size
 have dt:AD w w5:=c1.below c7 (fun _ h=>zE h) c7.size
 have d4:=bk.chg c1 (zB ·)
 refine Ai<|A0<|fE Z<|A3<|AW (S:=Nat×Value) (fun⟨i,vq⟩=>([(4,zI (i:Int)),(0,vp),(2,zP w.heap.size),(3,zP w1.heap.size)])) (fun⟨i,vq⟩ W=>AD w W∧Fr (CA 3 (KH 153 dp) 49) w5.heap.size W.heap.size W.heap vq (p.take i)∧BX W.heap w.heap.size [zN]∧BX W.heap w1.heap.size [vq]∧i≤p.length∧w.heap.size<w5.heap.size∧w1.heap.size<w5.heap.size∧w5.heap.size≤W.heap.size) (fun⟨i,vq⟩=>p.length-i) (0,zN) ⟨rfl,rfl,rfl,rfl,trivial⟩ ⟨dt,(Cq _ 0 _).up<|Ak<|Am 153 dp,d4,c8,oM,oM,oM,oM⟩ ?_
 clear d2 dn c2 c3 d3 dq c0 c6 c7 dr c1 d4
 rintro⟨i,vq⟩ ρ9 w9 ⟨ag,ah,a7,a5,d5,du,dv,d6⟩
 have dw:w.heap.size≤w9.heap.size:=ag.size
 have dx:=a7.lt
 have dy:=a5.lt
 refine A0<|fC [0,0,0,0,2,0,0] Z<|Ad 2 Z<|AK (hp.isPtr) Z Aa ?_
 obtain⟨cs13,c9,a3⟩:=RN.at (AZ _) hp
 obtain⟨a0,rfl,ad⟩:=RPr.of c9
 have bb:=ad.lenle
 unfold maxLen at bb
 refine AB (p:=vp) 0 B8 Z (a3 _<|Ax.of_ext [] ag) Aa<|Ag (p:=Ap vp 0) (.inr Z) a0 Bt Z ((a3 _<|Ax.of_ext [] ag).ld (i:=0) Hy) Aa<|AS (v:=a0) Du Z ad.isSl Aa ?_
 by_cases bl:(i:Int)<(p.length:Int)
 ·refine AJ true Z Z (A5 bl) Aa<|Ai<|Af Z<|A2<|A0<|A3<|A0<|AQ _ [0,0,0,1,0,0,0,1,0,0,0,1,0,0,0,1,0,3,4] mixed (by kernel_rfl)<|Ad 1 Z<|AK (hp.isPtr) Z Aa<|AB (p:=vp) 0 B8 Z (a3 _<|Ax.of_ext [] ag.drew) Aa<|Ag (p:=Ap vp 0) (.inl Z) a0 Bt Z ((a3 _<|Ax.of_ext [] ag.drew).ld (i:=0) Hy) Aa<|Ad 1 Z ?_
  refine AE (v:=a0) i Du BD Z Z ad.isSl Z sD Aa ?_
  obtain⟨cs15,ca,a8⟩:=ad.get (Av dp) Fn.zero (k:=i) sD
  obtain⟨ai,rfl,b3⟩:=RF.of ca
  have bc:=b3.rn.lenle
  unfold maxLen at bc
  refine AB (p:=AA a0 i 3) 0 EF Z (a8 _<|Ax.of_ext [] ag.drew) Aa<|Ag (p:=Ap (AA a0 i 3) 0) (.inl Z) (.string<|(p.getD i Fn.zero).name) K1 Z ((a8 _<|Ax.of_ext [] ag.drew).ld (i:=0) Hy) Aa<|Ad 1 Z<|AK (hp.isPtr) Z Aa<|AB (p:=vp) 0 B8 Z (a3 _<|Ax.of_ext [] ag.drew) Aa<|Ag (p:=Ap vp 0) (.inl Z) a0 Bt Z ((a3 _<|Ax.of_ext [] ag.drew).ld (i:=0) Hy) Aa<|Ad 1 Z ?_
  refine AE (v:=a0) i Du BD Z Z ad.isSl Z sD Aa<|AB (p:=AA a0 i 3) 1 BI Z (a8 _<|Ax.of_ext [] ag.drew) Aa<|Ag (p:=Ap (AA a0 i 3) 1) (.inl Z) (zI<|(p.getD i Fn.zero).params) AI Z ((a8 _<|Ax.of_ext [] ag.drew).ld (i:=1) Hy) Aa ?_
  have bm:∀(wq:World),(Instr.build 49 #[(0,.string ((p.getD i Fn.zero).name)),(1,zI ((p.getD i Fn.zero).params))]).run Tryz.prog wq=.ok (.agg #[.string ((p.getD i Fn.zero).name),zI ((p.getD i Fn.zero).params),zN]) wq:=by intro wq;kernel_rfl
  refine Bh (ps:=#[(0,.string<|(p.getD i Fn.zero).name),(1,zI<|(p.getD i Fn.zero).params)]) (.agg #[.string<|(p.getD i Fn.zero).name,zI<|(p.getD i Fn.zero).params,zN]) (by simp only[zc,zf,zh];rfl) (fun wq=>bm  wq) Aa ?_
  have dz:=a7.lt
  have e0:=a5.lt
  have d7:w9.drew.heap.size=w9.heap.size:=rfl
  refine AU (z:=.agg #[.string ByteArray.empty,zI 0,zN]) MK Aa fun eg a9 cb bd=>?_
  replace a9:=a9.of_drew
  have bn:=a9.size
  have be:=ag.trans a9
  have aa:=ah.ext (Ak<|Am 153 dp) a9
  have ab:=a7.ext a9
  have ac:=a5.ext a9
  replace bd:BX eg.heap w9.drew.heap.size [.string ByteArray.empty,zI 0,zN]:=bd
  refine B2 (vs:=[.string<|(p.getD i Fn.zero).name,zI<|(p.getD i Fn.zero).params,zN]) DS Z Z (by intro u hu;simp only[ze,z2,or_false]at hu;rcases hu with rfl|rfl|rfl <;> first|exact⟨rfl,rfl⟩) bd Z Z Aa fun b2 aj cc bf=>?_
  replace bf:BX b2.heap w9.drew.heap.size [.string ((p.getD i Fn.zero).name),zI ((p.getD i Fn.zero).params),zN]:=bf
  have d8:eg.heap.size≤b2.heap.size:=aj.size
  have cd:AD w b2:=aj.below be (fun _ h=>zE h) be.size
  have bo:=aa.chg (Ak<|Am 153 dp) aj fun _ h=>zA h
  have bp:=ab.chg aj (zB ·)
  have bq:=ac.chg aj (zB ·)
  refine Ai<|A0<|fE Z<|A3 ?_
  refine AW (S:=Nat×Value) (fun⟨k,vo⟩=>([(6,zI (k:Int)),(0,vp),(2,zP w.heap.size),(3,zP w1.heap.size),(4,zI (i:Int)),(5,zP w9.drew.heap.size)])) (fun⟨k,vo⟩ W=>AD w W∧Fr (CA 5 (Ga 153 dp) 153) b2.heap.size W.heap.size W.heap vo ((p.getD i Fn.zero).outs.take k)∧Fr (CA 3 (KH 153 dp) 49) w5.heap.size w9.heap.size W.heap vq (p.take i)∧BX W.heap w.heap.size [zN]∧BX W.heap w1.heap.size [vq]∧BX W.heap w9.drew.heap.size [.string<|(p.getD i Fn.zero).name,zI<|(p.getD i Fn.zero).params,vo]∧k≤(p.getD i Fn.zero).outs.length∧w9.heap.size≤b2.heap.size∧w9.heap.size≤w9.drew.heap.size∧w.heap.size≤w5.heap.size∧w.heap.size<b2.heap.size∧w1.heap.size<b2.heap.size∧w9.drew.heap.size<b2.heap.size∧b2.heap.size≤W.heap.size∧w5.heap.size≤W.heap.size) (fun⟨k,vo⟩=>(p.getD i Fn.zero).outs.length-k) (0,zN) ⟨rfl,rfl,rfl,rfl,rfl,rfl,trivial⟩ ⟨cd,(Cq _ 0 _).up<|Ak<|Aq 153 dp,bo,bp,bq,bf,oM,oM,oM,oM,oM,oM,oM,oM,oM⟩ ?_
  clear a5 a7 ah bb bc cb a9 bn be aa ab ac cc aj bo bp bq
  rintro⟨k,vo⟩ ρ27 cw ⟨a1,b4,b5,ae,a6,a2,ce,huw,huf,hwb,d9,da,db,dc,dd⟩
  have de:w.heap.size≤cw.heap.size:=a1.size
  have e1:=ae.lt
  have e2:=a6.lt
  have e3:=a2.lt
  refine A0<|fC [0,0,0,0,2,0,0,0,2,0,0] Z<|Ad 2 Z<|AK (hp.isPtr) Z Aa<|AB (p:=vp) 0 B8 Z (a3 _<|Ax.of_ext [] a1) Aa<|Ag (p:=Ap vp 0) (.inr Z) a0 Bt Z ((a3 _<|Ax.of_ext [] a1).ld (i:=0) Hy) Aa<|Ad 1 Z<|AE (v:=a0) i Du BD Z Z ad.isSl Z sD Aa ?_
  refine AB (p:=AA a0 i 3) 2 Br Z (a8 _<|Ax.of_ext [] a1) Aa<|Ag (p:=Ap (AA a0 i 3) 2) (.inr Z) ai B7 Z ((a8 _<|Ax.of_ext [] a1).ld (i:=2) Hy) Aa ?_
  have hzi:=hz i oM
  refine AS (v:=ai) Cc Z b3.rn.isSl Aa ?_
  by_cases br:(k:Int)<((((p.getD i Fn.zero).outs).length:Nat):Int)
  ·refine AJ true Z Z (A5 br) Aa<|Ai<|Af Z<|A2<|A0<|A3<|AQ _ [0,1,0,0,0,1,0,0,0,1,0,0,3,3,4,0,4] mixed (by kernel_rfl)<|Al (p:=zP w9.drew.heap.size) 2 Br Z Z Aa<|Ag (p:=Ap (zP w9.drew.heap.size) 2) (.inl Z) vo B7 Z (a2.ldp (i:=2) sM) Aa<|Ad 1 Z<|AK (hp.isPtr) Z Aa<|AB (p:=vp) 0 B8 Z (a3 _<|Ax.of_ext [] a1.drew) Aa<|Ag (p:=Ap vp 0) (.inl Z) a0 Bt Z ((a3 _<|Ax.of_ext [] a1.drew).ld (i:=0) Hy) Aa<|Ad 1 Z ?_
   refine AE (v:=a0) i Du BD Z Z ad.isSl Z sD Aa<|AB (p:=AA a0 i 3) 2 Br Z (a8 _<|Ax.of_ext [] a1.drew) Aa<|Ag (p:=Ap (AA a0 i 3) 2) (.inl Z) ai B7 Z ((a8 _<|Ax.of_ext [] a1.drew).ld (i:=2) Hy) Aa<|Ad 1 Z ?_
   refine AE (v:=ai) k Cc B3 Z Z b3.rn.isSl Z sD Aa ?_
   have hzi:=hz i oM
   have hsa:=EY (l:=(p.getD i Fn.zero).outs) (k:=k) oM
   refine At 208 [] [] [AA ai k 5] Z Z Y3 Aa (MT _ dp (AA ai k 5) (((p.getD i Fn.zero).outs).getD k Ex.zero) (RN.ptr (Ay dp) (by decide) Ex.zero (b3.rn.ext (An<|Ay dp) a1.drew) sD) oM) ?_
   rintro ep er ⟨ej,rfl,a4,bg,cf,e4⟩
   refine⟨_,rfl,a4,?_⟩
   replace a4:=a4.of_drew
   have df:=a4.size
   have cg:=a1.trans a4
   have ak:=b4.ext (Ak<|Aq 153 dp) a4
   have al:=b5.ext (Ak<|Am 153 dp) a4
   have am:=ae.ext a4
   have an:=a6.ext a4
   have ao:=a2.ext a4
   replace bg:=bg.low (B':=cw.heap.size)<|A7 _
   refine Cw (cs:=[zI<|(((p.getD i Fn.zero).outs).getD k Ex.zero).kind,zI<|(((p.getD i Fn.zero).outs).getD k Ex.zero).num,zI<|(((p.getD i Fn.zero).outs).getD k Ex.zero).pick,zI<|(((p.getD i Fn.zero).outs).getD k Ex.zero).count,ej]) (y:=((p.getD i Fn.zero).outs).getD k Ex.zero) (B:=cw.heap.size) (Aq 153 dp) Cc B3 Z (by decide) Z (Gg.mk1 oM cf bg) oM Aa fun ek el af e5 ch=>?_
   have dg:=af.size
   have bs:=cg.trans af
   have ap:=ak.ext (Ak<|Aq 153 dp) af
   have aq:=al.ext (Ak<|Am 153 dp) af
   have ar:=am.ext af
   have au:=an.ext af
   have av:=ao.ext af
   refine D8 (v:=vo) (a:=ek) (Aq 153 dp) Cc B3 Z (by decide) Z Z ap oM ch oM oM (by rw[List.length_take];omega) (by rw[List.length_take];unfold maxLen;omega) Aa fun eh e9 es aw b6 bt=>?_
   have dh:el.heap.size≤e9.heap.size:=aw.size
   have bu:AD w e9:=aw.below bs (fun c hc=>zH<|b6 _ hc) bs.size
   have ci:=aq.chg (Ak<|Am 153 dp) aw fun c hc=>zH<|b6 _ hc
   have cj:=ar.chg aw fun hm=>zH<|b6 _ hm
   have ck:=au.chg aw fun hm=>zH<|b6 _ hm
   have cl:=av.chg aw fun hm=>zH<|b6 _ hm
   refine Al (p:=zP w9.drew.heap.size) 2 Br Z Z Aa (Bc (k:=2) (w:=e9) Ia Z Z (AV bt.isSlS) cl sM Aa fun ed ax e6 bh=>?_)
   replace bh:BX ed.heap w9.drew.heap.size [.string ((p.getD i Fn.zero).name),zI ((p.getD i Fn.zero).params),eh]:=bh
   have di:e9.heap.size≤ed.heap.size:=ax.size
   have cm:AD w ed:=ax.below bu (fun _ h=>zE h) bu.size
   have cn:=ci.chg (Ak<|Am 153 dp) ax fun _ h=>zA h
   have co:=cj.chg ax (zB ·)
   have cp:=ck.chg ax (zB ·)
   have cq:=bt.chg (Ak<|Aq 153 dp) ax fun _ h=>zA h
   exact Ai<|Ab _ [0,0,0] Z<|Ad 1 Z<|AR ((k+1:Nat):Int) Z Z (Bl oM oM) Aa<|Ac 1 Z ⟨(k+1,eh),_,rfl,zR,⟨cm,(by rw[Cn Ex.zero oM];exact cq.up (Ak<|Aq 153 dp)),cn,co,cp,bh,oM,oM,oM,oM,oM,oM,oM,oM,oM⟩,zD⟩
  refine AJ false Z Z (A6 br) Aa<|Ai<|Aj Z<|A4<|Az<|Az<|Aw<|Ab _ [0,2,2,3,4,0,4] Z<|Al (p:=zP w1.heap.size) 0 B8 Z Z Aa<|Ag (p:=Ap (zP w1.heap.size) 0) (.inr Z) vq Bt Z (a6.ldp (i:=0) sM) Aa<|AF (p:=zP w9.drew.heap.size) (.inr Z) [.string<|(p.getD i Fn.zero).name,zI<|(p.getD i Fn.zero).params,vo] DS Z (fun em cr=>LD.of_box<|BX.ext (w:=cw) a2 cr) Z Aa ?_
  refine Cw (cs:=[.string<|(p.getD i Fn.zero).name,zI<|(p.getD i Fn.zero).params,vo]) (y:=Fn.mk ((p.getD i Fn.zero).name) ((p.getD i Fn.zero).params)<|(p.getD i Fn.zero).outs.take k) (B:=b2.heap.size) (Am 153 dp) Du BD Z (by decide) Z (Gg.mkF (x:=⟨(p.getD i Fn.zero).name,(p.getD i Fn.zero).params,(p.getD i Fn.zero).outs.take k⟩) (Ja (a:=(p.getD i Fn.zero).params) b3.rng) b4) oM Aa fun en eo ay e7 ct=>?_
  have dj:=ay.size
  have bv:=a1.trans ay
  have az:=b5.ext (Ak<|Am 153 dp) ay
  have b0:=ae.ext ay
  have b1:=a6.ext ay
  refine D8 (v:=vq) (a:=en) (Am 153 dp) Du BD Z (by decide) Z Z az oM ct oM oM (by rw[List.length_take];omega) (by rw[List.length_take];unfold maxLen;omega) Aa fun ei eb et b7 b9 bw=>?_
  have dk:eo.heap.size≤eb.heap.size:=b7.size
  have bx:AD w eb:=b7.below bv (fun c hc=>zH<|b9 _ hc) bv.size
  have cu:=b0.chg b7 fun hm=>zH<|b9 _ hm
  have cv:=b1.chg b7 fun hm=>zH<|b9 _ hm
  refine Al (p:=zP w1.heap.size) 0 B8 Z Z Aa (Bc (k:=0) (w:=eb) PX Z Z (AV bw.isSlS) cv sM Aa fun ee b8 e8 bi=>?_)
  replace bi:BX ee.heap w1.heap.size [ei]:=bi
  have dl:eb.heap.size≤ee.heap.size:=b8.size
  have cx:AD w ee:=b8.below bx (fun _ h=>zE h) bx.size
  have cy:=cu.chg b8 (zB ·)
  have cz:=bw.chg (Ak<|Am 153 dp) b8 fun _ h=>zA h
  exact Ai<|Ab _ [0,0,0] Z<|Ad 1 Z<|AR ((i+1:Nat):Int) Z Z (Bl oM oM) Aa<|Ac 1 Z ⟨(i+1,ei),_,rfl,zR,⟨cx,(by have h:=cz.up (Ak<|Am 153 dp);rw[show(p.getD i Fn.zero).outs.take k=(p.getD i Fn.zero).outs from za oM]at h;rw[Cn Fn.zero oM];exact h),cy,bi,oM,oM,oM,oM⟩,zD⟩
 refine AJ false Z Z (A6 bl) Aa<|Ai<|Aj Z<|A4<|Az<|Az<|Aw<|fC [2,4] Z<|AF (p:=zP w1.heap.size) (.inr Z) [vq] Ba Z (fun em cr=>LD.of_box<|BX.ext (w:=w9) a5 cr) Z Aa (B2 (vs:=[vq]) Ba Z Z (by intro u hu;simp only[ze,z2,or_false]at hu;rcases hu with rfl <;> first|exact⟨rfl,rfl⟩|exact AV ah.isSlS) a7 Z Z Aa fun ef ba ea bj=>?_)
 replace bj:BX ef.heap w.heap.size [vq]:=bj
 have dm:w9.heap.size≤ef.heap.size:=ba.size
 have d0:AD w ef:=ba.below ag (fun _ h=>zE h) ag.size
 have d1:=ah.chg (Ak<|Am 153 dp) ba fun _ h=>zA h
 exact Ai<|A1<|C8 (cs:=[vq]) Z Ba Z bj Z ⟨vq,rfl,d0,(by have h:=((d1.up<|Ak<|Am 153 dp).low (B':=w.heap.size) oM);rwa [za oM]at h)⟩
theorem Gg.mk2 {e:TypeId}{d B U:Nat}{H:Array Obj}{v:Value}{x:Ex}(hr:Qu x)(h:Fr (CA 5 (Ga e d) e) B U H v x.kids):Gg (Ga e (d+1)) B U H (DT x v) x:=Gg.mk1 zO hr h
theorem KD (w:World)(dex:Nat)(ve:Value)(ex:Ex)(hex:RX [] dex w.heap ve ex)(hs:ex.size≤2000000) :
  Calls Tryz.prog 202 #[(.agg #[(zI ex.kind),(zI ex.num),(zI ex.pick),(zI ex.count),ve])] w (fun e w'=>∃v,e=.returned (.agg #[zI ex.kind,zI ex.num,zI ex.pick,zI ex.count,v])∧AD w w'∧Fr (CA 5 (Ga 153 dex) 153) w.heap.size w'.heap.size w'.heap v ex.kids∧Qu ex):=by
 induction dex using Nat.strongRecOn generalizing w ve ex
 rename_i dex ih
 refine Au [.agg #[zI ex.kind,zI ex.num,zI ex.pick,zI ex.count,ve]] 24 Tryz.func202 Z Z sM ?_
 have bu:AD w w:=AD.refl w
 have al:=hex.rn.lenle
 unfold maxLen at al
 have hsk:=C0 ex
 have hsg:=JS ex.kids 0
 refine fC [3,3] Z (Bv (cs:=#[zI ex.kind,zI ex.num,zI ex.pick,zI ex.count,ve]) Z Aa fun w1 b9 c6 b6=>?_)
 have ba:=b9.size
 have bv:=bu.trans b9
 replace b6:BX w1.heap w.heap.size [zI ex.kind,zI ex.num,zI ex.pick,zI ex.count,ve]:=b6
 have cr:=b6.lt
 refine AU (z:=.agg #[zI 0,zI 0,zI 0,zI 0,zN]) Ec Aa fun w2 b7 c7 bb=>?_
 have bc:=b7.size
 have bd:=bv.trans b7
 have ao:=b6.ext b7
 replace bb:BX w2.heap w1.heap.size [zI 0,zI 0,zI 0,zI 0,zN]:=bb
 refine Ai<|fC [0,2,0] Z<|Al (p:=zP w.heap.size) 4 AY Z Z Aa<|Ag (p:=Ap (zP w.heap.size) 4) (.inr Z) ve B7 Z (ao.ldp (i:=4) sM) Aa<|Ac 1 Z<|fC [0,4] Z<|Al (p:=zP w.heap.size) 4 AY Z Z Aa (Bc (k:=4) (w:=w2) Ia Z Z ⟨rfl,rfl⟩ ao sM Aa fun w4 b8 c8 be=>?_)
 replace be:BX w4.heap w.heap.size [zI ex.kind,zI ex.num,zI ex.pick,zI ex.count,zN]:=be
 have c9:w2.heap.size≤w4.heap.size:=b8.size
 have ca:AD w w4:=b8.below bd (fun _ h=>zE h) bd.size
 have bw:=bb.chg b8 (zB ·)
 refine Ai<|A0<|fC [0,0,0] Z<|Ad 1 Z<|AS (v:=ve) Cc Z hex.rn.isSl Aa<|Ac 1 Z<|A3 ?_
 refine AW (S:=Nat×Value) (fun⟨i,vk⟩=>([(11,zI (i:Int)),(1,zP w.heap.size),(2,zP w1.heap.size),(9,ve),(10,zI (ex.kids.length:Int))])) (fun⟨i,vk⟩ W=>AD w W∧Fr (CA 5 (Ga 153 dex) 153) w4.heap.size W.heap.size W.heap vk (ex.kids.take i)∧BX W.heap w.heap.size [zI ex.kind,zI ex.num,zI ex.pick,zI ex.count,vk]∧BX W.heap w1.heap.size [zI 0,zI 0,zI 0,zI 0,zN]∧i≤ex.kids.length∧w.heap.size<w4.heap.size∧w1.heap.size<w4.heap.size∧w4.heap.size≤W.heap.size) (fun⟨i,vk⟩=>ex.kids.length-i) (0,zN) ⟨rfl,rfl,rfl,rfl,rfl,trivial⟩ ⟨ca,(Cq _ 0 _).up<|Ak<|Aq 153 dex,be,bw,oM,oM,oM,oM⟩ ?_
 clear bu c6 b9 ba bv c7 b7 bc bd c8 b8 bw
 rintro⟨i,vk⟩ ρ8 w8 ⟨aw,a5,a1,a2,bx,cb,cc,cd⟩
 have ce:w.heap.size≤w8.heap.size:=aw.size
 have cf:=a1.lt
 have cg:=a2.lt
 refine fC [0] Z ?_
 by_cases ax:(i:Int)<(ex.kids.length:Int)
 ·refine AJ true Z Z (A5 ax) Aa<|Ai<|A0<|Af Z<|A2<|A0<|A3<|fC [0,2,3,4] Z<|AE (v:=ve) i Cc B3 Z Z hex.rn.isSl Z sD Aa ?_
  obtain⟨cs13,bf,bg⟩:=hex.rn.get (Ay dex) Ex.zero (k:=i) sD
  obtain⟨dd13,a3,ch,rfl,ap⟩:=RX.of bf
  have ay:=ap.rn.lenle
  unfold maxLen at ay
  refine AF (p:=AA ve i 5) (.inr Z) [zI<|(ex.kids.getD i Ex.zero).kind,zI<|(ex.kids.getD i Ex.zero).num,zI<|(ex.kids.getD i Ex.zero).pick,zI<|(ex.kids.getD i Ex.zero).count,a3] AX Z (fun co az=>bg co<|Ax.of_ext []<|aw.trans az) Z Aa ?_
  have ci:=a1.lt
  have cj:=a2.lt
  refine AU (z:=.agg #[zI 0,zI 0,zI 0,zI 0,zN]) Ec Aa fun cu a6 ck aq=>?_
  have bz:=a6.size
  have b0:=aw.trans a6
  have a7:=a5.ext (Ak<|Aq 153 dex) a6
  have a8:=a1.ext a6
  have a9:=a2.ext a6
  replace aq:BX cu.heap w8.heap.size [zI 0,zI 0,zI 0,zI 0,zN]:=aq
  refine B2 (vs:=[zI<|(ex.kids.getD i Ex.zero).kind,zI<|(ex.kids.getD i Ex.zero).num,zI<|(ex.kids.getD i Ex.zero).pick,zI<|(ex.kids.getD i Ex.zero).count,a3]) AX Z Z ap.ones aq Z Z Aa fun ah aa cl ad=>?_
  replace ad:BX ah.heap w8.heap.size [zI ((ex.kids.getD i Ex.zero).kind),zI ((ex.kids.getD i Ex.zero).num),zI ((ex.kids.getD i Ex.zero).pick),zI ((ex.kids.getD i Ex.zero).count),a3]:=ad
  have c0:cu.heap.size≤ah.heap.size:=aa.size
  have b1:AD w ah:=aa.below b0 (fun _ h=>zE h) b0.size
  have bh:=a7.chg (Ak<|Aq 153 dex) aa fun _ h=>zA h
  have b2:=a8.chg aa (zB ·)
  have bi:=a9.chg aa (zB ·)
  refine Ai<|AQ _ [0,1,1,3,3,4,0,4] mixed (by kernel_rfl) ?_
  have hsa:=EY (l:=ex.kids) (k:=i) oM
  refine Al (p:=zP w.heap.size) 4 AY Z Z Aa<|Ag (p:=Ap (zP w.heap.size) 4) (.inl Z) vk B7 Z (b2.ldp (i:=4) sM) Aa<|AF (p:=zP w8.heap.size) (.inl Z) [zI<|(ex.kids.getD i Ex.zero).kind,zI<|(ex.kids.getD i Ex.zero).num,zI<|(ex.kids.getD i Ex.zero).pick,zI<|(ex.kids.getD i Ex.zero).count,a3] AX Z (fun co az=>LD.of_box<|BX.ext (w:=ah.drew) ad az) Z Aa ?_
  refine At 202 [] [] [.agg #[zI<|(ex.kids.getD i Ex.zero).kind,zI<|(ex.kids.getD i Ex.zero).num,zI<|(ex.kids.getD i Ex.zero).pick,zI<|(ex.kids.getD i Ex.zero).count,a3]] Z Z Y2 Aa (ih dd13 oM _ a3 (ex.kids.getD i Ex.zero) (ap.ext b1.drew) oM) ?_
  rintro d0 d1 ⟨cx,rfl,a0,ar,bj⟩
  refine⟨_,rfl,a0,?_⟩
  replace a0:=a0.of_drew
  have c1:=a0.size
  have bk:=b1.trans a0
  have ae:=bh.ext (Ak<|Aq 153 dex) a0
  have af:=b2.ext a0
  have ag:=bi.ext a0
  replace ar:=ar.low (B':=ah.heap.size)<|A7 _
  refine Cw (cs:=[zI<|(ex.kids.getD i Ex.zero).kind,zI<|(ex.kids.getD i Ex.zero).num,zI<|(ex.kids.getD i Ex.zero).pick,zI<|(ex.kids.getD i Ex.zero).count,cx]) (y:=ex.kids.getD i Ex.zero) (B:=ah.heap.size) (Aq 153 dex) Cc B3 Z (by decide) Z (Gg.le (Gg.mk2 bj ar) oM) oM Aa fun cy cz a4 cm bl=>?_
  have c2:=a4.size
  have b3:=bk.trans a4
  have ai:=ae.ext (Ak<|Aq 153 dex) a4
  have aj:=af.ext a4
  have ak:=ag.ext a4
  refine D8 (v:=vk) (a:=cy) (Aq 153 dex) Cc B3 Z (by decide) Z Z ai oM bl oM oM (by rw[List.length_take];omega) (by rw[List.length_take];unfold maxLen;omega) Aa fun cw bo d2 ab am b4=>?_
  have c3:cz.heap.size≤bo.heap.size:=ab.size
  have b5:AD w bo:=ab.below b3 (fun c hc=>zH<|am _ hc) b3.size
  have bm:=aj.chg ab fun hm=>zH<|am _ hm
  have bn:=ak.chg ab fun hm=>zH<|am _ hm
  refine Al (p:=zP w.heap.size) 4 AY Z Z Aa (Bc (k:=4) (w:=bo) Ia Z Z (AV b4.isSlS) bm sM Aa fun cq ac cn au=>?_)
  replace au:BX cq.heap w.heap.size [zI ex.kind,zI ex.num,zI ex.pick,zI ex.count,cw]:=au
  have c4:bo.heap.size≤cq.heap.size:=ac.size
  have bp:AD w cq:=ac.below b5 (fun _ h=>zE h) b5.size
  have bq:=bn.chg ac (zB ·)
  have br:=b4.chg (Ak<|Aq 153 dex) ac fun _ h=>zA h
  exact Ai<|Ab _ [0,0] Z<|AR ((i+1:Nat):Int) Z Z (Bl oM oM) Aa<|Ac 1 Z ⟨(i+1,cw),_,rfl,zR,⟨bp,(by rw[Cn Ex.zero oM];exact br.up (Ak<|Aq 153 dex)),au,bq,oM,oM,oM,oM⟩,zD⟩
 refine AJ false Z Z (A6 ax) Aa<|Ai<|A0<|Aj Z<|A4<|Az<|Az<|Aw<|fC [2,4] Z<|AF (p:=zP w.heap.size) (.inr Z) [zI ex.kind,zI ex.num,zI ex.pick,zI ex.count,vk] AX Z (fun co az=>LD.of_box<|BX.ext (w:=w8) a1 az) Z Aa (B2 (vs:=[zI ex.kind,zI ex.num,zI ex.pick,zI ex.count,vk]) AX Z Z (by intro u hu;simp only[ze,z2,or_false]at hu;rcases hu with rfl|rfl|rfl|rfl|rfl <;> first|exact⟨rfl,rfl⟩|exact AV a5.isSlS) a2 Z Z Aa fun ct an cp av=>?_)
 replace av:BX ct.heap w1.heap.size [zI ex.kind,zI ex.num,zI ex.pick,zI ex.count,vk]:=av
 have c5:w8.heap.size≤ct.heap.size:=an.size
 have bs:AD w ct:=an.below aw (fun _ h=>zE h) aw.size
 have bt:=a5.chg (Ak<|Aq 153 dex) an fun _ h=>zA h
 exact Ai<|A1<|C8 (cs:=[zI ex.kind,zI ex.num,zI ex.pick,zI ex.count,vk]) Z AX Z av Z ⟨vk,rfl,bs,(by have h:=((bt.up<|Ak<|Aq 153 dex).low (B':=w.heap.size) oM);rwa [za oM]at h),hex.rng⟩
theorem Fu (w:World)(dp:Nat)(vp:Value)(p:List Fn)(hp:RP [] dp w.heap vp p)(hz:LF p)(hpl:p.length≤1000000) :
  Calls Tryz.prog 136 #[(.agg #[vp])] w (fun e w'=>∃v,e=.returned (.agg #[v])∧AD w w'∧Fr (CA 3 (KH 153 dp) 49) w.heap.size w'.heap.size w'.heap v p):=by
 refine Au [.agg #[vp]] 45 Tryz.func136 Z Z sM ?_
 have ec:AD w w:=AD.refl w
 have f1:=hp.lenle
 unfold maxLen at f1
 refine fC [3,3] Z (Bv (cs:=#[vp]) Z Aa fun w1 d1 g1 cy=>?_)
 have d2:=d1.size
 have ed:=ec.trans d1
 replace cy:BX w1.heap w.heap.size [vp]:=cy
 have gv:=cy.lt
 refine AU (z:=.agg #[zN]) IJ Aa fun w2 cz g2 d0=>?_
 have d3:=cz.size
 have ee:=ed.trans cz
 have bq:=cy.ext cz
 replace d0:BX w2.heap w1.heap.size [zN]:=d0
 refine Ai<|fC [0,3,4] Z ?_
 have d4:∀(wq:World),(Instr.build 26 #[]).run Tryz.prog wq=.ok (.agg #[zN]) wq:=by intro wq;kernel_rfl
 refine Bh (ps:=#[]) (.agg #[zN]) (by simp only[zc,zf,zh]) (fun wq=>d4  wq) Aa ?_
 have gw:=bq.lt
 have gx:=d0.lt
 refine AU (z:=.agg #[zN]) IJ Aa fun w5 c6 g3 d5=>?_
 have d6:=c6.size
 have d7:=ee.trans c6
 have c7:=bq.ext c6
 have c8:=d0.ext c6
 replace d5:BX w5.heap w2.heap.size [zN]:=d5
 refine B2 (vs:=[zN]) Ba Z Z (by intro u hu;simp only[ze,z2,or_false]at hu;rcases hu with rfl <;> first|exact⟨rfl,rfl⟩) d5 Z Z Aa fun w8 c9 g4 d8=>?_
 replace d8:BX w8.heap w2.heap.size [zN]:=d8
 have g5:w5.heap.size≤w8.heap.size:=c9.size
 have g6:AD w w8:=c9.below d7 (fun _ h=>zE h) d7.size
 have ef:=c7.chg c9 (zB ·)
 have ca:=c8.chg c9 (zB ·)
 refine Ai<|A0<|fC [0,2,0,0] Z<|Al (p:=zP w.heap.size) 0 B8 Z Z Aa<|Ag (p:=Ap (zP w.heap.size) 0) (.inr Z) vp Bt Z (ef.ldp (i:=0) sM) Aa<|AS (v:=vp) Du Z hp.isSl Aa<|Ac 1 Z<|A3 ?_
 refine AW (S:=Nat×Value) (fun⟨i,vq⟩=>([(13,zI (i:Int)),(2,zP w1.heap.size),(3,zP w2.heap.size),(11,vp),(12,zI (p.length:Int))])) (fun⟨i,vq⟩ W=>AD w W∧Fr (CA 3 (KH 153 dp) 49) w8.heap.size W.heap.size W.heap vq (p.take i)∧BX W.heap w1.heap.size [zN]∧BX W.heap w2.heap.size [vq]∧i≤p.length∧w1.heap.size<w8.heap.size∧w2.heap.size<w8.heap.size∧w8.heap.size≤W.heap.size) (fun⟨i,vq⟩=>p.length-i) (0,zN) ⟨rfl,rfl,rfl,rfl,rfl,trivial⟩ ⟨g6,(Cq _ 0 _).up<|Ak<|Am 153 dp,ca,d8,oM,oM,oM,oM⟩ ?_
 clear ec g1 d1 d2 ed g2 cz d3 ee g3 c6 d6 d7 g4 c9 ef ca
 rintro⟨i,vq⟩ ρ13 b2 ⟨b3,a8,a1,a0,d9,eg,eh,ei⟩
 have ej:w.heap.size≤b2.heap.size:=b3.size
 have g7:=a1.lt
 have g8:=a0.lt
 refine fC [0] Z ?_
 by_cases cb:(i:Int)<(p.length:Int)
 ·refine AJ true Z Z (A5 cb) Aa<|Ai<|A0<|Af Z<|A2<|A0<|A3<|fC [0,2,3,4] Z<|AE (v:=vp) i Du BD Z Z hp.isSl Z sD Aa ?_
  obtain⟨cs18,da,db⟩:=hp.get (Av dp) Fn.zero (k:=i) sD
  obtain⟨aa,rfl,al⟩:=RF.of da
  have br:=al.rn.lenle
  unfold maxLen at br
  refine AF (p:=AA vp i 3) (.inr Z) [.string<|(p.getD i Fn.zero).name,zI<|(p.getD i Fn.zero).params,aa] DS Z (fun dx b8=>db dx<|Ax.of_ext []<|b3.trans b8) Z Aa ?_
  have g9:=a1.lt
  have ga:=a0.lt
  refine AU (z:=.agg #[.string ByteArray.empty,zI 0,zN]) MK Aa fun fx am dc bs=>?_
  have cc:=am.size
  have bt:=b3.trans am
  have a5:=a8.ext (Ak<|Am 153 dp) am
  have a6:=a1.ext am
  have a7:=a0.ext am
  replace bs:BX fx.heap b2.heap.size [.string ByteArray.empty,zI 0,zN]:=bs
  refine B2 (vs:=[.string<|(p.getD i Fn.zero).name,zI<|(p.getD i Fn.zero).params,aa]) DS Z Z al.ones bs Z Z Aa fun bh an dd ao=>?_
  replace ao:BX bh.heap b2.heap.size [.string ((p.getD i Fn.zero).name),zI ((p.getD i Fn.zero).params),aa]:=ao
  have cd:fx.heap.size≤bh.heap.size:=an.size
  have ce:AD w bh:=an.below bt (fun _ h=>zE h) bt.size
  have cf:=a5.chg (Ak<|Am 153 dp) an fun _ h=>zA h
  have bu:=a6.chg an (zB ·)
  have bv:=a7.chg an (zB ·)
  refine Ai<|fC [0,2,0,2,0,3,4] Z<|Al (p:=zP b2.heap.size) 0 EF Z Z Aa<|Ag (p:=Ap (zP b2.heap.size) 0) (.inr Z) (.string<|(p.getD i Fn.zero).name) K1 Z (ao.ldp (i:=0) sM) Aa<|Al (p:=zP b2.heap.size) 1 BI Z Z Aa<|Ag (p:=Ap (zP b2.heap.size) 1) (.inr Z) (zI<|(p.getD i Fn.zero).params) AI Z (ao.ldp (i:=1) sM) Aa ?_
  have cg:∀(wq:World),(Instr.build 49 #[(0,.string ((p.getD i Fn.zero).name)),(1,zI ((p.getD i Fn.zero).params))]).run Tryz.prog wq=.ok (.agg #[.string ((p.getD i Fn.zero).name),zI ((p.getD i Fn.zero).params),zN]) wq:=by intro wq;kernel_rfl
  refine Bh (ps:=#[(0,.string<|(p.getD i Fn.zero).name),(1,zI<|(p.getD i Fn.zero).params)]) (.agg #[.string<|(p.getD i Fn.zero).name,zI<|(p.getD i Fn.zero).params,zN]) (by simp only[zc,zf,zh];rfl) (fun wq=>cg  wq) Aa ?_
  have gb:=bu.lt
  have gc:=bv.lt
  have gd:=ao.lt
  refine AU (z:=.agg #[.string ByteArray.empty,zI 0,zN]) MK Aa fun gp ac de bw=>?_
  have ch:=ac.size
  have bx:=ce.trans ac
  have ai:=cf.ext (Ak<|Am 153 dp) ac
  have aj:=bu.ext ac
  have ak:=bv.ext ac
  have b9:=ao.ext ac
  replace bw:BX gp.heap bh.heap.size [.string ByteArray.empty,zI 0,zN]:=bw
  refine B2 (vs:=[.string<|(p.getD i Fn.zero).name,zI<|(p.getD i Fn.zero).params,zN]) DS Z Z (by intro u hu;simp only[ze,z2,or_false]at hu;rcases hu with rfl|rfl|rfl <;> first|exact⟨rfl,rfl⟩) bw Z Z Aa fun bn ad df bz=>?_
  replace bz:BX bn.heap bh.heap.size [.string ((p.getD i Fn.zero).name),zI ((p.getD i Fn.zero).params),zN]:=bz
  have ek:gp.heap.size≤bn.heap.size:=ad.size
  have dg:AD w bn:=ad.below bx (fun _ h=>zE h) bx.size
  have ci:=ai.chg (Ak<|Am 153 dp) ad fun _ h=>zA h
  have cj:=aj.chg ad (zB ·)
  have ck:=ak.chg ad (zB ·)
  have cl:=b9.chg ad (zB ·)
  refine Ai<|A0<|fC [0,2,0,0] Z<|Al (p:=zP b2.heap.size) 2 Br Z Z Aa<|Ag (p:=Ap (zP b2.heap.size) 2) (.inr Z) aa B7 Z (cl.ldp (i:=2) sM) Aa<|AS (v:=aa) Cc Z al.rn.isSl Aa<|Ac 1 Z<|A3 ?_
  refine AW (S:=Nat×Value) (fun⟨k,vo⟩=>([(25,zI (k:Int)),(2,zP w1.heap.size),(3,zP w2.heap.size),(6,zP bh.heap.size),(11,vp),(12,zI (p.length:Int)),(13,zI (i:Int)),(23,aa),(24,zI ((((p.getD i Fn.zero).outs).length:Nat):Int))])) (fun⟨k,vo⟩ W=>AD w W∧Fr (CA 5 (Ga 153 dp) 153) bn.heap.size W.heap.size W.heap vo ((p.getD i Fn.zero).outs.take k)∧Fr (CA 3 (KH 153 dp) 49) w8.heap.size b2.heap.size W.heap vq (p.take i)∧BX W.heap w1.heap.size [zN]∧BX W.heap w2.heap.size [vq]∧BX W.heap bh.heap.size [.string<|(p.getD i Fn.zero).name,zI<|(p.getD i Fn.zero).params,vo]∧k≤(p.getD i Fn.zero).outs.length∧b2.heap.size≤bn.heap.size∧b2.heap.size≤bh.heap.size∧w.heap.size≤w8.heap.size∧w1.heap.size<bn.heap.size∧w2.heap.size<bn.heap.size∧bh.heap.size<bn.heap.size∧bn.heap.size≤W.heap.size∧w8.heap.size≤W.heap.size) (fun⟨k,vo⟩=>(p.getD i Fn.zero).outs.length-k) (0,zN) ⟨rfl,rfl,rfl,rfl,rfl,rfl,rfl,rfl,rfl,trivial⟩ ⟨dg,(Cq _ 0 _).up<|Ak<|Aq 153 dp,ci,cj,ck,bz,oM,oM,oM,oM,oM,oM,oM,oM,oM⟩ ?_
  clear a0 a1 a8 br dc am cc bt a5 a6 a7 dd an cd ce cf bu bv de ac ch bx ai aj ak df ad ci cj ck cl
  rintro⟨k,vo⟩ ρ39 f2 ⟨ba,b4,b5,a9,a2,a3,dh,huw,huf,hwb,el,em,en,eo,ep⟩
  have eq:w.heap.size≤f2.heap.size:=ba.size
  have ge:=a9.lt
  have gf:=a2.lt
  have gg:=a3.lt
  refine fC [0] Z ?_
  have hzi:=hz i oM
  by_cases cm:(k:Int)<((((p.getD i Fn.zero).outs).length:Nat):Int)
  ·refine AJ true Z Z (A5 cm) Aa<|Ai<|A0<|Af Z<|A2<|A0<|A3<|fC [0,2,3,4] Z<|AE (v:=aa) k Cc B3 Z Z al.rn.isSl Z sD Aa ?_
   obtain⟨cs46,di,dj⟩:=al.rn.get (Ay dp) Ex.zero (k:=k) sD
   obtain⟨dd46,ap,gh,rfl,c0⟩:=RX.of di
   have cn:=c0.rn.lenle
   unfold maxLen at cn
   refine AF (p:=AA aa k 5) (.inr Z) [zI<|(((p.getD i Fn.zero).outs).getD k Ex.zero).kind,zI<|(((p.getD i Fn.zero).outs).getD k Ex.zero).num,zI<|(((p.getD i Fn.zero).outs).getD k Ex.zero).pick,zI<|(((p.getD i Fn.zero).outs).getD k Ex.zero).count,ap] AX Z (fun dx b8=>dj dx<|Ax.of_ext []<|ba.trans b8) Z Aa ?_
   have gi:=a9.lt
   have gj:=a2.lt
   have gk:=a3.lt
   refine AU (z:=.agg #[zI 0,zI 0,zI 0,zI 0,zN]) Ec Aa fun gs ae gl c1=>?_
   have er:=ae.size
   have co:=ba.trans ae
   have aq:=b4.ext (Ak<|Aq 153 dp) ae
   have ar:=b5.ext (Ak<|Am 153 dp) ae
   have au:=a9.ext ae
   have av:=a2.ext ae
   have aw:=a3.ext ae
   replace c1:BX gs.heap f2.heap.size [zI 0,zI 0,zI 0,zI 0,zN]:=c1
   refine B2 (vs:=[zI<|(((p.getD i Fn.zero).outs).getD k Ex.zero).kind,zI<|(((p.getD i Fn.zero).outs).getD k Ex.zero).num,zI<|(((p.getD i Fn.zero).outs).getD k Ex.zero).pick,zI<|(((p.getD i Fn.zero).outs).getD k Ex.zero).count,ap]) AX Z Z c0.ones c1 Z Z Aa fun e6 af gm bb=>?_
   replace bb:BX e6.heap f2.heap.size [zI ((((p.getD i Fn.zero).outs).getD k Ex.zero).kind),zI ((((p.getD i Fn.zero).outs).getD k Ex.zero).num),zI ((((p.getD i Fn.zero).outs).getD k Ex.zero).pick),zI ((((p.getD i Fn.zero).outs).getD k Ex.zero).count),ap]:=bb
   have es:gs.heap.size≤e6.heap.size:=af.size
   have cp:AD w e6:=af.below co (fun _ h=>zE h) co.size
   have dk:=aq.chg (Ak<|Aq 153 dp) af fun _ h=>zA h
   have dl:=ar.chg (Ak<|Am 153 dp) af fun _ h=>zA h
   have dm:=au.chg af (zB ·)
   have dn:=av.chg af (zB ·)
   have cq:=aw.chg af (zB ·)
   refine Ai<|AQ _ [0,1,1,3,3,4,0,4] mixed (by kernel_rfl) ?_
   have hzi:=hz i oM
   have hsa:=EY (l:=(p.getD i Fn.zero).outs) (k:=k) oM
   refine Al (p:=zP bh.heap.size) 2 Br Z Z Aa<|Ag (p:=Ap (zP bh.heap.size) 2) (.inl Z) vo B7 Z (cq.ldp (i:=2) sM) Aa<|AF (p:=zP f2.heap.size) (.inl Z) [zI<|(((p.getD i Fn.zero).outs).getD k Ex.zero).kind,zI<|(((p.getD i Fn.zero).outs).getD k Ex.zero).num,zI<|(((p.getD i Fn.zero).outs).getD k Ex.zero).pick,zI<|(((p.getD i Fn.zero).outs).getD k Ex.zero).count,ap] AX Z (fun dx b8=>LD.of_box<|BX.ext (w:=e6.drew) bb b8) Z Aa ?_
   refine At 202 [] [] [.agg #[zI<|(((p.getD i Fn.zero).outs).getD k Ex.zero).kind,zI<|(((p.getD i Fn.zero).outs).getD k Ex.zero).num,zI<|(((p.getD i Fn.zero).outs).getD k Ex.zero).pick,zI<|(((p.getD i Fn.zero).outs).getD k Ex.zero).count,ap]] Z Z Y2 Aa (KD _ dd46 ap (((p.getD i Fn.zero).outs).getD k Ex.zero) (c0.ext cp.drew) oM) ?_
   rintro i4 i5 ⟨gz,rfl,a4,c2,dq⟩
   refine⟨_,rfl,a4,?_⟩
   replace a4:=a4.of_drew
   have et:=a4.size
   have dr:=cp.trans a4
   have bc:=dk.ext (Ak<|Aq 153 dp) a4
   have bd:=dl.ext (Ak<|Am 153 dp) a4
   have be:=dm.ext a4
   have bf:=dn.ext a4
   have bg:=cq.ext a4
   replace c2:=c2.low (B':=e6.heap.size)<|A7 _
   refine Cw (cs:=[zI<|(((p.getD i Fn.zero).outs).getD k Ex.zero).kind,zI<|(((p.getD i Fn.zero).outs).getD k Ex.zero).num,zI<|(((p.getD i Fn.zero).outs).getD k Ex.zero).pick,zI<|(((p.getD i Fn.zero).outs).getD k Ex.zero).count,gz]) (y:=((p.getD i Fn.zero).outs).getD k Ex.zero) (B:=e6.heap.size) (Aq 153 dp) Cc B3 Z (by decide) Z (Gg.le (Gg.mk2 dq c2) oM) oM Aa fun i0 i1 ab gn ds=>?_
   have eu:=ab.size
   have cr:=dr.trans ab
   have bi:=bc.ext (Ak<|Aq 153 dp) ab
   have bj:=bd.ext (Ak<|Am 153 dp) ab
   have bk:=be.ext ab
   have bl:=bf.ext ab
   have bm:=bg.ext ab
   refine D8 (v:=vo) (a:=i0) (Aq 153 dp) Cc B3 Z (by decide) Z Z bi oM ds oM oM (by rw[List.length_take];omega) (by rw[List.length_take];unfold maxLen;omega) Aa fun gu f3 i6 ag ax ct=>?_
   have ev:i1.heap.size≤f3.heap.size:=ag.size
   have cu:AD w f3:=ag.below cr (fun c hc=>zH<|ax _ hc) cr.size
   have dt:=bj.chg (Ak<|Am 153 dp) ag fun c hc=>zH<|ax _ hc
   have du:=bk.chg ag fun hm=>zH<|ax _ hm
   have dv:=bl.chg ag fun hm=>zH<|ax _ hm
   have dw:=bm.chg ag fun hm=>zH<|ax _ hm
   refine Al (p:=zP bh.heap.size) 2 Br Z Z Aa (Bc (k:=2) (w:=f3) Ia Z Z (AV ct.isSlS) dw sM Aa fun fe ah go c3=>?_)
   replace c3:BX fe.heap bh.heap.size [.string ((p.getD i Fn.zero).name),zI ((p.getD i Fn.zero).params),gu]:=c3
   have ew:f3.heap.size≤fe.heap.size:=ah.size
   have dy:AD w fe:=ah.below cu (fun _ h=>zE h) cu.size
   have dz:=dt.chg (Ak<|Am 153 dp) ah fun _ h=>zA h
   have e0:=du.chg ah (zB ·)
   have e1:=dv.chg ah (zB ·)
   have e2:=ct.chg (Ak<|Aq 153 dp) ah fun _ h=>zA h
   exact Ai<|Ab _ [0,0] Z<|AR ((k+1:Nat):Int) Z Z (Bl oM oM) Aa<|Ac 1 Z ⟨(k+1,gu),_,rfl,zR,⟨dy,(by rw[Cn Ex.zero oM];exact e2.up (Ak<|Aq 153 dp)),dz,e0,e1,c3,oM,oM,oM,oM,oM,oM,oM,oM,oM⟩,zD⟩
  refine AJ false Z Z (A6 cm) Aa<|Ai<|A0<|Aj Z<|A4<|Az<|Az<|Aw<|Ab _ [0,2,2,3,4,0,4] Z<|Al (p:=zP w2.heap.size) 0 B8 Z Z Aa<|Ag (p:=Ap (zP w2.heap.size) 0) (.inr Z) vq Bt Z (a2.ldp (i:=0) sM) Aa<|AF (p:=zP bh.heap.size) (.inr Z) [.string<|(p.getD i Fn.zero).name,zI<|(p.getD i Fn.zero).params,vo] DS Z (fun dx b8=>LD.of_box<|BX.ext (w:=f2) a3 b8) Z Aa ?_
  refine Cw (cs:=[.string<|(p.getD i Fn.zero).name,zI<|(p.getD i Fn.zero).params,vo]) (y:=Fn.mk ((p.getD i Fn.zero).name) ((p.getD i Fn.zero).params)<|(p.getD i Fn.zero).outs.take k) (B:=bn.heap.size) (Am 153 dp) Du BD Z (by decide) Z (Gg.mkF (x:=⟨(p.getD i Fn.zero).name,(p.getD i Fn.zero).params,(p.getD i Fn.zero).outs.take k⟩) (Ja (a:=(p.getD i Fn.zero).params) al.rng) b4) oM Aa fun i2 i3 ay gq e3=>?_
  have ex:=ay.size
  have cv:=ba.trans ay
  have az:=b5.ext (Ak<|Am 153 dp) ay
  have b0:=a9.ext ay
  have b1:=a2.ext ay
  refine D8 (v:=vq) (a:=i2) (Am 153 dp) Du BD Z (by decide) Z Z az oM e3 oM oM (by rw[List.length_take];omega) (by rw[List.length_take];unfold maxLen;omega) Aa fun gy f9 i7 b6 bo cw=>?_
  have ey:i3.heap.size≤f9.heap.size:=b6.size
  have cx:AD w f9:=b6.below cv (fun c hc=>zH<|bo _ hc) cv.size
  have e4:=b0.chg b6 fun hm=>zH<|bo _ hm
  have e5:=b1.chg b6 fun hm=>zH<|bo _ hm
  refine Al (p:=zP w2.heap.size) 0 B8 Z Z Aa (Bc (k:=0) (w:=f9) PX Z Z (AV cw.isSlS) e5 sM Aa fun fr b7 gr c4=>?_)
  replace c4:BX fr.heap w2.heap.size [gy]:=c4
  have ez:f9.heap.size≤fr.heap.size:=b7.size
  have e7:AD w fr:=b7.below cx (fun _ h=>zE h) cx.size
  have e8:=e4.chg b7 (zB ·)
  have e9:=cw.chg (Ak<|Am 153 dp) b7 fun _ h=>zA h
  exact Ai<|Ab _ [0,0] Z<|AR ((i+1:Nat):Int) Z Z (Bl oM oM) Aa<|Ac 1 Z ⟨(i+1,gy),_,rfl,zR,⟨e7,(by have h:=e9.up (Ak<|Am 153 dp);rw[show(p.getD i Fn.zero).outs.take k=(p.getD i Fn.zero).outs from za oM]at h;rw[Cn Fn.zero oM];exact h),e8,c4,oM,oM,oM,oM⟩,zD⟩
 refine AJ false Z Z (A6 cb) Aa<|Ai<|A0<|Aj Z<|A4<|Az<|Az<|Aw<|fC [2,4] Z<|AF (p:=zP w2.heap.size) (.inr Z) [vq] Ba Z (fun dx b8=>LD.of_box<|BX.ext (w:=b2) a0 b8) Z Aa (B2 (vs:=[vq]) Ba Z Z (by intro u hu;simp only[ze,z2,or_false]at hu;rcases hu with rfl <;> first|exact⟨rfl,rfl⟩|exact AV a8.isSlS) a1 Z Z Aa fun fs bp gt c5=>?_)
 replace c5:BX fs.heap w1.heap.size [vq]:=c5
 have g0:b2.heap.size≤fs.heap.size:=bp.size
 have ea:AD w fs:=bp.below b3 (fun _ h=>zE h) b3.size
 have eb:=a8.chg (Ak<|Am 153 dp) bp fun _ h=>zA h
 exact Ai<|A1<|C8 (cs:=[vq]) Z Ba Z c5 Z ⟨vq,rfl,ea,(by have h:=((eb.up<|Ak<|Am 153 dp).low (B':=w.heap.size) oM);rwa [za oM]at h)⟩
theorem HJ (w:World)(n:Int)(_hn:BG n)  :
  Calls Tryz.prog 135 #[zI n] w (fun e w'=>e=.returned (.agg #[zI 2,zI n,zI 0,zI 0,zN])∧AD w w'):=by
 refine Au [zI n] 5 Tryz.func135 Z Z sM ?_
 have a6:AD w w:=AD.refl w
 refine fC [3] Z (AU (z:=.agg #[zI 0,zI 0,zI 0,zI 0,zN]) Ec Aa fun w1 a3 aa a0=>?_)
 have a7:=a3.size
 have a4:=a6.trans a3
 replace a0:BX w1.heap w.heap.size [zI 0,zI 0,zI 0,zI 0,zN]:=a0
 refine Ai<|fC [0,0,4] Z<|Ad 1 Z ?_
 have a1:∀(wq:World),(Instr.build 153 #[(0,zI ((2:Nat):Int)),(1,zI n)]).run Tryz.prog wq=.ok (.agg #[zI ((2:Nat):Int),zI n,zI 0,zI 0,zN]) wq:=by intro wq;kernel_rfl
 refine Bh (ps:=#[(0,zI ((2:Nat):Int)),(1,zI n)]) (.agg #[zI ((2:Nat):Int),zI n,zI 0,zI 0,zN]) (by simp only[zc,zf,zh];rfl) (fun wq=>a1  wq) Aa (B2 (vs:=[zI ((2:Nat):Int),zI n,zI 0,zI 0,zN]) AX Z Z (by intro u hu;simp only[ze,z2,or_false]at hu;rcases hu with rfl|rfl|rfl|rfl|rfl <;> first|exact⟨rfl,rfl⟩) a0 Z Z Aa fun w3 a5 ab a2=>?_)
 replace a2:BX w3.heap w.heap.size [zI ((2:Nat):Int),zI n,zI 0,zI 0,zN]:=a2
 have a8:w1.heap.size≤w3.heap.size:=a5.size
 have a9:AD w w3:=a5.below a4 (fun _ h=>zE h) a4.size
 exact Ai<|A1<|C8 (cs:=[zI ((2:Nat):Int),zI n,zI 0,zI 0,zN]) Z AX Z a2 Z ⟨rfl,a9⟩
theorem Gm (w:World)(dx:Nat)(vo:Value)(x:Fn)(hx:RF [] dx w.heap vo x)  :
  Calls Tryz.prog 134 #[(.agg #[(.string x.name),(zI x.params),vo])] w (fun e w'=>e=.returned (.bool (DA x.name (⟨#[108,111,111,112]⟩:ByteArray)))∧AD w w'):=by
 refine Au [.agg #[.string x.name,zI x.params,vo]] 6 Tryz.func134 Z Z sM ?_
 have a2:AD w w:=AD.refl w
 have a6:=hx.rn.lenle
 unfold maxLen at a6
 refine fC [3,0] Z (Bv (cs:=#[.string x.name,zI x.params,vo]) Z Aa fun w1 a1 a5 a0=>?_)
 have a3:=a1.size
 have a4:=a2.trans a1
 replace a0:BX w1.heap w.heap.size [.string x.name,zI x.params,vo]:=a0
 exact Ac 1 Z<|fC [0,2,0,0] Z<|Al (p:=zP w.heap.size) 0 EF Z Z Aa<|Ag (p:=Ap (zP w.heap.size) 0) (.inr Z) (.string x.name) K1 Z (a0.ldp (i:=0) sM) Aa<|Ke (DA x.name<|⟨#[108,111,111,112]⟩) u9 Z Z Z Aa<|Ac 1 Z<|A1<|Ah [2] Z (.bool<|DA x.name<|⟨#[108,111,111,112]⟩) Z ⟨rfl,a4⟩
theorem Yp {p:Prop}(h:p:=by intro u hu;simp only[ze,z2,or_false]at hu;rcases hu with rfl|rfl|rfl|rfl|rfl <;> first|exact⟨rfl,rfl⟩):p:=h
theorem Yq {p:Prop}(h:p:=by intro u hu;simp only[ze,z2,or_false]at hu;rcases hu with rfl|rfl|rfl <;> first|exact⟨rfl,rfl⟩):p:=h
theorem HK {p:Prop}(h:p:=by intro u hu;simp only[ze,z2,or_false]at hu;rcases hu with rfl <;> first|exact⟨rfl,rfl⟩):p:=h
theorem MA {p:Prop}(h:p:=by simp only[zc,zf,zh];rfl):p:=h
theorem HL {p:Prop}(h:p:=by simp only[zc,zf,zh]):p:=h
theorem HM {p:Prop}(h:p:=by rw[aR (by rw[hcd];omega)];exact Cq _ _ _):p:=h
theorem AC {p:Prop}(h:p:=by assumption):p:=h
theorem H5 {p:Prop}(h:p:=by decide):p:=h
theorem L3 (w:World)(dp:Nat)(vp:Value)(p:List Fn)(f:Int)(n:Int)(hp:RP [] dp w.heap vp p)(_hf:BG f)(_hn:BG n)(hz:LF p)(hdp:2≤dp) :
  Calls Tryz.prog 51 #[(.agg #[vp]),zI f,zI n] w (fun e w'=>∃v,e=.returned (.tuple #[.agg #[v],zI (H0 p f n)])∧AD w w'∧Fr (CA 3 (KH 153 dp) 49) w.heap.size w'.heap.size w'.heap v (ZG p f n)):=by
 refine Au [.agg #[vp],zI f,zI n] 86 Tryz.func51 Z Z sM ?_
 have m1:AD w w:=AD.refl w
 have pn:=hp.lenle
 unfold maxLen at pn
 refine fC [3,3,0] Z (Bv (cs:=#[vp]) Z Aa fun w1 lw oj lx=>?_)
 have jc:=lw.size
 have m2:=m1.trans lw
 replace lx:BX w1.heap w.heap.size [vp]:=lx
 have rm:=lx.lt
 refine AU (z:=.agg #[zN]) IJ Aa fun w2 jd ol m3=>?_
 have je:=jd.size
 have ly:=m2.trans jd
 have gp:=lx.ext jd
 replace m3:BX w2.heap w1.heap.size [zN]:=m3
 refine Ac 1 Z<|fC [2,0,3,0] Z ?_
 have jf:RN [] (Bd (Bd rI)) w2.heap zN ([]:List Sr):=VS
 have m4:Cs zN:=A7 _
 refine AF (p:=zP w.heap.size) (.inr Z) [vp] Ba Z (fun f2 b1=>LD.of_box<|BX.ext (w:=w2) gp b1) Z Aa<|Ad 1 Z<|At 125 [] [] [.agg #[vp],zI f,zN] Z Z Ux Aa (EG _ dp vp (p) _ zN ([]:List Sr) (hp.ext (An<|Av dp) ly) _hf jf m4 hz) ?_
 rintro e5 w5 ⟨rfl,gq⟩
 refine⟨_,rfl,gq,?_⟩
 have jg:=gq.size
 have ed:=ly.trans gq
 have ak:=gp.ext gq
 have bx:=m3.ext gq
 refine Ac 1 Z<|A0<|fC [0,0,0,0,0,0,0] Z ?_
 have hcr:=Iu p f []
 refine Ad 1 Z ?_
 by_cases om:DO p f ([]:List Sr)=((0:Nat):Int)
 ·refine As true Z Z (A5 om) Aa<|Ad 2 Z<|AG 117 [] [] [zI n,zI ((0:Nat):Int),zI ((8:Nat):Int)] Z Z D2 (Ae (e:=19) Z Z Z) (.bool (decide (((0:Nat):Int)≤n) && decide (n≤((8:Nat):Int)))) (fun wq=>B4 wq _ _ _ _hn oM oM)<|Bq (!(decide (((0:Nat):Int)≤n) && decide (n≤((8:Nat):Int)))) Z Z (Ae (e:=19) Z Z Z)<|Ac 1 Z ?_
  cases on:(!(decide (((0:Nat):Int)≤n) && decide (n≤((8:Nat):Int))))
  ·refine Aj (by first|rfl|exact zW on)<|A2<|A0<|fC [0,0] Z<|Ad 1 Z ?_
   by_cases jh:DO p f ([]:List Sr)≠((0:Nat):Int)
   ·refine AT true Z Z (A5 jh) Aa<|Ai<|Af Z<|fC [0,0,4,0] Z ?_
    have ji:∀(wq:World),(Instr.build 26 #[]).run Tryz.prog wq=.ok (.agg #[zN]) wq:=by intro wq;kernel_rfl
    refine Bh (ps:=#[]) (.agg #[zN]) HL (fun wq=>ji  wq) Aa<|Ad 1 Z (B2 (vs:=[zN]) Ba Z Z HK bx Z Z Aa fun qs ie qv ig=>?_)
    replace ig:BX qs.heap w1.heap.size [zN]:=ig
    have oo:w5.heap.size≤qs.heap.size:=ie.size
    have m5:AD w qs:=ie.below ed (fun _ h=>zE h) ed.size
    refine Ac 1 Z<|A1<|Ao ?_
    have hcd:H0 p f n=DO p f ([]:List Sr):=by first|exact Ft a0 AC|exact Di a0 AC (Bz AC)|exact Di a0 AC AC|exact Dt a0 AC (By AC)|exact Dt a0 AC AC|exact D1 oM (Bz AC)|exact D0 oM
    exact BV (t0:=7) (ts:=[]) (cs:=[zN]) [zI<|DO p f ([]:List Sr)] Z Ba Z ig Z Z ⟨_,by rw[hcd],m5,HM⟩
   refine AT false Z Z (A6 jh) Aa<|Ai<|Aj Z<|A2<|A0<|fC [0,2,3] Z ?_
   have a0:MJ p f n=0:=by first|exact Us oM (By AC)|(exfalso;omega)
   have ih:=Ru a0
   have qx:=Gk.1 ih.2.1
   have l2:=CM ih.1
   have hpl:=NJ ih.1
   have hpar:=l2.par f.toNat oM
   have s0:=l2.outs f.toNat oM
   have hft:(f.toNat:Int)=f:=by omega
   have hnt:(n.toNat:Int)=n:=by omega
   have hszx:=hz.lp (n:=n) l2 (f:=f) oM
   refine Al (p:=zP w.heap.size) 0 B8 Z Z Aa<|Ag (p:=Ap (zP w.heap.size) 0) (.inr Z) vp Bt Z (ak.ldp (i:=0) sM) Aa<|At 133 [] [] [vp,.func (.func 134) #[] #[]] Z Z Uy Aa (BE _ dp vp (p) 134 [] [] (fun g:Fn=>DA g.name (⟨#[108,111,111,112]⟩:ByteArray)) (hp.ext (An<|Av dp) ed) XS fun d9 u x w1 hx hw=>Gm w1 d9 u x hx) ?_
   rintro sg e2 ⟨rfl,de⟩
   refine⟨_,rfl,de,?_⟩
   have jj:=de.size
   have df:=ed.trans de
   have bp:=ak.ext de
   have cq:=bx.ext de
   refine Ai ?_
   cases jk:(p.any (fun g:Fn=>DA g.name (⟨#[108,111,111,112]⟩:ByteArray)))
   ·refine Aj (by first|rfl|exact zW jk)<|A2<|fC [0,2,0,0,0,2,0,3,4] Z<|Al (p:=zP w.heap.size) 0 B8 Z Z Aa<|Ag (p:=Ap (zP w.heap.size) 0) (.inr Z) vp Bt Z (bp.ldp (i:=0) sM) Aa<|Ad 1 Z<|AE (v:=vp) ((f).toNat) Du BD Z Z hp.isSl oM sD Aa ?_
    obtain⟨cs16,m6,gc⟩:=hp.get (Av dp) Fn.zero (k:=(f).toNat) sD
    obtain⟨jl,rfl,ii⟩:=RF.of m6
    have gr:=ii.rn.lenle
    unfold maxLen at gr
    refine AB (p:=AA vp ((f).toNat) 3) 1 BI Z (gc _<|Ax.of_ext [] df) Aa<|Ag (p:=Ap (AA vp ((f).toNat) 3) 1) (.inr Z) (zI<|(p.getD ((f).toNat) Fn.zero).params) AI Z ((gc _<|Ax.of_ext [] df).ld (i:=1) (by simp[DT,E2])) Aa ?_
    have jm:∀(wq:World),(Instr.build 49 #[(0,.string (⟨#[108,111,111,112]⟩)),(1,zI ((p.getD ((f).toNat) Fn.zero).params))]).run Tryz.prog wq=.ok (.agg #[.string (⟨#[108,111,111,112]⟩),zI ((p.getD ((f).toNat) Fn.zero).params),zN]) wq:=by intro wq;kernel_rfl
    refine Bh (ps:=#[(0,.string<|⟨#[108,111,111,112]⟩),(1,zI<|(p.getD ((f).toNat) Fn.zero).params)]) (.agg #[.string<|⟨#[108,111,111,112]⟩,zI<|(p.getD ((f).toNat) Fn.zero).params,zN]) MA (fun wq=>jm  wq) Aa ?_
    have qy:=bp.lt
    have qz:=cq.lt
    refine AU (z:=.agg #[.string ByteArray.empty,zI 0,zN]) MK Aa fun ru ee m7 ij=>?_
    have jn:=ee.size
    have ik:=df.trans ee
    have il:=bp.ext ee
    have im:=cq.ext ee
    replace ij:BX ru.heap e2.heap.size [.string ByteArray.empty,zI 0,zN]:=ij
    refine B2 (vs:=[.string<|⟨#[108,111,111,112]⟩,zI<|(p.getD ((f).toNat) Fn.zero).params,zN]) DS Z Z Yq ij Z Z Aa fun e8 ef m8 io=>?_
    replace io:BX e8.heap e2.heap.size [.string (⟨#[108,111,111,112]⟩),zI ((p.getD ((f).toNat) Fn.zero).params),zN]:=io
    have op:ru.heap.size≤e8.heap.size:=ef.size
    have ip:AD w e8:=ef.below ik (fun _ h=>zE h) ik.size
    have iq:=il.chg ef (zB ·)
    have jo:=im.chg ef (zB ·)
    refine Ai<|A0<|fC [0,2,0,0,0,2,0,0] Z<|Al (p:=zP w.heap.size) 0 B8 Z Z Aa<|Ag (p:=Ap (zP w.heap.size) 0) (.inr Z) vp Bt Z (iq.ldp (i:=0) sM) Aa<|Ad 1 Z<|AE (v:=vp) ((f).toNat) Du BD Z Z hp.isSl oM sD Aa ?_
    refine AB (p:=AA vp ((f).toNat) 3) 2 Br Z (gc _<|Ax.of_ext [] ip) Aa<|Ag (p:=Ap (AA vp ((f).toNat) 3) 2) (.inr Z) jl B7 Z ((gc _<|Ax.of_ext [] ip).ld (i:=2) (by simp[DT,E2])) Aa<|AS (v:=jl) Cc Z ii.rn.isSl Aa<|Ac 1 Z<|A3 ?_
    refine AW (S:=Nat×Value) (fun⟨k,vo⟩=>([(46,zI (k:Int)),(1,zI f),(2,zI n),(3,zP w.heap.size),(6,zP w1.heap.size),(9,zP e2.heap.size),(45,zI ((((p.getD ((f).toNat) Fn.zero).outs).length:Nat):Int))])) (fun⟨k,vo⟩ W=>AD w W∧Fr (CA 5 (Ga 153 dp) 153) e8.heap.size W.heap.size W.heap vo (Cy f.toNat (p.getD f.toNat Fn.zero).params.toNat n.toNat 0 k)∧BX W.heap w.heap.size [vp]∧BX W.heap w1.heap.size [zN]∧BX W.heap e2.heap.size [.string<|⟨#[108,111,111,112]⟩,zI<|(p.getD ((f).toNat) Fn.zero).params,vo]∧k≤(p.getD f.toNat Fn.zero).outs.length∧w.heap.size<e8.heap.size∧w1.heap.size<e8.heap.size∧e2.heap.size<e8.heap.size∧e8.heap.size≤W.heap.size) (fun⟨k,vo⟩=>(p.getD f.toNat Fn.zero).outs.length-k) (0,zN) ⟨rfl,rfl,rfl,rfl,rfl,rfl,rfl,trivial⟩ ⟨ip,(Cq _ 0 _).up<|Ak<|Aq 153 dp,iq,jo,io,oM,oM,oM,oM,oM⟩ ?_
    clear m1 oj lw jc m2 ol jd je ly gq jg ed de jj df gr m7 ee jn ik m8 ef iq jo
    rintro⟨k,vo⟩ ρ27 cm ⟨gd,cr,a6,al,am,m9,oq,or,os,ot⟩
    have ou:w.heap.size≤cm.heap.size:=gd.size
    have r0:=a6.lt
    have r1:=al.lt
    have r2:=am.lt
    refine fC [0] Z ?_
    by_cases jp:(k:Int)<((((p.getD ((f).toNat) Fn.zero).outs).length:Nat):Int)
    ·refine AJ true Z Z (A5 jp) Aa<|Ai<|A0<|Af Z<|A2<|A0<|A3<|fC [0,0] Z<|Ac 2 Z<|fC [0,0,0,0,3,4] Z<|Ad 3 Z ?_
     have jq:∀(wq:World),(Instr.build 153 #[(0,zI ((11:Nat):Int)),(1,zI f),(2,zI (k:Int)),(3,zI n)]).run Tryz.prog wq=.ok (.agg #[zI ((11:Nat):Int),zI f,zI (k:Int),zI n,zN]) wq:=by intro wq;kernel_rfl
     refine Bh (ps:=#[(0,zI ((11:Nat):Int)),(1,zI f),(2,zI (k:Int)),(3,zI n)]) (.agg #[zI ((11:Nat):Int),zI f,zI (k:Int),zI n,zN]) MA (fun wq=>jq  wq) Aa ?_
     have r3:=a6.lt
     have r4:=al.lt
     have r5:=am.lt
     refine AU (z:=.agg #[zI 0,zI 0,zI 0,zI 0,zN]) Ec Aa fun rv ct ma ir=>?_
     have jr:=ct.size
     have is:=gd.trans ct
     have b2:=cr.ext (Ak<|Aq 153 dp) ct
     have b3:=a6.ext ct
     have b4:=al.ext ct
     have b5:=am.ext ct
     replace ir:BX rv.heap cm.heap.size [zI 0,zI 0,zI 0,zI 0,zN]:=ir
     refine B2 (vs:=[zI ((11:Nat):Int),zI f,zI (k:Int),zI n,zN]) AX Z Z Yp ir Z Z Aa fun f1 cu mb it=>?_
     replace it:BX f1.heap cm.heap.size [zI ((11:Nat):Int),zI f,zI (k:Int),zI n,zN]:=it
     have ov:rv.heap.size≤f1.heap.size:=cu.size
     have mc:AD w f1:=cu.below is (fun _ h=>zE h) is.size
     have js:=b2.chg (Ak<|Aq 153 dp) cu fun _ h=>zA h
     have jt:=b3.chg cu (zB ·)
     have ju:=b4.chg cu (zB ·)
     have iu:=b5.chg cu (zB ·)
     refine Ai<|A0<|fC [0,2,0] Z<|Al (p:=zP e2.heap.size) 1 BI Z Z Aa<|Ag (p:=Ap (zP e2.heap.size) 1) (.inr Z) (zI<|(p.getD ((f).toNat) Fn.zero).params) AI Z (iu.ldp (i:=1) sM) Aa<|Ac 1 Z<|A3 ?_
     refine AW (S:=Nat×Value) (fun⟨i,vk⟩=>([(55,zI (i:Int)),(1,zI f),(2,zI n),(3,zP w.heap.size),(6,zP w1.heap.size),(9,zP e2.heap.size),(11,zP cm.heap.size),(45,zI ((((p.getD ((f).toNat) Fn.zero).outs).length:Nat):Int)),(46,zI (k:Int)),(54,zI<|(p.getD ((f).toNat) Fn.zero).params)])) (fun⟨i,vk⟩ W=>AD w W∧Fr (CA 5 (Ga 153 1) 153) f1.heap.size W.heap.size W.heap vk (E7 0 i)∧Fr (CA 5 (Ga 153 dp) 153) e8.heap.size cm.heap.size W.heap vo (Cy f.toNat (p.getD f.toNat Fn.zero).params.toNat n.toNat 0 k)∧BX W.heap w.heap.size [vp]∧BX W.heap w1.heap.size [zN]∧BX W.heap e2.heap.size [.string<|⟨#[108,111,111,112]⟩,zI<|(p.getD ((f).toNat) Fn.zero).params,vo]∧BX W.heap cm.heap.size [zI ((11:Nat):Int),zI f,zI (k:Int),zI n,vk]∧i≤(p.getD f.toNat Fn.zero).params.toNat∧cm.heap.size≤f1.heap.size∧cm.heap.size≤cm.heap.size∧w.heap.size≤e8.heap.size∧w.heap.size<f1.heap.size∧w1.heap.size<f1.heap.size∧e2.heap.size<f1.heap.size∧cm.heap.size<f1.heap.size∧f1.heap.size≤W.heap.size∧e8.heap.size≤W.heap.size) (fun⟨i,vk⟩=>(p.getD f.toNat Fn.zero).params.toNat-i) (0,zN) ⟨rfl,rfl,rfl,rfl,rfl,rfl,rfl,rfl,rfl,rfl,trivial⟩ ⟨mc,(Cq _ 0 _).up<|Ak<|Aq 153 1,js,jt,ju,iu,it,oM,oM,oM,oM,oM,oM,oM,oM,oM,oM⟩ ?_
     clear am al a6 cr ma ct jr is b2 b3 b4 b5 mb cu js jt ju iu
     rintro⟨i,vk⟩ ρ47 ql ⟨iv,eg,eh,cv,cw,bq,an,md,huw,huf,hwb,ow,ox,oy,oz,p0,p1⟩
     have p2:w.heap.size≤ql.heap.size:=iv.size
     have r6:=cv.lt
     have r7:=cw.lt
     have r8:=bq.lt
     have r9:=an.lt
     refine fC [0] Z ?_
     by_cases jv:(i:Int)<(p.getD ((f).toNat) Fn.zero).params
     ·refine AJ true Z Z (A5 jv) Aa<|Ai<|A0<|Af Z<|A2<|A0<|A3<|fC [0,0] Z<|Ac 2 Z<|AQ _ [0,1,0,3,3,4,0,4] mixed (by kernel_rfl)<|Al (p:=zP cm.heap.size) 4 AY Z Z Aa<|Ag (p:=Ap (zP cm.heap.size) 4) (.inl Z) vk B7 Z (an.ldp (i:=4) sM) Aa<|Ad 1 Z<|At 135 [] [] [zI (i:Int)] Z Z XT Aa (HJ _ (i:Int) oM) ?_
      rintro sh s1 ⟨rfl,ao⟩
      refine⟨_,rfl,ao,?_⟩
      replace ao:=ao.of_drew
      have p3:=ao.size
      have me:=iv.trans ao
      have dg:=eg.ext (Ak<|Aq 153 1) ao
      have dh:=eh.ext (Ak<|Aq 153 dp) ao
      have di:=cv.ext ao
      have dj:=cw.ext ao
      have dk:=bq.ext ao
      have dl:=an.ext ao
      refine Cw (cs:=[zI ((2:Nat):Int),zI (i:Int),zI 0,zI 0,zN]) (y:=.mk 2 (i:Int) 0 0 []) (B:=s1.heap.size) (Aq 153 1) Cc B3 Z H5 Z (Gg.mk1 (d:=1) (x:=.mk 2 (i:Int) 0 0 []) oM (FQ (a:=2) (b:=(i:Int)) (c:=0) (k:=0) oM oM oM oM)<|Cq _ 0 _) oM Aa fun s2 s3 bz ra mf=>?_
      have p4:=bz.size
      have jw:=me.trans bz
      have dm:=dg.ext (Ak<|Aq 153 1) bz
      have dn:=dh.ext (Ak<|Aq 153 dp) bz
      have dq:=di.ext bz
      have dr:=dj.ext bz
      have ds:=dk.ext bz
      have dt:=dl.ext bz
      refine D8 (v:=vk) (a:=s2) (Aq 153 1) Cc B3 Z H5 Z Z dm oM mf oM oM (by rw[FT];omega) (by rw[FT];unfold maxLen;omega) Aa fun rx qm si cx du jx=>?_
      have p5:s3.heap.size≤qm.heap.size:=cx.size
      have jy:AD w qm:=cx.below jw (fun c hc=>zH<|du _ hc) jw.size
      have mg:=dn.chg (Ak<|Aq 153 dp) cx fun c hc=>zH<|du _ hc
      have mh:=dq.chg cx fun hm=>zH<|du _ hm
      have mi:=dr.chg cx fun hm=>zH<|du _ hm
      have mj:=ds.chg cx fun hm=>zH<|du _ hm
      have ml:=dt.chg cx fun hm=>zH<|du _ hm
      refine Al (p:=zP cm.heap.size) 4 AY Z Z Aa (Bc (k:=4) (w:=qm) Ia Z Z (AV jx.isSlS) ml sM Aa fun qu cy rb iw=>?_)
      replace iw:BX qu.heap cm.heap.size [zI ((11:Nat):Int),zI f,zI (k:Int),zI n,rx]:=iw
      have p6:qm.heap.size≤qu.heap.size:=cy.size
      have mm:AD w qu:=cy.below jy (fun _ h=>zE h) jy.size
      have mn:=mg.chg (Ak<|Aq 153 dp) cy fun _ h=>zA h
      have mo:=mh.chg cy (zB ·)
      have mp:=mi.chg cy (zB ·)
      have mq:=mj.chg cy (zB ·)
      have mr:=jx.chg (Ak<|Aq 153 1) cy fun _ h=>zA h
      exact Ai<|Ab _ [0,0] Z<|AR ((i+1:Nat):Int) Z Z (Bl oM oM) Aa<|Ac 1 Z ⟨(i+1,rx),_,rfl,zR,⟨mm,(by rw[Ix,Nat.zero_add];exact mr.up (Ak<|Aq 153 1)),mn,mo,mp,mq,iw,oM,oM,oM,oM,oM,oM,oM,oM,oM,oM⟩,zD⟩
     refine AJ false Z Z (A6 jv) Aa<|Ai<|A0<|Aj Z<|A4<|Az<|Az<|Aw<|Ab _ [0,2,2,3,4,0,4] Z ?_
     have hik:i=(p.getD f.toNat Fn.zero).params.toNat:=by omega
     have hkm:Fr (CA 5 (Ga 153 1) 153) f1.heap.size ql.heap.size ql.heap vk (E7 0 (p.getD f.toNat Fn.zero).params.toNat):=by rw[← hik];exact eg
     refine Al (p:=zP e2.heap.size) 2 Br Z Z Aa<|Ag (p:=Ap (zP e2.heap.size) 2) (.inr Z) vo B7 Z (bq.ldp (i:=2) sM) Aa<|AF (p:=zP cm.heap.size) (.inr Z) [zI ((11:Nat):Int),zI f,zI (k:Int),zI n,vk] AX Z (fun f2 b1=>LD.of_box<|BX.ext (w:=ql) an b1) Z Aa ?_
     refine Cw (cs:=[zI ((11:Nat):Int),zI f,zI (k:Int),zI n,vk]) (y:=.mk 11 f (k:Int) n<|E7 0 (p.getD f.toNat Fn.zero).params.toNat) (B:=f1.heap.size) (Aq 153 dp) Cc B3 Z H5 Z (Gg.le (Gg.mk1 (d:=2) (x:=.mk 11 f (k:Int) n<|E7 0 (p.getD f.toNat Fn.zero).params.toNat) oM (FQ oM oM oM oM) hkm) oM) oM Aa fun s4 s5 cz rc ms=>?_
     have p7:=cz.size
     have jz:=iv.trans cz
     have dv:=eh.ext (Ak<|Aq 153 dp) cz
     have dw:=cv.ext cz
     have dx:=cw.ext cz
     have dy:=bq.ext cz
     refine D8 (v:=vo) (a:=s4) (Aq 153 dp) Cc B3 Z H5 Z Z dv oM ms oM oM (by rw[Dl];omega) (by rw[Dl];unfold maxLen;omega) Aa fun ry qn sj e0 ei k0=>?_
     have p8:s5.heap.size≤qn.heap.size:=e0.size
     have k1:AD w qn:=e0.below jz (fun c hc=>zH<|ei _ hc) jz.size
     have mt:=dw.chg e0 fun hm=>zH<|ei _ hm
     have mu:=dx.chg e0 fun hm=>zH<|ei _ hm
     have mv:=dy.chg e0 fun hm=>zH<|ei _ hm
     refine Al (p:=zP e2.heap.size) 2 Br Z Z Aa (Bc (k:=2) (w:=qn) Ia Z Z (AV k0.isSlS) mv sM Aa fun qw e1 rd ix=>?_)
     replace ix:BX qw.heap e2.heap.size [.string (⟨#[108,111,111,112]⟩),zI ((p.getD ((f).toNat) Fn.zero).params),ry]:=ix
     have p9:qn.heap.size≤qw.heap.size:=e1.size
     have mx:AD w qw:=e1.below k1 (fun _ h=>zE h) k1.size
     have my:=mt.chg e1 (zB ·)
     have mz:=mu.chg e1 (zB ·)
     have n0:=k0.chg (Ak<|Aq 153 dp) e1 fun _ h=>zA h
     exact Ai<|Ab _ [0,0] Z<|AR ((k+1:Nat):Int) Z Z (Bl oM oM) Aa<|Ac 1 Z ⟨(k+1,ry),_,rfl,zR,⟨mx,(by rw[Ho,Nat.zero_add,hft,hnt];exact n0.up (Ak<|Aq 153 dp)),my,mz,ix,oM,oM,oM,oM,oM⟩,zD⟩
    refine AJ false Z Z (A6 jp) Aa<|Ai<|A0<|Aj Z<|A4<|Az<|Az<|Aw<|fC [2,3,3,4] Z ?_
    have hkk:k=(p.getD f.toNat Fn.zero).outs.length:=by omega
    have hrm:Fr (CA 5 (Ga 153 dp) 153) e8.heap.size cm.heap.size cm.heap vo (Cy f.toNat (p.getD f.toNat Fn.zero).params.toNat n.toNat 0 (p.getD f.toNat Fn.zero).outs.length):=by rw[← hkk];exact cr
    refine AF (p:=zP w.heap.size) (.inr Z) [vp] Ba Z (fun f2 b1=>LD.of_box<|BX.ext (w:=cm) a6 b1) Z Aa<|At 136 [] [] [.agg #[vp]] Z Z XU Aa (Fu _ dp vp (p) (hp.ext (An<|Av dp) gd) hz oM) ?_
    rintro sk k7 ⟨qp,rfl,d0,n1⟩
    refine⟨_,rfl,d0,?_⟩
    have pa:=d0.size
    have n2:=gd.trans d0
    have iy:=hrm.ext (Ak<|Aq 153 dp) d0
    have b6:=a6.ext d0
    have b7:=al.ext d0
    have b8:=am.ext d0
    have rf:=b6.lt
    have rg:=b7.lt
    have rh:=b8.lt
    refine AU (z:=.agg #[zN]) IJ Aa fun rz d1 ri iz=>?_
    have pb:=d1.size
    have k2:=n2.trans d1
    have j0:=iy.ext (Ak<|Aq 153 dp) d1
    have e3:=b7.ext d1
    have e4:=b8.ext d1
    have d4:=n1.ext (Ak<|Am 153 dp) d1
    replace iz:BX rz.heap k7.heap.size [zN]:=iz
    refine B2 (vs:=[qp]) Ba Z Z (by intro u hu;simp only[ze,z2,or_false]at hu;rcases hu with rfl <;> first|exact⟨rfl,rfl⟩|exact AV d4.isSlS) iz Z Z Aa fun qq d2 rj ge=>?_
    replace ge:BX qq.heap k7.heap.size [qp]:=ge
    have pc:rz.heap.size≤qq.heap.size:=d2.size
    have n3:AD w qq:=d2.below k2 (fun _ h=>zE h) k2.size
    have n4:=j0.chg (Ak<|Aq 153 dp) d2 fun _ h=>zA h
    have n6:=e3.chg d2 (zB ·)
    have k3:=e4.chg d2 (zB ·)
    have n7:=d4.chg (Ak<|Am 153 dp) d2 fun _ h=>zA h
    refine Ai<|fC [0,2,2,3,4,0,4] Z<|Al (p:=zP k7.heap.size) 0 B8 Z Z Aa<|Ag (p:=Ap (zP k7.heap.size) 0) (.inr Z) qp Bt Z (ge.ldp (i:=0) sM) Aa<|AF (p:=zP e2.heap.size) (.inr Z) [.string<|⟨#[108,111,111,112]⟩,zI<|(p.getD ((f).toNat) Fn.zero).params,vo] DS Z (fun f2 b1=>LD.of_box<|BX.ext (w:=qq) k3 b1) Z Aa ?_
    refine TZ (cs:=[.string<|⟨#[108,111,111,112]⟩,zI<|(p.getD ((f).toNat) Fn.zero).params,vo]) (y:=Fn.mk (⟨#[108,111,111,112]⟩) ((p.getD ((f).toNat) Fn.zero).params)<|Cy f.toNat (p.getD f.toNat Fn.zero).params.toNat n.toNat 0 (p.getD f.toNat Fn.zero).outs.length) (Am 153 dp) Du BD Z H5 Z (Gg.mkF (x:=⟨⟨#[108,111,111,112]⟩,(p.getD ((f).toNat) Fn.zero).params,Cy f.toNat (p.getD f.toNat Fn.zero).params.toNat n.toNat 0 (p.getD f.toNat Fn.zero).outs.length⟩) (Ja (a:=(p.getD ((f).toNat) Fn.zero).params) ii.rng) n4) Aa fun s6 s7 d3 rk n8=>?_
    have pd:=d3.size
    have k4:=n3.trans d3
    have gg:=n6.ext d3
    have gi:=n7.ext (Ak<|Am 153 dp) d3
    have gj:=ge.ext d3
    refine U0 (v:=qp) (a:=s6) (Am 153 dp) Du BD Z H5 Z Z gi n8 (fun b h8 h9=>by(try dsimp only at h9);omega) oM (by unfold maxLen;omega) Aa fun f3 qr sl e6 ej k5=>?_
    have pe:s7.heap.size≤qr.heap.size:=e6.size
    have k6:AD w qr:=e6.below k4 (fun c hc=>zH<|ej _ hc) k4.size
    have na:=gg.chg e6 fun hm=>zH<|ej _ hm
    have nc:=gj.chg e6 fun hm=>zH<|ej _ hm
    refine Al (p:=zP k7.heap.size) 0 B8 Z Z Aa (Bc (k:=0) (w:=qr) PX Z Z (AV<|Ny.isSlS k5) nc sM Aa fun pl e7 rl gk=>?_)
    replace gk:BX pl.heap k7.heap.size [f3]:=gk
    have pf:qr.heap.size≤pl.heap.size:=e7.size
    have nd:AD w pl:=e7.below k6 (fun _ h=>zE h) k6.size
    have nf:=na.chg e7 (zB ·)
    have k8:=k5.chg (Ak<|Am 153 dp) e7 fun c hc=>by have:=A9 hc;intro ng;(try dsimp only at ng);omega
    refine Ai<|A0<|fC [2,3,0] Z ?_
    have hfr:Fr (CA 3 (KH 153 dp) 49) e8.heap.size pl.heap.size pl.heap f3 (DY p f n):=k8.fr (Ak (Am 153 dp)) (B:=e8.heap.size) (fun b hb=>by(try dsimp only at hb);omega)
    refine AF (p:=zP k7.heap.size) (.inr Z) [f3] Ba Z (fun f2 b1=>LD.of_box<|BX.ext (w:=pl) gk b1) Z Aa<|At 137 [] [] [.agg #[f3]] Z Z Rz Aa (CW _ dp f3 (DY p f n) (RN.of_frF hfr fun b hb=>by cases hb) hszx) ?_
    rintro s8 lb ⟨rfl,a8⟩
    refine⟨_,rfl,a8,?_⟩
    have nh:=a8.size
    have d5:=nd.trans a8
    have c1:=nf.ext a8
    have ap:=gk.ext a8
    have br:=hfr.ext (Ak<|Am 153 dp) a8
    refine Bq (!(Ef<|DY p f n)) Z Z Aa<|Ai ?_
    cases gs:(!(Ef (DY p f n)))
    ·refine Aj (by first|rfl|exact zW gs)<|A2<|fC [2,4,0] Z<|AF (p:=zP k7.heap.size) (.inr Z) [f3] Ba Z (fun f2 b1=>LD.of_box<|BX.ext (w:=lb) ap b1) Z Aa (B2 (vs:=[f3]) Ba Z Z (by intro u hu;simp only[ze,z2,or_false]at hu;rcases hu with rfl <;> first|exact⟨rfl,rfl⟩|exact AV br.isSlS) c1 Z Z Aa fun lh ba pg ek=>?_)
     replace ek:BX lh.heap w1.heap.size [f3]:=ek
     have ni:lb.heap.size≤lh.heap.size:=ba.size
     have k9:AD w lh:=ba.below d5 (fun _ h=>zE h) d5.size
     have ka:=br.chg (Ak<|Am 153 dp) ba fun _ h=>zA h
     refine Ac 1 Z<|A1 ?_
     have hcd:H0 p f n=((0:Nat):Int):=by first|exact Ft a0 AC|exact Di a0 AC (Bz AC)|exact Di a0 AC AC|exact Dt a0 AC (By AC)|exact Dt a0 AC AC|exact D1 oM (Bz AC)|exact D0 oM
     exact BV (t0:=7) (ts:=[]) (cs:=[f3]) [zI ((0:Nat):Int)] Z Ba Z ek Z Z ⟨f3,by rw[hcd],k9,(by rw[Rr hcd];exact((ka.up<|Ak<|Am 153 dp).low (B':=w.heap.size) oM))⟩
    refine Af (by first|rfl|exact zW gs)<|fC [0,4,0] Z ?_
    have j1:∀(wq:World),(Instr.build 26 #[]).run Tryz.prog wq=.ok (.agg #[zN]) wq:=by intro wq;kernel_rfl
    refine Bh (ps:=#[]) (.agg #[zN]) HL (fun wq=>j1  wq) Aa (B2 (vs:=[zN]) Ba Z Z HK c1 Z Z Aa fun lj bb pk el=>?_)
    replace el:BX lj.heap w1.heap.size [zN]:=el
    have nj:lb.heap.size≤lj.heap.size:=bb.size
    have kb:AD w lj:=bb.below d5 (fun _ h=>zE h) d5.size
    refine Ac 1 Z<|A1<|Ao ?_
    have hcd:H0 p f n=((3:Nat):Int):=by first|exact Ft a0 AC|exact Di a0 AC (Bz AC)|exact Di a0 AC AC|exact Dt a0 AC (By AC)|exact Dt a0 AC AC|exact D1 oM (Bz AC)|exact D0 oM
    exact BV (t0:=7) (ts:=[]) (cs:=[zN]) [zI ((3:Nat):Int)] Z Ba Z el Z Z ⟨_,by rw[hcd],kb,HM⟩
   refine Af (by first|rfl|exact zW jk)<|fC [0,4,0] Z ?_
   have j2:∀(wq:World),(Instr.build 26 #[]).run Tryz.prog wq=.ok (.agg #[zN]) wq:=by intro wq;kernel_rfl
   refine Bh (ps:=#[]) (.agg #[zN]) HL (fun wq=>j2  wq) Aa (B2 (vs:=[zN]) Ba Z Z HK cq Z Z Aa fun lm em pp en=>?_)
   replace en:BX lm.heap w1.heap.size [zN]:=en
   have nk:e2.heap.size≤lm.heap.size:=em.size
   have kc:AD w lm:=em.below df (fun _ h=>zE h) df.size
   refine Ac 1 Z<|A1<|Ao ?_
   have hcd:H0 p f n=((4:Nat):Int):=by first|exact Ft a0 AC|exact Di a0 AC (Bz AC)|exact Di a0 AC AC|exact Dt a0 AC (By AC)|exact Dt a0 AC AC|exact D1 oM (Bz AC)|exact D0 oM
   exact BV (t0:=7) (ts:=[]) (cs:=[zN]) [zI ((4:Nat):Int)] Z Ba Z en Z Z ⟨_,by rw[hcd],kc,HM⟩
  refine Af (by first|rfl|exact zW on)<|Ab _ [0] Z<|Ac 1 Z<|A0<|fC [0,0] Z<|Ad 1 Z<|AT true Z Z H5 Aa<|Ai<|Af Z<|fC [0,0,4,0] Z ?_
  have j3:∀(wq:World),(Instr.build 26 #[]).run Tryz.prog wq=.ok (.agg #[zN]) wq:=by intro wq;kernel_rfl
  refine Bh (ps:=#[]) (.agg #[zN]) HL (fun wq=>j3  wq) Aa<|Ad 1 Z (B2 (vs:=[zN]) Ba Z Z HK bx Z Z Aa fun lo eo pr ep=>?_)
  replace ep:BX lo.heap w1.heap.size [zN]:=ep
  have nl:w5.heap.size≤lo.heap.size:=eo.size
  have kd:AD w lo:=eo.below ed (fun _ h=>zE h) ed.size
  refine Ac 1 Z<|A1<|Ao ?_
  have hcd:H0 p f n=((2:Nat):Int):=by first|exact Ft a0 AC|exact Di a0 AC (Bz AC)|exact Di a0 AC AC|exact Dt a0 AC (By AC)|exact Dt a0 AC AC|exact D1 oM (Bz AC)|exact D0 oM
  exact BV (t0:=7) (ts:=[]) (cs:=[zN]) [zI ((2:Nat):Int)] Z Ba Z ep Z Z ⟨_,by rw[hcd],kd,HM⟩
 refine As false Z Z (A6 om) Aa<|Ac 5 Z<|Aj Z<|A2<|A0<|fC [0,0] Z<|Ad 1 Z ?_
 by_cases gt:DO p f ([]:List Sr)≠((0:Nat):Int)
 ·refine AT true Z Z (A5 gt) Aa<|Ai<|Af Z<|fC [0,0,4,0] Z ?_
  have j4:∀(wq:World),(Instr.build 26 #[]).run Tryz.prog wq=.ok (.agg #[zN]) wq:=by intro wq;kernel_rfl
  refine Bh (ps:=#[]) (.agg #[zN]) HL (fun wq=>j4  wq) Aa<|Ad 1 Z (B2 (vs:=[zN]) Ba Z Z HK bx Z Z Aa fun mw eq pu er=>?_)
  replace er:BX mw.heap w1.heap.size [zN]:=er
  have nm:w5.heap.size≤mw.heap.size:=eq.size
  have ke:AD w mw:=eq.below ed (fun _ h=>zE h) ed.size
  refine Ac 1 Z<|A1<|Ao ?_
  have hcd:H0 p f n=DO p f ([]:List Sr):=by first|exact Ft a0 AC|exact Di a0 AC (Bz AC)|exact Di a0 AC AC|exact Dt a0 AC (By AC)|exact Dt a0 AC AC|exact D1 oM (Bz AC)|exact D0 oM
  exact BV (t0:=7) (ts:=[]) (cs:=[zN]) [zI<|DO p f ([]:List Sr)] Z Ba Z er Z Z ⟨_,by rw[hcd],ke,HM⟩
 refine AT false Z Z (A6 gt) Aa<|Ai<|Aj Z<|A2<|A0<|fC [0,2,3] Z ?_
 have a0:MJ p f n=0:=by first|exact Us oM (By AC)|(exfalso;omega)
 have ih:=Ru a0
 have qx:=Gk.1 ih.2.1
 have l2:=CM ih.1
 have hpl:=NJ ih.1
 have hpar:=l2.par f.toNat oM
 have s0:=l2.outs f.toNat oM
 have hft:(f.toNat:Int)=f:=by omega
 have hnt:(n.toNat:Int)=n:=by omega
 have hszx:=hz.lp (n:=n) l2 (f:=f) oM
 refine Al (p:=zP w.heap.size) 0 B8 Z Z Aa<|Ag (p:=Ap (zP w.heap.size) 0) (.inr Z) vp Bt Z (ak.ldp (i:=0) sM) Aa<|At 133 [] [] [vp,.func (.func 134) #[] #[]] Z Z Uy Aa (BE _ dp vp (p) 134 [] [] (fun g:Fn=>DA g.name (⟨#[108,111,111,112]⟩:ByteArray)) (hp.ext (An<|Av dp) ed) XS fun d9 u x w1 hx hw=>Gm w1 d9 u x hx) ?_
 rintro s9 bk ⟨rfl,bc⟩
 refine⟨_,rfl,bc,?_⟩
 have j5:=bc.size
 have bd:=ed.trans bc
 have ai:=ak.ext bc
 have bs:=bx.ext bc
 refine Ai ?_
 cases gu:(p.any (fun g:Fn=>DA g.name (⟨#[108,111,111,112]⟩:ByteArray)))
 ·refine Aj (by first|rfl|exact zW gu)<|A2<|fC [0,2,0,0,0,2,0,3,4] Z<|Al (p:=zP w.heap.size) 0 B8 Z Z Aa<|Ag (p:=Ap (zP w.heap.size) 0) (.inr Z) vp Bt Z (ai.ldp (i:=0) sM) Aa<|Ad 1 Z<|AE (v:=vp) ((f).toNat) Du BD Z Z hp.isSl oM sD Aa ?_
  obtain⟨cs127,kf,d6⟩:=hp.get (Av dp) Fn.zero (k:=(f).toNat) sD
  obtain⟨gv,rfl,es⟩:=RF.of kf
  have et:=es.rn.lenle
  unfold maxLen at et
  refine AB (p:=AA vp ((f).toNat) 3) 1 BI Z (d6 _<|Ax.of_ext [] bd) Aa<|Ag (p:=Ap (AA vp ((f).toNat) 3) 1) (.inr Z) (zI<|(p.getD ((f).toNat) Fn.zero).params) AI Z ((d6 _<|Ax.of_ext [] bd).ld (i:=1) (by simp[DT,E2])) Aa ?_
  have j6:∀(wq:World),(Instr.build 49 #[(0,.string (⟨#[108,111,111,112]⟩)),(1,zI ((p.getD ((f).toNat) Fn.zero).params))]).run Tryz.prog wq=.ok (.agg #[.string (⟨#[108,111,111,112]⟩),zI ((p.getD ((f).toNat) Fn.zero).params),zN]) wq:=by intro wq;kernel_rfl
  refine Bh (ps:=#[(0,.string<|⟨#[108,111,111,112]⟩),(1,zI<|(p.getD ((f).toNat) Fn.zero).params)]) (.agg #[.string<|⟨#[108,111,111,112]⟩,zI<|(p.getD ((f).toNat) Fn.zero).params,zN]) MA (fun wq=>j6  wq) Aa ?_
  have pw:=ai.lt
  have px:=bs.lt
  refine AU (z:=.agg #[.string ByteArray.empty,zI 0,zN]) MK Aa fun po c2 kg eu=>?_
  have j7:=c2.size
  have ev:=bd.trans c2
  have gl:=ai.ext c2
  have gm:=bs.ext c2
  replace eu:BX po.heap bk.heap.size [.string ByteArray.empty,zI 0,zN]:=eu
  refine B2 (vs:=[.string<|⟨#[108,111,111,112]⟩,zI<|(p.getD ((f).toNat) Fn.zero).params,zN]) DS Z Z Yq eu Z Z Aa fun bm c3 kh ew=>?_
  replace ew:BX bm.heap bk.heap.size [.string (⟨#[108,111,111,112]⟩),zI ((p.getD ((f).toNat) Fn.zero).params),zN]:=ew
  have nn:po.heap.size≤bm.heap.size:=c3.size
  have ex:AD w bm:=c3.below ev (fun _ h=>zE h) ev.size
  have ey:=gl.chg c3 (zB ·)
  have gw:=gm.chg c3 (zB ·)
  refine Ai<|A0<|fC [0,2,0,0,0,2,0,0] Z<|Al (p:=zP w.heap.size) 0 B8 Z Z Aa<|Ag (p:=Ap (zP w.heap.size) 0) (.inr Z) vp Bt Z (ey.ldp (i:=0) sM) Aa<|Ad 1 Z<|AE (v:=vp) ((f).toNat) Du BD Z Z hp.isSl oM sD Aa ?_
  refine AB (p:=AA vp ((f).toNat) 3) 2 Br Z (d6 _<|Ax.of_ext [] ex) Aa<|Ag (p:=Ap (AA vp ((f).toNat) 3) 2) (.inr Z) gv B7 Z ((d6 _<|Ax.of_ext [] ex).ld (i:=2) (by simp[DT,E2])) Aa<|AS (v:=gv) Cc Z es.rn.isSl Aa<|Ac 1 Z<|A3 ?_
  refine AW (S:=Nat×Value) (fun⟨k,vo⟩=>([(46,zI (k:Int)),(1,zI f),(2,zI n),(3,zP w.heap.size),(6,zP w1.heap.size),(9,zP bk.heap.size),(45,zI ((((p.getD ((f).toNat) Fn.zero).outs).length:Nat):Int))])) (fun⟨k,vo⟩ W=>AD w W∧Fr (CA 5 (Ga 153 dp) 153) bm.heap.size W.heap.size W.heap vo (Cy f.toNat (p.getD f.toNat Fn.zero).params.toNat n.toNat 0 k)∧BX W.heap w.heap.size [vp]∧BX W.heap w1.heap.size [zN]∧BX W.heap bk.heap.size [.string<|⟨#[108,111,111,112]⟩,zI<|(p.getD ((f).toNat) Fn.zero).params,vo]∧k≤(p.getD f.toNat Fn.zero).outs.length∧w.heap.size<bm.heap.size∧w1.heap.size<bm.heap.size∧bk.heap.size<bm.heap.size∧bm.heap.size≤W.heap.size) (fun⟨k,vo⟩=>(p.getD f.toNat Fn.zero).outs.length-k) (0,zN) ⟨rfl,rfl,rfl,rfl,rfl,rfl,rfl,trivial⟩ ⟨ex,(Cq _ 0 _).up<|Ak<|Aq 153 dp,ey,gw,ew,oM,oM,oM,oM,oM⟩ ?_
  clear m1 oj lw jc m2 ol jd je ly gq jg ed bc j5 bd et kg c2 j7 ev kh c3 ey gw
  rintro⟨k,vo⟩ ρ138 b9 ⟨d7,bt,a2,a3,a4,lz,no,np,nq,nr⟩
  have ns:w.heap.size≤b9.heap.size:=d7.size
  have py:=a2.lt
  have pz:=a3.lt
  have q0:=a4.lt
  refine fC [0] Z ?_
  by_cases gx:(k:Int)<((((p.getD ((f).toNat) Fn.zero).outs).length:Nat):Int)
  ·refine AJ true Z Z (A5 gx) Aa<|Ai<|A0<|Af Z<|A2<|A0<|A3<|fC [0,0] Z<|Ac 2 Z<|fC [0,0,0,0,3,4] Z<|Ad 3 Z ?_
   have j8:∀(wq:World),(Instr.build 153 #[(0,zI ((11:Nat):Int)),(1,zI f),(2,zI (k:Int)),(3,zI n)]).run Tryz.prog wq=.ok (.agg #[zI ((11:Nat):Int),zI f,zI (k:Int),zI n,zN]) wq:=by intro wq;kernel_rfl
   refine Bh (ps:=#[(0,zI ((11:Nat):Int)),(1,zI f),(2,zI (k:Int)),(3,zI n)]) (.agg #[zI ((11:Nat):Int),zI f,zI (k:Int),zI n,zN]) MA (fun wq=>j8  wq) Aa ?_
   have q1:=a2.lt
   have q2:=a3.lt
   have q3:=a4.lt
   refine AU (z:=.agg #[zI 0,zI 0,zI 0,zI 0,zN]) Ec Aa fun pq aq ki ez=>?_
   have j9:=aq.size
   have g0:=d7.trans aq
   have a9:=bt.ext (Ak<|Aq 153 dp) aq
   have aa:=a2.ext aq
   have ab:=a3.ext aq
   have ac:=a4.ext aq
   replace ez:BX pq.heap b9.heap.size [zI 0,zI 0,zI 0,zI 0,zN]:=ez
   refine B2 (vs:=[zI ((11:Nat):Int),zI f,zI (k:Int),zI n,zN]) AX Z Z Yp ez Z Z Aa fun c0 ar kj g1=>?_
   replace g1:BX c0.heap b9.heap.size [zI ((11:Nat):Int),zI f,zI (k:Int),zI n,zN]:=g1
   have nt:pq.heap.size≤c0.heap.size:=ar.size
   have kk:AD w c0:=ar.below g0 (fun _ h=>zE h) g0.size
   have gy:=a9.chg (Ak<|Aq 153 dp) ar fun _ h=>zA h
   have gz:=aa.chg ar (zB ·)
   have i0:=ab.chg ar (zB ·)
   have g3:=ac.chg ar (zB ·)
   refine Ai<|A0<|fC [0,2,0] Z<|Al (p:=zP bk.heap.size) 1 BI Z Z Aa<|Ag (p:=Ap (zP bk.heap.size) 1) (.inr Z) (zI<|(p.getD ((f).toNat) Fn.zero).params) AI Z (g3.ldp (i:=1) sM) Aa<|Ac 1 Z<|A3 ?_
   refine AW (S:=Nat×Value) (fun⟨i,vk⟩=>([(55,zI (i:Int)),(1,zI f),(2,zI n),(3,zP w.heap.size),(6,zP w1.heap.size),(9,zP bk.heap.size),(11,zP b9.heap.size),(45,zI ((((p.getD ((f).toNat) Fn.zero).outs).length:Nat):Int)),(46,zI (k:Int)),(54,zI<|(p.getD ((f).toNat) Fn.zero).params)])) (fun⟨i,vk⟩ W=>AD w W∧Fr (CA 5 (Ga 153 1) 153) c0.heap.size W.heap.size W.heap vk (E7 0 i)∧Fr (CA 5 (Ga 153 dp) 153) bm.heap.size b9.heap.size W.heap vo (Cy f.toNat (p.getD f.toNat Fn.zero).params.toNat n.toNat 0 k)∧BX W.heap w.heap.size [vp]∧BX W.heap w1.heap.size [zN]∧BX W.heap bk.heap.size [.string<|⟨#[108,111,111,112]⟩,zI<|(p.getD ((f).toNat) Fn.zero).params,vo]∧BX W.heap b9.heap.size [zI ((11:Nat):Int),zI f,zI (k:Int),zI n,vk]∧i≤(p.getD f.toNat Fn.zero).params.toNat∧b9.heap.size≤c0.heap.size∧b9.heap.size≤b9.heap.size∧w.heap.size≤bm.heap.size∧w.heap.size<c0.heap.size∧w1.heap.size<c0.heap.size∧bk.heap.size<c0.heap.size∧b9.heap.size<c0.heap.size∧c0.heap.size≤W.heap.size∧bm.heap.size≤W.heap.size) (fun⟨i,vk⟩=>(p.getD f.toNat Fn.zero).params.toNat-i) (0,zN) ⟨rfl,rfl,rfl,rfl,rfl,rfl,rfl,rfl,rfl,rfl,trivial⟩ ⟨kk,(Cq _ 0 _).up<|Ak<|Aq 153 1,gy,gz,i0,g3,g1,oM,oM,oM,oM,oM,oM,oM,oM,oM,oM⟩ ?_
   clear a4 a3 a2 bt ki aq j9 g0 a9 aa ab ac kj ar gy gz i0 g3
   rintro⟨i,vk⟩ ρ158 f9 ⟨g4,d8,da,bu,bv,aj,a5,m0,huw,huf,hwb,nu,nv,nw,nx,ny,nz⟩
   have o0:w.heap.size≤f9.heap.size:=g4.size
   have q4:=bu.lt
   have q5:=bv.lt
   have q6:=aj.lt
   have q7:=a5.lt
   refine fC [0] Z ?_
   by_cases i1:(i:Int)<(p.getD ((f).toNat) Fn.zero).params
   ·refine AJ true Z Z (A5 i1) Aa<|Ai<|A0<|Af Z<|A2<|A0<|A3<|fC [0,0] Z<|Ac 2 Z<|AQ _ [0,1,0,3,3,4,0,4] mixed (by kernel_rfl)<|Al (p:=zP b9.heap.size) 4 AY Z Z Aa<|Ag (p:=Ap (zP b9.heap.size) 4) (.inl Z) vk B7 Z (a5.ldp (i:=4) sM) Aa<|Ad 1 Z<|At 135 [] [] [zI (i:Int)] Z Z XT Aa (HJ _ (i:Int) oM) ?_
    rintro sa re ⟨rfl,a1⟩
    refine⟨_,rfl,a1,?_⟩
    replace a1:=a1.of_drew
    have o1:=a1.size
    have kl:=g4.trans a1
    have c4:=d8.ext (Ak<|Aq 153 1) a1
    have c5:=da.ext (Ak<|Aq 153 dp) a1
    have c6:=bu.ext a1
    have c7:=bv.ext a1
    have c8:=aj.ext a1
    have c9:=a5.ext a1
    refine Cw (cs:=[zI ((2:Nat):Int),zI (i:Int),zI 0,zI 0,zN]) (y:=.mk 2 (i:Int) 0 0 []) (B:=re.heap.size) (Aq 153 1) Cc B3 Z H5 Z (Gg.mk1 (d:=1) (x:=.mk 2 (i:Int) 0 0 []) oM (FQ (a:=2) (b:=(i:Int)) (c:=0) (k:=0) oM oM oM oM)<|Cq _ 0 _) oM Aa fun ro rp ad q8 km=>?_
    have o2:=ad.size
    have i2:=kl.trans ad
    have ca:=c4.ext (Ak<|Aq 153 1) ad
    have cb:=c5.ext (Ak<|Aq 153 dp) ad
    have cc:=c6.ext ad
    have cd:=c7.ext ad
    have ce:=c8.ext ad
    have cf:=c9.ext ad
    refine D8 (v:=vk) (a:=ro) (Aq 153 1) Cc B3 Z H5 Z Z ca oM km oM oM (by rw[FT];omega) (by rw[FT];unfold maxLen;omega) Aa fun pt fe sb au be i3=>?_
    have o3:rp.heap.size≤fe.heap.size:=au.size
    have i4:AD w fe:=au.below i2 (fun c hc=>zH<|be _ hc) i2.size
    have kn:=cb.chg (Ak<|Aq 153 dp) au fun c hc=>zH<|be _ hc
    have ko:=cc.chg au fun hm=>zH<|be _ hm
    have kp:=cd.chg au fun hm=>zH<|be _ hm
    have kq:=ce.chg au fun hm=>zH<|be _ hm
    have kr:=cf.chg au fun hm=>zH<|be _ hm
    refine Al (p:=zP b9.heap.size) 4 AY Z Z Aa (Bc (k:=4) (w:=fe) Ia Z Z (AV i3.isSlS) kr sM Aa fun n5 av q9 g5=>?_)
    replace g5:BX n5.heap b9.heap.size [zI ((11:Nat):Int),zI f,zI (k:Int),zI n,pt]:=g5
    have o4:fe.heap.size≤n5.heap.size:=av.size
    have ks:AD w n5:=av.below i4 (fun _ h=>zE h) i4.size
    have kt:=kn.chg (Ak<|Aq 153 dp) av fun _ h=>zA h
    have ku:=ko.chg av (zB ·)
    have kv:=kp.chg av (zB ·)
    have kw:=kq.chg av (zB ·)
    have kx:=i3.chg (Ak<|Aq 153 1) av fun _ h=>zA h
    exact Ai<|Ab _ [0,0] Z<|AR ((i+1:Nat):Int) Z Z (Bl oM oM) Aa<|Ac 1 Z ⟨(i+1,pt),_,rfl,zR,⟨ks,(by rw[Ix,Nat.zero_add];exact kx.up (Ak<|Aq 153 1)),kt,ku,kv,kw,g5,oM,oM,oM,oM,oM,oM,oM,oM,oM,oM⟩,zD⟩
   refine AJ false Z Z (A6 i1) Aa<|Ai<|A0<|Aj Z<|A4<|Az<|Az<|Aw<|Ab _ [0,2,2,3,4,0,4] Z ?_
   have hik:i=(p.getD f.toNat Fn.zero).params.toNat:=by omega
   have hkm:Fr (CA 5 (Ga 153 1) 153) c0.heap.size f9.heap.size f9.heap vk (E7 0 (p.getD f.toNat Fn.zero).params.toNat):=by rw[← hik];exact d8
   refine Al (p:=zP bk.heap.size) 2 Br Z Z Aa<|Ag (p:=Ap (zP bk.heap.size) 2) (.inr Z) vo B7 Z (aj.ldp (i:=2) sM) Aa<|AF (p:=zP b9.heap.size) (.inr Z) [zI ((11:Nat):Int),zI f,zI (k:Int),zI n,vk] AX Z (fun f2 b1=>LD.of_box<|BX.ext (w:=f9) a5 b1) Z Aa ?_
   refine Cw (cs:=[zI ((11:Nat):Int),zI f,zI (k:Int),zI n,vk]) (y:=.mk 11 f (k:Int) n<|E7 0 (p.getD f.toNat Fn.zero).params.toNat) (B:=c0.heap.size) (Aq 153 dp) Cc B3 Z H5 Z (Gg.le (Gg.mk1 (d:=2) (x:=.mk 11 f (k:Int) n<|E7 0 (p.getD f.toNat Fn.zero).params.toNat) oM (FQ oM oM oM oM) hkm) oM) oM Aa fun rq rr aw qa ky=>?_
   have o5:=aw.size
   have i5:=g4.trans aw
   have cg:=da.ext (Ak<|Aq 153 dp) aw
   have ch:=bu.ext aw
   have ci:=bv.ext aw
   have cj:=aj.ext aw
   refine D8 (v:=vo) (a:=rq) (Aq 153 dp) Cc B3 Z H5 Z Z cg oM ky oM oM (by rw[Dl];omega) (by rw[Dl];unfold maxLen;omega) Aa fun pv fs sc bf cl i6=>?_
   have o6:rr.heap.size≤fs.heap.size:=bf.size
   have i7:AD w fs:=bf.below i5 (fun c hc=>zH<|cl _ hc) i5.size
   have kz:=ch.chg bf fun hm=>zH<|cl _ hm
   have l0:=ci.chg bf fun hm=>zH<|cl _ hm
   have l1:=cj.chg bf fun hm=>zH<|cl _ hm
   refine Al (p:=zP bk.heap.size) 2 Br Z Z Aa (Bc (k:=2) (w:=fs) Ia Z Z (AV i6.isSlS) l1 sM Aa fun n9 bg qb g6=>?_)
   replace g6:BX n9.heap bk.heap.size [.string (⟨#[108,111,111,112]⟩),zI ((p.getD ((f).toNat) Fn.zero).params),pv]:=g6
   have o7:fs.heap.size≤n9.heap.size:=bg.size
   have l3:AD w n9:=bg.below i7 (fun _ h=>zE h) i7.size
   have l4:=kz.chg bg (zB ·)
   have l5:=l0.chg bg (zB ·)
   have l6:=i6.chg (Ak<|Aq 153 dp) bg fun _ h=>zA h
   exact Ai<|Ab _ [0,0] Z<|AR ((k+1:Nat):Int) Z Z (Bl oM oM) Aa<|Ac 1 Z ⟨(k+1,pv),_,rfl,zR,⟨l3,(by rw[Ho,Nat.zero_add,hft,hnt];exact l6.up (Ak<|Aq 153 dp)),l4,l5,g6,oM,oM,oM,oM,oM⟩,zD⟩
  refine AJ false Z Z (A6 gx) Aa<|Ai<|A0<|Aj Z<|A4<|Az<|Az<|Aw<|fC [2,3,3,4] Z ?_
  have hkk:k=(p.getD f.toNat Fn.zero).outs.length:=by omega
  have hrm:Fr (CA 5 (Ga 153 dp) 153) bm.heap.size b9.heap.size b9.heap vo (Cy f.toNat (p.getD f.toNat Fn.zero).params.toNat n.toNat 0 (p.getD f.toNat Fn.zero).outs.length):=by rw[← hkk];exact bt
  refine AF (p:=zP w.heap.size) (.inr Z) [vp] Ba Z (fun f2 b1=>LD.of_box<|BX.ext (w:=b9) a2 b1) Z Aa<|At 136 [] [] [.agg #[vp]] Z Z XU Aa (Fu _ dp vp (p) (hp.ext (An<|Av dp) d7) hz oM) ?_
  rintro sd dz ⟨fx,rfl,ax,l7⟩
  refine⟨_,rfl,ax,?_⟩
  have o8:=ax.size
  have l8:=d7.trans ax
  have gn:=hrm.ext (Ak<|Aq 153 dp) ax
  have ae:=a2.ext ax
  have af:=a3.ext ax
  have ag:=a4.ext ax
  have qd:=ae.lt
  have qe:=af.lt
  have qf:=ag.lt
  refine AU (z:=.agg #[zN]) IJ Aa fun qc ay qg g7=>?_
  have o9:=ay.size
  have i8:=l8.trans ay
  have go:=gn.ext (Ak<|Aq 153 dp) ay
  have cn:=af.ext ay
  have co:=ag.ext ay
  have bh:=l7.ext (Ak<|Am 153 dp) ay
  replace g7:BX qc.heap dz.heap.size [zN]:=g7
  refine B2 (vs:=[fx]) Ba Z Z (by intro u hu;simp only[ze,z2,or_false]at hu;rcases hu with rfl <;> first|exact⟨rfl,rfl⟩|exact AV bh.isSlS) g7 Z Z Aa fun gf az qh db=>?_
  replace db:BX gf.heap dz.heap.size [fx]:=db
  have oa:qc.heap.size≤gf.heap.size:=az.size
  have l9:AD w gf:=az.below i8 (fun _ h=>zE h) i8.size
  have la:=go.chg (Ak<|Aq 153 dp) az fun _ h=>zA h
  have lc:=cn.chg az (zB ·)
  have i9:=co.chg az (zB ·)
  have lf:=bh.chg (Ak<|Am 153 dp) az fun _ h=>zA h
  refine Ai<|fC [0,2,2,3,4,0,4] Z<|Al (p:=zP dz.heap.size) 0 B8 Z Z Aa<|Ag (p:=Ap (zP dz.heap.size) 0) (.inr Z) fx Bt Z (db.ldp (i:=0) sM) Aa<|AF (p:=zP bk.heap.size) (.inr Z) [.string<|⟨#[108,111,111,112]⟩,zI<|(p.getD ((f).toNat) Fn.zero).params,vo] DS Z (fun f2 b1=>LD.of_box<|BX.ext (w:=gf) i9 b1) Z Aa ?_
  refine TZ (cs:=[.string<|⟨#[108,111,111,112]⟩,zI<|(p.getD ((f).toNat) Fn.zero).params,vo]) (y:=Fn.mk (⟨#[108,111,111,112]⟩) ((p.getD ((f).toNat) Fn.zero).params)<|Cy f.toNat (p.getD f.toNat Fn.zero).params.toNat n.toNat 0 (p.getD f.toNat Fn.zero).outs.length) (Am 153 dp) Du BD Z H5 Z (Gg.mkF (x:=⟨⟨#[108,111,111,112]⟩,(p.getD ((f).toNat) Fn.zero).params,Cy f.toNat (p.getD f.toNat Fn.zero).params.toNat n.toNat 0 (p.getD f.toNat Fn.zero).outs.length⟩) (Ja (a:=(p.getD ((f).toNat) Fn.zero).params) es.rng) la) Aa fun rs rt b0 qi lg=>?_
  have ob:=b0.size
  have ia:=l9.trans b0
  have e9:=lc.ext b0
  have eb:=lf.ext (Ak<|Am 153 dp) b0
  have ec:=db.ext b0
  refine U0 (v:=fx) (a:=rs) (Am 153 dp) Du BD Z H5 Z Z eb lg (fun b h8 h9=>by(try dsimp only at h9);omega) oM (by unfold maxLen;omega) Aa fun ck gh se bi cp ib=>?_
  have oc:rt.heap.size≤gh.heap.size:=bi.size
  have ic:AD w gh:=bi.below ia (fun c hc=>zH<|cp _ hc) ia.size
  have li:=e9.chg bi fun hm=>zH<|cp _ hm
  have lk:=ec.chg bi fun hm=>zH<|cp _ hm
  refine Al (p:=zP dz.heap.size) 0 B8 Z Z Aa (Bc (k:=0) (w:=gh) PX Z Z (AV<|Ny.isSlS ib) lk sM Aa fun ea bj qj dc=>?_)
  replace dc:BX ea.heap dz.heap.size [ck]:=dc
  have od:gh.heap.size≤ea.heap.size:=bj.size
  have ll:AD w ea:=bj.below ic (fun _ h=>zE h) ic.size
  have ln:=li.chg bj (zB ·)
  have lq:=ib.chg (Ak<|Am 153 dp) bj fun c hc=>by have:=A9 hc;intro ng;(try dsimp only at ng);omega
  refine Ai<|A0<|fC [2,3,0] Z ?_
  have hfr:Fr (CA 3 (KH 153 dp) 49) bm.heap.size ea.heap.size ea.heap ck (DY p f n):=lq.fr (Ak (Am 153 dp)) (B:=bm.heap.size) (fun b hb=>by(try dsimp only at hb);omega)
  refine AF (p:=zP dz.heap.size) (.inr Z) [ck] Ba Z (fun f2 b1=>LD.of_box<|BX.ext (w:=ea) dc b1) Z Aa<|At 137 [] [] [.agg #[ck]] Z Z Rz Aa (CW _ dp ck (DY p f n) (RN.of_frF hfr fun b hb=>by cases hb) hszx) ?_
  rintro sf nb ⟨rfl,ah⟩
  refine⟨_,rfl,ah,?_⟩
  have oe:=ah.size
  have dd:=ll.trans ah
  have bl:=ln.ext ah
  have a7:=dc.ext ah
  have bw:=hfr.ext (Ak<|Am 153 dp) ah
  refine Bq (!(Ef<|DY p f n)) Z Z Aa<|Ai ?_
  cases id:(!(Ef (DY p f n)))
  ·refine Aj (by first|rfl|exact zW id)<|A2<|fC [2,4,0] Z<|AF (p:=zP dz.heap.size) (.inr Z) [ck] Ba Z (fun f2 b1=>LD.of_box<|BX.ext (w:=nb) a7 b1) Z Aa (B2 (vs:=[ck]) Ba Z Z (by intro u hu;simp only[ze,z2,or_false]at hu;rcases hu with rfl <;> first|exact⟨rfl,rfl⟩|exact AV bw.isSlS) bl Z Z Aa fun ph bn qk g8=>?_)
   replace g8:BX ph.heap w1.heap.size [ck]:=g8
   have og:nb.heap.size≤ph.heap.size:=bn.size
   have lr:AD w ph:=bn.below dd (fun _ h=>zE h) dd.size
   have ls:=bw.chg (Ak<|Am 153 dp) bn fun _ h=>zA h
   refine Ac 1 Z<|A1 ?_
   have hcd:H0 p f n=((0:Nat):Int):=by first|exact Ft a0 AC|exact Di a0 AC (Bz AC)|exact Di a0 AC AC|exact Dt a0 AC (By AC)|exact Dt a0 AC AC|exact D1 oM (Bz AC)|exact D0 oM
   exact BV (t0:=7) (ts:=[]) (cs:=[ck]) [zI ((0:Nat):Int)] Z Ba Z g8 Z Z ⟨ck,by rw[hcd],lr,(by rw[Rr hcd];exact((ls.up<|Ak<|Am 153 dp).low (B':=w.heap.size) oM))⟩
  refine Af (by first|rfl|exact zW id)<|fC [0,4,0] Z ?_
  have ja:∀(wq:World),(Instr.build 26 #[]).run Tryz.prog wq=.ok (.agg #[zN]) wq:=by intro wq;kernel_rfl
  refine Bh (ps:=#[]) (.agg #[zN]) HL (fun wq=>ja  wq) Aa (B2 (vs:=[zN]) Ba Z Z HK bl Z Z Aa fun pi bo qo g9=>?_)
  replace g9:BX pi.heap w1.heap.size [zN]:=g9
  have oh:nb.heap.size≤pi.heap.size:=bo.size
  have lu:AD w pi:=bo.below dd (fun _ h=>zE h) dd.size
  refine Ac 1 Z<|A1<|Ao ?_
  have hcd:H0 p f n=((3:Nat):Int):=by first|exact Ft a0 AC|exact Di a0 AC (Bz AC)|exact Di a0 AC AC|exact Dt a0 AC (By AC)|exact Dt a0 AC AC|exact D1 oM (Bz AC)|exact D0 oM
  exact BV (t0:=7) (ts:=[]) (cs:=[zN]) [zI ((3:Nat):Int)] Z Ba Z g9 Z Z ⟨_,by rw[hcd],lu,HM⟩
 refine Af (by first|rfl|exact zW gu)<|fC [0,4,0] Z ?_
 have jb:∀(wq:World),(Instr.build 26 #[]).run Tryz.prog wq=.ok (.agg #[zN]) wq:=by intro wq;kernel_rfl
 refine Bh (ps:=#[]) (.agg #[zN]) HL (fun wq=>jb  wq) Aa (B2 (vs:=[zN]) Ba Z Z HK bs Z Z Aa fun pj ga qt gb=>?_)
 replace gb:BX pj.heap w1.heap.size [zN]:=gb
 have oi:bk.heap.size≤pj.heap.size:=ga.size
 have lv:AD w pj:=ga.below bd (fun _ h=>zE h) bd.size
 refine Ac 1 Z<|A1<|Ao ?_
 have hcd:H0 p f n=((4:Nat):Int):=by first|exact Ft a0 AC|exact Di a0 AC (Bz AC)|exact Di a0 AC AC|exact Dt a0 AC (By AC)|exact Dt a0 AC AC|exact D1 oM (Bz AC)|exact D0 oM
 exact BV (t0:=7) (ts:=[]) (cs:=[zN]) [zI ((4:Nat):Int)] Z Ba Z gb Z Z ⟨_,by rw[hcd],lv,HM⟩
theorem L4 (w:World)(dp:Nat)(vp:Value)(p:List Fn)(f:Int)(n:Int)(hp:RP [] dp w.heap vp p)(_hf:BG f)(_hn:BG n)(hz:LF p)(hdp:2≤dp) :
  Calls Tryz.prog 52 #[(.agg #[vp]),zI f,zI n] w (fun e w'=>∃v,e=.returned (.tuple #[.agg #[v],zI (H0 p f n)])∧AD w w'∧Fr (CA 3 (KH 153 dp) 49) w.heap.size w'.heap.size w'.heap v (ZG p f n)):=by
 refine Au [.agg #[vp],zI f,zI n] 90 Tryz.func52 Z Z sM ?_
 have ja:AD w w:=AD.refl w
 have m4:=hp.lenle
 unfold maxLen at m4
 refine fC [3,3,0] Z (Bv (cs:=#[vp]) Z Aa fun w1 gh kw ge=>?_)
 have gi:=gh.size
 have jb:=ja.trans gh
 replace ge:BX w1.heap w.heap.size [vp]:=ge
 have lq:=ge.lt
 refine AU (z:=.agg #[zN]) IJ Aa fun w2 gf kx gj=>?_
 have gk:=gf.size
 have gl:=jb.trans gf
 have cw:=ge.ext gf
 replace gj:BX w2.heap w1.heap.size [zN]:=gj
 refine Ac 1 Z<|A0<|fC [3,0] Z<|At 138 [] [] [zP w.heap.size] Z Z Uz Aa (Hs _ dp (zP w.heap.size) (p) (RN.box cw (RP.mk'<|hp.ext (An<|Av dp) gl) sM) hz) ?_
 rintro e4 w4 ⟨rfl,dt⟩
 refine⟨_,rfl,dt,?_⟩
 have gm:=dt.size
 have dw:=gl.trans dt
 have cb:=cw.ext dt
 have cx:=gj.ext dt
 refine Bq (!(Ef p)) Z Z Aa<|Ai ?_
 cases jc:(!(Ef p))
 ·refine Aj (by first|rfl|exact zW jc)<|A2<|A0<|fC [0,3,0,0,0,0,0,0] Z<|Ad 1 Z<|At 139 [] [] [zP w.heap.size,zI f] Z Z bJ Aa (KY _ dp (zP w.heap.size) (p) _ (RN.box cb (RP.mk'<|hp.ext (An<|Av dp) dw) sM) _hf hz) ?_
  rintro e6 w6 ⟨rfl,du⟩
  refine⟨_,rfl,du,?_⟩
  have ky:=du.size
  have dv:=dw.trans du
  have bm:=cb.ext du
  have cc:=cx.ext du
  refine Bq (!(Ng p f)) Z Z Aa<|Ad 1 Z ?_
  cases lr:(!(Ng p f))
  ·refine Ad 1 Z<|AG 74 [] [] [zI n,zI ((0:Nat):Int),zI ((8:Nat):Int)] Z Z II (Ae (e:=20) Z Z Z) (.bool (decide (((0:Nat):Int)≤n) && decide (n≤((8:Nat):Int)))) (fun wq=>BC wq _ _ _ _hn oM oM)<|Bq (!(decide (((0:Nat):Int)≤n) && decide (n≤((8:Nat):Int)))) Z Z (Ae (e:=20) Z Z Z)<|Ac 1 Z ?_
   cases jd:(!(decide (((0:Nat):Int)≤n) && decide (n≤((8:Nat):Int))))
   ·refine Aj (by first|rfl|exact zW jd)<|A2<|fC [3,3,4] Z ?_
    have hokp:Ef p=true:=By AC
    have hrn:Ng p f=true:=by first|assumption|exact By AC
    have hin:Ey n 0 8=true:=by first|assumption|exact By AC
    have av:MJ p f n=0:=Us (Es hokp hrn) hin
    have gn:=Ru av
    have ls:=Gk.1 gn.2.1
    have m8:=CM gn.1
    have hpl:=NJ gn.1
    have hpar:=m8.par f.toNat oM
    have mr:=m8.outs f.toNat oM
    have hft:(f.toNat:Int)=f:=by omega
    have hnt:(n.toNat:Int)=n:=by omega
    have hszx:=hz.lp (n:=n) m8 (f:=f) oM
    refine At 140 [] [] [zP w.heap.size] Z Z bK Aa (Io _ dp (zP w.heap.size) (p) (RN.box bm (RP.mk'<|hp.ext (An<|Av dp) dv) sM) hz oM) ?_
    rintro ms f2 ⟨lv,rfl,bs,dx⟩
    refine⟨_,rfl,bs,?_⟩
    have je:=bs.size
    have go:=dv.trans bs
    have cd:=bm.ext bs
    have ce:=cc.ext bs
    have kz:=cd.lt
    have l0:=ce.lt
    refine AU (z:=.agg #[zN]) IJ Aa fun me bt gp d6=>?_
    have dy:=bt.size
    have d7:=go.trans bt
    have d8:=cd.ext bt
    have d9:=ce.ext bt
    have aw:=dx.ext (Ak<|Am 153 dp) bt
    replace d6:BX me.heap f2.heap.size [zN]:=d6
    refine B2 (vs:=[lv]) Ba Z Z (by intro u hu;simp only[ze,z2,or_false]at hu;rcases hu with rfl <;> first|exact⟨rfl,rfl⟩|exact AV aw.isSlS) d6 Z Z Aa fun f1 bu gq cr=>?_
    replace cr:BX f1.heap f2.heap.size [lv]:=cr
    have dz:me.heap.size≤f1.heap.size:=bu.size
    have ct:AD w f1:=bu.below d7 (fun _ h=>zE h) d7.size
    have cu:=d8.chg bu (zB ·)
    have da:=d9.chg bu (zB ·)
    have e0:=aw.chg (Ak<|Am 153 dp) bu fun _ h=>zA h
    refine Ai<|fC [0,2,0,0,0,2,0,3,4] Z<|Al (p:=zP w.heap.size) 0 B8 Z Z Aa<|Ag (p:=Ap (zP w.heap.size) 0) (.inr Z) vp Bt Z (cu.ldp (i:=0) sM) Aa<|Ad 1 Z<|AE (v:=vp) ((f).toNat) Du BD Z Z hp.isSl oM sD Aa ?_
    obtain⟨cs18,gr,e1⟩:=hp.get (Av dp) Fn.zero (k:=(f).toNat) sD
    obtain⟨l1,rfl,e2⟩:=RF.of gr
    have cy:=e2.rn.lenle
    unfold maxLen at cy
    refine AB (p:=AA vp ((f).toNat) 3) 1 BI Z (e1 _<|Ax.of_ext [] ct) Aa<|Ag (p:=Ap (AA vp ((f).toNat) 3) 1) (.inr Z) (zI<|(p.getD ((f).toNat) Fn.zero).params) AI Z ((e1 _<|Ax.of_ext [] ct).ld (i:=1) (by simp[DT,E2])) Aa ?_
    have e3:∀(wq:World),(Instr.build 49 #[(0,.string (⟨#[108,111,111,112]⟩)),(1,zI ((p.getD ((f).toNat) Fn.zero).params))]).run Tryz.prog wq=.ok (.agg #[.string (⟨#[108,111,111,112]⟩),zI ((p.getD ((f).toNat) Fn.zero).params),zN]) wq:=by intro wq;kernel_rfl
    refine Bh (ps:=#[(0,.string<|⟨#[108,111,111,112]⟩),(1,zI<|(p.getD ((f).toNat) Fn.zero).params)]) (.agg #[.string<|⟨#[108,111,111,112]⟩,zI<|(p.getD ((f).toNat) Fn.zero).params,zN]) MA (fun wq=>e3  wq) Aa ?_
    have l2:=cu.lt
    have l3:=da.lt
    have l4:=cr.lt
    refine AU (z:=.agg #[.string ByteArray.empty,zI 0,zN]) MK Aa fun mf bg gs db=>?_
    have e5:=bg.size
    have dc:=ct.trans bg
    have bn:=cu.ext bg
    have bo:=da.ext bg
    have bp:=e0.ext (Ak<|Am 153 dp) bg
    have cv:=cr.ext bg
    replace db:BX mf.heap f1.heap.size [.string ByteArray.empty,zI 0,zN]:=db
    refine B2 (vs:=[.string<|⟨#[108,111,111,112]⟩,zI<|(p.getD ((f).toNat) Fn.zero).params,zN]) DS Z Z (by intro u hu;simp only[ze,z2,or_false]at hu;rcases hu with rfl|rfl|rfl <;> first|exact⟨rfl,rfl⟩) db Z Z Aa fun f3 bh gt dd=>?_
    replace dd:BX f3.heap f1.heap.size [.string (⟨#[108,111,111,112]⟩),zI ((p.getD ((f).toNat) Fn.zero).params),zN]:=dd
    have jf:mf.heap.size≤f3.heap.size:=bh.size
    have gu:AD w f3:=bh.below dc (fun _ h=>zE h) dc.size
    have e7:=bn.chg bh (zB ·)
    have e8:=bo.chg bh (zB ·)
    have e9:=bp.chg (Ak<|Am 153 dp) bh fun _ h=>zA h
    have ea:=cv.chg bh (zB ·)
    refine Ai<|A0<|fE Z<|A3 ?_
    refine AW (S:=Nat×Value) (fun⟨k,vo⟩=>([(10,zI (k:Int)),(1,zI f),(2,zI n),(3,zP w.heap.size),(6,zP w1.heap.size),(8,zP f2.heap.size),(9,zP f1.heap.size)])) (fun⟨k,vo⟩ W=>AD w W∧Fr (CA 5 (Ga 153 dp) 153) f3.heap.size W.heap.size W.heap vo (Cy f.toNat (p.getD f.toNat Fn.zero).params.toNat n.toNat 0 k)∧Fr (CA 3 (KH 153 dp) 49) w6.heap.size f2.heap.size W.heap lv p∧BX W.heap w.heap.size [vp]∧BX W.heap w1.heap.size [zN]∧BX W.heap f2.heap.size [lv]∧BX W.heap f1.heap.size [.string<|⟨#[108,111,111,112]⟩,zI<|(p.getD ((f).toNat) Fn.zero).params,vo]∧k≤(p.getD f.toNat Fn.zero).outs.length∧f2.heap.size≤f3.heap.size∧f2.heap.size≤f1.heap.size∧w.heap.size≤w6.heap.size∧w1.heap.size<w6.heap.size∧w.heap.size<f3.heap.size∧w1.heap.size<f3.heap.size∧f2.heap.size<f3.heap.size∧f1.heap.size<f3.heap.size∧f3.heap.size≤W.heap.size∧w6.heap.size≤W.heap.size) (fun⟨k,vo⟩=>(p.getD f.toNat Fn.zero).outs.length-k) (0,zN) ⟨rfl,rfl,rfl,rfl,rfl,rfl,rfl,trivial⟩ ⟨gu,(Cq _ 0 _).up<|Ak<|Aq 153 dp,e9,e7,e8,ea,dd,oM,oM,oM,oM,oM,oM,oM,oM,oM,oM,oM⟩ ?_
    clear ja kw gh gi jb kx gf gk gl dt gm dw du dx bs gp bt dy d7 aw gq bu dz ct cu da e0 cy gs bg e5 dc bn bo bp gt bh e7 e8 e9 ea
    rintro⟨k,vo⟩ ρ33 f9 ⟨de,ax,ay,a5,a6,a7,a2,gv,gw,gx,gy,eb,jg,jh,ji,jj,jk,jl⟩
    have jm:w.heap.size≤f9.heap.size:=de.size
    have l5:=a5.lt
    have l6:=a6.lt
    have l7:=a7.lt
    have l8:=a2.lt
    refine A0<|fC [0,0,2,0] Z<|Ad 1 Z<|Al (p:=zP f1.heap.size) 1 BI Z Z Aa<|Ag (p:=Ap (zP f1.heap.size) 1) (.inr Z) (zI<|(p.getD ((f).toNat) Fn.zero).params) AI Z (a2.ldp (i:=1) sM) Aa ?_
    by_cases ec:(k:Int)<(p.getD ((f).toNat) Fn.zero).params
    ·refine AJ true Z Z (A5 ec) Aa<|Ai<|Af Z<|A2<|A0<|A3<|fC [0,0,0,0,3,4] Z<|Ad 3 Z ?_
     have ed:∀(wq:World),(Instr.build 153 #[(0,zI ((11:Nat):Int)),(1,zI f),(2,zI (k:Int)),(3,zI n)]).run Tryz.prog wq=.ok (.agg #[zI ((11:Nat):Int),zI f,zI (k:Int),zI n,zN]) wq:=by intro wq;kernel_rfl
     refine Bh (ps:=#[(0,zI ((11:Nat):Int)),(1,zI f),(2,zI (k:Int)),(3,zI n)]) (.agg #[zI ((11:Nat):Int),zI f,zI (k:Int),zI n,zN]) MA (fun wq=>ed  wq) Aa ?_
     have l9:=a5.lt
     have la:=a6.lt
     have lb:=a7.lt
     have lc:=a2.lt
     refine AU (z:=.agg #[zI 0,zI 0,zI 0,zI 0,zN]) Ec Aa fun mg az gz df=>?_
     have ee:=az.size
     have dg:=de.trans az
     have ag:=ax.ext (Ak<|Aq 153 dp) az
     have ah:=ay.ext (Ak<|Am 153 dp) az
     have ai:=a5.ext az
     have aj:=a6.ext az
     have ak:=a7.ext az
     have al:=a2.ext az
     replace df:BX mg.heap f9.heap.size [zI 0,zI 0,zI 0,zI 0,zN]:=df
     refine B2 (vs:=[zI ((11:Nat):Int),zI f,zI (k:Int),zI n,zN]) AX Z Z (by intro u hu;simp only[ze,z2,or_false]at hu;rcases hu with rfl|rfl|rfl|rfl|rfl <;> first|exact⟨rfl,rfl⟩) df Z Z Aa fun fs b0 i0 dh=>?_
     replace dh:BX fs.heap f9.heap.size [zI ((11:Nat):Int),zI f,zI (k:Int),zI n,zN]:=dh
     have jn:mg.heap.size≤fs.heap.size:=b0.size
     have i1:AD w fs:=b0.below dg (fun _ h=>zE h) dg.size
     have ef:=ag.chg (Ak<|Aq 153 dp) b0 fun _ h=>zA h
     have eg:=ah.chg (Ak<|Am 153 dp) b0 fun _ h=>zA h
     have eh:=ai.chg b0 (zB ·)
     have ei:=aj.chg b0 (zB ·)
     have ej:=ak.chg b0 (zB ·)
     have ek:=al.chg b0 (zB ·)
     refine Ai<|A0<|fE Z<|A3 ?_
     refine AW (S:=Nat×Value) (fun⟨i,vk⟩=>([(12,zI (i:Int)),(1,zI f),(2,zI n),(3,zP w.heap.size),(6,zP w1.heap.size),(8,zP f2.heap.size),(9,zP f1.heap.size),(10,zI (k:Int)),(11,zP f9.heap.size)])) (fun⟨i,vk⟩ W=>AD w W∧Fr (CA 5 (Ga 153 1) 153) fs.heap.size W.heap.size W.heap vk (E7 0 i)∧Fr (CA 5 (Ga 153 dp) 153) f3.heap.size f9.heap.size W.heap vo (Cy f.toNat (p.getD f.toNat Fn.zero).params.toNat n.toNat 0 k)∧Fr (CA 3 (KH 153 dp) 49) w6.heap.size f2.heap.size W.heap lv p∧BX W.heap w.heap.size [vp]∧BX W.heap w1.heap.size [zN]∧BX W.heap f2.heap.size [lv]∧BX W.heap f1.heap.size [.string<|⟨#[108,111,111,112]⟩,zI<|(p.getD ((f).toNat) Fn.zero).params,vo]∧BX W.heap f9.heap.size [zI ((11:Nat):Int),zI f,zI (k:Int),zI n,vk]∧i≤(p.getD f.toNat Fn.zero).params.toNat∧f9.heap.size≤fs.heap.size∧f9.heap.size≤f9.heap.size∧f2.heap.size≤f3.heap.size∧f2.heap.size≤fs.heap.size∧f2.heap.size≤f1.heap.size∧w.heap.size≤w6.heap.size∧w1.heap.size<w6.heap.size∧w.heap.size<fs.heap.size∧w1.heap.size<fs.heap.size∧f2.heap.size<fs.heap.size∧f1.heap.size<fs.heap.size∧f9.heap.size<fs.heap.size∧fs.heap.size≤W.heap.size∧f3.heap.size≤W.heap.size∧w6.heap.size≤W.heap.size) (fun⟨i,vk⟩=>(p.getD f.toNat Fn.zero).params.toNat-i) (0,zN) ⟨rfl,rfl,rfl,rfl,rfl,rfl,rfl,rfl,rfl,trivial⟩ ⟨i1,(Cq _ 0 _).up<|Ak<|Aq 153 1,ef,eg,eh,ei,ej,ek,dh,oM,oM,oM,oM,oM,oM,oM,oM,oM,oM,oM,oM,oM,oM,oM,oM⟩ ?_
     clear a2 a7 a6 a5 ay ax gz az ee dg ag ah ai aj ak al i0 b0 ef eg eh ei ej ek
     rintro⟨i,vk⟩ ρ59 m5 ⟨di,cf,cg,ch,bi,bj,bk,ab,ac,i2,huw,huf,hwb,gw,gx,gy,eb,jo,jp,jq,jr,js,jt,ju,jv⟩
     have jw:w.heap.size≤m5.heap.size:=di.size
     have lf:=bi.lt
     have lg:=bj.lt
     have lh:=bk.lt
     have li:=ab.lt
     have lj:=ac.lt
     refine A0<|fC [0,0,2,0] Z<|Ad 1 Z<|Al (p:=zP f1.heap.size) 1 BI Z Z Aa<|Ag (p:=Ap (zP f1.heap.size) 1) (.inr Z) (zI<|(p.getD ((f).toNat) Fn.zero).params) AI Z (ab.ldp (i:=1) sM) Aa ?_
     by_cases el:(i:Int)<(p.getD ((f).toNat) Fn.zero).params
     ·refine AJ true Z Z (A5 el) Aa<|Ai<|Af Z<|A2<|A0<|A3<|Ab _ [0,2,0,0,3,4,0,4] Z<|Al (p:=zP f9.heap.size) 4 AY Z Z Aa<|Ag (p:=Ap (zP f9.heap.size) 4) (.inr Z) vk B7 Z (ac.ldp (i:=4) sM) Aa<|Ad 1 Z ?_
      have em:∀(wq:World),(Instr.build 153 #[(0,zI ((2:Nat):Int)),(1,zI (i:Int))]).run Tryz.prog wq=.ok (.agg #[zI ((2:Nat):Int),zI (i:Int),zI 0,zI 0,zN]) wq:=by intro wq;kernel_rfl
      refine Bh (ps:=#[(0,zI ((2:Nat):Int)),(1,zI (i:Int))]) (.agg #[zI ((2:Nat):Int),zI (i:Int),zI 0,zI 0,zN]) MA (fun wq=>em  wq) Aa (Cw (cs:=[zI ((2:Nat):Int),zI (i:Int),zI 0,zI 0,zN]) (y:=.mk 2 (i:Int) 0 0 []) (B:=m5.heap.size) (Aq 153 1) Cc B3 Z (by decide) Z (Gg.mk1 (d:=1) (x:=.mk 2 (i:Int) 0 0 []) oM (FQ oM oM oM oM)<|Cq _ 0 _) oM Aa fun ml mm af lk i3=>?_)
      have jx:=af.size
      have en:=di.trans af
      have bv:=cf.ext (Ak<|Aq 153 1) af
      have bw:=cg.ext (Ak<|Aq 153 dp) af
      have bx:=ch.ext (Ak<|Am 153 dp) af
      have bz:=bi.ext af
      have c0:=bj.ext af
      have c1:=bk.ext af
      have c2:=ab.ext af
      have c3:=ac.ext af
      refine D8 (v:=vk) (a:=ml) (Aq 153 1) Cc B3 Z (by decide) Z Z bv oM i3 oM oM (by rw[FT];omega) (by rw[FT];unfold maxLen;omega) Aa fun mh m6 mt b1 b7 eo=>?_
      have jy:mm.heap.size≤m6.heap.size:=b1.size
      have ep:AD w m6:=b1.below en (fun c hc=>zH<|b7 _ hc) en.size
      have i4:=bw.chg (Ak<|Aq 153 dp) b1 fun c hc=>zH<|b7 _ hc
      have i5:=bx.chg (Ak<|Am 153 dp) b1 fun c hc=>zH<|b7 _ hc
      have i6:=bz.chg b1 fun hm=>zH<|b7 _ hm
      have i7:=c0.chg b1 fun hm=>zH<|b7 _ hm
      have i8:=c1.chg b1 fun hm=>zH<|b7 _ hm
      have i9:=c2.chg b1 fun hm=>zH<|b7 _ hm
      have ia:=c3.chg b1 fun hm=>zH<|b7 _ hm
      refine Al (p:=zP f9.heap.size) 4 AY Z Z Aa (Bc (k:=4) (w:=m6) Ia Z Z (AV eo.isSlS) ia sM Aa fun m9 b2 ll dj=>?_)
      replace dj:BX m9.heap f9.heap.size [zI ((11:Nat):Int),zI f,zI (k:Int),zI n,mh]:=dj
      have jz:m6.heap.size≤m9.heap.size:=b2.size
      have ib:AD w m9:=b2.below ep (fun _ h=>zE h) ep.size
      have ic:=i4.chg (Ak<|Aq 153 dp) b2 fun _ h=>zA h
      have id:=i5.chg (Ak<|Am 153 dp) b2 fun _ h=>zA h
      have ie:=i6.chg b2 (zB ·)
      have ig:=i7.chg b2 (zB ·)
      have ih:=i8.chg b2 (zB ·)
      have ii:=i9.chg b2 (zB ·)
      have ij:=eo.chg (Ak<|Aq 153 1) b2 fun _ h=>zA h
      exact Ai<|Ab _ [0,0,0] Z<|Ad 1 Z<|AR ((i+1:Nat):Int) Z Z (Bl oM oM) Aa<|Ac 1 Z ⟨(i+1,mh),_,rfl,zR,⟨ib,(by rw[Ix,Nat.zero_add];exact ij.up (Ak<|Aq 153 1)),ic,id,ie,ig,ih,ii,dj,oM,oM,oM,oM,oM,oM,oM,oM,oM,oM,oM,oM,oM,oM,oM,oM⟩,zD⟩
     refine AJ false Z Z (A6 el) Aa<|Ai<|Aj Z<|A4<|Az<|Az<|Aw<|Ab _ [0,2,2,3,4,0,4] Z ?_
     have hik:i=(p.getD f.toNat Fn.zero).params.toNat:=by omega
     have hkm:Fr (CA 5 (Ga 153 1) 153) fs.heap.size m5.heap.size m5.heap vk (E7 0 (p.getD f.toNat Fn.zero).params.toNat):=by rw[← hik];exact cf
     refine Al (p:=zP f1.heap.size) 2 Br Z Z Aa<|Ag (p:=Ap (zP f1.heap.size) 2) (.inr Z) vo B7 Z (ab.ldp (i:=2) sM) Aa<|AF (p:=zP f9.heap.size) (.inr Z) [zI ((11:Nat):Int),zI f,zI (k:Int),zI n,vk] AX Z (fun mi eq=>LD.of_box<|BX.ext (w:=m5) ac eq) Z Aa ?_
     refine Cw (cs:=[zI ((11:Nat):Int),zI f,zI (k:Int),zI n,vk]) (y:=.mk 11 f (k:Int) n<|E7 0 (p.getD f.toNat Fn.zero).params.toNat) (B:=fs.heap.size) (Aq 153 dp) Cc B3 Z (by decide) Z (Gg.le (Gg.mk1 (d:=2) (x:=.mk 11 f (k:Int) n<|E7 0 (p.getD f.toNat Fn.zero).params.toNat) oM (FQ oM oM oM oM) hkm) oM) oM Aa fun mn mo b3 lm ik=>?_
     have k0:=b3.size
     have er:=di.trans b3
     have c4:=cg.ext (Ak<|Aq 153 dp) b3
     have c5:=ch.ext (Ak<|Am 153 dp) b3
     have c6:=bi.ext b3
     have c7:=bj.ext b3
     have c8:=bk.ext b3
     have c9:=ab.ext b3
     have ca:=ac.ext b3
     refine D8 (v:=vo) (a:=mn) (Aq 153 dp) Cc B3 Z (by decide) Z Z c4 oM ik oM oM (by rw[Dl];omega) (by rw[Dl];unfold maxLen;omega) Aa fun mj m7 mu b8 bl es=>?_
     have k1:mo.heap.size≤m7.heap.size:=b8.size
     have et:AD w m7:=b8.below er (fun c hc=>zH<|bl _ hc) er.size
     have il:=c5.chg (Ak<|Am 153 dp) b8 fun c hc=>zH<|bl _ hc
     have im:=c6.chg b8 fun hm=>zH<|bl _ hm
     have io:=c7.chg b8 fun hm=>zH<|bl _ hm
     have ip:=c8.chg b8 fun hm=>zH<|bl _ hm
     have iq:=c9.chg b8 fun hm=>zH<|bl _ hm
     have ir:=ca.chg b8 fun hm=>zH<|bl _ hm
     refine Al (p:=zP f1.heap.size) 2 Br Z Z Aa (Bc (k:=2) (w:=m7) Ia Z Z (AV es.isSlS) iq sM Aa fun ma b9 ln dk=>?_)
     replace dk:BX ma.heap f1.heap.size [.string (⟨#[108,111,111,112]⟩),zI ((p.getD ((f).toNat) Fn.zero).params),mj]:=dk
     have k2:m7.heap.size≤ma.heap.size:=b9.size
     have is:AD w ma:=b9.below et (fun _ h=>zE h) et.size
     have it:=il.chg (Ak<|Am 153 dp) b9 fun _ h=>zA h
     have iu:=im.chg b9 (zB ·)
     have iv:=io.chg b9 (zB ·)
     have iw:=ip.chg b9 (zB ·)
     have k3:=ir.chg b9 (zB ·)
     have eu:=es.chg (Ak<|Aq 153 dp) b9 fun _ h=>zA h
     exact Ai<|Ab _ [0,0,0] Z<|Ad 1 Z<|AR ((k+1:Nat):Int) Z Z (Bl oM oM) Aa<|Ac 1 Z ⟨(k+1,mj),_,rfl,zR,⟨is,(by rw[Ho,Nat.zero_add,hft,hnt];exact eu.up (Ak<|Aq 153 dp)),it,iu,iv,iw,dk,oM,oM,oM,oM,oM,oM,oM,oM,oM,oM,oM⟩,zD⟩
    refine AJ false Z Z (A6 ec) Aa<|Ai<|Aj Z<|A4<|Az<|Az<|Aw<|A0<|fC [0] Z ?_
    have hkk:k=(p.getD f.toNat Fn.zero).outs.length:=by omega
    have hrm:Fr (CA 5 (Ga 153 dp) 153) f3.heap.size f9.heap.size f9.heap vo (Cy f.toNat (p.getD f.toNat Fn.zero).params.toNat n.toNat 0 (p.getD f.toNat Fn.zero).outs.length):=by rw[← hkk];exact ax
    refine Ac 1 Z<|A3 ?_
    refine AW (S:=Nat) (fun i=>([(13,zI (i:Int)),(3,zP w.heap.size),(6,zP w1.heap.size),(8,zP f2.heap.size),(9,zP f1.heap.size)])) (fun i W=>AD w W∧Fr (CA 5 (Ga 153 dp) 153) f3.heap.size f9.heap.size W.heap vo (Cy f.toNat (p.getD f.toNat Fn.zero).params.toNat n.toNat 0 (p.getD f.toNat Fn.zero).outs.length)∧Fr (CA 3 (KH 153 dp) 49) w6.heap.size f2.heap.size W.heap lv p∧BX W.heap w.heap.size [vp]∧BX W.heap w1.heap.size [zN]∧BX W.heap f2.heap.size [lv]∧BX W.heap f1.heap.size [.string<|⟨#[108,111,111,112]⟩,zI<|(p.getD ((f).toNat) Fn.zero).params,vo]∧i≤p.length∧(w1.heap.size<w6.heap.size∧w1.heap.size<f3.heap.size)∧(∀j,j<i→DA (p.getD j Fn.zero).name (⟨#[108,111,111,112]⟩:ByteArray)=false)∧f3.heap.size≤W.heap.size∧w6.heap.size≤W.heap.size) (fun i=>p.length-i) 0 ⟨rfl,rfl,rfl,rfl,rfl,trivial⟩ ⟨de,hrm,ay,a5,a6,a7,a2,oM,oM,(by intro j hj;omega),oM,oM⟩ ?_
    clear a2 a7 a6 a5 ay ax
    rintro i ρ102 fx ⟨ad,b4,b5,a0,aa,a3,a1,gg,eb,hnj,ix,iy⟩
    have iz:w.heap.size≤fx.heap.size:=ad.size
    have k4:=a0.lt
    have k5:=aa.lt
    have k6:=a3.lt
    have k7:=a1.lt
    refine A0<|fC [0,0,2,0,0] Z<|Ad 1 Z<|Al (p:=zP w.heap.size) 0 B8 Z Z Aa<|Ag (p:=Ap (zP w.heap.size) 0) (.inr Z) vp Bt Z (a0.ldp (i:=0) sM) Aa<|AS (v:=vp) Du Z hp.isSl Aa ?_
    by_cases cz:(i:Int)<(p.length:Int)
    ·refine AJ true Z Z (A5 cz) Aa<|Ai<|Af Z<|A2<|A0<|A3<|A0<|AQ _ [0,1,0,0,0,1,0,1,0] mixed (by kernel_rfl)<|Al (p:=zP w.heap.size) 0 B8 Z Z Aa<|Ag (p:=Ap (zP w.heap.size) 0) (.inl Z) vp Bt Z (a0.ldp (i:=0) sM) Aa<|Ad 1 Z ?_
     refine AE (v:=vp) i Du BD Z Z hp.isSl Z sD Aa ?_
     obtain⟨cs110,ev,d0⟩:=hp.get (Av dp) Fn.zero (k:=i) sD
     obtain⟨k8,rfl,ew⟩:=RF.of ev
     have dl:=ew.rn.lenle
     unfold maxLen at dl
     refine AB (p:=AA vp i 3) 0 EF Z (d0 _<|Ax.of_ext [] ad.drew) Aa<|Ag (p:=Ap (AA vp i 3) 0) (.inl Z) (.string<|(p.getD i Fn.zero).name) K1 Z ((d0 _<|Ax.of_ext [] ad.drew).ld (i:=0) (by simp[DT,E2])) Aa<|Al (p:=zP f1.heap.size) 0 EF Z Z Aa<|Ag (p:=Ap (zP f1.heap.size) 0) (.inl Z) (.string<|⟨#[108,111,111,112]⟩) K1 Z (a1.ldp (i:=0) sM) Aa ?_
     cases d1:DA ((p.getD i Fn.zero).name) (⟨#[108,111,111,112]⟩)
     ·refine Ke false u9 Z Z d1 Aa<|Ai<|Aj Z<|A2<|Ab _ [0,0,0] Z<|Ad 1 Z<|AR ((i+1:Nat):Int) Z Z (Bl oM oM) Aa<|Ac 1 Z ?_
      have hdrw:fx.drew.heap.size=fx.heap.size:=rfl
      exact⟨i+1,_,rfl,zR,⟨ad.drew,b4,b5,a0,aa,a3,a1,oM,oM,(by intro j hj;by_cases h9:j=i;(subst h9;assumption);exact hnj j oM),oM,oM⟩,zD⟩
     refine Ke true u9 Z Z d1 Aa<|Ai<|Af Z<|fC [0,4,0] Z ?_
     have dm:∀(wq:World),(Instr.build 26 #[]).run Tryz.prog wq=.ok (.agg #[zN]) wq:=by intro wq;kernel_rfl
     refine Bh (ps:=#[]) (.agg #[zN]) HL (fun wq=>dm  wq) Aa (B2 (vs:=[zN]) Ba Z Z HK aa Z Z Aa fun lx a4 k9 ci=>?_)
     replace ci:BX lx.heap w1.heap.size [zN]:=ci
     replace a4:=a4.of_drew
     have j0:fx.heap.size≤lx.heap.size:=a4.size
     have ex:AD w lx:=a4.below ad (fun _ h=>zE h) ad.size
     have ka:=b4.chg (Ak<|Aq 153 dp) a4 fun _ h=>zA h
     have kb:=b5.chg (Ak<|Am 153 dp) a4 fun _ h=>zA h
     have kc:=a0.chg a4 (zB ·)
     have kd:=a3.chg a4 (zB ·)
     have ke:=a1.chg a4 (zB ·)
     refine Ac 1 Z<|A1<|AL<|Ao<|Ao<|AL<|Ao ?_
     have hcd:H0 p f n=((4:Nat):Int):=by first|exact Ft av (Kt (k:=i) oM AC)|exact Di av hnm (Bz AC)|exact Dt av hnm (By AC)|(have h9:=No (f:=f) (Bz AC);rw[D0 oM];exact h9)|(have h9:=HC (f:=f) (By AC) AC;rw[D0 oM];exact h9)|(have h9:=HC (f:=f) (By AC) (Bz AC);rw[D0 oM];exact h9)|exact D1 (Es (By AC) AC) (Bz AC)|exact D1 (Es (By AC) (By AC)) (Bz AC)|exact D1 (Es (By AC) AC) AC
     exact BV (t0:=7) (ts:=[]) (cs:=[zN]) [zI ((4:Nat):Int)] Z Ba Z ci Z Z ⟨_,by rw[hcd],ex,HM⟩
    refine AJ false Z Z (A6 cz) Aa<|Ai<|Aj Z<|A4<|Az<|Az<|Aw<|fC [0,2,2,3,4,0,4] Z ?_
    have hnm:M6 p=false:=Zo fun j hj=>hnj j oM
    refine Al (p:=zP f2.heap.size) 0 B8 Z Z Aa<|Ag (p:=Ap (zP f2.heap.size) 0) (.inr Z) lv Bt Z (a3.ldp (i:=0) sM) Aa<|AF (p:=zP f1.heap.size) (.inr Z) [.string<|⟨#[108,111,111,112]⟩,zI<|(p.getD ((f).toNat) Fn.zero).params,vo] DS Z (fun mi eq=>LD.of_box<|BX.ext (w:=fx) a1 eq) Z Aa ?_
    refine Cw (cs:=[.string<|⟨#[108,111,111,112]⟩,zI<|(p.getD ((f).toNat) Fn.zero).params,vo]) (y:=Fn.mk (⟨#[108,111,111,112]⟩) ((p.getD ((f).toNat) Fn.zero).params)<|Cy f.toNat (p.getD f.toNat Fn.zero).params.toNat n.toNat 0 (p.getD f.toNat Fn.zero).outs.length) (B:=f3.heap.size) (Am 153 dp) Du BD Z (by decide) Z (Gg.mkF (x:=⟨⟨#[108,111,111,112]⟩,(p.getD ((f).toNat) Fn.zero).params,Cy f.toNat (p.getD f.toNat Fn.zero).params.toNat n.toNat 0 (p.getD f.toNat Fn.zero).outs.length⟩) (Ja (a:=(p.getD ((f).toNat) Fn.zero).params) e2.rng) b4) oM Aa fun mb mc ae kf ey=>?_
    have j1:=ae.size
    have d2:=ad.trans ae
    have ba:=b5.ext (Ak<|Am 153 dp) ae
    have bb:=a0.ext ae
    have bc:=aa.ext ae
    have bd:=a3.ext ae
    have be:=a1.ext ae
    refine SH (v:=lv) (a:=mb) (Am 153 dp) Du BD Z (by decide) Z Z ba ey oM oM (by unfold maxLen;omega) Aa fun fe lw mp am bf d3=>?_
    have j2:mc.heap.size≤lw.heap.size:=am.size
    have d4:AD w lw:=am.below d2 (fun c hc=>zH<|bf _ hc) d2.size
    have ez:=bb.chg am fun hm=>zH<|bf _ hm
    have g0:=bc.chg am fun hm=>zH<|bf _ hm
    have g1:=bd.chg am fun hm=>zH<|bf _ hm
    have g2:=be.chg am fun hm=>zH<|bf _ hm
    refine Al (p:=zP f2.heap.size) 0 B8 Z Z Aa (Bc (k:=0) (w:=lw) PX Z Z (AV<|Ny.isSlS d3) g1 sM Aa fun lu an kg bq=>?_)
    replace bq:BX lu.heap f2.heap.size [fe]:=bq
    have j3:lw.heap.size≤lu.heap.size:=an.size
    have g3:AD w lu:=an.below d4 (fun _ h=>zE h) d4.size
    have g4:=ez.chg an (zB ·)
    have g5:=g0.chg an (zB ·)
    have g6:=g2.chg an (zB ·)
    have g7:=d3.chg (Ak<|Am 153 dp) an fun c hc=>by have:=A9 hc;intro lo;(try dsimp only at lo);omega
    refine Ai<|A0<|fC [3,0] Z ?_
    have hfr:Fr (CA 3 (KH 153 dp) 49) w6.heap.size lu.heap.size lu.heap fe (DY p f n):=g7.fr (Ak (Am 153 dp)) (B:=w6.heap.size) (fun b hb=>by(try dsimp only at hb);omega)
    refine At 138 [] [] [zP f2.heap.size] Z Z Uz Aa (Hs _ dp (zP f2.heap.size) (DY p f n) (RN.box bq (RP.mk'<|RN.of_frF2 hfr fun b hb=>by cases hb) sM) hszx) ?_
    rintro mq ly ⟨rfl,a9⟩
    refine⟨_,rfl,a9,?_⟩
    have j4:=a9.size
    have br:=g3.trans a9
    have ao:=g4.ext a9
    have ap:=g5.ext a9
    have a8:=bq.ext a9
    have aq:=g6.ext a9
    have b6:=hfr.ext (Ak<|Am 153 dp) a9
    refine Bq (!(Ef<|DY p f n)) Z Z Aa<|Ai ?_
    cases d5:(!(Ef (DY p f n)))
    ·refine Aj (by first|rfl|exact zW d5)<|A2<|fC [2,4,0] Z<|AF (p:=zP f2.heap.size) (.inr Z) [fe] Ba Z (fun mi eq=>LD.of_box<|BX.ext (w:=ly) a8 eq) Z Aa (B2 (vs:=[fe]) Ba Z Z (by intro u hu;simp only[ze,z2,or_false]at hu;rcases hu with rfl <;> first|exact⟨rfl,rfl⟩|exact AV b6.isSlS) ap Z Z Aa fun lz ar kh cj=>?_)
     replace cj:BX lz.heap w1.heap.size [fe]:=cj
     have j5:ly.heap.size≤lz.heap.size:=ar.size
     have g8:AD w lz:=ar.below br (fun _ h=>zE h) br.size
     have ki:=ao.chg ar (zB ·)
     have kj:=a8.chg ar (zB ·)
     have kk:=aq.chg ar (zB ·)
     have g9:=b6.chg (Ak<|Am 153 dp) ar fun _ h=>zA h
     refine Ac 1 Z<|A1 ?_
     have hcd:H0 p f n=((0:Nat):Int):=by first|exact Ft av (Kt (k:=i) oM AC)|exact Di av hnm (Bz AC)|exact Dt av hnm (By AC)|(have h9:=No (f:=f) (Bz AC);rw[D0 oM];exact h9)|(have h9:=HC (f:=f) (By AC) AC;rw[D0 oM];exact h9)|(have h9:=HC (f:=f) (By AC) (Bz AC);rw[D0 oM];exact h9)|exact D1 (Es (By AC) AC) (Bz AC)|exact D1 (Es (By AC) (By AC)) (Bz AC)|exact D1 (Es (By AC) AC) AC
     exact BV (t0:=7) (ts:=[]) (cs:=[fe]) [zI ((0:Nat):Int)] Z Ba Z cj Z Z ⟨fe,by rw[hcd],g8,(by rw[Rr hcd];exact((g9.up<|Ak<|Am 153 dp).low (B':=w.heap.size) oM))⟩
    refine Af (by first|rfl|exact zW d5)<|fC [0,4,0] Z ?_
    have dn:∀(wq:World),(Instr.build 26 #[]).run Tryz.prog wq=.ok (.agg #[zN]) wq:=by intro wq;kernel_rfl
    refine Bh (ps:=#[]) (.agg #[zN]) HL (fun wq=>dn  wq) Aa (B2 (vs:=[zN]) Ba Z Z HK ap Z Z Aa fun m0 au kl ck=>?_)
    replace ck:BX m0.heap w1.heap.size [zN]:=ck
    have j6:ly.heap.size≤m0.heap.size:=au.size
    have ga:AD w m0:=au.below br (fun _ h=>zE h) br.size
    have km:=ao.chg au (zB ·)
    have kn:=a8.chg au (zB ·)
    have ko:=aq.chg au (zB ·)
    have kp:=b6.chg (Ak<|Am 153 dp) au fun _ h=>zA h
    refine Ac 1 Z<|A1<|Ao ?_
    have hcd:H0 p f n=((3:Nat):Int):=by first|exact Ft av (Kt (k:=i) oM AC)|exact Di av hnm (Bz AC)|exact Dt av hnm (By AC)|(have h9:=No (f:=f) (Bz AC);rw[D0 oM];exact h9)|(have h9:=HC (f:=f) (By AC) AC;rw[D0 oM];exact h9)|(have h9:=HC (f:=f) (By AC) (Bz AC);rw[D0 oM];exact h9)|exact D1 (Es (By AC) AC) (Bz AC)|exact D1 (Es (By AC) (By AC)) (Bz AC)|exact D1 (Es (By AC) AC) AC
    exact BV (t0:=7) (ts:=[]) (cs:=[zN]) [zI ((3:Nat):Int)] Z Ba Z ck Z Z ⟨_,by rw[hcd],ga,HM⟩
   refine Af (by first|rfl|exact zW jd)<|fC [0,4,0] Z ?_
   have dq:∀(wq:World),(Instr.build 26 #[]).run Tryz.prog wq=.ok (.agg #[zN]) wq:=by intro wq;kernel_rfl
   refine Bh (ps:=#[]) (.agg #[zN]) HL (fun wq=>dq  wq) Aa (B2 (vs:=[zN]) Ba Z Z HK cc Z Z Aa fun m1 cl kq cm=>?_)
   replace cm:BX m1.heap w1.heap.size [zN]:=cm
   have j7:w6.heap.size≤m1.heap.size:=cl.size
   have gb:AD w m1:=cl.below dv (fun _ h=>zE h) dv.size
   have kr:=bm.chg cl (zB ·)
   refine Ac 1 Z<|A1<|Ao ?_
   have hcd:H0 p f n=((2:Nat):Int):=by first|exact Ft av (Kt (k:=i) oM AC)|exact Di av hnm (Bz AC)|exact Dt av hnm (By AC)|(have h9:=No (f:=f) (Bz AC);rw[D0 oM];exact h9)|(have h9:=HC (f:=f) (By AC) AC;rw[D0 oM];exact h9)|(have h9:=HC (f:=f) (By AC) (Bz AC);rw[D0 oM];exact h9)|exact D1 (Es (By AC) AC) (Bz AC)|exact D1 (Es (By AC) (By AC)) (Bz AC)|exact D1 (Es (By AC) AC) AC
   exact BV (t0:=7) (ts:=[]) (cs:=[zN]) [zI ((2:Nat):Int)] Z Ba Z cm Z Z ⟨_,by rw[hcd],gb,HM⟩
  refine Ac 4 Z<|Af Z<|fC [0,4,0] Z ?_
  have dr:∀(wq:World),(Instr.build 26 #[]).run Tryz.prog wq=.ok (.agg #[zN]) wq:=by intro wq;kernel_rfl
  refine Bh (ps:=#[]) (.agg #[zN]) HL (fun wq=>dr  wq) Aa (B2 (vs:=[zN]) Ba Z Z HK cc Z Z Aa fun m2 cn ks co=>?_)
  replace co:BX m2.heap w1.heap.size [zN]:=co
  have j8:w6.heap.size≤m2.heap.size:=cn.size
  have gc:AD w m2:=cn.below dv (fun _ h=>zE h) dv.size
  have kt:=bm.chg cn (zB ·)
  refine Ac 1 Z<|A1<|Ao ?_
  have hcd:H0 p f n=((2:Nat):Int):=by first|exact Ft av (Kt (k:=i) oM AC)|exact Di av hnm (Bz AC)|exact Dt av hnm (By AC)|(have h9:=No (f:=f) (Bz AC);rw[D0 oM];exact h9)|(have h9:=HC (f:=f) (By AC) AC;rw[D0 oM];exact h9)|(have h9:=HC (f:=f) (By AC) (Bz AC);rw[D0 oM];exact h9)|exact D1 (Es (By AC) AC) (Bz AC)|exact D1 (Es (By AC) (By AC)) (Bz AC)|exact D1 (Es (By AC) AC) AC
  exact BV (t0:=7) (ts:=[]) (cs:=[zN]) [zI ((2:Nat):Int)] Z Ba Z co Z Z ⟨_,by rw[hcd],gc,HM⟩
 refine Af (by first|rfl|exact zW jc)<|fC [0,4,0] Z ?_
 have ds:∀(wq:World),(Instr.build 26 #[]).run Tryz.prog wq=.ok (.agg #[zN]) wq:=by intro wq;kernel_rfl
 refine Bh (ps:=#[]) (.agg #[zN]) HL (fun wq=>ds  wq) Aa (B2 (vs:=[zN]) Ba Z Z HK cx Z Z Aa fun m3 cp ku cq=>?_)
 replace cq:BX m3.heap w1.heap.size [zN]:=cq
 have j9:w4.heap.size≤m3.heap.size:=cp.size
 have gd:AD w m3:=cp.below dw (fun _ h=>zE h) dw.size
 have kv:=cb.chg cp (zB ·)
 refine Ac 1 Z<|A1<|Ao ?_
 have hcd:H0 p f n=((1:Nat):Int):=by first|exact Ft av (Kt (k:=i) oM AC)|exact Di av hnm (Bz AC)|exact Dt av hnm (By AC)|(have h9:=No (f:=f) (Bz AC);rw[D0 oM];exact h9)|(have h9:=HC (f:=f) (By AC) AC;rw[D0 oM];exact h9)|(have h9:=HC (f:=f) (By AC) (Bz AC);rw[D0 oM];exact h9)|exact D1 (Es (By AC) AC) (Bz AC)|exact D1 (Es (By AC) (By AC)) (Bz AC)|exact D1 (Es (By AC) AC) AC
 exact BV (t0:=7) (ts:=[]) (cs:=[zN]) [zI ((1:Nat):Int)] Z Ba Z cq Z Z ⟨_,by rw[hcd],gd,HM⟩
theorem CK {p:Prop}(h:p:=by simp[DT,E2]):p:=h
theorem MB (w:World)(dex:Nat)(va:Value)(ex:Ex)(dex2:Nat)(vb:Value)(ex2:Ex)(hex:RN [] (rP (L6 dex)) w.heap va ex)(a1:RN [] (rP (L6 dex2)) w.heap vb ex2)(hab:ex2=ex) :
  Calls Tryz.prog 209 #[va,vb] w (fun e w'=>e=.returned (.bool true)∧AD w w'):=by
 induction dex using Nat.strongRecOn generalizing w va ex dex2 vb ex2
 rename_i dex ih
 refine Au [va,vb] 84 Tryz.func209 Z Z sM ?_
 have a0:AD w w:=AD.refl w
 refine fE Z<|A0<|A0<|AQ _ [0,0,0,1,0,0,0,1,0,0,0,0,0,1,0,0,0,1,0,0,0,0,0,0,1,0,0,0,1,0,0,0,0,0,0,1,0,0,0,1,0,0,0,0,0,0,1,0,0,0,0,1,0,0,0] mixed (by kernel_rfl)<|Ad 1 Z<|AK (hex.isPtr) Z Aa ?_
 obtain⟨cs1,ag,a2⟩:=RN.at (Ay _) hex
 obtain⟨dd1,a7,ao,rfl,a8⟩:=RX.of ag
 have a6:=a8.rn.lenle
 unfold maxLen at a6
 refine AB (p:=va) 0 Bn Z (a2 _<|Ax.of_ext [] a0.drew) Aa<|Ag (p:=Ap va 0) (.inl Z) (zI ex.kind) AI Z ((a2 _<|Ax.of_ext [] a0.drew).ld (i:=0) CK) Aa<|Ad 1 Z<|AK (a1.isPtr) Z Aa ?_
 obtain⟨cs2,ah,a3⟩:=RN.at (Ay _) a1
 obtain⟨dd2,a9,ap,rfl,ab⟩:=RX.of ah
 have aa:=ab.rn.lenle
 unfold maxLen at aa
 refine AB (p:=vb) 0 Bn Z (a3 _<|Ax.of_ext [] a0.drew) Aa<|Ag (p:=Ap vb 0) (.inl Z) (zI ex2.kind) AI Z ((a3 _<|Ax.of_ext [] a0.drew).ld (i:=0) CK) Aa ?_
 have ai:¬(ex.kind≠ex2.kind):=(fun h9=>h9 (by rw[hab]))
 refine AT false Z Z (A6 ai) Aa<|Ad 2 Z<|AK (hex.isPtr) Z (Ae (e:=15) Z Z Z)<|AB (p:=va) 1 BL Z (a2 _<|Ax.of_ext [] a0.drew) (Ae (e:=15) Z Z Z)<|Ag (p:=Ap va 1) (.inl Z) (zI ex.num) AI Z ((a2 _<|Ax.of_ext [] a0.drew).ld (i:=1) CK) (Ae (e:=15) Z Z Z)<|Ad 1 Z<|AK (a1.isPtr) Z (Ae (e:=15) Z Z Z)<|AB (p:=vb) 1 BL Z (a3 _<|Ax.of_ext [] a0.drew) (Ae (e:=15) Z Z Z)<|Ag (p:=Ap vb 1) (.inl Z) (zI ex2.num) AI Z ((a3 _<|Ax.of_ext [] a0.drew).ld (i:=1) CK) (Ae (e:=15) Z Z Z) ?_
 have aj:¬(ex.num≠ex2.num):=(fun h9=>h9 (by rw[hab]))
 refine AT false Z Z (A6 aj) (Ae (e:=15) Z Z Z)<|Ad 3 Z<|AK (hex.isPtr) Z (Ae (e:=26) Z Z Z)<|AB (p:=va) 2 CN Z (a2 _<|Ax.of_ext [] a0.drew) (Ae (e:=26) Z Z Z)<|Ag (p:=Ap va 2) (.inl Z) (zI ex.pick) AI Z ((a2 _<|Ax.of_ext [] a0.drew).ld (i:=2) CK) (Ae (e:=26) Z Z Z)<|Ad 1 Z<|AK (a1.isPtr) Z (Ae (e:=26) Z Z Z)<|AB (p:=vb) 2 CN Z (a3 _<|Ax.of_ext [] a0.drew) (Ae (e:=26) Z Z Z)<|Ag (p:=Ap vb 2) (.inl Z) (zI ex2.pick) AI Z ((a3 _<|Ax.of_ext [] a0.drew).ld (i:=2) CK) (Ae (e:=26) Z Z Z) ?_
 have ak:¬(ex.pick≠ex2.pick):=(fun h9=>h9 (by rw[hab]))
 refine AT false Z Z (A6 ak) (Ae (e:=26) Z Z Z)<|Ad 3 Z<|AK (hex.isPtr) Z (Ae (e:=37) Z Z Z)<|AB (p:=va) 3 CV Z (a2 _<|Ax.of_ext [] a0.drew) (Ae (e:=37) Z Z Z)<|Ag (p:=Ap va 3) (.inl Z) (zI ex.count) AI Z ((a2 _<|Ax.of_ext [] a0.drew).ld (i:=3) CK) (Ae (e:=37) Z Z Z)<|Ad 1 Z<|AK (a1.isPtr) Z (Ae (e:=37) Z Z Z)<|AB (p:=vb) 3 CV Z (a3 _<|Ax.of_ext [] a0.drew) (Ae (e:=37) Z Z Z)<|Ag (p:=Ap vb 3) (.inl Z) (zI ex2.count) AI Z ((a3 _<|Ax.of_ext [] a0.drew).ld (i:=3) CK) (Ae (e:=37) Z Z Z) ?_
 have al:¬(ex.count≠ex2.count):=(fun h9=>h9 (by rw[hab]))
 refine AT false Z Z (A6 al) (Ae (e:=37) Z Z Z)<|Ad 3 Z<|AK (hex.isPtr) Z (Ae (e:=48) Z Z Z)<|AB (p:=va) 4 AY Z (a2 _<|Ax.of_ext [] a0.drew) (Ae (e:=48) Z Z Z)<|Ag (p:=Ap va 4) (.inl Z) a7 B7 Z ((a2 _<|Ax.of_ext [] a0.drew).ld (i:=4) CK) (Ae (e:=48) Z Z Z)<|AS (v:=a7) Cc Z a8.rn.isSl (Ae (e:=48) Z Z Z)<|Ad 1 Z<|AK (a1.isPtr) Z (Ae (e:=48) Z Z Z)<|AB (p:=vb) 4 AY Z (a3 _<|Ax.of_ext [] a0.drew) (Ae (e:=48) Z Z Z)<|Ag (p:=Ap vb 4) (.inl Z) a9 B7 Z ((a3 _<|Ax.of_ext [] a0.drew).ld (i:=4) CK) (Ae (e:=48) Z Z Z) ?_
 refine AS (v:=a9) Cc Z ab.rn.isSl (Ae (e:=48) Z Z Z) ?_
 have am:¬((ex.kids.length:Int)≠(ex2.kids.length:Int)):=(fun h9=>h9 (by rw[hab]))
 refine AT false Z Z (A6 am) (Ae (e:=48) Z Z Z)<|Ac 1 Z<|Aj Z<|A2<|A0<|fC [0] Z ?_
 have a6:=a8.rn.lenle
 unfold maxLen at a6
 refine Ac 1 Z<|A3<|AW (S:=Nat) (fun k=>([(5,zI (k:Int)),(0,va),(1,vb)])) (fun k W=>AD w W∧k≤ex.kids.length) (fun k=>ex.kids.length-k) 0 ⟨rfl,rfl,rfl,trivial⟩ ⟨a0.drew,sD⟩ ?_
 clear a0 aa a6
 rintro k ρ8 w8 ⟨a4,ad⟩
 have an:w.heap.size≤w8.heap.size:=a4.size
 refine A0<|fC [0,0,0,0,2,0,0] Z<|Ad 2 Z<|AK (hex.isPtr) Z Aa<|AB (p:=va) 4 AY Z (a2 _<|Ax.of_ext [] a4) Aa<|Ag (p:=Ap va 4) (.inr Z) a7 B7 Z ((a2 _<|Ax.of_ext [] a4).ld (i:=4) CK) Aa<|AS (v:=a7) Cc Z a8.rn.isSl Aa ?_
 by_cases ae:(k:Int)<(ex.kids.length:Int)
 ·refine AJ true Z Z (A5 ae) Aa<|Ai<|Af Z<|A2<|A0<|A3<|A0<|AQ _ [0,0,0,1,0,0,0,0,0,1,0,0,3,0] mixed (by kernel_rfl)<|Ad 1 Z<|AK (hex.isPtr) Z Aa<|AB (p:=va) 4 AY Z (a2 _<|Ax.of_ext [] a4.drew) Aa<|Ag (p:=Ap va 4) (.inl Z) a7 B7 Z ((a2 _<|Ax.of_ext [] a4.drew).ld (i:=4) CK) Aa<|Ad 1 Z ?_
  refine AE (v:=a7) k Cc B3 Z Z a8.rn.isSl Z sD Aa<|Ad 1 Z<|AK (a1.isPtr) Z Aa<|AB (p:=vb) 4 AY Z (a3 _<|Ax.of_ext [] a4.drew) Aa<|Ag (p:=Ap vb 4) (.inl Z) a9 B7 Z ((a3 _<|Ax.of_ext [] a4.drew).ld (i:=4) CK) Aa<|Ad 1 Z<|AE (v:=a9) k Cc B3 Z Z ab.rn.isSl Z (by rw[hab];omega) Aa ?_
  refine At 209 [] [] [AA a7 k 5,AA a9 k 5] Z Z Y4 Aa (ih dd1 oM _ (AA a7 k 5) (ex.kids.getD k Ex.zero) dd2 (AA a9 k 5) (ex2.kids.getD k Ex.zero) (RN.ptr (Ay dd1) (by decide) Ex.zero (a8.rn.ext (An<|Ay dd1) a4.drew) sD) (RN.ptr (Ay dd2) (by decide) Ex.zero (ab.rn.ext (An<|Ay dd2) a4.drew) (by rw[hab];omega)) (by exact congrArg (fun e:Ex=>e.kids.getD k Ex.zero) hab)) ?_
  rintro aq ar ⟨rfl,a5⟩
  refine⟨_,rfl,a5,?_⟩
  replace a5:=a5.of_drew
  have af:=a5.size
  have ac:=a4.trans a5
  exact Bq false Z Z Aa<|Ai<|Aj Z<|A2<|Ab _ [0,0,0] Z<|Ad 1 Z<|AR ((k+1:Nat):Int) Z Z (Bl oM oM) Aa<|Ac 1 Z ⟨k+1,_,rfl,zR,⟨ac,sD⟩,zD⟩
 exact AJ false Z Z (A6 ae) Aa<|Ai<|Aj Z<|A4<|Az<|Az<|Aw<|fE Z<|A1<|Ah [4] Z (.bool true) Z ⟨rfl,a4⟩
theorem JA (w:World)(df:Nat)(va:Value)(f:Fn)(df2:Nat)(vb:Value)(f2:Fn)(hf:RN [] (rP (V9 df)) w.heap va f)(a8:RN [] (rP (V9 df2)) w.heap vb f2)(hab:f2=f) :
  Calls Tryz.prog 141 #[va,vb] w (fun e w'=>e=.returned (.bool true)∧AD w w'):=by
 refine Au [va,vb] 62 Tryz.func141 Z Z sM ?_
 have a0:AD w w:=AD.refl w
 refine fE Z<|A0<|A0<|AQ _ [0,0,0,1,0,0,0,1,0,0,0,0,0,1,0,0,0,1,0,0,0,0,0,0,1,0,0,0,0,1,0,0,0] mixed (by kernel_rfl)<|Ad 1 Z<|AK (hf.isPtr) Z Aa ?_
 obtain⟨cs1,af,a2⟩:=RN.at (Av _) hf
 obtain⟨a4,rfl,a6⟩:=RF.of af
 have a3:=a6.rn.lenle
 unfold maxLen at a3
 refine AB (p:=va) 0 EF Z (a2 _<|Ax.of_ext [] a0.drew) Aa<|Ag (p:=Ap va 0) (.inl Z) (.string f.name) K1 Z ((a2 _<|Ax.of_ext [] a0.drew).ld (i:=0) CK) Aa<|Ad 1 Z<|AK (a8.isPtr) Z Aa ?_
 obtain⟨cs2,ag,a5⟩:=RN.at (Av _) a8
 obtain⟨a7,rfl,ab⟩:=RF.of ag
 have a9:=ab.rn.lenle
 unfold maxLen at a9
 refine AB (p:=vb) 0 EF Z (a5 _<|Ax.of_ext [] a0.drew) Aa<|Ag (p:=Ap vb 0) (.inl Z) (.string f2.name) K1 Z ((a5 _<|Ax.of_ext [] a0.drew).ld (i:=0) CK) Aa ?_
 cases ac:(!DA f.name f2.name)
 ·refine SB false u9 Z Z ac Aa<|Ad 2 Z<|AK (hf.isPtr) Z (Ae (e:=15) Z Z Z)<|AB (p:=va) 1 BI Z (a2 _<|Ax.of_ext [] a0.drew) (Ae (e:=15) Z Z Z)<|Ag (p:=Ap va 1) (.inl Z) (zI f.params) AI Z ((a2 _<|Ax.of_ext [] a0.drew).ld (i:=1) CK) (Ae (e:=15) Z Z Z)<|Ad 1 Z<|AK (a8.isPtr) Z (Ae (e:=15) Z Z Z)<|AB (p:=vb) 1 BI Z (a5 _<|Ax.of_ext [] a0.drew) (Ae (e:=15) Z Z Z)<|Ag (p:=Ap vb 1) (.inl Z) (zI f2.params) AI Z ((a5 _<|Ax.of_ext [] a0.drew).ld (i:=1) CK) (Ae (e:=15) Z Z Z) ?_
  have ah:¬(f.params≠f2.params):=(fun h9=>h9 (by rw[hab]))
  refine AT false Z Z (A6 ah) (Ae (e:=15) Z Z Z)<|Ad 3 Z<|AK (hf.isPtr) Z (Ae (e:=26) Z Z Z)<|AB (p:=va) 2 Br Z (a2 _<|Ax.of_ext [] a0.drew) (Ae (e:=26) Z Z Z)<|Ag (p:=Ap va 2) (.inl Z) a4 B7 Z ((a2 _<|Ax.of_ext [] a0.drew).ld (i:=2) CK) (Ae (e:=26) Z Z Z)<|AS (v:=a4) Cc Z a6.rn.isSl (Ae (e:=26) Z Z Z)<|Ad 1 Z<|AK (a8.isPtr) Z (Ae (e:=26) Z Z Z)<|AB (p:=vb) 2 Br Z (a5 _<|Ax.of_ext [] a0.drew) (Ae (e:=26) Z Z Z)<|Ag (p:=Ap vb 2) (.inl Z) a7 B7 Z ((a5 _<|Ax.of_ext [] a0.drew).ld (i:=2) CK) (Ae (e:=26) Z Z Z) ?_
  refine AS (v:=a7) Cc Z ab.rn.isSl (Ae (e:=26) Z Z Z) ?_
  have ai:¬((f.outs.length:Int)≠(f2.outs.length:Int)):=(fun h9=>h9 (by rw[hab]))
  refine AT false Z Z (A6 ai) (Ae (e:=26) Z Z Z)<|Ac 1 Z<|Aj Z<|A2<|A0<|fC [0] Z ?_
  have a3:=a6.rn.lenle
  unfold maxLen at a3
  refine Ac 1 Z<|A3<|AW (S:=Nat) (fun k=>([(5,zI (k:Int)),(0,va),(1,vb)])) (fun k W=>AD w W∧k≤f.outs.length) (fun k=>f.outs.length-k) 0 ⟨rfl,rfl,rfl,trivial⟩ ⟨a0.drew,sD⟩ ?_
  clear a0 a9 a3
  rintro k ρ6 w6 ⟨a1,ad⟩
  have aj:w.heap.size≤w6.heap.size:=a1.size
  refine A0<|fC [0,0,0,0,2,0,0] Z<|Ad 2 Z<|AK (hf.isPtr) Z Aa<|AB (p:=va) 2 Br Z (a2 _<|Ax.of_ext [] a1) Aa<|Ag (p:=Ap va 2) (.inr Z) a4 B7 Z ((a2 _<|Ax.of_ext [] a1).ld (i:=2) CK) Aa<|AS (v:=a4) Cc Z a6.rn.isSl Aa ?_
  by_cases ae:(k:Int)<(f.outs.length:Int)
  ·refine AJ true Z Z (A5 ae) Aa<|Ai<|Af Z<|A2<|A0<|A3<|A0<|AQ _ [0,0,0,1,0,0,0,0,0,1,0,0,3,0] mixed (by kernel_rfl)<|Ad 1 Z<|AK (hf.isPtr) Z Aa<|AB (p:=va) 2 Br Z (a2 _<|Ax.of_ext [] a1.drew) Aa<|Ag (p:=Ap va 2) (.inl Z) a4 B7 Z ((a2 _<|Ax.of_ext [] a1.drew).ld (i:=2) CK) Aa<|Ad 1 Z ?_
   refine AE (v:=a4) k Cc B3 Z Z a6.rn.isSl Z sD Aa<|Ad 1 Z<|AK (a8.isPtr) Z Aa<|AB (p:=vb) 2 Br Z (a5 _<|Ax.of_ext [] a1.drew) Aa<|Ag (p:=Ap vb 2) (.inl Z) a7 B7 Z ((a5 _<|Ax.of_ext [] a1.drew).ld (i:=2) CK) Aa<|Ad 1 Z<|AE (v:=a7) k Cc B3 Z Z ab.rn.isSl Z (by rw[hab];omega) Aa ?_
   refine At 209 [] [] [AA a4 k 5,AA a7 k 5] Z Z Y4 Aa (MB _ df (AA a4 k 5) (f.outs.getD k Ex.zero) df2 (AA a7 k 5) (f2.outs.getD k Ex.zero) (RN.ptr (Ay df) (by decide) Ex.zero (a6.rn.ext (An<|Ay df) a1.drew) sD) (RN.ptr (Ay df2) (by decide) Ex.zero (ab.rn.ext (An<|Ay df2) a1.drew) (by rw[hab];omega)) (by exact congrArg (fun e:Fn=>e.outs.getD k Ex.zero) hab)) ?_
   rintro e8 w8 ⟨rfl,aa⟩
   refine⟨_,rfl,aa,?_⟩
   replace aa:=aa.of_drew
   have ak:=aa.size
   have al:=a1.trans aa
   exact Bq false Z Z Aa<|Ai<|Aj Z<|A2<|Ab _ [0,0,0] Z<|Ad 1 Z<|AR ((k+1:Nat):Int) Z Z (Bl oM oM) Aa<|Ac 1 Z ⟨k+1,_,rfl,zR,⟨al,sD⟩,zD⟩
  exact AJ false Z Z (A6 ae) Aa<|Ai<|Aj Z<|A4<|Az<|Az<|Aw<|fE Z<|A1<|Ah [4] Z (.bool true) Z ⟨(by first|rfl|(exfalso;simp_all)),a1⟩
 refine SB true u9 Z Z ac Aa<|Ac 24 Z<|Af Z<|fC [0] Z ?_
 have h9:(!DA f.name f2.name)=false:=by rw[hab,RW];rfl
 exact Ac 1 Z<|A1<|Ao<|Ah [4] Z (.bool false) Z ⟨(by first|rfl|(exfalso;simp_all)),a0.drew⟩
theorem JB (w:World)(dp:Nat)(va:Value)(p:List Fn)(dp2:Nat)(vb:Value)(p2:List Fn)(hp:RP [] dp w.heap va p)(a7:RP [] dp2 w.heap vb p2)(hab:p2=p) :
  Calls Tryz.prog 53 #[(.agg #[va]),(.agg #[vb])] w (fun e w'=>e=.returned (.bool true)∧AD w w'):=by
 refine Au [.agg #[va],.agg #[vb]] 30 Tryz.func53 Z Z sM ?_
 have ae:AD w w:=AD.refl w
 have au:=hp.lenle
 unfold maxLen at au
 have av:=a7.lenle
 unfold maxLen at av
 refine fC [3,3,0] Z (Bv (cs:=#[va]) Z Aa fun w1 ab aj a8=>?_)
 have ac:=ab.size
 have af:=ae.trans ab
 replace a8:BX w1.heap w.heap.size [va]:=a8
 have ap:=a8.lt
 refine Bv (cs:=#[vb]) Z Aa fun w2 a9 ak aa=>?_
 have ad:=a9.size
 have ag:=af.trans a9
 have a4:=a8.ext a9
 replace aa:BX w2.heap w1.heap.size [vb]:=aa
 refine Ac 1 Z<|A0<|fC [0,2,0,0,2,0,0] Z<|Al (p:=zP w.heap.size) 0 B8 Z Z Aa<|Ag (p:=Ap (zP w.heap.size) 0) (.inr Z) va Bt Z (a4.ldp (i:=0) sM) Aa<|AS (v:=va) Du Z hp.isSl Aa<|Al (p:=zP w1.heap.size) 0 B8 Z Z Aa<|Ag (p:=Ap (zP w1.heap.size) 0) (.inr Z) vb Bt Z (aa.ldp (i:=0) sM) Aa<|AS (v:=vb) Du Z a7.isSl Aa ?_
 have al:¬((p.length:Int)≠(p2.length:Int)):=(fun h9=>h9 (by rw[hab]))
 refine AT false Z Z (A6 al) Aa<|Ai<|Aj Z<|A2<|A0<|fE Z<|A3 ?_
 refine AW (S:=Nat) (fun k=>([(5,zI (k:Int)),(2,zP w.heap.size),(3,zP w1.heap.size)])) (fun k W=>AD w W∧BX W.heap w.heap.size [va]∧BX W.heap w1.heap.size [vb]∧k≤p.length) (fun k=>p.length-k) 0 ⟨rfl,rfl,rfl,trivial⟩ ⟨ag,a4,aa,sD⟩ ?_
 clear ae aj ab ac af ak a9 ad ag
 rintro k ρ5 w5 ⟨a6,a0,a1,ah⟩
 have am:w.heap.size≤w5.heap.size:=a6.size
 have aq:=a0.lt
 have ar:=a1.lt
 refine A0<|fC [0,0,2,0,0] Z<|Ad 1 Z<|Al (p:=zP w.heap.size) 0 B8 Z Z Aa<|Ag (p:=Ap (zP w.heap.size) 0) (.inr Z) va Bt Z (a0.ldp (i:=0) sM) Aa<|AS (v:=va) Du Z hp.isSl Aa ?_
 by_cases ai:(k:Int)<(p.length:Int)
 ·refine AJ true Z Z (A5 ai) Aa<|Ai<|Af Z<|A2<|A0<|A3<|A0<|AQ _ [0,1,0,0,0,1,0,0,3,0] mixed (by kernel_rfl)<|Al (p:=zP w.heap.size) 0 B8 Z Z Aa<|Ag (p:=Ap (zP w.heap.size) 0) (.inl Z) va Bt Z (a0.ldp (i:=0) sM) Aa<|Ad 1 Z ?_
  refine AE (v:=va) k Du BD Z Z hp.isSl Z sD Aa<|Al (p:=zP w1.heap.size) 0 B8 Z Z Aa<|Ag (p:=Ap (zP w1.heap.size) 0) (.inl Z) vb Bt Z (a1.ldp (i:=0) sM) Aa<|Ad 1 Z<|AE (v:=vb) k Du BD Z Z a7.isSl Z (by rw[hab];omega) Aa ?_
  refine At 141 [] [] [AA va k 3,AA vb k 3] Z Z bL Aa (JA _ dp (AA va k 3) (p.getD k Fn.zero) dp2 (AA vb k 3) (p2.getD k Fn.zero) (RN.ptr (Av dp) (by decide) Fn.zero (hp.ext (An<|Av dp) a6.drew) sD) (RN.ptr (Av dp2) (by decide) Fn.zero (a7.ext (An<|Av dp2) a6.drew) (by rw[hab];omega)) (by exact congrArg (fun e:List Fn=>e.getD k Fn.zero) hab)) ?_
  rintro e9 w9 ⟨rfl,a5⟩
  refine⟨_,rfl,a5,?_⟩
  replace a5:=a5.of_drew
  have an:=a5.size
  have ao:=a6.trans a5
  have a2:=a0.ext a5
  have a3:=a1.ext a5
  exact Bq false Z Z Aa<|Ai<|Aj Z<|A2<|Ab _ [0,0,0] Z<|Ad 1 Z<|AR ((k+1:Nat):Int) Z Z (Bl oM oM) Aa<|Ac 1 Z ⟨k+1,_,rfl,zR,⟨ao,a2,a3,sD⟩,zD⟩
 exact AJ false Z Z (A6 ai) Aa<|Ai<|Aj Z<|A4<|Az<|Az<|Aw<|fE Z<|A1<|Ah [4] Z (.bool true) Z ⟨rfl,a6⟩
end
end Go.Proofs.YtbajepcpgncekaaGreat
