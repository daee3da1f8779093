/- Vg, Vh, Sx, Sv, Sw, Vi, Vj, Vk, Vl, Vn, Vo, Xf, Xa, Xb, Xh: texts of this claim, joined; what the claim does not come to is left out. -/
import Derived.Test.YtemfgblmfahllaaGreatQE2
import Derived.Test.YtemfgblmfahllaaGreatProg
set_option linter.unusedVariables false
set_option linter.unusedSimpArgs false
namespace Go.Proofs.YtemfgblmfahllaaGreat
open Go Go.RowKit
section
set_option maxHeartbeats 4000000
set_option maxRecDepth 100000
attribute [local irreducible] LW
theorem Ng {s:ByteArray}{k:Nat}(hk:k<s.size)(h:(HZ s k<97∨122<HZ s k)∧(k=0∨HZ s k<48∨57<HZ s k)):false=Jc s:=by
  have hc:Tb s k=false:=by
    unfold Tb
    rcases h with⟨h1|h1,h2|h2|h2⟩ <;> simp <;> omega
  unfold Jc
  rw[I6 hk hc,Bool.and_false]
theorem Ox {s:ByteArray}{k:Nat}(h:(97≤HZ s k∧HZ s k≤122)∨(k≠0∧48≤HZ s k∧HZ s k≤57)):Tb s k=true:=by
  unfold Tb
  rcases h with h|h <;> simp <;> omega
theorem R0 {s:ByteArray}{k:Nat}{b:Bool}(h:(List.range k).all (Tb s)=true)(hk:k=s.size)(hb:b=(decide (1≤s.size) && decide (s.size≤12))):b=Jc s:=by
  subst hk
  unfold Jc
  rw[h,Bool.and_true,hb]
theorem FV {p:Prop}(h:p:=by first|exact AJ (Ng (k:=k) oM oM)|exact AJ (R0 hq oM (by first|(rw[A5 (show 1≤s.size by omega),Bool.true_and];exact decide_eq_decide.2 oM)|(rw[A6 (show ¬1≤s.size by omega)];rfl)))):p:=h
theorem JZ (w:World)(s:ByteArray)  (hl:s.size≤1000000000) :
  Calls Tryz.prog 146 #[.string s] w (fun e w'=>e=.returned (.bool (Jc s))∧w'=w):=by
 refine Ap [.string s] 44 Tryz.func146 Z Z sM ?_
 have a3:w=w:=rfl
 refine Z2 Z<|A0<|Z1 [0,0,0] Z<|Ad 1 Z<|IY (s:=s) u9 Z Aa<|Ac 1 Z<|A3 ?_
 refine AV (S:=Nat) (fun k=>([(6,zI (k:Int)),(0,.string s),(5,zI (s.size:Int))])) (fun k W=>W=w∧k≤s.size∧(List.range k).all (Tb s)=true) (fun k=>s.size-k) 0 ⟨rfl,rfl,rfl,trivial⟩ ⟨a3,sD,(by rfl)⟩ ?_
 clear a3
 rintro k ρ1 w1 ⟨a0,a4,hq⟩
 refine Z1 [0] Z ?_
 by_cases a5:(k:Int)<(s.size:Int)
 ·refine AC true Z Z (A5 a5) Aa<|Aj<|A0<|Af Z<|A2<|A0<|A3<|Z1 [0,0] Z<|Ac 2 Z<|Z1 [0,0,0,0,0,0,0,0,0,0,0,0,0,0,0,0,0,0,0,0,0,0,0,0,0,0] Z<|Ad 2 Z<|CI (s:=s) k u9 Z Z Z sD Aa ?_
  by_cases a6:((HZ s k:Nat):Int)<97
  ·refine AC true Z Z (A5 a6) Aa<|Ad 8 Z ?_
   by_cases a7:(k:Int)=((0:Nat):Int)
   ·exact Al true Z Z (A5 a7) (Ae (e:=19) Z Z Z)<|Ac 13 Z<|Af Z<|Z2 Z<|A1<|AF<|Am<|Am<|AF<|Am<|Ag [2] Z (.bool false) Z ⟨FV,a0⟩
   refine Al false Z Z (A6 a7) (Ae (e:=19) Z Z Z)<|Ad 3 Z<|CI (s:=s) k u9 Z Z Z sD (Ae (e:=22) Z Z Z) ?_
   by_cases a8:((HZ s k:Nat):Int)<48
   ·exact AC true Z Z (A5 a8) (Ae (e:=22) Z Z Z)<|Ac 8 Z<|Af Z<|Z2 Z<|A1<|AF<|Am<|Am<|AF<|Am<|Ag [2] Z (.bool false) Z ⟨FV,a0⟩
   refine AC false Z Z (A6 a8) (Ae (e:=22) Z Z Z)<|Ad 4 Z<|CI (s:=s) k u9 Z Z Z sD (Ae (e:=28) Z Z Z) ?_
   by_cases a9:57<((HZ s k:Nat):Int)
   ·exact BH true Z Z (A5 a9) (Ae (e:=28) Z Z Z)<|Ac 2 Z<|Af Z<|Z2 Z<|A1<|AF<|Am<|Am<|AF<|Am<|Ag [2] Z (.bool false) Z ⟨FV,a0⟩
   refine BH false Z Z (A6 a9) (Ae (e:=28) Z Z Z)<|Ac 2 Z<|Ai Z<|A2<|Ab _ [0,0] Z<|AM ((k+1:Nat):Int) Z Z (Ba oM sD) Aa<|Ac 1 Z ?_
   exact⟨k+1,_,rfl,zR,⟨a0,sD,(by exact D7 hq (Ox oM))⟩,zD⟩
  refine AC false Z Z (A6 a6) Aa<|Ad 3 Z<|CI (s:=s) k u9 Z Z Z sD (Ae (e:=13) Z Z Z) ?_
  by_cases aa:122<((HZ s k:Nat):Int)
  ·refine BH true Z Z (A5 aa) (Ae (e:=13) Z Z Z)<|Ad 3 Z ?_
   by_cases ab:(k:Int)=((0:Nat):Int)
   ·exact Al true Z Z (A5 ab) (Ae (e:=19) Z Z Z)<|Ac 13 Z<|Af Z<|Z2 Z<|A1<|AF<|Am<|Am<|AF<|Am<|Ag [2] Z (.bool false) Z ⟨FV,a0⟩
   refine Al false Z Z (A6 ab) (Ae (e:=19) Z Z Z)<|Ad 3 Z<|CI (s:=s) k u9 Z Z Z sD (Ae (e:=22) Z Z Z) ?_
   by_cases ac:((HZ s k:Nat):Int)<48
   ·exact AC true Z Z (A5 ac) (Ae (e:=22) Z Z Z)<|Ac 8 Z<|Af Z<|Z2 Z<|A1<|AF<|Am<|Am<|AF<|Am<|Ag [2] Z (.bool false) Z ⟨FV,a0⟩
   refine AC false Z Z (A6 ac) (Ae (e:=22) Z Z Z)<|Ad 4 Z<|CI (s:=s) k u9 Z Z Z sD (Ae (e:=28) Z Z Z) ?_
   by_cases a1:57<((HZ s k:Nat):Int)
   ·exact BH true Z Z (A5 a1) (Ae (e:=28) Z Z Z)<|Ac 2 Z<|Af Z<|Z2 Z<|A1<|AF<|Am<|Am<|AF<|Am<|Ag [2] Z (.bool false) Z ⟨FV,a0⟩
   refine BH false Z Z (A6 a1) (Ae (e:=28) Z Z Z)<|Ac 2 Z<|Ai Z<|A2<|Ab _ [0,0] Z<|AM ((k+1:Nat):Int) Z Z (Ba oM sD) Aa<|Ac 1 Z ?_
   exact⟨k+1,_,rfl,zR,⟨a0,sD,(by exact D7 hq (Ox oM))⟩,zD⟩
  refine BH false Z Z (A6 aa) (Ae (e:=13) Z Z Z)<|Ac 17 Z<|Ai Z<|A2<|Ab _ [0,0] Z<|AM ((k+1:Nat):Int) Z Z (Ba oM sD) Aa<|Ac 1 Z ?_
  exact⟨k+1,_,rfl,zR,⟨a0,sD,(by exact D7 hq (Ox oM))⟩,zD⟩
 refine AC false Z Z (A6 a5) Aa<|Aj<|A0<|Ai Z<|A4<|Av<|Av<|Aq<|Z1 [0,0,0,0,0,0,0,0,0] Z<|Ad 1 Z<|IY (s:=s) u9 Z Aa ?_
 by_cases a2:((1:Nat):Int)≤(s.size:Int)
 ·exact D5 true Z Z (A5 a2) Aa<|Ad 2 Z<|IY (s:=s) u9 Z (Ae (e:=39) Z Z Z)<|Dc (decide ((s.size:Int)≤((12:Nat):Int))) Z Z Z (Ae (e:=39) Z Z Z)<|Ac 2 Z<|A1<|Ag [2] Z (.bool<|decide ((s.size:Int)≤((12:Nat):Int))) Z ⟨FV,a0⟩
 exact D5 false Z Z (A6 a2) Aa<|Ac 6 Z<|A1<|Ag [2] Z (.bool false) Z ⟨FV,a0⟩
theorem FB (w:World)(dx:Nat)(vo:Value)(x:Fn)(bf:Nat)(vf:Value)(f:Fn)(hx:RF [] dx w.heap vo x)(hBf:BX w.heap bf [.string f.name,zI f.params,vf])  :
  Calls Tryz.prog 148 #[(.agg #[(.string x.name),(zI x.params),vo]),zP bf] w (fun e w'=>e=.returned (.bool (GR x.name f.name))∧AE w w'):=by
 refine Ap [.agg #[.string x.name,zI x.params,vo],zP bf] 9 Tryz.func148 Z Z sM ?_
 have a3:AE w w:=AE.refl w
 have a8:=hx.rn.lenle
 unfold maxLen at a8
 refine Z1 [3,0] Z ?_
 have a6:=hBf.lt
 refine Bx (cs:=#[.string x.name,zI x.params,vo]) Z Aa fun w1 a1 a7 a2=>?_
 have a4:=a1.size
 have a5:=a3.trans a1
 have a0:=hBf.ext a1
 replace a2:BX w1.heap w.heap.size [.string x.name,zI x.params,vo]:=a2
 exact Ac 1 Z<|Z1 [0,2,0,2,0,0] Z<|Ak (p:=zP w.heap.size) 0 Ie Z Z Aa<|Ah (p:=Ao (zP w.heap.size) 0) (.inr Z) (.string x.name) Nb Z (a2.ldp (i:=0) sM) Aa<|Ak (p:=zP bf) 0 Ie Z Z Aa<|Ah (p:=Ao (zP bf) 0) (.inr Z) (.string f.name) Nb Z (a0.ldp (i:=0) sM) Aa<|MC (GR x.name f.name) u9 Z Z Z Aa<|Ac 1 Z<|A1<|Ag [3] Z (.bool<|GR x.name f.name) Z ⟨rfl,a5⟩
theorem CA (w:World) (da:Nat) (va:Value) (a:List Fn) (q:Nat) (qf qc:List Value) (pr:Fn→Bool) (ha:RP [] da w.heap va a) (hcf_q:((Tryz.prog.funcs[q]?).map fun fn=>(fn.name != "runtime.NumGoroutine") && fn.body.isSome) = some true) (hpr:∀ (d9:Nat) (u:Value) (x:Fn) w1,RF [] d9 w1.heap u x→AE w w1→Calls Tryz.prog q (qf++[Value.agg #[Value.string x.name,Value.int .i64 x.params,u]]++qc).toArray w1 (fun e w2=>e = .returned (.bool (pr x))∧AE w1 w2))  :
  Calls Tryz.prog 194 #[va,.func (.func q) qf.toArray qc.toArray] w (fun e w'=>e = .returned (zI (P7 pr a))∧AE w w'):=by
 refine Ap [va,.func (.func q) qf.toArray qc.toArray] 19 Tryz.func194 Z Z sM ?_
 have a5:AE w w:=AE.refl w
 have ag:=ha.lenle
 unfold maxLen at ag
 refine Z2 Z<|A0<|Z1 [0,0,0] Z<|Ad 1 Z<|AP (v:=va) Gp Z ha.isSl Aa<|Ac 1 Z<|A3 ?_
 refine AV (S:=Nat) (fun k=>([(8,zI ((k :Nat):Int)),(0,va),(1,.func (.func q) qf.toArray qc.toArray),(7,zI ((a.length :Nat):Int))])) (fun k W=>AE w W∧k≤a.length∧(∀ j,j < k→pr (a.getD j Fn.zero) = false)) (fun k=>a.length - k) 0 ⟨rfl,rfl,rfl,rfl,trivial⟩ ⟨a5,sD,(by intro j hj; omega)⟩ ?_
 clear a5
 rintro k ρ1 w1 ⟨a1,a6,hq⟩
 have aa:w.heap.size≤w1.heap.size:=a1.size
 refine Z1 [0] Z ?_
 by_cases a7:((k :Nat):Int) < ((a.length :Nat):Int)
 ·
  refine AC true Z Z (A5 a7) Aa<|Aj<|A0<|Af Z<|A2<|A0<|A3<|Z1 [0,0] Z<|Ac 2 Z<|Z1 [0,0,0,0,2,3] Z<|Ad 3 Z<|Az (v:=va) k Gp CN Z Z ha.isSl Z sD Aa ?_
  obtain ⟨cs3,ab,ac⟩:=ha.get (AH da) Fn.zero (k:=k) sD
  obtain ⟨a8,rfl,a2⟩:=RF.of ab
  have a3:=a2.rn.lenle
  unfold maxLen at a3
  refine AO (p:=Ay va k 3) (.inr Z) [.string<|(a.getD k Fn.zero).name,zI<|(a.getD k Fn.zero).params,a8] Ju Z (fun ah ad=>ac ah<|At.of_ext []<|a1.trans ad) Z Aa ?_
  have a0:=hpr da a8 (a.getD k Fn.zero) w1 ⟨a2.rng,a2.rn.ext (An<|AD da) a1⟩ a1
  refine Au q qf qc _ Z Z hcf_q Aa a0 ?_
  rintro e4 w4 ⟨rfl,a4⟩
  refine ⟨_,rfl,a4,?_⟩
  have ae:=a4.size
  have a9:=a1.trans a4
  cases af:pr (a.getD k Fn.zero)
  ·
   refine Aj<|Ai Z<|A2<|Ab _ [0,0] Z<|AM ((k + 1 :Nat):Int) Z Z (Ba oM sD) Aa<|Ac 1 Z ?_
   exact ⟨k + 1,_,rfl,zR,⟨a9,sD,(by exact Ov hq (by assumption))⟩,by first | omega | (dsimp only; omega)⟩
  exact Aj<|Af Z<|Z1 [0,0] Z<|Ac 2 Z<|A1<|AF<|Am<|Am<|AF<|Am<|Ag [4] Z (zI ((k :Nat):Int)) Z ⟨B2<|QY Fn.zero hq oM (by assumption),a9⟩
 exact AC false Z Z (A6 a7) Aa<|Aj<|A0<|Ai Z<|A4<|Av<|Av<|Aq<|Z2 Z<|A1<|Ag [4] Z (zI (-1)) Z ⟨B2<|TN Fn.zero hq oM,a1⟩
theorem Cr (w:World) (da:Nat) (va:Value) (a:List Fn) (q:Nat) (qf qc:List Value) (pr:Fn→Bool) (ha:RP [] da w.heap va a) (hcf_q:((Tryz.prog.funcs[q]?).map fun fn=>(fn.name != "runtime.NumGoroutine") && fn.body.isSome) = some true) (hpr:∀ (d9:Nat) (u:Value) (x:Fn) w1,RF [] d9 w1.heap u x→AE w w1→Calls Tryz.prog q (qf++[Value.agg #[Value.string x.name,Value.int .i64 x.params,u]]++qc).toArray w1 (fun e w2=>e = .returned (.bool (pr x))∧AE w1 w2))  :
  Calls Tryz.prog 147 #[va,.func (.func q) qf.toArray qc.toArray] w (fun e w'=>e = .returned (.bool (a.any pr))∧AE w w'):=by
 refine Ap [va,.func (.func q) qf.toArray qc.toArray] 9 Tryz.func147 Z Z sM ?_
 have a0:AE w w:=AE.refl w
 have a4:=ha.lenle
 unfold maxLen at a4
 refine Z2 Z<|Z1 [0,0,3,0,0] Z<|Ad 2 Z<|Au 194 [] [] [va,.func (.func q) qf.toArray qc.toArray] Z Z Xt Aa (CA _ da va (a) q qf qc pr (ha.ext (An<|AH da) a0) hcf_q fun d9 u x w1 hx hw=>hpr d9 u x w1 hx<|a0.trans hw) ?_
 rintro e1 w1 ⟨rfl,a1⟩
 refine ⟨_,rfl,a1,?_⟩
 have a2:=a1.size
 have a3:=a0.trans a1
 exact D5 (decide (((0 :Nat):Int)≤P7 pr a)) Z Z Z Aa<|Ac 1 Z<|A1<|Ag [4] Z (.bool<|decide (((0 :Nat):Int)≤P7 pr a)) Z ⟨AJ<|TO pr a,a3⟩
theorem Jy (w:World)(vars:Int)(_hvars:Bn vars)  :
  Calls Tryz.prog 195 #[zI vars] w (fun e w'=>e=.returned (.bool (FE vars 0 412))∧w'=w):=by
 refine Ap [zI vars] 5 Tryz.func195 Z Z sM ?_
 have a0:w=w:=rfl
 exact Z2 Z<|Z1 [0,0,0] Z<|Ad 1 Z<|Ax 72 [] [] [zI vars,zI ((0:Nat):Int),zI ((412:Nat):Int)] Z Z Du Aa (.bool (decide (((0:Nat):Int)≤vars) && decide (vars≤((412:Nat):Int)))) (fun wq=>AS wq _ _ _ _hvars oM oM)<|Ac 1 Z<|A1<|Ag [2] Z (.bool (decide (((0:Nat):Int)≤vars) && decide (vars≤((412:Nat):Int)))) Z ⟨rfl,a0⟩
theorem Oy {p:List Fn}{e:Ex}{vars funcs:Int}(h:(0≤vars∧vars≤412)∧(0≤funcs∧funcs≤((p.length:Nat):Int))∧e.size≤400∧e.deep≤60):wf p funcs e vars=JW p e vars funcs:=by
  unfold JW
  rw[BE.2 h.1,BE.2 h.2.1,A5 h.2.2.1,A5 h.2.2.2];rfl
theorem KF {p:List Fn}{e:Ex}{vars funcs:Int}(h:¬((0≤vars∧vars≤412)∧(0≤funcs∧funcs≤((p.length:Nat):Int))∧e.size≤400∧e.deep≤60)):false=JW p e vars funcs:=by
  cases hh:JW p e vars funcs with
  |false=>rfl
  |true =>
    unfold JW at hh
    simp only[z7,decide_eq_true_eq,BE]at hh
    exact absurd ⟨hh.1,hh.2.1,hh.2.2.1,hh.2.2.2.1⟩ h
theorem TQ {p:List Fn}{e:Ex}{vars funcs:Int}(h:wf p funcs e vars=false):false=JW p e vars funcs:=by
  unfold JW;rw[h];simp
theorem R1 {x a b:Int}(h:FE x a b=false):¬(a≤x∧x≤b):=fun hh=>by rw[BE.2 hh]at h;cases h
theorem Mo {x a b:Int}(h:(decide (a≤x) && decide (x≤b))=false):¬(a≤x∧x≤b):=R1 h
theorem FW {x a b:Int}(h:(decide (a≤x) && decide (x≤b))=true):a≤x∧x≤b:=BE.1 h
theorem Jz {p:Prop}(h:p:=by first|exact AJ (TQ (by assumption))|exact AJ (Oy ⟨BE.1 (by assumption),FW (by assumption),zO,zO⟩)|exact AJ ((by assumption:wf p funcs ex vars=true).symm.trans (Oy ⟨BE.1 (by assumption),FW (by assumption),zO,zO⟩))|exact AJ (KF fun hh=>R1 (by assumption) hh.1)|exact AJ (KF fun hh=>Mo (by assumption) hh.2.1)|exact AJ (KF oM)):p:=h
theorem Ig (w:World)(dp:Nat)(vp:Value)(p:List Fn)(dex:Nat)(ve:Value)(ex:Ex)(vars:Int)(funcs:Int)(hp:RP [] dp w.heap vp p)(hex:RX [] dex w.heap ve ex)(_hvars:Bn vars)(_hfuncs:Bn funcs)(hs:ex.size≤1000000000) :
  Calls Tryz.prog 149 #[(.agg #[vp]),(.agg #[(zI ex.kind),(zI ex.num),(zI ex.pick),(zI ex.count),ve]),zI vars,zI funcs] w (fun e w'=>e=.returned (.bool (JW p ex vars funcs))∧AE w w'):=by
 refine Ap [.agg #[vp],.agg #[zI ex.kind,zI ex.num,zI ex.pick,zI ex.count,ve],zI vars,zI funcs] 36 Tryz.func149 Z Z sM ?_
 have am:AE w w:=AE.refl w
 have az:=hp.lenle
 unfold maxLen at az
 have b0:=hex.rn.lenle
 unfold maxLen at b0
 refine Z1 [3,3,0] Z (Bx (cs:=#[vp]) Z Aa fun w1 ai ar ac=>?_)
 have an:=ai.size
 have ao:=am.trans ai
 replace ac:BX w1.heap w.heap.size [vp]:=ac
 have au:=ac.lt
 refine Bx (cs:=#[zI ex.kind,zI ex.num,zI ex.pick,zI ex.count,ve]) Z Aa fun w2 af av ad=>?_
 have ap:=af.size
 have ae:=ao.trans af
 have a2:=ac.ext af
 replace ad:BX w2.heap w1.heap.size [zI ex.kind,zI ex.num,zI ex.pick,zI ex.count,ve]:=ad
 refine Ac 1 Z<|Z1 [0,0,0,0,0,2,0,0,0,0,2,3,0,0,0,2,3,0,0,0,2,0,0,2,0,3,0,0] Z<|Ad 1 Z<|Ax 195 [] [] [zI vars] Z Z Xu Aa (.bool<|FE vars 0 412) (fun wq=>Jy wq _ _hvars)<|Ad 1 Z ?_
 cases aw:(FE vars 0 412)
 ·exact Ac 25 Z<|A1<|Ag [8] Z (.bool false) Z ⟨Jz,ae⟩
 refine Ad 1 Z<|Ak (p:=zP w.heap.size) 0 BG Z Z (Ae (e:=11) Z Z Z)<|Ah (p:=Ao (zP w.heap.size) 0) (.inr Z) vp Cb Z (a2.ldp (i:=0) sM) (Ae (e:=11) Z Z Z)<|AP (v:=vp) Gp Z hp.isSl (Ae (e:=11) Z Z Z)<|Ax 72 [] [] [zI funcs,zI ((0:Nat):Int),zI (p.length:Int)] Z Z Du (Ae (e:=11) Z Z Z) (.bool (decide (((0:Nat):Int)≤funcs) && decide (funcs≤(p.length:Int)))) (fun wq=>AS wq _ _ _ _hfuncs oM oM)<|Ad 2 Z ?_
 cases ax:(decide (((0:Nat):Int)≤funcs) && decide (funcs≤(p.length:Int)))
 ·exact Ac 18 Z<|A1<|Ag [8] Z (.bool false) Z ⟨Jz,ae⟩
 refine AO (p:=zP w1.heap.size) (.inr Z) [zI ex.kind,zI ex.num,zI ex.pick,zI ex.count,ve] B7 Z (fun b1 a4=>LD.of_box<|BX.ext (w:=w2) ad a4) Z (Ae (e:=18) Z Z Z)<|Au 150 [] [] [.agg #[zI ex.kind,zI ex.num,zI ex.pick,zI ex.count,ve]] Z Z QO (Ae (e:=18) Z Z Z) (Fu _ dex ve (ex) (hex.ext ae) oM) ?_
 rintro e8 w8 ⟨rfl,a8⟩
 refine⟨_,rfl,a8,?_⟩
 have aq:=a8.size
 have ag:=ae.trans a8
 have a9:=a2.ext a8
 have a3:=ad.ext a8
 by_cases aj:(ex.size:Int)≤((400:Nat):Int)
 ·refine Dc true Z Z (A5 aj) (Ae (e:=18) Z Z Z)<|Ad 2 Z<|AO (p:=zP w1.heap.size) (.inr Z) [zI ex.kind,zI ex.num,zI ex.pick,zI ex.count,ve] B7 Z (fun b1 a4=>LD.of_box<|BX.ext (w:=w8) a3 a4) Z (Ae (e:=23) Z Z Z)<|Au 196 [] [] [.agg #[zI ex.kind,zI ex.num,zI ex.pick,zI ex.count,ve]] Z Z TD (Ae (e:=23) Z Z Z) (If _ dex ve (ex) (hex.ext ag) oM) ?_
  rintro b4 b2 ⟨rfl,a0⟩
  refine⟨_,rfl,a0,?_⟩
  have ak:=a0.size
  have a1:=ag.trans a0
  have a5:=a9.ext a0
  have a6:=a3.ext a0
  by_cases aa:(ex.deep:Int)≤((60:Nat):Int)
  ·refine Dc true Z Z (A5 aa) (Ae (e:=23) Z Z Z)<|Ad 2 Z<|AO (p:=zP w.heap.size) (.inr Z) [vp] Do Z (fun b1 a4=>LD.of_box<|BX.ext (w:=b2) a5 a4) Z (Ae (e:=28) Z Z Z)<|Ad 1 Z ?_
   have ab:∀(vp:Value) (ay:Nat) (h12_0:Ek vp ay) (wq:World),(Instr.build 244 #[(0,.agg #[vp]),(1,zI funcs)]).run Tryz.prog wq=.ok (.agg #[vp,zI funcs]) wq:=by intro vp ay h12_0 wq;obtain⟨a12_0,b3,rfl,_⟩:=h12_0;kernel_rfl
   refine C1 (ps:=#[(0,.agg #[vp]),(1,zI funcs)]) (.agg #[vp,zI funcs]) (by simp only[zc,zf,zh];rfl) (fun wq=>ab vp _ hp.isSl wq) (Ae (e:=28) Z Z Z)<|AO (p:=zP w1.heap.size) (.inr Z) [zI ex.kind,zI ex.num,zI ex.pick,zI ex.count,ve] B7 Z (fun b1 a4=>LD.of_box<|BX.ext (w:=b2) a6 a4) Z (Ae (e:=28) Z Z Z)<|Ad 1 Z ?_
   refine Au 197 [] [] [.agg #[vp,zI funcs],.agg #[zI ex.kind,zI ex.num,zI ex.pick,zI ex.count,ve],zI vars] Z Z On (Ae (e:=28) Z Z Z) (EJ _ dp vp (p) (funcs) dex ve (ex) _ (hp.ext (An<|AH dp) a1) _hfuncs (hex.ext a1) _hvars (by have h1:=BE.1 (by assumption:FE vars 0 412=true);omega) (by have h2:=FW (by assumption:(decide (((0:Nat):Int)≤funcs) && decide (funcs≤(p.length:Int)))=true);omega)) ?_
   rintro b5 b6 ⟨rfl,a7⟩
   refine⟨_,rfl,a7,?_⟩
   have al:=a7.size
   have ah:=a1.trans a7
   exact Ac 2 Z<|A1<|Ag [8] Z (.bool<|wf p funcs ex vars) Z ⟨Jz,ah⟩
  exact Dc false Z Z (A6 aa) (Ae (e:=23) Z Z Z)<|Ac 10 Z<|A1<|Ag [8] Z (.bool false) Z ⟨Jz,a1⟩
 exact Dc false Z Z (A6 aj) (Ae (e:=18) Z Z Z)<|Ac 15 Z<|A1<|Ag [8] Z (.bool false) Z ⟨Jz,ag⟩
theorem R2 {p:List Fn}(h:¬p.length≤16):false=Iw p:=by unfold Iw;rw[A6 h];rfl
theorem H2 {p:List Fn}{k:Nat}(hk:k<p.length)(h:Iq p k=false):false=Iw p:=by unfold Iw;rw[I6 hk h,Bool.and_false]
theorem R3 {p:List Fn}{k:Nat}(hl:p.length≤16)(hk:p.length≤k)(hk2:k≤p.length)(h:(List.range k).all (Iq p)=true):true=Iw p:=by
  have:k=p.length:=by omega
  subst this;unfold Iw;rw[h,A5 hl];rfl
section
variable {p:List Fn} {k:Nat}
theorem XL (h:Jc (p.getD k Fn.zero).name=false):Iq p k=false:=by unfold Iq;rw[h];rfl
theorem XM (h:(p.take k).any (fun g=>GR g.name (p.getD k Fn.zero).name)=true):Iq p k=false:=by unfold Iq OL;rw[h];simp
theorem XN (h:(decide (((0:Nat):Int)≤(p.getD k Fn.zero).params) && decide ((p.getD k Fn.zero).params≤((12:Nat):Int)))=false):Iq p k=false:=by
  have h':FE (p.getD k Fn.zero).params 0 12=false:=h
  unfold Iq;rw[h'];simp
theorem XO (h:(decide (((1:Nat):Int)≤(((p.getD k Fn.zero).outs.length:Nat):Int)) && decide ((((p.getD k Fn.zero).outs.length:Nat):Int)≤((12:Nat):Int)))=false):Iq p k=false:=by
  have h':FE (((p.getD k Fn.zero).outs.length:Nat):Int) 1 12=false:=h
  unfold Iq;rw[h'];simp
theorem XP {j:Nat}(hj:j<(p.getD k Fn.zero).outs.length)(h:JW p ((p.getD k Fn.zero).outs.getD j Ex.zero) (p.getD k Fn.zero).params ((k:Nat):Int)=false):Iq p k=false:=by
  unfold Iq
  rw[I6 hj h];simp
theorem XQ (h:¬Ex.sizes (p.getD k Fn.zero).outs≤400):Iq p k=false:=by
  unfold Iq;rw[A6 h];simp
theorem TR {j:Nat}(h1:Jc (p.getD k Fn.zero).name=true)(h2:(p.take k).any (fun g=>GR g.name (p.getD k Fn.zero).name)=false)(h3:(decide (((0:Nat):Int)≤(p.getD k Fn.zero).params) && decide ((p.getD k Fn.zero).params≤((12:Nat):Int)))=true)(h4:(decide (((1:Nat):Int)≤(((p.getD k Fn.zero).outs.length:Nat):Int)) && decide ((((p.getD k Fn.zero).outs.length:Nat):Int)≤((12:Nat):Int)))=true)(h5:(List.range j).all (fun j=>JW p ((p.getD k Fn.zero).outs.getD j Ex.zero) (p.getD k Fn.zero).params ((k:Nat):Int))=true)(hj:j=(p.getD k Fn.zero).outs.length)(h6:Ex.sizes (p.getD k Fn.zero).outs≤400):Iq p k=true:=by
  have h3':FE (p.getD k Fn.zero).params 0 12=true:=h3
  have h4':FE (((p.getD k Fn.zero).outs.length:Nat):Int) 1 12=true:=h4
  subst hj
  unfold Iq OL
  rw[h1,h2,h3',h4',h5,A5 h6];rfl
end
theorem Et {b:Bool}(h:(!b)=false):b=true:=by cases b <;> simp_all
theorem Gr {b:Bool}(h:(!b)=true):b=false:=by cases b <;> simp_all
theorem Iu {p:Prop}(h:p:=by first|exact AJ (R2 oM)|exact AJ (R3 oM oM oM hq)|exact AJ (H2 (k:=k) oM (XL (Gr (by assumption))))|exact AJ (H2 (k:=k) oM (XM (by assumption)))|exact AJ (H2 (k:=k) oM (XN (Gr (by assumption))))|exact AJ (H2 (k:=k) oM (XO (Gr (by assumption))))|exact AJ (H2 (k:=k) oM (XP (j:=j) oM (Gr (by assumption))))|exact AJ (H2 (k:=k) oM (XQ oM))):p:=h
theorem Gs (w:World)(dp:Nat)(vp:Value)(p:List Fn)(hp:RP [] dp w.heap vp p)(hz:RZ p) :
  Calls Tryz.prog 87 #[(.agg #[vp])] w (fun e w'=>e=.returned (.bool (Iw p))∧AE w w'):=by
 refine Ap [.agg #[vp]] 65 Tryz.func87 Z Z sM ?_
 have bq:AE w w:=AE.refl w
 have ch:=hp.lenle
 unfold maxLen at ch
 refine Z1 [3,0] Z (Bx (cs:=#[vp]) Z Aa fun w1 be c0 aw=>?_)
 have bf:=be.size
 have bg:=bq.trans be
 replace aw:BX w1.heap w.heap.size [vp]:=aw
 refine Ac 1 Z<|A0<|Z1 [0,2,0,0] Z<|Ak (p:=zP w.heap.size) 0 BG Z Z Aa<|Ah (p:=Ao (zP w.heap.size) 0) (.inr Z) vp Cb Z (aw.ldp (i:=0) sM) Aa<|AP (v:=vp) Gp Z hp.isSl Aa ?_
 by_cases br:((16:Nat):Int)<(p.length:Int)
 ·exact BH true Z Z (A5 br) Aa<|Aj<|Af Z<|Z2 Z<|A1<|Am<|Ag [2] Z (.bool false) Z ⟨Iu,bg⟩
 refine BH false Z Z (A6 br) Aa<|Aj<|Ai Z<|A2<|A0<|Z1 [0,2,0,0] Z<|Ak (p:=zP w.heap.size) 0 BG Z Z Aa<|Ah (p:=Ao (zP w.heap.size) 0) (.inr Z) vp Cb Z (aw.ldp (i:=0) sM) Aa<|AP (v:=vp) Gp Z hp.isSl Aa<|Ac 1 Z<|A3 ?_
 refine AV (S:=Nat) (fun k=>([(15,zI (k:Int)),(1,zP w.heap.size),(13,vp),(14,zI (p.length:Int))])) (fun k W=>AE w W∧BX W.heap w.heap.size [vp]∧k≤p.length∧(List.range k).all (Iq p)=true) (fun k=>p.length-k) 0 ⟨rfl,rfl,rfl,rfl,trivial⟩ ⟨bg,aw,sD,(by rfl)⟩ ?_
 clear bq c0 be bf bg
 rintro k ρ3 w3 ⟨ax,a4,bs,hq⟩
 have bh:w.heap.size≤w3.heap.size:=ax.size
 have ce:=a4.lt
 refine Z1 [0] Z ?_
 by_cases bt:(k:Int)<(p.length:Int)
 ·refine AC true Z Z (A5 bt) Aa<|Aj<|A0<|Af Z<|A2<|A0<|A3<|Z1 [0,0,2,3,0,4] Z<|Ad 1 Z<|Az (v:=vp) k Gp CN Z Z hp.isSl Z sD Aa ?_
  obtain⟨cs6,c1,c2⟩:=hp.get (AH dp) Fn.zero (k:=k) sD
  obtain⟨ab,rfl,ap⟩:=RF.of c1
  have ay:=ap.rn.lenle
  unfold maxLen at ay
  refine AO (p:=Ay vp k 3) (.inr Z) [.string<|(p.getD k Fn.zero).name,zI<|(p.getD k Fn.zero).params,ab] Ju Z (fun cg af=>c2 cg<|At.of_ext []<|ax.trans af) Z Aa ?_
  have cf:=a4.lt
  refine Bj (z:=.agg #[.string ByteArray.empty,zI 0,zN]) V5 Aa fun w7 bb c3 bi=>?_
  have bj:=bb.size
  have bk:=ax.trans bb
  have a5:=a4.ext bb
  replace bi:BX w7.heap w3.heap.size [.string ByteArray.empty,zI 0,zN]:=bi
  refine Ad 1 Z (Bw (vs:=[.string<|(p.getD k Fn.zero).name,zI<|(p.getD k Fn.zero).params,ab]) Ju Z Z ap.ones bi Z Z Aa fun w9 bc c4 az=>?_)
  replace az:BX w9.heap w3.heap.size [.string ((p.getD k Fn.zero).name),zI ((p.getD k Fn.zero).params),ab]:=az
  have bd:AE w w9:=bc.below bk (fun _ h=>zE h) bk.size
  have bl:=bc.size
  have aq:=a5.chg bc (zB ·)
  refine Aj<|A0<|Z1 [0,2,0,0,0,0,2,0,0,0,3,0] Z ?_
  have hzk:=hz k oM
  refine Ak (p:=zP w3.heap.size) 0 Ie Z Z Aa<|Ah (p:=Ao (zP w3.heap.size) 0) (.inr Z) (.string<|(p.getD k Fn.zero).name) Nb Z (az.ldp (i:=0) sM) Aa<|Ax 146 [] [] [.string<|(p.getD k Fn.zero).name] Z Z Xg Aa (.bool<|Jc<|(p.getD k Fn.zero).name) (fun wq=>JZ wq ((p.getD k Fn.zero).name) oM)<|Bq (!(Jc<|(p.getD k Fn.zero).name)) Z Z Aa<|Ad 1 Z ?_
  cases c5:(!(Jc ((p.getD k Fn.zero).name)))
  ·refine Ak (p:=zP w.heap.size) 0 BG Z Z (Ae (e:=24) Z Z Z)<|Ah (p:=Ao (zP w.heap.size) 0) (.inr Z) vp Cb Z (aq.ldp (i:=0) sM) (Ae (e:=24) Z Z Z)<|Ad 1 Z<|U6 (v:=vp) (k:=k) Gp CN Z hp.isSl hp.capS Z sD (Ae (e:=24) Z Z Z) ?_
   have b0:=RN.pref (AH dp) (k:=k) hp sD
   refine KJ [] [zP w3.heap.size] Z Z (Ae (e:=24) Z Z Z)<|Au 147 [] [] [LE vp k,.func (.func 148) #[] #[zP w3.heap.size]] Z Z Xh (Ae (e:=24) Z Z Z) (Cr _ dp (LE vp k) (p.take k) 148 [] [zP w3.heap.size] (fun g=>GR g.name (p.getD k Fn.zero).name) (b0.ext (An<|AH dp) bd) Xi fun d9 u x w1 hx hw=>FB w1 d9 u x w3.heap.size ab (p.getD k Fn.zero) hx<|az.ext hw) ?_
   rintro cm cn ⟨rfl,a7⟩
   refine⟨_,rfl,a7,?_⟩
   have b1:=a7.size
   have ac:=bd.trans a7
   have a6:=aq.ext a7
   have a0:=az.ext a7
   refine Ac 1 Z ?_
   cases b2:((p.take k).any (fun g=>GR g.name (p.getD k Fn.zero).name))
   ·refine Ai (by first|rfl|exact zW b2)<|A2<|A0<|Z1 [0,2,0,0,0,0,2,0,0,0,0] Z<|Ak (p:=zP w3.heap.size) 1 Co Z Z Aa<|Ah (p:=Ao (zP w3.heap.size) 1) (.inr Z) (zI<|(p.getD k Fn.zero).params) AB Z (a0.ldp (i:=1) sM) Aa<|Ax 72 [] [] [zI<|(p.getD k Fn.zero).params,zI ((0:Nat):Int),zI ((12:Nat):Int)] Z Z Du Aa (.bool (decide (((0:Nat):Int)≤((p.getD k Fn.zero).params)) && decide (((p.getD k Fn.zero).params)≤((12:Nat):Int)))) (fun wq=>AS wq _ _ _ ap.rng oM oM) ?_
    refine Bq (!(decide (((0:Nat):Int)≤((p.getD k Fn.zero).params)) && decide (((p.getD k Fn.zero).params)≤((12:Nat):Int)))) Z Z Aa<|Ad 1 Z ?_
    cases c6:(!(decide (((0:Nat):Int)≤((p.getD k Fn.zero).params)) && decide (((p.getD k Fn.zero).params)≤((12:Nat):Int))))
    ·refine Ak (p:=zP w3.heap.size) 2 BU Z Z (Ae (e:=36) Z Z Z)<|Ah (p:=Ao (zP w3.heap.size) 2) (.inr Z) ab Bl Z (a0.ldp (i:=2) sM) (Ae (e:=36) Z Z Z)<|AP (v:=ab) CR Z ap.rn.isSl (Ae (e:=36) Z Z Z)<|Ax 72 [] [] [zI ((((p.getD k Fn.zero).outs).length:Nat):Int),zI ((1:Nat):Int),zI ((12:Nat):Int)] Z Z Du (Ae (e:=36) Z Z Z) (.bool (decide (((1:Nat):Int)≤((((p.getD k Fn.zero).outs).length:Nat):Int)) && decide (((((p.getD k Fn.zero).outs).length:Nat):Int)≤((12:Nat):Int)))) (fun wq=>AS wq _ _ _ oM oM oM) ?_
     refine Bq (!(decide (((1:Nat):Int)≤((((p.getD k Fn.zero).outs).length:Nat):Int)) && decide (((((p.getD k Fn.zero).outs).length:Nat):Int)≤((12:Nat):Int)))) Z Z (Ae (e:=36) Z Z Z)<|Ac 1 Z ?_
     cases b3:(!(decide (((1:Nat):Int)≤((((p.getD k Fn.zero).outs).length:Nat):Int)) && decide (((((p.getD k Fn.zero).outs).length:Nat):Int)≤((12:Nat):Int))))
     ·refine Ai (by first|rfl|exact zW b3)<|A2<|Z2 Z<|A0<|Z1 [0,2,0,0] Z<|Ak (p:=zP w3.heap.size) 2 BU Z Z Aa<|Ah (p:=Ao (zP w3.heap.size) 2) (.inr Z) ab Bl Z (a0.ldp (i:=2) sM) Aa<|AP (v:=ab) CR Z ap.rn.isSl Aa<|Ac 1 Z<|A3 ?_
      refine AV (S:=Nat×Nat) (fun⟨j,sz⟩=>([(5,zI (sz:Int)),(46,zI (j:Int)),(1,zP w.heap.size),(3,zI (k:Int)),(4,zP w3.heap.size),(13,vp),(14,zI (p.length:Int)),(15,zI (k:Int)),(44,ab),(45,zI ((((p.getD k Fn.zero).outs).length:Nat):Int))])) (fun⟨j,sz⟩ W=>AE w W∧BX W.heap w.heap.size [vp]∧BX W.heap w3.heap.size [.string<|(p.getD k Fn.zero).name,zI<|(p.getD k Fn.zero).params,ab]∧j≤(p.getD k Fn.zero).outs.length∧sz=Ex.sizes ((p.getD k Fn.zero).outs.take j)∧(List.range j).all (fun j=>JW p ((p.getD k Fn.zero).outs.getD j Ex.zero) (p.getD k Fn.zero).params (k:Int))=true) (fun⟨j,sz⟩=>(p.getD k Fn.zero).outs.length-j) (0,0) ⟨rfl,rfl,rfl,rfl,rfl,rfl,rfl,rfl,rfl,rfl,trivial⟩ ⟨ac,a6,a0,sD,(by rw[List.take_zero,Kh]),(by rfl)⟩ ?_
      clear a4 ax bh ay c3 bb bj bk a5 c4 bc bd bl aq a7 b1 ac a6
      rintro⟨j,sz⟩ ρ20 ci ⟨ad,a1,a3,bm,hsz,hqe⟩
      have bu:w.heap.size≤ci.heap.size:=ad.size
      have c7:=a1.lt
      have c8:=a3.lt
      refine Z1 [0] Z ?_
      by_cases b4:(j:Int)<((((p.getD k Fn.zero).outs).length:Nat):Int)
      ·refine AC true Z Z (A5 b4) Aa<|Aj<|A0<|Af Z<|A2<|A0<|A3<|Z1 [0,2,3,4] Z<|Az (v:=ab) j CR Bp Z Z ap.rn.isSl Z sD Aa ?_
       obtain⟨cs24,bn,bo⟩:=ap.rn.get (AD dp) Ex.zero (k:=j) sD
       obtain⟨dd24,a2,c9,rfl,ag⟩:=RX.of bn
       have b5:=ag.rn.lenle
       unfold maxLen at b5
       refine AO (p:=Ay ab j 5) (.inr Z) [zI<|(((p.getD k Fn.zero).outs).getD j Ex.zero).kind,zI<|(((p.getD k Fn.zero).outs).getD j Ex.zero).num,zI<|(((p.getD k Fn.zero).outs).getD j Ex.zero).pick,zI<|(((p.getD k Fn.zero).outs).getD j Ex.zero).count,a2] B7 Z (fun cg af=>bo cg<|At.of_ext []<|ad.trans af) Z Aa ?_
       have ca:=a1.lt
       have cb:=a3.lt
       refine Bj (z:=.agg #[zI 0,zI 0,zI 0,zI 0,zN]) GE Aa fun ck ah cc ar=>?_
       have bv:=ah.size
       have b6:=ad.trans ah
       have a8:=a1.ext ah
       have a9:=a3.ext ah
       replace ar:BX ck.heap ci.heap.size [zI 0,zI 0,zI 0,zI 0,zN]:=ar
       refine Bw (vs:=[zI<|(((p.getD k Fn.zero).outs).getD j Ex.zero).kind,zI<|(((p.getD k Fn.zero).outs).getD j Ex.zero).num,zI<|(((p.getD k Fn.zero).outs).getD j Ex.zero).pick,zI<|(((p.getD k Fn.zero).outs).getD j Ex.zero).count,a2]) B7 Z Z ag.ones ar Z Z Aa fun cj ai cd aj=>?_
       replace aj:BX cj.heap ci.heap.size [zI ((((p.getD k Fn.zero).outs).getD j Ex.zero).kind),zI ((((p.getD k Fn.zero).outs).getD j Ex.zero).num),zI ((((p.getD k Fn.zero).outs).getD j Ex.zero).pick),zI ((((p.getD k Fn.zero).outs).getD j Ex.zero).count),a2]:=aj
       have au:AE w cj:=ai.below b6 (fun _ h=>zE h) b6.size
       have bw:=ai.size
       have b7:=a8.chg ai (zB ·)
       have b8:=a9.chg ai (zB ·)
       refine Aj<|A0<|Z1 [2,2,0,2,0,3,0] Z ?_
       have hst:=CZ (l:=(p.getD k Fn.zero).outs) (k:=j) oM
       have hle:=CL (p.getD k Fn.zero).outs (j+1)
       refine AO (p:=zP w.heap.size) (.inr Z) [vp] Do Z (fun cg af=>LD.of_box<|BX.ext (w:=cj) b7 af) Z Aa<|AO (p:=zP ci.heap.size) (.inr Z) [zI<|(((p.getD k Fn.zero).outs).getD j Ex.zero).kind,zI<|(((p.getD k Fn.zero).outs).getD j Ex.zero).num,zI<|(((p.getD k Fn.zero).outs).getD j Ex.zero).pick,zI<|(((p.getD k Fn.zero).outs).getD j Ex.zero).count,a2] B7 Z (fun cg af=>LD.of_box<|BX.ext (w:=cj) aj af) Z Aa<|Ak (p:=zP w3.heap.size) 1 Co Z Z Aa<|Ah (p:=Ao (zP w3.heap.size) 1) (.inr Z) (zI<|(p.getD k Fn.zero).params) AB Z (b8.ldp (i:=1) sM) Aa<|Ad 1 Z ?_
       refine Au 149 [] [] [.agg #[vp],.agg #[zI<|(((p.getD k Fn.zero).outs).getD j Ex.zero).kind,zI<|(((p.getD k Fn.zero).outs).getD j Ex.zero).num,zI<|(((p.getD k Fn.zero).outs).getD j Ex.zero).pick,zI<|(((p.getD k Fn.zero).outs).getD j Ex.zero).count,a2],zI<|(p.getD k Fn.zero).params,zI (k:Int)] Z Z Xj Aa (Ig _ dp vp (p) dd24 a2 (((p.getD k Fn.zero).outs).getD j Ex.zero) _ _ (hp.ext (An<|AH dp) au) (ag.ext au) ap.rng oM oM) ?_
       rintro co cl ⟨rfl,aa⟩
       refine⟨_,rfl,aa,?_⟩
       have bx:=aa.size
       have av:=au.trans aa
       have ak:=b7.ext aa
       have al:=b8.ext aa
       have am:=aj.ext aa
       refine Bq (!(JW p (((p.getD k Fn.zero).outs).getD j Ex.zero) ((p.getD k Fn.zero).params) (k:Int))) Z Z Aa<|Aj ?_
       cases b9:(!(JW p (((p.getD k Fn.zero).outs).getD j Ex.zero) ((p.getD k Fn.zero).params) (k:Int)))
       ·refine Ai (by first|rfl|exact zW b9)<|A2<|Ab _ [0,2,3,0,0] Z<|Ad 1 Z<|AO (p:=zP ci.heap.size) (.inr Z) [zI<|(((p.getD k Fn.zero).outs).getD j Ex.zero).kind,zI<|(((p.getD k Fn.zero).outs).getD j Ex.zero).num,zI<|(((p.getD k Fn.zero).outs).getD j Ex.zero).pick,zI<|(((p.getD k Fn.zero).outs).getD j Ex.zero).count,a2] B7 Z (fun cg af=>LD.of_box<|BX.ext (w:=cl) am af) Z Aa ?_
        refine Au 150 [] [] [.agg #[zI<|(((p.getD k Fn.zero).outs).getD j Ex.zero).kind,zI<|(((p.getD k Fn.zero).outs).getD j Ex.zero).num,zI<|(((p.getD k Fn.zero).outs).getD j Ex.zero).pick,zI<|(((p.getD k Fn.zero).outs).getD j Ex.zero).count,a2]] Z Z QO Aa (Fu _ dd24 a2 (((p.getD k Fn.zero).outs).getD j Ex.zero) (ag.ext av) oM) ?_
        rintro cp cq ⟨rfl,ae⟩
        refine⟨_,rfl,ae,?_⟩
        have bz:=ae.size
        have bp:=av.trans ae
        have an:=ak.ext ae
        have ao:=al.ext ae
        refine AM ((sz+((p.getD k Fn.zero).outs.getD j Ex.zero).size:Nat):Int) Z Z (Ba oM oM) Aa<|Ac 1 Z<|Ab _ [0,0] Z<|AM ((j+1:Nat):Int) Z Z (Ba oM sD) Aa<|Ac 1 Z ?_
        exact⟨(j+1,sz+((p.getD k Fn.zero).outs.getD j Ex.zero).size),_,rfl,zR,⟨bp,an,ao,sD,oM,(by exact D7 hqe (Et (by assumption)))⟩,zD⟩
       refine Af (by first|rfl|exact zW b9)<|Z2 Z<|A1<|Am<|AF<|Am<|Am<|AF<|Am<|AF<|Am<|Am<|AF<|Am ?_
       exact Ag [2] Z (.bool false) Z ⟨Iu,av⟩
      refine AC false Z Z (A6 b4) Aa<|Aj<|A0<|Ai Z<|A4<|Av<|Av<|Aq<|Z1 [0,0] Z ?_
      have hal:=Kj (l:=(p.getD k Fn.zero).outs) (k:=j) oM
      refine Ad 1 Z ?_
      by_cases ba:((400:Nat):Int)<(sz:Int)
      ·exact BH true Z Z (A5 ba) Aa<|Aj<|Af Z<|Z2 Z<|A1<|AF<|Am<|Am<|AF<|Am<|Ag [2] Z (.bool false) Z ⟨Iu,ad⟩
      refine BH false Z Z (A6 ba) Aa<|Aj<|Ai Z<|A2<|Ab _ [0,0] Z<|AM ((k+1:Nat):Int) Z Z (Ba oM sD) Aa<|Ac 1 Z ?_
      exact⟨k+1,_,rfl,zR,⟨ad,a1,sD,(by exact D7 hq (TR (Et (by assumption)) (by assumption) (Et (by assumption)) (Et (by assumption)) hqe oM oM))⟩,zD⟩
     exact Af (by first|rfl|exact zW b3)<|Z2 Z<|A1<|Am<|AF<|Am<|Am<|AF<|Am<|Ag [2] Z (.bool false) Z ⟨Iu,ac⟩
    exact Ac 6 Z<|Af Z<|Z2 Z<|A1<|Am<|AF<|Am<|Am<|AF<|Am<|Ag [2] Z (.bool false) Z ⟨Iu,ac⟩
   exact Af (by first|rfl|exact zW b2)<|Z2 Z<|A1<|Am<|AF<|Am<|Am<|AF<|Am<|Ag [2] Z (.bool false) Z ⟨Iu,ac⟩
  exact Ac 7 Z<|Af Z<|Z2 Z<|A1<|Am<|AF<|Am<|Am<|AF<|Am<|Ag [2] Z (.bool false) Z ⟨Iu,bd⟩
 exact AC false Z Z (A6 bt) Aa<|Aj<|A0<|Ai Z<|A4<|Av<|Av<|Aq<|Z2 Z<|A1<|Ag [2] Z (.bool true) Z ⟨Iu,ax⟩
theorem TS {p:List Fn}{f:Int}(h:Iw p=false):1=HG p f:=by unfold HG;rw[h];rfl
theorem TT {p:List Fn}{f:Int}(h:Iw p=true)(h2:¬(0≤f∧f≤((p.length:Nat):Int)-1)):2=HG p f:=by unfold HG;rw[if_pos h,if_neg h2]
theorem TU {p:List Fn}{f:Int}(h:Iw p=true)(h2:0≤f∧f≤((p.length:Nat):Int)-1):0=HG p f:=by unfold HG;rw[if_pos h,if_pos h2]
theorem R4 {p:Prop}(h:p:=by first|exact B2 (TS (Gr (by assumption)))|exact B2 (TT (Et (by assumption)) (Mo (Gr (by assumption))))|exact B2 (TU (Et (by assumption)) (FW (Et (by assumption))))):p:=h
theorem K1 (w:World)(dp:Nat)(vp:Value)(p:List Fn)(f:Int)(hp:RP [] dp w.heap vp p)(_hf:Bn f)(hz:RZ p) :
  Calls Tryz.prog 52 #[(.agg #[vp]),zI f] w (fun e w'=>e=.returned (zI (HG p f))∧AE w w'):=by
 refine Ap [.agg #[vp],zI f] 17 Tryz.func52 Z Z sM ?_
 have a8:AE w w:=AE.refl w
 have ad:=hp.lenle
 unfold maxLen at ad
 refine Z1 [3,0] Z (Bx (cs:=#[vp]) Z Aa fun w1 a4 ac a1=>?_)
 have a9:=a4.size
 have a5:=a8.trans a4
 replace a1:BX w1.heap w.heap.size [vp]:=a1
 refine Ac 1 Z<|A0<|A3<|Z1 [2,3,0,0] Z<|AO (p:=zP w.heap.size) (.inr Z) [vp] Do Z (fun ae aa=>LD.of_box<|BX.ext (w:=w1) a1 aa) Z Aa<|Au 87 [] [] [.agg #[vp]] Z Z YP Aa (Gs _ dp vp (p) (hp.ext (An<|AH dp) a5) hz) ?_
 rintro e2 w2 ⟨rfl,a2⟩
 refine⟨_,rfl,a2,?_⟩
 have ab:=a2.size
 have a3:=a5.trans a2
 have a0:=a1.ext a2
 refine Bq (!(Iw p)) Z Z Aa<|Ac 1 Z ?_
 cases a6:(!(Iw p))
 ·refine Ai (by first|rfl|exact zW a6)<|Z1 [0,0,2,0,0,0,0,0] Z<|Ad 1 Z<|Ak (p:=zP w.heap.size) 0 BG Z Z Aa<|Ah (p:=Ao (zP w.heap.size) 0) (.inr Z) vp Cb Z (a0.ldp (i:=0) sM) Aa<|AP (v:=vp) Gp Z hp.isSl Aa<|Br ((p.length:Int)-1) Z Z (D3 oM oM) Aa<|Ax 72 [] [] [zI f,zI ((0:Nat):Int),zI ((p.length:Int)-1)] Z Z Du Aa (.bool (decide (((0:Nat):Int)≤f) && decide (f≤((p.length:Int)-1)))) (fun wq=>AS wq _ _ _ _hf oM oM) ?_
  refine Bq (!(decide (((0:Nat):Int)≤f) && decide (f≤((p.length:Int)-1)))) Z Z Aa<|Ac 1 Z ?_
  cases a7:(!(decide (((0:Nat):Int)≤f) && decide (f≤((p.length:Int)-1))))
  ·exact Ai (by first|rfl|exact zW a7)<|A2<|Z2 Z<|A1<|Ag [4] Z (zI ((0:Nat):Int)) Z ⟨R4,a3⟩
  exact Af (by first|rfl|exact zW a7)<|Z2 Z<|A1<|AF<|Am<|Ag [4] Z (zI ((2:Nat):Int)) Z ⟨R4,a3⟩
 exact Af (by first|rfl|exact zW a6)<|Z2 Z<|A1<|AF<|Am<|Ag [4] Z (zI ((1:Nat):Int)) Z ⟨R4,a3⟩
theorem XR {p:Prop}(h:p:=by first|(rw[A5 (show((3000:Nat):Int)<((cs.length:Nat):Int) by assumption)];rfl)|(rw[A6 (show ¬((3000:Nat):Int)<((cs.length:Nat):Int) by assumption),Bool.false_or])):p:=h
theorem K2 (w:World)(vc:Value)(cs:List UInt8)(vd:Value)(ds:List UInt8)(hcs:Rd (B4 rU) w.heap vc cs)(hds:Rd (B4 rU) w.heap vd ds)  :
  Calls Tryz.prog 7 #[vc,vd] w (fun e w'=>e=.returned (.bool (decide (((3000:Nat):Int)<(cs.length:Int)) || decide (((3000:Nat):Int)<(ds.length:Int))))∧AE w w'):=by
 refine Ap [vc,vd] 13 Tryz.func7 Z Z sM ?_
 have a0:AE w w:=AE.refl w
 have a2:=hcs.lenle
 have a3:=hds.lenle
 refine Z2 Z<|Z1 [0,0,0,0,0,0,0,0,0] Z<|Ad 1 Z<|AP (v:=vc) Ot Z hcs.isSl Aa ?_
 by_cases a1:((3000:Nat):Int)<(cs.length:Int)
 ·exact BH true Z Z (A5 a1) Aa<|Ac 6 Z<|A1<|Ag [4] Z (.bool true) Z ⟨AJ XR,a0⟩
 exact BH false Z Z (A6 a1) Aa<|Ad 2 Z<|AP (v:=vd) Ot Z hds.isSl (Ae (e:=8) Z Z Z)<|BH (decide (((3000:Nat):Int)<(ds.length:Int))) Z Z Z (Ae (e:=8) Z Z Z)<|Ac 2 Z<|A1<|Ag [4] Z (.bool<|decide (((3000:Nat):Int)<(ds.length:Int))) Z ⟨AJ XR,a0⟩
def Ll (cs:List UInt8)(k n:Int):Int:=if ((cs.length:Nat):Int)≤k∨n<1 then 0 else(((cs.getD k.toNat 0).toNat:Nat):Int) % n
theorem R5 {p:Prop}(h:p:=by unfold Ll;split <;> first|rfl|(exfalso;omega)):p:=h
theorem Mp (w:World)(vc:Value)(cs:List UInt8)(k:Int)(n:Int)(hcs:Rd (B4 rU) w.heap vc cs)(_hk:Bn k)(_hn:Bn n)(hk:0≤k) :
  Calls Tryz.prog 22 #[vc,zI k,zI n] w (fun e w'=>e=.returned (zI (Ll cs k n))∧AE w w'):=by
 refine Ap [vc,zI k,zI n] 22 Tryz.func22 Z Z sM ?_
 have a0:AE w w:=AE.refl w
 have a3:=hcs.lenle
 refine Z2 Z<|A0<|Z1 [0,0,0,0,0,0,0,0] Z<|Ad 2 Z<|AP (v:=vc) Ot Z hcs.isSl Aa ?_
 by_cases a1:(cs.length:Int)≤k
 ·exact D5 true Z Z (A5 a1) Aa<|Ac 4 Z<|Af Z<|Z2 Z<|A1<|Am<|Ag [6] Z (zI ((0:Nat):Int)) Z ⟨B2 R5,a0⟩
 refine D5 false Z Z (A6 a1) Aa<|Ad 2 Z ?_
 by_cases a2:n<((1:Nat):Int)
 ·exact AC true Z Z (A5 a2) (Ae (e:=11) Z Z Z)<|Ac 1 Z<|Af Z<|Z2 Z<|A1<|Am<|Ag [6] Z (zI ((0:Nat):Int)) Z ⟨B2 R5,a0⟩
 refine AC false Z Z (A6 a2) (Ae (e:=11) Z Z Z)<|Ac 1 Z<|Ai Z<|A2<|Z1 [0,0,0,2,0,0,0,0] Z<|Ad 2 Z<|Az (v:=vc) ((k).toNat) Ot YU Z Z hcs.isSl oM sD Aa ?_
 refine Ah (p:=Ay vc ((k).toNat) 1) (.inr Z) (.int .u8 ((cs.getD ((k).toNat) 0).toNat:Int)) XG Z (Bb a0 (hcs.getU sD).1) Aa<|GJ ((cs.getD ((k).toNat) 0).toNat:Int) u5 u2 Z (w8 _) Aa<|Ad 1 Z<|D4 (((cs.getD ((k).toNat) 0).toNat:Int) % n) Z Z oM (Int.tmod_eq_emod_of_nonneg oM) Aa<|Ac 1 Z<|A1 ?_
 exact Ag [6] Z (zI (((cs.getD ((k).toNat) 0).toNat:Int) % n)) Z ⟨B2 R5,a0⟩
theorem FX (w:World)(va:Value)(a:Sr)(y:Int)(ha:Rd (B4 rI) w.heap va a)(_hy:Bn y)(hla:a.length≤1000000000000) :
  Calls Tryz.prog 19 #[va,zI y] w (fun e w'=>∃v0:Value,e=.returned (v0)∧AE w w'∧Fr (B8 rI 2) w.heap.size w'.heap.size w'.heap v0 (IP a y)):=by
 refine Ap [va,zI y] 24 Tryz.func19 Z Z sM ?_
 have a8:AE w w:=AE.refl w
 have an:=ha.lenle
 refine Z2 Z<|Z1 [3,0] Z (CH (rI) AI Bm BC Aa fun v1 w1 a3 af a9=>?_)
 have a4:=a3.size
 have aa:=a8.trans a3
 refine Ac 1 Z<|A0<|Z2 Z<|A3 ?_
 refine AV (S:=Nat×Value) (fun⟨k,vo⟩=>([(5,vo),(6,zI (k:Int)),(0,va),(1,zI y)])) (fun⟨k,vo⟩ W=>AE w W∧Fr (B8 rI 2) w.heap.size W.heap.size W.heap vo ((a.take k).map fun x=>md (x*y))∧k≤a.length) (fun⟨k,vo⟩=>a.length-k) (0,v1) ⟨rfl,rfl,rfl,rfl,trivial⟩ ⟨aa,a9.up o1,sD⟩ ?_
 clear a8 a9 af a3 a4 aa
 rintro⟨k,vo⟩ ρ2 w2 ⟨a2,a1,ab⟩
 have ag:w.heap.size≤w2.heap.size:=a2.size
 refine A0<|Z1 [0,0,0,0] Z<|Ad 2 Z<|AP (v:=va) Bm Z ha.isSl Aa ?_
 by_cases ac:(k:Int)<(a.length:Int)
 ·refine AC true Z Z (A5 ac) Aa<|Aj<|Af Z<|A2<|A0<|A3<|Ab _ [0,0,0,0,2,0,0,3,4,0] Z<|Ad 3 Z<|Az (v:=va) k Bm BC Z Z ha.isSl Z sD Aa ?_
  refine Ah (p:=Ay va k 1) (.inr Z) (zI<|a.getD k 0) AB Z (Bb a2 (ha.getI sD).1) Aa<|Ad 1 Z ?_
  refine Ax 69 [] [] [zI<|a.getD k 0,zI y] Z Z Mj Aa (zI<|md ((a.getD k 0)*y)) (fun wq=>Cc wq _ _ (ha.getI sD).2 _hy) (BI (u:=zI<|md ((a.getD k 0)*y)) (B:=w2.heap.size) AI Bm BC Z Z (KL w2.heap.size w2.heap.size _ _<|Dt _) (A7 _) Aa fun v5 w5 a5 al ad=>?_)
  have ah:=a5.size
  have a6:=a2.trans a5
  have a0:=a1.ext (o1) a5
  refine El (v:=vo) (a:=v5) Bm BC Z Z Z a0 a6.size ad.rd1 sD (by unfold maxLen;first|omega|assumption|(simp;done)|(simp;omega)) Aa fun v6 w6 F6 a7 ae ai=>?_
  have aj:AE w w6:=a7.below a6 (fun c hc=>A8 (A7 _) (ae c hc).1) a6.size
  have ak:=a7.size
  have am:=ad.chg (o1) a7 fun c hc=>zH<|ae c hc
  refine Ac 1 Z<|Ab _ [0,0,0] Z<|Ad 1 Z<|AM ((k+1:Nat):Int) Z Z (Ba oM sD) Aa<|Ac 1 Z ?_
  exact⟨(k+1,v6),_,rfl,zR,⟨aj,(by rw[E1 0 oM];exact ai.up o1),sD⟩,zD⟩
 exact AC false Z Z (A6 ac) Aa<|Aj<|Ai Z<|A4<|Av<|Av<|Aq<|Z1 [0,0] Z<|Ac 2 Z<|A1<|Ag [4] Z vo Z ⟨vo,rfl,a2,(by have h:=a1.up o1;rwa [za oM]at h)⟩
theorem GF (w:World)(va:Value)(a:Sr)(vb:Value)(b:Sr)(ha:Rd (B4 rI) w.heap va a)(hb:Rd (B4 rI) w.heap vb b)  :
  Calls Tryz.prog 17 #[va,vb] w (fun e w'=>e=.returned (.bool (decide (a=b)))∧AE w w'):=by
 refine Ap [va,vb] 26 Tryz.func17 Z Z sM ?_
 have a1:AE w w:=AE.refl w
 have a7:=ha.lenle
 have a8:=hb.lenle
 refine Z2 Z<|A0<|Z1 [0,0,0,0,0] Z<|Ad 1 Z<|AP (v:=va) Bm Z ha.isSl Aa<|Ad 1 Z<|AP (v:=vb) Bm Z hb.isSl Aa ?_
 by_cases a2:(a.length:Int)≠(b.length:Int)
 ·exact B5 true Z Z (A5 a2) Aa<|Aj<|Af Z<|Z2 Z<|A1<|Am<|Ag [4] Z (.bool false) Z ⟨AJ (A6<|RJ oM).symm,a1⟩
 refine B5 false Z Z (A6 a2) Aa<|Aj<|Ai Z<|A2<|A0<|Z2 Z<|A3<|AV (S:=Nat) (fun k=>([(5,zI (k:Int)),(0,va),(1,vb)])) (fun k W=>AE w W∧k≤a.length∧(∀j,j<k→a.getD j 0=b.getD j 0)) (fun k=>a.length-k) 0 ⟨rfl,rfl,rfl,trivial⟩ ⟨a1,sD,(by intro j hj;omega)⟩ ?_
 clear a1
 rintro k ρ2 w2 ⟨a0,a3,hq⟩
 have a6:w.heap.size≤w2.heap.size:=a0.size
 refine A0<|Z1 [0,0,0,0] Z<|Ad 2 Z<|AP (v:=va) Bm Z ha.isSl Aa ?_
 by_cases a4:(k:Int)<(a.length:Int)
 ·refine AC true Z Z (A5 a4) Aa<|Aj<|Af Z<|A2<|A0<|A3<|A0<|AW _ [0,0,0,1,0,0,0,1,0] mixed (by kernel_rfl)<|Ad 2 Z<|Az (v:=va) k Bm BC Z Z ha.isSl Z sD Aa ?_
  refine Ah (p:=Ay va k 1) (.inl Z) (zI<|a.getD k 0) AB Z (Bb a0.drew (ha.getI sD).1) Aa<|Ad 2 Z ?_
  refine Az (v:=vb) k Bm BC Z Z hb.isSl Z sD Aa ?_
  refine Ah (p:=Ay vb k 1) (.inl Z) (zI<|b.getD k 0) AB Z (Bb a0.drew (hb.getI sD).1) Aa ?_
  by_cases a5:a.getD k 0≠b.getD k 0
  ·exact B5 true Z Z (A5 a5) Aa<|Aj<|Af Z<|Z2 Z<|A1<|AF<|Am<|Am<|AF<|Am<|Ag [4] Z (.bool false) Z ⟨AJ (A6<|PF (d:=0) (k:=k) oM).symm,a0.drew⟩
  refine B5 false Z Z (A6 a5) Aa<|Aj<|Ai Z<|A2<|Ab _ [0,0,0] Z<|Ad 1 Z<|AM ((k+1:Nat):Int) Z Z (Ba oM sD) Aa<|Ac 1 Z ?_
  exact⟨k+1,_,rfl,zR,⟨a0.drew,sD,(by exact PE hq oM)⟩,zD⟩
 exact AC false Z Z (A6 a4) Aa<|Aj<|Ai Z<|A4<|Av<|Av<|Aq<|Z2 Z<|A1<|Ag [4] Z (.bool true) Z ⟨AJ (A5<|LN hq oM oM).symm,a0⟩
theorem Lm {p:Prop}(h:p:=by first|omega|exact Nw _):p:=h
theorem C6 {p:Prop}(h:p:=by kernel_rfl):p:=h
theorem E4 (w:World)(g:Nat)(sv:Value)(cs:List UInt8)(n0:Nat)(hs:DA w.heap g sv cs n0)(al:n0+1≤1000000000000)  :
  Calls Tryz.prog 162 #[zP g] w (fun e w'=>∃(x0:Int) (n1:Nat),e=.returned (zI x0)∧At [g] w w'∧DA w'.heap g sv cs n1∧(n0≤n1∧n1≤n0+1)∧(0≤x0∧x0≤255)):=by
 refine Ap [zP g] 62 Tryz.func162 Z Z sM ?_
 have a2:At [g] w w:=At.refl [g] w
 have aq:=hs.lt
 obtain⟨sd,hbx,hrs⟩:=hs.parts
 have hl_sv:=(hrs _<|At.refl [g] w).lenle
 refine Z2 Z<|Z2 Z<|A0<|A0<|AW _ [0,0,0,1,0,0,0,1,0,0] mixed C6<|Ad 1 Z<|AZ Z Aa<|Dm 1 C6 Z Aa<|Ah (p:=.pointer<|some ⟨g,1,none⟩) (.inl Z) (zI (n0:Int)) JX Z (hbx.ld (k:=1) sM) Aa<|Ad 1 Z<|AZ Z Aa<|Dm 0 C6 Z Aa<|Ah (p:=zP g) (.inl Z) sv Or Z (hbx.ld (k:=0) sM) Aa<|AP (v:=sv) Ot Z (hrs _ a2.drew).isSl Aa ?_
 by_cases aa:(n0:Int)<(cs.length:Int)
 ·refine AC true Z Z (A5 aa) Aa<|Aj<|Af Z<|AW _ [0,0,0,1,0,0,0,1,0,1,0,0] mixed C6<|Ad 1 Z<|AZ Z Aa<|Dm 0 C6 Z Aa<|Ah (p:=zP g) (.inl Z) sv Or Z (hbx.ld (k:=0) sM) Aa<|Ad 1 Z<|AZ Z Aa<|Dm 1 C6 Z Aa<|Ah (p:=.pointer<|some ⟨g,1,none⟩) (.inl Z) (zI (n0:Int)) JX Z (hbx.ld (k:=1) sM) Aa ?_
  refine Az (v:=sv) n0 Ot YU Z Z (hrs _ a2.drew.drew).isSl Z sD Aa ?_
  refine Ah (p:=Ay sv n0 1) (.inl Z) (.int .u8 ((cs.getD n0 0).toNat:Int)) XG Z ((hrs _ a2.drew.drew).getU sD).1 Aa (GJ ((cs.getD n0 0).toNat:Int) u5 u3 Z (w8 _) Aa<|Ac 1 Z<|Z1 [0,0,0,2,0,0,0,4] Z<|Ad 1 Z<|AZ Z Aa<|Dm 1 C6 Z Aa<|Ah (p:=.pointer<|some ⟨g,1,none⟩) (.inr Z) (zI (n0:Int)) JX Z (hbx.ld (k:=1) sM) Aa ?_)
  refine AM ((n0+1:Nat):Int) Z Z (Ba oM sD) Aa<|AZ Z Aa<|Dm 1 C6 Z Aa (Bi (w:=w.drew.drew) Z8 Z Z ⟨rfl,rfl⟩ hbx sM Aa fun w2 a3 am ad=>?_)
  replace a3:=a3.of_drew
  replace a3:=a3.of_drew
  have ae:At [g] w w2:=a2.trans a3
  have a4:BX w2.heap g [sv,zI ((n0+1:Nat):Int),.int .u64 sd]:=ad
  refine Aj<|Z1 [0,0,0,0,2,0,0,0,0,0,0,0,4] Z<|Ad 2 Z<|AZ Z Aa<|Dm 2 C6 Z Aa<|Ah (p:=.pointer<|some ⟨g,2,none⟩) (.inr Z) (.int .u64 sd) Lc Z (a4.ld (k:=2) sM) Aa<|Ed (IntKind.u64.wrap (sd*6364136223846793005)) Z Z Z Aa<|Ad 1 Z<|GJ (IntKind.u64.wrap ((cs.getD n0 0).toNat:Int)) u3 SL Z Z Aa<|AM (IntKind.u64.wrap ((IntKind.u64.wrap (sd*6364136223846793005))+(IntKind.u64.wrap ((cs.getD n0 0).toNat:Int)))) Z Z Z Aa<|AM (IntKind.u64.wrap ((IntKind.u64.wrap ((IntKind.u64.wrap (sd*6364136223846793005))+(IntKind.u64.wrap ((cs.getD n0 0).toNat:Int))))+1442695040888963407)) Z Z Z Aa<|AZ Z Aa ?_
  refine Dm 2 C6 Z Aa (Bi (w:=w2) TM Z Z ⟨rfl,rfl⟩ a4 sM Aa fun w3 af an ag=>?_)
  have a5:At [g] w w3:=ae.trans af
  have a0:BX w3.heap g [sv,zI ((n0+1:Nat):Int),.int .u64 (IntKind.u64.wrap ((IntKind.u64.wrap ((IntKind.u64.wrap (sd*6364136223846793005))+(IntKind.u64.wrap ((cs.getD n0 0).toNat:Int))))+1442695040888963407))]:=ag
  refine Aj<|A0<|A0<|AW _ [0,0,0,1,0,0,0,1,0,0] mixed C6<|Ad 1 Z<|AZ Z Aa<|Dm 1 C6 Z Aa<|Ah (p:=.pointer<|some ⟨g,1,none⟩) (.inl Z) (zI ((n0+1:Nat):Int)) JX Z (a0.ld (k:=1) sM) Aa<|Ad 1 Z<|AZ Z Aa<|Dm 0 C6 Z Aa<|Ah (p:=zP g) (.inl Z) sv Or Z (a0.ld (k:=0) sM) Aa<|AP (v:=sv) Ot Z (hrs _ a5.drew).isSl Aa ?_
  by_cases ab:((n0+1:Nat):Int)≤(cs.length:Int)
  ·refine Dc true Z Z (A5 ab) Aa<|Aj<|Af Z<|Z1 [0,0] Z<|Ac 2 Z<|A1<|Am ?_
   have a8:=Nv<|cs.getD n0 0
   exact Ag [2] Z (zI ((cs.getD n0 0).toNat:Int)) Z ⟨((cs.getD n0 0).toNat:Int),n0+1,rfl,a5.drew,hs.close a5.drew a0,⟨zO,zO⟩,Lm⟩
  refine Dc false Z Z (A6 ab) Aa<|Aj<|Ai Z<|A2<|Z1 [0,0,0,2,0,0,0,0] Z<|Ad 1 Z<|AZ Z Aa<|Dm 2 C6 Z Aa<|Ah (p:=.pointer<|some ⟨g,2,none⟩) (.inr Z) (.int .u64<|IntKind.u64.wrap ((IntKind.u64.wrap ((IntKind.u64.wrap (sd*6364136223846793005))+(IntKind.u64.wrap ((cs.getD n0 0).toNat:Int))))+1442695040888963407)) Lc Z (a0.ld (k:=2) sM) Aa<|SX ((IntKind.u64.wrap ((IntKind.u64.wrap ((IntKind.u64.wrap (sd*6364136223846793005))+(IntKind.u64.wrap ((cs.getD n0 0).toNat:Int))))+1442695040888963407)).fdiv (2 ^ (min (40:Int).toNat (IntKind.u64).bits))) Z Z oM Z Aa<|SZ Z Z Aa ?_
  refine GJ (GL .u64 ((IntKind.u64.wrap ((IntKind.u64.wrap ((IntKind.u64.wrap (sd*6364136223846793005))+(IntKind.u64.wrap ((cs.getD n0 0).toNat:Int))))+1442695040888963407)).fdiv (2 ^ (min (40:Int).toNat (IntKind.u64).bits))) 255) SL u2 Z (Vl _) Aa<|Ac 1 Z<|A1 ?_
  have a8:=Nv<|cs.getD n0 0
  exact Ag [2] Z (zI<|GL .u64 ((IntKind.u64.wrap ((IntKind.u64.wrap ((IntKind.u64.wrap (sd*6364136223846793005))+(IntKind.u64.wrap ((cs.getD n0 0).toNat:Int))))+1442695040888963407)).fdiv (2 ^ (min (40:Int).toNat (IntKind.u64).bits))) 255) Z ⟨GL .u64 ((IntKind.u64.wrap ((IntKind.u64.wrap ((IntKind.u64.wrap (sd*6364136223846793005))+(IntKind.u64.wrap ((cs.getD n0 0).toNat:Int))))+1442695040888963407)).fdiv (2 ^ (min (40:Int).toNat (IntKind.u64).bits))) 255,n0+1,rfl,a5.drew,hs.close a5.drew a0,⟨zO,zO⟩,Lm⟩
 refine AC false Z Z (A6 aa) Aa<|Aj<|Ai Z<|A2<|Z1 [0,0,0,2,0,0,0,4] Z<|Ad 1 Z<|AZ Z Aa<|Dm 1 C6 Z Aa<|Ah (p:=.pointer<|some ⟨g,1,none⟩) (.inr Z) (zI (n0:Int)) JX Z (hbx.ld (k:=1) sM) Aa<|AM ((n0+1:Nat):Int) Z Z (Ba oM sD) Aa<|AZ Z Aa ?_
 refine Dm 1 C6 Z Aa (Bi (w:=w.drew) Z8 Z Z ⟨rfl,rfl⟩ hbx sM Aa fun w5 a9 ao ah=>?_)
 replace a9:=a9.of_drew
 have ai:At [g] w w5:=a2.trans a9
 have a6:BX w5.heap g [sv,zI ((n0+1:Nat):Int),.int .u64 sd]:=ah
 refine Aj<|Z1 [0,0,0,0,2,0,0,0,0,0,0,0,4] Z<|Ad 2 Z<|AZ Z Aa<|Dm 2 C6 Z Aa<|Ah (p:=.pointer<|some ⟨g,2,none⟩) (.inr Z) (.int .u64 sd) Lc Z (a6.ld (k:=2) sM) Aa<|Ed (IntKind.u64.wrap (sd*6364136223846793005)) Z Z Z Aa<|Ad 1 Z<|GJ (IntKind.u64.wrap ((0:Nat):Int)) u3 SL Z Z Aa<|AM (IntKind.u64.wrap ((IntKind.u64.wrap (sd*6364136223846793005))+(IntKind.u64.wrap ((0:Nat):Int)))) Z Z Z Aa<|AM (IntKind.u64.wrap ((IntKind.u64.wrap ((IntKind.u64.wrap (sd*6364136223846793005))+(IntKind.u64.wrap ((0:Nat):Int))))+1442695040888963407)) Z Z Z Aa<|AZ Z Aa<|Dm 2 C6 Z Aa ?_
 refine Bi (w:=w5) TM Z Z ⟨rfl,rfl⟩ a6 sM Aa fun w6 aj ap ak=>?_
 have a7:At [g] w w6:=ai.trans aj
 have a1:BX w6.heap g [sv,zI ((n0+1:Nat):Int),.int .u64 (IntKind.u64.wrap ((IntKind.u64.wrap ((IntKind.u64.wrap (sd*6364136223846793005))+(IntKind.u64.wrap ((0:Nat):Int))))+1442695040888963407))]:=ak
 refine Aj<|A0<|A0<|AW _ [0,0,0,1,0,0,0,1,0,0] mixed C6<|Ad 1 Z<|AZ Z Aa<|Dm 1 C6 Z Aa<|Ah (p:=.pointer<|some ⟨g,1,none⟩) (.inl Z) (zI ((n0+1:Nat):Int)) JX Z (a1.ld (k:=1) sM) Aa<|Ad 1 Z<|AZ Z Aa<|Dm 0 C6 Z Aa<|Ah (p:=zP g) (.inl Z) sv Or Z (a1.ld (k:=0) sM) Aa<|AP (v:=sv) Ot Z (hrs _ a7.drew).isSl Aa ?_
 by_cases ac:((n0+1:Nat):Int)≤(cs.length:Int)
 ·refine Dc true Z Z (A5 ac) Aa<|Aj<|Af Z<|Z1 [0,0] Z<|Ac 2 Z<|A1<|Am ?_
  have a8:=Nv<|cs.getD n0 0
  exact Ag [2] Z (zI ((0:Nat):Int)) Z ⟨((0:Nat):Int),n0+1,rfl,a7.drew,hs.close a7.drew a1,⟨zO,zO⟩,Lm⟩
 refine Dc false Z Z (A6 ac) Aa<|Aj<|Ai Z<|A2<|Z1 [0,0,0,2,0,0,0,0] Z<|Ad 1 Z<|AZ Z Aa<|Dm 2 C6 Z Aa<|Ah (p:=.pointer<|some ⟨g,2,none⟩) (.inr Z) (.int .u64<|IntKind.u64.wrap ((IntKind.u64.wrap ((IntKind.u64.wrap (sd*6364136223846793005))+(IntKind.u64.wrap ((0:Nat):Int))))+1442695040888963407)) Lc Z (a1.ld (k:=2) sM) Aa<|SX ((IntKind.u64.wrap ((IntKind.u64.wrap ((IntKind.u64.wrap (sd*6364136223846793005))+(IntKind.u64.wrap ((0:Nat):Int))))+1442695040888963407)).fdiv (2 ^ (min (40:Int).toNat (IntKind.u64).bits))) Z Z oM Z Aa<|SZ Z Z Aa ?_
 refine GJ (GL .u64 ((IntKind.u64.wrap ((IntKind.u64.wrap ((IntKind.u64.wrap (sd*6364136223846793005))+(IntKind.u64.wrap ((0:Nat):Int))))+1442695040888963407)).fdiv (2 ^ (min (40:Int).toNat (IntKind.u64).bits))) 255) SL u2 Z (Vl _) Aa<|Ac 1 Z<|A1 ?_
 have a8:=Nv<|cs.getD n0 0
 exact Ag [2] Z (zI<|GL .u64 ((IntKind.u64.wrap ((IntKind.u64.wrap ((IntKind.u64.wrap (sd*6364136223846793005))+(IntKind.u64.wrap ((0:Nat):Int))))+1442695040888963407)).fdiv (2 ^ (min (40:Int).toNat (IntKind.u64).bits))) 255) Z ⟨GL .u64 ((IntKind.u64.wrap ((IntKind.u64.wrap ((IntKind.u64.wrap (sd*6364136223846793005))+(IntKind.u64.wrap ((0:Nat):Int))))+1442695040888963407)).fdiv (2 ^ (min (40:Int).toNat (IntKind.u64).bits))) 255,n0+1,rfl,a7.drew,hs.close a7.drew a1,⟨zO,zO⟩,Lm⟩
theorem Nh {p:Prop}(h:p:=by first|omega|exact⟨Int.emod_nonneg _ oM,Int.le_of_lt (Int.lt_of_lt_of_le (Int.emod_lt_of_pos _ oM) oM),fun _=>Int.emod_lt_of_pos _ oM⟩):p:=h
theorem AU (w:World)(g:Nat)(sv:Value)(cs:List UInt8)(n0:Nat)(k:Int)(hs:DA w.heap g sv cs n0)(ad:n0+2≤1000000000000)(_hk:Bn k)(hk:k≤1000000) :
  Calls Tryz.prog 101 #[zP g,zI k] w (fun e w'=>∃(x0:Int) (n1:Nat),e=.returned (zI x0)∧At [g] w w'∧DA w'.heap g sv cs n1∧(n0≤n1∧n1≤n0+2)∧(0≤x0∧x0≤1000000∧(1≤k→x0<k))):=by
 refine Ap [zP g,zI k] 20 Tryz.func101 Z Z sM ?_
 have a0:At [g] w w:=At.refl [g] w
 have ai:=hs.lt
 refine Z2 Z<|A0<|Z1 [0,0] Z<|Ad 1 Z ?_
 by_cases a1:k≤((1:Nat):Int)
 ·exact Dc true Z Z (A5 a1) Aa<|Aj<|Af Z<|Z2 Z<|A1<|Am<|Ag [4] Z (zI ((0:Nat):Int)) Z ⟨((0:Nat):Int),n0,rfl,a0,hs,⟨zO,zO⟩,Nh⟩
 refine Dc false Z Z (A6 a1) Aa<|Aj<|Ai Z<|A2<|Z1 [0,4,0] Z<|Ad 1 Z<|AA 162 [] [] [zP g] Z Z Tx Aa (E4 _ g _ _ _ hs oM) ?_
 rintro e2 w2 ⟨ag,n2,rfl,a2,a3,ae,a4⟩
 refine⟨_,rfl,?_⟩
 have a9:=a2.size
 have a5:At [g] w w2:=a0.trans a2
 refine Ac 1 Z<|A0<|Z1 [0,0] Z<|Ad 1 Z ?_
 by_cases a6:((200:Nat):Int)<k
 ·refine BH true Z Z (A5 a6) Aa<|Aj<|Af Z<|Ab _ [0,0,0,4,0,0] Z<|Ad 1 Z ?_
  refine Ed (ag*((256:Nat):Int)) Z Z (D3 sD sD) Aa<|Ad 1 Z ?_
  refine AA 162 [] [] [zP g] Z Z Tx Aa (E4 _ g _ _ _ a3 oM) ?_
  rintro e4 w4 ⟨ah,n4,rfl,a7,aa,af,a8⟩
  refine⟨_,rfl,?_⟩
  have ab:=a7.size
  have ac:At [g] w w4:=a5.trans a7
  refine AM ((ag*((256:Nat):Int))+ah) Z Z (D3 sD sD) Aa<|Ac 1 Z<|Z1 [0,0,0,0] Z ?_
  exact Ad 2 Z<|D4 (((ag*((256:Nat):Int))+ah) % k) Z Z oM (Int.tmod_eq_emod_of_nonneg oM) Aa<|Ac 1 Z<|A1<|Ag [4] Z (zI (((ag*((256:Nat):Int))+ah) % k)) Z ⟨((ag*((256:Nat):Int))+ah) % k,n4,rfl,ac,aa,⟨zO,zO⟩,Nh⟩
 exact BH false Z Z (A6 a6) Aa<|Aj<|Ai Z<|A2<|Z1 [0,0,0,0] Z<|Ad 2 Z<|D4 ((ag) % k) Z Z oM (Int.tmod_eq_emod_of_nonneg oM) Aa<|Ac 1 Z<|A1<|Ag [4] Z (zI ((ag) % k)) Z ⟨(ag) % k,n2,rfl,a5,a3,⟨zO,zO⟩,Nh⟩
theorem Cd (w:World)(g:Nat)(sv:Value)(cs:List UInt8)(n0:Nat)(k:Int)(hs:DA w.heap g sv cs n0)(a6:n0+2≤1000000000000)(_hk:Bn k)(hk:k≤1000000) :
  Calls Tryz.prog 102 #[zP g,zI k] w (fun e w'=>∃(x0:Bool) (n1:Nat),e=.returned (.bool x0)∧At [g] w w'∧DA w'.heap g sv cs n1∧(n0≤n1∧n1≤n0+2)∧True):=by
 refine Ap [zP g,zI k] 9 Tryz.func102 Z Z sM ?_
 have a2:At [g] w w:=At.refl [g] w
 have a9:=hs.lt
 refine Z2 Z<|Z1 [0,0,4,0,0] Z<|Ad 2 Z<|AA 101 [] [] [zP g,zI k] Z Z DG Aa (AU _ g _ _ _ _ hs oM _hk sD) ?_
 rintro e1 w1 ⟨a8,n1,rfl,a0,a3,a7,a1⟩
 refine⟨_,rfl,?_⟩
 have a4:=a0.size
 have a5:At [g] w w1:=a2.trans a0
 exact Al (decide (a8=((0:Nat):Int))) Z Z Z Aa<|Ac 1 Z<|A1<|Ag [4] Z (.bool<|decide (a8=((0:Nat):Int))) Z ⟨decide (a8=((0:Nat):Int)),n1,rfl,a5,a3,⟨zO,zO⟩,(by trivial)⟩
theorem Eu (w:World)(g:Nat)(sv:Value)(cs:List UInt8)(n0:Nat)(hs:DA w.heap g sv cs n0)(az:n0+8≤1000000000000)  :
  Calls Tryz.prog 110 #[zP g] w (fun e w'=>∃(x0:Int) (n1:Nat),e=.returned (zI x0)∧At [g] w w'∧DA w'.heap g sv cs n1∧(n0≤n1∧n1≤n0+8)∧(0≤x0∧x0<1000003)):=by
 refine Ap [zP g] 25 Tryz.func110 Z Z sM ?_
 have ag:At [g] w w:=At.refl [g] w
 have bc:=hs.lt
 refine Z2 Z<|A0<|Z1 [0,4] Z<|Ad 1 Z<|AA 101 [] [] [zP g,zI ((6:Nat):Int)] Z Z DG Aa (AU _ g _ _ _ _ hs oM oM sD) ?_
 rintro e1 w1 ⟨ba,n1,rfl,a2,a0,b0,a3⟩
 refine⟨_,rfl,?_⟩
 have ah:=a2.size
 have a1:At [g] w w1:=ag.trans a2
 refine Aj<|A3<|Z1 [0,0] Z ?_
 by_cases a4:ba=((0:Nat):Int)
 ·refine Al true Z Z (A5 a4) Aa<|Ac 1 Z<|Af Z<|Z1 [0,4,0,0] Z<|Ad 1 Z<|AA 101 [] [] [zP g,zI ((3:Nat):Int)] Z Z DG Aa (AU _ g _ _ _ _ a0 oM oM sD) ?_
  rintro e3 w3 ⟨b9,n3,rfl,a5,ai,b1,a6⟩
  refine⟨_,rfl,?_⟩
  have aj:=a5.size
  have ak:At [g] w w3:=a1.trans a5
  refine Br (((1000002:Nat):Int)-b9) Z Z (D3 sD sD) Aa<|Ac 1 Z<|A1<|AF<|Am ?_
  exact Ag [2] Z (zI (((1000002:Nat):Int)-b9)) Z ⟨((1000002:Nat):Int)-b9,n3,rfl,ak,ai,⟨zO,zO⟩,(by first|omega|exact BT _)⟩
 refine Al false Z Z (A6 a4) Aa<|Ac 1 Z<|Ai Z<|Z1 [0,0] Z ?_
 by_cases a7:ba=((1:Nat):Int)
 ·refine Al true Z Z (A5 a7) Aa<|Ac 1 Z<|Af Z<|Z1 [0,4,0,0,4,0,0,0,4,0,0,0] Z<|Ad 1 Z<|AA 101 [] [] [zP g,zI ((256:Nat):Int)] Z Z DG Aa (AU _ g _ _ _ _ a0 oM oM sD) ?_
  rintro e5 w5 ⟨b6,n5,rfl,a8,al,b2,a9⟩
  refine⟨_,rfl,?_⟩
  have am:=a8.size
  have an:At [g] w w5:=a1.trans a8
  refine Ed (b6*((65536:Nat):Int)) Z Z (D3 sD sD) Aa<|Ad 1 Z ?_
  refine AA 101 [] [] [zP g,zI ((256:Nat):Int)] Z Z DG Aa (AU _ g _ _ _ _ al oM oM sD) ?_
  rintro e6 w6 ⟨b7,n6,rfl,aa,ao,b3,ab⟩
  refine⟨_,rfl,?_⟩
  have ap:=aa.size
  have aq:At [g] w w6:=an.trans aa
  refine Ed (b7*((256:Nat):Int)) Z Z (D3 sD sD) Aa ?_
  refine AM ((b6*((65536:Nat):Int))+(b7*((256:Nat):Int))) Z Z (D3 sD sD) Aa<|Ad 1 Z ?_
  refine AA 101 [] [] [zP g,zI ((256:Nat):Int)] Z Z DG Aa (AU _ g _ _ _ _ ao oM oM sD) ?_
  rintro e7 w7 ⟨b8,n7,rfl,ac,ar,b4,ad⟩
  refine⟨_,rfl,?_⟩
  have au:=ac.size
  have av:At [g] w w7:=aq.trans ac
  refine AM (((b6*((65536:Nat):Int))+(b7*((256:Nat):Int)))+b8) Z Z (D3 sD sD) Aa ?_
  exact D4 (md (((b6*((65536:Nat):Int))+(b7*((256:Nat):Int)))+b8)) Z Z (by decide) (Int.tmod_eq_emod_of_nonneg oM) Aa<|Ac 1 Z<|A1<|AF<|Am<|Ag [2] Z (zI<|md (((b6*((65536:Nat):Int))+(b7*((256:Nat):Int)))+b8)) Z ⟨md (((b6*((65536:Nat):Int))+(b7*((256:Nat):Int)))+b8),n7,rfl,av,ar,⟨zO,zO⟩,(by first|omega|exact BT _)⟩
 refine Al false Z Z (A6 a7) Aa<|Ac 1 Z<|Ai Z<|A2<|Z1 [0,4,0] Z<|Ad 1 Z<|AA 101 [] [] [zP g,zI ((7:Nat):Int)] Z Z DG Aa (AU _ g _ _ _ _ a0 oM oM sD) ?_
 rintro e8 w8 ⟨bb,n8,rfl,ae,aw,b5,af⟩
 refine⟨_,rfl,?_⟩
 have ax:=ae.size
 have ay:At [g] w w8:=a1.trans ae
 exact Ac 1 Z<|A1<|Ag [2] Z (zI bb) Z ⟨bb,n8,rfl,ay,aw,⟨zO,zO⟩,(by first|omega|exact BT _)⟩
theorem E5 (w:World)(g:Nat)(sv:Value)(cs:List UInt8)(n0:Nat)(k:Int)(hs:DA w.heap g sv cs n0)(ax:n0+(8*k.toNat)≤1000000000000)(_hk:Bn k)(hk:k≤1000) :
  Calls Tryz.prog 49 #[zP g,zI k] w (fun e w'=>∃(v0:Value) (x0:Sr) (n1:Nat),e=.returned (v0)∧At [g] w w'∧DA w'.heap g sv cs n1∧(n0≤n1∧n1≤n0+(8*k.toNat))∧Fr (B8 rI 2) w.heap.size w'.heap.size w'.heap v0 x0∧(x0.length=k.toNat∧B9 x0=true)):=by
 refine Ap [zP g,zI k] 19 Tryz.func49 Z Z sM ?_
 have ac:At [g] w w:=At.refl [g] w
 have b2:=hs.lt
 refine Z2 Z<|Z1 [3,0] Z (CH (rI) AI Bm BC Aa fun v1 w1 a4 ak ad=>?_)
 have a7:=a4.size
 have ae:At [g] w w1:=ac.ext a4
 have a8:=hs.ext a4
 refine Ac 1 Z<|A0<|Z2 Z<|A3 ?_
 refine AV (S:=Nat×Value×Sr×Nat) (fun⟨j,vo,xs,m⟩=>([(5,vo),(6,zI (j:Int)),(0,zP g),(1,zI k)])) (fun⟨j,vo,xs,m⟩ W=>At [g] w W∧Fr (B8 rI 2) w.heap.size W.heap.size W.heap vo xs∧DA W.heap g sv cs m∧j≤k.toNat∧(n0≤m∧m≤n0+8*j)∧(xs.length=j∧B9 xs=true)) (fun⟨j,vo,xs,m⟩=>k.toNat-j) (0,v1,[],n0) ⟨rfl,rfl,rfl,rfl,trivial⟩ ⟨ae,ad.up o1,a8,sD,oM,(by exact⟨rfl,rfl⟩)⟩ ?_
 clear ac ad ak a4 a7 ae
 rintro⟨j,vo,xs,m⟩ ρ2 w2 ⟨a9,a0,a1,af,hm,hxs⟩
 have al:w.heap.size≤w2.heap.size:=a9.size
 refine A0<|Z1 [0,0,0] Z<|Ad 2 Z ?_
 by_cases ag:(j:Int)<k
 ·refine AC true Z Z (A5 ag) Aa<|Aj<|Af Z<|A2<|A0<|A3<|Ab _ [0,0,4,3,4,0] Z<|Ad 2 Z<|AA 110 [] [] [zP g] Z Z QM Aa (Eu _ g _ _ _ a1 oM) ?_
  rintro e4 w4 ⟨b1,n4,rfl,aa,am,ay,ah⟩
  refine⟨_,rfl,?_⟩
  have an:=aa.size
  have ao:At [g] w w4:=a9.trans aa
  have ap:=a0.chg (o1) aa fun b hb=>by have:b=g:=(by simpa using hb);omega
  refine BI (u:=zI b1) (B:=w4.heap.size) AI Bm BC Z Z (KL w4.heap.size w4.heap.size _ _ oM) (A7 _) Aa fun v6 w6 a5 az ai=>?_
  have aq:=a5.size
  have aj:At [g] w w6:=ao.ext a5
  have a2:=ap.ext (o1) a5
  have a3:=am.ext a5
  refine El (v:=vo) (a:=v6) Bm BC Z Z Z a2 aj.size ai.rd1 sD (by unfold maxLen;first|omega|assumption|(simp;done)|(simp;omega)) Aa fun v7 w7 F7 a6 ab ar=>?_
  have au:At [g] w w7:=aj.fresh a6 (fun c hc=>A8 (A7 _) (ab c hc).1)
  have av:=a6.size
  have aw:=a3.chg a6 fun c hc=>zH<|ab c hc
  have b0:=ai.chg (o1) a6 fun c hc=>zH<|ab c hc
  refine Ac 1 Z<|Ab _ [0,0,0] Z<|Ad 1 Z<|AM ((j+1:Nat):Int) Z Z (Ba oM oM) Aa<|Ac 1 Z ?_
  exact⟨(j+1,v7,xs++[b1],n4),_,rfl,zR,⟨au,ar.up o1,aw,sD,oM,(by exact⟨by rw[z4,hxs.1];rfl,by unfold B9 at *;rw[List.all_append,hxs.2];simp only[List.all_cons,List.all_nil,Bool.and_true,Bool.true_and];exact Ch.2 oM⟩)⟩,zD⟩
 exact AC false Z Z (A6 ag) Aa<|Aj<|Ai Z<|A4<|Av<|Av<|Aq<|Z1 [0,0] Z<|Ac 2 Z<|A1<|Ag [4] Z vo Z ⟨vo,xs,m,rfl,a9,a1,⟨zO,zO⟩,a0.up o1,(by exact⟨zO,hxs.2⟩)⟩
theorem V9 (a:Option Addr)(n c:Nat)(w:World):(Instr.build 162 #[(0,.slice a n c)]).run Tryz.prog w=.ok (.agg #[.slice a n c,zI 0,.int .u64 0]) w:=by
  kernel_rfl
theorem XS {v:Value}{n:Nat}(h:Ek v n)(w:World):(Instr.build 162 #[(0,v)]).run Tryz.prog w=.ok (.agg #[v,zI 0,.int .u64 0]) w:=by
  obtain⟨a,c,rfl,_⟩:=h
  exact V9 a n c w
theorem FY (w:World)(vc:Value)(cs:List UInt8)(hcs:Rd (B4 rU) w.heap vc cs)  :
  Calls Tryz.prog 46 #[vc] w (fun e w'=>∃g:Nat,e=.returned (zP g)∧AE w w'∧DA w'.heap g vc cs 0∧w.heap.size≤g):=by
 refine Ap [vc] 6 Tryz.func46 Z Z sM ?_
 have a0:AE w w:=AE.refl w
 have a7:=hcs.lenle
 refine Z2 Z<|Z1 [0,0,3,0] Z<|Ad 1 Z<|C1 (ps:=#[(0,vc)]) (.agg #[vc,zI 0,.int .u64 0]) (by simp only[zc,zf,zh];rfl) (fun wq=>XS hcs.isSl wq) Aa (Bx Z Aa fun w1 a1 a6 a3=>?_)
 have a4:=a1.size
 have a2:=a0.trans a1
 have a5:=DA.new hcs a2 a3 a0.size
 exact Ac 1 Z<|A1<|Ag [2] Z (zP w.heap.size) Z ⟨w.heap.size,rfl,a2,a5,a0.size⟩
theorem K3 (w:World)(vc:Value)(cs:List UInt8)(k:Int)(hcs:Rd (B4 rU) w.heap vc cs)(_hk:Bn k)(hk:k≤1000) :
  Calls Tryz.prog 9 #[vc,zI k] w (fun e w'=>∃v0:Value,∃(x0:Sr),e=.returned (v0)∧AE w w'∧Fr (B8 rI 2) w.heap.size w'.heap.size w'.heap v0 x0∧(x0.length=k.toNat∧B9 x0=true)):=by
 refine Ap [vc,zI k] 9 Tryz.func9 Z Z sM ?_
 have a4:AE w w:=AE.refl w
 have af:=hcs.lenle
 refine Z2 Z<|Z1 [0,3,0,4,0] Z<|Ad 1 Z<|Au 46 [] [] [vc] Z Z VZ Aa (FY _ _ _<|hcs.ext CC a4) ?_
 rintro e1 w1 ⟨gB1,rfl,a2,a7,ab⟩
 refine⟨_,rfl,a2,?_⟩
 have a8:=a2.size
 have a3:=a4.trans a2
 refine Ad 1 Z<|AA 49 [] [] [zP gB1,zI k] Z Z UX Aa (E5 _ gB1 _ _ _ _ a7 oM _hk hk) ?_
 rintro e2 w2 ⟨a0,ae,n2,rfl,a5,ac,ad,a1,a6⟩
 refine⟨_,rfl,?_⟩
 have a9:=a5.size
 have aa:AE w w2:=a5.below a3 (fun b hb=>by have:b=gB1:=(by simpa using hb);omega) a3.size
 exact Ac 1 Z<|A1<|Ag [4] Z a0 Z ⟨a0,ae,rfl,aa,(a1.up o1).low a3.size,(by assumption)⟩
theorem K4 (w:World)(a:Int)(b:Int)(_ha:Bn a)(_hb:Bn b)  :
  Calls Tryz.prog 248 #[zI a,zI b] w (fun e w'=>e=.returned (zI (max a b))∧w'=w):=by
 refine Ap [zI a,zI b] 10 Tryz.func248 Z Z sM ?_
 have a0:w=w:=rfl
 refine Z2 Z<|A0<|Z1 [0,0,0] Z<|Ad 2 Z ?_
 by_cases a1:b<a
 ·exact BH true Z Z (A5 a1) Aa<|Aj<|Af Z<|Z1 [0,0] Z<|Ac 2 Z<|A1<|Am<|Ag [4] Z (zI a) Z ⟨B2 oM,a0⟩
 exact BH false Z Z (A6 a1) Aa<|Aj<|Ai Z<|A2<|Z1 [0,0] Z<|Ac 2 Z<|A1<|Ag [4] Z (zI b) Z ⟨B2 oM,a0⟩
theorem R6 {p:Prop}(h:p:=by rw[Sk,hx];first|rw[za oM]|exact(Kt oM).symm):p:=h
theorem FZ (w:World)(dex:Nat)(ve:Value)(ex:Ex)(left:Int)(hex:RN [] (rP (KO dex)) w.heap ve ex)(_hleft:Bn left)(af:0≤left∧left≤100000)(hs:ex.size≤1000000000) :
  Calls Tryz.prog 188 #[ve,zI left] w (fun e w'=>e=.returned (zI (Gm ex left))∧AE w w'):=by
 induction dex using Nat.strongRecOn generalizing w ve ex left
 rename_i dex ih
 refine Ap [ve,zI left] 30 Tryz.func188 Z Z sM ?_
 have a6:AE w w:=AE.refl w
 have hsk:=DV ex
 refine Z2 Z<|Z1 [0,0,0] Z<|Ad 1 Z<|Br (left-1) Z Z (D3 oM oM) Aa<|Ac 1 Z<|A0<|Z2 Z<|A3 ?_
 refine AV (S:=Nat×Int) (fun⟨k,x⟩=>([(1,zI x),(5,zI (k:Int)),(0,ve)])) (fun⟨k,x⟩ W=>AE w W∧k≤ex.kids.length∧x=CE (ex.kids.take k) (left-1)∧(-1≤x∧x≤left)) (fun⟨k,x⟩=>ex.kids.length-k) (0,left-1) ⟨rfl,rfl,rfl,trivial⟩ ⟨a6,sD,(by rw[List.take_zero,CE]),oM⟩ ?_
 clear a6
 rintro⟨k,x⟩ ρ1 w1 ⟨a0,a7,hx,a8⟩
 have ab:w.heap.size≤w1.heap.size:=a0.size
 refine A0<|Z1 [0,0,0,0,2,0,0,0,0,0,0] Z<|Ad 2 Z<|AK (hex.isPtr) Z Aa ?_
 obtain⟨cs2,ac,a2⟩:=RN.at (AD _) hex
 obtain⟨dd2,a1,ag,rfl,a3⟩:=RX.of ac
 have a4:=a3.rn.lenle
 unfold maxLen at a4
 refine AG (p:=ve) 4 Bc Z (a2 _<|At.of_ext [] a0) Aa<|Ah (p:=Ao ve 4) (.inr Z) a1 Bl Z ((a2 _<|At.of_ext [] a0).ld (i:=4) (by simp[Ef,Eg])) Aa<|AP (v:=a1) CR Z a3.rn.isSl Aa ?_
 by_cases a9:(k:Int)<(ex.kids.length:Int)
 ·refine AC true Z Z (A5 a9) Aa<|Ad 2 Z ?_
  by_cases aa:((0:Nat):Int)≤x
  ·refine D5 true Z Z (A5 aa) (Ae (e:=15) Z Z Z)<|Ac 1 Z<|Af Z<|A2<|A0<|A3<|Ab _ [0,0,0,2,0,0,0,3,0] Z ?_
   have hst:=CZ (l:=ex.kids) (k:=k) oM
   have hle:=CL ex.kids (k+1)
   have hnx:=Ks (l:=ex.kids) (k:=k) (x:=left-1) oM oM
   have hnr:=M6 (e:=ex.kids.getD k Ex.zero) (x:=x) oM
   refine Ad 1 Z<|AK (hex.isPtr) Z Aa<|AG (p:=ve) 4 Bc Z (a2 _<|At.of_ext [] a0) Aa<|Ah (p:=Ao ve 4) (.inr Z) a1 Bl Z ((a2 _<|At.of_ext [] a0).ld (i:=4) (by simp[Ef,Eg])) Aa<|Ad 1 Z<|Az (v:=a1) k CR Bp Z Z a3.rn.isSl Z sD Aa<|Ad 1 Z ?_
   refine Au 188 [] [] [Ay a1 k 5,zI x] Z Z QR Aa (ih dd2 oM _ (Ay a1 k 5) (ex.kids.getD k Ex.zero) _ (RN.ptr (AD dd2) (by decide) Ex.zero (a3.rn.ext (An<|AD dd2) a0) sD) oM oM oM) ?_
   rintro e5 w5 ⟨rfl,a5⟩
   refine⟨_,rfl,a5,?_⟩
   have ad:=a5.size
   have ae:=a0.trans a5
   refine Ac 1 Z<|Ab _ [0,0,0] Z<|Ad 1 Z<|AM ((k+1:Nat):Int) Z Z (Ba oM sD) Aa<|Ac 1 Z ?_
   exact⟨(k+1,Gm (ex.kids.getD k Ex.zero) x),_,rfl,zR,⟨ae,sD,(by rw[hnx,hx]),oM⟩,zD⟩
  exact D5 false Z Z (A6 aa) (Ae (e:=15) Z Z Z)<|Ac 1 Z<|Ai Z<|A4<|Av<|Av<|Aq<|Z1 [0,0] Z<|Ac 2 Z<|A1<|Ag [4] Z (zI x) Z ⟨B2 R6,a0⟩
 exact AC false Z Z (A6 a9) Aa<|Ac 4 Z<|Ai Z<|A4<|Av<|Av<|Aq<|Z1 [0,0] Z<|Ac 2 Z<|A1<|Ag [4] Z (zI x) Z ⟨B2 R6,a0⟩
theorem IC (w:World)(dex:Nat)(ve:Value)(ex:Ex)(hex:RN [] (rP (KO dex)) w.heap ve ex)(hs:ex.size≤1000000000) :
  Calls Tryz.prog 229 #[ve] w (fun e w'=>e=.returned (zI (ex.deep:Int))∧AE w w'):=by
 induction dex using Nat.strongRecOn generalizing w ve ex
 rename_i dex ih
 refine Ap [ve] 25 Tryz.func229 Z Z sM ?_
 have a6:AE w w:=AE.refl w
 have hsk:=DV ex
 have hdk:=Dr ex
 refine Z2 Z<|Z2 Z<|A0<|Z2 Z<|A3 ?_
 refine AV (S:=Nat×Int) (fun⟨k,sz⟩=>([(3,zI sz),(4,zI (k:Int)),(0,ve)])) (fun⟨k,sz⟩ W=>AE w W∧k≤ex.kids.length∧sz=((Ex.deeps (ex.kids.take k):Nat):Int)∧(0≤sz∧sz≤1000000000)) (fun⟨k,sz⟩=>ex.kids.length-k) (0,((0:Nat):Int)) ⟨rfl,rfl,rfl,trivial⟩ ⟨a6,sD,(by rw[List.take_zero,Ki] <;> rfl),oM⟩ ?_
 clear a6
 rintro⟨k,sz⟩ ρ1 w1 ⟨a0,a7,hsz,a8⟩
 have aa:w.heap.size≤w1.heap.size:=a0.size
 refine A0<|Z1 [0,0,0,0,2,0,0] Z<|Ad 2 Z<|AK (hex.isPtr) Z Aa ?_
 obtain⟨cs2,ab,a2⟩:=RN.at (AD _) hex
 obtain⟨dd2,a1,ae,rfl,a3⟩:=RX.of ab
 have a4:=a3.rn.lenle
 unfold maxLen at a4
 refine AG (p:=ve) 4 Bc Z (a2 _<|At.of_ext [] a0) Aa<|Ah (p:=Ao ve 4) (.inr Z) a1 Bl Z ((a2 _<|At.of_ext [] a0).ld (i:=4) (by simp[Ef,Eg])) Aa<|AP (v:=a1) CR Z a3.rn.isSl Aa ?_
 by_cases a9:(k:Int)<(ex.kids.length:Int)
 ·refine AC true Z Z (A5 a9) Aa<|Aj<|Af Z<|A2<|A0<|A3<|Ab _ [0,0,0,0,2,0,0,3,0,0] Z ?_
  have hst:=CZ (l:=ex.kids) (k:=k) oM
  have hle:=CL ex.kids (k+1)
  have hdt:=ER (l:=ex.kids) (k:=k) oM
  have hda:=Ds<|ex.kids.getD k Ex.zero
  have hdz:=GP<|ex.kids.take k
  refine Ad 2 Z<|AK (hex.isPtr) Z Aa<|AG (p:=ve) 4 Bc Z (a2 _<|At.of_ext [] a0) Aa<|Ah (p:=Ao ve 4) (.inr Z) a1 Bl Z ((a2 _<|At.of_ext [] a0).ld (i:=4) (by simp[Ef,Eg])) Aa<|Ad 1 Z<|Az (v:=a1) k CR Bp Z Z a3.rn.isSl Z sD Aa ?_
  refine Au 229 [] [] [Ay a1 k 5] Z Z TJ Aa (ih dd2 oM _ (Ay a1 k 5) (ex.kids.getD k Ex.zero) (RN.ptr (AD dd2) (by decide) Ex.zero (a3.rn.ext (An<|AD dd2) a0) sD) oM) ?_
  rintro e4 w4 ⟨rfl,a5⟩
  refine⟨_,rfl,a5,?_⟩
  have ac:=a5.size
  have ad:=a0.trans a5
  refine Ax 248 [] [] [zI sz,zI (((ex.kids.getD k Ex.zero).deep:Nat):Int)] Z Z XD Aa (zI<|max sz (((ex.kids.getD k Ex.zero).deep:Nat):Int)) (fun wq=>K4 wq _ _ oM (zH<|Ds (ex.kids.getD k Ex.zero)))<|Ac 1 Z<|Ab _ [0,0,0] Z<|Ad 1 Z<|AM ((k+1:Nat):Int) Z Z (Ba oM sD) Aa<|Ac 1 Z ?_
  exact⟨(k+1,max sz (((ex.kids.getD k Ex.zero).deep:Nat):Int)),_,rfl,zR,⟨ad,sD,oM,oM⟩,zD⟩
 refine AC false Z Z (A6 a9) Aa<|Aj<|Ai Z<|A4<|Av<|Av<|Aq<|Z1 [0,0,0] Z ?_
 have h8:=I4 (l:=ex.kids) (k:=k) oM
 have h9:=Ds ex
 exact Ad 1 Z<|AM (sz+1) Z Z (D3 oM oM) Aa<|Ac 1 Z<|A1<|Ag [2] Z (zI (sz+1)) Z ⟨B2 oM,a0⟩
theorem Ev {p:Prop}(h:p:=by unfold OS;repeat (first|rfl|(rw[if_pos oM])|(rw[if_neg oM]))):p:=h
theorem JA (w:World)(kind:Int)(_hkind:Bn kind)  :
  Calls Tryz.prog 165 #[zI kind] w (fun e w'=>e=.returned (zI (OS kind))∧w'=w):=by
 refine Ap [zI kind] 17 Tryz.func165 Z Z sM ?_
 have a0:w=w:=rfl
 refine Z2 Z<|A0<|Z2 Z<|A3<|A0<|Z1 [0,0] Z ?_
 by_cases a1:kind=((1:Nat):Int)
 ·exact Al true Z Z (A5 a1) Aa<|Ac 1 Z<|Af Z<|A2<|Af Z<|Z2 Z<|A1<|AF<|Am<|Ag [2] Z (zI ((0:Nat):Int)) Z ⟨B2 Ev,a0⟩
 refine Al false Z Z (A6 a1) Aa<|Ac 1 Z<|Ai Z<|Ab _ [0,0] Z ?_
 by_cases a2:kind=((2:Nat):Int)
 ·exact Al true Z Z (A5 a2) Aa<|Ac 1 Z<|Af Z<|Z2 Z<|A1<|AF<|Am<|Ag [2] Z (zI ((0:Nat):Int)) Z ⟨B2 Ev,a0⟩
 refine Al false Z Z (A6 a2) Aa<|Ac 1 Z<|Ai Z<|A0<|Z1 [0,0] Z ?_
 by_cases a3:kind=((3:Nat):Int)
 ·exact Al true Z Z (A5 a3) Aa<|Ac 1 Z<|Af Z<|A2<|Af Z<|Z2 Z<|A1<|AF<|Am<|Ag [2] Z (zI ((2:Nat):Int)) Z ⟨B2 Ev,a0⟩
 refine Al false Z Z (A6 a3) Aa<|Ac 1 Z<|Ai Z<|Z1 [0,0] Z ?_
 by_cases a4:kind=((4:Nat):Int)
 ·exact Al true Z Z (A5 a4) Aa<|Ac 1 Z<|Af Z<|A2<|Af Z<|Z2 Z<|A1<|AF<|Am<|Ag [2] Z (zI ((2:Nat):Int)) Z ⟨B2 Ev,a0⟩
 refine Al false Z Z (A6 a4) Aa<|Ac 1 Z<|Ai Z<|Z1 [0,0] Z ?_
 by_cases a5:kind=((5:Nat):Int)
 ·exact Al true Z Z (A5 a5) Aa<|Ac 1 Z<|Af Z<|A2<|Af Z<|Z2 Z<|A1<|AF<|Am<|Ag [2] Z (zI ((2:Nat):Int)) Z ⟨B2 Ev,a0⟩
 refine Al false Z Z (A6 a5) Aa<|Ac 1 Z<|Ai Z<|Z1 [0,0] Z ?_
 by_cases a6:kind=((6:Nat):Int)
 ·exact Al true Z Z (A5 a6) Aa<|Ac 1 Z<|Af Z<|A2<|Af Z<|Z2 Z<|A1<|AF<|Am<|Ag [2] Z (zI ((2:Nat):Int)) Z ⟨B2 Ev,a0⟩
 refine Al false Z Z (A6 a6) Aa<|Ac 1 Z<|Ai Z<|Ab _ [0,0] Z ?_
 by_cases a7:kind=((9:Nat):Int)
 ·exact Al true Z Z (A5 a7) Aa<|Ac 1 Z<|Af Z<|Z2 Z<|A1<|AF<|Am<|Ag [2] Z (zI ((2:Nat):Int)) Z ⟨B2 Ev,a0⟩
 refine Al false Z Z (A6 a7) Aa<|Ac 1 Z<|Ai Z<|Z1 [0,0] Z ?_
 by_cases a8:kind=((7:Nat):Int)
 ·exact Al true Z Z (A5 a8) Aa<|Ac 1 Z<|Af Z<|Z2 Z<|A1<|AF<|Am<|Ag [2] Z (zI ((1:Nat):Int)) Z ⟨B2 Ev,a0⟩
 refine Al false Z Z (A6 a8) Aa<|Ac 1 Z<|Ai Z<|Z1 [0,0] Z ?_
 by_cases a9:kind=((8:Nat):Int)
 ·exact Al true Z Z (A5 a9) Aa<|Ac 1 Z<|Af Z<|Z2 Z<|A1<|AF<|Am<|Ag [2] Z (zI ((3:Nat):Int)) Z ⟨B2 Ev,a0⟩
 exact Al false Z Z (A6 a9) Aa<|Ac 1 Z<|Ai Z<|A2<|Z2 Z<|A1<|Ag [2] Z (zI (-1)) Z ⟨B2 Ev,a0⟩
theorem CF {p:Prop}(h:p:=by first|exact AJ (UF oM oM oM)|exact AJ (Yn oM oM oM oM)|exact AJ (Yo oM oM oM oM)|exact AJ ((L4 oM).trans (Yp oM oM oM oM oM oM oM))|exact AJ (by unfold EU D0 FE;first|(simp[*];done)|(simp[*];omega)|(simp[*] <;> intros <;> omega)|(simp_all;done)|(simp_all <;> omega))):p:=h
theorem By {p:Prop}(h:p:=by simp[Ef,Eg]):p:=h
theorem JB (w:World)(dp:Nat)(vp:Value)(p:List Fn)(dex:Nat)(ve:Value)(ex:Ex)(vars:Int)(funcs:Int)(hp:RN [] (rP (IJ dp)) w.heap vp p)(hex:RN [] (rP (KO dex)) w.heap ve ex)(_hvars:Bn vars)(_hfuncs:Bn funcs)(hv:0≤vars∧vars≤2000000000)(hf:0≤funcs∧funcs≤(p.length:Int)) :
  Calls Tryz.prog 249 #[vp,ve,zI vars,zI funcs] w (fun e w'=>e=.returned (.bool (EU p funcs vars ex))∧AE w w'):=by
 refine Ap [vp,ve,zI vars,zI funcs] 140 Tryz.func249 Z Z sM ?_
 have a0:AE w w:=AE.refl w
 refine Z2 Z<|A0<|Z1 [0,0,0,2,0,0,0,0,0,2,0,0] Z<|Ad 1 Z<|AK (hex.isPtr) Z Aa ?_
 obtain⟨cs1,b2,a1⟩:=RN.at (AD _) hex
 obtain⟨dd1,ab,b8,rfl,a5⟩:=RX.of b2
 have aq:=a5.rn.lenle
 unfold maxLen at aq
 refine AG (p:=ve) 0 Bg Z (a1 _<|At.of_ext [] a0) Aa<|Ah (p:=Ao ve 0) (.inr Z) (zI ex.kind) AB Z ((a1 _<|At.of_ext [] a0).ld (i:=0) By) Aa ?_
 by_cases ay:ex.kind=((10:Nat):Int)
 ·refine Al true Z Z (A5 ay) Aa<|Ac 7 Z<|Af Z<|A0<|Z1 [0,0,0,2,0,0,0,0] Z<|Ad 1 Z<|AK (hex.isPtr) Z Aa<|AG (p:=ve) 1 BJ Z (a1 _<|At.of_ext [] a0) Aa<|Ah (p:=Ao ve 1) (.inr Z) (zI ex.num) AB Z ((a1 _<|At.of_ext [] a0).ld (i:=1) By) Aa<|Ad 1 Z<|Br (funcs-1) Z Z (D3 oM oM) Aa<|Ax 80 [] [] [zI ex.num,zI ((0:Nat):Int),zI (funcs-1)] Z Z HS Aa (.bool (decide (((0:Nat):Int)≤ex.num) && decide (ex.num≤(funcs-1)))) (fun wq=>Bt wq _ _ _ a5.rng.num oM oM) ?_
  refine Bq (!(decide (((0:Nat):Int)≤ex.num) && decide (ex.num≤(funcs-1)))) Z Z Aa<|Aj ?_
  cases az:(!(decide (((0:Nat):Int)≤ex.num) && decide (ex.num≤(funcs-1))))
  ·refine Ai (by first|rfl|exact zW az)<|A2<|A0<|AW _ [0,0,0,1,0,0,0,1,0,0] mixed (by kernel_rfl) ?_
   have hnr:=FW (Et (by assumption):(decide (((0:Nat):Int)≤ex.num) && decide (ex.num≤funcs-1))=true)
   refine Ad 1 Z<|AK (hp.isPtr) Z Aa ?_
   obtain⟨cs5,b3,b0⟩:=RN.at (AQ _) hp
   obtain⟨a6,rfl,a9⟩:=RPr.of b3
   have ar:=a9.lenle
   unfold maxLen at ar
   refine AG (p:=vp) 0 BG Z (b0 _<|At.of_ext [] a0.drew) Aa<|Ah (p:=Ao vp 0) (.inl Z) a6 Cb Z ((b0 _<|At.of_ext [] a0.drew).ld (i:=0) By) Aa<|Ad 1 Z<|AK (hex.isPtr) Z Aa<|AG (p:=ve) 1 BJ Z (a1 _<|At.of_ext [] a0.drew) Aa<|Ah (p:=Ao ve 1) (.inl Z) (zI ex.num) AB Z ((a1 _<|At.of_ext [] a0.drew).ld (i:=1) By) Aa ?_
   refine Az (v:=a6) ((ex.num).toNat) Gp CN Z Z a9.isSl oM sD Aa<|Ac 1 Z<|A0<|A0<|AW _ [0,0,0,1,0,0,0,1,0,0,0,0,0,0,0,0,1,0,0,0,0,1,0,0] mixed (by kernel_rfl)<|Ad 1 Z<|AK (hex.isPtr) Z Aa<|AG (p:=ve) 2 De Z (a1 _<|At.of_ext [] a0.drew.drew) Aa ?_
   refine Ah (p:=Ao ve 2) (.inl Z) (zI ex.pick) AB Z ((a1 _<|At.of_ext [] a0.drew.drew).ld (i:=2) By) Aa<|Ad 1 Z<|AK (RN.isPtr<|RN.ptr (AH dp) (by decide) Fn.zero a9 sD) Z Aa ?_
   obtain⟨cs6,b4,a8⟩:=a9.get (AH dp) Fn.zero (k:=(ex.num).toNat) sD
   obtain⟨ap,rfl,au⟩:=RF.of b4
   have av:=au.rn.lenle
   unfold maxLen at av
   refine AG (p:=Ay a6 ((ex.num).toNat) 3) 2 BU Z (a8 _<|At.of_ext [] a0.drew.drew) Aa<|Ah (p:=Ao (Ay a6 ((ex.num).toNat) 3) 2) (.inl Z) ap Bl Z ((a8 _<|At.of_ext [] a0.drew.drew).ld (i:=2) By) Aa<|AP (v:=ap) CR Z au.rn.isSl Aa<|Br ((((p.getD (ex.num).toNat Fn.zero).outs.length:Nat):Int)-1) Z Z (D3 oM oM) Aa<|Ax 80 [] [] [zI ex.pick,zI ((0:Nat):Int),zI ((((p.getD (ex.num).toNat Fn.zero).outs.length:Nat):Int)-1)] Z Z HS Aa (.bool (decide (((0:Nat):Int)≤ex.pick) && decide (ex.pick≤((((p.getD (ex.num).toNat Fn.zero).outs.length:Nat):Int)-1)))) (fun wq=>Bt wq _ _ _ a5.rng.pick oM oM) ?_
   refine Bq (!(decide (((0:Nat):Int)≤ex.pick) && decide (ex.pick≤((((p.getD (ex.num).toNat Fn.zero).outs.length:Nat):Int)-1)))) Z Z Aa<|Ad 1 Z ?_
   cases b9:(!(decide (((0:Nat):Int)≤ex.pick) && decide (ex.pick≤((((p.getD (ex.num).toNat Fn.zero).outs.length:Nat):Int)-1))))
   ·refine Ad 1 Z<|AK (hex.isPtr) Z (Ae (e:=51) Z Z Z)<|AG (p:=ve) 4 Bc Z (a1 _<|At.of_ext [] a0.drew.drew) (Ae (e:=51) Z Z Z)<|Ah (p:=Ao ve 4) (.inl Z) ab Bl Z ((a1 _<|At.of_ext [] a0.drew.drew).ld (i:=4) By) (Ae (e:=51) Z Z Z)<|AP (v:=ab) CR Z a5.rn.isSl (Ae (e:=51) Z Z Z)<|Ad 1 Z ?_
    refine AK (RN.isPtr<|RN.ptr (AH dp) (by decide) Fn.zero a9 sD) Z (Ae (e:=51) Z Z Z)<|AG (p:=Ay a6 ((ex.num).toNat) 3) 1 Co Z (a8 _<|At.of_ext [] a0.drew.drew) (Ae (e:=51) Z Z Z)<|Ah (p:=Ao (Ay a6 ((ex.num).toNat) 3) 1) (.inl Z) (zI<|(p.getD ((ex.num).toNat) Fn.zero).params) AB Z ((a8 _<|At.of_ext [] a0.drew.drew).ld (i:=1) By) (Ae (e:=51) Z Z Z) ?_
    by_cases b1:(ex.kids.length:Int)≠(p.getD ((ex.num).toNat) Fn.zero).params
    ·exact B5 true Z Z (A5 b1) (Ae (e:=51) Z Z Z)<|Ac 1 Z<|Af Z<|Z2 Z<|A1<|Am<|Am<|Ag [8] Z (.bool false) Z ⟨CF,a0.drew.drew⟩
    refine B5 false Z Z (A6 b1) (Ae (e:=51) Z Z Z)<|Ac 1 Z<|Ai Z<|A2<|A0<|Z1 [0,0,0,2,0] Z<|Ad 1 Z<|AK (hex.isPtr) Z Aa<|AG (p:=ve) 0 Bg Z (a1 _<|At.of_ext [] a0.drew.drew) Aa<|Ah (p:=Ao ve 0) (.inr Z) (zI ex.kind) AB Z ((a1 _<|At.of_ext [] a0.drew.drew).ld (i:=0) By) Aa ?_
    by_cases ac:ex.kind=((10:Nat):Int)
    ·refine Al true Z Z (A5 ac) Aa<|Aj<|Af Z<|Z1 [0,0,0,2,0,0] Z<|Ad 1 Z<|AK (hex.isPtr) Z Aa<|AG (p:=ve) 3 CX Z (a1 _<|At.of_ext [] a0.drew.drew) Aa<|Ah (p:=Ao ve 3) (.inr Z) (zI ex.count) AB Z ((a1 _<|At.of_ext [] a0.drew.drew).ld (i:=3) By) Aa<|Al (decide (ex.count=((0:Nat):Int))) Z Z Z Aa<|Ac 1 Z<|A1<|Am<|Am ?_
     exact Ag [8] Z (.bool<|decide (ex.count=((0:Nat):Int))) Z ⟨CF,a0.drew.drew⟩
    refine Al false Z Z (A6 ac) Aa<|Aj<|Ai Z<|A2<|A0<|AW _ [0,0,0,1,0,0,0,0,0,1,0,0,0,0,1,0,0,0] mixed (by kernel_rfl)<|Ad 1 Z<|AK (hex.isPtr) Z Aa<|AG (p:=ve) 3 CX Z (a1 _<|At.of_ext [] a0.drew.drew.drew) Aa<|Ah (p:=Ao ve 3) (.inl Z) (zI ex.count) AB Z ((a1 _<|At.of_ext [] a0.drew.drew.drew).ld (i:=3) By) Aa<|Ax 80 [] [] [zI ex.count,zI ((0:Nat):Int),zI ((8:Nat):Int)] Z Z HS Aa (.bool (decide (((0:Nat):Int)≤ex.count) && decide (ex.count≤((8:Nat):Int)))) (fun wq=>Bt wq _ _ _ a5.rng.count oM oM)<|Ad 1 Z ?_
    cases b5:(decide (((0:Nat):Int)≤ex.count) && decide (ex.count≤((8:Nat):Int)))
    ·exact Ac 12 Z<|A1<|Am<|Ag [8] Z (.bool false) Z ⟨CF,a0.drew.drew.drew⟩
    refine Ad 1 Z<|AK (RN.isPtr<|RN.ptr (AH dp) (by decide) Fn.zero a9 sD) Z (Ae (e:=78) Z Z Z)<|AG (p:=Ay a6 ((ex.num).toNat) 3) 2 BU Z (a8 _<|At.of_ext [] a0.drew.drew.drew) (Ae (e:=78) Z Z Z)<|Ah (p:=Ao (Ay a6 ((ex.num).toNat) 3) 2) (.inl Z) ap Bl Z ((a8 _<|At.of_ext [] a0.drew.drew.drew).ld (i:=2) By) (Ae (e:=78) Z Z Z) ?_
    refine AP (v:=ap) CR Z au.rn.isSl (Ae (e:=78) Z Z Z)<|Ad 1 Z<|AK (RN.isPtr<|RN.ptr (AH dp) (by decide) Fn.zero a9 sD) Z (Ae (e:=78) Z Z Z)<|AG (p:=Ay a6 ((ex.num).toNat) 3) 1 Co Z (a8 _<|At.of_ext [] a0.drew.drew.drew) (Ae (e:=78) Z Z Z) ?_
    refine Ah (p:=Ao (Ay a6 ((ex.num).toNat) 3) 1) (.inl Z) (zI<|(p.getD ((ex.num).toNat) Fn.zero).params) AB Z ((a8 _<|At.of_ext [] a0.drew.drew.drew).ld (i:=1) By) (Ae (e:=78) Z Z Z)<|Al (decide (((((p.getD ((ex.num).toNat) Fn.zero).outs).length:Nat):Int)=(p.getD ((ex.num).toNat) Fn.zero).params)) Z Z Z (Ae (e:=78) Z Z Z)<|Ac 2 Z<|A1<|Am ?_
    exact Ag [8] Z (.bool<|decide (((((p.getD ((ex.num).toNat) Fn.zero).outs).length:Nat):Int)=(p.getD ((ex.num).toNat) Fn.zero).params)) Z ⟨CF,a0.drew.drew.drew⟩
   exact Ac 11 Z<|Af Z<|Z2 Z<|A1<|Am<|Am<|Ag [8] Z (.bool false) Z ⟨CF,a0.drew.drew⟩
  exact Af (by first|rfl|exact zW az)<|Z2 Z<|A1<|Am<|Am<|Ag [8] Z (.bool false) Z ⟨CF,a0⟩
 refine Al false Z Z (A6 ay) Aa<|Ad 2 Z<|AK (hex.isPtr) Z (Ae (e:=15) Z Z Z)<|AG (p:=ve) 0 Bg Z (a1 _<|At.of_ext [] a0) (Ae (e:=15) Z Z Z)<|Ah (p:=Ao ve 0) (.inr Z) (zI ex.kind) AB Z ((a1 _<|At.of_ext [] a0).ld (i:=0) By) (Ae (e:=15) Z Z Z) ?_
 by_cases ad:ex.kind=((11:Nat):Int)
 ·refine Al true Z Z (A5 ad) (Ae (e:=15) Z Z Z)<|Ac 1 Z<|Af Z<|A0<|Z1 [0,0,0,2,0,0,0,0] Z<|Ad 1 Z<|AK (hex.isPtr) Z Aa<|AG (p:=ve) 1 BJ Z (a1 _<|At.of_ext [] a0) Aa<|Ah (p:=Ao ve 1) (.inr Z) (zI ex.num) AB Z ((a1 _<|At.of_ext [] a0).ld (i:=1) By) Aa<|Ad 1 Z<|Br (funcs-1) Z Z (D3 oM oM) Aa<|Ax 80 [] [] [zI ex.num,zI ((0:Nat):Int),zI (funcs-1)] Z Z HS Aa (.bool (decide (((0:Nat):Int)≤ex.num) && decide (ex.num≤(funcs-1)))) (fun wq=>Bt wq _ _ _ a5.rng.num oM oM) ?_
  refine Bq (!(decide (((0:Nat):Int)≤ex.num) && decide (ex.num≤(funcs-1)))) Z Z Aa<|Aj ?_
  cases ae:(!(decide (((0:Nat):Int)≤ex.num) && decide (ex.num≤(funcs-1))))
  ·refine Ai (by first|rfl|exact zW ae)<|A2<|A0<|AW _ [0,0,0,1,0,0,0,1,0,0] mixed (by kernel_rfl) ?_
   have hnr:=FW (Et (by assumption):(decide (((0:Nat):Int)≤ex.num) && decide (ex.num≤funcs-1))=true)
   refine Ad 1 Z<|AK (hp.isPtr) Z Aa ?_
   obtain⟨cs16,aw,af⟩:=RN.at (AQ _) hp
   obtain⟨a2,rfl,a4⟩:=RPr.of aw
   have ag:=a4.lenle
   unfold maxLen at ag
   refine AG (p:=vp) 0 BG Z (af _<|At.of_ext [] a0.drew) Aa<|Ah (p:=Ao vp 0) (.inl Z) a2 Cb Z ((af _<|At.of_ext [] a0.drew).ld (i:=0) By) Aa<|Ad 1 Z<|AK (hex.isPtr) Z Aa<|AG (p:=ve) 1 BJ Z (a1 _<|At.of_ext [] a0.drew) Aa<|Ah (p:=Ao ve 1) (.inl Z) (zI ex.num) AB Z ((a1 _<|At.of_ext [] a0.drew).ld (i:=1) By) Aa ?_
   refine Az (v:=a2) ((ex.num).toNat) Gp CN Z Z a4.isSl oM sD Aa<|Ac 1 Z<|A0<|A0<|AW _ [0,0,0,1,0,0,0,1,0,0,0,0,0,0,0,0,1,0,0,0,0,1,0,0] mixed (by kernel_rfl)<|Ad 1 Z<|AK (hex.isPtr) Z Aa<|AG (p:=ve) 2 De Z (a1 _<|At.of_ext [] a0.drew.drew) Aa ?_
   refine Ah (p:=Ao ve 2) (.inl Z) (zI ex.pick) AB Z ((a1 _<|At.of_ext [] a0.drew.drew).ld (i:=2) By) Aa<|Ad 1 Z<|AK (RN.isPtr<|RN.ptr (AH dp) (by decide) Fn.zero a4 sD) Z Aa ?_
   obtain⟨cs17,ax,a3⟩:=a4.get (AH dp) Fn.zero (k:=(ex.num).toNat) sD
   obtain⟨a7,rfl,aa⟩:=RF.of ax
   have ah:=aa.rn.lenle
   unfold maxLen at ah
   refine AG (p:=Ay a2 ((ex.num).toNat) 3) 2 BU Z (a3 _<|At.of_ext [] a0.drew.drew) Aa<|Ah (p:=Ao (Ay a2 ((ex.num).toNat) 3) 2) (.inl Z) a7 Bl Z ((a3 _<|At.of_ext [] a0.drew.drew).ld (i:=2) By) Aa<|AP (v:=a7) CR Z aa.rn.isSl Aa<|Br ((((p.getD (ex.num).toNat Fn.zero).outs.length:Nat):Int)-1) Z Z (D3 oM oM) Aa<|Ax 80 [] [] [zI ex.pick,zI ((0:Nat):Int),zI ((((p.getD (ex.num).toNat Fn.zero).outs.length:Nat):Int)-1)] Z Z HS Aa (.bool (decide (((0:Nat):Int)≤ex.pick) && decide (ex.pick≤((((p.getD (ex.num).toNat Fn.zero).outs.length:Nat):Int)-1)))) (fun wq=>Bt wq _ _ _ a5.rng.pick oM oM) ?_
   refine Bq (!(decide (((0:Nat):Int)≤ex.pick) && decide (ex.pick≤((((p.getD (ex.num).toNat Fn.zero).outs.length:Nat):Int)-1)))) Z Z Aa<|Ad 1 Z ?_
   cases b6:(!(decide (((0:Nat):Int)≤ex.pick) && decide (ex.pick≤((((p.getD (ex.num).toNat Fn.zero).outs.length:Nat):Int)-1))))
   ·refine Ad 1 Z<|AK (hex.isPtr) Z (Ae (e:=51) Z Z Z)<|AG (p:=ve) 4 Bc Z (a1 _<|At.of_ext [] a0.drew.drew) (Ae (e:=51) Z Z Z)<|Ah (p:=Ao ve 4) (.inl Z) ab Bl Z ((a1 _<|At.of_ext [] a0.drew.drew).ld (i:=4) By) (Ae (e:=51) Z Z Z)<|AP (v:=ab) CR Z a5.rn.isSl (Ae (e:=51) Z Z Z)<|Ad 1 Z ?_
    refine AK (RN.isPtr<|RN.ptr (AH dp) (by decide) Fn.zero a4 sD) Z (Ae (e:=51) Z Z Z)<|AG (p:=Ay a2 ((ex.num).toNat) 3) 1 Co Z (a3 _<|At.of_ext [] a0.drew.drew) (Ae (e:=51) Z Z Z)<|Ah (p:=Ao (Ay a2 ((ex.num).toNat) 3) 1) (.inl Z) (zI<|(p.getD ((ex.num).toNat) Fn.zero).params) AB Z ((a3 _<|At.of_ext [] a0.drew.drew).ld (i:=1) By) (Ae (e:=51) Z Z Z) ?_
    by_cases ai:(ex.kids.length:Int)≠(p.getD ((ex.num).toNat) Fn.zero).params
    ·exact B5 true Z Z (A5 ai) (Ae (e:=51) Z Z Z)<|Ac 1 Z<|Af Z<|Z2 Z<|A1<|Am<|Am<|Ag [8] Z (.bool false) Z ⟨CF,a0.drew.drew⟩
    refine B5 false Z Z (A6 ai) (Ae (e:=51) Z Z Z)<|Ac 1 Z<|Ai Z<|A2<|A0<|Z1 [0,0,0,2,0] Z<|Ad 1 Z<|AK (hex.isPtr) Z Aa<|AG (p:=ve) 0 Bg Z (a1 _<|At.of_ext [] a0.drew.drew) Aa<|Ah (p:=Ao ve 0) (.inr Z) (zI ex.kind) AB Z ((a1 _<|At.of_ext [] a0.drew.drew).ld (i:=0) By) Aa ?_
    by_cases aj:ex.kind=((10:Nat):Int)
    ·refine Al true Z Z (A5 aj) Aa<|Aj<|Af Z<|Z1 [0,0,0,2,0,0] Z<|Ad 1 Z<|AK (hex.isPtr) Z Aa<|AG (p:=ve) 3 CX Z (a1 _<|At.of_ext [] a0.drew.drew) Aa<|Ah (p:=Ao ve 3) (.inr Z) (zI ex.count) AB Z ((a1 _<|At.of_ext [] a0.drew.drew).ld (i:=3) By) Aa<|Al (decide (ex.count=((0:Nat):Int))) Z Z Z Aa<|Ac 1 Z<|A1<|Am<|Am ?_
     exact Ag [8] Z (.bool<|decide (ex.count=((0:Nat):Int))) Z ⟨CF,a0.drew.drew⟩
    refine Al false Z Z (A6 aj) Aa<|Aj<|Ai Z<|A2<|A0<|AW _ [0,0,0,1,0,0,0,0,0,1,0,0,0,0,1,0,0,0] mixed (by kernel_rfl)<|Ad 1 Z<|AK (hex.isPtr) Z Aa<|AG (p:=ve) 3 CX Z (a1 _<|At.of_ext [] a0.drew.drew.drew) Aa<|Ah (p:=Ao ve 3) (.inl Z) (zI ex.count) AB Z ((a1 _<|At.of_ext [] a0.drew.drew.drew).ld (i:=3) By) Aa<|Ax 80 [] [] [zI ex.count,zI ((0:Nat):Int),zI ((8:Nat):Int)] Z Z HS Aa (.bool (decide (((0:Nat):Int)≤ex.count) && decide (ex.count≤((8:Nat):Int)))) (fun wq=>Bt wq _ _ _ a5.rng.count oM oM)<|Ad 1 Z ?_
    cases b7:(decide (((0:Nat):Int)≤ex.count) && decide (ex.count≤((8:Nat):Int)))
    ·exact Ac 12 Z<|A1<|Am<|Ag [8] Z (.bool false) Z ⟨CF,a0.drew.drew.drew⟩
    refine Ad 1 Z<|AK (RN.isPtr<|RN.ptr (AH dp) (by decide) Fn.zero a4 sD) Z (Ae (e:=78) Z Z Z)<|AG (p:=Ay a2 ((ex.num).toNat) 3) 2 BU Z (a3 _<|At.of_ext [] a0.drew.drew.drew) (Ae (e:=78) Z Z Z)<|Ah (p:=Ao (Ay a2 ((ex.num).toNat) 3) 2) (.inl Z) a7 Bl Z ((a3 _<|At.of_ext [] a0.drew.drew.drew).ld (i:=2) By) (Ae (e:=78) Z Z Z) ?_
    refine AP (v:=a7) CR Z aa.rn.isSl (Ae (e:=78) Z Z Z)<|Ad 1 Z<|AK (RN.isPtr<|RN.ptr (AH dp) (by decide) Fn.zero a4 sD) Z (Ae (e:=78) Z Z Z)<|AG (p:=Ay a2 ((ex.num).toNat) 3) 1 Co Z (a3 _<|At.of_ext [] a0.drew.drew.drew) (Ae (e:=78) Z Z Z) ?_
    refine Ah (p:=Ao (Ay a2 ((ex.num).toNat) 3) 1) (.inl Z) (zI<|(p.getD ((ex.num).toNat) Fn.zero).params) AB Z ((a3 _<|At.of_ext [] a0.drew.drew.drew).ld (i:=1) By) (Ae (e:=78) Z Z Z)<|Al (decide (((((p.getD ((ex.num).toNat) Fn.zero).outs).length:Nat):Int)=(p.getD ((ex.num).toNat) Fn.zero).params)) Z Z Z (Ae (e:=78) Z Z Z)<|Ac 2 Z<|A1<|Am ?_
    exact Ag [8] Z (.bool<|decide (((((p.getD ((ex.num).toNat) Fn.zero).outs).length:Nat):Int)=(p.getD ((ex.num).toNat) Fn.zero).params)) Z ⟨CF,a0.drew.drew.drew⟩
   exact Ac 11 Z<|Af Z<|Z2 Z<|A1<|Am<|Am<|Ag [8] Z (.bool false) Z ⟨CF,a0.drew.drew⟩
  exact Af (by first|rfl|exact zW ae)<|Z2 Z<|A1<|Am<|Am<|Ag [8] Z (.bool false) Z ⟨CF,a0⟩
 refine Al false Z Z (A6 ad) (Ae (e:=15) Z Z Z)<|Ac 1 Z<|Ai Z<|A2<|A0<|A0<|AW _ [0,0,0,1,0,0,0,0,1,0,0,0,0,0,0,1,0,0,0,0,0,0,1,0,0] mixed (by kernel_rfl)<|Ad 1 Z<|AK (hex.isPtr) Z Aa<|AG (p:=ve) 0 Bg Z (a1 _<|At.of_ext [] a0.drew) Aa<|Ah (p:=Ao ve 0) (.inl Z) (zI ex.kind) AB Z ((a1 _<|At.of_ext [] a0.drew).ld (i:=0) By) Aa<|Ax 165 [] [] [zI ex.kind] Z Z Ty Aa (zI<|OS ex.kind) (fun wq=>JA wq _ a5.rng.kind)<|Ad 1 Z<|AK (hex.isPtr) Z Aa<|AG (p:=ve) 4 Bc Z (a1 _<|At.of_ext [] a0.drew) Aa ?_
 refine Ah (p:=Ao ve 4) (.inl Z) ab Bl Z ((a1 _<|At.of_ext [] a0.drew).ld (i:=4) By) Aa<|AP (v:=ab) CR Z a5.rn.isSl Aa ?_
 by_cases ak:OS ex.kind≠(ex.kids.length:Int)
 ·exact B5 true Z Z (A5 ak) Aa<|Ac 14 Z<|Af Z<|Z2 Z<|A1<|Am<|Ag [8] Z (.bool false) Z ⟨CF,a0.drew⟩
 refine B5 false Z Z (A6 ak) Aa<|Ad 2 Z<|AK (hex.isPtr) Z (Ae (e:=101) Z Z Z)<|AG (p:=ve) 2 De Z (a1 _<|At.of_ext [] a0.drew) (Ae (e:=101) Z Z Z)<|Ah (p:=Ao ve 2) (.inl Z) (zI ex.pick) AB Z ((a1 _<|At.of_ext [] a0.drew).ld (i:=2) By) (Ae (e:=101) Z Z Z) ?_
 by_cases al:ex.pick≠((0:Nat):Int)
 ·exact B5 true Z Z (A5 al) (Ae (e:=101) Z Z Z)<|Ac 8 Z<|Af Z<|Z2 Z<|A1<|Am<|Ag [8] Z (.bool false) Z ⟨CF,a0.drew⟩
 refine B5 false Z Z (A6 al) (Ae (e:=101) Z Z Z)<|Ad 3 Z<|AK (hex.isPtr) Z (Ae (e:=108) Z Z Z)<|AG (p:=ve) 3 CX Z (a1 _<|At.of_ext [] a0.drew) (Ae (e:=108) Z Z Z)<|Ah (p:=Ao ve 3) (.inl Z) (zI ex.count) AB Z ((a1 _<|At.of_ext [] a0.drew).ld (i:=3) By) (Ae (e:=108) Z Z Z) ?_
 by_cases am:ex.count≠((0:Nat):Int)
 ·exact B5 true Z Z (A5 am) (Ae (e:=108) Z Z Z)<|Ac 1 Z<|Af Z<|Z2 Z<|A1<|Am<|Ag [8] Z (.bool false) Z ⟨CF,a0.drew⟩
 refine B5 false Z Z (A6 am) (Ae (e:=108) Z Z Z)<|Ac 1 Z<|Ai Z<|A2<|A0<|Z1 [0,0,0,2] Z<|Ad 1 Z<|AK (hex.isPtr) Z Aa<|AG (p:=ve) 0 Bg Z (a1 _<|At.of_ext [] a0.drew) Aa<|Ah (p:=Ao ve 0) (.inr Z) (zI ex.kind) AB Z ((a1 _<|At.of_ext [] a0.drew).ld (i:=0) By) Aa<|Aj<|A3<|Z1 [0,0] Z ?_
 by_cases an:ex.kind=((1:Nat):Int)
 ·refine Al true Z Z (A5 an) Aa<|Ac 1 Z<|Af Z<|Z1 [0,0,0,2,0,0] Z<|Ad 1 Z<|AK (hex.isPtr) Z Aa<|AG (p:=ve) 1 BJ Z (a1 _<|At.of_ext [] a0.drew) Aa<|Ah (p:=Ao ve 1) (.inr Z) (zI ex.num) AB Z ((a1 _<|At.of_ext [] a0.drew).ld (i:=1) By) Aa<|Ax 168 [] [] [zI ex.num] Z Z Tz Aa (.bool<|GT ex.num) (fun wq=>EI wq _ a5.rng.num)<|Ac 1 Z<|A1<|AF<|Am ?_
  exact Ag [8] Z (.bool<|GT ex.num) Z ⟨CF,a0.drew⟩
 refine Al false Z Z (A6 an) Aa<|Ac 1 Z<|Ai Z<|Z1 [0,0] Z ?_
 by_cases ao:ex.kind=((2:Nat):Int)
 ·refine Al true Z Z (A5 ao) Aa<|Ac 1 Z<|Af Z<|Z1 [0,0,0,2,0,0,0,0] Z<|Ad 1 Z<|AK (hex.isPtr) Z Aa<|AG (p:=ve) 1 BJ Z (a1 _<|At.of_ext [] a0.drew) Aa<|Ah (p:=Ao ve 1) (.inr Z) (zI ex.num) AB Z ((a1 _<|At.of_ext [] a0.drew).ld (i:=1) By) Aa<|Ad 1 Z<|Br (vars-1) Z Z (D3 oM oM) Aa<|Ax 80 [] [] [zI ex.num,zI ((0:Nat):Int),zI (vars-1)] Z Z HS Aa (.bool (decide (((0:Nat):Int)≤ex.num) && decide (ex.num≤(vars-1)))) (fun wq=>Bt wq _ _ _ a5.rng.num oM oM)<|Ac 1 Z<|A1<|AF<|Am ?_
  exact Ag [8] Z (.bool (decide (((0:Nat):Int)≤ex.num) && decide (ex.num≤(vars-1)))) Z ⟨CF,a0.drew⟩
 refine Al false Z Z (A6 ao) Aa<|Ac 1 Z<|Ai Z<|A2<|Z1 [0,0,0,2,0,0] Z<|Ad 1 Z<|AK (hex.isPtr) Z Aa<|AG (p:=ve) 1 BJ Z (a1 _<|At.of_ext [] a0.drew) Aa<|Ah (p:=Ao ve 1) (.inr Z) (zI ex.num) AB Z ((a1 _<|At.of_ext [] a0.drew).ld (i:=1) By) Aa<|Al (decide (ex.num=((0:Nat):Int))) Z Z Z Aa<|Ac 1 Z<|A1 ?_
 exact Ag [8] Z (.bool<|decide (ex.num=((0:Nat):Int))) Z ⟨CF,a0.drew⟩
theorem JC {p:Prop}(h:p:=by first|exact AJ (PG (Gr (by assumption)))|exact AJ (KS (Et (by assumption)) fun j hj=>hall j oM)|exact AJ (PH (k:=k) oM (by first|(rw[if_pos oM])|(rw[if_neg oM])) (Gr (by assumption)))):p:=h
theorem Ni {p:Prop}(h:p:=by intro j hj;by_cases e9:j=k;(rw[e9];first|(rw[if_pos oM];exact Et (by assumption))|(rw[if_neg oM];exact Et (by assumption)));exact hall j oM):p:=h
theorem JD (w:World)(dp:Nat)(vp:Value)(p:List Fn)(dex:Nat)(ve:Value)(ex:Ex)(vars:Int)(funcs:Int)(hp:RN [] (rP (IJ dp)) w.heap vp p)(hex:RN [] (rP (KO dex)) w.heap ve ex)(_hvars:Bn vars)(_hfuncs:Bn funcs)(hs:0≤vars∧vars+(ex.deep:Int)≤2000000000)(hf:0≤funcs∧funcs≤(p.length:Int)) :
  Calls Tryz.prog 230 #[vp,ve,zI vars,zI funcs] w (fun e w'=>e=.returned (.bool (wf p funcs ex vars))∧AE w w'):=by
 induction dex using Nat.strongRecOn generalizing w dp vp p ve ex vars funcs
 rename_i dex ih
 refine Ap [vp,ve,zI vars,zI funcs] 49 Tryz.func230 Z Z sM ?_
 have aa:AE w w:=AE.refl w
 have hdk:=Dr ex
 refine Z2 Z<|A0<|Z1 [0,0,0,0,3,0] Z<|Ad 4 Z<|Au 249 [] [] [vp,ve,zI vars,zI funcs] Z Z XE Aa (JB _ dp vp (p) dex ve (ex) _ _ (hp.ext (B3<|AQ dp) aa) (hex.ext (B3<|AD dex) aa) _hvars _hfuncs oM oM) ?_
 rintro e1 w1 ⟨rfl,ab⟩
 refine⟨_,rfl,ab,?_⟩
 have ac:=ab.size
 have ad:=aa.trans ab
 refine Bq (!(EU p funcs vars ex)) Z Z Aa<|Aj ?_
 cases ag:(!(EU p funcs vars ex))
 ·refine Ai (by first|rfl|exact zW ag)<|A2<|A0<|Z2 Z<|A3 ?_
  refine AV (S:=Nat) (fun k=>([(9,zI (k:Int)),(0,vp),(1,ve),(2,zI vars),(3,zI funcs)])) (fun k W=>AE w W∧k≤ex.kids.length∧(∀j,j<k→wf p funcs (ex.kids.getD j Ex.zero) (if ex.kind=9∧j=1 then vars+1 else vars)=true)) (fun k=>ex.kids.length-k) 0 ⟨rfl,rfl,rfl,rfl,rfl,trivial⟩ ⟨ad,sD,(by intro j hj;omega)⟩ ?_
  clear aa ab ac ad
  rintro k ρ3 w3 ⟨a0,ah,hall⟩
  have ap:w.heap.size≤w3.heap.size:=a0.size
  refine A0<|Z1 [0,0,0,0,2,0,0] Z<|Ad 2 Z<|AK (hex.isPtr) Z Aa ?_
  obtain⟨cs4,aq,a2⟩:=RN.at (AD _) hex
  obtain⟨dd4,a1,au,rfl,a3⟩:=RX.of aq
  have ae:=a3.rn.lenle
  unfold maxLen at ae
  refine AG (p:=ve) 4 Bc Z (a2 _<|At.of_ext [] a0) Aa<|Ah (p:=Ao ve 4) (.inr Z) a1 Bl Z ((a2 _<|At.of_ext [] a0).ld (i:=4) (by simp[Ef,Eg])) Aa<|AP (v:=a1) CR Z a3.rn.isSl Aa ?_
  by_cases ai:(k:Int)<(ex.kids.length:Int)
  ·refine AC true Z Z (A5 ai) Aa<|Aj<|Af Z<|A2<|A0<|A3<|Z1 [0,0] Z ?_
   have hkd:=DF (l:=ex.kids) (k:=k) oM
   refine Ac 2 Z<|A0<|Z1 [0,0,0,2,0,0,0,0,0] Z<|Ad 1 Z<|AK (hex.isPtr) Z Aa<|AG (p:=ve) 0 Bg Z (a2 _<|At.of_ext [] a0) Aa<|Ah (p:=Ao ve 0) (.inr Z) (zI ex.kind) AB Z ((a2 _<|At.of_ext [] a0).ld (i:=0) (by simp[Ef,Eg])) Aa ?_
   by_cases aj:ex.kind=((9:Nat):Int)
   ·refine Al true Z Z (A5 aj) Aa<|Ad 2 Z ?_
    by_cases ak:(k:Int)=((1:Nat):Int)
    ·refine Al true Z Z (A5 ak) (Ae (e:=32) Z Z Z)<|Ac 1 Z<|Af Z<|Ab _ [0,0,0] Z<|Ad 1 Z<|AM (vars+1) Z Z (D3 oM oM) Aa<|Ac 1 Z<|Z1 [0,0,0,0,2,0,0,0,0,3,0] Z<|Ad 2 Z<|AK (hex.isPtr) Z Aa<|AG (p:=ve) 4 Bc Z (a2 _<|At.of_ext [] a0) Aa<|Ah (p:=Ao ve 4) (.inr Z) a1 Bl Z ((a2 _<|At.of_ext [] a0).ld (i:=4) (by simp[Ef,Eg])) Aa<|Ad 1 Z ?_
     refine Az (v:=a1) k CR Bp Z Z a3.rn.isSl Z sD Aa<|Ad 2 Z ?_
     refine Au 230 [] [] [vp,Ay a1 k 5,zI (vars+1),zI funcs] Z Z Oq Aa (ih dd4 oM _ dp vp (p) (Ay a1 k 5) (ex.kids.getD k Ex.zero) _ _ (hp.ext (B3<|AQ dp) a0) (RN.ptr (AD dd4) (by decide) Ex.zero (a3.rn.ext (An<|AD dd4) a0) sD) oM _hfuncs oM oM) ?_
     rintro e8 w8 ⟨rfl,af⟩
     refine⟨_,rfl,af,?_⟩
     have ar:=af.size
     have al:=a0.trans af
     refine Bq (!(wf p funcs (ex.kids.getD k Ex.zero) (vars+1))) Z Z Aa<|Aj ?_
     cases am:(!(wf p funcs (ex.kids.getD k Ex.zero) (vars+1)))
     ·refine Ai (by first|rfl|exact zW am)<|A2<|Ab _ [0,0,0] Z<|Ad 1 Z<|AM ((k+1:Nat):Int) Z Z (Ba oM sD) Aa<|Ac 1 Z ?_
      exact⟨k+1,_,rfl,zR,⟨al,sD,Ni⟩,zD⟩
     exact Af (by first|rfl|exact zW am)<|Z2 Z<|A1<|AF<|Am<|Am<|AF<|Am<|Ag [8] Z (.bool false) Z ⟨JC,al⟩
    refine Al false Z Z (A6 ak) (Ae (e:=32) Z Z Z)<|Ac 1 Z<|Ai Z<|A2<|Z1 [0,0,0,0,2,0,0,0,0,3,0] Z<|Ad 2 Z<|AK (hex.isPtr) Z Aa<|AG (p:=ve) 4 Bc Z (a2 _<|At.of_ext [] a0) Aa<|Ah (p:=Ao ve 4) (.inr Z) a1 Bl Z ((a2 _<|At.of_ext [] a0).ld (i:=4) (by simp[Ef,Eg])) Aa<|Ad 1 Z ?_
    refine Az (v:=a1) k CR Bp Z Z a3.rn.isSl Z sD Aa<|Ad 2 Z ?_
    refine Au 230 [] [] [vp,Ay a1 k 5,zI vars,zI funcs] Z Z Oq Aa (ih dd4 oM _ dp vp (p) (Ay a1 k 5) (ex.kids.getD k Ex.zero) _ _ (hp.ext (B3<|AQ dp) a0) (RN.ptr (AD dd4) (by decide) Ex.zero (a3.rn.ext (An<|AD dd4) a0) sD) _hvars _hfuncs oM oM) ?_
    rintro av aw ⟨rfl,a4⟩
    refine⟨_,rfl,a4,?_⟩
    have an:=a4.size
    have a6:=a0.trans a4
    refine Bq (!(wf p funcs (ex.kids.getD k Ex.zero) vars)) Z Z Aa<|Aj ?_
    cases a7:(!(wf p funcs (ex.kids.getD k Ex.zero) vars))
    ·refine Ai (by first|rfl|exact zW a7)<|A2<|Ab _ [0,0,0] Z<|Ad 1 Z<|AM ((k+1:Nat):Int) Z Z (Ba oM sD) Aa<|Ac 1 Z ?_
     exact⟨k+1,_,rfl,zR,⟨a6,sD,Ni⟩,zD⟩
    exact Af (by first|rfl|exact zW a7)<|Z2 Z<|A1<|AF<|Am<|Am<|AF<|Am<|Ag [8] Z (.bool false) Z ⟨JC,a6⟩
   refine Al false Z Z (A6 aj) Aa<|Ac 4 Z<|Ai Z<|A2<|Z1 [0,0,0,0,2,0,0,0,0,3,0] Z<|Ad 2 Z<|AK (hex.isPtr) Z Aa<|AG (p:=ve) 4 Bc Z (a2 _<|At.of_ext [] a0) Aa<|Ah (p:=Ao ve 4) (.inr Z) a1 Bl Z ((a2 _<|At.of_ext [] a0).ld (i:=4) (by simp[Ef,Eg])) Aa<|Ad 1 Z ?_
   refine Az (v:=a1) k CR Bp Z Z a3.rn.isSl Z sD Aa<|Ad 2 Z ?_
   refine Au 230 [] [] [vp,Ay a1 k 5,zI vars,zI funcs] Z Z Oq Aa (ih dd4 oM _ dp vp (p) (Ay a1 k 5) (ex.kids.getD k Ex.zero) _ _ (hp.ext (B3<|AQ dp) a0) (RN.ptr (AD dd4) (by decide) Ex.zero (a3.rn.ext (An<|AD dd4) a0) sD) _hvars _hfuncs oM oM) ?_
   rintro ax ay ⟨rfl,a5⟩
   refine⟨_,rfl,a5,?_⟩
   have ao:=a5.size
   have a8:=a0.trans a5
   refine Bq (!(wf p funcs (ex.kids.getD k Ex.zero) vars)) Z Z Aa<|Aj ?_
   cases a9:(!(wf p funcs (ex.kids.getD k Ex.zero) vars))
   ·refine Ai (by first|rfl|exact zW a9)<|A2<|Ab _ [0,0,0] Z<|Ad 1 Z<|AM ((k+1:Nat):Int) Z Z (Ba oM sD) Aa<|Ac 1 Z ?_
    exact⟨k+1,_,rfl,zR,⟨a8,sD,Ni⟩,zD⟩
   exact Af (by first|rfl|exact zW a9)<|Z2 Z<|A1<|AF<|Am<|Am<|AF<|Am<|Ag [8] Z (.bool false) Z ⟨JC,a8⟩
  exact AC false Z Z (A6 ai) Aa<|Aj<|Ai Z<|A4<|Av<|Av<|Aq<|Z2 Z<|A1<|Ag [8] Z (.bool true) Z ⟨JC,a0⟩
 exact Af (by first|rfl|exact zW ag)<|Z2 Z<|A1<|Am<|Ag [8] Z (.bool false) Z ⟨JC,ad⟩
theorem JE (w:World)(vars:Int)(_hvars:Bn vars)  :
  Calls Tryz.prog 228 #[zI vars] w (fun e w'=>e=.returned (.bool (FE vars 0 412))∧w'=w):=by
 refine Ap [zI vars] 5 Tryz.func228 Z Z sM ?_
 have a0:w=w:=rfl
 exact Z2 Z<|Z1 [0,0,0] Z<|Ad 1 Z<|Ax 80 [] [] [zI vars,zI ((0:Nat):Int),zI ((412:Nat):Int)] Z Z HS Aa (.bool (decide (((0:Nat):Int)≤vars) && decide (vars≤((412:Nat):Int)))) (fun wq=>Bt wq _ _ _ _hvars oM oM)<|Ac 1 Z<|A1<|Ag [2] Z (.bool (decide (((0:Nat):Int)≤vars) && decide (vars≤((412:Nat):Int)))) Z ⟨rfl,a0⟩
theorem JF {p:Prop}(h:p:=by first|exact AJ (TQ (by assumption))|exact AJ (Oy ⟨BE.1 (by assumption),FW (by assumption),zO,zO⟩)|exact AJ ((by assumption:wf p funcs ex vars=true).symm.trans (Oy ⟨BE.1 (by assumption),FW (by assumption),zO,zO⟩))|exact AJ (KF fun hh=>R1 (by assumption) hh.1)|exact AJ (KF fun hh=>Mo (by assumption) hh.2.1)|exact AJ (KF oM)):p:=h
theorem JG (w:World)(dp:Nat)(vp:Value)(p:List Fn)(dex:Nat)(ve:Value)(ex:Ex)(vars:Int)(funcs:Int)(hp:RN [] (rP (IJ dp)) w.heap vp p)(hex:RN [] (rP (KO dex)) w.heap ve ex)(_hvars:Bn vars)(_hfuncs:Bn funcs)(hs:ex.size≤1000000000) :
  Calls Tryz.prog 189 #[vp,ve,zI vars,zI funcs] w (fun e w'=>e=.returned (.bool (JW p ex vars funcs))∧AE w w'):=by
 refine Ap [vp,ve,zI vars,zI funcs] 37 Tryz.func189 Z Z sM ?_
 have a1:AE w w:=AE.refl w
 have hlp:=Qh (e:=ex) (x:=((400:Nat):Int)) oM
 refine Z2 Z<|Z1 [0,0,0,0,0,0,0,2,0,0,0,0,0,3,0,0,0,0,3,0,0,0,0,0,0,0,3,0,0] Z<|Ad 1 Z<|Ax 228 [] [] [zI vars] Z Z XA Aa (.bool<|FE vars 0 412) (fun wq=>JE wq _ _hvars)<|Ad 1 Z ?_
 cases ah:(FE vars 0 412)
 ·exact Ac 26 Z<|A1<|Ag [8] Z (.bool false) Z ⟨JF,a1⟩
 refine Ad 2 Z<|AK (hp.isPtr) Z (Ae (e:=11) Z Z Z) ?_
 obtain⟨cs3,ae,a8⟩:=RN.at (AQ _) hp
 obtain⟨a9,rfl,aa⟩:=RPr.of ae
 have a3:=aa.lenle
 unfold maxLen at a3
 refine AG (p:=vp) 0 BG Z (a8 _<|At.of_ext [] a1) (Ae (e:=11) Z Z Z)<|Ah (p:=Ao vp 0) (.inr Z) a9 Cb Z ((a8 _<|At.of_ext [] a1).ld (i:=0) (by simp[Ef,Eg])) (Ae (e:=11) Z Z Z)<|AP (v:=a9) Gp Z aa.isSl (Ae (e:=11) Z Z Z)<|Ax 80 [] [] [zI funcs,zI ((0:Nat):Int),zI (p.length:Int)] Z Z HS (Ae (e:=11) Z Z Z) (.bool (decide (((0:Nat):Int)≤funcs) && decide (funcs≤(p.length:Int)))) (fun wq=>Bt wq _ _ _ _hfuncs oM oM)<|Ad 2 Z ?_
 cases ai:(decide (((0:Nat):Int)≤funcs) && decide (funcs≤(p.length:Int)))
 ·exact Ac 17 Z<|A1<|Ag [8] Z (.bool false) Z ⟨JF,a1⟩
 refine Ad 1 Z<|Au 188 [] [] [ve,zI ((400:Nat):Int)] Z Z QR (Ae (e:=20) Z Z Z) (FZ _ dex ve (ex) _ (hex.ext (B3<|AD dex) a1) oM oM oM) ?_
 rintro e6 w6 ⟨rfl,a4⟩
 refine⟨_,rfl,a4,?_⟩
 have af:=a4.size
 have a5:=a1.trans a4
 by_cases ab:((0:Nat):Int)≤Gm ex ((400:Nat):Int)
 ·refine D5 true Z Z (A5 ab) (Ae (e:=20) Z Z Z)<|Ad 3 Z<|Au 229 [] [] [ve] Z Z TJ (Ae (e:=25) Z Z Z) (IC _ dex ve (ex) (hex.ext (B3<|AD dex) a5) oM) ?_
  rintro e8 w8 ⟨rfl,a6⟩
  refine⟨_,rfl,a6,?_⟩
  have ag:=a6.size
  have a2:=a5.trans a6
  by_cases ac:(ex.deep:Int)≤((60:Nat):Int)
  ·refine Dc true Z Z (A5 ac) (Ae (e:=25) Z Z Z)<|Ad 6 Z<|Au 230 [] [] [vp,ve,zI vars,zI funcs] Z Z Oq (Ae (e:=30) Z Z Z) (JD _ dp vp (p) dex ve (ex) _ _ (hp.ext (B3<|AQ dp) a2) (hex.ext (B3<|AD dex) a2) _hvars _hfuncs (by have h1:=BE.1 (by assumption:FE vars 0 412=true);omega) (by have h2:=FW (by assumption:(decide (((0:Nat):Int)≤funcs) && decide (funcs≤(p.length:Int)))=true);omega)) ?_
   rintro aj ak ⟨rfl,a0⟩
   refine⟨_,rfl,a0,?_⟩
   have ad:=a0.size
   have a7:=a2.trans a0
   exact Ac 2 Z<|A1<|Ag [8] Z (.bool<|wf p funcs ex vars) Z ⟨JF,a7⟩
  exact Dc false Z Z (A6 ac) (Ae (e:=25) Z Z Z)<|Ac 9 Z<|A1<|Ag [8] Z (.bool false) Z ⟨JF,a2⟩
 exact D5 false Z Z (A6 ab) (Ae (e:=20) Z Z Z)<|Ac 14 Z<|A1<|Ag [8] Z (.bool false) Z ⟨JF,a5⟩
theorem Va {s:ByteArray}(h:¬(1≤s.size∧s.size≤12)):false=Jc s:=by
  cases hh:Jc s with
  |false=>rfl
  |true=>unfold Jc at hh;simp only[z7,decide_eq_true_eq]at hh;exact absurd hh.1 h
theorem G0 {p:Prop}(h:p:=by first|exact AJ (Va (fun hh=>Mo (Gr (by assumption)) ⟨zO,zO⟩))|exact AJ (Ng (k:=0) oM oM)|exact AJ (Ng (k:=k) oM oM)|exact AJ (R0 hq oM (by rw[A5 (show 1≤s.size by omega),A5 (show s.size≤12 by omega)];rfl))):p:=h
theorem Nj {p:Prop}(h:p:=by exact D7 hq (Ox (by(by_cases h0:k=0;(rw[h0];left;omega);omega)))):p:=h
theorem K5 (w:World)(s:ByteArray)  (hl:s.size≤1000000000) :
  Calls Tryz.prog 187 #[.string s] w (fun e w'=>e=.returned (.bool (Jc s))∧w'=w):=by
 refine Ap [.string s] 46 Tryz.func187 Z Z sM ?_
 have a1:w=w:=rfl
 refine Z2 Z<|A0<|Z1 [0,0,0,0,0,0,0,0,0,0,0,0,0,0] Z<|Ad 1 Z<|IY (s:=s) u9 Z Aa<|Ax 80 [] [] [zI (s.size:Int),zI ((1:Nat):Int),zI ((12:Nat):Int)] Z Z HS Aa (.bool (decide (((1:Nat):Int)≤(s.size:Int)) && decide ((s.size:Int)≤((12:Nat):Int)))) (fun wq=>Bt wq _ _ _ oM oM oM)<|Bq (!(decide (((1:Nat):Int)≤(s.size:Int)) && decide ((s.size:Int)≤((12:Nat):Int)))) Z Z Aa<|Ad 1 Z ?_
 cases ac:(!(decide (((1:Nat):Int)≤(s.size:Int)) && decide ((s.size:Int)≤((12:Nat):Int))))
 ·refine Ad 1 Z ?_
  have hsz:=FW (Et (by assumption):(decide (((1:Nat):Int)≤(s.size:Int)) && decide ((s.size:Int)≤((12:Nat):Int)))=true)
  refine CI (s:=s) 0 u9 Z Z Z sD (Ae (e:=8) Z Z Z) ?_
  by_cases a5:((HZ s 0:Nat):Int)<97
  ·exact AC true Z Z (A5 a5) (Ae (e:=8) Z Z Z)<|Ac 6 Z<|Af Z<|Z2 Z<|A1<|Am<|Ag [2] Z (.bool false) Z ⟨G0,a1⟩
  refine AC false Z Z (A6 a5) (Ae (e:=8) Z Z Z)<|Ad 3 Z<|CI (s:=s) 0 u9 Z Z Z sD (Ae (e:=13) Z Z Z) ?_
  by_cases a6:122<((HZ s 0:Nat):Int)
  ·exact BH true Z Z (A5 a6) (Ae (e:=13) Z Z Z)<|Ac 1 Z<|Af Z<|Z2 Z<|A1<|Am<|Ag [2] Z (.bool false) Z ⟨G0,a1⟩
  refine BH false Z Z (A6 a6) (Ae (e:=13) Z Z Z)<|Ac 1 Z<|Ai Z<|A2<|A0<|Z2 Z<|A3<|AV (S:=Nat) (fun k=>([(3,zI (k:Int)),(0,.string s)])) (fun k W=>W=w∧k≤s.size∧(List.range k).all (Tb s)=true) (fun k=>s.size-k) 0 ⟨rfl,rfl,trivial⟩ ⟨a1,sD,(by rfl)⟩ ?_
  clear a1
  rintro k ρ5 w5 ⟨a0,a7,hq⟩
  refine A0<|Z1 [0,0,0,0] Z<|Ad 2 Z<|IY (s:=s) u9 Z Aa ?_
  by_cases a8:(k:Int)<(s.size:Int)
  ·refine AC true Z Z (A5 a8) Aa<|Aj<|Af Z<|A2<|A0<|A3<|Z1 [0,0,0,0,0,0,0,0,0,0,0,0,0,0,0,0,0,0,0,0,0,0] Z<|Ad 2 Z<|CI (s:=s) k u9 Z Z Z sD Aa ?_
   by_cases a9:((HZ s k:Nat):Int)<97
   ·refine AC true Z Z (A5 a9) Aa<|Ad 9 Z<|CI (s:=s) k u9 Z Z Z sD (Ae (e:=34) Z Z Z) ?_
    by_cases aa:((HZ s k:Nat):Int)<48
    ·exact AC true Z Z (A5 aa) (Ae (e:=34) Z Z Z)<|Ac 7 Z<|Af Z<|Z2 Z<|A1<|AF<|Am<|Am<|AF<|Am<|Ag [2] Z (.bool false) Z ⟨G0,a0⟩
    refine AC false Z Z (A6 aa) (Ae (e:=34) Z Z Z)<|Ad 3 Z<|CI (s:=s) k u9 Z Z Z sD (Ae (e:=39) Z Z Z) ?_
    by_cases ab:57<((HZ s k:Nat):Int)
    ·exact BH true Z Z (A5 ab) (Ae (e:=39) Z Z Z)<|Ac 2 Z<|Af Z<|Z2 Z<|A1<|AF<|Am<|Am<|AF<|Am<|Ag [2] Z (.bool false) Z ⟨G0,a0⟩
    refine BH false Z Z (A6 ab) (Ae (e:=39) Z Z Z)<|Ac 2 Z<|Ai Z<|A2<|Ab _ [0,0,0] Z<|Ad 1 Z<|AM ((k+1:Nat):Int) Z Z (Ba oM sD) Aa<|Ac 1 Z ?_
    exact⟨k+1,_,rfl,⟨rfl,rfl,trivial⟩,⟨a0,sD,Nj⟩,zD⟩
   refine AC false Z Z (A6 a9) Aa<|Ad 3 Z<|CI (s:=s) k u9 Z Z Z sD (Ae (e:=28) Z Z Z) ?_
   by_cases a2:122<((HZ s k:Nat):Int)
   ·refine BH true Z Z (A5 a2) (Ae (e:=28) Z Z Z)<|Ad 4 Z<|CI (s:=s) k u9 Z Z Z sD (Ae (e:=34) Z Z Z) ?_
    by_cases a3:((HZ s k:Nat):Int)<48
    ·exact AC true Z Z (A5 a3) (Ae (e:=34) Z Z Z)<|Ac 7 Z<|Af Z<|Z2 Z<|A1<|AF<|Am<|Am<|AF<|Am<|Ag [2] Z (.bool false) Z ⟨G0,a0⟩
    refine AC false Z Z (A6 a3) (Ae (e:=34) Z Z Z)<|Ad 3 Z<|CI (s:=s) k u9 Z Z Z sD (Ae (e:=39) Z Z Z) ?_
    by_cases a4:57<((HZ s k:Nat):Int)
    ·exact BH true Z Z (A5 a4) (Ae (e:=39) Z Z Z)<|Ac 2 Z<|Af Z<|Z2 Z<|A1<|AF<|Am<|Am<|AF<|Am<|Ag [2] Z (.bool false) Z ⟨G0,a0⟩
    refine BH false Z Z (A6 a4) (Ae (e:=39) Z Z Z)<|Ac 2 Z<|Ai Z<|A2<|Ab _ [0,0,0] Z<|Ad 1 Z<|AM ((k+1:Nat):Int) Z Z (Ba oM sD) Aa<|Ac 1 Z ?_
    exact⟨k+1,_,rfl,⟨rfl,rfl,trivial⟩,⟨a0,sD,Nj⟩,zD⟩
   refine BH false Z Z (A6 a2) (Ae (e:=28) Z Z Z)<|Ac 13 Z<|Ai Z<|A2<|Ab _ [0,0,0] Z<|Ad 1 Z<|AM ((k+1:Nat):Int) Z Z (Ba oM sD) Aa<|Ac 1 Z ?_
   exact⟨k+1,_,rfl,⟨rfl,rfl,trivial⟩,⟨a0,sD,Nj⟩,zD⟩
  exact AC false Z Z (A6 a8) Aa<|Aj<|Ai Z<|A4<|Av<|Av<|Aq<|Z2 Z<|A1<|Ag [2] Z (.bool true) Z ⟨G0,a0⟩
 exact Ac 9 Z<|Af Z<|Z2 Z<|A1<|Am<|Ag [2] Z (.bool false) Z ⟨G0,a1⟩
theorem R7 {α:Type}{l:List α}{f:α→Bool}{k:Nat}(d:α)(hk:k<l.length)(h:(l.take k).any f=false)(h2:f (l.getD k d)=false):(l.take (k+1)).any f=false:=by
  rw[List.take_succ_eq_append_getElem hk,List.any_append,h]
  have:l.getD k d=l[k]:=by simp[hk]
  rw[this]at h2
  simp[h2]
theorem ST {α:Type}{l:List α}{f:α→Bool}{k n:Nat}(d:α)(hk:k<n)(hn:n≤l.length)(h:f (l.getD k d)=true):(l.take n).any f=true:=by
  rw[List.any_eq_true]
  have hkl:k<l.length:=by omega
  have e:l.getD k d=l[k]:=by simp[hkl]
  refine⟨l[k],?_,by rw[← e];exact h⟩
  rw[List.mem_take_iff_getElem]
  exact⟨k,zO,rfl⟩
theorem SU {p:List Fn}{a j:Nat}{x:Int}(hx:x=CE ((p.getD a Fn.zero).outs.take j) ((400:Nat):Int))(h:0≤x)(hj:(p.getD a Fn.zero).outs.length≤j):Ex.sizes (p.getD a Fn.zero).outs≤400:=by
  rw[za hj]at hx
  rcases Gh (p.getD a Fn.zero).outs ((400:Nat):Int) (Int.natCast_nonneg _)with h2|h2
  · have:=h2.2;omega
  · have:=h2.1;omega
theorem R8 {p:List Fn}{a j:Nat}(h:CE ((p.getD a Fn.zero).outs.take j) ((400:Nat):Int)<0):Iq p a=false:=XQ (by
  have h1:=Kt h
  rcases Gh (p.getD a Fn.zero).outs ((400:Nat):Int) (Int.natCast_nonneg _)with h2|h2
  · have:=h2.1;have:=h2.2;omega
  · have:=h2.2;omega)
theorem H3 {p:Prop}(h:p:=by first|exact AJ (XL (Gr (by assumption))).symm|exact AJ (XN (Gr (by assumption))).symm|exact AJ (XO (Gr (by assumption))).symm|exact AJ (XM (ST (k:=k) Fn.zero oM oM (by assumption))).symm|exact AJ (R8 (j:=j+1) (by rw[hnx,← hx];omega)).symm|exact AJ (XP (j:=j) oM (Gr (by assumption))).symm|exact AJ (TR (Et (by assumption)) hqa (Et (by assumption)) (Et (by assumption)) hqe oM (SU hx oM oM)).symm):p:=h
theorem E6 {p:Prop}(h:p:=by simp[Ef,Eg]):p:=h
theorem JH (w:World)(dp:Nat)(vp:Value)(p:List Fn)(a:Nat)(hp:RN [] (rP (IJ dp)) w.heap vp p)(ha:a<p.length)(hpl:p.length≤1000000)(hz:RZ p) :
  Calls Tryz.prog 136 #[vp,zI (a:Int)] w (fun e w'=>e=.returned (.bool (Iq p a))∧AE w w'):=by
 refine Ap [vp,zI (a:Int)] 91 Tryz.func136 Z Z sM ?_
 have a4:AE w w:=AE.refl w
 have hza:=hz a ha
 refine Z2 Z<|Z1 [0,0,0,2,0,0,0] Z<|Ad 1 Z<|AK (hp.isPtr) Z Aa ?_
 obtain⟨cs1,ay,al⟩:=RN.at (AQ _) hp
 obtain⟨a0,rfl,a5⟩:=RPr.of ay
 have ab:=a5.lenle
 unfold maxLen at ab
 refine AG (p:=vp) 0 BG Z (al _<|At.of_ext [] a4) Aa<|Ah (p:=Ao vp 0) (.inr Z) a0 Cb Z ((al _<|At.of_ext [] a4).ld (i:=0) E6) Aa<|Ad 1 Z<|Az (v:=a0) a Gp CN Z Z a5.isSl Z sD Aa<|Ac 1 Z<|A0<|Z1 [0,0,0,2,0,0,0,0,0,0,2,0,0,0,0,0,0,0,2,0,0,0,0] Z<|Ad 1 Z ?_
 refine AK (RN.isPtr<|RN.ptr (AH dp) (by decide) Fn.zero a5 sD) Z Aa ?_
 obtain⟨cs2,az,a3⟩:=a5.get (AH dp) Fn.zero (k:=a) sD
 obtain⟨a6,rfl,a9⟩:=RF.of az
 have ac:=a9.rn.lenle
 unfold maxLen at ac
 refine AG (p:=Ay a0 a 3) 0 Ie Z (a3 _<|At.of_ext [] a4) Aa<|Ah (p:=Ao (Ay a0 a 3) 0) (.inr Z) (.string<|(p.getD a Fn.zero).name) Nb Z ((a3 _<|At.of_ext [] a4).ld (i:=0) E6) Aa<|Ax 187 [] [] [.string<|(p.getD a Fn.zero).name] Z Z Xr Aa (.bool<|Jc<|(p.getD a Fn.zero).name) (fun wq=>K5 wq ((p.getD a Fn.zero).name) oM)<|Bq (!(Jc<|(p.getD a Fn.zero).name)) Z Z Aa<|Ad 1 Z ?_
 cases b1:(!(Jc ((p.getD a Fn.zero).name)))
 ·refine Ad 1 Z<|AK (RN.isPtr<|RN.ptr (AH dp) (by decide) Fn.zero a5 sD) Z (Ae (e:=21) Z Z Z)<|AG (p:=Ay a0 a 3) 1 Co Z (a3 _<|At.of_ext [] a4) (Ae (e:=21) Z Z Z)<|Ah (p:=Ao (Ay a0 a 3) 1) (.inr Z) (zI<|(p.getD a Fn.zero).params) AB Z ((a3 _<|At.of_ext [] a4).ld (i:=1) E6) (Ae (e:=21) Z Z Z) ?_
  refine Ax 80 [] [] [zI<|(p.getD a Fn.zero).params,zI ((0:Nat):Int),zI ((12:Nat):Int)] Z Z HS (Ae (e:=21) Z Z Z) (.bool (decide (((0:Nat):Int)≤((p.getD a Fn.zero).params)) && decide (((p.getD a Fn.zero).params)≤((12:Nat):Int)))) (fun wq=>Bt wq _ _ _ a9.rng oM oM)<|Bq (!(decide (((0:Nat):Int)≤((p.getD a Fn.zero).params)) && decide (((p.getD a Fn.zero).params)≤((12:Nat):Int)))) Z Z (Ae (e:=21) Z Z Z)<|Ad 2 Z ?_
  cases b2:(!(decide (((0:Nat):Int)≤((p.getD a Fn.zero).params)) && decide (((p.getD a Fn.zero).params)≤((12:Nat):Int))))
  ·refine Ad 1 Z<|AK (RN.isPtr<|RN.ptr (AH dp) (by decide) Fn.zero a5 sD) Z (Ae (e:=29) Z Z Z)<|AG (p:=Ay a0 a 3) 2 BU Z (a3 _<|At.of_ext [] a4) (Ae (e:=29) Z Z Z)<|Ah (p:=Ao (Ay a0 a 3) 2) (.inr Z) a6 Bl Z ((a3 _<|At.of_ext [] a4).ld (i:=2) E6) (Ae (e:=29) Z Z Z)<|AP (v:=a6) CR Z a9.rn.isSl (Ae (e:=29) Z Z Z) ?_
   refine Ax 80 [] [] [zI ((((p.getD a Fn.zero).outs).length:Nat):Int),zI ((1:Nat):Int),zI ((12:Nat):Int)] Z Z HS (Ae (e:=29) Z Z Z) (.bool (decide (((1:Nat):Int)≤((((p.getD a Fn.zero).outs).length:Nat):Int)) && decide (((((p.getD a Fn.zero).outs).length:Nat):Int)≤((12:Nat):Int)))) (fun wq=>Bt wq _ _ _ oM oM oM)<|Bq (!(decide (((1:Nat):Int)≤((((p.getD a Fn.zero).outs).length:Nat):Int)) && decide (((((p.getD a Fn.zero).outs).length:Nat):Int)≤((12:Nat):Int)))) Z Z (Ae (e:=29) Z Z Z)<|Ac 1 Z ?_
   cases ar:(!(decide (((1:Nat):Int)≤((((p.getD a Fn.zero).outs).length:Nat):Int)) && decide (((((p.getD a Fn.zero).outs).length:Nat):Int)≤((12:Nat):Int))))
   ·refine Ai (by first|rfl|exact zW ar)<|A2<|A0<|Z2 Z<|A3 ?_
    refine AV (S:=Nat) (fun k=>([(6,zI (k:Int)),(0,vp),(1,zI (a:Int)),(5,Ay a0 a 3)])) (fun k W=>AE w W∧k≤a∧(p.take k).any (fun g=>GR g.name (p.getD a Fn.zero).name)=false) (fun k=>a-k) 0 ⟨rfl,rfl,rfl,rfl,trivial⟩ ⟨a4,sD,(by rfl)⟩ ?_
    clear a4 ab ac
    rintro k ρ9 w9 ⟨a7,au,hq⟩
    have am:w.heap.size≤w9.heap.size:=a7.size
    refine A0<|Z1 [0,0,0] Z<|Ad 2 Z ?_
    by_cases ad:(k:Int)<(a:Int)
    ·refine AC true Z Z (A5 ad) Aa<|Aj<|Af Z<|A2<|A0<|A3<|A0<|AW _ [0,0,0,1,0,0,0,1,0,0,0,1,0] mixed (by kernel_rfl)<|Ad 1 Z<|AK (hp.isPtr) Z Aa<|AG (p:=vp) 0 BG Z (al _<|At.of_ext [] a7.drew) Aa<|Ah (p:=Ao vp 0) (.inl Z) a0 Cb Z ((al _<|At.of_ext [] a7.drew).ld (i:=0) E6) Aa<|Ad 1 Z ?_
     refine Az (v:=a0) k Gp CN Z Z a5.isSl Z sD Aa ?_
     obtain⟨cs11,an,ae⟩:=a5.get (AH dp) Fn.zero (k:=k) sD
     obtain⟨b0,rfl,ao⟩:=RF.of an
     have af:=ao.rn.lenle
     unfold maxLen at af
     refine AG (p:=Ay a0 k 3) 0 Ie Z (ae _<|At.of_ext [] a7.drew) Aa<|Ah (p:=Ao (Ay a0 k 3) 0) (.inl Z) (.string<|(p.getD k Fn.zero).name) Nb Z ((ae _<|At.of_ext [] a7.drew).ld (i:=0) E6) Aa<|Ad 1 Z<|AK (RN.isPtr<|RN.ptr (AH dp) (by decide) Fn.zero a5 sD) Z Aa<|AG (p:=Ay a0 a 3) 0 Ie Z (a3 _<|At.of_ext [] a7.drew) Aa ?_
     refine Ah (p:=Ao (Ay a0 a 3) 0) (.inl Z) (.string<|(p.getD a Fn.zero).name) Nb Z ((a3 _<|At.of_ext [] a7.drew).ld (i:=0) E6) Aa ?_
     cases ag:GR ((p.getD k Fn.zero).name) ((p.getD a Fn.zero).name)
     ·refine MC false u9 Z Z ag Aa<|Aj<|Ai Z<|A2<|Ab _ [0,0,0] Z<|Ad 1 Z<|AM ((k+1:Nat):Int) Z Z (Ba oM sD) Aa<|Ac 1 Z ?_
      exact⟨k+1,_,rfl,zR,⟨a7.drew,sD,(by exact R7 Fn.zero oM hq (by assumption))⟩,zD⟩
     exact MC true u9 Z Z ag Aa<|Aj<|Af Z<|Z2 Z<|A1<|AF<|Am<|Am<|AF<|Am<|Ag [4] Z (.bool false) Z ⟨H3,a7.drew⟩
    refine AC false Z Z (A6 ad) Aa<|Aj<|Ai Z<|A4<|Av<|Av<|Aq<|Z1 [0] Z ?_
    have hka:k=a:=by omega
    rw[hka]at hq
    have hqa:=hq
    refine Ac 1 Z<|A0<|Z2 Z<|A3 ?_
    refine AV (S:=Nat×Int) (fun⟨j,x⟩=>([(7,zI x),(8,zI (j:Int)),(0,vp),(1,zI (a:Int)),(5,Ay a0 a 3)])) (fun⟨j,x⟩ W=>AE w W∧j≤(p.getD a Fn.zero).outs.length∧x=CE ((p.getD a Fn.zero).outs.take j) ((400:Nat):Int)∧(0≤x∧x≤400)∧(List.range j).all (fun j=>JW p ((p.getD a Fn.zero).outs.getD j Ex.zero) (p.getD a Fn.zero).params (a:Int))=true) (fun⟨j,x⟩=>(p.getD a Fn.zero).outs.length-j) (0,((400:Nat):Int)) ⟨rfl,rfl,rfl,rfl,rfl,trivial⟩ ⟨a7,sD,(by rw[List.take_zero,CE]),oM,(by rfl)⟩ ?_
    clear a7 am
    rintro⟨j,x⟩ ρ13 b3 ⟨a1,ap,hx,aq,hqe⟩
    have av:w.heap.size≤b3.heap.size:=a1.size
    refine A0<|Z1 [0,0,0,0,2,0,0] Z<|Ad 2 Z<|AK (RN.isPtr<|RN.ptr (AH dp) (by decide) Fn.zero a5 sD) Z Aa<|AG (p:=Ay a0 a 3) 2 BU Z (a3 _<|At.of_ext [] a1) Aa<|Ah (p:=Ao (Ay a0 a 3) 2) (.inr Z) a6 Bl Z ((a3 _<|At.of_ext [] a1).ld (i:=2) E6) Aa<|AP (v:=a6) CR Z a9.rn.isSl Aa ?_
    by_cases ah:(j:Int)<((((p.getD a Fn.zero).outs).length:Nat):Int)
    ·refine AC true Z Z (A5 ah) Aa<|Aj<|Af Z<|A2<|A0<|A3<|Z1 [0,0,0,2,0,0,0,3,0] Z ?_
     have hst:=CZ (l:=(p.getD a Fn.zero).outs) (k:=j) oM
     have hle:=CL (p.getD a Fn.zero).outs (j+1)
     have hnx:=Ks (l:=(p.getD a Fn.zero).outs) (k:=j) (x:=((400:Nat):Int)) oM oM
     have hnr:=M6 (e:=(p.getD a Fn.zero).outs.getD j Ex.zero) (x:=x) oM
     refine Ad 1 Z<|AK (RN.isPtr<|RN.ptr (AH dp) (by decide) Fn.zero a5 sD) Z Aa<|AG (p:=Ay a0 a 3) 2 BU Z (a3 _<|At.of_ext [] a1) Aa<|Ah (p:=Ao (Ay a0 a 3) 2) (.inr Z) a6 Bl Z ((a3 _<|At.of_ext [] a1).ld (i:=2) E6) Aa<|Ad 1 Z ?_
     refine Az (v:=a6) j CR Bp Z Z a9.rn.isSl Z sD Aa<|Ad 1 Z ?_
     refine Au 188 [] [] [Ay a6 j 5,zI x] Z Z QR Aa (FZ _ dp (Ay a6 j 5) (((p.getD a Fn.zero).outs).getD j Ex.zero) _ (RN.ptr (AD dp) (by decide) Ex.zero (a9.rn.ext (An<|AD dp) a1) sD) oM oM oM) ?_
     rintro b4 b5 ⟨rfl,aa⟩
     refine⟨_,rfl,aa,?_⟩
     have aw:=aa.size
     have a2:=a1.trans aa
     refine Ac 1 Z<|A0<|AW _ [0,0,0,0,0,0,0,1,0,0,0,0,0,1,0,3,0,0] mixed (by kernel_rfl)<|Ad 1 Z ?_
     by_cases ai:Gm (((p.getD a Fn.zero).outs).getD j Ex.zero) x<((0:Nat):Int)
     ·exact AC true Z Z (A5 ai) Aa<|Ac 16 Z<|Af Z<|Z2 Z<|A1<|AF<|Am<|Am<|AF<|Am<|Ag [4] Z (.bool false) Z ⟨H3,a2.drew⟩
     refine AC false Z Z (A6 ai) Aa<|Ad 3 Z<|AK (RN.isPtr<|RN.ptr (AH dp) (by decide) Fn.zero a5 sD) Z (Ae (e:=75) Z Z Z)<|AG (p:=Ay a0 a 3) 2 BU Z (a3 _<|At.of_ext [] a2.drew) (Ae (e:=75) Z Z Z)<|Ah (p:=Ao (Ay a0 a 3) 2) (.inl Z) a6 Bl Z ((a3 _<|At.of_ext [] a2.drew).ld (i:=2) E6) (Ae (e:=75) Z Z Z)<|Ad 1 Z ?_
     refine Az (v:=a6) j CR Bp Z Z a9.rn.isSl Z sD (Ae (e:=75) Z Z Z)<|Ad 1 Z ?_
     refine AK (RN.isPtr<|RN.ptr (AH dp) (by decide) Fn.zero a5 sD) Z (Ae (e:=75) Z Z Z)<|AG (p:=Ay a0 a 3) 1 Co Z (a3 _<|At.of_ext [] a2.drew) (Ae (e:=75) Z Z Z)<|Ah (p:=Ao (Ay a0 a 3) 1) (.inl Z) (zI<|(p.getD a Fn.zero).params) AB Z ((a3 _<|At.of_ext [] a2.drew).ld (i:=1) E6) (Ae (e:=75) Z Z Z)<|Ad 1 Z ?_
     refine Au 189 [] [] [vp,Ay a6 j 5,zI<|(p.getD a Fn.zero).params,zI (a:Int)] Z Z Xs (Ae (e:=75) Z Z Z) (JG _ dp vp (p) dp (Ay a6 j 5) (((p.getD a Fn.zero).outs).getD j Ex.zero) _ _ (hp.ext (B3<|AQ dp) a2.drew) (RN.ptr (AD dp) (by decide) Ex.zero (a9.rn.ext (An<|AD dp) a2.drew) sD) a9.rng oM oM) ?_
     rintro b6 b7 ⟨rfl,a8⟩
     refine⟨_,rfl,a8,?_⟩
     replace a8:=a8.of_drew
     have ax:=a8.size
     have aj:=a2.trans a8
     refine Bq (!(JW p (((p.getD a Fn.zero).outs).getD j Ex.zero) ((p.getD a Fn.zero).params) (a:Int))) Z Z (Ae (e:=75) Z Z Z)<|Ac 1 Z ?_
     cases ak:(!(JW p (((p.getD a Fn.zero).outs).getD j Ex.zero) ((p.getD a Fn.zero).params) (a:Int)))
     ·refine Ai (by first|rfl|exact zW ak)<|A2<|Ab _ [0,0,0] Z<|Ad 1 Z<|AM ((j+1:Nat):Int) Z Z (Ba oM sD) Aa<|Ac 1 Z ?_
      exact⟨(j+1,Gm (((p.getD a Fn.zero).outs).getD j Ex.zero) x),_,rfl,zR,⟨aj,sD,(by rw[hnx,← hx]),oM,(by exact D7 hqe (Et (by assumption)))⟩,zD⟩
     exact Af (by first|rfl|exact zW ak)<|Z2 Z<|A1<|AF<|Am<|Am<|AF<|Am<|Ag [4] Z (.bool false) Z ⟨H3,aj⟩
    exact AC false Z Z (A6 ah) Aa<|Aj<|Ai Z<|A4<|Av<|Av<|Aq<|Z2 Z<|A1<|Ag [4] Z (.bool true) Z ⟨H3,a1⟩
   exact Af (by first|rfl|exact zW ar)<|Z2 Z<|A1<|Am<|Ag [4] Z (.bool false) Z ⟨H3,a4⟩
  exact Ac 8 Z<|Af Z<|Z2 Z<|A1<|Am<|Ag [4] Z (.bool false) Z ⟨H3,a4⟩
 exact Ac 16 Z<|Af Z<|Z2 Z<|A1<|Am<|Ag [4] Z (.bool false) Z ⟨H3,a4⟩
theorem R9 {p:Prop}(h:p:=by first|exact AJ (R2 oM)|exact AJ (R3 oM oM oM hq)|exact AJ (H2 (k:=k) oM (Gr (by assumption)))):p:=h
theorem Ln (w:World)(dp:Nat)(vp:Value)(p:List Fn)(hp:RN [] (rP (IJ dp)) w.heap vp p)(hz:RZ p) :
  Calls Tryz.prog 76 #[vp] w (fun e w'=>e=.returned (.bool (Iw p))∧AE w w'):=by
 refine Ap [vp] 23 Tryz.func76 Z Z sM ?_
 have a1:AE w w:=AE.refl w
 refine Z2 Z<|A0<|Z1 [0,0,0,2,0,0] Z<|Ad 1 Z<|AK (hp.isPtr) Z Aa ?_
 obtain⟨cs1,ac,a3⟩:=RN.at (AQ _) hp
 obtain⟨a4,rfl,a5⟩:=RPr.of ac
 have a2:=a5.lenle
 unfold maxLen at a2
 refine AG (p:=vp) 0 BG Z (a3 _<|At.of_ext [] a1) Aa<|Ah (p:=Ao vp 0) (.inr Z) a4 Cb Z ((a3 _<|At.of_ext [] a1).ld (i:=0) (by simp[Ef,Eg])) Aa<|AP (v:=a4) Gp Z a5.isSl Aa ?_
 by_cases a7:((16:Nat):Int)<(p.length:Int)
 ·exact BH true Z Z (A5 a7) Aa<|Aj<|Af Z<|Z2 Z<|A1<|Am<|Ag [2] Z (.bool false) Z ⟨R9,a1⟩
 refine BH false Z Z (A6 a7) Aa<|Aj<|Ai Z<|A2<|A0<|Z2 Z<|A3<|AV (S:=Nat) (fun k=>([(3,zI (k:Int)),(0,vp)])) (fun k W=>AE w W∧k≤p.length∧(List.range k).all (Iq p)=true) (fun k=>p.length-k) 0 ⟨rfl,rfl,trivial⟩ ⟨a1,sD,(by rfl)⟩ ?_
 clear a1 a2
 rintro k ρ3 w3 ⟨a0,a8,hq⟩
 have ad:w.heap.size≤w3.heap.size:=a0.size
 refine A0<|Z1 [0,0,0,0,2,0,0] Z<|Ad 2 Z<|AK (hp.isPtr) Z Aa<|AG (p:=vp) 0 BG Z (a3 _<|At.of_ext [] a0) Aa<|Ah (p:=Ao vp 0) (.inr Z) a4 Cb Z ((a3 _<|At.of_ext [] a0).ld (i:=0) (by simp[Ef,Eg])) Aa<|AP (v:=a4) Gp Z a5.isSl Aa ?_
 by_cases a9:(k:Int)<(p.length:Int)
 ·refine AC true Z Z (A5 a9) Aa<|Aj<|Af Z<|A2<|A0<|A3<|Z1 [0,0,3,0] Z<|Ad 2 Z<|Au 136 [] [] [vp,zI (k:Int)] Z Z Xf Aa (JH _ dp vp (p) (k) (hp.ext (B3<|AQ dp) a0) oM oM hz) ?_
  rintro e5 w5 ⟨rfl,a6⟩
  refine⟨_,rfl,a6,?_⟩
  have ae:=a6.size
  have aa:=a0.trans a6
  refine Bq (!(Iq p k)) Z Z Aa<|Aj ?_
  cases ab:(!(Iq p k))
  ·refine Ai (by first|rfl|exact zW ab)<|A2<|Ab _ [0,0,0] Z<|Ad 1 Z<|AM ((k+1:Nat):Int) Z Z (Ba oM sD) Aa<|Ac 1 Z ?_
   exact⟨k+1,_,rfl,⟨rfl,rfl,trivial⟩,⟨aa,sD,(by exact D7 hq (Et (by assumption)))⟩,zD⟩
  exact Af (by first|rfl|exact zW ab)<|Z2 Z<|A1<|AF<|Am<|Am<|AF<|Am<|Ag [2] Z (.bool false) Z ⟨R9,aa⟩
 exact AC false Z Z (A6 a9) Aa<|Aj<|Ai Z<|A4<|Av<|Av<|Aq<|Z2 Z<|A1<|Ag [2] Z (.bool true) Z ⟨R9,a0⟩
theorem Nk {p:Prop}(h:p:=by first|exact B2 (TS (Gr (by assumption)))|exact B2 (TT (Et (by assumption)) (Mo (Gr (by assumption))))|exact B2 (TU (Et (by assumption)) (FW (Et (by assumption))))):p:=h
theorem ID (w:World)(dp:Nat)(vp:Value)(p:List Fn)(f:Int)(hp:RN [] (rP (IJ dp)) w.heap vp p)(_hf:Bn f)(hz:RZ p) :
  Calls Tryz.prog 111 #[vp,zI f] w (fun e w'=>e=.returned (zI (HG p f))∧AE w w'):=by
 refine Ap [vp,zI f] 17 Tryz.func111 Z Z sM ?_
 have a3:AE w w:=AE.refl w
 refine Z2 Z<|A0<|Z1 [0,3,0] Z<|Ad 1 Z<|Au 76 [] [] [vp] Z Z YO Aa (Ln _ dp vp (p) (hp.ext (B3<|AQ dp) a3) hz) ?_
 rintro e1 w1 ⟨rfl,a1⟩
 refine⟨_,rfl,a1,?_⟩
 have a9:=a1.size
 have a0:=a3.trans a1
 refine Bq (!(Iw p)) Z Z Aa<|Aj ?_
 cases a4:(!(Iw p))
 ·refine Ai (by first|rfl|exact zW a4)<|A2<|A0<|Z1 [0,0,0,0,2,0,0,0,0] Z<|Ad 2 Z<|AK (hp.isPtr) Z Aa ?_
  obtain⟨cs3,aa,a5⟩:=RN.at (AQ _) hp
  obtain⟨a6,rfl,a7⟩:=RPr.of aa
  have a2:=a7.lenle
  unfold maxLen at a2
  refine AG (p:=vp) 0 BG Z (a5 _<|At.of_ext [] a0) Aa<|Ah (p:=Ao vp 0) (.inr Z) a6 Cb Z ((a5 _<|At.of_ext [] a0).ld (i:=0) (by simp[Ef,Eg])) Aa<|AP (v:=a6) Gp Z a7.isSl Aa<|Br ((p.length:Int)-1) Z Z (D3 oM oM) Aa<|Ax 80 [] [] [zI f,zI ((0:Nat):Int),zI ((p.length:Int)-1)] Z Z HS Aa (.bool (decide (((0:Nat):Int)≤f) && decide (f≤((p.length:Int)-1)))) (fun wq=>Bt wq _ _ _ _hf oM oM)<|Bq (!(decide (((0:Nat):Int)≤f) && decide (f≤((p.length:Int)-1)))) Z Z Aa<|Aj ?_
  cases a8:(!(decide (((0:Nat):Int)≤f) && decide (f≤((p.length:Int)-1))))
  ·exact Ai (by first|rfl|exact zW a8)<|A2<|Z2 Z<|A1<|Ag [4] Z (zI ((0:Nat):Int)) Z ⟨Nk,a0⟩
  exact Af (by first|rfl|exact zW a8)<|Z2 Z<|A1<|Am<|Ag [4] Z (zI ((2:Nat):Int)) Z ⟨Nk,a0⟩
 exact Af (by first|rfl|exact zW a4)<|Z2 Z<|A1<|Am<|Ag [4] Z (zI ((1:Nat):Int)) Z ⟨Nk,a0⟩
theorem DK (w:World)(x:Int)(K:Nat)(_hx:Bn x)(_hK:K≤1000000000000)(hK:K≤1000000000) :
  Calls Tryz.prog 206 #[zI x,zI (K:Int)] w (fun e w'=>∃v0:Value,e=.returned (v0)∧AE w w'∧Fr (B8 rI 2) w.heap.size w'.heap.size w'.heap v0 (Lu K x)):=by
 refine Ap [zI x,zI (K:Int)] 14 Tryz.func206 Z Z sM ?_
 have a5:AE w w:=AE.refl w
 refine Z2 Z<|Z1 [0,3,0] Z<|Ad 1 Z (FI (n:=K) Bm BC Z Z Z sD Aa fun v1 w1 a2 ab a0=>?_)
 have a6:=a2.size
 have a1:=a5.trans a2
 refine Ac 1 Z<|A0<|Z1 [0,0] Z<|Ad 1 Z ?_
 by_cases a3:((0:Nat):Int)<(K:Int)
 ·refine BH true Z Z (A5 a3) Aa<|Aj<|Af Z<|Ab _ [0,0,0,4] Z<|Ad 2 Z<|Az (v:=v1) 0 Bm BC Z Z a0.isSl Z sD Aa ?_
  refine GK (v:=v1) (w:=w1) GD Z Z _hx a0 sD Aa fun w3 F3 a4 ac a7 a8=>?_
  have a9:AE w w3:=a4.below a1 (fun c hc=>A8 (A7 _) (a7 c hc).1) a1.size
  have aa:=a4.size
  exact Aj<|Z1 [0,0] Z<|Ac 2 Z<|A1<|Ag [4] Z v1 Z ⟨v1,rfl,a9,(by exact a8.up o1)⟩
 exact BH false Z Z (A6 a3) Aa<|Aj<|Ai Z<|A2<|Z1 [0,0] Z<|Ac 2 Z<|A1<|Ag [4] Z v1 Z ⟨v1,rfl,a1,(by have h:=a0.up o1;obtain rfl:K=0:=oM;exact h)⟩
theorem Nl (a:List Int)(y:Int):IP a y=CQ a y:=by
  unfold IP CQ
  exact LN (d:=0) (k:=a.length) (fun r hr=>by rw[Cy (d:=0) hr,Dd _ hr]) (by simp) (by simp)
theorem C0 {p:Prop}(h:p:=by first|omega|assumption|(simp only[zb,z9,z4,z6,z5,DB];omega)|(simp[zb,z9,z4,z6,z5,DB];done)|(simp[zb,z9,z4,z6,z5,DB];omega)):p:=h
theorem GG (w:World)(va:Value)(a:Sr)(vb:Value)(b:Sr)(ha:Rd (B4 rI) w.heap va a)(hb:Rd (B4 rI) w.heap vb b)(hla:a.length≤1000000000000)(hl:a.length≤b.length) :
  Calls Tryz.prog 210 #[va,vb] w (fun e w'=>∃v0:Value,e=.returned (v0)∧AE w w'∧Fr (B8 rI 2) w.heap.size w'.heap.size w'.heap v0 (Ea a b)):=by
 refine Ap [va,vb] 27 Tryz.func210 Z Z sM ?_
 have a8:AE w w:=AE.refl w
 have an:=ha.lenle
 have ao:=hb.lenle
 refine Z2 Z<|Z1 [3,0] Z (CH (rI) AI Bm BC Aa fun v1 w1 a4 af a9=>?_)
 have a5:=a4.size
 have aa:=a8.trans a4
 refine Ac 1 Z<|A0<|Z2 Z<|A3 ?_
 refine AV (S:=Nat×Value) (fun⟨k,vo⟩=>([(5,vo),(6,zI (k:Int)),(0,va),(1,vb)])) (fun⟨k,vo⟩ W=>AE w W∧Fr (B8 rI 2) w.heap.size W.heap.size W.heap vo (IL k fun t=>md (a.getD t 0+b.getD t 0))∧k≤a.length) (fun⟨k,vo⟩=>a.length-k) (0,v1) ⟨rfl,rfl,rfl,rfl,trivial⟩ ⟨aa,(by exact a9.up o1),C0⟩ ?_
 clear a8 a9 af a4 a5 aa
 rintro⟨k,vo⟩ ρ2 w2 ⟨a2,a1,ab⟩
 have ag:w.heap.size≤w2.heap.size:=a2.size
 refine A0<|Z1 [0,0,0,0] Z<|Ad 2 Z<|AP (v:=va) Bm Z ha.isSl Aa ?_
 by_cases ac:(k:Int)<(a.length:Int)
 ·refine AC true Z Z (A5 ac) Aa<|Aj<|Af Z<|A2<|A0<|A3<|AW _ [0,0,0,0,1,0,0,0,1,0,3,4,0] mixed (by kernel_rfl)<|Ad 3 Z<|Az (v:=va) k Bm BC Z Z ha.isSl Z C0 Aa ?_
  refine Ah (p:=Ay va k 1) (.inl Z) (zI<|a.getD k 0) AB Z (Bb a2.drew (ha.getI C0).1) Aa<|Ad 2 Z ?_
  refine Az (v:=vb) k Bm BC Z Z hb.isSl Z C0 Aa ?_
  refine Ah (p:=Ay vb k 1) (.inl Z) (zI<|b.getD k 0) AB Z (Bb a2.drew (hb.getI C0).1) Aa ?_
  refine Ax 70 [] [] [zI<|a.getD k 0,zI<|b.getD k 0] Z Z V1 Aa (zI<|md ((a.getD k 0)+(b.getD k 0))) (fun wq=>FT wq _ _ (ha.getI C0).2 (hb.getI C0).2) ?_
  refine BI (u:=zI<|md ((a.getD k 0)+(b.getD k 0))) (B:=w2.heap.size) AI Bm BC Z Z (KL w2.heap.size w2.heap.size _ _<|Dt _) (A7 _) Aa fun v5 w5 a3 al ad=>?_
  replace a3:=a3.of_drew
  have ah:=a3.size
  have a6:=a2.trans a3
  have a0:=a1.ext (o1) a3
  refine El (v:=vo) (a:=v5) Bm BC Z Z Z a0 a6.size ad.rd1 C0 (by unfold maxLen;first|omega|assumption|(simp[DB];done)|(simp[DB];omega)) Aa fun v6 w6 F6 a7 ae ai=>?_
  have aj:AE w w6:=a7.below a6 (fun c hc=>A8 (A7 _) (ae c hc).1) a6.size
  have ak:=a7.size
  have am:=ad.chg (o1) a7 fun c hc=>zH<|ae c hc
  refine Ac 1 Z<|Ab _ [0,0,0] Z<|Ad 1 Z<|AM ((k+1:Nat):Int) Z Z (Ba oM C0) Aa<|Ac 1 Z ?_
  exact⟨(k+1,v6),_,rfl,zR,⟨aj,(by rw[LM];exact ai.up o1),C0⟩,zD⟩
 exact AC false Z Z (A6 ac) Aa<|Aj<|Ai Z<|A4<|Av<|Av<|Aq<|Z1 [0,0] Z<|Ac 2 Z<|A1<|Ag [4] Z vo Z ⟨vo,rfl,a2,(by have h:=a1.up o1;rw[show k=a.length from by omega]at h;exact h)⟩
theorem K6 (w:World)(va:Value)(a:Sr)(vb:Value)(b:Sr)(ha:Rd (B4 rI) w.heap va a)(hb:Rd (B4 rI) w.heap vb b)(hla:a.length≤1000000000000)(hlb:b.length≤1000000000000)(hl:a.length≤b.length) :
  Calls Tryz.prog 211 #[va,vb] w (fun e w'=>∃v0:Value,e=.returned (v0)∧AE w w'∧Fr (B8 rI 2) w.heap.size w'.heap.size w'.heap v0 (Hz a b)):=by
 refine Ap [va,vb] 9 Tryz.func211 Z Z sM ?_
 have a7:AE w w:=AE.refl w
 have ab:=ha.lenle
 have ac:=hb.lenle
 refine Z2 Z<|Z1 [0,0,3,3,0] Z<|Ad 2 Z<|Au 207 [] [] [vb,zI ((1000002:Nat):Int)] Z Z TF Aa (Fs _ _ _ _ (hb.ext g1 a7) oM hlb) ?_
 rintro e1 w1 ⟨a3,rfl,a4,a0⟩
 refine⟨_,rfl,a4,?_⟩
 have a8:=a4.size
 have a5:=a7.trans a4
 refine Au 210 [] [] [va,a3] Z Z TH Aa (GG _ _ _ _ _ (ha.ext g1 a5) a0.rd1 hla (by unfold IP;simp;omega)) ?_
 rintro e2 w2 ⟨a1,rfl,a6,a2⟩
 refine⟨_,rfl,a6,?_⟩
 have a9:=a6.size
 have aa:=a5.trans a6
 exact Ac 1 Z<|A1<|Ag [4] Z a1 Z ⟨a1,rfl,aa,(by rw[← PJ hl,← Nl];exact(a2.up o1).low a5.size)⟩
theorem K7 (w:World)(va:Value)(a:Sr)(vb:Value)(b:Sr)(ha:Rd (B4 rI) w.heap va a)(hb:Rd (B4 rI) w.heap vb b)(hla:a.length≤1000000000000)(hl:a.length≤b.length) :
  Calls Tryz.prog 212 #[va,vb] w (fun e w'=>∃v0:Value,e=.returned (v0)∧AE w w'∧Fr (B8 rI 2) w.heap.size w'.heap.size w'.heap v0 (Cs a b)):=by
 refine Ap [va,vb] 39 Tryz.func212 Z Z sM ?_
 have ab:AE w w:=AE.refl w
 have au:=ha.lenle
 have av:=hb.lenle
 refine Z2 Z<|Z1 [3,0] Z (CH (rI) AI Bm BC Aa fun v1 w1 a5 ak ac=>?_)
 have a6:=a5.size
 have ad:=ab.trans a5
 refine Ac 1 Z<|A0<|Z2 Z<|A3 ?_
 refine AV (S:=Nat×Value) (fun⟨k,vo⟩=>([(5,vo),(6,zI (k:Int)),(0,va),(1,vb)])) (fun⟨k,vo⟩ W=>AE w W∧Fr (B8 rI 2) w.heap.size W.heap.size W.heap vo (IL k fun t=>Mr a b t (t+1))∧k≤a.length) (fun⟨k,vo⟩=>a.length-k) (0,v1) ⟨rfl,rfl,rfl,rfl,trivial⟩ ⟨ad,(by exact ac.up o1),C0⟩ ?_
 clear ab ac ak a5 a6 ad
 rintro⟨k,vo⟩ ρ2 w2 ⟨a4,a0,ae⟩
 have a7:w.heap.size≤w2.heap.size:=a4.size
 refine A0<|Z1 [0,0,0,0] Z<|Ad 2 Z<|AP (v:=va) Bm Z ha.isSl Aa ?_
 by_cases af:(k:Int)<(a.length:Int)
 ·refine AC true Z Z (A5 af) Aa<|Aj<|Af Z<|A2<|A0<|A3<|Z2 Z<|A0<|Z2 Z<|A3 ?_
  refine AV (S:=Nat×Int) (fun⟨i,s⟩=>([(7,zI s),(8,zI (i:Int)),(0,va),(1,vb),(5,vo),(6,zI (k:Int))])) (fun⟨i,s⟩ W=>AE w W∧Fr (B8 rI 2) w.heap.size W.heap.size W.heap vo (IL k fun t=>Mr a b t (t+1))∧i≤k+1∧s=Mr a b k i∧(0≤s∧s<1000003)) (fun⟨i,s⟩=>k+1-i) (0,((0:Nat):Int)) ⟨rfl,rfl,rfl,rfl,rfl,rfl,trivial⟩ ⟨a4,a0.up o1,C0,(by rfl),oM⟩ ?_
  clear a0 a4 a7
  rintro⟨i,s⟩ ρ4 w4 ⟨a3,a2,ag,hs,hsr⟩
  have al:w.heap.size≤w4.heap.size:=a3.size
  refine A0<|Z1 [0,0,0] Z<|Ad 2 Z ?_
  by_cases ah:(i:Int)≤(k:Int)
  ·refine Dc true Z Z (A5 ah) Aa<|Aj<|Af Z<|A2<|A0<|A3<|AW _ [0,0,0,0,1,0,0,0,0,0,1,0,0,0] mixed (by kernel_rfl)<|Ad 3 Z<|Az (v:=va) i Bm BC Z Z ha.isSl Z C0 Aa ?_
   refine Ah (p:=Ay va i 1) (.inl Z) (zI<|a.getD i 0) AB Z (Bb a3.drew (ha.getI C0).1) Aa<|Ad 3 Z<|Br ((k-i:Nat):Int) Z Z (by rw[D3 oM oM];omega) Aa ?_
   refine Az (v:=vb) (k-i) Bm BC Z Z hb.isSl Z C0 Aa ?_
   refine Ah (p:=Ay vb (k-i) 1) (.inl Z) (zI<|b.getD (k-i) 0) AB Z (Bb a3.drew (hb.getI C0).1) Aa ?_
   refine Ax 69 [] [] [zI<|a.getD i 0,zI<|b.getD (k-i) 0] Z Z Mj Aa (zI<|md ((a.getD i 0)*(b.getD (k-i) 0))) (fun wq=>Cc wq _ _ (ha.getI C0).2 (hb.getI C0).2) ?_
   refine Ax 70 [] [] [zI s,zI<|md ((a.getD i 0)*(b.getD (k-i) 0))] Z Z V1 Aa (zI<|md (s+(md ((a.getD i 0)*(b.getD (k-i) 0))))) (fun wq=>FT wq _ _ oM<|Dt _)<|Ac 1 Z<|Ab _ [0,0,0] Z<|Ad 1 Z<|AM ((i+1:Nat):Int) Z Z (Ba oM C0) Aa<|Ac 1 Z ?_
   exact⟨(i+1,md (s+(md ((a.getD i 0)*(b.getD (k-i) 0))))),_,rfl,zR,⟨a3.drew,a2.up o1,C0,(by rw[NC,hs];rfl),(by exact BT _)⟩,zD⟩
  refine Dc false Z Z (A6 ah) Aa<|Aj<|Ai Z<|A4<|Av<|Av<|Aq<|Ab _ [0,0,3,4,0] Z<|Ad 2 Z (BI (u:=zI s) (B:=w4.heap.size) AI Bm BC Z Z (KL w4.heap.size w4.heap.size _ _ oM) (A7 _) Aa fun v8 w8 a8 ar ai=>?_)
  have am:=a8.size
  have a9:=a3.trans a8
  have a1:=a2.ext (o1) a8
  refine El (v:=vo) (a:=v8) Bm BC Z Z Z a1 a9.size ai.rd1 C0 (by unfold maxLen;first|omega|assumption|(simp[DB];done)|(simp[DB];omega)) Aa fun v9 w9 F9 aa aj an=>?_
  have ao:AE w w9:=aa.below a9 (fun c hc=>A8 (A7 _) (aj c hc).1) a9.size
  have ap:=aa.size
  have aq:=ai.chg (o1) aa fun c hc=>zH<|aj c hc
  refine Ac 1 Z<|Ab _ [0,0,0] Z<|Ad 1 Z<|AM ((k+1:Nat):Int) Z Z (Ba oM C0) Aa<|Ac 1 Z ?_
  exact⟨(k+1,v9),_,rfl,zR,⟨ao,(by rw[LM];have h:=an.up o1;rw[hs,show i=k+1 from by omega]at h;exact h),C0⟩,zD⟩
 exact AC false Z Z (A6 af) Aa<|Aj<|Ai Z<|A4<|Av<|Av<|Aq<|Z1 [0,0] Z<|Ac 2 Z<|A1<|Ag [4] Z vo Z ⟨vo,rfl,a4,(by have h:=a0.up o1;rw[show k=a.length from by omega]at h;exact h)⟩
theorem CG {p:Prop}(h:p:=by first|omega|assumption|(simp only[zb,z9,z4,z6,z5,DP];omega)|(simp[zb,z9,z4,z6,z5,DP];done)|(simp[zb,z9,z4,z6,z5,DP];omega)):p:=h
theorem K8 (w:World)(va:Value)(a:Sr)(vb:Value)(b:Sr)(ha:Rd (B4 rI) w.heap va a)(hb:Rd (B4 rI) w.heap vb b)(hla:a.length≤1000000000000)(hl:a.length≤b.length)(h1:0<b.length)(hqa:B9 a=true) :
  Calls Tryz.prog 213 #[va,vb] w (fun e w'=>∃v0:Value,e=.returned (v0)∧AE w w'∧Fr (B8 rI 2) w.heap.size w'.heap.size w'.heap v0 (Cm a b)):=by
 refine Ap [va,vb] 50 Tryz.func213 Z Z sM ?_
 have ag:AE w w:=AE.refl w
 have au:=ha.lenle
 have av:=hb.lenle
 refine Z2 Z<|Z1 [3,0] Z (CH (rI) AI Bm BC Aa fun v1 w1 aa ao ah=>?_)
 have ab:=aa.size
 have ac:=ag.trans aa
 refine Ac 1 Z<|Z1 [0,0,2,0,0] Z<|Ad 1 Z<|Az (v:=vb) 0 Bm BC Z Z hb.isSl Z CG Aa ?_
 refine Ah (p:=Ay vb 0 1) (.inr Z) (zI<|b.getD 0 0) AB Z (Bb ac (hb.getI CG).1) Aa ?_
 refine Ax 240 [] [] [zI<|b.getD 0 0] Z Z XB Aa (zI<|inv<|b.getD 0 0) (fun wq=>JY wq _ (hb.getI CG).2)<|Ac 1 Z<|A0<|Z2 Z<|A3 ?_
 refine AV (S:=Nat×Value) (fun⟨k,vo⟩=>([(5,vo),(7,zI (k:Int)),(0,va),(1,vb),(6,zI<|inv<|b.getD 0 0)])) (fun⟨k,vo⟩ W=>AE w W∧Fr (B8 rI 2) w.heap.size W.heap.size W.heap vo (J5 a b k)∧k≤a.length) (fun⟨k,vo⟩=>a.length-k) (0,v1) ⟨rfl,rfl,rfl,rfl,rfl,trivial⟩ ⟨ac,(by exact ah.up o1),CG⟩ ?_
 clear ag ah ao aa ab ac
 rintro⟨k,vo⟩ ρ3 w3 ⟨a6,a1,ai⟩
 have ad:w.heap.size≤w3.heap.size:=a6.size
 refine A0<|Z1 [0,0,0,0] Z<|Ad 2 Z<|AP (v:=va) Bm Z ha.isSl Aa ?_
 by_cases aj:(k:Int)<(a.length:Int)
 ·refine AC true Z Z (A5 aj) Aa<|Aj<|Af Z<|A2<|A0<|A3<|Z1 [0,0,0,2,0] Z<|Ad 2 Z<|Az (v:=va) k Bm BC Z Z ha.isSl Z CG Aa ?_
  refine Ah (p:=Ay va k 1) (.inr Z) (zI<|a.getD k 0) AB Z (Bb a6 (ha.getI CG).1) Aa<|Ac 1 Z<|A0<|Z2 Z<|A3 ?_
  refine AV (S:=Nat×Int) (fun⟨i,t⟩=>([(8,zI t),(9,zI (i:Int)),(0,va),(1,vb),(5,vo),(6,zI<|inv<|b.getD 0 0),(7,zI (k:Int))])) (fun⟨i,t⟩ W=>AE w W∧Fr (B8 rI 2) w.heap.size W.heap.size W.heap vo (J5 a b k)∧i≤k∧t=OJ a b (J5 a b k) k i∧(0≤t∧t<1000003)) (fun⟨i,t⟩=>k-i) (0,a.getD k 0) ⟨rfl,rfl,rfl,rfl,rfl,rfl,rfl,trivial⟩ ⟨a6,a1.up o1,CG,(by rfl),(by exact C9 hqa k)⟩ ?_
  clear a1 a6 ad
  rintro⟨i,t⟩ ρ5 w5 ⟨a9,a0,ak,ht,htr⟩
  have ap:w.heap.size≤w5.heap.size:=a9.size
  refine A0<|Z1 [0,0,0] Z<|Ad 2 Z ?_
  by_cases al:(i:Int)<(k:Int)
  ·refine AC true Z Z (A5 al) Aa<|Aj<|Af Z<|A2<|A0<|A3<|AW _ [0,0,0,0,1,0,0,0,0,0,1,0,0,0] mixed (by kernel_rfl) ?_
   have hmn:=BT ((J5 a b k).getD i 0*b.getD (k-i) 0)
   refine Ad 3 Z<|Az (v:=vo) i Bm BC Z Z a0.isSl Z CG Aa ?_
   refine Ah (p:=Ay vo i 1) (.inl Z) (zI<|(J5 a b k).getD i 0) AB Z (a0.rd1.getI CG).1 Aa (Ad 3 Z<|Br ((k-i:Nat):Int) Z Z (by rw[D3 oM oM];omega) Aa ?_)
   refine Az (v:=vb) (k-i) Bm BC Z Z hb.isSl Z CG Aa ?_
   refine Ah (p:=Ay vb (k-i) 1) (.inl Z) (zI<|b.getD (k-i) 0) AB Z (Bb a9.drew (hb.getI CG).1) Aa ?_
   refine Ax 69 [] [] [zI<|(J5 a b k).getD i 0,zI<|b.getD (k-i) 0] Z Z Mj Aa (zI<|md (((J5 a b k).getD i 0)*(b.getD (k-i) 0))) (fun wq=>Cc wq _ _ (a0.rd1.getI CG).2 (hb.getI CG).2) ?_
   refine Ax 241 [] [] [zI t,zI<|md (((J5 a b k).getD i 0)*(b.getD (k-i) 0))] Z Z XC Aa (zI<|md (t-(md (((J5 a b k).getD i 0)*(b.getD (k-i) 0))))) (fun wq=>IB wq _ _ oM (Dt _) oM)<|Ac 1 Z<|Ab _ [0,0,0] Z<|Ad 1 Z<|AM ((i+1:Nat):Int) Z Z (Ba oM CG) Aa<|Ac 1 Z ?_
   exact⟨(i+1,md (t-(md (((J5 a b k).getD i 0)*(b.getD (k-i) 0))))),_,rfl,zR,⟨a9.drew,a0.up o1,CG,(by rw[KP,ht];rfl),(by exact BT _)⟩,zD⟩
  refine AC false Z Z (A6 al) Aa<|Aj<|Ai Z<|A4<|Av<|Av<|Aq<|Ab _ [0,0,0,0,3,4,0] Z<|Ad 3 Z<|Ax 69 [] [] [zI t,zI<|inv<|b.getD 0 0] Z Z Mj Aa (zI<|md (t*(inv<|b.getD 0 0))) (fun wq=>Cc wq _ _ oM<|NE _) (BI (u:=zI<|md (t*(inv<|b.getD 0 0))) (B:=w5.heap.size) AI Bm BC Z Z (KL w5.heap.size w5.heap.size _ _<|Dt _) (A7 _) Aa fun aw az a3 aq a7=>?_)
  have am:=a3.size
  have a4:=a9.trans a3
  have a2:=a0.ext (o1) a3
  refine El (v:=vo) (a:=aw) Bm BC Z Z Z a2 a4.size a7.rd1 CG (by unfold maxLen;first|omega|assumption|(simp[DP];done)|(simp[DP];omega)) Aa fun ax ay b0 a5 a8 ae=>?_
  have af:AE w ay:=a5.below a4 (fun c hc=>A8 (A7 _) (a8 c hc).1) a4.size
  have an:=a5.size
  have ar:=a7.chg (o1) a5 fun c hc=>zH<|a8 c hc
  refine Ac 1 Z<|Ab _ [0,0,0] Z<|Ad 1 Z<|AM ((k+1:Nat):Int) Z Z (Ba oM CG) Aa<|Ac 1 Z ?_
  exact⟨(k+1,ax),_,rfl,zR,⟨af,(by have h:=ae.up o1;rw[ht,show i=k from by omega]at h;exact h),CG⟩,zD⟩
 exact AC false Z Z (A6 aj) Aa<|Aj<|Ai Z<|A4<|Av<|Av<|Aq<|Z1 [0,0] Z<|Ac 2 Z<|A1<|Ag [4] Z vo Z ⟨vo,rfl,a6,(by have h:=a1.up o1;rw[show k=a.length from by omega]at h;exact h)⟩
def SV (F d:Nat):Prop:=∀(w:World) (S:List Nat) (g:Nat) (pp:Value) (dp n s0:Nat) (c0:Int) (p:List Fn) (ve:Value) (ex:Ex) (vv:Value) (env:List (List Int)) (hS:∀b∈S,b<w.heap.size) (hgS:g∈S) (hB0:BX w.heap g [pp,.int .i64 ((n:Nat):Int),.int .i64 ((s0:Nat):Int),.int .i64 c0]) (hp:RN S (rP (IJ dp)) w.heap pp p) (hn:1≤n∧n≤13) (hs0:s0≤3000) (hc0:0≤c0∧c0≤9) (hex:RN S (rP (KO d)) w.heap ve ex) (henv:RN S (B4 (B4 rI)) w.heap vv env) (hqenv:CD vv)
  (hvp:Lv p) (hF:F≤p.length) (hwf:wf p ((F:Nat):Int) ex ((env.length:Nat):Int)=true) (hse:CB n env) (hdp:env.length+ex.deep≤1000000),
  Calls Tryz.prog 169 #[.pointer (some ⟨g,0,none⟩),ve,vv] w (fun e w'=>∃(v:Value) (x:List Int) (s1:Nat) (c1:Int),e=.returned v∧At [g] w w'∧BX w'.heap g [pp,.int .i64 ((n:Nat):Int),.int .i64 ((s1:Nat):Int),.int .i64 c1]∧RN S (B4 rI) w'.heap v x∧Ct n x∧s1≤3000∧(0≤c1∧c1≤9)∧AN (go c0 (Em n (Gz p n F) ex env s0)) x s1 c1)
def SC (F d:Nat):Prop:=∀(w:World) (S:List Nat) (g:Nat) (pp:Value) (dp n s0:Nat) (c0:Int) (p:List Fn) (ve:Value) (ex:Ex) (vv:Value) (env:List (List Int)) (hS:∀b∈S,b<w.heap.size) (hgS:g∈S) (hB0:BX w.heap g [pp,.int .i64 ((n:Nat):Int),.int .i64 ((s0:Nat):Int),.int .i64 c0]) (hp:RN S (rP (IJ dp)) w.heap pp p) (hn:1≤n∧n≤13) (hs0:s0≤3000) (hc0:0≤c0∧c0≤9) (hex:RN S (rP (KO d)) w.heap ve ex) (henv:RN S (B4 (B4 rI)) w.heap vv env) (hqenv:CD vv)
  (hvp:Lv p) (hF:F≤p.length) (hwf:wf p ((F:Nat):Int) ex ((env.length:Nat):Int)=true) (hse:CB n env) (hdp:env.length+ex.deep≤1000000) (hk:ex.kind=10∨ex.kind=11),
  Calls Tryz.prog 209 #[.pointer (some ⟨g,0,none⟩),ve,vv] w (fun e w'=>∃(v:Value) (x:List Int) (s1:Nat) (c1:Int),e=.returned v∧At [g] w w'∧BX w'.heap g [pp,.int .i64 ((n:Nat):Int),.int .i64 ((s1:Nat):Int),.int .i64 c1]∧RN S (B4 rI) w'.heap v x∧Ct n x∧s1≤3000∧(0≤c1∧c1≤9)∧AN (go c0 (Is n (Gz p n F) ex env s0)) x s1 c1)
def SO (F:Nat):Prop:=∀(w:World) (S:List Nat) (g:Nat) (pp:Value) (dp n s0:Nat) (c0:Int) (p:List Fn) (dfx:Nat) (vf:Value) (fx:Fn) (va:Value) (env:List (List Int)) (hS:∀b∈S,b<w.heap.size) (hgS:g∈S) (hB0:BX w.heap g [pp,.int .i64 ((n:Nat):Int),.int .i64 ((s0:Nat):Int),.int .i64 c0]) (hp:RN S (rP (IJ dp)) w.heap pp p) (hn:1≤n∧n≤13) (hs0:s0≤3000) (hc0:0≤c0∧c0≤9) (hfx:RN S (rP (T0 dfx)) w.heap vf fx) (henv:RN S (B4 (B4 rI)) w.heap va env) (hqenv:CD va)
  (hvp:Lv p) (hF:F≤p.length) (hwf:∀k,k<fx.outs.length→wf p ((F:Nat):Int) (fx.outs.getD k Ex.zero) ((env.length:Nat):Int)=true) (hse:CB n env) (hdp:∀k,k<fx.outs.length→env.length+(fx.outs.getD k Ex.zero).deep≤1000000) (hll:fx.outs.length≤1000000),
  Calls Tryz.prog 113 #[.pointer (some ⟨g,0,none⟩),vf,va] w (fun e w'=>∃(v:Value) (x:List (List Int)) (s1:Nat) (c1:Int),e=.returned v∧At [g] w w'∧BX w'.heap g [pp,.int .i64 ((n:Nat):Int),.int .i64 ((s1:Nat):Int),.int .i64 c1]∧RN S (B4 (B4 rI)) w'.heap v x∧(CD v∧x.length=fx.outs.length∧CB n x)∧s1≤3000∧(0≤c1∧c1≤9)∧AN (go c0 (Eh n (Gz p n F) fx.outs env s0)) x s1 c1)
theorem Cv (w:World)(S:List Nat)(g:Nat)(pp:Value)(dp n s0:Nat)(c0:Int)(p:List Fn)(code:Int)(hS:∀b∈S,b<w.heap.size)(hgS:g∈S)(hB0:BX w.heap g [pp,zI (n:Int),zI (s0:Int),zI c0])(hp:RN S (rP (IJ dp)) w.heap pp p)(hn:1≤n∧n≤13)(hs0:s0≤3000)(hc0:0≤c0∧c0≤9)(_hcode:Bn code)(hcd:1≤code∧code≤9) :
  Calls Tryz.prog 205 #[zP g,zI code] w (fun e w'=>∃(v:Value) (x:Sr) (s1:Nat) (c1:Int),e=.returned v∧At [g] w w'∧BX w'.heap g [pp,zI (n:Int),zI (s1:Int),zI c1]∧RN S (B4 rI) w'.heap v x∧Ct n x∧s1≤3000∧(0≤c1∧c1≤9)∧(s1=s0∧c1=if c0=0 then code else c0)):=by
 refine Ap [zP g,zI code] 19 Tryz.func205 Z Z sM ?_
 have a9:At [g] w w:=At.refl [g] w
 have aj:=hB0.lt
 refine Z2 Z<|A0<|Z1 [0,0,0,2,0] Z<|Ad 1 Z<|AZ Z Aa<|Ak (p:=zP g) 3 Fe Z Z Aa<|Ah (p:=Ao (zP g) 3) (.inr Z) (zI c0) AB Z (hB0.ldp (i:=3) sM) Aa ?_
 by_cases aa:c0=((0:Nat):Int)
 ·refine Al true Z Z (A5 aa) Aa<|Aj<|Af Z<|Ab _ [0,0,0,0,4] Z<|Ad 2 Z<|AZ Z Aa<|Ak (p:=zP g) 3 Fe Z Z Aa (Bi (k:=3) (w:=w) GD Z Z ⟨rfl,rfl⟩ hB0 sM Aa fun w2 ab ai a6=>?_)
  replace a6:BX w2.heap g [pp,zI (n:Int),zI (s0:Int),zI code]:=a6
  have ac:At [g] w w2:=a9.trans ab
  have ad:=ab.size
  refine Aj<|Z1 [0,0,0,2,3,0] Z<|Ad 1 Z<|AZ Z Aa<|Ak (p:=zP g) 1 Lh Z Z Aa<|Ah (p:=Ao (zP g) 1) (.inr Z) (zI (n:Int)) JX Z (a6.ldp (i:=1) sM) Aa ?_
  refine Au 206 [] [] [zI ((0:Nat):Int),zI (n:Int)] Z Z QS Aa (DK _ _ (n) oM sD oM) ?_
  rintro e3 w3 ⟨a0,rfl,a7,a1⟩
  refine⟨_,rfl,a7,?_⟩
  have ae:=a7.size
  have af:At [g] w w3:=ac.ext a7
  have a2:=a6.ext a7
  exact Ac 1 Z<|A1<|Ag [4] Z a0 Z ⟨a0,Lu n ((0:Nat):Int),s0,code,rfl,af,a2,RN.of_fr1 a1 fun b hb=>zH<|hS b hb,(by exact Gc (by decide)),oM,oM,(by exact⟨rfl,by first|(rw[if_pos oM])|(rw[if_neg oM])⟩)⟩
 refine Al false Z Z (A6 aa) Aa<|Aj<|Ai Z<|A2<|Z1 [0,0,0,2,3,0] Z<|Ad 1 Z<|AZ Z Aa<|Ak (p:=zP g) 1 Lh Z Z Aa<|Ah (p:=Ao (zP g) 1) (.inr Z) (zI (n:Int)) JX Z (hB0.ldp (i:=1) sM) Aa ?_
 refine Au 206 [] [] [zI ((0:Nat):Int),zI (n:Int)] Z Z QS Aa (DK _ _ (n) oM sD oM) ?_
 rintro e4 w4 ⟨a3,rfl,a8,a4⟩
 refine⟨_,rfl,a8,?_⟩
 have ag:=a8.size
 have ah:At [g] w w4:=a9.ext a8
 have a5:=hB0.ext a8
 exact Ac 1 Z<|A1<|Ag [4] Z a3 Z ⟨a3,Lu n ((0:Nat):Int),s0,c0,rfl,ah,a5,RN.of_fr1 a4 fun b hb=>zH<|hS b hb,(by exact Gc (by decide)),oM,oM,(by exact⟨rfl,by first|(rw[if_pos oM])|(rw[if_neg oM])⟩)⟩
theorem Ra {p:Prop}(h:p:=by unfold maxLen;first|omega|assumption|(simp only[zb,z9,z4,z6,z5];omega)|(simp[zb,z9,z4,z6,z5];done)|(simp[zb,z9,z4,z6,z5];omega)):p:=h
theorem K9 (w:World)(S:List Nat)(vv:Value)(env:List (Sr))(vx:Value)(x:Sr)(hS:∀b∈S,b<w.heap.size)(henv:RN S (B4 (B4 rI)) w.heap vv env)(hqenv:CD vv)(hx:RN S (B4 rI) w.heap vx x)(hel:env.length≤1000000) :
  Calls Tryz.prog 208 #[vv,vx] w (fun e w'=>∃v,e=.returned v∧AE w w'∧RN S (B4 (B4 rI)) w'.heap v (env++[x])∧CD v):=by
 refine Ap [vv,vx] 25 Tryz.func208 Z Z sM ?_
 have ai:AE w w:=AE.refl w
 have b8:=henv.lenL
 unfold maxLen at b8
 have b9:=hx.lenL
 unfold maxLen at b9
 refine Z2 Z<|Z1 [3,0] Z (CH rV BB Bo Bs Aa fun v1 w1 a7 aq aj=>?_)
 have a8:=a7.size
 have ak:=ai.trans a7
 obtain⟨b2,F1,b3⟩:=Gb.nil (S:=S) (aj.low (B':=w.heap.size) (A7 _))
 refine Ac 1 Z<|A0<|Z2 Z<|A3<|AV (S:=Nat×Value) (fun⟨k,vo⟩=>([(5,vo),(6,zI (k:Int)),(0,vv),(1,vx)])) (fun⟨k,vo⟩ W=>AE w W∧k≤env.length∧OG 27 S w.heap.size W.heap vo (env.take k)) (fun⟨k,vo⟩=>env.length-k) (0,v1) ⟨rfl,rfl,rfl,rfl,trivial⟩ ⟨ak,sD,(by exact⟨_,_,by assumption⟩)⟩ ?_
 clear ai aj aq a7 a8 ak
 rintro⟨k,vo⟩ ρ2 w2 ⟨a6,al,hbld⟩
 have ar:w.heap.size≤w2.heap.size:=a6.size
 obtain⟨b4,F4,a3⟩:=hbld
 refine A0<|Z1 [0,0,0,0] Z<|Ad 2 Z<|AP (v:=vv) Bo Z henv.slL Aa ?_
 by_cases am:(k:Int)<(env.length:Int)
 ·refine AC true Z Z (A5 am) Aa<|Aj<|Af Z<|A2<|A0<|A3<|Ab _ [0,0,0,0,2,3,4,0] Z<|Ad 3 Z<|Az (v:=vv) k Bo Bs Z Z henv.slL Z sD Aa ?_
  obtain⟨a9,au,aa⟩:=RN.getL (w:=w) g1 [] (k:=k) henv sD
  have ab:=aa.lenL
  unfold maxLen at ab
  refine Ah (p:=Ay vv k 1) (.inr Z) a9 BA Z (au _<|At.of_ext S a6) Aa (BI (u:=a9) (B:=w2.heap.size) BB Bo Bs Z Z (Nu w2.heap.size w2.heap.size _<|aa.one1 g1) (A7 _) Aa fun v7 w7 ac b5 av=>?_)
  have aw:=ac.size
  have ad:=a6.trans ac
  have ae:=a3.ext ac
  refine DY (v:=vo) (a:=v7) (u:=a9) Bo Bs Z Z Z ae oM av ((aa.add (F:=F4) g1 ae.low).ext g1 ad) sD Ra Aa ?_
  rintro v9 w9 G9 an ax ⟨b6,F9,b7⟩
  have ay:=an.size
  have az:AE w w9:=an.below ad (fun c hc=>ae.low c (ax c hc)) ad.size
  refine Ac 1 Z<|Ab _ [0,0,0] Z<|Ad 1 Z<|AM ((k+1:Nat):Int) Z Z (Ba oM sD) Aa<|Ac 1 Z ?_
  exact⟨(k+1,v9),_,rfl,zR,⟨az,sD,(by rw[D6 [] oM];exact⟨_,_,by assumption⟩)⟩,zD⟩
 refine AC false Z Z (A6 am) Aa<|Aj<|Ai Z<|A4<|Av<|Av<|Aq<|Z1 [0,0,3,4,0] Z<|Ad 2 Z (BI (u:=vx) (B:=w2.heap.size) BB Bo Bs Z Z (Nu w2.heap.size w2.heap.size _<|hx.one1 g1) (A7 _) Aa fun bb bd a0 b0 af=>?_)
 have ao:=a0.size
 have a1:=a6.trans a0
 have a2:=a3.ext a0
 refine DY (v:=vo) (a:=bb) (u:=vx) Bo Bs Z Z Z a2 oM af ((hx.add (F:=F4) g1 a2.low).ext g1 a1) sD Ra Aa ?_
 rintro ba bc G12 a4 ag ⟨b1,be,a5⟩
 have ap:=a4.size
 have ah:AE w bc:=a4.below a1 (fun c hc=>a2.low c (ag c hc)) a1.size
 exact Ac 1 Z<|A1<|Ag [4] Z ba Z ⟨ba,rfl,ah,(by have h9:=(a5.done hS);rw[za oM]at h9;exact h9),a5.cap⟩
theorem H4 (w:World)(S:List Nat)(F:Nat)(g:Nat)(pp:Value)(dp n s0:Nat)(c0:Int)(p:List Fn)(dfx:Nat)(vf:Value)(fx:Fn)(va:Value)(env:List (Sr))(hS:∀b∈S,b<w.heap.size)(hgS:g∈S)(hB0:BX w.heap g [pp,zI (n:Int),zI (s0:Int),zI c0])(hp:RN S (rP (IJ dp)) w.heap pp p)(hn:1≤n∧n≤13)(hs0:s0≤3000)(hc0:0≤c0∧c0≤9)(hfx:RN S (rP (T0 dfx)) w.heap vf fx)(henv:RN S (B4 (B4 rI)) w.heap va env)(hqenv:CD va)(hvp:Lv p)(hF:F≤p.length)(hwf:∀k,k<fx.outs.length→wf p (F:Int) (fx.outs.getD k Ex.zero) (env.length:Int)=true)(hse:CB n env)(hdp:∀k,k<fx.outs.length→env.length+(fx.outs.getD k Ex.zero).deep≤1000000)(hll:fx.outs.length≤1000000)(IHv:∀d,SV F d) :
  Calls Tryz.prog 113 #[zP g,vf,va] w (fun e w'=>∃(v:Value) (x:List (Sr)) (s1:Nat) (c1:Int),e=.returned v∧At [g] w w'∧BX w'.heap g [pp,zI (n:Int),zI (s1:Int),zI c1]∧RN S (B4 (B4 rI)) w'.heap v x∧(CD v∧x.length=fx.outs.length∧CB n x)∧s1≤3000∧(0≤c1∧c1≤9)∧AN (go c0 (Eh n (Gz p n F) fx.outs env s0)) x s1 c1):=by
 refine Ap [zP g,vf,va] 32 Tryz.func113 Z Z sM ?_
 have ao:At [g] w w:=At.refl [g] w
 have bg:=henv.lenL
 unfold maxLen at bg
 have bl:=hB0.lt
 refine Z2 Z<|Z1 [3,0] Z (CH rV BB Bo Bs Aa fun v1 w1 aa az ap=>?_)
 have ae:=aa.size
 have aq:At [g] w w1:=ao.ext aa
 have a9:=hB0.ext aa
 obtain⟨bc,F1,bd⟩:=Gb.nil (S:=S) (ap.low (B':=w.heap.size) (A7 _))
 refine Ac 1 Z<|A0<|Z2 Z<|A3 ?_
 refine AV (S:=Nat×Value×List (Sr)×Nat×Int) (fun⟨k,vo,xs,s9,c9⟩=>([(7,vo),(8,zI (k:Int)),(0,zP g),(1,vf),(2,va)])) (fun⟨k,vo,xs,s9,c9⟩ W=>At [g] w W∧BX W.heap g [pp,zI (n:Int),zI (s9:Int),zI c9]∧k≤fx.outs.length∧OG 27 S w.heap.size W.heap vo xs∧xs.length=k∧CB n xs∧s9≤3000∧(0≤c9∧c9≤9)∧AN (go c0<|Eh n (Gz p n F) (fx.outs.take k) env s0) xs s9 c9) (fun⟨k,vo,xs,s9,c9⟩=>fx.outs.length-k) (0,v1,([]:List (Sr)),s0,c0) ⟨rfl,rfl,rfl,rfl,rfl,trivial⟩ ⟨aq,a9,sD,(by exact⟨_,_,by assumption⟩),(by rfl),(by intro j hj;simp at hj),oM,oM,(by exact Gd _ _ _ _ _ _)⟩ ?_
 clear ao ap az aa ae aq
 rintro⟨k,vo,xs,s9,c9⟩ ρ2 w2 ⟨a3,a1,ar,hbld,hxl,hxs,au,av,hrl⟩
 have b0:w.heap.size≤w2.heap.size:=a3.size
 have be:=a1.lt
 obtain⟨bf,F5,a0⟩:=hbld
 refine A0<|Z1 [0,0,0,0,2,0,0] Z<|Ad 2 Z<|AK (hfx.isPtr) Z Aa ?_
 obtain⟨cs6,b1,ab⟩:=RN.at (AH _) hfx
 obtain⟨a8,rfl,ac⟩:=RF.of b1
 have af:=ac.rn.lenle
 unfold maxLen at af
 refine AG (p:=vf) 2 BU Z (ab _<|a3.sub<|B6 hgS) Aa<|Ah (p:=Ao vf 2) (.inr Z) a8 Bl Z ((ab _<|a3.sub<|B6 hgS).ld (i:=2) (by simp[Ef,Eg])) Aa<|AP (v:=a8) CR Z ac.rn.isSl Aa ?_
 by_cases aw:(k:Int)<(fx.outs.length:Int)
 ·refine AC true Z Z (A5 aw) Aa<|Aj<|Af Z<|A2<|A0<|A3<|Ab _ [0,0,0,0,0,2,0,0,0,4,3,4,0] Z<|Ad 3 Z<|AK (hfx.isPtr) Z Aa<|AG (p:=vf) 2 BU Z (ab _<|a3.sub<|B6 hgS) Aa<|Ah (p:=Ao vf 2) (.inr Z) a8 Bl Z ((ab _<|a3.sub<|B6 hgS).ld (i:=2) (by simp[Ef,Eg])) Aa<|Ad 1 Z ?_
  refine Az (v:=a8) k CR Bp Z Z ac.rn.isSl Z sD Aa<|Ad 1 Z ?_
  refine AA 169 [] [] [zP g,Ay a8 k 5,va] Z Z FQ Aa (IHv dfx _ (S++F5) g pp dp (n) (s9) (c9) (p) (Ay a8 k 5) (fx.outs.getD k Ex.zero) va (env) (fun b hb=>(by rcases zi.1 hb with hb|hb;(have:=hS b hb;omega);exact a0.lt b hb:b<w2.heap.size)) (z8 _ hgS) a1 ((hp.add (F:=F5) (B3<|AQ dp) a0.low).chg (B3<|AQ dp)<|a3.sub<|MB hgS) oM oM oM (RN.ptr (AD dfx) (by decide) Ex.zero ((ac.rn.add (F:=F5) (An<|AD dfx) a0.low).chg (An<|AD dfx)<|a3.sub<|MB hgS) sD) ((henv.add (F:=F5) g2 a0.low).chg g2<|a3.sub<|MB hgS) hqenv hvp oM (by exact hwf k oM) hse (by exact hdp k oM)) ?_
  rintro e8 w8 ⟨v8,x8,s8,c8,rfl,ag,b2,ad,ah,b3,b4,b5⟩
  refine⟨_,rfl,?_⟩
  have b6:=ag.size
  have b7:At [g] w w8:=a3.trans ag
  have ai:=a0.run hgS oM ag
  have b8:=ah.1
  replace ad:RN (S++F5) (B4 rI) w8.heap v8 x8:=ad
  refine BI (u:=v8) (B:=w8.heap.size) BB Bo Bs Z Z (Nu w8.heap.size w8.heap.size _<|ad.one1 g1) (A7 _) Aa fun bh bi a2 b9 aj=>?_
  have ax:=a2.size
  have ak:At [g] w bi:=b7.ext a2
  have a5:=b2.ext a2
  have a4:=ai.ext a2
  have al:=ad.ext g1 a2
  refine DY (v:=vo) (a:=bh) (u:=v8) Bo Bs Z Z Z a4 oM aj al sD (by unfold maxLen;first|omega|assumption|(simp;done)|(simp;omega)) Aa ?_
  rintro bj bk G17 a6 a7 ⟨ba,bm,bb⟩
  have ay:=a6.size
  have am:At [g] w bk:=ak.fresh a6 (fun c hc=>a4.low c (a7 c hc))
  have an:=a5.chg a6 fun hm=>by have:=a4.low _ (a7 _ hm);have:=a4.lt _ (a7 _ hm);omega
  refine Ac 1 Z<|Ab _ [0,0,0] Z<|Ad 1 Z<|AM ((k+1:Nat):Int) Z Z (Ba oM sD) Aa<|Ac 1 Z ?_
  exact⟨(k+1,bj,xs++[x8],s8,c8),_,rfl,zR,⟨am,an,sD,(by exact⟨_,_,by assumption⟩),(by rw[z4,zd,hxl]),(by exact CB.snoc hxs (by assumption)),oM,oM,(by exact FO oM hrl (by assumption))⟩,zD⟩
 exact AC false Z Z (A6 aw) Aa<|Aj<|Ai Z<|A4<|Av<|Av<|Aq<|Z1 [0,0] Z<|Ac 2 Z<|A1<|Ag [6] Z vo Z ⟨vo,xs,s9,c9,rfl,a3,a1,a0.done hS,(by exact⟨a0.cap,zO,hxs⟩),oM,oM,(by rw[za oM]at hrl;exact hrl)⟩
theorem Rb (F:Nat)(IH:∀d,SV F d):SO F:=by
 intro w S g pp dp n s0 c0 p dfx vf fx va env hS hgS hB0 hp hn hs0 hc0 hfx henv hqenv hvp hF hwf hse hdp hll
 exact H4 w S F g pp dp n s0 c0 p dfx vf fx va env hS hgS hB0 hp hn hs0 hc0 hfx henv hqenv hvp hF hwf hse hdp hll IH
theorem Rc {p:Prop}(h:p:=by first|exact Qj oM oM hKr (by assumption)|exact Qm oM oM hKr (by rw[show(ex.count).toNat=i from by omega];exact hrl9)):p:=h
theorem Fh {p:Prop}(h:p:=by simp[Ef,Eg]):p:=h
theorem H5 (w:World)(S:List Nat)(F:Nat)(g:Nat)(pp:Value)(dp n s0:Nat)(c0:Int)(p:List Fn)(dex:Nat)(ve:Value)(ex:Ex)(vv:Value)(env:List (Sr))(hS:∀b∈S,b<w.heap.size)(hgS:g∈S)(hB0:BX w.heap g [pp,zI (n:Int),zI (s0:Int),zI c0])(hp:RN S (rP (IJ dp)) w.heap pp p)(hn:1≤n∧n≤13)(hs0:s0≤3000)(hc0:0≤c0∧c0≤9)(hex:RN S (rP (KO dex)) w.heap ve ex)(henv:RN S (B4 (B4 rI)) w.heap vv env)(hqenv:CD vv)(hvp:Lv p)(hF:F≤p.length)(hwf:wf p (F:Int) ex (env.length:Int)=true)(hse:CB n env)(hdp:env.length+ex.deep≤1000000)(hk:ex.kind=10∨ex.kind=11)(IH1:∀F',F'<F→∀d,SV F' d)(IH2:∀d',d'<dex→SV F d') :
  Calls Tryz.prog 209 #[zP g,ve,vv] w (fun e w'=>∃(v:Value) (x:Sr) (s1:Nat) (c1:Int),e=.returned v∧At [g] w w'∧BX w'.heap g [pp,zI (n:Int),zI (s1:Int),zI c1]∧RN S (B4 rI) w'.heap v x∧Ct n x∧s1≤3000∧(0≤c1∧c1≤9)∧AN (go c0 (Is n (Gz p n F) ex env s0)) x s1 c1):=by
 refine Ap [zP g,ve,vv] 81 Tryz.func209 Z Z sM ?_
 have bo:At [g] w w:=At.refl [g] w
 have d0:=henv.lenL
 unfold maxLen at d0
 have dh:=hB0.lt
 have hwk:=IQ hwf hk
 have ay:ex.kind≠9:=by omega
 have hkH:=Yb hk
 clear hk
 have hdk:=Dr ex
 refine Z2 Z<|Z1 [3,0] Z (CH rV BB Bo Bs Aa fun v1 w1 az cf bp=>?_)
 have b2:=az.size
 have bq:At [g] w w1:=bo.ext az
 have am:=hB0.ext az
 obtain⟨cv,F1,cw⟩:=Gb.nil (S:=S) (bp.low (B':=w.heap.size) (A7 _))
 refine Ac 1 Z<|A0<|Z2 Z<|A3 ?_
 refine AV (S:=Nat×Value×List (Sr)×Nat×Int) (fun⟨k,vo,xs,s9,c9⟩=>([(7,vo),(8,zI (k:Int)),(0,zP g),(1,ve),(2,vv)])) (fun⟨k,vo,xs,s9,c9⟩ W=>At [g] w W∧BX W.heap g [pp,zI (n:Int),zI (s9:Int),zI c9]∧k≤ex.kids.length∧OG 27 S w.heap.size W.heap vo xs∧xs.length=k∧CB n xs∧s9≤3000∧(0≤c9∧c9≤9)∧AN (go c0<|Eh n (Gz p n F) (ex.kids.take k) env s0) xs s9 c9) (fun⟨k,vo,xs,s9,c9⟩=>ex.kids.length-k) (0,v1,([]:List (Sr)),s0,c0) ⟨rfl,rfl,rfl,rfl,rfl,trivial⟩ ⟨bq,am,sD,(by exact⟨_,_,by assumption⟩),(by rfl),(by intro j hj;simp at hj),oM,oM,(by exact Gd _ _ _ _ _ _)⟩ ?_
 clear bo bp cf az b2 bq
 rintro⟨k,vo,xs,s9,c9⟩ ρ2 w2 ⟨a0,a1,br,hbld,hxl,hxs,bs,bt,hrl⟩
 have b3:w.heap.size≤w2.heap.size:=a0.size
 have cx:=a1.lt
 obtain⟨cy,F5,a3⟩:=hbld
 refine A0<|Z1 [0,0,0,0,2,0,0] Z<|Ad 2 Z<|AK (hex.isPtr) Z Aa ?_
 obtain⟨cs6,cg,a7⟩:=RN.at (AD _) hex
 obtain⟨dd6,al,cz,rfl,b0⟩:=RX.of cg
 have an:=b0.rn.lenle
 unfold maxLen at an
 refine AG (p:=ve) 4 Bc Z (a7 _<|a0.sub<|B6 hgS) Aa<|Ah (p:=Ao ve 4) (.inr Z) al Bl Z ((a7 _<|a0.sub<|B6 hgS).ld (i:=4) Fh) Aa<|AP (v:=al) CR Z b0.rn.isSl Aa ?_
 by_cases bu:(k:Int)<(ex.kids.length:Int)
 ·refine AC true Z Z (A5 bu) Aa<|Aj<|Af Z<|A2<|A0<|A3<|Ab _ [0,0,0,0,0,2,0,0,0,4,3,4,0] Z ?_
  have hvo:=hvp.outs (ex.num).toNat oM
  have hvr:=hvp.par (ex.num).toNat oM
  have hkd:=DF (l:=ex.kids) (k:=k) oM
  have hkb:ex.kids.length≤412:=by omega
  refine Ad 3 Z<|AK (hex.isPtr) Z Aa<|AG (p:=ve) 4 Bc Z (a7 _<|a0.sub<|B6 hgS) Aa<|Ah (p:=Ao ve 4) (.inr Z) al Bl Z ((a7 _<|a0.sub<|B6 hgS).ld (i:=4) Fh) Aa<|Ad 1 Z<|Az (v:=al) k CR Bp Z Z b0.rn.isSl Z sD Aa<|Ad 1 Z ?_
  refine AA 169 [] [] [zP g,Ay al k 5,vv] Z Z FQ Aa (IH2 dd6 oM _ (S++F5) g pp dp (n) (s9) (c9) (p) (Ay al k 5) (ex.kids.getD k Ex.zero) vv (env) (fun b hb=>(by rcases zi.1 hb with hb|hb;(have:=hS b hb;omega);exact a3.lt b hb:b<w2.heap.size)) (z8 _ hgS) a1 ((hp.add (F:=F5) (B3<|AQ dp) a3.low).chg (B3<|AQ dp)<|a0.sub<|MB hgS) oM oM oM (RN.ptr (AD dd6) (by decide) Ex.zero ((b0.rn.add (F:=F5) (An<|AD dd6) a3.low).chg (An<|AD dd6)<|a0.sub<|MB hgS) sD) ((henv.add (F:=F5) g2 a3.low).chg g2<|a0.sub<|MB hgS) hqenv hvp oM (by exact FN hwf oM oM) hse oM) ?_
  rintro e8 w8 ⟨v8,x8,s8,c8,rfl,b4,ch,b1,b5,ci,cj,ck⟩
  refine⟨_,rfl,?_⟩
  have cl:=b4.size
  have cm:At [g] w w8:=a0.trans b4
  have b6:=a3.run hgS oM b4
  have cn:=b5.1
  replace b1:RN (S++F5) (B4 rI) w8.heap v8 x8:=b1
  refine BI (u:=v8) (B:=w8.heap.size) BB Bo Bs Z Z (Nu w8.heap.size w8.heap.size _<|b1.one1 g1) (A7 _) Aa fun d3 d4 a8 co b7=>?_
  have bv:=a8.size
  have b8:At [g] w d4:=cm.ext a8
  have af:=ch.ext a8
  have ab:=b6.ext a8
  have b9:=b1.ext g1 a8
  refine DY (v:=vo) (a:=d3) (u:=v8) Bo Bs Z Z Z ab oM b7 b9 sD (by unfold maxLen;first|omega|assumption|(simp;done)|(simp;omega)) Aa ?_
  rintro d5 d6 G17 ag ah ⟨cp,di,cq⟩
  have bw:=ag.size
  have ba:At [g] w d6:=b8.fresh ag (fun c hc=>ab.low c (ah c hc))
  have bb:=af.chg ag fun hm=>by have:=ab.low _ (ah _ hm);have:=ab.lt _ (ah _ hm);omega
  refine Ac 1 Z<|Ab _ [0,0,0] Z<|Ad 1 Z<|AM ((k+1:Nat):Int) Z Z (Ba oM sD) Aa<|Ac 1 Z ?_
  exact⟨(k+1,d5,xs++[x8],s8,c8),_,rfl,zR,⟨ba,bb,sD,(by exact⟨_,_,by assumption⟩),(by rw[z4,zd,hxl]),(by exact CB.snoc hxs (by assumption)),oM,oM,(by exact FO oM hrl (by assumption))⟩,zD⟩
 refine AC false Z Z (A6 bu) Aa<|Aj<|Ai Z<|A4<|Av<|Av<|Aq<|A0<|AW _ [0,0,0,1,0,0,1,0,0,0,1,0,0] mixed (by kernel_rfl) ?_
 have ad:=a3.done hS
 have hfn19c:=a3.cap
 have hvo:=hvp.outs (ex.num).toNat oM
 have hvr:=hvp.par (ex.num).toNat oM
 have hxk:xs.length=ex.kids.length:=by omega
 have hKr:AN (go c0 (Eh n (Gz p n F) ex.kids env s0)) xs s9 c9:=by rw[za oM]at hrl;exact hrl
 refine Ad 1 Z<|AZ Z Aa<|Ak (p:=zP g) 0 SQ Z Z Aa<|Ah (p:=Ao (zP g) 0) (.inl Z) pp TK Z (a1.ldp (i:=0) sM) Aa<|AK (hp.isPtr) Z Aa ?_
 obtain⟨cs20,bc,ao⟩:=RN.at (AQ _) hp
 obtain⟨a4,rfl,a9⟩:=RPr.of bc
 have ae:=a9.lenle
 unfold maxLen at ae
 refine AG (p:=pp) 0 BG Z (ao _<|a0.drew.sub<|B6 hgS) Aa<|Ah (p:=Ao pp 0) (.inl Z) a4 Cb Z ((ao _<|a0.drew.sub<|B6 hgS).ld (i:=0) Fh) Aa<|Ad 1 Z<|AK (hex.isPtr) Z Aa<|AG (p:=ve) 1 BJ Z (a7 _<|a0.drew.sub<|B6 hgS) Aa<|Ah (p:=Ao ve 1) (.inl Z) (zI ex.num) AB Z ((a7 _<|a0.drew.sub<|B6 hgS).ld (i:=1) Fh) Aa ?_
 refine Az (v:=a4) ((ex.num).toNat) Gp CN Z Z a9.isSl oM sD Aa<|Ac 1 Z<|A0<|Z1 [0,0,0,2,0] Z<|Ad 1 Z<|AK (hex.isPtr) Z Aa<|AG (p:=ve) 0 Bg Z (a7 _<|a0.drew.sub<|B6 hgS) Aa<|Ah (p:=Ao ve 0) (.inr Z) (zI ex.kind) AB Z ((a7 _<|a0.drew.sub<|B6 hgS).ld (i:=0) Fh) Aa ?_
 by_cases ap:ex.kind=((10:Nat):Int)
 ·refine Al true Z Z (A5 ap) Aa<|Aj<|Af Z<|A0<|AW _ [0,0,0,0,1,0,0,0,1,0,0,4,0] mixed (by kernel_rfl)<|Ad 2 Z ?_
  have hvd:=hvp.deep (ex.num).toNat oM (ex.pick).toNat oM
  refine AK (RN.isPtr<|RN.ptr (AH dp) (by decide) Fn.zero a9 sD) Z Aa ?_
  obtain⟨cs22,bd,aq⟩:=a9.get (AH dp) Fn.zero (k:=(ex.num).toNat) sD
  obtain⟨ac,rfl,ai⟩:=RF.of bd
  have ar:=ai.rn.lenle
  unfold maxLen at ar
  refine AG (p:=Ay a4 ((ex.num).toNat) 3) 2 BU Z (aq _<|a0.drew.drew.sub<|B6 hgS) Aa<|Ah (p:=Ao (Ay a4 ((ex.num).toNat) 3) 2) (.inl Z) ac Bl Z ((aq _<|a0.drew.drew.sub<|B6 hgS).ld (i:=2) Fh) Aa<|Ad 1 Z<|AK (hex.isPtr) Z Aa<|AG (p:=ve) 2 De Z (a7 _<|a0.drew.drew.sub<|B6 hgS) Aa<|Ah (p:=Ao ve 2) (.inl Z) (zI ex.pick) AB Z ((a7 _<|a0.drew.drew.sub<|B6 hgS).ld (i:=2) Fh) Aa ?_
  refine Az (v:=ac) ((ex.pick).toNat) CR Bp Z Z ai.rn.isSl oM sD Aa<|Ad 1 Z ?_
  refine AA 169 [] [] [zP g,Ay ac ((ex.pick).toNat) 5,vo] Z Z FQ Aa (IH1 (ex.num).toNat oM dp _ S g pp dp (n) (s9) (c9) (p) (Ay ac ((ex.pick).toNat) 5) (((p.getD ((ex.num).toNat) Fn.zero).outs).getD ((ex.pick).toNat) Ex.zero) vo (xs) (fun b hb=>(by have:=hS b hb;omega:b<w2.heap.size)) hgS a1 (hp.chg (B3<|AQ dp)<|a0.drew.drew.sub<|B6 hgS) oM oM oM (RN.ptr (AD dp) (by decide) Ex.zero (ai.rn.chg (An<|AD dp)<|a0.drew.drew.sub<|B6 hgS) sD) ad hfn19c hvp oM (by have h9:=hvp.wf (ex.num).toNat oM (ex.pick).toNat oM;rw[show(xs.length:Int)=(p.getD (ex.num).toNat Fn.zero).params from by omega];exact h9) hxs oM) ?_
  rintro dj d7 ⟨d2,d8,da,db,rfl,a5,be,bf,au,bx,bz,c2⟩
  refine⟨_,rfl,?_⟩
  replace a5:=a5.of_drew
  replace a5:=a5.of_drew
  have c3:=a5.size
  have bg:At [g] w d7:=a0.trans a5
  have cr:=ad.run g2 hgS a5
  have c4:=au.1
  exact Ac 1 Z<|A1<|Am<|Ag [6] Z d2 Z ⟨d2,d8,da,db,rfl,bg,be,bf,(by first|assumption|exact hks _ oM),oM,oM,Rc⟩
 refine Al false Z Z (A6 ap) Aa<|Aj<|Ai Z<|A2<|A0<|Z1 [0] Z ?_
 have bh:ex.kind=11:=by have h9:ex.kind=10∨ex.kind=11:=hkH;omega
 have hwl:=NO hwf bh
 refine Ac 1 Z<|A3 ?_
 refine AV (S:=Nat×Value×List (Sr)×Nat×Int) (fun⟨i,vk,ks,s8,c8⟩=>([(7,vk),(10,zI (i:Int)),(0,zP g),(1,ve),(9,Ay a4 ((ex.num).toNat) 3)])) (fun⟨i,vk,ks,s8,c8⟩ W=>At [g] w W∧BX W.heap g [pp,zI (n:Int),zI (s8:Int),zI c8]∧i≤(ex.count).toNat∧RN S (B4<|B4 rI) W.heap vk ks∧CD vk∧ks.length=(p.getD (ex.num).toNat Fn.zero).outs.length∧CB n ks∧s8≤3000∧(0≤c8∧c8≤9)∧AN (go c9<|P5 (fun a t=>Eh n (Gz p n (ex.num).toNat) (p.getD (ex.num).toNat Fn.zero).outs a t) i xs s9) ks s8 c8) (fun⟨i,vk,ks,s8,c8⟩=>(ex.count).toNat-i) (0,vo,xs,s9,c9) ⟨rfl,rfl,rfl,rfl,rfl,trivial⟩ ⟨a0.drew,a1,oM,(by assumption),(by assumption),oM,(by assumption),oM,oM,(by exact Ql Z)⟩ ?_
 clear a1 a0 b3 an ae
 rintro⟨i,vk,ks,s8,c8⟩ ρ31 d1 ⟨a2,a6,bi,hrk,hck,hkl,hks,bj,bk,hrl9⟩
 have c5:w.heap.size≤d1.heap.size:=a2.size
 have cs:=a6.lt
 refine A0<|Z1 [0,0,0,0,2,0] Z<|Ad 2 Z<|AK (hex.isPtr) Z Aa<|AG (p:=ve) 3 CX Z (a7 _<|a2.sub<|B6 hgS) Aa<|Ah (p:=Ao ve 3) (.inr Z) (zI ex.count) AB Z ((a7 _<|a2.sub<|B6 hgS).ld (i:=3) Fh) Aa ?_
 by_cases av:(i:Int)<ex.count
 ·refine AC true Z Z (A5 av) Aa<|Aj<|Af Z<|A2<|A0<|A3<|Ab _ [0,0,0,4,0] Z<|Ad 3 Z ?_
  refine AA 113 [] [] [zP g,Ay a4 ((ex.num).toNat) 3,vk] Z Z Ts Aa (Rb (ex.num).toNat (fun d9=>IH1 (ex.num).toNat oM d9) _ S g pp dp (n) (s8) (c8) (p) dp (Ay a4 ((ex.num).toNat) 3) (p.getD ((ex.num).toNat) Fn.zero) vk (ks) (fun b hb=>(by have:=hS b hb;omega:b<d1.heap.size)) hgS a6 (hp.chg (B3<|AQ dp)<|a2.sub<|B6 hgS) oM oM oM (RN.ptr (AH dp) (by decide) Fn.zero (a9.chg (An<|AH dp)<|a2.sub<|B6 hgS) sD) hrk hck hvp oM (by intro k9 ay;have h9:=hvp.wf (ex.num).toNat oM k9 ay;rw[show(ks.length:Int)=(p.getD (ex.num).toNat Fn.zero).params from by omega];exact h9) hks (by intro k9 ay;have:=hvp.deep (ex.num).toNat oM k9 ay;omega) oM) ?_
  rintro dk dc ⟨dd,de,df,dg,rfl,aj,bl,ct,aa,c6,c7,ca⟩
  refine⟨_,rfl,?_⟩
  have cb:=aj.size
  have bm:At [g] w dc:=a2.trans aj
  have cu:=hrk.run g2 hgS aj
  have cc:=aa.2.1
  have cd:=aa.2.2
  have ce:=aa.1
  exact Ac 1 Z<|Ab _ [0,0,0] Z<|Ad 1 Z<|AM ((i+1:Nat):Int) Z Z (Ba oM oM) Aa<|Ac 1 Z ⟨(i+1,dd,de,df,dg),_,rfl,zR,⟨bm,bl,oM,(by assumption),(by assumption),oM,(by assumption),oM,oM,(by exact Qk hrl9 (by assumption))⟩,zD⟩
 refine AC false Z Z (A6 av) Aa<|Aj<|Ai Z<|A4<|Av<|Av<|Aq<|Z1 [0,0,0,0,2,0,2,0] Z<|Ad 2 Z<|AK (hex.isPtr) Z Aa<|AG (p:=ve) 2 De Z (a7 _<|a2.sub<|B6 hgS) Aa<|Ah (p:=Ao ve 2) (.inr Z) (zI ex.pick) AB Z ((a7 _<|a2.sub<|B6 hgS).ld (i:=2) Fh) Aa ?_
 refine Az (v:=vk) ((ex.pick).toNat) Bo Bs Z Z hrk.slL oM sD Aa ?_
 obtain⟨ak,bn,aw⟩:=RN.getL (w:=d1) g1 [] (k:=(ex.pick).toNat) hrk sD
 have ax:=aw.lenL
 unfold maxLen at ax
 exact Ah (p:=Ay vk ((ex.pick).toNat) 1) (.inr Z) ak BA Z (bn _<|At.refl _ _) Aa<|Ac 1 Z<|A1<|Ag [6] Z ak Z ⟨ak,ks.getD ((ex.pick).toNat) [],s8,c8,rfl,a2,a6,aw,(by first|assumption|exact hks _ oM),oM,oM,Rc⟩
theorem Re (F d:Nat)(IH1:∀F',F'<F→∀d,SV F' d)(IH2:∀d',d'<d→SV F d'):SC F d:=by
 intro w S g pp dp n s0 c0 p ve ex vv env hS hgS a0 hp hn a1 a2 hex henv hqenv hvp hF hwf hse hdp hk
 exact H5 w S F g pp dp n s0 c0 p d ve ex vv env hS hgS a0 hp hn a1 a2 hex henv hqenv hvp hF hwf hse hdp hk IH1 IH2
theorem Rf {p:Prop}(h:p:=by first|exact RU hc00 hs1 oM oM ‹AN (go c0 (Em _ _ (ex.kids.getD 0 _) _ _)) _ _ _› oM (by assumption)|exact RV hc00 hs1 oM oM ‹AN (go c0 (Em _ _ (ex.kids.getD 0 _) _ _)) _ _ _› oM (by assumption)):p:=h
theorem Lo {p:Prop}(h:p:=by have:=DF (l:=ex.kids) (k:=0) oM;omega):p:=h
theorem H6 {p:Prop}(h:p:=by exact FN hwf oM oM):p:=h
theorem Dh {p:Prop}(h:p:=by simp[Ef,Eg]):p:=h
theorem H7 (w:World)(S:List Nat)(F:Nat)(g:Nat)(pp:Value)(dp n s0:Nat)(c0:Int)(p:List Fn)(dex:Nat)(ve:Value)(ex:Ex)(vv:Value)(env:List (Sr))(hS:∀b∈S,b<w.heap.size)(hgS:g∈S)(b0:BX w.heap g [pp,zI (n:Int),zI (s0:Int),zI c0])(hp:RN S (rP (IJ dp)) w.heap pp p)(hn:1≤n∧n≤13)(j2:s0≤3000)(j3:0≤c0∧c0≤9)(hex:RN S (rP (KO dex)) w.heap ve ex)(henv:RN S (B4 (B4 rI)) w.heap vv env)(hqenv:CD vv)(hvp:Lv p)(hF:F≤p.length)(hwf:wf p (F:Int) ex (env.length:Int)=true)(hse:CB n env)(hdp:env.length+ex.deep≤1000000)(IH1:∀F',F'<F→∀d,SV F' d)(IH2:∀d',d'<dex→SV F d') :
  Calls Tryz.prog 169 #[zP g,ve,vv] w (fun e w'=>∃(v:Value) (x:Sr) (s1:Nat) (c1:Int),e=.returned v∧At [g] w w'∧BX w'.heap g [pp,zI (n:Int),zI (s1:Int),zI c1]∧RN S (B4 rI) w'.heap v x∧Ct n x∧s1≤3000∧(0≤c1∧c1≤9)∧AN (go c0 (Em n (Gz p n F) ex env s0)) x s1 c1):=by
 refine Ap [zP g,ve,vv] 186 Tryz.func169 Z Z sM ?_
 have bk:At [g] w w:=At.refl [g] w
 have f5:=henv.lenL
 unfold maxLen at f5
 have k9:=b0.lt
 have hdk:=Dr ex
 refine Z2 Z<|A0<|Z1 [0,0,0,2,0] Z<|Ad 1 Z<|AZ Z Aa<|Ak (p:=zP g) 3 Fe Z Z Aa<|Ah (p:=Ao (zP g) 3) (.inr Z) (zI c0) AB Z (b0.ldp (i:=3) sM) Aa ?_
 by_cases e8:c0≠((0:Nat):Int)
 ·refine B5 true Z Z (A5 e8) Aa<|Aj<|Af Z<|Z1 [0,0,0,0,2,4,0] Z<|Ad 2 Z<|AZ Z Aa<|Ak (p:=zP g) 3 Fe Z Z Aa<|Ah (p:=Ao (zP g) 3) (.inr Z) (zI c0) AB Z (b0.ldp (i:=3) sM) Aa<|AA 205 [] [] [zP g,zI c0] Z Z Oo Aa (Cv _ S g pp dp (n) (s0) (c0) (p) (c0) (fun b hb=>(by have:=hS b hb;omega:b<w.heap.size)) hgS b0 (hp.chg (B3<|AQ dp)<|bk.sub<|B6 hgS) oM oM oM oM oM) ?_
  rintro e2 w2 ⟨v2,x2,s2,c2,rfl,e9,i9,ia,d1,ib,ic,bl⟩
  refine⟨_,rfl,?_⟩
  have id:=e9.size
  have ie:At [g] w w2:=bk.trans e9
  have ig:=d1.1
  have hfs:=bl.1
  have hff:=bl.2
  exact Ac 1 Z<|A1<|Am<|Ag [6] Z v2 Z ⟨v2,x2,s2,c2,rfl,ie,i9,ia,(by assumption),oM,oM,(by rw[hff,if_neg oM];exact PT oM)⟩
 refine B5 false Z Z (A6 e8) Aa<|Aj<|Ai Z<|A2<|A0<|Z1 [0,0,0,2,0] Z<|Ad 1 Z<|AZ Z Aa<|Ak (p:=zP g) 2 IW Z Z Aa<|Ah (p:=Ao (zP g) 2) (.inr Z) (zI (s0:Int)) AB Z (b0.ldp (i:=2) sM) Aa ?_
 by_cases ea:(s0:Int)=((3000:Nat):Int)
 ·refine Al true Z Z (A5 ea) Aa<|Aj<|Af Z<|Z1 [0,4,0] Z<|Ad 1 Z<|AA 205 [] [] [zP g,zI ((7:Nat):Int)] Z Z Oo Aa (Cv _ S g pp dp (n) (s0) (c0) (p) ((7:Nat):Int) (fun b hb=>(by have:=hS b hb;omega:b<w.heap.size)) hgS b0 (hp.chg (B3<|AQ dp)<|bk.sub<|B6 hgS) oM oM oM oM oM) ?_
  rintro e7 w7 ⟨v7,x7,s7,c7,rfl,eb,ih,ii,d2,ij,ik,bm⟩
  refine⟨_,rfl,?_⟩
  have il:=eb.size
  have im:At [g] w w7:=bk.trans eb
  have io:=d2.1
  have hfs:=bm.1
  have hff:=bm.2
  exact Ac 1 Z<|A1<|Am<|Ag [6] Z v7 Z ⟨v7,x7,s7,c7,rfl,im,ih,ii,(by assumption),oM,oM,(by rw[hff,if_pos oM];exact MJ oM oM)⟩
 refine Al false Z Z (A6 ea) Aa<|Aj<|Ai Z<|A2<|Z1 [0,0,0,2,0,0,0,4] Z<|Ad 1 Z<|AZ Z Aa<|Ak (p:=zP g) 2 IW Z Z Aa<|Ah (p:=Ao (zP g) 2) (.inr Z) (zI (s0:Int)) AB Z (b0.ldp (i:=2) sM) Aa<|AM ((s0+1:Nat):Int) Z Z (Ba oM oM) Aa<|AZ Z Aa<|Ak (p:=zP g) 2 IW Z Z Aa (Bi (k:=2) (w:=w) GD Z Z ⟨rfl,rfl⟩ b0 sM Aa fun f0 bn ip a7=>?_)
 replace a7:BX f0.heap g [pp,zI (n:Int),zI ((s0+1:Nat):Int),zI c0]:=a7
 have a0:At [g] w f0:=bk.trans bn
 have ec:=bn.size
 refine Aj<|A0<|Z1 [0,0,0,2] Z ?_
 have hc00:c0=0:=by omega
 have hs1:s0+1≤3000:=by omega
 refine Ad 1 Z<|AK (hex.isPtr) Z Aa ?_
 obtain⟨cs12,d3,a2⟩:=RN.at (AD _) hex
 obtain⟨dd12,a1,iq,rfl,a3⟩:=RX.of d3
 have bo:=a3.rn.lenle
 unfold maxLen at bo
 refine AG (p:=ve) 0 Bg Z (a2 _<|a0.sub<|B6 hgS) Aa<|Ah (p:=Ao ve 0) (.inr Z) (zI ex.kind) AB Z ((a2 _<|a0.sub<|B6 hgS).ld (i:=0) Dh) Aa<|Aj<|A3<|Z1 [0,0] Z ?_
 by_cases bp:ex.kind=((1:Nat):Int)
 ·refine Al true Z Z (A5 bp) Aa<|Ac 1 Z<|Af Z<|A0<|AW _ [0,0,0,1,0,0,0,1,3,0] mixed (by kernel_rfl) ?_
  have hwk:=PO hwf oM
  refine Ad 1 Z<|AK (hex.isPtr) Z Aa<|AG (p:=ve) 1 BJ Z (a2 _<|a0.drew.sub<|B6 hgS) Aa<|Ah (p:=Ao ve 1) (.inl Z) (zI ex.num) AB Z ((a2 _<|a0.drew.sub<|B6 hgS).ld (i:=1) Dh) Aa<|Ad 1 Z<|AZ Z Aa<|Ak (p:=zP g) 1 Lh Z Z Aa<|Ah (p:=Ao (zP g) 1) (.inl Z) (zI (n:Int)) JX Z (a7.ldp (i:=1) sM) Aa ?_
  refine Au 206 [] [] [zI ex.num,zI (n:Int)] Z Z QS Aa (DK _ _ (n) a3.rng.num sD oM) ?_
  rintro ka fx ⟨b1,rfl,ae,aa⟩
  refine⟨_,rfl,ae,?_⟩
  replace ae:=ae.of_drew
  have ed:=ae.size
  have d4:At [g] w fx:=a0.ext ae
  have an:=a7.ext ae
  replace aa:=aa.low (B':=f0.heap.size)<|A7 _
  exact Ac 1 Z<|A1<|AF<|Am<|Ag [6] Z b1 Z ⟨b1,Lu n ex.num,s0+1,c0,rfl,d4,an,RN.of_fr1 aa fun b hb=>zH<|hS b hb,(by exact Gc (Ch.2 oM)),oM,oM,(by exact RR hc00 hs1 oM)⟩
 refine Al false Z Z (A6 bp) Aa<|Ac 1 Z<|Ai Z<|Z1 [0,0] Z ?_
 by_cases bq:ex.kind=((2:Nat):Int)
 ·refine Al true Z Z (A5 bq) Aa<|Ac 1 Z<|Af Z<|Z1 [0,0,0,0,2,0,2,0] Z ?_
  have hwk:=PP hwf oM
  refine Ad 2 Z<|AK (hex.isPtr) Z Aa<|AG (p:=ve) 1 BJ Z (a2 _<|a0.sub<|B6 hgS) Aa<|Ah (p:=Ao ve 1) (.inr Z) (zI ex.num) AB Z ((a2 _<|a0.sub<|B6 hgS).ld (i:=1) Dh) Aa<|Az (v:=vv) ((ex.num).toNat) Bo Bs Z Z henv.slL oM sD Aa ?_
  obtain⟨ba,d5,br⟩:=RN.getL (w:=w) g1 [] (k:=(ex.num).toNat) henv sD
  have bs:=br.lenL
  unfold maxLen at bs
  exact Ah (p:=Ay vv ((ex.num).toNat) 1) (.inr Z) ba BA Z (d5 _<|a0.sub<|B6 hgS) Aa<|Ac 1 Z<|A1<|AF<|Am<|Ag [6] Z ba Z ⟨ba,env.getD ((ex.num).toNat) [],s0+1,c0,rfl,a0,a7,br.chg g1<|a0.sub<|B6 hgS,(by exact hse _ oM),oM,oM,(by exact RS hc00 hs1 oM)⟩
 refine Al false Z Z (A6 bq) Aa<|Ac 1 Z<|Ai Z<|Z1 [0,0] Z ?_
 by_cases bt:ex.kind=((7:Nat):Int)
 ·refine Al true Z Z (A5 bt) Aa<|Ac 1 Z<|Af Z<|Z1 [0,0,0,0,2,0,0,4,3,0] Z ?_
  have hwk:=PR hwf oM
  refine Ad 2 Z<|AK (hex.isPtr) Z Aa<|AG (p:=ve) 4 Bc Z (a2 _<|a0.sub<|B6 hgS) Aa<|Ah (p:=Ao ve 4) (.inr Z) a1 Bl Z ((a2 _<|a0.sub<|B6 hgS).ld (i:=4) Dh) Aa<|Az (v:=a1) 0 CR Bp Z Z a3.rn.isSl Z sD Aa<|Ad 1 Z ?_
  refine AA 169 [] [] [zP g,Ay a1 0 5,vv] Z Z FQ Aa (IH2 dd12 oM _ S g pp dp (n) (s0+1) (c0) (p) (Ay a1 0 5) (ex.kids.getD 0 Ex.zero) vv (env) (fun b hb=>(by have:=hS b hb;omega:b<f0.heap.size)) hgS a7 (hp.chg (B3<|AQ dp)<|a0.sub<|B6 hgS) oM oM oM (RN.ptr (AD dd12) (by decide) Ex.zero (a3.rn.chg (An<|AD dd12)<|a0.sub<|B6 hgS) sD) (henv.chg g2<|a0.sub<|B6 hgS) hqenv hvp oM H6 hse Lo) ?_
  rintro kb fy ⟨fz,j8,j9,ja,rfl,bu,d6,bv,bw,ee,ef,eg⟩
  refine⟨_,rfl,?_⟩
  have eh:=bu.size
  have d7:At [g] w fy:=a0.trans bu
  have ei:=bw.1
  refine Au 207 [] [] [fz,zI ((1000002:Nat):Int)] Z Z TF Aa (Fs _ _ _ _ (bv).rd oM oM) ?_
  rintro kc jb ⟨b2,rfl,aj,bb⟩
  refine⟨_,rfl,aj,?_⟩
  have ej:=aj.size
  have d8:At [g] w jb:=d7.ext aj
  have ao:=d6.ext aj
  have ir:=bv.ext g1 aj
  exact Ac 1 Z<|A1<|AF<|Am<|Ag [6] Z b2 Z ⟨b2,IP j8 ((1000002:Nat):Int),j9,ja,rfl,d8,ao,RN.of_fr1 bb fun b hb=>zH<|hS b hb,(by rw[Nl];exact Jb (by assumption)),oM,oM,(by exact EY hc00 hs1 oM (UG oM ‹AN (go c0<|Em _ _ (ex.kids.getD 0 _) _ _) _ _ _›) (fun h0=>by rw[h0,Nl];exact Um oM) (fun _=>rfl))⟩
 refine Al false Z Z (A6 bt) Aa<|Ac 1 Z<|Ai Z<|Z1 [0,0] Z ?_
 by_cases bx:ex.kind=((8:Nat):Int)
 ·refine Al true Z Z (A5 bx) Aa<|Ac 1 Z<|Af Z<|A0<|Z1 [0,0,0,0,2,0,0,4,0,2,0] Z ?_
  have hwk:=T6 hwf oM
  refine Ad 2 Z<|AK (hex.isPtr) Z Aa<|AG (p:=ve) 4 Bc Z (a2 _<|a0.sub<|B6 hgS) Aa<|Ah (p:=Ao ve 4) (.inr Z) a1 Bl Z ((a2 _<|a0.sub<|B6 hgS).ld (i:=4) Dh) Aa<|Az (v:=a1) 0 CR Bp Z Z a3.rn.isSl Z sD Aa<|Ad 1 Z ?_
  refine AA 169 [] [] [zP g,Ay a1 0 5,vv] Z Z FQ Aa (IH2 dd12 oM _ S g pp dp (n) (s0+1) (c0) (p) (Ay a1 0 5) (ex.kids.getD 0 Ex.zero) vv (env) (fun b hb=>(by have:=hS b hb;omega:b<f0.heap.size)) hgS a7 (hp.chg (B3<|AQ dp)<|a0.sub<|B6 hgS) oM oM oM (RN.ptr (AD dd12) (by decide) Ex.zero (a3.rn.chg (An<|AD dd12)<|a0.sub<|B6 hgS) sD) (henv.chg g2<|a0.sub<|B6 hgS) hqenv hvp oM H6 hse Lo) ?_
  rintro kd f7 ⟨fg,fh,fi,fj,rfl,bz,c3,ap,c4,ek,el,en⟩
  refine⟨_,rfl,?_⟩
  have eo:=bz.size
  have a5:At [g] w f7:=a0.trans bz
  have ep:=c4.1
  refine Az (v:=fg) 0 Bm BC Z Z ap.slL Z sD Aa ?_
  have d9:=RN.getI (w:=f7) (k:=0) ap sD
  refine Ah (p:=Ay fg 0 1) (.inr Z) (zI<|fh.getD 0 0) AB Z (d9.1 _<|At.refl _ _) Aa ?_
  by_cases c5:fh.getD 0 0=((0:Nat):Int)
  ·refine Al true Z Z (A5 c5) Aa<|Aj<|Af Z<|Z1 [0,0,0,0,2,0,0,4,0] Z<|Ad 2 Z<|AK (hex.isPtr) Z Aa<|AG (p:=ve) 4 Bc Z (a2 _<|a5.sub<|B6 hgS) Aa<|Ah (p:=Ao ve 4) (.inr Z) a1 Bl Z ((a2 _<|a5.sub<|B6 hgS).ld (i:=4) Dh) Aa<|Az (v:=a1) 1 CR Bp Z Z a3.rn.isSl Z sD Aa ?_
   refine Ad 1 Z ?_
   refine AA 169 [] [] [zP g,Ay a1 1 5,vv] Z Z FQ Aa (IH2 dd12 oM _ S g pp dp (n) (fi) (fj) (p) (Ay a1 1 5) (ex.kids.getD 1 Ex.zero) vv (env) (fun b hb=>(by have:=hS b hb;omega:b<f7.heap.size)) hgS c3 (hp.chg (B3<|AQ dp)<|a5.sub<|B6 hgS) oM oM oM (RN.ptr (AD dd12) (by decide) Ex.zero (a3.rn.chg (An<|AD dd12)<|a5.sub<|B6 hgS) sD) (henv.chg g2<|a5.sub<|B6 hgS) hqenv hvp oM H6 hse (zH<|DF (l:=ex.kids) (k:=1) oM)) ?_
   rintro ke jc ⟨fk,jd,je,jf,rfl,bc,da,db,c6,eq,er,es⟩
   refine⟨_,rfl,?_⟩
   have et:=bc.size
   have dc:At [g] w jc:=a5.trans bc
   have is:=ap.run g1 hgS bc
   have eu:=c6.1
   exact Ac 1 Z<|A1<|Am<|AF<|Am<|Ag [6] Z fk Z ⟨fk,jd,je,jf,rfl,dc,da,db,(by assumption),oM,oM,Rf⟩
  refine Al false Z Z (A6 c5) Aa<|Aj<|Ai Z<|A2<|Z1 [0,0,0,0,2,0,0,4,0] Z<|Ad 2 Z<|AK (hex.isPtr) Z Aa<|AG (p:=ve) 4 Bc Z (a2 _<|a5.sub<|B6 hgS) Aa<|Ah (p:=Ao ve 4) (.inr Z) a1 Bl Z ((a2 _<|a5.sub<|B6 hgS).ld (i:=4) Dh) Aa ?_
  refine Az (v:=a1) 2 CR Bp Z Z a3.rn.isSl Z sD Aa<|Ad 1 Z ?_
  refine AA 169 [] [] [zP g,Ay a1 2 5,vv] Z Z FQ Aa (IH2 dd12 oM _ S g pp dp (n) (fi) (fj) (p) (Ay a1 2 5) (ex.kids.getD 2 Ex.zero) vv (env) (fun b hb=>(by have:=hS b hb;omega:b<f7.heap.size)) hgS c3 (hp.chg (B3<|AQ dp)<|a5.sub<|B6 hgS) oM oM oM (RN.ptr (AD dd12) (by decide) Ex.zero (a3.rn.chg (An<|AD dd12)<|a5.sub<|B6 hgS) sD) (henv.chg g2<|a5.sub<|B6 hgS) hqenv hvp oM H6 hse (zH<|DF (l:=ex.kids) (k:=2) oM)) ?_
  rintro kf jg ⟨fl,jh,ji,jj,rfl,bd,dd,de,c8,ev,ew,ey⟩
  refine⟨_,rfl,?_⟩
  have ez:=bd.size
  have df:At [g] w jg:=a5.trans bd
  have it:=ap.run g1 hgS bd
  have g0:=c8.1
  exact Ac 1 Z<|A1<|AF<|Am<|Ag [6] Z fl Z ⟨fl,jh,ji,jj,rfl,df,dd,de,(by assumption),oM,oM,Rf⟩
 refine Al false Z Z (A6 bx) Aa<|Ac 1 Z<|Ai Z<|Z1 [0,0] Z ?_
 by_cases c9:ex.kind=((9:Nat):Int)
 ·refine Al true Z Z (A5 c9) Aa<|Ac 1 Z<|Af Z<|Z1 [0,0,0,0,2,0,0,4,0] Z ?_
  have hwk:=PQ hwf oM
  refine Ad 2 Z<|AK (hex.isPtr) Z Aa<|AG (p:=ve) 4 Bc Z (a2 _<|a0.sub<|B6 hgS) Aa<|Ah (p:=Ao ve 4) (.inr Z) a1 Bl Z ((a2 _<|a0.sub<|B6 hgS).ld (i:=4) Dh) Aa<|Az (v:=a1) 0 CR Bp Z Z a3.rn.isSl Z sD Aa<|Ad 1 Z ?_
  refine AA 169 [] [] [zP g,Ay a1 0 5,vv] Z Z FQ Aa (IH2 dd12 oM _ S g pp dp (n) (s0+1) (c0) (p) (Ay a1 0 5) (ex.kids.getD 0 Ex.zero) vv (env) (fun b hb=>(by have:=hS b hb;omega:b<f0.heap.size)) hgS a7 (hp.chg (B3<|AQ dp)<|a0.sub<|B6 hgS) oM oM oM (RN.ptr (AD dd12) (by decide) Ex.zero (a3.rn.chg (An<|AD dd12)<|a0.sub<|B6 hgS) sD) (henv.chg g2<|a0.sub<|B6 hgS) hqenv hvp oM H6 hse Lo) ?_
  rintro kg fm ⟨fo,fp,jk,jl,rfl,ca,dg,cb,cc,g3,g4,g5⟩
  refine⟨_,rfl,?_⟩
  have g6:=ca.size
  have aq:At [g] w fm:=a0.trans ca
  have g7:=cc.1
  refine Ac 1 Z<|A0<|AW _ [0,0,0,0,1,0,0,0,3,4,0] mixed (by kernel_rfl)<|Ad 2 Z<|AK (hex.isPtr) Z Aa<|AG (p:=ve) 4 Bc Z (a2 _<|aq.drew.sub<|B6 hgS) Aa<|Ah (p:=Ao ve 4) (.inl Z) a1 Bl Z ((a2 _<|aq.drew.sub<|B6 hgS).ld (i:=4) Dh) Aa<|Az (v:=a1) 1 CR Bp Z Z a3.rn.isSl Z sD Aa<|Ad 2 Z ?_
  refine Au 208 [] [] [vv,fo] Z Z Xv Aa (K9 _ S vv (env) fo (fp) (fun b hb=>(by have:=hS b hb;omega:b<fm.heap.size)) (henv.chg g2<|aq.drew.sub<|B6 hgS) hqenv cb oM) ?_
  rintro kh fq ⟨fr,rfl,ab,cd,ce⟩
  refine⟨_,rfl,ab,?_⟩
  replace ab:=ab.of_drew
  have g8:=ab.size
  have be:At [g] w fq:=aq.ext ab
  have ar:=dg.ext ab
  have dh:=cb.ext g1 ab
  refine AA 169 [] [] [zP g,Ay a1 1 5,fr] Z Z FQ Aa (IH2 dd12 oM _ S g pp dp (n) (jk) (jl) (p) (Ay a1 1 5) (ex.kids.getD 1 Ex.zero) fr (env++[fp]) (fun b hb=>(by have:=hS b hb;omega:b<fq.heap.size)) hgS ar (hp.chg (B3<|AQ dp)<|be.sub<|B6 hgS) oM oM oM (RN.ptr (AD dd12) (by decide) Ex.zero (a3.rn.chg (An<|AD dd12)<|be.sub<|B6 hgS) sD) cd ce hvp oM (by have h9:=MI hwf oM oM;rw[z4,zd];exact h9) (by exact hse.snoc (by assumption)) (by have:=DF (l:=ex.kids) (k:=1) oM;rw[z4,zd];omega)) ?_
  rintro ki jm ⟨fs,jn,jo,jp,rfl,au,di,dj,cf,g9,ga,gb⟩
  refine⟨_,rfl,?_⟩
  have gc:=au.size
  have dk:At [g] w jm:=be.trans au
  have iu:=dh.run g1 hgS au
  have iv:=cd.run g2 hgS au
  have gd:=cf.1
  exact Ac 1 Z<|A1<|AF<|Am<|Ag [6] Z fs Z ⟨fs,jn,jo,jp,rfl,dk,di,dj,(by assumption),oM,oM,(by exact RW hc00 hs1 oM oM ‹AN (go c0<|Em _ _ (ex.kids.getD 0 _) _ _) _ _ _› (by assumption))⟩
 refine Al false Z Z (A6 c9) Aa<|Ac 1 Z<|Ai Z<|A0<|Z1 [0,0] Z ?_
 by_cases cg:ex.kind=((10:Nat):Int)
 ·refine Al true Z Z (A5 cg) Aa<|Ac 1 Z<|Af Z<|A2<|Af Z<|Z1 [0,0,0,4,0] Z<|Ad 3 Z<|AA 209 [] [] [zP g,ve,vv] Z Z TG Aa (Re F dex IH1 IH2 _ S g pp dp (n) (s0+1) (c0) (p) ve (ex) vv (env) (fun b hb=>(by have:=hS b hb;omega:b<f0.heap.size)) hgS a7 (hp.chg (B3<|AQ dp)<|a0.sub<|B6 hgS) oM oM oM (hex.chg (B3<|AD dex)<|a0.sub<|B6 hgS) (henv.chg g2<|a0.sub<|B6 hgS) hqenv hvp oM hwf hse oM oM) ?_
  rintro kj jq ⟨ft,jr,js,jt,rfl,ch,dl,dm,ci,ge,gf,gg⟩
  refine⟨_,rfl,?_⟩
  have gh:=ch.size
  have dn:At [g] w jq:=a0.trans ch
  have gi:=ci.1
  exact Ac 1 Z<|A1<|AF<|Am<|Ag [6] Z ft Z ⟨ft,jr,js,jt,rfl,dn,dl,dm,(by assumption),oM,oM,(by exact Ku hc00 hs1 oM (by assumption))⟩
 refine Al false Z Z (A6 cg) Aa<|Ac 1 Z<|Ai Z<|Ab _ [0,0] Z ?_
 by_cases cj:ex.kind=((11:Nat):Int)
 ·refine Al true Z Z (A5 cj) Aa<|Ac 1 Z<|Af Z<|Z1 [0,0,0,4,0] Z<|Ad 3 Z<|AA 209 [] [] [zP g,ve,vv] Z Z TG Aa (Re F dex IH1 IH2 _ S g pp dp (n) (s0+1) (c0) (p) ve (ex) vv (env) (fun b hb=>(by have:=hS b hb;omega:b<f0.heap.size)) hgS a7 (hp.chg (B3<|AQ dp)<|a0.sub<|B6 hgS) oM oM oM (hex.chg (B3<|AD dex)<|a0.sub<|B6 hgS) (henv.chg g2<|a0.sub<|B6 hgS) hqenv hvp oM hwf hse oM oM) ?_
  rintro kk ju ⟨fu,jv,jw,jx,rfl,ck,dq,dr,cl,gj,gk,gl⟩
  refine⟨_,rfl,?_⟩
  have gm:=ck.size
  have ds:At [g] w ju:=a0.trans ck
  have gn:=cl.1
  exact Ac 1 Z<|A1<|AF<|Am<|Ag [6] Z fu Z ⟨fu,jv,jw,jx,rfl,ds,dq,dr,(by assumption),oM,oM,(by exact Ku hc00 hs1 oM (by assumption))⟩
 refine Al false Z Z (A6 cj) Aa<|Ac 1 Z<|Ai Z<|A2<|Z1 [0,0,0,0,2,0,0,4,0] Z ?_
 have hkk:ex.kind=3∨ex.kind=4∨ex.kind=5∨ex.kind=6:=Ug hwf oM
 have j4:ex.kids.length=2:=PS hwf hkk
 have j5:=DF (l:=ex.kids) (k:=0) oM
 have j6:=DF (l:=ex.kids) (k:=1) oM
 refine Ad 2 Z<|AK (hex.isPtr) Z Aa<|AG (p:=ve) 4 Bc Z (a2 _<|a0.sub<|B6 hgS) Aa<|Ah (p:=Ao ve 4) (.inr Z) a1 Bl Z ((a2 _<|a0.sub<|B6 hgS).ld (i:=4) Dh) Aa<|Az (v:=a1) 0 CR Bp Z Z a3.rn.isSl Z sD Aa<|Ad 1 Z ?_
 refine AA 169 [] [] [zP g,Ay a1 0 5,vv] Z Z FQ Aa (IH2 dd12 oM _ S g pp dp (n) (s0+1) (c0) (p) (Ay a1 0 5) (ex.kids.getD 0 Ex.zero) vv (env) (fun b hb=>(by have:=hS b hb;omega:b<f0.heap.size)) hgS a7 (hp.chg (B3<|AQ dp)<|a0.sub<|B6 hgS) oM oM oM (RN.ptr (AD dd12) (by decide) Ex.zero (a3.rn.chg (An<|AD dd12)<|a0.sub<|B6 hgS) sD) (henv.chg g2<|a0.sub<|B6 hgS) hqenv hvp oM H6 hse Lo) ?_
 rintro kl fv ⟨f8,f9,jy,jz,rfl,cm,dt,du,b3,gp,gq,cn⟩
 refine⟨_,rfl,?_⟩
 have gr:=cm.size
 have af:At [g] w fv:=a0.trans cm
 have gs:=b3.1
 have hra:=cn
 have co:=b3
 refine Ac 1 Z<|Z1 [0,0,0,0,2,0,0,4,0] Z<|Ad 2 Z<|AK (hex.isPtr) Z Aa<|AG (p:=ve) 4 Bc Z (a2 _<|af.sub<|B6 hgS) Aa<|Ah (p:=Ao ve 4) (.inr Z) a1 Bl Z ((a2 _<|af.sub<|B6 hgS).ld (i:=4) Dh) Aa<|Az (v:=a1) 1 CR Bp Z Z a3.rn.isSl Z sD Aa<|Ad 1 Z ?_
 refine AA 169 [] [] [zP g,Ay a1 1 5,vv] Z Z FQ Aa (IH2 dd12 oM _ S g pp dp (n) (jy) (jz) (p) (Ay a1 1 5) (ex.kids.getD 1 Ex.zero) vv (env) (fun b hb=>(by have:=hS b hb;omega:b<fv.heap.size)) hgS dt (hp.chg (B3<|AQ dp)<|af.sub<|B6 hgS) oM oM oM (RN.ptr (AD dd12) (by decide) Ex.zero (a3.rn.chg (An<|AD dd12)<|af.sub<|B6 hgS) sD) (henv.chg g2<|af.sub<|B6 hgS) hqenv hvp oM H6 hse (zH<|DF (l:=ex.kids) (k:=1) oM)) ?_
 rintro km fa ⟨f3,f1,f4,f2,rfl,bf,ac,a6,b4,gt,gu,cp⟩
 refine⟨_,rfl,?_⟩
 have gv:=bf.size
 have a4:At [g] w fa:=af.trans bf
 have a8:=du.run g1 hgS bf
 have cq:=b4.1
 have hrb:=cp
 have j7:=b4
 have hlb:=cq
 have hzz:f1.getD 0 0=0∨¬f1.getD 0 0=0:=Decidable.em _
 refine Ac 1 Z<|A0<|A3<|Z1 [0,0,0,2,0,0] Z<|Ad 1 Z<|AK (hex.isPtr) Z Aa<|AG (p:=ve) 0 Bg Z (a2 _<|a4.sub<|B6 hgS) Aa<|Ah (p:=Ao ve 0) (.inr Z) (zI ex.kind) AB Z ((a2 _<|a4.sub<|B6 hgS).ld (i:=0) Dh) Aa ?_
 by_cases cr:ex.kind=((3:Nat):Int)
 ·refine Al true Z Z (A5 cr) Aa<|Ac 1 Z<|Af Z<|Z1 [0,0,3,0] Z<|Ad 2 Z<|Au 210 [] [] [f8,f3] Z Z TH Aa (GG _ _ _ _ _ (a8).rd (a6).rd oM oM) ?_
  rintro ko k0 ⟨b5,rfl,ag,bg⟩
  refine⟨_,rfl,ag,?_⟩
  have gw:=ag.size
  have dv:At [g] w k0:=a4.ext ag
  have av:=ac.ext ag
  have iw:=a8.ext g1 ag
  have ix:=a6.ext g1 ag
  exact Ac 1 Z<|A1<|AF<|Am<|Ag [6] Z b5 Z ⟨b5,Ea f9 f1,f4,f2,rfl,dv,av,RN.of_fr1 bg fun b hb=>zH<|hS b hb,(by exact HC co),oM,oM,(by exact EY hc00 hs1 oM (Ic oM hra hrb) (fun h0=>by rw[h0];exact Uj oM) (fun _=>rfl))⟩
 refine Al false Z Z (A6 cr) Aa<|Ac 1 Z<|Ai Z<|Z1 [0,0,0,2,0,0] Z<|Ad 1 Z<|AK (hex.isPtr) Z Aa<|AG (p:=ve) 0 Bg Z (a2 _<|a4.sub<|B6 hgS) Aa<|Ah (p:=Ao ve 0) (.inr Z) (zI ex.kind) AB Z ((a2 _<|a4.sub<|B6 hgS).ld (i:=0) Dh) Aa ?_
 by_cases cs:ex.kind=((4:Nat):Int)
 ·refine Al true Z Z (A5 cs) Aa<|Ac 1 Z<|Af Z<|Z1 [0,0,3,0] Z<|Ad 2 Z<|Au 211 [] [] [f8,f3] Z Z Xw Aa (K6 _ _ _ _ _ (a8).rd (a6).rd oM oM oM) ?_
  rintro kp k1 ⟨b6,rfl,ah,bh⟩
  refine⟨_,rfl,ah,?_⟩
  have gx:=ah.size
  have dw:At [g] w k1:=a4.ext ah
  have aw:=ac.ext ah
  have iy:=a8.ext g1 ah
  have iz:=a6.ext g1 ah
  exact Ac 1 Z<|A1<|AF<|Am<|Ag [6] Z b6 Z ⟨b6,Hz f9 f1,f4,f2,rfl,dw,aw,RN.of_fr1 bh fun b hb=>zH<|hS b hb,(by exact LU co),oM,oM,(by exact EY hc00 hs1 oM (Ic oM hra hrb) (fun h0=>by rw[h0];exact Uk oM) (fun _=>rfl))⟩
 refine Al false Z Z (A6 cs) Aa<|Ac 1 Z<|Ai Z<|Z1 [0,0,0,2,0,0] Z<|Ad 1 Z<|AK (hex.isPtr) Z Aa<|AG (p:=ve) 0 Bg Z (a2 _<|a4.sub<|B6 hgS) Aa<|Ah (p:=Ao ve 0) (.inr Z) (zI ex.kind) AB Z ((a2 _<|a4.sub<|B6 hgS).ld (i:=0) Dh) Aa ?_
 by_cases ct:ex.kind=((5:Nat):Int)
 ·refine Al true Z Z (A5 ct) Aa<|Ac 1 Z<|Af Z<|Z1 [0,0,3,0] Z<|Ad 2 Z<|Au 212 [] [] [f8,f3] Z Z Xx Aa (K7 _ _ _ _ _ (a8).rd (a6).rd oM oM) ?_
  rintro kq k2 ⟨b7,rfl,ai,bi⟩
  refine⟨_,rfl,ai,?_⟩
  have gy:=ai.size
  have dx:At [g] w k2:=a4.ext ai
  have ax:=ac.ext ai
  have j0:=a8.ext g1 ai
  have j1:=a6.ext g1 ai
  exact Ac 1 Z<|A1<|AF<|Am<|Ag [6] Z b7 Z ⟨b7,Cs f9 f1,f4,f2,rfl,dx,ax,RN.of_fr1 bi fun b hb=>zH<|hS b hb,(by exact J9 co),oM,oM,(by exact EY hc00 hs1 oM (Ic oM hra hrb) (fun h0=>by rw[h0];exact Ul oM) (fun _=>rfl))⟩
 refine Al false Z Z (A6 ct) Aa<|Ac 1 Z<|Ai Z<|Z1 [0,0,0,2,0,0,0,0,2,0,0,0] Z<|Ad 1 Z<|AZ Z Aa<|Ak (p:=zP g) 3 Fe Z Z Aa<|Ah (p:=Ao (zP g) 3) (.inr Z) (zI f2) AB Z (ac.ldp (i:=3) sM) Aa ?_
 by_cases cu:f2≠((0:Nat):Int)
 ·refine B5 true Z Z (A5 cu) Aa<|Ac 7 Z<|Af Z<|Z1 [0,4,0] Z<|Ad 1 Z<|AA 205 [] [] [zP g,zI ((6:Nat):Int)] Z Z Oo Aa (Cv _ S g pp dp (n) (f4) (f2) (p) ((6:Nat):Int) (fun b hb=>(by have:=hS b hb;omega:b<fa.heap.size)) hgS ac (hp.chg (B3<|AQ dp)<|a4.sub<|B6 hgS) oM oM oM oM oM) ?_
  rintro kr k3 ⟨fw,k4,k5,k6,rfl,ay,dy,dz,cv,gz,i0,b8⟩
  refine⟨_,rfl,?_⟩
  have i1:=ay.size
  have e0:At [g] w k3:=a4.trans ay
  have i2:=a8.run g1 hgS ay
  have i3:=a6.run g1 hgS ay
  have i4:=cv.1
  have hfs:=b8.1
  have hff:=b8.2
  exact Ac 1 Z<|A1<|AF<|Am<|Ag [6] Z fw Z ⟨fw,k4,k5,k6,rfl,e0,dy,dz,(by assumption),oM,oM,(by rw[hfs];exact EY hc00 hs1 oM (Ic oM hra hrb) (fun h0=>absurd h0 oM) (fun h0=>by rw[hff,if_neg h0]))⟩
 refine B5 false Z Z (A6 cu) Aa<|Ad 2 Z<|Az (v:=f3) 0 Bm BC Z Z a6.slL Z (by rw[hlb];omega) (Ae (e:=175) Z Z Z) ?_
 have cw:=RN.getI (w:=fa) (k:=0) a6 (by rw[hlb];omega)
 refine Ah (p:=Ay f3 0 1) (.inr Z) (zI<|f1.getD 0 0) AB Z (cw.1 _<|At.refl _ _) (Ae (e:=175) Z Z Z) ?_
 by_cases b9:f1.getD 0 0=((0:Nat):Int)
 ·refine Al true Z Z (A5 b9) (Ae (e:=175) Z Z Z)<|Ac 2 Z<|Af Z<|Z1 [0,4,0] Z<|Ad 1 Z<|AA 205 [] [] [zP g,zI ((6:Nat):Int)] Z Z Oo Aa (Cv _ S g pp dp (n) (f4) (f2) (p) ((6:Nat):Int) (fun b hb=>(by have:=hS b hb;omega:b<fa.heap.size)) hgS ac (hp.chg (B3<|AQ dp)<|a4.sub<|B6 hgS) oM oM oM oM oM) ?_
  rintro k7 fb ⟨f6,fc,fd,fe,rfl,ad,cx,cy,bj,e1,e3,ak⟩
  refine⟨_,rfl,?_⟩
  have e4:=ad.size
  have cz:At [g] w fb:=a4.trans ad
  have i5:=a8.run g1 hgS ad
  have i6:=a6.run g1 hgS ad
  have e5:=bj.1
  have hfs:=ak.1
  have hff:=ak.2
  exact Ac 1 Z<|A1<|AF<|Am<|Ag [6] Z f6 Z ⟨f6,fc,fd,fe,rfl,cz,cx,cy,(by assumption),oM,oM,(by rw[hfs];exact EY hc00 hs1 oM (Ic oM hra hrb) (fun h0=>by rw[hff,if_pos h0];exact RY (xs:=[_,_]) oM (hzz.resolve_right oM)) (fun h0=>by rw[hff,if_neg h0]))⟩
 refine Al false Z Z (A6 b9) (Ae (e:=175) Z Z Z)<|Ac 2 Z<|Ai Z<|A2<|Z1 [0,0,3,0] Z<|Ad 2 Z<|Au 213 [] [] [f8,f3] Z Z Xy Aa (K8 _ _ _ _ _ (a8).rd (a6).rd oM oM oM co.2) ?_
 rintro k8 ff ⟨al,rfl,a9,az⟩
 refine⟨_,rfl,a9,?_⟩
 have e6:=a9.size
 have d0:At [g] w ff:=a4.ext a9
 have am:=ac.ext a9
 have i7:=a8.ext g1 a9
 have i8:=a6.ext g1 a9
 exact Ac 1 Z<|A1<|Ag [6] Z al Z ⟨al,Cm f9 f1,f4,f2,rfl,d0,am,RN.of_fr1 az fun b hb=>zH<|hS b hb,(by exact Ja co),oM,oM,(by exact EY hc00 hs1 oM (Ic oM hra hrb) (fun h0=>by rw[h0];exact Un (xs:=[_,_]) oM (hzz.resolve_left oM)) (fun _=>rfl))⟩
theorem SW:∀F d,SV F d:=by
  intro F
  induction F using Nat.strongRecOn with
  |_ F ihF =>
    intro d
    induction d using Nat.strongRecOn with
    |_ d ihd =>
      intro w S g pp dp n s0 c0 p ve ex vv env hS hgS hB0 hp hn hs0 hc0 hex henv hqenv hvp hF hwf hse hdp
      exact H7 w S F g pp dp n s0 c0 p d ve ex vv env hS hgS hB0 hp hn hs0 hc0 hex henv hqenv hvp hF hwf hse hdp ihF ihd
theorem Vb (F:Nat):SO F:=Rb F fun d=>SW F d
theorem TV {p:Prop}(h:p:=by unfold maxLen;first|omega|assumption|(simp only[zb,z9,z4,z6,z5];omega)|(simp[zb,z9,z4,z6,z5];done)|(simp[zb,z9,z4,z6,z5];omega)):p:=h
theorem JI (w:World)(dp:Nat)(vp:Value)(p:List Fn)(f:Int)(va:Value)(a:Sr)(hp:RN [] (rP (IJ dp)) w.heap vp p)(_hf:Bn f)(ha:Rd (B4 rI) w.heap va a)(hvp:Lv p)(hf:0≤f∧f<(p.length:Int))(hl:(a.length:Int)=(p.getD f.toNat Fn.zero).params)(hna:B9 a=true) :
  Calls Tryz.prog 51 #[vp,zI f,va] w (fun e w'=>∃v0:Value,e=.returned (.tuple #[v0,zI ((NP p 1 f.toNat (D9 a):Nat):Int),zI (Mv p f.toNat a)])∧AE w w'∧Fr (B8 rI 2) w.heap.size w'.heap.size w'.heap v0 (Sl p f.toNat a)∧Y8 p f.toNat a∧NP p 1 f.toNat (D9 a)≤3000):=by
 refine Ap [vp,zI f,va] 73 Tryz.func51 Z Z sM ?_
 have cb:AE w w:=AE.refl w
 have dh:=ha.lenle
 have dt:=hvp.par f.toNat oM
 have du:=hvp.outs f.toNat oM
 refine Z1 [0,0,0] Z<|Ac 3 Z<|Z1 [0,0,3,0] Z<|Ad 1 Z ?_
 have bm:∀(vp:Value) (ap:∃b o,vp=.pointer (some ⟨b,o,none⟩)) (wq:World),(Instr.build 167 #[(0,vp),(1,zI ((1:Nat):Int))]).run Tryz.prog wq=.ok (.agg #[vp,zI ((1:Nat):Int),zI 0,zI 0]) wq:=by intro vp ap wq;obtain⟨b0,o0,rfl⟩:=ap;kernel_rfl
 refine C1 (ps:=#[(0,vp),(1,zI ((1:Nat):Int))]) (.agg #[vp,zI ((1:Nat):Int),zI 0,zI 0]) (by simp only[zc,zf,zh];rfl) (fun wq=>bm vp hp.isPtr wq) Aa (Bx (cs:=#[vp,zI ((1:Nat):Int),zI 0,zI 0]) Z Aa fun w2 bn ct bo=>?_)
 have bp:=bn.size
 have bq:=cb.trans bn
 replace bo:BX w2.heap w.heap.size [vp,zI ((1:Nat):Int),zI 0,zI 0]:=bo
 refine Ac 1 Z<|Z1 [3,0] Z (CH (B8 rI 2) o1 Bo Bs Aa fun v3 w3 bj cu cc=>?_)
 have br:=bj.size
 have cd:=bq.trans bj
 have b3:=bo.ext bj
 refine Ac 1 Z<|A0<|Z2 Z<|A3 ?_
 refine AV (S:=Nat×Value) (fun⟨k,vo⟩=>([(10,vo),(11,zI (k:Int)),(0,vp),(1,zI f),(2,va),(9,zP w.heap.size)])) (fun⟨k,vo⟩ W=>AE w W∧Fr (B8 (B8 rI 2) 27) w2.heap.size W.heap.size W.heap vo ((a.take k).map fun x=>[x])∧BX W.heap w.heap.size [vp,zI ((1:Nat):Int),zI 0,zI 0]∧k≤a.length∧w.heap.size<w2.heap.size∧w2.heap.size≤W.heap.size) (fun⟨k,vo⟩=>a.length-k) (0,v3) ⟨rfl,rfl,rfl,rfl,rfl,rfl,trivial⟩ ⟨cd,cc.up o2,b3,sD,oM,oM⟩ ?_
 clear cb ct bn cc cu bj br cd
 rintro⟨k,vo⟩ ρ5 w5 ⟨ag,a0,a2,ce,cv,cw⟩
 have bs:w.heap.size≤w5.heap.size:=ag.size
 have d9:=a2.lt
 refine A0<|Z1 [0,0,0,0] Z<|Ad 2 Z<|AP (v:=va) Bm Z ha.isSl Aa ?_
 by_cases cf:(k:Int)<(a.length:Int)
 ·refine AC true Z Z (A5 cf) Aa<|Aj<|Af Z<|A2<|A0<|A3<|Ab _ [0,0,0,0,2,3,3,4,0] Z<|Ad 3 Z<|Az (v:=va) k Bm BC Z Z ha.isSl Z sD Aa ?_
  refine Ah (p:=Ay va k 1) (.inr Z) (zI<|a.getD k 0) AB Z (Bb ag (ha.getI sD).1) Aa ?_
  refine BI (u:=zI<|a.getD k 0) (B:=w5.heap.size) AI Bm BC Z Z (KL w5.heap.size w5.heap.size _ _ (ha.getI sD).2) (A7 _) Aa fun v9 w9 bk da cx=>?_
  have cy:=bk.size
  have cz:=ag.trans bk
  have ah:=a0.ext (o2) bk
  have ai:=a2.ext bk
  refine BI (u:=v9) (B:=w5.heap.size) o1 Bo Bs Z Z cx (by first|exact A7 _|omega) Aa fun dj dv aj d0 bt=>?_
  have cg:=aj.size
  have b4:=cz.trans aj
  have aa:=ah.ext (o2) aj
  have ab:=ai.ext aj
  refine KM o1 (v:=vo) (a:=dj) Bo Bs Z Z Z aa oM bt oM oM sD TV Aa fun dk dm dw aw b5 bu=>?_
  have bv:AE w dm:=aw.below b4 (fun c hc=>A8 bq.size (b5 c hc).1) b4.size
  have ch:=aw.size
  have bw:=ab.chg aw fun hm=>zH<|b5 _ hm
  refine Ac 1 Z<|Ab _ [0,0,0] Z<|Ad 1 Z<|AM ((k+1:Nat):Int) Z Z (Ba oM sD) Aa<|Ac 1 Z ?_
  exact⟨(k+1,dk),_,rfl,zR,⟨bv,(by rw[E1 0 oM];exact bu.up o2),bw,sD,oM,oM⟩,zD⟩
 refine AC false Z Z (A6 cf) Aa<|Aj<|Ai Z<|A4<|Av<|Av<|Aq<|Z1 [0,0,0,0,2,0,0,0,4,0] Z ?_
 have henv:(a.take k).map (fun x=>[x])=D9 a:=by rw[za oM];rfl
 have hle:((a.take k).map (fun x=>[x])).length=a.length:=by rw[henv];unfold D9;rw[zg]
 refine Ad 2 Z<|AK (hp.isPtr) Z Aa ?_
 obtain⟨cs13,bx,b6⟩:=RN.at (AQ _) hp
 obtain⟨ak,rfl,ax⟩:=RPr.of bx
 have aq:=ax.lenle
 unfold maxLen at aq
 refine AG (p:=vp) 0 BG Z (b6 _<|At.of_ext [] ag) Aa<|Ah (p:=Ao vp 0) (.inr Z) ak Cb Z ((b6 _<|At.of_ext [] ag).ld (i:=0) (by simp[Ef,Eg])) Aa<|Ad 1 Z<|Az (v:=ak) ((f).toNat) Gp CN Z Z ax.isSl oM sD Aa<|Ad 1 Z ?_
 refine AA 113 [] [] [zP w.heap.size,Ay ak ((f).toNat) 3,vo] Z Z Ts Aa (Vb f.toNat _ [w.heap.size] w.heap.size vp dp (1) (0) (0) (p) dp (Ay ak ((f).toNat) 3) (p.getD ((f).toNat) Fn.zero) vo ((a.take k).map fun x=>[x]) (fun b hb=>(by have:=A9 hb;omega:b<w5.heap.size)) (List.mem_singleton.2 Z) a2 ((hp.add (F:=[w.heap.size]) (B3<|AQ dp) fun b hb=>zH<|A9 hb).ext (B3<|AQ dp) ag) oM oM oM (RN.ptr (AH dp) (by decide) Fn.zero ((ax.add (F:=[w.heap.size]) (An<|AH dp) fun b hb=>zH<|A9 hb).ext (An<|AH dp) ag) sD) (RN.of_fr2 a0 fun b hb=>zH<|A9 hb) a0.cap hvp oM (by intro k9 bz;have h9:=hvp.wf f.toNat oM k9 bz;rw[hle];rw[hl];exact h9) (by rw[henv];exact ED hna) (by intro k9 bz;have:=hvp.deep f.toNat oM k9 bz;omega) oM) ?_
 rintro dx db ⟨dd,dc,dg,de,rfl,al,ay,c0,ac,b7,b8,b9⟩
 refine⟨_,rfl,?_⟩
 have ci:=al.size
 have ad:AE w db:=al.below ag (fun b hb=>by have:b=w.heap.size:=(by simpa using hb);omega) ag.size
 have az:=a0.chg (o2) al fun _ h=>zA h
 have ar:=ac.2.1
 have au:=ac.2.2
 have cj:=ac.1
 have av:=c0.rt g2
 have hRL:=b9
 rw[henv]at hRL
 have hCB:=b8
 have hEP:=Y6.mk' hRL hCB b7 ar au
 have hNP:=Y8.mk' hEP
 have hST:=hEP.steps
 have hXS:=au
 have hXL:=ar
 refine Ac 1 Z<|A0<|Z1 [0,0,0,2,0] Z<|Ad 1 Z<|AZ Z Aa<|Ak (p:=zP w.heap.size) 3 Fe Z Z Aa<|Ah (p:=Ao (zP w.heap.size) 3) (.inr Z) (zI de) AB Z (ay.ldp (i:=3) sM) Aa ?_
 by_cases ba:de≠((0:Nat):Int)
 ·refine B5 true Z Z (A5 ba) Aa<|Aj<|Af Z<|A0<|AW _ [3,0,0,0,1,0,0,0] mixed (by kernel_rfl) (CH (rI) AI Bm BC Aa fun di dy a4 d1 c1=>?_)
  replace a4:=a4.of_drew
  have ck:=a4.size
  have c2:=ad.trans a4
  have bl:=az.ext (o2) a4
  have d2:=av.ext g2 a4
  exact Ad 1 Z<|AZ Z Aa<|Ak (p:=zP w.heap.size) 3 Fe Z Z Aa<|Ah (p:=Ao (zP w.heap.size) 3) (.inl Z) (zI de) AB Z (ay.ldp (i:=3) sM) Aa<|Ac 3 Z<|A1<|Am<|Ag [6,7,8] Z (.tuple #[di,zI ((0:Nat):Int),zI de]) Z ⟨di,(by rw[Ta<|KV hRL oM,show Mv p f.toNat a=_ from LV (KV hRL oM)] <;> rfl),c2,(by rw[hNP.non (by rw[show Mv p f.toNat a=_ from LV (KV hRL oM)];omega)];exact(c1.up o1).low ad.size),hNP,hST⟩
 refine B5 false Z Z (A6 ba) Aa<|Aj<|Ai Z<|A2<|Z1 [3,0] Z (CH (rI) AI Bm BC Aa fun dn dz a5 c3 bb=>?_)
 have bc:=a5.size
 have bd:=ad.trans a5
 have am:=az.ext (o2) a5
 have an:=ay.ext a5
 have d3:=av.ext g2 a5
 refine Ac 1 Z<|A0<|Z2 Z<|A3 ?_
 refine AV (S:=Nat×Value) (fun⟨k,vo⟩=>([(13,vo),(14,zI (k:Int)),(9,zP w.heap.size),(12,dd)])) (fun⟨k,vo⟩ W=>AE w W∧Fr (B8 rI 2) db.heap.size W.heap.size W.heap vo (((dc).take k).map fun s=>s.getD 0 0)∧BX W.heap w.heap.size [vp,zI ((1:Nat):Int),zI (dg:Int),zI de]∧k≤(dc).length∧RT db.heap.size (B4<|B4 rI) W.heap dd dc∧db.heap.size≤W.heap.size∧w.heap.size<db.heap.size∧db.heap.size≤db.heap.size∧db.heap.size≤W.heap.size) (fun⟨k,vo⟩=>(dc).length-k) (0,dn) ⟨rfl,rfl,rfl,rfl,trivial⟩ ⟨bd,bb.up o1,an,sD,(by assumption),oM,oM,oM,oM⟩ ?_
 clear bp bq a2 a0 ag bs aq al az bb c3 a5 bc bd am
 rintro⟨k,vo⟩ ρ28 df ⟨b1,ae,a1,c4,a3,cl,cm,cn,co⟩
 have cp:w.heap.size≤df.heap.size:=b1.size
 have d4:=a1.lt
 refine A0<|Z1 [0,0,0,0] Z<|Ad 2 Z<|AP (v:=dd) Bo Z a3.slL Aa ?_
 by_cases be:(k:Int)<(dc.length:Int)
 ·refine AC true Z Z (A5 be) Aa<|Aj<|Af Z<|A2<|A0<|A3<|Ab _ [0,0,0,0,2,0,2,3,4,0] Z ?_
  have hkx:=hXS k oM
  have hkl:=hkx.1
  refine Ad 3 Z<|Az (v:=dd) k Bo Bs Z Z a3.slL Z sD Aa ?_
  obtain⟨b2,c5,ao⟩:=RT.getL g1 [] (k:=k) a3 sD
  have bf:=ao.lenL
  unfold maxLen at bf
  refine Ah (p:=Ay dd k 1) (.inr Z) b2 BA Z c5 Aa<|Az (v:=b2) 0 Bm BC Z Z ao.slL Z sD Aa ?_
  have bg:=RT.getI (k:=0) ao sD
  refine Ah (p:=Ay b2 0 1) (.inr Z) (zI<|(dc.getD k []).getD 0 0) AB Z bg.1 Aa (BI (u:=zI<|(dc.getD k []).getD 0 0) (B:=df.heap.size) AI Bm BC Z Z (KL df.heap.size df.heap.size _ _ bg.2) (A7 _) Aa fun dq e0 a6 d5 bh=>?_)
  have cq:=a6.size
  have bi:=b1.trans a6
  have a7:=ae.ext (o1) a6
  have a8:=a1.ext a6
  have c6:=a3.ext g2 a6
  have c7:=ao.ext g1 a6
  refine El (v:=vo) (a:=dq) Bm BC Z Z Z a7 oM bh.rd1 sD TV Aa fun dr ds e1 a9 af c8=>?_
  have c9:AE w ds:=a9.below bi (fun c hc=>A8 ad.size (af c hc).1) bi.size
  have cr:=a9.size
  have d6:=c6.chg g2 a9 fun c hc=>zH<|af c hc
  have d7:=c7.chg g1 a9 fun c hc=>zH<|af c hc
  have ca:=a8.chg a9 fun hm=>zH<|af _ hm
  have d8:=bh.chg (o1) a9 fun c hc=>zH<|af c hc
  refine Ac 1 Z<|Ab _ [0,0,0] Z<|Ad 1 Z<|AM ((k+1:Nat):Int) Z Z (Ba oM sD) Aa<|Ac 1 Z ?_
  exact⟨(k+1,dr),_,rfl,zR,⟨c9,(by rw[E1 [] oM];exact c8.up o1),ca,sD,(by assumption),oM,oM,oM,oM⟩,zD⟩
 refine AC false Z Z (A6 be) Aa<|Aj<|Ai Z<|A4<|Av<|Av<|Aq<|A0<|AW _ [0,0,0,0,1,0,0,0] mixed (by kernel_rfl)<|Ad 2 Z<|AZ Z Aa<|Ak (p:=zP w.heap.size) 2 IW Z Z Aa<|Ah (p:=Ao (zP w.heap.size) 2) (.inl Z) (zI (dg:Int)) AB Z (a1.ldp (i:=2) sM) Aa<|Ac 3 Z<|A1 ?_
 exact Ag [6,7,8] Z (.tuple #[vo,zI (dg:Int),zI ((0:Nat):Int)]) Z ⟨vo,(by rw[T7<|NR hRL oM,show Mv p f.toNat a=_ from NT (NR hRL oM)] <;> rfl),b1.drew,(by have h:=(ae.up o1).low ad.size;unfold Sl;rw[NS<|NR hRL oM];rwa [za oM]at h),hNP,hST⟩
theorem XT {p:List Fn}{f:Int}{a:Sr}(h:HG p f=0)(h2:((a.length:Nat):Int)≠(p.getD f.toNat Fn.zero).params):2=I0 p f a:=VD h (by rw[A6 h2];rfl)
theorem XU {p:List Fn}{f:Int}{a:Sr}(h:HG p f=0)(h2:B9 a=false):2=I0 p f a:=VD h (by rw[h2,Bool.and_false])
theorem XV {p:List Fn}{f:Int}{a:Sr}(h:HG p f=0)(h1:((a.length:Nat):Int)=(p.getD f.toNat Fn.zero).params)(h2:B9 a=true):0=I0 p f a:=Ys h (by rw[h2,A5 h1];rfl)
theorem YV {b:Bool}(h:(!b)=true):b=false:=by simpa using h
theorem YW {b:Bool}(h:(!b)=false):b=true:=by simpa using h
theorem Oz {p:Prop}(h:p:=by first|exact VC oM|exact XT oM oM|exact XU oM (YV (by assumption))|exact(by omega:_=HG p f).trans (VC oM)|exact(show HG p f=0 by omega).trans (XV oM oM (YW (by assumption)))):p:=h
theorem JJ (w:World)(dp:Nat)(vp:Value)(p:List Fn)(f:Int)(va:Value)(a:Sr)(hp:RN [] (rP (IJ dp)) w.heap vp p)(_hf:Bn f)(ha:Rd (B4 rI) w.heap va a)(hz:RZ p) :
  Calls Tryz.prog 50 #[vp,zI f,va] w (fun e w'=>e=.returned (zI (I0 p f a))∧AE w w'):=by
 refine Ap [vp,zI f,va] 32 Tryz.func50 Z Z sM ?_
 have a7:AE w w:=AE.refl w
 have al:=ha.lenle
 refine Z2 Z<|Z1 [0,0,3,0] Z<|Ad 2 Z<|Au 111 [] [] [vp,zI f] Z Z X4 Aa (ID _ dp vp (p) _ (hp.ext (B3<|AQ dp) a7) _hf hz) ?_
 rintro e1 w1 ⟨rfl,a2⟩
 refine⟨_,rfl,a2,?_⟩
 have ae:=a2.size
 have a0:=a7.trans a2
 refine Ac 1 Z<|A0<|Z1 [0,0,0,0,0,0,0,0,2,0,0,0,2,0,0,0,3,0,0,0] Z<|Ad 1 Z ?_
 by_cases a8:HG p f=((0:Nat):Int)
 ·refine Al true Z Z (A5 a8) Aa<|Ad 2 Z<|AP (v:=va) Bm Z ha.isSl (Ae (e:=13) Z Z Z)<|Ad 1 Z<|AK (hp.isPtr) Z (Ae (e:=13) Z Z Z) ?_
  have aj:=Tf (p:=p) (f:=f) oM
  obtain⟨cs3,af,a9⟩:=RN.at (AQ _) hp
  obtain⟨a1,rfl,a3⟩:=RPr.of af
  have a4:=a3.lenle
  unfold maxLen at a4
  refine AG (p:=vp) 0 BG Z (a9 _<|At.of_ext [] a0) (Ae (e:=13) Z Z Z)<|Ah (p:=Ao vp 0) (.inr Z) a1 Cb Z ((a9 _<|At.of_ext [] a0).ld (i:=0) (by first|(simp[Ef,Eg];done)|simp[Rm])) (Ae (e:=13) Z Z Z)<|Ad 1 Z<|Az (v:=a1) ((f).toNat) Gp CN Z Z a3.isSl oM sD (Ae (e:=13) Z Z Z) ?_
  obtain⟨cs4,ag,aa⟩:=a3.get (AH dp) Fn.zero (k:=(f).toNat) sD
  obtain⟨ak,rfl,ah⟩:=RF.of ag
  have a5:=ah.rn.lenle
  unfold maxLen at a5
  refine AG (p:=Ay a1 ((f).toNat) 3) 1 Co Z (aa _<|At.of_ext [] a0) (Ae (e:=13) Z Z Z)<|Ah (p:=Ao (Ay a1 ((f).toNat) 3) 1) (.inr Z) (zI<|(p.getD ((f).toNat) Fn.zero).params) AB Z ((aa _<|At.of_ext [] a0).ld (i:=1) (by first|(simp[Ef,Eg];done)|simp[Rm])) (Ae (e:=13) Z Z Z) ?_
  by_cases ab:(a.length:Int)≠(p.getD ((f).toNat) Fn.zero).params
  ·exact B5 true Z Z (A5 ab) (Ae (e:=13) Z Z Z)<|Ac 6 Z<|Af Z<|Ab _ [0] Z<|Ac 1 Z<|Z1 [0,0] Z<|Ac 2 Z<|A1<|Ag [6] Z (zI ((2:Nat):Int)) Z ⟨B2 Oz,a0⟩
  refine B5 false Z Z (A6 ab) (Ae (e:=13) Z Z Z)<|Ad 2 Z<|Au 112 [] [] [va] Z Z X5 (Ae (e:=25) Z Z Z) (HV _ _ _<|ha.ext g1 a0) ?_
  rintro e6 w6 ⟨rfl,a6⟩
  refine⟨_,rfl,a6,?_⟩
  have ai:=a6.size
  have ac:=a0.trans a6
  refine Bq (!(B9 a)) Z Z (Ae (e:=25) Z Z Z)<|Ac 2 Z ?_
  cases ad:(!(B9 a))
  ·exact Ai (by first|rfl|exact zW ad)<|A2<|Z1 [0,0] Z<|Ac 2 Z<|A1<|Ag [6] Z (zI<|HG p f) Z ⟨B2 Oz,ac⟩
  exact Af (by first|rfl|exact zW ad)<|Ab _ [0] Z<|Ac 1 Z<|Z1 [0,0] Z<|Ac 2 Z<|A1<|Ag [6] Z (zI ((2:Nat):Int)) Z ⟨B2 Oz,ac⟩
 exact Al false Z Z (A6 a8) Aa<|Ac 18 Z<|Ai Z<|A2<|Z1 [0,0] Z<|Ac 2 Z<|A1<|Ag [6] Z (zI<|HG p f) Z ⟨B2 Oz,a0⟩
theorem IE (w:World)(dp:Nat)(vp:Value)(p:List Fn)(f:Int)(va:Value)(a:Sr)(hp:RP [] dp w.heap vp p)(_hf:Bn f)(ha:Rd (B4 rI) w.heap va a)(hz:RZ p) :
  Calls Tryz.prog 10 #[(.agg #[vp]),zI f,va] w (fun e w'=>∃v0:Value,e=.returned (.tuple #[v0,zI ((UH p f a:Nat):Int),zI (Rn p f a)])∧AE w w'∧Fr (B8 rI 2) w.heap.size w'.heap.size w'.heap v0 (Yr p f a)):=by
 refine Ap [.agg #[vp],zI f,va] 23 Tryz.func10 Z Z sM ?_
 have ae:AE w w:=AE.refl w
 have ao:=hp.lenle
 unfold maxLen at ao
 have ap:=ha.lenle
 refine Z1 [3,0,0,0] Z (Bx (cs:=#[vp]) Z Aa fun w1 a9 am a5=>?_)
 have af:=a9.size
 have a7:=ae.trans a9
 replace a5:BX w1.heap w.heap.size [vp]:=a5
 refine Ac 3 Z<|A0<|Z1 [0,0,3,0] Z<|Ad 2 Z<|Au 50 [] [] [zP w.heap.size,zI f,va] Z Z YG Aa (JJ _ dp (zP w.heap.size) (p) _ _ _ (RN.box a5 (RP.mk'<|hp.ext (An<|AH dp) a7) sM) _hf (ha.ext g1 a7) hz) ?_
 rintro e2 w2 ⟨rfl,a6⟩
 refine⟨_,rfl,a6,?_⟩
 have ag:=a6.size
 have a2:=a7.trans a6
 have a3:=a5.ext a6
 refine Ac 1 Z<|Z1 [0,0] Z<|Ad 1 Z ?_
 by_cases aa:I0 p f a≠((0:Nat):Int)
 ·refine B5 true Z Z (A5 aa) Aa<|Aj<|Af Z<|Z1 [3,0,0,0,0] Z (CH (rI) AI Bm BC Aa fun v4 w4 ab an ah=>?_)
  have ai:=ab.size
  have aj:=a2.trans ab
  exact Ac 4 Z<|A1<|Am<|Ag [6,7,8] Z (.tuple #[v4,zI ((0:Nat):Int),zI<|I0 p f a]) Z ⟨v4,(by rw[VG oM,VE oM] <;> rfl),aj,(by rw[VF oM];exact(ah.up o1).low a2.size)⟩
 refine B5 false Z Z (A6 aa) Aa<|Aj<|Ai Z<|A2<|Z1 [0,0,3,0,0,0,0,0,0] Z<|Ad 2 Z ?_
 have har:I0 p f a=0:=by omega
 have a1:=VB har
 have aq:=KW a1.1
 have ar:=aq.par f.toNat oM
 have hal:=a1.2.2.1
 refine Au 51 [] [] [zP w.heap.size,zI f,va] Z Z YH Aa (JI _ dp (zP w.heap.size) (p) _ _ _ (RN.box a3 (RP.mk'<|hp.ext (An<|AH dp) a2) sM) _hf (ha.ext g1 a2) aq oM oM a1.2.2.2) ?_
 rintro e5 w5 ⟨a0,rfl,a8,a4,ac,ad⟩
 refine⟨_,rfl,a8,?_⟩
 have ak:=a8.size
 have al:=a2.trans a8
 exact AR (vs:=[a0,zI ((NP p 1 f.toNat (D9 a):Nat):Int),zI<|Mv p f.toNat a]) a0 Z Z Aa<|AR (vs:=[a0,zI ((NP p 1 f.toNat (D9 a):Nat):Int),zI<|Mv p f.toNat a]) (zI ((NP p 1 f.toNat (D9 a):Nat):Int)) Z Z Aa<|AR (vs:=[a0,zI ((NP p 1 f.toNat (D9 a):Nat):Int),zI<|Mv p f.toNat a]) (zI<|Mv p f.toNat a) Z Z Aa<|Ac 3 Z<|A1<|Ag [6,7,8] Z (.tuple #[a0,zI ((NP p 1 f.toNat (D9 a):Nat):Int),zI<|Mv p f.toNat a]) Z ⟨a0,(by rw[VI har,Tg har]),al,(by rw[VH har];exact(a4.up o1).low a2.size)⟩
theorem Fi {p:Prop}(h:p:=by intro u hu;simp only[ze,z2,or_false]at hu;rcases hu with rfl|rfl|rfl|rfl|rfl <;> first|exact⟨rfl,rfl⟩):p:=h
theorem Nm {p:Prop}(h:p:=by simp only[zc,zf,zh];rfl):p:=h
theorem Nn {p:Prop}(h:p:=by first|exact MM.var oM|exact MM.num oM):p:=h
theorem Cw (w:World)(gg gs:Nat)(sv:Value)(cs:List UInt8)(n0:Nat)(pp:Value)(dp:Nat)(l0:Int)(pl:Bool)(p:List Fn)(vars:Int)(hgg:gs<gg)(hs:DA w.heap gs sv cs n0)(hB0:BX w.heap gg [zP gs,pp,zI l0,.bool pl])(hp:RN [gs,gg] (rP (IJ dp)) w.heap pp p)(_hvars:Bn vars)(hv:0≤vars∧vars≤1000)(hn:n0+20≤1000000000000) :
  Calls Tryz.prog 163 #[zP gg,zI vars] w (fun e w'=>∃(ex:Ex) (n1:Nat),e=.returned (.agg #[zI ex.kind,zI ex.num,zI ex.pick,zI ex.count,zN])∧At [gs,gg] w w'∧DA w'.heap gs sv cs n1∧(n0≤n1∧n1≤n0+20)∧BX w'.heap gg [zP gs,pp,zI l0,.bool pl]∧Rk ex∧ex.kids=[]∧MM p vars ex):=by
 refine Ap [zP gg,zI vars] 28 Tryz.func163 Z Z sM ?_
 have bh:At [gs,gg] w w:=At.refl [gs,gg] w
 have ca:=hs.lt
 have bi:=hB0.lt
 refine Z1 [3] Z ?_
 have bu:=hB0.lt
 refine Bj (z:=.agg #[zI 0,zI 0,zI 0,zI 0,zN]) GE Aa fun w1 ad bv ae=>?_
 have bj:w.heap.size≤w1.heap.size:=ad.size
 have b4:At [gs,gg] w w1:=bh.ext ad
 have a9:=hs.ext ad
 have a0:=hB0.ext ad
 replace ae:BX w1.heap w.heap.size [zI 0,zI 0,zI 0,zI 0,zN]:=ae
 refine Aj<|A0<|Z1 [0,0,0,0,0,0,2,4,0,0] Z<|Ad 1 Z ?_
 by_cases b5:((0:Nat):Int)<vars
 ·refine BH true Z Z (A5 b5) Aa<|Ad 2 Z<|AZ Z (Ae (e:=7) Z Z Z)<|Ak (p:=zP gg) 0 DC Z Z (Ae (e:=7) Z Z Z)<|Ah (p:=Ao (zP gg) 0) (.inr Z) (zP gs) GB Z (a0.ldp (i:=0) sM) (Ae (e:=7) Z Z Z) ?_
  refine AA 102 [] [] [zP gs,zI ((4:Nat):Int)] Z Z Mk (Ae (e:=7) Z Z Z) (Cd _ gs _ _ _ ((4:Nat):Int) a9 oM oM sD) ?_
  rintro e4 w4 ⟨c2,n4,rfl,af,b6,bw,b7⟩
  refine⟨_,rfl,?_⟩
  have bk:w1.heap.size≤w4.heap.size:=af.size
  have b8:At [gs,gg] w w4:=b4.trans (af.sub Eo)
  have ag:=a0.chg af (zB ·)
  have b9:=ae.chg af (zB ·)
  refine Bq (!c2) Z Z (Ae (e:=7) Z Z Z)<|Ac 1 Z ?_
  cases ba:(!c2)
  ·refine Ai (by first|rfl|exact zW ba)<|A2<|Z1 [0,0,0,2,4,0,4] Z<|Ad 1 Z<|AZ Z Aa<|Ak (p:=zP gg) 0 DC Z Z Aa<|Ah (p:=Ao (zP gg) 0) (.inr Z) (zP gs) GB Z (ag.ldp (i:=0) sM) Aa<|AA 110 [] [] [zP gs] Z Z QM Aa (Eu _ gs _ _ _ b6 oM) ?_
   rintro e8 w8 ⟨c1,n8,rfl,ah,bl,bx,bb⟩
   refine⟨_,rfl,?_⟩
   have bm:w4.heap.size≤w8.heap.size:=ah.size
   have bn:At [gs,gg] w w8:=b8.trans (ah.sub Eo)
   have bo:=ag.chg ah (zB ·)
   have ai:=b9.chg ah (zB ·)
   have aa:∀(wq:World),(Instr.build 153 #[(0,zI ((1:Nat):Int)),(1,zI c1)]).run Tryz.prog wq=.ok (.agg #[zI ((1:Nat):Int),zI c1,zI 0,zI 0,zN]) wq:=by intro wq;kernel_rfl
   refine C1 (ps:=#[(0,zI ((1:Nat):Int)),(1,zI c1)]) (.agg #[zI ((1:Nat):Int),zI c1,zI 0,zI 0,zN]) Nm (fun wq=>aa  wq) Aa (Bw (vs:=[zI ((1:Nat):Int),zI c1,zI 0,zI 0,zN]) B7 Z Z Fi ai Z Z Aa fun c3 a1 bp a6=>?_)
   replace a6:BX c3.heap w.heap.size [zI ((1:Nat):Int),zI c1,zI 0,zI 0,zN]:=a6
   have bc:w8.heap.size≤c3.heap.size:=a1.size
   have aj:At [gs,gg] w c3:=bn.fresh a1 (fun _ h=>zE h)
   have ak:=bl.chg a1 fun c hc=>zH<|A9 hc
   have al:=bo.chg a1 (zB ·)
   exact Aj<|A1<|C7 (cs:=[zI ((1:Nat):Int),zI c1,zI 0,zI 0,zN]) Z B7 Z a6 Z ⟨.mk ((1:Nat):Int) c1 0 0 [],n8,rfl,aj,ak,⟨zO,zO⟩,al,Jd oM oM oM oM,rfl,Nn⟩
  refine Af (by first|rfl|exact zW ba)<|Z1 [0,0,0,2,0,4,0,4] Z<|Ad 1 Z<|AZ Z Aa<|Ak (p:=zP gg) 0 DC Z Z Aa<|Ah (p:=Ao (zP gg) 0) (.inr Z) (zP gs) GB Z (ag.ldp (i:=0) sM) Aa<|Ad 1 Z ?_
  refine AA 101 [] [] [zP gs,zI vars] Z Z DG Aa (AU _ gs _ _ _ (vars) b6 oM _hvars sD) ?_
  rintro cb c4 ⟨bz,c8,rfl,a2,am,bq,an⟩
  refine⟨_,rfl,?_⟩
  have bd:w4.heap.size≤c4.heap.size:=a2.size
  have ao:At [gs,gg] w c4:=b8.trans (a2.sub Eo)
  have ap:=ag.chg a2 (zB ·)
  have aq:=b9.chg a2 (zB ·)
  have ab:∀(wq:World),(Instr.build 153 #[(0,zI ((2:Nat):Int)),(1,zI bz)]).run Tryz.prog wq=.ok (.agg #[zI ((2:Nat):Int),zI bz,zI 0,zI 0,zN]) wq:=by intro wq;kernel_rfl
  refine C1 (ps:=#[(0,zI ((2:Nat):Int)),(1,zI bz)]) (.agg #[zI ((2:Nat):Int),zI bz,zI 0,zI 0,zN]) Nm (fun wq=>ab  wq) Aa (Bw (vs:=[zI ((2:Nat):Int),zI bz,zI 0,zI 0,zN]) B7 Z Z Fi aq Z Z Aa fun c5 a3 br a7=>?_)
  replace a7:BX c5.heap w.heap.size [zI ((2:Nat):Int),zI bz,zI 0,zI 0,zN]:=a7
  have be:c4.heap.size≤c5.heap.size:=a3.size
  have ar:At [gs,gg] w c5:=ao.fresh a3 (fun _ h=>zE h)
  have au:=am.chg a3 fun c hc=>zH<|A9 hc
  have av:=ap.chg a3 (zB ·)
  exact Aj<|A1<|Am<|C7 (cs:=[zI ((2:Nat):Int),zI bz,zI 0,zI 0,zN]) Z B7 Z a7 Z ⟨.mk ((2:Nat):Int) bz 0 0 [],c8,rfl,ar,au,⟨zO,zO⟩,av,Jd oM oM oM oM,rfl,Nn⟩
 refine BH false Z Z (A6 b5) Aa<|Ac 8 Z<|Ai Z<|A2<|Z1 [0,0,0,2,4,0,4] Z<|Ad 1 Z<|AZ Z Aa<|Ak (p:=zP gg) 0 DC Z Z Aa<|Ah (p:=Ao (zP gg) 0) (.inr Z) (zP gs) GB Z (a0.ldp (i:=0) sM) Aa<|AA 110 [] [] [zP gs] Z Z QM Aa (Eu _ gs _ _ _ a9 oM) ?_
 rintro cc c6 ⟨c0,c9,rfl,a4,aw,bs,ax⟩
 refine⟨_,rfl,?_⟩
 have bf:w1.heap.size≤c6.heap.size:=a4.size
 have ay:At [gs,gg] w c6:=b4.trans (a4.sub Eo)
 have az:=a0.chg a4 (zB ·)
 have b0:=ae.chg a4 (zB ·)
 have ac:∀(wq:World),(Instr.build 153 #[(0,zI ((1:Nat):Int)),(1,zI c0)]).run Tryz.prog wq=.ok (.agg #[zI ((1:Nat):Int),zI c0,zI 0,zI 0,zN]) wq:=by intro wq;kernel_rfl
 refine C1 (ps:=#[(0,zI ((1:Nat):Int)),(1,zI c0)]) (.agg #[zI ((1:Nat):Int),zI c0,zI 0,zI 0,zN]) Nm (fun wq=>ac  wq) Aa (Bw (vs:=[zI ((1:Nat):Int),zI c0,zI 0,zI 0,zN]) B7 Z Z Fi b0 Z Z Aa fun c7 a5 bt a8=>?_)
 replace a8:BX c7.heap w.heap.size [zI ((1:Nat):Int),zI c0,zI 0,zI 0,zN]:=a8
 have bg:c6.heap.size≤c7.heap.size:=a5.size
 have b1:At [gs,gg] w c7:=ay.fresh a5 (fun _ h=>zE h)
 have b2:=aw.chg a5 fun c hc=>zH<|A9 hc
 have b3:=az.chg a5 (zB ·)
 exact Aj<|A1<|C7 (cs:=[zI ((1:Nat):Int),zI c0,zI 0,zI 0,zN]) Z B7 Z a8 Z ⟨.mk ((1:Nat):Int) c0 0 0 [],c9,rfl,b1,b2,⟨zO,zO⟩,b3,Jd oM oM oM oM,rfl,Nn⟩
theorem Ew {p:Prop}(h:p:=by first|(rw[Yd oM];rfl)|(rw[Ye oM];rfl)|(rw[Yf oM];rfl)|(rw[Yg oM];rfl)|(rw[Yh (by assumption) (by assumption) (by assumption) (by assumption) (by assumption) (by assumption) (by assumption) (by assumption) (by assumption)])):p:=h
theorem YX (w:World)(k:Int)(_hk:Bn k)  :
  Calls Tryz.prog 165 #[zI k] w (fun e w'=>e=.returned (zI (kn k))∧w'=w):=by
 refine Ap [zI k] 17 Tryz.func165 Z Z sM ?_
 have a0:w=w:=rfl
 refine Z2 Z<|A0<|Z2 Z<|A3<|A0<|Z1 [0,0] Z ?_
 by_cases a1:k=((1:Nat):Int)
 ·exact Al true Z Z (A5 a1) Aa<|Ac 1 Z<|Af Z<|A2<|Af Z<|Z2 Z<|A1<|AF<|Am<|Ag [2] Z (zI ((0:Nat):Int)) Z ⟨Ew,a0⟩
 refine Al false Z Z (A6 a1) Aa<|Ac 1 Z<|Ai Z<|Ab _ [0,0] Z ?_
 by_cases a2:k=((2:Nat):Int)
 ·exact Al true Z Z (A5 a2) Aa<|Ac 1 Z<|Af Z<|Z2 Z<|A1<|AF<|Am<|Ag [2] Z (zI ((0:Nat):Int)) Z ⟨Ew,a0⟩
 refine Al false Z Z (A6 a2) Aa<|Ac 1 Z<|Ai Z<|A0<|Z1 [0,0] Z ?_
 by_cases a3:k=((3:Nat):Int)
 ·exact Al true Z Z (A5 a3) Aa<|Ac 1 Z<|Af Z<|A2<|Af Z<|Z2 Z<|A1<|AF<|Am<|Ag [2] Z (zI ((2:Nat):Int)) Z ⟨Ew,a0⟩
 refine Al false Z Z (A6 a3) Aa<|Ac 1 Z<|Ai Z<|Z1 [0,0] Z ?_
 by_cases a4:k=((4:Nat):Int)
 ·exact Al true Z Z (A5 a4) Aa<|Ac 1 Z<|Af Z<|A2<|Af Z<|Z2 Z<|A1<|AF<|Am<|Ag [2] Z (zI ((2:Nat):Int)) Z ⟨Ew,a0⟩
 refine Al false Z Z (A6 a4) Aa<|Ac 1 Z<|Ai Z<|Z1 [0,0] Z ?_
 by_cases a5:k=((5:Nat):Int)
 ·exact Al true Z Z (A5 a5) Aa<|Ac 1 Z<|Af Z<|A2<|Af Z<|Z2 Z<|A1<|AF<|Am<|Ag [2] Z (zI ((2:Nat):Int)) Z ⟨Ew,a0⟩
 refine Al false Z Z (A6 a5) Aa<|Ac 1 Z<|Ai Z<|Z1 [0,0] Z ?_
 by_cases a6:k=((6:Nat):Int)
 ·exact Al true Z Z (A5 a6) Aa<|Ac 1 Z<|Af Z<|A2<|Af Z<|Z2 Z<|A1<|AF<|Am<|Ag [2] Z (zI ((2:Nat):Int)) Z ⟨Ew,a0⟩
 refine Al false Z Z (A6 a6) Aa<|Ac 1 Z<|Ai Z<|Ab _ [0,0] Z ?_
 by_cases a7:k=((9:Nat):Int)
 ·exact Al true Z Z (A5 a7) Aa<|Ac 1 Z<|Af Z<|Z2 Z<|A1<|AF<|Am<|Ag [2] Z (zI ((2:Nat):Int)) Z ⟨Ew,a0⟩
 refine Al false Z Z (A6 a7) Aa<|Ac 1 Z<|Ai Z<|Z1 [0,0] Z ?_
 by_cases a8:k=((7:Nat):Int)
 ·exact Al true Z Z (A5 a8) Aa<|Ac 1 Z<|Af Z<|Z2 Z<|A1<|AF<|Am<|Ag [2] Z (zI ((1:Nat):Int)) Z ⟨Ew,a0⟩
 refine Al false Z Z (A6 a8) Aa<|Ac 1 Z<|Ai Z<|Z1 [0,0] Z ?_
 by_cases a9:k=((8:Nat):Int)
 ·exact Al true Z Z (A5 a9) Aa<|Ac 1 Z<|Af Z<|Z2 Z<|A1<|AF<|Am<|Ag [2] Z (zI ((3:Nat):Int)) Z ⟨Ew,a0⟩
 exact Al false Z Z (A6 a9) Aa<|Ac 1 Z<|Ai Z<|A2<|Z2 Z<|A1<|Ag [2] Z (zI (-1)) Z ⟨Ew,a0⟩
def GX (d:Nat):Prop:=∀(w:World) (gg gs:Nat) (sv:Value) (cs:List UInt8) (n0:Nat) (pp:Value) (dp:Nat) (l0:Int) (pl:Bool) (p:List Fn) (vars funcs:Int) (hgg:gs<gg) (hs:DA w.heap gs sv cs n0) (hB0:BX w.heap gg [.pointer (some ⟨gs,0,none⟩),pp,.int .i64 l0,.bool pl]) (hp:RN [gs,gg] (rP (IJ dp)) w.heap pp p) (_hvars:Bn vars) (_hfuncs:Bn funcs) (hv:0≤vars∧vars+((d:Nat):Int)≤1000) (hfu:0≤funcs∧funcs≤((p.length:Nat):Int)) (hpr:Vr p) (hd:d≤8) (hn:n0+Ge d≤1000000000000) (hl:Kp d-1000000≤l0∧l0≤1000),Calls Tryz.prog 104 #[.pointer (some ⟨gg,0,none⟩),.int .i64 vars,.int .i64 funcs,.int .i64 ((d:Nat):Int)] w (fun e w'=>∃(v:Value) (ex:Ex) (n1:Nat) (l1:Int),e=.returned (.agg #[.int .i64 ex.kind,.int .i64 ex.num,.int .i64 ex.pick,.int .i64 ex.count,v])∧At [gs,gg] w w'∧DA w'.heap gs sv cs n1∧(n0≤n1∧n1≤n0+(Ge d))∧BX w'.heap gg [.pointer (some ⟨gs,0,none⟩),pp,.int .i64 l1,.bool pl]∧Fr (DZ 5 (Nx 153 d) 153) w.heap.size w'.heap.size w'.heap v ex.kids∧Rk ex∧NV p funcs vars pl d l0 l1 ex)
def GC (d:Nat):Prop:=∀(w:World) (gg gs:Nat) (sv:Value) (cs:List UInt8) (n0:Nat) (pp:Value) (dp:Nat) (l0:Int) (pl:Bool) (p:List Fn) (vars funcs:Int) (hgg:gs<gg) (hs:DA w.heap gs sv cs n0) (hB0:BX w.heap gg [.pointer (some ⟨gs,0,none⟩),pp,.int .i64 l0,.bool pl]) (hp:RN [gs,gg] (rP (IJ dp)) w.heap pp p) (_hvars:Bn vars) (_hfuncs:Bn funcs) (hv:0≤vars∧vars+((d:Nat):Int)≤1000) (hfu:0≤funcs∧funcs≤((p.length:Nat):Int)) (hpr:Vr p) (hd:1≤d∧d≤8) (hn:n0+(20+4*Ge (d-1))≤1000000000000) (hl:1≤l0∧l0≤1000),Calls Tryz.prog 164 #[.pointer (some ⟨gg,0,none⟩),.int .i64 vars,.int .i64 funcs,.int .i64 ((d:Nat):Int)] w (fun e w'=>∃(v:Value) (ex:Ex) (n1:Nat) (l1:Int),e=.returned (.agg #[.int .i64 ex.kind,.int .i64 ex.num,.int .i64 ex.pick,.int .i64 ex.count,v])∧At [gs,gg] w w'∧DA w'.heap gs sv cs n1∧(n0≤n1∧n1≤n0+(20+4*Ge (d-1)))∧BX w'.heap gg [.pointer (some ⟨gs,0,none⟩),pp,.int .i64 l1,.bool pl]∧Fr (DZ 5 (Nx 153 d) 153) w.heap.size w'.heap.size w'.heap v ex.kids∧Rk ex∧NV p funcs vars pl d (l0+1) l1 ex)
theorem H8 (w:World)(gg gs:Nat)(sv:Value)(cs:List UInt8)(n0:Nat)(pp:Value)(dp:Nat)(l0:Int)(pl:Bool)(p:List Fn)(vars:Int)(funcs:Int)(d:Nat)(hgg:gs<gg)(hs:DA w.heap gs sv cs n0)(hB0:BX w.heap gg [zP gs,pp,zI l0,.bool pl])(hp:RN [gs,gg] (rP (IJ dp)) w.heap pp p)(_hvars:Bn vars)(_hfuncs:Bn funcs)(hv:0≤vars∧vars+(d:Int)≤1000)(hfu:0≤funcs∧funcs≤(p.length:Int))(hpr:Vr p)(hd:1≤d∧d≤8)(hn:n0+(20+4*Ge (d-1))≤1000000000000)(hl:1≤l0∧l0≤1000)(IH:GX (d-1)) :
  Calls Tryz.prog 164 #[zP gg,zI vars,zI funcs,zI (d:Int)] w (fun e w'=>∃(v:Value) (ex:Ex) (n1:Nat) (l1:Int),e=.returned (.agg #[zI ex.kind,zI ex.num,zI ex.pick,zI ex.count,v])∧At [gs,gg] w w'∧DA w'.heap gs sv cs n1∧(n0≤n1∧n1≤n0+(20+4*Ge (d-1)))∧BX w'.heap gg [zP gs,pp,zI l1,.bool pl]∧Fr (DZ 5 (Nx 153 d) 153) w.heap.size w'.heap.size w'.heap v ex.kids∧Rk ex∧NV p funcs vars pl d (l0+1) l1 ex):=by
 refine Ap [zP gg,zI vars,zI funcs,zI (d:Int)] 89 Tryz.func164 Z Z sM ?_
 have dx:At [gs,gg] w w:=At.refl [gs,gg] w
 have ft:=hs.lt
 have ei:=hB0.lt
 have hst:=ML (d-1)
 have hnd:=Gf (d-1)
 have hnl:=PV (d:=d-1) oM
 have hpl:=hpr.len
 refine Z1 [3] Z ?_
 have gh:=hB0.lt
 refine Bj (z:=.agg #[zI 0,zI 0,zI 0,zI 0,zN]) GE Aa fun w1 bm ej ce=>?_
 have ch:w.heap.size≤w1.heap.size:=bm.size
 have cf:At [gs,gg] w w1:=dx.ext bm
 have bn:=hs.ext bm
 have ap:=hB0.ext bm
 replace ce:BX w1.heap w.heap.size [zI 0,zI 0,zI 0,zI 0,zN]:=ce
 refine Aj<|A0<|Z1 [0,0] Z<|Ad 1 Z ?_
 by_cases dy:funcs=((0:Nat):Int)
 ·refine Al true Z Z (A5 dy) Aa<|Aj<|Af Z<|Z1 [0,0,4,4] Z<|Ad 2 Z<|AA 163 [] [] [zP gg,zI vars] Z Z Ol Aa (Cw _ gg gs sv cs n0 pp dp l0 pl p (vars) oM bn ap (hp.chg (B3<|AQ dp) cf) _hvars oM oM) ?_
  rintro e4 w4 ⟨x4,n4,rfl,ci,ek,gi,el,em,cj,gj⟩
  refine⟨_,rfl,?_⟩
  have en:w1.heap.size≤w4.heap.size:=ci.size
  have eo:At [gs,gg] w w4:=cf.trans ci
  have ep:=ce.chg ci fun hm=>zH<|CS hm
  refine Bw (vs:=[zI x4.kind,zI x4.num,zI x4.pick,zI x4.count,zN]) B7 Z Z Fi ep Z Z Aa fun w6 cg gk ck=>?_
  replace ck:BX w6.heap w.heap.size [zI x4.kind,zI x4.num,zI x4.pick,zI x4.count,zN]:=ck
  have eq:w4.heap.size≤w6.heap.size:=cg.size
  have er:At [gs,gg] w w6:=eo.fresh cg (fun _ h=>zE h)
  have es:=ek.chg cg fun c hc=>zH<|A9 hc
  have et:=el.chg cg (zB ·)
  exact Aj<|A1<|Am<|C7 (cs:=[zI x4.kind,zI x4.num,zI x4.pick,zI x4.count,zN]) Z B7 Z ck Z ⟨zN,x4,n4,l0,rfl,er,es,⟨zO,zO⟩,et,(by rw[cj];exact FJ _ _ _),em,(by exact MM.okc (by assumption) d)⟩
 refine Al false Z Z (A6 dy) Aa<|Aj<|Ai Z<|A2<|Z1 [0,0,0,2,0,4,0,3,4] Z<|Ad 1 Z<|AZ Z Aa<|Ak (p:=zP gg) 0 DC Z Z Aa<|Ah (p:=Ao (zP gg) 0) (.inr Z) (zP gs) GB Z (ap.ldp (i:=0) sM) Aa<|Ad 1 Z ?_
 refine AA 101 [] [] [zP gs,zI funcs] Z Z DG Aa (AU _ gs _ _ _ (funcs) bn oM _hfuncs sD) ?_
 rintro e9 w9 ⟨f0,n9,rfl,bo,eu,gl,dz⟩
 refine⟨_,rfl,?_⟩
 have cl:w1.heap.size≤w9.heap.size:=bo.size
 have e0:At [gs,gg] w w9:=cf.trans (bo.sub Eo)
 have ba:=ap.chg bo (zB ·)
 have bb:=ce.chg bo (zB ·)
 have bp:∀(wq:World),(Instr.build 153 #[(0,zI ((10:Nat):Int)),(1,zI f0)]).run Tryz.prog wq=.ok (.agg #[zI ((10:Nat):Int),zI f0,zI 0,zI 0,zN]) wq:=by intro wq;kernel_rfl
 refine C1 (ps:=#[(0,zI ((10:Nat):Int)),(1,zI f0)]) (.agg #[zI ((10:Nat):Int),zI f0,zI 0,zI 0,zN]) (by simp only[zc,zf,zh];rfl) (fun wq=>bp  wq) Aa ?_
 have ev:=ba.lt
 have ew:=bb.lt
 refine Bj (z:=.agg #[zI 0,zI 0,zI 0,zI 0,zN]) GE Aa fun f7 ah cm bc=>?_
 have bq:w9.heap.size≤f7.heap.size:=ah.size
 have br:At [gs,gg] w f7:=e0.ext ah
 have bd:=eu.ext ah
 have af:=ba.ext ah
 have ag:=bb.ext ah
 replace bc:BX f7.heap w9.heap.size [zI 0,zI 0,zI 0,zI 0,zN]:=bc
 refine Bw (vs:=[zI ((10:Nat):Int),zI f0,zI 0,zI 0,zN]) B7 Z Z Fi bc Z Z Aa fun f8 ai cn ay=>?_
 replace ay:BX f8.heap w9.heap.size [zI ((10:Nat):Int),zI f0,zI 0,zI 0,zN]:=ay
 have bs:f7.heap.size≤f8.heap.size:=ai.size
 have aj:At [gs,gg] w f8:=br.fresh ai (fun _ h=>zE h)
 have bt:=bd.chg ai fun c hc=>zH<|A9 hc
 have az:=af.chg ai (zB ·)
 have bu:=ag.chg ai (zB ·)
 refine Aj<|A0<|AW _ [0,0,0,1,0,0,1,0,1,0,0] mixed (by kernel_rfl)<|Ad 1 Z ?_
 have hxk:f0<funcs:=by omega
 refine AZ Z Aa<|Ak (p:=zP gg) 1 SN Z Z Aa<|Ah (p:=Ao (zP gg) 1) (.inl Z) pp TK Z (az.ldp (i:=1) sM) Aa<|AK (hp.isPtr) Z Aa ?_
 obtain⟨cs20,co,bv⟩:=RN.at (AQ _) hp
 obtain⟨a0,rfl,a5⟩:=RPr.of co
 have b8:=a5.lenle
 unfold maxLen at b8
 refine AG (p:=pp) 0 BG Z (bv _ aj.drew) Aa<|Ah (p:=Ao pp 0) (.inl Z) a0 Cb Z ((bv _ aj.drew).ld (i:=0) (by simp[Ef,Eg])) Aa<|Ak (p:=zP w9.heap.size) 1 BJ Z Z Aa<|Ah (p:=Ao (zP w9.heap.size) 1) (.inl Z) (zI f0) AB Z (ay.ldp (i:=1) sM) Aa ?_
 refine Az (v:=a0) ((f0).toNat) Gp CN Z Z a5.isSl oM sD Aa<|Ac 1 Z<|A0<|AW _ [0,0,0,1,0,0,0,1,0,4,0,4] mixed (by kernel_rfl) ?_
 have fu:=hpr.outs (f0).toNat oM
 have hpa:=hpr.par (f0).toNat oM
 refine Ad 1 Z<|AZ Z Aa<|Ak (p:=zP gg) 0 DC Z Z Aa<|Ah (p:=Ao (zP gg) 0) (.inl Z) (zP gs) GB Z (az.ldp (i:=0) sM) Aa<|Ad 1 Z<|AK (RN.isPtr<|RN.ptr (AH dp) (by decide) Fn.zero a5 sD) Z Aa ?_
 obtain⟨cs21,cp,a3⟩:=a5.get (AH dp) Fn.zero (k:=(f0).toNat) sD
 obtain⟨b0,rfl,be⟩:=RF.of cp
 have b9:=be.rn.lenle
 unfold maxLen at b9
 refine AG (p:=Ay a0 ((f0).toNat) 3) 2 BU Z (a3 _ aj.drew.drew) Aa<|Ah (p:=Ao (Ay a0 ((f0).toNat) 3) 2) (.inl Z) b0 Bl Z ((a3 _ aj.drew.drew).ld (i:=2) (by simp[Ef,Eg])) Aa<|AP (v:=b0) CR Z be.rn.isSl Aa ?_
 refine AA 101 [] [] [zP gs,zI ((((p.getD ((f0).toNat) Fn.zero).outs).length:Nat):Int)] Z Z DG Aa (AU _ gs _ _ _ ((((p.getD ((f0).toNat) Fn.zero).outs).length:Nat):Int) bt oM oM sD) ?_
 rintro fv f9 ⟨f1,fl,rfl,a2,cq,ey,cr⟩
 refine⟨_,rfl,?_⟩
 replace a2:=a2.of_drew
 replace a2:=a2.of_drew
 have bw:f8.heap.size≤f9.heap.size:=a2.size
 have bx:At [gs,gg] w f9:=aj.trans (a2.sub Eo)
 have bz:=az.chg a2 (zB ·)
 have c0:=bu.chg a2 (zB ·)
 have c1:=ay.chg a2 (zB ·)
 refine Ak (p:=zP w9.heap.size) 2 De Z Z Aa (Bi (k:=2) (w:=f9) GD Z Z ⟨rfl,rfl⟩ c1 sM Aa fun fa ak ct b1=>?_)
 replace b1:BX fa.heap w9.heap.size [zI ((10:Nat):Int),zI f0,zI f1,zI 0,zN]:=b1
 have c2:f9.heap.size≤fa.heap.size:=ak.size
 have a6:At [gs,gg] w fa:=bx.fresh ak (fun _ h=>zE h)
 have bf:=cq.chg ak fun c hc=>zH<|A9 hc
 have b2:=bz.chg ak (zB ·)
 have bg:=c0.chg ak (zB ·)
 refine Aj ?_
 refine A0<|Ip (S:=Int×Int×Nat) (fun⟨k,cnt,m1⟩=>([(0,zP gg),(1,zI vars),(2,zI funcs),(3,zI (d:Int)),(8,zP w.heap.size),(9,zP w9.heap.size),(10,Ay a0 ((f0).toNat) 3)])) (fun⟨k,cnt,m1⟩ W=>At [gs,gg] w W∧DA W.heap gs sv cs m1∧BX W.heap gg [zP gs,pp,zI l0,.bool pl]∧BX W.heap w.heap.size [zI 0,zI 0,zI 0,zI 0,zN]∧BX W.heap w9.heap.size [zI k,zI f0,zI f1,zI cnt,zN]∧((k=10∧cnt=0)∨(k=11∧(((p.getD (f0).toNat Fn.zero).outs.length:Nat):Int)=(p.getD (f0).toNat Fn.zero).params∧0≤cnt∧cnt≤8))∧(n0≤m1∧m1≤n0+8)) ?_ ?_
 ·refine A0<|AW _ [0,0,0,1,0,0,0,0,1,0,0,0,0,0,1,4,0] mixed (by kernel_rfl)<|Ad 1 Z<|AK (RN.isPtr<|RN.ptr (AH dp) (by decide) Fn.zero a5 sD) Z Aa<|AG (p:=Ay a0 ((f0).toNat) 3) 2 BU Z (a3 _ a6.drew) Aa<|Ah (p:=Ao (Ay a0 ((f0).toNat) 3) 2) (.inl Z) b0 Bl Z ((a3 _ a6.drew).ld (i:=2) (by simp[Ef,Eg])) Aa<|AP (v:=b0) CR Z be.rn.isSl Aa ?_
  refine Ad 1 Z<|AK (RN.isPtr<|RN.ptr (AH dp) (by decide) Fn.zero a5 sD) Z Aa<|AG (p:=Ay a0 ((f0).toNat) 3) 1 Co Z (a3 _ a6.drew) Aa<|Ah (p:=Ao (Ay a0 ((f0).toNat) 3) 1) (.inl Z) (zI<|(p.getD ((f0).toNat) Fn.zero).params) AB Z ((a3 _ a6.drew).ld (i:=1) (by simp[Ef,Eg])) Aa ?_
  by_cases c3:((((p.getD ((f0).toNat) Fn.zero).outs).length:Nat):Int)=(p.getD ((f0).toNat) Fn.zero).params
  ·refine Al true Z Z (A5 c3) Aa<|Ad 2 Z<|AZ Z (Ae (e:=55) Z Z Z)<|Ak (p:=zP gg) 0 DC Z Z (Ae (e:=55) Z Z Z)<|Ah (p:=Ao (zP gg) 0) (.inl Z) (zP gs) GB Z (b2.ldp (i:=0) sM) (Ae (e:=55) Z Z Z) ?_
   refine AA 102 [] [] [zP gs,zI ((2:Nat):Int)] Z Z Mk (Ae (e:=55) Z Z Z) (Cd _ gs _ _ _ ((2:Nat):Int) bf oM oM sD) ?_
   rintro fw fb ⟨f6,fm,rfl,a7,c4,ez,cu⟩
   refine⟨_,rfl,?_⟩
   replace a7:=a7.of_drew
   have e1:fa.heap.size≤fb.heap.size:=a7.size
   have c5:At [gs,gg] w fb:=a6.trans (a7.sub Eo)
   have c6:=b2.chg a7 (zB ·)
   have c7:=bg.chg a7 (zB ·)
   have c8:=b1.chg a7 (zB ·)
   refine Ac 1 Z ?_
   cases c9:f6
   ·exact Ai (by first|rfl|exact zW c9)<|A2 ⟨(((10:Nat):Int),0,fm),_,rfl,zR,⟨c5,c4,c6,c7,c8,oM,oM⟩⟩
   refine Af (by first|rfl|exact zW c9)<|Z1 [0,4] Z<|Ak (p:=zP w9.heap.size) 0 Bg Z Z Aa (Bi (k:=0) (w:=fb) GD Z Z ⟨rfl,rfl⟩ c8 sM Aa fun fc aq g0 bh=>?_)
   replace bh:BX fc.heap w9.heap.size [zI ((11:Nat):Int),zI f0,zI f1,zI 0,zN]:=bh
   have e2:fb.heap.size≤fc.heap.size:=aq.size
   have cv:At [gs,gg] w fc:=c5.fresh aq (fun _ h=>zE h)
   have cw:=c4.chg aq fun c hc=>zH<|A9 hc
   have ca:=c6.chg aq (zB ·)
   have cx:=c7.chg aq (zB ·)
   refine Aj<|Ab _ [0,0,0,2,4,0,4] Z<|Ad 1 Z<|AZ Z Aa<|Ak (p:=zP gg) 0 DC Z Z Aa<|Ah (p:=Ao (zP gg) 0) (.inr Z) (zP gs) GB Z (ca.ldp (i:=0) sM) Aa ?_
   refine AA 101 [] [] [zP gs,zI ((4:Nat):Int)] Z Z DG Aa (AU _ gs _ _ _ ((4:Nat):Int) cw oM oM sD) ?_
   rintro fx fd ⟨f2,fo,rfl,ar,cy,g1,cz⟩
   refine⟨_,rfl,?_⟩
   have e3:fc.heap.size≤fd.heap.size:=ar.size
   have d0:At [gs,gg] w fd:=cv.trans (ar.sub Eo)
   have d1:=ca.chg ar (zB ·)
   have d2:=cx.chg ar (zB ·)
   have d3:=bh.chg ar (zB ·)
   refine Ak (p:=zP w9.heap.size) 3 CX Z Z Aa (Bi (k:=3) (w:=fd) GD Z Z ⟨rfl,rfl⟩ d3 sM Aa fun ff au g2 bi=>?_)
   replace bi:BX ff.heap w9.heap.size [zI ((11:Nat):Int),zI f0,zI f1,zI f2,zN]:=bi
   have e5:fd.heap.size≤ff.heap.size:=au.size
   have d4:At [gs,gg] w ff:=d0.fresh au (fun _ h=>zE h)
   have d5:=cy.chg au fun c hc=>zH<|A9 hc
   have d6:=d1.chg au (zB ·)
   have d7:=d2.chg au (zB ·)
   exact Aj ⟨(((11:Nat):Int),f2,fo),_,rfl,zR,⟨d4,d5,d6,d7,bi,oM,oM⟩⟩
  exact Al false Z Z (A6 c3) Aa<|Ac 7 Z<|Ai Z<|A2 ⟨(((10:Nat):Int),0,fl),_,rfl,zR,⟨a6.drew,bf,b2,bg,b1,oM,oM⟩⟩
 clear dx ej bm ch cf bo cl e0 ba bb cm ah bq br af ag cn ai bs aj bt az bu b8 b9 a2 bw bx bz c0 c1 ct ak c2 a6 bf b2 bg
 rintro⟨k,cnt,m1⟩ ρ30 f4 ⟨cb,av,a8,a9,aa,hkc,gm⟩
 have e6:w.heap.size≤f4.heap.size:=cb.size
 have g3:=a8.lt
 have g4:=a9.lt
 have g5:=aa.lt
 refine A0<|Z2 Z<|A3 ?_
 refine AV (S:=Nat×Int×Nat×Value×List Ex) (fun⟨i,l,m,vk,xs⟩=>([(11,zI (i:Int)),(0,zP gg),(1,zI vars),(2,zI funcs),(3,zI (d:Int)),(8,zP w.heap.size),(9,zP w9.heap.size),(10,Ay a0 ((f0).toNat) 3)])) (fun⟨i,l,m,vk,xs⟩ W=>At [gs,gg] w W∧Fr (DZ 5 (Nx 153 d) 153) f4.heap.size W.heap.size W.heap vk xs∧DA W.heap gs sv cs m∧BX W.heap gg [zP gs,pp,zI l,.bool pl]∧BX W.heap w.heap.size [zI 0,zI 0,zI 0,zI 0,zN]∧BX W.heap w9.heap.size [zI k,zI f0,zI f1,zI cnt,vk]∧(i:Int)≤(p.getD (f0).toNat Fn.zero).params∧NW p funcs vars pl k d l0 l xs i∧(n0≤m∧m≤n0+8+OM i (Ge (d-1)))∧gg<f4.heap.size∧w.heap.size<f4.heap.size∧w9.heap.size<f4.heap.size∧f4.heap.size≤W.heap.size) (fun⟨i,l,m,vk,xs⟩=>(p.getD (f0).toNat Fn.zero).params.toNat-i) (0,l0,m1,zN,([]:List Ex)) ⟨rfl,rfl,rfl,rfl,rfl,rfl,rfl,rfl,trivial⟩ ⟨cb,(FJ _ 0 _).up<|As<|AX 153 d,av,a8,a9,aa,oM,(by exact NW.nil ..),(by exact⟨zO,by show _≤n0+8+0;omega⟩),oM,oM,oM,oM⟩ ?_
 clear aa a9 a8 av
 rintro⟨i,l,m,vk,xs⟩ ρ55 f3 ⟨al,ab,aw,ac,ad,a1,gn,hko,hmb,e7,e8,ea,eb⟩
 have ec:w.heap.size≤f3.heap.size:=al.size
 have g6:=ac.lt
 have g7:=ad.lt
 have g8:=a1.lt
 refine A0<|Z1 [0,0,0,0,2,0] Z<|Ad 2 Z<|AK (RN.isPtr<|RN.ptr (AH dp) (by decide) Fn.zero a5 sD) Z Aa<|AG (p:=Ay a0 ((f0).toNat) 3) 1 Co Z (a3 _ al) Aa<|Ah (p:=Ao (Ay a0 ((f0).toNat) 3) 1) (.inr Z) (zI<|(p.getD ((f0).toNat) Fn.zero).params) AB Z ((a3 _ al).ld (i:=1) (by simp[Ef,Eg])) Aa ?_
 by_cases cc:(i:Int)<(p.getD ((f0).toNat) Fn.zero).params
 ·refine AC true Z Z (A5 cc) Aa<|Aj<|Af Z<|A2<|A0<|A3 ?_
  letI:JR:=Rx [gs,gg]
  refine Jx.AW _ [0,1,0,0,0,0,0,3,3,4,0,4] mixed (by kernel_rfl) ?_
  have htn:=Kq (k:=Ge (d-1)) (i:=i+1) oM
  have hts:OM (i+1) (Ge (d-1))=OM i (Ge (d-1))+Ge (d-1):=rfl
  have hti:=LY (k:=Kp (d-1)) (i:=i) oM oM
  have hlo:=hko.lo
  have hln:=hko.len
  refine Jx.Ak (p:=zP w9.heap.size) 4 Bc Z Z Aa<|Jx.Y2 (p:=Ao (zP w9.heap.size) 4) vk Bl Z (fun wj hj=>(BX.chg (w:=f3.drew) (F:=[gs,gg]) a1 hj fun hm=>zH<|CS hm).ldp (i:=4) sM) Aa<|Jx.U0 (zP gg) Z Aa<|Jx.U0 (zI vars) Z Aa<|Jx.U0 (zI funcs) Z Aa<|Jx.U0 (zI (d:Int)) Z Aa<|Jx.j1<|Br ((d-1:Nat):Int) Z Z (by rw[D3 oM oM];omega) Aa<|Aj ?_
  refine Jx.Au 104 [] [] [zP gg,zI vars,zI funcs,zI ((d-1:Nat):Int)] Z Z Ml Aa (IH _ gg gs sv cs m pp dp l pl p (vars) (funcs) oM aw ac (hp.chg (B3<|AQ dp) al.drew) _hvars _hfuncs oM oM hpr oM oM oM) ?_
  rintro fy fg ⟨fp,f5,fq,fr,rfl,a4,d8,g9,d9,bj,da,ga⟩
  refine⟨_,rfl,a4,?_⟩
  replace bj:=bj.low (B':=f3.heap.size)<|A7 _
  replace a4:=a4.of_drew
  have ed:f3.heap.size≤fg.heap.size:=a4.size
  have db:At [gs,gg] w fg:=al.trans a4
  have dc:=ab.chg (As<|AX 153 d) a4 fun c hc=>zH<|CS hc
  have dd:=ad.chg a4 fun hm=>zH<|CS hm
  have de:=a1.chg a4 fun hm=>zH<|CS hm
  refine Jx.S0 Z (ET (cs:=[zI f5.kind,zI f5.num,zI f5.pick,zI f5.count,fp]) (y:=f5) (B:=f3.heap.size) (AX 153 d) CR Bp Z (by decide) Z (OI.mk1 oM da bj) oM Aa fun fs fh ae gb df=>?_)
  have ee:fg.heap.size≤fh.heap.size:=ae.size
  have dg:At [gs,gg] w fh:=db.ext ae
  have b3:=dc.ext (As<|AX 153 d) ae
  have b4:=d8.ext ae
  have b5:=d9.ext ae
  have b6:=dd.ext ae
  have b7:=de.ext ae
  refine I5 (v:=vk) (a:=fs) (AX 153 d) CR Bp Z (by decide) Z Z b3 oM df oM oM oM (by unfold maxLen;omega) Aa fun fk fe fz am ax cd=>?_
  have ef:fh.heap.size≤fe.heap.size:=am.size
  have dh:At [gs,gg] w fe:=dg.fresh am (fun c hc=>zH<|ax _ hc)
  have di:=b4.chg am fun c hc=>zH<|ax _ hc
  have dj:=b5.chg am fun hm=>zH<|ax _ hm
  have dk:=b6.chg am fun hm=>zH<|ax _ hm
  have dl:=b7.chg am fun hm=>zH<|ax _ hm
  refine Ak (p:=zP w9.heap.size) 4 Bc Z Z Aa (Bi (k:=4) (w:=fe) QU Z Z (Bk cd.isSlS) dl sM Aa fun fi an gc bk=>?_)
  replace bk:BX fi.heap w9.heap.size [zI k,zI f0,zI f1,zI cnt,fk]:=bk
  have eg:fe.heap.size≤fi.heap.size:=an.size
  have dm:At [gs,gg] w fi:=dh.fresh an (fun _ h=>zE h)
  have dn:=di.chg an fun c hc=>zH<|A9 hc
  have dq:=dj.chg an (zB ·)
  have dr:=dk.chg an (zB ·)
  have ds:=cd.chg (As<|AX 153 d) an fun _ h=>zA h
  exact Aj<|Ab _ [0,0,0] Z<|Ad 1 Z<|AM ((i+1:Nat):Int) Z Z (Ba oM oM) Aa<|Ac 1 Z ⟨(i+1,fr,fq,fk,xs++[f5]),_,rfl,zR,⟨dm,ds.up<|As<|AX 153 d,dn,dq,dr,bk,oM,(by exact hko.snoc oM (by rw[if_neg oM]) (by assumption)),oM,oM,oM,oM,oM⟩,zD⟩
 refine AC false Z Z (A6 cc) Aa<|Aj<|Ai Z<|A4<|Av<|Av<|Aq<|Z1 [2,4] Z<|AO (p:=zP w9.heap.size) (.inr Z) [zI k,zI f0,zI f1,zI cnt,vk] B7 Z (fun gp gd=>LD.of_box<|BX.ext (w:=f3) a1 gd) Z Aa (Bw (vs:=[zI k,zI f0,zI f1,zI cnt,vk]) B7 Z Z (by intro u hu;simp only[ze,z2,or_false]at hu;rcases hu with rfl|rfl|rfl|rfl|rfl <;> first|exact⟨rfl,rfl⟩|exact Bk ab.isSlS) ad Z Z Aa fun fj ao ge bl=>?_)
 replace bl:BX fj.heap w.heap.size [zI k,zI f0,zI f1,zI cnt,vk]:=bl
 have eh:f3.heap.size≤fj.heap.size:=ao.size
 have dt:At [gs,gg] w fj:=al.fresh ao (fun _ h=>zE h)
 have du:=ab.chg (As<|AX 153 d) ao fun _ h=>zA h
 have dv:=aw.chg ao fun c hc=>zH<|A9 hc
 have dw:=ac.chg ao (zB ·)
 have gf:=a1.chg ao (zB ·)
 refine Aj<|A1 ?_
 have hln:=hko.len
 have htn:=Kq (k:=Ge (d-1)) (i:=i) oM
 exact C7 (cs:=[zI k,zI f0,zI f1,zI cnt,vk]) Z B7 Z bl Z ⟨vk,.mk k f0 f1 cnt xs,m,l,rfl,dt,dv,⟨zO,zO⟩,dw,(du.up<|As<|AX 153 d).low (B':=w.heap.size) oM,Jd oM oM oM oM,(by exact hko.node1 oM oM oM (fun _=>by omega) (Us hkc oM oM oM))⟩
theorem No {p:Prop}(h:p:=by exact hko.snoc oM (by first|rw[if_pos oM]|rw[if_neg oM]) (by assumption)):p:=h
theorem Lp {p:Prop}(h:p:=by intro hpl;first|omega|(simp_all;omega)|simp_all):p:=h
theorem H9 (w:World)(gg gs:Nat)(sv:Value)(cs:List UInt8)(n0:Nat)(pp:Value)(dp:Nat)(l0:Int)(pl:Bool)(p:List Fn)(vars:Int)(funcs:Int)(d:Nat)(hgg:gs<gg)(hs:DA w.heap gs sv cs n0)(hB0:BX w.heap gg [zP gs,pp,zI l0,.bool pl])(hp:RN [gs,gg] (rP (IJ dp)) w.heap pp p)(_hvars:Bn vars)(_hfuncs:Bn funcs)(hv:0≤vars∧vars+(d:Int)≤1000)(hfu:0≤funcs∧funcs≤(p.length:Int))(hpr:Vr p)(hd:d≤8)(hn:n0+Ge d≤1000000000000)(hl:Kp d-1000000≤l0∧l0≤1000)(IH1:∀d',d'<d→GX d')(IH2:1≤d→GC d) :
  Calls Tryz.prog 104 #[zP gg,zI vars,zI funcs,zI (d:Int)] w (fun e w'=>∃(v:Value) (ex:Ex) (n1:Nat) (l1:Int),e=.returned (.agg #[zI ex.kind,zI ex.num,zI ex.pick,zI ex.count,v])∧At [gs,gg] w w'∧DA w'.heap gs sv cs n1∧(n0≤n1∧n1≤n0+(Ge d))∧BX w'.heap gg [zP gs,pp,zI l1,.bool pl]∧Fr (DZ 5 (Nx 153 d) 153) w.heap.size w'.heap.size w'.heap v ex.kids∧Rk ex∧NV p funcs vars pl d l0 l1 ex):=by
 refine Ap [zP gg,zI vars,zI funcs,zI (d:Int)] 117 Tryz.func104 Z Z sM ?_
 have l8:At [gs,gg] w w:=At.refl [gs,gg] w
 have pd:=hs.lt
 have mj:=hB0.lt
 have hst:=ML d
 have hnd:=Gf d
 have hnl:=PV (d:=d) oM
 refine Z1 [3] Z ?_
 have nt:=hB0.lt
 refine Bj (z:=.agg #[zI 0,zI 0,zI 0,zI 0,zN]) GE Aa fun w1 db ml ih=>?_
 have ii:w.heap.size≤w1.heap.size:=db.size
 have l9:At [gs,gg] w w1:=l8.ext db
 have ij:=hs.ext db
 have ci:=hB0.ext db
 replace ih:BX w1.heap w.heap.size [zI 0,zI 0,zI 0,zI 0,zN]:=ih
 refine Aj<|Z1 [0,0,0,2,0,0,0,4] Z<|Ad 1 Z<|AZ Z Aa<|Ak (p:=zP gg) 2 Lg Z Z Aa<|Ah (p:=Ao (zP gg) 2) (.inr Z) (zI l0) AB Z (ci.ldp (i:=2) sM) Aa ?_
 refine Br (l0-((1:Nat):Int)) Z Z (D3 sD sD) Aa<|AZ Z Aa ?_
 refine Ak (p:=zP gg) 2 Lg Z Z Aa (Bi (k:=2) (w:=w1) GD Z Z ⟨rfl,rfl⟩ ci sM Aa fun w3 dc mm cq=>?_)
 replace cq:BX w3.heap gg [zP gs,pp,zI (l0-((1:Nat):Int)),.bool pl]:=cq
 have ik:w1.heap.size≤w3.heap.size:=dc.size
 have da:At [gs,gg] w w3:=l9.trans (dc.sub Ut)
 have id:=ij.chg dc fun c hc=>zH<|A9 hc
 have ie:=ih.chg dc (zB ·)
 refine Aj<|A0<|Z1 [0,0,0,2,0,0,0,0,0,0,0,0,0,2,4,0] Z<|Ad 1 Z<|AZ Z Aa<|Ak (p:=zP gg) 2 Lg Z Z Aa<|Ah (p:=Ao (zP gg) 2) (.inr Z) (zI (l0-((1:Nat):Int))) AB Z (cq.ldp (i:=2) sM) Aa ?_
 by_cases la:l0-((1:Nat):Int)<((1:Nat):Int)
 ·refine AC true Z Z (A5 la) Aa<|Ac 11 Z<|Af Z<|Z1 [0,0,4,4] Z<|Ad 2 Z<|AA 163 [] [] [zP gg,zI vars] Z Z Ol Aa (Cw _ gg gs sv cs n0 pp dp (l0-((1:Nat):Int)) pl p (vars) oM id cq (hp.chg (B3<|AQ dp) da) _hvars oM oM) ?_
  rintro e7 w7 ⟨x7,n7,rfl,il,mn,nu,mo,mp,im,nv⟩
  refine⟨_,rfl,?_⟩
  have mq:w3.heap.size≤w7.heap.size:=il.size
  have mr:At [gs,gg] w w7:=da.trans il
  have ms:=ie.chg il fun hm=>zH<|CS hm
  refine Bw (vs:=[zI x7.kind,zI x7.num,zI x7.pick,zI x7.count,zN]) B7 Z Z Fi ms Z Z Aa fun w9 ig nw io=>?_
  replace io:BX w9.heap w.heap.size [zI x7.kind,zI x7.num,zI x7.pick,zI x7.count,zN]:=io
  have mt:w7.heap.size≤w9.heap.size:=ig.size
  have mu:At [gs,gg] w w9:=mr.fresh ig (fun _ h=>zE h)
  have ip:=mn.chg ig fun c hc=>zH<|A9 hc
  have iq:=mo.chg ig (zB ·)
  exact Aj<|A1<|Am<|C7 (cs:=[zI x7.kind,zI x7.num,zI x7.pick,zI x7.count,zN]) Z B7 Z io Z ⟨zN,x7,n7,l0-((1:Nat):Int),rfl,mu,ip,⟨zO,zO⟩,iq,(by rw[im];exact FJ _ _ _),mp,(by exact MM.ok (by assumption) d)⟩
 refine AC false Z Z (A6 la) Aa<|Ad 2 Z ?_
 by_cases dd:(d:Int)<((1:Nat):Int)
 ·refine AC true Z Z (A5 dd) (Ae (e:=24) Z Z Z)<|Ac 8 Z<|Af Z<|Z1 [0,0,4,4] Z<|Ad 2 Z<|AA 163 [] [] [zP gg,zI vars] Z Z Ol Aa (Cw _ gg gs sv cs n0 pp dp (l0-((1:Nat):Int)) pl p (vars) oM id cq (hp.chg (B3<|AQ dp) da) _hvars oM oM) ?_
  rintro pe o0 ⟨f5,oy,rfl,cr,ir,mv,is,it,de,mw⟩
  refine⟨_,rfl,?_⟩
  have lb:w3.heap.size≤o0.heap.size:=cr.size
  have iu:At [gs,gg] w o0:=da.trans cr
  have iv:=ie.chg cr fun hm=>zH<|CS hm
  refine Bw (vs:=[zI f5.kind,zI f5.num,zI f5.pick,zI f5.count,zN]) B7 Z Z Fi iv Z Z Aa fun o4 cc mx ct=>?_
  replace ct:BX o4.heap w.heap.size [zI f5.kind,zI f5.num,zI f5.pick,zI f5.count,zN]:=ct
  have lc:o0.heap.size≤o4.heap.size:=cc.size
  have iw:At [gs,gg] w o4:=iu.fresh cc (fun _ h=>zE h)
  have ix:=ir.chg cc fun c hc=>zH<|A9 hc
  have iy:=is.chg cc (zB ·)
  exact Aj<|A1<|Am<|C7 (cs:=[zI f5.kind,zI f5.num,zI f5.pick,zI f5.count,zN]) Z B7 Z ct Z ⟨zN,f5,oy,l0-((1:Nat):Int),rfl,iw,ix,⟨zO,zO⟩,iy,(by rw[de];exact FJ _ _ _),it,(by exact MM.ok (by assumption) d)⟩
 refine AC false Z Z (A6 dd) (Ae (e:=24) Z Z Z)<|Ad 3 Z<|AZ Z (Ae (e:=28) Z Z Z)<|Ak (p:=zP gg) 0 DC Z Z (Ae (e:=28) Z Z Z)<|Ah (p:=Ao (zP gg) 0) (.inr Z) (zP gs) GB Z (cq.ldp (i:=0) sM) (Ae (e:=28) Z Z Z) ?_
 refine AA 102 [] [] [zP gs,zI ((5:Nat):Int)] Z Z Mk (Ae (e:=28) Z Z Z) (Cd _ gs _ _ _ ((5:Nat):Int) id oM oM sD) ?_
 rintro pf f0 ⟨ft,oz,rfl,bn,df,my,iz⟩
 refine⟨_,rfl,?_⟩
 have dg:w3.heap.size≤f0.heap.size:=bn.size
 have cd:At [gs,gg] w f0:=da.trans (bn.sub Eo)
 have ce:=cq.chg bn (zB ·)
 have cf:=ie.chg bn (zB ·)
 refine Ac 1 Z ?_
 cases dh:ft
 ·refine Ai (by first|rfl|exact zW dh)<|A2<|Z1 [0,3,4] Z ?_
  have p0:=Tc (d:=d) oM
  have p2:=Vq (d:=d) oM
  have mz:=ML (d-1)
  have n2:=Gf (d-1)
  have di:∀(wq:World),(Instr.build 153 #[]).run Tryz.prog wq=.ok (.agg #[zI 0,zI 0,zI 0,zI 0,zN]) wq:=by intro wq;kernel_rfl
  refine C1 (ps:=#[]) (.agg #[zI 0,zI 0,zI 0,zI 0,zN]) (by simp only[zc,zf,zh]) (fun wq=>di  wq) Aa ?_
  have n3:=ce.lt
  have n4:=cf.lt
  refine Bj (z:=.agg #[zI 0,zI 0,zI 0,zI 0,zN]) GE Aa fun fy b4 j0 cu=>?_
  have dj:f0.heap.size≤fy.heap.size:=b4.size
  have dk:At [gs,gg] w fy:=cd.ext b4
  have cg:=df.ext b4
  have b1:=ce.ext b4
  have b2:=cf.ext b4
  replace cu:BX fy.heap f0.heap.size [zI 0,zI 0,zI 0,zI 0,zN]:=cu
  refine Bw (vs:=[zI 0,zI 0,zI 0,zI 0,zN]) B7 Z Z Fi cu Z Z Aa fun fz b5 j2 cv=>?_
  replace cv:BX fz.heap f0.heap.size [zI 0,zI 0,zI 0,zI 0,zN]:=cv
  have dl:fy.heap.size≤fz.heap.size:=b5.size
  have dm:At [gs,gg] w fz:=dk.fresh b5 (fun _ h=>zE h)
  have dn:=cg.chg b5 fun c hc=>zH<|A9 hc
  have cw:=b1.chg b5 (zB ·)
  have dq:=b2.chg b5 (zB ·)
  refine Aj<|A0<|Ip (S:=Int×Nat) (fun⟨k,m1⟩=>([(0,zP gg),(1,zI vars),(2,zI funcs),(3,zI (d:Int)),(8,zP w.heap.size),(9,zP f0.heap.size)])) (fun⟨k,m1⟩ W=>At [gs,gg] w W∧DA W.heap gs sv cs m1∧BX W.heap gg [zP gs,pp,zI (l0-((1:Nat):Int)),.bool pl]∧BX W.heap w.heap.size [zI 0,zI 0,zI 0,zI 0,zN]∧BX W.heap f0.heap.size [zI k,zI 0,zI 0,zI 0,zN]∧(k=3∨k=4∨k=5∨k=6∨k=7∨k=8∨k=9)∧(n0≤m1∧m1≤n0+4)) ?_ ?_
  ·refine Z1 [0,0,0,2,4] Z<|Ad 1 Z<|AZ Z Aa<|Ak (p:=zP gg) 0 DC Z Z Aa<|Ah (p:=Ao (zP gg) 0) (.inr Z) (zP gs) GB Z (cw.ldp (i:=0) sM) Aa ?_
   refine AA 101 [] [] [zP gs,zI ((12:Nat):Int)] Z Z DG Aa (AU _ gs _ _ _ ((12:Nat):Int) dn oM oM sD) ?_
   rintro pg f4 ⟨f1,fa,rfl,bo,ad,n5,j3⟩
   refine⟨_,rfl,?_⟩
   have ld:fz.heap.size≤f4.heap.size:=bo.size
   have ab:At [gs,gg] w f4:=dm.trans (bo.sub Eo)
   have ae:=cw.chg bo (zB ·)
   have af:=dq.chg bo (zB ·)
   have ag:=cv.chg bo (zB ·)
   refine Aj<|A3<|Z1 [0,0] Z ?_
   by_cases dr:f1=((0:Nat):Int)
   ·refine Al true Z Z (A5 dr) Aa<|Ac 1 Z<|Af Z<|Ab _ [0,4] Z<|Ak (p:=zP f0.heap.size) 0 Bg Z Z Aa (Bi (k:=0) (w:=f4) GD Z Z ⟨rfl,rfl⟩ ag sM Aa fun o5 bp n6 cx=>?_)
    replace cx:BX o5.heap f0.heap.size [zI ((7:Nat):Int),zI 0,zI 0,zI 0,zN]:=cx
    have le:f4.heap.size≤o5.heap.size:=bp.size
    have j4:At [gs,gg] w o5:=ab.fresh bp (fun _ h=>zE h)
    have j5:=ad.chg bp fun c hc=>zH<|A9 hc
    have j6:=ae.chg bp (zB ·)
    have j7:=af.chg bp (zB ·)
    exact Aj ⟨(((7:Nat):Int),fa),_,rfl,zR,⟨j4,j5,j6,j7,cx,oM,oM⟩⟩
   refine Al false Z Z (A6 dr) Aa<|Ac 1 Z<|Ai Z<|Z1 [0,0] Z ?_
   by_cases ds:f1=((1:Nat):Int)
   ·refine Al true Z Z (A5 ds) Aa<|Ac 1 Z<|Af Z<|Ab _ [0,4] Z<|Ak (p:=zP f0.heap.size) 0 Bg Z Z Aa (Bi (k:=0) (w:=f4) GD Z Z ⟨rfl,rfl⟩ ag sM Aa fun o6 bq n8 cy=>?_)
    replace cy:BX o6.heap f0.heap.size [zI ((9:Nat):Int),zI 0,zI 0,zI 0,zN]:=cy
    have lf:f4.heap.size≤o6.heap.size:=bq.size
    have j8:At [gs,gg] w o6:=ab.fresh bq (fun _ h=>zE h)
    have j9:=ad.chg bq fun c hc=>zH<|A9 hc
    have ja:=ae.chg bq (zB ·)
    have jb:=af.chg bq (zB ·)
    exact Aj ⟨(((9:Nat):Int),fa),_,rfl,zR,⟨j8,j9,ja,jb,cy,oM,oM⟩⟩
   refine Al false Z Z (A6 ds) Aa<|Ac 1 Z<|Ai Z<|Z1 [0,0] Z ?_
   by_cases dt:f1=((2:Nat):Int)
   ·refine Al true Z Z (A5 dt) Aa<|Ac 1 Z<|Af Z<|Ab _ [0,4] Z<|Ak (p:=zP f0.heap.size) 0 Bg Z Z Aa (Bi (k:=0) (w:=f4) GD Z Z ⟨rfl,rfl⟩ ag sM Aa fun o7 br n9 cz=>?_)
    replace cz:BX o7.heap f0.heap.size [zI ((8:Nat):Int),zI 0,zI 0,zI 0,zN]:=cz
    have lg:f4.heap.size≤o7.heap.size:=br.size
    have jc:At [gs,gg] w o7:=ab.fresh br (fun _ h=>zE h)
    have jd:=ad.chg br fun c hc=>zH<|A9 hc
    have je:=ae.chg br (zB ·)
    have jf:=af.chg br (zB ·)
    exact Aj ⟨(((8:Nat):Int),fa),_,rfl,zR,⟨jc,jd,je,jf,cz,oM,oM⟩⟩
   refine Al false Z Z (A6 dt) Aa<|Ac 1 Z<|Ai Z<|Z1 [0,0] Z ?_
   by_cases du:f1=((3:Nat):Int)
   ·refine Al true Z Z (A5 du) Aa<|Ac 1 Z<|Af Z<|Ab _ [0,4] Z<|Ak (p:=zP f0.heap.size) 0 Bg Z Z Aa (Bi (k:=0) (w:=f4) GD Z Z ⟨rfl,rfl⟩ ag sM Aa fun o8 bs na d0=>?_)
    replace d0:BX o8.heap f0.heap.size [zI ((6:Nat):Int),zI 0,zI 0,zI 0,zN]:=d0
    have lh:f4.heap.size≤o8.heap.size:=bs.size
    have jg:At [gs,gg] w o8:=ab.fresh bs (fun _ h=>zE h)
    have jh:=ad.chg bs fun c hc=>zH<|A9 hc
    have ji:=ae.chg bs (zB ·)
    have jj:=af.chg bs (zB ·)
    exact Aj ⟨(((6:Nat):Int),fa),_,rfl,zR,⟨jg,jh,ji,jj,d0,oM,oM⟩⟩
   refine Al false Z Z (A6 du) Aa<|Ac 1 Z<|Ai Z<|A0<|Z1 [0,0] Z ?_
   by_cases dv:f1=((4:Nat):Int)
   ·refine Al true Z Z (A5 dv) Aa<|Ac 1 Z<|Af Z<|A2<|Af Z<|Ab _ [0,4] Z<|Ak (p:=zP f0.heap.size) 0 Bg Z Z Aa (Bi (k:=0) (w:=f4) GD Z Z ⟨rfl,rfl⟩ ag sM Aa fun o9 bt nb d1=>?_)
    replace d1:BX o9.heap f0.heap.size [zI ((3:Nat):Int),zI 0,zI 0,zI 0,zN]:=d1
    have li:f4.heap.size≤o9.heap.size:=bt.size
    have jk:At [gs,gg] w o9:=ab.fresh bt (fun _ h=>zE h)
    have jl:=ad.chg bt fun c hc=>zH<|A9 hc
    have jm:=ae.chg bt (zB ·)
    have jn:=af.chg bt (zB ·)
    exact Aj ⟨(((3:Nat):Int),fa),_,rfl,zR,⟨jk,jl,jm,jn,d1,oM,oM⟩⟩
   refine Al false Z Z (A6 dv) Aa<|Ac 1 Z<|Ai Z<|Ab _ [0,0] Z ?_
   by_cases dw:f1=((5:Nat):Int)
   ·refine Al true Z Z (A5 dw) Aa<|Ac 1 Z<|Af Z<|Ab _ [0,4] Z<|Ak (p:=zP f0.heap.size) 0 Bg Z Z Aa (Bi (k:=0) (w:=f4) GD Z Z ⟨rfl,rfl⟩ ag sM Aa fun oa bu nc d2=>?_)
    replace d2:BX oa.heap f0.heap.size [zI ((3:Nat):Int),zI 0,zI 0,zI 0,zN]:=d2
    have lj:f4.heap.size≤oa.heap.size:=bu.size
    have jo:At [gs,gg] w oa:=ab.fresh bu (fun _ h=>zE h)
    have jp:=ad.chg bu fun c hc=>zH<|A9 hc
    have jq:=ae.chg bu (zB ·)
    have jr:=af.chg bu (zB ·)
    exact Aj ⟨(((3:Nat):Int),fa),_,rfl,zR,⟨jo,jp,jq,jr,d2,oM,oM⟩⟩
   refine Al false Z Z (A6 dw) Aa<|Ac 1 Z<|Ai Z<|Z1 [0,0] Z ?_
   by_cases dx:f1=((6:Nat):Int)
   ·refine Al true Z Z (A5 dx) Aa<|Ac 1 Z<|Af Z<|Ab _ [0,4] Z<|Ak (p:=zP f0.heap.size) 0 Bg Z Z Aa (Bi (k:=0) (w:=f4) GD Z Z ⟨rfl,rfl⟩ ag sM Aa fun ob bv nd d3=>?_)
    replace d3:BX ob.heap f0.heap.size [zI ((4:Nat):Int),zI 0,zI 0,zI 0,zN]:=d3
    have lk:f4.heap.size≤ob.heap.size:=bv.size
    have js:At [gs,gg] w ob:=ab.fresh bv (fun _ h=>zE h)
    have jt:=ad.chg bv fun c hc=>zH<|A9 hc
    have ju:=ae.chg bv (zB ·)
    have jv:=af.chg bv (zB ·)
    exact Aj ⟨(((4:Nat):Int),fa),_,rfl,zR,⟨js,jt,ju,jv,d3,oM,oM⟩⟩
   refine Al false Z Z (A6 dx) Aa<|Ac 1 Z<|Ai Z<|A0<|Z1 [0,0] Z ?_
   by_cases dy:f1=((7:Nat):Int)
   ·refine Al true Z Z (A5 dy) Aa<|Ac 1 Z<|Af Z<|A2<|Af Z<|Ab _ [0,4] Z<|Ak (p:=zP f0.heap.size) 0 Bg Z Z Aa (Bi (k:=0) (w:=f4) GD Z Z ⟨rfl,rfl⟩ ag sM Aa fun oc bw ne d4=>?_)
    replace d4:BX oc.heap f0.heap.size [zI ((5:Nat):Int),zI 0,zI 0,zI 0,zN]:=d4
    have ll:f4.heap.size≤oc.heap.size:=bw.size
    have jw:At [gs,gg] w oc:=ab.fresh bw (fun _ h=>zE h)
    have jx:=ad.chg bw fun c hc=>zH<|A9 hc
    have jy:=ae.chg bw (zB ·)
    have jz:=af.chg bw (zB ·)
    exact Aj ⟨(((5:Nat):Int),fa),_,rfl,zR,⟨jw,jx,jy,jz,d4,oM,oM⟩⟩
   refine Al false Z Z (A6 dy) Aa<|Ac 1 Z<|Ai Z<|Z1 [0,0] Z ?_
   by_cases dz:f1=((8:Nat):Int)
   ·refine Al true Z Z (A5 dz) Aa<|Ac 1 Z<|Af Z<|A2<|Af Z<|Ab _ [0,4] Z<|Ak (p:=zP f0.heap.size) 0 Bg Z Z Aa (Bi (k:=0) (w:=f4) GD Z Z ⟨rfl,rfl⟩ ag sM Aa fun od bx nf d5=>?_)
    replace d5:BX od.heap f0.heap.size [zI ((5:Nat):Int),zI 0,zI 0,zI 0,zN]:=d5
    have lm:f4.heap.size≤od.heap.size:=bx.size
    have k0:At [gs,gg] w od:=ab.fresh bx (fun _ h=>zE h)
    have k1:=ad.chg bx fun c hc=>zH<|A9 hc
    have k3:=ae.chg bx (zB ·)
    have k4:=af.chg bx (zB ·)
    exact Aj ⟨(((5:Nat):Int),fa),_,rfl,zR,⟨k0,k1,k3,k4,d5,oM,oM⟩⟩
   refine Al false Z Z (A6 dz) Aa<|Ac 1 Z<|Ai Z<|Ab _ [0,0] Z ?_
   by_cases e0:f1=((9:Nat):Int)
   ·refine Al true Z Z (A5 e0) Aa<|Ac 1 Z<|Af Z<|Ab _ [0,4] Z<|Ak (p:=zP f0.heap.size) 0 Bg Z Z Aa (Bi (k:=0) (w:=f4) GD Z Z ⟨rfl,rfl⟩ ag sM Aa fun oe bz ng d6=>?_)
    replace d6:BX oe.heap f0.heap.size [zI ((5:Nat):Int),zI 0,zI 0,zI 0,zN]:=d6
    have ln:f4.heap.size≤oe.heap.size:=bz.size
    have k5:At [gs,gg] w oe:=ab.fresh bz (fun _ h=>zE h)
    have k6:=ad.chg bz fun c hc=>zH<|A9 hc
    have k7:=ae.chg bz (zB ·)
    have k8:=af.chg bz (zB ·)
    exact Aj ⟨(((5:Nat):Int),fa),_,rfl,zR,⟨k5,k6,k7,k8,d6,oM,oM⟩⟩
   refine Al false Z Z (A6 e0) Aa<|Ac 1 Z<|Ai Z<|Z1 [0,0,0,0,4,4] Z<|Ad 4 Z<|AA 164 [] [] [zP gg,zI vars,zI funcs,zI (d:Int)] Z Z Xl Aa (IH2 oM _ gg gs sv cs fa pp dp (l0-((1:Nat):Int)) pl p (vars) (funcs) oM ad ae (hp.chg (B3<|AQ dp) ab) _hvars _hfuncs oM oM hpr oM oM oM) ?_
   rintro ph og ⟨nz,f6,p4,p5,rfl,ch,k9,nh,ka,e1,kb,ni⟩
   refine⟨_,rfl,?_⟩
   have lp:f4.heap.size≤og.heap.size:=ch.size
   have kc:At [gs,gg] w og:=ab.trans ch
   have kd:=af.chg ch fun hm=>zH<|CS hm
   have ke:=ag.chg ch fun hm=>zH<|CS hm
   refine Bw (vs:=[zI f6.kind,zI f6.num,zI f6.pick,zI f6.count,nz]) B7 Z Z (by intro u hu;simp only[ze,z2,or_false]at hu;rcases hu with rfl|rfl|rfl|rfl|rfl <;> first|exact⟨rfl,rfl⟩|exact Bk e1.isSlS) kd Z Z Aa fun oh b6 nj d7=>?_
   replace d7:BX oh.heap w.heap.size [zI f6.kind,zI f6.num,zI f6.pick,zI f6.count,nz]:=d7
   have lq:og.heap.size≤oh.heap.size:=b6.size
   have kf:At [gs,gg] w oh:=kc.fresh b6 (fun _ h=>zE h)
   have kg:=k9.chg b6 fun c hc=>zH<|A9 hc
   have kh:=ka.chg b6 (zB ·)
   have nk:=ke.chg b6 (zB ·)
   have ki:=e1.chg (As<|AX 153 d) b6 fun _ h=>zA h
   exact Aj<|A1<|AF<|Am<|C7 (cs:=[zI f6.kind,zI f6.num,zI f6.pick,zI f6.count,nz]) Z B7 Z d7 Z ⟨nz,f6,p4,p5,rfl,kf,kg,⟨zO,zO⟩,kh,(ki.up<|As<|AX 153 d).low (B':=w.heap.size) oM,kb,(by exact NV.up1 (by assumption))⟩
  clear l8 ml db ii l9 mm dc ik da id ie bn dg cd ce cf j0 b4 dj dk b1 b2 j2 b5 dl dm dn cw dq
  rintro⟨k,m1⟩ ρ30 fu ⟨b7,ah,a2,a6,a1,hkk,nx⟩
  have e2:w.heap.size≤fu.heap.size:=b7.size
  have nl:=a2.lt
  have nm:=a6.lt
  have nn:=a1.lt
  refine A0<|Ip (S:=Int) (fun(k2:Int)=>([(0,zP gg),(1,zI vars),(2,zI funcs),(3,zI (d:Int)),(8,zP w.heap.size),(9,zP f0.heap.size)])) (fun(k2:Int) (W:World)=>At [gs,gg] w W∧DA W.heap gs sv cs m1∧BX W.heap gg [zP gs,pp,zI (l0-((1:Nat):Int)),.bool pl]∧BX W.heap w.heap.size [zI 0,zI 0,zI 0,zI 0,zN]∧BX W.heap f0.heap.size [zI k2,zI 0,zI 0,zI 0,zN]∧(k2=3∨k2=4∨k2=5∨k2=6∨k2=7∨k2=8∨k2=9)∧(pl=true→k2≠6∧k2≠8)) ?_ ?_
  ·refine Z1 [0,0,0,2,0,0,2,0,0,0,2,0,0,0] Z<|Ad 1 Z<|AZ Z Aa<|Ak (p:=zP gg) 3 SP Z Z Aa<|Ah (p:=Ao (zP gg) 3) (.inr Z) (.bool (true && pl)) SK Z (a2.ldp (i:=3) sM) Aa<|Ad 1 Z ?_
   cases no:(true && pl)
   ·exact Ac 9 Z<|Ai Z<|A2 ⟨k,_,rfl,zR,⟨b7,ah,a2,a6,a1,oM,Lp⟩⟩
   refine Ak (p:=zP f0.heap.size) 0 Bg Z Z (Ae (e:=77) Z Z Z)<|Ah (p:=Ao (zP f0.heap.size) 0) (.inr Z) (zI k) AB Z (a1.ldp (i:=0) sM) (Ae (e:=77) Z Z Z) ?_
   by_cases e3:k=((8:Nat):Int)
   ·refine Al true Z Z (A5 e3) (Ae (e:=77) Z Z Z)<|Ac 6 Z<|Af Z<|Ab _ [0,4] Z<|Ak (p:=zP f0.heap.size) 0 Bg Z Z Aa (Bi (k:=0) (w:=fu) GD Z Z ⟨rfl,rfl⟩ a1 sM Aa fun oi c0 np d8=>?_)
    replace d8:BX oi.heap f0.heap.size [zI ((5:Nat):Int),zI 0,zI 0,zI 0,zN]:=d8
    have lr:fu.heap.size≤oi.heap.size:=c0.size
    have kj:At [gs,gg] w oi:=b7.fresh c0 (fun _ h=>zE h)
    have e4:=ah.chg c0 fun c hc=>zH<|A9 hc
    have e5:=a2.chg c0 (zB ·)
    have e6:=a6.chg c0 (zB ·)
    exact Aj ⟨((5:Nat):Int),_,rfl,zR,⟨kj,e4,e5,e6,d8,oM,Lp⟩⟩
   refine Al false Z Z (A6 e3) (Ae (e:=77) Z Z Z)<|Ad 1 Z<|Ak (p:=zP f0.heap.size) 0 Bg Z Z (Ae (e:=81) Z Z Z)<|Ah (p:=Ao (zP f0.heap.size) 0) (.inr Z) (zI k) AB Z (a1.ldp (i:=0) sM) (Ae (e:=81) Z Z Z) ?_
   by_cases cj:k=((6:Nat):Int)
   ·refine Al true Z Z (A5 cj) (Ae (e:=81) Z Z Z)<|Ac 2 Z<|Af Z<|Ab _ [0,4] Z<|Ak (p:=zP f0.heap.size) 0 Bg Z Z Aa (Bi (k:=0) (w:=fu) GD Z Z ⟨rfl,rfl⟩ a1 sM Aa fun fe au ls c1=>?_)
    replace c1:BX fe.heap f0.heap.size [zI ((5:Nat):Int),zI 0,zI 0,zI 0,zN]:=c1
    have kk:fu.heap.size≤fe.heap.size:=au.size
    have e8:At [gs,gg] w fe:=b7.fresh au (fun _ h=>zE h)
    have e9:=ah.chg au fun c hc=>zH<|A9 hc
    have ea:=a2.chg au (zB ·)
    have eb:=a6.chg au (zB ·)
    exact Aj ⟨((5:Nat):Int),_,rfl,zR,⟨e8,e9,ea,eb,c1,oM,Lp⟩⟩
   exact Al false Z Z (A6 cj) (Ae (e:=81) Z Z Z)<|Ac 2 Z<|Ai Z<|A2 ⟨k,_,rfl,zR,⟨b7,ah,a2,a6,a1,oM,Lp⟩⟩
  clear a1 a6 a2 ah b7 e2
  rintro k2 ρ96 fs ⟨ec,c2,ay,az,b0,nq,nr⟩
  have lu:w.heap.size≤fs.heap.size:=ec.size
  have lv:=ay.lt
  have lw:=az.lt
  have lx:=b0.lt
  refine A0<|Z2 Z<|A3 ?_
  have hknb:=Yi nq
  refine AV (S:=Nat×Int×Nat×Value×List Ex) (fun⟨i,l,m,vk,xs⟩=>([(10,zI (i:Int)),(0,zP gg),(1,zI vars),(2,zI funcs),(3,zI (d:Int)),(8,zP w.heap.size),(9,zP f0.heap.size)])) (fun⟨i,l,m,vk,xs⟩ W=>At [gs,gg] w W∧Fr (DZ 5 (Nx 153 d) 153) fs.heap.size W.heap.size W.heap vk xs∧DA W.heap gs sv cs m∧BX W.heap gg [zP gs,pp,zI l,.bool pl]∧BX W.heap w.heap.size [zI 0,zI 0,zI 0,zI 0,zN]∧BX W.heap f0.heap.size [zI k2,zI 0,zI 0,zI 0,vk]∧(i:Int)≤kn k2∧NW p funcs vars pl k2 d (l0-1) l xs i∧(n0≤m∧m≤n0+8+OM i (Ge (d-1)))∧gg<fs.heap.size∧w.heap.size<fs.heap.size∧f0.heap.size<fs.heap.size∧fs.heap.size≤W.heap.size) (fun⟨i,l,m,vk,xs⟩=>(kn k2).toNat-i) (0,l0-((1:Nat):Int),m1,zN,([]:List Ex)) ⟨rfl,rfl,rfl,rfl,rfl,rfl,rfl,trivial⟩ ⟨ec,(FJ _ 0 _).up<|As<|AX 153 d,c2,ay,az,b0,oM,(by exact NW.nil ..),(by exact⟨zO,by show _≤n0+8+0;omega⟩),oM,oM,oM,oM⟩ ?_
  clear b0 az ay c2
  rintro⟨i,l,m,vk,xs⟩ ρ114 f2 ⟨a7,a3,ac,a4,a5,a0,ny,hko,hmb,kl,km,ko,kp⟩
  have kq:w.heap.size≤f2.heap.size:=a7.size
  have ly:=a4.lt
  have lz:=a5.lt
  have m0:=a0.lt
  refine A0<|Z1 [0,0,2,0,0] Z<|Ad 1 Z<|Ak (p:=zP f0.heap.size) 0 Bg Z Z Aa<|Ah (p:=Ao (zP f0.heap.size) 0) (.inr Z) (zI k2) AB Z (a0.ldp (i:=0) sM) Aa<|Ax 165 [] [] [zI k2] Z Z Ty Aa (zI<|kn k2) (fun wq=>YX wq _ oM) ?_
  by_cases ck:(i:Int)<kn k2
  ·refine AC true Z Z (A5 ck) Aa<|Aj<|Af Z<|A2<|A0<|A3<|Z1 [0,0] Z<|Ac 2 Z<|A0<|Z1 [0,2,0,0,0,0,0] Z<|Ak (p:=zP f0.heap.size) 0 Bg Z Z Aa<|Ah (p:=Ao (zP f0.heap.size) 0) (.inr Z) (zI k2) AB Z (a0.ldp (i:=0) sM) Aa ?_
   by_cases cl:k2=((9:Nat):Int)
   ·refine Al true Z Z (A5 cl) Aa<|Ad 2 Z ?_
    by_cases cm:(i:Int)=((1:Nat):Int)
    ·refine Al true Z Z (A5 cm) (Ae (e:=99) Z Z Z)<|Ac 1 Z<|Af Z<|Ab _ [0,0,0] Z<|Ad 1 Z ?_
     refine AM (vars+((1:Nat):Int)) Z Z (D3 sD sD) Aa<|Ac 1 Z ?_
     letI:JR:=Rx [gs,gg]
     refine Jx.AW _ [0,1,0,0,0,0,0,3,3,4,0,4] mixed (by kernel_rfl) ?_
     have htn:=Kq (k:=Ge (d-1)) (i:=i+1) oM
     have hts:OM (i+1) (Ge (d-1))=OM i (Ge (d-1))+Ge (d-1):=rfl
     have hti:=LY (k:=Kp (d-1)) (i:=i) oM oM
     have hlo:=hko.lo
     have hln:=hko.len
     refine Jx.Ak (p:=zP f0.heap.size) 4 Bc Z Z Aa<|Jx.Y2 (p:=Ao (zP f0.heap.size) 4) vk Bl Z (fun wj hj=>(BX.chg (w:=f2.drew) (F:=[gs,gg]) a0 hj fun hm=>zH<|CS hm).ldp (i:=4) sM) Aa<|Jx.U0 (zP gg) Z Aa<|Jx.U0 (zI (vars+((1:Nat):Int))) Z Aa<|Jx.U0 (zI funcs) Z Aa<|Jx.U0 (zI (d:Int)) Z Aa<|Jx.j1<|Br ((d-1:Nat):Int) Z Z (by rw[D3 oM oM];omega) Aa<|Aj ?_
     refine Jx.Au 104 [] [] [zP gg,zI (vars+((1:Nat):Int)),zI funcs,zI ((d-1:Nat):Int)] Z Z Ml Aa (IH1 (d-1) oM _ gg gs sv cs m pp dp l pl p (vars+((1:Nat):Int)) (funcs) oM ac a4 (hp.chg (B3<|AQ dp) a7.drew) oM _hfuncs oM oM hpr oM oM oM) ?_
     rintro p6 ff ⟨oj,f7,ol,om,rfl,a8,ed,m2,ee,c3,ef,m3⟩
     refine⟨_,rfl,a8,?_⟩
     replace c3:=c3.low (B':=f2.heap.size)<|A7 _
     replace a8:=a8.of_drew
     have kr:f2.heap.size≤ff.heap.size:=a8.size
     have eg:At [gs,gg] w ff:=a7.trans a8
     have eh:=a3.chg (As<|AX 153 d) a8 fun c hc=>zH<|CS hc
     have ei:=a5.chg a8 fun hm=>zH<|CS hm
     have ej:=a0.chg a8 fun hm=>zH<|CS hm
     refine Jx.S0 Z (ET (cs:=[zI f7.kind,zI f7.num,zI f7.pick,zI f7.count,oj]) (y:=f7) (B:=f2.heap.size) (AX 153 d) CR Bp Z (by decide) Z (OI.mk1 oM ef c3) oM Aa fun on fg ai m4 ek=>?_)
     have ks:ff.heap.size≤fg.heap.size:=ai.size
     have el:At [gs,gg] w fg:=eg.ext ai
     have b8:=eh.ext (As<|AX 153 d) ai
     have b9:=ed.ext ai
     have ba:=ee.ext ai
     have bb:=ei.ext ai
     have bc:=ej.ext ai
     refine I5 (v:=vk) (a:=on) (AX 153 d) CR Bp Z (by decide) Z Z b8 oM ek oM oM oM (by unfold maxLen;omega) Aa fun fv fb p7 al av cn=>?_
     have kt:fg.heap.size≤fb.heap.size:=al.size
     have em:At [gs,gg] w fb:=el.fresh al (fun c hc=>zH<|av _ hc)
     have en:=b9.chg al fun c hc=>zH<|av _ hc
     have eo:=ba.chg al fun hm=>zH<|av _ hm
     have ep:=bb.chg al fun hm=>zH<|av _ hm
     have eq:=bc.chg al fun hm=>zH<|av _ hm
     refine Ak (p:=zP f0.heap.size) 4 Bc Z Z Aa (Bi (k:=4) (w:=fb) QU Z Z (Bk cn.isSlS) eq sM Aa fun fh am m5 c4=>?_)
     replace c4:BX fh.heap f0.heap.size [zI k2,zI 0,zI 0,zI 0,fv]:=c4
     have ku:fb.heap.size≤fh.heap.size:=am.size
     have er:At [gs,gg] w fh:=em.fresh am (fun _ h=>zE h)
     have es:=en.chg am fun c hc=>zH<|A9 hc
     have et:=eo.chg am (zB ·)
     have eu:=ep.chg am (zB ·)
     have ev:=cn.chg (As<|AX 153 d) am fun _ h=>zA h
     exact Aj<|Ab _ [0,0,0] Z<|Ad 1 Z<|AM ((i+1:Nat):Int) Z Z (Ba oM oM) Aa<|Ac 1 Z ⟨(i+1,om,ol,fv,xs++[f7]),_,rfl,zR,⟨er,ev.up<|As<|AX 153 d,es,et,eu,c4,oM,No,oM,oM,oM,oM,oM⟩,zD⟩
    refine Al false Z Z (A6 cm) (Ae (e:=99) Z Z Z)<|Ac 1 Z<|Ai Z<|A2 ?_
    letI:JR:=Rx [gs,gg]
    refine Jx.AW _ [0,1,0,0,0,0,0,3,3,4,0,4] mixed (by kernel_rfl) ?_
    have htn:=Kq (k:=Ge (d-1)) (i:=i+1) oM
    have hts:OM (i+1) (Ge (d-1))=OM i (Ge (d-1))+Ge (d-1):=rfl
    have hti:=LY (k:=Kp (d-1)) (i:=i) oM oM
    have hlo:=hko.lo
    have hln:=hko.len
    refine Jx.Ak (p:=zP f0.heap.size) 4 Bc Z Z Aa<|Jx.Y2 (p:=Ao (zP f0.heap.size) 4) vk Bl Z (fun wj hj=>(BX.chg (w:=f2.drew) (F:=[gs,gg]) a0 hj fun hm=>zH<|CS hm).ldp (i:=4) sM) Aa<|Jx.U0 (zP gg) Z Aa<|Jx.U0 (zI vars) Z Aa<|Jx.U0 (zI funcs) Z Aa<|Jx.U0 (zI (d:Int)) Z Aa<|Jx.j1<|Br ((d-1:Nat):Int) Z Z (by rw[D3 oM oM];omega) Aa<|Aj ?_
    refine Jx.Au 104 [] [] [zP gg,zI vars,zI funcs,zI ((d-1:Nat):Int)] Z Z Ml Aa (IH1 (d-1) oM _ gg gs sv cs m pp dp l pl p (vars) (funcs) oM ac a4 (hp.chg (B3<|AQ dp) a7.drew) _hvars _hfuncs oM oM hpr oM oM oM) ?_
    rintro p8 fi ⟨oo,f8,op,oq,rfl,a9,ew,m6,ey,c5,ez,m7⟩
    refine⟨_,rfl,a9,?_⟩
    replace c5:=c5.low (B':=f2.heap.size)<|A7 _
    replace a9:=a9.of_drew
    have kv:f2.heap.size≤fi.heap.size:=a9.size
    have g0:At [gs,gg] w fi:=a7.trans a9
    have g1:=a3.chg (As<|AX 153 d) a9 fun c hc=>zH<|CS hc
    have g2:=a5.chg a9 fun hm=>zH<|CS hm
    have g3:=a0.chg a9 fun hm=>zH<|CS hm
    refine Jx.S0 Z (ET (cs:=[zI f8.kind,zI f8.num,zI f8.pick,zI f8.count,oo]) (y:=f8) (B:=f2.heap.size) (AX 153 d) CR Bp Z (by decide) Z (OI.mk1 oM ez c5) oM Aa fun os fj aj m8 g4=>?_)
    have kw:fi.heap.size≤fj.heap.size:=aj.size
    have g5:At [gs,gg] w fj:=g0.ext aj
    have bd:=g1.ext (As<|AX 153 d) aj
    have be:=ew.ext aj
    have bf:=ey.ext aj
    have bg:=g2.ext aj
    have bh:=g3.ext aj
    refine I5 (v:=vk) (a:=os) (AX 153 d) CR Bp Z (by decide) Z Z bd oM g4 oM oM oM (by unfold maxLen;omega) Aa fun fw fc p9 an aw co=>?_
    have kx:fj.heap.size≤fc.heap.size:=an.size
    have g6:At [gs,gg] w fc:=g5.fresh an (fun c hc=>zH<|aw _ hc)
    have g7:=be.chg an fun c hc=>zH<|aw _ hc
    have g8:=bf.chg an fun hm=>zH<|aw _ hm
    have g9:=bg.chg an fun hm=>zH<|aw _ hm
    have ga:=bh.chg an fun hm=>zH<|aw _ hm
    refine Ak (p:=zP f0.heap.size) 4 Bc Z Z Aa (Bi (k:=4) (w:=fc) QU Z Z (Bk co.isSlS) ga sM Aa fun fk ao m9 c6=>?_)
    replace c6:BX fk.heap f0.heap.size [zI k2,zI 0,zI 0,zI 0,fw]:=c6
    have ky:fc.heap.size≤fk.heap.size:=ao.size
    have gb:At [gs,gg] w fk:=g6.fresh ao (fun _ h=>zE h)
    have gc:=g7.chg ao fun c hc=>zH<|A9 hc
    have gd:=g8.chg ao (zB ·)
    have ge:=g9.chg ao (zB ·)
    have gf:=co.chg (As<|AX 153 d) ao fun _ h=>zA h
    exact Aj<|Ab _ [0,0,0] Z<|Ad 1 Z<|AM ((i+1:Nat):Int) Z Z (Ba oM oM) Aa<|Ac 1 Z ⟨(i+1,oq,op,fw,xs++[f8]),_,rfl,zR,⟨gb,gf.up<|As<|AX 153 d,gc,gd,ge,c6,oM,No,oM,oM,oM,oM,oM⟩,zD⟩
   refine Al false Z Z (A6 cl) Aa<|Ac 4 Z<|Ai Z<|A2 ?_
   letI:JR:=Rx [gs,gg]
   refine Jx.AW _ [0,1,0,0,0,0,0,3,3,4,0,4] mixed (by kernel_rfl) ?_
   have htn:=Kq (k:=Ge (d-1)) (i:=i+1) oM
   have hts:OM (i+1) (Ge (d-1))=OM i (Ge (d-1))+Ge (d-1):=rfl
   have hti:=LY (k:=Kp (d-1)) (i:=i) oM oM
   have hlo:=hko.lo
   have hln:=hko.len
   refine Jx.Ak (p:=zP f0.heap.size) 4 Bc Z Z Aa<|Jx.Y2 (p:=Ao (zP f0.heap.size) 4) vk Bl Z (fun wj hj=>(BX.chg (w:=f2.drew) (F:=[gs,gg]) a0 hj fun hm=>zH<|CS hm).ldp (i:=4) sM) Aa<|Jx.U0 (zP gg) Z Aa<|Jx.U0 (zI vars) Z Aa<|Jx.U0 (zI funcs) Z Aa<|Jx.U0 (zI (d:Int)) Z Aa<|Jx.j1<|Br ((d-1:Nat):Int) Z Z (by rw[D3 oM oM];omega) Aa<|Aj ?_
   refine Jx.Au 104 [] [] [zP gg,zI vars,zI funcs,zI ((d-1:Nat):Int)] Z Z Ml Aa (IH1 (d-1) oM _ gg gs sv cs m pp dp l pl p (vars) (funcs) oM ac a4 (hp.chg (B3<|AQ dp) a7.drew) _hvars _hfuncs oM oM hpr oM oM oM) ?_
   rintro pa fl ⟨ot,f9,ou,ov,rfl,aa,gh,ma,gi,c7,gj,mb⟩
   refine⟨_,rfl,aa,?_⟩
   replace c7:=c7.low (B':=f2.heap.size)<|A7 _
   replace aa:=aa.of_drew
   have kz:f2.heap.size≤fl.heap.size:=aa.size
   have gk:At [gs,gg] w fl:=a7.trans aa
   have gl:=a3.chg (As<|AX 153 d) aa fun c hc=>zH<|CS hc
   have gm:=a5.chg aa fun hm=>zH<|CS hm
   have gn:=a0.chg aa fun hm=>zH<|CS hm
   refine Jx.S0 Z (ET (cs:=[zI f9.kind,zI f9.num,zI f9.pick,zI f9.count,ot]) (y:=f9) (B:=f2.heap.size) (AX 153 d) CR Bp Z (by decide) Z (OI.mk1 oM gj c7) oM Aa fun ow fm ak mc go=>?_)
   have l2:fl.heap.size≤fm.heap.size:=ak.size
   have gp:At [gs,gg] w fm:=gk.ext ak
   have bi:=gl.ext (As<|AX 153 d) ak
   have bj:=gh.ext ak
   have bk:=gi.ext ak
   have bl:=gm.ext ak
   have bm:=gn.ext ak
   refine I5 (v:=vk) (a:=ow) (AX 153 d) CR Bp Z (by decide) Z Z bi oM go oM oM oM (by unfold maxLen;omega) Aa fun fx fd pb ap ax cp=>?_
   have l3:fm.heap.size≤fd.heap.size:=ap.size
   have gq:At [gs,gg] w fd:=gp.fresh ap (fun c hc=>zH<|ax _ hc)
   have gr:=bj.chg ap fun c hc=>zH<|ax _ hc
   have gt:=bk.chg ap fun hm=>zH<|ax _ hm
   have gu:=bl.chg ap fun hm=>zH<|ax _ hm
   have gv:=bm.chg ap fun hm=>zH<|ax _ hm
   refine Ak (p:=zP f0.heap.size) 4 Bc Z Z Aa (Bi (k:=4) (w:=fd) QU Z Z (Bk cp.isSlS) gv sM Aa fun fo aq md c8=>?_)
   replace c8:BX fo.heap f0.heap.size [zI k2,zI 0,zI 0,zI 0,fx]:=c8
   have l4:fd.heap.size≤fo.heap.size:=aq.size
   have gw:At [gs,gg] w fo:=gq.fresh aq (fun _ h=>zE h)
   have gx:=gr.chg aq fun c hc=>zH<|A9 hc
   have gy:=gt.chg aq (zB ·)
   have gz:=gu.chg aq (zB ·)
   have i0:=cp.chg (As<|AX 153 d) aq fun _ h=>zA h
   exact Aj<|Ab _ [0,0,0] Z<|Ad 1 Z<|AM ((i+1:Nat):Int) Z Z (Ba oM oM) Aa<|Ac 1 Z ⟨(i+1,ov,ou,fx,xs++[f9]),_,rfl,zR,⟨gw,i0.up<|As<|AX 153 d,gx,gy,gz,c8,oM,No,oM,oM,oM,oM,oM⟩,zD⟩
  refine AC false Z Z (A6 ck) Aa<|Aj<|Ai Z<|A4<|Av<|Av<|Aq<|Z1 [2,4] Z<|AO (p:=zP f0.heap.size) (.inr Z) [zI k2,zI 0,zI 0,zI 0,vk] B7 Z (fun pi ns=>LD.of_box<|BX.ext (w:=f2) a0 ns) Z Aa (Bw (vs:=[zI k2,zI 0,zI 0,zI 0,vk]) B7 Z Z (by intro u hu;simp only[ze,z2,or_false]at hu;rcases hu with rfl|rfl|rfl|rfl|rfl <;> first|exact⟨rfl,rfl⟩|exact Bk a3.isSlS) a5 Z Z Aa fun fp ar me c9=>?_)
  replace c9:BX fp.heap w.heap.size [zI k2,zI 0,zI 0,zI 0,vk]:=c9
  have l5:f2.heap.size≤fp.heap.size:=ar.size
  have i1:At [gs,gg] w fp:=a7.fresh ar (fun _ h=>zE h)
  have i2:=a3.chg (As<|AX 153 d) ar fun _ h=>zA h
  have i3:=ac.chg ar fun c hc=>zH<|A9 hc
  have i4:=a4.chg ar (zB ·)
  have mf:=a0.chg ar (zB ·)
  refine Aj<|A1 ?_
  have hln:=hko.len
  have htn:=Kq (k:=Ge (d-1)) (i:=i) oM
  exact C7 (cs:=[zI k2,zI 0,zI 0,zI 0,vk]) Z B7 Z c9 Z ⟨vk,.mk k2 0 0 0 xs,m,l,rfl,i1,i3,⟨zO,zO⟩,i4,(i2.up<|As<|AX 153 d).low (B':=w.heap.size) oM,Jd oM oM oM oM,(by exact hko.node oM oM oM nr (Ur oM oM))⟩
 refine Af (by first|rfl|exact zW dh)<|Z1 [0,0,4,4] Z<|Ad 2 Z<|AA 163 [] [] [zP gg,zI vars] Z Z Ol Aa (Cw _ gg gs sv cs oz pp dp (l0-((1:Nat):Int)) pl p (vars) oM df ce (hp.chg (B3<|AQ dp) cd) _hvars oM oM) ?_
 rintro pc fq ⟨f3,ox,rfl,ca,i5,mg,i6,i7,d9,mh⟩
 refine⟨_,rfl,?_⟩
 have l6:f0.heap.size≤fq.heap.size:=ca.size
 have i8:At [gs,gg] w fq:=cd.trans ca
 have i9:=cf.chg ca fun hm=>zH<|CS hm
 refine Bw (vs:=[zI f3.kind,zI f3.num,zI f3.pick,zI f3.count,zN]) B7 Z Z Fi i9 Z Z Aa fun fr b3 mi cb=>?_
 replace cb:BX fr.heap w.heap.size [zI f3.kind,zI f3.num,zI f3.pick,zI f3.count,zN]:=cb
 have l7:fq.heap.size≤fr.heap.size:=b3.size
 have ia:At [gs,gg] w fr:=i8.fresh b3 (fun _ h=>zE h)
 have ib:=i5.chg b3 fun c hc=>zH<|A9 hc
 have ic:=i6.chg b3 (zB ·)
 exact Aj<|A1<|Am<|C7 (cs:=[zI f3.kind,zI f3.num,zI f3.pick,zI f3.count,zN]) Z B7 Z cb Z ⟨zN,f3,ox,l0-((1:Nat):Int),rfl,ia,ib,⟨zO,zO⟩,ic,(by rw[d9];exact FJ _ _ _),i7,(by exact MM.ok (by assumption) d)⟩
theorem Vc:∀d,GX d∧(1≤d→GC d):=by
  intro d
  induction d using Nat.strongRecOn with
  |_ d ih =>
    have hc:1≤d→GC d:=fun h1 w gg gs sv cs n0 pp dp l0 pl p vars funcs hgg hs hB0 hp hv' hf' hv hfu hpr hd hn hl=>H8 w gg gs sv cs n0 pp dp l0 pl p vars funcs d hgg hs hB0 hp hv' hf' hv hfu hpr hd hn hl (ih (d-1) zO).1
    exact⟨fun w gg gs sv cs n0 pp dp l0 pl p vars funcs hgg hs hB0 hp hv' hf' hv hfu hpr hd hn hl=>H9 w gg gs sv cs n0 pp dp l0 pl p vars funcs d hgg hs hB0 hp hv' hf' hv hfu hpr hd hn hl (fun d' h=>(ih d' h).1) hc,hc⟩
theorem Vd (d:Nat):GX d:=(Vc d).1
theorem Ha (w:World)(g:Nat)(sv:Value)(cs:List UInt8)(n0:Nat)(vl:Value)(us:List Value)(hs:DA w.heap g sv cs n0)(a7:n0+2≤1000000000000)(hl:∀w',At [g] w w'→Rd (B4 rV) w'.heap vl us)(hus:∀u∈us,∃s,u=Value.string s)(hul:1≤us.length∧us.length≤1000)  :
  Calls Tryz.prog 103 #[zP g,vl] w (fun e w'=>∃(x0:ByteArray) (n1:Nat),e=.returned (.string x0)∧At [g] w w'∧DA w'.heap g sv cs n1∧(n0≤n1∧n1≤n0+2)∧(Value.string x0∈us)):=by
 refine Ap [zP g,vl] 12 Tryz.func103 Z Z sM ?_
 have a1:At [g] w w:=At.refl [g] w
 have aa:=(hl _ a1).lenle
 have ab:=hs.lt
 refine Z2 Z<|Z1 [0,0,0,0,4,0,2,0] Z<|Ad 3 Z<|AP (v:=vl) V4 Z (hl _ a1).isSl Aa<|AA 101 [] [] [zP g,zI (us.length:Int)] Z Z DG Aa (AU _ g _ _ _ (us.length:Int) hs oM oM oM) ?_
 rintro e1 w1 ⟨a9,n1,rfl,a3,a5,a8,a4⟩
 refine⟨_,rfl,?_⟩
 have a6:w.heap.size≤w1.heap.size:=a3.size
 have a2:At [g] w w1:=a1.trans a3
 refine Az (v:=vl) ((a9).toNat) V4 Z9 Z Z (hl _ a2).isSl oM sD Aa ?_
 obtain⟨sx2,a0⟩:=hus (us.getD ((a9).toNat) undef) (PW sD)
 refine Ah (p:=Ay vl ((a9).toNat) 1) (.inr Z) (.string sx2) Nb Z (by rw[← a0];exact(Rd.getV (hl _ a2) sD).1) Aa ?_
 have hsm:Value.string sx2∈us:=a0 ▸ PW sD
 exact Ac 1 Z<|A1<|Ag [4] Z (.string sx2) Z ⟨sx2,n1,rfl,a2,a5,⟨zO,zO⟩,hsm⟩
theorem JK (w:World)(n:Int)(_hn:Bn n)(hk:0≤n∧n<10) :
  Calls Tryz.prog 161 #[zI n] w (fun e w'=>∃s,e=.returned (.string s)∧AE w w'∧s=HD n.toNat):=by
 refine Ap [zI n] 20 Tryz.func161 Z Z sM ?_
 have a2:AE w w:=AE.refl w
 refine Z2 Z<|A0<|Z1 [0,0] Z<|Ad 1 Z ?_
 by_cases a0:n<((10:Nat):Int)
 ·refine AC true Z Z (A5 a0) Aa<|Aj<|Af Z<|Z1 [0,0,0,3,2,0] Z<|Ad 1 Z ?_
  refine AM (((48:Nat):Int)+n) Z Z (D3 sD sD) Aa<|GJ (IntKind.u8.wrap (((48:Nat):Int)+n)) u2 u5 Z Z Aa ?_
  refine BI (u:=.int .u8<|IntKind.u8.wrap (((48:Nat):Int)+n)) (B:=w.heap.size) BB Ot YU Z Z (Nu (w.heap.size) (w.heap.size) _ ⟨rfl,rfl⟩) (A7 _) Aa fun v2 w2 a1 a6 a3=>?_
  have a4:=a1.size
  have a5:=a2.trans a1
  exact S5 Ot u5 u9 Z a3 Aa<|Ac 1 Z<|A1<|Am<|Ag [2] Z (.string (⟨#[UInt8.ofNat (IntKind.u8.wrap (((48:Nat):Int)+n)).toNat]⟩:ByteArray)) Z ⟨(⟨#[UInt8.ofNat (IntKind.u8.wrap (((48:Nat):Int)+n)).toNat]⟩:ByteArray),rfl,a5,(by exact Uv hk.1 hk.2)⟩
 exact absurd hk.2 a0
theorem JL (w:World)(g:Nat)(sv:Value)(cs:List UInt8)(n0:Nat)(funcs:Int)(nodes:Int)(plain:Bool)(hs:DA w.heap g sv cs n0)(j0:n0+(150000*funcs.toNat)≤1000000000000)(_hfuncs:Bn funcs)(_hnodes:Bn nodes)(hfn:0≤funcs∧funcs≤9)(hnd:1≤nodes∧nodes≤30) :
  Calls Tryz.prog 100 #[zP g,zI funcs,zI nodes,.bool plain] w (fun e w'=>∃(v:Value) (p:List Fn) (n1:Nat),e=.returned (.agg #[v])∧At [g] w w'∧DA w'.heap g sv cs n1∧(n0≤n1∧n1≤n0+(150000*funcs.toNat))∧Fr (DZ 3 (Pk 153 6) 33) w.heap.size w'.heap.size w'.heap v p∧JQ p plain∧Dn p∧(p.length:Int)=funcs):=by
 refine Ap [zP g,zI funcs,zI nodes,.bool plain] 65 Tryz.func100 Z Z sM ?_
 have ga:At [g] w w:=At.refl [g] w
 have j7:=hs.lt
 have j1:=Yj
 have j2:=Yk
 refine Z1 [3] Z (Bj (z:=.agg #[zN]) P4 Aa fun w1 dr i1 ds=>?_)
 have dt:w.heap.size≤w1.heap.size:=dr.size
 have gb:At [g] w w1:=ga.ext dr
 have du:=hs.ext dr
 replace ds:BX w1.heap w.heap.size [zN]:=ds
 refine Aj<|Z1 [0,3,4] Z ?_
 have dv:∀(wq:World),(Instr.build 26 #[]).run Tryz.prog wq=.ok (.agg #[zN]) wq:=by intro wq;kernel_rfl
 refine C1 (ps:=#[]) (.agg #[zN]) (by simp only[zc,zf,zh]) (fun wq=>dv  wq) Aa ?_
 have j3:=ds.lt
 refine Bj (z:=.agg #[zN]) P4 Aa fun w3 cb i2 dw=>?_
 have dx:w1.heap.size≤w3.heap.size:=cb.size
 have gc:At [g] w w3:=gb.ext cb
 have dy:=du.ext cb
 have cc:=ds.ext cb
 replace dw:BX w3.heap w1.heap.size [zN]:=dw
 refine Bw (vs:=[zN]) Do Z Z (by intro u hu;simp only[ze,z2,or_false]at hu;rcases hu with rfl <;> first|exact⟨rfl,rfl⟩) dw Z Z Aa fun w5 cd i3 dz=>?_
 replace dz:BX w5.heap w1.heap.size [zN]:=dz
 have i4:w3.heap.size≤w5.heap.size:=cd.size
 have i5:At [g] w w5:=gc.fresh cd (fun _ h=>zE h)
 have gd:=dy.chg cd fun c hc=>zH<|A9 hc
 have ge:=cc.chg cd (zB ·)
 refine Aj<|A0<|Z2 Z<|A3 ?_
 refine AV (S:=Nat×Value×List Fn×Nat) (fun⟨k,vp,ps,m⟩=>([(10,zI (k:Int)),(0,zP g),(1,zI funcs),(2,zI nodes),(3,.bool plain),(8,zP w.heap.size),(9,zP w1.heap.size)])) (fun⟨k,vp,ps,m⟩ W=>At [g] w W∧Fr (DZ 3 (Pk 153 6) 33) w5.heap.size W.heap.size W.heap vp ps∧DA W.heap g sv cs m∧BX W.heap w.heap.size [zN]∧BX W.heap w1.heap.size [vp]∧(k:Int)≤funcs∧JQ ps plain∧Dn ps∧ps.length=k∧(n0≤m∧m≤n0+150000*k)∧(g<w5.heap.size∧w.heap.size≤w5.heap.size)∧w.heap.size<w5.heap.size∧w1.heap.size<w5.heap.size∧w5.heap.size≤W.heap.size) (fun⟨k,vp,ps,m⟩=>funcs.toNat-k) (0,zN,([]:List Fn),n0) ⟨rfl,rfl,rfl,rfl,rfl,rfl,rfl,trivial⟩ ⟨i5,(FJ _ 0 _).up<|As<|B1 153 6,gd,ge,dz,oM,(by exact JQ.nil _),Dn.nil,(by rfl),oM,oM,oM,oM,oM⟩ ?_
 clear ga i1 dr dt gb i2 cb dx gc i3 cd gd ge
 rintro⟨k,vp,ps,m⟩ ρ10 f4 ⟨bx,ab,an,ac,a1,hkf,fb,hdn,hpk,hmk,hgb,i6,i7,gf⟩
 have gg:w.heap.size≤f4.heap.size:=bx.size
 have i8:=ac.lt
 have i9:=a1.lt
 refine A0<|Z1 [0,0,0] Z<|Ad 2 Z ?_
 by_cases ce:(k:Int)<funcs
 ·refine AC true Z Z (A5 ce) Aa<|Aj<|Af Z<|A2<|A0<|A3<|Z1 [0,3,4,0,3,0,0,4,0,0,3,4] Z<|Ad 1 Z (Uw (ys:=[.string<|⟨#[102]⟩,.string<|⟨#[103]⟩,.string<|⟨#[115,116,101,112]⟩,.string<|⟨#[104,50]⟩]) BB V4 Z9 Z Z Z Z Z Z (Vs ⟨rfl,rfl⟩ ⟨rfl,rfl⟩ ⟨rfl,rfl⟩ ⟨rfl,rfl⟩) Aa fun fq fh ao e0 bz=>?_)
  have cf:f4.heap.size≤fh.heap.size:=ao.size
  have cg:At [g] w fh:=bx.ext ao
  have a5:=ab.ext (As<|B1 153 6) ao
  have a6:=an.ext ao
  have a7:=ac.ext ao
  have a8:=a1.ext ao
  refine AA 103 [] [] [zP g,fq] Z Z X3 Aa (Ha _ g _ _ _ fq _ a6 oM (fun w9 h9=>(bz.chg oV h9 fun c hc=>zH<|A9 hc).rdV1) (by intro u hu;simp only[ze,z2,or_false]at hu;rcases hu with rfl|rfl|rfl|rfl <;> exact⟨_,rfl⟩) sM) ?_
  rintro j8 fi ⟨f1,j9,rfl,ap,e1,ia,c0⟩
  refine⟨_,rfl,?_⟩
  have ch:fh.heap.size≤fi.heap.size:=ap.size
  have ci:At [g] w fi:=cg.trans ap
  have cj:=a5.chg (As<|B1 153 6) ap fun _ h=>zA h
  have ck:=a7.chg ap (zB ·)
  have cl:=a8.chg ap (zB ·)
  have cm:=bz.chg (oV) ap fun _ h=>zA h
  have hfo:=PZ c0
  refine Ad 1 Z<|Au 161 [] [] [zI (k:Int)] Z Z Xk Aa (JK _ (k:Int) oM oM) ?_
  rintro ja fj ⟨st21,rfl,ad,rfl⟩
  refine⟨_,rfl,ad,?_⟩
  have cn:fi.heap.size≤fj.heap.size:=ad.size
  have co:At [g] w fj:=ci.ext ad
  have az:=cj.ext (As<|B1 153 6) ad
  have bo:=e1.ext ad
  have b0:=ck.ext ad
  have b1:=cl.ext ad
  have b2:=cm.ext (oV) ad
  refine U8 (a:=f1) (b:=HD k) Z Z (by have:=ON _ hfo;have:=PX k;omega) Aa<|Ad 1 Z<|AA 101 [] [] [zP g,zI ((3:Nat):Int)] Z Z DG Aa (AU _ g _ _ _ ((3:Nat):Int) bo oM oM sD) ?_
  rintro jb f2 ⟨f0,jc,rfl,aq,e2,ib,e3⟩
  refine⟨_,rfl,?_⟩
  have cp:fj.heap.size≤f2.heap.size:=aq.size
  have cq:At [g] w f2:=co.trans aq
  have cr:=az.chg (As<|B1 153 6) aq fun _ h=>zA h
  have c1:=b0.chg aq (zB ·)
  have c2:=b1.chg aq (zB ·)
  have ct:=b2.chg (oV) aq fun _ h=>zA h
  refine AM (((1:Nat):Int)+f0) Z Z (D3 sD sD) Aa ?_
  have cu:∀(wq:World),(Instr.build 33 #[(0,.string (f1++HD k)),(1,zI (((1:Nat):Int)+f0))]).run Tryz.prog wq=.ok (.agg #[.string (f1++HD k),zI (((1:Nat):Int)+f0),zN]) wq:=by intro wq;kernel_rfl
  refine C1 (ps:=#[(0,.string (f1++HD k)),(1,zI (((1:Nat):Int)+f0))]) (.agg #[.string (f1++HD k),zI (((1:Nat):Int)+f0),zN]) (by simp only[zc,zf,zh];rfl) (fun wq=>cu  wq) Aa ?_
  have ic:=c1.lt
  have id:=c2.lt
  refine Bj (z:=.agg #[.string ByteArray.empty,zI 0,zN]) V5 Aa fun fc ag e4 c3=>?_
  have cv:f2.heap.size≤fc.heap.size:=ag.size
  have cw:At [g] w fc:=cq.ext ag
  have b3:=cr.ext (As<|B1 153 6) ag
  have bp:=e2.ext ag
  have b4:=c1.ext ag
  have b5:=c2.ext ag
  have b6:=ct.ext (oV) ag
  replace c3:BX fc.heap f2.heap.size [.string ByteArray.empty,zI 0,zN]:=c3
  refine Bw (vs:=[.string (f1++HD k),zI (((1:Nat):Int)+f0),zN]) Ju Z Z (by intro u hu;simp only[ze,z2,or_false]at hu;rcases hu with rfl|rfl|rfl <;> first|exact⟨rfl,rfl⟩) c3 Z Z Aa fun fd ah e5 c4=>?_
  replace c4:BX fd.heap f2.heap.size [.string (f1++HD k),zI (((1:Nat):Int)+f0),zN]:=c4
  have cx:fc.heap.size≤fd.heap.size:=ah.size
  have cy:At [g] w fd:=cw.fresh ah (fun _ h=>zE h)
  have cz:=b3.chg (As<|B1 153 6) ah fun _ h=>zA h
  have d0:=bp.chg ah fun c hc=>zH<|A9 hc
  have d1:=b4.chg ah (zB ·)
  have d2:=b5.chg ah (zB ·)
  have d3:=b6.chg (oV) ah fun _ h=>zA h
  refine Aj<|Z1 [0,4,0,0] Z<|Ad 1 Z<|AA 101 [] [] [zP g,zI ((3:Nat):Int)] Z Z DG Aa (AU _ g _ _ _ ((3:Nat):Int) d0 oM oM sD) ?_
  rintro jd fe ⟨f5,je,rfl,ai,e6,ie,e7⟩
  refine⟨_,rfl,?_⟩
  have d4:fd.heap.size≤fe.heap.size:=ai.size
  have d5:At [g] w fe:=cy.trans ai
  have d6:=cz.chg (As<|B1 153 6) ai fun _ h=>zA h
  have d7:=d1.chg ai (zB ·)
  have d8:=d2.chg ai (zB ·)
  have d9:=d3.chg (oV) ai fun _ h=>zA h
  have da:=c4.chg ai (zB ·)
  refine AM (((1:Nat):Int)+f5) Z Z (D3 sD sD) Aa<|Ac 1 Z ?_
  refine A0<|Ip (S:=Int×Nat) (fun⟨o,m1⟩=>([(12,zI o),(0,zP g),(1,zI funcs),(2,zI nodes),(3,.bool plain),(8,zP w.heap.size),(9,zP w1.heap.size),(10,zI (k:Int)),(11,zP f2.heap.size)])) (fun⟨o,m1⟩ W=>At [g] w W∧Fr (DZ 3 (Pk 153 6) 33) w5.heap.size f4.heap.size W.heap vp ps∧DA W.heap g sv cs m1∧BX W.heap w.heap.size [zN]∧BX W.heap w1.heap.size [vp]∧BX W.heap f2.heap.size [.string (f1++HD k),zI (((1:Nat):Int)+f0),zN]∧(1≤o∧o≤3)∧(n0≤m1∧m1≤n0+150000*k+8)∧f4.heap.size≤fe.heap.size∧(g<w5.heap.size∧w.heap.size≤w5.heap.size)∧f4.heap.size≤f2.heap.size∧w5.heap.size≤W.heap.size) ?_ ?_
  ·refine Z1 [0,4] Z<|Ad 1 Z<|AA 102 [] [] [zP g,zI ((2:Nat):Int)] Z Z Mk Aa (Cd _ g _ _ _ ((2:Nat):Int) e6 oM oM sD) ?_
   rintro jf fr ⟨fa,fs,rfl,ar,db,ig,e8⟩
   refine⟨_,rfl,?_⟩
   have gh:fe.heap.size≤fr.heap.size:=ar.size
   have dc:At [g] w fr:=d5.trans ar
   have dd:=d6.chg (As<|B1 153 6) ar fun _ h=>zA h
   have de:=d7.chg ar (zB ·)
   have df:=d8.chg ar (zB ·)
   have ih:=d9.chg (oV) ar fun _ h=>zA h
   have c5:=da.chg ar (zB ·)
   refine Aj ?_
   cases dg:fa
   ·exact Ai (by first|rfl|exact zW dg)<|A2 ⟨(((1:Nat):Int)+f5,fs),_,rfl,zR,⟨dc,dd,db,de,df,c5,oM,oM,oM,oM,oM,oM⟩⟩
   exact Af (by first|rfl|exact zW dg)<|Ab _ [0,2,0] Z<|Ak (p:=zP f2.heap.size) 1 Co Z Z Aa<|Ah (p:=Ao (zP f2.heap.size) 1) (.inr Z) (zI (((1:Nat):Int)+f0)) AB Z (c5.ldp (i:=1) sM) Aa<|Ac 1 Z ⟨(((1:Nat):Int)+f0,fs),_,rfl,zR,⟨dc,dd,db,de,df,c5,oM,oM,oM,oM,oM,oM⟩⟩
  clear a1 ac an ab bz e0 ao cf cg a5 a6 a7 a8 ap ch ci cj ck cl cm ad cn co az b0 b1 b2 aq cp cq cr c1 c2 ct e4 ag cv cw b3 b4 b5 b6 e5 ah cx cy cz d0 d1 d2 d3 ai d4 d5 d6 d7 d8 d9 da
  rintro⟨o,m1⟩ ρ43 f6 ⟨dh,bh,bi,au,av,aw,j4,j5,huw,hgb,huf,gi⟩
  have gj:w.heap.size≤f6.heap.size:=dh.size
  have ii:=au.lt
  have ij:=av.lt
  have ik:=aw.lt
  refine A0<|Z2 Z<|A3 ?_
  refine AV (S:=Nat×Value×List Ex×Nat) (fun⟨i,vo,xs,m2⟩=>([(13,zI (i:Int)),(0,zP g),(1,zI funcs),(2,zI nodes),(3,.bool plain),(8,zP w.heap.size),(9,zP w1.heap.size),(10,zI (k:Int)),(11,zP f2.heap.size),(12,zI o)])) (fun⟨i,vo,xs,m2⟩ W=>At [g] w W∧Fr (DZ 5 (Nx 153 6) 153) f6.heap.size W.heap.size W.heap vo xs∧Fr (DZ 3 (Pk 153 6) 33) w5.heap.size f4.heap.size W.heap vp ps∧DA W.heap g sv cs m2∧BX W.heap w.heap.size [zN]∧BX W.heap w1.heap.size [vp]∧BX W.heap f2.heap.size [.string (f1++HD k),zI (((1:Nat):Int)+f0),vo]∧(i:Int)≤o∧PY ps (((1:Nat):Int)+f0) plain xs i∧(n0≤m2∧m2≤n0+150000*k+8+47770*i)∧f4.heap.size≤f6.heap.size∧(g<w5.heap.size∧w.heap.size≤w5.heap.size)∧f4.heap.size≤f2.heap.size∧w.heap.size<f6.heap.size∧w1.heap.size<f6.heap.size∧f2.heap.size<f6.heap.size∧f6.heap.size≤W.heap.size∧w5.heap.size≤W.heap.size) (fun⟨i,vo,xs,m2⟩=>o.toNat-i) (0,zN,([]:List Ex),m1) ⟨rfl,rfl,rfl,rfl,rfl,rfl,rfl,rfl,rfl,rfl,trivial⟩ ⟨dh,(FJ _ 0 _).up<|As<|AX 153 6,bh,bi,au,av,aw,oM,(by exact PY.nil _ _ _),oM,oM,oM,oM,oM,oM,oM,oM,oM⟩ ?_
  clear aw av au bi bh
  rintro⟨i,vo,xs,m2⟩ ρ58 f3 ⟨c6,bj,bk,bl,ae,a2,a3,hio,hff,j6,huw,hgb,huf,gk,gl,gm,gn,go⟩
  have gp:w.heap.size≤f3.heap.size:=c6.size
  have il:=ae.lt
  have im:=a2.lt
  have io:=a3.lt
  refine A0<|Z1 [0,0,0] Z<|Ad 2 Z ?_
  by_cases di:(i:Int)<o
  ·refine AC true Z Z (A5 di) Aa<|Aj<|Af Z<|A2<|A0<|A3<|Z1 [0,0,0,0,3,0] Z<|Ad 3 Z ?_
   have dj:∀(wq:World),(Instr.build 151 #[(0,zP g),(1,zP w1.heap.size),(2,zI nodes),(3,.bool plain)]).run Tryz.prog wq=.ok (.agg #[zP g,zP w1.heap.size,zI nodes,.bool plain]) wq:=by intro wq;kernel_rfl
   refine C1 (ps:=#[(0,zP g),(1,zP w1.heap.size),(2,zI nodes),(3,.bool plain)]) (.agg #[zP g,zP w1.heap.size,zI nodes,.bool plain]) (by simp only[zc,zf,zh];rfl) (fun wq=>dj  wq) Aa ?_
   have ip:=ae.lt
   have iq:=a2.lt
   have ir:=a3.lt
   refine Bx (cs:=#[zP g,zP w1.heap.size,zI nodes,.bool plain]) Z Aa fun f7 aj is c7=>?_
   have gq:f3.heap.size≤f7.heap.size:=aj.size
   have e9:At [g] w f7:=c6.ext aj
   have b7:=bj.ext (As<|AX 153 6) aj
   have a9:=bk.ext (As<|B1 153 6) aj
   have b8:=bl.ext aj
   have b9:=ae.ext aj
   have aa:=a2.ext aj
   have a0:=a3.ext aj
   replace c7:BX f7.heap f3.heap.size [zP g,zP w1.heap.size,zI nodes,.bool plain]:=c7
   refine Ac 1 Z ?_
   letI:JR:=Rx [g,f3.heap.size]
   refine Jx.AW _ [0,1,0,0,1,0,3,3,4,0,4] mixed (by kernel_rfl)<|Jx.Ak (p:=zP f2.heap.size) 2 BU Z Z Aa<|Jx.Y2 (p:=Ao (zP f2.heap.size) 2) vo Bl Z (fun wj hj=>(BX.chg (w:=f7.drew) (F:=[g,f3.heap.size]) a0 hj fun hm=>zH<|CS hm).ldp (i:=2) sM) Aa<|Jx.U0 (zP f3.heap.size) Z Aa<|Jx.Ak (p:=zP f2.heap.size) 1 Co Z Z Aa ?_
   refine Jx.Y2 (p:=Ao (zP f2.heap.size) 1) (zI (((1:Nat):Int)+f0)) AB Z (fun wj hj=>(BX.chg (w:=f7.drew) (F:=[g,f3.heap.size]) a0 hj fun hm=>zH<|CS hm).ldp (i:=1) sM) Aa<|Jx.U0 (zI (k:Int)) Z Aa ?_
   refine Jx.Au 104 [] [] [zP f3.heap.size,zI (((1:Nat):Int)+f0),zI (k:Int),zI ((5:Nat):Int)] Z Z Ml Aa (Vd 5 _ f3.heap.size g sv cs m2 (zP w1.heap.size) 6 nodes plain ps (((1:Nat):Int)+f0) (k:Int) oM b8 c7 (RN.box aa (RP.mk'<|RN.of_frF2 a9 fun b hb=>zH<|CS hb) fun hb=>zH<|CS hb) oM oM oM oM fb.gpr oM oM oM) ?_
   rintro jg fk ⟨fv,f9,fw,jh,rfl,a4,ea,it,eb,c8,ec,iu⟩
   refine⟨_,rfl,a4,?_⟩
   replace c8:=c8.low (B':=f7.heap.size)<|A7 _
   replace a4:=a4.of_drew
   have gr:f7.heap.size≤fk.heap.size:=a4.size
   have ed:At [g] w fk:=e9.new2 a4 (List.mem_singleton.2 Z) oM
   have ee:=b7.chg (As<|AX 153 6) a4 fun c hc=>zH<|CS hc
   have ef:=a9.chg (As<|B1 153 6) a4 fun c hc=>zH<|CS hc
   have eg:=b9.chg a4 fun hm=>zH<|CS hm
   have eh:=aa.chg a4 fun hm=>zH<|CS hm
   have ei:=a0.chg a4 fun hm=>zH<|CS hm
   refine Jx.S0 Z (ET (cs:=[zI f9.kind,zI f9.num,zI f9.pick,zI f9.count,fv]) (y:=f9) (B:=f7.heap.size) (AX 153 6) CR Bp Z (by decide) Z (OI.mk1 (d:=6) oM ec c8) oM Aa fun fx fl af iv ej=>?_)
   have gs:fk.heap.size≤fl.heap.size:=af.size
   have ek:At [g] w fl:=ed.ext af
   have bq:=ee.ext (As<|AX 153 6) af
   have br:=ef.ext (As<|B1 153 6) af
   have bs:=ea.ext af
   have bt:=eg.ext af
   have bu:=eh.ext af
   have bv:=ei.ext af
   have bw:=eb.ext af
   refine I5 (v:=vo) (a:=fx) (AX 153 6) CR Bp Z (by decide) Z Z bq oM ej oM oM (zH<|hff.len) (by have:=hff.len;unfold maxLen;omega) Aa fun ft ff ji ak ax dk=>?_
   have gt:fl.heap.size≤ff.heap.size:=ak.size
   have el:At [g] w ff:=ek.fresh ak (fun c hc=>zH<|ax _ hc)
   have em:=br.chg (As<|B1 153 6) ak fun c hc=>zH<|ax _ hc
   have en:=bs.chg ak fun c hc=>zH<|ax _ hc
   have eo:=bt.chg ak fun hm=>zH<|ax _ hm
   have ep:=bu.chg ak fun hm=>zH<|ax _ hm
   have eq:=bv.chg ak fun hm=>zH<|ax _ hm
   have er:=bw.chg ak fun hm=>zH<|ax _ hm
   refine Ak (p:=zP f2.heap.size) 2 BU Z Z Aa (Bi (k:=2) (w:=ff) QU Z Z (Bk dk.isSlS) eq sM Aa fun fm al iw c9=>?_)
   replace c9:BX fm.heap f2.heap.size [.string (f1++HD k),zI (((1:Nat):Int)+f0),ft]:=c9
   have gu:ff.heap.size≤fm.heap.size:=al.size
   have es:At [g] w fm:=el.fresh al (fun _ h=>zE h)
   have et:=em.chg (As<|B1 153 6) al fun _ h=>zA h
   have eu:=en.chg al fun c hc=>zH<|A9 hc
   have ev:=eo.chg al (zB ·)
   have ew:=ep.chg al (zB ·)
   have ix:=er.chg al (zB ·)
   have ex:=dk.chg (As<|AX 153 6) al fun _ h=>zA h
   exact Aj<|Ab _ [0,0,0] Z<|Ad 1 Z<|AM ((i+1:Nat):Int) Z Z (Ba oM oM) Aa<|Ac 1 Z ⟨(i+1,ft,xs++[f9],fw),_,rfl,zR,⟨es,ex.up<|As<|AX 153 6,et,eu,ev,ew,c9,oM,(by exact hff.snoc (funcs:=(k:Int)) (d:=5) (l0:=nodes) oM oM oM (by assumption)),oM,oM,oM,oM,oM,oM,oM,oM,oM⟩,zD⟩
  refine AC false Z Z (A6 di) Aa<|Aj<|Ai Z<|A4<|Av<|Av<|Aq<|Ab _ [0,2,2,3,4,0,4] Z<|Ak (p:=zP w1.heap.size) 0 BG Z Z Aa<|Ah (p:=Ao (zP w1.heap.size) 0) (.inr Z) vp Cb Z (a2.ldp (i:=0) sM) Aa<|AO (p:=zP f2.heap.size) (.inr Z) [.string (f1++HD k),zI (((1:Nat):Int)+f0),vo] Ju Z (fun fy ey=>LD.of_box<|BX.ext (w:=f3) a3 ey) Z Aa ?_
  refine ET (cs:=[.string (f1++HD k),zI (((1:Nat):Int)+f0),vo]) (y:=Fn.mk (f1++HD k) (((1:Nat):Int)+f0) xs) (B:=f6.heap.size) (B1 153 6) Gp CN Z (by decide) Z (OI.mkF (x:=⟨f1++HD k,((1:Nat):Int)+f0,xs⟩) (Uu (a:=((1:Nat):Int)+f0) oM) bj) oM Aa fun fz fo ay iy ez=>?_
  have gv:f3.heap.size≤fo.heap.size:=ay.size
  have g0:At [g] w fo:=c6.ext ay
  have ba:=bk.ext (As<|B1 153 6) ay
  have bb:=bl.ext ay
  have bc:=ae.ext ay
  have bd:=a2.ext ay
  have be:=a3.ext ay
  refine I5 (v:=vp) (a:=fz) (B1 153 6) Gp CN Z (by decide) Z Z ba oM ez oM oM oM (by unfold maxLen;omega) Aa fun fu fg jj bf bm dl=>?_
  have gw:fo.heap.size≤fg.heap.size:=bf.size
  have g1:At [g] w fg:=g0.fresh bf (fun c hc=>zH<|bm _ hc)
  have g2:=bb.chg bf fun c hc=>zH<|bm _ hc
  have g3:=bc.chg bf fun hm=>zH<|bm _ hm
  have g4:=bd.chg bf fun hm=>zH<|bm _ hm
  have g5:=be.chg bf fun hm=>zH<|bm _ hm
  refine Ak (p:=zP w1.heap.size) 0 BG Z Z Aa (Bi (k:=0) (w:=fg) YS Z Z (Bk dl.isSlS) g4 sM Aa fun fp bg iz ca=>?_)
  replace ca:BX fp.heap w1.heap.size [fu]:=ca
  have gx:fg.heap.size≤fp.heap.size:=bg.size
  have g6:At [g] w fp:=g1.fresh bg (fun _ h=>zE h)
  have g7:=g2.chg bg fun c hc=>zH<|A9 hc
  have g8:=g3.chg bg (zB ·)
  have gy:=g5.chg bg (zB ·)
  have dm:=dl.chg (As<|B1 153 6) bg fun _ h=>zA h
  refine Aj<|Ab _ [0,0,0] Z<|Ad 1 Z<|AM ((k+1:Nat):Int) Z Z (Ba oM oM) Aa<|Ac 1 Z ?_
  exact⟨(k+1,fu,ps++[Fn.mk (f1++HD k) (((1:Nat):Int)+f0) xs],m2),_,rfl,zR,⟨g6,dm.up (As (B1 153 6)),g7,g8,ca,oM,(by exact(PY.fn (i:=i) (f:=⟨f1++HD k,((1:Nat):Int)+f0,xs⟩) fb hdn oM ⟨by show 1≤(((1:Nat):Int)+f0);omega,by show(((1:Nat):Int)+f0)≤3;omega⟩ ⟨zO,zO⟩ hff hfo (by show _=_++HD ps.length;rw[hpk])).1),(by exact(PY.fn (i:=i) (f:=⟨f1++HD k,((1:Nat):Int)+f0,xs⟩) fb hdn oM ⟨by show 1≤(((1:Nat):Int)+f0);omega,by show(((1:Nat):Int)+f0)≤3;omega⟩ ⟨zO,zO⟩ hff hfo (by show _=_++HD ps.length;rw[hpk])).2),(by rw[z4,hpk];rfl),oM,oM,oM,oM,oM⟩,zD⟩
 refine AC false Z Z (A6 ce) Aa<|Aj<|Ai Z<|A4<|Av<|Av<|Aq<|Z1 [2,4] Z<|AO (p:=zP w1.heap.size) (.inr Z) [vp] Do Z (fun fy ey=>LD.of_box<|BX.ext (w:=f4) a1 ey) Z Aa (Bw (vs:=[vp]) Do Z Z (by intro u hu;simp only[ze,z2,or_false]at hu;rcases hu with rfl <;> first|exact⟨rfl,rfl⟩|exact Bk ab.isSlS) ac Z Z Aa fun f8 am gz bn=>?_)
 replace bn:BX f8.heap w.heap.size [vp]:=bn
 have g9:f4.heap.size≤f8.heap.size:=am.size
 have dn:At [g] w f8:=bx.fresh am (fun _ h=>zE h)
 have dp:=ab.chg (As<|B1 153 6) am fun _ h=>zA h
 have dq:=an.chg am fun c hc=>zH<|A9 hc
 have i0:=a1.chg am (zB ·)
 exact Aj<|A1<|C7 (cs:=[vp]) Z Do Z bn Z ⟨vp,ps,m,rfl,dn,dq,⟨zO,zO⟩,(dp.up<|As<|B1 153 6).low (B':=w.heap.size) oM,(by exact⟨fb,hdn,zO⟩)⟩
theorem JM (w:World)(g:Nat)(sv:Value)(cs:List UInt8)(n0:Nat)(hs:DA w.heap g sv cs n0)(ax:n0+500000≤1000000000000)  :
  Calls Tryz.prog 47 #[zP g] w (fun e w'=>∃(v:Value) (p:List Fn) (n1:Nat),e=.returned (.agg #[v])∧At [g] w w'∧DA w'.heap g sv cs n1∧(n0≤n1∧n1≤n0+500000)∧Fr (DZ 3 (Pk 153 6) 33) w.heap.size w'.heap.size w'.heap v p∧(∃pl,JQ p pl)∧Dn p∧1≤p.length∧p.length≤3):=by
 refine Ap [zP g] 10 Tryz.func47 Z Z sM ?_
 have ad:At [g] w w:=At.refl [g] w
 have b5:=hs.lt
 refine Z1 [3] Z (Bj (z:=.agg #[zN]) P4 Aa fun w1 a1 ay a2=>?_)
 have ae:w.heap.size≤w1.heap.size:=a1.size
 have af:At [g] w w1:=ad.ext a1
 have a3:=hs.ext a1
 replace a2:BX w1.heap w.heap.size [zN]:=a2
 refine Aj<|Z1 [0,0,4,0,0,4,4,4] Z<|Ad 2 Z<|AA 101 [] [] [zP g,zI ((3:Nat):Int)] Z Z DG Aa (AU _ g _ _ _ ((3:Nat):Int) a3 oM oM sD) ?_
 rintro e2 w2 ⟨b3,n2,rfl,a4,ag,az,a9⟩
 refine⟨_,rfl,?_⟩
 have ah:w1.heap.size≤w2.heap.size:=a4.size
 have ai:At [g] w w2:=af.trans a4
 have aj:=a2.chg a4 (zB ·)
 refine AM (((1:Nat):Int)+b3) Z Z (D3 sD sD) Aa<|Ad 1 Z ?_
 refine AA 102 [] [] [zP g,zI ((4:Nat):Int)] Z Z Mk Aa (Cd _ g _ _ _ ((4:Nat):Int) ag oM oM sD) ?_
 rintro e4 w4 ⟨b4,n4,rfl,a5,ak,b0,aa⟩
 refine⟨_,rfl,?_⟩
 have al:w2.heap.size≤w4.heap.size:=a5.size
 have am:At [g] w w4:=ai.trans a5
 have an:=aj.chg a5 (zB ·)
 refine AA 100 [] [] [zP g,zI (((1:Nat):Int)+b3),zI ((14:Nat):Int),.bool b4] Z Z X2 Aa (JL _ g sv cs n4 (((1:Nat):Int)+b3) ((14:Nat):Int) b4 ak oM oM oM oM oM) ?_
 rintro e6 w6 ⟨v6,p6,n6,rfl,a6,ao,b1,ab,ac⟩
 refine⟨_,rfl,?_⟩
 have ap:w4.heap.size≤w6.heap.size:=a6.size
 have aq:At [g] w w6:=am.trans a6
 have ar:=an.chg a6 (zB ·)
 refine Bw (vs:=[v6]) Do Z Z (by intro u hu;simp only[ze,z2,or_false]at hu;rcases hu with rfl <;> first|exact⟨rfl,rfl⟩|exact Bk ab.isSlS) ar Z Z Aa fun w8 a0 b2 a7=>?_
 replace a7:BX w8.heap w.heap.size [v6]:=a7
 have au:w6.heap.size≤w8.heap.size:=a0.size
 have av:At [g] w w8:=aq.fresh a0 (fun _ h=>zE h)
 have aw:=ao.chg a0 fun c hc=>zH<|A9 hc
 have a8:=ab.chg (As<|B1 153 6) a0 fun _ h=>zA h
 exact Aj<|A1<|C7 (cs:=[v6]) Z Do Z a7 Z ⟨v6,p6,n6,rfl,av,aw,⟨zO,zO⟩,(a8.up<|As<|B1 153 6).low (B':=w.heap.size) oM,(by refine⟨⟨_,ac.1⟩,ac.2.1,?_⟩;omega)⟩
theorem OA {p:Prop}(h:p:=by first|omega|exact⟨zO,ha1.2⟩|exact⟨zO,ha2.2⟩):p:=h
theorem JN {p:Prop}(h:p:=by first|(simp[Ef,Eg];done)|simp[Rm]):p:=h
theorem IF (w:World)(g:Nat)(sv:Value)(cs:List UInt8)(n0:Nat)(dp:Nat)(vp:Value)(p:List Fn)(hs:DA w.heap g sv cs n0)(ax:n0+60≤1000000000000)(hp:RN [g] (rP (IJ dp)) w.heap vp p)(hdr:JQ p false)(hlen:1≤p.length∧p.length≤3) :
  Calls Tryz.prog 48 #[zP g,vp] w (fun e w'=>∃(x0:Int) (x1:Int) (v2:Value) (x2:Sr) (v3:Value) (x3:Sr) (n1:Nat),e=.returned (.tuple #[zI x0,zI x1,v2,v3])∧At [g] w w'∧DA w'.heap g sv cs n1∧(n0≤n1∧n1≤n0+60)∧(x0=(p.length:Int)-1)∧(0≤x1∧x1<(((p.getD (p.length-1) Fn.zero).outs.length:Nat):Int))∧Fr (B8 rI 2) w.heap.size w'.heap.size w'.heap v2 x2∧((x2.length:Int)=(p.getD (p.length-1) Fn.zero).params∧B9 x2=true)∧Fr (B8 rI 2) w.heap.size w'.heap.size w'.heap v3 x3∧((x3.length:Int)=(p.getD (p.length-1) Fn.zero).params∧B9 x3=true)):=by
 refine Ap [zP g,vp] 53 Tryz.func48 Z Z sM ?_
 have a2:At [g] w w:=At.refl [g] w
 have b4:=hs.lt
 have hpa:=hdr.par (p.length-1) oM
 have b5:=hdr.outs (p.length-1) oM
 refine Z1 [0,0,0,0] Z<|Ac 4 Z<|Z1 [0,0,0,2,0,0,0] Z<|Ad 1 Z<|AK (hp.isPtr) Z Aa ?_
 obtain⟨cs1,al,a1⟩:=RN.at (AQ _) hp
 obtain⟨a0,rfl,a3⟩:=RPr.of al
 have ae:=a3.lenle
 unfold maxLen at ae
 refine AG (p:=vp) 0 BG Z (a1 _ a2) Aa<|Ah (p:=Ao vp 0) (.inr Z) a0 Cb Z ((a1 _ a2).ld (i:=0) JN) Aa<|AP (v:=a0) Gp Z a3.isSl Aa<|Br ((p.length-1:Nat):Int) Z Z (by rw[D3 oM oM];omega) Aa<|Ac 1 Z<|Z1 [0,0,0,0,2,0,0,0,2,0,4,0] Z<|Ad 2 Z<|AK (hp.isPtr) Z Aa<|AG (p:=vp) 0 BG Z (a1 _ a2) Aa<|Ah (p:=Ao vp 0) (.inr Z) a0 Cb Z ((a1 _ a2).ld (i:=0) JN) Aa<|Ad 1 Z ?_
 refine Az (v:=a0) (p.length-1) Gp CN Z Z a3.isSl Z sD Aa ?_
 obtain⟨cs2,am,a4⟩:=a3.get (AH dp) Fn.zero (k:=p.length-1) sD
 obtain⟨ah,rfl,ad⟩:=RF.of am
 have af:=ad.rn.lenle
 unfold maxLen at af
 refine AG (p:=Ay a0 (p.length-1) 3) 2 BU Z (a4 _ a2) Aa<|Ah (p:=Ao (Ay a0 (p.length-1) 3) 2) (.inr Z) ah Bl Z ((a4 _ a2).ld (i:=2) JN) Aa<|AP (v:=ah) CR Z ad.rn.isSl Aa<|AA 101 [] [] [zP g,zI ((((p.getD (p.length-1) Fn.zero).outs).length:Nat):Int)] Z Z DG Aa (AU _ g _ _ _ ((((p.getD (p.length-1) Fn.zero).outs).length:Nat):Int) hs oM oM oM) ?_
 rintro e3 w3 ⟨b1,n3,rfl,ai,an,ay,aj⟩
 refine⟨_,rfl,?_⟩
 have ao:w.heap.size≤w3.heap.size:=ai.size
 have a5:At [g] w w3:=a2.trans ai
 refine Ac 1 Z<|Z1 [0,0,0,0,2,0,0,0,2,4,0] Z<|Ad 2 Z<|AK (hp.isPtr) Z Aa<|AG (p:=vp) 0 BG Z (a1 _ a5) Aa<|Ah (p:=Ao vp 0) (.inr Z) a0 Cb Z ((a1 _ a5).ld (i:=0) JN) Aa<|Ad 1 Z<|Az (v:=a0) (p.length-1) Gp CN Z Z a3.isSl Z sD Aa ?_
 refine AG (p:=Ay a0 (p.length-1) 3) 1 Co Z (a4 _ a5) Aa<|Ah (p:=Ao (Ay a0 (p.length-1) 3) 1) (.inr Z) (zI<|(p.getD (p.length-1) Fn.zero).params) AB Z ((a4 _ a5).ld (i:=1) JN) Aa<|AA 49 [] [] [zP g,zI<|(p.getD (p.length-1) Fn.zero).params] Z Z UX Aa (E5 _ g _ _ _ ((p.getD (p.length-1) Fn.zero).params) an oM ad.rng oM) ?_
 rintro e4 w4 ⟨a6,b2,n4,rfl,ak,ap,az,a7,a8⟩
 refine⟨_,rfl,?_⟩
 have aq:w3.heap.size≤w4.heap.size:=ak.size
 have a9:At [g] w w4:=a5.trans ak
 have ha1:=a8
 refine Ac 1 Z<|Z1 [0,0,0,0,2,0,0,0,2,4,0] Z<|Ad 2 Z<|AK (hp.isPtr) Z Aa<|AG (p:=vp) 0 BG Z (a1 _ a9) Aa<|Ah (p:=Ao vp 0) (.inr Z) a0 Cb Z ((a1 _ a9).ld (i:=0) JN) Aa<|Ad 1 Z<|Az (v:=a0) (p.length-1) Gp CN Z Z a3.isSl Z sD Aa ?_
 refine AG (p:=Ay a0 (p.length-1) 3) 1 Co Z (a4 _ a9) Aa<|Ah (p:=Ao (Ay a0 (p.length-1) 3) 1) (.inr Z) (zI<|(p.getD (p.length-1) Fn.zero).params) AB Z ((a4 _ a9).ld (i:=1) JN) Aa<|AA 49 [] [] [zP g,zI<|(p.getD (p.length-1) Fn.zero).params] Z Z UX Aa (E5 _ g _ _ _ ((p.getD (p.length-1) Fn.zero).params) ap oM ad.rng oM) ?_
 rintro e5 w5 ⟨aa,b3,n5,rfl,ag,ar,b0,ab,ac⟩
 refine⟨_,rfl,?_⟩
 have au:w4.heap.size≤w5.heap.size:=ag.size
 have av:At [g] w w5:=a9.trans ag
 have aw:=a7.chg (o1) ag fun _ h=>zA h
 have ha2:=ac
 exact Ac 1 Z<|Z1 [0,0,0,0,0,0,0,0] Z<|Ac 8 Z<|A1<|Ag [4,5,6,7] Z (.tuple #[zI ((p.length-1:Nat):Int),zI b1,a6,aa]) Z ⟨((p.length-1:Nat):Int),b1,a6,b2,aa,b3,n5,rfl,av,ar,⟨zO,zO⟩,OA,OA,(aw.up o1).low (B':=w.heap.size) oM,OA,(ab.up o1).low (B':=w.heap.size) oM,OA⟩
theorem Ka (w:World)(vc:Value)(cs:List UInt8)(hcs:Rd (B4 rU) w.heap vc cs)  :
  Calls Tryz.prog 8 #[vc] w (fun e w'=>∃(v va vb:Value) (p:List Fn) (f pk:Int) (a b:Sr),e=.returned (.tuple #[.agg #[v],zI f,zI pk,va,vb])∧AE w w'∧Fr (DZ 3 (Pk 153 6) 33) w.heap.size w'.heap.size w'.heap v p∧Fr (B8 rI 2) w.heap.size w'.heap.size w'.heap va a∧Fr (B8 rI 2) w.heap.size w'.heap.size w'.heap vb b∧VO p f pk a b):=by
 refine Ap [vc] 29 Tryz.func8 Z Z sM ?_
 have b7:AE w w:=AE.refl w
 have c0:=hcs.lenle
 refine Z1 [3,0,0,0,0] Z (Bj (z:=.agg #[zN]) P4 Aa fun w1 ay bo an=>?_)
 have b8:=ay.size
 have az:=b7.trans ay
 replace an:BX w1.heap w.heap.size [zN]:=an
 refine Ac 4 Z<|Z1 [0,3,0] Z<|Ad 1 Z<|Au 46 [] [] [vc] Z Z VZ Aa (FY _ _ _<|hcs.ext CC az) ?_
 rintro e2 w2 ⟨gB2,rfl,al,b0,bp⟩
 refine⟨_,rfl,al,?_⟩
 have b9:=al.size
 have b1:=az.trans al
 have ac:=an.ext al
 refine Ac 1 Z<|Z1 [0,4,3,4] Z ?_
 have c2:=b0.lt
 refine Ad 1 Z<|AA 47 [] [] [zP gB2] Z Z YE Aa (JM _ gB2 vc cs 0 b0 oM) ?_
 rintro e3 w3 ⟨v3,p3,n3,rfl,ao,ba,bq,bb,bc⟩
 refine⟨_,rfl,?_⟩
 have bd:w2.heap.size≤w3.heap.size:=ao.size
 have be:AE w w3:=ao.below b1 (fun _ h=>zE h) b1.size
 have b2:=ac.chg ao (zB ·)
 obtain⟨⟨pl0,ap⟩,hdn,hpl⟩:=bc
 have c1:=ap.npl
 have br:=b2.lt
 refine Bj (z:=.agg #[zN]) P4 Aa fun w5 ad bs aq=>?_
 have bf:=ad.size
 have b3:=be.trans ad
 have ae:=b2.ext ad
 have af:=ba.ext ad
 have a4:=bb.ext (As<|B1 153 6) ad
 replace aq:BX w5.heap w3.heap.size [zN]:=aq
 refine Bw (vs:=[v3]) Do Z Z (by intro u hu;simp only[ze,z2,or_false]at hu;rcases hu with rfl <;> first|exact⟨rfl,rfl⟩|exact Bk a4.isSlS) aq Z Z Aa fun w7 ag bt am=>?_
 replace am:BX w7.heap w3.heap.size [v3]:=am
 have bg:w5.heap.size≤w7.heap.size:=ag.size
 have b4:AE w w7:=ag.below b3 (fun _ h=>zE h) b3.size
 have bh:=ae.chg ag (zB ·)
 have bi:=af.chg ag fun c hc=>zH<|A9 hc
 have ah:=a4.chg (As<|B1 153 6) ag fun _ h=>zA h
 refine Aj<|Z1 [0,4,0,0,0,0,0,0,0,0,0] Z<|Ad 1 Z<|AA 48 [] [] [zP gB2,zP w3.heap.size] Z Z YF Aa (IF _ gB2 _ _ _ 6 (zP w3.heap.size) p3 bi oM (RN.box am (RP.mk'<|RN.of_frF2 ah fun b hb=>zH<|A9 hb) fun hb=>zH<|A9 hb) c1 oM) ?_
 rintro c3 bx ⟨bn,bu,a0,bv,a1,bw,c4,rfl,a3,bj,bk,a5,a6,a7,a8,a9,aa⟩
 refine⟨_,rfl,?_⟩
 have b5:w7.heap.size≤bx.heap.size:=a3.size
 have ai:AE w bx:=a3.below b4 (fun _ h=>zE h) b4.size
 have ar:=bh.chg a3 (zB ·)
 have aj:=ah.chg (As<|B1 153 6) a3 fun _ h=>zA h
 have ak:=am.chg a3 (zB ·)
 have h0:=a5
 have h1:=a6
 have h2:=a8
 have h3:=aa
 have hft:bn.toNat=p3.length-1:=by omega
 refine Ad 1 Z<|AR (vs:=[zI bn,zI bu,a0,a1]) (zI bn) Z Z Aa<|AR (vs:=[zI bn,zI bu,a0,a1]) (zI bu) Z Z Aa<|AR (vs:=[zI bn,zI bu,a0,a1]) a0 Z Z Aa<|AR (vs:=[zI bn,zI bu,a0,a1]) a1 Z Z Aa<|Ac 4 Z<|Z1 [2,0,0,0,0,4,0,0,0,0] Z<|AO (p:=zP w3.heap.size) (.inr Z) [v3] Do Z (fun c5 bl=>LD.of_box<|BX.ext (w:=bx) ak bl) Z Aa<|Ad 4 Z ?_
 refine Bw (vs:=[v3]) Do Z Z (by intro u hu;simp only[ze,z2,or_false]at hu;rcases hu with rfl <;> first|exact⟨rfl,rfl⟩|exact Bk aj.isSlS) ar Z Z Aa fun bz a2 bm ab=>?_
 replace ab:BX bz.heap w.heap.size [v3]:=ab
 have b6:bx.heap.size≤bz.heap.size:=a2.size
 have au:AE w bz:=a2.below ai (fun _ h=>zE h) ai.size
 have av:=aj.chg (As<|B1 153 6) a2 fun _ h=>zA h
 have aw:=a7.chg (o1) a2 fun _ h=>zA h
 have ax:=a9.chg (o1) a2 fun _ h=>zA h
 exact Ac 4 Z<|A1<|I7 (t0:=3) (ts:=[4,5,6]) (cs:=[v3]) [zI bn,zI bu,a0,a1] Z Do Z ab Z Z ⟨v3,a0,a1,p3,bn,bu,bv,bw,rfl,au,(av.up<|As<|B1 153 6).low (B':=w.heap.size) oM,(aw.up o1).low (B':=w.heap.size) oM,(ax.up o1).low (B':=w.heap.size) oM,(by exact⟨c1,hdn,zO,h0,by rw[hft];exact h1,by rw[hft];exact h2,by rw[hft];exact h3⟩)⟩
end
end Go.Proofs.YtemfgblmfahllaaGreat
