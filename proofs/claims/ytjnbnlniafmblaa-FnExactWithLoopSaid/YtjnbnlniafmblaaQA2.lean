/- Sb, Va, Vb, Vg, Vh, Vi, Vj, Vm, Vo, Xg, Yx: texts of this claim, joined; what the claim does not come to is left out. -/
import Derived.Test.YtjnbnlniafmblaaQA1
import Derived.Test.YtjnbnlniafmblaaProg
set_option linter.unusedVariables false
set_option linter.unusedSimpArgs false
namespace Go.Proofs.Ytjnbnlniafmblaa
open Go Go.RowKit
section
set_option maxHeartbeats 4000000
set_option maxRecDepth 100000
attribute [local irreducible] LW
def Hu {α:Type}(p:α→Bool)(l:List α):Int:=if l.any p then((l.findIdx p:Nat):Int)else -1
theorem Ii {α:Type}{p:α→Bool}{l:List α}{k:Nat}(d:α)(h:∀j,j<k→p (l.getD j d)=false)(hk:k<l.length)(hp:p (l.getD k d)=true):((k:Nat):Int)=Hu p l:=by
  have e:∀j,(hj:j<l.length)→l.getD j d=l[j]:=fun j hj=>by simp[hj]
  have h1:l.any p=true:=List.any_eq_true.2 ⟨l[k],List.getElem_mem hk,by rw[← e k hk];exact hp⟩
  have h2:l.findIdx p=k:=by
    rw[List.findIdx_eq hk]
    refine⟨by rw[← e k hk];exact hp,fun j hj=>?_⟩
    have:=h j hj
    rw[e j (by omega)]at this
    exact this
  unfold Hu;rw[if_pos h1,h2]
theorem Jg {α:Type}{p:α→Bool}{l:List α}{k:Nat}(d:α)(h:∀j,j<k→p (l.getD j d)=false)(hk:l.length≤k):(-1:Int)=Hu p l:=by
  have h1:l.any p=false:=by
    rw[List.any_eq_false]
    intro x hx
    obtain⟨j,hj,rfl⟩:=List.getElem_of_mem hx
    have:=h j zO
    have e:l.getD j d=l[j]:=by simp[hj]
    rw[e]at this
    simp[this]
  unfold Hu;rw[h1];rfl
theorem Jh {α:Type}(p:α→Bool)(l:List α):decide (((0:Nat):Int)≤Hu p l)=l.any p:=by
  unfold Hu
  split
  · rename_i h;rw[h];exact A5 zO
  · rename_i h;rw[Bool.not_eq_true]at h;rw[h];exact A6 zO
theorem Hd {α:Type}{p:α→Bool}{l:List α}{k:Nat}{d:α}(h:∀j,j<k→p (l.getD j d)=false)(hp:p (l.getD k d)=false):∀j,j<k+1→p (l.getD j d)=false:=by
  intro j hj
  by_cases e:j=k
  · subst e;exact hp
  · exact h j zO
theorem C6 (w:World) (va:Value) (a:Sr) (q:Nat) (qf qc:List Value) (p:Int→Bool) (ha:Rd (Do rI) w.heap va a) (hcf_q:((Try.prog.funcs[q]?).map fun fn=>(fn.name != "runtime.NumGoroutine") && fn.body.isSome) = some true) (hp:∀ (x:Int),BF x→∀ w1,Az w w1→Calls Try.prog q (qf++[Value.int .i64 x]++qc).toArray w1 (fun e w2=>e = .returned (.bool (p x))∧Az w1 w2))  :
  Calls Try.prog 133 #[va,.func (.func q) qf.toArray qc.toArray] w (fun e w'=>e = .returned (zI (Hu p a))∧Az w w'):=by
 refine Aw [va,.func (.func q) qf.toArray qc.toArray] 19 Try.func133 Z Z sM ?_
 have a3:Az w w:=Az.refl w
 have aa:=ha.lenle
 refine La Z<|A0<|L9 [0,0,0] Z<|Ag 1 Z<|AS (v:=va) KZ Z ha.isSl Aa<|Ac 1 Z<|A3 ?_
 refine AW (S:=Nat) (fun k=>([(8,zI ((k :Nat):Int)),(0,va),(1,.func (.func q) qf.toArray qc.toArray),(7,zI ((a.length :Nat):Int))])) (fun k W=>Az w W∧k≤a.length∧(∀ j,j < k→p (a.getD j 0) = false)) (fun k=>a.length - k) 0 ⟨rfl,rfl,rfl,rfl,trivial⟩ ⟨a3,sD,(by intro j hj; omega)⟩ ?_
 clear a3
 rintro k ρ1 w1 ⟨a1,a4,hq⟩
 have a7:w.heap.size≤w1.heap.size:=a1.size
 refine L9 [0] Z ?_
 by_cases a5:((k :Nat):Int) < ((a.length :Nat):Int)
 ·
  refine AA true Z Z (A5 a5) Aa<|Ai<|A0<|Ah Z<|A2<|A0<|A3<|L9 [0,0] Z<|Ac 2 Z<|L9 [0,0,0,0,2,3] Z<|Ag 3 Z<|AN (v:=va) k KZ Lm Z Z ha.isSl Z sD Aa ?_
  refine Al (p:=AE va k 1) (.inr Z) (zI<|a.getD k 0) AT Z (FK a1 (ha.getI sD).1) Aa ?_
  have a0:=hp (a.getD k 0) (ha.getI sD).2 _ a1
  refine As q qf qc _ Z Z hcf_q Aa a0 ?_
  rintro e3 w3 ⟨rfl,a2⟩
  refine ⟨_,rfl,a2,?_⟩
  have a8:=a2.size
  have a6:=a1.trans a2
  cases a9:p (a.getD k 0)
  ·
   refine Ai<|Ak Z<|A2<|Ab _ [0,0] Z<|AQ ((k + 1 :Nat):Int) Z Z (Bn oM sD) Aa<|Ac 1 Z ?_
   exact ⟨k + 1,_,rfl,zR,⟨a6,sD,(by exact Hd hq (by assumption))⟩,by first | omega | (dsimp only; omega)⟩
  
  exact Ai<|Ah Z<|L9 [0,0] Z<|Ac 2 Z<|A1<|AC<|Am<|Am<|AC<|Am<|Af [4] Z (zI ((k :Nat):Int)) Z ⟨AK<|Ii 0 hq oM (by assumption),a6⟩
 
 exact AA false Z Z (A6 a5) Aa<|Ai<|A0<|Ak Z<|A4<|AD<|AD<|Ay<|La Z<|A1<|Af [4] Z (zI (-1)) Z ⟨AK<|Jg 0 hq oM,a1⟩
theorem BU (w:World) (va:Value) (a:Sr) (q:Nat) (qf qc:List Value) (p:Int→Bool) (ha:Rd (Do rI) w.heap va a) (hcf_q:((Try.prog.funcs[q]?).map fun fn=>(fn.name != "runtime.NumGoroutine") && fn.body.isSome) = some true) (hp:∀ (x:Int),BF x→∀ w1,Az w w1→Calls Try.prog q (qf++[Value.int .i64 x]++qc).toArray w1 (fun e w2=>e = .returned (.bool (p x))∧Az w1 w2))  :
  Calls Try.prog 104 #[va,.func (.func q) qf.toArray qc.toArray] w (fun e w'=>e = .returned (.bool (a.any p))∧Az w w'):=by
 refine Aw [va,.func (.func q) qf.toArray qc.toArray] 9 Try.func104 Z Z sM ?_
 have a0:Az w w:=Az.refl w
 have a4:=ha.lenle
 refine La Z<|L9 [0,0,3,0,0] Z<|Ag 2 Z<|As 133 [] [] [va,.func (.func q) qf.toArray qc.toArray] Z Z Kb Aa (C6 _ _ _ q qf qc p (ha.ext g1 a0) hcf_q fun x hx w1 hw=>hp x hx w1<|a0.trans hw) ?_
 rintro e1 w1 ⟨rfl,a1⟩
 refine ⟨_,rfl,a1,?_⟩
 have a2:=a1.size
 have a3:=a0.trans a1
 exact Cp (decide (((0 :Nat):Int)≤Hu p a)) Z Z Z Aa<|Ac 1 Z<|A1<|Af [4] Z (.bool<|decide (((0 :Nat):Int)≤Hu p a)) Z ⟨At<|Jh p a,a3⟩
theorem DQ (w:World)(va:Value)(a:Sr)(count:Int)(ha:Rd (Do rI) w.heap va a)(_hcount:BF count)  :
  Calls Try.prog 65 #[va,zI count] w (fun e w'=>e=.returned (.bool (decide ((a.length:Int)=count) && EG a))∧Az w w'):=by
 refine Aw [va,zI count] 14 Try.func65 Z Z sM ?_
 have a0:Az w w:=Az.refl w
 have a5:=ha.lenle
 refine La Z<|L9 [0,0,0,0,0,0,3,0,0,0] Z<|Ag 1 Z<|AS (v:=va) KZ Z ha.isSl Aa<|Ag 1 Z ?_
 by_cases a2:(a.length:Int)=count
 ·refine AH true Z Z (A5 a2) Aa<|Ag 2 Z<|As 104 [] [] [va,.func (.func 111) #[] #[]] Z Z K0 (Ae (e:=9) Z Z Z) (BU _ _ _ 111 [] [] (fun x=>!FM x) (ha.ext g1 a0) K1 fun x hx w1 hw=>Dr w1 x hx) ?_
  rintro e2 w2 ⟨rfl,a1⟩
  refine⟨_,rfl,a1,?_⟩
  have a3:=a1.size
  have a4:=a0.trans a1
  exact AZ (!(a.any fun x=>!FM x)) Z Z (Ae (e:=9) Z Z Z)<|Ac 2 Z<|A1<|Af [4] Z (.bool (!(a.any fun x=>!FM x))) Z ⟨At (by first|(rw[GM];simp[*];done)|simp[*]),a4⟩
 exact AH false Z Z (A6 a2) Aa<|Ac 6 Z<|A1<|Af [4] Z (.bool false) Z ⟨At (by first|(rw[GM];simp[*];done)|simp[*]),a0⟩
theorem CX (w:World)(dex:Nat)(ve:Value)(ex:Ex)(hex:RX [] dex w.heap ve ex)(hs:ex.size≤1000000000) :
  Calls Try.prog 127 #[(.agg #[(zI ex.kind),(zI ex.num),(zI ex.pick),(zI ex.count),ve])] w (fun e w'=>e=.returned (zI (ex.size:Int))∧Az w w'):=by
 induction dex using Nat.strongRecOn generalizing w ve ex
 rename_i dex ih
 refine Aw [.agg #[zI ex.kind,zI ex.num,zI ex.pick,zI ex.count,ve]] 19 Try.func127 Z Z sM ?_
 have ab:Az w w:=Az.refl w
 have aw:=hex.rn.lenle
 unfold maxLen at aw
 have hsk:=Bv ex
 refine L9 [3,0] Z (Bf (cs:=#[zI ex.kind,zI ex.num,zI ex.pick,zI ex.count,ve]) Z Aa fun w1 a2 aj a3=>?_)
 have a4:=a2.size
 have ac:=ab.trans a2
 replace a3:BX w1.heap w.heap.size [zI ex.kind,zI ex.num,zI ex.pick,zI ex.count,ve]:=a3
 refine Ac 1 Z<|La Z<|A0<|L9 [0,2,0,0] Z<|Ao (p:=zP w.heap.size) 4 B5 Z Z Aa<|Al (p:=Ar (zP w.heap.size) 4) (.inr Z) ve AU Z (a3.ldp (i:=4) sM) Aa<|AS (v:=ve) Bw Z hex.rn.isSl Aa<|Ac 1 Z<|A3 ?_
 refine AW (S:=Nat×Nat) (fun⟨k,sz⟩=>([(3,zI (sz:Int)),(9,zI (k:Int)),(7,ve),(8,zI (ex.kids.length:Int))])) (fun⟨k,sz⟩ W=>Az w W∧k≤ex.kids.length∧sz=1+Ex.sizes (ex.kids.take k)) (fun⟨k,sz⟩=>ex.kids.length-k) (0,1) ⟨rfl,rfl,rfl,rfl,trivial⟩ ⟨ac,sD,(by rw[List.take_zero,Cc])⟩ ?_
 clear ab aj a2 a4 ac
 rintro⟨k,sz⟩ ρ2 w2 ⟨a1,ad,hsz⟩
 have ak:w.heap.size≤w2.heap.size:=a1.size
 refine L9 [0] Z ?_
 by_cases ae:(k:Int)<(ex.kids.length:Int)
 ·refine AA true Z Z (A5 ae) Aa<|Ai<|A0<|Ah Z<|A2<|A0<|A3<|L9 [0,2,3,4] Z ?_
  have hst:=Bp (l:=ex.kids) (k:=k) oM
  have hle:=Bq ex.kids (k+1)
  have hdt:=CR (l:=ex.kids) (k:=k) oM
  have hda:=Cd<|ex.kids.getD k Ex.zero
  refine AN (v:=ve) k Bw B1 Z Z hex.rn.isSl Z sD Aa ?_
  obtain⟨cs4,al,am⟩:=hex.rn.get (AB dex) Ex.zero (k:=k) sD
  obtain⟨dd4,a0,ar,rfl,a5⟩:=RX.of al
  have a6:=a5.rn.lenle
  unfold maxLen at a6
  refine Au (p:=AE ve k 5) (.inr Z) [zI<|(ex.kids.getD k Ex.zero).kind,zI<|(ex.kids.getD k Ex.zero).num,zI<|(ex.kids.getD k Ex.zero).pick,zI<|(ex.kids.getD k Ex.zero).count,a0] B8 Z (fun ax a7=>am ax<|AG.of_ext []<|a1.trans a7) Z Aa (AI (z:=.agg #[zI 0,zI 0,zI 0,zI 0,zN]) DC Aa fun w5 af au a8=>?_)
  have an:=af.size
  have ag:=a1.trans af
  replace a8:BX w5.heap w2.heap.size [zI 0,zI 0,zI 0,zI 0,zN]:=a8
  refine AP (vs:=[zI<|(ex.kids.getD k Ex.zero).kind,zI<|(ex.kids.getD k Ex.zero).num,zI<|(ex.kids.getD k Ex.zero).pick,zI<|(ex.kids.getD k Ex.zero).count,a0]) B8 Z Z a5.ones a8 Z Z Aa fun w6 ah av a9=>?_
  replace a9:BX w6.heap w2.heap.size [zI ((ex.kids.getD k Ex.zero).kind),zI ((ex.kids.getD k Ex.zero).num),zI ((ex.kids.getD k Ex.zero).pick),zI ((ex.kids.getD k Ex.zero).count),a0]:=a9
  have ai:Az w w6:=ah.below ag (fun _ h=>zE h) ag.size
  have ao:=ah.size
  refine Ai<|Ab _ [0,2,3,0,0] Z<|Ag 1 Z<|Au (p:=zP w2.heap.size) (.inr Z) [zI<|(ex.kids.getD k Ex.zero).kind,zI<|(ex.kids.getD k Ex.zero).num,zI<|(ex.kids.getD k Ex.zero).pick,zI<|(ex.kids.getD k Ex.zero).count,a0] B8 Z (fun ax a7=>LD.of_box<|BX.ext (w:=w6) a9 a7) Z Aa<|As 127 [] [] [.agg #[zI<|(ex.kids.getD k Ex.zero).kind,zI<|(ex.kids.getD k Ex.zero).num,zI<|(ex.kids.getD k Ex.zero).pick,zI<|(ex.kids.getD k Ex.zero).count,a0]] Z Z I1 Aa (ih dd4 oM _ a0 (ex.kids.getD k Ex.zero) (a5.ext ai) oM) ?_
  rintro e7 w7 ⟨rfl,aa⟩
  refine⟨_,rfl,aa,?_⟩
  have ap:=aa.size
  have aq:=ai.trans aa
  refine AQ ((sz+(ex.kids.getD k Ex.zero).size:Nat):Int) Z Z (Bn oM oM) Aa<|Ac 1 Z<|Ab _ [0,0] Z<|AQ ((k+1:Nat):Int) Z Z (Bn oM sD) Aa<|Ac 1 Z ?_
  exact⟨(k+1,sz+(ex.kids.getD k Ex.zero).size),_,rfl,zR,⟨aq,sD,oM⟩,zD⟩
 exact AA false Z Z (A6 ae) Aa<|Ai<|A0<|Ak Z<|A4<|AD<|AD<|Ay<|L9 [0,0] Z<|Ac 2 Z<|A1<|Af [2] Z (zI (sz:Int)) Z ⟨AK (by rw[hsz,CN oM,hsk]),a1⟩
theorem E6 (w:World)(dex:Nat)(ve:Value)(ex:Ex)(hex:RX [] dex w.heap ve ex)(hs:ex.size≤1000000000) :
  Calls Try.prog 147 #[(.agg #[(zI ex.kind),(zI ex.num),(zI ex.pick),(zI ex.count),ve])] w (fun e w'=>e=.returned (zI (ex.deep:Int))∧Az w w'):=by
 induction dex using Nat.strongRecOn generalizing w ve ex
 rename_i dex ih
 refine Aw [.agg #[zI ex.kind,zI ex.num,zI ex.pick,zI ex.count,ve]] 20 Try.func147 Z Z sM ?_
 have ab:Az w w:=Az.refl w
 have aw:=hex.rn.lenle
 unfold maxLen at aw
 have hsk:=Bv ex
 have hdk:=Di ex
 refine L9 [3,0] Z (Bf (cs:=#[zI ex.kind,zI ex.num,zI ex.pick,zI ex.count,ve]) Z Aa fun w1 a2 aj a3=>?_)
 have a4:=a2.size
 have ac:=ab.trans a2
 replace a3:BX w1.heap w.heap.size [zI ex.kind,zI ex.num,zI ex.pick,zI ex.count,ve]:=a3
 refine Ac 1 Z<|La Z<|A0<|L9 [0,2,0,0] Z<|Ao (p:=zP w.heap.size) 4 B5 Z Z Aa<|Al (p:=Ar (zP w.heap.size) 4) (.inr Z) ve AU Z (a3.ldp (i:=4) sM) Aa<|AS (v:=ve) Bw Z hex.rn.isSl Aa<|Ac 1 Z<|A3 ?_
 refine AW (S:=Nat×Nat) (fun⟨k,sz⟩=>([(3,zI (sz:Int)),(9,zI (k:Int)),(7,ve),(8,zI (ex.kids.length:Int))])) (fun⟨k,sz⟩ W=>Az w W∧k≤ex.kids.length∧sz=Ex.deeps (ex.kids.take k)) (fun⟨k,sz⟩=>ex.kids.length-k) (0,0) ⟨rfl,rfl,rfl,rfl,trivial⟩ ⟨ac,sD,(by rw[List.take_zero,Fz])⟩ ?_
 clear ab aj a2 a4 ac
 rintro⟨k,sz⟩ ρ2 w2 ⟨a1,ad,hsz⟩
 have ak:w.heap.size≤w2.heap.size:=a1.size
 refine L9 [0] Z ?_
 by_cases ae:(k:Int)<(ex.kids.length:Int)
 ·refine AA true Z Z (A5 ae) Aa<|Ai<|A0<|Ah Z<|A2<|A0<|A3<|L9 [0,2,3,4] Z ?_
  have hst:=Bp (l:=ex.kids) (k:=k) oM
  have hle:=Bq ex.kids (k+1)
  have hdt:=CR (l:=ex.kids) (k:=k) oM
  have hda:=Cd<|ex.kids.getD k Ex.zero
  refine AN (v:=ve) k Bw B1 Z Z hex.rn.isSl Z sD Aa ?_
  obtain⟨cs4,al,am⟩:=hex.rn.get (AB dex) Ex.zero (k:=k) sD
  obtain⟨dd4,a0,ar,rfl,a5⟩:=RX.of al
  have a6:=a5.rn.lenle
  unfold maxLen at a6
  refine Au (p:=AE ve k 5) (.inr Z) [zI<|(ex.kids.getD k Ex.zero).kind,zI<|(ex.kids.getD k Ex.zero).num,zI<|(ex.kids.getD k Ex.zero).pick,zI<|(ex.kids.getD k Ex.zero).count,a0] B8 Z (fun ax a7=>am ax<|AG.of_ext []<|a1.trans a7) Z Aa (AI (z:=.agg #[zI 0,zI 0,zI 0,zI 0,zN]) DC Aa fun w5 af au a8=>?_)
  have an:=af.size
  have ag:=a1.trans af
  replace a8:BX w5.heap w2.heap.size [zI 0,zI 0,zI 0,zI 0,zN]:=a8
  refine AP (vs:=[zI<|(ex.kids.getD k Ex.zero).kind,zI<|(ex.kids.getD k Ex.zero).num,zI<|(ex.kids.getD k Ex.zero).pick,zI<|(ex.kids.getD k Ex.zero).count,a0]) B8 Z Z a5.ones a8 Z Z Aa fun w6 ah av a9=>?_
  replace a9:BX w6.heap w2.heap.size [zI ((ex.kids.getD k Ex.zero).kind),zI ((ex.kids.getD k Ex.zero).num),zI ((ex.kids.getD k Ex.zero).pick),zI ((ex.kids.getD k Ex.zero).count),a0]:=a9
  have ai:Az w w6:=ah.below ag (fun _ h=>zE h) ag.size
  have ao:=ah.size
  refine Ai<|Ab _ [0,2,3,0,0] Z<|Ag 1 Z<|Au (p:=zP w2.heap.size) (.inr Z) [zI<|(ex.kids.getD k Ex.zero).kind,zI<|(ex.kids.getD k Ex.zero).num,zI<|(ex.kids.getD k Ex.zero).pick,zI<|(ex.kids.getD k Ex.zero).count,a0] B8 Z (fun ax a7=>LD.of_box<|BX.ext (w:=w6) a9 a7) Z Aa<|As 147 [] [] [.agg #[zI<|(ex.kids.getD k Ex.zero).kind,zI<|(ex.kids.getD k Ex.zero).num,zI<|(ex.kids.getD k Ex.zero).pick,zI<|(ex.kids.getD k Ex.zero).count,a0]] Z Z Jb Aa (ih dd4 oM _ a0 (ex.kids.getD k Ex.zero) (a5.ext ai) oM) ?_
  rintro e7 w7 ⟨rfl,aa⟩
  refine⟨_,rfl,aa,?_⟩
  have ap:=aa.size
  have aq:=ai.trans aa
  refine JP ((max sz ((ex.kids.getD k Ex.zero).deep):Nat):Int) oM Z Z Aa<|Ac 1 Z<|Ab _ [0,0] Z<|AQ ((k+1:Nat):Int) Z Z (Bn oM sD) Aa<|Ac 1 Z ?_
  exact⟨(k+1,max sz ((ex.kids.getD k Ex.zero).deep)),_,rfl,zR,⟨aq,sD,oM⟩,zD⟩
 refine AA false Z Z (A6 ae) Aa<|Ai<|A0<|Ak Z<|A4<|AD<|AD<|Ay<|L9 [0,0,0] Z ?_
 have h8:=DX (l:=ex.kids) (k:=k) oM
 have h9:=Cd ex
 exact Ag 1 Z<|AQ ((sz+1:Nat):Int) Z Z (Bn oM oM) Aa<|Ac 1 Z<|A1<|Af [2] Z (zI ((sz+1:Nat):Int)) Z ⟨AK (by rw[hsz,DX oM,hdk]),a1⟩
theorem Ji {b:Bool}(h:(!b)=false):b=true:=by cases b <;> simp_all
theorem Kq {b:Bool}(h:(!b)=true):b=false:=by cases b <;> simp_all
theorem JI {p:List Fn}{funcs vars:Int}{e:Ex}{b:Bool}(h:e.kids.length=0∨b=false)(hb:EH p funcs vars e=b):Ending.returned (.bool b)=.returned (.bool (wf p funcs e vars)):=by
  rcases h with h|h
  · rw[IB h,hb]
  · subst h;rw[← HE hb]
theorem Bi {p:Prop}(h:p:=by first|exact At (GO hwn fun j hj=>hall j oM)|exact At (HF (k:=k) oM (by first|(rw[if_pos oM])|(rw[if_neg oM])) (Kq ‹_›))|exact JI (by first|exact .inr Z|(left;omega)|(left;simp_all <;> omega)) (by(have hp9:=hpl.symm;clear hpl;unfold EH D4;first|(simp[*];done)|(simp[*];omega)|(simp[*] <;> intros <;> omega)|(simp_all <;> omega)))):p:=h
theorem DE {p:Prop}(h:p:=by(have hp9:=hpl.symm;clear hpl;unfold EH D4;first|(simp[*];done)|(simp[*];omega)|(simp[*] <;> intros <;> omega)|(simp_all <;> omega))):p:=h
theorem Gx {p:Prop}(h:p:=by intro j hj;by_cases e9:j=k;(rw[e9];first|(rw[if_pos oM];exact Ji ‹_›)|(rw[if_neg oM];exact Ji ‹_›));exact hall j oM):p:=h
theorem Ij {p:Prop}(h:p:=by unfold Cm;first|(simp[*];done)|(simp[*];intros;omega)|(simp[*];omega)):p:=h
theorem DF {p:Prop}(h:p:=by first|exact(A5 oM).symm|exact decide_eq_decide.2 oM):p:=h
theorem CO (w:World)(dp:Nat)(vp:Value)(p:List Fn)(funcs:Int)(dex:Nat)(ve:Value)(ex:Ex)(vars:Int)(hp:RP [] dp w.heap vp p)(_hfuncs:BF funcs)(hex:RX [] dex w.heap ve ex)(_hvars:BF vars)(hs:0≤vars∧vars+(ex.deep:Int)≤2000000000)(hf:0≤funcs∧funcs≤(p.length:Int)) :
  Calls Try.prog 148 #[(.agg #[vp,(zI funcs)]),(.agg #[(zI ex.kind),(zI ex.num),(zI ex.pick),(zI ex.count),ve]),zI vars] w (fun e w'=>e=.returned (.bool (wf p funcs ex vars))∧Az w w'):=by
 induction dex using Nat.strongRecOn generalizing w dp vp p funcs ve ex vars
 rename_i dex ih
 refine Aw [.agg #[vp,zI funcs],.agg #[zI ex.kind,zI ex.num,zI ex.pick,zI ex.count,ve],zI vars] 177 Try.func148 Z Z sM ?_
 have d2:Az w w:=Az.refl w
 have ec:=hp.lenle
 unfold maxLen at ec
 have ed:=hex.rn.lenle
 unfold maxLen at ed
 have hdk:=Di ex
 refine L9 [3,3,0] Z (Bf (cs:=#[vp,zI funcs]) Z Aa fun w1 cq df co=>?_)
 have cr:=cq.size
 have d3:=d2.trans cq
 replace co:BX w1.heap w.heap.size [vp,zI funcs]:=co
 have e5:=co.lt
 refine Bf (cs:=#[zI ex.kind,zI ex.num,zI ex.pick,zI ex.count,ve]) Z Aa fun w2 cp dg bc=>?_
 have ct:=cp.size
 have cu:=d3.trans cp
 have bb:=co.ext cp
 replace bc:BX w2.heap w1.heap.size [zI ex.kind,zI ex.num,zI ex.pick,zI ex.count,ve]:=bc
 refine Ac 1 Z<|L9 [0,2,0,0] Z<|Ao (p:=zP w1.heap.size) 4 B5 Z Z Aa<|Al (p:=Ar (zP w1.heap.size) 4) (.inr Z) ve AU Z (bc.ldp (i:=4) sM) Aa<|AS (v:=ve) Bw Z hex.rn.isSl Aa<|Ac 1 Z<|A0<|GG (S:=Bool) (fun(pl:Bool)=>([(8,.bool pl),(2,zI vars),(3,zP w.heap.size),(4,zP w1.heap.size),(7,zI (ex.kids.length:Int))])) (fun(pl:Bool) (W:World)=>Az w W∧BX W.heap w.heap.size [vp,zI funcs]∧BX W.heap w1.heap.size [zI ex.kind,zI ex.num,zI ex.pick,zI ex.count,ve]∧pl=Cm ex) ?_ ?_
 ·refine Ab _ [0,2,0,0,0,2,0,0,0] Z<|Ao (p:=zP w1.heap.size) 2 Cy Z Z Aa<|Al (p:=Ar (zP w1.heap.size) 2) (.inr Z) (zI ex.pick) AT Z (bc.ldp (i:=2) sM) Aa ?_
  by_cases d4:ex.pick=((0:Nat):Int)
  ·exact AH true Z Z (A5 d4) Aa<|Ag 1 Z<|Ao (p:=zP w1.heap.size) 3 C2 Z Z (Ae (e:=19) Z Z Z)<|Al (p:=Ar (zP w1.heap.size) 3) (.inr Z) (zI ex.count) AT Z (bc.ldp (i:=3) sM) (Ae (e:=19) Z Z Z)<|AH (decide (ex.count=((0:Nat):Int))) Z Z Z (Ae (e:=19) Z Z Z)<|Ac 2 Z ⟨decide (ex.count=((0:Nat):Int)),_,rfl,zR,⟨cu,bb,bc,Ij⟩⟩
  exact AH false Z Z (A6 d4) Aa<|Ac 6 Z ⟨false,_,rfl,zR,⟨cu,bb,bc,Ij⟩⟩
 clear d2 df cq cr d3 dg cp ct cu
 rintro pl ρ4 w4 ⟨ag,a4,a1,hpl⟩
 have bf:w.heap.size≤w4.heap.size:=ag.size
 have e6:=a4.lt
 have e7:=a1.lt
 refine A0<|GG (S:=Unit) (fun(u:Unit)=>([(2,zI vars),(3,zP w.heap.size),(4,zP w1.heap.size)])) (fun(u:Unit) (W:World)=>Az w W∧BX W.heap w.heap.size [vp,zI funcs]∧BX W.heap w1.heap.size [zI ex.kind,zI ex.num,zI ex.pick,zI ex.count,ve]∧EH p funcs vars ex=true) ?_ ?_
 ·refine L9 [0,2] Z<|Ao (p:=zP w1.heap.size) 0 BH Z Z Aa<|Al (p:=Ar (zP w1.heap.size) 0) (.inr Z) (zI ex.kind) AT Z (a1.ldp (i:=0) sM) Aa<|Ai<|A3<|L9 [0,0] Z ?_
  by_cases d5:ex.kind=((1:Nat):Int)
  ·refine AH true Z Z (A5 d5) Aa<|Ac 1 Z<|Ah Z<|L9 [0,0,0,0,0,0,0,2,0,0,0] Z<|Ag 2 Z ?_
   cases dh:pl
   ·exact Ac 9 Z<|A1<|AC<|Am<|Af [6] Z (.bool false) Z ⟨Bi,ag⟩
   refine Ag 1 Z ?_
   by_cases bg:(ex.kids.length:Int)=((0:Nat):Int)
   ·refine AH true Z Z (A5 bg) (Ae (e:=29) Z Z Z)<|Ag 2 Z<|Ao (p:=zP w1.heap.size) 1 Bx Z Z (Ae (e:=33) Z Z Z)<|Al (p:=Ar (zP w1.heap.size) 1) (.inr Z) (zI ex.num) AT Z (a1.ldp (i:=1) sM) (Ae (e:=33) Z Z Z)<|AJ 112 [] [] [zI ex.num] Z Z J3 (Ae (e:=33) Z Z Z) (.bool<|FM ex.num) (fun wq=>CV wq _ hex.rng.num)<|Ac 2 Z<|A1<|AC<|Am ?_
    exact Af [6] Z (.bool<|FM ex.num) Z ⟨Bi,ag⟩
   exact AH false Z Z (A6 bg) (Ae (e:=29) Z Z Z)<|Ac 7 Z<|A1<|AC<|Am<|Af [6] Z (.bool false) Z ⟨Bi,ag⟩
  refine AH false Z Z (A6 d5) Aa<|Ac 1 Z<|Ak Z<|L9 [0,0] Z ?_
  by_cases bh:ex.kind=((2:Nat):Int)
  ·refine AH true Z Z (A5 bh) Aa<|Ac 1 Z<|Ah Z<|L9 [0,0,0,0,0,0,0,2,0,0,0,0,0] Z<|Ag 2 Z ?_
   cases di:pl
   ·exact Ac 11 Z<|A1<|AC<|Am<|Af [6] Z (.bool false) Z ⟨Bi,ag⟩
   refine Ag 1 Z ?_
   by_cases bi:(ex.kids.length:Int)=((0:Nat):Int)
   ·refine AH true Z Z (A5 bi) (Ae (e:=41) Z Z Z)<|Ag 2 Z<|Ao (p:=zP w1.heap.size) 1 Bx Z Z (Ae (e:=45) Z Z Z)<|Al (p:=Ar (zP w1.heap.size) 1) (.inr Z) (zI ex.num) AT Z (a1.ldp (i:=1) sM) (Ae (e:=45) Z Z Z)<|Ag 1 Z<|CE (vars-1) Z Z (Dy oM oM) (Ae (e:=45) Z Z Z)<|AJ 83 [] [] [zI ex.num,zI ((0:Nat):Int),zI (vars-1)] Z Z Ek (Ae (e:=45) Z Z Z) (.bool (decide (((0:Nat):Int)≤ex.num) && decide (ex.num≤(vars-1)))) (fun wq=>B3 wq _ _ _ hex.rng.num oM oM)<|Ac 2 Z<|A1<|AC ?_
    exact Am<|Af [6] Z (.bool (decide (((0:Nat):Int)≤ex.num) && decide (ex.num≤(vars-1)))) Z ⟨Bi,ag⟩
   exact AH false Z Z (A6 bi) (Ae (e:=41) Z Z Z)<|Ac 9 Z<|A1<|AC<|Am<|Af [6] Z (.bool false) Z ⟨Bi,ag⟩
  refine AH false Z Z (A6 bh) Aa<|Ac 1 Z<|Ak Z<|A0<|GG (S:=Bool) (fun(b5:Bool)=>([(52,.bool b5),(2,zI vars),(3,zP w.heap.size),(4,zP w1.heap.size),(7,zI (ex.kids.length:Int)),(8,.bool pl),(25,zI ex.kind)])) (fun(b5:Bool) (W:World)=>Az w W∧BX W.heap w.heap.size [vp,zI funcs]∧BX W.heap w1.heap.size [zI ex.kind,zI ex.num,zI ex.pick,zI ex.count,ve]∧b5=decide (ex.kind=3∨ex.kind=4∨ex.kind=5∨ex.kind=6∨ex.kind=9)) ?_ ?_
  ·refine L9 [0,0] Z ?_
   by_cases bj:ex.kind=((3:Nat):Int)
   ·exact AH true Z Z (A5 bj) Aa<|Ac 1 Z<|Ah Z<|A2 ⟨true,_,rfl,zR,⟨ag,a4,a1,DF⟩⟩
   refine AH false Z Z (A6 bj) Aa<|Ac 1 Z<|Ak Z<|L9 [0,0] Z ?_
   by_cases bk:ex.kind=((4:Nat):Int)
   ·exact AH true Z Z (A5 bk) Aa<|Ac 1 Z<|Ah Z<|A2 ⟨true,_,rfl,zR,⟨ag,a4,a1,DF⟩⟩
   refine AH false Z Z (A6 bk) Aa<|Ac 1 Z<|Ak Z<|L9 [0,0] Z ?_
   by_cases bl:ex.kind=((5:Nat):Int)
   ·exact AH true Z Z (A5 bl) Aa<|Ac 1 Z<|Ah Z<|A2 ⟨true,_,rfl,zR,⟨ag,a4,a1,DF⟩⟩
   refine AH false Z Z (A6 bl) Aa<|Ac 1 Z<|Ak Z<|L9 [0,0] Z ?_
   by_cases bm:ex.kind=((6:Nat):Int)
   ·exact AH true Z Z (A5 bm) Aa<|Ac 1 Z<|Ah Z<|A2 ⟨true,_,rfl,zR,⟨ag,a4,a1,DF⟩⟩
   exact AH false Z Z (A6 bm) Aa<|Ac 1 Z<|Ak Z<|Ab _ [0,0] Z<|AH (decide (ex.kind=((9:Nat):Int))) Z Z Z Aa<|Ac 1 Z ⟨decide (ex.kind=((9:Nat):Int)),_,rfl,zR,⟨ag,a4,a1,DF⟩⟩
  clear a1 a4 ag bf
  rintro b5 ρ17 ef ⟨a2,a3,a0,h5b⟩
  have bn:w.heap.size≤ef.heap.size:=a2.size
  have dj:=a3.lt
  have dk:=a0.lt
  cases bo:b5
  ·refine Ak (by first|rfl|exact zW bo)<|L9 [0,0] Z ?_
   have h5n:=of_decide_eq_false (h5b.symm.trans ‹_›)
   clear h5b
   by_cases bp:ex.kind=((7:Nat):Int)
   ·refine AH true Z Z (A5 bp) Aa<|Ac 1 Z<|Ah Z<|L9 [0,0,0,0,2,0,0,0,0,0,0] Z<|Ag 1 Z<|AZ (!pl) Z Z Aa<|Ag 1 Z ?_
    cases dl:(!pl)
    ·refine Ao (p:=zP w1.heap.size) 1 Bx Z Z (Ae (e:=73) Z Z Z)<|Al (p:=Ar (zP w1.heap.size) 1) (.inr Z) (zI ex.num) AT Z (a0.ldp (i:=1) sM) (Ae (e:=73) Z Z Z) ?_
     by_cases bq:ex.num≠((0:Nat):Int)
     ·exact AR true Z Z (A5 bq) (Ae (e:=73) Z Z Z)<|Ac 5 Z<|Ah Z<|La Z<|A1<|AC<|Am<|Af [6] Z (.bool false) Z ⟨Bi,a2⟩
     refine AR false Z Z (A6 bq) (Ae (e:=73) Z Z Z)<|Ag 3 Z ?_
     by_cases br:(ex.kids.length:Int)≠((1:Nat):Int)
     ·exact AR true Z Z (A5 br) (Ae (e:=78) Z Z Z)<|Ac 1 Z<|Ah Z<|La Z<|A1<|AC<|Am<|Af [6] Z (.bool false) Z ⟨Bi,a2⟩
     exact AR false Z Z (A6 br) (Ae (e:=78) Z Z Z)<|Ac 1 Z<|Ak Z<|A2 ⟨(),_,rfl,zR,⟨a2,a3,a0,DE⟩⟩
    exact Ac 8 Z<|Ah Z<|La Z<|A1<|AC<|Am<|Af [6] Z (.bool false) Z ⟨Bi,a2⟩
   refine AH false Z Z (A6 bp) Aa<|Ac 1 Z<|Ak Z<|L9 [0,0] Z ?_
   by_cases bs:ex.kind=((8:Nat):Int)
   ·refine AH true Z Z (A5 bs) Aa<|Ac 1 Z<|Ah Z<|L9 [0,0,0,0,2,0,0,0,0,0,0] Z<|Ag 1 Z<|AZ (!pl) Z Z Aa<|Ag 1 Z ?_
    cases dm:(!pl)
    ·refine Ao (p:=zP w1.heap.size) 1 Bx Z Z (Ae (e:=86) Z Z Z)<|Al (p:=Ar (zP w1.heap.size) 1) (.inr Z) (zI ex.num) AT Z (a0.ldp (i:=1) sM) (Ae (e:=86) Z Z Z) ?_
     by_cases bt:ex.num≠((0:Nat):Int)
     ·exact AR true Z Z (A5 bt) (Ae (e:=86) Z Z Z)<|Ac 5 Z<|Ah Z<|La Z<|A1<|AC<|Am<|Af [6] Z (.bool false) Z ⟨Bi,a2⟩
     refine AR false Z Z (A6 bt) (Ae (e:=86) Z Z Z)<|Ag 3 Z ?_
     by_cases bu:(ex.kids.length:Int)≠((3:Nat):Int)
     ·exact AR true Z Z (A5 bu) (Ae (e:=91) Z Z Z)<|Ac 1 Z<|Ah Z<|La Z<|A1<|AC<|Am<|Af [6] Z (.bool false) Z ⟨Bi,a2⟩
     exact AR false Z Z (A6 bu) (Ae (e:=91) Z Z Z)<|Ac 1 Z<|Ak Z<|A2 ⟨(),_,rfl,zR,⟨a2,a3,a0,DE⟩⟩
    exact Ac 8 Z<|Ah Z<|La Z<|A1<|AC<|Am<|Af [6] Z (.bool false) Z ⟨Bi,a2⟩
   refine AH false Z Z (A6 bs) Aa<|Ac 1 Z<|Ak Z<|A0<|GG (S:=Bool) (fun(b10:Bool)=>([(95,.bool b10),(2,zI vars),(3,zP w.heap.size),(4,zP w1.heap.size),(7,zI (ex.kids.length:Int))])) (fun(b10:Bool) (W:World)=>Az w W∧BX W.heap w.heap.size [vp,zI funcs]∧BX W.heap w1.heap.size [zI ex.kind,zI ex.num,zI ex.pick,zI ex.count,ve]∧b10=decide (ex.kind=10∨ex.kind=11)) ?_ ?_
   ·refine L9 [0,0] Z ?_
    by_cases bv:ex.kind=((10:Nat):Int)
    ·exact AH true Z Z (A5 bv) Aa<|Ac 1 Z<|Ah Z<|A2 ⟨true,_,rfl,zR,⟨a2,a3,a0,DF⟩⟩
    exact AH false Z Z (A6 bv) Aa<|Ac 1 Z<|Ak Z<|Ab _ [0,0] Z<|AH (decide (ex.kind=((11:Nat):Int))) Z Z Z Aa<|Ac 1 Z ⟨decide (ex.kind=((11:Nat):Int)),_,rfl,zR,⟨a2,a3,a0,DF⟩⟩
   clear a0 a3 a2 bn
   rintro b10 ρ33 e8 ⟨an,a6,a7,h10b⟩
   have d6:w.heap.size≤e8.heap.size:=an.size
   have dn:=a6.lt
   have dq:=a7.lt
   cases bw:b10
   ·refine Ak (by first|rfl|exact zW bw)<|L9 [0] Z ?_
    have h10n:=of_decide_eq_false (h10b.symm.trans ‹_›)
    clear h10b
    exact Ac 1 Z<|A1<|AC<|Am<|Af [6] Z (.bool false) Z ⟨Bi,an⟩
   refine Ah (by first|rfl|exact zW bw)<|A0<|L9 [0,2,0,2,0,0,0] Z ?_
   have h5k:=of_decide_eq_true (h10b.symm.trans ‹_›)
   clear h10b
   refine Ao (p:=zP w1.heap.size) 1 Bx Z Z Aa<|Al (p:=Ar (zP w1.heap.size) 1) (.inr Z) (zI ex.num) AT Z (a7.ldp (i:=1) sM) Aa<|Ao (p:=zP w.heap.size) 1 IN Z Z Aa<|Al (p:=Ar (zP w.heap.size) 1) (.inr Z) (zI funcs) AT Z (a6.ldp (i:=1) sM) Aa<|CE (funcs-1) Z Z (Dy oM oM) Aa<|AJ 83 [] [] [zI ex.num,zI ((0:Nat):Int),zI (funcs-1)] Z Z Ek Aa (.bool (decide (((0:Nat):Int)≤ex.num) && decide (ex.num≤(funcs-1)))) (fun wq=>B3 wq _ _ _ hex.rng.num oM oM) ?_
   refine AZ (!(decide (((0:Nat):Int)≤ex.num) && decide (ex.num≤(funcs-1)))) Z Z Aa<|Ai ?_
   cases bx:(!(decide (((0:Nat):Int)≤ex.num) && decide (ex.num≤(funcs-1))))
   ·refine Ak (by first|rfl|exact zW bx)<|A2<|L9 [0,0,2,0,2,0,2,3,4] Z ?_
    have hnr:0≤ex.num∧ex.num≤funcs-1:=by have h9:=‹(!(decide (((0:Nat):Int)≤ex.num) && decide (ex.num≤funcs-1)))=false›;simpa using h9
    refine Ao (p:=zP w.heap.size) 0 IM Z Z Aa<|Ao (p:=Ar (zP w.heap.size) 0) (b:=w.heap.size) (o:=0) 0 AO Z Z Aa<|Al (p:=Ar (Ar (zP w.heap.size) 0) 0) (.inr Z) vp B7 Z (a6.ldp (i:=0) sM) Aa<|Ao (p:=zP w1.heap.size) 1 Bx Z Z Aa<|Al (p:=Ar (zP w1.heap.size) 1) (.inr Z) (zI ex.num) AT Z (a7.ldp (i:=1) sM) Aa ?_
    refine AN (v:=vp) ((ex.num).toNat) C1 B4 Z Z hp.isSl oM sD Aa ?_
    obtain⟨cs40,cv,cw⟩:=hp.get (Aq dp) Fn.zero (k:=(ex.num).toNat) sD
    obtain⟨aa,rfl,ao⟩:=RF.of cv
    have bz:=ao.rn.lenle
    unfold maxLen at bz
    refine Au (p:=AE vp ((ex.num).toNat) 3) (.inr Z) [.string<|(p.getD ((ex.num).toNat) Fn.zero).name,zI<|(p.getD ((ex.num).toNat) Fn.zero).params,aa] BO Z (fun e9 ad=>cw e9<|AG.of_ext []<|an.trans ad) Z Aa ?_
    have dr:=a6.lt
    have ds:=a7.lt
    refine AI (z:=.agg #[.string ByteArray.empty,zI 0,zN]) Fg Aa fun eg ax dt bd=>?_
    have d7:=ax.size
    have c0:=an.trans ax
    have ai:=a6.ext ax
    have aj:=a7.ext ax
    replace bd:BX eg.heap e8.heap.size [.string ByteArray.empty,zI 0,zN]:=bd
    refine AP (vs:=[.string<|(p.getD ((ex.num).toNat) Fn.zero).name,zI<|(p.getD ((ex.num).toNat) Fn.zero).params,aa]) BO Z Z ao.ones bd Z Z Aa fun ee ay du ac=>?_
    replace ac:BX ee.heap e8.heap.size [.string ((p.getD ((ex.num).toNat) Fn.zero).name),zI ((p.getD ((ex.num).toNat) Fn.zero).params),aa]:=ac
    have a8:Az w ee:=ay.below c0 (fun _ h=>zE h) c0.size
    have d8:=ay.size
    have az:=ai.chg ay (zB ·)
    have a9:=aj.chg ay (zB ·)
    refine Ai<|A0<|L9 [0,0,2,0,0,0,2,0,2,0,0,0,0,0] Z<|Ag 1 Z<|Ao (p:=zP e8.heap.size) 1 Bh Z Z Aa<|Al (p:=Ar (zP e8.heap.size) 1) (.inr Z) (zI<|(p.getD ((ex.num).toNat) Fn.zero).params) AT Z (ac.ldp (i:=1) sM) Aa ?_
    by_cases c1:(ex.kids.length:Int)≠(p.getD ((ex.num).toNat) Fn.zero).params
    ·exact AR true Z Z (A5 c1) Aa<|Ac 10 Z<|Ah Z<|La Z<|A1<|Am<|AC<|Am<|Af [6] Z (.bool false) Z ⟨Bi,a8⟩
    refine AR false Z Z (A6 c1) Aa<|Ag 1 Z<|Ao (p:=zP w1.heap.size) 2 Cy Z Z (Ae (e:=116) Z Z Z)<|Al (p:=Ar (zP w1.heap.size) 2) (.inr Z) (zI ex.pick) AT Z (a9.ldp (i:=2) sM) (Ae (e:=116) Z Z Z)<|Ao (p:=zP e8.heap.size) 2 B2 Z Z (Ae (e:=116) Z Z Z)<|Al (p:=Ar (zP e8.heap.size) 2) (.inr Z) aa AU Z (ac.ldp (i:=2) sM) (Ae (e:=116) Z Z Z)<|AS (v:=aa) Bw Z ao.rn.isSl (Ae (e:=116) Z Z Z) ?_
    refine CE (((p.getD (ex.num).toNat Fn.zero).outs.length:Int)-1) Z Z (Dy oM oM) (Ae (e:=116) Z Z Z)<|AJ 83 [] [] [zI ex.pick,zI ((0:Nat):Int),zI (((p.getD (ex.num).toNat Fn.zero).outs.length:Int)-1)] Z Z Ek (Ae (e:=116) Z Z Z) (.bool (decide (((0:Nat):Int)≤ex.pick) && decide (ex.pick≤(((p.getD (ex.num).toNat Fn.zero).outs.length:Int)-1)))) (fun wq=>B3 wq _ _ _ hex.rng.pick oM oM)<|AZ (!(decide (((0:Nat):Int)≤ex.pick) && decide (ex.pick≤(((p.getD (ex.num).toNat Fn.zero).outs.length:Int)-1)))) Z Z (Ae (e:=116) Z Z Z)<|Ac 1 Z ?_
    cases c2:(!(decide (((0:Nat):Int)≤ex.pick) && decide (ex.pick≤(((p.getD (ex.num).toNat Fn.zero).outs.length:Int)-1))))
    ·refine Ak (by first|rfl|exact zW c2)<|A2<|L9 [0,2,0,0,0,2,0,0,0,0,2,0,0,0,2,0,0,2,0,0,0,2,0,0,0,0,0] Z<|Ao (p:=zP w1.heap.size) 0 BH Z Z Aa<|Al (p:=Ar (zP w1.heap.size) 0) (.inr Z) (zI ex.kind) AT Z (a9.ldp (i:=0) sM) Aa ?_
     by_cases c3:ex.kind=((10:Nat):Int)
     ·refine AH true Z Z (A5 c3) Aa<|Ag 1 Z<|Ao (p:=zP w1.heap.size) 3 C2 Z Z (Ae (e:=129) Z Z Z)<|Al (p:=Ar (zP w1.heap.size) 3) (.inr Z) (zI ex.count) AT Z (a9.ldp (i:=3) sM) (Ae (e:=129) Z Z Z) ?_
      by_cases c4:ex.count≠((0:Nat):Int)
      ·exact AR true Z Z (A5 c4) (Ae (e:=129) Z Z Z)<|Ac 20 Z<|Ah Z<|La Z<|A1<|AC<|Am<|Af [6] Z (.bool false) Z ⟨Bi,a8⟩
      refine AR false Z Z (A6 c4) (Ae (e:=129) Z Z Z)<|Ag 2 Z<|Ao (p:=zP w1.heap.size) 0 BH Z Z (Ae (e:=134) Z Z Z)<|Al (p:=Ar (zP w1.heap.size) 0) (.inr Z) (zI ex.kind) AT Z (a9.ldp (i:=0) sM) (Ae (e:=134) Z Z Z) ?_
      by_cases c5:ex.kind=((11:Nat):Int)
      ·refine AH true Z Z (A5 c5) (Ae (e:=134) Z Z Z)<|Ag 1 Z<|Ao (p:=zP e8.heap.size) 2 B2 Z Z (Ae (e:=138) Z Z Z)<|Al (p:=Ar (zP e8.heap.size) 2) (.inr Z) aa AU Z (ac.ldp (i:=2) sM) (Ae (e:=138) Z Z Z)<|AS (v:=aa) Bw Z ao.rn.isSl (Ae (e:=138) Z Z Z)<|Ao (p:=zP e8.heap.size) 1 Bh Z Z (Ae (e:=138) Z Z Z)<|Al (p:=Ar (zP e8.heap.size) 1) (.inr Z) (zI<|(p.getD ((ex.num).toNat) Fn.zero).params) AT Z (ac.ldp (i:=1) sM) (Ae (e:=138) Z Z Z) ?_
       by_cases c6:((((p.getD ((ex.num).toNat) Fn.zero).outs).length:Nat):Int)≠(p.getD ((ex.num).toNat) Fn.zero).params
       ·exact AR true Z Z (A5 c6) (Ae (e:=138) Z Z Z)<|Ac 8 Z<|Ah Z<|La Z<|A1<|AC<|Am<|Af [6] Z (.bool false) Z ⟨Bi,a8⟩
       refine AR false Z Z (A6 c6) (Ae (e:=138) Z Z Z)<|Ag 1 Z<|Ao (p:=zP w1.heap.size) 3 C2 Z Z (Ae (e:=145) Z Z Z)<|Al (p:=Ar (zP w1.heap.size) 3) (.inr Z) (zI ex.count) AT Z (a9.ldp (i:=3) sM) (Ae (e:=145) Z Z Z)<|AJ 83 [] [] [zI ex.count,zI ((0:Nat):Int),zI ((8:Nat):Int)] Z Z Ek (Ae (e:=145) Z Z Z) (.bool (decide (((0:Nat):Int)≤ex.count) && decide (ex.count≤((8:Nat):Int)))) (fun wq=>B3 wq _ _ _ hex.rng.count oM oM)<|AZ (!(decide (((0:Nat):Int)≤ex.count) && decide (ex.count≤((8:Nat):Int)))) Z Z (Ae (e:=145) Z Z Z) ?_
       refine Ac 3 Z ?_
       cases c7:(!(decide (((0:Nat):Int)≤ex.count) && decide (ex.count≤((8:Nat):Int))))
       ·exact Ak (by first|rfl|exact zW c7)<|A2 ⟨(),_,rfl,zR,⟨a8,az,a9,DE⟩⟩
       exact Ah (by first|rfl|exact zW c7)<|La Z<|A1<|AC<|Am<|Af [6] Z (.bool false) Z ⟨Bi,a8⟩
      exact AH false Z Z (A6 c5) (Ae (e:=134) Z Z Z)<|Ac 15 Z<|Ak Z<|A2 ⟨(),_,rfl,zR,⟨a8,az,a9,DE⟩⟩
     refine AH false Z Z (A6 c3) Aa<|Ag 6 Z<|Ao (p:=zP w1.heap.size) 0 BH Z Z (Ae (e:=134) Z Z Z)<|Al (p:=Ar (zP w1.heap.size) 0) (.inr Z) (zI ex.kind) AT Z (a9.ldp (i:=0) sM) (Ae (e:=134) Z Z Z) ?_
     by_cases c8:ex.kind=((11:Nat):Int)
     ·refine AH true Z Z (A5 c8) (Ae (e:=134) Z Z Z)<|Ag 1 Z<|Ao (p:=zP e8.heap.size) 2 B2 Z Z (Ae (e:=138) Z Z Z)<|Al (p:=Ar (zP e8.heap.size) 2) (.inr Z) aa AU Z (ac.ldp (i:=2) sM) (Ae (e:=138) Z Z Z)<|AS (v:=aa) Bw Z ao.rn.isSl (Ae (e:=138) Z Z Z)<|Ao (p:=zP e8.heap.size) 1 Bh Z Z (Ae (e:=138) Z Z Z)<|Al (p:=Ar (zP e8.heap.size) 1) (.inr Z) (zI<|(p.getD ((ex.num).toNat) Fn.zero).params) AT Z (ac.ldp (i:=1) sM) (Ae (e:=138) Z Z Z) ?_
      by_cases c9:((((p.getD ((ex.num).toNat) Fn.zero).outs).length:Nat):Int)≠(p.getD ((ex.num).toNat) Fn.zero).params
      ·exact AR true Z Z (A5 c9) (Ae (e:=138) Z Z Z)<|Ac 8 Z<|Ah Z<|La Z<|A1<|AC<|Am<|Af [6] Z (.bool false) Z ⟨Bi,a8⟩
      refine AR false Z Z (A6 c9) (Ae (e:=138) Z Z Z)<|Ag 1 Z<|Ao (p:=zP w1.heap.size) 3 C2 Z Z (Ae (e:=145) Z Z Z)<|Al (p:=Ar (zP w1.heap.size) 3) (.inr Z) (zI ex.count) AT Z (a9.ldp (i:=3) sM) (Ae (e:=145) Z Z Z)<|AJ 83 [] [] [zI ex.count,zI ((0:Nat):Int),zI ((8:Nat):Int)] Z Z Ek (Ae (e:=145) Z Z Z) (.bool (decide (((0:Nat):Int)≤ex.count) && decide (ex.count≤((8:Nat):Int)))) (fun wq=>B3 wq _ _ _ hex.rng.count oM oM)<|AZ (!(decide (((0:Nat):Int)≤ex.count) && decide (ex.count≤((8:Nat):Int)))) Z Z (Ae (e:=145) Z Z Z) ?_
      refine Ac 3 Z ?_
      cases ca:(!(decide (((0:Nat):Int)≤ex.count) && decide (ex.count≤((8:Nat):Int))))
      ·exact Ak (by first|rfl|exact zW ca)<|A2 ⟨(),_,rfl,zR,⟨a8,az,a9,DE⟩⟩
      exact Ah (by first|rfl|exact zW ca)<|La Z<|A1<|AC<|Am<|Af [6] Z (.bool false) Z ⟨Bi,a8⟩
     exact AH false Z Z (A6 c8) (Ae (e:=134) Z Z Z)<|Ac 15 Z<|Ak Z<|A2 ⟨(),_,rfl,zR,⟨a8,az,a9,DE⟩⟩
    exact Ah (by first|rfl|exact zW c2)<|La Z<|A1<|Am<|AC<|Am<|Af [6] Z (.bool false) Z ⟨Bi,a8⟩
   exact Ah (by first|rfl|exact zW bx)<|La Z<|A1<|Am<|AC<|Am<|Af [6] Z (.bool false) Z ⟨Bi,an⟩
  refine Ah (by first|rfl|exact zW bo)<|L9 [0,0,0,0,2,0,0,0,0,0,0] Z ?_
  have h5k:=of_decide_eq_true (h5b.symm.trans ‹_›)
  clear h5b
  refine Ag 1 Z<|AZ (!pl) Z Z Aa<|Ag 1 Z ?_
  cases dv:(!pl)
  ·refine Ao (p:=zP w1.heap.size) 1 Bx Z Z (Ae (e:=60) Z Z Z)<|Al (p:=Ar (zP w1.heap.size) 1) (.inr Z) (zI ex.num) AT Z (a0.ldp (i:=1) sM) (Ae (e:=60) Z Z Z) ?_
   by_cases cb:ex.num≠((0:Nat):Int)
   ·exact AR true Z Z (A5 cb) (Ae (e:=60) Z Z Z)<|Ac 5 Z<|Ah Z<|La Z<|A1<|AC<|Am<|Af [6] Z (.bool false) Z ⟨Bi,a2⟩
   refine AR false Z Z (A6 cb) (Ae (e:=60) Z Z Z)<|Ag 3 Z ?_
   by_cases cc:(ex.kids.length:Int)≠((2:Nat):Int)
   ·exact AR true Z Z (A5 cc) (Ae (e:=65) Z Z Z)<|Ac 1 Z<|Ah Z<|La Z<|A1<|AC<|Am<|Af [6] Z (.bool false) Z ⟨Bi,a2⟩
   exact AR false Z Z (A6 cc) (Ae (e:=65) Z Z Z)<|Ac 1 Z<|Ak Z<|A2 ⟨(),_,rfl,zR,⟨a2,a3,a0,DE⟩⟩
  exact Ac 8 Z<|Ah Z<|La Z<|A1<|AC<|Am<|Af [6] Z (.bool false) Z ⟨Bi,a2⟩
 clear a1 a4 ag bf
 rintro u ρ8 w8 ⟨cx,ap,ah,hwn⟩
 have cy:w.heap.size≤w8.heap.size:=cx.size
 have dw:=ap.lt
 have dx:=ah.lt
 refine A0<|L9 [0,2,0,0] Z<|Ao (p:=zP w1.heap.size) 4 B5 Z Z Aa<|Al (p:=Ar (zP w1.heap.size) 4) (.inr Z) ve AU Z (ah.ldp (i:=4) sM) Aa<|AS (v:=ve) Bw Z hex.rn.isSl Aa<|Ac 1 Z<|A3 ?_
 refine AW (S:=Nat) (fun k=>([(156,zI (k:Int)),(2,zI vars),(3,zP w.heap.size),(4,zP w1.heap.size),(154,ve),(155,zI (ex.kids.length:Int))])) (fun k W=>Az w W∧BX W.heap w.heap.size [vp,zI funcs]∧BX W.heap w1.heap.size [zI ex.kind,zI ex.num,zI ex.pick,zI ex.count,ve]∧k≤ex.kids.length∧(∀j,j<k→wf p funcs (ex.kids.getD j Ex.zero) (if ex.kind=9∧j=1 then vars+1 else vars)=true)) (fun k=>ex.kids.length-k) 0 ⟨rfl,rfl,rfl,rfl,rfl,rfl,trivial⟩ ⟨cx,ap,ah,sD,(by intro j hj;omega)⟩ ?_
 clear ah ap cx cy
 rintro k ρ65 eb ⟨b0,ae,af,cz,hall⟩
 have d9:w.heap.size≤eb.heap.size:=b0.size
 have dy:=ae.lt
 have dz:=af.lt
 refine L9 [0] Z ?_
 by_cases cd:(k:Int)<(ex.kids.length:Int)
 ·refine AA true Z Z (A5 cd) Aa<|Ai<|A0<|Ah Z<|A2<|A0<|A3<|L9 [0,0,2,3,0,4] Z ?_
  have hkd:=J0 (l:=ex.kids) (k:=k) oM
  refine Ag 1 Z<|AN (v:=ve) k Bw B1 Z Z hex.rn.isSl Z sD Aa ?_
  obtain⟨cs69,d0,d1⟩:=hex.rn.get (AB dex) Ex.zero (k:=k) sD
  obtain⟨dd69,a5,e0,rfl,aq⟩:=RX.of d0
  have ce:=aq.rn.lenle
  unfold maxLen at ce
  refine Au (p:=AE ve k 5) (.inr Z) [zI<|(ex.kids.getD k Ex.zero).kind,zI<|(ex.kids.getD k Ex.zero).num,zI<|(ex.kids.getD k Ex.zero).pick,zI<|(ex.kids.getD k Ex.zero).count,a5] B8 Z (fun e9 ad=>d1 e9<|AG.of_ext []<|b0.trans ad) Z Aa ?_
  have e1:=ae.lt
  have e2:=af.lt
  refine AI (z:=.agg #[zI 0,zI 0,zI 0,zI 0,zN]) DC Aa fun eh b1 e3 be=>?_
  have da:=b1.size
  have cf:=b0.trans b1
  have ak:=ae.ext b1
  have al:=af.ext b1
  replace be:BX eh.heap eb.heap.size [zI 0,zI 0,zI 0,zI 0,zN]:=be
  refine Ag 1 Z (AP (vs:=[zI<|(ex.kids.getD k Ex.zero).kind,zI<|(ex.kids.getD k Ex.zero).num,zI<|(ex.kids.getD k Ex.zero).pick,zI<|(ex.kids.getD k Ex.zero).count,a5]) B8 Z Z aq.ones be Z Z Aa fun ea b2 e4 ar=>?_)
  replace ar:BX ea.heap eb.heap.size [zI ((ex.kids.getD k Ex.zero).kind),zI ((ex.kids.getD k Ex.zero).num),zI ((ex.kids.getD k Ex.zero).pick),zI ((ex.kids.getD k Ex.zero).count),a5]:=ar
  have ab:Az w ea:=b2.below cf (fun _ h=>zE h) cf.size
  have db:=b2.size
  have am:=ak.chg b2 (zB ·)
  have b3:=al.chg b2 (zB ·)
  refine Ai<|L9 [0,0] Z<|Ac 2 Z<|A0<|L9 [0,2,0,0,0,0,0] Z<|Ao (p:=zP w1.heap.size) 0 BH Z Z Aa<|Al (p:=Ar (zP w1.heap.size) 0) (.inr Z) (zI ex.kind) AT Z (b3.ldp (i:=0) sM) Aa ?_
  by_cases cg:ex.kind=((9:Nat):Int)
  ·refine AH true Z Z (A5 cg) Aa<|Ag 2 Z ?_
   by_cases ch:(k:Int)=((1:Nat):Int)
   ·refine AH true Z Z (A5 ch) (Ae (e:=165) Z Z Z)<|Ac 1 Z<|Ah Z<|Ab _ [0,0,0] Z<|Ag 1 Z<|AQ (vars+1) Z Z (Dy oM oM) Aa<|Ac 1 Z<|L9 [2,2,0,3,0] Z<|Au (p:=zP w.heap.size) (.inr Z) [vp,zI funcs] Gw Z (fun e9 ad=>LD.of_box<|BX.ext (w:=ea) am ad) Z Aa<|Au (p:=zP eb.heap.size) (.inr Z) [zI<|(ex.kids.getD k Ex.zero).kind,zI<|(ex.kids.getD k Ex.zero).num,zI<|(ex.kids.getD k Ex.zero).pick,zI<|(ex.kids.getD k Ex.zero).count,a5] B8 Z (fun e9 ad=>LD.of_box<|BX.ext (w:=ea) ar ad) Z Aa<|Ag 1 Z ?_
    refine As 148 [] [] [.agg #[vp,zI funcs],.agg #[zI<|(ex.kids.getD k Ex.zero).kind,zI<|(ex.kids.getD k Ex.zero).num,zI<|(ex.kids.getD k Ex.zero).pick,zI<|(ex.kids.getD k Ex.zero).count,a5],zI (vars+1)] Z Z H3 Aa (ih dd69 oM _ dp vp (p) (funcs) a5 (ex.kids.getD k Ex.zero) _ (hp.ext (Ax<|Aq dp) ab) _hfuncs (aq.ext ab) oM oM oM) ?_
    rintro ei ej ⟨rfl,au⟩
    refine⟨_,rfl,au,?_⟩
    have dc:=au.size
    have ci:=ab.trans au
    have b4:=am.ext au
    have b6:=b3.ext au
    refine AZ (!(wf p funcs (ex.kids.getD k Ex.zero) (vars+1))) Z Z Aa<|Ai ?_
    cases cj:(!(wf p funcs (ex.kids.getD k Ex.zero) (vars+1)))
    ·refine Ak (by first|rfl|exact zW cj)<|A2<|Ab _ [0,0] Z<|AQ ((k+1:Nat):Int) Z Z (Bn oM sD) Aa<|Ac 1 Z ?_
     exact⟨k+1,_,rfl,zR,⟨ci,b4,b6,sD,Gx⟩,zD⟩
    exact Ah (by first|rfl|exact zW cj)<|La Z<|A1<|AC<|Am<|Am<|AC<|Am<|Af [6] Z (.bool false) Z ⟨Bi,ci⟩
   refine AH false Z Z (A6 ch) (Ae (e:=165) Z Z Z)<|Ac 1 Z<|Ak Z<|A2<|L9 [2,2,0,3,0] Z<|Au (p:=zP w.heap.size) (.inr Z) [vp,zI funcs] Gw Z (fun e9 ad=>LD.of_box<|BX.ext (w:=ea) am ad) Z Aa<|Au (p:=zP eb.heap.size) (.inr Z) [zI<|(ex.kids.getD k Ex.zero).kind,zI<|(ex.kids.getD k Ex.zero).num,zI<|(ex.kids.getD k Ex.zero).pick,zI<|(ex.kids.getD k Ex.zero).count,a5] B8 Z (fun e9 ad=>LD.of_box<|BX.ext (w:=ea) ar ad) Z Aa<|Ag 1 Z ?_
   refine As 148 [] [] [.agg #[vp,zI funcs],.agg #[zI<|(ex.kids.getD k Ex.zero).kind,zI<|(ex.kids.getD k Ex.zero).num,zI<|(ex.kids.getD k Ex.zero).pick,zI<|(ex.kids.getD k Ex.zero).count,a5],zI vars] Z Z H3 Aa (ih dd69 oM _ dp vp (p) (funcs) a5 (ex.kids.getD k Ex.zero) _ (hp.ext (Ax<|Aq dp) ab) _hfuncs (aq.ext ab) _hvars oM oM) ?_
   rintro ek el ⟨rfl,av⟩
   refine⟨_,rfl,av,?_⟩
   have dd:=av.size
   have ck:=ab.trans av
   have b7:=am.ext av
   have b8:=b3.ext av
   refine AZ (!(wf p funcs (ex.kids.getD k Ex.zero) vars)) Z Z Aa<|Ai ?_
   cases cl:(!(wf p funcs (ex.kids.getD k Ex.zero) vars))
   ·refine Ak (by first|rfl|exact zW cl)<|A2<|Ab _ [0,0] Z<|AQ ((k+1:Nat):Int) Z Z (Bn oM sD) Aa<|Ac 1 Z ?_
    exact⟨k+1,_,rfl,zR,⟨ck,b7,b8,sD,Gx⟩,zD⟩
   exact Ah (by first|rfl|exact zW cl)<|La Z<|A1<|AC<|Am<|Am<|AC<|Am<|Af [6] Z (.bool false) Z ⟨Bi,ck⟩
  refine AH false Z Z (A6 cg) Aa<|Ac 4 Z<|Ak Z<|A2<|L9 [2,2,0,3,0] Z<|Au (p:=zP w.heap.size) (.inr Z) [vp,zI funcs] Gw Z (fun e9 ad=>LD.of_box<|BX.ext (w:=ea) am ad) Z Aa<|Au (p:=zP eb.heap.size) (.inr Z) [zI<|(ex.kids.getD k Ex.zero).kind,zI<|(ex.kids.getD k Ex.zero).num,zI<|(ex.kids.getD k Ex.zero).pick,zI<|(ex.kids.getD k Ex.zero).count,a5] B8 Z (fun e9 ad=>LD.of_box<|BX.ext (w:=ea) ar ad) Z Aa<|Ag 1 Z ?_
  refine As 148 [] [] [.agg #[vp,zI funcs],.agg #[zI<|(ex.kids.getD k Ex.zero).kind,zI<|(ex.kids.getD k Ex.zero).num,zI<|(ex.kids.getD k Ex.zero).pick,zI<|(ex.kids.getD k Ex.zero).count,a5],zI vars] Z Z H3 Aa (ih dd69 oM _ dp vp (p) (funcs) a5 (ex.kids.getD k Ex.zero) _ (hp.ext (Ax<|Aq dp) ab) _hfuncs (aq.ext ab) _hvars oM oM) ?_
  rintro em en ⟨rfl,aw⟩
  refine⟨_,rfl,aw,?_⟩
  have de:=aw.size
  have cm:=ab.trans aw
  have b9:=am.ext aw
  have ba:=b3.ext aw
  refine AZ (!(wf p funcs (ex.kids.getD k Ex.zero) vars)) Z Z Aa<|Ai ?_
  cases cn:(!(wf p funcs (ex.kids.getD k Ex.zero) vars))
  ·refine Ak (by first|rfl|exact zW cn)<|A2<|Ab _ [0,0] Z<|AQ ((k+1:Nat):Int) Z Z (Bn oM sD) Aa<|Ac 1 Z ?_
   exact⟨k+1,_,rfl,zR,⟨cm,b9,ba,sD,Gx⟩,zD⟩
  exact Ah (by first|rfl|exact zW cn)<|La Z<|A1<|AC<|Am<|Am<|AC<|Am<|Af [6] Z (.bool false) Z ⟨Bi,cm⟩
 exact AA false Z Z (A6 cd) Aa<|Ai<|A0<|Ak Z<|A4<|AD<|AD<|Ay<|La Z<|A1<|Af [6] Z (.bool true) Z ⟨Bi,b0⟩
theorem Gy {s:ByteArray}{k:Nat}(hk:k<s.size)(h:(DU s k<97∨122<DU s k)∧(k=0∨DU s k<48∨57<DU s k)):false=FZ s:=by
  have hc:J1 s k=false:=by
    unfold J1
    rcases h with⟨h1|h1,h2|h2|h2⟩ <;> simp <;> omega
  unfold FZ
  rw[DZ hk hc,Bool.and_false]
theorem He {s:ByteArray}{k:Nat}(h:(97≤DU s k∧DU s k≤122)∨(k≠0∧48≤DU s k∧DU s k≤57)):J1 s k=true:=by
  unfold J1
  rcases h with h|h <;> simp <;> omega
theorem Ik {s:ByteArray}{k:Nat}{b:Bool}(h:(List.range k).all (J1 s)=true)(hk:k=s.size)(hb:b=(decide (1≤s.size) && decide (s.size≤12))):b=FZ s:=by
  subst hk
  unfold FZ
  rw[h,Bool.and_true,hb]
theorem Dc {p:Prop}(h:p:=by first|exact At (Gy (k:=k) oM oM)|exact At (Ik hq oM (by first|(rw[A5 (show 1≤s.size by omega),Bool.true_and];exact decide_eq_decide.2 oM)|(rw[A6 (show ¬1≤s.size by omega)];rfl)))):p:=h
theorem Fo (w:World)(s:ByteArray)  (hl:s.size≤1000000000) :
  Calls Try.prog 124 #[.string s] w (fun e w'=>e=.returned (.bool (FZ s))∧w'=w):=by
 refine Aw [.string s] 44 Try.func124 Z Z sM ?_
 have a3:w=w:=rfl
 refine La Z<|A0<|L9 [0,0,0] Z<|Ag 1 Z<|DW (s:=s) u9 Z Aa<|Ac 1 Z<|A3 ?_
 refine AW (S:=Nat) (fun k=>([(6,zI (k:Int)),(0,.string s),(5,zI (s.size:Int))])) (fun k W=>W=w∧k≤s.size∧(List.range k).all (J1 s)=true) (fun k=>s.size-k) 0 ⟨rfl,rfl,rfl,trivial⟩ ⟨a3,sD,(by rfl)⟩ ?_
 clear a3
 rintro k ρ1 w1 ⟨a0,a4,hq⟩
 refine L9 [0] Z ?_
 by_cases a5:(k:Int)<(s.size:Int)
 ·refine AA true Z Z (A5 a5) Aa<|Ai<|A0<|Ah Z<|A2<|A0<|A3<|L9 [0,0] Z<|Ac 2 Z<|L9 [0,0,0,0,0,0,0,0,0,0,0,0,0,0,0,0,0,0,0,0,0,0,0,0,0,0] Z<|Ag 2 Z<|BK (s:=s) k u9 Z Z Z sD Aa ?_
  by_cases a6:((DU s k:Nat):Int)<97
  ·refine AA true Z Z (A5 a6) Aa<|Ag 8 Z ?_
   by_cases a7:(k:Int)=((0:Nat):Int)
   ·exact AH true Z Z (A5 a7) (Ae (e:=19) Z Z Z)<|Ac 13 Z<|Ah Z<|La Z<|A1<|AC<|Am<|Am<|AC<|Am<|Af [2] Z (.bool false) Z ⟨Dc,a0⟩
   refine AH false Z Z (A6 a7) (Ae (e:=19) Z Z Z)<|Ag 3 Z<|BK (s:=s) k u9 Z Z Z sD (Ae (e:=22) Z Z Z) ?_
   by_cases a8:((DU s k:Nat):Int)<48
   ·exact AA true Z Z (A5 a8) (Ae (e:=22) Z Z Z)<|Ac 8 Z<|Ah Z<|La Z<|A1<|AC<|Am<|Am<|AC<|Am<|Af [2] Z (.bool false) Z ⟨Dc,a0⟩
   refine AA false Z Z (A6 a8) (Ae (e:=22) Z Z Z)<|Ag 4 Z<|BK (s:=s) k u9 Z Z Z sD (Ae (e:=28) Z Z Z) ?_
   by_cases a9:57<((DU s k:Nat):Int)
   ·exact BJ true Z Z (A5 a9) (Ae (e:=28) Z Z Z)<|Ac 2 Z<|Ah Z<|La Z<|A1<|AC<|Am<|Am<|AC<|Am<|Af [2] Z (.bool false) Z ⟨Dc,a0⟩
   refine BJ false Z Z (A6 a9) (Ae (e:=28) Z Z Z)<|Ac 2 Z<|Ak Z<|A2<|Ab _ [0,0] Z<|AQ ((k+1:Nat):Int) Z Z (Bn oM sD) Aa<|Ac 1 Z ?_
   exact⟨k+1,_,rfl,zR,⟨a0,sD,(by exact C3 hq (He oM))⟩,zD⟩
  refine AA false Z Z (A6 a6) Aa<|Ag 3 Z<|BK (s:=s) k u9 Z Z Z sD (Ae (e:=13) Z Z Z) ?_
  by_cases aa:122<((DU s k:Nat):Int)
  ·refine BJ true Z Z (A5 aa) (Ae (e:=13) Z Z Z)<|Ag 3 Z ?_
   by_cases ab:(k:Int)=((0:Nat):Int)
   ·exact AH true Z Z (A5 ab) (Ae (e:=19) Z Z Z)<|Ac 13 Z<|Ah Z<|La Z<|A1<|AC<|Am<|Am<|AC<|Am<|Af [2] Z (.bool false) Z ⟨Dc,a0⟩
   refine AH false Z Z (A6 ab) (Ae (e:=19) Z Z Z)<|Ag 3 Z<|BK (s:=s) k u9 Z Z Z sD (Ae (e:=22) Z Z Z) ?_
   by_cases ac:((DU s k:Nat):Int)<48
   ·exact AA true Z Z (A5 ac) (Ae (e:=22) Z Z Z)<|Ac 8 Z<|Ah Z<|La Z<|A1<|AC<|Am<|Am<|AC<|Am<|Af [2] Z (.bool false) Z ⟨Dc,a0⟩
   refine AA false Z Z (A6 ac) (Ae (e:=22) Z Z Z)<|Ag 4 Z<|BK (s:=s) k u9 Z Z Z sD (Ae (e:=28) Z Z Z) ?_
   by_cases a1:57<((DU s k:Nat):Int)
   ·exact BJ true Z Z (A5 a1) (Ae (e:=28) Z Z Z)<|Ac 2 Z<|Ah Z<|La Z<|A1<|AC<|Am<|Am<|AC<|Am<|Af [2] Z (.bool false) Z ⟨Dc,a0⟩
   refine BJ false Z Z (A6 a1) (Ae (e:=28) Z Z Z)<|Ac 2 Z<|Ak Z<|A2<|Ab _ [0,0] Z<|AQ ((k+1:Nat):Int) Z Z (Bn oM sD) Aa<|Ac 1 Z ?_
   exact⟨k+1,_,rfl,zR,⟨a0,sD,(by exact C3 hq (He oM))⟩,zD⟩
  refine BJ false Z Z (A6 aa) (Ae (e:=13) Z Z Z)<|Ac 17 Z<|Ak Z<|A2<|Ab _ [0,0] Z<|AQ ((k+1:Nat):Int) Z Z (Bn oM sD) Aa<|Ac 1 Z ?_
  exact⟨k+1,_,rfl,zR,⟨a0,sD,(by exact C3 hq (He oM))⟩,zD⟩
 refine AA false Z Z (A6 a5) Aa<|Ai<|A0<|Ak Z<|A4<|AD<|AD<|Ay<|L9 [0,0,0,0,0,0,0,0,0] Z<|Ag 1 Z<|DW (s:=s) u9 Z Aa ?_
 by_cases a2:((1:Nat):Int)≤(s.size:Int)
 ·exact Cp true Z Z (A5 a2) Aa<|Ag 2 Z<|DW (s:=s) u9 Z (Ae (e:=39) Z Z Z)<|D8 (decide ((s.size:Int)≤((12:Nat):Int))) Z Z Z (Ae (e:=39) Z Z Z)<|Ac 2 Z<|A1<|Af [2] Z (.bool<|decide ((s.size:Int)≤((12:Nat):Int))) Z ⟨Dc,a0⟩
 exact Cp false Z Z (A6 a2) Aa<|Ac 6 Z<|A1<|Af [2] Z (.bool false) Z ⟨Dc,a0⟩
theorem D6 (w:World)(dx:Nat)(vo:Value)(x:Fn)(bf:Nat)(vf:Value)(f:Fn)(hx:RF [] dx w.heap vo x)(hBf:BX w.heap bf [.string f.name,zI f.params,vf])  :
  Calls Try.prog 125 #[(.agg #[(.string x.name),(zI x.params),vo]),zP bf] w (fun e w'=>e=.returned (.bool (BM x.name f.name))∧Az w w'):=by
 refine Aw [.agg #[.string x.name,zI x.params,vo],zP bf] 9 Try.func125 Z Z sM ?_
 have a3:Az w w:=Az.refl w
 have a8:=hx.rn.lenle
 unfold maxLen at a8
 refine L9 [3,0] Z ?_
 have a6:=hBf.lt
 refine Bf (cs:=#[.string x.name,zI x.params,vo]) Z Aa fun w1 a1 a7 a2=>?_
 have a4:=a1.size
 have a5:=a3.trans a1
 have a0:=hBf.ext a1
 replace a2:BX w1.heap w.heap.size [.string x.name,zI x.params,vo]:=a2
 exact Ac 1 Z<|L9 [0,2,0,2,0,0] Z<|Ao (p:=zP w.heap.size) 0 BS Z Z Aa<|Al (p:=Ar (zP w.heap.size) 0) (.inr Z) (.string x.name) Dq Z (a2.ldp (i:=0) sM) Aa<|Ao (p:=zP bf) 0 BS Z Z Aa<|Al (p:=Ar (zP bf) 0) (.inr Z) (.string f.name) Dq Z (a0.ldp (i:=0) sM) Aa<|DY (BM x.name f.name) u9 Z Z Z Aa<|Ac 1 Z<|A1<|Af [3] Z (.bool<|BM x.name f.name) Z ⟨rfl,a5⟩
theorem BE (w:World) (da:Nat) (va:Value) (a:List Fn) (q:Nat) (qf qc:List Value) (pr:Fn→Bool) (ha:RP [] da w.heap va a) (hcf_q:((Try.prog.funcs[q]?).map fun fn=>(fn.name != "runtime.NumGoroutine") && fn.body.isSome) = some true) (hpr:∀ (d9:Nat) (u:Value) (x:Fn) w1,RF [] d9 w1.heap u x→Az w w1→Calls Try.prog q (qf++[Value.agg #[Value.string x.name,Value.int .i64 x.params,u]]++qc).toArray w1 (fun e w2=>e = .returned (.bool (pr x))∧Az w1 w2))  :
  Calls Try.prog 122 #[va,.func (.func q) qf.toArray qc.toArray] w (fun e w'=>e = .returned (zI (Hu pr a))∧Az w w'):=by
 refine Aw [va,.func (.func q) qf.toArray qc.toArray] 19 Try.func122 Z Z sM ?_
 have a5:Az w w:=Az.refl w
 have ag:=ha.lenle
 unfold maxLen at ag
 refine La Z<|A0<|L9 [0,0,0] Z<|Ag 1 Z<|AS (v:=va) C1 Z ha.isSl Aa<|Ac 1 Z<|A3 ?_
 refine AW (S:=Nat) (fun k=>([(8,zI ((k :Nat):Int)),(0,va),(1,.func (.func q) qf.toArray qc.toArray),(7,zI ((a.length :Nat):Int))])) (fun k W=>Az w W∧k≤a.length∧(∀ j,j < k→pr (a.getD j Fn.zero) = false)) (fun k=>a.length - k) 0 ⟨rfl,rfl,rfl,rfl,trivial⟩ ⟨a5,sD,(by intro j hj; omega)⟩ ?_
 clear a5
 rintro k ρ1 w1 ⟨a1,a6,hq⟩
 have aa:w.heap.size≤w1.heap.size:=a1.size
 refine L9 [0] Z ?_
 by_cases a7:((k :Nat):Int) < ((a.length :Nat):Int)
 ·
  refine AA true Z Z (A5 a7) Aa<|Ai<|A0<|Ah Z<|A2<|A0<|A3<|L9 [0,0] Z<|Ac 2 Z<|L9 [0,0,0,0,2,3] Z<|Ag 3 Z<|AN (v:=va) k C1 B4 Z Z ha.isSl Z sD Aa ?_
  obtain ⟨cs3,ab,ac⟩:=ha.get (Aq da) Fn.zero (k:=k) sD
  obtain ⟨a8,rfl,a2⟩:=RF.of ab
  have a3:=a2.rn.lenle
  unfold maxLen at a3
  refine Au (p:=AE va k 3) (.inr Z) [.string<|(a.getD k Fn.zero).name,zI<|(a.getD k Fn.zero).params,a8] BO Z (fun ah ad=>ac ah<|AG.of_ext []<|a1.trans ad) Z Aa ?_
  have a0:=hpr da a8 (a.getD k Fn.zero) w1 ⟨a2.rng,a2.rn.ext (Ax<|AB da) a1⟩ a1
  refine As q qf qc _ Z Z hcf_q Aa a0 ?_
  rintro e4 w4 ⟨rfl,a4⟩
  refine ⟨_,rfl,a4,?_⟩
  have ae:=a4.size
  have a9:=a1.trans a4
  cases af:pr (a.getD k Fn.zero)
  ·
   refine Ai<|Ak Z<|A2<|Ab _ [0,0] Z<|AQ ((k + 1 :Nat):Int) Z Z (Bn oM sD) Aa<|Ac 1 Z ?_
   exact ⟨k + 1,_,rfl,zR,⟨a9,sD,(by exact Hd hq (by assumption))⟩,by first | omega | (dsimp only; omega)⟩
  
  exact Ai<|Ah Z<|L9 [0,0] Z<|Ac 2 Z<|A1<|AC<|Am<|Am<|AC<|Am<|Af [4] Z (zI ((k :Nat):Int)) Z ⟨AK<|Ii Fn.zero hq oM (by assumption),a9⟩
 
 exact AA false Z Z (A6 a7) Aa<|Ai<|A0<|Ak Z<|A4<|AD<|AD<|Ay<|La Z<|A1<|Af [4] Z (zI (-1)) Z ⟨AK<|Jg Fn.zero hq oM,a1⟩
theorem AV (w:World) (da:Nat) (va:Value) (a:List Fn) (q:Nat) (qf qc:List Value) (pr:Fn→Bool) (ha:RP [] da w.heap va a) (hcf_q:((Try.prog.funcs[q]?).map fun fn=>(fn.name != "runtime.NumGoroutine") && fn.body.isSome) = some true) (hpr:∀ (d9:Nat) (u:Value) (x:Fn) w1,RF [] d9 w1.heap u x→Az w w1→Calls Try.prog q (qf++[Value.agg #[Value.string x.name,Value.int .i64 x.params,u]]++qc).toArray w1 (fun e w2=>e = .returned (.bool (pr x))∧Az w1 w2))  :
  Calls Try.prog 84 #[va,.func (.func q) qf.toArray qc.toArray] w (fun e w'=>e = .returned (.bool (a.any pr))∧Az w w'):=by
 refine Aw [va,.func (.func q) qf.toArray qc.toArray] 9 Try.func84 Z Z sM ?_
 have a0:Az w w:=Az.refl w
 have a4:=ha.lenle
 unfold maxLen at a4
 refine La Z<|L9 [0,0,3,0,0] Z<|Ag 2 Z<|As 122 [] [] [va,.func (.func q) qf.toArray qc.toArray] Z Z K6 Aa (BE _ da va (a) q qf qc pr (ha.ext (Ax<|Aq da) a0) hcf_q fun d9 u x w1 hx hw=>hpr d9 u x w1 hx<|a0.trans hw) ?_
 rintro e1 w1 ⟨rfl,a1⟩
 refine ⟨_,rfl,a1,?_⟩
 have a2:=a1.size
 have a3:=a0.trans a1
 exact Cp (decide (((0 :Nat):Int)≤Hu pr a)) Z Z Z Aa<|Ac 1 Z<|A1<|Af [4] Z (.bool<|decide (((0 :Nat):Int)≤Hu pr a)) Z ⟨At<|Jh pr a,a3⟩
theorem EX (w:World)(vars:Int)(_hvars:BF vars)  :
  Calls Try.prog 146 #[zI vars] w (fun e w'=>e=.returned (.bool (D4 vars 0 412))∧w'=w):=by
 refine Aw [zI vars] 5 Try.func146 Z Z sM ?_
 have a0:w=w:=rfl
 exact La Z<|L9 [0,0,0] Z<|Ag 1 Z<|AJ 83 [] [] [zI vars,zI ((0:Nat):Int),zI ((412:Nat):Int)] Z Z Ek Aa (.bool (decide (((0:Nat):Int)≤vars) && decide (vars≤((412:Nat):Int)))) (fun wq=>B3 wq _ _ _ _hvars oM oM)<|Ac 1 Z<|A1<|Af [2] Z (.bool (decide (((0:Nat):Int)≤vars) && decide (vars≤((412:Nat):Int)))) Z ⟨rfl,a0⟩
theorem Hf {p:List Fn}{e:Ex}{vars funcs:Int}(h:(0≤vars∧vars≤412)∧(0≤funcs∧funcs≤((p.length:Nat):Int))∧e.size≤400∧e.deep≤60):wf p funcs e vars=FA p e vars funcs:=by
  unfold FA
  rw[BC.2 h.1,BC.2 h.2.1,A5 h.2.2.1,A5 h.2.2.2];rfl
theorem FI {p:List Fn}{e:Ex}{vars funcs:Int}(h:¬((0≤vars∧vars≤412)∧(0≤funcs∧funcs≤((p.length:Nat):Int))∧e.size≤400∧e.deep≤60)):false=FA p e vars funcs:=by
  cases hh:FA p e vars funcs with
  |false=>rfl
  |true =>
    unfold FA at hh
    simp only[z7,decide_eq_true_eq,BC]at hh
    exact absurd ⟨hh.1,hh.2.1,hh.2.2.1,hh.2.2.2.1⟩ h
theorem Jj {p:List Fn}{e:Ex}{vars funcs:Int}(h:wf p funcs e vars=false):false=FA p e vars funcs:=by
  unfold FA;rw[h];simp
theorem Il {x a b:Int}(h:D4 x a b=false):¬(a≤x∧x≤b):=fun hh=>by rw[BC.2 hh]at h;cases h
theorem Hg {x a b:Int}(h:(decide (a≤x) && decide (x≤b))=false):¬(a≤x∧x≤b):=Il h
theorem Dd {x a b:Int}(h:(decide (a≤x) && decide (x≤b))=true):a≤x∧x≤b:=BC.1 h
theorem EY {p:Prop}(h:p:=by first|exact At (Jj (by assumption))|exact At (Hf ⟨BC.1 (by assumption),Dd (by assumption),zO,zO⟩)|exact At ((by assumption:wf p funcs ex vars=true).symm.trans (Hf ⟨BC.1 (by assumption),Dd (by assumption),zO,zO⟩))|exact At (FI fun hh=>Il (by assumption) hh.1)|exact At (FI fun hh=>Hg (by assumption) hh.2.1)|exact At (FI oM)):p:=h
theorem E7 (w:World)(dp:Nat)(vp:Value)(p:List Fn)(dex:Nat)(ve:Value)(ex:Ex)(vars:Int)(funcs:Int)(hp:RP [] dp w.heap vp p)(hex:RX [] dex w.heap ve ex)(_hvars:BF vars)(_hfuncs:BF funcs)(hs:ex.size≤1000000000) :
  Calls Try.prog 126 #[(.agg #[vp]),(.agg #[(zI ex.kind),(zI ex.num),(zI ex.pick),(zI ex.count),ve]),zI vars,zI funcs] w (fun e w'=>e=.returned (.bool (FA p ex vars funcs))∧Az w w'):=by
 refine Aw [.agg #[vp],.agg #[zI ex.kind,zI ex.num,zI ex.pick,zI ex.count,ve],zI vars,zI funcs] 36 Try.func126 Z Z sM ?_
 have am:Az w w:=Az.refl w
 have az:=hp.lenle
 unfold maxLen at az
 have b0:=hex.rn.lenle
 unfold maxLen at b0
 refine L9 [3,3,0] Z (Bf (cs:=#[vp]) Z Aa fun w1 ai ar ac=>?_)
 have an:=ai.size
 have ao:=am.trans ai
 replace ac:BX w1.heap w.heap.size [vp]:=ac
 have au:=ac.lt
 refine Bf (cs:=#[zI ex.kind,zI ex.num,zI ex.pick,zI ex.count,ve]) Z Aa fun w2 af av ad=>?_
 have ap:=af.size
 have ae:=ao.trans af
 have a2:=ac.ext af
 replace ad:BX w2.heap w1.heap.size [zI ex.kind,zI ex.num,zI ex.pick,zI ex.count,ve]:=ad
 refine Ac 1 Z<|L9 [0,0,0,0,0,2,0,0,0,0,2,3,0,0,0,2,3,0,0,0,2,0,0,2,0,3,0,0] Z<|Ag 1 Z<|AJ 146 [] [] [zI vars] Z Z Kf Aa (.bool<|D4 vars 0 412) (fun wq=>EX wq _ _hvars)<|Ag 1 Z ?_
 cases aw:(D4 vars 0 412)
 ·exact Ac 25 Z<|A1<|Af [8] Z (.bool false) Z ⟨EY,ae⟩
 refine Ag 1 Z<|Ao (p:=zP w.heap.size) 0 AO Z Z (Ae (e:=11) Z Z Z)<|Al (p:=Ar (zP w.heap.size) 0) (.inr Z) vp B7 Z (a2.ldp (i:=0) sM) (Ae (e:=11) Z Z Z)<|AS (v:=vp) C1 Z hp.isSl (Ae (e:=11) Z Z Z)<|AJ 83 [] [] [zI funcs,zI ((0:Nat):Int),zI (p.length:Int)] Z Z Ek (Ae (e:=11) Z Z Z) (.bool (decide (((0:Nat):Int)≤funcs) && decide (funcs≤(p.length:Int)))) (fun wq=>B3 wq _ _ _ _hfuncs oM oM)<|Ag 2 Z ?_
 cases ax:(decide (((0:Nat):Int)≤funcs) && decide (funcs≤(p.length:Int)))
 ·exact Ac 18 Z<|A1<|Af [8] Z (.bool false) Z ⟨EY,ae⟩
 refine Au (p:=zP w1.heap.size) (.inr Z) [zI ex.kind,zI ex.num,zI ex.pick,zI ex.count,ve] B8 Z (fun b1 a4=>LD.of_box<|BX.ext (w:=w2) ad a4) Z (Ae (e:=18) Z Z Z)<|As 127 [] [] [.agg #[zI ex.kind,zI ex.num,zI ex.pick,zI ex.count,ve]] Z Z I1 (Ae (e:=18) Z Z Z) (CX _ dex ve (ex) (hex.ext ae) oM) ?_
 rintro e8 w8 ⟨rfl,a8⟩
 refine⟨_,rfl,a8,?_⟩
 have aq:=a8.size
 have ag:=ae.trans a8
 have a9:=a2.ext a8
 have a3:=ad.ext a8
 by_cases aj:(ex.size:Int)≤((400:Nat):Int)
 ·refine D8 true Z Z (A5 aj) (Ae (e:=18) Z Z Z)<|Ag 2 Z<|Au (p:=zP w1.heap.size) (.inr Z) [zI ex.kind,zI ex.num,zI ex.pick,zI ex.count,ve] B8 Z (fun b1 a4=>LD.of_box<|BX.ext (w:=w8) a3 a4) Z (Ae (e:=23) Z Z Z)<|As 147 [] [] [.agg #[zI ex.kind,zI ex.num,zI ex.pick,zI ex.count,ve]] Z Z Jb (Ae (e:=23) Z Z Z) (E6 _ dex ve (ex) (hex.ext ag) oM) ?_
  rintro b4 b2 ⟨rfl,a0⟩
  refine⟨_,rfl,a0,?_⟩
  have ak:=a0.size
  have a1:=ag.trans a0
  have a5:=a9.ext a0
  have a6:=a3.ext a0
  by_cases aa:(ex.deep:Int)≤((60:Nat):Int)
  ·refine D8 true Z Z (A5 aa) (Ae (e:=23) Z Z Z)<|Ag 2 Z<|Au (p:=zP w.heap.size) (.inr Z) [vp] AL Z (fun b1 a4=>LD.of_box<|BX.ext (w:=b2) a5 a4) Z (Ae (e:=28) Z Z Z)<|Ag 1 Z ?_
   have ab:∀(vp:Value) (ay:Nat) (h12_0:EC vp ay) (wq:World),(Instr.build 182 #[(0,.agg #[vp]),(1,zI funcs)]).run Try.prog wq=.ok (.agg #[vp,zI funcs]) wq:=by intro vp ay h12_0 wq;obtain⟨a12_0,b3,rfl,_⟩:=h12_0;kernel_rfl
   refine Bb (ps:=#[(0,.agg #[vp]),(1,zI funcs)]) (.agg #[vp,zI funcs]) (by simp only[zc,zf,zh];rfl) (fun wq=>ab vp _ hp.isSl wq) (Ae (e:=28) Z Z Z)<|Au (p:=zP w1.heap.size) (.inr Z) [zI ex.kind,zI ex.num,zI ex.pick,zI ex.count,ve] B8 Z (fun b1 a4=>LD.of_box<|BX.ext (w:=b2) a6 a4) Z (Ae (e:=28) Z Z Z)<|Ag 1 Z ?_
   refine As 148 [] [] [.agg #[vp,zI funcs],.agg #[zI ex.kind,zI ex.num,zI ex.pick,zI ex.count,ve],zI vars] Z Z H3 (Ae (e:=28) Z Z Z) (CO _ dp vp (p) (funcs) dex ve (ex) _ (hp.ext (Ax<|Aq dp) a1) _hfuncs (hex.ext a1) _hvars (by have h1:=BC.1 (by assumption:D4 vars 0 412=true);omega) (by have h2:=Dd (by assumption:(decide (((0:Nat):Int)≤funcs) && decide (funcs≤(p.length:Int)))=true);omega)) ?_
   rintro b5 b6 ⟨rfl,a7⟩
   refine⟨_,rfl,a7,?_⟩
   have al:=a7.size
   have ah:=a1.trans a7
   exact Ac 2 Z<|A1<|Af [8] Z (.bool<|wf p funcs ex vars) Z ⟨EY,ah⟩
  exact D8 false Z Z (A6 aa) (Ae (e:=23) Z Z Z)<|Ac 10 Z<|A1<|Af [8] Z (.bool false) Z ⟨EY,a1⟩
 exact D8 false Z Z (A6 aj) (Ae (e:=18) Z Z Z)<|Ac 15 Z<|A1<|Af [8] Z (.bool false) Z ⟨EY,ag⟩
theorem Im {p:List Fn}(h:¬p.length≤16):false=Cw p:=by unfold Cw;rw[A6 h];rfl
theorem DG {p:List Fn}{k:Nat}(hk:k<p.length)(h:Ej p k=false):false=Cw p:=by unfold Cw;rw[DZ hk h,Bool.and_false]
theorem In {p:List Fn}{k:Nat}(hl:p.length≤16)(hk:p.length≤k)(hk2:k≤p.length)(h:(List.range k).all (Ej p)=true):true=Cw p:=by
  have:k=p.length:=by omega
  subst this;unfold Cw;rw[h,A5 hl];rfl
section
variable {p:List Fn} {k:Nat}
theorem Kr (h:FZ (p.getD k Fn.zero).name=false):Ej p k=false:=by unfold Ej;rw[h];rfl
theorem Ks (h:(p.take k).any (fun g=>BM g.name (p.getD k Fn.zero).name)=true):Ej p k=false:=by unfold Ej Jv;rw[h];simp
theorem Kt (h:(decide (((0:Nat):Int)≤(p.getD k Fn.zero).params) && decide ((p.getD k Fn.zero).params≤((12:Nat):Int)))=false):Ej p k=false:=by
  have h':D4 (p.getD k Fn.zero).params 0 12=false:=h
  unfold Ej;rw[h'];simp
theorem Ku (h:(decide (((1:Nat):Int)≤(((p.getD k Fn.zero).outs.length:Nat):Int)) && decide ((((p.getD k Fn.zero).outs.length:Nat):Int)≤((12:Nat):Int)))=false):Ej p k=false:=by
  have h':D4 (((p.getD k Fn.zero).outs.length:Nat):Int) 1 12=false:=h
  unfold Ej;rw[h'];simp
theorem Kv {j:Nat}(hj:j<(p.getD k Fn.zero).outs.length)(h:FA p ((p.getD k Fn.zero).outs.getD j Ex.zero) (p.getD k Fn.zero).params ((k:Nat):Int)=false):Ej p k=false:=by
  unfold Ej
  rw[DZ hj h];simp
theorem Kw (h:¬Ex.sizes (p.getD k Fn.zero).outs≤400):Ej p k=false:=by
  unfold Ej;rw[A6 h];simp
theorem Jk {j:Nat}(h1:FZ (p.getD k Fn.zero).name=true)(h2:(p.take k).any (fun g=>BM g.name (p.getD k Fn.zero).name)=false)(h3:(decide (((0:Nat):Int)≤(p.getD k Fn.zero).params) && decide ((p.getD k Fn.zero).params≤((12:Nat):Int)))=true)(h4:(decide (((1:Nat):Int)≤(((p.getD k Fn.zero).outs.length:Nat):Int)) && decide ((((p.getD k Fn.zero).outs.length:Nat):Int)≤((12:Nat):Int)))=true)(h5:(List.range j).all (fun j=>FA p ((p.getD k Fn.zero).outs.getD j Ex.zero) (p.getD k Fn.zero).params ((k:Nat):Int))=true)(hj:j=(p.getD k Fn.zero).outs.length)(h6:Ex.sizes (p.getD k Fn.zero).outs≤400):Ej p k=true:=by
  have h3':D4 (p.getD k Fn.zero).params 0 12=true:=h3
  have h4':D4 (((p.getD k Fn.zero).outs.length:Nat):Int) 1 12=true:=h4
  subst hj
  unfold Ej Jv
  rw[h1,h2,h3',h4',h5,A5 h6];rfl
end
theorem AX {b:Bool}(h:(!b)=false):b=true:=by cases b <;> simp_all
theorem Bc {b:Bool}(h:(!b)=true):b=false:=by cases b <;> simp_all
theorem Eh {p:Prop}(h:p:=by first|exact At (Im oM)|exact At (In oM oM oM hq)|exact At (DG (k:=k) oM (Kr (Bc (by assumption))))|exact At (DG (k:=k) oM (Ks (by assumption)))|exact At (DG (k:=k) oM (Kt (Bc (by assumption))))|exact At (DG (k:=k) oM (Ku (Bc (by assumption))))|exact At (DG (k:=k) oM (Kv (j:=j) oM (Bc (by assumption))))|exact At (DG (k:=k) oM (Kw oM))):p:=h
theorem Bs (w:World)(dp:Nat)(vp:Value)(p:List Fn)(hp:RP [] dp w.heap vp p)(hz:G0 p) :
  Calls Try.prog 88 #[(.agg #[vp])] w (fun e w'=>e=.returned (.bool (Cw p))∧Az w w'):=by
 refine Aw [.agg #[vp]] 65 Try.func88 Z Z sM ?_
 have bq:Az w w:=Az.refl w
 have ch:=hp.lenle
 unfold maxLen at ch
 refine L9 [3,0] Z (Bf (cs:=#[vp]) Z Aa fun w1 be c0 aw=>?_)
 have bf:=be.size
 have bg:=bq.trans be
 replace aw:BX w1.heap w.heap.size [vp]:=aw
 refine Ac 1 Z<|A0<|L9 [0,2,0,0] Z<|Ao (p:=zP w.heap.size) 0 AO Z Z Aa<|Al (p:=Ar (zP w.heap.size) 0) (.inr Z) vp B7 Z (aw.ldp (i:=0) sM) Aa<|AS (v:=vp) C1 Z hp.isSl Aa ?_
 by_cases br:((16:Nat):Int)<(p.length:Int)
 ·exact BJ true Z Z (A5 br) Aa<|Ai<|Ah Z<|La Z<|A1<|Am<|Af [2] Z (.bool false) Z ⟨Eh,bg⟩
 refine BJ false Z Z (A6 br) Aa<|Ai<|Ak Z<|A2<|A0<|L9 [0,2,0,0] Z<|Ao (p:=zP w.heap.size) 0 AO Z Z Aa<|Al (p:=Ar (zP w.heap.size) 0) (.inr Z) vp B7 Z (aw.ldp (i:=0) sM) Aa<|AS (v:=vp) C1 Z hp.isSl Aa<|Ac 1 Z<|A3 ?_
 refine AW (S:=Nat) (fun k=>([(15,zI (k:Int)),(1,zP w.heap.size),(13,vp),(14,zI (p.length:Int))])) (fun k W=>Az w W∧BX W.heap w.heap.size [vp]∧k≤p.length∧(List.range k).all (Ej p)=true) (fun k=>p.length-k) 0 ⟨rfl,rfl,rfl,rfl,trivial⟩ ⟨bg,aw,sD,(by rfl)⟩ ?_
 clear bq c0 be bf bg
 rintro k ρ3 w3 ⟨ax,a4,bs,hq⟩
 have bh:w.heap.size≤w3.heap.size:=ax.size
 have ce:=a4.lt
 refine L9 [0] Z ?_
 by_cases bt:(k:Int)<(p.length:Int)
 ·refine AA true Z Z (A5 bt) Aa<|Ai<|A0<|Ah Z<|A2<|A0<|A3<|L9 [0,0,2,3,0,4] Z<|Ag 1 Z<|AN (v:=vp) k C1 B4 Z Z hp.isSl Z sD Aa ?_
  obtain⟨cs6,c1,c2⟩:=hp.get (Aq dp) Fn.zero (k:=k) sD
  obtain⟨ab,rfl,ap⟩:=RF.of c1
  have ay:=ap.rn.lenle
  unfold maxLen at ay
  refine Au (p:=AE vp k 3) (.inr Z) [.string<|(p.getD k Fn.zero).name,zI<|(p.getD k Fn.zero).params,ab] BO Z (fun cg af=>c2 cg<|AG.of_ext []<|ax.trans af) Z Aa ?_
  have cf:=a4.lt
  refine AI (z:=.agg #[.string ByteArray.empty,zI 0,zN]) Fg Aa fun w7 bb c3 bi=>?_
  have bj:=bb.size
  have bk:=ax.trans bb
  have a5:=a4.ext bb
  replace bi:BX w7.heap w3.heap.size [.string ByteArray.empty,zI 0,zN]:=bi
  refine Ag 1 Z (AP (vs:=[.string<|(p.getD k Fn.zero).name,zI<|(p.getD k Fn.zero).params,ab]) BO Z Z ap.ones bi Z Z Aa fun w9 bc c4 az=>?_)
  replace az:BX w9.heap w3.heap.size [.string ((p.getD k Fn.zero).name),zI ((p.getD k Fn.zero).params),ab]:=az
  have bd:Az w w9:=bc.below bk (fun _ h=>zE h) bk.size
  have bl:=bc.size
  have aq:=a5.chg bc (zB ·)
  refine Ai<|A0<|L9 [0,2,0,0,0,0,2,0,0,0,3,0] Z ?_
  have hzk:=hz k oM
  refine Ao (p:=zP w3.heap.size) 0 BS Z Z Aa<|Al (p:=Ar (zP w3.heap.size) 0) (.inr Z) (.string<|(p.getD k Fn.zero).name) Dq Z (az.ldp (i:=0) sM) Aa<|AJ 124 [] [] [.string<|(p.getD k Fn.zero).name] Z Z K7 Aa (.bool<|FZ<|(p.getD k Fn.zero).name) (fun wq=>Fo wq ((p.getD k Fn.zero).name) oM)<|AZ (!(FZ<|(p.getD k Fn.zero).name)) Z Z Aa<|Ag 1 Z ?_
  cases c5:(!(FZ ((p.getD k Fn.zero).name)))
  ·refine Ao (p:=zP w.heap.size) 0 AO Z Z (Ae (e:=24) Z Z Z)<|Al (p:=Ar (zP w.heap.size) 0) (.inr Z) vp B7 Z (aq.ldp (i:=0) sM) (Ae (e:=24) Z Z Z)<|Ag 1 Z<|Ju (v:=vp) (k:=k) C1 B4 Z hp.isSl hp.capS Z sD (Ae (e:=24) Z Z Z) ?_
   have b0:=RN.pref (Aq dp) (k:=k) hp sD
   refine Jq [] [zP w3.heap.size] Z Z (Ae (e:=24) Z Z Z)<|As 84 [] [] [G9 vp k,.func (.func 125) #[] #[zP w3.heap.size]] Z Z JD (Ae (e:=24) Z Z Z) (AV _ dp (G9 vp k) (p.take k) 125 [] [zP w3.heap.size] (fun g=>BM g.name (p.getD k Fn.zero).name) (b0.ext (Ax<|Aq dp) bd) K8 fun d9 u x w1 hx hw=>D6 w1 d9 u x w3.heap.size ab (p.getD k Fn.zero) hx<|az.ext hw) ?_
   rintro cm cn ⟨rfl,a7⟩
   refine⟨_,rfl,a7,?_⟩
   have b1:=a7.size
   have ac:=bd.trans a7
   have a6:=aq.ext a7
   have a0:=az.ext a7
   refine Ac 1 Z ?_
   cases b2:((p.take k).any (fun g=>BM g.name (p.getD k Fn.zero).name))
   ·refine Ak (by first|rfl|exact zW b2)<|A2<|A0<|L9 [0,2,0,0,0,0,2,0,0,0,0] Z<|Ao (p:=zP w3.heap.size) 1 Bh Z Z Aa<|Al (p:=Ar (zP w3.heap.size) 1) (.inr Z) (zI<|(p.getD k Fn.zero).params) AT Z (a0.ldp (i:=1) sM) Aa<|AJ 83 [] [] [zI<|(p.getD k Fn.zero).params,zI ((0:Nat):Int),zI ((12:Nat):Int)] Z Z Ek Aa (.bool (decide (((0:Nat):Int)≤((p.getD k Fn.zero).params)) && decide (((p.getD k Fn.zero).params)≤((12:Nat):Int)))) (fun wq=>B3 wq _ _ _ ap.rng oM oM) ?_
    refine AZ (!(decide (((0:Nat):Int)≤((p.getD k Fn.zero).params)) && decide (((p.getD k Fn.zero).params)≤((12:Nat):Int)))) Z Z Aa<|Ag 1 Z ?_
    cases c6:(!(decide (((0:Nat):Int)≤((p.getD k Fn.zero).params)) && decide (((p.getD k Fn.zero).params)≤((12:Nat):Int))))
    ·refine Ao (p:=zP w3.heap.size) 2 B2 Z Z (Ae (e:=36) Z Z Z)<|Al (p:=Ar (zP w3.heap.size) 2) (.inr Z) ab AU Z (a0.ldp (i:=2) sM) (Ae (e:=36) Z Z Z)<|AS (v:=ab) Bw Z ap.rn.isSl (Ae (e:=36) Z Z Z)<|AJ 83 [] [] [zI ((((p.getD k Fn.zero).outs).length:Nat):Int),zI ((1:Nat):Int),zI ((12:Nat):Int)] Z Z Ek (Ae (e:=36) Z Z Z) (.bool (decide (((1:Nat):Int)≤((((p.getD k Fn.zero).outs).length:Nat):Int)) && decide (((((p.getD k Fn.zero).outs).length:Nat):Int)≤((12:Nat):Int)))) (fun wq=>B3 wq _ _ _ oM oM oM) ?_
     refine AZ (!(decide (((1:Nat):Int)≤((((p.getD k Fn.zero).outs).length:Nat):Int)) && decide (((((p.getD k Fn.zero).outs).length:Nat):Int)≤((12:Nat):Int)))) Z Z (Ae (e:=36) Z Z Z)<|Ac 1 Z ?_
     cases b3:(!(decide (((1:Nat):Int)≤((((p.getD k Fn.zero).outs).length:Nat):Int)) && decide (((((p.getD k Fn.zero).outs).length:Nat):Int)≤((12:Nat):Int))))
     ·refine Ak (by first|rfl|exact zW b3)<|A2<|La Z<|A0<|L9 [0,2,0,0] Z<|Ao (p:=zP w3.heap.size) 2 B2 Z Z Aa<|Al (p:=Ar (zP w3.heap.size) 2) (.inr Z) ab AU Z (a0.ldp (i:=2) sM) Aa<|AS (v:=ab) Bw Z ap.rn.isSl Aa<|Ac 1 Z<|A3 ?_
      refine AW (S:=Nat×Nat) (fun⟨j,sz⟩=>([(5,zI (sz:Int)),(46,zI (j:Int)),(1,zP w.heap.size),(3,zI (k:Int)),(4,zP w3.heap.size),(13,vp),(14,zI (p.length:Int)),(15,zI (k:Int)),(44,ab),(45,zI ((((p.getD k Fn.zero).outs).length:Nat):Int))])) (fun⟨j,sz⟩ W=>Az w W∧BX W.heap w.heap.size [vp]∧BX W.heap w3.heap.size [.string<|(p.getD k Fn.zero).name,zI<|(p.getD k Fn.zero).params,ab]∧j≤(p.getD k Fn.zero).outs.length∧sz=Ex.sizes ((p.getD k Fn.zero).outs.take j)∧(List.range j).all (fun j=>FA p ((p.getD k Fn.zero).outs.getD j Ex.zero) (p.getD k Fn.zero).params (k:Int))=true) (fun⟨j,sz⟩=>(p.getD k Fn.zero).outs.length-j) (0,0) ⟨rfl,rfl,rfl,rfl,rfl,rfl,rfl,rfl,rfl,rfl,trivial⟩ ⟨ac,a6,a0,sD,(by rw[List.take_zero,Cc]),(by rfl)⟩ ?_
      clear a4 ax bh ay c3 bb bj bk a5 c4 bc bd bl aq a7 b1 ac a6
      rintro⟨j,sz⟩ ρ20 ci ⟨ad,a1,a3,bm,hsz,hqe⟩
      have bu:w.heap.size≤ci.heap.size:=ad.size
      have c7:=a1.lt
      have c8:=a3.lt
      refine L9 [0] Z ?_
      by_cases b4:(j:Int)<((((p.getD k Fn.zero).outs).length:Nat):Int)
      ·refine AA true Z Z (A5 b4) Aa<|Ai<|A0<|Ah Z<|A2<|A0<|A3<|L9 [0,2,3,4] Z<|AN (v:=ab) j Bw B1 Z Z ap.rn.isSl Z sD Aa ?_
       obtain⟨cs24,bn,bo⟩:=ap.rn.get (AB dp) Ex.zero (k:=j) sD
       obtain⟨dd24,a2,c9,rfl,ag⟩:=RX.of bn
       have b5:=ag.rn.lenle
       unfold maxLen at b5
       refine Au (p:=AE ab j 5) (.inr Z) [zI<|(((p.getD k Fn.zero).outs).getD j Ex.zero).kind,zI<|(((p.getD k Fn.zero).outs).getD j Ex.zero).num,zI<|(((p.getD k Fn.zero).outs).getD j Ex.zero).pick,zI<|(((p.getD k Fn.zero).outs).getD j Ex.zero).count,a2] B8 Z (fun cg af=>bo cg<|AG.of_ext []<|ad.trans af) Z Aa ?_
       have ca:=a1.lt
       have cb:=a3.lt
       refine AI (z:=.agg #[zI 0,zI 0,zI 0,zI 0,zN]) DC Aa fun ck ah cc ar=>?_
       have bv:=ah.size
       have b6:=ad.trans ah
       have a8:=a1.ext ah
       have a9:=a3.ext ah
       replace ar:BX ck.heap ci.heap.size [zI 0,zI 0,zI 0,zI 0,zN]:=ar
       refine AP (vs:=[zI<|(((p.getD k Fn.zero).outs).getD j Ex.zero).kind,zI<|(((p.getD k Fn.zero).outs).getD j Ex.zero).num,zI<|(((p.getD k Fn.zero).outs).getD j Ex.zero).pick,zI<|(((p.getD k Fn.zero).outs).getD j Ex.zero).count,a2]) B8 Z Z ag.ones ar Z Z Aa fun cj ai cd aj=>?_
       replace aj:BX cj.heap ci.heap.size [zI ((((p.getD k Fn.zero).outs).getD j Ex.zero).kind),zI ((((p.getD k Fn.zero).outs).getD j Ex.zero).num),zI ((((p.getD k Fn.zero).outs).getD j Ex.zero).pick),zI ((((p.getD k Fn.zero).outs).getD j Ex.zero).count),a2]:=aj
       have au:Az w cj:=ai.below b6 (fun _ h=>zE h) b6.size
       have bw:=ai.size
       have b7:=a8.chg ai (zB ·)
       have b8:=a9.chg ai (zB ·)
       refine Ai<|A0<|L9 [2,2,0,2,0,3,0] Z ?_
       have hst:=Bp (l:=(p.getD k Fn.zero).outs) (k:=j) oM
       have hle:=Bq (p.getD k Fn.zero).outs (j+1)
       refine Au (p:=zP w.heap.size) (.inr Z) [vp] AL Z (fun cg af=>LD.of_box<|BX.ext (w:=cj) b7 af) Z Aa<|Au (p:=zP ci.heap.size) (.inr Z) [zI<|(((p.getD k Fn.zero).outs).getD j Ex.zero).kind,zI<|(((p.getD k Fn.zero).outs).getD j Ex.zero).num,zI<|(((p.getD k Fn.zero).outs).getD j Ex.zero).pick,zI<|(((p.getD k Fn.zero).outs).getD j Ex.zero).count,a2] B8 Z (fun cg af=>LD.of_box<|BX.ext (w:=cj) aj af) Z Aa<|Ao (p:=zP w3.heap.size) 1 Bh Z Z Aa<|Al (p:=Ar (zP w3.heap.size) 1) (.inr Z) (zI<|(p.getD k Fn.zero).params) AT Z (b8.ldp (i:=1) sM) Aa<|Ag 1 Z ?_
       refine As 126 [] [] [.agg #[vp],.agg #[zI<|(((p.getD k Fn.zero).outs).getD j Ex.zero).kind,zI<|(((p.getD k Fn.zero).outs).getD j Ex.zero).num,zI<|(((p.getD k Fn.zero).outs).getD j Ex.zero).pick,zI<|(((p.getD k Fn.zero).outs).getD j Ex.zero).count,a2],zI<|(p.getD k Fn.zero).params,zI (k:Int)] Z Z K9 Aa (E7 _ dp vp (p) dd24 a2 (((p.getD k Fn.zero).outs).getD j Ex.zero) _ _ (hp.ext (Ax<|Aq dp) au) (ag.ext au) ap.rng oM oM) ?_
       rintro co cl ⟨rfl,aa⟩
       refine⟨_,rfl,aa,?_⟩
       have bx:=aa.size
       have av:=au.trans aa
       have ak:=b7.ext aa
       have al:=b8.ext aa
       have am:=aj.ext aa
       refine AZ (!(FA p (((p.getD k Fn.zero).outs).getD j Ex.zero) ((p.getD k Fn.zero).params) (k:Int))) Z Z Aa<|Ai ?_
       cases b9:(!(FA p (((p.getD k Fn.zero).outs).getD j Ex.zero) ((p.getD k Fn.zero).params) (k:Int)))
       ·refine Ak (by first|rfl|exact zW b9)<|A2<|Ab _ [0,2,3,0,0] Z<|Ag 1 Z<|Au (p:=zP ci.heap.size) (.inr Z) [zI<|(((p.getD k Fn.zero).outs).getD j Ex.zero).kind,zI<|(((p.getD k Fn.zero).outs).getD j Ex.zero).num,zI<|(((p.getD k Fn.zero).outs).getD j Ex.zero).pick,zI<|(((p.getD k Fn.zero).outs).getD j Ex.zero).count,a2] B8 Z (fun cg af=>LD.of_box<|BX.ext (w:=cl) am af) Z Aa ?_
        refine As 127 [] [] [.agg #[zI<|(((p.getD k Fn.zero).outs).getD j Ex.zero).kind,zI<|(((p.getD k Fn.zero).outs).getD j Ex.zero).num,zI<|(((p.getD k Fn.zero).outs).getD j Ex.zero).pick,zI<|(((p.getD k Fn.zero).outs).getD j Ex.zero).count,a2]] Z Z I1 Aa (CX _ dd24 a2 (((p.getD k Fn.zero).outs).getD j Ex.zero) (ag.ext av) oM) ?_
        rintro cp cq ⟨rfl,ae⟩
        refine⟨_,rfl,ae,?_⟩
        have bz:=ae.size
        have bp:=av.trans ae
        have an:=ak.ext ae
        have ao:=al.ext ae
        refine AQ ((sz+((p.getD k Fn.zero).outs.getD j Ex.zero).size:Nat):Int) Z Z (Bn oM oM) Aa<|Ac 1 Z<|Ab _ [0,0] Z<|AQ ((j+1:Nat):Int) Z Z (Bn oM sD) Aa<|Ac 1 Z ?_
        exact⟨(j+1,sz+((p.getD k Fn.zero).outs.getD j Ex.zero).size),_,rfl,zR,⟨bp,an,ao,sD,oM,(by exact C3 hqe (AX (by assumption)))⟩,zD⟩
       refine Ah (by first|rfl|exact zW b9)<|La Z<|A1<|Am<|AC<|Am<|Am<|AC<|Am<|AC<|Am<|Am<|AC<|Am ?_
       exact Af [2] Z (.bool false) Z ⟨Eh,av⟩
      refine AA false Z Z (A6 b4) Aa<|Ai<|A0<|Ak Z<|A4<|AD<|AD<|Ay<|L9 [0,0] Z ?_
      have hal:=CN (l:=(p.getD k Fn.zero).outs) (k:=j) oM
      refine Ag 1 Z ?_
      by_cases ba:((400:Nat):Int)<(sz:Int)
      ·exact BJ true Z Z (A5 ba) Aa<|Ai<|Ah Z<|La Z<|A1<|AC<|Am<|Am<|AC<|Am<|Af [2] Z (.bool false) Z ⟨Eh,ad⟩
      refine BJ false Z Z (A6 ba) Aa<|Ai<|Ak Z<|A2<|Ab _ [0,0] Z<|AQ ((k+1:Nat):Int) Z Z (Bn oM sD) Aa<|Ac 1 Z ?_
      exact⟨k+1,_,rfl,zR,⟨ad,a1,sD,(by exact C3 hq (Jk (AX (by assumption)) (by assumption) (AX (by assumption)) (AX (by assumption)) hqe oM oM))⟩,zD⟩
     exact Ah (by first|rfl|exact zW b3)<|La Z<|A1<|Am<|AC<|Am<|Am<|AC<|Am<|Af [2] Z (.bool false) Z ⟨Eh,ac⟩
    exact Ac 6 Z<|Ah Z<|La Z<|A1<|Am<|AC<|Am<|Am<|AC<|Am<|Af [2] Z (.bool false) Z ⟨Eh,ac⟩
   exact Ah (by first|rfl|exact zW b2)<|La Z<|A1<|Am<|AC<|Am<|Am<|AC<|Am<|Af [2] Z (.bool false) Z ⟨Eh,ac⟩
  exact Ac 7 Z<|Ah Z<|La Z<|A1<|Am<|AC<|Am<|Am<|AC<|Am<|Af [2] Z (.bool false) Z ⟨Eh,bd⟩
 exact AA false Z Z (A6 bt) Aa<|Ai<|A0<|Ak Z<|A4<|AD<|AD<|Ay<|La Z<|A1<|Af [2] Z (.bool true) Z ⟨Eh,ax⟩
theorem Kx {p:List Fn}{f:Int}(h:Cw p=false):1=Hn p f:=by unfold Hn;rw[h];rfl
theorem Ky {p:List Fn}{f:Int}(h:Cw p=true)(h2:¬(0≤f∧f≤((p.length:Nat):Int)-1)):2=Hn p f:=by unfold Hn;rw[if_pos h,if_neg h2]
theorem Kz {p:List Fn}{f:Int}(h:Cw p=true)(h2:0≤f∧f≤((p.length:Nat):Int)-1):0=Hn p f:=by unfold Hn;rw[if_pos h,if_pos h2]
theorem Gz {p:Prop}(h:p:=by first|exact AK (Kx (Bc (by assumption)))|exact AK (Ky (AX (by assumption)) (Hg (Bc (by assumption))))|exact AK (Kz (AX (by assumption)) (Dd (AX (by assumption))))):p:=h
theorem Fp (w:World)(dp:Nat)(vp:Value)(p:List Fn)(f:Int)(hp:RP [] dp w.heap vp p)(_hf:BF f)(hz:G0 p) :
  Calls Try.prog 145 #[(.agg #[vp]),zI f] w (fun e w'=>e=.returned (zI (Hn p f))∧Az w w'):=by
 refine Aw [.agg #[vp],zI f] 17 Try.func145 Z Z sM ?_
 have a8:Az w w:=Az.refl w
 have ad:=hp.lenle
 unfold maxLen at ad
 refine L9 [3,0] Z (Bf (cs:=#[vp]) Z Aa fun w1 a4 ac a1=>?_)
 have a9:=a4.size
 have a5:=a8.trans a4
 replace a1:BX w1.heap w.heap.size [vp]:=a1
 refine Ac 1 Z<|A0<|A3<|L9 [2,3,0,0] Z<|Au (p:=zP w.heap.size) (.inr Z) [vp] AL Z (fun ae aa=>LD.of_box<|BX.ext (w:=w1) a1 aa) Z Aa<|As 88 [] [] [.agg #[vp]] Z Z IK Aa (Bs _ dp vp (p) (hp.ext (Ax<|Aq dp) a5) hz) ?_
 rintro e2 w2 ⟨rfl,a2⟩
 refine⟨_,rfl,a2,?_⟩
 have ab:=a2.size
 have a3:=a5.trans a2
 have a0:=a1.ext a2
 refine AZ (!(Cw p)) Z Z Aa<|Ac 1 Z ?_
 cases a6:(!(Cw p))
 ·refine Ak (by first|rfl|exact zW a6)<|L9 [0,0,2,0,0,0,0,0] Z<|Ag 1 Z<|Ao (p:=zP w.heap.size) 0 AO Z Z Aa<|Al (p:=Ar (zP w.heap.size) 0) (.inr Z) vp B7 Z (a0.ldp (i:=0) sM) Aa<|AS (v:=vp) C1 Z hp.isSl Aa<|CE ((p.length:Int)-1) Z Z (Dy oM oM) Aa<|AJ 83 [] [] [zI f,zI ((0:Nat):Int),zI ((p.length:Int)-1)] Z Z Ek Aa (.bool (decide (((0:Nat):Int)≤f) && decide (f≤((p.length:Int)-1)))) (fun wq=>B3 wq _ _ _ _hf oM oM) ?_
  refine AZ (!(decide (((0:Nat):Int)≤f) && decide (f≤((p.length:Int)-1)))) Z Z Aa<|Ac 1 Z ?_
  cases a7:(!(decide (((0:Nat):Int)≤f) && decide (f≤((p.length:Int)-1))))
  ·exact Ak (by first|rfl|exact zW a7)<|A2<|La Z<|A1<|Af [4] Z (zI ((0:Nat):Int)) Z ⟨Gz,a3⟩
  exact Ah (by first|rfl|exact zW a7)<|La Z<|A1<|AC<|Am<|Af [4] Z (zI ((2:Nat):Int)) Z ⟨Gz,a3⟩
 exact Ah (by first|rfl|exact zW a6)<|La Z<|A1<|AC<|Am<|Af [4] Z (zI ((1:Nat):Int)) Z ⟨Gz,a3⟩
theorem Fq (w:World)(a:Int)(b:Int)(_ha:BF a)(_hb:BF b)  :
  Calls Try.prog 158 #[zI a,zI b] w (fun e w'=>e=.returned (zI (max a b))∧w'=w):=by
 refine Aw [zI a,zI b] 10 Try.func158 Z Z sM ?_
 have a0:w=w:=rfl
 refine La Z<|A0<|L9 [0,0,0] Z<|Ag 2 Z ?_
 by_cases a1:b<a
 ·exact BJ true Z Z (A5 a1) Aa<|Ai<|Ah Z<|L9 [0,0] Z<|Ac 2 Z<|A1<|Am<|Af [4] Z (zI a) Z ⟨AK oM,a0⟩
 exact BJ false Z Z (A6 a1) Aa<|Ai<|Ak Z<|A2<|L9 [0,0] Z<|Ac 2 Z<|A1<|Af [4] Z (zI b) Z ⟨AK oM,a0⟩
theorem Io {p:Prop}(h:p:=by rw[ID,hx];first|rw[za oM]|exact(FD oM).symm):p:=h
theorem De (w:World)(dex:Nat)(ve:Value)(ex:Ex)(left:Int)(hex:RN [] (rP (DL dex)) w.heap ve ex)(_hleft:BF left)(af:0≤left∧left≤100000)(hs:ex.size≤1000000000) :
  Calls Try.prog 142 #[ve,zI left] w (fun e w'=>e=.returned (zI (Dp ex left))∧Az w w'):=by
 induction dex using Nat.strongRecOn generalizing w ve ex left
 rename_i dex ih
 refine Aw [ve,zI left] 30 Try.func142 Z Z sM ?_
 have a6:Az w w:=Az.refl w
 have hsk:=Bv ex
 refine La Z<|L9 [0,0,0] Z<|Ag 1 Z<|CE (left-1) Z Z (Dy oM oM) Aa<|Ac 1 Z<|A0<|La Z<|A3 ?_
 refine AW (S:=Nat×Int) (fun⟨k,x⟩=>([(1,zI x),(5,zI (k:Int)),(0,ve)])) (fun⟨k,x⟩ W=>Az w W∧k≤ex.kids.length∧x=BG (ex.kids.take k) (left-1)∧(-1≤x∧x≤left)) (fun⟨k,x⟩=>ex.kids.length-k) (0,left-1) ⟨rfl,rfl,rfl,trivial⟩ ⟨a6,sD,(by rw[List.take_zero,BG]),oM⟩ ?_
 clear a6
 rintro⟨k,x⟩ ρ1 w1 ⟨a0,a7,hx,a8⟩
 have ab:w.heap.size≤w1.heap.size:=a0.size
 refine A0<|L9 [0,0,0,0,2,0,0,0,0,0,0] Z<|Ag 2 Z<|AF (hex.isPtr) Z Aa ?_
 obtain⟨cs2,ac,a2⟩:=RN.at (AB _) hex
 obtain⟨dd2,a1,ag,rfl,a3⟩:=RX.of ac
 have a4:=a3.rn.lenle
 unfold maxLen at a4
 refine Av (p:=ve) 4 B5 Z (a2 _<|AG.of_ext [] a0) Aa<|Al (p:=Ar ve 4) (.inr Z) a1 AU Z ((a2 _<|AG.of_ext [] a0).ld (i:=4) (by simp[Ch,Ci])) Aa<|AS (v:=a1) Bw Z a3.rn.isSl Aa ?_
 by_cases a9:(k:Int)<(ex.kids.length:Int)
 ·refine AA true Z Z (A5 a9) Aa<|Ag 2 Z ?_
  by_cases aa:((0:Nat):Int)≤x
  ·refine Cp true Z Z (A5 aa) (Ae (e:=15) Z Z Z)<|Ac 1 Z<|Ah Z<|A2<|A0<|A3<|Ab _ [0,0,0,2,0,0,0,3,0] Z ?_
   have hst:=Bp (l:=ex.kids) (k:=k) oM
   have hle:=Bq ex.kids (k+1)
   have hnx:=FC (l:=ex.kids) (k:=k) (x:=left-1) oM oM
   have hnr:=Gb (e:=ex.kids.getD k Ex.zero) (x:=x) oM
   refine Ag 1 Z<|AF (hex.isPtr) Z Aa<|Av (p:=ve) 4 B5 Z (a2 _<|AG.of_ext [] a0) Aa<|Al (p:=Ar ve 4) (.inr Z) a1 AU Z ((a2 _<|AG.of_ext [] a0).ld (i:=4) (by simp[Ch,Ci])) Aa<|Ag 1 Z<|AN (v:=a1) k Bw B1 Z Z a3.rn.isSl Z sD Aa<|Ag 1 Z ?_
   refine As 142 [] [] [AE a1 k 5,zI x] Z Z I2 Aa (ih dd2 oM _ (AE a1 k 5) (ex.kids.getD k Ex.zero) _ (RN.ptr (AB dd2) (by decide) Ex.zero (a3.rn.ext (Ax<|AB dd2) a0) sD) oM oM oM) ?_
   rintro e5 w5 ⟨rfl,a5⟩
   refine⟨_,rfl,a5,?_⟩
   have ad:=a5.size
   have ae:=a0.trans a5
   refine Ac 1 Z<|Ab _ [0,0,0] Z<|Ag 1 Z<|AQ ((k+1:Nat):Int) Z Z (Bn oM sD) Aa<|Ac 1 Z ?_
   exact⟨(k+1,Dp (ex.kids.getD k Ex.zero) x),_,rfl,zR,⟨ae,sD,(by rw[hnx,hx]),oM⟩,zD⟩
  exact Cp false Z Z (A6 aa) (Ae (e:=15) Z Z Z)<|Ac 1 Z<|Ak Z<|A4<|AD<|AD<|Ay<|L9 [0,0] Z<|Ac 2 Z<|A1<|Af [4] Z (zI x) Z ⟨AK Io,a0⟩
 exact AA false Z Z (A6 a9) Aa<|Ac 4 Z<|Ak Z<|A4<|AD<|AD<|Ay<|L9 [0,0] Z<|Ac 2 Z<|A1<|Af [4] Z (zI x) Z ⟨AK Io,a0⟩
theorem El (w:World)(dex:Nat)(ve:Value)(ex:Ex)(hex:RN [] (rP (DL dex)) w.heap ve ex)(hs:ex.size≤1000000000) :
  Calls Try.prog 153 #[ve] w (fun e w'=>e=.returned (zI (ex.deep:Int))∧Az w w'):=by
 induction dex using Nat.strongRecOn generalizing w ve ex
 rename_i dex ih
 refine Aw [ve] 25 Try.func153 Z Z sM ?_
 have a6:Az w w:=Az.refl w
 have hsk:=Bv ex
 have hdk:=Di ex
 refine La Z<|La Z<|A0<|La Z<|A3 ?_
 refine AW (S:=Nat×Int) (fun⟨k,sz⟩=>([(3,zI sz),(4,zI (k:Int)),(0,ve)])) (fun⟨k,sz⟩ W=>Az w W∧k≤ex.kids.length∧sz=((Ex.deeps (ex.kids.take k):Nat):Int)∧(0≤sz∧sz≤1000000000)) (fun⟨k,sz⟩=>ex.kids.length-k) (0,((0:Nat):Int)) ⟨rfl,rfl,rfl,trivial⟩ ⟨a6,sD,(by rw[List.take_zero,Fz] <;> rfl),oM⟩ ?_
 clear a6
 rintro⟨k,sz⟩ ρ1 w1 ⟨a0,a7,hsz,a8⟩
 have aa:w.heap.size≤w1.heap.size:=a0.size
 refine A0<|L9 [0,0,0,0,2,0,0] Z<|Ag 2 Z<|AF (hex.isPtr) Z Aa ?_
 obtain⟨cs2,ab,a2⟩:=RN.at (AB _) hex
 obtain⟨dd2,a1,ae,rfl,a3⟩:=RX.of ab
 have a4:=a3.rn.lenle
 unfold maxLen at a4
 refine Av (p:=ve) 4 B5 Z (a2 _<|AG.of_ext [] a0) Aa<|Al (p:=Ar ve 4) (.inr Z) a1 AU Z ((a2 _<|AG.of_ext [] a0).ld (i:=4) (by simp[Ch,Ci])) Aa<|AS (v:=a1) Bw Z a3.rn.isSl Aa ?_
 by_cases a9:(k:Int)<(ex.kids.length:Int)
 ·refine AA true Z Z (A5 a9) Aa<|Ai<|Ah Z<|A2<|A0<|A3<|Ab _ [0,0,0,0,2,0,0,3,0,0] Z ?_
  have hst:=Bp (l:=ex.kids) (k:=k) oM
  have hle:=Bq ex.kids (k+1)
  have hdt:=CR (l:=ex.kids) (k:=k) oM
  have hda:=Cd<|ex.kids.getD k Ex.zero
  have hdz:=DA<|ex.kids.take k
  refine Ag 2 Z<|AF (hex.isPtr) Z Aa<|Av (p:=ve) 4 B5 Z (a2 _<|AG.of_ext [] a0) Aa<|Al (p:=Ar ve 4) (.inr Z) a1 AU Z ((a2 _<|AG.of_ext [] a0).ld (i:=4) (by simp[Ch,Ci])) Aa<|Ag 1 Z<|AN (v:=a1) k Bw B1 Z Z a3.rn.isSl Z sD Aa ?_
  refine As 153 [] [] [AE a1 k 5] Z Z Jd Aa (ih dd2 oM _ (AE a1 k 5) (ex.kids.getD k Ex.zero) (RN.ptr (AB dd2) (by decide) Ex.zero (a3.rn.ext (Ax<|AB dd2) a0) sD) oM) ?_
  rintro e4 w4 ⟨rfl,a5⟩
  refine⟨_,rfl,a5,?_⟩
  have ac:=a5.size
  have ad:=a0.trans a5
  refine AJ 158 [] [] [zI sz,zI (((ex.kids.getD k Ex.zero).deep:Nat):Int)] Z Z Kk Aa (zI<|max sz (((ex.kids.getD k Ex.zero).deep:Nat):Int)) (fun wq=>Fq wq _ _ oM (zH<|Cd (ex.kids.getD k Ex.zero)))<|Ac 1 Z<|Ab _ [0,0,0] Z<|Ag 1 Z<|AQ ((k+1:Nat):Int) Z Z (Bn oM sD) Aa<|Ac 1 Z ?_
  exact⟨(k+1,max sz (((ex.kids.getD k Ex.zero).deep:Nat):Int)),_,rfl,zR,⟨ad,sD,oM,oM⟩,zD⟩
 refine AA false Z Z (A6 a9) Aa<|Ai<|Ak Z<|A4<|AD<|AD<|Ay<|L9 [0,0,0] Z ?_
 have h8:=DX (l:=ex.kids) (k:=k) oM
 have h9:=Cd ex
 exact Ag 1 Z<|AQ (sz+1) Z Z (Dy oM oM) Aa<|Ac 1 Z<|A1<|Af [2] Z (zI (sz+1)) Z ⟨AK oM,a0⟩
theorem CI {p:Prop}(h:p:=by unfold Ho;repeat (first|rfl|(rw[if_pos oM])|(rw[if_neg oM]))):p:=h
theorem EZ (w:World)(kind:Int)(_hkind:BF kind)  :
  Calls Try.prog 167 #[zI kind] w (fun e w'=>e=.returned (zI (Ho kind))∧w'=w):=by
 refine Aw [zI kind] 17 Try.func167 Z Z sM ?_
 have a0:w=w:=rfl
 refine La Z<|A0<|La Z<|A3<|A0<|L9 [0,0] Z ?_
 by_cases a1:kind=((1:Nat):Int)
 ·exact AH true Z Z (A5 a1) Aa<|Ac 1 Z<|Ah Z<|A2<|Ah Z<|La Z<|A1<|AC<|Am<|Af [2] Z (zI ((0:Nat):Int)) Z ⟨AK CI,a0⟩
 refine AH false Z Z (A6 a1) Aa<|Ac 1 Z<|Ak Z<|Ab _ [0,0] Z ?_
 by_cases a2:kind=((2:Nat):Int)
 ·exact AH true Z Z (A5 a2) Aa<|Ac 1 Z<|Ah Z<|La Z<|A1<|AC<|Am<|Af [2] Z (zI ((0:Nat):Int)) Z ⟨AK CI,a0⟩
 refine AH false Z Z (A6 a2) Aa<|Ac 1 Z<|Ak Z<|A0<|L9 [0,0] Z ?_
 by_cases a3:kind=((3:Nat):Int)
 ·exact AH true Z Z (A5 a3) Aa<|Ac 1 Z<|Ah Z<|A2<|Ah Z<|La Z<|A1<|AC<|Am<|Af [2] Z (zI ((2:Nat):Int)) Z ⟨AK CI,a0⟩
 refine AH false Z Z (A6 a3) Aa<|Ac 1 Z<|Ak Z<|L9 [0,0] Z ?_
 by_cases a4:kind=((4:Nat):Int)
 ·exact AH true Z Z (A5 a4) Aa<|Ac 1 Z<|Ah Z<|A2<|Ah Z<|La Z<|A1<|AC<|Am<|Af [2] Z (zI ((2:Nat):Int)) Z ⟨AK CI,a0⟩
 refine AH false Z Z (A6 a4) Aa<|Ac 1 Z<|Ak Z<|L9 [0,0] Z ?_
 by_cases a5:kind=((5:Nat):Int)
 ·exact AH true Z Z (A5 a5) Aa<|Ac 1 Z<|Ah Z<|A2<|Ah Z<|La Z<|A1<|AC<|Am<|Af [2] Z (zI ((2:Nat):Int)) Z ⟨AK CI,a0⟩
 refine AH false Z Z (A6 a5) Aa<|Ac 1 Z<|Ak Z<|L9 [0,0] Z ?_
 by_cases a6:kind=((6:Nat):Int)
 ·exact AH true Z Z (A5 a6) Aa<|Ac 1 Z<|Ah Z<|A2<|Ah Z<|La Z<|A1<|AC<|Am<|Af [2] Z (zI ((2:Nat):Int)) Z ⟨AK CI,a0⟩
 refine AH false Z Z (A6 a6) Aa<|Ac 1 Z<|Ak Z<|Ab _ [0,0] Z ?_
 by_cases a7:kind=((9:Nat):Int)
 ·exact AH true Z Z (A5 a7) Aa<|Ac 1 Z<|Ah Z<|La Z<|A1<|AC<|Am<|Af [2] Z (zI ((2:Nat):Int)) Z ⟨AK CI,a0⟩
 refine AH false Z Z (A6 a7) Aa<|Ac 1 Z<|Ak Z<|L9 [0,0] Z ?_
 by_cases a8:kind=((7:Nat):Int)
 ·exact AH true Z Z (A5 a8) Aa<|Ac 1 Z<|Ah Z<|La Z<|A1<|AC<|Am<|Af [2] Z (zI ((1:Nat):Int)) Z ⟨AK CI,a0⟩
 refine AH false Z Z (A6 a8) Aa<|Ac 1 Z<|Ak Z<|L9 [0,0] Z ?_
 by_cases a9:kind=((8:Nat):Int)
 ·exact AH true Z Z (A5 a9) Aa<|Ac 1 Z<|Ah Z<|La Z<|A1<|AC<|Am<|Af [2] Z (zI ((3:Nat):Int)) Z ⟨AK CI,a0⟩
 exact AH false Z Z (A6 a9) Aa<|Ac 1 Z<|Ak Z<|A2<|La Z<|A1<|Af [2] Z (zI (-1)) Z ⟨AK CI,a0⟩
theorem BI {p:Prop}(h:p:=by first|exact At (Jy oM oM oM)|exact At (KK oM oM oM oM)|exact At (KL oM oM oM oM)|exact At ((FP oM).trans (KM oM oM oM oM oM oM oM))|exact At (by unfold EH Cm D4;first|(simp[*];done)|(simp[*];omega)|(simp[*] <;> intros <;> omega)|(simp_all;done)|(simp_all <;> omega))):p:=h
theorem B6 {p:Prop}(h:p:=by simp[Ch,Ci]):p:=h
theorem F3 (w:World)(dp:Nat)(vp:Value)(p:List Fn)(dex:Nat)(ve:Value)(ex:Ex)(vars:Int)(funcs:Int)(hp:RN [] (rP (Iv dp)) w.heap vp p)(hex:RN [] (rP (DL dex)) w.heap ve ex)(_hvars:BF vars)(_hfuncs:BF funcs)(hv:0≤vars∧vars≤2000000000)(hf:0≤funcs∧funcs≤(p.length:Int)) :
  Calls Try.prog 159 #[vp,ve,zI vars,zI funcs] w (fun e w'=>e=.returned (.bool (EH p funcs vars ex))∧Az w w'):=by
 refine Aw [vp,ve,zI vars,zI funcs] 140 Try.func159 Z Z sM ?_
 have a0:Az w w:=Az.refl w
 refine La Z<|A0<|L9 [0,0,0,2,0,0,0,0,0,2,0,0] Z<|Ag 1 Z<|AF (hex.isPtr) Z Aa ?_
 obtain⟨cs1,b2,a1⟩:=RN.at (AB _) hex
 obtain⟨dd1,ab,b8,rfl,a5⟩:=RX.of b2
 have aq:=a5.rn.lenle
 unfold maxLen at aq
 refine Av (p:=ve) 0 BH Z (a1 _<|AG.of_ext [] a0) Aa<|Al (p:=Ar ve 0) (.inr Z) (zI ex.kind) AT Z ((a1 _<|AG.of_ext [] a0).ld (i:=0) B6) Aa ?_
 by_cases ay:ex.kind=((10:Nat):Int)
 ·refine AH true Z Z (A5 ay) Aa<|Ac 7 Z<|Ah Z<|A0<|L9 [0,0,0,2,0,0,0,0] Z<|Ag 1 Z<|AF (hex.isPtr) Z Aa<|Av (p:=ve) 1 Bx Z (a1 _<|AG.of_ext [] a0) Aa<|Al (p:=Ar ve 1) (.inr Z) (zI ex.num) AT Z ((a1 _<|AG.of_ext [] a0).ld (i:=1) B6) Aa<|Ag 1 Z<|CE (funcs-1) Z Z (Dy oM oM) Aa<|AJ 79 [] [] [zI ex.num,zI ((0:Nat):Int),zI (funcs-1)] Z Z DB Aa (.bool (decide (((0:Nat):Int)≤ex.num) && decide (ex.num≤(funcs-1)))) (fun wq=>AY wq _ _ _ a5.rng.num oM oM) ?_
  refine AZ (!(decide (((0:Nat):Int)≤ex.num) && decide (ex.num≤(funcs-1)))) Z Z Aa<|Ai ?_
  cases az:(!(decide (((0:Nat):Int)≤ex.num) && decide (ex.num≤(funcs-1))))
  ·refine Ak (by first|rfl|exact zW az)<|A2<|A0<|Bd _ [0,0,0,1,0,0,0,1,0,0] mixed (by kernel_rfl) ?_
   have hnr:=Dd (AX (by assumption):(decide (((0:Nat):Int)≤ex.num) && decide (ex.num≤funcs-1))=true)
   refine Ag 1 Z<|AF (hp.isPtr) Z Aa ?_
   obtain⟨cs5,b3,b0⟩:=RN.at (Bo _) hp
   obtain⟨a6,rfl,a9⟩:=RPr.of b3
   have ar:=a9.lenle
   unfold maxLen at ar
   refine Av (p:=vp) 0 AO Z (b0 _<|AG.of_ext [] a0.drew) Aa<|Al (p:=Ar vp 0) (.inl Z) a6 B7 Z ((b0 _<|AG.of_ext [] a0.drew).ld (i:=0) B6) Aa<|Ag 1 Z<|AF (hex.isPtr) Z Aa<|Av (p:=ve) 1 Bx Z (a1 _<|AG.of_ext [] a0.drew) Aa<|Al (p:=Ar ve 1) (.inl Z) (zI ex.num) AT Z ((a1 _<|AG.of_ext [] a0.drew).ld (i:=1) B6) Aa ?_
   refine AN (v:=a6) ((ex.num).toNat) C1 B4 Z Z a9.isSl oM sD Aa<|Ac 1 Z<|A0<|A0<|Bd _ [0,0,0,1,0,0,0,1,0,0,0,0,0,0,0,0,1,0,0,0,0,1,0,0] mixed (by kernel_rfl)<|Ag 1 Z<|AF (hex.isPtr) Z Aa<|Av (p:=ve) 2 Cy Z (a1 _<|AG.of_ext [] a0.drew.drew) Aa ?_
   refine Al (p:=Ar ve 2) (.inl Z) (zI ex.pick) AT Z ((a1 _<|AG.of_ext [] a0.drew.drew).ld (i:=2) B6) Aa<|Ag 1 Z<|AF (RN.isPtr<|RN.ptr (Aq dp) (by decide) Fn.zero a9 sD) Z Aa ?_
   obtain⟨cs6,b4,a8⟩:=a9.get (Aq dp) Fn.zero (k:=(ex.num).toNat) sD
   obtain⟨ap,rfl,au⟩:=RF.of b4
   have av:=au.rn.lenle
   unfold maxLen at av
   refine Av (p:=AE a6 ((ex.num).toNat) 3) 2 B2 Z (a8 _<|AG.of_ext [] a0.drew.drew) Aa<|Al (p:=Ar (AE a6 ((ex.num).toNat) 3) 2) (.inl Z) ap AU Z ((a8 _<|AG.of_ext [] a0.drew.drew).ld (i:=2) B6) Aa<|AS (v:=ap) Bw Z au.rn.isSl Aa<|CE ((((p.getD (ex.num).toNat Fn.zero).outs.length:Nat):Int)-1) Z Z (Dy oM oM) Aa<|AJ 79 [] [] [zI ex.pick,zI ((0:Nat):Int),zI ((((p.getD (ex.num).toNat Fn.zero).outs.length:Nat):Int)-1)] Z Z DB Aa (.bool (decide (((0:Nat):Int)≤ex.pick) && decide (ex.pick≤((((p.getD (ex.num).toNat Fn.zero).outs.length:Nat):Int)-1)))) (fun wq=>AY wq _ _ _ a5.rng.pick oM oM) ?_
   refine AZ (!(decide (((0:Nat):Int)≤ex.pick) && decide (ex.pick≤((((p.getD (ex.num).toNat Fn.zero).outs.length:Nat):Int)-1)))) Z Z Aa<|Ag 1 Z ?_
   cases b9:(!(decide (((0:Nat):Int)≤ex.pick) && decide (ex.pick≤((((p.getD (ex.num).toNat Fn.zero).outs.length:Nat):Int)-1))))
   ·refine Ag 1 Z<|AF (hex.isPtr) Z (Ae (e:=51) Z Z Z)<|Av (p:=ve) 4 B5 Z (a1 _<|AG.of_ext [] a0.drew.drew) (Ae (e:=51) Z Z Z)<|Al (p:=Ar ve 4) (.inl Z) ab AU Z ((a1 _<|AG.of_ext [] a0.drew.drew).ld (i:=4) B6) (Ae (e:=51) Z Z Z)<|AS (v:=ab) Bw Z a5.rn.isSl (Ae (e:=51) Z Z Z)<|Ag 1 Z ?_
    refine AF (RN.isPtr<|RN.ptr (Aq dp) (by decide) Fn.zero a9 sD) Z (Ae (e:=51) Z Z Z)<|Av (p:=AE a6 ((ex.num).toNat) 3) 1 Bh Z (a8 _<|AG.of_ext [] a0.drew.drew) (Ae (e:=51) Z Z Z)<|Al (p:=Ar (AE a6 ((ex.num).toNat) 3) 1) (.inl Z) (zI<|(p.getD ((ex.num).toNat) Fn.zero).params) AT Z ((a8 _<|AG.of_ext [] a0.drew.drew).ld (i:=1) B6) (Ae (e:=51) Z Z Z) ?_
    by_cases b1:(ex.kids.length:Int)≠(p.getD ((ex.num).toNat) Fn.zero).params
    ·exact AR true Z Z (A5 b1) (Ae (e:=51) Z Z Z)<|Ac 1 Z<|Ah Z<|La Z<|A1<|Am<|Am<|Af [8] Z (.bool false) Z ⟨BI,a0.drew.drew⟩
    refine AR false Z Z (A6 b1) (Ae (e:=51) Z Z Z)<|Ac 1 Z<|Ak Z<|A2<|A0<|L9 [0,0,0,2,0] Z<|Ag 1 Z<|AF (hex.isPtr) Z Aa<|Av (p:=ve) 0 BH Z (a1 _<|AG.of_ext [] a0.drew.drew) Aa<|Al (p:=Ar ve 0) (.inr Z) (zI ex.kind) AT Z ((a1 _<|AG.of_ext [] a0.drew.drew).ld (i:=0) B6) Aa ?_
    by_cases ac:ex.kind=((10:Nat):Int)
    ·refine AH true Z Z (A5 ac) Aa<|Ai<|Ah Z<|L9 [0,0,0,2,0,0] Z<|Ag 1 Z<|AF (hex.isPtr) Z Aa<|Av (p:=ve) 3 C2 Z (a1 _<|AG.of_ext [] a0.drew.drew) Aa<|Al (p:=Ar ve 3) (.inr Z) (zI ex.count) AT Z ((a1 _<|AG.of_ext [] a0.drew.drew).ld (i:=3) B6) Aa<|AH (decide (ex.count=((0:Nat):Int))) Z Z Z Aa<|Ac 1 Z<|A1<|Am<|Am ?_
     exact Af [8] Z (.bool<|decide (ex.count=((0:Nat):Int))) Z ⟨BI,a0.drew.drew⟩
    refine AH false Z Z (A6 ac) Aa<|Ai<|Ak Z<|A2<|A0<|Bd _ [0,0,0,1,0,0,0,0,0,1,0,0,0,0,1,0,0,0] mixed (by kernel_rfl)<|Ag 1 Z<|AF (hex.isPtr) Z Aa<|Av (p:=ve) 3 C2 Z (a1 _<|AG.of_ext [] a0.drew.drew.drew) Aa<|Al (p:=Ar ve 3) (.inl Z) (zI ex.count) AT Z ((a1 _<|AG.of_ext [] a0.drew.drew.drew).ld (i:=3) B6) Aa<|AJ 79 [] [] [zI ex.count,zI ((0:Nat):Int),zI ((8:Nat):Int)] Z Z DB Aa (.bool (decide (((0:Nat):Int)≤ex.count) && decide (ex.count≤((8:Nat):Int)))) (fun wq=>AY wq _ _ _ a5.rng.count oM oM)<|Ag 1 Z ?_
    cases b5:(decide (((0:Nat):Int)≤ex.count) && decide (ex.count≤((8:Nat):Int)))
    ·exact Ac 12 Z<|A1<|Am<|Af [8] Z (.bool false) Z ⟨BI,a0.drew.drew.drew⟩
    refine Ag 1 Z<|AF (RN.isPtr<|RN.ptr (Aq dp) (by decide) Fn.zero a9 sD) Z (Ae (e:=78) Z Z Z)<|Av (p:=AE a6 ((ex.num).toNat) 3) 2 B2 Z (a8 _<|AG.of_ext [] a0.drew.drew.drew) (Ae (e:=78) Z Z Z)<|Al (p:=Ar (AE a6 ((ex.num).toNat) 3) 2) (.inl Z) ap AU Z ((a8 _<|AG.of_ext [] a0.drew.drew.drew).ld (i:=2) B6) (Ae (e:=78) Z Z Z) ?_
    refine AS (v:=ap) Bw Z au.rn.isSl (Ae (e:=78) Z Z Z)<|Ag 1 Z<|AF (RN.isPtr<|RN.ptr (Aq dp) (by decide) Fn.zero a9 sD) Z (Ae (e:=78) Z Z Z)<|Av (p:=AE a6 ((ex.num).toNat) 3) 1 Bh Z (a8 _<|AG.of_ext [] a0.drew.drew.drew) (Ae (e:=78) Z Z Z) ?_
    refine Al (p:=Ar (AE a6 ((ex.num).toNat) 3) 1) (.inl Z) (zI<|(p.getD ((ex.num).toNat) Fn.zero).params) AT Z ((a8 _<|AG.of_ext [] a0.drew.drew.drew).ld (i:=1) B6) (Ae (e:=78) Z Z Z)<|AH (decide (((((p.getD ((ex.num).toNat) Fn.zero).outs).length:Nat):Int)=(p.getD ((ex.num).toNat) Fn.zero).params)) Z Z Z (Ae (e:=78) Z Z Z)<|Ac 2 Z<|A1<|Am ?_
    exact Af [8] Z (.bool<|decide (((((p.getD ((ex.num).toNat) Fn.zero).outs).length:Nat):Int)=(p.getD ((ex.num).toNat) Fn.zero).params)) Z ⟨BI,a0.drew.drew.drew⟩
   exact Ac 11 Z<|Ah Z<|La Z<|A1<|Am<|Am<|Af [8] Z (.bool false) Z ⟨BI,a0.drew.drew⟩
  exact Ah (by first|rfl|exact zW az)<|La Z<|A1<|Am<|Am<|Af [8] Z (.bool false) Z ⟨BI,a0⟩
 refine AH false Z Z (A6 ay) Aa<|Ag 2 Z<|AF (hex.isPtr) Z (Ae (e:=15) Z Z Z)<|Av (p:=ve) 0 BH Z (a1 _<|AG.of_ext [] a0) (Ae (e:=15) Z Z Z)<|Al (p:=Ar ve 0) (.inr Z) (zI ex.kind) AT Z ((a1 _<|AG.of_ext [] a0).ld (i:=0) B6) (Ae (e:=15) Z Z Z) ?_
 by_cases ad:ex.kind=((11:Nat):Int)
 ·refine AH true Z Z (A5 ad) (Ae (e:=15) Z Z Z)<|Ac 1 Z<|Ah Z<|A0<|L9 [0,0,0,2,0,0,0,0] Z<|Ag 1 Z<|AF (hex.isPtr) Z Aa<|Av (p:=ve) 1 Bx Z (a1 _<|AG.of_ext [] a0) Aa<|Al (p:=Ar ve 1) (.inr Z) (zI ex.num) AT Z ((a1 _<|AG.of_ext [] a0).ld (i:=1) B6) Aa<|Ag 1 Z<|CE (funcs-1) Z Z (Dy oM oM) Aa<|AJ 79 [] [] [zI ex.num,zI ((0:Nat):Int),zI (funcs-1)] Z Z DB Aa (.bool (decide (((0:Nat):Int)≤ex.num) && decide (ex.num≤(funcs-1)))) (fun wq=>AY wq _ _ _ a5.rng.num oM oM) ?_
  refine AZ (!(decide (((0:Nat):Int)≤ex.num) && decide (ex.num≤(funcs-1)))) Z Z Aa<|Ai ?_
  cases ae:(!(decide (((0:Nat):Int)≤ex.num) && decide (ex.num≤(funcs-1))))
  ·refine Ak (by first|rfl|exact zW ae)<|A2<|A0<|Bd _ [0,0,0,1,0,0,0,1,0,0] mixed (by kernel_rfl) ?_
   have hnr:=Dd (AX (by assumption):(decide (((0:Nat):Int)≤ex.num) && decide (ex.num≤funcs-1))=true)
   refine Ag 1 Z<|AF (hp.isPtr) Z Aa ?_
   obtain⟨cs16,aw,af⟩:=RN.at (Bo _) hp
   obtain⟨a2,rfl,a4⟩:=RPr.of aw
   have ag:=a4.lenle
   unfold maxLen at ag
   refine Av (p:=vp) 0 AO Z (af _<|AG.of_ext [] a0.drew) Aa<|Al (p:=Ar vp 0) (.inl Z) a2 B7 Z ((af _<|AG.of_ext [] a0.drew).ld (i:=0) B6) Aa<|Ag 1 Z<|AF (hex.isPtr) Z Aa<|Av (p:=ve) 1 Bx Z (a1 _<|AG.of_ext [] a0.drew) Aa<|Al (p:=Ar ve 1) (.inl Z) (zI ex.num) AT Z ((a1 _<|AG.of_ext [] a0.drew).ld (i:=1) B6) Aa ?_
   refine AN (v:=a2) ((ex.num).toNat) C1 B4 Z Z a4.isSl oM sD Aa<|Ac 1 Z<|A0<|A0<|Bd _ [0,0,0,1,0,0,0,1,0,0,0,0,0,0,0,0,1,0,0,0,0,1,0,0] mixed (by kernel_rfl)<|Ag 1 Z<|AF (hex.isPtr) Z Aa<|Av (p:=ve) 2 Cy Z (a1 _<|AG.of_ext [] a0.drew.drew) Aa ?_
   refine Al (p:=Ar ve 2) (.inl Z) (zI ex.pick) AT Z ((a1 _<|AG.of_ext [] a0.drew.drew).ld (i:=2) B6) Aa<|Ag 1 Z<|AF (RN.isPtr<|RN.ptr (Aq dp) (by decide) Fn.zero a4 sD) Z Aa ?_
   obtain⟨cs17,ax,a3⟩:=a4.get (Aq dp) Fn.zero (k:=(ex.num).toNat) sD
   obtain⟨a7,rfl,aa⟩:=RF.of ax
   have ah:=aa.rn.lenle
   unfold maxLen at ah
   refine Av (p:=AE a2 ((ex.num).toNat) 3) 2 B2 Z (a3 _<|AG.of_ext [] a0.drew.drew) Aa<|Al (p:=Ar (AE a2 ((ex.num).toNat) 3) 2) (.inl Z) a7 AU Z ((a3 _<|AG.of_ext [] a0.drew.drew).ld (i:=2) B6) Aa<|AS (v:=a7) Bw Z aa.rn.isSl Aa<|CE ((((p.getD (ex.num).toNat Fn.zero).outs.length:Nat):Int)-1) Z Z (Dy oM oM) Aa<|AJ 79 [] [] [zI ex.pick,zI ((0:Nat):Int),zI ((((p.getD (ex.num).toNat Fn.zero).outs.length:Nat):Int)-1)] Z Z DB Aa (.bool (decide (((0:Nat):Int)≤ex.pick) && decide (ex.pick≤((((p.getD (ex.num).toNat Fn.zero).outs.length:Nat):Int)-1)))) (fun wq=>AY wq _ _ _ a5.rng.pick oM oM) ?_
   refine AZ (!(decide (((0:Nat):Int)≤ex.pick) && decide (ex.pick≤((((p.getD (ex.num).toNat Fn.zero).outs.length:Nat):Int)-1)))) Z Z Aa<|Ag 1 Z ?_
   cases b6:(!(decide (((0:Nat):Int)≤ex.pick) && decide (ex.pick≤((((p.getD (ex.num).toNat Fn.zero).outs.length:Nat):Int)-1))))
   ·refine Ag 1 Z<|AF (hex.isPtr) Z (Ae (e:=51) Z Z Z)<|Av (p:=ve) 4 B5 Z (a1 _<|AG.of_ext [] a0.drew.drew) (Ae (e:=51) Z Z Z)<|Al (p:=Ar ve 4) (.inl Z) ab AU Z ((a1 _<|AG.of_ext [] a0.drew.drew).ld (i:=4) B6) (Ae (e:=51) Z Z Z)<|AS (v:=ab) Bw Z a5.rn.isSl (Ae (e:=51) Z Z Z)<|Ag 1 Z ?_
    refine AF (RN.isPtr<|RN.ptr (Aq dp) (by decide) Fn.zero a4 sD) Z (Ae (e:=51) Z Z Z)<|Av (p:=AE a2 ((ex.num).toNat) 3) 1 Bh Z (a3 _<|AG.of_ext [] a0.drew.drew) (Ae (e:=51) Z Z Z)<|Al (p:=Ar (AE a2 ((ex.num).toNat) 3) 1) (.inl Z) (zI<|(p.getD ((ex.num).toNat) Fn.zero).params) AT Z ((a3 _<|AG.of_ext [] a0.drew.drew).ld (i:=1) B6) (Ae (e:=51) Z Z Z) ?_
    by_cases ai:(ex.kids.length:Int)≠(p.getD ((ex.num).toNat) Fn.zero).params
    ·exact AR true Z Z (A5 ai) (Ae (e:=51) Z Z Z)<|Ac 1 Z<|Ah Z<|La Z<|A1<|Am<|Am<|Af [8] Z (.bool false) Z ⟨BI,a0.drew.drew⟩
    refine AR false Z Z (A6 ai) (Ae (e:=51) Z Z Z)<|Ac 1 Z<|Ak Z<|A2<|A0<|L9 [0,0,0,2,0] Z<|Ag 1 Z<|AF (hex.isPtr) Z Aa<|Av (p:=ve) 0 BH Z (a1 _<|AG.of_ext [] a0.drew.drew) Aa<|Al (p:=Ar ve 0) (.inr Z) (zI ex.kind) AT Z ((a1 _<|AG.of_ext [] a0.drew.drew).ld (i:=0) B6) Aa ?_
    by_cases aj:ex.kind=((10:Nat):Int)
    ·refine AH true Z Z (A5 aj) Aa<|Ai<|Ah Z<|L9 [0,0,0,2,0,0] Z<|Ag 1 Z<|AF (hex.isPtr) Z Aa<|Av (p:=ve) 3 C2 Z (a1 _<|AG.of_ext [] a0.drew.drew) Aa<|Al (p:=Ar ve 3) (.inr Z) (zI ex.count) AT Z ((a1 _<|AG.of_ext [] a0.drew.drew).ld (i:=3) B6) Aa<|AH (decide (ex.count=((0:Nat):Int))) Z Z Z Aa<|Ac 1 Z<|A1<|Am<|Am ?_
     exact Af [8] Z (.bool<|decide (ex.count=((0:Nat):Int))) Z ⟨BI,a0.drew.drew⟩
    refine AH false Z Z (A6 aj) Aa<|Ai<|Ak Z<|A2<|A0<|Bd _ [0,0,0,1,0,0,0,0,0,1,0,0,0,0,1,0,0,0] mixed (by kernel_rfl)<|Ag 1 Z<|AF (hex.isPtr) Z Aa<|Av (p:=ve) 3 C2 Z (a1 _<|AG.of_ext [] a0.drew.drew.drew) Aa<|Al (p:=Ar ve 3) (.inl Z) (zI ex.count) AT Z ((a1 _<|AG.of_ext [] a0.drew.drew.drew).ld (i:=3) B6) Aa<|AJ 79 [] [] [zI ex.count,zI ((0:Nat):Int),zI ((8:Nat):Int)] Z Z DB Aa (.bool (decide (((0:Nat):Int)≤ex.count) && decide (ex.count≤((8:Nat):Int)))) (fun wq=>AY wq _ _ _ a5.rng.count oM oM)<|Ag 1 Z ?_
    cases b7:(decide (((0:Nat):Int)≤ex.count) && decide (ex.count≤((8:Nat):Int)))
    ·exact Ac 12 Z<|A1<|Am<|Af [8] Z (.bool false) Z ⟨BI,a0.drew.drew.drew⟩
    refine Ag 1 Z<|AF (RN.isPtr<|RN.ptr (Aq dp) (by decide) Fn.zero a4 sD) Z (Ae (e:=78) Z Z Z)<|Av (p:=AE a2 ((ex.num).toNat) 3) 2 B2 Z (a3 _<|AG.of_ext [] a0.drew.drew.drew) (Ae (e:=78) Z Z Z)<|Al (p:=Ar (AE a2 ((ex.num).toNat) 3) 2) (.inl Z) a7 AU Z ((a3 _<|AG.of_ext [] a0.drew.drew.drew).ld (i:=2) B6) (Ae (e:=78) Z Z Z) ?_
    refine AS (v:=a7) Bw Z aa.rn.isSl (Ae (e:=78) Z Z Z)<|Ag 1 Z<|AF (RN.isPtr<|RN.ptr (Aq dp) (by decide) Fn.zero a4 sD) Z (Ae (e:=78) Z Z Z)<|Av (p:=AE a2 ((ex.num).toNat) 3) 1 Bh Z (a3 _<|AG.of_ext [] a0.drew.drew.drew) (Ae (e:=78) Z Z Z) ?_
    refine Al (p:=Ar (AE a2 ((ex.num).toNat) 3) 1) (.inl Z) (zI<|(p.getD ((ex.num).toNat) Fn.zero).params) AT Z ((a3 _<|AG.of_ext [] a0.drew.drew.drew).ld (i:=1) B6) (Ae (e:=78) Z Z Z)<|AH (decide (((((p.getD ((ex.num).toNat) Fn.zero).outs).length:Nat):Int)=(p.getD ((ex.num).toNat) Fn.zero).params)) Z Z Z (Ae (e:=78) Z Z Z)<|Ac 2 Z<|A1<|Am ?_
    exact Af [8] Z (.bool<|decide (((((p.getD ((ex.num).toNat) Fn.zero).outs).length:Nat):Int)=(p.getD ((ex.num).toNat) Fn.zero).params)) Z ⟨BI,a0.drew.drew.drew⟩
   exact Ac 11 Z<|Ah Z<|La Z<|A1<|Am<|Am<|Af [8] Z (.bool false) Z ⟨BI,a0.drew.drew⟩
  exact Ah (by first|rfl|exact zW ae)<|La Z<|A1<|Am<|Am<|Af [8] Z (.bool false) Z ⟨BI,a0⟩
 refine AH false Z Z (A6 ad) (Ae (e:=15) Z Z Z)<|Ac 1 Z<|Ak Z<|A2<|A0<|A0<|Bd _ [0,0,0,1,0,0,0,0,1,0,0,0,0,0,0,1,0,0,0,0,0,0,1,0,0] mixed (by kernel_rfl)<|Ag 1 Z<|AF (hex.isPtr) Z Aa<|Av (p:=ve) 0 BH Z (a1 _<|AG.of_ext [] a0.drew) Aa<|Al (p:=Ar ve 0) (.inl Z) (zI ex.kind) AT Z ((a1 _<|AG.of_ext [] a0.drew).ld (i:=0) B6) Aa<|AJ 167 [] [] [zI ex.kind] Z Z Km Aa (zI<|Ho ex.kind) (fun wq=>EZ wq _ a5.rng.kind)<|Ag 1 Z<|AF (hex.isPtr) Z Aa<|Av (p:=ve) 4 B5 Z (a1 _<|AG.of_ext [] a0.drew) Aa ?_
 refine Al (p:=Ar ve 4) (.inl Z) ab AU Z ((a1 _<|AG.of_ext [] a0.drew).ld (i:=4) B6) Aa<|AS (v:=ab) Bw Z a5.rn.isSl Aa ?_
 by_cases ak:Ho ex.kind≠(ex.kids.length:Int)
 ·exact AR true Z Z (A5 ak) Aa<|Ac 14 Z<|Ah Z<|La Z<|A1<|Am<|Af [8] Z (.bool false) Z ⟨BI,a0.drew⟩
 refine AR false Z Z (A6 ak) Aa<|Ag 2 Z<|AF (hex.isPtr) Z (Ae (e:=101) Z Z Z)<|Av (p:=ve) 2 Cy Z (a1 _<|AG.of_ext [] a0.drew) (Ae (e:=101) Z Z Z)<|Al (p:=Ar ve 2) (.inl Z) (zI ex.pick) AT Z ((a1 _<|AG.of_ext [] a0.drew).ld (i:=2) B6) (Ae (e:=101) Z Z Z) ?_
 by_cases al:ex.pick≠((0:Nat):Int)
 ·exact AR true Z Z (A5 al) (Ae (e:=101) Z Z Z)<|Ac 8 Z<|Ah Z<|La Z<|A1<|Am<|Af [8] Z (.bool false) Z ⟨BI,a0.drew⟩
 refine AR false Z Z (A6 al) (Ae (e:=101) Z Z Z)<|Ag 3 Z<|AF (hex.isPtr) Z (Ae (e:=108) Z Z Z)<|Av (p:=ve) 3 C2 Z (a1 _<|AG.of_ext [] a0.drew) (Ae (e:=108) Z Z Z)<|Al (p:=Ar ve 3) (.inl Z) (zI ex.count) AT Z ((a1 _<|AG.of_ext [] a0.drew).ld (i:=3) B6) (Ae (e:=108) Z Z Z) ?_
 by_cases am:ex.count≠((0:Nat):Int)
 ·exact AR true Z Z (A5 am) (Ae (e:=108) Z Z Z)<|Ac 1 Z<|Ah Z<|La Z<|A1<|Am<|Af [8] Z (.bool false) Z ⟨BI,a0.drew⟩
 refine AR false Z Z (A6 am) (Ae (e:=108) Z Z Z)<|Ac 1 Z<|Ak Z<|A2<|A0<|L9 [0,0,0,2] Z<|Ag 1 Z<|AF (hex.isPtr) Z Aa<|Av (p:=ve) 0 BH Z (a1 _<|AG.of_ext [] a0.drew) Aa<|Al (p:=Ar ve 0) (.inr Z) (zI ex.kind) AT Z ((a1 _<|AG.of_ext [] a0.drew).ld (i:=0) B6) Aa<|Ai<|A3<|L9 [0,0] Z ?_
 by_cases an:ex.kind=((1:Nat):Int)
 ·refine AH true Z Z (A5 an) Aa<|Ac 1 Z<|Ah Z<|L9 [0,0,0,2,0,0] Z<|Ag 1 Z<|AF (hex.isPtr) Z Aa<|Av (p:=ve) 1 Bx Z (a1 _<|AG.of_ext [] a0.drew) Aa<|Al (p:=Ar ve 1) (.inr Z) (zI ex.num) AT Z ((a1 _<|AG.of_ext [] a0.drew).ld (i:=1) B6) Aa<|AJ 168 [] [] [zI ex.num] Z Z Kn Aa (.bool<|FM ex.num) (fun wq=>E2 wq _ a5.rng.num)<|Ac 1 Z<|A1<|AC<|Am ?_
  exact Af [8] Z (.bool<|FM ex.num) Z ⟨BI,a0.drew⟩
 refine AH false Z Z (A6 an) Aa<|Ac 1 Z<|Ak Z<|L9 [0,0] Z ?_
 by_cases ao:ex.kind=((2:Nat):Int)
 ·refine AH true Z Z (A5 ao) Aa<|Ac 1 Z<|Ah Z<|L9 [0,0,0,2,0,0,0,0] Z<|Ag 1 Z<|AF (hex.isPtr) Z Aa<|Av (p:=ve) 1 Bx Z (a1 _<|AG.of_ext [] a0.drew) Aa<|Al (p:=Ar ve 1) (.inr Z) (zI ex.num) AT Z ((a1 _<|AG.of_ext [] a0.drew).ld (i:=1) B6) Aa<|Ag 1 Z<|CE (vars-1) Z Z (Dy oM oM) Aa<|AJ 79 [] [] [zI ex.num,zI ((0:Nat):Int),zI (vars-1)] Z Z DB Aa (.bool (decide (((0:Nat):Int)≤ex.num) && decide (ex.num≤(vars-1)))) (fun wq=>AY wq _ _ _ a5.rng.num oM oM)<|Ac 1 Z<|A1<|AC<|Am ?_
  exact Af [8] Z (.bool (decide (((0:Nat):Int)≤ex.num) && decide (ex.num≤(vars-1)))) Z ⟨BI,a0.drew⟩
 refine AH false Z Z (A6 ao) Aa<|Ac 1 Z<|Ak Z<|A2<|L9 [0,0,0,2,0,0] Z<|Ag 1 Z<|AF (hex.isPtr) Z Aa<|Av (p:=ve) 1 Bx Z (a1 _<|AG.of_ext [] a0.drew) Aa<|Al (p:=Ar ve 1) (.inr Z) (zI ex.num) AT Z ((a1 _<|AG.of_ext [] a0.drew).ld (i:=1) B6) Aa<|AH (decide (ex.num=((0:Nat):Int))) Z Z Z Aa<|Ac 1 Z<|A1 ?_
 exact Af [8] Z (.bool<|decide (ex.num=((0:Nat):Int))) Z ⟨BI,a0.drew⟩
theorem F4 {p:Prop}(h:p:=by first|exact At (HE (Bc (by assumption)))|exact At (GO (AX (by assumption)) fun j hj=>hall j oM)|exact At (HF (k:=k) oM (by first|(rw[if_pos oM])|(rw[if_neg oM])) (Bc (by assumption)))):p:=h
theorem GA {p:Prop}(h:p:=by intro j hj;by_cases e9:j=k;(rw[e9];first|(rw[if_pos oM];exact AX (by assumption))|(rw[if_neg oM];exact AX (by assumption)));exact hall j oM):p:=h
theorem F5 (w:World)(dp:Nat)(vp:Value)(p:List Fn)(dex:Nat)(ve:Value)(ex:Ex)(vars:Int)(funcs:Int)(hp:RN [] (rP (Iv dp)) w.heap vp p)(hex:RN [] (rP (DL dex)) w.heap ve ex)(_hvars:BF vars)(_hfuncs:BF funcs)(hs:0≤vars∧vars+(ex.deep:Int)≤2000000000)(hf:0≤funcs∧funcs≤(p.length:Int)) :
  Calls Try.prog 154 #[vp,ve,zI vars,zI funcs] w (fun e w'=>e=.returned (.bool (wf p funcs ex vars))∧Az w w'):=by
 induction dex using Nat.strongRecOn generalizing w dp vp p ve ex vars funcs
 rename_i dex ih
 refine Aw [vp,ve,zI vars,zI funcs] 49 Try.func154 Z Z sM ?_
 have aa:Az w w:=Az.refl w
 have hdk:=Di ex
 refine La Z<|A0<|L9 [0,0,0,0,3,0] Z<|Ag 4 Z<|As 159 [] [] [vp,ve,zI vars,zI funcs] Z Z Kl Aa (F3 _ dp vp (p) dex ve (ex) _ _ (hp.ext (BY<|Bo dp) aa) (hex.ext (BY<|AB dex) aa) _hvars _hfuncs oM oM) ?_
 rintro e1 w1 ⟨rfl,ab⟩
 refine⟨_,rfl,ab,?_⟩
 have ac:=ab.size
 have ad:=aa.trans ab
 refine AZ (!(EH p funcs vars ex)) Z Z Aa<|Ai ?_
 cases ag:(!(EH p funcs vars ex))
 ·refine Ak (by first|rfl|exact zW ag)<|A2<|A0<|La Z<|A3 ?_
  refine AW (S:=Nat) (fun k=>([(9,zI (k:Int)),(0,vp),(1,ve),(2,zI vars),(3,zI funcs)])) (fun k W=>Az w W∧k≤ex.kids.length∧(∀j,j<k→wf p funcs (ex.kids.getD j Ex.zero) (if ex.kind=9∧j=1 then vars+1 else vars)=true)) (fun k=>ex.kids.length-k) 0 ⟨rfl,rfl,rfl,rfl,rfl,trivial⟩ ⟨ad,sD,(by intro j hj;omega)⟩ ?_
  clear aa ab ac ad
  rintro k ρ3 w3 ⟨a0,ah,hall⟩
  have ap:w.heap.size≤w3.heap.size:=a0.size
  refine A0<|L9 [0,0,0,0,2,0,0] Z<|Ag 2 Z<|AF (hex.isPtr) Z Aa ?_
  obtain⟨cs4,aq,a2⟩:=RN.at (AB _) hex
  obtain⟨dd4,a1,au,rfl,a3⟩:=RX.of aq
  have ae:=a3.rn.lenle
  unfold maxLen at ae
  refine Av (p:=ve) 4 B5 Z (a2 _<|AG.of_ext [] a0) Aa<|Al (p:=Ar ve 4) (.inr Z) a1 AU Z ((a2 _<|AG.of_ext [] a0).ld (i:=4) (by simp[Ch,Ci])) Aa<|AS (v:=a1) Bw Z a3.rn.isSl Aa ?_
  by_cases ai:(k:Int)<(ex.kids.length:Int)
  ·refine AA true Z Z (A5 ai) Aa<|Ai<|Ah Z<|A2<|A0<|A3<|L9 [0,0] Z ?_
   have hkd:=J0 (l:=ex.kids) (k:=k) oM
   refine Ac 2 Z<|A0<|L9 [0,0,0,2,0,0,0,0,0] Z<|Ag 1 Z<|AF (hex.isPtr) Z Aa<|Av (p:=ve) 0 BH Z (a2 _<|AG.of_ext [] a0) Aa<|Al (p:=Ar ve 0) (.inr Z) (zI ex.kind) AT Z ((a2 _<|AG.of_ext [] a0).ld (i:=0) (by simp[Ch,Ci])) Aa ?_
   by_cases aj:ex.kind=((9:Nat):Int)
   ·refine AH true Z Z (A5 aj) Aa<|Ag 2 Z ?_
    by_cases ak:(k:Int)=((1:Nat):Int)
    ·refine AH true Z Z (A5 ak) (Ae (e:=32) Z Z Z)<|Ac 1 Z<|Ah Z<|Ab _ [0,0,0] Z<|Ag 1 Z<|AQ (vars+1) Z Z (Dy oM oM) Aa<|Ac 1 Z<|L9 [0,0,0,0,2,0,0,0,0,3,0] Z<|Ag 2 Z<|AF (hex.isPtr) Z Aa<|Av (p:=ve) 4 B5 Z (a2 _<|AG.of_ext [] a0) Aa<|Al (p:=Ar ve 4) (.inr Z) a1 AU Z ((a2 _<|AG.of_ext [] a0).ld (i:=4) (by simp[Ch,Ci])) Aa<|Ag 1 Z ?_
     refine AN (v:=a1) k Bw B1 Z Z a3.rn.isSl Z sD Aa<|Ag 2 Z ?_
     refine As 154 [] [] [vp,AE a1 k 5,zI (vars+1),zI funcs] Z Z H4 Aa (ih dd4 oM _ dp vp (p) (AE a1 k 5) (ex.kids.getD k Ex.zero) _ _ (hp.ext (BY<|Bo dp) a0) (RN.ptr (AB dd4) (by decide) Ex.zero (a3.rn.ext (Ax<|AB dd4) a0) sD) oM _hfuncs oM oM) ?_
     rintro e8 w8 ⟨rfl,af⟩
     refine⟨_,rfl,af,?_⟩
     have ar:=af.size
     have al:=a0.trans af
     refine AZ (!(wf p funcs (ex.kids.getD k Ex.zero) (vars+1))) Z Z Aa<|Ai ?_
     cases am:(!(wf p funcs (ex.kids.getD k Ex.zero) (vars+1)))
     ·refine Ak (by first|rfl|exact zW am)<|A2<|Ab _ [0,0,0] Z<|Ag 1 Z<|AQ ((k+1:Nat):Int) Z Z (Bn oM sD) Aa<|Ac 1 Z ?_
      exact⟨k+1,_,rfl,zR,⟨al,sD,GA⟩,zD⟩
     exact Ah (by first|rfl|exact zW am)<|La Z<|A1<|AC<|Am<|Am<|AC<|Am<|Af [8] Z (.bool false) Z ⟨F4,al⟩
    refine AH false Z Z (A6 ak) (Ae (e:=32) Z Z Z)<|Ac 1 Z<|Ak Z<|A2<|L9 [0,0,0,0,2,0,0,0,0,3,0] Z<|Ag 2 Z<|AF (hex.isPtr) Z Aa<|Av (p:=ve) 4 B5 Z (a2 _<|AG.of_ext [] a0) Aa<|Al (p:=Ar ve 4) (.inr Z) a1 AU Z ((a2 _<|AG.of_ext [] a0).ld (i:=4) (by simp[Ch,Ci])) Aa<|Ag 1 Z ?_
    refine AN (v:=a1) k Bw B1 Z Z a3.rn.isSl Z sD Aa<|Ag 2 Z ?_
    refine As 154 [] [] [vp,AE a1 k 5,zI vars,zI funcs] Z Z H4 Aa (ih dd4 oM _ dp vp (p) (AE a1 k 5) (ex.kids.getD k Ex.zero) _ _ (hp.ext (BY<|Bo dp) a0) (RN.ptr (AB dd4) (by decide) Ex.zero (a3.rn.ext (Ax<|AB dd4) a0) sD) _hvars _hfuncs oM oM) ?_
    rintro av aw ⟨rfl,a4⟩
    refine⟨_,rfl,a4,?_⟩
    have an:=a4.size
    have a6:=a0.trans a4
    refine AZ (!(wf p funcs (ex.kids.getD k Ex.zero) vars)) Z Z Aa<|Ai ?_
    cases a7:(!(wf p funcs (ex.kids.getD k Ex.zero) vars))
    ·refine Ak (by first|rfl|exact zW a7)<|A2<|Ab _ [0,0,0] Z<|Ag 1 Z<|AQ ((k+1:Nat):Int) Z Z (Bn oM sD) Aa<|Ac 1 Z ?_
     exact⟨k+1,_,rfl,zR,⟨a6,sD,GA⟩,zD⟩
    exact Ah (by first|rfl|exact zW a7)<|La Z<|A1<|AC<|Am<|Am<|AC<|Am<|Af [8] Z (.bool false) Z ⟨F4,a6⟩
   refine AH false Z Z (A6 aj) Aa<|Ac 4 Z<|Ak Z<|A2<|L9 [0,0,0,0,2,0,0,0,0,3,0] Z<|Ag 2 Z<|AF (hex.isPtr) Z Aa<|Av (p:=ve) 4 B5 Z (a2 _<|AG.of_ext [] a0) Aa<|Al (p:=Ar ve 4) (.inr Z) a1 AU Z ((a2 _<|AG.of_ext [] a0).ld (i:=4) (by simp[Ch,Ci])) Aa<|Ag 1 Z ?_
   refine AN (v:=a1) k Bw B1 Z Z a3.rn.isSl Z sD Aa<|Ag 2 Z ?_
   refine As 154 [] [] [vp,AE a1 k 5,zI vars,zI funcs] Z Z H4 Aa (ih dd4 oM _ dp vp (p) (AE a1 k 5) (ex.kids.getD k Ex.zero) _ _ (hp.ext (BY<|Bo dp) a0) (RN.ptr (AB dd4) (by decide) Ex.zero (a3.rn.ext (Ax<|AB dd4) a0) sD) _hvars _hfuncs oM oM) ?_
   rintro ax ay ⟨rfl,a5⟩
   refine⟨_,rfl,a5,?_⟩
   have ao:=a5.size
   have a8:=a0.trans a5
   refine AZ (!(wf p funcs (ex.kids.getD k Ex.zero) vars)) Z Z Aa<|Ai ?_
   cases a9:(!(wf p funcs (ex.kids.getD k Ex.zero) vars))
   ·refine Ak (by first|rfl|exact zW a9)<|A2<|Ab _ [0,0,0] Z<|Ag 1 Z<|AQ ((k+1:Nat):Int) Z Z (Bn oM sD) Aa<|Ac 1 Z ?_
    exact⟨k+1,_,rfl,zR,⟨a8,sD,GA⟩,zD⟩
   exact Ah (by first|rfl|exact zW a9)<|La Z<|A1<|AC<|Am<|Am<|AC<|Am<|Af [8] Z (.bool false) Z ⟨F4,a8⟩
  exact AA false Z Z (A6 ai) Aa<|Ai<|Ak Z<|A4<|AD<|AD<|Ay<|La Z<|A1<|Af [8] Z (.bool true) Z ⟨F4,a0⟩
 exact Ah (by first|rfl|exact zW ag)<|La Z<|A1<|Am<|Af [8] Z (.bool false) Z ⟨F4,ad⟩
theorem F7 (w:World)(vars:Int)(_hvars:BF vars)  :
  Calls Try.prog 152 #[zI vars] w (fun e w'=>e=.returned (.bool (D4 vars 0 412))∧w'=w):=by
 refine Aw [zI vars] 5 Try.func152 Z Z sM ?_
 have a0:w=w:=rfl
 exact La Z<|L9 [0,0,0] Z<|Ag 1 Z<|AJ 79 [] [] [zI vars,zI ((0:Nat):Int),zI ((412:Nat):Int)] Z Z DB Aa (.bool (decide (((0:Nat):Int)≤vars) && decide (vars≤((412:Nat):Int)))) (fun wq=>AY wq _ _ _ _hvars oM oM)<|Ac 1 Z<|A1<|Af [2] Z (.bool (decide (((0:Nat):Int)≤vars) && decide (vars≤((412:Nat):Int)))) Z ⟨rfl,a0⟩
theorem F8 {p:Prop}(h:p:=by first|exact At (Jj (by assumption))|exact At (Hf ⟨BC.1 (by assumption),Dd (by assumption),zO,zO⟩)|exact At ((by assumption:wf p funcs ex vars=true).symm.trans (Hf ⟨BC.1 (by assumption),Dd (by assumption),zO,zO⟩))|exact At (FI fun hh=>Il (by assumption) hh.1)|exact At (FI fun hh=>Hg (by assumption) hh.2.1)|exact At (FI oM)):p:=h
theorem F9 (w:World)(dp:Nat)(vp:Value)(p:List Fn)(dex:Nat)(ve:Value)(ex:Ex)(vars:Int)(funcs:Int)(hp:RN [] (rP (Iv dp)) w.heap vp p)(hex:RN [] (rP (DL dex)) w.heap ve ex)(_hvars:BF vars)(_hfuncs:BF funcs)(hs:ex.size≤1000000000) :
  Calls Try.prog 143 #[vp,ve,zI vars,zI funcs] w (fun e w'=>e=.returned (.bool (FA p ex vars funcs))∧Az w w'):=by
 refine Aw [vp,ve,zI vars,zI funcs] 37 Try.func143 Z Z sM ?_
 have a1:Az w w:=Az.refl w
 have hlp:=HG (e:=ex) (x:=((400:Nat):Int)) oM
 refine La Z<|L9 [0,0,0,0,0,0,0,2,0,0,0,0,0,3,0,0,0,0,3,0,0,0,0,0,0,0,3,0,0] Z<|Ag 1 Z<|AJ 152 [] [] [zI vars] Z Z Kh Aa (.bool<|D4 vars 0 412) (fun wq=>F7 wq _ _hvars)<|Ag 1 Z ?_
 cases ah:(D4 vars 0 412)
 ·exact Ac 26 Z<|A1<|Af [8] Z (.bool false) Z ⟨F8,a1⟩
 refine Ag 2 Z<|AF (hp.isPtr) Z (Ae (e:=11) Z Z Z) ?_
 obtain⟨cs3,ae,a8⟩:=RN.at (Bo _) hp
 obtain⟨a9,rfl,aa⟩:=RPr.of ae
 have a3:=aa.lenle
 unfold maxLen at a3
 refine Av (p:=vp) 0 AO Z (a8 _<|AG.of_ext [] a1) (Ae (e:=11) Z Z Z)<|Al (p:=Ar vp 0) (.inr Z) a9 B7 Z ((a8 _<|AG.of_ext [] a1).ld (i:=0) (by simp[Ch,Ci])) (Ae (e:=11) Z Z Z)<|AS (v:=a9) C1 Z aa.isSl (Ae (e:=11) Z Z Z)<|AJ 79 [] [] [zI funcs,zI ((0:Nat):Int),zI (p.length:Int)] Z Z DB (Ae (e:=11) Z Z Z) (.bool (decide (((0:Nat):Int)≤funcs) && decide (funcs≤(p.length:Int)))) (fun wq=>AY wq _ _ _ _hfuncs oM oM)<|Ag 2 Z ?_
 cases ai:(decide (((0:Nat):Int)≤funcs) && decide (funcs≤(p.length:Int)))
 ·exact Ac 17 Z<|A1<|Af [8] Z (.bool false) Z ⟨F8,a1⟩
 refine Ag 1 Z<|As 142 [] [] [ve,zI ((400:Nat):Int)] Z Z I2 (Ae (e:=20) Z Z Z) (De _ dex ve (ex) _ (hex.ext (BY<|AB dex) a1) oM oM oM) ?_
 rintro e6 w6 ⟨rfl,a4⟩
 refine⟨_,rfl,a4,?_⟩
 have af:=a4.size
 have a5:=a1.trans a4
 by_cases ab:((0:Nat):Int)≤Dp ex ((400:Nat):Int)
 ·refine Cp true Z Z (A5 ab) (Ae (e:=20) Z Z Z)<|Ag 3 Z<|As 153 [] [] [ve] Z Z Jd (Ae (e:=25) Z Z Z) (El _ dex ve (ex) (hex.ext (BY<|AB dex) a5) oM) ?_
  rintro e8 w8 ⟨rfl,a6⟩
  refine⟨_,rfl,a6,?_⟩
  have ag:=a6.size
  have a2:=a5.trans a6
  by_cases ac:(ex.deep:Int)≤((60:Nat):Int)
  ·refine D8 true Z Z (A5 ac) (Ae (e:=25) Z Z Z)<|Ag 6 Z<|As 154 [] [] [vp,ve,zI vars,zI funcs] Z Z H4 (Ae (e:=30) Z Z Z) (F5 _ dp vp (p) dex ve (ex) _ _ (hp.ext (BY<|Bo dp) a2) (hex.ext (BY<|AB dex) a2) _hvars _hfuncs (by have h1:=BC.1 (by assumption:D4 vars 0 412=true);omega) (by have h2:=Dd (by assumption:(decide (((0:Nat):Int)≤funcs) && decide (funcs≤(p.length:Int)))=true);omega)) ?_
   rintro aj ak ⟨rfl,a0⟩
   refine⟨_,rfl,a0,?_⟩
   have ad:=a0.size
   have a7:=a2.trans a0
   exact Ac 2 Z<|A1<|Af [8] Z (.bool<|wf p funcs ex vars) Z ⟨F8,a7⟩
  exact D8 false Z Z (A6 ac) (Ae (e:=25) Z Z Z)<|Ac 9 Z<|A1<|Af [8] Z (.bool false) Z ⟨F8,a2⟩
 exact Cp false Z Z (A6 ab) (Ae (e:=20) Z Z Z)<|Ac 14 Z<|A1<|Af [8] Z (.bool false) Z ⟨F8,a5⟩
theorem JJ {s:ByteArray}(h:¬(1≤s.size∧s.size≤12)):false=FZ s:=by
  cases hh:FZ s with
  |false=>rfl
  |true=>unfold FZ at hh;simp only[z7,decide_eq_true_eq]at hh;exact absurd hh.1 h
theorem Df {p:Prop}(h:p:=by first|exact At (JJ (fun hh=>Hg (Bc (by assumption)) ⟨zO,zO⟩))|exact At (Gy (k:=0) oM oM)|exact At (Gy (k:=k) oM oM)|exact At (Ik hq oM (by rw[A5 (show 1≤s.size by omega),A5 (show s.size≤12 by omega)];rfl))):p:=h
theorem GB {p:Prop}(h:p:=by exact C3 hq (He (by(by_cases h0:k=0;(rw[h0];left;omega);omega)))):p:=h
theorem Fs (w:World)(s:ByteArray)  (hl:s.size≤1000000000) :
  Calls Try.prog 141 #[.string s] w (fun e w'=>e=.returned (.bool (FZ s))∧w'=w):=by
 refine Aw [.string s] 46 Try.func141 Z Z sM ?_
 have a1:w=w:=rfl
 refine La Z<|A0<|L9 [0,0,0,0,0,0,0,0,0,0,0,0,0,0] Z<|Ag 1 Z<|DW (s:=s) u9 Z Aa<|AJ 79 [] [] [zI (s.size:Int),zI ((1:Nat):Int),zI ((12:Nat):Int)] Z Z DB Aa (.bool (decide (((1:Nat):Int)≤(s.size:Int)) && decide ((s.size:Int)≤((12:Nat):Int)))) (fun wq=>AY wq _ _ _ oM oM oM)<|AZ (!(decide (((1:Nat):Int)≤(s.size:Int)) && decide ((s.size:Int)≤((12:Nat):Int)))) Z Z Aa<|Ag 1 Z ?_
 cases ac:(!(decide (((1:Nat):Int)≤(s.size:Int)) && decide ((s.size:Int)≤((12:Nat):Int))))
 ·refine Ag 1 Z ?_
  have hsz:=Dd (AX (by assumption):(decide (((1:Nat):Int)≤(s.size:Int)) && decide ((s.size:Int)≤((12:Nat):Int)))=true)
  refine BK (s:=s) 0 u9 Z Z Z sD (Ae (e:=8) Z Z Z) ?_
  by_cases a5:((DU s 0:Nat):Int)<97
  ·exact AA true Z Z (A5 a5) (Ae (e:=8) Z Z Z)<|Ac 6 Z<|Ah Z<|La Z<|A1<|Am<|Af [2] Z (.bool false) Z ⟨Df,a1⟩
  refine AA false Z Z (A6 a5) (Ae (e:=8) Z Z Z)<|Ag 3 Z<|BK (s:=s) 0 u9 Z Z Z sD (Ae (e:=13) Z Z Z) ?_
  by_cases a6:122<((DU s 0:Nat):Int)
  ·exact BJ true Z Z (A5 a6) (Ae (e:=13) Z Z Z)<|Ac 1 Z<|Ah Z<|La Z<|A1<|Am<|Af [2] Z (.bool false) Z ⟨Df,a1⟩
  refine BJ false Z Z (A6 a6) (Ae (e:=13) Z Z Z)<|Ac 1 Z<|Ak Z<|A2<|A0<|La Z<|A3<|AW (S:=Nat) (fun k=>([(3,zI (k:Int)),(0,.string s)])) (fun k W=>W=w∧k≤s.size∧(List.range k).all (J1 s)=true) (fun k=>s.size-k) 0 ⟨rfl,rfl,trivial⟩ ⟨a1,sD,(by rfl)⟩ ?_
  clear a1
  rintro k ρ5 w5 ⟨a0,a7,hq⟩
  refine A0<|L9 [0,0,0,0] Z<|Ag 2 Z<|DW (s:=s) u9 Z Aa ?_
  by_cases a8:(k:Int)<(s.size:Int)
  ·refine AA true Z Z (A5 a8) Aa<|Ai<|Ah Z<|A2<|A0<|A3<|L9 [0,0,0,0,0,0,0,0,0,0,0,0,0,0,0,0,0,0,0,0,0,0] Z<|Ag 2 Z<|BK (s:=s) k u9 Z Z Z sD Aa ?_
   by_cases a9:((DU s k:Nat):Int)<97
   ·refine AA true Z Z (A5 a9) Aa<|Ag 9 Z<|BK (s:=s) k u9 Z Z Z sD (Ae (e:=34) Z Z Z) ?_
    by_cases aa:((DU s k:Nat):Int)<48
    ·exact AA true Z Z (A5 aa) (Ae (e:=34) Z Z Z)<|Ac 7 Z<|Ah Z<|La Z<|A1<|AC<|Am<|Am<|AC<|Am<|Af [2] Z (.bool false) Z ⟨Df,a0⟩
    refine AA false Z Z (A6 aa) (Ae (e:=34) Z Z Z)<|Ag 3 Z<|BK (s:=s) k u9 Z Z Z sD (Ae (e:=39) Z Z Z) ?_
    by_cases ab:57<((DU s k:Nat):Int)
    ·exact BJ true Z Z (A5 ab) (Ae (e:=39) Z Z Z)<|Ac 2 Z<|Ah Z<|La Z<|A1<|AC<|Am<|Am<|AC<|Am<|Af [2] Z (.bool false) Z ⟨Df,a0⟩
    refine BJ false Z Z (A6 ab) (Ae (e:=39) Z Z Z)<|Ac 2 Z<|Ak Z<|A2<|Ab _ [0,0,0] Z<|Ag 1 Z<|AQ ((k+1:Nat):Int) Z Z (Bn oM sD) Aa<|Ac 1 Z ?_
    exact⟨k+1,_,rfl,⟨rfl,rfl,trivial⟩,⟨a0,sD,GB⟩,zD⟩
   refine AA false Z Z (A6 a9) Aa<|Ag 3 Z<|BK (s:=s) k u9 Z Z Z sD (Ae (e:=28) Z Z Z) ?_
   by_cases a2:122<((DU s k:Nat):Int)
   ·refine BJ true Z Z (A5 a2) (Ae (e:=28) Z Z Z)<|Ag 4 Z<|BK (s:=s) k u9 Z Z Z sD (Ae (e:=34) Z Z Z) ?_
    by_cases a3:((DU s k:Nat):Int)<48
    ·exact AA true Z Z (A5 a3) (Ae (e:=34) Z Z Z)<|Ac 7 Z<|Ah Z<|La Z<|A1<|AC<|Am<|Am<|AC<|Am<|Af [2] Z (.bool false) Z ⟨Df,a0⟩
    refine AA false Z Z (A6 a3) (Ae (e:=34) Z Z Z)<|Ag 3 Z<|BK (s:=s) k u9 Z Z Z sD (Ae (e:=39) Z Z Z) ?_
    by_cases a4:57<((DU s k:Nat):Int)
    ·exact BJ true Z Z (A5 a4) (Ae (e:=39) Z Z Z)<|Ac 2 Z<|Ah Z<|La Z<|A1<|AC<|Am<|Am<|AC<|Am<|Af [2] Z (.bool false) Z ⟨Df,a0⟩
    refine BJ false Z Z (A6 a4) (Ae (e:=39) Z Z Z)<|Ac 2 Z<|Ak Z<|A2<|Ab _ [0,0,0] Z<|Ag 1 Z<|AQ ((k+1:Nat):Int) Z Z (Bn oM sD) Aa<|Ac 1 Z ?_
    exact⟨k+1,_,rfl,⟨rfl,rfl,trivial⟩,⟨a0,sD,GB⟩,zD⟩
   refine BJ false Z Z (A6 a2) (Ae (e:=28) Z Z Z)<|Ac 13 Z<|Ak Z<|A2<|Ab _ [0,0,0] Z<|Ag 1 Z<|AQ ((k+1:Nat):Int) Z Z (Bn oM sD) Aa<|Ac 1 Z ?_
   exact⟨k+1,_,rfl,⟨rfl,rfl,trivial⟩,⟨a0,sD,GB⟩,zD⟩
  exact AA false Z Z (A6 a8) Aa<|Ai<|Ak Z<|A4<|AD<|AD<|Ay<|La Z<|A1<|Af [2] Z (.bool true) Z ⟨Df,a0⟩
 exact Ac 9 Z<|Ah Z<|La Z<|A1<|Am<|Af [2] Z (.bool false) Z ⟨Df,a1⟩
theorem Ip {α:Type}{l:List α}{f:α→Bool}{k:Nat}(d:α)(hk:k<l.length)(h:(l.take k).any f=false)(h2:f (l.getD k d)=false):(l.take (k+1)).any f=false:=by
  rw[List.take_succ_eq_append_getElem hk,List.any_append,h]
  have:l.getD k d=l[k]:=by simp[hk]
  rw[this]at h2
  simp[h2]
theorem IV {α:Type}{l:List α}{f:α→Bool}{k n:Nat}(d:α)(hk:k<n)(hn:n≤l.length)(h:f (l.getD k d)=true):(l.take n).any f=true:=by
  rw[List.any_eq_true]
  have hkl:k<l.length:=by omega
  have e:l.getD k d=l[k]:=by simp[hkl]
  refine⟨l[k],?_,by rw[← e];exact h⟩
  rw[List.mem_take_iff_getElem]
  exact⟨k,zO,rfl⟩
theorem IW {p:List Fn}{a j:Nat}{x:Int}(hx:x=BG ((p.getD a Fn.zero).outs.take j) ((400:Nat):Int))(h:0≤x)(hj:(p.getD a Fn.zero).outs.length≤j):Ex.sizes (p.getD a Fn.zero).outs≤400:=by
  rw[za hj]at hx
  rcases Dj (p.getD a Fn.zero).outs ((400:Nat):Int) (Int.natCast_nonneg _)with h2|h2
  · have:=h2.2;omega
  · have:=h2.1;omega
theorem Iq {p:List Fn}{a j:Nat}(h:BG ((p.getD a Fn.zero).outs.take j) ((400:Nat):Int)<0):Ej p a=false:=Kw (by
  have h1:=FD h
  rcases Dj (p.getD a Fn.zero).outs ((400:Nat):Int) (Int.natCast_nonneg _)with h2|h2
  · have:=h2.1;have:=h2.2;omega
  · have:=h2.2;omega)
theorem DH {p:Prop}(h:p:=by first|exact At (Kr (Bc (by assumption))).symm|exact At (Kt (Bc (by assumption))).symm|exact At (Ku (Bc (by assumption))).symm|exact At (Ks (IV (k:=k) Fn.zero oM oM (by assumption))).symm|exact At (Iq (j:=j+1) (by rw[hnx,← hx];omega)).symm|exact At (Kv (j:=j) oM (Bc (by assumption))).symm|exact At (Jk (AX (by assumption)) hqa (AX (by assumption)) (AX (by assumption)) hqe oM (IW hx oM oM)).symm):p:=h
theorem CB {p:Prop}(h:p:=by simp[Ch,Ci]):p:=h
theorem Fb (w:World)(dp:Nat)(vp:Value)(p:List Fn)(a:Nat)(hp:RN [] (rP (Iv dp)) w.heap vp p)(ha:a<p.length)(hpl:p.length≤1000000)(hz:G0 p) :
  Calls Try.prog 118 #[vp,zI (a:Int)] w (fun e w'=>e=.returned (.bool (Ej p a))∧Az w w'):=by
 refine Aw [vp,zI (a:Int)] 91 Try.func118 Z Z sM ?_
 have a4:Az w w:=Az.refl w
 have hza:=hz a ha
 refine La Z<|L9 [0,0,0,2,0,0,0] Z<|Ag 1 Z<|AF (hp.isPtr) Z Aa ?_
 obtain⟨cs1,ay,al⟩:=RN.at (Bo _) hp
 obtain⟨a0,rfl,a5⟩:=RPr.of ay
 have ab:=a5.lenle
 unfold maxLen at ab
 refine Av (p:=vp) 0 AO Z (al _<|AG.of_ext [] a4) Aa<|Al (p:=Ar vp 0) (.inr Z) a0 B7 Z ((al _<|AG.of_ext [] a4).ld (i:=0) CB) Aa<|Ag 1 Z<|AN (v:=a0) a C1 B4 Z Z a5.isSl Z sD Aa<|Ac 1 Z<|A0<|L9 [0,0,0,2,0,0,0,0,0,0,2,0,0,0,0,0,0,0,2,0,0,0,0] Z<|Ag 1 Z ?_
 refine AF (RN.isPtr<|RN.ptr (Aq dp) (by decide) Fn.zero a5 sD) Z Aa ?_
 obtain⟨cs2,az,a3⟩:=a5.get (Aq dp) Fn.zero (k:=a) sD
 obtain⟨a6,rfl,a9⟩:=RF.of az
 have ac:=a9.rn.lenle
 unfold maxLen at ac
 refine Av (p:=AE a0 a 3) 0 BS Z (a3 _<|AG.of_ext [] a4) Aa<|Al (p:=Ar (AE a0 a 3) 0) (.inr Z) (.string<|(p.getD a Fn.zero).name) Dq Z ((a3 _<|AG.of_ext [] a4).ld (i:=0) CB) Aa<|AJ 141 [] [] [.string<|(p.getD a Fn.zero).name] Z Z Kc Aa (.bool<|FZ<|(p.getD a Fn.zero).name) (fun wq=>Fs wq ((p.getD a Fn.zero).name) oM)<|AZ (!(FZ<|(p.getD a Fn.zero).name)) Z Z Aa<|Ag 1 Z ?_
 cases b1:(!(FZ ((p.getD a Fn.zero).name)))
 ·refine Ag 1 Z<|AF (RN.isPtr<|RN.ptr (Aq dp) (by decide) Fn.zero a5 sD) Z (Ae (e:=21) Z Z Z)<|Av (p:=AE a0 a 3) 1 Bh Z (a3 _<|AG.of_ext [] a4) (Ae (e:=21) Z Z Z)<|Al (p:=Ar (AE a0 a 3) 1) (.inr Z) (zI<|(p.getD a Fn.zero).params) AT Z ((a3 _<|AG.of_ext [] a4).ld (i:=1) CB) (Ae (e:=21) Z Z Z) ?_
  refine AJ 79 [] [] [zI<|(p.getD a Fn.zero).params,zI ((0:Nat):Int),zI ((12:Nat):Int)] Z Z DB (Ae (e:=21) Z Z Z) (.bool (decide (((0:Nat):Int)≤((p.getD a Fn.zero).params)) && decide (((p.getD a Fn.zero).params)≤((12:Nat):Int)))) (fun wq=>AY wq _ _ _ a9.rng oM oM)<|AZ (!(decide (((0:Nat):Int)≤((p.getD a Fn.zero).params)) && decide (((p.getD a Fn.zero).params)≤((12:Nat):Int)))) Z Z (Ae (e:=21) Z Z Z)<|Ag 2 Z ?_
  cases b2:(!(decide (((0:Nat):Int)≤((p.getD a Fn.zero).params)) && decide (((p.getD a Fn.zero).params)≤((12:Nat):Int))))
  ·refine Ag 1 Z<|AF (RN.isPtr<|RN.ptr (Aq dp) (by decide) Fn.zero a5 sD) Z (Ae (e:=29) Z Z Z)<|Av (p:=AE a0 a 3) 2 B2 Z (a3 _<|AG.of_ext [] a4) (Ae (e:=29) Z Z Z)<|Al (p:=Ar (AE a0 a 3) 2) (.inr Z) a6 AU Z ((a3 _<|AG.of_ext [] a4).ld (i:=2) CB) (Ae (e:=29) Z Z Z)<|AS (v:=a6) Bw Z a9.rn.isSl (Ae (e:=29) Z Z Z) ?_
   refine AJ 79 [] [] [zI ((((p.getD a Fn.zero).outs).length:Nat):Int),zI ((1:Nat):Int),zI ((12:Nat):Int)] Z Z DB (Ae (e:=29) Z Z Z) (.bool (decide (((1:Nat):Int)≤((((p.getD a Fn.zero).outs).length:Nat):Int)) && decide (((((p.getD a Fn.zero).outs).length:Nat):Int)≤((12:Nat):Int)))) (fun wq=>AY wq _ _ _ oM oM oM)<|AZ (!(decide (((1:Nat):Int)≤((((p.getD a Fn.zero).outs).length:Nat):Int)) && decide (((((p.getD a Fn.zero).outs).length:Nat):Int)≤((12:Nat):Int)))) Z Z (Ae (e:=29) Z Z Z)<|Ac 1 Z ?_
   cases ar:(!(decide (((1:Nat):Int)≤((((p.getD a Fn.zero).outs).length:Nat):Int)) && decide (((((p.getD a Fn.zero).outs).length:Nat):Int)≤((12:Nat):Int))))
   ·refine Ak (by first|rfl|exact zW ar)<|A2<|A0<|La Z<|A3 ?_
    refine AW (S:=Nat) (fun k=>([(6,zI (k:Int)),(0,vp),(1,zI (a:Int)),(5,AE a0 a 3)])) (fun k W=>Az w W∧k≤a∧(p.take k).any (fun g=>BM g.name (p.getD a Fn.zero).name)=false) (fun k=>a-k) 0 ⟨rfl,rfl,rfl,rfl,trivial⟩ ⟨a4,sD,(by rfl)⟩ ?_
    clear a4 ab ac
    rintro k ρ9 w9 ⟨a7,au,hq⟩
    have am:w.heap.size≤w9.heap.size:=a7.size
    refine A0<|L9 [0,0,0] Z<|Ag 2 Z ?_
    by_cases ad:(k:Int)<(a:Int)
    ·refine AA true Z Z (A5 ad) Aa<|Ai<|Ah Z<|A2<|A0<|A3<|A0<|Bd _ [0,0,0,1,0,0,0,1,0,0,0,1,0] mixed (by kernel_rfl)<|Ag 1 Z<|AF (hp.isPtr) Z Aa<|Av (p:=vp) 0 AO Z (al _<|AG.of_ext [] a7.drew) Aa<|Al (p:=Ar vp 0) (.inl Z) a0 B7 Z ((al _<|AG.of_ext [] a7.drew).ld (i:=0) CB) Aa<|Ag 1 Z ?_
     refine AN (v:=a0) k C1 B4 Z Z a5.isSl Z sD Aa ?_
     obtain⟨cs11,an,ae⟩:=a5.get (Aq dp) Fn.zero (k:=k) sD
     obtain⟨b0,rfl,ao⟩:=RF.of an
     have af:=ao.rn.lenle
     unfold maxLen at af
     refine Av (p:=AE a0 k 3) 0 BS Z (ae _<|AG.of_ext [] a7.drew) Aa<|Al (p:=Ar (AE a0 k 3) 0) (.inl Z) (.string<|(p.getD k Fn.zero).name) Dq Z ((ae _<|AG.of_ext [] a7.drew).ld (i:=0) CB) Aa<|Ag 1 Z<|AF (RN.isPtr<|RN.ptr (Aq dp) (by decide) Fn.zero a5 sD) Z Aa<|Av (p:=AE a0 a 3) 0 BS Z (a3 _<|AG.of_ext [] a7.drew) Aa ?_
     refine Al (p:=Ar (AE a0 a 3) 0) (.inl Z) (.string<|(p.getD a Fn.zero).name) Dq Z ((a3 _<|AG.of_ext [] a7.drew).ld (i:=0) CB) Aa ?_
     cases ag:BM ((p.getD k Fn.zero).name) ((p.getD a Fn.zero).name)
     ·refine DY false u9 Z Z ag Aa<|Ai<|Ak Z<|A2<|Ab _ [0,0,0] Z<|Ag 1 Z<|AQ ((k+1:Nat):Int) Z Z (Bn oM sD) Aa<|Ac 1 Z ?_
      exact⟨k+1,_,rfl,zR,⟨a7.drew,sD,(by exact Ip Fn.zero oM hq (by assumption))⟩,zD⟩
     exact DY true u9 Z Z ag Aa<|Ai<|Ah Z<|La Z<|A1<|AC<|Am<|Am<|AC<|Am<|Af [4] Z (.bool false) Z ⟨DH,a7.drew⟩
    refine AA false Z Z (A6 ad) Aa<|Ai<|Ak Z<|A4<|AD<|AD<|Ay<|L9 [0] Z ?_
    have hka:k=a:=by omega
    rw[hka]at hq
    have hqa:=hq
    refine Ac 1 Z<|A0<|La Z<|A3 ?_
    refine AW (S:=Nat×Int) (fun⟨j,x⟩=>([(7,zI x),(8,zI (j:Int)),(0,vp),(1,zI (a:Int)),(5,AE a0 a 3)])) (fun⟨j,x⟩ W=>Az w W∧j≤(p.getD a Fn.zero).outs.length∧x=BG ((p.getD a Fn.zero).outs.take j) ((400:Nat):Int)∧(0≤x∧x≤400)∧(List.range j).all (fun j=>FA p ((p.getD a Fn.zero).outs.getD j Ex.zero) (p.getD a Fn.zero).params (a:Int))=true) (fun⟨j,x⟩=>(p.getD a Fn.zero).outs.length-j) (0,((400:Nat):Int)) ⟨rfl,rfl,rfl,rfl,rfl,trivial⟩ ⟨a7,sD,(by rw[List.take_zero,BG]),oM,(by rfl)⟩ ?_
    clear a7 am
    rintro⟨j,x⟩ ρ13 b3 ⟨a1,ap,hx,aq,hqe⟩
    have av:w.heap.size≤b3.heap.size:=a1.size
    refine A0<|L9 [0,0,0,0,2,0,0] Z<|Ag 2 Z<|AF (RN.isPtr<|RN.ptr (Aq dp) (by decide) Fn.zero a5 sD) Z Aa<|Av (p:=AE a0 a 3) 2 B2 Z (a3 _<|AG.of_ext [] a1) Aa<|Al (p:=Ar (AE a0 a 3) 2) (.inr Z) a6 AU Z ((a3 _<|AG.of_ext [] a1).ld (i:=2) CB) Aa<|AS (v:=a6) Bw Z a9.rn.isSl Aa ?_
    by_cases ah:(j:Int)<((((p.getD a Fn.zero).outs).length:Nat):Int)
    ·refine AA true Z Z (A5 ah) Aa<|Ai<|Ah Z<|A2<|A0<|A3<|L9 [0,0,0,2,0,0,0,3,0] Z ?_
     have hst:=Bp (l:=(p.getD a Fn.zero).outs) (k:=j) oM
     have hle:=Bq (p.getD a Fn.zero).outs (j+1)
     have hnx:=FC (l:=(p.getD a Fn.zero).outs) (k:=j) (x:=((400:Nat):Int)) oM oM
     have hnr:=Gb (e:=(p.getD a Fn.zero).outs.getD j Ex.zero) (x:=x) oM
     refine Ag 1 Z<|AF (RN.isPtr<|RN.ptr (Aq dp) (by decide) Fn.zero a5 sD) Z Aa<|Av (p:=AE a0 a 3) 2 B2 Z (a3 _<|AG.of_ext [] a1) Aa<|Al (p:=Ar (AE a0 a 3) 2) (.inr Z) a6 AU Z ((a3 _<|AG.of_ext [] a1).ld (i:=2) CB) Aa<|Ag 1 Z ?_
     refine AN (v:=a6) j Bw B1 Z Z a9.rn.isSl Z sD Aa<|Ag 1 Z ?_
     refine As 142 [] [] [AE a6 j 5,zI x] Z Z I2 Aa (De _ dp (AE a6 j 5) (((p.getD a Fn.zero).outs).getD j Ex.zero) _ (RN.ptr (AB dp) (by decide) Ex.zero (a9.rn.ext (Ax<|AB dp) a1) sD) oM oM oM) ?_
     rintro b4 b5 ⟨rfl,aa⟩
     refine⟨_,rfl,aa,?_⟩
     have aw:=aa.size
     have a2:=a1.trans aa
     refine Ac 1 Z<|A0<|Bd _ [0,0,0,0,0,0,0,1,0,0,0,0,0,1,0,3,0,0] mixed (by kernel_rfl)<|Ag 1 Z ?_
     by_cases ai:Dp (((p.getD a Fn.zero).outs).getD j Ex.zero) x<((0:Nat):Int)
     ·exact AA true Z Z (A5 ai) Aa<|Ac 16 Z<|Ah Z<|La Z<|A1<|AC<|Am<|Am<|AC<|Am<|Af [4] Z (.bool false) Z ⟨DH,a2.drew⟩
     refine AA false Z Z (A6 ai) Aa<|Ag 3 Z<|AF (RN.isPtr<|RN.ptr (Aq dp) (by decide) Fn.zero a5 sD) Z (Ae (e:=75) Z Z Z)<|Av (p:=AE a0 a 3) 2 B2 Z (a3 _<|AG.of_ext [] a2.drew) (Ae (e:=75) Z Z Z)<|Al (p:=Ar (AE a0 a 3) 2) (.inl Z) a6 AU Z ((a3 _<|AG.of_ext [] a2.drew).ld (i:=2) CB) (Ae (e:=75) Z Z Z)<|Ag 1 Z ?_
     refine AN (v:=a6) j Bw B1 Z Z a9.rn.isSl Z sD (Ae (e:=75) Z Z Z)<|Ag 1 Z ?_
     refine AF (RN.isPtr<|RN.ptr (Aq dp) (by decide) Fn.zero a5 sD) Z (Ae (e:=75) Z Z Z)<|Av (p:=AE a0 a 3) 1 Bh Z (a3 _<|AG.of_ext [] a2.drew) (Ae (e:=75) Z Z Z)<|Al (p:=Ar (AE a0 a 3) 1) (.inl Z) (zI<|(p.getD a Fn.zero).params) AT Z ((a3 _<|AG.of_ext [] a2.drew).ld (i:=1) CB) (Ae (e:=75) Z Z Z)<|Ag 1 Z ?_
     refine As 143 [] [] [vp,AE a6 j 5,zI<|(p.getD a Fn.zero).params,zI (a:Int)] Z Z Kd (Ae (e:=75) Z Z Z) (F9 _ dp vp (p) dp (AE a6 j 5) (((p.getD a Fn.zero).outs).getD j Ex.zero) _ _ (hp.ext (BY<|Bo dp) a2.drew) (RN.ptr (AB dp) (by decide) Ex.zero (a9.rn.ext (Ax<|AB dp) a2.drew) sD) a9.rng oM oM) ?_
     rintro b6 b7 ⟨rfl,a8⟩
     refine⟨_,rfl,a8,?_⟩
     replace a8:=a8.of_drew
     have ax:=a8.size
     have aj:=a2.trans a8
     refine AZ (!(FA p (((p.getD a Fn.zero).outs).getD j Ex.zero) ((p.getD a Fn.zero).params) (a:Int))) Z Z (Ae (e:=75) Z Z Z)<|Ac 1 Z ?_
     cases ak:(!(FA p (((p.getD a Fn.zero).outs).getD j Ex.zero) ((p.getD a Fn.zero).params) (a:Int)))
     ·refine Ak (by first|rfl|exact zW ak)<|A2<|Ab _ [0,0,0] Z<|Ag 1 Z<|AQ ((j+1:Nat):Int) Z Z (Bn oM sD) Aa<|Ac 1 Z ?_
      exact⟨(j+1,Dp (((p.getD a Fn.zero).outs).getD j Ex.zero) x),_,rfl,zR,⟨aj,sD,(by rw[hnx,← hx]),oM,(by exact C3 hqe (AX (by assumption)))⟩,zD⟩
     exact Ah (by first|rfl|exact zW ak)<|La Z<|A1<|AC<|Am<|Am<|AC<|Am<|Af [4] Z (.bool false) Z ⟨DH,aj⟩
    exact AA false Z Z (A6 ah) Aa<|Ai<|Ak Z<|A4<|AD<|AD<|Ay<|La Z<|A1<|Af [4] Z (.bool true) Z ⟨DH,a1⟩
   exact Ah (by first|rfl|exact zW ar)<|La Z<|A1<|Am<|Af [4] Z (.bool false) Z ⟨DH,a4⟩
  exact Ac 8 Z<|Ah Z<|La Z<|A1<|Am<|Af [4] Z (.bool false) Z ⟨DH,a4⟩
 exact Ac 16 Z<|Ah Z<|La Z<|A1<|Am<|Af [4] Z (.bool false) Z ⟨DH,a4⟩
theorem Ir {p:Prop}(h:p:=by first|exact At (Im oM)|exact At (In oM oM oM hq)|exact At (DG (k:=k) oM (Bc (by assumption)))):p:=h
theorem DR (w:World)(dp:Nat)(vp:Value)(p:List Fn)(hp:RN [] (rP (Iv dp)) w.heap vp p)(hz:G0 p) :
  Calls Try.prog 77 #[vp] w (fun e w'=>e=.returned (.bool (Cw p))∧Az w w'):=by
 refine Aw [vp] 23 Try.func77 Z Z sM ?_
 have a1:Az w w:=Az.refl w
 refine La Z<|A0<|L9 [0,0,0,2,0,0] Z<|Ag 1 Z<|AF (hp.isPtr) Z Aa ?_
 obtain⟨cs1,ac,a3⟩:=RN.at (Bo _) hp
 obtain⟨a4,rfl,a5⟩:=RPr.of ac
 have a2:=a5.lenle
 unfold maxLen at a2
 refine Av (p:=vp) 0 AO Z (a3 _<|AG.of_ext [] a1) Aa<|Al (p:=Ar vp 0) (.inr Z) a4 B7 Z ((a3 _<|AG.of_ext [] a1).ld (i:=0) (by simp[Ch,Ci])) Aa<|AS (v:=a4) C1 Z a5.isSl Aa ?_
 by_cases a7:((16:Nat):Int)<(p.length:Int)
 ·exact BJ true Z Z (A5 a7) Aa<|Ai<|Ah Z<|La Z<|A1<|Am<|Af [2] Z (.bool false) Z ⟨Ir,a1⟩
 refine BJ false Z Z (A6 a7) Aa<|Ai<|Ak Z<|A2<|A0<|La Z<|A3<|AW (S:=Nat) (fun k=>([(3,zI (k:Int)),(0,vp)])) (fun k W=>Az w W∧k≤p.length∧(List.range k).all (Ej p)=true) (fun k=>p.length-k) 0 ⟨rfl,rfl,trivial⟩ ⟨a1,sD,(by rfl)⟩ ?_
 clear a1 a2
 rintro k ρ3 w3 ⟨a0,a8,hq⟩
 have ad:w.heap.size≤w3.heap.size:=a0.size
 refine A0<|L9 [0,0,0,0,2,0,0] Z<|Ag 2 Z<|AF (hp.isPtr) Z Aa<|Av (p:=vp) 0 AO Z (a3 _<|AG.of_ext [] a0) Aa<|Al (p:=Ar vp 0) (.inr Z) a4 B7 Z ((a3 _<|AG.of_ext [] a0).ld (i:=0) (by simp[Ch,Ci])) Aa<|AS (v:=a4) C1 Z a5.isSl Aa ?_
 by_cases a9:(k:Int)<(p.length:Int)
 ·refine AA true Z Z (A5 a9) Aa<|Ai<|Ah Z<|A2<|A0<|A3<|L9 [0,0,3,0] Z<|Ag 2 Z<|As 118 [] [] [vp,zI (k:Int)] Z Z K3 Aa (Fb _ dp vp (p) (k) (hp.ext (BY<|Bo dp) a0) oM oM hz) ?_
  rintro e5 w5 ⟨rfl,a6⟩
  refine⟨_,rfl,a6,?_⟩
  have ae:=a6.size
  have aa:=a0.trans a6
  refine AZ (!(Ej p k)) Z Z Aa<|Ai ?_
  cases ab:(!(Ej p k))
  ·refine Ak (by first|rfl|exact zW ab)<|A2<|Ab _ [0,0,0] Z<|Ag 1 Z<|AQ ((k+1:Nat):Int) Z Z (Bn oM sD) Aa<|Ac 1 Z ?_
   exact⟨k+1,_,rfl,⟨rfl,rfl,trivial⟩,⟨aa,sD,(by exact C3 hq (AX (by assumption)))⟩,zD⟩
  exact Ah (by first|rfl|exact zW ab)<|La Z<|A1<|AC<|Am<|Am<|AC<|Am<|Af [2] Z (.bool false) Z ⟨Ir,aa⟩
 exact AA false Z Z (A6 a9) Aa<|Ai<|Ak Z<|A4<|AD<|AD<|Ay<|La Z<|A1<|Af [2] Z (.bool true) Z ⟨Ir,a0⟩
theorem L0 {p:List Fn}{f:Int}(h:Hn p f≠0):GR p f=false:=by
  unfold Hn at h
  unfold GR
  by_cases h1:Cw p=true
  · rw[if_pos h1]at h
    cases h2:FQ p f with
    |false=>rw[Bool.and_false]
    |true=>rw[if_pos (Dk.1 h2).1]at h;exact absurd Z h
  · rw[show Cw p=false from by simpa using h1];rfl
theorem KA {p:List Fn}{f:Int}(h:Hn p f=0){b:Bool}(hb:b=(decide (1≤(p.getD f.toNat Fn.zero).params) && decide ((((p.getD f.toNat Fn.zero).outs.length:Nat):Int)=(p.getD f.toNat Fn.zero).params))):GR p f=b:=by
  obtain⟨h1,h2⟩:=J2 h
  unfold GR FQ
  rw[h1,show D4 f 0 (((p.length:Nat):Int)-1)=true from BC.2 ⟨h2.1,zO⟩,hb,Bool.true_and,Bool.true_and]
theorem GC {p:Prop}(h:p:=by first|exact At (L0 oM).symm|exact At (KA oM (by rw[A5 (show 1≤(p.getD f.toNat Fn.zero).params by omega),Bool.true_and])).symm|exact At (KA oM (by rw[A6 (show ¬1≤(p.getD f.toNat Fn.zero).params by omega),Bool.false_and])).symm):p:=h
theorem DS (w:World)(dp:Nat)(vp:Value)(p:List Fn)(f:Int)(hp:RP [] dp w.heap vp p)(_hf:BF f)(hz:G0 p) :
  Calls Try.prog 121 #[(.agg #[vp]),zI f] w (fun e w'=>e=.returned (.bool (GR p f))∧Az w w'):=by
 refine Aw [.agg #[vp],zI f] 34 Try.func121 Z Z sM ?_
 have ac:Az w w:=Az.refl w
 have aj:=hp.lenle
 unfold maxLen at aj
 refine L9 [3,0] Z (Bf (cs:=#[vp]) Z Aa fun w1 a6 ah a4=>?_)
 have ad:=a6.size
 have a7:=ac.trans a6
 replace a4:BX w1.heap w.heap.size [vp]:=a4
 refine Ac 1 Z<|A0<|Bd _ [1,0,3,0,0,0,2,0,0,0,2,0,0,0,0,2,0,0,0,2,0,0,2,0,0,0,2,0,0,0] mixed (by kernel_rfl)<|Au (p:=zP w.heap.size) (.inl Z) [vp] AL Z (fun ak ae=>LD.of_box<|BX.ext (w:=w1.drew) a4 ae) Z Aa<|Ag 1 Z<|As 145 [] [] [.agg #[vp],zI f] Z Z Ke Aa (Fp _ dp vp (p) _ (hp.ext (Ax<|Aq dp) a7.drew) _hf hz) ?_
 rintro e2 w2 ⟨rfl,a2⟩
 refine⟨_,rfl,a2,?_⟩
 replace a2:=a2.of_drew
 have af:=a2.size
 have a1:=a7.trans a2
 have a0:=a4.ext a2
 by_cases a8:Hn p f=((0:Nat):Int)
 ·refine AH true Z Z (A5 a8) Aa<|Ag 1 Z ?_
  have ai:=J2 (p:=p) (f:=f) oM
  refine Ao (p:=zP w.heap.size) 0 AO Z Z (Ae (e:=9) Z Z Z)<|Al (p:=Ar (zP w.heap.size) 0) (.inr Z) vp B7 Z (a0.ldp (i:=0) sM) (Ae (e:=9) Z Z Z)<|Ag 1 Z<|AN (v:=vp) ((f).toNat) C1 B4 Z Z hp.isSl oM sD (Ae (e:=9) Z Z Z) ?_
  obtain⟨cs4,ag,a3⟩:=hp.get (Aq dp) Fn.zero (k:=(f).toNat) sD
  obtain⟨a9,rfl,aa⟩:=RF.of ag
  have a5:=aa.rn.lenle
  unfold maxLen at a5
  refine Av (p:=AE vp ((f).toNat) 3) 1 Bh Z (a3 _<|AG.of_ext [] a1) (Ae (e:=9) Z Z Z)<|Al (p:=Ar (AE vp ((f).toNat) 3) 1) (.inr Z) (zI<|(p.getD ((f).toNat) Fn.zero).params) AT Z ((a3 _<|AG.of_ext [] a1).ld (i:=1) (by simp[Ch,Ci])) (Ae (e:=9) Z Z Z) ?_
  by_cases ab:((1:Nat):Int)≤(p.getD ((f).toNat) Fn.zero).params
  ·refine Cp true Z Z (A5 ab) (Ae (e:=9) Z Z Z)<|Ag 2 Z<|Ao (p:=zP w.heap.size) 0 AO Z Z (Ae (e:=18) Z Z Z)<|Al (p:=Ar (zP w.heap.size) 0) (.inr Z) vp B7 Z (a0.ldp (i:=0) sM) (Ae (e:=18) Z Z Z)<|Ag 1 Z ?_
   refine AN (v:=vp) ((f).toNat) C1 B4 Z Z hp.isSl oM sD (Ae (e:=18) Z Z Z)<|Av (p:=AE vp ((f).toNat) 3) 2 B2 Z (a3 _<|AG.of_ext [] a1) (Ae (e:=18) Z Z Z)<|Al (p:=Ar (AE vp ((f).toNat) 3) 2) (.inr Z) a9 AU Z ((a3 _<|AG.of_ext [] a1).ld (i:=2) (by simp[Ch,Ci])) (Ae (e:=18) Z Z Z)<|AS (v:=a9) Bw Z aa.rn.isSl (Ae (e:=18) Z Z Z) ?_
   refine Ao (p:=zP w.heap.size) 0 AO Z Z (Ae (e:=18) Z Z Z)<|Al (p:=Ar (zP w.heap.size) 0) (.inr Z) vp B7 Z (a0.ldp (i:=0) sM) (Ae (e:=18) Z Z Z)<|Ag 1 Z<|AN (v:=vp) ((f).toNat) C1 B4 Z Z hp.isSl oM sD (Ae (e:=18) Z Z Z) ?_
   refine Av (p:=AE vp ((f).toNat) 3) 1 Bh Z (a3 _<|AG.of_ext [] a1) (Ae (e:=18) Z Z Z)<|Al (p:=Ar (AE vp ((f).toNat) 3) 1) (.inr Z) (zI<|(p.getD ((f).toNat) Fn.zero).params) AT Z ((a3 _<|AG.of_ext [] a1).ld (i:=1) (by simp[Ch,Ci])) (Ae (e:=18) Z Z Z)<|AH (decide (((((p.getD ((f).toNat) Fn.zero).outs).length:Nat):Int)=(p.getD ((f).toNat) Fn.zero).params)) Z Z Z (Ae (e:=18) Z Z Z)<|Ac 2 Z<|A1 ?_
   exact Af [4] Z (.bool<|decide (((((p.getD ((f).toNat) Fn.zero).outs).length:Nat):Int)=(p.getD ((f).toNat) Fn.zero).params)) Z ⟨GC,a1⟩
  exact Cp false Z Z (A6 ab) (Ae (e:=9) Z Z Z)<|Ac 18 Z<|A1<|Af [4] Z (.bool false) Z ⟨GC,a1⟩
 exact AH false Z Z (A6 a8) Aa<|Ac 26 Z<|A1<|Af [4] Z (.bool false) Z ⟨GC,a1⟩
theorem L1 {p:List Fn}{f:Int}{l:List Sr}(h:Cw p=false):1=D5 p f l:=by unfold D5;rw[h];rfl
theorem L2 {p:List Fn}{f:Int}{l:List Sr}(h:Cw p=true)(h2:GR p f=false):2=D5 p f l:=by
  unfold GR at h2;rw[h,Bool.true_and]at h2
  unfold D5;rw[if_pos h,h2];rfl
theorem L3 {p:List Fn}{f:Int}{l:List Sr}{k:Nat}(h:GR p f=true)(hk:k<l.length)(hb:(decide ((((l.getD k []).length:Nat):Int)=(p.getD f.toNat Fn.zero).params) && EG (l.getD k []))=false):2=D5 p f l:=by
  unfold GR at h;rw[z7]at h
  unfold D5;rw[if_pos h.1,if_pos h.2,HC (f:=(fun s=>decide (((s.length:Nat):Int)=(p.getD f.toNat Fn.zero).params) && EG s)) [] hk hb];rfl
theorem L4 {p:List Fn}{f:Int}{l:List Sr}{k:Nat}(h:GR p f=true)(hl:(l.take k).all (fun s=>decide (((s.length:Nat):Int)=(p.getD f.toNat Fn.zero).params) && EG s)=true)(hk:l.length≤k):0=D5 p f l:=by
  unfold GR at h;rw[z7]at h
  unfold D5;rw[if_pos h.1,if_pos h.2,HD hl hk];rfl
theorem Hh {p:Prop}(h:p:=by first|exact AK (L1 (Bc (by assumption)))|exact AK (L2 (AX (by assumption)) (Bc (by assumption)))|exact AK (L3 (k:=k) hrn oM (Bc (by assumption)))|exact AK (L4 hrn hq oM)):p:=h
theorem E8 (w:World)(dp:Nat)(vp:Value)(p:List Fn)(f:Int)(vl:Value)(l:List (Sr))(hp:RP [] dp w.heap vp p)(_hf:BF f)(hl:RN [] (Do (Do rI)) w.heap vl l)(hql:IC vl)(hz:G0 p) :
  Calls Try.prog 82 #[(.agg #[vp]),zI f,vl] w (fun e w'=>e=.returned (zI (D5 p f l))∧Az w w'):=by
 refine Aw [.agg #[vp],zI f,vl] 34 Try.func82 Z Z sM ?_
 have ao:Az w w:=Az.refl w
 have b3:=hp.lenle
 unfold maxLen at b3
 have b4:=hl.lenL
 unfold maxLen at b4
 refine L9 [3,0] Z (Bf (cs:=#[vp]) Z Aa fun w1 af ay ad=>?_)
 have ag:=af.size
 have ah:=ao.trans af
 replace ad:BX w1.heap w.heap.size [vp]:=ad
 refine Ac 1 Z<|A0<|A3<|L9 [2,3,0,0] Z<|Au (p:=zP w.heap.size) (.inr Z) [vp] AL Z (fun b5 ai=>LD.of_box<|BX.ext (w:=w1) ad ai) Z Aa<|As 88 [] [] [.agg #[vp]] Z Z IK Aa (Bs _ dp vp (p) (hp.ext (Ax<|Aq dp) ah) hz) ?_
 rintro e2 w2 ⟨rfl,a5⟩
 refine⟨_,rfl,a5,?_⟩
 have aj:=a5.size
 have ae:=ah.trans a5
 have a3:=ad.ext a5
 refine AZ (!(Cw p)) Z Z Aa<|Ac 1 Z ?_
 cases ap:(!(Cw p))
 ·refine Ak (by first|rfl|exact zW ap)<|L9 [2,0,3,0,0] Z<|Au (p:=zP w.heap.size) (.inr Z) [vp] AL Z (fun b5 ai=>LD.of_box<|BX.ext (w:=w2) a3 ai) Z Aa<|Ag 1 Z<|As 121 [] [] [.agg #[vp],zI f] Z Z K5 Aa (DS _ dp vp (p) _ (hp.ext (Ax<|Aq dp) ae) _hf hz) ?_
  rintro e4 w4 ⟨rfl,a6⟩
  refine⟨_,rfl,a6,?_⟩
  have ak:=a6.size
  have al:=ae.trans a6
  have a7:=a3.ext a6
  refine AZ (!(GR p f)) Z Z Aa<|Ac 1 Z ?_
  cases aq:(!(GR p f))
  ·refine Ak (by first|rfl|exact zW aq)<|A2<|A0<|L9 [0,0,0] Z ?_
   have hrn:GR p f=true:=AX (by assumption)
   have hrf:=Dk.1 (z7 .. ▸ hrn:Cw p=true∧FQ p f=true).2
   refine Ag 1 Z<|AS (v:=vl) Lg Z hl.slL Aa<|Ac 1 Z<|A3 ?_
   refine AW (S:=Nat) (fun k=>([(20,zI (k:Int)),(1,zI f),(3,zP w.heap.size),(18,vl),(19,zI (l.length:Int))])) (fun k W=>Az w W∧BX W.heap w.heap.size [vp]∧k≤l.length∧(l.take k).all (fun s=>decide ((s.length:Int)=(p.getD f.toNat Fn.zero).params) && EG s)=true) (fun k=>l.length-k) 0 ⟨rfl,rfl,rfl,rfl,rfl,trivial⟩ ⟨al,a7,sD,rfl⟩ ?_
   clear ao ay af ag ah a5 aj ae a6 ak al
   rintro k ρ6 w6 ⟨a4,a0,ar,hq⟩
   have az:w.heap.size≤w6.heap.size:=a4.size
   have b2:=a0.lt
   refine L9 [0] Z ?_
   by_cases au:(k:Int)<(l.length:Int)
   ·refine AA true Z Z (A5 au) Aa<|Ai<|A0<|Ah Z<|A2<|A0<|A3<|L9 [0,2,0] Z<|AN (v:=vl) k Lg KY Z Z hl.slL Z sD Aa ?_
    obtain⟨av,b0,aw⟩:=RN.getL (w:=w) g1 [] (k:=k) hl sD
    have am:=aw.lenL
    unfold maxLen at am
    refine Al (p:=AE vl k 1) (.inr Z) av Ko Z (b0 _<|AG.of_ext [] a4) Aa<|Ac 1 Z<|L9 [0,0,2,0,0,0,2,3,0] Z<|Ag 1 Z<|Ao (p:=zP w.heap.size) 0 AO Z Z Aa<|Al (p:=Ar (zP w.heap.size) 0) (.inr Z) vp B7 Z (a0.ldp (i:=0) sM) Aa<|Ag 1 Z ?_
    refine AN (v:=vp) ((f).toNat) C1 B4 Z Z hp.isSl oM sD Aa ?_
    obtain⟨cs10,an,a8⟩:=hp.get (Aq dp) Fn.zero (k:=(f).toNat) sD
    obtain⟨b1,rfl,a9⟩:=RF.of an
    have aa:=a9.rn.lenle
    unfold maxLen at aa
    refine Av (p:=AE vp ((f).toNat) 3) 1 Bh Z (a8 _<|AG.of_ext [] a4) Aa<|Al (p:=Ar (AE vp ((f).toNat) 3) 1) (.inr Z) (zI<|(p.getD ((f).toNat) Fn.zero).params) AT Z ((a8 _<|AG.of_ext [] a4).ld (i:=1) (by simp[Ch,Ci])) Aa<|As 65 [] [] [av,zI<|(p.getD ((f).toNat) Fn.zero).params] Z Z KP Aa (DQ _ _ _ _ (aw.ext g1 a4).rd a9.rng) ?_
    rintro b6 b7 ⟨rfl,a2⟩
    refine⟨_,rfl,a2,?_⟩
    have ax:=a2.size
    have ab:=a4.trans a2
    have a1:=a0.ext a2
    refine AZ (!(decide ((((l.getD k []).length:Nat):Int)=((p.getD ((f).toNat) Fn.zero).params)) && EG (l.getD k []))) Z Z Aa<|Ai ?_
    cases ac:(!(decide ((((l.getD k []).length:Nat):Int)=((p.getD ((f).toNat) Fn.zero).params)) && EG (l.getD k [])))
    ·refine Ak (by first|rfl|exact zW ac)<|A2<|Ab _ [0,0] Z<|AQ ((k+1:Nat):Int) Z Z (Bn oM sD) Aa<|Ac 1 Z ?_
     exact⟨k+1,_,rfl,zR,⟨ab,a1,sD,(by exact HB (f:=fun s=>decide ((s.length:Int)=(p.getD f.toNat Fn.zero).params) && EG s) [] hq oM (AX (by assumption)))⟩,zD⟩
    exact Ah (by first|rfl|exact zW ac)<|La Z<|A1<|AC<|Am<|Am<|AC<|Am<|Af [6] Z (zI ((2:Nat):Int)) Z ⟨Hh,ab⟩
   exact AA false Z Z (A6 au) Aa<|Ai<|A0<|Ak Z<|A4<|AD<|AD<|Ay<|La Z<|A1<|Af [6] Z (zI ((0:Nat):Int)) Z ⟨Hh,a4⟩
  exact Ah (by first|rfl|exact zW aq)<|La Z<|A1<|AC<|Am<|Af [6] Z (zI ((2:Nat):Int)) Z ⟨Hh,al⟩
 exact Ah (by first|rfl|exact zW ap)<|La Z<|A1<|AC<|Am<|Af [6] Z (zI ((1:Nat):Int)) Z ⟨Hh,ae⟩
theorem L5 {p:List Fn}{f:Int}(h:(decide (((0:Nat):Int)≤f) && decide (f≤((p.length:Nat):Int)-1))=false):FQ p f=false:=by
  have h':D4 f 0 (((p.length:Nat):Int)-1)=false:=h
  unfold FQ;rw[h',Bool.false_and]
theorem KB {p:List Fn}{f:Int}(h:(decide (((0:Nat):Int)≤f) && decide (f≤((p.length:Nat):Int)-1))=true){b:Bool}(hb:b=(decide (1≤(p.getD f.toNat Fn.zero).params) && decide ((((p.getD f.toNat Fn.zero).outs.length:Nat):Int)=(p.getD f.toNat Fn.zero).params))):FQ p f=b:=by
  have h':D4 f 0 (((p.length:Nat):Int)-1)=true:=h
  unfold FQ;rw[h',hb,Bool.true_and]
theorem Is {p:Prop}(h:p:=by first|exact At (L5 (Bc (by assumption))).symm|exact At (KB (AX (by assumption)) (by rw[A5 (show 1≤(p.getD f.toNat Fn.zero).params by omega),Bool.true_and])).symm|exact At (KB (AX (by assumption)) (by rw[A6 (show ¬1≤(p.getD f.toNat Fn.zero).params by omega),Bool.false_and])).symm):p:=h
theorem Fc {p:Prop}(h:p:=by simp[Ch,Ci]):p:=h
theorem Em (w:World)(dp:Nat)(vp:Value)(p:List Fn)(f:Int)(hp:RN [] (rP (Iv dp)) w.heap vp p)(_hf:BF f)(hz:G0 p) :
  Calls Try.prog 78 #[vp,zI f] w (fun e w'=>e=.returned (.bool (FQ p f))∧Az w w'):=by
 refine Aw [vp,zI f] 43 Try.func78 Z Z sM ?_
 have a0:Az w w:=Az.refl w
 refine La Z<|A0<|L9 [0,0,0,0,2,0,0,0,0] Z<|Ag 2 Z<|AF (hp.isPtr) Z Aa ?_
 obtain⟨cs1,ab,a2⟩:=RN.at (Bo _) hp
 obtain⟨a1,rfl,a3⟩:=RPr.of ab
 have a5:=a3.lenle
 unfold maxLen at a5
 refine Av (p:=vp) 0 AO Z (a2 _<|AG.of_ext [] a0) Aa<|Al (p:=Ar vp 0) (.inr Z) a1 B7 Z ((a2 _<|AG.of_ext [] a0).ld (i:=0) Fc) Aa<|AS (v:=a1) C1 Z a3.isSl Aa<|CE ((p.length:Int)-1) Z Z (Dy oM oM) Aa<|AJ 79 [] [] [zI f,zI ((0:Nat):Int),zI ((p.length:Int)-1)] Z Z DB Aa (.bool (decide (((0:Nat):Int)≤f) && decide (f≤((p.length:Int)-1)))) (fun wq=>AY wq _ _ _ _hf oM oM)<|AZ (!(decide (((0:Nat):Int)≤f) && decide (f≤((p.length:Int)-1)))) Z Z Aa<|Ai ?_
 cases a7:(!(decide (((0:Nat):Int)≤f) && decide (f≤((p.length:Int)-1))))
 ·refine Ak (by first|rfl|exact zW a7)<|A2<|A0<|Bd _ [0,0,0,1,0,0,0,1,0,0,0,0,0,1,0,0,0,1,0,0,0,0,1,0,0,0,1,0,0,0] mixed (by kernel_rfl) ?_
  have ad:=Dd (AX (by assumption):(decide (((0:Nat):Int)≤f) && decide (f≤(p.length:Int)-1))=true)
  refine Ag 1 Z<|AF (hp.isPtr) Z Aa<|Av (p:=vp) 0 AO Z (a2 _<|AG.of_ext [] a0.drew) Aa<|Al (p:=Ar vp 0) (.inl Z) a1 B7 Z ((a2 _<|AG.of_ext [] a0.drew).ld (i:=0) Fc) Aa<|Ag 1 Z<|AN (v:=a1) ((f).toNat) C1 B4 Z Z a3.isSl oM sD Aa ?_
  obtain⟨cs4,ac,a4⟩:=a3.get (Aq dp) Fn.zero (k:=(f).toNat) sD
  obtain⟨a8,rfl,a9⟩:=RF.of ac
  have a6:=a9.rn.lenle
  unfold maxLen at a6
  refine Av (p:=AE a1 ((f).toNat) 3) 1 Bh Z (a4 _<|AG.of_ext [] a0.drew) Aa<|Al (p:=Ar (AE a1 ((f).toNat) 3) 1) (.inl Z) (zI<|(p.getD ((f).toNat) Fn.zero).params) AT Z ((a4 _<|AG.of_ext [] a0.drew).ld (i:=1) Fc) Aa ?_
  by_cases aa:((1:Nat):Int)≤(p.getD ((f).toNat) Fn.zero).params
  ·refine Cp true Z Z (A5 aa) Aa<|Ag 2 Z<|AF (hp.isPtr) Z (Ae (e:=23) Z Z Z)<|Av (p:=vp) 0 AO Z (a2 _<|AG.of_ext [] a0.drew) (Ae (e:=23) Z Z Z)<|Al (p:=Ar vp 0) (.inl Z) a1 B7 Z ((a2 _<|AG.of_ext [] a0.drew).ld (i:=0) Fc) (Ae (e:=23) Z Z Z)<|Ag 1 Z ?_
   refine AN (v:=a1) ((f).toNat) C1 B4 Z Z a3.isSl oM sD (Ae (e:=23) Z Z Z)<|Av (p:=AE a1 ((f).toNat) 3) 2 B2 Z (a4 _<|AG.of_ext [] a0.drew) (Ae (e:=23) Z Z Z)<|Al (p:=Ar (AE a1 ((f).toNat) 3) 2) (.inl Z) a8 AU Z ((a4 _<|AG.of_ext [] a0.drew).ld (i:=2) Fc) (Ae (e:=23) Z Z Z)<|AS (v:=a8) Bw Z a9.rn.isSl (Ae (e:=23) Z Z Z)<|Ag 1 Z ?_
   refine AF (hp.isPtr) Z (Ae (e:=23) Z Z Z)<|Av (p:=vp) 0 AO Z (a2 _<|AG.of_ext [] a0.drew) (Ae (e:=23) Z Z Z)<|Al (p:=Ar vp 0) (.inl Z) a1 B7 Z ((a2 _<|AG.of_ext [] a0.drew).ld (i:=0) Fc) (Ae (e:=23) Z Z Z)<|Ag 1 Z<|AN (v:=a1) ((f).toNat) C1 B4 Z Z a3.isSl oM sD (Ae (e:=23) Z Z Z) ?_
   refine Av (p:=AE a1 ((f).toNat) 3) 1 Bh Z (a4 _<|AG.of_ext [] a0.drew) (Ae (e:=23) Z Z Z)<|Al (p:=Ar (AE a1 ((f).toNat) 3) 1) (.inl Z) (zI<|(p.getD ((f).toNat) Fn.zero).params) AT Z ((a4 _<|AG.of_ext [] a0.drew).ld (i:=1) Fc) (Ae (e:=23) Z Z Z)<|AH (decide (((((p.getD ((f).toNat) Fn.zero).outs).length:Nat):Int)=(p.getD ((f).toNat) Fn.zero).params)) Z Z Z (Ae (e:=23) Z Z Z)<|Ac 2 Z<|A1 ?_
   exact Af [4] Z (.bool<|decide (((((p.getD ((f).toNat) Fn.zero).outs).length:Nat):Int)=(p.getD ((f).toNat) Fn.zero).params)) Z ⟨Is,a0.drew⟩
  exact Cp false Z Z (A6 aa) Aa<|Ac 21 Z<|A1<|Af [4] Z (.bool false) Z ⟨Is,a0.drew⟩
 exact Ah (by first|rfl|exact zW a7)<|La Z<|A1<|Am<|Af [4] Z (.bool false) Z ⟨Is,a0⟩
theorem Ft (w:World)(dex:Nat)(ve:Value)(ex:Ex)(hex:RN [] (rP (DL dex)) w.heap ve ex)(hs:ex.size≤2000000) :
  Calls Try.prog 119 #[ve] w (fun e w'=>∃v,e=.returned (.agg #[zI ex.kind,zI ex.num,zI ex.pick,zI ex.count,v])∧Az w w'∧Fr (Be 5 (BR 46 (dex-1)) 46) w.heap.size w'.heap.size w'.heap v ex.kids∧Iu ex∧1≤dex):=by
 induction dex using Nat.strongRecOn generalizing w ve ex
 rename_i dex ih
 refine Aw [ve] 44 Try.func119 Z Z sM ?_
 have bg:Az w w:=Az.refl w
 have hsk:=Bv ex
 have hsg:=BW ex.kids 0
 refine L9 [3] Z (AI (z:=.agg #[zI 0,zI 0,zI 0,zI 0,zN]) DC Aa fun w1 ay bp aw=>?_)
 have az:=ay.size
 have ad:=bg.trans ay
 replace aw:BX w1.heap w.heap.size [zI 0,zI 0,zI 0,zI 0,zN]:=aw
 refine Ai<|A0<|Bd _ [0,0,0,1,0,0,0,1,0,0,0,1,0,0,0,1,0,3,4] mixed (by kernel_rfl)<|Ag 1 Z<|AF (hex.isPtr) Z Aa ?_
 obtain⟨cs2,bq,ab⟩:=RN.at (AB _) hex
 obtain⟨dd2,al,c7,rfl,an⟩:=RX.of bq
 have ao:=an.rn.lenle
 unfold maxLen at ao
 refine Av (p:=ve) 0 BH Z (ab _<|AG.of_ext [] ad.drew) Aa<|Al (p:=Ar ve 0) (.inl Z) (zI ex.kind) AT Z ((ab _<|AG.of_ext [] ad.drew).ld (i:=0) (by simp[Ch,Ci])) Aa<|Ag 1 Z<|AF (hex.isPtr) Z Aa<|Av (p:=ve) 1 Bx Z (ab _<|AG.of_ext [] ad.drew) Aa<|Al (p:=Ar ve 1) (.inl Z) (zI ex.num) AT Z ((ab _<|AG.of_ext [] ad.drew).ld (i:=1) (by simp[Ch,Ci])) Aa<|Ag 1 Z<|AF (hex.isPtr) Z Aa<|Av (p:=ve) 2 Cy Z (ab _<|AG.of_ext [] ad.drew) Aa<|Al (p:=Ar ve 2) (.inl Z) (zI ex.pick) AT Z ((ab _<|AG.of_ext [] ad.drew).ld (i:=2) (by simp[Ch,Ci])) Aa<|Ag 1 Z<|AF (hex.isPtr) Z Aa ?_
 refine Av (p:=ve) 3 C2 Z (ab _<|AG.of_ext [] ad.drew) Aa<|Al (p:=Ar ve 3) (.inl Z) (zI ex.count) AT Z ((ab _<|AG.of_ext [] ad.drew).ld (i:=3) (by simp[Ch,Ci])) Aa ?_
 have b0:∀(wq:World),(Instr.build 46 #[(0,zI ex.kind),(1,zI ex.num),(2,zI ex.pick),(3,zI ex.count)]).run Try.prog wq=.ok (.agg #[zI ex.kind,zI ex.num,zI ex.pick,zI ex.count,zN]) wq:=by intro wq;kernel_rfl
 refine Bb (ps:=#[(0,zI ex.kind),(1,zI ex.num),(2,zI ex.pick),(3,zI ex.count)]) (.agg #[zI ex.kind,zI ex.num,zI ex.pick,zI ex.count,zN]) (by simp only[zc,zf,zh];rfl) (fun wq=>b0  wq) Aa ?_
 have c8:=aw.lt
 have br:w1.drew.heap.size=w1.heap.size:=rfl
 refine AI (z:=.agg #[zI 0,zI 0,zI 0,zI 0,zN]) DC Aa fun w4 am bs b1=>?_
 replace am:=am.of_drew
 have b2:=am.size
 have b3:=ad.trans am
 have ap:=aw.ext am
 replace b1:BX w4.heap w1.drew.heap.size [zI 0,zI 0,zI 0,zI 0,zN]:=b1
 refine AP (vs:=[zI ex.kind,zI ex.num,zI ex.pick,zI ex.count,zN]) B8 Z Z (by intro u hu;simp only[ze,z2,or_false]at hu;rcases hu with rfl|rfl|rfl|rfl|rfl <;> first|exact⟨rfl,rfl⟩) b1 Z Z Aa fun w6 ax bt b4=>?_
 replace b4:BX w6.heap w1.drew.heap.size [zI ex.kind,zI ex.num,zI ex.pick,zI ex.count,zN]:=b4
 have bu:w4.heap.size≤w6.heap.size:=ax.size
 have bv:Az w w6:=ax.below b3 (fun _ h=>zE h) b3.size
 have bh:=ap.chg ax (zB ·)
 refine Ai<|A0<|L9 [0] Z ?_
 have hrg:Iu ex:=an.rng
 have hdx:1≤dex:=by omega
 refine Ac 1 Z<|A3 ?_
 refine AW (S:=Nat×Value) (fun⟨i,vk⟩=>([(4,zI (i:Int)),(0,ve),(2,zP w.heap.size),(3,zP w1.drew.heap.size)])) (fun⟨i,vk⟩ W=>Az w W∧Fr (Be 5 (BR 46 (dex-1)) 46) w6.heap.size W.heap.size W.heap vk (ex.kids.take i)∧BX W.heap w.heap.size [zI 0,zI 0,zI 0,zI 0,zN]∧BX W.heap w1.drew.heap.size [zI ex.kind,zI ex.num,zI ex.pick,zI ex.count,vk]∧i≤ex.kids.length∧w.heap.size<w6.heap.size∧w1.drew.heap.size<w6.heap.size∧w6.heap.size≤W.heap.size) (fun⟨i,vk⟩=>ex.kids.length-i) (0,zN) ⟨rfl,rfl,rfl,rfl,trivial⟩ ⟨bv,(BT _ 0 _).up<|Ad<|An 46 (dex-1),bh,b4,oM,oM,oM,oM⟩ ?_
 clear bg bp ay az ad ao bs am b2 b3 bt ax bh
 rintro⟨i,vk⟩ ρ10 c6 ⟨a1,a3,a4,a0,b5,bw,bx,bi⟩
 have bj:w.heap.size≤c6.heap.size:=a1.size
 have bz:=a4.lt
 have c0:=a0.lt
 refine A0<|L9 [0,0,0,0,2,0,0] Z<|Ag 2 Z<|AF (hex.isPtr) Z Aa<|Av (p:=ve) 4 B5 Z (ab _<|AG.of_ext [] a1) Aa<|Al (p:=Ar ve 4) (.inr Z) al AU Z ((ab _<|AG.of_ext [] a1).ld (i:=4) (by simp[Ch,Ci])) Aa<|AS (v:=al) Bw Z an.rn.isSl Aa ?_
 by_cases aq:(i:Int)<(ex.kids.length:Int)
 ·refine AA true Z Z (A5 aq) Aa<|Ai<|Ah Z<|A2<|A0<|A3<|Bd _ [0,1,0,0,0,1,0,0,3,3,4,0,4] mixed (by kernel_rfl)<|Ao (p:=zP w1.drew.heap.size) 4 B5 Z Z Aa<|Al (p:=Ar (zP w1.drew.heap.size) 4) (.inl Z) vk AU Z (a0.ldp (i:=4) sM) Aa<|Ag 1 Z<|AF (hex.isPtr) Z Aa<|Av (p:=ve) 4 B5 Z (ab _<|AG.of_ext [] a1.drew) Aa<|Al (p:=Ar ve 4) (.inl Z) al AU Z ((ab _<|AG.of_ext [] a1.drew).ld (i:=4) (by simp[Ch,Ci])) Aa<|Ag 1 Z ?_
  refine AN (v:=al) i Bw B1 Z Z an.rn.isSl Z sD Aa ?_
  have hsa:=Da (l:=ex.kids) (k:=i) oM
  refine As 119 [] [] [AE al i 5] Z Z J4 Aa (ih dd2 oM _ (AE al i 5) (ex.kids.getD i Ex.zero) (RN.ptr (AB dd2) (by decide) Ex.zero (an.rn.ext (Ax<|AB dd2) a1.drew) sD) oM) ?_
  rintro cg ch ⟨cd,rfl,a2,ah,b6,c1⟩
  refine⟨_,rfl,a2,?_⟩
  replace a2:=a2.of_drew
  have bk:=a2.size
  have b7:=a1.trans a2
  have a5:=a3.ext (Ad<|An 46 (dex-1)) a2
  have a6:=a4.ext a2
  have a7:=a0.ext a2
  replace ah:=ah.low (B':=c6.heap.size)<|A7 _
  refine Ce (cs:=[zI<|(ex.kids.getD i Ex.zero).kind,zI<|(ex.kids.getD i Ex.zero).num,zI<|(ex.kids.getD i Ex.zero).pick,zI<|(ex.kids.getD i Ex.zero).count,cd]) (y:=ex.kids.getD i Ex.zero) (B:=c6.heap.size) (An 46 (dex-1)) Bw B1 Z (by decide) Z (Ds.le (Ds.mk1 oM b6 ah) oM) oM Aa fun ce cf ac c2 b8=>?_
  have bl:=ac.size
  have ar:=b7.trans ac
  have a8:=a5.ext (Ad<|An 46 (dex-1)) ac
  have a9:=a6.ext ac
  have aa:=a7.ext ac
  refine Cn (v:=vk) (a:=ce) (An 46 (dex-1)) Bw B1 Z (by decide) Z Z a8 oM b8 oM oM (by rw[List.length_take];omega) (by rw[List.length_take];unfold maxLen;omega) Aa fun cc c9 ci ae ai au=>?_
  have bm:cf.heap.size≤c9.heap.size:=ae.size
  have av:Az w c9:=ae.below ar (fun c hc=>zH<|ai _ hc) ar.size
  have b9:=a9.chg ae fun hm=>zH<|ai _ hm
  have ba:=aa.chg ae fun hm=>zH<|ai _ hm
  refine Ao (p:=zP w1.drew.heap.size) 4 B5 Z Z Aa (Bm (k:=4) (w:=c9) E1 Z Z (AM au.isSlS) ba sM Aa fun ca af c3 aj=>?_)
  replace aj:BX ca.heap w1.drew.heap.size [zI ex.kind,zI ex.num,zI ex.pick,zI ex.count,cc]:=aj
  have bn:c9.heap.size≤ca.heap.size:=af.size
  have bb:Az w ca:=af.below av (fun _ h=>zE h) av.size
  have bc:=b9.chg af (zB ·)
  have bd:=au.chg (Ad<|An 46 (dex-1)) af fun c hc=>zH<|A9 hc
  exact Ai<|Ab _ [0,0,0] Z<|Ag 1 Z<|AQ ((i+1:Nat):Int) Z Z (Bn oM oM) Aa<|Ac 1 Z ⟨(i+1,cc),_,rfl,zR,⟨bb,(by rw[Cv Ex.zero oM];exact bd.up (Ad<|An 46 (dex-1))),bc,aj,oM,oM,oM,oM⟩,zD⟩
 refine AA false Z Z (A6 aq) Aa<|Ai<|Ak Z<|A4<|AD<|AD<|Ay<|L9 [2,4] Z<|Au (p:=zP w1.drew.heap.size) (.inr Z) [zI ex.kind,zI ex.num,zI ex.pick,zI ex.count,vk] B8 Z (fun cj c4=>LD.of_box<|BX.ext (w:=c6) a0 c4) Z Aa (AP (vs:=[zI ex.kind,zI ex.num,zI ex.pick,zI ex.count,vk]) B8 Z Z (by intro u hu;simp only[ze,z2,or_false]at hu;rcases hu with rfl|rfl|rfl|rfl|rfl <;> first|exact⟨rfl,rfl⟩|exact AM a3.isSlS) a4 Z Z Aa fun cb ag c5 ak=>?_)
 replace ak:BX cb.heap w.heap.size [zI ex.kind,zI ex.num,zI ex.pick,zI ex.count,vk]:=ak
 have bo:c6.heap.size≤cb.heap.size:=ag.size
 have be:Az w cb:=ag.below a1 (fun _ h=>zE h) a1.size
 have bf:=a3.chg (Ad<|An 46 (dex-1)) ag fun c hc=>zH<|A9 hc
 exact Ai<|A1<|C4 (cs:=[zI ex.kind,zI ex.num,zI ex.pick,zI ex.count,vk]) Z B8 Z ak Z ⟨vk,rfl,be,(by have h:=((bf.up<|Ad<|An 46 (dex-1)).low (B':=w.heap.size) oM);rwa [za oM]at h),hrg,hdx⟩
theorem DT {p:Prop}(h:p:=by simp[Ch,Ci]):p:=h
theorem Dg (w:World)(dp:Nat)(vp:Value)(p:List Fn)(hp:RN [] (rP (Iv dp)) w.heap vp p)(hz:G0 p)(hpl:p.length≤1000000) :
  Calls Try.prog 80 #[vp] w (fun e w'=>∃v,e=.returned (.agg #[v])∧Az w w'∧Fr (Be 3 (CU 46 dp) 49) w.heap.size w'.heap.size w'.heap v p):=by
 refine Aw [vp] 70 Try.func80 Z Z sM ?_
 have d2:Az w w:=Az.refl w
 refine L9 [3] Z (AI (z:=.agg #[zN]) DD Aa fun w1 c2 dn bz=>?_)
 have c3:=c2.size
 have d3:=d2.trans c2
 replace bz:BX w1.heap w.heap.size [zN]:=bz
 refine Ai<|L9 [0,3,4] Z ?_
 have c4:∀(wq:World),(Instr.build 52 #[]).run Try.prog wq=.ok (.agg #[zN]) wq:=by intro wq;kernel_rfl
 refine Bb (ps:=#[]) (.agg #[zN]) (by simp only[zc,zf,zh]) (fun wq=>c4  wq) Aa ?_
 have ec:=bz.lt
 refine AI (z:=.agg #[zN]) DD Aa fun w3 c0 dq c5=>?_
 have c6:=c0.size
 have c7:=d3.trans c0
 have bk:=bz.ext c0
 replace c5:BX w3.heap w1.heap.size [zN]:=c5
 refine AP (vs:=[zN]) AL Z Z (by intro u hu;simp only[ze,z2,or_false]at hu;rcases hu with rfl <;> first|exact⟨rfl,rfl⟩) c5 Z Z Aa fun w5 c1 dr c8=>?_
 replace c8:BX w5.heap w1.heap.size [zN]:=c8
 have ds:w3.heap.size≤w5.heap.size:=c1.size
 have dt:Az w w5:=c1.below c7 (fun _ h=>zE h) c7.size
 have d4:=bk.chg c1 (zB ·)
 refine Ai<|A0<|La Z<|A3<|AW (S:=Nat×Value) (fun⟨i,vq⟩=>([(4,zI (i:Int)),(0,vp),(2,zP w.heap.size),(3,zP w1.heap.size)])) (fun⟨i,vq⟩ W=>Az w W∧Fr (Be 3 (CU 46 dp) 49) w5.heap.size W.heap.size W.heap vq (p.take i)∧BX W.heap w.heap.size [zN]∧BX W.heap w1.heap.size [vq]∧i≤p.length∧w.heap.size<w5.heap.size∧w1.heap.size<w5.heap.size∧w5.heap.size≤W.heap.size) (fun⟨i,vq⟩=>p.length-i) (0,zN) ⟨rfl,rfl,rfl,rfl,trivial⟩ ⟨dt,(BT _ 0 _).up<|Ad<|Aj 46 dp,d4,c8,oM,oM,oM,oM⟩ ?_
 clear d2 dn c2 c3 d3 dq c0 c6 c7 dr c1 d4
 rintro⟨i,vq⟩ ρ9 w9 ⟨ag,ah,a7,a5,d5,du,dv,d6⟩
 have dw:w.heap.size≤w9.heap.size:=ag.size
 have dx:=a7.lt
 have dy:=a5.lt
 refine A0<|L9 [0,0,0,0,2,0,0] Z<|Ag 2 Z<|AF (hp.isPtr) Z Aa ?_
 obtain⟨cs13,c9,a3⟩:=RN.at (Bo _) hp
 obtain⟨a0,rfl,ad⟩:=RPr.of c9
 have bb:=ad.lenle
 unfold maxLen at bb
 refine Av (p:=vp) 0 AO Z (a3 _<|AG.of_ext [] ag) Aa<|Al (p:=Ar vp 0) (.inr Z) a0 B7 Z ((a3 _<|AG.of_ext [] ag).ld (i:=0) DT) Aa<|AS (v:=a0) C1 Z ad.isSl Aa ?_
 by_cases bl:(i:Int)<(p.length:Int)
 ·refine AA true Z Z (A5 bl) Aa<|Ai<|Ah Z<|A2<|A0<|A3<|A0<|Bd _ [0,0,0,1,0,0,0,1,0,0,0,1,0,0,0,1,0,3,4] mixed (by kernel_rfl)<|Ag 1 Z<|AF (hp.isPtr) Z Aa<|Av (p:=vp) 0 AO Z (a3 _<|AG.of_ext [] ag.drew) Aa<|Al (p:=Ar vp 0) (.inl Z) a0 B7 Z ((a3 _<|AG.of_ext [] ag.drew).ld (i:=0) DT) Aa<|Ag 1 Z ?_
  refine AN (v:=a0) i C1 B4 Z Z ad.isSl Z sD Aa ?_
  obtain⟨cs15,ca,a8⟩:=ad.get (Aq dp) Fn.zero (k:=i) sD
  obtain⟨ai,rfl,b3⟩:=RF.of ca
  have bc:=b3.rn.lenle
  unfold maxLen at bc
  refine Av (p:=AE a0 i 3) 0 BS Z (a8 _<|AG.of_ext [] ag.drew) Aa<|Al (p:=Ar (AE a0 i 3) 0) (.inl Z) (.string<|(p.getD i Fn.zero).name) Dq Z ((a8 _<|AG.of_ext [] ag.drew).ld (i:=0) DT) Aa<|Ag 1 Z<|AF (hp.isPtr) Z Aa<|Av (p:=vp) 0 AO Z (a3 _<|AG.of_ext [] ag.drew) Aa<|Al (p:=Ar vp 0) (.inl Z) a0 B7 Z ((a3 _<|AG.of_ext [] ag.drew).ld (i:=0) DT) Aa<|Ag 1 Z ?_
  refine AN (v:=a0) i C1 B4 Z Z ad.isSl Z sD Aa<|Av (p:=AE a0 i 3) 1 Bh Z (a8 _<|AG.of_ext [] ag.drew) Aa<|Al (p:=Ar (AE a0 i 3) 1) (.inl Z) (zI<|(p.getD i Fn.zero).params) AT Z ((a8 _<|AG.of_ext [] ag.drew).ld (i:=1) DT) Aa ?_
  have bm:∀(wq:World),(Instr.build 49 #[(0,.string ((p.getD i Fn.zero).name)),(1,zI ((p.getD i Fn.zero).params))]).run Try.prog wq=.ok (.agg #[.string ((p.getD i Fn.zero).name),zI ((p.getD i Fn.zero).params),zN]) wq:=by intro wq;kernel_rfl
  refine Bb (ps:=#[(0,.string<|(p.getD i Fn.zero).name),(1,zI<|(p.getD i Fn.zero).params)]) (.agg #[.string<|(p.getD i Fn.zero).name,zI<|(p.getD i Fn.zero).params,zN]) (by simp only[zc,zf,zh];rfl) (fun wq=>bm  wq) Aa ?_
  have dz:=a7.lt
  have e0:=a5.lt
  have d7:w9.drew.heap.size=w9.heap.size:=rfl
  refine AI (z:=.agg #[.string ByteArray.empty,zI 0,zN]) Fg Aa fun eg a9 cb bd=>?_
  replace a9:=a9.of_drew
  have bn:=a9.size
  have be:=ag.trans a9
  have aa:=ah.ext (Ad<|Aj 46 dp) a9
  have ab:=a7.ext a9
  have ac:=a5.ext a9
  replace bd:BX eg.heap w9.drew.heap.size [.string ByteArray.empty,zI 0,zN]:=bd
  refine AP (vs:=[.string<|(p.getD i Fn.zero).name,zI<|(p.getD i Fn.zero).params,zN]) BO Z Z (by intro u hu;simp only[ze,z2,or_false]at hu;rcases hu with rfl|rfl|rfl <;> first|exact⟨rfl,rfl⟩) bd Z Z Aa fun b2 aj cc bf=>?_
  replace bf:BX b2.heap w9.drew.heap.size [.string ((p.getD i Fn.zero).name),zI ((p.getD i Fn.zero).params),zN]:=bf
  have d8:eg.heap.size≤b2.heap.size:=aj.size
  have cd:Az w b2:=aj.below be (fun _ h=>zE h) be.size
  have bo:=aa.chg (Ad<|Aj 46 dp) aj fun _ h=>zA h
  have bp:=ab.chg aj (zB ·)
  have bq:=ac.chg aj (zB ·)
  refine Ai<|A0<|La Z<|A3 ?_
  refine AW (S:=Nat×Value) (fun⟨k,vo⟩=>([(6,zI (k:Int)),(0,vp),(2,zP w.heap.size),(3,zP w1.heap.size),(4,zI (i:Int)),(5,zP w9.drew.heap.size)])) (fun⟨k,vo⟩ W=>Az w W∧Fr (Be 5 (BR 46 dp) 46) b2.heap.size W.heap.size W.heap vo ((p.getD i Fn.zero).outs.take k)∧Fr (Be 3 (CU 46 dp) 49) w5.heap.size w9.heap.size W.heap vq (p.take i)∧BX W.heap w.heap.size [zN]∧BX W.heap w1.heap.size [vq]∧BX W.heap w9.drew.heap.size [.string<|(p.getD i Fn.zero).name,zI<|(p.getD i Fn.zero).params,vo]∧k≤(p.getD i Fn.zero).outs.length∧w9.heap.size≤b2.heap.size∧w9.heap.size≤w9.drew.heap.size∧w.heap.size≤w5.heap.size∧w.heap.size<b2.heap.size∧w1.heap.size<b2.heap.size∧w9.drew.heap.size<b2.heap.size∧b2.heap.size≤W.heap.size∧w5.heap.size≤W.heap.size) (fun⟨k,vo⟩=>(p.getD i Fn.zero).outs.length-k) (0,zN) ⟨rfl,rfl,rfl,rfl,rfl,rfl,trivial⟩ ⟨cd,(BT _ 0 _).up<|Ad<|An 46 dp,bo,bp,bq,bf,oM,oM,oM,oM,oM,oM,oM,oM,oM⟩ ?_
  clear a5 a7 ah bb bc cb a9 bn be aa ab ac cc aj bo bp bq
  rintro⟨k,vo⟩ ρ27 cw ⟨a1,b4,b5,ae,a6,a2,ce,huw,huf,hwb,d9,da,db,dc,dd⟩
  have de:w.heap.size≤cw.heap.size:=a1.size
  have e1:=ae.lt
  have e2:=a6.lt
  have e3:=a2.lt
  refine A0<|L9 [0,0,0,0,2,0,0,0,2,0,0] Z<|Ag 2 Z<|AF (hp.isPtr) Z Aa<|Av (p:=vp) 0 AO Z (a3 _<|AG.of_ext [] a1) Aa<|Al (p:=Ar vp 0) (.inr Z) a0 B7 Z ((a3 _<|AG.of_ext [] a1).ld (i:=0) DT) Aa<|Ag 1 Z<|AN (v:=a0) i C1 B4 Z Z ad.isSl Z sD Aa ?_
  refine Av (p:=AE a0 i 3) 2 B2 Z (a8 _<|AG.of_ext [] a1) Aa<|Al (p:=Ar (AE a0 i 3) 2) (.inr Z) ai AU Z ((a8 _<|AG.of_ext [] a1).ld (i:=2) DT) Aa ?_
  have hzi:=hz i oM
  refine AS (v:=ai) Bw Z b3.rn.isSl Aa ?_
  by_cases br:(k:Int)<((((p.getD i Fn.zero).outs).length:Nat):Int)
  ·refine AA true Z Z (A5 br) Aa<|Ai<|Ah Z<|A2<|A0<|A3<|Bd _ [0,1,0,0,0,1,0,0,0,1,0,0,3,3,4,0,4] mixed (by kernel_rfl)<|Ao (p:=zP w9.drew.heap.size) 2 B2 Z Z Aa<|Al (p:=Ar (zP w9.drew.heap.size) 2) (.inl Z) vo AU Z (a2.ldp (i:=2) sM) Aa<|Ag 1 Z<|AF (hp.isPtr) Z Aa<|Av (p:=vp) 0 AO Z (a3 _<|AG.of_ext [] a1.drew) Aa<|Al (p:=Ar vp 0) (.inl Z) a0 B7 Z ((a3 _<|AG.of_ext [] a1.drew).ld (i:=0) DT) Aa<|Ag 1 Z ?_
   refine AN (v:=a0) i C1 B4 Z Z ad.isSl Z sD Aa<|Av (p:=AE a0 i 3) 2 B2 Z (a8 _<|AG.of_ext [] a1.drew) Aa<|Al (p:=Ar (AE a0 i 3) 2) (.inl Z) ai AU Z ((a8 _<|AG.of_ext [] a1.drew).ld (i:=2) DT) Aa<|Ag 1 Z ?_
   refine AN (v:=ai) k Bw B1 Z Z b3.rn.isSl Z sD Aa ?_
   have hzi:=hz i oM
   have hsa:=Da (l:=(p.getD i Fn.zero).outs) (k:=k) oM
   refine As 119 [] [] [AE ai k 5] Z Z J4 Aa (Ft _ dp (AE ai k 5) (((p.getD i Fn.zero).outs).getD k Ex.zero) (RN.ptr (AB dp) (by decide) Ex.zero (b3.rn.ext (Ax<|AB dp) a1.drew) sD) oM) ?_
   rintro ep er ⟨ej,rfl,a4,bg,cf,e4⟩
   refine⟨_,rfl,a4,?_⟩
   replace a4:=a4.of_drew
   have df:=a4.size
   have cg:=a1.trans a4
   have ak:=b4.ext (Ad<|An 46 dp) a4
   have al:=b5.ext (Ad<|Aj 46 dp) a4
   have am:=ae.ext a4
   have an:=a6.ext a4
   have ao:=a2.ext a4
   replace bg:=bg.low (B':=cw.heap.size)<|A7 _
   refine Ce (cs:=[zI<|(((p.getD i Fn.zero).outs).getD k Ex.zero).kind,zI<|(((p.getD i Fn.zero).outs).getD k Ex.zero).num,zI<|(((p.getD i Fn.zero).outs).getD k Ex.zero).pick,zI<|(((p.getD i Fn.zero).outs).getD k Ex.zero).count,ej]) (y:=((p.getD i Fn.zero).outs).getD k Ex.zero) (B:=cw.heap.size) (An 46 dp) Bw B1 Z (by decide) Z (Ds.mk1 oM cf bg) oM Aa fun ek el af e5 ch=>?_
   have dg:=af.size
   have bs:=cg.trans af
   have ap:=ak.ext (Ad<|An 46 dp) af
   have aq:=al.ext (Ad<|Aj 46 dp) af
   have ar:=am.ext af
   have au:=an.ext af
   have av:=ao.ext af
   refine Cn (v:=vo) (a:=ek) (An 46 dp) Bw B1 Z (by decide) Z Z ap oM ch oM oM (by rw[List.length_take];omega) (by rw[List.length_take];unfold maxLen;omega) Aa fun eh e9 es aw b6 bt=>?_
   have dh:el.heap.size≤e9.heap.size:=aw.size
   have bu:Az w e9:=aw.below bs (fun c hc=>zH<|b6 _ hc) bs.size
   have ci:=aq.chg (Ad<|Aj 46 dp) aw fun c hc=>zH<|b6 _ hc
   have cj:=ar.chg aw fun hm=>zH<|b6 _ hm
   have ck:=au.chg aw fun hm=>zH<|b6 _ hm
   have cl:=av.chg aw fun hm=>zH<|b6 _ hm
   refine Ao (p:=zP w9.drew.heap.size) 2 B2 Z Z Aa (Bm (k:=2) (w:=e9) E1 Z Z (AM bt.isSlS) cl sM Aa fun ed ax e6 bh=>?_)
   replace bh:BX ed.heap w9.drew.heap.size [.string ((p.getD i Fn.zero).name),zI ((p.getD i Fn.zero).params),eh]:=bh
   have di:e9.heap.size≤ed.heap.size:=ax.size
   have cm:Az w ed:=ax.below bu (fun _ h=>zE h) bu.size
   have cn:=ci.chg (Ad<|Aj 46 dp) ax fun _ h=>zA h
   have co:=cj.chg ax (zB ·)
   have cp:=ck.chg ax (zB ·)
   have cq:=bt.chg (Ad<|An 46 dp) ax fun _ h=>zA h
   exact Ai<|Ab _ [0,0,0] Z<|Ag 1 Z<|AQ ((k+1:Nat):Int) Z Z (Bn oM oM) Aa<|Ac 1 Z ⟨(k+1,eh),_,rfl,zR,⟨cm,(by rw[Cv Ex.zero oM];exact cq.up (Ad<|An 46 dp)),cn,co,cp,bh,oM,oM,oM,oM,oM,oM,oM,oM,oM⟩,zD⟩
  refine AA false Z Z (A6 br) Aa<|Ai<|Ak Z<|A4<|AD<|AD<|Ay<|Ab _ [0,2,2,3,4,0,4] Z<|Ao (p:=zP w1.heap.size) 0 AO Z Z Aa<|Al (p:=Ar (zP w1.heap.size) 0) (.inr Z) vq B7 Z (a6.ldp (i:=0) sM) Aa<|Au (p:=zP w9.drew.heap.size) (.inr Z) [.string<|(p.getD i Fn.zero).name,zI<|(p.getD i Fn.zero).params,vo] BO Z (fun em cr=>LD.of_box<|BX.ext (w:=cw) a2 cr) Z Aa ?_
  refine Ce (cs:=[.string<|(p.getD i Fn.zero).name,zI<|(p.getD i Fn.zero).params,vo]) (y:=Fn.mk ((p.getD i Fn.zero).name) ((p.getD i Fn.zero).params)<|(p.getD i Fn.zero).outs.take k) (B:=b2.heap.size) (Aj 46 dp) C1 B4 Z (by decide) Z (Ds.mkF (x:=⟨(p.getD i Fn.zero).name,(p.getD i Fn.zero).params,(p.getD i Fn.zero).outs.take k⟩) (EU (a:=(p.getD i Fn.zero).params) b3.rng) b4) oM Aa fun en eo ay e7 ct=>?_
  have dj:=ay.size
  have bv:=a1.trans ay
  have az:=b5.ext (Ad<|Aj 46 dp) ay
  have b0:=ae.ext ay
  have b1:=a6.ext ay
  refine Cn (v:=vq) (a:=en) (Aj 46 dp) C1 B4 Z (by decide) Z Z az oM ct oM oM (by rw[List.length_take];omega) (by rw[List.length_take];unfold maxLen;omega) Aa fun ei eb et b7 b9 bw=>?_
  have dk:eo.heap.size≤eb.heap.size:=b7.size
  have bx:Az w eb:=b7.below bv (fun c hc=>zH<|b9 _ hc) bv.size
  have cu:=b0.chg b7 fun hm=>zH<|b9 _ hm
  have cv:=b1.chg b7 fun hm=>zH<|b9 _ hm
  refine Ao (p:=zP w1.heap.size) 0 AO Z Z Aa (Bm (k:=0) (w:=eb) Hs Z Z (AM bw.isSlS) cv sM Aa fun ee b8 e8 bi=>?_)
  replace bi:BX ee.heap w1.heap.size [ei]:=bi
  have dl:eb.heap.size≤ee.heap.size:=b8.size
  have cx:Az w ee:=b8.below bx (fun _ h=>zE h) bx.size
  have cy:=cu.chg b8 (zB ·)
  have cz:=bw.chg (Ad<|Aj 46 dp) b8 fun _ h=>zA h
  exact Ai<|Ab _ [0,0,0] Z<|Ag 1 Z<|AQ ((i+1:Nat):Int) Z Z (Bn oM oM) Aa<|Ac 1 Z ⟨(i+1,ei),_,rfl,zR,⟨cx,(by have h:=cz.up (Ad<|Aj 46 dp);rw[show(p.getD i Fn.zero).outs.take k=(p.getD i Fn.zero).outs from za oM]at h;rw[Cv Fn.zero oM];exact h),cy,bi,oM,oM,oM,oM⟩,zD⟩
 refine AA false Z Z (A6 bl) Aa<|Ai<|Ak Z<|A4<|AD<|AD<|Ay<|L9 [2,4] Z<|Au (p:=zP w1.heap.size) (.inr Z) [vq] AL Z (fun em cr=>LD.of_box<|BX.ext (w:=w9) a5 cr) Z Aa (AP (vs:=[vq]) AL Z Z (by intro u hu;simp only[ze,z2,or_false]at hu;rcases hu with rfl <;> first|exact⟨rfl,rfl⟩|exact AM ah.isSlS) a7 Z Z Aa fun ef ba ea bj=>?_)
 replace bj:BX ef.heap w.heap.size [vq]:=bj
 have dm:w9.heap.size≤ef.heap.size:=ba.size
 have d0:Az w ef:=ba.below ag (fun _ h=>zE h) ag.size
 have d1:=ah.chg (Ad<|Aj 46 dp) ba fun _ h=>zA h
 exact Ai<|A1<|C4 (cs:=[vq]) Z AL Z bj Z ⟨vq,rfl,d0,(by have h:=((d1.up<|Ad<|Aj 46 dp).low (B':=w.heap.size) oM);rwa [za oM]at h)⟩
theorem Ds.mk2 {e:TypeId}{d B U:Nat}{H:Array Obj}{v:Value}{x:Ex}(hr:Iu x)(h:Fr (Be 5 (BR e d) e) B U H v x.kids):Ds (BR e (d+1)) B U H (Ch x v) x:=Ds.mk1 zO hr h
theorem E9 (w:World)(dex:Nat)(ve:Value)(ex:Ex)(hex:RX [] dex w.heap ve ex)(hs:ex.size≤2000000) :
  Calls Try.prog 123 #[(.agg #[(zI ex.kind),(zI ex.num),(zI ex.pick),(zI ex.count),ve])] w (fun e w'=>∃v,e=.returned (.agg #[zI ex.kind,zI ex.num,zI ex.pick,zI ex.count,v])∧Az w w'∧Fr (Be 5 (BR 46 dex) 46) w.heap.size w'.heap.size w'.heap v ex.kids∧Iu ex):=by
 induction dex using Nat.strongRecOn generalizing w ve ex
 rename_i dex ih
 refine Aw [.agg #[zI ex.kind,zI ex.num,zI ex.pick,zI ex.count,ve]] 24 Try.func123 Z Z sM ?_
 have bu:Az w w:=Az.refl w
 have al:=hex.rn.lenle
 unfold maxLen at al
 have hsk:=Bv ex
 have hsg:=BW ex.kids 0
 refine L9 [3,3] Z (Bf (cs:=#[zI ex.kind,zI ex.num,zI ex.pick,zI ex.count,ve]) Z Aa fun w1 b9 c6 b6=>?_)
 have ba:=b9.size
 have bv:=bu.trans b9
 replace b6:BX w1.heap w.heap.size [zI ex.kind,zI ex.num,zI ex.pick,zI ex.count,ve]:=b6
 have cr:=b6.lt
 refine AI (z:=.agg #[zI 0,zI 0,zI 0,zI 0,zN]) DC Aa fun w2 b7 c7 bb=>?_
 have bc:=b7.size
 have bd:=bv.trans b7
 have ao:=b6.ext b7
 replace bb:BX w2.heap w1.heap.size [zI 0,zI 0,zI 0,zI 0,zN]:=bb
 refine Ai<|L9 [0,2,0] Z<|Ao (p:=zP w.heap.size) 4 B5 Z Z Aa<|Al (p:=Ar (zP w.heap.size) 4) (.inr Z) ve AU Z (ao.ldp (i:=4) sM) Aa<|Ac 1 Z<|L9 [0,4] Z<|Ao (p:=zP w.heap.size) 4 B5 Z Z Aa (Bm (k:=4) (w:=w2) E1 Z Z ⟨rfl,rfl⟩ ao sM Aa fun w4 b8 c8 be=>?_)
 replace be:BX w4.heap w.heap.size [zI ex.kind,zI ex.num,zI ex.pick,zI ex.count,zN]:=be
 have c9:w2.heap.size≤w4.heap.size:=b8.size
 have ca:Az w w4:=b8.below bd (fun _ h=>zE h) bd.size
 have bw:=bb.chg b8 (zB ·)
 refine Ai<|A0<|L9 [0,0,0] Z<|Ag 1 Z<|AS (v:=ve) Bw Z hex.rn.isSl Aa<|Ac 1 Z<|A3 ?_
 refine AW (S:=Nat×Value) (fun⟨i,vk⟩=>([(11,zI (i:Int)),(1,zP w.heap.size),(2,zP w1.heap.size),(9,ve),(10,zI (ex.kids.length:Int))])) (fun⟨i,vk⟩ W=>Az w W∧Fr (Be 5 (BR 46 dex) 46) w4.heap.size W.heap.size W.heap vk (ex.kids.take i)∧BX W.heap w.heap.size [zI ex.kind,zI ex.num,zI ex.pick,zI ex.count,vk]∧BX W.heap w1.heap.size [zI 0,zI 0,zI 0,zI 0,zN]∧i≤ex.kids.length∧w.heap.size<w4.heap.size∧w1.heap.size<w4.heap.size∧w4.heap.size≤W.heap.size) (fun⟨i,vk⟩=>ex.kids.length-i) (0,zN) ⟨rfl,rfl,rfl,rfl,rfl,trivial⟩ ⟨ca,(BT _ 0 _).up<|Ad<|An 46 dex,be,bw,oM,oM,oM,oM⟩ ?_
 clear bu c6 b9 ba bv c7 b7 bc bd c8 b8 bw
 rintro⟨i,vk⟩ ρ8 w8 ⟨aw,a5,a1,a2,bx,cb,cc,cd⟩
 have ce:w.heap.size≤w8.heap.size:=aw.size
 have cf:=a1.lt
 have cg:=a2.lt
 refine L9 [0] Z ?_
 by_cases ax:(i:Int)<(ex.kids.length:Int)
 ·refine AA true Z Z (A5 ax) Aa<|Ai<|A0<|Ah Z<|A2<|A0<|A3<|L9 [0,2,3,4] Z<|AN (v:=ve) i Bw B1 Z Z hex.rn.isSl Z sD Aa ?_
  obtain⟨cs13,bf,bg⟩:=hex.rn.get (AB dex) Ex.zero (k:=i) sD
  obtain⟨dd13,a3,ch,rfl,ap⟩:=RX.of bf
  have ay:=ap.rn.lenle
  unfold maxLen at ay
  refine Au (p:=AE ve i 5) (.inr Z) [zI<|(ex.kids.getD i Ex.zero).kind,zI<|(ex.kids.getD i Ex.zero).num,zI<|(ex.kids.getD i Ex.zero).pick,zI<|(ex.kids.getD i Ex.zero).count,a3] B8 Z (fun co az=>bg co<|AG.of_ext []<|aw.trans az) Z Aa ?_
  have ci:=a1.lt
  have cj:=a2.lt
  refine AI (z:=.agg #[zI 0,zI 0,zI 0,zI 0,zN]) DC Aa fun cu a6 ck aq=>?_
  have bz:=a6.size
  have b0:=aw.trans a6
  have a7:=a5.ext (Ad<|An 46 dex) a6
  have a8:=a1.ext a6
  have a9:=a2.ext a6
  replace aq:BX cu.heap w8.heap.size [zI 0,zI 0,zI 0,zI 0,zN]:=aq
  refine AP (vs:=[zI<|(ex.kids.getD i Ex.zero).kind,zI<|(ex.kids.getD i Ex.zero).num,zI<|(ex.kids.getD i Ex.zero).pick,zI<|(ex.kids.getD i Ex.zero).count,a3]) B8 Z Z ap.ones aq Z Z Aa fun ah aa cl ad=>?_
  replace ad:BX ah.heap w8.heap.size [zI ((ex.kids.getD i Ex.zero).kind),zI ((ex.kids.getD i Ex.zero).num),zI ((ex.kids.getD i Ex.zero).pick),zI ((ex.kids.getD i Ex.zero).count),a3]:=ad
  have c0:cu.heap.size≤ah.heap.size:=aa.size
  have b1:Az w ah:=aa.below b0 (fun _ h=>zE h) b0.size
  have bh:=a7.chg (Ad<|An 46 dex) aa fun _ h=>zA h
  have b2:=a8.chg aa (zB ·)
  have bi:=a9.chg aa (zB ·)
  refine Ai<|Bd _ [0,1,1,3,3,4,0,4] mixed (by kernel_rfl) ?_
  have hsa:=Da (l:=ex.kids) (k:=i) oM
  refine Ao (p:=zP w.heap.size) 4 B5 Z Z Aa<|Al (p:=Ar (zP w.heap.size) 4) (.inl Z) vk AU Z (b2.ldp (i:=4) sM) Aa<|Au (p:=zP w8.heap.size) (.inl Z) [zI<|(ex.kids.getD i Ex.zero).kind,zI<|(ex.kids.getD i Ex.zero).num,zI<|(ex.kids.getD i Ex.zero).pick,zI<|(ex.kids.getD i Ex.zero).count,a3] B8 Z (fun co az=>LD.of_box<|BX.ext (w:=ah.drew) ad az) Z Aa ?_
  refine As 123 [] [] [.agg #[zI<|(ex.kids.getD i Ex.zero).kind,zI<|(ex.kids.getD i Ex.zero).num,zI<|(ex.kids.getD i Ex.zero).pick,zI<|(ex.kids.getD i Ex.zero).count,a3]] Z Z J5 Aa (ih dd13 oM _ a3 (ex.kids.getD i Ex.zero) (ap.ext b1.drew) oM) ?_
  rintro cz d0 ⟨cw,rfl,a0,ar,bj⟩
  refine⟨_,rfl,a0,?_⟩
  replace a0:=a0.of_drew
  have c1:=a0.size
  have bk:=b1.trans a0
  have ae:=bh.ext (Ad<|An 46 dex) a0
  have af:=b2.ext a0
  have ag:=bi.ext a0
  replace ar:=ar.low (B':=ah.heap.size)<|A7 _
  refine Ce (cs:=[zI<|(ex.kids.getD i Ex.zero).kind,zI<|(ex.kids.getD i Ex.zero).num,zI<|(ex.kids.getD i Ex.zero).pick,zI<|(ex.kids.getD i Ex.zero).count,cw]) (y:=ex.kids.getD i Ex.zero) (B:=ah.heap.size) (An 46 dex) Bw B1 Z (by decide) Z (Ds.le (Ds.mk2 bj ar) oM) oM Aa fun cx cy a4 cm bl=>?_
  have c2:=a4.size
  have b3:=bk.trans a4
  have ai:=ae.ext (Ad<|An 46 dex) a4
  have aj:=af.ext a4
  have ak:=ag.ext a4
  refine Cn (v:=vk) (a:=cx) (An 46 dex) Bw B1 Z (by decide) Z Z ai oM bl oM oM (by rw[List.length_take];omega) (by rw[List.length_take];unfold maxLen;omega) Aa fun cv bo d1 ab am b4=>?_
  have c3:cy.heap.size≤bo.heap.size:=ab.size
  have b5:Az w bo:=ab.below b3 (fun c hc=>zH<|am _ hc) b3.size
  have bm:=aj.chg ab fun hm=>zH<|am _ hm
  have bn:=ak.chg ab fun hm=>zH<|am _ hm
  refine Ao (p:=zP w.heap.size) 4 B5 Z Z Aa (Bm (k:=4) (w:=bo) E1 Z Z (AM b4.isSlS) bm sM Aa fun cq ac cn au=>?_)
  replace au:BX cq.heap w.heap.size [zI ex.kind,zI ex.num,zI ex.pick,zI ex.count,cv]:=au
  have c4:bo.heap.size≤cq.heap.size:=ac.size
  have bp:Az w cq:=ac.below b5 (fun _ h=>zE h) b5.size
  have bq:=bn.chg ac (zB ·)
  have br:=b4.chg (Ad<|An 46 dex) ac fun _ h=>zA h
  exact Ai<|Ab _ [0,0] Z<|AQ ((i+1:Nat):Int) Z Z (Bn oM oM) Aa<|Ac 1 Z ⟨(i+1,cv),_,rfl,zR,⟨bp,(by rw[Cv Ex.zero oM];exact br.up (Ad<|An 46 dex)),au,bq,oM,oM,oM,oM⟩,zD⟩
 refine AA false Z Z (A6 ax) Aa<|Ai<|A0<|Ak Z<|A4<|AD<|AD<|Ay<|L9 [2,4] Z<|Au (p:=zP w.heap.size) (.inr Z) [zI ex.kind,zI ex.num,zI ex.pick,zI ex.count,vk] B8 Z (fun co az=>LD.of_box<|BX.ext (w:=w8) a1 az) Z Aa (AP (vs:=[zI ex.kind,zI ex.num,zI ex.pick,zI ex.count,vk]) B8 Z Z (by intro u hu;simp only[ze,z2,or_false]at hu;rcases hu with rfl|rfl|rfl|rfl|rfl <;> first|exact⟨rfl,rfl⟩|exact AM a5.isSlS) a2 Z Z Aa fun ct an cp av=>?_)
 replace av:BX ct.heap w1.heap.size [zI ex.kind,zI ex.num,zI ex.pick,zI ex.count,vk]:=av
 have c5:w8.heap.size≤ct.heap.size:=an.size
 have bs:Az w ct:=an.below aw (fun _ h=>zE h) aw.size
 have bt:=a5.chg (Ad<|An 46 dex) an fun _ h=>zA h
 exact Ai<|A1<|C4 (cs:=[zI ex.kind,zI ex.num,zI ex.pick,zI ex.count,vk]) Z B8 Z av Z ⟨vk,rfl,bs,(by have h:=((bt.up<|Ad<|An 46 dex).low (B':=w.heap.size) oM);rwa [za oM]at h),hex.rng⟩
theorem Cr (w:World)(dp:Nat)(vp:Value)(p:List Fn)(hp:RP [] dp w.heap vp p)(hz:G0 p)(hpl:p.length≤1000000) :
  Calls Try.prog 87 #[(.agg #[vp])] w (fun e w'=>∃v,e=.returned (.agg #[v])∧Az w w'∧Fr (Be 3 (CU 46 dp) 49) w.heap.size w'.heap.size w'.heap v p):=by
 refine Aw [.agg #[vp]] 45 Try.func87 Z Z sM ?_
 have ec:Az w w:=Az.refl w
 have f0:=hp.lenle
 unfold maxLen at f0
 refine L9 [3,3] Z (Bf (cs:=#[vp]) Z Aa fun w1 d1 g1 cy=>?_)
 have d2:=d1.size
 have ed:=ec.trans d1
 replace cy:BX w1.heap w.heap.size [vp]:=cy
 have gv:=cy.lt
 refine AI (z:=.agg #[zN]) DD Aa fun w2 cz g2 d0=>?_
 have d3:=cz.size
 have ee:=ed.trans cz
 have bq:=cy.ext cz
 replace d0:BX w2.heap w1.heap.size [zN]:=d0
 refine Ai<|L9 [0,3,4] Z ?_
 have d4:∀(wq:World),(Instr.build 52 #[]).run Try.prog wq=.ok (.agg #[zN]) wq:=by intro wq;kernel_rfl
 refine Bb (ps:=#[]) (.agg #[zN]) (by simp only[zc,zf,zh]) (fun wq=>d4  wq) Aa ?_
 have gw:=bq.lt
 have gx:=d0.lt
 refine AI (z:=.agg #[zN]) DD Aa fun w5 c6 g3 d5=>?_
 have d6:=c6.size
 have d7:=ee.trans c6
 have c7:=bq.ext c6
 have c8:=d0.ext c6
 replace d5:BX w5.heap w2.heap.size [zN]:=d5
 refine AP (vs:=[zN]) AL Z Z (by intro u hu;simp only[ze,z2,or_false]at hu;rcases hu with rfl <;> first|exact⟨rfl,rfl⟩) d5 Z Z Aa fun w8 c9 g4 d8=>?_
 replace d8:BX w8.heap w2.heap.size [zN]:=d8
 have g5:w5.heap.size≤w8.heap.size:=c9.size
 have g6:Az w w8:=c9.below d7 (fun _ h=>zE h) d7.size
 have ef:=c7.chg c9 (zB ·)
 have ca:=c8.chg c9 (zB ·)
 refine Ai<|A0<|L9 [0,2,0,0] Z<|Ao (p:=zP w.heap.size) 0 AO Z Z Aa<|Al (p:=Ar (zP w.heap.size) 0) (.inr Z) vp B7 Z (ef.ldp (i:=0) sM) Aa<|AS (v:=vp) C1 Z hp.isSl Aa<|Ac 1 Z<|A3 ?_
 refine AW (S:=Nat×Value) (fun⟨i,vq⟩=>([(13,zI (i:Int)),(2,zP w1.heap.size),(3,zP w2.heap.size),(11,vp),(12,zI (p.length:Int))])) (fun⟨i,vq⟩ W=>Az w W∧Fr (Be 3 (CU 46 dp) 49) w8.heap.size W.heap.size W.heap vq (p.take i)∧BX W.heap w1.heap.size [zN]∧BX W.heap w2.heap.size [vq]∧i≤p.length∧w1.heap.size<w8.heap.size∧w2.heap.size<w8.heap.size∧w8.heap.size≤W.heap.size) (fun⟨i,vq⟩=>p.length-i) (0,zN) ⟨rfl,rfl,rfl,rfl,rfl,trivial⟩ ⟨g6,(BT _ 0 _).up<|Ad<|Aj 46 dp,ca,d8,oM,oM,oM,oM⟩ ?_
 clear ec g1 d1 d2 ed g2 cz d3 ee g3 c6 d6 d7 g4 c9 ef ca
 rintro⟨i,vq⟩ ρ13 b2 ⟨b3,a8,a1,a0,d9,eg,eh,ei⟩
 have ej:w.heap.size≤b2.heap.size:=b3.size
 have g7:=a1.lt
 have g8:=a0.lt
 refine L9 [0] Z ?_
 by_cases cb:(i:Int)<(p.length:Int)
 ·refine AA true Z Z (A5 cb) Aa<|Ai<|A0<|Ah Z<|A2<|A0<|A3<|L9 [0,2,3,4] Z<|AN (v:=vp) i C1 B4 Z Z hp.isSl Z sD Aa ?_
  obtain⟨cs18,da,db⟩:=hp.get (Aq dp) Fn.zero (k:=i) sD
  obtain⟨aa,rfl,al⟩:=RF.of da
  have br:=al.rn.lenle
  unfold maxLen at br
  refine Au (p:=AE vp i 3) (.inr Z) [.string<|(p.getD i Fn.zero).name,zI<|(p.getD i Fn.zero).params,aa] BO Z (fun dx b8=>db dx<|AG.of_ext []<|b3.trans b8) Z Aa ?_
  have g9:=a1.lt
  have ga:=a0.lt
  refine AI (z:=.agg #[.string ByteArray.empty,zI 0,zN]) Fg Aa fun f7 am dc bs=>?_
  have cc:=am.size
  have bt:=b3.trans am
  have a5:=a8.ext (Ad<|Aj 46 dp) am
  have a6:=a1.ext am
  have a7:=a0.ext am
  replace bs:BX f7.heap b2.heap.size [.string ByteArray.empty,zI 0,zN]:=bs
  refine AP (vs:=[.string<|(p.getD i Fn.zero).name,zI<|(p.getD i Fn.zero).params,aa]) BO Z Z al.ones bs Z Z Aa fun bh an dd ao=>?_
  replace ao:BX bh.heap b2.heap.size [.string ((p.getD i Fn.zero).name),zI ((p.getD i Fn.zero).params),aa]:=ao
  have cd:f7.heap.size≤bh.heap.size:=an.size
  have ce:Az w bh:=an.below bt (fun _ h=>zE h) bt.size
  have cf:=a5.chg (Ad<|Aj 46 dp) an fun _ h=>zA h
  have bu:=a6.chg an (zB ·)
  have bv:=a7.chg an (zB ·)
  refine Ai<|L9 [0,2,0,2,0,3,4] Z<|Ao (p:=zP b2.heap.size) 0 BS Z Z Aa<|Al (p:=Ar (zP b2.heap.size) 0) (.inr Z) (.string<|(p.getD i Fn.zero).name) Dq Z (ao.ldp (i:=0) sM) Aa<|Ao (p:=zP b2.heap.size) 1 Bh Z Z Aa<|Al (p:=Ar (zP b2.heap.size) 1) (.inr Z) (zI<|(p.getD i Fn.zero).params) AT Z (ao.ldp (i:=1) sM) Aa ?_
  have cg:∀(wq:World),(Instr.build 49 #[(0,.string ((p.getD i Fn.zero).name)),(1,zI ((p.getD i Fn.zero).params))]).run Try.prog wq=.ok (.agg #[.string ((p.getD i Fn.zero).name),zI ((p.getD i Fn.zero).params),zN]) wq:=by intro wq;kernel_rfl
  refine Bb (ps:=#[(0,.string<|(p.getD i Fn.zero).name),(1,zI<|(p.getD i Fn.zero).params)]) (.agg #[.string<|(p.getD i Fn.zero).name,zI<|(p.getD i Fn.zero).params,zN]) (by simp only[zc,zf,zh];rfl) (fun wq=>cg  wq) Aa ?_
  have gb:=bu.lt
  have gc:=bv.lt
  have gd:=ao.lt
  refine AI (z:=.agg #[.string ByteArray.empty,zI 0,zN]) Fg Aa fun f8 ac de bw=>?_
  have ch:=ac.size
  have bx:=ce.trans ac
  have ai:=cf.ext (Ad<|Aj 46 dp) ac
  have aj:=bu.ext ac
  have ak:=bv.ext ac
  have b9:=ao.ext ac
  replace bw:BX f8.heap bh.heap.size [.string ByteArray.empty,zI 0,zN]:=bw
  refine AP (vs:=[.string<|(p.getD i Fn.zero).name,zI<|(p.getD i Fn.zero).params,zN]) BO Z Z (by intro u hu;simp only[ze,z2,or_false]at hu;rcases hu with rfl|rfl|rfl <;> first|exact⟨rfl,rfl⟩) bw Z Z Aa fun bn ad df bz=>?_
  replace bz:BX bn.heap bh.heap.size [.string ((p.getD i Fn.zero).name),zI ((p.getD i Fn.zero).params),zN]:=bz
  have ek:f8.heap.size≤bn.heap.size:=ad.size
  have dg:Az w bn:=ad.below bx (fun _ h=>zE h) bx.size
  have ci:=ai.chg (Ad<|Aj 46 dp) ad fun _ h=>zA h
  have cj:=aj.chg ad (zB ·)
  have ck:=ak.chg ad (zB ·)
  have cl:=b9.chg ad (zB ·)
  refine Ai<|A0<|L9 [0,2,0,0] Z<|Ao (p:=zP b2.heap.size) 2 B2 Z Z Aa<|Al (p:=Ar (zP b2.heap.size) 2) (.inr Z) aa AU Z (cl.ldp (i:=2) sM) Aa<|AS (v:=aa) Bw Z al.rn.isSl Aa<|Ac 1 Z<|A3 ?_
  refine AW (S:=Nat×Value) (fun⟨k,vo⟩=>([(25,zI (k:Int)),(2,zP w1.heap.size),(3,zP w2.heap.size),(6,zP bh.heap.size),(11,vp),(12,zI (p.length:Int)),(13,zI (i:Int)),(23,aa),(24,zI ((((p.getD i Fn.zero).outs).length:Nat):Int))])) (fun⟨k,vo⟩ W=>Az w W∧Fr (Be 5 (BR 46 dp) 46) bn.heap.size W.heap.size W.heap vo ((p.getD i Fn.zero).outs.take k)∧Fr (Be 3 (CU 46 dp) 49) w8.heap.size b2.heap.size W.heap vq (p.take i)∧BX W.heap w1.heap.size [zN]∧BX W.heap w2.heap.size [vq]∧BX W.heap bh.heap.size [.string<|(p.getD i Fn.zero).name,zI<|(p.getD i Fn.zero).params,vo]∧k≤(p.getD i Fn.zero).outs.length∧b2.heap.size≤bn.heap.size∧b2.heap.size≤bh.heap.size∧w.heap.size≤w8.heap.size∧w1.heap.size<bn.heap.size∧w2.heap.size<bn.heap.size∧bh.heap.size<bn.heap.size∧bn.heap.size≤W.heap.size∧w8.heap.size≤W.heap.size) (fun⟨k,vo⟩=>(p.getD i Fn.zero).outs.length-k) (0,zN) ⟨rfl,rfl,rfl,rfl,rfl,rfl,rfl,rfl,rfl,trivial⟩ ⟨dg,(BT _ 0 _).up<|Ad<|An 46 dp,ci,cj,ck,bz,oM,oM,oM,oM,oM,oM,oM,oM,oM⟩ ?_
  clear a0 a1 a8 br dc am cc bt a5 a6 a7 dd an cd ce cf bu bv de ac ch bx ai aj ak df ad ci cj ck cl
  rintro⟨k,vo⟩ ρ39 f1 ⟨ba,b4,b5,a9,a2,a3,dh,huw,huf,hwb,el,em,en,eo,ep⟩
  have eq:w.heap.size≤f1.heap.size:=ba.size
  have ge:=a9.lt
  have gf:=a2.lt
  have gg:=a3.lt
  refine L9 [0] Z ?_
  have hzi:=hz i oM
  by_cases cm:(k:Int)<((((p.getD i Fn.zero).outs).length:Nat):Int)
  ·refine AA true Z Z (A5 cm) Aa<|Ai<|A0<|Ah Z<|A2<|A0<|A3<|L9 [0,2,3,4] Z<|AN (v:=aa) k Bw B1 Z Z al.rn.isSl Z sD Aa ?_
   obtain⟨cs46,di,dj⟩:=al.rn.get (AB dp) Ex.zero (k:=k) sD
   obtain⟨dd46,ap,gh,rfl,c0⟩:=RX.of di
   have cn:=c0.rn.lenle
   unfold maxLen at cn
   refine Au (p:=AE aa k 5) (.inr Z) [zI<|(((p.getD i Fn.zero).outs).getD k Ex.zero).kind,zI<|(((p.getD i Fn.zero).outs).getD k Ex.zero).num,zI<|(((p.getD i Fn.zero).outs).getD k Ex.zero).pick,zI<|(((p.getD i Fn.zero).outs).getD k Ex.zero).count,ap] B8 Z (fun dx b8=>dj dx<|AG.of_ext []<|ba.trans b8) Z Aa ?_
   have gi:=a9.lt
   have gj:=a2.lt
   have gk:=a3.lt
   refine AI (z:=.agg #[zI 0,zI 0,zI 0,zI 0,zN]) DC Aa fun f9 ae gl c1=>?_
   have er:=ae.size
   have co:=ba.trans ae
   have aq:=b4.ext (Ad<|An 46 dp) ae
   have ar:=b5.ext (Ad<|Aj 46 dp) ae
   have au:=a9.ext ae
   have av:=a2.ext ae
   have aw:=a3.ext ae
   replace c1:BX f9.heap f1.heap.size [zI 0,zI 0,zI 0,zI 0,zN]:=c1
   refine AP (vs:=[zI<|(((p.getD i Fn.zero).outs).getD k Ex.zero).kind,zI<|(((p.getD i Fn.zero).outs).getD k Ex.zero).num,zI<|(((p.getD i Fn.zero).outs).getD k Ex.zero).pick,zI<|(((p.getD i Fn.zero).outs).getD k Ex.zero).count,ap]) B8 Z Z c0.ones c1 Z Z Aa fun e6 af gm bb=>?_
   replace bb:BX e6.heap f1.heap.size [zI ((((p.getD i Fn.zero).outs).getD k Ex.zero).kind),zI ((((p.getD i Fn.zero).outs).getD k Ex.zero).num),zI ((((p.getD i Fn.zero).outs).getD k Ex.zero).pick),zI ((((p.getD i Fn.zero).outs).getD k Ex.zero).count),ap]:=bb
   have es:f9.heap.size≤e6.heap.size:=af.size
   have cp:Az w e6:=af.below co (fun _ h=>zE h) co.size
   have dk:=aq.chg (Ad<|An 46 dp) af fun _ h=>zA h
   have dl:=ar.chg (Ad<|Aj 46 dp) af fun _ h=>zA h
   have dm:=au.chg af (zB ·)
   have dn:=av.chg af (zB ·)
   have cq:=aw.chg af (zB ·)
   refine Ai<|Bd _ [0,1,1,3,3,4,0,4] mixed (by kernel_rfl) ?_
   have hzi:=hz i oM
   have hsa:=Da (l:=(p.getD i Fn.zero).outs) (k:=k) oM
   refine Ao (p:=zP bh.heap.size) 2 B2 Z Z Aa<|Al (p:=Ar (zP bh.heap.size) 2) (.inl Z) vo AU Z (cq.ldp (i:=2) sM) Aa<|Au (p:=zP f1.heap.size) (.inl Z) [zI<|(((p.getD i Fn.zero).outs).getD k Ex.zero).kind,zI<|(((p.getD i Fn.zero).outs).getD k Ex.zero).num,zI<|(((p.getD i Fn.zero).outs).getD k Ex.zero).pick,zI<|(((p.getD i Fn.zero).outs).getD k Ex.zero).count,ap] B8 Z (fun dx b8=>LD.of_box<|BX.ext (w:=e6.drew) bb b8) Z Aa ?_
   refine As 123 [] [] [.agg #[zI<|(((p.getD i Fn.zero).outs).getD k Ex.zero).kind,zI<|(((p.getD i Fn.zero).outs).getD k Ex.zero).num,zI<|(((p.getD i Fn.zero).outs).getD k Ex.zero).pick,zI<|(((p.getD i Fn.zero).outs).getD k Ex.zero).count,ap]] Z Z J5 Aa (E9 _ dd46 ap (((p.getD i Fn.zero).outs).getD k Ex.zero) (c0.ext cp.drew) oM) ?_
   rintro fh fi ⟨fc,rfl,a4,c2,dq⟩
   refine⟨_,rfl,a4,?_⟩
   replace a4:=a4.of_drew
   have et:=a4.size
   have dr:=cp.trans a4
   have bc:=dk.ext (Ad<|An 46 dp) a4
   have bd:=dl.ext (Ad<|Aj 46 dp) a4
   have be:=dm.ext a4
   have bf:=dn.ext a4
   have bg:=cq.ext a4
   replace c2:=c2.low (B':=e6.heap.size)<|A7 _
   refine Ce (cs:=[zI<|(((p.getD i Fn.zero).outs).getD k Ex.zero).kind,zI<|(((p.getD i Fn.zero).outs).getD k Ex.zero).num,zI<|(((p.getD i Fn.zero).outs).getD k Ex.zero).pick,zI<|(((p.getD i Fn.zero).outs).getD k Ex.zero).count,fc]) (y:=((p.getD i Fn.zero).outs).getD k Ex.zero) (B:=e6.heap.size) (An 46 dp) Bw B1 Z (by decide) Z (Ds.le (Ds.mk2 dq c2) oM) oM Aa fun fd fe ab gn ds=>?_
   have eu:=ab.size
   have cr:=dr.trans ab
   have bi:=bc.ext (Ad<|An 46 dp) ab
   have bj:=bd.ext (Ad<|Aj 46 dp) ab
   have bk:=be.ext ab
   have bl:=bf.ext ab
   have bm:=bg.ext ab
   refine Cn (v:=vo) (a:=fd) (An 46 dp) Bw B1 Z (by decide) Z Z bi oM ds oM oM (by rw[List.length_take];omega) (by rw[List.length_take];unfold maxLen;omega) Aa fun fa f2 fj ag ax ct=>?_
   have ev:fe.heap.size≤f2.heap.size:=ag.size
   have cu:Az w f2:=ag.below cr (fun c hc=>zH<|ax _ hc) cr.size
   have dt:=bj.chg (Ad<|Aj 46 dp) ag fun c hc=>zH<|ax _ hc
   have du:=bk.chg ag fun hm=>zH<|ax _ hm
   have dv:=bl.chg ag fun hm=>zH<|ax _ hm
   have dw:=bm.chg ag fun hm=>zH<|ax _ hm
   refine Ao (p:=zP bh.heap.size) 2 B2 Z Z Aa (Bm (k:=2) (w:=f2) E1 Z Z (AM ct.isSlS) dw sM Aa fun f4 ah go c3=>?_)
   replace c3:BX f4.heap bh.heap.size [.string ((p.getD i Fn.zero).name),zI ((p.getD i Fn.zero).params),fa]:=c3
   have ew:f2.heap.size≤f4.heap.size:=ah.size
   have dy:Az w f4:=ah.below cu (fun _ h=>zE h) cu.size
   have dz:=dt.chg (Ad<|Aj 46 dp) ah fun _ h=>zA h
   have e0:=du.chg ah (zB ·)
   have e1:=dv.chg ah (zB ·)
   have e2:=ct.chg (Ad<|An 46 dp) ah fun _ h=>zA h
   exact Ai<|Ab _ [0,0] Z<|AQ ((k+1:Nat):Int) Z Z (Bn oM oM) Aa<|Ac 1 Z ⟨(k+1,fa),_,rfl,zR,⟨dy,(by rw[Cv Ex.zero oM];exact e2.up (Ad<|An 46 dp)),dz,e0,e1,c3,oM,oM,oM,oM,oM,oM,oM,oM,oM⟩,zD⟩
  refine AA false Z Z (A6 cm) Aa<|Ai<|A0<|Ak Z<|A4<|AD<|AD<|Ay<|Ab _ [0,2,2,3,4,0,4] Z<|Ao (p:=zP w2.heap.size) 0 AO Z Z Aa<|Al (p:=Ar (zP w2.heap.size) 0) (.inr Z) vq B7 Z (a2.ldp (i:=0) sM) Aa<|Au (p:=zP bh.heap.size) (.inr Z) [.string<|(p.getD i Fn.zero).name,zI<|(p.getD i Fn.zero).params,vo] BO Z (fun dx b8=>LD.of_box<|BX.ext (w:=f1) a3 b8) Z Aa ?_
  refine Ce (cs:=[.string<|(p.getD i Fn.zero).name,zI<|(p.getD i Fn.zero).params,vo]) (y:=Fn.mk ((p.getD i Fn.zero).name) ((p.getD i Fn.zero).params)<|(p.getD i Fn.zero).outs.take k) (B:=bn.heap.size) (Aj 46 dp) C1 B4 Z (by decide) Z (Ds.mkF (x:=⟨(p.getD i Fn.zero).name,(p.getD i Fn.zero).params,(p.getD i Fn.zero).outs.take k⟩) (EU (a:=(p.getD i Fn.zero).params) al.rng) b4) oM Aa fun ff fg ay gq e3=>?_
  have ex:=ay.size
  have cv:=ba.trans ay
  have az:=b5.ext (Ad<|Aj 46 dp) ay
  have b0:=a9.ext ay
  have b1:=a2.ext ay
  refine Cn (v:=vq) (a:=ff) (Aj 46 dp) C1 B4 Z (by decide) Z Z az oM e3 oM oM (by rw[List.length_take];omega) (by rw[List.length_take];unfold maxLen;omega) Aa fun fb f3 fk b6 bo cw=>?_
  have ey:fg.heap.size≤f3.heap.size:=b6.size
  have cx:Az w f3:=b6.below cv (fun c hc=>zH<|bo _ hc) cv.size
  have e4:=b0.chg b6 fun hm=>zH<|bo _ hm
  have e5:=b1.chg b6 fun hm=>zH<|bo _ hm
  refine Ao (p:=zP w2.heap.size) 0 AO Z Z Aa (Bm (k:=0) (w:=f3) Hs Z Z (AM cw.isSlS) e5 sM Aa fun f5 b7 gr c4=>?_)
  replace c4:BX f5.heap w2.heap.size [fb]:=c4
  have ez:f3.heap.size≤f5.heap.size:=b7.size
  have e7:Az w f5:=b7.below cx (fun _ h=>zE h) cx.size
  have e8:=e4.chg b7 (zB ·)
  have e9:=cw.chg (Ad<|Aj 46 dp) b7 fun _ h=>zA h
  exact Ai<|Ab _ [0,0] Z<|AQ ((i+1:Nat):Int) Z Z (Bn oM oM) Aa<|Ac 1 Z ⟨(i+1,fb),_,rfl,zR,⟨e7,(by have h:=e9.up (Ad<|Aj 46 dp);rw[show(p.getD i Fn.zero).outs.take k=(p.getD i Fn.zero).outs from za oM]at h;rw[Cv Fn.zero oM];exact h),e8,c4,oM,oM,oM,oM⟩,zD⟩
 refine AA false Z Z (A6 cb) Aa<|Ai<|A0<|Ak Z<|A4<|AD<|AD<|Ay<|L9 [2,4] Z<|Au (p:=zP w2.heap.size) (.inr Z) [vq] AL Z (fun dx b8=>LD.of_box<|BX.ext (w:=b2) a0 b8) Z Aa (AP (vs:=[vq]) AL Z Z (by intro u hu;simp only[ze,z2,or_false]at hu;rcases hu with rfl <;> first|exact⟨rfl,rfl⟩|exact AM a8.isSlS) a1 Z Z Aa fun f6 bp gt c5=>?_)
 replace c5:BX f6.heap w1.heap.size [vq]:=c5
 have g0:b2.heap.size≤f6.heap.size:=bp.size
 have ea:Az w f6:=bp.below b3 (fun _ h=>zE h) b3.size
 have eb:=a8.chg (Ad<|Aj 46 dp) bp fun _ h=>zA h
 exact Ai<|A1<|C4 (cs:=[vq]) Z AL Z c5 Z ⟨vq,rfl,ea,(by have h:=((eb.up<|Ad<|Aj 46 dp).low (B':=w.heap.size) oM);rwa [za oM]at h)⟩
theorem CY (w:World)(n:Int)(_hn:BF n)  :
  Calls Try.prog 86 #[zI n] w (fun e w'=>e=.returned (.agg #[zI 2,zI n,zI 0,zI 0,zN])∧Az w w'):=by
 refine Aw [zI n] 5 Try.func86 Z Z sM ?_
 have a6:Az w w:=Az.refl w
 refine L9 [3] Z (AI (z:=.agg #[zI 0,zI 0,zI 0,zI 0,zN]) DC Aa fun w1 a3 aa a0=>?_)
 have a7:=a3.size
 have a4:=a6.trans a3
 replace a0:BX w1.heap w.heap.size [zI 0,zI 0,zI 0,zI 0,zN]:=a0
 refine Ai<|L9 [0,0,4] Z<|Ag 1 Z ?_
 have a1:∀(wq:World),(Instr.build 46 #[(0,zI ((2:Nat):Int)),(1,zI n)]).run Try.prog wq=.ok (.agg #[zI ((2:Nat):Int),zI n,zI 0,zI 0,zN]) wq:=by intro wq;kernel_rfl
 refine Bb (ps:=#[(0,zI ((2:Nat):Int)),(1,zI n)]) (.agg #[zI ((2:Nat):Int),zI n,zI 0,zI 0,zN]) (by simp only[zc,zf,zh];rfl) (fun wq=>a1  wq) Aa (AP (vs:=[zI ((2:Nat):Int),zI n,zI 0,zI 0,zN]) B8 Z Z (by intro u hu;simp only[ze,z2,or_false]at hu;rcases hu with rfl|rfl|rfl|rfl|rfl <;> first|exact⟨rfl,rfl⟩) a0 Z Z Aa fun w3 a5 ab a2=>?_)
 replace a2:BX w3.heap w.heap.size [zI ((2:Nat):Int),zI n,zI 0,zI 0,zN]:=a2
 have a8:w1.heap.size≤w3.heap.size:=a5.size
 have a9:Az w w3:=a5.below a4 (fun _ h=>zE h) a4.size
 exact Ai<|A1<|C4 (cs:=[zI ((2:Nat):Int),zI n,zI 0,zI 0,zN]) Z B8 Z a2 Z ⟨rfl,a9⟩
theorem CF (w:World)(dx:Nat)(vo:Value)(x:Fn)(hx:RF [] dx w.heap vo x)  :
  Calls Try.prog 85 #[(.agg #[(.string x.name),(zI x.params),vo])] w (fun e w'=>e=.returned (.bool (BM x.name (⟨#[108,111,111,112]⟩:ByteArray)))∧Az w w'):=by
 refine Aw [.agg #[.string x.name,zI x.params,vo]] 6 Try.func85 Z Z sM ?_
 have a2:Az w w:=Az.refl w
 have a6:=hx.rn.lenle
 unfold maxLen at a6
 refine L9 [3,0] Z (Bf (cs:=#[.string x.name,zI x.params,vo]) Z Aa fun w1 a1 a5 a0=>?_)
 have a3:=a1.size
 have a4:=a2.trans a1
 replace a0:BX w1.heap w.heap.size [.string x.name,zI x.params,vo]:=a0
 exact Ac 1 Z<|L9 [0,2,0,0] Z<|Ao (p:=zP w.heap.size) 0 BS Z Z Aa<|Al (p:=Ar (zP w.heap.size) 0) (.inr Z) (.string x.name) Dq Z (a0.ldp (i:=0) sM) Aa<|DY (BM x.name<|⟨#[108,111,111,112]⟩) u9 Z Z Z Aa<|Ac 1 Z<|A1<|Af [2] Z (.bool<|BM x.name<|⟨#[108,111,111,112]⟩) Z ⟨rfl,a4⟩
theorem Jl {p:Prop}(h:p:=by intro u hu;simp only[ze,z2,or_false]at hu;rcases hu with rfl|rfl|rfl|rfl|rfl <;> first|exact⟨rfl,rfl⟩):p:=h
theorem Jm {p:Prop}(h:p:=by intro u hu;simp only[ze,z2,or_false]at hu;rcases hu with rfl|rfl|rfl <;> first|exact⟨rfl,rfl⟩):p:=h
theorem CZ {p:Prop}(h:p:=by intro u hu;simp only[ze,z2,or_false]at hu;rcases hu with rfl <;> first|exact⟨rfl,rfl⟩):p:=h
theorem Fd {p:Prop}(h:p:=by simp only[zc,zf,zh];rfl):p:=h
theorem D0 {p:Prop}(h:p:=by simp only[zc,zf,zh]):p:=h
theorem D1 {p:Prop}(h:p:=by rw[Jf (by rw[hcd];omega)];exact BT _ _ _):p:=h
theorem Ap {p:Prop}(h:p:=by assumption):p:=h
theorem CP {p:Prop}(h:p:=by decide):p:=h
theorem D2 (w:World)(dp:Nat)(vp:Value)(p:List Fn)(f:Int)(n:Int)(hp:RP [] dp w.heap vp p)(_hf:BF f)(_hn:BF n)(hz:G0 p)(hdp:2≤dp) :
  Calls Try.prog 33 #[(.agg #[vp]),zI f,zI n] w (fun e w'=>∃v,e=.returned (.tuple #[.agg #[v],zI (CH p f n)])∧Az w w'∧Fr (Be 3 (CU 46 dp) 49) w.heap.size w'.heap.size w'.heap v (EW p f n)):=by
 refine Aw [.agg #[vp],zI f,zI n] 86 Try.func33 Z Z sM ?_
 have m1:Az w w:=Az.refl w
 have fp:=hp.lenle
 unfold maxLen at fp
 refine L9 [3,3,0] Z (Bf (cs:=#[vp]) Z Aa fun w1 lw oj lx=>?_)
 have jc:=lw.size
 have m2:=m1.trans lw
 replace lx:BX w1.heap w.heap.size [vp]:=lx
 have rm:=lx.lt
 refine AI (z:=.agg #[zN]) DD Aa fun w2 jd ol m3=>?_
 have je:=jd.size
 have ly:=m2.trans jd
 have gp:=lx.ext jd
 replace m3:BX w2.heap w1.heap.size [zN]:=m3
 refine Ac 1 Z<|L9 [2,0,3,0] Z ?_
 have jf:RN [] (Do (Do rI)) w2.heap zN ([]:List Sr):=IT
 have m4:IC zN:=A7 _
 refine Au (p:=zP w.heap.size) (.inr Z) [vp] AL Z (fun f1 b1=>LD.of_box<|BX.ext (w:=w2) gp b1) Z Aa<|Ag 1 Z<|As 82 [] [] [.agg #[vp],zI f,zN] Z Z KU Aa (E8 _ dp vp (p) _ zN ([]:List Sr) (hp.ext (Ax<|Aq dp) ly) _hf jf m4 hz) ?_
 rintro e5 w5 ⟨rfl,gq⟩
 refine⟨_,rfl,gq,?_⟩
 have jg:=gq.size
 have ed:=ly.trans gq
 have ak:=gp.ext gq
 have bx:=m3.ext gq
 refine Ac 1 Z<|A0<|L9 [0,0,0,0,0,0,0] Z ?_
 have hcr:=GS p f []
 refine Ag 1 Z ?_
 by_cases om:D5 p f ([]:List Sr)=((0:Nat):Int)
 ·refine AH true Z Z (A5 om) Aa<|Ag 2 Z<|AJ 83 [] [] [zI n,zI ((0:Nat):Int),zI ((8:Nat):Int)] Z Z Ek (Ae (e:=19) Z Z Z) (.bool (decide (((0:Nat):Int)≤n) && decide (n≤((8:Nat):Int)))) (fun wq=>B3 wq _ _ _ _hn oM oM)<|AZ (!(decide (((0:Nat):Int)≤n) && decide (n≤((8:Nat):Int)))) Z Z (Ae (e:=19) Z Z Z)<|Ac 1 Z ?_
  cases on:(!(decide (((0:Nat):Int)≤n) && decide (n≤((8:Nat):Int))))
  ·refine Ak (by first|rfl|exact zW on)<|A2<|A0<|L9 [0,0] Z<|Ag 1 Z ?_
   by_cases jh:D5 p f ([]:List Sr)≠((0:Nat):Int)
   ·refine AR true Z Z (A5 jh) Aa<|Ai<|Ah Z<|L9 [0,0,4,0] Z ?_
    have ji:∀(wq:World),(Instr.build 52 #[]).run Try.prog wq=.ok (.agg #[zN]) wq:=by intro wq;kernel_rfl
    refine Bb (ps:=#[]) (.agg #[zN]) D0 (fun wq=>ji  wq) Aa<|Ag 1 Z (AP (vs:=[zN]) AL Z Z CZ bx Z Z Aa fun k7 ie qv ig=>?_)
    replace ig:BX k7.heap w1.heap.size [zN]:=ig
    have oo:w5.heap.size≤k7.heap.size:=ie.size
    have m5:Az w k7:=ie.below ed (fun _ h=>zE h) ed.size
    refine Ac 1 Z<|A1<|Am ?_
    have hcd:CH p f n=D5 p f ([]:List Sr):=by first|exact Cq a0 Ap|exact BD a0 Ap (Bc Ap)|exact BD a0 Ap Ap|exact BL a0 Ap (AX Ap)|exact BL a0 Ap Ap|exact Bz oM (Bc Ap)|exact By oM
    exact Bk (t0:=7) (ts:=[]) (cs:=[zN]) [zI<|D5 p f ([]:List Sr)] Z AL Z ig Z Z ⟨_,by rw[hcd],m5,D1⟩
   refine AR false Z Z (A6 jh) Aa<|Ai<|Ak Z<|A2<|A0<|L9 [0,2,3] Z ?_
   have a0:Fm p f n=0:=by first|exact Ig oM (AX Ap)|(exfalso;omega)
   have ih:=Hc a0
   have qx:=Dk.1 ih.2.1
   have fa:=Eq ih.1
   have hpl:=Er ih.1
   have hpar:=fa.par f.toNat oM
   have pm:=fa.outs f.toNat oM
   have hft:(f.toNat:Int)=f:=by omega
   have hnt:(n.toNat:Int)=n:=by omega
   have hszx:=hz.lp (n:=n) fa (f:=f) oM
   refine Ao (p:=zP w.heap.size) 0 AO Z Z Aa<|Al (p:=Ar (zP w.heap.size) 0) (.inr Z) vp B7 Z (ak.ldp (i:=0) sM) Aa<|As 84 [] [] [vp,.func (.func 85) #[] #[]] Z Z JD Aa (AV _ dp vp (p) 85 [] [] (fun g:Fn=>BM g.name (⟨#[108,111,111,112]⟩:ByteArray)) (hp.ext (Ax<|Aq dp) ed) JX fun d9 u x w1 hx hw=>CF w1 d9 u x hx) ?_
   rintro re e2 ⟨rfl,de⟩
   refine⟨_,rfl,de,?_⟩
   have jj:=de.size
   have df:=ed.trans de
   have bp:=ak.ext de
   have cq:=bx.ext de
   refine Ai ?_
   cases jk:(p.any (fun g:Fn=>BM g.name (⟨#[108,111,111,112]⟩:ByteArray)))
   ·refine Ak (by first|rfl|exact zW jk)<|A2<|L9 [0,2,0,0,0,2,0,3,4] Z<|Ao (p:=zP w.heap.size) 0 AO Z Z Aa<|Al (p:=Ar (zP w.heap.size) 0) (.inr Z) vp B7 Z (bp.ldp (i:=0) sM) Aa<|Ag 1 Z<|AN (v:=vp) ((f).toNat) C1 B4 Z Z hp.isSl oM sD Aa ?_
    obtain⟨cs16,m6,gc⟩:=hp.get (Aq dp) Fn.zero (k:=(f).toNat) sD
    obtain⟨jl,rfl,ii⟩:=RF.of m6
    have gr:=ii.rn.lenle
    unfold maxLen at gr
    refine Av (p:=AE vp ((f).toNat) 3) 1 Bh Z (gc _<|AG.of_ext [] df) Aa<|Al (p:=Ar (AE vp ((f).toNat) 3) 1) (.inr Z) (zI<|(p.getD ((f).toNat) Fn.zero).params) AT Z ((gc _<|AG.of_ext [] df).ld (i:=1) (by simp[Ch,Ci])) Aa ?_
    have jm:∀(wq:World),(Instr.build 49 #[(0,.string (⟨#[108,111,111,112]⟩)),(1,zI ((p.getD ((f).toNat) Fn.zero).params))]).run Try.prog wq=.ok (.agg #[.string (⟨#[108,111,111,112]⟩),zI ((p.getD ((f).toNat) Fn.zero).params),zN]) wq:=by intro wq;kernel_rfl
    refine Bb (ps:=#[(0,.string<|⟨#[108,111,111,112]⟩),(1,zI<|(p.getD ((f).toNat) Fn.zero).params)]) (.agg #[.string<|⟨#[108,111,111,112]⟩,zI<|(p.getD ((f).toNat) Fn.zero).params,zN]) Fd (fun wq=>jm  wq) Aa ?_
    have qy:=bp.lt
    have qz:=cq.lt
    refine AI (z:=.agg #[.string ByteArray.empty,zI 0,zN]) Fg Aa fun nb ee m7 ij=>?_
    have jn:=ee.size
    have ik:=df.trans ee
    have il:=bp.ext ee
    have im:=cq.ext ee
    replace ij:BX nb.heap e2.heap.size [.string ByteArray.empty,zI 0,zN]:=ij
    refine AP (vs:=[.string<|⟨#[108,111,111,112]⟩,zI<|(p.getD ((f).toNat) Fn.zero).params,zN]) BO Z Z Jm ij Z Z Aa fun e8 ef m8 io=>?_
    replace io:BX e8.heap e2.heap.size [.string (⟨#[108,111,111,112]⟩),zI ((p.getD ((f).toNat) Fn.zero).params),zN]:=io
    have op:nb.heap.size≤e8.heap.size:=ef.size
    have ip:Az w e8:=ef.below ik (fun _ h=>zE h) ik.size
    have iq:=il.chg ef (zB ·)
    have jo:=im.chg ef (zB ·)
    refine Ai<|A0<|L9 [0,2,0,0,0,2,0,0] Z<|Ao (p:=zP w.heap.size) 0 AO Z Z Aa<|Al (p:=Ar (zP w.heap.size) 0) (.inr Z) vp B7 Z (iq.ldp (i:=0) sM) Aa<|Ag 1 Z<|AN (v:=vp) ((f).toNat) C1 B4 Z Z hp.isSl oM sD Aa ?_
    refine Av (p:=AE vp ((f).toNat) 3) 2 B2 Z (gc _<|AG.of_ext [] ip) Aa<|Al (p:=Ar (AE vp ((f).toNat) 3) 2) (.inr Z) jl AU Z ((gc _<|AG.of_ext [] ip).ld (i:=2) (by simp[Ch,Ci])) Aa<|AS (v:=jl) Bw Z ii.rn.isSl Aa<|Ac 1 Z<|A3 ?_
    refine AW (S:=Nat×Value) (fun⟨k,vo⟩=>([(46,zI (k:Int)),(1,zI f),(2,zI n),(3,zP w.heap.size),(6,zP w1.heap.size),(9,zP e2.heap.size),(45,zI ((((p.getD ((f).toNat) Fn.zero).outs).length:Nat):Int))])) (fun⟨k,vo⟩ W=>Az w W∧Fr (Be 5 (BR 46 dp) 46) e8.heap.size W.heap.size W.heap vo (Br f.toNat (p.getD f.toNat Fn.zero).params.toNat n.toNat 0 k)∧BX W.heap w.heap.size [vp]∧BX W.heap w1.heap.size [zN]∧BX W.heap e2.heap.size [.string<|⟨#[108,111,111,112]⟩,zI<|(p.getD ((f).toNat) Fn.zero).params,vo]∧k≤(p.getD f.toNat Fn.zero).outs.length∧w.heap.size<e8.heap.size∧w1.heap.size<e8.heap.size∧e2.heap.size<e8.heap.size∧e8.heap.size≤W.heap.size) (fun⟨k,vo⟩=>(p.getD f.toNat Fn.zero).outs.length-k) (0,zN) ⟨rfl,rfl,rfl,rfl,rfl,rfl,rfl,trivial⟩ ⟨ip,(BT _ 0 _).up<|Ad<|An 46 dp,iq,jo,io,oM,oM,oM,oM,oM⟩ ?_
    clear m1 oj lw jc m2 ol jd je ly gq jg ed de jj df gr m7 ee jn ik m8 ef iq jo
    rintro⟨k,vo⟩ ρ27 cm ⟨gd,cr,a6,al,am,m9,oq,or,os,ot⟩
    have ou:w.heap.size≤cm.heap.size:=gd.size
    have r0:=a6.lt
    have r1:=al.lt
    have r2:=am.lt
    refine L9 [0] Z ?_
    by_cases jp:(k:Int)<((((p.getD ((f).toNat) Fn.zero).outs).length:Nat):Int)
    ·refine AA true Z Z (A5 jp) Aa<|Ai<|A0<|Ah Z<|A2<|A0<|A3<|L9 [0,0] Z<|Ac 2 Z<|L9 [0,0,0,0,3,4] Z<|Ag 3 Z ?_
     have jq:∀(wq:World),(Instr.build 46 #[(0,zI ((11:Nat):Int)),(1,zI f),(2,zI (k:Int)),(3,zI n)]).run Try.prog wq=.ok (.agg #[zI ((11:Nat):Int),zI f,zI (k:Int),zI n,zN]) wq:=by intro wq;kernel_rfl
     refine Bb (ps:=#[(0,zI ((11:Nat):Int)),(1,zI f),(2,zI (k:Int)),(3,zI n)]) (.agg #[zI ((11:Nat):Int),zI f,zI (k:Int),zI n,zN]) Fd (fun wq=>jq  wq) Aa ?_
     have r3:=a6.lt
     have r4:=al.lt
     have r5:=am.lt
     refine AI (z:=.agg #[zI 0,zI 0,zI 0,zI 0,zN]) DC Aa fun ph ct ma ir=>?_
     have jr:=ct.size
     have is:=gd.trans ct
     have b2:=cr.ext (Ad<|An 46 dp) ct
     have b3:=a6.ext ct
     have b4:=al.ext ct
     have b5:=am.ext ct
     replace ir:BX ph.heap cm.heap.size [zI 0,zI 0,zI 0,zI 0,zN]:=ir
     refine AP (vs:=[zI ((11:Nat):Int),zI f,zI (k:Int),zI n,zN]) B8 Z Z Jl ir Z Z Aa fun f0 cu mb it=>?_
     replace it:BX f0.heap cm.heap.size [zI ((11:Nat):Int),zI f,zI (k:Int),zI n,zN]:=it
     have ov:ph.heap.size≤f0.heap.size:=cu.size
     have mc:Az w f0:=cu.below is (fun _ h=>zE h) is.size
     have js:=b2.chg (Ad<|An 46 dp) cu fun _ h=>zA h
     have jt:=b3.chg cu (zB ·)
     have ju:=b4.chg cu (zB ·)
     have iu:=b5.chg cu (zB ·)
     refine Ai<|A0<|L9 [0,2,0] Z<|Ao (p:=zP e2.heap.size) 1 Bh Z Z Aa<|Al (p:=Ar (zP e2.heap.size) 1) (.inr Z) (zI<|(p.getD ((f).toNat) Fn.zero).params) AT Z (iu.ldp (i:=1) sM) Aa<|Ac 1 Z<|A3 ?_
     refine AW (S:=Nat×Value) (fun⟨i,vk⟩=>([(55,zI (i:Int)),(1,zI f),(2,zI n),(3,zP w.heap.size),(6,zP w1.heap.size),(9,zP e2.heap.size),(11,zP cm.heap.size),(45,zI ((((p.getD ((f).toNat) Fn.zero).outs).length:Nat):Int)),(46,zI (k:Int)),(54,zI<|(p.getD ((f).toNat) Fn.zero).params)])) (fun⟨i,vk⟩ W=>Az w W∧Fr (Be 5 (BR 46 1) 46) f0.heap.size W.heap.size W.heap vk (Cz 0 i)∧Fr (Be 5 (BR 46 dp) 46) e8.heap.size cm.heap.size W.heap vo (Br f.toNat (p.getD f.toNat Fn.zero).params.toNat n.toNat 0 k)∧BX W.heap w.heap.size [vp]∧BX W.heap w1.heap.size [zN]∧BX W.heap e2.heap.size [.string<|⟨#[108,111,111,112]⟩,zI<|(p.getD ((f).toNat) Fn.zero).params,vo]∧BX W.heap cm.heap.size [zI ((11:Nat):Int),zI f,zI (k:Int),zI n,vk]∧i≤(p.getD f.toNat Fn.zero).params.toNat∧cm.heap.size≤f0.heap.size∧cm.heap.size≤cm.heap.size∧w.heap.size≤e8.heap.size∧w.heap.size<f0.heap.size∧w1.heap.size<f0.heap.size∧e2.heap.size<f0.heap.size∧cm.heap.size<f0.heap.size∧f0.heap.size≤W.heap.size∧e8.heap.size≤W.heap.size) (fun⟨i,vk⟩=>(p.getD f.toNat Fn.zero).params.toNat-i) (0,zN) ⟨rfl,rfl,rfl,rfl,rfl,rfl,rfl,rfl,rfl,rfl,trivial⟩ ⟨mc,(BT _ 0 _).up<|Ad<|An 46 1,js,jt,ju,iu,it,oM,oM,oM,oM,oM,oM,oM,oM,oM,oM⟩ ?_
     clear am al a6 cr ma ct jr is b2 b3 b4 b5 mb cu js jt ju iu
     rintro⟨i,vk⟩ ρ47 fw ⟨iv,eg,eh,cv,cw,bq,an,md,huw,huf,hwb,ow,ox,oy,oz,p0,p1⟩
     have p2:w.heap.size≤fw.heap.size:=iv.size
     have r6:=cv.lt
     have r7:=cw.lt
     have r8:=bq.lt
     have r9:=an.lt
     refine L9 [0] Z ?_
     by_cases jv:(i:Int)<(p.getD ((f).toNat) Fn.zero).params
     ·refine AA true Z Z (A5 jv) Aa<|Ai<|A0<|Ah Z<|A2<|A0<|A3<|L9 [0,0] Z<|Ac 2 Z<|Bd _ [0,1,0,3,3,4,0,4] mixed (by kernel_rfl)<|Ao (p:=zP cm.heap.size) 4 B5 Z Z Aa<|Al (p:=Ar (zP cm.heap.size) 4) (.inl Z) vk AU Z (an.ldp (i:=4) sM) Aa<|Ag 1 Z<|As 86 [] [] [zI (i:Int)] Z Z JY Aa (CY _ (i:Int) oM) ?_
      rintro ro pn ⟨rfl,ao⟩
      refine⟨_,rfl,ao,?_⟩
      replace ao:=ao.of_drew
      have p3:=ao.size
      have me:=iv.trans ao
      have dg:=eg.ext (Ad<|An 46 1) ao
      have dh:=eh.ext (Ad<|An 46 dp) ao
      have di:=cv.ext ao
      have dj:=cw.ext ao
      have dk:=bq.ext ao
      have dl:=an.ext ao
      refine Ce (cs:=[zI ((2:Nat):Int),zI (i:Int),zI 0,zI 0,zN]) (y:=.mk 2 (i:Int) 0 0 []) (B:=pn.heap.size) (An 46 1) Bw B1 Z CP Z (Ds.mk1 (d:=1) (x:=.mk 2 (i:Int) 0 0 []) oM (E4 (a:=2) (b:=(i:Int)) (c:=0) (k:=0) oM oM oM oM)<|BT _ 0 _) oM Aa fun po pq bz ra mf=>?_
      have p4:=bz.size
      have jw:=me.trans bz
      have dm:=dg.ext (Ad<|An 46 1) bz
      have dn:=dh.ext (Ad<|An 46 dp) bz
      have dq:=di.ext bz
      have dr:=dj.ext bz
      have ds:=dk.ext bz
      have dt:=dl.ext bz
      refine Cn (v:=vk) (a:=po) (An 46 1) Bw B1 Z CP Z Z dm oM mf oM oM (by rw[CA];omega) (by rw[CA];unfold maxLen;omega) Aa fun pi fx rp cx du jx=>?_
      have p5:pq.heap.size≤fx.heap.size:=cx.size
      have jy:Az w fx:=cx.below jw (fun c hc=>zH<|du _ hc) jw.size
      have mg:=dn.chg (Ad<|An 46 dp) cx fun c hc=>zH<|du _ hc
      have mh:=dq.chg cx fun hm=>zH<|du _ hm
      have mi:=dr.chg cx fun hm=>zH<|du _ hm
      have mj:=ds.chg cx fun hm=>zH<|du _ hm
      have ml:=dt.chg cx fun hm=>zH<|du _ hm
      refine Ao (p:=zP cm.heap.size) 4 B5 Z Z Aa (Bm (k:=4) (w:=fx) E1 Z Z (AM jx.isSlS) ml sM Aa fun l2 cy rb iw=>?_)
      replace iw:BX l2.heap cm.heap.size [zI ((11:Nat):Int),zI f,zI (k:Int),zI n,pi]:=iw
      have p6:fx.heap.size≤l2.heap.size:=cy.size
      have mm:Az w l2:=cy.below jy (fun _ h=>zE h) jy.size
      have mn:=mg.chg (Ad<|An 46 dp) cy fun _ h=>zA h
      have mo:=mh.chg cy (zB ·)
      have mp:=mi.chg cy (zB ·)
      have mq:=mj.chg cy (zB ·)
      have mr:=jx.chg (Ad<|An 46 1) cy fun _ h=>zA h
      exact Ai<|Ab _ [0,0] Z<|AQ ((i+1:Nat):Int) Z Z (Bn oM oM) Aa<|Ac 1 Z ⟨(i+1,pi),_,rfl,zR,⟨mm,(by rw[Dn,Nat.zero_add];exact mr.up (Ad<|An 46 1)),mn,mo,mp,mq,iw,oM,oM,oM,oM,oM,oM,oM,oM,oM,oM⟩,zD⟩
     refine AA false Z Z (A6 jv) Aa<|Ai<|A0<|Ak Z<|A4<|AD<|AD<|Ay<|Ab _ [0,2,2,3,4,0,4] Z ?_
     have hik:i=(p.getD f.toNat Fn.zero).params.toNat:=by omega
     have hkm:Fr (Be 5 (BR 46 1) 46) f0.heap.size fw.heap.size fw.heap vk (Cz 0 (p.getD f.toNat Fn.zero).params.toNat):=by rw[← hik];exact eg
     refine Ao (p:=zP e2.heap.size) 2 B2 Z Z Aa<|Al (p:=Ar (zP e2.heap.size) 2) (.inr Z) vo AU Z (bq.ldp (i:=2) sM) Aa<|Au (p:=zP cm.heap.size) (.inr Z) [zI ((11:Nat):Int),zI f,zI (k:Int),zI n,vk] B8 Z (fun f1 b1=>LD.of_box<|BX.ext (w:=fw) an b1) Z Aa ?_
     refine Ce (cs:=[zI ((11:Nat):Int),zI f,zI (k:Int),zI n,vk]) (y:=.mk 11 f (k:Int) n<|Cz 0 (p.getD f.toNat Fn.zero).params.toNat) (B:=f0.heap.size) (An 46 dp) Bw B1 Z CP Z (Ds.le (Ds.mk1 (d:=2) (x:=.mk 11 f (k:Int) n<|Cz 0 (p.getD f.toNat Fn.zero).params.toNat) oM (E4 oM oM oM oM) hkm) oM) oM Aa fun pt pv cz rc ms=>?_
     have p7:=cz.size
     have jz:=iv.trans cz
     have dv:=eh.ext (Ad<|An 46 dp) cz
     have dw:=cv.ext cz
     have dx:=cw.ext cz
     have dy:=bq.ext cz
     refine Cn (v:=vo) (a:=pt) (An 46 dp) Bw B1 Z CP Z Z dv oM ms oM oM (by rw[C5];omega) (by rw[C5];unfold maxLen;omega) Aa fun pj fy rq e0 ei k0=>?_
     have p8:pv.heap.size≤fy.heap.size:=e0.size
     have k1:Az w fy:=e0.below jz (fun c hc=>zH<|ei _ hc) jz.size
     have mt:=dw.chg e0 fun hm=>zH<|ei _ hm
     have mu:=dx.chg e0 fun hm=>zH<|ei _ hm
     have mv:=dy.chg e0 fun hm=>zH<|ei _ hm
     refine Ao (p:=zP e2.heap.size) 2 B2 Z Z Aa (Bm (k:=2) (w:=fy) E1 Z Z (AM k0.isSlS) mv sM Aa fun lb e1 rd ix=>?_)
     replace ix:BX lb.heap e2.heap.size [.string (⟨#[108,111,111,112]⟩),zI ((p.getD ((f).toNat) Fn.zero).params),pj]:=ix
     have p9:fy.heap.size≤lb.heap.size:=e1.size
     have mx:Az w lb:=e1.below k1 (fun _ h=>zE h) k1.size
     have my:=mt.chg e1 (zB ·)
     have mz:=mu.chg e1 (zB ·)
     have n0:=k0.chg (Ad<|An 46 dp) e1 fun _ h=>zA h
     exact Ai<|Ab _ [0,0] Z<|AQ ((k+1:Nat):Int) Z Z (Bn oM oM) Aa<|Ac 1 Z ⟨(k+1,pj),_,rfl,zR,⟨mx,(by rw[CS,Nat.zero_add,hft,hnt];exact n0.up (Ad<|An 46 dp)),my,mz,ix,oM,oM,oM,oM,oM⟩,zD⟩
    refine AA false Z Z (A6 jp) Aa<|Ai<|A0<|Ak Z<|A4<|AD<|AD<|Ay<|L9 [2,3,3,4] Z ?_
    have hkk:k=(p.getD f.toNat Fn.zero).outs.length:=by omega
    have hrm:Fr (Be 5 (BR 46 dp) 46) e8.heap.size cm.heap.size cm.heap vo (Br f.toNat (p.getD f.toNat Fn.zero).params.toNat n.toNat 0 (p.getD f.toNat Fn.zero).outs.length):=by rw[← hkk];exact cr
    refine Au (p:=zP w.heap.size) (.inr Z) [vp] AL Z (fun f1 b1=>LD.of_box<|BX.ext (w:=cm) a6 b1) Z Aa<|As 87 [] [] [.agg #[vp]] Z Z JZ Aa (Cr _ dp vp (p) (hp.ext (Ax<|Aq dp) gd) hz oM) ?_
    rintro rr f9 ⟨fz,rfl,d0,n1⟩
    refine⟨_,rfl,d0,?_⟩
    have pa:=d0.size
    have n2:=gd.trans d0
    have iy:=hrm.ext (Ad<|An 46 dp) d0
    have b6:=a6.ext d0
    have b7:=al.ext d0
    have b8:=am.ext d0
    have rf:=b6.lt
    have rg:=b7.lt
    have rh:=b8.lt
    refine AI (z:=.agg #[zN]) DD Aa fun pl d1 ri iz=>?_
    have pb:=d1.size
    have k2:=n2.trans d1
    have j0:=iy.ext (Ad<|An 46 dp) d1
    have e3:=b7.ext d1
    have e4:=b8.ext d1
    have d4:=n1.ext (Ad<|Aj 46 dp) d1
    replace iz:BX pl.heap f9.heap.size [zN]:=iz
    refine AP (vs:=[fz]) AL Z Z (by intro u hu;simp only[ze,z2,or_false]at hu;rcases hu with rfl <;> first|exact⟨rfl,rfl⟩|exact AM d4.isSlS) iz Z Z Aa fun gf d2 rj ge=>?_
    replace ge:BX gf.heap f9.heap.size [fz]:=ge
    have pc:pl.heap.size≤gf.heap.size:=d2.size
    have n3:Az w gf:=d2.below k2 (fun _ h=>zE h) k2.size
    have n4:=j0.chg (Ad<|An 46 dp) d2 fun _ h=>zA h
    have n6:=e3.chg d2 (zB ·)
    have k3:=e4.chg d2 (zB ·)
    have n7:=d4.chg (Ad<|Aj 46 dp) d2 fun _ h=>zA h
    refine Ai<|L9 [0,2,2,3,4,0,4] Z<|Ao (p:=zP f9.heap.size) 0 AO Z Z Aa<|Al (p:=Ar (zP f9.heap.size) 0) (.inr Z) fz B7 Z (ge.ldp (i:=0) sM) Aa<|Au (p:=zP e2.heap.size) (.inr Z) [.string<|⟨#[108,111,111,112]⟩,zI<|(p.getD ((f).toNat) Fn.zero).params,vo] BO Z (fun f1 b1=>LD.of_box<|BX.ext (w:=gf) k3 b1) Z Aa ?_
    refine Ic (cs:=[.string<|⟨#[108,111,111,112]⟩,zI<|(p.getD ((f).toNat) Fn.zero).params,vo]) (y:=Fn.mk (⟨#[108,111,111,112]⟩) ((p.getD ((f).toNat) Fn.zero).params)<|Br f.toNat (p.getD f.toNat Fn.zero).params.toNat n.toNat 0 (p.getD f.toNat Fn.zero).outs.length) (Aj 46 dp) C1 B4 Z CP Z (Ds.mkF (x:=⟨⟨#[108,111,111,112]⟩,(p.getD ((f).toNat) Fn.zero).params,Br f.toNat (p.getD f.toNat Fn.zero).params.toNat n.toNat 0 (p.getD f.toNat Fn.zero).outs.length⟩) (EU (a:=(p.getD ((f).toNat) Fn.zero).params) ii.rng) n4) Aa fun qc ql d3 rk n8=>?_
    have pd:=d3.size
    have k4:=n3.trans d3
    have gg:=n6.ext d3
    have gi:=n7.ext (Ad<|Aj 46 dp) d3
    have gj:=ge.ext d3
    refine Id (v:=fz) (a:=qc) (Aj 46 dp) C1 B4 Z CP Z Z gi n8 (fun b h8 h9=>by(try dsimp only at h9);omega) oM (by unfold maxLen;omega) Aa fun f2 gh rs e6 ej k5=>?_
    have pe:ql.heap.size≤gh.heap.size:=e6.size
    have k6:Az w gh:=e6.below k4 (fun c hc=>zH<|ej _ hc) k4.size
    have na:=gg.chg e6 fun hm=>zH<|ej _ hm
    have nc:=gj.chg e6 fun hm=>zH<|ej _ hm
    refine Ao (p:=zP f9.heap.size) 0 AO Z Z Aa (Bm (k:=0) (w:=gh) Hs Z Z (AM<|G1.isSlS k5) nc sM Aa fun fo e7 rl gk=>?_)
    replace gk:BX fo.heap f9.heap.size [f2]:=gk
    have pf:gh.heap.size≤fo.heap.size:=e7.size
    have nd:Az w fo:=e7.below k6 (fun _ h=>zE h) k6.size
    have nf:=na.chg e7 (zB ·)
    have k8:=k5.chg (Ad<|Aj 46 dp) e7 fun c hc=>by have:=A9 hc;intro ng;(try dsimp only at ng);omega
    refine Ai<|A0<|L9 [2,3,0] Z ?_
    have hfr:Fr (Be 3 (CU 46 dp) 49) e8.heap.size fo.heap.size fo.heap f2 (Fl p f n):=k8.fr (Ad (Aj 46 dp)) (B:=e8.heap.size) (fun b hb=>by(try dsimp only at hb);omega)
    refine Au (p:=zP f9.heap.size) (.inr Z) [f2] AL Z (fun f1 b1=>LD.of_box<|BX.ext (w:=fo) gk b1) Z Aa<|As 88 [] [] [.agg #[f2]] Z Z IK Aa (Bs _ dp f2 (Fl p f n) (RN.of_frF hfr fun b hb=>by cases hb) hszx) ?_
    rintro qm fb ⟨rfl,a8⟩
    refine⟨_,rfl,a8,?_⟩
    have nh:=a8.size
    have d5:=nd.trans a8
    have c1:=nf.ext a8
    have ap:=gk.ext a8
    have br:=hfr.ext (Ad<|Aj 46 dp) a8
    refine AZ (!(Cw<|Fl p f n)) Z Z Aa<|Ai ?_
    cases gs:(!(Cw (Fl p f n)))
    ·refine Ak (by first|rfl|exact zW gs)<|A2<|L9 [2,4,0] Z<|Au (p:=zP f9.heap.size) (.inr Z) [f2] AL Z (fun f1 b1=>LD.of_box<|BX.ext (w:=fb) ap b1) Z Aa (AP (vs:=[f2]) AL Z Z (by intro u hu;simp only[ze,z2,or_false]at hu;rcases hu with rfl <;> first|exact⟨rfl,rfl⟩|exact AM br.isSlS) c1 Z Z Aa fun fc ba pg ek=>?_)
     replace ek:BX fc.heap w1.heap.size [f2]:=ek
     have ni:fb.heap.size≤fc.heap.size:=ba.size
     have k9:Az w fc:=ba.below d5 (fun _ h=>zE h) d5.size
     have ka:=br.chg (Ad<|Aj 46 dp) ba fun _ h=>zA h
     refine Ac 1 Z<|A1 ?_
     have hcd:CH p f n=((0:Nat):Int):=by first|exact Cq a0 Ap|exact BD a0 Ap (Bc Ap)|exact BD a0 Ap Ap|exact BL a0 Ap (AX Ap)|exact BL a0 Ap Ap|exact Bz oM (Bc Ap)|exact By oM
     exact Bk (t0:=7) (ts:=[]) (cs:=[f2]) [zI ((0:Nat):Int)] Z AL Z ek Z Z ⟨f2,by rw[hcd],k9,(by rw[Ha hcd];exact((ka.up<|Ad<|Aj 46 dp).low (B':=w.heap.size) oM))⟩
    refine Ah (by first|rfl|exact zW gs)<|L9 [0,4,0] Z ?_
    have j1:∀(wq:World),(Instr.build 52 #[]).run Try.prog wq=.ok (.agg #[zN]) wq:=by intro wq;kernel_rfl
    refine Bb (ps:=#[]) (.agg #[zN]) D0 (fun wq=>j1  wq) Aa (AP (vs:=[zN]) AL Z Z CZ c1 Z Z Aa fun fd bb pk el=>?_)
    replace el:BX fd.heap w1.heap.size [zN]:=el
    have nj:fb.heap.size≤fd.heap.size:=bb.size
    have kb:Az w fd:=bb.below d5 (fun _ h=>zE h) d5.size
    refine Ac 1 Z<|A1<|Am ?_
    have hcd:CH p f n=((3:Nat):Int):=by first|exact Cq a0 Ap|exact BD a0 Ap (Bc Ap)|exact BD a0 Ap Ap|exact BL a0 Ap (AX Ap)|exact BL a0 Ap Ap|exact Bz oM (Bc Ap)|exact By oM
    exact Bk (t0:=7) (ts:=[]) (cs:=[zN]) [zI ((3:Nat):Int)] Z AL Z el Z Z ⟨_,by rw[hcd],kb,D1⟩
   refine Ah (by first|rfl|exact zW jk)<|L9 [0,4,0] Z ?_
   have j2:∀(wq:World),(Instr.build 52 #[]).run Try.prog wq=.ok (.agg #[zN]) wq:=by intro wq;kernel_rfl
   refine Bb (ps:=#[]) (.agg #[zN]) D0 (fun wq=>j2  wq) Aa (AP (vs:=[zN]) AL Z Z CZ cq Z Z Aa fun fe em pp en=>?_)
   replace en:BX fe.heap w1.heap.size [zN]:=en
   have nk:e2.heap.size≤fe.heap.size:=em.size
   have kc:Az w fe:=em.below df (fun _ h=>zE h) df.size
   refine Ac 1 Z<|A1<|Am ?_
   have hcd:CH p f n=((4:Nat):Int):=by first|exact Cq a0 Ap|exact BD a0 Ap (Bc Ap)|exact BD a0 Ap Ap|exact BL a0 Ap (AX Ap)|exact BL a0 Ap Ap|exact Bz oM (Bc Ap)|exact By oM
   exact Bk (t0:=7) (ts:=[]) (cs:=[zN]) [zI ((4:Nat):Int)] Z AL Z en Z Z ⟨_,by rw[hcd],kc,D1⟩
  refine Ah (by first|rfl|exact zW on)<|Ab _ [0] Z<|Ac 1 Z<|A0<|L9 [0,0] Z<|Ag 1 Z<|AR true Z Z CP Aa<|Ai<|Ah Z<|L9 [0,0,4,0] Z ?_
  have j3:∀(wq:World),(Instr.build 52 #[]).run Try.prog wq=.ok (.agg #[zN]) wq:=by intro wq;kernel_rfl
  refine Bb (ps:=#[]) (.agg #[zN]) D0 (fun wq=>j3  wq) Aa<|Ag 1 Z (AP (vs:=[zN]) AL Z Z CZ bx Z Z Aa fun ff eo pr ep=>?_)
  replace ep:BX ff.heap w1.heap.size [zN]:=ep
  have nl:w5.heap.size≤ff.heap.size:=eo.size
  have kd:Az w ff:=eo.below ed (fun _ h=>zE h) ed.size
  refine Ac 1 Z<|A1<|Am ?_
  have hcd:CH p f n=((2:Nat):Int):=by first|exact Cq a0 Ap|exact BD a0 Ap (Bc Ap)|exact BD a0 Ap Ap|exact BL a0 Ap (AX Ap)|exact BL a0 Ap Ap|exact Bz oM (Bc Ap)|exact By oM
  exact Bk (t0:=7) (ts:=[]) (cs:=[zN]) [zI ((2:Nat):Int)] Z AL Z ep Z Z ⟨_,by rw[hcd],kd,D1⟩
 refine AH false Z Z (A6 om) Aa<|Ac 5 Z<|Ak Z<|A2<|A0<|L9 [0,0] Z<|Ag 1 Z ?_
 by_cases gt:D5 p f ([]:List Sr)≠((0:Nat):Int)
 ·refine AR true Z Z (A5 gt) Aa<|Ai<|Ah Z<|L9 [0,0,4,0] Z ?_
  have j4:∀(wq:World),(Instr.build 52 #[]).run Try.prog wq=.ok (.agg #[zN]) wq:=by intro wq;kernel_rfl
  refine Bb (ps:=#[]) (.agg #[zN]) D0 (fun wq=>j4  wq) Aa<|Ag 1 Z (AP (vs:=[zN]) AL Z Z CZ bx Z Z Aa fun fg eq pu er=>?_)
  replace er:BX fg.heap w1.heap.size [zN]:=er
  have nm:w5.heap.size≤fg.heap.size:=eq.size
  have ke:Az w fg:=eq.below ed (fun _ h=>zE h) ed.size
  refine Ac 1 Z<|A1<|Am ?_
  have hcd:CH p f n=D5 p f ([]:List Sr):=by first|exact Cq a0 Ap|exact BD a0 Ap (Bc Ap)|exact BD a0 Ap Ap|exact BL a0 Ap (AX Ap)|exact BL a0 Ap Ap|exact Bz oM (Bc Ap)|exact By oM
  exact Bk (t0:=7) (ts:=[]) (cs:=[zN]) [zI<|D5 p f ([]:List Sr)] Z AL Z er Z Z ⟨_,by rw[hcd],ke,D1⟩
 refine AR false Z Z (A6 gt) Aa<|Ai<|Ak Z<|A2<|A0<|L9 [0,2,3] Z ?_
 have a0:Fm p f n=0:=by first|exact Ig oM (AX Ap)|(exfalso;omega)
 have ih:=Hc a0
 have qx:=Dk.1 ih.2.1
 have fa:=Eq ih.1
 have hpl:=Er ih.1
 have hpar:=fa.par f.toNat oM
 have pm:=fa.outs f.toNat oM
 have hft:(f.toNat:Int)=f:=by omega
 have hnt:(n.toNat:Int)=n:=by omega
 have hszx:=hz.lp (n:=n) fa (f:=f) oM
 refine Ao (p:=zP w.heap.size) 0 AO Z Z Aa<|Al (p:=Ar (zP w.heap.size) 0) (.inr Z) vp B7 Z (ak.ldp (i:=0) sM) Aa<|As 84 [] [] [vp,.func (.func 85) #[] #[]] Z Z JD Aa (AV _ dp vp (p) 85 [] [] (fun g:Fn=>BM g.name (⟨#[108,111,111,112]⟩:ByteArray)) (hp.ext (Ax<|Aq dp) ed) JX fun d9 u x w1 hx hw=>CF w1 d9 u x hx) ?_
 rintro qn bk ⟨rfl,bc⟩
 refine⟨_,rfl,bc,?_⟩
 have j5:=bc.size
 have bd:=ed.trans bc
 have ai:=ak.ext bc
 have bs:=bx.ext bc
 refine Ai ?_
 cases gu:(p.any (fun g:Fn=>BM g.name (⟨#[108,111,111,112]⟩:ByteArray)))
 ·refine Ak (by first|rfl|exact zW gu)<|A2<|L9 [0,2,0,0,0,2,0,3,4] Z<|Ao (p:=zP w.heap.size) 0 AO Z Z Aa<|Al (p:=Ar (zP w.heap.size) 0) (.inr Z) vp B7 Z (ai.ldp (i:=0) sM) Aa<|Ag 1 Z<|AN (v:=vp) ((f).toNat) C1 B4 Z Z hp.isSl oM sD Aa ?_
  obtain⟨cs127,kf,d6⟩:=hp.get (Aq dp) Fn.zero (k:=(f).toNat) sD
  obtain⟨gv,rfl,es⟩:=RF.of kf
  have et:=es.rn.lenle
  unfold maxLen at et
  refine Av (p:=AE vp ((f).toNat) 3) 1 Bh Z (d6 _<|AG.of_ext [] bd) Aa<|Al (p:=Ar (AE vp ((f).toNat) 3) 1) (.inr Z) (zI<|(p.getD ((f).toNat) Fn.zero).params) AT Z ((d6 _<|AG.of_ext [] bd).ld (i:=1) (by simp[Ch,Ci])) Aa ?_
  have j6:∀(wq:World),(Instr.build 49 #[(0,.string (⟨#[108,111,111,112]⟩)),(1,zI ((p.getD ((f).toNat) Fn.zero).params))]).run Try.prog wq=.ok (.agg #[.string (⟨#[108,111,111,112]⟩),zI ((p.getD ((f).toNat) Fn.zero).params),zN]) wq:=by intro wq;kernel_rfl
  refine Bb (ps:=#[(0,.string<|⟨#[108,111,111,112]⟩),(1,zI<|(p.getD ((f).toNat) Fn.zero).params)]) (.agg #[.string<|⟨#[108,111,111,112]⟩,zI<|(p.getD ((f).toNat) Fn.zero).params,zN]) Fd (fun wq=>j6  wq) Aa ?_
  have pw:=ai.lt
  have px:=bs.lt
  refine AI (z:=.agg #[.string ByteArray.empty,zI 0,zN]) Fg Aa fun fq c2 kg eu=>?_
  have j7:=c2.size
  have ev:=bd.trans c2
  have gl:=ai.ext c2
  have gm:=bs.ext c2
  replace eu:BX fq.heap bk.heap.size [.string ByteArray.empty,zI 0,zN]:=eu
  refine AP (vs:=[.string<|⟨#[108,111,111,112]⟩,zI<|(p.getD ((f).toNat) Fn.zero).params,zN]) BO Z Z Jm eu Z Z Aa fun bm c3 kh ew=>?_
  replace ew:BX bm.heap bk.heap.size [.string (⟨#[108,111,111,112]⟩),zI ((p.getD ((f).toNat) Fn.zero).params),zN]:=ew
  have nn:fq.heap.size≤bm.heap.size:=c3.size
  have ex:Az w bm:=c3.below ev (fun _ h=>zE h) ev.size
  have ey:=gl.chg c3 (zB ·)
  have gw:=gm.chg c3 (zB ·)
  refine Ai<|A0<|L9 [0,2,0,0,0,2,0,0] Z<|Ao (p:=zP w.heap.size) 0 AO Z Z Aa<|Al (p:=Ar (zP w.heap.size) 0) (.inr Z) vp B7 Z (ey.ldp (i:=0) sM) Aa<|Ag 1 Z<|AN (v:=vp) ((f).toNat) C1 B4 Z Z hp.isSl oM sD Aa ?_
  refine Av (p:=AE vp ((f).toNat) 3) 2 B2 Z (d6 _<|AG.of_ext [] ex) Aa<|Al (p:=Ar (AE vp ((f).toNat) 3) 2) (.inr Z) gv AU Z ((d6 _<|AG.of_ext [] ex).ld (i:=2) (by simp[Ch,Ci])) Aa<|AS (v:=gv) Bw Z es.rn.isSl Aa<|Ac 1 Z<|A3 ?_
  refine AW (S:=Nat×Value) (fun⟨k,vo⟩=>([(46,zI (k:Int)),(1,zI f),(2,zI n),(3,zP w.heap.size),(6,zP w1.heap.size),(9,zP bk.heap.size),(45,zI ((((p.getD ((f).toNat) Fn.zero).outs).length:Nat):Int))])) (fun⟨k,vo⟩ W=>Az w W∧Fr (Be 5 (BR 46 dp) 46) bm.heap.size W.heap.size W.heap vo (Br f.toNat (p.getD f.toNat Fn.zero).params.toNat n.toNat 0 k)∧BX W.heap w.heap.size [vp]∧BX W.heap w1.heap.size [zN]∧BX W.heap bk.heap.size [.string<|⟨#[108,111,111,112]⟩,zI<|(p.getD ((f).toNat) Fn.zero).params,vo]∧k≤(p.getD f.toNat Fn.zero).outs.length∧w.heap.size<bm.heap.size∧w1.heap.size<bm.heap.size∧bk.heap.size<bm.heap.size∧bm.heap.size≤W.heap.size) (fun⟨k,vo⟩=>(p.getD f.toNat Fn.zero).outs.length-k) (0,zN) ⟨rfl,rfl,rfl,rfl,rfl,rfl,rfl,trivial⟩ ⟨ex,(BT _ 0 _).up<|Ad<|An 46 dp,ey,gw,ew,oM,oM,oM,oM,oM⟩ ?_
  clear m1 oj lw jc m2 ol jd je ly gq jg ed bc j5 bd et kg c2 j7 ev kh c3 ey gw
  rintro⟨k,vo⟩ ρ138 b9 ⟨d7,bt,a2,a3,a4,lz,no,np,nq,nr⟩
  have ns:w.heap.size≤b9.heap.size:=d7.size
  have py:=a2.lt
  have pz:=a3.lt
  have q0:=a4.lt
  refine L9 [0] Z ?_
  by_cases gx:(k:Int)<((((p.getD ((f).toNat) Fn.zero).outs).length:Nat):Int)
  ·refine AA true Z Z (A5 gx) Aa<|Ai<|A0<|Ah Z<|A2<|A0<|A3<|L9 [0,0] Z<|Ac 2 Z<|L9 [0,0,0,0,3,4] Z<|Ag 3 Z ?_
   have j8:∀(wq:World),(Instr.build 46 #[(0,zI ((11:Nat):Int)),(1,zI f),(2,zI (k:Int)),(3,zI n)]).run Try.prog wq=.ok (.agg #[zI ((11:Nat):Int),zI f,zI (k:Int),zI n,zN]) wq:=by intro wq;kernel_rfl
   refine Bb (ps:=#[(0,zI ((11:Nat):Int)),(1,zI f),(2,zI (k:Int)),(3,zI n)]) (.agg #[zI ((11:Nat):Int),zI f,zI (k:Int),zI n,zN]) Fd (fun wq=>j8  wq) Aa ?_
   have q1:=a2.lt
   have q2:=a3.lt
   have q3:=a4.lt
   refine AI (z:=.agg #[zI 0,zI 0,zI 0,zI 0,zN]) DC Aa fun fs aq ki ez=>?_
   have j9:=aq.size
   have g0:=d7.trans aq
   have a9:=bt.ext (Ad<|An 46 dp) aq
   have aa:=a2.ext aq
   have ab:=a3.ext aq
   have ac:=a4.ext aq
   replace ez:BX fs.heap b9.heap.size [zI 0,zI 0,zI 0,zI 0,zN]:=ez
   refine AP (vs:=[zI ((11:Nat):Int),zI f,zI (k:Int),zI n,zN]) B8 Z Z Jl ez Z Z Aa fun c0 ar kj g1=>?_
   replace g1:BX c0.heap b9.heap.size [zI ((11:Nat):Int),zI f,zI (k:Int),zI n,zN]:=g1
   have nt:fs.heap.size≤c0.heap.size:=ar.size
   have kk:Az w c0:=ar.below g0 (fun _ h=>zE h) g0.size
   have gy:=a9.chg (Ad<|An 46 dp) ar fun _ h=>zA h
   have gz:=aa.chg ar (zB ·)
   have i0:=ab.chg ar (zB ·)
   have g3:=ac.chg ar (zB ·)
   refine Ai<|A0<|L9 [0,2,0] Z<|Ao (p:=zP bk.heap.size) 1 Bh Z Z Aa<|Al (p:=Ar (zP bk.heap.size) 1) (.inr Z) (zI<|(p.getD ((f).toNat) Fn.zero).params) AT Z (g3.ldp (i:=1) sM) Aa<|Ac 1 Z<|A3 ?_
   refine AW (S:=Nat×Value) (fun⟨i,vk⟩=>([(55,zI (i:Int)),(1,zI f),(2,zI n),(3,zP w.heap.size),(6,zP w1.heap.size),(9,zP bk.heap.size),(11,zP b9.heap.size),(45,zI ((((p.getD ((f).toNat) Fn.zero).outs).length:Nat):Int)),(46,zI (k:Int)),(54,zI<|(p.getD ((f).toNat) Fn.zero).params)])) (fun⟨i,vk⟩ W=>Az w W∧Fr (Be 5 (BR 46 1) 46) c0.heap.size W.heap.size W.heap vk (Cz 0 i)∧Fr (Be 5 (BR 46 dp) 46) bm.heap.size b9.heap.size W.heap vo (Br f.toNat (p.getD f.toNat Fn.zero).params.toNat n.toNat 0 k)∧BX W.heap w.heap.size [vp]∧BX W.heap w1.heap.size [zN]∧BX W.heap bk.heap.size [.string<|⟨#[108,111,111,112]⟩,zI<|(p.getD ((f).toNat) Fn.zero).params,vo]∧BX W.heap b9.heap.size [zI ((11:Nat):Int),zI f,zI (k:Int),zI n,vk]∧i≤(p.getD f.toNat Fn.zero).params.toNat∧b9.heap.size≤c0.heap.size∧b9.heap.size≤b9.heap.size∧w.heap.size≤bm.heap.size∧w.heap.size<c0.heap.size∧w1.heap.size<c0.heap.size∧bk.heap.size<c0.heap.size∧b9.heap.size<c0.heap.size∧c0.heap.size≤W.heap.size∧bm.heap.size≤W.heap.size) (fun⟨i,vk⟩=>(p.getD f.toNat Fn.zero).params.toNat-i) (0,zN) ⟨rfl,rfl,rfl,rfl,rfl,rfl,rfl,rfl,rfl,rfl,trivial⟩ ⟨kk,(BT _ 0 _).up<|Ad<|An 46 1,gy,gz,i0,g3,g1,oM,oM,oM,oM,oM,oM,oM,oM,oM,oM⟩ ?_
   clear a4 a3 a2 bt ki aq j9 g0 a9 aa ab ac kj ar gy gz i0 g3
   rintro⟨i,vk⟩ ρ158 f3 ⟨g4,d8,da,bu,bv,aj,a5,m0,huw,huf,hwb,nu,nv,nw,nx,ny,nz⟩
   have o0:w.heap.size≤f3.heap.size:=g4.size
   have q4:=bu.lt
   have q5:=bv.lt
   have q6:=aj.lt
   have q7:=a5.lt
   refine L9 [0] Z ?_
   by_cases i1:(i:Int)<(p.getD ((f).toNat) Fn.zero).params
   ·refine AA true Z Z (A5 i1) Aa<|Ai<|A0<|Ah Z<|A2<|A0<|A3<|L9 [0,0] Z<|Ac 2 Z<|Bd _ [0,1,0,3,3,4,0,4] mixed (by kernel_rfl)<|Ao (p:=zP b9.heap.size) 4 B5 Z Z Aa<|Al (p:=Ar (zP b9.heap.size) 4) (.inl Z) vk AU Z (a5.ldp (i:=4) sM) Aa<|Ag 1 Z<|As 86 [] [] [zI (i:Int)] Z Z JY Aa (CY _ (i:Int) oM) ?_
    rintro qp lh ⟨rfl,a1⟩
    refine⟨_,rfl,a1,?_⟩
    replace a1:=a1.of_drew
    have o1:=a1.size
    have kl:=g4.trans a1
    have c4:=d8.ext (Ad<|An 46 1) a1
    have c5:=da.ext (Ad<|An 46 dp) a1
    have c6:=bu.ext a1
    have c7:=bv.ext a1
    have c8:=aj.ext a1
    have c9:=a5.ext a1
    refine Ce (cs:=[zI ((2:Nat):Int),zI (i:Int),zI 0,zI 0,zN]) (y:=.mk 2 (i:Int) 0 0 []) (B:=lh.heap.size) (An 46 1) Bw B1 Z CP Z (Ds.mk1 (d:=1) (x:=.mk 2 (i:Int) 0 0 []) oM (E4 (a:=2) (b:=(i:Int)) (c:=0) (k:=0) oM oM oM oM)<|BT _ 0 _) oM Aa fun lj lm ad q8 km=>?_
    have o2:=ad.size
    have i2:=kl.trans ad
    have ca:=c4.ext (Ad<|An 46 1) ad
    have cb:=c5.ext (Ad<|An 46 dp) ad
    have cc:=c6.ext ad
    have cd:=c7.ext ad
    have ce:=c8.ext ad
    have cf:=c9.ext ad
    refine Cn (v:=vk) (a:=lj) (An 46 1) Bw B1 Z CP Z Z ca oM km oM oM (by rw[CA];omega) (by rw[CA];unfold maxLen;omega) Aa fun ft f4 qq au be i3=>?_
    have o3:lm.heap.size≤f4.heap.size:=au.size
    have i4:Az w f4:=au.below i2 (fun c hc=>zH<|be _ hc) i2.size
    have kn:=cb.chg (Ad<|An 46 dp) au fun c hc=>zH<|be _ hc
    have ko:=cc.chg au fun hm=>zH<|be _ hm
    have kp:=cd.chg au fun hm=>zH<|be _ hm
    have kq:=ce.chg au fun hm=>zH<|be _ hm
    have kr:=cf.chg au fun hm=>zH<|be _ hm
    refine Ao (p:=zP b9.heap.size) 4 B5 Z Z Aa (Bm (k:=4) (w:=f4) E1 Z Z (AM i3.isSlS) kr sM Aa fun fh av q9 g5=>?_)
    replace g5:BX fh.heap b9.heap.size [zI ((11:Nat):Int),zI f,zI (k:Int),zI n,ft]:=g5
    have o4:f4.heap.size≤fh.heap.size:=av.size
    have ks:Az w fh:=av.below i4 (fun _ h=>zE h) i4.size
    have kt:=kn.chg (Ad<|An 46 dp) av fun _ h=>zA h
    have ku:=ko.chg av (zB ·)
    have kv:=kp.chg av (zB ·)
    have kw:=kq.chg av (zB ·)
    have kx:=i3.chg (Ad<|An 46 1) av fun _ h=>zA h
    exact Ai<|Ab _ [0,0] Z<|AQ ((i+1:Nat):Int) Z Z (Bn oM oM) Aa<|Ac 1 Z ⟨(i+1,ft),_,rfl,zR,⟨ks,(by rw[Dn,Nat.zero_add];exact kx.up (Ad<|An 46 1)),kt,ku,kv,kw,g5,oM,oM,oM,oM,oM,oM,oM,oM,oM,oM⟩,zD⟩
   refine AA false Z Z (A6 i1) Aa<|Ai<|A0<|Ak Z<|A4<|AD<|AD<|Ay<|Ab _ [0,2,2,3,4,0,4] Z ?_
   have hik:i=(p.getD f.toNat Fn.zero).params.toNat:=by omega
   have hkm:Fr (Be 5 (BR 46 1) 46) c0.heap.size f3.heap.size f3.heap vk (Cz 0 (p.getD f.toNat Fn.zero).params.toNat):=by rw[← hik];exact d8
   refine Ao (p:=zP bk.heap.size) 2 B2 Z Z Aa<|Al (p:=Ar (zP bk.heap.size) 2) (.inr Z) vo AU Z (aj.ldp (i:=2) sM) Aa<|Au (p:=zP b9.heap.size) (.inr Z) [zI ((11:Nat):Int),zI f,zI (k:Int),zI n,vk] B8 Z (fun f1 b1=>LD.of_box<|BX.ext (w:=f3) a5 b1) Z Aa ?_
   refine Ce (cs:=[zI ((11:Nat):Int),zI f,zI (k:Int),zI n,vk]) (y:=.mk 11 f (k:Int) n<|Cz 0 (p.getD f.toNat Fn.zero).params.toNat) (B:=c0.heap.size) (An 46 dp) Bw B1 Z CP Z (Ds.le (Ds.mk1 (d:=2) (x:=.mk 11 f (k:Int) n<|Cz 0 (p.getD f.toNat Fn.zero).params.toNat) oM (E4 oM oM oM oM) hkm) oM) oM Aa fun lo mw aw qa ky=>?_
   have o5:=aw.size
   have i5:=g4.trans aw
   have cg:=da.ext (Ad<|An 46 dp) aw
   have ch:=bu.ext aw
   have ci:=bv.ext aw
   have cj:=aj.ext aw
   refine Cn (v:=vo) (a:=lo) (An 46 dp) Bw B1 Z CP Z Z cg oM ky oM oM (by rw[C5];omega) (by rw[C5];unfold maxLen;omega) Aa fun fu f5 qr bf cl i6=>?_
   have o6:mw.heap.size≤f5.heap.size:=bf.size
   have i7:Az w f5:=bf.below i5 (fun c hc=>zH<|cl _ hc) i5.size
   have kz:=ch.chg bf fun hm=>zH<|cl _ hm
   have l0:=ci.chg bf fun hm=>zH<|cl _ hm
   have l1:=cj.chg bf fun hm=>zH<|cl _ hm
   refine Ao (p:=zP bk.heap.size) 2 B2 Z Z Aa (Bm (k:=2) (w:=f5) E1 Z Z (AM i6.isSlS) l1 sM Aa fun fi bg qb g6=>?_)
   replace g6:BX fi.heap bk.heap.size [.string (⟨#[108,111,111,112]⟩),zI ((p.getD ((f).toNat) Fn.zero).params),fu]:=g6
   have o7:f5.heap.size≤fi.heap.size:=bg.size
   have l3:Az w fi:=bg.below i7 (fun _ h=>zE h) i7.size
   have l4:=kz.chg bg (zB ·)
   have l5:=l0.chg bg (zB ·)
   have l6:=i6.chg (Ad<|An 46 dp) bg fun _ h=>zA h
   exact Ai<|Ab _ [0,0] Z<|AQ ((k+1:Nat):Int) Z Z (Bn oM oM) Aa<|Ac 1 Z ⟨(k+1,fu),_,rfl,zR,⟨l3,(by rw[CS,Nat.zero_add,hft,hnt];exact l6.up (Ad<|An 46 dp)),l4,l5,g6,oM,oM,oM,oM,oM⟩,zD⟩
  refine AA false Z Z (A6 gx) Aa<|Ai<|A0<|Ak Z<|A4<|AD<|AD<|Ay<|L9 [2,3,3,4] Z ?_
  have hkk:k=(p.getD f.toNat Fn.zero).outs.length:=by omega
  have hrm:Fr (Be 5 (BR 46 dp) 46) bm.heap.size b9.heap.size b9.heap vo (Br f.toNat (p.getD f.toNat Fn.zero).params.toNat n.toNat 0 (p.getD f.toNat Fn.zero).outs.length):=by rw[← hkk];exact bt
  refine Au (p:=zP w.heap.size) (.inr Z) [vp] AL Z (fun f1 b1=>LD.of_box<|BX.ext (w:=b9) a2 b1) Z Aa<|As 87 [] [] [.agg #[vp]] Z Z JZ Aa (Cr _ dp vp (p) (hp.ext (Ax<|Aq dp) d7) hz oM) ?_
  rintro qs dz ⟨f6,rfl,ax,l7⟩
  refine⟨_,rfl,ax,?_⟩
  have o8:=ax.size
  have l8:=d7.trans ax
  have gn:=hrm.ext (Ad<|An 46 dp) ax
  have ae:=a2.ext ax
  have af:=a3.ext ax
  have ag:=a4.ext ax
  have qd:=ae.lt
  have qe:=af.lt
  have qf:=ag.lt
  refine AI (z:=.agg #[zN]) DD Aa fun fv ay qg g7=>?_
  have o9:=ay.size
  have i8:=l8.trans ay
  have go:=gn.ext (Ad<|An 46 dp) ay
  have cn:=af.ext ay
  have co:=ag.ext ay
  have bh:=l7.ext (Ad<|Aj 46 dp) ay
  replace g7:BX fv.heap dz.heap.size [zN]:=g7
  refine AP (vs:=[f6]) AL Z Z (by intro u hu;simp only[ze,z2,or_false]at hu;rcases hu with rfl <;> first|exact⟨rfl,rfl⟩|exact AM bh.isSlS) g7 Z Z Aa fun f7 az qh db=>?_
  replace db:BX f7.heap dz.heap.size [f6]:=db
  have oa:fv.heap.size≤f7.heap.size:=az.size
  have l9:Az w f7:=az.below i8 (fun _ h=>zE h) i8.size
  have la:=go.chg (Ad<|An 46 dp) az fun _ h=>zA h
  have lc:=cn.chg az (zB ·)
  have i9:=co.chg az (zB ·)
  have lf:=bh.chg (Ad<|Aj 46 dp) az fun _ h=>zA h
  refine Ai<|L9 [0,2,2,3,4,0,4] Z<|Ao (p:=zP dz.heap.size) 0 AO Z Z Aa<|Al (p:=Ar (zP dz.heap.size) 0) (.inr Z) f6 B7 Z (db.ldp (i:=0) sM) Aa<|Au (p:=zP bk.heap.size) (.inr Z) [.string<|⟨#[108,111,111,112]⟩,zI<|(p.getD ((f).toNat) Fn.zero).params,vo] BO Z (fun f1 b1=>LD.of_box<|BX.ext (w:=f7) i9 b1) Z Aa ?_
  refine Ic (cs:=[.string<|⟨#[108,111,111,112]⟩,zI<|(p.getD ((f).toNat) Fn.zero).params,vo]) (y:=Fn.mk (⟨#[108,111,111,112]⟩) ((p.getD ((f).toNat) Fn.zero).params)<|Br f.toNat (p.getD f.toNat Fn.zero).params.toNat n.toNat 0 (p.getD f.toNat Fn.zero).outs.length) (Aj 46 dp) C1 B4 Z CP Z (Ds.mkF (x:=⟨⟨#[108,111,111,112]⟩,(p.getD ((f).toNat) Fn.zero).params,Br f.toNat (p.getD f.toNat Fn.zero).params.toNat n.toNat 0 (p.getD f.toNat Fn.zero).outs.length⟩) (EU (a:=(p.getD ((f).toNat) Fn.zero).params) es.rng) la) Aa fun n5 n9 b0 qi lg=>?_
  have ob:=b0.size
  have ia:=l9.trans b0
  have e9:=lc.ext b0
  have eb:=lf.ext (Ad<|Aj 46 dp) b0
  have ec:=db.ext b0
  refine Id (v:=f6) (a:=n5) (Aj 46 dp) C1 B4 Z CP Z Z eb lg (fun b h8 h9=>by(try dsimp only at h9);omega) oM (by unfold maxLen;omega) Aa fun ck f8 qu bi cp ib=>?_
  have oc:n9.heap.size≤f8.heap.size:=bi.size
  have ic:Az w f8:=bi.below ia (fun c hc=>zH<|cp _ hc) ia.size
  have li:=e9.chg bi fun hm=>zH<|cp _ hm
  have lk:=ec.chg bi fun hm=>zH<|cp _ hm
  refine Ao (p:=zP dz.heap.size) 0 AO Z Z Aa (Bm (k:=0) (w:=f8) Hs Z Z (AM<|G1.isSlS ib) lk sM Aa fun ea bj qj dc=>?_)
  replace dc:BX ea.heap dz.heap.size [ck]:=dc
  have od:f8.heap.size≤ea.heap.size:=bj.size
  have ll:Az w ea:=bj.below ic (fun _ h=>zE h) ic.size
  have ln:=li.chg bj (zB ·)
  have lq:=ib.chg (Ad<|Aj 46 dp) bj fun c hc=>by have:=A9 hc;intro ng;(try dsimp only at ng);omega
  refine Ai<|A0<|L9 [2,3,0] Z ?_
  have hfr:Fr (Be 3 (CU 46 dp) 49) bm.heap.size ea.heap.size ea.heap ck (Fl p f n):=lq.fr (Ad (Aj 46 dp)) (B:=bm.heap.size) (fun b hb=>by(try dsimp only at hb);omega)
  refine Au (p:=zP dz.heap.size) (.inr Z) [ck] AL Z (fun f1 b1=>LD.of_box<|BX.ext (w:=ea) dc b1) Z Aa<|As 88 [] [] [.agg #[ck]] Z Z IK Aa (Bs _ dp ck (Fl p f n) (RN.of_frF hfr fun b hb=>by cases hb) hszx) ?_
  rintro qw fj ⟨rfl,ah⟩
  refine⟨_,rfl,ah,?_⟩
  have oe:=ah.size
  have dd:=ll.trans ah
  have bl:=ln.ext ah
  have a7:=dc.ext ah
  have bw:=hfr.ext (Ad<|Aj 46 dp) ah
  refine AZ (!(Cw<|Fl p f n)) Z Z Aa<|Ai ?_
  cases id:(!(Cw (Fl p f n)))
  ·refine Ak (by first|rfl|exact zW id)<|A2<|L9 [2,4,0] Z<|Au (p:=zP dz.heap.size) (.inr Z) [ck] AL Z (fun f1 b1=>LD.of_box<|BX.ext (w:=fj) a7 b1) Z Aa (AP (vs:=[ck]) AL Z Z (by intro u hu;simp only[ze,z2,or_false]at hu;rcases hu with rfl <;> first|exact⟨rfl,rfl⟩|exact AM bw.isSlS) bl Z Z Aa fun fk bn qk g8=>?_)
   replace g8:BX fk.heap w1.heap.size [ck]:=g8
   have og:fj.heap.size≤fk.heap.size:=bn.size
   have lr:Az w fk:=bn.below dd (fun _ h=>zE h) dd.size
   have ls:=bw.chg (Ad<|Aj 46 dp) bn fun _ h=>zA h
   refine Ac 1 Z<|A1 ?_
   have hcd:CH p f n=((0:Nat):Int):=by first|exact Cq a0 Ap|exact BD a0 Ap (Bc Ap)|exact BD a0 Ap Ap|exact BL a0 Ap (AX Ap)|exact BL a0 Ap Ap|exact Bz oM (Bc Ap)|exact By oM
   exact Bk (t0:=7) (ts:=[]) (cs:=[ck]) [zI ((0:Nat):Int)] Z AL Z g8 Z Z ⟨ck,by rw[hcd],lr,(by rw[Ha hcd];exact((ls.up<|Ad<|Aj 46 dp).low (B':=w.heap.size) oM))⟩
  refine Ah (by first|rfl|exact zW id)<|L9 [0,4,0] Z ?_
  have ja:∀(wq:World),(Instr.build 52 #[]).run Try.prog wq=.ok (.agg #[zN]) wq:=by intro wq;kernel_rfl
  refine Bb (ps:=#[]) (.agg #[zN]) D0 (fun wq=>ja  wq) Aa (AP (vs:=[zN]) AL Z Z CZ bl Z Z Aa fun fl bo qo g9=>?_)
  replace g9:BX fl.heap w1.heap.size [zN]:=g9
  have oh:fj.heap.size≤fl.heap.size:=bo.size
  have lu:Az w fl:=bo.below dd (fun _ h=>zE h) dd.size
  refine Ac 1 Z<|A1<|Am ?_
  have hcd:CH p f n=((3:Nat):Int):=by first|exact Cq a0 Ap|exact BD a0 Ap (Bc Ap)|exact BD a0 Ap Ap|exact BL a0 Ap (AX Ap)|exact BL a0 Ap Ap|exact Bz oM (Bc Ap)|exact By oM
  exact Bk (t0:=7) (ts:=[]) (cs:=[zN]) [zI ((3:Nat):Int)] Z AL Z g9 Z Z ⟨_,by rw[hcd],lu,D1⟩
 refine Ah (by first|rfl|exact zW gu)<|L9 [0,4,0] Z ?_
 have jb:∀(wq:World),(Instr.build 52 #[]).run Try.prog wq=.ok (.agg #[zN]) wq:=by intro wq;kernel_rfl
 refine Bb (ps:=#[]) (.agg #[zN]) D0 (fun wq=>jb  wq) Aa (AP (vs:=[zN]) AL Z Z CZ bs Z Z Aa fun fm ga qt gb=>?_)
 replace gb:BX fm.heap w1.heap.size [zN]:=gb
 have oi:bk.heap.size≤fm.heap.size:=ga.size
 have lv:Az w fm:=ga.below bd (fun _ h=>zE h) bd.size
 refine Ac 1 Z<|A1<|Am ?_
 have hcd:CH p f n=((4:Nat):Int):=by first|exact Cq a0 Ap|exact BD a0 Ap (Bc Ap)|exact BD a0 Ap Ap|exact BL a0 Ap (AX Ap)|exact BL a0 Ap Ap|exact Bz oM (Bc Ap)|exact By oM
 exact Bk (t0:=7) (ts:=[]) (cs:=[zN]) [zI ((4:Nat):Int)] Z AL Z gb Z Z ⟨_,by rw[hcd],lv,D1⟩
theorem En (w:World)(dp:Nat)(vp:Value)(p:List Fn)(f:Int)(n:Int)(hp:RP [] dp w.heap vp p)(_hf:BF f)(_hn:BF n)(hz:G0 p)(hdp:2≤dp) :
  Calls Try.prog 31 #[(.agg #[vp]),zI f,zI n] w (fun e w'=>∃v,e=.returned (.tuple #[.agg #[v],zI (CH p f n)])∧Az w w'∧Fr (Be 3 (CU 46 dp) 49) w.heap.size w'.heap.size w'.heap v (EW p f n)):=by
 refine Aw [.agg #[vp],zI f,zI n] 90 Try.func31 Z Z sM ?_
 have ja:Az w w:=Az.refl w
 have fh:=hp.lenle
 unfold maxLen at fh
 refine L9 [3,3,0] Z (Bf (cs:=#[vp]) Z Aa fun w1 gh kw ge=>?_)
 have gi:=gh.size
 have jb:=ja.trans gh
 replace ge:BX w1.heap w.heap.size [vp]:=ge
 have lq:=ge.lt
 refine AI (z:=.agg #[zN]) DD Aa fun w2 gf kx gj=>?_
 have gk:=gf.size
 have gl:=jb.trans gf
 have cw:=ge.ext gf
 replace gj:BX w2.heap w1.heap.size [zN]:=gj
 refine Ac 1 Z<|A0<|L9 [3,0] Z<|As 77 [] [] [zP w.heap.size] Z Z JW Aa (DR _ dp (zP w.heap.size) (p) (RN.box cw (RP.mk'<|hp.ext (Ax<|Aq dp) gl) sM) hz) ?_
 rintro e4 w4 ⟨rfl,dt⟩
 refine⟨_,rfl,dt,?_⟩
 have gm:=dt.size
 have dw:=gl.trans dt
 have cb:=cw.ext dt
 have cx:=gj.ext dt
 refine AZ (!(Cw p)) Z Z Aa<|Ai ?_
 cases jc:(!(Cw p))
 ·refine Ak (by first|rfl|exact zW jc)<|A2<|A0<|L9 [0,3,0,0,0,0,0,0] Z<|Ag 1 Z<|As 78 [] [] [zP w.heap.size,zI f] Z Z KR Aa (Em _ dp (zP w.heap.size) (p) _ (RN.box cb (RP.mk'<|hp.ext (Ax<|Aq dp) dw) sM) _hf hz) ?_
  rintro e6 w6 ⟨rfl,du⟩
  refine⟨_,rfl,du,?_⟩
  have ky:=du.size
  have dv:=dw.trans du
  have bm:=cb.ext du
  have cc:=cx.ext du
  refine AZ (!(FQ p f)) Z Z Aa<|Ag 1 Z ?_
  cases lr:(!(FQ p f))
  ·refine Ag 1 Z<|AJ 79 [] [] [zI n,zI ((0:Nat):Int),zI ((8:Nat):Int)] Z Z DB (Ae (e:=20) Z Z Z) (.bool (decide (((0:Nat):Int)≤n) && decide (n≤((8:Nat):Int)))) (fun wq=>AY wq _ _ _ _hn oM oM)<|AZ (!(decide (((0:Nat):Int)≤n) && decide (n≤((8:Nat):Int)))) Z Z (Ae (e:=20) Z Z Z)<|Ac 1 Z ?_
   cases jd:(!(decide (((0:Nat):Int)≤n) && decide (n≤((8:Nat):Int))))
   ·refine Ak (by first|rfl|exact zW jd)<|A2<|L9 [3,3,4] Z ?_
    have hokp:Cw p=true:=AX Ap
    have hrn:FQ p f=true:=by first|assumption|exact AX Ap
    have hin:D4 n 0 8=true:=by first|assumption|exact AX Ap
    have av:Fm p f n=0:=Ig (Ca hokp hrn) hin
    have gn:=Hc av
    have ls:=Dk.1 gn.2.1
    have fl:=Eq gn.1
    have hpl:=Er gn.1
    have hpar:=fl.par f.toNat oM
    have ly:=fl.outs f.toNat oM
    have hft:(f.toNat:Int)=f:=by omega
    have hnt:(n.toNat:Int)=n:=by omega
    have hszx:=hz.lp (n:=n) fl (f:=f) oM
    refine As 80 [] [] [zP w.heap.size] Z Z KS Aa (Dg _ dp (zP w.heap.size) (p) (RN.box bm (RP.mk'<|hp.ext (Ax<|Aq dp) dv) sM) hz oM) ?_
    rintro lz f1 ⟨f8,rfl,bs,dx⟩
    refine⟨_,rfl,bs,?_⟩
    have je:=bs.size
    have go:=dv.trans bs
    have cd:=bm.ext bs
    have ce:=cc.ext bs
    have kz:=cd.lt
    have l0:=ce.lt
    refine AI (z:=.agg #[zN]) DD Aa fun fs bt gp d6=>?_
    have dy:=bt.size
    have d7:=go.trans bt
    have d8:=cd.ext bt
    have d9:=ce.ext bt
    have aw:=dx.ext (Ad<|Aj 46 dp) bt
    replace d6:BX fs.heap f1.heap.size [zN]:=d6
    refine AP (vs:=[f8]) AL Z Z (by intro u hu;simp only[ze,z2,or_false]at hu;rcases hu with rfl <;> first|exact⟨rfl,rfl⟩|exact AM aw.isSlS) d6 Z Z Aa fun f0 bu gq cr=>?_
    replace cr:BX f0.heap f1.heap.size [f8]:=cr
    have dz:fs.heap.size≤f0.heap.size:=bu.size
    have ct:Az w f0:=bu.below d7 (fun _ h=>zE h) d7.size
    have cu:=d8.chg bu (zB ·)
    have da:=d9.chg bu (zB ·)
    have e0:=aw.chg (Ad<|Aj 46 dp) bu fun _ h=>zA h
    refine Ai<|L9 [0,2,0,0,0,2,0,3,4] Z<|Ao (p:=zP w.heap.size) 0 AO Z Z Aa<|Al (p:=Ar (zP w.heap.size) 0) (.inr Z) vp B7 Z (cu.ldp (i:=0) sM) Aa<|Ag 1 Z<|AN (v:=vp) ((f).toNat) C1 B4 Z Z hp.isSl oM sD Aa ?_
    obtain⟨cs18,gr,e1⟩:=hp.get (Aq dp) Fn.zero (k:=(f).toNat) sD
    obtain⟨l1,rfl,e2⟩:=RF.of gr
    have cy:=e2.rn.lenle
    unfold maxLen at cy
    refine Av (p:=AE vp ((f).toNat) 3) 1 Bh Z (e1 _<|AG.of_ext [] ct) Aa<|Al (p:=Ar (AE vp ((f).toNat) 3) 1) (.inr Z) (zI<|(p.getD ((f).toNat) Fn.zero).params) AT Z ((e1 _<|AG.of_ext [] ct).ld (i:=1) (by simp[Ch,Ci])) Aa ?_
    have e3:∀(wq:World),(Instr.build 49 #[(0,.string (⟨#[108,111,111,112]⟩)),(1,zI ((p.getD ((f).toNat) Fn.zero).params))]).run Try.prog wq=.ok (.agg #[.string (⟨#[108,111,111,112]⟩),zI ((p.getD ((f).toNat) Fn.zero).params),zN]) wq:=by intro wq;kernel_rfl
    refine Bb (ps:=#[(0,.string<|⟨#[108,111,111,112]⟩),(1,zI<|(p.getD ((f).toNat) Fn.zero).params)]) (.agg #[.string<|⟨#[108,111,111,112]⟩,zI<|(p.getD ((f).toNat) Fn.zero).params,zN]) Fd (fun wq=>e3  wq) Aa ?_
    have l2:=cu.lt
    have l3:=da.lt
    have l4:=cr.lt
    refine AI (z:=.agg #[.string ByteArray.empty,zI 0,zN]) Fg Aa fun ft bg gs db=>?_
    have e5:=bg.size
    have dc:=ct.trans bg
    have bn:=cu.ext bg
    have bo:=da.ext bg
    have bp:=e0.ext (Ad<|Aj 46 dp) bg
    have cv:=cr.ext bg
    replace db:BX ft.heap f0.heap.size [.string ByteArray.empty,zI 0,zN]:=db
    refine AP (vs:=[.string<|⟨#[108,111,111,112]⟩,zI<|(p.getD ((f).toNat) Fn.zero).params,zN]) BO Z Z (by intro u hu;simp only[ze,z2,or_false]at hu;rcases hu with rfl|rfl|rfl <;> first|exact⟨rfl,rfl⟩) db Z Z Aa fun f2 bh gt dd=>?_
    replace dd:BX f2.heap f0.heap.size [.string (⟨#[108,111,111,112]⟩),zI ((p.getD ((f).toNat) Fn.zero).params),zN]:=dd
    have jf:ft.heap.size≤f2.heap.size:=bh.size
    have gu:Az w f2:=bh.below dc (fun _ h=>zE h) dc.size
    have e7:=bn.chg bh (zB ·)
    have e8:=bo.chg bh (zB ·)
    have e9:=bp.chg (Ad<|Aj 46 dp) bh fun _ h=>zA h
    have ea:=cv.chg bh (zB ·)
    refine Ai<|A0<|La Z<|A3 ?_
    refine AW (S:=Nat×Value) (fun⟨k,vo⟩=>([(10,zI (k:Int)),(1,zI f),(2,zI n),(3,zP w.heap.size),(6,zP w1.heap.size),(8,zP f1.heap.size),(9,zP f0.heap.size)])) (fun⟨k,vo⟩ W=>Az w W∧Fr (Be 5 (BR 46 dp) 46) f2.heap.size W.heap.size W.heap vo (Br f.toNat (p.getD f.toNat Fn.zero).params.toNat n.toNat 0 k)∧Fr (Be 3 (CU 46 dp) 49) w6.heap.size f1.heap.size W.heap f8 p∧BX W.heap w.heap.size [vp]∧BX W.heap w1.heap.size [zN]∧BX W.heap f1.heap.size [f8]∧BX W.heap f0.heap.size [.string<|⟨#[108,111,111,112]⟩,zI<|(p.getD ((f).toNat) Fn.zero).params,vo]∧k≤(p.getD f.toNat Fn.zero).outs.length∧f1.heap.size≤f2.heap.size∧f1.heap.size≤f0.heap.size∧w.heap.size≤w6.heap.size∧w1.heap.size<w6.heap.size∧w.heap.size<f2.heap.size∧w1.heap.size<f2.heap.size∧f1.heap.size<f2.heap.size∧f0.heap.size<f2.heap.size∧f2.heap.size≤W.heap.size∧w6.heap.size≤W.heap.size) (fun⟨k,vo⟩=>(p.getD f.toNat Fn.zero).outs.length-k) (0,zN) ⟨rfl,rfl,rfl,rfl,rfl,rfl,rfl,trivial⟩ ⟨gu,(BT _ 0 _).up<|Ad<|An 46 dp,e9,e7,e8,ea,dd,oM,oM,oM,oM,oM,oM,oM,oM,oM,oM,oM⟩ ?_
    clear ja kw gh gi jb kx gf gk gl dt gm dw du dx bs gp bt dy d7 aw gq bu dz ct cu da e0 cy gs bg e5 dc bn bo bp gt bh e7 e8 e9 ea
    rintro⟨k,vo⟩ ρ33 f3 ⟨de,ax,ay,a5,a6,a7,a2,gv,gw,gx,gy,eb,jg,jh,ji,jj,jk,jl⟩
    have jm:w.heap.size≤f3.heap.size:=de.size
    have l5:=a5.lt
    have l6:=a6.lt
    have l7:=a7.lt
    have l8:=a2.lt
    refine A0<|L9 [0,0,2,0] Z<|Ag 1 Z<|Ao (p:=zP f0.heap.size) 1 Bh Z Z Aa<|Al (p:=Ar (zP f0.heap.size) 1) (.inr Z) (zI<|(p.getD ((f).toNat) Fn.zero).params) AT Z (a2.ldp (i:=1) sM) Aa ?_
    by_cases ec:(k:Int)<(p.getD ((f).toNat) Fn.zero).params
    ·refine AA true Z Z (A5 ec) Aa<|Ai<|Ah Z<|A2<|A0<|A3<|L9 [0,0,0,0,3,4] Z<|Ag 3 Z ?_
     have ed:∀(wq:World),(Instr.build 46 #[(0,zI ((11:Nat):Int)),(1,zI f),(2,zI (k:Int)),(3,zI n)]).run Try.prog wq=.ok (.agg #[zI ((11:Nat):Int),zI f,zI (k:Int),zI n,zN]) wq:=by intro wq;kernel_rfl
     refine Bb (ps:=#[(0,zI ((11:Nat):Int)),(1,zI f),(2,zI (k:Int)),(3,zI n)]) (.agg #[zI ((11:Nat):Int),zI f,zI (k:Int),zI n,zN]) Fd (fun wq=>ed  wq) Aa ?_
     have l9:=a5.lt
     have la:=a6.lt
     have lb:=a7.lt
     have lc:=a2.lt
     refine AI (z:=.agg #[zI 0,zI 0,zI 0,zI 0,zN]) DC Aa fun fu az gz df=>?_
     have ee:=az.size
     have dg:=de.trans az
     have ag:=ax.ext (Ad<|An 46 dp) az
     have ah:=ay.ext (Ad<|Aj 46 dp) az
     have ai:=a5.ext az
     have aj:=a6.ext az
     have ak:=a7.ext az
     have al:=a2.ext az
     replace df:BX fu.heap f3.heap.size [zI 0,zI 0,zI 0,zI 0,zN]:=df
     refine AP (vs:=[zI ((11:Nat):Int),zI f,zI (k:Int),zI n,zN]) B8 Z Z (by intro u hu;simp only[ze,z2,or_false]at hu;rcases hu with rfl|rfl|rfl|rfl|rfl <;> first|exact⟨rfl,rfl⟩) df Z Z Aa fun f5 b0 i0 dh=>?_
     replace dh:BX f5.heap f3.heap.size [zI ((11:Nat):Int),zI f,zI (k:Int),zI n,zN]:=dh
     have jn:fu.heap.size≤f5.heap.size:=b0.size
     have i1:Az w f5:=b0.below dg (fun _ h=>zE h) dg.size
     have ef:=ag.chg (Ad<|An 46 dp) b0 fun _ h=>zA h
     have eg:=ah.chg (Ad<|Aj 46 dp) b0 fun _ h=>zA h
     have eh:=ai.chg b0 (zB ·)
     have ei:=aj.chg b0 (zB ·)
     have ej:=ak.chg b0 (zB ·)
     have ek:=al.chg b0 (zB ·)
     refine Ai<|A0<|La Z<|A3 ?_
     refine AW (S:=Nat×Value) (fun⟨i,vk⟩=>([(12,zI (i:Int)),(1,zI f),(2,zI n),(3,zP w.heap.size),(6,zP w1.heap.size),(8,zP f1.heap.size),(9,zP f0.heap.size),(10,zI (k:Int)),(11,zP f3.heap.size)])) (fun⟨i,vk⟩ W=>Az w W∧Fr (Be 5 (BR 46 1) 46) f5.heap.size W.heap.size W.heap vk (Cz 0 i)∧Fr (Be 5 (BR 46 dp) 46) f2.heap.size f3.heap.size W.heap vo (Br f.toNat (p.getD f.toNat Fn.zero).params.toNat n.toNat 0 k)∧Fr (Be 3 (CU 46 dp) 49) w6.heap.size f1.heap.size W.heap f8 p∧BX W.heap w.heap.size [vp]∧BX W.heap w1.heap.size [zN]∧BX W.heap f1.heap.size [f8]∧BX W.heap f0.heap.size [.string<|⟨#[108,111,111,112]⟩,zI<|(p.getD ((f).toNat) Fn.zero).params,vo]∧BX W.heap f3.heap.size [zI ((11:Nat):Int),zI f,zI (k:Int),zI n,vk]∧i≤(p.getD f.toNat Fn.zero).params.toNat∧f3.heap.size≤f5.heap.size∧f3.heap.size≤f3.heap.size∧f1.heap.size≤f2.heap.size∧f1.heap.size≤f5.heap.size∧f1.heap.size≤f0.heap.size∧w.heap.size≤w6.heap.size∧w1.heap.size<w6.heap.size∧w.heap.size<f5.heap.size∧w1.heap.size<f5.heap.size∧f1.heap.size<f5.heap.size∧f0.heap.size<f5.heap.size∧f3.heap.size<f5.heap.size∧f5.heap.size≤W.heap.size∧f2.heap.size≤W.heap.size∧w6.heap.size≤W.heap.size) (fun⟨i,vk⟩=>(p.getD f.toNat Fn.zero).params.toNat-i) (0,zN) ⟨rfl,rfl,rfl,rfl,rfl,rfl,rfl,rfl,rfl,trivial⟩ ⟨i1,(BT _ 0 _).up<|Ad<|An 46 1,ef,eg,eh,ei,ej,ek,dh,oM,oM,oM,oM,oM,oM,oM,oM,oM,oM,oM,oM,oM,oM,oM,oM⟩ ?_
     clear a2 a7 a6 a5 ay ax gz az ee dg ag ah ai aj ak al i0 b0 ef eg eh ei ej ek
     rintro⟨i,vk⟩ ρ59 fi ⟨di,cf,cg,ch,bi,bj,bk,ab,ac,i2,huw,huf,hwb,gw,gx,gy,eb,jo,jp,jq,jr,js,jt,ju,jv⟩
     have jw:w.heap.size≤fi.heap.size:=di.size
     have lf:=bi.lt
     have lg:=bj.lt
     have lh:=bk.lt
     have li:=ab.lt
     have lj:=ac.lt
     refine A0<|L9 [0,0,2,0] Z<|Ag 1 Z<|Ao (p:=zP f0.heap.size) 1 Bh Z Z Aa<|Al (p:=Ar (zP f0.heap.size) 1) (.inr Z) (zI<|(p.getD ((f).toNat) Fn.zero).params) AT Z (ab.ldp (i:=1) sM) Aa ?_
     by_cases el:(i:Int)<(p.getD ((f).toNat) Fn.zero).params
     ·refine AA true Z Z (A5 el) Aa<|Ai<|Ah Z<|A2<|A0<|A3<|Ab _ [0,2,0,0,3,4,0,4] Z<|Ao (p:=zP f3.heap.size) 4 B5 Z Z Aa<|Al (p:=Ar (zP f3.heap.size) 4) (.inr Z) vk AU Z (ac.ldp (i:=4) sM) Aa<|Ag 1 Z ?_
      have em:∀(wq:World),(Instr.build 46 #[(0,zI ((2:Nat):Int)),(1,zI (i:Int))]).run Try.prog wq=.ok (.agg #[zI ((2:Nat):Int),zI (i:Int),zI 0,zI 0,zN]) wq:=by intro wq;kernel_rfl
      refine Bb (ps:=#[(0,zI ((2:Nat):Int)),(1,zI (i:Int))]) (.agg #[zI ((2:Nat):Int),zI (i:Int),zI 0,zI 0,zN]) Fd (fun wq=>em  wq) Aa (Ce (cs:=[zI ((2:Nat):Int),zI (i:Int),zI 0,zI 0,zN]) (y:=.mk 2 (i:Int) 0 0 []) (B:=fi.heap.size) (An 46 1) Bw B1 Z (by decide) Z (Ds.mk1 (d:=1) (x:=.mk 2 (i:Int) 0 0 []) oM (E4 oM oM oM oM)<|BT _ 0 _) oM Aa fun fy fz af lk i3=>?_)
      have jx:=af.size
      have en:=di.trans af
      have bv:=cf.ext (Ad<|An 46 1) af
      have bw:=cg.ext (Ad<|An 46 dp) af
      have bx:=ch.ext (Ad<|Aj 46 dp) af
      have bz:=bi.ext af
      have c0:=bj.ext af
      have c1:=bk.ext af
      have c2:=ab.ext af
      have c3:=ac.ext af
      refine Cn (v:=vk) (a:=fy) (An 46 1) Bw B1 Z (by decide) Z Z bv oM i3 oM oM (by rw[CA];omega) (by rw[CA];unfold maxLen;omega) Aa fun fv fj m0 b1 b7 eo=>?_
      have jy:fz.heap.size≤fj.heap.size:=b1.size
      have ep:Az w fj:=b1.below en (fun c hc=>zH<|b7 _ hc) en.size
      have i4:=bw.chg (Ad<|An 46 dp) b1 fun c hc=>zH<|b7 _ hc
      have i5:=bx.chg (Ad<|Aj 46 dp) b1 fun c hc=>zH<|b7 _ hc
      have i6:=bz.chg b1 fun hm=>zH<|b7 _ hm
      have i7:=c0.chg b1 fun hm=>zH<|b7 _ hm
      have i8:=c1.chg b1 fun hm=>zH<|b7 _ hm
      have i9:=c2.chg b1 fun hm=>zH<|b7 _ hm
      have ia:=c3.chg b1 fun hm=>zH<|b7 _ hm
      refine Ao (p:=zP f3.heap.size) 4 B5 Z Z Aa (Bm (k:=4) (w:=fj) E1 Z Z (AM eo.isSlS) ia sM Aa fun fm b2 ll dj=>?_)
      replace dj:BX fm.heap f3.heap.size [zI ((11:Nat):Int),zI f,zI (k:Int),zI n,fv]:=dj
      have jz:fj.heap.size≤fm.heap.size:=b2.size
      have ib:Az w fm:=b2.below ep (fun _ h=>zE h) ep.size
      have ic:=i4.chg (Ad<|An 46 dp) b2 fun _ h=>zA h
      have id:=i5.chg (Ad<|Aj 46 dp) b2 fun _ h=>zA h
      have ie:=i6.chg b2 (zB ·)
      have ig:=i7.chg b2 (zB ·)
      have ih:=i8.chg b2 (zB ·)
      have ii:=i9.chg b2 (zB ·)
      have ij:=eo.chg (Ad<|An 46 1) b2 fun _ h=>zA h
      exact Ai<|Ab _ [0,0,0] Z<|Ag 1 Z<|AQ ((i+1:Nat):Int) Z Z (Bn oM oM) Aa<|Ac 1 Z ⟨(i+1,fv),_,rfl,zR,⟨ib,(by rw[Dn,Nat.zero_add];exact ij.up (Ad<|An 46 1)),ic,id,ie,ig,ih,ii,dj,oM,oM,oM,oM,oM,oM,oM,oM,oM,oM,oM,oM,oM,oM,oM,oM⟩,zD⟩
     refine AA false Z Z (A6 el) Aa<|Ai<|Ak Z<|A4<|AD<|AD<|Ay<|Ab _ [0,2,2,3,4,0,4] Z ?_
     have hik:i=(p.getD f.toNat Fn.zero).params.toNat:=by omega
     have hkm:Fr (Be 5 (BR 46 1) 46) f5.heap.size fi.heap.size fi.heap vk (Cz 0 (p.getD f.toNat Fn.zero).params.toNat):=by rw[← hik];exact cf
     refine Ao (p:=zP f0.heap.size) 2 B2 Z Z Aa<|Al (p:=Ar (zP f0.heap.size) 2) (.inr Z) vo AU Z (ab.ldp (i:=2) sM) Aa<|Au (p:=zP f3.heap.size) (.inr Z) [zI ((11:Nat):Int),zI f,zI (k:Int),zI n,vk] B8 Z (fun fw eq=>LD.of_box<|BX.ext (w:=fi) ac eq) Z Aa ?_
     refine Ce (cs:=[zI ((11:Nat):Int),zI f,zI (k:Int),zI n,vk]) (y:=.mk 11 f (k:Int) n<|Cz 0 (p.getD f.toNat Fn.zero).params.toNat) (B:=f5.heap.size) (An 46 dp) Bw B1 Z (by decide) Z (Ds.le (Ds.mk1 (d:=2) (x:=.mk 11 f (k:Int) n<|Cz 0 (p.getD f.toNat Fn.zero).params.toNat) oM (E4 oM oM oM oM) hkm) oM) oM Aa fun lu lv b3 lm ik=>?_
     have k0:=b3.size
     have er:=di.trans b3
     have c4:=cg.ext (Ad<|An 46 dp) b3
     have c5:=ch.ext (Ad<|Aj 46 dp) b3
     have c6:=bi.ext b3
     have c7:=bj.ext b3
     have c8:=bk.ext b3
     have c9:=ab.ext b3
     have ca:=ac.ext b3
     refine Cn (v:=vo) (a:=lu) (An 46 dp) Bw B1 Z (by decide) Z Z c4 oM ik oM oM (by rw[C5];omega) (by rw[C5];unfold maxLen;omega) Aa fun fx fk m1 b8 bl es=>?_
     have k1:lv.heap.size≤fk.heap.size:=b8.size
     have et:Az w fk:=b8.below er (fun c hc=>zH<|bl _ hc) er.size
     have il:=c5.chg (Ad<|Aj 46 dp) b8 fun c hc=>zH<|bl _ hc
     have im:=c6.chg b8 fun hm=>zH<|bl _ hm
     have io:=c7.chg b8 fun hm=>zH<|bl _ hm
     have ip:=c8.chg b8 fun hm=>zH<|bl _ hm
     have iq:=c9.chg b8 fun hm=>zH<|bl _ hm
     have ir:=ca.chg b8 fun hm=>zH<|bl _ hm
     refine Ao (p:=zP f0.heap.size) 2 B2 Z Z Aa (Bm (k:=2) (w:=fk) E1 Z Z (AM es.isSlS) iq sM Aa fun fo b9 ln dk=>?_)
     replace dk:BX fo.heap f0.heap.size [.string (⟨#[108,111,111,112]⟩),zI ((p.getD ((f).toNat) Fn.zero).params),fx]:=dk
     have k2:fk.heap.size≤fo.heap.size:=b9.size
     have is:Az w fo:=b9.below et (fun _ h=>zE h) et.size
     have it:=il.chg (Ad<|Aj 46 dp) b9 fun _ h=>zA h
     have iu:=im.chg b9 (zB ·)
     have iv:=io.chg b9 (zB ·)
     have iw:=ip.chg b9 (zB ·)
     have k3:=ir.chg b9 (zB ·)
     have eu:=es.chg (Ad<|An 46 dp) b9 fun _ h=>zA h
     exact Ai<|Ab _ [0,0,0] Z<|Ag 1 Z<|AQ ((k+1:Nat):Int) Z Z (Bn oM oM) Aa<|Ac 1 Z ⟨(k+1,fx),_,rfl,zR,⟨is,(by rw[CS,Nat.zero_add,hft,hnt];exact eu.up (Ad<|An 46 dp)),it,iu,iv,iw,dk,oM,oM,oM,oM,oM,oM,oM,oM,oM,oM,oM⟩,zD⟩
    refine AA false Z Z (A6 ec) Aa<|Ai<|Ak Z<|A4<|AD<|AD<|Ay<|A0<|L9 [0] Z ?_
    have hkk:k=(p.getD f.toNat Fn.zero).outs.length:=by omega
    have hrm:Fr (Be 5 (BR 46 dp) 46) f2.heap.size f3.heap.size f3.heap vo (Br f.toNat (p.getD f.toNat Fn.zero).params.toNat n.toNat 0 (p.getD f.toNat Fn.zero).outs.length):=by rw[← hkk];exact ax
    refine Ac 1 Z<|A3 ?_
    refine AW (S:=Nat) (fun i=>([(13,zI (i:Int)),(3,zP w.heap.size),(6,zP w1.heap.size),(8,zP f1.heap.size),(9,zP f0.heap.size)])) (fun i W=>Az w W∧Fr (Be 5 (BR 46 dp) 46) f2.heap.size f3.heap.size W.heap vo (Br f.toNat (p.getD f.toNat Fn.zero).params.toNat n.toNat 0 (p.getD f.toNat Fn.zero).outs.length)∧Fr (Be 3 (CU 46 dp) 49) w6.heap.size f1.heap.size W.heap f8 p∧BX W.heap w.heap.size [vp]∧BX W.heap w1.heap.size [zN]∧BX W.heap f1.heap.size [f8]∧BX W.heap f0.heap.size [.string<|⟨#[108,111,111,112]⟩,zI<|(p.getD ((f).toNat) Fn.zero).params,vo]∧i≤p.length∧(w1.heap.size<w6.heap.size∧w1.heap.size<f2.heap.size)∧(∀j,j<i→BM (p.getD j Fn.zero).name (⟨#[108,111,111,112]⟩:ByteArray)=false)∧f2.heap.size≤W.heap.size∧w6.heap.size≤W.heap.size) (fun i=>p.length-i) 0 ⟨rfl,rfl,rfl,rfl,rfl,trivial⟩ ⟨de,hrm,ay,a5,a6,a7,a2,oM,oM,(by intro j hj;omega),oM,oM⟩ ?_
    clear a2 a7 a6 a5 ay ax
    rintro i ρ102 f6 ⟨ad,b4,b5,a0,aa,a3,a1,gg,eb,hnj,ix,iy⟩
    have iz:w.heap.size≤f6.heap.size:=ad.size
    have k4:=a0.lt
    have k5:=aa.lt
    have k6:=a3.lt
    have k7:=a1.lt
    refine A0<|L9 [0,0,2,0,0] Z<|Ag 1 Z<|Ao (p:=zP w.heap.size) 0 AO Z Z Aa<|Al (p:=Ar (zP w.heap.size) 0) (.inr Z) vp B7 Z (a0.ldp (i:=0) sM) Aa<|AS (v:=vp) C1 Z hp.isSl Aa ?_
    by_cases cz:(i:Int)<(p.length:Int)
    ·refine AA true Z Z (A5 cz) Aa<|Ai<|Ah Z<|A2<|A0<|A3<|A0<|Bd _ [0,1,0,0,0,1,0,1,0] mixed (by kernel_rfl)<|Ao (p:=zP w.heap.size) 0 AO Z Z Aa<|Al (p:=Ar (zP w.heap.size) 0) (.inl Z) vp B7 Z (a0.ldp (i:=0) sM) Aa<|Ag 1 Z ?_
     refine AN (v:=vp) i C1 B4 Z Z hp.isSl Z sD Aa ?_
     obtain⟨cs110,ev,d0⟩:=hp.get (Aq dp) Fn.zero (k:=i) sD
     obtain⟨k8,rfl,ew⟩:=RF.of ev
     have dl:=ew.rn.lenle
     unfold maxLen at dl
     refine Av (p:=AE vp i 3) 0 BS Z (d0 _<|AG.of_ext [] ad.drew) Aa<|Al (p:=Ar (AE vp i 3) 0) (.inl Z) (.string<|(p.getD i Fn.zero).name) Dq Z ((d0 _<|AG.of_ext [] ad.drew).ld (i:=0) (by simp[Ch,Ci])) Aa<|Ao (p:=zP f0.heap.size) 0 BS Z Z Aa<|Al (p:=Ar (zP f0.heap.size) 0) (.inl Z) (.string<|⟨#[108,111,111,112]⟩) Dq Z (a1.ldp (i:=0) sM) Aa ?_
     cases d1:BM ((p.getD i Fn.zero).name) (⟨#[108,111,111,112]⟩)
     ·refine DY false u9 Z Z d1 Aa<|Ai<|Ak Z<|A2<|Ab _ [0,0,0] Z<|Ag 1 Z<|AQ ((i+1:Nat):Int) Z Z (Bn oM oM) Aa<|Ac 1 Z ?_
      have hdrw:f6.drew.heap.size=f6.heap.size:=rfl
      exact⟨i+1,_,rfl,zR,⟨ad.drew,b4,b5,a0,aa,a3,a1,oM,oM,(by intro j hj;by_cases h9:j=i;(subst h9;assumption);exact hnj j oM),oM,oM⟩,zD⟩
     refine DY true u9 Z Z d1 Aa<|Ai<|Ah Z<|L9 [0,4,0] Z ?_
     have dm:∀(wq:World),(Instr.build 52 #[]).run Try.prog wq=.ok (.agg #[zN]) wq:=by intro wq;kernel_rfl
     refine Bb (ps:=#[]) (.agg #[zN]) D0 (fun wq=>dm  wq) Aa (AP (vs:=[zN]) AL Z Z CZ aa Z Z Aa fun fa a4 k9 ci=>?_)
     replace ci:BX fa.heap w1.heap.size [zN]:=ci
     replace a4:=a4.of_drew
     have j0:f6.heap.size≤fa.heap.size:=a4.size
     have ex:Az w fa:=a4.below ad (fun _ h=>zE h) ad.size
     have ka:=b4.chg (Ad<|An 46 dp) a4 fun _ h=>zA h
     have kb:=b5.chg (Ad<|Aj 46 dp) a4 fun _ h=>zA h
     have kc:=a0.chg a4 (zB ·)
     have kd:=a3.chg a4 (zB ·)
     have ke:=a1.chg a4 (zB ·)
     refine Ac 1 Z<|A1<|AC<|Am<|Am<|AC<|Am ?_
     have hcd:CH p f n=((4:Nat):Int):=by first|exact Cq av (E5 (k:=i) oM Ap)|exact BD av hnm (Bc Ap)|exact BL av hnm (AX Ap)|(have h9:=FH (f:=f) (Bc Ap);rw[By oM];exact h9)|(have h9:=CW (f:=f) (AX Ap) Ap;rw[By oM];exact h9)|(have h9:=CW (f:=f) (AX Ap) (Bc Ap);rw[By oM];exact h9)|exact Bz (Ca (AX Ap) Ap) (Bc Ap)|exact Bz (Ca (AX Ap) (AX Ap)) (Bc Ap)|exact Bz (Ca (AX Ap) Ap) Ap
     exact Bk (t0:=7) (ts:=[]) (cs:=[zN]) [zI ((4:Nat):Int)] Z AL Z ci Z Z ⟨_,by rw[hcd],ex,D1⟩
    refine AA false Z Z (A6 cz) Aa<|Ai<|Ak Z<|A4<|AD<|AD<|Ay<|L9 [0,2,2,3,4,0,4] Z ?_
    have hnm:EV p=false:=JH fun j hj=>hnj j oM
    refine Ao (p:=zP f1.heap.size) 0 AO Z Z Aa<|Al (p:=Ar (zP f1.heap.size) 0) (.inr Z) f8 B7 Z (a3.ldp (i:=0) sM) Aa<|Au (p:=zP f0.heap.size) (.inr Z) [.string<|⟨#[108,111,111,112]⟩,zI<|(p.getD ((f).toNat) Fn.zero).params,vo] BO Z (fun fw eq=>LD.of_box<|BX.ext (w:=f6) a1 eq) Z Aa ?_
    refine Ce (cs:=[.string<|⟨#[108,111,111,112]⟩,zI<|(p.getD ((f).toNat) Fn.zero).params,vo]) (y:=Fn.mk (⟨#[108,111,111,112]⟩) ((p.getD ((f).toNat) Fn.zero).params)<|Br f.toNat (p.getD f.toNat Fn.zero).params.toNat n.toNat 0 (p.getD f.toNat Fn.zero).outs.length) (B:=f2.heap.size) (Aj 46 dp) C1 B4 Z (by decide) Z (Ds.mkF (x:=⟨⟨#[108,111,111,112]⟩,(p.getD ((f).toNat) Fn.zero).params,Br f.toNat (p.getD f.toNat Fn.zero).params.toNat n.toNat 0 (p.getD f.toNat Fn.zero).outs.length⟩) (EU (a:=(p.getD ((f).toNat) Fn.zero).params) e2.rng) b4) oM Aa fun fp fq ae kf ey=>?_
    have j1:=ae.size
    have d2:=ad.trans ae
    have ba:=b5.ext (Ad<|Aj 46 dp) ae
    have bb:=a0.ext ae
    have bc:=aa.ext ae
    have bd:=a3.ext ae
    have be:=a1.ext ae
    refine JF (v:=f8) (a:=fp) (Aj 46 dp) C1 B4 Z (by decide) Z Z ba ey oM oM (by unfold maxLen;omega) Aa fun f4 f9 lw am bf d3=>?_
    have j2:fq.heap.size≤f9.heap.size:=am.size
    have d4:Az w f9:=am.below d2 (fun c hc=>zH<|bf _ hc) d2.size
    have ez:=bb.chg am fun hm=>zH<|bf _ hm
    have g0:=bc.chg am fun hm=>zH<|bf _ hm
    have g1:=bd.chg am fun hm=>zH<|bf _ hm
    have g2:=be.chg am fun hm=>zH<|bf _ hm
    refine Ao (p:=zP f1.heap.size) 0 AO Z Z Aa (Bm (k:=0) (w:=f9) Hs Z Z (AM<|G1.isSlS d3) g1 sM Aa fun f7 an kg bq=>?_)
    replace bq:BX f7.heap f1.heap.size [f4]:=bq
    have j3:f9.heap.size≤f7.heap.size:=an.size
    have g3:Az w f7:=an.below d4 (fun _ h=>zE h) d4.size
    have g4:=ez.chg an (zB ·)
    have g5:=g0.chg an (zB ·)
    have g6:=g2.chg an (zB ·)
    have g7:=d3.chg (Ad<|Aj 46 dp) an fun c hc=>by have:=A9 hc;intro lo;(try dsimp only at lo);omega
    refine Ai<|A0<|L9 [3,0] Z ?_
    have hfr:Fr (Be 3 (CU 46 dp) 49) w6.heap.size f7.heap.size f7.heap f4 (Fl p f n):=g7.fr (Ad (Aj 46 dp)) (B:=w6.heap.size) (fun b hb=>by(try dsimp only at hb);omega)
    refine As 77 [] [] [zP f1.heap.size] Z Z JW Aa (DR _ dp (zP f1.heap.size) (Fl p f n) (RN.box bq (RP.mk'<|RN.of_frF2 hfr fun b hb=>by cases hb) sM) hszx) ?_
    rintro lx fb ⟨rfl,a9⟩
    refine⟨_,rfl,a9,?_⟩
    have j4:=a9.size
    have br:=g3.trans a9
    have ao:=g4.ext a9
    have ap:=g5.ext a9
    have a8:=bq.ext a9
    have aq:=g6.ext a9
    have b6:=hfr.ext (Ad<|Aj 46 dp) a9
    refine AZ (!(Cw<|Fl p f n)) Z Z Aa<|Ai ?_
    cases d5:(!(Cw (Fl p f n)))
    ·refine Ak (by first|rfl|exact zW d5)<|A2<|L9 [2,4,0] Z<|Au (p:=zP f1.heap.size) (.inr Z) [f4] AL Z (fun fw eq=>LD.of_box<|BX.ext (w:=fb) a8 eq) Z Aa (AP (vs:=[f4]) AL Z Z (by intro u hu;simp only[ze,z2,or_false]at hu;rcases hu with rfl <;> first|exact⟨rfl,rfl⟩|exact AM b6.isSlS) ap Z Z Aa fun fc ar kh cj=>?_)
     replace cj:BX fc.heap w1.heap.size [f4]:=cj
     have j5:fb.heap.size≤fc.heap.size:=ar.size
     have g8:Az w fc:=ar.below br (fun _ h=>zE h) br.size
     have ki:=ao.chg ar (zB ·)
     have kj:=a8.chg ar (zB ·)
     have kk:=aq.chg ar (zB ·)
     have g9:=b6.chg (Ad<|Aj 46 dp) ar fun _ h=>zA h
     refine Ac 1 Z<|A1 ?_
     have hcd:CH p f n=((0:Nat):Int):=by first|exact Cq av (E5 (k:=i) oM Ap)|exact BD av hnm (Bc Ap)|exact BL av hnm (AX Ap)|(have h9:=FH (f:=f) (Bc Ap);rw[By oM];exact h9)|(have h9:=CW (f:=f) (AX Ap) Ap;rw[By oM];exact h9)|(have h9:=CW (f:=f) (AX Ap) (Bc Ap);rw[By oM];exact h9)|exact Bz (Ca (AX Ap) Ap) (Bc Ap)|exact Bz (Ca (AX Ap) (AX Ap)) (Bc Ap)|exact Bz (Ca (AX Ap) Ap) Ap
     exact Bk (t0:=7) (ts:=[]) (cs:=[f4]) [zI ((0:Nat):Int)] Z AL Z cj Z Z ⟨f4,by rw[hcd],g8,(by rw[Ha hcd];exact((g9.up<|Ad<|Aj 46 dp).low (B':=w.heap.size) oM))⟩
    refine Ah (by first|rfl|exact zW d5)<|L9 [0,4,0] Z ?_
    have dn:∀(wq:World),(Instr.build 52 #[]).run Try.prog wq=.ok (.agg #[zN]) wq:=by intro wq;kernel_rfl
    refine Bb (ps:=#[]) (.agg #[zN]) D0 (fun wq=>dn  wq) Aa (AP (vs:=[zN]) AL Z Z CZ ap Z Z Aa fun fd au kl ck=>?_)
    replace ck:BX fd.heap w1.heap.size [zN]:=ck
    have j6:fb.heap.size≤fd.heap.size:=au.size
    have ga:Az w fd:=au.below br (fun _ h=>zE h) br.size
    have km:=ao.chg au (zB ·)
    have kn:=a8.chg au (zB ·)
    have ko:=aq.chg au (zB ·)
    have kp:=b6.chg (Ad<|Aj 46 dp) au fun _ h=>zA h
    refine Ac 1 Z<|A1<|Am ?_
    have hcd:CH p f n=((3:Nat):Int):=by first|exact Cq av (E5 (k:=i) oM Ap)|exact BD av hnm (Bc Ap)|exact BL av hnm (AX Ap)|(have h9:=FH (f:=f) (Bc Ap);rw[By oM];exact h9)|(have h9:=CW (f:=f) (AX Ap) Ap;rw[By oM];exact h9)|(have h9:=CW (f:=f) (AX Ap) (Bc Ap);rw[By oM];exact h9)|exact Bz (Ca (AX Ap) Ap) (Bc Ap)|exact Bz (Ca (AX Ap) (AX Ap)) (Bc Ap)|exact Bz (Ca (AX Ap) Ap) Ap
    exact Bk (t0:=7) (ts:=[]) (cs:=[zN]) [zI ((3:Nat):Int)] Z AL Z ck Z Z ⟨_,by rw[hcd],ga,D1⟩
   refine Ah (by first|rfl|exact zW jd)<|L9 [0,4,0] Z ?_
   have dq:∀(wq:World),(Instr.build 52 #[]).run Try.prog wq=.ok (.agg #[zN]) wq:=by intro wq;kernel_rfl
   refine Bb (ps:=#[]) (.agg #[zN]) D0 (fun wq=>dq  wq) Aa (AP (vs:=[zN]) AL Z Z CZ cc Z Z Aa fun fe cl kq cm=>?_)
   replace cm:BX fe.heap w1.heap.size [zN]:=cm
   have j7:w6.heap.size≤fe.heap.size:=cl.size
   have gb:Az w fe:=cl.below dv (fun _ h=>zE h) dv.size
   have kr:=bm.chg cl (zB ·)
   refine Ac 1 Z<|A1<|Am ?_
   have hcd:CH p f n=((2:Nat):Int):=by first|exact Cq av (E5 (k:=i) oM Ap)|exact BD av hnm (Bc Ap)|exact BL av hnm (AX Ap)|(have h9:=FH (f:=f) (Bc Ap);rw[By oM];exact h9)|(have h9:=CW (f:=f) (AX Ap) Ap;rw[By oM];exact h9)|(have h9:=CW (f:=f) (AX Ap) (Bc Ap);rw[By oM];exact h9)|exact Bz (Ca (AX Ap) Ap) (Bc Ap)|exact Bz (Ca (AX Ap) (AX Ap)) (Bc Ap)|exact Bz (Ca (AX Ap) Ap) Ap
   exact Bk (t0:=7) (ts:=[]) (cs:=[zN]) [zI ((2:Nat):Int)] Z AL Z cm Z Z ⟨_,by rw[hcd],gb,D1⟩
  refine Ac 4 Z<|Ah Z<|L9 [0,4,0] Z ?_
  have dr:∀(wq:World),(Instr.build 52 #[]).run Try.prog wq=.ok (.agg #[zN]) wq:=by intro wq;kernel_rfl
  refine Bb (ps:=#[]) (.agg #[zN]) D0 (fun wq=>dr  wq) Aa (AP (vs:=[zN]) AL Z Z CZ cc Z Z Aa fun ff cn ks co=>?_)
  replace co:BX ff.heap w1.heap.size [zN]:=co
  have j8:w6.heap.size≤ff.heap.size:=cn.size
  have gc:Az w ff:=cn.below dv (fun _ h=>zE h) dv.size
  have kt:=bm.chg cn (zB ·)
  refine Ac 1 Z<|A1<|Am ?_
  have hcd:CH p f n=((2:Nat):Int):=by first|exact Cq av (E5 (k:=i) oM Ap)|exact BD av hnm (Bc Ap)|exact BL av hnm (AX Ap)|(have h9:=FH (f:=f) (Bc Ap);rw[By oM];exact h9)|(have h9:=CW (f:=f) (AX Ap) Ap;rw[By oM];exact h9)|(have h9:=CW (f:=f) (AX Ap) (Bc Ap);rw[By oM];exact h9)|exact Bz (Ca (AX Ap) Ap) (Bc Ap)|exact Bz (Ca (AX Ap) (AX Ap)) (Bc Ap)|exact Bz (Ca (AX Ap) Ap) Ap
  exact Bk (t0:=7) (ts:=[]) (cs:=[zN]) [zI ((2:Nat):Int)] Z AL Z co Z Z ⟨_,by rw[hcd],gc,D1⟩
 refine Ah (by first|rfl|exact zW jc)<|L9 [0,4,0] Z ?_
 have ds:∀(wq:World),(Instr.build 52 #[]).run Try.prog wq=.ok (.agg #[zN]) wq:=by intro wq;kernel_rfl
 refine Bb (ps:=#[]) (.agg #[zN]) D0 (fun wq=>ds  wq) Aa (AP (vs:=[zN]) AL Z Z CZ cx Z Z Aa fun fg cp ku cq=>?_)
 replace cq:BX fg.heap w1.heap.size [zN]:=cq
 have j9:w4.heap.size≤fg.heap.size:=cp.size
 have gd:Az w fg:=cp.below dw (fun _ h=>zE h) dw.size
 have kv:=cb.chg cp (zB ·)
 refine Ac 1 Z<|A1<|Am ?_
 have hcd:CH p f n=((1:Nat):Int):=by first|exact Cq av (E5 (k:=i) oM Ap)|exact BD av hnm (Bc Ap)|exact BL av hnm (AX Ap)|(have h9:=FH (f:=f) (Bc Ap);rw[By oM];exact h9)|(have h9:=CW (f:=f) (AX Ap) Ap;rw[By oM];exact h9)|(have h9:=CW (f:=f) (AX Ap) (Bc Ap);rw[By oM];exact h9)|exact Bz (Ca (AX Ap) Ap) (Bc Ap)|exact Bz (Ca (AX Ap) (AX Ap)) (Bc Ap)|exact Bz (Ca (AX Ap) Ap) Ap
 exact Bk (t0:=7) (ts:=[]) (cs:=[zN]) [zI ((1:Nat):Int)] Z AL Z cq Z Z ⟨_,by rw[hcd],gd,D1⟩
end
end Go.Proofs.Ytjnbnlniafmblaa
