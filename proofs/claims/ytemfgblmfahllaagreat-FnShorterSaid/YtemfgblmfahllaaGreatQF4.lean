/- Xa, Xb, Xh, Ya, Yb, Yc, Yd, Ye, Yr: texts of this claim, joined; what the claim does not come to is left out. -/
import Derived.Test.YtemfgblmfahllaaGreatQF3
import Derived.Test.YtemfgblmfahllaaGreatProg
set_option linter.unusedVariables false
set_option linter.unusedSimpArgs false
namespace Go.Proofs.YtemfgblmfahllaaGreat
open Go Go.RowKit
section
set_option maxHeartbeats 4000000
set_option maxRecDepth 100000
attribute [local irreducible] LW
theorem Hj {p:Prop}(h:p:=by intro u hu;simp only[ze,z2,or_false]at hu;rcases hu with rfl|rfl|rfl|rfl|rfl <;> first|exact⟨rfl,rfl⟩):p:=h
theorem Qd {p:Prop}(h:p:=by simp only[zc,zf,zh];rfl):p:=h
theorem Qe {p:Prop}(h:p:=by first|exact PC.var oM|exact PC.num oM):p:=h
theorem Dd (w:World)(gg gs:Nat)(sv:Value)(cs:List UInt8)(n0:Nat)(pp:Value)(dp:Nat)(l0:Int)(pl:Bool)(p:List Fn)(vars:Int)(hgg:gs<gg)(hs:EL w.heap gs sv cs n0)(hB0:BX w.heap gg [zP gs,pp,zI l0,.bool pl])(hp:RN [gs,gg] (rP (KH dp)) w.heap pp p)(_hvars:Bd vars)(hv:0≤vars∧vars≤1000)(hn:n0+20≤1000000000000) :
  Calls Tryz.prog 163 #[zP gg,zI vars] w (fun e w'=>∃(ex:Ex) (n1:Nat),e=.returned (.agg #[zI ex.kind,zI ex.num,zI ex.pick,zI ex.count,zN])∧AB [gs,gg] w w'∧EL w'.heap gs sv cs n1∧(n0≤n1∧n1≤n0+20)∧BX w'.heap gg [zP gs,pp,zI l0,.bool pl]∧UC ex∧ex.kids=[]∧PC p vars ex):=by
 refine Aw [zP gg,zI vars] 28 Tryz.func163 Z Z sM ?_
 have bh:AB [gs,gg] w w:=AB.refl [gs,gg] w
 have ca:=hs.lt
 have bi:=hB0.lt
 refine fQ [3] Z ?_
 have bu:=hB0.lt
 refine B9 (z:=.agg #[zI 0,zI 0,zI 0,zI 0,zN]) IB Ac fun w1 ad bv ae=>?_
 have bj:w.heap.size≤w1.heap.size:=ad.size
 have b4:AB [gs,gg] w w1:=bh.ext ad
 have a9:=hs.ext ad
 have a0:=hB0.ext ad
 replace ae:BX w1.heap w.heap.size [zI 0,zI 0,zI 0,zI 0,zN]:=ae
 refine Aj<|A0<|fQ [0,0,0,0,0,0,2,4,0,0] Z<|Af 1 Z ?_
 by_cases b5:((0:Nat):Int)<vars
 ·refine C0 true Z Z (A7 b5) Ac<|Af 2 Z<|Bf Z (Ag (e:=7) Z Z Z)<|Ao (p:=zP gg) 0 EP Z Z (Ag (e:=7) Z Z Z)<|Ai (p:=Au (zP gg) 0) (.inr Z) (zP gs) IA Z (a0.ldp (i:=0) sM) (Ag (e:=7) Z Z Z) ?_
  refine AK 102 [] [] [zP gs,zI ((4:Nat):Int)] Z Z P8 (Ag (e:=7) Z Z Z) (CP _ gs _ _ _ ((4:Nat):Int) a9 oM oM sD) ?_
  rintro e4 w4 ⟨c2,n4,rfl,af,b6,bw,b7⟩
  refine⟨_,rfl,?_⟩
  have bk:w1.heap.size≤w4.heap.size:=af.size
  have b8:AB [gs,gg] w w4:=b4.trans (af.sub Gj)
  have ag:=a0.chg af (zB ·)
  have b9:=ae.chg af (zB ·)
  refine BF (!c2) Z Z (Ag (e:=7) Z Z Z)<|Ae 1 Z ?_
  cases ba:(!c2)
  ·refine Ak (by first|rfl|exact zW ba)<|A4<|fQ [0,0,0,2,4,0,4] Z<|Af 1 Z<|Bf Z Ac<|Ao (p:=zP gg) 0 EP Z Z Ac<|Ai (p:=Au (zP gg) 0) (.inr Z) (zP gs) IA Z (ag.ldp (i:=0) sM) Ac<|AK 110 [] [] [zP gs] Z Z TU Ac (Gm _ gs _ _ _ b6 oM) ?_
   rintro e8 w8 ⟨c1,n8,rfl,ah,bl,bx,bb⟩
   refine⟨_,rfl,?_⟩
   have bm:w4.heap.size≤w8.heap.size:=ah.size
   have bn:AB [gs,gg] w w8:=b8.trans (ah.sub Gj)
   have bo:=ag.chg ah (zB ·)
   have ai:=b9.chg ah (zB ·)
   have aa:∀(wq:World),(Instr.build 153 #[(0,zI ((1:Nat):Int)),(1,zI c1)]).run Tryz.prog wq=.ok (.agg #[zI ((1:Nat):Int),zI c1,zI 0,zI 0,zN]) wq:=by intro wq;kernel_rfl
   refine Ch (ps:=#[(0,zI ((1:Nat):Int)),(1,zI c1)]) (.agg #[zI ((1:Nat):Int),zI c1,zI 0,zI 0,zN]) Qd (fun wq=>aa  wq) Ac (Bh (vs:=[zI ((1:Nat):Int),zI c1,zI 0,zI 0,zN]) Bq Z Z Hj ai Z Z Ac fun c3 a1 bp a6=>?_)
   replace a6:BX c3.heap w.heap.size [zI ((1:Nat):Int),zI c1,zI 0,zI 0,zN]:=a6
   have bc:w8.heap.size≤c3.heap.size:=a1.size
   have aj:AB [gs,gg] w c3:=bn.fresh a1 (fun _ h=>zE h)
   have ak:=bl.chg a1 fun c hc=>zH<|Ab hc
   have al:=bo.chg a1 (zB ·)
   exact Aj<|A3<|BK (cs:=[zI ((1:Nat):Int),zI c1,zI 0,zI 0,zN]) Z Bq Z a6 Z ⟨.mk ((1:Nat):Int) c1 0 0 [],n8,rfl,aj,ak,⟨zO,zO⟩,al,Lk oM oM oM oM,rfl,Qe⟩
  refine Ah (by first|rfl|exact zW ba)<|fQ [0,0,0,2,0,4,0,4] Z<|Af 1 Z<|Bf Z Ac<|Ao (p:=zP gg) 0 EP Z Z Ac<|Ai (p:=Au (zP gg) 0) (.inr Z) (zP gs) IA Z (ag.ldp (i:=0) sM) Ac<|Af 1 Z ?_
  refine AK 101 [] [] [zP gs,zI vars] Z Z Ff Ac (Ba _ gs _ _ _ (vars) b6 oM _hvars sD) ?_
  rintro cb c4 ⟨bz,c8,rfl,a2,am,bq,an⟩
  refine⟨_,rfl,?_⟩
  have bd:w4.heap.size≤c4.heap.size:=a2.size
  have ao:AB [gs,gg] w c4:=b8.trans (a2.sub Gj)
  have ap:=ag.chg a2 (zB ·)
  have aq:=b9.chg a2 (zB ·)
  have ab:∀(wq:World),(Instr.build 153 #[(0,zI ((2:Nat):Int)),(1,zI bz)]).run Tryz.prog wq=.ok (.agg #[zI ((2:Nat):Int),zI bz,zI 0,zI 0,zN]) wq:=by intro wq;kernel_rfl
  refine Ch (ps:=#[(0,zI ((2:Nat):Int)),(1,zI bz)]) (.agg #[zI ((2:Nat):Int),zI bz,zI 0,zI 0,zN]) Qd (fun wq=>ab  wq) Ac (Bh (vs:=[zI ((2:Nat):Int),zI bz,zI 0,zI 0,zN]) Bq Z Z Hj aq Z Z Ac fun c5 a3 br a7=>?_)
  replace a7:BX c5.heap w.heap.size [zI ((2:Nat):Int),zI bz,zI 0,zI 0,zN]:=a7
  have be:c4.heap.size≤c5.heap.size:=a3.size
  have ar:AB [gs,gg] w c5:=ao.fresh a3 (fun _ h=>zE h)
  have au:=am.chg a3 fun c hc=>zH<|Ab hc
  have av:=ap.chg a3 (zB ·)
  exact Aj<|A3<|At<|BK (cs:=[zI ((2:Nat):Int),zI bz,zI 0,zI 0,zN]) Z Bq Z a7 Z ⟨.mk ((2:Nat):Int) bz 0 0 [],c8,rfl,ar,au,⟨zO,zO⟩,av,Lk oM oM oM oM,rfl,Qe⟩
 refine C0 false Z Z (A8 b5) Ac<|Ae 8 Z<|Ak Z<|A4<|fQ [0,0,0,2,4,0,4] Z<|Af 1 Z<|Bf Z Ac<|Ao (p:=zP gg) 0 EP Z Z Ac<|Ai (p:=Au (zP gg) 0) (.inr Z) (zP gs) IA Z (a0.ldp (i:=0) sM) Ac<|AK 110 [] [] [zP gs] Z Z TU Ac (Gm _ gs _ _ _ a9 oM) ?_
 rintro cc c6 ⟨c0,c9,rfl,a4,aw,bs,ax⟩
 refine⟨_,rfl,?_⟩
 have bf:w1.heap.size≤c6.heap.size:=a4.size
 have ay:AB [gs,gg] w c6:=b4.trans (a4.sub Gj)
 have az:=a0.chg a4 (zB ·)
 have b0:=ae.chg a4 (zB ·)
 have ac:∀(wq:World),(Instr.build 153 #[(0,zI ((1:Nat):Int)),(1,zI c0)]).run Tryz.prog wq=.ok (.agg #[zI ((1:Nat):Int),zI c0,zI 0,zI 0,zN]) wq:=by intro wq;kernel_rfl
 refine Ch (ps:=#[(0,zI ((1:Nat):Int)),(1,zI c0)]) (.agg #[zI ((1:Nat):Int),zI c0,zI 0,zI 0,zN]) Qd (fun wq=>ac  wq) Ac (Bh (vs:=[zI ((1:Nat):Int),zI c0,zI 0,zI 0,zN]) Bq Z Z Hj b0 Z Z Ac fun c7 a5 bt a8=>?_)
 replace a8:BX c7.heap w.heap.size [zI ((1:Nat):Int),zI c0,zI 0,zI 0,zN]:=a8
 have bg:c6.heap.size≤c7.heap.size:=a5.size
 have b1:AB [gs,gg] w c7:=ay.fresh a5 (fun _ h=>zE h)
 have b2:=aw.chg a5 fun c hc=>zH<|Ab hc
 have b3:=az.chg a5 (zB ·)
 exact Aj<|A3<|BK (cs:=[zI ((1:Nat):Int),zI c0,zI 0,zI 0,zN]) Z Bq Z a8 Z ⟨.mk ((1:Nat):Int) c0 0 0 [],c9,rfl,b1,b2,⟨zO,zO⟩,b3,Lk oM oM oM oM,rfl,Qe⟩
theorem Gp {p:Prop}(h:p:=by first|(rw[eP oM];rfl)|(rw[eQ oM];rfl)|(rw[eR oM];rfl)|(rw[eS oM];rfl)|(rw[eT (by assumption) (by assumption) (by assumption) (by assumption) (by assumption) (by assumption) (by assumption) (by assumption) (by assumption)])):p:=h
theorem fM (w:World)(k:Int)(_hk:Bd k)  :
  Calls Tryz.prog 165 #[zI k] w (fun e w'=>e=.returned (zI (kn k))∧w'=w):=by
 refine Aw [zI k] 17 Tryz.func165 Z Z sM ?_
 have a0:w=w:=rfl
 refine fR Z<|A0<|fR Z<|A5<|A0<|fQ [0,0] Z ?_
 by_cases a1:k=((1:Nat):Int)
 ·exact Av true Z Z (A7 a1) Ac<|Ae 1 Z<|Ah Z<|A4<|Ah Z<|fR Z<|A3<|AM<|At<|Al [2] Z (zI ((0:Nat):Int)) Z ⟨Gp,a0⟩
 refine Av false Z Z (A8 a1) Ac<|Ae 1 Z<|Ak Z<|Ad _ [0,0] Z ?_
 by_cases a2:k=((2:Nat):Int)
 ·exact Av true Z Z (A7 a2) Ac<|Ae 1 Z<|Ah Z<|fR Z<|A3<|AM<|At<|Al [2] Z (zI ((0:Nat):Int)) Z ⟨Gp,a0⟩
 refine Av false Z Z (A8 a2) Ac<|Ae 1 Z<|Ak Z<|A0<|fQ [0,0] Z ?_
 by_cases a3:k=((3:Nat):Int)
 ·exact Av true Z Z (A7 a3) Ac<|Ae 1 Z<|Ah Z<|A4<|Ah Z<|fR Z<|A3<|AM<|At<|Al [2] Z (zI ((2:Nat):Int)) Z ⟨Gp,a0⟩
 refine Av false Z Z (A8 a3) Ac<|Ae 1 Z<|Ak Z<|fQ [0,0] Z ?_
 by_cases a4:k=((4:Nat):Int)
 ·exact Av true Z Z (A7 a4) Ac<|Ae 1 Z<|Ah Z<|A4<|Ah Z<|fR Z<|A3<|AM<|At<|Al [2] Z (zI ((2:Nat):Int)) Z ⟨Gp,a0⟩
 refine Av false Z Z (A8 a4) Ac<|Ae 1 Z<|Ak Z<|fQ [0,0] Z ?_
 by_cases a5:k=((5:Nat):Int)
 ·exact Av true Z Z (A7 a5) Ac<|Ae 1 Z<|Ah Z<|A4<|Ah Z<|fR Z<|A3<|AM<|At<|Al [2] Z (zI ((2:Nat):Int)) Z ⟨Gp,a0⟩
 refine Av false Z Z (A8 a5) Ac<|Ae 1 Z<|Ak Z<|fQ [0,0] Z ?_
 by_cases a6:k=((6:Nat):Int)
 ·exact Av true Z Z (A7 a6) Ac<|Ae 1 Z<|Ah Z<|A4<|Ah Z<|fR Z<|A3<|AM<|At<|Al [2] Z (zI ((2:Nat):Int)) Z ⟨Gp,a0⟩
 refine Av false Z Z (A8 a6) Ac<|Ae 1 Z<|Ak Z<|Ad _ [0,0] Z ?_
 by_cases a7:k=((9:Nat):Int)
 ·exact Av true Z Z (A7 a7) Ac<|Ae 1 Z<|Ah Z<|fR Z<|A3<|AM<|At<|Al [2] Z (zI ((2:Nat):Int)) Z ⟨Gp,a0⟩
 refine Av false Z Z (A8 a7) Ac<|Ae 1 Z<|Ak Z<|fQ [0,0] Z ?_
 by_cases a8:k=((7:Nat):Int)
 ·exact Av true Z Z (A7 a8) Ac<|Ae 1 Z<|Ah Z<|fR Z<|A3<|AM<|At<|Al [2] Z (zI ((1:Nat):Int)) Z ⟨Gp,a0⟩
 refine Av false Z Z (A8 a8) Ac<|Ae 1 Z<|Ak Z<|fQ [0,0] Z ?_
 by_cases a9:k=((8:Nat):Int)
 ·exact Av true Z Z (A7 a9) Ac<|Ae 1 Z<|Ah Z<|fR Z<|A3<|AM<|At<|Al [2] Z (zI ((3:Nat):Int)) Z ⟨Gp,a0⟩
 exact Av false Z Z (A8 a9) Ac<|Ae 1 Z<|Ak Z<|A4<|fR Z<|A3<|Al [2] Z (zI (-1)) Z ⟨Gp,a0⟩
def GX (d:Nat):Prop:=∀(w:World) (gg gs:Nat) (sv:Value) (cs:List UInt8) (n0:Nat) (pp:Value) (dp:Nat) (l0:Int) (pl:Bool) (p:List Fn) (vars funcs:Int) (hgg:gs<gg) (hs:EL w.heap gs sv cs n0) (hB0:BX w.heap gg [.pointer (some ⟨gs,0,none⟩),pp,.int .i64 l0,.bool pl]) (hp:RN [gs,gg] (rP (KH dp)) w.heap pp p) (_hvars:Bd vars) (_hfuncs:Bd funcs) (hv:0≤vars∧vars+((d:Nat):Int)≤1000) (hfu:0≤funcs∧funcs≤((p.length:Nat):Int)) (hpr:ZZ p) (hd:d≤8) (hn:n0+Ib d≤1000000000000) (hl:MQ d-1000000≤l0∧l0≤1000),Calls Tryz.prog 104 #[.pointer (some ⟨gg,0,none⟩),.int .i64 vars,.int .i64 funcs,.int .i64 ((d:Nat):Int)] w (fun e w'=>∃(v:Value) (ex:Ex) (n1:Nat) (l1:Int),e=.returned (.agg #[.int .i64 ex.kind,.int .i64 ex.num,.int .i64 ex.pick,.int .i64 ex.count,v])∧AB [gs,gg] w w'∧EL w'.heap gs sv cs n1∧(n0≤n1∧n1≤n0+(Ib d))∧BX w'.heap gg [.pointer (some ⟨gs,0,none⟩),pp,.int .i64 l1,.bool pl]∧Fr (DB 5 (Qs 153 d) 153) w.heap.size w'.heap.size w'.heap v ex.kids∧UC ex∧QT p funcs vars pl d l0 l1 ex)
def GC (d:Nat):Prop:=∀(w:World) (gg gs:Nat) (sv:Value) (cs:List UInt8) (n0:Nat) (pp:Value) (dp:Nat) (l0:Int) (pl:Bool) (p:List Fn) (vars funcs:Int) (hgg:gs<gg) (hs:EL w.heap gs sv cs n0) (hB0:BX w.heap gg [.pointer (some ⟨gs,0,none⟩),pp,.int .i64 l0,.bool pl]) (hp:RN [gs,gg] (rP (KH dp)) w.heap pp p) (_hvars:Bd vars) (_hfuncs:Bd funcs) (hv:0≤vars∧vars+((d:Nat):Int)≤1000) (hfu:0≤funcs∧funcs≤((p.length:Nat):Int)) (hpr:ZZ p) (hd:1≤d∧d≤8) (hn:n0+(20+4*Ib (d-1))≤1000000000000) (hl:1≤l0∧l0≤1000),Calls Tryz.prog 164 #[.pointer (some ⟨gg,0,none⟩),.int .i64 vars,.int .i64 funcs,.int .i64 ((d:Nat):Int)] w (fun e w'=>∃(v:Value) (ex:Ex) (n1:Nat) (l1:Int),e=.returned (.agg #[.int .i64 ex.kind,.int .i64 ex.num,.int .i64 ex.pick,.int .i64 ex.count,v])∧AB [gs,gg] w w'∧EL w'.heap gs sv cs n1∧(n0≤n1∧n1≤n0+(20+4*Ib (d-1)))∧BX w'.heap gg [.pointer (some ⟨gs,0,none⟩),pp,.int .i64 l1,.bool pl]∧Fr (DB 5 (Qs 153 d) 153) w.heap.size w'.heap.size w'.heap v ex.kids∧UC ex∧QT p funcs vars pl d (l0+1) l1 ex)
theorem J6 (w:World)(gg gs:Nat)(sv:Value)(cs:List UInt8)(n0:Nat)(pp:Value)(dp:Nat)(l0:Int)(pl:Bool)(p:List Fn)(vars:Int)(funcs:Int)(d:Nat)(hgg:gs<gg)(hs:EL w.heap gs sv cs n0)(hB0:BX w.heap gg [zP gs,pp,zI l0,.bool pl])(hp:RN [gs,gg] (rP (KH dp)) w.heap pp p)(_hvars:Bd vars)(_hfuncs:Bd funcs)(hv:0≤vars∧vars+(d:Int)≤1000)(hfu:0≤funcs∧funcs≤(p.length:Int))(hpr:ZZ p)(hd:1≤d∧d≤8)(hn:n0+(20+4*Ib (d-1))≤1000000000000)(hl:1≤l0∧l0≤1000)(IH:GX (d-1)) :
  Calls Tryz.prog 164 #[zP gg,zI vars,zI funcs,zI (d:Int)] w (fun e w'=>∃(v:Value) (ex:Ex) (n1:Nat) (l1:Int),e=.returned (.agg #[zI ex.kind,zI ex.num,zI ex.pick,zI ex.count,v])∧AB [gs,gg] w w'∧EL w'.heap gs sv cs n1∧(n0≤n1∧n1≤n0+(20+4*Ib (d-1)))∧BX w'.heap gg [zP gs,pp,zI l1,.bool pl]∧Fr (DB 5 (Qs 153 d) 153) w.heap.size w'.heap.size w'.heap v ex.kids∧UC ex∧QT p funcs vars pl d (l0+1) l1 ex):=by
 refine Aw [zP gg,zI vars,zI funcs,zI (d:Int)] 89 Tryz.func164 Z Z sM ?_
 have dx:AB [gs,gg] w w:=AB.refl [gs,gg] w
 have ia:=hs.lt
 have ei:=hB0.lt
 have hst:=PB (d-1)
 have hnd:=Ic (d-1)
 have hnl:=T4 (d:=d-1) oM
 have hpl:=hpr.len
 refine fQ [3] Z ?_
 have gh:=hB0.lt
 refine B9 (z:=.agg #[zI 0,zI 0,zI 0,zI 0,zN]) IB Ac fun w1 bm ej ce=>?_
 have ch:w.heap.size≤w1.heap.size:=bm.size
 have cf:AB [gs,gg] w w1:=dx.ext bm
 have bn:=hs.ext bm
 have ap:=hB0.ext bm
 replace ce:BX w1.heap w.heap.size [zI 0,zI 0,zI 0,zI 0,zN]:=ce
 refine Aj<|A0<|fQ [0,0] Z<|Af 1 Z ?_
 by_cases dy:funcs=((0:Nat):Int)
 ·refine Av true Z Z (A7 dy) Ac<|Aj<|Ah Z<|fQ [0,0,4,4] Z<|Af 2 Z<|AK 163 [] [] [zP gg,zI vars] Z Z Rn Ac (Dd _ gg gs sv cs n0 pp dp l0 pl p (vars) oM bn ap (hp.chg (Bi<|B6 dp) cf) _hvars oM oM) ?_
  rintro e4 w4 ⟨x4,n4,rfl,ci,ek,gi,el,em,cj,gj⟩
  refine⟨_,rfl,?_⟩
  have en:w1.heap.size≤w4.heap.size:=ci.size
  have eo:AB [gs,gg] w w4:=cf.trans ci
  have ep:=ce.chg ci fun hm=>zH<|DY hm
  refine Bh (vs:=[zI x4.kind,zI x4.num,zI x4.pick,zI x4.count,zN]) Bq Z Z Hj ep Z Z Ac fun w6 cg gk ck=>?_
  replace ck:BX w6.heap w.heap.size [zI x4.kind,zI x4.num,zI x4.pick,zI x4.count,zN]:=ck
  have eq:w4.heap.size≤w6.heap.size:=cg.size
  have er:AB [gs,gg] w w6:=eo.fresh cg (fun _ h=>zE h)
  have es:=ek.chg cg fun c hc=>zH<|Ab hc
  have et:=el.chg cg (zB ·)
  exact Aj<|A3<|At<|BK (cs:=[zI x4.kind,zI x4.num,zI x4.pick,zI x4.count,zN]) Z Bq Z ck Z ⟨zN,x4,n4,l0,rfl,er,es,⟨zO,zO⟩,et,(by rw[cj];exact H3 _ _ _),em,(by exact PC.okc (by assumption) d)⟩
 refine Av false Z Z (A8 dy) Ac<|Aj<|Ak Z<|A4<|fQ [0,0,0,2,0,4,0,3,4] Z<|Af 1 Z<|Bf Z Ac<|Ao (p:=zP gg) 0 EP Z Z Ac<|Ai (p:=Au (zP gg) 0) (.inr Z) (zP gs) IA Z (ap.ldp (i:=0) sM) Ac<|Af 1 Z ?_
 refine AK 101 [] [] [zP gs,zI funcs] Z Z Ff Ac (Ba _ gs _ _ _ (funcs) bn oM _hfuncs sD) ?_
 rintro e9 w9 ⟨f1,n9,rfl,bo,eu,gl,dz⟩
 refine⟨_,rfl,?_⟩
 have cl:w1.heap.size≤w9.heap.size:=bo.size
 have e0:AB [gs,gg] w w9:=cf.trans (bo.sub Gj)
 have ba:=ap.chg bo (zB ·)
 have bb:=ce.chg bo (zB ·)
 have bp:∀(wq:World),(Instr.build 153 #[(0,zI ((10:Nat):Int)),(1,zI f1)]).run Tryz.prog wq=.ok (.agg #[zI ((10:Nat):Int),zI f1,zI 0,zI 0,zN]) wq:=by intro wq;kernel_rfl
 refine Ch (ps:=#[(0,zI ((10:Nat):Int)),(1,zI f1)]) (.agg #[zI ((10:Nat):Int),zI f1,zI 0,zI 0,zN]) (by simp only[zc,zf,zh];rfl) (fun wq=>bp  wq) Ac ?_
 have ev:=ba.lt
 have ew:=bb.lt
 refine B9 (z:=.agg #[zI 0,zI 0,zI 0,zI 0,zN]) IB Ac fun fx ah cm bc=>?_
 have bq:w9.heap.size≤fx.heap.size:=ah.size
 have br:AB [gs,gg] w fx:=e0.ext ah
 have bd:=eu.ext ah
 have af:=ba.ext ah
 have ag:=bb.ext ah
 replace bc:BX fx.heap w9.heap.size [zI 0,zI 0,zI 0,zI 0,zN]:=bc
 refine Bh (vs:=[zI ((10:Nat):Int),zI f1,zI 0,zI 0,zN]) Bq Z Z Hj bc Z Z Ac fun gp ai cn ay=>?_
 replace ay:BX gp.heap w9.heap.size [zI ((10:Nat):Int),zI f1,zI 0,zI 0,zN]:=ay
 have bs:fx.heap.size≤gp.heap.size:=ai.size
 have aj:AB [gs,gg] w gp:=br.fresh ai (fun _ h=>zE h)
 have bt:=bd.chg ai fun c hc=>zH<|Ab hc
 have az:=af.chg ai (zB ·)
 have bu:=ag.chg ai (zB ·)
 refine Aj<|A0<|B7 _ [0,0,0,1,0,0,1,0,1,0,0] mixed (by kernel_rfl)<|Af 1 Z ?_
 have hxk:f1<funcs:=by omega
 refine Bf Z Ac<|Ao (p:=zP gg) 1 VM Z Z Ac<|Ai (p:=Au (zP gg) 1) (.inl Z) pp XU Z (az.ldp (i:=1) sM) Ac<|AX (hp.isPtr) Z Ac ?_
 obtain⟨cs20,co,bv⟩:=RN.at (B6 _) hp
 obtain⟨a0,rfl,a5⟩:=RPr.of co
 have b8:=a5.lenle
 unfold maxLen at b8
 refine AP (p:=pp) 0 C8 Z (bv _ aj.drew) Ac<|Ai (p:=Au pp 0) (.inl Z) a0 CO Z ((bv _ aj.drew).ld (i:=0) (by simp[Ge,Gf])) Ac<|Ao (p:=zP w9.heap.size) 1 Cc Z Z Ac<|Ai (p:=Au (zP w9.heap.size) 1) (.inl Z) (zI f1) AG Z (ay.ldp (i:=1) sM) Ac ?_
 refine AH (v:=a0) ((f1).toNat) Im DJ Z Z a5.isSl oM sD Ac<|Ae 1 Z<|A0<|B7 _ [0,0,0,1,0,0,0,1,0,4,0,4] mixed (by kernel_rfl) ?_
 have ib:=hpr.outs (f1).toNat oM
 have hpa:=hpr.par (f1).toNat oM
 refine Af 1 Z<|Bf Z Ac<|Ao (p:=zP gg) 0 EP Z Z Ac<|Ai (p:=Au (zP gg) 0) (.inl Z) (zP gs) IA Z (az.ldp (i:=0) sM) Ac<|Af 1 Z<|AX (RN.isPtr<|RN.ptr (AR dp) (by decide) Fn.zero a5 sD) Z Ac ?_
 obtain⟨cs21,cp,a3⟩:=a5.get (AR dp) Fn.zero (k:=(f1).toNat) sD
 obtain⟨b0,rfl,be⟩:=RF.of cp
 have b9:=be.rn.lenle
 unfold maxLen at b9
 refine AP (p:=AE a0 ((f1).toNat) 3) 2 Cv Z (a3 _ aj.drew.drew) Ac<|Ai (p:=Au (AE a0 ((f1).toNat) 3) 2) (.inl Z) b0 BG Z ((a3 _ aj.drew.drew).ld (i:=2) (by simp[Ge,Gf])) Ac<|AU (v:=b0) DS Z be.rn.isSl Ac ?_
 refine AK 101 [] [] [zP gs,zI ((((p.getD ((f1).toNat) Fn.zero).outs).length:Nat):Int)] Z Z Ff Ac (Ba _ gs _ _ _ ((((p.getD ((f1).toNat) Fn.zero).outs).length:Nat):Int) bt oM oM sD) ?_
 rintro ic gq ⟨f2,i3,rfl,a2,cq,ey,cr⟩
 refine⟨_,rfl,?_⟩
 replace a2:=a2.of_drew
 replace a2:=a2.of_drew
 have bw:gp.heap.size≤gq.heap.size:=a2.size
 have bx:AB [gs,gg] w gq:=aj.trans (a2.sub Gj)
 have bz:=az.chg a2 (zB ·)
 have c0:=bu.chg a2 (zB ·)
 have c1:=ay.chg a2 (zB ·)
 refine Ao (p:=zP w9.heap.size) 2 Et Z Z Ac (Bn (k:=2) (w:=gq) GS Z Z ⟨rfl,rfl⟩ c1 sM Ac fun gr ak ct b1=>?_)
 replace b1:BX gr.heap w9.heap.size [zI ((10:Nat):Int),zI f1,zI f2,zI 0,zN]:=b1
 have c2:gq.heap.size≤gr.heap.size:=ak.size
 have a6:AB [gs,gg] w gr:=bx.fresh ak (fun _ h=>zE h)
 have bf:=cq.chg ak fun c hc=>zH<|Ab hc
 have b2:=bz.chg ak (zB ·)
 have bg:=c0.chg ak (zB ·)
 refine Aj ?_
 refine A0<|Kl (S:=Int×Int×Nat) (fun⟨k,cnt,m1⟩=>([(0,zP gg),(1,zI vars),(2,zI funcs),(3,zI (d:Int)),(8,zP w.heap.size),(9,zP w9.heap.size),(10,AE a0 ((f1).toNat) 3)])) (fun⟨k,cnt,m1⟩ W=>AB [gs,gg] w W∧EL W.heap gs sv cs m1∧BX W.heap gg [zP gs,pp,zI l0,.bool pl]∧BX W.heap w.heap.size [zI 0,zI 0,zI 0,zI 0,zN]∧BX W.heap w9.heap.size [zI k,zI f1,zI f2,zI cnt,zN]∧((k=10∧cnt=0)∨(k=11∧(((p.getD (f1).toNat Fn.zero).outs.length:Nat):Int)=(p.getD (f1).toNat Fn.zero).params∧0≤cnt∧cnt≤8))∧(n0≤m1∧m1≤n0+8)) ?_ ?_
 ·refine A0<|B7 _ [0,0,0,1,0,0,0,0,1,0,0,0,0,0,1,4,0] mixed (by kernel_rfl)<|Af 1 Z<|AX (RN.isPtr<|RN.ptr (AR dp) (by decide) Fn.zero a5 sD) Z Ac<|AP (p:=AE a0 ((f1).toNat) 3) 2 Cv Z (a3 _ a6.drew) Ac<|Ai (p:=Au (AE a0 ((f1).toNat) 3) 2) (.inl Z) b0 BG Z ((a3 _ a6.drew).ld (i:=2) (by simp[Ge,Gf])) Ac<|AU (v:=b0) DS Z be.rn.isSl Ac ?_
  refine Af 1 Z<|AX (RN.isPtr<|RN.ptr (AR dp) (by decide) Fn.zero a5 sD) Z Ac<|AP (p:=AE a0 ((f1).toNat) 3) 1 CZ Z (a3 _ a6.drew) Ac<|Ai (p:=Au (AE a0 ((f1).toNat) 3) 1) (.inl Z) (zI<|(p.getD ((f1).toNat) Fn.zero).params) AG Z ((a3 _ a6.drew).ld (i:=1) (by simp[Ge,Gf])) Ac ?_
  by_cases c3:((((p.getD ((f1).toNat) Fn.zero).outs).length:Nat):Int)=(p.getD ((f1).toNat) Fn.zero).params
  ·refine Av true Z Z (A7 c3) Ac<|Af 2 Z<|Bf Z (Ag (e:=55) Z Z Z)<|Ao (p:=zP gg) 0 EP Z Z (Ag (e:=55) Z Z Z)<|Ai (p:=Au (zP gg) 0) (.inl Z) (zP gs) IA Z (b2.ldp (i:=0) sM) (Ag (e:=55) Z Z Z) ?_
   refine AK 102 [] [] [zP gs,zI ((2:Nat):Int)] Z Z P8 (Ag (e:=55) Z Z Z) (CP _ gs _ _ _ ((2:Nat):Int) bf oM oM sD) ?_
   rintro ie gt ⟨fs,i4,rfl,a7,c4,ez,cu⟩
   refine⟨_,rfl,?_⟩
   replace a7:=a7.of_drew
   have e1:gr.heap.size≤gt.heap.size:=a7.size
   have c5:AB [gs,gg] w gt:=a6.trans (a7.sub Gj)
   have c6:=b2.chg a7 (zB ·)
   have c7:=bg.chg a7 (zB ·)
   have c8:=b1.chg a7 (zB ·)
   refine Ae 1 Z ?_
   cases c9:fs
   ·exact Ak (by first|rfl|exact zW c9)<|A4 ⟨(((10:Nat):Int),0,i4),_,rfl,zR,⟨c5,c4,c6,c7,c8,oM,oM⟩⟩
   refine Ah (by first|rfl|exact zW c9)<|fQ [0,4] Z<|Ao (p:=zP w9.heap.size) 0 Bz Z Z Ac (Bn (k:=0) (w:=gt) GS Z Z ⟨rfl,rfl⟩ c8 sM Ac fun gu aq g0 bh=>?_)
   replace bh:BX gu.heap w9.heap.size [zI ((11:Nat):Int),zI f1,zI f2,zI 0,zN]:=bh
   have e2:gt.heap.size≤gu.heap.size:=aq.size
   have cv:AB [gs,gg] w gu:=c5.fresh aq (fun _ h=>zE h)
   have cw:=c4.chg aq fun c hc=>zH<|Ab hc
   have ca:=c6.chg aq (zB ·)
   have cx:=c7.chg aq (zB ·)
   refine Aj<|Ad _ [0,0,0,2,4,0,4] Z<|Af 1 Z<|Bf Z Ac<|Ao (p:=zP gg) 0 EP Z Z Ac<|Ai (p:=Au (zP gg) 0) (.inr Z) (zP gs) IA Z (ca.ldp (i:=0) sM) Ac ?_
   refine AK 101 [] [] [zP gs,zI ((4:Nat):Int)] Z Z Ff Ac (Ba _ gs _ _ _ ((4:Nat):Int) cw oM oM sD) ?_
   rintro ig gv ⟨f3,i5,rfl,ar,cy,g1,cz⟩
   refine⟨_,rfl,?_⟩
   have e3:gu.heap.size≤gv.heap.size:=ar.size
   have d0:AB [gs,gg] w gv:=cv.trans (ar.sub Gj)
   have d1:=ca.chg ar (zB ·)
   have d2:=cx.chg ar (zB ·)
   have d3:=bh.chg ar (zB ·)
   refine Ao (p:=zP w9.heap.size) 3 E6 Z Z Ac (Bn (k:=3) (w:=gv) GS Z Z ⟨rfl,rfl⟩ d3 sM Ac fun gx au g2 bi=>?_)
   replace bi:BX gx.heap w9.heap.size [zI ((11:Nat):Int),zI f1,zI f2,zI f3,zN]:=bi
   have e5:gv.heap.size≤gx.heap.size:=au.size
   have d4:AB [gs,gg] w gx:=d0.fresh au (fun _ h=>zE h)
   have d5:=cy.chg au fun c hc=>zH<|Ab hc
   have d6:=d1.chg au (zB ·)
   have d7:=d2.chg au (zB ·)
   exact Aj ⟨(((11:Nat):Int),f3,i5),_,rfl,zR,⟨d4,d5,d6,d7,bi,oM,oM⟩⟩
  exact Av false Z Z (A8 c3) Ac<|Ae 7 Z<|Ak Z<|A4 ⟨(((10:Nat):Int),0,i3),_,rfl,zR,⟨a6.drew,bf,b2,bg,b1,oM,oM⟩⟩
 clear dx ej bm ch cf bo cl e0 ba bb cm ah bq br af ag cn ai bs aj bt az bu b8 b9 a2 bw bx bz c0 c1 ct ak c2 a6 bf b2 bg
 rintro⟨k,cnt,m1⟩ ρ30 fe ⟨cb,av,a8,a9,aa,hkc,gm⟩
 have e6:w.heap.size≤fe.heap.size:=cb.size
 have g3:=a8.lt
 have g4:=a9.lt
 have g5:=aa.lt
 refine A0<|fR Z<|A5 ?_
 refine B8 (S:=Nat×Int×Nat×Value×List Ex) (fun⟨i,l,m,vk,xs⟩=>([(11,zI (i:Int)),(0,zP gg),(1,zI vars),(2,zI funcs),(3,zI (d:Int)),(8,zP w.heap.size),(9,zP w9.heap.size),(10,AE a0 ((f1).toNat) 3)])) (fun⟨i,l,m,vk,xs⟩ W=>AB [gs,gg] w W∧Fr (DB 5 (Qs 153 d) 153) fe.heap.size W.heap.size W.heap vk xs∧EL W.heap gs sv cs m∧BX W.heap gg [zP gs,pp,zI l,.bool pl]∧BX W.heap w.heap.size [zI 0,zI 0,zI 0,zI 0,zN]∧BX W.heap w9.heap.size [zI k,zI f1,zI f2,zI cnt,vk]∧(i:Int)≤(p.getD (f1).toNat Fn.zero).params∧QU p funcs vars pl k d l0 l xs i∧(n0≤m∧m≤n0+8+RV i (Ib (d-1)))∧gg<fe.heap.size∧w.heap.size<fe.heap.size∧w9.heap.size<fe.heap.size∧fe.heap.size≤W.heap.size) (fun⟨i,l,m,vk,xs⟩=>(p.getD (f1).toNat Fn.zero).params.toNat-i) (0,l0,m1,zN,([]:List Ex)) ⟨rfl,rfl,rfl,rfl,rfl,rfl,rfl,rfl,trivial⟩ ⟨cb,(H3 _ 0 _).up<|An<|Bb 153 d,av,a8,a9,aa,oM,(by exact QU.nil ..),(by exact⟨zO,by show _≤n0+8+0;omega⟩),oM,oM,oM,oM⟩ ?_
 clear aa a9 a8 av
 rintro⟨i,l,m,vk,xs⟩ ρ55 fd ⟨al,ab,aw,ac,ad,a1,gn,hko,hmb,e7,e8,ea,eb⟩
 have ec:w.heap.size≤fd.heap.size:=al.size
 have g6:=ac.lt
 have g7:=ad.lt
 have g8:=a1.lt
 refine A0<|fQ [0,0,0,0,2,0] Z<|Af 2 Z<|AX (RN.isPtr<|RN.ptr (AR dp) (by decide) Fn.zero a5 sD) Z Ac<|AP (p:=AE a0 ((f1).toNat) 3) 1 CZ Z (a3 _ al) Ac<|Ai (p:=Au (AE a0 ((f1).toNat) 3) 1) (.inr Z) (zI<|(p.getD ((f1).toNat) Fn.zero).params) AG Z ((a3 _ al).ld (i:=1) (by simp[Ge,Gf])) Ac ?_
 by_cases cc:(i:Int)<(p.getD ((f1).toNat) Fn.zero).params
 ·refine AJ true Z Z (A7 cc) Ac<|Aj<|Ah Z<|A4<|A0<|A5 ?_
  letI:JR:=Qr [gs,gg]
  refine Jx.B7 _ [0,1,0,0,0,0,0,3,3,4,0,4] mixed (by kernel_rfl) ?_
  have htn:=MR (k:=Ib (d-1)) (i:=i+1) oM
  have hts:RV (i+1) (Ib (d-1))=RV i (Ib (d-1))+Ib (d-1):=rfl
  have hti:=OH (k:=MQ (d-1)) (i:=i) oM oM
  have hlo:=hko.lo
  have hln:=hko.len
  refine Jx.Ao (p:=zP w9.heap.size) 4 Bv Z Z Ac<|Jx.eB (p:=Au (zP w9.heap.size) 4) vk BG Z (fun wj hj=>(BX.chg (w:=fd.drew) (F:=[gs,gg]) a1 hj fun hm=>zH<|DY hm).ldp (i:=4) sM) Ac<|Jx.Yc (zP gg) Z Ac<|Jx.Yc (zI vars) Z Ac<|Jx.Yc (zI funcs) Z Ac<|Jx.Yc (zI (d:Int)) Z Ac<|Jx.j1<|BP ((d-1:Nat):Int) Z Z (by rw[E1 oM oM];omega) Ac<|Aj ?_
  refine Jx.Ay 104 [] [] [zP gg,zI vars,zI funcs,zI ((d-1:Nat):Int)] Z Z P9 Ac (IH _ gg gs sv cs m pp dp l pl p (vars) (funcs) oM aw ac (hp.chg (Bi<|B6 dp) al.drew) _hvars _hfuncs oM oM hpr oM oM oM) ?_
  rintro ih gy ⟨i6,fr,i7,i8,rfl,a4,d8,g9,d9,bj,da,ga⟩
  refine⟨_,rfl,a4,?_⟩
  replace bj:=bj.low (B':=fd.heap.size)<|A9 _
  replace a4:=a4.of_drew
  have ed:fd.heap.size≤gy.heap.size:=a4.size
  have db:AB [gs,gg] w gy:=al.trans a4
  have dc:=ab.chg (An<|Bb 153 d) a4 fun c hc=>zH<|DY hc
  have dd:=ad.chg a4 fun hm=>zH<|DY hm
  have de:=a1.chg a4 fun hm=>zH<|DY hm
  refine Jx.V2 Z (Ct (cs:=[zI fr.kind,zI fr.num,zI fr.pick,zI fr.count,i6]) (y:=fr) (B:=fd.heap.size) (Bb 153 d) DS BM Z (by decide) Z (RQ.mk1 oM da bj) oM Ac fun i9 gz ae gb df=>?_)
  have ee:gy.heap.size≤gz.heap.size:=ae.size
  have dg:AB [gs,gg] w gz:=db.ext ae
  have b3:=dc.ext (An<|Bb 153 d) ae
  have b4:=d8.ext ae
  have b5:=d9.ext ae
  have b6:=dd.ext ae
  have b7:=de.ext ae
  refine HE (v:=vk) (a:=i9) (Bb 153 d) DS BM Z (by decide) Z Z b3 oM df oM oM oM (by unfold maxLen;omega) Ac fun i2 gw ii am ax cd=>?_
  have ef:gz.heap.size≤gw.heap.size:=am.size
  have dh:AB [gs,gg] w gw:=dg.fresh am (fun c hc=>zH<|ax _ hc)
  have di:=b4.chg am fun c hc=>zH<|ax _ hc
  have dj:=b5.chg am fun hm=>zH<|ax _ hm
  have dk:=b6.chg am fun hm=>zH<|ax _ hm
  have dl:=b7.chg am fun hm=>zH<|ax _ hm
  refine Ao (p:=zP w9.heap.size) 4 Bv Z Z Ac (Bn (k:=4) (w:=gw) U5 Z Z (AT cd.isSlS) dl sM Ac fun i0 an gc bk=>?_)
  replace bk:BX i0.heap w9.heap.size [zI k,zI f1,zI f2,zI cnt,i2]:=bk
  have eg:gw.heap.size≤i0.heap.size:=an.size
  have dm:AB [gs,gg] w i0:=dh.fresh an (fun _ h=>zE h)
  have dn:=di.chg an fun c hc=>zH<|Ab hc
  have dq:=dj.chg an (zB ·)
  have dr:=dk.chg an (zB ·)
  have ds:=cd.chg (An<|Bb 153 d) an fun _ h=>zA h
  exact Aj<|Ad _ [0,0,0] Z<|Af 1 Z<|AS ((i+1:Nat):Int) Z Z (Bg oM oM) Ac<|Ae 1 Z ⟨(i+1,i8,i7,i2,xs++[fr]),_,rfl,zR,⟨dm,ds.up<|An<|Bb 153 d,dn,dq,dr,bk,oM,(by exact hko.snoc oM (by rw[if_neg oM]) (by assumption)),oM,oM,oM,oM,oM⟩,zD⟩
 refine AJ false Z Z (A8 cc) Ac<|Aj<|Ak Z<|A6<|AA<|AA<|Ax<|fQ [2,4] Z<|AC (p:=zP w9.heap.size) (.inr Z) [zI k,zI f1,zI f2,zI cnt,vk] Bq Z (fun ij gd=>LD.of_box<|BX.ext (w:=fd) a1 gd) Z Ac (Bh (vs:=[zI k,zI f1,zI f2,zI cnt,vk]) Bq Z Z (by intro u hu;simp only[ze,z2,or_false]at hu;rcases hu with rfl|rfl|rfl|rfl|rfl <;> first|exact⟨rfl,rfl⟩|exact AT ab.isSlS) ad Z Z Ac fun i1 ao ge bl=>?_)
 replace bl:BX i1.heap w.heap.size [zI k,zI f1,zI f2,zI cnt,vk]:=bl
 have eh:fd.heap.size≤i1.heap.size:=ao.size
 have dt:AB [gs,gg] w i1:=al.fresh ao (fun _ h=>zE h)
 have du:=ab.chg (An<|Bb 153 d) ao fun _ h=>zA h
 have dv:=aw.chg ao fun c hc=>zH<|Ab hc
 have dw:=ac.chg ao (zB ·)
 have gf:=a1.chg ao (zB ·)
 refine Aj<|A3 ?_
 have hln:=hko.len
 have htn:=MR (k:=Ib (d-1)) (i:=i) oM
 exact BK (cs:=[zI k,zI f1,zI f2,zI cnt,vk]) Z Bq Z bl Z ⟨vk,.mk k f1 f2 cnt xs,m,l,rfl,dt,dv,⟨zO,zO⟩,dw,(du.up<|An<|Bb 153 d).low (B':=w.heap.size) oM,Lk oM oM oM oM,(by exact hko.node1 oM oM oM (fun _=>by omega) (YH hkc oM oM oM))⟩
theorem Qf {p:Prop}(h:p:=by exact hko.snoc oM (by first|rw[if_pos oM]|rw[if_neg oM]) (by assumption)):p:=h
theorem O3 {p:Prop}(h:p:=by intro hpl;first|omega|(simp_all;omega)|simp_all):p:=h
theorem J7 (w:World)(gg gs:Nat)(sv:Value)(cs:List UInt8)(n0:Nat)(pp:Value)(dp:Nat)(l0:Int)(pl:Bool)(p:List Fn)(vars:Int)(funcs:Int)(d:Nat)(hgg:gs<gg)(hs:EL w.heap gs sv cs n0)(hB0:BX w.heap gg [zP gs,pp,zI l0,.bool pl])(hp:RN [gs,gg] (rP (KH dp)) w.heap pp p)(_hvars:Bd vars)(_hfuncs:Bd funcs)(hv:0≤vars∧vars+(d:Int)≤1000)(hfu:0≤funcs∧funcs≤(p.length:Int))(hpr:ZZ p)(hd:d≤8)(hn:n0+Ib d≤1000000000000)(hl:MQ d-1000000≤l0∧l0≤1000)(IH1:∀d',d'<d→GX d')(IH2:1≤d→GC d) :
  Calls Tryz.prog 104 #[zP gg,zI vars,zI funcs,zI (d:Int)] w (fun e w'=>∃(v:Value) (ex:Ex) (n1:Nat) (l1:Int),e=.returned (.agg #[zI ex.kind,zI ex.num,zI ex.pick,zI ex.count,v])∧AB [gs,gg] w w'∧EL w'.heap gs sv cs n1∧(n0≤n1∧n1≤n0+(Ib d))∧BX w'.heap gg [zP gs,pp,zI l1,.bool pl]∧Fr (DB 5 (Qs 153 d) 153) w.heap.size w'.heap.size w'.heap v ex.kids∧UC ex∧QT p funcs vars pl d l0 l1 ex):=by
 refine Aw [zP gg,zI vars,zI funcs,zI (d:Int)] 117 Tryz.func104 Z Z sM ?_
 have l8:AB [gs,gg] w w:=AB.refl [gs,gg] w
 have q9:=hs.lt
 have mj:=hB0.lt
 have hst:=PB d
 have hnd:=Ic d
 have hnl:=T4 (d:=d) oM
 refine fQ [3] Z ?_
 have nt:=hB0.lt
 refine B9 (z:=.agg #[zI 0,zI 0,zI 0,zI 0,zN]) IB Ac fun w1 db ml ih=>?_
 have ii:w.heap.size≤w1.heap.size:=db.size
 have l9:AB [gs,gg] w w1:=l8.ext db
 have ij:=hs.ext db
 have ci:=hB0.ext db
 replace ih:BX w1.heap w.heap.size [zI 0,zI 0,zI 0,zI 0,zN]:=ih
 refine Aj<|fQ [0,0,0,2,0,0,0,4] Z<|Af 1 Z<|Bf Z Ac<|Ao (p:=zP gg) 2 NU Z Z Ac<|Ai (p:=Au (zP gg) 2) (.inr Z) (zI l0) AG Z (ci.ldp (i:=2) sM) Ac ?_
 refine BP (l0-((1:Nat):Int)) Z Z (E1 sD sD) Ac<|Bf Z Ac ?_
 refine Ao (p:=zP gg) 2 NU Z Z Ac (Bn (k:=2) (w:=w1) GS Z Z ⟨rfl,rfl⟩ ci sM Ac fun w3 dc mm cq=>?_)
 replace cq:BX w3.heap gg [zP gs,pp,zI (l0-((1:Nat):Int)),.bool pl]:=cq
 have ik:w1.heap.size≤w3.heap.size:=dc.size
 have da:AB [gs,gg] w w3:=l9.trans (dc.sub YI)
 have id:=ij.chg dc fun c hc=>zH<|Ab hc
 have ie:=ih.chg dc (zB ·)
 refine Aj<|A0<|fQ [0,0,0,2,0,0,0,0,0,0,0,0,0,2,4,0] Z<|Af 1 Z<|Bf Z Ac<|Ao (p:=zP gg) 2 NU Z Z Ac<|Ai (p:=Au (zP gg) 2) (.inr Z) (zI (l0-((1:Nat):Int))) AG Z (cq.ldp (i:=2) sM) Ac ?_
 by_cases la:l0-((1:Nat):Int)<((1:Nat):Int)
 ·refine AJ true Z Z (A7 la) Ac<|Ae 11 Z<|Ah Z<|fQ [0,0,4,4] Z<|Af 2 Z<|AK 163 [] [] [zP gg,zI vars] Z Z Rn Ac (Dd _ gg gs sv cs n0 pp dp (l0-((1:Nat):Int)) pl p (vars) oM id cq (hp.chg (Bi<|B6 dp) da) _hvars oM oM) ?_
  rintro e7 w7 ⟨x7,n7,rfl,il,mn,nu,mo,mp,im,nv⟩
  refine⟨_,rfl,?_⟩
  have mq:w3.heap.size≤w7.heap.size:=il.size
  have mr:AB [gs,gg] w w7:=da.trans il
  have ms:=ie.chg il fun hm=>zH<|DY hm
  refine Bh (vs:=[zI x7.kind,zI x7.num,zI x7.pick,zI x7.count,zN]) Bq Z Z Hj ms Z Z Ac fun w9 ig nw io=>?_
  replace io:BX w9.heap w.heap.size [zI x7.kind,zI x7.num,zI x7.pick,zI x7.count,zN]:=io
  have mt:w7.heap.size≤w9.heap.size:=ig.size
  have mu:AB [gs,gg] w w9:=mr.fresh ig (fun _ h=>zE h)
  have ip:=mn.chg ig fun c hc=>zH<|Ab hc
  have iq:=mo.chg ig (zB ·)
  exact Aj<|A3<|At<|BK (cs:=[zI x7.kind,zI x7.num,zI x7.pick,zI x7.count,zN]) Z Bq Z io Z ⟨zN,x7,n7,l0-((1:Nat):Int),rfl,mu,ip,⟨zO,zO⟩,iq,(by rw[im];exact H3 _ _ _),mp,(by exact PC.ok (by assumption) d)⟩
 refine AJ false Z Z (A8 la) Ac<|Af 2 Z ?_
 by_cases dd:(d:Int)<((1:Nat):Int)
 ·refine AJ true Z Z (A7 dd) (Ag (e:=24) Z Z Z)<|Ae 8 Z<|Ah Z<|fQ [0,0,4,4] Z<|Af 2 Z<|AK 163 [] [] [zP gg,zI vars] Z Z Rn Ac (Dd _ gg gs sv cs n0 pp dp (l0-((1:Nat):Int)) pl p (vars) oM id cq (hp.chg (Bi<|B6 dp) da) _hvars oM oM) ?_
  rintro qa ox ⟨fr,pv,rfl,cr,ir,mv,is,it,de,mw⟩
  refine⟨_,rfl,?_⟩
  have lb:w3.heap.size≤ox.heap.size:=cr.size
  have iu:AB [gs,gg] w ox:=da.trans cr
  have iv:=ie.chg cr fun hm=>zH<|DY hm
  refine Bh (vs:=[zI fr.kind,zI fr.num,zI fr.pick,zI fr.count,zN]) Bq Z Z Hj iv Z Z Ac fun oy cc mx ct=>?_
  replace ct:BX oy.heap w.heap.size [zI fr.kind,zI fr.num,zI fr.pick,zI fr.count,zN]:=ct
  have lc:ox.heap.size≤oy.heap.size:=cc.size
  have iw:AB [gs,gg] w oy:=iu.fresh cc (fun _ h=>zE h)
  have ix:=ir.chg cc fun c hc=>zH<|Ab hc
  have iy:=is.chg cc (zB ·)
  exact Aj<|A3<|At<|BK (cs:=[zI fr.kind,zI fr.num,zI fr.pick,zI fr.count,zN]) Z Bq Z ct Z ⟨zN,fr,pv,l0-((1:Nat):Int),rfl,iw,ix,⟨zO,zO⟩,iy,(by rw[de];exact H3 _ _ _),it,(by exact PC.ok (by assumption) d)⟩
 refine AJ false Z Z (A8 dd) (Ag (e:=24) Z Z Z)<|Af 3 Z<|Bf Z (Ag (e:=28) Z Z Z)<|Ao (p:=zP gg) 0 EP Z Z (Ag (e:=28) Z Z Z)<|Ai (p:=Au (zP gg) 0) (.inr Z) (zP gs) IA Z (cq.ldp (i:=0) sM) (Ag (e:=28) Z Z Z) ?_
 refine AK 102 [] [] [zP gs,zI ((5:Nat):Int)] Z Z P8 (Ag (e:=28) Z Z Z) (CP _ gs _ _ _ ((5:Nat):Int) id oM oM sD) ?_
 rintro qb f1 ⟨oo,px,rfl,bn,df,my,iz⟩
 refine⟨_,rfl,?_⟩
 have dg:w3.heap.size≤f1.heap.size:=bn.size
 have cd:AB [gs,gg] w f1:=da.trans (bn.sub Gj)
 have ce:=cq.chg bn (zB ·)
 have cf:=ie.chg bn (zB ·)
 refine Ae 1 Z ?_
 cases dh:oo
 ·refine Ak (by first|rfl|exact zW dh)<|A4<|fQ [0,3,4] Z ?_
  have py:=Xd (d:=d) oM
  have pz:=ZY (d:=d) oM
  have mz:=PB (d-1)
  have n2:=Ic (d-1)
  have di:∀(wq:World),(Instr.build 153 #[]).run Tryz.prog wq=.ok (.agg #[zI 0,zI 0,zI 0,zI 0,zN]) wq:=by intro wq;kernel_rfl
  refine Ch (ps:=#[]) (.agg #[zI 0,zI 0,zI 0,zI 0,zN]) (by simp only[zc,zf,zh]) (fun wq=>di  wq) Ac ?_
  have n3:=ce.lt
  have n4:=cf.lt
  refine B9 (z:=.agg #[zI 0,zI 0,zI 0,zI 0,zN]) IB Ac fun ou b4 j0 cu=>?_
  have dj:f1.heap.size≤ou.heap.size:=b4.size
  have dk:AB [gs,gg] w ou:=cd.ext b4
  have cg:=df.ext b4
  have b1:=ce.ext b4
  have b2:=cf.ext b4
  replace cu:BX ou.heap f1.heap.size [zI 0,zI 0,zI 0,zI 0,zN]:=cu
  refine Bh (vs:=[zI 0,zI 0,zI 0,zI 0,zN]) Bq Z Z Hj cu Z Z Ac fun ov b5 j2 cv=>?_
  replace cv:BX ov.heap f1.heap.size [zI 0,zI 0,zI 0,zI 0,zN]:=cv
  have dl:ou.heap.size≤ov.heap.size:=b5.size
  have dm:AB [gs,gg] w ov:=dk.fresh b5 (fun _ h=>zE h)
  have dn:=cg.chg b5 fun c hc=>zH<|Ab hc
  have cw:=b1.chg b5 (zB ·)
  have dq:=b2.chg b5 (zB ·)
  refine Aj<|A0<|Kl (S:=Int×Nat) (fun⟨k,m1⟩=>([(0,zP gg),(1,zI vars),(2,zI funcs),(3,zI (d:Int)),(8,zP w.heap.size),(9,zP f1.heap.size)])) (fun⟨k,m1⟩ W=>AB [gs,gg] w W∧EL W.heap gs sv cs m1∧BX W.heap gg [zP gs,pp,zI (l0-((1:Nat):Int)),.bool pl]∧BX W.heap w.heap.size [zI 0,zI 0,zI 0,zI 0,zN]∧BX W.heap f1.heap.size [zI k,zI 0,zI 0,zI 0,zN]∧(k=3∨k=4∨k=5∨k=6∨k=7∨k=8∨k=9)∧(n0≤m1∧m1≤n0+4)) ?_ ?_
  ·refine fQ [0,0,0,2,4] Z<|Af 1 Z<|Bf Z Ac<|Ao (p:=zP gg) 0 EP Z Z Ac<|Ai (p:=Au (zP gg) 0) (.inr Z) (zP gs) IA Z (cw.ldp (i:=0) sM) Ac ?_
   refine AK 101 [] [] [zP gs,zI ((12:Nat):Int)] Z Z Ff Ac (Ba _ gs _ _ _ ((12:Nat):Int) dn oM oM sD) ?_
   rintro qc fe ⟨f2,o4,rfl,bo,ad,n5,j3⟩
   refine⟨_,rfl,?_⟩
   have ld:ov.heap.size≤fe.heap.size:=bo.size
   have ab:AB [gs,gg] w fe:=dm.trans (bo.sub Gj)
   have ae:=cw.chg bo (zB ·)
   have af:=dq.chg bo (zB ·)
   have ag:=cv.chg bo (zB ·)
   refine Aj<|A5<|fQ [0,0] Z ?_
   by_cases dr:f2=((0:Nat):Int)
   ·refine Av true Z Z (A7 dr) Ac<|Ae 1 Z<|Ah Z<|Ad _ [0,4] Z<|Ao (p:=zP f1.heap.size) 0 Bz Z Z Ac (Bn (k:=0) (w:=fe) GS Z Z ⟨rfl,rfl⟩ ag sM Ac fun oz bp n6 cx=>?_)
    replace cx:BX oz.heap f1.heap.size [zI ((7:Nat):Int),zI 0,zI 0,zI 0,zN]:=cx
    have le:fe.heap.size≤oz.heap.size:=bp.size
    have j4:AB [gs,gg] w oz:=ab.fresh bp (fun _ h=>zE h)
    have j5:=ad.chg bp fun c hc=>zH<|Ab hc
    have j6:=ae.chg bp (zB ·)
    have j7:=af.chg bp (zB ·)
    exact Aj ⟨(((7:Nat):Int),o4),_,rfl,zR,⟨j4,j5,j6,j7,cx,oM,oM⟩⟩
   refine Av false Z Z (A8 dr) Ac<|Ae 1 Z<|Ak Z<|fQ [0,0] Z ?_
   by_cases ds:f2=((1:Nat):Int)
   ·refine Av true Z Z (A7 ds) Ac<|Ae 1 Z<|Ah Z<|Ad _ [0,4] Z<|Ao (p:=zP f1.heap.size) 0 Bz Z Z Ac (Bn (k:=0) (w:=fe) GS Z Z ⟨rfl,rfl⟩ ag sM Ac fun p0 bq n8 cy=>?_)
    replace cy:BX p0.heap f1.heap.size [zI ((9:Nat):Int),zI 0,zI 0,zI 0,zN]:=cy
    have lf:fe.heap.size≤p0.heap.size:=bq.size
    have j8:AB [gs,gg] w p0:=ab.fresh bq (fun _ h=>zE h)
    have j9:=ad.chg bq fun c hc=>zH<|Ab hc
    have ja:=ae.chg bq (zB ·)
    have jb:=af.chg bq (zB ·)
    exact Aj ⟨(((9:Nat):Int),o4),_,rfl,zR,⟨j8,j9,ja,jb,cy,oM,oM⟩⟩
   refine Av false Z Z (A8 ds) Ac<|Ae 1 Z<|Ak Z<|fQ [0,0] Z ?_
   by_cases dt:f2=((2:Nat):Int)
   ·refine Av true Z Z (A7 dt) Ac<|Ae 1 Z<|Ah Z<|Ad _ [0,4] Z<|Ao (p:=zP f1.heap.size) 0 Bz Z Z Ac (Bn (k:=0) (w:=fe) GS Z Z ⟨rfl,rfl⟩ ag sM Ac fun p2 br n9 cz=>?_)
    replace cz:BX p2.heap f1.heap.size [zI ((8:Nat):Int),zI 0,zI 0,zI 0,zN]:=cz
    have lg:fe.heap.size≤p2.heap.size:=br.size
    have jc:AB [gs,gg] w p2:=ab.fresh br (fun _ h=>zE h)
    have jd:=ad.chg br fun c hc=>zH<|Ab hc
    have je:=ae.chg br (zB ·)
    have jf:=af.chg br (zB ·)
    exact Aj ⟨(((8:Nat):Int),o4),_,rfl,zR,⟨jc,jd,je,jf,cz,oM,oM⟩⟩
   refine Av false Z Z (A8 dt) Ac<|Ae 1 Z<|Ak Z<|fQ [0,0] Z ?_
   by_cases du:f2=((3:Nat):Int)
   ·refine Av true Z Z (A7 du) Ac<|Ae 1 Z<|Ah Z<|Ad _ [0,4] Z<|Ao (p:=zP f1.heap.size) 0 Bz Z Z Ac (Bn (k:=0) (w:=fe) GS Z Z ⟨rfl,rfl⟩ ag sM Ac fun p4 bs na d0=>?_)
    replace d0:BX p4.heap f1.heap.size [zI ((6:Nat):Int),zI 0,zI 0,zI 0,zN]:=d0
    have lh:fe.heap.size≤p4.heap.size:=bs.size
    have jg:AB [gs,gg] w p4:=ab.fresh bs (fun _ h=>zE h)
    have jh:=ad.chg bs fun c hc=>zH<|Ab hc
    have ji:=ae.chg bs (zB ·)
    have jj:=af.chg bs (zB ·)
    exact Aj ⟨(((6:Nat):Int),o4),_,rfl,zR,⟨jg,jh,ji,jj,d0,oM,oM⟩⟩
   refine Av false Z Z (A8 du) Ac<|Ae 1 Z<|Ak Z<|A0<|fQ [0,0] Z ?_
   by_cases dv:f2=((4:Nat):Int)
   ·refine Av true Z Z (A7 dv) Ac<|Ae 1 Z<|Ah Z<|A4<|Ah Z<|Ad _ [0,4] Z<|Ao (p:=zP f1.heap.size) 0 Bz Z Z Ac (Bn (k:=0) (w:=fe) GS Z Z ⟨rfl,rfl⟩ ag sM Ac fun p5 bt nb d1=>?_)
    replace d1:BX p5.heap f1.heap.size [zI ((3:Nat):Int),zI 0,zI 0,zI 0,zN]:=d1
    have li:fe.heap.size≤p5.heap.size:=bt.size
    have jk:AB [gs,gg] w p5:=ab.fresh bt (fun _ h=>zE h)
    have jl:=ad.chg bt fun c hc=>zH<|Ab hc
    have jm:=ae.chg bt (zB ·)
    have jn:=af.chg bt (zB ·)
    exact Aj ⟨(((3:Nat):Int),o4),_,rfl,zR,⟨jk,jl,jm,jn,d1,oM,oM⟩⟩
   refine Av false Z Z (A8 dv) Ac<|Ae 1 Z<|Ak Z<|Ad _ [0,0] Z ?_
   by_cases dw:f2=((5:Nat):Int)
   ·refine Av true Z Z (A7 dw) Ac<|Ae 1 Z<|Ah Z<|Ad _ [0,4] Z<|Ao (p:=zP f1.heap.size) 0 Bz Z Z Ac (Bn (k:=0) (w:=fe) GS Z Z ⟨rfl,rfl⟩ ag sM Ac fun p6 bu nc d2=>?_)
    replace d2:BX p6.heap f1.heap.size [zI ((3:Nat):Int),zI 0,zI 0,zI 0,zN]:=d2
    have lj:fe.heap.size≤p6.heap.size:=bu.size
    have jo:AB [gs,gg] w p6:=ab.fresh bu (fun _ h=>zE h)
    have jp:=ad.chg bu fun c hc=>zH<|Ab hc
    have jq:=ae.chg bu (zB ·)
    have jr:=af.chg bu (zB ·)
    exact Aj ⟨(((3:Nat):Int),o4),_,rfl,zR,⟨jo,jp,jq,jr,d2,oM,oM⟩⟩
   refine Av false Z Z (A8 dw) Ac<|Ae 1 Z<|Ak Z<|fQ [0,0] Z ?_
   by_cases dx:f2=((6:Nat):Int)
   ·refine Av true Z Z (A7 dx) Ac<|Ae 1 Z<|Ah Z<|Ad _ [0,4] Z<|Ao (p:=zP f1.heap.size) 0 Bz Z Z Ac (Bn (k:=0) (w:=fe) GS Z Z ⟨rfl,rfl⟩ ag sM Ac fun p7 bv nd d3=>?_)
    replace d3:BX p7.heap f1.heap.size [zI ((4:Nat):Int),zI 0,zI 0,zI 0,zN]:=d3
    have lk:fe.heap.size≤p7.heap.size:=bv.size
    have js:AB [gs,gg] w p7:=ab.fresh bv (fun _ h=>zE h)
    have jt:=ad.chg bv fun c hc=>zH<|Ab hc
    have ju:=ae.chg bv (zB ·)
    have jv:=af.chg bv (zB ·)
    exact Aj ⟨(((4:Nat):Int),o4),_,rfl,zR,⟨js,jt,ju,jv,d3,oM,oM⟩⟩
   refine Av false Z Z (A8 dx) Ac<|Ae 1 Z<|Ak Z<|A0<|fQ [0,0] Z ?_
   by_cases dy:f2=((7:Nat):Int)
   ·refine Av true Z Z (A7 dy) Ac<|Ae 1 Z<|Ah Z<|A4<|Ah Z<|Ad _ [0,4] Z<|Ao (p:=zP f1.heap.size) 0 Bz Z Z Ac (Bn (k:=0) (w:=fe) GS Z Z ⟨rfl,rfl⟩ ag sM Ac fun p8 bw ne d4=>?_)
    replace d4:BX p8.heap f1.heap.size [zI ((5:Nat):Int),zI 0,zI 0,zI 0,zN]:=d4
    have ll:fe.heap.size≤p8.heap.size:=bw.size
    have jw:AB [gs,gg] w p8:=ab.fresh bw (fun _ h=>zE h)
    have jx:=ad.chg bw fun c hc=>zH<|Ab hc
    have jy:=ae.chg bw (zB ·)
    have jz:=af.chg bw (zB ·)
    exact Aj ⟨(((5:Nat):Int),o4),_,rfl,zR,⟨jw,jx,jy,jz,d4,oM,oM⟩⟩
   refine Av false Z Z (A8 dy) Ac<|Ae 1 Z<|Ak Z<|fQ [0,0] Z ?_
   by_cases dz:f2=((8:Nat):Int)
   ·refine Av true Z Z (A7 dz) Ac<|Ae 1 Z<|Ah Z<|A4<|Ah Z<|Ad _ [0,4] Z<|Ao (p:=zP f1.heap.size) 0 Bz Z Z Ac (Bn (k:=0) (w:=fe) GS Z Z ⟨rfl,rfl⟩ ag sM Ac fun p9 bx nf d5=>?_)
    replace d5:BX p9.heap f1.heap.size [zI ((5:Nat):Int),zI 0,zI 0,zI 0,zN]:=d5
    have lm:fe.heap.size≤p9.heap.size:=bx.size
    have k0:AB [gs,gg] w p9:=ab.fresh bx (fun _ h=>zE h)
    have k1:=ad.chg bx fun c hc=>zH<|Ab hc
    have k3:=ae.chg bx (zB ·)
    have k4:=af.chg bx (zB ·)
    exact Aj ⟨(((5:Nat):Int),o4),_,rfl,zR,⟨k0,k1,k3,k4,d5,oM,oM⟩⟩
   refine Av false Z Z (A8 dz) Ac<|Ae 1 Z<|Ak Z<|Ad _ [0,0] Z ?_
   by_cases e0:f2=((9:Nat):Int)
   ·refine Av true Z Z (A7 e0) Ac<|Ae 1 Z<|Ah Z<|Ad _ [0,4] Z<|Ao (p:=zP f1.heap.size) 0 Bz Z Z Ac (Bn (k:=0) (w:=fe) GS Z Z ⟨rfl,rfl⟩ ag sM Ac fun pa bz ng d6=>?_)
    replace d6:BX pa.heap f1.heap.size [zI ((5:Nat):Int),zI 0,zI 0,zI 0,zN]:=d6
    have ln:fe.heap.size≤pa.heap.size:=bz.size
    have k5:AB [gs,gg] w pa:=ab.fresh bz (fun _ h=>zE h)
    have k6:=ad.chg bz fun c hc=>zH<|Ab hc
    have k7:=ae.chg bz (zB ·)
    have k8:=af.chg bz (zB ·)
    exact Aj ⟨(((5:Nat):Int),o4),_,rfl,zR,⟨k5,k6,k7,k8,d6,oM,oM⟩⟩
   refine Av false Z Z (A8 e0) Ac<|Ae 1 Z<|Ak Z<|fQ [0,0,0,0,4,4] Z<|Af 4 Z<|AK 164 [] [] [zP gg,zI vars,zI funcs,zI (d:Int)] Z Z cM Ac (IH2 oM _ gg gs sv cs o4 pp dp (l0-((1:Nat):Int)) pl p (vars) (funcs) oM ad ae (hp.chg (Bi<|B6 dp) ab) _hvars _hfuncs oM oM hpr oM oM oM) ?_
   rintro qd pb ⟨ow,fs,q0,q1,rfl,ch,k9,nh,ka,e1,kb,ni⟩
   refine⟨_,rfl,?_⟩
   have lp:fe.heap.size≤pb.heap.size:=ch.size
   have kc:AB [gs,gg] w pb:=ab.trans ch
   have kd:=af.chg ch fun hm=>zH<|DY hm
   have ke:=ag.chg ch fun hm=>zH<|DY hm
   refine Bh (vs:=[zI fs.kind,zI fs.num,zI fs.pick,zI fs.count,ow]) Bq Z Z (by intro u hu;simp only[ze,z2,or_false]at hu;rcases hu with rfl|rfl|rfl|rfl|rfl <;> first|exact⟨rfl,rfl⟩|exact AT e1.isSlS) kd Z Z Ac fun pc b6 nj d7=>?_
   replace d7:BX pc.heap w.heap.size [zI fs.kind,zI fs.num,zI fs.pick,zI fs.count,ow]:=d7
   have lq:pb.heap.size≤pc.heap.size:=b6.size
   have kf:AB [gs,gg] w pc:=kc.fresh b6 (fun _ h=>zE h)
   have kg:=k9.chg b6 fun c hc=>zH<|Ab hc
   have kh:=ka.chg b6 (zB ·)
   have nk:=ke.chg b6 (zB ·)
   have ki:=e1.chg (An<|Bb 153 d) b6 fun _ h=>zA h
   exact Aj<|A3<|AM<|At<|BK (cs:=[zI fs.kind,zI fs.num,zI fs.pick,zI fs.count,ow]) Z Bq Z d7 Z ⟨ow,fs,q0,q1,rfl,kf,kg,⟨zO,zO⟩,kh,(ki.up<|An<|Bb 153 d).low (B':=w.heap.size) oM,kb,(by exact QT.up1 (by assumption))⟩
  clear l8 ml db ii l9 mm dc ik da id ie bn dg cd ce cf j0 b4 dj dk b1 b2 j2 b5 dl dm dn cw dq
  rintro⟨k,m1⟩ ρ30 op ⟨b7,ah,a2,a6,a1,hkk,nx⟩
  have e2:w.heap.size≤op.heap.size:=b7.size
  have nl:=a2.lt
  have nm:=a6.lt
  have nn:=a1.lt
  refine A0<|Kl (S:=Int) (fun(k2:Int)=>([(0,zP gg),(1,zI vars),(2,zI funcs),(3,zI (d:Int)),(8,zP w.heap.size),(9,zP f1.heap.size)])) (fun(k2:Int) (W:World)=>AB [gs,gg] w W∧EL W.heap gs sv cs m1∧BX W.heap gg [zP gs,pp,zI (l0-((1:Nat):Int)),.bool pl]∧BX W.heap w.heap.size [zI 0,zI 0,zI 0,zI 0,zN]∧BX W.heap f1.heap.size [zI k2,zI 0,zI 0,zI 0,zN]∧(k2=3∨k2=4∨k2=5∨k2=6∨k2=7∨k2=8∨k2=9)∧(pl=true→k2≠6∧k2≠8)) ?_ ?_
  ·refine fQ [0,0,0,2,0,0,2,0,0,0,2,0,0,0] Z<|Af 1 Z<|Bf Z Ac<|Ao (p:=zP gg) 3 VN Z Z Ac<|Ai (p:=Au (zP gg) 3) (.inr Z) (.bool (true && pl)) PZ Z (a2.ldp (i:=3) sM) Ac<|Af 1 Z ?_
   cases no:(true && pl)
   ·exact Ae 9 Z<|Ak Z<|A4 ⟨k,_,rfl,zR,⟨b7,ah,a2,a6,a1,oM,O3⟩⟩
   refine Ao (p:=zP f1.heap.size) 0 Bz Z Z (Ag (e:=77) Z Z Z)<|Ai (p:=Au (zP f1.heap.size) 0) (.inr Z) (zI k) AG Z (a1.ldp (i:=0) sM) (Ag (e:=77) Z Z Z) ?_
   by_cases e3:k=((8:Nat):Int)
   ·refine Av true Z Z (A7 e3) (Ag (e:=77) Z Z Z)<|Ae 6 Z<|Ah Z<|Ad _ [0,4] Z<|Ao (p:=zP f1.heap.size) 0 Bz Z Z Ac (Bn (k:=0) (w:=op) GS Z Z ⟨rfl,rfl⟩ a1 sM Ac fun pd c0 np d8=>?_)
    replace d8:BX pd.heap f1.heap.size [zI ((5:Nat):Int),zI 0,zI 0,zI 0,zN]:=d8
    have lr:op.heap.size≤pd.heap.size:=c0.size
    have kj:AB [gs,gg] w pd:=b7.fresh c0 (fun _ h=>zE h)
    have e4:=ah.chg c0 fun c hc=>zH<|Ab hc
    have e5:=a2.chg c0 (zB ·)
    have e6:=a6.chg c0 (zB ·)
    exact Aj ⟨((5:Nat):Int),_,rfl,zR,⟨kj,e4,e5,e6,d8,oM,O3⟩⟩
   refine Av false Z Z (A8 e3) (Ag (e:=77) Z Z Z)<|Af 1 Z<|Ao (p:=zP f1.heap.size) 0 Bz Z Z (Ag (e:=81) Z Z Z)<|Ai (p:=Au (zP f1.heap.size) 0) (.inr Z) (zI k) AG Z (a1.ldp (i:=0) sM) (Ag (e:=81) Z Z Z) ?_
   by_cases cj:k=((6:Nat):Int)
   ·refine Av true Z Z (A7 cj) (Ag (e:=81) Z Z Z)<|Ae 2 Z<|Ah Z<|Ad _ [0,4] Z<|Ao (p:=zP f1.heap.size) 0 Bz Z Z Ac (Bn (k:=0) (w:=op) GS Z Z ⟨rfl,rfl⟩ a1 sM Ac fun o8 au ls c1=>?_)
    replace c1:BX o8.heap f1.heap.size [zI ((5:Nat):Int),zI 0,zI 0,zI 0,zN]:=c1
    have kk:op.heap.size≤o8.heap.size:=au.size
    have e8:AB [gs,gg] w o8:=b7.fresh au (fun _ h=>zE h)
    have e9:=ah.chg au fun c hc=>zH<|Ab hc
    have ea:=a2.chg au (zB ·)
    have eb:=a6.chg au (zB ·)
    exact Aj ⟨((5:Nat):Int),_,rfl,zR,⟨e8,e9,ea,eb,c1,oM,O3⟩⟩
   exact Av false Z Z (A8 cj) (Ag (e:=81) Z Z Z)<|Ae 2 Z<|Ak Z<|A4 ⟨k,_,rfl,zR,⟨b7,ah,a2,a6,a1,oM,O3⟩⟩
  clear a1 a6 a2 ah b7 e2
  rintro k2 ρ96 on ⟨ec,c2,ay,az,b0,nq,nr⟩
  have lu:w.heap.size≤on.heap.size:=ec.size
  have lv:=ay.lt
  have lw:=az.lt
  have lx:=b0.lt
  refine A0<|fR Z<|A5 ?_
  have hknb:=eU nq
  refine B8 (S:=Nat×Int×Nat×Value×List Ex) (fun⟨i,l,m,vk,xs⟩=>([(10,zI (i:Int)),(0,zP gg),(1,zI vars),(2,zI funcs),(3,zI (d:Int)),(8,zP w.heap.size),(9,zP f1.heap.size)])) (fun⟨i,l,m,vk,xs⟩ W=>AB [gs,gg] w W∧Fr (DB 5 (Qs 153 d) 153) on.heap.size W.heap.size W.heap vk xs∧EL W.heap gs sv cs m∧BX W.heap gg [zP gs,pp,zI l,.bool pl]∧BX W.heap w.heap.size [zI 0,zI 0,zI 0,zI 0,zN]∧BX W.heap f1.heap.size [zI k2,zI 0,zI 0,zI 0,vk]∧(i:Int)≤kn k2∧QU p funcs vars pl k2 d (l0-1) l xs i∧(n0≤m∧m≤n0+8+RV i (Ib (d-1)))∧gg<on.heap.size∧w.heap.size<on.heap.size∧f1.heap.size<on.heap.size∧on.heap.size≤W.heap.size) (fun⟨i,l,m,vk,xs⟩=>(kn k2).toNat-i) (0,l0-((1:Nat):Int),m1,zN,([]:List Ex)) ⟨rfl,rfl,rfl,rfl,rfl,rfl,rfl,trivial⟩ ⟨ec,(H3 _ 0 _).up<|An<|Bb 153 d,c2,ay,az,b0,oM,(by exact QU.nil ..),(by exact⟨zO,by show _≤n0+8+0;omega⟩),oM,oM,oM,oM⟩ ?_
  clear b0 az ay c2
  rintro⟨i,l,m,vk,xs⟩ ρ114 f3 ⟨a7,a3,ac,a4,a5,a0,ny,hko,hmb,kl,km,ko,kp⟩
  have kq:w.heap.size≤f3.heap.size:=a7.size
  have ly:=a4.lt
  have lz:=a5.lt
  have m0:=a0.lt
  refine A0<|fQ [0,0,2,0,0] Z<|Af 1 Z<|Ao (p:=zP f1.heap.size) 0 Bz Z Z Ac<|Ai (p:=Au (zP f1.heap.size) 0) (.inr Z) (zI k2) AG Z (a0.ldp (i:=0) sM) Ac<|AF 165 [] [] [zI k2] Z Z XK Ac (zI<|kn k2) (fun wq=>fM wq _ oM) ?_
  by_cases ck:(i:Int)<kn k2
  ·refine AJ true Z Z (A7 ck) Ac<|Aj<|Ah Z<|A4<|A0<|A5<|fQ [0,0] Z<|Ae 2 Z<|A0<|fQ [0,2,0,0,0,0,0] Z<|Ao (p:=zP f1.heap.size) 0 Bz Z Z Ac<|Ai (p:=Au (zP f1.heap.size) 0) (.inr Z) (zI k2) AG Z (a0.ldp (i:=0) sM) Ac ?_
   by_cases cl:k2=((9:Nat):Int)
   ·refine Av true Z Z (A7 cl) Ac<|Af 2 Z ?_
    by_cases cm:(i:Int)=((1:Nat):Int)
    ·refine Av true Z Z (A7 cm) (Ag (e:=99) Z Z Z)<|Ae 1 Z<|Ah Z<|Ad _ [0,0,0] Z<|Af 1 Z ?_
     refine AS (vars+((1:Nat):Int)) Z Z (E1 sD sD) Ac<|Ae 1 Z ?_
     letI:JR:=Qr [gs,gg]
     refine Jx.B7 _ [0,1,0,0,0,0,0,3,3,4,0,4] mixed (by kernel_rfl) ?_
     have htn:=MR (k:=Ib (d-1)) (i:=i+1) oM
     have hts:RV (i+1) (Ib (d-1))=RV i (Ib (d-1))+Ib (d-1):=rfl
     have hti:=OH (k:=MQ (d-1)) (i:=i) oM oM
     have hlo:=hko.lo
     have hln:=hko.len
     refine Jx.Ao (p:=zP f1.heap.size) 4 Bv Z Z Ac<|Jx.eB (p:=Au (zP f1.heap.size) 4) vk BG Z (fun wj hj=>(BX.chg (w:=f3.drew) (F:=[gs,gg]) a0 hj fun hm=>zH<|DY hm).ldp (i:=4) sM) Ac<|Jx.Yc (zP gg) Z Ac<|Jx.Yc (zI (vars+((1:Nat):Int))) Z Ac<|Jx.Yc (zI funcs) Z Ac<|Jx.Yc (zI (d:Int)) Z Ac<|Jx.j1<|BP ((d-1:Nat):Int) Z Z (by rw[E1 oM oM];omega) Ac<|Aj ?_
     refine Jx.Ay 104 [] [] [zP gg,zI (vars+((1:Nat):Int)),zI funcs,zI ((d-1:Nat):Int)] Z Z P9 Ac (IH1 (d-1) oM _ gg gs sv cs m pp dp l pl p (vars+((1:Nat):Int)) (funcs) oM ac a4 (hp.chg (Bi<|B6 dp) a7.drew) oM _hfuncs oM oM hpr oM oM oM) ?_
     rintro q2 o9 ⟨pe,fx,pf,pg,rfl,a8,ed,m2,ee,c3,ef,m3⟩
     refine⟨_,rfl,a8,?_⟩
     replace c3:=c3.low (B':=f3.heap.size)<|A9 _
     replace a8:=a8.of_drew
     have kr:f3.heap.size≤o9.heap.size:=a8.size
     have eg:AB [gs,gg] w o9:=a7.trans a8
     have eh:=a3.chg (An<|Bb 153 d) a8 fun c hc=>zH<|DY hc
     have ei:=a5.chg a8 fun hm=>zH<|DY hm
     have ej:=a0.chg a8 fun hm=>zH<|DY hm
     refine Jx.V2 Z (Ct (cs:=[zI fx.kind,zI fx.num,zI fx.pick,zI fx.count,pe]) (y:=fx) (B:=f3.heap.size) (Bb 153 d) DS BM Z (by decide) Z (RQ.mk1 oM ef c3) oM Ac fun ph oa ai m4 ek=>?_)
     have ks:o9.heap.size≤oa.heap.size:=ai.size
     have el:AB [gs,gg] w oa:=eg.ext ai
     have b8:=eh.ext (An<|Bb 153 d) ai
     have b9:=ed.ext ai
     have ba:=ee.ext ai
     have bb:=ei.ext ai
     have bc:=ej.ext ai
     refine HE (v:=vk) (a:=ph) (Bb 153 d) DS BM Z (by decide) Z Z b8 oM ek oM oM oM (by unfold maxLen;omega) Ac fun oq o5 q3 al av cn=>?_
     have kt:oa.heap.size≤o5.heap.size:=al.size
     have em:AB [gs,gg] w o5:=el.fresh al (fun c hc=>zH<|av _ hc)
     have en:=b9.chg al fun c hc=>zH<|av _ hc
     have eo:=ba.chg al fun hm=>zH<|av _ hm
     have ep:=bb.chg al fun hm=>zH<|av _ hm
     have eq:=bc.chg al fun hm=>zH<|av _ hm
     refine Ao (p:=zP f1.heap.size) 4 Bv Z Z Ac (Bn (k:=4) (w:=o5) U5 Z Z (AT cn.isSlS) eq sM Ac fun ob am m5 c4=>?_)
     replace c4:BX ob.heap f1.heap.size [zI k2,zI 0,zI 0,zI 0,oq]:=c4
     have ku:o5.heap.size≤ob.heap.size:=am.size
     have er:AB [gs,gg] w ob:=em.fresh am (fun _ h=>zE h)
     have es:=en.chg am fun c hc=>zH<|Ab hc
     have et:=eo.chg am (zB ·)
     have eu:=ep.chg am (zB ·)
     have ev:=cn.chg (An<|Bb 153 d) am fun _ h=>zA h
     exact Aj<|Ad _ [0,0,0] Z<|Af 1 Z<|AS ((i+1:Nat):Int) Z Z (Bg oM oM) Ac<|Ae 1 Z ⟨(i+1,pg,pf,oq,xs++[fx]),_,rfl,zR,⟨er,ev.up<|An<|Bb 153 d,es,et,eu,c4,oM,Qf,oM,oM,oM,oM,oM⟩,zD⟩
    refine Av false Z Z (A8 cm) (Ag (e:=99) Z Z Z)<|Ae 1 Z<|Ak Z<|A4 ?_
    letI:JR:=Qr [gs,gg]
    refine Jx.B7 _ [0,1,0,0,0,0,0,3,3,4,0,4] mixed (by kernel_rfl) ?_
    have htn:=MR (k:=Ib (d-1)) (i:=i+1) oM
    have hts:RV (i+1) (Ib (d-1))=RV i (Ib (d-1))+Ib (d-1):=rfl
    have hti:=OH (k:=MQ (d-1)) (i:=i) oM oM
    have hlo:=hko.lo
    have hln:=hko.len
    refine Jx.Ao (p:=zP f1.heap.size) 4 Bv Z Z Ac<|Jx.eB (p:=Au (zP f1.heap.size) 4) vk BG Z (fun wj hj=>(BX.chg (w:=f3.drew) (F:=[gs,gg]) a0 hj fun hm=>zH<|DY hm).ldp (i:=4) sM) Ac<|Jx.Yc (zP gg) Z Ac<|Jx.Yc (zI vars) Z Ac<|Jx.Yc (zI funcs) Z Ac<|Jx.Yc (zI (d:Int)) Z Ac<|Jx.j1<|BP ((d-1:Nat):Int) Z Z (by rw[E1 oM oM];omega) Ac<|Aj ?_
    refine Jx.Ay 104 [] [] [zP gg,zI vars,zI funcs,zI ((d-1:Nat):Int)] Z Z P9 Ac (IH1 (d-1) oM _ gg gs sv cs m pp dp l pl p (vars) (funcs) oM ac a4 (hp.chg (Bi<|B6 dp) a7.drew) _hvars _hfuncs oM oM hpr oM oM oM) ?_
    rintro q4 oc ⟨pi,nz,pj,pk,rfl,a9,ew,m6,ey,c5,ez,m7⟩
    refine⟨_,rfl,a9,?_⟩
    replace c5:=c5.low (B':=f3.heap.size)<|A9 _
    replace a9:=a9.of_drew
    have kv:f3.heap.size≤oc.heap.size:=a9.size
    have g0:AB [gs,gg] w oc:=a7.trans a9
    have g1:=a3.chg (An<|Bb 153 d) a9 fun c hc=>zH<|DY hc
    have g2:=a5.chg a9 fun hm=>zH<|DY hm
    have g3:=a0.chg a9 fun hm=>zH<|DY hm
    refine Jx.V2 Z (Ct (cs:=[zI nz.kind,zI nz.num,zI nz.pick,zI nz.count,pi]) (y:=nz) (B:=f3.heap.size) (Bb 153 d) DS BM Z (by decide) Z (RQ.mk1 oM ez c5) oM Ac fun pn od aj m8 g4=>?_)
    have kw:oc.heap.size≤od.heap.size:=aj.size
    have g5:AB [gs,gg] w od:=g0.ext aj
    have bd:=g1.ext (An<|Bb 153 d) aj
    have be:=ew.ext aj
    have bf:=ey.ext aj
    have bg:=g2.ext aj
    have bh:=g3.ext aj
    refine HE (v:=vk) (a:=pn) (Bb 153 d) DS BM Z (by decide) Z Z bd oM g4 oM oM oM (by unfold maxLen;omega) Ac fun os o6 q5 an aw co=>?_
    have kx:od.heap.size≤o6.heap.size:=an.size
    have g6:AB [gs,gg] w o6:=g5.fresh an (fun c hc=>zH<|aw _ hc)
    have g7:=be.chg an fun c hc=>zH<|aw _ hc
    have g8:=bf.chg an fun hm=>zH<|aw _ hm
    have g9:=bg.chg an fun hm=>zH<|aw _ hm
    have ga:=bh.chg an fun hm=>zH<|aw _ hm
    refine Ao (p:=zP f1.heap.size) 4 Bv Z Z Ac (Bn (k:=4) (w:=o6) U5 Z Z (AT co.isSlS) ga sM Ac fun oe ao m9 c6=>?_)
    replace c6:BX oe.heap f1.heap.size [zI k2,zI 0,zI 0,zI 0,os]:=c6
    have ky:o6.heap.size≤oe.heap.size:=ao.size
    have gb:AB [gs,gg] w oe:=g6.fresh ao (fun _ h=>zE h)
    have gc:=g7.chg ao fun c hc=>zH<|Ab hc
    have gd:=g8.chg ao (zB ·)
    have ge:=g9.chg ao (zB ·)
    have gf:=co.chg (An<|Bb 153 d) ao fun _ h=>zA h
    exact Aj<|Ad _ [0,0,0] Z<|Af 1 Z<|AS ((i+1:Nat):Int) Z Z (Bg oM oM) Ac<|Ae 1 Z ⟨(i+1,pk,pj,os,xs++[nz]),_,rfl,zR,⟨gb,gf.up<|An<|Bb 153 d,gc,gd,ge,c6,oM,Qf,oM,oM,oM,oM,oM⟩,zD⟩
   refine Av false Z Z (A8 cl) Ac<|Ae 4 Z<|Ak Z<|A4 ?_
   letI:JR:=Qr [gs,gg]
   refine Jx.B7 _ [0,1,0,0,0,0,0,3,3,4,0,4] mixed (by kernel_rfl) ?_
   have htn:=MR (k:=Ib (d-1)) (i:=i+1) oM
   have hts:RV (i+1) (Ib (d-1))=RV i (Ib (d-1))+Ib (d-1):=rfl
   have hti:=OH (k:=MQ (d-1)) (i:=i) oM oM
   have hlo:=hko.lo
   have hln:=hko.len
   refine Jx.Ao (p:=zP f1.heap.size) 4 Bv Z Z Ac<|Jx.eB (p:=Au (zP f1.heap.size) 4) vk BG Z (fun wj hj=>(BX.chg (w:=f3.drew) (F:=[gs,gg]) a0 hj fun hm=>zH<|DY hm).ldp (i:=4) sM) Ac<|Jx.Yc (zP gg) Z Ac<|Jx.Yc (zI vars) Z Ac<|Jx.Yc (zI funcs) Z Ac<|Jx.Yc (zI (d:Int)) Z Ac<|Jx.j1<|BP ((d-1:Nat):Int) Z Z (by rw[E1 oM oM];omega) Ac<|Aj ?_
   refine Jx.Ay 104 [] [] [zP gg,zI vars,zI funcs,zI ((d-1:Nat):Int)] Z Z P9 Ac (IH1 (d-1) oM _ gg gs sv cs m pp dp l pl p (vars) (funcs) oM ac a4 (hp.chg (Bi<|B6 dp) a7.drew) _hvars _hfuncs oM oM hpr oM oM oM) ?_
   rintro q6 og ⟨po,o0,pq,pr,rfl,aa,gh,ma,gi,c7,gj,mb⟩
   refine⟨_,rfl,aa,?_⟩
   replace c7:=c7.low (B':=f3.heap.size)<|A9 _
   replace aa:=aa.of_drew
   have kz:f3.heap.size≤og.heap.size:=aa.size
   have gk:AB [gs,gg] w og:=a7.trans aa
   have gl:=a3.chg (An<|Bb 153 d) aa fun c hc=>zH<|DY hc
   have gm:=a5.chg aa fun hm=>zH<|DY hm
   have gn:=a0.chg aa fun hm=>zH<|DY hm
   refine Jx.V2 Z (Ct (cs:=[zI o0.kind,zI o0.num,zI o0.pick,zI o0.count,po]) (y:=o0) (B:=f3.heap.size) (Bb 153 d) DS BM Z (by decide) Z (RQ.mk1 oM gj c7) oM Ac fun pt oh ak mc go=>?_)
   have l2:og.heap.size≤oh.heap.size:=ak.size
   have gp:AB [gs,gg] w oh:=gk.ext ak
   have bi:=gl.ext (An<|Bb 153 d) ak
   have bj:=gh.ext ak
   have bk:=gi.ext ak
   have bl:=gm.ext ak
   have bm:=gn.ext ak
   refine HE (v:=vk) (a:=pt) (Bb 153 d) DS BM Z (by decide) Z Z bi oM go oM oM oM (by unfold maxLen;omega) Ac fun ot o7 q7 ap ax cp=>?_
   have l3:oh.heap.size≤o7.heap.size:=ap.size
   have gq:AB [gs,gg] w o7:=gp.fresh ap (fun c hc=>zH<|ax _ hc)
   have gr:=bj.chg ap fun c hc=>zH<|ax _ hc
   have gt:=bk.chg ap fun hm=>zH<|ax _ hm
   have gu:=bl.chg ap fun hm=>zH<|ax _ hm
   have gv:=bm.chg ap fun hm=>zH<|ax _ hm
   refine Ao (p:=zP f1.heap.size) 4 Bv Z Z Ac (Bn (k:=4) (w:=o7) U5 Z Z (AT cp.isSlS) gv sM Ac fun oi aq md c8=>?_)
   replace c8:BX oi.heap f1.heap.size [zI k2,zI 0,zI 0,zI 0,ot]:=c8
   have l4:o7.heap.size≤oi.heap.size:=aq.size
   have gw:AB [gs,gg] w oi:=gq.fresh aq (fun _ h=>zE h)
   have gx:=gr.chg aq fun c hc=>zH<|Ab hc
   have gy:=gt.chg aq (zB ·)
   have gz:=gu.chg aq (zB ·)
   have i0:=cp.chg (An<|Bb 153 d) aq fun _ h=>zA h
   exact Aj<|Ad _ [0,0,0] Z<|Af 1 Z<|AS ((i+1:Nat):Int) Z Z (Bg oM oM) Ac<|Ae 1 Z ⟨(i+1,pr,pq,ot,xs++[o0]),_,rfl,zR,⟨gw,i0.up<|An<|Bb 153 d,gx,gy,gz,c8,oM,Qf,oM,oM,oM,oM,oM⟩,zD⟩
  refine AJ false Z Z (A8 ck) Ac<|Aj<|Ak Z<|A6<|AA<|AA<|Ax<|fQ [2,4] Z<|AC (p:=zP f1.heap.size) (.inr Z) [zI k2,zI 0,zI 0,zI 0,vk] Bq Z (fun qe ns=>LD.of_box<|BX.ext (w:=f3) a0 ns) Z Ac (Bh (vs:=[zI k2,zI 0,zI 0,zI 0,vk]) Bq Z Z (by intro u hu;simp only[ze,z2,or_false]at hu;rcases hu with rfl|rfl|rfl|rfl|rfl <;> first|exact⟨rfl,rfl⟩|exact AT a3.isSlS) a5 Z Z Ac fun oj ar me c9=>?_)
  replace c9:BX oj.heap w.heap.size [zI k2,zI 0,zI 0,zI 0,vk]:=c9
  have l5:f3.heap.size≤oj.heap.size:=ar.size
  have i1:AB [gs,gg] w oj:=a7.fresh ar (fun _ h=>zE h)
  have i2:=a3.chg (An<|Bb 153 d) ar fun _ h=>zA h
  have i3:=ac.chg ar fun c hc=>zH<|Ab hc
  have i4:=a4.chg ar (zB ·)
  have mf:=a0.chg ar (zB ·)
  refine Aj<|A3 ?_
  have hln:=hko.len
  have htn:=MR (k:=Ib (d-1)) (i:=i) oM
  exact BK (cs:=[zI k2,zI 0,zI 0,zI 0,vk]) Z Bq Z c9 Z ⟨vk,.mk k2 0 0 0 xs,m,l,rfl,i1,i3,⟨zO,zO⟩,i4,(i2.up<|An<|Bb 153 d).low (B':=w.heap.size) oM,Lk oM oM oM oM,(by exact hko.node oM oM oM nr (YG oM oM))⟩
 refine Ah (by first|rfl|exact zW dh)<|fQ [0,0,4,4] Z<|Af 2 Z<|AK 163 [] [] [zP gg,zI vars] Z Z Rn Ac (Dd _ gg gs sv cs px pp dp (l0-((1:Nat):Int)) pl p (vars) oM df ce (hp.chg (Bi<|B6 dp) cd) _hvars oM oM) ?_
 rintro q8 ol ⟨fd,pu,rfl,ca,i5,mg,i6,i7,d9,mh⟩
 refine⟨_,rfl,?_⟩
 have l6:f1.heap.size≤ol.heap.size:=ca.size
 have i8:AB [gs,gg] w ol:=cd.trans ca
 have i9:=cf.chg ca fun hm=>zH<|DY hm
 refine Bh (vs:=[zI fd.kind,zI fd.num,zI fd.pick,zI fd.count,zN]) Bq Z Z Hj i9 Z Z Ac fun om b3 mi cb=>?_
 replace cb:BX om.heap w.heap.size [zI fd.kind,zI fd.num,zI fd.pick,zI fd.count,zN]:=cb
 have l7:ol.heap.size≤om.heap.size:=b3.size
 have ia:AB [gs,gg] w om:=i8.fresh b3 (fun _ h=>zE h)
 have ib:=i5.chg b3 fun c hc=>zH<|Ab hc
 have ic:=i6.chg b3 (zB ·)
 exact Aj<|A3<|At<|BK (cs:=[zI fd.kind,zI fd.num,zI fd.pick,zI fd.count,zN]) Z Bq Z cb Z ⟨zN,fd,pu,l0-((1:Nat):Int),rfl,ia,ib,⟨zO,zO⟩,ic,(by rw[d9];exact H3 _ _ _),i7,(by exact PC.ok (by assumption) d)⟩
theorem Zv:∀d,GX d∧(1≤d→GC d):=by
  intro d
  induction d using Nat.strongRecOn with
  |_ d ih =>
    have hc:1≤d→GC d:=fun h1 w gg gs sv cs n0 pp dp l0 pl p vars funcs hgg hs hB0 hp hv' hf' hv hfu hpr hd hn hl=>J6 w gg gs sv cs n0 pp dp l0 pl p vars funcs d hgg hs hB0 hp hv' hf' hv hfu hpr hd hn hl (ih (d-1) zO).1
    exact⟨fun w gg gs sv cs n0 pp dp l0 pl p vars funcs hgg hs hB0 hp hv' hf' hv hfu hpr hd hn hl=>J7 w gg gs sv cs n0 pp dp l0 pl p vars funcs d hgg hs hB0 hp hv' hf' hv hfu hpr hd hn hl (fun d' h=>(ih d' h).1) hc,hc⟩
theorem Zw (d:Nat):GX d:=(Zv d).1
theorem J8 (w:World)(g:Nat)(sv:Value)(cs:List UInt8)(n0:Nat)(vl:Value)(us:List Value)(hs:EL w.heap g sv cs n0)(a7:n0+2≤1000000000000)(hl:∀w',AB [g] w w'→Rd (Bl rV) w'.heap vl us)(hus:∀u∈us,∃s,u=Value.string s)(hul:1≤us.length∧us.length≤1000)  :
  Calls Tryz.prog 103 #[zP g,vl] w (fun e w'=>∃(x0:ByteArray) (n1:Nat),e=.returned (.string x0)∧AB [g] w w'∧EL w'.heap g sv cs n1∧(n0≤n1∧n1≤n0+2)∧(Value.string x0∈us)):=by
 refine Aw [zP g,vl] 12 Tryz.func103 Z Z sM ?_
 have a1:AB [g] w w:=AB.refl [g] w
 have aa:=(hl _ a1).lenle
 have ab:=hs.lt
 refine fR Z<|fQ [0,0,0,0,4,0,2,0] Z<|Af 3 Z<|AU (v:=vl) Zn Z (hl _ a1).isSl Ac<|AK 101 [] [] [zP g,zI (us.length:Int)] Z Z Ff Ac (Ba _ g _ _ _ (us.length:Int) hs oM oM oM) ?_
 rintro e1 w1 ⟨a9,n1,rfl,a3,a5,a8,a4⟩
 refine⟨_,rfl,?_⟩
 have a6:w.heap.size≤w1.heap.size:=a3.size
 have a2:AB [g] w w1:=a1.trans a3
 refine AH (v:=vl) ((a9).toNat) Zn gA Z Z (hl _ a2).isSl oM sD Ac ?_
 obtain⟨sx2,a0⟩:=hus (us.getD ((a9).toNat) undef) (T5 sD)
 refine Ai (p:=AE vl ((a9).toNat) 1) (.inr Z) (.string sx2) Q0 Z (by rw[← a0];exact(Rd.getV (hl _ a2) sD).1) Ac ?_
 have hsm:Value.string sx2∈us:=a0 ▸ T5 sD
 exact Ae 1 Z<|A3<|Al [4] Z (.string sx2) Z ⟨sx2,n1,rfl,a2,a5,⟨zO,zO⟩,hsm⟩
theorem LX (w:World)(n:Int)(_hn:Bd n)(hk:0≤n∧n<10) :
  Calls Tryz.prog 161 #[zI n] w (fun e w'=>∃s,e=.returned (.string s)∧AD w w'∧s=Js n.toNat):=by
 refine Aw [zI n] 20 Tryz.func161 Z Z sM ?_
 have a2:AD w w:=AD.refl w
 refine fR Z<|A0<|fQ [0,0] Z<|Af 1 Z ?_
 by_cases a0:n<((10:Nat):Int)
 ·refine AJ true Z Z (A7 a0) Ac<|Aj<|Ah Z<|fQ [0,0,0,3,2,0] Z<|Af 1 Z ?_
  refine AS (((48:Nat):Int)+n) Z Z (E1 sD sD) Ac<|JT (IntKind.u8.wrap (((48:Nat):Int)+n)) u2 u5 Z Z Ac ?_
  refine BQ (u:=.int .u8<|IntKind.u8.wrap (((48:Nat):Int)+n)) (B:=w.heap.size) BY Se fZ Z Z (Qo (w.heap.size) (w.heap.size) _ ⟨rfl,rfl⟩) (A9 _) Ac fun v2 w2 a1 a6 a3=>?_
  have a4:=a1.size
  have a5:=a2.trans a1
  exact V5 Se u5 u9 Z a3 Ac<|Ae 1 Z<|A3<|At<|Al [2] Z (.string (⟨#[UInt8.ofNat (IntKind.u8.wrap (((48:Nat):Int)+n)).toNat]⟩:ByteArray)) Z ⟨(⟨#[UInt8.ofNat (IntKind.u8.wrap (((48:Nat):Int)+n)).toNat]⟩:ByteArray),rfl,a5,(by exact YK hk.1 hk.2)⟩
 exact absurd hk.2 a0
theorem LY (w:World)(g:Nat)(sv:Value)(cs:List UInt8)(n0:Nat)(funcs:Int)(nodes:Int)(plain:Bool)(hs:EL w.heap g sv cs n0)(j0:n0+(150000*funcs.toNat)≤1000000000000)(_hfuncs:Bd funcs)(_hnodes:Bd nodes)(hfn:0≤funcs∧funcs≤9)(hnd:1≤nodes∧nodes≤30) :
  Calls Tryz.prog 100 #[zP g,zI funcs,zI nodes,.bool plain] w (fun e w'=>∃(v:Value) (p:List Fn) (n1:Nat),e=.returned (.agg #[v])∧AB [g] w w'∧EL w'.heap g sv cs n1∧(n0≤n1∧n1≤n0+(150000*funcs.toNat))∧Fr (DB 3 (Sv 153 6) 33) w.heap.size w'.heap.size w'.heap v p∧Me p plain∧Dn p∧(p.length:Int)=funcs):=by
 refine Aw [zP g,zI funcs,zI nodes,.bool plain] 65 Tryz.func100 Z Z sM ?_
 have ga:AB [g] w w:=AB.refl [g] w
 have jy:=hs.lt
 have j1:=eW
 have j2:=eX
 refine fQ [3] Z (B9 (z:=.agg #[zN]) Sa Ac fun w1 dr i1 ds=>?_)
 have dt:w.heap.size≤w1.heap.size:=dr.size
 have gb:AB [g] w w1:=ga.ext dr
 have du:=hs.ext dr
 replace ds:BX w1.heap w.heap.size [zN]:=ds
 refine Aj<|fQ [0,3,4] Z ?_
 have dv:∀(wq:World),(Instr.build 26 #[]).run Tryz.prog wq=.ok (.agg #[zN]) wq:=by intro wq;kernel_rfl
 refine Ch (ps:=#[]) (.agg #[zN]) (by simp only[zc,zf,zh]) (fun wq=>dv  wq) Ac ?_
 have j3:=ds.lt
 refine B9 (z:=.agg #[zN]) Sa Ac fun w3 cb i2 dw=>?_
 have dx:w1.heap.size≤w3.heap.size:=cb.size
 have gc:AB [g] w w3:=gb.ext cb
 have dy:=du.ext cb
 have cc:=ds.ext cb
 replace dw:BX w3.heap w1.heap.size [zN]:=dw
 refine Bh (vs:=[zN]) EC Z Z (by intro u hu;simp only[ze,z2,or_false]at hu;rcases hu with rfl <;> first|exact⟨rfl,rfl⟩) dw Z Z Ac fun w5 cd i3 dz=>?_
 replace dz:BX w5.heap w1.heap.size [zN]:=dz
 have i4:w3.heap.size≤w5.heap.size:=cd.size
 have i5:AB [g] w w5:=gc.fresh cd (fun _ h=>zE h)
 have gd:=dy.chg cd fun c hc=>zH<|Ab hc
 have ge:=cc.chg cd (zB ·)
 refine Aj<|A0<|fR Z<|A5 ?_
 refine B8 (S:=Nat×Value×List Fn×Nat) (fun⟨k,vp,ps,m⟩=>([(10,zI (k:Int)),(0,zP g),(1,zI funcs),(2,zI nodes),(3,.bool plain),(8,zP w.heap.size),(9,zP w1.heap.size)])) (fun⟨k,vp,ps,m⟩ W=>AB [g] w W∧Fr (DB 3 (Sv 153 6) 33) w5.heap.size W.heap.size W.heap vp ps∧EL W.heap g sv cs m∧BX W.heap w.heap.size [zN]∧BX W.heap w1.heap.size [vp]∧(k:Int)≤funcs∧Me ps plain∧Dn ps∧ps.length=k∧(n0≤m∧m≤n0+150000*k)∧(g<w5.heap.size∧w.heap.size≤w5.heap.size)∧w.heap.size<w5.heap.size∧w1.heap.size<w5.heap.size∧w5.heap.size≤W.heap.size) (fun⟨k,vp,ps,m⟩=>funcs.toNat-k) (0,zN,([]:List Fn),n0) ⟨rfl,rfl,rfl,rfl,rfl,rfl,rfl,trivial⟩ ⟨i5,(H3 _ 0 _).up<|An<|B4 153 6,gd,ge,dz,oM,(by exact Me.nil _),Dn.nil,(by rfl),oM,oM,oM,oM,oM⟩ ?_
 clear ga i1 dr dt gb i2 cb dx gc i3 cd gd ge
 rintro⟨k,vp,ps,m⟩ ρ10 fe ⟨bx,ab,an,ac,a1,hkf,ja,hdn,hpk,hmk,hgb,i6,i7,gf⟩
 have gg:w.heap.size≤fe.heap.size:=bx.size
 have i8:=ac.lt
 have i9:=a1.lt
 refine A0<|fQ [0,0,0] Z<|Af 2 Z ?_
 by_cases ce:(k:Int)<funcs
 ·refine AJ true Z Z (A7 ce) Ac<|Aj<|Ah Z<|A4<|A0<|A5<|fQ [0,3,4,0,3,0,0,4,0,0,3,4] Z<|Af 1 Z (YL (ys:=[.string<|⟨#[102]⟩,.string<|⟨#[103]⟩,.string<|⟨#[115,116,101,112]⟩,.string<|⟨#[104,50]⟩]) BY Zn gA Z Z Z Z Z Z (aA ⟨rfl,rfl⟩ ⟨rfl,rfl⟩ ⟨rfl,rfl⟩ ⟨rfl,rfl⟩) Ac fun jo jg ao e0 bz=>?_)
  have cf:fe.heap.size≤jg.heap.size:=ao.size
  have cg:AB [g] w jg:=bx.ext ao
  have a5:=ab.ext (An<|B4 153 6) ao
  have a6:=an.ext ao
  have a7:=ac.ext ao
  have a8:=a1.ext ao
  refine AK 103 [] [] [zP g,jo] Z Z bT Ac (J8 _ g _ _ _ jo _ a6 oM (fun w9 h9=>(bz.chg oV h9 fun c hc=>zH<|Ab hc).rdV1) (by intro u hu;simp only[ze,z2,or_false]at hu;rcases hu with rfl|rfl|rfl|rfl <;> exact⟨_,rfl⟩) sM) ?_
  rintro jz jh ⟨f2,k0,rfl,ap,e1,ia,c0⟩
  refine⟨_,rfl,?_⟩
  have ch:jg.heap.size≤jh.heap.size:=ap.size
  have ci:AB [g] w jh:=cg.trans ap
  have cj:=a5.chg (An<|B4 153 6) ap fun _ h=>zA h
  have ck:=a7.chg ap (zB ·)
  have cl:=a8.chg ap (zB ·)
  have cm:=bz.chg (oV) ap fun _ h=>zA h
  have hfo:=T8 c0
  refine Af 1 Z<|Ay 161 [] [] [zI (k:Int)] Z Z cL Ac (LX _ (k:Int) oM oM) ?_
  rintro k1 ji ⟨st21,rfl,ad,rfl⟩
  refine⟨_,rfl,ad,?_⟩
  have cn:jh.heap.size≤ji.heap.size:=ad.size
  have co:AB [g] w ji:=ci.ext ad
  have az:=cj.ext (An<|B4 153 6) ad
  have bo:=e1.ext ad
  have b0:=ck.ext ad
  have b1:=cl.ext ad
  have b2:=cm.ext (oV) ad
  refine Yk (a:=f2) (b:=Js k) Z Z (by have:=RW _ hfo;have:=T6 k;omega) Ac<|Af 1 Z<|AK 101 [] [] [zP g,zI ((3:Nat):Int)] Z Z Ff Ac (Ba _ g _ _ _ ((3:Nat):Int) bo oM oM sD) ?_
  rintro k2 f3 ⟨f1,k3,rfl,aq,e2,ib,e3⟩
  refine⟨_,rfl,?_⟩
  have cp:ji.heap.size≤f3.heap.size:=aq.size
  have cq:AB [g] w f3:=co.trans aq
  have cr:=az.chg (An<|B4 153 6) aq fun _ h=>zA h
  have c1:=b0.chg aq (zB ·)
  have c2:=b1.chg aq (zB ·)
  have ct:=b2.chg (oV) aq fun _ h=>zA h
  refine AS (((1:Nat):Int)+f1) Z Z (E1 sD sD) Ac ?_
  have cu:∀(wq:World),(Instr.build 33 #[(0,.string (f2++Js k)),(1,zI (((1:Nat):Int)+f1))]).run Tryz.prog wq=.ok (.agg #[.string (f2++Js k),zI (((1:Nat):Int)+f1),zN]) wq:=by intro wq;kernel_rfl
  refine Ch (ps:=#[(0,.string (f2++Js k)),(1,zI (((1:Nat):Int)+f1))]) (.agg #[.string (f2++Js k),zI (((1:Nat):Int)+f1),zN]) (by simp only[zc,zf,zh];rfl) (fun wq=>cu  wq) Ac ?_
  have ic:=c1.lt
  have id:=c2.lt
  refine B9 (z:=.agg #[.string ByteArray.empty,zI 0,zN]) Zo Ac fun jb ag e4 c3=>?_
  have cv:f3.heap.size≤jb.heap.size:=ag.size
  have cw:AB [g] w jb:=cq.ext ag
  have b3:=cr.ext (An<|B4 153 6) ag
  have bp:=e2.ext ag
  have b4:=c1.ext ag
  have b5:=c2.ext ag
  have b6:=ct.ext (oV) ag
  replace c3:BX jb.heap f3.heap.size [.string ByteArray.empty,zI 0,zN]:=c3
  refine Bh (vs:=[.string (f2++Js k),zI (((1:Nat):Int)+f1),zN]) LG Z Z (by intro u hu;simp only[ze,z2,or_false]at hu;rcases hu with rfl|rfl|rfl <;> first|exact⟨rfl,rfl⟩) c3 Z Z Ac fun jc ah e5 c4=>?_
  replace c4:BX jc.heap f3.heap.size [.string (f2++Js k),zI (((1:Nat):Int)+f1),zN]:=c4
  have cx:jb.heap.size≤jc.heap.size:=ah.size
  have cy:AB [g] w jc:=cw.fresh ah (fun _ h=>zE h)
  have cz:=b3.chg (An<|B4 153 6) ah fun _ h=>zA h
  have d0:=bp.chg ah fun c hc=>zH<|Ab hc
  have d1:=b4.chg ah (zB ·)
  have d2:=b5.chg ah (zB ·)
  have d3:=b6.chg (oV) ah fun _ h=>zA h
  refine Aj<|fQ [0,4,0,0] Z<|Af 1 Z<|AK 101 [] [] [zP g,zI ((3:Nat):Int)] Z Z Ff Ac (Ba _ g _ _ _ ((3:Nat):Int) d0 oM oM sD) ?_
  rintro k4 jd ⟨fr,k5,rfl,ai,e6,ie,e7⟩
  refine⟨_,rfl,?_⟩
  have d4:jc.heap.size≤jd.heap.size:=ai.size
  have d5:AB [g] w jd:=cy.trans ai
  have d6:=cz.chg (An<|B4 153 6) ai fun _ h=>zA h
  have d7:=d1.chg ai (zB ·)
  have d8:=d2.chg ai (zB ·)
  have d9:=d3.chg (oV) ai fun _ h=>zA h
  have da:=c4.chg ai (zB ·)
  refine AS (((1:Nat):Int)+fr) Z Z (E1 sD sD) Ac<|Ae 1 Z ?_
  refine A0<|Kl (S:=Int×Nat) (fun⟨o,m1⟩=>([(12,zI o),(0,zP g),(1,zI funcs),(2,zI nodes),(3,.bool plain),(8,zP w.heap.size),(9,zP w1.heap.size),(10,zI (k:Int)),(11,zP f3.heap.size)])) (fun⟨o,m1⟩ W=>AB [g] w W∧Fr (DB 3 (Sv 153 6) 33) w5.heap.size fe.heap.size W.heap vp ps∧EL W.heap g sv cs m1∧BX W.heap w.heap.size [zN]∧BX W.heap w1.heap.size [vp]∧BX W.heap f3.heap.size [.string (f2++Js k),zI (((1:Nat):Int)+f1),zN]∧(1≤o∧o≤3)∧(n0≤m1∧m1≤n0+150000*k+8)∧fe.heap.size≤jd.heap.size∧(g<w5.heap.size∧w.heap.size≤w5.heap.size)∧fe.heap.size≤f3.heap.size∧w5.heap.size≤W.heap.size) ?_ ?_
  ·refine fQ [0,4] Z<|Af 1 Z<|AK 102 [] [] [zP g,zI ((2:Nat):Int)] Z Z P8 Ac (CP _ g _ _ _ ((2:Nat):Int) e6 oM oM sD) ?_
   rintro k6 jp ⟨j9,jq,rfl,ar,db,ig,e8⟩
   refine⟨_,rfl,?_⟩
   have gh:jd.heap.size≤jp.heap.size:=ar.size
   have dc:AB [g] w jp:=d5.trans ar
   have dd:=d6.chg (An<|B4 153 6) ar fun _ h=>zA h
   have de:=d7.chg ar (zB ·)
   have df:=d8.chg ar (zB ·)
   have ih:=d9.chg (oV) ar fun _ h=>zA h
   have c5:=da.chg ar (zB ·)
   refine Aj ?_
   cases dg:j9
   ·exact Ak (by first|rfl|exact zW dg)<|A4 ⟨(((1:Nat):Int)+fr,jq),_,rfl,zR,⟨dc,dd,db,de,df,c5,oM,oM,oM,oM,oM,oM⟩⟩
   exact Ah (by first|rfl|exact zW dg)<|Ad _ [0,2,0] Z<|Ao (p:=zP f3.heap.size) 1 CZ Z Z Ac<|Ai (p:=Au (zP f3.heap.size) 1) (.inr Z) (zI (((1:Nat):Int)+f1)) AG Z (c5.ldp (i:=1) sM) Ac<|Ae 1 Z ⟨(((1:Nat):Int)+f1,jq),_,rfl,zR,⟨dc,dd,db,de,df,c5,oM,oM,oM,oM,oM,oM⟩⟩
  clear a1 ac an ab bz e0 ao cf cg a5 a6 a7 a8 ap ch ci cj ck cl cm ad cn co az b0 b1 b2 aq cp cq cr c1 c2 ct e4 ag cv cw b3 b4 b5 b6 e5 ah cx cy cz d0 d1 d2 d3 ai d4 d5 d6 d7 d8 d9 da
  rintro⟨o,m1⟩ ρ43 fs ⟨dh,bh,bi,au,av,aw,j4,j5,huw,hgb,huf,gi⟩
  have gj:w.heap.size≤fs.heap.size:=dh.size
  have ii:=au.lt
  have ij:=av.lt
  have ik:=aw.lt
  refine A0<|fR Z<|A5 ?_
  refine B8 (S:=Nat×Value×List Ex×Nat) (fun⟨i,vo,xs,m2⟩=>([(13,zI (i:Int)),(0,zP g),(1,zI funcs),(2,zI nodes),(3,.bool plain),(8,zP w.heap.size),(9,zP w1.heap.size),(10,zI (k:Int)),(11,zP f3.heap.size),(12,zI o)])) (fun⟨i,vo,xs,m2⟩ W=>AB [g] w W∧Fr (DB 5 (Qs 153 6) 153) fs.heap.size W.heap.size W.heap vo xs∧Fr (DB 3 (Sv 153 6) 33) w5.heap.size fe.heap.size W.heap vp ps∧EL W.heap g sv cs m2∧BX W.heap w.heap.size [zN]∧BX W.heap w1.heap.size [vp]∧BX W.heap f3.heap.size [.string (f2++Js k),zI (((1:Nat):Int)+f1),vo]∧(i:Int)≤o∧T7 ps (((1:Nat):Int)+f1) plain xs i∧(n0≤m2∧m2≤n0+150000*k+8+47770*i)∧fe.heap.size≤fs.heap.size∧(g<w5.heap.size∧w.heap.size≤w5.heap.size)∧fe.heap.size≤f3.heap.size∧w.heap.size<fs.heap.size∧w1.heap.size<fs.heap.size∧f3.heap.size<fs.heap.size∧fs.heap.size≤W.heap.size∧w5.heap.size≤W.heap.size) (fun⟨i,vo,xs,m2⟩=>o.toNat-i) (0,zN,([]:List Ex),m1) ⟨rfl,rfl,rfl,rfl,rfl,rfl,rfl,rfl,rfl,rfl,trivial⟩ ⟨dh,(H3 _ 0 _).up<|An<|Bb 153 6,bh,bi,au,av,aw,oM,(by exact T7.nil _ _ _),oM,oM,oM,oM,oM,oM,oM,oM,oM⟩ ?_
  clear aw av au bi bh
  rintro⟨i,vo,xs,m2⟩ ρ58 fd ⟨c6,bj,bk,bl,ae,a2,a3,hio,hff,j6,huw,hgb,huf,gk,gl,gm,gn,go⟩
  have gp:w.heap.size≤fd.heap.size:=c6.size
  have il:=ae.lt
  have im:=a2.lt
  have io:=a3.lt
  refine A0<|fQ [0,0,0] Z<|Af 2 Z ?_
  by_cases di:(i:Int)<o
  ·refine AJ true Z Z (A7 di) Ac<|Aj<|Ah Z<|A4<|A0<|A5<|fQ [0,0,0,0,3,0] Z<|Af 3 Z ?_
   have dj:∀(wq:World),(Instr.build 151 #[(0,zP g),(1,zP w1.heap.size),(2,zI nodes),(3,.bool plain)]).run Tryz.prog wq=.ok (.agg #[zP g,zP w1.heap.size,zI nodes,.bool plain]) wq:=by intro wq;kernel_rfl
   refine Ch (ps:=#[(0,zP g),(1,zP w1.heap.size),(2,zI nodes),(3,.bool plain)]) (.agg #[zP g,zP w1.heap.size,zI nodes,.bool plain]) (by simp only[zc,zf,zh];rfl) (fun wq=>dj  wq) Ac ?_
   have ip:=ae.lt
   have iq:=a2.lt
   have ir:=a3.lt
   refine BC (cs:=#[zP g,zP w1.heap.size,zI nodes,.bool plain]) Z Ac fun fx aj is c7=>?_
   have gq:fd.heap.size≤fx.heap.size:=aj.size
   have e9:AB [g] w fx:=c6.ext aj
   have b7:=bj.ext (An<|Bb 153 6) aj
   have a9:=bk.ext (An<|B4 153 6) aj
   have b8:=bl.ext aj
   have b9:=ae.ext aj
   have aa:=a2.ext aj
   have a0:=a3.ext aj
   replace c7:BX fx.heap fd.heap.size [zP g,zP w1.heap.size,zI nodes,.bool plain]:=c7
   refine Ae 1 Z ?_
   letI:JR:=Qr [g,fd.heap.size]
   refine Jx.B7 _ [0,1,0,0,1,0,3,3,4,0,4] mixed (by kernel_rfl)<|Jx.Ao (p:=zP f3.heap.size) 2 Cv Z Z Ac<|Jx.eB (p:=Au (zP f3.heap.size) 2) vo BG Z (fun wj hj=>(BX.chg (w:=fx.drew) (F:=[g,fd.heap.size]) a0 hj fun hm=>zH<|DY hm).ldp (i:=2) sM) Ac<|Jx.Yc (zP fd.heap.size) Z Ac<|Jx.Ao (p:=zP f3.heap.size) 1 CZ Z Z Ac ?_
   refine Jx.eB (p:=Au (zP f3.heap.size) 1) (zI (((1:Nat):Int)+f1)) AG Z (fun wj hj=>(BX.chg (w:=fx.drew) (F:=[g,fd.heap.size]) a0 hj fun hm=>zH<|DY hm).ldp (i:=1) sM) Ac<|Jx.Yc (zI (k:Int)) Z Ac ?_
   refine Jx.Ay 104 [] [] [zP fd.heap.size,zI (((1:Nat):Int)+f1),zI (k:Int),zI ((5:Nat):Int)] Z Z P9 Ac (Zw 5 _ fd.heap.size g sv cs m2 (zP w1.heap.size) 6 nodes plain ps (((1:Nat):Int)+f1) (k:Int) oM b8 c7 (RN.box aa (RP.mk'<|RN.of_frF2 a9 fun b hb=>zH<|DY hb) fun hb=>zH<|DY hb) oM oM oM oM ja.gpr oM oM oM) ?_
   rintro k7 jj ⟨jt,j8,ju,k8,rfl,a4,ea,it,eb,c8,ec,iu⟩
   refine⟨_,rfl,a4,?_⟩
   replace c8:=c8.low (B':=fx.heap.size)<|A9 _
   replace a4:=a4.of_drew
   have gr:fx.heap.size≤jj.heap.size:=a4.size
   have ed:AB [g] w jj:=e9.new2 a4 (List.mem_singleton.2 Z) oM
   have ee:=b7.chg (An<|Bb 153 6) a4 fun c hc=>zH<|DY hc
   have ef:=a9.chg (An<|B4 153 6) a4 fun c hc=>zH<|DY hc
   have eg:=b9.chg a4 fun hm=>zH<|DY hm
   have eh:=aa.chg a4 fun hm=>zH<|DY hm
   have ei:=a0.chg a4 fun hm=>zH<|DY hm
   refine Jx.V2 Z (Ct (cs:=[zI j8.kind,zI j8.num,zI j8.pick,zI j8.count,jt]) (y:=j8) (B:=fx.heap.size) (Bb 153 6) DS BM Z (by decide) Z (RQ.mk1 (d:=6) oM ec c8) oM Ac fun jv jk af iv ej=>?_)
   have gs:jj.heap.size≤jk.heap.size:=af.size
   have ek:AB [g] w jk:=ed.ext af
   have bq:=ee.ext (An<|Bb 153 6) af
   have br:=ef.ext (An<|B4 153 6) af
   have bs:=ea.ext af
   have bt:=eg.ext af
   have bu:=eh.ext af
   have bv:=ei.ext af
   have bw:=eb.ext af
   refine HE (v:=vo) (a:=jv) (Bb 153 6) DS BM Z (by decide) Z Z bq oM ej oM oM (zH<|hff.len) (by have:=hff.len;unfold maxLen;omega) Ac fun jr je k9 ak ax dk=>?_
   have gt:jk.heap.size≤je.heap.size:=ak.size
   have el:AB [g] w je:=ek.fresh ak (fun c hc=>zH<|ax _ hc)
   have em:=br.chg (An<|B4 153 6) ak fun c hc=>zH<|ax _ hc
   have en:=bs.chg ak fun c hc=>zH<|ax _ hc
   have eo:=bt.chg ak fun hm=>zH<|ax _ hm
   have ep:=bu.chg ak fun hm=>zH<|ax _ hm
   have eq:=bv.chg ak fun hm=>zH<|ax _ hm
   have er:=bw.chg ak fun hm=>zH<|ax _ hm
   refine Ao (p:=zP f3.heap.size) 2 Cv Z Z Ac (Bn (k:=2) (w:=je) U5 Z Z (AT dk.isSlS) eq sM Ac fun jl al iw c9=>?_)
   replace c9:BX jl.heap f3.heap.size [.string (f2++Js k),zI (((1:Nat):Int)+f1),jr]:=c9
   have gu:je.heap.size≤jl.heap.size:=al.size
   have es:AB [g] w jl:=el.fresh al (fun _ h=>zE h)
   have et:=em.chg (An<|B4 153 6) al fun _ h=>zA h
   have eu:=en.chg al fun c hc=>zH<|Ab hc
   have ev:=eo.chg al (zB ·)
   have ew:=ep.chg al (zB ·)
   have ix:=er.chg al (zB ·)
   have ex:=dk.chg (An<|Bb 153 6) al fun _ h=>zA h
   exact Aj<|Ad _ [0,0,0] Z<|Af 1 Z<|AS ((i+1:Nat):Int) Z Z (Bg oM oM) Ac<|Ae 1 Z ⟨(i+1,jr,xs++[j8],ju),_,rfl,zR,⟨es,ex.up<|An<|Bb 153 6,et,eu,ev,ew,c9,oM,(by exact hff.snoc (funcs:=(k:Int)) (d:=5) (l0:=nodes) oM oM oM (by assumption)),oM,oM,oM,oM,oM,oM,oM,oM,oM⟩,zD⟩
  refine AJ false Z Z (A8 di) Ac<|Aj<|Ak Z<|A6<|AA<|AA<|Ax<|Ad _ [0,2,2,3,4,0,4] Z<|Ao (p:=zP w1.heap.size) 0 C8 Z Z Ac<|Ai (p:=Au (zP w1.heap.size) 0) (.inr Z) vp CO Z (a2.ldp (i:=0) sM) Ac<|AC (p:=zP f3.heap.size) (.inr Z) [.string (f2++Js k),zI (((1:Nat):Int)+f1),vo] LG Z (fun jw ey=>LD.of_box<|BX.ext (w:=fd) a3 ey) Z Ac ?_
  refine Ct (cs:=[.string (f2++Js k),zI (((1:Nat):Int)+f1),vo]) (y:=Fn.mk (f2++Js k) (((1:Nat):Int)+f1) xs) (B:=fs.heap.size) (B4 153 6) Im DJ Z (by decide) Z (RQ.mkF (x:=⟨f2++Js k,((1:Nat):Int)+f1,xs⟩) (YJ (a:=((1:Nat):Int)+f1) oM) bj) oM Ac fun jx jm ay iy ez=>?_
  have gv:fd.heap.size≤jm.heap.size:=ay.size
  have g0:AB [g] w jm:=c6.ext ay
  have ba:=bk.ext (An<|B4 153 6) ay
  have bb:=bl.ext ay
  have bc:=ae.ext ay
  have bd:=a2.ext ay
  have be:=a3.ext ay
  refine HE (v:=vp) (a:=jx) (B4 153 6) Im DJ Z (by decide) Z Z ba oM ez oM oM oM (by unfold maxLen;omega) Ac fun js jf ka bf bm dl=>?_
  have gw:jm.heap.size≤jf.heap.size:=bf.size
  have g1:AB [g] w jf:=g0.fresh bf (fun c hc=>zH<|bm _ hc)
  have g2:=bb.chg bf fun c hc=>zH<|bm _ hc
  have g3:=bc.chg bf fun hm=>zH<|bm _ hm
  have g4:=bd.chg bf fun hm=>zH<|bm _ hm
  have g5:=be.chg bf fun hm=>zH<|bm _ hm
  refine Ao (p:=zP w1.heap.size) 0 C8 Z Z Ac (Bn (k:=0) (w:=jf) fJ Z Z (AT dl.isSlS) g4 sM Ac fun jn bg iz ca=>?_)
  replace ca:BX jn.heap w1.heap.size [js]:=ca
  have gx:jf.heap.size≤jn.heap.size:=bg.size
  have g6:AB [g] w jn:=g1.fresh bg (fun _ h=>zE h)
  have g7:=g2.chg bg fun c hc=>zH<|Ab hc
  have g8:=g3.chg bg (zB ·)
  have gy:=g5.chg bg (zB ·)
  have dm:=dl.chg (An<|B4 153 6) bg fun _ h=>zA h
  refine Aj<|Ad _ [0,0,0] Z<|Af 1 Z<|AS ((k+1:Nat):Int) Z Z (Bg oM oM) Ac<|Ae 1 Z ?_
  exact⟨(k+1,js,ps++[Fn.mk (f2++Js k) (((1:Nat):Int)+f1) xs],m2),_,rfl,zR,⟨g6,dm.up (An (B4 153 6)),g7,g8,ca,oM,(by exact(T7.fn (i:=i) (f:=⟨f2++Js k,((1:Nat):Int)+f1,xs⟩) ja hdn oM ⟨by show 1≤(((1:Nat):Int)+f1);omega,by show(((1:Nat):Int)+f1)≤3;omega⟩ ⟨zO,zO⟩ hff hfo (by show _=_++Js ps.length;rw[hpk])).1),(by exact(T7.fn (i:=i) (f:=⟨f2++Js k,((1:Nat):Int)+f1,xs⟩) ja hdn oM ⟨by show 1≤(((1:Nat):Int)+f1);omega,by show(((1:Nat):Int)+f1)≤3;omega⟩ ⟨zO,zO⟩ hff hfo (by show _=_++Js ps.length;rw[hpk])).2),(by rw[z4,hpk];rfl),oM,oM,oM,oM,oM⟩,zD⟩
 refine AJ false Z Z (A8 ce) Ac<|Aj<|Ak Z<|A6<|AA<|AA<|Ax<|fQ [2,4] Z<|AC (p:=zP w1.heap.size) (.inr Z) [vp] EC Z (fun jw ey=>LD.of_box<|BX.ext (w:=fe) a1 ey) Z Ac (Bh (vs:=[vp]) EC Z Z (by intro u hu;simp only[ze,z2,or_false]at hu;rcases hu with rfl <;> first|exact⟨rfl,rfl⟩|exact AT ab.isSlS) ac Z Z Ac fun j7 am gz bn=>?_)
 replace bn:BX j7.heap w.heap.size [vp]:=bn
 have g9:fe.heap.size≤j7.heap.size:=am.size
 have dn:AB [g] w j7:=bx.fresh am (fun _ h=>zE h)
 have dp:=ab.chg (An<|B4 153 6) am fun _ h=>zA h
 have dq:=an.chg am fun c hc=>zH<|Ab hc
 have i0:=a1.chg am (zB ·)
 exact Aj<|A3<|BK (cs:=[vp]) Z EC Z bn Z ⟨vp,ps,m,rfl,dn,dq,⟨zO,zO⟩,(dp.up<|An<|B4 153 6).low (B':=w.heap.size) oM,(by exact⟨ja,hdn,zO⟩)⟩
theorem LZ (w:World)(g:Nat)(sv:Value)(cs:List UInt8)(n0:Nat)(hs:EL w.heap g sv cs n0)(ax:n0+500000≤1000000000000)  :
  Calls Tryz.prog 47 #[zP g] w (fun e w'=>∃(v:Value) (p:List Fn) (n1:Nat),e=.returned (.agg #[v])∧AB [g] w w'∧EL w'.heap g sv cs n1∧(n0≤n1∧n1≤n0+500000)∧Fr (DB 3 (Sv 153 6) 33) w.heap.size w'.heap.size w'.heap v p∧(∃pl,Me p pl)∧Dn p∧1≤p.length∧p.length≤3):=by
 refine Aw [zP g] 10 Tryz.func47 Z Z sM ?_
 have ad:AB [g] w w:=AB.refl [g] w
 have b5:=hs.lt
 refine fQ [3] Z (B9 (z:=.agg #[zN]) Sa Ac fun w1 a1 ay a2=>?_)
 have ae:w.heap.size≤w1.heap.size:=a1.size
 have af:AB [g] w w1:=ad.ext a1
 have a3:=hs.ext a1
 replace a2:BX w1.heap w.heap.size [zN]:=a2
 refine Aj<|fQ [0,0,4,0,0,4,4,4] Z<|Af 2 Z<|AK 101 [] [] [zP g,zI ((3:Nat):Int)] Z Z Ff Ac (Ba _ g _ _ _ ((3:Nat):Int) a3 oM oM sD) ?_
 rintro e2 w2 ⟨b3,n2,rfl,a4,ag,az,a9⟩
 refine⟨_,rfl,?_⟩
 have ah:w1.heap.size≤w2.heap.size:=a4.size
 have ai:AB [g] w w2:=af.trans a4
 have aj:=a2.chg a4 (zB ·)
 refine AS (((1:Nat):Int)+b3) Z Z (E1 sD sD) Ac<|Af 1 Z ?_
 refine AK 102 [] [] [zP g,zI ((4:Nat):Int)] Z Z P8 Ac (CP _ g _ _ _ ((4:Nat):Int) ag oM oM sD) ?_
 rintro e4 w4 ⟨b4,n4,rfl,a5,ak,b0,aa⟩
 refine⟨_,rfl,?_⟩
 have al:w2.heap.size≤w4.heap.size:=a5.size
 have am:AB [g] w w4:=ai.trans a5
 have an:=aj.chg a5 (zB ·)
 refine AK 100 [] [] [zP g,zI (((1:Nat):Int)+b3),zI ((14:Nat):Int),.bool b4] Z Z bS Ac (LY _ g sv cs n4 (((1:Nat):Int)+b3) ((14:Nat):Int) b4 ak oM oM oM oM oM) ?_
 rintro e6 w6 ⟨v6,p6,n6,rfl,a6,ao,b1,ab,ac⟩
 refine⟨_,rfl,?_⟩
 have ap:w4.heap.size≤w6.heap.size:=a6.size
 have aq:AB [g] w w6:=am.trans a6
 have ar:=an.chg a6 (zB ·)
 refine Bh (vs:=[v6]) EC Z Z (by intro u hu;simp only[ze,z2,or_false]at hu;rcases hu with rfl <;> first|exact⟨rfl,rfl⟩|exact AT ab.isSlS) ar Z Z Ac fun w8 a0 b2 a7=>?_
 replace a7:BX w8.heap w.heap.size [v6]:=a7
 have au:w6.heap.size≤w8.heap.size:=a0.size
 have av:AB [g] w w8:=aq.fresh a0 (fun _ h=>zE h)
 have aw:=ao.chg a0 fun c hc=>zH<|Ab hc
 have a8:=ab.chg (An<|B4 153 6) a0 fun _ h=>zA h
 exact Aj<|A3<|BK (cs:=[v6]) Z EC Z a7 Z ⟨v6,p6,n6,rfl,av,aw,⟨zO,zO⟩,(a8.up<|An<|B4 153 6).low (B':=w.heap.size) oM,(by refine⟨⟨_,ac.1⟩,ac.2.1,?_⟩;omega)⟩
theorem RA {p:Prop}(h:p:=by first|omega|exact⟨zO,ha1.2⟩|exact⟨zO,ha2.2⟩):p:=h
theorem M0 {p:Prop}(h:p:=by first|(simp[Ge,Gf];done)|simp[Mf]):p:=h
theorem KD (w:World)(g:Nat)(sv:Value)(cs:List UInt8)(n0:Nat)(dp:Nat)(vp:Value)(p:List Fn)(hs:EL w.heap g sv cs n0)(ax:n0+60≤1000000000000)(hp:RN [g] (rP (KH dp)) w.heap vp p)(hdr:Me p false)(hlen:1≤p.length∧p.length≤3) :
  Calls Tryz.prog 48 #[zP g,vp] w (fun e w'=>∃(x0:Int) (x1:Int) (v2:Value) (x2:Sr) (v3:Value) (x3:Sr) (n1:Nat),e=.returned (.tuple #[zI x0,zI x1,v2,v3])∧AB [g] w w'∧EL w'.heap g sv cs n1∧(n0≤n1∧n1≤n0+60)∧(x0=(p.length:Int)-1)∧(0≤x1∧x1<(((p.getD (p.length-1) Fn.zero).outs.length:Nat):Int))∧Fr (BD rI 2) w.heap.size w'.heap.size w'.heap v2 x2∧((x2.length:Int)=(p.getD (p.length-1) Fn.zero).params∧Bj x2=true)∧Fr (BD rI 2) w.heap.size w'.heap.size w'.heap v3 x3∧((x3.length:Int)=(p.getD (p.length-1) Fn.zero).params∧Bj x3=true)):=by
 refine Aw [zP g,vp] 53 Tryz.func48 Z Z sM ?_
 have a2:AB [g] w w:=AB.refl [g] w
 have b4:=hs.lt
 have hpa:=hdr.par (p.length-1) oM
 have b5:=hdr.outs (p.length-1) oM
 refine fQ [0,0,0,0] Z<|Ae 4 Z<|fQ [0,0,0,2,0,0,0] Z<|Af 1 Z<|AX (hp.isPtr) Z Ac ?_
 obtain⟨cs1,al,a1⟩:=RN.at (B6 _) hp
 obtain⟨a0,rfl,a3⟩:=RPr.of al
 have ae:=a3.lenle
 unfold maxLen at ae
 refine AP (p:=vp) 0 C8 Z (a1 _ a2) Ac<|Ai (p:=Au vp 0) (.inr Z) a0 CO Z ((a1 _ a2).ld (i:=0) M0) Ac<|AU (v:=a0) Im Z a3.isSl Ac<|BP ((p.length-1:Nat):Int) Z Z (by rw[E1 oM oM];omega) Ac<|Ae 1 Z<|fQ [0,0,0,0,2,0,0,0,2,0,4,0] Z<|Af 2 Z<|AX (hp.isPtr) Z Ac<|AP (p:=vp) 0 C8 Z (a1 _ a2) Ac<|Ai (p:=Au vp 0) (.inr Z) a0 CO Z ((a1 _ a2).ld (i:=0) M0) Ac<|Af 1 Z ?_
 refine AH (v:=a0) (p.length-1) Im DJ Z Z a3.isSl Z sD Ac ?_
 obtain⟨cs2,am,a4⟩:=a3.get (AR dp) Fn.zero (k:=p.length-1) sD
 obtain⟨ah,rfl,ad⟩:=RF.of am
 have af:=ad.rn.lenle
 unfold maxLen at af
 refine AP (p:=AE a0 (p.length-1) 3) 2 Cv Z (a4 _ a2) Ac<|Ai (p:=Au (AE a0 (p.length-1) 3) 2) (.inr Z) ah BG Z ((a4 _ a2).ld (i:=2) M0) Ac<|AU (v:=ah) DS Z ad.rn.isSl Ac<|AK 101 [] [] [zP g,zI ((((p.getD (p.length-1) Fn.zero).outs).length:Nat):Int)] Z Z Ff Ac (Ba _ g _ _ _ ((((p.getD (p.length-1) Fn.zero).outs).length:Nat):Int) hs oM oM oM) ?_
 rintro e3 w3 ⟨b1,n3,rfl,ai,an,ay,aj⟩
 refine⟨_,rfl,?_⟩
 have ao:w.heap.size≤w3.heap.size:=ai.size
 have a5:AB [g] w w3:=a2.trans ai
 refine Ae 1 Z<|fQ [0,0,0,0,2,0,0,0,2,4,0] Z<|Af 2 Z<|AX (hp.isPtr) Z Ac<|AP (p:=vp) 0 C8 Z (a1 _ a5) Ac<|Ai (p:=Au vp 0) (.inr Z) a0 CO Z ((a1 _ a5).ld (i:=0) M0) Ac<|Af 1 Z<|AH (v:=a0) (p.length-1) Im DJ Z Z a3.isSl Z sD Ac ?_
 refine AP (p:=AE a0 (p.length-1) 3) 1 CZ Z (a4 _ a5) Ac<|Ai (p:=Au (AE a0 (p.length-1) 3) 1) (.inr Z) (zI<|(p.getD (p.length-1) Fn.zero).params) AG Z ((a4 _ a5).ld (i:=1) M0) Ac<|AK 49 [] [] [zP g,zI<|(p.getD (p.length-1) Fn.zero).params] Z Z Zi Ac (FP _ g _ _ _ ((p.getD (p.length-1) Fn.zero).params) an oM ad.rng oM) ?_
 rintro e4 w4 ⟨a6,b2,n4,rfl,ak,ap,az,a7,a8⟩
 refine⟨_,rfl,?_⟩
 have aq:w3.heap.size≤w4.heap.size:=ak.size
 have a9:AB [g] w w4:=a5.trans ak
 have ha1:=a8
 refine Ae 1 Z<|fQ [0,0,0,0,2,0,0,0,2,4,0] Z<|Af 2 Z<|AX (hp.isPtr) Z Ac<|AP (p:=vp) 0 C8 Z (a1 _ a9) Ac<|Ai (p:=Au vp 0) (.inr Z) a0 CO Z ((a1 _ a9).ld (i:=0) M0) Ac<|Af 1 Z<|AH (v:=a0) (p.length-1) Im DJ Z Z a3.isSl Z sD Ac ?_
 refine AP (p:=AE a0 (p.length-1) 3) 1 CZ Z (a4 _ a9) Ac<|Ai (p:=Au (AE a0 (p.length-1) 3) 1) (.inr Z) (zI<|(p.getD (p.length-1) Fn.zero).params) AG Z ((a4 _ a9).ld (i:=1) M0) Ac<|AK 49 [] [] [zP g,zI<|(p.getD (p.length-1) Fn.zero).params] Z Z Zi Ac (FP _ g _ _ _ ((p.getD (p.length-1) Fn.zero).params) ap oM ad.rng oM) ?_
 rintro e5 w5 ⟨aa,b3,n5,rfl,ag,ar,b0,ab,ac⟩
 refine⟨_,rfl,?_⟩
 have au:w4.heap.size≤w5.heap.size:=ag.size
 have av:AB [g] w w5:=a9.trans ag
 have aw:=a7.chg (o1) ag fun _ h=>zA h
 have ha2:=ac
 exact Ae 1 Z<|fQ [0,0,0,0,0,0,0,0] Z<|Ae 8 Z<|A3<|Al [4,5,6,7] Z (.tuple #[zI ((p.length-1:Nat):Int),zI b1,a6,aa]) Z ⟨((p.length-1:Nat):Int),b1,a6,b2,aa,b3,n5,rfl,av,ar,⟨zO,zO⟩,RA,RA,(aw.up o1).low (B':=w.heap.size) oM,RA,(ab.up o1).low (B':=w.heap.size) oM,RA⟩
theorem MB (w:World)(vc:Value)(cs:List UInt8)(hcs:Rd (Bl rU) w.heap vc cs)  :
  Calls Tryz.prog 8 #[vc] w (fun e w'=>∃(v va vb:Value) (p:List Fn) (f pk:Int) (a b:Sr),e=.returned (.tuple #[.agg #[v],zI f,zI pk,va,vb])∧AD w w'∧Fr (DB 3 (Sv 153 6) 33) w.heap.size w'.heap.size w'.heap v p∧Fr (BD rI 2) w.heap.size w'.heap.size w'.heap va a∧Fr (BD rI 2) w.heap.size w'.heap.size w'.heap vb b∧aS p f pk a b):=by
 refine Aw [vc] 29 Tryz.func8 Z Z sM ?_
 have b7:AD w w:=AD.refl w
 have c0:=hcs.lenle
 refine fQ [3,0,0,0,0] Z (B9 (z:=.agg #[zN]) Sa Ac fun w1 ay bo an=>?_)
 have b8:=ay.size
 have az:=b7.trans ay
 replace an:BX w1.heap w.heap.size [zN]:=an
 refine Ae 4 Z<|fQ [0,3,0] Z<|Af 1 Z<|Ay 46 [] [] [vc] Z Z bM Ac (HW _ _ _<|hcs.ext Dl az) ?_
 rintro e2 w2 ⟨gB2,rfl,al,b0,bp⟩
 refine⟨_,rfl,al,?_⟩
 have b9:=al.size
 have b1:=az.trans al
 have ac:=an.ext al
 refine Ae 1 Z<|fQ [0,4,3,4] Z ?_
 have c2:=b0.lt
 refine Af 1 Z<|AK 47 [] [] [zP gB2] Z Z fj Ac (LZ _ gB2 vc cs 0 b0 oM) ?_
 rintro e3 w3 ⟨v3,p3,n3,rfl,ao,ba,bq,bb,bc⟩
 refine⟨_,rfl,?_⟩
 have bd:w2.heap.size≤w3.heap.size:=ao.size
 have be:AD w w3:=ao.below b1 (fun _ h=>zE h) b1.size
 have b2:=ac.chg ao (zB ·)
 obtain⟨⟨pl0,ap⟩,hdn,hpl⟩:=bc
 have c1:=ap.npl
 have br:=b2.lt
 refine B9 (z:=.agg #[zN]) Sa Ac fun w5 ad bs aq=>?_
 have bf:=ad.size
 have b3:=be.trans ad
 have ae:=b2.ext ad
 have af:=ba.ext ad
 have a4:=bb.ext (An<|B4 153 6) ad
 replace aq:BX w5.heap w3.heap.size [zN]:=aq
 refine Bh (vs:=[v3]) EC Z Z (by intro u hu;simp only[ze,z2,or_false]at hu;rcases hu with rfl <;> first|exact⟨rfl,rfl⟩|exact AT a4.isSlS) aq Z Z Ac fun w7 ag bt am=>?_
 replace am:BX w7.heap w3.heap.size [v3]:=am
 have bg:w5.heap.size≤w7.heap.size:=ag.size
 have b4:AD w w7:=ag.below b3 (fun _ h=>zE h) b3.size
 have bh:=ae.chg ag (zB ·)
 have bi:=af.chg ag fun c hc=>zH<|Ab hc
 have ah:=a4.chg (An<|B4 153 6) ag fun _ h=>zA h
 refine Aj<|fQ [0,4,0,0,0,0,0,0,0,0,0] Z<|Af 1 Z<|AK 48 [] [] [zP gB2,zP w3.heap.size] Z Z fk Ac (KD _ gB2 _ _ _ 6 (zP w3.heap.size) p3 bi oM (RN.box am (RP.mk'<|RN.of_frF2 ah fun b hb=>zH<|Ab hb) fun hb=>zH<|Ab hb) c1 oM) ?_
 rintro c3 bx ⟨bn,bu,a0,bv,a1,bw,c4,rfl,a3,bj,bk,a5,a6,a7,a8,a9,aa⟩
 refine⟨_,rfl,?_⟩
 have b5:w7.heap.size≤bx.heap.size:=a3.size
 have ai:AD w bx:=a3.below b4 (fun _ h=>zE h) b4.size
 have ar:=bh.chg a3 (zB ·)
 have aj:=ah.chg (An<|B4 153 6) a3 fun _ h=>zA h
 have ak:=am.chg a3 (zB ·)
 have h0:=a5
 have h1:=a6
 have h2:=a8
 have h3:=aa
 have hft:bn.toNat=p3.length-1:=by omega
 refine Af 1 Z<|AO (vs:=[zI bn,zI bu,a0,a1]) (zI bn) Z Z Ac<|AO (vs:=[zI bn,zI bu,a0,a1]) (zI bu) Z Z Ac<|AO (vs:=[zI bn,zI bu,a0,a1]) a0 Z Z Ac<|AO (vs:=[zI bn,zI bu,a0,a1]) a1 Z Z Ac<|Ae 4 Z<|fQ [2,0,0,0,0,4,0,0,0,0] Z<|AC (p:=zP w3.heap.size) (.inr Z) [v3] EC Z (fun c5 bl=>LD.of_box<|BX.ext (w:=bx) ak bl) Z Ac<|Af 4 Z ?_
 refine Bh (vs:=[v3]) EC Z Z (by intro u hu;simp only[ze,z2,or_false]at hu;rcases hu with rfl <;> first|exact⟨rfl,rfl⟩|exact AT aj.isSlS) ar Z Z Ac fun bz a2 bm ab=>?_
 replace ab:BX bz.heap w.heap.size [v3]:=ab
 have b6:bx.heap.size≤bz.heap.size:=a2.size
 have au:AD w bz:=a2.below ai (fun _ h=>zE h) ai.size
 have av:=aj.chg (An<|B4 153 6) a2 fun _ h=>zA h
 have aw:=a7.chg (o1) a2 fun _ h=>zA h
 have ax:=a9.chg (o1) a2 fun _ h=>zA h
 exact Ae 4 Z<|A3<|GD (t0:=3) (ts:=[4,5,6]) (cs:=[v3]) [zI bn,zI bu,a0,a1] Z EC Z ab Z Z ⟨v3,a0,a1,p3,bn,bu,bv,bw,rfl,au,(av.up<|An<|B4 153 6).low (B':=w.heap.size) oM,(aw.up o1).low (B':=w.heap.size) oM,(ax.up o1).low (B':=w.heap.size) oM,(by exact⟨c1,hdn,zO,h0,by rw[hft];exact h1,by rw[hft];exact h2,by rw[hft];exact h3⟩)⟩
theorem Uo {p:Prop}(h:p:=by simp only[z9,zb];unfold maxLen;omega):p:=h
theorem Uq {p:Prop}(h:p:=by simp only[z9,zb];omega):p:=h
theorem N6 {p:Prop}(h:p:=by rw[H8];omega):p:=h
theorem CU (w:World)(S:List Nat)(g:Nat)(vp:Value)(ip:Int)(s0:Nat)(c0:Int)(T:Tp)(c:Am)(v:Int)(hS:∀b∈S,b<w.heap.size)(hgS:g∈S)(hR0:Sc 52 107 2 S g w.heap vp ip T s0 c0)(_hip:Bd ip)(hln:T.code.length≤4000∧T.vals.length≤4000)(hc:GE c)(_hv:Bd v)  :
  Calls Tryz.prog 54 #[zP g,(.agg #[(zI c.op),(zI c.a),(zI c.b),(zI c.num)]),zI v] w (fun e w'=>∃S':List Nat,e=.returned (zI (T.vals.length:Int))∧FW S S' w w'∧Sc 52 107 2 S' g w'.heap vp ip (T.put c v) s0 c0):=by
 refine Aw [zP g,.agg #[zI c.op,zI c.a,zI c.b,zI c.num],zI v] 35 Tryz.func54 Z Z sM ?_
 have dr:AB S w w:=AB.refl S w
 obtain⟨rc0,rg0,rv0,bt,d5⟩:=hR0
 have gd:=bt.lt
 have hG0:FW S S w w:=FW.refl hS
 have hml:=CL.len d5
 refine fQ [3,0] Z ?_
 have eo:=bt.lt
 refine BC (cs:=#[zI c.op,zI c.a,zI c.b,zI c.num]) Z Ac fun w1 ay ep bu=>?_
 have ds:w.heap.size≤w1.heap.size:=ay.size
 have d6:AB S w w1:=dr.ext ay
 have a7:=bt.ext ay
 have dt:=CL.ext d5 ay
 have d7:=hG0.ext ay
 replace bu:BX w1.heap w.heap.size [zI c.op,zI c.a,zI c.b,zI c.num]:=bu
 refine Ae 1 Z<|A0 ?_
 obtain⟨Fc,Fg,Fv,hOc,hOg,hOv,hdj,hgn,hSc,hSg,hSv⟩:=id dt
 letI:JR:=Qr (Fc++Fv)
 refine Jx.aC _ [0,0,0,0,0,0,1,1,3,3,0,0,0,1,0,3,3,0,0,0,4,0,0,4] [0,1,2,3,4,5,6,7,10,11,12,13,14] 8 9 [15,16,17,18,19,20,21,22,23] 15 [9,16,17,18,19,20,21,22,23] 15 [8,9,16,17,18,19,20,21,22,23] [_,_,_,_,_,_,_,_,_,_,_,_,_] [0,0,0,0,0,0,1,1,0,0,0,1,0] _ _ [_,_,_,_,_,_,_,_,_] [3,3,0,0,0,4,0,0,4] _ [_,_,_,_,_,_,_,_,_] [3,3,0,0,0,4,0,0,4] _ [_,_,_,_,_,_,_,_,_,_] [3,3,3,0,0,0,4,0,0,4] mixed (by kernel_rfl) ⟨rfl,rfl,⟨rfl,rfl,⟨rfl,rfl,⟨rfl,rfl,⟨rfl,rfl,⟨rfl,rfl,⟨rfl,rfl,⟨rfl,rfl,⟨rfl,rfl,⟨rfl,rfl,⟨rfl,rfl,⟨rfl,rfl,⟨rfl,rfl,trivial⟩⟩⟩⟩⟩⟩⟩⟩⟩⟩⟩⟩⟩ ⟨rfl,rfl,trivial⟩ ⟨rfl,rfl,⟨rfl,rfl,⟨rfl,rfl,⟨rfl,rfl,⟨rfl,rfl,⟨rfl,rfl,⟨rfl,rfl,⟨rfl,rfl,⟨rfl,rfl,⟨rfl,rfl,trivial⟩⟩⟩⟩⟩⟩⟩⟩⟩⟩ ⟨rfl,rfl,⟨rfl,rfl,⟨rfl,rfl,⟨rfl,rfl,⟨rfl,rfl,⟨rfl,rfl,⟨rfl,rfl,⟨rfl,rfl,⟨rfl,rfl,⟨rfl,rfl,trivial⟩⟩⟩⟩⟩⟩⟩⟩⟩⟩ ⟨rfl,rfl,⟨rfl,rfl,⟨rfl,rfl,⟨rfl,rfl,⟨rfl,rfl,⟨rfl,rfl,⟨rfl,rfl,⟨rfl,rfl,⟨rfl,rfl,⟨rfl,rfl,⟨rfl,rfl,trivial⟩⟩⟩⟩⟩⟩⟩⟩⟩⟩⟩ ?_
 refine Jx.Yc (zP g) Z Ac<|Jx.Yc (zP g) Z Ac<|Jx.Yc (zP g) Z Ac<|Jx.j1<|Bf Z Ac<|Aj ?_
 refine Jx.Ao (p:=zP g) 1 G8 Z Z Ac<|Jx.Ao (p:=Au (zP g) 1) (b:=g) (o:=1) 1 Ck Z Z Ac<|Jx.eB (p:=Au (Au (zP g) 1) 1) rc0 Dx Z (fun wj hj=>(BX.chg (w:=w1.drew) (F:=Fc++Fv) a7 hj fun hm=>(zi.1 hm).elim hgn.1 hgn.2.2).ldp (i:=2) sM) Ac<|Jx.ZU (p:=zP w.heap.size) [zI c.op,zI c.a,zI c.b,zI c.num] Bx Z (fun wj hj=>LD.of_box<|BX.chg (w:=w1.drew) (F:=Fc++Fv) bu hj fun hm=>(zi.1 hm).elim (fun h9=>zH<|hS _ (hSc _ h9)) fun h9=>zH<|hS _ (hSv _ h9)) Z Ac<|Jx.Yc (zP g) Z Ac ?_
 refine Jx.j1<|Bf Z Ac<|Aj ?_
 refine Jx.Ao (p:=zP g) 5 E5 Z Z Ac<|Jx.eB (p:=Au (zP g) 5) rv0 BN Z (fun wj hj=>(BX.chg (w:=w1.drew) (F:=Fc++Fv) a7 hj fun hm=>(zi.1 hm).elim hgn.1 hgn.2.2).ldp (i:=5) sM) Ac<|Jx.Yc (zI v) Z Ac<|Jx.Aj ⟨?_,?_⟩
 ·refine Jx.eY<|Ct (cs:=[zI c.op,zI c.a,zI c.b,zI c.num]) (y:=c) (B:=w1.heap.size) Ap Dg BI Z (by decide) Z (DP (U:=w1.heap.size) hc) (A9 _) Ac ?_
  intro v4 w4 ao eq d8
  refine Aj ?_
  have du:w1.heap.size≤w4.heap.size:=ao.size
  have az:=Ow.ext (w:=w1.drew) (An Ap) hOc ao
  have b0:=Ow.ext (w:=w1.drew) (Bc AN) hOv ao
  have b1:=Ow.ext (w:=w1.drew) (An As) hOg ao
  have d9:=BX.ext (w:=w1.drew) a7 ao
  have da:AB S w w4:=d6.drew.ext ao
  have db:=d7.drew.ext ao
  refine Jx.Aj ⟨?_,?_⟩
  ·refine Jx.fV<|Nt (v:=rc0) (a:=v4) Ap Dg BI Z (by decide) Z Z az d8 oM (Nat.zero_le _) (Nat.zero_le _) oM (by unfold maxLen;omega) Ac ?_
   intro v5 w5 F5 ap dv b2
   refine Aj ⟨AB.sub ap fun b hb=>z8 _ hb,?_⟩
   have dw:w4.heap.size≤w5.heap.size:=ap.size
   have bv:=b0.keep (Bc AN) ap fun b hb hm=>hdj.2.1 b hb hm
   have bw:=b1.keep (An As) ap fun b hb hm=>hdj.1 b hb hm
   have dx:=BX.chg d9 ap hgn.1
   have dy:AB S w w5:=da.trans (ap.sub hSc)
   have dz:=db.more ap hSc
   refine Jx.eY<|BQ (u:=zI v) (B:=w5.heap.size) AN Bu BL Z Z (Jl w5.heap.size w5.heap.size _ _ _hv) (A9 _) Ac ?_
   intro v6 w6 aq er e0
   refine Aj ?_
   have e1:w5.heap.size≤w6.heap.size:=aq.size
   have bx:=Ow.ext (w:=w5) (An Ap) dv aq
   have bz:=Ow.ext (w:=w5) (Bc AN) bv aq
   have c1:=Ow.ext (w:=w5) (An As) bw aq
   have e2:=BX.ext (w:=w5) dx aq
   have e3:AB S w w6:=dy.ext aq
   have e4:=dz.ext aq
   refine Jx.fV<|Ln (v:=rv0) (a:=v6) Bu BL Z Z Z bz e0.rd1 (Nat.zero_le _) Uq Uo Ac ?_
   intro v7 w7 F7 ar dc br
   refine Aj ⟨AB.sub ar fun b hb=>z1 _ hb,?_⟩
   have e5:w6.heap.size≤w7.heap.size:=ar.size
   have au:=bx.keep (An Ap) ar fun b hb hm=>by rcases b2 b hm with h9|h9|h9;exact hdj.2.1 b h9 hb;(have:=hOv.high b hb;omega);(have:=hOv.high b hb;omega)
   have c2:=c1.keep (An As) ar fun b hb hm=>hdj.2.2 b hm hb
   have e6:=BX.chg e2 ar hgn.2.2
   have dd:AB S w w7:=e3.trans (ar.sub hSv)
   have es:=e4.more ar hSv
   refine Jx.V2 Z ?_
   have av:CL 52 107 2 (F5++(F7++S)) g w7.heap v5 rg0 v7 (T.put c v):=⟨F5,Fg,F7,au.up oM,c2.up oM,dc,⟨fun b hb hm=>by rcases b2 b hb with h9|h9|h9;exact hdj.1 b h9 hm;(have:=hOg.high b hm;omega);(have:=hOg.high b hm;omega),fun b hb hm=>by rcases br b hm with h8|h8;(rcases b2 b hb with h9|h9|h9;exact hdj.2.1 b h9 h8;(have:=hOv.high b h8;omega);(have:=hOv.high b h8;omega));(have:=au.high b hb;omega),fun b hm hb=>by rcases br b hb with h8|h8;exact hdj.2.2 b hm h8;(have:=hOg.high b hm;omega)⟩,⟨fun hm=>by rcases b2 g hm with h9|h9|h9;exact hgn.1 h9;omega;omega,hgn.2.1,fun hm=>by rcases br g hm with h9|h9;exact hgn.2.2 h9;omega⟩,fun b hb=>z8 _ hb,fun b hb=>z1 _ (z1 _ (hSg b hb)),fun b hb=>z1 _ (z8 _ hb)⟩
   have c3:FW S (F5++(F7++S)) w w7:=⟨fun b hb=>z1 _ (z1 _ hb),fun b hb=>by rcases zi.1 hb with hb|hb;(rcases b2 b hb with h9|h9|h9;exact .inl (hSc b h9);(right;omega);(right;omega));rcases zi.1 hb with hb|hb;(rcases br b hb with h9|h9;exact .inl (hSv b h9);(right;omega));exact .inl hb,fun b hb=>by rcases zi.1 hb with hb|hb;(have:=au.high b hb;omega);rcases zi.1 hb with hb|hb;(exact dc.high b hb);(have:=hS b hb;omega),dd⟩
   refine Bf Z Ac<|Ao (p:=zP g) 1 G8 Z Z Ac<|Ao (p:=Au (zP g) 1) (b:=g) (o:=1) 1 Ck Z Z Ac (Bn (k:=2) (w:=w7) Zl Z Z (AT av.slc) e6 sM Ac fun w9 bs et c4=>?_)
   replace c4:BX w9.heap g [vp,zI ip,v5,rg0,zN,rv0,zI (s0:Int),zI c0]:=c4
   have e7:AB S w w9:=dd.trans (bs.sub (Bo hgS))
   have e8:=CL.chg av bs
   have e9:=c3.set hgS bs
   have ea:w7.heap.size≤w9.heap.size:=bs.size
   refine Bf Z Ac<|Ao (p:=zP g) 5 E5 Z Z Ac (Bn (k:=5) (w:=w9) Pb Z Z (AT av.slv) c4 sM Ac fun f3 ae eb af=>?_)
   replace af:BX f3.heap g [vp,zI ip,v5,rg0,zN,v7,zI (s0:Int),zI c0]:=af
   have ec:AB S w f3:=e7.trans (ae.sub (Bo hgS))
   have b3:=CL.chg e8 ae
   have c5:=e9.set hgS ae
   have de:w9.heap.size≤f3.heap.size:=ae.size
   exact Aj<|fQ [0,0,0,2,0,0,0] Z<|Af 1 Z<|Bf Z Ac<|Ao (p:=zP g) 5 E5 Z Z Ac<|Ai (p:=Au (zP g) 5) (.inr Z) v7 BN Z (af.ldp (i:=5) sM) Ac<|AU (v:=v7) Bu Z (CL.slv b3) Ac<|BP (T.vals.length:Int) Z Z (Bg N6 N6) Ac<|Ae 1 Z<|A3<|Al [6] Z (zI (T.vals.length:Int)) Z ⟨_,(by rfl),c5,⟨_,_,_,af,b3⟩⟩
  refine Jx.eY<|BQ (u:=zI v) (B:=w4.heap.size) AN Bu BL Z Z (Jl w4.heap.size w4.heap.size _ _ _hv) (A9 _) Ac ?_
  intro ga fd a0 ed c6
  refine Aj ?_
  have df:w4.heap.size≤fd.heap.size:=a0.size
  have b4:=Ow.ext (w:=w4) (An Ap) az a0
  have b5:=Ow.ext (w:=w4) (Bc AN) b0 a0
  have b6:=Ow.ext (w:=w4) (An As) b1 a0
  have c7:=d8.ext (An Ap) a0
  have c8:=BX.ext (w:=w4) d9 a0
  have c9:AB S w fd:=da.ext a0
  have ca:=db.ext a0
  refine Jx.fV<|Nt (v:=rc0) (a:=v4) Ap Dg BI Z (by decide) Z Z b4 c7 oM (Nat.zero_le _) (Nat.zero_le _) oM (by unfold maxLen;omega) Ac ?_
  intro fe fr fs a1 cb a8
  refine Aj ⟨AB.sub a1 fun b hb=>z8 _ hb,?_⟩
  have dg:fd.heap.size≤fr.heap.size:=a1.size
  have b7:=b5.keep (Bc AN) a1 fun b hb hm=>hdj.2.1 b hb hm
  have b8:=b6.keep (An As) a1 fun b hb hm=>hdj.1 b hb hm
  have cc:=c6.chg (o1) a1 fun b hb=>zH<|hOc.high b hb
  have cd:=BX.chg c8 a1 hgn.1
  have ce:AB S w fr:=c9.trans (a1.sub hSc)
  have cf:=ca.more a1 hSc
  refine Jx.fV<|Ln (v:=rv0) (a:=ga) Bu BL Z Z Z b7 cc.rd1 (Nat.zero_le _) Uq Uo Ac ?_
  intro f1 ew fx a4 b9 ag
  refine Aj ⟨AB.sub a4 fun b hb=>z1 _ hb,?_⟩
  have dh:fr.heap.size≤ew.heap.size:=a4.size
  have a9:=cb.keep (An Ap) a4 fun b hb hm=>by rcases a8 b hm with h9|h9|h9;exact hdj.2.1 b h9 hb;(have:=hOv.high b hb;omega);(have:=hOv.high b hb;omega)
  have ba:=b8.keep (An As) a4 fun b hb hm=>hdj.2.2 b hm hb
  have cg:=BX.chg cd a4 hgn.2.2
  have bb:AB S w ew:=ce.trans (a4.sub hSv)
  have ee:=cf.more a4 hSv
  refine Jx.V2 Z ?_
  have aa:CL 52 107 2 (fs++(fx++S)) g ew.heap fe rg0 f1 (T.put c v):=⟨fs,Fg,fx,a9.up oM,ba.up oM,b9,⟨fun b hb hm=>by rcases a8 b hb with h9|h9|h9;exact hdj.1 b h9 hm;(have:=hOg.high b hm;omega);(have:=hOg.high b hm;omega),fun b hb hm=>by rcases ag b hm with h8|h8;(rcases a8 b hb with h9|h9|h9;exact hdj.2.1 b h9 h8;(have:=hOv.high b h8;omega);(have:=hOv.high b h8;omega));(have:=a9.high b hb;omega),fun b hm hb=>by rcases ag b hb with h8|h8;exact hdj.2.2 b hm h8;(have:=hOg.high b hm;omega)⟩,⟨fun hm=>by rcases a8 g hm with h9|h9|h9;exact hgn.1 h9;omega;omega,hgn.2.1,fun hm=>by rcases ag g hm with h9|h9;exact hgn.2.2 h9;omega⟩,fun b hb=>z8 _ hb,fun b hb=>z1 _ (z1 _ (hSg b hb)),fun b hb=>z1 _ (z8 _ hb)⟩
  have bc:FW S (fs++(fx++S)) w ew:=⟨fun b hb=>z1 _ (z1 _ hb),fun b hb=>by rcases zi.1 hb with hb|hb;(rcases a8 b hb with h9|h9|h9;exact .inl (hSc b h9);(right;omega);(right;omega));rcases zi.1 hb with hb|hb;(rcases ag b hb with h9|h9;exact .inl (hSv b h9);(right;omega));exact .inl hb,fun b hb=>by rcases zi.1 hb with hb|hb;(have:=a9.high b hb;omega);rcases zi.1 hb with hb|hb;(exact b9.high b hb);(have:=hS b hb;omega),bb⟩
  refine Bf Z Ac<|Ao (p:=zP g) 1 G8 Z Z Ac<|Ao (p:=Au (zP g) 1) (b:=g) (o:=1) 1 Ck Z Z Ac (Bn (k:=2) (w:=ew) Zl Z Z (AT aa.slc) cg sM Ac fun ey ah ef aw=>?_)
  replace aw:BX ey.heap g [vp,zI ip,fe,rg0,zN,rv0,zI (s0:Int),zI c0]:=aw
  have ch:AB S w ey:=bb.trans (ah.sub (Bo hgS))
  have ci:=CL.chg aa ah
  have cj:=bc.set hgS ah
  have di:ew.heap.size≤ey.heap.size:=ah.size
  refine Bf Z Ac<|Ao (p:=zP g) 5 E5 Z Z Ac (Bn (k:=5) (w:=ey) Pb Z Z (AT aa.slv) aw sM Ac fun g0 ai eg aj=>?_)
  replace aj:BX g0.heap g [vp,zI ip,fe,rg0,zN,f1,zI (s0:Int),zI c0]:=aj
  have eh:AB S w g0:=ch.trans (ai.sub (Bo hgS))
  have bd:=CL.chg ci ai
  have ck:=cj.set hgS ai
  have dj:ey.heap.size≤g0.heap.size:=ai.size
  exact Aj<|fQ [0,0,0,2,0,0,0] Z<|Af 1 Z<|Bf Z Ac<|Ao (p:=zP g) 5 E5 Z Z Ac<|Ai (p:=Au (zP g) 5) (.inr Z) f1 BN Z (aj.ldp (i:=5) sM) Ac<|AU (v:=f1) Bu Z (CL.slv bd) Ac<|BP (T.vals.length:Int) Z Z (Bg N6 N6) Ac<|Ae 1 Z<|A3<|Al [6] Z (zI (T.vals.length:Int)) Z ⟨_,(by rfl),ck,⟨_,_,_,aj,bd⟩⟩
 refine Jx.eY<|BQ (u:=zI v) (B:=w1.heap.size) AN Bu BL Z Z (Jl w1.heap.size w1.heap.size _ _ _hv) (A9 _) Ac ?_
 intro gb eu a5 ei cl
 refine Aj ?_
 have dk:w1.heap.size≤eu.heap.size:=a5.size
 have be:=Ow.ext (w:=w1.drew) (An Ap) hOc a5
 have bf:=Ow.ext (w:=w1.drew) (Bc AN) hOv a5
 have bg:=Ow.ext (w:=w1.drew) (An As) hOg a5
 have cm:=BX.ext (w:=w1.drew) a7 a5
 have cn:AB S w eu:=d6.drew.ext a5
 have co:=d7.drew.ext a5
 refine Jx.eY<|Ct (cs:=[zI c.op,zI c.a,zI c.b,zI c.num]) (y:=c) (B:=eu.heap.size) Ap Dg BI Z (by decide) Z (DP (U:=eu.heap.size) hc) (A9 _) Ac ?_
 intro gc g4 a2 ej cp
 refine Aj ?_
 have dl:eu.heap.size≤g4.heap.size:=a2.size
 have bh:=Ow.ext (w:=eu) (An Ap) be a2
 have bi:=Ow.ext (w:=eu) (Bc AN) bf a2
 have bj:=Ow.ext (w:=eu) (An As) bg a2
 have cq:=cl.ext (o1) a2
 have cr:=BX.ext (w:=eu) cm a2
 have ct:AB S w g4:=cn.ext a2
 have cu:=co.ext a2
 refine Jx.fV<|Nt (v:=rc0) (a:=gc) Ap Dg BI Z (by decide) Z Z bh cp oM (Nat.zero_le _) (Nat.zero_le _) oM (by unfold maxLen;omega) Ac ?_
 intro g5 g6 g7 a3 cv ab
 refine Aj ⟨AB.sub a3 fun b hb=>z8 _ hb,?_⟩
 have dm:g4.heap.size≤g6.heap.size:=a3.size
 have bk:=bi.keep (Bc AN) a3 fun b hb hm=>hdj.2.1 b hb hm
 have bl:=bj.keep (An As) a3 fun b hb hm=>hdj.1 b hb hm
 have cw:=cq.chg (o1) a3 fun b hb=>zH<|hOc.high b hb
 have cx:=BX.chg cr a3 hgn.1
 have cy:AB S w g6:=ct.trans (a3.sub hSc)
 have cz:=cu.more a3 hSc
 refine Jx.fV<|Ln (v:=rv0) (a:=gb) Bu BL Z Z Z bk cw.rd1 (Nat.zero_le _) Uq Uo Ac ?_
 intro f2 ex g8 a6 bm ak
 refine Aj ⟨AB.sub a6 fun b hb=>z1 _ hb,?_⟩
 have dn:g6.heap.size≤ex.heap.size:=a6.size
 have ac:=cv.keep (An Ap) a6 fun b hb hm=>by rcases ab b hm with h9|h9|h9;exact hdj.2.1 b h9 hb;(have:=hOv.high b hb;omega);(have:=hOv.high b hb;omega)
 have bn:=bl.keep (An As) a6 fun b hb hm=>hdj.2.2 b hm hb
 have d0:=BX.chg cx a6 hgn.2.2
 have bo:AB S w ex:=cy.trans (a6.sub hSv)
 have ek:=cz.more a6 hSv
 refine Jx.V2 Z ?_
 have ad:CL 52 107 2 (g7++(g8++S)) g ex.heap g5 rg0 f2 (T.put c v):=⟨g7,Fg,g8,ac.up oM,bn.up oM,bm,⟨fun b hb hm=>by rcases ab b hb with h9|h9|h9;exact hdj.1 b h9 hm;(have:=hOg.high b hm;omega);(have:=hOg.high b hm;omega),fun b hb hm=>by rcases ak b hm with h8|h8;(rcases ab b hb with h9|h9|h9;exact hdj.2.1 b h9 h8;(have:=hOv.high b h8;omega);(have:=hOv.high b h8;omega));(have:=ac.high b hb;omega),fun b hm hb=>by rcases ak b hb with h8|h8;exact hdj.2.2 b hm h8;(have:=hOg.high b hm;omega)⟩,⟨fun hm=>by rcases ab g hm with h9|h9|h9;exact hgn.1 h9;omega;omega,hgn.2.1,fun hm=>by rcases ak g hm with h9|h9;exact hgn.2.2 h9;omega⟩,fun b hb=>z8 _ hb,fun b hb=>z1 _ (z1 _ (hSg b hb)),fun b hb=>z1 _ (z8 _ hb)⟩
 have bp:FW S (g7++(g8++S)) w ex:=⟨fun b hb=>z1 _ (z1 _ hb),fun b hb=>by rcases zi.1 hb with hb|hb;(rcases ab b hb with h9|h9|h9;exact .inl (hSc b h9);(right;omega);(right;omega));rcases zi.1 hb with hb|hb;(rcases ak b hb with h9|h9;exact .inl (hSv b h9);(right;omega));exact .inl hb,fun b hb=>by rcases zi.1 hb with hb|hb;(have:=ac.high b hb;omega);rcases zi.1 hb with hb|hb;(exact bm.high b hb);(have:=hS b hb;omega),bo⟩
 refine Bf Z Ac<|Ao (p:=zP g) 1 G8 Z Z Ac<|Ao (p:=Au (zP g) 1) (b:=g) (o:=1) 1 Ck Z Z Ac (Bn (k:=2) (w:=ex) Zl Z Z (AT ad.slc) d0 sM Ac fun ez al el ax=>?_)
 replace ax:BX ez.heap g [vp,zI ip,g5,rg0,zN,rv0,zI (s0:Int),zI c0]:=ax
 have d1:AB S w ez:=bo.trans (al.sub (Bo hgS))
 have d2:=CL.chg ad al
 have d3:=bp.set hgS al
 have dp:ex.heap.size≤ez.heap.size:=al.size
 refine Bf Z Ac<|Ao (p:=zP g) 5 E5 Z Z Ac (Bn (k:=5) (w:=ez) Pb Z Z (AT ad.slv) ax sM Ac fun g9 am em an=>?_)
 replace an:BX g9.heap g [vp,zI ip,g5,rg0,zN,f2,zI (s0:Int),zI c0]:=an
 have en:AB S w g9:=d1.trans (am.sub (Bo hgS))
 have bq:=CL.chg d2 am
 have d4:=d3.set hgS am
 have dq:ez.heap.size≤g9.heap.size:=am.size
 exact Aj<|fQ [0,0,0,2,0,0,0] Z<|Af 1 Z<|Bf Z Ac<|Ao (p:=zP g) 5 E5 Z Z Ac<|Ai (p:=Au (zP g) 5) (.inr Z) f2 BN Z (an.ldp (i:=5) sM) Ac<|AU (v:=f2) Bu Z (CL.slv bq) Ac<|BP (T.vals.length:Int) Z Z (Bg N6 N6) Ac<|Ae 1 Z<|A3<|Al [6] Z (zI (T.vals.length:Int)) Z ⟨_,(by rfl),d4,⟨_,_,_,an,bq⟩⟩
def dU (F d:Nat):Prop:=∀(w:World) (S:List Nat) (g:Nat) (vp:Value) (dp:Nat) (ip:Int) (s0:Nat) (c0:Int) (p:List Fn) (T:Tp) (ve:Value) (ex:Ex) (vv:Value) (env:List Int) (hS:∀b∈S,b<w.heap.size) (hgS:g∈S) (hR0:Sc 52 107 2 S g w.heap vp ip T s0 c0) (hp:RP S dp w.heap vp p) (_hip:Bd ip) (hs0:s0≤3000) (hc0:0≤c0∧c0≤9) (hbd:K1 T s0) (hex:RX S d w.heap ve ex) (henv:RN S (Bl rI) w.heap vv env) (hqenv:Dm vv)
  (hvp:Od p) (hF:F≤p.length) (hwf:wf p ((F:Nat):Int) ex ((env.length:Nat):Int)=true) (hdp:env.length+ex.deep≤1000000) (hen:c0=0→IT T env),
  Calls Tryz.prog 117 #[.pointer (some ⟨g,0,none⟩),.agg #[.int .i64 ex.kind,.int .i64 ex.num,.int .i64 ex.pick,.int .i64 ex.count,ve],vv] w (fun e w'=>∃(r:Int) (S':List Nat) (T':Tp) (s1:Nat) (c1:Int),e=.returned (.int .i64 r)∧FW S S' w w'∧Sc 52 107 2 S' g w'.heap vp ip T' s1 c1∧Xf T T' s0 s1 c1∧(c1=0→0≤r∧r<((T'.vals.length:Nat):Int))∧(Bd r)∧AY (go c0 (Hr (Kx p F) ex env s0 T)) (r,T') s1 c1)
def gB (F d:Nat):Prop:=∀(w:World) (S:List Nat) (g:Nat) (vp:Value) (dp:Nat) (ip:Int) (s0:Nat) (c0:Int) (p:List Fn) (T:Tp) (vl:Value) (l:List Ex) (vv:Value) (env:List Int) (hS:∀b∈S,b<w.heap.size) (hgS:g∈S) (hR0:Sc 52 107 2 S g w.heap vp ip T s0 c0) (hp:RP S dp w.heap vp p) (_hip:Bd ip) (hs0:s0≤3000) (hc0:0≤c0∧c0≤9) (hbd:K1 T s0) (hl:RN S (CK 5 (Nf d)) w.heap vl l) (henv:RN S (Bl rI) w.heap vv env) (hqenv:Dm vv)
  (hvp:Od p) (hF:F≤p.length) (hwf:∀k,k<l.length→wf p ((F:Nat):Int) (l.getD k Ex.zero) ((env.length:Nat):Int)=true) (hdp:∀k,k<l.length→env.length+(l.getD k Ex.zero).deep≤1000000) (hll:l.length≤1000000) (hen:c0=0→IT T env),
  Calls Tryz.prog 55 #[.pointer (some ⟨g,0,none⟩),vl,vv] w (fun e w'=>∃(v:Value) (xs:List Int) (S':List Nat) (T':Tp) (s1:Nat) (c1:Int),e=.returned v∧FW S S' w w'∧Sc 52 107 2 S' g w'.heap vp ip T' s1 c1∧Xf T T' s0 s1 c1∧RZ S' w.heap.size (Bl rI) w'.heap v xs∧Dm v∧xs.length=l.length∧(c1=0→IT T' xs)∧AY (go c0 (Id (Kx p F) l env s0 T)) (xs,T') s1 c1)
theorem Iq (w:World)(S:List Nat)(F:Nat)(g:Nat)(vp:Value)(dp:Nat)(ip:Int)(s0:Nat)(c0:Int)(p:List Fn)(T:Tp)(dl:Nat)(vl:Value)(l:List Ex)(vv:Value)(env:Sr)(hS:∀b∈S,b<w.heap.size)(hgS:g∈S)(hR0:Sc 52 107 2 S g w.heap vp ip T s0 c0)(hp:RP S dp w.heap vp p)(_hip:Bd ip)(hs0:s0≤3000)(hc0:0≤c0∧c0≤9)(hbd:K1 T s0)(hl:RN S (CK 5 (Nf dl)) w.heap vl l)(henv:RN S (Bl rI) w.heap vv env)(hqenv:Dm vv)(hvp:Od p)(hF:F≤p.length)(hwf:∀k,k<l.length→wf p (F:Int) (l.getD k Ex.zero) (env.length:Int)=true)(hdp:∀k,k<l.length→env.length+(l.getD k Ex.zero).deep≤1000000)(hll:l.length≤1000000)(hen:c0=0→IT T env)(IHv:∀d',d'<dl→dU F d') :
  Calls Tryz.prog 55 #[zP g,vl,vv] w (fun e w'=>∃(v:Value) (xs:Sr) (S':List Nat) (T':Tp) (s1:Nat) (c1:Int),e=.returned v∧FW S S' w w'∧Sc 52 107 2 S' g w'.heap vp ip T' s1 c1∧Xf T T' s0 s1 c1∧RZ S' w.heap.size (Bl rI) w'.heap v xs∧Dm v∧xs.length=l.length∧(c1=0→IT T' xs)∧AY (go c0 (Id (Kx p F) l env s0 T)) (xs,T') s1 c1):=by
 refine Aw [zP g,vl,vv] 26 Tryz.func55 Z Z sM ?_
 have bd:AB S w w:=AB.refl S w
 have ce:=hp.lenle
 unfold maxLen at ce
 have cf:=hl.lenle
 unfold maxLen at cf
 have cg:=henv.lenL
 unfold maxLen at cg
 obtain⟨rc0,rg0,rv0,be,bf⟩:=hR0
 have cu:=be.lt
 have hG0:FW S S w w:=FW.refl hS
 refine fR Z<|fQ [3,0] Z (Dt (rI) AN Bu BL Ac fun v1 w1 ab bs bg=>?_)
 have ao:w.heap.size≤w1.heap.size:=ab.size
 have bh:AB S w w1:=bd.ext ab
 have ae:=be.ext ab
 have bi:=CL.ext bf ab
 have bj:=hG0.ext ab
 refine Ae 1 Z<|A0<|fQ [0,0,0] Z<|Af 1 Z<|AU (v:=vl) DS Z hl.isSl Ac<|Ae 1 Z<|A5 ?_
 obtain⟨Fo0,af⟩:=Ow.of_fr bg (A9 _)
 have ap:∀b∈Fo0,b∉S:=fun b hb hm=>by have:=af.low b hb;have:=hS b hm;omega
 have hMs:=bi
 have hGs:=bj
 refine B8 (S:=Nat×Value×Sr×List Nat×List Nat×Tp×Nat×Int×Value×Value×Value) (fun⟨k,vo,xs,Fo,S9,T9,s9,c9,ch,vg9,vv9⟩=>([(7,vo),(13,zI (k:Int)),(0,zP g),(2,vv),(11,vl),(12,zI (l.length:Int))])) (fun⟨k,vo,xs,Fo,S9,T9,s9,c9,ch,vg9,vv9⟩ W=>AB S w W∧BX W.heap g [vp,zI ip,ch,vg9,zN,vv9,zI (s9:Int),zI c9]∧k≤l.length∧FW S S9 w W∧CL 52 107 2 S9 g W.heap ch vg9 vv9 T9∧Xf T T9 s0 s9 c9∧Ow (BD rI 2) w.heap.size W.heap.size W.heap vo xs Fo∧(∀b∈Fo,b∉S9)∧xs.length=k∧(c9=0→c0=0)∧(c9=0→IT T9 xs)∧AY (go c0<|Id (Kx p F) (l.take k) env s0 T) (xs,T9) s9 c9) (fun⟨k,vo,xs,Fo,S9,T9,s9,c9,ch,vg9,vv9⟩=>l.length-k) (0,v1,[],Fo0,S,T,s0,c0,rc0,rg0,rv0) ⟨rfl,rfl,rfl,rfl,rfl,rfl,trivial⟩ ⟨bh,ae,sD,hGs,hMs,(by exact⟨hbd,zO⟩),af,ap,(by rfl),(by exact fun h=>h),(by exact fun _=>IT.nil _),(by exact Te _ _ _ _ _ _)⟩ ?_
 clear bd bf hG0 bg bs ab ao bh bi bj
 rintro⟨k,vo,xs,Fo,S9,T9,s9,c9,ch,vg9,vv9⟩ ρ3 w3 ⟨aq,a3,bk,hGl,hMl,hPl,hOl,hdl,hxl,hzl,hxb,hrl⟩
 have bt:w.heap.size≤w3.heap.size:=aq.size
 have c7:=a3.lt
 have hnl:=hPl.num
 have hbl:=hPl.bnd
 refine fQ [0] Z ?_
 by_cases bl:(k:Int)<(l.length:Int)
 ·refine AJ true Z Z (A7 bl) Ac<|Aj<|A0<|Ah Z<|A4<|A0<|A5<|fQ [0,2,3,4] Z ?_
  have hkl:k<l.length:=by omega
  refine AH (v:=vl) k DS BM Z Z hl.isSl Z sD Ac ?_
  obtain⟨cs6,bu,bv⟩:=hl.get (AL dl) Ex.zero (k:=k) sD
  obtain⟨dd6,ac,c8,rfl,am⟩:=RX.of bu
  have ar:=am.rn.lenle
  unfold maxLen at ar
  refine AC (p:=AE vl k 5) (.inr Z) [zI<|(l.getD k Ex.zero).kind,zI<|(l.getD k Ex.zero).num,zI<|(l.getD k Ex.zero).pick,zI<|(l.getD k Ex.zero).count,ac] Bq Z (fun cl au=>bv cl<|aq.ext au) Z Ac ?_
  have ca:=a3.lt
  refine B9 (z:=.agg #[zI 0,zI 0,zI 0,zI 0,zN]) IB Ac fun w7 ad cb av=>?_
  have bw:w3.heap.size≤w7.heap.size:=ad.size
  have bx:AB S w w7:=aq.ext ad
  have a7:=a3.ext ad
  have bz:=CL.ext hMl ad
  have c2:=hGl.ext ad
  have hO10k:=hOl.ext (Bc AN) ad
  replace av:BX w7.heap w3.heap.size [zI 0,zI 0,zI 0,zI 0,zN]:=av
  refine Bh (vs:=[zI<|(l.getD k Ex.zero).kind,zI<|(l.getD k Ex.zero).num,zI<|(l.getD k Ex.zero).pick,zI<|(l.getD k Ex.zero).count,ac]) Bq Z Z am.ones av Z Z Ac fun cc a4 c3 a8=>?_
  replace a8:BX cc.heap w3.heap.size [zI ((l.getD k Ex.zero).kind),zI ((l.getD k Ex.zero).num),zI ((l.getD k Ex.zero).pick),zI ((l.getD k Ex.zero).count),ac]:=a8
  have a9:AB S w cc:=bx.fresh a4 (fun _ h=>zE h)
  have aw:=CL.chgO bz a4 fun b hb hm=>by rw[Ab hb]at hm;exact(zH<|hGl.lt _ hm)
  have a1:=c2.fresh a4 fun _ h=>zE h
  have bm:w7.heap.size≤cc.heap.size:=a4.size
  have ax:=a7.chg a4 (zB ·)
  have ag:=hO10k.keep (Bc AN) a4 fun b hb hm=>by have:=Ab hb;have:=hO10k.low _ hm;have:=hO10k.high _ hm;omega
  refine Aj<|Ad _ [0,0,2,0,4,3,4,0] Z<|Af 2 Z<|AC (p:=zP w3.heap.size) (.inr Z) [zI<|(l.getD k Ex.zero).kind,zI<|(l.getD k Ex.zero).num,zI<|(l.getD k Ex.zero).pick,zI<|(l.getD k Ex.zero).count,ac] Bq Z (fun cl au=>LD.of_box<|BX.ext (w:=cc) a8 au) Z Ac<|Af 1 Z ?_
  refine AK 117 [] [] [zP g,.agg #[zI<|(l.getD k Ex.zero).kind,zI<|(l.getD k Ex.zero).num,zI<|(l.getD k Ex.zero).pick,zI<|(l.getD k Ex.zero).count,ac],vv] Z Z LF Ac (IHv dd6 oM _ S9 g vp dp ip (s9) (c9) p (T9) ac (l.getD k Ex.zero) vv (env) (fun b hb=>(a1.lt b hb:b<cc.heap.size)) (a1.sub _ hgS) ⟨_,_,_,ax,aw⟩ (RN.stp (Aq<|AR dp) hp a9 a1.new) _hip oM oM hbl ⟨am.rng,RN.stp (Aq<|AL dd6) am.rn a9 a1.new⟩ (RN.stp g1 henv a9 a1.new) hqenv hvp oM (by exact hwf k hkl) (by exact hdp k hkl) (by intro h9;exact(hen<|hzl h9).mono oM)) ?_
  rintro cw cd ⟨cm,ci,cn,co,cp,rfl,a0,⟨cj,vg18,vv18,ay,az⟩,ah,ai,aj,ak⟩
  refine⟨_,rfl,?_⟩
  have bn:cc.heap.size≤cd.heap.size:=a0.chg.size
  have b0:AB S w cd:=a9.stp a0.chg a1.new
  have b1:=ag.keep (Bc AN) a0.chg fun b hb hm=>hdl b hm hb
  have a5:∀b∈Fo,b∉ci:=fun b hb hm=>(a0.new b hm).elim (hdl b hb) (fun h9=>zH<|ag.high b hb)
  have b2:=a8.chg a0.chg fun hm=>(zH<|hGl.lt _ hm)
  have b3:w3.heap.size∉ci:=fun hm=>(a0.new _ hm).elim (fun hm=>(zH<|hGl.lt _ hm)) (fun h9=>by omega)
  have b4:=a1.trans a0
  have bo:=ah.bnd
  have bp:=ah.num
  have hcz:=fun h9=>aF ak h9
  have hrv:=ai
  refine (BQ (u:=zI cm) (B:=cd.heap.size) AN Bu BL Z Z (Jl cd.heap.size cd.heap.size _ _ aj) (A9 _) Ac ?_)
  intro cs ck a2 c4 b5
  have bq:cd.heap.size≤ck.heap.size:=a2.size
  have b6:AB S w ck:=b0.ext a2
  have aa:=ay.ext a2
  have an:=b2.ext a2
  have b7:=CL.ext az a2
  have al:=b4.ext a2
  have hO29k:=b1.ext (Bc AN) a2
  refine Ln (v:=vo) (a:=cs) Bu BL Z Z Z hO29k b5.rd1 oM sD (by unfold maxLen;first|omega|assumption|(simp;done)|(simp;omega)) Ac fun ct cq cr a6 c5 b8=>?_
  have br:ck.heap.size≤cq.heap.size:=a6.size
  have b9:AB S w cq:=b6.fresh a6 (fun c hc=>zH<|hO29k.low c hc)
  have c6:∀b∈cr,b∉ci:=fun b hb hm=>(b8 b hb).elim (fun h9=>a5 b h9 hm) (fun h9=>zH<|al.lt b hm)
  have ba:=CL.chgO b7 a6 a5
  have bb:=al.fresh a6 fun c hc=>zH<|hO29k.low c hc
  have bc:=aa.chg a6 fun hm=>zH<|hO29k.low _ hm
  refine Ae 1 Z<|Ad _ [0,0] Z<|AS ((k+1:Nat):Int) Z Z (Bg oM oM) Ac<|Ae 1 Z ?_
  have hMe:=ba
  have hGe:=bb
  have hPe:Xf T cn s0 co cp:=⟨by assumption,zO⟩
  exact⟨(k+1,ct,xs++[cm],cr,ci,cn,co,cp,cj,vg18,vv18),_,rfl,zR,⟨b9,bc,sD,hGe,hMe,hPe,(by assumption),(by assumption),(by rw[z4,zd,hxl]),(by exact fun h9=>hzl (hcz h9)),(by exact fun h9=>IT.snoc ((hxb (hcz h9)).mono oM) (hrv h9)),(by exact Vd oM hrl (by assumption))⟩,zD⟩
 exact AJ false Z Z (A8 bl) Ac<|Aj<|A0<|Ak Z<|A6<|AA<|AA<|Ax<|fQ [0,0] Z<|Ae 2 Z<|A3<|Al [6] Z vo Z ⟨vo,xs,_,T9,s9,c9,rfl,hGl,⟨_,_,_,a3,hMl⟩,⟨hbl,oM⟩,RZ.of_ow hOl hdl,hOl.fr.cap,oM,hxb,(by rw[za oM]at hrl;exact hrl)⟩
theorem Fm (w:World)(v:Value)(n:Nat)(hs:Fu v n)(hcs:Dm v)  :
  Calls Tryz.prog 171 #[v] w (fun e w'=>e=.returned (Jm v)∧w'=w):=by
 refine Aw [v] 9 Tryz.func171 Z Z sM ?_
 have a0:w=w:=rfl
 exact fR Z<|fQ [0,0,0,0,0,0,0] Z<|Af 2 Z<|AU (v:=v) Bu Z hs Ac<|Af 1 Z<|AU (v:=v) Bu Z hs Ac<|Yi (v:=v) Bu BL Z hs Z Z hcs Ac<|Ae 1 Z<|A3<|Al [2] Z (Jm v) Z ⟨rfl,a0⟩
theorem Ke {p:Prop}(h:p:=by first|rw[(Tf (k:=c_op) (a:=a) (b:=b) oM).1,(Tf (k:=c_op) (a:=a) (b:=b) oM).2] <;> rfl|rw[(Tg (k:=c_op) (a:=a) (b:=b) oM).1,(Tg (k:=c_op) (a:=a) (b:=b) oM).2] <;> rfl|rw[(Th (k:=c_op) (a:=a) (b:=b) oM).1,(Th (k:=c_op) (a:=a) (b:=b) oM).2] <;> rfl|rw[(Ti (k:=c_op) (a:=a) (b:=b) oM).1,(Ti (k:=c_op) (a:=a) (b:=b) oM).2] <;> rfl|rw[(QZ (k:=c_op) (a:=a) (b:=b) oM oM).1,(QZ (k:=c_op) (a:=a) (b:=b) oM oM).2] <;> rfl|rw[(Tj (k:=c_op) (a:=a) (b:=b) oM oM).1,(Tj (k:=c_op) (a:=a) (b:=b) oM oM).2] <;> rfl):p:=h
theorem E7 (w:World)(c_op c_a c_b c_n:Int)(a:Int)(b:Int)(_hc_op:Bd c_op)(_hc_a:Bd c_a)(_hc_b:Bd c_b)(_hc_n:Bd c_n)(_ha:Bd a)(_hb:Bd b)(hop:3≤c_op∧c_op≤7) :
  Calls Tryz.prog 118 #[(.agg #[(zI c_op),(zI c_a),(zI c_b),(zI c_n)]),zI a,zI b] w (fun e w'=>e=.returned (.tuple #[zI (if Cm c_op b then 0 else CX c_op a b),.bool (!decide (Cm c_op b))])∧AD w w'):=by
 refine Aw [.agg #[zI c_op,zI c_a,zI c_b,zI c_n],zI a,zI b] 35 Tryz.func118 Z Z sM ?_
 have a8:AD w w:=AD.refl w
 refine fQ [3,0,0] Z (BC (cs:=#[zI c_op,zI c_a,zI c_b,zI c_n]) Z Ac fun w1 a3 aa a2=>?_)
 have a9:=a3.size
 have a0:=a8.trans a3
 replace a2:BX w1.heap w.heap.size [zI c_op,zI c_a,zI c_b,zI c_n]:=a2
 refine Ae 2 Z<|A0<|fQ [0,2] Z<|Ao (p:=zP w.heap.size) 0 DU Z Z Ac<|Ai (p:=Au (zP w.heap.size) 0) (.inr Z) (zI c_op) AG Z (a2.ldp (i:=0) sM) Ac<|Aj<|A5<|fQ [0,0] Z ?_
 by_cases a4:c_op=((3:Nat):Int)
 ·refine Av true Z Z (A7 a4) Ac<|Ae 1 Z<|Ah Z<|fQ [0,0,0,0,0] Z<|Af 2 Z<|AF 173 [] [] [zI a,zI b] Z Z TY Ac (zI<|md (a+b)) (fun wq=>HS wq _ _ _ha _hb)<|Ae 2 Z<|A3<|AM<|At ?_
  exact Al [6,7] Z (.tuple #[zI<|md (a+b),.bool true]) Z ⟨Ke,a0⟩
 refine Av false Z Z (A8 a4) Ac<|Ae 1 Z<|Ak Z<|fQ [0,0] Z ?_
 by_cases a5:c_op=((4:Nat):Int)
 ·refine Av true Z Z (A7 a5) Ac<|Ae 1 Z<|Ah Z<|fQ [0,0,0,0,0] Z<|Af 2 Z<|AF 174 [] [] [zI a,zI b] Z Z TZ Ac (zI<|md (a-b)) (fun wq=>Hh wq _ _ _ha _hb)<|Ae 2 Z<|A3<|AM<|At ?_
  exact Al [6,7] Z (.tuple #[zI<|md (a-b),.bool true]) Z ⟨Ke,a0⟩
 refine Av false Z Z (A8 a5) Ac<|Ae 1 Z<|Ak Z<|fQ [0,0] Z ?_
 by_cases a6:c_op=((5:Nat):Int)
 ·refine Av true Z Z (A7 a6) Ac<|Ae 1 Z<|Ah Z<|fQ [0,0,0,0,0] Z<|Af 2 Z<|AF 175 [] [] [zI a,zI b] Z Z XM Ac (zI<|md (a*b)) (fun wq=>JJ wq _ _ _ha _hb)<|Ae 2 Z<|A3<|AM<|At ?_
  exact Al [6,7] Z (.tuple #[zI<|md (a*b),.bool true]) Z ⟨Ke,a0⟩
 refine Av false Z Z (A8 a6) Ac<|Ae 1 Z<|Ak Z<|fQ [0,0] Z ?_
 by_cases a7:c_op=((7:Nat):Int)
 ·refine Av true Z Z (A7 a7) Ac<|Ae 1 Z<|Ah Z<|fQ [0,0,0,0] Z<|Af 1 Z<|AF 174 [] [] [zI ((0:Nat):Int),zI a] Z Z TZ Ac (zI<|md (((0:Nat):Int)-a)) (fun wq=>Hh wq _ _ oM _ha)<|Ae 2 Z<|A3<|AM<|At ?_
  exact Al [6,7] Z (.tuple #[zI<|md (((0:Nat):Int)-a),.bool true]) Z ⟨Ke,a0⟩
 refine Av false Z Z (A8 a7) Ac<|Ae 1 Z<|Ak Z<|A4<|A0<|fQ [0,0] Z<|Af 1 Z ?_
 by_cases a1:b=((0:Nat):Int)
 ·refine Av true Z Z (A7 a1) Ac<|Aj<|Ah Z<|fQ [0,0] Z<|Ae 2 Z<|A3<|At ?_
  exact Al [6,7] Z (.tuple #[zI ((0:Nat):Int),.bool false]) Z ⟨Ke,a0⟩
 refine Av false Z Z (A8 a1) Ac<|Aj<|Ak Z<|A4<|fQ [0,0,0,0,0,0] Z<|Af 2 Z<|AF 176 [] [] [zI b] Z Z XN Ac (zI<|inv b) (fun wq=>HT wq _ _hb)<|AF 175 [] [] [zI a,zI<|inv b] Z Z XM Ac (zI<|md (a*(inv b))) (fun wq=>JJ wq _ _ _ha<|Qw _)<|Ae 2 Z<|A3 ?_
 exact Al [6,7] Z (.tuple #[zI<|md (a*(inv b)),.bool true]) Z ⟨Ke,a0⟩
theorem O4 {p:Prop}(h:p:=by first|exact Vf hc00 oM (aG (by assumption))|exact Vg hc00 oM (eZ (by assumption))|exact Vh hc00 oM|exact absurd (aG (Q:=Cm op _) (by assumption)) (Xe oM)):p:=h
theorem O5 {p:Prop}(h:p:=by first|(intro h9;exact absurd h9 oM)|(intro h9;omega)):p:=h
theorem O6 {p:Prop}(h:p:=by first|exact hbd.up oM|exact hbd.put _ hvr):p:=h
theorem Ey {p:Prop}(h:p:=by have:=hG0.lt _ hm;omega):p:=h
theorem FX (w:World)(S:List Nat)(g:Nat)(vp:Value)(dp:Nat)(ip:Int)(s0:Nat)(c0:Int)(p:List Fn)(T:Tp)(op:Int)(vk:Value)(ks:Sr)(hS:∀b∈S,b<w.heap.size)(hgS:g∈S)(hR0:Sc 52 107 2 S g w.heap vp ip T s0 c0)(hp:RP S dp w.heap vp p)(_hip:Bd ip)(hs0:s0≤3000)(hc0:0≤c0∧c0≤9)(hbd:K1 T s0)(_hop:Bd op)(hks:RN S (Bl rI) w.heap vk ks)(hqks:Dm vk)(hop:3≤op∧op≤7)(hkl:1≤ks.length∧(op≠7→2≤ks.length))(hen:IT T ks)(hc00:c0=0) :
  Calls Tryz.prog 172 #[zP g,zI op,vk] w (fun e w'=>∃(r:Int) (S':List Nat) (T':Tp) (c1:Int),e=.returned (zI r)∧FW S S' w w'∧Sc 52 107 2 S' g w'.heap vp ip T' s0 c1∧K1 T' (s0+1)∧((0≤c1∧c1≤9)∧T.vals.length≤T'.vals.length∧T'.vals.length≤T.vals.length+1∧T'.grd.length=T.grd.length)∧(c1=0→0≤r∧r<(T'.vals.length:Int))∧(Bd r)∧AY (go c0 (Tb op ks s0 T)) (r,T') s0 c1):=by
 refine Aw [zP g,zI op,vk] 51 Tryz.func172 Z Z sM ?_
 have bi:AB S w w:=AB.refl S w
 have cd:=hp.lenle
 unfold maxLen at cd
 have cg:=hks.lenL
 unfold maxLen at cg
 obtain⟨rc0,rg0,rv0,b0,bv⟩:=hR0
 have cx:=b0.lt
 have hG0:FW S S w w:=FW.refl hS
 have ch:=hen 0 oM
 have hbn:=hbd.ln hs0
 refine fR Z<|fQ [0,0,0,2,0,3,4] Z<|Af 2 Z<|AH (v:=vk) 0 Bu BL Z Z hks.slL Z sD Ac ?_
 have am:=RN.getI (w:=w) (k:=0) hks sD
 refine Ai (p:=AE vk 0 1) (.inr Z) (zI<|ks.getD 0 0) AG Z (am.1 _ bi) Ac ?_
 have b1:∀(wq:World),(Instr.build 52 #[(0,zI op),(1,zI (ks.getD 0 0))]).run Tryz.prog wq=.ok (.agg #[zI op,zI (ks.getD 0 0),zI 0,zI 0]) wq:=by intro wq;kernel_rfl
 refine Ch (ps:=#[(0,zI op),(1,zI<|ks.getD 0 0)]) (.agg #[zI op,zI<|ks.getD 0 0,zI 0,zI 0]) (by simp only[zc,zf,zh];rfl) (fun wq=>b1  wq) Ac ?_
 have ci:=b0.lt
 refine B9 (z:=.agg #[zI 0,zI 0,zI 0,zI 0]) NS Ac fun w3 an cj b2=>?_
 have bw:w.heap.size≤w3.heap.size:=an.size
 have bx:AB S w w3:=bi.ext an
 have ao:=b0.ext an
 have bz:=CL.ext bv an
 have c2:=hG0.ext an
 replace b2:BX w3.heap w.heap.size [zI 0,zI 0,zI 0,zI 0]:=b2
 refine Bh (vs:=[zI op,zI<|ks.getD 0 0,zI (0:Int),zI (0:Int)]) Bx Z Z (by intro u hu;simp only[ze,z2,or_false]at hu;rcases hu with rfl|rfl|rfl|rfl <;> first|exact⟨rfl,rfl⟩) b2 Z Z Ac fun w6 ap ck ag=>?_
 replace ag:BX w6.heap w.heap.size [zI op,zI (ks.getD 0 0),zI (0:Int),zI (0:Int)]:=ag
 have b3:AB S w w6:=bx.fresh ap (fun _ h=>zE h)
 have af:=CL.chgO bz ap fun b hb hm=>by rw[Ab hb]at hm;exact Ey
 have bj:=c2.fresh ap fun _ h=>zE h
 have c3:w3.heap.size≤w6.heap.size:=ap.size
 have az:=ao.chg ap (zB ·)
 refine Aj<|A0<|fQ [0,0] Z<|Af 1 Z ?_
 by_cases aq:op≠((7:Nat):Int)
 ·refine Be true Z Z (A7 aq) Ac<|Aj<|Ah Z<|Ad _ [0,0,2,0,4] Z ?_
  have cl:=hen 1 oM
  refine Af 1 Z<|AH (v:=vk) 1 Bu BL Z Z hks.slL Z sD Ac ?_
  have ah:=RN.getI (w:=w) (k:=1) hks sD
  refine Ai (p:=AE vk 1 1) (.inr Z) (zI<|ks.getD 1 0) AG Z (ah.1 _ b3) Ac<|Ao (p:=zP w.heap.size) 2 BU Z Z Ac (Bn (k:=2) (w:=w6) GS Z Z ⟨rfl,rfl⟩ ag sM Ac fun cm a9 c4 a8=>?_)
  replace a8:BX cm.heap w.heap.size [zI op,zI (ks.getD 0 0),zI (ks.getD 1 0),zI (0:Int)]:=a8
  have b4:AB S w cm:=b3.fresh a9 (fun _ h=>zE h)
  have a3:=CL.chgO af a9 fun b hb hm=>by rw[Ab hb]at hm;exact Ey
  have b5:=bj.fresh a9 fun _ h=>zE h
  have bk:w6.heap.size≤cm.heap.size:=a9.size
  have ai:=az.chg a9 (zB ·)
  refine Aj<|A0<|B7 _ [1,0,0,0,1,0,1,0,1,0,0,0,1,0,1,0,1,3,0,0,0,0,0] mixed (by kernel_rfl)<|AC (p:=zP w.heap.size) (.inl Z) [zI op,zI<|ks.getD 0 0,zI<|ks.getD 1 0,zI (0:Int)] Bx Z (fun cn aj=>LD.of_box<|BX.ext (w:=cm.drew) a8 aj) Z Ac<|Af 1 Z<|Bf Z Ac<|Ao (p:=zP g) 5 E5 Z Z Ac<|Ai (p:=Au (zP g) 5) (.inl Z) rv0 BN Z (ai.ldp (i:=5) sM) Ac<|Ao (p:=zP w.heap.size) 1 BW Z Z Ac ?_
  refine Ai (p:=Au (zP w.heap.size) 1) (.inl Z) (zI<|ks.getD 0 0) AG Z (a8.ldp (i:=1) sM) Ac<|AH (v:=rv0) ((ks.getD 0 0).toNat) Bu BL Z Z (CL.slv a3) oM oM Ac (Ai (p:=AE rv0 ((ks.getD 0 0).toNat) 1) (.inl Z) (zI<|T.vals.getD ((ks.getD 0 0).toNat) 0) AG Z ((CL.rdv a3).getI oM).1 Ac (Af 1 Z<|Bf Z Ac<|Ao (p:=zP g) 5 E5 Z Z Ac<|Ai (p:=Au (zP g) 5) (.inl Z) rv0 BN Z (ai.ldp (i:=5) sM) Ac<|Ao (p:=zP w.heap.size) 2 BU Z Z Ac ?_))
  refine Ai (p:=Au (zP w.heap.size) 2) (.inl Z) (zI<|ks.getD 1 0) AG Z (a8.ldp (i:=2) sM) Ac<|AH (v:=rv0) ((ks.getD 1 0).toNat) Bu BL Z Z (CL.slv a3) oM oM Ac (Ai (p:=AE rv0 ((ks.getD 1 0).toNat) 1) (.inl Z) (zI<|T.vals.getD ((ks.getD 1 0).toNat) 0) AG Z ((CL.rdv a3).getI oM).1 Ac (Ay 118 [] [] [.agg #[zI op,zI<|ks.getD 0 0,zI<|ks.getD 1 0,zI (0:Int)],zI<|T.vals.getD ((ks.getD 0 0).toNat) 0,zI<|T.vals.getD ((ks.getD 1 0).toNat) 0] Z Z Rk Ac (E7 _ (op) (ks.getD 0 0) (ks.getD 1 0) (0:Int) _ _ _hop am.2 ah.2 oM ((CL.rdv a3).getI oM).2 ((CL.rdv a3).getI oM).2 oM) ?_))
  rintro cy c7 ⟨rfl,a0⟩
  refine⟨_,rfl,a0,?_⟩
  replace a0:=a0.of_drew
  have bl:cm.heap.size≤c7.heap.size:=a0.size
  have ar:AB S w c7:=b4.ext a0
  have a7:=ai.ext a0
  have a2:=a8.ext a0
  have c5:=(CL.rdv a3).ext g1 a0
  have au:=CL.ext a3 a0
  have aa:=b5.ext a0
  refine Af 1 Z<|AO (vs:=[zI (if Cm op (T.vals.getD ((ks.getD 1 0).toNat) 0)then 0 else CX op (T.vals.getD ((ks.getD 0 0).toNat) 0) (T.vals.getD ((ks.getD 1 0).toNat) 0)),.bool (!decide (Cm op<|T.vals.getD ((ks.getD 1 0).toNat) 0))]) (zI (if Cm op (T.vals.getD ((ks.getD 1 0).toNat) 0)then 0 else CX op (T.vals.getD ((ks.getD 0 0).toNat) 0) (T.vals.getD ((ks.getD 1 0).toNat) 0))) Z Z Ac<|AO (vs:=[zI (if Cm op (T.vals.getD ((ks.getD 1 0).toNat) 0)then 0 else CX op (T.vals.getD ((ks.getD 0 0).toNat) 0) (T.vals.getD ((ks.getD 1 0).toNat) 0)),.bool (!decide (Cm op<|T.vals.getD ((ks.getD 1 0).toNat) 0))]) (.bool (!decide (Cm op<|T.vals.getD ((ks.getD 1 0).toNat) 0))) Z Z Ac<|Ae 2 Z<|A0<|fQ [0,0] Z ?_
  have hvr:0≤(if Cm op (T.vals.getD ((ks.getD 1 0).toNat) 0)then 0 else CX op (T.vals.getD ((ks.getD 0 0).toNat) 0) (T.vals.getD ((ks.getD 1 0).toNat) 0))∧(if Cm op (T.vals.getD ((ks.getD 1 0).toNat) 0)then 0 else CX op (T.vals.getD ((ks.getD 0 0).toNat) 0) (T.vals.getD ((ks.getD 1 0).toNat) 0))<1000003:=R1 _ _ _
  refine Af 1 Z<|BF (!(!decide (Cm op<|T.vals.getD ((ks.getD 1 0).toNat) 0))) Z Z Ac<|Aj ?_
  cases av:(!(!decide (Cm op (T.vals.getD ((ks.getD 1 0).toNat) 0))))
  ·refine Ak (by first|rfl|exact zW av)<|A4<|fQ [0,2,0,4,0] Z<|Af 1 Z<|AC (p:=zP w.heap.size) (.inr Z) [zI op,zI<|ks.getD 0 0,zI<|ks.getD 1 0,zI (0:Int)] Bx Z (fun cn aj=>LD.of_box<|BX.ext (w:=c7) a2 aj) Z Ac<|Af 1 Z ?_
   refine AK 54 [] [] [zP g,.agg #[zI op,zI<|ks.getD 0 0,zI<|ks.getD 1 0,zI (0:Int)],zI (if Cm op (T.vals.getD ((ks.getD 1 0).toNat) 0)then 0 else CX op (T.vals.getD ((ks.getD 0 0).toNat) 0) (T.vals.getD ((ks.getD 1 0).toNat) 0))] Z Z VK Ac (CU _ S g vp ip (s0) (c0) (T) (⟨op,ks.getD 0 0,ks.getD 1 0,(0:Int)⟩:Am) (if Cm op (T.vals.getD ((ks.getD 1 0).toNat) 0)then 0 else CX op (T.vals.getD ((ks.getD 0 0).toNat) 0) (T.vals.getD ((ks.getD 1 0).toNat) 0)) (fun b hb=>(aa.lt b hb:b<c7.heap.size)) (aa.sub _ hgS) ⟨_,_,_,a7,au⟩ _hip (by exact hbd.ln hs0) ⟨_hop,am.2,ah.2,(show Bd (0:Int)from by omega)⟩ (by have:=KS op (T.vals.getD ((ks.getD 0 0).toNat) 0) (T.vals.getD ((ks.getD 1 0).toNat) 0);split <;> omega)) ?_
   rintro cz cq ⟨cs,rfl,a4,ct,vg20,vv20,b6,b7⟩
   refine⟨_,rfl,?_⟩
   have bm:c7.heap.size≤cq.heap.size:=a4.chg.size
   have c6:AB S w cq:=ar.stp a4.chg aa.new
   have b8:w.heap.size∉cs:=fun hm=>(a4.new _ hm).elim (fun hm=>Ey) (fun h9=>by omega)
   have b9:=aa.trans a4
   have bn:(T.put (⟨op,ks.getD 0 0,ks.getD 1 0,(0:Int)⟩:Am) (if Cm op (T.vals.getD ((ks.getD 1 0).toNat) 0)then 0 else CX op (T.vals.getD ((ks.getD 0 0).toNat) 0) (T.vals.getD ((ks.getD 1 0).toNat) 0))).vals.length=T.vals.length+1:=H8 _ _ _
   have bo:(T.put (⟨op,ks.getD 0 0,ks.getD 1 0,(0:Int)⟩:Am) (if Cm op (T.vals.getD ((ks.getD 1 0).toNat) 0)then 0 else CX op (T.vals.getD ((ks.getD 0 0).toNat) 0) (T.vals.getD ((ks.getD 1 0).toNat) 0))).grd.length=T.grd.length:=rfl
   exact Ae 1 Z<|A3<|Al [6] Z (zI (T.vals.length:Int)) Z ⟨(T.vals.length:Int),_,T.put (⟨op,ks.getD 0 0,ks.getD 1 0,(0:Int)⟩:Am) (if Cm op (T.vals.getD ((ks.getD 1 0).toNat) 0)then 0 else CX op (T.vals.getD ((ks.getD 0 0).toNat) 0) (T.vals.getD ((ks.getD 1 0).toNat) 0)),c0,rfl,b9,⟨_,_,_,b6,b7⟩,O6,oM,O5,oM,O4⟩
  refine Ah (by first|rfl|exact zW av)<|fQ [0,0,0,4] Z<|Af 1 Z<|Bf Z Ac<|Ao (p:=zP g) 7 FA Z Z Ac (Bn (k:=7) (w:=c7) GS Z Z ⟨rfl,rfl⟩ a7 sM Ac fun co ab c8 ak=>?_)
  replace ak:BX co.heap g [vp,zI ip,rc0,rg0,zN,rv0,zI (s0:Int),zI ((6:Nat):Int)]:=ak
  have c9:AB S w co:=ar.trans (ab.sub (Bo hgS))
  have ba:=CL.chg au ab
  have bb:=aa.set hgS ab
  have bp:c7.heap.size≤co.heap.size:=ab.size
  exact Aj<|fR Z<|A3<|At<|Al [6] Z (zI ((0:Nat):Int)) Z ⟨((0:Nat):Int),_,T,((6:Nat):Int),rfl,bb,⟨_,_,_,ak,ba⟩,O6,oM,O5,oM,O4⟩
 refine Be false Z Z (A8 aq) Ac<|Aj<|Ak Z<|A4<|A0<|B7 _ [1,0,0,0,1,0,1,0,1,0,0,0,1,0,1,0,1,3,0,0,0,0,0] mixed (by kernel_rfl)<|AC (p:=zP w.heap.size) (.inl Z) [zI op,zI<|ks.getD 0 0,zI (0:Int),zI (0:Int)] Bx Z (fun cn aj=>LD.of_box<|BX.ext (w:=w6.drew) ag aj) Z Ac<|Af 1 Z<|Bf Z Ac<|Ao (p:=zP g) 5 E5 Z Z Ac<|Ai (p:=Au (zP g) 5) (.inl Z) rv0 BN Z (az.ldp (i:=5) sM) Ac<|Ao (p:=zP w.heap.size) 1 BW Z Z Ac ?_
 refine Ai (p:=Au (zP w.heap.size) 1) (.inl Z) (zI<|ks.getD 0 0) AG Z (ag.ldp (i:=1) sM) Ac<|AH (v:=rv0) ((ks.getD 0 0).toNat) Bu BL Z Z (CL.slv af) oM oM Ac (Ai (p:=AE rv0 ((ks.getD 0 0).toNat) 1) (.inl Z) (zI<|T.vals.getD ((ks.getD 0 0).toNat) 0) AG Z ((CL.rdv af).getI oM).1 Ac (Af 1 Z<|Bf Z Ac<|Ao (p:=zP g) 5 E5 Z Z Ac<|Ai (p:=Au (zP g) 5) (.inl Z) rv0 BN Z (az.ldp (i:=5) sM) Ac<|Ao (p:=zP w.heap.size) 2 BU Z Z Ac ?_))
 refine Ai (p:=Au (zP w.heap.size) 2) (.inl Z) (zI (0:Int)) AG Z (ag.ldp (i:=2) sM) Ac<|AH (v:=rv0) ((0:Int).toNat) Bu BL Z Z (CL.slv af) oM oM Ac (Ai (p:=AE rv0 ((0:Int).toNat) 1) (.inl Z) (zI<|T.vals.getD ((0:Int).toNat) 0) AG Z ((CL.rdv af).getI oM).1 Ac (Ay 118 [] [] [.agg #[zI op,zI<|ks.getD 0 0,zI (0:Int),zI (0:Int)],zI<|T.vals.getD ((ks.getD 0 0).toNat) 0,zI<|T.vals.getD ((0:Int).toNat) 0] Z Z Rk Ac (E7 _ (op) (ks.getD 0 0) (0:Int) (0:Int) _ _ _hop am.2 oM oM ((CL.rdv af).getI oM).2 ((CL.rdv af).getI oM).2 oM) ?_))
 rintro d0 ca ⟨rfl,a1⟩
 refine⟨_,rfl,a1,?_⟩
 replace a1:=a1.of_drew
 have bq:w6.heap.size≤ca.heap.size:=a1.size
 have aw:AB S w ca:=b3.ext a1
 have ac:=az.ext a1
 have a6:=ag.ext a1
 have cb:=(CL.rdv af).ext g1 a1
 have ax:=CL.ext af a1
 have ad:=bj.ext a1
 refine Af 1 Z<|AO (vs:=[zI (if Cm op (T.vals.getD ((0:Int).toNat) 0)then 0 else CX op (T.vals.getD ((ks.getD 0 0).toNat) 0) (T.vals.getD ((0:Int).toNat) 0)),.bool (!decide (Cm op<|T.vals.getD ((0:Int).toNat) 0))]) (zI (if Cm op (T.vals.getD ((0:Int).toNat) 0)then 0 else CX op (T.vals.getD ((ks.getD 0 0).toNat) 0) (T.vals.getD ((0:Int).toNat) 0))) Z Z Ac<|AO (vs:=[zI (if Cm op (T.vals.getD ((0:Int).toNat) 0)then 0 else CX op (T.vals.getD ((ks.getD 0 0).toNat) 0) (T.vals.getD ((0:Int).toNat) 0)),.bool (!decide (Cm op<|T.vals.getD ((0:Int).toNat) 0))]) (.bool (!decide (Cm op<|T.vals.getD ((0:Int).toNat) 0))) Z Z Ac<|Ae 2 Z<|A0<|fQ [0,0] Z ?_
 have hvr:0≤(if Cm op (T.vals.getD ((0:Int).toNat) 0)then 0 else CX op (T.vals.getD ((ks.getD 0 0).toNat) 0) (T.vals.getD ((0:Int).toNat) 0))∧(if Cm op (T.vals.getD ((0:Int).toNat) 0)then 0 else CX op (T.vals.getD ((ks.getD 0 0).toNat) 0) (T.vals.getD ((0:Int).toNat) 0))<1000003:=R1 _ _ _
 refine Af 1 Z<|BF (!(!decide (Cm op<|T.vals.getD ((0:Int).toNat) 0))) Z Z Ac<|Aj ?_
 cases ay:(!(!decide (Cm op (T.vals.getD ((0:Int).toNat) 0))))
 ·refine Ak (by first|rfl|exact zW ay)<|A4<|fQ [0,2,0,4,0] Z<|Af 1 Z<|AC (p:=zP w.heap.size) (.inr Z) [zI op,zI<|ks.getD 0 0,zI (0:Int),zI (0:Int)] Bx Z (fun cn aj=>LD.of_box<|BX.ext (w:=ca) a6 aj) Z Ac<|Af 1 Z ?_
  refine AK 54 [] [] [zP g,.agg #[zI op,zI<|ks.getD 0 0,zI (0:Int),zI (0:Int)],zI (if Cm op (T.vals.getD ((0:Int).toNat) 0)then 0 else CX op (T.vals.getD ((ks.getD 0 0).toNat) 0) (T.vals.getD ((0:Int).toNat) 0))] Z Z VK Ac (CU _ S g vp ip (s0) (c0) (T) (⟨op,ks.getD 0 0,(0:Int),(0:Int)⟩:Am) (if Cm op (T.vals.getD ((0:Int).toNat) 0)then 0 else CX op (T.vals.getD ((ks.getD 0 0).toNat) 0) (T.vals.getD ((0:Int).toNat) 0)) (fun b hb=>(ad.lt b hb:b<ca.heap.size)) (ad.sub _ hgS) ⟨_,_,_,ac,ax⟩ _hip (by exact hbd.ln hs0) ⟨_hop,am.2,(show Bd (0:Int)from by omega),(show Bd (0:Int)from by omega)⟩ (by have:=KS op (T.vals.getD ((ks.getD 0 0).toNat) 0) (T.vals.getD ((0:Int).toNat) 0);split <;> omega)) ?_
  rintro d1 cr ⟨cu,rfl,a5,cw,vg36,vv36,bc,bd⟩
  refine⟨_,rfl,?_⟩
  have br:ca.heap.size≤cr.heap.size:=a5.chg.size
  have cc:AB S w cr:=aw.stp a5.chg ad.new
  have be:w.heap.size∉cu:=fun hm=>(a5.new _ hm).elim (fun hm=>Ey) (fun h9=>by omega)
  have bf:=ad.trans a5
  have bs:(T.put (⟨op,ks.getD 0 0,(0:Int),(0:Int)⟩:Am) (if Cm op (T.vals.getD ((0:Int).toNat) 0)then 0 else CX op (T.vals.getD ((ks.getD 0 0).toNat) 0) (T.vals.getD ((0:Int).toNat) 0))).vals.length=T.vals.length+1:=H8 _ _ _
  have bt:(T.put (⟨op,ks.getD 0 0,(0:Int),(0:Int)⟩:Am) (if Cm op (T.vals.getD ((0:Int).toNat) 0)then 0 else CX op (T.vals.getD ((ks.getD 0 0).toNat) 0) (T.vals.getD ((0:Int).toNat) 0))).grd.length=T.grd.length:=rfl
  exact Ae 1 Z<|A3<|Al [6] Z (zI (T.vals.length:Int)) Z ⟨(T.vals.length:Int),_,T.put (⟨op,ks.getD 0 0,(0:Int),(0:Int)⟩:Am) (if Cm op (T.vals.getD ((0:Int).toNat) 0)then 0 else CX op (T.vals.getD ((ks.getD 0 0).toNat) 0) (T.vals.getD ((0:Int).toNat) 0)),c0,rfl,bf,⟨_,_,_,bc,bd⟩,O6,oM,O5,oM,O4⟩
 refine Ah (by first|rfl|exact zW ay)<|fQ [0,0,0,4] Z<|Af 1 Z<|Bf Z Ac<|Ao (p:=zP g) 7 FA Z Z Ac (Bn (k:=7) (w:=ca) GS Z Z ⟨rfl,rfl⟩ ac sM Ac fun cp ae ce al=>?_)
 replace al:BX cp.heap g [vp,zI ip,rc0,rg0,zN,rv0,zI (s0:Int),zI ((6:Nat):Int)]:=al
 have cf:AB S w cp:=aw.trans (ae.sub (Bo hgS))
 have bg:=CL.chg ax ae
 have bh:=ad.set hgS ae
 have bu:ca.heap.size≤cp.heap.size:=ae.size
 exact Aj<|fR Z<|A3<|At<|Al [6] Z (zI ((0:Nat):Int)) Z ⟨((0:Nat):Int),_,T,((6:Nat):Int),rfl,bh,⟨_,_,_,al,bg⟩,O6,oM,O5,oM,O4⟩
theorem Qg (F d:Nat)(IH:∀d',d'<d→dU F d'):gB F d:=by
 intro w S g vp dp ip s0 c0 p T vl l vv env hS hgS hR0 hp hip hs0 hc0 hbd hl henv hqenv hvp hF hwf hdp hll hen
 exact Iq w S F g vp dp ip s0 c0 p T d vl l vv env hS hgS hR0 hp hip hs0 hc0 hbd hl henv hqenv hvp hF hwf hdp hll hen IH
theorem EH {p:Prop}(h:p:=by first|exact Va oM|exact RY oM oM|exact YM hc00 hs1 oM|exact YN hc00 hs1 oM|exact YO hc00 hs1 oM oM hL1 oM|exact YP hc00 hs1 oM oM hL1 oM (by assumption) hL2|exact YQ hc00 hs1 oM oM hL1 oM (by assumption) hL2|exact YS hc00 hs1 oM oM hL1 hL2|exact Td hc00 hs1 hkg.1 hkg.2.1 hkg.2.2.1 hkg.2.2.2 hKr oM|exact Vb hc00 hs1 oM oM hKr oM hL2|exact Vc hc00 hs1 oM oM hKr oM (Ve hrl9 oM oM)|exact aE hc00 hs1 hkg.1 hkg.2.1 hkg.2.2.1 hkg.2.2.2 oM oM hKr oM hL2):p:=h
theorem EI {p:Prop}(h:p:=by first|(intro h9;exact absurd h9 oM)|assumption|(intro h9;omega)|(intro h9;have:=hkb9 h9;omega)):p:=h
theorem Hk {p:Prop}(h:p:=by first|assumption|exact hbd.up oM|exact K1.guard (by assumption) _ _ oM):p:=h
theorem EJ {p:Prop}(h:p:=by first|assumption|exact hbd.put _ oM|exact K1.dn (by assumption) oM oM):p:=h
theorem Ir (w:World)(S:List Nat)(F:Nat)(g:Nat)(vp:Value)(dp:Nat)(ip:Int)(s0:Nat)(c0:Int)(p:List Fn)(T:Tp)(dex:Nat)(ve:Value)(ex:Ex)(vv:Value)(env:Sr)(hS:∀b∈S,b<w.heap.size)(hgS:g∈S)(hR0:Sc 52 107 2 S g w.heap vp ip T s0 c0)(hp:RP S dp w.heap vp p)(_hip:Bd ip)(hs0:s0≤3000)(hc0:0≤c0∧c0≤9)(hbd:K1 T s0)(hex:RX S dex w.heap ve ex)(henv:RN S (Bl rI) w.heap vv env)(hqenv:Dm vv)(hvp:Od p)(hF:F≤p.length)(hwf:wf p (F:Int) ex (env.length:Int)=true)(hdp:env.length+ex.deep≤1000000)(hen:c0=0→IT T env)(IH1:∀F',F'<F→∀d,dU F' d)(IH2:∀d',d'<dex→dU F d') :
  Calls Tryz.prog 117 #[zP g,(.agg #[(zI ex.kind),(zI ex.num),(zI ex.pick),(zI ex.count),ve]),vv] w (fun e w'=>∃(r:Int) (S':List Nat) (T':Tp) (s1:Nat) (c1:Int),e=.returned (zI r)∧FW S S' w w'∧Sc 52 107 2 S' g w'.heap vp ip T' s1 c1∧Xf T T' s0 s1 c1∧(c1=0→0≤r∧r<(T'.vals.length:Int))∧(Bd r)∧AY (go c0 (Hr (Kx p F) ex env s0 T)) (r,T') s1 c1):=by
 refine Aw [zP g,.agg #[zI ex.kind,zI ex.num,zI ex.pick,zI ex.count,ve],vv] 190 Tryz.func117 Z Z sM ?_
 have j4:AB S w w:=AB.refl S w
 have lf:=hp.lenle
 unfold maxLen at lf
 have lg:=hex.rn.lenle
 unfold maxLen at lg
 have lh:=henv.lenL
 unfold maxLen at lh
 obtain⟨rc0,rg0,rv0,g9,j5⟩:=hR0
 have nj:=g9.lt
 have hG0:FW S S w w:=FW.refl hS
 have hdk:=EF ex
 refine fQ [3,0] Z ?_
 have ky:=g9.lt
 refine BC (cs:=#[zI ex.kind,zI ex.num,zI ex.pick,zI ex.count,ve]) Z Ac fun w1 d3 ka g0=>?_
 have ga:w.heap.size≤w1.heap.size:=d3.size
 have gb:AB S w w1:=j4.ext d3
 have ai:=g9.ext d3
 have g2:=CL.ext j5 d3
 have g3:=hG0.ext d3
 replace g0:BX w1.heap w.heap.size [zI ex.kind,zI ex.num,zI ex.pick,zI ex.count,ve]:=g0
 refine Ae 1 Z<|A0<|fQ [0,0,0,2,0] Z<|Af 1 Z<|Bf Z Ac<|Ao (p:=zP g) 7 FA Z Z Ac<|Ai (p:=Au (zP g) 7) (.inr Z) (zI c0) AG Z (ai.ldp (i:=7) sM) Ac ?_
 by_cases j6:c0≠((0:Nat):Int)
 ·refine Be true Z Z (A7 j6) Ac<|Aj<|Ah Z<|fR Z<|A3<|At ?_
  exact Al [6] Z (zI ((0:Nat):Int)) Z ⟨((0:Nat):Int),_,T,s0,c0,rfl,g3,⟨_,_,_,ai,g2⟩,⟨EJ,oM⟩,EI,oM,EH⟩
 refine Be false Z Z (A8 j6) Ac<|Aj<|Ak Z<|A4<|A0<|fQ [0,0,0,2,0] Z<|Af 1 Z<|Bf Z Ac<|Ao (p:=zP g) 6 NT Z Z Ac<|Ai (p:=Au (zP g) 6) (.inr Z) (zI (s0:Int)) AG Z (ai.ldp (i:=6) sM) Ac ?_
 by_cases j7:(s0:Int)=((3000:Nat):Int)
 ·refine Av true Z Z (A7 j7) Ac<|Aj<|Ah Z<|fQ [0,0,0,4] Z<|Af 1 Z<|Bf Z Ac<|Ao (p:=zP g) 7 FA Z Z Ac (Bn (k:=7) (w:=w1) GS Z Z ⟨rfl,rfl⟩ ai sM Ac fun w6 d4 kz gc=>?_)
  replace gc:BX w6.heap g [vp,zI ip,rc0,rg0,zN,rv0,zI (s0:Int),zI ((7:Nat):Int)]:=gc
  have l0:AB S w w6:=gb.trans (d4.sub (Bo hgS))
  have kb:=CL.chg g2 d4
  have kc:=g3.set hgS d4
  have kd:w1.heap.size≤w6.heap.size:=d4.size
  have ke:=g0.chg d4 (zB ·)
  refine Aj<|fR Z<|A3<|At ?_
  exact Al [6] Z (zI ((0:Nat):Int)) Z ⟨((0:Nat):Int),_,T,s0,((7:Nat):Int),rfl,kc,⟨_,_,_,gc,kb⟩,⟨EJ,oM⟩,EI,oM,EH⟩
 refine Av false Z Z (A8 j7) Ac<|Aj<|Ak Z<|A4<|fQ [0,0,0,2,0,0,0,4] Z<|Af 1 Z<|Bf Z Ac<|Ao (p:=zP g) 6 NT Z Z Ac<|Ai (p:=Au (zP g) 6) (.inr Z) (zI (s0:Int)) AG Z (ai.ldp (i:=6) sM) Ac<|AS ((s0+1:Nat):Int) Z Z (Bg oM oM) Ac<|Bf Z Ac<|Ao (p:=zP g) 6 NT Z Z Ac (Bn (k:=6) (w:=w1) GS Z Z ⟨rfl,rfl⟩ ai sM Ac fun fd b0 gd aw=>?_)
 replace aw:BX fd.heap g [vp,zI ip,rc0,rg0,zN,rv0,zI ((s0+1:Nat):Int),zI c0]:=aw
 have a4:AB S w fd:=gb.trans (b0.sub (Bo hgS))
 have b1:=CL.chg g2 b0
 have a0:=g3.set hgS b0
 have d5:w1.heap.size≤fd.heap.size:=b0.size
 have ac:=g0.chg b0 (zB ·)
 refine Aj<|A0<|fQ [0,2] Z ?_
 have hc00:c0=0:=by omega
 have hs1:s0+1≤3000:=by omega
 have ax:=hen hc00
 have kf:=hbd.up (s':=s0+1) oM
 have hbn:=hbd.2
 refine Ao (p:=zP w.heap.size) 0 Bz Z Z Ac<|Ai (p:=Au (zP w.heap.size) 0) (.inr Z) (zI ex.kind) AG Z (ac.ldp (i:=0) sM) Ac<|Aj<|A5<|fQ [0,0] Z ?_
 by_cases d6:ex.kind=((1:Nat):Int)
 ·refine Av true Z Z (A7 d6) Ac<|Ae 1 Z<|Ah Z<|fQ [0,0,2,0,0,2,4,0] Z ?_
  have hwk:=SU hwf oM
  refine Af 1 Z<|Ao (p:=zP w.heap.size) 1 Cc Z Z Ac<|Ai (p:=Au (zP w.heap.size) 1) (.inr Z) (zI ex.num) AG Z (ac.ldp (i:=1) sM) Ac ?_
  have d7:∀(wq:World),(Instr.build 52 #[(0,zI ((2:Nat):Int)),(3,zI ex.num)]).run Tryz.prog wq=.ok (.agg #[zI ((2:Nat):Int),zI 0,zI 0,zI ex.num]) wq:=by intro wq;kernel_rfl
  refine Ch (ps:=#[(0,zI ((2:Nat):Int)),(3,zI ex.num)]) (.agg #[zI ((2:Nat):Int),zI 0,zI 0,zI ex.num]) (by simp only[zc,zf,zh];rfl) (fun wq=>d7  wq) Ac<|Ao (p:=zP w.heap.size) 1 Cc Z Z Ac<|Ai (p:=Au (zP w.heap.size) 1) (.inr Z) (zI ex.num) AG Z (ac.ldp (i:=1) sM) Ac ?_
  refine AK 54 [] [] [zP g,.agg #[zI ((2:Nat):Int),zI (0:Int),zI (0:Int),zI ex.num],zI ex.num] Z Z VK Ac (CU _ S g vp ip (s0+1) (c0) (T) (⟨((2:Nat):Int),(0:Int),(0:Int),ex.num⟩:Am) (ex.num) (fun b hb=>(a0.lt b hb:b<fd.heap.size)) (a0.sub _ hgS) ⟨_,_,_,aw,b1⟩ _hip (by exact K1.ln (by assumption) oM) ⟨(show Bd ((2:Nat):Int)from by omega),(show Bd (0:Int)from by omega),(show Bd (0:Int)from by omega),hex.rng.num⟩ hex.rng.num) ?_
  rintro nk mc ⟨mr,rfl,an,ms,vg18,vv18,ge,gf⟩
  refine⟨_,rfl,?_⟩
  have j8:fd.heap.size≤mc.heap.size:=an.chg.size
  have kg:AB S w mc:=a4.stp an.chg a0.new
  have kh:=ac.chg an.chg fun hm=>Ey
  have gg:w.heap.size∉mr:=fun hm=>(an.new _ hm).elim (fun hm=>Ey) (fun h9=>by omega)
  have gh:=a0.trans an
  have j9:(T.put (⟨((2:Nat):Int),(0:Int),(0:Int),ex.num⟩:Am) (ex.num)).vals.length=T.vals.length+1:=H8 _ _ _
  have ja:(T.put (⟨((2:Nat):Int),(0:Int),(0:Int),ex.num⟩:Am) (ex.num)).grd.length=T.grd.length:=rfl
  refine Ae 1 Z<|A3<|AM<|At ?_
  exact Al [6] Z (zI (T.vals.length:Int)) Z ⟨(T.vals.length:Int),_,T.put (⟨((2:Nat):Int),(0:Int),(0:Int),ex.num⟩:Am)<|ex.num,s0+1,c0,rfl,gh,⟨_,_,_,ge,gf⟩,⟨EJ,oM⟩,EI,oM,EH⟩
 refine Av false Z Z (A8 d6) Ac<|Ae 1 Z<|Ak Z<|fQ [0,0] Z ?_
 by_cases d8:ex.kind=((2:Nat):Int)
 ·refine Av true Z Z (A7 d8) Ac<|Ae 1 Z<|Ah Z<|fQ [0,0,2,0,2,0] Z ?_
  have hwk:=SW hwf oM
  have hRv:=ax ex.num.toNat oM
  refine Af 1 Z<|Ao (p:=zP w.heap.size) 1 Cc Z Z Ac<|Ai (p:=Au (zP w.heap.size) 1) (.inr Z) (zI ex.num) AG Z (ac.ldp (i:=1) sM) Ac<|AH (v:=vv) ((ex.num).toNat) Bu BL Z Z henv.slL oM oM Ac ?_
  have da:=RN.getI (w:=w) (k:=(ex.num).toNat) henv oM
  refine Ai (p:=AE vv ((ex.num).toNat) 1) (.inr Z) (zI<|env.getD ((ex.num).toNat) 0) AG Z (da.1 _ a4) Ac<|Ae 1 Z<|A3<|AM<|At ?_
  exact Al [6] Z (zI<|env.getD ((ex.num).toNat) 0) Z ⟨env.getD ((ex.num).toNat) 0,_,T,s0+1,c0,rfl,a0,⟨_,_,_,aw,b1⟩,⟨EJ,oM⟩,EI,da.2,EH⟩
 refine Av false Z Z (A8 d8) Ac<|Ae 1 Z<|Ak Z<|fQ [0,0] Z ?_
 by_cases db:ex.kind=((8:Nat):Int)
 ·refine Av true Z Z (A7 db) Ac<|Ae 1 Z<|Ah Z<|fQ [0,0,2,0,2,0,4,0] Z ?_
  have hwk:=X8 hwf oM
  refine Af 1 Z<|Ao (p:=zP w.heap.size) 4 Bv Z Z Ac<|Ai (p:=Au (zP w.heap.size) 4) (.inr Z) ve BG Z (ac.ldp (i:=4) sM) Ac<|AH (v:=ve) 0 DS BM Z Z hex.rn.isSl Z sD Ac ?_
  obtain⟨cs28,gi,gj⟩:=hex.rn.get (AL dex) Ex.zero (k:=0) sD
  obtain⟨dd28,cc,ki,rfl,cd⟩:=RX.of gi
  have dc:=cd.rn.lenle
  unfold maxLen at dc
  refine AC (p:=AE ve 0 5) (.inr Z) [zI<|(ex.kids.getD 0 Ex.zero).kind,zI<|(ex.kids.getD 0 Ex.zero).num,zI<|(ex.kids.getD 0 Ex.zero).pick,zI<|(ex.kids.getD 0 Ex.zero).count,cc] Bq Z (fun l7 ce=>gj l7<|a4.ext ce) Z Ac<|Af 1 Z ?_
  refine AK 117 [] [] [zP g,.agg #[zI<|(ex.kids.getD 0 Ex.zero).kind,zI<|(ex.kids.getD 0 Ex.zero).num,zI<|(ex.kids.getD 0 Ex.zero).pick,zI<|(ex.kids.getD 0 Ex.zero).count,cc],vv] Z Z LF Ac (IH2 dd28 oM _ S g vp dp ip (s0+1) (c0) p (T) cc (ex.kids.getD 0 Ex.zero) vv (env) (fun b hb=>(a0.lt b hb:b<fd.heap.size)) (a0.sub _ hgS) ⟨_,_,_,aw,b1⟩ (RN.stp (Aq<|AR dp) hp a4 a0.new) _hip oM oM Hk ⟨cd.rng,RN.stp (Aq<|AL dd28) cd.rn a4 a0.new⟩ (RN.stp g1 henv a4 a0.new) hqenv hvp oM (by exact HL hwf oM oM) (zH<|ET (l:=ex.kids) (k:=0) oM) (by exact fun _=>ax)) ?_
  rintro nl l6 ⟨f1,m2,f2,ly,lb,rfl,ao,⟨li,vg29,vv29,b4,b5⟩,dd,de,df,dg⟩
  refine⟨_,rfl,?_⟩
  have jb:fd.heap.size≤l6.heap.size:=ao.chg.size
  have dh:AB S w l6:=a4.stp ao.chg a0.new
  have di:=ac.chg ao.chg fun hm=>Ey
  have b6:w.heap.size∉m2:=fun hm=>(ao.new _ hm).elim (fun hm=>Ey) (fun h9=>by omega)
  have bi:=a0.trans ao
  have jc:=dd.bnd
  have jd:=dd.num
  have gk:=de
  have hL1:=dg
  refine Ae 1 Z<|A0<|fQ [0,0,0,2,0] Z<|Af 1 Z<|Bf Z Ac<|Ao (p:=zP g) 7 FA Z Z Ac<|Ai (p:=Au (zP g) 7) (.inr Z) (zI lb) AG Z (b4.ldp (i:=7) sM) Ac ?_
  by_cases dj:lb≠((0:Nat):Int)
  ·refine Be true Z Z (A7 dj) Ac<|Aj<|Ah Z<|fR Z<|A3<|At<|AM<|At ?_
   exact Al [6] Z (zI ((0:Nat):Int)) Z ⟨((0:Nat):Int),_,f2,ly,lb,rfl,bi,⟨_,_,_,b4,b5⟩,⟨EJ,oM⟩,EI,oM,EH⟩
  refine Be false Z Z (A8 dj) Ac<|Aj<|Ak Z<|A4<|fQ [0,0,0,2,0,0,2,0,0] Z ?_
  have hR1c:=gk oM
  refine Af 1 Z<|Bf Z Ac<|Ao (p:=zP g) 5 E5 Z Z Ac<|Ai (p:=Au (zP g) 5) (.inr Z) vv29 BN Z (b4.ldp (i:=5) sM) Ac<|Af 1 Z<|AH (v:=vv29) ((f1).toNat) Bu BL Z Z (CL.slv b5) oM oM Ac (Ai (p:=AE vv29 ((f1).toNat) 1) (.inr Z) (zI<|f2.vals.getD ((f1).toNat) 0) AG Z ((CL.rdv b5).getI oM).1 Ac (Av (decide (f2.vals.getD ((f1).toNat) 0=((0:Nat):Int))) Z Z Z Ac<|Ae 1 Z<|A0 ?_))
  obtain⟨Fc38,Fg38,Fv38,b7,dk,b8,ap,az,dl,bt,dm⟩:=id b5
  refine Ad _ [0,0,0,0,0,2,0,0,0,3,4,0,0,0,4] Z<|Af 2 Z<|Bf Z Ac<|Ao (p:=zP g) 1 G8 Z Z Ac<|Ao (p:=Au (zP g) 1) (b:=g) (o:=1) 2 DT Z Z Ac<|Ai (p:=Au (Au (zP g) 1) 2) (.inr Z) vg29 GM Z (b4.ldp (i:=3) sM) Ac<|Af 2 Z ?_
  have dn:∀(wq:World),(Instr.build 107 #[(0,zI f1),(1,.bool (decide (f2.vals.getD ((f1).toNat) 0=((0:Nat):Int))))]).run Tryz.prog wq=.ok (.agg #[zI f1,.bool (decide (f2.vals.getD ((f1).toNat) 0=((0:Nat):Int)))]) wq:=by intro wq;kernel_rfl
  refine Ch (ps:=#[(0,zI f1),(1,.bool<|decide (f2.vals.getD ((f1).toNat) 0=((0:Nat):Int)))]) (.agg #[zI f1,.bool<|decide (f2.vals.getD ((f1).toNat) 0=((0:Nat):Int))]) (by simp only[zc,zf,zh];rfl) (fun wq=>dn  wq) Ac (Ct (cs:=[zI f1,.bool<|decide (f2.vals.getD ((f1).toNat) 0=((0:Nat):Int))]) (y:=(⟨f1,decide (f2.vals.getD ((f1).toNat) 0=((0:Nat):Int))⟩:Bt)) (B:=l6.heap.size) As Ky Ed Z (by decide) Z (PF (x:=(⟨f1,decide (f2.vals.getD ((f1).toNat) 0=((0:Nat):Int))⟩:Bt)) (B:=l6.heap.size) (U:=l6.heap.size) df) (A9 _) Ac fun mt m3 a7 kj gl=>?_)
  have je:l6.heap.size≤m3.heap.size:=a7.size
  have kk:AB S w m3:=dh.ext a7
  have bj:=b4.ext a7
  have g4:=di.ext a7
  have kl:=(CL.rdv b5).ext g1 a7
  have gm:=bi.ext a7
  have hOc38x:=b7.ext (An Ap) a7
  have hOg38x:=dk.ext (An As) a7
  have hOv38x:=b8.ext (Bc AN) a7
  refine Nt (v:=vg29) (a:=mt) As Ky Ed Z (by decide) Z Z hOg38x gl (A9 _) (Nat.zero_le _) (Nat.zero_le _) oM (by unfold maxLen;omega) Ac fun me l8 mf b9 dq bk=>?_
  have dr:m3.heap.size≤l8.heap.size:=b9.size
  obtain⟨lj,bu⟩:∃l:List Nat,l=mf++m2:=⟨_,rfl⟩
  have aq:FW m2 lj l6 l8:=by rw[bu];exact⟨fun b hb=>z1 _ hb,fun b hb=>by rcases zi.1 hb with hb|hb;(rcases bk b hb with h9|h9|h9;exact .inl (bt b h9);(have:=a7.size;omega);(have:=a7.size;omega));exact .inl hb,fun b hb=>by rcases zi.1 hb with hb|hb;exact dq.high b hb;(have:=gm.lt b hb;omega),(AB.of_ext _ a7).trans (b9.sub bt)⟩
  have ds:CL 52 107 2 lj g l8.heap li me vv29 (f2.guard (f1) (decide (f2.vals.getD ((f1).toNat) 0=((0:Nat):Int)))):=⟨Fc38,mf,Fv38,(hOc38x.up a7.size).chgS (An Ap) b9 (fun b hb hm=>ap.1 b hm hb),dq,(hOv38x.up a7.size).chgS (Bc AN) b9 (fun b hb hm=>ap.2.2 b hb hm),⟨fun b hb hm=>by rcases bk b hm with h9|h9|h9;exact ap.1 b hb h9;(have:=b7.high b hb;omega);(have:=b7.high b hb;have:=a7.size;omega),ap.2.1,fun b hm hb=>by rcases bk b hm with h9|h9|h9;exact ap.2.2 b h9 hb;(have:=b8.high b hb;omega);(have:=b8.high b hb;have:=a7.size;omega)⟩,⟨az.1,fun hm=>by rcases bk g hm with h9|h9|h9;exact az.2.1 h9;omega;omega,az.2.2⟩,by rw[bu];exact⟨fun b hb=>z1 _ (dl b hb),fun b hb=>z8 _ hb,fun b hb=>z1 _ (dm b hb)⟩⟩
  have gn:=bj.chg b9 az.2.1
  have dr:l6.heap.size≤l8.heap.size:=aq.chg.size
  have gp:AB S w l8:=dh.stp aq.chg bi.new
  have gq:=di.chg aq.chg fun hm=>b6 hm
  have al:w.heap.size∉lj:=fun hm=>(aq.new _ hm).elim (fun hm=>b6 hm) (fun h9=>by omega)
  have gr:=bi.trans aq
  have jf:(f2.guard (f1) (decide (f2.vals.getD ((f1).toNat) 0=((0:Nat):Int)))).vals.length=f2.vals.length:=rfl
  have jg:(f2.guard (f1) (decide (f2.vals.getD ((f1).toNat) 0=((0:Nat):Int)))).grd.length=f2.grd.length+1:=OL _ _ _
  refine Bf Z Ac<|Ao (p:=zP g) 1 G8 Z Z Ac<|Ao (p:=Au (zP g) 1) (b:=g) (o:=1) 2 DT Z Z Ac (Bn (k:=3) (w:=l8) Zm Z Z (AT ds.slg) gn sM Ac fun l9 ba km bl=>?_)
  replace bl:BX l9.heap g [vp,zI ip,li,me,zN,vv29,zI (ly:Int),zI lb]:=bl
  have ah:AB S w l9:=gp.trans (ba.sub (Bo hgS))
  have dt:=CL.chg ds ba
  have aa:=gr.set hgS ba
  have jh:l8.heap.size≤l9.heap.size:=ba.size
  have bm:=gq.chg ba (zB ·)
  refine Aj<|A0<|fQ [0] Z<|Ae 1 Z ?_
  cases bn:(decide (f2.vals.getD ((f1).toNat) 0=((0:Nat):Int)))
  ·have ji:=of_decide_eq_false bn
   refine Ak (by first|rfl|exact zW bn)<|A4<|fQ [0,0,2,0,2,0,4,0] Z<|Af 1 Z<|Ao (p:=zP w.heap.size) 4 Bv Z Z Ac<|Ai (p:=Au (zP w.heap.size) 4) (.inr Z) ve BG Z (bm.ldp (i:=4) sM) Ac<|AH (v:=ve) 2 DS BM Z Z hex.rn.isSl Z sD Ac ?_
   obtain⟨cs60,gs,gt⟩:=hex.rn.get (AL dex) Ex.zero (k:=2) sD
   obtain⟨dd60,cf,kn,rfl,cg⟩:=RX.of gs
   have du:=cg.rn.lenle
   unfold maxLen at du
   refine AC (p:=AE ve 2 5) (.inr Z) [zI<|(ex.kids.getD 2 Ex.zero).kind,zI<|(ex.kids.getD 2 Ex.zero).num,zI<|(ex.kids.getD 2 Ex.zero).pick,zI<|(ex.kids.getD 2 Ex.zero).count,cf] Bq Z (fun l7 ce=>gt l7<|ah.ext ce) Z Ac<|Af 1 Z ?_
   refine AK 117 [] [] [zP g,.agg #[zI<|(ex.kids.getD 2 Ex.zero).kind,zI<|(ex.kids.getD 2 Ex.zero).num,zI<|(ex.kids.getD 2 Ex.zero).pick,zI<|(ex.kids.getD 2 Ex.zero).count,cf],vv] Z Z LF Ac (IH2 dd60 oM _ lj g vp dp ip (ly) (lb) p (f2.guard (f1)<|decide (f2.vals.getD ((f1).toNat) 0=((0:Nat):Int))) cf (ex.kids.getD 2 Ex.zero) vv (env) (fun b hb=>(aa.lt b hb:b<l9.heap.size)) (aa.sub _ hgS) ⟨_,_,_,bl,dt⟩ (RN.stp (Aq<|AR dp) hp ah aa.new) _hip oM oM Hk ⟨cg.rng,RN.stp (Aq<|AL dd60) cg.rn ah aa.new⟩ (RN.stp g1 henv ah aa.new) hqenv hvp oM (by exact HL hwf oM oM) (zH<|ET (l:=ex.kids) (k:=2) oM) (by exact fun _=>ax.mono (by simp only[OK];omega))) ?_
   rintro nm mg ⟨mh,mu,mv,mw,mx,rfl,ar,⟨my,vg61,vv61,gu,gv⟩,dv,dw,dx,dy⟩
   refine⟨_,rfl,?_⟩
   have jj:l9.heap.size≤mg.heap.size:=ar.chg.size
   have ko:AB S w mg:=ah.stp ar.chg aa.new
   have kp:=bm.chg ar.chg fun hm=>al hm
   have gw:w.heap.size∉mu:=fun hm=>(ar.new _ hm).elim (fun hm=>al hm) (fun h9=>by omega)
   have gx:=aa.trans ar
   have jk:=dv.bnd
   have jl:=dv.num
   have hRv:=dw
   have hL2:=dy
   refine Ae 1 Z<|A3<|AM<|At ?_
   exact Al [6] Z (zI mh) Z ⟨mh,_,mv,mw,mx,rfl,gx,⟨_,_,_,gu,gv⟩,⟨EJ,oM⟩,EI,dx,EH⟩
  have jm:=of_decide_eq_true bn
  refine Ah (by first|rfl|exact zW bn)<|fQ [0,0,2,0,2,0,4,0] Z<|Af 1 Z<|Ao (p:=zP w.heap.size) 4 Bv Z Z Ac<|Ai (p:=Au (zP w.heap.size) 4) (.inr Z) ve BG Z (bm.ldp (i:=4) sM) Ac<|AH (v:=ve) 1 DS BM Z Z hex.rn.isSl Z sD Ac ?_
  obtain⟨cs72,gy,gz⟩:=hex.rn.get (AL dex) Ex.zero (k:=1) sD
  obtain⟨dd72,ch,kq,rfl,ci⟩:=RX.of gy
  have dz:=ci.rn.lenle
  unfold maxLen at dz
  refine AC (p:=AE ve 1 5) (.inr Z) [zI<|(ex.kids.getD 1 Ex.zero).kind,zI<|(ex.kids.getD 1 Ex.zero).num,zI<|(ex.kids.getD 1 Ex.zero).pick,zI<|(ex.kids.getD 1 Ex.zero).count,ch] Bq Z (fun l7 ce=>gz l7<|ah.ext ce) Z Ac<|Af 1 Z ?_
  refine AK 117 [] [] [zP g,.agg #[zI<|(ex.kids.getD 1 Ex.zero).kind,zI<|(ex.kids.getD 1 Ex.zero).num,zI<|(ex.kids.getD 1 Ex.zero).pick,zI<|(ex.kids.getD 1 Ex.zero).count,ch],vv] Z Z LF Ac (IH2 dd72 oM _ lj g vp dp ip (ly) (lb) p (f2.guard (f1)<|decide (f2.vals.getD ((f1).toNat) 0=((0:Nat):Int))) ch (ex.kids.getD 1 Ex.zero) vv (env) (fun b hb=>(aa.lt b hb:b<l9.heap.size)) (aa.sub _ hgS) ⟨_,_,_,bl,dt⟩ (RN.stp (Aq<|AR dp) hp ah aa.new) _hip oM oM Hk ⟨ci.rng,RN.stp (Aq<|AL dd72) ci.rn ah aa.new⟩ (RN.stp g1 henv ah aa.new) hqenv hvp oM (by exact HL hwf oM oM) (zH<|ET (l:=ex.kids) (k:=1) oM) (by exact fun _=>ax.mono (by simp only[OK];omega))) ?_
  rintro nn mi ⟨mj,mz,n0,n1,n2,rfl,au,⟨n3,vg73,vv73,i0,i1⟩,e0,e1,e2,e3⟩
  refine⟨_,rfl,?_⟩
  have jn:l9.heap.size≤mi.heap.size:=au.chg.size
  have kr:AB S w mi:=ah.stp au.chg aa.new
  have kt:=bm.chg au.chg fun hm=>al hm
  have i2:w.heap.size∉mz:=fun hm=>(au.new _ hm).elim (fun hm=>al hm) (fun h9=>by omega)
  have i3:=aa.trans au
  have jo:=e0.bnd
  have jp:=e0.num
  have hRv:=e1
  have hL2:=e3
  refine Ae 1 Z<|A3<|At<|AM<|At ?_
  exact Al [6] Z (zI mj) Z ⟨mj,_,n0,n1,n2,rfl,i3,⟨_,_,_,i0,i1⟩,⟨EJ,oM⟩,EI,e2,EH⟩
 refine Av false Z Z (A8 db) Ac<|Ae 1 Z<|Ak Z<|fQ [0,0] Z ?_
 by_cases e4:ex.kind=((9:Nat):Int)
 ·refine Av true Z Z (A7 e4) Ac<|Ae 1 Z<|Ah Z<|A0 ?_
  letI:JR:=Qr S
  refine Jx.B7 _ [0,0,1,0,1,0,0,0,0,1,0,1,0,3,3,3,4,0] mixed (by kernel_rfl) ?_
  have hwk:=SX hwf oM
  refine Jx.Yc (zP g) Z Ac<|Jx.Ao (p:=zP w.heap.size) 4 Bv Z Z Ac<|Jx.eB (p:=Au (zP w.heap.size) 4) ve BG Z (fun wj hj=>(BX.chg (w:=fd.drew) (F:=S) ac hj fun hm=>zH<|hS _ hm).ldp (i:=4) sM) Ac<|Jx.AH (v:=ve) 1 DS BM Z Z hex.rn.isSl Z sD Ac ?_
  obtain⟨cs84,i4,i5⟩:=hex.rn.get (AL dex) Ex.zero (k:=1) sD
  obtain⟨dd84,cj,ku,rfl,ck⟩:=RX.of i4
  have e5:=ck.rn.lenle
  unfold maxLen at e5
  refine Jx.ZU (p:=AE ve 1 5) [zI<|(ex.kids.getD 1 Ex.zero).kind,zI<|(ex.kids.getD 1 Ex.zero).num,zI<|(ex.kids.getD 1 Ex.zero).pick,zI<|(ex.kids.getD 1 Ex.zero).count,cj] Bq Z (fun wj hj=>i5 wj<|AB.trans a4.drew (show AB S fd.drew wj from hj)) Z Ac<|Jx.Yc vv Z Ac<|Jx.AF 171 [] [] [vv] Z Z cO Ac (Jm vv) (fun wq=>Fm wq vv _ henv.slL hqenv)<|Jx.Yc (zP g) Z Ac<|Jx.Ao (p:=zP w.heap.size) 4 Bv Z Z Ac<|Jx.eB (p:=Au (zP w.heap.size) 4) ve BG Z (fun wj hj=>(BX.chg (w:=fd.drew) (F:=S) ac hj fun hm=>zH<|hS _ hm).ldp (i:=4) sM) Ac ?_
  refine Jx.AH (v:=ve) 0 DS BM Z Z hex.rn.isSl Z sD Ac ?_
  obtain⟨cs85,i6,i7⟩:=hex.rn.get (AL dex) Ex.zero (k:=0) sD
  obtain⟨dd85,cl,kv,rfl,cm⟩:=RX.of i6
  have e6:=cm.rn.lenle
  unfold maxLen at e6
  refine Jx.ZU (p:=AE ve 0 5) [zI<|(ex.kids.getD 0 Ex.zero).kind,zI<|(ex.kids.getD 0 Ex.zero).num,zI<|(ex.kids.getD 0 Ex.zero).pick,zI<|(ex.kids.getD 0 Ex.zero).count,cl] Bq Z (fun wj hj=>i7 wj<|AB.trans a4.drew (show AB S fd.drew wj from hj)) Z Ac<|Jx.Yc vv Z Ac ?_
  refine Jx.Ay 117 [] [] [zP g,.agg #[zI<|(ex.kids.getD 0 Ex.zero).kind,zI<|(ex.kids.getD 0 Ex.zero).num,zI<|(ex.kids.getD 0 Ex.zero).pick,zI<|(ex.kids.getD 0 Ex.zero).count,cl],vv] Z Z LF Ac (IH2 dd85 oM _ S g vp dp ip (s0+1) (c0) p (T) cl (ex.kids.getD 0 Ex.zero) vv (env) (fun b hb=>(a0.drew.lt b hb:b<fd.heap.size)) (a0.drew.sub _ hgS) ⟨_,_,_,aw,b1⟩ (RN.stp (Aq<|AR dp) hp a4.drew a0.drew.new) _hip oM oM Hk ⟨cm.rng,RN.stp (Aq<|AL dd85) cm.rn a4.drew a0.drew.new⟩ (RN.stp g1 henv a4.drew a0.drew.new) hqenv hvp oM (by exact HL hwf oM oM) (zH<|ET (l:=ex.kids) (k:=0) oM) (by exact fun _=>ax)) ?_
  rintro no lc ⟨lz,ml,n4,n5,n6,rfl,ad,⟨n7,vg86,vv86,i8,i9⟩,e7,e8,e9,ea⟩
  refine⟨_,rfl,ad.chg,?_⟩
  replace ad:=ad.of_drew
  have jq:fd.heap.size≤lc.heap.size:=ad.chg.size
  have ia:AB S w lc:=a4.stp ad.chg a0.new
  have ib:=ac.chg ad.chg fun hm=>Ey
  have bb:w.heap.size∉ml:=fun hm=>(ad.new _ hm).elim (fun hm=>Ey) (fun h9=>by omega)
  have ic:=a0.trans ad
  have jr:=e7.bnd
  have js:=e7.num
  have gk:=e8
  have hL1:=ea
  refine Jx.eY<|BQ (u:=zI lz) (B:=lc.heap.size) BY Bu BL Z Z (Qo lc.heap.size lc.heap.size _ ⟨rfl,rfl⟩) (A9 _) Ac ?_
  intro n8 m0 b2 kw ie
  refine Aj ?_
  have jt:lc.heap.size≤m0.heap.size:=b2.size
  have eb:AB S w m0:=ia.ext b2
  have bo:=i8.ext b2
  have bp:=ib.ext b2
  have ig:=CL.ext i9 b2
  have cn:=ic.ext b2
  refine Jx.fV<|V9 (v:=vv) (a:=n8) (u:=zI<|lz) (r:=lz) Bu BL Z Z Z (RN.stp g1 henv eb cn.new) ie ⟨[],⟨rfl,rfl,e9⟩,fun b hb=>by cases hb⟩ (fun b hb=>(cn.lt b hb:b<m0.heap.size)) oM (by unfold maxLen;omega) Ac ?_
  intro mm m1 ay ec ed
  refine Aj ⟨JR.ext ay,?_⟩
  have ju:m0.heap.size≤m1.heap.size:=ay.size
  have co:AB S w m1:=eb.ext ay
  have bq:=bo.ext ay
  have br:=bp.ext ay
  have ih:=CL.ext ig ay
  have b3:=cn.ext ay
  refine Jx.V2 Z ?_
  refine AK 117 [] [] [zP g,.agg #[zI<|(ex.kids.getD 1 Ex.zero).kind,zI<|(ex.kids.getD 1 Ex.zero).num,zI<|(ex.kids.getD 1 Ex.zero).pick,zI<|(ex.kids.getD 1 Ex.zero).count,cj],mm] Z Z LF Ac (IH2 dd84 oM _ ml g vp dp ip (n5) (n6) p (n4) cj (ex.kids.getD 1 Ex.zero) mm (env++[lz]) (fun b hb=>(b3.lt b hb:b<m1.heap.size)) (b3.sub _ hgS) ⟨_,_,_,bq,ih⟩ (RN.stp (Aq<|AR dp) hp co b3.new) _hip oM oM Hk ⟨ck.rng,RN.stp (Aq<|AL dd84) ck.rn co b3.new⟩ ec ed hvp oM (by have h9:=Py hwf oM oM;rw[z4,zd];exact h9) (by have:=ET (l:=ex.kids) (k:=1) oM;rw[z4,zd];omega) (by exact fun h9=>IT.snoc (ax.mono oM)<|gk h9)) ?_
  rintro np mn ⟨mo,n9,na,nb,nc,rfl,af,⟨nd,vg99,vv99,ii,ij⟩,ee,ef,eg,eh⟩
  refine⟨_,rfl,?_⟩
  have jv:m1.heap.size≤mn.heap.size:=af.chg.size
  have kx:AB S w mn:=co.stp af.chg b3.new
  have jw:=br.chg af.chg fun hm=>bb hm
  have g5:w.heap.size∉n9:=fun hm=>(af.new _ hm).elim (fun hm=>bb hm) (fun h9=>by omega)
  have jx:=RN.stp g1 ec af.chg af.new
  have ik:=b3.trans af
  have jy:=ee.bnd
  have jz:=ee.num
  have hRv:=ef
  have hL2:=eh
  refine Ae 1 Z<|A3<|AM<|At ?_
  exact Al [6] Z (zI mo) Z ⟨mo,_,na,nb,nc,rfl,ik,⟨_,_,_,ii,ij⟩,⟨EJ,oM⟩,EI,eg,EH⟩
 refine Av false Z Z (A8 e4) Ac<|Ae 1 Z<|Ak Z<|A4<|fQ [0,0,2,0,4,0] Z ?_
 have hkg:ex.kind≠1∧ex.kind≠2∧ex.kind≠8∧ex.kind≠9:=by omega
 have l1:=Yw hwf hvp hF
 refine Af 1 Z<|Ao (p:=zP w.heap.size) 4 Bv Z Z Ac<|Ai (p:=Au (zP w.heap.size) 4) (.inr Z) ve BG Z (ac.ldp (i:=4) sM) Ac<|Af 1 Z ?_
 refine AK 55 [] [] [zP g,ve,vv] Z Z Zk Ac (Qg F dex (fun d9 h9=>IH2 d9 oM) _ S g vp dp ip (s0+1) (c0) p (T) ve (ex.kids) vv (env) (fun b hb=>(a0.lt b hb:b<fd.heap.size)) (a0.sub _ hgS) ⟨_,_,_,aw,b1⟩ (RN.stp (Aq<|AR dp) hp a4 a0.new) _hip oM oM Hk (RN.stp (Aq<|AL dex) hex.rn a4 a0.new) (RN.stp g1 henv a4 a0.new) hqenv hvp oM (by intro k hk;exact HL hwf hk oM) (by intro k hk;have:=ET (l:=ex.kids) (k:=k) hk;omega) oM (by exact fun _=>ax)) ?_
 rintro nf fe ⟨fx,f3,l3,l4,fr,fs,rfl,ag,⟨lk,vg109,vv109,aj,av⟩,bv,ei,bc,cp,cq,cr⟩
 refine⟨_,rfl,?_⟩
 have ct:fd.heap.size≤fe.heap.size:=ag.chg.size
 have a8:AB S w fe:=a4.stp ag.chg a0.new
 have ae:=ac.chg ag.chg fun hm=>Ey
 have ab:w.heap.size∉l3:=fun hm=>(ag.new _ hm).elim (fun hm=>Ey) (fun h9=>by omega)
 have a1:=a0.trans ag
 have il:=bv.bnd
 have im:=bv.num
 have hKr:=cr
 have hKb:=cq
 have hKl:=cp
 have am:=ei.rn
 refine Ae 1 Z<|A0<|fQ [0,0,0,2,0] Z<|Af 1 Z<|Bf Z Ac<|Ao (p:=zP g) 7 FA Z Z Ac<|Ai (p:=Au (zP g) 7) (.inr Z) (zI fs) AG Z (aj.ldp (i:=7) sM) Ac ?_
 by_cases bw:fs≠((0:Nat):Int)
 ·refine Be true Z Z (A7 bw) Ac<|Aj<|Ah Z<|fR Z<|A3<|At ?_
  exact Al [6] Z (zI ((0:Nat):Int)) Z ⟨((0:Nat):Int),_,l4,fr,fs,rfl,a1,⟨_,_,_,aj,av⟩,⟨EJ,oM⟩,EI,oM,EH⟩
 refine Be false Z Z (A8 bw) Ac<|Aj<|Ak Z<|A4<|A0<|fQ [0,2] Z<|Ao (p:=zP w.heap.size) 0 Bz Z Z Ac<|Ai (p:=Au (zP w.heap.size) 0) (.inr Z) (zI ex.kind) AG Z (ae.ldp (i:=0) sM) Ac<|Aj<|A5<|fQ [0,0] Z ?_
 by_cases bx:ex.kind=((10:Nat):Int)
 ·refine Av true Z Z (A7 bx) Ac<|Ae 1 Z<|Ah Z<|A0<|B7 _ [0,0,0,0,0,1,0,1,0,0,1,0,1,0,1,0,4,0] mixed (by kernel_rfl) ?_
  have hwk:=KQ hwf oM
  refine Af 2 Z ?_
  have hvo:=hvp.outs (ex.num).toNat oM
  have hvd:=hvp.deep (ex.num).toNat oM (ex.pick).toNat oM
  refine Bf Z Ac<|Ao (p:=zP g) 0 Ru Z Z Ac<|Ao (p:=Au (zP g) 0) (b:=g) (o:=0) 0 C8 Z Z Ac<|Ai (p:=Au (Au (zP g) 0) 0) (.inl Z) vp CO Z (aj.ldp (i:=0) sM) Ac<|Ao (p:=zP w.heap.size) 1 Cc Z Z Ac<|Ai (p:=Au (zP w.heap.size) 1) (.inl Z) (zI ex.num) AG Z (ae.ldp (i:=1) sM) Ac ?_
  refine AH (v:=vp) ((ex.num).toNat) Im DJ Z Z hp.isSl oM sD Ac ?_
  obtain⟨cs118,ej,bz⟩:=hp.get (AR dp) Fn.zero (k:=(ex.num).toNat) sD
  obtain⟨bd,rfl,be⟩:=RF.of ej
  have cu:=be.rn.lenle
  unfold maxLen at cu
  refine AP (p:=AE vp ((ex.num).toNat) 3) 2 Cv Z (bz _ a8.drew) Ac<|Ai (p:=Au (AE vp ((ex.num).toNat) 3) 2) (.inl Z) bd BG Z ((bz _ a8.drew).ld (i:=2) (by simp[Ge,Gf])) Ac<|Ao (p:=zP w.heap.size) 2 Et Z Z Ac<|Ai (p:=Au (zP w.heap.size) 2) (.inl Z) (zI ex.pick) AG Z (ae.ldp (i:=2) sM) Ac ?_
  refine AH (v:=bd) ((ex.pick).toNat) DS BM Z Z be.rn.isSl oM sD Ac ?_
  obtain⟨cs119,ek,el⟩:=be.rn.get (AL dp) Ex.zero (k:=(ex.pick).toNat) sD
  obtain⟨dd119,bf,k0,rfl,bg⟩:=RX.of ek
  have cv:=bg.rn.lenle
  unfold maxLen at cv
  refine AC (p:=AE bd ((ex.pick).toNat) 5) (.inl Z) [zI<|(((p.getD ((ex.num).toNat) Fn.zero).outs).getD ((ex.pick).toNat) Ex.zero).kind,zI<|(((p.getD ((ex.num).toNat) Fn.zero).outs).getD ((ex.pick).toNat) Ex.zero).num,zI<|(((p.getD ((ex.num).toNat) Fn.zero).outs).getD ((ex.pick).toNat) Ex.zero).pick,zI<|(((p.getD ((ex.num).toNat) Fn.zero).outs).getD ((ex.pick).toNat) Ex.zero).count,bf] Bq Z (fun l7 ce=>el l7<|a8.drew.ext ce) Z Ac<|Af 1 Z ?_
  refine AK 117 [] [] [zP g,.agg #[zI<|(((p.getD ((ex.num).toNat) Fn.zero).outs).getD ((ex.pick).toNat) Ex.zero).kind,zI<|(((p.getD ((ex.num).toNat) Fn.zero).outs).getD ((ex.pick).toNat) Ex.zero).num,zI<|(((p.getD ((ex.num).toNat) Fn.zero).outs).getD ((ex.pick).toNat) Ex.zero).pick,zI<|(((p.getD ((ex.num).toNat) Fn.zero).outs).getD ((ex.pick).toNat) Ex.zero).count,bf],fx] Z Z LF Ac (IH1 (ex.num).toNat oM dd119 _ l3 g vp dp ip (fr) (fs) p (l4) bf (((p.getD ((ex.num).toNat) Fn.zero).outs).getD ((ex.pick).toNat) Ex.zero) fx (f3) (fun b hb=>(a1.drew.lt b hb:b<fe.heap.size)) (a1.drew.sub _ hgS) ⟨_,_,_,aj,av⟩ (RN.stp (Aq<|AR dp) hp a8.drew a1.drew.new) _hip oM oM Hk ⟨bg.rng,RN.stp (Aq<|AL dd119) bg.rn a8.drew a1.drew.new⟩ am bc hvp oM (by have h9:=hvp.wf (ex.num).toNat oM (ex.pick).toNat oM;rw[show(f3.length:Int)=(p.getD (ex.num).toNat Fn.zero).params from by omega];exact h9) oM hKb) ?_
  rintro ng ll ⟨lm,m4,m5,m6,m7,rfl,a2,⟨mp,vg120,vv120,em,en⟩,c2,cw,cx,cy⟩
  refine⟨_,rfl,?_⟩
  replace a2:=a2.of_drew
  have io:fe.heap.size≤ll.heap.size:=a2.chg.size
  have k1:AB S w ll:=a8.stp a2.chg a1.new
  have k2:=ae.chg a2.chg fun hm=>ab hm
  have g6:w.heap.size∉m4:=fun hm=>(a2.new _ hm).elim (fun hm=>ab hm) (fun h9=>by omega)
  have k3:=RN.stp g1 am a2.chg a2.new
  have eo:=a1.trans a2
  have iq:=c2.bnd
  have ir:=c2.num
  have hRv:=cw
  have hL2:=cy
  refine Ae 1 Z<|A3<|AM<|At ?_
  exact Al [6] Z (zI lm) Z ⟨lm,_,m5,m6,m7,rfl,eo,⟨_,_,_,em,en⟩,⟨EJ,oM⟩,EI,cx,EH⟩
 refine Av false Z Z (A8 bx) Ac<|Ae 1 Z<|Ak Z<|fQ [0,0] Z ?_
 by_cases c3:ex.kind=((11:Nat):Int)
 ·refine Av true Z Z (A7 c3) Ac<|Ae 1 Z<|Ah Z<|A0<|fQ [0] Z ?_
  have hwk:=KQ hwf oM
  have hwl:=QN hwf oM
  refine Ae 1 Z<|A5 ?_
  have hMs:=av
  have hGs:=a1
  have hns:w.heap.size∉l3:=fun hm=>ab hm
  refine B8 (S:=Nat×Value×Sr×List Nat×Tp×Nat×Int×Value×Value×Value) (fun⟨i,vk,ks,S9,T9,s9,c9,lo,vg9,vv9⟩=>([(9,vk),(10,zI (i:Int)),(0,zP g),(4,zP w.heap.size)])) (fun⟨i,vk,ks,S9,T9,s9,c9,lo,vg9,vv9⟩ W=>AB S w W∧BX W.heap g [vp,zI ip,lo,vg9,zN,vv9,zI (s9:Int),zI c9]∧BX W.heap w.heap.size [zI ex.kind,zI ex.num,zI ex.pick,zI ex.count,ve]∧i≤(ex.count).toNat∧w.heap.size∉S9∧FW S S9 w W∧CL 52 107 2 S9 g W.heap lo vg9 vv9 T9∧Xf T T9 s0 s9 c9∧RN S9 (Bl rI) W.heap vk ks∧Dm vk∧ks.length=(p.getD (ex.num).toNat Fn.zero).outs.length∧(c9=0→IT T9 ks)∧AY (IR (fun a t U=>Id (Kx p (ex.num).toNat) (p.getD (ex.num).toNat Fn.zero).outs a t U) i f3 fr l4) (ks,T9) s9 c9) (fun⟨i,vk,ks,S9,T9,s9,c9,lo,vg9,vv9⟩=>(ex.count).toNat-i) (0,fx,f3,l3,l4,fr,fs,lk,vg109,vv109) ⟨rfl,rfl,rfl,rfl,trivial⟩ ⟨a8,aj,ae,oM,hns,hGs,hMs,(by exact⟨by assumption,zO⟩),(by assumption),(by assumption),oM,hKb,(by exact⟨rfl,rfl,zO⟩)⟩ ?_
  clear j4 j5 hG0 ka d3 ga gb g2 g3 gd b0 a4 b1 a0 d5 ac av ct a8 ae a1
  rintro⟨i,vk,ks,S9,T9,s9,c9,lo,vg9,vv9⟩ ρ131 l5 ⟨ak,a5,a6,g7,hnb,hGl,hMl,hPl,hrk,hck,hkl,hkb,hrl9⟩
  have is:w.heap.size≤l5.heap.size:=ak.size
  have k4:=a5.lt
  have k5:=a6.lt
  have hnl:=hPl.num
  have hbl:=hPl.bnd
  refine A0<|fQ [0,0,2,0,0,0,0,0,2,0,0] Z<|Af 1 Z<|Ao (p:=zP w.heap.size) 3 E6 Z Z Ac<|Ai (p:=Au (zP w.heap.size) 3) (.inr Z) (zI ex.count) AG Z (a6.ldp (i:=3) sM) Ac ?_
  by_cases c4:(i:Int)<ex.count
  ·refine AJ true Z Z (A7 c4) Ac<|Af 2 Z<|Bf Z (Ag (e:=156) Z Z Z)<|Ao (p:=zP g) 7 FA Z Z (Ag (e:=156) Z Z Z)<|Ai (p:=Au (zP g) 7) (.inr Z) (zI c9) AG Z (a5.ldp (i:=7) sM) (Ag (e:=156) Z Z Z) ?_
   by_cases c5:c9=((0:Nat):Int)
   ·refine Av true Z Z (A7 c5) (Ag (e:=156) Z Z Z)<|Ae 1 Z<|Ah Z<|A4<|A0<|A5<|B7 _ [0,0,0,0,0,1,0,1,0,0,1,0,4,0] mixed (by kernel_rfl)<|Af 2 Z ?_
    have hvo:=hvp.outs (ex.num).toNat oM
    refine Bf Z Ac<|Ao (p:=zP g) 0 Ru Z Z Ac<|Ao (p:=Au (zP g) 0) (b:=g) (o:=0) 0 C8 Z Z Ac<|Ai (p:=Au (Au (zP g) 0) 0) (.inl Z) vp CO Z (a5.ldp (i:=0) sM) Ac<|Ao (p:=zP w.heap.size) 1 Cc Z Z Ac<|Ai (p:=Au (zP w.heap.size) 1) (.inl Z) (zI ex.num) AG Z (a6.ldp (i:=1) sM) Ac ?_
    refine AH (v:=vp) ((ex.num).toNat) Im DJ Z Z hp.isSl oM sD Ac ?_
    obtain⟨cs136,ep,c6⟩:=hp.get (AR dp) Fn.zero (k:=(ex.num).toNat) sD
    obtain⟨bh,rfl,c7⟩:=RF.of ep
    have cz:=c7.rn.lenle
    unfold maxLen at cz
    refine AP (p:=AE vp ((ex.num).toNat) 3) 2 Cv Z (c6 _ ak.drew) Ac<|Ai (p:=Au (AE vp ((ex.num).toNat) 3) 2) (.inl Z) bh BG Z ((c6 _ ak.drew).ld (i:=2) (by simp[Ge,Gf])) Ac<|Af 1 Z ?_
    refine AK 55 [] [] [zP g,bh,vk] Z Z Zk Ac (Qg (ex.num).toNat dp (fun d9 h9=>IH1 (ex.num).toNat oM d9) _ S9 g vp dp ip (s9) (c9) p (T9) bh ((p.getD ((ex.num).toNat) Fn.zero).outs) vk (ks) (fun b hb=>(hGl.drew.lt b hb:b<l5.heap.size)) (hGl.drew.sub _ hgS) ⟨_,_,_,a5,hMl⟩ (RN.stp (Aq<|AR dp) hp ak.drew hGl.drew.new) _hip oM oM Hk (RN.stp (Aq<|AL dp) c7.rn ak.drew hGl.drew.new) hrk hck hvp oM (by intro k hk;have h9:=hvp.wf (ex.num).toNat oM k hk;rw[show(ks.length:Int)=(p.getD (ex.num).toNat Fn.zero).params from by omega];exact h9) (by intro k hk;have:=hvp.deep (ex.num).toNat oM k hk;omega) oM hkb) ?_
    rintro nh lp ⟨m8,lq,la,lr,ls,lu,rfl,a3,⟨lv,vg137,vv137,eq,er⟩,c8,es,it,iu,iv,iw⟩
    refine⟨_,rfl,?_⟩
    replace a3:=a3.of_drew
    have ix:l5.heap.size≤lp.heap.size:=a3.chg.size
    have et:AB S w lp:=ak.stp a3.chg hGl.new
    have eu:=a6.chg a3.chg fun hm=>hnb hm
    have bs:w.heap.size∉la:=fun hm=>(a3.new _ hm).elim (fun hm=>hnb hm) (fun h9=>by omega)
    have k6:=RN.stp g1 hrk a3.chg a3.new
    have ev:=hGl.trans a3
    have iy:=c8.bnd
    have iz:=c8.num
    have j0:=es.rn
    refine Ae 1 Z<|Ad _ [0,0,0] Z<|Af 1 Z<|AS ((i+1:Nat):Int) Z Z (Bg oM oM) Ac<|Ae 1 Z ?_
    have hMe:=er
    have hGe:=ev
    have hPe:Xf T lr s0 ls lu:=⟨by assumption,zO⟩
    have hne:w.heap.size∉la:=fun hm=>bs hm
    exact⟨(i+1,m8,lq,la,lr,ls,lu,lv,vg137,vv137),_,rfl,zR,⟨et,eq,eu,oM,hne,hGe,hMe,hPe,(by assumption),(by assumption),oM,(by assumption),(by exact YT hrl9 oM (by assumption))⟩,zD⟩
   refine Av false Z Z (A8 c5) (Ag (e:=156) Z Z Z)<|Ae 1 Z<|Ak Z<|A6<|AA<|AA<|Ax<|fQ [0,0,2,0,2,0] Z ?_
   have hkb9:=fun h9:c9=0=>hkb h9 (ex.pick).toNat oM
   refine Af 1 Z<|Ao (p:=zP w.heap.size) 2 Et Z Z Ac<|Ai (p:=Au (zP w.heap.size) 2) (.inr Z) (zI ex.pick) AG Z (a6.ldp (i:=2) sM) Ac<|AH (v:=vk) ((ex.pick).toNat) Bu BL Z Z hrk.slL oM oM Ac ?_
   have ca:=RN.getI (w:=l5) (k:=(ex.pick).toNat) hrk oM
   refine Ai (p:=AE vk ((ex.pick).toNat) 1) (.inr Z) (zI<|ks.getD ((ex.pick).toNat) 0) AG Z (ca.1 _<|AB.refl _ _) Ac<|Ae 1 Z<|A3<|AM<|At ?_
   exact Al [6] Z (zI<|ks.getD ((ex.pick).toNat) 0) Z ⟨ks.getD ((ex.pick).toNat) 0,_,T9,s9,c9,rfl,hGl,⟨_,_,_,a5,hMl⟩,⟨EJ,oM⟩,EI,ca.2,EH⟩
  refine AJ false Z Z (A8 c4) Ac<|Ae 7 Z<|Ak Z<|A6<|AA<|AA<|Ax<|fQ [0,0,2,0,2,0] Z ?_
  have hkb9:=fun h9:c9=0=>hkb h9 (ex.pick).toNat oM
  refine Af 1 Z<|Ao (p:=zP w.heap.size) 2 Et Z Z Ac<|Ai (p:=Au (zP w.heap.size) 2) (.inr Z) (zI ex.pick) AG Z (a6.ldp (i:=2) sM) Ac<|AH (v:=vk) ((ex.pick).toNat) Bu BL Z Z hrk.slL oM oM Ac ?_
  have cb:=RN.getI (w:=l5) (k:=(ex.pick).toNat) hrk oM
  refine Ai (p:=AE vk ((ex.pick).toNat) 1) (.inr Z) (zI<|ks.getD ((ex.pick).toNat) 0) AG Z (cb.1 _<|AB.refl _ _) Ac<|Ae 1 Z<|A3<|AM<|At ?_
  exact Al [6] Z (zI<|ks.getD ((ex.pick).toNat) 0) Z ⟨ks.getD ((ex.pick).toNat) 0,_,T9,s9,c9,rfl,hGl,⟨_,_,_,a5,hMl⟩,⟨EJ,oM⟩,EI,cb.2,EH⟩
 refine Av false Z Z (A8 c3) Ac<|Ae 1 Z<|Ak Z<|A4<|fQ [0,0,2,0,0,0,4,0] Z ?_
 have hkb9:=hKb oM
 have l2:3≤ex.kind∧ex.kind≤7:=by have:=(E2 (DM hwf)).1;omega
 have hkl:1≤ex.kids.length∧(ex.kind≠7→2≤ex.kids.length):=by by_cases h7:ex.kind=7;(have:=SY hwf h7;omega);(have:=SZ hwf oM;omega)
 refine Af 1 Z<|Ao (p:=zP w.heap.size) 0 Bz Z Z Ac<|Ai (p:=Au (zP w.heap.size) 0) (.inr Z) (zI ex.kind) AG Z (ae.ldp (i:=0) sM) Ac<|BP (ex.kind-((3:Nat):Int)) Z Z (E1 oM oM) Ac<|AS ex.kind Z Z (eM oM oM oM) Ac<|Af 1 Z ?_
 refine AK 172 [] [] [zP g,zI ex.kind,fx] Z Z cP Ac (FX _ l3 g vp dp ip (fr) (fs) p (l4) (ex.kind) fx (f3) (fun b hb=>(a1.lt b hb:b<fe.heap.size)) (a1.sub _ hgS) ⟨_,_,_,aj,av⟩ (RN.stp (Aq<|AR dp) hp a8 a1.new) _hip oM oM Hk oM am bc oM oM hkb9 oM) ?_
 rintro ni lw ⟨lx,m9,ma,mb,rfl,a9,⟨mq,vg148,vv148,ew,ey⟩,j1,j2,d0,d1,d2⟩
 refine⟨_,rfl,?_⟩
 have j3:fe.heap.size≤lw.heap.size:=a9.chg.size
 have k7:AB S w lw:=a8.stp a9.chg a1.new
 have k8:=ae.chg a9.chg fun hm=>ab hm
 have g8:w.heap.size∉m9:=fun hm=>(a9.new _ hm).elim (fun hm=>ab hm) (fun h9=>by omega)
 have k9:=RN.stp g1 am a9.chg a9.new
 have ez:=a1.trans a9
 have hRv:=d0
 have hL2:=d2
 refine Ae 1 Z<|A3 ?_
 exact Al [6] Z (zI lx) Z ⟨lx,_,ma,fr,mb,rfl,ez,⟨_,_,_,ew,ey⟩,⟨EJ,oM⟩,EI,d1,EH⟩
theorem Zx:∀F d,dU F d:=by
 intro F
 induction F using Nat.strongRecOn with
 |_ F ihF =>
  intro d
  induction d using Nat.strongRecOn with
  |_ d ihd =>
   intro w S g vp dp ip s0 c0 p T ve ex vv env hS hgS a0 hp hip a1 a2 hbd hex henv hqenv hvp hF hwf hdp hen
   exact Ir w S F g vp dp ip s0 c0 p T d ve ex vv env hS hgS a0 hp hip a1 a2 hbd hex henv hqenv hvp hF hwf hdp hen ihF ihd
theorem Zy (F d:Nat):gB F d:=Qg F d fun d' _=>Zx F d'
theorem RB {p:Prop}(h:p:=by have h9:=hm;rw[hSd]at h9;have:=Ab h9;omega):p:=h
theorem Ur {p:Prop}(h:p:=by simp only[zc,zf,zh];rfl):p:=h
theorem MC (w:World)(dp:Nat)(vp:Value)(p:List Fn)(f:Int)(va:Value)(a:Sr)(hp:RP [] dp w.heap vp p)(_hf:Bd f)(ha:RN [] (Bl rI) w.heap va a)(hok:Kw p=true)(hz:V1 p)(hf:0≤f∧f<(p.length:Int))(hl:(a.length:Int)=(p.getD f.toNat Fn.zero).params)(hna:Bj a=true) :
  Calls Tryz.prog 11 #[(.agg #[vp]),zI f,va] w (fun e w'=>∃(i0:Int) (vc vg vo:Value) (xs:Sr) (T':Tp) (s1:Nat) (c1:Int),e=.returned (.tuple #[.agg #[zI i0,vc,vg,vo],zI c1])∧AD w w'∧AY (S0 p f.toNat a) (xs,T') s1 c1∧(0≤c1∧c1≤9)∧(∀u∈[vc,vg,vo],u.cells=#[u]∧u.oneCell'=true)∧Bd i0∧(c1=0→i0=(p.getD f.toNat Fn.zero).params∧K1 T' s1∧s1≤3000∧xs.length=(p.getD f.toNat Fn.zero).outs.length∧IT T' xs∧RG w.heap.size (CK 4 Gs) w'.heap vc T'.code∧RG w.heap.size (CK 2 FV) w'.heap vg T'.grd∧RG w.heap.size (Bl rI) w'.heap vo xs)):=by
 refine Aw [.agg #[vp],zI f,va] 87 Tryz.func11 Z Z sM ?_
 have dq:AD w w:=AD.refl w
 have g0:=hp.lenle
 unfold maxLen at g0
 have g4:=ha.lenL
 unfold maxLen at g4
 have g5:=Nq hok
 have gq:=g5.par f.toNat oM
 have gr:=g5.outs f.toNat oM
 have hi:Jv p f=0:=by unfold Jv;rw[if_pos hok,if_pos oM]
 refine fQ [3,3,0] Z (BC (cs:=#[vp]) Z Ac fun w1 cj e8 cf=>?_)
 have ck:=cj.size
 have dr:=dq.trans cj
 replace cf:BX w1.heap w.heap.size [vp]:=cf
 have ey:=cf.lt
 refine B9 (z:=.agg #[zI 0,zN,zN,zN]) Kb Ac fun w2 cg e9 cl=>?_
 have cm:=cg.size
 have cn:=dr.trans cg
 have aq:=cf.ext cg
 replace cl:BX w2.heap w1.heap.size [zI 0,zN,zN,zN]:=cl
 refine Ae 1 Z<|fQ [2,0,3,0] Z<|AC (p:=zP w.heap.size) (.inr Z) [vp] EC Z (fun gf ba=>LD.of_box<|BX.ext (w:=w2) aq ba) Z Ac<|Af 1 Z<|Ay 52 [] [] [.agg #[vp],zI f] Z Z fo Ac (Ms _ dp vp (p) _ (hp.ext (Aq<|AR dp) cn) _hf hz) ?_
 rintro e4 w4 ⟨rfl,b8⟩
 refine⟨_,rfl,b8,?_⟩
 have co:=b8.size
 have bb:=cn.trans b8
 have ar:=aq.ext b8
 have bc:=cl.ext b8
 refine Ae 1 Z<|A0<|fQ [0,0,0,0,0,2,0,0,0,2,3,0,0] Z<|Af 1 Z ?_
 have ea:Jv p f=((0:Nat):Int):=hi
 refine Av true Z Z (A7 ea) Ac<|Af 2 Z<|Ao (p:=zP w.heap.size) 0 C8 Z Z (Ag (e:=18) Z Z Z)<|Ai (p:=Au (zP w.heap.size) 0) (.inr Z) vp CO Z (ar.ldp (i:=0) sM) (Ag (e:=18) Z Z Z)<|Af 1 Z<|AH (v:=vp) ((f).toNat) Im DJ Z Z hp.isSl oM sD (Ag (e:=18) Z Z Z) ?_
 obtain⟨cs6,eb,ch⟩:=hp.get (AR dp) Fn.zero (k:=(f).toNat) sD
 obtain⟨ez,rfl,ds⟩:=RF.of eb
 have bd:=ds.rn.lenle
 unfold maxLen at bd
 refine AP (p:=AE vp ((f).toNat) 3) 1 CZ Z (ch _<|AB.of_ext [] bb) (Ag (e:=18) Z Z Z)<|Ai (p:=Au (AE vp ((f).toNat) 3) 1) (.inr Z) (zI<|(p.getD ((f).toNat) Fn.zero).params) AG Z ((ch _<|AB.of_ext [] bb).ld (i:=1) (by simp[Ge,Gf])) (Ag (e:=18) Z Z Z)<|Ay 53 [] [] [va,zI<|(p.getD ((f).toNat) Fn.zero).params] Z Z Zj (Ag (e:=18) Z Z Z) (Eu _ _ _ _ (ha.ext g1 bb).rd ds.rng) ?_
 rintro e7 w7 ⟨rfl,b9⟩
 refine⟨_,rfl,b9,?_⟩
 have cp:=b9.size
 have ci:=bb.trans b9
 have ae:=ar.ext b9
 have au:=bc.ext b9
 rw[show(decide ((a.length:Int)=((p.getD ((f).toNat) Fn.zero).params)) && Bj a)=true from(by rw[A7 oM,hna];rfl)]
 refine BF false Z Z (Ag (e:=18) Z Z Z)<|Ae 1 Z<|Ak Z<|A4<|A0<|fQ [0,0] Z<|Af 1 Z ?_
 have ec:¬(Jv p f≠((0:Nat):Int)):=(fun h9=>h9 hi)
 refine Be false Z Z (A8 ec) Ac<|Aj<|Ak Z<|A4<|A0<|B7 _ [1,0,1,0,0,0,1,0,0,3,0] mixed (by kernel_rfl)<|AC (p:=zP w.heap.size) (.inl Z) [vp] EC Z (fun gf ba=>LD.of_box<|BX.ext (w:=w7.drew) ae ba) Z Ac<|Ao (p:=zP w.heap.size) 0 C8 Z Z Ac<|Ai (p:=Au (zP w.heap.size) 0) (.inl Z) vp CO Z (ae.ldp (i:=0) sM) Ac<|Af 1 Z ?_
 refine AH (v:=vp) ((f).toNat) Im DJ Z Z hp.isSl oM sD Ac<|AP (p:=AE vp ((f).toNat) 3) 1 CZ Z (ch _<|AB.of_ext [] ci.drew) Ac<|Ai (p:=Au (AE vp ((f).toNat) 3) 1) (.inl Z) (zI<|(p.getD ((f).toNat) Fn.zero).params) AG Z ((ch _<|AB.of_ext [] ci.drew).ld (i:=1) (by simp[Ge,Gf])) Ac ?_
 have cq:∀(wq:World),(Instr.build 39 #[(0,zI ((p.getD ((f).toNat) Fn.zero).params))]).run Tryz.prog wq=.ok (.agg #[zI ((p.getD ((f).toNat) Fn.zero).params),zN,zN,zN]) wq:=by intro wq;kernel_rfl
 refine Ch (ps:=#[(0,zI<|(p.getD ((f).toNat) Fn.zero).params)]) (.agg #[zI<|(p.getD ((f).toNat) Fn.zero).params,zN,zN,zN]) Ur (fun wq=>cq  wq) Ac ?_
 have be:∀(vp:Value) (f3:Nat) (h10_0:Fu vp f3) (wq:World),(Instr.build 100 #[(0,.agg #[vp]),(1,.agg #[zI ((p.getD ((f).toNat) Fn.zero).params),zN,zN,zN])]).run Tryz.prog wq=.ok (.agg #[vp,zI ((p.getD ((f).toNat) Fn.zero).params),zN,zN,zN,zN,zI 0,zI 0]) wq:=by intro vp f3 h10_0 wq;obtain⟨a10_0,gg,rfl,_⟩:=h10_0;kernel_rfl
 refine Ch (ps:=#[(0,.agg #[vp]),(1,.agg #[zI<|(p.getD ((f).toNat) Fn.zero).params,zN,zN,zN])]) (.agg #[vp,zI<|(p.getD ((f).toNat) Fn.zero).params,zN,zN,zN,zN,zI 0,zI 0]) Ur (fun wq=>be vp _ hp.isSl wq) Ac ?_
 have ed:=ae.lt
 have ee:=au.lt
 refine BC (cs:=#[vp,zI<|(p.getD ((f).toNat) Fn.zero).params,zN,zN,zN,zN,zI 0,zI 0]) Z Ac fun f1 a9 cr ak=>?_
 replace a9:=a9.of_drew
 have bf:=a9.size
 have bg:=ci.trans a9
 have av:=ae.ext a9
 have aw:=au.ext a9
 replace ak:BX f1.heap w7.drew.heap.size [vp,zI ((p.getD ((f).toNat) Fn.zero).params),zN,zN,zN,zN,zI 0,zI 0]:=ak
 refine Ae 1 Z<|fQ [3,0] Z ?_
 obtain⟨S,hSd⟩:∃S:List Nat,S=[w7.heap.size]:=⟨_,rfl⟩
 have hgS:w7.heap.size∈S:=by rw[hSd];exact List.mem_singleton.2 Z
 have hlr:w7.heap.size<f1.heap.size:=BX.lt ak
 have hMb:CL 52 107 2 S w7.heap.size f1.heap zN zN zN (Ju a 0):=CL.nil
 have hGb:FW S S w f1:=⟨fun _ h=>h,fun b hb=>.inl hb,fun b hb=>by rw[hSd]at hb;have:=Ab hb;omega,AB.of_ext S bg⟩
 have hEb:AB S w f1:=hGb.chg
 have hSn:∀b∈S,w.heap.size≤b:=fun b hb=>by rw[hSd]at hb;have:=Ab hb;omega
 have hBb:BX f1.heap w7.heap.size [vp,zI ((p.getD f.toNat Fn.zero).params),zN,zN,zN,zN,zI ((0:Nat):Int),zI ((0:Nat):Int)]:=ak
 have ax:RN S (CK 3 (X6 dp)) w.heap vp p:=by rw[hSd];exact RN.add (Aq (AR dp)) hp (fun b hb=>zH<|Ab hb)
 have ay:RN S (Bl rI) w.heap va a:=by rw[hSd];exact RN.add g1 ha (fun b hb=>zH<|Ab hb)
 refine Dt (rI) AN Bu BL Ac fun gk gh a4 ct bh=>?_
 have bi:f1.heap.size≤gh.heap.size:=a4.size
 have bj:AB S w gh:=hEb.ext a4
 have az:=av.ext a4
 have b0:=aw.ext a4
 have b1:=hBb.ext a4
 have bk:=CL.ext hMb a4
 have bl:=hGb.ext a4
 refine Ae 1 Z<|A0<|fQ [0,0,0] Z<|Af 1 Z<|AU (v:=va) Bu Z ay.slL Ac<|Ae 1 Z<|A5 ?_
 have hBO:w.heap.size≤f1.heap.size∧w7.heap.size<f1.heap.size:=by omega
 have bm:w.heap.size∉S:=fun hm=>RB
 have bn:w1.heap.size∉S:=fun hm=>RB
 obtain⟨Fo0,bo⟩:=Ow.of_fr bh (A9 _)
 have cu:∀b∈Fo0,b∉S:=fun b hb hm=>by have:=bo.low b hb;have:=hGb.lt b hm;omega
 have hMs:=bk
 have hGs:=bl
 have hnswheaps:w.heap.size∉S:=fun hm=>RB
 have hnsw1heap:w1.heap.size∉S:=fun hm=>RB
 refine B8 (S:=Nat×Value×Sr×List Nat×List Nat×Value×Value×Value) (fun⟨k,vo,xs,Fo,S9,g6,vg9,vv9⟩=>([(10,vo),(46,zI (k:Int)),(1,zI f),(3,zP w.heap.size),(6,zP w1.heap.size),(9,zP w7.heap.size),(44,va),(45,zI (a.length:Int))])) (fun⟨k,vo,xs,Fo,S9,g6,vg9,vv9⟩ W=>AB S w W∧BX W.heap w.heap.size [vp]∧BX W.heap w1.heap.size [zI 0,zN,zN,zN]∧BX W.heap w7.heap.size [vp,zI (p.getD f.toNat Fn.zero).params,g6,vg9,zN,vv9,zI ((0:Nat):Int),zI ((0:Nat):Int)]∧k≤a.length∧f1.heap.size≤W.heap.size∧FW S S9 w W∧CL 52 107 2 S9 w7.heap.size W.heap g6 vg9 vv9 (Ju a k)∧Ow (BD rI 2) f1.heap.size W.heap.size W.heap vo xs Fo∧(∀b∈Fo,b∉S9)∧xs=Hs k∧w.heap.size∉S9∧w1.heap.size∉S9) (fun⟨k,vo,xs,Fo,S9,g6,vg9,vv9⟩=>a.length-k) (0,gk,[],Fo0,S,zN,zN,zN) ⟨rfl,rfl,rfl,rfl,rfl,rfl,rfl,rfl,trivial⟩ ⟨bj,az,b0,b1,oM,oM,hGs,hMs,bo,cu,(by rfl),bm,bn⟩ ?_
 clear dq e8 cj ck dr e9 cg cm cn b8 co bb bd b9 cp ci cr a9 bf bg bh ct a4 bi bj bk bl
 rintro⟨k,vo,xs,Fo,S9,g6,vg9,vv9⟩ ρ21 g7 ⟨a5,a3,aa,ab,cv,hbw,hGl,hMl,hOl,hdl,hxe,af,ag⟩
 have dt:w.heap.size≤g7.heap.size:=a5.size
 have ef:=a3.lt
 have eg:=aa.lt
 have eh:=ab.lt
 refine fQ [0] Z ?_
 by_cases bp:(k:Int)<(a.length:Int)
 ·refine AJ true Z Z (A7 bp) Ac<|Aj<|A0<|Ah Z<|A4<|A0<|A5<|fQ [0,0,2,0,0] Z ?_
  have hak:=Co hna k
  have hvk:=K2 a k
  have hxk:xs.length=k:=by rw[hxe,GF]
  refine Af 1 Z<|AH (v:=va) k Bu BL Z Z ay.slL Z sD Ac ?_
  have bq:=RN.getI (w:=w) (k:=k) ay sD
  refine Ai (p:=AE va k 1) (.inr Z) (zI<|a.getD k 0) AG Z (bq.1 _ a5) Ac<|Ae 2 Z<|Ad _ [0,0,0,0,0,4,3,4,0] Z<|Af 3 Z ?_
  have br:∀(wq:World),(Instr.build 52 #[(0,zI ((1:Nat):Int)),(3,zI (k:Int))]).run Tryz.prog wq=.ok (.agg #[zI ((1:Nat):Int),zI 0,zI 0,zI (k:Int)]) wq:=by intro wq;kernel_rfl
  refine Ch (ps:=#[(0,zI ((1:Nat):Int)),(3,zI (k:Int))]) (.agg #[zI ((1:Nat):Int),zI 0,zI 0,zI (k:Int)]) Ur (fun wq=>br  wq) Ac<|Af 1 Z ?_
  refine AK 54 [] [] [zP w7.heap.size,.agg #[zI ((1:Nat):Int),zI (0:Int),zI (0:Int),zI (k:Int)],zI<|a.getD k 0] Z Z VK Ac (CU _ S9 w7.heap.size vp ((p.getD f.toNat Fn.zero).params) (0) ((0:Nat):Int) (Ju a k) (⟨((1:Nat):Int),(0:Int),(0:Int),(k:Int)⟩:Am) (a.getD k 0) (fun b hb=>(hGl.lt b hb:b<g7.heap.size)) (hGl.sub _ hgS) ⟨_,_,_,ab,hMl⟩ oM (by rw[Nv,K2];omega) ⟨(show Bd ((1:Nat):Int)from by omega),(show Bd (0:Int)from by omega),(show Bd (0:Int)from by omega),(show Bd (k:Int)from by omega)⟩ bq.2) ?_
  rintro gs fx ⟨fd,rfl,a0,gb,vg28,vv28,cw,cx⟩
  refine⟨_,rfl,?_⟩
  have du:g7.heap.size≤fx.heap.size:=a0.chg.size
  have cy:AB S w fx:=a5.stp a0.chg hGl.new
  have cz:=a3.chg a0.chg fun hm=>af hm
  have b2:w.heap.size∉fd:=fun hm=>(a0.new _ hm).elim (fun hm=>af hm) (fun h9=>by omega)
  have d0:=aa.chg a0.chg fun hm=>ag hm
  have b3:w1.heap.size∉fd:=fun hm=>(a0.new _ hm).elim (fun hm=>ag hm) (fun h9=>by omega)
  have d1:=hOl.keep (Bc AN) a0.chg fun b hb hm=>hdl b hm hb
  have ai:∀b∈Fo,b∉fd:=fun b hb hm=>(a0.new b hm).elim (hdl b hb) (fun h9=>zH<|hOl.high b hb)
  have d2:=hGl.trans a0
  have dv:((Ju a k).put (⟨((1:Nat):Int),(0:Int),(0:Int),(k:Int)⟩:Am) (a.getD k 0)).vals.length=(Ju a k).vals.length+1:=H8 _ _ _
  have dw:((Ju a k).put (⟨((1:Nat):Int),(0:Int),(0:Int),(k:Int)⟩:Am) (a.getD k 0)).grd.length=(Ju a k).grd.length:=rfl
  refine (BQ (u:=zI (((Ju a k).vals.length:Nat):Int)) (B:=fx.heap.size) AN Bu BL Z Z (Jl fx.heap.size fx.heap.size _ _ oM) (A9 _) Ac ?_)
  intro gl gc a6 ei d3
  have dx:fx.heap.size≤gc.heap.size:=a6.size
  have d4:AB S w gc:=cy.ext a6
  have al:=cz.ext a6
  have am:=d0.ext a6
  have an:=cw.ext a6
  have d5:=CL.ext cx a6
  have bs:=d2.ext a6
  have hO38k:=d1.ext (Bc AN) a6
  refine Ln (v:=vo) (a:=gl) Bu BL Z Z Z hO38k d3.rd1 oM sD (by unfold maxLen;first|omega|assumption|(simp;done)|(simp;omega)) Ac fun gm gi gj ac ej d6=>?_
  have dy:gc.heap.size≤gi.heap.size:=ac.size
  have d7:AB S w gi:=d4.fresh ac (fun c hc=>zH<|hO38k.low c hc)
  have ek:∀b∈gj,b∉fd:=fun b hb hm=>(d6 b hb).elim (fun h9=>ai b h9 hm) (fun h9=>zH<|bs.lt b hm)
  have d8:=CL.chgO d5 ac ai
  have d9:=bs.fresh ac fun c hc=>zH<|hO38k.low c hc
  have da:=al.chg ac fun hm=>zH<|hO38k.low _ hm
  have db:=am.chg ac fun hm=>zH<|hO38k.low _ hm
  have dc:=an.chg ac fun hm=>zH<|hO38k.low _ hm
  refine Ae 1 Z<|Ad _ [0,0] Z<|AS ((k+1:Nat):Int) Z Z (Bg oM oM) Ac<|Ae 1 Z ?_
  have hMe:=d8
  have hGe:=d9
  have bt:w.heap.size∉fd:=fun hm=>b2 hm
  have bu:w1.heap.size∉fd:=fun hm=>b3 hm
  exact⟨(k+1,gm,xs++[(((Ju a k).vals.length:Nat):Int)],gj,fd,gb,vg28,vv28),_,rfl,zR,⟨d7,da,db,dc,oM,oM,hGe,hMe,(by assumption),(by assumption),(by rw[hxe,K2];exact(PJ k).symm),bt,bu⟩,zD⟩
 refine AJ false Z Z (A8 bp) Ac<|Aj<|A0<|Ak Z<|A6<|AA<|AA<|Ax<|fQ [0,0,0,2,0,0,0,2,0,4,0,0,0,4] Z ?_
 have hkl:k=a.length:=by omega
 refine Af 2 Z<|Ao (p:=zP w.heap.size) 0 C8 Z Z Ac<|Ai (p:=Au (zP w.heap.size) 0) (.inr Z) vp CO Z (a3.ldp (i:=0) sM) Ac<|Af 1 Z<|AH (v:=vp) ((f).toNat) Im DJ Z Z ax.isSl oM sD Ac ?_
 obtain⟨cs46,dd,bv⟩:=ax.get (AR dp) Fn.zero (k:=(f).toNat) sD
 obtain⟨b4,rfl,bw⟩:=RF.of dd
 have bx:=bw.rn.lenle
 unfold maxLen at bx
 refine AP (p:=AE vp ((f).toNat) 3) 2 Cv Z (bv _ a5) Ac<|Ai (p:=Au (AE vp ((f).toNat) 3) 2) (.inr Z) b4 BG Z ((bv _ a5).ld (i:=2) (by simp[Ge,Gf])) Ac<|Af 1 Z ?_
 refine AK 55 [] [] [zP w7.heap.size,b4,vo] Z Z Zk Ac (Zy f.toNat dp _ S9 w7.heap.size vp dp ((p.getD f.toNat Fn.zero).params) (0) ((0:Nat):Int) p (Ju a k) b4 ((p.getD ((f).toNat) Fn.zero).outs) vo (xs) (fun b hb=>(hGl.lt b hb:b<g7.heap.size)) (hGl.sub _ hgS) ⟨_,_,_,ab,hMl⟩ (RN.stp (Aq<|AR dp) ax a5 hGl.new) oM oM oM (by rw[hkl];exact aH hna oM) (RN.stp (Aq<|AL dp) bw.rn a5 hGl.new) (RN.of_ow hOl hdl) hOl.fr.cap g5 oM (by intro j hj;have h9:=g5.wf f.toNat oM j hj;rw[hxe,GF,hkl,hl];exact h9) (by intro j hj;have h9:=g5.deep f.toNat oM j hj;rw[hxe,GF];omega) oM (by exact fun _=>by rw[hxe];exact aI a k)) ?_
 rintro gt g9 ⟨g8,gn,ga,gu,gp,fe,rfl,a1,⟨f2,vg47,vv47,de,df⟩,bz,c0,dz,c2,c3,c4⟩
 refine⟨_,rfl,?_⟩
 have e0:g7.heap.size≤g9.heap.size:=a1.chg.size
 have dg:AB S w g9:=a5.stp a1.chg hGl.new
 have dh:=a3.chg a1.chg fun hm=>af hm
 have di:w.heap.size∉ga:=fun hm=>(a1.new _ hm).elim (fun hm=>af hm) (fun h9=>by omega)
 have dj:=aa.chg a1.chg fun hm=>ag hm
 have aj:w1.heap.size∉ga:=fun hm=>(a1.new _ hm).elim (fun hm=>ag hm) (fun h9=>by omega)
 have b5:=hOl.keep (Bc AN) a1.chg fun b hb hm=>hdl b hm hb
 have dk:∀b∈Fo,b∉ga:=fun b hb hm=>(a1.new b hm).elim (hdl b hb) (fun h9=>zH<|hOl.high b hb)
 have c5:=hGl.trans a1
 have e1:=bz.bnd
 have e2:=bz.num
 have hKr:=c4
 have hKb:=c3
 have hKl:=c2
 rw[hxe,hkl]at hKr
 replace hKr:=AY.go0 hKr
 have c6:=c0.rn
 refine Bf Z Ac<|Ao (p:=zP w7.heap.size) 1 G8 Z Z Ac<|Ao (p:=Au (zP w7.heap.size) 1) (b:=w7.heap.size) (o:=1) 3 Es Z Z Ac (Bn (k:=4) (w:=g9) Pb Z Z (AT c6.slL) de sM Ac fun fs a7 el ad=>?_)
 replace ad:BX fs.heap w7.heap.size [vp,zI ((p.getD f.toNat Fn.zero).params),f2,vg47,g8,vv47,zI (gp:Int),zI fe]:=ad
 have c7:AB S w fs:=dg.trans (a7.sub (Bo hgS))
 have ao:=CL.chg df a7
 have c8:=c5.set hgS a7
 have e3:g9.heap.size≤fs.heap.size:=a7.size
 have c9:=dh.chg a7 (zB ·)
 have ca:=dj.chg a7 (zB ·)
 have ah:=b5.keep (Bc AN) a7 fun b hb hm=>by have:=Ab hb;have:=b5.low _ hm;have:=b5.high _ hm;omega
 have hF63l:=c0.upd g1 a7 fun b hb=>by rw[Ab hb];exact .inl (c5.sub _ hgS)
 have dl:=hF63l.rn
 refine Aj<|A0<|fQ [0,0,0,2,0] Z<|Af 1 Z<|Bf Z Ac<|Ao (p:=zP w7.heap.size) 7 FA Z Z Ac<|Ai (p:=Au (zP w7.heap.size) 7) (.inr Z) (zI fe) AG Z (ad.ldp (i:=7) sM) Ac ?_
 by_cases cb:fe≠((0:Nat):Int)
 ·refine Be true Z Z (A7 cb) Ac<|Aj<|Ah Z<|A0 ?_
  letI:JR:=Qr [w1.heap.size]
  refine Jx.B7 _ [0,0,0,0,1,3,0] mixed (by kernel_rfl)<|Jx.j1 ?_
  have cc:∀(wq:World),(Instr.build 39 #[]).run Tryz.prog wq=.ok (.agg #[zI 0,zN,zN,zN]) wq:=by intro wq;kernel_rfl
  refine Ch (ps:=#[]) (.agg #[zI 0,zN,zN,zN]) (by simp only[zc,zf,zh]) (fun wq=>cc  wq) Ac<|Aj<|Jx.Yc (zP w7.heap.size) Z Ac<|Jx.j1<|Bf Z Ac<|Aj<|Jx.Ao (p:=zP w7.heap.size) 7 FA Z Z Ac<|Jx.eB (p:=Au (zP w7.heap.size) 7) (zI fe) AG Z (fun wj hj=>(BX.chg (w:=fs.drew) (F:=[w1.heap.size]) ad hj (zB ·)).ldp (i:=7) sM) Ac<|Jx.fV ?_
  refine Bh (vs:=[zI (0:Int),zN,zN,zN]) BE Z Z (by intro u hu;simp only[ze,z2,or_false]at hu;rcases hu with rfl|rfl|rfl|rfl <;> first|exact⟨rfl,rfl⟩) ca Z Z Ac fun gd a2 em b6=>?_
  replace a2:=a2.of_drew
  replace b6:BX gd.heap w1.heap.size [zI (0:Int),zN,zN,zN]:=b6
  have en:AB S w gd:=c7.fresh a2 (fun _ h=>zE h)
  have eo:=CL.chgO ao a2 fun b hb hm=>by rw[Ab hb]at hm;exact aj hm
  have dm:=c8.fresh a2 fun _ h=>zE h
  have e5:fs.heap.size≤gd.heap.size:=a2.size
  have ep:=c9.chg a2 (zB ·)
  have eq:=ad.chg a2 (zB ·)
  have er:=ah.keep (Bc AN) a2 fun b hb hm=>by have:=Ab hb;have:=ah.low _ hm;have:=ah.high _ hm;omega
  have hF73l:=hF63l.upd g1 a2 fun b hb=>by rw[Ab hb];(right;omega)
  have es:=hF73l.rn
  refine Aj ⟨AB.drewL a2,?_⟩
  exact Jx.Sk (zI fe) Z Ac<|Jx.Aj<|A3<|At<|GD (t0:=7) (ts:=[]) (cs:=[zI (0:Int),zN,zN,zN]) [zI fe] Z BE Z b6 Z Z ⟨_,_,_,_,_,_,_,_,rfl,AB.toExt dm.chg hSn,hKr,oM,(by intro u hu;simp only[ze,z2,or_false]at hu;rcases hu with rfl|rfl|rfl <;> exact⟨rfl,rfl⟩),(by show Bd _;unfold Bd;omega),(fun h9=>absurd h9 oM)⟩
 refine Be false Z Z (A8 cb) Ac<|Aj<|Ak Z<|A4<|fQ [0,0,0,2,4,0] Z<|Af 1 Z<|Bf Z Ac<|Ao (p:=zP w7.heap.size) 1 G8 Z Z Ac<|AC (p:=Au (zP w7.heap.size) 1) (.inr Z) [zI<|(p.getD f.toNat Fn.zero).params,f2,vg47,g8] BE Z (fun gf ba=>LD.part (BX.ext (w:=fs) ad ba) (by show(5:Nat)≤8;decide) (by intro i hi;match i,hi with|0,_=>rfl|1,_=>rfl|2,_=>rfl|3,_=>rfl)) Z Ac ?_
 refine Bh (vs:=[zI<|(p.getD f.toNat Fn.zero).params,f2,vg47,g8]) BE Z Z (by intro u hu;simp only[ze,z2,or_false]at hu;rcases hu with rfl|rfl|rfl|rfl <;> first|exact⟨rfl,rfl⟩|exact AT (CL.slc ao)|exact AT (CL.slg ao)|exact AT dl.slL) ca Z Z Ac fun ge a8 et b7=>?_
 replace b7:BX ge.heap w1.heap.size [zI ((p.getD f.toNat Fn.zero).params),f2,vg47,g8]:=b7
 have eu:AB S w ge:=c7.fresh a8 (fun _ h=>zE h)
 have ap:=CL.chgO ao a8 fun b hb hm=>by rw[Ab hb]at hm;exact aj hm
 have cd:=c8.fresh a8 fun _ h=>zE h
 have e6:fs.heap.size≤ge.heap.size:=a8.size
 have ev:=c9.chg a8 (zB ·)
 have ew:=ad.chg a8 (zB ·)
 have ex:=ah.keep (Bc AN) a8 fun b hb hm=>by have:=Ab hb;have:=ah.low _ hm;have:=ah.high _ hm;omega
 have hF81l:=hF63l.upd g1 a8 fun b hb=>by rw[Ab hb];(right;omega)
 have dn:=hF81l.rn
 refine Ae 1 Z<|A3 ?_
 have ce:∀b∈ga,w.heap.size≤b:=fun b hb=>(cd.new b hb).elim (hSn b) id
 exact GD (t0:=7) (ts:=[]) (cs:=[zI<|(p.getD f.toNat Fn.zero).params,f2,vg47,g8]) [zI ((0:Nat):Int)] Z BE Z b7 Z Z ⟨_,_,_,_,_,_,_,_,rfl,AB.toExt cd.chg hSn,(by have h9:=hKr;rwa [show fe=((0:Nat):Int)from by omega]at h9),oM,(by intro u hu;simp only[ze,z2,or_false]at hu;rcases hu with rfl|rfl|rfl;exact AT (CL.slc ap);exact AT (CL.slg ap);exact RN.one1 g1 dn),(by show Bd _;unfold Bd;omega),(fun _=>⟨rfl,by assumption,zO,hKl,hKb oM,(CL.readsG ap ce).1,(CL.readsG ap ce).2,RZ.rg hF81l oM⟩)⟩
theorem GP (w:World)(n:Int)(vo:Nat)(ord:Int)(_hn:Bd n)(hcord:Hp w.heap (zP vo)=some (zI ord))(_hord:Bd ord)(ho:0≤ord∧ord≤12) :
  Calls Tryz.prog 178 #[zI n,zP vo] w (fun e w'=>∃v0:Value,e=.returned (v0)∧AD w w'∧Fr (BD rI 2) w.heap.size w'.heap.size w'.heap v0 (Fj (ord.toNat+1) n)):=by
 refine Aw [zI n,zP vo] 12 Tryz.func178 Z Z sM ?_
 have a0:AD w w:=AD.refl w
 refine fR Z<|fQ [2,0,3,0] Z<|Ai (.inr Z) (zI ord) Mo Z (Bk a0 hcord) Ac<|AS ((ord.toNat+1:Nat):Int) Z Z (Bg oM oM) Ac (Gd (n:=ord.toNat+1) Bu BL Z Z Z sD Ac fun v1 w1 a1 aa a2=>?_)
 have a5:=a1.size
 have a3:=a0.trans a1
 refine Ae 1 Z<|fQ [0,0,0,4] Z<|Af 2 Z<|AH (v:=v1) 0 Bu BL Z Z a2.isSl Z sM Ac (JU (v:=v1) (w:=w1) GS Z Z _hn a2 sM Ac fun w2 F2 a4 ab a6 a7=>?_)
 have a8:AD w w2:=a4.below a3 (fun c hc=>Aa (A9 _) (a6 c hc).1) a3.size
 have a9:w1.heap.size≤w2.heap.size:=a4.size
 exact Aj<|fQ [0,0] Z<|Ae 2 Z<|A3<|Al [3] Z v1 Z ⟨v1,rfl,a8,a7.up o1⟩
theorem J9 {p:Prop}(h:p:=by first|(rw[DN oM,En oM];exact⟨_,_,by assumption⟩)|(rw[DN oM,EZ oM];exact⟨_,_,by assumption⟩)|(rw[DN oM,GH oM];exact⟨_,_,by assumption⟩)|(rw[DN oM,Fb oM];exact⟨_,_,by assumption⟩)|(rw[DN oM,Di oM];exact⟨_,_,by assumption⟩)|(rw[DN oM,GI oM];exact⟨_,_,by assumption⟩)|(rw[DN oM,CY oM];exact⟨_,_,by assumption⟩)):p:=h
theorem Ja {p:Prop}(h:p:=by unfold maxLen;first|omega|assumption|(simp only[zb,z9,z4,z6,z5];omega)|(simp[zb,z9,z4,z6,z5];done)|(simp[zb,z9,z4,z6,z5];omega)):p:=h
theorem Jb {p:Prop}(h:p:=by first|exact Vm hzk oM|exact Vn hzk oM):p:=h
theorem Jc {p:Prop}(h:p:=by exact R3 hR hsA (hform k hkl) hkl):p:=h
theorem ED (w:World)(ipT:Int)(vtc vtg vtx:Value)(T:Tp)(oT:Sr)(va:Value)(A:List (Sr))(ord:Int)(_hipT:Bd ipT)(htcT:RN [] (CK 4 Gs) w.heap vtc T.code)(htgT:RN [] (CK 2 FV) w.heap vtg T.grd)(htoT:RN [] (Bl rI) w.heap vtx oT)(hA:RN [] (Bl (Bl rI)) w.heap va A)(hqA:Dm va)(_hord:Bd ord)(ho:0≤ord∧ord≤12)(hsA:CG (ord.toNat+1) A)(hform:∀k,k<T.code.length→C3 A.length k (T.code.getD k Am.zero))(hlt:T.code.length≤4000) :
  Calls Tryz.prog 123 #[(.agg #[(zI ipT),vtc,vtg,vtx]),va,zI ord] w (fun e w'=>∃(v0:Value) (c1:Int),e=.returned (.tuple #[v0,zI c1])∧AD w w'∧PM (ord.toNat+1) A T.code c1∧(c1=0→RN [] (Bl (Bl rI)) w'.heap v0 (AZ (ord.toNat+1) A T.code)∧Dm v0)):=by
 refine Aw [.agg #[zI ipT,vtc,vtg,vtx],va,zI ord] 109 Tryz.func123 Z Z sM ?_
 have gp:AD w w:=AD.refl w
 have hl_vtx:=htoT.lenL
 unfold maxLen at hl_vtx
 have f2:=hA.lenL
 unfold maxLen at f2
 have hS:∀b∈([]:List Nat),b<w.heap.size:=fun b hb=>by cases hb
 refine fQ [3,3,0,0] Z (BC (cs:=#[zI ipT,vtc,vtg,vtx]) Z Ac fun w1 dx im dt=>?_)
 have dy:=dx.size
 have gq:=gp.trans dx
 replace dt:BX w1.heap w.heap.size [zI ipT,vtc,vtg,vtx]:=dt
 have jr:=dt.lt
 refine Z1 (u:=zI ord) Z Z Ac fun w2 du io dv=>?_
 have dz:=du.size
 have gr:=gq.trans du
 have bg:=dt.ext du
 replace dv:BX w2.heap w1.heap.size [zI ord]:=dv
 refine Ae 2 Z<|fQ [3,0] Z ?_
 obtain⟨BO,hBO⟩:∃b:Nat,b=w2.heap.size:=⟨_,rfl⟩
 have hwB:w.heap.size≤BO:=by omega
 have js:w.heap.size<BO:=by have:=BX.lt bg;omega
 have jt:w1.heap.size<BO:=by have:=BX.lt dv;omega
 refine Dt rV BY BJ BR Ac fun v4 w4 ch ip e0=>?_
 have e1:=ch.size
 have gs:=gr.trans ch
 have ci:=bg.ext ch
 have cj:=dv.ext ch
 obtain⟨ju,F4,jv⟩:=I8.nil (S:=[]) (by rw[← hBO]at e0;exact e0)
 refine Ae 1 Z<|fQ [0,0] Z<|L6 [] [zP w1.heap.size] Z Z Ac<|Ae 1 Z<|A0<|fQ [0,2,0,0] Z<|Ao (p:=zP w.heap.size) 1 Ck Z Z Ac<|Ai (p:=Au (zP w.heap.size) 1) (.inr Z) vtc Dx Z (ci.ldp (i:=1) sM) Ac<|AU (v:=vtc) Dg Z htcT.isSl Ac<|Ae 1 Z<|A5 ?_
 refine B8 (S:=Nat×Value) (fun⟨k,vo⟩=>([(8,vo),(18,zI (k:Int)),(1,va),(9,.func (.func 178) #[] #[zP w1.heap.size]),(16,vtc),(17,zI (T.code.length:Int))])) (fun⟨k,vo⟩ W=>AD w W∧BX W.heap w1.heap.size [zI ord]∧k≤T.code.length∧w.heap.size≤BO∧BO≤W.heap.size∧RO 27 [] BO W.heap vo (AZ (ord.toNat+1) A<|T.code.take k)∧EY (ord.toNat+1) A T.code k∧CG (ord.toNat+1) (AZ (ord.toNat+1) A<|T.code.take k)) (fun⟨k,vo⟩=>T.code.length-k) (0,v4) ⟨rfl,rfl,rfl,rfl,rfl,rfl,trivial⟩ ⟨gs,cj,oM,oM,oM,(by exact⟨_,_,by assumption⟩),Z2,(by intro j hj;simp at hj)⟩ ?_
 clear gp im dx dy gq io du dz gr e0 ip ch e1 gs
 rintro⟨k,vo⟩ ρ7 w7 ⟨dw,au,gt,gu,gv,hbld,hzk,hR⟩
 have iq:w.heap.size≤w7.heap.size:=dw.size
 have hRl:(AZ (ord.toNat+1) A (T.code.take k)).length=k:=by rw[Bp,List.length_take];omega
 have jw:=au.lt
 obtain⟨jx,F9,av⟩:=hbld
 have hFl:∀b∈F9,b<w7.heap.size:=av.lt
 refine fQ [0] Z ?_
 by_cases ck:(k:Int)<(T.code.length:Int)
 ·refine AJ true Z Z (A7 ck) Ac<|Aj<|A0<|Ah Z<|A4<|A0<|A5<|fQ [0,2,3,4] Z ?_
  have hkl:k<T.code.length:=by omega
  refine AH (v:=vtc) k Dg BI Z Z htcT.isSl Z sD Ac ?_
  obtain⟨cs11,e2,e3⟩:=htcT.get Ap Am.zero (k:=k) sD
  obtain⟨rfl,e4⟩:=DG e2
  refine AC (p:=AE vtc k 4) (.inr Z) [zI<|(T.code.getD k Am.zero).op,zI<|(T.code.getD k Am.zero).a,zI<|(T.code.getD k Am.zero).b,zI<|(T.code.getD k Am.zero).num] Bx Z (fun k6 ir=>e3 k6<|AB.of_ext []<|dw.trans ir) Z Ac ?_
  have is:=au.lt
  refine B9 (z:=.agg #[zI 0,zI 0,zI 0,zI 0]) NS Ac fun jy ai it bn=>?_
  have gw:=ai.size
  have cl:=dw.trans ai
  have aw:=au.ext ai
  have iu:=av.ext ai
  replace bn:BX jy.heap w7.heap.size [zI 0,zI 0,zI 0,zI 0]:=bn
  refine Bh (vs:=[zI<|(T.code.getD k Am.zero).op,zI<|(T.code.getD k Am.zero).a,zI<|(T.code.getD k Am.zero).b,zI<|(T.code.getD k Am.zero).num]) Bx Z Z (by intro u hu;simp only[ze,z2,or_false]at hu;rcases hu with rfl|rfl|rfl|rfl <;> first|exact⟨rfl,rfl⟩) bn Z Z Ac fun f3 ay iv az=>?_
  replace az:BX f3.heap w7.heap.size [zI ((T.code.getD k Am.zero).op),zI ((T.code.getD k Am.zero).a),zI ((T.code.getD k Am.zero).b),zI ((T.code.getD k Am.zero).num)]:=az
  have e5:AD w f3:=ay.below cl (fun _ h=>zE h) cl.size
  have gx:jy.heap.size≤f3.heap.size:=ay.size
  have cm:=aw.chg ay (zB ·)
  have e6:=av.ext<|ay.below ai (fun _ h=>zE h) ai.size
  refine Aj<|fQ [0,0,2,3,0] Z<|Af 1 Z<|Ao (p:=zP w7.heap.size) 3 Ec Z Z Ac<|Ai (p:=Au (zP w7.heap.size) 3) (.inr Z) (zI<|(T.code.getD k Am.zero).num) AG Z (az.ldp (i:=3) sM) Ac<|Ay 178 [] [zP w1.heap.size] [zI<|(T.code.getD k Am.zero).num,zP w1.heap.size] Z Z cR Ac (GP _ _ (w1.heap.size) (ord) e4.2.2.2 (cm.ld (k:=0) sM) _hord oM) ?_
  rintro kt f1 ⟨bh,rfl,aj,ad⟩
  refine⟨_,rfl,aj,?_⟩
  have gy:=aj.size
  have a8:=e5.trans aj
  have a2:=cm.ext aj
  have a0:=az.ext aj
  have a1:=e6.ext aj
  refine Ae 1 Z<|A0<|fQ [0,2] Z<|Ao (p:=zP w7.heap.size) 0 DU Z Z Ac<|Ai (p:=Au (zP w7.heap.size) 0) (.inr Z) (zI<|(T.code.getD k Am.zero).op) AG Z (a0.ldp (i:=0) sM) Ac<|Aj<|A5<|fQ [0,0] Z ?_
  by_cases cn:(T.code.getD k Am.zero).op=((1:Nat):Int)
  ·refine Av true Z Z (A7 cn) Ac<|Ae 1 Z<|Ah Z<|Ad _ [0,0,2,0,2,0] Z ?_
   have hio:=(hform k hkl).i1 oM
   refine Af 1 Z<|Ao (p:=zP w7.heap.size) 3 Ec Z Z Ac<|Ai (p:=Au (zP w7.heap.size) 3) (.inr Z) (zI<|(T.code.getD k Am.zero).num) AG Z (a0.ldp (i:=3) sM) Ac<|AH (v:=va) (((T.code.getD k Am.zero).num).toNat) BJ BR Z Z hA.slL oM sD Ac ?_
   obtain⟨bo,e7,bp⟩:=RN.getL (w:=w) g1 [] (k:=((T.code.getD k Am.zero).num).toNat) hA sD
   have co:=bp.lenL
   unfold maxLen at co
   refine Ai (p:=AE va (((T.code.getD k Am.zero).num).toNat) 1) (.inr Z) bo BN Z (e7 _<|AB.of_ext [] a8) Ac<|Ae 1 Z<|Ad _ [0,0,3,4,0] Z<|Af 2 Z (BQ (u:=bo) (B:=f1.heap.size) BY BJ BR Z Z (Qo f1.heap.size f1.heap.size _<|bp.one1 g1) (A9 _) Ac fun k7 k8 b0 iw e8=>?_)
   have gz:=b0.size
   have bq:=a8.trans b0
   have b1:=a2.ext b0
   have b2:=a1.ext b0
   refine FI (v:=vo) (a:=k7) (u:=bo) BJ BR Z Z Z b2 oM e8 (RN.stp g1 bp (AB.of_ext [] bq) fun b hb=>.inr (zH<|b2.low b (by simpa using hb))) sD Ja Ac ?_
   rintro k9 jz G24 br cp ⟨ix,ku,iy⟩
   have i0:k8.heap.size≤jz.heap.size:=br.size
   have e9:AD w jz:=br.below bq (fun c hc=>Aa hwB (b2.low c (cp c hc))) bq.size
   have ea:=b1.chg br fun hm=>zH<|b2.low _ (cp _ hm)
   refine Ae 1 Z<|Ad _ [0,0] Z<|AS ((k+1:Nat):Int) Z Z (Bg oM sD) Ac<|Ae 1 Z ?_
   exact⟨(k+1,k9),_,rfl,zR,⟨e9,ea,oM,oM,oM,J9,Jb,Jc⟩,zD⟩
  refine Av false Z Z (A8 cn) Ac<|Ae 1 Z<|Ak Z<|fQ [0,0] Z ?_
  by_cases cq:(T.code.getD k Am.zero).op=((3:Nat):Int)
  ·refine Av true Z Z (A7 cq) Ac<|Ae 1 Z<|Ah Z<|B7 _ [0,0,1,0,1,0,0,1,0,1,3,0] mixed (by kernel_rfl) ?_
   have hio:=(hform k hkl).i2 oM
   have hra:=hR (T.code.getD k Am.zero).a.toNat oM
   have hrb:=hR (T.code.getD k Am.zero).b.toNat oM
   have b3:=hra.1
   have bs:=hrb.1
   refine Af 1 Z<|Ao (p:=zP w7.heap.size) 1 BW Z Z Ac<|Ai (p:=Au (zP w7.heap.size) 1) (.inl Z) (zI<|(T.code.getD k Am.zero).a) AG Z (a0.ldp (i:=1) sM) Ac<|AH (v:=vo) (((T.code.getD k Am.zero).a).toNat) BJ BR Z Z (a1.done fun b hb=>absurd hb z2).slL oM sD Ac ?_
   obtain⟨cr,eb,bt⟩:=RN.getL (w:=f1) g1 [] (k:=((T.code.getD k Am.zero).a).toNat) (a1.done (fun b hb=>absurd hb z2)) sD
   have ct:=bt.lenL
   unfold maxLen at ct
   refine Ai (p:=AE vo (((T.code.getD k Am.zero).a).toNat) 1) (.inl Z) cr BN Z (eb _ (AB.refl _ _).drew) Ac<|Af 1 Z<|Ao (p:=zP w7.heap.size) 2 BU Z Z Ac<|Ai (p:=Au (zP w7.heap.size) 2) (.inl Z) (zI<|(T.code.getD k Am.zero).b) AG Z (a0.ldp (i:=2) sM) Ac ?_
   refine AH (v:=vo) (((T.code.getD k Am.zero).b).toNat) BJ BR Z Z (a1.done fun b hb=>absurd hb z2).slL oM sD Ac ?_
   obtain⟨cu,ec,bu⟩:=RN.getL (w:=f1) g1 [] (k:=((T.code.getD k Am.zero).b).toNat) (a1.done (fun b hb=>absurd hb z2)) sD
   have cv:=bu.lenL
   unfold maxLen at cv
   refine Ai (p:=AE vo (((T.code.getD k Am.zero).b).toNat) 1) (.inl Z) cu BN Z (ec _ (AB.refl _ _).drew) Ac<|Ay 129 [] [] [cr,cu] Z Z Rm Ac (FB _ _ _ _ _ (bt).rd (bu).rd oM oM hra.2 hrb.2) ?_
   rintro kv fd ⟨bi,rfl,a9,a3⟩
   refine⟨_,rfl,a9,?_⟩
   replace a9:=a9.of_drew
   have i3:=a9.size
   have ed:=a8.trans a9
   have b4:=a2.ext a9
   have ee:=a1.ext a9
   have ef:=bt.ext g1 a9
   have eg:=bu.ext g1 a9
   replace a3:=a3.low (B':=f1.heap.size)<|A9 _
   refine Ae 1 Z<|Ad _ [0,0,3,4,0] Z<|Af 2 Z (BQ (u:=bi) (B:=fd.heap.size) BY BJ BR Z Z (Qo fd.heap.size fd.heap.size _<|⟨(Cs a3.isSl).1,(Cs a3.isSl).2⟩) (A9 _) Ac fun ka kb ae iz eh=>?_)
   have i4:=ae.size
   have cw:=ed.trans ae
   have b5:=b4.ext ae
   have ak:=a3.ext (o1) ae
   have bv:=ee.ext ae
   have j0:=ef.ext g1 ae
   have j1:=eg.ext g1 ae
   refine FI (v:=vo) (a:=ka) (u:=bi) BJ BR Z Z Z bv oM eh (RN.of_fr1 ak fun b hb=>zH<|hFl b (by simpa using hb)) sD Ja Ac ?_
   rintro kc k0 G37 bw cx ⟨j2,kw,j3⟩
   have i5:kb.heap.size≤k0.heap.size:=bw.size
   have ei:AD w k0:=bw.below cw (fun c hc=>Aa hwB (bv.low c (cx c hc))) cw.size
   have ej:=b5.chg bw fun hm=>zH<|bv.low _ (cx _ hm)
   refine Ae 1 Z<|Ad _ [0,0] Z<|AS ((k+1:Nat):Int) Z Z (Bg oM sD) Ac<|Ae 1 Z ?_
   exact⟨(k+1,kc),_,rfl,zR,⟨ei,ej,oM,oM,oM,J9,Jb,Jc⟩,zD⟩
  refine Av false Z Z (A8 cq) Ac<|Ae 1 Z<|Ak Z<|fQ [0,0] Z ?_
  by_cases cy:(T.code.getD k Am.zero).op=((4:Nat):Int)
  ·refine Av true Z Z (A7 cy) Ac<|Ae 1 Z<|Ah Z<|B7 _ [0,0,1,0,1,0,0,1,0,1,3,0] mixed (by kernel_rfl) ?_
   have hio:=(hform k hkl).i2 oM
   have hra:=hR (T.code.getD k Am.zero).a.toNat oM
   have hrb:=hR (T.code.getD k Am.zero).b.toNat oM
   have b3:=hra.1
   have bs:=hrb.1
   refine Af 1 Z<|Ao (p:=zP w7.heap.size) 1 BW Z Z Ac<|Ai (p:=Au (zP w7.heap.size) 1) (.inl Z) (zI<|(T.code.getD k Am.zero).a) AG Z (a0.ldp (i:=1) sM) Ac<|AH (v:=vo) (((T.code.getD k Am.zero).a).toNat) BJ BR Z Z (a1.done fun b hb=>absurd hb z2).slL oM sD Ac ?_
   obtain⟨cz,ek,bx⟩:=RN.getL (w:=f1) g1 [] (k:=((T.code.getD k Am.zero).a).toNat) (a1.done (fun b hb=>absurd hb z2)) sD
   have d0:=bx.lenL
   unfold maxLen at d0
   refine Ai (p:=AE vo (((T.code.getD k Am.zero).a).toNat) 1) (.inl Z) cz BN Z (ek _ (AB.refl _ _).drew) Ac<|Af 1 Z<|Ao (p:=zP w7.heap.size) 2 BU Z Z Ac<|Ai (p:=Au (zP w7.heap.size) 2) (.inl Z) (zI<|(T.code.getD k Am.zero).b) AG Z (a0.ldp (i:=2) sM) Ac ?_
   refine AH (v:=vo) (((T.code.getD k Am.zero).b).toNat) BJ BR Z Z (a1.done fun b hb=>absurd hb z2).slL oM sD Ac ?_
   obtain⟨d1,el,bz⟩:=RN.getL (w:=f1) g1 [] (k:=((T.code.getD k Am.zero).b).toNat) (a1.done (fun b hb=>absurd hb z2)) sD
   have d2:=bz.lenL
   unfold maxLen at d2
   refine Ai (p:=AE vo (((T.code.getD k Am.zero).b).toNat) 1) (.inl Z) d1 BN Z (el _ (AB.refl _ _).drew) Ac<|Ay 179 [] [] [cz,d1] Z Z cS Ac (LH _ _ _ _ _ (bx).rd (bz).rd oM oM oM hra.2 hrb.2) ?_
   rintro kx fe ⟨bj,rfl,aa,a4⟩
   refine⟨_,rfl,aa,?_⟩
   replace aa:=aa.of_drew
   have i6:=aa.size
   have em:=a8.trans aa
   have b6:=a2.ext aa
   have en:=a1.ext aa
   have eo:=bx.ext g1 aa
   have ep:=bz.ext g1 aa
   replace a4:=a4.low (B':=f1.heap.size)<|A9 _
   refine Ae 1 Z<|Ad _ [0,0,3,4,0] Z<|Af 2 Z (BQ (u:=bj) (B:=fe.heap.size) BY BJ BR Z Z (Qo fe.heap.size fe.heap.size _<|⟨(Cs a4.isSl).1,(Cs a4.isSl).2⟩) (A9 _) Ac fun kd ke af j4 eq=>?_)
   have i8:=af.size
   have d3:=em.trans af
   have b7:=b6.ext af
   have al:=a4.ext (o1) af
   have c0:=en.ext af
   have j5:=eo.ext g1 af
   have j6:=ep.ext g1 af
   refine FI (v:=vo) (a:=kd) (u:=bj) BJ BR Z Z Z c0 oM eq (RN.of_fr1 al fun b hb=>zH<|hFl b (by simpa using hb)) sD Ja Ac ?_
   rintro kf k1 G50 c2 d4 ⟨j7,ky,j8⟩
   have i9:ke.heap.size≤k1.heap.size:=c2.size
   have er:AD w k1:=c2.below d3 (fun c hc=>Aa hwB (c0.low c (d4 c hc))) d3.size
   have es:=b7.chg c2 fun hm=>zH<|c0.low _ (d4 _ hm)
   refine Ae 1 Z<|Ad _ [0,0] Z<|AS ((k+1:Nat):Int) Z Z (Bg oM sD) Ac<|Ae 1 Z ?_
   exact⟨(k+1,kf),_,rfl,zR,⟨er,es,oM,oM,oM,J9,Jb,Jc⟩,zD⟩
  refine Av false Z Z (A8 cy) Ac<|Ae 1 Z<|Ak Z<|fQ [0,0] Z ?_
  by_cases d5:(T.code.getD k Am.zero).op=((5:Nat):Int)
  ·refine Av true Z Z (A7 d5) Ac<|Ae 1 Z<|Ah Z<|B7 _ [0,0,1,0,1,0,0,1,0,1,3,0] mixed (by kernel_rfl) ?_
   have hio:=(hform k hkl).i2 oM
   have hra:=hR (T.code.getD k Am.zero).a.toNat oM
   have hrb:=hR (T.code.getD k Am.zero).b.toNat oM
   have b3:=hra.1
   have bs:=hrb.1
   refine Af 1 Z<|Ao (p:=zP w7.heap.size) 1 BW Z Z Ac<|Ai (p:=Au (zP w7.heap.size) 1) (.inl Z) (zI<|(T.code.getD k Am.zero).a) AG Z (a0.ldp (i:=1) sM) Ac<|AH (v:=vo) (((T.code.getD k Am.zero).a).toNat) BJ BR Z Z (a1.done fun b hb=>absurd hb z2).slL oM sD Ac ?_
   obtain⟨d6,et,c3⟩:=RN.getL (w:=f1) g1 [] (k:=((T.code.getD k Am.zero).a).toNat) (a1.done (fun b hb=>absurd hb z2)) sD
   have d7:=c3.lenL
   unfold maxLen at d7
   refine Ai (p:=AE vo (((T.code.getD k Am.zero).a).toNat) 1) (.inl Z) d6 BN Z (et _ (AB.refl _ _).drew) Ac<|Af 1 Z<|Ao (p:=zP w7.heap.size) 2 BU Z Z Ac<|Ai (p:=Au (zP w7.heap.size) 2) (.inl Z) (zI<|(T.code.getD k Am.zero).b) AG Z (a0.ldp (i:=2) sM) Ac ?_
   refine AH (v:=vo) (((T.code.getD k Am.zero).b).toNat) BJ BR Z Z (a1.done fun b hb=>absurd hb z2).slL oM sD Ac ?_
   obtain⟨d8,eu,c4⟩:=RN.getL (w:=f1) g1 [] (k:=((T.code.getD k Am.zero).b).toNat) (a1.done (fun b hb=>absurd hb z2)) sD
   have d9:=c4.lenL
   unfold maxLen at d9
   refine Ai (p:=AE vo (((T.code.getD k Am.zero).b).toNat) 1) (.inl Z) d8 BN Z (eu _ (AB.refl _ _).drew) Ac<|Ay 180 [] [] [d6,d8] Z Z Ro Ac (Ev _ _ _ _ _ (c3).rd (c4).rd oM oM hra.2 hrb.2) ?_
   rintro kz fr ⟨bk,rfl,ab,a5⟩
   refine⟨_,rfl,ab,?_⟩
   replace ab:=ab.of_drew
   have ia:=ab.size
   have ev:=a8.trans ab
   have b8:=a2.ext ab
   have ew:=a1.ext ab
   have ex:=c3.ext g1 ab
   have ey:=c4.ext g1 ab
   replace a5:=a5.low (B':=f1.heap.size)<|A9 _
   refine Ae 1 Z<|Ad _ [0,0,3,4,0] Z<|Af 2 Z (BQ (u:=bk) (B:=fr.heap.size) BY BJ BR Z Z (Qo fr.heap.size fr.heap.size _<|⟨(Cs a5.isSl).1,(Cs a5.isSl).2⟩) (A9 _) Ac fun kg kh ag j9 ez=>?_)
   have ib:=ag.size
   have da:=ev.trans ag
   have b9:=b8.ext ag
   have am:=a5.ext (o1) ag
   have c5:=ew.ext ag
   have ja:=ex.ext g1 ag
   have jb:=ey.ext g1 ag
   refine FI (v:=vo) (a:=kg) (u:=bk) BJ BR Z Z Z c5 oM ez (RN.of_fr1 am fun b hb=>zH<|hFl b (by simpa using hb)) sD Ja Ac ?_
   rintro ki k2 G63 c6 db ⟨jc,l0,jd⟩
   have ic:kh.heap.size≤k2.heap.size:=c6.size
   have g0:AD w k2:=c6.below da (fun c hc=>Aa hwB (c5.low c (db c hc))) da.size
   have g2:=b9.chg c6 fun hm=>zH<|c5.low _ (db _ hm)
   refine Ae 1 Z<|Ad _ [0,0] Z<|AS ((k+1:Nat):Int) Z Z (Bg oM sD) Ac<|Ae 1 Z ?_
   exact⟨(k+1,ki),_,rfl,zR,⟨g0,g2,oM,oM,oM,J9,Jb,Jc⟩,zD⟩
  refine Av false Z Z (A8 d5) Ac<|Ae 1 Z<|Ak Z<|fQ [0,0] Z ?_
  by_cases dc:(T.code.getD k Am.zero).op=((7:Nat):Int)
  ·refine Av true Z Z (A7 dc) Ac<|Ae 1 Z<|Ah Z<|Ad _ [0,0,2,0,2,3,0] Z ?_
   have hio:=(hform k hkl).i7 oM
   have hra:=hR (T.code.getD k Am.zero).a.toNat oM
   have b3:=hra.1
   refine Af 1 Z<|Ao (p:=zP w7.heap.size) 1 BW Z Z Ac<|Ai (p:=Au (zP w7.heap.size) 1) (.inr Z) (zI<|(T.code.getD k Am.zero).a) AG Z (a0.ldp (i:=1) sM) Ac<|AH (v:=vo) (((T.code.getD k Am.zero).a).toNat) BJ BR Z Z (a1.done fun b hb=>absurd hb z2).slL oM sD Ac ?_
   obtain⟨dd,g3,c7⟩:=RN.getL (w:=f1) g1 [] (k:=((T.code.getD k Am.zero).a).toNat) (a1.done (fun b hb=>absurd hb z2)) sD
   have de:=c7.lenL
   unfold maxLen at de
   refine Ai (p:=AE vo (((T.code.getD k Am.zero).a).toNat) 1) (.inr Z) dd BN Z (g3 _<|AB.refl _ _) Ac<|Ay 181 [] [] [dd,zI ((1000002:Nat):Int)] Z Z Pa Ac (E0 _ _ _ _ (c7).rd oM oM hra.2 oM) ?_
   rintro l1 fs ⟨bl,rfl,an,ah⟩
   refine⟨_,rfl,an,?_⟩
   have id:=an.size
   have g4:=a8.trans an
   have ba:=a2.ext an
   have g5:=a1.ext an
   have g6:=c7.ext g1 an
   refine Ae 1 Z<|Ad _ [0,0,3,4,0] Z<|Af 2 Z (BQ (u:=bl) (B:=fs.heap.size) BY BJ BR Z Z (Qo fs.heap.size fs.heap.size _<|⟨(Cs ah.isSl).1,(Cs ah.isSl).2⟩) (A9 _) Ac fun kj kk ao je g7=>?_)
   have ie:=ao.size
   have df:=g4.trans ao
   have bb:=ba.ext ao
   have ap:=ah.ext (o1) ao
   have c8:=g5.ext ao
   have jf:=g6.ext g1 ao
   refine FI (v:=vo) (a:=kj) (u:=bl) BJ BR Z Z Z c8 oM g7 (RN.of_fr1 ap fun b hb=>zH<|hFl b (by simpa using hb)) sD Ja Ac ?_
   rintro kl k3 G73 c9 dg ⟨jg,l2,jh⟩
   have ig:kk.heap.size≤k3.heap.size:=c9.size
   have g8:AD w k3:=c9.below df (fun c hc=>Aa hwB (c8.low c (dg c hc))) df.size
   have g9:=bb.chg c9 fun hm=>zH<|c8.low _ (dg _ hm)
   refine Ae 1 Z<|Ad _ [0,0] Z<|AS ((k+1:Nat):Int) Z Z (Bg oM sD) Ac<|Ae 1 Z ?_
   exact⟨(k+1,kl),_,rfl,zR,⟨g8,g9,oM,oM,oM,J9,Jb,Jc⟩,zD⟩
  refine Av false Z Z (A8 dc) Ac<|Ae 1 Z<|Ak Z<|fQ [0,0] Z ?_
  by_cases dh:(T.code.getD k Am.zero).op=((6:Nat):Int)
  ·refine Av true Z Z (A7 dh) Ac<|Ae 1 Z<|Ah Z<|A0<|fQ [0,0,2,0,2,0,2,0] Z ?_
   have hio:=(hform k hkl).i2 oM
   have hra:=hR (T.code.getD k Am.zero).a.toNat oM
   have hrb:=hR (T.code.getD k Am.zero).b.toNat oM
   have b3:=hra.1
   have bs:=hrb.1
   refine Af 1 Z<|Ao (p:=zP w7.heap.size) 2 BU Z Z Ac<|Ai (p:=Au (zP w7.heap.size) 2) (.inr Z) (zI<|(T.code.getD k Am.zero).b) AG Z (a0.ldp (i:=2) sM) Ac<|AH (v:=vo) (((T.code.getD k Am.zero).b).toNat) BJ BR Z Z (a1.done fun b hb=>absurd hb z2).slL oM sD Ac ?_
   obtain⟨ca,ga,bc⟩:=RN.getL (w:=f1) g1 [] (k:=((T.code.getD k Am.zero).b).toNat) (a1.done (fun b hb=>absurd hb z2)) sD
   have di:=bc.lenL
   unfold maxLen at di
   refine Ai (p:=AE vo (((T.code.getD k Am.zero).b).toNat) 1) (.inr Z) ca BN Z (ga _<|AB.refl _ _) Ac<|AH (v:=ca) 0 Bu BL Z Z bc.slL Z sD Ac ?_
   have gb:=RN.getI (w:=f1) (k:=0) bc sD
   refine Ai (p:=AE ca 0 1) (.inr Z) (zI<|((AZ (ord.toNat+1) A<|T.code.take k).getD (((T.code.getD k Am.zero).b).toNat) []).getD 0 0) AG Z (gb.1 _<|AB.refl _ _) Ac ?_
   by_cases dj:((AZ (ord.toNat+1) A (T.code.take k)).getD (((T.code.getD k Am.zero).b).toNat) []).getD 0 0=((0:Nat):Int)
   ·exact Av true Z Z (A7 dj) Ac<|Aj<|Ah Z<|fQ [0,0] Z<|Ae 2 Z<|A3<|At<|AM<|At<|AM<|At<|At<|AM<|At<|Al [6,7] Z (.tuple #[zN,zI ((6:Nat):Int)]) Z ⟨_,_,rfl,a8,.inr ⟨rfl,TD oM oM oM⟩,(fun h9=>absurd h9 oM)⟩
   refine Av false Z Z (A8 dj) Ac<|Aj<|Ak Z<|A4<|B7 _ [0,0,1,0,1,0,0,1,0,1,3,0] mixed (by kernel_rfl)<|Af 1 Z<|Ao (p:=zP w7.heap.size) 1 BW Z Z Ac<|Ai (p:=Au (zP w7.heap.size) 1) (.inl Z) (zI<|(T.code.getD k Am.zero).a) AG Z (a0.ldp (i:=1) sM) Ac ?_
   refine AH (v:=vo) (((T.code.getD k Am.zero).a).toNat) BJ BR Z Z (a1.done fun b hb=>absurd hb z2).slL oM sD Ac ?_
   obtain⟨dk,gc,cb⟩:=RN.getL (w:=f1) g1 [] (k:=((T.code.getD k Am.zero).a).toNat) (a1.done (fun b hb=>absurd hb z2)) sD
   have dl:=cb.lenL
   unfold maxLen at dl
   refine Ai (p:=AE vo (((T.code.getD k Am.zero).a).toNat) 1) (.inl Z) dk BN Z (gc _ (AB.refl _ _).drew) Ac<|Af 1 Z<|Ao (p:=zP w7.heap.size) 2 BU Z Z Ac<|Ai (p:=Au (zP w7.heap.size) 2) (.inl Z) (zI<|(T.code.getD k Am.zero).b) AG Z (a0.ldp (i:=2) sM) Ac ?_
   refine AH (v:=vo) (((T.code.getD k Am.zero).b).toNat) BJ BR Z Z (a1.done fun b hb=>absurd hb z2).slL oM sD Ac ?_
   obtain⟨dm,gd,cc⟩:=RN.getL (w:=f1) g1 [] (k:=((T.code.getD k Am.zero).b).toNat) (a1.done (fun b hb=>absurd hb z2)) sD
   have dn:=cc.lenL
   unfold maxLen at dn
   refine Ai (p:=AE vo (((T.code.getD k Am.zero).b).toNat) 1) (.inl Z) dm BN Z (gd _ (AB.refl _ _).drew) Ac<|Ay 182 [] [] [dk,dm] Z Z XO Ac (Hu _ _ _ _ _ (cb).rd (cc).rd oM oM oM hra.2 hrb.2) ?_
   rintro l3 fx ⟨bm,rfl,a7,a6⟩
   refine⟨_,rfl,a7,?_⟩
   replace a7:=a7.of_drew
   have ih:=a7.size
   have ge:=a8.trans a7
   have bd:=a2.ext a7
   have gf:=a1.ext a7
   have gg:=bc.ext g1 a7
   have gh:=cb.ext g1 a7
   have gi:=cc.ext g1 a7
   replace a6:=a6.low (B':=f1.heap.size)<|A9 _
   refine Ae 1 Z<|Ad _ [0,0,3,4,0] Z<|Af 2 Z (BQ (u:=bm) (B:=fx.heap.size) BY BJ BR Z Z (Qo fx.heap.size fx.heap.size _<|⟨(Cs a6.isSl).1,(Cs a6.isSl).2⟩) (A9 _) Ac fun km ko ac ji gj=>?_)
   have ii:=ac.size
   have dp:=ge.trans ac
   have be:=bd.ext ac
   have aq:=a6.ext (o1) ac
   have cd:=gf.ext ac
   have jj:=gg.ext g1 ac
   have jk:=gh.ext g1 ac
   have jl:=gi.ext g1 ac
   refine FI (v:=vo) (a:=km) (u:=bm) BJ BR Z Z Z cd oM gj (RN.of_fr1 aq fun b hb=>zH<|hFl b (by simpa using hb)) sD Ja Ac ?_
   rintro kp k4 G91 ce dq ⟨jm,l4,jn⟩
   have ij:ko.heap.size≤k4.heap.size:=ce.size
   have gk:AD w k4:=ce.below dp (fun c hc=>Aa hwB (cd.low c (dq c hc))) dp.size
   have gl:=be.chg ce fun hm=>zH<|cd.low _ (dq _ hm)
   refine Ae 1 Z<|Ad _ [0,0] Z<|AS ((k+1:Nat):Int) Z Z (Bg oM sD) Ac<|Ae 1 Z ?_
   exact⟨(k+1,kp),_,rfl,zR,⟨gk,gl,oM,oM,oM,J9,Jb,Jc⟩,zD⟩
  refine Av false Z Z (A8 dh) Ac<|Ae 1 Z<|Ak Z<|A4<|Ad _ [0,0,3,4,0] Z<|Af 2 Z (BQ (u:=bh) (B:=f1.heap.size) BY BJ BR Z Z (Qo f1.heap.size f1.heap.size _<|⟨(Cs ad.isSl).1,(Cs ad.isSl).2⟩) (A9 _) Ac fun kq kr ax jo gm=>?_)
  have ik:=ax.size
  have dr:=a8.trans ax
  have bf:=a2.ext ax
  have ar:=ad.ext (o1) ax
  have cf:=a1.ext ax
  refine FI (v:=vo) (a:=kq) (u:=bh) BJ BR Z Z Z cf oM gm (RN.of_fr1 ar fun b hb=>zH<|hFl b (by simpa using hb)) sD Ja Ac ?_
  rintro ks k5 G95 cg ds ⟨jp,l5,jq⟩
  have il:kr.heap.size≤k5.heap.size:=cg.size
  have gn:AD w k5:=cg.below dr (fun c hc=>Aa hwB (cf.low c (ds c hc))) dr.size
  have go:=bf.chg cg fun hm=>zH<|cf.low _ (ds _ hm)
  refine Ae 1 Z<|Ad _ [0,0] Z<|AS ((k+1:Nat):Int) Z Z (Bg oM sD) Ac<|Ae 1 Z ?_
  exact⟨(k+1,ks),_,rfl,zR,⟨gn,go,oM,oM,oM,J9,Jb,Jc⟩,zD⟩
 exact AJ false Z Z (A8 ck) Ac<|Aj<|A0<|Ak Z<|A6<|AA<|AA<|Ax<|fQ [0,0,0] Z<|Ae 3 Z<|A3<|Al [6,7] Z (.tuple #[vo,zI ((0:Nat):Int)]) Z ⟨_,_,rfl,dw,.inl ⟨rfl,(by have h9:=hzk;rwa [show k=T.code.length from by omega]at h9)⟩,(fun _=>⟨(by have h9:=av.done (fun b hb=>absurd hb z2);rwa [za oM]at h9),av.cap⟩)⟩
theorem Bw (w:World)(r:Int)(vs:Value)(s:Sr)(S:List Nat)(vo:Nat)(vov:Value)(xs:List (Sr))(usxs:List Value)(Fxs:List Nat)(BO:Nat)(_hr:Bd r)(hs:Rd (Bl rI) w.heap vs s)(hcxs:Hp w.heap (zP vo)=some vov)(hbxs:I8 27 S BO w.heap vov xs usxs Fxs)(hSB:∀b∈S,b<BO)(a9:∀b∈S,b<w.heap.size)(hr:0≤r∧r<(xs.length:Int))(hxl:(xs.getD r.toNat []).length≤s.length∧s.length≤13)(hxn:Bj (xs.getD r.toNat [])=true)(hsn:Bj s=true) :
  Calls Tryz.prog 183 #[zI r,vs,zP vo] w (fun e w'=>e=.returned (.tuple #[])∧AB Fxs w w'∧∃us',I8 27 S BO w'.heap vov (Fz xs r s) us' Fxs):=by
 refine Aw [zI r,vs,zP vo] 14 Tryz.func183 Z Z sM ?_
 have a2:AD w w:=AD.refl w
 have ad:=hs.lenle
 have hFl:∀b∈Fxs,b<w.heap.size:=hbxs.lt
 refine B7 _ [1,0,1,0,0,1,0,3,0,4] mixed (by kernel_rfl)<|Ai (.inl Z) vov IV Z (Bk a2.drew hcxs) Ac<|Af 1 Z<|Ai (.inl Z) vov IV Z (Bk a2.drew hcxs) Ac<|Af 1 Z<|AH (v:=vov) ((r).toNat) BJ BR Z Z (hbxs.done hSB).none.slL oM sD Ac ?_
 obtain⟨a7,aa,a4⟩:=hbxs.getF (k:=(r).toNat) sD
 have a5:=a4.lenL
 unfold maxLen at a5
 refine Ai (p:=AE vov ((r).toNat) 1) (.inl Z) a7 BN Z aa Ac<|Af 1 Z<|Ay 129 [] [] [a7,vs] Z Z Rm Ac (FB _ _ _ _ _ a4.rd (hs.ext g1 a2.drew) oM oM hxn hsn) ?_
 rintro e2 w2 ⟨a6,rfl,a1,a0⟩
 refine⟨_,rfl,a1,?_⟩
 replace a1:=a1.of_drew
 have ab:=a1.size
 have ac:=a2.trans a1
 have a8:=hbxs.ext a1
 replace a0:=a0.low (B':=w.heap.size)<|A9 _
 refine AH (v:=vov) ((r).toNat) BJ BR Z Z (a8.done hSB).none.slL oM sD Ac ?_
 refine TF (v:=vov) (u:=a6) (w:=w2) Pb Z Z a8 (RN.of_fr1 a0 fun b hb=>by rcases zi.1 hb with hb|hb;(have:=a9 b hb;omega);(have:=hFl b hb;omega)) sD Ac fun w5 a3 ah ae=>?_
 have af:w2.heap.size≤w5.heap.size:=a3.size
 have ag:AB Fxs w w5:=(AB.of_ext _ ac).trans a3
 exact Aj<|Sh [] Z (.tuple #[]) Z ⟨rfl,ag,_,ae⟩
theorem Kf {p:Prop}(h:p:=by first|(rw[show(kk-1+1).toNat=kk.toNat from by omega];exact GJ hadj oM (OU oM))|(rw[show(kk-1+1).toNat=kk.toNat from by omega];exact GJ hadj oM (OV oM))|(rw[show(kk-1+1).toNat=kk.toNat from by omega];exact GJ hadj oM (OW oM))|(rw[show(kk-1+1).toNat=kk.toNat from by omega];exact GJ hadj oM (OX oM))|(rw[show(kk-1+1).toNat=kk.toNat from by omega];exact GJ hadj oM (OY oM))|(rw[show(kk-1+1).toNat=kk.toNat from by omega];exact GJ hadj oM (OZ oM))):p:=h
theorem Kg {p:Prop}(h:p:=by(try rw[show((1000002:Nat):Int)=1000002 from rfl]);first|(rw[← OU (k:=kk.toNat) (R:=R) oM];exact Hb hxs oM (hform _ hkn))|(rw[← OV (k:=kk.toNat) (R:=R) oM];exact Hb hxs oM (hform _ hkn))|(rw[← OW (k:=kk.toNat) (R:=R) oM];exact Hb hxs oM (hform _ hkn))|(rw[← OX (k:=kk.toNat) (R:=R) oM];exact Hb hxs oM (hform _ hkn))|(rw[← OY (k:=kk.toNat) (R:=R) oM];exact Hb hxs oM (hform _ hkn))|exact hxs):p:=h
theorem FR {p:Prop}(h:p:=by first|exact hro.2|exact hRa.2|exact hRb.2|exact hRk.2|exact HG _ _|exact Jq _ _|exact HF _ _):p:=h
theorem Hl {p:Prop}(h:p:=by refine⟨?_,?_⟩ <;> first|omega|(simp only[Lf,Lc,Gz,Le];omega)):p:=h
theorem Hm {p:Prop}(h:p:=by first|exact hro.2|exact HG _ _|exact Jq _ _|exact HF _ _):p:=h
theorem FS {p:Prop}(h:p:=by first|omega|(simp only[Lf,Lc,Gz,Le];omega)):p:=h
theorem Kh {p:Prop}(h:p:=by first|exact hxl|(simp only[C7];exact hxl)):p:=h
theorem HZ (w:World)(m:Nat)(ni:Nat)(S:List Nat)(ipT:Int)(vtc vtg vtx:Value)(T:Tp)(oT:Sr)(vr:Value)(R:List (Sr))(vw:Value)(ws:Sr)(c1:∀b∈S,b<w.heap.size)(_hipT:Bd ipT)(htcT:RN [] (CK 4 Gs) w.heap vtc T.code)(htgT:RN [] (CK 2 FV) w.heap vtg T.grd)(htoT:RN [] (Bl rI) w.heap vtx oT)(hR:RN [] (Bl (Bl rI)) w.heap vr R)(hqR:Dm vr)(hws:Rd (Bl rI) w.heap vw ws)(hm:1≤m∧m≤13)(hsR:CG m R)(hlR:R.length=T.code.length)(hlt:T.code.length≤4000)(hlo:oT.length≤ws.length∧ws.length≤1000000)(ho:∀k,k<oT.length→0≤oT.getD k 0∧oT.getD k 0<(T.code.length:Int))(hnw:Bj ws=true)(hform:∀k,k<T.code.length→C3 ni k (T.code.getD k Am.zero)) :
  Calls Tryz.prog 128 #[(.agg #[(zI ipT),vtc,vtg,vtx]),vr,vw] w (fun e w'=>∃v0:Value,e=.returned v0∧AD w w'∧RN S (Bl (Bl rI)) w'.heap v0 (Jy T.code R oT ws)∧Dm v0):=by
 refine Aw [.agg #[zI ipT,vtc,vtg,vtx],vr,vw] 159 Tryz.func128 Z Z sM ?_
 have jn:AD w w:=AD.refl w
 have hl_vtx:=htoT.lenL
 unfold maxLen at hl_vtx
 have fe:=hR.lenL
 unfold maxLen at fe
 have m6:=hws.lenle
 refine fQ [3,0] Z (BC (cs:=#[zI ipT,vtc,vtg,vtx]) Z Ac fun w1 gx ks gy=>?_)
 have gz:=gx.size
 have jo:=jn.trans gx
 replace gy:BX w1.heap w.heap.size [zI ipT,vtc,vtg,vtx]:=gy
 refine Ae 1 Z<|fQ [3,3,4] Z (Dt (BD rI 2) o1 BJ BR Ac fun v2 w2 gu kt jp=>?_)
 have i0:=gu.size
 have jq:=jo.trans gu
 have cu:=gy.ext gu
 have lu:=cu.lt
 refine B9 (z:=zN) (by kernel_rfl) Ac fun w3 dx ku i1=>?_
 have i3:=dx.size
 have i4:=jq.trans dx
 have dy:=cu.ext dx
 have c2:=jp.ext (o2) dx
 replace i1:BX w3.heap w2.heap.size [zN]:=i1
 refine Bn (k:=0) (w:=w3) XV Z Z (AT c2.isSl) i1 sM Ac fun w5 dz kv gv=>?_
 replace gv:BX w5.heap w2.heap.size [v2]:=gv
 have jr:AD w w5:=dz.below i4 (fun _ h=>zE h) i4.size
 have i5:w3.heap.size≤w5.heap.size:=dz.size
 have js:=dy.chg dz (zB ·)
 have jt:=c2.chg (o2) dz fun _ h=>zA h
 refine Aj<|A0<|fQ [0,0,0] Z<|Af 1 Z<|AU (v:=vr) BJ Z hR.slL Ac<|Ae 1 Z<|A5 ?_
 have hLBa:w.heap.size<w1.heap.size:=by omega
 have hLBb:w1.heap.size≤w2.heap.size:=by omega
 have hLBc:=Nat.le_of_lt hLBa
 obtain⟨Fo8,e0⟩:=Ow.of_fr (T:=w2.heap.size) jt (A9 _)
 have kw:w2.heap.size∉Fo8:=fun hm=>zH<|e0.high _ hm
 have kx:=e0.up (T':=w5.heap.size) oM
 have ky:w2.heap.size<w5.heap.size:=BX.lt gv
 refine B8 (S:=Nat×Value×List Nat) (fun⟨k,vo,Fo⟩=>([(20,zI (k:Int)),(1,vr),(2,vw),(3,zP w.heap.size),(7,zP w2.heap.size),(18,vr),(19,zI (R.length:Int))])) (fun⟨k,vo,Fo⟩ W=>AD w W∧BX W.heap w.heap.size [zI ipT,vtc,vtg,vtx]∧BX W.heap w2.heap.size [vo]∧k≤R.length∧Ow (BD (BD rI 2) 27) w1.heap.size W.heap.size W.heap vo (Jw<|R.take k) Fo∧w2.heap.size∉Fo) (fun⟨k,vo,Fo⟩=>R.length-k) (0,v2,Fo8) ⟨rfl,rfl,rfl,rfl,rfl,rfl,rfl,trivial⟩ ⟨jr,js,gv,oM,(by assumption),(by assumption)⟩ ?_
 clear jn ks gx gz jo jp kt gu i0 jq ku dx i3 i4 c2 kv dz jr i5 js jt
 rintro⟨k,vo,Fo⟩ ρ9 w9 ⟨e1,ax,ap,ju,hOl,hgF⟩
 have i6:w.heap.size≤w9.heap.size:=e1.size
 have kz:=ax.lt
 have l0:=ap.lt
 have mu:w2.heap.size<w9.heap.size:=BX.lt ap
 refine fQ [0] Z ?_
 by_cases e2:(k:Int)<(R.length:Int)
 ·refine AJ true Z Z (A7 e2) Ac<|Aj<|A0<|Ah Z<|A4<|A0<|A5<|fQ [0,2,0] Z<|AH (v:=vr) k BJ BR Z Z hR.slL Z sD Ac ?_
  obtain⟨e3,i8,e4⟩:=RN.getL (w:=w) g1 [] (k:=k) hR sD
  have e5:=e4.lenL
  unfold maxLen at e5
  refine Ai (p:=AE vr k 1) (.inr Z) e3 BN Z (i8 _<|AB.of_ext [] e1) Ac<|Ae 1 Z<|B7 _ [1,0,0,3,3,4,4] mixed (by kernel_rfl) ?_
  have hrk:=hsR k oM
  have l1:=hrk.1
  refine Ai (p:=zP w2.heap.size) (.inl Z) vo IV Z (ap.ld (k:=0) sM) Ac<|Af 1 Z<|AU (v:=e3) Bu Z e4.slL Ac (Gd (n:=(R.getD k []).length) Bu BL Z Z Z sD Ac fun mc mv b5 l2 i9=>?_)
  replace b5:=b5.of_drew
  have jv:=b5.size
  have ia:=e1.trans b5
  have c3:=ax.ext b5
  have c4:=ap.ext b5
  have ib:=hOl.ext o2 b5
  refine BQ (u:=mc) (B:=w9.heap.size) o1 BJ BR Z Z i9 (by first|exact A9 _|omega) Ac fun me mf c5 l3 ic=>?_
  have jw:=c5.size
  have e6:=ia.trans c5
  have c6:=c3.ext c5
  have c7:=c4.ext c5
  have df:=ib.ext o2 c5
  refine Yg o1 (v:=vo) (a:=me) BJ BR Z Z Z df ic oM oM oM sD (by unfold maxLen;first|omega|assumption|(simp;done)|(simp;omega)) Ac fun m7 lw m8 ck e7 id=>?_
  have jx:mf.heap.size≤lw.heap.size:=ck.size
  have e8:AD w lw:=ck.below e6 (fun c hc=>Aa hLBc (df.low c (zj hc))) e6.size
  have ie:=c6.chg ck fun hm=>zH<|df.low _ (zj hm)
  have ig:=c7.chg ck fun hm=>hgF<|zj hm
  have hF25d:w2.heap.size∉m8:=fun hm=>(id _ hm).elim hgF (fun h9=>by omega)
  refine Bn (k:=0) (w:=lw) XV Z Z (AT e7.slO) ig sM Ac fun lx cl l4 dg=>?_
  replace dg:BX lx.heap w2.heap.size [m7]:=dg
  have ih:AD w lx:=cl.below e8 (fun _ h=>zE h) e8.size
  have jy:lw.heap.size≤lx.heap.size:=cl.size
  have ii:=ie.chg cl (zB ·)
  have ij:=e7.keep o2 cl fun b hb hm=>by rw[Ab hb]at hm;exact hF25d hm
  refine Aj<|Ad _ [0,0] Z<|AS ((k+1:Nat):Int) Z Z (Bg oM sD) Ac<|Ae 1 Z ?_
  have hOe:=(ij).up (T':=lx.heap.size) oM
  rw[TG oM]at hOe
  exact⟨(k+1,m7,m8),_,rfl,zR,⟨ih,ii,dg,oM,hOe,(by assumption)⟩,zD⟩
 refine AJ false Z Z (A8 e2) Ac<|Aj<|A0<|Ak Z<|A6<|AA<|AA<|Ax<|A0<|fQ [0,2,0,0] Z<|Ao (p:=zP w.heap.size) 3 Es Z Z Ac<|Ai (p:=Au (zP w.heap.size) 3) (.inr Z) vtx BN Z (ax.ldp (i:=3) sM) Ac<|AU (v:=vtx) Bu Z htoT.slL Ac<|Ae 1 Z<|A5 ?_
 refine B8 (S:=Nat) (fun i=>([(34,zI (i:Int)),(1,vr),(2,vw),(3,zP w.heap.size),(7,zP w2.heap.size),(32,vtx),(33,zI (oT.length:Int))])) (fun i W=>AD w W∧BX W.heap w.heap.size [zI ipT,vtc,vtg,vtx]∧BX W.heap w2.heap.size [vo]∧i≤oT.length∧Ow (BD (BD rI 2) 27) w1.heap.size W.heap.size W.heap vo (Mg oT ws i<|Jw R) Fo) (fun i=>oT.length-i) 0 ⟨rfl,rfl,rfl,rfl,rfl,rfl,rfl,trivial⟩ ⟨e1,ax,ap,oM,(by have h9:=hOl;rw[za oM]at h9;exact h9)⟩ ?_
 clear ap ax e1 i6
 rintro i ρ30 fr ⟨b6,aj,a5,ik,ay⟩
 have e9:w.heap.size≤fr.heap.size:=b6.size
 have hwl:(Mg oT ws i (Jw R)).length=T.code.length:=by rw[Eo,D9];exact hlR
 have l5:=aj.lt
 have l6:=a5.lt
 have l7:w2.heap.size<fr.heap.size:=BX.lt a5
 refine fQ [0] Z ?_
 by_cases ea:(i:Int)<(oT.length:Int)
 ·refine AJ true Z Z (A7 ea) Ac<|Aj<|A0<|Ah Z<|A4<|A0<|A5<|fQ [0,0,2,0,0] Z<|Af 1 Z<|AH (v:=vtx) i Bu BL Z Z htoT.slL Z sD Ac ?_
  have il:=RN.getI (w:=w) (k:=i) htoT sD
  refine Ai (p:=AE vtx i 1) (.inr Z) (zI<|oT.getD i 0) AG Z (il.1 _<|AB.of_ext [] b6) Ac<|Ae 2 Z<|B7 _ [1,0,0,1,1,0,0,1,0,1,0,0,0,1,0,0,4] mixed (by kernel_rfl) ?_
  have hor:=ho i oM
  have hrw:=Ig (m:=m) (ws:=ws) (Ha hsR) (fun q hq=>by have:=ho q hq;rw[D9];omega) i oM (oT.getD i 0).toNat oM
  have l8:=hrw.1
  refine Ai (p:=zP w2.heap.size) (.inl Z) vo IV Z (a5.ld (k:=0) sM) Ac<|Af 1 Z<|AH (v:=vo) ((oT.getD i 0).toNat) BJ BR Z Z ay.slO oM sD Ac ?_
  obtain⟨dh,eb,ec⟩:=ay.rowO (k:=(oT.getD i 0).toNat) sD
  have ed:=(RN.of ec).lenL
  unfold maxLen at ed
  refine Ai (p:=AE vo ((oT.getD i 0).toNat) 1) (.inl Z) dh BN Z eb Ac<|Ai (p:=zP w2.heap.size) (.inl Z) vo IV Z (a5.ld (k:=0) sM) Ac<|Af 1 Z<|AH (v:=vo) ((oT.getD i 0).toNat) BJ BR Z Z ay.slO oM sD Ac ?_
  obtain⟨di,im,dj⟩:=ay.rowO (k:=(oT.getD i 0).toNat) sD
  have ee:=(RN.of dj).lenL
  unfold maxLen at ee
  refine Ai (p:=AE vo ((oT.getD i 0).toNat) 1) (.inl Z) di BN Z im Ac<|AH (v:=di) 0 Bu BL Z Z (RN.of dj).slL Z sD Ac ?_
  have ef:=RN.getI (w:=fr) (k:=0) (RN.of dj) sD
  refine Ai (p:=AE di 0 1) (.inl Z) (zI<|((Mg oT ws i<|Jw R).getD ((oT.getD i 0).toNat) []).getD 0 0) AG Z (ef.1 _ (AB.refl _ _).drew) Ac<|Af 2 Z<|AH (v:=vw) i Bu BL Z Z hws.isSl Z sD Ac ?_
  refine Ai (p:=AE vw i 1) (.inl Z) (zI<|ws.getD i 0) AG Z (Bk b6.drew (hws.getI sD).1) Ac ?_
  refine AF 173 [] [] [zI<|((Mg oT ws i<|Jw R).getD ((oT.getD i 0).toNat) []).getD 0 0,zI<|ws.getD i 0] Z Z TY Ac (zI<|md ((((Mg oT ws i<|Jw R).getD ((oT.getD i 0).toNat) []).getD 0 0)+(ws.getD i 0))) (fun wq=>HS wq _ _ ef.2 (hws.getI sD).2) ?_
  refine AH (v:=dh) 0 Bu BL Z Z (RN.of ec).slL Z sD Ac ?_
  refine Vo (v:=vo) (u:=dh) (w:=fr.drew) GS Z Z (FK _) ay sD eb sD Ac fun ly G39 bj l9 dk io=>?_
  replace bj:=bj.of_drew
  have jz:fr.heap.size≤ly.heap.size:=bj.size
  have ip:AD w ly:=bj.below b6 (fun c hc=>Aa hLBc (ay.low c (dk c hc))) b6.size
  have iq:=aj.chg bj fun hm=>zH<|ay.low _ (dk _ hm)
  have ir:=a5.chg bj fun hm=>hgF<|dk _ hm
  refine Aj<|Ad _ [0,0] Z<|AS ((i+1:Nat):Int) Z Z (Bg oM sD) Ac<|Ae 1 Z ?_
  have hOe:=(io).up (T':=ly.heap.size) oM
  exact⟨i+1,_,rfl,zR,⟨ip,iq,ir,oM,hOe⟩,zD⟩
 refine AJ false Z Z (A8 ea) Ac<|Aj<|A0<|Ak Z<|A6<|AA<|AA<|Ax<|A0<|fQ [0,2,0,0,0] Z ?_
 have hOw:=ay
 rw[show i=oT.length from by omega]at hOw
 obtain⟨la,F0,is,k0⟩:=I8.ofOw (S:=S) hOw (fun b hb=>zH<|c1 b hb)
 have cm:w2.heap.size∉F0:=fun hm=>hgF (k0 _ hm)
 obtain⟨BO,hBO⟩:∃b:Nat,b=w1.heap.size:=⟨_,rfl⟩
 rw[← hBO]at is
 have hwB:w.heap.size≤BO:=by omega
 have hSB:∀b∈S,b<BO:=fun b hb=>zH<|c1 b hb
 obtain⟨B0,gw⟩:∃l:List Sr,l=Mg oT ws oT.length (Jw R):=⟨_,rfl⟩
 rw[← gw]at is
 have lb:CG m B0:=by rw[gw];exact Ig (Ha hsR) (fun q hq=>by have:=ho q hq;rw[D9];omega) _ (A9 _)
 have lc:B0.length=T.code.length:=by rw[gw,Eo,D9];exact hlR
 refine Ao (p:=zP w.heap.size) 1 Ck Z Z Ac<|Ai (p:=Au (zP w.heap.size) 1) (.inr Z) vtc Dx Z (aj.ldp (i:=1) sM) Ac<|AU (v:=vtc) Dg Z htcT.isSl Ac ?_
 refine BP ((T.code.length:Int)-((1:Nat):Int)) Z Z (E1 sD sD) Ac<|Ae 1 Z<|A5 ?_
 refine B8 (S:=Int×List Sr×List Value) (fun⟨kk,xs,us⟩=>([(12,zI kk),(1,vr),(3,zP w.heap.size),(7,zP w2.heap.size)])) (fun⟨kk,xs,us⟩ W=>AD w W∧BX W.heap w.heap.size [zI ipT,vtc,vtg,vtx]∧BX W.heap w2.heap.size [vo]∧(-1≤kk∧kk<(T.code.length:Int))∧I8 27 S BO W.heap vo xs us F0∧CG m xs∧xs.length=T.code.length∧Sd T.code R (kk+1).toNat xs=Sd T.code R T.code.length B0) (fun⟨kk,xs,us⟩=>(kk+1).toNat) ((T.code.length:Int)-1,B0,la) ⟨rfl,rfl,rfl,rfl,trivial⟩ ⟨b6,aj,a5,oM,is,lb,lc,(by rw[show((T.code.length:Int)-1+1).toNat=T.code.length from by omega])⟩ ?_
 clear a5 aj b6 e9 k0
 rintro⟨kk,xs,us⟩ ρ42 f1 ⟨cn,au,a8,it,hbl,hxs,hxl,hadj⟩
 have k1:w.heap.size≤f1.heap.size:=cn.size
 have le:=au.lt
 have lf:=a8.lt
 have hFl:∀b∈F0,b<f1.heap.size:=hbl.lt
 have lg:=BX.lt a8
 refine A0<|fQ [0,0] Z<|Af 1 Z ?_
 by_cases eg:((0:Nat):Int)≤kk
 ·refine DO true Z Z (A7 eg) Ac<|Aj<|Ah Z<|A4<|A0<|A5<|A0 ?_
  letI:JR:=Qr [f1.drew.heap.size]
  refine Jx.B7 _ [0,1,0,0,1,1,0,0,1,3,3,0] mixed (by kernel_rfl) ?_
  have ba:∀wj,AB [f1.drew.heap.size] f1.drew wj→AD f1.drew wj:=fun wj hj=>AB.toExt hj (fun b hb=>Nat.le_of_eq (Ab hb).symm)
  have hkn:kk.toNat<T.code.length:=by omega
  have hro:=hxs kk.toNat oM
  have lh:=hro.1
  have hRk:=hsR kk.toNat oM
  have li:=hRk.1
  refine Jx.Ao (p:=zP w.heap.size) 1 Ck Z Z Ac<|Jx.eB (p:=Au (zP w.heap.size) 1) vtc Dx Z (fun wj hj=>(BX.ext (w:=f1.drew) au<|ba wj hj).ldp (i:=1) sM) Ac<|Jx.Yc (zI kk) Z Ac<|Jx.AH (v:=vtc) ((kk).toNat) Dg BI Z Z htcT.isSl oM sD Ac ?_
  obtain⟨cs49,iu,iv⟩:=htcT.get Ap Am.zero (k:=(kk).toNat) sD
  obtain⟨rfl,av⟩:=DG iu
  refine Jx.ZU (p:=AE vtc ((kk).toNat) 4) [zI<|(T.code.getD ((kk).toNat) Am.zero).op,zI<|(T.code.getD ((kk).toNat) Am.zero).a,zI<|(T.code.getD ((kk).toNat) Am.zero).b,zI<|(T.code.getD ((kk).toNat) Am.zero).num] Bx Z (fun wj hj=>iv wj<|AB.of_ext []<|cn.drew.trans<|ba wj hj) Z Ac<|Jx.eB (p:=zP w2.heap.size) vo IV Z (fun wj hj=>(BX.ext (w:=f1.drew) a8<|ba wj hj).ldp (i:=0) sM) Ac<|Jx.Yc (zI kk) Z Ac ?_
  refine Jx.AH (v:=vo) ((kk).toNat) BJ BR Z Z (hbl.done hSB).none.slL oM sD Ac ?_
  obtain⟨a9,iw,dl⟩:=hbl.getF (k:=(kk).toNat) sD
  have eh:=dl.lenL
  unfold maxLen at eh
  refine Jx.eB (p:=AE vo ((kk).toNat) 1) a9 BN Z (fun wj hj=>Bk (w:=f1.drew) (ba wj hj) iw) Ac ?_
  have lj:=au.lt
  have lk:=a8.lt
  have k2:f1.drew.heap.size=f1.heap.size:=rfl
  refine Jx.eY<|B9 (z:=.agg #[zI 0,zI 0,zI 0,zI 0]) NS Ac ?_
  intro m9 ac ll dm
  refine Aj ?_
  replace ac:=ac.of_drew
  have k3:=ac.size
  have ei:=cn.trans ac
  have bk:=au.ext ac
  have bl:=a8.ext ac
  have lm:=hbl.ext ac
  have ln:=dl.ext g1 ac
  replace dm:BX m9.heap f1.drew.heap.size [zI 0,zI 0,zI 0,zI 0]:=dm
  refine Jx.fV (Bh (vs:=[zI<|(T.code.getD ((kk).toNat) Am.zero).op,zI<|(T.code.getD ((kk).toNat) Am.zero).a,zI<|(T.code.getD ((kk).toNat) Am.zero).b,zI<|(T.code.getD ((kk).toNat) Am.zero).num]) Bx Z Z (by intro u hu;simp only[ze,z2,or_false]at hu;rcases hu with rfl|rfl|rfl|rfl <;> first|exact⟨rfl,rfl⟩) dm Z Z Ac fun f2 b7 lo a6=>?_)
  replace a6:BX f2.heap f1.drew.heap.size [zI ((T.code.getD ((kk).toNat) Am.zero).op),zI ((T.code.getD ((kk).toNat) Am.zero).a),zI ((T.code.getD ((kk).toNat) Am.zero).b),zI ((T.code.getD ((kk).toNat) Am.zero).num)]:=a6
  have ad:AD w f2:=b7.below ei (fun _ h=>zE h) ei.size
  have k4:m9.heap.size≤f2.heap.size:=b7.size
  have bm:=bk.chg b7 (zB ·)
  have az:=bl.chg b7 (zB ·)
  have ae:=hbl.ext<|b7.below ac (fun _ h=>zE h) ac.size
  have an:=dl.ext g1<|b7.below ac (fun _ h=>zE h) ac.size
  refine Aj ⟨b7,?_⟩
  refine Jx.Sk a9 Z Ac<|Jx.Aj<|fQ [0,0] Z<|L6 [] [zP w2.heap.size] Z Z Ac<|Ae 1 Z<|fQ [0,2] Z<|Ao (p:=zP f1.drew.heap.size) 0 DU Z Z Ac<|Ai (p:=Au (zP f1.drew.heap.size) 0) (.inr Z) (zI<|(T.code.getD ((kk).toNat) Am.zero).op) AG Z (a6.ldp (i:=0) sM) Ac<|Aj<|A5<|fQ [0,0] Z ?_
  by_cases ej:(T.code.getD ((kk).toNat) Am.zero).op=((3:Nat):Int)
  ·refine Av true Z Z (A7 ej) Ac<|Ae 1 Z<|Ah Z<|fQ [0,0,2,0,4] Z ?_
   have hio:=(hform kk.toNat hkn).i2 oM
   have hra:=hxs (T.code.getD kk.toNat Am.zero).a.toNat oM
   have co:=hra.1
   have hRa:=hsR (T.code.getD kk.toNat Am.zero).a.toNat oM
   have hRb:=hsR (T.code.getD kk.toNat Am.zero).b.toNat oM
   have dn:=hRa.1
   have dp:=hRb.1
   refine Af 1 Z<|Ao (p:=zP f1.drew.heap.size) 1 BW Z Z Ac<|Ai (p:=Au (zP f1.drew.heap.size) 1) (.inr Z) (zI<|(T.code.getD ((kk).toNat) Am.zero).a) AG Z (a6.ldp (i:=1) sM) Ac<|Af 1 Z ?_
   refine AK 183 [] [zP w2.heap.size] [zI<|(T.code.getD ((kk).toNat) Am.zero).a,a9,zP w2.heap.size] Z Z JI Ac (Bw _ ((T.code.getD ((kk).toNat) Am.zero).a) a9 (xs.getD ((kk).toNat) []) S w2.heap.size vo (xs) _ _ BO av.2.1 an.rd (az.ld (k:=0) sM) ae hSB (fun b hb=>zH<|c1 b hb) oM Hl hra.2 Hm) ?_
   rintro mw lz ⟨rfl,bn,lp,cp⟩
   refine⟨_,rfl,?_⟩
   have k5:f2.heap.size≤lz.heap.size:=bn.size
   have ek:AD w lz:=bn.below ad (fun c hc=>Aa hwB (ae.low c hc)) ad.size
   have ix:=bm.chg bn fun hm=>by have:=ae.low _ hm;have:=hFl _ hm;omega
   have el:=az.chg bn fun hm=>cm hm
   have em:=a6.chg bn fun hm=>by have:=ae.low _ hm;have:=hFl _ hm;omega
   have en:=an.chg g1<|bn.sub fun b hb=>z1 _ hb
   have dq:CG m (Fz xs (T.code.getD kk.toNat Am.zero).a (xs.getD kk.toNat [])):=Da hxs oM
   have iy:(Fz xs (T.code.getD kk.toNat Am.zero).a (xs.getD kk.toNat [])).length=T.code.length:=by rw[C7];exact hxl
   have hrb:=dq (T.code.getD kk.toNat Am.zero).b.toNat oM
   have dr:=hrb.1
   refine Aj<|Ad _ [0,0,2,0,4] Z<|Af 1 Z<|Ao (p:=zP f1.drew.heap.size) 2 BU Z Z Ac<|Ai (p:=Au (zP f1.drew.heap.size) 2) (.inr Z) (zI<|(T.code.getD ((kk).toNat) Am.zero).b) AG Z (em.ldp (i:=2) sM) Ac<|Af 1 Z ?_
   refine AK 183 [] [zP w2.heap.size] [zI<|(T.code.getD ((kk).toNat) Am.zero).b,a9,zP w2.heap.size] Z Z JI Ac (Bw _ ((T.code.getD ((kk).toNat) Am.zero).b) a9 (xs.getD ((kk).toNat) []) S w2.heap.size vo (Fz xs ((T.code.getD ((kk).toNat) Am.zero).a)<|xs.getD ((kk).toNat) []) _ _ BO av.2.2.1 en.rd (el.ld (k:=0) sM) cp hSB (fun b hb=>zH<|c1 b hb) oM Hl hrb.2 Hm) ?_
   rintro mx ma ⟨rfl,bo,iz,j0⟩
   refine⟨_,rfl,?_⟩
   have k6:lz.heap.size≤ma.heap.size:=bo.size
   have j1:AD w ma:=bo.below ek (fun c hc=>Aa hwB (cp.low c hc)) ek.size
   have j2:=ix.chg bo fun hm=>by have:=cp.low _ hm;have:=hFl _ hm;omega
   have j3:=el.chg bo fun hm=>cm hm
   have lq:=em.chg bo fun hm=>by have:=cp.low _ hm;have:=hFl _ hm;omega
   have lr:=en.chg g1<|bo.sub fun b hb=>z1 _ hb
   refine Aj<|Ad _ [0,0,0] Z<|Af 1 Z<|BP (kk-((1:Nat):Int)) Z Z (E1 sD sD) Ac<|Ae 1 Z ?_
   have hbe:=j0
   exact⟨(kk-1,Fz (Fz xs ((T.code.getD ((kk).toNat) Am.zero).a) (xs.getD ((kk).toNat) [])) ((T.code.getD ((kk).toNat) Am.zero).b) (xs.getD ((kk).toNat) []),iz),_,rfl,zR,⟨j1,j2,j3,oM,hbe,Kg,Kh,Kf⟩,zD⟩
  refine Av false Z Z (A8 ej) Ac<|Ae 1 Z<|Ak Z<|fQ [0,0] Z ?_
  by_cases eo:(T.code.getD ((kk).toNat) Am.zero).op=((4:Nat):Int)
  ·refine Av true Z Z (A7 eo) Ac<|Ae 1 Z<|Ah Z<|fQ [0,0,2,0,4] Z ?_
   have hio:=(hform kk.toNat hkn).i2 oM
   have hra:=hxs (T.code.getD kk.toNat Am.zero).a.toNat oM
   have co:=hra.1
   have hRa:=hsR (T.code.getD kk.toNat Am.zero).a.toNat oM
   have hRb:=hsR (T.code.getD kk.toNat Am.zero).b.toNat oM
   have dn:=hRa.1
   have dp:=hRb.1
   refine Af 1 Z<|Ao (p:=zP f1.drew.heap.size) 1 BW Z Z Ac<|Ai (p:=Au (zP f1.drew.heap.size) 1) (.inr Z) (zI<|(T.code.getD ((kk).toNat) Am.zero).a) AG Z (a6.ldp (i:=1) sM) Ac<|Af 1 Z ?_
   refine AK 183 [] [zP w2.heap.size] [zI<|(T.code.getD ((kk).toNat) Am.zero).a,a9,zP w2.heap.size] Z Z JI Ac (Bw _ ((T.code.getD ((kk).toNat) Am.zero).a) a9 (xs.getD ((kk).toNat) []) S w2.heap.size vo (xs) _ _ BO av.2.1 an.rd (az.ld (k:=0) sM) ae hSB (fun b hb=>zH<|c1 b hb) oM Hl hra.2 Hm) ?_
   rintro my m0 ⟨rfl,bp,ls,j4⟩
   refine⟨_,rfl,?_⟩
   have k7:f2.heap.size≤m0.heap.size:=bp.size
   have j5:AD w m0:=bp.below ad (fun c hc=>Aa hwB (ae.low c hc)) ad.size
   have j6:=bm.chg bp fun hm=>by have:=ae.low _ hm;have:=hFl _ hm;omega
   have j7:=az.chg bp fun hm=>cm hm
   have ep:=a6.chg bp fun hm=>by have:=ae.low _ hm;have:=hFl _ hm;omega
   have eq:=an.chg g1<|bp.sub fun b hb=>z1 _ hb
   have dq:CG m (Fz xs (T.code.getD kk.toNat Am.zero).a (xs.getD kk.toNat [])):=Da hxs oM
   have iy:(Fz xs (T.code.getD kk.toNat Am.zero).a (xs.getD kk.toNat [])).length=T.code.length:=by rw[C7];exact hxl
   have hrb:=dq (T.code.getD kk.toNat Am.zero).b.toNat oM
   have dr:=hrb.1
   refine Aj<|B7 _ [0,0,1,0,3,4] mixed (by kernel_rfl)<|Af 1 Z<|Ao (p:=zP f1.drew.heap.size) 2 BU Z Z Ac<|Ai (p:=Au (zP f1.drew.heap.size) 2) (.inl Z) (zI<|(T.code.getD ((kk).toNat) Am.zero).b) AG Z (ep.ldp (i:=2) sM) Ac<|Af 1 Z<|Ay 181 [] [] [a9,zI ((1000002:Nat):Int)] Z Z Pa Ac (E0 _ _ _ _ eq.rd oM FS FR oM) ?_
   rintro mz mg ⟨cv,rfl,ao,aw⟩
   refine⟨_,rfl,ao,?_⟩
   replace ao:=ao.of_drew
   have k8:=ao.size
   have er:=j5.trans ao
   have cq:=j6.ext ao
   have bb:=j7.ext ao
   have cr:=ep.ext ao
   have ct:=j4.ext ao
   have j8:=eq.ext g1 ao
   replace aw:=aw.low (B':=m0.heap.size)<|A9 _
   refine AK 183 [] [zP w2.heap.size] [zI<|(T.code.getD ((kk).toNat) Am.zero).b,cv,zP w2.heap.size] Z Z JI Ac (Bw _ ((T.code.getD ((kk).toNat) Am.zero).b) cv (D8 (xs.getD ((kk).toNat) []) ((1000002:Nat):Int)) S w2.heap.size vo (Fz xs ((T.code.getD ((kk).toNat) Am.zero).a)<|xs.getD ((kk).toNat) []) _ _ BO av.2.2.1 aw.rd1 (bb.ld (k:=0) sM) ct hSB (fun b hb=>zH<|c1 b hb) oM Hl hrb.2 Hm) ?_
   rintro n0 mb ⟨rfl,b8,j9,ja⟩
   refine⟨_,rfl,?_⟩
   have k9:mg.heap.size≤mb.heap.size:=b8.size
   have jb:AD w mb:=b8.below er (fun c hc=>Aa hwB (ct.low c hc)) er.size
   have es:=cq.chg b8 fun hm=>by have:=ct.low _ hm;have:=hFl _ hm;omega
   have et:=bb.chg b8 fun hm=>cm hm
   have ka:=cr.chg b8 fun hm=>by have:=ct.low _ hm;have:=hFl _ hm;omega
   have kb:=j8.chg g1<|b8.sub fun b hb=>z1 _ hb
   have kc:=aw.chg (o1) b8 fun c hc=>zH<|hFl c hc
   refine Aj<|Ad _ [0,0,0] Z<|Af 1 Z<|BP (kk-((1:Nat):Int)) Z Z (E1 sD sD) Ac<|Ae 1 Z ?_
   have hbe:=ja
   exact⟨(kk-1,Fz (Fz xs ((T.code.getD ((kk).toNat) Am.zero).a) (xs.getD ((kk).toNat) [])) ((T.code.getD ((kk).toNat) Am.zero).b) (D8 (xs.getD ((kk).toNat) []) ((1000002:Nat):Int)),j9),_,rfl,zR,⟨jb,es,et,oM,hbe,Kg,Kh,Kf⟩,zD⟩
  refine Av false Z Z (A8 eo) Ac<|Ae 1 Z<|Ak Z<|fQ [0,0] Z ?_
  by_cases cw:(T.code.getD ((kk).toNat) Am.zero).op=((5:Nat):Int)
  ·refine Av true Z Z (A7 cw) Ac<|Ae 1 Z<|Ah Z<|A0<|B7 _ [0,0,1,0,0,0,1,0,1,3,4] mixed (by kernel_rfl) ?_
   have hio:=(hform kk.toNat hkn).i2 oM
   have hra:=hxs (T.code.getD kk.toNat Am.zero).a.toNat oM
   have co:=hra.1
   have hRa:=hsR (T.code.getD kk.toNat Am.zero).a.toNat oM
   have hRb:=hsR (T.code.getD kk.toNat Am.zero).b.toNat oM
   have dn:=hRa.1
   have dp:=hRb.1
   refine Af 1 Z<|Ao (p:=zP f1.drew.heap.size) 1 BW Z Z Ac<|Ai (p:=Au (zP f1.drew.heap.size) 1) (.inl Z) (zI<|(T.code.getD ((kk).toNat) Am.zero).a) AG Z (a6.ldp (i:=1) sM) Ac<|Af 2 Z<|Ao (p:=zP f1.drew.heap.size) 2 BU Z Z Ac<|Ai (p:=Au (zP f1.drew.heap.size) 2) (.inl Z) (zI<|(T.code.getD ((kk).toNat) Am.zero).b) AG Z (a6.ldp (i:=2) sM) Ac ?_
   refine AH (v:=vr) (((T.code.getD ((kk).toNat) Am.zero).b).toNat) BJ BR Z Z hR.slL oM sD Ac ?_
   obtain⟨cx,eu,cy⟩:=RN.getL (w:=w) g1 [] (k:=((T.code.getD ((kk).toNat) Am.zero).b).toNat) hR sD
   have ds:=cy.lenL
   unfold maxLen at ds
   refine Ai (p:=AE vr (((T.code.getD ((kk).toNat) Am.zero).b).toNat) 1) (.inl Z) cx BN Z (eu _<|AB.of_ext [] ad.drew) Ac<|Ay 180 [] [] [a9,cx] Z Z Ro Ac (Ev _ _ _ _ _ an.rd (cy.ext g1 ad.drew).rd FS FS FR FR) ?_
   rintro mh m1 ⟨c8,rfl,a2,af⟩
   refine⟨_,rfl,a2,?_⟩
   replace a2:=a2.of_drew
   have jc:=a2.size
   have cz:=ad.trans a2
   have c9:=bm.ext a2
   have b0:=az.ext a2
   have ca:=a6.ext a2
   have bc:=ae.ext a2
   have ev:=an.ext g1 a2
   replace af:=af.low (B':=f2.heap.size)<|A9 _
   refine AK 183 [] [zP w2.heap.size] [zI<|(T.code.getD ((kk).toNat) Am.zero).a,c8,zP w2.heap.size] Z Z JI Ac (Bw _ ((T.code.getD ((kk).toNat) Am.zero).a) c8 (CF (xs.getD ((kk).toNat) [])<|R.getD (((T.code.getD ((kk).toNat) Am.zero).b).toNat) []) S w2.heap.size vo (xs) _ _ BO av.2.1 af.rd1 (b0.ld (k:=0) sM) bc hSB (fun b hb=>zH<|c1 b hb) oM Hl hra.2 Hm) ?_
   rintro mi f3 ⟨rfl,ak,kd,ew⟩
   refine⟨_,rfl,?_⟩
   have jd:m1.heap.size≤f3.heap.size:=ak.size
   have cb:AD w f3:=ak.below cz (fun c hc=>Aa hwB (bc.low c hc)) cz.size
   have ex:=c9.chg ak fun hm=>by have:=bc.low _ hm;have:=hFl _ hm;omega
   have ey:=b0.chg ak fun hm=>cm hm
   have cc:=ca.chg ak fun hm=>by have:=bc.low _ hm;have:=hFl _ hm;omega
   have d0:=ev.chg g1<|ak.sub fun b hb=>z1 _ hb
   have ez:=af.chg (o1) ak fun c hc=>zH<|hFl c hc
   have dq:CG m (Fz xs (T.code.getD kk.toNat Am.zero).a (CF (xs.getD kk.toNat []) (R.getD (T.code.getD kk.toNat Am.zero).b.toNat []))):=Da hxs oM
   have iy:(Fz xs (T.code.getD kk.toNat Am.zero).a (CF (xs.getD kk.toNat []) (R.getD (T.code.getD kk.toNat Am.zero).b.toNat []))).length=T.code.length:=by rw[C7];exact hxl
   have hrb:=dq (T.code.getD kk.toNat Am.zero).b.toNat oM
   have dr:=hrb.1
   refine Aj<|B7 _ [0,0,1,0,0,0,1,0,1,3,4] mixed (by kernel_rfl)<|Af 1 Z<|Ao (p:=zP f1.drew.heap.size) 2 BU Z Z Ac<|Ai (p:=Au (zP f1.drew.heap.size) 2) (.inl Z) (zI<|(T.code.getD ((kk).toNat) Am.zero).b) AG Z (cc.ldp (i:=2) sM) Ac<|Af 2 Z<|Ao (p:=zP f1.drew.heap.size) 1 BW Z Z Ac<|Ai (p:=Au (zP f1.drew.heap.size) 1) (.inl Z) (zI<|(T.code.getD ((kk).toNat) Am.zero).a) AG Z (cc.ldp (i:=1) sM) Ac ?_
   refine AH (v:=vr) (((T.code.getD ((kk).toNat) Am.zero).a).toNat) BJ BR Z Z hR.slL oM sD Ac ?_
   obtain⟨d1,g0,d2⟩:=RN.getL (w:=w) g1 [] (k:=((T.code.getD ((kk).toNat) Am.zero).a).toNat) hR sD
   have dt:=d2.lenL
   unfold maxLen at dt
   refine Ai (p:=AE vr (((T.code.getD ((kk).toNat) Am.zero).a).toNat) 1) (.inl Z) d1 BN Z (g0 _<|AB.of_ext [] cb.drew) Ac<|Ay 180 [] [] [a9,d1] Z Z Ro Ac (Ev _ _ _ _ _ d0.rd (d2.ext g1 cb.drew).rd FS FS FR FR) ?_
   rintro mj m2 ⟨cd,rfl,a0,ag⟩
   refine⟨_,rfl,a0,?_⟩
   replace a0:=a0.of_drew
   have je:=a0.size
   have d3:=cb.trans a0
   have bq:=ex.ext a0
   have aq:=ey.ext a0
   have br:=cc.ext a0
   have bs:=ez.ext (o1) a0
   have bd:=ew.ext a0
   have g2:=d0.ext g1 a0
   replace ag:=ag.low (B':=f3.heap.size)<|A9 _
   refine AK 183 [] [zP w2.heap.size] [zI<|(T.code.getD ((kk).toNat) Am.zero).b,cd,zP w2.heap.size] Z Z JI Ac (Bw _ ((T.code.getD ((kk).toNat) Am.zero).b) cd (CF (xs.getD ((kk).toNat) [])<|R.getD (((T.code.getD ((kk).toNat) Am.zero).a).toNat) []) S w2.heap.size vo (Fz xs ((T.code.getD ((kk).toNat) Am.zero).a)<|CF (xs.getD ((kk).toNat) [])<|R.getD (((T.code.getD ((kk).toNat) Am.zero).b).toNat) []) _ _ BO av.2.2.1 ag.rd1 (aq.ld (k:=0) sM) bd hSB (fun b hb=>zH<|c1 b hb) oM Hl hrb.2 Hm) ?_
   rintro ml fs ⟨rfl,aa,g3,g4⟩
   refine⟨_,rfl,?_⟩
   have jf:m2.heap.size≤fs.heap.size:=aa.size
   have g5:AD w fs:=aa.below d3 (fun c hc=>Aa hwB (bd.low c hc)) d3.size
   have g6:=bq.chg aa fun hm=>by have:=bd.low _ hm;have:=hFl _ hm;omega
   have g7:=aq.chg aa fun hm=>cm hm
   have ke:=br.chg aa fun hm=>by have:=bd.low _ hm;have:=hFl _ hm;omega
   have kf:=g2.chg g1<|aa.sub fun b hb=>z1 _ hb
   have kg:=bs.chg (o1) aa fun c hc=>zH<|hFl c hc
   have kh:=ag.chg (o1) aa fun c hc=>zH<|hFl c hc
   refine Aj<|Ad _ [0,0,0] Z<|Af 1 Z<|BP (kk-((1:Nat):Int)) Z Z (E1 sD sD) Ac<|Ae 1 Z ?_
   have hbe:=g4
   exact⟨(kk-1,Fz (Fz xs ((T.code.getD ((kk).toNat) Am.zero).a) (CF (xs.getD ((kk).toNat) []) (R.getD (((T.code.getD ((kk).toNat) Am.zero).b).toNat) []))) ((T.code.getD ((kk).toNat) Am.zero).b) (CF (xs.getD ((kk).toNat) []) (R.getD (((T.code.getD ((kk).toNat) Am.zero).a).toNat) [])),g3),_,rfl,zR,⟨g5,g6,g7,oM,hbe,Kg,Kh,Kf⟩,zD⟩
  refine Av false Z Z (A8 cw) Ac<|Ae 1 Z<|Ak Z<|fQ [0,0] Z ?_
  by_cases d4:(T.code.getD ((kk).toNat) Am.zero).op=((6:Nat):Int)
  ·refine Av true Z Z (A7 d4) Ac<|Ae 1 Z<|Ah Z<|fQ [0,0,0,2,0,2,3,0] Z ?_
   have hio:=(hform kk.toNat hkn).i2 oM
   have hra:=hxs (T.code.getD kk.toNat Am.zero).a.toNat oM
   have co:=hra.1
   have hRa:=hsR (T.code.getD kk.toNat Am.zero).a.toNat oM
   have hRb:=hsR (T.code.getD kk.toNat Am.zero).b.toNat oM
   have dn:=hRa.1
   have dp:=hRb.1
   refine Af 2 Z<|Ao (p:=zP f1.drew.heap.size) 2 BU Z Z Ac<|Ai (p:=Au (zP f1.drew.heap.size) 2) (.inr Z) (zI<|(T.code.getD ((kk).toNat) Am.zero).b) AG Z (a6.ldp (i:=2) sM) Ac<|AH (v:=vr) (((T.code.getD ((kk).toNat) Am.zero).b).toNat) BJ BR Z Z hR.slL oM sD Ac ?_
   obtain⟨d5,g8,d6⟩:=RN.getL (w:=w) g1 [] (k:=((T.code.getD ((kk).toNat) Am.zero).b).toNat) hR sD
   have du:=d6.lenL
   unfold maxLen at du
   refine Ai (p:=AE vr (((T.code.getD ((kk).toNat) Am.zero).b).toNat) 1) (.inr Z) d5 BN Z (g8 _<|AB.of_ext [] ad) Ac<|Ay 182 [] [] [a9,d5] Z Z XO Ac (Hu _ _ _ _ _ an.rd (d6.ext g1 ad).rd FS FS oM FR FR) ?_
   rintro mm m3 ⟨b9,rfl,ab,be⟩
   refine⟨_,rfl,ab,?_⟩
   have jg:=ab.size
   have d7:=ad.trans ab
   have ce:=bm.ext ab
   have b1:=az.ext ab
   have b2:=a6.ext ab
   have bf:=ae.ext ab
   have g9:=an.ext g1 ab
   refine Ae 1 Z<|fQ [0,0,2,0,4] Z<|Af 1 Z<|Ao (p:=zP f1.drew.heap.size) 1 BW Z Z Ac<|Ai (p:=Au (zP f1.drew.heap.size) 1) (.inr Z) (zI<|(T.code.getD ((kk).toNat) Am.zero).a) AG Z (b2.ldp (i:=1) sM) Ac<|Af 1 Z ?_
   refine AK 183 [] [zP w2.heap.size] [zI<|(T.code.getD ((kk).toNat) Am.zero).a,b9,zP w2.heap.size] Z Z JI Ac (Bw _ ((T.code.getD ((kk).toNat) Am.zero).a) b9 (Cq (xs.getD ((kk).toNat) [])<|R.getD (((T.code.getD ((kk).toNat) Am.zero).b).toNat) []) S w2.heap.size vo (xs) _ _ BO av.2.1 be.rd1 (b1.ld (k:=0) sM) bf hSB (fun b hb=>zH<|c1 b hb) oM Hl hra.2 Hm) ?_
   rintro mn fd ⟨rfl,al,ki,ga⟩
   refine⟨_,rfl,?_⟩
   have jh:m3.heap.size≤fd.heap.size:=al.size
   have cf:AD w fd:=al.below d7 (fun c hc=>Aa hwB (bf.low c hc)) d7.size
   have gb:=ce.chg al fun hm=>by have:=bf.low _ hm;have:=hFl _ hm;omega
   have gc:=b1.chg al fun hm=>cm hm
   have d8:=b2.chg al fun hm=>by have:=bf.low _ hm;have:=hFl _ hm;omega
   have gd:=g9.chg g1<|al.sub fun b hb=>z1 _ hb
   have d9:=be.chg (o1) al fun c hc=>zH<|hFl c hc
   have dq:CG m (Fz xs (T.code.getD kk.toNat Am.zero).a (Cq (xs.getD kk.toNat []) (R.getD (T.code.getD kk.toNat Am.zero).b.toNat []))):=Da hxs oM
   have iy:(Fz xs (T.code.getD kk.toNat Am.zero).a (Cq (xs.getD kk.toNat []) (R.getD (T.code.getD kk.toNat Am.zero).b.toNat []))).length=T.code.length:=by rw[C7];exact hxl
   have hrb:=dq (T.code.getD kk.toNat Am.zero).b.toNat oM
   have dr:=hrb.1
   refine Aj<|B7 _ [0,0,1,0,0,0,0,1,3,3,4] mixed (by kernel_rfl)<|Af 1 Z<|Ao (p:=zP f1.drew.heap.size) 2 BU Z Z Ac<|Ai (p:=Au (zP f1.drew.heap.size) 2) (.inl Z) (zI<|(T.code.getD ((kk).toNat) Am.zero).b) AG Z (d8.ldp (i:=2) sM) Ac<|Af 3 Z ?_
   refine AH (v:=vr) ((kk).toNat) BJ BR Z Z hR.slL oM sD Ac ?_
   obtain⟨da,ge,db⟩:=RN.getL (w:=w) g1 [] (k:=(kk).toNat) hR sD
   have dv:=db.lenL
   unfold maxLen at dv
   refine Ai (p:=AE vr ((kk).toNat) 1) (.inl Z) da BN Z (ge _<|AB.of_ext [] cf.drew) Ac<|Ay 180 [] [] [b9,da] Z Z Ro Ac (Ev _ _ _ _ _ d9.rd1 (db.ext g1 cf.drew).rd FS FS FR FR) ?_
   rintro mo mp ⟨dw,rfl,a1,ah⟩
   refine⟨_,rfl,a1,?_⟩
   replace a1:=a1.of_drew
   have ji:=a1.size
   have gf:=cf.trans a1
   have bt:=gb.ext a1
   have bu:=gc.ext a1
   have bv:=d8.ext a1
   have bw:=d9.ext (o1) a1
   have gg:=ga.ext a1
   have gh:=gd.ext g1 a1
   replace ah:=ah.low (B':=fd.heap.size)<|A9 _
   refine Ay 181 [] [] [dw,zI ((1000002:Nat):Int)] Z Z Pa Ac (E0 _ _ _ _ ah.rd1 oM FS FR oM) ?_
   rintro mq m4 ⟨cg,rfl,a3,bg⟩
   refine⟨_,rfl,a3,?_⟩
   have jj:=a3.size
   have dc:=gf.trans a3
   have bx:=bt.ext a3
   have ar:=bu.ext a3
   have bz:=bv.ext a3
   have c0:=bw.ext (o1) a3
   have b3:=ah.ext (o1) a3
   have bh:=gg.ext a3
   have gi:=gh.ext g1 a3
   refine AK 183 [] [zP w2.heap.size] [zI<|(T.code.getD ((kk).toNat) Am.zero).b,cg,zP w2.heap.size] Z Z JI Ac (Bw _ ((T.code.getD ((kk).toNat) Am.zero).b) cg (D8 (CF (Cq (xs.getD ((kk).toNat) [])<|R.getD (((T.code.getD ((kk).toNat) Am.zero).b).toNat) [])<|R.getD ((kk).toNat) []) ((1000002:Nat):Int)) S w2.heap.size vo (Fz xs ((T.code.getD ((kk).toNat) Am.zero).a)<|Cq (xs.getD ((kk).toNat) [])<|R.getD (((T.code.getD ((kk).toNat) Am.zero).b).toNat) []) _ _ BO av.2.2.1 bg.rd1 (ar.ld (k:=0) sM) bh hSB (fun b hb=>zH<|c1 b hb) oM Hl hrb.2 Hm) ?_
   rintro mr fx ⟨rfl,a7,gj,gk⟩
   refine⟨_,rfl,?_⟩
   have jk:m4.heap.size≤fx.heap.size:=a7.size
   have gl:AD w fx:=a7.below dc (fun c hc=>Aa hwB (bh.low c hc)) dc.size
   have gm:=bx.chg a7 fun hm=>by have:=bh.low _ hm;have:=hFl _ hm;omega
   have gn:=ar.chg a7 fun hm=>cm hm
   have kj:=bz.chg a7 fun hm=>by have:=bh.low _ hm;have:=hFl _ hm;omega
   have kl:=gi.chg g1<|a7.sub fun b hb=>z1 _ hb
   have km:=c0.chg (o1) a7 fun c hc=>zH<|hFl c hc
   have kn:=b3.chg (o1) a7 fun c hc=>zH<|hFl c hc
   have ko:=bg.chg (o1) a7 fun c hc=>zH<|hFl c hc
   refine Aj<|Ad _ [0,0,0] Z<|Af 1 Z<|BP (kk-((1:Nat):Int)) Z Z (E1 sD sD) Ac<|Ae 1 Z ?_
   have hbe:=gk
   exact⟨(kk-1,Fz (Fz xs ((T.code.getD ((kk).toNat) Am.zero).a) (Cq (xs.getD ((kk).toNat) []) (R.getD (((T.code.getD ((kk).toNat) Am.zero).b).toNat) []))) ((T.code.getD ((kk).toNat) Am.zero).b) (D8 (CF (Cq (xs.getD ((kk).toNat) []) (R.getD (((T.code.getD ((kk).toNat) Am.zero).b).toNat) [])) (R.getD ((kk).toNat) [])) ((1000002:Nat):Int)),gj),_,rfl,zR,⟨gl,gm,gn,oM,hbe,Kg,Kh,Kf⟩,zD⟩
  refine Av false Z Z (A8 d4) Ac<|Ae 1 Z<|Ak Z<|fQ [0,0] Z ?_
  by_cases dd:(T.code.getD ((kk).toNat) Am.zero).op=((7:Nat):Int)
  ·refine Av true Z Z (A7 dd) Ac<|Ae 1 Z<|Ah Z<|B7 _ [0,0,1,0,3,4] mixed (by kernel_rfl) ?_
   have hio:=(hform kk.toNat hkn).i7 oM
   have hra:=hxs (T.code.getD kk.toNat Am.zero).a.toNat oM
   have co:=hra.1
   refine Af 1 Z<|Ao (p:=zP f1.drew.heap.size) 1 BW Z Z Ac<|Ai (p:=Au (zP f1.drew.heap.size) 1) (.inl Z) (zI<|(T.code.getD ((kk).toNat) Am.zero).a) AG Z (a6.ldp (i:=1) sM) Ac<|Af 1 Z<|Ay 181 [] [] [a9,zI ((1000002:Nat):Int)] Z Z Pa Ac (E0 _ _ _ _ an.rd oM FS FR oM) ?_
   rintro ms m5 ⟨ch,rfl,a4,ai⟩
   refine⟨_,rfl,a4,?_⟩
   replace a4:=a4.of_drew
   have jl:=a4.size
   have de:=ad.trans a4
   have ci:=bm.ext a4
   have b4:=az.ext a4
   have cj:=a6.ext a4
   have bi:=ae.ext a4
   have go:=an.ext g1 a4
   replace ai:=ai.low (B':=f2.heap.size)<|A9 _
   refine AK 183 [] [zP w2.heap.size] [zI<|(T.code.getD ((kk).toNat) Am.zero).a,ch,zP w2.heap.size] Z Z JI Ac (Bw _ ((T.code.getD ((kk).toNat) Am.zero).a) ch (D8 (xs.getD ((kk).toNat) []) ((1000002:Nat):Int)) S w2.heap.size vo (xs) _ _ BO av.2.1 ai.rd1 (b4.ld (k:=0) sM) bi hSB (fun b hb=>zH<|c1 b hb) oM Hl hra.2 Hm) ?_
   rintro mt lv ⟨rfl,am,gp,gq⟩
   refine⟨_,rfl,?_⟩
   have jm:m5.heap.size≤lv.heap.size:=am.size
   have gr:AD w lv:=am.below de (fun c hc=>Aa hwB (bi.low c hc)) de.size
   have gs:=ci.chg am fun hm=>by have:=bi.low _ hm;have:=hFl _ hm;omega
   have gt:=b4.chg am fun hm=>cm hm
   have kp:=cj.chg am fun hm=>by have:=bi.low _ hm;have:=hFl _ hm;omega
   have kq:=go.chg g1<|am.sub fun b hb=>z1 _ hb
   have kr:=ai.chg (o1) am fun c hc=>zH<|hFl c hc
   refine Aj<|Ad _ [0,0,0] Z<|Af 1 Z<|BP (kk-((1:Nat):Int)) Z Z (E1 sD sD) Ac<|Ae 1 Z ?_
   have hbe:=gq
   exact⟨(kk-1,Fz xs ((T.code.getD ((kk).toNat) Am.zero).a) (D8 (xs.getD ((kk).toNat) []) ((1000002:Nat):Int)),gp),_,rfl,zR,⟨gr,gs,gt,oM,hbe,Kg,Kh,Kf⟩,zD⟩
  refine Av false Z Z (A8 dd) Ac<|Ae 1 Z<|Ak Z<|A4<|Ad _ [0,0,0] Z<|Af 1 Z ?_
  refine BP (kk-((1:Nat):Int)) Z Z (E1 sD sD) Ac<|Ae 1 Z ?_
  have hbe:=ae
  exact⟨(kk-1,xs,us),_,rfl,zR,⟨ad,bm,az,oM,hbe,Kg,Kh,Kf⟩,zD⟩
 refine DO false Z Z (A8 eg) Ac<|Aj<|Ak Z<|A6<|AA<|AA<|Ax<|fQ [2,0] Z<|Ai (p:=zP w2.heap.size) (.inr Z) vo IV Z (a8.ld (k:=0) sM) Ac<|Ae 1 Z<|A3 ?_
 have hfin:xs=Jy T.code R oT ws:=by have h9:=hadj;rw[show(kk+1).toNat=0 from by omega,gw]at h9;exact h9
 exact Al [6] Z vo Z ⟨_,rfl,cn,(by rw[← hfin];exact(hbl.done hSB)),hbl.cap⟩
theorem I0 (w:World)(m:Nat)(ni:Nat)(S:List Nat)(ipT:Int)(vtc vtg vtx:Value)(T:Tp)(oT:Sr)(vl:Value)(L:List (Sr))(b5:∀b∈S,b<w.heap.size)(_hipT:Bd ipT)(htcT:RN [] (CK 4 Gs) w.heap vtc T.code)(htgT:RN [] (CK 2 FV) w.heap vtg T.grd)(htoT:RN [] (Bl rI) w.heap vtx oT)(hL:RN [] (Bl (Bl rI)) w.heap vl L)(hqL:Dm vl)(hm:1≤m∧m≤13)(hni:ipT=(ni:Int)∧ni≤1000)(hsL:CG m L)(hlL:L.length=T.code.length∧0<L.length)(hlt:T.code.length≤4000)(hform:∀k,k<T.code.length→C3 ni k (T.code.getD k Am.zero)) :
  Calls Tryz.prog 68 #[(.agg #[(zI ipT),vtc,vtg,vtx]),vl] w (fun e w'=>∃v0:Value,e=.returned v0∧AD w w'∧RN S (Bl (Bl rI)) w'.heap v0 (Vp ni m T.code L)∧Dm v0):=by
 refine Aw [.agg #[zI ipT,vtc,vtg,vtx],vl] 54 Tryz.func68 Z Z sM ?_
 have bt:AD w w:=AD.refl w
 have hl_vtx:=htoT.lenL
 unfold maxLen at hl_vtx
 have cz:=hL.lenL
 unfold maxLen at cz
 have bu:=hsL 0 oM
 have c9:=bu.1
 refine fQ [3,0] Z (BC (cs:=#[zI ipT,vtc,vtg,vtx]) Z Ac fun w1 b6 ca b7=>?_)
 have b8:=b6.size
 have b9:=bt.trans b6
 replace b7:BX w1.heap w.heap.size [zI ipT,vtc,vtg,vtx]:=b7
 refine Ae 1 Z<|fQ [3,0,0] Z (Dt (BD rI 2) o1 BJ BR Ac fun v2 w2 b2 cb bv=>?_)
 have ba:=b2.size
 have bb:=b9.trans b2
 have ai:=b7.ext b2
 refine Ae 2 Z<|A0<|fQ [0,0,0] Z<|Af 1 Z<|AU (v:=vl) BJ Z hL.slL Ac ?_
 have cc:((0:Nat):Int)<(L.length:Int):=oM
 refine C0 true Z Z (A7 cc) Ac<|Aj<|Ah Z<|Ad _ [0,0,2,0,0] Z<|Af 1 Z<|AH (v:=vl) 0 BJ BR Z Z hL.slL Z sD Ac ?_
 obtain⟨bw,cd,bx⟩:=RN.getL (w:=w) g1 [] (k:=0) hL sD
 have ao:=bx.lenL
 unfold maxLen at ao
 refine Ai (p:=AE vl 0 1) (.inr Z) bw BN Z (cd _<|AB.of_ext [] bb) Ac<|AU (v:=bw) Bu Z bx.slL Ac<|Ae 1 Z<|A0<|fQ [0,2,0] Z<|Ao (p:=zP w.heap.size) 0 IW Z Z Ac<|Ai (p:=Au (zP w.heap.size) 0) (.inr Z) (zI ipT) AG Z (ai.ldp (i:=0) sM) Ac<|Ae 1 Z<|A5 ?_
 refine B8 (S:=Nat×Value) (fun⟨k,vo⟩=>([(5,vo),(19,zI (k:Int)),(1,vl),(2,zP w.heap.size),(6,zI (((L.getD 0 []).length:Nat):Int)),(18,zI ipT)])) (fun⟨k,vo⟩ W=>AD w W∧Fr (BD (BD rI 2) 27) w1.heap.size W.heap.size W.heap vo (List.replicate k<|List.replicate m 0)∧BX W.heap w.heap.size [zI ipT,vtc,vtg,vtx]∧k≤ni∧w.heap.size<w1.heap.size∧w1.heap.size≤W.heap.size) (fun⟨k,vo⟩=>ni-k) (0,v2) ⟨rfl,rfl,rfl,rfl,rfl,rfl,trivial⟩ ⟨bb,bv.up o2,ai,oM,oM,oM⟩ ?_
 clear bt bu ca b6 bv cb b2 ba bb ao
 rintro⟨k,vo⟩ ρ6 w6 ⟨b3,a4,a2,bz,ce,cf⟩
 have bc:w.heap.size≤w6.heap.size:=b3.size
 have cx:=a2.lt
 refine fQ [0] Z ?_
 by_cases c0:(k:Int)<ipT
 ·refine AJ true Z Z (A7 c0) Ac<|Aj<|A0<|Ah Z<|A4<|A0<|A5<|Ad _ [0,0,3,3,4,0] Z<|Af 2 Z (Gd (n:=(L.getD 0 []).length) Bu BL Z Z Z sD Ac fun d5 da ab cg bd=>?_)
  have c1:=ab.size
  have be:=b3.trans ab
  have a5:=a4.ext (o2) ab
  have a6:=a2.ext ab
  refine BQ (u:=d5) (B:=w6.heap.size) o1 BJ BR Z Z bd (by first|exact A9 _|omega) Ac fun d6 d7 ac ch bf=>?_
  have c2:=ac.size
  have ap:=be.trans ac
  have a7:=a5.ext (o2) ac
  have a8:=a6.ext ac
  refine Nd o1 (v:=vo) (a:=d6) BJ BR Z Z Z a7 oM bf oM oM sD (by unfold maxLen;first|omega|assumption|(simp;done)|(simp;omega)) Ac fun d8 d1 db ak aq bg=>?_
  have bh:AD w d1:=ak.below ap (fun c hc=>Aa b9.size (aq c hc).1) ap.size
  have c3:d7.heap.size≤d1.heap.size:=ak.size
  have bi:=a8.chg ak fun hm=>zH<|aq _ hm
  exact Ae 1 Z<|Ad _ [0,0] Z<|AS ((k+1:Nat):Int) Z Z (Bg oM oM) Ac<|Ae 1 Z ⟨(k+1,d8),_,rfl,zR,⟨bh,(by have h:=bg.up o2;rw[c9,← List.replicate_succ']at h;exact h),bi,oM,oM,oM⟩,zD⟩
 refine AJ false Z Z (A8 c0) Ac<|Aj<|A0<|Ak Z<|A6<|AA<|AA<|Ax<|A0<|fQ [0,2,0,0] Z ?_
 have hOw:=a4
 rw[show k=ni from by omega]at hOw
 obtain⟨ci,F0,bj,cj⟩:=I8.ofFr (S:=S) hOw (fun b hb=>zH<|b5 b hb)
 obtain⟨BO,hBO⟩:∃b:Nat,b=w1.heap.size:=⟨_,rfl⟩
 rw[← hBO]at bj
 have hwB:w.heap.size≤BO:=by omega
 have hSB:∀b∈S,b<BO:=fun b hb=>zH<|b5 b hb
 obtain⟨B0,b4⟩:∃l:List Sr,l=(List.replicate ni (List.replicate m 0)):=⟨_,rfl⟩
 rw[← b4]at bj
 have ck:CG m B0:=by rw[b4];exact Jz m ni
 have bk:B0.length=ni:=by rw[b4,z5]
 refine Ao (p:=zP w.heap.size) 1 Ck Z Z Ac<|Ai (p:=Au (zP w.heap.size) 1) (.inr Z) vtc Dx Z (a2.ldp (i:=1) sM) Ac<|AU (v:=vtc) Dg Z htcT.isSl Ac<|Ae 1 Z<|A5<|B8 (S:=Nat×List Value) (fun⟨j,us⟩=>([(30,zI (j:Int)),(1,vl),(5,vo),(28,vtc),(29,zI (T.code.length:Int))])) (fun⟨j,us⟩ W=>AD w W∧j≤T.code.length∧I8 27 S BO W.heap vo (S5 T.code L j B0) us F0) (fun⟨j,us⟩=>T.code.length-j) (0,ci) ⟨rfl,rfl,rfl,rfl,rfl,trivial⟩ ⟨b3,oM,bj⟩ ?_
 clear b8 b9 a2 a4 b3 bc cj
 rintro⟨j,us⟩ ρ14 cy ⟨ad,bl,hbl⟩
 have c4:w.heap.size≤cy.heap.size:=ad.size
 have hFl:∀b∈F0,b<cy.heap.size:=hbl.lt
 refine fQ [0] Z ?_
 by_cases ar:(j:Int)<(T.code.length:Int)
 ·refine AJ true Z Z (A7 ar) Ac<|Aj<|A0<|Ah Z<|A4<|A0<|A5<|fQ [0,0,2,3,0,4] Z ?_
  have hjk:j<T.code.length:=by omega
  refine Af 1 Z<|AH (v:=vtc) j Dg BI Z Z htcT.isSl Z sD Ac ?_
  obtain⟨cs16,bm,bn⟩:=htcT.get Ap Am.zero (k:=j) sD
  obtain⟨rfl,cl⟩:=DG bm
  refine AC (p:=AE vtc j 4) (.inr Z) [zI<|(T.code.getD j Am.zero).op,zI<|(T.code.getD j Am.zero).a,zI<|(T.code.getD j Am.zero).b,zI<|(T.code.getD j Am.zero).num] Bx Z (fun d9 cm=>bn d9<|AB.of_ext []<|ad.trans cm) Z Ac (B9 (z:=.agg #[zI 0,zI 0,zI 0,zI 0]) NS Ac fun d2 a9 cn al=>?_)
  have c5:=a9.size
  have au:=ad.trans a9
  have co:=hbl.ext a9
  replace al:BX d2.heap cy.heap.size [zI 0,zI 0,zI 0,zI 0]:=al
  refine Af 1 Z (Bh (vs:=[zI<|(T.code.getD j Am.zero).op,zI<|(T.code.getD j Am.zero).a,zI<|(T.code.getD j Am.zero).b,zI<|(T.code.getD j Am.zero).num]) Bx Z Z (by intro u hu;simp only[ze,z2,or_false]at hu;rcases hu with rfl|rfl|rfl|rfl <;> first|exact⟨rfl,rfl⟩) al Z Z Ac fun d0 am cp a3=>?_)
  replace a3:BX d0.heap cy.heap.size [zI ((T.code.getD j Am.zero).op),zI ((T.code.getD j Am.zero).a),zI ((T.code.getD j Am.zero).b),zI ((T.code.getD j Am.zero).num)]:=a3
  have ae:AD w d0:=am.below au (fun _ h=>zE h) au.size
  have c6:d2.heap.size≤d0.heap.size:=am.size
  have af:=hbl.ext<|am.below a9 (fun _ h=>zE h) a9.size
  refine Aj<|fQ [0,2,0] Z<|Ao (p:=zP cy.heap.size) 0 DU Z Z Ac<|Ai (p:=Au (zP cy.heap.size) 0) (.inr Z) (zI<|(T.code.getD j Am.zero).op) AG Z (a3.ldp (i:=0) sM) Ac ?_
  by_cases av:(T.code.getD j Am.zero).op=((1:Nat):Int)
  ·refine Av true Z Z (A7 av) Ac<|Aj<|Ah Z<|B7 _ [0,0,1,0,0,1,0,1,0,0,0,1,3,0,4] mixed (by kernel_rfl) ?_
   have hio:=(hform j hjk).i1 oM
   have hra:=KU (cs:=T.code) (L:=L) (B:=B0) (fun q hq=>by rw[bk];exact hform q hq) ck j oM (T.code.getD j Am.zero).num.toNat (by rw[Ih,bk];omega)
   have cq:=hra.1
   have hLj:=hsL j oM
   have cr:=hLj.1
   have hbn:(S5 T.code L j B0).length=ni:=by rw[Ih,bk]
   refine Af 1 Z<|Ao (p:=zP cy.heap.size) 3 Ec Z Z Ac<|Ai (p:=Au (zP cy.heap.size) 3) (.inl Z) (zI<|(T.code.getD j Am.zero).num) AG Z (a3.ldp (i:=3) sM) Ac<|Af 1 Z<|Ao (p:=zP cy.heap.size) 3 Ec Z Z Ac<|Ai (p:=Au (zP cy.heap.size) 3) (.inl Z) (zI<|(T.code.getD j Am.zero).num) AG Z (a3.ldp (i:=3) sM) Ac ?_
   refine AH (v:=vo) (((T.code.getD j Am.zero).num).toNat) BJ BR Z Z (af.done hSB).none.slL oM sD Ac ?_
   obtain⟨aw,bo,an⟩:=af.getF (k:=((T.code.getD j Am.zero).num).toNat) sD
   have ax:=an.lenL
   unfold maxLen at ax
   refine Ai (p:=AE vo (((T.code.getD j Am.zero).num).toNat) 1) (.inl Z) aw BN Z bo Ac<|Af 2 Z<|AH (v:=vl) j BJ BR Z Z hL.slL Z sD Ac ?_
   obtain⟨ay,bp,az⟩:=RN.getL (w:=w) g1 [] (k:=j) hL sD
   have b0:=az.lenL
   unfold maxLen at b0
   refine Ai (p:=AE vl j 1) (.inl Z) ay BN Z (bp _<|AB.of_ext [] ae.drew) Ac<|Ay 129 [] [] [aw,ay] Z Z Rm Ac (FB _ _ _ _ _ an.rd (az.ext g1 ae.drew).rd oM oM hra.2 hLj.2) ?_
   rintro dc d3 ⟨aj,rfl,a1,a0⟩
   refine⟨_,rfl,a1,?_⟩
   replace a1:=a1.of_drew
   have c7:=a1.size
   have b1:=ae.trans a1
   have ag:=a3.ext a1
   have ah:=af.ext a1
   have bq:=an.ext g1 a1
   replace a0:=a0.low (B':=d0.heap.size)<|A9 _
   refine AH (v:=vo) (((T.code.getD j Am.zero).num).toNat) BJ BR Z Z (ah.done hSB).none.slL oM sD Ac ?_
   refine TF (v:=vo) (u:=aj) (w:=d3) Pb Z Z ah (RN.of_fr1 a0 fun b hb=>by rcases zi.1 hb with hb|hb;(have:=b5 b hb;omega);(have:=hFl b hb;omega)) sD Ac fun d4 aa ct br=>?_
   have c8:d3.heap.size≤d4.heap.size:=aa.size
   have bs:AD w d4:=aa.below b1 (fun c hc=>Aa hwB (ah.low c hc)) b1.size
   have cu:=ag.chg aa fun hm=>by have:=ah.low _ hm;have:=hFl _ hm;omega
   have cv:=bq.chg g1<|aa.sub fun b hb=>z1 _ hb
   have cw:=a0.chg (o1) aa fun c hc=>zH<|hFl c hc
   refine Aj<|Ad _ [0,0] Z<|AS ((j+1:Nat):Int) Z Z (Bg oM sD) Ac<|Ae 1 Z ?_
   have hbe:=br
   exact⟨(j+1,us.set (((T.code.getD j Am.zero).num).toNat) aj),_,rfl,zR,⟨bs,oM,(by first|(rw[Lu oM];exact hbe)|(rw[Lv oM];exact hbe))⟩,zD⟩
  refine Av false Z Z (A8 av) Ac<|Aj<|Ak Z<|A4<|Ad _ [0,0] Z<|AS ((j+1:Nat):Int) Z Z (Bg oM sD) Ac<|Ae 1 Z ?_
  have hbe:=af
  exact⟨(j+1,us),_,rfl,zR,⟨ae,oM,(by first|(rw[Lu oM];exact hbe)|(rw[Lv oM];exact hbe))⟩,zD⟩
 exact AJ false Z Z (A8 ar) Ac<|Aj<|A0<|Ak Z<|A6<|AA<|AA<|Ax<|fQ [0,0] Z<|Ae 2 Z<|A3<|Al [4] Z vo Z ⟨_,rfl,ad,(by have h9:=(hbl.done hSB);rw[show j=T.code.length from by omega,b4]at h9;exact h9),hbl.cap⟩
theorem Jd (w:World)(r:Int)(vm:Nat)(m:Int)(_hr:Bd r)(hcm:Hp w.heap (zP vm)=some (zI m))(_hm:Bd m)(hm:0≤m∧m≤1000000) :
  Calls Tryz.prog 132 #[zI r,zP vm] w (fun e w'=>e=.returned (.bool (!(decide (0≤r) && decide (r≤m-1))))∧AD w w'):=by
 refine Aw [zI r,zP vm] 9 Tryz.func132 Z Z sM ?_
 have a0:AD w w:=AD.refl w
 refine fR Z<|fQ [0,2,0,0,0,0] Z<|Af 1 Z<|Ai (.inr Z) (zI m) AG Z (Bk a0 hcm) Ac ?_
 refine BP (m-((1:Nat):Int)) Z Z (E1 sD sD) Ac ?_
 exact AF 72 [] [] [zI r,zI ((0:Nat):Int),zI (m-((1:Nat):Int))] Z Z EA Ac (.bool (decide (((0:Nat):Int)≤r) && decide (r≤(m-((1:Nat):Int))))) (fun wq=>B5 wq _ _ _ _hr oM oM)<|BF (!(decide (((0:Nat):Int)≤r) && decide (r≤(m-((1:Nat):Int))))) Z Z Ac<|Ae 1 Z<|A3<|Al [3] Z (.bool (!(decide (((0:Nat):Int)≤r) && decide (r≤(m-((1:Nat):Int)))))) Z ⟨AQ (by first|rfl|simp_all),a0⟩
theorem I1 {p:Prop}(h:p:=by first|rfl|exact AQ (A7 oM)|(exfalso;(try unfold C3 at hf);omega)):p:=h
theorem EK {p:Prop}(h:p:=by rw[A7 oM,A7 oM];rfl):p:=h
theorem Is (w:World)(ni:Nat)(ipT:Int)(vtc vtg vtx:Value)(T:Tp)(oT:Sr)(c:Am)(k:Int)(_hipT:Bd ipT)(htcT:RN [] (CK 4 Gs) w.heap vtc T.code)(htgT:RN [] (CK 2 FV) w.heap vtg T.grd)(htoT:RN [] (Bl rI) w.heap vtx oT)(hc:GE c)(_hk:Bd k)(hip:ipT=(ni:Int)∧ni≤12)(hk:0≤k∧k≤4000)(hf:C3 ni k.toNat c) :
  Calls Tryz.prog 131 #[(.agg #[(zI ipT),vtc,vtg,vtx]),(.agg #[(zI c.op),(zI c.a),(zI c.b),(zI c.num)]),zI k] w (fun e w'=>e=.returned (.bool true)∧AD w w'):=by
 refine Aw [.agg #[zI ipT,vtc,vtg,vtx],.agg #[zI c.op,zI c.a,zI c.b,zI c.num],zI k] 81 Tryz.func131 Z Z sM ?_
 have af:AD w w:=AD.refl w
 have hl_vtx:=htoT.lenL
 unfold maxLen at hl_vtx
 refine fQ [3,3,0] Z (BC (cs:=#[zI ipT,vtc,vtg,vtx]) Z Ac fun w1 ac am a8=>?_)
 have ag:=ac.size
 have ah:=af.trans ac
 replace a8:BX w1.heap w.heap.size [zI ipT,vtc,vtg,vtx]:=a8
 have an:=a8.lt
 refine BC (cs:=#[zI c.op,zI c.a,zI c.b,zI c.num]) Z Ac fun w2 a9 ao a0=>?_
 have ai:=a9.size
 have a1:=ah.trans a9
 have a2:=a8.ext a9
 replace a0:BX w2.heap w1.heap.size [zI c.op,zI c.a,zI c.b,zI c.num]:=a0
 refine Ae 1 Z<|A0<|fQ [0,2] Z<|Ao (p:=zP w1.heap.size) 0 DU Z Z Ac<|Ai (p:=Au (zP w1.heap.size) 0) (.inr Z) (zI c.op) AG Z (a0.ldp (i:=0) sM) Ac<|Aj<|A5<|fQ [0,0] Z ?_
 by_cases ad:c.op=((1:Nat):Int)
 ·refine Av true Z Z (A7 ad) Ac<|Ae 1 Z<|Ah Z<|fQ [0,2,0,0,0,2,0,0,0,0,2,0,2,0,0,0,0] Z ?_
  unfold C3 at hf
  refine Ao (p:=zP w1.heap.size) 1 BW Z Z Ac<|Ai (p:=Au (zP w1.heap.size) 1) (.inr Z) (zI c.a) AG Z (a0.ldp (i:=1) sM) Ac ?_
  have aj:c.a=((0:Nat):Int):=oM
  refine Av true Z Z (A7 aj) Ac<|Af 1 Z<|Ao (p:=zP w1.heap.size) 2 BU Z Z (Ag (e:=14) Z Z Z)<|Ai (p:=Au (zP w1.heap.size) 2) (.inr Z) (zI c.b) AG Z (a0.ldp (i:=2) sM) (Ag (e:=14) Z Z Z) ?_
  have ak:c.b=((0:Nat):Int):=oM
  refine Av true Z Z (A7 ak) (Ag (e:=14) Z Z Z)<|Af 2 Z<|Ao (p:=zP w1.heap.size) 3 Ec Z Z (Ag (e:=19) Z Z Z)<|Ai (p:=Au (zP w1.heap.size) 3) (.inr Z) (zI c.num) AG Z (a0.ldp (i:=3) sM) (Ag (e:=19) Z Z Z)<|Ao (p:=zP w.heap.size) 0 IW Z Z (Ag (e:=19) Z Z Z)<|Ai (p:=Au (zP w.heap.size) 0) (.inr Z) (zI ipT) AG Z (a2.ldp (i:=0) sM) (Ag (e:=19) Z Z Z) ?_
  refine BP (ipT-((1:Nat):Int)) Z Z (E1 sD sD) (Ag (e:=19) Z Z Z) ?_
  refine AF 72 [] [] [zI c.num,zI ((0:Nat):Int),zI (ipT-((1:Nat):Int))] Z Z EA (Ag (e:=19) Z Z Z) (.bool (decide (((0:Nat):Int)≤c.num) && decide (c.num≤(ipT-((1:Nat):Int))))) (fun wq=>B5 wq _ _ _ hc.2.2.2 oM oM) ?_
  rw[show(decide (((0:Nat):Int)≤c.num) && decide (c.num≤(ipT-((1:Nat):Int))))=true from EK]
  exact Ae 2 Z<|A3<|AM<|At<|Al [6] Z (.bool true) Z ⟨I1,a1⟩
 refine Av false Z Z (A8 ad) Ac<|Ae 1 Z<|Ak Z<|fQ [0,0] Z ?_
 by_cases ae:c.op=((2:Nat):Int)
 ·refine Av true Z Z (A7 ae) Ac<|Ae 1 Z<|Ah Z<|fQ [0,2,0,0,0,2,0,0,0,0,2,0,0,0] Z ?_
  unfold C3 at hf
  refine Ao (p:=zP w1.heap.size) 1 BW Z Z Ac<|Ai (p:=Au (zP w1.heap.size) 1) (.inr Z) (zI c.a) AG Z (a0.ldp (i:=1) sM) Ac ?_
  have al:c.a=((0:Nat):Int):=oM
  refine Av true Z Z (A7 al) Ac<|Af 1 Z<|Ao (p:=zP w1.heap.size) 2 BU Z Z (Ag (e:=32) Z Z Z)<|Ai (p:=Au (zP w1.heap.size) 2) (.inr Z) (zI c.b) AG Z (a0.ldp (i:=2) sM) (Ag (e:=32) Z Z Z) ?_
  have aa:c.b=((0:Nat):Int):=oM
  refine Av true Z Z (A7 aa) (Ag (e:=32) Z Z Z)<|Af 2 Z<|Ao (p:=zP w1.heap.size) 3 Ec Z Z (Ag (e:=37) Z Z Z)<|Ai (p:=Au (zP w1.heap.size) 3) (.inr Z) (zI c.num) AG Z (a0.ldp (i:=3) sM) (Ag (e:=37) Z Z Z)<|AF 116 [] [] [zI c.num] Z Z TV (Ag (e:=37) Z Z Z) (.bool<|Hq c.num) (fun wq=>Fk wq _ hc.2.2.2) ?_
  rw[show(Hq c.num)=true from Cz.2 ⟨zO,zO⟩]
  exact Ae 2 Z<|A3<|AM<|At<|Al [6] Z (.bool true) Z ⟨I1,a1⟩
 refine Av false Z Z (A8 ae) Ac<|Ae 1 Z<|Ak Z<|A0<|fQ [0,0] Z ?_
 by_cases a3:c.op=((3:Nat):Int)
 ·refine Av true Z Z (A7 a3) Ac<|Ae 1 Z<|Ah Z<|A4<|Ah Z<|fQ [0,2,0,0,0,0,0,2,0,0,0,0,0,0,2,0,0,0] Z ?_
  unfold C3 at hf
  refine Ao (p:=zP w1.heap.size) 1 BW Z Z Ac<|Ai (p:=Au (zP w1.heap.size) 1) (.inr Z) (zI c.a) AG Z (a0.ldp (i:=1) sM) Ac<|Af 1 Z ?_
  refine BP (k-((1:Nat):Int)) Z Z (E1 sD sD) Ac ?_
  refine AF 72 [] [] [zI c.a,zI ((0:Nat):Int),zI (k-((1:Nat):Int))] Z Z EA Ac (.bool (decide (((0:Nat):Int)≤c.a) && decide (c.a≤(k-((1:Nat):Int))))) (fun wq=>B5 wq _ _ _ hc.2.1 oM oM) ?_
  rw[show(decide (((0:Nat):Int)≤c.a) && decide (c.a≤(k-((1:Nat):Int))))=true from EK]
  refine Af 1 Z<|Ao (p:=zP w1.heap.size) 2 BU Z Z (Ag (e:=52) Z Z Z)<|Ai (p:=Au (zP w1.heap.size) 2) (.inr Z) (zI c.b) AG Z (a0.ldp (i:=2) sM) (Ag (e:=52) Z Z Z)<|Af 1 Z ?_
  refine BP (k-((1:Nat):Int)) Z Z (E1 sD sD) (Ag (e:=52) Z Z Z) ?_
  refine AF 72 [] [] [zI c.b,zI ((0:Nat):Int),zI (k-((1:Nat):Int))] Z Z EA (Ag (e:=52) Z Z Z) (.bool (decide (((0:Nat):Int)≤c.b) && decide (c.b≤(k-((1:Nat):Int))))) (fun wq=>B5 wq _ _ _ hc.2.2.1 oM oM) ?_
  rw[show(decide (((0:Nat):Int)≤c.b) && decide (c.b≤(k-((1:Nat):Int))))=true from EK]
  exact Af 2 Z<|Ao (p:=zP w1.heap.size) 3 Ec Z Z (Ag (e:=59) Z Z Z)<|Ai (p:=Au (zP w1.heap.size) 3) (.inr Z) (zI c.num) AG Z (a0.ldp (i:=3) sM) (Ag (e:=59) Z Z Z)<|Av (decide (c.num=((0:Nat):Int))) Z Z Z (Ag (e:=59) Z Z Z)<|Ae 2 Z<|A3<|AM<|At<|Al [6] Z (.bool<|decide (c.num=((0:Nat):Int))) Z ⟨I1,a1⟩
 refine Av false Z Z (A8 a3) Ac<|Ae 1 Z<|Ak Z<|fQ [0,0] Z ?_
 by_cases a4:c.op=((4:Nat):Int)
 ·refine Av true Z Z (A7 a4) Ac<|Ae 1 Z<|Ah Z<|A4<|Ah Z<|fQ [0,2,0,0,0,0,0,2,0,0,0,0,0,0,2,0,0,0] Z ?_
  unfold C3 at hf
  refine Ao (p:=zP w1.heap.size) 1 BW Z Z Ac<|Ai (p:=Au (zP w1.heap.size) 1) (.inr Z) (zI c.a) AG Z (a0.ldp (i:=1) sM) Ac<|Af 1 Z ?_
  refine BP (k-((1:Nat):Int)) Z Z (E1 sD sD) Ac ?_
  refine AF 72 [] [] [zI c.a,zI ((0:Nat):Int),zI (k-((1:Nat):Int))] Z Z EA Ac (.bool (decide (((0:Nat):Int)≤c.a) && decide (c.a≤(k-((1:Nat):Int))))) (fun wq=>B5 wq _ _ _ hc.2.1 oM oM) ?_
  rw[show(decide (((0:Nat):Int)≤c.a) && decide (c.a≤(k-((1:Nat):Int))))=true from EK]
  refine Af 1 Z<|Ao (p:=zP w1.heap.size) 2 BU Z Z (Ag (e:=52) Z Z Z)<|Ai (p:=Au (zP w1.heap.size) 2) (.inr Z) (zI c.b) AG Z (a0.ldp (i:=2) sM) (Ag (e:=52) Z Z Z)<|Af 1 Z ?_
  refine BP (k-((1:Nat):Int)) Z Z (E1 sD sD) (Ag (e:=52) Z Z Z) ?_
  refine AF 72 [] [] [zI c.b,zI ((0:Nat):Int),zI (k-((1:Nat):Int))] Z Z EA (Ag (e:=52) Z Z Z) (.bool (decide (((0:Nat):Int)≤c.b) && decide (c.b≤(k-((1:Nat):Int))))) (fun wq=>B5 wq _ _ _ hc.2.2.1 oM oM) ?_
  rw[show(decide (((0:Nat):Int)≤c.b) && decide (c.b≤(k-((1:Nat):Int))))=true from EK]
  exact Af 2 Z<|Ao (p:=zP w1.heap.size) 3 Ec Z Z (Ag (e:=59) Z Z Z)<|Ai (p:=Au (zP w1.heap.size) 3) (.inr Z) (zI c.num) AG Z (a0.ldp (i:=3) sM) (Ag (e:=59) Z Z Z)<|Av (decide (c.num=((0:Nat):Int))) Z Z Z (Ag (e:=59) Z Z Z)<|Ae 2 Z<|A3<|AM<|At<|Al [6] Z (.bool<|decide (c.num=((0:Nat):Int))) Z ⟨I1,a1⟩
 refine Av false Z Z (A8 a4) Ac<|Ae 1 Z<|Ak Z<|fQ [0,0] Z ?_
 by_cases a5:c.op=((5:Nat):Int)
 ·refine Av true Z Z (A7 a5) Ac<|Ae 1 Z<|Ah Z<|A4<|Ah Z<|fQ [0,2,0,0,0,0,0,2,0,0,0,0,0,0,2,0,0,0] Z ?_
  unfold C3 at hf
  refine Ao (p:=zP w1.heap.size) 1 BW Z Z Ac<|Ai (p:=Au (zP w1.heap.size) 1) (.inr Z) (zI c.a) AG Z (a0.ldp (i:=1) sM) Ac<|Af 1 Z ?_
  refine BP (k-((1:Nat):Int)) Z Z (E1 sD sD) Ac ?_
  refine AF 72 [] [] [zI c.a,zI ((0:Nat):Int),zI (k-((1:Nat):Int))] Z Z EA Ac (.bool (decide (((0:Nat):Int)≤c.a) && decide (c.a≤(k-((1:Nat):Int))))) (fun wq=>B5 wq _ _ _ hc.2.1 oM oM) ?_
  rw[show(decide (((0:Nat):Int)≤c.a) && decide (c.a≤(k-((1:Nat):Int))))=true from EK]
  refine Af 1 Z<|Ao (p:=zP w1.heap.size) 2 BU Z Z (Ag (e:=52) Z Z Z)<|Ai (p:=Au (zP w1.heap.size) 2) (.inr Z) (zI c.b) AG Z (a0.ldp (i:=2) sM) (Ag (e:=52) Z Z Z)<|Af 1 Z ?_
  refine BP (k-((1:Nat):Int)) Z Z (E1 sD sD) (Ag (e:=52) Z Z Z) ?_
  refine AF 72 [] [] [zI c.b,zI ((0:Nat):Int),zI (k-((1:Nat):Int))] Z Z EA (Ag (e:=52) Z Z Z) (.bool (decide (((0:Nat):Int)≤c.b) && decide (c.b≤(k-((1:Nat):Int))))) (fun wq=>B5 wq _ _ _ hc.2.2.1 oM oM) ?_
  rw[show(decide (((0:Nat):Int)≤c.b) && decide (c.b≤(k-((1:Nat):Int))))=true from EK]
  exact Af 2 Z<|Ao (p:=zP w1.heap.size) 3 Ec Z Z (Ag (e:=59) Z Z Z)<|Ai (p:=Au (zP w1.heap.size) 3) (.inr Z) (zI c.num) AG Z (a0.ldp (i:=3) sM) (Ag (e:=59) Z Z Z)<|Av (decide (c.num=((0:Nat):Int))) Z Z Z (Ag (e:=59) Z Z Z)<|Ae 2 Z<|A3<|AM<|At<|Al [6] Z (.bool<|decide (c.num=((0:Nat):Int))) Z ⟨I1,a1⟩
 refine Av false Z Z (A8 a5) Ac<|Ae 1 Z<|Ak Z<|Ad _ [0,0] Z ?_
 by_cases a6:c.op=((6:Nat):Int)
 ·refine Av true Z Z (A7 a6) Ac<|Ae 1 Z<|Ah Z<|fQ [0,2,0,0,0,0,0,2,0,0,0,0,0,0,2,0,0,0] Z ?_
  unfold C3 at hf
  refine Ao (p:=zP w1.heap.size) 1 BW Z Z Ac<|Ai (p:=Au (zP w1.heap.size) 1) (.inr Z) (zI c.a) AG Z (a0.ldp (i:=1) sM) Ac<|Af 1 Z ?_
  refine BP (k-((1:Nat):Int)) Z Z (E1 sD sD) Ac ?_
  refine AF 72 [] [] [zI c.a,zI ((0:Nat):Int),zI (k-((1:Nat):Int))] Z Z EA Ac (.bool (decide (((0:Nat):Int)≤c.a) && decide (c.a≤(k-((1:Nat):Int))))) (fun wq=>B5 wq _ _ _ hc.2.1 oM oM) ?_
  rw[show(decide (((0:Nat):Int)≤c.a) && decide (c.a≤(k-((1:Nat):Int))))=true from EK]
  refine Af 1 Z<|Ao (p:=zP w1.heap.size) 2 BU Z Z (Ag (e:=52) Z Z Z)<|Ai (p:=Au (zP w1.heap.size) 2) (.inr Z) (zI c.b) AG Z (a0.ldp (i:=2) sM) (Ag (e:=52) Z Z Z)<|Af 1 Z ?_
  refine BP (k-((1:Nat):Int)) Z Z (E1 sD sD) (Ag (e:=52) Z Z Z) ?_
  refine AF 72 [] [] [zI c.b,zI ((0:Nat):Int),zI (k-((1:Nat):Int))] Z Z EA (Ag (e:=52) Z Z Z) (.bool (decide (((0:Nat):Int)≤c.b) && decide (c.b≤(k-((1:Nat):Int))))) (fun wq=>B5 wq _ _ _ hc.2.2.1 oM oM) ?_
  rw[show(decide (((0:Nat):Int)≤c.b) && decide (c.b≤(k-((1:Nat):Int))))=true from EK]
  exact Af 2 Z<|Ao (p:=zP w1.heap.size) 3 Ec Z Z (Ag (e:=59) Z Z Z)<|Ai (p:=Au (zP w1.heap.size) 3) (.inr Z) (zI c.num) AG Z (a0.ldp (i:=3) sM) (Ag (e:=59) Z Z Z)<|Av (decide (c.num=((0:Nat):Int))) Z Z Z (Ag (e:=59) Z Z Z)<|Ae 2 Z<|A3<|AM<|At<|Al [6] Z (.bool<|decide (c.num=((0:Nat):Int))) Z ⟨I1,a1⟩
 refine Av false Z Z (A8 a6) Ac<|Ae 1 Z<|Ak Z<|fQ [0,0] Z ?_
 by_cases a7:c.op=((7:Nat):Int)
 ·refine Av true Z Z (A7 a7) Ac<|Ae 1 Z<|Ah Z<|fQ [0,2,0,0,0,0,0,2,0,0,0,0,2,0,0,0] Z ?_
  unfold C3 at hf
  refine Ao (p:=zP w1.heap.size) 1 BW Z Z Ac<|Ai (p:=Au (zP w1.heap.size) 1) (.inr Z) (zI c.a) AG Z (a0.ldp (i:=1) sM) Ac<|Af 1 Z ?_
  refine BP (k-((1:Nat):Int)) Z Z (E1 sD sD) Ac ?_
  refine AF 72 [] [] [zI c.a,zI ((0:Nat):Int),zI (k-((1:Nat):Int))] Z Z EA Ac (.bool (decide (((0:Nat):Int)≤c.a) && decide (c.a≤(k-((1:Nat):Int))))) (fun wq=>B5 wq _ _ _ hc.2.1 oM oM) ?_
  rw[show(decide (((0:Nat):Int)≤c.a) && decide (c.a≤(k-((1:Nat):Int))))=true from EK]
  refine Af 1 Z<|Ao (p:=zP w1.heap.size) 2 BU Z Z (Ag (e:=71) Z Z Z)<|Ai (p:=Au (zP w1.heap.size) 2) (.inr Z) (zI c.b) AG Z (a0.ldp (i:=2) sM) (Ag (e:=71) Z Z Z) ?_
  have ab:c.b=((0:Nat):Int):=oM
  exact Av true Z Z (A7 ab) (Ag (e:=71) Z Z Z)<|Af 2 Z<|Ao (p:=zP w1.heap.size) 3 Ec Z Z (Ag (e:=76) Z Z Z)<|Ai (p:=Au (zP w1.heap.size) 3) (.inr Z) (zI c.num) AG Z (a0.ldp (i:=3) sM) (Ag (e:=76) Z Z Z)<|Av (decide (c.num=((0:Nat):Int))) Z Z Z (Ag (e:=76) Z Z Z)<|Ae 2 Z<|A3<|AM<|At<|Al [6] Z (.bool<|decide (c.num=((0:Nat):Int))) Z ⟨I1,a1⟩
 exact Av false Z Z (A8 a7) Ac<|Ae 1 Z<|Ak Z<|A4<|fR Z<|A3<|Al [6] Z (.bool false) Z ⟨I1,a1⟩
theorem GQ (w:World)(a:Sr)(ipT:Int)(vtc vtg vtx:Value)(T:Tp)(oT:Sr)(_hipT:Bd ipT)(htcT:RN [] (CK 4 Gs) w.heap vtc T.code)(htgT:RN [] (CK 2 FV) w.heap vtg T.grd)(htoT:RN [] (Bl rI) w.heap vtx oT)(hip:ipT=(a.length:Int))(hR:Iz a T oT) :
  Calls Tryz.prog 71 #[(.agg #[(zI ipT),vtc,vtg,vtx])] w (fun e w'=>e=.returned (.bool true)∧AD w w'):=by
 refine Aw [.agg #[zI ipT,vtc,vtg,vtx]] 67 Tryz.func71 Z Z sM ?_
 have bm:AD w w:=AD.refl w
 have hl_vtx:=htoT.lenL
 unfold maxLen at hl_vtx
 have hK:=hR.k
 have hni:=hK.nb
 have hcl:=hK.cl
 have cn:=hK.gl
 have hol:=hK.ol
 have hpos:=hK.pos
 refine fQ [3,0] Z (BC (cs:=#[zI ipT,vtc,vtg,vtx]) Z Ac fun w1 b2 bw ab=>?_)
 have b3:=b2.size
 have bn:=bm.trans b2
 replace ab:BX w1.heap w.heap.size [zI ipT,vtc,vtg,vtx]:=ab
 refine Ae 1 Z<|A0<|fQ [0,2,0,0,0,0,2,0,0,0,0,0,2,0,0,0,0,0,2,0,0,0,0] Z<|Ao (p:=zP w.heap.size) 0 IW Z Z Ac<|Ai (p:=Au (zP w.heap.size) 0) (.inr Z) (zI ipT) AG Z (ab.ldp (i:=0) sM) Ac<|AF 72 [] [] [zI ipT,zI ((0:Nat):Int),zI ((12:Nat):Int)] Z Z EA Ac (.bool (decide (((0:Nat):Int)≤ipT) && decide (ipT≤((12:Nat):Int)))) (fun wq=>B5 wq _ _ _ _hipT oM oM) ?_
 rw[show(decide (((0:Nat):Int)≤ipT) && decide (ipT≤((12:Nat):Int)))=true from EK]
 refine BF false Z Z Ac<|Af 1 Z<|Ao (p:=zP w.heap.size) 1 Ck Z Z (Ag (e:=12) Z Z Z)<|Ai (p:=Au (zP w.heap.size) 1) (.inr Z) vtc Dx Z (ab.ldp (i:=1) sM) (Ag (e:=12) Z Z Z)<|AU (v:=vtc) Dg Z htcT.isSl (Ag (e:=12) Z Z Z) ?_
 have bx:¬(((3200:Nat):Int)<(T.code.length:Int)):=oM
 refine C0 false Z Z (A8 bx) (Ag (e:=12) Z Z Z)<|Af 2 Z<|Ao (p:=zP w.heap.size) 2 DT Z Z (Ag (e:=18) Z Z Z)<|Ai (p:=Au (zP w.heap.size) 2) (.inr Z) vtg GM Z (ab.ldp (i:=2) sM) (Ag (e:=18) Z Z Z)<|AU (v:=vtg) Ky Z htgT.isSl (Ag (e:=18) Z Z Z) ?_
 have bz:¬(((3200:Nat):Int)<(T.grd.length:Int)):=oM
 refine C0 false Z Z (A8 bz) (Ag (e:=18) Z Z Z)<|Af 2 Z<|Ao (p:=zP w.heap.size) 3 Es Z Z (Ag (e:=24) Z Z Z)<|Ai (p:=Au (zP w.heap.size) 3) (.inr Z) vtx BN Z (ab.ldp (i:=3) sM) (Ag (e:=24) Z Z Z)<|AU (v:=vtx) Bu Z htoT.slL (Ag (e:=24) Z Z Z)<|AF 72 [] [] [zI (oT.length:Int),zI ((1:Nat):Int),zI ((12:Nat):Int)] Z Z EA (Ag (e:=24) Z Z Z) (.bool (decide (((1:Nat):Int)≤(oT.length:Int)) && decide ((oT.length:Int)≤((12:Nat):Int)))) (fun wq=>B5 wq _ _ _ oM oM oM) ?_
 rw[show(decide (((1:Nat):Int)≤(oT.length:Int)) && decide ((oT.length:Int)≤((12:Nat):Int)))=true from EK]
 refine BF false Z Z (Ag (e:=24) Z Z Z)<|Ae 1 Z<|Ak Z<|A4<|fQ [0,2,0,3,4] Z<|Ao (p:=zP w.heap.size) 1 Ck Z Z Ac<|Ai (p:=Au (zP w.heap.size) 1) (.inr Z) vtc Dx Z (ab.ldp (i:=1) sM) Ac<|AU (v:=vtc) Dg Z htcT.isSl Ac ?_
 have ce:=ab.lt
 refine B9 (z:=zI (0:Int)) (by kernel_rfl) Ac fun w6 b0 c0 b4=>?_
 have b5:=b0.size
 have b6:=bn.trans b0
 have aq:=ab.ext b0
 replace b4:BX w6.heap w1.heap.size [zI (0:Int)]:=b4
 refine Bn (k:=0) (w:=w6) GS Z Z ⟨rfl,rfl⟩ b4 sM Ac fun w8 b1 c1 b7=>?_
 replace b7:BX w8.heap w1.heap.size [zI (T.code.length:Int)]:=b7
 have bo:AD w w8:=b1.below b6 (fun _ h=>zE h) b6.size
 have b8:w6.heap.size≤w8.heap.size:=b1.size
 have b9:=aq.chg b1 (zB ·)
 refine Aj<|A0<|fQ [0,2,0,0] Z<|Ao (p:=zP w.heap.size) 1 Ck Z Z Ac<|Ai (p:=Au (zP w.heap.size) 1) (.inr Z) vtc Dx Z (b9.ldp (i:=1) sM) Ac<|AU (v:=vtc) Dg Z htcT.isSl Ac<|Ae 1 Z<|A5 ?_
 refine B8 (S:=Nat) (fun k=>([(37,zI (k:Int)),(1,zP w.heap.size),(3,zP w1.heap.size),(35,vtc),(36,zI (T.code.length:Int))])) (fun k W=>AD w W∧BX W.heap w.heap.size [zI ipT,vtc,vtg,vtx]∧BX W.heap w1.heap.size [zI (T.code.length:Int)]∧k≤T.code.length) (fun k=>T.code.length-k) 0 ⟨rfl,rfl,rfl,rfl,rfl,trivial⟩ ⟨bo,b9,b7,oM⟩ ?_
 clear bm bw b2 b3 bn c0 b0 b5 b6 c1 b1 bo b8 b9
 rintro k ρ10 ci ⟨a8,a0,a1,ba⟩
 have ar:w.heap.size≤ci.heap.size:=a8.size
 have c2:=a0.lt
 have c3:=a1.lt
 refine fQ [0] Z ?_
 by_cases au:(k:Int)<(T.code.length:Int)
 ·refine AJ true Z Z (A7 au) Ac<|Aj<|A0<|Ah Z<|A4<|A0<|A5<|fQ [0,0,2,3,0,4] Z<|Af 1 Z<|AH (v:=vtc) k Dg BI Z Z htcT.isSl Z sD Ac ?_
  obtain⟨cs14,bb,bc⟩:=htcT.get Ap Am.zero (k:=k) sD
  obtain⟨rfl,ac⟩:=DG bb
  refine AC (p:=AE vtc k 4) (.inr Z) [zI<|(T.code.getD k Am.zero).op,zI<|(T.code.getD k Am.zero).a,zI<|(T.code.getD k Am.zero).b,zI<|(T.code.getD k Am.zero).num] Bx Z (fun cg ak=>bc cg<|AB.of_ext []<|a8.trans ak) Z Ac ?_
  have c4:=a0.lt
  have c5:=a1.lt
  refine B9 (z:=.agg #[zI 0,zI 0,zI 0,zI 0]) NS Ac fun ck ad c6 al=>?_
  have bp:=ad.size
  have av:=a8.trans ad
  have a4:=a0.ext ad
  have a5:=a1.ext ad
  replace al:BX ck.heap ci.heap.size [zI 0,zI 0,zI 0,zI 0]:=al
  refine Af 1 Z (Bh (vs:=[zI<|(T.code.getD k Am.zero).op,zI<|(T.code.getD k Am.zero).a,zI<|(T.code.getD k Am.zero).b,zI<|(T.code.getD k Am.zero).num]) Bx Z Z (by intro u hu;simp only[ze,z2,or_false]at hu;rcases hu with rfl|rfl|rfl|rfl <;> first|exact⟨rfl,rfl⟩) al Z Z Ac fun ch ae c7 am=>?_)
  replace am:BX ch.heap ci.heap.size [zI ((T.code.getD k Am.zero).op),zI ((T.code.getD k Am.zero).a),zI ((T.code.getD k Am.zero).b),zI ((T.code.getD k Am.zero).num)]:=am
  have af:AD w ch:=ae.below av (fun _ h=>zE h) av.size
  have bq:ck.heap.size≤ch.heap.size:=ae.size
  have aw:=a4.chg ae (zB ·)
  have bd:=a5.chg ae (zB ·)
  refine Aj<|fQ [2,2,0,3,0] Z<|AC (p:=zP w.heap.size) (.inr Z) [zI ipT,vtc,vtg,vtx] BE Z (fun cg ak=>LD.of_box<|BX.ext (w:=ch) aw ak) Z Ac<|AC (p:=zP ci.heap.size) (.inr Z) [zI<|(T.code.getD k Am.zero).op,zI<|(T.code.getD k Am.zero).a,zI<|(T.code.getD k Am.zero).b,zI<|(T.code.getD k Am.zero).num] Bx Z (fun cg ak=>LD.of_box<|BX.ext (w:=ch) am ak) Z Ac<|Af 1 Z ?_
  refine Ay 131 [] [] [.agg #[zI ipT,vtc,vtg,vtx],.agg #[zI<|(T.code.getD k Am.zero).op,zI<|(T.code.getD k Am.zero).a,zI<|(T.code.getD k Am.zero).b,zI<|(T.code.getD k Am.zero).num],zI (k:Int)] Z Z cD Ac (Is _ a.length (ipT) vtc vtg vtx (T) (oT) (⟨(T.code.getD k Am.zero).op,(T.code.getD k Am.zero).a,(T.code.getD k Am.zero).b,(T.code.getD k Am.zero).num⟩:Am) _ _hipT (htcT.ext (Aq Ap) af) (htgT.ext (Aq As) af) (htoT.ext g1 af) ⟨ac.1,ac.2.1,ac.2.2.1,ac.2.2.2⟩ oM oM oM (by have h9:=hK.form k oM;rw[Int.toNat_natCast];exact h9)) ?_
  rintro co cp ⟨rfl,a9⟩
  refine⟨_,rfl,a9,?_⟩
  have br:=a9.size
  have be:=af.trans a9
  have ag:=aw.ext a9
  have ah:=bd.ext a9
  exact BF false Z Z Ac<|Aj<|Ak Z<|A4<|Ad _ [0,0] Z<|AS ((k+1:Nat):Int) Z Z (Bg oM sD) Ac<|Ae 1 Z ⟨k+1,_,rfl,zR,⟨be,ag,ah,oM⟩,zD⟩
 refine AJ false Z Z (A8 au) Ac<|Aj<|A0<|Ak Z<|A6<|AA<|AA<|Ax<|A0<|fQ [0,2,0,0] Z<|Ao (p:=zP w.heap.size) 2 DT Z Z Ac<|Ai (p:=Au (zP w.heap.size) 2) (.inr Z) vtg GM Z (a0.ldp (i:=2) sM) Ac<|AU (v:=vtg) Ky Z htgT.isSl Ac<|Ae 1 Z<|A5 ?_
 refine B8 (S:=Nat) (fun j=>([(51,zI (j:Int)),(1,zP w.heap.size),(3,zP w1.heap.size),(49,vtg),(50,zI (T.grd.length:Int))])) (fun j W=>AD w W∧BX W.heap w.heap.size [zI ipT,vtc,vtg,vtx]∧BX W.heap w1.heap.size [zI (T.code.length:Int)]∧j≤T.grd.length) (fun j=>T.grd.length-j) 0 ⟨rfl,rfl,rfl,rfl,rfl,trivial⟩ ⟨a8,a0,a1,oM⟩ ?_
 clear a1 a0 a8 ar
 rintro j ρ22 cf ⟨aa,a2,a3,bf⟩
 have bs:w.heap.size≤cf.heap.size:=aa.size
 have c8:=a2.lt
 have c9:=a3.lt
 refine fQ [0] Z ?_
 by_cases ax:(j:Int)<(T.grd.length:Int)
 ·refine AJ true Z Z (A7 ax) Ac<|Aj<|A0<|Ah Z<|A4<|A0<|A5<|fQ [0,2,3,4] Z<|AH (v:=vtg) j Ky Ed Z Z htgT.isSl Z sD Ac ?_
  obtain⟨cs26,bg,bh⟩:=htgT.get As Bt.zero (k:=j) sD
  obtain⟨rfl,bi⟩:=HN bg
  refine AC (p:=AE vtg j 2) (.inr Z) [zI<|(T.grd.getD j Bt.zero).reg,.bool<|(T.grd.getD j Bt.zero).z] DV Z (fun cg ak=>bh cg<|AB.of_ext []<|aa.trans ak) Z Ac ?_
  have ca:=a2.lt
  have cb:=a3.lt
  refine B9 (z:=.agg #[zI 0,.bool false]) Rv Ac fun cm ai cc an=>?_
  have bt:=ai.size
  have ay:=aa.trans ai
  have a6:=a2.ext ai
  have a7:=a3.ext ai
  replace an:BX cm.heap cf.heap.size [zI 0,.bool false]:=an
  refine Bh (vs:=[zI<|(T.grd.getD j Bt.zero).reg,.bool<|(T.grd.getD j Bt.zero).z]) DV Z Z (by intro u hu;simp only[ze,z2,or_false]at hu;rcases hu with rfl|rfl <;> first|exact⟨rfl,rfl⟩) an Z Z Ac fun cj aj cd ao=>?_
  replace ao:BX cj.heap cf.heap.size [zI ((T.grd.getD j Bt.zero).reg),.bool ((T.grd.getD j Bt.zero).z)]:=ao
  have bj:AD w cj:=aj.below ay (fun _ h=>zE h) ay.size
  have bu:cm.heap.size≤cj.heap.size:=aj.size
  have bk:=a6.chg aj (zB ·)
  have az:=a7.chg aj (zB ·)
  refine Aj<|fQ [0,2,2,0,0,0] Z ?_
  have hgj:=hK.gd j oM
  refine Ao (p:=zP cf.heap.size) 0 KZ Z Z Ac<|Ai (p:=Au (zP cf.heap.size) 0) (.inr Z) (zI<|(T.grd.getD j Bt.zero).reg) AG Z (ao.ldp (i:=0) sM) Ac<|Ai (p:=zP w1.heap.size) (.inr Z) (zI (T.code.length:Int)) AG Z (az.ld (k:=0) sM) Ac ?_
  refine BP ((T.code.length:Int)-((1:Nat):Int)) Z Z (E1 sD sD) Ac ?_
  refine AF 72 [] [] [zI<|(T.grd.getD j Bt.zero).reg,zI ((0:Nat):Int),zI ((T.code.length:Int)-((1:Nat):Int))] Z Z EA Ac (.bool (decide (((0:Nat):Int)≤((T.grd.getD j Bt.zero).reg)) && decide (((T.grd.getD j Bt.zero).reg)≤((T.code.length:Int)-((1:Nat):Int))))) (fun wq=>B5 wq _ _ _ bi oM oM) ?_
  rw[show(decide (((0:Nat):Int)≤((T.grd.getD j Bt.zero).reg)) && decide (((T.grd.getD j Bt.zero).reg)≤((T.code.length:Int)-((1:Nat):Int))))=true from EK]
  exact BF false Z Z Ac<|Aj<|Ak Z<|A4<|Ad _ [0,0] Z<|AS ((j+1:Nat):Int) Z Z (Bg oM sD) Ac<|Ae 1 Z ⟨j+1,_,rfl,zR,⟨bj,bk,az,oM⟩,zD⟩
 refine AJ false Z Z (A8 ax) Ac<|Aj<|A0<|Ak Z<|A6<|AA<|AA<|Ax<|fQ [0,2,0,3,0,0] Z<|Ao (p:=zP w.heap.size) 3 Es Z Z Ac<|Ai (p:=Au (zP w.heap.size) 3) (.inr Z) vtx BN Z (a2.ldp (i:=3) sM) Ac<|L6 [] [zP w1.heap.size] Z Z Ac ?_
 refine Ay 114 [] [] [vtx,.func (.func 132) #[] #[zP w1.heap.size]] Z Z XG Ac (Cy _ _ _ 132 [] [zP w1.heap.size] (fun x=>!(decide (0≤x) && decide (x≤(T.code.length:Int)-1))) (htoT.ext g1 aa).rd cE fun x hx wz hw=>Jd wz x w1.heap.size (T.code.length:Int) hx ((BX.ext (w:=cf) a3 hw).ld (k:=0) sM) oM oM) ?_
 rintro cq cr ⟨rfl,ap⟩
 refine⟨_,rfl,ap,?_⟩
 have bv:=ap.size
 have bl:=aa.trans ap
 rw[show(oT.any (fun x=>!(decide (0≤x) && decide (x≤(T.code.length:Int)-1))))=false from hK.any]
 exact BF true Z Z Ac<|Ae 1 Z<|A3<|Al [2] Z (.bool true) Z ⟨rfl,bl⟩
theorem JL (w:World)(a:Sr)(ipT:Int)(vtc vtg vtx:Value)(T:Tp)(oT:Sr)(vl:Value)(L:List (Sr))(_hipT:Bd ipT)(htcT:RN [] (CK 4 Gs) w.heap vtc T.code)(htgT:RN [] (CK 2 FV) w.heap vtg T.grd)(htoT:RN [] (Bl rI) w.heap vtx oT)(hL:RN [] (Bl (Bl rI)) w.heap vl L)(hqL:Dm vl)(hip:ipT=(a.length:Int))(hR:Iz a T oT)(hLL:∀k,k<L.length→(L.getD k []).length=a.length∧Bj (L.getD k [])=true) :
  Calls Tryz.prog 122 #[(.agg #[(zI ipT),vtc,vtg,vtx]),vl] w (fun e w'=>e=.returned (zI 0)∧AD w w'):=by
 refine Aw [.agg #[zI ipT,vtc,vtg,vtx],vl] 22 Tryz.func122 Z Z sM ?_
 have ac:AD w w:=AD.refl w
 have hl_vtx:=htoT.lenL
 unfold maxLen at hl_vtx
 have ap:=hL.lenL
 unfold maxLen at ap
 refine fQ [3,0] Z (BC (cs:=#[zI ipT,vtc,vtg,vtx]) Z Ac fun w1 a8 ai a6=>?_)
 have a9:=a8.size
 have a2:=ac.trans a8
 replace a6:BX w1.heap w.heap.size [zI ipT,vtc,vtg,vtx]:=a6
 refine Ae 1 Z<|A0<|fQ [2,3,0] Z<|AC (p:=zP w.heap.size) (.inr Z) [zI ipT,vtc,vtg,vtx] BE Z (fun aq aj=>LD.of_box<|BX.ext (w:=w1) a6 aj) Z Ac<|Ay 71 [] [] [.agg #[zI ipT,vtc,vtg,vtx]] Z Z bQ Ac (GQ _ a (ipT) vtc vtg vtx (T) (oT) _hipT (htcT.ext (Aq Ap) a2) (htgT.ext (Aq As) a2) (htoT.ext g1 a2) oM hR) ?_
 rintro e2 w2 ⟨rfl,a3⟩
 refine⟨_,rfl,a3,?_⟩
 have aa:=a3.size
 have ad:=a2.trans a3
 have a4:=a6.ext a3
 refine BF false Z Z Ac<|Aj<|Ak Z<|A4<|A0<|fQ [0,0,0] Z<|Af 1 Z<|AU (v:=vl) BJ Z hL.slL Ac<|Ae 1 Z<|A5<|B8 (S:=Nat) (fun k=>([(12,zI (k:Int)),(2,zP w.heap.size),(10,vl),(11,zI (L.length:Int))])) (fun k W=>AD w W∧BX W.heap w.heap.size [zI ipT,vtc,vtg,vtx]∧k≤L.length) (fun k=>L.length-k) 0 ⟨rfl,rfl,rfl,rfl,trivial⟩ ⟨ad,a4,oM⟩ ?_
 clear ac ai a8 a9 a2 a3 aa ad
 rintro k ρ3 w3 ⟨a5,a0,ae⟩
 have ak:w.heap.size≤w3.heap.size:=a5.size
 have ao:=a0.lt
 refine fQ [0] Z ?_
 by_cases af:(k:Int)<(L.length:Int)
 ·refine AJ true Z Z (A7 af) Ac<|Aj<|A0<|Ah Z<|A4<|A0<|A5<|fQ [0,2,0] Z<|AH (v:=vl) k BJ BR Z Z hL.slL Z sD Ac ?_
  obtain⟨ag,al,ah⟩:=RN.getL (w:=w) g1 [] (k:=k) hL sD
  have ab:=ah.lenL
  unfold maxLen at ab
  refine Ai (p:=AE vl k 1) (.inr Z) ag BN Z (al _<|AB.of_ext [] a5) Ac<|Ae 1 Z<|fQ [0,0,2,3,0] Z ?_
  have hLk:=hLL k oM
  refine Af 1 Z<|Ao (p:=zP w.heap.size) 0 IW Z Z Ac<|Ai (p:=Au (zP w.heap.size) 0) (.inr Z) (zI ipT) AG Z (a0.ldp (i:=0) sM) Ac<|Ay 53 [] [] [ag,zI ipT] Z Z Zj Ac (Eu _ _ _ _ (ah.ext g1 a5).rd _hipT) ?_
  rintro e7 w7 ⟨rfl,a7⟩
  refine⟨_,rfl,a7,?_⟩
  have am:=a7.size
  have an:=a5.trans a7
  have a1:=a0.ext a7
  rw[show(decide ((((L.getD k []).length:Nat):Int)=ipT) && Bj (L.getD k []))=true from(by rw[A7 oM,hLk.2];rfl)]
  exact BF false Z Z Ac<|Aj<|Ak Z<|A4<|Ad _ [0,0] Z<|AS ((k+1:Nat):Int) Z Z (Bg oM sD) Ac<|Ae 1 Z ⟨k+1,_,rfl,zR,⟨an,a1,oM⟩,zD⟩
 exact AJ false Z Z (A8 af) Ac<|Aj<|A0<|Ak Z<|A6<|AA<|AA<|Ax<|fR Z<|A3<|Al [4] Z (zI ((0:Nat):Int)) Z ⟨rfl,a5⟩
theorem O7 (w:World)(va:Value)(a:Sr)(vd:Value)(d:Sr)(ha:Rd (Bl rI) w.heap va a)(hd:Rd (Bl rI) w.heap vd d)(hl:d.length=a.length)(hla:a.length≤1000) :
  Calls Tryz.prog 127 #[va,vd] w (fun e w'=>∃v0:Value,e=.returned (v0)∧AD w w'∧Fr (BD (BD rI 2) 27) w.heap.size w'.heap.size w'.heap v0 (Eh a d 2)):=by
 refine Aw [va,vd] 27 Tryz.func127 Z Z sM ?_
 have a9:AD w w:=AD.refl w
 have au:=ha.lenle
 have av:=hd.lenle
 refine fR Z<|fQ [3,0] Z (Dt (BD rI 2) o1 BJ BR Ac fun v1 w1 a4 af aa=>?_)
 have a5:=a4.size
 have ab:=a9.trans a4
 refine Ae 1 Z<|A0<|fQ [0,0,0] Z<|Af 1 Z<|AU (v:=va) Bu Z ha.isSl Ac<|Ae 1 Z<|A5 ?_
 refine B8 (S:=Nat×Value) (fun⟨k,vo⟩=>([(5,vo),(11,zI (k:Int)),(1,vd),(9,va),(10,zI (a.length:Int))])) (fun⟨k,vo⟩ W=>AD w W∧Fr (BD (BD rI 2) 27) w.heap.size W.heap.size W.heap vo ((Eh a d 2).take k)∧k≤a.length) (fun⟨k,vo⟩=>a.length-k) (0,v1) ⟨rfl,rfl,rfl,rfl,rfl,trivial⟩ ⟨ab,aa.up o2,sD⟩ ?_
 clear a9 aa af a4 a5 ab
 rintro⟨k,vo⟩ ρ2 w2 ⟨a3,a2,ac⟩
 have ag:w.heap.size≤w2.heap.size:=a3.size
 refine fQ [0] Z ?_
 by_cases ad:(k:Int)<(a.length:Int)
 ·refine AJ true Z Z (A7 ad) Ac<|Aj<|A0<|Ah Z<|A4<|A0<|A5<|fQ [0,0,2,0,0] Z<|Af 1 Z<|AH (v:=va) k Bu BL Z Z ha.isSl Z sD Ac ?_
  refine Ai (p:=AE va k 1) (.inr Z) (zI<|a.getD k 0) AG Z (Bk a3 (ha.getI sD).1) Ac<|Ae 2 Z<|Ad _ [0,0,0,0,0,2,3,3,4,0] Z<|Af 4 Z ?_
  refine AH (v:=vd) k Bu BL Z Z hd.isSl Z sD Ac ?_
  refine Ai (p:=AE vd k 1) (.inr Z) (zI<|d.getD k 0) AG Z (Bk a3 (hd.getI sD).1) Ac ?_
  refine Tw (ys:=[a.getD k 0,d.getD k 0]) AN Bu BL Z Z Z Z (Xm (ha.getI sD).2 (hd.getI sD).2) Ac fun v4 w4 a6 aq ah=>?_
  have ai:=a6.size
  have aj:=a3.trans a6
  have a0:=a2.ext (o2) a6
  refine BQ (u:=v4) (B:=w2.heap.size) o1 BJ BR Z Z ah (by first|exact A9 _|omega) Ac fun v5 w5 a7 ar ak=>?_
  have al:=a7.size
  have a8:=aj.trans a7
  have a1:=a0.ext (o2) a7
  refine Nd o1 (v:=vo) (a:=v5) BJ BR Z Z Z a1 a8.size ak oM a3.size sD (by unfold maxLen;first|omega|assumption|(simp;done)|(simp;omega)) Ac fun v6 w6 F6 ae am an=>?_
  have ao:AD w w6:=ae.below a8 (fun c hc=>Aa (A9 _) (am c hc).1) a8.size
  have ap:w5.heap.size≤w6.heap.size:=ae.size
  refine Ae 1 Z<|Ad _ [0,0] Z<|AS ((k+1:Nat):Int) Z Z (Bg oM sD) Ac<|Ae 1 Z ?_
  exact⟨(k+1,v6),_,rfl,zR,⟨ao,(by rw[CA [] (by simp;omega),Vt oM];exact an.up o2),sD⟩,zD⟩
 exact AJ false Z Z (A8 ad) Ac<|Aj<|A0<|Ak Z<|A6<|AA<|AA<|Ax<|fQ [0,0] Z<|Ae 2 Z<|A3<|Al [4] Z vo Z ⟨vo,rfl,a3,(by have h:=a2.up o2;rwa [za (by simp;omega)]at h)⟩
end
end Go.Proofs.YtemfgblmfahllaaGreat
