/- Vq, Vr, Sm, Xk, Ya, Yb, Yc: texts of this claim, joined; what the claim does not come to is left out. -/
import Derived.Test.YtnokbaiemimhjaaGreatQE3
import Derived.Test.YtnokbaiemimhjaaGreatProg
set_option linter.unusedVariables false
set_option linter.unusedSimpArgs false
namespace Go.Proofs.YtnokbaiemimhjaaGreat
open Go Go.RowKit
section
set_option maxHeartbeats 4000000
set_option maxRecDepth 100000
attribute [local irreducible] LW
def ZS (D:Nat):Prop:=∀(w:World) (d:Nat) (va:Value) (a:List Ex) (left:Int) (ha:RN [] (Dp 5 (Iv d)) w.heap va a) (_hleft:BC left) (hL:0≤left∧left≤1048576) (hd:d≤D),Calls Tryz.prog 211 #[va,.int .i64 left] w (fun e w'=>e=.returned (.int .i64 (JS (Ex.sizes a) left))∧Az w w')
theorem Nh (w:World)(dex:Nat)(ve:Value)(ex:Ex)(left:Int)(hex:RX [] dex w.heap ve ex)(_hleft:BC left)(hL:0≤left∧left≤1048576)(IH:ZS dex) :
  Calls Tryz.prog 241 #[(.agg #[(.int .i64 ex.kind),(.int .i64 ex.num),(.int .i64 ex.pick),(.int .i64 ex.count),ve]),.int .i64 left] w (fun e w'=>e=.returned (.int .i64 (JS (Ex.sizes ex.kids) left))∧Az w w'):=by
 refine At [(.agg #[(.int .i64 ex.kind),(.int .i64 ex.num),(.int .i64 ex.pick),(.int .i64 ex.count),ve]),.int .i64 left] 12 Tryz.func241 Z Z sM ?_
 have a6:Az w w:=Az.refl w
 have hl_ve:=hex.rn.lenle
 unfold maxLen at hl_ve
 refine A0 (Ad _ [3,0] Z (Bx (cs:=#[(.int .i64 ex.kind),(.int .i64 ex.num),(.int .i64 ex.pick),(.int .i64 ex.count),ve]) Z Ac fun w1 a2 a9 a0=>?_))
 have a7:=a2.size
 have a3:=a6.trans a2
 replace a0:BX w1.heap w.heap.size [(.int .i64 ex.kind),(.int .i64 ex.num),(.int .i64 ex.pick),(.int .i64 ex.count),ve]:=a0
 refine Ae 1 Z (A0 (Ad _ [0,2,0,3,0] Z (Ao (p:=(.pointer (some ⟨w.heap.size,0,none⟩))) (b:=w.heap.size) (o:=0) 4 SS Z Z Ac (Ak (p:=(Ay (.pointer (some ⟨w.heap.size,0,none⟩)) 4)) (.inr Z) ve OS Z (a0.ldp (i:=4) sM) Ac (Af 1 Z (Ap 211 [] [] [ve,(.int .i64 left)] Z Z aK Ac (IH _ dex ve (ex.kids) _ (hex.rn.ext (Am (AC dex)) a3) _hleft oM oM) ?_))))))
 rintro e2 w2 ⟨rfl,a1⟩
 refine⟨_,rfl,a1,?_⟩
 have a8:=a1.size
 have a4:=a3.trans a1
 refine Ae 1 Z (A0 (A0 (Ad _ [0,0] Z (Af 1 Z ?_))))
 by_cases a5:JS (Ex.sizes ex.kids) left<((0:Nat):Int)
 ·exact Ax true Z Z (A7 a5) Ac (Ah (Ai Z (A0 (Ad _ [0] Z (Ae 1 Z (A3 (Aq (Ag [4] Z (.int .i64 (-1)) Z ⟨(by have hn:=JT (t:=Ex.sizes ex.kids) (x:=left) oM oM;exact AV (KY oM)),a4⟩))))))))
 ·exact Ax false Z Z (A8 a5) Ac (Ah (Aj Z (A4 (A0 (Ad _ [0,0] Z (Ae 2 Z (A3 (Ag [4] Z (.int .i64 (JS (Ex.sizes ex.kids) left)) Z ⟨(AV Z),a4⟩))))))))
theorem ME (w:World)(da:Nat)(va:Value)(a:List Ex)(left:Int)(ha:RN [] (Dp 5 (Iv da)) w.heap va a)(_hleft:BC left)(hL:0≤left∧left≤1048576) :
  Calls Tryz.prog 211 #[va,.int .i64 left] w (fun e w'=>e=.returned (.int .i64 (JS (Ex.sizes a) left))∧Az w w'):=by
 induction da using Nat.strongRecOn generalizing w va a left
 rename_i da ih
 refine At [va,.int .i64 left] 27 Tryz.func211 Z Z sM ?_
 have a1:Az w w:=Az.refl w
 have hl_va:=ha.lenle
 unfold maxLen at hl_va
 have ad:=G5 a 0
 refine A0 (Ad _ [0] Z (Ae 1 Z (A0 (Ad _ [0,0,0,0,0] Z (Af 2 Z (AJ (v:=va) R1 Z ha.isSl Ac (Cy (left-((a.length:Nat):Int)) Z Z (FR oM oM) Ac (Ae 1 Z (A0 (A0 (Ad _ [0,0] Z (Af 1 Z ?_))))))))))))
 by_cases a5:left-((a.length:Nat):Int)<((0:Nat):Int)
 ·exact Ax true Z Z (A7 a5) Ac (Ah (Ai Z (A0 (Ad _ [0] Z (Ae 1 Z (A3 (Aq (Ag [4] Z (.int .i64 (-1)) Z ⟨(by exact AV (KY oM)),a1⟩))))))))
 ·refine Ax false Z Z (A8 a5) Ac (Ah (Aj Z (A4 (A0 (A0 (Ad _ [0] Z (Ae 1 Z (A5 ?_))))))))
  refine AN (S:=Nat×Int) (fun⟨k,x⟩=>([(1,(.int .i64 x)),(5,(.int .i64 ((k:Nat):Int))),(0,va)])) (fun⟨k,x⟩ W=>Az w W∧k≤a.length∧x=left-((a.length:Nat):Int)-((Ex.sizes (a.take k):Nat):Int)+((k:Nat):Int)∧(0≤x∧x≤1048576)) (fun⟨k,x⟩=>a.length-k) (0,(left-((a.length:Nat):Int))) ⟨rfl,rfl,rfl,trivial⟩ ⟨a1,sD,(by rw[List.take_zero,Ih];omega),oM⟩ ?_
  clear a1
  rintro⟨k,x⟩ ρ2 w2 ⟨a0,a6,hx,a7⟩
  have ae:w.heap.size≤w2.heap.size:=a0.size
  refine A0 (A0 (Ad _ [0,0,0,0] Z (Af 2 Z (AJ (v:=va) R1 Z ha.isSl Ac ?_))))
  by_cases a8:((k:Nat):Int)<((a.length:Nat):Int)
  ·refine Ax true Z Z (A7 a8) Ac (Ah (Ai Z (A4 (A0 (A5 (A0 (Ad _ [0,0,0,2,0,3,0] Z ?_)))))))
   have hst:=D3 (l:=a) (k:=k) oM
   have hge:=G5 a (k+1)
   have hsk:=Cb (a.getD k Ex.zero)
   refine Af 2 Z (Au (v:=va) k R1 Xl Z Z ha.isSl Z sD Ac ?_)
   obtain⟨cs4,af,ag⟩:=ha.get (AC da) Ex.zero (k:=k) sD
   obtain⟨dd4,a2,aj,rfl,aa⟩:=RX.of af
   have a3:=aa.rn.lenle
   unfold maxLen at a3
   refine AR (p:=Aw va k 5) (.inr Z) [(.int .i64 ((a.getD k Ex.zero).kind)),(.int .i64 ((a.getD k Ex.zero).num)),(.int .i64 ((a.getD k Ex.zero).pick)),(.int .i64 ((a.getD k Ex.zero).count)),a2] Xk Z (fun wq9 ah=>ag wq9 (AE.of_ext [] (a0.trans ah))) Z Ac (Af 1 Z (Ap 241 [] [] [(.agg #[(.int .i64 ((a.getD k Ex.zero).kind)),(.int .i64 ((a.getD k Ex.zero).num)),(.int .i64 ((a.getD k Ex.zero).pick)),(.int .i64 ((a.getD k Ex.zero).count)),a2]),(.int .i64 x)] Z Z iK Ac (Nh _ dd4 a2 (a.getD k Ex.zero) _ (aa.ext a0) oM oM (by intro w9 d9 v9 a9 l9 h1 h2 h3 h4;exact ih d9 oM w9 v9 a9 l9 h1 h2 h3)) ?_))
   rintro e5 w5 ⟨rfl,a4⟩
   refine⟨_,rfl,a4,?_⟩
   have ai:=a4.size
   have ab:=a0.trans a4
   refine Ae 1 Z (A0 (Ad _ [0,0] Z ?_))
   have hzr:=OA (Ex.sizes (a.getD k Ex.zero).kids) (x:=x) oM
   refine Af 1 Z ?_
   by_cases ac:JS (Ex.sizes (a.getD k Ex.zero).kids) x<((0:Nat):Int)
   ·exact Ax true Z Z (A7 ac) Ac (Ah (Ai Z (A0 (Ad _ [0] Z (Ae 1 Z (A3 (AL (Aq (Aq (AL (Aq (Ag [4] Z (.int .i64 (-1)) Z ⟨(by have hn:=JT (t:=Ex.sizes (a.getD k Ex.zero).kids) (x:=x) oM oM;exact AV (KY oM)),ab⟩))))))))))))
   ·refine Ax false Z Z (A8 ac) Ac (Ah (Aj Z (A4 (Ad _ [0,0,0] Z ?_))))
    have hzp:=Lq (t:=Ex.sizes (a.getD k Ex.zero).kids) (x:=x) oM
    refine Af 1 Z (AI ((k+1:Nat):Int) Z Z (B8 oM sD) Ac (Ae 1 Z ?_))
    exact⟨((k+1),(JS (Ex.sizes (a.getD k Ex.zero).kids) x)),_,rfl,⟨rfl,rfl,rfl,trivial⟩,⟨ab,sD,oM,oM⟩,by first|omega|(dsimp only;omega)⟩
  ·exact Ax false Z Z (A8 a8) Ac (Ah (Aj Z (A6 (As (As (An (A0 (Ad _ [0,0] Z (Ae 2 Z (A3 (Ag [4] Z (.int .i64 x) Z ⟨(by have hsa:=Ki (l:=a) (k:=k) oM;exact AV (Vg oM oM)),a0⟩)))))))))))
theorem Ni (w:World)(dg:Nat)(vf:Value)(g:Fn)(left:Int)(hg:RF [] dg w.heap vf g)(_hleft:BC left)(hL:0≤left∧left≤1048576)(hnm:g.name.size≤9223372036854775807) :
  Calls Tryz.prog 163 #[(.agg #[(.string g.name),(.int .i64 g.params),vf]),.int .i64 left] w (fun e w'=>e=.returned (.int .i64 (JS g.sz left))∧Az w w'):=by
 refine At [(.agg #[(.string g.name),(.int .i64 g.params),vf]),.int .i64 left] 19 Tryz.func163 Z Z sM ?_
 have a7:Az w w:=Az.refl w
 have hl_vf:=hg.rn.lenle
 unfold maxLen at hl_vf
 have hgs:g.sz=g.name.size+Ex.sizes g.outs:=rfl
 refine A0 (Ad _ [3,0] Z (Bx (cs:=#[(.string g.name),(.int .i64 g.params),vf]) Z Ac fun w1 a3 aa a0=>?_))
 have a8:=a3.size
 have a1:=a7.trans a3
 replace a0:BX w1.heap w.heap.size [(.string g.name),(.int .i64 g.params),vf]:=a0
 refine Ae 1 Z (A0 (Ad _ [0,0,2,0,0,0] Z (Af 1 Z (Ao (p:=(.pointer (some ⟨w.heap.size,0,none⟩))) (b:=w.heap.size) (o:=0) 0 SK Z Z Ac (Ak (p:=(Ay (.pointer (some ⟨w.heap.size,0,none⟩)) 0)) (.inr Z) (.string g.name) Nd Z (a0.ldp (i:=0) sM) Ac (Kd (s:=g.name) u9 Z Ac (Cy (left-((g.name.size:Nat):Int)) Z Z (FR oM oM) Ac (Ae 1 Z (A0 (A0 (Ad _ [0,0] Z (Af 1 Z ?_))))))))))))
 by_cases a4:left-((g.name.size:Nat):Int)<((0:Nat):Int)
 ·exact Ax true Z Z (A7 a4) Ac (Ah (Ai Z (A0 (Ad _ [0] Z (Ae 1 Z (A3 (Aq (Ag [4] Z (.int .i64 (-1)) Z ⟨(by exact AV (KY oM)),a1⟩))))))))
 ·refine Ax false Z Z (A8 a4) Ac (Ah (Aj Z (A4 (A0 (Ad _ [0,2,0,3,0] Z (Ao (p:=(.pointer (some ⟨w.heap.size,0,none⟩))) (b:=w.heap.size) (o:=0) 2 SL Z Z Ac (Ak (p:=(Ay (.pointer (some ⟨w.heap.size,0,none⟩)) 2)) (.inr Z) vf OS Z (a0.ldp (i:=2) sM) Ac (Af 1 Z (Ap 211 [] [] [vf,(.int .i64 (left-((g.name.size:Nat):Int)))] Z Z aK Ac (ME _ dg vf (g.outs) _ (hg.rn.ext (Am (AC dg)) a1) oM oM) ?_)))))))))
  rintro e3 w3 ⟨rfl,a2⟩
  refine⟨_,rfl,a2,?_⟩
  have a9:=a2.size
  have a5:=a1.trans a2
  refine Ae 1 Z (A0 (A0 (Ad _ [0,0] Z ?_)))
  have hzr:=OA (Ex.sizes g.outs) (x:=left-((g.name.size:Nat):Int)) oM
  refine Af 1 Z ?_
  by_cases a6:JS (Ex.sizes g.outs) (left-((g.name.size:Nat):Int))<((0:Nat):Int)
  ·exact Ax true Z Z (A7 a6) Ac (Ah (Ai Z (A0 (Ad _ [0] Z (Ae 1 Z (A3 (Aq (Ag [4] Z (.int .i64 (-1)) Z ⟨(by have hn:=JT (t:=Ex.sizes g.outs) (x:=left-((g.name.size:Nat):Int)) oM oM;exact AV (KY oM)),a5⟩))))))))
  ·refine Ax false Z Z (A8 a6) Ac (Ah (Aj Z (A4 (A0 (Ad _ [0,0] Z ?_)))))
   have hzp:=Lq (t:=Ex.sizes g.outs) (x:=left-((g.name.size:Nat):Int)) oM
   exact Ae 2 Z (A3 (Ag [4] Z (.int .i64 (JS (Ex.sizes g.outs) (left-((g.name.size:Nat):Int)))) Z ⟨(by exact AV (Vg oM oM)),a5⟩))
theorem MF (w:World)(da:Nat)(va:Value)(a:List Fn)(left:Int)(ha:RP [] da w.heap va a)(_hleft:BC left)(hL:0≤left∧left≤1048576)(hnm:∀k,k<a.length→(a.getD k Fn.zero).name.size≤9223372036854775807) :
  Calls Tryz.prog 107 #[va,.int .i64 left] w (fun e w'=>e=.returned (.int .i64 (JS (OC a) left))∧Az w w'):=by
 refine At [va,.int .i64 left] 27 Tryz.func107 Z Z sM ?_
 have a1:Az w w:=Az.refl w
 have hl_va:=ha.lenle
 unfold maxLen at hl_va
 have hgs:OC a=a.length+Fn.szs a:=rfl
 refine A0 (Ad _ [0] Z (Ae 1 Z (A0 (Ad _ [0,0,0,0,0] Z (Af 2 Z (AJ (v:=va) eL Z ha.isSl Ac (Cy (left-((a.length:Nat):Int)) Z Z (FR oM oM) Ac (Ae 1 Z (A0 (A0 (Ad _ [0,0] Z (Af 1 Z ?_))))))))))))
 by_cases a6:left-((a.length:Nat):Int)<((0:Nat):Int)
 ·exact Ax true Z Z (A7 a6) Ac (Ah (Ai Z (A0 (Ad _ [0] Z (Ae 1 Z (A3 (Aq (Ag [4] Z (.int .i64 (-1)) Z ⟨(by exact AV (KY oM)),a1⟩))))))))
 ·refine Ax false Z Z (A8 a6) Ac (Ah (Aj Z (A4 (A0 (A0 (Ad _ [0] Z (Ae 1 Z (A5 ?_))))))))
  refine AN (S:=Nat×Int) (fun⟨k,x⟩=>([(1,(.int .i64 x)),(5,(.int .i64 ((k:Nat):Int))),(0,va)])) (fun⟨k,x⟩ W=>Az w W∧k≤a.length∧x=left-((a.length:Nat):Int)-((Fn.szs (a.take k):Nat):Int)∧(0≤x∧x≤1048576)) (fun⟨k,x⟩=>a.length-k) (0,(left-((a.length:Nat):Int))) ⟨rfl,rfl,rfl,trivial⟩ ⟨a1,sD,(by rw[List.take_zero,OB];omega),oM⟩ ?_
  clear a1
  rintro⟨k,x⟩ ρ2 w2 ⟨a0,a7,hx,a8⟩
  have ac:w.heap.size≤w2.heap.size:=a0.size
  refine A0 (A0 (Ad _ [0,0,0,0] Z (Af 2 Z (AJ (v:=va) eL Z ha.isSl Ac ?_))))
  by_cases a9:((k:Nat):Int)<((a.length:Nat):Int)
  ·refine Ax true Z Z (A7 a9) Ac (Ah (Ai Z (A4 (A0 (A5 (A0 (Ad _ [0,0,0,2,0,3,0] Z ?_)))))))
   have hst:=Me (l:=a) (k:=k) oM
   have hge:=I0 a (k+1)
   refine Af 2 Z (Au (v:=va) k eL Xj Z Z ha.isSl Z sD Ac ?_)
   obtain⟨cs4,ad,ae⟩:=ha.get (AB da) Fn.zero (k:=k) sD
   obtain⟨a2,rfl,a3⟩:=RF.of ad
   have a4:=a3.rn.lenle
   unfold maxLen at a4
   refine AR (p:=Aw va k 3) (.inr Z) [(.string ((a.getD k Fn.zero).name)),(.int .i64 ((a.getD k Fn.zero).params)),a2] Xi Z (fun wq9 af=>ae wq9 (AE.of_ext [] (a0.trans af))) Z Ac (Af 1 Z (Ap 163 [] [] [(.agg #[(.string ((a.getD k Fn.zero).name)),(.int .i64 ((a.getD k Fn.zero).params)),a2]),(.int .i64 x)] Z Z gK Ac (Ni _ da a2 (a.getD k Fn.zero) _ ⟨a3.rng,(a3.rn.ext (Am (AC da)) a0)⟩ oM oM (by exact hnm k oM)) ?_))
   rintro e5 w5 ⟨rfl,a5⟩
   refine⟨_,rfl,a5,?_⟩
   have ag:=a5.size
   have aa:=a0.trans a5
   refine Ae 1 Z (A0 (Ad _ [0,0] Z ?_))
   have hzr:=OA (a.getD k Fn.zero).sz (x:=x) oM
   refine Af 1 Z ?_
   by_cases ab:JS (a.getD k Fn.zero).sz x<((0:Nat):Int)
   ·exact Ax true Z Z (A7 ab) Ac (Ah (Ai Z (A0 (Ad _ [0] Z (Ae 1 Z (A3 (AL (Aq (Aq (AL (Aq (Ag [4] Z (.int .i64 (-1)) Z ⟨(by have hn:=JT (t:=(a.getD k Fn.zero).sz) (x:=x) oM oM;exact AV (KY oM)),aa⟩))))))))))))
   ·refine Ax false Z Z (A8 ab) Ac (Ah (Aj Z (A4 (Ad _ [0,0,0] Z ?_))))
    have hzp:=Lq (t:=(a.getD k Fn.zero).sz) (x:=x) oM
    refine Af 1 Z (AI ((k+1:Nat):Int) Z Z (B8 oM sD) Ac (Ae 1 Z ?_))
    exact⟨((k+1),(JS (a.getD k Fn.zero).sz x)),_,rfl,⟨rfl,rfl,rfl,trivial⟩,⟨aa,sD,oM,oM⟩,by first|omega|(dsimp only;omega)⟩
  ·exact Ax false Z Z (A8 a9) Ac (Ah (Aj Z (A6 (As (As (An (A0 (Ad _ [0,0] Z (Ae 2 Z (A3 (Ag [4] Z (.int .i64 x) Z ⟨(by rw[List.take_of_length_le (show a.length≤k by omega)]at hx;exact AV (Vg oM oM)),a0⟩)))))))))))
theorem KG (w:World)(dp:Nat)(vp:Value)(p:List Fn)(left:Int)(hp:RP [] dp w.heap vp p)(_hleft:BC left)(hL:0≤left∧left≤1048576)(hnm:∀k,k<p.length→(p.getD k Fn.zero).name.size≤9223372036854775807) :
  Calls Tryz.prog 40 #[(.agg #[vp]),.int .i64 left] w (fun e w'=>e=.returned (.int .i64 (JS (OC p) left))∧Az w w'):=by
 refine At [(.agg #[vp]),.int .i64 left] 12 Tryz.func40 Z Z sM ?_
 have a6:Az w w:=Az.refl w
 have hl_vp:=hp.lenle
 unfold maxLen at hl_vp
 refine A0 (Ad _ [3,0] Z (Bx (cs:=#[vp]) Z Ac fun w1 a2 a9 a0=>?_))
 have a7:=a2.size
 have a3:=a6.trans a2
 replace a0:BX w1.heap w.heap.size [vp]:=a0
 refine Ae 1 Z (A0 (Ad _ [0,2,0,3,0] Z (Ao (p:=(.pointer (some ⟨w.heap.size,0,none⟩))) (b:=w.heap.size) (o:=0) 0 Xh Z Z Ac (Ak (p:=(Ay (.pointer (some ⟨w.heap.size,0,none⟩)) 0)) (.inr Z) vp aS Z (a0.ldp (i:=0) sM) Ac (Af 1 Z (Ap 107 [] [] [vp,(.int .i64 left)] Z Z fP Ac (MF _ dp vp (p) _ (hp.ext (Am (AB dp)) a3) _hleft oM (by exact hnm)) ?_))))))
 rintro e2 w2 ⟨rfl,a1⟩
 refine⟨_,rfl,a1,?_⟩
 have a8:=a1.size
 have a4:=a3.trans a1
 refine Ae 1 Z (A0 (A0 (Ad _ [0,0] Z (Af 1 Z ?_))))
 by_cases a5:JS (OC p) left<((0:Nat):Int)
 ·exact Ax true Z Z (A7 a5) Ac (Ah (Ai Z (A0 (Ad _ [0] Z (Ae 1 Z (A3 (Aq (Ag [4] Z (.int .i64 (-1)) Z ⟨(by have hn:=JT (t:=OC p) (x:=left) oM oM;exact AV (KY oM)),a4⟩))))))))
 ·exact Ax false Z Z (A8 a5) Ac (Ah (Aj Z (A4 (A0 (Ad _ [0,0] Z (Ae 2 Z (A3 (Ag [4] Z (.int .i64 (JS (OC p) left)) Z ⟨(AV Z),a4⟩))))))))
def QS (D:Nat):Prop:=∀(w:World) (d:Nat) (va:Value) (a:List Ex) (d':Nat) (vb:Value) (b:List Ex) (ha:RN [] (Dp 5 (Iv d)) w.heap va a) (hb:RN [] (Dp 5 (Iv d')) w.heap vb b) (hab:b=a) (hd:d≤D),Calls Tryz.prog 214 #[va,vb] w (fun e w'=>e=.returned (.bool true)∧Az w w')
theorem Ib {p:Prop}(h:p:=by first|exact AG Z|(exfalso;omega)|(exfalso;simp_all;done)):p:=h
theorem Nj (w:World)(da:Nat)(va:Value)(a:Ex)(db:Nat)(vb:Value)(b:Ex)(ha:RX [] da w.heap va a)(hb:RX [] db w.heap vb b)(hab:b=a)(IH:QS da) :
  Calls Tryz.prog 243 #[(.agg #[(.int .i64 a.kind),(.int .i64 a.num),(.int .i64 a.pick),(.int .i64 a.count),va]),(.agg #[(.int .i64 b.kind),(.int .i64 b.num),(.int .i64 b.pick),(.int .i64 b.count),vb])] w (fun e w'=>e=.returned (.bool true)∧Az w w'):=by
 refine At [(.agg #[(.int .i64 a.kind),(.int .i64 a.num),(.int .i64 a.pick),(.int .i64 a.count),va]),(.agg #[(.int .i64 b.kind),(.int .i64 b.num),(.int .i64 b.pick),(.int .i64 b.count),vb])] 31 Tryz.func243 Z Z sM ?_
 have ab:Az w w:=Az.refl w
 have hl_va:=ha.rn.lenle
 unfold maxLen at hl_va
 have hl_vb:=hb.rn.lenle
 unfold maxLen at hl_vb
 have ah:b.kind=a.kind:=by rw[hab]
 have ai:b.num=a.num:=by rw[hab]
 have aj:b.pick=a.pick:=by rw[hab]
 have ak:b.count=a.count:=by rw[hab]
 refine A0 (Ad _ [3,3,0] Z (Bx (cs:=#[(.int .i64 a.kind),(.int .i64 a.num),(.int .i64 a.pick),(.int .i64 a.count),va]) Z Ac fun w1 a6 al a3=>?_))
 have ac:=a6.size
 have ad:=ab.trans a6
 replace a3:BX w1.heap w.heap.size [(.int .i64 a.kind),(.int .i64 a.num),(.int .i64 a.pick),(.int .i64 a.count),va]:=a3
 have am:=a3.lt
 refine Bx (cs:=#[(.int .i64 b.kind),(.int .i64 b.num),(.int .i64 b.pick),(.int .i64 b.count),vb]) Z Ac fun w2 a4 an a1=>?_
 have ae:=a4.size
 have a2:=ad.trans a4
 have a0:=a3.ext a4
 replace a1:BX w2.heap w1.heap.size [(.int .i64 b.kind),(.int .i64 b.num),(.int .i64 b.pick),(.int .i64 b.count),vb]:=a1
 refine Ae 1 Z (A0 (A0 (Ad _ [0,2,0,2,0] Z (Ao (p:=(.pointer (some ⟨w.heap.size,0,none⟩))) (b:=w.heap.size) (o:=0) 0 C5 Z Z Ac (Ak (p:=(Ay (.pointer (some ⟨w.heap.size,0,none⟩)) 0)) (.inr Z) (.int .i64 a.kind) AH Z (a0.ldp (i:=0) sM) Ac (Ao (p:=(.pointer (some ⟨w1.heap.size,0,none⟩))) (b:=w1.heap.size) (o:=0) 0 C5 Z Z Ac (Ak (p:=(Ay (.pointer (some ⟨w1.heap.size,0,none⟩)) 0)) (.inr Z) (.int .i64 b.kind) AH Z (a1.ldp (i:=0) sM) Ac ?_)))))))
 by_cases a7:a.kind≠b.kind
 ·exact AZ true Z Z (A7 a7) Ac (Ah (Ai Z (A0 (Ad _ [0] Z (Ae 1 Z (A3 (Aq (Ag [4] Z (.bool false) Z ⟨Ib,a2⟩))))))))
 ·refine AZ false Z Z (A8 a7) Ac (Ah (Aj Z (A4 (A0 (A0 (Ad _ [0,2,0,2,0] Z (Ao (p:=(.pointer (some ⟨w.heap.size,0,none⟩))) (b:=w.heap.size) (o:=0) 1 BT Z Z Ac (Ak (p:=(Ay (.pointer (some ⟨w.heap.size,0,none⟩)) 1)) (.inr Z) (.int .i64 a.num) AH Z (a0.ldp (i:=1) sM) Ac (Ao (p:=(.pointer (some ⟨w1.heap.size,0,none⟩))) (b:=w1.heap.size) (o:=0) 1 BT Z Z Ac (Ak (p:=(Ay (.pointer (some ⟨w1.heap.size,0,none⟩)) 1)) (.inr Z) (.int .i64 b.num) AH Z (a1.ldp (i:=1) sM) Ac ?_))))))))))
  by_cases a8:a.num≠b.num
  ·exact AZ true Z Z (A7 a8) Ac (Ah (Ai Z (A0 (Ad _ [0] Z (Ae 1 Z (A3 (Aq (Ag [4] Z (.bool false) Z ⟨Ib,a2⟩))))))))
  ·refine AZ false Z Z (A8 a8) Ac (Ah (Aj Z (A4 (A0 (A0 (Ad _ [0,2,0,2,0] Z (Ao (p:=(.pointer (some ⟨w.heap.size,0,none⟩))) (b:=w.heap.size) (o:=0) 2 Dn Z Z Ac (Ak (p:=(Ay (.pointer (some ⟨w.heap.size,0,none⟩)) 2)) (.inr Z) (.int .i64 a.pick) AH Z (a0.ldp (i:=2) sM) Ac (Ao (p:=(.pointer (some ⟨w1.heap.size,0,none⟩))) (b:=w1.heap.size) (o:=0) 2 Dn Z Z Ac (Ak (p:=(Ay (.pointer (some ⟨w1.heap.size,0,none⟩)) 2)) (.inr Z) (.int .i64 b.pick) AH Z (a1.ldp (i:=2) sM) Ac ?_))))))))))
   by_cases a9:a.pick≠b.pick
   ·exact AZ true Z Z (A7 a9) Ac (Ah (Ai Z (A0 (Ad _ [0] Z (Ae 1 Z (A3 (Aq (Ag [4] Z (.bool false) Z ⟨Ib,a2⟩))))))))
   ·refine AZ false Z Z (A8 a9) Ac (Ah (Aj Z (A4 (A0 (A0 (Ad _ [0,2,0,2,0] Z (Ao (p:=(.pointer (some ⟨w.heap.size,0,none⟩))) (b:=w.heap.size) (o:=0) 3 D9 Z Z Ac (Ak (p:=(Ay (.pointer (some ⟨w.heap.size,0,none⟩)) 3)) (.inr Z) (.int .i64 a.count) AH Z (a0.ldp (i:=3) sM) Ac (Ao (p:=(.pointer (some ⟨w1.heap.size,0,none⟩))) (b:=w1.heap.size) (o:=0) 3 D9 Z Z Ac (Ak (p:=(Ay (.pointer (some ⟨w1.heap.size,0,none⟩)) 3)) (.inr Z) (.int .i64 b.count) AH Z (a1.ldp (i:=3) sM) Ac ?_))))))))))
    by_cases aa:a.count≠b.count
    ·exact AZ true Z Z (A7 aa) Ac (Ah (Ai Z (A0 (Ad _ [0] Z (Ae 1 Z (A3 (Aq (Ag [4] Z (.bool false) Z ⟨Ib,a2⟩))))))))
    ·refine AZ false Z Z (A8 aa) Ac (Ah (Aj Z (A4 (A0 (A0 (Ad _ [0,2,0,2,3,0] Z (Ao (p:=(.pointer (some ⟨w.heap.size,0,none⟩))) (b:=w.heap.size) (o:=0) 4 Bo Z Z Ac (Ak (p:=(Ay (.pointer (some ⟨w.heap.size,0,none⟩)) 4)) (.inr Z) va Bp Z (a0.ldp (i:=4) sM) Ac (Ao (p:=(.pointer (some ⟨w1.heap.size,0,none⟩))) (b:=w1.heap.size) (o:=0) 4 Bo Z Z Ac (Ak (p:=(Ay (.pointer (some ⟨w1.heap.size,0,none⟩)) 4)) (.inr Z) vb Bp Z (a1.ldp (i:=4) sM) Ac ?_))))))))))
     refine Ap 214 [] [] [va,vb] Z Z aM Ac (IH _ da va (a.kids) db vb (b.kids) (ha.rn.ext (Am (AC da)) a2) (hb.rn.ext (Am (AC db)) a2) (by rw[hab]) oM) ?_
     rintro e8 w8 ⟨rfl,a5⟩
     refine⟨_,rfl,a5,?_⟩
     have af:=a5.size
     have ag:=a2.trans a5
     exact Bn false Z Z Ac (Ah (Aj Z (A4 (A0 (Ad _ [0] Z (Ae 1 Z (A3 (Ag [4] Z (.bool true) Z ⟨Ib,ag⟩))))))))
theorem MG (w:World)(da:Nat)(va:Value)(a:List Ex)(db:Nat)(vb:Value)(b:List Ex)(ha:RN [] (Dp 5 (Iv da)) w.heap va a)(hb:RN [] (Dp 5 (Iv db)) w.heap vb b)(hab:b=a) :
  Calls Tryz.prog 214 #[va,vb] w (fun e w'=>e=.returned (.bool true)∧Az w w'):=by
 induction da using Nat.strongRecOn generalizing w va a db vb b
 rename_i da ih
 refine At [va,vb] 27 Tryz.func214 Z Z sM ?_
 have a2:Az w w:=Az.refl w
 have hl_va:=ha.lenle
 unfold maxLen at hl_va
 have hl_vb:=hb.lenle
 unfold maxLen at hl_vb
 have al:b.length=a.length:=by rw[hab]
 refine A0 (Ad _ [0] Z (Ae 1 Z (A0 (A0 (Ad _ [0,0,0,0,0] Z (Af 1 Z (AJ (v:=va) DK Z ha.isSl Ac (Af 1 Z (AJ (v:=vb) DK Z hb.isSl Ac ?_)))))))))
 by_cases a8:((a.length:Nat):Int)≠((b.length:Nat):Int)
 ·exact AZ true Z Z (A7 a8) Ac (Ah (Ai Z (A0 (Ad _ [0] Z (Ae 1 Z (A3 (Aq (Ag [4] Z (.bool false) Z ⟨(by first|exact AG Z|(exfalso;omega)|(exfalso;simp_all;done)),a2⟩))))))))
 ·refine AZ false Z Z (A8 a8) Ac (Ah (Aj Z (A4 (A0 (A0 (Ad _ [0] Z (Ae 1 Z (A5 (AN (S:=Nat) (fun k=>([(5,(.int .i64 ((k:Nat):Int))),(0,va),(1,vb)])) (fun k W=>Az w W∧k≤a.length) (fun k=>a.length-k) 0 ⟨rfl,rfl,rfl,trivial⟩ ⟨a2,sD⟩ ?_)))))))))
  clear a2
  rintro k ρ2 w2 ⟨a0,aa⟩
  have ae:w.heap.size≤w2.heap.size:=a0.size
  refine A0 (A0 (Ad _ [0,0,0,0] Z (Af 2 Z (AJ (v:=va) DK Z ha.isSl Ac ?_))))
  by_cases ab:((k:Nat):Int)<((a.length:Nat):Int)
  ·refine Ax true Z Z (A7 ab) Ac (Ah (Ai Z (A4 (A0 (A5 (A0 (AY _ [0,0,0,1,0,0,0,1,3,0] mixed (by kernel_rfl) (Af 2 Z (Au (v:=va) k DK BB Z Z ha.isSl Z sD Ac ?_)))))))))
   obtain⟨cs4,af,ag⟩:=ha.get (AC da) Ex.zero (k:=k) sD
   obtain⟨dd4,a3,am,rfl,ac⟩:=RX.of af
   have a4:=ac.rn.lenle
   unfold maxLen at a4
   refine AR (p:=Aw va k 5) (.inl Z) [(.int .i64 ((a.getD k Ex.zero).kind)),(.int .i64 ((a.getD k Ex.zero).num)),(.int .i64 ((a.getD k Ex.zero).pick)),(.int .i64 ((a.getD k Ex.zero).count)),a3] BS Z (fun wq9 a5=>ag wq9 (AE.of_ext [] (a0.drew.trans a5))) Z Ac (Af 2 Z (Au (v:=vb) k DK BB Z Z hb.isSl Z sD Ac ?_))
   obtain⟨cs5,ah,ai⟩:=hb.get (AC db) Ex.zero (k:=k) sD
   obtain⟨dd5,a6,an,rfl,ad⟩:=RX.of ah
   have a7:=ad.rn.lenle
   unfold maxLen at a7
   refine AR (p:=Aw vb k 5) (.inl Z) [(.int .i64 ((b.getD k Ex.zero).kind)),(.int .i64 ((b.getD k Ex.zero).num)),(.int .i64 ((b.getD k Ex.zero).pick)),(.int .i64 ((b.getD k Ex.zero).count)),a6] BS Z (fun wq9 a5=>ai wq9 (AE.of_ext [] (a0.drew.trans a5))) Z Ac ?_
   refine Ap 243 [] [] [(.agg #[(.int .i64 ((a.getD k Ex.zero).kind)),(.int .i64 ((a.getD k Ex.zero).num)),(.int .i64 ((a.getD k Ex.zero).pick)),(.int .i64 ((a.getD k Ex.zero).count)),a3]),(.agg #[(.int .i64 ((b.getD k Ex.zero).kind)),(.int .i64 ((b.getD k Ex.zero).num)),(.int .i64 ((b.getD k Ex.zero).pick)),(.int .i64 ((b.getD k Ex.zero).count)),a6])] Z Z iM Ac (Nj _ dd4 a3 (a.getD k Ex.zero) dd5 a6 (b.getD k Ex.zero) (ac.ext a0.drew) (ad.ext a0.drew) (by rw[hab]) (by intro w9 d9 v9 a9 e9 u9 b9 h1 h2 h3 h4;exact ih d9 oM w9 v9 a9 e9 u9 b9 h1 h2 h3)) ?_
   rintro e6 w6 ⟨rfl,a1⟩
   refine⟨_,rfl,a1,?_⟩
   replace a1:=a1.of_drew
   have aj:=a1.size
   have ak:=a0.trans a1
   refine Bn false Z Z Ac (Ah (Aj Z (A4 (Ad _ [0,0,0] Z (Af 1 Z (AI ((k+1:Nat):Int) Z Z (B8 oM sD) Ac (Ae 1 Z ?_)))))))
   exact⟨(k+1),_,rfl,⟨rfl,rfl,rfl,trivial⟩,⟨ak,sD⟩,by first|omega|(dsimp only;omega)⟩
  ·exact Ax false Z Z (A8 ab) Ac (Ah (Aj Z (A6 (As (As (An (A0 (Ad _ [0] Z (Ae 1 Z (A3 (Ag [4] Z (.bool true) Z ⟨(by first|exact AG Z|(exfalso;omega)|(exfalso;simp_all;done)),a0⟩)))))))))))
theorem Ty (s:ByteArray):GR s s=true:=by unfold GR;simp
theorem Nk (w:World)(da:Nat)(va:Value)(a:Fn)(db:Nat)(vb:Value)(b:Fn)(ha:RF [] da w.heap va a)(hb:RF [] db w.heap vb b)(hab:b=a) :
  Calls Tryz.prog 170 #[(.agg #[(.string a.name),(.int .i64 a.params),va]),(.agg #[(.string b.name),(.int .i64 b.params),vb])] w (fun e w'=>e=.returned (.bool true)∧Az w w'):=by
 refine At [(.agg #[(.string a.name),(.int .i64 a.params),va]),(.agg #[(.string b.name),(.int .i64 b.params),vb])] 21 Tryz.func170 Z Z sM ?_
 have a9:Az w w:=Az.refl w
 have hl_va:=ha.rn.lenle
 unfold maxLen at hl_va
 have hl_vb:=hb.rn.lenle
 unfold maxLen at hl_vb
 have af:b.params=a.params:=by rw[hab]
 have ag:GR a.name b.name=true:=by rw[hab];exact Ty _
 refine A0 (Ad _ [3,3,0] Z (Bx (cs:=#[(.string a.name),(.int .i64 a.params),va]) Z Ac fun w1 a6 ah a3=>?_))
 have aa:=a6.size
 have ab:=a9.trans a6
 replace a3:BX w1.heap w.heap.size [(.string a.name),(.int .i64 a.params),va]:=a3
 have ai:=a3.lt
 refine Bx (cs:=#[(.string b.name),(.int .i64 b.params),vb]) Z Ac fun w2 a4 aj a1=>?_
 have ac:=a4.size
 have a2:=ab.trans a4
 have a0:=a3.ext a4
 replace a1:BX w2.heap w1.heap.size [(.string b.name),(.int .i64 b.params),vb]:=a1
 refine Ae 1 Z (A0 (A0 (Ad _ [0,2,0,2,0] Z (Ao (p:=(.pointer (some ⟨w.heap.size,0,none⟩))) (b:=w.heap.size) (o:=0) 0 GE Z Z Ac (Ak (p:=(Ay (.pointer (some ⟨w.heap.size,0,none⟩)) 0)) (.inr Z) (.string a.name) Nd Z (a0.ldp (i:=0) sM) Ac (Ao (p:=(.pointer (some ⟨w1.heap.size,0,none⟩))) (b:=w1.heap.size) (o:=0) 0 GE Z Z Ac (Ak (p:=(Ay (.pointer (some ⟨w1.heap.size,0,none⟩)) 0)) (.inr Z) (.string b.name) Nd Z (a1.ldp (i:=0) sM) Ac ?_)))))))
 cases a7:(!GR a.name b.name)
 ·refine U1 false u9 Z Z a7 Ac (Ah (Aj Z (A4 (A0 (A0 (Ad _ [0,2,0,2,0] Z (Ao (p:=(.pointer (some ⟨w.heap.size,0,none⟩))) (b:=w.heap.size) (o:=0) 1 Cw Z Z Ac (Ak (p:=(Ay (.pointer (some ⟨w.heap.size,0,none⟩)) 1)) (.inr Z) (.int .i64 a.params) AH Z (a0.ldp (i:=1) sM) Ac (Ao (p:=(.pointer (some ⟨w1.heap.size,0,none⟩))) (b:=w1.heap.size) (o:=0) 1 Cw Z Z Ac (Ak (p:=(Ay (.pointer (some ⟨w1.heap.size,0,none⟩)) 1)) (.inr Z) (.int .i64 b.params) AH Z (a1.ldp (i:=1) sM) Ac ?_))))))))))
  by_cases a8:a.params≠b.params
  ·exact AZ true Z Z (A7 a8) Ac (Ah (Ai Z (A0 (Ad _ [0] Z (Ae 1 Z (A3 (Aq (Ag [4] Z (.bool false) Z ⟨Ib,a2⟩))))))))
  ·refine AZ false Z Z (A8 a8) Ac (Ah (Aj Z (A4 (A0 (A0 (Ad _ [0,2,0,2,3,0] Z (Ao (p:=(.pointer (some ⟨w.heap.size,0,none⟩))) (b:=w.heap.size) (o:=0) 2 Cu Z Z Ac (Ak (p:=(Ay (.pointer (some ⟨w.heap.size,0,none⟩)) 2)) (.inr Z) va Bp Z (a0.ldp (i:=2) sM) Ac (Ao (p:=(.pointer (some ⟨w1.heap.size,0,none⟩))) (b:=w1.heap.size) (o:=0) 2 Cu Z Z Ac (Ak (p:=(Ay (.pointer (some ⟨w1.heap.size,0,none⟩)) 2)) (.inr Z) vb Bp Z (a1.ldp (i:=2) sM) Ac (Ap 214 [] [] [va,vb] Z Z aM Ac (MG _ da va (a.outs) db vb (b.outs) (ha.rn.ext (Am (AC da)) a2) (hb.rn.ext (Am (AC db)) a2) (by rw[hab])) ?_)))))))))))
   rintro e6 w6 ⟨rfl,a5⟩
   refine⟨_,rfl,a5,?_⟩
   have ad:=a5.size
   have ae:=a2.trans a5
   exact Bn false Z Z Ac (Ah (Aj Z (A4 (A0 (Ad _ [0] Z (Ae 1 Z (A3 (Ag [4] Z (.bool true) Z ⟨Ib,ae⟩))))))))
 ·exact U1 true u9 Z Z a7 Ac (Ah (Ai Z (A0 (Ad _ [0] Z (Ae 1 Z (A3 (Aq (Ag [4] Z (.bool false) Z ⟨Ib,a2⟩))))))))
theorem MH (w:World)(da:Nat)(va:Value)(a:List Fn)(db:Nat)(vb:Value)(b:List Fn)(ha:RP [] da w.heap va a)(hb:RP [] db w.heap vb b)(hab:b=a) :
  Calls Tryz.prog 117 #[va,vb] w (fun e w'=>e=.returned (.bool true)∧Az w w'):=by
 refine At [va,vb] 27 Tryz.func117 Z Z sM ?_
 have a2:Az w w:=Az.refl w
 have hl_va:=ha.lenle
 unfold maxLen at hl_va
 have hl_vb:=hb.lenle
 unfold maxLen at hl_vb
 have ak:b.length=a.length:=by rw[hab]
 refine A0 (Ad _ [0] Z (Ae 1 Z (A0 (A0 (Ad _ [0,0,0,0,0] Z (Af 1 Z (AJ (v:=va) Gm Z ha.isSl Ac (Af 1 Z (AJ (v:=vb) Gm Z hb.isSl Ac ?_)))))))))
 by_cases aa:((a.length:Nat):Int)≠((b.length:Nat):Int)
 ·exact AZ true Z Z (A7 aa) Ac (Ah (Ai Z (A0 (Ad _ [0] Z (Ae 1 Z (A3 (Aq (Ag [4] Z (.bool false) Z ⟨(by first|exact AG Z|(exfalso;omega)|(exfalso;simp_all;done)),a2⟩))))))))
 ·refine AZ false Z Z (A8 aa) Ac (Ah (Aj Z (A4 (A0 (A0 (Ad _ [0] Z (Ae 1 Z (A5 (AN (S:=Nat) (fun k=>([(5,(.int .i64 ((k:Nat):Int))),(0,va),(1,vb)])) (fun k W=>Az w W∧k≤a.length) (fun k=>a.length-k) 0 ⟨rfl,rfl,rfl,trivial⟩ ⟨a2,sD⟩ ?_)))))))))
  clear a2
  rintro k ρ2 w2 ⟨a0,ab⟩
  have ad:w.heap.size≤w2.heap.size:=a0.size
  refine A0 (A0 (Ad _ [0,0,0,0] Z (Af 2 Z (AJ (v:=va) Gm Z ha.isSl Ac ?_))))
  by_cases ac:((k:Nat):Int)<((a.length:Nat):Int)
  ·refine Ax true Z Z (A7 ac) Ac (Ah (Ai Z (A4 (A0 (A5 (A0 (AY _ [0,0,0,1,0,0,0,1,3,0] mixed (by kernel_rfl) (Af 2 Z (Au (v:=va) k Gm CA Z Z ha.isSl Z sD Ac ?_)))))))))
   obtain⟨cs4,ae,af⟩:=ha.get (AB da) Fn.zero (k:=k) sD
   obtain⟨a3,rfl,a4⟩:=RF.of ae
   have a5:=a4.rn.lenle
   unfold maxLen at a5
   refine AR (p:=Aw va k 3) (.inl Z) [(.string ((a.getD k Fn.zero).name)),(.int .i64 ((a.getD k Fn.zero).params)),a3] I3 Z (fun wq9 a6=>af wq9 (AE.of_ext [] (a0.drew.trans a6))) Z Ac (Af 2 Z (Au (v:=vb) k Gm CA Z Z hb.isSl Z sD Ac ?_))
   obtain⟨cs5,ag,ah⟩:=hb.get (AB db) Fn.zero (k:=k) sD
   obtain⟨a7,rfl,a8⟩:=RF.of ag
   have a9:=a8.rn.lenle
   unfold maxLen at a9
   refine AR (p:=Aw vb k 3) (.inl Z) [(.string ((b.getD k Fn.zero).name)),(.int .i64 ((b.getD k Fn.zero).params)),a7] I3 Z (fun wq9 a6=>ah wq9 (AE.of_ext [] (a0.drew.trans a6))) Z Ac (Ap 170 [] [] [(.agg #[(.string ((a.getD k Fn.zero).name)),(.int .i64 ((a.getD k Fn.zero).params)),a3]),(.agg #[(.string ((b.getD k Fn.zero).name)),(.int .i64 ((b.getD k Fn.zero).params)),a7])] Z Z gM Ac (Nk _ da a3 (a.getD k Fn.zero) db a7 (b.getD k Fn.zero) ⟨a4.rng,(a4.rn.ext (Am (AC da)) a0.drew)⟩ ⟨a8.rng,(a8.rn.ext (Am (AC db)) a0.drew)⟩ (by rw[hab])) ?_)
   rintro e6 w6 ⟨rfl,a1⟩
   refine⟨_,rfl,a1,?_⟩
   replace a1:=a1.of_drew
   have ai:=a1.size
   have aj:=a0.trans a1
   refine Bn false Z Z Ac (Ah (Aj Z (A4 (Ad _ [0,0,0] Z (Af 1 Z (AI ((k+1:Nat):Int) Z Z (B8 oM sD) Ac (Ae 1 Z ?_)))))))
   exact⟨(k+1),_,rfl,⟨rfl,rfl,rfl,trivial⟩,⟨aj,sD⟩,by first|omega|(dsimp only;omega)⟩
  ·exact Ax false Z Z (A8 ac) Ac (Ah (Aj Z (A6 (As (As (An (A0 (Ad _ [0] Z (Ae 1 Z (A3 (Ag [4] Z (.bool true) Z ⟨(by first|exact AG Z|(exfalso;omega)|(exfalso;simp_all;done)),a0⟩)))))))))))
theorem KH (w:World)(da:Nat)(va:Value)(a:List Fn)(db:Nat)(vb:Value)(b:List Fn)(ha:RP [] da w.heap va a)(hb:RP [] db w.heap vb b)(hab:b=a) :
  Calls Tryz.prog 46 #[(.agg #[va]),(.agg #[vb])] w (fun e w'=>e=.returned (.bool true)∧Az w w'):=by
 refine At [(.agg #[va]),(.agg #[vb])] 11 Tryz.func46 Z Z sM ?_
 have a7:Az w w:=Az.refl w
 have hl_va:=ha.lenle
 unfold maxLen at hl_va
 have hl_vb:=hb.lenle
 unfold maxLen at hl_vb
 refine A0 (Ad _ [3,3,0] Z (Bx (cs:=#[va]) Z Ac fun w1 a6 ad a1=>?_))
 have a8:=a6.size
 have a9:=a7.trans a6
 replace a1:BX w1.heap w.heap.size [va]:=a1
 have ae:=a1.lt
 refine Bx (cs:=#[vb]) Z Ac fun w2 a2 af a3=>?_
 have aa:=a2.size
 have a4:=a9.trans a2
 have a0:=a1.ext a2
 replace a3:BX w2.heap w1.heap.size [vb]:=a3
 refine Ae 1 Z (A0 (A0 (Ad _ [0,2,0,2,3,0] Z (Ao (p:=(.pointer (some ⟨w.heap.size,0,none⟩))) (b:=w.heap.size) (o:=0) 0 BM Z Z Ac (Ak (p:=(Ay (.pointer (some ⟨w.heap.size,0,none⟩)) 0)) (.inr Z) va Cs Z (a0.ldp (i:=0) sM) Ac (Ao (p:=(.pointer (some ⟨w1.heap.size,0,none⟩))) (b:=w1.heap.size) (o:=0) 0 BM Z Z Ac (Ak (p:=(Ay (.pointer (some ⟨w1.heap.size,0,none⟩)) 0)) (.inr Z) vb Cs Z (a3.ldp (i:=0) sM) Ac (Ap 117 [] [] [va,vb] Z Z fR Ac (MH _ da va (a) db vb (b) (ha.ext (Am (AB da)) a4) (hb.ext (Am (AB db)) a4) (by exact hab)) ?_))))))))
 rintro e4 w4 ⟨rfl,a5⟩
 refine⟨_,rfl,a5,?_⟩
 have ab:=a5.size
 have ac:=a4.trans a5
 exact Bn false Z Z Ac (Ah (Aj Z (A4 (A0 (Ad _ [0] Z (Ae 1 Z (A3 (Ag [4] Z (.bool true) Z ⟨(by first|exact AG Z|(exfalso;omega)|(exfalso;simp_all;done)),ac⟩))))))))
end
section
set_option maxHeartbeats 4000000
set_option maxRecDepth 100000
attribute [local irreducible] LW
def TS (D:Nat):Prop:=∀(w:World) (d:Nat) (va:Value) (a:List Ex) (ha:RN [] (Dp 5 (Iv d)) w.heap va a) (hs:Ex.sizes a≤1000000000) (hd:d≤D),Calls Tryz.prog 213 #[va] w (fun e w'=>∃v,e=.returned v∧Az w w'∧Fr (DL 5 (Ru 174 d) 174) w.heap.size w'.heap.size w'.heap v a)
theorem Nl (w:World)(dex:Nat)(ve:Value)(ex:Ex)(hex:RX [] dex w.heap ve ex)(hs:Ex.sizes ex.kids≤1000000000)(IH:TS dex) :
  Calls Tryz.prog 242 #[(.agg #[(.int .i64 ex.kind),(.int .i64 ex.num),(.int .i64 ex.pick),(.int .i64 ex.count),ve])] w (fun e w'=>∃v,e=.returned (.agg #[.int .i64 ex.kind,.int .i64 ex.num,.int .i64 ex.pick,.int .i64 ex.count,v])∧Az w w'∧Fr (DL 5 (Ru 174 dex) 174) w.heap.size w'.heap.size w'.heap v ex.kids):=by
 refine At [(.agg #[(.int .i64 ex.kind),(.int .i64 ex.num),(.int .i64 ex.pick),(.int .i64 ex.count),ve])] 21 Tryz.func242 Z Z sM ?_
 have bh:Az w w:=Az.refl w
 have hl_ve:=hex.rn.lenle
 unfold maxLen at hl_ve
 refine A0 (Ad _ [3,3] Z (Bx (cs:=#[(.int .i64 ex.kind),(.int .i64 ex.num),(.int .i64 ex.pick),(.int .i64 ex.count),ve]) Z Ac fun w1 b7 bx ar=>?_))
 have bi:=b7.size
 have bj:=bh.trans b7
 replace ar:BX w1.heap w.heap.size [(.int .i64 ex.kind),(.int .i64 ex.num),(.int .i64 ex.pick),(.int .i64 ex.count),ve]:=ar
 have bz:=ar.lt
 refine BJ (z:=.agg #[.int .i64 0,.int .i64 0,.int .i64 0,.int .i64 0,.slice none 0 0]) Mz Ac fun w2 ax c0 au=>?_
 have bk:=ax.size
 have bl:=bj.trans ax
 have aa:=ar.ext ax
 replace au:BX w2.heap w1.heap.size [(.int .i64 0),(.int .i64 0),(.int .i64 0),(.int .i64 0),(.slice none 0 0)]:=au
 refine Ah (A0 (Ad _ [3] Z ?_))
 have c1:=aa.lt
 have c2:=au.lt
 refine BJ (z:=.agg #[.int .i64 0,.int .i64 0,.int .i64 0,.int .i64 0,.slice none 0 0]) Mz Ac fun w4 av c3 ay=>?_
 have bm:=av.size
 have b8:=bl.trans av
 have ab:=aa.ext av
 have ag:=au.ext av
 replace ay:BX w4.heap w2.heap.size [(.int .i64 0),(.int .i64 0),(.int .i64 0),(.int .i64 0),(.slice none 0 0)]:=ay
 refine Ah (A0 (Ad _ [0,2,0,4] Z (Ao (p:=(.pointer (some ⟨w.heap.size,0,none⟩))) (b:=w.heap.size) (o:=0) 0 Z5 Z Z Ac (Ak (p:=(Ay (.pointer (some ⟨w.heap.size,0,none⟩)) 0)) (.inr Z) (.int .i64 ex.kind) AH Z (ab.ldp (i:=0) sM) Ac (Ao (p:=(.pointer (some ⟨w2.heap.size,0,none⟩))) (b:=w2.heap.size) (o:=0) 0 C5 Z Z Ac (Co (k:=0) (w:=w4) ID Z Z ⟨rfl,rfl⟩ ay sM Ac fun w7 aw c4 az=>?_))))))
 replace az:BX w7.heap w2.heap.size [(.int .i64 ex.kind),(.int .i64 0),(.int .i64 0),(.int .i64 0),(.slice none 0 0)]:=az
 have b9:Az w w7:=aw.below b8 (fun c hc=>by have:=Ab hc;omega) b8.size
 have bn:=aw.size
 have ba:=ab.chg aw (fun hm=>by have:=Ab hm;omega)
 have bo:=ag.chg aw (fun hm=>by have:=Ab hm;omega)
 refine Ah (A0 (Ad _ [0,2,0,4] Z (Ao (p:=(.pointer (some ⟨w.heap.size,0,none⟩))) (b:=w.heap.size) (o:=0) 1 Z6 Z Z Ac (Ak (p:=(Ay (.pointer (some ⟨w.heap.size,0,none⟩)) 1)) (.inr Z) (.int .i64 ex.num) AH Z (ba.ldp (i:=1) sM) Ac (Ao (p:=(.pointer (some ⟨w2.heap.size,0,none⟩))) (b:=w2.heap.size) (o:=0) 1 BT Z Z Ac (Co (k:=1) (w:=w7) ID Z Z ⟨rfl,rfl⟩ az sM Ac fun w10 a3 bp ac=>?_))))))
 replace ac:BX w10.heap w2.heap.size [(.int .i64 ex.kind),(.int .i64 ex.num),(.int .i64 0),(.int .i64 0),(.slice none 0 0)]:=ac
 have ah:Az w w10:=a3.below b9 (fun c hc=>by have:=Ab hc;omega) b9.size
 have bb:=a3.size
 have ai:=ba.chg a3 (fun hm=>by have:=Ab hm;omega)
 have b0:=bo.chg a3 (fun hm=>by have:=Ab hm;omega)
 refine Ah (A0 (Ad _ [0,2,0,4] Z (Ao (p:=(.pointer (some ⟨w.heap.size,0,none⟩))) (b:=w.heap.size) (o:=0) 2 Z7 Z Z Ac (Ak (p:=(Ay (.pointer (some ⟨w.heap.size,0,none⟩)) 2)) (.inr Z) (.int .i64 ex.pick) AH Z (ai.ldp (i:=2) sM) Ac (Ao (p:=(.pointer (some ⟨w2.heap.size,0,none⟩))) (b:=w2.heap.size) (o:=0) 2 Dn Z Z Ac (Co (k:=2) (w:=w10) ID Z Z ⟨rfl,rfl⟩ ac sM Ac fun w13 a4 bq ad=>?_))))))
 replace ad:BX w13.heap w2.heap.size [(.int .i64 ex.kind),(.int .i64 ex.num),(.int .i64 ex.pick),(.int .i64 0),(.slice none 0 0)]:=ad
 have aj:Az w w13:=a4.below ah (fun c hc=>by have:=Ab hc;omega) ah.size
 have bc:=a4.size
 have ak:=ai.chg a4 (fun hm=>by have:=Ab hm;omega)
 have b1:=b0.chg a4 (fun hm=>by have:=Ab hm;omega)
 refine Ah (A0 (Ad _ [0,2,0,4] Z (Ao (p:=(.pointer (some ⟨w.heap.size,0,none⟩))) (b:=w.heap.size) (o:=0) 3 Z8 Z Z Ac (Ak (p:=(Ay (.pointer (some ⟨w.heap.size,0,none⟩)) 3)) (.inr Z) (.int .i64 ex.count) AH Z (ak.ldp (i:=3) sM) Ac (Ao (p:=(.pointer (some ⟨w2.heap.size,0,none⟩))) (b:=w2.heap.size) (o:=0) 3 D9 Z Z Ac (Co (k:=3) (w:=w13) ID Z Z ⟨rfl,rfl⟩ ad sM Ac fun w16 a5 br ae=>?_))))))
 replace ae:BX w16.heap w2.heap.size [(.int .i64 ex.kind),(.int .i64 ex.num),(.int .i64 ex.pick),(.int .i64 ex.count),(.slice none 0 0)]:=ae
 have al:Az w w16:=a5.below aj (fun c hc=>by have:=Ab hc;omega) aj.size
 have bd:=a5.size
 have am:=ak.chg a5 (fun hm=>by have:=Ab hm;omega)
 have b2:=b1.chg a5 (fun hm=>by have:=Ab hm;omega)
 refine Ah (A0 (Ad _ [0,2,3,0,4] Z (Ao (p:=(.pointer (some ⟨w.heap.size,0,none⟩))) (b:=w.heap.size) (o:=0) 4 SS Z Z Ac (Ak (p:=(Ay (.pointer (some ⟨w.heap.size,0,none⟩)) 4)) (.inr Z) ve OS Z (am.ldp (i:=4) sM) Ac (Ap 213 [] [] [ve] Z Z aL Ac (IH _ dex ve (ex.kids) (hex.rn.ext (Am (AC dex)) al) (by exact hs) oM) ?_)))))
 rintro e19 w19 ⟨v19,rfl,a0,an⟩
 refine⟨_,rfl,a0,?_⟩
 have be:=a0.size
 have ao:=al.trans a0
 have a6:=am.ext a0
 have a7:=b2.ext a0
 have a8:=ae.ext a0
 refine Ao (p:=(.pointer (some ⟨w2.heap.size,0,none⟩))) (b:=w2.heap.size) (o:=0) 4 Bo Z Z Ac (Co (k:=4) (w:=w19) iT Z Z (BQ an.isSlS) a8 sM Ac fun w20 a1 bs a9=>?_)
 replace a9:BX w20.heap w2.heap.size [(.int .i64 ex.kind),(.int .i64 ex.num),(.int .i64 ex.pick),(.int .i64 ex.count),v19]:=a9
 have ap:Az w w20:=a1.below ao (fun c hc=>by have:=Ab hc;omega) ao.size
 have bf:=a1.size
 have b3:=a6.chg a1 (fun hm=>by have:=Ab hm;omega)
 have b4:=a7.chg a1 (fun hm=>by have:=Ab hm;omega)
 have aq:=an.chg ((Av (Cv 174 dex))) a1 (fun c hc=>by have:=Ab hc;omega)
 refine Ah (A0 (Ad _ [2,4] Z (AR (p:=(.pointer (some ⟨w2.heap.size,0,none⟩))) (.inr Z) [(.int .i64 ex.kind),(.int .i64 ex.num),(.int .i64 ex.pick),(.int .i64 ex.count),v19] BS Z (fun wq9 bt=>LD.of_box (BX.ext (w:=w20) a9 bt)) Z Ac (CT (vs:=[(.int .i64 ex.kind),(.int .i64 ex.num),(.int .i64 ex.pick),(.int .i64 ex.count),v19]) BS Z Z (by intro u hu;simp only[List.mem_cons,List.not_mem_nil,or_false]at hu;rcases hu with rfl|rfl|rfl|rfl|rfl <;> first|exact⟨rfl,rfl⟩|exact BQ aq.isSlS) b4 Z Z Ac fun w24 a2 bu af=>?_))))
 replace af:BX w24.heap w1.heap.size [(.int .i64 ex.kind),(.int .i64 ex.num),(.int .i64 ex.pick),(.int .i64 ex.count),v19]:=af
 have b5:Az w w24:=a2.below ap (fun c hc=>by have:=Ab hc;omega) ap.size
 have bg:=a2.size
 have bv:=b3.chg a2 (fun hm=>by have:=Ab hm;omega)
 have bw:=a9.chg a2 (fun hm=>by have:=Ab hm;omega)
 have b6:=aq.chg ((Av (Cv 174 dex))) a2 (fun c hc=>by have:=Ab hc;omega)
 exact Ah (A3 (Kl (cs:=[(.int .i64 ex.kind),(.int .i64 ex.num),(.int .i64 ex.pick),(.int .i64 ex.count),v19]) Z BS Z af Z ⟨v19,rfl,b5,((b6.up (Av (Cv 174 dex))).low (B':=w.heap.size) oM)⟩))
theorem MI (w:World)(da:Nat)(va:Value)(a:List Ex)(ha:RN [] (Dp 5 (Iv da)) w.heap va a)(hs:Ex.sizes a≤1000000000) :
  Calls Tryz.prog 213 #[va] w (fun e w'=>∃v,e=.returned v∧Az w w'∧Fr (DL 5 (Ru 174 da) 174) w.heap.size w'.heap.size w'.heap v a):=by
 induction da using Nat.strongRecOn generalizing w va a
 rename_i da ih
 refine At [va] 23 Tryz.func213 Z Z sM ?_
 have aa:Az w w:=Az.refl w
 have hl_va:=ha.lenle
 unfold maxLen at hl_va
 have ah:=G5 a 0
 refine A0 (Ad _ [0] Z (Ae 1 Z (A0 (Ad _ [0,0,3,0] Z (Af 1 Z (AJ (v:=va) R1 Z ha.isSl Ac (Rt (n:=a.length) (zs:=FL Ex.zero (.slice none 0 0)) (z0:=Ex.zero) (Cv 174 da) DK BB Z Z Z Z Z (by decide) oM (fun h0 H=>U7 (RN.exPos ha h0) H) Ac fun v1 w1 a4 ai ab=>?_)))))))
 have a5:=a4.size
 have ac:=aa.trans a4
 refine Ae 1 Z (A0 (A0 (Ad _ [0] Z (Ae 1 Z (A5 ?_)))))
 refine AN (S:=Nat) (fun k=>([(4,(.int .i64 ((k:Nat):Int))),(0,va),(3,v1)])) (fun k W=>Az w W∧Fr (DL 5 (Ru 174 da) 174) w.heap.size W.heap.size W.heap v1 (a.take k++List.replicate (a.length-k) Ex.zero)∧k≤a.length) (fun k=>a.length-k) 0 ⟨rfl,rfl,rfl,trivial⟩ ⟨ac,(by simpa using ab.up (Av (Cv 174 da))),sD⟩ ?_
 clear aa ab ai a4 a5 ac
 rintro k ρ2 w2 ⟨a2,a1,ad⟩
 have aj:w.heap.size≤w2.heap.size:=a2.size
 have hml:(a.take k++List.replicate (a.length-k) Ex.zero).length=a.length:=by rw[List.length_append,List.length_take,List.length_replicate];omega
 refine A0 (A0 (Ad _ [0,0,0,0] Z (Af 2 Z (AJ (v:=va) R1 Z ha.isSl Ac ?_))))
 by_cases ae:((k:Nat):Int)<((a.length:Nat):Int)
 ·refine Ax true Z Z (A7 ae) Ac (Ah (Ai Z (A4 (A0 (A5 (Ad _ [0,0,0,0,0,2,3,0,4] Z ?_))))))
  have hsa:=LM (l:=a) (k:=k) oM
  have hsk:=Cb (a.getD k Ex.zero)
  refine Af 4 Z (Au (v:=va) k R1 Xl Z Z ha.isSl Z sD Ac ?_)
  obtain⟨cs4,ak,al⟩:=ha.get (AC da) Ex.zero (k:=k) sD
  obtain⟨dd4,a6,am,rfl,a7⟩:=RX.of ak
  have a8:=a7.rn.lenle
  unfold maxLen at a8
  refine AR (p:=Aw va k 5) (.inr Z) [(.int .i64 ((a.getD k Ex.zero).kind)),(.int .i64 ((a.getD k Ex.zero).num)),(.int .i64 ((a.getD k Ex.zero).pick)),(.int .i64 ((a.getD k Ex.zero).count)),a6] Xk Z (fun wq9 an=>al wq9 (AE.of_ext [] (a2.trans an))) Z Ac (Ap 242 [] [] [(.agg #[(.int .i64 ((a.getD k Ex.zero).kind)),(.int .i64 ((a.getD k Ex.zero).num)),(.int .i64 ((a.getD k Ex.zero).pick)),(.int .i64 ((a.getD k Ex.zero).count)),a6])] Z Z iL Ac (Nl _ dd4 a6 (a.getD k Ex.zero) (a7.ext a2) oM (by intro w9 d9 v9 a9 h1 h2 h3;exact ih d9 oM w9 v9 a9 h1 h2)) ?_)
  rintro e5 w5 ⟨v5,rfl,a3,ao⟩
  refine⟨_,rfl,a3,?_⟩
  have ap:=a3.size
  have af:=a2.trans a3
  have a0:=a1.ext ((Av (Cv 174 da))) a3
  refine Au (v:=v1) k DK BB Z Z a0.isSlS Z sD Ac ?_
  refine U3 (v:=v1) (cs:=[(.int .i64 ((a.getD k Ex.zero).kind)),(.int .i64 ((a.getD k Ex.zero).num)),(.int .i64 ((a.getD k Ex.zero).pick)),(.int .i64 ((a.getD k Ex.zero).count)),v5]) (n:=(a.getD k Ex.zero)) (j:=k) (Cv 174 da) BS Z Z a0 (bP (d':=dd4) am a7.rng ao) oM oM sD Ac fun w6 F6 ag aw aq ar=>?_
  have au:Az w w6:=ag.below af (fun c hc=>Aa (A9 _) (aq c hc).1) af.size
  have av:=ag.size
  refine Ah (Ad _ [0,0,0] Z (Af 1 Z (AI ((k+1:Nat):Int) Z Z (B8 oM sD) Ac (Ae 1 Z ?_))))
  exact⟨(k+1),_,rfl,⟨rfl,rfl,rfl,trivial⟩,⟨au,(by have h:=ar.up (Av (Cv 174 da));rwa [Po oM]at h),sD⟩,by first|omega|(dsimp only;omega)⟩
 ·exact Ax false Z Z (A8 ae) Ac (Ah (Aj Z (A6 (As (As (An (A0 (Ad _ [0,0] Z (Ae 2 Z (A3 (Ag [2] Z v1 Z ⟨v1,rfl,a2,(by have h:=((a1.up (Av (Cv 174 da))).low (B':=w.heap.size) oM);rwa [show a.take k++List.replicate (a.length-k) Ex.zero=a from by rw[List.take_of_length_le oM,show a.length-k=0 from by omega];simp]at h)⟩)))))))))))
theorem Nn (w:World)(dg:Nat)(vf:Value)(g:Fn)(hg:RF [] dg w.heap vf g)(hs:Ex.sizes g.outs≤1000000000) :
  Calls Tryz.prog 167 #[(.agg #[(.string g.name),(.int .i64 g.params),vf])] w (fun e w'=>∃v,e=.returned (.agg #[.string g.name,.int .i64 g.params,v])∧Az w w'∧Fr (DL 5 (Ru 174 dg) 174) w.heap.size w'.heap.size w'.heap v g.outs):=by
 refine At [(.agg #[(.string g.name),(.int .i64 g.params),vf])] 15 Tryz.func167 Z Z sM ?_
 have b5:Az w w:=Az.refl w
 have hl_vf:=hg.rn.lenle
 unfold maxLen at hl_vf
 refine A0 (Ad _ [3,3] Z (Bx (cs:=#[(.string g.name),(.int .i64 g.params),vf]) Z Ac fun w1 ax bj aj=>?_))
 have b6:=ax.size
 have b7:=b5.trans ax
 replace aj:BX w1.heap w.heap.size [(.string g.name),(.int .i64 g.params),vf]:=aj
 have bk:=aj.lt
 refine BJ (z:=.agg #[.string ByteArray.empty,.int .i64 0,.slice none 0 0]) YZ Ac fun w2 an bl ak=>?_
 have b8:=an.size
 have b9:=b7.trans an
 have a8:=aj.ext an
 replace ak:BX w2.heap w1.heap.size [(.string ByteArray.empty),(.int .i64 0),(.slice none 0 0)]:=ak
 refine Ah (A0 (Ad _ [3] Z ?_))
 have bm:=a8.lt
 have bn:=ak.lt
 refine BJ (z:=.agg #[.string ByteArray.empty,.int .i64 0,.slice none 0 0]) YZ Ac fun w4 al bo ao=>?_
 have ba:=al.size
 have ay:=b9.trans al
 have a9:=a8.ext al
 have ac:=ak.ext al
 replace ao:BX w4.heap w2.heap.size [(.string ByteArray.empty),(.int .i64 0),(.slice none 0 0)]:=ao
 refine Ah (A0 (Ad _ [0,2,0,4] Z (Ao (p:=(.pointer (some ⟨w.heap.size,0,none⟩))) (b:=w.heap.size) (o:=0) 0 SK Z Z Ac (Ak (p:=(Ay (.pointer (some ⟨w.heap.size,0,none⟩)) 0)) (.inr Z) (.string g.name) Nd Z (a9.ldp (i:=0) sM) Ac (Ao (p:=(.pointer (some ⟨w2.heap.size,0,none⟩))) (b:=w2.heap.size) (o:=0) 0 GE Z Z Ac (Co (k:=0) (w:=w4) lF Z Z ⟨rfl,rfl⟩ ao sM Ac fun w7 am bp ap=>?_))))))
 replace ap:BX w7.heap w2.heap.size [(.string g.name),(.int .i64 0),(.slice none 0 0)]:=ap
 have az:Az w w7:=am.below ay (fun c hc=>by have:=Ab hc;omega) ay.size
 have bb:=am.size
 have b0:=a9.chg am (fun hm=>by have:=Ab hm;omega)
 have bc:=ac.chg am (fun hm=>by have:=Ab hm;omega)
 refine Ah (A0 (Ad _ [0,2,0,4] Z (Ao (p:=(.pointer (some ⟨w.heap.size,0,none⟩))) (b:=w.heap.size) (o:=0) 1 Z1 Z Z Ac (Ak (p:=(Ay (.pointer (some ⟨w.heap.size,0,none⟩)) 1)) (.inr Z) (.int .i64 g.params) AH Z (b0.ldp (i:=1) sM) Ac (Ao (p:=(.pointer (some ⟨w2.heap.size,0,none⟩))) (b:=w2.heap.size) (o:=0) 1 Cw Z Z Ac (Co (k:=1) (w:=w7) ID Z Z ⟨rfl,rfl⟩ ap sM Ac fun w10 a3 bd aa=>?_))))))
 replace aa:BX w10.heap w2.heap.size [(.string g.name),(.int .i64 g.params),(.slice none 0 0)]:=aa
 have ad:Az w w10:=a3.below az (fun c hc=>by have:=Ab hc;omega) az.size
 have b1:=a3.size
 have ae:=b0.chg a3 (fun hm=>by have:=Ab hm;omega)
 have aq:=bc.chg a3 (fun hm=>by have:=Ab hm;omega)
 refine Ah (A0 (Ad _ [0,2,3,0,4] Z (Ao (p:=(.pointer (some ⟨w.heap.size,0,none⟩))) (b:=w.heap.size) (o:=0) 2 SL Z Z Ac (Ak (p:=(Ay (.pointer (some ⟨w.heap.size,0,none⟩)) 2)) (.inr Z) vf OS Z (ae.ldp (i:=2) sM) Ac (Ap 213 [] [] [vf] Z Z aL Ac (MI _ dg vf (g.outs) (hg.rn.ext (Am (AC dg)) ad) (by exact hs)) ?_)))))
 rintro e13 w13 ⟨v13,rfl,a0,af⟩
 refine⟨_,rfl,a0,?_⟩
 have b2:=a0.size
 have ag:=ad.trans a0
 have a4:=ae.ext a0
 have a5:=aq.ext a0
 have a6:=aa.ext a0
 refine Ao (p:=(.pointer (some ⟨w2.heap.size,0,none⟩))) (b:=w2.heap.size) (o:=0) 2 Cu Z Z Ac (Co (k:=2) (w:=w13) iT Z Z (BQ af.isSlS) a6 sM Ac fun w14 a1 be a7=>?_)
 replace a7:BX w14.heap w2.heap.size [(.string g.name),(.int .i64 g.params),v13]:=a7
 have ah:Az w w14:=a1.below ag (fun c hc=>by have:=Ab hc;omega) ag.size
 have b3:=a1.size
 have ar:=a4.chg a1 (fun hm=>by have:=Ab hm;omega)
 have au:=a5.chg a1 (fun hm=>by have:=Ab hm;omega)
 have ai:=af.chg ((Av (Cv 174 dg))) a1 (fun c hc=>by have:=Ab hc;omega)
 refine Ah (A0 (Ad _ [2,4] Z (AR (p:=(.pointer (some ⟨w2.heap.size,0,none⟩))) (.inr Z) [(.string g.name),(.int .i64 g.params),v13] I3 Z (fun wq9 bf=>LD.of_box (BX.ext (w:=w14) a7 bf)) Z Ac (CT (vs:=[(.string g.name),(.int .i64 g.params),v13]) I3 Z Z (by intro u hu;simp only[List.mem_cons,List.not_mem_nil,or_false]at hu;rcases hu with rfl|rfl|rfl <;> first|exact⟨rfl,rfl⟩|exact BQ ai.isSlS) au Z Z Ac fun w18 a2 bg ab=>?_))))
 replace ab:BX w18.heap w1.heap.size [(.string g.name),(.int .i64 g.params),v13]:=ab
 have av:Az w w18:=a2.below ah (fun c hc=>by have:=Ab hc;omega) ah.size
 have b4:=a2.size
 have bh:=ar.chg a2 (fun hm=>by have:=Ab hm;omega)
 have bi:=a7.chg a2 (fun hm=>by have:=Ab hm;omega)
 have aw:=ai.chg ((Av (Cv 174 dg))) a2 (fun c hc=>by have:=Ab hc;omega)
 exact Ah (A3 (Kl (cs:=[(.string g.name),(.int .i64 g.params),v13]) Z I3 Z ab Z ⟨v13,rfl,av,((aw.up (Av (Cv 174 dg))).low (B':=w.heap.size) oM)⟩))
theorem MJ (w:World)(da:Nat)(va:Value)(a:List Fn)(ha:RP [] da w.heap va a)(hs:OC a≤1000000000) :
  Calls Tryz.prog 112 #[va] w (fun e w'=>∃v,e=.returned v∧Az w w'∧Fr (DL 3 (XX 174 da) 55) w.heap.size w'.heap.size w'.heap v a):=by
 refine At [va] 23 Tryz.func112 Z Z sM ?_
 have a9:Az w w:=Az.refl w
 have hl_va:=ha.lenle
 unfold maxLen at hl_va
 have hsz:OC a=a.length+Fn.szs a:=rfl
 refine A0 (Ad _ [0] Z (Ae 1 Z (A0 (Ad _ [0,0,3,0] Z (Af 1 Z (AJ (v:=va) eL Z ha.isSl Ac (Rt (n:=a.length) (zs:=FM Fn.zero (.slice none 0 0)) (z0:=Fn.zero) (AK 174 da) Gm CA Z Z Z Z Z (by decide) oM (fun _ H=>U8 H) Ac fun v1 w1 a5 ag aa=>?_)))))))
 have a6:=a5.size
 have ab:=a9.trans a5
 refine Ae 1 Z (A0 (A0 (Ad _ [0] Z (Ae 1 Z (A5 ?_)))))
 refine AN (S:=Nat) (fun k=>([(4,(.int .i64 ((k:Nat):Int))),(0,va),(3,v1)])) (fun k W=>Az w W∧Fr (DL 3 (XX 174 da) 55) w.heap.size W.heap.size W.heap v1 (a.take k++List.replicate (a.length-k) Fn.zero)∧k≤a.length) (fun k=>a.length-k) 0 ⟨rfl,rfl,rfl,trivial⟩ ⟨ab,(by simpa using aa.up (Av (AK 174 da))),sD⟩ ?_
 clear a9 aa ag a5 a6 ab
 rintro k ρ2 w2 ⟨a2,a1,ac⟩
 have ah:w.heap.size≤w2.heap.size:=a2.size
 have hml:(a.take k++List.replicate (a.length-k) Fn.zero).length=a.length:=by rw[List.length_append,List.length_take,List.length_replicate];omega
 refine A0 (A0 (Ad _ [0,0,0,0] Z (Af 2 Z (AJ (v:=va) eL Z ha.isSl Ac ?_))))
 by_cases ad:((k:Nat):Int)<((a.length:Nat):Int)
 ·refine Ax true Z Z (A7 ad) Ac (Ah (Ai Z (A4 (A0 (A5 (Ad _ [0,0,0,0,0,2,3,0,4] Z ?_))))))
  have hsa:=Vi (l:=a) (k:=k) oM
  have hsk:(a.getD k Fn.zero).sz=(a.getD k Fn.zero).name.size+Ex.sizes (a.getD k Fn.zero).outs:=rfl
  refine Af 4 Z (Au (v:=va) k eL Xj Z Z ha.isSl Z sD Ac ?_)
  obtain⟨cs4,ai,aj⟩:=ha.get (AB da) Fn.zero (k:=k) sD
  obtain⟨a7,rfl,a3⟩:=RF.of ai
  have a8:=a3.rn.lenle
  unfold maxLen at a8
  refine AR (p:=Aw va k 3) (.inr Z) [(.string ((a.getD k Fn.zero).name)),(.int .i64 ((a.getD k Fn.zero).params)),a7] Xi Z (fun wq9 ak=>aj wq9 (AE.of_ext [] (a2.trans ak))) Z Ac (Ap 167 [] [] [(.agg #[(.string ((a.getD k Fn.zero).name)),(.int .i64 ((a.getD k Fn.zero).params)),a7])] Z Z gL Ac (Nn _ da a7 (a.getD k Fn.zero) ⟨a3.rng,(a3.rn.ext (Am (AC da)) a2)⟩ oM) ?_)
  rintro e5 w5 ⟨v5,rfl,a4,al⟩
  refine⟨_,rfl,a4,?_⟩
  have am:=a4.size
  have ae:=a2.trans a4
  have a0:=a1.ext ((Av (AK 174 da))) a4
  refine Au (v:=v1) k Gm CA Z Z a0.isSlS Z sD Ac ?_
  refine U3 (v:=v1) (cs:=[(.string ((a.getD k Fn.zero).name)),(.int .i64 ((a.getD k Fn.zero).params)),v5]) (n:=(a.getD k Fn.zero)) (j:=k) (AK 174 da) I3 Z Z a0 (bQ a3.rng al) oM oM sD Ac fun w6 F6 af ar an ao=>?_
  have ap:Az w w6:=af.below ae (fun c hc=>Aa (A9 _) (an c hc).1) ae.size
  have aq:=af.size
  refine Ah (Ad _ [0,0,0] Z (Af 1 Z (AI ((k+1:Nat):Int) Z Z (B8 oM sD) Ac (Ae 1 Z ?_))))
  exact⟨(k+1),_,rfl,⟨rfl,rfl,rfl,trivial⟩,⟨ap,(by have h:=ao.up (Av (AK 174 da));rwa [Po oM]at h),sD⟩,by first|omega|(dsimp only;omega)⟩
 ·exact Ax false Z Z (A8 ad) Ac (Ah (Aj Z (A6 (As (As (An (A0 (Ad _ [0,0] Z (Ae 2 Z (A3 (Ag [2] Z v1 Z ⟨v1,rfl,a2,(by have h:=((a1.up (Av (AK 174 da))).low (B':=w.heap.size) oM);rwa [show a.take k++List.replicate (a.length-k) Fn.zero=a from by rw[List.take_of_length_le oM,show a.length-k=0 from by omega];simp]at h)⟩)))))))))))
theorem DJ (w:World)(dp:Nat)(vp:Value)(p:List Fn)(hp:RP [] dp w.heap vp p)(hs:OC p≤1000000000) :
  Calls Tryz.prog 43 #[(.agg #[vp])] w (fun e w'=>∃v,e=.returned (.agg #[v])∧Az w w'∧Fr (DL 3 (XX 174 dp) 55) w.heap.size w'.heap.size w'.heap v p):=by
 refine At [(.agg #[vp])] 9 Tryz.func43 Z Z sM ?_
 have aq:Az w w:=Az.refl w
 have hl_vp:=hp.lenle
 unfold maxLen at hl_vp
 refine A0 (Ad _ [3,3] Z (Bx (cs:=#[vp]) Z Ac fun w1 ak b5 ab=>?_))
 have ar:=ak.size
 have au:=aq.trans ak
 replace ab:BX w1.heap w.heap.size [vp]:=ab
 have b6:=ab.lt
 refine BJ (z:=.agg #[.slice none 0 0]) eN Ac fun w2 af b7 ac=>?_
 have av:=af.size
 have aw:=au.trans af
 have a1:=ab.ext af
 replace ac:BX w2.heap w1.heap.size [(.slice none 0 0)]:=ac
 refine Ah (A0 (Ad _ [3] Z ?_))
 have b8:=a1.lt
 have b9:=ac.lt
 refine BJ (z:=.agg #[.slice none 0 0]) eN Ac fun w4 ad ba ag=>?_
 have ax:=ad.size
 have al:=aw.trans ad
 have a2:=a1.ext ad
 have a5:=ac.ext ad
 replace ag:BX w4.heap w2.heap.size [(.slice none 0 0)]:=ag
 refine Ah (A0 (Ad _ [0,2,3,0,4] Z (Ao (p:=(.pointer (some ⟨w.heap.size,0,none⟩))) (b:=w.heap.size) (o:=0) 0 Xh Z Z Ac (Ak (p:=(Ay (.pointer (some ⟨w.heap.size,0,none⟩)) 0)) (.inr Z) vp aS Z (a2.ldp (i:=0) sM) Ac (Ap 112 [] [] [vp] Z Z fQ Ac (MJ _ dp vp (p) (hp.ext (Am (AB dp)) al) (by exact hs)) ?_)))))
 rintro e7 w7 ⟨v7,rfl,a4,am⟩
 refine⟨_,rfl,a4,?_⟩
 have ay:=a4.size
 have an:=al.trans a4
 have a6:=a2.ext a4
 have a7:=a5.ext a4
 have a8:=ag.ext a4
 refine Ao (p:=(.pointer (some ⟨w2.heap.size,0,none⟩))) (b:=w2.heap.size) (o:=0) 0 BM Z Z Ac (Co (k:=0) (w:=w7) kW Z Z (BQ am.isSlS) a8 sM Ac fun w8 a9 bb ae=>?_)
 replace ae:BX w8.heap w2.heap.size [v7]:=ae
 have ao:Az w w8:=a9.below an (fun c hc=>by have:=Ab hc;omega) an.size
 have az:=a9.size
 have b0:=a6.chg a9 (fun hm=>by have:=Ab hm;omega)
 have ah:=a7.chg a9 (fun hm=>by have:=Ab hm;omega)
 have aa:=am.chg ((Av (AK 174 dp))) a9 (fun c hc=>by have:=Ab hc;omega)
 refine Ah (A0 (Ad _ [2,4] Z (AR (p:=(.pointer (some ⟨w2.heap.size,0,none⟩))) (.inr Z) [v7] EB Z (fun wq9 b1=>LD.of_box (BX.ext (w:=w8) ae b1)) Z Ac (CT (vs:=[v7]) EB Z Z (by intro u hu;simp only[List.mem_cons,List.not_mem_nil,or_false]at hu;rcases hu with rfl <;> first|exact⟨rfl,rfl⟩|exact BQ aa.isSlS) ah Z Z Ac fun w12 a0 b2 a3=>?_))))
 replace a3:BX w12.heap w1.heap.size [v7]:=a3
 have ai:Az w w12:=a0.below ao (fun c hc=>by have:=Ab hc;omega) ao.size
 have ap:=a0.size
 have b3:=b0.chg a0 (fun hm=>by have:=Ab hm;omega)
 have b4:=ae.chg a0 (fun hm=>by have:=Ab hm;omega)
 have aj:=aa.chg ((Av (AK 174 dp))) a0 (fun c hc=>by have:=Ab hc;omega)
 exact Ah (A3 (Kl (cs:=[v7]) Z EB Z a3 Z ⟨v7,rfl,ai,((aj.up (Av (AK 174 dp))).low (B':=w.heap.size) oM)⟩))
theorem L8 (w:World)(k:Int)(_hk:BC k)(hk:0≤k∧k≤4000000000) :
  Calls Tryz.prog 186 #[.int .i64 k] w (fun e w'=>∃s,e=.returned (.string s)∧Az w w'):=by
 refine At [.int .i64 k] 20 Tryz.func186 Z Z sM ?_
 have a0:Az w w:=Az.refl w
 refine A0 (Ad _ [0] Z (Ae 1 Z (A0 (A0 (Ad _ [0,0] Z (Af 1 Z ?_))))))
 by_cases a2:k≤((0:Nat):Int)
 ·exact Ei true Z Z (A7 a2) Ac (Ah (Ai Z (A0 (Ad _ [0] Z (Ae 1 Z (A3 (Aq (Ag [2] Z (.string (⟨#[109,48]⟩)) Z ⟨⟨#[109,48]⟩,rfl,a0⟩))))))))
 ·refine Ei false Z Z (A8 a2) Ac (Ah (Aj Z (A4 (A0 (Ad _ [0] Z (Ae 1 Z (A0 (A5 (AN (S:=Int×ByteArray) (fun⟨l,s⟩=>([(0,(.int .i64 l)),(3,(.string s))])) (fun⟨l,s⟩ W=>Az w W∧(0≤l∧l+(s.size:Int)≤k)) (fun⟨l,s⟩=>l.toNat) (k,(⟨#[]⟩)) ⟨rfl,rfl,trivial⟩ ⟨a0,(by exact⟨by omega,by show k+((0:Nat):Int)≤k;omega⟩)⟩ ?_)))))))))
  clear a0
  rintro⟨l,s⟩ ρ2 w2 ⟨a1,a3⟩
  have a6:w.heap.size≤w2.heap.size:=a1.size
  refine A0 (A0 (Ad _ [0,0] Z (Af 1 Z ?_)))
  by_cases a4:((0:Nat):Int)<l
  ·refine C6 true Z Z (A7 a4) Ac (Ah (Ai Z (A4 (A5 (A0 (Ad _ [0,0,0,0,3,2,0,0,0] Z ?_))))))
   have htm:0≤l.tmod ((10:Nat):Int)∧l.tmod ((10:Nat):Int)<10:=⟨Int.tmod_nonneg _ oM,Int.tmod_lt_of_pos _ oM⟩
   refine Af 1 Z (EA (l.tmod ((10:Nat):Int)) Z Z (by decide) Z Ac (AI (((48:Nat):Int)+l.tmod ((10:Nat):Int)) Z Z (FR oM oM) Ac (bG (IntKind.u8.wrap (((48:Nat):Int)+l.tmod ((10:Nat):Int))) u3 u5 Z Z Ac (Bq (u:=(.int .u8 (IntKind.u8.wrap (((48:Nat):Int)+l.tmod ((10:Nat):Int))))) (B:=w2.heap.size) Bd lG lM Z Z (Nz (w2.heap.size) (w2.heap.size) _ ⟨rfl,rfl⟩) (A9 _) Ac fun v4 w4 a5 ab a7=>?_))))
   have a8:=a5.size
   have a9:=a1.trans a5
   exact bR lG u5 u9 Z a7 Ac fun sb5 aa=>Af 1 Z (U9 (a:=sb5) (b:=s) Z Z oM Ac (Ae 1 Z (Ad _ [0,0,0] Z (Af 1 Z (Ph (l / 10) Z Z (by decide) (by rw[Int.tdiv_eq_ediv_of_nonneg oM,FR oM oM]) Ac (Ae 1 Z ⟨((l / 10),(sb5++s)),_,rfl,⟨rfl,rfl,trivial⟩,⟨a9,(by rw[ByteArray.size_append];omega)⟩,by first|omega|(dsimp only;omega)⟩))))))
  ·exact C6 false Z Z (A8 a4) Ac (Ah (Aj Z (A6 (As (As (An (A0 (Ad _ [0,0,0] Z (Af 1 Z (U9 (a:=⟨#[109]⟩) (b:=s) Z Z (by show 1+s.size≤9223372036854775807;omega) Ac (Ae 1 Z (A3 (Ag [2] Z (.string (⟨#[109]⟩++s)) Z ⟨(⟨#[109]⟩++s),rfl,a1⟩)))))))))))))
theorem OY {p:Prop}(h:p:=by first|exact FR oM oM|(rw[FR oM oM];omega)):p:=h
theorem KI (w:World)(da:Nat)(va:Value)(a:List Ex)(Fa:List Nat)(k:Int)(ha:DL 5 (Qt 174 da) 174 w.heap va a Fa)(hna:Fa.Nodup)(_hk:BC k)(hk:0≤k∧k+4*((Ex.sizes a:Nat):Int)≤4000000000) :
  Calls Tryz.prog 187 #[va,.int .i64 k] w (fun e w'=>∃k':Int,e=.returned (.int .i64 k')∧AE Fa w w'∧DL 5 (Qt 174 da) 174 w'.heap va a Fa∧(k≤k'∧k'≤k+4*((Ex.sizes a:Nat):Int))):=by
 induction da using Nat.strongRecOn generalizing w va a Fa k
 rename_i da ih
 refine At [va,.int .i64 k] 48 Tryz.func187 Z Z sM ?_
 have al:AE Fa w w:=AE.refl Fa w
 have hl_va:=ha.lenle
 unfold maxLen at hl_va
 have aw:=G5 a 0
 have b7:a.length≤Ex.sizes a:=by omega
 refine A0 (Ad _ [0] Z (Ae 1 Z (A0 (A0 (Ad _ [0] Z (Ae 1 Z (A5 (AN (S:=Nat×Int) (fun⟨j,l⟩=>([(1,(.int .i64 l)),(5,(.int .i64 ((j:Nat):Int))),(0,va)])) (fun⟨j,l⟩ W=>AE Fa w W∧j≤a.length∧DL 5 (Qt 174 da) 174 W.heap va a Fa∧(k≤l∧l≤k+4*((Ex.sizes (a.take j):Nat):Int))) (fun⟨j,l⟩=>a.length-j) (0,k) ⟨rfl,rfl,rfl,trivial⟩ ⟨al,oM,(by assumption),(by rw[List.take_zero,Ih];omega)⟩ ?_))))))))
 clear al
 rintro⟨j,l⟩ ρ1 w1 ⟨a8,am,hsh,hlk⟩
 have ax:w.heap.size≤w1.heap.size:=a8.size
 refine A0 (A0 (Ad _ [0,0,0,0] Z (Af 2 Z (AJ (v:=va) DK Z hsh.isSl Ac ?_))))
 by_cases an:((j:Nat):Int)<((a.length:Nat):Int)
 ·refine Ax true Z Z (A7 an) Ac (Ah (Ai Z (A4 (A0 (A5 (A0 (Ad _ [0,0,0,0,0,4] Z ?_)))))))
  have hst:=D3 (l:=a) (k:=j) oM
  have hle:=CO a (j+1)
  have hsk:=Cb (a.getD j Ex.zero)
  refine Af 3 Z (Au (v:=va) j DK BB Z Z hsh.isSl Z sD Ac ?_)
  obtain⟨gb3,ob3,a9⟩:=hsh.isPtr (k:=j) sD
  refine Ao (p:=Aw va j 5) (b:=gb3) (o:=ob3) 0 C5 Z a9 Ac (Kk (v:=va) (k:=j) (c:=0) (Fb 174 da) ID Z Z ⟨rfl,rfl⟩ hsh hna sD (by decide) (fun h=>Le (by decide) h) Ac fun w4 ao b8 aa=>?_)
  have ay:AE Fa w w4:=a8.trans ao
  have az:=ao.size
  refine Ah (A0 (Ad _ [0,0,0] Z (Af 1 Z (AI (l+1) Z Z OY Ac (Ae 1 Z (A0 (Ad _ [0,0,0,0,0,4] Z (Af 3 Z (Au (v:=va) j DK BB Z Z aa.isSl Z sD Ac ?_)))))))))
  obtain⟨gb5,ob5,ab⟩:=aa.isPtr (k:=j) sD
  refine Ao (p:=Aw va j 5) (b:=gb5) (o:=ob5) 1 BT Z ab Ac (Kk (v:=va) (k:=j) (c:=1) (Fb 174 da) ID Z Z ⟨rfl,rfl⟩ aa hna sD (by decide) (fun h=>Le (by decide) h) Ac fun w6 ap b9 ac=>?_)
  have b0:AE Fa w w6:=ay.trans ap
  have b1:=ap.size
  refine Ah (A0 (Ad _ [0,0,0] Z (Af 1 Z (AI (l+2) Z Z OY Ac (Ae 1 Z (A0 (Ad _ [0,0,0,0,0,4] Z (Af 3 Z (Au (v:=va) j DK BB Z Z ac.isSl Z sD Ac ?_)))))))))
  obtain⟨gb7,ob7,ad⟩:=ac.isPtr (k:=j) sD
  refine Ao (p:=Aw va j 5) (b:=gb7) (o:=ob7) 2 Dn Z ad Ac (Kk (v:=va) (k:=j) (c:=2) (Fb 174 da) ID Z Z ⟨rfl,rfl⟩ ac hna sD (by decide) (fun h=>Le (by decide) h) Ac fun w8 aq ba ae=>?_)
  have b2:AE Fa w w8:=b0.trans aq
  have b3:=aq.size
  refine Ah (A0 (Ad _ [0,0,0] Z (Af 1 Z (AI (l+3) Z Z OY Ac (Ae 1 Z (A0 (Ad _ [0,0,0,0,0,4] Z (Af 3 Z (Au (v:=va) j DK BB Z Z ae.isSl Z sD Ac ?_)))))))))
  obtain⟨gb9,ob9,af⟩:=ae.isPtr (k:=j) sD
  refine Ao (p:=Aw va j 5) (b:=gb9) (o:=ob9) 3 D9 Z af Ac (Kk (v:=va) (k:=j) (c:=3) (Fb 174 da) ID Z Z ⟨rfl,rfl⟩ ae hna sD (by decide) (fun h=>Le (by decide) h) Ac fun w10 a4 b4 a0=>?_)
  have ag:AE Fa w w10:=b2.trans a4
  have ar:=a4.size
  refine Ah (A0 (Ad _ [0,0,0] Z (Af 1 Z (AI (l+4) Z Z OY Ac (Ae 1 Z (Ad _ [0,0,0,0,2,0,4,0] Z (Af 2 Z (Au (v:=va) j DK BB Z Z a0.isSl Z sD Ac ?_))))))))
  obtain⟨gb11,ob11,a5⟩:=a0.isPtr (k:=j) sD
  refine Ao (p:=Aw va j 5) (b:=gb11) (o:=ob11) 4 Bo Z a5 Ac ?_
  obtain⟨dk12,a1,G12,au,ah,ai,a6,a2,a7⟩:=a0.kidE hna (k:=j) sD
  refine Ak (p:=(Ay (Aw va j 5) 4)) (.inr Z) a1 Bp Z ah Ac (Af 1 Z (B1 187 [] [] [a1,(.int .i64 (l+4))] Z Z aI Ac (ih dk12 oM _  a1 ((a.getD j Ex.zero).kids) G12 (l+4) ai a6 oM oM) ?_))
  rintro e13 w13 ⟨k13,rfl,a3,aj,b5⟩
  refine⟨_,rfl,?_⟩
  have av:=a3.size
  have ak:AE Fa w w13:=ag.trans (a3.sub a2)
  have b6:=a7 _ a3 aj
  exact Ae 1 Z (Ad _ [0,0,0] Z (Af 1 Z (AI ((j+1:Nat):Int) Z Z (B8 oM sD) Ac (Ae 1 Z ⟨((j+1),k13),_,rfl,⟨rfl,rfl,rfl,trivial⟩,⟨ak,oM,(by assumption),oM⟩,by first|omega|(dsimp only;omega)⟩))))
 ·exact Ax false Z Z (A8 an) Ac (Ah (Aj Z (A6 (As (As (An (A0 (Ad _ [0,0] Z (Ae 2 Z (A3 (Ag [4] Z (.int .i64 l) Z ⟨l,rfl,a8,hsh,(by have:=CO a j;omega)⟩)))))))))))
theorem KJ (w:World)(da:Nat)(va:Value)(a:List Fn)(Fa:List Nat)(k:Int)(ha:DL 3 (Ta 174 da) 55 w.heap va a Fa)(hna:Fa.Nodup)(_hk:BC k)(hk:0≤k∧k+4*((OC a:Nat):Int)≤4000000000) :
  Calls Tryz.prog 134 #[va,.int .i64 k] w (fun e w'=>∃k':Int,e=.returned (.int .i64 k')∧AE Fa w w'∧DL 3 (Ta 174 da) 55 w'.heap va a Fa∧(k≤k'∧k'≤k+4*((OC a:Nat):Int))):=by
 refine At [va,.int .i64 k] 35 Tryz.func134 Z Z sM ?_
 have ah:AE Fa w w:=AE.refl Fa w
 have hl_va:=ha.lenle
 unfold maxLen at hl_va
 have hsz:OC a=a.length+Fn.szs a:=rfl
 refine A0 (Ad _ [0] Z (Ae 1 Z (A0 (A0 (Ad _ [0] Z (Ae 1 Z (A5 (AN (S:=Nat×Int) (fun⟨j,l⟩=>([(1,(.int .i64 l)),(5,(.int .i64 ((j:Nat):Int))),(0,va)])) (fun⟨j,l⟩ W=>AE Fa w W∧j≤a.length∧DL 3 (Ta 174 da) 55 W.heap va a Fa∧(k≤l∧l≤k+2*((j:Nat):Int)+4*((Fn.szs (a.take j):Nat):Int))) (fun⟨j,l⟩=>a.length-j) (0,k) ⟨rfl,rfl,rfl,trivial⟩ ⟨ah,oM,(by assumption),(by rw[List.take_zero,OB];omega)⟩ ?_))))))))
 clear ah
 rintro⟨j,l⟩ ρ1 w1 ⟨a6,ai,hsh,hlk⟩
 have an:w.heap.size≤w1.heap.size:=a6.size
 refine A0 (A0 (Ad _ [0,0,0,0] Z (Af 2 Z (AJ (v:=va) Gm Z hsh.isSl Ac ?_))))
 by_cases aj:((j:Nat):Int)<((a.length:Nat):Int)
 ·refine Ax true Z Z (A7 aj) Ac (Ah (Ai Z (A4 (A0 (A5 (A0 (Ad _ [0,0,0,3,0,0,4] Z ?_)))))))
  have hst:=Me (l:=a) (k:=j) oM
  have hle:=I0 a (j+1)
  have hsk:(a.getD j Fn.zero).sz=(a.getD j Fn.zero).name.size+Ex.sizes (a.getD j Fn.zero).outs:=rfl
  refine Af 3 Z (Ap 186 [] [] [(.int .i64 l)] Z Z gR Ac (L8 _ (l) oM oM) ?_)
  rintro e3 w3 ⟨st3,rfl,a5⟩
  refine⟨_,rfl,a5,?_⟩
  have ao:=a5.size
  have ap:AE Fa w w3:=a6.ext a5
  have a7:=Jv (Av (GS 174 da)) hsh a5
  refine Au (v:=va) j Gm CA Z Z a7.isSl Z sD Ac ?_
  obtain⟨gb5,ob5,a8⟩:=a7.isPtr (k:=j) sD
  refine Ao (p:=Aw va j 3) (b:=gb5) (o:=ob5) 0 GE Z a8 Ac (Kk (v:=va) (k:=j) (c:=0) (GS 174 da) lF Z Z ⟨rfl,rfl⟩ a7 hna sD (by decide) (fun h=>U5 h) Ac fun w6 ak ay a9=>?_)
  have aq:AE Fa w w6:=ap.trans ak
  have ar:=ak.size
  refine Ah (A0 (Ad _ [0,0,0] Z (Af 1 Z (AI (l+1) Z Z (by first|exact FR oM oM|(rw[FR oM oM];omega)) Ac (Ae 1 Z (A0 (Ad _ [0,0,0,0,0,4] Z (Af 3 Z (Au (v:=va) j Gm CA Z Z a9.isSl Z sD Ac ?_)))))))))
  obtain⟨gb7,ob7,aa⟩:=a9.isPtr (k:=j) sD
  refine Ao (p:=Aw va j 3) (b:=gb7) (o:=ob7) 1 Cw Z aa Ac (Kk (v:=va) (k:=j) (c:=1) (GS 174 da) ID Z Z ⟨rfl,rfl⟩ a9 hna sD (by decide) (fun h=>U6 h) Ac fun w8 al az ab=>?_)
  have au:AE Fa w w8:=aq.trans al
  have av:=al.size
  refine Ah (A0 (Ad _ [0,0,0] Z (Af 1 Z (AI (l+2) Z Z (by first|exact FR oM oM|(rw[FR oM oM];omega)) Ac (Ae 1 Z (Ad _ [0,0,0,0,2,0,4,0] Z (Af 2 Z (Au (v:=va) j Gm CA Z Z ab.isSl Z sD Ac ?_))))))))
  obtain⟨gb9,ob9,ac⟩:=ab.isPtr (k:=j) sD
  refine Ao (p:=Aw va j 3) (b:=gb9) (o:=ob9) 2 Cu Z ac Ac ?_
  obtain⟨a0,G10,ad,ae,a3,a1,a4⟩:=ab.kidF hna (k:=j) sD
  refine Ak (p:=(Ay (Aw va j 3) 2)) (.inr Z) a0 Bp Z ad Ac (Af 1 Z (B1 187 [] [] [a0,(.int .i64 (l+2))] Z Z aI Ac (KI _ da a0 ((a.getD j Fn.zero).outs) G10 (l+2) ae a3 oM oM) ?_))
  rintro e11 w11 ⟨k11,rfl,a2,af,aw⟩
  refine⟨_,rfl,?_⟩
  have am:=a2.size
  have ag:AE Fa w w11:=au.trans (a2.sub a1)
  have ax:=a4 _ a2 af
  exact Ae 1 Z (Ad _ [0,0,0] Z (Af 1 Z (AI ((j+1:Nat):Int) Z Z (B8 oM sD) Ac (Ae 1 Z ⟨((j+1),k11),_,rfl,⟨rfl,rfl,rfl,trivial⟩,⟨ag,oM,(by assumption),oM⟩,by first|omega|(dsimp only;omega)⟩))))
 ·exact Ax false Z Z (A8 aj) Ac (Ah (Aj Z (A6 (As (As (An (A0 (Ad _ [0,0] Z (Ae 2 Z (A3 (Ag [4] Z (.int .i64 l) Z ⟨l,rfl,a6,hsh,(by have:=I0 a j;omega)⟩)))))))))))
theorem Jf (w:World)(da:Nat)(va:Value)(a:List Fn)(Fa:List Nat)(k:Int)(ha:DL 3 (Ta 174 da) 55 w.heap va a Fa)(hna:Fa.Nodup)(_hk:BC k)(hk:0≤k∧k+4*((OC a:Nat):Int)≤4000000000) :
  Calls Tryz.prog 52 #[(.agg #[va]),.int .i64 k] w (fun e w'=>∃k':Int,e=.returned (.int .i64 k')∧AE Fa w w'∧DL 3 (Ta 174 da) 55 w'.heap va a Fa∧(k≤k'∧k'≤k+4*((OC a:Nat):Int))):=by
 refine At [(.agg #[va]),.int .i64 k] 10 Tryz.func52 Z Z sM ?_
 have a3:AE Fa w w:=AE.refl Fa w
 refine A0 (Ad _ [3,0] Z (Bx (cs:=#[va]) Z Ac fun w1 a0 aa a1=>?_))
 have a4:=a0.size
 have a5:AE Fa w w1:=a3.ext a0
 have a6:=Jv (Av (GS 174 da)) ha a0
 replace a1:BX w1.heap w.heap.size [va]:=a1
 refine Ae 1 Z (A0 (Ad _ [0,2,0,4,0] Z (Ao (p:=(.pointer (some ⟨w.heap.size,0,none⟩))) (b:=w.heap.size) (o:=0) 0 BM Z Z Ac (Ak (p:=(Ay (.pointer (some ⟨w.heap.size,0,none⟩)) 0)) (.inr Z) va Cs Z (a1.ldp (i:=0) sM) Ac (Af 1 Z (B1 134 [] [] [va,(.int .i64 k)] Z Z gB Ac (KJ _ da va a Fa (k) a6 hna _hk oM) ?_))))))
 rintro e3 w3 ⟨k3,rfl,a2,a7,ab⟩
 refine⟨_,rfl,?_⟩
 have a8:=a2.size
 have a9:AE Fa w w3:=a5.trans a2
 exact Ae 1 Z (A0 (Ad _ [0,0] Z (Ae 2 Z (A3 (Ag [4] Z (.int .i64 k3) Z ⟨k3,rfl,a9,a7,oM⟩)))))
end
section
set_option maxHeartbeats 4000000
set_option maxRecDepth 100000
attribute [local irreducible] LW
theorem CI (w:World)(va:Value)(us:List Value)(hus:Rd (B3 rV) w.heap va us)(hla:us.length≤1000000000000) :
  Calls Tryz.prog 184 #[va] w (fun e w'=>∃v0:Value,e=.returned (v0)∧Az w w'∧Fr (AS rV 27) w.heap.size w'.heap.size w'.heap v0 us):=by
 refine At [va] 8 Tryz.func184 Z Z sM ?_
 have a1:Az w w:=Az.refl w
 have hl_va:=hus.lenle
 refine A0 (Ad _ [0] Z (Ae 1 Z (A0 (A0 (Ad _ [0,0] Z (Af 1 Z ?_))))))
 cases a2:Qm va
 ·refine TR (v:=va) false Bi Z Z hus.isSl a2 Ac (Ah (Aj Z (A4 (A0 (Ad _ [3,0,4,0] Z (BI (rV) Bd Bi AX Ac fun v2 w2 a3 ab a5=>?_))))))
  have a6:=a3.size
  have a0:=a1.trans a3
  refine Af 1 Z (O9 (v:=v2) (a:=va) Bi AX Z Z Z a5 a0.size (hus.ext gV a0) sD (by unfold maxLen;first|omega|assumption|(simp;done)|(simp;omega)) Ac fun v3 w3 F3 a4 a7 a8=>?_)
  have a9:Az w w3:=a4.below a0 (fun c hc=>Aa (A9 _) (a7 c hc).1) a0.size
  have aa:=a4.size
  exact Ae 1 Z (A3 (Ag [2] Z v3 Z ⟨v3,rfl,a9,a8.up oV⟩))
 ·refine TR (v:=va) true Bi Z Z hus.isSl a2 Ac (Ah (Ai Z (A0 (Ad _ [0] Z (Ae 1 Z (A3 (Aq ?_)))))))
  have hnil:us=[]:=hus.nil_of (by assumption)
  subst hnil
  exact Ag [2] Z (.slice none 0 0) Z ⟨(.slice none 0 0),rfl,a1,LJ _ _ _⟩
attribute [local irreducible] Cn Cc Kr Iy FW BR C7 Dg
theorem ML {p:Prop}(h:p:=by unfold maxLen;first|omega|assumption|(simp only[List.length_nil,List.length_cons,List.length_append,List.length_set,List.length_replicate];omega)|(simp[List.length_nil,List.length_cons,List.length_append,List.length_set,List.length_replicate];done)|(simp[List.length_nil,List.length_cons,List.length_append,List.length_set,List.length_replicate];omega)):p:=h
theorem Xv {p:Prop}(h:p:=by first|exact Ds (by rw[← hpv.out];exact(RC oM).symm)|exact Ds (by rw[← hpv.out];exact(LS (f:=(fun r=>sA.z ((M.getD r []).getD c sA.d))) (A8 ‹¬((M.getD p []).getD c []).getD 0 0=((0:Nat):Int)›)).symm)):p:=h
theorem Xw {p:Prop}(h:p:=by first|exact Ds (by rw[hR.out];exact(J4 hlD.out oM oM).symm)|exact Ds (by have h:=hK.out;rw[hR.out,Tl hlD.out (hD.row r oM).len oM oM hrn.2.out oM]at h;exact h)):p:=h
theorem R6 {p:Prop}(h:p:=by exact hL58_1.weak (fun r0 hr0 h0=>by first|omega|(dsimp only at h0 ⊢;omega)) oM):p:=h
theorem IU (w:World)(va:Value)(a:List (List (List Int)))(vb:Value)(b:List (List Int))(ha:Rd (B3 (B3 (B3 rI))) w.heap va a)(hb:Rd (B3 (B3 rI)) w.heap vb b)(h6:a.length≤1000)(hba:b.length=a.length)(hra:∀r,r<a.length→(a.getD r []).length=a.length)(kz:∃N,1≤N∧N≤1000∧Sh (Bs N) [] a.length (a.length+1) (GY a b)) :
  Calls Tryz.prog 129 #[va,vb] w (fun e w'=>∃v0:Value,e=.returned (.tuple #[v0,.bool ((D5 a b).isSome)])∧Az w w'∧Fr (AS (AS rI 2) 27) w.heap.size w'.heap.size w'.heap v0 (FF a b)):=by
 refine At [va,vb] 176 Tryz.func129 Z Z sM ?_
 have jn:Az w w:=Az.refl w
 have hl_va:=ha.lenle
 have hl_vb:=hb.lenle
 obtain⟨N,m5,m6,hA⟩:=kz
 refine A0 (Ad _ [0,0] Z (Ae 2 Z (A0 (Ad _ [0,0,3,0,0] Z (Af 1 Z (AJ (v:=va) DN Z ha.isSl Ac (BI (AS rV 27) oV DN Ef Ac fun v1 w1 gy l0 jo=>?_)))))))
 have gz:=gy.size
 have jp:=jn.trans gy
 refine Ae 2 Z (A0 (A0 (Ad _ [0,0,0] Z (Af 1 Z (AJ (v:=va) DN Z ha.isSl Ac (Ae 1 Z (A5 ?_)))))))
 refine AN (S:=Nat×Value×List (List Value)) (fun⟨k,vo,V0⟩=>([(7,vo),(25,(.int .i64 ((k:Nat):Int))),(1,vb),(6,(.int .i64 ((a.length:Nat):Int))),(23,va),(24,(.int .i64 ((a.length:Nat):Int)))])) (fun⟨k,vo,V0⟩ W=>Az w W∧Fr (AS (AS rV 27) 32) w.heap.size W.heap.size W.heap vo V0∧k≤a.length∧XP w.heap a.length V0 (GY a b) k) (fun⟨k,vo,V0⟩=>a.length-k) (0,v1,([]:List (List Value))) ⟨rfl,rfl,rfl,rfl,rfl,rfl,trivial⟩ ⟨jp,jo.up Pl,sD,(by exact XP.zero _ _ _)⟩ ?_
 clear jn jo l0 gy gz jp
 rintro⟨k,vo,V0⟩ ρ2 w2 ⟨b7,ap,dq,hH⟩
 have l1:w.heap.size≤w2.heap.size:=b7.size
 have hHl:=hH.len
 refine A0 (Ad _ [0] Z ?_)
 by_cases dr:((k:Nat):Int)<((a.length:Nat):Int)
 ·refine Ax true Z Z (A7 dr) Ac (Ah (A0 (Ai Z (A4 (A0 (A5 (A0 (Ad _ [0,0,2,0,0] Z (Af 1 Z (Au (v:=va) k DN Ef Z Z ha.isSl Z sD Ac ?_))))))))))
  obtain⟨i0,l2,i1⟩:=ha.get (k:=k) [] sD
  have l3:=i1.lenle
  refine Ak (p:=Aw va k 1) (.inr Z) i0 DX Z (AP b7 l2) Ac (Ae 2 Z (TJ _ [0,0,3,0,0,0,1,3,4,3,4,0] 2 7 [0,1,3,4,5,6,7,2,8,9,10,11] [_,_,_,_,_,_,_,_,_,_,_,_] [0,0,0,0,0,1,3,3,4,3,4,0] mixed (by kernel_rfl) Z ⟨rfl,rfl,⟨rfl,rfl,⟨rfl,rfl,⟨rfl,rfl,⟨rfl,rfl,⟨rfl,rfl,⟨rfl,rfl,⟨rfl,rfl,⟨rfl,rfl,⟨rfl,rfl,⟨rfl,rfl,⟨rfl,rfl,trivial⟩⟩⟩⟩⟩⟩⟩⟩⟩⟩⟩⟩ ?_ ?_))
  ·have hrk:=hra k oM
   obtain⟨us,hus,hul,hur⟩:=i1.heads g1 []
   refine Af 2 Z (Ap 184 [] [] [i0] Z Z aH Ac (CI _ _ _ (hus.ext gV b7.drew) oM) ?_)
   rintro e5 w5 ⟨i2,rfl,dp,b8⟩
   refine⟨_,rfl,dp,?_⟩
   replace dp:=dp.of_drew
   have l4:=dp.size
   have l5:=b7.trans dp
   have bw:=ap.ext (Pl) dp
   replace b8:=b8.low (B':=w2.heap.size) (A9 _)
   refine Af 2 Z (Au (v:=vb) k Bi AX Z Z hb.isSl Z sD Ac ?_)
   obtain⟨i3,l6,i4⟩:=hb.get (k:=k) [] sD
   have l7:=i4.lenle
   refine Ak (p:=Aw vb k 1) (.inl Z) i3 B6 Z (AP b7.drew l6) Ac ?_
   have hbk:=i4
   refine Bq (u:=i3) (B:=w5.heap.size) Bd Bi AX Z Z (Nz w5.heap.size w5.heap.size _ (Bj i4.isSl)) (A9 _) Ac fun v7 w7 gx m7 l8=>?_
   have l9:=gx.size
   have jq:=l5.trans gx
   have bx:=bw.ext (Pl) gx
   have bz:=b8.ext (oV) gx
   refine O9 (v:=i2) (a:=v7) Bi AX Z Z Z bz oM l8.rdV1 sD ML Ac fun v8 w8 F8 i5 jr la=>?_
   have lb:Az w w8:=i5.below jq (fun c hc=>Aa b7.size (jr c hc).1) jq.size
   have lc:=i5.size
   have ld:=bx.chg (Pl) i5 (fun c hc=>by have:=jr c hc;omega)
   refine Bq (u:=v8) (B:=w2.heap.size) oV DN Ef Z Z la (by first|exact A9 _|omega) Ac fun v10 w10 ck le i6=>?_
   have js:=ck.size
   have cl:=lb.trans ck
   have cm:=ld.ext (Pl) ck
   refine Ej oV (v:=vo) (a:=v10) DN Ef Z Z Z cm cl.size i6 oM b7.size sD ML Ac fun v11 w11 F11 ds i7 i8=>?_
   have i9:Az w w11:=ds.below cl (fun c hc=>Aa (A9 _) (i7 c hc).1) cl.size
   have jt:=ds.size
   refine Ae 1 Z (Ad _ [0,0] Z (AI ((k+1:Nat):Int) Z Z (B8 oM sD) Ac (Ae 1 Z ?_)))
   exact⟨((k+1),v11,(V0++[us++[i3]])),_,rfl,⟨rfl,rfl,rfl,rfl,rfl,rfl,trivial⟩,⟨i9,i8.up Pl,sD,(by exact hH.snoc (M3 a b oM) hrk hul hur hbk)⟩,by first|omega|(dsimp only;omega)⟩
  ·have hrk:=hra k oM
   obtain⟨us,hus,hul,hur⟩:=i1.heads g1 []
   refine Af 4 Z (Au (v:=vb) k Bi AX Z Z hb.isSl Z sD Ac ?_)
   obtain⟨cn,ia,co⟩:=hb.get (k:=k) [] sD
   have ju:=co.lenle
   refine Ak (p:=Aw vb k 1) (.inl Z) cn B6 Z (AP b7.drew ia) Ac ?_
   have hbk:=co
   refine Bq (u:=cn) (B:=w2.heap.size) Bd Bi AX Z Z (Nz w2.heap.size w2.heap.size _ (Bj co.isSl)) (A9 _) Ac fun v13 w13 b9 lf ib=>?_
   replace b9:=b9.of_drew
   have jv:=b9.size
   have c0:=b7.trans b9
   have ba:=ap.ext (Pl) b9
   refine Ap 184 [] [] [i0] Z Z aH Ac (CI _ _ _ (hus.ext gV c0) oM) ?_
   rintro e14 w14 ⟨dt,rfl,bb,cp⟩
   refine⟨_,rfl,bb,?_⟩
   have jw:=bb.size
   have du:=c0.trans bb
   have bc:=ba.ext (Pl) bb
   have c1:=ib.ext (oV) bb
   refine O9 (v:=dt) (a:=v13) Bi AX Z Z Z cp oM c1.rdV1 sD ML Ac fun v15 w15 F15 cq dv ic=>?_
   have id:Az w w15:=cq.below du (fun c hc=>Aa c0.size (dv c hc).1) du.size
   have jx:=cq.size
   have ie:=bc.chg (Pl) cq (fun c hc=>by have:=dv c hc;omega)
   refine Bq (u:=v15) (B:=w13.heap.size) oV DN Ef Z Z ic (by first|exact A9 _|omega) Ac fun v17 w17 cr lg ig=>?_
   have jy:=cr.size
   have cs:=id.trans cr
   have c2:=ie.ext (Pl) cr
   refine Ej oV (v:=vo) (a:=v17) DN Ef Z Z Z c2 cs.size ig oM c0.size sD ML Ac fun v18 w18 F18 dw ih ii=>?_
   have ij:Az w w18:=dw.below cs (fun c hc=>Aa (A9 _) (ih c hc).1) cs.size
   have jz:=dw.size
   refine Ae 1 Z (Ad _ [0,0] Z (AI ((k+1:Nat):Int) Z Z (B8 oM sD) Ac (Ae 1 Z ?_)))
   exact⟨((k+1),v18,(V0++[us++[cn]])),_,rfl,⟨rfl,rfl,rfl,rfl,rfl,rfl,trivial⟩,⟨ij,ii.up Pl,sD,(by exact hH.snoc (M3 a b oM) hrk hul hur hbk)⟩,by first|omega|(dsimp only;omega)⟩
 ·refine Ax false Z Z (A8 dr) Ac (Ah (A0 (Aj Z (A6 (As (As (An (A0 (A0 (Ad _ [0,0] Z (Ae 2 Z (A5 ?_))))))))))))
  have hHn:XP w.heap a.length V0 (GY a b) a.length:=by have h:=hH;rwa [show k=a.length from by omega]at h
  have ik:SM 2 a.length w.heap.size w2.heap.size w2.heap.size (fun _=>1≤(0:Nat)) w2.heap V0 (GY a b):=hHn.sm hA.len (fun r h=>(hA.row r h).len) (fun _ h=>by omega) b7
  refine AN (S:=Nat×List (List Value)×List (List (List Int))) (fun(⟨c,VM,M⟩:Nat×List (List Value)×List (List (List Int)))=>([(43,(.int .i64 ((c:Nat):Int))),(6,(.int .i64 ((a.length:Nat):Int))),(7,vo),(42,(.int .i64 ((a.length:Nat):Int)))])) (fun(⟨c,VM,M⟩:Nat×List (List Value)×List (List (List Int))) (W:World)=>Az w W∧Fr (AS (AS rV 27) 32) w.heap.size w2.heap.size W.heap vo VM∧SM 2 a.length w.heap.size w2.heap.size W.heap.size (fun _=>1≤c) W.heap VM M∧c≤a.length∧Sh (Bs N) [] a.length (a.length+1) M∧Hid (N1 sA a.length (a.length-c) c M=D5 a b)∧w2.heap.size≤W.heap.size) (fun(⟨c,VM,M⟩:Nat×List (List Value)×List (List (List Int)))=>a.length-c) (0,V0,GY a b) ⟨rfl,rfl,rfl,rfl,trivial⟩ ⟨b7,ap,(by exact ik.weak (fun r0 hr0 h0=>by first|omega|(dsimp only at h0 ⊢;omega)) oM),sD,(by exact hA),(by exact Ds Z),oM⟩ ?_
  clear ap
  rintro⟨c,VM,M⟩ ρ19 w19 ⟨bd,ac,a6,ct,hSh,hJ,dx⟩
  have dy:w.heap.size≤w19.heap.size:=bd.size
  have il:=a6.len
  have lh:=hSh.len
  refine A0 (Ad _ [0] Z ?_)
  by_cases cu:((c:Nat):Int)<((a.length:Nat):Int)
  ·refine Ax true Z Z (A7 cu) Ac (Ah (A0 (Ai Z (A4 (A0 (A5 (A0 (Ad _ [0,0] Z (Ae 2 Z (A0 (Ad _ [0,0] Z (Ae 2 Z (A0 (KT (S:=Nat) (fun p=>([(11,(.int .i64 ((p:Nat):Int))),(6,(.int .i64 ((a.length:Nat):Int))),(7,vo),(10,(.int .i64 ((c:Nat):Int))),(42,(.int .i64 ((a.length:Nat):Int))),(43,(.int .i64 ((c:Nat):Int)))])) (fun p W=>Az w W∧SM 2 a.length w.heap.size w2.heap.size w19.heap.size (fun _=>1≤c) W.heap VM M∧Fr (AS (AS rV 27) 32) w.heap.size w2.heap.size W.heap vo VM∧c≤p∧p≤a.length∧Hid (p=Hc sA a.length c M)∧w2.heap.size≤W.heap.size∧w19.heap.size≤W.heap.size) ?_ ?_))))))))))))))
   ·refine A5 ?_
    refine AN (S:=Nat) (fun p=>([(11,(.int .i64 ((p:Nat):Int))),(6,(.int .i64 ((a.length:Nat):Int))),(7,vo),(10,(.int .i64 ((c:Nat):Int))),(42,(.int .i64 ((a.length:Nat):Int))),(43,(.int .i64 ((c:Nat):Int)))])) (fun p W=>Az w W∧SM 2 a.length w.heap.size w2.heap.size w19.heap.size (fun _=>1≤c) W.heap VM M∧Fr (AS (AS rV 27) 32) w.heap.size w2.heap.size W.heap vo VM∧c≤p∧p≤a.length∧Hid (N8 (fun r=>sA.z ((M.getD r []).getD c sA.d)) (a.length-p) p=Hc sA a.length c M)∧w2.heap.size≤W.heap.size∧w19.heap.size≤W.heap.size) (fun p=>a.length-p) c ⟨rfl,rfl,rfl,rfl,rfl,rfl,trivial⟩ ⟨bd,a6,ac,sD,sD,(by exact Ds Z),oM,oM⟩ ?_
    clear a6 ac
    rintro p ρ25 w25 ⟨c3,ad,ae,im,io,hpv,k0,k1⟩
    have k2:w.heap.size≤w25.heap.size:=c3.size
    refine A0 (A0 (Ad _ [0,0,0,0,0,0,0,2,0,0,2,0,2,0,0] Z (Af 2 Z ?_)))
    by_cases dz:((p:Nat):Int)<((a.length:Nat):Int)
    ·refine Ax true Z Z (A7 dz) Ac (Af 3 Z ?_)
     have hrp:=ad.row p oM
     have hNp:=((hSh.row p oM).val c oM).1
     refine Au (v:=vo) p DN Ef Z Z ae.isSl Z sD (Al (e:=50) Z Z Z) ?_
     obtain⟨cv,ip,cw⟩:=ae.rdV2.get (k:=p) [] sD
     have k3:=cw.lenle
     refine Ak (p:=Aw vo p 1) (.inr Z) cv DX Z ip (Al (e:=50) Z Z Z) (Af 1 Z (Au (v:=cv) c Bi AX Z Z cw.isSl Z sD (Al (e:=50) Z Z Z) ?_))
     have e0:=cw.getV (k:=c) sD
     have be:=ad.ser p c oM oM
     have k4:=be.rd.lenle
     refine Ak (p:=Aw cv c 1) (.inr Z) ((VM.getD p []).getD c undef) B6 Z e0.1 (Al (e:=50) Z Z Z) (Au (v:=((VM.getD p []).getD c undef)) 0 Bh BA Z Z be.rd.isSl Z sD (Al (e:=50) Z Z Z) ?_)
     refine Ak (p:=Aw ((VM.getD p []).getD c undef) 0 1) (.inr Z) (.int .i64 (((M.getD p []).getD c []).getD 0 0)) AH Z (be.rd.getI sD).1 (Al (e:=50) Z Z Z) ?_
     by_cases e1:((M.getD p []).getD c []).getD 0 0=((0:Nat):Int)
     ·refine AA true Z Z (A7 e1) (Al (e:=50) Z Z Z) (Ae 1 Z (Ai Z (A4 (A5 (Ad _ [0,0,0] Z (Af 1 Z (AI ((p+1:Nat):Int) Z Z (B8 oM sD) Ac (Ae 1 Z ?_))))))))
      exact⟨(p+1),_,rfl,⟨rfl,rfl,rfl,rfl,rfl,rfl,trivial⟩,⟨c3,ad,ae,sD,sD,(by exact Ds (by rw[← hpv.out,JC (f:=(fun r=>sA.z ((M.getD r []).getD c sA.d))) (n:=a.length) (p:=p) oM (A7 ‹((M.getD p []).getD c []).getD 0 0=((0:Nat):Int)›)])),oM,oM⟩,by first|omega|(dsimp only;omega)⟩
     ·refine AA false Z Z (A8 e1) (Al (e:=50) Z Z Z) (Ae 1 Z (Aj Z (A6 (As (As (An ?_))))))
      exact⟨p,_,rfl,⟨rfl,rfl,rfl,rfl,rfl,rfl,trivial⟩,⟨c3,ad,ae,sD,sD,Xv,oM,oM⟩⟩
    ·refine Ax false Z Z (A8 dz) Ac (Ae 12 Z (Aj Z (A6 (As (As (An ?_))))))
     exact⟨p,_,rfl,⟨rfl,rfl,rfl,rfl,rfl,rfl,trivial⟩,⟨c3,ad,ae,sD,sD,Xv,oM,oM⟩⟩
   ·clear a6 ac
    rintro p ρ22 w22 ⟨bf,bg,a0,cx,cy,hpe,e2,e3⟩
    have e4:w.heap.size≤w22.heap.size:=bf.size
    refine A0 (A0 (Ad _ [0,0,0] Z (Af 2 Z ?_)))
    by_cases cz:((p:Nat):Int)=((a.length:Nat):Int)
    ·refine AA true Z Z (A7 cz) Ac (Ah (Ai Z (A0 (Ad _ [0,0] Z (Ae 2 Z (A3 (Aq (AL (Aq (Aq (AL (Aq ?_))))))))))))
     have hno:=PA hJ.out oM (by rw[← hpe.out];omega)
     exact Ag [4,5] Z (.tuple #[(.slice none 0 0),(.bool false)]) Z ⟨(.slice none 0 0),(by rw[hno];rfl),bf,(by rw[Tf hno];exact LJ _ _ _)⟩
    ·refine AA false Z Z (A8 cz) Ac (Ah (Aj Z (A4 (A0 (KT (S:=List (List Value)×List (List (List Int))) (fun(⟨V1,M1⟩:List (List Value)×List (List (List Int)))=>([(6,(.int .i64 ((a.length:Nat):Int))),(7,vo),(10,(.int .i64 ((c:Nat):Int))),(42,(.int .i64 ((a.length:Nat):Int))),(43,(.int .i64 ((c:Nat):Int)))])) (fun(⟨V1,M1⟩:List (List Value)×List (List (List Int))) (W:World)=>Az w W∧Fr (AS (AS rV 27) 32) w.heap.size w2.heap.size W.heap vo V1∧SM 2 a.length w.heap.size w2.heap.size W.heap.size (fun _=>1≤c) W.heap V1 M1∧Sh (Bs N) [] a.length (a.length+1) M1∧Hid (M1=Bl M c p [])∧(c≤p∧p<a.length∧Hid (p=Hc sA a.length c M))∧w2.heap.size≤W.heap.size) ?_ ?_)))))
     ·refine AY _ [0,0,0,0,0,0,0,1,0,0,0,1,0,4,0,4] mixed (by kernel_rfl) ?_
      have hpl:=cA sA a.length c M oM
      have hne:Hc sA a.length c M≠a.length:=by rw[← hpe.out];omega
      have li:=Kp sA hne oM
      have c4:p=Hc sA a.length c M:=hpe.out
      refine Af 6 Z (Au (v:=vo) p DN Ef Z Z a0.isSl Z sD Ac ?_)
      obtain⟨e6,e7,e8⟩:=a0.rdV2.get (k:=p) [] sD
      have k5:=e8.lenle
      refine Ak (p:=Aw vo p 1) (.inl Z) e6 DX Z e7 Ac (Af 2 Z (Au (v:=vo) c DN Ef Z Z a0.isSl Z sD Ac ?_))
      obtain⟨e9,ea,eb⟩:=a0.rdV2.get (k:=c) [] sD
      have k6:=eb.lenle
      refine Ak (p:=Aw vo c 1) (.inl Z) e9 DX Z ea Ac (Au (v:=vo) c DN Ef Z Z a0.isSl Z sD Ac ?_)
      have ec:=Bj e8.isSl
      have ed:=Bj eb.isSl
      obtain⟨lj,ee,cc,cd⟩:=a0.opn oV oM
      obtain⟨ua37,ef,eg⟩:=cd p sD
      obtain⟨uc37,eh,ei⟩:=cd c sD
      have ej:=Ig ef eg e7
      have ek:=Ig eh ei ea
      refine Kf oV (v:=vo) (u:=e6) (w:=w22.drew) YY Z Z ee ec (by rw[cc];exact sD) Ac fun w37 F37 bh lk el iq=>?_
      replace bh:=bh.of_drew
      have em:Az w w37:=bh.below bf (fun c hc=>Aa (A9 _) (el c hc).1) bf.size
      have k7:=bh.size
      have ir:=bg.chg bh (fun c hc=>by have:=el c hc;omega)
      refine Au (v:=vo) p DN Ef Z Z a0.isSl Z sD Ac ?_
      refine Kf oV (v:=vo) (u:=e9) (w:=w37) YY Z Z iq ed (by rw[List.length_set,cc];exact sD) Ac fun w39 F39 d0 ll en is=>?_
      have it:Az w w39:=d0.below em (fun c hc=>Aa (A9 _) (en c hc).1) em.size
      have k8:=d0.size
      have iu:=ir.chg d0 (fun c hc=>by have:=en c hc;omega)
      have iv:=is.swap [] (i:=c) (j:=p) sD sD (by unfold Bl;rw[ej,ek])
      have iw:=iu.swap (fun _ _ h=>h) (c:=c) (p:=p) oM oM
      exact Ah ⟨((Bl VM c p []),(Bl M c p [])),_,rfl,⟨rfl,rfl,rfl,rfl,rfl,trivial⟩,⟨it,iv,(by exact iw.weak (fun r0 hr0 h0=>by first|omega|(dsimp only at h0 ⊢;omega)) oM),(by exact hSh.swap oM oM),(by exact Ds Z),(by exact⟨by omega,by omega,Ds c4⟩),oM⟩⟩
     ·clear dq dr dx ct il cu e3 e2 cy cx cz bd dy a0 bg bf e4
      rintro⟨V1,M1⟩ ρ33 w33 ⟨d1,a7,af,hSw,hMe,hpq,eo⟩
      have ep:w.heap.size≤w33.heap.size:=d1.size
      clear hpe
      have lm:=hSw.len
      have c4:=hpq.2.2
      refine A0 (Ad _ [0,0,0,2,0,0,2,0] Z ?_)
      have ix:=af.len
      have iy:=af.row c oM
      refine Af 2 Z (Au (v:=vo) c DN Ef Z Z a7.isSl Z sD Ac ?_)
      obtain⟨d2,eq,c5⟩:=a7.rdV2.get (k:=c) [] sD
      have er:=c5.lenle
      refine Ak (p:=Aw vo c 1) (.inr Z) d2 DX Z eq Ac (Af 1 Z (Au (v:=d2) c Bi AX Z Z c5.isSl Z sD Ac ?_))
      have ce:=c5.getV (k:=c) sD
      have bi:=af.ser c c oM oM
      have es:=bi.rd.lenle
      refine Ak (p:=Aw d2 c 1) (.inr Z) ((V1.getD c []).getD c undef) B6 Z ce.1 Ac (Ae 1 Z (A0 (A0 (Ad _ [0,0,0,2,0,0] Z (Af 2 Z (Au (v:=vo) c DN Ef Z Z a7.isSl Z sD Ac ?_))))))
      obtain⟨et,eu,d3⟩:=a7.rdV2.get (k:=c) [] sD
      have ev:=d3.lenle
      refine Ak (p:=Aw vo c 1) (.inr Z) et DX Z eu Ac (AJ (v:=et) Bi Z d3.isSl Ac (Ae 1 Z (A5 ?_)))
      refine AN (S:=Nat×List (List Value)×List (List (List Int))) (fun(⟨k,VK,MK⟩:Nat×List (List Value)×List (List (List Int)))=>([(93,(.int .i64 ((k:Nat):Int))),(6,(.int .i64 ((a.length:Nat):Int))),(7,vo),(10,(.int .i64 ((c:Nat):Int))),(12,((V1.getD c []).getD c undef)),(42,(.int .i64 ((a.length:Nat):Int))),(43,(.int .i64 ((c:Nat):Int))),(92,(.int .i64 (((V1.getD c []).length:Nat):Int)))])) (fun(⟨k,VK,MK⟩:Nat×List (List Value)×List (List (List Int))) (W:World)=>Az w W∧Fr (AS (AS rV 27) 32) w.heap.size w2.heap.size W.heap vo VK∧(SM 2 a.length w.heap.size w2.heap.size W.heap.size (fun r0=>1≤c∨(r0=c∧a.length<k)) W.heap VK MK)∧TC w.heap.size w2.heap.size W.heap ((V1.getD c []).getD c undef) ((M1.getD c []).getD c [])∧k≤a.length+1∧Sh (Bs N) [] a.length (a.length+1) MK∧Hid (MK=Kr c k M1)∧w2.heap.size≤W.heap.size) (fun(⟨k,VK,MK⟩:Nat×List (List Value)×List (List (List Int)))=>a.length+1-k) (0,V1,M1) ⟨rfl,rfl,rfl,rfl,rfl,rfl,rfl,rfl,trivial⟩ ⟨d1,a7,(by exact af.weak (fun r0 hr0 h0=>by first|omega|(dsimp only at h0 ⊢;omega)) oM),bi,sD,(by exact hSw),(by exact Ds (Tg oM).symm),oM⟩ ?_
      clear eo ix c5 eq ce bi es d3 eu af a7 d1 ep er ev
      rintro⟨k,VK,MK⟩ ρ44 w44 ⟨c6,a3,a8,am,d4,hShK,hK,ew⟩
      have ex:w.heap.size≤w44.heap.size:=c6.size
      refine A0 (Ad _ [0] Z ?_)
      by_cases d5:((k:Nat):Int)<(((V1.getD c []).length:Nat):Int)
      ·refine Ax true Z Z (A7 d5) Ac (Ah (A0 (Ai Z (A4 (A0 (A5 (A0 (Ad _ [0,0] Z (Ae 2 Z (AY _ [0,0,0,1,0,0,0,0,1,0,0,1,0,3,0,4] mixed (by kernel_rfl) ?_))))))))))
       have ln:=a8.len
       have lo:=a8.row c oM
       have hdv:=(hSw.row c oM).val c oM
       have iz:=(hShK.row c oM).val k oM
       have hx1l:=iz.1
       have hdvl:=hdv.1
       refine Af 2 Z (Au (v:=vo) c DN Ef Z Z a3.isSl Z sD Ac ?_)
       obtain⟨d6,ey,ez⟩:=a3.rdV2.get (k:=c) [] sD
       have k9:=ez.lenle
       refine Ak (p:=Aw vo c 1) (.inl Z) d6 DX Z ey Ac (Af 3 Z (Au (v:=vo) c DN Ef Z Z a3.isSl Z sD Ac ?_))
       obtain⟨d7,g0,d8⟩:=a3.rdV2.get (k:=c) [] sD
       have ka:=d8.lenle
       refine Ak (p:=Aw vo c 1) (.inl Z) d7 DX Z g0 Ac (Af 1 Z (Au (v:=d7) k Bi AX Z Z d8.isSl Z sD Ac ?_))
       have g2:=d8.getV (k:=k) sD
       have bj:=a8.ser c k oM oM
       have kb:=bj.rd.lenle
       refine Ak (p:=Aw d7 k 1) (.inl Z) ((VK.getD c []).getD k undef) B6 Z g2.1 Ac (Af 1 Z (Ap 185 [] [] [((VK.getD c []).getD k undef),((V1.getD c []).getD c undef)] Z Z Xc Ac (Fx _ _ _ _ _ bj.rd am.rd oM oM oM (by exact iz.2) (by exact hdv.2)) ?_))
       rintro e50 w50 ⟨cf,rfl,ab,ai⟩
       refine⟨_,rfl,ab,?_⟩
       replace ab:=ab.of_drew
       have kc:=ab.size
       have g3:=c6.trans ab
       have aq:=a3.ext (Pl) ab
       have ar:=a8.ext ab
       have au:=am.ext ab
       have c7:=ez.ext gV ab
       have g4:=AP ab ey
       have kd:=AP ab g0
       have bk:=bj.ext ab
       replace ai:=ai.low (B':=w44.heap.size) (A9 _)
       refine Au (v:=d6) k Bi AX Z Z c7.isSl Z sD Ac ?_
       refine Rr (v:=vo) (u:=d6) (a:=cf) (w:=w50) Ja Z Z (Bj ai.isSl) aq sD g4 sD Ac fun w53 F53 av lp bl j0=>?_
       have j1:Az w w53:=av.below g3 (fun c hc=>Aa (A9 _) (bl c hc).1) g3.size
       have ke:=av.size
       have j2:=ar.chg av (fun c hc=>by have:=bl c hc;omega)
       have j3:=au.chg av (fun c hc=>by have:=bl c hc;omega)
       have lq:=bk.chg av (fun c hc=>by have:=bl c hc;omega)
       have j4:=ai.chg (o1) av (fun c hc=>by have:=bl c hc;omega)
       have j5:=j2.put (r:=c) (k:=k) (T':=w53.heap.size) oM oM j4 oM oM oM oM
       refine Ah (Ad _ [0,0] Z (AI ((k+1:Nat):Int) Z Z (B8 oM sD) Ac (Ae 1 Z ?_)))
       exact⟨((k+1),(VK.set c ((VK.getD c []).set k cf)),(MK.set c ((MK.getD c []).set k (BR ((MK.getD c []).getD k []) ((M1.getD c []).getD c []))))),_,rfl,⟨rfl,rfl,rfl,rfl,rfl,rfl,rfl,rfl,trivial⟩,⟨j1,j0,(by exact j5.weak (fun r0 hr0 h0=>by first|omega|(dsimp only at h0 ⊢;omega)) oM),j3,sD,(by exact hShK.put oM ((Qz N).q _ _ iz hdv)),(by exact Ds (by have h:=Th (c:=c) (k:=k) hSw oM oM;rw[← hK.out]at h;exact h)),oM⟩,by first|omega|(dsimp only;omega)⟩
      ·refine Ax false Z Z (A8 d5) Ac (Ah (A0 (Aj Z (A6 (As (As (An (A0 (Ad _ [0,0] Z (Ae 2 Z (A5 ?_)))))))))))
       have hD:Sh (Bs N) [] a.length (a.length+1) (FW sA c p M):=hSh.div (Qz N) oM oM oM
       have hlD:=Ds hD.len
       refine AN (S:=Nat×List (List Value)×List (List (List Int))) (fun(⟨r,VR,MR⟩:Nat×List (List Value)×List (List (List Int)))=>([(113,(.int .i64 ((r:Nat):Int))),(6,(.int .i64 ((a.length:Nat):Int))),(7,vo),(10,(.int .i64 ((c:Nat):Int))),(42,(.int .i64 ((a.length:Nat):Int))),(43,(.int .i64 ((c:Nat):Int))),(112,(.int .i64 ((a.length:Nat):Int)))])) (fun(⟨r,VR,MR⟩:Nat×List (List Value)×List (List (List Int))) (W:World)=>Az w W∧Fr (AS (AS rV 27) 32) w.heap.size w2.heap.size W.heap vo VR∧SM 2 a.length w.heap.size w2.heap.size W.heap.size (fun r0=>1≤c∨r0=c∨r0<r) W.heap VR MR∧r≤a.length∧Sh (Bs N) [] a.length (a.length+1) MR∧Hid (MR=Cn r (Cc sA a.length c (FW sA c p M)) (FW sA c p M))∧w2.heap.size≤W.heap.size) (fun(⟨r,VR,MR⟩:Nat×List (List Value)×List (List (List Int)))=>a.length-r) (0,VK,MK) ⟨rfl,rfl,rfl,rfl,rfl,rfl,rfl,trivial⟩ ⟨c6,a3,(by exact a8.weak (fun r0 hr0 h0=>by first|omega|(dsimp only at h0 ⊢;omega)) oM),sD,(by exact hShK),(by exact Ds (by have h:=hK.out;rw[hMe.out,Ti (by rw[← hMe.out];exact hSw) oM oM]at h;rw[C9];exact h)),oM⟩ ?_
       clear iy ew d4 d5 am a8 a3 c6 ex
       rintro⟨r,VR,MR⟩ ρ58 w58 ⟨bm,a1,hL58_1,d9,hShR,hR,g5⟩
       have g6:w.heap.size≤w58.heap.size:=bm.size
       refine A0 (Ad _ [0] Z ?_)
       by_cases da:((r:Nat):Int)<((a.length:Nat):Int)
       ·refine Ax true Z Z (A7 da) Ac (Ah (A0 (Ai Z (A4 (A0 (A5 (A0 (Ad _ [0,0] Z (Ae 2 Z (A0 (A0 (Ad _ [0,0,0] Z (Af 2 Z ?_)))))))))))))
        by_cases db:((r:Nat):Int)=((c:Nat):Int)
        ·refine AA true Z Z (A7 db) Ac (Ah (Ai Z (A6 (As (An (Ad _ [0,0] Z (AI ((r+1:Nat):Int) Z Z (B8 oM sD) Ac (Ae 1 Z ?_))))))))
         exact⟨((r+1),VR,MR),_,rfl,⟨rfl,rfl,rfl,rfl,rfl,rfl,rfl,trivial⟩,⟨bm,a1,R6,sD,(by first|exact hShR|exact hShK),Xw,oM⟩,by first|omega|(dsimp only;omega)⟩
        ·refine AA false Z Z (A8 db) Ac (Ah (Aj Z (A4 (A0 (Ad _ [0,0,0,2,0,0,2,0] Z ?_)))))
         have j6:=hL58_1.len
         have lr:=hL58_1.row r oM
         refine Af 2 Z (Au (v:=vo) r DN Ef Z Z a1.isSl Z sD Ac ?_)
         obtain⟨dc,g7,c8⟩:=a1.rdV2.get (k:=r) [] sD
         have g8:=c8.lenle
         refine Ak (p:=Aw vo r 1) (.inr Z) dc DX Z g7 Ac (Af 1 Z (Au (v:=dc) c Bi AX Z Z c8.isSl Z sD Ac ?_))
         have cg:=c8.getV (k:=c) sD
         have bn:=hL58_1.ser r c oM oM
         have g9:=bn.rd.lenle
         refine Ak (p:=Aw dc c 1) (.inr Z) ((VR.getD r []).getD c undef) B6 Z cg.1 Ac (Ae 1 Z (A0 (Ad _ [0,0,0,2,0,0] Z (Af 2 Z (Au (v:=vo) r DN Ef Z Z a1.isSl Z sD Ac ?_)))))
         obtain⟨ga,gb,dd⟩:=a1.rdV2.get (k:=r) [] sD
         have gc:=dd.lenle
         refine Ak (p:=Aw vo r 1) (.inr Z) ga DX Z gb Ac (AJ (v:=ga) Bi Z dd.isSl Ac (Ae 1 Z (A5 ?_)))
         have hlr:=hShR.len
         have j7:=(hShR.row r oM).len
         refine AN (S:=Nat×List (List Value)×List (List (List Int))) (fun(⟨k,VK,MK⟩:Nat×List (List Value)×List (List (List Int)))=>([(131,(.int .i64 ((k:Nat):Int))),(6,(.int .i64 ((a.length:Nat):Int))),(7,vo),(10,(.int .i64 ((c:Nat):Int))),(14,(.int .i64 ((r:Nat):Int))),(15,((VR.getD r []).getD c undef)),(42,(.int .i64 ((a.length:Nat):Int))),(43,(.int .i64 ((c:Nat):Int))),(112,(.int .i64 ((a.length:Nat):Int))),(113,(.int .i64 ((r:Nat):Int))),(130,(.int .i64 (((VR.getD r []).length:Nat):Int)))])) (fun(⟨k,VK,MK⟩:Nat×List (List Value)×List (List (List Int))) (W:World)=>Az w W∧Fr (AS (AS rV 27) 32) w.heap.size w2.heap.size W.heap vo VK∧(SM 2 a.length w.heap.size w2.heap.size W.heap.size (fun r0=>(1≤c∨r0=c∨r0<r)∨(r0=r∧a.length<k)) W.heap VK MK)∧TC w.heap.size w2.heap.size W.heap ((VR.getD r []).getD c undef) ((MR.getD r []).getD c [])∧k≤a.length+1∧(r<a.length∧Hid (r≠c))∧Sh (Bs N) [] a.length (a.length+1) MK∧Hid (MK=Iy c r k MR)∧w2.heap.size≤W.heap.size) (fun(⟨k,VK,MK⟩:Nat×List (List Value)×List (List (List Int)))=>a.length+1-k) (0,VR,MR) ⟨rfl,rfl,rfl,rfl,rfl,rfl,rfl,rfl,rfl,rfl,rfl,trivial⟩ ⟨bm,a1,R6,bn,sD,(by exact⟨by omega,Ds oM⟩),(by exact hShR),(by exact Ds (Tj oM).symm),oM⟩ ?_
         clear g5 d9 da db j6 c8 g7 cg bn g9 dd gb hL58_1 a1 bm g6 g8 gc
         rintro⟨k,VK,MK⟩ ρ65 w65 ⟨de,a2,a4,bo,j8,hrn,hShK,hK,kf⟩
         have kg:w.heap.size≤w65.heap.size:=de.size
         refine A0 (Ad _ [0] Z ?_)
         by_cases gd:((k:Nat):Int)<(((VR.getD r []).length:Nat):Int)
         ·refine Ax true Z Z (A7 gd) Ac (Ah (A0 (Ai Z (A4 (A0 (A5 (A0 (Ad _ [0,0] Z (Ae 2 Z (AY _ [0,0,0,1,0,0,0,0,1,0,0,1,0,0,0,0,1,0,0,1,3,3,0,4] mixed (by kernel_rfl) ?_))))))))))
          have ls:=hrn.2.out
          have lt:=a4.len
          have lu:=a4.row r oM
          have lv:=a4.row c oM
          have hfa:=(hShR.row r oM).val c oM
          have hxa:=(hShK.row r oM).val k oM
          have hya:=(hShK.row c oM).val k oM
          have hfal:=hfa.1
          have hxal:=hxa.1
          have hyal:=hya.1
          refine Af 2 Z (Au (v:=vo) r DN Ef Z Z a2.isSl Z sD Ac ?_)
          obtain⟨df,ge,gf⟩:=a2.rdV2.get (k:=r) [] sD
          have kh:=gf.lenle
          refine Ak (p:=Aw vo r 1) (.inl Z) df DX Z ge Ac (Af 3 Z (Au (v:=vo) r DN Ef Z Z a2.isSl Z sD Ac ?_))
          obtain⟨dg,gg,dh⟩:=a2.rdV2.get (k:=r) [] sD
          have ki:=dh.lenle
          refine Ak (p:=Aw vo r 1) (.inl Z) dg DX Z gg Ac (Af 1 Z (Au (v:=dg) k Bi AX Z Z dh.isSl Z sD Ac ?_))
          have gh:=dh.getV (k:=k) sD
          have ch:=a4.ser r k oM oM
          have kj:=ch.rd.lenle
          refine Ak (p:=Aw dg k 1) (.inl Z) ((VK.getD r []).getD k undef) B6 Z gh.1 Ac (Af 3 Z (Au (v:=vo) c DN Ef Z Z a2.isSl Z sD Ac ?_))
          obtain⟨di,gi,dj⟩:=a2.rdV2.get (k:=c) [] sD
          have kk:=dj.lenle
          refine Ak (p:=Aw vo c 1) (.inl Z) di DX Z gi Ac (Af 1 Z (Au (v:=di) k Bi AX Z Z dj.isSl Z sD Ac ?_))
          have gj:=dj.getV (k:=k) sD
          have bp:=a4.ser c k oM oM
          have kl:=bp.rd.lenle
          refine Ak (p:=Aw di k 1) (.inl Z) ((VK.getD c []).getD k undef) B6 Z gj.1 Ac (Ap 151 [] [] [((VR.getD r []).getD c undef),((VK.getD c []).getD k undef)] Z Z Qc Ac (Dy _ _ _ _ _ bo.rd bp.rd oM oM (by exact hfa.2) (by exact hya.2)) ?_)
          rintro e73 w73 ⟨gk,rfl,a5,aj⟩
          refine⟨_,rfl,a5,?_⟩
          replace a5:=a5.of_drew
          have km:=a5.size
          have j9:=de.trans a5
          have aw:=a2.ext (Pl) a5
          have ax:=a4.ext a5
          have ay:=bo.ext a5
          have c9:=gf.ext gV a5
          have gl:=AP a5 ge
          have gm:=AP a5 gg
          have ak:=ch.ext a5
          have gn:=AP a5 gi
          have bq:=bp.ext a5
          replace aj:=aj.low (B':=w65.heap.size) (A9 _)
          refine Ap 132 [] [] [((VK.getD r []).getD k undef),gk] Z Z SF Ac (Eu _ _ _ _ _ ak.rd aj.rd1 oM (by rw[Fe];omega) (by rw[Fe];omega) (by exact hxa.2) (by exact Ff _ _)) ?_
          rintro e77 w77 ⟨ci,rfl,a9,br⟩
          refine⟨_,rfl,a9,?_⟩
          have kn:=a9.size
          have go:=j9.trans a9
          have az:=aw.ext (Pl) a9
          have b0:=ax.ext a9
          have b1:=ay.ext a9
          have ca:=c9.ext gV a9
          have gp:=AP a9 gl
          have ko:=AP a9 gm
          have bs:=ak.ext a9
          have kp:=AP a9 gn
          have bt:=bq.ext a9
          have b2:=aj.ext (o1) a9
          refine Au (v:=df) k Bi AX Z Z ca.isSl Z sD Ac ?_
          refine Rr (v:=vo) (u:=df) (a:=ci) (w:=w77) Ja Z Z (Bj br.isSl) az sD gp sD Ac fun w81 F81 al lw an ja=>?_
          have jb:Az w w81:=al.below go (fun c hc=>Aa (A9 _) (an c hc).1) go.size
          have kq:=al.size
          have jc:=b0.chg al (fun c hc=>by have:=an c hc;omega)
          have jd:=b1.chg al (fun c hc=>by have:=an c hc;omega)
          have lx:=bs.chg al (fun c hc=>by have:=an c hc;omega)
          have ly:=bt.chg al (fun c hc=>by have:=an c hc;omega)
          have lz:=b2.chg (o1) al (fun c hc=>by have:=an c hc;omega)
          have je:=br.chg (o1) al (fun c hc=>by have:=an c hc;omega)
          have jf:=jc.put (r:=r) (k:=k) (T':=w81.heap.size) oM oM je oM oM oM oM
          refine Ah (Ad _ [0,0] Z (AI ((k+1:Nat):Int) Z Z (B8 oM sD) Ac (Ae 1 Z ?_)))
          exact⟨((k+1),(VK.set r ((VK.getD r []).set k ci)),(MK.set r ((MK.getD r []).set k (Dg ((MK.getD r []).getD k []) (C7 ((MR.getD r []).getD c []) ((MK.getD c []).getD k [])))))),_,rfl,⟨rfl,rfl,rfl,rfl,rfl,rfl,rfl,rfl,rfl,rfl,rfl,trivial⟩,⟨jb,ja,(by exact jf.weak (fun r0 hr0 h0=>by first|omega|(dsimp only at h0 ⊢;omega)) oM),jd,sD,(by exact hrn),(by exact hShK.put oM ((Qz N).t _ _ _ hxa hfa hya)),(by exact Ds (by have h:=Tk (c:=c) (k:=k) hlr j7 oM oM hrn.2.out;rw[← hK.out]at h;exact h)),oM⟩,by first|omega|(dsimp only;omega)⟩
         ·refine Ax false Z Z (A8 gd) Ac (Ah (A0 (Aj Z (A6 (As (As (An (Ad _ [0,0] Z (AI ((r+1:Nat):Int) Z Z (B8 oM sD) Ac (Ae 1 Z ?_))))))))))
          exact⟨((r+1),VK,MK),_,rfl,⟨rfl,rfl,rfl,rfl,rfl,rfl,rfl,trivial⟩,⟨de,a2,(by exact a4.weak (fun r0 hr0 h0=>by first|omega|(dsimp only at h0 ⊢;omega)) oM),sD,(by first|exact hShR|exact hShK),Xw,oM⟩,by first|omega|(dsimp only;omega)⟩
       ·refine Ax false Z Z (A8 da) Ac (Ah (A0 (Aj Z (A6 (As (As (An (Ad _ [0,0] Z (AI ((c+1:Nat):Int) Z Z (B8 oM sD) Ac (Ae 1 Z ?_))))))))))
        exact⟨((c+1),VR,MR),_,rfl,⟨rfl,rfl,rfl,rfl,trivial⟩,⟨bm,a1,R6,sD,(by exact hShR),(by exact Ds (by have h:=Pz hJ.out oM (by rw[← c4.out];omega);rw[← c4.out]at h;have e:=hR.out;rw[CL (by simp[Cc,hlD.out]) (by rw[hlD.out];omega)]at e;rw[e];exact h)),oM⟩,by first|omega|(dsimp only;omega)⟩
  ·refine Ax false Z Z (A8 cu) Ac (Ah (A0 (Aj Z (A6 (As (As (An (A0 (Ad _ [3,0] Z (BI (rV) Bd Bi AX Ac fun v88 w88 bu jg gq=>?_))))))))))
   have gr:=bu.size
   have gs:=bd.trans bu
   have aa:=ac.ext (Pl) bu
   have ah:=a6.ext bu
   refine Ae 1 Z (A0 (A0 (Ad _ [0,0,0] Z (Af 1 Z (AJ (v:=vo) DN Z aa.isSl Ac (Ae 1 Z (A5 ?_)))))))
   have hsome:=RW hJ.out oM
   refine AN (S:=Nat×Value) (fun⟨i,vz⟩=>([(17,vz),(163,(.int .i64 ((i:Nat):Int))),(6,(.int .i64 ((a.length:Nat):Int))),(161,vo),(162,(.int .i64 ((VM.length:Nat):Int)))])) (fun⟨i,vz⟩ W=>Az w W∧Fr (AS rV 27) w19.heap.size W.heap.size W.heap vz ((VM.take i).map (fun r=>r.getD a.length undef))∧SM 2 a.length w.heap.size w2.heap.size w19.heap.size (fun _=>1≤c) W.heap VM M∧Fr (AS (AS rV 27) 32) w.heap.size w2.heap.size W.heap vo VM∧i≤a.length∧w19.heap.size≤W.heap.size∧w2.heap.size≤W.heap.size) (fun⟨i,vz⟩=>a.length-i) (0,v88) ⟨rfl,rfl,rfl,rfl,rfl,trivial⟩ ⟨gs,gq.up oV,ah,aa,sD,oM,oM⟩ ?_
   clear a6 ac gq jg bu gr gs aa ah
   rintro⟨i,vz⟩ ρ89 w89 ⟨dk,bv,ag,ao,jh,kr,ks⟩
   have kt:w.heap.size≤w89.heap.size:=dk.size
   refine A0 (Ad _ [0] Z ?_)
   by_cases gt:((i:Nat):Int)<((VM.length:Nat):Int)
   ·refine Ax true Z Z (A7 gt) Ac (Ah (A0 (Ai Z (A4 (A0 (A5 (A0 (Ad _ [0,2,0] Z ?_))))))))
    have m0:=ag.len
    refine Au (v:=vo) i DN Ef Z Z ao.isSl Z sD Ac ?_
    obtain⟨dl,gu,dm⟩:=ao.rdV2.get (k:=i) [] sD
    have ku:=dm.lenle
    refine Ak (p:=Aw vo i 1) (.inr Z) dl DX Z gu Ac (Ae 1 Z (Ad _ [0,0,0,0,2,3,4,0] Z ?_))
    have m1:=ag.row i oM
    refine Af 3 Z (Au (v:=dl) a.length Bi AX Z Z dm.isSl Z sD Ac ?_)
    have gv:=dm.getV (k:=a.length) sD
    have cj:=ag.ser i a.length oM oM
    have kv:=cj.rd.lenle
    refine Ak (p:=Aw dl a.length 1) (.inr Z) ((VM.getD i []).getD a.length undef) B6 Z gv.1 Ac (Bq (u:=((VM.getD i []).getD a.length undef)) (B:=w89.heap.size) Bd Bi AX Z Z (Nz w89.heap.size w89.heap.size _ (Bj cj.rd.isSl)) (A9 _) Ac fun v95 w95 b3 m2 ji=>?_)
    have kw:=b3.size
    have gw:=dk.trans b3
    have b4:=bv.ext (oV) b3
    have b5:=ag.ext b3
    have b6:=ao.ext (Pl) b3
    have kx:=AP b3 gu
    refine O9 (v:=vz) (a:=v95) Bi AX Z Z Z b4 oM ji.rdV1 sD ML Ac fun v97 w97 F97 cb dn jj=>?_
    have jk:Az w w97:=cb.below gw (fun c hc=>Aa bd.size (dn c hc).1) gw.size
    have ky:=cb.size
    have jl:=b5.chg2 cb (fun c hc=>by have:=dn c hc;omega)
    have jm:=b6.chg (Pl) cb (fun c hc=>by have:=dn c hc;omega)
    refine Ae 1 Z (Ad _ [0,0] Z (AI ((i+1:Nat):Int) Z Z (B8 oM sD) Ac (Ae 1 Z ?_)))
    exact⟨((i+1),v97),_,rfl,⟨rfl,rfl,rfl,rfl,rfl,trivial⟩,⟨jk,(by rw[Du [] oM];exact jj.up oV),jl,jm,sD,oM,oM⟩,by first|omega|(dsimp only;omega)⟩
   ·refine Ax false Z Z (A8 gt) Ac (Ah (A0 (Aj Z (A6 (As (As (An (A0 (Ad _ [0,0,0] Z (Ae 3 Z (A3 ?_)))))))))))
    obtain⟨Fc,m3,m4,dr⟩:=ag.cols (fun r0 hr0=>by first|omega|(dsimp only;omega))
    exact Ag [4,5] Z (.tuple #[vz,(.bool true)]) Z ⟨vz,(by rw[hsome];rfl),dk,(by have h:=bv.up oV;rw[List.take_of_length_le oM]at h;rw[RY hsome];exact TY h m3 m4 (fun b hb=>by have:=dr b hb;omega) oM)⟩
end
section
set_option maxHeartbeats 4000000
set_option maxRecDepth 100000
attribute [local irreducible] LW
theorem OZ (w:World)(n:Nat)(vp:Value)(ps:List Int)(_hn:n≤1000000000000)(hps:Rd (B3 rI) w.heap vp ps)(hn:n≤1000)(hk:∀j,j<ps.length→0≤ps.getD j 0∧ps.getD j 0<((n:Nat):Int)) :
  Calls Tryz.prog 77 #[.int .i64 ((n:Nat):Int),vp] w (fun e w'=>∃v0:Value,e=.returned (v0)∧Az w w'∧Fr (AS rI 2) w.heap.size w'.heap.size w'.heap v0 (G6 n ps ps.length)):=by
 refine At [.int .i64 ((n:Nat):Int),vp] 27 Tryz.func77 Z Z sM ?_
 have a4:Az w w:=Az.refl w
 have hl_vp:=hps.lenle
 refine A0 (Ad _ [0] Z (Ae 1 Z (A0 (Ad _ [0,3,0] Z (Af 1 Z (EF (n:=n) Bh BA Z Z Z sD Ac fun v1 w1 a2 aa a5=>?_))))))
 have a3:=a2.size
 have a6:=a4.trans a2
 refine Ae 1 Z (A0 (A0 (Ad _ [0,0,0] Z (Af 1 Z (AJ (v:=vp) Bh Z hps.isSl Ac (Ae 1 Z (A5 (AN (S:=Nat) (fun j=>([(12,(.int .i64 ((j:Nat):Int))),(5,v1),(10,vp),(11,(.int .i64 ((ps.length:Nat):Int)))])) (fun j W=>Az w W∧Fr (AS rI 2) w.heap.size W.heap.size W.heap v1 (G6 n ps j)∧j≤ps.length) (fun j=>ps.length-j) 0 ⟨rfl,rfl,rfl,rfl,trivial⟩ ⟨a6,(by exact a5.up o1),oM⟩ ?_))))))))
 clear a4 a5 aa a2 a3 a6
 rintro j ρ2 w2 ⟨a1,a0,a7⟩
 have ab:w.heap.size≤w2.heap.size:=a1.size
 have hul:=I1 n ps j
 refine A0 (Ad _ [0] Z ?_)
 by_cases a8:((j:Nat):Int)<((ps.length:Nat):Int)
 ·refine Ax true Z Z (A7 a8) Ac (Ah (A0 (Ai Z (A4 (A0 (A5 (A0 (Ad _ [0,2,0] Z ?_))))))))
  have hkj:=hk j oM
  refine Au (v:=vp) j Bh BA Z Z hps.isSl Z sD Ac ?_
  refine Ak (p:=Aw vp j 1) (.inr Z) (.int .i64 (ps.getD j 0)) AH Z (AP a1 (hps.getI sD).1) Ac (Ae 1 Z (Ad _ [0,0,0,0,0,2,0,0,0,4] Z (Af 4 Z ?_)))
  refine Au (v:=v1) ((ps.getD j 0).toNat) Bh BA Z Z a0.isSl oM sD Ac ?_
  refine Ak (p:=Aw v1 ((ps.getD j 0).toNat) 1) (.inr Z) (.int .i64 ((G6 n ps j).getD ((ps.getD j 0).toNat) 0)) AH Z (a0.rd1.getI sD).1 Ac ?_
  have hgn:=Ba (H6 n ps j) (ps.getD j 0).toNat
  refine AI (((G6 n ps j).getD ((ps.getD j 0).toNat) 0)+((1:Nat):Int)) Z Z (FR sD sD) Ac ?_
  refine EA (md (((G6 n ps j).getD ((ps.getD j 0).toNat) 0)+((1:Nat):Int))) Z Z (by decide) (Int.tmod_eq_emod_of_nonneg oM) Ac (Au (v:=v1) ((ps.getD j 0).toNat) Bh BA Z Z a0.isSl oM sD Ac ?_)
  refine Fk (v:=v1) (w:=w2) ID Z Z (Dt _) a0 sD Ac fun w4 F4 a9 ag ac ad=>?_
  have ae:Az w w4:=a9.below a1 (fun c hc=>Aa (A9 _) (ac c hc).1) a1.size
  have af:w2.heap.size≤w4.heap.size:=a9.size
  exact Ah (Ad _ [0,0] Z (AI ((j+1:Nat):Int) Z Z (B8 oM sD) Ac (Ae 1 Z ⟨(j+1),_,rfl,⟨rfl,rfl,rfl,rfl,trivial⟩,⟨ae,(by exact ad.up o1),oM⟩,by first|omega|(dsimp only;omega)⟩)))
 ·exact Ax false Z Z (A8 a8) Ac (Ah (A0 (Aj Z (A6 (As (As (An (A0 (Ad _ [0,0] Z (Ae 2 Z (A3 (Ag [4] Z v1 Z ⟨v1,rfl,a1,(by have h:=a0.up o1;rw[show j=ps.length from by omega]at h;exact h)⟩))))))))))))
end
section
set_option maxHeartbeats 4000000
set_option maxRecDepth 100000
attribute [local irreducible] LW
theorem R7 {p:Prop}(h:p:=by simp only[List.length_cons,List.length_nil];unfold maxLen;omega):p:=h
theorem R8 {p:Prop}(h:p:=by simp only[List.length_cons,List.length_nil];omega):p:=h
theorem KK {p:Prop}(h:p:=by rw[Hr];omega):p:=h
theorem CQ (w:World)(S:List Nat)(g:Nat)(vp:Value)(ip:Int)(s0:Nat)(c0:Int)(T:Tp)(c:AF)(v:Int)(hS:∀b∈S,b<w.heap.size)(hgS:g∈S)(hR0:TD 231 255 2 S g w.heap vp ip T s0 c0)(_hip:BC ip)(hln:T.code.length≤4000∧T.vals.length≤4000)(hc:Yi c)(_hv:BC v)  :
  Calls Tryz.prog 217 #[.pointer (some ⟨g,0,none⟩),(.agg #[(.int .i64 c.op),(.int .i64 c.a),(.int .i64 c.b),(.int .i64 c.num)]),.int .i64 v] w (fun e w'=>∃S':List Nat,e=.returned (.int .i64 ((T.vals.length:Nat):Int))∧Gh S S' w w'∧TD 231 255 2 S' g w'.heap vp ip (T.put c v) s0 c0):=by
 refine At [.pointer (some ⟨g,0,none⟩),(.agg #[(.int .i64 c.op),(.int .i64 c.a),(.int .i64 c.b),(.int .i64 c.num)]),.int .i64 v] 35 Tryz.func217 Z Z sM ?_
 have dr:AE S w w:=AE.refl S w
 obtain⟨rc0,rg0,rv0,bt,d5⟩:=hR0
 have hgl:=bt.lt
 have hG0:Gh S S w w:=Gh.refl hS
 have hml:=CJ.len d5
 refine A0 (Ad _ [3,0] Z ?_)
 have eo:=bt.lt
 refine Bx (cs:=#[(.int .i64 c.op),(.int .i64 c.a),(.int .i64 c.b),(.int .i64 c.num)]) Z Ac fun w1 ay ep bu=>?_
 have ds:w.heap.size≤w1.heap.size:=ay.size
 have d6:AE S w w1:=dr.ext ay
 have a7:=bt.ext ay
 have dt:=CJ.ext d5 ay
 have d7:=hG0.ext ay
 replace bu:BX w1.heap w.heap.size [(.int .i64 c.op),(.int .i64 c.a),(.int .i64 c.b),(.int .i64 c.num)]:=bu
 refine Ae 1 Z (A0 ?_)
 obtain⟨Fc,Fg,Fv,hOc,hOg,hOv,hdj,hgn,hSc,hSg,hSv⟩:=id dt
 letI:JR:=f9 (Fc++Fv)
 refine Jx.fg _ [0,0,0,0,0,0,1,1,3,3,0,0,0,1,0,3,3,0,0,0,4,0,0,4] [0,1,2,3,4,5,6,7,10,11,12,13,14] 8 9 [15,16,17,18,19,20,21,22,23] 15 [9,16,17,18,19,20,21,22,23] 15 [8,9,16,17,18,19,20,21,22,23] [_,_,_,_,_,_,_,_,_,_,_,_,_] [0,0,0,0,0,0,1,1,0,0,0,1,0] _ _ [_,_,_,_,_,_,_,_,_] [3,3,0,0,0,4,0,0,4] _ [_,_,_,_,_,_,_,_,_] [3,3,0,0,0,4,0,0,4] _ [_,_,_,_,_,_,_,_,_,_] [3,3,3,0,0,0,4,0,0,4] mixed (by kernel_rfl) ⟨rfl,rfl,⟨rfl,rfl,⟨rfl,rfl,⟨rfl,rfl,⟨rfl,rfl,⟨rfl,rfl,⟨rfl,rfl,⟨rfl,rfl,⟨rfl,rfl,⟨rfl,rfl,⟨rfl,rfl,⟨rfl,rfl,⟨rfl,rfl,trivial⟩⟩⟩⟩⟩⟩⟩⟩⟩⟩⟩⟩⟩ ⟨rfl,rfl,trivial⟩ ⟨rfl,rfl,⟨rfl,rfl,⟨rfl,rfl,⟨rfl,rfl,⟨rfl,rfl,⟨rfl,rfl,⟨rfl,rfl,⟨rfl,rfl,⟨rfl,rfl,⟨rfl,rfl,trivial⟩⟩⟩⟩⟩⟩⟩⟩⟩⟩ ⟨rfl,rfl,⟨rfl,rfl,⟨rfl,rfl,⟨rfl,rfl,⟨rfl,rfl,⟨rfl,rfl,⟨rfl,rfl,⟨rfl,rfl,⟨rfl,rfl,⟨rfl,rfl,trivial⟩⟩⟩⟩⟩⟩⟩⟩⟩⟩ ⟨rfl,rfl,⟨rfl,rfl,⟨rfl,rfl,⟨rfl,rfl,⟨rfl,rfl,⟨rfl,rfl,⟨rfl,rfl,⟨rfl,rfl,⟨rfl,rfl,⟨rfl,rfl,⟨rfl,rfl,trivial⟩⟩⟩⟩⟩⟩⟩⟩⟩⟩⟩ ?_
 refine Jx.bF (.pointer (some ⟨g,0,none⟩)) Z Ac (Jx.bF (.pointer (some ⟨g,0,none⟩)) Z Ac (Jx.bF (.pointer (some ⟨g,0,none⟩)) Z Ac (Jx.j1 (Bw Z Ac (Ah ?_)))))
 refine Jx.Ao (p:=(.pointer (some ⟨g,0,none⟩))) (b:=g) (o:=0) 1 Gy Z Z Ac (Jx.Ao (p:=(Ay (.pointer (some ⟨g,0,none⟩)) 1)) (b:=g) (o:=1) 1 Gx Z Z Ac (Jx.jQ (p:=(Ay (Ay (.pointer (some ⟨g,0,none⟩)) 1) 1)) rc0 Mx Z (fun wj hj=>(BX.chg (w:=w1.drew) (F:=Fc++Fv) a7 hj (fun hm=>(List.mem_append.1 hm).elim hgn.1 hgn.2.2)).ldp (i:=2) sM) Ac (Jx.fa (p:=(.pointer (some ⟨w.heap.size,0,none⟩))) [(.int .i64 c.op),(.int .i64 c.a),(.int .i64 c.b),(.int .i64 c.num)] Ft Z (fun wj hj=>LD.of_box (BX.chg (w:=w1.drew) (F:=Fc++Fv) bu hj (fun hm=>(List.mem_append.1 hm).elim (fun h9=>by have:=hS _ (hSc _ h9);omega) (fun h9=>by have:=hS _ (hSv _ h9);omega)))) Z Ac (Jx.bF (.pointer (some ⟨g,0,none⟩)) Z Ac ?_))))
 refine Jx.j1 (Bw Z Ac (Ah ?_))
 refine Jx.Ao (p:=(.pointer (some ⟨g,0,none⟩))) (b:=g) (o:=0) 5 E2 Z Z Ac (Jx.jQ (p:=(Ay (.pointer (some ⟨g,0,none⟩)) 5)) rv0 B6 Z (fun wj hj=>(BX.chg (w:=w1.drew) (F:=Fc++Fv) a7 hj (fun hm=>(List.mem_append.1 hm).elim hgn.1 hgn.2.2)).ldp (i:=5) sM) Ac (Jx.bF (.int .i64 v) Z Ac (Jx.Ah ⟨?_,?_⟩)))
 ·refine Jx.kA (Qu (cs:=[(.int .i64 c.op),(.int .i64 c.a),(.int .i64 c.b),(.int .i64 c.num)]) (y:=c) (B:=w1.heap.size) AO My I4 Z (by decide) Z (UV (U:=w1.heap.size) hc) (A9 _) Ac ?_)
  intro v4 w4 ao eq d8
  refine Ah ?_
  have du:w1.heap.size≤w4.heap.size:=ao.size
  have az:=Ow.ext (w:=w1.drew) (Av AO) hOc ao
  have b0:=Ow.ext (w:=w1.drew) (B9 AQ) hOv ao
  have b1:=Ow.ext (w:=w1.drew) (Av AW) hOg ao
  have d9:=BX.ext (w:=w1.drew) a7 ao
  have da:AE S w w4:=d6.drew.ext ao
  have db:=d7.drew.ext ao
  refine Jx.Ah ⟨?_,?_⟩
  ·refine Jx.lC (Ou (v:=rc0) (a:=v4) AO My I4 Z (by decide) Z Z az d8 oM (Nat.zero_le _) (Nat.zero_le _) oM (by unfold maxLen;omega) Ac ?_)
   intro v5 w5 F5 ap dv b2
   refine Ah ⟨AE.sub ap (fun b hb=>List.mem_append_left _ hb),?_⟩
   have dw:w4.heap.size≤w5.heap.size:=ap.size
   have bv:=b0.keep (B9 AQ) ap (fun b hb hm=>hdj.2.1 b hb hm)
   have bw:=b1.keep (Av AW) ap (fun b hb hm=>hdj.1 b hb hm)
   have dx:=BX.chg d9 ap hgn.1
   have dy:AE S w w5:=da.trans (ap.sub hSc)
   have dz:=db.more ap hSc
   refine Jx.kA (Bq (u:=(.int .i64 v)) (B:=w5.heap.size) AQ Bh BA Z Z (N6 w5.heap.size w5.heap.size _ _ _hv) (A9 _) Ac ?_)
   intro v6 w6 aq er e0
   refine Ah ?_
   have e1:w5.heap.size≤w6.heap.size:=aq.size
   have bx:=Ow.ext (w:=w5) (Av AO) dv aq
   have bz:=Ow.ext (w:=w5) (B9 AQ) bv aq
   have c1:=Ow.ext (w:=w5) (Av AW) bw aq
   have e2:=BX.ext (w:=w5) dx aq
   have e3:AE S w w6:=dy.ext aq
   have e4:=dz.ext aq
   refine Jx.lC (Ma (v:=rv0) (a:=v6) Bh BA Z Z Z bz e0.rd1 (Nat.zero_le _) R8 R7 Ac ?_)
   intro v7 w7 F7 ar dc br
   refine Ah ⟨AE.sub ar (fun b hb=>List.mem_append_right _ hb),?_⟩
   have e5:w6.heap.size≤w7.heap.size:=ar.size
   have au:=bx.keep (Av AO) ar (fun b hb hm=>by rcases b2 b hm with h9|h9|h9;exact hdj.2.1 b h9 hb;(have:=hOv.high b hb;omega);(have:=hOv.high b hb;omega))
   have c2:=c1.keep (Av AW) ar (fun b hb hm=>hdj.2.2 b hm hb)
   have e6:=BX.chg e2 ar hgn.2.2
   have dd:AE S w w7:=e3.trans (ar.sub hSv)
   have es:=e4.more ar hSv
   refine Jx.Yg Z ?_
   have av:CJ 231 255 2 (F5++(F7++S)) g w7.heap v5 rg0 v7 (T.put c v):=⟨F5,Fg,F7,au.up oM,c2.up oM,dc,⟨fun b hb hm=>by rcases b2 b hb with h9|h9|h9;exact hdj.1 b h9 hm;(have:=hOg.high b hm;omega);(have:=hOg.high b hm;omega),fun b hb hm=>by rcases br b hm with h8|h8;(rcases b2 b hb with h9|h9|h9;exact hdj.2.1 b h9 h8;(have:=hOv.high b h8;omega);(have:=hOv.high b h8;omega));(have:=au.high b hb;omega),fun b hm hb=>by rcases br b hb with h8|h8;exact hdj.2.2 b hm h8;(have:=hOg.high b hm;omega)⟩,⟨fun hm=>by rcases b2 g hm with h9|h9|h9;exact hgn.1 h9;omega;omega,hgn.2.1,fun hm=>by rcases br g hm with h9|h9;exact hgn.2.2 h9;omega⟩,fun b hb=>List.mem_append_left _ hb,fun b hb=>List.mem_append_right _ (List.mem_append_right _ (hSg b hb)),fun b hb=>List.mem_append_right _ (List.mem_append_left _ hb)⟩
   have c3:Gh S (F5++(F7++S)) w w7:=⟨fun b hb=>List.mem_append_right _ (List.mem_append_right _ hb),fun b hb=>by rcases List.mem_append.1 hb with hb|hb;(rcases b2 b hb with h9|h9|h9;exact .inl (hSc b h9);(right;omega);(right;omega));rcases List.mem_append.1 hb with hb|hb;(rcases br b hb with h9|h9;exact .inl (hSv b h9);(right;omega));exact .inl hb,fun b hb=>by rcases List.mem_append.1 hb with hb|hb;(have:=au.high b hb;omega);rcases List.mem_append.1 hb with hb|hb;(exact dc.high b hb);(have:=hS b hb;omega),dd⟩
   refine Bw Z Ac (Ao (p:=(.pointer (some ⟨g,0,none⟩))) (b:=g) (o:=0) 1 Gy Z Z Ac (Ao (p:=(Ay (.pointer (some ⟨g,0,none⟩)) 1)) (b:=g) (o:=1) 1 Gx Z Z Ac (Co (k:=2) (w:=w7) Xg Z Z (BQ av.slc) e6 sM Ac fun w9 bs et c4=>?_)))
   replace c4:BX w9.heap g [vp,(.int .i64 ip),v5,rg0,(.slice none 0 0),rv0,(.int .i64 ((s0:Nat):Int)),(.int .i64 c0)]:=c4
   have e7:AE S w w9:=dd.trans (bs.sub (Bg hgS))
   have e8:=CJ.chg av bs
   have e9:=c3.set hgS bs
   have ea:w7.heap.size≤w9.heap.size:=bs.size
   refine Bw Z Ac (Ao (p:=(.pointer (some ⟨g,0,none⟩))) (b:=g) (o:=0) 5 E2 Z Z Ac (Co (k:=5) (w:=w9) Ja Z Z (BQ av.slv) c4 sM Ac fun w13 ae eb af=>?_))
   replace af:BX w13.heap g [vp,(.int .i64 ip),v5,rg0,(.slice none 0 0),v7,(.int .i64 ((s0:Nat):Int)),(.int .i64 c0)]:=af
   have ec:AE S w w13:=e7.trans (ae.sub (Bg hgS))
   have b3:=CJ.chg e8 ae
   have c5:=e9.set hgS ae
   have de:w9.heap.size≤w13.heap.size:=ae.size
   exact Ah (A0 (Ad _ [0,0,0,2,0,0,0] Z (Af 1 Z (Bw Z Ac (Ao (p:=(.pointer (some ⟨g,0,none⟩))) (b:=g) (o:=0) 5 E2 Z Z Ac (Ak (p:=(Ay (.pointer (some ⟨g,0,none⟩)) 5)) (.inr Z) v7 B6 Z (af.ldp (i:=5) sM) Ac (AJ (v:=v7) Bh Z (CJ.slv b3) Ac (Cy ((T.vals.length:Nat):Int) Z Z (B8 KK KK) Ac (Ae 1 Z (A3 (Ag [6] Z (.int .i64 ((T.vals.length:Nat):Int)) Z ⟨_,(by rfl),c5,⟨_,_,_,af,b3⟩⟩)))))))))))
  ·refine Jx.kA (Bq (u:=(.int .i64 v)) (B:=w4.heap.size) AQ Bh BA Z Z (N6 w4.heap.size w4.heap.size _ _ _hv) (A9 _) Ac ?_)
   intro v17 w17 a0 ed c6
   refine Ah ?_
   have df:w4.heap.size≤w17.heap.size:=a0.size
   have b4:=Ow.ext (w:=w4) (Av AO) az a0
   have b5:=Ow.ext (w:=w4) (B9 AQ) b0 a0
   have b6:=Ow.ext (w:=w4) (Av AW) b1 a0
   have c7:=d8.ext (Av AO) a0
   have c8:=BX.ext (w:=w4) d9 a0
   have c9:AE S w w17:=da.ext a0
   have ca:=db.ext a0
   refine Jx.lC (Ou (v:=rc0) (a:=v4) AO My I4 Z (by decide) Z Z b4 c7 oM (Nat.zero_le _) (Nat.zero_le _) oM (by unfold maxLen;omega) Ac ?_)
   intro v18 w18 F18 a1 cb a8
   refine Ah ⟨AE.sub a1 (fun b hb=>List.mem_append_left _ hb),?_⟩
   have dg:w17.heap.size≤w18.heap.size:=a1.size
   have b7:=b5.keep (B9 AQ) a1 (fun b hb hm=>hdj.2.1 b hb hm)
   have b8:=b6.keep (Av AW) a1 (fun b hb hm=>hdj.1 b hb hm)
   have cc:=c6.chg (o1) a1 (fun b hb=>by have:=hOc.high b hb;omega)
   have cd:=BX.chg c8 a1 hgn.1
   have ce:AE S w w18:=c9.trans (a1.sub hSc)
   have cf:=ca.more a1 hSc
   refine Jx.lC (Ma (v:=rv0) (a:=v17) Bh BA Z Z Z b7 cc.rd1 (Nat.zero_le _) R8 R7 Ac ?_)
   intro v19 w19 F19 a4 b9 ag
   refine Ah ⟨AE.sub a4 (fun b hb=>List.mem_append_right _ hb),?_⟩
   have dh:w18.heap.size≤w19.heap.size:=a4.size
   have a9:=cb.keep (Av AO) a4 (fun b hb hm=>by rcases a8 b hm with h9|h9|h9;exact hdj.2.1 b h9 hb;(have:=hOv.high b hb;omega);(have:=hOv.high b hb;omega))
   have ba:=b8.keep (Av AW) a4 (fun b hb hm=>hdj.2.2 b hm hb)
   have cg:=BX.chg cd a4 hgn.2.2
   have bb:AE S w w19:=ce.trans (a4.sub hSv)
   have ee:=cf.more a4 hSv
   refine Jx.Yg Z ?_
   have aa:CJ 231 255 2 (F18++(F19++S)) g w19.heap v18 rg0 v19 (T.put c v):=⟨F18,Fg,F19,a9.up oM,ba.up oM,b9,⟨fun b hb hm=>by rcases a8 b hb with h9|h9|h9;exact hdj.1 b h9 hm;(have:=hOg.high b hm;omega);(have:=hOg.high b hm;omega),fun b hb hm=>by rcases ag b hm with h8|h8;(rcases a8 b hb with h9|h9|h9;exact hdj.2.1 b h9 h8;(have:=hOv.high b h8;omega);(have:=hOv.high b h8;omega));(have:=a9.high b hb;omega),fun b hm hb=>by rcases ag b hb with h8|h8;exact hdj.2.2 b hm h8;(have:=hOg.high b hm;omega)⟩,⟨fun hm=>by rcases a8 g hm with h9|h9|h9;exact hgn.1 h9;omega;omega,hgn.2.1,fun hm=>by rcases ag g hm with h9|h9;exact hgn.2.2 h9;omega⟩,fun b hb=>List.mem_append_left _ hb,fun b hb=>List.mem_append_right _ (List.mem_append_right _ (hSg b hb)),fun b hb=>List.mem_append_right _ (List.mem_append_left _ hb)⟩
   have bc:Gh S (F18++(F19++S)) w w19:=⟨fun b hb=>List.mem_append_right _ (List.mem_append_right _ hb),fun b hb=>by rcases List.mem_append.1 hb with hb|hb;(rcases a8 b hb with h9|h9|h9;exact .inl (hSc b h9);(right;omega);(right;omega));rcases List.mem_append.1 hb with hb|hb;(rcases ag b hb with h9|h9;exact .inl (hSv b h9);(right;omega));exact .inl hb,fun b hb=>by rcases List.mem_append.1 hb with hb|hb;(have:=a9.high b hb;omega);rcases List.mem_append.1 hb with hb|hb;(exact b9.high b hb);(have:=hS b hb;omega),bb⟩
   refine Bw Z Ac (Ao (p:=(.pointer (some ⟨g,0,none⟩))) (b:=g) (o:=0) 1 Gy Z Z Ac (Ao (p:=(Ay (.pointer (some ⟨g,0,none⟩)) 1)) (b:=g) (o:=1) 1 Gx Z Z Ac (Co (k:=2) (w:=w19) Xg Z Z (BQ aa.slc) cg sM Ac fun w21 ah ef aw=>?_)))
   replace aw:BX w21.heap g [vp,(.int .i64 ip),v18,rg0,(.slice none 0 0),rv0,(.int .i64 ((s0:Nat):Int)),(.int .i64 c0)]:=aw
   have ch:AE S w w21:=bb.trans (ah.sub (Bg hgS))
   have ci:=CJ.chg aa ah
   have cj:=bc.set hgS ah
   have di:w19.heap.size≤w21.heap.size:=ah.size
   refine Bw Z Ac (Ao (p:=(.pointer (some ⟨g,0,none⟩))) (b:=g) (o:=0) 5 E2 Z Z Ac (Co (k:=5) (w:=w21) Ja Z Z (BQ aa.slv) aw sM Ac fun w25 ai eg aj=>?_))
   replace aj:BX w25.heap g [vp,(.int .i64 ip),v18,rg0,(.slice none 0 0),v19,(.int .i64 ((s0:Nat):Int)),(.int .i64 c0)]:=aj
   have eh:AE S w w25:=ch.trans (ai.sub (Bg hgS))
   have bd:=CJ.chg ci ai
   have ck:=cj.set hgS ai
   have dj:w21.heap.size≤w25.heap.size:=ai.size
   exact Ah (A0 (Ad _ [0,0,0,2,0,0,0] Z (Af 1 Z (Bw Z Ac (Ao (p:=(.pointer (some ⟨g,0,none⟩))) (b:=g) (o:=0) 5 E2 Z Z Ac (Ak (p:=(Ay (.pointer (some ⟨g,0,none⟩)) 5)) (.inr Z) v19 B6 Z (aj.ldp (i:=5) sM) Ac (AJ (v:=v19) Bh Z (CJ.slv bd) Ac (Cy ((T.vals.length:Nat):Int) Z Z (B8 KK KK) Ac (Ae 1 Z (A3 (Ag [6] Z (.int .i64 ((T.vals.length:Nat):Int)) Z ⟨_,(by rfl),ck,⟨_,_,_,aj,bd⟩⟩)))))))))))
 ·refine Jx.kA (Bq (u:=(.int .i64 v)) (B:=w1.heap.size) AQ Bh BA Z Z (N6 w1.heap.size w1.heap.size _ _ _hv) (A9 _) Ac ?_)
  intro v29 w29 a5 ei cl
  refine Ah ?_
  have dk:w1.heap.size≤w29.heap.size:=a5.size
  have be:=Ow.ext (w:=w1.drew) (Av AO) hOc a5
  have bf:=Ow.ext (w:=w1.drew) (B9 AQ) hOv a5
  have bg:=Ow.ext (w:=w1.drew) (Av AW) hOg a5
  have cm:=BX.ext (w:=w1.drew) a7 a5
  have cn:AE S w w29:=d6.drew.ext a5
  have co:=d7.drew.ext a5
  refine Jx.kA (Qu (cs:=[(.int .i64 c.op),(.int .i64 c.a),(.int .i64 c.b),(.int .i64 c.num)]) (y:=c) (B:=w29.heap.size) AO My I4 Z (by decide) Z (UV (U:=w29.heap.size) hc) (A9 _) Ac ?_)
  intro v30 w30 a2 ej cp
  refine Ah ?_
  have dl:w29.heap.size≤w30.heap.size:=a2.size
  have bh:=Ow.ext (w:=w29) (Av AO) be a2
  have bi:=Ow.ext (w:=w29) (B9 AQ) bf a2
  have bj:=Ow.ext (w:=w29) (Av AW) bg a2
  have cq:=cl.ext (o1) a2
  have cr:=BX.ext (w:=w29) cm a2
  have ct:AE S w w30:=cn.ext a2
  have cu:=co.ext a2
  refine Jx.lC (Ou (v:=rc0) (a:=v30) AO My I4 Z (by decide) Z Z bh cp oM (Nat.zero_le _) (Nat.zero_le _) oM (by unfold maxLen;omega) Ac ?_)
  intro v31 w31 F31 a3 cv ab
  refine Ah ⟨AE.sub a3 (fun b hb=>List.mem_append_left _ hb),?_⟩
  have dm:w30.heap.size≤w31.heap.size:=a3.size
  have bk:=bi.keep (B9 AQ) a3 (fun b hb hm=>hdj.2.1 b hb hm)
  have bl:=bj.keep (Av AW) a3 (fun b hb hm=>hdj.1 b hb hm)
  have cw:=cq.chg (o1) a3 (fun b hb=>by have:=hOc.high b hb;omega)
  have cx:=BX.chg cr a3 hgn.1
  have cy:AE S w w31:=ct.trans (a3.sub hSc)
  have cz:=cu.more a3 hSc
  refine Jx.lC (Ma (v:=rv0) (a:=v29) Bh BA Z Z Z bk cw.rd1 (Nat.zero_le _) R8 R7 Ac ?_)
  intro v32 w32 F32 a6 bm ak
  refine Ah ⟨AE.sub a6 (fun b hb=>List.mem_append_right _ hb),?_⟩
  have dn:w31.heap.size≤w32.heap.size:=a6.size
  have ac:=cv.keep (Av AO) a6 (fun b hb hm=>by rcases ab b hm with h9|h9|h9;exact hdj.2.1 b h9 hb;(have:=hOv.high b hb;omega);(have:=hOv.high b hb;omega))
  have bn:=bl.keep (Av AW) a6 (fun b hb hm=>hdj.2.2 b hm hb)
  have d0:=BX.chg cx a6 hgn.2.2
  have bo:AE S w w32:=cy.trans (a6.sub hSv)
  have ek:=cz.more a6 hSv
  refine Jx.Yg Z ?_
  have ad:CJ 231 255 2 (F31++(F32++S)) g w32.heap v31 rg0 v32 (T.put c v):=⟨F31,Fg,F32,ac.up oM,bn.up oM,bm,⟨fun b hb hm=>by rcases ab b hb with h9|h9|h9;exact hdj.1 b h9 hm;(have:=hOg.high b hm;omega);(have:=hOg.high b hm;omega),fun b hb hm=>by rcases ak b hm with h8|h8;(rcases ab b hb with h9|h9|h9;exact hdj.2.1 b h9 h8;(have:=hOv.high b h8;omega);(have:=hOv.high b h8;omega));(have:=ac.high b hb;omega),fun b hm hb=>by rcases ak b hb with h8|h8;exact hdj.2.2 b hm h8;(have:=hOg.high b hm;omega)⟩,⟨fun hm=>by rcases ab g hm with h9|h9|h9;exact hgn.1 h9;omega;omega,hgn.2.1,fun hm=>by rcases ak g hm with h9|h9;exact hgn.2.2 h9;omega⟩,fun b hb=>List.mem_append_left _ hb,fun b hb=>List.mem_append_right _ (List.mem_append_right _ (hSg b hb)),fun b hb=>List.mem_append_right _ (List.mem_append_left _ hb)⟩
  have bp:Gh S (F31++(F32++S)) w w32:=⟨fun b hb=>List.mem_append_right _ (List.mem_append_right _ hb),fun b hb=>by rcases List.mem_append.1 hb with hb|hb;(rcases ab b hb with h9|h9|h9;exact .inl (hSc b h9);(right;omega);(right;omega));rcases List.mem_append.1 hb with hb|hb;(rcases ak b hb with h9|h9;exact .inl (hSv b h9);(right;omega));exact .inl hb,fun b hb=>by rcases List.mem_append.1 hb with hb|hb;(have:=ac.high b hb;omega);rcases List.mem_append.1 hb with hb|hb;(exact bm.high b hb);(have:=hS b hb;omega),bo⟩
  refine Bw Z Ac (Ao (p:=(.pointer (some ⟨g,0,none⟩))) (b:=g) (o:=0) 1 Gy Z Z Ac (Ao (p:=(Ay (.pointer (some ⟨g,0,none⟩)) 1)) (b:=g) (o:=1) 1 Gx Z Z Ac (Co (k:=2) (w:=w32) Xg Z Z (BQ ad.slc) d0 sM Ac fun w34 al el ax=>?_)))
  replace ax:BX w34.heap g [vp,(.int .i64 ip),v31,rg0,(.slice none 0 0),rv0,(.int .i64 ((s0:Nat):Int)),(.int .i64 c0)]:=ax
  have d1:AE S w w34:=bo.trans (al.sub (Bg hgS))
  have d2:=CJ.chg ad al
  have d3:=bp.set hgS al
  have dp:w32.heap.size≤w34.heap.size:=al.size
  refine Bw Z Ac (Ao (p:=(.pointer (some ⟨g,0,none⟩))) (b:=g) (o:=0) 5 E2 Z Z Ac (Co (k:=5) (w:=w34) Ja Z Z (BQ ad.slv) ax sM Ac fun w38 am em an=>?_))
  replace an:BX w38.heap g [vp,(.int .i64 ip),v31,rg0,(.slice none 0 0),v32,(.int .i64 ((s0:Nat):Int)),(.int .i64 c0)]:=an
  have en:AE S w w38:=d1.trans (am.sub (Bg hgS))
  have bq:=CJ.chg d2 am
  have d4:=d3.set hgS am
  have dq:w34.heap.size≤w38.heap.size:=am.size
  exact Ah (A0 (Ad _ [0,0,0,2,0,0,0] Z (Af 1 Z (Bw Z Ac (Ao (p:=(.pointer (some ⟨g,0,none⟩))) (b:=g) (o:=0) 5 E2 Z Z Ac (Ak (p:=(Ay (.pointer (some ⟨g,0,none⟩)) 5)) (.inr Z) v32 B6 Z (an.ldp (i:=5) sM) Ac (AJ (v:=v32) Bh Z (CJ.slv bq) Ac (Cy ((T.vals.length:Nat):Int) Z Z (B8 KK KK) Ac (Ae 1 Z (A3 (Ag [6] Z (.int .i64 ((T.vals.length:Nat):Int)) Z ⟨_,(by rfl),d4,⟨_,_,_,an,bq⟩⟩)))))))))))
def jF (F d:Nat):Prop:=∀(w:World) (S:List Nat) (g:Nat) (vp:Value) (dp:Nat) (ip:Int) (s0:Nat) (c0:Int) (p:List Fn) (T:Tp) (ve:Value) (ex:Ex) (vv:Value) (env:List Int) (hS:∀b∈S,b<w.heap.size) (hgS:g∈S) (hR0:TD 231 255 2 S g w.heap vp ip T s0 c0) (hp:RP S dp w.heap vp p) (_hip:BC ip) (hs0:s0≤3000) (hc0:0≤c0∧c0≤9) (hbd:KW T s0) (hex:RX S d w.heap ve ex) (henv:RN S (B3 rI) w.heap vv env) (hqenv:CK vv)
  (hvp:Iz p) (hF:F≤p.length) (hwf:wf p ((F:Nat):Int) ex ((env.length:Nat):Int)=true) (hdp:env.length+ex.deep≤1000000) (hen:c0=0→Kx T env),
  Calls Tryz.prog 244 #[.pointer (some ⟨g,0,none⟩),.agg #[.int .i64 ex.kind,.int .i64 ex.num,.int .i64 ex.pick,.int .i64 ex.count,ve],vv] w (fun e w'=>∃(r:Int) (S':List Nat) (T':Tp) (s1:Nat) (c1:Int),e=.returned (.int .i64 r)∧Gh S S' w w'∧TD 231 255 2 S' g w'.heap vp ip T' s1 c1∧Zq T T' s0 s1 c1∧(c1=0→0≤r∧r<((T'.vals.length:Nat):Int))∧(BC r)∧AT (go c0 (HG (L5 p F) ex env s0 T)) (r,T') s1 c1)
def lH (F d:Nat):Prop:=∀(w:World) (S:List Nat) (g:Nat) (vp:Value) (dp:Nat) (ip:Int) (s0:Nat) (c0:Int) (p:List Fn) (T:Tp) (vl:Value) (l:List Ex) (vv:Value) (env:List Int) (hS:∀b∈S,b<w.heap.size) (hgS:g∈S) (hR0:TD 231 255 2 S g w.heap vp ip T s0 c0) (hp:RP S dp w.heap vp p) (_hip:BC ip) (hs0:s0≤3000) (hc0:0≤c0∧c0≤9) (hbd:KW T s0) (hl:RN S (Dp 5 (Iv d)) w.heap vl l) (henv:RN S (B3 rI) w.heap vv env) (hqenv:CK vv)
  (hvp:Iz p) (hF:F≤p.length) (hwf:∀k,k<l.length→wf p ((F:Nat):Int) (l.getD k Ex.zero) ((env.length:Nat):Int)=true) (hdp:∀k,k<l.length→env.length+(l.getD k Ex.zero).deep≤1000000) (hll:l.length≤1000000) (hen:c0=0→Kx T env),
  Calls Tryz.prog 218 #[.pointer (some ⟨g,0,none⟩),vl,vv] w (fun e w'=>∃(v:Value) (xs:List Int) (S':List Nat) (T':Tp) (s1:Nat) (c1:Int),e=.returned v∧Gh S S' w w'∧TD 231 255 2 S' g w'.heap vp ip T' s1 c1∧Zq T T' s0 s1 c1∧Ts S' w.heap.size (B3 rI) w'.heap v xs∧CK v∧xs.length=l.length∧(c1=0→Kx T' xs)∧AT (go c0 (Il (L5 p F) l env s0 T)) (xs,T') s1 c1)
theorem IG (w:World)(S:List Nat)(F:Nat)(g:Nat)(vp:Value)(dp:Nat)(ip:Int)(s0:Nat)(c0:Int)(p:List Fn)(T:Tp)(dl:Nat)(vl:Value)(l:List Ex)(vv:Value)(env:List Int)(hS:∀b∈S,b<w.heap.size)(hgS:g∈S)(hR0:TD 231 255 2 S g w.heap vp ip T s0 c0)(hp:RP S dp w.heap vp p)(_hip:BC ip)(hs0:s0≤3000)(hc0:0≤c0∧c0≤9)(hbd:KW T s0)(hl:RN S (Dp 5 (Iv dl)) w.heap vl l)(henv:RN S (B3 rI) w.heap vv env)(hqenv:CK vv)(hvp:Iz p)(hF:F≤p.length)(hwf:∀k,k<l.length→wf p ((F:Nat):Int) (l.getD k Ex.zero) ((env.length:Nat):Int)=true)(hdp:∀k,k<l.length→env.length+(l.getD k Ex.zero).deep≤1000000)(hll:l.length≤1000000)(hen:c0=0→Kx T env)(IHv:∀d',d'<dl→jF F d') :
  Calls Tryz.prog 218 #[.pointer (some ⟨g,0,none⟩),vl,vv] w (fun e w'=>∃(v:Value) (xs:List Int) (S':List Nat) (T':Tp) (s1:Nat) (c1:Int),e=.returned v∧Gh S S' w w'∧TD 231 255 2 S' g w'.heap vp ip T' s1 c1∧Zq T T' s0 s1 c1∧Ts S' w.heap.size (B3 rI) w'.heap v xs∧CK v∧xs.length=l.length∧(c1=0→Kx T' xs)∧AT (go c0 (Il (L5 p F) l env s0 T)) (xs,T') s1 c1):=by
 refine At [.pointer (some ⟨g,0,none⟩),vl,vv] 26 Tryz.func218 Z Z sM ?_
 have bd:AE S w w:=AE.refl S w
 have hl_vp:=hp.lenle
 unfold maxLen at hl_vp
 have hl_vl:=hl.lenle
 unfold maxLen at hl_vl
 have hl_vv:=henv.lenL
 unfold maxLen at hl_vv
 obtain⟨rc0,rg0,rv0,be,bf⟩:=hR0
 have hgl:=be.lt
 have hG0:Gh S S w w:=Gh.refl hS
 refine A0 (Ad _ [0] Z (Ae 1 Z (A0 (Ad _ [3,0] Z (BI (rI) AQ Bh BA Ac fun v1 w1 ab bs bg=>?_)))))
 have ao:w.heap.size≤w1.heap.size:=ab.size
 have bh:AE S w w1:=bd.ext ab
 have ae:=be.ext ab
 have bi:=CJ.ext bf ab
 have bj:=hG0.ext ab
 refine Ae 1 Z (A0 (A0 (Ad _ [0,0,0] Z (Af 1 Z (AJ (v:=vl) DK Z hl.isSl Ac (Ae 1 Z (A5 ?_)))))))
 obtain⟨Fo0,af⟩:=Ow.of_fr bg (A9 _)
 have ap:∀b∈Fo0,b∉S:=fun b hb hm=>by have:=af.low b hb;have:=hS b hm;omega
 have hMs:=bi
 have hGs:=bj
 refine AN (S:=Nat×Value×List Int×List Nat×List Nat×Tp×Nat×Int×Value×Value×Value) (fun⟨k,vo,xs,Fo,S9,T9,s9,c9,vc9,vg9,vv9⟩=>([(7,vo),(13,(.int .i64 ((k:Nat):Int))),(0,(.pointer (some ⟨g,0,none⟩))),(2,vv),(11,vl),(12,(.int .i64 ((l.length:Nat):Int)))])) (fun⟨k,vo,xs,Fo,S9,T9,s9,c9,vc9,vg9,vv9⟩ W=>AE S w W∧BX W.heap g [vp,.int .i64 ip,vc9,vg9,.slice none 0 0,vv9,.int .i64 ((s9:Nat):Int),.int .i64 c9]∧k≤l.length∧Gh S S9 w W∧CJ 231 255 2 S9 g W.heap vc9 vg9 vv9 T9∧Zq T T9 s0 s9 c9∧Ow (AS rI 2) w.heap.size W.heap.size W.heap vo xs Fo∧(∀b∈Fo,b∉S9)∧xs.length=k∧(c9=0→c0=0)∧(c9=0→Kx T9 xs)∧AT (go c0 (Il (L5 p F) (l.take k) env s0 T)) (xs,T9) s9 c9) (fun⟨k,vo,xs,Fo,S9,T9,s9,c9,vc9,vg9,vv9⟩=>l.length-k) (0,v1,[],Fo0,S,T,s0,c0,rc0,rg0,rv0) ⟨rfl,rfl,rfl,rfl,rfl,rfl,trivial⟩ ⟨bh,ae,sD,(by exact hGs),(by exact hMs),(by exact⟨hbd,by omega⟩),(by exact af),(by exact ap),(by rfl),(by exact fun h=>h),(by exact fun _=>Kx.nil _),(by exact UZ _ _ _ _ _ _)⟩ ?_
 clear bd bf hG0 bg bs ab ao bh bi bj
 rintro⟨k,vo,xs,Fo,S9,T9,s9,c9,vc9,vg9,vv9⟩ ρ3 w3 ⟨aq,a3,bk,hGl,hMl,hPl,hOl,hdl,hxl,hzl,hxb,hrl⟩
 have bt:w.heap.size≤w3.heap.size:=aq.size
 have c7:=a3.lt
 have hnl:=hPl.num
 have hbl:=hPl.bnd
 refine A0 (Ad _ [0] Z ?_)
 by_cases bl:((k:Nat):Int)<((l.length:Nat):Int)
 ·refine Ax true Z Z (A7 bl) Ac (Ah (A0 (Ai Z (A4 (A0 (A5 (A0 (Ad _ [0,2,3,4] Z ?_))))))))
  have hkl:k<l.length:=by omega
  refine Au (v:=vl) k DK BB Z Z hl.isSl Z sD Ac ?_
  obtain⟨cs6,bu,bv⟩:=hl.get (AC dl) Ex.zero (k:=k) sD
  obtain⟨dd6,ac,c8,rfl,am⟩:=RX.of bu
  have ar:=am.rn.lenle
  unfold maxLen at ar
  refine AR (p:=Aw vl k 5) (.inr Z) [(.int .i64 ((l.getD k Ex.zero).kind)),(.int .i64 ((l.getD k Ex.zero).num)),(.int .i64 ((l.getD k Ex.zero).pick)),(.int .i64 ((l.getD k Ex.zero).count)),ac] BS Z (fun wq9 au=>bv wq9 (aq.ext au)) Z Ac ?_
  have ca:=a3.lt
  refine BJ (z:=.agg #[.int .i64 0,.int .i64 0,.int .i64 0,.int .i64 0,.slice none 0 0]) Mz Ac fun w7 ad cb av=>?_
  have bw:w3.heap.size≤w7.heap.size:=ad.size
  have bx:AE S w w7:=aq.ext ad
  have a7:=a3.ext ad
  have bz:=CJ.ext hMl ad
  have c2:=hGl.ext ad
  have hO10k:=hOl.ext (B9 AQ) ad
  replace av:BX w7.heap w3.heap.size [(.int .i64 0),(.int .i64 0),(.int .i64 0),(.int .i64 0),(.slice none 0 0)]:=av
  refine CT (vs:=[(.int .i64 ((l.getD k Ex.zero).kind)),(.int .i64 ((l.getD k Ex.zero).num)),(.int .i64 ((l.getD k Ex.zero).pick)),(.int .i64 ((l.getD k Ex.zero).count)),ac]) BS Z Z am.ones av Z Z Ac fun w11 a4 c3 a8=>?_
  replace a8:BX w11.heap w3.heap.size [(.int .i64 ((l.getD k Ex.zero).kind)),(.int .i64 ((l.getD k Ex.zero).num)),(.int .i64 ((l.getD k Ex.zero).pick)),(.int .i64 ((l.getD k Ex.zero).count)),ac]:=a8
  have a9:AE S w w11:=bx.fresh a4 (fun c hc=>by have:=Ab hc;omega)
  have aw:=CJ.chgO bz a4 (fun b hb hm=>by rw[Ab hb]at hm;exact(by have:=hGl.lt _ hm;omega))
  have a1:=c2.fresh a4 (fun c hc=>by have:=Ab hc;omega)
  have bm:w7.heap.size≤w11.heap.size:=a4.size
  have ax:=a7.chg a4 (fun hm=>by have:=Ab hm;omega)
  have ag:=hO10k.keep (B9 AQ) a4 (fun b hb hm=>by have:=Ab hb;have:=hO10k.low _ hm;have:=hO10k.high _ hm;omega)
  refine Ah (Ad _ [0,0,2,0,4,3,4,0] Z (Af 2 Z (AR (p:=(.pointer (some ⟨w3.heap.size,0,none⟩))) (.inr Z) [(.int .i64 ((l.getD k Ex.zero).kind)),(.int .i64 ((l.getD k Ex.zero).num)),(.int .i64 ((l.getD k Ex.zero).pick)),(.int .i64 ((l.getD k Ex.zero).count)),ac] BS Z (fun wq9 au=>LD.of_box (BX.ext (w:=w11) a8 au)) Z Ac (Af 1 Z ?_))))
  refine B1 244 [] [] [(.pointer (some ⟨g,0,none⟩)),(.agg #[(.int .i64 ((l.getD k Ex.zero).kind)),(.int .i64 ((l.getD k Ex.zero).num)),(.int .i64 ((l.getD k Ex.zero).pick)),(.int .i64 ((l.getD k Ex.zero).count)),ac]),vv] Z Z Mw Ac (IHv dd6 oM _ S9 g vp dp ip (s9) (c9) p (T9) ac (l.getD k Ex.zero) vv (env) (fun b hb=>(a1.lt b hb:b<w11.heap.size)) (a1.sub _ hgS) ⟨_,_,_,ax,aw⟩ (RN.stp (Am (AB dp)) hp a9 a1.new) _hip oM oM (by exact hbl) ⟨am.rng,(RN.stp (Am (AC dd6)) am.rn a9 a1.new)⟩ (RN.stp g1 henv a9 a1.new) hqenv (by exact hvp) oM (by exact hwf k hkl) (by exact hdp k hkl) (by intro h9;exact(hen (hzl h9)).mono oM)) ?_
  rintro e18 w18 ⟨r18,S18,T18,s18,c18,rfl,a0,⟨vc18,vg18,vv18,ay,az⟩,ah,ai,aj,ak⟩
  refine⟨_,rfl,?_⟩
  have bn:w11.heap.size≤w18.heap.size:=a0.chg.size
  have b0:AE S w w18:=a9.stp a0.chg a1.new
  have b1:=ag.keep (B9 AQ) a0.chg (fun b hb hm=>hdl b hm hb)
  have a5:∀b∈Fo,b∉S18:=fun b hb hm=>(a0.new b hm).elim (hdl b hb) (fun h9=>by have:=ag.high b hb;omega)
  have b2:=a8.chg a0.chg (fun hm=>(by have:=hGl.lt _ hm;omega))
  have b3:w3.heap.size∉S18:=fun hm=>(a0.new _ hm).elim (fun hm=>(by have:=hGl.lt _ hm;omega)) (fun h9=>by omega)
  have b4:=a1.trans a0
  have bo:=ah.bnd
  have bp:=ah.num
  have hcz:=fun h9=>fi ak h9
  have hrv:=ai
  refine(Bq (u:=(.int .i64 r18)) (B:=w18.heap.size) AQ Bh BA Z Z (N6 w18.heap.size w18.heap.size _ _ aj) (A9 _) Ac ?_)
  intro v27 w27 a2 c4 b5
  have bq:w18.heap.size≤w27.heap.size:=a2.size
  have b6:AE S w w27:=b0.ext a2
  have aa:=ay.ext a2
  have an:=b2.ext a2
  have b7:=CJ.ext az a2
  have al:=b4.ext a2
  have hO29k:=b1.ext (B9 AQ) a2
  refine Ma (v:=vo) (a:=v27) Bh BA Z Z Z hO29k b5.rd1 oM sD (by unfold maxLen;first|omega|assumption|(simp;done)|(simp;omega)) Ac fun v30 w30 F30 a6 c5 b8=>?_
  have br:w27.heap.size≤w30.heap.size:=a6.size
  have b9:AE S w w30:=b6.fresh a6 (fun c hc=>by have:=hO29k.low c hc;omega)
  have c6:∀b∈F30,b∉S18:=fun b hb hm=>(b8 b hb).elim (fun h9=>a5 b h9 hm) (fun h9=>by have:=al.lt b hm;omega)
  have ba:=CJ.chgO b7 a6 a5
  have bb:=al.fresh a6 (fun c hc=>by have:=hO29k.low c hc;omega)
  have bc:=aa.chg a6 (fun hm=>by have:=hO29k.low _ hm;omega)
  refine Ae 1 Z (Ad _ [0,0] Z (AI ((k+1:Nat):Int) Z Z (B8 oM oM) Ac (Ae 1 Z ?_)))
  have hMe:=ba
  have hGe:=bb
  have hPe:Zq T T18 s0 s18 c18:=⟨by assumption,by omega⟩
  exact⟨((k+1),v30,(xs++[r18]),F30,S18,T18,s18,c18,vc18,vg18,vv18),_,rfl,⟨rfl,rfl,rfl,rfl,rfl,rfl,trivial⟩,⟨b9,bc,sD,(by exact hGe),(by exact hMe),(by exact hPe),(by assumption),(by assumption),(by rw[List.length_append,List.length_singleton,hxl]),(by exact fun h9=>hzl (hcz h9)),(by exact fun h9=>Kx.snoc ((hxb (hcz h9)).mono oM) (hrv h9)),(by exact Yn oM hrl (by assumption))⟩,by first|omega|(dsimp only;omega)⟩
 ·exact Ax false Z Z (A8 bl) Ac (Ah (A0 (Aj Z (A6 (As (As (An (A0 (Ad _ [0,0] Z (Ae 2 Z (A3 (Ag [6] Z vo Z ⟨vo,xs,_,T9,s9,c9,rfl,hGl,⟨_,_,_,a3,hMl⟩,⟨(by exact hbl),oM⟩,Ts.of_ow hOl hdl,hOl.fr.cap,oM,(by exact hxb),(by rw[List.take_of_length_le oM]at hrl;exact hrl)⟩))))))))))))
theorem Fy (w:World)(v:Value)(n:Nat)(hs:FS v n)(hcs:CK v)  :
  Calls Tryz.prog 250 #[v] w (fun e w'=>e=.returned (Jz v)∧w'=w):=by
 refine At [v] 9 Tryz.func250 Z Z sM ?_
 have a0:w=w:=rfl
 exact A0 (Ad _ [0] Z (Ae 1 Z (A0 (Ad _ [0,0,0,0,0,0,0] Z (Af 2 Z (AJ (v:=v) Bh Z hs Ac (Af 1 Z (AJ (v:=v) Bh Z hs Ac (bN (v:=v) Bh BA Z hs Z Z hcs Ac (Ae 1 Z (A3 (Ag [2] Z (Jz v) Z ⟨rfl,a0⟩))))))))))))
theorem KL {p:Prop}(h:p:=by first|rw[(V2 (k:=c_op) (a:=a) (b:=b) oM).1,(V2 (k:=c_op) (a:=a) (b:=b) oM).2] <;> rfl|rw[(V3 (k:=c_op) (a:=a) (b:=b) oM).1,(V3 (k:=c_op) (a:=a) (b:=b) oM).2] <;> rfl|rw[(V4 (k:=c_op) (a:=a) (b:=b) oM).1,(V4 (k:=c_op) (a:=a) (b:=b) oM).2] <;> rfl|rw[(V5 (k:=c_op) (a:=a) (b:=b) oM).1,(V5 (k:=c_op) (a:=a) (b:=b) oM).2] <;> rfl|rw[(Sa (k:=c_op) (a:=a) (b:=b) oM oM).1,(Sa (k:=c_op) (a:=a) (b:=b) oM oM).2] <;> rfl|rw[(V6 (k:=c_op) (a:=a) (b:=b) oM oM).1,(V6 (k:=c_op) (a:=a) (b:=b) oM oM).2] <;> rfl):p:=h
theorem HN (w:World)(c_op c_a c_b c_n:Int)(a:Int)(b:Int)(_hc_op:BC c_op)(_hc_a:BC c_a)(_hc_b:BC c_b)(_hc_n:BC c_n)(_ha:BC a)(_hb:BC b)(hop:3≤c_op∧c_op≤7) :
  Calls Tryz.prog 255 #[(.agg #[(.int .i64 c_op),(.int .i64 c_a),(.int .i64 c_b),(.int .i64 c_n)]),.int .i64 a,.int .i64 b] w (fun e w'=>e=.returned (.tuple #[.int .i64 (if Ey c_op b then 0 else HP c_op a b),.bool (!decide (Ey c_op b))])∧Az w w'):=by
 refine At [(.agg #[(.int .i64 c_op),(.int .i64 c_a),(.int .i64 c_b),(.int .i64 c_n)]),.int .i64 a,.int .i64 b] 35 Tryz.func255 Z Z sM ?_
 have a8:Az w w:=Az.refl w
 refine A0 (Ad _ [3,0,0] Z (Bx (cs:=#[(.int .i64 c_op),(.int .i64 c_a),(.int .i64 c_b),(.int .i64 c_n)]) Z Ac fun w1 a3 aa a2=>?_))
 have a9:=a3.size
 have a0:=a8.trans a3
 replace a2:BX w1.heap w.heap.size [(.int .i64 c_op),(.int .i64 c_a),(.int .i64 c_b),(.int .i64 c_n)]:=a2
 refine Ae 2 Z (A0 (A0 (Ad _ [0,2] Z (Ao (p:=(.pointer (some ⟨w.heap.size,0,none⟩))) (b:=w.heap.size) (o:=0) 0 LE Z Z Ac (Ak (p:=(Ay (.pointer (some ⟨w.heap.size,0,none⟩)) 0)) (.inr Z) (.int .i64 c_op) AH Z (a2.ldp (i:=0) sM) Ac (Ah (A5 (A0 (Ad _ [0,0] Z ?_)))))))))
 by_cases a4:c_op=((3:Nat):Int)
 ·refine AA true Z Z (A7 a4) Ac (Ae 1 Z (Ai Z (A0 (Ad _ [0,0,0,0,0] Z (Af 2 Z (AD 79 [] [] [(.int .i64 a),(.int .i64 b)] Z Z eG Ac (.int .i64 (md (a+b))) (fun wq=>I5 wq _ _ _ha _hb) (Ae 2 Z (A3 (AL (Aq ?_))))))))))
  exact Ag [6,7] Z (.tuple #[(.int .i64 (md (a+b))),(.bool true)]) Z ⟨KL,a0⟩
 ·refine AA false Z Z (A8 a4) Ac (Ae 1 Z (Aj Z (A0 (Ad _ [0,0] Z ?_))))
  by_cases a5:c_op=((4:Nat):Int)
  ·refine AA true Z Z (A7 a5) Ac (Ae 1 Z (Ai Z (A0 (Ad _ [0,0,0,0,0] Z (Af 2 Z (AD 78 [] [] [(.int .i64 a),(.int .i64 b)] Z Z eF Ac (.int .i64 (md (a-b))) (fun wq=>Hy wq _ _ _ha _hb) (Ae 2 Z (A3 (AL (Aq ?_))))))))))
   exact Ag [6,7] Z (.tuple #[(.int .i64 (md (a-b))),(.bool true)]) Z ⟨KL,a0⟩
  ·refine AA false Z Z (A8 a5) Ac (Ae 1 Z (Aj Z (A0 (Ad _ [0,0] Z ?_))))
   by_cases a6:c_op=((5:Nat):Int)
   ·refine AA true Z Z (A7 a6) Ac (Ae 1 Z (Ai Z (A0 (Ad _ [0,0,0,0,0] Z (Af 2 Z (AD 147 [] [] [(.int .i64 a),(.int .i64 b)] Z Z aD Ac (.int .i64 (md (a*b))) (fun wq=>K3 wq _ _ _ha _hb) (Ae 2 Z (A3 (AL (Aq ?_))))))))))
    exact Ag [6,7] Z (.tuple #[(.int .i64 (md (a*b))),(.bool true)]) Z ⟨KL,a0⟩
   ·refine AA false Z Z (A8 a6) Ac (Ae 1 Z (Aj Z (A0 (Ad _ [0,0] Z ?_))))
    by_cases a7:c_op=((7:Nat):Int)
    ·refine AA true Z Z (A7 a7) Ac (Ae 1 Z (Ai Z (A0 (Ad _ [0,0,0,0] Z (Af 1 Z (AD 78 [] [] [(.int .i64 ((0:Nat):Int)),(.int .i64 a)] Z Z eF Ac (.int .i64 (md (((0:Nat):Int)-a))) (fun wq=>Hy wq _ _ oM _ha) (Ae 2 Z (A3 (AL (Aq ?_))))))))))
     exact Ag [6,7] Z (.tuple #[(.int .i64 (md (((0:Nat):Int)-a))),(.bool true)]) Z ⟨KL,a0⟩
    ·refine AA false Z Z (A8 a7) Ac (Ae 1 Z (Aj Z (A4 (A0 (A0 (Ad _ [0,0] Z (Af 1 Z ?_)))))))
     by_cases a1:b=((0:Nat):Int)
     ·refine AA true Z Z (A7 a1) Ac (Ah (Ai Z (A0 (Ad _ [0,0] Z (Ae 2 Z (A3 (Aq ?_)))))))
      exact Ag [6,7] Z (.tuple #[(.int .i64 ((0:Nat):Int)),(.bool false)]) Z ⟨KL,a0⟩
     ·refine AA false Z Z (A8 a1) Ac (Ah (Aj Z (A4 (A0 (Ad _ [0,0,0,0,0,0] Z (Af 2 Z (AD 104 [] [] [(.int .i64 b)] Z Z ZX Ac (.int .i64 (inv b)) (fun wq=>I6 wq _ _hb) (AD 147 [] [] [(.int .i64 a),(.int .i64 (inv b))] Z Z aD Ac (.int .i64 (md (a*(inv b)))) (fun wq=>K3 wq _ _ _ha (Lg _)) (Ae 2 Z (A3 ?_))))))))))
      exact Ag [6,7] Z (.tuple #[(.int .i64 (md (a*(inv b)))),(.bool true)]) Z ⟨KL,a0⟩
theorem P0 {p:Prop}(h:p:=by first|exact Yp hc00 oM (fj (by assumption))|exact Yq hc00 oM (kC (by assumption))|exact Yr hc00 oM|exact absurd (fj (Q:=Ey op _) (by assumption)) (Zp oM)):p:=h
theorem P3 {p:Prop}(h:p:=by first|(intro h9;exact absurd h9 oM)|(intro h9;omega)):p:=h
theorem P4 {p:Prop}(h:p:=by first|exact hbd.up oM|exact hbd.put _ hvr):p:=h
theorem Ev {p:Prop}(h:p:=by have:=hG0.lt _ hm;omega):p:=h
theorem Gn (w:World)(S:List Nat)(g:Nat)(vp:Value)(dp:Nat)(ip:Int)(s0:Nat)(c0:Int)(p:List Fn)(T:Tp)(op:Int)(vk:Value)(ks:List Int)(hS:∀b∈S,b<w.heap.size)(hgS:g∈S)(hR0:TD 231 255 2 S g w.heap vp ip T s0 c0)(hp:RP S dp w.heap vp p)(_hip:BC ip)(hs0:s0≤3000)(hc0:0≤c0∧c0≤9)(hbd:KW T s0)(_hop:BC op)(hks:RN S (B3 rI) w.heap vk ks)(hqks:CK vk)(hop:3≤op∧op≤7)(hkl:1≤ks.length∧(op≠7→2≤ks.length))(hen:Kx T ks)(hc00:c0=0) :
  Calls Tryz.prog 251 #[.pointer (some ⟨g,0,none⟩),.int .i64 op,vk] w (fun e w'=>∃(r:Int) (S':List Nat) (T':Tp) (c1:Int),e=.returned (.int .i64 r)∧Gh S S' w w'∧TD 231 255 2 S' g w'.heap vp ip T' s0 c1∧KW T' (s0+1)∧((0≤c1∧c1≤9)∧T.vals.length≤T'.vals.length∧T'.vals.length≤T.vals.length+1∧T'.grd.length=T.grd.length)∧(c1=0→0≤r∧r<((T'.vals.length:Nat):Int))∧(BC r)∧AT (go c0 (UW op ks s0 T)) (r,T') s0 c1):=by
 refine At [.pointer (some ⟨g,0,none⟩),.int .i64 op,vk] 51 Tryz.func251 Z Z sM ?_
 have bi:AE S w w:=AE.refl S w
 have hl_vp:=hp.lenle
 unfold maxLen at hl_vp
 have hl_vk:=hks.lenL
 unfold maxLen at hl_vk
 obtain⟨rc0,rg0,rv0,b0,bv⟩:=hR0
 have hgl:=b0.lt
 have hG0:Gh S S w w:=Gh.refl hS
 have ch:=hen 0 oM
 have hbn:=hbd.ln hs0
 refine A0 (Ad _ [0] Z (Ae 1 Z (A0 (Ad _ [0,0,0,2,0,3,4] Z (Af 2 Z (Au (v:=vk) 0 Bh BA Z Z hks.slL Z sD Ac ?_))))))
 have am:=RN.getI (w:=w) (k:=0) hks sD
 refine Ak (p:=Aw vk 0 1) (.inr Z) (.int .i64 (ks.getD 0 0)) AH Z (am.1 _ bi) Ac ?_
 have b1:∀(wq:World),(Instr.build 231 #[(0,(.int .i64 op)),(1,(.int .i64 (ks.getD 0 0)))]).run Tryz.prog wq=.ok (.agg #[(.int .i64 op),(.int .i64 (ks.getD 0 0)),(.int .i64 0),(.int .i64 0)]) wq:=by intro wq;kernel_rfl
 refine ER (ps:=#[(0,(.int .i64 op)),(1,(.int .i64 (ks.getD 0 0)))]) (.agg #[(.int .i64 op),(.int .i64 (ks.getD 0 0)),(.int .i64 0),(.int .i64 0)]) (by simp only[List.map_toArray,List.map_cons,List.map_nil];rfl) (fun wq=>b1  wq) Ac ?_
 have ci:=b0.lt
 refine BJ (z:=.agg #[.int .i64 0,.int .i64 0,.int .i64 0,.int .i64 0]) SR Ac fun w3 an cj b2=>?_
 have bw:w.heap.size≤w3.heap.size:=an.size
 have bx:AE S w w3:=bi.ext an
 have ao:=b0.ext an
 have bz:=CJ.ext bv an
 have c2:=hG0.ext an
 replace b2:BX w3.heap w.heap.size [(.int .i64 0),(.int .i64 0),(.int .i64 0),(.int .i64 0)]:=b2
 refine CT (vs:=[(.int .i64 op),(.int .i64 (ks.getD 0 0)),(.int .i64 (0:Int)),(.int .i64 (0:Int))]) Ft Z Z (by intro u hu;simp only[List.mem_cons,List.not_mem_nil,or_false]at hu;rcases hu with rfl|rfl|rfl|rfl <;> first|exact⟨rfl,rfl⟩) b2 Z Z Ac fun w6 ap ck ag=>?_
 replace ag:BX w6.heap w.heap.size [(.int .i64 op),(.int .i64 (ks.getD 0 0)),(.int .i64 (0:Int)),(.int .i64 (0:Int))]:=ag
 have b3:AE S w w6:=bx.fresh ap (fun c hc=>by have:=Ab hc;omega)
 have af:=CJ.chgO bz ap (fun b hb hm=>by rw[Ab hb]at hm;exact Ev)
 have bj:=c2.fresh ap (fun c hc=>by have:=Ab hc;omega)
 have c3:w3.heap.size≤w6.heap.size:=ap.size
 have az:=ao.chg ap (fun hm=>by have:=Ab hm;omega)
 refine Ah (A0 (A0 (Ad _ [0,0] Z (Af 1 Z ?_))))
 by_cases aq:op≠((7:Nat):Int)
 ·refine AZ true Z Z (A7 aq) Ac (Ah (Ai Z (Ad _ [0,0,2,0,4] Z ?_)))
  have cl:=hen 1 oM
  refine Af 1 Z (Au (v:=vk) 1 Bh BA Z Z hks.slL Z sD Ac ?_)
  have ah:=RN.getI (w:=w) (k:=1) hks sD
  refine Ak (p:=Aw vk 1 1) (.inr Z) (.int .i64 (ks.getD 1 0)) AH Z (ah.1 _ b3) Ac (Ao (p:=(.pointer (some ⟨w.heap.size,0,none⟩))) (b:=w.heap.size) (o:=0) 2 Do Z Z Ac (Co (k:=2) (w:=w6) ID Z Z ⟨rfl,rfl⟩ ag sM Ac fun w12 a9 c4 a8=>?_))
  replace a8:BX w12.heap w.heap.size [(.int .i64 op),(.int .i64 (ks.getD 0 0)),(.int .i64 (ks.getD 1 0)),(.int .i64 (0:Int))]:=a8
  have b4:AE S w w12:=b3.fresh a9 (fun c hc=>by have:=Ab hc;omega)
  have a3:=CJ.chgO af a9 (fun b hb hm=>by rw[Ab hb]at hm;exact Ev)
  have b5:=bj.fresh a9 (fun c hc=>by have:=Ab hc;omega)
  have bk:w6.heap.size≤w12.heap.size:=a9.size
  have ai:=az.chg a9 (fun hm=>by have:=Ab hm;omega)
  refine Ah (A0 (AY _ [1,0,0,0,1,0,1,0,1,0,0,0,1,0,1,0,1,3,0,0,0,0,0] mixed (by kernel_rfl) (AR (p:=(.pointer (some ⟨w.heap.size,0,none⟩))) (.inl Z) [(.int .i64 op),(.int .i64 (ks.getD 0 0)),(.int .i64 (ks.getD 1 0)),(.int .i64 (0:Int))] Ft Z (fun wq9 aj=>LD.of_box (BX.ext (w:=w12.drew) a8 aj)) Z Ac (Af 1 Z (Bw Z Ac (Ao (p:=(.pointer (some ⟨g,0,none⟩))) (b:=g) (o:=0) 5 E2 Z Z Ac (Ak (p:=(Ay (.pointer (some ⟨g,0,none⟩)) 5)) (.inl Z) rv0 B6 Z (ai.ldp (i:=5) sM) Ac (Ao (p:=(.pointer (some ⟨w.heap.size,0,none⟩))) (b:=w.heap.size) (o:=0) 1 DI Z Z Ac ?_))))))))
  refine Ak (p:=(Ay (.pointer (some ⟨w.heap.size,0,none⟩)) 1)) (.inl Z) (.int .i64 (ks.getD 0 0)) AH Z (a8.ldp (i:=1) sM) Ac (Au (v:=rv0) ((ks.getD 0 0).toNat) Bh BA Z Z (CJ.slv a3) oM oM Ac (Ak (p:=Aw rv0 ((ks.getD 0 0).toNat) 1) (.inl Z) (.int .i64 (T.vals.getD ((ks.getD 0 0).toNat) 0)) AH Z ((CJ.rdv a3).getI oM).1 Ac (Af 1 Z (Bw Z Ac (Ao (p:=(.pointer (some ⟨g,0,none⟩))) (b:=g) (o:=0) 5 E2 Z Z Ac (Ak (p:=(Ay (.pointer (some ⟨g,0,none⟩)) 5)) (.inl Z) rv0 B6 Z (ai.ldp (i:=5) sM) Ac (Ao (p:=(.pointer (some ⟨w.heap.size,0,none⟩))) (b:=w.heap.size) (o:=0) 2 Do Z Z Ac ?_)))))))
  refine Ak (p:=(Ay (.pointer (some ⟨w.heap.size,0,none⟩)) 2)) (.inl Z) (.int .i64 (ks.getD 1 0)) AH Z (a8.ldp (i:=2) sM) Ac (Au (v:=rv0) ((ks.getD 1 0).toNat) Bh BA Z Z (CJ.slv a3) oM oM Ac (Ak (p:=Aw rv0 ((ks.getD 1 0).toNat) 1) (.inl Z) (.int .i64 (T.vals.getD ((ks.getD 1 0).toNat) 0)) AH Z ((CJ.rdv a3).getI oM).1 Ac (Ap 255 [] [] [(.agg #[(.int .i64 op),(.int .i64 (ks.getD 0 0)),(.int .i64 (ks.getD 1 0)),(.int .i64 (0:Int))]),(.int .i64 (T.vals.getD ((ks.getD 0 0).toNat) 0)),(.int .i64 (T.vals.getD ((ks.getD 1 0).toNat) 0))] Z Z aR Ac (HN _ (op) (ks.getD 0 0) (ks.getD 1 0) ((0:Int)) _ _ _hop am.2 ah.2 oM ((CJ.rdv a3).getI oM).2 ((CJ.rdv a3).getI oM).2 oM) ?_)))
  rintro e16 w16 ⟨rfl,a0⟩
  refine⟨_,rfl,a0,?_⟩
  replace a0:=a0.of_drew
  have bl:w12.heap.size≤w16.heap.size:=a0.size
  have ar:AE S w w16:=b4.ext a0
  have a7:=ai.ext a0
  have a2:=a8.ext a0
  have c5:=(CJ.rdv a3).ext g1 a0
  have au:=CJ.ext a3 a0
  have aa:=b5.ext a0
  refine Af 1 Z (B2 (vs:=[(.int .i64 (if Ey op (T.vals.getD ((ks.getD 1 0).toNat) 0)then 0 else HP op (T.vals.getD ((ks.getD 0 0).toNat) 0) (T.vals.getD ((ks.getD 1 0).toNat) 0))),(.bool (!decide (Ey op (T.vals.getD ((ks.getD 1 0).toNat) 0))))]) (.int .i64 (if Ey op (T.vals.getD ((ks.getD 1 0).toNat) 0)then 0 else HP op (T.vals.getD ((ks.getD 0 0).toNat) 0) (T.vals.getD ((ks.getD 1 0).toNat) 0))) Z Z Ac (B2 (vs:=[(.int .i64 (if Ey op (T.vals.getD ((ks.getD 1 0).toNat) 0)then 0 else HP op (T.vals.getD ((ks.getD 0 0).toNat) 0) (T.vals.getD ((ks.getD 1 0).toNat) 0))),(.bool (!decide (Ey op (T.vals.getD ((ks.getD 1 0).toNat) 0))))]) (.bool (!decide (Ey op (T.vals.getD ((ks.getD 1 0).toNat) 0)))) Z Z Ac (Ae 2 Z (A0 (A0 (Ad _ [0,0] Z ?_))))))
  have hvr:0≤(if Ey op (T.vals.getD ((ks.getD 1 0).toNat) 0)then 0 else HP op (T.vals.getD ((ks.getD 0 0).toNat) 0) (T.vals.getD ((ks.getD 1 0).toNat) 0))∧(if Ey op (T.vals.getD ((ks.getD 1 0).toNat) 0)then 0 else HP op (T.vals.getD ((ks.getD 0 0).toNat) 0) (T.vals.getD ((ks.getD 1 0).toNat) 0))<1000003:=Sc _ _ _
  refine Af 1 Z (Bn (!(!decide (Ey op (T.vals.getD ((ks.getD 1 0).toNat) 0)))) Z Z Ac (Ah ?_))
  cases av:(!(!decide (Ey op (T.vals.getD ((ks.getD 1 0).toNat) 0))))
  ·refine Aj (by first|rfl|(show Value.bool _=_;rw[av])) (A4 (A0 (Ad _ [0,2,0,4,0] Z (Af 1 Z (AR (p:=(.pointer (some ⟨w.heap.size,0,none⟩))) (.inr Z) [(.int .i64 op),(.int .i64 (ks.getD 0 0)),(.int .i64 (ks.getD 1 0)),(.int .i64 (0:Int))] Ft Z (fun wq9 aj=>LD.of_box (BX.ext (w:=w16) a2 aj)) Z Ac (Af 1 Z ?_))))))
   refine B1 217 [] [] [(.pointer (some ⟨g,0,none⟩)),(.agg #[(.int .i64 op),(.int .i64 (ks.getD 0 0)),(.int .i64 (ks.getD 1 0)),(.int .i64 (0:Int))]),(.int .i64 (if Ey op (T.vals.getD ((ks.getD 1 0).toNat) 0)then 0 else HP op (T.vals.getD ((ks.getD 0 0).toNat) 0) (T.vals.getD ((ks.getD 1 0).toNat) 0)))] Z Z SG Ac (CQ _ S g vp ip (s0) (c0) (T) (⟨op,ks.getD 0 0,ks.getD 1 0,(0:Int)⟩:AF) (if Ey op (T.vals.getD ((ks.getD 1 0).toNat) 0)then 0 else HP op (T.vals.getD ((ks.getD 0 0).toNat) 0) (T.vals.getD ((ks.getD 1 0).toNat) 0)) (fun b hb=>(aa.lt b hb:b<w16.heap.size)) (aa.sub _ hgS) ⟨_,_,_,a7,au⟩ _hip (by exact hbd.ln hs0) ⟨_hop,am.2,ah.2,(show BC ((0:Int))from by omega)⟩ (by have:=Ox op (T.vals.getD ((ks.getD 0 0).toNat) 0) (T.vals.getD ((ks.getD 1 0).toNat) 0);split <;> omega)) ?_
   rintro e20 w20 ⟨S20,rfl,a4,vc20,vg20,vv20,b6,b7⟩
   refine⟨_,rfl,?_⟩
   have bm:w16.heap.size≤w20.heap.size:=a4.chg.size
   have c6:AE S w w20:=ar.stp a4.chg aa.new
   have c7:=a2.chg a4.chg (fun hm=>Ev)
   have b8:w.heap.size∉S20:=fun hm=>(a4.new _ hm).elim (fun hm=>Ev) (fun h9=>by omega)
   have b9:=aa.trans a4
   have bn:(T.put (⟨op,ks.getD 0 0,ks.getD 1 0,(0:Int)⟩:AF) (if Ey op (T.vals.getD ((ks.getD 1 0).toNat) 0)then 0 else HP op (T.vals.getD ((ks.getD 0 0).toNat) 0) (T.vals.getD ((ks.getD 1 0).toNat) 0))).vals.length=T.vals.length+1:=Hr _ _ _
   have bo:(T.put (⟨op,ks.getD 0 0,ks.getD 1 0,(0:Int)⟩:AF) (if Ey op (T.vals.getD ((ks.getD 1 0).toNat) 0)then 0 else HP op (T.vals.getD ((ks.getD 0 0).toNat) 0) (T.vals.getD ((ks.getD 1 0).toNat) 0))).grd.length=T.grd.length:=rfl
   exact Ae 1 Z (A3 (Ag [6] Z (.int .i64 ((T.vals.length:Nat):Int)) Z ⟨((T.vals.length:Nat):Int),_,T.put (⟨op,ks.getD 0 0,ks.getD 1 0,(0:Int)⟩:AF) (if Ey op (T.vals.getD ((ks.getD 1 0).toNat) 0)then 0 else HP op (T.vals.getD ((ks.getD 0 0).toNat) 0) (T.vals.getD ((ks.getD 1 0).toNat) 0)),c0,rfl,b9,⟨_,_,_,b6,b7⟩,P4,oM,P3,oM,P0⟩))
  ·refine Ai (by first|rfl|(show Value.bool _=_;rw[av])) (A0 (Ad _ [0,0,0,4] Z (Af 1 Z (Bw Z Ac (Ao (p:=(.pointer (some ⟨g,0,none⟩))) (b:=g) (o:=0) 7 FK Z Z Ac (Co (k:=7) (w:=w16) ID Z Z ⟨rfl,rfl⟩ a7 sM Ac fun w27 ab c8 ak=>?_))))))
   replace ak:BX w27.heap g [vp,(.int .i64 ip),rc0,rg0,(.slice none 0 0),rv0,(.int .i64 ((s0:Nat):Int)),(.int .i64 ((6:Nat):Int))]:=ak
   have c9:AE S w w27:=ar.trans (ab.sub (Bg hgS))
   have ba:=CJ.chg au ab
   have bb:=aa.set hgS ab
   have bp:w16.heap.size≤w27.heap.size:=ab.size
   have ca:=a2.chg ab (fun hm=>by have:=Ab hm;omega)
   exact Ah (A0 (Ad _ [0] Z (Ae 1 Z (A3 (Aq (Ag [6] Z (.int .i64 ((0:Nat):Int)) Z ⟨((0:Nat):Int),_,T,((6:Nat):Int),rfl,bb,⟨_,_,_,ak,ba⟩,P4,oM,P3,oM,P0⟩))))))
 ·refine AZ false Z Z (A8 aq) Ac (Ah (Aj Z (A4 (A0 (AY _ [1,0,0,0,1,0,1,0,1,0,0,0,1,0,1,0,1,3,0,0,0,0,0] mixed (by kernel_rfl) (AR (p:=(.pointer (some ⟨w.heap.size,0,none⟩))) (.inl Z) [(.int .i64 op),(.int .i64 (ks.getD 0 0)),(.int .i64 (0:Int)),(.int .i64 (0:Int))] Ft Z (fun wq9 aj=>LD.of_box (BX.ext (w:=w6.drew) ag aj)) Z Ac (Af 1 Z (Bw Z Ac (Ao (p:=(.pointer (some ⟨g,0,none⟩))) (b:=g) (o:=0) 5 E2 Z Z Ac (Ak (p:=(Ay (.pointer (some ⟨g,0,none⟩)) 5)) (.inl Z) rv0 B6 Z (az.ldp (i:=5) sM) Ac (Ao (p:=(.pointer (some ⟨w.heap.size,0,none⟩))) (b:=w.heap.size) (o:=0) 1 DI Z Z Ac ?_)))))))))))
  refine Ak (p:=(Ay (.pointer (some ⟨w.heap.size,0,none⟩)) 1)) (.inl Z) (.int .i64 (ks.getD 0 0)) AH Z (ag.ldp (i:=1) sM) Ac (Au (v:=rv0) ((ks.getD 0 0).toNat) Bh BA Z Z (CJ.slv af) oM oM Ac (Ak (p:=Aw rv0 ((ks.getD 0 0).toNat) 1) (.inl Z) (.int .i64 (T.vals.getD ((ks.getD 0 0).toNat) 0)) AH Z ((CJ.rdv af).getI oM).1 Ac (Af 1 Z (Bw Z Ac (Ao (p:=(.pointer (some ⟨g,0,none⟩))) (b:=g) (o:=0) 5 E2 Z Z Ac (Ak (p:=(Ay (.pointer (some ⟨g,0,none⟩)) 5)) (.inl Z) rv0 B6 Z (az.ldp (i:=5) sM) Ac (Ao (p:=(.pointer (some ⟨w.heap.size,0,none⟩))) (b:=w.heap.size) (o:=0) 2 Do Z Z Ac ?_)))))))
  refine Ak (p:=(Ay (.pointer (some ⟨w.heap.size,0,none⟩)) 2)) (.inl Z) (.int .i64 (0:Int)) AH Z (ag.ldp (i:=2) sM) Ac (Au (v:=rv0) (((0:Int)).toNat) Bh BA Z Z (CJ.slv af) oM oM Ac (Ak (p:=Aw rv0 (((0:Int)).toNat) 1) (.inl Z) (.int .i64 (T.vals.getD (((0:Int)).toNat) 0)) AH Z ((CJ.rdv af).getI oM).1 Ac (Ap 255 [] [] [(.agg #[(.int .i64 op),(.int .i64 (ks.getD 0 0)),(.int .i64 (0:Int)),(.int .i64 (0:Int))]),(.int .i64 (T.vals.getD ((ks.getD 0 0).toNat) 0)),(.int .i64 (T.vals.getD (((0:Int)).toNat) 0))] Z Z aR Ac (HN _ (op) (ks.getD 0 0) ((0:Int)) ((0:Int)) _ _ _hop am.2 oM oM ((CJ.rdv af).getI oM).2 ((CJ.rdv af).getI oM).2 oM) ?_)))
  rintro e32 w32 ⟨rfl,a1⟩
  refine⟨_,rfl,a1,?_⟩
  replace a1:=a1.of_drew
  have bq:w6.heap.size≤w32.heap.size:=a1.size
  have aw:AE S w w32:=b3.ext a1
  have ac:=az.ext a1
  have a6:=ag.ext a1
  have cb:=(CJ.rdv af).ext g1 a1
  have ax:=CJ.ext af a1
  have ad:=bj.ext a1
  refine Af 1 Z (B2 (vs:=[(.int .i64 (if Ey op (T.vals.getD (((0:Int)).toNat) 0)then 0 else HP op (T.vals.getD ((ks.getD 0 0).toNat) 0) (T.vals.getD (((0:Int)).toNat) 0))),(.bool (!decide (Ey op (T.vals.getD (((0:Int)).toNat) 0))))]) (.int .i64 (if Ey op (T.vals.getD (((0:Int)).toNat) 0)then 0 else HP op (T.vals.getD ((ks.getD 0 0).toNat) 0) (T.vals.getD (((0:Int)).toNat) 0))) Z Z Ac (B2 (vs:=[(.int .i64 (if Ey op (T.vals.getD (((0:Int)).toNat) 0)then 0 else HP op (T.vals.getD ((ks.getD 0 0).toNat) 0) (T.vals.getD (((0:Int)).toNat) 0))),(.bool (!decide (Ey op (T.vals.getD (((0:Int)).toNat) 0))))]) (.bool (!decide (Ey op (T.vals.getD (((0:Int)).toNat) 0)))) Z Z Ac (Ae 2 Z (A0 (A0 (Ad _ [0,0] Z ?_))))))
  have hvr:0≤(if Ey op (T.vals.getD (((0:Int)).toNat) 0)then 0 else HP op (T.vals.getD ((ks.getD 0 0).toNat) 0) (T.vals.getD (((0:Int)).toNat) 0))∧(if Ey op (T.vals.getD (((0:Int)).toNat) 0)then 0 else HP op (T.vals.getD ((ks.getD 0 0).toNat) 0) (T.vals.getD (((0:Int)).toNat) 0))<1000003:=Sc _ _ _
  refine Af 1 Z (Bn (!(!decide (Ey op (T.vals.getD (((0:Int)).toNat) 0)))) Z Z Ac (Ah ?_))
  cases ay:(!(!decide (Ey op (T.vals.getD (((0:Int)).toNat) 0))))
  ·refine Aj (by first|rfl|(show Value.bool _=_;rw[ay])) (A4 (A0 (Ad _ [0,2,0,4,0] Z (Af 1 Z (AR (p:=(.pointer (some ⟨w.heap.size,0,none⟩))) (.inr Z) [(.int .i64 op),(.int .i64 (ks.getD 0 0)),(.int .i64 (0:Int)),(.int .i64 (0:Int))] Ft Z (fun wq9 aj=>LD.of_box (BX.ext (w:=w32) a6 aj)) Z Ac (Af 1 Z ?_))))))
   refine B1 217 [] [] [(.pointer (some ⟨g,0,none⟩)),(.agg #[(.int .i64 op),(.int .i64 (ks.getD 0 0)),(.int .i64 (0:Int)),(.int .i64 (0:Int))]),(.int .i64 (if Ey op (T.vals.getD (((0:Int)).toNat) 0)then 0 else HP op (T.vals.getD ((ks.getD 0 0).toNat) 0) (T.vals.getD (((0:Int)).toNat) 0)))] Z Z SG Ac (CQ _ S g vp ip (s0) (c0) (T) (⟨op,ks.getD 0 0,(0:Int),(0:Int)⟩:AF) (if Ey op (T.vals.getD (((0:Int)).toNat) 0)then 0 else HP op (T.vals.getD ((ks.getD 0 0).toNat) 0) (T.vals.getD (((0:Int)).toNat) 0)) (fun b hb=>(ad.lt b hb:b<w32.heap.size)) (ad.sub _ hgS) ⟨_,_,_,ac,ax⟩ _hip (by exact hbd.ln hs0) ⟨_hop,am.2,(show BC ((0:Int))from by omega),(show BC ((0:Int))from by omega)⟩ (by have:=Ox op (T.vals.getD ((ks.getD 0 0).toNat) 0) (T.vals.getD (((0:Int)).toNat) 0);split <;> omega)) ?_
   rintro e36 w36 ⟨S36,rfl,a5,vc36,vg36,vv36,bc,bd⟩
   refine⟨_,rfl,?_⟩
   have br:w32.heap.size≤w36.heap.size:=a5.chg.size
   have cc:AE S w w36:=aw.stp a5.chg ad.new
   have cd:=a6.chg a5.chg (fun hm=>Ev)
   have be:w.heap.size∉S36:=fun hm=>(a5.new _ hm).elim (fun hm=>Ev) (fun h9=>by omega)
   have bf:=ad.trans a5
   have bs:(T.put (⟨op,ks.getD 0 0,(0:Int),(0:Int)⟩:AF) (if Ey op (T.vals.getD (((0:Int)).toNat) 0)then 0 else HP op (T.vals.getD ((ks.getD 0 0).toNat) 0) (T.vals.getD (((0:Int)).toNat) 0))).vals.length=T.vals.length+1:=Hr _ _ _
   have bt:(T.put (⟨op,ks.getD 0 0,(0:Int),(0:Int)⟩:AF) (if Ey op (T.vals.getD (((0:Int)).toNat) 0)then 0 else HP op (T.vals.getD ((ks.getD 0 0).toNat) 0) (T.vals.getD (((0:Int)).toNat) 0))).grd.length=T.grd.length:=rfl
   exact Ae 1 Z (A3 (Ag [6] Z (.int .i64 ((T.vals.length:Nat):Int)) Z ⟨((T.vals.length:Nat):Int),_,T.put (⟨op,ks.getD 0 0,(0:Int),(0:Int)⟩:AF) (if Ey op (T.vals.getD (((0:Int)).toNat) 0)then 0 else HP op (T.vals.getD ((ks.getD 0 0).toNat) 0) (T.vals.getD (((0:Int)).toNat) 0)),c0,rfl,bf,⟨_,_,_,bc,bd⟩,P4,oM,P3,oM,P0⟩))
  ·refine Ai (by first|rfl|(show Value.bool _=_;rw[ay])) (A0 (Ad _ [0,0,0,4] Z (Af 1 Z (Bw Z Ac (Ao (p:=(.pointer (some ⟨g,0,none⟩))) (b:=g) (o:=0) 7 FK Z Z Ac (Co (k:=7) (w:=w32) ID Z Z ⟨rfl,rfl⟩ ac sM Ac fun w43 ae ce al=>?_))))))
   replace al:BX w43.heap g [vp,(.int .i64 ip),rc0,rg0,(.slice none 0 0),rv0,(.int .i64 ((s0:Nat):Int)),(.int .i64 ((6:Nat):Int))]:=al
   have cf:AE S w w43:=aw.trans (ae.sub (Bg hgS))
   have bg:=CJ.chg ax ae
   have bh:=ad.set hgS ae
   have bu:w32.heap.size≤w43.heap.size:=ae.size
   have cg:=a6.chg ae (fun hm=>by have:=Ab hm;omega)
   exact Ah (A0 (Ad _ [0] Z (Ae 1 Z (A3 (Aq (Ag [6] Z (.int .i64 ((0:Nat):Int)) Z ⟨((0:Nat):Int),_,T,((6:Nat):Int),rfl,bh,⟨_,_,_,al,bg⟩,P4,oM,P3,oM,P0⟩))))))
theorem R9 (F d:Nat)(IH:∀d',d'<d→jF F d'):lH F d:=by
 intro w S g vp dp ip s0 c0 p T vl l vv env hS hgS hR0 hp hip hs0 hc0 hbd hl henv hqenv hvp hF hwf hdp hll hen
 exact IG w S F g vp dp ip s0 c0 p T d vl l vv env hS hgS hR0 hp hip hs0 hc0 hbd hl henv hqenv hvp hF hwf hdp hll hen IH
theorem EL {p:Prop}(h:p:=by first|exact Yk oM|exact Tr oM oM|exact cX hc00 hs1 oM|exact cY hc00 hs1 oM|exact cZ hc00 hs1 oM oM hL1 oM|exact dA hc00 hs1 oM oM hL1 oM (by assumption) hL2|exact dB hc00 hs1 oM oM hL1 oM (by assumption) hL2|exact dC hc00 hs1 oM oM hL1 hL2|exact UY hc00 hs1 hkg.1 hkg.2.1 hkg.2.2.1 hkg.2.2.2 hKr oM|exact Yl hc00 hs1 oM oM hKr oM hL2|exact Ym hc00 hs1 oM oM hKr oM (Yo hrl9 oM oM)|exact fh hc00 hs1 hkg.1 hkg.2.1 hkg.2.2.1 hkg.2.2.2 oM oM hKr oM hL2):p:=h
theorem EM {p:Prop}(h:p:=by first|(intro h9;exact absurd h9 oM)|assumption|(intro h9;omega)|(intro h9;have:=hkb9 h9;omega)):p:=h
theorem Hz {p:Prop}(h:p:=by first|assumption|exact hbd.up oM|exact KW.guard (by assumption) _ _ oM):p:=h
theorem EO {p:Prop}(h:p:=by first|assumption|exact hbd.put _ oM|exact KW.dn (by assumption) oM oM):p:=h
theorem II (w:World)(S:List Nat)(F:Nat)(g:Nat)(vp:Value)(dp:Nat)(ip:Int)(s0:Nat)(c0:Int)(p:List Fn)(T:Tp)(dex:Nat)(ve:Value)(ex:Ex)(vv:Value)(env:List Int)(hS:∀b∈S,b<w.heap.size)(hgS:g∈S)(hR0:TD 231 255 2 S g w.heap vp ip T s0 c0)(hp:RP S dp w.heap vp p)(_hip:BC ip)(hs0:s0≤3000)(hc0:0≤c0∧c0≤9)(hbd:KW T s0)(hex:RX S dex w.heap ve ex)(henv:RN S (B3 rI) w.heap vv env)(hqenv:CK vv)(hvp:Iz p)(hF:F≤p.length)(hwf:wf p ((F:Nat):Int) ex ((env.length:Nat):Int)=true)(hdp:env.length+ex.deep≤1000000)(hen:c0=0→Kx T env)(IH1:∀F',F'<F→∀d,jF F' d)(IH2:∀d',d'<dex→jF F d') :
  Calls Tryz.prog 244 #[.pointer (some ⟨g,0,none⟩),(.agg #[(.int .i64 ex.kind),(.int .i64 ex.num),(.int .i64 ex.pick),(.int .i64 ex.count),ve]),vv] w (fun e w'=>∃(r:Int) (S':List Nat) (T':Tp) (s1:Nat) (c1:Int),e=.returned (.int .i64 r)∧Gh S S' w w'∧TD 231 255 2 S' g w'.heap vp ip T' s1 c1∧Zq T T' s0 s1 c1∧(c1=0→0≤r∧r<((T'.vals.length:Nat):Int))∧(BC r)∧AT (go c0 (HG (L5 p F) ex env s0 T)) (r,T') s1 c1):=by
 refine At [.pointer (some ⟨g,0,none⟩),(.agg #[(.int .i64 ex.kind),(.int .i64 ex.num),(.int .i64 ex.pick),(.int .i64 ex.count),ve]),vv] 190 Tryz.func244 Z Z sM ?_
 have j4:AE S w w:=AE.refl S w
 have hl_vp:=hp.lenle
 unfold maxLen at hl_vp
 have hl_ve:=hex.rn.lenle
 unfold maxLen at hl_ve
 have hl_vv:=henv.lenL
 unfold maxLen at hl_vv
 obtain⟨rc0,rg0,rv0,g9,j5⟩:=hR0
 have hgl:=g9.lt
 have hG0:Gh S S w w:=Gh.refl hS
 have hdk:=EG ex
 refine A0 (Ad _ [3,0] Z ?_)
 have ky:=g9.lt
 refine Bx (cs:=#[(.int .i64 ex.kind),(.int .i64 ex.num),(.int .i64 ex.pick),(.int .i64 ex.count),ve]) Z Ac fun w1 d3 ka g0=>?_
 have ga:w.heap.size≤w1.heap.size:=d3.size
 have gb:AE S w w1:=j4.ext d3
 have ai:=g9.ext d3
 have g2:=CJ.ext j5 d3
 have g3:=hG0.ext d3
 replace g0:BX w1.heap w.heap.size [(.int .i64 ex.kind),(.int .i64 ex.num),(.int .i64 ex.pick),(.int .i64 ex.count),ve]:=g0
 refine Ae 1 Z (A0 (A0 (Ad _ [0,0,0,2,0] Z (Af 1 Z (Bw Z Ac (Ao (p:=(.pointer (some ⟨g,0,none⟩))) (b:=g) (o:=0) 7 FK Z Z Ac (Ak (p:=(Ay (.pointer (some ⟨g,0,none⟩)) 7)) (.inr Z) (.int .i64 c0) AH Z (ai.ldp (i:=7) sM) Ac ?_)))))))
 by_cases j6:c0≠((0:Nat):Int)
 ·refine AZ true Z Z (A7 j6) Ac (Ah (Ai Z (A0 (Ad _ [0] Z (Ae 1 Z (A3 (Aq ?_)))))))
  exact Ag [6] Z (.int .i64 ((0:Nat):Int)) Z ⟨((0:Nat):Int),_,T,s0,c0,rfl,g3,⟨_,_,_,ai,g2⟩,⟨EO,oM⟩,EM,oM,EL⟩
 ·refine AZ false Z Z (A8 j6) Ac (Ah (Aj Z (A4 (A0 (A0 (Ad _ [0,0,0,2,0] Z (Af 1 Z (Bw Z Ac (Ao (p:=(.pointer (some ⟨g,0,none⟩))) (b:=g) (o:=0) 6 OU Z Z Ac (Ak (p:=(Ay (.pointer (some ⟨g,0,none⟩)) 6)) (.inr Z) (.int .i64 ((s0:Nat):Int)) AH Z (ai.ldp (i:=6) sM) Ac ?_))))))))))
  by_cases j7:((s0:Nat):Int)=((3000:Nat):Int)
  ·refine AA true Z Z (A7 j7) Ac (Ah (Ai Z (A0 (Ad _ [0,0,0,4] Z (Af 1 Z (Bw Z Ac (Ao (p:=(.pointer (some ⟨g,0,none⟩))) (b:=g) (o:=0) 7 FK Z Z Ac (Co (k:=7) (w:=w1) ID Z Z ⟨rfl,rfl⟩ ai sM Ac fun w6 d4 kz gc=>?_))))))))
   replace gc:BX w6.heap g [vp,(.int .i64 ip),rc0,rg0,(.slice none 0 0),rv0,(.int .i64 ((s0:Nat):Int)),(.int .i64 ((7:Nat):Int))]:=gc
   have l0:AE S w w6:=gb.trans (d4.sub (Bg hgS))
   have kb:=CJ.chg g2 d4
   have kc:=g3.set hgS d4
   have kd:w1.heap.size≤w6.heap.size:=d4.size
   have ke:=g0.chg d4 (fun hm=>by have:=Ab hm;omega)
   refine Ah (A0 (Ad _ [0] Z (Ae 1 Z (A3 (Aq ?_)))))
   exact Ag [6] Z (.int .i64 ((0:Nat):Int)) Z ⟨((0:Nat):Int),_,T,s0,((7:Nat):Int),rfl,kc,⟨_,_,_,gc,kb⟩,⟨EO,oM⟩,EM,oM,EL⟩
  ·refine AA false Z Z (A8 j7) Ac (Ah (Aj Z (A4 (A0 (Ad _ [0,0,0,2,0,0,0,4] Z (Af 1 Z (Bw Z Ac (Ao (p:=(.pointer (some ⟨g,0,none⟩))) (b:=g) (o:=0) 6 OU Z Z Ac (Ak (p:=(Ay (.pointer (some ⟨g,0,none⟩)) 6)) (.inr Z) (.int .i64 ((s0:Nat):Int)) AH Z (ai.ldp (i:=6) sM) Ac (AI ((s0+1:Nat):Int) Z Z (B8 oM oM) Ac (Bw Z Ac (Ao (p:=(.pointer (some ⟨g,0,none⟩))) (b:=g) (o:=0) 6 OU Z Z Ac (Co (k:=6) (w:=w1) ID Z Z ⟨rfl,rfl⟩ ai sM Ac fun w11 b0 gd aw=>?_)))))))))))))
   replace aw:BX w11.heap g [vp,(.int .i64 ip),rc0,rg0,(.slice none 0 0),rv0,(.int .i64 ((s0+1:Nat):Int)),(.int .i64 c0)]:=aw
   have a4:AE S w w11:=gb.trans (b0.sub (Bg hgS))
   have b1:=CJ.chg g2 b0
   have a0:=g3.set hgS b0
   have d5:w1.heap.size≤w11.heap.size:=b0.size
   have ac:=g0.chg b0 (fun hm=>by have:=Ab hm;omega)
   refine Ah (A0 (A0 (Ad _ [0,2] Z ?_)))
   have hc00:c0=0:=by omega
   have hs1:s0+1≤3000:=by omega
   have ax:=hen hc00
   have kf:=hbd.up (s':=s0+1) oM
   have hbn:=hbd.2
   refine Ao (p:=(.pointer (some ⟨w.heap.size,0,none⟩))) (b:=w.heap.size) (o:=0) 0 C5 Z Z Ac (Ak (p:=(Ay (.pointer (some ⟨w.heap.size,0,none⟩)) 0)) (.inr Z) (.int .i64 ex.kind) AH Z (ac.ldp (i:=0) sM) Ac (Ah (A5 (A0 (Ad _ [0,0] Z ?_)))))
   by_cases d6:ex.kind=((1:Nat):Int)
   ·refine AA true Z Z (A7 d6) Ac (Ae 1 Z (Ai Z (A0 (Ad _ [0,0,2,0,0,2,4,0] Z ?_))))
    have hwk:=UM hwf oM
    refine Af 1 Z (Ao (p:=(.pointer (some ⟨w.heap.size,0,none⟩))) (b:=w.heap.size) (o:=0) 1 BT Z Z Ac (Ak (p:=(Ay (.pointer (some ⟨w.heap.size,0,none⟩)) 1)) (.inr Z) (.int .i64 ex.num) AH Z (ac.ldp (i:=1) sM) Ac ?_))
    have d7:∀(wq:World),(Instr.build 231 #[(0,(.int .i64 ((2:Nat):Int))),(3,(.int .i64 ex.num))]).run Tryz.prog wq=.ok (.agg #[(.int .i64 ((2:Nat):Int)),(.int .i64 0),(.int .i64 0),(.int .i64 ex.num)]) wq:=by intro wq;kernel_rfl
    refine ER (ps:=#[(0,(.int .i64 ((2:Nat):Int))),(3,(.int .i64 ex.num))]) (.agg #[(.int .i64 ((2:Nat):Int)),(.int .i64 0),(.int .i64 0),(.int .i64 ex.num)]) (by simp only[List.map_toArray,List.map_cons,List.map_nil];rfl) (fun wq=>d7  wq) Ac (Ao (p:=(.pointer (some ⟨w.heap.size,0,none⟩))) (b:=w.heap.size) (o:=0) 1 BT Z Z Ac (Ak (p:=(Ay (.pointer (some ⟨w.heap.size,0,none⟩)) 1)) (.inr Z) (.int .i64 ex.num) AH Z (ac.ldp (i:=1) sM) Ac ?_))
    refine B1 217 [] [] [(.pointer (some ⟨g,0,none⟩)),(.agg #[(.int .i64 ((2:Nat):Int)),(.int .i64 (0:Int)),(.int .i64 (0:Int)),(.int .i64 ex.num)]),(.int .i64 ex.num)] Z Z SG Ac (CQ _ S g vp ip (s0+1) (c0) (T) (⟨((2:Nat):Int),(0:Int),(0:Int),ex.num⟩:AF) (ex.num) (fun b hb=>(a0.lt b hb:b<w11.heap.size)) (a0.sub _ hgS) ⟨_,_,_,aw,b1⟩ _hip (by exact KW.ln (by assumption) oM) ⟨(show BC (((2:Nat):Int))from by omega),(show BC ((0:Int))from by omega),(show BC ((0:Int))from by omega),hex.rng.num⟩ hex.rng.num) ?_
    rintro e18 w18 ⟨S18,rfl,an,vc18,vg18,vv18,ge,gf⟩
    refine⟨_,rfl,?_⟩
    have j8:w11.heap.size≤w18.heap.size:=an.chg.size
    have kg:AE S w w18:=a4.stp an.chg a0.new
    have kh:=ac.chg an.chg (fun hm=>Ev)
    have gg:w.heap.size∉S18:=fun hm=>(an.new _ hm).elim (fun hm=>Ev) (fun h9=>by omega)
    have gh:=a0.trans an
    have j9:(T.put (⟨((2:Nat):Int),(0:Int),(0:Int),ex.num⟩:AF) (ex.num)).vals.length=T.vals.length+1:=Hr _ _ _
    have ja:(T.put (⟨((2:Nat):Int),(0:Int),(0:Int),ex.num⟩:AF) (ex.num)).grd.length=T.grd.length:=rfl
    refine Ae 1 Z (A3 (AL (Aq ?_)))
    exact Ag [6] Z (.int .i64 ((T.vals.length:Nat):Int)) Z ⟨((T.vals.length:Nat):Int),_,T.put (⟨((2:Nat):Int),(0:Int),(0:Int),ex.num⟩:AF) (ex.num),s0+1,c0,rfl,gh,⟨_,_,_,ge,gf⟩,⟨EO,oM⟩,EM,oM,EL⟩
   ·refine AA false Z Z (A8 d6) Ac (Ae 1 Z (Aj Z (A0 (Ad _ [0,0] Z ?_))))
    by_cases d8:ex.kind=((2:Nat):Int)
    ·refine AA true Z Z (A7 d8) Ac (Ae 1 Z (Ai Z (A0 (Ad _ [0,0,2,0,2,0] Z ?_))))
     have hwk:=UN hwf oM
     have hRv:=ax ex.num.toNat oM
     refine Af 1 Z (Ao (p:=(.pointer (some ⟨w.heap.size,0,none⟩))) (b:=w.heap.size) (o:=0) 1 BT Z Z Ac (Ak (p:=(Ay (.pointer (some ⟨w.heap.size,0,none⟩)) 1)) (.inr Z) (.int .i64 ex.num) AH Z (ac.ldp (i:=1) sM) Ac (Au (v:=vv) ((ex.num).toNat) Bh BA Z Z henv.slL oM oM Ac ?_)))
     have da:=RN.getI (w:=w) (k:=(ex.num).toNat) henv oM
     refine Ak (p:=Aw vv ((ex.num).toNat) 1) (.inr Z) (.int .i64 (env.getD ((ex.num).toNat) 0)) AH Z (da.1 _ a4) Ac (Ae 1 Z (A3 (AL (Aq ?_))))
     exact Ag [6] Z (.int .i64 (env.getD ((ex.num).toNat) 0)) Z ⟨env.getD ((ex.num).toNat) 0,_,T,s0+1,c0,rfl,a0,⟨_,_,_,aw,b1⟩,⟨EO,oM⟩,EM,(by exact da.2),EL⟩
    ·refine AA false Z Z (A8 d8) Ac (Ae 1 Z (Aj Z (A0 (Ad _ [0,0] Z ?_))))
     by_cases db:ex.kind=((8:Nat):Int)
     ·refine AA true Z Z (A7 db) Ac (Ae 1 Z (Ai Z (A0 (Ad _ [0,0,2,0,2,0,4,0] Z ?_))))
      have hwk:=Zk hwf oM
      refine Af 1 Z (Ao (p:=(.pointer (some ⟨w.heap.size,0,none⟩))) (b:=w.heap.size) (o:=0) 4 Bo Z Z Ac (Ak (p:=(Ay (.pointer (some ⟨w.heap.size,0,none⟩)) 4)) (.inr Z) ve Bp Z (ac.ldp (i:=4) sM) Ac (Au (v:=ve) 0 DK BB Z Z hex.rn.isSl Z sD Ac ?_)))
      obtain⟨cs28,gi,gj⟩:=hex.rn.get (AC dex) Ex.zero (k:=0) sD
      obtain⟨dd28,cc,ki,rfl,cd⟩:=RX.of gi
      have dc:=cd.rn.lenle
      unfold maxLen at dc
      refine AR (p:=Aw ve 0 5) (.inr Z) [(.int .i64 ((ex.kids.getD 0 Ex.zero).kind)),(.int .i64 ((ex.kids.getD 0 Ex.zero).num)),(.int .i64 ((ex.kids.getD 0 Ex.zero).pick)),(.int .i64 ((ex.kids.getD 0 Ex.zero).count)),cc] BS Z (fun wq9 ce=>gj wq9 (a4.ext ce)) Z Ac (Af 1 Z ?_)
      refine B1 244 [] [] [(.pointer (some ⟨g,0,none⟩)),(.agg #[(.int .i64 ((ex.kids.getD 0 Ex.zero).kind)),(.int .i64 ((ex.kids.getD 0 Ex.zero).num)),(.int .i64 ((ex.kids.getD 0 Ex.zero).pick)),(.int .i64 ((ex.kids.getD 0 Ex.zero).count)),cc]),vv] Z Z Mw Ac (IH2 dd28 oM _ S g vp dp ip (s0+1) (c0) p (T) cc (ex.kids.getD 0 Ex.zero) vv (env) (fun b hb=>(a0.lt b hb:b<w11.heap.size)) (a0.sub _ hgS) ⟨_,_,_,aw,b1⟩ (RN.stp (Am (AB dp)) hp a4 a0.new) _hip oM oM Hz ⟨cd.rng,(RN.stp (Am (AC dd28)) cd.rn a4 a0.new)⟩ (RN.stp g1 henv a4 a0.new) hqenv (by exact hvp) oM (by exact GC hwf oM oM) (by have:=Fz (l:=ex.kids) (k:=0) oM;omega) (by exact fun _=>ax)) ?_
      rintro e29 w29 ⟨r29,S29,T29,s29,c29,rfl,ao,⟨vc29,vg29,vv29,b4,b5⟩,dd,de,df,dg⟩
      refine⟨_,rfl,?_⟩
      have jb:w11.heap.size≤w29.heap.size:=ao.chg.size
      have dh:AE S w w29:=a4.stp ao.chg a0.new
      have di:=ac.chg ao.chg (fun hm=>Ev)
      have b6:w.heap.size∉S29:=fun hm=>(ao.new _ hm).elim (fun hm=>Ev) (fun h9=>by omega)
      have bi:=a0.trans ao
      have jc:=dd.bnd
      have jd:=dd.num
      have gk:=de
      have hL1:=dg
      refine Ae 1 Z (A0 (A0 (Ad _ [0,0,0,2,0] Z (Af 1 Z (Bw Z Ac (Ao (p:=(.pointer (some ⟨g,0,none⟩))) (b:=g) (o:=0) 7 FK Z Z Ac (Ak (p:=(Ay (.pointer (some ⟨g,0,none⟩)) 7)) (.inr Z) (.int .i64 c29) AH Z (b4.ldp (i:=7) sM) Ac ?_)))))))
      by_cases dj:c29≠((0:Nat):Int)
      ·refine AZ true Z Z (A7 dj) Ac (Ah (Ai Z (A0 (Ad _ [0] Z (Ae 1 Z (A3 (Aq (AL (Aq ?_)))))))))
       exact Ag [6] Z (.int .i64 ((0:Nat):Int)) Z ⟨((0:Nat):Int),_,T29,s29,c29,rfl,bi,⟨_,_,_,b4,b5⟩,⟨EO,oM⟩,EM,oM,EL⟩
      ·refine AZ false Z Z (A8 dj) Ac (Ah (Aj Z (A4 (A0 (Ad _ [0,0,0,2,0,0,2,0,0] Z ?_)))))
       have hR1c:=gk oM
       refine Af 1 Z (Bw Z Ac (Ao (p:=(.pointer (some ⟨g,0,none⟩))) (b:=g) (o:=0) 5 E2 Z Z Ac (Ak (p:=(Ay (.pointer (some ⟨g,0,none⟩)) 5)) (.inr Z) vv29 B6 Z (b4.ldp (i:=5) sM) Ac (Af 1 Z (Au (v:=vv29) ((r29).toNat) Bh BA Z Z (CJ.slv b5) oM oM Ac (Ak (p:=Aw vv29 ((r29).toNat) 1) (.inr Z) (.int .i64 (T29.vals.getD ((r29).toNat) 0)) AH Z ((CJ.rdv b5).getI oM).1 Ac (AA (decide (T29.vals.getD ((r29).toNat) 0=((0:Nat):Int))) Z Z Z Ac (Ae 1 Z (A0 ?_)))))))))
       obtain⟨Fc38,Fg38,Fv38,b7,dk,b8,ap,az,dl,bt,dm⟩:=id b5
       refine Ad _ [0,0,0,0,0,2,0,0,0,3,4,0,0,0,4] Z (Af 2 Z (Bw Z Ac (Ao (p:=(.pointer (some ⟨g,0,none⟩))) (b:=g) (o:=0) 1 Gy Z Z Ac (Ao (p:=(Ay (.pointer (some ⟨g,0,none⟩)) 1)) (b:=g) (o:=1) 2 SP Z Z Ac (Ak (p:=(Ay (Ay (.pointer (some ⟨g,0,none⟩)) 1) 2)) (.inr Z) vg29 eK Z (b4.ldp (i:=3) sM) Ac (Af 2 Z ?_))))))
       have dn:∀(wq:World),(Instr.build 255 #[(0,(.int .i64 r29)),(1,(.bool (decide (T29.vals.getD ((r29).toNat) 0=((0:Nat):Int)))))]).run Tryz.prog wq=.ok (.agg #[(.int .i64 r29),(.bool (decide (T29.vals.getD ((r29).toNat) 0=((0:Nat):Int))))]) wq:=by intro wq;kernel_rfl
       refine ER (ps:=#[(0,(.int .i64 r29)),(1,(.bool (decide (T29.vals.getD ((r29).toNat) 0=((0:Nat):Int)))))]) (.agg #[(.int .i64 r29),(.bool (decide (T29.vals.getD ((r29).toNat) 0=((0:Nat):Int))))]) (by simp only[List.map_toArray,List.map_cons,List.map_nil];rfl) (fun wq=>dn  wq) Ac (Qu (cs:=[(.int .i64 r29),(.bool (decide (T29.vals.getD ((r29).toNat) 0=((0:Nat):Int))))]) (y:=(⟨r29,decide (T29.vals.getD ((r29).toNat) 0=((0:Nat):Int))⟩:QH)) (B:=w29.heap.size) AW iV Xm Z (by decide) Z (cW (x:=(⟨r29,decide (T29.vals.getD ((r29).toNat) 0=((0:Nat):Int))⟩:QH)) (B:=w29.heap.size) (U:=w29.heap.size) df) (A9 _) Ac fun v40 w40 a7 kj gl=>?_)
       have je:w29.heap.size≤w40.heap.size:=a7.size
       have kk:AE S w w40:=dh.ext a7
       have bj:=b4.ext a7
       have g4:=di.ext a7
       have kl:=(CJ.rdv b5).ext g1 a7
       have gm:=bi.ext a7
       have hOc38x:=b7.ext (Av AO) a7
       have hOg38x:=dk.ext (Av AW) a7
       have hOv38x:=b8.ext (B9 AQ) a7
       refine Ou (v:=vg29) (a:=v40) AW iV Xm Z (by decide) Z Z hOg38x gl (A9 _) (Nat.zero_le _) (Nat.zero_le _) oM (by unfold maxLen;omega) Ac fun v42 w42 F42 b9 dq bk=>?_
       have dr:w40.heap.size≤w42.heap.size:=b9.size
       obtain⟨S42,bu⟩:∃l:List Nat,l=F42++S29:=⟨_,rfl⟩
       have aq:Gh S29 S42 w29 w42:=by rw[bu];exact⟨fun b hb=>List.mem_append_right _ hb,fun b hb=>by rcases List.mem_append.1 hb with hb|hb;(rcases bk b hb with h9|h9|h9;exact .inl (bt b h9);(have:=a7.size;omega);(have:=a7.size;omega));exact .inl hb,fun b hb=>by rcases List.mem_append.1 hb with hb|hb;exact dq.high b hb;(have:=gm.lt b hb;omega),(AE.of_ext _ a7).trans (b9.sub bt)⟩
       have ds:CJ 231 255 2 S42 g w42.heap vc29 v42 vv29 (T29.guard (r29) (decide (T29.vals.getD ((r29).toNat) 0=((0:Nat):Int)))):=⟨Fc38,F42,Fv38,(hOc38x.up a7.size).chgS (Av AO) b9 (fun b hb hm=>ap.1 b hm hb),dq,(hOv38x.up a7.size).chgS (B9 AQ) b9 (fun b hb hm=>ap.2.2 b hb hm),⟨fun b hb hm=>by rcases bk b hm with h9|h9|h9;exact ap.1 b hb h9;(have:=b7.high b hb;omega);(have:=b7.high b hb;have:=a7.size;omega),ap.2.1,fun b hm hb=>by rcases bk b hm with h9|h9|h9;exact ap.2.2 b h9 hb;(have:=b8.high b hb;omega);(have:=b8.high b hb;have:=a7.size;omega)⟩,⟨az.1,fun hm=>by rcases bk g hm with h9|h9|h9;exact az.2.1 h9;omega;omega,az.2.2⟩,by rw[bu];exact⟨fun b hb=>List.mem_append_right _ (dl b hb),fun b hb=>List.mem_append_left _ hb,fun b hb=>List.mem_append_right _ (dm b hb)⟩⟩
       have gn:=bj.chg b9 az.2.1
       have dr:w29.heap.size≤w42.heap.size:=aq.chg.size
       have gp:AE S w w42:=dh.stp aq.chg bi.new
       have gq:=di.chg aq.chg (fun hm=>b6 hm)
       have al:w.heap.size∉S42:=fun hm=>(aq.new _ hm).elim (fun hm=>b6 hm) (fun h9=>by omega)
       have gr:=bi.trans aq
       have jf:(T29.guard (r29) (decide (T29.vals.getD ((r29).toNat) 0=((0:Nat):Int)))).vals.length=T29.vals.length:=rfl
       have jg:(T29.guard (r29) (decide (T29.vals.getD ((r29).toNat) 0=((0:Nat):Int)))).grd.length=T29.grd.length+1:=PO _ _ _
       refine Bw Z Ac (Ao (p:=(.pointer (some ⟨g,0,none⟩))) (b:=g) (o:=0) 1 Gy Z Z Ac (Ao (p:=(Ay (.pointer (some ⟨g,0,none⟩)) 1)) (b:=g) (o:=1) 2 SP Z Z Ac (Co (k:=3) (w:=w42) iU Z Z (BQ ds.slg) gn sM Ac fun w51 ba km bl=>?_)))
       replace bl:BX w51.heap g [vp,(.int .i64 ip),vc29,v42,(.slice none 0 0),vv29,(.int .i64 ((s29:Nat):Int)),(.int .i64 c29)]:=bl
       have ah:AE S w w51:=gp.trans (ba.sub (Bg hgS))
       have dt:=CJ.chg ds ba
       have aa:=gr.set hgS ba
       have jh:w42.heap.size≤w51.heap.size:=ba.size
       have bm:=gq.chg ba (fun hm=>by have:=Ab hm;omega)
       refine Ah (A0 (A0 (Ad _ [0] Z (Ae 1 Z ?_))))
       cases bn:(decide (T29.vals.getD ((r29).toNat) 0=((0:Nat):Int)))
       ·have ji:=of_decide_eq_false bn
        refine Aj (by first|rfl|(show Value.bool _=_;rw[bn])) (A4 (A0 (Ad _ [0,0,2,0,2,0,4,0] Z (Af 1 Z (Ao (p:=(.pointer (some ⟨w.heap.size,0,none⟩))) (b:=w.heap.size) (o:=0) 4 Bo Z Z Ac (Ak (p:=(Ay (.pointer (some ⟨w.heap.size,0,none⟩)) 4)) (.inr Z) ve Bp Z (bm.ldp (i:=4) sM) Ac (Au (v:=ve) 2 DK BB Z Z hex.rn.isSl Z sD Ac ?_)))))))
        obtain⟨cs60,gs,gt⟩:=hex.rn.get (AC dex) Ex.zero (k:=2) sD
        obtain⟨dd60,cf,kn,rfl,cg⟩:=RX.of gs
        have du:=cg.rn.lenle
        unfold maxLen at du
        refine AR (p:=Aw ve 2 5) (.inr Z) [(.int .i64 ((ex.kids.getD 2 Ex.zero).kind)),(.int .i64 ((ex.kids.getD 2 Ex.zero).num)),(.int .i64 ((ex.kids.getD 2 Ex.zero).pick)),(.int .i64 ((ex.kids.getD 2 Ex.zero).count)),cf] BS Z (fun wq9 ce=>gt wq9 (ah.ext ce)) Z Ac (Af 1 Z ?_)
        refine B1 244 [] [] [(.pointer (some ⟨g,0,none⟩)),(.agg #[(.int .i64 ((ex.kids.getD 2 Ex.zero).kind)),(.int .i64 ((ex.kids.getD 2 Ex.zero).num)),(.int .i64 ((ex.kids.getD 2 Ex.zero).pick)),(.int .i64 ((ex.kids.getD 2 Ex.zero).count)),cf]),vv] Z Z Mw Ac (IH2 dd60 oM _ S42 g vp dp ip (s29) (c29) p (T29.guard (r29) (decide (T29.vals.getD ((r29).toNat) 0=((0:Nat):Int)))) cf (ex.kids.getD 2 Ex.zero) vv (env) (fun b hb=>(aa.lt b hb:b<w51.heap.size)) (aa.sub _ hgS) ⟨_,_,_,bl,dt⟩ (RN.stp (Am (AB dp)) hp ah aa.new) _hip oM oM Hz ⟨cg.rng,(RN.stp (Am (AC dd60)) cg.rn ah aa.new)⟩ (RN.stp g1 henv ah aa.new) hqenv (by exact hvp) oM (by exact GC hwf oM oM) (by have:=Fz (l:=ex.kids) (k:=2) oM;omega) (by exact fun _=>ax.mono (by simp only[PN];omega))) ?_
        rintro e61 w61 ⟨r61,S61,T61,s61,c61,rfl,ar,⟨vc61,vg61,vv61,gu,gv⟩,dv,dw,dx,dy⟩
        refine⟨_,rfl,?_⟩
        have jj:w51.heap.size≤w61.heap.size:=ar.chg.size
        have ko:AE S w w61:=ah.stp ar.chg aa.new
        have kp:=bm.chg ar.chg (fun hm=>al hm)
        have gw:w.heap.size∉S61:=fun hm=>(ar.new _ hm).elim (fun hm=>al hm) (fun h9=>by omega)
        have gx:=aa.trans ar
        have jk:=dv.bnd
        have jl:=dv.num
        have hRv:=dw
        have hL2:=dy
        refine Ae 1 Z (A3 (AL (Aq ?_)))
        exact Ag [6] Z (.int .i64 r61) Z ⟨r61,_,T61,s61,c61,rfl,gx,⟨_,_,_,gu,gv⟩,⟨EO,oM⟩,EM,(by exact dx),EL⟩
       ·have jm:=of_decide_eq_true bn
        refine Ai (by first|rfl|(show Value.bool _=_;rw[bn])) (A0 (Ad _ [0,0,2,0,2,0,4,0] Z (Af 1 Z (Ao (p:=(.pointer (some ⟨w.heap.size,0,none⟩))) (b:=w.heap.size) (o:=0) 4 Bo Z Z Ac (Ak (p:=(Ay (.pointer (some ⟨w.heap.size,0,none⟩)) 4)) (.inr Z) ve Bp Z (bm.ldp (i:=4) sM) Ac (Au (v:=ve) 1 DK BB Z Z hex.rn.isSl Z sD Ac ?_))))))
        obtain⟨cs72,gy,gz⟩:=hex.rn.get (AC dex) Ex.zero (k:=1) sD
        obtain⟨dd72,ch,kq,rfl,ci⟩:=RX.of gy
        have dz:=ci.rn.lenle
        unfold maxLen at dz
        refine AR (p:=Aw ve 1 5) (.inr Z) [(.int .i64 ((ex.kids.getD 1 Ex.zero).kind)),(.int .i64 ((ex.kids.getD 1 Ex.zero).num)),(.int .i64 ((ex.kids.getD 1 Ex.zero).pick)),(.int .i64 ((ex.kids.getD 1 Ex.zero).count)),ch] BS Z (fun wq9 ce=>gz wq9 (ah.ext ce)) Z Ac (Af 1 Z ?_)
        refine B1 244 [] [] [(.pointer (some ⟨g,0,none⟩)),(.agg #[(.int .i64 ((ex.kids.getD 1 Ex.zero).kind)),(.int .i64 ((ex.kids.getD 1 Ex.zero).num)),(.int .i64 ((ex.kids.getD 1 Ex.zero).pick)),(.int .i64 ((ex.kids.getD 1 Ex.zero).count)),ch]),vv] Z Z Mw Ac (IH2 dd72 oM _ S42 g vp dp ip (s29) (c29) p (T29.guard (r29) (decide (T29.vals.getD ((r29).toNat) 0=((0:Nat):Int)))) ch (ex.kids.getD 1 Ex.zero) vv (env) (fun b hb=>(aa.lt b hb:b<w51.heap.size)) (aa.sub _ hgS) ⟨_,_,_,bl,dt⟩ (RN.stp (Am (AB dp)) hp ah aa.new) _hip oM oM Hz ⟨ci.rng,(RN.stp (Am (AC dd72)) ci.rn ah aa.new)⟩ (RN.stp g1 henv ah aa.new) hqenv (by exact hvp) oM (by exact GC hwf oM oM) (by have:=Fz (l:=ex.kids) (k:=1) oM;omega) (by exact fun _=>ax.mono (by simp only[PN];omega))) ?_
        rintro e73 w73 ⟨r73,S73,T73,s73,c73,rfl,au,⟨vc73,vg73,vv73,i0,i1⟩,e0,e1,e2,e3⟩
        refine⟨_,rfl,?_⟩
        have jn:w51.heap.size≤w73.heap.size:=au.chg.size
        have kr:AE S w w73:=ah.stp au.chg aa.new
        have kt:=bm.chg au.chg (fun hm=>al hm)
        have i2:w.heap.size∉S73:=fun hm=>(au.new _ hm).elim (fun hm=>al hm) (fun h9=>by omega)
        have i3:=aa.trans au
        have jo:=e0.bnd
        have jp:=e0.num
        have hRv:=e1
        have hL2:=e3
        refine Ae 1 Z (A3 (Aq (AL (Aq ?_))))
        exact Ag [6] Z (.int .i64 r73) Z ⟨r73,_,T73,s73,c73,rfl,i3,⟨_,_,_,i0,i1⟩,⟨EO,oM⟩,EM,(by exact e2),EL⟩
     ·refine AA false Z Z (A8 db) Ac (Ae 1 Z (Aj Z (A0 (Ad _ [0,0] Z ?_))))
      by_cases e4:ex.kind=((9:Nat):Int)
      ·refine AA true Z Z (A7 e4) Ac (Ae 1 Z (Ai Z (A0 ?_)))
       letI:JR:=f9 S
       refine Jx.AY _ [0,0,1,0,1,0,0,0,0,1,0,1,0,3,3,3,4,0] mixed (by kernel_rfl) ?_
       have hwk:=UO hwf oM
       refine Jx.bF (.pointer (some ⟨g,0,none⟩)) Z Ac (Jx.Ao (p:=(.pointer (some ⟨w.heap.size,0,none⟩))) (b:=w.heap.size) (o:=0) 4 Bo Z Z Ac (Jx.jQ (p:=(Ay (.pointer (some ⟨w.heap.size,0,none⟩)) 4)) ve Bp Z (fun wj hj=>(BX.chg (w:=w11.drew) (F:=S) ac hj (fun hm=>by have:=hS _ hm;omega)).ldp (i:=4) sM) Ac (Jx.Au (v:=ve) 1 DK BB Z Z hex.rn.isSl Z sD Ac ?_)))
       obtain⟨cs84,i4,i5⟩:=hex.rn.get (AC dex) Ex.zero (k:=1) sD
       obtain⟨dd84,cj,ku,rfl,ck⟩:=RX.of i4
       have e5:=ck.rn.lenle
       unfold maxLen at e5
       refine Jx.fa (p:=Aw ve 1 5) [(.int .i64 ((ex.kids.getD 1 Ex.zero).kind)),(.int .i64 ((ex.kids.getD 1 Ex.zero).num)),(.int .i64 ((ex.kids.getD 1 Ex.zero).pick)),(.int .i64 ((ex.kids.getD 1 Ex.zero).count)),cj] BS Z (fun wj hj=>i5 wj (AE.trans a4.drew (show AE S w11.drew wj from hj))) Z Ac (Jx.bF vv Z Ac (Jx.AD 250 [] [] [vv] Z Z iO Ac (Jz vv) (fun wq=>Fy wq vv _ henv.slL hqenv) (Jx.bF (.pointer (some ⟨g,0,none⟩)) Z Ac (Jx.Ao (p:=(.pointer (some ⟨w.heap.size,0,none⟩))) (b:=w.heap.size) (o:=0) 4 Bo Z Z Ac (Jx.jQ (p:=(Ay (.pointer (some ⟨w.heap.size,0,none⟩)) 4)) ve Bp Z (fun wj hj=>(BX.chg (w:=w11.drew) (F:=S) ac hj (fun hm=>by have:=hS _ hm;omega)).ldp (i:=4) sM) Ac ?_)))))
       refine Jx.Au (v:=ve) 0 DK BB Z Z hex.rn.isSl Z sD Ac ?_
       obtain⟨cs85,i6,i7⟩:=hex.rn.get (AC dex) Ex.zero (k:=0) sD
       obtain⟨dd85,cl,kv,rfl,cm⟩:=RX.of i6
       have e6:=cm.rn.lenle
       unfold maxLen at e6
       refine Jx.fa (p:=Aw ve 0 5) [(.int .i64 ((ex.kids.getD 0 Ex.zero).kind)),(.int .i64 ((ex.kids.getD 0 Ex.zero).num)),(.int .i64 ((ex.kids.getD 0 Ex.zero).pick)),(.int .i64 ((ex.kids.getD 0 Ex.zero).count)),cl] BS Z (fun wj hj=>i7 wj (AE.trans a4.drew (show AE S w11.drew wj from hj))) Z Ac (Jx.bF vv Z Ac ?_)
       refine Jx.Ap 244 [] [] [(.pointer (some ⟨g,0,none⟩)),(.agg #[(.int .i64 ((ex.kids.getD 0 Ex.zero).kind)),(.int .i64 ((ex.kids.getD 0 Ex.zero).num)),(.int .i64 ((ex.kids.getD 0 Ex.zero).pick)),(.int .i64 ((ex.kids.getD 0 Ex.zero).count)),cl]),vv] Z Z Mw Ac (IH2 dd85 oM _ S g vp dp ip (s0+1) (c0) p (T) cl (ex.kids.getD 0 Ex.zero) vv (env) (fun b hb=>(a0.drew.lt b hb:b<w11.heap.size)) (a0.drew.sub _ hgS) ⟨_,_,_,aw,b1⟩ (RN.stp (Am (AB dp)) hp a4.drew a0.drew.new) _hip oM oM Hz ⟨cm.rng,(RN.stp (Am (AC dd85)) cm.rn a4.drew a0.drew.new)⟩ (RN.stp g1 henv a4.drew a0.drew.new) hqenv (by exact hvp) oM (by exact GC hwf oM oM) (by have:=Fz (l:=ex.kids) (k:=0) oM;omega) (by exact fun _=>ax)) ?_
       rintro e86 w86 ⟨r86,S86,T86,s86,c86,rfl,ad,⟨vc86,vg86,vv86,i8,i9⟩,e7,e8,e9,ea⟩
       refine⟨_,rfl,ad.chg,?_⟩
       replace ad:=ad.of_drew
       have jq:w11.heap.size≤w86.heap.size:=ad.chg.size
       have ia:AE S w w86:=a4.stp ad.chg a0.new
       have ib:=ac.chg ad.chg (fun hm=>Ev)
       have bb:w.heap.size∉S86:=fun hm=>(ad.new _ hm).elim (fun hm=>Ev) (fun h9=>by omega)
       have ic:=a0.trans ad
       have jr:=e7.bnd
       have js:=e7.num
       have gk:=e8
       have hL1:=ea
       refine Jx.kA (Bq (u:=(.int .i64 r86)) (B:=w86.heap.size) Bd Bh BA Z Z (Nz w86.heap.size w86.heap.size _ ⟨rfl,rfl⟩) (A9 _) Ac ?_)
       intro v95 w95 b2 kw ie
       refine Ah ?_
       have jt:w86.heap.size≤w95.heap.size:=b2.size
       have eb:AE S w w95:=ia.ext b2
       have bo:=i8.ext b2
       have bp:=ib.ext b2
       have ig:=CJ.ext i9 b2
       have cn:=ic.ext b2
       refine Jx.lC (Yj (v:=vv) (a:=v95) (u:=.int .i64 (r86)) (r:=r86) Bh BA Z Z Z (RN.stp g1 henv eb cn.new) ie ⟨[],⟨rfl,rfl,e9⟩,fun b hb=>by cases hb⟩ (fun b hb=>(cn.lt b hb:b<w95.heap.size)) oM (by unfold maxLen;omega) Ac ?_)
       intro v97 w97 ay ec ed
       refine Ah ⟨JR.ext ay,?_⟩
       have ju:w95.heap.size≤w97.heap.size:=ay.size
       have co:AE S w w97:=eb.ext ay
       have bq:=bo.ext ay
       have br:=bp.ext ay
       have ih:=CJ.ext ig ay
       have b3:=cn.ext ay
       refine Jx.Yg Z ?_
       refine B1 244 [] [] [(.pointer (some ⟨g,0,none⟩)),(.agg #[(.int .i64 ((ex.kids.getD 1 Ex.zero).kind)),(.int .i64 ((ex.kids.getD 1 Ex.zero).num)),(.int .i64 ((ex.kids.getD 1 Ex.zero).pick)),(.int .i64 ((ex.kids.getD 1 Ex.zero).count)),cj]),v97] Z Z Mw Ac (IH2 dd84 oM _ S86 g vp dp ip (s86) (c86) p (T86) cj (ex.kids.getD 1 Ex.zero) v97 (env++[r86]) (fun b hb=>(b3.lt b hb:b<w97.heap.size)) (b3.sub _ hgS) ⟨_,_,_,bq,ih⟩ (RN.stp (Am (AB dp)) hp co b3.new) _hip oM oM Hz ⟨ck.rng,(RN.stp (Am (AC dd84)) ck.rn co b3.new)⟩ ec ed (by exact hvp) oM (by have h9:=M5 hwf oM oM;rw[List.length_append,List.length_singleton];exact h9) (by have:=Fz (l:=ex.kids) (k:=1) oM;rw[List.length_append,List.length_singleton];omega) (by exact fun h9=>Kx.snoc (ax.mono oM) (gk h9))) ?_
       rintro e99 w99 ⟨r99,S99,T99,s99,c99,rfl,af,⟨vc99,vg99,vv99,ii,ij⟩,ee,ef,eg,eh⟩
       refine⟨_,rfl,?_⟩
       have jv:w97.heap.size≤w99.heap.size:=af.chg.size
       have kx:AE S w w99:=co.stp af.chg b3.new
       have jw:=br.chg af.chg (fun hm=>bb hm)
       have g5:w.heap.size∉S99:=fun hm=>(af.new _ hm).elim (fun hm=>bb hm) (fun h9=>by omega)
       have jx:=RN.stp g1 ec af.chg af.new
       have ik:=b3.trans af
       have jy:=ee.bnd
       have jz:=ee.num
       have hRv:=ef
       have hL2:=eh
       refine Ae 1 Z (A3 (AL (Aq ?_)))
       exact Ag [6] Z (.int .i64 r99) Z ⟨r99,_,T99,s99,c99,rfl,ik,⟨_,_,_,ii,ij⟩,⟨EO,oM⟩,EM,(by exact eg),EL⟩
      ·refine AA false Z Z (A8 e4) Ac (Ae 1 Z (Aj Z (A4 (A0 (Ad _ [0,0,2,0,4,0] Z ?_)))))
       have hkg:ex.kind≠1∧ex.kind≠2∧ex.kind≠8∧ex.kind≠9:=by omega
       have l1:=cK hwf hvp hF
       refine Af 1 Z (Ao (p:=(.pointer (some ⟨w.heap.size,0,none⟩))) (b:=w.heap.size) (o:=0) 4 Bo Z Z Ac (Ak (p:=(Ay (.pointer (some ⟨w.heap.size,0,none⟩)) 4)) (.inr Z) ve Bp Z (ac.ldp (i:=4) sM) Ac (Af 1 Z ?_)))
       refine B1 218 [] [] [(.pointer (some ⟨g,0,none⟩)),ve,vv] Z Z Xe Ac (R9 F dex (fun d9 h9=>IH2 d9 oM) _ S g vp dp ip (s0+1) (c0) p (T) ve (ex.kids) vv (env) (fun b hb=>(a0.lt b hb:b<w11.heap.size)) (a0.sub _ hgS) ⟨_,_,_,aw,b1⟩ (RN.stp (Am (AB dp)) hp a4 a0.new) _hip oM oM Hz (RN.stp (Am (AC dex)) hex.rn a4 a0.new) (RN.stp g1 henv a4 a0.new) hqenv (by exact hvp) oM (by intro k hk;exact GC hwf hk oM) (by intro k hk;have:=Fz (l:=ex.kids) (k:=k) hk;omega) oM (by exact fun _=>ax)) ?_
       rintro e109 w109 ⟨v109,xs109,S109,T109,s109,c109,rfl,ag,⟨vc109,vg109,vv109,aj,av⟩,bv,ei,bc,cp,cq,cr⟩
       refine⟨_,rfl,?_⟩
       have ct:w11.heap.size≤w109.heap.size:=ag.chg.size
       have a8:AE S w w109:=a4.stp ag.chg a0.new
       have ae:=ac.chg ag.chg (fun hm=>Ev)
       have ab:w.heap.size∉S109:=fun hm=>(ag.new _ hm).elim (fun hm=>Ev) (fun h9=>by omega)
       have a1:=a0.trans ag
       have il:=bv.bnd
       have im:=bv.num
       have hKr:=cr
       have hKb:=cq
       have hKl:=cp
       have am:=ei.rn
       refine Ae 1 Z (A0 (A0 (Ad _ [0,0,0,2,0] Z (Af 1 Z (Bw Z Ac (Ao (p:=(.pointer (some ⟨g,0,none⟩))) (b:=g) (o:=0) 7 FK Z Z Ac (Ak (p:=(Ay (.pointer (some ⟨g,0,none⟩)) 7)) (.inr Z) (.int .i64 c109) AH Z (aj.ldp (i:=7) sM) Ac ?_)))))))
       by_cases bw:c109≠((0:Nat):Int)
       ·refine AZ true Z Z (A7 bw) Ac (Ah (Ai Z (A0 (Ad _ [0] Z (Ae 1 Z (A3 (Aq ?_)))))))
        exact Ag [6] Z (.int .i64 ((0:Nat):Int)) Z ⟨((0:Nat):Int),_,T109,s109,c109,rfl,a1,⟨_,_,_,aj,av⟩,⟨EO,oM⟩,EM,oM,EL⟩
       ·refine AZ false Z Z (A8 bw) Ac (Ah (Aj Z (A4 (A0 (A0 (Ad _ [0,2] Z (Ao (p:=(.pointer (some ⟨w.heap.size,0,none⟩))) (b:=w.heap.size) (o:=0) 0 C5 Z Z Ac (Ak (p:=(Ay (.pointer (some ⟨w.heap.size,0,none⟩)) 0)) (.inr Z) (.int .i64 ex.kind) AH Z (ae.ldp (i:=0) sM) Ac (Ah (A5 (A0 (Ad _ [0,0] Z ?_))))))))))))
        by_cases bx:ex.kind=((10:Nat):Int)
        ·refine AA true Z Z (A7 bx) Ac (Ae 1 Z (Ai Z (A0 (AY _ [0,0,0,0,0,1,0,1,0,0,1,0,1,0,1,0,4,0] mixed (by kernel_rfl) ?_))))
         have hwk:=Lm hwf oM
         refine Af 2 Z ?_
         have hvo:=hvp.outs (ex.num).toNat oM
         have hvd:=hvp.deep (ex.num).toNat oM (ex.pick).toNat oM
         refine Bw Z Ac (Ao (p:=(.pointer (some ⟨g,0,none⟩))) (b:=g) (o:=0) 0 SQ Z Z Ac (Ao (p:=(Ay (.pointer (some ⟨g,0,none⟩)) 0)) (b:=g) (o:=0) 0 BM Z Z Ac (Ak (p:=(Ay (Ay (.pointer (some ⟨g,0,none⟩)) 0) 0)) (.inl Z) vp Cs Z (aj.ldp (i:=0) sM) Ac (Ao (p:=(.pointer (some ⟨w.heap.size,0,none⟩))) (b:=w.heap.size) (o:=0) 1 BT Z Z Ac (Ak (p:=(Ay (.pointer (some ⟨w.heap.size,0,none⟩)) 1)) (.inl Z) (.int .i64 ex.num) AH Z (ae.ldp (i:=1) sM) Ac ?_)))))
         refine Au (v:=vp) ((ex.num).toNat) Gm CA Z Z hp.isSl oM sD Ac ?_
         obtain⟨cs118,ej,bz⟩:=hp.get (AB dp) Fn.zero (k:=((ex.num).toNat)) sD
         obtain⟨bd,rfl,be⟩:=RF.of ej
         have cu:=be.rn.lenle
         unfold maxLen at cu
         refine AM (p:=Aw vp ((ex.num).toNat) 3) 2 Cu Z (bz _ a8.drew) Ac (Ak (p:=(Ay (Aw vp ((ex.num).toNat) 3) 2)) (.inl Z) bd Bp Z ((bz _ a8.drew).ld (i:=2) (by simp[FL,FM])) Ac (Ao (p:=(.pointer (some ⟨w.heap.size,0,none⟩))) (b:=w.heap.size) (o:=0) 2 Dn Z Z Ac (Ak (p:=(Ay (.pointer (some ⟨w.heap.size,0,none⟩)) 2)) (.inl Z) (.int .i64 ex.pick) AH Z (ae.ldp (i:=2) sM) Ac ?_)))
         refine Au (v:=bd) ((ex.pick).toNat) DK BB Z Z be.rn.isSl oM sD Ac ?_
         obtain⟨cs119,ek,el⟩:=be.rn.get (AC dp) Ex.zero (k:=((ex.pick).toNat)) sD
         obtain⟨dd119,bf,k0,rfl,bg⟩:=RX.of ek
         have cv:=bg.rn.lenle
         unfold maxLen at cv
         refine AR (p:=Aw bd ((ex.pick).toNat) 5) (.inl Z) [(.int .i64 ((((p.getD ((ex.num).toNat) Fn.zero).outs).getD ((ex.pick).toNat) Ex.zero).kind)),(.int .i64 ((((p.getD ((ex.num).toNat) Fn.zero).outs).getD ((ex.pick).toNat) Ex.zero).num)),(.int .i64 ((((p.getD ((ex.num).toNat) Fn.zero).outs).getD ((ex.pick).toNat) Ex.zero).pick)),(.int .i64 ((((p.getD ((ex.num).toNat) Fn.zero).outs).getD ((ex.pick).toNat) Ex.zero).count)),bf] BS Z (fun wq9 ce=>el wq9 (a8.drew.ext ce)) Z Ac (Af 1 Z ?_)
         refine B1 244 [] [] [(.pointer (some ⟨g,0,none⟩)),(.agg #[(.int .i64 ((((p.getD ((ex.num).toNat) Fn.zero).outs).getD ((ex.pick).toNat) Ex.zero).kind)),(.int .i64 ((((p.getD ((ex.num).toNat) Fn.zero).outs).getD ((ex.pick).toNat) Ex.zero).num)),(.int .i64 ((((p.getD ((ex.num).toNat) Fn.zero).outs).getD ((ex.pick).toNat) Ex.zero).pick)),(.int .i64 ((((p.getD ((ex.num).toNat) Fn.zero).outs).getD ((ex.pick).toNat) Ex.zero).count)),bf]),v109] Z Z Mw Ac (IH1 (ex.num).toNat oM dd119 _ S109 g vp dp ip (s109) (c109) p (T109) bf (((p.getD ((ex.num).toNat) Fn.zero).outs).getD ((ex.pick).toNat) Ex.zero) v109 (xs109) (fun b hb=>(a1.drew.lt b hb:b<w109.heap.size)) (a1.drew.sub _ hgS) ⟨_,_,_,aj,av⟩ (RN.stp (Am (AB dp)) hp a8.drew a1.drew.new) _hip oM oM Hz ⟨bg.rng,(RN.stp (Am (AC dd119)) bg.rn a8.drew a1.drew.new)⟩ am bc (by exact hvp) oM (by have h9:=hvp.wf (ex.num).toNat oM (ex.pick).toNat oM;rw[show((xs109.length:Nat):Int)=(p.getD (ex.num).toNat Fn.zero).params from by omega];exact h9) oM (by exact hKb)) ?_
         rintro e120 w120 ⟨r120,S120,T120,s120,c120,rfl,a2,⟨vc120,vg120,vv120,em,en⟩,c2,cw,cx,cy⟩
         refine⟨_,rfl,?_⟩
         replace a2:=a2.of_drew
         have io:w109.heap.size≤w120.heap.size:=a2.chg.size
         have k1:AE S w w120:=a8.stp a2.chg a1.new
         have k2:=ae.chg a2.chg (fun hm=>ab hm)
         have g6:w.heap.size∉S120:=fun hm=>(a2.new _ hm).elim (fun hm=>ab hm) (fun h9=>by omega)
         have k3:=RN.stp g1 am a2.chg a2.new
         have eo:=a1.trans a2
         have iq:=c2.bnd
         have ir:=c2.num
         have hRv:=cw
         have hL2:=cy
         refine Ae 1 Z (A3 (AL (Aq ?_)))
         exact Ag [6] Z (.int .i64 r120) Z ⟨r120,_,T120,s120,c120,rfl,eo,⟨_,_,_,em,en⟩,⟨EO,oM⟩,EM,(by exact cx),EL⟩
        ·refine AA false Z Z (A8 bx) Ac (Ae 1 Z (Aj Z (A0 (Ad _ [0,0] Z ?_))))
         by_cases c3:ex.kind=((11:Nat):Int)
         ·refine AA true Z Z (A7 c3) Ac (Ae 1 Z (Ai Z (A0 (A0 (Ad _ [0] Z ?_)))))
          have hwk:=Lm hwf oM
          have hwl:=S4 hwf oM
          refine Ae 1 Z (A5 ?_)
          have hMs:=av
          have hGs:=a1
          have hns:w.heap.size∉S109:=fun hm=>ab hm
          refine AN (S:=Nat×Value×List Int×List Nat×Tp×Nat×Int×Value×Value×Value) (fun⟨i,vk,ks,S9,T9,s9,c9,vc9,vg9,vv9⟩=>([(9,vk),(10,(.int .i64 ((i:Nat):Int))),(0,(.pointer (some ⟨g,0,none⟩))),(4,(.pointer (some ⟨w.heap.size,0,none⟩)))])) (fun⟨i,vk,ks,S9,T9,s9,c9,vc9,vg9,vv9⟩ W=>AE S w W∧BX W.heap g [vp,.int .i64 ip,vc9,vg9,.slice none 0 0,vv9,.int .i64 ((s9:Nat):Int),.int .i64 c9]∧BX W.heap w.heap.size [(.int .i64 ex.kind),(.int .i64 ex.num),(.int .i64 ex.pick),(.int .i64 ex.count),ve]∧i≤(ex.count).toNat∧w.heap.size∉S9∧Gh S S9 w W∧CJ 231 255 2 S9 g W.heap vc9 vg9 vv9 T9∧Zq T T9 s0 s9 c9∧RN S9 (B3 rI) W.heap vk ks∧CK vk∧ks.length=(p.getD (ex.num).toNat Fn.zero).outs.length∧(c9=0→Kx T9 ks)∧AT (J6 (fun a t U=>Il (L5 p (ex.num).toNat) (p.getD (ex.num).toNat Fn.zero).outs a t U) i xs109 s109 T109) (ks,T9) s9 c9) (fun⟨i,vk,ks,S9,T9,s9,c9,vc9,vg9,vv9⟩=>(ex.count).toNat-i) (0,v109,xs109,S109,T109,s109,c109,vc109,vg109,vv109) ⟨rfl,rfl,rfl,rfl,trivial⟩ ⟨a8,aj,ae,oM,(by exact hns),(by exact hGs),(by exact hMs),(by exact⟨by assumption,by omega⟩),(by assumption),(by assumption),oM,(by exact hKb),(by exact⟨rfl,rfl,by omega⟩)⟩ ?_
          clear j4 j5 hG0 ka d3 ga gb g2 g3 gd b0 a4 b1 a0 d5 ac av ct a8 ae a1
          rintro⟨i,vk,ks,S9,T9,s9,c9,vc9,vg9,vv9⟩ ρ131 w131 ⟨ak,a5,a6,g7,hnb,hGl,hMl,hPl,hrk,hck,hkl,hkb,hrl9⟩
          have is:w.heap.size≤w131.heap.size:=ak.size
          have k4:=a5.lt
          have k5:=a6.lt
          have hnl:=hPl.num
          have hbl:=hPl.bnd
          refine A0 (A0 (Ad _ [0,0,2,0,0,0,0,0,2,0,0] Z (Af 1 Z (Ao (p:=(.pointer (some ⟨w.heap.size,0,none⟩))) (b:=w.heap.size) (o:=0) 3 D9 Z Z Ac (Ak (p:=(Ay (.pointer (some ⟨w.heap.size,0,none⟩)) 3)) (.inr Z) (.int .i64 ex.count) AH Z (a6.ldp (i:=3) sM) Ac ?_)))))
          by_cases c4:((i:Nat):Int)<ex.count
          ·refine Ax true Z Z (A7 c4) Ac (Af 2 Z (Bw Z (Al (e:=156) Z Z Z) (Ao (p:=(.pointer (some ⟨g,0,none⟩))) (b:=g) (o:=0) 7 FK Z Z (Al (e:=156) Z Z Z) (Ak (p:=(Ay (.pointer (some ⟨g,0,none⟩)) 7)) (.inr Z) (.int .i64 c9) AH Z (a5.ldp (i:=7) sM) (Al (e:=156) Z Z Z) ?_))))
           by_cases c5:c9=((0:Nat):Int)
           ·refine AA true Z Z (A7 c5) (Al (e:=156) Z Z Z) (Ae 1 Z (Ai Z (A4 (A0 (A5 (AY _ [0,0,0,0,0,1,0,1,0,0,1,0,4,0] mixed (by kernel_rfl) (Af 2 Z ?_)))))))
            have hvo:=hvp.outs (ex.num).toNat oM
            refine Bw Z Ac (Ao (p:=(.pointer (some ⟨g,0,none⟩))) (b:=g) (o:=0) 0 SQ Z Z Ac (Ao (p:=(Ay (.pointer (some ⟨g,0,none⟩)) 0)) (b:=g) (o:=0) 0 BM Z Z Ac (Ak (p:=(Ay (Ay (.pointer (some ⟨g,0,none⟩)) 0) 0)) (.inl Z) vp Cs Z (a5.ldp (i:=0) sM) Ac (Ao (p:=(.pointer (some ⟨w.heap.size,0,none⟩))) (b:=w.heap.size) (o:=0) 1 BT Z Z Ac (Ak (p:=(Ay (.pointer (some ⟨w.heap.size,0,none⟩)) 1)) (.inl Z) (.int .i64 ex.num) AH Z (a6.ldp (i:=1) sM) Ac ?_)))))
            refine Au (v:=vp) ((ex.num).toNat) Gm CA Z Z hp.isSl oM sD Ac ?_
            obtain⟨cs136,ep,c6⟩:=hp.get (AB dp) Fn.zero (k:=((ex.num).toNat)) sD
            obtain⟨bh,rfl,c7⟩:=RF.of ep
            have cz:=c7.rn.lenle
            unfold maxLen at cz
            refine AM (p:=Aw vp ((ex.num).toNat) 3) 2 Cu Z (c6 _ ak.drew) Ac (Ak (p:=(Ay (Aw vp ((ex.num).toNat) 3) 2)) (.inl Z) bh Bp Z ((c6 _ ak.drew).ld (i:=2) (by simp[FL,FM])) Ac (Af 1 Z ?_))
            refine B1 218 [] [] [(.pointer (some ⟨g,0,none⟩)),bh,vk] Z Z Xe Ac (R9 (ex.num).toNat dp (fun d9 h9=>IH1 (ex.num).toNat oM d9) _ S9 g vp dp ip (s9) (c9) p (T9) bh ((p.getD ((ex.num).toNat) Fn.zero).outs) vk (ks) (fun b hb=>(hGl.drew.lt b hb:b<w131.heap.size)) (hGl.drew.sub _ hgS) ⟨_,_,_,a5,hMl⟩ (RN.stp (Am (AB dp)) hp ak.drew hGl.drew.new) _hip oM oM Hz (RN.stp (Am (AC dp)) c7.rn ak.drew hGl.drew.new) hrk hck (by exact hvp) oM (by intro k hk;have h9:=hvp.wf (ex.num).toNat oM k hk;rw[show((ks.length:Nat):Int)=(p.getD (ex.num).toNat Fn.zero).params from by omega];exact h9) (by intro k hk;have:=hvp.deep (ex.num).toNat oM k hk;omega) oM (by exact hkb)) ?_
            rintro e137 w137 ⟨v137,xs137,S137,T137,s137,c137,rfl,a3,⟨vc137,vg137,vv137,eq,er⟩,c8,es,it,iu,iv,iw⟩
            refine⟨_,rfl,?_⟩
            replace a3:=a3.of_drew
            have ix:w131.heap.size≤w137.heap.size:=a3.chg.size
            have et:AE S w w137:=ak.stp a3.chg hGl.new
            have eu:=a6.chg a3.chg (fun hm=>hnb hm)
            have bs:w.heap.size∉S137:=fun hm=>(a3.new _ hm).elim (fun hm=>hnb hm) (fun h9=>by omega)
            have k6:=RN.stp g1 hrk a3.chg a3.new
            have ev:=hGl.trans a3
            have iy:=c8.bnd
            have iz:=c8.num
            have j0:=es.rn
            refine Ae 1 Z (Ad _ [0,0,0] Z (Af 1 Z (AI ((i+1:Nat):Int) Z Z (B8 oM oM) Ac (Ae 1 Z ?_))))
            have hMe:=er
            have hGe:=ev
            have hPe:Zq T T137 s0 s137 c137:=⟨by assumption,by omega⟩
            have hne:w.heap.size∉S137:=fun hm=>bs hm
            exact⟨((i+1),v137,xs137,S137,T137,s137,c137,vc137,vg137,vv137),_,rfl,⟨rfl,rfl,rfl,rfl,trivial⟩,⟨et,eq,eu,oM,(by exact hne),(by exact hGe),(by exact hMe),(by exact hPe),(by assumption),(by assumption),oM,(by assumption),(by exact dD hrl9 oM (by assumption))⟩,by first|omega|(dsimp only;omega)⟩
           ·refine AA false Z Z (A8 c5) (Al (e:=156) Z Z Z) (Ae 1 Z (Aj Z (A6 (As (As (An (A0 (Ad _ [0,0,2,0,2,0] Z ?_))))))))
            have hkb9:=fun h9:c9=0=>hkb h9 (ex.pick).toNat oM
            refine Af 1 Z (Ao (p:=(.pointer (some ⟨w.heap.size,0,none⟩))) (b:=w.heap.size) (o:=0) 2 Dn Z Z Ac (Ak (p:=(Ay (.pointer (some ⟨w.heap.size,0,none⟩)) 2)) (.inr Z) (.int .i64 ex.pick) AH Z (a6.ldp (i:=2) sM) Ac (Au (v:=vk) ((ex.pick).toNat) Bh BA Z Z hrk.slL oM oM Ac ?_)))
            have ca:=RN.getI (w:=w131) (k:=(ex.pick).toNat) hrk oM
            refine Ak (p:=Aw vk ((ex.pick).toNat) 1) (.inr Z) (.int .i64 (ks.getD ((ex.pick).toNat) 0)) AH Z (ca.1 _ (AE.refl _ _)) Ac (Ae 1 Z (A3 (AL (Aq ?_))))
            exact Ag [6] Z (.int .i64 (ks.getD ((ex.pick).toNat) 0)) Z ⟨ks.getD ((ex.pick).toNat) 0,_,T9,s9,c9,rfl,hGl,⟨_,_,_,a5,hMl⟩,⟨EO,oM⟩,EM,(by exact ca.2),EL⟩
          ·refine Ax false Z Z (A8 c4) Ac (Ae 7 Z (Aj Z (A6 (As (As (An (A0 (Ad _ [0,0,2,0,2,0] Z ?_))))))))
           have hkb9:=fun h9:c9=0=>hkb h9 (ex.pick).toNat oM
           refine Af 1 Z (Ao (p:=(.pointer (some ⟨w.heap.size,0,none⟩))) (b:=w.heap.size) (o:=0) 2 Dn Z Z Ac (Ak (p:=(Ay (.pointer (some ⟨w.heap.size,0,none⟩)) 2)) (.inr Z) (.int .i64 ex.pick) AH Z (a6.ldp (i:=2) sM) Ac (Au (v:=vk) ((ex.pick).toNat) Bh BA Z Z hrk.slL oM oM Ac ?_)))
           have cb:=RN.getI (w:=w131) (k:=(ex.pick).toNat) hrk oM
           refine Ak (p:=Aw vk ((ex.pick).toNat) 1) (.inr Z) (.int .i64 (ks.getD ((ex.pick).toNat) 0)) AH Z (cb.1 _ (AE.refl _ _)) Ac (Ae 1 Z (A3 (AL (Aq ?_))))
           exact Ag [6] Z (.int .i64 (ks.getD ((ex.pick).toNat) 0)) Z ⟨ks.getD ((ex.pick).toNat) 0,_,T9,s9,c9,rfl,hGl,⟨_,_,_,a5,hMl⟩,⟨EO,oM⟩,EM,(by exact cb.2),EL⟩
         ·refine AA false Z Z (A8 c3) Ac (Ae 1 Z (Aj Z (A4 (A0 (Ad _ [0,0,2,0,0,0,4,0] Z ?_)))))
          have hkb9:=hKb oM
          have l2:3≤ex.kind∧ex.kind≤7:=by have:=(Dm (D6 hwf)).1;omega
          have hkl:1≤ex.kids.length∧(ex.kind≠7→2≤ex.kids.length):=by by_cases h7:ex.kind=7;(have:=UP hwf h7;omega);(have:=UQ hwf oM;omega)
          refine Af 1 Z (Ao (p:=(.pointer (some ⟨w.heap.size,0,none⟩))) (b:=w.heap.size) (o:=0) 0 C5 Z Z Ac (Ak (p:=(Ay (.pointer (some ⟨w.heap.size,0,none⟩)) 0)) (.inr Z) (.int .i64 ex.kind) AH Z (ae.ldp (i:=0) sM) Ac (Cy (ex.kind-((3:Nat):Int)) Z Z (FR oM oM) Ac (AI ex.kind Z Z (jW oM oM oM) Ac (Af 1 Z ?_)))))
          refine B1 251 [] [] [(.pointer (some ⟨g,0,none⟩)),(.int .i64 ex.kind),v109] Z Z iP Ac (Gn _ S109 g vp dp ip (s109) (c109) p (T109) (ex.kind) v109 (xs109) (fun b hb=>(a1.lt b hb:b<w109.heap.size)) (a1.sub _ hgS) ⟨_,_,_,aj,av⟩ (RN.stp (Am (AB dp)) hp a8 a1.new) _hip oM oM Hz oM am bc oM oM (by exact hkb9) oM) ?_
          rintro e148 w148 ⟨r148,S148,T148,c148,rfl,a9,⟨vc148,vg148,vv148,ew,ey⟩,j1,j2,d0,d1,d2⟩
          refine⟨_,rfl,?_⟩
          have j3:w109.heap.size≤w148.heap.size:=a9.chg.size
          have k7:AE S w w148:=a8.stp a9.chg a1.new
          have k8:=ae.chg a9.chg (fun hm=>ab hm)
          have g8:w.heap.size∉S148:=fun hm=>(a9.new _ hm).elim (fun hm=>ab hm) (fun h9=>by omega)
          have k9:=RN.stp g1 am a9.chg a9.new
          have ez:=a1.trans a9
          have hRv:=d0
          have hL2:=d2
          refine Ae 1 Z (A3 ?_)
          exact Ag [6] Z (.int .i64 r148) Z ⟨r148,_,T148,s109,c148,rfl,ez,⟨_,_,_,ew,ey⟩,⟨EO,oM⟩,EM,(by exact d1),EL⟩
end
section
set_option maxHeartbeats 4000000
set_option maxRecDepth 100000
attribute [local irreducible] LW
theorem eR:∀F d,jF F d:=by
 intro F
 induction F using Nat.strongRecOn with
 |_ F ihF =>
  intro d
  induction d using Nat.strongRecOn with
  |_ d ihd =>
   intro w S g vp dp ip s0 c0 p T ve ex vv env hS hgS a0 hp hip a1 a2 hbd hex henv hqenv hvp hF hwf hdp hen
   exact II w S F g vp dp ip s0 c0 p T d ve ex vv env hS hgS a0 hp hip a1 a2 hbd hex henv hqenv hvp hF hwf hdp hen ihF ihd
theorem eS (F d:Nat):lH F d:=R9 F d fun d' _=>eR F d'
theorem P5 {p:Prop}(h:p:=by have h9:=hm;rw[hSd]at h9;have:=Ab h9;omega):p:=h
theorem Ra {p:Prop}(h:p:=by simp only[List.map_toArray,List.map_cons,List.map_nil];rfl):p:=h
theorem GI (w:World)(dp:Nat)(vp:Value)(p:List Fn)(f:Int)(va:Value)(a:List Int)(hp:RP [] dp w.heap vp p)(_hf:BC f)(ha:RN [] (B3 rI) w.heap va a)(hok:Ln p=true)(hz:Tq p)(hf:0≤f∧f<((p.length:Nat):Int))(hl:((a.length:Nat):Int)=(p.getD f.toNat Fn.zero).params)(hna:B7 a=true) :
  Calls Tryz.prog 179 #[(.agg #[vp]),.int .i64 f,va] w (fun e w'=>∃(i0:Int) (vc vg vo:Value) (xs:List Int) (T':Tp) (s1:Nat) (c1:Int),e=.returned (.tuple #[.agg #[.int .i64 i0,vc,vg,vo],.int .i64 c1])∧Az w w'∧AT (Na p f.toNat a) (xs,T') s1 c1∧(0≤c1∧c1≤9)∧(∀u∈[vc,vg,vo],u.cells=#[u]∧u.oneCell'=true)∧BC i0∧(c1=0→i0=(p.getD f.toNat Fn.zero).params∧KW T' s1∧s1≤3000∧xs.length=(p.getD f.toNat Fn.zero).outs.length∧Kx T' xs∧RG w.heap.size (Dp 4 QI) w'.heap vc T'.code∧RG w.heap.size (Dp 2 S7) w'.heap vg T'.grd∧RG w.heap.size (B3 rI) w'.heap vo xs)):=by
 refine At [(.agg #[vp]),.int .i64 f,va] 87 Tryz.func179 Z Z sM ?_
 have dq:Az w w:=Az.refl w
 have hl_vp:=hp.lenle
 unfold maxLen at hl_vp
 have hl_va:=ha.lenL
 unfold maxLen at hl_va
 have hvp:=Or hok
 have hpr:=hvp.par f.toNat oM
 have hou:=hvp.outs f.toNat oM
 have hi:IP p f=0:=by unfold IP;rw[if_pos hok,if_pos oM]
 refine A0 (Ad _ [3,3,0] Z (Bx (cs:=#[vp]) Z Ac fun w1 cj e8 cf=>?_))
 have ck:=cj.size
 have dr:=dq.trans cj
 replace cf:BX w1.heap w.heap.size [vp]:=cf
 have ey:=cf.lt
 refine BJ (z:=.agg #[.int .i64 0,.slice none 0 0,.slice none 0 0,.slice none 0 0]) SN Ac fun w2 cg e9 cl=>?_
 have cm:=cg.size
 have cn:=dr.trans cg
 have aq:=cf.ext cg
 replace cl:BX w2.heap w1.heap.size [(.int .i64 0),(.slice none 0 0),(.slice none 0 0),(.slice none 0 0)]:=cl
 refine Ae 1 Z (A0 (Ad _ [2,0,3,0] Z (AR (p:=(.pointer (some ⟨w.heap.size,0,none⟩))) (.inr Z) [vp] EB Z (fun wq9 ba=>LD.of_box (BX.ext (w:=w2) aq ba)) Z Ac (Af 1 Z (Ap 84 [] [] [(.agg #[vp]),(.int .i64 f)] Z Z fO Ac (IT _ dp vp (p) _ (hp.ext (Am (AB dp)) cn) _hf (by exact hz)) ?_)))))
 rintro e4 w4 ⟨rfl,b8⟩
 refine⟨_,rfl,b8,?_⟩
 have co:=b8.size
 have bb:=cn.trans b8
 have ar:=aq.ext b8
 have bc:=cl.ext b8
 refine Ae 1 Z (A0 (A0 (Ad _ [0,0,0,0,0,2,0,0,0,2,3,0,0] Z (Af 1 Z ?_))))
 have ea:IP p f=((0:Nat):Int):=hi
 refine AA true Z Z (A7 ea) Ac (Af 2 Z (Ao (p:=(.pointer (some ⟨w.heap.size,0,none⟩))) (b:=w.heap.size) (o:=0) 0 BM Z Z (Al (e:=18) Z Z Z) (Ak (p:=(Ay (.pointer (some ⟨w.heap.size,0,none⟩)) 0)) (.inr Z) vp Cs Z (ar.ldp (i:=0) sM) (Al (e:=18) Z Z Z) (Af 1 Z (Au (v:=vp) ((f).toNat) Gm CA Z Z hp.isSl oM sD (Al (e:=18) Z Z Z) ?_)))))
 obtain⟨cs6,eb,ch⟩:=hp.get (AB dp) Fn.zero (k:=((f).toNat)) sD
 obtain⟨ez,rfl,ds⟩:=RF.of eb
 have bd:=ds.rn.lenle
 unfold maxLen at bd
 refine AM (p:=Aw vp ((f).toNat) 3) 1 Cw Z (ch _ (AE.of_ext [] bb)) (Al (e:=18) Z Z Z) (Ak (p:=(Ay (Aw vp ((f).toNat) 3) 1)) (.inr Z) (.int .i64 ((p.getD ((f).toNat) Fn.zero).params)) AH Z ((ch _ (AE.of_ext [] bb)).ld (i:=1) (by simp[FL,FM])) (Al (e:=18) Z Z Z) (Ap 97 [] [] [va,(.int .i64 ((p.getD ((f).toNat) Fn.zero).params))] Z Z eI (Al (e:=18) Z Z Z) (Er _ _ _ _ ((ha.ext g1 bb)).rd ds.rng) ?_))
 rintro e7 w7 ⟨rfl,b9⟩
 refine⟨_,rfl,b9,?_⟩
 have cp:=b9.size
 have ci:=bb.trans b9
 have ae:=ar.ext b9
 have au:=bc.ext b9
 rw[show(decide (((a.length:Nat):Int)=((p.getD ((f).toNat) Fn.zero).params)) && B7 a)=true from(by rw[A7 oM,hna];rfl)]
 refine Bn false Z Z (Al (e:=18) Z Z Z) (Ae 1 Z (Aj Z (A4 (A0 (A0 (Ad _ [0,0] Z (Af 1 Z ?_)))))))
 have ec:¬(IP p f≠((0:Nat):Int)):=(fun h9=>h9 hi)
 refine AZ false Z Z (A8 ec) Ac (Ah (Aj Z (A4 (A0 (AY _ [1,0,1,0,0,0,1,0,0,3,0] mixed (by kernel_rfl) (AR (p:=(.pointer (some ⟨w.heap.size,0,none⟩))) (.inl Z) [vp] EB Z (fun wq9 ba=>LD.of_box (BX.ext (w:=w7.drew) ae ba)) Z Ac (Ao (p:=(.pointer (some ⟨w.heap.size,0,none⟩))) (b:=w.heap.size) (o:=0) 0 BM Z Z Ac (Ak (p:=(Ay (.pointer (some ⟨w.heap.size,0,none⟩)) 0)) (.inl Z) vp Cs Z (ae.ldp (i:=0) sM) Ac (Af 1 Z ?_)))))))))
 refine Au (v:=vp) ((f).toNat) Gm CA Z Z hp.isSl oM sD Ac (AM (p:=Aw vp ((f).toNat) 3) 1 Cw Z (ch _ (AE.of_ext [] ci.drew)) Ac (Ak (p:=(Ay (Aw vp ((f).toNat) 3) 1)) (.inl Z) (.int .i64 ((p.getD ((f).toNat) Fn.zero).params)) AH Z ((ch _ (AE.of_ext [] ci.drew)).ld (i:=1) (by simp[FL,FM])) Ac ?_))
 have cq:∀(wq:World),(Instr.build 199 #[(0,(.int .i64 ((p.getD ((f).toNat) Fn.zero).params)))]).run Tryz.prog wq=.ok (.agg #[(.int .i64 ((p.getD ((f).toNat) Fn.zero).params)),(.slice none 0 0),(.slice none 0 0),(.slice none 0 0)]) wq:=by intro wq;kernel_rfl
 refine ER (ps:=#[(0,(.int .i64 ((p.getD ((f).toNat) Fn.zero).params)))]) (.agg #[(.int .i64 ((p.getD ((f).toNat) Fn.zero).params)),(.slice none 0 0),(.slice none 0 0),(.slice none 0 0)]) Ra (fun wq=>cq  wq) Ac ?_
 have be:∀(vp:Value) (m10_0:Nat) (h10_0:FS vp m10_0) (wq:World),(Instr.build 228 #[(0,(.agg #[vp])),(1,(.agg #[(.int .i64 ((p.getD ((f).toNat) Fn.zero).params)),(.slice none 0 0),(.slice none 0 0),(.slice none 0 0)]))]).run Tryz.prog wq=.ok (.agg #[vp,(.int .i64 ((p.getD ((f).toNat) Fn.zero).params)),(.slice none 0 0),(.slice none 0 0),(.slice none 0 0),(.slice none 0 0),(.int .i64 0),(.int .i64 0)]) wq:=by intro vp m10_0 h10_0 wq;obtain⟨a10_0,c10_0,rfl,_⟩:=h10_0;kernel_rfl
 refine ER (ps:=#[(0,(.agg #[vp])),(1,(.agg #[(.int .i64 ((p.getD ((f).toNat) Fn.zero).params)),(.slice none 0 0),(.slice none 0 0),(.slice none 0 0)]))]) (.agg #[vp,(.int .i64 ((p.getD ((f).toNat) Fn.zero).params)),(.slice none 0 0),(.slice none 0 0),(.slice none 0 0),(.slice none 0 0),(.int .i64 0),(.int .i64 0)]) Ra (fun wq=>be vp _ hp.isSl wq) Ac ?_
 have ed:=ae.lt
 have ee:=au.lt
 refine Bx (cs:=#[vp,(.int .i64 ((p.getD ((f).toNat) Fn.zero).params)),(.slice none 0 0),(.slice none 0 0),(.slice none 0 0),(.slice none 0 0),(.int .i64 0),(.int .i64 0)]) Z Ac fun w11 a9 cr ak=>?_
 replace a9:=a9.of_drew
 have bf:=a9.size
 have bg:=ci.trans a9
 have av:=ae.ext a9
 have aw:=au.ext a9
 replace ak:BX w11.heap w7.drew.heap.size [vp,(.int .i64 ((p.getD ((f).toNat) Fn.zero).params)),(.slice none 0 0),(.slice none 0 0),(.slice none 0 0),(.slice none 0 0),(.int .i64 0),(.int .i64 0)]:=ak
 refine Ae 1 Z (A0 (Ad _ [3,0] Z ?_))
 obtain⟨S,hSd⟩:∃S:List Nat,S=[w7.heap.size]:=⟨_,rfl⟩
 have hgS:w7.heap.size∈S:=by rw[hSd];exact List.mem_singleton.2 Z
 have hlr:w7.heap.size<w11.heap.size:=BX.lt ak
 have hMb:CJ 231 255 2 S w7.heap.size w11.heap (.slice none 0 0) (.slice none 0 0) (.slice none 0 0) (JQ a 0):=CJ.nil
 have hGb:Gh S S w w11:=⟨fun _ h=>h,fun b hb=>.inl hb,fun b hb=>by rw[hSd]at hb;have:=Ab hb;omega,AE.of_ext S bg⟩
 have hEb:AE S w w11:=hGb.chg
 have hSn:∀b∈S,w.heap.size≤b:=fun b hb=>by rw[hSd]at hb;have:=Ab hb;omega
 have hBb:BX w11.heap w7.heap.size [vp,(.int .i64 ((p.getD f.toNat Fn.zero).params)),(.slice none 0 0),(.slice none 0 0),(.slice none 0 0),(.slice none 0 0),(.int .i64 ((0:Nat):Int)),(.int .i64 ((0:Nat):Int))]:=ak
 have ax:RN S (Dp 3 (XQ dp)) w.heap vp p:=by rw[hSd];exact RN.add (Am (AB dp)) hp (fun b hb=>by have:=Ab hb;omega)
 have ay:RN S (B3 rI) w.heap va a:=by rw[hSd];exact RN.add g1 ha (fun b hb=>by have:=Ab hb;omega)
 refine BI (rI) AQ Bh BA Ac fun v17 w17 a4 ct bh=>?_
 have bi:w11.heap.size≤w17.heap.size:=a4.size
 have bj:AE S w w17:=hEb.ext a4
 have az:=av.ext a4
 have b0:=aw.ext a4
 have b1:=hBb.ext a4
 have bk:=CJ.ext hMb a4
 have bl:=hGb.ext a4
 refine Ae 1 Z (A0 (A0 (Ad _ [0,0,0] Z (Af 1 Z (AJ (v:=va) Bh Z ay.slL Ac (Ae 1 Z (A5 ?_)))))))
 have hBO:w.heap.size≤w11.heap.size∧w7.heap.size<w11.heap.size:=by omega
 have bm:w.heap.size∉S:=fun hm=>P5
 have bn:w1.heap.size∉S:=fun hm=>P5
 obtain⟨Fo0,bo⟩:=Ow.of_fr bh (A9 _)
 have cu:∀b∈Fo0,b∉S:=fun b hb hm=>by have:=bo.low b hb;have:=hGb.lt b hm;omega
 have hMs:=bk
 have hGs:=bl
 have hnswheaps:w.heap.size∉S:=fun hm=>P5
 have hnsw1heap:w1.heap.size∉S:=fun hm=>P5
 refine AN (S:=Nat×Value×List Int×List Nat×List Nat×Value×Value×Value) (fun⟨k,vo,xs,Fo,S9,vc9,vg9,vv9⟩=>([(10,vo),(46,(.int .i64 ((k:Nat):Int))),(1,(.int .i64 f)),(3,(.pointer (some ⟨w.heap.size,0,none⟩))),(6,(.pointer (some ⟨w1.heap.size,0,none⟩))),(9,(.pointer (some ⟨w7.heap.size,0,none⟩))),(44,va),(45,(.int .i64 ((a.length:Nat):Int)))])) (fun⟨k,vo,xs,Fo,S9,vc9,vg9,vv9⟩ W=>AE S w W∧BX W.heap w.heap.size [vp]∧BX W.heap w1.heap.size [(.int .i64 0),(.slice none 0 0),(.slice none 0 0),(.slice none 0 0)]∧BX W.heap w7.heap.size [vp,.int .i64 (p.getD f.toNat Fn.zero).params,vc9,vg9,.slice none 0 0,vv9,.int .i64 ((0:Nat):Int),.int .i64 ((0:Nat):Int)]∧k≤a.length∧w11.heap.size≤W.heap.size∧Gh S S9 w W∧CJ 231 255 2 S9 w7.heap.size W.heap vc9 vg9 vv9 (JQ a k)∧Ow (AS rI 2) w11.heap.size W.heap.size W.heap vo xs Fo∧(∀b∈Fo,b∉S9)∧xs=HI k∧w.heap.size∉S9∧w1.heap.size∉S9) (fun⟨k,vo,xs,Fo,S9,vc9,vg9,vv9⟩=>a.length-k) (0,v17,[],Fo0,S,(.slice none 0 0),(.slice none 0 0),(.slice none 0 0)) ⟨rfl,rfl,rfl,rfl,rfl,rfl,rfl,rfl,trivial⟩ ⟨bj,az,b0,b1,oM,oM,(by exact hGs),(by exact hMs),(by exact bo),(by exact cu),(by rfl),(by exact bm),(by exact bn)⟩ ?_
 clear dq e8 cj ck dr e9 cg cm cn b8 co bb bd b9 cp ci cr a9 bf bg bh ct a4 bi bj bk bl
 rintro⟨k,vo,xs,Fo,S9,vc9,vg9,vv9⟩ ρ21 w21 ⟨a5,a3,aa,ab,cv,hbw,hGl,hMl,hOl,hdl,hxe,af,ag⟩
 have dt:w.heap.size≤w21.heap.size:=a5.size
 have ef:=a3.lt
 have eg:=aa.lt
 have eh:=ab.lt
 refine A0 (Ad _ [0] Z ?_)
 by_cases bp:((k:Nat):Int)<((a.length:Nat):Int)
 ·refine Ax true Z Z (A7 bp) Ac (Ah (A0 (Ai Z (A4 (A0 (A5 (A0 (Ad _ [0,0,2,0,0] Z ?_))))))))
  have hak:=Ba hna k
  have hvk:=Ky a k
  have hxk:xs.length=k:=by rw[hxe,H5]
  refine Af 1 Z (Au (v:=va) k Bh BA Z Z ay.slL Z sD Ac ?_)
  have bq:=RN.getI (w:=w) (k:=k) ay sD
  refine Ak (p:=Aw va k 1) (.inr Z) (.int .i64 (a.getD k 0)) AH Z (bq.1 _ a5) Ac (Ae 2 Z (Ad _ [0,0,0,0,0,4,3,4,0] Z (Af 3 Z ?_)))
  have br:∀(wq:World),(Instr.build 231 #[(0,(.int .i64 ((1:Nat):Int))),(3,(.int .i64 ((k:Nat):Int)))]).run Tryz.prog wq=.ok (.agg #[(.int .i64 ((1:Nat):Int)),(.int .i64 0),(.int .i64 0),(.int .i64 ((k:Nat):Int))]) wq:=by intro wq;kernel_rfl
  refine ER (ps:=#[(0,(.int .i64 ((1:Nat):Int))),(3,(.int .i64 ((k:Nat):Int)))]) (.agg #[(.int .i64 ((1:Nat):Int)),(.int .i64 0),(.int .i64 0),(.int .i64 ((k:Nat):Int))]) Ra (fun wq=>br  wq) Ac (Af 1 Z ?_)
  refine B1 217 [] [] [(.pointer (some ⟨w7.heap.size,0,none⟩)),(.agg #[(.int .i64 ((1:Nat):Int)),(.int .i64 (0:Int)),(.int .i64 (0:Int)),(.int .i64 ((k:Nat):Int))]),(.int .i64 (a.getD k 0))] Z Z SG Ac (CQ _ S9 w7.heap.size vp ((p.getD f.toNat Fn.zero).params) (0) (((0:Nat):Int)) (JQ a k) (⟨((1:Nat):Int),(0:Int),(0:Int),((k:Nat):Int)⟩:AF) (a.getD k 0) (fun b hb=>(hGl.lt b hb:b<w21.heap.size)) (hGl.sub _ hgS) ⟨_,_,_,ab,hMl⟩ oM (by rw[Oy,Ky];omega) ⟨(show BC (((1:Nat):Int))from by omega),(show BC ((0:Int))from by omega),(show BC ((0:Int))from by omega),(show BC (((k:Nat):Int))from by omega)⟩ bq.2) ?_
  rintro e28 w28 ⟨S28,rfl,a0,vc28,vg28,vv28,cw,cx⟩
  refine⟨_,rfl,?_⟩
  have du:w21.heap.size≤w28.heap.size:=a0.chg.size
  have cy:AE S w w28:=a5.stp a0.chg hGl.new
  have cz:=a3.chg a0.chg (fun hm=>af hm)
  have b2:w.heap.size∉S28:=fun hm=>(a0.new _ hm).elim (fun hm=>af hm) (fun h9=>by omega)
  have d0:=aa.chg a0.chg (fun hm=>ag hm)
  have b3:w1.heap.size∉S28:=fun hm=>(a0.new _ hm).elim (fun hm=>ag hm) (fun h9=>by omega)
  have d1:=hOl.keep (B9 AQ) a0.chg (fun b hb hm=>hdl b hm hb)
  have ai:∀b∈Fo,b∉S28:=fun b hb hm=>(a0.new b hm).elim (hdl b hb) (fun h9=>by have:=hOl.high b hb;omega)
  have d2:=hGl.trans a0
  have dv:((JQ a k).put (⟨((1:Nat):Int),(0:Int),(0:Int),((k:Nat):Int)⟩:AF) (a.getD k 0)).vals.length=(JQ a k).vals.length+1:=Hr _ _ _
  have dw:((JQ a k).put (⟨((1:Nat):Int),(0:Int),(0:Int),((k:Nat):Int)⟩:AF) (a.getD k 0)).grd.length=(JQ a k).grd.length:=rfl
  refine(Bq (u:=(.int .i64 (((JQ a k).vals.length:Nat):Int))) (B:=w28.heap.size) AQ Bh BA Z Z (N6 w28.heap.size w28.heap.size _ _ oM) (A9 _) Ac ?_)
  intro v36 w36 a6 ei d3
  have dx:w28.heap.size≤w36.heap.size:=a6.size
  have d4:AE S w w36:=cy.ext a6
  have al:=cz.ext a6
  have am:=d0.ext a6
  have an:=cw.ext a6
  have d5:=CJ.ext cx a6
  have bs:=d2.ext a6
  have hO38k:=d1.ext (B9 AQ) a6
  refine Ma (v:=vo) (a:=v36) Bh BA Z Z Z hO38k d3.rd1 oM sD (by unfold maxLen;first|omega|assumption|(simp;done)|(simp;omega)) Ac fun v39 w39 F39 ac ej d6=>?_
  have dy:w36.heap.size≤w39.heap.size:=ac.size
  have d7:AE S w w39:=d4.fresh ac (fun c hc=>by have:=hO38k.low c hc;omega)
  have ek:∀b∈F39,b∉S28:=fun b hb hm=>(d6 b hb).elim (fun h9=>ai b h9 hm) (fun h9=>by have:=bs.lt b hm;omega)
  have d8:=CJ.chgO d5 ac ai
  have d9:=bs.fresh ac (fun c hc=>by have:=hO38k.low c hc;omega)
  have da:=al.chg ac (fun hm=>by have:=hO38k.low _ hm;omega)
  have db:=am.chg ac (fun hm=>by have:=hO38k.low _ hm;omega)
  have dc:=an.chg ac (fun hm=>by have:=hO38k.low _ hm;omega)
  refine Ae 1 Z (Ad _ [0,0] Z (AI ((k+1:Nat):Int) Z Z (B8 oM oM) Ac (Ae 1 Z ?_)))
  have hMe:=d8
  have hGe:=d9
  have bt:w.heap.size∉S28:=fun hm=>b2 hm
  have bu:w1.heap.size∉S28:=fun hm=>b3 hm
  exact⟨((k+1),v39,(xs++[(((JQ a k).vals.length:Nat):Int)]),F39,S28,vc28,vg28,vv28),_,rfl,⟨rfl,rfl,rfl,rfl,rfl,rfl,rfl,rfl,trivial⟩,⟨d7,da,db,dc,oM,oM,(by exact hGe),(by exact hMe),(by assumption),(by assumption),(by rw[hxe,Ky];exact(QM k).symm),(by exact bt),(by exact bu)⟩,by first|omega|(dsimp only;omega)⟩
 ·refine Ax false Z Z (A8 bp) Ac (Ah (A0 (Aj Z (A6 (As (As (An (A0 (Ad _ [0,0,0,2,0,0,0,2,0,4,0,0,0,4] Z ?_)))))))))
  have hkl:k=a.length:=by omega
  refine Af 2 Z (Ao (p:=(.pointer (some ⟨w.heap.size,0,none⟩))) (b:=w.heap.size) (o:=0) 0 BM Z Z Ac (Ak (p:=(Ay (.pointer (some ⟨w.heap.size,0,none⟩)) 0)) (.inr Z) vp Cs Z (a3.ldp (i:=0) sM) Ac (Af 1 Z (Au (v:=vp) ((f).toNat) Gm CA Z Z ax.isSl oM sD Ac ?_))))
  obtain⟨cs46,dd,bv⟩:=ax.get (AB dp) Fn.zero (k:=((f).toNat)) sD
  obtain⟨b4,rfl,bw⟩:=RF.of dd
  have bx:=bw.rn.lenle
  unfold maxLen at bx
  refine AM (p:=Aw vp ((f).toNat) 3) 2 Cu Z (bv _ a5) Ac (Ak (p:=(Ay (Aw vp ((f).toNat) 3) 2)) (.inr Z) b4 Bp Z ((bv _ a5).ld (i:=2) (by simp[FL,FM])) Ac (Af 1 Z ?_))
  refine B1 218 [] [] [(.pointer (some ⟨w7.heap.size,0,none⟩)),b4,vo] Z Z Xe Ac (eS f.toNat dp _ S9 w7.heap.size vp dp ((p.getD f.toNat Fn.zero).params) (0) (((0:Nat):Int)) p (JQ a k) b4 ((p.getD ((f).toNat) Fn.zero).outs) vo (xs) (fun b hb=>(hGl.lt b hb:b<w21.heap.size)) (hGl.sub _ hgS) ⟨_,_,_,ab,hMl⟩ (RN.stp (Am (AB dp)) ax a5 hGl.new) oM oM oM (by rw[hkl];exact fk hna oM) (RN.stp (Am (AC dp)) bw.rn a5 hGl.new) (RN.of_ow hOl hdl) hOl.fr.cap (by exact hvp) oM (by intro j hj;have h9:=hvp.wf f.toNat oM j hj;rw[hxe,H5,hkl,hl];exact h9) (by intro j hj;have h9:=hvp.deep f.toNat oM j hj;rw[hxe,H5];omega) oM (by exact fun _=>by rw[hxe];exact fl a k)) ?_
  rintro e47 w47 ⟨v47,xs47,S47,T47,s47,c47,rfl,a1,⟨vc47,vg47,vv47,de,df⟩,bz,c0,dz,c2,c3,c4⟩
  refine⟨_,rfl,?_⟩
  have e0:w21.heap.size≤w47.heap.size:=a1.chg.size
  have dg:AE S w w47:=a5.stp a1.chg hGl.new
  have dh:=a3.chg a1.chg (fun hm=>af hm)
  have di:w.heap.size∉S47:=fun hm=>(a1.new _ hm).elim (fun hm=>af hm) (fun h9=>by omega)
  have dj:=aa.chg a1.chg (fun hm=>ag hm)
  have aj:w1.heap.size∉S47:=fun hm=>(a1.new _ hm).elim (fun hm=>ag hm) (fun h9=>by omega)
  have b5:=hOl.keep (B9 AQ) a1.chg (fun b hb hm=>hdl b hm hb)
  have dk:∀b∈Fo,b∉S47:=fun b hb hm=>(a1.new b hm).elim (hdl b hb) (fun h9=>by have:=hOl.high b hb;omega)
  have c5:=hGl.trans a1
  have e1:=bz.bnd
  have e2:=bz.num
  have hKr:=c4
  have hKb:=c3
  have hKl:=c2
  rw[hxe,hkl]at hKr
  replace hKr:=AT.go0 hKr
  have c6:=c0.rn
  refine Bw Z Ac (Ao (p:=(.pointer (some ⟨w7.heap.size,0,none⟩))) (b:=w7.heap.size) (o:=0) 1 Gy Z Z Ac (Ao (p:=(Ay (.pointer (some ⟨w7.heap.size,0,none⟩)) 1)) (b:=w7.heap.size) (o:=1) 3 Eq Z Z Ac (Co (k:=4) (w:=w47) Ja Z Z (BQ c6.slL) de sM Ac fun w56 a7 el ad=>?_)))
  replace ad:BX w56.heap w7.heap.size [vp,(.int .i64 ((p.getD f.toNat Fn.zero).params)),vc47,vg47,v47,vv47,(.int .i64 ((s47:Nat):Int)),(.int .i64 c47)]:=ad
  have c7:AE S w w56:=dg.trans (a7.sub (Bg hgS))
  have ao:=CJ.chg df a7
  have c8:=c5.set hgS a7
  have e3:w47.heap.size≤w56.heap.size:=a7.size
  have c9:=dh.chg a7 (fun hm=>by have:=Ab hm;omega)
  have ca:=dj.chg a7 (fun hm=>by have:=Ab hm;omega)
  have ah:=b5.keep (B9 AQ) a7 (fun b hb hm=>by have:=Ab hb;have:=b5.low _ hm;have:=b5.high _ hm;omega)
  have hF63l:=c0.upd g1 a7 (fun b hb=>by rw[Ab hb];exact .inl (c5.sub _ hgS))
  have dl:=hF63l.rn
  refine Ah (A0 (A0 (Ad _ [0,0,0,2,0] Z (Af 1 Z (Bw Z Ac (Ao (p:=(.pointer (some ⟨w7.heap.size,0,none⟩))) (b:=w7.heap.size) (o:=0) 7 FK Z Z Ac (Ak (p:=(Ay (.pointer (some ⟨w7.heap.size,0,none⟩)) 7)) (.inr Z) (.int .i64 c47) AH Z (ad.ldp (i:=7) sM) Ac ?_)))))))
  by_cases cb:c47≠((0:Nat):Int)
  ·refine AZ true Z Z (A7 cb) Ac (Ah (Ai Z (A0 ?_)))
   letI:JR:=f9 [w1.heap.size]
   refine Jx.AY _ [0,0,0,0,1,3,0] mixed (by kernel_rfl) (Jx.j1 ?_)
   have cc:∀(wq:World),(Instr.build 199 #[]).run Tryz.prog wq=.ok (.agg #[(.int .i64 0),(.slice none 0 0),(.slice none 0 0),(.slice none 0 0)]) wq:=by intro wq;kernel_rfl
   refine ER (ps:=#[]) (.agg #[(.int .i64 0),(.slice none 0 0),(.slice none 0 0),(.slice none 0 0)]) (by simp only[List.map_toArray,List.map_cons,List.map_nil]) (fun wq=>cc  wq) Ac (Ah (Jx.bF (.pointer (some ⟨w7.heap.size,0,none⟩)) Z Ac (Jx.j1 (Bw Z Ac (Ah (Jx.Ao (p:=(.pointer (some ⟨w7.heap.size,0,none⟩))) (b:=w7.heap.size) (o:=0) 7 FK Z Z Ac (Jx.jQ (p:=(Ay (.pointer (some ⟨w7.heap.size,0,none⟩)) 7)) (.int .i64 c47) AH Z (fun wj hj=>(BX.chg (w:=w56.drew) (F:=[w1.heap.size]) ad hj (fun hm=>by have:=Ab hm;omega)).ldp (i:=7) sM) Ac (Jx.lC ?_))))))))
   refine CT (vs:=[(.int .i64 (0:Int)),(.slice none 0 0),(.slice none 0 0),(.slice none 0 0)]) Dx Z Z (by intro u hu;simp only[List.mem_cons,List.not_mem_nil,or_false]at hu;rcases hu with rfl|rfl|rfl|rfl <;> first|exact⟨rfl,rfl⟩) ca Z Z Ac fun w66 a2 em b6=>?_
   replace a2:=a2.of_drew
   replace b6:BX w66.heap w1.heap.size [(.int .i64 (0:Int)),(.slice none 0 0),(.slice none 0 0),(.slice none 0 0)]:=b6
   have en:AE S w w66:=c7.fresh a2 (fun c hc=>by have:=Ab hc;omega)
   have eo:=CJ.chgO ao a2 (fun b hb hm=>by rw[Ab hb]at hm;exact aj hm)
   have dm:=c8.fresh a2 (fun c hc=>by have:=Ab hc;omega)
   have e5:w56.heap.size≤w66.heap.size:=a2.size
   have ep:=c9.chg a2 (fun hm=>by have:=Ab hm;omega)
   have eq:=ad.chg a2 (fun hm=>by have:=Ab hm;omega)
   have er:=ah.keep (B9 AQ) a2 (fun b hb hm=>by have:=Ab hb;have:=ah.low _ hm;have:=ah.high _ hm;omega)
   have hF73l:=hF63l.upd g1 a2 (fun b hb=>by rw[Ab hb];(right;omega))
   have es:=hF73l.rn
   refine Ah ⟨AE.drewL a2,?_⟩
   exact Jx.TN (.int .i64 c47) Z Ac (Jx.Ah (A3 (Aq (NP (t0:=7) (ts:=[]) (cs:=[(.int .i64 (0:Int)),(.slice none 0 0),(.slice none 0 0),(.slice none 0 0)]) [(.int .i64 c47)] Z Dx Z b6 Z Z ⟨_,_,_,_,_,_,_,_,rfl,(AE.toExt dm.chg hSn),hKr,oM,(by intro u hu;simp only[List.mem_cons,List.not_mem_nil,or_false]at hu;rcases hu with rfl|rfl|rfl <;> exact⟨rfl,rfl⟩),(by show BC _;unfold BC;omega),(fun h9=>absurd h9 oM)⟩))))
  ·refine AZ false Z Z (A8 cb) Ac (Ah (Aj Z (A4 (A0 (Ad _ [0,0,0,2,4,0] Z (Af 1 Z (Bw Z Ac (Ao (p:=(.pointer (some ⟨w7.heap.size,0,none⟩))) (b:=w7.heap.size) (o:=0) 1 Gy Z Z Ac (AR (p:=(Ay (.pointer (some ⟨w7.heap.size,0,none⟩)) 1)) (.inr Z) [(.int .i64 ((p.getD f.toNat Fn.zero).params)),vc47,vg47,v47] Dx Z (fun wq9 ba=>LD.part (BX.ext (w:=w56) ad ba) (by show(5:Nat)≤8;decide) (by intro i hi;match i,hi with|0,_=>rfl|1,_=>rfl|2,_=>rfl|3,_=>rfl)) Z Ac ?_)))))))))
   refine CT (vs:=[(.int .i64 ((p.getD f.toNat Fn.zero).params)),vc47,vg47,v47]) Dx Z Z (by intro u hu;simp only[List.mem_cons,List.not_mem_nil,or_false]at hu;rcases hu with rfl|rfl|rfl|rfl <;> first|exact⟨rfl,rfl⟩|exact BQ (CJ.slc ao)|exact BQ (CJ.slg ao)|exact BQ dl.slL) ca Z Z Ac fun w74 a8 et b7=>?_
   replace b7:BX w74.heap w1.heap.size [(.int .i64 ((p.getD f.toNat Fn.zero).params)),vc47,vg47,v47]:=b7
   have eu:AE S w w74:=c7.fresh a8 (fun c hc=>by have:=Ab hc;omega)
   have ap:=CJ.chgO ao a8 (fun b hb hm=>by rw[Ab hb]at hm;exact aj hm)
   have cd:=c8.fresh a8 (fun c hc=>by have:=Ab hc;omega)
   have e6:w56.heap.size≤w74.heap.size:=a8.size
   have ev:=c9.chg a8 (fun hm=>by have:=Ab hm;omega)
   have ew:=ad.chg a8 (fun hm=>by have:=Ab hm;omega)
   have ex:=ah.keep (B9 AQ) a8 (fun b hb hm=>by have:=Ab hb;have:=ah.low _ hm;have:=ah.high _ hm;omega)
   have hF81l:=hF63l.upd g1 a8 (fun b hb=>by rw[Ab hb];(right;omega))
   have dn:=hF81l.rn
   refine Ae 1 Z (A3 ?_)
   have ce:∀b∈S47,w.heap.size≤b:=fun b hb=>(cd.new b hb).elim (hSn b) id
   exact NP (t0:=7) (ts:=[]) (cs:=[(.int .i64 ((p.getD f.toNat Fn.zero).params)),vc47,vg47,v47]) [(.int .i64 ((0:Nat):Int))] Z Dx Z b7 Z Z ⟨_,_,_,_,_,_,_,_,rfl,(AE.toExt cd.chg hSn),(by have h9:=hKr;rwa [show c47=((0:Nat):Int)from by omega]at h9),oM,(by intro u hu;simp only[List.mem_cons,List.not_mem_nil,or_false]at hu;rcases hu with rfl|rfl|rfl;exact BQ (CJ.slc ap);exact BQ (CJ.slg ap);exact RN.one1 g1 dn),(by show BC _;unfold BC;omega),(fun _=>⟨rfl,by assumption,by omega,hKl,hKb oM,(CJ.readsG ap ce).1,(CJ.readsG ap ce).2,Ts.rg hF81l oM⟩)⟩
end
section
set_option maxHeartbeats 4000000
set_option maxRecDepth 100000
attribute [local irreducible] LW
theorem Hb (w:World)(n:Int)(vo:Nat)(ord:Int)(_hn:BC n)(hcord:EZ w.heap (.pointer (some ⟨vo,0,none⟩))=some (.int .i64 ord))(_hord:BC ord)(ho:0≤ord∧ord≤12) :
  Calls Tryz.prog 219 #[.int .i64 n,.pointer (some ⟨vo,0,none⟩)] w (fun e w'=>∃v0:Value,e=.returned (v0)∧Az w w'∧Fr (AS rI 2) w.heap.size w'.heap.size w'.heap v0 (cst (ord.toNat+1) n)):=by
 refine At [.int .i64 n,.pointer (some ⟨vo,0,none⟩)] 12 Tryz.func219 Z Z sM ?_
 have a0:Az w w:=Az.refl w
 refine A0 (Ad _ [0] Z (Ae 1 Z (A0 (Ad _ [2,0,3,0] Z (Ak (.inr Z) (.int .i64 ord) YX Z (AP a0 hcord) Ac (AI ((ord.toNat+1:Nat):Int) Z Z (B8 oM oM) Ac (EF (n:=ord.toNat+1) Bh BA Z Z Z sD Ac fun v1 w1 a1 aa a2=>?_)))))))
 have a5:=a1.size
 have a3:=a0.trans a1
 refine Ae 1 Z (A0 (Ad _ [0,0,0,4] Z (Af 2 Z (Au (v:=v1) 0 Bh BA Z Z a2.isSl Z sM Ac (Fk (v:=v1) (w:=w1) ID Z Z _hn a2 sM Ac fun w2 F2 a4 ab a6 a7=>?_)))))
 have a8:Az w w2:=a4.below a3 (fun c hc=>Aa (A9 _) (a6 c hc).1) a3.size
 have a9:w1.heap.size≤w2.heap.size:=a4.size
 exact Ah (A0 (Ad _ [0,0] Z (Ae 2 Z (A3 (Ag [3] Z v1 Z ⟨v1,rfl,a8,a7.up o1⟩)))))
theorem Jg {p:Prop}(h:p:=by first|(rw[DH oM,OF oM];exact⟨_,_,by assumption⟩)|(rw[DH oM,Mk oM];exact⟨_,_,by assumption⟩)|(rw[DH oM,Ml oM];exact⟨_,_,by assumption⟩)|(rw[DH oM,Mm oM];exact⟨_,_,by assumption⟩)|(rw[DH oM,Mn oM];exact⟨_,_,by assumption⟩)|(rw[DH oM,Mo oM];exact⟨_,_,by assumption⟩)|(rw[DH oM,Mp oM];exact⟨_,_,by assumption⟩)):p:=h
theorem Jh {p:Prop}(h:p:=by unfold maxLen;first|omega|assumption|(simp only[List.length_nil,List.length_cons,List.length_append,List.length_set,List.length_replicate];omega)|(simp[List.length_nil,List.length_cons,List.length_append,List.length_set,List.length_replicate];done)|(simp[List.length_nil,List.length_cons,List.length_append,List.length_set,List.length_replicate];omega)):p:=h
theorem Ji {p:Prop}(h:p:=by first|exact YC hzk oM|exact YD hzk oM):p:=h
theorem Jj {p:Prop}(h:p:=by exact YB hR hsA (hform k hkl) hkl):p:=h
theorem Di (w:World)(ipT:Int)(vtc vtg vtx:Value)(T:Tp)(oT:List Int)(va:Value)(A:List (List Int))(ord:Int)(_hipT:BC ipT)(htcT:RN [] (Dp 4 QI) w.heap vtc T.code)(htgT:RN [] (Dp 2 S7) w.heap vtg T.grd)(htoT:RN [] (B3 rI) w.heap vtx oT)(hA:RN [] (B3 (B3 rI)) w.heap va A)(hqA:CK va)(_hord:BC ord)(ho:0≤ord∧ord≤12)(hsA:Bt (ord.toNat+1) A)(hform:∀k,k<T.code.length→GL A.length k (T.code.getD k AF.zero))(hlt:T.code.length≤4000) :
  Calls Tryz.prog 180 #[(.agg #[(.int .i64 ipT),vtc,vtg,vtx]),va,.int .i64 ord] w (fun e w'=>∃(v0:Value) (c1:Int),e=.returned (.tuple #[v0,.int .i64 c1])∧Az w w'∧YE (ord.toNat+1) A T.code c1∧(c1=0→RN [] (B3 (B3 rI)) w'.heap v0 (Bb (ord.toNat+1) A T.code)∧CK v0)):=by
 refine At [(.agg #[(.int .i64 ipT),vtc,vtg,vtx]),va,.int .i64 ord] 109 Tryz.func180 Z Z sM ?_
 have gp:Az w w:=Az.refl w
 have hl_vtx:=htoT.lenL
 unfold maxLen at hl_vtx
 have hl_va:=hA.lenL
 unfold maxLen at hl_va
 have hS:∀b∈([]:List Nat),b<w.heap.size:=fun b hb=>by cases hb
 refine A0 (Ad _ [3,3,0,0] Z (Bx (cs:=#[(.int .i64 ipT),vtc,vtg,vtx]) Z Ac fun w1 dx im dt=>?_))
 have dy:=dx.size
 have gq:=gp.trans dx
 replace dt:BX w1.heap w.heap.size [(.int .i64 ipT),vtc,vtg,vtx]:=dt
 have jr:=dt.lt
 refine dN (u:=(.int .i64 ord)) Z Z Ac fun w2 du io dv=>?_
 have dz:=du.size
 have gr:=gq.trans du
 have bg:=dt.ext du
 replace dv:BX w2.heap w1.heap.size [(.int .i64 ord)]:=dv
 refine Ae 2 Z (A0 (Ad _ [3,0] Z ?_))
 obtain⟨BO,hBO⟩:∃b:Nat,b=w2.heap.size:=⟨_,rfl⟩
 have hwB:w.heap.size≤BO:=by omega
 have js:w.heap.size<BO:=by have:=BX.lt bg;omega
 have jt:w1.heap.size<BO:=by have:=BX.lt dv;omega
 refine BI rV Bd Bi AX Ac fun v4 w4 ch ip e0=>?_
 have e1:=ch.size
 have gs:=gr.trans ch
 have ci:=bg.ext ch
 have cj:=dv.ext ch
 obtain⟨ju,F4,jv⟩:=Ii.nil (S:=[]) (by rw[← hBO]at e0;exact e0)
 refine Ae 1 Z (A0 (Ad _ [0,0] Z (Ql [] [(.pointer (some ⟨w1.heap.size,0,none⟩))] Z Z Ac (Ae 1 Z (A0 (A0 (Ad _ [0,2,0,0] Z (Ao (p:=(.pointer (some ⟨w.heap.size,0,none⟩))) (b:=w.heap.size) (o:=0) 1 Gx Z Z Ac (Ak (p:=(Ay (.pointer (some ⟨w.heap.size,0,none⟩)) 1)) (.inr Z) vtc Mx Z (ci.ldp (i:=1) sM) Ac (AJ (v:=vtc) My Z htcT.isSl Ac (Ae 1 Z (A5 ?_))))))))))))
 refine AN (S:=Nat×Value) (fun⟨k,vo⟩=>([(8,vo),(18,(.int .i64 ((k:Nat):Int))),(1,va),(9,(.func (.func 219) #[] #[(.pointer (some ⟨w1.heap.size,0,none⟩))])),(16,vtc),(17,(.int .i64 ((T.code.length:Nat):Int)))])) (fun⟨k,vo⟩ W=>Az w W∧BX W.heap w1.heap.size [(.int .i64 ord)]∧k≤T.code.length∧w.heap.size≤BO∧BO≤W.heap.size∧Qr 27 [] BO W.heap vo (Bb (ord.toNat+1) A (T.code.take k))∧Nb (ord.toNat+1) A T.code k∧Bt (ord.toNat+1) (Bb (ord.toNat+1) A (T.code.take k))) (fun⟨k,vo⟩=>T.code.length-k) (0,v4) ⟨rfl,rfl,rfl,rfl,rfl,rfl,trivial⟩ ⟨gs,cj,oM,oM,oM,(by exact⟨_,_,by assumption⟩),(by exact dO),(by intro j hj;simp at hj)⟩ ?_
 clear gp im dx dy gq io du dz gr e0 ip ch e1 gs
 rintro⟨k,vo⟩ ρ7 w7 ⟨dw,au,gt,gu,gv,hbld,hzk,hR⟩
 have iq:w.heap.size≤w7.heap.size:=dw.size
 have hRl:(Bb (ord.toNat+1) A (T.code.take k)).length=k:=by rw[BE,List.length_take];omega
 have jw:=au.lt
 obtain⟨jx,F9,av⟩:=hbld
 have hFl:∀b∈F9,b<w7.heap.size:=av.lt
 refine A0 (Ad _ [0] Z ?_)
 by_cases ck:((k:Nat):Int)<((T.code.length:Nat):Int)
 ·refine Ax true Z Z (A7 ck) Ac (Ah (A0 (Ai Z (A4 (A0 (A5 (A0 (Ad _ [0,2,3,4] Z ?_))))))))
  have hkl:k<T.code.length:=by omega
  refine Au (v:=vtc) k My I4 Z Z htcT.isSl Z sD Ac ?_
  obtain⟨cs11,e2,e3⟩:=htcT.get AO AF.zero (k:=k) sD
  obtain⟨rfl,e4⟩:=QP e2
  refine AR (p:=Aw vtc k 4) (.inr Z) [(.int .i64 ((T.code.getD k AF.zero).op)),(.int .i64 ((T.code.getD k AF.zero).a)),(.int .i64 ((T.code.getD k AF.zero).b)),(.int .i64 ((T.code.getD k AF.zero).num))] Ft Z (fun wq9 ir=>e3 wq9 (AE.of_ext [] (dw.trans ir))) Z Ac ?_
  have is:=au.lt
  refine BJ (z:=.agg #[.int .i64 0,.int .i64 0,.int .i64 0,.int .i64 0]) SR Ac fun w12 ai it bn=>?_
  have gw:=ai.size
  have cl:=dw.trans ai
  have aw:=au.ext ai
  have iu:=av.ext ai
  replace bn:BX w12.heap w7.heap.size [(.int .i64 0),(.int .i64 0),(.int .i64 0),(.int .i64 0)]:=bn
  refine CT (vs:=[(.int .i64 ((T.code.getD k AF.zero).op)),(.int .i64 ((T.code.getD k AF.zero).a)),(.int .i64 ((T.code.getD k AF.zero).b)),(.int .i64 ((T.code.getD k AF.zero).num))]) Ft Z Z (by intro u hu;simp only[List.mem_cons,List.not_mem_nil,or_false]at hu;rcases hu with rfl|rfl|rfl|rfl <;> first|exact⟨rfl,rfl⟩) bn Z Z Ac fun w15 ay iv az=>?_
  replace az:BX w15.heap w7.heap.size [(.int .i64 ((T.code.getD k AF.zero).op)),(.int .i64 ((T.code.getD k AF.zero).a)),(.int .i64 ((T.code.getD k AF.zero).b)),(.int .i64 ((T.code.getD k AF.zero).num))]:=az
  have e5:Az w w15:=ay.below cl (fun c hc=>by have:=Ab hc;omega) cl.size
  have gx:w12.heap.size≤w15.heap.size:=ay.size
  have cm:=aw.chg ay (fun hm=>by have:=Ab hm;omega)
  have e6:=av.ext (ay.below ai (fun c hc=>by have:=Ab hc;omega) ai.size)
  refine Ah (A0 (Ad _ [0,0,2,3,0] Z (Af 1 Z (Ao (p:=(.pointer (some ⟨w7.heap.size,0,none⟩))) (b:=w7.heap.size) (o:=0) 3 LF Z Z Ac (Ak (p:=(Ay (.pointer (some ⟨w7.heap.size,0,none⟩)) 3)) (.inr Z) (.int .i64 ((T.code.getD k AF.zero).num)) AH Z (az.ldp (i:=3) sM) Ac (Ap 219 [] [(.pointer (some ⟨w1.heap.size,0,none⟩))] [(.int .i64 ((T.code.getD k AF.zero).num)),(.pointer (some ⟨w1.heap.size,0,none⟩))] Z Z iB Ac (Hb _ _ (w1.heap.size) (ord) e4.2.2.2 (cm.ld (k:=0) sM) _hord oM) ?_))))))
  rintro e18 w18 ⟨bh,rfl,aj,ad⟩
  refine⟨_,rfl,aj,?_⟩
  have gy:=aj.size
  have a8:=e5.trans aj
  have a2:=cm.ext aj
  have a0:=az.ext aj
  have a1:=e6.ext aj
  refine Ae 1 Z (A0 (A0 (Ad _ [0,2] Z (Ao (p:=(.pointer (some ⟨w7.heap.size,0,none⟩))) (b:=w7.heap.size) (o:=0) 0 LE Z Z Ac (Ak (p:=(Ay (.pointer (some ⟨w7.heap.size,0,none⟩)) 0)) (.inr Z) (.int .i64 ((T.code.getD k AF.zero).op)) AH Z (a0.ldp (i:=0) sM) Ac (Ah (A5 (A0 (Ad _ [0,0] Z ?_)))))))))
  by_cases cn:(T.code.getD k AF.zero).op=((1:Nat):Int)
  ·refine AA true Z Z (A7 cn) Ac (Ae 1 Z (Ai Z (Ad _ [0,0,2,0,2,0] Z ?_)))
   have hio:=(hform k hkl).i1 oM
   refine Af 1 Z (Ao (p:=(.pointer (some ⟨w7.heap.size,0,none⟩))) (b:=w7.heap.size) (o:=0) 3 LF Z Z Ac (Ak (p:=(Ay (.pointer (some ⟨w7.heap.size,0,none⟩)) 3)) (.inr Z) (.int .i64 ((T.code.getD k AF.zero).num)) AH Z (a0.ldp (i:=3) sM) Ac (Au (v:=va) (((T.code.getD k AF.zero).num).toNat) Bi AX Z Z hA.slL oM sD Ac ?_)))
   obtain⟨bo,e7,bp⟩:=RN.getL (w:=w) g1 [] (k:=((T.code.getD k AF.zero).num).toNat) hA sD
   have co:=bp.lenL
   unfold maxLen at co
   refine Ak (p:=Aw va (((T.code.getD k AF.zero).num).toNat) 1) (.inr Z) bo B6 Z (e7 _ (AE.of_ext [] a8)) Ac (Ae 1 Z (Ad _ [0,0,3,4,0] Z (Af 2 Z (Bq (u:=bo) (B:=w18.heap.size) Bd Bi AX Z Z (Nz w18.heap.size w18.heap.size _ (bp.one1 g1)) (A9 _) Ac fun v22 w22 b0 iw e8=>?_))))
   have gz:=b0.size
   have bq:=a8.trans b0
   have b1:=a2.ext b0
   have b2:=a1.ext b0
   refine Fl (v:=vo) (a:=v22) (u:=bo) Bi AX Z Z Z b2 oM e8 (RN.stp g1 bp (AE.of_ext [] bq) (fun b hb=>.inr (by have:=b2.low b (by simpa using hb);omega))) sD Jh Ac ?_
   rintro v24 w24 G24 br cp ⟨ix,F24,iy⟩
   have i0:w22.heap.size≤w24.heap.size:=br.size
   have e9:Az w w24:=br.below bq (fun c hc=>Aa hwB (b2.low c (cp c hc))) bq.size
   have ea:=b1.chg br (fun hm=>by have:=b2.low _ (cp _ hm);omega)
   refine Ae 1 Z (Ad _ [0,0] Z (AI ((k+1:Nat):Int) Z Z (B8 oM sD) Ac (Ae 1 Z ?_)))
   exact⟨((k+1),v24),_,rfl,⟨rfl,rfl,rfl,rfl,rfl,rfl,trivial⟩,⟨e9,ea,oM,oM,oM,Jg,Ji,Jj⟩,by first|omega|(dsimp only;omega)⟩
  ·refine AA false Z Z (A8 cn) Ac (Ae 1 Z (Aj Z (A0 (Ad _ [0,0] Z ?_))))
   by_cases cq:(T.code.getD k AF.zero).op=((3:Nat):Int)
   ·refine AA true Z Z (A7 cq) Ac (Ae 1 Z (Ai Z (AY _ [0,0,1,0,1,0,0,1,0,1,3,0] mixed (by kernel_rfl) ?_)))
    have hio:=(hform k hkl).i2 oM
    have hra:=hR (T.code.getD k AF.zero).a.toNat oM
    have hrb:=hR (T.code.getD k AF.zero).b.toNat oM
    have b3:=hra.1
    have bs:=hrb.1
    refine Af 1 Z (Ao (p:=(.pointer (some ⟨w7.heap.size,0,none⟩))) (b:=w7.heap.size) (o:=0) 1 DI Z Z Ac (Ak (p:=(Ay (.pointer (some ⟨w7.heap.size,0,none⟩)) 1)) (.inl Z) (.int .i64 ((T.code.getD k AF.zero).a)) AH Z (a0.ldp (i:=1) sM) Ac (Au (v:=vo) (((T.code.getD k AF.zero).a).toNat) Bi AX Z Z (a1.done (fun b hb=>absurd hb List.not_mem_nil)).slL oM sD Ac ?_)))
    obtain⟨cr,eb,bt⟩:=RN.getL (w:=w18) g1 [] (k:=((T.code.getD k AF.zero).a).toNat) (a1.done (fun b hb=>absurd hb List.not_mem_nil)) sD
    have ct:=bt.lenL
    unfold maxLen at ct
    refine Ak (p:=Aw vo (((T.code.getD k AF.zero).a).toNat) 1) (.inl Z) cr B6 Z (eb _ (AE.refl _ _).drew) Ac (Af 1 Z (Ao (p:=(.pointer (some ⟨w7.heap.size,0,none⟩))) (b:=w7.heap.size) (o:=0) 2 Do Z Z Ac (Ak (p:=(Ay (.pointer (some ⟨w7.heap.size,0,none⟩)) 2)) (.inl Z) (.int .i64 ((T.code.getD k AF.zero).b)) AH Z (a0.ldp (i:=2) sM) Ac ?_)))
    refine Au (v:=vo) (((T.code.getD k AF.zero).b).toNat) Bi AX Z Z (a1.done (fun b hb=>absurd hb List.not_mem_nil)).slL oM sD Ac ?_
    obtain⟨cu,ec,bu⟩:=RN.getL (w:=w18) g1 [] (k:=((T.code.getD k AF.zero).b).toNat) (a1.done (fun b hb=>absurd hb List.not_mem_nil)) sD
    have cv:=bu.lenL
    unfold maxLen at cv
    refine Ak (p:=Aw vo (((T.code.getD k AF.zero).b).toNat) 1) (.inl Z) cu B6 Z (ec _ (AE.refl _ _).drew) Ac (Ap 102 [] [] [cr,cu] Z Z Qa Ac (Et _ _ _ _ _ (bt).rd (bu).rd oM oM (by exact hra.2) (by exact hrb.2)) ?_)
    rintro e29 w29 ⟨bi,rfl,a9,a3⟩
    refine⟨_,rfl,a9,?_⟩
    replace a9:=a9.of_drew
    have i3:=a9.size
    have ed:=a8.trans a9
    have b4:=a2.ext a9
    have ee:=a1.ext a9
    have ef:=bt.ext g1 a9
    have eg:=bu.ext g1 a9
    replace a3:=a3.low (B':=w18.heap.size) (A9 _)
    refine Ae 1 Z (Ad _ [0,0,3,4,0] Z (Af 2 Z (Bq (u:=bi) (B:=w29.heap.size) Bd Bi AX Z Z (Nz w29.heap.size w29.heap.size _ (⟨(Bj a3.isSl).1,(Bj a3.isSl).2⟩)) (A9 _) Ac fun v33 w33 ae iz eh=>?_)))
    have i4:=ae.size
    have cw:=ed.trans ae
    have b5:=b4.ext ae
    have ak:=a3.ext (o1) ae
    have bv:=ee.ext ae
    have j0:=ef.ext g1 ae
    have j1:=eg.ext g1 ae
    refine Fl (v:=vo) (a:=v33) (u:=bi) Bi AX Z Z Z bv oM eh (RN.of_fr1 ak (fun b hb=>by have:=hFl b (by simpa using hb);omega)) sD Jh Ac ?_
    rintro v37 w37 G37 bw cx ⟨j2,F37,j3⟩
    have i5:w33.heap.size≤w37.heap.size:=bw.size
    have ei:Az w w37:=bw.below cw (fun c hc=>Aa hwB (bv.low c (cx c hc))) cw.size
    have ej:=b5.chg bw (fun hm=>by have:=bv.low _ (cx _ hm);omega)
    refine Ae 1 Z (Ad _ [0,0] Z (AI ((k+1:Nat):Int) Z Z (B8 oM sD) Ac (Ae 1 Z ?_)))
    exact⟨((k+1),v37),_,rfl,⟨rfl,rfl,rfl,rfl,rfl,rfl,trivial⟩,⟨ei,ej,oM,oM,oM,Jg,Ji,Jj⟩,by first|omega|(dsimp only;omega)⟩
   ·refine AA false Z Z (A8 cq) Ac (Ae 1 Z (Aj Z (A0 (Ad _ [0,0] Z ?_))))
    by_cases cy:(T.code.getD k AF.zero).op=((4:Nat):Int)
    ·refine AA true Z Z (A7 cy) Ac (Ae 1 Z (Ai Z (AY _ [0,0,1,0,1,0,0,1,0,1,3,0] mixed (by kernel_rfl) ?_)))
     have hio:=(hform k hkl).i2 oM
     have hra:=hR (T.code.getD k AF.zero).a.toNat oM
     have hrb:=hR (T.code.getD k AF.zero).b.toNat oM
     have b3:=hra.1
     have bs:=hrb.1
     refine Af 1 Z (Ao (p:=(.pointer (some ⟨w7.heap.size,0,none⟩))) (b:=w7.heap.size) (o:=0) 1 DI Z Z Ac (Ak (p:=(Ay (.pointer (some ⟨w7.heap.size,0,none⟩)) 1)) (.inl Z) (.int .i64 ((T.code.getD k AF.zero).a)) AH Z (a0.ldp (i:=1) sM) Ac (Au (v:=vo) (((T.code.getD k AF.zero).a).toNat) Bi AX Z Z (a1.done (fun b hb=>absurd hb List.not_mem_nil)).slL oM sD Ac ?_)))
     obtain⟨cz,ek,bx⟩:=RN.getL (w:=w18) g1 [] (k:=((T.code.getD k AF.zero).a).toNat) (a1.done (fun b hb=>absurd hb List.not_mem_nil)) sD
     have d0:=bx.lenL
     unfold maxLen at d0
     refine Ak (p:=Aw vo (((T.code.getD k AF.zero).a).toNat) 1) (.inl Z) cz B6 Z (ek _ (AE.refl _ _).drew) Ac (Af 1 Z (Ao (p:=(.pointer (some ⟨w7.heap.size,0,none⟩))) (b:=w7.heap.size) (o:=0) 2 Do Z Z Ac (Ak (p:=(Ay (.pointer (some ⟨w7.heap.size,0,none⟩)) 2)) (.inl Z) (.int .i64 ((T.code.getD k AF.zero).b)) AH Z (a0.ldp (i:=2) sM) Ac ?_)))
     refine Au (v:=vo) (((T.code.getD k AF.zero).b).toNat) Bi AX Z Z (a1.done (fun b hb=>absurd hb List.not_mem_nil)).slL oM sD Ac ?_
     obtain⟨d1,el,bz⟩:=RN.getL (w:=w18) g1 [] (k:=((T.code.getD k AF.zero).b).toNat) (a1.done (fun b hb=>absurd hb List.not_mem_nil)) sD
     have d2:=bz.lenL
     unfold maxLen at d2
     refine Ak (p:=Aw vo (((T.code.getD k AF.zero).b).toNat) 1) (.inl Z) d1 B6 Z (el _ (AE.refl _ _).drew) Ac (Ap 132 [] [] [cz,d1] Z Z SF Ac (Eu _ _ _ _ _ (bx).rd (bz).rd oM oM oM (by exact hra.2) (by exact hrb.2)) ?_)
     rintro e42 w42 ⟨bj,rfl,aa,a4⟩
     refine⟨_,rfl,aa,?_⟩
     replace aa:=aa.of_drew
     have i6:=aa.size
     have em:=a8.trans aa
     have b6:=a2.ext aa
     have en:=a1.ext aa
     have eo:=bx.ext g1 aa
     have ep:=bz.ext g1 aa
     replace a4:=a4.low (B':=w18.heap.size) (A9 _)
     refine Ae 1 Z (Ad _ [0,0,3,4,0] Z (Af 2 Z (Bq (u:=bj) (B:=w42.heap.size) Bd Bi AX Z Z (Nz w42.heap.size w42.heap.size _ (⟨(Bj a4.isSl).1,(Bj a4.isSl).2⟩)) (A9 _) Ac fun v46 w46 af j4 eq=>?_)))
     have i8:=af.size
     have d3:=em.trans af
     have b7:=b6.ext af
     have al:=a4.ext (o1) af
     have c0:=en.ext af
     have j5:=eo.ext g1 af
     have j6:=ep.ext g1 af
     refine Fl (v:=vo) (a:=v46) (u:=bj) Bi AX Z Z Z c0 oM eq (RN.of_fr1 al (fun b hb=>by have:=hFl b (by simpa using hb);omega)) sD Jh Ac ?_
     rintro v50 w50 G50 c2 d4 ⟨j7,F50,j8⟩
     have i9:w46.heap.size≤w50.heap.size:=c2.size
     have er:Az w w50:=c2.below d3 (fun c hc=>Aa hwB (c0.low c (d4 c hc))) d3.size
     have es:=b7.chg c2 (fun hm=>by have:=c0.low _ (d4 _ hm);omega)
     refine Ae 1 Z (Ad _ [0,0] Z (AI ((k+1:Nat):Int) Z Z (B8 oM sD) Ac (Ae 1 Z ?_)))
     exact⟨((k+1),v50),_,rfl,⟨rfl,rfl,rfl,rfl,rfl,rfl,trivial⟩,⟨er,es,oM,oM,oM,Jg,Ji,Jj⟩,by first|omega|(dsimp only;omega)⟩
    ·refine AA false Z Z (A8 cy) Ac (Ae 1 Z (Aj Z (A0 (Ad _ [0,0] Z ?_))))
     by_cases d5:(T.code.getD k AF.zero).op=((5:Nat):Int)
     ·refine AA true Z Z (A7 d5) Ac (Ae 1 Z (Ai Z (AY _ [0,0,1,0,1,0,0,1,0,1,3,0] mixed (by kernel_rfl) ?_)))
      have hio:=(hform k hkl).i2 oM
      have hra:=hR (T.code.getD k AF.zero).a.toNat oM
      have hrb:=hR (T.code.getD k AF.zero).b.toNat oM
      have b3:=hra.1
      have bs:=hrb.1
      refine Af 1 Z (Ao (p:=(.pointer (some ⟨w7.heap.size,0,none⟩))) (b:=w7.heap.size) (o:=0) 1 DI Z Z Ac (Ak (p:=(Ay (.pointer (some ⟨w7.heap.size,0,none⟩)) 1)) (.inl Z) (.int .i64 ((T.code.getD k AF.zero).a)) AH Z (a0.ldp (i:=1) sM) Ac (Au (v:=vo) (((T.code.getD k AF.zero).a).toNat) Bi AX Z Z (a1.done (fun b hb=>absurd hb List.not_mem_nil)).slL oM sD Ac ?_)))
      obtain⟨d6,et,c3⟩:=RN.getL (w:=w18) g1 [] (k:=((T.code.getD k AF.zero).a).toNat) (a1.done (fun b hb=>absurd hb List.not_mem_nil)) sD
      have d7:=c3.lenL
      unfold maxLen at d7
      refine Ak (p:=Aw vo (((T.code.getD k AF.zero).a).toNat) 1) (.inl Z) d6 B6 Z (et _ (AE.refl _ _).drew) Ac (Af 1 Z (Ao (p:=(.pointer (some ⟨w7.heap.size,0,none⟩))) (b:=w7.heap.size) (o:=0) 2 Do Z Z Ac (Ak (p:=(Ay (.pointer (some ⟨w7.heap.size,0,none⟩)) 2)) (.inl Z) (.int .i64 ((T.code.getD k AF.zero).b)) AH Z (a0.ldp (i:=2) sM) Ac ?_)))
      refine Au (v:=vo) (((T.code.getD k AF.zero).b).toNat) Bi AX Z Z (a1.done (fun b hb=>absurd hb List.not_mem_nil)).slL oM sD Ac ?_
      obtain⟨d8,eu,c4⟩:=RN.getL (w:=w18) g1 [] (k:=((T.code.getD k AF.zero).b).toNat) (a1.done (fun b hb=>absurd hb List.not_mem_nil)) sD
      have d9:=c4.lenL
      unfold maxLen at d9
      refine Ak (p:=Aw vo (((T.code.getD k AF.zero).b).toNat) 1) (.inl Z) d8 B6 Z (eu _ (AE.refl _ _).drew) Ac (Ap 151 [] [] [d6,d8] Z Z Qc Ac (Dy _ _ _ _ _ (c3).rd (c4).rd oM oM (by exact hra.2) (by exact hrb.2)) ?_)
      rintro e55 w55 ⟨bk,rfl,ab,a5⟩
      refine⟨_,rfl,ab,?_⟩
      replace ab:=ab.of_drew
      have ia:=ab.size
      have ev:=a8.trans ab
      have b8:=a2.ext ab
      have ew:=a1.ext ab
      have ex:=c3.ext g1 ab
      have ey:=c4.ext g1 ab
      replace a5:=a5.low (B':=w18.heap.size) (A9 _)
      refine Ae 1 Z (Ad _ [0,0,3,4,0] Z (Af 2 Z (Bq (u:=bk) (B:=w55.heap.size) Bd Bi AX Z Z (Nz w55.heap.size w55.heap.size _ (⟨(Bj a5.isSl).1,(Bj a5.isSl).2⟩)) (A9 _) Ac fun v59 w59 ag j9 ez=>?_)))
      have ib:=ag.size
      have da:=ev.trans ag
      have b9:=b8.ext ag
      have am:=a5.ext (o1) ag
      have c5:=ew.ext ag
      have ja:=ex.ext g1 ag
      have jb:=ey.ext g1 ag
      refine Fl (v:=vo) (a:=v59) (u:=bk) Bi AX Z Z Z c5 oM ez (RN.of_fr1 am (fun b hb=>by have:=hFl b (by simpa using hb);omega)) sD Jh Ac ?_
      rintro v63 w63 G63 c6 db ⟨jc,F63,jd⟩
      have ic:w59.heap.size≤w63.heap.size:=c6.size
      have g0:Az w w63:=c6.below da (fun c hc=>Aa hwB (c5.low c (db c hc))) da.size
      have g2:=b9.chg c6 (fun hm=>by have:=c5.low _ (db _ hm);omega)
      refine Ae 1 Z (Ad _ [0,0] Z (AI ((k+1:Nat):Int) Z Z (B8 oM sD) Ac (Ae 1 Z ?_)))
      exact⟨((k+1),v63),_,rfl,⟨rfl,rfl,rfl,rfl,rfl,rfl,trivial⟩,⟨g0,g2,oM,oM,oM,Jg,Ji,Jj⟩,by first|omega|(dsimp only;omega)⟩
     ·refine AA false Z Z (A8 d5) Ac (Ae 1 Z (Aj Z (A0 (Ad _ [0,0] Z ?_))))
      by_cases dc:(T.code.getD k AF.zero).op=((7:Nat):Int)
      ·refine AA true Z Z (A7 dc) Ac (Ae 1 Z (Ai Z (Ad _ [0,0,2,0,2,3,0] Z ?_)))
       have hio:=(hform k hkl).i7 oM
       have hra:=hR (T.code.getD k AF.zero).a.toNat oM
       have b3:=hra.1
       refine Af 1 Z (Ao (p:=(.pointer (some ⟨w7.heap.size,0,none⟩))) (b:=w7.heap.size) (o:=0) 1 DI Z Z Ac (Ak (p:=(Ay (.pointer (some ⟨w7.heap.size,0,none⟩)) 1)) (.inr Z) (.int .i64 ((T.code.getD k AF.zero).a)) AH Z (a0.ldp (i:=1) sM) Ac (Au (v:=vo) (((T.code.getD k AF.zero).a).toNat) Bi AX Z Z (a1.done (fun b hb=>absurd hb List.not_mem_nil)).slL oM sD Ac ?_)))
       obtain⟨dd,g3,c7⟩:=RN.getL (w:=w18) g1 [] (k:=((T.code.getD k AF.zero).a).toNat) (a1.done (fun b hb=>absurd hb List.not_mem_nil)) sD
       have de:=c7.lenL
       unfold maxLen at de
       refine Ak (p:=Aw vo (((T.code.getD k AF.zero).a).toNat) 1) (.inr Z) dd B6 Z (g3 _ (AE.refl _ _)) Ac (Ap 103 [] [] [dd,(.int .i64 ((1000002:Nat):Int))] Z Z O2 Ac (De _ _ _ _ (c7).rd oM oM (by exact hra.2) oM) ?_)
       rintro e67 w67 ⟨bl,rfl,an,ah⟩
       refine⟨_,rfl,an,?_⟩
       have id:=an.size
       have g4:=a8.trans an
       have ba:=a2.ext an
       have g5:=a1.ext an
       have g6:=c7.ext g1 an
       refine Ae 1 Z (Ad _ [0,0,3,4,0] Z (Af 2 Z (Bq (u:=bl) (B:=w67.heap.size) Bd Bi AX Z Z (Nz w67.heap.size w67.heap.size _ (⟨(Bj ah.isSl).1,(Bj ah.isSl).2⟩)) (A9 _) Ac fun v70 w70 ao je g7=>?_)))
       have ie:=ao.size
       have df:=g4.trans ao
       have bb:=ba.ext ao
       have ap:=ah.ext (o1) ao
       have c8:=g5.ext ao
       have jf:=g6.ext g1 ao
       refine Fl (v:=vo) (a:=v70) (u:=bl) Bi AX Z Z Z c8 oM g7 (RN.of_fr1 ap (fun b hb=>by have:=hFl b (by simpa using hb);omega)) sD Jh Ac ?_
       rintro v73 w73 G73 c9 dg ⟨jg,F73,jh⟩
       have ig:w70.heap.size≤w73.heap.size:=c9.size
       have g8:Az w w73:=c9.below df (fun c hc=>Aa hwB (c8.low c (dg c hc))) df.size
       have g9:=bb.chg c9 (fun hm=>by have:=c8.low _ (dg _ hm);omega)
       refine Ae 1 Z (Ad _ [0,0] Z (AI ((k+1:Nat):Int) Z Z (B8 oM sD) Ac (Ae 1 Z ?_)))
       exact⟨((k+1),v73),_,rfl,⟨rfl,rfl,rfl,rfl,rfl,rfl,trivial⟩,⟨g8,g9,oM,oM,oM,Jg,Ji,Jj⟩,by first|omega|(dsimp only;omega)⟩
      ·refine AA false Z Z (A8 dc) Ac (Ae 1 Z (Aj Z (A0 (Ad _ [0,0] Z ?_))))
       by_cases dh:(T.code.getD k AF.zero).op=((6:Nat):Int)
       ·refine AA true Z Z (A7 dh) Ac (Ae 1 Z (Ai Z (A0 (A0 (Ad _ [0,0,2,0,2,0,2,0] Z ?_)))))
        have hio:=(hform k hkl).i2 oM
        have hra:=hR (T.code.getD k AF.zero).a.toNat oM
        have hrb:=hR (T.code.getD k AF.zero).b.toNat oM
        have b3:=hra.1
        have bs:=hrb.1
        refine Af 1 Z (Ao (p:=(.pointer (some ⟨w7.heap.size,0,none⟩))) (b:=w7.heap.size) (o:=0) 2 Do Z Z Ac (Ak (p:=(Ay (.pointer (some ⟨w7.heap.size,0,none⟩)) 2)) (.inr Z) (.int .i64 ((T.code.getD k AF.zero).b)) AH Z (a0.ldp (i:=2) sM) Ac (Au (v:=vo) (((T.code.getD k AF.zero).b).toNat) Bi AX Z Z (a1.done (fun b hb=>absurd hb List.not_mem_nil)).slL oM sD Ac ?_)))
        obtain⟨ca,ga,bc⟩:=RN.getL (w:=w18) g1 [] (k:=((T.code.getD k AF.zero).b).toNat) (a1.done (fun b hb=>absurd hb List.not_mem_nil)) sD
        have di:=bc.lenL
        unfold maxLen at di
        refine Ak (p:=Aw vo (((T.code.getD k AF.zero).b).toNat) 1) (.inr Z) ca B6 Z (ga _ (AE.refl _ _)) Ac (Au (v:=ca) 0 Bh BA Z Z bc.slL Z sD Ac ?_)
        have gb:=RN.getI (w:=w18) (k:=0) bc sD
        refine Ak (p:=Aw ca 0 1) (.inr Z) (.int .i64 (((Bb (ord.toNat+1) A (T.code.take k)).getD (((T.code.getD k AF.zero).b).toNat) []).getD 0 0)) AH Z (gb.1 _ (AE.refl _ _)) Ac ?_
        by_cases dj:((Bb (ord.toNat+1) A (T.code.take k)).getD (((T.code.getD k AF.zero).b).toNat) []).getD 0 0=((0:Nat):Int)
        ·exact AA true Z Z (A7 dj) Ac (Ah (Ai Z (A0 (Ad _ [0,0] Z (Ae 2 Z (A3 (Aq (AL (Aq (AL (Aq (Aq (AL (Aq (Ag [6,7] Z (.tuple #[(.slice none 0 0),(.int .i64 ((6:Nat):Int))]) Z ⟨_,_,rfl,a8,.inr ⟨rfl,VC oM oM oM⟩,(fun h9=>absurd h9 oM)⟩)))))))))))))))
        ·refine AA false Z Z (A8 dj) Ac (Ah (Aj Z (A4 (AY _ [0,0,1,0,1,0,0,1,0,1,3,0] mixed (by kernel_rfl) (Af 1 Z (Ao (p:=(.pointer (some ⟨w7.heap.size,0,none⟩))) (b:=w7.heap.size) (o:=0) 1 DI Z Z Ac (Ak (p:=(Ay (.pointer (some ⟨w7.heap.size,0,none⟩)) 1)) (.inl Z) (.int .i64 ((T.code.getD k AF.zero).a)) AH Z (a0.ldp (i:=1) sM) Ac ?_)))))))
         refine Au (v:=vo) (((T.code.getD k AF.zero).a).toNat) Bi AX Z Z (a1.done (fun b hb=>absurd hb List.not_mem_nil)).slL oM sD Ac ?_
         obtain⟨dk,gc,cb⟩:=RN.getL (w:=w18) g1 [] (k:=((T.code.getD k AF.zero).a).toNat) (a1.done (fun b hb=>absurd hb List.not_mem_nil)) sD
         have dl:=cb.lenL
         unfold maxLen at dl
         refine Ak (p:=Aw vo (((T.code.getD k AF.zero).a).toNat) 1) (.inl Z) dk B6 Z (gc _ (AE.refl _ _).drew) Ac (Af 1 Z (Ao (p:=(.pointer (some ⟨w7.heap.size,0,none⟩))) (b:=w7.heap.size) (o:=0) 2 Do Z Z Ac (Ak (p:=(Ay (.pointer (some ⟨w7.heap.size,0,none⟩)) 2)) (.inl Z) (.int .i64 ((T.code.getD k AF.zero).b)) AH Z (a0.ldp (i:=2) sM) Ac ?_)))
         refine Au (v:=vo) (((T.code.getD k AF.zero).b).toNat) Bi AX Z Z (a1.done (fun b hb=>absurd hb List.not_mem_nil)).slL oM sD Ac ?_
         obtain⟨dm,gd,cc⟩:=RN.getL (w:=w18) g1 [] (k:=((T.code.getD k AF.zero).b).toNat) (a1.done (fun b hb=>absurd hb List.not_mem_nil)) sD
         have dn:=cc.lenL
         unfold maxLen at dn
         refine Ak (p:=Aw vo (((T.code.getD k AF.zero).b).toNat) 1) (.inl Z) dm B6 Z (gd _ (AE.refl _ _).drew) Ac (Ap 185 [] [] [dk,dm] Z Z Xc Ac (Fx _ _ _ _ _ (cb).rd (cc).rd oM oM oM (by exact hra.2) (by exact hrb.2)) ?_)
         rintro e81 w81 ⟨bm,rfl,a7,a6⟩
         refine⟨_,rfl,a7,?_⟩
         replace a7:=a7.of_drew
         have ih:=a7.size
         have ge:=a8.trans a7
         have bd:=a2.ext a7
         have gf:=a1.ext a7
         have gg:=bc.ext g1 a7
         have gh:=cb.ext g1 a7
         have gi:=cc.ext g1 a7
         replace a6:=a6.low (B':=w18.heap.size) (A9 _)
         refine Ae 1 Z (Ad _ [0,0,3,4,0] Z (Af 2 Z (Bq (u:=bm) (B:=w81.heap.size) Bd Bi AX Z Z (Nz w81.heap.size w81.heap.size _ (⟨(Bj a6.isSl).1,(Bj a6.isSl).2⟩)) (A9 _) Ac fun v86 w86 ac ji gj=>?_)))
         have ii:=ac.size
         have dp:=ge.trans ac
         have be:=bd.ext ac
         have aq:=a6.ext (o1) ac
         have cd:=gf.ext ac
         have jj:=gg.ext g1 ac
         have jk:=gh.ext g1 ac
         have jl:=gi.ext g1 ac
         refine Fl (v:=vo) (a:=v86) (u:=bm) Bi AX Z Z Z cd oM gj (RN.of_fr1 aq (fun b hb=>by have:=hFl b (by simpa using hb);omega)) sD Jh Ac ?_
         rintro v91 w91 G91 ce dq ⟨jm,F91,jn⟩
         have ij:w86.heap.size≤w91.heap.size:=ce.size
         have gk:Az w w91:=ce.below dp (fun c hc=>Aa hwB (cd.low c (dq c hc))) dp.size
         have gl:=be.chg ce (fun hm=>by have:=cd.low _ (dq _ hm);omega)
         refine Ae 1 Z (Ad _ [0,0] Z (AI ((k+1:Nat):Int) Z Z (B8 oM sD) Ac (Ae 1 Z ?_)))
         exact⟨((k+1),v91),_,rfl,⟨rfl,rfl,rfl,rfl,rfl,rfl,trivial⟩,⟨gk,gl,oM,oM,oM,Jg,Ji,Jj⟩,by first|omega|(dsimp only;omega)⟩
       ·refine AA false Z Z (A8 dh) Ac (Ae 1 Z (Aj Z (A4 (Ad _ [0,0,3,4,0] Z (Af 2 Z (Bq (u:=bh) (B:=w18.heap.size) Bd Bi AX Z Z (Nz w18.heap.size w18.heap.size _ (⟨(Bj ad.isSl).1,(Bj ad.isSl).2⟩)) (A9 _) Ac fun v93 w93 ax jo gm=>?_))))))
        have ik:=ax.size
        have dr:=a8.trans ax
        have bf:=a2.ext ax
        have ar:=ad.ext (o1) ax
        have cf:=a1.ext ax
        refine Fl (v:=vo) (a:=v93) (u:=bh) Bi AX Z Z Z cf oM gm (RN.of_fr1 ar (fun b hb=>by have:=hFl b (by simpa using hb);omega)) sD Jh Ac ?_
        rintro v95 w95 G95 cg ds ⟨jp,F95,jq⟩
        have il:w93.heap.size≤w95.heap.size:=cg.size
        have gn:Az w w95:=cg.below dr (fun c hc=>Aa hwB (cf.low c (ds c hc))) dr.size
        have go:=bf.chg cg (fun hm=>by have:=cf.low _ (ds _ hm);omega)
        refine Ae 1 Z (Ad _ [0,0] Z (AI ((k+1:Nat):Int) Z Z (B8 oM sD) Ac (Ae 1 Z ?_)))
        exact⟨((k+1),v95),_,rfl,⟨rfl,rfl,rfl,rfl,rfl,rfl,trivial⟩,⟨gn,go,oM,oM,oM,Jg,Ji,Jj⟩,by first|omega|(dsimp only;omega)⟩
 ·exact Ax false Z Z (A8 ck) Ac (Ah (A0 (Aj Z (A6 (As (As (An (A0 (Ad _ [0,0,0] Z (Ae 3 Z (A3 (Ag [6,7] Z (.tuple #[vo,(.int .i64 ((0:Nat):Int))]) Z ⟨_,_,rfl,dw,.inl ⟨rfl,(by have h9:=hzk;rwa [show k=T.code.length from by omega]at h9)⟩,(fun _=>⟨(by have h9:=av.done (fun b hb=>absurd hb List.not_mem_nil);rwa [List.take_of_length_le oM]at h9),av.cap⟩)⟩))))))))))))
end
end Go.Proofs.YtnokbaiemimhjaaGreat
