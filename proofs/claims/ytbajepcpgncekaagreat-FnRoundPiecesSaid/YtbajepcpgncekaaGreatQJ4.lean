/- Vi, Vj, Vk, Vl, Vn, Vo, Ya, Yb: texts of this claim, joined; what the claim does not come to is left out. -/
import Derived.Test.YtbajepcpgncekaaGreatQJ3
import Derived.Test.YtbajepcpgncekaaGreatProg
set_option linter.unusedVariables false
set_option linter.unusedSimpArgs false
namespace Go.Proofs.YtbajepcpgncekaaGreat
open Go Go.RowKit
section
set_option maxHeartbeats 4000000
set_option maxRecDepth 100000
attribute [local irreducible] LW
theorem LV (w:World)(a:Int)(b:Int)(_ha:Bx a)(_hb:Bx b)  :
  Calls Tryz.prog 286 #[.int .i64 a,.int .i64 b] w (fun e w'=>e=.returned (.int .i64 (max a b))∧w'=w):=by
 refine Aq [.int .i64 a,.int .i64 b] 10 Tryz.func286 Z Z sM ?_
 have a0:w=w:=rfl
 refine A0 (Ab _ [0] Z (Ac 1 Z (A0 (A0 (Ab _ [0,0,0] Z (Ad 2 Z ?_))))))
 by_cases a1:b<a
 ·exact BU true Z Z (A5 a1) Aa (Aj (Ag Z (A0 (Ab _ [0,0] Z (Ac 2 Z (A1 (Al (Af [4] Z (.int .i64 a) Z ⟨(B4 oM),a0⟩))))))))
 ·exact BU false Z Z (A6 a1) Aa (Aj (Ah Z (A2 (A0 (Ab _ [0,0] Z (Ac 2 Z (A1 (Af [4] Z (.int .i64 b) Z ⟨(B4 oM),a0⟩))))))))
theorem Tn {p:Prop}(h:p:=by rw[U9,hx];first|rw[List.take_of_length_le oM]|exact(Mk oM).symm):p:=h
theorem HD (w:World)(dex:Nat)(ve:Value)(ex:Ex)(left:Int)(hex:RN [] (rP (LK dex)) w.heap ve ex)(_hleft:Bx left)(af:0≤left∧left≤100000)(hs:ex.size≤1000000000) :
  Calls Tryz.prog 239 #[ve,.int .i64 left] w (fun e w'=>e=.returned (.int .i64 (I0 ex left))∧AF w w'):=by
 induction dex using Nat.strongRecOn generalizing w ve ex left
 rename_i dex ih
 refine Aq [ve,.int .i64 left] 30 Tryz.func239 Z Z sM ?_
 have a6:AF w w:=AF.refl w
 have hsk:=Cv ex
 refine A0 (Ab _ [0] Z (Ac 1 Z (A0 (Ab _ [0,0,0] Z (Ad 1 Z (Bs (left-1) Z Z (Da oM oM) Aa (Ac 1 Z (A0 (A0 (Ab _ [0] Z (Ac 1 Z (A3 ?_))))))))))))
 refine B1 (S:=Nat×Int) (fun⟨k,x⟩=>([(1,(.int .i64 x)),(5,(.int .i64 ((k:Nat):Int))),(0,ve)])) (fun⟨k,x⟩ W=>AF w W∧k≤ex.kids.length∧x=D6 (ex.kids.take k) (left-1)∧(-1≤x∧x≤left)) (fun⟨k,x⟩=>ex.kids.length-k) (0,(left-1)) ⟨rfl,rfl,rfl,trivial⟩ ⟨a6,sD,(by rw[List.take_zero,D6]),oM⟩ ?_
 clear a6
 rintro⟨k,x⟩ ρ1 w1 ⟨a0,a7,hx,a8⟩
 have ab:w.heap.size≤w1.heap.size:=a0.size
 refine A0 (A0 (Ab _ [0,0,0,0,2,0,0,0,0,0,0] Z (Ad 2 Z (AN (hex.isPtr) Z Aa ?_))))
 obtain⟨cs2,ac,a2⟩:=RN.at (Aw _) hex
 obtain⟨dd2,a1,ag,rfl,a3⟩:=RX.of ac
 have a4:=a3.rn.lenle
 unfold maxLen at a4
 refine AJ (p:=ve) 4 B9 Z (a2 _ (Au.of_ext [] a0)) Aa (Ai (p:=(Ap ve 4)) (.inr Z) a1 Bd Z ((a2 _ (Au.of_ext [] a0)).ld (i:=4) (by simp[EX,EY])) Aa (AQ (v:=a1) D1 Z a3.rn.isSl Aa ?_))
 by_cases a9:((k:Nat):Int)<((ex.kids.length:Nat):Int)
 ·refine AG true Z Z (A5 a9) Aa (Ad 2 Z ?_)
  by_cases aa:((0:Nat):Int)≤x
  ·refine Dv true Z Z (A5 aa) (Ae (e:=15) Z Z Z) (Ac 1 Z (Ag Z (A2 (A0 (A3 (Ab _ [0,0,0,2,0,0,0,3,0] Z ?_))))))
   have hst:=DE (l:=ex.kids) (k:=k) oM
   have hle:=Dg ex.kids (k+1)
   have hnx:=Mj (l:=ex.kids) (k:=k) (x:=left-1) oM oM
   have hnr:=NS (e:=ex.kids.getD k Ex.zero) (x:=x) oM
   refine Ad 1 Z (AN (hex.isPtr) Z Aa (AJ (p:=ve) 4 B9 Z (a2 _ (Au.of_ext [] a0)) Aa (Ai (p:=(Ap ve 4)) (.inr Z) a1 Bd Z ((a2 _ (Au.of_ext [] a0)).ld (i:=4) (by simp[EX,EY])) Aa (Ad 1 Z (AB (v:=a1) k D1 Bk Z Z a3.rn.isSl Z sD Aa (Ad 1 Z ?_))))))
   refine As 239 [] [] [(Ay a1 k 5),(.int .i64 x)] Z Z T6 Aa (ih dd2 oM _ (Ay a1 k 5) (ex.kids.getD k Ex.zero) _ (RN.ptr (Aw dd2) (by decide) Ex.zero (a3.rn.ext (An (Aw dd2)) a0) sD) oM oM oM) ?_
   rintro e5 w5 ⟨rfl,a5⟩
   refine⟨_,rfl,a5,?_⟩
   have ad:=a5.size
   have ae:=a0.trans a5
   refine Ac 1 Z (Ab _ [0,0,0] Z (Ad 1 Z (AP ((k+1:Nat):Int) Z Z (Bl oM sD) Aa (Ac 1 Z ?_))))
   exact⟨((k+1),(I0 (ex.kids.getD k Ex.zero) x)),_,rfl,⟨rfl,rfl,rfl,trivial⟩,⟨ae,sD,(by rw[hnx,hx]),oM⟩,by first|omega|(dsimp only;omega)⟩
  ·exact Dv false Z Z (A6 aa) (Ae (e:=15) Z Z Z) (Ac 1 Z (Ah Z (A4 (Ax (Ax (At (A0 (Ab _ [0,0] Z (Ac 2 Z (A1 (Af [4] Z (.int .i64 x) Z ⟨(B4 Tn),a0⟩)))))))))))
 ·exact AG false Z Z (A6 a9) Aa (Ac 4 Z (Ah Z (A4 (Ax (Ax (At (A0 (Ab _ [0,0] Z (Ac 2 Z (A1 (Af [4] Z (.int .i64 x) Z ⟨(B4 Tn),a0⟩)))))))))))
theorem Ke (w:World)(dex:Nat)(ve:Value)(ex:Ex)(hex:RN [] (rP (LK dex)) w.heap ve ex)(hs:ex.size≤1000000000) :
  Calls Tryz.prog 271 #[ve] w (fun e w'=>e=.returned (.int .i64 ((ex.deep:Nat):Int))∧AF w w'):=by
 induction dex using Nat.strongRecOn generalizing w ve ex
 rename_i dex ih
 refine Aq [ve] 25 Tryz.func271 Z Z sM ?_
 have a6:AF w w:=AF.refl w
 have hsk:=Cv ex
 have hdk:=DI ex
 refine A0 (Ab _ [0] Z (Ac 1 Z (A0 (Ab _ [0] Z (Ac 1 Z (A0 (A0 (Ab _ [0] Z (Ac 1 Z (A3 ?_))))))))))
 refine B1 (S:=Nat×Int) (fun⟨k,sz⟩=>([(3,(.int .i64 sz)),(4,(.int .i64 ((k:Nat):Int))),(0,ve)])) (fun⟨k,sz⟩ W=>AF w W∧k≤ex.kids.length∧sz=((Ex.deeps (ex.kids.take k):Nat):Int)∧(0≤sz∧sz≤1000000000)) (fun⟨k,sz⟩=>ex.kids.length-k) (0,((0:Nat):Int)) ⟨rfl,rfl,rfl,trivial⟩ ⟨a6,sD,(by rw[List.take_zero,M9] <;> rfl),oM⟩ ?_
 clear a6
 rintro⟨k,sz⟩ ρ1 w1 ⟨a0,a7,hsz,a8⟩
 have aa:w.heap.size≤w1.heap.size:=a0.size
 refine A0 (A0 (Ab _ [0,0,0,0,2,0,0] Z (Ad 2 Z (AN (hex.isPtr) Z Aa ?_))))
 obtain⟨cs2,ab,a2⟩:=RN.at (Aw _) hex
 obtain⟨dd2,a1,ae,rfl,a3⟩:=RX.of ab
 have a4:=a3.rn.lenle
 unfold maxLen at a4
 refine AJ (p:=ve) 4 B9 Z (a2 _ (Au.of_ext [] a0)) Aa (Ai (p:=(Ap ve 4)) (.inr Z) a1 Bd Z ((a2 _ (Au.of_ext [] a0)).ld (i:=4) (by simp[EX,EY])) Aa (AQ (v:=a1) D1 Z a3.rn.isSl Aa ?_))
 by_cases a9:((k:Nat):Int)<((ex.kids.length:Nat):Int)
 ·refine AG true Z Z (A5 a9) Aa (Aj (Ag Z (A2 (A0 (A3 (Ab _ [0,0,0,0,2,0,0,3,0,0] Z ?_))))))
  have hst:=DE (l:=ex.kids) (k:=k) oM
  have hle:=Dg ex.kids (k+1)
  have hdt:=GD (l:=ex.kids) (k:=k) oM
  have hda:=Ea (ex.kids.getD k Ex.zero)
  have hdz:=Ir (ex.kids.take k)
  refine Ad 2 Z (AN (hex.isPtr) Z Aa (AJ (p:=ve) 4 B9 Z (a2 _ (Au.of_ext [] a0)) Aa (Ai (p:=(Ap ve 4)) (.inr Z) a1 Bd Z ((a2 _ (Au.of_ext [] a0)).ld (i:=4) (by simp[EX,EY])) Aa (Ad 1 Z (AB (v:=a1) k D1 Bk Z Z a3.rn.isSl Z sD Aa ?_)))))
  refine As 271 [] [] [(Ay a1 k 5)] Z Z VH Aa (ih dd2 oM _ (Ay a1 k 5) (ex.kids.getD k Ex.zero) (RN.ptr (Aw dd2) (by decide) Ex.zero (a3.rn.ext (An (Aw dd2)) a0) sD) oM) ?_
  rintro e4 w4 ⟨rfl,a5⟩
  refine⟨_,rfl,a5,?_⟩
  have ac:=a5.size
  have ad:=a0.trans a5
  refine Az 286 [] [] [(.int .i64 sz),(.int .i64 (((ex.kids.getD k Ex.zero).deep:Nat):Int))] Z Z Zm Aa (.int .i64 (max sz (((ex.kids.getD k Ex.zero).deep:Nat):Int))) (fun wq=>LV wq _ _ oM (by have:=Ea (ex.kids.getD k Ex.zero);omega)) (Ac 1 Z (Ab _ [0,0,0] Z (Ad 1 Z (AP ((k+1:Nat):Int) Z Z (Bl oM sD) Aa (Ac 1 Z ?_)))))
  exact⟨((k+1),(max sz (((ex.kids.getD k Ex.zero).deep:Nat):Int))),_,rfl,⟨rfl,rfl,rfl,trivial⟩,⟨ad,sD,oM,oM⟩,by first|omega|(dsimp only;omega)⟩
 ·refine AG false Z Z (A6 a9) Aa (Aj (Ah Z (A4 (Ax (Ax (At (A0 (Ab _ [0,0,0] Z ?_))))))))
  have h8:=Jy (l:=ex.kids) (k:=k) oM
  have h9:=Ea ex
  exact Ad 1 Z (AP (sz+1) Z Z (Da oM oM) Aa (Ac 1 Z (A1 (Af [2] Z (.int .i64 (sz+1)) Z ⟨(B4 oM),a0⟩))))
theorem G4 {p:Prop}(h:p:=by unfold QL;repeat (first|rfl|(rw[if_pos oM])|(rw[if_neg oM]))):p:=h
theorem Lt (w:World)(kind:Int)(_hkind:Bx kind)  :
  Calls Tryz.prog 198 #[.int .i64 kind] w (fun e w'=>e=.returned (.int .i64 (QL kind))∧w'=w):=by
 refine Aq [.int .i64 kind] 17 Tryz.func198 Z Z sM ?_
 have a0:w=w:=rfl
 refine A0 (Ab _ [0] Z (Ac 1 Z (A0 (A0 (Ab _ [0] Z (Ac 1 Z (A3 (A0 (A0 (Ab _ [0,0] Z ?_))))))))))
 by_cases a1:kind=((1:Nat):Int)
 ·exact Am true Z Z (A5 a1) Aa (Ac 1 Z (Ag Z (A2 (Ag Z (A0 (Ab _ [0] Z (Ac 1 Z (A1 (AC (Al (Af [2] Z (.int .i64 ((0:Nat):Int)) Z ⟨(B4 G4),a0⟩)))))))))))
 ·refine Am false Z Z (A6 a1) Aa (Ac 1 Z (Ah Z (Ab _ [0,0] Z ?_)))
  by_cases a2:kind=((2:Nat):Int)
  ·exact Am true Z Z (A5 a2) Aa (Ac 1 Z (Ag Z (A0 (Ab _ [0] Z (Ac 1 Z (A1 (AC (Al (Af [2] Z (.int .i64 ((0:Nat):Int)) Z ⟨(B4 G4),a0⟩)))))))))
  ·refine Am false Z Z (A6 a2) Aa (Ac 1 Z (Ah Z (A0 (A0 (Ab _ [0,0] Z ?_)))))
   by_cases a3:kind=((3:Nat):Int)
   ·exact Am true Z Z (A5 a3) Aa (Ac 1 Z (Ag Z (A2 (Ag Z (A0 (Ab _ [0] Z (Ac 1 Z (A1 (AC (Al (Af [2] Z (.int .i64 ((2:Nat):Int)) Z ⟨(B4 G4),a0⟩)))))))))))
   ·refine Am false Z Z (A6 a3) Aa (Ac 1 Z (Ah Z (A0 (Ab _ [0,0] Z ?_))))
    by_cases a4:kind=((4:Nat):Int)
    ·exact Am true Z Z (A5 a4) Aa (Ac 1 Z (Ag Z (A2 (Ag Z (A0 (Ab _ [0] Z (Ac 1 Z (A1 (AC (Al (Af [2] Z (.int .i64 ((2:Nat):Int)) Z ⟨(B4 G4),a0⟩)))))))))))
    ·refine Am false Z Z (A6 a4) Aa (Ac 1 Z (Ah Z (A0 (Ab _ [0,0] Z ?_))))
     by_cases a5:kind=((5:Nat):Int)
     ·exact Am true Z Z (A5 a5) Aa (Ac 1 Z (Ag Z (A2 (Ag Z (A0 (Ab _ [0] Z (Ac 1 Z (A1 (AC (Al (Af [2] Z (.int .i64 ((2:Nat):Int)) Z ⟨(B4 G4),a0⟩)))))))))))
     ·refine Am false Z Z (A6 a5) Aa (Ac 1 Z (Ah Z (A0 (Ab _ [0,0] Z ?_))))
      by_cases a6:kind=((6:Nat):Int)
      ·exact Am true Z Z (A5 a6) Aa (Ac 1 Z (Ag Z (A2 (Ag Z (A0 (Ab _ [0] Z (Ac 1 Z (A1 (AC (Al (Af [2] Z (.int .i64 ((2:Nat):Int)) Z ⟨(B4 G4),a0⟩)))))))))))
      ·refine Am false Z Z (A6 a6) Aa (Ac 1 Z (Ah Z (Ab _ [0,0] Z ?_)))
       by_cases a7:kind=((9:Nat):Int)
       ·exact Am true Z Z (A5 a7) Aa (Ac 1 Z (Ag Z (A0 (Ab _ [0] Z (Ac 1 Z (A1 (AC (Al (Af [2] Z (.int .i64 ((2:Nat):Int)) Z ⟨(B4 G4),a0⟩)))))))))
       ·refine Am false Z Z (A6 a7) Aa (Ac 1 Z (Ah Z (A0 (Ab _ [0,0] Z ?_))))
        by_cases a8:kind=((7:Nat):Int)
        ·exact Am true Z Z (A5 a8) Aa (Ac 1 Z (Ag Z (A0 (Ab _ [0] Z (Ac 1 Z (A1 (AC (Al (Af [2] Z (.int .i64 ((1:Nat):Int)) Z ⟨(B4 G4),a0⟩)))))))))
        ·refine Am false Z Z (A6 a8) Aa (Ac 1 Z (Ah Z (A0 (Ab _ [0,0] Z ?_))))
         by_cases a9:kind=((8:Nat):Int)
         ·exact Am true Z Z (A5 a9) Aa (Ac 1 Z (Ag Z (A0 (Ab _ [0] Z (Ac 1 Z (A1 (AC (Al (Af [2] Z (.int .i64 ((3:Nat):Int)) Z ⟨(B4 G4),a0⟩)))))))))
         ·exact Am false Z Z (A6 a9) Aa (Ac 1 Z (Ah Z (A2 (A0 (Ab _ [0] Z (Ac 1 Z (A1 (Af [2] Z (.int .i64 (-1)) Z ⟨(B4 G4),a0⟩))))))))
theorem D8 {p:Prop}(h:p:=by first|exact AI (Xv oM oM oM)|exact AI (aL oM oM oM oM)|exact AI (aM oM oM oM oM)|exact AI ((MS oM).trans (aN oM oM oM oM oM oM oM))|exact AI (by unfold GF DF E7;first|(simp[*];done)|(simp[*];omega)|(simp[*] <;> intros <;> omega)|(simp_all;done)|(simp_all <;> omega))):p:=h
theorem BF {p:Prop}(h:p:=by simp[EX,EY]):p:=h
theorem Lu (w:World)(dp:Nat)(vp:Value)(p:List Fn)(dex:Nat)(ve:Value)(ex:Ex)(vars:Int)(funcs:Int)(hp:RN [] (rP (Ki dp)) w.heap vp p)(hex:RN [] (rP (LK dex)) w.heap ve ex)(_hvars:Bx vars)(_hfuncs:Bx funcs)(hv:0≤vars∧vars≤2000000000)(hf:0≤funcs∧funcs≤((p.length:Nat):Int)) :
  Calls Tryz.prog 287 #[vp,ve,.int .i64 vars,.int .i64 funcs] w (fun e w'=>e=.returned (.bool (GF p funcs vars ex))∧AF w w'):=by
 refine Aq [vp,ve,.int .i64 vars,.int .i64 funcs] 140 Tryz.func287 Z Z sM ?_
 have a0:AF w w:=AF.refl w
 refine A0 (Ab _ [0] Z (Ac 1 Z (A0 (A0 (Ab _ [0,0,0,2,0,0,0,0,0,2,0,0] Z (Ad 1 Z (AN (hex.isPtr) Z Aa ?_)))))))
 obtain⟨cs1,b2,a1⟩:=RN.at (Aw _) hex
 obtain⟨dd1,ab,b8,rfl,a5⟩:=RX.of b2
 have aq:=a5.rn.lenle
 unfold maxLen at aq
 refine AJ (p:=ve) 0 Bf Z (a1 _ (Au.of_ext [] a0)) Aa (Ai (p:=(Ap ve 0)) (.inr Z) (.int .i64 ex.kind) AD Z ((a1 _ (Au.of_ext [] a0)).ld (i:=0) BF) Aa ?_)
 by_cases ay:ex.kind=((10:Nat):Int)
 ·refine Am true Z Z (A5 ay) Aa (Ac 7 Z (Ag Z (A0 (A0 (Ab _ [0,0,0,2,0,0,0,0] Z (Ad 1 Z (AN (hex.isPtr) Z Aa (AJ (p:=ve) 1 BE Z (a1 _ (Au.of_ext [] a0)) Aa (Ai (p:=(Ap ve 1)) (.inr Z) (.int .i64 ex.num) AD Z ((a1 _ (Au.of_ext [] a0)).ld (i:=1) BF) Aa (Ad 1 Z (Bs (funcs-1) Z Z (Da oM oM) Aa (Az 74 [] [] [(.int .i64 ex.num),(.int .i64 ((0:Nat):Int)),(.int .i64 (funcs-1))] Z Z IA Aa (.bool (decide (((0:Nat):Int)≤ex.num) && decide (ex.num≤(funcs-1)))) (fun wq=>Bw wq _ _ _ a5.rng.num oM oM) ?_))))))))))))
  refine Bn (!(decide (((0:Nat):Int)≤ex.num) && decide (ex.num≤(funcs-1)))) Z Z Aa (Aj ?_)
  cases az:(!(decide (((0:Nat):Int)≤ex.num) && decide (ex.num≤(funcs-1))))
  ·refine Ah (by first|rfl|(show Value.bool _=_;rw[az])) (A2 (A0 (AO _ [0,0,0,1,0,0,0,1,0,0] mixed (by kernel_rfl) ?_)))
   have hnr:=HB (Do (by assumption):(decide (((0:Nat):Int)≤ex.num) && decide (ex.num≤funcs-1))=true)
   refine Ad 1 Z (AN (hp.isPtr) Z Aa ?_)
   obtain⟨cs5,b3,b0⟩:=RN.at (AU _) hp
   obtain⟨a6,rfl,a9⟩:=RPr.of b3
   have ar:=a9.lenle
   unfold maxLen at ar
   refine AJ (p:=vp) 0 Bv Z (b0 _ (Au.of_ext [] a0.drew)) Aa (Ai (p:=(Ap vp 0)) (.inl Z) a6 BY Z ((b0 _ (Au.of_ext [] a0.drew)).ld (i:=0) BF) Aa (Ad 1 Z (AN (hex.isPtr) Z Aa (AJ (p:=ve) 1 BE Z (a1 _ (Au.of_ext [] a0.drew)) Aa (Ai (p:=(Ap ve 1)) (.inl Z) (.int .i64 ex.num) AD Z ((a1 _ (Au.of_ext [] a0.drew)).ld (i:=1) BF) Aa ?_)))))
   refine AB (v:=a6) ((ex.num).toNat) Gb Cj Z Z a9.isSl oM sD Aa (Ac 1 Z (A0 (A0 (AO _ [0,0,0,1,0,0,0,1,0,0,0,0,0,0,0,0,1,0,0,0,0,1,0,0] mixed (by kernel_rfl) (Ad 1 Z (AN (hex.isPtr) Z Aa (AJ (p:=ve) 2 Dc Z (a1 _ (Au.of_ext [] a0.drew.drew)) Aa ?_)))))))
   refine Ai (p:=(Ap ve 2)) (.inl Z) (.int .i64 ex.pick) AD Z ((a1 _ (Au.of_ext [] a0.drew.drew)).ld (i:=2) BF) Aa (Ad 1 Z (AN (RN.isPtr (RN.ptr (Av dp) (by decide) Fn.zero a9 sD)) Z Aa ?_))
   obtain⟨cs6,b4,a8⟩:=a9.get (Av dp) Fn.zero (k:=((ex.num).toNat)) sD
   obtain⟨ap,rfl,au⟩:=RF.of b4
   have av:=au.rn.lenle
   unfold maxLen at av
   refine AJ (p:=Ay a6 ((ex.num).toNat) 3) 2 BL Z (a8 _ (Au.of_ext [] a0.drew.drew)) Aa (Ai (p:=(Ap (Ay a6 ((ex.num).toNat) 3) 2)) (.inl Z) ap Bd Z ((a8 _ (Au.of_ext [] a0.drew.drew)).ld (i:=2) BF) Aa (AQ (v:=ap) D1 Z au.rn.isSl Aa (Bs ((((p.getD (ex.num).toNat Fn.zero).outs.length:Nat):Int)-1) Z Z (Da oM oM) Aa (Az 74 [] [] [(.int .i64 ex.pick),(.int .i64 ((0:Nat):Int)),(.int .i64 ((((p.getD (ex.num).toNat Fn.zero).outs.length:Nat):Int)-1))] Z Z IA Aa (.bool (decide (((0:Nat):Int)≤ex.pick) && decide (ex.pick≤((((p.getD (ex.num).toNat Fn.zero).outs.length:Nat):Int)-1)))) (fun wq=>Bw wq _ _ _ a5.rng.pick oM oM) ?_))))
   refine Bn (!(decide (((0:Nat):Int)≤ex.pick) && decide (ex.pick≤((((p.getD (ex.num).toNat Fn.zero).outs.length:Nat):Int)-1)))) Z Z Aa (Ad 1 Z ?_)
   cases b9:(!(decide (((0:Nat):Int)≤ex.pick) && decide (ex.pick≤((((p.getD (ex.num).toNat Fn.zero).outs.length:Nat):Int)-1))))
   ·refine Ad 1 Z (AN (hex.isPtr) Z (Ae (e:=51) Z Z Z) (AJ (p:=ve) 4 B9 Z (a1 _ (Au.of_ext [] a0.drew.drew)) (Ae (e:=51) Z Z Z) (Ai (p:=(Ap ve 4)) (.inl Z) ab Bd Z ((a1 _ (Au.of_ext [] a0.drew.drew)).ld (i:=4) BF) (Ae (e:=51) Z Z Z) (AQ (v:=ab) D1 Z a5.rn.isSl (Ae (e:=51) Z Z Z) (Ad 1 Z ?_)))))
    refine AN (RN.isPtr (RN.ptr (Av dp) (by decide) Fn.zero a9 sD)) Z (Ae (e:=51) Z Z Z) (AJ (p:=Ay a6 ((ex.num).toNat) 3) 1 C2 Z (a8 _ (Au.of_ext [] a0.drew.drew)) (Ae (e:=51) Z Z Z) (Ai (p:=(Ap (Ay a6 ((ex.num).toNat) 3) 1)) (.inl Z) (.int .i64 ((p.getD ((ex.num).toNat) Fn.zero).params)) AD Z ((a8 _ (Au.of_ext [] a0.drew.drew)).ld (i:=1) BF) (Ae (e:=51) Z Z Z) ?_))
    by_cases b1:((ex.kids.length:Nat):Int)≠(p.getD ((ex.num).toNat) Fn.zero).params
    ·exact AT true Z Z (A5 b1) (Ae (e:=51) Z Z Z) (Ac 1 Z (Ag Z (A0 (Ab _ [0] Z (Ac 1 Z (A1 (Al (Al (Af [8] Z (.bool false) Z ⟨D8,a0.drew.drew⟩)))))))))
    ·refine AT false Z Z (A6 b1) (Ae (e:=51) Z Z Z) (Ac 1 Z (Ah Z (A2 (A0 (A0 (Ab _ [0,0,0,2,0] Z (Ad 1 Z (AN (hex.isPtr) Z Aa (AJ (p:=ve) 0 Bf Z (a1 _ (Au.of_ext [] a0.drew.drew)) Aa (Ai (p:=(Ap ve 0)) (.inr Z) (.int .i64 ex.kind) AD Z ((a1 _ (Au.of_ext [] a0.drew.drew)).ld (i:=0) BF) Aa ?_))))))))))
     by_cases ac:ex.kind=((10:Nat):Int)
     ·refine Am true Z Z (A5 ac) Aa (Aj (Ag Z (A0 (Ab _ [0,0,0,2,0,0] Z (Ad 1 Z (AN (hex.isPtr) Z Aa (AJ (p:=ve) 3 Du Z (a1 _ (Au.of_ext [] a0.drew.drew)) Aa (Ai (p:=(Ap ve 3)) (.inr Z) (.int .i64 ex.count) AD Z ((a1 _ (Au.of_ext [] a0.drew.drew)).ld (i:=3) BF) Aa (Am (decide (ex.count=((0:Nat):Int))) Z Z Z Aa (Ac 1 Z (A1 (Al (Al ?_)))))))))))))
      exact Af [8] Z (.bool (decide (ex.count=((0:Nat):Int)))) Z ⟨D8,a0.drew.drew⟩
     ·refine Am false Z Z (A6 ac) Aa (Aj (Ah Z (A2 (A0 (AO _ [0,0,0,1,0,0,0,0,0,1,0,0,0,0,1,0,0,0] mixed (by kernel_rfl) (Ad 1 Z (AN (hex.isPtr) Z Aa (AJ (p:=ve) 3 Du Z (a1 _ (Au.of_ext [] a0.drew.drew.drew)) Aa (Ai (p:=(Ap ve 3)) (.inl Z) (.int .i64 ex.count) AD Z ((a1 _ (Au.of_ext [] a0.drew.drew.drew)).ld (i:=3) BF) Aa (Az 74 [] [] [(.int .i64 ex.count),(.int .i64 ((0:Nat):Int)),(.int .i64 ((8:Nat):Int))] Z Z IA Aa (.bool (decide (((0:Nat):Int)≤ex.count) && decide (ex.count≤((8:Nat):Int)))) (fun wq=>Bw wq _ _ _ a5.rng.count oM oM) (Ad 1 Z ?_)))))))))))
      cases b5:(decide (((0:Nat):Int)≤ex.count) && decide (ex.count≤((8:Nat):Int)))
      ·exact Ac 12 Z (A1 (Al (Af [8] Z (.bool false) Z ⟨D8,a0.drew.drew.drew⟩)))
      ·refine Ad 1 Z (AN (RN.isPtr (RN.ptr (Av dp) (by decide) Fn.zero a9 sD)) Z (Ae (e:=78) Z Z Z) (AJ (p:=Ay a6 ((ex.num).toNat) 3) 2 BL Z (a8 _ (Au.of_ext [] a0.drew.drew.drew)) (Ae (e:=78) Z Z Z) (Ai (p:=(Ap (Ay a6 ((ex.num).toNat) 3) 2)) (.inl Z) ap Bd Z ((a8 _ (Au.of_ext [] a0.drew.drew.drew)).ld (i:=2) BF) (Ae (e:=78) Z Z Z) ?_)))
       refine AQ (v:=ap) D1 Z au.rn.isSl (Ae (e:=78) Z Z Z) (Ad 1 Z (AN (RN.isPtr (RN.ptr (Av dp) (by decide) Fn.zero a9 sD)) Z (Ae (e:=78) Z Z Z) (AJ (p:=Ay a6 ((ex.num).toNat) 3) 1 C2 Z (a8 _ (Au.of_ext [] a0.drew.drew.drew)) (Ae (e:=78) Z Z Z) ?_)))
       refine Ai (p:=(Ap (Ay a6 ((ex.num).toNat) 3) 1)) (.inl Z) (.int .i64 ((p.getD ((ex.num).toNat) Fn.zero).params)) AD Z ((a8 _ (Au.of_ext [] a0.drew.drew.drew)).ld (i:=1) BF) (Ae (e:=78) Z Z Z) (Am (decide (((((p.getD ((ex.num).toNat) Fn.zero).outs).length:Nat):Int)=(p.getD ((ex.num).toNat) Fn.zero).params)) Z Z Z (Ae (e:=78) Z Z Z) (Ac 2 Z (A1 (Al ?_))))
       exact Af [8] Z (.bool (decide (((((p.getD ((ex.num).toNat) Fn.zero).outs).length:Nat):Int)=(p.getD ((ex.num).toNat) Fn.zero).params))) Z ⟨D8,a0.drew.drew.drew⟩
   ·exact Ac 11 Z (Ag Z (A0 (Ab _ [0] Z (Ac 1 Z (A1 (Al (Al (Af [8] Z (.bool false) Z ⟨D8,a0.drew.drew⟩))))))))
  ·exact Ag (by first|rfl|(show Value.bool _=_;rw[az])) (A0 (Ab _ [0] Z (Ac 1 Z (A1 (Al (Al (Af [8] Z (.bool false) Z ⟨D8,a0⟩)))))))
 ·refine Am false Z Z (A6 ay) Aa (Ad 2 Z (AN (hex.isPtr) Z (Ae (e:=15) Z Z Z) (AJ (p:=ve) 0 Bf Z (a1 _ (Au.of_ext [] a0)) (Ae (e:=15) Z Z Z) (Ai (p:=(Ap ve 0)) (.inr Z) (.int .i64 ex.kind) AD Z ((a1 _ (Au.of_ext [] a0)).ld (i:=0) BF) (Ae (e:=15) Z Z Z) ?_))))
  by_cases ad:ex.kind=((11:Nat):Int)
  ·refine Am true Z Z (A5 ad) (Ae (e:=15) Z Z Z) (Ac 1 Z (Ag Z (A0 (A0 (Ab _ [0,0,0,2,0,0,0,0] Z (Ad 1 Z (AN (hex.isPtr) Z Aa (AJ (p:=ve) 1 BE Z (a1 _ (Au.of_ext [] a0)) Aa (Ai (p:=(Ap ve 1)) (.inr Z) (.int .i64 ex.num) AD Z ((a1 _ (Au.of_ext [] a0)).ld (i:=1) BF) Aa (Ad 1 Z (Bs (funcs-1) Z Z (Da oM oM) Aa (Az 74 [] [] [(.int .i64 ex.num),(.int .i64 ((0:Nat):Int)),(.int .i64 (funcs-1))] Z Z IA Aa (.bool (decide (((0:Nat):Int)≤ex.num) && decide (ex.num≤(funcs-1)))) (fun wq=>Bw wq _ _ _ a5.rng.num oM oM) ?_))))))))))))
   refine Bn (!(decide (((0:Nat):Int)≤ex.num) && decide (ex.num≤(funcs-1)))) Z Z Aa (Aj ?_)
   cases ae:(!(decide (((0:Nat):Int)≤ex.num) && decide (ex.num≤(funcs-1))))
   ·refine Ah (by first|rfl|(show Value.bool _=_;rw[ae])) (A2 (A0 (AO _ [0,0,0,1,0,0,0,1,0,0] mixed (by kernel_rfl) ?_)))
    have hnr:=HB (Do (by assumption):(decide (((0:Nat):Int)≤ex.num) && decide (ex.num≤funcs-1))=true)
    refine Ad 1 Z (AN (hp.isPtr) Z Aa ?_)
    obtain⟨cs16,aw,af⟩:=RN.at (AU _) hp
    obtain⟨a2,rfl,a4⟩:=RPr.of aw
    have ag:=a4.lenle
    unfold maxLen at ag
    refine AJ (p:=vp) 0 Bv Z (af _ (Au.of_ext [] a0.drew)) Aa (Ai (p:=(Ap vp 0)) (.inl Z) a2 BY Z ((af _ (Au.of_ext [] a0.drew)).ld (i:=0) BF) Aa (Ad 1 Z (AN (hex.isPtr) Z Aa (AJ (p:=ve) 1 BE Z (a1 _ (Au.of_ext [] a0.drew)) Aa (Ai (p:=(Ap ve 1)) (.inl Z) (.int .i64 ex.num) AD Z ((a1 _ (Au.of_ext [] a0.drew)).ld (i:=1) BF) Aa ?_)))))
    refine AB (v:=a2) ((ex.num).toNat) Gb Cj Z Z a4.isSl oM sD Aa (Ac 1 Z (A0 (A0 (AO _ [0,0,0,1,0,0,0,1,0,0,0,0,0,0,0,0,1,0,0,0,0,1,0,0] mixed (by kernel_rfl) (Ad 1 Z (AN (hex.isPtr) Z Aa (AJ (p:=ve) 2 Dc Z (a1 _ (Au.of_ext [] a0.drew.drew)) Aa ?_)))))))
    refine Ai (p:=(Ap ve 2)) (.inl Z) (.int .i64 ex.pick) AD Z ((a1 _ (Au.of_ext [] a0.drew.drew)).ld (i:=2) BF) Aa (Ad 1 Z (AN (RN.isPtr (RN.ptr (Av dp) (by decide) Fn.zero a4 sD)) Z Aa ?_))
    obtain⟨cs17,ax,a3⟩:=a4.get (Av dp) Fn.zero (k:=((ex.num).toNat)) sD
    obtain⟨a7,rfl,aa⟩:=RF.of ax
    have ah:=aa.rn.lenle
    unfold maxLen at ah
    refine AJ (p:=Ay a2 ((ex.num).toNat) 3) 2 BL Z (a3 _ (Au.of_ext [] a0.drew.drew)) Aa (Ai (p:=(Ap (Ay a2 ((ex.num).toNat) 3) 2)) (.inl Z) a7 Bd Z ((a3 _ (Au.of_ext [] a0.drew.drew)).ld (i:=2) BF) Aa (AQ (v:=a7) D1 Z aa.rn.isSl Aa (Bs ((((p.getD (ex.num).toNat Fn.zero).outs.length:Nat):Int)-1) Z Z (Da oM oM) Aa (Az 74 [] [] [(.int .i64 ex.pick),(.int .i64 ((0:Nat):Int)),(.int .i64 ((((p.getD (ex.num).toNat Fn.zero).outs.length:Nat):Int)-1))] Z Z IA Aa (.bool (decide (((0:Nat):Int)≤ex.pick) && decide (ex.pick≤((((p.getD (ex.num).toNat Fn.zero).outs.length:Nat):Int)-1)))) (fun wq=>Bw wq _ _ _ a5.rng.pick oM oM) ?_))))
    refine Bn (!(decide (((0:Nat):Int)≤ex.pick) && decide (ex.pick≤((((p.getD (ex.num).toNat Fn.zero).outs.length:Nat):Int)-1)))) Z Z Aa (Ad 1 Z ?_)
    cases b6:(!(decide (((0:Nat):Int)≤ex.pick) && decide (ex.pick≤((((p.getD (ex.num).toNat Fn.zero).outs.length:Nat):Int)-1))))
    ·refine Ad 1 Z (AN (hex.isPtr) Z (Ae (e:=51) Z Z Z) (AJ (p:=ve) 4 B9 Z (a1 _ (Au.of_ext [] a0.drew.drew)) (Ae (e:=51) Z Z Z) (Ai (p:=(Ap ve 4)) (.inl Z) ab Bd Z ((a1 _ (Au.of_ext [] a0.drew.drew)).ld (i:=4) BF) (Ae (e:=51) Z Z Z) (AQ (v:=ab) D1 Z a5.rn.isSl (Ae (e:=51) Z Z Z) (Ad 1 Z ?_)))))
     refine AN (RN.isPtr (RN.ptr (Av dp) (by decide) Fn.zero a4 sD)) Z (Ae (e:=51) Z Z Z) (AJ (p:=Ay a2 ((ex.num).toNat) 3) 1 C2 Z (a3 _ (Au.of_ext [] a0.drew.drew)) (Ae (e:=51) Z Z Z) (Ai (p:=(Ap (Ay a2 ((ex.num).toNat) 3) 1)) (.inl Z) (.int .i64 ((p.getD ((ex.num).toNat) Fn.zero).params)) AD Z ((a3 _ (Au.of_ext [] a0.drew.drew)).ld (i:=1) BF) (Ae (e:=51) Z Z Z) ?_))
     by_cases ai:((ex.kids.length:Nat):Int)≠(p.getD ((ex.num).toNat) Fn.zero).params
     ·exact AT true Z Z (A5 ai) (Ae (e:=51) Z Z Z) (Ac 1 Z (Ag Z (A0 (Ab _ [0] Z (Ac 1 Z (A1 (Al (Al (Af [8] Z (.bool false) Z ⟨D8,a0.drew.drew⟩)))))))))
     ·refine AT false Z Z (A6 ai) (Ae (e:=51) Z Z Z) (Ac 1 Z (Ah Z (A2 (A0 (A0 (Ab _ [0,0,0,2,0] Z (Ad 1 Z (AN (hex.isPtr) Z Aa (AJ (p:=ve) 0 Bf Z (a1 _ (Au.of_ext [] a0.drew.drew)) Aa (Ai (p:=(Ap ve 0)) (.inr Z) (.int .i64 ex.kind) AD Z ((a1 _ (Au.of_ext [] a0.drew.drew)).ld (i:=0) BF) Aa ?_))))))))))
      by_cases aj:ex.kind=((10:Nat):Int)
      ·refine Am true Z Z (A5 aj) Aa (Aj (Ag Z (A0 (Ab _ [0,0,0,2,0,0] Z (Ad 1 Z (AN (hex.isPtr) Z Aa (AJ (p:=ve) 3 Du Z (a1 _ (Au.of_ext [] a0.drew.drew)) Aa (Ai (p:=(Ap ve 3)) (.inr Z) (.int .i64 ex.count) AD Z ((a1 _ (Au.of_ext [] a0.drew.drew)).ld (i:=3) BF) Aa (Am (decide (ex.count=((0:Nat):Int))) Z Z Z Aa (Ac 1 Z (A1 (Al (Al ?_)))))))))))))
       exact Af [8] Z (.bool (decide (ex.count=((0:Nat):Int)))) Z ⟨D8,a0.drew.drew⟩
      ·refine Am false Z Z (A6 aj) Aa (Aj (Ah Z (A2 (A0 (AO _ [0,0,0,1,0,0,0,0,0,1,0,0,0,0,1,0,0,0] mixed (by kernel_rfl) (Ad 1 Z (AN (hex.isPtr) Z Aa (AJ (p:=ve) 3 Du Z (a1 _ (Au.of_ext [] a0.drew.drew.drew)) Aa (Ai (p:=(Ap ve 3)) (.inl Z) (.int .i64 ex.count) AD Z ((a1 _ (Au.of_ext [] a0.drew.drew.drew)).ld (i:=3) BF) Aa (Az 74 [] [] [(.int .i64 ex.count),(.int .i64 ((0:Nat):Int)),(.int .i64 ((8:Nat):Int))] Z Z IA Aa (.bool (decide (((0:Nat):Int)≤ex.count) && decide (ex.count≤((8:Nat):Int)))) (fun wq=>Bw wq _ _ _ a5.rng.count oM oM) (Ad 1 Z ?_)))))))))))
       cases b7:(decide (((0:Nat):Int)≤ex.count) && decide (ex.count≤((8:Nat):Int)))
       ·exact Ac 12 Z (A1 (Al (Af [8] Z (.bool false) Z ⟨D8,a0.drew.drew.drew⟩)))
       ·refine Ad 1 Z (AN (RN.isPtr (RN.ptr (Av dp) (by decide) Fn.zero a4 sD)) Z (Ae (e:=78) Z Z Z) (AJ (p:=Ay a2 ((ex.num).toNat) 3) 2 BL Z (a3 _ (Au.of_ext [] a0.drew.drew.drew)) (Ae (e:=78) Z Z Z) (Ai (p:=(Ap (Ay a2 ((ex.num).toNat) 3) 2)) (.inl Z) a7 Bd Z ((a3 _ (Au.of_ext [] a0.drew.drew.drew)).ld (i:=2) BF) (Ae (e:=78) Z Z Z) ?_)))
        refine AQ (v:=a7) D1 Z aa.rn.isSl (Ae (e:=78) Z Z Z) (Ad 1 Z (AN (RN.isPtr (RN.ptr (Av dp) (by decide) Fn.zero a4 sD)) Z (Ae (e:=78) Z Z Z) (AJ (p:=Ay a2 ((ex.num).toNat) 3) 1 C2 Z (a3 _ (Au.of_ext [] a0.drew.drew.drew)) (Ae (e:=78) Z Z Z) ?_)))
        refine Ai (p:=(Ap (Ay a2 ((ex.num).toNat) 3) 1)) (.inl Z) (.int .i64 ((p.getD ((ex.num).toNat) Fn.zero).params)) AD Z ((a3 _ (Au.of_ext [] a0.drew.drew.drew)).ld (i:=1) BF) (Ae (e:=78) Z Z Z) (Am (decide (((((p.getD ((ex.num).toNat) Fn.zero).outs).length:Nat):Int)=(p.getD ((ex.num).toNat) Fn.zero).params)) Z Z Z (Ae (e:=78) Z Z Z) (Ac 2 Z (A1 (Al ?_))))
        exact Af [8] Z (.bool (decide (((((p.getD ((ex.num).toNat) Fn.zero).outs).length:Nat):Int)=(p.getD ((ex.num).toNat) Fn.zero).params))) Z ⟨D8,a0.drew.drew.drew⟩
    ·exact Ac 11 Z (Ag Z (A0 (Ab _ [0] Z (Ac 1 Z (A1 (Al (Al (Af [8] Z (.bool false) Z ⟨D8,a0.drew.drew⟩))))))))
   ·exact Ag (by first|rfl|(show Value.bool _=_;rw[ae])) (A0 (Ab _ [0] Z (Ac 1 Z (A1 (Al (Al (Af [8] Z (.bool false) Z ⟨D8,a0⟩)))))))
  ·refine Am false Z Z (A6 ad) (Ae (e:=15) Z Z Z) (Ac 1 Z (Ah Z (A2 (A0 (A0 (AO _ [0,0,0,1,0,0,0,0,1,0,0,0,0,0,0,1,0,0,0,0,0,0,1,0,0] mixed (by kernel_rfl) (Ad 1 Z (AN (hex.isPtr) Z Aa (AJ (p:=ve) 0 Bf Z (a1 _ (Au.of_ext [] a0.drew)) Aa (Ai (p:=(Ap ve 0)) (.inl Z) (.int .i64 ex.kind) AD Z ((a1 _ (Au.of_ext [] a0.drew)).ld (i:=0) BF) Aa (Az 198 [] [] [(.int .i64 ex.kind)] Z Z VA Aa (.int .i64 (QL ex.kind)) (fun wq=>Lt wq _ a5.rng.kind) (Ad 1 Z (AN (hex.isPtr) Z Aa (AJ (p:=ve) 4 B9 Z (a1 _ (Au.of_ext [] a0.drew)) Aa ?_))))))))))))))
   refine Ai (p:=(Ap ve 4)) (.inl Z) ab Bd Z ((a1 _ (Au.of_ext [] a0.drew)).ld (i:=4) BF) Aa (AQ (v:=ab) D1 Z a5.rn.isSl Aa ?_)
   by_cases ak:QL ex.kind≠((ex.kids.length:Nat):Int)
   ·exact AT true Z Z (A5 ak) Aa (Ac 14 Z (Ag Z (A0 (Ab _ [0] Z (Ac 1 Z (A1 (Al (Af [8] Z (.bool false) Z ⟨D8,a0.drew⟩))))))))
   ·refine AT false Z Z (A6 ak) Aa (Ad 2 Z (AN (hex.isPtr) Z (Ae (e:=101) Z Z Z) (AJ (p:=ve) 2 Dc Z (a1 _ (Au.of_ext [] a0.drew)) (Ae (e:=101) Z Z Z) (Ai (p:=(Ap ve 2)) (.inl Z) (.int .i64 ex.pick) AD Z ((a1 _ (Au.of_ext [] a0.drew)).ld (i:=2) BF) (Ae (e:=101) Z Z Z) ?_))))
    by_cases al:ex.pick≠((0:Nat):Int)
    ·exact AT true Z Z (A5 al) (Ae (e:=101) Z Z Z) (Ac 8 Z (Ag Z (A0 (Ab _ [0] Z (Ac 1 Z (A1 (Al (Af [8] Z (.bool false) Z ⟨D8,a0.drew⟩))))))))
    ·refine AT false Z Z (A6 al) (Ae (e:=101) Z Z Z) (Ad 3 Z (AN (hex.isPtr) Z (Ae (e:=108) Z Z Z) (AJ (p:=ve) 3 Du Z (a1 _ (Au.of_ext [] a0.drew)) (Ae (e:=108) Z Z Z) (Ai (p:=(Ap ve 3)) (.inl Z) (.int .i64 ex.count) AD Z ((a1 _ (Au.of_ext [] a0.drew)).ld (i:=3) BF) (Ae (e:=108) Z Z Z) ?_))))
     by_cases am:ex.count≠((0:Nat):Int)
     ·exact AT true Z Z (A5 am) (Ae (e:=108) Z Z Z) (Ac 1 Z (Ag Z (A0 (Ab _ [0] Z (Ac 1 Z (A1 (Al (Af [8] Z (.bool false) Z ⟨D8,a0.drew⟩))))))))
     ·refine AT false Z Z (A6 am) (Ae (e:=108) Z Z Z) (Ac 1 Z (Ah Z (A2 (A0 (A0 (Ab _ [0,0,0,2] Z (Ad 1 Z (AN (hex.isPtr) Z Aa (AJ (p:=ve) 0 Bf Z (a1 _ (Au.of_ext [] a0.drew)) Aa (Ai (p:=(Ap ve 0)) (.inr Z) (.int .i64 ex.kind) AD Z ((a1 _ (Au.of_ext [] a0.drew)).ld (i:=0) BF) Aa (Aj (A3 (A0 (Ab _ [0,0] Z ?_))))))))))))))
      by_cases an:ex.kind=((1:Nat):Int)
      ·refine Am true Z Z (A5 an) Aa (Ac 1 Z (Ag Z (A0 (Ab _ [0,0,0,2,0,0] Z (Ad 1 Z (AN (hex.isPtr) Z Aa (AJ (p:=ve) 1 BE Z (a1 _ (Au.of_ext [] a0.drew)) Aa (Ai (p:=(Ap ve 1)) (.inr Z) (.int .i64 ex.num) AD Z ((a1 _ (Au.of_ext [] a0.drew)).ld (i:=1) BF) Aa (Az 220 [] [] [(.int .i64 ex.num)] Z Z VB Aa (.bool (Ia ex.num)) (fun wq=>Gq wq _ a5.rng.num) (Ac 1 Z (A1 (AC (Al ?_)))))))))))))
       exact Af [8] Z (.bool (Ia ex.num)) Z ⟨D8,a0.drew⟩
      ·refine Am false Z Z (A6 an) Aa (Ac 1 Z (Ah Z (A0 (Ab _ [0,0] Z ?_))))
       by_cases ao:ex.kind=((2:Nat):Int)
       ·refine Am true Z Z (A5 ao) Aa (Ac 1 Z (Ag Z (A0 (Ab _ [0,0,0,2,0,0,0,0] Z (Ad 1 Z (AN (hex.isPtr) Z Aa (AJ (p:=ve) 1 BE Z (a1 _ (Au.of_ext [] a0.drew)) Aa (Ai (p:=(Ap ve 1)) (.inr Z) (.int .i64 ex.num) AD Z ((a1 _ (Au.of_ext [] a0.drew)).ld (i:=1) BF) Aa (Ad 1 Z (Bs (vars-1) Z Z (Da oM oM) Aa (Az 74 [] [] [(.int .i64 ex.num),(.int .i64 ((0:Nat):Int)),(.int .i64 (vars-1))] Z Z IA Aa (.bool (decide (((0:Nat):Int)≤ex.num) && decide (ex.num≤(vars-1)))) (fun wq=>Bw wq _ _ _ a5.rng.num oM oM) (Ac 1 Z (A1 (AC (Al ?_)))))))))))))))
        exact Af [8] Z (.bool (decide (((0:Nat):Int)≤ex.num) && decide (ex.num≤(vars-1)))) Z ⟨D8,a0.drew⟩
       ·refine Am false Z Z (A6 ao) Aa (Ac 1 Z (Ah Z (A2 (A0 (Ab _ [0,0,0,2,0,0] Z (Ad 1 Z (AN (hex.isPtr) Z Aa (AJ (p:=ve) 1 BE Z (a1 _ (Au.of_ext [] a0.drew)) Aa (Ai (p:=(Ap ve 1)) (.inr Z) (.int .i64 ex.num) AD Z ((a1 _ (Au.of_ext [] a0.drew)).ld (i:=1) BF) Aa (Am (decide (ex.num=((0:Nat):Int))) Z Z Z Aa (Ac 1 Z (A1 ?_))))))))))))
        exact Af [8] Z (.bool (decide (ex.num=((0:Nat):Int)))) Z ⟨D8,a0.drew⟩
theorem Lv {p:Prop}(h:p:=by first|exact AI (Ru (CX (by assumption)))|exact AI (MG (Do (by assumption)) fun j hj=>hall j oM)|exact AI (Rv (k:=k) oM (by first|(rw[if_pos oM])|(rw[if_neg oM])) (CX (by assumption)))):p:=h
theorem P5 {p:Prop}(h:p:=by intro j hj;by_cases e9:j=k;(rw[e9];first|(rw[if_pos oM];exact Do (by assumption))|(rw[if_neg oM];exact Do (by assumption)));exact hall j oM):p:=h
theorem Lw (w:World)(dp:Nat)(vp:Value)(p:List Fn)(dex:Nat)(ve:Value)(ex:Ex)(vars:Int)(funcs:Int)(hp:RN [] (rP (Ki dp)) w.heap vp p)(hex:RN [] (rP (LK dex)) w.heap ve ex)(_hvars:Bx vars)(_hfuncs:Bx funcs)(hs:0≤vars∧vars+(ex.deep:Int)≤2000000000)(hf:0≤funcs∧funcs≤((p.length:Nat):Int)) :
  Calls Tryz.prog 272 #[vp,ve,.int .i64 vars,.int .i64 funcs] w (fun e w'=>e=.returned (.bool (wf p funcs ex vars))∧AF w w'):=by
 induction dex using Nat.strongRecOn generalizing w dp vp p ve ex vars funcs
 rename_i dex ih
 refine Aq [vp,ve,.int .i64 vars,.int .i64 funcs] 49 Tryz.func272 Z Z sM ?_
 have aa:AF w w:=AF.refl w
 have hdk:=DI ex
 refine A0 (Ab _ [0] Z (Ac 1 Z (A0 (A0 (Ab _ [0,0,0,0,3,0] Z (Ad 4 Z (As 287 [] [] [vp,ve,(.int .i64 vars),(.int .i64 funcs)] Z Z Zn Aa (Lu _ dp vp (p) dex ve (ex) _ _ (hp.ext (B5 (AU dp)) aa) (hex.ext (B5 (Aw dex)) aa) _hvars _hfuncs oM oM) ?_)))))))
 rintro e1 w1 ⟨rfl,ab⟩
 refine⟨_,rfl,ab,?_⟩
 have ac:=ab.size
 have ad:=aa.trans ab
 refine Bn (!(GF p funcs vars ex)) Z Z Aa (Aj ?_)
 cases ag:(!(GF p funcs vars ex))
 ·refine Ah (by first|rfl|(show Value.bool _=_;rw[ag])) (A2 (A0 (A0 (Ab _ [0] Z (Ac 1 Z (A3 ?_))))))
  refine B1 (S:=Nat) (fun k=>([(9,(.int .i64 ((k:Nat):Int))),(0,vp),(1,ve),(2,(.int .i64 vars)),(3,(.int .i64 funcs))])) (fun k W=>AF w W∧k≤ex.kids.length∧(∀j,j<k→wf p funcs (ex.kids.getD j Ex.zero) (if ex.kind=9∧j=1 then vars+1 else vars)=true)) (fun k=>ex.kids.length-k) 0 ⟨rfl,rfl,rfl,rfl,rfl,trivial⟩ ⟨ad,sD,(by intro j hj;omega)⟩ ?_
  clear aa ab ac ad
  rintro k ρ3 w3 ⟨a0,ah,hall⟩
  have ap:w.heap.size≤w3.heap.size:=a0.size
  refine A0 (A0 (Ab _ [0,0,0,0,2,0,0] Z (Ad 2 Z (AN (hex.isPtr) Z Aa ?_))))
  obtain⟨cs4,aq,a2⟩:=RN.at (Aw _) hex
  obtain⟨dd4,a1,au,rfl,a3⟩:=RX.of aq
  have ae:=a3.rn.lenle
  unfold maxLen at ae
  refine AJ (p:=ve) 4 B9 Z (a2 _ (Au.of_ext [] a0)) Aa (Ai (p:=(Ap ve 4)) (.inr Z) a1 Bd Z ((a2 _ (Au.of_ext [] a0)).ld (i:=4) (by simp[EX,EY])) Aa (AQ (v:=a1) D1 Z a3.rn.isSl Aa ?_))
  by_cases ai:((k:Nat):Int)<((ex.kids.length:Nat):Int)
  ·refine AG true Z Z (A5 ai) Aa (Aj (Ag Z (A2 (A0 (A3 (A0 (Ab _ [0,0] Z ?_)))))))
   have hkd:=Dh (l:=ex.kids) (k:=k) oM
   refine Ac 2 Z (A0 (A0 (Ab _ [0,0,0,2,0,0,0,0,0] Z (Ad 1 Z (AN (hex.isPtr) Z Aa (AJ (p:=ve) 0 Bf Z (a2 _ (Au.of_ext [] a0)) Aa (Ai (p:=(Ap ve 0)) (.inr Z) (.int .i64 ex.kind) AD Z ((a2 _ (Au.of_ext [] a0)).ld (i:=0) (by simp[EX,EY])) Aa ?_)))))))
   by_cases aj:ex.kind=((9:Nat):Int)
   ·refine Am true Z Z (A5 aj) Aa (Ad 2 Z ?_)
    by_cases ak:((k:Nat):Int)=((1:Nat):Int)
    ·refine Am true Z Z (A5 ak) (Ae (e:=32) Z Z Z) (Ac 1 Z (Ag Z (Ab _ [0,0,0] Z (Ad 1 Z (AP (vars+1) Z Z (Da oM oM) Aa (Ac 1 Z (A0 (Ab _ [0,0,0,0,2,0,0,0,0,3,0] Z (Ad 2 Z (AN (hex.isPtr) Z Aa (AJ (p:=ve) 4 B9 Z (a2 _ (Au.of_ext [] a0)) Aa (Ai (p:=(Ap ve 4)) (.inr Z) a1 Bd Z ((a2 _ (Au.of_ext [] a0)).ld (i:=4) (by simp[EX,EY])) Aa (Ad 1 Z ?_)))))))))))))
     refine AB (v:=a1) k D1 Bk Z Z a3.rn.isSl Z sD Aa (Ad 2 Z ?_)
     refine As 272 [] [] [vp,(Ay a1 k 5),(.int .i64 (vars+1)),(.int .i64 funcs)] Z Z Qq Aa (ih dd4 oM _ dp vp (p) (Ay a1 k 5) (ex.kids.getD k Ex.zero) _ _ (hp.ext (B5 (AU dp)) a0) (RN.ptr (Aw dd4) (by decide) Ex.zero (a3.rn.ext (An (Aw dd4)) a0) sD) oM _hfuncs oM oM) ?_
     rintro e8 w8 ⟨rfl,af⟩
     refine⟨_,rfl,af,?_⟩
     have ar:=af.size
     have al:=a0.trans af
     refine Bn (!(wf p funcs (ex.kids.getD k Ex.zero) (vars+1))) Z Z Aa (Aj ?_)
     cases am:(!(wf p funcs (ex.kids.getD k Ex.zero) (vars+1)))
     ·refine Ah (by first|rfl|(show Value.bool _=_;rw[am])) (A2 (Ab _ [0,0,0] Z (Ad 1 Z (AP ((k+1:Nat):Int) Z Z (Bl oM sD) Aa (Ac 1 Z ?_)))))
      exact⟨(k+1),_,rfl,⟨rfl,rfl,rfl,rfl,rfl,trivial⟩,⟨al,sD,P5⟩,by first|omega|(dsimp only;omega)⟩
     ·exact Ag (by first|rfl|(show Value.bool _=_;rw[am])) (A0 (Ab _ [0] Z (Ac 1 Z (A1 (AC (Al (Al (AC (Al (Af [8] Z (.bool false) Z ⟨Lv,al⟩))))))))))
    ·refine Am false Z Z (A6 ak) (Ae (e:=32) Z Z Z) (Ac 1 Z (Ah Z (A2 (A0 (Ab _ [0,0,0,0,2,0,0,0,0,3,0] Z (Ad 2 Z (AN (hex.isPtr) Z Aa (AJ (p:=ve) 4 B9 Z (a2 _ (Au.of_ext [] a0)) Aa (Ai (p:=(Ap ve 4)) (.inr Z) a1 Bd Z ((a2 _ (Au.of_ext [] a0)).ld (i:=4) (by simp[EX,EY])) Aa (Ad 1 Z ?_))))))))))
     refine AB (v:=a1) k D1 Bk Z Z a3.rn.isSl Z sD Aa (Ad 2 Z ?_)
     refine As 272 [] [] [vp,(Ay a1 k 5),(.int .i64 vars),(.int .i64 funcs)] Z Z Qq Aa (ih dd4 oM _ dp vp (p) (Ay a1 k 5) (ex.kids.getD k Ex.zero) _ _ (hp.ext (B5 (AU dp)) a0) (RN.ptr (Aw dd4) (by decide) Ex.zero (a3.rn.ext (An (Aw dd4)) a0) sD) _hvars _hfuncs oM oM) ?_
     rintro e10 w10 ⟨rfl,a4⟩
     refine⟨_,rfl,a4,?_⟩
     have an:=a4.size
     have a6:=a0.trans a4
     refine Bn (!(wf p funcs (ex.kids.getD k Ex.zero) vars)) Z Z Aa (Aj ?_)
     cases a7:(!(wf p funcs (ex.kids.getD k Ex.zero) vars))
     ·refine Ah (by first|rfl|(show Value.bool _=_;rw[a7])) (A2 (Ab _ [0,0,0] Z (Ad 1 Z (AP ((k+1:Nat):Int) Z Z (Bl oM sD) Aa (Ac 1 Z ?_)))))
      exact⟨(k+1),_,rfl,⟨rfl,rfl,rfl,rfl,rfl,trivial⟩,⟨a6,sD,P5⟩,by first|omega|(dsimp only;omega)⟩
     ·exact Ag (by first|rfl|(show Value.bool _=_;rw[a7])) (A0 (Ab _ [0] Z (Ac 1 Z (A1 (AC (Al (Al (AC (Al (Af [8] Z (.bool false) Z ⟨Lv,a6⟩))))))))))
   ·refine Am false Z Z (A6 aj) Aa (Ac 4 Z (Ah Z (A2 (A0 (Ab _ [0,0,0,0,2,0,0,0,0,3,0] Z (Ad 2 Z (AN (hex.isPtr) Z Aa (AJ (p:=ve) 4 B9 Z (a2 _ (Au.of_ext [] a0)) Aa (Ai (p:=(Ap ve 4)) (.inr Z) a1 Bd Z ((a2 _ (Au.of_ext [] a0)).ld (i:=4) (by simp[EX,EY])) Aa (Ad 1 Z ?_))))))))))
    refine AB (v:=a1) k D1 Bk Z Z a3.rn.isSl Z sD Aa (Ad 2 Z ?_)
    refine As 272 [] [] [vp,(Ay a1 k 5),(.int .i64 vars),(.int .i64 funcs)] Z Z Qq Aa (ih dd4 oM _ dp vp (p) (Ay a1 k 5) (ex.kids.getD k Ex.zero) _ _ (hp.ext (B5 (AU dp)) a0) (RN.ptr (Aw dd4) (by decide) Ex.zero (a3.rn.ext (An (Aw dd4)) a0) sD) _hvars _hfuncs oM oM) ?_
    rintro e12 w12 ⟨rfl,a5⟩
    refine⟨_,rfl,a5,?_⟩
    have ao:=a5.size
    have a8:=a0.trans a5
    refine Bn (!(wf p funcs (ex.kids.getD k Ex.zero) vars)) Z Z Aa (Aj ?_)
    cases a9:(!(wf p funcs (ex.kids.getD k Ex.zero) vars))
    ·refine Ah (by first|rfl|(show Value.bool _=_;rw[a9])) (A2 (Ab _ [0,0,0] Z (Ad 1 Z (AP ((k+1:Nat):Int) Z Z (Bl oM sD) Aa (Ac 1 Z ?_)))))
     exact⟨(k+1),_,rfl,⟨rfl,rfl,rfl,rfl,rfl,trivial⟩,⟨a8,sD,P5⟩,by first|omega|(dsimp only;omega)⟩
    ·exact Ag (by first|rfl|(show Value.bool _=_;rw[a9])) (A0 (Ab _ [0] Z (Ac 1 Z (A1 (AC (Al (Al (AC (Al (Af [8] Z (.bool false) Z ⟨Lv,a8⟩))))))))))
  ·exact AG false Z Z (A6 ai) Aa (Aj (Ah Z (A4 (Ax (Ax (At (A0 (Ab _ [0] Z (Ac 1 Z (A1 (Af [8] Z (.bool true) Z ⟨Lv,a0⟩)))))))))))
 ·exact Ag (by first|rfl|(show Value.bool _=_;rw[ag])) (A0 (Ab _ [0] Z (Ac 1 Z (A1 (Al (Af [8] Z (.bool false) Z ⟨Lv,ad⟩))))))
theorem Lx (w:World)(vars:Int)(_hvars:Bx vars)  :
  Calls Tryz.prog 270 #[.int .i64 vars] w (fun e w'=>e=.returned (.bool (E7 vars 0 412))∧w'=w):=by
 refine Aq [.int .i64 vars] 5 Tryz.func270 Z Z sM ?_
 have a0:w=w:=rfl
 exact A0 (Ab _ [0] Z (Ac 1 Z (A0 (Ab _ [0,0,0] Z (Ad 1 Z (Az 74 [] [] [(.int .i64 vars),(.int .i64 ((0:Nat):Int)),(.int .i64 ((412:Nat):Int))] Z Z IA Aa (.bool (decide (((0:Nat):Int)≤vars) && decide (vars≤((412:Nat):Int)))) (fun wq=>Bw wq _ _ _ _hvars oM oM) (Ac 1 Z (A1 (Af [2] Z (.bool (decide (((0:Nat):Int)≤vars) && decide (vars≤((412:Nat):Int)))) Z ⟨rfl,a0⟩)))))))))
theorem Ly {p:Prop}(h:p:=by first|exact AI (VN (by assumption))|exact AI (Qw ⟨Br.1 (by assumption),HB (by assumption),by omega,by omega⟩)|exact AI ((by assumption:wf p funcs ex vars=true).symm.trans (Qw ⟨Br.1 (by assumption),HB (by assumption),by omega,by omega⟩))|exact AI (My fun hh=>Tj (by assumption) hh.1)|exact AI (My fun hh=>Qy (by assumption) hh.2.1)|exact AI (My oM)):p:=h
theorem Lz (w:World)(dp:Nat)(vp:Value)(p:List Fn)(dex:Nat)(ve:Value)(ex:Ex)(vars:Int)(funcs:Int)(hp:RN [] (rP (Ki dp)) w.heap vp p)(hex:RN [] (rP (LK dex)) w.heap ve ex)(_hvars:Bx vars)(_hfuncs:Bx funcs)(hs:ex.size≤1000000000) :
  Calls Tryz.prog 240 #[vp,ve,.int .i64 vars,.int .i64 funcs] w (fun e w'=>e=.returned (.bool (LO p ex vars funcs))∧AF w w'):=by
 refine Aq [vp,ve,.int .i64 vars,.int .i64 funcs] 37 Tryz.func240 Z Z sM ?_
 have a1:AF w w:=AF.refl w
 have hlp:=Se (e:=ex) (x:=((400:Nat):Int)) oM
 refine A0 (Ab _ [0] Z (Ac 1 Z (A0 (Ab _ [0,0,0,0,0,0,0,2,0,0,0,0,0,3,0,0,0,0,3,0,0,0,0,0,0,0,3,0,0] Z (Ad 1 Z (Az 270 [] [] [(.int .i64 vars)] Z Z Zk Aa (.bool (E7 vars 0 412)) (fun wq=>Lx wq _ _hvars) (Ad 1 Z ?_)))))))
 cases ah:(E7 vars 0 412)
 ·exact Ac 26 Z (A1 (Af [8] Z (.bool false) Z ⟨Ly,a1⟩))
 ·refine Ad 2 Z (AN (hp.isPtr) Z (Ae (e:=11) Z Z Z) ?_)
  obtain⟨cs3,ae,a8⟩:=RN.at (AU _) hp
  obtain⟨a9,rfl,aa⟩:=RPr.of ae
  have a3:=aa.lenle
  unfold maxLen at a3
  refine AJ (p:=vp) 0 Bv Z (a8 _ (Au.of_ext [] a1)) (Ae (e:=11) Z Z Z) (Ai (p:=(Ap vp 0)) (.inr Z) a9 BY Z ((a8 _ (Au.of_ext [] a1)).ld (i:=0) (by simp[EX,EY])) (Ae (e:=11) Z Z Z) (AQ (v:=a9) Gb Z aa.isSl (Ae (e:=11) Z Z Z) (Az 74 [] [] [(.int .i64 funcs),(.int .i64 ((0:Nat):Int)),(.int .i64 ((p.length:Nat):Int))] Z Z IA (Ae (e:=11) Z Z Z) (.bool (decide (((0:Nat):Int)≤funcs) && decide (funcs≤((p.length:Nat):Int)))) (fun wq=>Bw wq _ _ _ _hfuncs oM oM) (Ad 2 Z ?_))))
  cases ai:(decide (((0:Nat):Int)≤funcs) && decide (funcs≤((p.length:Nat):Int)))
  ·exact Ac 17 Z (A1 (Af [8] Z (.bool false) Z ⟨Ly,a1⟩))
  ·refine Ad 1 Z (As 239 [] [] [ve,(.int .i64 ((400:Nat):Int))] Z Z T6 (Ae (e:=20) Z Z Z) (HD _ dex ve (ex) _ (hex.ext (B5 (Aw dex)) a1) oM oM oM) ?_)
   rintro e6 w6 ⟨rfl,a4⟩
   refine⟨_,rfl,a4,?_⟩
   have af:=a4.size
   have a5:=a1.trans a4
   by_cases ab:((0:Nat):Int)≤I0 ex ((400:Nat):Int)
   ·refine Dv true Z Z (A5 ab) (Ae (e:=20) Z Z Z) (Ad 3 Z (As 271 [] [] [ve] Z Z VH (Ae (e:=25) Z Z Z) (Ke _ dex ve (ex) (hex.ext (B5 (Aw dex)) a5) oM) ?_))
    rintro e8 w8 ⟨rfl,a6⟩
    refine⟨_,rfl,a6,?_⟩
    have ag:=a6.size
    have a2:=a5.trans a6
    by_cases ac:((ex.deep:Nat):Int)≤((60:Nat):Int)
    ·refine DQ true Z Z (A5 ac) (Ae (e:=25) Z Z Z) (Ad 6 Z (As 272 [] [] [vp,ve,(.int .i64 vars),(.int .i64 funcs)] Z Z Qq (Ae (e:=30) Z Z Z) (Lw _ dp vp (p) dex ve (ex) _ _ (hp.ext (B5 (AU dp)) a2) (hex.ext (B5 (Aw dex)) a2) _hvars _hfuncs (by have h1:=Br.1 (by assumption:E7 vars 0 412=true);omega) (by have h2:=HB (by assumption:(decide (((0:Nat):Int)≤funcs) && decide (funcs≤((p.length:Nat):Int)))=true);omega)) ?_))
     rintro e10 w10 ⟨rfl,a0⟩
     refine⟨_,rfl,a0,?_⟩
     have ad:=a0.size
     have a7:=a2.trans a0
     exact Ac 2 Z (A1 (Af [8] Z (.bool (wf p funcs ex vars)) Z ⟨Ly,a7⟩))
    ·exact DQ false Z Z (A6 ac) (Ae (e:=25) Z Z Z) (Ac 9 Z (A1 (Af [8] Z (.bool false) Z ⟨Ly,a2⟩)))
   ·exact Dv false Z Z (A6 ab) (Ae (e:=20) Z Z Z) (Ac 14 Z (A1 (Af [8] Z (.bool false) Z ⟨Ly,a5⟩)))
theorem XV {s:ByteArray}(h:¬(1≤s.size∧s.size≤12)):false=Kr s:=by
  cases hh:Kr s with
  |false=>rfl
  |true=>unfold Kr at hh;simp only[Bool.and_eq_true,decide_eq_true_eq]at hh;exact absurd hh.1 h
theorem HE {p:Prop}(h:p:=by first|exact AI (XV (fun hh=>Qy (CX (by assumption)) ⟨by omega,by omega⟩))|exact AI (OZ (k:=0) oM oM)|exact AI (OZ (k:=k) oM oM)|exact AI (Ti hq oM (by rw[A5 (show 1≤s.size by omega),A5 (show s.size≤12 by omega)];rfl))):p:=h
theorem P6 {p:Prop}(h:p:=by exact DK hq (Qv (by(by_cases h0:k=0;(rw[h0];left;omega);omega)))):p:=h
theorem LX (w:World)(s:ByteArray)  (hl:s.size≤1000000000) :
  Calls Tryz.prog 238 #[.string s] w (fun e w'=>e=.returned (.bool (Kr s))∧w'=w):=by
 refine Aq [.string s] 46 Tryz.func238 Z Z sM ?_
 have a1:w=w:=rfl
 refine A0 (Ab _ [0] Z (Ac 1 Z (A0 (A0 (Ab _ [0,0,0,0,0,0,0,0,0,0,0,0,0,0] Z (Ad 1 Z (KI (s:=s) u9 Z Aa (Az 74 [] [] [(.int .i64 ((s.size:Nat):Int)),(.int .i64 ((1:Nat):Int)),(.int .i64 ((12:Nat):Int))] Z Z IA Aa (.bool (decide (((1:Nat):Int)≤((s.size:Nat):Int)) && decide (((s.size:Nat):Int)≤((12:Nat):Int)))) (fun wq=>Bw wq _ _ _ oM oM oM) (Bn (!(decide (((1:Nat):Int)≤((s.size:Nat):Int)) && decide (((s.size:Nat):Int)≤((12:Nat):Int)))) Z Z Aa (Ad 1 Z ?_))))))))))
 cases ac:(!(decide (((1:Nat):Int)≤((s.size:Nat):Int)) && decide (((s.size:Nat):Int)≤((12:Nat):Int))))
 ·refine Ad 1 Z ?_
  have hsz:=HB (Do (by assumption):(decide (((1:Nat):Int)≤((s.size:Nat):Int)) && decide (((s.size:Nat):Int)≤((12:Nat):Int)))=true)
  refine Db (s:=s) 0 u9 Z Z Z sD (Ae (e:=8) Z Z Z) ?_
  by_cases a5:((Js s 0:Nat):Int)<97
  ·exact AG true Z Z (A5 a5) (Ae (e:=8) Z Z Z) (Ac 6 Z (Ag Z (A0 (Ab _ [0] Z (Ac 1 Z (A1 (Al (Af [2] Z (.bool false) Z ⟨HE,a1⟩))))))))
  ·refine AG false Z Z (A6 a5) (Ae (e:=8) Z Z Z) (Ad 3 Z (Db (s:=s) 0 u9 Z Z Z sD (Ae (e:=13) Z Z Z) ?_))
   by_cases a6:122<((Js s 0:Nat):Int)
   ·exact BU true Z Z (A5 a6) (Ae (e:=13) Z Z Z) (Ac 1 Z (Ag Z (A0 (Ab _ [0] Z (Ac 1 Z (A1 (Al (Af [2] Z (.bool false) Z ⟨HE,a1⟩))))))))
   ·refine BU false Z Z (A6 a6) (Ae (e:=13) Z Z Z) (Ac 1 Z (Ah Z (A2 (A0 (A0 (Ab _ [0] Z (Ac 1 Z (A3 (B1 (S:=Nat) (fun k=>([(3,(.int .i64 ((k:Nat):Int))),(0,(.string s))])) (fun k W=>W=w∧k≤s.size∧(List.range k).all (UU s)=true) (fun k=>s.size-k) 0 ⟨rfl,rfl,trivial⟩ ⟨a1,sD,(by rfl)⟩ ?_)))))))))
    clear a1
    rintro k ρ5 w5 ⟨a0,a7,hq⟩
    refine A0 (A0 (Ab _ [0,0,0,0] Z (Ad 2 Z (KI (s:=s) u9 Z Aa ?_))))
    by_cases a8:((k:Nat):Int)<((s.size:Nat):Int)
    ·refine AG true Z Z (A5 a8) Aa (Aj (Ag Z (A2 (A0 (A3 (A0 (Ab _ [0,0,0,0,0,0,0,0,0,0,0,0,0,0,0,0,0,0,0,0,0,0] Z (Ad 2 Z (Db (s:=s) k u9 Z Z Z sD Aa ?_)))))))))
     by_cases a9:((Js s k:Nat):Int)<97
     ·refine AG true Z Z (A5 a9) Aa (Ad 9 Z (Db (s:=s) k u9 Z Z Z sD (Ae (e:=34) Z Z Z) ?_))
      by_cases aa:((Js s k:Nat):Int)<48
      ·exact AG true Z Z (A5 aa) (Ae (e:=34) Z Z Z) (Ac 7 Z (Ag Z (A0 (Ab _ [0] Z (Ac 1 Z (A1 (AC (Al (Al (AC (Al (Af [2] Z (.bool false) Z ⟨HE,a0⟩))))))))))))
      ·refine AG false Z Z (A6 aa) (Ae (e:=34) Z Z Z) (Ad 3 Z (Db (s:=s) k u9 Z Z Z sD (Ae (e:=39) Z Z Z) ?_))
       by_cases ab:57<((Js s k:Nat):Int)
       ·exact BU true Z Z (A5 ab) (Ae (e:=39) Z Z Z) (Ac 2 Z (Ag Z (A0 (Ab _ [0] Z (Ac 1 Z (A1 (AC (Al (Al (AC (Al (Af [2] Z (.bool false) Z ⟨HE,a0⟩))))))))))))
       ·refine BU false Z Z (A6 ab) (Ae (e:=39) Z Z Z) (Ac 2 Z (Ah Z (A2 (Ab _ [0,0,0] Z (Ad 1 Z (AP ((k+1:Nat):Int) Z Z (Bl oM sD) Aa (Ac 1 Z ?_)))))))
        exact⟨(k+1),_,rfl,⟨rfl,rfl,trivial⟩,⟨a0,sD,P6⟩,by first|omega|(dsimp only;omega)⟩
     ·refine AG false Z Z (A6 a9) Aa (Ad 3 Z (Db (s:=s) k u9 Z Z Z sD (Ae (e:=28) Z Z Z) ?_))
      by_cases a2:122<((Js s k:Nat):Int)
      ·refine BU true Z Z (A5 a2) (Ae (e:=28) Z Z Z) (Ad 4 Z (Db (s:=s) k u9 Z Z Z sD (Ae (e:=34) Z Z Z) ?_))
       by_cases a3:((Js s k:Nat):Int)<48
       ·exact AG true Z Z (A5 a3) (Ae (e:=34) Z Z Z) (Ac 7 Z (Ag Z (A0 (Ab _ [0] Z (Ac 1 Z (A1 (AC (Al (Al (AC (Al (Af [2] Z (.bool false) Z ⟨HE,a0⟩))))))))))))
       ·refine AG false Z Z (A6 a3) (Ae (e:=34) Z Z Z) (Ad 3 Z (Db (s:=s) k u9 Z Z Z sD (Ae (e:=39) Z Z Z) ?_))
        by_cases a4:57<((Js s k:Nat):Int)
        ·exact BU true Z Z (A5 a4) (Ae (e:=39) Z Z Z) (Ac 2 Z (Ag Z (A0 (Ab _ [0] Z (Ac 1 Z (A1 (AC (Al (Al (AC (Al (Af [2] Z (.bool false) Z ⟨HE,a0⟩))))))))))))
        ·refine BU false Z Z (A6 a4) (Ae (e:=39) Z Z Z) (Ac 2 Z (Ah Z (A2 (Ab _ [0,0,0] Z (Ad 1 Z (AP ((k+1:Nat):Int) Z Z (Bl oM sD) Aa (Ac 1 Z ?_)))))))
         exact⟨(k+1),_,rfl,⟨rfl,rfl,trivial⟩,⟨a0,sD,P6⟩,by first|omega|(dsimp only;omega)⟩
      ·refine BU false Z Z (A6 a2) (Ae (e:=28) Z Z Z) (Ac 13 Z (Ah Z (A2 (Ab _ [0,0,0] Z (Ad 1 Z (AP ((k+1:Nat):Int) Z Z (Bl oM sD) Aa (Ac 1 Z ?_)))))))
       exact⟨(k+1),_,rfl,⟨rfl,rfl,trivial⟩,⟨a0,sD,P6⟩,by first|omega|(dsimp only;omega)⟩
    ·exact AG false Z Z (A6 a8) Aa (Aj (Ah Z (A4 (Ax (Ax (At (A0 (Ab _ [0] Z (Ac 1 Z (A1 (Af [2] Z (.bool true) Z ⟨HE,a0⟩)))))))))))
 ·exact Ac 9 Z (Ag Z (A0 (Ab _ [0] Z (Ac 1 Z (A1 (Al (Af [2] Z (.bool false) Z ⟨HE,a1⟩)))))))
end
section
set_option maxHeartbeats 4000000
set_option maxRecDepth 100000
attribute [local irreducible] LW
theorem To {α:Type}{l:List α}{f:α→Bool}{k:Nat}(d:α)(hk:k<l.length)(h:(l.take k).any f=false)(h2:f (l.getD k d)=false):(l.take (k+1)).any f=false:=by
  rw[List.take_succ_eq_append_getElem hk,List.any_append,h]
  have:l.getD k d=l[k]:=by simp[hk]
  rw[this]at h2
  simp[h2]
theorem UJ {α:Type}{l:List α}{f:α→Bool}{k n:Nat}(d:α)(hk:k<n)(hn:n≤l.length)(h:f (l.getD k d)=true):(l.take n).any f=true:=by
  rw[List.any_eq_true]
  have hkl:k<l.length:=by omega
  have e:l.getD k d=l[k]:=by simp[hkl]
  refine⟨l[k],?_,by rw[← e];exact h⟩
  rw[List.mem_take_iff_getElem]
  exact⟨k,by omega,rfl⟩
theorem UK {p:List Fn}{a j:Nat}{x:Int}(hx:x=D6 ((p.getD a Fn.zero).outs.take j) ((400:Nat):Int))(h:0≤x)(hj:(p.getD a Fn.zero).outs.length≤j):Ex.sizes (p.getD a Fn.zero).outs≤400:=by
  rw[List.take_of_length_le hj]at hx
  rcases HR (p.getD a Fn.zero).outs ((400:Nat):Int) (Int.natCast_nonneg _)with h2|h2
  · have:=h2.2;omega
  · have:=h2.1;omega
theorem Tq {p:List Fn}{a j:Nat}(h:D6 ((p.getD a Fn.zero).outs.take j) ((400:Nat):Int)<0):K4 p a=false:=ZA (by
  have h1:=Mk h
  rcases HR (p.getD a Fn.zero).outs ((400:Nat):Int) (Int.natCast_nonneg _)with h2|h2
  · have:=h2.1;have:=h2.2;omega
  · have:=h2.2;omega)
theorem IE {p:Prop}(h:p:=by first|exact AI (Zv (CX (by assumption))).symm|exact AI (Zx (CX (by assumption))).symm|exact AI (Zy (CX (by assumption))).symm|exact AI (Zw (UJ (k:=k) Fn.zero oM oM (by assumption))).symm|exact AI (Tq (j:=j+1) (by rw[hnx,← hx];omega)).symm|exact AI (Zz (j:=j) oM (CX (by assumption))).symm|exact AI (VO (Do (by assumption)) hqa (Do (by assumption)) (Do (by assumption)) hqe oM (UK hx oM oM)).symm):p:=h
theorem Fu {p:Prop}(h:p:=by simp[EX,EY]):p:=h
theorem LA (w:World)(dp:Nat)(vp:Value)(p:List Fn)(a:Nat)(hp:RN [] (rP (Ki dp)) w.heap vp p)(ha:a<p.length)(hpl:p.length≤1000000)(hz:PJ p) :
  Calls Tryz.prog 207 #[vp,.int .i64 ((a:Nat):Int)] w (fun e w'=>e=.returned (.bool (K4 p a))∧AF w w'):=by
 refine Aq [vp,.int .i64 ((a:Nat):Int)] 91 Tryz.func207 Z Z sM ?_
 have a4:AF w w:=AF.refl w
 have hza:=hz a ha
 refine A0 (Ab _ [0] Z (Ac 1 Z (A0 (Ab _ [0,0,0,2,0,0,0] Z (Ad 1 Z (AN (hp.isPtr) Z Aa ?_))))))
 obtain⟨cs1,ay,al⟩:=RN.at (AU _) hp
 obtain⟨a0,rfl,a5⟩:=RPr.of ay
 have ab:=a5.lenle
 unfold maxLen at ab
 refine AJ (p:=vp) 0 Bv Z (al _ (Au.of_ext [] a4)) Aa (Ai (p:=(Ap vp 0)) (.inr Z) a0 BY Z ((al _ (Au.of_ext [] a4)).ld (i:=0) Fu) Aa (Ad 1 Z (AB (v:=a0) a Gb Cj Z Z a5.isSl Z sD Aa (Ac 1 Z (A0 (A0 (Ab _ [0,0,0,2,0,0,0,0,0,0,2,0,0,0,0,0,0,0,2,0,0,0,0] Z (Ad 1 Z ?_))))))))
 refine AN (RN.isPtr (RN.ptr (Av dp) (by decide) Fn.zero a5 sD)) Z Aa ?_
 obtain⟨cs2,az,a3⟩:=a5.get (Av dp) Fn.zero (k:=a) sD
 obtain⟨a6,rfl,a9⟩:=RF.of az
 have ac:=a9.rn.lenle
 unfold maxLen at ac
 refine AJ (p:=Ay a0 a 3) 0 JN Z (a3 _ (Au.of_ext [] a4)) Aa (Ai (p:=(Ap (Ay a0 a 3) 0)) (.inr Z) (.string ((p.getD a Fn.zero).name)) OT Z ((a3 _ (Au.of_ext [] a4)).ld (i:=0) Fu) Aa (Az 238 [] [] [(.string ((p.getD a Fn.zero).name))] Z Z Zd Aa (.bool (Kr ((p.getD a Fn.zero).name))) (fun wq=>LX wq ((p.getD a Fn.zero).name) oM) (Bn (!(Kr ((p.getD a Fn.zero).name))) Z Z Aa (Ad 1 Z ?_))))
 cases b1:(!(Kr ((p.getD a Fn.zero).name)))
 ·refine Ad 1 Z (AN (RN.isPtr (RN.ptr (Av dp) (by decide) Fn.zero a5 sD)) Z (Ae (e:=21) Z Z Z) (AJ (p:=Ay a0 a 3) 1 C2 Z (a3 _ (Au.of_ext [] a4)) (Ae (e:=21) Z Z Z) (Ai (p:=(Ap (Ay a0 a 3) 1)) (.inr Z) (.int .i64 ((p.getD a Fn.zero).params)) AD Z ((a3 _ (Au.of_ext [] a4)).ld (i:=1) Fu) (Ae (e:=21) Z Z Z) ?_)))
  refine Az 74 [] [] [(.int .i64 ((p.getD a Fn.zero).params)),(.int .i64 ((0:Nat):Int)),(.int .i64 ((12:Nat):Int))] Z Z IA (Ae (e:=21) Z Z Z) (.bool (decide (((0:Nat):Int)≤((p.getD a Fn.zero).params)) && decide (((p.getD a Fn.zero).params)≤((12:Nat):Int)))) (fun wq=>Bw wq _ _ _ a9.rng oM oM) (Bn (!(decide (((0:Nat):Int)≤((p.getD a Fn.zero).params)) && decide (((p.getD a Fn.zero).params)≤((12:Nat):Int)))) Z Z (Ae (e:=21) Z Z Z) (Ad 2 Z ?_))
  cases b2:(!(decide (((0:Nat):Int)≤((p.getD a Fn.zero).params)) && decide (((p.getD a Fn.zero).params)≤((12:Nat):Int))))
  ·refine Ad 1 Z (AN (RN.isPtr (RN.ptr (Av dp) (by decide) Fn.zero a5 sD)) Z (Ae (e:=29) Z Z Z) (AJ (p:=Ay a0 a 3) 2 BL Z (a3 _ (Au.of_ext [] a4)) (Ae (e:=29) Z Z Z) (Ai (p:=(Ap (Ay a0 a 3) 2)) (.inr Z) a6 Bd Z ((a3 _ (Au.of_ext [] a4)).ld (i:=2) Fu) (Ae (e:=29) Z Z Z) (AQ (v:=a6) D1 Z a9.rn.isSl (Ae (e:=29) Z Z Z) ?_))))
   refine Az 74 [] [] [(.int .i64 ((((p.getD a Fn.zero).outs).length:Nat):Int)),(.int .i64 ((1:Nat):Int)),(.int .i64 ((12:Nat):Int))] Z Z IA (Ae (e:=29) Z Z Z) (.bool (decide (((1:Nat):Int)≤((((p.getD a Fn.zero).outs).length:Nat):Int)) && decide (((((p.getD a Fn.zero).outs).length:Nat):Int)≤((12:Nat):Int)))) (fun wq=>Bw wq _ _ _ oM oM oM) (Bn (!(decide (((1:Nat):Int)≤((((p.getD a Fn.zero).outs).length:Nat):Int)) && decide (((((p.getD a Fn.zero).outs).length:Nat):Int)≤((12:Nat):Int)))) Z Z (Ae (e:=29) Z Z Z) (Ac 1 Z ?_))
   cases ar:(!(decide (((1:Nat):Int)≤((((p.getD a Fn.zero).outs).length:Nat):Int)) && decide (((((p.getD a Fn.zero).outs).length:Nat):Int)≤((12:Nat):Int))))
   ·refine Ah (by first|rfl|(show Value.bool _=_;rw[ar])) (A2 (A0 (A0 (Ab _ [0] Z (Ac 1 Z (A3 ?_))))))
    refine B1 (S:=Nat) (fun k=>([(6,(.int .i64 ((k:Nat):Int))),(0,vp),(1,(.int .i64 ((a:Nat):Int))),(5,(Ay a0 a 3))])) (fun k W=>AF w W∧k≤a∧(p.take k).any (fun g=>HZ g.name (p.getD a Fn.zero).name)=false) (fun k=>a-k) 0 ⟨rfl,rfl,rfl,rfl,trivial⟩ ⟨a4,sD,(by rfl)⟩ ?_
    clear a4 ab ac
    rintro k ρ9 w9 ⟨a7,au,hq⟩
    have am:w.heap.size≤w9.heap.size:=a7.size
    refine A0 (A0 (Ab _ [0,0,0] Z (Ad 2 Z ?_)))
    by_cases ad:((k:Nat):Int)<((a:Nat):Int)
    ·refine AG true Z Z (A5 ad) Aa (Aj (Ag Z (A2 (A0 (A3 (A0 (AO _ [0,0,0,1,0,0,0,1,0,0,0,1,0] mixed (by kernel_rfl) (Ad 1 Z (AN (hp.isPtr) Z Aa (AJ (p:=vp) 0 Bv Z (al _ (Au.of_ext [] a7.drew)) Aa (Ai (p:=(Ap vp 0)) (.inl Z) a0 BY Z ((al _ (Au.of_ext [] a7.drew)).ld (i:=0) Fu) Aa (Ad 1 Z ?_))))))))))))
     refine AB (v:=a0) k Gb Cj Z Z a5.isSl Z sD Aa ?_
     obtain⟨cs11,an,ae⟩:=a5.get (Av dp) Fn.zero (k:=k) sD
     obtain⟨b0,rfl,ao⟩:=RF.of an
     have af:=ao.rn.lenle
     unfold maxLen at af
     refine AJ (p:=Ay a0 k 3) 0 JN Z (ae _ (Au.of_ext [] a7.drew)) Aa (Ai (p:=(Ap (Ay a0 k 3) 0)) (.inl Z) (.string ((p.getD k Fn.zero).name)) OT Z ((ae _ (Au.of_ext [] a7.drew)).ld (i:=0) Fu) Aa (Ad 1 Z (AN (RN.isPtr (RN.ptr (Av dp) (by decide) Fn.zero a5 sD)) Z Aa (AJ (p:=Ay a0 a 3) 0 JN Z (a3 _ (Au.of_ext [] a7.drew)) Aa ?_))))
     refine Ai (p:=(Ap (Ay a0 a 3) 0)) (.inl Z) (.string ((p.getD a Fn.zero).name)) OT Z ((a3 _ (Au.of_ext [] a7.drew)).ld (i:=0) Fu) Aa ?_
     cases ag:HZ ((p.getD k Fn.zero).name) ((p.getD a Fn.zero).name)
     ·refine OA false u9 Z Z ag Aa (Aj (Ah Z (A2 (Ab _ [0,0,0] Z (Ad 1 Z (AP ((k+1:Nat):Int) Z Z (Bl oM sD) Aa (Ac 1 Z ?_)))))))
      exact⟨(k+1),_,rfl,⟨rfl,rfl,rfl,rfl,trivial⟩,⟨a7.drew,sD,(by exact To Fn.zero oM hq (by assumption))⟩,by first|omega|(dsimp only;omega)⟩
     ·exact OA true u9 Z Z ag Aa (Aj (Ag Z (A0 (Ab _ [0] Z (Ac 1 Z (A1 (AC (Al (Al (AC (Al (Af [4] Z (.bool false) Z ⟨IE,a7.drew⟩))))))))))))
    ·refine AG false Z Z (A6 ad) Aa (Aj (Ah Z (A4 (Ax (Ax (At (A0 (Ab _ [0] Z ?_))))))))
     have hka:k=a:=by omega
     rw[hka]at hq
     have hqa:=hq
     refine Ac 1 Z (A0 (A0 (Ab _ [0] Z (Ac 1 Z (A3 ?_)))))
     refine B1 (S:=Nat×Int) (fun⟨j,x⟩=>([(7,(.int .i64 x)),(8,(.int .i64 ((j:Nat):Int))),(0,vp),(1,(.int .i64 ((a:Nat):Int))),(5,(Ay a0 a 3))])) (fun⟨j,x⟩ W=>AF w W∧j≤(p.getD a Fn.zero).outs.length∧x=D6 ((p.getD a Fn.zero).outs.take j) ((400:Nat):Int)∧(0≤x∧x≤400)∧(List.range j).all (fun j=>LO p ((p.getD a Fn.zero).outs.getD j Ex.zero) (p.getD a Fn.zero).params ((a:Nat):Int))=true) (fun⟨j,x⟩=>(p.getD a Fn.zero).outs.length-j) (0,((400:Nat):Int)) ⟨rfl,rfl,rfl,rfl,rfl,trivial⟩ ⟨a7,sD,(by rw[List.take_zero,D6]),oM,(by rfl)⟩ ?_
     clear a7 am
     rintro⟨j,x⟩ ρ13 w13 ⟨a1,ap,hx,aq,hqe⟩
     have av:w.heap.size≤w13.heap.size:=a1.size
     refine A0 (A0 (Ab _ [0,0,0,0,2,0,0] Z (Ad 2 Z (AN (RN.isPtr (RN.ptr (Av dp) (by decide) Fn.zero a5 sD)) Z Aa (AJ (p:=Ay a0 a 3) 2 BL Z (a3 _ (Au.of_ext [] a1)) Aa (Ai (p:=(Ap (Ay a0 a 3) 2)) (.inr Z) a6 Bd Z ((a3 _ (Au.of_ext [] a1)).ld (i:=2) Fu) Aa (AQ (v:=a6) D1 Z a9.rn.isSl Aa ?_)))))))
     by_cases ah:((j:Nat):Int)<((((p.getD a Fn.zero).outs).length:Nat):Int)
     ·refine AG true Z Z (A5 ah) Aa (Aj (Ag Z (A2 (A0 (A3 (A0 (Ab _ [0,0,0,2,0,0,0,3,0] Z ?_)))))))
      have hst:=DE (l:=(p.getD a Fn.zero).outs) (k:=j) oM
      have hle:=Dg (p.getD a Fn.zero).outs (j+1)
      have hnx:=Mj (l:=(p.getD a Fn.zero).outs) (k:=j) (x:=((400:Nat):Int)) oM oM
      have hnr:=NS (e:=(p.getD a Fn.zero).outs.getD j Ex.zero) (x:=x) oM
      refine Ad 1 Z (AN (RN.isPtr (RN.ptr (Av dp) (by decide) Fn.zero a5 sD)) Z Aa (AJ (p:=Ay a0 a 3) 2 BL Z (a3 _ (Au.of_ext [] a1)) Aa (Ai (p:=(Ap (Ay a0 a 3) 2)) (.inr Z) a6 Bd Z ((a3 _ (Au.of_ext [] a1)).ld (i:=2) Fu) Aa (Ad 1 Z ?_))))
      refine AB (v:=a6) j D1 Bk Z Z a9.rn.isSl Z sD Aa (Ad 1 Z ?_)
      refine As 239 [] [] [(Ay a6 j 5),(.int .i64 x)] Z Z T6 Aa (HD _ dp (Ay a6 j 5) (((p.getD a Fn.zero).outs).getD j Ex.zero) _ (RN.ptr (Aw dp) (by decide) Ex.zero (a9.rn.ext (An (Aw dp)) a1) sD) oM oM oM) ?_
      rintro e15 w15 ⟨rfl,aa⟩
      refine⟨_,rfl,aa,?_⟩
      have aw:=aa.size
      have a2:=a1.trans aa
      refine Ac 1 Z (A0 (AO _ [0,0,0,0,0,0,0,1,0,0,0,0,0,1,0,3,0,0] mixed (by kernel_rfl) (Ad 1 Z ?_)))
      by_cases ai:I0 (((p.getD a Fn.zero).outs).getD j Ex.zero) x<((0:Nat):Int)
      ·exact AG true Z Z (A5 ai) Aa (Ac 16 Z (Ag Z (A0 (Ab _ [0] Z (Ac 1 Z (A1 (AC (Al (Al (AC (Al (Af [4] Z (.bool false) Z ⟨IE,a2.drew⟩))))))))))))
      ·refine AG false Z Z (A6 ai) Aa (Ad 3 Z (AN (RN.isPtr (RN.ptr (Av dp) (by decide) Fn.zero a5 sD)) Z (Ae (e:=75) Z Z Z) (AJ (p:=Ay a0 a 3) 2 BL Z (a3 _ (Au.of_ext [] a2.drew)) (Ae (e:=75) Z Z Z) (Ai (p:=(Ap (Ay a0 a 3) 2)) (.inl Z) a6 Bd Z ((a3 _ (Au.of_ext [] a2.drew)).ld (i:=2) Fu) (Ae (e:=75) Z Z Z) (Ad 1 Z ?_)))))
       refine AB (v:=a6) j D1 Bk Z Z a9.rn.isSl Z sD (Ae (e:=75) Z Z Z) (Ad 1 Z ?_)
       refine AN (RN.isPtr (RN.ptr (Av dp) (by decide) Fn.zero a5 sD)) Z (Ae (e:=75) Z Z Z) (AJ (p:=Ay a0 a 3) 1 C2 Z (a3 _ (Au.of_ext [] a2.drew)) (Ae (e:=75) Z Z Z) (Ai (p:=(Ap (Ay a0 a 3) 1)) (.inl Z) (.int .i64 ((p.getD a Fn.zero).params)) AD Z ((a3 _ (Au.of_ext [] a2.drew)).ld (i:=1) Fu) (Ae (e:=75) Z Z Z) (Ad 1 Z ?_)))
       refine As 240 [] [] [vp,(Ay a6 j 5),(.int .i64 ((p.getD a Fn.zero).params)),(.int .i64 ((a:Nat):Int))] Z Z Ze (Ae (e:=75) Z Z Z) (Lz _ dp vp (p) dp (Ay a6 j 5) (((p.getD a Fn.zero).outs).getD j Ex.zero) _ _ (hp.ext (B5 (AU dp)) a2.drew) (RN.ptr (Aw dp) (by decide) Ex.zero (a9.rn.ext (An (Aw dp)) a2.drew) sD) a9.rng oM oM) ?_
       rintro e17 w17 ⟨rfl,a8⟩
       refine⟨_,rfl,a8,?_⟩
       replace a8:=a8.of_drew
       have ax:=a8.size
       have aj:=a2.trans a8
       refine Bn (!(LO p (((p.getD a Fn.zero).outs).getD j Ex.zero) ((p.getD a Fn.zero).params) ((a:Nat):Int))) Z Z (Ae (e:=75) Z Z Z) (Ac 1 Z ?_)
       cases ak:(!(LO p (((p.getD a Fn.zero).outs).getD j Ex.zero) ((p.getD a Fn.zero).params) ((a:Nat):Int)))
       ·refine Ah (by first|rfl|(show Value.bool _=_;rw[ak])) (A2 (Ab _ [0,0,0] Z (Ad 1 Z (AP ((j+1:Nat):Int) Z Z (Bl oM sD) Aa (Ac 1 Z ?_)))))
        exact⟨((j+1),(I0 (((p.getD a Fn.zero).outs).getD j Ex.zero) x)),_,rfl,⟨rfl,rfl,rfl,rfl,rfl,trivial⟩,⟨aj,sD,(by rw[hnx,← hx]),oM,(by exact DK hqe (Do (by assumption)))⟩,by first|omega|(dsimp only;omega)⟩
       ·exact Ag (by first|rfl|(show Value.bool _=_;rw[ak])) (A0 (Ab _ [0] Z (Ac 1 Z (A1 (AC (Al (Al (AC (Al (Af [4] Z (.bool false) Z ⟨IE,aj⟩))))))))))
     ·exact AG false Z Z (A6 ah) Aa (Aj (Ah Z (A4 (Ax (Ax (At (A0 (Ab _ [0] Z (Ac 1 Z (A1 (Af [4] Z (.bool true) Z ⟨IE,a1⟩)))))))))))
   ·exact Ag (by first|rfl|(show Value.bool _=_;rw[ar])) (A0 (Ab _ [0] Z (Ac 1 Z (A1 (Al (Af [4] Z (.bool false) Z ⟨IE,a4⟩))))))
  ·exact Ac 8 Z (Ag Z (A0 (Ab _ [0] Z (Ac 1 Z (A1 (Al (Af [4] Z (.bool false) Z ⟨IE,a4⟩)))))))
 ·exact Ac 16 Z (Ag Z (A0 (Ab _ [0] Z (Ac 1 Z (A1 (Al (Af [4] Z (.bool false) Z ⟨IE,a4⟩)))))))
theorem P7 {p:Prop}(h:p:=by first|exact AI (Tk oM)|exact AI (Tl oM oM oM hq)|exact AI (ID (k:=k) oM (CX (by assumption)))):p:=h
theorem Nc (w:World)(dp:Nat)(vp:Value)(p:List Fn)(hp:RN [] (rP (Ki dp)) w.heap vp p)(hz:PJ p) :
  Calls Tryz.prog 138 #[vp] w (fun e w'=>e=.returned (.bool (G7 p))∧AF w w'):=by
 refine Aq [vp] 23 Tryz.func138 Z Z sM ?_
 have a1:AF w w:=AF.refl w
 refine A0 (Ab _ [0] Z (Ac 1 Z (A0 (A0 (Ab _ [0,0,0,2,0,0] Z (Ad 1 Z (AN (hp.isPtr) Z Aa ?_)))))))
 obtain⟨cs1,ac,a3⟩:=RN.at (AU _) hp
 obtain⟨a4,rfl,a5⟩:=RPr.of ac
 have a2:=a5.lenle
 unfold maxLen at a2
 refine AJ (p:=vp) 0 Bv Z (a3 _ (Au.of_ext [] a1)) Aa (Ai (p:=(Ap vp 0)) (.inr Z) a4 BY Z ((a3 _ (Au.of_ext [] a1)).ld (i:=0) (by simp[EX,EY])) Aa (AQ (v:=a4) Gb Z a5.isSl Aa ?_))
 by_cases a7:((16:Nat):Int)<((p.length:Nat):Int)
 ·exact BU true Z Z (A5 a7) Aa (Aj (Ag Z (A0 (Ab _ [0] Z (Ac 1 Z (A1 (Al (Af [2] Z (.bool false) Z ⟨P7,a1⟩))))))))
 ·refine BU false Z Z (A6 a7) Aa (Aj (Ah Z (A2 (A0 (A0 (Ab _ [0] Z (Ac 1 Z (A3 (B1 (S:=Nat) (fun k=>([(3,(.int .i64 ((k:Nat):Int))),(0,vp)])) (fun k W=>AF w W∧k≤p.length∧(List.range k).all (K4 p)=true) (fun k=>p.length-k) 0 ⟨rfl,rfl,trivial⟩ ⟨a1,sD,(by rfl)⟩ ?_)))))))))
  clear a1 a2
  rintro k ρ3 w3 ⟨a0,a8,hq⟩
  have ad:w.heap.size≤w3.heap.size:=a0.size
  refine A0 (A0 (Ab _ [0,0,0,0,2,0,0] Z (Ad 2 Z (AN (hp.isPtr) Z Aa (AJ (p:=vp) 0 Bv Z (a3 _ (Au.of_ext [] a0)) Aa (Ai (p:=(Ap vp 0)) (.inr Z) a4 BY Z ((a3 _ (Au.of_ext [] a0)).ld (i:=0) (by simp[EX,EY])) Aa (AQ (v:=a4) Gb Z a5.isSl Aa ?_)))))))
  by_cases a9:((k:Nat):Int)<((p.length:Nat):Int)
  ·refine AG true Z Z (A5 a9) Aa (Aj (Ag Z (A2 (A0 (A3 (A0 (Ab _ [0,0,3,0] Z (Ad 2 Z (As 207 [] [] [vp,(.int .i64 ((k:Nat):Int))] Z Z Z6 Aa (LA _ dp vp (p) (k) (hp.ext (B5 (AU dp)) a0) oM oM (by exact hz)) ?_)))))))))
   rintro e5 w5 ⟨rfl,a6⟩
   refine⟨_,rfl,a6,?_⟩
   have ae:=a6.size
   have aa:=a0.trans a6
   refine Bn (!(K4 p k)) Z Z Aa (Aj ?_)
   cases ab:(!(K4 p k))
   ·refine Ah (by first|rfl|(show Value.bool _=_;rw[ab])) (A2 (Ab _ [0,0,0] Z (Ad 1 Z (AP ((k+1:Nat):Int) Z Z (Bl oM sD) Aa (Ac 1 Z ?_)))))
    exact⟨(k+1),_,rfl,⟨rfl,rfl,trivial⟩,⟨aa,sD,(by exact DK hq (Do (by assumption)))⟩,by first|omega|(dsimp only;omega)⟩
   ·exact Ag (by first|rfl|(show Value.bool _=_;rw[ab])) (A0 (Ab _ [0] Z (Ac 1 Z (A1 (AC (Al (Al (AC (Al (Af [2] Z (.bool false) Z ⟨P7,aa⟩))))))))))
  ·exact AG false Z Z (A6 a9) Aa (Aj (Ah Z (A4 (Ax (Ax (At (A0 (Ab _ [0] Z (Ac 1 Z (A1 (Af [2] Z (.bool true) Z ⟨P7,a0⟩)))))))))))
end
section
set_option maxHeartbeats 4000000
set_option maxRecDepth 100000
attribute [local irreducible] LW
theorem EI (w:World)(x:Int)(K:Nat)(_hx:Bx x)(_hK:K≤1000000000000)(hK:K≤1000000000) :
  Calls Tryz.prog 79 #[.int .i64 x,.int .i64 ((K:Nat):Int)] w (fun e w'=>∃v0:Value,e=.returned (v0)∧AF w w'∧Fr (Bh rI 2) w.heap.size w'.heap.size w'.heap v0 (cst K x)):=by
 refine Aq [.int .i64 x,.int .i64 ((K:Nat):Int)] 14 Tryz.func79 Z Z sM ?_
 have a5:AF w w:=AF.refl w
 refine A0 (Ab _ [0] Z (Ac 1 Z (A0 (Ab _ [0,3,0] Z (Ad 1 Z (GA (n:=K) Bt BT Z Z Z sD Aa fun v1 w1 a2 ab a0=>?_))))))
 have a6:=a2.size
 have a1:=a5.trans a2
 refine Ac 1 Z (A0 (A0 (Ab _ [0,0] Z (Ad 1 Z ?_))))
 by_cases a3:((0:Nat):Int)<((K:Nat):Int)
 ·refine BU true Z Z (A5 a3) Aa (Aj (Ag Z (Ab _ [0,0,0,4] Z (Ad 2 Z (AB (v:=v1) 0 Bt BT Z Z a0.isSl Z sD Aa ?_)))))
  refine Im (v:=v1) (w:=w1) Hv Z Z _hx a0 sD Aa fun w3 F3 a4 ac a7 a8=>?_
  have a9:AF w w3:=a4.below a1 (fun c hc=>A8 (A7 _) (a7 c hc).1) a1.size
  have aa:=a4.size
  exact Aj (A0 (Ab _ [0,0] Z (Ac 2 Z (A1 (Af [4] Z v1 Z ⟨v1,rfl,a9,(by exact a8.up o1)⟩)))))
 ·exact BU false Z Z (A6 a3) Aa (Aj (Ah Z (A2 (A0 (Ab _ [0,0] Z (Ac 2 Z (A1 (Af [4] Z v1 Z ⟨v1,rfl,a1,(by have h:=a0.up o1;obtain rfl:K=0:=oM;exact h)⟩))))))))
theorem P8 (a:List Int)(y:Int):scl a y=Cs a y:=by
  unfold scl Cs
  exact NC (d:=0) (k:=a.length) (fun r hr=>by rw[Ci (d:=0) hr,C4 _ hr]) (by simp) (by simp)
theorem Ck {p:Prop}(h:p:=by first|omega|assumption|(simp only[List.length_nil,List.length_cons,List.length_append,List.length_set,List.length_replicate,Eh];omega)|(simp[List.length_nil,List.length_cons,List.length_append,List.length_set,List.length_replicate,Eh];done)|(simp[List.length_nil,List.length_cons,List.length_append,List.length_set,List.length_replicate,Eh];omega)):p:=h
theorem Ig (w:World)(va:Value)(a:List Int)(vb:Value)(b:List Int)(ha:Rd (B3 rI) w.heap va a)(hb:Rd (B3 rI) w.heap vb b)(hla:a.length≤1000000000000)(hl:a.length≤b.length) :
  Calls Tryz.prog 253 #[va,vb] w (fun e w'=>∃v0:Value,e=.returned (v0)∧AF w w'∧Fr (Bh rI 2) w.heap.size w'.heap.size w'.heap v0 (Ce a b)):=by
 refine Aq [va,vb] 27 Tryz.func253 Z Z sM ?_
 have a8:AF w w:=AF.refl w
 have hl_va:=ha.lenle
 have hl_vb:=hb.lenle
 refine A0 (Ab _ [0] Z (Ac 1 Z (A0 (Ab _ [3,0] Z (CQ (rI) AR Bt BT Aa fun v1 w1 a4 af a9=>?_)))))
 have a5:=a4.size
 have aa:=a8.trans a4
 refine Ac 1 Z (A0 (A0 (Ab _ [0] Z (Ac 1 Z (A3 ?_)))))
 refine B1 (S:=Nat×Value) (fun⟨k,vo⟩=>([(5,vo),(6,(.int .i64 ((k:Nat):Int))),(0,va),(1,vb)])) (fun⟨k,vo⟩ W=>AF w W∧Fr (Bh rI 2) w.heap.size W.heap.size W.heap vo (CC k (fun t=>md (a.getD t 0+b.getD t 0)))∧k≤a.length) (fun⟨k,vo⟩=>a.length-k) (0,v1) ⟨rfl,rfl,rfl,rfl,trivial⟩ ⟨aa,(by exact a9.up o1),Ck⟩ ?_
 clear a8 a9 af a4 a5 aa
 rintro⟨k,vo⟩ ρ2 w2 ⟨a2,a1,ab⟩
 have ag:w.heap.size≤w2.heap.size:=a2.size
 refine A0 (A0 (Ab _ [0,0,0,0] Z (Ad 2 Z (AQ (v:=va) Bt Z ha.isSl Aa ?_))))
 by_cases ac:((k:Nat):Int)<((a.length:Nat):Int)
 ·refine AG true Z Z (A5 ac) Aa (Aj (Ag Z (A2 (A0 (A3 (AO _ [0,0,0,0,1,0,0,0,1,0,3,4,0] mixed (by kernel_rfl) (Ad 3 Z (AB (v:=va) k Bt BT Z Z ha.isSl Z Ck Aa ?_))))))))
  refine Ai (p:=Ay va k 1) (.inl Z) (.int .i64 (a.getD k 0)) AD Z (AZ a2.drew (ha.getI Ck).1) Aa (Ad 2 Z ?_)
  refine AB (v:=vb) k Bt BT Z Z hb.isSl Z Ck Aa ?_
  refine Ai (p:=Ay vb k 1) (.inl Z) (.int .i64 (b.getD k 0)) AD Z (AZ a2.drew (hb.getI Ck).1) Aa ?_
  refine Az 50 [] [] [(.int .i64 (a.getD k 0)),(.int .i64 (b.getD k 0))] Z Z Uv Aa (.int .i64 (md ((a.getD k 0)+(b.getD k 0)))) (fun wq=>FM wq _ _ (ha.getI Ck).2 (hb.getI Ck).2) ?_
  refine BI (u:=(.int .i64 (md ((a.getD k 0)+(b.getD k 0))))) (B:=w2.heap.size) AR Bt BT Z Z (Ov w2.heap.size w2.heap.size _ _ (ED _)) (A7 _) Aa fun v5 w5 a3 al ad=>?_
  replace a3:=a3.of_drew
  have ah:=a3.size
  have a6:=a2.trans a3
  have a0:=a1.ext (o1) a3
  refine FO (v:=vo) (a:=v5) Bt BT Z Z Z a0 a6.size ad.rd1 Ck (by unfold maxLen;first|omega|assumption|(simp[Eh];done)|(simp[Eh];omega)) Aa fun v6 w6 F6 a7 ae ai=>?_
  have aj:AF w w6:=a7.below a6 (fun c hc=>A8 (A7 _) (ae c hc).1) a6.size
  have ak:=a7.size
  have am:=ad.chg (o1) a7 (fun c hc=>by have:=ae c hc;omega)
  refine Ac 1 Z (Ab _ [0,0,0] Z (Ad 1 Z (AP ((k+1:Nat):Int) Z Z (Bl oM Ck) Aa (Ac 1 Z ?_))))
  exact⟨((k+1),v6),_,rfl,⟨rfl,rfl,rfl,rfl,trivial⟩,⟨aj,(by rw[J7];exact ai.up o1),Ck⟩,by first|omega|(dsimp only;omega)⟩
 ·exact AG false Z Z (A6 ac) Aa (Aj (Ah Z (A4 (Ax (Ax (At (A0 (Ab _ [0,0] Z (Ac 2 Z (A1 (Af [4] Z vo Z ⟨vo,rfl,a2,(by have h:=a1.up o1;rw[show k=a.length from by omega]at h;exact h)⟩)))))))))))
theorem LY (w:World)(va:Value)(a:List Int)(vb:Value)(b:List Int)(ha:Rd (B3 rI) w.heap va a)(hb:Rd (B3 rI) w.heap vb b)(hla:a.length≤1000000000000)(hlb:b.length≤1000000000000)(hl:a.length≤b.length) :
  Calls Tryz.prog 254 #[va,vb] w (fun e w'=>∃v0:Value,e=.returned (v0)∧AF w w'∧Fr (Bh rI 2) w.heap.size w'.heap.size w'.heap v0 (EP a b)):=by
 refine Aq [va,vb] 9 Tryz.func254 Z Z sM ?_
 have a7:AF w w:=AF.refl w
 have hl_va:=ha.lenle
 have hl_vb:=hb.lenle
 refine A0 (Ab _ [0] Z (Ac 1 Z (A0 (Ab _ [0,0,3,3,0] Z (Ad 2 Z (As 165 [] [] [vb,(.int .i64 ((1000002:Nat):Int))] Z Z Vw Aa (H0 _ _ _ _ (hb.ext g1 a7) oM (by exact hlb)) ?_))))))
 rintro e1 w1 ⟨a3,rfl,a4,a0⟩
 refine⟨_,rfl,a4,?_⟩
 have a8:=a4.size
 have a5:=a7.trans a4
 refine As 253 [] [] [va,a3] Z Z VF Aa (Ig _ _ _ _ _ (ha.ext g1 a5) a0.rd1 (by exact hla) (by unfold scl;simp;omega)) ?_
 rintro e2 w2 ⟨a1,rfl,a6,a2⟩
 refine⟨_,rfl,a6,?_⟩
 have a9:=a6.size
 have aa:=a5.trans a6
 exact Ac 1 Z (A1 (Af [4] Z a1 Z ⟨a1,rfl,aa,(by rw[← Rx hl,← P8];exact(a2.up o1).low a5.size)⟩))
theorem LZ (w:World)(va:Value)(a:List Int)(vb:Value)(b:List Int)(ha:Rd (B3 rI) w.heap va a)(hb:Rd (B3 rI) w.heap vb b)(hla:a.length≤1000000000000)(hl:a.length≤b.length) :
  Calls Tryz.prog 255 #[va,vb] w (fun e w'=>∃v0:Value,e=.returned (v0)∧AF w w'∧Fr (Bh rI 2) w.heap.size w'.heap.size w'.heap v0 (Cc a b)):=by
 refine Aq [va,vb] 39 Tryz.func255 Z Z sM ?_
 have ab:AF w w:=AF.refl w
 have hl_va:=ha.lenle
 have hl_vb:=hb.lenle
 refine A0 (Ab _ [0] Z (Ac 1 Z (A0 (Ab _ [3,0] Z (CQ (rI) AR Bt BT Aa fun v1 w1 a5 ak ac=>?_)))))
 have a6:=a5.size
 have ad:=ab.trans a5
 refine Ac 1 Z (A0 (A0 (Ab _ [0] Z (Ac 1 Z (A3 ?_)))))
 refine B1 (S:=Nat×Value) (fun⟨k,vo⟩=>([(5,vo),(6,(.int .i64 ((k:Nat):Int))),(0,va),(1,vb)])) (fun⟨k,vo⟩ W=>AF w W∧Fr (Bh rI 2) w.heap.size W.heap.size W.heap vo (CC k (fun t=>Mf a b t (t+1)))∧k≤a.length) (fun⟨k,vo⟩=>a.length-k) (0,v1) ⟨rfl,rfl,rfl,rfl,trivial⟩ ⟨ad,(by exact ac.up o1),Ck⟩ ?_
 clear ab ac ak a5 a6 ad
 rintro⟨k,vo⟩ ρ2 w2 ⟨a4,a0,ae⟩
 have a7:w.heap.size≤w2.heap.size:=a4.size
 refine A0 (A0 (Ab _ [0,0,0,0] Z (Ad 2 Z (AQ (v:=va) Bt Z ha.isSl Aa ?_))))
 by_cases af:((k:Nat):Int)<((a.length:Nat):Int)
 ·refine AG true Z Z (A5 af) Aa (Aj (Ag Z (A2 (A0 (A3 (A0 (Ab _ [0] Z (Ac 1 Z (A0 (A0 (Ab _ [0] Z (Ac 1 Z (A3 ?_)))))))))))))
  refine B1 (S:=Nat×Int) (fun⟨i,s⟩=>([(7,(.int .i64 s)),(8,(.int .i64 ((i:Nat):Int))),(0,va),(1,vb),(5,vo),(6,(.int .i64 ((k:Nat):Int)))])) (fun⟨i,s⟩ W=>AF w W∧Fr (Bh rI 2) w.heap.size W.heap.size W.heap vo (CC k (fun t=>Mf a b t (t+1)))∧i≤k+1∧s=Mf a b k i∧(0≤s∧s<1000003)) (fun⟨i,s⟩=>k+1-i) (0,((0:Nat):Int)) ⟨rfl,rfl,rfl,rfl,rfl,rfl,trivial⟩ ⟨a4,a0.up o1,Ck,(by rfl),oM⟩ ?_
  clear a0 a4 a7
  rintro⟨i,s⟩ ρ4 w4 ⟨a3,a2,ag,hs,hsr⟩
  have al:w.heap.size≤w4.heap.size:=a3.size
  refine A0 (A0 (Ab _ [0,0,0] Z (Ad 2 Z ?_)))
  by_cases ah:((i:Nat):Int)≤((k:Nat):Int)
  ·refine DQ true Z Z (A5 ah) Aa (Aj (Ag Z (A2 (A0 (A3 (AO _ [0,0,0,0,1,0,0,0,0,0,1,0,0,0] mixed (by kernel_rfl) (Ad 3 Z (AB (v:=va) i Bt BT Z Z ha.isSl Z Ck Aa ?_))))))))
   refine Ai (p:=Ay va i 1) (.inl Z) (.int .i64 (a.getD i 0)) AD Z (AZ a3.drew (ha.getI Ck).1) Aa (Ad 3 Z (Bs ((k-i:Nat):Int) Z Z (by rw[Da oM oM];omega) Aa ?_))
   refine AB (v:=vb) (k-i) Bt BT Z Z hb.isSl Z Ck Aa ?_
   refine Ai (p:=Ay vb (k-i) 1) (.inl Z) (.int .i64 (b.getD (k-i) 0)) AD Z (AZ a3.drew (hb.getI Ck).1) Aa ?_
   refine Az 112 [] [] [(.int .i64 (a.getD i 0)),(.int .i64 (b.getD (k-i) 0))] Z Z Lh Aa (.int .i64 (md ((a.getD i 0)*(b.getD (k-i) 0)))) (fun wq=>CW wq _ _ (ha.getI Ck).2 (hb.getI Ck).2) ?_
   refine Az 50 [] [] [(.int .i64 s),(.int .i64 (md ((a.getD i 0)*(b.getD (k-i) 0))))] Z Z Uv Aa (.int .i64 (md (s+(md ((a.getD i 0)*(b.getD (k-i) 0)))))) (fun wq=>FM wq _ _ oM (ED _)) (Ac 1 Z (Ab _ [0,0,0] Z (Ad 1 Z (AP ((i+1:Nat):Int) Z Z (Bl oM Ck) Aa (Ac 1 Z ?_)))))
   exact⟨((i+1),(md (s+(md ((a.getD i 0)*(b.getD (k-i) 0)))))),_,rfl,⟨rfl,rfl,rfl,rfl,rfl,rfl,trivial⟩,⟨a3.drew,a2.up o1,Ck,(by rw[FD,hs];rfl),(by exact C1 _)⟩,by first|omega|(dsimp only;omega)⟩
  ·refine DQ false Z Z (A6 ah) Aa (Aj (Ah Z (A4 (Ax (Ax (At (Ab _ [0,0,3,4,0] Z (Ad 2 Z (BI (u:=(.int .i64 s)) (B:=w4.heap.size) AR Bt BT Z Z (Ov w4.heap.size w4.heap.size _ _ oM) (A7 _) Aa fun v8 w8 a8 ar ai=>?_)))))))))
   have am:=a8.size
   have a9:=a3.trans a8
   have a1:=a2.ext (o1) a8
   refine FO (v:=vo) (a:=v8) Bt BT Z Z Z a1 a9.size ai.rd1 Ck (by unfold maxLen;first|omega|assumption|(simp[Eh];done)|(simp[Eh];omega)) Aa fun v9 w9 F9 aa aj an=>?_
   have ao:AF w w9:=aa.below a9 (fun c hc=>A8 (A7 _) (aj c hc).1) a9.size
   have ap:=aa.size
   have aq:=ai.chg (o1) aa (fun c hc=>by have:=aj c hc;omega)
   refine Ac 1 Z (Ab _ [0,0,0] Z (Ad 1 Z (AP ((k+1:Nat):Int) Z Z (Bl oM Ck) Aa (Ac 1 Z ?_))))
   exact⟨((k+1),v9),_,rfl,⟨rfl,rfl,rfl,rfl,trivial⟩,⟨ao,(by rw[J7];have h:=an.up o1;rw[hs,show i=k+1 from by omega]at h;exact h),Ck⟩,by first|omega|(dsimp only;omega)⟩
 ·exact AG false Z Z (A6 af) Aa (Aj (Ah Z (A4 (Ax (Ax (At (A0 (Ab _ [0,0] Z (Ac 2 Z (A1 (Af [4] Z vo Z ⟨vo,rfl,a4,(by have h:=a0.up o1;rw[show k=a.length from by omega]at h;exact h)⟩)))))))))))
theorem D9 {p:Prop}(h:p:=by first|omega|assumption|(simp only[List.length_nil,List.length_cons,List.length_append,List.length_set,List.length_replicate,Dz];omega)|(simp[List.length_nil,List.length_cons,List.length_append,List.length_set,List.length_replicate,Dz];done)|(simp[List.length_nil,List.length_cons,List.length_append,List.length_set,List.length_replicate,Dz];omega)):p:=h
theorem M0 (w:World)(va:Value)(a:List Int)(vb:Value)(b:List Int)(ha:Rd (B3 rI) w.heap va a)(hb:Rd (B3 rI) w.heap vb b)(hla:a.length≤1000000000000)(hl:a.length≤b.length)(h1:0<b.length)(hqa:B2 a=true) :
  Calls Tryz.prog 256 #[va,vb] w (fun e w'=>∃v0:Value,e=.returned (v0)∧AF w w'∧Fr (Bh rI 2) w.heap.size w'.heap.size w'.heap v0 (BM a b)):=by
 refine Aq [va,vb] 50 Tryz.func256 Z Z sM ?_
 have ag:AF w w:=AF.refl w
 have hl_va:=ha.lenle
 have hl_vb:=hb.lenle
 refine A0 (Ab _ [0] Z (Ac 1 Z (A0 (Ab _ [3,0] Z (CQ (rI) AR Bt BT Aa fun v1 w1 aa ao ah=>?_)))))
 have ab:=aa.size
 have ac:=ag.trans aa
 refine Ac 1 Z (A0 (Ab _ [0,0,2,0,0] Z (Ad 1 Z (AB (v:=vb) 0 Bt BT Z Z hb.isSl Z D9 Aa ?_))))
 refine Ai (p:=Ay vb 0 1) (.inr Z) (.int .i64 (b.getD 0 0)) AD Z (AZ ac (hb.getI D9).1) Aa ?_
 refine Az 163 [] [] [(.int .i64 (b.getD 0 0))] Z Z YS Aa (.int .i64 (inv (b.getD 0 0))) (fun wq=>LS wq _ (hb.getI D9).2) (Ac 1 Z (A0 (A0 (Ab _ [0] Z (Ac 1 Z (A3 ?_))))))
 refine B1 (S:=Nat×Value) (fun⟨k,vo⟩=>([(5,vo),(7,(.int .i64 ((k:Nat):Int))),(0,va),(1,vb),(6,(.int .i64 (inv (b.getD 0 0))))])) (fun⟨k,vo⟩ W=>AF w W∧Fr (Bh rI 2) w.heap.size W.heap.size W.heap vo (It a b k)∧k≤a.length) (fun⟨k,vo⟩=>a.length-k) (0,v1) ⟨rfl,rfl,rfl,rfl,rfl,trivial⟩ ⟨ac,(by exact ah.up o1),D9⟩ ?_
 clear ag ah ao aa ab ac
 rintro⟨k,vo⟩ ρ3 w3 ⟨a6,a1,ai⟩
 have ad:w.heap.size≤w3.heap.size:=a6.size
 refine A0 (A0 (Ab _ [0,0,0,0] Z (Ad 2 Z (AQ (v:=va) Bt Z ha.isSl Aa ?_))))
 by_cases aj:((k:Nat):Int)<((a.length:Nat):Int)
 ·refine AG true Z Z (A5 aj) Aa (Aj (Ag Z (A2 (A0 (A3 (A0 (Ab _ [0,0,0,2,0] Z (Ad 2 Z (AB (v:=va) k Bt BT Z Z ha.isSl Z D9 Aa ?_)))))))))
  refine Ai (p:=Ay va k 1) (.inr Z) (.int .i64 (a.getD k 0)) AD Z (AZ a6 (ha.getI D9).1) Aa (Ac 1 Z (A0 (A0 (Ab _ [0] Z (Ac 1 Z (A3 ?_))))))
  refine B1 (S:=Nat×Int) (fun⟨i,t⟩=>([(8,(.int .i64 t)),(9,(.int .i64 ((i:Nat):Int))),(0,va),(1,vb),(5,vo),(6,(.int .i64 (inv (b.getD 0 0)))),(7,(.int .i64 ((k:Nat):Int)))])) (fun⟨i,t⟩ W=>AF w W∧Fr (Bh rI 2) w.heap.size W.heap.size W.heap vo (It a b k)∧i≤k∧t=Nm a b (It a b k) k i∧(0≤t∧t<1000003)) (fun⟨i,t⟩=>k-i) (0,(a.getD k 0)) ⟨rfl,rfl,rfl,rfl,rfl,rfl,rfl,trivial⟩ ⟨a6,a1.up o1,D9,(by rfl),(by exact C6 hqa k)⟩ ?_
  clear a1 a6 ad
  rintro⟨i,t⟩ ρ5 w5 ⟨a9,a0,ak,ht,htr⟩
  have ap:w.heap.size≤w5.heap.size:=a9.size
  refine A0 (A0 (Ab _ [0,0,0] Z (Ad 2 Z ?_)))
  by_cases al:((i:Nat):Int)<((k:Nat):Int)
  ·refine AG true Z Z (A5 al) Aa (Aj (Ag Z (A2 (A0 (A3 (AO _ [0,0,0,0,1,0,0,0,0,0,1,0,0,0] mixed (by kernel_rfl) ?_))))))
   have hmn:=C1 ((It a b k).getD i 0*b.getD (k-i) 0)
   refine Ad 3 Z (AB (v:=vo) i Bt BT Z Z a0.isSl Z D9 Aa ?_)
   refine Ai (p:=Ay vo i 1) (.inl Z) (.int .i64 ((It a b k).getD i 0)) AD Z (a0.rd1.getI D9).1 Aa (Ad 3 Z (Bs ((k-i:Nat):Int) Z Z (by rw[Da oM oM];omega) Aa ?_))
   refine AB (v:=vb) (k-i) Bt BT Z Z hb.isSl Z D9 Aa ?_
   refine Ai (p:=Ay vb (k-i) 1) (.inl Z) (.int .i64 (b.getD (k-i) 0)) AD Z (AZ a9.drew (hb.getI D9).1) Aa ?_
   refine Az 112 [] [] [(.int .i64 ((It a b k).getD i 0)),(.int .i64 (b.getD (k-i) 0))] Z Z Lh Aa (.int .i64 (md (((It a b k).getD i 0)*(b.getD (k-i) 0)))) (fun wq=>CW wq _ _ (a0.rd1.getI D9).2 (hb.getI D9).2) ?_
   refine Az 223 [] [] [(.int .i64 t),(.int .i64 (md (((It a b k).getD i 0)*(b.getD (k-i) 0))))] Z Z Z7 Aa (.int .i64 (md (t-(md (((It a b k).getD i 0)*(b.getD (k-i) 0)))))) (fun wq=>Kd wq _ _ oM (ED _) oM) (Ac 1 Z (Ab _ [0,0,0] Z (Ad 1 Z (AP ((i+1:Nat):Int) Z Z (Bl oM D9) Aa (Ac 1 Z ?_)))))
   exact⟨((i+1),(md (t-(md (((It a b k).getD i 0)*(b.getD (k-i) 0)))))),_,rfl,⟨rfl,rfl,rfl,rfl,rfl,rfl,rfl,trivial⟩,⟨a9.drew,a0.up o1,D9,(by rw[MD,ht];rfl),(by exact C1 _)⟩,by first|omega|(dsimp only;omega)⟩
  ·refine AG false Z Z (A6 al) Aa (Aj (Ah Z (A4 (Ax (Ax (At (Ab _ [0,0,0,0,3,4,0] Z (Ad 3 Z (Az 112 [] [] [(.int .i64 t),(.int .i64 (inv (b.getD 0 0)))] Z Z Lh Aa (.int .i64 (md (t*(inv (b.getD 0 0))))) (fun wq=>CW wq _ _ oM (Ps _)) (BI (u:=(.int .i64 (md (t*(inv (b.getD 0 0)))))) (B:=w5.heap.size) AR Bt BT Z Z (Ov w5.heap.size w5.heap.size _ _ (ED _)) (A7 _) Aa fun v10 w10 a3 aq a7=>?_))))))))))
   have am:=a3.size
   have a4:=a9.trans a3
   have a2:=a0.ext (o1) a3
   refine FO (v:=vo) (a:=v10) Bt BT Z Z Z a2 a4.size a7.rd1 D9 (by unfold maxLen;first|omega|assumption|(simp[Dz];done)|(simp[Dz];omega)) Aa fun v11 w11 F11 a5 a8 ae=>?_
   have af:AF w w11:=a5.below a4 (fun c hc=>A8 (A7 _) (a8 c hc).1) a4.size
   have an:=a5.size
   have ar:=a7.chg (o1) a5 (fun c hc=>by have:=a8 c hc;omega)
   refine Ac 1 Z (Ab _ [0,0,0] Z (Ad 1 Z (AP ((k+1:Nat):Int) Z Z (Bl oM D9) Aa (Ac 1 Z ?_))))
   exact⟨((k+1),v11),_,rfl,⟨rfl,rfl,rfl,rfl,rfl,trivial⟩,⟨af,(by have h:=ae.up o1;rw[ht,show i=k from by omega]at h;exact h),D9⟩,by first|omega|(dsimp only;omega)⟩
 ·exact AG false Z Z (A6 aj) Aa (Aj (Ah Z (A4 (Ax (Ax (At (A0 (Ab _ [0,0] Z (Ac 2 Z (A1 (Af [4] Z vo Z ⟨vo,rfl,a6,(by have h:=a1.up o1;rw[show k=a.length from by omega]at h;exact h)⟩)))))))))))
end
section
set_option maxHeartbeats 4000000
set_option maxRecDepth 100000
attribute [local irreducible] LW
def SV (F d:Nat):Prop:=∀(w:World) (S:List Nat) (g:Nat) (pp:Value) (dp n s0:Nat) (c0:Int) (p:List Fn) (ve:Value) (ex:Ex) (vv:Value) (env:List (List Int)) (hS:∀b∈S,b<w.heap.size) (hgS:g∈S) (hB0:BX w.heap g [pp,.int .i64 ((n:Nat):Int),.int .i64 ((s0:Nat):Int),.int .i64 c0]) (hp:RN S (rP (Ki dp)) w.heap pp p) (hn:1≤n∧n≤13) (hs0:s0≤3000) (hc0:0≤c0∧c0≤9) (hex:RN S (rP (LK d)) w.heap ve ex) (henv:RN S (B3 (B3 rI)) w.heap vv env) (hqenv:C5 vv)
  (hvp:H6 p) (hF:F≤p.length) (hwf:wf p ((F:Nat):Int) ex ((env.length:Nat):Int)=true) (hse:BV n env) (hdp:env.length+ex.deep≤1000000),
  Calls Tryz.prog 221 #[.pointer (some ⟨g,0,none⟩),ve,vv] w (fun e w'=>∃(v:Value) (x:List Int) (s1:Nat) (c1:Int),e=.returned v∧Au [g] w w'∧BX w'.heap g [pp,.int .i64 ((n:Nat):Int),.int .i64 ((s1:Nat):Int),.int .i64 c1]∧RN S (B3 rI) w'.heap v x∧Cf n x∧s1≤3000∧(0≤c1∧c1≤9)∧AH (go c0 (Cn n (E8 p n F) ex env s0)) x s1 c1)
def SC (F d:Nat):Prop:=∀(w:World) (S:List Nat) (g:Nat) (pp:Value) (dp n s0:Nat) (c0:Int) (p:List Fn) (ve:Value) (ex:Ex) (vv:Value) (env:List (List Int)) (hS:∀b∈S,b<w.heap.size) (hgS:g∈S) (hB0:BX w.heap g [pp,.int .i64 ((n:Nat):Int),.int .i64 ((s0:Nat):Int),.int .i64 c0]) (hp:RN S (rP (Ki dp)) w.heap pp p) (hn:1≤n∧n≤13) (hs0:s0≤3000) (hc0:0≤c0∧c0≤9) (hex:RN S (rP (LK d)) w.heap ve ex) (henv:RN S (B3 (B3 rI)) w.heap vv env) (hqenv:C5 vv)
  (hvp:H6 p) (hF:F≤p.length) (hwf:wf p ((F:Nat):Int) ex ((env.length:Nat):Int)=true) (hse:BV n env) (hdp:env.length+ex.deep≤1000000) (hk:ex.kind=10∨ex.kind=11),
  Calls Tryz.prog 252 #[.pointer (some ⟨g,0,none⟩),ve,vv] w (fun e w'=>∃(v:Value) (x:List Int) (s1:Nat) (c1:Int),e=.returned v∧Au [g] w w'∧BX w'.heap g [pp,.int .i64 ((n:Nat):Int),.int .i64 ((s1:Nat):Int),.int .i64 c1]∧RN S (B3 rI) w'.heap v x∧Cf n x∧s1≤3000∧(0≤c1∧c1≤9)∧AH (go c0 (K5 n (E8 p n F) ex env s0)) x s1 c1)
def SO (F:Nat):Prop:=∀(w:World) (S:List Nat) (g:Nat) (pp:Value) (dp n s0:Nat) (c0:Int) (p:List Fn) (dfx:Nat) (vf:Value) (fx:Fn) (va:Value) (env:List (List Int)) (hS:∀b∈S,b<w.heap.size) (hgS:g∈S) (hB0:BX w.heap g [pp,.int .i64 ((n:Nat):Int),.int .i64 ((s0:Nat):Int),.int .i64 c0]) (hp:RN S (rP (Ki dp)) w.heap pp p) (hn:1≤n∧n≤13) (hs0:s0≤3000) (hc0:0≤c0∧c0≤9) (hfx:RN S (rP (UR dfx)) w.heap vf fx) (henv:RN S (B3 (B3 rI)) w.heap va env) (hqenv:C5 va)
  (hvp:H6 p) (hF:F≤p.length) (hwf:∀k,k<fx.outs.length→wf p ((F:Nat):Int) (fx.outs.getD k Ex.zero) ((env.length:Nat):Int)=true) (hse:BV n env) (hdp:∀k,k<fx.outs.length→env.length+(fx.outs.getD k Ex.zero).deep≤1000000) (hll:fx.outs.length≤1000000),
  Calls Tryz.prog 158 #[.pointer (some ⟨g,0,none⟩),vf,va] w (fun e w'=>∃(v:Value) (x:List (List Int)) (s1:Nat) (c1:Int),e=.returned v∧Au [g] w w'∧BX w'.heap g [pp,.int .i64 ((n:Nat):Int),.int .i64 ((s1:Nat):Int),.int .i64 c1]∧RN S (B3 (B3 rI)) w'.heap v x∧(C5 v∧x.length=fx.outs.length∧BV n x)∧s1≤3000∧(0≤c1∧c1≤9)∧AH (go c0 (Df n (E8 p n F) fx.outs env s0)) x s1 c1)
theorem CY (w:World)(S:List Nat)(g:Nat)(pp:Value)(dp n s0:Nat)(c0:Int)(p:List Fn)(code:Int)(hS:∀b∈S,b<w.heap.size)(hgS:g∈S)(hB0:BX w.heap g [pp,.int .i64 ((n:Nat):Int),.int .i64 ((s0:Nat):Int),.int .i64 c0])(hp:RN S (rP (Ki dp)) w.heap pp p)(hn:1≤n∧n≤13)(hs0:s0≤3000)(hc0:0≤c0∧c0≤9)(_hcode:Bx code)(hcd:1≤code∧code≤9) :
  Calls Tryz.prog 250 #[.pointer (some ⟨g,0,none⟩),.int .i64 code] w (fun e w'=>∃(v:Value) (x:List Int) (s1:Nat) (c1:Int),e=.returned v∧Au [g] w w'∧BX w'.heap g [pp,.int .i64 ((n:Nat):Int),.int .i64 ((s1:Nat):Int),.int .i64 c1]∧RN S (B3 rI) w'.heap v x∧Cf n x∧s1≤3000∧(0≤c1∧c1≤9)∧(s1=s0∧c1=if c0=0 then code else c0)):=by
 refine Aq [.pointer (some ⟨g,0,none⟩),.int .i64 code] 19 Tryz.func250 Z Z sM ?_
 have a9:Au [g] w w:=Au.refl [g] w
 have hgl:=hB0.lt
 refine A0 (Ab _ [0] Z (Ac 1 Z (A0 (A0 (Ab _ [0,0,0,2,0] Z (Ad 1 Z (AY Z Aa (Ak (p:=(.pointer (some ⟨g,0,none⟩))) (b:=g) (o:=0) 3 GP Z Z Aa (Ai (p:=(Ap (.pointer (some ⟨g,0,none⟩)) 3)) (.inr Z) (.int .i64 c0) AD Z (hB0.ldp (i:=3) sM) Aa ?_)))))))))
 by_cases aa:c0=((0:Nat):Int)
 ·refine Am true Z Z (A5 aa) Aa (Aj (Ag Z (Ab _ [0,0,0,0,4] Z (Ad 2 Z (AY Z Aa (Ak (p:=(.pointer (some ⟨g,0,none⟩))) (b:=g) (o:=0) 3 GP Z Z Aa (Be (k:=3) (w:=w) Hv Z Z ⟨rfl,rfl⟩ hB0 sM Aa fun w2 ab ai a6=>?_)))))))
  replace a6:BX w2.heap g [pp,(.int .i64 ((n:Nat):Int)),(.int .i64 ((s0:Nat):Int)),(.int .i64 code)]:=a6
  have ac:Au [g] w w2:=a9.trans ab
  have ad:=ab.size
  refine Aj (A0 (Ab _ [0,0,0,2,3,0] Z (Ad 1 Z (AY Z Aa (Ak (p:=(.pointer (some ⟨g,0,none⟩))) (b:=g) (o:=0) 1 N5 Z Z Aa (Ai (p:=(Ap (.pointer (some ⟨g,0,none⟩)) 1)) (.inr Z) (.int .i64 ((n:Nat):Int)) Lk Z (a6.ldp (i:=1) sM) Aa ?_))))))
  refine As 79 [] [] [(.int .i64 ((0:Nat):Int)),(.int .i64 ((n:Nat):Int))] Z Z XO Aa (EI _ _ (n) oM sD oM) ?_
  rintro e3 w3 ⟨a0,rfl,a7,a1⟩
  refine⟨_,rfl,a7,?_⟩
  have ae:=a7.size
  have af:Au [g] w w3:=ac.ext a7
  have a2:=a6.ext a7
  exact Ac 1 Z (A1 (Af [4] Z a0 Z ⟨a0,cst n ((0:Nat):Int),s0,code,rfl,af,a2,(RN.of_fr1 a1 (fun b hb=>by have:=hS b hb;omega)),(by exact DT (by decide)),oM,oM,(by exact⟨rfl,by first|(rw[if_pos oM])|(rw[if_neg oM])⟩)⟩))
 ·refine Am false Z Z (A6 aa) Aa (Aj (Ah Z (A2 (A0 (Ab _ [0,0,0,2,3,0] Z (Ad 1 Z (AY Z Aa (Ak (p:=(.pointer (some ⟨g,0,none⟩))) (b:=g) (o:=0) 1 N5 Z Z Aa (Ai (p:=(Ap (.pointer (some ⟨g,0,none⟩)) 1)) (.inr Z) (.int .i64 ((n:Nat):Int)) Lk Z (hB0.ldp (i:=1) sM) Aa ?_)))))))))
  refine As 79 [] [] [(.int .i64 ((0:Nat):Int)),(.int .i64 ((n:Nat):Int))] Z Z XO Aa (EI _ _ (n) oM sD oM) ?_
  rintro e4 w4 ⟨a3,rfl,a8,a4⟩
  refine⟨_,rfl,a8,?_⟩
  have ag:=a8.size
  have ah:Au [g] w w4:=a9.ext a8
  have a5:=hB0.ext a8
  exact Ac 1 Z (A1 (Af [4] Z a3 Z ⟨a3,cst n ((0:Nat):Int),s0,c0,rfl,ah,a5,(RN.of_fr1 a4 (fun b hb=>by have:=hS b hb;omega)),(by exact DT (by decide)),oM,oM,(by exact⟨rfl,by first|(rw[if_pos oM])|(rw[if_neg oM])⟩)⟩))
theorem Tr {p:Prop}(h:p:=by unfold maxLen;first|omega|assumption|(simp only[List.length_nil,List.length_cons,List.length_append,List.length_set,List.length_replicate];omega)|(simp[List.length_nil,List.length_cons,List.length_append,List.length_set,List.length_replicate];done)|(simp[List.length_nil,List.length_cons,List.length_append,List.length_set,List.length_replicate];omega)):p:=h
theorem M1 (w:World)(S:List Nat)(vv:Value)(env:List (List Int))(vx:Value)(x:List Int)(hS:∀b∈S,b<w.heap.size)(henv:RN S (B3 (B3 rI)) w.heap vv env)(hqenv:C5 vv)(hx:RN S (B3 rI) w.heap vx x)(hel:env.length≤1000000) :
  Calls Tryz.prog 251 #[vv,vx] w (fun e w'=>∃v,e=.returned v∧AF w w'∧RN S (B3 (B3 rI)) w'.heap v (env++[x])∧C5 v):=by
 refine Aq [vv,vx] 25 Tryz.func251 Z Z sM ?_
 have ai:AF w w:=AF.refl w
 have hl_vv:=henv.lenL
 unfold maxLen at hl_vv
 have hl_vx:=hx.lenL
 unfold maxLen at hl_vx
 refine A0 (Ab _ [0] Z (Ac 1 Z (A0 (Ab _ [3,0] Z (CQ rV By BH B8 Aa fun v1 w1 a7 aq aj=>?_)))))
 have a8:=a7.size
 have ak:=ai.trans a7
 obtain⟨b2,F1,b3⟩:=Hi.nil (S:=S) (aj.low (B':=w.heap.size) (A7 _))
 refine Ac 1 Z (A0 (A0 (Ab _ [0] Z (Ac 1 Z (A3 (B1 (S:=Nat×Value) (fun⟨k,vo⟩=>([(5,vo),(6,(.int .i64 ((k:Nat):Int))),(0,vv),(1,vx)])) (fun⟨k,vo⟩ W=>AF w W∧k≤env.length∧Oz 27 S w.heap.size W.heap vo (env.take k)) (fun⟨k,vo⟩=>env.length-k) (0,v1) ⟨rfl,rfl,rfl,rfl,trivial⟩ ⟨ak,sD,(by exact⟨_,_,by assumption⟩)⟩ ?_))))))
 clear ai aj aq a7 a8 ak
 rintro⟨k,vo⟩ ρ2 w2 ⟨a6,al,hbld⟩
 have ar:w.heap.size≤w2.heap.size:=a6.size
 obtain⟨b4,F4,a3⟩:=hbld
 refine A0 (A0 (Ab _ [0,0,0,0] Z (Ad 2 Z (AQ (v:=vv) BH Z henv.slL Aa ?_))))
 by_cases am:((k:Nat):Int)<((env.length:Nat):Int)
 ·refine AG true Z Z (A5 am) Aa (Aj (Ag Z (A2 (A0 (A3 (Ab _ [0,0,0,0,2,3,4,0] Z (Ad 3 Z (AB (v:=vv) k BH B8 Z Z henv.slL Z sD Aa ?_))))))))
  obtain⟨a9,au,aa⟩:=RN.getL (w:=w) g1 [] (k:=k) henv sD
  have ab:=aa.lenL
  unfold maxLen at ab
  refine Ai (p:=Ay vv k 1) (.inr Z) a9 Bj Z (au _ (Au.of_ext S a6)) Aa (BI (u:=a9) (B:=w2.heap.size) By BH B8 Z Z (Oj w2.heap.size w2.heap.size _ (aa.one1 g1)) (A7 _) Aa fun v7 w7 ac b5 av=>?_)
  have aw:=ac.size
  have ad:=a6.trans ac
  have ae:=a3.ext ac
  refine EC (v:=vo) (a:=v7) (u:=a9) BH B8 Z Z Z ae oM av ((aa.add (F:=F4) g1 ae.low).ext g1 ad) sD Tr Aa ?_
  rintro v9 w9 G9 an ax ⟨b6,F9,b7⟩
  have ay:=an.size
  have az:AF w w9:=an.below ad (fun c hc=>ae.low c (ax c hc)) ad.size
  refine Ac 1 Z (Ab _ [0,0,0] Z (Ad 1 Z (AP ((k+1:Nat):Int) Z Z (Bl oM sD) Aa (Ac 1 Z ?_))))
  exact⟨((k+1),v9),_,rfl,⟨rfl,rfl,rfl,rfl,trivial⟩,⟨az,sD,(by rw[Dq [] oM];exact⟨_,_,by assumption⟩)⟩,by first|omega|(dsimp only;omega)⟩
 ·refine AG false Z Z (A6 am) Aa (Aj (Ah Z (A4 (Ax (Ax (At (A0 (Ab _ [0,0,3,4,0] Z (Ad 2 Z (BI (u:=vx) (B:=w2.heap.size) By BH B8 Z Z (Oj w2.heap.size w2.heap.size _ (hx.one1 g1)) (A7 _) Aa fun v10 w10 a0 b0 af=>?_))))))))))
  have ao:=a0.size
  have a1:=a6.trans a0
  have a2:=a3.ext a0
  refine EC (v:=vo) (a:=v10) (u:=vx) BH B8 Z Z Z a2 oM af ((hx.add (F:=F4) g1 a2.low).ext g1 a1) sD Tr Aa ?_
  rintro v12 w12 G12 a4 ag ⟨b1,F12,a5⟩
  have ap:=a4.size
  have ah:AF w w12:=a4.below a1 (fun c hc=>a2.low c (ag c hc)) a1.size
  exact Ac 1 Z (A1 (Af [4] Z v12 Z ⟨v12,rfl,ah,(by have h9:=(a5.done hS);rw[List.take_of_length_le oM]at h9;exact h9),a5.cap⟩))
theorem IF (w:World)(S:List Nat)(F:Nat)(g:Nat)(pp:Value)(dp n s0:Nat)(c0:Int)(p:List Fn)(dfx:Nat)(vf:Value)(fx:Fn)(va:Value)(env:List (List Int))(hS:∀b∈S,b<w.heap.size)(hgS:g∈S)(hB0:BX w.heap g [pp,.int .i64 ((n:Nat):Int),.int .i64 ((s0:Nat):Int),.int .i64 c0])(hp:RN S (rP (Ki dp)) w.heap pp p)(hn:1≤n∧n≤13)(hs0:s0≤3000)(hc0:0≤c0∧c0≤9)(hfx:RN S (rP (UR dfx)) w.heap vf fx)(henv:RN S (B3 (B3 rI)) w.heap va env)(hqenv:C5 va)(hvp:H6 p)(hF:F≤p.length)(hwf:∀k,k<fx.outs.length→wf p ((F:Nat):Int) (fx.outs.getD k Ex.zero) ((env.length:Nat):Int)=true)(hse:BV n env)(hdp:∀k,k<fx.outs.length→env.length+(fx.outs.getD k Ex.zero).deep≤1000000)(hll:fx.outs.length≤1000000)(IHv:∀d,SV F d) :
  Calls Tryz.prog 158 #[.pointer (some ⟨g,0,none⟩),vf,va] w (fun e w'=>∃(v:Value) (x:List (List Int)) (s1:Nat) (c1:Int),e=.returned v∧Au [g] w w'∧BX w'.heap g [pp,.int .i64 ((n:Nat):Int),.int .i64 ((s1:Nat):Int),.int .i64 c1]∧RN S (B3 (B3 rI)) w'.heap v x∧(C5 v∧x.length=fx.outs.length∧BV n x)∧s1≤3000∧(0≤c1∧c1≤9)∧AH (go c0 (Df n (E8 p n F) fx.outs env s0)) x s1 c1):=by
 refine Aq [.pointer (some ⟨g,0,none⟩),vf,va] 32 Tryz.func158 Z Z sM ?_
 have ao:Au [g] w w:=Au.refl [g] w
 have hl_va:=henv.lenL
 unfold maxLen at hl_va
 have hgl:=hB0.lt
 refine A0 (Ab _ [0] Z (Ac 1 Z (A0 (Ab _ [3,0] Z (CQ rV By BH B8 Aa fun v1 w1 aa az ap=>?_)))))
 have ae:=aa.size
 have aq:Au [g] w w1:=ao.ext aa
 have a9:=hB0.ext aa
 obtain⟨bc,F1,bd⟩:=Hi.nil (S:=S) (ap.low (B':=w.heap.size) (A7 _))
 refine Ac 1 Z (A0 (A0 (Ab _ [0] Z (Ac 1 Z (A3 ?_)))))
 refine B1 (S:=Nat×Value×List (List Int)×Nat×Int) (fun⟨k,vo,xs,s9,c9⟩=>([(7,vo),(8,(.int .i64 ((k:Nat):Int))),(0,(.pointer (some ⟨g,0,none⟩))),(1,vf),(2,va)])) (fun⟨k,vo,xs,s9,c9⟩ W=>Au [g] w W∧BX W.heap g [pp,.int .i64 ((n:Nat):Int),.int .i64 ((s9:Nat):Int),.int .i64 c9]∧k≤fx.outs.length∧Oz 27 S w.heap.size W.heap vo xs∧xs.length=k∧BV n xs∧s9≤3000∧(0≤c9∧c9≤9)∧AH (go c0 (Df n (E8 p n F) (fx.outs.take k) env s0)) xs s9 c9) (fun⟨k,vo,xs,s9,c9⟩=>fx.outs.length-k) (0,v1,([]:List (List Int)),s0,c0) ⟨rfl,rfl,rfl,rfl,rfl,trivial⟩ ⟨aq,a9,sD,(by exact⟨_,_,by assumption⟩),(by rfl),(by intro j hj;simp at hj),oM,oM,(by exact Gj _ _ _ _ _ _)⟩ ?_
 clear ao ap az aa ae aq
 rintro⟨k,vo,xs,s9,c9⟩ ρ2 w2 ⟨a3,a1,ar,hbld,hxl,hxs,au,av,hrl⟩
 have b0:w.heap.size≤w2.heap.size:=a3.size
 have be:=a1.lt
 obtain⟨bf,F5,a0⟩:=hbld
 refine A0 (A0 (Ab _ [0,0,0,0,2,0,0] Z (Ad 2 Z (AN (hfx.isPtr) Z Aa ?_))))
 obtain⟨cs6,b1,ab⟩:=RN.at (Av _) hfx
 obtain⟨a8,rfl,ac⟩:=RF.of b1
 have af:=ac.rn.lenle
 unfold maxLen at af
 refine AJ (p:=vf) 2 BL Z (ab _ (a3.sub (AX hgS))) Aa (Ai (p:=(Ap vf 2)) (.inr Z) a8 Bd Z ((ab _ (a3.sub (AX hgS))).ld (i:=2) (by simp[EX,EY])) Aa (AQ (v:=a8) D1 Z ac.rn.isSl Aa ?_))
 by_cases aw:((k:Nat):Int)<((fx.outs.length:Nat):Int)
 ·refine AG true Z Z (A5 aw) Aa (Aj (Ag Z (A2 (A0 (A3 (Ab _ [0,0,0,0,0,2,0,0,0,4,3,4,0] Z (Ad 3 Z (AN (hfx.isPtr) Z Aa (AJ (p:=vf) 2 BL Z (ab _ (a3.sub (AX hgS))) Aa (Ai (p:=(Ap vf 2)) (.inr Z) a8 Bd Z ((ab _ (a3.sub (AX hgS))).ld (i:=2) (by simp[EX,EY])) Aa (Ad 1 Z ?_)))))))))))
  refine AB (v:=a8) k D1 Bk Z Z ac.rn.isSl Z sD Aa (Ad 1 Z ?_)
  refine AA 221 [] [] [(.pointer (some ⟨g,0,none⟩)),(Ay a8 k 5),va] Z Z Hu Aa (IHv dfx _ (S++F5) g pp dp (n) (s9) (c9) (p) (Ay a8 k 5) (fx.outs.getD k Ex.zero) va (env) (fun b hb=>(by rcases List.mem_append.1 hb with hb|hb;(have:=hS b hb;omega);exact a0.lt b hb:b<w2.heap.size)) (List.mem_append_left _ hgS) a1 ((hp.add (F:=F5) (B5 (AU dp)) a0.low).chg (B5 (AU dp)) (a3.sub (LL hgS))) oM oM oM (RN.ptr (Aw dfx) (by decide) Ex.zero ((ac.rn.add (F:=F5) (An (Aw dfx)) a0.low).chg (An (Aw dfx)) (a3.sub (LL hgS))) sD) ((henv.add (F:=F5) g2 a0.low).chg g2 (a3.sub (LL hgS))) hqenv (by exact hvp) oM (by exact hwf k oM) (by exact hse) (by exact hdp k oM)) ?_
  rintro e8 w8 ⟨v8,x8,s8,c8,rfl,ag,b2,ad,ah,b3,b4,b5⟩
  refine⟨_,rfl,?_⟩
  have b6:=ag.size
  have b7:Au [g] w w8:=a3.trans ag
  have ai:=a0.run hgS oM ag
  have b8:=ah.1
  replace ad:RN (S++F5) (B3 rI) w8.heap v8 x8:=ad
  refine BI (u:=v8) (B:=w8.heap.size) By BH B8 Z Z (Oj w8.heap.size w8.heap.size _ (ad.one1 g1)) (A7 _) Aa fun v14 w14 a2 b9 aj=>?_
  have ax:=a2.size
  have ak:Au [g] w w14:=b7.ext a2
  have a5:=b2.ext a2
  have a4:=ai.ext a2
  have al:=ad.ext g1 a2
  refine EC (v:=vo) (a:=v14) (u:=v8) BH B8 Z Z Z a4 oM aj al sD (by unfold maxLen;first|omega|assumption|(simp;done)|(simp;omega)) Aa ?_
  rintro v17 w17 G17 a6 a7 ⟨ba,F17,bb⟩
  have ay:=a6.size
  have am:Au [g] w w17:=ak.fresh a6 (fun c hc=>a4.low c (a7 c hc))
  have an:=a5.chg a6 (fun hm=>by have:=a4.low _ (a7 _ hm);have:=a4.lt _ (a7 _ hm);omega)
  refine Ac 1 Z (Ab _ [0,0,0] Z (Ad 1 Z (AP ((k+1:Nat):Int) Z Z (Bl oM sD) Aa (Ac 1 Z ?_))))
  exact⟨((k+1),v17,(xs++[x8]),s8,c8),_,rfl,⟨rfl,rfl,rfl,rfl,rfl,trivial⟩,⟨am,an,sD,(by exact⟨_,_,by assumption⟩),(by rw[List.length_append,List.length_singleton,hxl]),(by exact BV.snoc hxs (by assumption)),oM,oM,(by exact Gi oM hrl (by assumption))⟩,by first|omega|(dsimp only;omega)⟩
 ·exact AG false Z Z (A6 aw) Aa (Aj (Ah Z (A4 (Ax (Ax (At (A0 (Ab _ [0,0] Z (Ac 2 Z (A1 (Af [6] Z vo Z ⟨vo,xs,s9,c9,rfl,a3,a1,(a0.done hS),(by exact⟨a0.cap,by omega,hxs⟩),oM,oM,(by rw[List.take_of_length_le oM]at hrl;exact hrl)⟩)))))))))))
theorem Ts (F:Nat)(IH:∀d,SV F d):SO F:=by
 intro w S g pp dp n s0 c0 p dfx vf fx va env hS hgS hB0 hp hn hs0 hc0 hfx henv hqenv hvp hF hwf hse hdp hll
 exact IF w S F g pp dp n s0 c0 p dfx vf fx va env hS hgS hB0 hp hn hs0 hc0 hfx henv hqenv hvp hF hwf hse hdp hll IH
theorem Tt {p:Prop}(h:p:=by first|exact Sg oM oM hKr (by assumption)|exact Sj oM oM hKr (by rw[show(ex.count).toNat=i from by omega];exact hrl9)):p:=h
theorem GS {p:Prop}(h:p:=by simp[EX,EY]):p:=h
theorem IG (w:World)(S:List Nat)(F:Nat)(g:Nat)(pp:Value)(dp n s0:Nat)(c0:Int)(p:List Fn)(dex:Nat)(ve:Value)(ex:Ex)(vv:Value)(env:List (List Int))(hS:∀b∈S,b<w.heap.size)(hgS:g∈S)(hB0:BX w.heap g [pp,.int .i64 ((n:Nat):Int),.int .i64 ((s0:Nat):Int),.int .i64 c0])(hp:RN S (rP (Ki dp)) w.heap pp p)(hn:1≤n∧n≤13)(hs0:s0≤3000)(hc0:0≤c0∧c0≤9)(hex:RN S (rP (LK dex)) w.heap ve ex)(henv:RN S (B3 (B3 rI)) w.heap vv env)(hqenv:C5 vv)(hvp:H6 p)(hF:F≤p.length)(hwf:wf p ((F:Nat):Int) ex ((env.length:Nat):Int)=true)(hse:BV n env)(hdp:env.length+ex.deep≤1000000)(hk:ex.kind=10∨ex.kind=11)(IH1:∀F',F'<F→∀d,SV F' d)(IH2:∀d',d'<dex→SV F d') :
  Calls Tryz.prog 252 #[.pointer (some ⟨g,0,none⟩),ve,vv] w (fun e w'=>∃(v:Value) (x:List Int) (s1:Nat) (c1:Int),e=.returned v∧Au [g] w w'∧BX w'.heap g [pp,.int .i64 ((n:Nat):Int),.int .i64 ((s1:Nat):Int),.int .i64 c1]∧RN S (B3 rI) w'.heap v x∧Cf n x∧s1≤3000∧(0≤c1∧c1≤9)∧AH (go c0 (K5 n (E8 p n F) ex env s0)) x s1 c1):=by
 refine Aq [.pointer (some ⟨g,0,none⟩),ve,vv] 81 Tryz.func252 Z Z sM ?_
 have bo:Au [g] w w:=Au.refl [g] w
 have hl_vv:=henv.lenL
 unfold maxLen at hl_vv
 have hgl:=hB0.lt
 have hwk:=HO hwf hk
 have ay:ex.kind≠9:=by omega
 have hkH:=ZW hk
 clear hk
 have hdk:=DI ex
 refine A0 (Ab _ [0] Z (Ac 1 Z (A0 (Ab _ [3,0] Z (CQ rV By BH B8 Aa fun v1 w1 az cf bp=>?_)))))
 have b2:=az.size
 have bq:Au [g] w w1:=bo.ext az
 have am:=hB0.ext az
 obtain⟨cv,F1,cw⟩:=Hi.nil (S:=S) (bp.low (B':=w.heap.size) (A7 _))
 refine Ac 1 Z (A0 (A0 (Ab _ [0] Z (Ac 1 Z (A3 ?_)))))
 refine B1 (S:=Nat×Value×List (List Int)×Nat×Int) (fun⟨k,vo,xs,s9,c9⟩=>([(7,vo),(8,(.int .i64 ((k:Nat):Int))),(0,(.pointer (some ⟨g,0,none⟩))),(1,ve),(2,vv)])) (fun⟨k,vo,xs,s9,c9⟩ W=>Au [g] w W∧BX W.heap g [pp,.int .i64 ((n:Nat):Int),.int .i64 ((s9:Nat):Int),.int .i64 c9]∧k≤ex.kids.length∧Oz 27 S w.heap.size W.heap vo xs∧xs.length=k∧BV n xs∧s9≤3000∧(0≤c9∧c9≤9)∧AH (go c0 (Df n (E8 p n F) (ex.kids.take k) env s0)) xs s9 c9) (fun⟨k,vo,xs,s9,c9⟩=>ex.kids.length-k) (0,v1,([]:List (List Int)),s0,c0) ⟨rfl,rfl,rfl,rfl,rfl,trivial⟩ ⟨bq,am,sD,(by exact⟨_,_,by assumption⟩),(by rfl),(by intro j hj;simp at hj),oM,oM,(by exact Gj _ _ _ _ _ _)⟩ ?_
 clear bo bp cf az b2 bq
 rintro⟨k,vo,xs,s9,c9⟩ ρ2 w2 ⟨a0,a1,br,hbld,hxl,hxs,bs,bt,hrl⟩
 have b3:w.heap.size≤w2.heap.size:=a0.size
 have cx:=a1.lt
 obtain⟨cy,F5,a3⟩:=hbld
 refine A0 (A0 (Ab _ [0,0,0,0,2,0,0] Z (Ad 2 Z (AN (hex.isPtr) Z Aa ?_))))
 obtain⟨cs6,cg,a7⟩:=RN.at (Aw _) hex
 obtain⟨dd6,al,cz,rfl,b0⟩:=RX.of cg
 have an:=b0.rn.lenle
 unfold maxLen at an
 refine AJ (p:=ve) 4 B9 Z (a7 _ (a0.sub (AX hgS))) Aa (Ai (p:=(Ap ve 4)) (.inr Z) al Bd Z ((a7 _ (a0.sub (AX hgS))).ld (i:=4) GS) Aa (AQ (v:=al) D1 Z b0.rn.isSl Aa ?_))
 by_cases bu:((k:Nat):Int)<((ex.kids.length:Nat):Int)
 ·refine AG true Z Z (A5 bu) Aa (Aj (Ag Z (A2 (A0 (A3 (Ab _ [0,0,0,0,0,2,0,0,0,4,3,4,0] Z ?_))))))
  have hvo:=hvp.outs (ex.num).toNat oM
  have hvr:=hvp.par (ex.num).toNat oM
  have hkd:=Dh (l:=ex.kids) (k:=k) oM
  have hkb:ex.kids.length≤412:=by omega
  refine Ad 3 Z (AN (hex.isPtr) Z Aa (AJ (p:=ve) 4 B9 Z (a7 _ (a0.sub (AX hgS))) Aa (Ai (p:=(Ap ve 4)) (.inr Z) al Bd Z ((a7 _ (a0.sub (AX hgS))).ld (i:=4) GS) Aa (Ad 1 Z (AB (v:=al) k D1 Bk Z Z b0.rn.isSl Z sD Aa (Ad 1 Z ?_))))))
  refine AA 221 [] [] [(.pointer (some ⟨g,0,none⟩)),(Ay al k 5),vv] Z Z Hu Aa (IH2 dd6 oM _ (S++F5) g pp dp (n) (s9) (c9) (p) (Ay al k 5) (ex.kids.getD k Ex.zero) vv (env) (fun b hb=>(by rcases List.mem_append.1 hb with hb|hb;(have:=hS b hb;omega);exact a3.lt b hb:b<w2.heap.size)) (List.mem_append_left _ hgS) a1 ((hp.add (F:=F5) (B5 (AU dp)) a3.low).chg (B5 (AU dp)) (a0.sub (LL hgS))) oM oM oM (RN.ptr (Aw dd6) (by decide) Ex.zero ((b0.rn.add (F:=F5) (An (Aw dd6)) a3.low).chg (An (Aw dd6)) (a0.sub (LL hgS))) sD) ((henv.add (F:=F5) g2 a3.low).chg g2 (a0.sub (LL hgS))) hqenv (by exact hvp) oM (by exact DG hwf oM oM) (by exact hse) oM) ?_
  rintro e8 w8 ⟨v8,x8,s8,c8,rfl,b4,ch,b1,b5,ci,cj,ck⟩
  refine⟨_,rfl,?_⟩
  have cl:=b4.size
  have cm:Au [g] w w8:=a0.trans b4
  have b6:=a3.run hgS oM b4
  have cn:=b5.1
  replace b1:RN (S++F5) (B3 rI) w8.heap v8 x8:=b1
  refine BI (u:=v8) (B:=w8.heap.size) By BH B8 Z Z (Oj w8.heap.size w8.heap.size _ (b1.one1 g1)) (A7 _) Aa fun v14 w14 a8 co b7=>?_
  have bv:=a8.size
  have b8:Au [g] w w14:=cm.ext a8
  have af:=ch.ext a8
  have ab:=b6.ext a8
  have b9:=b1.ext g1 a8
  refine EC (v:=vo) (a:=v14) (u:=v8) BH B8 Z Z Z ab oM b7 b9 sD (by unfold maxLen;first|omega|assumption|(simp;done)|(simp;omega)) Aa ?_
  rintro v17 w17 G17 ag ah ⟨cp,F17,cq⟩
  have bw:=ag.size
  have ba:Au [g] w w17:=b8.fresh ag (fun c hc=>ab.low c (ah c hc))
  have bb:=af.chg ag (fun hm=>by have:=ab.low _ (ah _ hm);have:=ab.lt _ (ah _ hm);omega)
  refine Ac 1 Z (Ab _ [0,0,0] Z (Ad 1 Z (AP ((k+1:Nat):Int) Z Z (Bl oM sD) Aa (Ac 1 Z ?_))))
  exact⟨((k+1),v17,(xs++[x8]),s8,c8),_,rfl,⟨rfl,rfl,rfl,rfl,rfl,trivial⟩,⟨ba,bb,sD,(by exact⟨_,_,by assumption⟩),(by rw[List.length_append,List.length_singleton,hxl]),(by exact BV.snoc hxs (by assumption)),oM,oM,(by exact Gi oM hrl (by assumption))⟩,by first|omega|(dsimp only;omega)⟩
 ·refine AG false Z Z (A6 bu) Aa (Aj (Ah Z (A4 (Ax (Ax (At (A0 (AO _ [0,0,0,1,0,0,1,0,0,0,1,0,0] mixed (by kernel_rfl) ?_))))))))
  have ad:=a3.done hS
  have hfn19c:=a3.cap
  have hvo:=hvp.outs (ex.num).toNat oM
  have hvr:=hvp.par (ex.num).toNat oM
  have hxk:xs.length=ex.kids.length:=by omega
  have hKr:AH (go c0 (Df n (E8 p n F) ex.kids env s0)) xs s9 c9:=by rw[List.take_of_length_le oM]at hrl;exact hrl
  refine Ad 1 Z (AY Z Aa (Ak (p:=(.pointer (some ⟨g,0,none⟩))) (b:=g) (o:=0) 0 UC Z Z Aa (Ai (p:=(Ap (.pointer (some ⟨g,0,none⟩)) 0)) (.inl Z) pp VI Z (a1.ldp (i:=0) sM) Aa (AN (hp.isPtr) Z Aa ?_))))
  obtain⟨cs20,bc,ao⟩:=RN.at (AU _) hp
  obtain⟨a4,rfl,a9⟩:=RPr.of bc
  have ae:=a9.lenle
  unfold maxLen at ae
  refine AJ (p:=pp) 0 Bv Z (ao _ (a0.drew.sub (AX hgS))) Aa (Ai (p:=(Ap pp 0)) (.inl Z) a4 BY Z ((ao _ (a0.drew.sub (AX hgS))).ld (i:=0) GS) Aa (Ad 1 Z (AN (hex.isPtr) Z Aa (AJ (p:=ve) 1 BE Z (a7 _ (a0.drew.sub (AX hgS))) Aa (Ai (p:=(Ap ve 1)) (.inl Z) (.int .i64 ex.num) AD Z ((a7 _ (a0.drew.sub (AX hgS))).ld (i:=1) GS) Aa ?_)))))
  refine AB (v:=a4) ((ex.num).toNat) Gb Cj Z Z a9.isSl oM sD Aa (Ac 1 Z (A0 (A0 (Ab _ [0,0,0,2,0] Z (Ad 1 Z (AN (hex.isPtr) Z Aa (AJ (p:=ve) 0 Bf Z (a7 _ (a0.drew.sub (AX hgS))) Aa (Ai (p:=(Ap ve 0)) (.inr Z) (.int .i64 ex.kind) AD Z ((a7 _ (a0.drew.sub (AX hgS))).ld (i:=0) GS) Aa ?_))))))))
  by_cases ap:ex.kind=((10:Nat):Int)
  ·refine Am true Z Z (A5 ap) Aa (Aj (Ag Z (A0 (AO _ [0,0,0,0,1,0,0,0,1,0,0,4,0] mixed (by kernel_rfl) (Ad 2 Z ?_)))))
   have hvd:=hvp.deep (ex.num).toNat oM (ex.pick).toNat oM
   refine AN (RN.isPtr (RN.ptr (Av dp) (by decide) Fn.zero a9 sD)) Z Aa ?_
   obtain⟨cs22,bd,aq⟩:=a9.get (Av dp) Fn.zero (k:=((ex.num).toNat)) sD
   obtain⟨ac,rfl,ai⟩:=RF.of bd
   have ar:=ai.rn.lenle
   unfold maxLen at ar
   refine AJ (p:=Ay a4 ((ex.num).toNat) 3) 2 BL Z (aq _ (a0.drew.drew.sub (AX hgS))) Aa (Ai (p:=(Ap (Ay a4 ((ex.num).toNat) 3) 2)) (.inl Z) ac Bd Z ((aq _ (a0.drew.drew.sub (AX hgS))).ld (i:=2) GS) Aa (Ad 1 Z (AN (hex.isPtr) Z Aa (AJ (p:=ve) 2 Dc Z (a7 _ (a0.drew.drew.sub (AX hgS))) Aa (Ai (p:=(Ap ve 2)) (.inl Z) (.int .i64 ex.pick) AD Z ((a7 _ (a0.drew.drew.sub (AX hgS))).ld (i:=2) GS) Aa ?_)))))
   refine AB (v:=ac) ((ex.pick).toNat) D1 Bk Z Z ai.rn.isSl oM sD Aa (Ad 1 Z ?_)
   refine AA 221 [] [] [(.pointer (some ⟨g,0,none⟩)),(Ay ac ((ex.pick).toNat) 5),vo] Z Z Hu Aa (IH1 (ex.num).toNat oM dp _ S g pp dp (n) (s9) (c9) (p) (Ay ac ((ex.pick).toNat) 5) (((p.getD ((ex.num).toNat) Fn.zero).outs).getD ((ex.pick).toNat) Ex.zero) vo (xs) (fun b hb=>(by have:=hS b hb;omega:b<w2.heap.size)) hgS a1 (hp.chg (B5 (AU dp)) (a0.drew.drew.sub (AX hgS))) oM oM oM (RN.ptr (Aw dp) (by decide) Ex.zero (ai.rn.chg (An (Aw dp)) (a0.drew.drew.sub (AX hgS))) sD) ad hfn19c (by exact hvp) oM (by have h9:=hvp.wf (ex.num).toNat oM (ex.pick).toNat oM;rw[show((xs.length:Nat):Int)=(p.getD (ex.num).toNat Fn.zero).params from by omega];exact h9) (by exact hxs) oM) ?_
   rintro e23 w23 ⟨v23,x23,s23,c23,rfl,a5,be,bf,au,bx,bz,c2⟩
   refine⟨_,rfl,?_⟩
   replace a5:=a5.of_drew
   replace a5:=a5.of_drew
   have c3:=a5.size
   have bg:Au [g] w w23:=a0.trans a5
   have cr:=ad.run g2 hgS a5
   have c4:=au.1
   exact Ac 1 Z (A1 (Al (Af [6] Z v23 Z ⟨v23,x23,s23,c23,rfl,bg,be,bf,(by first|assumption|exact hks _ oM),oM,oM,Tt⟩)))
  ·refine Am false Z Z (A6 ap) Aa (Aj (Ah Z (A2 (A0 (A0 (Ab _ [0] Z ?_))))))
   have bh:ex.kind=11:=by have h9:ex.kind=10∨ex.kind=11:=hkH;omega
   have hwl:=ML hwf bh
   refine Ac 1 Z (A3 ?_)
   refine B1 (S:=Nat×Value×List (List Int)×Nat×Int) (fun⟨i,vk,ks,s8,c8⟩=>([(7,vk),(10,(.int .i64 ((i:Nat):Int))),(0,(.pointer (some ⟨g,0,none⟩))),(1,ve),(9,(Ay a4 ((ex.num).toNat) 3))])) (fun⟨i,vk,ks,s8,c8⟩ W=>Au [g] w W∧BX W.heap g [pp,.int .i64 ((n:Nat):Int),.int .i64 ((s8:Nat):Int),.int .i64 c8]∧i≤(ex.count).toNat∧RN S (B3 (B3 rI)) W.heap vk ks∧C5 vk∧ks.length=(p.getD (ex.num).toNat Fn.zero).outs.length∧BV n ks∧s8≤3000∧(0≤c8∧c8≤9)∧AH (go c9 (HN (fun a t=>Df n (E8 p n (ex.num).toNat) (p.getD (ex.num).toNat Fn.zero).outs a t) i xs s9)) ks s8 c8) (fun⟨i,vk,ks,s8,c8⟩=>(ex.count).toNat-i) (0,vo,xs,s9,c9) ⟨rfl,rfl,rfl,rfl,rfl,trivial⟩ ⟨a0.drew,a1,oM,(by assumption),(by assumption),oM,(by assumption),oM,oM,(by exact Si Z)⟩ ?_
   clear a1 a0 b3 an ae
   rintro⟨i,vk,ks,s8,c8⟩ ρ31 w31 ⟨a2,a6,bi,hrk,hck,hkl,hks,bj,bk,hrl9⟩
   have c5:w.heap.size≤w31.heap.size:=a2.size
   have cs:=a6.lt
   refine A0 (A0 (Ab _ [0,0,0,0,2,0] Z (Ad 2 Z (AN (hex.isPtr) Z Aa (AJ (p:=ve) 3 Du Z (a7 _ (a2.sub (AX hgS))) Aa (Ai (p:=(Ap ve 3)) (.inr Z) (.int .i64 ex.count) AD Z ((a7 _ (a2.sub (AX hgS))).ld (i:=3) GS) Aa ?_))))))
   by_cases av:((i:Nat):Int)<ex.count
   ·refine AG true Z Z (A5 av) Aa (Aj (Ag Z (A2 (A0 (A3 (Ab _ [0,0,0,4,0] Z (Ad 3 Z ?_)))))))
    refine AA 158 [] [] [(.pointer (some ⟨g,0,none⟩)),(Ay a4 ((ex.num).toNat) 3),vk] Z Z Vv Aa (Ts (ex.num).toNat (fun d9=>IH1 (ex.num).toNat oM d9) _ S g pp dp (n) (s8) (c8) (p) dp (Ay a4 ((ex.num).toNat) 3) (p.getD ((ex.num).toNat) Fn.zero) vk (ks) (fun b hb=>(by have:=hS b hb;omega:b<w31.heap.size)) hgS a6 (hp.chg (B5 (AU dp)) (a2.sub (AX hgS))) oM oM oM (RN.ptr (Av dp) (by decide) Fn.zero (a9.chg (An (Av dp)) (a2.sub (AX hgS))) sD) hrk hck (by exact hvp) oM (by intro k9 ay;have h9:=hvp.wf (ex.num).toNat oM k9 ay;rw[show((ks.length:Nat):Int)=(p.getD (ex.num).toNat Fn.zero).params from by omega];exact h9) (by exact hks) (by intro k9 ay;have:=hvp.deep (ex.num).toNat oM k9 ay;omega) oM) ?_
    rintro e34 w34 ⟨v34,x34,s34,c34,rfl,aj,bl,ct,aa,c6,c7,ca⟩
    refine⟨_,rfl,?_⟩
    have cb:=aj.size
    have bm:Au [g] w w34:=a2.trans aj
    have cu:=hrk.run g2 hgS aj
    have cc:=aa.2.1
    have cd:=aa.2.2
    have ce:=aa.1
    exact Ac 1 Z (Ab _ [0,0,0] Z (Ad 1 Z (AP ((i+1:Nat):Int) Z Z (Bl oM oM) Aa (Ac 1 Z ⟨((i+1),v34,x34,s34,c34),_,rfl,⟨rfl,rfl,rfl,rfl,rfl,trivial⟩,⟨bm,bl,oM,(by assumption),(by assumption),oM,(by assumption),oM,oM,(by exact Sh hrl9 (by assumption))⟩,by first|omega|(dsimp only;omega)⟩))))
   ·refine AG false Z Z (A6 av) Aa (Aj (Ah Z (A4 (Ax (Ax (At (A0 (Ab _ [0,0,0,0,2,0,2,0] Z (Ad 2 Z (AN (hex.isPtr) Z Aa (AJ (p:=ve) 2 Dc Z (a7 _ (a2.sub (AX hgS))) Aa (Ai (p:=(Ap ve 2)) (.inr Z) (.int .i64 ex.pick) AD Z ((a7 _ (a2.sub (AX hgS))).ld (i:=2) GS) Aa ?_))))))))))))
    refine AB (v:=vk) ((ex.pick).toNat) BH B8 Z Z hrk.slL oM sD Aa ?_
    obtain⟨ak,bn,aw⟩:=RN.getL (w:=w31) g1 [] (k:=(ex.pick).toNat) hrk sD
    have ax:=aw.lenL
    unfold maxLen at ax
    exact Ai (p:=Ay vk ((ex.pick).toNat) 1) (.inr Z) ak Bj Z (bn _ (Au.refl _ _)) Aa (Ac 1 Z (A1 (Af [6] Z ak Z ⟨ak,ks.getD ((ex.pick).toNat) [],s8,c8,rfl,a2,a6,aw,(by first|assumption|exact hks _ oM),oM,oM,Tt⟩)))
end
section
set_option maxHeartbeats 4000000
set_option maxRecDepth 100000
attribute [local irreducible] LW
theorem Tu (F d:Nat)(IH1:∀F',F'<F→∀d,SV F' d)(IH2:∀d',d'<d→SV F d'):SC F d:=by
 intro w S g pp dp n s0 c0 p ve ex vv env hS hgS a0 hp hn a1 a2 hex henv hqenv hvp hF hwf hse hdp hk
 exact IG w S F g pp dp n s0 c0 p d ve ex vv env hS hgS a0 hp hn a1 a2 hex henv hqenv hvp hF hwf hse hdp hk IH1 IH2
theorem Tv {p:Prop}(h:p:=by first|exact Ek hc00 hs1 oM oM ‹AH (go c0 (Cn _ _ (ex.kids.getD 0 _) _ _)) _ _ _› oM (by assumption)|exact El hc00 hs1 oM oM ‹AH (go c0 (Cn _ _ (ex.kids.getD 0 _) _ _)) _ _ _› oM (by assumption)):p:=h
theorem Nd {p:Prop}(h:p:=by have:=Dh (l:=ex.kids) (k:=0) oM;omega):p:=h
theorem II {p:Prop}(h:p:=by exact DG hwf oM oM):p:=h
theorem E2 {p:Prop}(h:p:=by simp[EX,EY]):p:=h
theorem IJ (w:World)(S:List Nat)(F:Nat)(g:Nat)(pp:Value)(dp n s0:Nat)(c0:Int)(p:List Fn)(dex:Nat)(ve:Value)(ex:Ex)(vv:Value)(env:List (List Int))(hS:∀b∈S,b<w.heap.size)(hgS:g∈S)(b0:BX w.heap g [pp,.int .i64 ((n:Nat):Int),.int .i64 ((s0:Nat):Int),.int .i64 c0])(hp:RN S (rP (Ki dp)) w.heap pp p)(hn:1≤n∧n≤13)(j2:s0≤3000)(j3:0≤c0∧c0≤9)(hex:RN S (rP (LK dex)) w.heap ve ex)(henv:RN S (B3 (B3 rI)) w.heap vv env)(hqenv:C5 vv)(hvp:H6 p)(hF:F≤p.length)(hwf:wf p ((F:Nat):Int) ex ((env.length:Nat):Int)=true)(hse:BV n env)(hdp:env.length+ex.deep≤1000000)(IH1:∀F',F'<F→∀d,SV F' d)(IH2:∀d',d'<dex→SV F d') :
  Calls Tryz.prog 221 #[.pointer (some ⟨g,0,none⟩),ve,vv] w (fun e w'=>∃(v:Value) (x:List Int) (s1:Nat) (c1:Int),e=.returned v∧Au [g] w w'∧BX w'.heap g [pp,.int .i64 ((n:Nat):Int),.int .i64 ((s1:Nat):Int),.int .i64 c1]∧RN S (B3 rI) w'.heap v x∧Cf n x∧s1≤3000∧(0≤c1∧c1≤9)∧AH (go c0 (Cn n (E8 p n F) ex env s0)) x s1 c1):=by
 refine Aq [.pointer (some ⟨g,0,none⟩),ve,vv] 186 Tryz.func221 Z Z sM ?_
 have bk:Au [g] w w:=Au.refl [g] w
 have hl_vv:=henv.lenL
 unfold maxLen at hl_vv
 have hgl:=b0.lt
 have hdk:=DI ex
 refine A0 (Ab _ [0] Z (Ac 1 Z (A0 (A0 (Ab _ [0,0,0,2,0] Z (Ad 1 Z (AY Z Aa (Ak (p:=(.pointer (some ⟨g,0,none⟩))) (b:=g) (o:=0) 3 GP Z Z Aa (Ai (p:=(Ap (.pointer (some ⟨g,0,none⟩)) 3)) (.inr Z) (.int .i64 c0) AD Z (b0.ldp (i:=3) sM) Aa ?_)))))))))
 by_cases e8:c0≠((0:Nat):Int)
 ·refine AT true Z Z (A5 e8) Aa (Aj (Ag Z (A0 (Ab _ [0,0,0,0,2,4,0] Z (Ad 2 Z (AY Z Aa (Ak (p:=(.pointer (some ⟨g,0,none⟩))) (b:=g) (o:=0) 3 GP Z Z Aa (Ai (p:=(Ap (.pointer (some ⟨g,0,none⟩)) 3)) (.inr Z) (.int .i64 c0) AD Z (b0.ldp (i:=3) sM) Aa (AA 250 [] [] [(.pointer (some ⟨g,0,none⟩)),(.int .i64 c0)] Z Z Qp Aa (CY _ S g pp dp (n) (s0) (c0) (p) (c0) (fun b hb=>(by have:=hS b hb;omega:b<w.heap.size)) hgS b0 (hp.chg (B5 (AU dp)) (bk.sub (AX hgS))) oM oM oM oM oM) ?_)))))))))
  rintro e2 w2 ⟨v2,x2,s2,c2,rfl,e9,i9,ia,d1,ib,ic,bl⟩
  refine⟨_,rfl,?_⟩
  have id:=e9.size
  have ie:Au [g] w w2:=bk.trans e9
  have ig:=d1.1
  have hfs:=bl.1
  have hff:=bl.2
  exact Ac 1 Z (A1 (Al (Af [6] Z v2 Z ⟨v2,x2,s2,c2,rfl,ie,i9,ia,(by assumption),oM,oM,(by rw[hff,if_neg oM];exact Dy oM)⟩)))
 ·refine AT false Z Z (A6 e8) Aa (Aj (Ah Z (A2 (A0 (A0 (Ab _ [0,0,0,2,0] Z (Ad 1 Z (AY Z Aa (Ak (p:=(.pointer (some ⟨g,0,none⟩))) (b:=g) (o:=0) 2 KF Z Z Aa (Ai (p:=(Ap (.pointer (some ⟨g,0,none⟩)) 2)) (.inr Z) (.int .i64 ((s0:Nat):Int)) AD Z (b0.ldp (i:=2) sM) Aa ?_))))))))))
  by_cases ea:((s0:Nat):Int)=((3000:Nat):Int)
  ·refine Am true Z Z (A5 ea) Aa (Aj (Ag Z (A0 (Ab _ [0,4,0] Z (Ad 1 Z (AA 250 [] [] [(.pointer (some ⟨g,0,none⟩)),(.int .i64 ((7:Nat):Int))] Z Z Qp Aa (CY _ S g pp dp (n) (s0) (c0) (p) (((7:Nat):Int)) (fun b hb=>(by have:=hS b hb;omega:b<w.heap.size)) hgS b0 (hp.chg (B5 (AU dp)) (bk.sub (AX hgS))) oM oM oM oM oM) ?_))))))
   rintro e7 w7 ⟨v7,x7,s7,c7,rfl,eb,ih,ii,d2,ij,ik,bm⟩
   refine⟨_,rfl,?_⟩
   have il:=eb.size
   have im:Au [g] w w7:=bk.trans eb
   have io:=d2.1
   have hfs:=bm.1
   have hff:=bm.2
   exact Ac 1 Z (A1 (Al (Af [6] Z v7 Z ⟨v7,x7,s7,c7,rfl,im,ih,ii,(by assumption),oM,oM,(by rw[hff,if_pos oM];exact Cy oM oM)⟩)))
  ·refine Am false Z Z (A6 ea) Aa (Aj (Ah Z (A2 (A0 (Ab _ [0,0,0,2,0,0,0,4] Z (Ad 1 Z (AY Z Aa (Ak (p:=(.pointer (some ⟨g,0,none⟩))) (b:=g) (o:=0) 2 KF Z Z Aa (Ai (p:=(Ap (.pointer (some ⟨g,0,none⟩)) 2)) (.inr Z) (.int .i64 ((s0:Nat):Int)) AD Z (b0.ldp (i:=2) sM) Aa (AP ((s0+1:Nat):Int) Z Z (Bl oM oM) Aa (AY Z Aa (Ak (p:=(.pointer (some ⟨g,0,none⟩))) (b:=g) (o:=0) 2 KF Z Z Aa (Be (k:=2) (w:=w) Hv Z Z ⟨rfl,rfl⟩ b0 sM Aa fun w11 bn ip a7=>?_)))))))))))))
   replace a7:BX w11.heap g [pp,(.int .i64 ((n:Nat):Int)),(.int .i64 ((s0+1:Nat):Int)),(.int .i64 c0)]:=a7
   have a0:Au [g] w w11:=bk.trans bn
   have ec:=bn.size
   refine Aj (A0 (A0 (Ab _ [0,0,0,2] Z ?_)))
   have hc00:c0=0:=by omega
   have hs1:s0+1≤3000:=by omega
   refine Ad 1 Z (AN (hex.isPtr) Z Aa ?_)
   obtain⟨cs12,d3,a2⟩:=RN.at (Aw _) hex
   obtain⟨dd12,a1,iq,rfl,a3⟩:=RX.of d3
   have bo:=a3.rn.lenle
   unfold maxLen at bo
   refine AJ (p:=ve) 0 Bf Z (a2 _ (a0.sub (AX hgS))) Aa (Ai (p:=(Ap ve 0)) (.inr Z) (.int .i64 ex.kind) AD Z ((a2 _ (a0.sub (AX hgS))).ld (i:=0) E2) Aa (Aj (A3 (A0 (Ab _ [0,0] Z ?_)))))
   by_cases bp:ex.kind=((1:Nat):Int)
   ·refine Am true Z Z (A5 bp) Aa (Ac 1 Z (Ag Z (A0 (AO _ [0,0,0,1,0,0,0,1,3,0] mixed (by kernel_rfl) ?_))))
    have hwk:=OD hwf oM
    refine Ad 1 Z (AN (hex.isPtr) Z Aa (AJ (p:=ve) 1 BE Z (a2 _ (a0.drew.sub (AX hgS))) Aa (Ai (p:=(Ap ve 1)) (.inl Z) (.int .i64 ex.num) AD Z ((a2 _ (a0.drew.sub (AX hgS))).ld (i:=1) E2) Aa (Ad 1 Z (AY Z Aa (Ak (p:=(.pointer (some ⟨g,0,none⟩))) (b:=g) (o:=0) 1 N5 Z Z Aa (Ai (p:=(Ap (.pointer (some ⟨g,0,none⟩)) 1)) (.inl Z) (.int .i64 ((n:Nat):Int)) Lk Z (a7.ldp (i:=1) sM) Aa ?_)))))))
    refine As 79 [] [] [(.int .i64 ex.num),(.int .i64 ((n:Nat):Int))] Z Z XO Aa (EI _ _ (n) a3.rng.num sD oM) ?_
    rintro e14 w14 ⟨b1,rfl,ae,aa⟩
    refine⟨_,rfl,ae,?_⟩
    replace ae:=ae.of_drew
    have ed:=ae.size
    have d4:Au [g] w w14:=a0.ext ae
    have an:=a7.ext ae
    replace aa:=aa.low (B':=w11.heap.size) (A7 _)
    exact Ac 1 Z (A1 (AC (Al (Af [6] Z b1 Z ⟨b1,cst n ex.num,s0+1,c0,rfl,d4,an,(RN.of_fr1 aa (fun b hb=>by have:=hS b hb;omega)),(by exact DT (Cm.2 oM)),oM,oM,(by exact Ei hc00 hs1 oM)⟩))))
   ·refine Am false Z Z (A6 bp) Aa (Ac 1 Z (Ah Z (A0 (Ab _ [0,0] Z ?_))))
    by_cases bq:ex.kind=((2:Nat):Int)
    ·refine Am true Z Z (A5 bq) Aa (Ac 1 Z (Ag Z (A0 (Ab _ [0,0,0,0,2,0,2,0] Z ?_))))
     have hwk:=OE hwf oM
     refine Ad 2 Z (AN (hex.isPtr) Z Aa (AJ (p:=ve) 1 BE Z (a2 _ (a0.sub (AX hgS))) Aa (Ai (p:=(Ap ve 1)) (.inr Z) (.int .i64 ex.num) AD Z ((a2 _ (a0.sub (AX hgS))).ld (i:=1) E2) Aa (AB (v:=vv) ((ex.num).toNat) BH B8 Z Z henv.slL oM sD Aa ?_))))
     obtain⟨ba,d5,br⟩:=RN.getL (w:=w) g1 [] (k:=(ex.num).toNat) henv sD
     have bs:=br.lenL
     unfold maxLen at bs
     exact Ai (p:=Ay vv ((ex.num).toNat) 1) (.inr Z) ba Bj Z (d5 _ (a0.sub (AX hgS))) Aa (Ac 1 Z (A1 (AC (Al (Af [6] Z ba Z ⟨ba,env.getD ((ex.num).toNat) [],s0+1,c0,rfl,a0,a7,(br.chg g1 (a0.sub (AX hgS))),(by exact hse _ oM),oM,oM,(by exact Ej hc00 hs1 oM)⟩)))))
    ·refine Am false Z Z (A6 bq) Aa (Ac 1 Z (Ah Z (A0 (Ab _ [0,0] Z ?_))))
     by_cases bt:ex.kind=((7:Nat):Int)
     ·refine Am true Z Z (A5 bt) Aa (Ac 1 Z (Ag Z (A0 (Ab _ [0,0,0,0,2,0,0,4,3,0] Z ?_))))
      have hwk:=OG hwf oM
      refine Ad 2 Z (AN (hex.isPtr) Z Aa (AJ (p:=ve) 4 B9 Z (a2 _ (a0.sub (AX hgS))) Aa (Ai (p:=(Ap ve 4)) (.inr Z) a1 Bd Z ((a2 _ (a0.sub (AX hgS))).ld (i:=4) E2) Aa (AB (v:=a1) 0 D1 Bk Z Z a3.rn.isSl Z sD Aa (Ad 1 Z ?_)))))
      refine AA 221 [] [] [(.pointer (some ⟨g,0,none⟩)),(Ay a1 0 5),vv] Z Z Hu Aa (IH2 dd12 oM _ S g pp dp (n) (s0+1) (c0) (p) (Ay a1 0 5) (ex.kids.getD 0 Ex.zero) vv (env) (fun b hb=>(by have:=hS b hb;omega:b<w11.heap.size)) hgS a7 (hp.chg (B5 (AU dp)) (a0.sub (AX hgS))) oM oM oM (RN.ptr (Aw dd12) (by decide) Ex.zero (a3.rn.chg (An (Aw dd12)) (a0.sub (AX hgS))) sD) (henv.chg g2 (a0.sub (AX hgS))) hqenv (by exact hvp) oM II (by exact hse) Nd) ?_
      rintro e18 w18 ⟨v18,x18,s18,c18,rfl,bu,d6,bv,bw,ee,ef,eg⟩
      refine⟨_,rfl,?_⟩
      have eh:=bu.size
      have d7:Au [g] w w18:=a0.trans bu
      have ei:=bw.1
      refine As 165 [] [] [v18,(.int .i64 ((1000002:Nat):Int))] Z Z Vw Aa (H0 _ _ _ _ (bv).rd oM oM) ?_
      rintro e23 w23 ⟨b2,rfl,aj,bb⟩
      refine⟨_,rfl,aj,?_⟩
      have ej:=aj.size
      have d8:Au [g] w w23:=d7.ext aj
      have ao:=d6.ext aj
      have ir:=bv.ext g1 aj
      exact Ac 1 Z (A1 (AC (Al (Af [6] Z b2 Z ⟨b2,scl x18 ((1000002:Nat):Int),s18,c18,rfl,d8,ao,(RN.of_fr1 bb (fun b hb=>by have:=hS b hb;omega)),(by rw[P8];exact KQ (by assumption)),oM,oM,(by exact GK hc00 hs1 oM (Xw oM ‹AH (go c0 (Cn _ _ (ex.kids.getD 0 _) _ _)) _ _ _›) (fun h0=>by rw[h0,P8];exact FT oM) (fun _=>rfl))⟩))))
     ·refine Am false Z Z (A6 bt) Aa (Ac 1 Z (Ah Z (A0 (Ab _ [0,0] Z ?_))))
      by_cases bx:ex.kind=((8:Nat):Int)
      ·refine Am true Z Z (A5 bx) Aa (Ac 1 Z (Ag Z (A0 (A0 (Ab _ [0,0,0,0,2,0,0,4,0,2,0] Z ?_)))))
       have hwk:=RH hwf oM
       refine Ad 2 Z (AN (hex.isPtr) Z Aa (AJ (p:=ve) 4 B9 Z (a2 _ (a0.sub (AX hgS))) Aa (Ai (p:=(Ap ve 4)) (.inr Z) a1 Bd Z ((a2 _ (a0.sub (AX hgS))).ld (i:=4) E2) Aa (AB (v:=a1) 0 D1 Bk Z Z a3.rn.isSl Z sD Aa (Ad 1 Z ?_)))))
       refine AA 221 [] [] [(.pointer (some ⟨g,0,none⟩)),(Ay a1 0 5),vv] Z Z Hu Aa (IH2 dd12 oM _ S g pp dp (n) (s0+1) (c0) (p) (Ay a1 0 5) (ex.kids.getD 0 Ex.zero) vv (env) (fun b hb=>(by have:=hS b hb;omega:b<w11.heap.size)) hgS a7 (hp.chg (B5 (AU dp)) (a0.sub (AX hgS))) oM oM oM (RN.ptr (Aw dd12) (by decide) Ex.zero (a3.rn.chg (An (Aw dd12)) (a0.sub (AX hgS))) sD) (henv.chg g2 (a0.sub (AX hgS))) hqenv (by exact hvp) oM II (by exact hse) Nd) ?_
       rintro e26 w26 ⟨v26,x26,s26,c26,rfl,bz,c3,ap,c4,ek,el,en⟩
       refine⟨_,rfl,?_⟩
       have eo:=bz.size
       have a5:Au [g] w w26:=a0.trans bz
       have ep:=c4.1
       refine AB (v:=v26) 0 Bt BT Z Z ap.slL Z sD Aa ?_
       have d9:=RN.getI (w:=w26) (k:=0) ap sD
       refine Ai (p:=Ay v26 0 1) (.inr Z) (.int .i64 (x26.getD 0 0)) AD Z (d9.1 _ (Au.refl _ _)) Aa ?_
       by_cases c5:x26.getD 0 0=((0:Nat):Int)
       ·refine Am true Z Z (A5 c5) Aa (Aj (Ag Z (A0 (Ab _ [0,0,0,0,2,0,0,4,0] Z (Ad 2 Z (AN (hex.isPtr) Z Aa (AJ (p:=ve) 4 B9 Z (a2 _ (a5.sub (AX hgS))) Aa (Ai (p:=(Ap ve 4)) (.inr Z) a1 Bd Z ((a2 _ (a5.sub (AX hgS))).ld (i:=4) E2) Aa (AB (v:=a1) 1 D1 Bk Z Z a3.rn.isSl Z sD Aa ?_)))))))))
        refine Ad 1 Z ?_
        refine AA 221 [] [] [(.pointer (some ⟨g,0,none⟩)),(Ay a1 1 5),vv] Z Z Hu Aa (IH2 dd12 oM _ S g pp dp (n) (s26) (c26) (p) (Ay a1 1 5) (ex.kids.getD 1 Ex.zero) vv (env) (fun b hb=>(by have:=hS b hb;omega:b<w26.heap.size)) hgS c3 (hp.chg (B5 (AU dp)) (a5.sub (AX hgS))) oM oM oM (RN.ptr (Aw dd12) (by decide) Ex.zero (a3.rn.chg (An (Aw dd12)) (a5.sub (AX hgS))) sD) (henv.chg g2 (a5.sub (AX hgS))) hqenv (by exact hvp) oM II (by exact hse) (by have:=Dh (l:=ex.kids) (k:=1) oM;omega)) ?_
        rintro e33 w33 ⟨v33,x33,s33,c33,rfl,bc,da,db,c6,eq,er,es⟩
        refine⟨_,rfl,?_⟩
        have et:=bc.size
        have dc:Au [g] w w33:=a5.trans bc
        have is:=ap.run g1 hgS bc
        have eu:=c6.1
        exact Ac 1 Z (A1 (Al (AC (Al (Af [6] Z v33 Z ⟨v33,x33,s33,c33,rfl,dc,da,db,(by assumption),oM,oM,Tv⟩)))))
       ·refine Am false Z Z (A6 c5) Aa (Aj (Ah Z (A2 (A0 (Ab _ [0,0,0,0,2,0,0,4,0] Z (Ad 2 Z (AN (hex.isPtr) Z Aa (AJ (p:=ve) 4 B9 Z (a2 _ (a5.sub (AX hgS))) Aa (Ai (p:=(Ap ve 4)) (.inr Z) a1 Bd Z ((a2 _ (a5.sub (AX hgS))).ld (i:=4) E2) Aa ?_)))))))))
        refine AB (v:=a1) 2 D1 Bk Z Z a3.rn.isSl Z sD Aa (Ad 1 Z ?_)
        refine AA 221 [] [] [(.pointer (some ⟨g,0,none⟩)),(Ay a1 2 5),vv] Z Z Hu Aa (IH2 dd12 oM _ S g pp dp (n) (s26) (c26) (p) (Ay a1 2 5) (ex.kids.getD 2 Ex.zero) vv (env) (fun b hb=>(by have:=hS b hb;omega:b<w26.heap.size)) hgS c3 (hp.chg (B5 (AU dp)) (a5.sub (AX hgS))) oM oM oM (RN.ptr (Aw dd12) (by decide) Ex.zero (a3.rn.chg (An (Aw dd12)) (a5.sub (AX hgS))) sD) (henv.chg g2 (a5.sub (AX hgS))) hqenv (by exact hvp) oM II (by exact hse) (by have:=Dh (l:=ex.kids) (k:=2) oM;omega)) ?_
        rintro e39 w39 ⟨v39,x39,s39,c39,rfl,bd,dd,de,c8,ev,ew,ey⟩
        refine⟨_,rfl,?_⟩
        have ez:=bd.size
        have df:Au [g] w w39:=a5.trans bd
        have it:=ap.run g1 hgS bd
        have g0:=c8.1
        exact Ac 1 Z (A1 (AC (Al (Af [6] Z v39 Z ⟨v39,x39,s39,c39,rfl,df,dd,de,(by assumption),oM,oM,Tv⟩))))
      ·refine Am false Z Z (A6 bx) Aa (Ac 1 Z (Ah Z (A0 (Ab _ [0,0] Z ?_))))
       by_cases c9:ex.kind=((9:Nat):Int)
       ·refine Am true Z Z (A5 c9) Aa (Ac 1 Z (Ag Z (A0 (Ab _ [0,0,0,0,2,0,0,4,0] Z ?_))))
        have hwk:=OF hwf oM
        refine Ad 2 Z (AN (hex.isPtr) Z Aa (AJ (p:=ve) 4 B9 Z (a2 _ (a0.sub (AX hgS))) Aa (Ai (p:=(Ap ve 4)) (.inr Z) a1 Bd Z ((a2 _ (a0.sub (AX hgS))).ld (i:=4) E2) Aa (AB (v:=a1) 0 D1 Bk Z Z a3.rn.isSl Z sD Aa (Ad 1 Z ?_)))))
        refine AA 221 [] [] [(.pointer (some ⟨g,0,none⟩)),(Ay a1 0 5),vv] Z Z Hu Aa (IH2 dd12 oM _ S g pp dp (n) (s0+1) (c0) (p) (Ay a1 0 5) (ex.kids.getD 0 Ex.zero) vv (env) (fun b hb=>(by have:=hS b hb;omega:b<w11.heap.size)) hgS a7 (hp.chg (B5 (AU dp)) (a0.sub (AX hgS))) oM oM oM (RN.ptr (Aw dd12) (by decide) Ex.zero (a3.rn.chg (An (Aw dd12)) (a0.sub (AX hgS))) sD) (henv.chg g2 (a0.sub (AX hgS))) hqenv (by exact hvp) oM II (by exact hse) Nd) ?_
        rintro e46 w46 ⟨v46,x46,s46,c46,rfl,ca,dg,cb,cc,g3,g4,g5⟩
        refine⟨_,rfl,?_⟩
        have g6:=ca.size
        have aq:Au [g] w w46:=a0.trans ca
        have g7:=cc.1
        refine Ac 1 Z (A0 (AO _ [0,0,0,0,1,0,0,0,3,4,0] mixed (by kernel_rfl) (Ad 2 Z (AN (hex.isPtr) Z Aa (AJ (p:=ve) 4 B9 Z (a2 _ (aq.drew.sub (AX hgS))) Aa (Ai (p:=(Ap ve 4)) (.inl Z) a1 Bd Z ((a2 _ (aq.drew.sub (AX hgS))).ld (i:=4) E2) Aa (AB (v:=a1) 1 D1 Bk Z Z a3.rn.isSl Z sD Aa (Ad 2 Z ?_))))))))
        refine As 251 [] [] [vv,v46] Z Z Zf Aa (M1 _ S vv (env) v46 (x46) (fun b hb=>(by have:=hS b hb;omega:b<w46.heap.size)) (henv.chg g2 (aq.drew.sub (AX hgS))) hqenv cb oM) ?_
        rintro e51 w51 ⟨v51,rfl,ab,cd,ce⟩
        refine⟨_,rfl,ab,?_⟩
        replace ab:=ab.of_drew
        have g8:=ab.size
        have be:Au [g] w w51:=aq.ext ab
        have ar:=dg.ext ab
        have dh:=cb.ext g1 ab
        refine AA 221 [] [] [(.pointer (some ⟨g,0,none⟩)),(Ay a1 1 5),v51] Z Z Hu Aa (IH2 dd12 oM _ S g pp dp (n) (s46) (c46) (p) (Ay a1 1 5) (ex.kids.getD 1 Ex.zero) v51 (env++[x46]) (fun b hb=>(by have:=hS b hb;omega:b<w51.heap.size)) hgS ar (hp.chg (B5 (AU dp)) (be.sub (AX hgS))) oM oM oM (RN.ptr (Aw dd12) (by decide) Ex.zero (a3.rn.chg (An (Aw dd12)) (be.sub (AX hgS))) sD) cd ce (by exact hvp) oM (by have h9:=JA hwf oM oM;rw[List.length_append,List.length_singleton];exact h9) (by exact hse.snoc (by assumption)) (by have:=Dh (l:=ex.kids) (k:=1) oM;rw[List.length_append,List.length_singleton];omega)) ?_
        rintro e53 w53 ⟨v53,x53,s53,c53,rfl,au,di,dj,cf,g9,ga,gb⟩
        refine⟨_,rfl,?_⟩
        have gc:=au.size
        have dk:Au [g] w w53:=be.trans au
        have iu:=dh.run g1 hgS au
        have iv:=cd.run g2 hgS au
        have gd:=cf.1
        exact Ac 1 Z (A1 (AC (Al (Af [6] Z v53 Z ⟨v53,x53,s53,c53,rfl,dk,di,dj,(by assumption),oM,oM,(by exact Em hc00 hs1 oM oM ‹AH (go c0 (Cn _ _ (ex.kids.getD 0 _) _ _)) _ _ _› (by assumption))⟩))))
       ·refine Am false Z Z (A6 c9) Aa (Ac 1 Z (Ah Z (A0 (A0 (Ab _ [0,0] Z ?_)))))
        by_cases cg:ex.kind=((10:Nat):Int)
        ·refine Am true Z Z (A5 cg) Aa (Ac 1 Z (Ag Z (A2 (Ag Z (A0 (Ab _ [0,0,0,4,0] Z (Ad 3 Z (AA 252 [] [] [(.pointer (some ⟨g,0,none⟩)),ve,vv] Z Z VE Aa (Tu F dex IH1 IH2 _ S g pp dp (n) (s0+1) (c0) (p) ve (ex) vv (env) (fun b hb=>(by have:=hS b hb;omega:b<w11.heap.size)) hgS a7 (hp.chg (B5 (AU dp)) (a0.sub (AX hgS))) oM oM oM (hex.chg (B5 (Aw dex)) (a0.sub (AX hgS))) (henv.chg g2 (a0.sub (AX hgS))) hqenv (by exact hvp) oM (by exact hwf) (by exact hse) oM oM) ?_))))))))
         rintro e61 w61 ⟨v61,x61,s61,c61,rfl,ch,dl,dm,ci,ge,gf,gg⟩
         refine⟨_,rfl,?_⟩
         have gh:=ch.size
         have dn:Au [g] w w61:=a0.trans ch
         have gi:=ci.1
         exact Ac 1 Z (A1 (AC (Al (Af [6] Z v61 Z ⟨v61,x61,s61,c61,rfl,dn,dl,dm,(by assumption),oM,oM,(by exact Ml hc00 hs1 oM (by assumption))⟩))))
        ·refine Am false Z Z (A6 cg) Aa (Ac 1 Z (Ah Z (Ab _ [0,0] Z ?_)))
         by_cases cj:ex.kind=((11:Nat):Int)
         ·refine Am true Z Z (A5 cj) Aa (Ac 1 Z (Ag Z (A0 (Ab _ [0,0,0,4,0] Z (Ad 3 Z (AA 252 [] [] [(.pointer (some ⟨g,0,none⟩)),ve,vv] Z Z VE Aa (Tu F dex IH1 IH2 _ S g pp dp (n) (s0+1) (c0) (p) ve (ex) vv (env) (fun b hb=>(by have:=hS b hb;omega:b<w11.heap.size)) hgS a7 (hp.chg (B5 (AU dp)) (a0.sub (AX hgS))) oM oM oM (hex.chg (B5 (Aw dex)) (a0.sub (AX hgS))) (henv.chg g2 (a0.sub (AX hgS))) hqenv (by exact hvp) oM (by exact hwf) (by exact hse) oM oM) ?_))))))
          rintro e67 w67 ⟨v67,x67,s67,c67,rfl,ck,dq,dr,cl,gj,gk,gl⟩
          refine⟨_,rfl,?_⟩
          have gm:=ck.size
          have ds:Au [g] w w67:=a0.trans ck
          have gn:=cl.1
          exact Ac 1 Z (A1 (AC (Al (Af [6] Z v67 Z ⟨v67,x67,s67,c67,rfl,ds,dq,dr,(by assumption),oM,oM,(by exact Ml hc00 hs1 oM (by assumption))⟩))))
         ·refine Am false Z Z (A6 cj) Aa (Ac 1 Z (Ah Z (A2 (A0 (Ab _ [0,0,0,0,2,0,0,4,0] Z ?_)))))
          have hkk:ex.kind=3∨ex.kind=4∨ex.kind=5∨ex.kind=6:=Xe hwf oM
          have j4:ex.kids.length=2:=JB hwf hkk
          have j5:=Dh (l:=ex.kids) (k:=0) oM
          have j6:=Dh (l:=ex.kids) (k:=1) oM
          refine Ad 2 Z (AN (hex.isPtr) Z Aa (AJ (p:=ve) 4 B9 Z (a2 _ (a0.sub (AX hgS))) Aa (Ai (p:=(Ap ve 4)) (.inr Z) a1 Bd Z ((a2 _ (a0.sub (AX hgS))).ld (i:=4) E2) Aa (AB (v:=a1) 0 D1 Bk Z Z a3.rn.isSl Z sD Aa (Ad 1 Z ?_)))))
          refine AA 221 [] [] [(.pointer (some ⟨g,0,none⟩)),(Ay a1 0 5),vv] Z Z Hu Aa (IH2 dd12 oM _ S g pp dp (n) (s0+1) (c0) (p) (Ay a1 0 5) (ex.kids.getD 0 Ex.zero) vv (env) (fun b hb=>(by have:=hS b hb;omega:b<w11.heap.size)) hgS a7 (hp.chg (B5 (AU dp)) (a0.sub (AX hgS))) oM oM oM (RN.ptr (Aw dd12) (by decide) Ex.zero (a3.rn.chg (An (Aw dd12)) (a0.sub (AX hgS))) sD) (henv.chg g2 (a0.sub (AX hgS))) hqenv (by exact hvp) oM II (by exact hse) Nd) ?_
          rintro e72 w72 ⟨v72,x72,s72,c72,rfl,cm,dt,du,b3,gp,gq,cn⟩
          refine⟨_,rfl,?_⟩
          have gr:=cm.size
          have af:Au [g] w w72:=a0.trans cm
          have gs:=b3.1
          have hra:=cn
          have co:=b3
          refine Ac 1 Z (A0 (Ab _ [0,0,0,0,2,0,0,4,0] Z (Ad 2 Z (AN (hex.isPtr) Z Aa (AJ (p:=ve) 4 B9 Z (a2 _ (af.sub (AX hgS))) Aa (Ai (p:=(Ap ve 4)) (.inr Z) a1 Bd Z ((a2 _ (af.sub (AX hgS))).ld (i:=4) E2) Aa (AB (v:=a1) 1 D1 Bk Z Z a3.rn.isSl Z sD Aa (Ad 1 Z ?_))))))))
          refine AA 221 [] [] [(.pointer (some ⟨g,0,none⟩)),(Ay a1 1 5),vv] Z Z Hu Aa (IH2 dd12 oM _ S g pp dp (n) (s72) (c72) (p) (Ay a1 1 5) (ex.kids.getD 1 Ex.zero) vv (env) (fun b hb=>(by have:=hS b hb;omega:b<w72.heap.size)) hgS dt (hp.chg (B5 (AU dp)) (af.sub (AX hgS))) oM oM oM (RN.ptr (Aw dd12) (by decide) Ex.zero (a3.rn.chg (An (Aw dd12)) (af.sub (AX hgS))) sD) (henv.chg g2 (af.sub (AX hgS))) hqenv (by exact hvp) oM II (by exact hse) (by have:=Dh (l:=ex.kids) (k:=1) oM;omega)) ?_
          rintro e77 w77 ⟨v77,x77,s77,c77,rfl,bf,ac,a6,b4,gt,gu,cp⟩
          refine⟨_,rfl,?_⟩
          have gv:=bf.size
          have a4:Au [g] w w77:=af.trans bf
          have a8:=du.run g1 hgS bf
          have cq:=b4.1
          have hrb:=cp
          have j7:=b4
          have hlb:=cq
          have hzz:x77.getD 0 0=0∨¬x77.getD 0 0=0:=Decidable.em _
          refine Ac 1 Z (A0 (A3 (A0 (Ab _ [0,0,0,2,0,0] Z (Ad 1 Z (AN (hex.isPtr) Z Aa (AJ (p:=ve) 0 Bf Z (a2 _ (a4.sub (AX hgS))) Aa (Ai (p:=(Ap ve 0)) (.inr Z) (.int .i64 ex.kind) AD Z ((a2 _ (a4.sub (AX hgS))).ld (i:=0) E2) Aa ?_))))))))
          by_cases cr:ex.kind=((3:Nat):Int)
          ·refine Am true Z Z (A5 cr) Aa (Ac 1 Z (Ag Z (A0 (Ab _ [0,0,3,0] Z (Ad 2 Z (As 253 [] [] [v72,v77] Z Z VF Aa (Ig _ _ _ _ _ (a8).rd (a6).rd oM oM) ?_))))))
           rintro e84 w84 ⟨b5,rfl,ag,bg⟩
           refine⟨_,rfl,ag,?_⟩
           have gw:=ag.size
           have dv:Au [g] w w84:=a4.ext ag
           have av:=ac.ext ag
           have iw:=a8.ext g1 ag
           have ix:=a6.ext g1 ag
           exact Ac 1 Z (A1 (AC (Al (Af [6] Z b5 Z ⟨b5,Ce x72 x77,s77,c77,rfl,dv,av,(RN.of_fr1 bg (fun b hb=>by have:=hS b hb;omega)),(by exact Gk co),oM,oM,(by exact GK hc00 hs1 oM (JJ oM hra hrb) (fun h0=>by rw[h0];exact FQ oM) (fun _=>rfl))⟩))))
          ·refine Am false Z Z (A6 cr) Aa (Ac 1 Z (Ah Z (A0 (Ab _ [0,0,0,2,0,0] Z (Ad 1 Z (AN (hex.isPtr) Z Aa (AJ (p:=ve) 0 Bf Z (a2 _ (a4.sub (AX hgS))) Aa (Ai (p:=(Ap ve 0)) (.inr Z) (.int .i64 ex.kind) AD Z ((a2 _ (a4.sub (AX hgS))).ld (i:=0) E2) Aa ?_))))))))
           by_cases cs:ex.kind=((4:Nat):Int)
           ·refine Am true Z Z (A5 cs) Aa (Ac 1 Z (Ag Z (A0 (Ab _ [0,0,3,0] Z (Ad 2 Z (As 254 [] [] [v72,v77] Z Z Zg Aa (LY _ _ _ _ _ (a8).rd (a6).rd oM oM oM) ?_))))))
            rintro e88 w88 ⟨b6,rfl,ah,bh⟩
            refine⟨_,rfl,ah,?_⟩
            have gx:=ah.size
            have dw:Au [g] w w88:=a4.ext ah
            have aw:=ac.ext ah
            have iy:=a8.ext g1 ah
            have iz:=a6.ext g1 ah
            exact Ac 1 Z (A1 (AC (Al (Af [6] Z b6 Z ⟨b6,EP x72 x77,s77,c77,rfl,dw,aw,(RN.of_fr1 bh (fun b hb=>by have:=hS b hb;omega)),(by exact KP co),oM,oM,(by exact GK hc00 hs1 oM (JJ oM hra hrb) (fun h0=>by rw[h0];exact FR oM) (fun _=>rfl))⟩))))
           ·refine Am false Z Z (A6 cs) Aa (Ac 1 Z (Ah Z (A0 (Ab _ [0,0,0,2,0,0] Z (Ad 1 Z (AN (hex.isPtr) Z Aa (AJ (p:=ve) 0 Bf Z (a2 _ (a4.sub (AX hgS))) Aa (Ai (p:=(Ap ve 0)) (.inr Z) (.int .i64 ex.kind) AD Z ((a2 _ (a4.sub (AX hgS))).ld (i:=0) E2) Aa ?_))))))))
            by_cases ct:ex.kind=((5:Nat):Int)
            ·refine Am true Z Z (A5 ct) Aa (Ac 1 Z (Ag Z (A0 (Ab _ [0,0,3,0] Z (Ad 2 Z (As 255 [] [] [v72,v77] Z Z Zh Aa (LZ _ _ _ _ _ (a8).rd (a6).rd oM oM) ?_))))))
             rintro e92 w92 ⟨b7,rfl,ai,bi⟩
             refine⟨_,rfl,ai,?_⟩
             have gy:=ai.size
             have dx:Au [g] w w92:=a4.ext ai
             have ax:=ac.ext ai
             have j0:=a8.ext g1 ai
             have j1:=a6.ext g1 ai
             exact Ac 1 Z (A1 (AC (Al (Af [6] Z b7 Z ⟨b7,Cc x72 x77,s77,c77,rfl,dx,ax,(RN.of_fr1 bi (fun b hb=>by have:=hS b hb;omega)),(by exact Gl co),oM,oM,(by exact GK hc00 hs1 oM (JJ oM hra hrb) (fun h0=>by rw[h0];exact FS oM) (fun _=>rfl))⟩))))
            ·refine Am false Z Z (A6 ct) Aa (Ac 1 Z (Ah Z (A0 (Ab _ [0,0,0,2,0,0,0,0,2,0,0,0] Z (Ad 1 Z (AY Z Aa (Ak (p:=(.pointer (some ⟨g,0,none⟩))) (b:=g) (o:=0) 3 GP Z Z Aa (Ai (p:=(Ap (.pointer (some ⟨g,0,none⟩)) 3)) (.inr Z) (.int .i64 c77) AD Z (ac.ldp (i:=3) sM) Aa ?_))))))))
             by_cases cu:c77≠((0:Nat):Int)
             ·refine AT true Z Z (A5 cu) Aa (Ac 7 Z (Ag Z (A0 (Ab _ [0,4,0] Z (Ad 1 Z (AA 250 [] [] [(.pointer (some ⟨g,0,none⟩)),(.int .i64 ((6:Nat):Int))] Z Z Qp Aa (CY _ S g pp dp (n) (s77) (c77) (p) (((6:Nat):Int)) (fun b hb=>(by have:=hS b hb;omega:b<w77.heap.size)) hgS ac (hp.chg (B5 (AU dp)) (a4.sub (AX hgS))) oM oM oM oM oM) ?_))))))
              rintro e96 w96 ⟨v96,x96,s96,c96,rfl,ay,dy,dz,cv,gz,i0,b8⟩
              refine⟨_,rfl,?_⟩
              have i1:=ay.size
              have e0:Au [g] w w96:=a4.trans ay
              have i2:=a8.run g1 hgS ay
              have i3:=a6.run g1 hgS ay
              have i4:=cv.1
              have hfs:=b8.1
              have hff:=b8.2
              exact Ac 1 Z (A1 (AC (Al (Af [6] Z v96 Z ⟨v96,x96,s96,c96,rfl,e0,dy,dz,(by assumption),oM,oM,(by rw[hfs];exact GK hc00 hs1 oM (JJ oM hra hrb) (fun h0=>absurd h0 oM) (fun h0=>by rw[hff,if_neg h0]))⟩))))
             ·refine AT false Z Z (A6 cu) Aa (Ad 2 Z (AB (v:=v77) 0 Bt BT Z Z a6.slL Z (by rw[hlb];omega) (Ae (e:=175) Z Z Z) ?_))
              have cw:=RN.getI (w:=w77) (k:=0) a6 (by rw[hlb];omega)
              refine Ai (p:=Ay v77 0 1) (.inr Z) (.int .i64 (x77.getD 0 0)) AD Z (cw.1 _ (Au.refl _ _)) (Ae (e:=175) Z Z Z) ?_
              by_cases b9:x77.getD 0 0=((0:Nat):Int)
              ·refine Am true Z Z (A5 b9) (Ae (e:=175) Z Z Z) (Ac 2 Z (Ag Z (A0 (Ab _ [0,4,0] Z (Ad 1 Z (AA 250 [] [] [(.pointer (some ⟨g,0,none⟩)),(.int .i64 ((6:Nat):Int))] Z Z Qp Aa (CY _ S g pp dp (n) (s77) (c77) (p) (((6:Nat):Int)) (fun b hb=>(by have:=hS b hb;omega:b<w77.heap.size)) hgS ac (hp.chg (B5 (AU dp)) (a4.sub (AX hgS))) oM oM oM oM oM) ?_))))))
               rintro e105 w105 ⟨v105,x105,s105,c105,rfl,ad,cx,cy,bj,e1,e3,ak⟩
               refine⟨_,rfl,?_⟩
               have e4:=ad.size
               have cz:Au [g] w w105:=a4.trans ad
               have i5:=a8.run g1 hgS ad
               have i6:=a6.run g1 hgS ad
               have e5:=bj.1
               have hfs:=ak.1
               have hff:=ak.2
               exact Ac 1 Z (A1 (AC (Al (Af [6] Z v105 Z ⟨v105,x105,s105,c105,rfl,cz,cx,cy,(by assumption),oM,oM,(by rw[hfs];exact GK hc00 hs1 oM (JJ oM hra hrb) (fun h0=>by rw[hff,if_pos h0];exact En (xs:=[_,_]) oM (hzz.resolve_right oM)) (fun h0=>by rw[hff,if_neg h0]))⟩))))
              ·refine Am false Z Z (A6 b9) (Ae (e:=175) Z Z Z) (Ac 2 Z (Ah Z (A2 (A0 (Ab _ [0,0,3,0] Z (Ad 2 Z (As 256 [] [] [v72,v77] Z Z Zi Aa (M0 _ _ _ _ _ (a8).rd (a6).rd oM oM oM (by exact co.2)) ?_)))))))
               rintro e112 w112 ⟨al,rfl,a9,az⟩
               refine⟨_,rfl,a9,?_⟩
               have e6:=a9.size
               have d0:Au [g] w w112:=a4.ext a9
               have am:=ac.ext a9
               have i7:=a8.ext g1 a9
               have i8:=a6.ext g1 a9
               exact Ac 1 Z (A1 (Af [6] Z al Z ⟨al,BM x72 x77,s77,c77,rfl,d0,am,(RN.of_fr1 az (fun b hb=>by have:=hS b hb;omega)),(by exact Ff co),oM,oM,(by exact GK hc00 hs1 oM (JJ oM hra hrb) (fun h0=>by rw[h0];exact FU (xs:=[_,_]) oM (hzz.resolve_left oM)) (fun _=>rfl))⟩))
end
section
set_option maxHeartbeats 4000000
set_option maxRecDepth 100000
attribute [local irreducible] LW
theorem UL:∀F d,SV F d:=by
  intro F
  induction F using Nat.strongRecOn with
  |_ F ihF =>
    intro d
    induction d using Nat.strongRecOn with
    |_ d ihd =>
      intro w S g pp dp n s0 c0 p ve ex vv env hS hgS hB0 hp hn hs0 hc0 hex henv hqenv hvp hF hwf hse hdp
      exact IJ w S F g pp dp n s0 c0 p d ve ex vv env hS hgS hB0 hp hn hs0 hc0 hex henv hqenv hvp hF hwf hse hdp ihF ihd
theorem XW (F:Nat):SO F:=Ts F fun d=>UL F d
theorem VP {p:Prop}(h:p:=by unfold maxLen;first|omega|assumption|(simp only[List.length_nil,List.length_cons,List.length_append,List.length_set,List.length_replicate];omega)|(simp[List.length_nil,List.length_cons,List.length_append,List.length_set,List.length_replicate];done)|(simp[List.length_nil,List.length_cons,List.length_append,List.length_set,List.length_replicate];omega)):p:=h
theorem LB (w:World)(dp:Nat)(vp:Value)(p:List Fn)(f:Int)(va:Value)(a:List Int)(hp:RN [] (rP (Ki dp)) w.heap vp p)(_hf:Bx f)(ha:Rd (B3 rI) w.heap va a)(hvp:H6 p)(hf:0≤f∧f<((p.length:Nat):Int))(hl:((a.length:Nat):Int)=(p.getD f.toNat Fn.zero).params)(hna:B2 a=true) :
  Calls Tryz.prog 75 #[vp,.int .i64 f,va] w (fun e w'=>∃v0:Value,e=.returned (.tuple #[v0,.int .i64 ((Ok p 1 f.toNat (CO a):Nat):Int),.int .i64 (G8 p f.toNat a)])∧AF w w'∧Fr (Bh rI 2) w.heap.size w'.heap.size w'.heap v0 (Oq p f.toNat a)∧QY p f.toNat a∧Ok p 1 f.toNat (CO a)≤3000):=by
 refine Aq [vp,.int .i64 f,va] 73 Tryz.func75 Z Z sM ?_
 have cb:AF w w:=AF.refl w
 have hl_va:=ha.lenle
 have hpr:=hvp.par f.toNat oM
 have hou:=hvp.outs f.toNat oM
 refine A0 (Ab _ [0,0,0] Z (Ac 3 Z (A0 (Ab _ [0,0,3,0] Z (Ad 1 Z ?_)))))
 have bm:∀(vp:Value) (ap:∃b o,vp=.pointer (some ⟨b,o,none⟩)) (wq:World),(Instr.build 187 #[(0,vp),(1,(.int .i64 ((1:Nat):Int)))]).run Tryz.prog wq=.ok (.agg #[vp,(.int .i64 ((1:Nat):Int)),(.int .i64 0),(.int .i64 0)]) wq:=by intro vp ap wq;obtain⟨b0,o0,rfl⟩:=ap;kernel_rfl
 refine C3 (ps:=#[(0,vp),(1,(.int .i64 ((1:Nat):Int)))]) (.agg #[vp,(.int .i64 ((1:Nat):Int)),(.int .i64 0),(.int .i64 0)]) (by simp only[List.map_toArray,List.map_cons,List.map_nil];rfl) (fun wq=>bm vp hp.isPtr wq) Aa (Bu (cs:=#[vp,(.int .i64 ((1:Nat):Int)),(.int .i64 0),(.int .i64 0)]) Z Aa fun w2 bn ct bo=>?_)
 have bp:=bn.size
 have bq:=cb.trans bn
 replace bo:BX w2.heap w.heap.size [vp,(.int .i64 ((1:Nat):Int)),(.int .i64 0),(.int .i64 0)]:=bo
 refine Ac 1 Z (A0 (Ab _ [3,0] Z (CQ (Bh rI 2) o1 BH B8 Aa fun v3 w3 bj cu cc=>?_)))
 have br:=bj.size
 have cd:=bq.trans bj
 have b3:=bo.ext bj
 refine Ac 1 Z (A0 (A0 (Ab _ [0] Z (Ac 1 Z (A3 ?_)))))
 refine B1 (S:=Nat×Value) (fun⟨k,vo⟩=>([(10,vo),(11,(.int .i64 ((k:Nat):Int))),(0,vp),(1,(.int .i64 f)),(2,va),(9,(.pointer (some ⟨w.heap.size,0,none⟩)))])) (fun⟨k,vo⟩ W=>AF w W∧Fr (Bh (Bh rI 2) 27) w2.heap.size W.heap.size W.heap vo ((a.take k).map (fun x=>[x]))∧BX W.heap w.heap.size [vp,(.int .i64 ((1:Nat):Int)),(.int .i64 0),(.int .i64 0)]∧k≤a.length∧w.heap.size<w2.heap.size∧w2.heap.size≤W.heap.size) (fun⟨k,vo⟩=>a.length-k) (0,v3) ⟨rfl,rfl,rfl,rfl,rfl,rfl,trivial⟩ ⟨cd,cc.up o2,b3,sD,oM,oM⟩ ?_
 clear cb ct bn cc cu bj br cd
 rintro⟨k,vo⟩ ρ5 w5 ⟨ag,a0,a2,ce,cv,cw⟩
 have bs:w.heap.size≤w5.heap.size:=ag.size
 have d9:=a2.lt
 refine A0 (A0 (Ab _ [0,0,0,0] Z (Ad 2 Z (AQ (v:=va) Bt Z ha.isSl Aa ?_))))
 by_cases cf:((k:Nat):Int)<((a.length:Nat):Int)
 ·refine AG true Z Z (A5 cf) Aa (Aj (Ag Z (A2 (A0 (A3 (Ab _ [0,0,0,0,2,3,3,4,0] Z (Ad 3 Z (AB (v:=va) k Bt BT Z Z ha.isSl Z sD Aa ?_))))))))
  refine Ai (p:=Ay va k 1) (.inr Z) (.int .i64 (a.getD k 0)) AD Z (AZ ag (ha.getI sD).1) Aa ?_
  refine BI (u:=(.int .i64 (a.getD k 0))) (B:=w5.heap.size) AR Bt BT Z Z (Ov w5.heap.size w5.heap.size _ _ (ha.getI sD).2) (A7 _) Aa fun v9 w9 bk da cx=>?_
  have cy:=bk.size
  have cz:=ag.trans bk
  have ah:=a0.ext (o2) bk
  have ai:=a2.ext bk
  refine BI (u:=v9) (B:=w5.heap.size) o1 BH B8 Z Z cx (by first|exact A7 _|omega) Aa fun v10 w10 aj d0 bt=>?_
  have cg:=aj.size
  have b4:=cz.trans aj
  have aa:=ah.ext (o2) aj
  have ab:=ai.ext aj
  refine Il o1 (v:=vo) (a:=v10) BH B8 Z Z Z aa oM bt oM oM sD VP Aa fun v11 w11 F11 aw b5 bu=>?_
  have bv:AF w w11:=aw.below b4 (fun c hc=>A8 bq.size (b5 c hc).1) b4.size
  have ch:=aw.size
  have bw:=ab.chg aw (fun hm=>by have:=b5 _ hm;omega)
  refine Ac 1 Z (Ab _ [0,0,0] Z (Ad 1 Z (AP ((k+1:Nat):Int) Z Z (Bl oM sD) Aa (Ac 1 Z ?_))))
  exact⟨((k+1),v11),_,rfl,⟨rfl,rfl,rfl,rfl,rfl,rfl,trivial⟩,⟨bv,(by rw[Hj 0 oM];exact bu.up o2),bw,sD,oM,oM⟩,by first|omega|(dsimp only;omega)⟩
 ·refine AG false Z Z (A6 cf) Aa (Aj (Ah Z (A4 (Ax (Ax (At (A0 (Ab _ [0,0,0,0,2,0,0,0,4,0] Z ?_))))))))
  have henv:(a.take k).map (fun x=>[x])=CO a:=by rw[List.take_of_length_le oM];rfl
  have hle:((a.take k).map (fun x=>[x])).length=a.length:=by rw[henv];unfold CO;rw[List.length_map]
  refine Ad 2 Z (AN (hp.isPtr) Z Aa ?_)
  obtain⟨cs13,bx,b6⟩:=RN.at (AU _) hp
  obtain⟨ak,rfl,ax⟩:=RPr.of bx
  have aq:=ax.lenle
  unfold maxLen at aq
  refine AJ (p:=vp) 0 Bv Z (b6 _ (Au.of_ext [] ag)) Aa (Ai (p:=(Ap vp 0)) (.inr Z) ak BY Z ((b6 _ (Au.of_ext [] ag)).ld (i:=0) (by simp[EX,EY])) Aa (Ad 1 Z (AB (v:=ak) ((f).toNat) Gb Cj Z Z ax.isSl oM sD Aa (Ad 1 Z ?_))))
  refine AA 158 [] [] [(.pointer (some ⟨w.heap.size,0,none⟩)),(Ay ak ((f).toNat) 3),vo] Z Z Vv Aa (XW f.toNat _ [w.heap.size] w.heap.size vp dp (1) (0) (0) (p) dp (Ay ak ((f).toNat) 3) (p.getD ((f).toNat) Fn.zero) vo ((a.take k).map (fun x=>[x])) (fun b hb=>(by have:=A9 hb;omega:b<w5.heap.size)) (List.mem_singleton.2 Z) a2 ((hp.add (F:=[w.heap.size]) (B5 (AU dp)) (fun b hb=>by have:=A9 hb;omega)).ext (B5 (AU dp)) ag) oM oM oM (RN.ptr (Av dp) (by decide) Fn.zero ((ax.add (F:=[w.heap.size]) (An (Av dp)) (fun b hb=>by have:=A9 hb;omega)).ext (An (Av dp)) ag) sD) (RN.of_fr2 a0 (fun b hb=>by have:=A9 hb;omega)) a0.cap (by exact hvp) oM (by intro k9 bz;have h9:=hvp.wf f.toNat oM k9 bz;rw[hle];rw[hl];exact h9) (by rw[henv];exact CJ hna) (by intro k9 bz;have:=hvp.deep f.toNat oM k9 bz;omega) oM) ?_
  rintro e14 w14 ⟨v14,x14,s14,c14,rfl,al,ay,c0,ac,b7,b8,b9⟩
  refine⟨_,rfl,?_⟩
  have ci:=al.size
  have ad:AF w w14:=al.below ag (fun b hb=>by have:b=w.heap.size:=(by simpa using hb);omega) ag.size
  have az:=a0.chg (o2) al (fun c hc=>by have:=A9 hc;omega)
  have ar:=ac.2.1
  have au:=ac.2.2
  have cj:=ac.1
  have av:=c0.rt g2
  have hRL:=b9
  rw[henv]at hRL
  have hCB:=b8
  have hEP:=UT.mk' hRL hCB b7 ar au
  have hNP:=QY.mk' hEP
  have hST:=hEP.steps
  have hXS:=au
  have hXL:=ar
  refine Ac 1 Z (A0 (A0 (Ab _ [0,0,0,2,0] Z (Ad 1 Z (AY Z Aa (Ak (p:=(.pointer (some ⟨w.heap.size,0,none⟩))) (b:=w.heap.size) (o:=0) 3 GP Z Z Aa (Ai (p:=(Ap (.pointer (some ⟨w.heap.size,0,none⟩)) 3)) (.inr Z) (.int .i64 c14) AD Z (ay.ldp (i:=3) sM) Aa ?_)))))))
  by_cases ba:c14≠((0:Nat):Int)
  ·refine AT true Z Z (A5 ba) Aa (Aj (Ag Z (A0 (AO _ [3,0,0,0,1,0,0,0] mixed (by kernel_rfl) (CQ (rI) AR Bt BT Aa fun v20 w20 a4 d1 c1=>?_)))))
   replace a4:=a4.of_drew
   have ck:=a4.size
   have c2:=ad.trans a4
   have bl:=az.ext (o2) a4
   have d2:=av.ext g2 a4
   exact Ad 1 Z (AY Z Aa (Ak (p:=(.pointer (some ⟨w.heap.size,0,none⟩))) (b:=w.heap.size) (o:=0) 3 GP Z Z Aa (Ai (p:=(Ap (.pointer (some ⟨w.heap.size,0,none⟩)) 3)) (.inl Z) (.int .i64 c14) AD Z (ay.ldp (i:=3) sM) Aa (Ac 3 Z (A1 (Al (Af [6,7,8] Z (.tuple #[v20,(.int .i64 ((0:Nat):Int)),(.int .i64 c14)]) Z ⟨v20,(by rw[PI (Iu hRL oM),show G8 p f.toNat a=_ from Hq (Iu hRL oM)] <;> rfl),c2,(by rw[hNP.non (by rw[show G8 p f.toNat a=_ from Hq (Iu hRL oM)];omega)];exact(c1.up o1).low ad.size),hNP,hST⟩)))))))
  ·refine AT false Z Z (A6 ba) Aa (Aj (Ah Z (A2 (A0 (Ab _ [3,0] Z (CQ (rI) AR Bt BT Aa fun v22 w22 a5 c3 bb=>?_))))))
   have bc:=a5.size
   have bd:=ad.trans a5
   have am:=az.ext (o2) a5
   have an:=ay.ext a5
   have d3:=av.ext g2 a5
   refine Ac 1 Z (A0 (A0 (Ab _ [0] Z (Ac 1 Z (A3 ?_)))))
   refine B1 (S:=Nat×Value) (fun⟨k,vo⟩=>([(13,vo),(14,(.int .i64 ((k:Nat):Int))),(9,(.pointer (some ⟨w.heap.size,0,none⟩))),(12,v14)])) (fun⟨k,vo⟩ W=>AF w W∧Fr (Bh rI 2) w14.heap.size W.heap.size W.heap vo (((x14).take k).map (fun s=>s.getD 0 0))∧BX W.heap w.heap.size [vp,(.int .i64 ((1:Nat):Int)),(.int .i64 ((s14:Nat):Int)),(.int .i64 c14)]∧k≤(x14).length∧RT w14.heap.size (B3 (B3 rI)) W.heap v14 x14∧w14.heap.size≤W.heap.size∧w.heap.size<w14.heap.size∧w14.heap.size≤w14.heap.size∧w14.heap.size≤W.heap.size) (fun⟨k,vo⟩=>(x14).length-k) (0,v22) ⟨rfl,rfl,rfl,rfl,trivial⟩ ⟨bd,bb.up o1,an,sD,(by assumption),oM,oM,oM,oM⟩ ?_
   clear bp bq a2 a0 ag bs aq al az bb c3 a5 bc bd am
   rintro⟨k,vo⟩ ρ28 w28 ⟨b1,ae,a1,c4,a3,cl,cm,cn,co⟩
   have cp:w.heap.size≤w28.heap.size:=b1.size
   have d4:=a1.lt
   refine A0 (A0 (Ab _ [0,0,0,0] Z (Ad 2 Z (AQ (v:=v14) BH Z a3.slL Aa ?_))))
   by_cases be:((k:Nat):Int)<((x14.length:Nat):Int)
   ·refine AG true Z Z (A5 be) Aa (Aj (Ag Z (A2 (A0 (A3 (Ab _ [0,0,0,0,2,0,2,3,4,0] Z ?_))))))
    have hkx:=hXS k oM
    have hkl:=hkx.1
    refine Ad 3 Z (AB (v:=v14) k BH B8 Z Z a3.slL Z sD Aa ?_)
    obtain⟨b2,c5,ao⟩:=RT.getL g1 [] (k:=k) a3 sD
    have bf:=ao.lenL
    unfold maxLen at bf
    refine Ai (p:=Ay v14 k 1) (.inr Z) b2 Bj Z c5 Aa (AB (v:=b2) 0 Bt BT Z Z ao.slL Z sD Aa ?_)
    have bg:=RT.getI (k:=0) ao sD
    refine Ai (p:=Ay b2 0 1) (.inr Z) (.int .i64 ((x14.getD k []).getD 0 0)) AD Z bg.1 Aa (BI (u:=(.int .i64 ((x14.getD k []).getD 0 0))) (B:=w28.heap.size) AR Bt BT Z Z (Ov w28.heap.size w28.heap.size _ _ bg.2) (A7 _) Aa fun v34 w34 a6 d5 bh=>?_)
    have cq:=a6.size
    have bi:=b1.trans a6
    have a7:=ae.ext (o1) a6
    have a8:=a1.ext a6
    have c6:=a3.ext g2 a6
    have c7:=ao.ext g1 a6
    refine FO (v:=vo) (a:=v34) Bt BT Z Z Z a7 oM bh.rd1 sD VP Aa fun v37 w37 F37 a9 af c8=>?_
    have c9:AF w w37:=a9.below bi (fun c hc=>A8 ad.size (af c hc).1) bi.size
    have cr:=a9.size
    have d6:=c6.chg g2 a9 (fun c hc=>by have:=af c hc;omega)
    have d7:=c7.chg g1 a9 (fun c hc=>by have:=af c hc;omega)
    have ca:=a8.chg a9 (fun hm=>by have:=af _ hm;omega)
    have d8:=bh.chg (o1) a9 (fun c hc=>by have:=af c hc;omega)
    refine Ac 1 Z (Ab _ [0,0,0] Z (Ad 1 Z (AP ((k+1:Nat):Int) Z Z (Bl oM sD) Aa (Ac 1 Z ?_))))
    exact⟨((k+1),v37),_,rfl,⟨rfl,rfl,rfl,rfl,trivial⟩,⟨c9,(by rw[Hj [] oM];exact c8.up o1),ca,sD,(by assumption),oM,oM,oM,oM⟩,by first|omega|(dsimp only;omega)⟩
   ·refine AG false Z Z (A6 be) Aa (Aj (Ah Z (A4 (Ax (Ax (At (A0 (AO _ [0,0,0,0,1,0,0,0] mixed (by kernel_rfl) (Ad 2 Z (AY Z Aa (Ak (p:=(.pointer (some ⟨w.heap.size,0,none⟩))) (b:=w.heap.size) (o:=0) 2 KF Z Z Aa (Ai (p:=(Ap (.pointer (some ⟨w.heap.size,0,none⟩)) 2)) (.inl Z) (.int .i64 ((s14:Nat):Int)) AD Z (a1.ldp (i:=2) sM) Aa (Ac 3 Z (A1 ?_))))))))))))))
    exact Af [6,7,8] Z (.tuple #[vo,(.int .i64 ((s14:Nat):Int)),(.int .i64 ((0:Nat):Int))]) Z ⟨vo,(by rw[PH (KR hRL oM),show G8 p f.toNat a=_ from KS (KR hRL oM)] <;> rfl),b1.drew,(by have h:=(ae.up o1).low ad.size;unfold Oq;rw[Jb (KR hRL oM)];rwa [List.take_of_length_le oM]at h),hNP,hST⟩
theorem bR {p:List Fn}{f:Int}(h:(decide (((0:Nat):Int)≤f) && decide (f≤((p.length:Nat):Int)-1))=false):Mm p f=false:=by
  have h':E7 f 0 (((p.length:Nat):Int)-1)=false:=h
  unfold Mm;rw[h',Bool.false_and]
theorem ZG {p:List Fn}{f:Int}(h:(decide (((0:Nat):Int)≤f) && decide (f≤((p.length:Nat):Int)-1))=true){b:Bool}(hb:b=(decide (1≤(p.getD f.toNat Fn.zero).params) && decide ((((p.getD f.toNat Fn.zero).outs.length:Nat):Int)=(p.getD f.toNat Fn.zero).params))):Mm p f=b:=by
  have h':E7 f 0 (((p.length:Nat):Int)-1)=true:=h
  unfold Mm;rw[h',hb,Bool.true_and]
theorem P9 {p:Prop}(h:p:=by first|exact AI (bR (CX (by assumption))).symm|exact AI (ZG (Do (by assumption)) (by rw[A5 (show 1≤(p.getD f.toNat Fn.zero).params by omega),Bool.true_and])).symm|exact AI (ZG (Do (by assumption)) (by rw[A6 (show ¬1≤(p.getD f.toNat Fn.zero).params by omega),Bool.false_and])).symm):p:=h
theorem IK {p:Prop}(h:p:=by simp[EX,EY]):p:=h
theorem Kf (w:World)(dp:Nat)(vp:Value)(p:List Fn)(f:Int)(hp:RN [] (rP (Ki dp)) w.heap vp p)(_hf:Bx f)(hz:PJ p) :
  Calls Tryz.prog 139 #[vp,.int .i64 f] w (fun e w'=>e=.returned (.bool (Mm p f))∧AF w w'):=by
 refine Aq [vp,.int .i64 f] 43 Tryz.func139 Z Z sM ?_
 have a0:AF w w:=AF.refl w
 refine A0 (Ab _ [0] Z (Ac 1 Z (A0 (A0 (Ab _ [0,0,0,0,2,0,0,0,0] Z (Ad 2 Z (AN (hp.isPtr) Z Aa ?_)))))))
 obtain⟨cs1,ab,a2⟩:=RN.at (AU _) hp
 obtain⟨a1,rfl,a3⟩:=RPr.of ab
 have a5:=a3.lenle
 unfold maxLen at a5
 refine AJ (p:=vp) 0 Bv Z (a2 _ (Au.of_ext [] a0)) Aa (Ai (p:=(Ap vp 0)) (.inr Z) a1 BY Z ((a2 _ (Au.of_ext [] a0)).ld (i:=0) IK) Aa (AQ (v:=a1) Gb Z a3.isSl Aa (Bs (((p.length:Nat):Int)-1) Z Z (Da oM oM) Aa (Az 74 [] [] [(.int .i64 f),(.int .i64 ((0:Nat):Int)),(.int .i64 (((p.length:Nat):Int)-1))] Z Z IA Aa (.bool (decide (((0:Nat):Int)≤f) && decide (f≤(((p.length:Nat):Int)-1)))) (fun wq=>Bw wq _ _ _ _hf oM oM) (Bn (!(decide (((0:Nat):Int)≤f) && decide (f≤(((p.length:Nat):Int)-1)))) Z Z Aa (Aj ?_))))))
 cases a7:(!(decide (((0:Nat):Int)≤f) && decide (f≤(((p.length:Nat):Int)-1))))
 ·refine Ah (by first|rfl|(show Value.bool _=_;rw[a7])) (A2 (A0 (AO _ [0,0,0,1,0,0,0,1,0,0,0,0,0,1,0,0,0,1,0,0,0,0,1,0,0,0,1,0,0,0] mixed (by kernel_rfl) ?_)))
  have ad:=HB (Do (by assumption):(decide (((0:Nat):Int)≤f) && decide (f≤((p.length:Nat):Int)-1))=true)
  refine Ad 1 Z (AN (hp.isPtr) Z Aa (AJ (p:=vp) 0 Bv Z (a2 _ (Au.of_ext [] a0.drew)) Aa (Ai (p:=(Ap vp 0)) (.inl Z) a1 BY Z ((a2 _ (Au.of_ext [] a0.drew)).ld (i:=0) IK) Aa (Ad 1 Z (AB (v:=a1) ((f).toNat) Gb Cj Z Z a3.isSl oM sD Aa ?_)))))
  obtain⟨cs4,ac,a4⟩:=a3.get (Av dp) Fn.zero (k:=((f).toNat)) sD
  obtain⟨a8,rfl,a9⟩:=RF.of ac
  have a6:=a9.rn.lenle
  unfold maxLen at a6
  refine AJ (p:=Ay a1 ((f).toNat) 3) 1 C2 Z (a4 _ (Au.of_ext [] a0.drew)) Aa (Ai (p:=(Ap (Ay a1 ((f).toNat) 3) 1)) (.inl Z) (.int .i64 ((p.getD ((f).toNat) Fn.zero).params)) AD Z ((a4 _ (Au.of_ext [] a0.drew)).ld (i:=1) IK) Aa ?_)
  by_cases aa:((1:Nat):Int)≤(p.getD ((f).toNat) Fn.zero).params
  ·refine Dv true Z Z (A5 aa) Aa (Ad 2 Z (AN (hp.isPtr) Z (Ae (e:=23) Z Z Z) (AJ (p:=vp) 0 Bv Z (a2 _ (Au.of_ext [] a0.drew)) (Ae (e:=23) Z Z Z) (Ai (p:=(Ap vp 0)) (.inl Z) a1 BY Z ((a2 _ (Au.of_ext [] a0.drew)).ld (i:=0) IK) (Ae (e:=23) Z Z Z) (Ad 1 Z ?_)))))
   refine AB (v:=a1) ((f).toNat) Gb Cj Z Z a3.isSl oM sD (Ae (e:=23) Z Z Z) (AJ (p:=Ay a1 ((f).toNat) 3) 2 BL Z (a4 _ (Au.of_ext [] a0.drew)) (Ae (e:=23) Z Z Z) (Ai (p:=(Ap (Ay a1 ((f).toNat) 3) 2)) (.inl Z) a8 Bd Z ((a4 _ (Au.of_ext [] a0.drew)).ld (i:=2) IK) (Ae (e:=23) Z Z Z) (AQ (v:=a8) D1 Z a9.rn.isSl (Ae (e:=23) Z Z Z) (Ad 1 Z ?_))))
   refine AN (hp.isPtr) Z (Ae (e:=23) Z Z Z) (AJ (p:=vp) 0 Bv Z (a2 _ (Au.of_ext [] a0.drew)) (Ae (e:=23) Z Z Z) (Ai (p:=(Ap vp 0)) (.inl Z) a1 BY Z ((a2 _ (Au.of_ext [] a0.drew)).ld (i:=0) IK) (Ae (e:=23) Z Z Z) (Ad 1 Z (AB (v:=a1) ((f).toNat) Gb Cj Z Z a3.isSl oM sD (Ae (e:=23) Z Z Z) ?_))))
   refine AJ (p:=Ay a1 ((f).toNat) 3) 1 C2 Z (a4 _ (Au.of_ext [] a0.drew)) (Ae (e:=23) Z Z Z) (Ai (p:=(Ap (Ay a1 ((f).toNat) 3) 1)) (.inl Z) (.int .i64 ((p.getD ((f).toNat) Fn.zero).params)) AD Z ((a4 _ (Au.of_ext [] a0.drew)).ld (i:=1) IK) (Ae (e:=23) Z Z Z) (Am (decide (((((p.getD ((f).toNat) Fn.zero).outs).length:Nat):Int)=(p.getD ((f).toNat) Fn.zero).params)) Z Z Z (Ae (e:=23) Z Z Z) (Ac 2 Z (A1 ?_))))
   exact Af [4] Z (.bool (decide (((((p.getD ((f).toNat) Fn.zero).outs).length:Nat):Int)=(p.getD ((f).toNat) Fn.zero).params))) Z ⟨P9,a0.drew⟩
  ·exact Dv false Z Z (A6 aa) Aa (Ac 21 Z (A1 (Af [4] Z (.bool false) Z ⟨P9,a0.drew⟩)))
 ·exact Ag (by first|rfl|(show Value.bool _=_;rw[a7])) (A0 (Ab _ [0] Z (Ac 1 Z (A1 (Al (Af [4] Z (.bool false) Z ⟨P9,a0⟩))))))
theorem bS {p:List Fn}{f n:Int}{a:Sr}(h:G7 p=false):1=Hs p f a n:=by
  have:EQ p f [a]=1:=by unfold EQ;rw[h];rfl
  unfold Hs;rw[this];rfl
theorem bT {p:List Fn}{f n:Int}{a:Sr}(h:G7 p=true)(h2:Mm p f=false):2=Hs p f a n:=by
  have:EQ p f [a]=2:=by unfold EQ;rw[if_pos h,h2];rfl
  unfold Hs;rw[this];rfl
theorem ZH {p:List Fn}{f:Int}{a:Sr}(h:G7 p=true)(h2:Mm p f=true):EQ p f [a]=if (decide (((a.length:Nat):Int)=(p.getD f.toNat Fn.zero).params) && B2 a)=true then 0 else 2:=by
  unfold EQ;rw[if_pos h,if_pos h2,List.all_cons,List.all_nil,Bool.and_true]
theorem UM {p:List Fn}{f n:Int}{a:Sr}{x:Bool}(hx:(decide (((a.length:Nat):Int)=(p.getD f.toNat Fn.zero).params) && B2 a)=x)(h:G7 p=true)(h2:Mm p f=true)(h3:E7 n 0 40=false∨x=false):2=Hs p f a n:=by
  unfold Hs
  rw[ZH h h2,hx]
  cases x with
  |false=>rfl
  |true=>rw[h3.resolve_right (by simp)];rfl
theorem bU {p:List Fn}{f n:Int}{a:Sr}(h:G7 p=true)(h2:Mm p f=true)(h3:E7 n 0 40=true)(h4:((a.length:Nat):Int)=(p.getD f.toNat Fn.zero).params)(h5:B2 a=true):0=Hs p f a n:=by
  unfold Hs
  rw[ZH h h2,A5 h4,h5,h3];rfl
theorem HF {p:Prop}(h:p:=by first|exact B4 (bS (CX (by assumption)))|exact B4 (bT (Do (by assumption)) (CX (by assumption)))|exact B4 (UM Z (Do (by assumption)) (Do (by assumption)) (.inl (CX (by assumption))))|exact B4 (bU hok hrn hin oM (Do (by assumption)))|exact B4 (UM Z hok hrn (.inr (by rw[A6 oM,Bool.false_and])))|exact B4 (UM Z hok hrn (.inr (by rw[← hbn,show B2 b=false from CX (by assumption),Bool.and_false])))|exact B4 (UM Z hok hrn (.inr (by rw[show B2 a=false from CX (by assumption),Bool.and_false])))):p:=h
theorem JS (w:World)(dp:Nat)(vp:Value)(p:List Fn)(f:Int)(va:Value)(a:List Int)(vb:Value)(b:List Int)(n:Int)(hp:RN [] (rP (Ki dp)) w.heap vp p)(_hf:Bx f)(ha:Rd (B3 rI) w.heap va a)(hb:Rd (B3 rI) w.heap vb b)(_hn:Bx n)(hz:PJ p)(hab:b=a) :
  Calls Tryz.prog 128 #[vp,.int .i64 f,va,vb,.int .i64 n] w (fun e w'=>e=.returned (.int .i64 (Hs p f a n))∧AF w w'):=by
 refine Aq [vp,.int .i64 f,va,vb,.int .i64 n] 52 Tryz.func128 Z Z sM ?_
 have ae:AF w w:=AF.refl w
 have hl_va:=ha.lenle
 have hl_vb:=hb.lenle
 have hbl:b.length=a.length:=by rw[hab]
 have hbn:B2 b=B2 a:=by rw[hab]
 refine A0 (Ab _ [0] Z (Ac 1 Z (A0 (A0 (Ab _ [0,3,0] Z (Ad 1 Z (As 138 [] [] [vp] Z Z YM Aa (Nc _ dp vp (p) (hp.ext (B5 (AU dp)) ae) (by exact hz)) ?_)))))))
 rintro e1 w1 ⟨rfl,a8⟩
 refine⟨_,rfl,a8,?_⟩
 have am:=a8.size
 have a9:=ae.trans a8
 refine Bn (!(G7 p)) Z Z Aa (Aj ?_)
 cases af:(!(G7 p))
 ·refine Ah (by first|rfl|(show Value.bool _=_;rw[af])) (A2 (A0 (A0 (Ab _ [0,0,3,0,0,0,0,0,0] Z (Ad 2 Z (As 139 [] [] [vp,(.int .i64 f)] Z Z YN Aa (Kf _ dp vp (p) _ (hp.ext (B5 (AU dp)) a9) _hf (by exact hz)) ?_))))))
  rintro e3 w3 ⟨rfl,aa⟩
  refine⟨_,rfl,aa,?_⟩
  have an:=aa.size
  have a0:=a9.trans aa
  refine Bn (!(Mm p f)) Z Z Aa (Ad 1 Z ?_)
  cases au:(!(Mm p f))
  ·refine Ad 1 Z (Az 74 [] [] [(.int .i64 n),(.int .i64 ((0:Nat):Int)),(.int .i64 ((40:Nat):Int))] Z Z IA (Ae (e:=19) Z Z Z) (.bool (decide (((0:Nat):Int)≤n) && decide (n≤((40:Nat):Int)))) (fun wq=>Bw wq _ _ _ _hn oM oM) (Bn (!(decide (((0:Nat):Int)≤n) && decide (n≤((40:Nat):Int)))) Z Z (Ae (e:=19) Z Z Z) (Ac 1 Z ?_)))
   cases ag:(!(decide (((0:Nat):Int)≤n) && decide (n≤((40:Nat):Int))))
   ·refine Ah (by first|rfl|(show Value.bool _=_;rw[ag])) (A2 (A0 (Ab _ [0,0,0,2,0,0,0,2,0] Z ?_)))
    have hok:=(Do (by assumption):G7 p=true)
    have hrn:=(Do (by assumption):Mm p f=true)
    have hin:=(Do (by assumption):(decide (((0:Nat):Int)≤n) && decide (n≤((40:Nat):Int)))=true)
    have hrr:=HS.1 hrn
    refine Ad 1 Z (AN (hp.isPtr) Z Aa ?_)
    obtain⟨cs7,ao,ah⟩:=RN.at (AU _) hp
    obtain⟨a7,rfl,ab⟩:=RPr.of ao
    have ac:=ab.lenle
    unfold maxLen at ac
    refine AJ (p:=vp) 0 Bv Z (ah _ (Au.of_ext [] a0)) Aa (Ai (p:=(Ap vp 0)) (.inr Z) a7 BY Z ((ah _ (Au.of_ext [] a0)).ld (i:=0) (by simp[EX,EY])) Aa (Ad 1 Z (AB (v:=a7) ((f).toNat) Gb Cj Z Z ab.isSl oM sD Aa ?_)))
    obtain⟨cs8,ap,ai⟩:=ab.get (Av dp) Fn.zero (k:=((f).toNat)) sD
    obtain⟨av,rfl,aq⟩:=RF.of ap
    have ad:=aq.rn.lenle
    unfold maxLen at ad
    refine AJ (p:=Ay a7 ((f).toNat) 3) 1 C2 Z (ai _ (Au.of_ext [] a0)) Aa (Ai (p:=(Ap (Ay a7 ((f).toNat) 3) 1)) (.inr Z) (.int .i64 ((p.getD ((f).toNat) Fn.zero).params)) AD Z ((ai _ (Au.of_ext [] a0)).ld (i:=1) (by simp[EX,EY])) Aa (Ac 1 Z (A0 (A0 (Ab _ [0,0,0,0,0,0,3,0,0,0,0,0,0,0,0,0,0,3,0,0] Z (Ad 1 Z (AQ (v:=va) Bt Z ha.isSl Aa (Ad 1 Z ?_))))))))
    by_cases aj:((a.length:Nat):Int)≠(p.getD ((f).toNat) Fn.zero).params
    ·exact AT true Z Z (A5 aj) Aa (Ac 16 Z (Ag Z (A0 (Ab _ [0] Z (Ac 1 Z (A1 (Al (Af [10] Z (.int .i64 ((2:Nat):Int)) Z ⟨HF,a0⟩))))))))
    ·refine AT false Z Z (A6 aj) Aa (Ad 2 Z (As 157 [] [] [va] Z Z Vu (Ae (e:=36) Z Z Z) (FN _ _ _ (ha.ext g1 a0)) ?_))
     rintro e10 w10 ⟨rfl,a2⟩
     refine⟨_,rfl,a2,?_⟩
     have ak:=a2.size
     have a1:=a0.trans a2
     refine Bn (!(B2 a)) Z Z (Ae (e:=36) Z Z Z) (Ad 2 Z ?_)
     cases ar:(!(B2 a))
     ·refine Ad 1 Z (AQ (v:=vb) Bt Z hb.isSl (Ae (e:=41) Z Z Z) (Ad 1 Z ?_))
      by_cases a4:((b.length:Nat):Int)≠(p.getD ((f).toNat) Fn.zero).params
      ·refine AT true Z Z (A5 a4) (Ae (e:=41) Z Z Z) (Ac 6 Z (Ag Z (A0 (Ab _ [0] Z (Ac 1 Z (A1 (Al ?_)))))))
       exact Af [10] Z (.int .i64 ((2:Nat):Int)) Z ⟨HF,a1⟩
      ·refine AT false Z Z (A6 a4) (Ae (e:=41) Z Z Z) (Ad 3 Z (As 157 [] [] [vb] Z Z Vu (Ae (e:=47) Z Z Z) (FN _ _ _ (hb.ext g1 a1)) ?_))
       rintro e13 w13 ⟨rfl,a3⟩
       refine⟨_,rfl,a3,?_⟩
       have al:=a3.size
       have a5:=a1.trans a3
       refine Bn (!(B2 b)) Z Z (Ae (e:=47) Z Z Z) (Ac 1 Z ?_)
       cases a6:(!(B2 b))
       ·exact Ah (by first|rfl|(show Value.bool _=_;rw[a6])) (A2 (A0 (Ab _ [0] Z (Ac 1 Z (A1 (Af [10] Z (.int .i64 ((0:Nat):Int)) Z ⟨HF,a5⟩))))))
       ·exact Ag (by first|rfl|(show Value.bool _=_;rw[a6])) (A0 (Ab _ [0] Z (Ac 1 Z (A1 (Al (Af [10] Z (.int .i64 ((2:Nat):Int)) Z ⟨HF,a5⟩))))))
     ·exact Ac 10 Z (Ag Z (A0 (Ab _ [0] Z (Ac 1 Z (A1 (Al (Af [10] Z (.int .i64 ((2:Nat):Int)) Z ⟨HF,a1⟩)))))))
   ·exact Ag (by first|rfl|(show Value.bool _=_;rw[ag])) (A0 (Ab _ [0] Z (Ac 1 Z (A1 (Al (Af [10] Z (.int .i64 ((2:Nat):Int)) Z ⟨HF,a0⟩))))))
  ·exact Ac 4 Z (Ag Z (A0 (Ab _ [0] Z (Ac 1 Z (A1 (Al (Af [10] Z (.int .i64 ((2:Nat):Int)) Z ⟨HF,a0⟩)))))))
 ·exact Ag (by first|rfl|(show Value.bool _=_;rw[af])) (A0 (Ab _ [0] Z (Ac 1 Z (A1 (Al (Af [10] Z (.int .i64 ((1:Nat):Int)) Z ⟨HF,a9⟩))))))
theorem JT (w:World)(dp:Nat)(vp:Value)(p:List Fn)(f:Int)(va:Value)(a:List Int)(n:Int)(hp:RN [] (rP (Ki dp)) w.heap vp p)(_hf:Bx f)(ha:Rd (B3 rI) w.heap va a)(_hn:Bx n)(hvp:H6 p)(hf:0≤f∧f<((p.length:Nat):Int))(hl:((a.length:Nat):Int)=(p.getD f.toNat Fn.zero).params)(hna:B2 a=true)(hn:0≤n∧n≤40)(hou:((p.getD f.toNat Fn.zero).outs.length:Int)=(p.getD f.toNat Fn.zero).params) :
  Calls Tryz.prog 129 #[vp,.int .i64 f,va,.int .i64 n] w (fun e w'=>∃v0:Value,e=.returned (.tuple #[v0,.int .i64 (Eo p f.toNat a n.toNat)])∧AF w w'∧Fr (Bh (Bh rI 2) 27) w.heap.size w'.heap.size w'.heap v0 (Ua p f.toNat a n.toNat)∧PU p f.toNat a n.toNat):=by
 refine Aq [vp,.int .i64 f,va,.int .i64 n] 43 Tryz.func129 Z Z sM ?_
 have ad:AF w w:=AF.refl w
 have hl_va:=ha.lenle
 have hpar:=hvp.par f.toNat oM
 refine A0 (Ab _ [0,0] Z (Ac 2 Z (A0 (Ab _ [0,3,3,0] Z (Ad 1 Z (As 143 [] [] [va] Z Z YP Aa (LT _ _ _ (ha.ext g1 ad) oM) ?_))))))
 rintro e1 w1 ⟨ae,rfl,ac,a5⟩
 refine⟨_,rfl,ac,?_⟩
 have af:=ac.size
 have ag:=ad.trans ac
 refine BI (u:=ae) (B:=w.heap.size) o1 BH B8 Z Z a5 ag.size Aa fun v2 w2 ah b5 ap=>?_
 have ai:=ah.size
 have aq:=ag.trans ah
 refine Ac 1 Z (A0 (A0 (Ab _ [0] Z (Ac 1 Z (A3 ?_)))))
 refine B1 (S:=Nat×Value) (fun⟨k,vo⟩=>([(10,vo),(11,(.int .i64 ((k:Nat):Int))),(0,vp),(1,(.int .i64 f)),(3,(.int .i64 n))])) (fun⟨k,vo⟩ W=>AF w W∧Fr (Bh (Bh rI 2) 27) w.heap.size W.heap.size W.heap vo (CC (k+1) (Ch p f.toNat a))∧k≤n.toNat∧Eo p f.toNat a k=0∧((Ch p f.toNat a k).length:Int)=(p.getD f.toNat Fn.zero).params∧B2 (Ch p f.toNat a k)=true∧(∀j,j≤k→(Ch p f.toNat a j).length=a.length)) (fun⟨k,vo⟩=>n.toNat-k) (0,v2) ⟨rfl,rfl,rfl,rfl,rfl,trivial⟩ ⟨aq,ap.up o2,sD,(by rfl),(by exact hl),(by exact hna),(by intro j hj;rw[show j=0 from by omega];rfl)⟩ ?_
 clear ad a5 ac af ag ap b5 ah ai aq
 rintro⟨k,vo⟩ ρ3 w3 ⟨a7,a0,ar,hrk,hrl,hrn,hrj⟩
 have b6:w.heap.size≤w3.heap.size:=a7.size
 have hti:=C4 (f:=Ch p f.toNat a) (n:=k+1) (k:=k) [] oM
 have htl:(CC (k+1) (Ch p f.toNat a)).length=k+1:=by simp[CC]
 refine A0 (A0 (Ab _ [0,0,0] Z (Ad 2 Z ?_)))
 by_cases au:((k:Nat):Int)<n
 ·refine AG true Z Z (A5 au) Aa (Aj (Ag Z (A2 (A0 (A3 (A0 (Ab _ [0,0,0,0,0,2,3,0,0,0,0,0,0,0] Z (Ad 4 Z (AB (v:=vo) k BH B8 Z Z a0.isSl Z sD Aa ?_)))))))))
  obtain⟨av,aw,ax⟩:=a0.rd2.get (k:=k) [] sD
  have b7:=ax.lenle
  refine Ai (p:=Ay vo k 1) (.inr Z) av Bj Z aw Aa (As 75 [] [] [vp,(.int .i64 f),av] Z Z bF Aa (LB _ dp vp (p) _ _ _ (hp.ext (B5 (AU dp)) a7) _hf ax (by exact hvp) oM (by rw[hti];exact hrl) (by rw[hti];exact hrn)) ?_)
  rintro e6 w6 ⟨a1,rfl,a8,a9,ay,az⟩
  refine⟨_,rfl,a8,?_⟩
  have b8:=a8.size
  have aj:=a7.trans a8
  have a3:=a0.ext (o2) a8
  have aa:=AZ a8 aw
  refine Ad 1 Z (AM (vs:=[a1,(.int .i64 ((Ok p 1 f.toNat (CO ((CC (k+1) (Ch p f.toNat a)).getD k [])):Nat):Int)),(.int .i64 (G8 p f.toNat ((CC (k+1) (Ch p f.toNat a)).getD k [])))]) a1 Z Z Aa (AM (vs:=[a1,(.int .i64 ((Ok p 1 f.toNat (CO ((CC (k+1) (Ch p f.toNat a)).getD k [])):Nat):Int)),(.int .i64 (G8 p f.toNat ((CC (k+1) (Ch p f.toNat a)).getD k [])))]) (.int .i64 ((Ok p 1 f.toNat (CO ((CC (k+1) (Ch p f.toNat a)).getD k [])):Nat):Int)) Z Z Aa (AM (vs:=[a1,(.int .i64 ((Ok p 1 f.toNat (CO ((CC (k+1) (Ch p f.toNat a)).getD k [])):Nat):Int)),(.int .i64 (G8 p f.toNat ((CC (k+1) (Ch p f.toNat a)).getD k [])))]) (.int .i64 (G8 p f.toNat ((CC (k+1) (Ch p f.toNat a)).getD k []))) Z Z Aa (Ac 3 Z (A0 ?_)))))
  refine A0 (Ab _ [0,0] Z ?_)
  have hNX:=‹QY p f.toNat ((CC (k+1) (Ch p f.toNat a)).getD k [])›
  rw[hti]at hNX
  have hnc:=hNX.code
  have hcd:G8 p f.toNat ((CC (k+1) (Ch p f.toNat a)).getD k [])=G8 p f.toNat (Ch p f.toNat a k):=by rw[hti]
  refine Ad 1 Z ?_
  by_cases b0:G8 p f.toNat ((CC (k+1) (Ch p f.toNat a)).getD k [])≠((0:Nat):Int)
  ·refine AT true Z Z (A5 b0) Aa (Aj (Ag Z (A0 (Ab _ [3,0,0,0] Z (CQ (Bh rI 2) o1 BH B8 Aa fun v9 w9 ak bd b9=>?_)))))
   have ba:=ak.size
   have bb:=aj.trans ak
   have b1:=AZ ak aa
   refine Ac 3 Z (A1 (Al (AC (Al (Al (AC (Al ?_)))))))
   have hfc:Eo p f.toNat a n.toNat=G8 p f.toNat (Ch p f.toNat a k):=by rw[Je (k:=k+1) (by rw[DX hrk];omega) oM,DX hrk]
   exact Af [8,9] Z (.tuple #[v9,(.int .i64 (G8 p f.toNat ((CC (k+1) (Ch p f.toNat a)).getD k [])))]) Z ⟨v9,(by rw[hfc,hti]),bb,(by rw[PT (by rw[hfc];omega)];exact(b9.up o2).low aj.size),(PU.err hfc oM hnc)⟩
  ·refine AT false Z Z (A6 b0) Aa (Aj (Ah Z (A2 (Ab _ [0,0,3,4,0] Z (Ad 2 Z (BI (u:=a1) (B:=w3.heap.size) o1 BH B8 Z Z a9 (by first|exact A7 _|omega) Aa fun v11 w11 a4 bc al=>?_))))))
   have b2:=a4.size
   have a6:=aj.trans a4
   have a2:=a3.ext (o2) a4
   have b3:=AZ a4 aa
   refine Il o1 (v:=vo) (a:=v11) BH B8 Z Z Z a2 a6.size al oM a7.size sD (by unfold maxLen;first|omega|assumption|(simp;done)|(simp;omega)) Aa fun v13 w13 F13 ab am an=>?_
   have ao:AF w w13:=ab.below a6 (fun c hc=>A8 (A7 _) (am c hc).1) a6.size
   have b4:=ab.size
   refine Ac 1 Z (Ab _ [0,0,0] Z (Ad 1 Z (AP ((k+1:Nat):Int) Z Z (Bl oM oM) Aa (Ac 1 Z ?_))))
   exact⟨((k+1),v13),_,rfl,⟨rfl,rfl,rfl,rfl,rfl,trivial⟩,⟨ao,(by have h:=an.up o2;rw[hti]at h;rw[J7];exact h),sD,(by rw[DX hrk];omega),(by have:=hNX.len oM;show(((Oq p f.toNat (Ch p f.toNat a k)).length:Nat):Int)=_;omega),(by exact hNX.num),(by intro j hj;by_cases e9:j≤k;(exact hrj j e9);(rw[show j=k+1 from by omega];have:=hNX.len oM;show(Oq p f.toNat (Ch p f.toNat a k)).length=_;omega))⟩,by first|omega|(dsimp only;omega)⟩
 ·refine AG false Z Z (A6 au) Aa (Aj (Ah Z (A4 (Ax (Ax (At (A0 (Ab _ [0,0,0] Z (Ac 3 Z (A1 ?_))))))))))
  have hke:k=n.toNat:=by omega
  exact Af [8,9] Z (.tuple #[vo,(.int .i64 ((0:Nat):Int))]) Z ⟨vo,(by rw[← hke,hrk];rfl),a7,(by have h:=a0.up o2;rw[← hke,K6 hrk];exact h),(PU.ok (by rw[← hke];exact hrk) (by rw[← hke];exact hrj))⟩
theorem IL (w:World)(dp:Nat)(vp:Value)(p:List Fn)(f:Int)(va:Value)(a:List Int)(n:Int)(hp:RP [] dp w.heap vp p)(_hf:Bx f)(ha:Rd (B3 rI) w.heap va a)(_hn:Bx n)(hz:PJ p) :
  Calls Tryz.prog 45 #[(.agg #[vp]),.int .i64 f,va,.int .i64 n] w (fun e w'=>∃v0:Value,e=.returned (.tuple #[v0,.int .i64 (LR p f a n)])∧AF w w'∧Fr (Bh (Bh rI 2) 27) w.heap.size w'.heap.size w'.heap v0 (Tz p f a n)):=by
 refine Aq [(.agg #[vp]),.int .i64 f,va,.int .i64 n] 26 Tryz.func45 Z Z sM ?_
 have ae:AF w w:=AF.refl w
 have hl_vp:=hp.lenle
 unfold maxLen at hl_vp
 have hl_va:=ha.lenle
 refine A0 (Ab _ [3,0,0] Z (Bu (cs:=#[vp]) Z Aa fun w1 a9 am a4=>?_))
 have af:=a9.size
 have a5:=ae.trans a9
 replace a4:BX w1.heap w.heap.size [vp]:=a4
 refine Ac 2 Z (A0 (A0 (Ab _ [0,0,0,0,3,0] Z (Ad 4 Z (As 128 [] [] [(.pointer (some ⟨w.heap.size,0,none⟩)),(.int .i64 f),va,va,(.int .i64 n)] Z Z YJ Aa (JS _ dp ((.pointer (some ⟨w.heap.size,0,none⟩))) (p) _ _ _ _ _ _ (RN.box a4 (RP.mk' (hp.ext (An (Av dp)) a5)) sM) _hf (ha.ext g1 a5) (ha.ext g1 a5) _hn (by exact hz) (by rfl)) ?_)))))
 rintro e2 w2 ⟨rfl,a6⟩
 refine⟨_,rfl,a6,?_⟩
 have ag:=a6.size
 have a1:=a5.trans a6
 have a2:=a4.ext a6
 refine Ac 1 Z (A0 (Ab _ [0,0] Z (Ad 1 Z ?_)))
 by_cases aa:Hs p f a n≠((0:Nat):Int)
 ·refine AT true Z Z (A5 aa) Aa (Aj (Ag Z (A0 (Ab _ [3,0,0,0] Z (CQ (Bh rI 2) o1 BH B8 Aa fun v4 w4 ab an ah=>?_)))))
  have ai:=ab.size
  have aj:=a1.trans ab
  exact Ac 3 Z (A1 (Al (Af [8,9] Z (.tuple #[v4,(.int .i64 (Hs p f a n))]) Z ⟨v4,(by rw[PW oM]),aj,(by rw[K7 oM];exact(ah.up o2).low a1.size)⟩)))
 ·refine AT false Z Z (A6 aa) Aa (Aj (Ah Z (A2 (A0 (Ab _ [0,0,0,3,0,0,0,0] Z ?_)))))
  have a7:Hs p f a n=0:=by omega
  have ac:=Sk a7
  have hvp:=FG ac.1
  refine Ad 3 Z (As 129 [] [] [(.pointer (some ⟨w.heap.size,0,none⟩)),(.int .i64 f),va,(.int .i64 n)] Z Z YK Aa (JT _ dp ((.pointer (some ⟨w.heap.size,0,none⟩))) (p) _ _ _ _ (RN.box a2 (RP.mk' (hp.ext (An (Av dp)) a1)) sM) _hf (ha.ext g1 a1) _hn (by exact hvp) oM oM (by exact ac.2.2.2.2.1) oM oM) ?_)
  rintro e5 w5 ⟨a0,rfl,a8,a3,ad⟩
  refine⟨_,rfl,a8,?_⟩
  have ak:=a8.size
  have al:=a1.trans a8
  exact AM (vs:=[a0,(.int .i64 (Eo p f.toNat a n.toNat))]) a0 Z Z Aa (AM (vs:=[a0,(.int .i64 (Eo p f.toNat a n.toNat))]) (.int .i64 (Eo p f.toNat a n.toNat)) Z Z Aa (Ac 2 Z (A1 (Af [8,9] Z (.tuple #[a0,(.int .i64 (Eo p f.toNat a n.toNat))]) Z ⟨a0,(by rw[NT a7]),al,(by rw[L2 a7];exact(a3.up o2).low a1.size)⟩))))
end
section
set_option maxHeartbeats 4000000
set_option maxRecDepth 100000
attribute [local irreducible] LW
theorem Pa {p:Prop}(h:p:=by simp only[List.length_cons,List.length_nil];unfold maxLen;omega):p:=h
theorem Pb {p:Prop}(h:p:=by simp only[List.length_cons,List.length_nil];omega):p:=h
theorem JU {p:Prop}(h:p:=by rw[GJ];omega):p:=h
theorem CF (w:World)(S:List Nat)(g:Nat)(vp:Value)(ip:Int)(s0:Nat)(c0:Int)(T:Tp)(c:AE)(v:Int)(hS:∀b∈S,b<w.heap.size)(hgS:g∈S)(hR0:QX 69 208 2 S g w.heap vp ip T s0 c0)(_hip:Bx ip)(hln:T.code.length≤4000∧T.vals.length≤4000)(hc:RW c)(_hv:Bx v)  :
  Calls Tryz.prog 101 #[.pointer (some ⟨g,0,none⟩),(.agg #[(.int .i64 c.op),(.int .i64 c.a),(.int .i64 c.b),(.int .i64 c.num)]),.int .i64 v] w (fun e w'=>∃S':List Nat,e=.returned (.int .i64 ((T.vals.length:Nat):Int))∧Fz S S' w w'∧QX 69 208 2 S' g w'.heap vp ip (T.put c v) s0 c0):=by
 refine Aq [.pointer (some ⟨g,0,none⟩),(.agg #[(.int .i64 c.op),(.int .i64 c.a),(.int .i64 c.b),(.int .i64 c.num)]),.int .i64 v] 35 Tryz.func101 Z Z sM ?_
 have dr:Au S w w:=Au.refl S w
 obtain⟨rc0,rg0,rv0,bt,d5⟩:=hR0
 have hgl:=bt.lt
 have hG0:Fz S S w w:=Fz.refl hS
 have hml:=Ct.len d5
 refine A0 (Ab _ [3,0] Z ?_)
 have eo:=bt.lt
 refine Bu (cs:=#[(.int .i64 c.op),(.int .i64 c.a),(.int .i64 c.b),(.int .i64 c.num)]) Z Aa fun w1 ay ep bu=>?_
 have ds:w.heap.size≤w1.heap.size:=ay.size
 have d6:Au S w w1:=dr.ext ay
 have a7:=bt.ext ay
 have dt:=Ct.ext d5 ay
 have d7:=hG0.ext ay
 replace bu:BX w1.heap w.heap.size [(.int .i64 c.op),(.int .i64 c.a),(.int .i64 c.b),(.int .i64 c.num)]:=bu
 refine Ac 1 Z (A0 ?_)
 obtain⟨Fc,Fg,Fv,hOc,hOg,hOv,hdj,hgn,hSc,hSg,hSv⟩:=id dt
 letI:JR:=QW (Fc++Fv)
 refine Jx.Yd _ [0,0,0,0,0,0,1,1,3,3,0,0,0,1,0,3,3,0,0,0,4,0,0,4] [0,1,2,3,4,5,6,7,10,11,12,13,14] 8 9 [15,16,17,18,19,20,21,22,23] 15 [9,16,17,18,19,20,21,22,23] 15 [8,9,16,17,18,19,20,21,22,23] [_,_,_,_,_,_,_,_,_,_,_,_,_] [0,0,0,0,0,0,1,1,0,0,0,1,0] _ _ [_,_,_,_,_,_,_,_,_] [3,3,0,0,0,4,0,0,4] _ [_,_,_,_,_,_,_,_,_] [3,3,0,0,0,4,0,0,4] _ [_,_,_,_,_,_,_,_,_,_] [3,3,3,0,0,0,4,0,0,4] mixed (by kernel_rfl) ⟨rfl,rfl,⟨rfl,rfl,⟨rfl,rfl,⟨rfl,rfl,⟨rfl,rfl,⟨rfl,rfl,⟨rfl,rfl,⟨rfl,rfl,⟨rfl,rfl,⟨rfl,rfl,⟨rfl,rfl,⟨rfl,rfl,⟨rfl,rfl,trivial⟩⟩⟩⟩⟩⟩⟩⟩⟩⟩⟩⟩⟩ ⟨rfl,rfl,trivial⟩ ⟨rfl,rfl,⟨rfl,rfl,⟨rfl,rfl,⟨rfl,rfl,⟨rfl,rfl,⟨rfl,rfl,⟨rfl,rfl,⟨rfl,rfl,⟨rfl,rfl,⟨rfl,rfl,trivial⟩⟩⟩⟩⟩⟩⟩⟩⟩⟩ ⟨rfl,rfl,⟨rfl,rfl,⟨rfl,rfl,⟨rfl,rfl,⟨rfl,rfl,⟨rfl,rfl,⟨rfl,rfl,⟨rfl,rfl,⟨rfl,rfl,⟨rfl,rfl,trivial⟩⟩⟩⟩⟩⟩⟩⟩⟩⟩ ⟨rfl,rfl,⟨rfl,rfl,⟨rfl,rfl,⟨rfl,rfl,⟨rfl,rfl,⟨rfl,rfl,⟨rfl,rfl,⟨rfl,rfl,⟨rfl,rfl,⟨rfl,rfl,⟨rfl,rfl,trivial⟩⟩⟩⟩⟩⟩⟩⟩⟩⟩⟩ ?_
 refine Jx.VU (.pointer (some ⟨g,0,none⟩)) Z Aa (Jx.VU (.pointer (some ⟨g,0,none⟩)) Z Aa (Jx.VU (.pointer (some ⟨g,0,none⟩)) Z Aa (Jx.j1 (AY Z Aa (Aj ?_)))))
 refine Jx.Ak (p:=(.pointer (some ⟨g,0,none⟩))) (b:=g) (o:=0) 1 FL Z Z Aa (Jx.Ak (p:=(Ap (.pointer (some ⟨g,0,none⟩)) 1)) (b:=g) (o:=1) 1 Fk Z Z Aa (Jx.ZQ (p:=(Ap (Ap (.pointer (some ⟨g,0,none⟩)) 1) 1)) rc0 K9 Z (fun wj hj=>(BX.chg (w:=w1.drew) (F:=Fc++Fv) a7 hj (fun hm=>(List.mem_append.1 hm).elim hgn.1 hgn.2.2)).ldp (i:=2) sM) Aa (Jx.Y6 (p:=(.pointer (some ⟨w.heap.size,0,none⟩))) [(.int .i64 c.op),(.int .i64 c.a),(.int .i64 c.b),(.int .i64 c.num)] Fl Z (fun wj hj=>LD.of_box (BX.chg (w:=w1.drew) (F:=Fc++Fv) bu hj (fun hm=>(List.mem_append.1 hm).elim (fun h9=>by have:=hS _ (hSc _ h9);omega) (fun h9=>by have:=hS _ (hSv _ h9);omega)))) Z Aa (Jx.VU (.pointer (some ⟨g,0,none⟩)) Z Aa ?_))))
 refine Jx.j1 (AY Z Aa (Aj ?_))
 refine Jx.Ak (p:=(.pointer (some ⟨g,0,none⟩))) (b:=g) (o:=0) 5 DC Z Z Aa (Jx.ZQ (p:=(Ap (.pointer (some ⟨g,0,none⟩)) 5)) rv0 Bj Z (fun wj hj=>(BX.chg (w:=w1.drew) (F:=Fc++Fv) a7 hj (fun hm=>(List.mem_append.1 hm).elim hgn.1 hgn.2.2)).ldp (i:=5) sM) Aa (Jx.VU (.int .i64 v) Z Aa (Jx.Aj ⟨?_,?_⟩)))
 ·refine Jx.aJ (EZ (cs:=[(.int .i64 c.op),(.int .i64 c.a),(.int .i64 c.b),(.int .i64 c.num)]) (y:=c) (B:=w1.heap.size) Bb OU Jn Z (by decide) Z (RY (U:=w1.heap.size) hc) (A7 _) Aa ?_)
  intro v4 w4 ao eq d8
  refine Aj ?_
  have du:w1.heap.size≤w4.heap.size:=ao.size
  have az:=Ow.ext (w:=w1.drew) (Ao Bb) hOc ao
  have b0:=Ow.ext (w:=w1.drew) (Bc AR) hOv ao
  have b1:=Ow.ext (w:=w1.drew) (Ao Bm) hOg ao
  have d9:=BX.ext (w:=w1.drew) a7 ao
  have da:Au S w w4:=d6.drew.ext ao
  have db:=d7.drew.ext ao
  refine Jx.Aj ⟨?_,?_⟩
  ·refine Jx.cC (MN (v:=rc0) (a:=v4) Bb OU Jn Z (by decide) Z Z az d8 oM (Nat.zero_le _) (Nat.zero_le _) oM (by unfold maxLen;omega) Aa ?_)
   intro v5 w5 F5 ap dv b2
   refine Aj ⟨Au.sub ap (fun b hb=>List.mem_append_left _ hb),?_⟩
   have dw:w4.heap.size≤w5.heap.size:=ap.size
   have bv:=b0.keep (Bc AR) ap (fun b hb hm=>hdj.2.1 b hb hm)
   have bw:=b1.keep (Ao Bm) ap (fun b hb hm=>hdj.1 b hb hm)
   have dx:=BX.chg d9 ap hgn.1
   have dy:Au S w w5:=da.trans (ap.sub hSc)
   have dz:=db.more ap hSc
   refine Jx.aJ (BI (u:=(.int .i64 v)) (B:=w5.heap.size) AR Bt BT Z Z (Ov w5.heap.size w5.heap.size _ _ _hv) (A7 _) Aa ?_)
   intro v6 w6 aq er e0
   refine Aj ?_
   have e1:w5.heap.size≤w6.heap.size:=aq.size
   have bx:=Ow.ext (w:=w5) (Ao Bb) dv aq
   have bz:=Ow.ext (w:=w5) (Bc AR) bv aq
   have c1:=Ow.ext (w:=w5) (Ao Bm) bw aq
   have e2:=BX.ext (w:=w5) dx aq
   have e3:Au S w w6:=dy.ext aq
   have e4:=dz.ext aq
   refine Jx.cC (KX (v:=rv0) (a:=v6) Bt BT Z Z Z bz e0.rd1 (Nat.zero_le _) Pb Pa Aa ?_)
   intro v7 w7 F7 ar dc br
   refine Aj ⟨Au.sub ar (fun b hb=>List.mem_append_right _ hb),?_⟩
   have e5:w6.heap.size≤w7.heap.size:=ar.size
   have au:=bx.keep (Ao Bb) ar (fun b hb hm=>by rcases b2 b hm with h9|h9|h9;exact hdj.2.1 b h9 hb;(have:=hOv.high b hb;omega);(have:=hOv.high b hb;omega))
   have c2:=c1.keep (Ao Bm) ar (fun b hb hm=>hdj.2.2 b hm hb)
   have e6:=BX.chg e2 ar hgn.2.2
   have dd:Au S w w7:=e3.trans (ar.sub hSv)
   have es:=e4.more ar hSv
   refine Jx.TS Z ?_
   have av:Ct 69 208 2 (F5++(F7++S)) g w7.heap v5 rg0 v7 (T.put c v):=⟨F5,Fg,F7,au.up oM,c2.up oM,dc,⟨fun b hb hm=>by rcases b2 b hb with h9|h9|h9;exact hdj.1 b h9 hm;(have:=hOg.high b hm;omega);(have:=hOg.high b hm;omega),fun b hb hm=>by rcases br b hm with h8|h8;(rcases b2 b hb with h9|h9|h9;exact hdj.2.1 b h9 h8;(have:=hOv.high b h8;omega);(have:=hOv.high b h8;omega));(have:=au.high b hb;omega),fun b hm hb=>by rcases br b hb with h8|h8;exact hdj.2.2 b hm h8;(have:=hOg.high b hm;omega)⟩,⟨fun hm=>by rcases b2 g hm with h9|h9|h9;exact hgn.1 h9;omega;omega,hgn.2.1,fun hm=>by rcases br g hm with h9|h9;exact hgn.2.2 h9;omega⟩,fun b hb=>List.mem_append_left _ hb,fun b hb=>List.mem_append_right _ (List.mem_append_right _ (hSg b hb)),fun b hb=>List.mem_append_right _ (List.mem_append_left _ hb)⟩
   have c3:Fz S (F5++(F7++S)) w w7:=⟨fun b hb=>List.mem_append_right _ (List.mem_append_right _ hb),fun b hb=>by rcases List.mem_append.1 hb with hb|hb;(rcases b2 b hb with h9|h9|h9;exact .inl (hSc b h9);(right;omega);(right;omega));rcases List.mem_append.1 hb with hb|hb;(rcases br b hb with h9|h9;exact .inl (hSv b h9);(right;omega));exact .inl hb,fun b hb=>by rcases List.mem_append.1 hb with hb|hb;(have:=au.high b hb;omega);rcases List.mem_append.1 hb with hb|hb;(exact dc.high b hb);(have:=hS b hb;omega),dd⟩
   refine AY Z Aa (Ak (p:=(.pointer (some ⟨g,0,none⟩))) (b:=g) (o:=0) 1 FL Z Z Aa (Ak (p:=(Ap (.pointer (some ⟨g,0,none⟩)) 1)) (b:=g) (o:=1) 1 Fk Z Z Aa (Be (k:=2) (w:=w7) XP Z Z (Bp av.slc) e6 sM Aa fun w9 bs et c4=>?_)))
   replace c4:BX w9.heap g [vp,(.int .i64 ip),v5,rg0,(.slice none 0 0),rv0,(.int .i64 ((s0:Nat):Int)),(.int .i64 c0)]:=c4
   have e7:Au S w w9:=dd.trans (bs.sub (AX hgS))
   have e8:=Ct.chg av bs
   have e9:=c3.set hgS bs
   have ea:w7.heap.size≤w9.heap.size:=bs.size
   refine AY Z Aa (Ak (p:=(.pointer (some ⟨g,0,none⟩))) (b:=g) (o:=0) 5 DC Z Z Aa (Be (k:=5) (w:=w9) QR Z Z (Bp av.slv) c4 sM Aa fun w13 ae eb af=>?_))
   replace af:BX w13.heap g [vp,(.int .i64 ip),v5,rg0,(.slice none 0 0),v7,(.int .i64 ((s0:Nat):Int)),(.int .i64 c0)]:=af
   have ec:Au S w w13:=e7.trans (ae.sub (AX hgS))
   have b3:=Ct.chg e8 ae
   have c5:=e9.set hgS ae
   have de:w9.heap.size≤w13.heap.size:=ae.size
   exact Aj (A0 (Ab _ [0,0,0,2,0,0,0] Z (Ad 1 Z (AY Z Aa (Ak (p:=(.pointer (some ⟨g,0,none⟩))) (b:=g) (o:=0) 5 DC Z Z Aa (Ai (p:=(Ap (.pointer (some ⟨g,0,none⟩)) 5)) (.inr Z) v7 Bj Z (af.ldp (i:=5) sM) Aa (AQ (v:=v7) Bt Z (Ct.slv b3) Aa (Bs ((T.vals.length:Nat):Int) Z Z (Bl JU JU) Aa (Ac 1 Z (A1 (Af [6] Z (.int .i64 ((T.vals.length:Nat):Int)) Z ⟨_,(by rfl),c5,⟨_,_,_,af,b3⟩⟩)))))))))))
  ·refine Jx.aJ (BI (u:=(.int .i64 v)) (B:=w4.heap.size) AR Bt BT Z Z (Ov w4.heap.size w4.heap.size _ _ _hv) (A7 _) Aa ?_)
   intro v17 w17 a0 ed c6
   refine Aj ?_
   have df:w4.heap.size≤w17.heap.size:=a0.size
   have b4:=Ow.ext (w:=w4) (Ao Bb) az a0
   have b5:=Ow.ext (w:=w4) (Bc AR) b0 a0
   have b6:=Ow.ext (w:=w4) (Ao Bm) b1 a0
   have c7:=d8.ext (Ao Bb) a0
   have c8:=BX.ext (w:=w4) d9 a0
   have c9:Au S w w17:=da.ext a0
   have ca:=db.ext a0
   refine Jx.cC (MN (v:=rc0) (a:=v4) Bb OU Jn Z (by decide) Z Z b4 c7 oM (Nat.zero_le _) (Nat.zero_le _) oM (by unfold maxLen;omega) Aa ?_)
   intro v18 w18 F18 a1 cb a8
   refine Aj ⟨Au.sub a1 (fun b hb=>List.mem_append_left _ hb),?_⟩
   have dg:w17.heap.size≤w18.heap.size:=a1.size
   have b7:=b5.keep (Bc AR) a1 (fun b hb hm=>hdj.2.1 b hb hm)
   have b8:=b6.keep (Ao Bm) a1 (fun b hb hm=>hdj.1 b hb hm)
   have cc:=c6.chg (o1) a1 (fun b hb=>by have:=hOc.high b hb;omega)
   have cd:=BX.chg c8 a1 hgn.1
   have ce:Au S w w18:=c9.trans (a1.sub hSc)
   have cf:=ca.more a1 hSc
   refine Jx.cC (KX (v:=rv0) (a:=v17) Bt BT Z Z Z b7 cc.rd1 (Nat.zero_le _) Pb Pa Aa ?_)
   intro v19 w19 F19 a4 b9 ag
   refine Aj ⟨Au.sub a4 (fun b hb=>List.mem_append_right _ hb),?_⟩
   have dh:w18.heap.size≤w19.heap.size:=a4.size
   have a9:=cb.keep (Ao Bb) a4 (fun b hb hm=>by rcases a8 b hm with h9|h9|h9;exact hdj.2.1 b h9 hb;(have:=hOv.high b hb;omega);(have:=hOv.high b hb;omega))
   have ba:=b8.keep (Ao Bm) a4 (fun b hb hm=>hdj.2.2 b hm hb)
   have cg:=BX.chg cd a4 hgn.2.2
   have bb:Au S w w19:=ce.trans (a4.sub hSv)
   have ee:=cf.more a4 hSv
   refine Jx.TS Z ?_
   have aa:Ct 69 208 2 (F18++(F19++S)) g w19.heap v18 rg0 v19 (T.put c v):=⟨F18,Fg,F19,a9.up oM,ba.up oM,b9,⟨fun b hb hm=>by rcases a8 b hb with h9|h9|h9;exact hdj.1 b h9 hm;(have:=hOg.high b hm;omega);(have:=hOg.high b hm;omega),fun b hb hm=>by rcases ag b hm with h8|h8;(rcases a8 b hb with h9|h9|h9;exact hdj.2.1 b h9 h8;(have:=hOv.high b h8;omega);(have:=hOv.high b h8;omega));(have:=a9.high b hb;omega),fun b hm hb=>by rcases ag b hb with h8|h8;exact hdj.2.2 b hm h8;(have:=hOg.high b hm;omega)⟩,⟨fun hm=>by rcases a8 g hm with h9|h9|h9;exact hgn.1 h9;omega;omega,hgn.2.1,fun hm=>by rcases ag g hm with h9|h9;exact hgn.2.2 h9;omega⟩,fun b hb=>List.mem_append_left _ hb,fun b hb=>List.mem_append_right _ (List.mem_append_right _ (hSg b hb)),fun b hb=>List.mem_append_right _ (List.mem_append_left _ hb)⟩
   have bc:Fz S (F18++(F19++S)) w w19:=⟨fun b hb=>List.mem_append_right _ (List.mem_append_right _ hb),fun b hb=>by rcases List.mem_append.1 hb with hb|hb;(rcases a8 b hb with h9|h9|h9;exact .inl (hSc b h9);(right;omega);(right;omega));rcases List.mem_append.1 hb with hb|hb;(rcases ag b hb with h9|h9;exact .inl (hSv b h9);(right;omega));exact .inl hb,fun b hb=>by rcases List.mem_append.1 hb with hb|hb;(have:=a9.high b hb;omega);rcases List.mem_append.1 hb with hb|hb;(exact b9.high b hb);(have:=hS b hb;omega),bb⟩
   refine AY Z Aa (Ak (p:=(.pointer (some ⟨g,0,none⟩))) (b:=g) (o:=0) 1 FL Z Z Aa (Ak (p:=(Ap (.pointer (some ⟨g,0,none⟩)) 1)) (b:=g) (o:=1) 1 Fk Z Z Aa (Be (k:=2) (w:=w19) XP Z Z (Bp aa.slc) cg sM Aa fun w21 ah ef aw=>?_)))
   replace aw:BX w21.heap g [vp,(.int .i64 ip),v18,rg0,(.slice none 0 0),rv0,(.int .i64 ((s0:Nat):Int)),(.int .i64 c0)]:=aw
   have ch:Au S w w21:=bb.trans (ah.sub (AX hgS))
   have ci:=Ct.chg aa ah
   have cj:=bc.set hgS ah
   have di:w19.heap.size≤w21.heap.size:=ah.size
   refine AY Z Aa (Ak (p:=(.pointer (some ⟨g,0,none⟩))) (b:=g) (o:=0) 5 DC Z Z Aa (Be (k:=5) (w:=w21) QR Z Z (Bp aa.slv) aw sM Aa fun w25 ai eg aj=>?_))
   replace aj:BX w25.heap g [vp,(.int .i64 ip),v18,rg0,(.slice none 0 0),v19,(.int .i64 ((s0:Nat):Int)),(.int .i64 c0)]:=aj
   have eh:Au S w w25:=ch.trans (ai.sub (AX hgS))
   have bd:=Ct.chg ci ai
   have ck:=cj.set hgS ai
   have dj:w21.heap.size≤w25.heap.size:=ai.size
   exact Aj (A0 (Ab _ [0,0,0,2,0,0,0] Z (Ad 1 Z (AY Z Aa (Ak (p:=(.pointer (some ⟨g,0,none⟩))) (b:=g) (o:=0) 5 DC Z Z Aa (Ai (p:=(Ap (.pointer (some ⟨g,0,none⟩)) 5)) (.inr Z) v19 Bj Z (aj.ldp (i:=5) sM) Aa (AQ (v:=v19) Bt Z (Ct.slv bd) Aa (Bs ((T.vals.length:Nat):Int) Z Z (Bl JU JU) Aa (Ac 1 Z (A1 (Af [6] Z (.int .i64 ((T.vals.length:Nat):Int)) Z ⟨_,(by rfl),ck,⟨_,_,_,aj,bd⟩⟩)))))))))))
 ·refine Jx.aJ (BI (u:=(.int .i64 v)) (B:=w1.heap.size) AR Bt BT Z Z (Ov w1.heap.size w1.heap.size _ _ _hv) (A7 _) Aa ?_)
  intro v29 w29 a5 ei cl
  refine Aj ?_
  have dk:w1.heap.size≤w29.heap.size:=a5.size
  have be:=Ow.ext (w:=w1.drew) (Ao Bb) hOc a5
  have bf:=Ow.ext (w:=w1.drew) (Bc AR) hOv a5
  have bg:=Ow.ext (w:=w1.drew) (Ao Bm) hOg a5
  have cm:=BX.ext (w:=w1.drew) a7 a5
  have cn:Au S w w29:=d6.drew.ext a5
  have co:=d7.drew.ext a5
  refine Jx.aJ (EZ (cs:=[(.int .i64 c.op),(.int .i64 c.a),(.int .i64 c.b),(.int .i64 c.num)]) (y:=c) (B:=w29.heap.size) Bb OU Jn Z (by decide) Z (RY (U:=w29.heap.size) hc) (A7 _) Aa ?_)
  intro v30 w30 a2 ej cp
  refine Aj ?_
  have dl:w29.heap.size≤w30.heap.size:=a2.size
  have bh:=Ow.ext (w:=w29) (Ao Bb) be a2
  have bi:=Ow.ext (w:=w29) (Bc AR) bf a2
  have bj:=Ow.ext (w:=w29) (Ao Bm) bg a2
  have cq:=cl.ext (o1) a2
  have cr:=BX.ext (w:=w29) cm a2
  have ct:Au S w w30:=cn.ext a2
  have cu:=co.ext a2
  refine Jx.cC (MN (v:=rc0) (a:=v30) Bb OU Jn Z (by decide) Z Z bh cp oM (Nat.zero_le _) (Nat.zero_le _) oM (by unfold maxLen;omega) Aa ?_)
  intro v31 w31 F31 a3 cv ab
  refine Aj ⟨Au.sub a3 (fun b hb=>List.mem_append_left _ hb),?_⟩
  have dm:w30.heap.size≤w31.heap.size:=a3.size
  have bk:=bi.keep (Bc AR) a3 (fun b hb hm=>hdj.2.1 b hb hm)
  have bl:=bj.keep (Ao Bm) a3 (fun b hb hm=>hdj.1 b hb hm)
  have cw:=cq.chg (o1) a3 (fun b hb=>by have:=hOc.high b hb;omega)
  have cx:=BX.chg cr a3 hgn.1
  have cy:Au S w w31:=ct.trans (a3.sub hSc)
  have cz:=cu.more a3 hSc
  refine Jx.cC (KX (v:=rv0) (a:=v29) Bt BT Z Z Z bk cw.rd1 (Nat.zero_le _) Pb Pa Aa ?_)
  intro v32 w32 F32 a6 bm ak
  refine Aj ⟨Au.sub a6 (fun b hb=>List.mem_append_right _ hb),?_⟩
  have dn:w31.heap.size≤w32.heap.size:=a6.size
  have ac:=cv.keep (Ao Bb) a6 (fun b hb hm=>by rcases ab b hm with h9|h9|h9;exact hdj.2.1 b h9 hb;(have:=hOv.high b hb;omega);(have:=hOv.high b hb;omega))
  have bn:=bl.keep (Ao Bm) a6 (fun b hb hm=>hdj.2.2 b hm hb)
  have d0:=BX.chg cx a6 hgn.2.2
  have bo:Au S w w32:=cy.trans (a6.sub hSv)
  have ek:=cz.more a6 hSv
  refine Jx.TS Z ?_
  have ad:Ct 69 208 2 (F31++(F32++S)) g w32.heap v31 rg0 v32 (T.put c v):=⟨F31,Fg,F32,ac.up oM,bn.up oM,bm,⟨fun b hb hm=>by rcases ab b hb with h9|h9|h9;exact hdj.1 b h9 hm;(have:=hOg.high b hm;omega);(have:=hOg.high b hm;omega),fun b hb hm=>by rcases ak b hm with h8|h8;(rcases ab b hb with h9|h9|h9;exact hdj.2.1 b h9 h8;(have:=hOv.high b h8;omega);(have:=hOv.high b h8;omega));(have:=ac.high b hb;omega),fun b hm hb=>by rcases ak b hb with h8|h8;exact hdj.2.2 b hm h8;(have:=hOg.high b hm;omega)⟩,⟨fun hm=>by rcases ab g hm with h9|h9|h9;exact hgn.1 h9;omega;omega,hgn.2.1,fun hm=>by rcases ak g hm with h9|h9;exact hgn.2.2 h9;omega⟩,fun b hb=>List.mem_append_left _ hb,fun b hb=>List.mem_append_right _ (List.mem_append_right _ (hSg b hb)),fun b hb=>List.mem_append_right _ (List.mem_append_left _ hb)⟩
  have bp:Fz S (F31++(F32++S)) w w32:=⟨fun b hb=>List.mem_append_right _ (List.mem_append_right _ hb),fun b hb=>by rcases List.mem_append.1 hb with hb|hb;(rcases ab b hb with h9|h9|h9;exact .inl (hSc b h9);(right;omega);(right;omega));rcases List.mem_append.1 hb with hb|hb;(rcases ak b hb with h9|h9;exact .inl (hSv b h9);(right;omega));exact .inl hb,fun b hb=>by rcases List.mem_append.1 hb with hb|hb;(have:=ac.high b hb;omega);rcases List.mem_append.1 hb with hb|hb;(exact bm.high b hb);(have:=hS b hb;omega),bo⟩
  refine AY Z Aa (Ak (p:=(.pointer (some ⟨g,0,none⟩))) (b:=g) (o:=0) 1 FL Z Z Aa (Ak (p:=(Ap (.pointer (some ⟨g,0,none⟩)) 1)) (b:=g) (o:=1) 1 Fk Z Z Aa (Be (k:=2) (w:=w32) XP Z Z (Bp ad.slc) d0 sM Aa fun w34 al el ax=>?_)))
  replace ax:BX w34.heap g [vp,(.int .i64 ip),v31,rg0,(.slice none 0 0),rv0,(.int .i64 ((s0:Nat):Int)),(.int .i64 c0)]:=ax
  have d1:Au S w w34:=bo.trans (al.sub (AX hgS))
  have d2:=Ct.chg ad al
  have d3:=bp.set hgS al
  have dp:w32.heap.size≤w34.heap.size:=al.size
  refine AY Z Aa (Ak (p:=(.pointer (some ⟨g,0,none⟩))) (b:=g) (o:=0) 5 DC Z Z Aa (Be (k:=5) (w:=w34) QR Z Z (Bp ad.slv) ax sM Aa fun w38 am em an=>?_))
  replace an:BX w38.heap g [vp,(.int .i64 ip),v31,rg0,(.slice none 0 0),v32,(.int .i64 ((s0:Nat):Int)),(.int .i64 c0)]:=an
  have en:Au S w w38:=d1.trans (am.sub (AX hgS))
  have bq:=Ct.chg d2 am
  have d4:=d3.set hgS am
  have dq:w34.heap.size≤w38.heap.size:=am.size
  exact Aj (A0 (Ab _ [0,0,0,2,0,0,0] Z (Ad 1 Z (AY Z Aa (Ak (p:=(.pointer (some ⟨g,0,none⟩))) (b:=g) (o:=0) 5 DC Z Z Aa (Ai (p:=(Ap (.pointer (some ⟨g,0,none⟩)) 5)) (.inr Z) v32 Bj Z (an.ldp (i:=5) sM) Aa (AQ (v:=v32) Bt Z (Ct.slv bq) Aa (Bs ((T.vals.length:Nat):Int) Z Z (Bl JU JU) Aa (Ac 1 Z (A1 (Af [6] Z (.int .i64 ((T.vals.length:Nat):Int)) Z ⟨_,(by rfl),d4,⟨_,_,_,an,bq⟩⟩)))))))))))
def ZI (F d:Nat):Prop:=∀(w:World) (S:List Nat) (g:Nat) (vp:Value) (dp:Nat) (ip:Int) (s0:Nat) (c0:Int) (p:List Fn) (T:Tp) (ve:Value) (ex:Ex) (vv:Value) (env:List Int) (hS:∀b∈S,b<w.heap.size) (hgS:g∈S) (hR0:QX 69 208 2 S g w.heap vp ip T s0 c0) (hp:RP S dp w.heap vp p) (_hip:Bx ip) (hs0:s0≤3000) (hc0:0≤c0∧c0≤9) (hbd:JG T s0) (hex:RX S d w.heap ve ex) (henv:RN S (B3 rI) w.heap vv env) (hqenv:C5 vv)
  (hvp:H6 p) (hF:F≤p.length) (hwf:wf p ((F:Nat):Int) ex ((env.length:Nat):Int)=true) (hdp:env.length+ex.deep≤1000000) (hen:c0=0→JH T env),
  Calls Tryz.prog 181 #[.pointer (some ⟨g,0,none⟩),.agg #[.int .i64 ex.kind,.int .i64 ex.num,.int .i64 ex.pick,.int .i64 ex.count,ve],vv] w (fun e w'=>∃(r:Int) (S':List Nat) (T':Tp) (s1:Nat) (c1:Int),e=.returned (.int .i64 r)∧Fz S S' w w'∧QX 69 208 2 S' g w'.heap vp ip T' s1 c1∧UY T T' s0 s1 c1∧(c1=0→0≤r∧r<((T'.vals.length:Nat):Int))∧(Bx r)∧AH (go c0 (GY (Kc p F) ex env s0 T)) (r,T') s1 c1)
def cF (F d:Nat):Prop:=∀(w:World) (S:List Nat) (g:Nat) (vp:Value) (dp:Nat) (ip:Int) (s0:Nat) (c0:Int) (p:List Fn) (T:Tp) (vl:Value) (l:List Ex) (vv:Value) (env:List Int) (hS:∀b∈S,b<w.heap.size) (hgS:g∈S) (hR0:QX 69 208 2 S g w.heap vp ip T s0 c0) (hp:RP S dp w.heap vp p) (_hip:Bx ip) (hs0:s0≤3000) (hc0:0≤c0∧c0≤9) (hbd:JG T s0) (hl:RN S (DM 5 (LK d)) w.heap vl l) (henv:RN S (B3 rI) w.heap vv env) (hqenv:C5 vv)
  (hvp:H6 p) (hF:F≤p.length) (hwf:∀k,k<l.length→wf p ((F:Nat):Int) (l.getD k Ex.zero) ((env.length:Nat):Int)=true) (hdp:∀k,k<l.length→env.length+(l.getD k Ex.zero).deep≤1000000) (hll:l.length≤1000000) (hen:c0=0→JH T env),
  Calls Tryz.prog 102 #[.pointer (some ⟨g,0,none⟩),vl,vv] w (fun e w'=>∃(v:Value) (xs:List Int) (S':List Nat) (T':Tp) (s1:Nat) (c1:Int),e=.returned v∧Fz S S' w w'∧QX 69 208 2 S' g w'.heap vp ip T' s1 c1∧UY T T' s0 s1 c1∧QK S' w.heap.size (B3 rI) w'.heap v xs∧C5 v∧xs.length=l.length∧(c1=0→JH T' xs)∧AH (go c0 (HQ (Kc p F) l env s0 T)) (xs,T') s1 c1)
theorem I4 (w:World)(S:List Nat)(F:Nat)(g:Nat)(vp:Value)(dp:Nat)(ip:Int)(s0:Nat)(c0:Int)(p:List Fn)(T:Tp)(dl:Nat)(vl:Value)(l:List Ex)(vv:Value)(env:List Int)(hS:∀b∈S,b<w.heap.size)(hgS:g∈S)(hR0:QX 69 208 2 S g w.heap vp ip T s0 c0)(hp:RP S dp w.heap vp p)(_hip:Bx ip)(hs0:s0≤3000)(hc0:0≤c0∧c0≤9)(hbd:JG T s0)(hl:RN S (DM 5 (LK dl)) w.heap vl l)(henv:RN S (B3 rI) w.heap vv env)(hqenv:C5 vv)(hvp:H6 p)(hF:F≤p.length)(hwf:∀k,k<l.length→wf p ((F:Nat):Int) (l.getD k Ex.zero) ((env.length:Nat):Int)=true)(hdp:∀k,k<l.length→env.length+(l.getD k Ex.zero).deep≤1000000)(hll:l.length≤1000000)(hen:c0=0→JH T env)(IHv:∀d',d'<dl→ZI F d') :
  Calls Tryz.prog 102 #[.pointer (some ⟨g,0,none⟩),vl,vv] w (fun e w'=>∃(v:Value) (xs:List Int) (S':List Nat) (T':Tp) (s1:Nat) (c1:Int),e=.returned v∧Fz S S' w w'∧QX 69 208 2 S' g w'.heap vp ip T' s1 c1∧UY T T' s0 s1 c1∧QK S' w.heap.size (B3 rI) w'.heap v xs∧C5 v∧xs.length=l.length∧(c1=0→JH T' xs)∧AH (go c0 (HQ (Kc p F) l env s0 T)) (xs,T') s1 c1):=by
 refine Aq [.pointer (some ⟨g,0,none⟩),vl,vv] 26 Tryz.func102 Z Z sM ?_
 have bd:Au S w w:=Au.refl S w
 have hl_vp:=hp.lenle
 unfold maxLen at hl_vp
 have hl_vl:=hl.lenle
 unfold maxLen at hl_vl
 have hl_vv:=henv.lenL
 unfold maxLen at hl_vv
 obtain⟨rc0,rg0,rv0,be,bf⟩:=hR0
 have hgl:=be.lt
 have hG0:Fz S S w w:=Fz.refl hS
 refine A0 (Ab _ [0] Z (Ac 1 Z (A0 (Ab _ [3,0] Z (CQ (rI) AR Bt BT Aa fun v1 w1 ab bs bg=>?_)))))
 have ao:w.heap.size≤w1.heap.size:=ab.size
 have bh:Au S w w1:=bd.ext ab
 have ae:=be.ext ab
 have bi:=Ct.ext bf ab
 have bj:=hG0.ext ab
 refine Ac 1 Z (A0 (A0 (Ab _ [0,0,0] Z (Ad 1 Z (AQ (v:=vl) D1 Z hl.isSl Aa (Ac 1 Z (A3 ?_)))))))
 obtain⟨Fo0,af⟩:=Ow.of_fr bg (A7 _)
 have ap:∀b∈Fo0,b∉S:=fun b hb hm=>by have:=af.low b hb;have:=hS b hm;omega
 have hMs:=bi
 have hGs:=bj
 refine B1 (S:=Nat×Value×List Int×List Nat×List Nat×Tp×Nat×Int×Value×Value×Value) (fun⟨k,vo,xs,Fo,S9,T9,s9,c9,vc9,vg9,vv9⟩=>([(7,vo),(13,(.int .i64 ((k:Nat):Int))),(0,(.pointer (some ⟨g,0,none⟩))),(2,vv),(11,vl),(12,(.int .i64 ((l.length:Nat):Int)))])) (fun⟨k,vo,xs,Fo,S9,T9,s9,c9,vc9,vg9,vv9⟩ W=>Au S w W∧BX W.heap g [vp,.int .i64 ip,vc9,vg9,.slice none 0 0,vv9,.int .i64 ((s9:Nat):Int),.int .i64 c9]∧k≤l.length∧Fz S S9 w W∧Ct 69 208 2 S9 g W.heap vc9 vg9 vv9 T9∧UY T T9 s0 s9 c9∧Ow (Bh rI 2) w.heap.size W.heap.size W.heap vo xs Fo∧(∀b∈Fo,b∉S9)∧xs.length=k∧(c9=0→c0=0)∧(c9=0→JH T9 xs)∧AH (go c0 (HQ (Kc p F) (l.take k) env s0 T)) (xs,T9) s9 c9) (fun⟨k,vo,xs,Fo,S9,T9,s9,c9,vc9,vg9,vv9⟩=>l.length-k) (0,v1,[],Fo0,S,T,s0,c0,rc0,rg0,rv0) ⟨rfl,rfl,rfl,rfl,rfl,rfl,trivial⟩ ⟨bh,ae,sD,(by exact hGs),(by exact hMs),(by exact⟨hbd,by omega⟩),(by exact af),(by exact ap),(by rfl),(by exact fun h=>h),(by exact fun _=>JH.nil _),(by exact S4 _ _ _ _ _ _)⟩ ?_
 clear bd bf hG0 bg bs ab ao bh bi bj
 rintro⟨k,vo,xs,Fo,S9,T9,s9,c9,vc9,vg9,vv9⟩ ρ3 w3 ⟨aq,a3,bk,hGl,hMl,hPl,hOl,hdl,hxl,hzl,hxb,hrl⟩
 have bt:w.heap.size≤w3.heap.size:=aq.size
 have c7:=a3.lt
 have hnl:=hPl.num
 have hbl:=hPl.bnd
 refine A0 (Ab _ [0] Z ?_)
 by_cases bl:((k:Nat):Int)<((l.length:Nat):Int)
 ·refine AG true Z Z (A5 bl) Aa (Aj (A0 (Ag Z (A2 (A0 (A3 (A0 (Ab _ [0,2,3,4] Z ?_))))))))
  have hkl:k<l.length:=by omega
  refine AB (v:=vl) k D1 Bk Z Z hl.isSl Z sD Aa ?_
  obtain⟨cs6,bu,bv⟩:=hl.get (Aw dl) Ex.zero (k:=k) sD
  obtain⟨dd6,ac,c8,rfl,am⟩:=RX.of bu
  have ar:=am.rn.lenle
  unfold maxLen at ar
  refine AK (p:=Ay vl k 5) (.inr Z) [(.int .i64 ((l.getD k Ex.zero).kind)),(.int .i64 ((l.getD k Ex.zero).num)),(.int .i64 ((l.getD k Ex.zero).pick)),(.int .i64 ((l.getD k Ex.zero).count)),ac] B6 Z (fun wq9 au=>bv wq9 (aq.ext au)) Z Aa ?_
  have ca:=a3.lt
  refine Bo (z:=.agg #[.int .i64 0,.int .i64 0,.int .i64 0,.int .i64 0,.slice none 0 0]) Hw Aa fun w7 ad cb av=>?_
  have bw:w3.heap.size≤w7.heap.size:=ad.size
  have bx:Au S w w7:=aq.ext ad
  have a7:=a3.ext ad
  have bz:=Ct.ext hMl ad
  have c2:=hGl.ext ad
  have hO10k:=hOl.ext (Bc AR) ad
  replace av:BX w7.heap w3.heap.size [(.int .i64 0),(.int .i64 0),(.int .i64 0),(.int .i64 0),(.slice none 0 0)]:=av
  refine Bz (vs:=[(.int .i64 ((l.getD k Ex.zero).kind)),(.int .i64 ((l.getD k Ex.zero).num)),(.int .i64 ((l.getD k Ex.zero).pick)),(.int .i64 ((l.getD k Ex.zero).count)),ac]) B6 Z Z am.ones av Z Z Aa fun w11 a4 c3 a8=>?_
  replace a8:BX w11.heap w3.heap.size [(.int .i64 ((l.getD k Ex.zero).kind)),(.int .i64 ((l.getD k Ex.zero).num)),(.int .i64 ((l.getD k Ex.zero).pick)),(.int .i64 ((l.getD k Ex.zero).count)),ac]:=a8
  have a9:Au S w w11:=bx.fresh a4 (fun c hc=>by have:=A9 hc;omega)
  have aw:=Ct.chgO bz a4 (fun b hb hm=>by rw[A9 hb]at hm;exact(by have:=hGl.lt _ hm;omega))
  have a1:=c2.fresh a4 (fun c hc=>by have:=A9 hc;omega)
  have bm:w7.heap.size≤w11.heap.size:=a4.size
  have ax:=a7.chg a4 (fun hm=>by have:=A9 hm;omega)
  have ag:=hO10k.keep (Bc AR) a4 (fun b hb hm=>by have:=A9 hb;have:=hO10k.low _ hm;have:=hO10k.high _ hm;omega)
  refine Aj (Ab _ [0,0,2,0,4,3,4,0] Z (Ad 2 Z (AK (p:=(.pointer (some ⟨w3.heap.size,0,none⟩))) (.inr Z) [(.int .i64 ((l.getD k Ex.zero).kind)),(.int .i64 ((l.getD k Ex.zero).num)),(.int .i64 ((l.getD k Ex.zero).pick)),(.int .i64 ((l.getD k Ex.zero).count)),ac] B6 Z (fun wq9 au=>LD.of_box (BX.ext (w:=w11) a8 au)) Z Aa (Ad 1 Z ?_))))
  refine AA 181 [] [] [(.pointer (some ⟨g,0,none⟩)),(.agg #[(.int .i64 ((l.getD k Ex.zero).kind)),(.int .i64 ((l.getD k Ex.zero).num)),(.int .i64 ((l.getD k Ex.zero).pick)),(.int .i64 ((l.getD k Ex.zero).count)),ac]),vv] Z Z Li Aa (IHv dd6 oM _ S9 g vp dp ip (s9) (c9) p (T9) ac (l.getD k Ex.zero) vv (env) (fun b hb=>(a1.lt b hb:b<w11.heap.size)) (a1.sub _ hgS) ⟨_,_,_,ax,aw⟩ (RN.stp (An (Av dp)) hp a9 a1.new) _hip oM oM (by exact hbl) ⟨am.rng,(RN.stp (An (Aw dd6)) am.rn a9 a1.new)⟩ (RN.stp g1 henv a9 a1.new) hqenv (by exact hvp) oM (by exact hwf k hkl) (by exact hdp k hkl) (by intro h9;exact(hen (hzl h9)).mono oM)) ?_
  rintro e18 w18 ⟨r18,S18,T18,s18,c18,rfl,a0,⟨vc18,vg18,vv18,ay,az⟩,ah,ai,aj,ak⟩
  refine⟨_,rfl,?_⟩
  have bn:w11.heap.size≤w18.heap.size:=a0.chg.size
  have b0:Au S w w18:=a9.stp a0.chg a1.new
  have b1:=ag.keep (Bc AR) a0.chg (fun b hb hm=>hdl b hm hb)
  have a5:∀b∈Fo,b∉S18:=fun b hb hm=>(a0.new b hm).elim (hdl b hb) (fun h9=>by have:=ag.high b hb;omega)
  have b2:=a8.chg a0.chg (fun hm=>(by have:=hGl.lt _ hm;omega))
  have b3:w3.heap.size∉S18:=fun hm=>(a0.new _ hm).elim (fun hm=>(by have:=hGl.lt _ hm;omega)) (fun h9=>by omega)
  have b4:=a1.trans a0
  have bo:=ah.bnd
  have bp:=ah.num
  have hcz:=fun h9=>Yf ak h9
  have hrv:=ai
  refine(BI (u:=(.int .i64 r18)) (B:=w18.heap.size) AR Bt BT Z Z (Ov w18.heap.size w18.heap.size _ _ aj) (A7 _) Aa ?_)
  intro v27 w27 a2 c4 b5
  have bq:w18.heap.size≤w27.heap.size:=a2.size
  have b6:Au S w w27:=b0.ext a2
  have aa:=ay.ext a2
  have an:=b2.ext a2
  have b7:=Ct.ext az a2
  have al:=b4.ext a2
  have hO29k:=b1.ext (Bc AR) a2
  refine KX (v:=vo) (a:=v27) Bt BT Z Z Z hO29k b5.rd1 oM sD (by unfold maxLen;first|omega|assumption|(simp;done)|(simp;omega)) Aa fun v30 w30 F30 a6 c5 b8=>?_
  have br:w27.heap.size≤w30.heap.size:=a6.size
  have b9:Au S w w30:=b6.fresh a6 (fun c hc=>by have:=hO29k.low c hc;omega)
  have c6:∀b∈F30,b∉S18:=fun b hb hm=>(b8 b hb).elim (fun h9=>a5 b h9 hm) (fun h9=>by have:=al.lt b hm;omega)
  have ba:=Ct.chgO b7 a6 a5
  have bb:=al.fresh a6 (fun c hc=>by have:=hO29k.low c hc;omega)
  have bc:=aa.chg a6 (fun hm=>by have:=hO29k.low _ hm;omega)
  refine Ac 1 Z (Ab _ [0,0] Z (AP ((k+1:Nat):Int) Z Z (Bl oM oM) Aa (Ac 1 Z ?_)))
  have hMe:=ba
  have hGe:=bb
  have hPe:UY T T18 s0 s18 c18:=⟨by assumption,by omega⟩
  exact⟨((k+1),v30,(xs++[r18]),F30,S18,T18,s18,c18,vc18,vg18,vv18),_,rfl,⟨rfl,rfl,rfl,rfl,rfl,rfl,trivial⟩,⟨b9,bc,sD,(by exact hGe),(by exact hMe),(by exact hPe),(by assumption),(by assumption),(by rw[List.length_append,List.length_singleton,hxl]),(by exact fun h9=>hzl (hcz h9)),(by exact fun h9=>JH.snoc ((hxb (hcz h9)).mono oM) (hrv h9)),(by exact U3 oM hrl (by assumption))⟩,by first|omega|(dsimp only;omega)⟩
 ·exact AG false Z Z (A6 bl) Aa (Aj (A0 (Ah Z (A4 (Ax (Ax (At (A0 (Ab _ [0,0] Z (Ac 2 Z (A1 (Af [6] Z vo Z ⟨vo,xs,_,T9,s9,c9,rfl,hGl,⟨_,_,_,a3,hMl⟩,⟨(by exact hbl),oM⟩,QK.of_ow hOl hdl,hOl.fr.cap,oM,(by exact hxb),(by rw[List.take_of_length_le oM]at hrl;exact hrl)⟩))))))))))))
theorem EJ (w:World)(v:Value)(n:Nat)(hs:EA v n)(hcs:C5 v)  :
  Calls Tryz.prog 228 #[v] w (fun e w'=>e=.returned (DJ v)∧w'=w):=by
 refine Aq [v] 9 Tryz.func228 Z Z sM ?_
 have a0:w=w:=rfl
 exact A0 (Ab _ [0] Z (Ac 1 Z (A0 (Ab _ [0,0,0,0,0,0,0] Z (Ad 2 Z (AQ (v:=v) Bt Z hs Aa (Ad 1 Z (AQ (v:=v) Bt Z hs Aa (Rg (v:=v) Bt BT Z hs Z Z hcs Aa (Ac 1 Z (A1 (Af [2] Z (DJ v) Z ⟨rfl,a0⟩))))))))))))
theorem JV {p:Prop}(h:p:=by first|rw[(S5 (k:=c_op) (a:=a) (b:=b) oM).1,(S5 (k:=c_op) (a:=a) (b:=b) oM).2] <;> rfl|rw[(S6 (k:=c_op) (a:=a) (b:=b) oM).1,(S6 (k:=c_op) (a:=a) (b:=b) oM).2] <;> rfl|rw[(S7 (k:=c_op) (a:=a) (b:=b) oM).1,(S7 (k:=c_op) (a:=a) (b:=b) oM).2] <;> rfl|rw[(S8 (k:=c_op) (a:=a) (b:=b) oM).1,(S8 (k:=c_op) (a:=a) (b:=b) oM).2] <;> rfl|rw[(PP (k:=c_op) (a:=a) (b:=b) oM oM).1,(PP (k:=c_op) (a:=a) (b:=b) oM oM).2] <;> rfl|rw[(Sa (k:=c_op) (a:=a) (b:=b) oM oM).1,(Sa (k:=c_op) (a:=a) (b:=b) oM oM).2] <;> rfl):p:=h
theorem H3 (w:World)(c_op c_a c_b c_n:Int)(a:Int)(b:Int)(_hc_op:Bx c_op)(_hc_a:Bx c_a)(_hc_b:Bx c_b)(_hc_n:Bx c_n)(_ha:Bx a)(_hb:Bx b)(hop:3≤c_op∧c_op≤7) :
  Calls Tryz.prog 258 #[(.agg #[(.int .i64 c_op),(.int .i64 c_a),(.int .i64 c_b),(.int .i64 c_n)]),.int .i64 a,.int .i64 b] w (fun e w'=>e=.returned (.tuple #[.int .i64 (if E5 c_op b then 0 else H7 c_op a b),.bool (!decide (E5 c_op b))])∧AF w w'):=by
 refine Aq [(.agg #[(.int .i64 c_op),(.int .i64 c_a),(.int .i64 c_b),(.int .i64 c_n)]),.int .i64 a,.int .i64 b] 35 Tryz.func258 Z Z sM ?_
 have a8:AF w w:=AF.refl w
 refine A0 (Ab _ [3,0,0] Z (Bu (cs:=#[(.int .i64 c_op),(.int .i64 c_a),(.int .i64 c_b),(.int .i64 c_n)]) Z Aa fun w1 a3 aa a2=>?_))
 have a9:=a3.size
 have a0:=a8.trans a3
 replace a2:BX w1.heap w.heap.size [(.int .i64 c_op),(.int .i64 c_a),(.int .i64 c_b),(.int .i64 c_n)]:=a2
 refine Ac 2 Z (A0 (A0 (Ab _ [0,2] Z (Ak (p:=(.pointer (some ⟨w.heap.size,0,none⟩))) (b:=w.heap.size) (o:=0) 0 Ln Z Z Aa (Ai (p:=(Ap (.pointer (some ⟨w.heap.size,0,none⟩)) 0)) (.inr Z) (.int .i64 c_op) AD Z (a2.ldp (i:=0) sM) Aa (Aj (A3 (A0 (Ab _ [0,0] Z ?_)))))))))
 by_cases a4:c_op=((3:Nat):Int)
 ·refine Am true Z Z (A5 a4) Aa (Ac 1 Z (Ag Z (A0 (Ab _ [0,0,0,0,0] Z (Ad 2 Z (Az 230 [] [] [(.int .i64 a),(.int .i64 b)] Z Z T5 Aa (.int .i64 (md (a+b))) (fun wq=>Hx wq _ _ _ha _hb) (Ac 2 Z (A1 (AC (Al ?_))))))))))
  exact Af [6,7] Z (.tuple #[(.int .i64 (md (a+b))),(.bool true)]) Z ⟨JV,a0⟩
 ·refine Am false Z Z (A6 a4) Aa (Ac 1 Z (Ah Z (A0 (Ab _ [0,0] Z ?_))))
  by_cases a5:c_op=((4:Nat):Int)
  ·refine Am true Z Z (A5 a5) Aa (Ac 1 Z (Ag Z (A0 (Ab _ [0,0,0,0,0] Z (Ad 2 Z (Az 191 [] [] [(.int .i64 a),(.int .i64 b)] Z Z T0 Aa (.int .i64 (md (a-b))) (fun wq=>GR wq _ _ _ha _hb) (Ac 2 Z (A1 (AC (Al ?_))))))))))
   exact Af [6,7] Z (.tuple #[(.int .i64 (md (a-b))),(.bool true)]) Z ⟨JV,a0⟩
  ·refine Am false Z Z (A6 a5) Aa (Ac 1 Z (Ah Z (A0 (Ab _ [0,0] Z ?_))))
   by_cases a6:c_op=((5:Nat):Int)
   ·refine Am true Z Z (A5 a6) Aa (Ac 1 Z (Ag Z (A0 (Ab _ [0,0,0,0,0] Z (Ad 2 Z (Az 190 [] [] [(.int .i64 a),(.int .i64 b)] Z Z Vz Aa (.int .i64 (md (a*b))) (fun wq=>Jo wq _ _ _ha _hb) (Ac 2 Z (A1 (AC (Al ?_))))))))))
    exact Af [6,7] Z (.tuple #[(.int .i64 (md (a*b))),(.bool true)]) Z ⟨JV,a0⟩
   ·refine Am false Z Z (A6 a6) Aa (Ac 1 Z (Ah Z (A0 (Ab _ [0,0] Z ?_))))
    by_cases a7:c_op=((7:Nat):Int)
    ·refine Am true Z Z (A5 a7) Aa (Ac 1 Z (Ag Z (A0 (Ab _ [0,0,0,0] Z (Ad 1 Z (Az 191 [] [] [(.int .i64 ((0:Nat):Int)),(.int .i64 a)] Z Z T0 Aa (.int .i64 (md (((0:Nat):Int)-a))) (fun wq=>GR wq _ _ oM _ha) (Ac 2 Z (A1 (AC (Al ?_))))))))))
     exact Af [6,7] Z (.tuple #[(.int .i64 (md (((0:Nat):Int)-a))),(.bool true)]) Z ⟨JV,a0⟩
    ·refine Am false Z Z (A6 a7) Aa (Ac 1 Z (Ah Z (A2 (A0 (A0 (Ab _ [0,0] Z (Ad 1 Z ?_)))))))
     by_cases a1:b=((0:Nat):Int)
     ·refine Am true Z Z (A5 a1) Aa (Aj (Ag Z (A0 (Ab _ [0,0] Z (Ac 2 Z (A1 (Al ?_)))))))
      exact Af [6,7] Z (.tuple #[(.int .i64 ((0:Nat):Int)),(.bool false)]) Z ⟨JV,a0⟩
     ·refine Am false Z Z (A6 a1) Aa (Aj (Ah Z (A2 (A0 (Ab _ [0,0,0,0,0,0] Z (Ad 2 Z (Az 226 [] [] [(.int .i64 b)] Z Z VC Aa (.int .i64 (inv b)) (fun wq=>Hy wq _ _hb) (Az 190 [] [] [(.int .i64 a),(.int .i64 (inv b))] Z Z Vz Aa (.int .i64 (md (a*(inv b)))) (fun wq=>Jo wq _ _ _ha (Ps _)) (Ac 2 Z (A1 ?_))))))))))
      exact Af [6,7] Z (.tuple #[(.int .i64 (md (a*(inv b)))),(.bool true)]) Z ⟨JV,a0⟩
theorem Nf {p:Prop}(h:p:=by first|exact U5 hc00 oM (Yg (by assumption))|exact U6 hc00 oM (aK (by assumption))|exact U7 hc00 oM|exact absurd (Yg (Q:=E5 op _) (by assumption)) (UX oM)):p:=h
theorem Ng {p:Prop}(h:p:=by first|(intro h9;exact absurd h9 oM)|(intro h9;omega)):p:=h
theorem Nh {p:Prop}(h:p:=by first|exact hbd.up oM|exact hbd.put _ hvr):p:=h
theorem E3 {p:Prop}(h:p:=by have:=hG0.lt _ hm;omega):p:=h
theorem FA (w:World)(S:List Nat)(g:Nat)(vp:Value)(dp:Nat)(ip:Int)(s0:Nat)(c0:Int)(p:List Fn)(T:Tp)(op:Int)(vk:Value)(ks:List Int)(hS:∀b∈S,b<w.heap.size)(hgS:g∈S)(hR0:QX 69 208 2 S g w.heap vp ip T s0 c0)(hp:RP S dp w.heap vp p)(_hip:Bx ip)(hs0:s0≤3000)(hc0:0≤c0∧c0≤9)(hbd:JG T s0)(_hop:Bx op)(hks:RN S (B3 rI) w.heap vk ks)(hqks:C5 vk)(hop:3≤op∧op≤7)(hkl:1≤ks.length∧(op≠7→2≤ks.length))(hen:JH T ks)(hc00:c0=0) :
  Calls Tryz.prog 229 #[.pointer (some ⟨g,0,none⟩),.int .i64 op,vk] w (fun e w'=>∃(r:Int) (S':List Nat) (T':Tp) (c1:Int),e=.returned (.int .i64 r)∧Fz S S' w w'∧QX 69 208 2 S' g w'.heap vp ip T' s0 c1∧JG T' (s0+1)∧((0≤c1∧c1≤9)∧T.vals.length≤T'.vals.length∧T'.vals.length≤T.vals.length+1∧T'.grd.length=T.grd.length)∧(c1=0→0≤r∧r<((T'.vals.length:Nat):Int))∧(Bx r)∧AH (go c0 (RZ op ks s0 T)) (r,T') s0 c1):=by
 refine Aq [.pointer (some ⟨g,0,none⟩),.int .i64 op,vk] 51 Tryz.func229 Z Z sM ?_
 have bi:Au S w w:=Au.refl S w
 have hl_vp:=hp.lenle
 unfold maxLen at hl_vp
 have hl_vk:=hks.lenL
 unfold maxLen at hl_vk
 obtain⟨rc0,rg0,rv0,b0,bv⟩:=hR0
 have hgl:=b0.lt
 have hG0:Fz S S w w:=Fz.refl hS
 have ch:=hen 0 oM
 have hbn:=hbd.ln hs0
 refine A0 (Ab _ [0] Z (Ac 1 Z (A0 (Ab _ [0,0,0,2,0,3,4] Z (Ad 2 Z (AB (v:=vk) 0 Bt BT Z Z hks.slL Z sD Aa ?_))))))
 have am:=RN.getI (w:=w) (k:=0) hks sD
 refine Ai (p:=Ay vk 0 1) (.inr Z) (.int .i64 (ks.getD 0 0)) AD Z (am.1 _ bi) Aa ?_
 have b1:∀(wq:World),(Instr.build 69 #[(0,(.int .i64 op)),(1,(.int .i64 (ks.getD 0 0)))]).run Tryz.prog wq=.ok (.agg #[(.int .i64 op),(.int .i64 (ks.getD 0 0)),(.int .i64 0),(.int .i64 0)]) wq:=by intro wq;kernel_rfl
 refine C3 (ps:=#[(0,(.int .i64 op)),(1,(.int .i64 (ks.getD 0 0)))]) (.agg #[(.int .i64 op),(.int .i64 (ks.getD 0 0)),(.int .i64 0),(.int .i64 0)]) (by simp only[List.map_toArray,List.map_cons,List.map_nil];rfl) (fun wq=>b1  wq) Aa ?_
 have ci:=b0.lt
 refine Bo (z:=.agg #[.int .i64 0,.int .i64 0,.int .i64 0,.int .i64 0]) Ta Aa fun w3 an cj b2=>?_
 have bw:w.heap.size≤w3.heap.size:=an.size
 have bx:Au S w w3:=bi.ext an
 have ao:=b0.ext an
 have bz:=Ct.ext bv an
 have c2:=hG0.ext an
 replace b2:BX w3.heap w.heap.size [(.int .i64 0),(.int .i64 0),(.int .i64 0),(.int .i64 0)]:=b2
 refine Bz (vs:=[(.int .i64 op),(.int .i64 (ks.getD 0 0)),(.int .i64 (0:Int)),(.int .i64 (0:Int))]) Fl Z Z (by intro u hu;simp only[List.mem_cons,List.not_mem_nil,or_false]at hu;rcases hu with rfl|rfl|rfl|rfl <;> first|exact⟨rfl,rfl⟩) b2 Z Z Aa fun w6 ap ck ag=>?_
 replace ag:BX w6.heap w.heap.size [(.int .i64 op),(.int .i64 (ks.getD 0 0)),(.int .i64 (0:Int)),(.int .i64 (0:Int))]:=ag
 have b3:Au S w w6:=bx.fresh ap (fun c hc=>by have:=A9 hc;omega)
 have af:=Ct.chgO bz ap (fun b hb hm=>by rw[A9 hb]at hm;exact E3)
 have bj:=c2.fresh ap (fun c hc=>by have:=A9 hc;omega)
 have c3:w3.heap.size≤w6.heap.size:=ap.size
 have az:=ao.chg ap (fun hm=>by have:=A9 hm;omega)
 refine Aj (A0 (A0 (Ab _ [0,0] Z (Ad 1 Z ?_))))
 by_cases aq:op≠((7:Nat):Int)
 ·refine AT true Z Z (A5 aq) Aa (Aj (Ag Z (Ab _ [0,0,2,0,4] Z ?_)))
  have cl:=hen 1 oM
  refine Ad 1 Z (AB (v:=vk) 1 Bt BT Z Z hks.slL Z sD Aa ?_)
  have ah:=RN.getI (w:=w) (k:=1) hks sD
  refine Ai (p:=Ay vk 1 1) (.inr Z) (.int .i64 (ks.getD 1 0)) AD Z (ah.1 _ b3) Aa (Ak (p:=(.pointer (some ⟨w.heap.size,0,none⟩))) (b:=w.heap.size) (o:=0) 2 CB Z Z Aa (Be (k:=2) (w:=w6) Hv Z Z ⟨rfl,rfl⟩ ag sM Aa fun w12 a9 c4 a8=>?_))
  replace a8:BX w12.heap w.heap.size [(.int .i64 op),(.int .i64 (ks.getD 0 0)),(.int .i64 (ks.getD 1 0)),(.int .i64 (0:Int))]:=a8
  have b4:Au S w w12:=b3.fresh a9 (fun c hc=>by have:=A9 hc;omega)
  have a3:=Ct.chgO af a9 (fun b hb hm=>by rw[A9 hb]at hm;exact E3)
  have b5:=bj.fresh a9 (fun c hc=>by have:=A9 hc;omega)
  have bk:w6.heap.size≤w12.heap.size:=a9.size
  have ai:=az.chg a9 (fun hm=>by have:=A9 hm;omega)
  refine Aj (A0 (AO _ [1,0,0,0,1,0,1,0,1,0,0,0,1,0,1,0,1,3,0,0,0,0,0] mixed (by kernel_rfl) (AK (p:=(.pointer (some ⟨w.heap.size,0,none⟩))) (.inl Z) [(.int .i64 op),(.int .i64 (ks.getD 0 0)),(.int .i64 (ks.getD 1 0)),(.int .i64 (0:Int))] Fl Z (fun wq9 aj=>LD.of_box (BX.ext (w:=w12.drew) a8 aj)) Z Aa (Ad 1 Z (AY Z Aa (Ak (p:=(.pointer (some ⟨g,0,none⟩))) (b:=g) (o:=0) 5 DC Z Z Aa (Ai (p:=(Ap (.pointer (some ⟨g,0,none⟩)) 5)) (.inl Z) rv0 Bj Z (ai.ldp (i:=5) sM) Aa (Ak (p:=(.pointer (some ⟨w.heap.size,0,none⟩))) (b:=w.heap.size) (o:=0) 1 CK Z Z Aa ?_))))))))
  refine Ai (p:=(Ap (.pointer (some ⟨w.heap.size,0,none⟩)) 1)) (.inl Z) (.int .i64 (ks.getD 0 0)) AD Z (a8.ldp (i:=1) sM) Aa (AB (v:=rv0) ((ks.getD 0 0).toNat) Bt BT Z Z (Ct.slv a3) oM oM Aa (Ai (p:=Ay rv0 ((ks.getD 0 0).toNat) 1) (.inl Z) (.int .i64 (T.vals.getD ((ks.getD 0 0).toNat) 0)) AD Z ((Ct.rdv a3).getI oM).1 Aa (Ad 1 Z (AY Z Aa (Ak (p:=(.pointer (some ⟨g,0,none⟩))) (b:=g) (o:=0) 5 DC Z Z Aa (Ai (p:=(Ap (.pointer (some ⟨g,0,none⟩)) 5)) (.inl Z) rv0 Bj Z (ai.ldp (i:=5) sM) Aa (Ak (p:=(.pointer (some ⟨w.heap.size,0,none⟩))) (b:=w.heap.size) (o:=0) 2 CB Z Z Aa ?_)))))))
  refine Ai (p:=(Ap (.pointer (some ⟨w.heap.size,0,none⟩)) 2)) (.inl Z) (.int .i64 (ks.getD 1 0)) AD Z (a8.ldp (i:=2) sM) Aa (AB (v:=rv0) ((ks.getD 1 0).toNat) Bt BT Z Z (Ct.slv a3) oM oM Aa (Ai (p:=Ay rv0 ((ks.getD 1 0).toNat) 1) (.inl Z) (.int .i64 (T.vals.getD ((ks.getD 1 0).toNat) 0)) AD Z ((Ct.rdv a3).getI oM).1 Aa (As 258 [] [] [(.agg #[(.int .i64 op),(.int .i64 (ks.getD 0 0)),(.int .i64 (ks.getD 1 0)),(.int .i64 (0:Int))]),(.int .i64 (T.vals.getD ((ks.getD 0 0).toNat) 0)),(.int .i64 (T.vals.getD ((ks.getD 1 0).toNat) 0))] Z Z VG Aa (H3 _ (op) (ks.getD 0 0) (ks.getD 1 0) ((0:Int)) _ _ _hop am.2 ah.2 oM ((Ct.rdv a3).getI oM).2 ((Ct.rdv a3).getI oM).2 oM) ?_)))
  rintro e16 w16 ⟨rfl,a0⟩
  refine⟨_,rfl,a0,?_⟩
  replace a0:=a0.of_drew
  have bl:w12.heap.size≤w16.heap.size:=a0.size
  have ar:Au S w w16:=b4.ext a0
  have a7:=ai.ext a0
  have a2:=a8.ext a0
  have c5:=(Ct.rdv a3).ext g1 a0
  have au:=Ct.ext a3 a0
  have aa:=b5.ext a0
  refine Ad 1 Z (AM (vs:=[(.int .i64 (if E5 op (T.vals.getD ((ks.getD 1 0).toNat) 0)then 0 else H7 op (T.vals.getD ((ks.getD 0 0).toNat) 0) (T.vals.getD ((ks.getD 1 0).toNat) 0))),(.bool (!decide (E5 op (T.vals.getD ((ks.getD 1 0).toNat) 0))))]) (.int .i64 (if E5 op (T.vals.getD ((ks.getD 1 0).toNat) 0)then 0 else H7 op (T.vals.getD ((ks.getD 0 0).toNat) 0) (T.vals.getD ((ks.getD 1 0).toNat) 0))) Z Z Aa (AM (vs:=[(.int .i64 (if E5 op (T.vals.getD ((ks.getD 1 0).toNat) 0)then 0 else H7 op (T.vals.getD ((ks.getD 0 0).toNat) 0) (T.vals.getD ((ks.getD 1 0).toNat) 0))),(.bool (!decide (E5 op (T.vals.getD ((ks.getD 1 0).toNat) 0))))]) (.bool (!decide (E5 op (T.vals.getD ((ks.getD 1 0).toNat) 0)))) Z Z Aa (Ac 2 Z (A0 (A0 (Ab _ [0,0] Z ?_))))))
  have hvr:0≤(if E5 op (T.vals.getD ((ks.getD 1 0).toNat) 0)then 0 else H7 op (T.vals.getD ((ks.getD 0 0).toNat) 0) (T.vals.getD ((ks.getD 1 0).toNat) 0))∧(if E5 op (T.vals.getD ((ks.getD 1 0).toNat) 0)then 0 else H7 op (T.vals.getD ((ks.getD 0 0).toNat) 0) (T.vals.getD ((ks.getD 1 0).toNat) 0))<1000003:=PR _ _ _
  refine Ad 1 Z (Bn (!(!decide (E5 op (T.vals.getD ((ks.getD 1 0).toNat) 0)))) Z Z Aa (Aj ?_))
  cases av:(!(!decide (E5 op (T.vals.getD ((ks.getD 1 0).toNat) 0))))
  ·refine Ah (by first|rfl|(show Value.bool _=_;rw[av])) (A2 (A0 (Ab _ [0,2,0,4,0] Z (Ad 1 Z (AK (p:=(.pointer (some ⟨w.heap.size,0,none⟩))) (.inr Z) [(.int .i64 op),(.int .i64 (ks.getD 0 0)),(.int .i64 (ks.getD 1 0)),(.int .i64 (0:Int))] Fl Z (fun wq9 aj=>LD.of_box (BX.ext (w:=w16) a2 aj)) Z Aa (Ad 1 Z ?_))))))
   refine AA 101 [] [] [(.pointer (some ⟨g,0,none⟩)),(.agg #[(.int .i64 op),(.int .i64 (ks.getD 0 0)),(.int .i64 (ks.getD 1 0)),(.int .i64 (0:Int))]),(.int .i64 (if E5 op (T.vals.getD ((ks.getD 1 0).toNat) 0)then 0 else H7 op (T.vals.getD ((ks.getD 0 0).toNat) 0) (T.vals.getD ((ks.getD 1 0).toNat) 0)))] Z Z Qk Aa (CF _ S g vp ip (s0) (c0) (T) (⟨op,ks.getD 0 0,ks.getD 1 0,(0:Int)⟩:AE) (if E5 op (T.vals.getD ((ks.getD 1 0).toNat) 0)then 0 else H7 op (T.vals.getD ((ks.getD 0 0).toNat) 0) (T.vals.getD ((ks.getD 1 0).toNat) 0)) (fun b hb=>(aa.lt b hb:b<w16.heap.size)) (aa.sub _ hgS) ⟨_,_,_,a7,au⟩ _hip (by exact hbd.ln hs0) ⟨_hop,am.2,ah.2,(show Bx ((0:Int))from by omega)⟩ (by have:=MP op (T.vals.getD ((ks.getD 0 0).toNat) 0) (T.vals.getD ((ks.getD 1 0).toNat) 0);split <;> omega)) ?_
   rintro e20 w20 ⟨S20,rfl,a4,vc20,vg20,vv20,b6,b7⟩
   refine⟨_,rfl,?_⟩
   have bm:w16.heap.size≤w20.heap.size:=a4.chg.size
   have c6:Au S w w20:=ar.stp a4.chg aa.new
   have c7:=a2.chg a4.chg (fun hm=>E3)
   have b8:w.heap.size∉S20:=fun hm=>(a4.new _ hm).elim (fun hm=>E3) (fun h9=>by omega)
   have b9:=aa.trans a4
   have bn:(T.put (⟨op,ks.getD 0 0,ks.getD 1 0,(0:Int)⟩:AE) (if E5 op (T.vals.getD ((ks.getD 1 0).toNat) 0)then 0 else H7 op (T.vals.getD ((ks.getD 0 0).toNat) 0) (T.vals.getD ((ks.getD 1 0).toNat) 0))).vals.length=T.vals.length+1:=GJ _ _ _
   have bo:(T.put (⟨op,ks.getD 0 0,ks.getD 1 0,(0:Int)⟩:AE) (if E5 op (T.vals.getD ((ks.getD 1 0).toNat) 0)then 0 else H7 op (T.vals.getD ((ks.getD 0 0).toNat) 0) (T.vals.getD ((ks.getD 1 0).toNat) 0))).grd.length=T.grd.length:=rfl
   exact Ac 1 Z (A1 (Af [6] Z (.int .i64 ((T.vals.length:Nat):Int)) Z ⟨((T.vals.length:Nat):Int),_,T.put (⟨op,ks.getD 0 0,ks.getD 1 0,(0:Int)⟩:AE) (if E5 op (T.vals.getD ((ks.getD 1 0).toNat) 0)then 0 else H7 op (T.vals.getD ((ks.getD 0 0).toNat) 0) (T.vals.getD ((ks.getD 1 0).toNat) 0)),c0,rfl,b9,⟨_,_,_,b6,b7⟩,Nh,oM,Ng,oM,Nf⟩))
  ·refine Ag (by first|rfl|(show Value.bool _=_;rw[av])) (A0 (Ab _ [0,0,0,4] Z (Ad 1 Z (AY Z Aa (Ak (p:=(.pointer (some ⟨g,0,none⟩))) (b:=g) (o:=0) 7 ES Z Z Aa (Be (k:=7) (w:=w16) Hv Z Z ⟨rfl,rfl⟩ a7 sM Aa fun w27 ab c8 ak=>?_))))))
   replace ak:BX w27.heap g [vp,(.int .i64 ip),rc0,rg0,(.slice none 0 0),rv0,(.int .i64 ((s0:Nat):Int)),(.int .i64 ((6:Nat):Int))]:=ak
   have c9:Au S w w27:=ar.trans (ab.sub (AX hgS))
   have ba:=Ct.chg au ab
   have bb:=aa.set hgS ab
   have bp:w16.heap.size≤w27.heap.size:=ab.size
   have ca:=a2.chg ab (fun hm=>by have:=A9 hm;omega)
   exact Aj (A0 (Ab _ [0] Z (Ac 1 Z (A1 (Al (Af [6] Z (.int .i64 ((0:Nat):Int)) Z ⟨((0:Nat):Int),_,T,((6:Nat):Int),rfl,bb,⟨_,_,_,ak,ba⟩,Nh,oM,Ng,oM,Nf⟩))))))
 ·refine AT false Z Z (A6 aq) Aa (Aj (Ah Z (A2 (A0 (AO _ [1,0,0,0,1,0,1,0,1,0,0,0,1,0,1,0,1,3,0,0,0,0,0] mixed (by kernel_rfl) (AK (p:=(.pointer (some ⟨w.heap.size,0,none⟩))) (.inl Z) [(.int .i64 op),(.int .i64 (ks.getD 0 0)),(.int .i64 (0:Int)),(.int .i64 (0:Int))] Fl Z (fun wq9 aj=>LD.of_box (BX.ext (w:=w6.drew) ag aj)) Z Aa (Ad 1 Z (AY Z Aa (Ak (p:=(.pointer (some ⟨g,0,none⟩))) (b:=g) (o:=0) 5 DC Z Z Aa (Ai (p:=(Ap (.pointer (some ⟨g,0,none⟩)) 5)) (.inl Z) rv0 Bj Z (az.ldp (i:=5) sM) Aa (Ak (p:=(.pointer (some ⟨w.heap.size,0,none⟩))) (b:=w.heap.size) (o:=0) 1 CK Z Z Aa ?_)))))))))))
  refine Ai (p:=(Ap (.pointer (some ⟨w.heap.size,0,none⟩)) 1)) (.inl Z) (.int .i64 (ks.getD 0 0)) AD Z (ag.ldp (i:=1) sM) Aa (AB (v:=rv0) ((ks.getD 0 0).toNat) Bt BT Z Z (Ct.slv af) oM oM Aa (Ai (p:=Ay rv0 ((ks.getD 0 0).toNat) 1) (.inl Z) (.int .i64 (T.vals.getD ((ks.getD 0 0).toNat) 0)) AD Z ((Ct.rdv af).getI oM).1 Aa (Ad 1 Z (AY Z Aa (Ak (p:=(.pointer (some ⟨g,0,none⟩))) (b:=g) (o:=0) 5 DC Z Z Aa (Ai (p:=(Ap (.pointer (some ⟨g,0,none⟩)) 5)) (.inl Z) rv0 Bj Z (az.ldp (i:=5) sM) Aa (Ak (p:=(.pointer (some ⟨w.heap.size,0,none⟩))) (b:=w.heap.size) (o:=0) 2 CB Z Z Aa ?_)))))))
  refine Ai (p:=(Ap (.pointer (some ⟨w.heap.size,0,none⟩)) 2)) (.inl Z) (.int .i64 (0:Int)) AD Z (ag.ldp (i:=2) sM) Aa (AB (v:=rv0) (((0:Int)).toNat) Bt BT Z Z (Ct.slv af) oM oM Aa (Ai (p:=Ay rv0 (((0:Int)).toNat) 1) (.inl Z) (.int .i64 (T.vals.getD (((0:Int)).toNat) 0)) AD Z ((Ct.rdv af).getI oM).1 Aa (As 258 [] [] [(.agg #[(.int .i64 op),(.int .i64 (ks.getD 0 0)),(.int .i64 (0:Int)),(.int .i64 (0:Int))]),(.int .i64 (T.vals.getD ((ks.getD 0 0).toNat) 0)),(.int .i64 (T.vals.getD (((0:Int)).toNat) 0))] Z Z VG Aa (H3 _ (op) (ks.getD 0 0) ((0:Int)) ((0:Int)) _ _ _hop am.2 oM oM ((Ct.rdv af).getI oM).2 ((Ct.rdv af).getI oM).2 oM) ?_)))
  rintro e32 w32 ⟨rfl,a1⟩
  refine⟨_,rfl,a1,?_⟩
  replace a1:=a1.of_drew
  have bq:w6.heap.size≤w32.heap.size:=a1.size
  have aw:Au S w w32:=b3.ext a1
  have ac:=az.ext a1
  have a6:=ag.ext a1
  have cb:=(Ct.rdv af).ext g1 a1
  have ax:=Ct.ext af a1
  have ad:=bj.ext a1
  refine Ad 1 Z (AM (vs:=[(.int .i64 (if E5 op (T.vals.getD (((0:Int)).toNat) 0)then 0 else H7 op (T.vals.getD ((ks.getD 0 0).toNat) 0) (T.vals.getD (((0:Int)).toNat) 0))),(.bool (!decide (E5 op (T.vals.getD (((0:Int)).toNat) 0))))]) (.int .i64 (if E5 op (T.vals.getD (((0:Int)).toNat) 0)then 0 else H7 op (T.vals.getD ((ks.getD 0 0).toNat) 0) (T.vals.getD (((0:Int)).toNat) 0))) Z Z Aa (AM (vs:=[(.int .i64 (if E5 op (T.vals.getD (((0:Int)).toNat) 0)then 0 else H7 op (T.vals.getD ((ks.getD 0 0).toNat) 0) (T.vals.getD (((0:Int)).toNat) 0))),(.bool (!decide (E5 op (T.vals.getD (((0:Int)).toNat) 0))))]) (.bool (!decide (E5 op (T.vals.getD (((0:Int)).toNat) 0)))) Z Z Aa (Ac 2 Z (A0 (A0 (Ab _ [0,0] Z ?_))))))
  have hvr:0≤(if E5 op (T.vals.getD (((0:Int)).toNat) 0)then 0 else H7 op (T.vals.getD ((ks.getD 0 0).toNat) 0) (T.vals.getD (((0:Int)).toNat) 0))∧(if E5 op (T.vals.getD (((0:Int)).toNat) 0)then 0 else H7 op (T.vals.getD ((ks.getD 0 0).toNat) 0) (T.vals.getD (((0:Int)).toNat) 0))<1000003:=PR _ _ _
  refine Ad 1 Z (Bn (!(!decide (E5 op (T.vals.getD (((0:Int)).toNat) 0)))) Z Z Aa (Aj ?_))
  cases ay:(!(!decide (E5 op (T.vals.getD (((0:Int)).toNat) 0))))
  ·refine Ah (by first|rfl|(show Value.bool _=_;rw[ay])) (A2 (A0 (Ab _ [0,2,0,4,0] Z (Ad 1 Z (AK (p:=(.pointer (some ⟨w.heap.size,0,none⟩))) (.inr Z) [(.int .i64 op),(.int .i64 (ks.getD 0 0)),(.int .i64 (0:Int)),(.int .i64 (0:Int))] Fl Z (fun wq9 aj=>LD.of_box (BX.ext (w:=w32) a6 aj)) Z Aa (Ad 1 Z ?_))))))
   refine AA 101 [] [] [(.pointer (some ⟨g,0,none⟩)),(.agg #[(.int .i64 op),(.int .i64 (ks.getD 0 0)),(.int .i64 (0:Int)),(.int .i64 (0:Int))]),(.int .i64 (if E5 op (T.vals.getD (((0:Int)).toNat) 0)then 0 else H7 op (T.vals.getD ((ks.getD 0 0).toNat) 0) (T.vals.getD (((0:Int)).toNat) 0)))] Z Z Qk Aa (CF _ S g vp ip (s0) (c0) (T) (⟨op,ks.getD 0 0,(0:Int),(0:Int)⟩:AE) (if E5 op (T.vals.getD (((0:Int)).toNat) 0)then 0 else H7 op (T.vals.getD ((ks.getD 0 0).toNat) 0) (T.vals.getD (((0:Int)).toNat) 0)) (fun b hb=>(ad.lt b hb:b<w32.heap.size)) (ad.sub _ hgS) ⟨_,_,_,ac,ax⟩ _hip (by exact hbd.ln hs0) ⟨_hop,am.2,(show Bx ((0:Int))from by omega),(show Bx ((0:Int))from by omega)⟩ (by have:=MP op (T.vals.getD ((ks.getD 0 0).toNat) 0) (T.vals.getD (((0:Int)).toNat) 0);split <;> omega)) ?_
   rintro e36 w36 ⟨S36,rfl,a5,vc36,vg36,vv36,bc,bd⟩
   refine⟨_,rfl,?_⟩
   have br:w32.heap.size≤w36.heap.size:=a5.chg.size
   have cc:Au S w w36:=aw.stp a5.chg ad.new
   have cd:=a6.chg a5.chg (fun hm=>E3)
   have be:w.heap.size∉S36:=fun hm=>(a5.new _ hm).elim (fun hm=>E3) (fun h9=>by omega)
   have bf:=ad.trans a5
   have bs:(T.put (⟨op,ks.getD 0 0,(0:Int),(0:Int)⟩:AE) (if E5 op (T.vals.getD (((0:Int)).toNat) 0)then 0 else H7 op (T.vals.getD ((ks.getD 0 0).toNat) 0) (T.vals.getD (((0:Int)).toNat) 0))).vals.length=T.vals.length+1:=GJ _ _ _
   have bt:(T.put (⟨op,ks.getD 0 0,(0:Int),(0:Int)⟩:AE) (if E5 op (T.vals.getD (((0:Int)).toNat) 0)then 0 else H7 op (T.vals.getD ((ks.getD 0 0).toNat) 0) (T.vals.getD (((0:Int)).toNat) 0))).grd.length=T.grd.length:=rfl
   exact Ac 1 Z (A1 (Af [6] Z (.int .i64 ((T.vals.length:Nat):Int)) Z ⟨((T.vals.length:Nat):Int),_,T.put (⟨op,ks.getD 0 0,(0:Int),(0:Int)⟩:AE) (if E5 op (T.vals.getD (((0:Int)).toNat) 0)then 0 else H7 op (T.vals.getD ((ks.getD 0 0).toNat) 0) (T.vals.getD (((0:Int)).toNat) 0)),c0,rfl,bf,⟨_,_,_,bc,bd⟩,Nh,oM,Ng,oM,Nf⟩))
  ·refine Ag (by first|rfl|(show Value.bool _=_;rw[ay])) (A0 (Ab _ [0,0,0,4] Z (Ad 1 Z (AY Z Aa (Ak (p:=(.pointer (some ⟨g,0,none⟩))) (b:=g) (o:=0) 7 ES Z Z Aa (Be (k:=7) (w:=w32) Hv Z Z ⟨rfl,rfl⟩ ac sM Aa fun w43 ae ce al=>?_))))))
   replace al:BX w43.heap g [vp,(.int .i64 ip),rc0,rg0,(.slice none 0 0),rv0,(.int .i64 ((s0:Nat):Int)),(.int .i64 ((6:Nat):Int))]:=al
   have cf:Au S w w43:=aw.trans (ae.sub (AX hgS))
   have bg:=Ct.chg ax ae
   have bh:=ad.set hgS ae
   have bu:w32.heap.size≤w43.heap.size:=ae.size
   have cg:=a6.chg ae (fun hm=>by have:=A9 hm;omega)
   exact Aj (A0 (Ab _ [0] Z (Ac 1 Z (A1 (Al (Af [6] Z (.int .i64 ((0:Nat):Int)) Z ⟨((0:Nat):Int),_,T,((6:Nat):Int),rfl,bh,⟨_,_,_,al,bg⟩,Nh,oM,Ng,oM,Nf⟩))))))
theorem Pc (F d:Nat)(IH:∀d',d'<d→ZI F d'):cF F d:=by
 intro w S g vp dp ip s0 c0 p T vl l vv env hS hgS hR0 hp hip hs0 hc0 hbd hl henv hqenv hvp hF hwf hdp hll hen
 exact I4 w S F g vp dp ip s0 c0 p T d vl l vv env hS hgS hR0 hp hip hs0 hc0 hbd hl henv hqenv hvp hF hwf hdp hll hen IH
theorem Eb {p:Prop}(h:p:=by first|exact U0 oM|exact QJ oM oM|exact Xn hc00 hs1 oM|exact Xo hc00 hs1 oM|exact Xp hc00 hs1 oM oM hL1 oM|exact Xq hc00 hs1 oM oM hL1 oM (by assumption) hL2|exact Xr hc00 hs1 oM oM hL1 oM (by assumption) hL2|exact Xs hc00 hs1 oM oM hL1 hL2|exact S3 hc00 hs1 hkg.1 hkg.2.1 hkg.2.2.1 hkg.2.2.2 hKr oM|exact U1 hc00 hs1 oM oM hKr oM hL2|exact U2 hc00 hs1 oM oM hKr oM (U4 hrl9 oM oM)|exact Ye hc00 hs1 hkg.1 hkg.2.1 hkg.2.2.1 hkg.2.2.2 oM oM hKr oM hL2):p:=h
theorem Ec {p:Prop}(h:p:=by first|(intro h9;exact absurd h9 oM)|assumption|(intro h9;omega)|(intro h9;have:=hkb9 h9;omega)):p:=h
theorem GT {p:Prop}(h:p:=by first|assumption|exact hbd.up oM|exact JG.guard (by assumption) _ _ oM):p:=h
theorem Ed {p:Prop}(h:p:=by first|assumption|exact hbd.put _ oM|exact JG.dn (by assumption) oM oM):p:=h
theorem I5 (w:World)(S:List Nat)(F:Nat)(g:Nat)(vp:Value)(dp:Nat)(ip:Int)(s0:Nat)(c0:Int)(p:List Fn)(T:Tp)(dex:Nat)(ve:Value)(ex:Ex)(vv:Value)(env:List Int)(hS:∀b∈S,b<w.heap.size)(hgS:g∈S)(hR0:QX 69 208 2 S g w.heap vp ip T s0 c0)(hp:RP S dp w.heap vp p)(_hip:Bx ip)(hs0:s0≤3000)(hc0:0≤c0∧c0≤9)(hbd:JG T s0)(hex:RX S dex w.heap ve ex)(henv:RN S (B3 rI) w.heap vv env)(hqenv:C5 vv)(hvp:H6 p)(hF:F≤p.length)(hwf:wf p ((F:Nat):Int) ex ((env.length:Nat):Int)=true)(hdp:env.length+ex.deep≤1000000)(hen:c0=0→JH T env)(IH1:∀F',F'<F→∀d,ZI F' d)(IH2:∀d',d'<dex→ZI F d') :
  Calls Tryz.prog 181 #[.pointer (some ⟨g,0,none⟩),(.agg #[(.int .i64 ex.kind),(.int .i64 ex.num),(.int .i64 ex.pick),(.int .i64 ex.count),ve]),vv] w (fun e w'=>∃(r:Int) (S':List Nat) (T':Tp) (s1:Nat) (c1:Int),e=.returned (.int .i64 r)∧Fz S S' w w'∧QX 69 208 2 S' g w'.heap vp ip T' s1 c1∧UY T T' s0 s1 c1∧(c1=0→0≤r∧r<((T'.vals.length:Nat):Int))∧(Bx r)∧AH (go c0 (GY (Kc p F) ex env s0 T)) (r,T') s1 c1):=by
 refine Aq [.pointer (some ⟨g,0,none⟩),(.agg #[(.int .i64 ex.kind),(.int .i64 ex.num),(.int .i64 ex.pick),(.int .i64 ex.count),ve]),vv] 190 Tryz.func181 Z Z sM ?_
 have j4:Au S w w:=Au.refl S w
 have hl_vp:=hp.lenle
 unfold maxLen at hl_vp
 have hl_ve:=hex.rn.lenle
 unfold maxLen at hl_ve
 have hl_vv:=henv.lenL
 unfold maxLen at hl_vv
 obtain⟨rc0,rg0,rv0,g9,j5⟩:=hR0
 have hgl:=g9.lt
 have hG0:Fz S S w w:=Fz.refl hS
 have hdk:=DI ex
 refine A0 (Ab _ [3,0] Z ?_)
 have ky:=g9.lt
 refine Bu (cs:=#[(.int .i64 ex.kind),(.int .i64 ex.num),(.int .i64 ex.pick),(.int .i64 ex.count),ve]) Z Aa fun w1 d3 ka g0=>?_
 have ga:w.heap.size≤w1.heap.size:=d3.size
 have gb:Au S w w1:=j4.ext d3
 have ai:=g9.ext d3
 have g2:=Ct.ext j5 d3
 have g3:=hG0.ext d3
 replace g0:BX w1.heap w.heap.size [(.int .i64 ex.kind),(.int .i64 ex.num),(.int .i64 ex.pick),(.int .i64 ex.count),ve]:=g0
 refine Ac 1 Z (A0 (A0 (Ab _ [0,0,0,2,0] Z (Ad 1 Z (AY Z Aa (Ak (p:=(.pointer (some ⟨g,0,none⟩))) (b:=g) (o:=0) 7 ES Z Z Aa (Ai (p:=(Ap (.pointer (some ⟨g,0,none⟩)) 7)) (.inr Z) (.int .i64 c0) AD Z (ai.ldp (i:=7) sM) Aa ?_)))))))
 by_cases j6:c0≠((0:Nat):Int)
 ·refine AT true Z Z (A5 j6) Aa (Aj (Ag Z (A0 (Ab _ [0] Z (Ac 1 Z (A1 (Al ?_)))))))
  exact Af [6] Z (.int .i64 ((0:Nat):Int)) Z ⟨((0:Nat):Int),_,T,s0,c0,rfl,g3,⟨_,_,_,ai,g2⟩,⟨Ed,oM⟩,Ec,oM,Eb⟩
 ·refine AT false Z Z (A6 j6) Aa (Aj (Ah Z (A2 (A0 (A0 (Ab _ [0,0,0,2,0] Z (Ad 1 Z (AY Z Aa (Ak (p:=(.pointer (some ⟨g,0,none⟩))) (b:=g) (o:=0) 6 N3 Z Z Aa (Ai (p:=(Ap (.pointer (some ⟨g,0,none⟩)) 6)) (.inr Z) (.int .i64 ((s0:Nat):Int)) AD Z (ai.ldp (i:=6) sM) Aa ?_))))))))))
  by_cases j7:((s0:Nat):Int)=((3000:Nat):Int)
  ·refine Am true Z Z (A5 j7) Aa (Aj (Ag Z (A0 (Ab _ [0,0,0,4] Z (Ad 1 Z (AY Z Aa (Ak (p:=(.pointer (some ⟨g,0,none⟩))) (b:=g) (o:=0) 7 ES Z Z Aa (Be (k:=7) (w:=w1) Hv Z Z ⟨rfl,rfl⟩ ai sM Aa fun w6 d4 kz gc=>?_))))))))
   replace gc:BX w6.heap g [vp,(.int .i64 ip),rc0,rg0,(.slice none 0 0),rv0,(.int .i64 ((s0:Nat):Int)),(.int .i64 ((7:Nat):Int))]:=gc
   have l0:Au S w w6:=gb.trans (d4.sub (AX hgS))
   have kb:=Ct.chg g2 d4
   have kc:=g3.set hgS d4
   have kd:w1.heap.size≤w6.heap.size:=d4.size
   have ke:=g0.chg d4 (fun hm=>by have:=A9 hm;omega)
   refine Aj (A0 (Ab _ [0] Z (Ac 1 Z (A1 (Al ?_)))))
   exact Af [6] Z (.int .i64 ((0:Nat):Int)) Z ⟨((0:Nat):Int),_,T,s0,((7:Nat):Int),rfl,kc,⟨_,_,_,gc,kb⟩,⟨Ed,oM⟩,Ec,oM,Eb⟩
  ·refine Am false Z Z (A6 j7) Aa (Aj (Ah Z (A2 (A0 (Ab _ [0,0,0,2,0,0,0,4] Z (Ad 1 Z (AY Z Aa (Ak (p:=(.pointer (some ⟨g,0,none⟩))) (b:=g) (o:=0) 6 N3 Z Z Aa (Ai (p:=(Ap (.pointer (some ⟨g,0,none⟩)) 6)) (.inr Z) (.int .i64 ((s0:Nat):Int)) AD Z (ai.ldp (i:=6) sM) Aa (AP ((s0+1:Nat):Int) Z Z (Bl oM oM) Aa (AY Z Aa (Ak (p:=(.pointer (some ⟨g,0,none⟩))) (b:=g) (o:=0) 6 N3 Z Z Aa (Be (k:=6) (w:=w1) Hv Z Z ⟨rfl,rfl⟩ ai sM Aa fun w11 b0 gd aw=>?_)))))))))))))
   replace aw:BX w11.heap g [vp,(.int .i64 ip),rc0,rg0,(.slice none 0 0),rv0,(.int .i64 ((s0+1:Nat):Int)),(.int .i64 c0)]:=aw
   have a4:Au S w w11:=gb.trans (b0.sub (AX hgS))
   have b1:=Ct.chg g2 b0
   have a0:=g3.set hgS b0
   have d5:w1.heap.size≤w11.heap.size:=b0.size
   have ac:=g0.chg b0 (fun hm=>by have:=A9 hm;omega)
   refine Aj (A0 (A0 (Ab _ [0,2] Z ?_)))
   have hc00:c0=0:=by omega
   have hs1:s0+1≤3000:=by omega
   have ax:=hen hc00
   have kf:=hbd.up (s':=s0+1) oM
   have hbn:=hbd.2
   refine Ak (p:=(.pointer (some ⟨w.heap.size,0,none⟩))) (b:=w.heap.size) (o:=0) 0 Bf Z Z Aa (Ai (p:=(Ap (.pointer (some ⟨w.heap.size,0,none⟩)) 0)) (.inr Z) (.int .i64 ex.kind) AD Z (ac.ldp (i:=0) sM) Aa (Aj (A3 (A0 (Ab _ [0,0] Z ?_)))))
   by_cases d6:ex.kind=((1:Nat):Int)
   ·refine Am true Z Z (A5 d6) Aa (Ac 1 Z (Ag Z (A0 (Ab _ [0,0,2,0,0,2,4,0] Z ?_))))
    have hwk:=OD hwf oM
    refine Ad 1 Z (Ak (p:=(.pointer (some ⟨w.heap.size,0,none⟩))) (b:=w.heap.size) (o:=0) 1 BE Z Z Aa (Ai (p:=(Ap (.pointer (some ⟨w.heap.size,0,none⟩)) 1)) (.inr Z) (.int .i64 ex.num) AD Z (ac.ldp (i:=1) sM) Aa ?_))
    have d7:∀(wq:World),(Instr.build 69 #[(0,(.int .i64 ((2:Nat):Int))),(3,(.int .i64 ex.num))]).run Tryz.prog wq=.ok (.agg #[(.int .i64 ((2:Nat):Int)),(.int .i64 0),(.int .i64 0),(.int .i64 ex.num)]) wq:=by intro wq;kernel_rfl
    refine C3 (ps:=#[(0,(.int .i64 ((2:Nat):Int))),(3,(.int .i64 ex.num))]) (.agg #[(.int .i64 ((2:Nat):Int)),(.int .i64 0),(.int .i64 0),(.int .i64 ex.num)]) (by simp only[List.map_toArray,List.map_cons,List.map_nil];rfl) (fun wq=>d7  wq) Aa (Ak (p:=(.pointer (some ⟨w.heap.size,0,none⟩))) (b:=w.heap.size) (o:=0) 1 BE Z Z Aa (Ai (p:=(Ap (.pointer (some ⟨w.heap.size,0,none⟩)) 1)) (.inr Z) (.int .i64 ex.num) AD Z (ac.ldp (i:=1) sM) Aa ?_))
    refine AA 101 [] [] [(.pointer (some ⟨g,0,none⟩)),(.agg #[(.int .i64 ((2:Nat):Int)),(.int .i64 (0:Int)),(.int .i64 (0:Int)),(.int .i64 ex.num)]),(.int .i64 ex.num)] Z Z Qk Aa (CF _ S g vp ip (s0+1) (c0) (T) (⟨((2:Nat):Int),(0:Int),(0:Int),ex.num⟩:AE) (ex.num) (fun b hb=>(a0.lt b hb:b<w11.heap.size)) (a0.sub _ hgS) ⟨_,_,_,aw,b1⟩ _hip (by exact JG.ln (by assumption) oM) ⟨(show Bx (((2:Nat):Int))from by omega),(show Bx ((0:Int))from by omega),(show Bx ((0:Int))from by omega),hex.rng.num⟩ hex.rng.num) ?_
    rintro e18 w18 ⟨S18,rfl,an,vc18,vg18,vv18,ge,gf⟩
    refine⟨_,rfl,?_⟩
    have j8:w11.heap.size≤w18.heap.size:=an.chg.size
    have kg:Au S w w18:=a4.stp an.chg a0.new
    have kh:=ac.chg an.chg (fun hm=>E3)
    have gg:w.heap.size∉S18:=fun hm=>(an.new _ hm).elim (fun hm=>E3) (fun h9=>by omega)
    have gh:=a0.trans an
    have j9:(T.put (⟨((2:Nat):Int),(0:Int),(0:Int),ex.num⟩:AE) (ex.num)).vals.length=T.vals.length+1:=GJ _ _ _
    have ja:(T.put (⟨((2:Nat):Int),(0:Int),(0:Int),ex.num⟩:AE) (ex.num)).grd.length=T.grd.length:=rfl
    refine Ac 1 Z (A1 (AC (Al ?_)))
    exact Af [6] Z (.int .i64 ((T.vals.length:Nat):Int)) Z ⟨((T.vals.length:Nat):Int),_,T.put (⟨((2:Nat):Int),(0:Int),(0:Int),ex.num⟩:AE) (ex.num),s0+1,c0,rfl,gh,⟨_,_,_,ge,gf⟩,⟨Ed,oM⟩,Ec,oM,Eb⟩
   ·refine Am false Z Z (A6 d6) Aa (Ac 1 Z (Ah Z (A0 (Ab _ [0,0] Z ?_))))
    by_cases d8:ex.kind=((2:Nat):Int)
    ·refine Am true Z Z (A5 d8) Aa (Ac 1 Z (Ag Z (A0 (Ab _ [0,0,2,0,2,0] Z ?_))))
     have hwk:=OE hwf oM
     have hRv:=ax ex.num.toNat oM
     refine Ad 1 Z (Ak (p:=(.pointer (some ⟨w.heap.size,0,none⟩))) (b:=w.heap.size) (o:=0) 1 BE Z Z Aa (Ai (p:=(Ap (.pointer (some ⟨w.heap.size,0,none⟩)) 1)) (.inr Z) (.int .i64 ex.num) AD Z (ac.ldp (i:=1) sM) Aa (AB (v:=vv) ((ex.num).toNat) Bt BT Z Z henv.slL oM oM Aa ?_)))
     have da:=RN.getI (w:=w) (k:=(ex.num).toNat) henv oM
     refine Ai (p:=Ay vv ((ex.num).toNat) 1) (.inr Z) (.int .i64 (env.getD ((ex.num).toNat) 0)) AD Z (da.1 _ a4) Aa (Ac 1 Z (A1 (AC (Al ?_))))
     exact Af [6] Z (.int .i64 (env.getD ((ex.num).toNat) 0)) Z ⟨env.getD ((ex.num).toNat) 0,_,T,s0+1,c0,rfl,a0,⟨_,_,_,aw,b1⟩,⟨Ed,oM⟩,Ec,(by exact da.2),Eb⟩
    ·refine Am false Z Z (A6 d8) Aa (Ac 1 Z (Ah Z (A0 (Ab _ [0,0] Z ?_))))
     by_cases db:ex.kind=((8:Nat):Int)
     ·refine Am true Z Z (A5 db) Aa (Ac 1 Z (Ag Z (A0 (Ab _ [0,0,2,0,2,0,4,0] Z ?_))))
      have hwk:=RH hwf oM
      refine Ad 1 Z (Ak (p:=(.pointer (some ⟨w.heap.size,0,none⟩))) (b:=w.heap.size) (o:=0) 4 B9 Z Z Aa (Ai (p:=(Ap (.pointer (some ⟨w.heap.size,0,none⟩)) 4)) (.inr Z) ve Bd Z (ac.ldp (i:=4) sM) Aa (AB (v:=ve) 0 D1 Bk Z Z hex.rn.isSl Z sD Aa ?_)))
      obtain⟨cs28,gi,gj⟩:=hex.rn.get (Aw dex) Ex.zero (k:=0) sD
      obtain⟨dd28,cc,ki,rfl,cd⟩:=RX.of gi
      have dc:=cd.rn.lenle
      unfold maxLen at dc
      refine AK (p:=Ay ve 0 5) (.inr Z) [(.int .i64 ((ex.kids.getD 0 Ex.zero).kind)),(.int .i64 ((ex.kids.getD 0 Ex.zero).num)),(.int .i64 ((ex.kids.getD 0 Ex.zero).pick)),(.int .i64 ((ex.kids.getD 0 Ex.zero).count)),cc] B6 Z (fun wq9 ce=>gj wq9 (a4.ext ce)) Z Aa (Ad 1 Z ?_)
      refine AA 181 [] [] [(.pointer (some ⟨g,0,none⟩)),(.agg #[(.int .i64 ((ex.kids.getD 0 Ex.zero).kind)),(.int .i64 ((ex.kids.getD 0 Ex.zero).num)),(.int .i64 ((ex.kids.getD 0 Ex.zero).pick)),(.int .i64 ((ex.kids.getD 0 Ex.zero).count)),cc]),vv] Z Z Li Aa (IH2 dd28 oM _ S g vp dp ip (s0+1) (c0) p (T) cc (ex.kids.getD 0 Ex.zero) vv (env) (fun b hb=>(a0.lt b hb:b<w11.heap.size)) (a0.sub _ hgS) ⟨_,_,_,aw,b1⟩ (RN.stp (An (Av dp)) hp a4 a0.new) _hip oM oM GT ⟨cd.rng,(RN.stp (An (Aw dd28)) cd.rn a4 a0.new)⟩ (RN.stp g1 henv a4 a0.new) hqenv (by exact hvp) oM (by exact DG hwf oM oM) (by have:=Dh (l:=ex.kids) (k:=0) oM;omega) (by exact fun _=>ax)) ?_
      rintro e29 w29 ⟨r29,S29,T29,s29,c29,rfl,ao,⟨vc29,vg29,vv29,b4,b5⟩,dd,de,df,dg⟩
      refine⟨_,rfl,?_⟩
      have jb:w11.heap.size≤w29.heap.size:=ao.chg.size
      have dh:Au S w w29:=a4.stp ao.chg a0.new
      have di:=ac.chg ao.chg (fun hm=>E3)
      have b6:w.heap.size∉S29:=fun hm=>(ao.new _ hm).elim (fun hm=>E3) (fun h9=>by omega)
      have bi:=a0.trans ao
      have jc:=dd.bnd
      have jd:=dd.num
      have gk:=de
      have hL1:=dg
      refine Ac 1 Z (A0 (A0 (Ab _ [0,0,0,2,0] Z (Ad 1 Z (AY Z Aa (Ak (p:=(.pointer (some ⟨g,0,none⟩))) (b:=g) (o:=0) 7 ES Z Z Aa (Ai (p:=(Ap (.pointer (some ⟨g,0,none⟩)) 7)) (.inr Z) (.int .i64 c29) AD Z (b4.ldp (i:=7) sM) Aa ?_)))))))
      by_cases dj:c29≠((0:Nat):Int)
      ·refine AT true Z Z (A5 dj) Aa (Aj (Ag Z (A0 (Ab _ [0] Z (Ac 1 Z (A1 (Al (AC (Al ?_)))))))))
       exact Af [6] Z (.int .i64 ((0:Nat):Int)) Z ⟨((0:Nat):Int),_,T29,s29,c29,rfl,bi,⟨_,_,_,b4,b5⟩,⟨Ed,oM⟩,Ec,oM,Eb⟩
      ·refine AT false Z Z (A6 dj) Aa (Aj (Ah Z (A2 (A0 (Ab _ [0,0,0,2,0,0,2,0,0] Z ?_)))))
       have hR1c:=gk oM
       refine Ad 1 Z (AY Z Aa (Ak (p:=(.pointer (some ⟨g,0,none⟩))) (b:=g) (o:=0) 5 DC Z Z Aa (Ai (p:=(Ap (.pointer (some ⟨g,0,none⟩)) 5)) (.inr Z) vv29 Bj Z (b4.ldp (i:=5) sM) Aa (Ad 1 Z (AB (v:=vv29) ((r29).toNat) Bt BT Z Z (Ct.slv b5) oM oM Aa (Ai (p:=Ay vv29 ((r29).toNat) 1) (.inr Z) (.int .i64 (T29.vals.getD ((r29).toNat) 0)) AD Z ((Ct.rdv b5).getI oM).1 Aa (Am (decide (T29.vals.getD ((r29).toNat) 0=((0:Nat):Int))) Z Z Z Aa (Ac 1 Z (A0 ?_)))))))))
       obtain⟨Fc38,Fg38,Fv38,b7,dk,b8,ap,az,dl,bt,dm⟩:=id b5
       refine Ab _ [0,0,0,0,0,2,0,0,0,3,4,0,0,0,4] Z (Ad 2 Z (AY Z Aa (Ak (p:=(.pointer (some ⟨g,0,none⟩))) (b:=g) (o:=0) 1 FL Z Z Aa (Ak (p:=(Ap (.pointer (some ⟨g,0,none⟩)) 1)) (b:=g) (o:=1) 2 N1 Z Z Aa (Ai (p:=(Ap (Ap (.pointer (some ⟨g,0,none⟩)) 1) 2)) (.inr Z) vg29 T7 Z (b4.ldp (i:=3) sM) Aa (Ad 2 Z ?_))))))
       have dn:∀(wq:World),(Instr.build 208 #[(0,(.int .i64 r29)),(1,(.bool (decide (T29.vals.getD ((r29).toNat) 0=((0:Nat):Int)))))]).run Tryz.prog wq=.ok (.agg #[(.int .i64 r29),(.bool (decide (T29.vals.getD ((r29).toNat) 0=((0:Nat):Int))))]) wq:=by intro wq;kernel_rfl
       refine C3 (ps:=#[(0,(.int .i64 r29)),(1,(.bool (decide (T29.vals.getD ((r29).toNat) 0=((0:Nat):Int)))))]) (.agg #[(.int .i64 r29),(.bool (decide (T29.vals.getD ((r29).toNat) 0=((0:Nat):Int))))]) (by simp only[List.map_toArray,List.map_cons,List.map_nil];rfl) (fun wq=>dn  wq) Aa (EZ (cs:=[(.int .i64 r29),(.bool (decide (T29.vals.getD ((r29).toNat) 0=((0:Nat):Int))))]) (y:=(⟨r29,decide (T29.vals.getD ((r29).toNat) 0=((0:Nat):Int))⟩:Iv)) (B:=w29.heap.size) Bm Zq OV Z (by decide) Z (Xm (x:=(⟨r29,decide (T29.vals.getD ((r29).toNat) 0=((0:Nat):Int))⟩:Iv)) (B:=w29.heap.size) (U:=w29.heap.size) df) (A7 _) Aa fun v40 w40 a7 kj gl=>?_)
       have je:w29.heap.size≤w40.heap.size:=a7.size
       have kk:Au S w w40:=dh.ext a7
       have bj:=b4.ext a7
       have g4:=di.ext a7
       have kl:=(Ct.rdv b5).ext g1 a7
       have gm:=bi.ext a7
       have hOc38x:=b7.ext (Ao Bb) a7
       have hOg38x:=dk.ext (Ao Bm) a7
       have hOv38x:=b8.ext (Bc AR) a7
       refine MN (v:=vg29) (a:=v40) Bm Zq OV Z (by decide) Z Z hOg38x gl (A7 _) (Nat.zero_le _) (Nat.zero_le _) oM (by unfold maxLen;omega) Aa fun v42 w42 F42 b9 dq bk=>?_
       have dr:w40.heap.size≤w42.heap.size:=b9.size
       obtain⟨S42,bu⟩:∃l:List Nat,l=F42++S29:=⟨_,rfl⟩
       have aq:Fz S29 S42 w29 w42:=by rw[bu];exact⟨fun b hb=>List.mem_append_right _ hb,fun b hb=>by rcases List.mem_append.1 hb with hb|hb;(rcases bk b hb with h9|h9|h9;exact .inl (bt b h9);(have:=a7.size;omega);(have:=a7.size;omega));exact .inl hb,fun b hb=>by rcases List.mem_append.1 hb with hb|hb;exact dq.high b hb;(have:=gm.lt b hb;omega),(Au.of_ext _ a7).trans (b9.sub bt)⟩
       have ds:Ct 69 208 2 S42 g w42.heap vc29 v42 vv29 (T29.guard (r29) (decide (T29.vals.getD ((r29).toNat) 0=((0:Nat):Int)))):=⟨Fc38,F42,Fv38,(hOc38x.up a7.size).chgS (Ao Bb) b9 (fun b hb hm=>ap.1 b hm hb),dq,(hOv38x.up a7.size).chgS (Bc AR) b9 (fun b hb hm=>ap.2.2 b hb hm),⟨fun b hb hm=>by rcases bk b hm with h9|h9|h9;exact ap.1 b hb h9;(have:=b7.high b hb;omega);(have:=b7.high b hb;have:=a7.size;omega),ap.2.1,fun b hm hb=>by rcases bk b hm with h9|h9|h9;exact ap.2.2 b h9 hb;(have:=b8.high b hb;omega);(have:=b8.high b hb;have:=a7.size;omega)⟩,⟨az.1,fun hm=>by rcases bk g hm with h9|h9|h9;exact az.2.1 h9;omega;omega,az.2.2⟩,by rw[bu];exact⟨fun b hb=>List.mem_append_right _ (dl b hb),fun b hb=>List.mem_append_left _ hb,fun b hb=>List.mem_append_right _ (dm b hb)⟩⟩
       have gn:=bj.chg b9 az.2.1
       have dr:w29.heap.size≤w42.heap.size:=aq.chg.size
       have gp:Au S w w42:=dh.stp aq.chg bi.new
       have gq:=di.chg aq.chg (fun hm=>b6 hm)
       have al:w.heap.size∉S42:=fun hm=>(aq.new _ hm).elim (fun hm=>b6 hm) (fun h9=>by omega)
       have gr:=bi.trans aq
       have jf:(T29.guard (r29) (decide (T29.vals.getD ((r29).toNat) 0=((0:Nat):Int)))).vals.length=T29.vals.length:=rfl
       have jg:(T29.guard (r29) (decide (T29.vals.getD ((r29).toNat) 0=((0:Nat):Int)))).grd.length=T29.grd.length+1:=NM _ _ _
       refine AY Z Aa (Ak (p:=(.pointer (some ⟨g,0,none⟩))) (b:=g) (o:=0) 1 FL Z Z Aa (Ak (p:=(Ap (.pointer (some ⟨g,0,none⟩)) 1)) (b:=g) (o:=1) 2 N1 Z Z Aa (Be (k:=3) (w:=w42) bJ Z Z (Bp ds.slg) gn sM Aa fun w51 ba km bl=>?_)))
       replace bl:BX w51.heap g [vp,(.int .i64 ip),vc29,v42,(.slice none 0 0),vv29,(.int .i64 ((s29:Nat):Int)),(.int .i64 c29)]:=bl
       have ah:Au S w w51:=gp.trans (ba.sub (AX hgS))
       have dt:=Ct.chg ds ba
       have aa:=gr.set hgS ba
       have jh:w42.heap.size≤w51.heap.size:=ba.size
       have bm:=gq.chg ba (fun hm=>by have:=A9 hm;omega)
       refine Aj (A0 (A0 (Ab _ [0] Z (Ac 1 Z ?_))))
       cases bn:(decide (T29.vals.getD ((r29).toNat) 0=((0:Nat):Int)))
       ·have ji:=of_decide_eq_false bn
        refine Ah (by first|rfl|(show Value.bool _=_;rw[bn])) (A2 (A0 (Ab _ [0,0,2,0,2,0,4,0] Z (Ad 1 Z (Ak (p:=(.pointer (some ⟨w.heap.size,0,none⟩))) (b:=w.heap.size) (o:=0) 4 B9 Z Z Aa (Ai (p:=(Ap (.pointer (some ⟨w.heap.size,0,none⟩)) 4)) (.inr Z) ve Bd Z (bm.ldp (i:=4) sM) Aa (AB (v:=ve) 2 D1 Bk Z Z hex.rn.isSl Z sD Aa ?_)))))))
        obtain⟨cs60,gs,gt⟩:=hex.rn.get (Aw dex) Ex.zero (k:=2) sD
        obtain⟨dd60,cf,kn,rfl,cg⟩:=RX.of gs
        have du:=cg.rn.lenle
        unfold maxLen at du
        refine AK (p:=Ay ve 2 5) (.inr Z) [(.int .i64 ((ex.kids.getD 2 Ex.zero).kind)),(.int .i64 ((ex.kids.getD 2 Ex.zero).num)),(.int .i64 ((ex.kids.getD 2 Ex.zero).pick)),(.int .i64 ((ex.kids.getD 2 Ex.zero).count)),cf] B6 Z (fun wq9 ce=>gt wq9 (ah.ext ce)) Z Aa (Ad 1 Z ?_)
        refine AA 181 [] [] [(.pointer (some ⟨g,0,none⟩)),(.agg #[(.int .i64 ((ex.kids.getD 2 Ex.zero).kind)),(.int .i64 ((ex.kids.getD 2 Ex.zero).num)),(.int .i64 ((ex.kids.getD 2 Ex.zero).pick)),(.int .i64 ((ex.kids.getD 2 Ex.zero).count)),cf]),vv] Z Z Li Aa (IH2 dd60 oM _ S42 g vp dp ip (s29) (c29) p (T29.guard (r29) (decide (T29.vals.getD ((r29).toNat) 0=((0:Nat):Int)))) cf (ex.kids.getD 2 Ex.zero) vv (env) (fun b hb=>(aa.lt b hb:b<w51.heap.size)) (aa.sub _ hgS) ⟨_,_,_,bl,dt⟩ (RN.stp (An (Av dp)) hp ah aa.new) _hip oM oM GT ⟨cg.rng,(RN.stp (An (Aw dd60)) cg.rn ah aa.new)⟩ (RN.stp g1 henv ah aa.new) hqenv (by exact hvp) oM (by exact DG hwf oM oM) (by have:=Dh (l:=ex.kids) (k:=2) oM;omega) (by exact fun _=>ax.mono (by simp only[NL];omega))) ?_
        rintro e61 w61 ⟨r61,S61,T61,s61,c61,rfl,ar,⟨vc61,vg61,vv61,gu,gv⟩,dv,dw,dx,dy⟩
        refine⟨_,rfl,?_⟩
        have jj:w51.heap.size≤w61.heap.size:=ar.chg.size
        have ko:Au S w w61:=ah.stp ar.chg aa.new
        have kp:=bm.chg ar.chg (fun hm=>al hm)
        have gw:w.heap.size∉S61:=fun hm=>(ar.new _ hm).elim (fun hm=>al hm) (fun h9=>by omega)
        have gx:=aa.trans ar
        have jk:=dv.bnd
        have jl:=dv.num
        have hRv:=dw
        have hL2:=dy
        refine Ac 1 Z (A1 (AC (Al ?_)))
        exact Af [6] Z (.int .i64 r61) Z ⟨r61,_,T61,s61,c61,rfl,gx,⟨_,_,_,gu,gv⟩,⟨Ed,oM⟩,Ec,(by exact dx),Eb⟩
       ·have jm:=of_decide_eq_true bn
        refine Ag (by first|rfl|(show Value.bool _=_;rw[bn])) (A0 (Ab _ [0,0,2,0,2,0,4,0] Z (Ad 1 Z (Ak (p:=(.pointer (some ⟨w.heap.size,0,none⟩))) (b:=w.heap.size) (o:=0) 4 B9 Z Z Aa (Ai (p:=(Ap (.pointer (some ⟨w.heap.size,0,none⟩)) 4)) (.inr Z) ve Bd Z (bm.ldp (i:=4) sM) Aa (AB (v:=ve) 1 D1 Bk Z Z hex.rn.isSl Z sD Aa ?_))))))
        obtain⟨cs72,gy,gz⟩:=hex.rn.get (Aw dex) Ex.zero (k:=1) sD
        obtain⟨dd72,ch,kq,rfl,ci⟩:=RX.of gy
        have dz:=ci.rn.lenle
        unfold maxLen at dz
        refine AK (p:=Ay ve 1 5) (.inr Z) [(.int .i64 ((ex.kids.getD 1 Ex.zero).kind)),(.int .i64 ((ex.kids.getD 1 Ex.zero).num)),(.int .i64 ((ex.kids.getD 1 Ex.zero).pick)),(.int .i64 ((ex.kids.getD 1 Ex.zero).count)),ch] B6 Z (fun wq9 ce=>gz wq9 (ah.ext ce)) Z Aa (Ad 1 Z ?_)
        refine AA 181 [] [] [(.pointer (some ⟨g,0,none⟩)),(.agg #[(.int .i64 ((ex.kids.getD 1 Ex.zero).kind)),(.int .i64 ((ex.kids.getD 1 Ex.zero).num)),(.int .i64 ((ex.kids.getD 1 Ex.zero).pick)),(.int .i64 ((ex.kids.getD 1 Ex.zero).count)),ch]),vv] Z Z Li Aa (IH2 dd72 oM _ S42 g vp dp ip (s29) (c29) p (T29.guard (r29) (decide (T29.vals.getD ((r29).toNat) 0=((0:Nat):Int)))) ch (ex.kids.getD 1 Ex.zero) vv (env) (fun b hb=>(aa.lt b hb:b<w51.heap.size)) (aa.sub _ hgS) ⟨_,_,_,bl,dt⟩ (RN.stp (An (Av dp)) hp ah aa.new) _hip oM oM GT ⟨ci.rng,(RN.stp (An (Aw dd72)) ci.rn ah aa.new)⟩ (RN.stp g1 henv ah aa.new) hqenv (by exact hvp) oM (by exact DG hwf oM oM) (by have:=Dh (l:=ex.kids) (k:=1) oM;omega) (by exact fun _=>ax.mono (by simp only[NL];omega))) ?_
        rintro e73 w73 ⟨r73,S73,T73,s73,c73,rfl,au,⟨vc73,vg73,vv73,i0,i1⟩,e0,e1,e2,e3⟩
        refine⟨_,rfl,?_⟩
        have jn:w51.heap.size≤w73.heap.size:=au.chg.size
        have kr:Au S w w73:=ah.stp au.chg aa.new
        have kt:=bm.chg au.chg (fun hm=>al hm)
        have i2:w.heap.size∉S73:=fun hm=>(au.new _ hm).elim (fun hm=>al hm) (fun h9=>by omega)
        have i3:=aa.trans au
        have jo:=e0.bnd
        have jp:=e0.num
        have hRv:=e1
        have hL2:=e3
        refine Ac 1 Z (A1 (Al (AC (Al ?_))))
        exact Af [6] Z (.int .i64 r73) Z ⟨r73,_,T73,s73,c73,rfl,i3,⟨_,_,_,i0,i1⟩,⟨Ed,oM⟩,Ec,(by exact e2),Eb⟩
     ·refine Am false Z Z (A6 db) Aa (Ac 1 Z (Ah Z (A0 (Ab _ [0,0] Z ?_))))
      by_cases e4:ex.kind=((9:Nat):Int)
      ·refine Am true Z Z (A5 e4) Aa (Ac 1 Z (Ag Z (A0 ?_)))
       letI:JR:=QW S
       refine Jx.AO _ [0,0,1,0,1,0,0,0,0,1,0,1,0,3,3,3,4,0] mixed (by kernel_rfl) ?_
       have hwk:=OF hwf oM
       refine Jx.VU (.pointer (some ⟨g,0,none⟩)) Z Aa (Jx.Ak (p:=(.pointer (some ⟨w.heap.size,0,none⟩))) (b:=w.heap.size) (o:=0) 4 B9 Z Z Aa (Jx.ZQ (p:=(Ap (.pointer (some ⟨w.heap.size,0,none⟩)) 4)) ve Bd Z (fun wj hj=>(BX.chg (w:=w11.drew) (F:=S) ac hj (fun hm=>by have:=hS _ hm;omega)).ldp (i:=4) sM) Aa (Jx.AB (v:=ve) 1 D1 Bk Z Z hex.rn.isSl Z sD Aa ?_)))
       obtain⟨cs84,i4,i5⟩:=hex.rn.get (Aw dex) Ex.zero (k:=1) sD
       obtain⟨dd84,cj,ku,rfl,ck⟩:=RX.of i4
       have e5:=ck.rn.lenle
       unfold maxLen at e5
       refine Jx.Y6 (p:=Ay ve 1 5) [(.int .i64 ((ex.kids.getD 1 Ex.zero).kind)),(.int .i64 ((ex.kids.getD 1 Ex.zero).num)),(.int .i64 ((ex.kids.getD 1 Ex.zero).pick)),(.int .i64 ((ex.kids.getD 1 Ex.zero).count)),cj] B6 Z (fun wj hj=>i5 wj (Au.trans a4.drew (show Au S w11.drew wj from hj))) Z Aa (Jx.VU vv Z Aa (Jx.Az 228 [] [] [vv] Z Z Za Aa (DJ vv) (fun wq=>EJ wq vv _ henv.slL hqenv) (Jx.VU (.pointer (some ⟨g,0,none⟩)) Z Aa (Jx.Ak (p:=(.pointer (some ⟨w.heap.size,0,none⟩))) (b:=w.heap.size) (o:=0) 4 B9 Z Z Aa (Jx.ZQ (p:=(Ap (.pointer (some ⟨w.heap.size,0,none⟩)) 4)) ve Bd Z (fun wj hj=>(BX.chg (w:=w11.drew) (F:=S) ac hj (fun hm=>by have:=hS _ hm;omega)).ldp (i:=4) sM) Aa ?_)))))
       refine Jx.AB (v:=ve) 0 D1 Bk Z Z hex.rn.isSl Z sD Aa ?_
       obtain⟨cs85,i6,i7⟩:=hex.rn.get (Aw dex) Ex.zero (k:=0) sD
       obtain⟨dd85,cl,kv,rfl,cm⟩:=RX.of i6
       have e6:=cm.rn.lenle
       unfold maxLen at e6
       refine Jx.Y6 (p:=Ay ve 0 5) [(.int .i64 ((ex.kids.getD 0 Ex.zero).kind)),(.int .i64 ((ex.kids.getD 0 Ex.zero).num)),(.int .i64 ((ex.kids.getD 0 Ex.zero).pick)),(.int .i64 ((ex.kids.getD 0 Ex.zero).count)),cl] B6 Z (fun wj hj=>i7 wj (Au.trans a4.drew (show Au S w11.drew wj from hj))) Z Aa (Jx.VU vv Z Aa ?_)
       refine Jx.As 181 [] [] [(.pointer (some ⟨g,0,none⟩)),(.agg #[(.int .i64 ((ex.kids.getD 0 Ex.zero).kind)),(.int .i64 ((ex.kids.getD 0 Ex.zero).num)),(.int .i64 ((ex.kids.getD 0 Ex.zero).pick)),(.int .i64 ((ex.kids.getD 0 Ex.zero).count)),cl]),vv] Z Z Li Aa (IH2 dd85 oM _ S g vp dp ip (s0+1) (c0) p (T) cl (ex.kids.getD 0 Ex.zero) vv (env) (fun b hb=>(a0.drew.lt b hb:b<w11.heap.size)) (a0.drew.sub _ hgS) ⟨_,_,_,aw,b1⟩ (RN.stp (An (Av dp)) hp a4.drew a0.drew.new) _hip oM oM GT ⟨cm.rng,(RN.stp (An (Aw dd85)) cm.rn a4.drew a0.drew.new)⟩ (RN.stp g1 henv a4.drew a0.drew.new) hqenv (by exact hvp) oM (by exact DG hwf oM oM) (by have:=Dh (l:=ex.kids) (k:=0) oM;omega) (by exact fun _=>ax)) ?_
       rintro e86 w86 ⟨r86,S86,T86,s86,c86,rfl,ad,⟨vc86,vg86,vv86,i8,i9⟩,e7,e8,e9,ea⟩
       refine⟨_,rfl,ad.chg,?_⟩
       replace ad:=ad.of_drew
       have jq:w11.heap.size≤w86.heap.size:=ad.chg.size
       have ia:Au S w w86:=a4.stp ad.chg a0.new
       have ib:=ac.chg ad.chg (fun hm=>E3)
       have bb:w.heap.size∉S86:=fun hm=>(ad.new _ hm).elim (fun hm=>E3) (fun h9=>by omega)
       have ic:=a0.trans ad
       have jr:=e7.bnd
       have js:=e7.num
       have gk:=e8
       have hL1:=ea
       refine Jx.aJ (BI (u:=(.int .i64 r86)) (B:=w86.heap.size) By Bt BT Z Z (Oj w86.heap.size w86.heap.size _ ⟨rfl,rfl⟩) (A7 _) Aa ?_)
       intro v95 w95 b2 kw ie
       refine Aj ?_
       have jt:w86.heap.size≤w95.heap.size:=b2.size
       have eb:Au S w w95:=ia.ext b2
       have bo:=i8.ext b2
       have bp:=ib.ext b2
       have ig:=Ct.ext i9 b2
       have cn:=ic.ext b2
       refine Jx.cC (TZ (v:=vv) (a:=v95) (u:=.int .i64 (r86)) (r:=r86) Bt BT Z Z Z (RN.stp g1 henv eb cn.new) ie ⟨[],⟨rfl,rfl,e9⟩,fun b hb=>by cases hb⟩ (fun b hb=>(cn.lt b hb:b<w95.heap.size)) oM (by unfold maxLen;omega) Aa ?_)
       intro v97 w97 ay ec ed
       refine Aj ⟨JR.ext ay,?_⟩
       have ju:w95.heap.size≤w97.heap.size:=ay.size
       have co:Au S w w97:=eb.ext ay
       have bq:=bo.ext ay
       have br:=bp.ext ay
       have ih:=Ct.ext ig ay
       have b3:=cn.ext ay
       refine Jx.TS Z ?_
       refine AA 181 [] [] [(.pointer (some ⟨g,0,none⟩)),(.agg #[(.int .i64 ((ex.kids.getD 1 Ex.zero).kind)),(.int .i64 ((ex.kids.getD 1 Ex.zero).num)),(.int .i64 ((ex.kids.getD 1 Ex.zero).pick)),(.int .i64 ((ex.kids.getD 1 Ex.zero).count)),cj]),v97] Z Z Li Aa (IH2 dd84 oM _ S86 g vp dp ip (s86) (c86) p (T86) cj (ex.kids.getD 1 Ex.zero) v97 (env++[r86]) (fun b hb=>(b3.lt b hb:b<w97.heap.size)) (b3.sub _ hgS) ⟨_,_,_,bq,ih⟩ (RN.stp (An (Av dp)) hp co b3.new) _hip oM oM GT ⟨ck.rng,(RN.stp (An (Aw dd84)) ck.rn co b3.new)⟩ ec ed (by exact hvp) oM (by have h9:=JA hwf oM oM;rw[List.length_append,List.length_singleton];exact h9) (by have:=Dh (l:=ex.kids) (k:=1) oM;rw[List.length_append,List.length_singleton];omega) (by exact fun h9=>JH.snoc (ax.mono oM) (gk h9))) ?_
       rintro e99 w99 ⟨r99,S99,T99,s99,c99,rfl,af,⟨vc99,vg99,vv99,ii,ij⟩,ee,ef,eg,eh⟩
       refine⟨_,rfl,?_⟩
       have jv:w97.heap.size≤w99.heap.size:=af.chg.size
       have kx:Au S w w99:=co.stp af.chg b3.new
       have jw:=br.chg af.chg (fun hm=>bb hm)
       have g5:w.heap.size∉S99:=fun hm=>(af.new _ hm).elim (fun hm=>bb hm) (fun h9=>by omega)
       have jx:=RN.stp g1 ec af.chg af.new
       have ik:=b3.trans af
       have jy:=ee.bnd
       have jz:=ee.num
       have hRv:=ef
       have hL2:=eh
       refine Ac 1 Z (A1 (AC (Al ?_)))
       exact Af [6] Z (.int .i64 r99) Z ⟨r99,_,T99,s99,c99,rfl,ik,⟨_,_,_,ii,ij⟩,⟨Ed,oM⟩,Ec,(by exact eg),Eb⟩
      ·refine Am false Z Z (A6 e4) Aa (Ac 1 Z (Ah Z (A2 (A0 (Ab _ [0,0,2,0,4,0] Z ?_)))))
       have hkg:ex.kind≠1∧ex.kind≠2∧ex.kind≠8∧ex.kind≠9:=by omega
       have l1:=RJ hwf hvp hF
       refine Ad 1 Z (Ak (p:=(.pointer (some ⟨w.heap.size,0,none⟩))) (b:=w.heap.size) (o:=0) 4 B9 Z Z Aa (Ai (p:=(Ap (.pointer (some ⟨w.heap.size,0,none⟩)) 4)) (.inr Z) ve Bd Z (ac.ldp (i:=4) sM) Aa (Ad 1 Z ?_)))
       refine AA 102 [] [] [(.pointer (some ⟨g,0,none⟩)),ve,vv] Z Z SW Aa (Pc F dex (fun d9 h9=>IH2 d9 oM) _ S g vp dp ip (s0+1) (c0) p (T) ve (ex.kids) vv (env) (fun b hb=>(a0.lt b hb:b<w11.heap.size)) (a0.sub _ hgS) ⟨_,_,_,aw,b1⟩ (RN.stp (An (Av dp)) hp a4 a0.new) _hip oM oM GT (RN.stp (An (Aw dex)) hex.rn a4 a0.new) (RN.stp g1 henv a4 a0.new) hqenv (by exact hvp) oM (by intro k hk;exact DG hwf hk oM) (by intro k hk;have:=Dh (l:=ex.kids) (k:=k) hk;omega) oM (by exact fun _=>ax)) ?_
       rintro e109 w109 ⟨v109,xs109,S109,T109,s109,c109,rfl,ag,⟨vc109,vg109,vv109,aj,av⟩,bv,ei,bc,cp,cq,cr⟩
       refine⟨_,rfl,?_⟩
       have ct:w11.heap.size≤w109.heap.size:=ag.chg.size
       have a8:Au S w w109:=a4.stp ag.chg a0.new
       have ae:=ac.chg ag.chg (fun hm=>E3)
       have ab:w.heap.size∉S109:=fun hm=>(ag.new _ hm).elim (fun hm=>E3) (fun h9=>by omega)
       have a1:=a0.trans ag
       have il:=bv.bnd
       have im:=bv.num
       have hKr:=cr
       have hKb:=cq
       have hKl:=cp
       have am:=ei.rn
       refine Ac 1 Z (A0 (A0 (Ab _ [0,0,0,2,0] Z (Ad 1 Z (AY Z Aa (Ak (p:=(.pointer (some ⟨g,0,none⟩))) (b:=g) (o:=0) 7 ES Z Z Aa (Ai (p:=(Ap (.pointer (some ⟨g,0,none⟩)) 7)) (.inr Z) (.int .i64 c109) AD Z (aj.ldp (i:=7) sM) Aa ?_)))))))
       by_cases bw:c109≠((0:Nat):Int)
       ·refine AT true Z Z (A5 bw) Aa (Aj (Ag Z (A0 (Ab _ [0] Z (Ac 1 Z (A1 (Al ?_)))))))
        exact Af [6] Z (.int .i64 ((0:Nat):Int)) Z ⟨((0:Nat):Int),_,T109,s109,c109,rfl,a1,⟨_,_,_,aj,av⟩,⟨Ed,oM⟩,Ec,oM,Eb⟩
       ·refine AT false Z Z (A6 bw) Aa (Aj (Ah Z (A2 (A0 (A0 (Ab _ [0,2] Z (Ak (p:=(.pointer (some ⟨w.heap.size,0,none⟩))) (b:=w.heap.size) (o:=0) 0 Bf Z Z Aa (Ai (p:=(Ap (.pointer (some ⟨w.heap.size,0,none⟩)) 0)) (.inr Z) (.int .i64 ex.kind) AD Z (ae.ldp (i:=0) sM) Aa (Aj (A3 (A0 (Ab _ [0,0] Z ?_))))))))))))
        by_cases bx:ex.kind=((10:Nat):Int)
        ·refine Am true Z Z (A5 bx) Aa (Ac 1 Z (Ag Z (A0 (AO _ [0,0,0,0,0,1,0,1,0,0,1,0,1,0,1,0,4,0] mixed (by kernel_rfl) ?_))))
         have hwk:=HO hwf oM
         refine Ad 2 Z ?_
         have hvo:=hvp.outs (ex.num).toNat oM
         have hvd:=hvp.deep (ex.num).toNat oM (ex.pick).toNat oM
         refine AY Z Aa (Ak (p:=(.pointer (some ⟨g,0,none⟩))) (b:=g) (o:=0) 0 Qs Z Z Aa (Ak (p:=(Ap (.pointer (some ⟨g,0,none⟩)) 0)) (b:=g) (o:=0) 0 Bv Z Z Aa (Ai (p:=(Ap (Ap (.pointer (some ⟨g,0,none⟩)) 0) 0)) (.inl Z) vp BY Z (aj.ldp (i:=0) sM) Aa (Ak (p:=(.pointer (some ⟨w.heap.size,0,none⟩))) (b:=w.heap.size) (o:=0) 1 BE Z Z Aa (Ai (p:=(Ap (.pointer (some ⟨w.heap.size,0,none⟩)) 1)) (.inl Z) (.int .i64 ex.num) AD Z (ae.ldp (i:=1) sM) Aa ?_)))))
         refine AB (v:=vp) ((ex.num).toNat) Gb Cj Z Z hp.isSl oM sD Aa ?_
         obtain⟨cs118,ej,bz⟩:=hp.get (Av dp) Fn.zero (k:=((ex.num).toNat)) sD
         obtain⟨bd,rfl,be⟩:=RF.of ej
         have cu:=be.rn.lenle
         unfold maxLen at cu
         refine AJ (p:=Ay vp ((ex.num).toNat) 3) 2 BL Z (bz _ a8.drew) Aa (Ai (p:=(Ap (Ay vp ((ex.num).toNat) 3) 2)) (.inl Z) bd Bd Z ((bz _ a8.drew).ld (i:=2) (by simp[EX,EY])) Aa (Ak (p:=(.pointer (some ⟨w.heap.size,0,none⟩))) (b:=w.heap.size) (o:=0) 2 Dc Z Z Aa (Ai (p:=(Ap (.pointer (some ⟨w.heap.size,0,none⟩)) 2)) (.inl Z) (.int .i64 ex.pick) AD Z (ae.ldp (i:=2) sM) Aa ?_)))
         refine AB (v:=bd) ((ex.pick).toNat) D1 Bk Z Z be.rn.isSl oM sD Aa ?_
         obtain⟨cs119,ek,el⟩:=be.rn.get (Aw dp) Ex.zero (k:=((ex.pick).toNat)) sD
         obtain⟨dd119,bf,k0,rfl,bg⟩:=RX.of ek
         have cv:=bg.rn.lenle
         unfold maxLen at cv
         refine AK (p:=Ay bd ((ex.pick).toNat) 5) (.inl Z) [(.int .i64 ((((p.getD ((ex.num).toNat) Fn.zero).outs).getD ((ex.pick).toNat) Ex.zero).kind)),(.int .i64 ((((p.getD ((ex.num).toNat) Fn.zero).outs).getD ((ex.pick).toNat) Ex.zero).num)),(.int .i64 ((((p.getD ((ex.num).toNat) Fn.zero).outs).getD ((ex.pick).toNat) Ex.zero).pick)),(.int .i64 ((((p.getD ((ex.num).toNat) Fn.zero).outs).getD ((ex.pick).toNat) Ex.zero).count)),bf] B6 Z (fun wq9 ce=>el wq9 (a8.drew.ext ce)) Z Aa (Ad 1 Z ?_)
         refine AA 181 [] [] [(.pointer (some ⟨g,0,none⟩)),(.agg #[(.int .i64 ((((p.getD ((ex.num).toNat) Fn.zero).outs).getD ((ex.pick).toNat) Ex.zero).kind)),(.int .i64 ((((p.getD ((ex.num).toNat) Fn.zero).outs).getD ((ex.pick).toNat) Ex.zero).num)),(.int .i64 ((((p.getD ((ex.num).toNat) Fn.zero).outs).getD ((ex.pick).toNat) Ex.zero).pick)),(.int .i64 ((((p.getD ((ex.num).toNat) Fn.zero).outs).getD ((ex.pick).toNat) Ex.zero).count)),bf]),v109] Z Z Li Aa (IH1 (ex.num).toNat oM dd119 _ S109 g vp dp ip (s109) (c109) p (T109) bf (((p.getD ((ex.num).toNat) Fn.zero).outs).getD ((ex.pick).toNat) Ex.zero) v109 (xs109) (fun b hb=>(a1.drew.lt b hb:b<w109.heap.size)) (a1.drew.sub _ hgS) ⟨_,_,_,aj,av⟩ (RN.stp (An (Av dp)) hp a8.drew a1.drew.new) _hip oM oM GT ⟨bg.rng,(RN.stp (An (Aw dd119)) bg.rn a8.drew a1.drew.new)⟩ am bc (by exact hvp) oM (by have h9:=hvp.wf (ex.num).toNat oM (ex.pick).toNat oM;rw[show((xs109.length:Nat):Int)=(p.getD (ex.num).toNat Fn.zero).params from by omega];exact h9) oM (by exact hKb)) ?_
         rintro e120 w120 ⟨r120,S120,T120,s120,c120,rfl,a2,⟨vc120,vg120,vv120,em,en⟩,c2,cw,cx,cy⟩
         refine⟨_,rfl,?_⟩
         replace a2:=a2.of_drew
         have io:w109.heap.size≤w120.heap.size:=a2.chg.size
         have k1:Au S w w120:=a8.stp a2.chg a1.new
         have k2:=ae.chg a2.chg (fun hm=>ab hm)
         have g6:w.heap.size∉S120:=fun hm=>(a2.new _ hm).elim (fun hm=>ab hm) (fun h9=>by omega)
         have k3:=RN.stp g1 am a2.chg a2.new
         have eo:=a1.trans a2
         have iq:=c2.bnd
         have ir:=c2.num
         have hRv:=cw
         have hL2:=cy
         refine Ac 1 Z (A1 (AC (Al ?_)))
         exact Af [6] Z (.int .i64 r120) Z ⟨r120,_,T120,s120,c120,rfl,eo,⟨_,_,_,em,en⟩,⟨Ed,oM⟩,Ec,(by exact cx),Eb⟩
        ·refine Am false Z Z (A6 bx) Aa (Ac 1 Z (Ah Z (A0 (Ab _ [0,0] Z ?_))))
         by_cases c3:ex.kind=((11:Nat):Int)
         ·refine Am true Z Z (A5 c3) Aa (Ac 1 Z (Ag Z (A0 (A0 (Ab _ [0] Z ?_)))))
          have hwk:=HO hwf oM
          have hwl:=ML hwf oM
          refine Ac 1 Z (A3 ?_)
          have hMs:=av
          have hGs:=a1
          have hns:w.heap.size∉S109:=fun hm=>ab hm
          refine B1 (S:=Nat×Value×List Int×List Nat×Tp×Nat×Int×Value×Value×Value) (fun⟨i,vk,ks,S9,T9,s9,c9,vc9,vg9,vv9⟩=>([(9,vk),(10,(.int .i64 ((i:Nat):Int))),(0,(.pointer (some ⟨g,0,none⟩))),(4,(.pointer (some ⟨w.heap.size,0,none⟩)))])) (fun⟨i,vk,ks,S9,T9,s9,c9,vc9,vg9,vv9⟩ W=>Au S w W∧BX W.heap g [vp,.int .i64 ip,vc9,vg9,.slice none 0 0,vv9,.int .i64 ((s9:Nat):Int),.int .i64 c9]∧BX W.heap w.heap.size [(.int .i64 ex.kind),(.int .i64 ex.num),(.int .i64 ex.pick),(.int .i64 ex.count),ve]∧i≤(ex.count).toNat∧w.heap.size∉S9∧Fz S S9 w W∧Ct 69 208 2 S9 g W.heap vc9 vg9 vv9 T9∧UY T T9 s0 s9 c9∧RN S9 (B3 rI) W.heap vk ks∧C5 vk∧ks.length=(p.getD (ex.num).toNat Fn.zero).outs.length∧(c9=0→JH T9 ks)∧AH (Iw (fun a t U=>HQ (Kc p (ex.num).toNat) (p.getD (ex.num).toNat Fn.zero).outs a t U) i xs109 s109 T109) (ks,T9) s9 c9) (fun⟨i,vk,ks,S9,T9,s9,c9,vc9,vg9,vv9⟩=>(ex.count).toNat-i) (0,v109,xs109,S109,T109,s109,c109,vc109,vg109,vv109) ⟨rfl,rfl,rfl,rfl,trivial⟩ ⟨a8,aj,ae,oM,(by exact hns),(by exact hGs),(by exact hMs),(by exact⟨by assumption,by omega⟩),(by assumption),(by assumption),oM,(by exact hKb),(by exact⟨rfl,rfl,by omega⟩)⟩ ?_
          clear j4 j5 hG0 ka d3 ga gb g2 g3 gd b0 a4 b1 a0 d5 ac av ct a8 ae a1
          rintro⟨i,vk,ks,S9,T9,s9,c9,vc9,vg9,vv9⟩ ρ131 w131 ⟨ak,a5,a6,g7,hnb,hGl,hMl,hPl,hrk,hck,hkl,hkb,hrl9⟩
          have is:w.heap.size≤w131.heap.size:=ak.size
          have k4:=a5.lt
          have k5:=a6.lt
          have hnl:=hPl.num
          have hbl:=hPl.bnd
          refine A0 (A0 (Ab _ [0,0,2,0,0,0,0,0,2,0,0] Z (Ad 1 Z (Ak (p:=(.pointer (some ⟨w.heap.size,0,none⟩))) (b:=w.heap.size) (o:=0) 3 Du Z Z Aa (Ai (p:=(Ap (.pointer (some ⟨w.heap.size,0,none⟩)) 3)) (.inr Z) (.int .i64 ex.count) AD Z (a6.ldp (i:=3) sM) Aa ?_)))))
          by_cases c4:((i:Nat):Int)<ex.count
          ·refine AG true Z Z (A5 c4) Aa (Ad 2 Z (AY Z (Ae (e:=156) Z Z Z) (Ak (p:=(.pointer (some ⟨g,0,none⟩))) (b:=g) (o:=0) 7 ES Z Z (Ae (e:=156) Z Z Z) (Ai (p:=(Ap (.pointer (some ⟨g,0,none⟩)) 7)) (.inr Z) (.int .i64 c9) AD Z (a5.ldp (i:=7) sM) (Ae (e:=156) Z Z Z) ?_))))
           by_cases c5:c9=((0:Nat):Int)
           ·refine Am true Z Z (A5 c5) (Ae (e:=156) Z Z Z) (Ac 1 Z (Ag Z (A2 (A0 (A3 (AO _ [0,0,0,0,0,1,0,1,0,0,1,0,4,0] mixed (by kernel_rfl) (Ad 2 Z ?_)))))))
            have hvo:=hvp.outs (ex.num).toNat oM
            refine AY Z Aa (Ak (p:=(.pointer (some ⟨g,0,none⟩))) (b:=g) (o:=0) 0 Qs Z Z Aa (Ak (p:=(Ap (.pointer (some ⟨g,0,none⟩)) 0)) (b:=g) (o:=0) 0 Bv Z Z Aa (Ai (p:=(Ap (Ap (.pointer (some ⟨g,0,none⟩)) 0) 0)) (.inl Z) vp BY Z (a5.ldp (i:=0) sM) Aa (Ak (p:=(.pointer (some ⟨w.heap.size,0,none⟩))) (b:=w.heap.size) (o:=0) 1 BE Z Z Aa (Ai (p:=(Ap (.pointer (some ⟨w.heap.size,0,none⟩)) 1)) (.inl Z) (.int .i64 ex.num) AD Z (a6.ldp (i:=1) sM) Aa ?_)))))
            refine AB (v:=vp) ((ex.num).toNat) Gb Cj Z Z hp.isSl oM sD Aa ?_
            obtain⟨cs136,ep,c6⟩:=hp.get (Av dp) Fn.zero (k:=((ex.num).toNat)) sD
            obtain⟨bh,rfl,c7⟩:=RF.of ep
            have cz:=c7.rn.lenle
            unfold maxLen at cz
            refine AJ (p:=Ay vp ((ex.num).toNat) 3) 2 BL Z (c6 _ ak.drew) Aa (Ai (p:=(Ap (Ay vp ((ex.num).toNat) 3) 2)) (.inl Z) bh Bd Z ((c6 _ ak.drew).ld (i:=2) (by simp[EX,EY])) Aa (Ad 1 Z ?_))
            refine AA 102 [] [] [(.pointer (some ⟨g,0,none⟩)),bh,vk] Z Z SW Aa (Pc (ex.num).toNat dp (fun d9 h9=>IH1 (ex.num).toNat oM d9) _ S9 g vp dp ip (s9) (c9) p (T9) bh ((p.getD ((ex.num).toNat) Fn.zero).outs) vk (ks) (fun b hb=>(hGl.drew.lt b hb:b<w131.heap.size)) (hGl.drew.sub _ hgS) ⟨_,_,_,a5,hMl⟩ (RN.stp (An (Av dp)) hp ak.drew hGl.drew.new) _hip oM oM GT (RN.stp (An (Aw dp)) c7.rn ak.drew hGl.drew.new) hrk hck (by exact hvp) oM (by intro k hk;have h9:=hvp.wf (ex.num).toNat oM k hk;rw[show((ks.length:Nat):Int)=(p.getD (ex.num).toNat Fn.zero).params from by omega];exact h9) (by intro k hk;have:=hvp.deep (ex.num).toNat oM k hk;omega) oM (by exact hkb)) ?_
            rintro e137 w137 ⟨v137,xs137,S137,T137,s137,c137,rfl,a3,⟨vc137,vg137,vv137,eq,er⟩,c8,es,it,iu,iv,iw⟩
            refine⟨_,rfl,?_⟩
            replace a3:=a3.of_drew
            have ix:w131.heap.size≤w137.heap.size:=a3.chg.size
            have et:Au S w w137:=ak.stp a3.chg hGl.new
            have eu:=a6.chg a3.chg (fun hm=>hnb hm)
            have bs:w.heap.size∉S137:=fun hm=>(a3.new _ hm).elim (fun hm=>hnb hm) (fun h9=>by omega)
            have k6:=RN.stp g1 hrk a3.chg a3.new
            have ev:=hGl.trans a3
            have iy:=c8.bnd
            have iz:=c8.num
            have j0:=es.rn
            refine Ac 1 Z (Ab _ [0,0,0] Z (Ad 1 Z (AP ((i+1:Nat):Int) Z Z (Bl oM oM) Aa (Ac 1 Z ?_))))
            have hMe:=er
            have hGe:=ev
            have hPe:UY T T137 s0 s137 c137:=⟨by assumption,by omega⟩
            have hne:w.heap.size∉S137:=fun hm=>bs hm
            exact⟨((i+1),v137,xs137,S137,T137,s137,c137,vc137,vg137,vv137),_,rfl,⟨rfl,rfl,rfl,rfl,trivial⟩,⟨et,eq,eu,oM,(by exact hne),(by exact hGe),(by exact hMe),(by exact hPe),(by assumption),(by assumption),oM,(by assumption),(by exact Xt hrl9 oM (by assumption))⟩,by first|omega|(dsimp only;omega)⟩
           ·refine Am false Z Z (A6 c5) (Ae (e:=156) Z Z Z) (Ac 1 Z (Ah Z (A4 (Ax (Ax (At (A0 (Ab _ [0,0,2,0,2,0] Z ?_))))))))
            have hkb9:=fun h9:c9=0=>hkb h9 (ex.pick).toNat oM
            refine Ad 1 Z (Ak (p:=(.pointer (some ⟨w.heap.size,0,none⟩))) (b:=w.heap.size) (o:=0) 2 Dc Z Z Aa (Ai (p:=(Ap (.pointer (some ⟨w.heap.size,0,none⟩)) 2)) (.inr Z) (.int .i64 ex.pick) AD Z (a6.ldp (i:=2) sM) Aa (AB (v:=vk) ((ex.pick).toNat) Bt BT Z Z hrk.slL oM oM Aa ?_)))
            have ca:=RN.getI (w:=w131) (k:=(ex.pick).toNat) hrk oM
            refine Ai (p:=Ay vk ((ex.pick).toNat) 1) (.inr Z) (.int .i64 (ks.getD ((ex.pick).toNat) 0)) AD Z (ca.1 _ (Au.refl _ _)) Aa (Ac 1 Z (A1 (AC (Al ?_))))
            exact Af [6] Z (.int .i64 (ks.getD ((ex.pick).toNat) 0)) Z ⟨ks.getD ((ex.pick).toNat) 0,_,T9,s9,c9,rfl,hGl,⟨_,_,_,a5,hMl⟩,⟨Ed,oM⟩,Ec,(by exact ca.2),Eb⟩
          ·refine AG false Z Z (A6 c4) Aa (Ac 7 Z (Ah Z (A4 (Ax (Ax (At (A0 (Ab _ [0,0,2,0,2,0] Z ?_))))))))
           have hkb9:=fun h9:c9=0=>hkb h9 (ex.pick).toNat oM
           refine Ad 1 Z (Ak (p:=(.pointer (some ⟨w.heap.size,0,none⟩))) (b:=w.heap.size) (o:=0) 2 Dc Z Z Aa (Ai (p:=(Ap (.pointer (some ⟨w.heap.size,0,none⟩)) 2)) (.inr Z) (.int .i64 ex.pick) AD Z (a6.ldp (i:=2) sM) Aa (AB (v:=vk) ((ex.pick).toNat) Bt BT Z Z hrk.slL oM oM Aa ?_)))
           have cb:=RN.getI (w:=w131) (k:=(ex.pick).toNat) hrk oM
           refine Ai (p:=Ay vk ((ex.pick).toNat) 1) (.inr Z) (.int .i64 (ks.getD ((ex.pick).toNat) 0)) AD Z (cb.1 _ (Au.refl _ _)) Aa (Ac 1 Z (A1 (AC (Al ?_))))
           exact Af [6] Z (.int .i64 (ks.getD ((ex.pick).toNat) 0)) Z ⟨ks.getD ((ex.pick).toNat) 0,_,T9,s9,c9,rfl,hGl,⟨_,_,_,a5,hMl⟩,⟨Ed,oM⟩,Ec,(by exact cb.2),Eb⟩
         ·refine Am false Z Z (A6 c3) Aa (Ac 1 Z (Ah Z (A2 (A0 (Ab _ [0,0,2,0,0,0,4,0] Z ?_)))))
          have hkb9:=hKb oM
          have l2:3≤ex.kind∧ex.kind≤7:=by have:=(CT (CE hwf)).1;omega
          have hkl:1≤ex.kids.length∧(ex.kind≠7→2≤ex.kids.length):=by by_cases h7:ex.kind=7;(have:=OG hwf h7;omega);(have:=JB hwf oM;omega)
          refine Ad 1 Z (Ak (p:=(.pointer (some ⟨w.heap.size,0,none⟩))) (b:=w.heap.size) (o:=0) 0 Bf Z Z Aa (Ai (p:=(Ap (.pointer (some ⟨w.heap.size,0,none⟩)) 0)) (.inr Z) (.int .i64 ex.kind) AD Z (ae.ldp (i:=0) sM) Aa (Bs (ex.kind-((3:Nat):Int)) Z Z (Da oM oM) Aa (AP ex.kind Z Z (ZV oM oM oM) Aa (Ad 1 Z ?_)))))
          refine AA 229 [] [] [(.pointer (some ⟨g,0,none⟩)),(.int .i64 ex.kind),v109] Z Z Zb Aa (FA _ S109 g vp dp ip (s109) (c109) p (T109) (ex.kind) v109 (xs109) (fun b hb=>(a1.lt b hb:b<w109.heap.size)) (a1.sub _ hgS) ⟨_,_,_,aj,av⟩ (RN.stp (An (Av dp)) hp a8 a1.new) _hip oM oM GT oM am bc oM oM (by exact hkb9) oM) ?_
          rintro e148 w148 ⟨r148,S148,T148,c148,rfl,a9,⟨vc148,vg148,vv148,ew,ey⟩,j1,j2,d0,d1,d2⟩
          refine⟨_,rfl,?_⟩
          have j3:w109.heap.size≤w148.heap.size:=a9.chg.size
          have k7:Au S w w148:=a8.stp a9.chg a1.new
          have k8:=ae.chg a9.chg (fun hm=>ab hm)
          have g8:w.heap.size∉S148:=fun hm=>(a9.new _ hm).elim (fun hm=>ab hm) (fun h9=>by omega)
          have k9:=RN.stp g1 am a9.chg a9.new
          have ez:=a1.trans a9
          have hRv:=d0
          have hL2:=d2
          refine Ac 1 Z (A1 ?_)
          exact Af [6] Z (.int .i64 r148) Z ⟨r148,_,T148,s109,c148,rfl,ez,⟨_,_,_,ew,ey⟩,⟨Ed,oM⟩,Ec,(by exact d1),Eb⟩
end
section
set_option maxHeartbeats 4000000
set_option maxRecDepth 100000
attribute [local irreducible] LW
theorem XX:∀F d,ZI F d:=by
 intro F
 induction F using Nat.strongRecOn with
 |_ F ihF =>
  intro d
  induction d using Nat.strongRecOn with
  |_ d ihd =>
   intro w S g vp dp ip s0 c0 p T ve ex vv env hS hgS a0 hp hip a1 a2 hbd hex henv hqenv hvp hF hwf hdp hen
   exact I5 w S F g vp dp ip s0 c0 p T d ve ex vv env hS hgS a0 hp hip a1 a2 hbd hex henv hqenv hvp hF hwf hdp hen ihF ihd
theorem XY (F d:Nat):cF F d:=Pc F d fun d' _=>XX F d'
theorem Qz {p:Prop}(h:p:=by have h9:=hm;rw[hSd]at h9;have:=A9 h9;omega):p:=h
theorem Tw {p:Prop}(h:p:=by simp only[List.map_toArray,List.map_cons,List.map_nil];rfl):p:=h
theorem M2 (w:World)(dp:Nat)(vp:Value)(p:List Fn)(f:Int)(va:Value)(a:List Int)(hp:RP [] dp w.heap vp p)(_hf:Bx f)(ha:RN [] (B3 rI) w.heap va a)(hok:G7 p=true)(hz:PJ p)(hf:0≤f∧f<((p.length:Nat):Int))(hl:((a.length:Nat):Int)=(p.getD f.toNat Fn.zero).params)(hna:B2 a=true) :
  Calls Tryz.prog 29 #[(.agg #[vp]),.int .i64 f,va] w (fun e w'=>∃(i0:Int) (vc vg vo:Value) (xs:List Int) (T':Tp) (s1:Nat) (c1:Int),e=.returned (.tuple #[.agg #[.int .i64 i0,vc,vg,vo],.int .i64 c1])∧AF w w'∧AH (MR p f.toNat a) (xs,T') s1 c1∧(0≤c1∧c1≤9)∧(∀u∈[vc,vg,vo],u.cells=#[u]∧u.oneCell'=true)∧Bx i0∧(c1=0→i0=(p.getD f.toNat Fn.zero).params∧JG T' s1∧s1≤3000∧xs.length=(p.getD f.toNat Fn.zero).outs.length∧JH T' xs∧RG w.heap.size (DM 4 On) w'.heap vc T'.code∧RG w.heap.size (DM 2 Oo) w'.heap vg T'.grd∧RG w.heap.size (B3 rI) w'.heap vo xs)):=by
 refine Aq [(.agg #[vp]),.int .i64 f,va] 87 Tryz.func29 Z Z sM ?_
 have dq:AF w w:=AF.refl w
 have hl_vp:=hp.lenle
 unfold maxLen at hl_vp
 have hl_va:=ha.lenL
 unfold maxLen at hl_va
 have hvp:=FG hok
 have hpr:=hvp.par f.toNat oM
 have hou:=hvp.outs f.toNat oM
 have hi:NP p f=0:=by unfold NP;rw[if_pos hok,if_pos oM]
 refine A0 (Ab _ [3,3,0] Z (Bu (cs:=#[vp]) Z Aa fun w1 cj e8 cf=>?_))
 have ck:=cj.size
 have dr:=dq.trans cj
 replace cf:BX w1.heap w.heap.size [vp]:=cf
 have ey:=cf.lt
 refine Bo (z:=.agg #[.int .i64 0,.slice none 0 0,.slice none 0 0,.slice none 0 0]) Zr Aa fun w2 cg e9 cl=>?_
 have cm:=cg.size
 have cn:=dr.trans cg
 have aq:=cf.ext cg
 replace cl:BX w2.heap w1.heap.size [(.int .i64 0),(.slice none 0 0),(.slice none 0 0),(.slice none 0 0)]:=cl
 refine Ac 1 Z (A0 (Ab _ [2,0,3,0] Z (AK (p:=(.pointer (some ⟨w.heap.size,0,none⟩))) (.inr Z) [vp] BZ Z (fun wq9 ba=>LD.of_box (BX.ext (w:=w2) aq ba)) Z Aa (Ad 1 Z (As 100 [] [] [(.agg #[vp]),(.int .i64 f)] Z Z Vm Aa (If _ dp vp (p) _ (hp.ext (An (Av dp)) cn) _hf (by exact hz)) ?_)))))
 rintro e4 w4 ⟨rfl,b8⟩
 refine⟨_,rfl,b8,?_⟩
 have co:=b8.size
 have bb:=cn.trans b8
 have ar:=aq.ext b8
 have bc:=cl.ext b8
 refine Ac 1 Z (A0 (A0 (Ab _ [0,0,0,0,0,2,0,0,0,2,3,0,0] Z (Ad 1 Z ?_))))
 have ea:NP p f=((0:Nat):Int):=hi
 refine Am true Z Z (A5 ea) Aa (Ad 2 Z (Ak (p:=(.pointer (some ⟨w.heap.size,0,none⟩))) (b:=w.heap.size) (o:=0) 0 Bv Z Z (Ae (e:=18) Z Z Z) (Ai (p:=(Ap (.pointer (some ⟨w.heap.size,0,none⟩)) 0)) (.inr Z) vp BY Z (ar.ldp (i:=0) sM) (Ae (e:=18) Z Z Z) (Ad 1 Z (AB (v:=vp) ((f).toNat) Gb Cj Z Z hp.isSl oM sD (Ae (e:=18) Z Z Z) ?_)))))
 obtain⟨cs6,eb,ch⟩:=hp.get (Av dp) Fn.zero (k:=((f).toNat)) sD
 obtain⟨ez,rfl,ds⟩:=RF.of eb
 have bd:=ds.rn.lenle
 unfold maxLen at bd
 refine AJ (p:=Ay vp ((f).toNat) 3) 1 C2 Z (ch _ (Au.of_ext [] bb)) (Ae (e:=18) Z Z Z) (Ai (p:=(Ap (Ay vp ((f).toNat) 3) 1)) (.inr Z) (.int .i64 ((p.getD ((f).toNat) Fn.zero).params)) AD Z ((ch _ (Au.of_ext [] bb)).ld (i:=1) (by simp[EX,EY])) (Ae (e:=18) Z Z Z) (As 86 [] [] [va,(.int .i64 ((p.getD ((f).toNat) Fn.zero).params))] Z Z Uw (Ae (e:=18) Z Z Z) (Dd _ _ _ _ ((ha.ext g1 bb)).rd ds.rng) ?_))
 rintro e7 w7 ⟨rfl,b9⟩
 refine⟨_,rfl,b9,?_⟩
 have cp:=b9.size
 have ci:=bb.trans b9
 have ae:=ar.ext b9
 have au:=bc.ext b9
 rw[show(decide (((a.length:Nat):Int)=((p.getD ((f).toNat) Fn.zero).params)) && B2 a)=true from(by rw[A5 oM,hna];rfl)]
 refine Bn false Z Z (Ae (e:=18) Z Z Z) (Ac 1 Z (Ah Z (A2 (A0 (A0 (Ab _ [0,0] Z (Ad 1 Z ?_)))))))
 have ec:¬(NP p f≠((0:Nat):Int)):=(fun h9=>h9 hi)
 refine AT false Z Z (A6 ec) Aa (Aj (Ah Z (A2 (A0 (AO _ [1,0,1,0,0,0,1,0,0,3,0] mixed (by kernel_rfl) (AK (p:=(.pointer (some ⟨w.heap.size,0,none⟩))) (.inl Z) [vp] BZ Z (fun wq9 ba=>LD.of_box (BX.ext (w:=w7.drew) ae ba)) Z Aa (Ak (p:=(.pointer (some ⟨w.heap.size,0,none⟩))) (b:=w.heap.size) (o:=0) 0 Bv Z Z Aa (Ai (p:=(Ap (.pointer (some ⟨w.heap.size,0,none⟩)) 0)) (.inl Z) vp BY Z (ae.ldp (i:=0) sM) Aa (Ad 1 Z ?_)))))))))
 refine AB (v:=vp) ((f).toNat) Gb Cj Z Z hp.isSl oM sD Aa (AJ (p:=Ay vp ((f).toNat) 3) 1 C2 Z (ch _ (Au.of_ext [] ci.drew)) Aa (Ai (p:=(Ap (Ay vp ((f).toNat) 3) 1)) (.inl Z) (.int .i64 ((p.getD ((f).toNat) Fn.zero).params)) AD Z ((ch _ (Au.of_ext [] ci.drew)).ld (i:=1) (by simp[EX,EY])) Aa ?_))
 have cq:∀(wq:World),(Instr.build 55 #[(0,(.int .i64 ((p.getD ((f).toNat) Fn.zero).params)))]).run Tryz.prog wq=.ok (.agg #[(.int .i64 ((p.getD ((f).toNat) Fn.zero).params)),(.slice none 0 0),(.slice none 0 0),(.slice none 0 0)]) wq:=by intro wq;kernel_rfl
 refine C3 (ps:=#[(0,(.int .i64 ((p.getD ((f).toNat) Fn.zero).params)))]) (.agg #[(.int .i64 ((p.getD ((f).toNat) Fn.zero).params)),(.slice none 0 0),(.slice none 0 0),(.slice none 0 0)]) Tw (fun wq=>cq  wq) Aa ?_
 have be:∀(vp:Value) (m10_0:Nat) (h10_0:EA vp m10_0) (wq:World),(Instr.build 129 #[(0,(.agg #[vp])),(1,(.agg #[(.int .i64 ((p.getD ((f).toNat) Fn.zero).params)),(.slice none 0 0),(.slice none 0 0),(.slice none 0 0)]))]).run Tryz.prog wq=.ok (.agg #[vp,(.int .i64 ((p.getD ((f).toNat) Fn.zero).params)),(.slice none 0 0),(.slice none 0 0),(.slice none 0 0),(.slice none 0 0),(.int .i64 0),(.int .i64 0)]) wq:=by intro vp m10_0 h10_0 wq;obtain⟨a10_0,c10_0,rfl,_⟩:=h10_0;kernel_rfl
 refine C3 (ps:=#[(0,(.agg #[vp])),(1,(.agg #[(.int .i64 ((p.getD ((f).toNat) Fn.zero).params)),(.slice none 0 0),(.slice none 0 0),(.slice none 0 0)]))]) (.agg #[vp,(.int .i64 ((p.getD ((f).toNat) Fn.zero).params)),(.slice none 0 0),(.slice none 0 0),(.slice none 0 0),(.slice none 0 0),(.int .i64 0),(.int .i64 0)]) Tw (fun wq=>be vp _ hp.isSl wq) Aa ?_
 have ed:=ae.lt
 have ee:=au.lt
 refine Bu (cs:=#[vp,(.int .i64 ((p.getD ((f).toNat) Fn.zero).params)),(.slice none 0 0),(.slice none 0 0),(.slice none 0 0),(.slice none 0 0),(.int .i64 0),(.int .i64 0)]) Z Aa fun w11 a9 cr ak=>?_
 replace a9:=a9.of_drew
 have bf:=a9.size
 have bg:=ci.trans a9
 have av:=ae.ext a9
 have aw:=au.ext a9
 replace ak:BX w11.heap w7.drew.heap.size [vp,(.int .i64 ((p.getD ((f).toNat) Fn.zero).params)),(.slice none 0 0),(.slice none 0 0),(.slice none 0 0),(.slice none 0 0),(.int .i64 0),(.int .i64 0)]:=ak
 refine Ac 1 Z (A0 (Ab _ [3,0] Z ?_))
 obtain⟨S,hSd⟩:∃S:List Nat,S=[w7.heap.size]:=⟨_,rfl⟩
 have hgS:w7.heap.size∈S:=by rw[hSd];exact List.mem_singleton.2 Z
 have hlr:w7.heap.size<w11.heap.size:=BX.lt ak
 have hMb:Ct 69 208 2 S w7.heap.size w11.heap (.slice none 0 0) (.slice none 0 0) (.slice none 0 0) (Jd a 0):=Ct.nil
 have hGb:Fz S S w w11:=⟨fun _ h=>h,fun b hb=>.inl hb,fun b hb=>by rw[hSd]at hb;have:=A9 hb;omega,Au.of_ext S bg⟩
 have hEb:Au S w w11:=hGb.chg
 have hSn:∀b∈S,w.heap.size≤b:=fun b hb=>by rw[hSd]at hb;have:=A9 hb;omega
 have hBb:BX w11.heap w7.heap.size [vp,(.int .i64 ((p.getD f.toNat Fn.zero).params)),(.slice none 0 0),(.slice none 0 0),(.slice none 0 0),(.slice none 0 0),(.int .i64 ((0:Nat):Int)),(.int .i64 ((0:Nat):Int))]:=ak
 have ax:RN S (DM 3 (UR dp)) w.heap vp p:=by rw[hSd];exact RN.add (An (Av dp)) hp (fun b hb=>by have:=A9 hb;omega)
 have ay:RN S (B3 rI) w.heap va a:=by rw[hSd];exact RN.add g1 ha (fun b hb=>by have:=A9 hb;omega)
 refine CQ (rI) AR Bt BT Aa fun v17 w17 a4 ct bh=>?_
 have bi:w11.heap.size≤w17.heap.size:=a4.size
 have bj:Au S w w17:=hEb.ext a4
 have az:=av.ext a4
 have b0:=aw.ext a4
 have b1:=hBb.ext a4
 have bk:=Ct.ext hMb a4
 have bl:=hGb.ext a4
 refine Ac 1 Z (A0 (A0 (Ab _ [0,0,0] Z (Ad 1 Z (AQ (v:=va) Bt Z ay.slL Aa (Ac 1 Z (A3 ?_)))))))
 have hBO:w.heap.size≤w11.heap.size∧w7.heap.size<w11.heap.size:=by omega
 have bm:w.heap.size∉S:=fun hm=>Qz
 have bn:w1.heap.size∉S:=fun hm=>Qz
 obtain⟨Fo0,bo⟩:=Ow.of_fr bh (A7 _)
 have cu:∀b∈Fo0,b∉S:=fun b hb hm=>by have:=bo.low b hb;have:=hGb.lt b hm;omega
 have hMs:=bk
 have hGs:=bl
 have hnswheaps:w.heap.size∉S:=fun hm=>Qz
 have hnsw1heap:w1.heap.size∉S:=fun hm=>Qz
 refine B1 (S:=Nat×Value×List Int×List Nat×List Nat×Value×Value×Value) (fun⟨k,vo,xs,Fo,S9,vc9,vg9,vv9⟩=>([(10,vo),(46,(.int .i64 ((k:Nat):Int))),(1,(.int .i64 f)),(3,(.pointer (some ⟨w.heap.size,0,none⟩))),(6,(.pointer (some ⟨w1.heap.size,0,none⟩))),(9,(.pointer (some ⟨w7.heap.size,0,none⟩))),(44,va),(45,(.int .i64 ((a.length:Nat):Int)))])) (fun⟨k,vo,xs,Fo,S9,vc9,vg9,vv9⟩ W=>Au S w W∧BX W.heap w.heap.size [vp]∧BX W.heap w1.heap.size [(.int .i64 0),(.slice none 0 0),(.slice none 0 0),(.slice none 0 0)]∧BX W.heap w7.heap.size [vp,.int .i64 (p.getD f.toNat Fn.zero).params,vc9,vg9,.slice none 0 0,vv9,.int .i64 ((0:Nat):Int),.int .i64 ((0:Nat):Int)]∧k≤a.length∧w11.heap.size≤W.heap.size∧Fz S S9 w W∧Ct 69 208 2 S9 w7.heap.size W.heap vc9 vg9 vv9 (Jd a k)∧Ow (Bh rI 2) w11.heap.size W.heap.size W.heap vo xs Fo∧(∀b∈Fo,b∉S9)∧xs=GZ k∧w.heap.size∉S9∧w1.heap.size∉S9) (fun⟨k,vo,xs,Fo,S9,vc9,vg9,vv9⟩=>a.length-k) (0,v17,[],Fo0,S,(.slice none 0 0),(.slice none 0 0),(.slice none 0 0)) ⟨rfl,rfl,rfl,rfl,rfl,rfl,rfl,rfl,trivial⟩ ⟨bj,az,b0,b1,oM,oM,(by exact hGs),(by exact hMs),(by exact bo),(by exact cu),(by rfl),(by exact bm),(by exact bn)⟩ ?_
 clear dq e8 cj ck dr e9 cg cm cn b8 co bb bd b9 cp ci cr a9 bf bg bh ct a4 bi bj bk bl
 rintro⟨k,vo,xs,Fo,S9,vc9,vg9,vv9⟩ ρ21 w21 ⟨a5,a3,aa,ab,cv,hbw,hGl,hMl,hOl,hdl,hxe,af,ag⟩
 have dt:w.heap.size≤w21.heap.size:=a5.size
 have ef:=a3.lt
 have eg:=aa.lt
 have eh:=ab.lt
 refine A0 (Ab _ [0] Z ?_)
 by_cases bp:((k:Nat):Int)<((a.length:Nat):Int)
 ·refine AG true Z Z (A5 bp) Aa (Aj (A0 (Ag Z (A2 (A0 (A3 (A0 (Ab _ [0,0,2,0,0] Z ?_))))))))
  have hak:=C6 hna k
  have hvk:=JI a k
  have hxk:xs.length=k:=by rw[hxe,Gm]
  refine Ad 1 Z (AB (v:=va) k Bt BT Z Z ay.slL Z sD Aa ?_)
  have bq:=RN.getI (w:=w) (k:=k) ay sD
  refine Ai (p:=Ay va k 1) (.inr Z) (.int .i64 (a.getD k 0)) AD Z (bq.1 _ a5) Aa (Ac 2 Z (Ab _ [0,0,0,0,0,4,3,4,0] Z (Ad 3 Z ?_)))
  have br:∀(wq:World),(Instr.build 69 #[(0,(.int .i64 ((1:Nat):Int))),(3,(.int .i64 ((k:Nat):Int)))]).run Tryz.prog wq=.ok (.agg #[(.int .i64 ((1:Nat):Int)),(.int .i64 0),(.int .i64 0),(.int .i64 ((k:Nat):Int))]) wq:=by intro wq;kernel_rfl
  refine C3 (ps:=#[(0,(.int .i64 ((1:Nat):Int))),(3,(.int .i64 ((k:Nat):Int)))]) (.agg #[(.int .i64 ((1:Nat):Int)),(.int .i64 0),(.int .i64 0),(.int .i64 ((k:Nat):Int))]) Tw (fun wq=>br  wq) Aa (Ad 1 Z ?_)
  refine AA 101 [] [] [(.pointer (some ⟨w7.heap.size,0,none⟩)),(.agg #[(.int .i64 ((1:Nat):Int)),(.int .i64 (0:Int)),(.int .i64 (0:Int)),(.int .i64 ((k:Nat):Int))]),(.int .i64 (a.getD k 0))] Z Z Qk Aa (CF _ S9 w7.heap.size vp ((p.getD f.toNat Fn.zero).params) (0) (((0:Nat):Int)) (Jd a k) (⟨((1:Nat):Int),(0:Int),(0:Int),((k:Nat):Int)⟩:AE) (a.getD k 0) (fun b hb=>(hGl.lt b hb:b<w21.heap.size)) (hGl.sub _ hgS) ⟨_,_,_,ab,hMl⟩ oM (by rw[MQ,JI];omega) ⟨(show Bx (((1:Nat):Int))from by omega),(show Bx ((0:Int))from by omega),(show Bx ((0:Int))from by omega),(show Bx (((k:Nat):Int))from by omega)⟩ bq.2) ?_
  rintro e28 w28 ⟨S28,rfl,a0,vc28,vg28,vv28,cw,cx⟩
  refine⟨_,rfl,?_⟩
  have du:w21.heap.size≤w28.heap.size:=a0.chg.size
  have cy:Au S w w28:=a5.stp a0.chg hGl.new
  have cz:=a3.chg a0.chg (fun hm=>af hm)
  have b2:w.heap.size∉S28:=fun hm=>(a0.new _ hm).elim (fun hm=>af hm) (fun h9=>by omega)
  have d0:=aa.chg a0.chg (fun hm=>ag hm)
  have b3:w1.heap.size∉S28:=fun hm=>(a0.new _ hm).elim (fun hm=>ag hm) (fun h9=>by omega)
  have d1:=hOl.keep (Bc AR) a0.chg (fun b hb hm=>hdl b hm hb)
  have ai:∀b∈Fo,b∉S28:=fun b hb hm=>(a0.new b hm).elim (hdl b hb) (fun h9=>by have:=hOl.high b hb;omega)
  have d2:=hGl.trans a0
  have dv:((Jd a k).put (⟨((1:Nat):Int),(0:Int),(0:Int),((k:Nat):Int)⟩:AE) (a.getD k 0)).vals.length=(Jd a k).vals.length+1:=GJ _ _ _
  have dw:((Jd a k).put (⟨((1:Nat):Int),(0:Int),(0:Int),((k:Nat):Int)⟩:AE) (a.getD k 0)).grd.length=(Jd a k).grd.length:=rfl
  refine(BI (u:=(.int .i64 (((Jd a k).vals.length:Nat):Int))) (B:=w28.heap.size) AR Bt BT Z Z (Ov w28.heap.size w28.heap.size _ _ oM) (A7 _) Aa ?_)
  intro v36 w36 a6 ei d3
  have dx:w28.heap.size≤w36.heap.size:=a6.size
  have d4:Au S w w36:=cy.ext a6
  have al:=cz.ext a6
  have am:=d0.ext a6
  have an:=cw.ext a6
  have d5:=Ct.ext cx a6
  have bs:=d2.ext a6
  have hO38k:=d1.ext (Bc AR) a6
  refine KX (v:=vo) (a:=v36) Bt BT Z Z Z hO38k d3.rd1 oM sD (by unfold maxLen;first|omega|assumption|(simp;done)|(simp;omega)) Aa fun v39 w39 F39 ac ej d6=>?_
  have dy:w36.heap.size≤w39.heap.size:=ac.size
  have d7:Au S w w39:=d4.fresh ac (fun c hc=>by have:=hO38k.low c hc;omega)
  have ek:∀b∈F39,b∉S28:=fun b hb hm=>(d6 b hb).elim (fun h9=>ai b h9 hm) (fun h9=>by have:=bs.lt b hm;omega)
  have d8:=Ct.chgO d5 ac ai
  have d9:=bs.fresh ac (fun c hc=>by have:=hO38k.low c hc;omega)
  have da:=al.chg ac (fun hm=>by have:=hO38k.low _ hm;omega)
  have db:=am.chg ac (fun hm=>by have:=hO38k.low _ hm;omega)
  have dc:=an.chg ac (fun hm=>by have:=hO38k.low _ hm;omega)
  refine Ac 1 Z (Ab _ [0,0] Z (AP ((k+1:Nat):Int) Z Z (Bl oM oM) Aa (Ac 1 Z ?_)))
  have hMe:=d8
  have hGe:=d9
  have bt:w.heap.size∉S28:=fun hm=>b2 hm
  have bu:w1.heap.size∉S28:=fun hm=>b3 hm
  exact⟨((k+1),v39,(xs++[(((Jd a k).vals.length:Nat):Int)]),F39,S28,vc28,vg28,vv28),_,rfl,⟨rfl,rfl,rfl,rfl,rfl,rfl,rfl,rfl,trivial⟩,⟨d7,da,db,dc,oM,oM,(by exact hGe),(by exact hMe),(by assumption),(by assumption),(by rw[hxe,JI];exact(OQ k).symm),(by exact bt),(by exact bu)⟩,by first|omega|(dsimp only;omega)⟩
 ·refine AG false Z Z (A6 bp) Aa (Aj (A0 (Ah Z (A4 (Ax (Ax (At (A0 (Ab _ [0,0,0,2,0,0,0,2,0,4,0,0,0,4] Z ?_)))))))))
  have hkl:k=a.length:=by omega
  refine Ad 2 Z (Ak (p:=(.pointer (some ⟨w.heap.size,0,none⟩))) (b:=w.heap.size) (o:=0) 0 Bv Z Z Aa (Ai (p:=(Ap (.pointer (some ⟨w.heap.size,0,none⟩)) 0)) (.inr Z) vp BY Z (a3.ldp (i:=0) sM) Aa (Ad 1 Z (AB (v:=vp) ((f).toNat) Gb Cj Z Z ax.isSl oM sD Aa ?_))))
  obtain⟨cs46,dd,bv⟩:=ax.get (Av dp) Fn.zero (k:=((f).toNat)) sD
  obtain⟨b4,rfl,bw⟩:=RF.of dd
  have bx:=bw.rn.lenle
  unfold maxLen at bx
  refine AJ (p:=Ay vp ((f).toNat) 3) 2 BL Z (bv _ a5) Aa (Ai (p:=(Ap (Ay vp ((f).toNat) 3) 2)) (.inr Z) b4 Bd Z ((bv _ a5).ld (i:=2) (by simp[EX,EY])) Aa (Ad 1 Z ?_))
  refine AA 102 [] [] [(.pointer (some ⟨w7.heap.size,0,none⟩)),b4,vo] Z Z SW Aa (XY f.toNat dp _ S9 w7.heap.size vp dp ((p.getD f.toNat Fn.zero).params) (0) (((0:Nat):Int)) p (Jd a k) b4 ((p.getD ((f).toNat) Fn.zero).outs) vo (xs) (fun b hb=>(hGl.lt b hb:b<w21.heap.size)) (hGl.sub _ hgS) ⟨_,_,_,ab,hMl⟩ (RN.stp (An (Av dp)) ax a5 hGl.new) oM oM oM (by rw[hkl];exact Yh hna oM) (RN.stp (An (Aw dp)) bw.rn a5 hGl.new) (RN.of_ow hOl hdl) hOl.fr.cap (by exact hvp) oM (by intro j hj;have h9:=hvp.wf f.toNat oM j hj;rw[hxe,Gm,hkl,hl];exact h9) (by intro j hj;have h9:=hvp.deep f.toNat oM j hj;rw[hxe,Gm];omega) oM (by exact fun _=>by rw[hxe];exact Yi a k)) ?_
  rintro e47 w47 ⟨v47,xs47,S47,T47,s47,c47,rfl,a1,⟨vc47,vg47,vv47,de,df⟩,bz,c0,dz,c2,c3,c4⟩
  refine⟨_,rfl,?_⟩
  have e0:w21.heap.size≤w47.heap.size:=a1.chg.size
  have dg:Au S w w47:=a5.stp a1.chg hGl.new
  have dh:=a3.chg a1.chg (fun hm=>af hm)
  have di:w.heap.size∉S47:=fun hm=>(a1.new _ hm).elim (fun hm=>af hm) (fun h9=>by omega)
  have dj:=aa.chg a1.chg (fun hm=>ag hm)
  have aj:w1.heap.size∉S47:=fun hm=>(a1.new _ hm).elim (fun hm=>ag hm) (fun h9=>by omega)
  have b5:=hOl.keep (Bc AR) a1.chg (fun b hb hm=>hdl b hm hb)
  have dk:∀b∈Fo,b∉S47:=fun b hb hm=>(a1.new b hm).elim (hdl b hb) (fun h9=>by have:=hOl.high b hb;omega)
  have c5:=hGl.trans a1
  have e1:=bz.bnd
  have e2:=bz.num
  have hKr:=c4
  have hKb:=c3
  have hKl:=c2
  rw[hxe,hkl]at hKr
  replace hKr:=AH.go0 hKr
  have c6:=c0.rn
  refine AY Z Aa (Ak (p:=(.pointer (some ⟨w7.heap.size,0,none⟩))) (b:=w7.heap.size) (o:=0) 1 FL Z Z Aa (Ak (p:=(Ap (.pointer (some ⟨w7.heap.size,0,none⟩)) 1)) (b:=w7.heap.size) (o:=1) 3 Lm Z Z Aa (Be (k:=4) (w:=w47) QR Z Z (Bp c6.slL) de sM Aa fun w56 a7 el ad=>?_)))
  replace ad:BX w56.heap w7.heap.size [vp,(.int .i64 ((p.getD f.toNat Fn.zero).params)),vc47,vg47,v47,vv47,(.int .i64 ((s47:Nat):Int)),(.int .i64 c47)]:=ad
  have c7:Au S w w56:=dg.trans (a7.sub (AX hgS))
  have ao:=Ct.chg df a7
  have c8:=c5.set hgS a7
  have e3:w47.heap.size≤w56.heap.size:=a7.size
  have c9:=dh.chg a7 (fun hm=>by have:=A9 hm;omega)
  have ca:=dj.chg a7 (fun hm=>by have:=A9 hm;omega)
  have ah:=b5.keep (Bc AR) a7 (fun b hb hm=>by have:=A9 hb;have:=b5.low _ hm;have:=b5.high _ hm;omega)
  have hF63l:=c0.upd g1 a7 (fun b hb=>by rw[A9 hb];exact .inl (c5.sub _ hgS))
  have dl:=hF63l.rn
  refine Aj (A0 (A0 (Ab _ [0,0,0,2,0] Z (Ad 1 Z (AY Z Aa (Ak (p:=(.pointer (some ⟨w7.heap.size,0,none⟩))) (b:=w7.heap.size) (o:=0) 7 ES Z Z Aa (Ai (p:=(Ap (.pointer (some ⟨w7.heap.size,0,none⟩)) 7)) (.inr Z) (.int .i64 c47) AD Z (ad.ldp (i:=7) sM) Aa ?_)))))))
  by_cases cb:c47≠((0:Nat):Int)
  ·refine AT true Z Z (A5 cb) Aa (Aj (Ag Z (A0 ?_)))
   letI:JR:=QW [w1.heap.size]
   refine Jx.AO _ [0,0,0,0,1,3,0] mixed (by kernel_rfl) (Jx.j1 ?_)
   have cc:∀(wq:World),(Instr.build 55 #[]).run Tryz.prog wq=.ok (.agg #[(.int .i64 0),(.slice none 0 0),(.slice none 0 0),(.slice none 0 0)]) wq:=by intro wq;kernel_rfl
   refine C3 (ps:=#[]) (.agg #[(.int .i64 0),(.slice none 0 0),(.slice none 0 0),(.slice none 0 0)]) (by simp only[List.map_toArray,List.map_cons,List.map_nil]) (fun wq=>cc  wq) Aa (Aj (Jx.VU (.pointer (some ⟨w7.heap.size,0,none⟩)) Z Aa (Jx.j1 (AY Z Aa (Aj (Jx.Ak (p:=(.pointer (some ⟨w7.heap.size,0,none⟩))) (b:=w7.heap.size) (o:=0) 7 ES Z Z Aa (Jx.ZQ (p:=(Ap (.pointer (some ⟨w7.heap.size,0,none⟩)) 7)) (.int .i64 c47) AD Z (fun wj hj=>(BX.chg (w:=w56.drew) (F:=[w1.heap.size]) ad hj (fun hm=>by have:=A9 hm;omega)).ldp (i:=7) sM) Aa (Jx.cC ?_))))))))
   refine Bz (vs:=[(.int .i64 (0:Int)),(.slice none 0 0),(.slice none 0 0),(.slice none 0 0)]) Fj Z Z (by intro u hu;simp only[List.mem_cons,List.not_mem_nil,or_false]at hu;rcases hu with rfl|rfl|rfl|rfl <;> first|exact⟨rfl,rfl⟩) ca Z Z Aa fun w66 a2 em b6=>?_
   replace a2:=a2.of_drew
   replace b6:BX w66.heap w1.heap.size [(.int .i64 (0:Int)),(.slice none 0 0),(.slice none 0 0),(.slice none 0 0)]:=b6
   have en:Au S w w66:=c7.fresh a2 (fun c hc=>by have:=A9 hc;omega)
   have eo:=Ct.chgO ao a2 (fun b hb hm=>by rw[A9 hb]at hm;exact aj hm)
   have dm:=c8.fresh a2 (fun c hc=>by have:=A9 hc;omega)
   have e5:w56.heap.size≤w66.heap.size:=a2.size
   have ep:=c9.chg a2 (fun hm=>by have:=A9 hm;omega)
   have eq:=ad.chg a2 (fun hm=>by have:=A9 hm;omega)
   have er:=ah.keep (Bc AR) a2 (fun b hb hm=>by have:=A9 hb;have:=ah.low _ hm;have:=ah.high _ hm;omega)
   have hF73l:=hF63l.upd g1 a2 (fun b hb=>by rw[A9 hb];(right;omega))
   have es:=hF73l.rn
   refine Aj ⟨Au.drewL a2,?_⟩
   exact Jx.R7 (.int .i64 c47) Z Aa (Jx.Aj (A1 (Al (JD (t0:=7) (ts:=[]) (cs:=[(.int .i64 (0:Int)),(.slice none 0 0),(.slice none 0 0),(.slice none 0 0)]) [(.int .i64 c47)] Z Fj Z b6 Z Z ⟨_,_,_,_,_,_,_,_,rfl,(Au.toExt dm.chg hSn),hKr,oM,(by intro u hu;simp only[List.mem_cons,List.not_mem_nil,or_false]at hu;rcases hu with rfl|rfl|rfl <;> exact⟨rfl,rfl⟩),(by show Bx _;unfold Bx;omega),(fun h9=>absurd h9 oM)⟩))))
  ·refine AT false Z Z (A6 cb) Aa (Aj (Ah Z (A2 (A0 (Ab _ [0,0,0,2,4,0] Z (Ad 1 Z (AY Z Aa (Ak (p:=(.pointer (some ⟨w7.heap.size,0,none⟩))) (b:=w7.heap.size) (o:=0) 1 FL Z Z Aa (AK (p:=(Ap (.pointer (some ⟨w7.heap.size,0,none⟩)) 1)) (.inr Z) [(.int .i64 ((p.getD f.toNat Fn.zero).params)),vc47,vg47,v47] Fj Z (fun wq9 ba=>LD.part (BX.ext (w:=w56) ad ba) (by show(5:Nat)≤8;decide) (by intro i hi;match i,hi with|0,_=>rfl|1,_=>rfl|2,_=>rfl|3,_=>rfl)) Z Aa ?_)))))))))
   refine Bz (vs:=[(.int .i64 ((p.getD f.toNat Fn.zero).params)),vc47,vg47,v47]) Fj Z Z (by intro u hu;simp only[List.mem_cons,List.not_mem_nil,or_false]at hu;rcases hu with rfl|rfl|rfl|rfl <;> first|exact⟨rfl,rfl⟩|exact Bp (Ct.slc ao)|exact Bp (Ct.slg ao)|exact Bp dl.slL) ca Z Z Aa fun w74 a8 et b7=>?_
   replace b7:BX w74.heap w1.heap.size [(.int .i64 ((p.getD f.toNat Fn.zero).params)),vc47,vg47,v47]:=b7
   have eu:Au S w w74:=c7.fresh a8 (fun c hc=>by have:=A9 hc;omega)
   have ap:=Ct.chgO ao a8 (fun b hb hm=>by rw[A9 hb]at hm;exact aj hm)
   have cd:=c8.fresh a8 (fun c hc=>by have:=A9 hc;omega)
   have e6:w56.heap.size≤w74.heap.size:=a8.size
   have ev:=c9.chg a8 (fun hm=>by have:=A9 hm;omega)
   have ew:=ad.chg a8 (fun hm=>by have:=A9 hm;omega)
   have ex:=ah.keep (Bc AR) a8 (fun b hb hm=>by have:=A9 hb;have:=ah.low _ hm;have:=ah.high _ hm;omega)
   have hF81l:=hF63l.upd g1 a8 (fun b hb=>by rw[A9 hb];(right;omega))
   have dn:=hF81l.rn
   refine Ac 1 Z (A1 ?_)
   have ce:∀b∈S47,w.heap.size≤b:=fun b hb=>(cd.new b hb).elim (hSn b) id
   exact JD (t0:=7) (ts:=[]) (cs:=[(.int .i64 ((p.getD f.toNat Fn.zero).params)),vc47,vg47,v47]) [(.int .i64 ((0:Nat):Int))] Z Fj Z b7 Z Z ⟨_,_,_,_,_,_,_,_,rfl,(Au.toExt cd.chg hSn),(by have h9:=hKr;rwa [show c47=((0:Nat):Int)from by omega]at h9),oM,(by intro u hu;simp only[List.mem_cons,List.not_mem_nil,or_false]at hu;rcases hu with rfl|rfl|rfl;exact Bp (Ct.slc ap);exact Bp (Ct.slg ap);exact RN.one1 g1 dn),(by show Bx _;unfold Bx;omega),(fun _=>⟨rfl,by assumption,by omega,hKl,hKb oM,(Ct.readsG ap ce).1,(Ct.readsG ap ce).2,QK.rg hF81l oM⟩)⟩
end
end Go.Proofs.YtbajepcpgncekaaGreat
