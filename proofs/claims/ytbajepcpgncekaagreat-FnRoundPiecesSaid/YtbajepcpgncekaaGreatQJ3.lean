/- Sv, Sf, Sw, Sk, Ve, Vf, Va, Vb, Vg, Vh, Vm, Vi, Vj, Vk: texts of this claim, joined; what the claim does not come to is left out. -/
import Derived.Test.YtbajepcpgncekaaGreatQJ2
import Derived.Test.YtbajepcpgncekaaGreatProg
set_option linter.unusedVariables false
set_option linter.unusedSimpArgs false
namespace Go.Proofs.YtbajepcpgncekaaGreat
open Go Go.RowKit
section
set_option maxHeartbeats 4000000
set_option maxRecDepth 100000
attribute [local irreducible] LW
theorem N9 {p:Prop}(h:p:=by first|omega|exact Pm _):p:=h
theorem Cv {p:Prop}(h:p:=by kernel_rfl):p:=h
theorem Fp (w:World)(g:Nat)(sv:Value)(cs:List UInt8)(n0:Nat)(hs:EB w.heap g sv cs n0)(al:n0+1≤1000000000000)  :
  Calls Tryz.prog 151 #[zP g] w (fun e w'=>∃(x0:Int) (n1:Nat),e=.returned (zI x0)∧Au [g] w w'∧EB w'.heap g sv cs n1∧(n0≤n1∧n1≤n0+1)∧(0≤x0∧x0≤255)):=by
 refine Aq [zP g] 62 Tryz.func151 Z Z sM ?_
 have a2:Au [g] w w:=Au.refl [g] w
 have aq:=hs.lt
 obtain⟨sd,hbx,hrs⟩:=hs.parts
 have hl_sv:=(hrs _<|Au.refl [g] w).lenle
 refine cA Z<|cA Z<|A0<|A0<|AO _ [0,0,0,1,0,0,0,1,0,0] mixed Cv<|Ad 1 Z<|AY Z Aa<|E6 1 Cv Z Aa<|Ai (p:=.pointer<|some ⟨g,1,none⟩) (.inl Z) (zI (n0:Int)) Lk Z (hbx.ld (k:=1) sM) Aa<|Ad 1 Z<|AY Z Aa<|E6 0 Cv Z Aa<|Ai (p:=zP g) (.inl Z) sv Qr Z (hbx.ld (k:=0) sM) Aa<|AQ (v:=sv) QT Z (hrs _ a2.drew).isSl Aa ?_
 by_cases aa:(n0:Int)<(cs.length:Int)
 ·refine AG true Z Z (A5 aa) Aa<|Aj<|Ag Z<|AO _ [0,0,0,1,0,0,0,1,0,1,0,0] mixed Cv<|Ad 1 Z<|AY Z Aa<|E6 0 Cv Z Aa<|Ai (p:=zP g) (.inl Z) sv Qr Z (hbx.ld (k:=0) sM) Aa<|Ad 1 Z<|AY Z Aa<|E6 1 Cv Z Aa<|Ai (p:=.pointer<|some ⟨g,1,none⟩) (.inl Z) (zI (n0:Int)) Lk Z (hbx.ld (k:=1) sM) Aa ?_
  refine AB (v:=sv) n0 QT bK Z Z (hrs _ a2.drew.drew).isSl Z sD Aa ?_
  refine Ai (p:=Ay sv n0 1) (.inl Z) (.int .u8 ((cs.getD n0 0).toNat:Int)) bI Z ((hrs _ a2.drew.drew).getU sD).1 Aa (Jw ((cs.getD n0 0).toNat:Int) u5 u3 Z (w8 _) Aa<|Ac 1 Z<|bZ [0,0,0,2,0,0,0,4] Z<|Ad 1 Z<|AY Z Aa<|E6 1 Cv Z Aa<|Ai (p:=.pointer<|some ⟨g,1,none⟩) (.inr Z) (zI (n0:Int)) Lk Z (hbx.ld (k:=1) sM) Aa ?_)
  refine AP ((n0+1:Nat):Int) Z Z (Bl oM sD) Aa<|AY Z Aa<|E6 1 Cv Z Aa (Be (w:=w.drew.drew) cG Z Z ⟨rfl,rfl⟩ hbx sM Aa fun w2 a3 am ad=>?_)
  replace a3:=a3.of_drew
  replace a3:=a3.of_drew
  have ae:Au [g] w w2:=a2.trans a3
  have a4:BX w2.heap g [sv,zI ((n0+1:Nat):Int),.int .u64 sd]:=ad
  refine Aj<|bZ [0,0,0,0,2,0,0,0,0,0,0,0,4] Z<|Ad 2 Z<|AY Z Aa<|E6 2 Cv Z Aa<|Ai (p:=.pointer<|some ⟨g,2,none⟩) (.inr Z) (.int .u64 sd) MZ Z (a4.ld (k:=2) sM) Aa<|FC (IntKind.u64.wrap (sd*6364136223846793005)) Z Z Z Aa<|Ad 1 Z<|Jw (IntKind.u64.wrap ((cs.getD n0 0).toNat:Int)) u3 Uy Z Z Aa<|AP (IntKind.u64.wrap ((IntKind.u64.wrap (sd*6364136223846793005))+(IntKind.u64.wrap ((cs.getD n0 0).toNat:Int)))) Z Z Z Aa<|AP (IntKind.u64.wrap ((IntKind.u64.wrap ((IntKind.u64.wrap (sd*6364136223846793005))+(IntKind.u64.wrap ((cs.getD n0 0).toNat:Int))))+1442695040888963407)) Z Z Z Aa<|AY Z Aa ?_
  refine E6 2 Cv Z Aa (Be (w:=w2) VJ Z Z ⟨rfl,rfl⟩ a4 sM Aa fun w3 af an ag=>?_)
  have a5:Au [g] w w3:=ae.trans af
  have a0:BX w3.heap g [sv,zI ((n0+1:Nat):Int),.int .u64 (IntKind.u64.wrap ((IntKind.u64.wrap ((IntKind.u64.wrap (sd*6364136223846793005))+(IntKind.u64.wrap ((cs.getD n0 0).toNat:Int))))+1442695040888963407))]:=ag
  refine Aj<|A0<|A0<|AO _ [0,0,0,1,0,0,0,1,0,0] mixed Cv<|Ad 1 Z<|AY Z Aa<|E6 1 Cv Z Aa<|Ai (p:=.pointer<|some ⟨g,1,none⟩) (.inl Z) (zI ((n0+1:Nat):Int)) Lk Z (a0.ld (k:=1) sM) Aa<|Ad 1 Z<|AY Z Aa<|E6 0 Cv Z Aa<|Ai (p:=zP g) (.inl Z) sv Qr Z (a0.ld (k:=0) sM) Aa<|AQ (v:=sv) QT Z (hrs _ a5.drew).isSl Aa ?_
  by_cases ab:((n0+1:Nat):Int)≤(cs.length:Int)
  ·refine DQ true Z Z (A5 ab) Aa<|Aj<|Ag Z<|bZ [0,0] Z<|Ac 2 Z<|A1<|Al ?_
   have a8:=Pl<|cs.getD n0 0
   exact Af [2] Z (zI ((cs.getD n0 0).toNat:Int)) Z ⟨((cs.getD n0 0).toNat:Int),n0+1,rfl,a5.drew,hs.close a5.drew a0,⟨zO,zO⟩,N9⟩
  refine DQ false Z Z (A6 ab) Aa<|Aj<|Ah Z<|A2<|bZ [0,0,0,2,0,0,0,0] Z<|Ad 1 Z<|AY Z Aa<|E6 2 Cv Z Aa<|Ai (p:=.pointer<|some ⟨g,2,none⟩) (.inr Z) (.int .u64<|IntKind.u64.wrap ((IntKind.u64.wrap ((IntKind.u64.wrap (sd*6364136223846793005))+(IntKind.u64.wrap ((cs.getD n0 0).toNat:Int))))+1442695040888963407)) MZ Z (a0.ld (k:=2) sM) Aa<|UO ((IntKind.u64.wrap ((IntKind.u64.wrap ((IntKind.u64.wrap (sd*6364136223846793005))+(IntKind.u64.wrap ((cs.getD n0 0).toNat:Int))))+1442695040888963407)).fdiv (2 ^ (min (40:Int).toNat (IntKind.u64).bits))) Z Z oM Z Aa<|UQ Z Z Aa ?_
  refine Jw (Io .u64 ((IntKind.u64.wrap ((IntKind.u64.wrap ((IntKind.u64.wrap (sd*6364136223846793005))+(IntKind.u64.wrap ((cs.getD n0 0).toNat:Int))))+1442695040888963407)).fdiv (2 ^ (min (40:Int).toNat (IntKind.u64).bits))) 255) Uy u2 Z (Y4 _) Aa<|Ac 1 Z<|A1 ?_
  have a8:=Pl<|cs.getD n0 0
  exact Af [2] Z (zI<|Io .u64 ((IntKind.u64.wrap ((IntKind.u64.wrap ((IntKind.u64.wrap (sd*6364136223846793005))+(IntKind.u64.wrap ((cs.getD n0 0).toNat:Int))))+1442695040888963407)).fdiv (2 ^ (min (40:Int).toNat (IntKind.u64).bits))) 255) Z ⟨Io .u64 ((IntKind.u64.wrap ((IntKind.u64.wrap ((IntKind.u64.wrap (sd*6364136223846793005))+(IntKind.u64.wrap ((cs.getD n0 0).toNat:Int))))+1442695040888963407)).fdiv (2 ^ (min (40:Int).toNat (IntKind.u64).bits))) 255,n0+1,rfl,a5.drew,hs.close a5.drew a0,⟨zO,zO⟩,N9⟩
 refine AG false Z Z (A6 aa) Aa<|Aj<|Ah Z<|A2<|bZ [0,0,0,2,0,0,0,4] Z<|Ad 1 Z<|AY Z Aa<|E6 1 Cv Z Aa<|Ai (p:=.pointer<|some ⟨g,1,none⟩) (.inr Z) (zI (n0:Int)) Lk Z (hbx.ld (k:=1) sM) Aa<|AP ((n0+1:Nat):Int) Z Z (Bl oM sD) Aa<|AY Z Aa ?_
 refine E6 1 Cv Z Aa (Be (w:=w.drew) cG Z Z ⟨rfl,rfl⟩ hbx sM Aa fun w5 a9 ao ah=>?_)
 replace a9:=a9.of_drew
 have ai:Au [g] w w5:=a2.trans a9
 have a6:BX w5.heap g [sv,zI ((n0+1:Nat):Int),.int .u64 sd]:=ah
 refine Aj<|bZ [0,0,0,0,2,0,0,0,0,0,0,0,4] Z<|Ad 2 Z<|AY Z Aa<|E6 2 Cv Z Aa<|Ai (p:=.pointer<|some ⟨g,2,none⟩) (.inr Z) (.int .u64 sd) MZ Z (a6.ld (k:=2) sM) Aa<|FC (IntKind.u64.wrap (sd*6364136223846793005)) Z Z Z Aa<|Ad 1 Z<|Jw (IntKind.u64.wrap ((0:Nat):Int)) u3 Uy Z Z Aa<|AP (IntKind.u64.wrap ((IntKind.u64.wrap (sd*6364136223846793005))+(IntKind.u64.wrap ((0:Nat):Int)))) Z Z Z Aa<|AP (IntKind.u64.wrap ((IntKind.u64.wrap ((IntKind.u64.wrap (sd*6364136223846793005))+(IntKind.u64.wrap ((0:Nat):Int))))+1442695040888963407)) Z Z Z Aa<|AY Z Aa<|E6 2 Cv Z Aa ?_
 refine Be (w:=w5) VJ Z Z ⟨rfl,rfl⟩ a6 sM Aa fun w6 aj ap ak=>?_
 have a7:Au [g] w w6:=ai.trans aj
 have a1:BX w6.heap g [sv,zI ((n0+1:Nat):Int),.int .u64 (IntKind.u64.wrap ((IntKind.u64.wrap ((IntKind.u64.wrap (sd*6364136223846793005))+(IntKind.u64.wrap ((0:Nat):Int))))+1442695040888963407))]:=ak
 refine Aj<|A0<|A0<|AO _ [0,0,0,1,0,0,0,1,0,0] mixed Cv<|Ad 1 Z<|AY Z Aa<|E6 1 Cv Z Aa<|Ai (p:=.pointer<|some ⟨g,1,none⟩) (.inl Z) (zI ((n0+1:Nat):Int)) Lk Z (a1.ld (k:=1) sM) Aa<|Ad 1 Z<|AY Z Aa<|E6 0 Cv Z Aa<|Ai (p:=zP g) (.inl Z) sv Qr Z (a1.ld (k:=0) sM) Aa<|AQ (v:=sv) QT Z (hrs _ a7.drew).isSl Aa ?_
 by_cases ac:((n0+1:Nat):Int)≤(cs.length:Int)
 ·refine DQ true Z Z (A5 ac) Aa<|Aj<|Ag Z<|bZ [0,0] Z<|Ac 2 Z<|A1<|Al ?_
  have a8:=Pl<|cs.getD n0 0
  exact Af [2] Z (zI ((0:Nat):Int)) Z ⟨((0:Nat):Int),n0+1,rfl,a7.drew,hs.close a7.drew a1,⟨zO,zO⟩,N9⟩
 refine DQ false Z Z (A6 ac) Aa<|Aj<|Ah Z<|A2<|bZ [0,0,0,2,0,0,0,0] Z<|Ad 1 Z<|AY Z Aa<|E6 2 Cv Z Aa<|Ai (p:=.pointer<|some ⟨g,2,none⟩) (.inr Z) (.int .u64<|IntKind.u64.wrap ((IntKind.u64.wrap ((IntKind.u64.wrap (sd*6364136223846793005))+(IntKind.u64.wrap ((0:Nat):Int))))+1442695040888963407)) MZ Z (a1.ld (k:=2) sM) Aa<|UO ((IntKind.u64.wrap ((IntKind.u64.wrap ((IntKind.u64.wrap (sd*6364136223846793005))+(IntKind.u64.wrap ((0:Nat):Int))))+1442695040888963407)).fdiv (2 ^ (min (40:Int).toNat (IntKind.u64).bits))) Z Z oM Z Aa<|UQ Z Z Aa ?_
 refine Jw (Io .u64 ((IntKind.u64.wrap ((IntKind.u64.wrap ((IntKind.u64.wrap (sd*6364136223846793005))+(IntKind.u64.wrap ((0:Nat):Int))))+1442695040888963407)).fdiv (2 ^ (min (40:Int).toNat (IntKind.u64).bits))) 255) Uy u2 Z (Y4 _) Aa<|Ac 1 Z<|A1 ?_
 have a8:=Pl<|cs.getD n0 0
 exact Af [2] Z (zI<|Io .u64 ((IntKind.u64.wrap ((IntKind.u64.wrap ((IntKind.u64.wrap (sd*6364136223846793005))+(IntKind.u64.wrap ((0:Nat):Int))))+1442695040888963407)).fdiv (2 ^ (min (40:Int).toNat (IntKind.u64).bits))) 255) Z ⟨Io .u64 ((IntKind.u64.wrap ((IntKind.u64.wrap ((IntKind.u64.wrap (sd*6364136223846793005))+(IntKind.u64.wrap ((0:Nat):Int))))+1442695040888963407)).fdiv (2 ^ (min (40:Int).toNat (IntKind.u64).bits))) 255,n0+1,rfl,a7.drew,hs.close a7.drew a1,⟨zO,zO⟩,N9⟩
theorem Te {p:Prop}(h:p:=by first|omega|exact⟨Int.emod_nonneg _ oM,Int.le_of_lt (Int.lt_of_lt_of_le (Int.emod_lt_of_pos _ oM) oM),fun _=>Int.emod_lt_of_pos _ oM⟩):p:=h
theorem AV (w:World)(g:Nat)(sv:Value)(cs:List UInt8)(n0:Nat)(k:Int)(hs:EB w.heap g sv cs n0)(ad:n0+2≤1000000000000)(_hk:Bx k)(hk:k≤1000000) :
  Calls Tryz.prog 68 #[zP g,zI k] w (fun e w'=>∃(x0:Int) (n1:Nat),e=.returned (zI x0)∧Au [g] w w'∧EB w'.heap g sv cs n1∧(n0≤n1∧n1≤n0+2)∧(0≤x0∧x0≤1000000∧(1≤k→x0<k))):=by
 refine Aq [zP g,zI k] 20 Tryz.func68 Z Z sM ?_
 have a0:Au [g] w w:=Au.refl [g] w
 have ai:=hs.lt
 refine cA Z<|A0<|bZ [0,0] Z<|Ad 1 Z ?_
 by_cases a1:k≤((1:Nat):Int)
 ·exact DQ true Z Z (A5 a1) Aa<|Aj<|Ag Z<|cA Z<|A1<|Al<|Af [4] Z (zI ((0:Nat):Int)) Z ⟨((0:Nat):Int),n0,rfl,a0,hs,⟨zO,zO⟩,Te⟩
 refine DQ false Z Z (A6 a1) Aa<|Aj<|Ah Z<|A2<|bZ [0,4,0] Z<|Ad 1 Z<|AA 151 [] [] [zP g] Z Z Vt Aa (Fp _ g _ _ _ hs oM) ?_
 rintro e2 w2 ⟨ag,n2,rfl,a2,a3,ae,a4⟩
 refine⟨_,rfl,?_⟩
 have a9:=a2.size
 have a5:Au [g] w w2:=a0.trans a2
 refine Ac 1 Z<|A0<|bZ [0,0] Z<|Ad 1 Z ?_
 by_cases a6:((200:Nat):Int)<k
 ·refine BU true Z Z (A5 a6) Aa<|Aj<|Ag Z<|Ab _ [0,0,0,4,0,0] Z<|Ad 1 Z ?_
  refine FC (ag*((256:Nat):Int)) Z Z (Da sD sD) Aa<|Ad 1 Z ?_
  refine AA 151 [] [] [zP g] Z Z Vt Aa (Fp _ g _ _ _ a3 oM) ?_
  rintro e4 w4 ⟨ah,n4,rfl,a7,aa,af,a8⟩
  refine⟨_,rfl,?_⟩
  have ab:=a7.size
  have ac:Au [g] w w4:=a5.trans a7
  refine AP ((ag*((256:Nat):Int))+ah) Z Z (Da sD sD) Aa<|Ac 1 Z<|bZ [0,0,0,0] Z ?_
  exact Ad 2 Z<|DP (((ag*((256:Nat):Int))+ah) % k) Z Z oM (Int.tmod_eq_emod_of_nonneg oM) Aa<|Ac 1 Z<|A1<|Af [4] Z (zI (((ag*((256:Nat):Int))+ah) % k)) Z ⟨((ag*((256:Nat):Int))+ah) % k,n4,rfl,ac,aa,⟨zO,zO⟩,Te⟩
 exact BU false Z Z (A6 a6) Aa<|Aj<|Ah Z<|A2<|bZ [0,0,0,0] Z<|Ad 2 Z<|DP ((ag) % k) Z Z oM (Int.tmod_eq_emod_of_nonneg oM) Aa<|Ac 1 Z<|A1<|Af [4] Z (zI ((ag) % k)) Z ⟨(ag) % k,n2,rfl,a5,a3,⟨zO,zO⟩,Te⟩
theorem C8 (w:World)(g:Nat)(sv:Value)(cs:List UInt8)(n0:Nat)(k:Int)(hs:EB w.heap g sv cs n0)(a6:n0+2≤1000000000000)(_hk:Bx k)(hk:k≤1000000) :
  Calls Tryz.prog 122 #[zP g,zI k] w (fun e w'=>∃(x0:Bool) (n1:Nat),e=.returned (.bool x0)∧Au [g] w w'∧EB w'.heap g sv cs n1∧(n0≤n1∧n1≤n0+2)∧True):=by
 refine Aq [zP g,zI k] 9 Tryz.func122 Z Z sM ?_
 have a2:Au [g] w w:=Au.refl [g] w
 have a9:=hs.lt
 refine cA Z<|bZ [0,0,4,0,0] Z<|Ad 2 Z<|AA 68 [] [] [zP g,zI k] Z Z H8 Aa (AV _ g _ _ _ _ hs oM _hk sD) ?_
 rintro e1 w1 ⟨a8,n1,rfl,a0,a3,a7,a1⟩
 refine⟨_,rfl,?_⟩
 have a4:=a0.size
 have a5:Au [g] w w1:=a2.trans a0
 exact Am (decide (a8=((0:Nat):Int))) Z Z Z Aa<|Ac 1 Z<|A1<|Af [4] Z (.bool<|decide (a8=((0:Nat):Int))) Z ⟨decide (a8=((0:Nat):Int)),n1,rfl,a5,a3,⟨zO,zO⟩,(by trivial)⟩
theorem G0 (w:World)(g:Nat)(sv:Value)(cs:List UInt8)(n0:Nat)(hs:EB w.heap g sv cs n0)(az:n0+8≤1000000000000)  :
  Calls Tryz.prog 152 #[zP g] w (fun e w'=>∃(x0:Int) (n1:Nat),e=.returned (zI x0)∧Au [g] w w'∧EB w'.heap g sv cs n1∧(n0≤n1∧n1≤n0+8)∧(0≤x0∧x0<1000003)):=by
 refine Aq [zP g] 25 Tryz.func152 Z Z sM ?_
 have ag:Au [g] w w:=Au.refl [g] w
 have bc:=hs.lt
 refine cA Z<|A0<|bZ [0,4] Z<|Ad 1 Z<|AA 68 [] [] [zP g,zI ((6:Nat):Int)] Z Z H8 Aa (AV _ g _ _ _ _ hs oM oM sD) ?_
 rintro e1 w1 ⟨ba,n1,rfl,a2,a0,b0,a3⟩
 refine⟨_,rfl,?_⟩
 have ah:=a2.size
 have a1:Au [g] w w1:=ag.trans a2
 refine Aj<|A3<|bZ [0,0] Z ?_
 by_cases a4:ba=((0:Nat):Int)
 ·refine Am true Z Z (A5 a4) Aa<|Ac 1 Z<|Ag Z<|bZ [0,4,0,0] Z<|Ad 1 Z<|AA 68 [] [] [zP g,zI ((3:Nat):Int)] Z Z H8 Aa (AV _ g _ _ _ _ a0 oM oM sD) ?_
  rintro e3 w3 ⟨b9,n3,rfl,a5,ai,b1,a6⟩
  refine⟨_,rfl,?_⟩
  have aj:=a5.size
  have ak:Au [g] w w3:=a1.trans a5
  refine Bs (((1000002:Nat):Int)-b9) Z Z (Da sD sD) Aa<|Ac 1 Z<|A1<|AC<|Al ?_
  exact Af [2] Z (zI (((1000002:Nat):Int)-b9)) Z ⟨((1000002:Nat):Int)-b9,n3,rfl,ak,ai,⟨zO,zO⟩,(by first|omega|exact C1 _)⟩
 refine Am false Z Z (A6 a4) Aa<|Ac 1 Z<|Ah Z<|bZ [0,0] Z ?_
 by_cases a7:ba=((1:Nat):Int)
 ·refine Am true Z Z (A5 a7) Aa<|Ac 1 Z<|Ag Z<|bZ [0,4,0,0,4,0,0,0,4,0,0,0] Z<|Ad 1 Z<|AA 68 [] [] [zP g,zI ((256:Nat):Int)] Z Z H8 Aa (AV _ g _ _ _ _ a0 oM oM sD) ?_
  rintro e5 w5 ⟨b6,n5,rfl,a8,al,b2,a9⟩
  refine⟨_,rfl,?_⟩
  have am:=a8.size
  have an:Au [g] w w5:=a1.trans a8
  refine FC (b6*((65536:Nat):Int)) Z Z (Da sD sD) Aa<|Ad 1 Z ?_
  refine AA 68 [] [] [zP g,zI ((256:Nat):Int)] Z Z H8 Aa (AV _ g _ _ _ _ al oM oM sD) ?_
  rintro e6 w6 ⟨b7,n6,rfl,aa,ao,b3,ab⟩
  refine⟨_,rfl,?_⟩
  have ap:=aa.size
  have aq:Au [g] w w6:=an.trans aa
  refine FC (b7*((256:Nat):Int)) Z Z (Da sD sD) Aa ?_
  refine AP ((b6*((65536:Nat):Int))+(b7*((256:Nat):Int))) Z Z (Da sD sD) Aa<|Ad 1 Z ?_
  refine AA 68 [] [] [zP g,zI ((256:Nat):Int)] Z Z H8 Aa (AV _ g _ _ _ _ ao oM oM sD) ?_
  rintro e7 w7 ⟨b8,n7,rfl,ac,ar,b4,ad⟩
  refine⟨_,rfl,?_⟩
  have au:=ac.size
  have av:Au [g] w w7:=aq.trans ac
  refine AP (((b6*((65536:Nat):Int))+(b7*((256:Nat):Int)))+b8) Z Z (Da sD sD) Aa ?_
  exact DP (md (((b6*((65536:Nat):Int))+(b7*((256:Nat):Int)))+b8)) Z Z (by decide) (Int.tmod_eq_emod_of_nonneg oM) Aa<|Ac 1 Z<|A1<|AC<|Al<|Af [2] Z (zI<|md (((b6*((65536:Nat):Int))+(b7*((256:Nat):Int)))+b8)) Z ⟨md (((b6*((65536:Nat):Int))+(b7*((256:Nat):Int)))+b8),n7,rfl,av,ar,⟨zO,zO⟩,(by first|omega|exact C1 _)⟩
 refine Am false Z Z (A6 a7) Aa<|Ac 1 Z<|Ah Z<|A2<|bZ [0,4,0] Z<|Ad 1 Z<|AA 68 [] [] [zP g,zI ((7:Nat):Int)] Z Z H8 Aa (AV _ g _ _ _ _ a0 oM oM sD) ?_
 rintro e8 w8 ⟨bb,n8,rfl,ae,aw,b5,af⟩
 refine⟨_,rfl,?_⟩
 have ax:=ae.size
 have ay:Au [g] w w8:=a1.trans ae
 exact Ac 1 Z<|A1<|Af [2] Z (zI bb) Z ⟨bb,n8,rfl,ay,aw,⟨zO,zO⟩,(by first|omega|exact C1 _)⟩
theorem Fq (w:World)(g:Nat)(sv:Value)(cs:List UInt8)(n0:Nat)(k:Int)(hs:EB w.heap g sv cs n0)(ax:n0+(8*k.toNat)≤1000000000000)(_hk:Bx k)(hk:k≤1000) :
  Calls Tryz.prog 69 #[zP g,zI k] w (fun e w'=>∃(v0:Value) (x0:Sr) (n1:Nat),e=.returned (v0)∧Au [g] w w'∧EB w'.heap g sv cs n1∧(n0≤n1∧n1≤n0+(8*k.toNat))∧Fr (Bh rI 2) w.heap.size w'.heap.size w'.heap v0 x0∧(x0.length=k.toNat∧B2 x0=true)):=by
 refine Aq [zP g,zI k] 19 Tryz.func69 Z Z sM ?_
 have ac:Au [g] w w:=Au.refl [g] w
 have b2:=hs.lt
 refine cA Z<|bZ [3,0] Z (CQ (rI) AR Bt BT Aa fun v1 w1 a4 ak ad=>?_)
 have a7:=a4.size
 have ae:Au [g] w w1:=ac.ext a4
 have a8:=hs.ext a4
 refine Ac 1 Z<|A0<|cA Z<|A3 ?_
 refine B1 (S:=Nat×Value×Sr×Nat) (fun⟨j,vo,xs,m⟩=>([(5,vo),(6,zI (j:Int)),(0,zP g),(1,zI k)])) (fun⟨j,vo,xs,m⟩ W=>Au [g] w W∧Fr (Bh rI 2) w.heap.size W.heap.size W.heap vo xs∧EB W.heap g sv cs m∧j≤k.toNat∧(n0≤m∧m≤n0+8*j)∧(xs.length=j∧B2 xs=true)) (fun⟨j,vo,xs,m⟩=>k.toNat-j) (0,v1,[],n0) ⟨rfl,rfl,rfl,rfl,trivial⟩ ⟨ae,ad.up o1,a8,sD,oM,(by exact⟨rfl,rfl⟩)⟩ ?_
 clear ac ad ak a4 a7 ae
 rintro⟨j,vo,xs,m⟩ ρ2 w2 ⟨a9,a0,a1,af,hm,hxs⟩
 have al:w.heap.size≤w2.heap.size:=a9.size
 refine A0<|bZ [0,0,0] Z<|Ad 2 Z ?_
 by_cases ag:(j:Int)<k
 ·refine AG true Z Z (A5 ag) Aa<|Aj<|Ag Z<|A2<|A0<|A3<|Ab _ [0,0,4,3,4,0] Z<|Ad 2 Z<|AA 152 [] [] [zP g] Z Z SX Aa (G0 _ g _ _ _ a1 oM) ?_
  rintro e4 w4 ⟨b1,n4,rfl,aa,am,ay,ah⟩
  refine⟨_,rfl,?_⟩
  have an:=aa.size
  have ao:Au [g] w w4:=a9.trans aa
  have ap:=a0.chg (o1) aa fun b hb=>by have:b=g:=(by simpa using hb);omega
  refine BI (u:=zI b1) (B:=w4.heap.size) AR Bt BT Z Z (Ov w4.heap.size w4.heap.size _ _ oM) (A7 _) Aa fun v6 w6 a5 az ai=>?_
  have aq:=a5.size
  have aj:Au [g] w w6:=ao.ext a5
  have a2:=ap.ext (o1) a5
  have a3:=am.ext a5
  refine FO (v:=vo) (a:=v6) Bt BT Z Z Z a2 aj.size ai.rd1 sD (by unfold maxLen;first|omega|assumption|(simp;done)|(simp;omega)) Aa fun v7 w7 F7 a6 ab ar=>?_
  have au:Au [g] w w7:=aj.fresh a6 (fun c hc=>A8 (A7 _) (ab c hc).1)
  have av:=a6.size
  have aw:=a3.chg a6 fun c hc=>zH<|ab c hc
  have b0:=ai.chg (o1) a6 fun c hc=>zH<|ab c hc
  refine Ac 1 Z<|Ab _ [0,0,0] Z<|Ad 1 Z<|AP ((j+1:Nat):Int) Z Z (Bl oM oM) Aa<|Ac 1 Z ?_
  exact⟨(j+1,v7,xs++[b1],n4),_,rfl,zR,⟨au,ar.up o1,aw,sD,oM,(by exact⟨by rw[z4,hxs.1];rfl,by unfold B2 at *;rw[List.all_append,hxs.2];simp only[List.all_cons,List.all_nil,Bool.and_true,Bool.true_and];exact Cm.2 oM⟩)⟩,zD⟩
 exact AG false Z Z (A6 ag) Aa<|Aj<|Ah Z<|A4<|Ax<|Ax<|At<|bZ [0,0] Z<|Ac 2 Z<|A1<|Af [4] Z vo Z ⟨vo,xs,m,rfl,a9,a1,⟨zO,zO⟩,a0.up o1,(by exact⟨zO,hxs.2⟩)⟩
theorem H0 (w:World)(va:Value)(a:Sr)(y:Int)(ha:Rd (B3 rI) w.heap va a)(_hy:Bx y)(hla:a.length≤1000000000000) :
  Calls Tryz.prog 165 #[va,zI y] w (fun e w'=>∃v0:Value,e=.returned (v0)∧AF w w'∧Fr (Bh rI 2) w.heap.size w'.heap.size w'.heap v0 (scl a y)):=by
 refine Aq [va,zI y] 24 Tryz.func165 Z Z sM ?_
 have a8:AF w w:=AF.refl w
 have an:=ha.lenle
 refine cA Z<|bZ [3,0] Z (CQ (rI) AR Bt BT Aa fun v1 w1 a3 af a9=>?_)
 have a4:=a3.size
 have aa:=a8.trans a3
 refine Ac 1 Z<|A0<|cA Z<|A3 ?_
 refine B1 (S:=Nat×Value) (fun⟨k,vo⟩=>([(5,vo),(6,zI (k:Int)),(0,va),(1,zI y)])) (fun⟨k,vo⟩ W=>AF w W∧Fr (Bh rI 2) w.heap.size W.heap.size W.heap vo ((a.take k).map fun x=>md (x*y))∧k≤a.length) (fun⟨k,vo⟩=>a.length-k) (0,v1) ⟨rfl,rfl,rfl,rfl,trivial⟩ ⟨aa,a9.up o1,sD⟩ ?_
 clear a8 a9 af a3 a4 aa
 rintro⟨k,vo⟩ ρ2 w2 ⟨a2,a1,ab⟩
 have ag:w.heap.size≤w2.heap.size:=a2.size
 refine A0<|bZ [0,0,0,0] Z<|Ad 2 Z<|AQ (v:=va) Bt Z ha.isSl Aa ?_
 by_cases ac:(k:Int)<(a.length:Int)
 ·refine AG true Z Z (A5 ac) Aa<|Aj<|Ag Z<|A2<|A0<|A3<|Ab _ [0,0,0,0,2,0,0,3,4,0] Z<|Ad 3 Z<|AB (v:=va) k Bt BT Z Z ha.isSl Z sD Aa ?_
  refine Ai (p:=Ay va k 1) (.inr Z) (zI<|a.getD k 0) AD Z (AZ a2 (ha.getI sD).1) Aa<|Ad 1 Z ?_
  refine Az 112 [] [] [zI<|a.getD k 0,zI y] Z Z Lh Aa (zI<|md ((a.getD k 0)*y)) (fun wq=>CW wq _ _ (ha.getI sD).2 _hy) (BI (u:=zI<|md ((a.getD k 0)*y)) (B:=w2.heap.size) AR Bt BT Z Z (Ov w2.heap.size w2.heap.size _ _<|ED _) (A7 _) Aa fun v5 w5 a5 al ad=>?_)
  have ah:=a5.size
  have a6:=a2.trans a5
  have a0:=a1.ext (o1) a5
  refine FO (v:=vo) (a:=v5) Bt BT Z Z Z a0 a6.size ad.rd1 sD (by unfold maxLen;first|omega|assumption|(simp;done)|(simp;omega)) Aa fun v6 w6 F6 a7 ae ai=>?_
  have aj:AF w w6:=a7.below a6 (fun c hc=>A8 (A7 _) (ae c hc).1) a6.size
  have ak:=a7.size
  have am:=ad.chg (o1) a7 fun c hc=>zH<|ae c hc
  refine Ac 1 Z<|Ab _ [0,0,0] Z<|Ad 1 Z<|AP ((k+1:Nat):Int) Z Z (Bl oM sD) Aa<|Ac 1 Z ?_
  exact⟨(k+1,v6),_,rfl,zR,⟨aj,(by rw[Hj 0 oM];exact ai.up o1),sD⟩,zD⟩
 exact AG false Z Z (A6 ac) Aa<|Aj<|Ah Z<|A4<|Ax<|Ax<|At<|bZ [0,0] Z<|Ac 2 Z<|A1<|Af [4] Z vo Z ⟨vo,rfl,a2,(by have h:=a1.up o1;rwa [za oM]at h)⟩
theorem XS (a:Option Addr)(n c:Nat)(w:World):(Instr.build 180 #[(0,.slice a n c)]).run Tryz.prog w=.ok (.agg #[.slice a n c,zI 0,.int .u64 0]) w:=by
  kernel_rfl
theorem Zt {v:Value}{n:Nat}(h:EA v n)(w:World):(Instr.build 180 #[(0,v)]).run Tryz.prog w=.ok (.agg #[v,zI 0,.int .u64 0]) w:=by
  obtain⟨a,c,rfl,_⟩:=h
  exact XS a n c w
theorem Fs (w:World)(vc:Value)(cs:List UInt8)(hcs:Rd (B3 rU) w.heap vc cs)  :
  Calls Tryz.prog 66 #[vc] w (fun e w'=>∃g:Nat,e=.returned (zP g)∧AF w w'∧EB w'.heap g vc cs 0∧w.heap.size≤g):=by
 refine Aq [vc] 6 Tryz.func66 Z Z sM ?_
 have a0:AF w w:=AF.refl w
 have a7:=hcs.lenle
 refine cA Z<|bZ [0,0,3,0] Z<|Ad 1 Z<|C3 (ps:=#[(0,vc)]) (.agg #[vc,zI 0,.int .u64 0]) (by simp only[zc,zf,zh];rfl) (fun wq=>Zt hcs.isSl wq) Aa (Bu Z Aa fun w1 a1 a6 a3=>?_)
 have a4:=a1.size
 have a2:=a0.trans a1
 have a5:=EB.new hcs a2 a3 a0.size
 exact Ac 1 Z<|A1<|Af [2] Z (zP w.heap.size) Z ⟨w.heap.size,rfl,a2,a5,a0.size⟩
theorem D4 (w:World)(va:Value)(a:Sr)(y:Int)(ha:Rd (B3 rI) w.heap va a)(_hy:Bx y)(hla:a.length≤1000000000000)(hqa:B2 a=true)(hy:0≤y∧y<1000003) :
  Calls Tryz.prog 187 #[va,zI y] w (fun e w'=>∃v0:Value,e=.returned (v0)∧AF w w'∧Fr (Bh rI 2) w.heap.size w'.heap.size w'.heap v0 (Ct a y)):=by
 refine Aq [va,zI y] 27 Tryz.func187 Z Z sM ?_
 have a4:AF w w:=AF.refl w
 have ah:=ha.lenle
 refine cA Z<|bZ [0,0,3,0] Z<|Ad 1 Z<|AQ (v:=va) Bt Z ha.isSl Aa (GA (n:=a.length) Bt BT Z Z Z sD Aa fun v1 w1 a2 aa a5=>?_)
 have a3:=a2.size
 have a6:=a4.trans a2
 refine Ac 1 Z<|A0<|bZ [0,0,0] Z<|Ad 1 Z<|AQ (v:=va) Bt Z ha.isSl Aa<|Ac 1 Z<|A3 ?_
 refine B1 (S:=Nat) (fun k=>([(12,zI (k:Int)),(0,va),(1,zI y),(5,v1),(11,zI (a.length:Int))])) (fun k W=>AF w W∧Fr (Bh rI 2) w.heap.size W.heap.size W.heap v1 (Hc k (Ct a y)<|List.replicate a.length 0)∧k≤a.length) (fun k=>a.length-k) 0 ⟨rfl,rfl,rfl,rfl,rfl,trivial⟩ ⟨a6,(by rw[J8];exact a5.up o1),sD⟩ ?_
 clear a4 a5 aa a2 a3 a6
 rintro k ρ2 w2 ⟨a1,a0,a7⟩
 have ab:w.heap.size≤w2.heap.size:=a1.size
 have hml:=J9 k (Ct a y) (List.replicate a.length 0) sM
 rw[z5]at hml
 have hga:=C6 hqa k
 refine bZ [0] Z ?_
 by_cases a8:(k:Int)<(a.length:Int)
 ·refine AG true Z Z (A5 a8) Aa<|Aj<|A0<|Ag Z<|A2<|A0<|A3<|bZ [0,0] Z<|Ac 2 Z<|Ab _ [0,0,0,0,0,2,0,0,0,0,4] Z<|Ad 4 Z<|AB (v:=va) k Bt BT Z Z ha.isSl Z sD Aa ?_
  refine Ai (p:=Ay va k 1) (.inr Z) (zI<|a.getD k 0) AD Z (AZ a1 (ha.getI sD).1) Aa<|Ad 1 Z<|FC (wr ((a.getD k 0)*y)) Z Z Z Aa<|DP (md (a.getD k 0*y)) Z Z (by decide) (Ny hga hy) Aa ?_
  refine AB (v:=v1) k Bt BT Z Z a0.isSl Z sD Aa (Im (v:=v1) (w:=w2) Hv Z Z (ED _) a0 sD Aa fun w4 F4 a9 ag ac ad=>?_)
  have ae:AF w w4:=a9.below a1 (fun c hc=>A8 (A7 _) (ac c hc).1) a1.size
  have af:=a9.size
  refine Aj<|Ab _ [0,0] Z<|AP ((k+1:Nat):Int) Z Z (Bl oM sD) Aa<|Ac 1 Z ?_
  exact⟨k+1,_,rfl,zR,⟨ae,(by unfold Ct;rw[ME sM oM];exact ad.up o1),sD⟩,zD⟩
 exact AG false Z Z (A6 a8) Aa<|Aj<|A0<|Ah Z<|A4<|Ax<|Ax<|At<|bZ [0,0] Z<|Ac 2 Z<|A1<|Af [4] Z v1 Z ⟨v1,rfl,a1,(by have h:=a0.up o1;rwa [Kk sM (by simp;omega)]at h)⟩
theorem E0 (w:World)(va:Value)(a:Sr)(vb:Value)(b:Sr)(ha:Rd (B3 rI) w.heap va a)(hb:Rd (B3 rI) w.heap vb b)(hla:a.length≤1000000000000)(hl:a.length≤b.length)(hqa:B2 a=true)(hqb:B2 b=true) :
  Calls Tryz.prog 185 #[va,vb] w (fun e w'=>∃v0:Value,e=.returned (v0)∧AF w w'∧Fr (Bh rI 2) w.heap.size w'.heap.size w'.heap v0 (Ce a b)):=by
 refine Aq [va,vb] 30 Tryz.func185 Z Z sM ?_
 have a5:AF w w:=AF.refl w
 have ah:=ha.lenle
 have ai:=hb.lenle
 refine cA Z<|bZ [0,0,3,0] Z<|Ad 1 Z<|AQ (v:=va) Bt Z ha.isSl Aa (GA (n:=a.length) Bt BT Z Z Z sD Aa fun v1 w1 a3 aa a6=>?_)
 have a4:=a3.size
 have a7:=a5.trans a3
 refine Ac 1 Z<|A0<|bZ [0,0,0] Z<|Ad 1 Z<|AQ (v:=va) Bt Z ha.isSl Aa<|Ac 1 Z<|A3 ?_
 refine B1 (S:=Nat) (fun k=>([(12,zI (k:Int)),(0,va),(1,vb),(5,v1),(11,zI (a.length:Int))])) (fun k W=>AF w W∧Fr (Bh rI 2) w.heap.size W.heap.size W.heap v1 (Hc k (Ce a b)<|List.replicate a.length 0)∧k≤a.length) (fun k=>a.length-k) 0 ⟨rfl,rfl,rfl,rfl,rfl,trivial⟩ ⟨a7,(by rw[J8];exact a6.up o1),sD⟩ ?_
 clear a5 a6 aa a3 a4 a7
 rintro k ρ2 w2 ⟨a1,a0,a8⟩
 have ab:w.heap.size≤w2.heap.size:=a1.size
 have hml:=J9 k (Ce a b) (List.replicate a.length 0) sM
 rw[z5]at hml
 have hga:=C6 hqa k
 have hgb:=C6 hqb k
 refine bZ [0] Z ?_
 by_cases a9:(k:Int)<(a.length:Int)
 ·refine AG true Z Z (A5 a9) Aa<|Aj<|A0<|Ag Z<|A2<|A0<|A3<|bZ [0,0] Z<|Ac 2 Z<|AO _ [0,0,0,0,0,1,0,0,0,1,0,0,0,4] mixed (by kernel_rfl)<|Ad 4 Z<|AB (v:=va) k Bt BT Z Z ha.isSl Z sD Aa ?_
  refine Ai (p:=Ay va k 1) (.inl Z) (zI<|a.getD k 0) AD Z (AZ a1.drew (ha.getI sD).1) Aa<|Ad 2 Z ?_
  refine AB (v:=vb) k Bt BT Z Z hb.isSl Z sD Aa ?_
  refine Ai (p:=Ay vb k 1) (.inl Z) (zI<|b.getD k 0) AD Z (AZ a1.drew (hb.getI sD).1) Aa<|AP (wr ((a.getD k 0)+(b.getD k 0))) Z Z Z Aa<|DP (md (a.getD k 0+b.getD k 0)) Z Z (by decide) (TO hga hgb) Aa ?_
  refine AB (v:=v1) k Bt BT Z Z a0.isSl Z sD Aa (Im (v:=v1) (w:=w2.drew) Hv Z Z (ED _) a0 sD Aa fun w4 F4 a2 ag ac ad=>?_)
  replace a2:=a2.of_drew
  have ae:AF w w4:=a2.below a1 (fun c hc=>A8 (A7 _) (ac c hc).1) a1.size
  have af:=a2.size
  refine Aj<|Ab _ [0,0] Z<|AP ((k+1:Nat):Int) Z Z (Bl oM sD) Aa<|Ac 1 Z ?_
  exact⟨k+1,_,rfl,zR,⟨ae,(by unfold Ce;rw[ME sM oM];exact ad.up o1),sD⟩,zD⟩
 exact AG false Z Z (A6 a9) Aa<|Aj<|A0<|Ah Z<|A4<|Ax<|Ax<|At<|bZ [0,0] Z<|Ac 2 Z<|A1<|Af [4] Z v1 Z ⟨v1,rfl,a1,(by have h:=a0.up o1;rwa [Kk sM (by simp;omega)]at h)⟩
theorem Hz (w:World)(va:Value)(a:Sr)(vb:Value)(b:Sr)(ha:Rd (B3 rI) w.heap va a)(hb:Rd (B3 rI) w.heap vb b)(hla:a.length≤1000000000000)(hlb:b.length≤1000000000000)(hl:a.length≤b.length)(hqa:B2 a=true)(hqb:B2 b=true) :
  Calls Tryz.prog 178 #[va,vb] w (fun e w'=>∃v0:Value,e=.returned (v0)∧AF w w'∧Fr (Bh rI 2) w.heap.size w'.heap.size w'.heap v0 (EP a b)):=by
 refine Aq [va,vb] 9 Tryz.func178 Z Z sM ?_
 have a7:AF w w:=AF.refl w
 have ab:=ha.lenle
 have ac:=hb.lenle
 refine cA Z<|bZ [0,0,3,3,0] Z<|Ad 2 Z<|As 187 [] [] [vb,zI ((1000002:Nat):Int)] Z Z Mw Aa (D4 _ _ _ _ (hb.ext g1 a7) oM hlb hqb oM) ?_
 rintro e1 w1 ⟨a3,rfl,a4,a0⟩
 refine⟨_,rfl,a4,?_⟩
 have a8:=a4.size
 have a5:=a7.trans a4
 refine As 185 [] [] [va,a3] Z Z Oc Aa (E0 _ _ _ _ _ (ha.ext g1 a5) a0.rd1 hla (by simp;omega) hqa (by exact Eu _ _)) ?_
 rintro e2 w2 ⟨a1,rfl,a6,a2⟩
 refine⟨_,rfl,a6,?_⟩
 have a9:=a6.size
 have aa:=a5.trans a6
 exact Ac 1 Z<|A1<|Af [4] Z a1 Z ⟨a1,rfl,aa,(by rw[← Rx hl];exact(a2.up o1).low a5.size)⟩
theorem Dl (w:World)(va:Value)(a:Sr)(vb:Value)(b:Sr)(ha:Rd (B3 rI) w.heap va a)(hb:Rd (B3 rI) w.heap vb b)(hla:a.length≤1000000000000)(hl:a.length≤b.length)(hqa:B2 a=true)(hqb:B2 b=true) :
  Calls Tryz.prog 179 #[va,vb] w (fun e w'=>∃v0:Value,e=.returned (v0)∧AF w w'∧Fr (Bh rI 2) w.heap.size w'.heap.size w'.heap v0 (Cc a b)):=by
 refine Aq [va,vb] 43 Tryz.func179 Z Z sM ?_
 have a8:AF w w:=AF.refl w
 have am:=ha.lenle
 have an:=hb.lenle
 refine cA Z<|bZ [0,0,3,0] Z<|Ad 1 Z<|AQ (v:=va) Bt Z ha.isSl Aa (GA (n:=a.length) Bt BT Z Z Z sD Aa fun v1 w1 a5 af a9=>?_)
 have a6:=a5.size
 have aa:=a8.trans a5
 refine Ac 1 Z<|A0<|bZ [0,0,0] Z<|Ad 1 Z<|AQ (v:=va) Bt Z ha.isSl Aa<|Ac 1 Z<|A3 ?_
 refine B1 (S:=Nat) (fun k=>([(13,zI (k:Int)),(0,va),(1,vb),(5,v1),(12,zI (a.length:Int))])) (fun k W=>AF w W∧Fr (Bh rI 2) w.heap.size W.heap.size W.heap v1 (Hc k (Cc a b)<|List.replicate a.length 0)∧k≤a.length) (fun k=>a.length-k) 0 ⟨rfl,rfl,rfl,rfl,rfl,trivial⟩ ⟨aa,(by rw[J8];exact a9.up o1),sD⟩ ?_
 clear a8 a9 af a5 a6 aa
 rintro k ρ2 w2 ⟨a3,a1,ab⟩
 have a7:w.heap.size≤w2.heap.size:=a3.size
 have hml:=J9 k (Cc a b) (List.replicate a.length 0) sM
 rw[z5]at hml
 have hga:=C6 hqa k
 refine bZ [0] Z ?_
 by_cases ac:(k:Int)<(a.length:Int)
 ·refine AG true Z Z (A5 ac) Aa<|Aj<|A0<|Ag Z<|A2<|A0<|A3<|bZ [0,0] Z<|Ac 2 Z<|cA Z<|A3 ?_
  refine B1 (S:=Nat) (fun i=>([(7,zI (i:Int)),(0,va),(1,vb),(5,v1),(6,zI (k:Int)),(12,zI (a.length:Int)),(13,zI (k:Int))])) (fun i W=>AF w W∧Fr (Bh rI 2) w.heap.size W.heap.size W.heap v1 ((Hc k (Cc a b)<|List.replicate a.length 0).set k<|Mf a b k i)∧i≤k+1) (fun i=>k+1-i) 0 ⟨rfl,rfl,rfl,rfl,rfl,rfl,rfl,trivial⟩ ⟨a3,(by have h:=a1.up o1;rw[← Ry (T:=Cc a b) sM oM]at h;exact h),sD⟩ ?_
  clear a1 a3 a7
  rintro i ρ4 w4 ⟨a2,a0,ad⟩
  have ag:w.heap.size≤w4.heap.size:=a2.size
  have hms:((Hc k (Cc a b) (List.replicate a.length 0)).set k (Mf a b k i)).length=a.length:=by rw[z6];exact hml
  refine A0<|bZ [0,0,0] Z<|Ad 2 Z ?_
  by_cases ae:(i:Int)≤(k:Int)
  ·refine DQ true Z Z (A5 ae) Aa<|Aj<|Ag Z<|A2<|A0<|A3<|AO _ [0,0,0,0,0,1,0,0,0,1,0,0,0,0,0,1,0,0,0,0,4] mixed (by kernel_rfl)<|Ad 4 Z<|AB (v:=v1) k Bt BT Z Z a0.isSl Z sD Aa ?_
   refine Ai (p:=Ay v1 k 1) (.inl Z) (zI<|((Hc k (Cc a b)<|List.replicate a.length 0).set k<|Mf a b k i).getD k 0) AD Z (a0.rd1.getI sD).1 Aa (Ad 2 Z ?_)
   refine AB (v:=va) i Bt BT Z Z ha.isSl Z sD Aa ?_
   refine Ai (p:=Ay va i 1) (.inl Z) (zI<|a.getD i 0) AD Z (AZ a2.drew (ha.getI sD).1) Aa<|Ad 3 Z<|Bs ((k-i:Nat):Int) Z Z (Bl oM oM) Aa ?_
   refine AB (v:=vb) (k-i) Bt BT Z Z hb.isSl Z sD Aa ?_
   refine Ai (p:=Ay vb (k-i) 1) (.inl Z) (zI<|b.getD (k-i) 0) AD Z (AZ a2.drew (hb.getI sD).1) Aa<|FC (wr ((a.getD i 0)*(b.getD (k-i) 0))) Z Z Z Aa<|AP (wr ((((Hc k (Cc a b)<|List.replicate a.length 0).set k<|Mf a b k i).getD k 0)+(wr ((a.getD i 0)*(b.getD (k-i) 0))))) Z Z Z Aa ?_
   refine DP (md (Mf a b k i+a.getD i 0*b.getD (k-i) 0)) Z Z (by decide) (by rw[Dx _ _ _ _ _ oM,if_pos rfl];exact X9 (Pw _ _ _ _) (C6 hqa _) (C6 hqb _)) Aa<|AB (v:=v1) k Bt BT Z Z a0.isSl Z sD Aa ?_
   refine Im (v:=v1) (w:=w4.drew) Hv Z Z (ED _) a0 sD Aa fun w6 F6 a4 al ah ai=>?_
   replace a4:=a4.of_drew
   have aj:AF w w6:=a4.below a2 (fun c hc=>A8 (A7 _) (ah c hc).1) a2.size
   have ak:=a4.size
   refine Aj<|Ab _ [0,0,0] Z<|Ad 1 Z<|AP ((i+1:Nat):Int) Z Z (Bl oM sD) Aa<|Ac 1 Z ?_
   exact⟨i+1,_,rfl,zR,⟨aj,(by have h:=ai.up o1;rw[List.set_set]at h;exact h),sD⟩,zD⟩
  refine DQ false Z Z (A6 ae) Aa<|Aj<|Ah Z<|A4<|Ax<|Ax<|At<|Ab _ [0,0] Z<|AP ((k+1:Nat):Int) Z Z (Bl oM sD) Aa<|Ac 1 Z ?_
  exact⟨k+1,_,rfl,zR,⟨a2,(by have h:=a0.up o1;rw[show i=k+1 from by omega]at h;unfold Cc;rw[ME sM oM];exact h),sD⟩,zD⟩
 exact AG false Z Z (A6 ac) Aa<|Aj<|A0<|Ah Z<|A4<|Ax<|Ax<|At<|bZ [0,0] Z<|Ac 2 Z<|A1<|Af [4] Z v1 Z ⟨v1,rfl,a3,(by have h:=a1.up o1;rwa [Kk sM (by simp;omega)]at h)⟩
theorem EH (w:World)(va:Value)(a:Sr)(vb:Value)(b:Sr)(ha:Rd (B3 rI) w.heap va a)(hb:Rd (B3 rI) w.heap vb b)(hla:a.length≤1000000000000)(hl:a.length≤b.length)(h1:0<b.length)(hqa:B2 a=true)(hqb:B2 b=true) :
  Calls Tryz.prog 177 #[va,vb] w (fun e w'=>∃v0:Value,e=.returned (v0)∧AF w w'∧Fr (Bh rI 2) w.heap.size w'.heap.size w'.heap v0 (BM a b)):=by
 refine Aq [va,vb] 53 Tryz.func177 Z Z sM ?_
 have a5:AF w w:=AF.refl w
 have am:=ha.lenle
 have an:=hb.lenle
 refine cA Z<|A0<|AO _ [0,0,3,0,0,1,0,0,0] mixed (by kernel_rfl)<|Ad 1 Z<|AQ (v:=va) Bt Z ha.isSl Aa (GA (n:=a.length) Bt BT Z Z Z sD Aa fun v1 w1 a2 ae a7=>?_)
 replace a2:=a2.of_drew
 have a6:=a2.size
 have a8:=a5.trans a2
 refine Ad 1 Z<|AB (v:=vb) 0 Bt BT Z Z hb.isSl Z sD Aa ?_
 refine Ai (p:=Ay vb 0 1) (.inl Z) (zI<|b.getD 0 0) AD Z (AZ a5.drew (hb.getI sD).1) Aa ?_
 refine Az 226 [] [] [zI<|b.getD 0 0] Z Z VC Aa (zI<|inv<|b.getD 0 0) (fun wq=>Hy wq _ (hb.getI sD).2)<|Ac 2 Z<|A0<|bZ [0,0,0] Z<|Ad 1 Z<|AQ (v:=va) Bt Z ha.isSl Aa<|Ac 1 Z<|A3 ?_
 refine B1 (S:=Nat) (fun k=>([(19,zI (k:Int)),(0,va),(1,vb),(5,v1),(6,zI<|inv<|b.getD 0 0),(18,zI (a.length:Int))])) (fun k W=>AF w W∧Fr (Bh rI 2) w.heap.size W.heap.size W.heap v1 (Hc k (BM a b)<|List.replicate a.length 0)∧k≤a.length) (fun k=>a.length-k) 0 ⟨rfl,rfl,rfl,rfl,rfl,rfl,trivial⟩ ⟨a8,(by rw[J8];exact a7.up o1),sD⟩ ?_
 clear a5 a7 ae a2 a6 a8
 rintro k ρ3 w3 ⟨a4,a1,a9⟩
 have af:w.heap.size≤w3.heap.size:=a4.size
 have hml:=J9 k (BM a b) (List.replicate a.length 0) sM
 rw[z5]at hml
 have hga:=C6 hqa k
 refine bZ [0] Z ?_
 by_cases aa:(k:Int)<(a.length:Int)
 ·refine AG true Z Z (A5 aa) Aa<|Aj<|A0<|Ag Z<|A2<|A0<|A3<|bZ [0,0] Z<|Ac 2 Z<|bZ [0,0,0,2,0] Z<|Ad 2 Z<|AB (v:=va) k Bt BT Z Z ha.isSl Z sD Aa ?_
  refine Ai (p:=Ay va k 1) (.inr Z) (zI<|a.getD k 0) AD Z (AZ a4 (ha.getI sD).1) Aa<|Ac 1 Z<|A0<|cA Z<|A3 ?_
  refine B1 (S:=Nat×Int) (fun⟨i,t⟩=>([(8,zI t),(9,zI (i:Int)),(0,va),(1,vb),(5,v1),(6,zI<|inv<|b.getD 0 0),(7,zI (k:Int)),(18,zI (a.length:Int)),(19,zI (k:Int))])) (fun⟨i,t⟩ W=>AF w W∧Fr (Bh rI 2) w.heap.size w3.heap.size W.heap v1 (Hc k (BM a b)<|List.replicate a.length 0)∧i≤k∧t=Nm a b (BM a b) k i∧(0≤t∧t<1000003)) (fun⟨i,t⟩=>k-i) (0,a.getD k 0) ⟨rfl,rfl,rfl,rfl,rfl,rfl,rfl,rfl,rfl,trivial⟩ ⟨a4,a1,sD,(by rfl),(by exact C6 hqa k)⟩ ?_
  clear a1
  rintro⟨i,t⟩ ρ5 w5 ⟨a3,a0,ab,ht,htr⟩
  have ag:w.heap.size≤w5.heap.size:=a3.size
  refine A0<|bZ [0,0,0] Z<|Ad 2 Z ?_
  by_cases ac:(i:Int)<(k:Int)
  ·refine AG true Z Z (A5 ac) Aa<|Aj<|Ag Z<|A2<|A0<|A3<|AO _ [0,0,0,0,1,0,0,0,0,0,1,0,0,0] mixed (by kernel_rfl)<|Ad 3 Z<|AB (v:=v1) i Bt BT Z Z a0.isSl Z sD Aa ?_
   refine Ai (p:=Ay v1 i 1) (.inl Z) (zI<|(Hc k (BM a b)<|List.replicate a.length 0).getD i 0) AD Z (a0.rd1.getI sD).1 Aa (Ad 3 Z<|Bs ((k-i:Nat):Int) Z Z (Bl oM oM) Aa ?_)
   refine AB (v:=vb) (k-i) Bt BT Z Z hb.isSl Z sD Aa ?_
   refine Ai (p:=Ay vb (k-i) 1) (.inl Z) (zI<|b.getD (k-i) 0) AD Z (AZ a3.drew (hb.getI sD).1) Aa<|FC (wr (((Hc k (BM a b)<|List.replicate a.length 0).getD i 0)*(b.getD (k-i) 0))) Z Z Z Aa ?_
   refine Az 191 [] [] [zI t,zI<|wr (((Hc k (BM a b)<|List.replicate a.length 0).getD i 0)*(b.getD (k-i) 0))] Z Z T0 Aa (zI<|md (t-(wr (((Hc k (BM a b)<|List.replicate a.length 0).getD i 0)*(b.getD (k-i) 0))))) (fun wq=>GR wq _ _ oM<|Ou _)<|Ac 1 Z<|Ab _ [0,0,0] Z<|Ad 1 Z<|AP ((i+1:Nat):Int) Z Z (Bl oM sD) Aa<|Ac 1 Z ?_
   exact⟨(i+1,md (t-(wr (((Hc k (BM a b) (List.replicate a.length 0)).getD i 0)*(b.getD (k-i) 0))))),_,rfl,zR,⟨a3.drew,a0,sD,(by rw[ht,X8 0 oM (by simp;omega)];exact Rz (Et a b) hqb),(by exact C1 _)⟩,zD⟩
  refine AG false Z Z (A6 ac) Aa<|Aj<|Ah Z<|A4<|Ax<|Ax<|At<|Ab _ [0,0,0,0,0,0,0,4] Z<|Ad 4 Z<|FC (wr (t*(inv<|b.getD 0 0))) Z Z Z Aa<|DP (md (t*inv (b.getD 0 0))) Z Z (by decide) (Ny htr<|TH _) Aa<|AB (v:=v1) k Bt BT Z Z a0.isSl Z sD Aa ?_
  refine Im (v:=v1) (w:=w5) Hv Z Z (ED _) a0 sD Aa fun w8 F8 ad al ah ai=>?_
  have aj:AF w w8:=ad.below a3 (fun c hc=>A8 (A7 _) (ah c hc).1) a3.size
  have ak:=ad.size
  refine Aj<|Ab _ [0,0] Z<|AP ((k+1:Nat):Int) Z Z (Bl oM sD) Aa<|Ac 1 Z ?_
  exact⟨k+1,_,rfl,zR,⟨aj,(by have h:=ai.up o1;rw[ht,show i=k from by omega]at h;rw[← TN oM sM];exact h),sD⟩,zD⟩
 exact AG false Z Z (A6 aa) Aa<|Aj<|A0<|Ah Z<|A4<|Ax<|Ax<|At<|bZ [0,0] Z<|Ac 2 Z<|A1<|Af [4] Z v1 Z ⟨v1,rfl,a4,(by have h:=a1.up o1;rwa [Kk sM (by simp;omega)]at h)⟩
theorem Lp (w:World)(va:Value)(a:Sr)(ha:Rd (B3 rI) w.heap va a)(hla:a.length≤1000000000000) :
  Calls Tryz.prog 89 #[va] w (fun e w'=>∃v0:Value,e=.returned (v0)∧AF w w'∧Fr (Bh (Bh rI 2) 27) w.heap.size w'.heap.size w'.heap v0 (CO a)):=by
 refine Aq [va] 20 Tryz.func89 Z Z sM ?_
 have a9:AF w w:=AF.refl w
 have au:=ha.lenle
 refine cA Z<|bZ [3,0] Z (CQ (Bh rI 2) o1 BH B8 Aa fun v1 w1 a4 af aa=>?_)
 have a5:=a4.size
 have ab:=a9.trans a4
 refine Ac 1 Z<|A0<|bZ [0,0,0] Z<|Ad 1 Z<|AQ (v:=va) Bt Z ha.isSl Aa<|Ac 1 Z<|A3 ?_
 refine B1 (S:=Nat×Value) (fun⟨k,vo⟩=>([(3,vo),(9,zI (k:Int)),(7,va),(8,zI (a.length:Int))])) (fun⟨k,vo⟩ W=>AF w W∧Fr (Bh (Bh rI 2) 27) w.heap.size W.heap.size W.heap vo ((a.take k).map fun x=>[x])∧k≤a.length) (fun⟨k,vo⟩=>a.length-k) (0,v1) ⟨rfl,rfl,rfl,rfl,trivial⟩ ⟨ab,aa.up o2,sD⟩ ?_
 clear a9 aa af a4 a5 ab
 rintro⟨k,vo⟩ ρ2 w2 ⟨a3,a2,ac⟩
 have ag:w.heap.size≤w2.heap.size:=a3.size
 refine bZ [0] Z ?_
 by_cases ad:(k:Int)<(a.length:Int)
 ·refine AG true Z Z (A5 ad) Aa<|Aj<|A0<|Ag Z<|A2<|A0<|A3<|bZ [0,2,0] Z<|AB (v:=va) k Bt BT Z Z ha.isSl Z sD Aa ?_
  refine Ai (p:=Ay va k 1) (.inr Z) (zI<|a.getD k 0) AD Z (AZ a3 (ha.getI sD).1) Aa<|Ac 1 Z<|Ab _ [0,0,3,3,4,0] Z<|Ad 2 Z ?_
  refine BI (u:=zI<|a.getD k 0) (B:=w2.heap.size) AR Bt BT Z Z (Ov w2.heap.size w2.heap.size _ _ (ha.getI sD).2) (A7 _) Aa fun v4 w4 a6 aq ah=>?_
  have ai:=a6.size
  have aj:=a3.trans a6
  have a0:=a2.ext (o2) a6
  refine BI (u:=v4) (B:=w2.heap.size) o1 BH B8 Z Z ah (by first|exact A7 _|omega) Aa fun v5 w5 a7 ar ak=>?_
  have al:=a7.size
  have a8:=aj.trans a7
  have a1:=a0.ext (o2) a7
  refine Il o1 (v:=vo) (a:=v5) BH B8 Z Z Z a1 a8.size ak oM a3.size sD (by unfold maxLen;first|omega|assumption|(simp;done)|(simp;omega)) Aa fun v6 w6 F6 ae am an=>?_
  have ao:AF w w6:=ae.below a8 (fun c hc=>A8 (A7 _) (am c hc).1) a8.size
  have ap:=ae.size
  refine Ac 1 Z<|Ab _ [0,0] Z<|AP ((k+1:Nat):Int) Z Z (Bl oM sD) Aa<|Ac 1 Z ?_
  exact⟨(k+1,v6),_,rfl,zR,⟨ao,(by rw[Hj 0 oM];exact an.up o2),sD⟩,zD⟩
 exact AG false Z Z (A6 ad) Aa<|Aj<|A0<|Ah Z<|A4<|Ax<|Ax<|At<|bZ [0,0] Z<|Ac 2 Z<|A1<|Af [2] Z vo Z ⟨vo,rfl,a3,(by have h:=a2.up o2;rwa [za oM]at h)⟩
theorem Ie (w:World)(va:Value)(a:List (Sr))(ha:Rd (B3 (B3 rI)) w.heap va a)(hla:a.length≤1000000000000)(h1:∀k,k<a.length→0<(a.getD k []).length) :
  Calls Tryz.prog 106 #[va] w (fun e w'=>∃v0:Value,e=.returned (v0)∧AF w w'∧Fr (Bh rI 2) w.heap.size w'.heap.size w'.heap v0 (a.map (fun s=>s.getD 0 0))):=by
 refine Aq [va] 21 Tryz.func106 Z Z sM ?_
 have aa:AF w w:=AF.refl w
 have au:=ha.lenle
 refine cA Z<|bZ [3,0] Z (CQ (rI) AR Bt BT Aa fun v1 w1 a4 ah ab=>?_)
 have a5:=a4.size
 have ac:=aa.trans a4
 refine Ac 1 Z<|A0<|bZ [0,0,0] Z<|Ad 1 Z<|AQ (v:=va) BH Z ha.isSl Aa<|Ac 1 Z<|A3 ?_
 refine B1 (S:=Nat×Value) (fun⟨k,vo⟩=>([(3,vo),(9,zI (k:Int)),(7,va),(8,zI (a.length:Int))])) (fun⟨k,vo⟩ W=>AF w W∧Fr (Bh rI 2) w.heap.size W.heap.size W.heap vo ((a.take k).map fun s=>s.getD 0 0)∧k≤a.length) (fun⟨k,vo⟩=>a.length-k) (0,v1) ⟨rfl,rfl,rfl,rfl,trivial⟩ ⟨ac,ab.up o1,sD⟩ ?_
 clear aa ab ah a4 a5 ac
 rintro⟨k,vo⟩ ρ2 w2 ⟨a2,a1,ad⟩
 have ai:w.heap.size≤w2.heap.size:=a2.size
 refine bZ [0] Z ?_
 by_cases ae:(k:Int)<(a.length:Int)
 ·refine AG true Z Z (A5 ae) Aa<|Aj<|A0<|Ag Z<|A2<|A0<|A3<|bZ [0,2,0] Z<|AB (v:=va) k BH B8 Z Z ha.isSl Z sD Aa ?_
  obtain⟨a6,aj,a3⟩:=ha.get (k:=k) [] sD
  have ak:=a3.lenle
  refine Ai (p:=Ay va k 1) (.inr Z) a6 Bj Z (AZ a2 aj) Aa<|Ac 1 Z<|Ab _ [0,0,0,2,3,4,0] Z ?_
  have ap:=h1 k oM
  refine Ad 2 Z<|AB (v:=a6) 0 Bt BT Z Z a3.isSl Z sD Aa ?_
  refine Ai (p:=Ay a6 0 1) (.inr Z) (zI<|(a.getD k []).getD 0 0) AD Z (AZ a2 (a3.getI sD).1) Aa ?_
  refine BI (u:=zI<|(a.getD k []).getD 0 0) (B:=w2.heap.size) AR Bt BT Z Z (Ov w2.heap.size w2.heap.size _ _ (a3.getI sD).2) (A7 _) Aa fun v5 w5 a7 aq af=>?_
  have al:=a7.size
  have a8:=a2.trans a7
  have a0:=a1.ext (o1) a7
  refine FO (v:=vo) (a:=v5) Bt BT Z Z Z a0 a8.size af.rd1 sD (by unfold maxLen;first|omega|assumption|(simp;done)|(simp;omega)) Aa fun v6 w6 F6 a9 ag am=>?_
  have an:AF w w6:=a9.below a8 (fun c hc=>A8 (A7 _) (ag c hc).1) a8.size
  have ao:=a9.size
  have ar:=af.chg (o1) a9 fun c hc=>zH<|ag c hc
  refine Ac 1 Z<|Ab _ [0,0] Z<|AP ((k+1:Nat):Int) Z Z (Bl oM sD) Aa<|Ac 1 Z ?_
  exact⟨(k+1,v6),_,rfl,zR,⟨an,(by rw[Hj [] oM];exact am.up o1),sD⟩,zD⟩
 exact AG false Z Z (A6 ae) Aa<|Aj<|A0<|Ah Z<|A4<|Ax<|Ax<|At<|bZ [0,0] Z<|Ac 2 Z<|A1<|Af [2] Z vo Z ⟨vo,rfl,a2,(by have h:=a1.up o1;rwa [za oM]at h)⟩
def PV (F d:Nat):Prop:=∀(w:World) (S:List Nat) (g:Nat) (vp:Value) (dp o s0:Nat) (c0:Int) (p:List Fn) (ve:Value) (ex:Ex) (vv:Value) (env:List (List Int)) (hS:∀b∈S,b<w.heap.size) (hgS:g∈S) (hB0:BX w.heap g [vp,.int .i64 ((o:Nat):Int),.int .i64 ((s0:Nat):Int),.int .i64 c0]) (hp:RP S dp w.heap vp p) (ho:o≤12) (hs0:s0≤3000) (hc0:0≤c0∧c0≤9) (hex:RX S d w.heap ve ex) (henv:RN S (B3 (B3 rI)) w.heap vv env) (hqenv:C5 vv)
  (hvp:H6 p) (hF:F≤p.length) (hwf:wf p ((F:Nat):Int) ex ((env.length:Nat):Int)=true) (hse:BV (o+1) env) (hdp:env.length+ex.deep≤1000000),
  Calls Tryz.prog 241 #[.pointer (some ⟨g,0,none⟩),.agg #[.int .i64 ex.kind,.int .i64 ex.num,.int .i64 ex.pick,.int .i64 ex.count,ve],vv] w (fun e w'=>∃(v:Value) (x:List Int) (s1:Nat) (c1:Int),e=.returned v∧Au [g] w w'∧BX w'.heap g [vp,.int .i64 ((o:Nat):Int),.int .i64 ((s1:Nat):Int),.int .i64 c1]∧RN S (B3 rI) w'.heap v x∧Cf (o+1) x∧s1≤3000∧(0≤c1∧c1≤9)∧AH (go c0 (Cn (o+1) (E8 p (o+1) F) ex env s0)) x s1 c1)
def PA (F d:Nat):Prop:=∀(w:World) (S:List Nat) (g:Nat) (vp:Value) (dp o s0:Nat) (c0:Int) (p:List Fn) (vl:Value) (l:List Ex) (vv:Value) (env:List (List Int)) (hS:∀b∈S,b<w.heap.size) (hgS:g∈S) (hB0:BX w.heap g [vp,.int .i64 ((o:Nat):Int),.int .i64 ((s0:Nat):Int),.int .i64 c0]) (hp:RP S dp w.heap vp p) (ho:o≤12) (hs0:s0≤3000) (hc0:0≤c0∧c0≤9) (hl:RN S (DM 5 (LK d)) w.heap vl l) (henv:RN S (B3 (B3 rI)) w.heap vv env) (hqenv:C5 vv)
  (hvp:H6 p) (hF:F≤p.length) (hwf:∀k,k<l.length→wf p ((F:Nat):Int) (l.getD k Ex.zero) ((env.length:Nat):Int)=true) (hse:BV (o+1) env) (hdp:∀k,k<l.length→env.length+(l.getD k Ex.zero).deep≤1000000) (hll:l.length≤1000000),
  Calls Tryz.prog 210 #[.pointer (some ⟨g,0,none⟩),vl,vv] w (fun e w'=>∃(v:Value) (x:List (List Int)) (s1:Nat) (c1:Int),e=.returned v∧Au [g] w w'∧BX w'.heap g [vp,.int .i64 ((o:Nat):Int),.int .i64 ((s1:Nat):Int),.int .i64 c1]∧RN S (B3 (B3 rI)) w'.heap v x∧(C5 v∧x.length=l.length∧BV (o+1) x)∧s1≤3000∧(0≤c1∧c1≤9)∧AH (go c0 (Df (o+1) (E8 p (o+1) F) l env s0)) x s1 c1)
theorem E1 (w:World)(v:Value)(n:Nat)(hs:EA v n)(hcs:C5 v)  :
  Calls Tryz.prog 274 #[v] w (fun e w'=>e=.returned (DJ v)∧w'=w):=by
 refine Aq [v] 9 Tryz.func274 Z Z sM ?_
 have a0:w=w:=rfl
 exact cA Z<|bZ [0,0,0,0,0,0,0] Z<|Ad 2 Z<|AQ (v:=v) BH Z hs Aa<|Ad 1 Z<|AQ (v:=v) BH Z hs Aa<|Rg (v:=v) BH B8 Z hs Z Z hcs Aa<|Ac 1 Z<|A1<|Af [2] Z (DJ v) Z ⟨rfl,a0⟩
theorem BD (w:World)(S:List Nat)(g:Nat)(vp:Value)(dp o s0:Nat)(c0:Int)(p:List Fn)(n:Int)(hS:∀b∈S,b<w.heap.size)(hgS:g∈S)(hB0:BX w.heap g [vp,zI (o:Int),zI (s0:Int),zI c0])(hp:RP S dp w.heap vp p)(ho:o≤12)(hs0:s0≤3000)(hc0:0≤c0∧c0≤9)(_hn:Bx n)  :
  Calls Tryz.prog 273 #[zP g,zI n] w (fun e w'=>∃v0:Value,e=.returned (v0)∧AF w w'∧Fr (Bh rI 2) w.heap.size w'.heap.size w'.heap v0 (cst (o+1) n)):=by
 refine Aq [zP g,zI n] 16 Tryz.func273 Z Z sM ?_
 have a6:AF w w:=AF.refl w
 have a0:=hp.lenle
 unfold maxLen at a0
 have ad:=hB0.lt
 refine cA Z<|bZ [0,0,0,2,0,3,0] Z<|Ad 1 Z<|AY Z Aa<|Ak (p:=zP g) 1 UE Z Z Aa<|Ai (p:=Ap (zP g) 1) (.inr Z) (zI (o:Int)) Lk Z (hB0.ldp (i:=1) sM) Aa<|AP ((o+1:Nat):Int) Z Z (Bl oM oM) Aa ?_
 refine GA (n:=o+1) Bt BT Z Z Z sD Aa fun v1 w1 a1 ab a3=>?_
 have a7:=a1.size
 have a4:=a6.trans a1
 refine Ac 1 Z<|bZ [0,0,0,4] Z<|Ad 2 Z<|AB (v:=v1) 0 Bt BT Z Z a3.isSl Z sM Aa (Im (v:=v1) (w:=w1) Hv Z Z _hn a3 sM Aa fun w2 F2 a2 ac a5 a8=>?_)
 have a9:AF w w2:=a2.below a4 (fun c hc=>A8 (A7 _) (a5 c hc).1) a4.size
 have aa:=a2.size
 exact Aj<|bZ [0,0] Z<|Ac 2 Z<|A1<|Af [4] Z v1 Z ⟨v1,rfl,a9,a8.up o1⟩
theorem H9 (w:World)(S:List Nat)(F:Nat)(g:Nat)(vp:Value)(dp o s0:Nat)(c0:Int)(p:List Fn)(dl:Nat)(vl:Value)(l:List Ex)(vv:Value)(env:List (Sr))(hS:∀b∈S,b<w.heap.size)(hgS:g∈S)(hB0:BX w.heap g [vp,zI (o:Int),zI (s0:Int),zI c0])(hp:RP S dp w.heap vp p)(ho:o≤12)(hs0:s0≤3000)(hc0:0≤c0∧c0≤9)(hl:RN S (DM 5 (LK dl)) w.heap vl l)(henv:RN S (B3 (B3 rI)) w.heap vv env)(hqenv:C5 vv)(hvp:H6 p)(hF:F≤p.length)(hwf:∀k,k<l.length→wf p (F:Int) (l.getD k Ex.zero) (env.length:Int)=true)(hse:BV (o+1) env)(hdp:∀k,k<l.length→env.length+(l.getD k Ex.zero).deep≤1000000)(hll:l.length≤1000000)(IHv:∀d',d'<dl→PV F d') :
  Calls Tryz.prog 210 #[zP g,vl,vv] w (fun e w'=>∃(v:Value) (x:List (Sr)) (s1:Nat) (c1:Int),e=.returned v∧Au [g] w w'∧BX w'.heap g [vp,zI (o:Int),zI (s1:Int),zI c1]∧RN S (B3 (B3 rI)) w'.heap v x∧(C5 v∧x.length=l.length∧BV (o+1) x)∧s1≤3000∧(0≤c1∧c1≤9)∧AH (go c0 (Df (o+1) (E8 p (o+1) F) l env s0)) x s1 c1):=by
 refine Aq [zP g,vl,vv] 26 Tryz.func210 Z Z sM ?_
 have b2:Au [g] w w:=Au.refl [g] w
 have c2:=hp.lenle
 unfold maxLen at c2
 have c3:=hl.lenle
 unfold maxLen at c3
 have c4:=henv.lenL
 unfold maxLen at c4
 have ch:=hB0.lt
 refine cA Z<|bZ [3,0] Z (CQ rV By BH B8 Aa fun v1 w1 ai bh b3=>?_)
 have am:=ai.size
 have b4:Au [g] w w1:=b2.ext ai
 have ag:=hB0.ext ai
 obtain⟨bs,F1,bt⟩:=Hi.nil (S:=S) (b3.low (B':=w.heap.size) (A7 _))
 refine Ac 1 Z<|A0<|bZ [0,0,0] Z<|Ad 1 Z<|AQ (v:=vl) D1 Z hl.isSl Aa<|Ac 1 Z<|A3 ?_
 refine B1 (S:=Nat×Value×List (Sr)×Nat×Int) (fun⟨k,vo,xs,s9,c9⟩=>([(7,vo),(13,zI (k:Int)),(0,zP g),(2,vv),(11,vl),(12,zI (l.length:Int))])) (fun⟨k,vo,xs,s9,c9⟩ W=>Au [g] w W∧BX W.heap g [vp,zI (o:Int),zI (s9:Int),zI c9]∧k≤l.length∧Oz 27 S w.heap.size W.heap vo xs∧xs.length=k∧BV (o+1) xs∧s9≤3000∧(0≤c9∧c9≤9)∧AH (go c0<|Df (o+1) (E8 p (o+1) F) (l.take k) env s0) xs s9 c9) (fun⟨k,vo,xs,s9,c9⟩=>l.length-k) (0,v1,([]:List (Sr)),s0,c0) ⟨rfl,rfl,rfl,rfl,rfl,rfl,trivial⟩ ⟨b4,ag,sD,(by exact⟨_,_,by assumption⟩),(by rfl),(by intro j hj;simp at hj),oM,oM,(by exact Gj _ _ _ _ _ _)⟩ ?_
 clear b2 b3 bh ai am b4
 rintro⟨k,vo,xs,s9,c9⟩ ρ2 w2 ⟨aj,a0,b5,hbld,hxl,hxs,b6,b7,hrl⟩
 have bi:w.heap.size≤w2.heap.size:=aj.size
 have bu:=a0.lt
 obtain⟨bv,F5,a3⟩:=hbld
 refine bZ [0] Z ?_
 by_cases b8:(k:Int)<(l.length:Int)
 ·refine AG true Z Z (A5 b8) Aa<|Aj<|A0<|Ag Z<|A2<|A0<|A3<|bZ [0,2,3,4] Z ?_
  have hkl:k<l.length:=by omega
  refine AB (v:=vl) k D1 Bk Z Z hl.isSl Z sD Aa ?_
  obtain⟨cs7,bj,bk⟩:=hl.get (Aw dl) Ex.zero (k:=k) sD
  obtain⟨dd7,ae,bw,rfl,ak⟩:=RX.of bj
  have an:=ak.rn.lenle
  unfold maxLen at an
  refine AK (p:=Ay vl k 5) (.inr Z) [zI<|(l.getD k Ex.zero).kind,zI<|(l.getD k Ex.zero).num,zI<|(l.getD k Ex.zero).pick,zI<|(l.getD k Ex.zero).count,ae] B6 Z (fun c8 ao=>bk c8<|(aj.sub<|AX hgS).ext ao) Z Aa ?_
  have bx:=a0.lt
  refine Bo (z:=.agg #[zI 0,zI 0,zI 0,zI 0,zN]) Hw Aa fun w8 af bz ap=>?_
  have bl:=af.size
  have bm:Au [g] w w8:=aj.ext af
  have a4:=a0.ext af
  have bn:=a3.ext af
  replace ap:BX w8.heap w2.heap.size [zI 0,zI 0,zI 0,zI 0,zN]:=ap
  refine Bz (vs:=[zI<|(l.getD k Ex.zero).kind,zI<|(l.getD k Ex.zero).num,zI<|(l.getD k Ex.zero).pick,zI<|(l.getD k Ex.zero).count,ae]) B6 Z Z ak.ones ap Z Z Aa fun c6 a5 bo a6=>?_
  replace a6:BX c6.heap w2.heap.size [zI ((l.getD k Ex.zero).kind),zI ((l.getD k Ex.zero).num),zI ((l.getD k Ex.zero).pick),zI ((l.getD k Ex.zero).count),ae]:=a6
  have a7:Au [g] w c6:=bm.fresh a5 (fun _ h=>zE h)
  have b9:=a5.size
  have aq:=a4.chg a5 (zB ·)
  have a2:=a3.ext<|a5.below af (fun _ h=>zE h) af.size
  refine Aj<|Ab _ [0,0,2,0,4,3,4,0] Z<|Ad 2 Z<|AK (p:=zP w2.heap.size) (.inr Z) [zI<|(l.getD k Ex.zero).kind,zI<|(l.getD k Ex.zero).num,zI<|(l.getD k Ex.zero).pick,zI<|(l.getD k Ex.zero).count,ae] B6 Z (fun c8 ao=>LD.of_box<|BX.ext (w:=c6) a6 ao) Z Aa<|Ad 1 Z ?_
  refine AA 241 [] [] [zP g,.agg #[zI<|(l.getD k Ex.zero).kind,zI<|(l.getD k Ex.zero).num,zI<|(l.getD k Ex.zero).pick,zI<|(l.getD k Ex.zero).count,ae],vv] Z Z Lj Aa (IHv dd7 oM _ (S++F5) g vp dp (o) (s9) (c9) (p) ae (l.getD k Ex.zero) vv (env) (fun b hb=>(by rcases zi.1 hb with hb|hb;(have:=hS b hb;omega);exact a2.lt b hb:b<c6.heap.size)) (z8 _ hgS) aq ((hp.add (F:=F5) (An<|Av dp) a2.low).chg (An<|Av dp)<|a7.sub<|LL hgS) oM oM oM ⟨ak.rng,(ak.rn.add (F:=F5) (An<|Aw dd7) a2.low).chg (An<|Aw dd7)<|a7.sub<|LL hgS⟩ ((henv.add (F:=F5) g2 a2.low).chg g2<|a7.sub<|LL hgS) hqenv hvp oM (by exact hwf k hkl) hse (by exact hdp k hkl)) ?_
  rintro ci c5 ⟨c7,ca,cb,cc,rfl,a8,ar,a9,ah,ba,bb,bc⟩
  refine⟨_,rfl,?_⟩
  have bd:=a8.size
  have au:Au [g] w c5:=a7.trans a8
  have av:=a6.chg a8 (zB ·)
  have aw:=a2.run hgS oM a8
  have be:=ah.1
  replace a9:RN (S++F5) (B3 rI) c5.heap c7 ca:=a9
  refine BI (u:=c7) (B:=c5.heap.size) By BH B8 Z Z (Oj c5.heap.size c5.heap.size _<|a9.one1 g1) (A7 _) Aa fun cd ce a1 bp ax=>?_
  have bf:=a1.size
  have ay:Au [g] w ce:=au.ext a1
  have aa:=ar.ext a1
  have al:=av.ext a1
  have ab:=aw.ext a1
  have az:=a9.ext g1 a1
  refine EC (v:=vo) (a:=cd) (u:=c7) BH B8 Z Z Z ab oM ax az sD (by unfold maxLen;first|omega|assumption|(simp;done)|(simp;omega)) Aa ?_
  rintro cf cg G24 ac ad ⟨bq,cj,br⟩
  have bg:=ac.size
  have b0:Au [g] w cg:=ay.fresh ac (fun c hc=>ab.low c (ad c hc))
  have b1:=aa.chg ac fun hm=>by have:=ab.low _ (ad _ hm);have:=ab.lt _ (ad _ hm);omega
  refine Ac 1 Z<|Ab _ [0,0] Z<|AP ((k+1:Nat):Int) Z Z (Bl oM sD) Aa<|Ac 1 Z ?_
  exact⟨(k+1,cf,xs++[ca],cb,cc),_,rfl,zR,⟨b0,b1,sD,(by exact⟨_,_,by assumption⟩),(by rw[z4,zd,hxl]),(by exact BV.snoc hxs (by assumption)),oM,oM,(by exact Gi oM hrl (by assumption))⟩,zD⟩
 exact AG false Z Z (A6 b8) Aa<|Aj<|A0<|Ah Z<|A4<|Ax<|Ax<|At<|bZ [0,0] Z<|Ac 2 Z<|A1<|Af [6] Z vo Z ⟨vo,xs,s9,c9,rfl,aj,a0,a3.done hS,(by exact⟨a3.cap,zO,hxs⟩),oM,oM,(by rw[za oM]at hrl;exact hrl)⟩
theorem Tf (F d:Nat)(IH:∀d',d'<d→PV F d'):PA F d:=by
 intro w S g vp dp o s0 c0 p vl l vv env hS hgS hB0 hp ho hs0 hc0 hl henv hqenv hvp hF hwf hse hdp hll
 exact H9 w S F g vp dp o s0 c0 p d vl l vv env hS hgS hB0 hp ho hs0 hc0 hl henv hqenv hvp hF hwf hse hdp hll IH
theorem JO {p:Prop}(h:p:=by first|exact Dy oM|exact Cy oM oM|exact Ei hc00 hs1 oM|exact Ej hc00 hs1 oM|exact Ek hc00 hs1 oM oM ‹AH (go c0 (Cn _ _ (ex.kids.getD 0 _) _ _)) _ _ _› oM (by assumption)|exact El hc00 hs1 oM oM ‹AH (go c0 (Cn _ _ (ex.kids.getD 0 _) _ _)) _ _ _› oM (by assumption)|exact Em hc00 hs1 oM oM ‹AH (go c0 (Cn _ _ (ex.kids.getD 0 _) _ _)) _ _ _› (by assumption)|exact D3 hc00 hs1 hkg.1 hkg.2.1 hkg.2.2.1 hkg.2.2.2 hKr oM|exact DU hc00 hs1 oM oM hKr oM (by assumption)|exact DV hc00 hs1 oM oM hKr oM (DW hrl9 oM oM)|exact Ba hc00 hs1 hkg.1 hkg.2.1 hkg.2.2.1 hkg.2.2.2 oM oM hKr oM (by rw[show c66=0 from by omega];exact FQ oM)|exact Ba hc00 hs1 hkg.1 hkg.2.1 hkg.2.2.1 hkg.2.2.2 oM oM hKr oM (by rw[show c66=0 from by omega];exact FR oM)|exact Ba hc00 hs1 hkg.1 hkg.2.1 hkg.2.2.1 hkg.2.2.2 oM oM hKr oM (by rw[show c66=0 from by omega];exact FS oM)|exact Ba hc00 hs1 hkg.1 hkg.2.1 hkg.2.2.1 hkg.2.2.2 oM oM hKr oM (by rw[show c66=0 from by omega];exact FT oM)|exact Ba hc00 hs1 hkg.1 hkg.2.1 hkg.2.2.1 hkg.2.2.2 oM oM hKr oM (by rw[show c66=0 from by omega];exact FU oM oM)|exact Ba hc00 hs1 hkg.1 hkg.2.1 hkg.2.2.1 hkg.2.2.2 oM oM hKr oM (En oM oM)):p:=h
theorem OX {p:Prop}(h:p:=by first|exact Dy oM|exact Cy oM oM|exact Ei hc00 hs1 oM|exact Ej hc00 hs1 oM|exact Ek hc00 hs1 oM oM ‹AH (go c0 (Cn _ _ (ex.kids.getD 0 _) _ _)) _ _ _› oM (by assumption)|exact El hc00 hs1 oM oM ‹AH (go c0 (Cn _ _ (ex.kids.getD 0 _) _ _)) _ _ _› oM (by assumption)|exact Em hc00 hs1 oM oM ‹AH (go c0 (Cn _ _ (ex.kids.getD 0 _) _ _)) _ _ _› (by assumption)|exact D3 hc00 hs1 hkg.1 hkg.2.1 hkg.2.2.1 hkg.2.2.2 hKr oM|exact DU hc00 hs1 oM oM hKr oM (by assumption)|exact DV hc00 hs1 oM oM hKr oM (DW hrl9 oM oM)|exact Ba hc00 hs1 hkg.1 hkg.2.1 hkg.2.2.1 hkg.2.2.2 oM oM hKr oM (by rw[show c0=0 from by omega];exact FQ oM)|exact Ba hc00 hs1 hkg.1 hkg.2.1 hkg.2.2.1 hkg.2.2.2 oM oM hKr oM (by rw[show c0=0 from by omega];exact FR oM)|exact Ba hc00 hs1 hkg.1 hkg.2.1 hkg.2.2.1 hkg.2.2.2 oM oM hKr oM (by rw[show c0=0 from by omega];exact FS oM)|exact Ba hc00 hs1 hkg.1 hkg.2.1 hkg.2.2.1 hkg.2.2.2 oM oM hKr oM (by rw[show c0=0 from by omega];exact FT oM)|exact Ba hc00 hs1 hkg.1 hkg.2.1 hkg.2.2.1 hkg.2.2.2 oM oM hKr oM (by rw[show c0=0 from by omega];exact FU oM oM)|exact Ba hc00 hs1 hkg.1 hkg.2.1 hkg.2.2.1 hkg.2.2.2 oM oM hKr oM (En oM oM)):p:=h
theorem Tg {p:Prop}(h:p:=by first|exact Dy oM|exact Cy oM oM|exact Ei hc00 hs1 oM|exact Ej hc00 hs1 oM|exact Ek hc00 hs1 oM oM ‹AH (go c0 (Cn _ _ (ex.kids.getD 0 _) _ _)) _ _ _› oM (by assumption)|exact El hc00 hs1 oM oM ‹AH (go c0 (Cn _ _ (ex.kids.getD 0 _) _ _)) _ _ _› oM (by assumption)|exact Em hc00 hs1 oM oM ‹AH (go c0 (Cn _ _ (ex.kids.getD 0 _) _ _)) _ _ _› (by assumption)|exact D3 hc00 hs1 hkg.1 hkg.2.1 hkg.2.2.1 hkg.2.2.2 hKr oM|exact DU hc00 hs1 oM oM hKr oM (by assumption)|exact DV hc00 hs1 oM oM hKr oM (DW hrl9 oM oM)|exact Ba hc00 hs1 hkg.1 hkg.2.1 hkg.2.2.1 hkg.2.2.2 oM oM hKr oM (by rw[show c9=0 from by omega];exact FQ oM)|exact Ba hc00 hs1 hkg.1 hkg.2.1 hkg.2.2.1 hkg.2.2.2 oM oM hKr oM (by rw[show c9=0 from by omega];exact FR oM)|exact Ba hc00 hs1 hkg.1 hkg.2.1 hkg.2.2.1 hkg.2.2.2 oM oM hKr oM (by rw[show c9=0 from by omega];exact FS oM)|exact Ba hc00 hs1 hkg.1 hkg.2.1 hkg.2.2.1 hkg.2.2.2 oM oM hKr oM (by rw[show c9=0 from by omega];exact FT oM)|exact Ba hc00 hs1 hkg.1 hkg.2.1 hkg.2.2.1 hkg.2.2.2 oM oM hKr oM (by rw[show c9=0 from by omega];exact FU oM oM)|exact Ba hc00 hs1 hkg.1 hkg.2.1 hkg.2.2.1 hkg.2.2.2 oM oM hKr oM (En oM oM)):p:=h
theorem Dm {p:Prop}(h:p:=by first|assumption|exact DT (by decide)|exact DT (Cm.2 oM)|exact hse _ oM|exact hks _ oM|exact Gk hK0|exact KP hK0|exact Gl hK0|exact KQ hK0|exact Ff hK0):p:=h
theorem Na {p:Prop}(h:p:=by have:=hK0.1;have:=hK1.1;omega):p:=h
theorem Lq {p:Prop}(h:p:=by have:=hK0.1;omega):p:=h
theorem Gr (w:World)(S:List Nat)(F:Nat)(g:Nat)(vp:Value)(dp o s0:Nat)(c0:Int)(p:List Fn)(dex:Nat)(ve:Value)(ex:Ex)(vv:Value)(env:List (Sr))(hS:∀b∈S,b<w.heap.size)(hgS:g∈S)(hB0:BX w.heap g [vp,zI (o:Int),zI (s0:Int),zI c0])(hp:RP S dp w.heap vp p)(ho:o≤12)(hs0:s0≤3000)(hc0:0≤c0∧c0≤9)(hex:RX S dex w.heap ve ex)(henv:RN S (B3 (B3 rI)) w.heap vv env)(hqenv:C5 vv)(hvp:H6 p)(hF:F≤p.length)(hwf:wf p (F:Int) ex (env.length:Int)=true)(hse:BV (o+1) env)(hdp:env.length+ex.deep≤1000000)(IH1:∀F',F'<F→∀d,PV F' d)(IH2:∀d',d'<dex→PV F d') :
  Calls Tryz.prog 241 #[zP g,(.agg #[(zI ex.kind),(zI ex.num),(zI ex.pick),(zI ex.count),ve]),vv] w (fun e w'=>∃(v:Value) (x:Sr) (s1:Nat) (c1:Int),e=.returned v∧Au [g] w w'∧BX w'.heap g [vp,zI (o:Int),zI (s1:Int),zI c1]∧RN S (B3 rI) w'.heap v x∧Cf (o+1) x∧s1≤3000∧(0≤c1∧c1≤9)∧AH (go c0 (Cn (o+1) (E8 p (o+1) F) ex env s0)) x s1 c1):=by
 refine Aq [zP g,.agg #[zI ex.kind,zI ex.num,zI ex.pick,zI ex.count,ve],vv] 210 Tryz.func241 Z Z sM ?_
 have jm:Au [g] w w:=Au.refl [g] w
 have fa:=hp.lenle
 unfold maxLen at fa
 have fb:=hex.rn.lenle
 unfold maxLen at fb
 have fc:=henv.lenL
 unfold maxLen at fc
 have nc:=hB0.lt
 have hdk:=DI ex
 refine bZ [3,0] Z ?_
 have mg:=hB0.lt
 refine Bu (cs:=#[zI ex.kind,zI ex.num,zI ex.pick,zI ex.count,ve]) Z Aa fun w1 gw lm gx=>?_
 have i3:=gw.size
 have dn:Au [g] w w1:=jm.ext gw
 have ab:=hB0.ext gw
 replace gx:BX w1.heap w.heap.size [zI ex.kind,zI ex.num,zI ex.pick,zI ex.count,ve]:=gx
 refine Ac 1 Z<|A0<|bZ [0,0,0,2,0] Z<|Ad 1 Z<|AY Z Aa<|Ak (p:=zP g) 3 GQ Z Z Aa<|Ai (p:=Ap (zP g) 3) (.inr Z) (zI c0) AD Z (ab.ldp (i:=3) sM) Aa ?_
 by_cases jn:c0≠((0:Nat):Int)
 ·refine AT true Z Z (A5 jn) Aa<|Aj<|Ag Z<|bZ [0,3,0] Z<|Ad 1 Z<|As 273 [] [] [zP g,zI ((0:Nat):Int)] Z Z Od Aa (BD _ S g vp dp (o) (s0) (c0) (p) _ (fun b hb=>(by have:=hS b hb;omega:b<w1.heap.size)) hgS ab (hp.chg (An<|Av dp)<|dn.sub<|AX hgS) oM oM oM oM) ?_
  rintro e4 w4 ⟨dq,rfl,gy,dr⟩
  refine⟨_,rfl,gy,?_⟩
  have ln:=gy.size
  have lo:Au [g] w w4:=dn.ext gy
  have ds:=ab.ext gy
  refine Ac 1 Z<|A1<|Al ?_
  exact Af [6] Z dq Z ⟨dq,cst (o+1) ((0:Nat):Int),s0,c0,rfl,lo,ds,RN.of_fr1 dr fun b hb=>zH<|hS b hb,Dm,oM,oM,OX⟩
 refine AT false Z Z (A6 jn) Aa<|Aj<|Ah Z<|A2<|A0<|bZ [0,0,0,2,0] Z<|Ad 1 Z<|AY Z Aa<|Ak (p:=zP g) 2 KG Z Z Aa<|Ai (p:=Ap (zP g) 2) (.inr Z) (zI (s0:Int)) AD Z (ab.ldp (i:=2) sM) Aa ?_
 by_cases jo:(s0:Int)=((3000:Nat):Int)
 ·refine Am true Z Z (A5 jo) Aa<|Aj<|Ag Z<|bZ [0,0,0,4] Z<|Ad 1 Z<|AY Z Aa<|Ak (p:=zP g) 3 GQ Z Z Aa (Be (k:=3) (w:=w1) Hv Z Z ⟨rfl,rfl⟩ ab sM Aa fun w6 i4 mh gz=>?_)
  replace gz:BX w6.heap g [vp,zI (o:Int),zI (s0:Int),zI ((7:Nat):Int)]:=gz
  have jp:Au [g] w w6:=dn.trans i4
  have lp:=i4.size
  have lq:=gx.chg i4 (zB ·)
  refine Aj<|bZ [0,3,0] Z<|Ad 1 Z<|As 273 [] [] [zP g,zI ((0:Nat):Int)] Z Z Od Aa (BD _ S g vp dp (o) (s0) ((7:Nat):Int) (p) _ (fun b hb=>(by have:=hS b hb;omega:b<w6.heap.size)) hgS gz (hp.chg (An<|Av dp)<|jp.sub<|AX hgS) oM oM oM oM) ?_
  rintro e8 w8 ⟨dt,rfl,du,dv⟩
  refine⟨_,rfl,du,?_⟩
  have lr:=du.size
  have ls:Au [g] w w8:=jp.ext du
  have dw:=gz.ext du
  have jq:=lq.ext du
  refine Ac 1 Z<|A1<|Al ?_
  exact Af [6] Z dt Z ⟨dt,cst (o+1) ((0:Nat):Int),s0,((7:Nat):Int),rfl,ls,dw,RN.of_fr1 dv fun b hb=>zH<|hS b hb,Dm,oM,oM,(by first|exact Dy oM|exact Cy oM oM|exact Ei hc00 hs1 oM|exact Ej hc00 hs1 oM|exact Ek hc00 hs1 oM oM ‹AH (go c0<|Cn _ _ (ex.kids.getD 0 _) _ _) _ _ _› oM (by assumption)|exact El hc00 hs1 oM oM ‹AH (go c0<|Cn _ _ (ex.kids.getD 0 _) _ _) _ _ _› oM (by assumption)|exact Em hc00 hs1 oM oM ‹AH (go c0<|Cn _ _ (ex.kids.getD 0 _) _ _) _ _ _› (by assumption)|exact D3 hc00 hs1 hkg.1 hkg.2.1 hkg.2.2.1 hkg.2.2.2 hKr oM|exact DU hc00 hs1 oM oM hKr oM (by assumption)|exact DV hc00 hs1 oM oM hKr oM (DW hrl9 oM oM)|exact Ba hc00 hs1 hkg.1 hkg.2.1 hkg.2.2.1 hkg.2.2.2 oM oM hKr oM (by rw[show((7:Nat):Int)=0 from by omega];exact FQ oM)|exact Ba hc00 hs1 hkg.1 hkg.2.1 hkg.2.2.1 hkg.2.2.2 oM oM hKr oM (by rw[show((7:Nat):Int)=0 from by omega];exact FR oM)|exact Ba hc00 hs1 hkg.1 hkg.2.1 hkg.2.2.1 hkg.2.2.2 oM oM hKr oM (by rw[show((7:Nat):Int)=0 from by omega];exact FS oM)|exact Ba hc00 hs1 hkg.1 hkg.2.1 hkg.2.2.1 hkg.2.2.2 oM oM hKr oM (by rw[show((7:Nat):Int)=0 from by omega];exact FT oM)|exact Ba hc00 hs1 hkg.1 hkg.2.1 hkg.2.2.1 hkg.2.2.2 oM oM hKr oM (by rw[show((7:Nat):Int)=0 from by omega];exact FU oM oM)|exact Ba hc00 hs1 hkg.1 hkg.2.1 hkg.2.2.1 hkg.2.2.2 oM oM hKr oM (En oM oM))⟩
 refine Am false Z Z (A6 jo) Aa<|Aj<|Ah Z<|A2<|bZ [0,0,0,2,0,0,0,4] Z<|Ad 1 Z<|AY Z Aa<|Ak (p:=zP g) 2 KG Z Z Aa<|Ai (p:=Ap (zP g) 2) (.inr Z) (zI (s0:Int)) AD Z (ab.ldp (i:=2) sM) Aa<|AP ((s0+1:Nat):Int) Z Z (Bl oM oM) Aa<|AY Z Aa<|Ak (p:=zP g) 2 KG Z Z Aa (Be (k:=2) (w:=w1) Hv Z Z ⟨rfl,rfl⟩ ab sM Aa fun w9 i0 lu c2=>?_)
 replace c2:BX w9.heap g [vp,zI (o:Int),zI ((s0+1:Nat):Int),zI c0]:=c2
 have ae:Au [g] w w9:=dn.trans i0
 have i5:=i0.size
 have a9:=gx.chg i0 (zB ·)
 refine Aj<|A0<|bZ [0,2] Z ?_
 have hc00:c0=0:=by omega
 have hs1:s0+1≤3000:=by omega
 refine Ak (p:=zP w.heap.size) 0 Bf Z Z Aa<|Ai (p:=Ap (zP w.heap.size) 0) (.inr Z) (zI ex.kind) AD Z (a9.ldp (i:=0) sM) Aa<|Aj<|A3<|bZ [0,0] Z ?_
 by_cases dx:ex.kind=((1:Nat):Int)
 ·refine Am true Z Z (A5 dx) Aa<|Ac 1 Z<|Ag Z<|bZ [0,0,2,3,0] Z ?_
  have hwk:=OD hwf oM
  refine Ad 1 Z<|Ak (p:=zP w.heap.size) 1 BE Z Z Aa<|Ai (p:=Ap (zP w.heap.size) 1) (.inr Z) (zI ex.num) AD Z (a9.ldp (i:=1) sM) Aa<|As 273 [] [] [zP g,zI ex.num] Z Z Od Aa (BD _ S g vp dp (o) (s0+1) (c0) (p) _ (fun b hb=>(by have:=hS b hb;omega:b<w9.heap.size)) hgS c2 (hp.chg (An<|Av dp)<|ae.sub<|AX hgS) oM oM oM hex.rng.num) ?_
  rintro nd fz ⟨c3,rfl,ax,cm⟩
  refine⟨_,rfl,ax,?_⟩
  have jr:=ax.size
  have i6:Au [g] w fz:=ae.ext ax
  have cn:=c2.ext ax
  have i1:=a9.ext ax
  refine Ac 1 Z<|A1<|AC<|Al ?_
  exact Af [6] Z c3 Z ⟨c3,cst (o+1) ex.num,s0+1,c0,rfl,i6,cn,RN.of_fr1 cm fun b hb=>zH<|hS b hb,Dm,oM,oM,OX⟩
 refine Am false Z Z (A6 dx) Aa<|Ac 1 Z<|Ah Z<|bZ [0,0] Z ?_
 by_cases dy:ex.kind=((2:Nat):Int)
 ·refine Am true Z Z (A5 dy) Aa<|Ac 1 Z<|Ag Z<|bZ [0,0,2,0,2,0] Z ?_
  have hwk:=OE hwf oM
  refine Ad 1 Z<|Ak (p:=zP w.heap.size) 1 BE Z Z Aa<|Ai (p:=Ap (zP w.heap.size) 1) (.inr Z) (zI ex.num) AD Z (a9.ldp (i:=1) sM) Aa<|AB (v:=vv) ((ex.num).toNat) BH B8 Z Z henv.slL oM sD Aa ?_
  obtain⟨co,i7,dz⟩:=RN.getL (w:=w) g1 [] (k:=(ex.num).toNat) henv sD
  have e0:=dz.lenL
  unfold maxLen at e0
  refine Ai (p:=Ay vv ((ex.num).toNat) 1) (.inr Z) co Bj Z (i7 _<|ae.sub<|AX hgS) Aa<|Ac 1 Z<|A1<|AC<|Al ?_
  exact Af [6] Z co Z ⟨co,env.getD ((ex.num).toNat) [],s0+1,c0,rfl,ae,c2,dz.chg g1<|ae.sub<|AX hgS,Dm,oM,oM,OX⟩
 refine Am false Z Z (A6 dy) Aa<|Ac 1 Z<|Ah Z<|bZ [0,0] Z ?_
 by_cases e1:ex.kind=((8:Nat):Int)
 ·refine Am true Z Z (A5 e1) Aa<|Ac 1 Z<|Ag Z<|A0<|bZ [0,0,2,0,2,0,4,0,2,0] Z ?_
  have hwk:=RH hwf oM
  refine Ad 1 Z<|Ak (p:=zP w.heap.size) 4 B9 Z Z Aa<|Ai (p:=Ap (zP w.heap.size) 4) (.inr Z) ve Bd Z (a9.ldp (i:=4) sM) Aa<|AB (v:=ve) 0 D1 Bk Z Z hex.rn.isSl Z sD Aa ?_
  obtain⟨cs16,i8,i9⟩:=hex.rn.get (Aw dex) Ex.zero (k:=0) sD
  obtain⟨dd16,cp,lv,rfl,cq⟩:=RX.of i8
  have e2:=cq.rn.lenle
  unfold maxLen at e2
  refine AK (p:=Ay ve 0 5) (.inr Z) [zI<|(ex.kids.getD 0 Ex.zero).kind,zI<|(ex.kids.getD 0 Ex.zero).num,zI<|(ex.kids.getD 0 Ex.zero).pick,zI<|(ex.kids.getD 0 Ex.zero).count,cp] B6 Z (fun f4 cr=>i9 f4<|(ae.sub<|AX hgS).ext cr) Z Aa<|Ad 1 Z ?_
  refine AA 241 [] [] [zP g,.agg #[zI<|(ex.kids.getD 0 Ex.zero).kind,zI<|(ex.kids.getD 0 Ex.zero).num,zI<|(ex.kids.getD 0 Ex.zero).pick,zI<|(ex.kids.getD 0 Ex.zero).count,cp],vv] Z Z Lj Aa (IH2 dd16 oM _ S g vp dp (o) (s0+1) (c0) (p) cp (ex.kids.getD 0 Ex.zero) vv (env) (fun b hb=>(by have:=hS b hb;omega:b<w9.heap.size)) hgS c2 (hp.chg (An<|Av dp)<|ae.sub<|AX hgS) oM oM oM ⟨cq.rng,cq.rn.chg (An<|Aw dd16)<|ae.sub<|AX hgS⟩ (henv.chg g2<|ae.sub<|AX hgS) hqenv hvp oM (by exact DG hwf oM oM) hse (zH<|Dh (l:=ex.kids) (k:=0) oM)) ?_
  rintro nf fd ⟨fo,fp,fq,fr,rfl,ct,e3,bn,e5,js,jt,ju⟩
  refine⟨_,rfl,?_⟩
  have jv:=ct.size
  have af:Au [g] w fd:=ae.trans ct
  have bo:=a9.chg ct (zB ·)
  have jw:=e5.1
  refine AB (v:=fo) 0 Bt BT Z Z bn.slL Z sD Aa ?_
  have ia:=RN.getI (w:=fd) (k:=0) bn sD
  refine Ai (p:=Ay fo 0 1) (.inr Z) (zI<|fp.getD 0 0) AD Z (ia.1 _<|Au.refl _ _) Aa ?_
  by_cases e6:fp.getD 0 0=((0:Nat):Int)
  ·refine Am true Z Z (A5 e6) Aa<|Aj<|Ag Z<|bZ [0,0,2,0,2,0,4,0] Z<|Ad 1 Z<|Ak (p:=zP w.heap.size) 4 B9 Z Z Aa<|Ai (p:=Ap (zP w.heap.size) 4) (.inr Z) ve Bd Z (bo.ldp (i:=4) sM) Aa<|AB (v:=ve) 1 D1 Bk Z Z hex.rn.isSl Z sD Aa ?_
   obtain⟨cs25,ib,ic⟩:=hex.rn.get (Aw dex) Ex.zero (k:=1) sD
   obtain⟨dd25,cu,lw,rfl,cv⟩:=RX.of ib
   have e7:=cv.rn.lenle
   unfold maxLen at e7
   refine AK (p:=Ay ve 1 5) (.inr Z) [zI<|(ex.kids.getD 1 Ex.zero).kind,zI<|(ex.kids.getD 1 Ex.zero).num,zI<|(ex.kids.getD 1 Ex.zero).pick,zI<|(ex.kids.getD 1 Ex.zero).count,cu] B6 Z (fun f4 cr=>ic f4<|(af.sub<|AX hgS).ext cr) Z Aa<|Ad 1 Z ?_
   refine AA 241 [] [] [zP g,.agg #[zI<|(ex.kids.getD 1 Ex.zero).kind,zI<|(ex.kids.getD 1 Ex.zero).num,zI<|(ex.kids.getD 1 Ex.zero).pick,zI<|(ex.kids.getD 1 Ex.zero).count,cu],vv] Z Z Lj Aa (IH2 dd25 oM _ S g vp dp (o) (fq) (fr) (p) cu (ex.kids.getD 1 Ex.zero) vv (env) (fun b hb=>(by have:=hS b hb;omega:b<fd.heap.size)) hgS e3 (hp.chg (An<|Av dp)<|af.sub<|AX hgS) oM oM oM ⟨cv.rng,cv.rn.chg (An<|Aw dd25)<|af.sub<|AX hgS⟩ (henv.chg g2<|af.sub<|AX hgS) hqenv hvp oM (by exact DG hwf oM oM) hse (zH<|Dh (l:=ex.kids) (k:=1) oM)) ?_
   rintro ng mj ⟨fs,ml,mm,f6,rfl,bp,id,ie,e9,jx,jy,jz⟩
   refine⟨_,rfl,?_⟩
   have k0:=bp.size
   have ig:Au [g] w mj:=af.trans bp
   have lx:=bo.chg bp (zB ·)
   have ly:=bn.run g1 hgS bp
   have k1:=e9.1
   refine Ac 1 Z<|A1<|Al<|AC<|Al ?_
   exact Af [6] Z fs Z ⟨fs,ml,mm,f6,rfl,ig,id,ie,Dm,oM,oM,(by first|exact Dy oM|exact Cy oM oM|exact Ei hc00 hs1 oM|exact Ej hc00 hs1 oM|exact Ek hc00 hs1 oM oM ‹AH (go c0<|Cn _ _ (ex.kids.getD 0 _) _ _) _ _ _› oM (by assumption)|exact El hc00 hs1 oM oM ‹AH (go c0<|Cn _ _ (ex.kids.getD 0 _) _ _) _ _ _› oM (by assumption)|exact Em hc00 hs1 oM oM ‹AH (go c0<|Cn _ _ (ex.kids.getD 0 _) _ _) _ _ _› (by assumption)|exact D3 hc00 hs1 hkg.1 hkg.2.1 hkg.2.2.1 hkg.2.2.2 hKr oM|exact DU hc00 hs1 oM oM hKr oM (by assumption)|exact DV hc00 hs1 oM oM hKr oM (DW hrl9 oM oM)|exact Ba hc00 hs1 hkg.1 hkg.2.1 hkg.2.2.1 hkg.2.2.2 oM oM hKr oM (by rw[show f6=0 from by omega];exact FQ oM)|exact Ba hc00 hs1 hkg.1 hkg.2.1 hkg.2.2.1 hkg.2.2.2 oM oM hKr oM (by rw[show f6=0 from by omega];exact FR oM)|exact Ba hc00 hs1 hkg.1 hkg.2.1 hkg.2.2.1 hkg.2.2.2 oM oM hKr oM (by rw[show f6=0 from by omega];exact FS oM)|exact Ba hc00 hs1 hkg.1 hkg.2.1 hkg.2.2.1 hkg.2.2.2 oM oM hKr oM (by rw[show f6=0 from by omega];exact FT oM)|exact Ba hc00 hs1 hkg.1 hkg.2.1 hkg.2.2.1 hkg.2.2.2 oM oM hKr oM (by rw[show f6=0 from by omega];exact FU oM oM)|exact Ba hc00 hs1 hkg.1 hkg.2.1 hkg.2.2.1 hkg.2.2.2 oM oM hKr oM (En oM oM))⟩
  refine Am false Z Z (A6 e6) Aa<|Aj<|Ah Z<|A2<|bZ [0,0,2,0,2,0,4,0] Z<|Ad 1 Z<|Ak (p:=zP w.heap.size) 4 B9 Z Z Aa<|Ai (p:=Ap (zP w.heap.size) 4) (.inr Z) ve Bd Z (bo.ldp (i:=4) sM) Aa<|AB (v:=ve) 2 D1 Bk Z Z hex.rn.isSl Z sD Aa ?_
  obtain⟨cs34,ih,ii⟩:=hex.rn.get (Aw dex) Ex.zero (k:=2) sD
  obtain⟨dd34,cw,lz,rfl,cx⟩:=RX.of ih
  have ea:=cx.rn.lenle
  unfold maxLen at ea
  refine AK (p:=Ay ve 2 5) (.inr Z) [zI<|(ex.kids.getD 2 Ex.zero).kind,zI<|(ex.kids.getD 2 Ex.zero).num,zI<|(ex.kids.getD 2 Ex.zero).pick,zI<|(ex.kids.getD 2 Ex.zero).count,cw] B6 Z (fun f4 cr=>ii f4<|(af.sub<|AX hgS).ext cr) Z Aa<|Ad 1 Z ?_
  refine AA 241 [] [] [zP g,.agg #[zI<|(ex.kids.getD 2 Ex.zero).kind,zI<|(ex.kids.getD 2 Ex.zero).num,zI<|(ex.kids.getD 2 Ex.zero).pick,zI<|(ex.kids.getD 2 Ex.zero).count,cw],vv] Z Z Lj Aa (IH2 dd34 oM _ S g vp dp (o) (fq) (fr) (p) cw (ex.kids.getD 2 Ex.zero) vv (env) (fun b hb=>(by have:=hS b hb;omega:b<fd.heap.size)) hgS e3 (hp.chg (An<|Av dp)<|af.sub<|AX hgS) oM oM oM ⟨cx.rng,cx.rn.chg (An<|Aw dd34)<|af.sub<|AX hgS⟩ (henv.chg g2<|af.sub<|AX hgS) hqenv hvp oM (by exact DG hwf oM oM) hse (zH<|Dh (l:=ex.kids) (k:=2) oM)) ?_
  rintro nh mn ⟨ft,mo,mp,f7,rfl,bq,ij,ik,eb,k2,k3,k4⟩
  refine⟨_,rfl,?_⟩
  have k5:=bq.size
  have il:Au [g] w mn:=af.trans bq
  have m0:=bo.chg bq (zB ·)
  have m1:=bn.run g1 hgS bq
  have k6:=eb.1
  refine Ac 1 Z<|A1<|AC<|Al ?_
  exact Af [6] Z ft Z ⟨ft,mo,mp,f7,rfl,il,ij,ik,Dm,oM,oM,(by first|exact Dy oM|exact Cy oM oM|exact Ei hc00 hs1 oM|exact Ej hc00 hs1 oM|exact Ek hc00 hs1 oM oM ‹AH (go c0<|Cn _ _ (ex.kids.getD 0 _) _ _) _ _ _› oM (by assumption)|exact El hc00 hs1 oM oM ‹AH (go c0<|Cn _ _ (ex.kids.getD 0 _) _ _) _ _ _› oM (by assumption)|exact Em hc00 hs1 oM oM ‹AH (go c0<|Cn _ _ (ex.kids.getD 0 _) _ _) _ _ _› (by assumption)|exact D3 hc00 hs1 hkg.1 hkg.2.1 hkg.2.2.1 hkg.2.2.2 hKr oM|exact DU hc00 hs1 oM oM hKr oM (by assumption)|exact DV hc00 hs1 oM oM hKr oM (DW hrl9 oM oM)|exact Ba hc00 hs1 hkg.1 hkg.2.1 hkg.2.2.1 hkg.2.2.2 oM oM hKr oM (by rw[show f7=0 from by omega];exact FQ oM)|exact Ba hc00 hs1 hkg.1 hkg.2.1 hkg.2.2.1 hkg.2.2.2 oM oM hKr oM (by rw[show f7=0 from by omega];exact FR oM)|exact Ba hc00 hs1 hkg.1 hkg.2.1 hkg.2.2.1 hkg.2.2.2 oM oM hKr oM (by rw[show f7=0 from by omega];exact FS oM)|exact Ba hc00 hs1 hkg.1 hkg.2.1 hkg.2.2.1 hkg.2.2.2 oM oM hKr oM (by rw[show f7=0 from by omega];exact FT oM)|exact Ba hc00 hs1 hkg.1 hkg.2.1 hkg.2.2.1 hkg.2.2.2 oM oM hKr oM (by rw[show f7=0 from by omega];exact FU oM oM)|exact Ba hc00 hs1 hkg.1 hkg.2.1 hkg.2.2.1 hkg.2.2.2 oM oM hKr oM (En oM oM))⟩
 refine Am false Z Z (A6 e1) Aa<|Ac 1 Z<|Ah Z<|bZ [0,0] Z ?_
 by_cases ec:ex.kind=((9:Nat):Int)
 ·refine Am true Z Z (A5 ec) Aa<|Ac 1 Z<|Ag Z<|A0 ?_
  letI:JR:=QW [g]
  refine Jx.AO _ [0,0,1,0,1,0,0,0,0,1,0,1,0,3,3,3,3,0] mixed (by kernel_rfl) ?_
  have hwk:=OF hwf oM
  refine Jx.VU (zP g) Z Aa<|Jx.Ak (p:=zP w.heap.size) 4 B9 Z Z Aa<|Jx.ZQ (p:=Ap (zP w.heap.size) 4) ve Bd Z (fun wj hj=>(BX.chg (w:=w9.drew) (F:=[g]) a9 hj (zB ·)).ldp (i:=4) sM) Aa<|Jx.AB (v:=ve) 1 D1 Bk Z Z hex.rn.isSl Z sD Aa ?_
  obtain⟨cs44,im,io⟩:=hex.rn.get (Aw dex) Ex.zero (k:=1) sD
  obtain⟨dd44,cy,m2,rfl,cz⟩:=RX.of im
  have ed:=cz.rn.lenle
  unfold maxLen at ed
  refine Jx.Y6 (p:=Ay ve 1 5) [zI<|(ex.kids.getD 1 Ex.zero).kind,zI<|(ex.kids.getD 1 Ex.zero).num,zI<|(ex.kids.getD 1 Ex.zero).pick,zI<|(ex.kids.getD 1 Ex.zero).count,cy] B6 Z (fun wj hj=>io wj<|Au.trans (ae.drew.sub<|AX hgS)<|Au.sub (show Au [g] w9.drew wj from hj)<|AX hgS) Z Aa<|Jx.VU vv Z Aa<|Jx.Az 274 [] [] [vv] Z Z Zl Aa (DJ vv) (fun wq=>E1 wq vv _ henv.slL hqenv)<|Jx.VU (zP g) Z Aa<|Jx.Ak (p:=zP w.heap.size) 4 B9 Z Z Aa ?_
  refine Jx.ZQ (p:=Ap (zP w.heap.size) 4) ve Bd Z (fun wj hj=>(BX.chg (w:=w9.drew) (F:=[g]) a9 hj (zB ·)).ldp (i:=4) sM) Aa<|Jx.AB (v:=ve) 0 D1 Bk Z Z hex.rn.isSl Z sD Aa ?_
  obtain⟨cs45,ip,iq⟩:=hex.rn.get (Aw dex) Ex.zero (k:=0) sD
  obtain⟨dd45,d0,m3,rfl,d1⟩:=RX.of ip
  have ee:=d1.rn.lenle
  unfold maxLen at ee
  refine Jx.Y6 (p:=Ay ve 0 5) [zI<|(ex.kids.getD 0 Ex.zero).kind,zI<|(ex.kids.getD 0 Ex.zero).num,zI<|(ex.kids.getD 0 Ex.zero).pick,zI<|(ex.kids.getD 0 Ex.zero).count,d0] B6 Z (fun wj hj=>iq wj<|Au.trans (ae.drew.sub<|AX hgS)<|Au.sub (show Au [g] w9.drew wj from hj)<|AX hgS) Z Aa<|Jx.VU vv Z Aa ?_
  refine Jx.As 241 [] [] [zP g,.agg #[zI<|(ex.kids.getD 0 Ex.zero).kind,zI<|(ex.kids.getD 0 Ex.zero).num,zI<|(ex.kids.getD 0 Ex.zero).pick,zI<|(ex.kids.getD 0 Ex.zero).count,d0],vv] Z Z Lj Aa (IH2 dd45 oM _ S g vp dp (o) (s0+1) (c0) (p) d0 (ex.kids.getD 0 Ex.zero) vv (env) (fun b hb=>(by have:=hS b hb;omega:b<w9.heap.size)) hgS c2 (hp.chg (An<|Av dp)<|ae.drew.sub<|AX hgS) oM oM oM ⟨d1.rng,d1.rn.chg (An<|Aw dd45)<|ae.drew.sub<|AX hgS⟩ (henv.chg g2<|ae.drew.sub<|AX hgS) hqenv hvp oM (by exact DG hwf oM oM) hse (zH<|Dh (l:=ex.kids) (k:=0) oM)) ?_
  rintro ni fe ⟨fu,mq,mr,ms,rfl,ap,ir,ef,eg,k7,k8,k9⟩
  refine⟨_,rfl,ap,?_⟩
  replace ap:=ap.of_drew
  have ka:=ap.size
  have is:Au [g] w fe:=ae.trans ap
  have it:=a9.chg ap (zB ·)
  have kb:=eg.1
  refine Jx.BI (u:=fu) (B:=fe.heap.size) By BH B8 Z Z (Oj fe.heap.size fe.heap.size _<|ef.one1 g1) (A7 _) Aa fun mt fv ay m4 iu=>?_
  have kc:=ay.size
  have eh:Au [g] w fv:=is.ext ay
  have br:=ir.ext ay
  have bs:=it.ext ay
  have ei:=ef.ext g1 ay
  refine Jx.VZ (v:=vv) (a:=mt) (u:=fu) BH B8 Z Z Z (henv.chg g2<|eh.sub<|AX hgS) iu ei (fun b hb=>(by have:=hS b hb;omega:b<fv.heap.size)) sD (by unfold maxLen;first|omega|assumption|(simp;done)|(simp;omega)) Aa fun fw fx az ej ek=>?_
  have kd:=az.size
  have d2:Au [g] w fx:=eh.ext az
  have bt:=br.ext az
  have bu:=bs.ext az
  have iv:=ei.ext g1 az
  refine Jx.As 241 [] [] [zP g,.agg #[zI<|(ex.kids.getD 1 Ex.zero).kind,zI<|(ex.kids.getD 1 Ex.zero).num,zI<|(ex.kids.getD 1 Ex.zero).pick,zI<|(ex.kids.getD 1 Ex.zero).count,cy],fw] Z Z Lj Aa (IH2 dd44 oM _ S g vp dp (o) (mr) (ms) (p) cy (ex.kids.getD 1 Ex.zero) fw (env++[mq]) (fun b hb=>(by have:=hS b hb;omega:b<fx.heap.size)) hgS bt (hp.chg (An<|Av dp)<|d2.sub<|AX hgS) oM oM oM ⟨cz.rng,cz.rn.chg (An<|Aw dd44)<|d2.sub<|AX hgS⟩ ej ek hvp oM (by have h9:=JA hwf oM oM;rw[z4,zd];exact h9) (by exact hse.snoc (by assumption)) (by have:=Dh (l:=ex.kids) (k:=1) oM;rw[z4,zd];omega)) ?_
  rintro nj mu ⟨fg,mv,mw,f8,rfl,aq,iw,ix,el,ke,kf,kg⟩
  refine⟨_,rfl,aq,?_⟩
  have kh:=aq.size
  have iy:Au [g] w mu:=d2.trans aq
  have m5:=bu.chg aq (zB ·)
  have m6:=iv.run g1 hgS aq
  have m7:=ej.run g2 hgS aq
  have ki:=el.1
  refine Jx.R7 fg Z Aa<|Jx.Aj<|A1<|AC<|Al ?_
  exact Af [6] Z fg Z ⟨fg,mv,mw,f8,rfl,iy,iw,ix,Dm,oM,oM,(by first|exact Dy oM|exact Cy oM oM|exact Ei hc00 hs1 oM|exact Ej hc00 hs1 oM|exact Ek hc00 hs1 oM oM ‹AH (go c0<|Cn _ _ (ex.kids.getD 0 _) _ _) _ _ _› oM (by assumption)|exact El hc00 hs1 oM oM ‹AH (go c0<|Cn _ _ (ex.kids.getD 0 _) _ _) _ _ _› oM (by assumption)|exact Em hc00 hs1 oM oM ‹AH (go c0<|Cn _ _ (ex.kids.getD 0 _) _ _) _ _ _› (by assumption)|exact D3 hc00 hs1 hkg.1 hkg.2.1 hkg.2.2.1 hkg.2.2.2 hKr oM|exact DU hc00 hs1 oM oM hKr oM (by assumption)|exact DV hc00 hs1 oM oM hKr oM (DW hrl9 oM oM)|exact Ba hc00 hs1 hkg.1 hkg.2.1 hkg.2.2.1 hkg.2.2.2 oM oM hKr oM (by rw[show f8=0 from by omega];exact FQ oM)|exact Ba hc00 hs1 hkg.1 hkg.2.1 hkg.2.2.1 hkg.2.2.2 oM oM hKr oM (by rw[show f8=0 from by omega];exact FR oM)|exact Ba hc00 hs1 hkg.1 hkg.2.1 hkg.2.2.1 hkg.2.2.2 oM oM hKr oM (by rw[show f8=0 from by omega];exact FS oM)|exact Ba hc00 hs1 hkg.1 hkg.2.1 hkg.2.2.1 hkg.2.2.2 oM oM hKr oM (by rw[show f8=0 from by omega];exact FT oM)|exact Ba hc00 hs1 hkg.1 hkg.2.1 hkg.2.2.1 hkg.2.2.2 oM oM hKr oM (by rw[show f8=0 from by omega];exact FU oM oM)|exact Ba hc00 hs1 hkg.1 hkg.2.1 hkg.2.2.1 hkg.2.2.2 oM oM hKr oM (En oM oM))⟩
 refine Am false Z Z (A6 ec) Aa<|Ac 1 Z<|Ah Z<|A2<|bZ [0,0,2,0,4,0] Z ?_
 have hkg:ex.kind≠1∧ex.kind≠2∧ex.kind≠8∧ex.kind≠9:=by omega
 have mi:=RJ hwf hvp hF
 refine Ad 1 Z<|Ak (p:=zP w.heap.size) 4 B9 Z Z Aa<|Ai (p:=Ap (zP w.heap.size) 4) (.inr Z) ve Bd Z (a9.ldp (i:=4) sM) Aa<|Ad 1 Z ?_
 refine AA 210 [] [] [zP g,ve,vv] Z Z T4 Aa (Tf F dex (fun d9 h9=>IH2 d9 oM) _ S g vp dp (o) (s0+1) (c0) (p) ve (ex.kids) vv (env) (fun b hb=>(by have:=hS b hb;omega:b<w9.heap.size)) hgS c2 (hp.chg (An<|Av dp)<|ae.sub<|AX hgS) oM oM oM (hex.rn.chg (An<|Aw dex)<|ae.sub<|AX hgS) (henv.chg g2<|ae.sub<|AX hgS) hqenv hvp oM (by intro k hk;exact DG hwf hk oM) hse (by intro k hk;have:=Dh (l:=ex.kids) (k:=k) hk;omega) oM) ?_
 rintro nk f1 ⟨f0,f2,f3,c66,rfl,bv,aa,a0,ak,kj,kk,em⟩
 refine⟨_,rfl,?_⟩
 have en:=bv.size
 have a2:Au [g] w f1:=ae.trans bv
 have a6:=a9.chg bv (zB ·)
 have kl:=ak.2.1
 have km:=ak.2.2
 have kn:=ak.1
 have hK:=ak.2.2
 have hKr:=em
 refine Ac 1 Z<|A0<|bZ [0,0,0,2,0] Z<|Ad 1 Z<|AY Z Aa<|Ak (p:=zP g) 3 GQ Z Z Aa<|Ai (p:=Ap (zP g) 3) (.inr Z) (zI c66) AD Z (aa.ldp (i:=3) sM) Aa ?_
 by_cases eo:c66≠((0:Nat):Int)
 ·refine AT true Z Z (A5 eo) Aa<|Aj<|Ag Z<|bZ [0,3,0] Z<|Ad 1 Z<|As 273 [] [] [zP g,zI ((0:Nat):Int)] Z Z Od Aa (BD _ S g vp dp (o) (f3) (c66) (p) _ (fun b hb=>(by have:=hS b hb;omega:b<f1.heap.size)) hgS aa (hp.chg (An<|Av dp)<|a2.sub<|AX hgS) oM oM oM oM) ?_
  rintro nl mx ⟨c4,rfl,ar,d3⟩
  refine⟨_,rfl,ar,?_⟩
  have ko:=ar.size
  have iz:Au [g] w mx:=a2.ext ar
  have bw:=aa.ext ar
  have i2:=a6.ext ar
  have m8:=a0.ext g2 ar
  refine Ac 1 Z<|A1<|Al ?_
  exact Af [6] Z c4 Z ⟨c4,cst (o+1) ((0:Nat):Int),f3,c66,rfl,iz,bw,RN.of_fr1 d3 fun b hb=>zH<|hS b hb,Dm,oM,oM,JO⟩
 refine AT false Z Z (A6 eo) Aa<|Aj<|Ah Z<|A2<|A0<|bZ [0,2] Z<|Ak (p:=zP w.heap.size) 0 Bf Z Z Aa<|Ai (p:=Ap (zP w.heap.size) 0) (.inr Z) (zI ex.kind) AD Z (a6.ldp (i:=0) sM) Aa<|Aj<|A3<|bZ [0,0] Z ?_
 by_cases ep:ex.kind=((10:Nat):Int)
 ·refine Am true Z Z (A5 ep) Aa<|Ac 1 Z<|Ag Z<|A0<|AO _ [0,0,0,0,0,1,0,1,0,0,1,0,1,0,1,0,4,0] mixed (by kernel_rfl) ?_
  have hwk:=HO hwf oM
  refine Ad 2 Z ?_
  have hvo:=hvp.outs (ex.num).toNat oM
  have hvd:=hvp.deep (ex.num).toNat oM (ex.pick).toNat oM
  refine AY Z Aa<|Ak (p:=zP g) 0 Qt Z Z Aa<|Ak (p:=Ap (zP g) 0) (b:=g) (o:=0) 0 Bv Z Z Aa<|Ai (p:=Ap (Ap (zP g) 0) 0) (.inl Z) vp BY Z (aa.ldp (i:=0) sM) Aa<|Ak (p:=zP w.heap.size) 1 BE Z Z Aa<|Ai (p:=Ap (zP w.heap.size) 1) (.inl Z) (zI ex.num) AD Z (a6.ldp (i:=1) sM) Aa ?_
  refine AB (v:=vp) ((ex.num).toNat) Gb Cj Z Z hp.isSl oM sD Aa ?_
  obtain⟨cs75,j0,eq⟩:=hp.get (Av dp) Fn.zero (k:=(ex.num).toNat) sD
  obtain⟨d4,rfl,d5⟩:=RF.of j0
  have er:=d5.rn.lenle
  unfold maxLen at er
  refine AJ (p:=Ay vp ((ex.num).toNat) 3) 2 BL Z (eq _<|a2.drew.sub<|AX hgS) Aa<|Ai (p:=Ap (Ay vp ((ex.num).toNat) 3) 2) (.inl Z) d4 Bd Z ((eq _<|a2.drew.sub<|AX hgS).ld (i:=2) (by simp[EX,EY])) Aa<|Ak (p:=zP w.heap.size) 2 Dc Z Z Aa<|Ai (p:=Ap (zP w.heap.size) 2) (.inl Z) (zI ex.pick) AD Z (a6.ldp (i:=2) sM) Aa ?_
  refine AB (v:=d4) ((ex.pick).toNat) D1 Bk Z Z d5.rn.isSl oM sD Aa ?_
  obtain⟨cs76,j1,j2⟩:=d5.rn.get (Aw dp) Ex.zero (k:=(ex.pick).toNat) sD
  obtain⟨dd76,d6,m9,rfl,d7⟩:=RX.of j1
  have es:=d7.rn.lenle
  unfold maxLen at es
  refine AK (p:=Ay d4 ((ex.pick).toNat) 5) (.inl Z) [zI<|(((p.getD ((ex.num).toNat) Fn.zero).outs).getD ((ex.pick).toNat) Ex.zero).kind,zI<|(((p.getD ((ex.num).toNat) Fn.zero).outs).getD ((ex.pick).toNat) Ex.zero).num,zI<|(((p.getD ((ex.num).toNat) Fn.zero).outs).getD ((ex.pick).toNat) Ex.zero).pick,zI<|(((p.getD ((ex.num).toNat) Fn.zero).outs).getD ((ex.pick).toNat) Ex.zero).count,d6] B6 Z (fun f4 cr=>j2 f4<|(a2.drew.sub<|AX hgS).ext cr) Z Aa<|Ad 1 Z ?_
  refine AA 241 [] [] [zP g,.agg #[zI<|(((p.getD ((ex.num).toNat) Fn.zero).outs).getD ((ex.pick).toNat) Ex.zero).kind,zI<|(((p.getD ((ex.num).toNat) Fn.zero).outs).getD ((ex.pick).toNat) Ex.zero).num,zI<|(((p.getD ((ex.num).toNat) Fn.zero).outs).getD ((ex.pick).toNat) Ex.zero).pick,zI<|(((p.getD ((ex.num).toNat) Fn.zero).outs).getD ((ex.pick).toNat) Ex.zero).count,d6],f0] Z Z Lj Aa (IH1 (ex.num).toNat oM dd76 _ S g vp dp (o) (f3) (c66) (p) d6 (((p.getD ((ex.num).toNat) Fn.zero).outs).getD ((ex.pick).toNat) Ex.zero) f0 (f2) (fun b hb=>(by have:=hS b hb;omega:b<f1.heap.size)) hgS aa (hp.chg (An<|Av dp)<|a2.drew.sub<|AX hgS) oM oM oM ⟨d7.rng,d7.rn.chg (An<|Aw dd76)<|a2.drew.sub<|AX hgS⟩ a0 ak.1 hvp oM (by have h9:=hvp.wf (ex.num).toNat oM (ex.pick).toNat oM;rw[show(f2.length:Int)=(p.getD (ex.num).toNat Fn.zero).params from by omega];exact h9) hK oM) ?_
  rintro nm my ⟨fy,mz,n0,f9,rfl,au,j3,j4,et,kp,kq,kr⟩
  refine⟨_,rfl,?_⟩
  replace au:=au.of_drew
  have kt:=au.size
  have j5:Au [g] w my:=a2.trans au
  have ma:=a6.chg au (zB ·)
  have mb:=a0.run g2 hgS au
  have ku:=et.1
  refine Ac 1 Z<|A1<|AC<|Al ?_
  exact Af [6] Z fy Z ⟨fy,mz,n0,f9,rfl,j5,j3,j4,Dm,oM,oM,(by first|exact Dy oM|exact Cy oM oM|exact Ei hc00 hs1 oM|exact Ej hc00 hs1 oM|exact Ek hc00 hs1 oM oM ‹AH (go c0<|Cn _ _ (ex.kids.getD 0 _) _ _) _ _ _› oM (by assumption)|exact El hc00 hs1 oM oM ‹AH (go c0<|Cn _ _ (ex.kids.getD 0 _) _ _) _ _ _› oM (by assumption)|exact Em hc00 hs1 oM oM ‹AH (go c0<|Cn _ _ (ex.kids.getD 0 _) _ _) _ _ _› (by assumption)|exact D3 hc00 hs1 hkg.1 hkg.2.1 hkg.2.2.1 hkg.2.2.2 hKr oM|exact DU hc00 hs1 oM oM hKr oM (by assumption)|exact DV hc00 hs1 oM oM hKr oM (DW hrl9 oM oM)|exact Ba hc00 hs1 hkg.1 hkg.2.1 hkg.2.2.1 hkg.2.2.2 oM oM hKr oM (by rw[show f9=0 from by omega];exact FQ oM)|exact Ba hc00 hs1 hkg.1 hkg.2.1 hkg.2.2.1 hkg.2.2.2 oM oM hKr oM (by rw[show f9=0 from by omega];exact FR oM)|exact Ba hc00 hs1 hkg.1 hkg.2.1 hkg.2.2.1 hkg.2.2.2 oM oM hKr oM (by rw[show f9=0 from by omega];exact FS oM)|exact Ba hc00 hs1 hkg.1 hkg.2.1 hkg.2.2.1 hkg.2.2.2 oM oM hKr oM (by rw[show f9=0 from by omega];exact FT oM)|exact Ba hc00 hs1 hkg.1 hkg.2.1 hkg.2.2.1 hkg.2.2.2 oM oM hKr oM (by rw[show f9=0 from by omega];exact FU oM oM)|exact Ba hc00 hs1 hkg.1 hkg.2.1 hkg.2.2.1 hkg.2.2.2 oM oM hKr oM (En oM oM))⟩
 refine Am false Z Z (A6 ep) Aa<|Ac 1 Z<|Ah Z<|bZ [0,0] Z ?_
 by_cases eu:ex.kind=((11:Nat):Int)
 ·refine Am true Z Z (A5 eu) Aa<|Ac 1 Z<|Ag Z<|A0<|bZ [0] Z ?_
  have hwk:=HO hwf oM
  have hwl:=ML hwf oM
  refine Ac 1 Z<|A3 ?_
  refine B1 (S:=Nat×Value×List (Sr)×Nat×Int) (fun⟨i,vk,ks,s9,c9⟩=>([(7,vk),(8,zI (i:Int)),(0,zP g),(4,zP w.heap.size)])) (fun⟨i,vk,ks,s9,c9⟩ W=>Au [g] w W∧BX W.heap g [vp,zI (o:Int),zI (s9:Int),zI c9]∧BX W.heap w.heap.size [zI ex.kind,zI ex.num,zI ex.pick,zI ex.count,ve]∧i≤(ex.count).toNat∧RN S (B3<|B3 rI) W.heap vk ks∧C5 vk∧ks.length=(p.getD (ex.num).toNat Fn.zero).outs.length∧BV (o+1) ks∧s9≤3000∧(0≤c9∧c9≤9)∧AH (HN (fun a t=>Df (o+1) (E8 p (o+1) (ex.num).toNat) (p.getD (ex.num).toNat Fn.zero).outs a t) i f2 f3) ks s9 c9) (fun⟨i,vk,ks,s9,c9⟩=>(ex.count).toNat-i) (0,f0,f2,f3,c66) ⟨rfl,rfl,rfl,rfl,trivial⟩ ⟨a2,aa,a6,oM,(by assumption),(by assumption),oM,(by assumption),oM,oM,(by exact⟨rfl,rfl,zO⟩)⟩ ?_
  clear jm lm gw i3 dn lu i0 ae i5 a9 bv en a2 a6
  rintro⟨i,vk,ks,s9,c9⟩ ρ86 ff ⟨al,a7,a8,j6,hrk,hck,hkl,hks,j7,j8,hrl9⟩
  have kv:w.heap.size≤ff.heap.size:=al.size
  have mc:=a7.lt
  have md:=a8.lt
  refine A0<|bZ [0,0,2,0,0,0,0,0,2,0,0] Z<|Ad 1 Z<|Ak (p:=zP w.heap.size) 3 Du Z Z Aa<|Ai (p:=Ap (zP w.heap.size) 3) (.inr Z) (zI ex.count) AD Z (a8.ldp (i:=3) sM) Aa ?_
  by_cases ev:(i:Int)<ex.count
  ·refine AG true Z Z (A5 ev) Aa<|Ad 2 Z<|AY Z (Ae (e:=132) Z Z Z)<|Ak (p:=zP g) 3 GQ Z Z (Ae (e:=132) Z Z Z)<|Ai (p:=Ap (zP g) 3) (.inr Z) (zI c9) AD Z (a7.ldp (i:=3) sM) (Ae (e:=132) Z Z Z) ?_
   by_cases ew:c9=((0:Nat):Int)
   ·refine Am true Z Z (A5 ew) (Ae (e:=132) Z Z Z)<|Ac 1 Z<|Ag Z<|A2<|A0<|A3<|AO _ [0,0,0,0,0,1,0,1,0,0,1,0,4,0] mixed (by kernel_rfl)<|Ad 2 Z ?_
    have hvo:=hvp.outs (ex.num).toNat oM
    refine AY Z Aa<|Ak (p:=zP g) 0 Qt Z Z Aa<|Ak (p:=Ap (zP g) 0) (b:=g) (o:=0) 0 Bv Z Z Aa<|Ai (p:=Ap (Ap (zP g) 0) 0) (.inl Z) vp BY Z (a7.ldp (i:=0) sM) Aa<|Ak (p:=zP w.heap.size) 1 BE Z Z Aa<|Ai (p:=Ap (zP w.heap.size) 1) (.inl Z) (zI ex.num) AD Z (a8.ldp (i:=1) sM) Aa ?_
    refine AB (v:=vp) ((ex.num).toNat) Gb Cj Z Z hp.isSl oM sD Aa ?_
    obtain⟨cs91,j9,ey⟩:=hp.get (Av dp) Fn.zero (k:=(ex.num).toNat) sD
    obtain⟨d8,rfl,ez⟩:=RF.of j9
    have g0:=ez.rn.lenle
    unfold maxLen at g0
    refine AJ (p:=Ay vp ((ex.num).toNat) 3) 2 BL Z (ey _<|al.drew.sub<|AX hgS) Aa<|Ai (p:=Ap (Ay vp ((ex.num).toNat) 3) 2) (.inl Z) d8 Bd Z ((ey _<|al.drew.sub<|AX hgS).ld (i:=2) (by simp[EX,EY])) Aa<|Ad 1 Z ?_
    refine AA 210 [] [] [zP g,d8,vk] Z Z T4 Aa (Tf (ex.num).toNat dp (fun d9 h9=>IH1 (ex.num).toNat oM d9) _ S g vp dp (o) (s9) (c9) (p) d8 ((p.getD ((ex.num).toNat) Fn.zero).outs) vk (ks) (fun b hb=>(by have:=hS b hb;omega:b<ff.heap.size)) hgS a7 (hp.chg (An<|Av dp)<|al.drew.sub<|AX hgS) oM oM oM (ez.rn.chg (An<|Aw dp)<|al.drew.sub<|AX hgS) hrk hck hvp oM (by intro k hk;have h9:=hvp.wf (ex.num).toNat oM k hk;rw[show(ks.length:Int)=(p.getD (ex.num).toNat Fn.zero).params from by omega];exact h9) hks (by intro k hk;have:=hvp.deep (ex.num).toNat oM k hk;omega) oM) ?_
    rintro nn n1 ⟨n2,n3,n4,n5,rfl,av,ja,me,b0,kw,kx,ky⟩
    refine⟨_,rfl,?_⟩
    replace av:=av.of_drew
    have kz:=av.size
    have jb:Au [g] w n1:=al.trans av
    have jc:=a8.chg av (zB ·)
    have mf:=hrk.run g2 hgS av
    have l0:=b0.2.1
    have l1:=b0.2.2
    have l2:=b0.1
    exact Ac 1 Z<|Ab _ [0,0,0] Z<|Ad 1 Z<|AP ((i+1:Nat):Int) Z Z (Bl oM oM) Aa<|Ac 1 Z ⟨(i+1,n2,n3,n4,n5),_,rfl,zR,⟨jb,ja,jc,oM,(by assumption),(by assumption),oM,(by assumption),oM,oM,(by exact TR hrl9 oM (by assumption))⟩,zD⟩
   refine Am false Z Z (A6 ew) (Ae (e:=132) Z Z Z)<|Ac 1 Z<|Ah Z<|A4<|Ax<|Ax<|At<|bZ [0,0,2,0,2,0] Z<|Ad 1 Z<|Ak (p:=zP w.heap.size) 2 Dc Z Z Aa<|Ai (p:=Ap (zP w.heap.size) 2) (.inr Z) (zI ex.pick) AD Z (a8.ldp (i:=2) sM) Aa ?_
   refine AB (v:=vk) ((ex.pick).toNat) BH B8 Z Z hrk.slL oM sD Aa ?_
   obtain⟨da,jd,g3⟩:=RN.getL (w:=ff) g1 [] (k:=(ex.pick).toNat) hrk sD
   have g4:=g3.lenL
   unfold maxLen at g4
   refine Ai (p:=Ay vk ((ex.pick).toNat) 1) (.inr Z) da Bj Z (jd _<|Au.refl _ _) Aa<|Ac 1 Z<|A1<|AC<|Al ?_
   exact Af [6] Z da Z ⟨da,ks.getD ((ex.pick).toNat) [],s9,c9,rfl,al,a7,g3,Dm,oM,oM,Tg⟩
  refine AG false Z Z (A6 ev) Aa<|Ac 7 Z<|Ah Z<|A4<|Ax<|Ax<|At<|bZ [0,0,2,0,2,0] Z<|Ad 1 Z<|Ak (p:=zP w.heap.size) 2 Dc Z Z Aa<|Ai (p:=Ap (zP w.heap.size) 2) (.inr Z) (zI ex.pick) AD Z (a8.ldp (i:=2) sM) Aa ?_
  refine AB (v:=vk) ((ex.pick).toNat) BH B8 Z Z hrk.slL oM sD Aa ?_
  obtain⟨b1,g5,c5⟩:=RN.getL (w:=ff) g1 [] (k:=(ex.pick).toNat) hrk sD
  have db:=c5.lenL
  unfold maxLen at db
  refine Ai (p:=Ay vk ((ex.pick).toNat) 1) (.inr Z) b1 Bj Z (g5 _<|Au.refl _ _) Aa<|Ac 1 Z<|A1<|AC<|Al ?_
  exact Af [6] Z b1 Z ⟨b1,ks.getD ((ex.pick).toNat) [],s9,c9,rfl,al,a7,c5,Dm,oM,oM,Tg⟩
 refine Am false Z Z (A6 eu) Aa<|Ac 1 Z<|Ah Z<|bZ [0,0] Z ?_
 by_cases c6:ex.kind=((3:Nat):Int)
 ·refine Am true Z Z (A5 c6) Aa<|Ac 1 Z<|Ag Z<|A0<|AO _ [0,0,1,0,0,1,3,0] mixed (by kernel_rfl) ?_
  have hwk:=JB hwf oM
  have hK0:=hK 0 oM
  have hK1:=hK 1 oM
  have hK1l:=hK1.1
  refine Ad 1 Z<|AB (v:=f0) 0 BH B8 Z Z a0.slL Z sD Aa ?_
  obtain⟨c7,g6,b2⟩:=RN.getL (w:=f1) g1 [] (k:=0) a0 sD
  have dc:=b2.lenL
  unfold maxLen at dc
  refine Ai (p:=Ay f0 0 1) (.inl Z) c7 Bj Z (g6 _ (Au.refl _ _).drew) Aa<|Ad 1 Z<|AB (v:=f0) 1 BH B8 Z Z a0.slL Z sD Aa ?_
  obtain⟨c8,g7,b3⟩:=RN.getL (w:=f1) g1 [] (k:=1) a0 sD
  have dd:=b3.lenL
  unfold maxLen at dd
  refine Ai (p:=Ay f0 1 1) (.inl Z) c8 Bj Z (g7 _ (Au.refl _ _).drew) Aa<|As 185 [] [] [c7,c8] Z Z Oc Aa (E0 _ _ _ _ _ (b2).rd (b3).rd Lq Na hK0.2 hK1.2) ?_
  rintro n6 fh ⟨b4,rfl,a3,ag⟩
  refine⟨_,rfl,a3,?_⟩
  replace a3:=a3.of_drew
  have je:=a3.size
  have g8:Au [g] w fh:=a2.ext a3
  have b5:=aa.ext a3
  have g9:=a6.ext a3
  have l3:=a0.ext g2 a3
  have l4:=b2.ext g1 a3
  have l5:=b3.ext g1 a3
  replace ag:=ag.low (B':=f1.heap.size)<|A7 _
  refine Ac 1 Z<|A1<|AC<|Al ?_
  exact Af [6] Z b4 Z ⟨b4,Ce (f2.getD 0 [])<|f2.getD 1 [],f3,c66,rfl,g8,b5,RN.of_fr1 ag fun b hb=>zH<|hS b hb,Dm,oM,oM,JO⟩
 refine Am false Z Z (A6 c6) Aa<|Ac 1 Z<|Ah Z<|bZ [0,0] Z ?_
 by_cases ca:ex.kind=((4:Nat):Int)
 ·refine Am true Z Z (A5 ca) Aa<|Ac 1 Z<|Ag Z<|A0<|AO _ [0,0,1,0,0,1,3,0] mixed (by kernel_rfl) ?_
  have hwk:=JB hwf oM
  have hK0:=hK 0 oM
  have hK1:=hK 1 oM
  have hK1l:=hK1.1
  refine Ad 1 Z<|AB (v:=f0) 0 BH B8 Z Z a0.slL Z sD Aa ?_
  obtain⟨cb,ga,b6⟩:=RN.getL (w:=f1) g1 [] (k:=0) a0 sD
  have de:=b6.lenL
  unfold maxLen at de
  refine Ai (p:=Ay f0 0 1) (.inl Z) cb Bj Z (ga _ (Au.refl _ _).drew) Aa<|Ad 1 Z<|AB (v:=f0) 1 BH B8 Z Z a0.slL Z sD Aa ?_
  obtain⟨cc,gb,b7⟩:=RN.getL (w:=f1) g1 [] (k:=1) a0 sD
  have df:=b7.lenL
  unfold maxLen at df
  refine Ai (p:=Ay f0 1 1) (.inl Z) cc Bj Z (gb _ (Au.refl _ _).drew) Aa<|As 178 [] [] [cb,cc] Z Z Vy Aa (Hz _ _ _ _ _ (b6).rd (b7).rd Lq (zH<|hK1.1) Na hK0.2 hK1.2) ?_
  rintro n7 fi ⟨b8,rfl,a4,ah⟩
  refine⟨_,rfl,a4,?_⟩
  replace a4:=a4.of_drew
  have jf:=a4.size
  have gc:Au [g] w fi:=a2.ext a4
  have b9:=aa.ext a4
  have gd:=a6.ext a4
  have l6:=a0.ext g2 a4
  have l7:=b6.ext g1 a4
  have l8:=b7.ext g1 a4
  replace ah:=ah.low (B':=f1.heap.size)<|A7 _
  refine Ac 1 Z<|A1<|AC<|Al ?_
  exact Af [6] Z b8 Z ⟨b8,EP (f2.getD 0 [])<|f2.getD 1 [],f3,c66,rfl,gc,b9,RN.of_fr1 ah fun b hb=>zH<|hS b hb,Dm,oM,oM,JO⟩
 refine Am false Z Z (A6 ca) Aa<|Ac 1 Z<|Ah Z<|bZ [0,0] Z ?_
 by_cases cd:ex.kind=((5:Nat):Int)
 ·refine Am true Z Z (A5 cd) Aa<|Ac 1 Z<|Ag Z<|A0<|AO _ [0,0,1,0,0,1,3,0] mixed (by kernel_rfl) ?_
  have hwk:=JB hwf oM
  have hK0:=hK 0 oM
  have hK1:=hK 1 oM
  have hK1l:=hK1.1
  refine Ad 1 Z<|AB (v:=f0) 0 BH B8 Z Z a0.slL Z sD Aa ?_
  obtain⟨ce,ge,ba⟩:=RN.getL (w:=f1) g1 [] (k:=0) a0 sD
  have dg:=ba.lenL
  unfold maxLen at dg
  refine Ai (p:=Ay f0 0 1) (.inl Z) ce Bj Z (ge _ (Au.refl _ _).drew) Aa<|Ad 1 Z<|AB (v:=f0) 1 BH B8 Z Z a0.slL Z sD Aa ?_
  obtain⟨cf,gf,bb⟩:=RN.getL (w:=f1) g1 [] (k:=1) a0 sD
  have dh:=bb.lenL
  unfold maxLen at dh
  refine Ai (p:=Ay f0 1 1) (.inl Z) cf Bj Z (gf _ (Au.refl _ _).drew) Aa<|As 179 [] [] [ce,cf] Z Z Ob Aa (Dl _ _ _ _ _ (ba).rd (bb).rd Lq Na hK0.2 hK1.2) ?_
  rintro n8 fj ⟨bc,rfl,a5,ai⟩
  refine⟨_,rfl,a5,?_⟩
  replace a5:=a5.of_drew
  have jg:=a5.size
  have gg:Au [g] w fj:=a2.ext a5
  have bd:=aa.ext a5
  have gh:=a6.ext a5
  have l9:=a0.ext g2 a5
  have la:=ba.ext g1 a5
  have lb:=bb.ext g1 a5
  replace ai:=ai.low (B':=f1.heap.size)<|A7 _
  refine Ac 1 Z<|A1<|AC<|Al ?_
  exact Af [6] Z bc Z ⟨bc,Cc (f2.getD 0 [])<|f2.getD 1 [],f3,c66,rfl,gg,bd,RN.of_fr1 ai fun b hb=>zH<|hS b hb,Dm,oM,oM,JO⟩
 refine Am false Z Z (A6 cd) Aa<|Ac 1 Z<|Ah Z<|bZ [0,0] Z ?_
 by_cases cg:ex.kind=((7:Nat):Int)
 ·refine Am true Z Z (A5 cg) Aa<|Ac 1 Z<|Ag Z<|bZ [0,0,2,3,0] Z ?_
  have hwk:=OG hwf oM
  have hK0:=hK 0 oM
  refine Ad 1 Z<|AB (v:=f0) 0 BH B8 Z Z a0.slL Z sD Aa ?_
  obtain⟨ch,gi,be⟩:=RN.getL (w:=f1) g1 [] (k:=0) a0 sD
  have di:=be.lenL
  unfold maxLen at di
  refine Ai (p:=Ay f0 0 1) (.inr Z) ch Bj Z (gi _<|Au.refl _ _) Aa<|As 187 [] [] [ch,zI ((1000002:Nat):Int)] Z Z Mw Aa (D4 _ _ _ _ (be).rd oM Lq hK0.2 oM) ?_
  rintro n9 fk ⟨bf,rfl,ac,bx⟩
  refine⟨_,rfl,ac,?_⟩
  have jh:=ac.size
  have gj:Au [g] w fk:=a2.ext ac
  have bg:=aa.ext ac
  have gk:=a6.ext ac
  have lc:=a0.ext g2 ac
  have le:=be.ext g1 ac
  refine Ac 1 Z<|A1<|AC<|Al ?_
  exact Af [6] Z bf Z ⟨bf,Ct (f2.getD 0 []) ((1000002:Nat):Int),f3,c66,rfl,gj,bg,RN.of_fr1 bx fun b hb=>zH<|hS b hb,Dm,oM,oM,JO⟩
 refine Am false Z Z (A6 cg) Aa<|Ac 1 Z<|Ah Z<|A2<|A0<|bZ [0,0,2,0,2,0] Z ?_
 have ji:=Xd hwf ⟨hkg,zO⟩
 have hwk:=JB hwf<|.inr<|.inr<|.inr ji
 have hK0:=hK 0 oM
 have hK1:=hK 1 oM
 have hK1l:=hK1.1
 refine Ad 1 Z<|AB (v:=f0) 1 BH B8 Z Z a0.slL Z sD Aa ?_
 obtain⟨bh,gl,am⟩:=RN.getL (w:=f1) g1 [] (k:=1) a0 sD
 have dj:=am.lenL
 unfold maxLen at dj
 refine Ai (p:=Ay f0 1 1) (.inr Z) bh Bj Z (gl _<|Au.refl _ _) Aa<|AB (v:=bh) 0 Bt BT Z Z am.slL Z sD Aa ?_
 have gm:=RN.getI (w:=f1) (k:=0) am sD
 refine Ai (p:=Ay bh 0 1) (.inr Z) (zI<|(f2.getD 1 []).getD 0 0) AD Z (gm.1 _<|Au.refl _ _) Aa ?_
 by_cases ci:(f2.getD 1 []).getD 0 0=((0:Nat):Int)
 ·refine Am true Z Z (A5 ci) Aa<|Aj<|Ag Z<|bZ [0,0,0,4] Z<|Ad 1 Z<|AY Z Aa<|Ak (p:=zP g) 3 GQ Z Z Aa (Be (k:=3) (w:=f1) Hv Z Z ⟨rfl,rfl⟩ aa sM Aa fun f5 an lf ao=>?_)
  replace ao:BX f5.heap g [vp,zI (o:Int),zI (f3:Int),zI ((6:Nat):Int)]:=ao
  have cj:Au [g] w f5:=a2.trans an
  have jj:=an.size
  have gn:=a6.chg an (zB ·)
  have gp:=a0.run g2 hgS an
  have gq:=am.run g1 hgS an
  refine Aj<|bZ [0,3,0] Z<|Ad 1 Z<|As 273 [] [] [zP g,zI ((0:Nat):Int)] Z Z Od Aa (BD _ S g vp dp (o) (f3) ((6:Nat):Int) (p) _ (fun b hb=>(by have:=hS b hb;omega:b<f5.heap.size)) hgS ao (hp.chg (An<|Av dp)<|cj.sub<|AX hgS) oM oM oM oM) ?_
  rintro na fl ⟨bi,rfl,ad,bz⟩
  refine⟨_,rfl,ad,?_⟩
  have jk:=ad.size
  have gr:Au [g] w fl:=cj.ext ad
  have aw:=ao.ext ad
  have dm:=gn.ext ad
  have lg:=gp.ext g2 ad
  have lh:=gq.ext g1 ad
  refine Ac 1 Z<|A1<|Al ?_
  exact Af [6] Z bi Z ⟨bi,cst (o+1) ((0:Nat):Int),f3,((6:Nat):Int),rfl,gr,aw,RN.of_fr1 bz fun b hb=>zH<|hS b hb,Dm,oM,oM,(by first|exact Dy oM|exact Cy oM oM|exact Ei hc00 hs1 oM|exact Ej hc00 hs1 oM|exact Ek hc00 hs1 oM oM ‹AH (go c0<|Cn _ _ (ex.kids.getD 0 _) _ _) _ _ _› oM (by assumption)|exact El hc00 hs1 oM oM ‹AH (go c0<|Cn _ _ (ex.kids.getD 0 _) _ _) _ _ _› oM (by assumption)|exact Em hc00 hs1 oM oM ‹AH (go c0<|Cn _ _ (ex.kids.getD 0 _) _ _) _ _ _› (by assumption)|exact D3 hc00 hs1 hkg.1 hkg.2.1 hkg.2.2.1 hkg.2.2.2 hKr oM|exact DU hc00 hs1 oM oM hKr oM (by assumption)|exact DV hc00 hs1 oM oM hKr oM (DW hrl9 oM oM)|exact Ba hc00 hs1 hkg.1 hkg.2.1 hkg.2.2.1 hkg.2.2.2 oM oM hKr oM (by rw[show((6:Nat):Int)=0 from by omega];exact FQ oM)|exact Ba hc00 hs1 hkg.1 hkg.2.1 hkg.2.2.1 hkg.2.2.2 oM oM hKr oM (by rw[show((6:Nat):Int)=0 from by omega];exact FR oM)|exact Ba hc00 hs1 hkg.1 hkg.2.1 hkg.2.2.1 hkg.2.2.2 oM oM hKr oM (by rw[show((6:Nat):Int)=0 from by omega];exact FS oM)|exact Ba hc00 hs1 hkg.1 hkg.2.1 hkg.2.2.1 hkg.2.2.2 oM oM hKr oM (by rw[show((6:Nat):Int)=0 from by omega];exact FT oM)|exact Ba hc00 hs1 hkg.1 hkg.2.1 hkg.2.2.1 hkg.2.2.2 oM oM hKr oM (by rw[show((6:Nat):Int)=0 from by omega];exact FU oM oM)|exact Ba hc00 hs1 hkg.1 hkg.2.1 hkg.2.2.1 hkg.2.2.2 oM oM hKr oM (En oM oM))⟩
 refine Am false Z Z (A6 ci) Aa<|Aj<|Ah Z<|A2<|A0<|AO _ [0,0,1,0,0,1,3,0] mixed (by kernel_rfl)<|Ad 1 Z<|AB (v:=f0) 0 BH B8 Z Z a0.slL Z sD Aa ?_
 obtain⟨ck,gs,bj⟩:=RN.getL (w:=f1) g1 [] (k:=0) a0 sD
 have dk:=bj.lenL
 unfold maxLen at dk
 refine Ai (p:=Ay f0 0 1) (.inl Z) ck Bj Z (gs _ (Au.refl _ _).drew) Aa<|Ad 1 Z<|AB (v:=f0) 1 BH B8 Z Z a0.slL Z sD Aa ?_
 obtain⟨cl,gt,bk⟩:=RN.getL (w:=f1) g1 [] (k:=1) a0 sD
 have dl:=bk.lenL
 unfold maxLen at dl
 refine Ai (p:=Ay f0 1 1) (.inl Z) cl Bj Z (gt _ (Au.refl _ _).drew) Aa<|As 177 [] [] [ck,cl] Z Z SZ Aa (EH _ _ _ _ _ (bj).rd (bk).rd Lq Na (zH<|hK1.1) hK0.2 hK1.2) ?_
 rintro nb fm ⟨bl,rfl,a1,aj⟩
 refine⟨_,rfl,a1,?_⟩
 replace a1:=a1.of_drew
 have jl:=a1.size
 have gu:Au [g] w fm:=a2.ext a1
 have bm:=aa.ext a1
 have gv:=a6.ext a1
 have li:=a0.ext g2 a1
 have lj:=am.ext g1 a1
 have lk:=bj.ext g1 a1
 have ll:=bk.ext g1 a1
 replace aj:=aj.low (B':=f1.heap.size)<|A7 _
 refine Ac 1 Z<|A1 ?_
 exact Af [6] Z bl Z ⟨bl,BM (f2.getD 0 [])<|f2.getD 1 [],f3,c66,rfl,gu,bm,RN.of_fr1 aj fun b hb=>zH<|hS b hb,Dm,oM,oM,JO⟩
theorem UH:∀F d,PV F d:=by
 intro F
 induction F using Nat.strongRecOn with
 |_ F ihF =>
  intro d
  induction d using Nat.strongRecOn with
  |_ d ihd =>
   intro w S g vp dp o s0 c0 p ve ex vv env hS hgS a0 hp ho a1 a2 hex henv hqenv hvp hF hwf hse hdp
   exact Gr w S F g vp dp o s0 c0 p d ve ex vv env hS hgS a0 hp ho a1 a2 hex henv hqenv hvp hF hwf hse hdp ihF ihd
theorem XT (F d:Nat):PA F d:=Tf F d fun d' _=>UH F d'
theorem G3 (w:World)(dp:Nat)(vp:Value)(p:List Fn)(f:Int)(va:Value)(a:List (Sr))(o:Nat)(hp:RP [] dp w.heap vp p)(_hf:Bx f)(ha:RN [] (B3 (B3 rI)) w.heap va a)(hqa:C5 va)(hvp:H6 p)(hf:0≤f∧f<(p.length:Int))(hl:(a.length:Int)=(p.getD f.toNat Fn.zero).params)(hse:BV (o+1) a)(ho:o≤12) :
  Calls Tryz.prog 142 #[(.agg #[vp]),zI f,va,zI (o:Int)] w (fun e w'=>∃v0:Value,e=.returned (.tuple #[v0,zI ((Ok p (o+1) f.toNat a:Nat):Int),zI (Kb p (o+1) f.toNat a)])∧AF w w'∧Fr (Bh (Bh rI 2) 27) w.heap.size w'.heap.size w'.heap v0 (OH p (o+1) f.toNat a)∧UT p (o+1) f.toNat a):=by
 refine Aq [.agg #[vp],zI f,va,zI (o:Int)] 56 Tryz.func142 Z Z sM ?_
 have bq:AF w w:=AF.refl w
 have ch:=hp.lenle
 unfold maxLen at ch
 have ci:=ha.lenL
 unfold maxLen at ci
 refine bZ [3,0,0,0] Z (Bu (cs:=#[vp]) Z Aa fun w1 b2 c4 ak=>?_)
 have b3:=b2.size
 have br:=bq.trans b2
 replace ak:BX w1.heap w.heap.size [vp]:=ak
 refine Ac 3 Z<|bZ [2,0,0,3,0] Z<|AK (p:=zP w.heap.size) (.inr Z) [vp] BZ Z (fun cq c5=>LD.of_box<|BX.ext (w:=w1) ak c5) Z Aa<|Ad 1 Z ?_
 have b4:∀(vp:Value) (cj:Nat) (h2_0:EA vp cj) (wq:World),(Instr.build 225 #[(0,.agg #[vp]),(1,zI (o:Int))]).run Tryz.prog wq=.ok (.agg #[vp,zI (o:Int),zI 0,zI 0]) wq:=by intro vp cj h2_0 wq;obtain⟨a2_0,cl,rfl,_⟩:=h2_0;kernel_rfl
 refine C3 (ps:=#[(0,.agg #[vp]),(1,zI (o:Int))]) (.agg #[vp,zI (o:Int),zI 0,zI 0]) (by simp only[zc,zf,zh];rfl) (fun wq=>b4 vp _ hp.isSl wq) Aa ?_
 have cg:=ak.lt
 refine Bu (cs:=#[vp,zI (o:Int),zI 0,zI 0]) Z Aa fun w3 az c7 b5=>?_
 have b6:=az.size
 have ac:=br.trans az
 have ad:=ak.ext az
 replace b5:BX w3.heap w1.heap.size [vp,zI (o:Int),zI 0,zI 0]:=b5
 refine Ac 1 Z<|bZ [0,0,2,0,0,0,2,0,4,0] Z ?_
 have cr:=hvp.par f.toNat oM
 have ct:=hvp.outs f.toNat oM
 refine Ad 1 Z<|Ak (p:=zP w.heap.size) 0 Bv Z Z Aa<|Ai (p:=Ap (zP w.heap.size) 0) (.inr Z) vp BY Z (ad.ldp (i:=0) sM) Aa<|Ad 1 Z<|AB (v:=vp) ((f).toNat) Gb Cj Z Z hp.isSl oM sD Aa ?_
 obtain⟨cs5,c8,bs⟩:=hp.get (Av dp) Fn.zero (k:=(f).toNat) sD
 obtain⟨b7,rfl,bt⟩:=RF.of c8
 have al:=bt.rn.lenle
 unfold maxLen at al
 refine AJ (p:=Ay vp ((f).toNat) 3) 2 BL Z (bs _<|Au.of_ext [] ac) Aa<|Ai (p:=Ap (Ay vp ((f).toNat) 3) 2) (.inr Z) b7 Bd Z ((bs _<|Au.of_ext [] ac).ld (i:=2) (by simp[EX,EY])) Aa<|Ad 1 Z ?_
 refine AA 210 [] [] [zP w1.heap.size,b7,va] Z Z T4 Aa (XT (f.toNat) dp _ [w1.heap.size] w1.heap.size vp dp (o) (0) (0) (p) b7 ((p.getD ((f).toNat) Fn.zero).outs) va (a) (fun b hb=>(by have:=A9 hb;omega:b<w3.heap.size)) (List.mem_singleton.2 Z) b5 ((hp.add (F:=[w1.heap.size]) (An<|Av dp) fun b hb=>zH<|A9 hb).ext (An<|Av dp) ac) oM oM oM ((bt.rn.add (F:=[w1.heap.size]) (An<|Aw dp) fun b hb=>zH<|A9 hb).ext (An<|Aw dp) ac) ((ha.add (F:=[w1.heap.size]) g2 fun b hb=>zH<|A9 hb).ext g2 ac) hqa hvp oM (by intro k hk;have h9:=hvp.wf f.toNat oM k hk;rw[hl];exact h9) hse (by intro k hk;have:=hvp.deep f.toNat oM k hk;omega) oM) ?_
 rintro e6 w6 ⟨v6,x6,s6,c6,rfl,b0,b8,c9,ae,b9,ba,bb⟩
 refine⟨_,rfl,?_⟩
 have ca:=b0.size
 have b1:AF w w6:=b0.below ac (fun b hb=>by have:b=w1.heap.size:=(by simpa using hb);omega) ac.size
 have bu:=ad.chg b0 (zB ·)
 have am:=ae.2.1
 have an:=ae.2.2
 have cb:=ae.1
 have bc:=c9.rt g2
 have hRL:=bb
 have hCB:=ba
 have hEP:=UT.mk' hRL hCB b9 am an
 have hXS:=an
 have hXL:=am
 refine Ac 1 Z<|A0<|bZ [0,0,0,2,0] Z<|Ad 1 Z<|AY Z Aa<|Ak (p:=zP w1.heap.size) 3 GQ Z Z Aa<|Ai (p:=Ap (zP w1.heap.size) 3) (.inr Z) (zI c6) AD Z (b8.ldp (i:=3) sM) Aa ?_
 by_cases ao:c6≠((0:Nat):Int)
 ·exact AT true Z Z (A5 ao) Aa<|Aj<|Ag Z<|A0<|AO _ [0,0,0,1,0,0,0] mixed (by kernel_rfl)<|Ad 1 Z<|AY Z Aa<|Ak (p:=zP w1.heap.size) 3 GQ Z Z Aa<|Ai (p:=Ap (zP w1.heap.size) 3) (.inl Z) (zI c6) AD Z (b8.ldp (i:=3) sM) Aa<|Ac 3 Z<|A1<|Al<|Af [8,9,10] Z (.tuple #[zN,zI ((0:Nat):Int),zI c6]) Z ⟨zN,(by rw[PI<|Iu hRL oM,Hq<|Iu hRL oM] <;> rfl),b1.drew,(by rw[NG<|Iu hRL oM];exact Hh _ _ _),hEP⟩
 refine AT false Z Z (A6 ao) Aa<|Aj<|Ah Z<|A2<|bZ [3,0] Z (CQ (Bh rI 2) o1 BH B8 Aa fun cm cu a2 bd ap=>?_)
 have aq:=a2.size
 have ar:=b1.trans a2
 have af:=bu.ext a2
 have ag:=b8.ext a2
 have be:=bc.ext g2 a2
 refine Ac 1 Z<|A0<|bZ [0,0,0] Z<|Ad 1 Z<|AQ (v:=v6) BH Z be.slL Aa<|Ac 1 Z<|A3 ?_
 refine B1 (S:=Nat×Value) (fun⟨k,vo⟩=>([(13,vo),(41,zI (k:Int)),(11,zP w1.heap.size),(39,v6),(40,zI (x6.length:Int))])) (fun⟨k,vo⟩ W=>AF w W∧Fr (Bh (Bh rI 2) 27) w6.heap.size W.heap.size W.heap vo ((x6).take k)∧BX W.heap w1.heap.size [vp,zI (o:Int),zI (s6:Int),zI c6]∧k≤(x6).length∧RT w6.heap.size (B3<|B3 rI) W.heap v6 x6∧w6.heap.size≤W.heap.size∧w1.heap.size<w6.heap.size∧w6.heap.size≤w6.heap.size∧w6.heap.size≤W.heap.size) (fun⟨k,vo⟩=>(x6).length-k) (0,cm) ⟨rfl,rfl,rfl,rfl,rfl,trivial⟩ ⟨ar,ap.up o2,ag,sD,(by assumption),oM,oM,oM,oM⟩ ?_
 clear bq c4 b2 b3 br c7 az b6 ac al b0 bu ap bd a2 aq ar af
 rintro⟨k,vo⟩ ρ18 ck ⟨ah,a8,a0,bf,a9,bv,bw,bx,bz⟩
 have c0:w.heap.size≤ck.heap.size:=ah.size
 have cc:=a0.lt
 refine bZ [0] Z ?_
 by_cases au:(k:Int)<(x6.length:Int)
 ·refine AG true Z Z (A5 au) Aa<|Aj<|A0<|Ag Z<|A2<|A0<|A3<|bZ [0,2,0] Z ?_
  have hkx:=hXS k oM
  have hkl:=hkx.1
  refine AB (v:=v6) k BH B8 Z Z a9.slL Z sD Aa ?_
  obtain⟨av,bg,ai⟩:=RT.getL g1 [] (k:=k) a9 sD
  have aw:=ai.lenL
  unfold maxLen at aw
  refine Ai (p:=Ay v6 k 1) (.inr Z) av Bj Z bg Aa<|Ac 1 Z<|Ab _ [0,0,3,3,4,0] Z<|Ad 2 Z<|As 130 [] [] [av] Z Z Qm Aa (BG _ _ _ ai.rd oM) ?_
  rintro cw cx ⟨ax,rfl,a1,aj⟩
  refine⟨_,rfl,a1,?_⟩
  have c1:=a1.size
  have bh:=ah.trans a1
  have a3:=a8.ext (o2) a1
  have a4:=a0.ext a1
  have bi:=a9.ext g2 a1
  have bj:=ai.ext g1 a1
  refine BI (u:=ax) (B:=ck.heap.size) o1 BH B8 Z Z aj (by first|exact A7 _|omega) Aa fun cn cy a5 cd bk=>?_
  have c2:=a5.size
  have ay:=bh.trans a5
  have a6:=a3.ext (o2) a5
  have a7:=a4.ext a5
  have bl:=bi.ext g2 a5
  have bm:=bj.ext g1 a5
  refine Il o1 (v:=vo) (a:=cn) BH B8 Z Z Z a6 oM bk oM oM sD (by unfold maxLen;first|omega|assumption|(simp;done)|(simp;omega)) Aa fun co cp cz aa ab bn=>?_
  have bo:AF w cp:=aa.below ay (fun c hc=>A8 b1.size (ab c hc).1) ay.size
  have c3:=aa.size
  have ce:=bl.chg g2 aa fun c hc=>zH<|ab c hc
  have cf:=bm.chg g1 aa fun c hc=>zH<|ab c hc
  have bp:=a7.chg aa fun hm=>zH<|ab _ hm
  refine Ac 1 Z<|Ab _ [0,0] Z<|AP ((k+1:Nat):Int) Z Z (Bl oM sD) Aa<|Ac 1 Z ?_
  exact⟨(k+1,co),_,rfl,zR,⟨bo,(by rw[Dq [] oM];exact bn.up o2),bp,sD,(by assumption),oM,oM,oM,oM⟩,zD⟩
 refine AG false Z Z (A6 au) Aa<|Aj<|A0<|Ah Z<|A4<|Ax<|Ax<|At<|A0<|AO _ [0,0,0,0,1,0,0,0] mixed (by kernel_rfl)<|Ad 2 Z<|AY Z Aa<|Ak (p:=zP w1.heap.size) 2 KG Z Z Aa<|Ai (p:=Ap (zP w1.heap.size) 2) (.inl Z) (zI (s6:Int)) AD Z (a0.ldp (i:=2) sM) Aa<|Ac 3 Z<|A1 ?_
 exact Af [8,9,10] Z (.tuple #[vo,zI (s6:Int),zI ((0:Nat):Int)]) Z ⟨vo,(by rw[PH<|KR hRL oM,KS<|KR hRL oM] <;> rfl),ah.drew,(by have h:=(a8.up o2).low b1.size;rw[Jb<|KR hRL oM];rwa [za oM]at h),hEP⟩
theorem H1 (w:World)(dex:Nat)(ve:Value)(ex:Ex)(hex:RX [] dex w.heap ve ex)(hs:ex.size≤1000000000) :
  Calls Tryz.prog 206 #[(.agg #[(zI ex.kind),(zI ex.num),(zI ex.pick),(zI ex.count),ve])] w (fun e w'=>e=.returned (zI (ex.size:Int))∧AF w w'):=by
 induction dex using Nat.strongRecOn generalizing w ve ex
 rename_i dex ih
 refine Aq [.agg #[zI ex.kind,zI ex.num,zI ex.pick,zI ex.count,ve]] 19 Tryz.func206 Z Z sM ?_
 have ab:AF w w:=AF.refl w
 have aw:=hex.rn.lenle
 unfold maxLen at aw
 have hsk:=Cw ex
 refine bZ [3,0] Z (Bu (cs:=#[zI ex.kind,zI ex.num,zI ex.pick,zI ex.count,ve]) Z Aa fun w1 a2 aj a3=>?_)
 have a4:=a2.size
 have ac:=ab.trans a2
 replace a3:BX w1.heap w.heap.size [zI ex.kind,zI ex.num,zI ex.pick,zI ex.count,ve]:=a3
 refine Ac 1 Z<|cA Z<|A0<|bZ [0,2,0,0] Z<|Ak (p:=zP w.heap.size) 4 B9 Z Z Aa<|Ai (p:=Ap (zP w.heap.size) 4) (.inr Z) ve Bd Z (a3.ldp (i:=4) sM) Aa<|AQ (v:=ve) D1 Z hex.rn.isSl Aa<|Ac 1 Z<|A3 ?_
 refine B1 (S:=Nat×Nat) (fun⟨k,sz⟩=>([(3,zI (sz:Int)),(9,zI (k:Int)),(7,ve),(8,zI (ex.kids.length:Int))])) (fun⟨k,sz⟩ W=>AF w W∧k≤ex.kids.length∧sz=1+Ex.sizes (ex.kids.take k)) (fun⟨k,sz⟩=>ex.kids.length-k) (0,1) ⟨rfl,rfl,rfl,rfl,trivial⟩ ⟨ac,sD,(by rw[List.take_zero,M8])⟩ ?_
 clear ab aj a2 a4 ac
 rintro⟨k,sz⟩ ρ2 w2 ⟨a1,ad,hsz⟩
 have ak:w.heap.size≤w2.heap.size:=a1.size
 refine bZ [0] Z ?_
 by_cases ae:(k:Int)<(ex.kids.length:Int)
 ·refine AG true Z Z (A5 ae) Aa<|Aj<|A0<|Ag Z<|A2<|A0<|A3<|bZ [0,2,3,4] Z ?_
  have hst:=DE (l:=ex.kids) (k:=k) oM
  have hle:=Dg ex.kids (k+1)
  have hdt:=GD (l:=ex.kids) (k:=k) oM
  have hda:=Ea<|ex.kids.getD k Ex.zero
  refine AB (v:=ve) k D1 Bk Z Z hex.rn.isSl Z sD Aa ?_
  obtain⟨cs4,al,am⟩:=hex.rn.get (Aw dex) Ex.zero (k:=k) sD
  obtain⟨dd4,a0,ar,rfl,a5⟩:=RX.of al
  have a6:=a5.rn.lenle
  unfold maxLen at a6
  refine AK (p:=Ay ve k 5) (.inr Z) [zI<|(ex.kids.getD k Ex.zero).kind,zI<|(ex.kids.getD k Ex.zero).num,zI<|(ex.kids.getD k Ex.zero).pick,zI<|(ex.kids.getD k Ex.zero).count,a0] B6 Z (fun ax a7=>am ax<|Au.of_ext []<|a1.trans a7) Z Aa (Bo (z:=.agg #[zI 0,zI 0,zI 0,zI 0,zN]) Hw Aa fun w5 af au a8=>?_)
  have an:=af.size
  have ag:=a1.trans af
  replace a8:BX w5.heap w2.heap.size [zI 0,zI 0,zI 0,zI 0,zN]:=a8
  refine Bz (vs:=[zI<|(ex.kids.getD k Ex.zero).kind,zI<|(ex.kids.getD k Ex.zero).num,zI<|(ex.kids.getD k Ex.zero).pick,zI<|(ex.kids.getD k Ex.zero).count,a0]) B6 Z Z a5.ones a8 Z Z Aa fun w6 ah av a9=>?_
  replace a9:BX w6.heap w2.heap.size [zI ((ex.kids.getD k Ex.zero).kind),zI ((ex.kids.getD k Ex.zero).num),zI ((ex.kids.getD k Ex.zero).pick),zI ((ex.kids.getD k Ex.zero).count),a0]:=a9
  have ai:AF w w6:=ah.below ag (fun _ h=>zE h) ag.size
  have ao:=ah.size
  refine Aj<|Ab _ [0,2,3,0,0] Z<|Ad 1 Z<|AK (p:=zP w2.heap.size) (.inr Z) [zI<|(ex.kids.getD k Ex.zero).kind,zI<|(ex.kids.getD k Ex.zero).num,zI<|(ex.kids.getD k Ex.zero).pick,zI<|(ex.kids.getD k Ex.zero).count,a0] B6 Z (fun ax a7=>LD.of_box<|BX.ext (w:=w6) a9 a7) Z Aa<|As 206 [] [] [.agg #[zI<|(ex.kids.getD k Ex.zero).kind,zI<|(ex.kids.getD k Ex.zero).num,zI<|(ex.kids.getD k Ex.zero).pick,zI<|(ex.kids.getD k Ex.zero).count,a0]] Z Z T3 Aa (ih dd4 oM _ a0 (ex.kids.getD k Ex.zero) (a5.ext ai) oM) ?_
  rintro e7 w7 ⟨rfl,aa⟩
  refine⟨_,rfl,aa,?_⟩
  have ap:=aa.size
  have aq:=ai.trans aa
  refine AP ((sz+(ex.kids.getD k Ex.zero).size:Nat):Int) Z Z (Bl oM oM) Aa<|Ac 1 Z<|Ab _ [0,0] Z<|AP ((k+1:Nat):Int) Z Z (Bl oM sD) Aa<|Ac 1 Z ?_
  exact⟨(k+1,sz+(ex.kids.getD k Ex.zero).size),_,rfl,zR,⟨aq,sD,oM⟩,zD⟩
 exact AG false Z Z (A6 ae) Aa<|Aj<|A0<|Ah Z<|A4<|Ax<|Ax<|At<|bZ [0,0] Z<|Ac 2 Z<|A1<|Af [2] Z (zI (sz:Int)) Z ⟨B4 (by rw[hsz,Ma oM,hsk]),a1⟩
theorem JP (w:World)(dex:Nat)(ve:Value)(ex:Ex)(hex:RX [] dex w.heap ve ex)(hs:ex.size≤1000000000) :
  Calls Tryz.prog 236 #[(.agg #[(zI ex.kind),(zI ex.num),(zI ex.pick),(zI ex.count),ve])] w (fun e w'=>e=.returned (zI (ex.deep:Int))∧AF w w'):=by
 induction dex using Nat.strongRecOn generalizing w ve ex
 rename_i dex ih
 refine Aq [.agg #[zI ex.kind,zI ex.num,zI ex.pick,zI ex.count,ve]] 20 Tryz.func236 Z Z sM ?_
 have ab:AF w w:=AF.refl w
 have aw:=hex.rn.lenle
 unfold maxLen at aw
 have hsk:=Cw ex
 have hdk:=DI ex
 refine bZ [3,0] Z (Bu (cs:=#[zI ex.kind,zI ex.num,zI ex.pick,zI ex.count,ve]) Z Aa fun w1 a2 aj a3=>?_)
 have a4:=a2.size
 have ac:=ab.trans a2
 replace a3:BX w1.heap w.heap.size [zI ex.kind,zI ex.num,zI ex.pick,zI ex.count,ve]:=a3
 refine Ac 1 Z<|cA Z<|A0<|bZ [0,2,0,0] Z<|Ak (p:=zP w.heap.size) 4 B9 Z Z Aa<|Ai (p:=Ap (zP w.heap.size) 4) (.inr Z) ve Bd Z (a3.ldp (i:=4) sM) Aa<|AQ (v:=ve) D1 Z hex.rn.isSl Aa<|Ac 1 Z<|A3 ?_
 refine B1 (S:=Nat×Nat) (fun⟨k,sz⟩=>([(3,zI (sz:Int)),(9,zI (k:Int)),(7,ve),(8,zI (ex.kids.length:Int))])) (fun⟨k,sz⟩ W=>AF w W∧k≤ex.kids.length∧sz=Ex.deeps (ex.kids.take k)) (fun⟨k,sz⟩=>ex.kids.length-k) (0,0) ⟨rfl,rfl,rfl,rfl,trivial⟩ ⟨ac,sD,(by rw[List.take_zero,M9])⟩ ?_
 clear ab aj a2 a4 ac
 rintro⟨k,sz⟩ ρ2 w2 ⟨a1,ad,hsz⟩
 have ak:w.heap.size≤w2.heap.size:=a1.size
 refine bZ [0] Z ?_
 by_cases ae:(k:Int)<(ex.kids.length:Int)
 ·refine AG true Z Z (A5 ae) Aa<|Aj<|A0<|Ag Z<|A2<|A0<|A3<|bZ [0,2,3,4] Z ?_
  have hst:=DE (l:=ex.kids) (k:=k) oM
  have hle:=Dg ex.kids (k+1)
  have hdt:=GD (l:=ex.kids) (k:=k) oM
  have hda:=Ea<|ex.kids.getD k Ex.zero
  refine AB (v:=ve) k D1 Bk Z Z hex.rn.isSl Z sD Aa ?_
  obtain⟨cs4,al,am⟩:=hex.rn.get (Aw dex) Ex.zero (k:=k) sD
  obtain⟨dd4,a0,ar,rfl,a5⟩:=RX.of al
  have a6:=a5.rn.lenle
  unfold maxLen at a6
  refine AK (p:=Ay ve k 5) (.inr Z) [zI<|(ex.kids.getD k Ex.zero).kind,zI<|(ex.kids.getD k Ex.zero).num,zI<|(ex.kids.getD k Ex.zero).pick,zI<|(ex.kids.getD k Ex.zero).count,a0] B6 Z (fun ax a7=>am ax<|Au.of_ext []<|a1.trans a7) Z Aa (Bo (z:=.agg #[zI 0,zI 0,zI 0,zI 0,zN]) Hw Aa fun w5 af au a8=>?_)
  have an:=af.size
  have ag:=a1.trans af
  replace a8:BX w5.heap w2.heap.size [zI 0,zI 0,zI 0,zI 0,zN]:=a8
  refine Bz (vs:=[zI<|(ex.kids.getD k Ex.zero).kind,zI<|(ex.kids.getD k Ex.zero).num,zI<|(ex.kids.getD k Ex.zero).pick,zI<|(ex.kids.getD k Ex.zero).count,a0]) B6 Z Z a5.ones a8 Z Z Aa fun w6 ah av a9=>?_
  replace a9:BX w6.heap w2.heap.size [zI ((ex.kids.getD k Ex.zero).kind),zI ((ex.kids.getD k Ex.zero).num),zI ((ex.kids.getD k Ex.zero).pick),zI ((ex.kids.getD k Ex.zero).count),a0]:=a9
  have ai:AF w w6:=ah.below ag (fun _ h=>zE h) ag.size
  have ao:=ah.size
  refine Aj<|Ab _ [0,2,3,0,0] Z<|Ad 1 Z<|AK (p:=zP w2.heap.size) (.inr Z) [zI<|(ex.kids.getD k Ex.zero).kind,zI<|(ex.kids.getD k Ex.zero).num,zI<|(ex.kids.getD k Ex.zero).pick,zI<|(ex.kids.getD k Ex.zero).count,a0] B6 Z (fun ax a7=>LD.of_box<|BX.ext (w:=w6) a9 a7) Z Aa<|As 236 [] [] [.agg #[zI<|(ex.kids.getD k Ex.zero).kind,zI<|(ex.kids.getD k Ex.zero).num,zI<|(ex.kids.getD k Ex.zero).pick,zI<|(ex.kids.getD k Ex.zero).count,a0]] Z Z VD Aa (ih dd4 oM _ a0 (ex.kids.getD k Ex.zero) (a5.ext ai) oM) ?_
  rintro e7 w7 ⟨rfl,aa⟩
  refine⟨_,rfl,aa,?_⟩
  have ap:=aa.size
  have aq:=ai.trans aa
  refine Y5 ((max sz ((ex.kids.getD k Ex.zero).deep):Nat):Int) oM Z Z Aa<|Ac 1 Z<|Ab _ [0,0] Z<|AP ((k+1:Nat):Int) Z Z (Bl oM sD) Aa<|Ac 1 Z ?_
  exact⟨(k+1,max sz ((ex.kids.getD k Ex.zero).deep)),_,rfl,zR,⟨aq,sD,oM⟩,zD⟩
 refine AG false Z Z (A6 ae) Aa<|Aj<|A0<|Ah Z<|A4<|Ax<|Ax<|At<|bZ [0,0,0] Z ?_
 have h8:=Jy (l:=ex.kids) (k:=k) oM
 have h9:=Ea ex
 exact Ad 1 Z<|AP ((sz+1:Nat):Int) Z Z (Bl oM oM) Aa<|Ac 1 Z<|A1<|Af [2] Z (zI ((sz+1:Nat):Int)) Z ⟨B4 (by rw[hsz,Jy oM,hdk]),a1⟩
theorem VM {b:Bool}(h:(!b)=false):b=true:=by cases b <;> simp_all
theorem Zu {b:Bool}(h:(!b)=true):b=false:=by cases b <;> simp_all
theorem XU {p:List Fn}{funcs vars:Int}{e:Ex}{b:Bool}(h:e.kids.length=0∨b=false)(hb:GF p funcs vars e=b):Ending.returned (.bool b)=.returned (.bool (wf p funcs e vars)):=by
  rcases h with h|h
  · rw[MF h,hb]
  · subst h;rw[← Ru hb]
theorem BW {p:Prop}(h:p:=by first|exact AI (MG hwn fun j hj=>hall j oM)|exact AI (Rv (k:=k) oM (by first|(rw[if_pos oM])|(rw[if_neg oM])) (Zu ‹_›))|exact XU (by first|exact .inr Z|(left;omega)|(left;simp_all <;> omega)) (by(have hp9:=hpl.symm;clear hpl;unfold GF E7;first|(simp[*];done)|(simp[*];omega)|(simp[*] <;> intros <;> omega)|(simp_all <;> omega)))):p:=h
theorem IB {p:Prop}(h:p:=by(have hp9:=hpl.symm;clear hpl;unfold GF E7;first|(simp[*];done)|(simp[*];omega)|(simp[*] <;> intros <;> omega)|(simp_all <;> omega))):p:=h
theorem OY {p:Prop}(h:p:=by intro j hj;by_cases e9:j=k;(rw[e9];first|(rw[if_pos oM];exact VM ‹_›)|(rw[if_neg oM];exact VM ‹_›));exact hall j oM):p:=h
theorem Th {p:Prop}(h:p:=by unfold DF;first|(simp[*];done)|(simp[*];intros;omega)|(simp[*];omega)):p:=h
theorem IC {p:Prop}(h:p:=by first|exact(A5 oM).symm|exact decide_eq_decide.2 oM):p:=h
theorem Gs (w:World)(dp:Nat)(vp:Value)(p:List Fn)(funcs:Int)(dex:Nat)(ve:Value)(ex:Ex)(vars:Int)(hp:RP [] dp w.heap vp p)(_hfuncs:Bx funcs)(hex:RX [] dex w.heap ve ex)(_hvars:Bx vars)(hs:0≤vars∧vars+(ex.deep:Int)≤2000000000)(hf:0≤funcs∧funcs≤(p.length:Int)) :
  Calls Tryz.prog 237 #[(.agg #[vp,(zI funcs)]),(.agg #[(zI ex.kind),(zI ex.num),(zI ex.pick),(zI ex.count),ve]),zI vars] w (fun e w'=>e=.returned (.bool (wf p funcs ex vars))∧AF w w'):=by
 induction dex using Nat.strongRecOn generalizing w dp vp p funcs ve ex vars
 rename_i dex ih
 refine Aq [.agg #[vp,zI funcs],.agg #[zI ex.kind,zI ex.num,zI ex.pick,zI ex.count,ve],zI vars] 177 Tryz.func237 Z Z sM ?_
 have d2:AF w w:=AF.refl w
 have ec:=hp.lenle
 unfold maxLen at ec
 have ed:=hex.rn.lenle
 unfold maxLen at ed
 have hdk:=DI ex
 refine bZ [3,3,0] Z (Bu (cs:=#[vp,zI funcs]) Z Aa fun w1 cq df co=>?_)
 have cr:=cq.size
 have d3:=d2.trans cq
 replace co:BX w1.heap w.heap.size [vp,zI funcs]:=co
 have e5:=co.lt
 refine Bu (cs:=#[zI ex.kind,zI ex.num,zI ex.pick,zI ex.count,ve]) Z Aa fun w2 cp dg bc=>?_
 have ct:=cp.size
 have cu:=d3.trans cp
 have bb:=co.ext cp
 replace bc:BX w2.heap w1.heap.size [zI ex.kind,zI ex.num,zI ex.pick,zI ex.count,ve]:=bc
 refine Ac 1 Z<|bZ [0,2,0,0] Z<|Ak (p:=zP w1.heap.size) 4 B9 Z Z Aa<|Ai (p:=Ap (zP w1.heap.size) 4) (.inr Z) ve Bd Z (bc.ldp (i:=4) sM) Aa<|AQ (v:=ve) D1 Z hex.rn.isSl Aa<|Ac 1 Z<|A0<|J1 (S:=Bool) (fun(pl:Bool)=>([(8,.bool pl),(2,zI vars),(3,zP w.heap.size),(4,zP w1.heap.size),(7,zI (ex.kids.length:Int))])) (fun(pl:Bool) (W:World)=>AF w W∧BX W.heap w.heap.size [vp,zI funcs]∧BX W.heap w1.heap.size [zI ex.kind,zI ex.num,zI ex.pick,zI ex.count,ve]∧pl=DF ex) ?_ ?_
 ·refine Ab _ [0,2,0,0,0,2,0,0,0] Z<|Ak (p:=zP w1.heap.size) 2 Dc Z Z Aa<|Ai (p:=Ap (zP w1.heap.size) 2) (.inr Z) (zI ex.pick) AD Z (bc.ldp (i:=2) sM) Aa ?_
  by_cases d4:ex.pick=((0:Nat):Int)
  ·exact Am true Z Z (A5 d4) Aa<|Ad 1 Z<|Ak (p:=zP w1.heap.size) 3 Du Z Z (Ae (e:=19) Z Z Z)<|Ai (p:=Ap (zP w1.heap.size) 3) (.inr Z) (zI ex.count) AD Z (bc.ldp (i:=3) sM) (Ae (e:=19) Z Z Z)<|Am (decide (ex.count=((0:Nat):Int))) Z Z Z (Ae (e:=19) Z Z Z)<|Ac 2 Z ⟨decide (ex.count=((0:Nat):Int)),_,rfl,zR,⟨cu,bb,bc,Th⟩⟩
  exact Am false Z Z (A6 d4) Aa<|Ac 6 Z ⟨false,_,rfl,zR,⟨cu,bb,bc,Th⟩⟩
 clear d2 df cq cr d3 dg cp ct cu
 rintro pl ρ4 w4 ⟨ag,a4,a1,hpl⟩
 have bf:w.heap.size≤w4.heap.size:=ag.size
 have e6:=a4.lt
 have e7:=a1.lt
 refine A0<|J1 (S:=Unit) (fun(u:Unit)=>([(2,zI vars),(3,zP w.heap.size),(4,zP w1.heap.size)])) (fun(u:Unit) (W:World)=>AF w W∧BX W.heap w.heap.size [vp,zI funcs]∧BX W.heap w1.heap.size [zI ex.kind,zI ex.num,zI ex.pick,zI ex.count,ve]∧GF p funcs vars ex=true) ?_ ?_
 ·refine bZ [0,2] Z<|Ak (p:=zP w1.heap.size) 0 Bf Z Z Aa<|Ai (p:=Ap (zP w1.heap.size) 0) (.inr Z) (zI ex.kind) AD Z (a1.ldp (i:=0) sM) Aa<|Aj<|A3<|bZ [0,0] Z ?_
  by_cases d5:ex.kind=((1:Nat):Int)
  ·refine Am true Z Z (A5 d5) Aa<|Ac 1 Z<|Ag Z<|bZ [0,0,0,0,0,0,0,2,0,0,0] Z<|Ad 2 Z ?_
   cases dh:pl
   ·exact Ac 9 Z<|A1<|AC<|Al<|Af [6] Z (.bool false) Z ⟨BW,ag⟩
   refine Ad 1 Z ?_
   by_cases bg:(ex.kids.length:Int)=((0:Nat):Int)
   ·refine Am true Z Z (A5 bg) (Ae (e:=29) Z Z Z)<|Ad 2 Z<|Ak (p:=zP w1.heap.size) 1 BE Z Z (Ae (e:=33) Z Z Z)<|Ai (p:=Ap (zP w1.heap.size) 1) (.inr Z) (zI ex.num) AD Z (a1.ldp (i:=1) sM) (Ae (e:=33) Z Z Z)<|Az 170 [] [] [zI ex.num] Z Z SY (Ae (e:=33) Z Z Z) (.bool<|Ia ex.num) (fun wq=>EG wq _ hex.rng.num)<|Ac 2 Z<|A1<|AC<|Al ?_
    exact Af [6] Z (.bool<|Ia ex.num) Z ⟨BW,ag⟩
   exact Am false Z Z (A6 bg) (Ae (e:=29) Z Z Z)<|Ac 7 Z<|A1<|AC<|Al<|Af [6] Z (.bool false) Z ⟨BW,ag⟩
  refine Am false Z Z (A6 d5) Aa<|Ac 1 Z<|Ah Z<|bZ [0,0] Z ?_
  by_cases bh:ex.kind=((2:Nat):Int)
  ·refine Am true Z Z (A5 bh) Aa<|Ac 1 Z<|Ag Z<|bZ [0,0,0,0,0,0,0,2,0,0,0,0,0] Z<|Ad 2 Z ?_
   cases di:pl
   ·exact Ac 11 Z<|A1<|AC<|Al<|Af [6] Z (.bool false) Z ⟨BW,ag⟩
   refine Ad 1 Z ?_
   by_cases bi:(ex.kids.length:Int)=((0:Nat):Int)
   ·refine Am true Z Z (A5 bi) (Ae (e:=41) Z Z Z)<|Ad 2 Z<|Ak (p:=zP w1.heap.size) 1 BE Z Z (Ae (e:=45) Z Z Z)<|Ai (p:=Ap (zP w1.heap.size) 1) (.inr Z) (zI ex.num) AD Z (a1.ldp (i:=1) sM) (Ae (e:=45) Z Z Z)<|Ad 1 Z<|Bs (vars-1) Z Z (Da oM oM) (Ae (e:=45) Z Z Z)<|Az 117 [] [] [zI ex.num,zI ((0:Nat):Int),zI (vars-1)] Z Z CR (Ae (e:=45) Z Z Z) (.bool (decide (((0:Nat):Int)≤ex.num) && decide (ex.num≤(vars-1)))) (fun wq=>AW wq _ _ _ hex.rng.num oM oM)<|Ac 2 Z<|A1<|AC ?_
    exact Al<|Af [6] Z (.bool (decide (((0:Nat):Int)≤ex.num) && decide (ex.num≤(vars-1)))) Z ⟨BW,ag⟩
   exact Am false Z Z (A6 bi) (Ae (e:=41) Z Z Z)<|Ac 9 Z<|A1<|AC<|Al<|Af [6] Z (.bool false) Z ⟨BW,ag⟩
  refine Am false Z Z (A6 bh) Aa<|Ac 1 Z<|Ah Z<|A0<|J1 (S:=Bool) (fun(b5:Bool)=>([(52,.bool b5),(2,zI vars),(3,zP w.heap.size),(4,zP w1.heap.size),(7,zI (ex.kids.length:Int)),(8,.bool pl),(25,zI ex.kind)])) (fun(b5:Bool) (W:World)=>AF w W∧BX W.heap w.heap.size [vp,zI funcs]∧BX W.heap w1.heap.size [zI ex.kind,zI ex.num,zI ex.pick,zI ex.count,ve]∧b5=decide (ex.kind=3∨ex.kind=4∨ex.kind=5∨ex.kind=6∨ex.kind=9)) ?_ ?_
  ·refine bZ [0,0] Z ?_
   by_cases bj:ex.kind=((3:Nat):Int)
   ·exact Am true Z Z (A5 bj) Aa<|Ac 1 Z<|Ag Z<|A2 ⟨true,_,rfl,zR,⟨ag,a4,a1,IC⟩⟩
   refine Am false Z Z (A6 bj) Aa<|Ac 1 Z<|Ah Z<|bZ [0,0] Z ?_
   by_cases bk:ex.kind=((4:Nat):Int)
   ·exact Am true Z Z (A5 bk) Aa<|Ac 1 Z<|Ag Z<|A2 ⟨true,_,rfl,zR,⟨ag,a4,a1,IC⟩⟩
   refine Am false Z Z (A6 bk) Aa<|Ac 1 Z<|Ah Z<|bZ [0,0] Z ?_
   by_cases bl:ex.kind=((5:Nat):Int)
   ·exact Am true Z Z (A5 bl) Aa<|Ac 1 Z<|Ag Z<|A2 ⟨true,_,rfl,zR,⟨ag,a4,a1,IC⟩⟩
   refine Am false Z Z (A6 bl) Aa<|Ac 1 Z<|Ah Z<|bZ [0,0] Z ?_
   by_cases bm:ex.kind=((6:Nat):Int)
   ·exact Am true Z Z (A5 bm) Aa<|Ac 1 Z<|Ag Z<|A2 ⟨true,_,rfl,zR,⟨ag,a4,a1,IC⟩⟩
   exact Am false Z Z (A6 bm) Aa<|Ac 1 Z<|Ah Z<|Ab _ [0,0] Z<|Am (decide (ex.kind=((9:Nat):Int))) Z Z Z Aa<|Ac 1 Z ⟨decide (ex.kind=((9:Nat):Int)),_,rfl,zR,⟨ag,a4,a1,IC⟩⟩
  clear a1 a4 ag bf
  rintro b5 ρ17 ef ⟨a2,a3,a0,h5b⟩
  have bn:w.heap.size≤ef.heap.size:=a2.size
  have dj:=a3.lt
  have dk:=a0.lt
  cases bo:b5
  ·refine Ah (by first|rfl|exact zW bo)<|bZ [0,0] Z ?_
   have h5n:=of_decide_eq_false (h5b.symm.trans ‹_›)
   clear h5b
   by_cases bp:ex.kind=((7:Nat):Int)
   ·refine Am true Z Z (A5 bp) Aa<|Ac 1 Z<|Ag Z<|bZ [0,0,0,0,2,0,0,0,0,0,0] Z<|Ad 1 Z<|Bn (!pl) Z Z Aa<|Ad 1 Z ?_
    cases dl:(!pl)
    ·refine Ak (p:=zP w1.heap.size) 1 BE Z Z (Ae (e:=73) Z Z Z)<|Ai (p:=Ap (zP w1.heap.size) 1) (.inr Z) (zI ex.num) AD Z (a0.ldp (i:=1) sM) (Ae (e:=73) Z Z Z) ?_
     by_cases bq:ex.num≠((0:Nat):Int)
     ·exact AT true Z Z (A5 bq) (Ae (e:=73) Z Z Z)<|Ac 5 Z<|Ag Z<|cA Z<|A1<|AC<|Al<|Af [6] Z (.bool false) Z ⟨BW,a2⟩
     refine AT false Z Z (A6 bq) (Ae (e:=73) Z Z Z)<|Ad 3 Z ?_
     by_cases br:(ex.kids.length:Int)≠((1:Nat):Int)
     ·exact AT true Z Z (A5 br) (Ae (e:=78) Z Z Z)<|Ac 1 Z<|Ag Z<|cA Z<|A1<|AC<|Al<|Af [6] Z (.bool false) Z ⟨BW,a2⟩
     exact AT false Z Z (A6 br) (Ae (e:=78) Z Z Z)<|Ac 1 Z<|Ah Z<|A2 ⟨(),_,rfl,zR,⟨a2,a3,a0,IB⟩⟩
    exact Ac 8 Z<|Ag Z<|cA Z<|A1<|AC<|Al<|Af [6] Z (.bool false) Z ⟨BW,a2⟩
   refine Am false Z Z (A6 bp) Aa<|Ac 1 Z<|Ah Z<|bZ [0,0] Z ?_
   by_cases bs:ex.kind=((8:Nat):Int)
   ·refine Am true Z Z (A5 bs) Aa<|Ac 1 Z<|Ag Z<|bZ [0,0,0,0,2,0,0,0,0,0,0] Z<|Ad 1 Z<|Bn (!pl) Z Z Aa<|Ad 1 Z ?_
    cases dm:(!pl)
    ·refine Ak (p:=zP w1.heap.size) 1 BE Z Z (Ae (e:=86) Z Z Z)<|Ai (p:=Ap (zP w1.heap.size) 1) (.inr Z) (zI ex.num) AD Z (a0.ldp (i:=1) sM) (Ae (e:=86) Z Z Z) ?_
     by_cases bt:ex.num≠((0:Nat):Int)
     ·exact AT true Z Z (A5 bt) (Ae (e:=86) Z Z Z)<|Ac 5 Z<|Ag Z<|cA Z<|A1<|AC<|Al<|Af [6] Z (.bool false) Z ⟨BW,a2⟩
     refine AT false Z Z (A6 bt) (Ae (e:=86) Z Z Z)<|Ad 3 Z ?_
     by_cases bu:(ex.kids.length:Int)≠((3:Nat):Int)
     ·exact AT true Z Z (A5 bu) (Ae (e:=91) Z Z Z)<|Ac 1 Z<|Ag Z<|cA Z<|A1<|AC<|Al<|Af [6] Z (.bool false) Z ⟨BW,a2⟩
     exact AT false Z Z (A6 bu) (Ae (e:=91) Z Z Z)<|Ac 1 Z<|Ah Z<|A2 ⟨(),_,rfl,zR,⟨a2,a3,a0,IB⟩⟩
    exact Ac 8 Z<|Ag Z<|cA Z<|A1<|AC<|Al<|Af [6] Z (.bool false) Z ⟨BW,a2⟩
   refine Am false Z Z (A6 bs) Aa<|Ac 1 Z<|Ah Z<|A0<|J1 (S:=Bool) (fun(b10:Bool)=>([(95,.bool b10),(2,zI vars),(3,zP w.heap.size),(4,zP w1.heap.size),(7,zI (ex.kids.length:Int))])) (fun(b10:Bool) (W:World)=>AF w W∧BX W.heap w.heap.size [vp,zI funcs]∧BX W.heap w1.heap.size [zI ex.kind,zI ex.num,zI ex.pick,zI ex.count,ve]∧b10=decide (ex.kind=10∨ex.kind=11)) ?_ ?_
   ·refine bZ [0,0] Z ?_
    by_cases bv:ex.kind=((10:Nat):Int)
    ·exact Am true Z Z (A5 bv) Aa<|Ac 1 Z<|Ag Z<|A2 ⟨true,_,rfl,zR,⟨a2,a3,a0,IC⟩⟩
    exact Am false Z Z (A6 bv) Aa<|Ac 1 Z<|Ah Z<|Ab _ [0,0] Z<|Am (decide (ex.kind=((11:Nat):Int))) Z Z Z Aa<|Ac 1 Z ⟨decide (ex.kind=((11:Nat):Int)),_,rfl,zR,⟨a2,a3,a0,IC⟩⟩
   clear a0 a3 a2 bn
   rintro b10 ρ33 e8 ⟨an,a6,a7,h10b⟩
   have d6:w.heap.size≤e8.heap.size:=an.size
   have dn:=a6.lt
   have dq:=a7.lt
   cases bw:b10
   ·refine Ah (by first|rfl|exact zW bw)<|bZ [0] Z ?_
    have h10n:=of_decide_eq_false (h10b.symm.trans ‹_›)
    clear h10b
    exact Ac 1 Z<|A1<|AC<|Al<|Af [6] Z (.bool false) Z ⟨BW,an⟩
   refine Ag (by first|rfl|exact zW bw)<|A0<|bZ [0,2,0,2,0,0,0] Z ?_
   have h5k:=of_decide_eq_true (h10b.symm.trans ‹_›)
   clear h10b
   refine Ak (p:=zP w1.heap.size) 1 BE Z Z Aa<|Ai (p:=Ap (zP w1.heap.size) 1) (.inr Z) (zI ex.num) AD Z (a7.ldp (i:=1) sM) Aa<|Ak (p:=zP w.heap.size) 1 UG Z Z Aa<|Ai (p:=Ap (zP w.heap.size) 1) (.inr Z) (zI funcs) AD Z (a6.ldp (i:=1) sM) Aa<|Bs (funcs-1) Z Z (Da oM oM) Aa<|Az 117 [] [] [zI ex.num,zI ((0:Nat):Int),zI (funcs-1)] Z Z CR Aa (.bool (decide (((0:Nat):Int)≤ex.num) && decide (ex.num≤(funcs-1)))) (fun wq=>AW wq _ _ _ hex.rng.num oM oM) ?_
   refine Bn (!(decide (((0:Nat):Int)≤ex.num) && decide (ex.num≤(funcs-1)))) Z Z Aa<|Aj ?_
   cases bx:(!(decide (((0:Nat):Int)≤ex.num) && decide (ex.num≤(funcs-1))))
   ·refine Ah (by first|rfl|exact zW bx)<|A2<|bZ [0,0,2,0,2,0,2,3,4] Z ?_
    have hnr:0≤ex.num∧ex.num≤funcs-1:=by have h9:=‹(!(decide (((0:Nat):Int)≤ex.num) && decide (ex.num≤funcs-1)))=false›;simpa using h9
    refine Ak (p:=zP w.heap.size) 0 UF Z Z Aa<|Ak (p:=Ap (zP w.heap.size) 0) (b:=w.heap.size) (o:=0) 0 Bv Z Z Aa<|Ai (p:=Ap (Ap (zP w.heap.size) 0) 0) (.inr Z) vp BY Z (a6.ldp (i:=0) sM) Aa<|Ak (p:=zP w1.heap.size) 1 BE Z Z Aa<|Ai (p:=Ap (zP w1.heap.size) 1) (.inr Z) (zI ex.num) AD Z (a7.ldp (i:=1) sM) Aa ?_
    refine AB (v:=vp) ((ex.num).toNat) Gb Cj Z Z hp.isSl oM sD Aa ?_
    obtain⟨cs40,cv,cw⟩:=hp.get (Av dp) Fn.zero (k:=(ex.num).toNat) sD
    obtain⟨aa,rfl,ao⟩:=RF.of cv
    have bz:=ao.rn.lenle
    unfold maxLen at bz
    refine AK (p:=Ay vp ((ex.num).toNat) 3) (.inr Z) [.string<|(p.getD ((ex.num).toNat) Fn.zero).name,zI<|(p.getD ((ex.num).toNat) Fn.zero).params,aa] Jm Z (fun e9 ad=>cw e9<|Au.of_ext []<|an.trans ad) Z Aa ?_
    have dr:=a6.lt
    have ds:=a7.lt
    refine Bo (z:=.agg #[.string ByteArray.empty,zI 0,zN]) Uz Aa fun eg ax dt bd=>?_
    have d7:=ax.size
    have c0:=an.trans ax
    have ai:=a6.ext ax
    have aj:=a7.ext ax
    replace bd:BX eg.heap e8.heap.size [.string ByteArray.empty,zI 0,zN]:=bd
    refine Bz (vs:=[.string<|(p.getD ((ex.num).toNat) Fn.zero).name,zI<|(p.getD ((ex.num).toNat) Fn.zero).params,aa]) Jm Z Z ao.ones bd Z Z Aa fun ee ay du ac=>?_
    replace ac:BX ee.heap e8.heap.size [.string ((p.getD ((ex.num).toNat) Fn.zero).name),zI ((p.getD ((ex.num).toNat) Fn.zero).params),aa]:=ac
    have a8:AF w ee:=ay.below c0 (fun _ h=>zE h) c0.size
    have d8:=ay.size
    have az:=ai.chg ay (zB ·)
    have a9:=aj.chg ay (zB ·)
    refine Aj<|A0<|bZ [0,0,2,0,0,0,2,0,2,0,0,0,0,0] Z<|Ad 1 Z<|Ak (p:=zP e8.heap.size) 1 C2 Z Z Aa<|Ai (p:=Ap (zP e8.heap.size) 1) (.inr Z) (zI<|(p.getD ((ex.num).toNat) Fn.zero).params) AD Z (ac.ldp (i:=1) sM) Aa ?_
    by_cases c1:(ex.kids.length:Int)≠(p.getD ((ex.num).toNat) Fn.zero).params
    ·exact AT true Z Z (A5 c1) Aa<|Ac 10 Z<|Ag Z<|cA Z<|A1<|Al<|AC<|Al<|Af [6] Z (.bool false) Z ⟨BW,a8⟩
    refine AT false Z Z (A6 c1) Aa<|Ad 1 Z<|Ak (p:=zP w1.heap.size) 2 Dc Z Z (Ae (e:=116) Z Z Z)<|Ai (p:=Ap (zP w1.heap.size) 2) (.inr Z) (zI ex.pick) AD Z (a9.ldp (i:=2) sM) (Ae (e:=116) Z Z Z)<|Ak (p:=zP e8.heap.size) 2 BL Z Z (Ae (e:=116) Z Z Z)<|Ai (p:=Ap (zP e8.heap.size) 2) (.inr Z) aa Bd Z (ac.ldp (i:=2) sM) (Ae (e:=116) Z Z Z)<|AQ (v:=aa) D1 Z ao.rn.isSl (Ae (e:=116) Z Z Z) ?_
    refine Bs (((p.getD (ex.num).toNat Fn.zero).outs.length:Int)-1) Z Z (Da oM oM) (Ae (e:=116) Z Z Z)<|Az 117 [] [] [zI ex.pick,zI ((0:Nat):Int),zI (((p.getD (ex.num).toNat Fn.zero).outs.length:Int)-1)] Z Z CR (Ae (e:=116) Z Z Z) (.bool (decide (((0:Nat):Int)≤ex.pick) && decide (ex.pick≤(((p.getD (ex.num).toNat Fn.zero).outs.length:Int)-1)))) (fun wq=>AW wq _ _ _ hex.rng.pick oM oM)<|Bn (!(decide (((0:Nat):Int)≤ex.pick) && decide (ex.pick≤(((p.getD (ex.num).toNat Fn.zero).outs.length:Int)-1)))) Z Z (Ae (e:=116) Z Z Z)<|Ac 1 Z ?_
    cases c2:(!(decide (((0:Nat):Int)≤ex.pick) && decide (ex.pick≤(((p.getD (ex.num).toNat Fn.zero).outs.length:Int)-1))))
    ·refine Ah (by first|rfl|exact zW c2)<|A2<|bZ [0,2,0,0,0,2,0,0,0,0,2,0,0,0,2,0,0,2,0,0,0,2,0,0,0,0,0] Z<|Ak (p:=zP w1.heap.size) 0 Bf Z Z Aa<|Ai (p:=Ap (zP w1.heap.size) 0) (.inr Z) (zI ex.kind) AD Z (a9.ldp (i:=0) sM) Aa ?_
     by_cases c3:ex.kind=((10:Nat):Int)
     ·refine Am true Z Z (A5 c3) Aa<|Ad 1 Z<|Ak (p:=zP w1.heap.size) 3 Du Z Z (Ae (e:=129) Z Z Z)<|Ai (p:=Ap (zP w1.heap.size) 3) (.inr Z) (zI ex.count) AD Z (a9.ldp (i:=3) sM) (Ae (e:=129) Z Z Z) ?_
      by_cases c4:ex.count≠((0:Nat):Int)
      ·exact AT true Z Z (A5 c4) (Ae (e:=129) Z Z Z)<|Ac 20 Z<|Ag Z<|cA Z<|A1<|AC<|Al<|Af [6] Z (.bool false) Z ⟨BW,a8⟩
      refine AT false Z Z (A6 c4) (Ae (e:=129) Z Z Z)<|Ad 2 Z<|Ak (p:=zP w1.heap.size) 0 Bf Z Z (Ae (e:=134) Z Z Z)<|Ai (p:=Ap (zP w1.heap.size) 0) (.inr Z) (zI ex.kind) AD Z (a9.ldp (i:=0) sM) (Ae (e:=134) Z Z Z) ?_
      by_cases c5:ex.kind=((11:Nat):Int)
      ·refine Am true Z Z (A5 c5) (Ae (e:=134) Z Z Z)<|Ad 1 Z<|Ak (p:=zP e8.heap.size) 2 BL Z Z (Ae (e:=138) Z Z Z)<|Ai (p:=Ap (zP e8.heap.size) 2) (.inr Z) aa Bd Z (ac.ldp (i:=2) sM) (Ae (e:=138) Z Z Z)<|AQ (v:=aa) D1 Z ao.rn.isSl (Ae (e:=138) Z Z Z)<|Ak (p:=zP e8.heap.size) 1 C2 Z Z (Ae (e:=138) Z Z Z)<|Ai (p:=Ap (zP e8.heap.size) 1) (.inr Z) (zI<|(p.getD ((ex.num).toNat) Fn.zero).params) AD Z (ac.ldp (i:=1) sM) (Ae (e:=138) Z Z Z) ?_
       by_cases c6:((((p.getD ((ex.num).toNat) Fn.zero).outs).length:Nat):Int)≠(p.getD ((ex.num).toNat) Fn.zero).params
       ·exact AT true Z Z (A5 c6) (Ae (e:=138) Z Z Z)<|Ac 8 Z<|Ag Z<|cA Z<|A1<|AC<|Al<|Af [6] Z (.bool false) Z ⟨BW,a8⟩
       refine AT false Z Z (A6 c6) (Ae (e:=138) Z Z Z)<|Ad 1 Z<|Ak (p:=zP w1.heap.size) 3 Du Z Z (Ae (e:=145) Z Z Z)<|Ai (p:=Ap (zP w1.heap.size) 3) (.inr Z) (zI ex.count) AD Z (a9.ldp (i:=3) sM) (Ae (e:=145) Z Z Z)<|Az 117 [] [] [zI ex.count,zI ((0:Nat):Int),zI ((8:Nat):Int)] Z Z CR (Ae (e:=145) Z Z Z) (.bool (decide (((0:Nat):Int)≤ex.count) && decide (ex.count≤((8:Nat):Int)))) (fun wq=>AW wq _ _ _ hex.rng.count oM oM)<|Bn (!(decide (((0:Nat):Int)≤ex.count) && decide (ex.count≤((8:Nat):Int)))) Z Z (Ae (e:=145) Z Z Z) ?_
       refine Ac 3 Z ?_
       cases c7:(!(decide (((0:Nat):Int)≤ex.count) && decide (ex.count≤((8:Nat):Int))))
       ·exact Ah (by first|rfl|exact zW c7)<|A2 ⟨(),_,rfl,zR,⟨a8,az,a9,IB⟩⟩
       exact Ag (by first|rfl|exact zW c7)<|cA Z<|A1<|AC<|Al<|Af [6] Z (.bool false) Z ⟨BW,a8⟩
      exact Am false Z Z (A6 c5) (Ae (e:=134) Z Z Z)<|Ac 15 Z<|Ah Z<|A2 ⟨(),_,rfl,zR,⟨a8,az,a9,IB⟩⟩
     refine Am false Z Z (A6 c3) Aa<|Ad 6 Z<|Ak (p:=zP w1.heap.size) 0 Bf Z Z (Ae (e:=134) Z Z Z)<|Ai (p:=Ap (zP w1.heap.size) 0) (.inr Z) (zI ex.kind) AD Z (a9.ldp (i:=0) sM) (Ae (e:=134) Z Z Z) ?_
     by_cases c8:ex.kind=((11:Nat):Int)
     ·refine Am true Z Z (A5 c8) (Ae (e:=134) Z Z Z)<|Ad 1 Z<|Ak (p:=zP e8.heap.size) 2 BL Z Z (Ae (e:=138) Z Z Z)<|Ai (p:=Ap (zP e8.heap.size) 2) (.inr Z) aa Bd Z (ac.ldp (i:=2) sM) (Ae (e:=138) Z Z Z)<|AQ (v:=aa) D1 Z ao.rn.isSl (Ae (e:=138) Z Z Z)<|Ak (p:=zP e8.heap.size) 1 C2 Z Z (Ae (e:=138) Z Z Z)<|Ai (p:=Ap (zP e8.heap.size) 1) (.inr Z) (zI<|(p.getD ((ex.num).toNat) Fn.zero).params) AD Z (ac.ldp (i:=1) sM) (Ae (e:=138) Z Z Z) ?_
      by_cases c9:((((p.getD ((ex.num).toNat) Fn.zero).outs).length:Nat):Int)≠(p.getD ((ex.num).toNat) Fn.zero).params
      ·exact AT true Z Z (A5 c9) (Ae (e:=138) Z Z Z)<|Ac 8 Z<|Ag Z<|cA Z<|A1<|AC<|Al<|Af [6] Z (.bool false) Z ⟨BW,a8⟩
      refine AT false Z Z (A6 c9) (Ae (e:=138) Z Z Z)<|Ad 1 Z<|Ak (p:=zP w1.heap.size) 3 Du Z Z (Ae (e:=145) Z Z Z)<|Ai (p:=Ap (zP w1.heap.size) 3) (.inr Z) (zI ex.count) AD Z (a9.ldp (i:=3) sM) (Ae (e:=145) Z Z Z)<|Az 117 [] [] [zI ex.count,zI ((0:Nat):Int),zI ((8:Nat):Int)] Z Z CR (Ae (e:=145) Z Z Z) (.bool (decide (((0:Nat):Int)≤ex.count) && decide (ex.count≤((8:Nat):Int)))) (fun wq=>AW wq _ _ _ hex.rng.count oM oM)<|Bn (!(decide (((0:Nat):Int)≤ex.count) && decide (ex.count≤((8:Nat):Int)))) Z Z (Ae (e:=145) Z Z Z) ?_
      refine Ac 3 Z ?_
      cases ca:(!(decide (((0:Nat):Int)≤ex.count) && decide (ex.count≤((8:Nat):Int))))
      ·exact Ah (by first|rfl|exact zW ca)<|A2 ⟨(),_,rfl,zR,⟨a8,az,a9,IB⟩⟩
      exact Ag (by first|rfl|exact zW ca)<|cA Z<|A1<|AC<|Al<|Af [6] Z (.bool false) Z ⟨BW,a8⟩
     exact Am false Z Z (A6 c8) (Ae (e:=134) Z Z Z)<|Ac 15 Z<|Ah Z<|A2 ⟨(),_,rfl,zR,⟨a8,az,a9,IB⟩⟩
    exact Ag (by first|rfl|exact zW c2)<|cA Z<|A1<|Al<|AC<|Al<|Af [6] Z (.bool false) Z ⟨BW,a8⟩
   exact Ag (by first|rfl|exact zW bx)<|cA Z<|A1<|Al<|AC<|Al<|Af [6] Z (.bool false) Z ⟨BW,an⟩
  refine Ag (by first|rfl|exact zW bo)<|bZ [0,0,0,0,2,0,0,0,0,0,0] Z ?_
  have h5k:=of_decide_eq_true (h5b.symm.trans ‹_›)
  clear h5b
  refine Ad 1 Z<|Bn (!pl) Z Z Aa<|Ad 1 Z ?_
  cases dv:(!pl)
  ·refine Ak (p:=zP w1.heap.size) 1 BE Z Z (Ae (e:=60) Z Z Z)<|Ai (p:=Ap (zP w1.heap.size) 1) (.inr Z) (zI ex.num) AD Z (a0.ldp (i:=1) sM) (Ae (e:=60) Z Z Z) ?_
   by_cases cb:ex.num≠((0:Nat):Int)
   ·exact AT true Z Z (A5 cb) (Ae (e:=60) Z Z Z)<|Ac 5 Z<|Ag Z<|cA Z<|A1<|AC<|Al<|Af [6] Z (.bool false) Z ⟨BW,a2⟩
   refine AT false Z Z (A6 cb) (Ae (e:=60) Z Z Z)<|Ad 3 Z ?_
   by_cases cc:(ex.kids.length:Int)≠((2:Nat):Int)
   ·exact AT true Z Z (A5 cc) (Ae (e:=65) Z Z Z)<|Ac 1 Z<|Ag Z<|cA Z<|A1<|AC<|Al<|Af [6] Z (.bool false) Z ⟨BW,a2⟩
   exact AT false Z Z (A6 cc) (Ae (e:=65) Z Z Z)<|Ac 1 Z<|Ah Z<|A2 ⟨(),_,rfl,zR,⟨a2,a3,a0,IB⟩⟩
  exact Ac 8 Z<|Ag Z<|cA Z<|A1<|AC<|Al<|Af [6] Z (.bool false) Z ⟨BW,a2⟩
 clear a1 a4 ag bf
 rintro u ρ8 w8 ⟨cx,ap,ah,hwn⟩
 have cy:w.heap.size≤w8.heap.size:=cx.size
 have dw:=ap.lt
 have dx:=ah.lt
 refine A0<|bZ [0,2,0,0] Z<|Ak (p:=zP w1.heap.size) 4 B9 Z Z Aa<|Ai (p:=Ap (zP w1.heap.size) 4) (.inr Z) ve Bd Z (ah.ldp (i:=4) sM) Aa<|AQ (v:=ve) D1 Z hex.rn.isSl Aa<|Ac 1 Z<|A3 ?_
 refine B1 (S:=Nat) (fun k=>([(156,zI (k:Int)),(2,zI vars),(3,zP w.heap.size),(4,zP w1.heap.size),(154,ve),(155,zI (ex.kids.length:Int))])) (fun k W=>AF w W∧BX W.heap w.heap.size [vp,zI funcs]∧BX W.heap w1.heap.size [zI ex.kind,zI ex.num,zI ex.pick,zI ex.count,ve]∧k≤ex.kids.length∧(∀j,j<k→wf p funcs (ex.kids.getD j Ex.zero) (if ex.kind=9∧j=1 then vars+1 else vars)=true)) (fun k=>ex.kids.length-k) 0 ⟨rfl,rfl,rfl,rfl,rfl,rfl,trivial⟩ ⟨cx,ap,ah,sD,(by intro j hj;omega)⟩ ?_
 clear ah ap cx cy
 rintro k ρ65 eb ⟨b0,ae,af,cz,hall⟩
 have d9:w.heap.size≤eb.heap.size:=b0.size
 have dy:=ae.lt
 have dz:=af.lt
 refine bZ [0] Z ?_
 by_cases cd:(k:Int)<(ex.kids.length:Int)
 ·refine AG true Z Z (A5 cd) Aa<|Aj<|A0<|Ag Z<|A2<|A0<|A3<|bZ [0,0,2,3,0,4] Z ?_
  have hkd:=Dh (l:=ex.kids) (k:=k) oM
  refine Ad 1 Z<|AB (v:=ve) k D1 Bk Z Z hex.rn.isSl Z sD Aa ?_
  obtain⟨cs69,d0,d1⟩:=hex.rn.get (Aw dex) Ex.zero (k:=k) sD
  obtain⟨dd69,a5,e0,rfl,aq⟩:=RX.of d0
  have ce:=aq.rn.lenle
  unfold maxLen at ce
  refine AK (p:=Ay ve k 5) (.inr Z) [zI<|(ex.kids.getD k Ex.zero).kind,zI<|(ex.kids.getD k Ex.zero).num,zI<|(ex.kids.getD k Ex.zero).pick,zI<|(ex.kids.getD k Ex.zero).count,a5] B6 Z (fun e9 ad=>d1 e9<|Au.of_ext []<|b0.trans ad) Z Aa ?_
  have e1:=ae.lt
  have e2:=af.lt
  refine Bo (z:=.agg #[zI 0,zI 0,zI 0,zI 0,zN]) Hw Aa fun eh b1 e3 be=>?_
  have da:=b1.size
  have cf:=b0.trans b1
  have ak:=ae.ext b1
  have al:=af.ext b1
  replace be:BX eh.heap eb.heap.size [zI 0,zI 0,zI 0,zI 0,zN]:=be
  refine Ad 1 Z (Bz (vs:=[zI<|(ex.kids.getD k Ex.zero).kind,zI<|(ex.kids.getD k Ex.zero).num,zI<|(ex.kids.getD k Ex.zero).pick,zI<|(ex.kids.getD k Ex.zero).count,a5]) B6 Z Z aq.ones be Z Z Aa fun ea b2 e4 ar=>?_)
  replace ar:BX ea.heap eb.heap.size [zI ((ex.kids.getD k Ex.zero).kind),zI ((ex.kids.getD k Ex.zero).num),zI ((ex.kids.getD k Ex.zero).pick),zI ((ex.kids.getD k Ex.zero).count),a5]:=ar
  have ab:AF w ea:=b2.below cf (fun _ h=>zE h) cf.size
  have db:=b2.size
  have am:=ak.chg b2 (zB ·)
  have b3:=al.chg b2 (zB ·)
  refine Aj<|bZ [0,0] Z<|Ac 2 Z<|A0<|bZ [0,2,0,0,0,0,0] Z<|Ak (p:=zP w1.heap.size) 0 Bf Z Z Aa<|Ai (p:=Ap (zP w1.heap.size) 0) (.inr Z) (zI ex.kind) AD Z (b3.ldp (i:=0) sM) Aa ?_
  by_cases cg:ex.kind=((9:Nat):Int)
  ·refine Am true Z Z (A5 cg) Aa<|Ad 2 Z ?_
   by_cases ch:(k:Int)=((1:Nat):Int)
   ·refine Am true Z Z (A5 ch) (Ae (e:=165) Z Z Z)<|Ac 1 Z<|Ag Z<|Ab _ [0,0,0] Z<|Ad 1 Z<|AP (vars+1) Z Z (Da oM oM) Aa<|Ac 1 Z<|bZ [2,2,0,3,0] Z<|AK (p:=zP w.heap.size) (.inr Z) [vp,zI funcs] OW Z (fun e9 ad=>LD.of_box<|BX.ext (w:=ea) am ad) Z Aa<|AK (p:=zP eb.heap.size) (.inr Z) [zI<|(ex.kids.getD k Ex.zero).kind,zI<|(ex.kids.getD k Ex.zero).num,zI<|(ex.kids.getD k Ex.zero).pick,zI<|(ex.kids.getD k Ex.zero).count,a5] B6 Z (fun e9 ad=>LD.of_box<|BX.ext (w:=ea) ar ad) Z Aa<|Ad 1 Z ?_
    refine As 237 [] [] [.agg #[vp,zI funcs],.agg #[zI<|(ex.kids.getD k Ex.zero).kind,zI<|(ex.kids.getD k Ex.zero).num,zI<|(ex.kids.getD k Ex.zero).pick,zI<|(ex.kids.getD k Ex.zero).count,a5],zI (vars+1)] Z Z Qo Aa (ih dd69 oM _ dp vp (p) (funcs) a5 (ex.kids.getD k Ex.zero) _ (hp.ext (An<|Av dp) ab) _hfuncs (aq.ext ab) oM oM oM) ?_
    rintro ei ej ⟨rfl,au⟩
    refine⟨_,rfl,au,?_⟩
    have dc:=au.size
    have ci:=ab.trans au
    have b4:=am.ext au
    have b6:=b3.ext au
    refine Bn (!(wf p funcs (ex.kids.getD k Ex.zero) (vars+1))) Z Z Aa<|Aj ?_
    cases cj:(!(wf p funcs (ex.kids.getD k Ex.zero) (vars+1)))
    ·refine Ah (by first|rfl|exact zW cj)<|A2<|Ab _ [0,0] Z<|AP ((k+1:Nat):Int) Z Z (Bl oM sD) Aa<|Ac 1 Z ?_
     exact⟨k+1,_,rfl,zR,⟨ci,b4,b6,sD,OY⟩,zD⟩
    exact Ag (by first|rfl|exact zW cj)<|cA Z<|A1<|AC<|Al<|Al<|AC<|Al<|Af [6] Z (.bool false) Z ⟨BW,ci⟩
   refine Am false Z Z (A6 ch) (Ae (e:=165) Z Z Z)<|Ac 1 Z<|Ah Z<|A2<|bZ [2,2,0,3,0] Z<|AK (p:=zP w.heap.size) (.inr Z) [vp,zI funcs] OW Z (fun e9 ad=>LD.of_box<|BX.ext (w:=ea) am ad) Z Aa<|AK (p:=zP eb.heap.size) (.inr Z) [zI<|(ex.kids.getD k Ex.zero).kind,zI<|(ex.kids.getD k Ex.zero).num,zI<|(ex.kids.getD k Ex.zero).pick,zI<|(ex.kids.getD k Ex.zero).count,a5] B6 Z (fun e9 ad=>LD.of_box<|BX.ext (w:=ea) ar ad) Z Aa<|Ad 1 Z ?_
   refine As 237 [] [] [.agg #[vp,zI funcs],.agg #[zI<|(ex.kids.getD k Ex.zero).kind,zI<|(ex.kids.getD k Ex.zero).num,zI<|(ex.kids.getD k Ex.zero).pick,zI<|(ex.kids.getD k Ex.zero).count,a5],zI vars] Z Z Qo Aa (ih dd69 oM _ dp vp (p) (funcs) a5 (ex.kids.getD k Ex.zero) _ (hp.ext (An<|Av dp) ab) _hfuncs (aq.ext ab) _hvars oM oM) ?_
   rintro ek el ⟨rfl,av⟩
   refine⟨_,rfl,av,?_⟩
   have dd:=av.size
   have ck:=ab.trans av
   have b7:=am.ext av
   have b8:=b3.ext av
   refine Bn (!(wf p funcs (ex.kids.getD k Ex.zero) vars)) Z Z Aa<|Aj ?_
   cases cl:(!(wf p funcs (ex.kids.getD k Ex.zero) vars))
   ·refine Ah (by first|rfl|exact zW cl)<|A2<|Ab _ [0,0] Z<|AP ((k+1:Nat):Int) Z Z (Bl oM sD) Aa<|Ac 1 Z ?_
    exact⟨k+1,_,rfl,zR,⟨ck,b7,b8,sD,OY⟩,zD⟩
   exact Ag (by first|rfl|exact zW cl)<|cA Z<|A1<|AC<|Al<|Al<|AC<|Al<|Af [6] Z (.bool false) Z ⟨BW,ck⟩
  refine Am false Z Z (A6 cg) Aa<|Ac 4 Z<|Ah Z<|A2<|bZ [2,2,0,3,0] Z<|AK (p:=zP w.heap.size) (.inr Z) [vp,zI funcs] OW Z (fun e9 ad=>LD.of_box<|BX.ext (w:=ea) am ad) Z Aa<|AK (p:=zP eb.heap.size) (.inr Z) [zI<|(ex.kids.getD k Ex.zero).kind,zI<|(ex.kids.getD k Ex.zero).num,zI<|(ex.kids.getD k Ex.zero).pick,zI<|(ex.kids.getD k Ex.zero).count,a5] B6 Z (fun e9 ad=>LD.of_box<|BX.ext (w:=ea) ar ad) Z Aa<|Ad 1 Z ?_
  refine As 237 [] [] [.agg #[vp,zI funcs],.agg #[zI<|(ex.kids.getD k Ex.zero).kind,zI<|(ex.kids.getD k Ex.zero).num,zI<|(ex.kids.getD k Ex.zero).pick,zI<|(ex.kids.getD k Ex.zero).count,a5],zI vars] Z Z Qo Aa (ih dd69 oM _ dp vp (p) (funcs) a5 (ex.kids.getD k Ex.zero) _ (hp.ext (An<|Av dp) ab) _hfuncs (aq.ext ab) _hvars oM oM) ?_
  rintro em en ⟨rfl,aw⟩
  refine⟨_,rfl,aw,?_⟩
  have de:=aw.size
  have cm:=ab.trans aw
  have b9:=am.ext aw
  have ba:=b3.ext aw
  refine Bn (!(wf p funcs (ex.kids.getD k Ex.zero) vars)) Z Z Aa<|Aj ?_
  cases cn:(!(wf p funcs (ex.kids.getD k Ex.zero) vars))
  ·refine Ah (by first|rfl|exact zW cn)<|A2<|Ab _ [0,0] Z<|AP ((k+1:Nat):Int) Z Z (Bl oM sD) Aa<|Ac 1 Z ?_
   exact⟨k+1,_,rfl,zR,⟨cm,b9,ba,sD,OY⟩,zD⟩
  exact Ag (by first|rfl|exact zW cn)<|cA Z<|A1<|AC<|Al<|Al<|AC<|Al<|Af [6] Z (.bool false) Z ⟨BW,cm⟩
 exact AG false Z Z (A6 cd) Aa<|Aj<|A0<|Ah Z<|A4<|Ax<|Ax<|At<|cA Z<|A1<|Af [6] Z (.bool true) Z ⟨BW,b0⟩
theorem OZ {s:ByteArray}{k:Nat}(hk:k<s.size)(h:(Js s k<97∨122<Js s k)∧(k=0∨Js s k<48∨57<Js s k)):false=Kr s:=by
  have hc:UU s k=false:=by
    unfold UU
    rcases h with⟨h1|h1,h2|h2|h2⟩ <;> simp <;> omega
  unfold Kr
  rw[JC hk hc,Bool.and_false]
theorem Qv {s:ByteArray}{k:Nat}(h:(97≤Js s k∧Js s k≤122)∨(k≠0∧48≤Js s k∧Js s k≤57)):UU s k=true:=by
  unfold UU
  rcases h with h|h <;> simp <;> omega
theorem Ti {s:ByteArray}{k:Nat}{b:Bool}(h:(List.range k).all (UU s)=true)(hk:k=s.size)(hb:b=(decide (1≤s.size) && decide (s.size≤12))):b=Kr s:=by
  subst hk
  unfold Kr
  rw[h,Bool.and_true,hb]
theorem HA {p:Prop}(h:p:=by first|exact AI (OZ (k:=k) oM oM)|exact AI (Ti hq oM (by first|(rw[A5 (show 1≤s.size by omega),Bool.true_and];exact decide_eq_decide.2 oM)|(rw[A6 (show ¬1≤s.size by omega)];rfl)))):p:=h
theorem LU (w:World)(s:ByteArray)  (hl:s.size≤1000000000) :
  Calls Tryz.prog 203 #[.string s] w (fun e w'=>e=.returned (.bool (Kr s))∧w'=w):=by
 refine Aq [.string s] 44 Tryz.func203 Z Z sM ?_
 have a3:w=w:=rfl
 refine cA Z<|A0<|bZ [0,0,0] Z<|Ad 1 Z<|KI (s:=s) u9 Z Aa<|Ac 1 Z<|A3 ?_
 refine B1 (S:=Nat) (fun k=>([(6,zI (k:Int)),(0,.string s),(5,zI (s.size:Int))])) (fun k W=>W=w∧k≤s.size∧(List.range k).all (UU s)=true) (fun k=>s.size-k) 0 ⟨rfl,rfl,rfl,trivial⟩ ⟨a3,sD,(by rfl)⟩ ?_
 clear a3
 rintro k ρ1 w1 ⟨a0,a4,hq⟩
 refine bZ [0] Z ?_
 by_cases a5:(k:Int)<(s.size:Int)
 ·refine AG true Z Z (A5 a5) Aa<|Aj<|A0<|Ag Z<|A2<|A0<|A3<|bZ [0,0] Z<|Ac 2 Z<|bZ [0,0,0,0,0,0,0,0,0,0,0,0,0,0,0,0,0,0,0,0,0,0,0,0,0,0] Z<|Ad 2 Z<|Db (s:=s) k u9 Z Z Z sD Aa ?_
  by_cases a6:((Js s k:Nat):Int)<97
  ·refine AG true Z Z (A5 a6) Aa<|Ad 8 Z ?_
   by_cases a7:(k:Int)=((0:Nat):Int)
   ·exact Am true Z Z (A5 a7) (Ae (e:=19) Z Z Z)<|Ac 13 Z<|Ag Z<|cA Z<|A1<|AC<|Al<|Al<|AC<|Al<|Af [2] Z (.bool false) Z ⟨HA,a0⟩
   refine Am false Z Z (A6 a7) (Ae (e:=19) Z Z Z)<|Ad 3 Z<|Db (s:=s) k u9 Z Z Z sD (Ae (e:=22) Z Z Z) ?_
   by_cases a8:((Js s k:Nat):Int)<48
   ·exact AG true Z Z (A5 a8) (Ae (e:=22) Z Z Z)<|Ac 8 Z<|Ag Z<|cA Z<|A1<|AC<|Al<|Al<|AC<|Al<|Af [2] Z (.bool false) Z ⟨HA,a0⟩
   refine AG false Z Z (A6 a8) (Ae (e:=22) Z Z Z)<|Ad 4 Z<|Db (s:=s) k u9 Z Z Z sD (Ae (e:=28) Z Z Z) ?_
   by_cases a9:57<((Js s k:Nat):Int)
   ·exact BU true Z Z (A5 a9) (Ae (e:=28) Z Z Z)<|Ac 2 Z<|Ag Z<|cA Z<|A1<|AC<|Al<|Al<|AC<|Al<|Af [2] Z (.bool false) Z ⟨HA,a0⟩
   refine BU false Z Z (A6 a9) (Ae (e:=28) Z Z Z)<|Ac 2 Z<|Ah Z<|A2<|Ab _ [0,0] Z<|AP ((k+1:Nat):Int) Z Z (Bl oM sD) Aa<|Ac 1 Z ?_
   exact⟨k+1,_,rfl,zR,⟨a0,sD,(by exact DK hq (Qv oM))⟩,zD⟩
  refine AG false Z Z (A6 a6) Aa<|Ad 3 Z<|Db (s:=s) k u9 Z Z Z sD (Ae (e:=13) Z Z Z) ?_
  by_cases aa:122<((Js s k:Nat):Int)
  ·refine BU true Z Z (A5 aa) (Ae (e:=13) Z Z Z)<|Ad 3 Z ?_
   by_cases ab:(k:Int)=((0:Nat):Int)
   ·exact Am true Z Z (A5 ab) (Ae (e:=19) Z Z Z)<|Ac 13 Z<|Ag Z<|cA Z<|A1<|AC<|Al<|Al<|AC<|Al<|Af [2] Z (.bool false) Z ⟨HA,a0⟩
   refine Am false Z Z (A6 ab) (Ae (e:=19) Z Z Z)<|Ad 3 Z<|Db (s:=s) k u9 Z Z Z sD (Ae (e:=22) Z Z Z) ?_
   by_cases ac:((Js s k:Nat):Int)<48
   ·exact AG true Z Z (A5 ac) (Ae (e:=22) Z Z Z)<|Ac 8 Z<|Ag Z<|cA Z<|A1<|AC<|Al<|Al<|AC<|Al<|Af [2] Z (.bool false) Z ⟨HA,a0⟩
   refine AG false Z Z (A6 ac) (Ae (e:=22) Z Z Z)<|Ad 4 Z<|Db (s:=s) k u9 Z Z Z sD (Ae (e:=28) Z Z Z) ?_
   by_cases a1:57<((Js s k:Nat):Int)
   ·exact BU true Z Z (A5 a1) (Ae (e:=28) Z Z Z)<|Ac 2 Z<|Ag Z<|cA Z<|A1<|AC<|Al<|Al<|AC<|Al<|Af [2] Z (.bool false) Z ⟨HA,a0⟩
   refine BU false Z Z (A6 a1) (Ae (e:=28) Z Z Z)<|Ac 2 Z<|Ah Z<|A2<|Ab _ [0,0] Z<|AP ((k+1:Nat):Int) Z Z (Bl oM sD) Aa<|Ac 1 Z ?_
   exact⟨k+1,_,rfl,zR,⟨a0,sD,(by exact DK hq (Qv oM))⟩,zD⟩
  refine BU false Z Z (A6 aa) (Ae (e:=13) Z Z Z)<|Ac 17 Z<|Ah Z<|A2<|Ab _ [0,0] Z<|AP ((k+1:Nat):Int) Z Z (Bl oM sD) Aa<|Ac 1 Z ?_
  exact⟨k+1,_,rfl,zR,⟨a0,sD,(by exact DK hq (Qv oM))⟩,zD⟩
 refine AG false Z Z (A6 a5) Aa<|Aj<|A0<|Ah Z<|A4<|Ax<|Ax<|At<|bZ [0,0,0,0,0,0,0,0,0] Z<|Ad 1 Z<|KI (s:=s) u9 Z Aa ?_
 by_cases a2:((1:Nat):Int)≤(s.size:Int)
 ·exact Dv true Z Z (A5 a2) Aa<|Ad 2 Z<|KI (s:=s) u9 Z (Ae (e:=39) Z Z Z)<|DQ (decide ((s.size:Int)≤((12:Nat):Int))) Z Z Z (Ae (e:=39) Z Z Z)<|Ac 2 Z<|A1<|Af [2] Z (.bool<|decide ((s.size:Int)≤((12:Nat):Int))) Z ⟨HA,a0⟩
 exact Dv false Z Z (A6 a2) Aa<|Ac 6 Z<|A1<|Af [2] Z (.bool false) Z ⟨HA,a0⟩
theorem Ha (w:World)(dx:Nat)(vo:Value)(x:Fn)(bf:Nat)(vf:Value)(f:Fn)(hx:RF [] dx w.heap vo x)(hBf:BX w.heap bf [.string f.name,zI f.params,vf])  :
  Calls Tryz.prog 204 #[(.agg #[(.string x.name),(zI x.params),vo]),zP bf] w (fun e w'=>e=.returned (.bool (HZ x.name f.name))∧AF w w'):=by
 refine Aq [.agg #[.string x.name,zI x.params,vo],zP bf] 9 Tryz.func204 Z Z sM ?_
 have a3:AF w w:=AF.refl w
 have a8:=hx.rn.lenle
 unfold maxLen at a8
 refine bZ [3,0] Z ?_
 have a6:=hBf.lt
 refine Bu (cs:=#[.string x.name,zI x.params,vo]) Z Aa fun w1 a1 a7 a2=>?_
 have a4:=a1.size
 have a5:=a3.trans a1
 have a0:=hBf.ext a1
 replace a2:BX w1.heap w.heap.size [.string x.name,zI x.params,vo]:=a2
 exact Ac 1 Z<|bZ [0,2,0,2,0,0] Z<|Ak (p:=zP w.heap.size) 0 JN Z Z Aa<|Ai (p:=Ap (zP w.heap.size) 0) (.inr Z) (.string x.name) OT Z (a2.ldp (i:=0) sM) Aa<|Ak (p:=zP bf) 0 JN Z Z Aa<|Ai (p:=Ap (zP bf) 0) (.inr Z) (.string f.name) OT Z (a0.ldp (i:=0) sM) Aa<|OA (HZ x.name f.name) u9 Z Z Z Aa<|Ac 1 Z<|A1<|Af [3] Z (.bool<|HZ x.name f.name) Z ⟨rfl,a5⟩
theorem D2 (w:World) (da:Nat) (va:Value) (a:List Fn) (q:Nat) (qf qc:List Value) (pr:Fn→Bool) (ha:RP [] da w.heap va a) (hcf_q:((Tryz.prog.funcs[q]?).map fun fn=>(fn.name != "runtime.NumGoroutine") && fn.body.isSome) = some true) (hpr:∀ (d9:Nat) (u:Value) (x:Fn) w1,RF [] d9 w1.heap u x→AF w w1→Calls Tryz.prog q (qf++[Value.agg #[Value.string x.name,Value.int .i64 x.params,u]]++qc).toArray w1 (fun e w2=>e = .returned (.bool (pr x))∧AF w1 w2))  :
  Calls Tryz.prog 201 #[va,.func (.func q) qf.toArray qc.toArray] w (fun e w'=>e = .returned (zI (R1 pr a))∧AF w w'):=by
 refine Aq [va,.func (.func q) qf.toArray qc.toArray] 19 Tryz.func201 Z Z sM ?_
 have a5:AF w w:=AF.refl w
 have ag:=ha.lenle
 unfold maxLen at ag
 refine cA Z<|A0<|bZ [0,0,0] Z<|Ad 1 Z<|AQ (v:=va) Gb Z ha.isSl Aa<|Ac 1 Z<|A3 ?_
 refine B1 (S:=Nat) (fun k=>([(8,zI ((k :Nat):Int)),(0,va),(1,.func (.func q) qf.toArray qc.toArray),(7,zI ((a.length :Nat):Int))])) (fun k W=>AF w W∧k≤a.length∧(∀ j,j < k→pr (a.getD j Fn.zero) = false)) (fun k=>a.length - k) 0 ⟨rfl,rfl,rfl,rfl,trivial⟩ ⟨a5,sD,(by intro j hj; omega)⟩ ?_
 clear a5
 rintro k ρ1 w1 ⟨a1,a6,hq⟩
 have aa:w.heap.size≤w1.heap.size:=a1.size
 refine bZ [0] Z ?_
 by_cases a7:((k :Nat):Int) < ((a.length :Nat):Int)
 ·
  refine AG true Z Z (A5 a7) Aa<|Aj<|A0<|Ag Z<|A2<|A0<|A3<|bZ [0,0] Z<|Ac 2 Z<|bZ [0,0,0,0,2,3] Z<|Ad 3 Z<|AB (v:=va) k Gb Cj Z Z ha.isSl Z sD Aa ?_
  obtain ⟨cs3,ab,ac⟩:=ha.get (Av da) Fn.zero (k:=k) sD
  obtain ⟨a8,rfl,a2⟩:=RF.of ab
  have a3:=a2.rn.lenle
  unfold maxLen at a3
  refine AK (p:=Ay va k 3) (.inr Z) [.string<|(a.getD k Fn.zero).name,zI<|(a.getD k Fn.zero).params,a8] Jm Z (fun ah ad=>ac ah<|Au.of_ext []<|a1.trans ad) Z Aa ?_
  have a0:=hpr da a8 (a.getD k Fn.zero) w1 ⟨a2.rng,a2.rn.ext (An<|Aw da) a1⟩ a1
  refine As q qf qc _ Z Z hcf_q Aa a0 ?_
  rintro e4 w4 ⟨rfl,a4⟩
  refine ⟨_,rfl,a4,?_⟩
  have ae:=a4.size
  have a9:=a1.trans a4
  cases af:pr (a.getD k Fn.zero)
  ·
   refine Aj<|Ah Z<|A2<|Ab _ [0,0] Z<|AP ((k + 1 :Nat):Int) Z Z (Bl oM sD) Aa<|Ac 1 Z ?_
   exact ⟨k + 1,_,rfl,zR,⟨a9,sD,(by exact Qu hq (by assumption))⟩,by first | omega | (dsimp only; omega)⟩
  
  exact Aj<|Ag Z<|bZ [0,0] Z<|Ac 2 Z<|A1<|AC<|Al<|Al<|AC<|Al<|Af [4] Z (zI ((k :Nat):Int)) Z ⟨B4<|Td Fn.zero hq oM (by assumption),a9⟩
 
 exact AG false Z Z (A6 a7) Aa<|Aj<|A0<|Ah Z<|A4<|Ax<|Ax<|At<|cA Z<|A1<|Af [4] Z (zI (-1)) Z ⟨B4<|VK Fn.zero hq oM,a1⟩
theorem CN (w:World) (da:Nat) (va:Value) (a:List Fn) (q:Nat) (qf qc:List Value) (pr:Fn→Bool) (ha:RP [] da w.heap va a) (hcf_q:((Tryz.prog.funcs[q]?).map fun fn=>(fn.name != "runtime.NumGoroutine") && fn.body.isSome) = some true) (hpr:∀ (d9:Nat) (u:Value) (x:Fn) w1,RF [] d9 w1.heap u x→AF w w1→Calls Tryz.prog q (qf++[Value.agg #[Value.string x.name,Value.int .i64 x.params,u]]++qc).toArray w1 (fun e w2=>e = .returned (.bool (pr x))∧AF w1 w2))  :
  Calls Tryz.prog 133 #[va,.func (.func q) qf.toArray qc.toArray] w (fun e w'=>e = .returned (.bool (a.any pr))∧AF w w'):=by
 refine Aq [va,.func (.func q) qf.toArray qc.toArray] 9 Tryz.func133 Z Z sM ?_
 have a0:AF w w:=AF.refl w
 have a4:=ha.lenle
 unfold maxLen at a4
 refine cA Z<|bZ [0,0,3,0,0] Z<|Ad 2 Z<|As 201 [] [] [va,.func (.func q) qf.toArray qc.toArray] Z Z Z2 Aa (D2 _ da va (a) q qf qc pr (ha.ext (An<|Av da) a0) hcf_q fun d9 u x w1 hx hw=>hpr d9 u x w1 hx<|a0.trans hw) ?_
 rintro e1 w1 ⟨rfl,a1⟩
 refine ⟨_,rfl,a1,?_⟩
 have a2:=a1.size
 have a3:=a0.trans a1
 exact Dv (decide (((0 :Nat):Int)≤R1 pr a)) Z Z Z Aa<|Ac 1 Z<|A1<|Af [4] Z (.bool<|decide (((0 :Nat):Int)≤R1 pr a)) Z ⟨AI<|VL pr a,a3⟩
theorem Lr (w:World)(vars:Int)(_hvars:Bx vars)  :
  Calls Tryz.prog 235 #[zI vars] w (fun e w'=>e=.returned (.bool (E7 vars 0 412))∧w'=w):=by
 refine Aq [zI vars] 5 Tryz.func235 Z Z sM ?_
 have a0:w=w:=rfl
 exact cA Z<|bZ [0,0,0] Z<|Ad 1 Z<|Az 117 [] [] [zI vars,zI ((0:Nat):Int),zI ((412:Nat):Int)] Z Z CR Aa (.bool (decide (((0:Nat):Int)≤vars) && decide (vars≤((412:Nat):Int)))) (fun wq=>AW wq _ _ _ _hvars oM oM)<|Ac 1 Z<|A1<|Af [2] Z (.bool (decide (((0:Nat):Int)≤vars) && decide (vars≤((412:Nat):Int)))) Z ⟨rfl,a0⟩
theorem Qw {p:List Fn}{e:Ex}{vars funcs:Int}(h:(0≤vars∧vars≤412)∧(0≤funcs∧funcs≤((p.length:Nat):Int))∧e.size≤400∧e.deep≤60):wf p funcs e vars=LO p e vars funcs:=by
  unfold LO
  rw[Br.2 h.1,Br.2 h.2.1,A5 h.2.2.1,A5 h.2.2.2];rfl
theorem My {p:List Fn}{e:Ex}{vars funcs:Int}(h:¬((0≤vars∧vars≤412)∧(0≤funcs∧funcs≤((p.length:Nat):Int))∧e.size≤400∧e.deep≤60)):false=LO p e vars funcs:=by
  cases hh:LO p e vars funcs with
  |false=>rfl
  |true =>
    unfold LO at hh
    simp only[z7,decide_eq_true_eq,Br]at hh
    exact absurd ⟨hh.1,hh.2.1,hh.2.2.1,hh.2.2.2.1⟩ h
theorem VN {p:List Fn}{e:Ex}{vars funcs:Int}(h:wf p funcs e vars=false):false=LO p e vars funcs:=by
  unfold LO;rw[h];simp
theorem Tj {x a b:Int}(h:E7 x a b=false):¬(a≤x∧x≤b):=fun hh=>by rw[Br.2 hh]at h;cases h
theorem Qy {x a b:Int}(h:(decide (a≤x) && decide (x≤b))=false):¬(a≤x∧x≤b):=Tj h
theorem HB {x a b:Int}(h:(decide (a≤x) && decide (x≤b))=true):a≤x∧x≤b:=Br.1 h
theorem Ls {p:Prop}(h:p:=by first|exact AI (VN (by assumption))|exact AI (Qw ⟨Br.1 (by assumption),HB (by assumption),zO,zO⟩)|exact AI ((by assumption:wf p funcs ex vars=true).symm.trans (Qw ⟨Br.1 (by assumption),HB (by assumption),zO,zO⟩))|exact AI (My fun hh=>Tj (by assumption) hh.1)|exact AI (My fun hh=>Qy (by assumption) hh.2.1)|exact AI (My oM)):p:=h
theorem JQ (w:World)(dp:Nat)(vp:Value)(p:List Fn)(dex:Nat)(ve:Value)(ex:Ex)(vars:Int)(funcs:Int)(hp:RP [] dp w.heap vp p)(hex:RX [] dex w.heap ve ex)(_hvars:Bx vars)(_hfuncs:Bx funcs)(hs:ex.size≤1000000000) :
  Calls Tryz.prog 205 #[(.agg #[vp]),(.agg #[(zI ex.kind),(zI ex.num),(zI ex.pick),(zI ex.count),ve]),zI vars,zI funcs] w (fun e w'=>e=.returned (.bool (LO p ex vars funcs))∧AF w w'):=by
 refine Aq [.agg #[vp],.agg #[zI ex.kind,zI ex.num,zI ex.pick,zI ex.count,ve],zI vars,zI funcs] 36 Tryz.func205 Z Z sM ?_
 have am:AF w w:=AF.refl w
 have az:=hp.lenle
 unfold maxLen at az
 have b0:=hex.rn.lenle
 unfold maxLen at b0
 refine bZ [3,3,0] Z (Bu (cs:=#[vp]) Z Aa fun w1 ai ar ac=>?_)
 have an:=ai.size
 have ao:=am.trans ai
 replace ac:BX w1.heap w.heap.size [vp]:=ac
 have au:=ac.lt
 refine Bu (cs:=#[zI ex.kind,zI ex.num,zI ex.pick,zI ex.count,ve]) Z Aa fun w2 af av ad=>?_
 have ap:=af.size
 have ae:=ao.trans af
 have a2:=ac.ext af
 replace ad:BX w2.heap w1.heap.size [zI ex.kind,zI ex.num,zI ex.pick,zI ex.count,ve]:=ad
 refine Ac 1 Z<|bZ [0,0,0,0,0,2,0,0,0,0,2,3,0,0,0,2,3,0,0,0,2,0,0,2,0,3,0,0] Z<|Ad 1 Z<|Az 235 [] [] [zI vars] Z Z Zc Aa (.bool<|E7 vars 0 412) (fun wq=>Lr wq _ _hvars)<|Ad 1 Z ?_
 cases aw:(E7 vars 0 412)
 ·exact Ac 25 Z<|A1<|Af [8] Z (.bool false) Z ⟨Ls,ae⟩
 refine Ad 1 Z<|Ak (p:=zP w.heap.size) 0 Bv Z Z (Ae (e:=11) Z Z Z)<|Ai (p:=Ap (zP w.heap.size) 0) (.inr Z) vp BY Z (a2.ldp (i:=0) sM) (Ae (e:=11) Z Z Z)<|AQ (v:=vp) Gb Z hp.isSl (Ae (e:=11) Z Z Z)<|Az 117 [] [] [zI funcs,zI ((0:Nat):Int),zI (p.length:Int)] Z Z CR (Ae (e:=11) Z Z Z) (.bool (decide (((0:Nat):Int)≤funcs) && decide (funcs≤(p.length:Int)))) (fun wq=>AW wq _ _ _ _hfuncs oM oM)<|Ad 2 Z ?_
 cases ax:(decide (((0:Nat):Int)≤funcs) && decide (funcs≤(p.length:Int)))
 ·exact Ac 18 Z<|A1<|Af [8] Z (.bool false) Z ⟨Ls,ae⟩
 refine AK (p:=zP w1.heap.size) (.inr Z) [zI ex.kind,zI ex.num,zI ex.pick,zI ex.count,ve] B6 Z (fun b1 a4=>LD.of_box<|BX.ext (w:=w2) ad a4) Z (Ae (e:=18) Z Z Z)<|As 206 [] [] [.agg #[zI ex.kind,zI ex.num,zI ex.pick,zI ex.count,ve]] Z Z T3 (Ae (e:=18) Z Z Z) (H1 _ dex ve (ex) (hex.ext ae) oM) ?_
 rintro e8 w8 ⟨rfl,a8⟩
 refine⟨_,rfl,a8,?_⟩
 have aq:=a8.size
 have ag:=ae.trans a8
 have a9:=a2.ext a8
 have a3:=ad.ext a8
 by_cases aj:(ex.size:Int)≤((400:Nat):Int)
 ·refine DQ true Z Z (A5 aj) (Ae (e:=18) Z Z Z)<|Ad 2 Z<|AK (p:=zP w1.heap.size) (.inr Z) [zI ex.kind,zI ex.num,zI ex.pick,zI ex.count,ve] B6 Z (fun b1 a4=>LD.of_box<|BX.ext (w:=w8) a3 a4) Z (Ae (e:=23) Z Z Z)<|As 236 [] [] [.agg #[zI ex.kind,zI ex.num,zI ex.pick,zI ex.count,ve]] Z Z VD (Ae (e:=23) Z Z Z) (JP _ dex ve (ex) (hex.ext ag) oM) ?_
  rintro b4 b2 ⟨rfl,a0⟩
  refine⟨_,rfl,a0,?_⟩
  have ak:=a0.size
  have a1:=ag.trans a0
  have a5:=a9.ext a0
  have a6:=a3.ext a0
  by_cases aa:(ex.deep:Int)≤((60:Nat):Int)
  ·refine DQ true Z Z (A5 aa) (Ae (e:=23) Z Z Z)<|Ad 2 Z<|AK (p:=zP w.heap.size) (.inr Z) [vp] BZ Z (fun b1 a4=>LD.of_box<|BX.ext (w:=b2) a5 a4) Z (Ae (e:=28) Z Z Z)<|Ad 1 Z ?_
   have ab:∀(vp:Value) (ay:Nat) (h12_0:EA vp ay) (wq:World),(Instr.build 249 #[(0,.agg #[vp]),(1,zI funcs)]).run Tryz.prog wq=.ok (.agg #[vp,zI funcs]) wq:=by intro vp ay h12_0 wq;obtain⟨a12_0,b3,rfl,_⟩:=h12_0;kernel_rfl
   refine C3 (ps:=#[(0,.agg #[vp]),(1,zI funcs)]) (.agg #[vp,zI funcs]) (by simp only[zc,zf,zh];rfl) (fun wq=>ab vp _ hp.isSl wq) (Ae (e:=28) Z Z Z)<|AK (p:=zP w1.heap.size) (.inr Z) [zI ex.kind,zI ex.num,zI ex.pick,zI ex.count,ve] B6 Z (fun b1 a4=>LD.of_box<|BX.ext (w:=b2) a6 a4) Z (Ae (e:=28) Z Z Z)<|Ad 1 Z ?_
   refine As 237 [] [] [.agg #[vp,zI funcs],.agg #[zI ex.kind,zI ex.num,zI ex.pick,zI ex.count,ve],zI vars] Z Z Qo (Ae (e:=28) Z Z Z) (Gs _ dp vp (p) (funcs) dex ve (ex) _ (hp.ext (An<|Av dp) a1) _hfuncs (hex.ext a1) _hvars (by have h1:=Br.1 (by assumption:E7 vars 0 412=true);omega) (by have h2:=HB (by assumption:(decide (((0:Nat):Int)≤funcs) && decide (funcs≤(p.length:Int)))=true);omega)) ?_
   rintro b5 b6 ⟨rfl,a7⟩
   refine⟨_,rfl,a7,?_⟩
   have al:=a7.size
   have ah:=a1.trans a7
   exact Ac 2 Z<|A1<|Af [8] Z (.bool<|wf p funcs ex vars) Z ⟨Ls,ah⟩
  exact DQ false Z Z (A6 aa) (Ae (e:=23) Z Z Z)<|Ac 10 Z<|A1<|Af [8] Z (.bool false) Z ⟨Ls,a1⟩
 exact DQ false Z Z (A6 aj) (Ae (e:=18) Z Z Z)<|Ac 15 Z<|A1<|Af [8] Z (.bool false) Z ⟨Ls,ag⟩
theorem Tk {p:List Fn}(h:¬p.length≤16):false=G7 p:=by unfold G7;rw[A6 h];rfl
theorem ID {p:List Fn}{k:Nat}(hk:k<p.length)(h:K4 p k=false):false=G7 p:=by unfold G7;rw[JC hk h,Bool.and_false]
theorem Tl {p:List Fn}{k:Nat}(hl:p.length≤16)(hk:p.length≤k)(hk2:k≤p.length)(h:(List.range k).all (K4 p)=true):true=G7 p:=by
  have:k=p.length:=by omega
  subst this;unfold G7;rw[h,A5 hl];rfl
section
variable {p:List Fn} {k:Nat}
theorem Zv (h:Kr (p.getD k Fn.zero).name=false):K4 p k=false:=by unfold K4;rw[h];rfl
theorem Zw (h:(p.take k).any (fun g=>HZ g.name (p.getD k Fn.zero).name)=true):K4 p k=false:=by unfold K4 QG;rw[h];simp
theorem Zx (h:(decide (((0:Nat):Int)≤(p.getD k Fn.zero).params) && decide ((p.getD k Fn.zero).params≤((12:Nat):Int)))=false):K4 p k=false:=by
  have h':E7 (p.getD k Fn.zero).params 0 12=false:=h
  unfold K4;rw[h'];simp
theorem Zy (h:(decide (((1:Nat):Int)≤(((p.getD k Fn.zero).outs.length:Nat):Int)) && decide ((((p.getD k Fn.zero).outs.length:Nat):Int)≤((12:Nat):Int)))=false):K4 p k=false:=by
  have h':E7 (((p.getD k Fn.zero).outs.length:Nat):Int) 1 12=false:=h
  unfold K4;rw[h'];simp
theorem Zz {j:Nat}(hj:j<(p.getD k Fn.zero).outs.length)(h:LO p ((p.getD k Fn.zero).outs.getD j Ex.zero) (p.getD k Fn.zero).params ((k:Nat):Int)=false):K4 p k=false:=by
  unfold K4
  rw[JC hj h];simp
theorem ZA (h:¬Ex.sizes (p.getD k Fn.zero).outs≤400):K4 p k=false:=by
  unfold K4;rw[A6 h];simp
theorem VO {j:Nat}(h1:Kr (p.getD k Fn.zero).name=true)(h2:(p.take k).any (fun g=>HZ g.name (p.getD k Fn.zero).name)=false)(h3:(decide (((0:Nat):Int)≤(p.getD k Fn.zero).params) && decide ((p.getD k Fn.zero).params≤((12:Nat):Int)))=true)(h4:(decide (((1:Nat):Int)≤(((p.getD k Fn.zero).outs.length:Nat):Int)) && decide ((((p.getD k Fn.zero).outs.length:Nat):Int)≤((12:Nat):Int)))=true)(h5:(List.range j).all (fun j=>LO p ((p.getD k Fn.zero).outs.getD j Ex.zero) (p.getD k Fn.zero).params ((k:Nat):Int))=true)(hj:j=(p.getD k Fn.zero).outs.length)(h6:Ex.sizes (p.getD k Fn.zero).outs≤400):K4 p k=true:=by
  have h3':E7 (p.getD k Fn.zero).params 0 12=true:=h3
  have h4':E7 (((p.getD k Fn.zero).outs.length:Nat):Int) 1 12=true:=h4
  subst hj
  unfold K4 QG
  rw[h1,h2,h3',h4',h5,A5 h6];rfl
end
theorem Do {b:Bool}(h:(!b)=false):b=true:=by cases b <;> simp_all
theorem CX {b:Bool}(h:(!b)=true):b=false:=by cases b <;> simp_all
theorem HC {p:Prop}(h:p:=by first|exact AI (Tk oM)|exact AI (Tl oM oM oM hq)|exact AI (ID (k:=k) oM (Zv (CX (by assumption))))|exact AI (ID (k:=k) oM (Zw (by assumption)))|exact AI (ID (k:=k) oM (Zx (CX (by assumption))))|exact AI (ID (k:=k) oM (Zy (CX (by assumption))))|exact AI (ID (k:=k) oM (Zz (j:=j) oM (CX (by assumption))))|exact AI (ID (k:=k) oM (ZA oM))):p:=h
theorem EK (w:World)(dp:Nat)(vp:Value)(p:List Fn)(hp:RP [] dp w.heap vp p)(hz:PJ p) :
  Calls Tryz.prog 137 #[(.agg #[vp])] w (fun e w'=>e=.returned (.bool (G7 p))∧AF w w'):=by
 refine Aq [.agg #[vp]] 65 Tryz.func137 Z Z sM ?_
 have bq:AF w w:=AF.refl w
 have ch:=hp.lenle
 unfold maxLen at ch
 refine bZ [3,0] Z (Bu (cs:=#[vp]) Z Aa fun w1 be c0 aw=>?_)
 have bf:=be.size
 have bg:=bq.trans be
 replace aw:BX w1.heap w.heap.size [vp]:=aw
 refine Ac 1 Z<|A0<|bZ [0,2,0,0] Z<|Ak (p:=zP w.heap.size) 0 Bv Z Z Aa<|Ai (p:=Ap (zP w.heap.size) 0) (.inr Z) vp BY Z (aw.ldp (i:=0) sM) Aa<|AQ (v:=vp) Gb Z hp.isSl Aa ?_
 by_cases br:((16:Nat):Int)<(p.length:Int)
 ·exact BU true Z Z (A5 br) Aa<|Aj<|Ag Z<|cA Z<|A1<|Al<|Af [2] Z (.bool false) Z ⟨HC,bg⟩
 refine BU false Z Z (A6 br) Aa<|Aj<|Ah Z<|A2<|A0<|bZ [0,2,0,0] Z<|Ak (p:=zP w.heap.size) 0 Bv Z Z Aa<|Ai (p:=Ap (zP w.heap.size) 0) (.inr Z) vp BY Z (aw.ldp (i:=0) sM) Aa<|AQ (v:=vp) Gb Z hp.isSl Aa<|Ac 1 Z<|A3 ?_
 refine B1 (S:=Nat) (fun k=>([(15,zI (k:Int)),(1,zP w.heap.size),(13,vp),(14,zI (p.length:Int))])) (fun k W=>AF w W∧BX W.heap w.heap.size [vp]∧k≤p.length∧(List.range k).all (K4 p)=true) (fun k=>p.length-k) 0 ⟨rfl,rfl,rfl,rfl,trivial⟩ ⟨bg,aw,sD,(by rfl)⟩ ?_
 clear bq c0 be bf bg
 rintro k ρ3 w3 ⟨ax,a4,bs,hq⟩
 have bh:w.heap.size≤w3.heap.size:=ax.size
 have ce:=a4.lt
 refine bZ [0] Z ?_
 by_cases bt:(k:Int)<(p.length:Int)
 ·refine AG true Z Z (A5 bt) Aa<|Aj<|A0<|Ag Z<|A2<|A0<|A3<|bZ [0,0,2,3,0,4] Z<|Ad 1 Z<|AB (v:=vp) k Gb Cj Z Z hp.isSl Z sD Aa ?_
  obtain⟨cs6,c1,c2⟩:=hp.get (Av dp) Fn.zero (k:=k) sD
  obtain⟨ab,rfl,ap⟩:=RF.of c1
  have ay:=ap.rn.lenle
  unfold maxLen at ay
  refine AK (p:=Ay vp k 3) (.inr Z) [.string<|(p.getD k Fn.zero).name,zI<|(p.getD k Fn.zero).params,ab] Jm Z (fun cg af=>c2 cg<|Au.of_ext []<|ax.trans af) Z Aa ?_
  have cf:=a4.lt
  refine Bo (z:=.agg #[.string ByteArray.empty,zI 0,zN]) Uz Aa fun w7 bb c3 bi=>?_
  have bj:=bb.size
  have bk:=ax.trans bb
  have a5:=a4.ext bb
  replace bi:BX w7.heap w3.heap.size [.string ByteArray.empty,zI 0,zN]:=bi
  refine Ad 1 Z (Bz (vs:=[.string<|(p.getD k Fn.zero).name,zI<|(p.getD k Fn.zero).params,ab]) Jm Z Z ap.ones bi Z Z Aa fun w9 bc c4 az=>?_)
  replace az:BX w9.heap w3.heap.size [.string ((p.getD k Fn.zero).name),zI ((p.getD k Fn.zero).params),ab]:=az
  have bd:AF w w9:=bc.below bk (fun _ h=>zE h) bk.size
  have bl:=bc.size
  have aq:=a5.chg bc (zB ·)
  refine Aj<|A0<|bZ [0,2,0,0,0,0,2,0,0,0,3,0] Z ?_
  have hzk:=hz k oM
  refine Ak (p:=zP w3.heap.size) 0 JN Z Z Aa<|Ai (p:=Ap (zP w3.heap.size) 0) (.inr Z) (.string<|(p.getD k Fn.zero).name) OT Z (az.ldp (i:=0) sM) Aa<|Az 203 [] [] [.string<|(p.getD k Fn.zero).name] Z Z Z3 Aa (.bool<|Kr<|(p.getD k Fn.zero).name) (fun wq=>LU wq ((p.getD k Fn.zero).name) oM)<|Bn (!(Kr<|(p.getD k Fn.zero).name)) Z Z Aa<|Ad 1 Z ?_
  cases c5:(!(Kr ((p.getD k Fn.zero).name)))
  ·refine Ak (p:=zP w.heap.size) 0 Bv Z Z (Ae (e:=24) Z Z Z)<|Ai (p:=Ap (zP w.heap.size) 0) (.inr Z) vp BY Z (aq.ldp (i:=0) sM) (Ae (e:=24) Z Z Z)<|Ad 1 Z<|X0 (v:=vp) (k:=k) Gb Cj Z hp.isSl hp.capS Z sD (Ae (e:=24) Z Z Z) ?_
   have b0:=RN.pref (Av dp) (k:=k) hp sD
   refine MA [] [zP w3.heap.size] Z Z (Ae (e:=24) Z Z Z)<|As 133 [] [] [Nu vp k,.func (.func 204) #[] #[zP w3.heap.size]] Z Z YL (Ae (e:=24) Z Z Z) (CN _ dp (Nu vp k) (p.take k) 204 [] [zP w3.heap.size] (fun g=>HZ g.name (p.getD k Fn.zero).name) (b0.ext (An<|Av dp) bd) Z4 fun d9 u x w1 hx hw=>Ha w1 d9 u x w3.heap.size ab (p.getD k Fn.zero) hx<|az.ext hw) ?_
   rintro cm cn ⟨rfl,a7⟩
   refine⟨_,rfl,a7,?_⟩
   have b1:=a7.size
   have ac:=bd.trans a7
   have a6:=aq.ext a7
   have a0:=az.ext a7
   refine Ac 1 Z ?_
   cases b2:((p.take k).any (fun g=>HZ g.name (p.getD k Fn.zero).name))
   ·refine Ah (by first|rfl|exact zW b2)<|A2<|A0<|bZ [0,2,0,0,0,0,2,0,0,0,0] Z<|Ak (p:=zP w3.heap.size) 1 C2 Z Z Aa<|Ai (p:=Ap (zP w3.heap.size) 1) (.inr Z) (zI<|(p.getD k Fn.zero).params) AD Z (a0.ldp (i:=1) sM) Aa<|Az 117 [] [] [zI<|(p.getD k Fn.zero).params,zI ((0:Nat):Int),zI ((12:Nat):Int)] Z Z CR Aa (.bool (decide (((0:Nat):Int)≤((p.getD k Fn.zero).params)) && decide (((p.getD k Fn.zero).params)≤((12:Nat):Int)))) (fun wq=>AW wq _ _ _ ap.rng oM oM) ?_
    refine Bn (!(decide (((0:Nat):Int)≤((p.getD k Fn.zero).params)) && decide (((p.getD k Fn.zero).params)≤((12:Nat):Int)))) Z Z Aa<|Ad 1 Z ?_
    cases c6:(!(decide (((0:Nat):Int)≤((p.getD k Fn.zero).params)) && decide (((p.getD k Fn.zero).params)≤((12:Nat):Int))))
    ·refine Ak (p:=zP w3.heap.size) 2 BL Z Z (Ae (e:=36) Z Z Z)<|Ai (p:=Ap (zP w3.heap.size) 2) (.inr Z) ab Bd Z (a0.ldp (i:=2) sM) (Ae (e:=36) Z Z Z)<|AQ (v:=ab) D1 Z ap.rn.isSl (Ae (e:=36) Z Z Z)<|Az 117 [] [] [zI ((((p.getD k Fn.zero).outs).length:Nat):Int),zI ((1:Nat):Int),zI ((12:Nat):Int)] Z Z CR (Ae (e:=36) Z Z Z) (.bool (decide (((1:Nat):Int)≤((((p.getD k Fn.zero).outs).length:Nat):Int)) && decide (((((p.getD k Fn.zero).outs).length:Nat):Int)≤((12:Nat):Int)))) (fun wq=>AW wq _ _ _ oM oM oM) ?_
     refine Bn (!(decide (((1:Nat):Int)≤((((p.getD k Fn.zero).outs).length:Nat):Int)) && decide (((((p.getD k Fn.zero).outs).length:Nat):Int)≤((12:Nat):Int)))) Z Z (Ae (e:=36) Z Z Z)<|Ac 1 Z ?_
     cases b3:(!(decide (((1:Nat):Int)≤((((p.getD k Fn.zero).outs).length:Nat):Int)) && decide (((((p.getD k Fn.zero).outs).length:Nat):Int)≤((12:Nat):Int))))
     ·refine Ah (by first|rfl|exact zW b3)<|A2<|cA Z<|A0<|bZ [0,2,0,0] Z<|Ak (p:=zP w3.heap.size) 2 BL Z Z Aa<|Ai (p:=Ap (zP w3.heap.size) 2) (.inr Z) ab Bd Z (a0.ldp (i:=2) sM) Aa<|AQ (v:=ab) D1 Z ap.rn.isSl Aa<|Ac 1 Z<|A3 ?_
      refine B1 (S:=Nat×Nat) (fun⟨j,sz⟩=>([(5,zI (sz:Int)),(46,zI (j:Int)),(1,zP w.heap.size),(3,zI (k:Int)),(4,zP w3.heap.size),(13,vp),(14,zI (p.length:Int)),(15,zI (k:Int)),(44,ab),(45,zI ((((p.getD k Fn.zero).outs).length:Nat):Int))])) (fun⟨j,sz⟩ W=>AF w W∧BX W.heap w.heap.size [vp]∧BX W.heap w3.heap.size [.string<|(p.getD k Fn.zero).name,zI<|(p.getD k Fn.zero).params,ab]∧j≤(p.getD k Fn.zero).outs.length∧sz=Ex.sizes ((p.getD k Fn.zero).outs.take j)∧(List.range j).all (fun j=>LO p ((p.getD k Fn.zero).outs.getD j Ex.zero) (p.getD k Fn.zero).params (k:Int))=true) (fun⟨j,sz⟩=>(p.getD k Fn.zero).outs.length-j) (0,0) ⟨rfl,rfl,rfl,rfl,rfl,rfl,rfl,rfl,rfl,rfl,trivial⟩ ⟨ac,a6,a0,sD,(by rw[List.take_zero,M8]),(by rfl)⟩ ?_
      clear a4 ax bh ay c3 bb bj bk a5 c4 bc bd bl aq a7 b1 ac a6
      rintro⟨j,sz⟩ ρ20 ci ⟨ad,a1,a3,bm,hsz,hqe⟩
      have bu:w.heap.size≤ci.heap.size:=ad.size
      have c7:=a1.lt
      have c8:=a3.lt
      refine bZ [0] Z ?_
      by_cases b4:(j:Int)<((((p.getD k Fn.zero).outs).length:Nat):Int)
      ·refine AG true Z Z (A5 b4) Aa<|Aj<|A0<|Ag Z<|A2<|A0<|A3<|bZ [0,2,3,4] Z<|AB (v:=ab) j D1 Bk Z Z ap.rn.isSl Z sD Aa ?_
       obtain⟨cs24,bn,bo⟩:=ap.rn.get (Aw dp) Ex.zero (k:=j) sD
       obtain⟨dd24,a2,c9,rfl,ag⟩:=RX.of bn
       have b5:=ag.rn.lenle
       unfold maxLen at b5
       refine AK (p:=Ay ab j 5) (.inr Z) [zI<|(((p.getD k Fn.zero).outs).getD j Ex.zero).kind,zI<|(((p.getD k Fn.zero).outs).getD j Ex.zero).num,zI<|(((p.getD k Fn.zero).outs).getD j Ex.zero).pick,zI<|(((p.getD k Fn.zero).outs).getD j Ex.zero).count,a2] B6 Z (fun cg af=>bo cg<|Au.of_ext []<|ad.trans af) Z Aa ?_
       have ca:=a1.lt
       have cb:=a3.lt
       refine Bo (z:=.agg #[zI 0,zI 0,zI 0,zI 0,zN]) Hw Aa fun ck ah cc ar=>?_
       have bv:=ah.size
       have b6:=ad.trans ah
       have a8:=a1.ext ah
       have a9:=a3.ext ah
       replace ar:BX ck.heap ci.heap.size [zI 0,zI 0,zI 0,zI 0,zN]:=ar
       refine Bz (vs:=[zI<|(((p.getD k Fn.zero).outs).getD j Ex.zero).kind,zI<|(((p.getD k Fn.zero).outs).getD j Ex.zero).num,zI<|(((p.getD k Fn.zero).outs).getD j Ex.zero).pick,zI<|(((p.getD k Fn.zero).outs).getD j Ex.zero).count,a2]) B6 Z Z ag.ones ar Z Z Aa fun cj ai cd aj=>?_
       replace aj:BX cj.heap ci.heap.size [zI ((((p.getD k Fn.zero).outs).getD j Ex.zero).kind),zI ((((p.getD k Fn.zero).outs).getD j Ex.zero).num),zI ((((p.getD k Fn.zero).outs).getD j Ex.zero).pick),zI ((((p.getD k Fn.zero).outs).getD j Ex.zero).count),a2]:=aj
       have au:AF w cj:=ai.below b6 (fun _ h=>zE h) b6.size
       have bw:=ai.size
       have b7:=a8.chg ai (zB ·)
       have b8:=a9.chg ai (zB ·)
       refine Aj<|A0<|bZ [2,2,0,2,0,3,0] Z ?_
       have hst:=DE (l:=(p.getD k Fn.zero).outs) (k:=j) oM
       have hle:=Dg (p.getD k Fn.zero).outs (j+1)
       refine AK (p:=zP w.heap.size) (.inr Z) [vp] BZ Z (fun cg af=>LD.of_box<|BX.ext (w:=cj) b7 af) Z Aa<|AK (p:=zP ci.heap.size) (.inr Z) [zI<|(((p.getD k Fn.zero).outs).getD j Ex.zero).kind,zI<|(((p.getD k Fn.zero).outs).getD j Ex.zero).num,zI<|(((p.getD k Fn.zero).outs).getD j Ex.zero).pick,zI<|(((p.getD k Fn.zero).outs).getD j Ex.zero).count,a2] B6 Z (fun cg af=>LD.of_box<|BX.ext (w:=cj) aj af) Z Aa<|Ak (p:=zP w3.heap.size) 1 C2 Z Z Aa<|Ai (p:=Ap (zP w3.heap.size) 1) (.inr Z) (zI<|(p.getD k Fn.zero).params) AD Z (b8.ldp (i:=1) sM) Aa<|Ad 1 Z ?_
       refine As 205 [] [] [.agg #[vp],.agg #[zI<|(((p.getD k Fn.zero).outs).getD j Ex.zero).kind,zI<|(((p.getD k Fn.zero).outs).getD j Ex.zero).num,zI<|(((p.getD k Fn.zero).outs).getD j Ex.zero).pick,zI<|(((p.getD k Fn.zero).outs).getD j Ex.zero).count,a2],zI<|(p.getD k Fn.zero).params,zI (k:Int)] Z Z Z5 Aa (JQ _ dp vp (p) dd24 a2 (((p.getD k Fn.zero).outs).getD j Ex.zero) _ _ (hp.ext (An<|Av dp) au) (ag.ext au) ap.rng oM oM) ?_
       rintro co cl ⟨rfl,aa⟩
       refine⟨_,rfl,aa,?_⟩
       have bx:=aa.size
       have av:=au.trans aa
       have ak:=b7.ext aa
       have al:=b8.ext aa
       have am:=aj.ext aa
       refine Bn (!(LO p (((p.getD k Fn.zero).outs).getD j Ex.zero) ((p.getD k Fn.zero).params) (k:Int))) Z Z Aa<|Aj ?_
       cases b9:(!(LO p (((p.getD k Fn.zero).outs).getD j Ex.zero) ((p.getD k Fn.zero).params) (k:Int)))
       ·refine Ah (by first|rfl|exact zW b9)<|A2<|Ab _ [0,2,3,0,0] Z<|Ad 1 Z<|AK (p:=zP ci.heap.size) (.inr Z) [zI<|(((p.getD k Fn.zero).outs).getD j Ex.zero).kind,zI<|(((p.getD k Fn.zero).outs).getD j Ex.zero).num,zI<|(((p.getD k Fn.zero).outs).getD j Ex.zero).pick,zI<|(((p.getD k Fn.zero).outs).getD j Ex.zero).count,a2] B6 Z (fun cg af=>LD.of_box<|BX.ext (w:=cl) am af) Z Aa ?_
        refine As 206 [] [] [.agg #[zI<|(((p.getD k Fn.zero).outs).getD j Ex.zero).kind,zI<|(((p.getD k Fn.zero).outs).getD j Ex.zero).num,zI<|(((p.getD k Fn.zero).outs).getD j Ex.zero).pick,zI<|(((p.getD k Fn.zero).outs).getD j Ex.zero).count,a2]] Z Z T3 Aa (H1 _ dd24 a2 (((p.getD k Fn.zero).outs).getD j Ex.zero) (ag.ext av) oM) ?_
        rintro cp cq ⟨rfl,ae⟩
        refine⟨_,rfl,ae,?_⟩
        have bz:=ae.size
        have bp:=av.trans ae
        have an:=ak.ext ae
        have ao:=al.ext ae
        refine AP ((sz+((p.getD k Fn.zero).outs.getD j Ex.zero).size:Nat):Int) Z Z (Bl oM oM) Aa<|Ac 1 Z<|Ab _ [0,0] Z<|AP ((j+1:Nat):Int) Z Z (Bl oM sD) Aa<|Ac 1 Z ?_
        exact⟨(j+1,sz+((p.getD k Fn.zero).outs.getD j Ex.zero).size),_,rfl,zR,⟨bp,an,ao,sD,oM,(by exact DK hqe (Do (by assumption)))⟩,zD⟩
       refine Ag (by first|rfl|exact zW b9)<|cA Z<|A1<|Al<|AC<|Al<|Al<|AC<|Al<|AC<|Al<|Al<|AC<|Al ?_
       exact Af [2] Z (.bool false) Z ⟨HC,av⟩
      refine AG false Z Z (A6 b4) Aa<|Aj<|A0<|Ah Z<|A4<|Ax<|Ax<|At<|bZ [0,0] Z ?_
      have hal:=Ma (l:=(p.getD k Fn.zero).outs) (k:=j) oM
      refine Ad 1 Z ?_
      by_cases ba:((400:Nat):Int)<(sz:Int)
      ·exact BU true Z Z (A5 ba) Aa<|Aj<|Ag Z<|cA Z<|A1<|AC<|Al<|Al<|AC<|Al<|Af [2] Z (.bool false) Z ⟨HC,ad⟩
      refine BU false Z Z (A6 ba) Aa<|Aj<|Ah Z<|A2<|Ab _ [0,0] Z<|AP ((k+1:Nat):Int) Z Z (Bl oM sD) Aa<|Ac 1 Z ?_
      exact⟨k+1,_,rfl,zR,⟨ad,a1,sD,(by exact DK hq (VO (Do (by assumption)) (by assumption) (Do (by assumption)) (Do (by assumption)) hqe oM oM))⟩,zD⟩
     exact Ag (by first|rfl|exact zW b3)<|cA Z<|A1<|Al<|AC<|Al<|Al<|AC<|Al<|Af [2] Z (.bool false) Z ⟨HC,ac⟩
    exact Ac 6 Z<|Ag Z<|cA Z<|A1<|Al<|AC<|Al<|Al<|AC<|Al<|Af [2] Z (.bool false) Z ⟨HC,ac⟩
   exact Ag (by first|rfl|exact zW b2)<|cA Z<|A1<|Al<|AC<|Al<|Al<|AC<|Al<|Af [2] Z (.bool false) Z ⟨HC,ac⟩
  exact Ac 7 Z<|Ag Z<|cA Z<|A1<|Al<|AC<|Al<|Al<|AC<|Al<|Af [2] Z (.bool false) Z ⟨HC,bd⟩
 exact AG false Z Z (A6 bt) Aa<|Aj<|A0<|Ah Z<|A4<|Ax<|Ax<|At<|cA Z<|A1<|Af [2] Z (.bool true) Z ⟨HC,ax⟩
theorem ZB {p:List Fn}{f:Int}(h:G7 p=false):1=NP p f:=by unfold NP;rw[h];rfl
theorem ZC {p:List Fn}{f:Int}(h:G7 p=true)(h2:¬(0≤f∧f≤((p.length:Nat):Int)-1)):2=NP p f:=by unfold NP;rw[if_pos h,if_neg h2]
theorem ZD {p:List Fn}{f:Int}(h:G7 p=true)(h2:0≤f∧f≤((p.length:Nat):Int)-1):0=NP p f:=by unfold NP;rw[if_pos h,if_pos h2]
theorem P0 {p:Prop}(h:p:=by first|exact B4 (ZB (CX (by assumption)))|exact B4 (ZC (Do (by assumption)) (Qy (CX (by assumption))))|exact B4 (ZD (Do (by assumption)) (HB (Do (by assumption))))):p:=h
theorem If (w:World)(dp:Nat)(vp:Value)(p:List Fn)(f:Int)(hp:RP [] dp w.heap vp p)(_hf:Bx f)(hz:PJ p) :
  Calls Tryz.prog 100 #[(.agg #[vp]),zI f] w (fun e w'=>e=.returned (zI (NP p f))∧AF w w'):=by
 refine Aq [.agg #[vp],zI f] 17 Tryz.func100 Z Z sM ?_
 have a8:AF w w:=AF.refl w
 have ad:=hp.lenle
 unfold maxLen at ad
 refine bZ [3,0] Z (Bu (cs:=#[vp]) Z Aa fun w1 a4 ac a1=>?_)
 have a9:=a4.size
 have a5:=a8.trans a4
 replace a1:BX w1.heap w.heap.size [vp]:=a1
 refine Ac 1 Z<|A0<|A3<|bZ [2,3,0,0] Z<|AK (p:=zP w.heap.size) (.inr Z) [vp] BZ Z (fun ae aa=>LD.of_box<|BX.ext (w:=w1) a1 aa) Z Aa<|As 137 [] [] [.agg #[vp]] Z Z Vs Aa (EK _ dp vp (p) (hp.ext (An<|Av dp) a5) hz) ?_
 rintro e2 w2 ⟨rfl,a2⟩
 refine⟨_,rfl,a2,?_⟩
 have ab:=a2.size
 have a3:=a5.trans a2
 have a0:=a1.ext a2
 refine Bn (!(G7 p)) Z Z Aa<|Ac 1 Z ?_
 cases a6:(!(G7 p))
 ·refine Ah (by first|rfl|exact zW a6)<|bZ [0,0,2,0,0,0,0,0] Z<|Ad 1 Z<|Ak (p:=zP w.heap.size) 0 Bv Z Z Aa<|Ai (p:=Ap (zP w.heap.size) 0) (.inr Z) vp BY Z (a0.ldp (i:=0) sM) Aa<|AQ (v:=vp) Gb Z hp.isSl Aa<|Bs ((p.length:Int)-1) Z Z (Da oM oM) Aa<|Az 117 [] [] [zI f,zI ((0:Nat):Int),zI ((p.length:Int)-1)] Z Z CR Aa (.bool (decide (((0:Nat):Int)≤f) && decide (f≤((p.length:Int)-1)))) (fun wq=>AW wq _ _ _ _hf oM oM) ?_
  refine Bn (!(decide (((0:Nat):Int)≤f) && decide (f≤((p.length:Int)-1)))) Z Z Aa<|Ac 1 Z ?_
  cases a7:(!(decide (((0:Nat):Int)≤f) && decide (f≤((p.length:Int)-1))))
  ·exact Ah (by first|rfl|exact zW a7)<|A2<|cA Z<|A1<|Af [4] Z (zI ((0:Nat):Int)) Z ⟨P0,a3⟩
  exact Ag (by first|rfl|exact zW a7)<|cA Z<|A1<|AC<|Al<|Af [4] Z (zI ((2:Nat):Int)) Z ⟨P0,a3⟩
 exact Ag (by first|rfl|exact zW a6)<|cA Z<|A1<|AC<|Al<|Af [4] Z (zI ((1:Nat):Int)) Z ⟨P0,a3⟩
theorem bM {p:List Fn}{f:Int}(h:NP p f≠0):PS p f=false:=by
  unfold NP at h
  unfold PS
  by_cases h1:G7 p=true
  · rw[if_pos h1]at h
    cases h2:Mm p f with
    |false=>rw[Bool.and_false]
    |true=>rw[if_pos (HS.1 h2).1]at h;exact absurd Z h
  · rw[show G7 p=false from by simpa using h1];rfl
theorem ZE {p:List Fn}{f:Int}(h:NP p f=0){b:Bool}(hb:b=(decide (1≤(p.getD f.toNat Fn.zero).params) && decide ((((p.getD f.toNat Fn.zero).outs.length:Nat):Int)=(p.getD f.toNat Fn.zero).params))):PS p f=b:=by
  obtain⟨h1,h2⟩:=UZ h
  unfold PS Mm
  rw[h1,show E7 f 0 (((p.length:Nat):Int)-1)=true from Br.2 ⟨h2.1,zO⟩,hb,Bool.true_and,Bool.true_and]
theorem P1 {p:Prop}(h:p:=by first|exact AI (bM oM).symm|exact AI (ZE oM (by rw[A5 (show 1≤(p.getD f.toNat Fn.zero).params by omega),Bool.true_and])).symm|exact AI (ZE oM (by rw[A6 (show ¬1≤(p.getD f.toNat Fn.zero).params by omega),Bool.false_and])).symm):p:=h
theorem Jp (w:World)(dp:Nat)(vp:Value)(p:List Fn)(f:Int)(hp:RP [] dp w.heap vp p)(_hf:Bx f)(hz:PJ p) :
  Calls Tryz.prog 199 #[(.agg #[vp]),zI f] w (fun e w'=>e=.returned (.bool (PS p f))∧AF w w'):=by
 refine Aq [.agg #[vp],zI f] 34 Tryz.func199 Z Z sM ?_
 have ac:AF w w:=AF.refl w
 have aj:=hp.lenle
 unfold maxLen at aj
 refine bZ [3,0] Z (Bu (cs:=#[vp]) Z Aa fun w1 a6 ah a4=>?_)
 have ad:=a6.size
 have a7:=ac.trans a6
 replace a4:BX w1.heap w.heap.size [vp]:=a4
 refine Ac 1 Z<|A0<|AO _ [1,0,3,0,0,0,2,0,0,0,2,0,0,0,0,2,0,0,0,2,0,0,2,0,0,0,2,0,0,0] mixed (by kernel_rfl)<|AK (p:=zP w.heap.size) (.inl Z) [vp] BZ Z (fun ak ae=>LD.of_box<|BX.ext (w:=w1.drew) a4 ae) Z Aa<|Ad 1 Z<|As 100 [] [] [.agg #[vp],zI f] Z Z Vm Aa (If _ dp vp (p) _ (hp.ext (An<|Av dp) a7.drew) _hf hz) ?_
 rintro e2 w2 ⟨rfl,a2⟩
 refine⟨_,rfl,a2,?_⟩
 replace a2:=a2.of_drew
 have af:=a2.size
 have a1:=a7.trans a2
 have a0:=a4.ext a2
 by_cases a8:NP p f=((0:Nat):Int)
 ·refine Am true Z Z (A5 a8) Aa<|Ad 1 Z ?_
  have ai:=UZ (p:=p) (f:=f) oM
  refine Ak (p:=zP w.heap.size) 0 Bv Z Z (Ae (e:=9) Z Z Z)<|Ai (p:=Ap (zP w.heap.size) 0) (.inr Z) vp BY Z (a0.ldp (i:=0) sM) (Ae (e:=9) Z Z Z)<|Ad 1 Z<|AB (v:=vp) ((f).toNat) Gb Cj Z Z hp.isSl oM sD (Ae (e:=9) Z Z Z) ?_
  obtain⟨cs4,ag,a3⟩:=hp.get (Av dp) Fn.zero (k:=(f).toNat) sD
  obtain⟨a9,rfl,aa⟩:=RF.of ag
  have a5:=aa.rn.lenle
  unfold maxLen at a5
  refine AJ (p:=Ay vp ((f).toNat) 3) 1 C2 Z (a3 _<|Au.of_ext [] a1) (Ae (e:=9) Z Z Z)<|Ai (p:=Ap (Ay vp ((f).toNat) 3) 1) (.inr Z) (zI<|(p.getD ((f).toNat) Fn.zero).params) AD Z ((a3 _<|Au.of_ext [] a1).ld (i:=1) (by simp[EX,EY])) (Ae (e:=9) Z Z Z) ?_
  by_cases ab:((1:Nat):Int)≤(p.getD ((f).toNat) Fn.zero).params
  ·refine Dv true Z Z (A5 ab) (Ae (e:=9) Z Z Z)<|Ad 2 Z<|Ak (p:=zP w.heap.size) 0 Bv Z Z (Ae (e:=18) Z Z Z)<|Ai (p:=Ap (zP w.heap.size) 0) (.inr Z) vp BY Z (a0.ldp (i:=0) sM) (Ae (e:=18) Z Z Z)<|Ad 1 Z ?_
   refine AB (v:=vp) ((f).toNat) Gb Cj Z Z hp.isSl oM sD (Ae (e:=18) Z Z Z)<|AJ (p:=Ay vp ((f).toNat) 3) 2 BL Z (a3 _<|Au.of_ext [] a1) (Ae (e:=18) Z Z Z)<|Ai (p:=Ap (Ay vp ((f).toNat) 3) 2) (.inr Z) a9 Bd Z ((a3 _<|Au.of_ext [] a1).ld (i:=2) (by simp[EX,EY])) (Ae (e:=18) Z Z Z)<|AQ (v:=a9) D1 Z aa.rn.isSl (Ae (e:=18) Z Z Z) ?_
   refine Ak (p:=zP w.heap.size) 0 Bv Z Z (Ae (e:=18) Z Z Z)<|Ai (p:=Ap (zP w.heap.size) 0) (.inr Z) vp BY Z (a0.ldp (i:=0) sM) (Ae (e:=18) Z Z Z)<|Ad 1 Z<|AB (v:=vp) ((f).toNat) Gb Cj Z Z hp.isSl oM sD (Ae (e:=18) Z Z Z) ?_
   refine AJ (p:=Ay vp ((f).toNat) 3) 1 C2 Z (a3 _<|Au.of_ext [] a1) (Ae (e:=18) Z Z Z)<|Ai (p:=Ap (Ay vp ((f).toNat) 3) 1) (.inr Z) (zI<|(p.getD ((f).toNat) Fn.zero).params) AD Z ((a3 _<|Au.of_ext [] a1).ld (i:=1) (by simp[EX,EY])) (Ae (e:=18) Z Z Z)<|Am (decide (((((p.getD ((f).toNat) Fn.zero).outs).length:Nat):Int)=(p.getD ((f).toNat) Fn.zero).params)) Z Z Z (Ae (e:=18) Z Z Z)<|Ac 2 Z<|A1 ?_
   exact Af [4] Z (.bool<|decide (((((p.getD ((f).toNat) Fn.zero).outs).length:Nat):Int)=(p.getD ((f).toNat) Fn.zero).params)) Z ⟨P1,a1⟩
  exact Dv false Z Z (A6 ab) (Ae (e:=9) Z Z Z)<|Ac 18 Z<|A1<|Af [4] Z (.bool false) Z ⟨P1,a1⟩
 exact Am false Z Z (A6 a8) Aa<|Ac 26 Z<|A1<|Af [4] Z (.bool false) Z ⟨P1,a1⟩
theorem bN {p:List Fn}{f:Int}{l:List Sr}(h:G7 p=false):1=EQ p f l:=by unfold EQ;rw[h];rfl
theorem bO {p:List Fn}{f:Int}{l:List Sr}(h:G7 p=true)(h2:PS p f=false):2=EQ p f l:=by
  unfold PS at h2;rw[h,Bool.true_and]at h2
  unfold EQ;rw[if_pos h,h2];rfl
theorem bP {p:List Fn}{f:Int}{l:List Sr}{k:Nat}(h:PS p f=true)(hk:k<l.length)(hb:(decide ((((l.getD k []).length:Nat):Int)=(p.getD f.toNat Fn.zero).params) && B2 (l.getD k []))=false):2=EQ p f l:=by
  unfold PS at h;rw[z7]at h
  unfold EQ;rw[if_pos h.1,if_pos h.2,NA (f:=(fun s=>decide (((s.length:Nat):Int)=(p.getD f.toNat Fn.zero).params) && B2 s)) [] hk hb];rfl
theorem bQ {p:List Fn}{f:Int}{l:List Sr}{k:Nat}(h:PS p f=true)(hl:(l.take k).all (fun s=>decide (((s.length:Nat):Int)=(p.getD f.toNat Fn.zero).params) && B2 s)=true)(hk:l.length≤k):0=EQ p f l:=by
  unfold PS at h;rw[z7]at h
  unfold EQ;rw[if_pos h.1,if_pos h.2,NB hl hk];rfl
theorem Nb {p:Prop}(h:p:=by first|exact B4 (bN (CX (by assumption)))|exact B4 (bO (Do (by assumption)) (CX (by assumption)))|exact B4 (bP (k:=k) hrn oM (CX (by assumption)))|exact B4 (bQ hrn hq oM)):p:=h
theorem Gt (w:World)(dp:Nat)(vp:Value)(p:List Fn)(f:Int)(vl:Value)(l:List (Sr))(hp:RP [] dp w.heap vp p)(_hf:Bx f)(hl:RN [] (B3 (B3 rI)) w.heap vl l)(hql:C5 vl)(hz:PJ p) :
  Calls Tryz.prog 125 #[(.agg #[vp]),zI f,vl] w (fun e w'=>e=.returned (zI (EQ p f l))∧AF w w'):=by
 refine Aq [.agg #[vp],zI f,vl] 34 Tryz.func125 Z Z sM ?_
 have ao:AF w w:=AF.refl w
 have b3:=hp.lenle
 unfold maxLen at b3
 have b4:=hl.lenL
 unfold maxLen at b4
 refine bZ [3,0] Z (Bu (cs:=#[vp]) Z Aa fun w1 af ay ad=>?_)
 have ag:=af.size
 have ah:=ao.trans af
 replace ad:BX w1.heap w.heap.size [vp]:=ad
 refine Ac 1 Z<|A0<|A3<|bZ [2,3,0,0] Z<|AK (p:=zP w.heap.size) (.inr Z) [vp] BZ Z (fun b5 ai=>LD.of_box<|BX.ext (w:=w1) ad ai) Z Aa<|As 137 [] [] [.agg #[vp]] Z Z Vs Aa (EK _ dp vp (p) (hp.ext (An<|Av dp) ah) hz) ?_
 rintro e2 w2 ⟨rfl,a5⟩
 refine⟨_,rfl,a5,?_⟩
 have aj:=a5.size
 have ae:=ah.trans a5
 have a3:=ad.ext a5
 refine Bn (!(G7 p)) Z Z Aa<|Ac 1 Z ?_
 cases ap:(!(G7 p))
 ·refine Ah (by first|rfl|exact zW ap)<|bZ [2,0,3,0,0] Z<|AK (p:=zP w.heap.size) (.inr Z) [vp] BZ Z (fun b5 ai=>LD.of_box<|BX.ext (w:=w2) a3 ai) Z Aa<|Ad 1 Z<|As 199 [] [] [.agg #[vp],zI f] Z Z Z0 Aa (Jp _ dp vp (p) _ (hp.ext (An<|Av dp) ae) _hf hz) ?_
  rintro e4 w4 ⟨rfl,a6⟩
  refine⟨_,rfl,a6,?_⟩
  have ak:=a6.size
  have al:=ae.trans a6
  have a7:=a3.ext a6
  refine Bn (!(PS p f)) Z Z Aa<|Ac 1 Z ?_
  cases aq:(!(PS p f))
  ·refine Ah (by first|rfl|exact zW aq)<|A2<|A0<|bZ [0,0,0] Z ?_
   have hrn:PS p f=true:=Do (by assumption)
   have hrf:=HS.1 (z7 .. ▸ hrn:G7 p=true∧Mm p f=true).2
   refine Ad 1 Z<|AQ (v:=vl) BH Z hl.slL Aa<|Ac 1 Z<|A3 ?_
   refine B1 (S:=Nat) (fun k=>([(20,zI (k:Int)),(1,zI f),(3,zP w.heap.size),(18,vl),(19,zI (l.length:Int))])) (fun k W=>AF w W∧BX W.heap w.heap.size [vp]∧k≤l.length∧(l.take k).all (fun s=>decide ((s.length:Int)=(p.getD f.toNat Fn.zero).params) && B2 s)=true) (fun k=>l.length-k) 0 ⟨rfl,rfl,rfl,rfl,rfl,trivial⟩ ⟨al,a7,sD,rfl⟩ ?_
   clear ao ay af ag ah a5 aj ae a6 ak al
   rintro k ρ6 w6 ⟨a4,a0,ar,hq⟩
   have az:w.heap.size≤w6.heap.size:=a4.size
   have b2:=a0.lt
   refine bZ [0] Z ?_
   by_cases au:(k:Int)<(l.length:Int)
   ·refine AG true Z Z (A5 au) Aa<|Aj<|A0<|Ag Z<|A2<|A0<|A3<|bZ [0,2,0] Z<|AB (v:=vl) k BH B8 Z Z hl.slL Z sD Aa ?_
    obtain⟨av,b0,aw⟩:=RN.getL (w:=w) g1 [] (k:=k) hl sD
    have am:=aw.lenL
    unfold maxLen at am
    refine Ai (p:=Ay vl k 1) (.inr Z) av Bj Z (b0 _<|Au.of_ext [] a4) Aa<|Ac 1 Z<|bZ [0,0,2,0,0,0,2,3,0] Z<|Ad 1 Z<|Ak (p:=zP w.heap.size) 0 Bv Z Z Aa<|Ai (p:=Ap (zP w.heap.size) 0) (.inr Z) vp BY Z (a0.ldp (i:=0) sM) Aa<|Ad 1 Z ?_
    refine AB (v:=vp) ((f).toNat) Gb Cj Z Z hp.isSl oM sD Aa ?_
    obtain⟨cs10,an,a8⟩:=hp.get (Av dp) Fn.zero (k:=(f).toNat) sD
    obtain⟨b1,rfl,a9⟩:=RF.of an
    have aa:=a9.rn.lenle
    unfold maxLen at aa
    refine AJ (p:=Ay vp ((f).toNat) 3) 1 C2 Z (a8 _<|Au.of_ext [] a4) Aa<|Ai (p:=Ap (Ay vp ((f).toNat) 3) 1) (.inr Z) (zI<|(p.getD ((f).toNat) Fn.zero).params) AD Z ((a8 _<|Au.of_ext [] a4).ld (i:=1) (by simp[EX,EY])) Aa<|As 86 [] [] [av,zI<|(p.getD ((f).toNat) Fn.zero).params] Z Z Uw Aa (Dd _ _ _ _ (aw.ext g1 a4).rd a9.rng) ?_
    rintro b6 b7 ⟨rfl,a2⟩
    refine⟨_,rfl,a2,?_⟩
    have ax:=a2.size
    have ab:=a4.trans a2
    have a1:=a0.ext a2
    refine Bn (!(decide ((((l.getD k []).length:Nat):Int)=((p.getD ((f).toNat) Fn.zero).params)) && B2 (l.getD k []))) Z Z Aa<|Aj ?_
    cases ac:(!(decide ((((l.getD k []).length:Nat):Int)=((p.getD ((f).toNat) Fn.zero).params)) && B2 (l.getD k [])))
    ·refine Ah (by first|rfl|exact zW ac)<|A2<|Ab _ [0,0] Z<|AP ((k+1:Nat):Int) Z Z (Bl oM sD) Aa<|Ac 1 Z ?_
     exact⟨k+1,_,rfl,zR,⟨ab,a1,sD,(by exact Nz (f:=fun s=>decide ((s.length:Int)=(p.getD f.toNat Fn.zero).params) && B2 s) [] hq oM (Do (by assumption)))⟩,zD⟩
    exact Ag (by first|rfl|exact zW ac)<|cA Z<|A1<|AC<|Al<|Al<|AC<|Al<|Af [6] Z (zI ((2:Nat):Int)) Z ⟨Nb,ab⟩
   exact AG false Z Z (A6 au) Aa<|Aj<|A0<|Ah Z<|A4<|Ax<|Ax<|At<|cA Z<|A1<|Af [6] Z (zI ((0:Nat):Int)) Z ⟨Nb,a4⟩
  exact Ag (by first|rfl|exact zW aq)<|cA Z<|A1<|AC<|Al<|Af [6] Z (zI ((2:Nat):Int)) Z ⟨Nb,al⟩
 exact Ag (by first|rfl|exact zW ap)<|cA Z<|A1<|AC<|Al<|Af [6] Z (zI ((1:Nat):Int)) Z ⟨Nb,ae⟩
theorem H2 (w:World)(n:Int)(_hn:Bx n)  :
  Calls Tryz.prog 126 #[zI n] w (fun e w'=>e=.returned (.bool (E7 n 0 40))∧AF w w'):=by
 refine Aq [zI n] 5 Tryz.func126 Z Z sM ?_
 have a0:AF w w:=AF.refl w
 exact cA Z<|bZ [0,0,0] Z<|Ad 1 Z<|Az 117 [] [] [zI n,zI ((0:Nat):Int),zI ((40:Nat):Int)] Z Z CR Aa (.bool (decide (((0:Nat):Int)≤n) && decide (n≤((40:Nat):Int)))) (fun wq=>AW wq _ _ _ _hn oM oM)<|Ac 1 Z<|A1<|Af [2] Z (.bool (decide (((0:Nat):Int)≤n) && decide (n≤((40:Nat):Int)))) Z ⟨rfl,a0⟩
theorem I3 (w:World)(dp:Nat)(vp:Value)(p:List Fn)(f:Int)(va:Value)(a:Sr)(hp:RP [] dp w.heap vp p)(_hf:Bx f)(ha:Rd (B3 rI) w.heap va a)(hvp:H6 p)(hf:0≤f∧f<(p.length:Int))(hl:(a.length:Int)=(p.getD f.toNat Fn.zero).params)(hna:B2 a=true) :
  Calls Tryz.prog 200 #[(.agg #[vp]),zI f,va] w (fun e w'=>∃v0:Value,e=.returned (.tuple #[v0,zI (G8 p f.toNat a)])∧AF w w'∧Fr (Bh rI 2) w.heap.size w'.heap.size w'.heap v0 (Oq p f.toNat a)∧QY p f.toNat a):=by
 refine Aq [.agg #[vp],zI f,va] 25 Tryz.func200 Z Z sM ?_
 have ag:AF w w:=AF.refl w
 have ap:=hp.lenle
 unfold maxLen at ap
 have aq:=ha.lenle
 have hpar:=hvp.par f.toNat oM
 have hsl:(CO a).length=a.length:=by unfold CO;rw[zg]
 refine bZ [3,0,0] Z (Bu (cs:=#[vp]) Z Aa fun w1 ab ao a7=>?_)
 have ah:=ab.size
 have ac:=ag.trans ab
 replace a7:BX w1.heap w.heap.size [vp]:=a7
 refine Ac 2 Z<|A0<|AO _ [1,0,0,3,3,0,0,0,0,0,0,0] mixed (by kernel_rfl)<|AK (p:=zP w.heap.size) (.inl Z) [vp] BZ Z (fun ar ai=>LD.of_box<|BX.ext (w:=w1.drew) a7 ai) Z Aa<|Ad 2 Z<|As 89 [] [] [va] Z Z bG Aa (Lp _ _ _ (ha.ext g1 ac.drew) oM) ?_
 rintro e2 w2 ⟨a2,rfl,a3,a0⟩
 refine⟨_,rfl,a3,?_⟩
 replace a3:=a3.of_drew
 have aj:=a3.size
 have ad:=ac.trans a3
 replace a0:=a0.low (B':=w1.heap.size)<|A7 _
 refine As 142 [] [] [.agg #[vp],zI f,a2,zI ((0:Nat):Int)] Z Z YO Aa (G3 _ dp vp (p) _ a2 (CO a) (0) (hp.ext (An<|Av dp) ad) _hf (RN.of_fr2 a0 fun b hb=>by cases hb) a0.cap hvp oM oM (by exact CJ hna) oM) ?_
 rintro e3 w3 ⟨a1,rfl,a8,a4,ae⟩
 refine⟨_,rfl,a8,?_⟩
 have ak:=a8.size
 have a9:=ad.trans a8
 refine Ad 1 Z<|AM (vs:=[a1,zI ((Ok p (0+1) f.toNat (CO a):Nat):Int),zI<|Kb p (0+1) f.toNat<|CO a]) a1 Z Z Aa<|AM (vs:=[a1,zI ((Ok p (0+1) f.toNat (CO a):Nat):Int),zI<|Kb p (0+1) f.toNat<|CO a]) (zI ((Ok p (0+1) f.toNat (CO a):Nat):Int)) Z Z Aa<|AM (vs:=[a1,zI ((Ok p (0+1) f.toNat (CO a):Nat):Int),zI<|Kb p (0+1) f.toNat<|CO a]) (zI<|Kb p (0+1) f.toNat<|CO a) Z Z Aa<|Ac 3 Z<|A0<|bZ [0,0] Z ?_
 have hEV:=‹UT p (0+1) f.toNat (CO a)›
 have hec:0≤G8 p f.toNat a∧G8 p f.toNat a≤9:=hEV.code
 have hes:=hEV.ser
 have hel:=hEV.len
 have hne:G8 p f.toNat a=Kb p (0+1) f.toNat (CO a):=rfl
 have au:=hvp.outs f.toNat oM
 refine Ad 1 Z ?_
 by_cases af:Kb p (0+1) f.toNat (CO a)≠((0:Nat):Int)
 ·exact AT true Z Z (A5 af) Aa<|Aj<|Ag Z<|bZ [0,0,0] Z<|Ac 3 Z<|A1<|Al<|Af [6,7] Z (.tuple #[zN,zI<|Kb p (0+1) f.toNat<|CO a]) Z ⟨zN,rfl,a9,(by rw[(QY.mk' hEV).non oM];exact Hh _ _ _),QY.mk' hEV⟩
 refine AT false Z Z (A6 af) Aa<|Aj<|Ah Z<|A2<|bZ [0,3,0,0] Z<|Ad 1 Z<|As 106 [] [] [a1] Z Z Vn Aa (Ie _ _ _ a4.rd2 oM (by intro k9 al;have:=(hes k9 al).1;omega)) ?_
 rintro e5 w5 ⟨a5,rfl,aa,a6⟩
 refine⟨_,rfl,aa,?_⟩
 have am:=aa.size
 have an:=a9.trans aa
 exact Ac 2 Z<|A1<|Af [6,7] Z (.tuple #[a5,zI ((0:Nat):Int)]) Z ⟨a5,(by rw[show G8 p f.toNat a=0 from by omega];rfl),an,(a6.up o1).low a9.size,QY.mk' hEV⟩
theorem Cp (w:World)(dp:Nat)(vp:Value)(p:List Fn)(f:Int)(va:Value)(a:Sr)(n:Int)(hp:RP [] dp w.heap vp p)(_hf:Bx f)(ha:Rd (B3 rI) w.heap va a)(_hn:Bx n)(hvp:H6 p)(hf:0≤f∧f<(p.length:Int))(hl:(a.length:Int)=(p.getD f.toNat Fn.zero).params)(hna:B2 a=true)(hn:0≤n∧n≤40)(hou:((p.getD f.toNat Fn.zero).outs.length:Int)=(p.getD f.toNat Fn.zero).params) :
  Calls Tryz.prog 127 #[(.agg #[vp]),zI f,va,zI n] w (fun e w'=>∃v0:Value,e=.returned (.tuple #[v0,zI (Eo p f.toNat a n.toNat)])∧AF w w'∧Fr (Bh (Bh rI 2) 27) w.heap.size w'.heap.size w'.heap v0 (Ua p f.toNat a n.toNat)∧PU p f.toNat a n.toNat):=by
 refine Aq [.agg #[vp],zI f,va,zI n] 40 Tryz.func127 Z Z sM ?_
 have b2:AF w w:=AF.refl w
 have bo:=hp.lenle
 unfold maxLen at bo
 have bp:=ha.lenle
 have hpar:=hvp.par f.toNat oM
 refine bZ [3,0,0] Z (Bu (cs:=#[vp]) Z Aa fun w1 ao be ap=>?_)
 have bf:=ao.size
 have al:=b2.trans ao
 replace ap:BX w1.heap w.heap.size [vp]:=ap
 refine Ac 2 Z<|bZ [0,3,3,0] Z<|Ad 1 Z<|As 130 [] [] [va] Z Z Qm Aa (BG _ _ _ (ha.ext g1 al) oM) ?_
 rintro e2 w2 ⟨aq,rfl,ad,aa⟩
 refine⟨_,rfl,ad,?_⟩
 have ar:=ad.size
 have b3:=al.trans ad
 have ae:=ap.ext ad
 refine BI (u:=aq) (B:=w1.heap.size) o1 BH B8 Z Z aa (by first|exact A7 _|omega) Aa fun v3 w3 am bg b4=>?_
 have au:=am.size
 have b5:=b3.trans am
 have af:=ae.ext am
 refine Ac 1 Z<|A0<|bZ [0,0] Z<|Ac 2 Z<|A3 ?_
 refine B1 (S:=Nat×Value) (fun⟨k,vo⟩=>([(10,vo),(18,zI (k:Int)),(1,zI f),(4,zP w.heap.size),(17,zI n)])) (fun⟨k,vo⟩ W=>AF w W∧Fr (Bh (Bh rI 2) 27) w1.heap.size W.heap.size W.heap vo (CC (k+1)<|Ch p f.toNat a)∧BX W.heap w.heap.size [vp]∧k≤n.toNat∧Eo p f.toNat a k=0∧((Ch p f.toNat a k).length:Int)=(p.getD f.toNat Fn.zero).params∧B2 (Ch p f.toNat a k)=true∧(∀j,j≤k→(Ch p f.toNat a j).length=a.length)∧w.heap.size<w1.heap.size∧w1.heap.size≤W.heap.size) (fun⟨k,vo⟩=>n.toNat-k) (0,v3) ⟨rfl,rfl,rfl,rfl,rfl,trivial⟩ ⟨b5,b4.up o2,af,sD,(by rfl),hl,hna,(by intro j hj;rw[show j=0 from by omega];rfl),oM,oM⟩ ?_
 clear b2 be ao aa ad ar b3 b4 bg am au b5
 rintro⟨k,vo⟩ ρ5 w5 ⟨an,a2,a5,b6,hrk,hrl,hrn,hrj,bh,bi⟩
 have bj:w.heap.size≤w5.heap.size:=an.size
 have hti:=C4 (f:=Ch p f.toNat a) (n:=k+1) (k:=k) [] oM
 have htl:(CC (k+1) (Ch p f.toNat a)).length=k+1:=by simp[CC]
 have bn:=a5.lt
 refine bZ [0] Z ?_
 by_cases b7:(k:Int)<n
 ·refine AG true Z Z (A5 b7) Aa<|Aj<|A0<|Ag Z<|A2<|A0<|A3<|bZ [0,0] Z<|Ac 2 Z<|A0<|AO _ [1,0,0,0,0,1,3,0,0,0,0,0] mixed (by kernel_rfl)<|AK (p:=zP w.heap.size) (.inl Z) [vp] BZ Z (fun bt bk=>LD.of_box<|BX.ext (w:=w5.drew) a5 bk) Z Aa<|Ad 3 Z ?_
  refine AB (v:=vo) k BH B8 Z Z a2.isSl Z sD Aa ?_
  obtain⟨b8,b9,av⟩:=a2.rd2.get (k:=k) [] sD
  have bl:=av.lenle
  refine Ai (p:=Ay vo k 1) (.inl Z) b8 Bj Z b9 Aa<|As 200 [] [] [.agg #[vp],zI f,b8] Z Z Z1 Aa (I3 _ dp vp (p) _ _ _ (hp.ext (An<|Av dp) an.drew) _hf av hvp oM (by rw[hti];exact hrl) (by rw[hti];exact hrn)) ?_
  rintro bu bv ⟨a3,rfl,a0,a1,aw⟩
  refine⟨_,rfl,a0,?_⟩
  replace a0:=a0.of_drew
  have ba:=a0.size
  have ag:=an.trans a0
  have a6:=a2.ext (o2) a0
  have a7:=a5.ext a0
  have ab:=av.ext g1 a0
  have ah:=AZ a0 b9
  replace a1:=a1.low (B':=w5.heap.size)<|A7 _
  refine Ad 1 Z<|AM (vs:=[a3,zI<|G8 p f.toNat<|(CC (k+1)<|Ch p f.toNat a).getD k []]) a3 Z Z Aa<|AM (vs:=[a3,zI<|G8 p f.toNat<|(CC (k+1)<|Ch p f.toNat a).getD k []]) (zI<|G8 p f.toNat<|(CC (k+1)<|Ch p f.toNat a).getD k []) Z Z Aa<|Ac 2 Z<|A0<|bZ [0,0] Z ?_
  have hNX:=‹QY p f.toNat ((CC (k+1)<|Ch p f.toNat a).getD k [])›
  rw[hti]at hNX
  have hnc:=hNX.code
  have hcd:G8 p f.toNat ((CC (k+1) (Ch p f.toNat a)).getD k [])=G8 p f.toNat (Ch p f.toNat a k):=by rw[hti]
  refine Ad 1 Z ?_
  by_cases ai:G8 p f.toNat ((CC (k+1) (Ch p f.toNat a)).getD k [])≠((0:Nat):Int)
  ·refine AT true Z Z (A5 ai) Aa<|Aj<|Ag Z<|bZ [0,0,0] Z<|Ac 3 Z<|A1<|Al<|AC<|Al<|Al<|AC<|Al ?_
   have hfc:Eo p f.toNat a n.toNat=G8 p f.toNat (Ch p f.toNat a k):=by rw[Je (k:=k+1) (by rw[DX hrk];omega) oM,DX hrk]
   exact Af [8,9] Z (.tuple #[zN,zI<|G8 p f.toNat<|(CC (k+1)<|Ch p f.toNat a).getD k []]) Z ⟨zN,(by rw[hfc,hti]),ag,(by rw[PT (by rw[hfc];omega)];exact Hh _ _ _),PU.err hfc oM hnc⟩
  refine AT false Z Z (A6 ai) Aa<|Aj<|Ah Z<|A2<|Ab _ [0,0,3,4,0] Z<|Ad 2 Z (BI (u:=a3) (B:=w5.heap.size) o1 BH B8 Z Z a1 (by first|exact A7 _|omega) Aa fun bq bw a4 bm ax=>?_)
  have bb:=a4.size
  have aj:=ag.trans a4
  have a8:=a6.ext (o2) a4
  have a9:=a7.ext a4
  have ay:=ab.ext g1 a4
  have bc:=AZ a4 ah
  refine Il o1 (v:=vo) (a:=bq) BH B8 Z Z Z a8 oM ax oM oM sD (by unfold maxLen;first|omega|assumption|(simp;done)|(simp;omega)) Aa fun br bs bx ac ak az=>?_
  have b0:AF w bs:=ac.below aj (fun c hc=>A8 al.size (ak c hc).1) aj.size
  have bd:=ac.size
  have b1:=a9.chg ac fun hm=>zH<|ak _ hm
  refine Ac 1 Z<|Ab _ [0,0] Z<|AP ((k+1:Nat):Int) Z Z (Bl oM oM) Aa<|Ac 1 Z ?_
  exact⟨(k+1,br),_,rfl,zR,⟨b0,(by have h:=az.up o2;rw[hti]at h;rw[J7];exact h),b1,sD,(by rw[DX hrk];omega),(by have:=hNX.len oM;show(((Oq p f.toNat (Ch p f.toNat a k)).length:Nat):Int)=_;omega),hNX.num,(by intro j hj;by_cases e9:j≤k;(exact hrj j e9);(rw[show j=k+1 from by omega];have:=hNX.len oM;show(Oq p f.toNat (Ch p f.toNat a k)).length=_;omega)),oM,oM⟩,zD⟩
 refine AG false Z Z (A6 b7) Aa<|Aj<|A0<|Ah Z<|A4<|Ax<|Ax<|At<|bZ [0,0,0] Z<|Ac 3 Z<|A1 ?_
 have hke:k=n.toNat:=by omega
 exact Af [8,9] Z (.tuple #[vo,zI ((0:Nat):Int)]) Z ⟨vo,(by rw[← hke,hrk];rfl),an,(by have h:=(a2.up o2).low al.size;rw[← hke,K6 hrk];exact h),PU.ok (by rw[← hke];exact hrk) (by rw[← hke];exact hrj)⟩
theorem P3 {p:List Fn}{f n:Int}{a:Sr}(h:EQ p f [a]≠0):Hs p f a n=EQ p f [a]:=if_neg h
theorem P4 {p:List Fn}{f n:Int}{a:Sr}(h:EQ p f [a]=0)(h2:E7 n 0 40=false):Hs p f a n=2:=by unfold Hs;rw[if_pos h,h2];rfl
theorem ZF {p:List Fn}{f n:Int}{a:Sr}(h:EQ p f [a]=0)(h2:E7 n 0 40=true):Hs p f a n=0:=by unfold Hs;rw[if_pos h,h2];rfl
theorem UI {p:List Fn}{f n:Int}{a:Sr}(h:Hs p f a n≠0):(0≤LR p f a n∧LR p f a n≤9)∧((Tz p f a n).length≤41∧∀k,((Tz p f a n).getD k []).length≤a.length):=by
  have:=Ku p f a n
  rw[PW h,K7 h]
  exact⟨zO,by simp,fun k=>by simp⟩
theorem Oe {p:Prop}(h:p:=by first|(rw[L2 hg0];exact⟨by have:=‹PU p f.toNat a n.toNat›.len;omega,‹PU p f.toNat a n.toNat›.rows⟩)|exact(UI (by rw[P3 oM];omega)).2|exact(UI (by rw[P4 oM (CX (by assumption))];omega)).2):p:=h
theorem Tm {p:Prop}(h:p:=by first|(rw[L2 hg0];exact Hh _ _ _)|(rw[K7 (by rw[P3 oM];omega)];exact Hh _ _ _)|(rw[K7 (by rw[P4 oM (CX (by assumption))];omega)];exact Hh _ _ _)):p:=h
theorem Of {p:Prop}(h:p:=by first|rw[NT hg0]|rw[PW (by rw[P3 oM];omega),P3 oM]|(rw[PW (by rw[P4 oM (CX (by assumption))];omega),P4 oM (CX (by assumption))];rfl)):p:=h
theorem Og {p:Prop}(h:p:=by first|(rw[NT hg0];exact ‹PU p f.toNat a n.toNat›.code)|exact(UI (by rw[P3 oM];omega)).1|exact(UI (by rw[P4 oM (CX (by assumption))];omega)).1):p:=h
theorem Ft (w:World)(dp:Nat)(vp:Value)(p:List Fn)(f:Int)(va:Value)(a:Sr)(n:Int)(hp:RP [] dp w.heap vp p)(_hf:Bx f)(ha:Rd (B3 rI) w.heap va a)(_hn:Bx n)(hz:PJ p) :
  Calls Tryz.prog 44 #[(.agg #[vp]),zI f,va,zI n] w (fun e w'=>∃v0:Value,e=.returned (.tuple #[v0,zI (LR p f a n)])∧AF w w'∧Fr (Bh (Bh rI 2) 27) w.heap.size w'.heap.size w'.heap v0 (Tz p f a n)∧(0≤LR p f a n∧LR p f a n≤9)∧((Tz p f a n).length≤41∧∀k,((Tz p f a n).getD k []).length≤a.length)):=by
 refine Aq [.agg #[vp],zI f,va,zI n] 33 Tryz.func44 Z Z sM ?_
 have au:AF w w:=AF.refl w
 have b4:=hp.lenle
 unfold maxLen at b4
 have b6:=ha.lenle
 refine bZ [3,0,0] Z (Bu (cs:=#[vp]) Z Aa fun w1 ak b2 ac=>?_)
 have av:=ak.size
 have aw:=au.trans ak
 replace ac:BX w1.heap w.heap.size [vp]:=ac
 refine Ac 2 Z<|bZ [2,0,0,3,3,0] Z<|AK (p:=zP w.heap.size) (.inr Z) [vp] BZ Z (fun b7 a8=>LD.of_box<|BX.ext (w:=w1) ac a8) Z Aa<|Ad 2 Z (BI (u:=va) (B:=w1.heap.size) By BH B8 Z Z (Oj w1.heap.size w1.heap.size _<|(RN.of ha).one1 g1) (A7 _) Aa fun v2 w2 af b3 al=>?_)
 have ax:=af.size
 have ag:=aw.trans af
 have a9:=ac.ext af
 refine As 125 [] [] [.agg #[vp],zI f,v2] Z Z Vp Aa (Gt _ dp vp (p) _ v2 ([a]) (hp.ext (An<|Av dp) ag) _hf (RN.ofOne al ((RN.of ha).ext g1 ag) fun b hb=>by cases hb) (U8 al) hz) ?_
 rintro e3 w3 ⟨rfl,ad⟩
 refine⟨_,rfl,ad,?_⟩
 have ay:=ad.size
 have a4:=ag.trans ad
 have a5:=a9.ext ad
 refine Ac 1 Z<|A0<|bZ [0,0,0,0,3,0,0] Z ?_
 have hcr:=Kt p f [a]
 refine Ad 1 Z ?_
 by_cases am:EQ p f ([a])=((0:Nat):Int)
 ·refine Am true Z Z (A5 am) Aa<|Ad 2 Z<|As 126 [] [] [zI n] Z Z Vq (Ae (e:=18) Z Z Z) (H2 _ _ _hn) ?_
  rintro e5 w5 ⟨rfl,ae⟩
  refine⟨_,rfl,ae,?_⟩
  have az:=ae.size
  have a6:=a4.trans ae
  have aa:=a5.ext ae
  refine Bn (!(E7 n 0 40)) Z Z (Ae (e:=18) Z Z Z)<|Ac 1 Z ?_
  cases an:(!(E7 n 0 40))
  ·refine Ah (by first|rfl|exact zW an)<|A2<|A0<|bZ [0,0] Z ?_
   have hdr:=Ku p f a n
   refine Ad 1 Z ?_
   by_cases ao:EQ p f ([a])≠((0:Nat):Int)
   ·refine AT true Z Z (A5 ao) Aa<|Aj<|Ag Z<|bZ [0,0,0] Z<|Ac 3 Z<|A1<|Al ?_
    exact Af [8,9] Z (.tuple #[zN,zI<|EQ p f<|[a]]) Z ⟨zN,Of,a6,Tm,Og,Oe⟩
   refine AT false Z Z (A6 ao) Aa<|Aj<|Ah Z<|A2<|bZ [2,0,0,0,3,0,0,0,0] Z ?_
   have hg0:Hs p f a n=0:=by first|exact ZF oM (Do (by assumption))|(exfalso;omega)
   have ab:=Sk hg0
   have b5:=FG ab.1
   refine AK (p:=zP w.heap.size) (.inr Z) [vp] BZ Z (fun b7 a8=>LD.of_box<|BX.ext (w:=w5) aa a8) Z Aa<|Ad 3 Z<|As 127 [] [] [.agg #[vp],zI f,va,zI n] Z Z Ql Aa (Cp _ dp vp (p) _ _ _ _ (hp.ext (An<|Av dp) a6) _hf (ha.ext g1 a6) _hn b5 oM oM ab.2.2.2.2.1 oM oM) ?_
   rintro e8 w8 ⟨a2,rfl,ah,a3,ap⟩
   refine⟨_,rfl,ah,?_⟩
   have b0:=ah.size
   have b1:=a6.trans ah
   refine AM (vs:=[a2,zI<|Eo p f.toNat a n.toNat]) a2 Z Z Aa<|AM (vs:=[a2,zI<|Eo p f.toNat a n.toNat]) (zI<|Eo p f.toNat a n.toNat) Z Z Aa<|Ac 2 Z<|A1 ?_
   exact Af [8,9] Z (.tuple #[a2,zI<|Eo p f.toNat a n.toNat]) Z ⟨a2,Of,b1,(by first|(rw[L2 hg0];exact(a3.up o2).low a6.size)|(rw[K7 (by rw[P3 oM];omega)];exact(a3.up o2).low a6.size)|(rw[K7 (by rw[P4 oM<|CX (by assumption)];omega)];exact(a3.up o2).low a6.size)),Og,Oe⟩
  refine Ag (by first|rfl|exact zW an)<|Ab _ [0] Z<|Ac 1 Z<|A0<|bZ [0,0] Z ?_
  have hdr:=Ku p f a n
  refine Ad 1 Z<|AT true Z Z (by decide) Aa<|Aj<|Ag Z<|bZ [0,0,0] Z<|Ac 3 Z<|A1<|Al ?_
  exact Af [8,9] Z (.tuple #[zN,zI ((2:Nat):Int)]) Z ⟨zN,Of,a6,Tm,Og,Oe⟩
 refine Am false Z Z (A6 am) Aa<|Ac 5 Z<|Ah Z<|A2<|A0<|bZ [0,0] Z ?_
 have hdr:=Ku p f a n
 refine Ad 1 Z ?_
 by_cases aq:EQ p f ([a])≠((0:Nat):Int)
 ·refine AT true Z Z (A5 aq) Aa<|Aj<|Ag Z<|bZ [0,0,0] Z<|Ac 3 Z<|A1<|Al ?_
  exact Af [8,9] Z (.tuple #[zN,zI<|EQ p f<|[a]]) Z ⟨zN,Of,a4,Tm,Og,Oe⟩
 refine AT false Z Z (A6 aq) Aa<|Aj<|Ah Z<|A2<|bZ [2,0,0,0,3,0,0,0,0] Z ?_
 have hg0:Hs p f a n=0:=by first|exact ZF oM (Do (by assumption))|(exfalso;omega)
 have ab:=Sk hg0
 have b5:=FG ab.1
 refine AK (p:=zP w.heap.size) (.inr Z) [vp] BZ Z (fun b7 a8=>LD.of_box<|BX.ext (w:=w3) a5 a8) Z Aa<|Ad 3 Z<|As 127 [] [] [.agg #[vp],zI f,va,zI n] Z Z Ql Aa (Cp _ dp vp (p) _ _ _ _ (hp.ext (An<|Av dp) a4) _hf (ha.ext g1 a4) _hn b5 oM oM ab.2.2.2.2.1 oM oM) ?_
 rintro b8 b9 ⟨a0,rfl,a7,a1,ai⟩
 refine⟨_,rfl,a7,?_⟩
 have ar:=a7.size
 have aj:=a4.trans a7
 refine AM (vs:=[a0,zI<|Eo p f.toNat a n.toNat]) a0 Z Z Aa<|AM (vs:=[a0,zI<|Eo p f.toNat a n.toNat]) (zI<|Eo p f.toNat a n.toNat) Z Z Aa<|Ac 2 Z<|A1 ?_
 exact Af [8,9] Z (.tuple #[a0,zI<|Eo p f.toNat a n.toNat]) Z ⟨a0,Of,aj,(by first|(rw[L2 hg0];exact(a1.up o2).low a4.size)|(rw[K7 (by rw[P3 oM];omega)];exact(a1.up o2).low a4.size)|(rw[K7 (by rw[P4 oM<|CX (by assumption)];omega)];exact(a1.up o2).low a4.size)),Og,Oe⟩
theorem LV (w:World)(a:Int)(b:Int)(_ha:Bx a)(_hb:Bx b)  :
  Calls Tryz.prog 286 #[zI a,zI b] w (fun e w'=>e=.returned (zI (max a b))∧w'=w):=by
 refine Aq [zI a,zI b] 10 Tryz.func286 Z Z sM ?_
 have a0:w=w:=rfl
 refine cA Z<|A0<|bZ [0,0,0] Z<|Ad 2 Z ?_
 by_cases a1:b<a
 ·exact BU true Z Z (A5 a1) Aa<|Aj<|Ag Z<|bZ [0,0] Z<|Ac 2 Z<|A1<|Al<|Af [4] Z (zI a) Z ⟨B4 oM,a0⟩
 exact BU false Z Z (A6 a1) Aa<|Aj<|Ah Z<|A2<|bZ [0,0] Z<|Ac 2 Z<|A1<|Af [4] Z (zI b) Z ⟨B4 oM,a0⟩
theorem Tn {p:Prop}(h:p:=by rw[U9,hx];first|rw[za oM]|exact(Mk oM).symm):p:=h
theorem HD (w:World)(dex:Nat)(ve:Value)(ex:Ex)(left:Int)(hex:RN [] (rP (LK dex)) w.heap ve ex)(_hleft:Bx left)(af:0≤left∧left≤100000)(hs:ex.size≤1000000000) :
  Calls Tryz.prog 239 #[ve,zI left] w (fun e w'=>e=.returned (zI (I0 ex left))∧AF w w'):=by
 induction dex using Nat.strongRecOn generalizing w ve ex left
 rename_i dex ih
 refine Aq [ve,zI left] 30 Tryz.func239 Z Z sM ?_
 have a6:AF w w:=AF.refl w
 have hsk:=Cw ex
 refine cA Z<|bZ [0,0,0] Z<|Ad 1 Z<|Bs (left-1) Z Z (Da oM oM) Aa<|Ac 1 Z<|A0<|cA Z<|A3 ?_
 refine B1 (S:=Nat×Int) (fun⟨k,x⟩=>([(1,zI x),(5,zI (k:Int)),(0,ve)])) (fun⟨k,x⟩ W=>AF w W∧k≤ex.kids.length∧x=D6 (ex.kids.take k) (left-1)∧(-1≤x∧x≤left)) (fun⟨k,x⟩=>ex.kids.length-k) (0,left-1) ⟨rfl,rfl,rfl,trivial⟩ ⟨a6,sD,(by rw[List.take_zero,D6]),oM⟩ ?_
 clear a6
 rintro⟨k,x⟩ ρ1 w1 ⟨a0,a7,hx,a8⟩
 have ab:w.heap.size≤w1.heap.size:=a0.size
 refine A0<|bZ [0,0,0,0,2,0,0,0,0,0,0] Z<|Ad 2 Z<|AN (hex.isPtr) Z Aa ?_
 obtain⟨cs2,ac,a2⟩:=RN.at (Aw _) hex
 obtain⟨dd2,a1,ag,rfl,a3⟩:=RX.of ac
 have a4:=a3.rn.lenle
 unfold maxLen at a4
 refine AJ (p:=ve) 4 B9 Z (a2 _<|Au.of_ext [] a0) Aa<|Ai (p:=Ap ve 4) (.inr Z) a1 Bd Z ((a2 _<|Au.of_ext [] a0).ld (i:=4) (by simp[EX,EY])) Aa<|AQ (v:=a1) D1 Z a3.rn.isSl Aa ?_
 by_cases a9:(k:Int)<(ex.kids.length:Int)
 ·refine AG true Z Z (A5 a9) Aa<|Ad 2 Z ?_
  by_cases aa:((0:Nat):Int)≤x
  ·refine Dv true Z Z (A5 aa) (Ae (e:=15) Z Z Z)<|Ac 1 Z<|Ag Z<|A2<|A0<|A3<|Ab _ [0,0,0,2,0,0,0,3,0] Z ?_
   have hst:=DE (l:=ex.kids) (k:=k) oM
   have hle:=Dg ex.kids (k+1)
   have hnx:=Mj (l:=ex.kids) (k:=k) (x:=left-1) oM oM
   have hnr:=NS (e:=ex.kids.getD k Ex.zero) (x:=x) oM
   refine Ad 1 Z<|AN (hex.isPtr) Z Aa<|AJ (p:=ve) 4 B9 Z (a2 _<|Au.of_ext [] a0) Aa<|Ai (p:=Ap ve 4) (.inr Z) a1 Bd Z ((a2 _<|Au.of_ext [] a0).ld (i:=4) (by simp[EX,EY])) Aa<|Ad 1 Z<|AB (v:=a1) k D1 Bk Z Z a3.rn.isSl Z sD Aa<|Ad 1 Z ?_
   refine As 239 [] [] [Ay a1 k 5,zI x] Z Z T6 Aa (ih dd2 oM _ (Ay a1 k 5) (ex.kids.getD k Ex.zero) _ (RN.ptr (Aw dd2) (by decide) Ex.zero (a3.rn.ext (An<|Aw dd2) a0) sD) oM oM oM) ?_
   rintro e5 w5 ⟨rfl,a5⟩
   refine⟨_,rfl,a5,?_⟩
   have ad:=a5.size
   have ae:=a0.trans a5
   refine Ac 1 Z<|Ab _ [0,0,0] Z<|Ad 1 Z<|AP ((k+1:Nat):Int) Z Z (Bl oM sD) Aa<|Ac 1 Z ?_
   exact⟨(k+1,I0 (ex.kids.getD k Ex.zero) x),_,rfl,zR,⟨ae,sD,(by rw[hnx,hx]),oM⟩,zD⟩
  exact Dv false Z Z (A6 aa) (Ae (e:=15) Z Z Z)<|Ac 1 Z<|Ah Z<|A4<|Ax<|Ax<|At<|bZ [0,0] Z<|Ac 2 Z<|A1<|Af [4] Z (zI x) Z ⟨B4 Tn,a0⟩
 exact AG false Z Z (A6 a9) Aa<|Ac 4 Z<|Ah Z<|A4<|Ax<|Ax<|At<|bZ [0,0] Z<|Ac 2 Z<|A1<|Af [4] Z (zI x) Z ⟨B4 Tn,a0⟩
theorem Ke (w:World)(dex:Nat)(ve:Value)(ex:Ex)(hex:RN [] (rP (LK dex)) w.heap ve ex)(hs:ex.size≤1000000000) :
  Calls Tryz.prog 271 #[ve] w (fun e w'=>e=.returned (zI (ex.deep:Int))∧AF w w'):=by
 induction dex using Nat.strongRecOn generalizing w ve ex
 rename_i dex ih
 refine Aq [ve] 25 Tryz.func271 Z Z sM ?_
 have a6:AF w w:=AF.refl w
 have hsk:=Cw ex
 have hdk:=DI ex
 refine cA Z<|cA Z<|A0<|cA Z<|A3 ?_
 refine B1 (S:=Nat×Int) (fun⟨k,sz⟩=>([(3,zI sz),(4,zI (k:Int)),(0,ve)])) (fun⟨k,sz⟩ W=>AF w W∧k≤ex.kids.length∧sz=((Ex.deeps (ex.kids.take k):Nat):Int)∧(0≤sz∧sz≤1000000000)) (fun⟨k,sz⟩=>ex.kids.length-k) (0,((0:Nat):Int)) ⟨rfl,rfl,rfl,trivial⟩ ⟨a6,sD,(by rw[List.take_zero,M9] <;> rfl),oM⟩ ?_
 clear a6
 rintro⟨k,sz⟩ ρ1 w1 ⟨a0,a7,hsz,a8⟩
 have aa:w.heap.size≤w1.heap.size:=a0.size
 refine A0<|bZ [0,0,0,0,2,0,0] Z<|Ad 2 Z<|AN (hex.isPtr) Z Aa ?_
 obtain⟨cs2,ab,a2⟩:=RN.at (Aw _) hex
 obtain⟨dd2,a1,ae,rfl,a3⟩:=RX.of ab
 have a4:=a3.rn.lenle
 unfold maxLen at a4
 refine AJ (p:=ve) 4 B9 Z (a2 _<|Au.of_ext [] a0) Aa<|Ai (p:=Ap ve 4) (.inr Z) a1 Bd Z ((a2 _<|Au.of_ext [] a0).ld (i:=4) (by simp[EX,EY])) Aa<|AQ (v:=a1) D1 Z a3.rn.isSl Aa ?_
 by_cases a9:(k:Int)<(ex.kids.length:Int)
 ·refine AG true Z Z (A5 a9) Aa<|Aj<|Ag Z<|A2<|A0<|A3<|Ab _ [0,0,0,0,2,0,0,3,0,0] Z ?_
  have hst:=DE (l:=ex.kids) (k:=k) oM
  have hle:=Dg ex.kids (k+1)
  have hdt:=GD (l:=ex.kids) (k:=k) oM
  have hda:=Ea<|ex.kids.getD k Ex.zero
  have hdz:=Ir<|ex.kids.take k
  refine Ad 2 Z<|AN (hex.isPtr) Z Aa<|AJ (p:=ve) 4 B9 Z (a2 _<|Au.of_ext [] a0) Aa<|Ai (p:=Ap ve 4) (.inr Z) a1 Bd Z ((a2 _<|Au.of_ext [] a0).ld (i:=4) (by simp[EX,EY])) Aa<|Ad 1 Z<|AB (v:=a1) k D1 Bk Z Z a3.rn.isSl Z sD Aa ?_
  refine As 271 [] [] [Ay a1 k 5] Z Z VH Aa (ih dd2 oM _ (Ay a1 k 5) (ex.kids.getD k Ex.zero) (RN.ptr (Aw dd2) (by decide) Ex.zero (a3.rn.ext (An<|Aw dd2) a0) sD) oM) ?_
  rintro e4 w4 ⟨rfl,a5⟩
  refine⟨_,rfl,a5,?_⟩
  have ac:=a5.size
  have ad:=a0.trans a5
  refine Az 286 [] [] [zI sz,zI (((ex.kids.getD k Ex.zero).deep:Nat):Int)] Z Z Zm Aa (zI<|max sz (((ex.kids.getD k Ex.zero).deep:Nat):Int)) (fun wq=>LV wq _ _ oM (zH<|Ea (ex.kids.getD k Ex.zero)))<|Ac 1 Z<|Ab _ [0,0,0] Z<|Ad 1 Z<|AP ((k+1:Nat):Int) Z Z (Bl oM sD) Aa<|Ac 1 Z ?_
  exact⟨(k+1,max sz (((ex.kids.getD k Ex.zero).deep:Nat):Int)),_,rfl,zR,⟨ad,sD,oM,oM⟩,zD⟩
 refine AG false Z Z (A6 a9) Aa<|Aj<|Ah Z<|A4<|Ax<|Ax<|At<|bZ [0,0,0] Z ?_
 have h8:=Jy (l:=ex.kids) (k:=k) oM
 have h9:=Ea ex
 exact Ad 1 Z<|AP (sz+1) Z Z (Da oM oM) Aa<|Ac 1 Z<|A1<|Af [2] Z (zI (sz+1)) Z ⟨B4 oM,a0⟩
theorem G4 {p:Prop}(h:p:=by unfold QL;repeat (first|rfl|(rw[if_pos oM])|(rw[if_neg oM]))):p:=h
theorem Lt (w:World)(kind:Int)(_hkind:Bx kind)  :
  Calls Tryz.prog 198 #[zI kind] w (fun e w'=>e=.returned (zI (QL kind))∧w'=w):=by
 refine Aq [zI kind] 17 Tryz.func198 Z Z sM ?_
 have a0:w=w:=rfl
 refine cA Z<|A0<|cA Z<|A3<|A0<|bZ [0,0] Z ?_
 by_cases a1:kind=((1:Nat):Int)
 ·exact Am true Z Z (A5 a1) Aa<|Ac 1 Z<|Ag Z<|A2<|Ag Z<|cA Z<|A1<|AC<|Al<|Af [2] Z (zI ((0:Nat):Int)) Z ⟨B4 G4,a0⟩
 refine Am false Z Z (A6 a1) Aa<|Ac 1 Z<|Ah Z<|Ab _ [0,0] Z ?_
 by_cases a2:kind=((2:Nat):Int)
 ·exact Am true Z Z (A5 a2) Aa<|Ac 1 Z<|Ag Z<|cA Z<|A1<|AC<|Al<|Af [2] Z (zI ((0:Nat):Int)) Z ⟨B4 G4,a0⟩
 refine Am false Z Z (A6 a2) Aa<|Ac 1 Z<|Ah Z<|A0<|bZ [0,0] Z ?_
 by_cases a3:kind=((3:Nat):Int)
 ·exact Am true Z Z (A5 a3) Aa<|Ac 1 Z<|Ag Z<|A2<|Ag Z<|cA Z<|A1<|AC<|Al<|Af [2] Z (zI ((2:Nat):Int)) Z ⟨B4 G4,a0⟩
 refine Am false Z Z (A6 a3) Aa<|Ac 1 Z<|Ah Z<|bZ [0,0] Z ?_
 by_cases a4:kind=((4:Nat):Int)
 ·exact Am true Z Z (A5 a4) Aa<|Ac 1 Z<|Ag Z<|A2<|Ag Z<|cA Z<|A1<|AC<|Al<|Af [2] Z (zI ((2:Nat):Int)) Z ⟨B4 G4,a0⟩
 refine Am false Z Z (A6 a4) Aa<|Ac 1 Z<|Ah Z<|bZ [0,0] Z ?_
 by_cases a5:kind=((5:Nat):Int)
 ·exact Am true Z Z (A5 a5) Aa<|Ac 1 Z<|Ag Z<|A2<|Ag Z<|cA Z<|A1<|AC<|Al<|Af [2] Z (zI ((2:Nat):Int)) Z ⟨B4 G4,a0⟩
 refine Am false Z Z (A6 a5) Aa<|Ac 1 Z<|Ah Z<|bZ [0,0] Z ?_
 by_cases a6:kind=((6:Nat):Int)
 ·exact Am true Z Z (A5 a6) Aa<|Ac 1 Z<|Ag Z<|A2<|Ag Z<|cA Z<|A1<|AC<|Al<|Af [2] Z (zI ((2:Nat):Int)) Z ⟨B4 G4,a0⟩
 refine Am false Z Z (A6 a6) Aa<|Ac 1 Z<|Ah Z<|Ab _ [0,0] Z ?_
 by_cases a7:kind=((9:Nat):Int)
 ·exact Am true Z Z (A5 a7) Aa<|Ac 1 Z<|Ag Z<|cA Z<|A1<|AC<|Al<|Af [2] Z (zI ((2:Nat):Int)) Z ⟨B4 G4,a0⟩
 refine Am false Z Z (A6 a7) Aa<|Ac 1 Z<|Ah Z<|bZ [0,0] Z ?_
 by_cases a8:kind=((7:Nat):Int)
 ·exact Am true Z Z (A5 a8) Aa<|Ac 1 Z<|Ag Z<|cA Z<|A1<|AC<|Al<|Af [2] Z (zI ((1:Nat):Int)) Z ⟨B4 G4,a0⟩
 refine Am false Z Z (A6 a8) Aa<|Ac 1 Z<|Ah Z<|bZ [0,0] Z ?_
 by_cases a9:kind=((8:Nat):Int)
 ·exact Am true Z Z (A5 a9) Aa<|Ac 1 Z<|Ag Z<|cA Z<|A1<|AC<|Al<|Af [2] Z (zI ((3:Nat):Int)) Z ⟨B4 G4,a0⟩
 exact Am false Z Z (A6 a9) Aa<|Ac 1 Z<|Ah Z<|A2<|cA Z<|A1<|Af [2] Z (zI (-1)) Z ⟨B4 G4,a0⟩
theorem D8 {p:Prop}(h:p:=by first|exact AI (Xv oM oM oM)|exact AI (aL oM oM oM oM)|exact AI (aM oM oM oM oM)|exact AI ((MS oM).trans (aN oM oM oM oM oM oM oM))|exact AI (by unfold GF DF E7;first|(simp[*];done)|(simp[*];omega)|(simp[*] <;> intros <;> omega)|(simp_all;done)|(simp_all <;> omega))):p:=h
theorem BF {p:Prop}(h:p:=by simp[EX,EY]):p:=h
theorem Lu (w:World)(dp:Nat)(vp:Value)(p:List Fn)(dex:Nat)(ve:Value)(ex:Ex)(vars:Int)(funcs:Int)(hp:RN [] (rP (Ki dp)) w.heap vp p)(hex:RN [] (rP (LK dex)) w.heap ve ex)(_hvars:Bx vars)(_hfuncs:Bx funcs)(hv:0≤vars∧vars≤2000000000)(hf:0≤funcs∧funcs≤(p.length:Int)) :
  Calls Tryz.prog 287 #[vp,ve,zI vars,zI funcs] w (fun e w'=>e=.returned (.bool (GF p funcs vars ex))∧AF w w'):=by
 refine Aq [vp,ve,zI vars,zI funcs] 140 Tryz.func287 Z Z sM ?_
 have a0:AF w w:=AF.refl w
 refine cA Z<|A0<|bZ [0,0,0,2,0,0,0,0,0,2,0,0] Z<|Ad 1 Z<|AN (hex.isPtr) Z Aa ?_
 obtain⟨cs1,b2,a1⟩:=RN.at (Aw _) hex
 obtain⟨dd1,ab,b8,rfl,a5⟩:=RX.of b2
 have aq:=a5.rn.lenle
 unfold maxLen at aq
 refine AJ (p:=ve) 0 Bf Z (a1 _<|Au.of_ext [] a0) Aa<|Ai (p:=Ap ve 0) (.inr Z) (zI ex.kind) AD Z ((a1 _<|Au.of_ext [] a0).ld (i:=0) BF) Aa ?_
 by_cases ay:ex.kind=((10:Nat):Int)
 ·refine Am true Z Z (A5 ay) Aa<|Ac 7 Z<|Ag Z<|A0<|bZ [0,0,0,2,0,0,0,0] Z<|Ad 1 Z<|AN (hex.isPtr) Z Aa<|AJ (p:=ve) 1 BE Z (a1 _<|Au.of_ext [] a0) Aa<|Ai (p:=Ap ve 1) (.inr Z) (zI ex.num) AD Z ((a1 _<|Au.of_ext [] a0).ld (i:=1) BF) Aa<|Ad 1 Z<|Bs (funcs-1) Z Z (Da oM oM) Aa<|Az 74 [] [] [zI ex.num,zI ((0:Nat):Int),zI (funcs-1)] Z Z IA Aa (.bool (decide (((0:Nat):Int)≤ex.num) && decide (ex.num≤(funcs-1)))) (fun wq=>Bw wq _ _ _ a5.rng.num oM oM) ?_
  refine Bn (!(decide (((0:Nat):Int)≤ex.num) && decide (ex.num≤(funcs-1)))) Z Z Aa<|Aj ?_
  cases az:(!(decide (((0:Nat):Int)≤ex.num) && decide (ex.num≤(funcs-1))))
  ·refine Ah (by first|rfl|exact zW az)<|A2<|A0<|AO _ [0,0,0,1,0,0,0,1,0,0] mixed (by kernel_rfl) ?_
   have hnr:=HB (Do (by assumption):(decide (((0:Nat):Int)≤ex.num) && decide (ex.num≤funcs-1))=true)
   refine Ad 1 Z<|AN (hp.isPtr) Z Aa ?_
   obtain⟨cs5,b3,b0⟩:=RN.at (AU _) hp
   obtain⟨a6,rfl,a9⟩:=RPr.of b3
   have ar:=a9.lenle
   unfold maxLen at ar
   refine AJ (p:=vp) 0 Bv Z (b0 _<|Au.of_ext [] a0.drew) Aa<|Ai (p:=Ap vp 0) (.inl Z) a6 BY Z ((b0 _<|Au.of_ext [] a0.drew).ld (i:=0) BF) Aa<|Ad 1 Z<|AN (hex.isPtr) Z Aa<|AJ (p:=ve) 1 BE Z (a1 _<|Au.of_ext [] a0.drew) Aa<|Ai (p:=Ap ve 1) (.inl Z) (zI ex.num) AD Z ((a1 _<|Au.of_ext [] a0.drew).ld (i:=1) BF) Aa ?_
   refine AB (v:=a6) ((ex.num).toNat) Gb Cj Z Z a9.isSl oM sD Aa<|Ac 1 Z<|A0<|A0<|AO _ [0,0,0,1,0,0,0,1,0,0,0,0,0,0,0,0,1,0,0,0,0,1,0,0] mixed (by kernel_rfl)<|Ad 1 Z<|AN (hex.isPtr) Z Aa<|AJ (p:=ve) 2 Dc Z (a1 _<|Au.of_ext [] a0.drew.drew) Aa ?_
   refine Ai (p:=Ap ve 2) (.inl Z) (zI ex.pick) AD Z ((a1 _<|Au.of_ext [] a0.drew.drew).ld (i:=2) BF) Aa<|Ad 1 Z<|AN (RN.isPtr<|RN.ptr (Av dp) (by decide) Fn.zero a9 sD) Z Aa ?_
   obtain⟨cs6,b4,a8⟩:=a9.get (Av dp) Fn.zero (k:=(ex.num).toNat) sD
   obtain⟨ap,rfl,au⟩:=RF.of b4
   have av:=au.rn.lenle
   unfold maxLen at av
   refine AJ (p:=Ay a6 ((ex.num).toNat) 3) 2 BL Z (a8 _<|Au.of_ext [] a0.drew.drew) Aa<|Ai (p:=Ap (Ay a6 ((ex.num).toNat) 3) 2) (.inl Z) ap Bd Z ((a8 _<|Au.of_ext [] a0.drew.drew).ld (i:=2) BF) Aa<|AQ (v:=ap) D1 Z au.rn.isSl Aa<|Bs ((((p.getD (ex.num).toNat Fn.zero).outs.length:Nat):Int)-1) Z Z (Da oM oM) Aa<|Az 74 [] [] [zI ex.pick,zI ((0:Nat):Int),zI ((((p.getD (ex.num).toNat Fn.zero).outs.length:Nat):Int)-1)] Z Z IA Aa (.bool (decide (((0:Nat):Int)≤ex.pick) && decide (ex.pick≤((((p.getD (ex.num).toNat Fn.zero).outs.length:Nat):Int)-1)))) (fun wq=>Bw wq _ _ _ a5.rng.pick oM oM) ?_
   refine Bn (!(decide (((0:Nat):Int)≤ex.pick) && decide (ex.pick≤((((p.getD (ex.num).toNat Fn.zero).outs.length:Nat):Int)-1)))) Z Z Aa<|Ad 1 Z ?_
   cases b9:(!(decide (((0:Nat):Int)≤ex.pick) && decide (ex.pick≤((((p.getD (ex.num).toNat Fn.zero).outs.length:Nat):Int)-1))))
   ·refine Ad 1 Z<|AN (hex.isPtr) Z (Ae (e:=51) Z Z Z)<|AJ (p:=ve) 4 B9 Z (a1 _<|Au.of_ext [] a0.drew.drew) (Ae (e:=51) Z Z Z)<|Ai (p:=Ap ve 4) (.inl Z) ab Bd Z ((a1 _<|Au.of_ext [] a0.drew.drew).ld (i:=4) BF) (Ae (e:=51) Z Z Z)<|AQ (v:=ab) D1 Z a5.rn.isSl (Ae (e:=51) Z Z Z)<|Ad 1 Z ?_
    refine AN (RN.isPtr<|RN.ptr (Av dp) (by decide) Fn.zero a9 sD) Z (Ae (e:=51) Z Z Z)<|AJ (p:=Ay a6 ((ex.num).toNat) 3) 1 C2 Z (a8 _<|Au.of_ext [] a0.drew.drew) (Ae (e:=51) Z Z Z)<|Ai (p:=Ap (Ay a6 ((ex.num).toNat) 3) 1) (.inl Z) (zI<|(p.getD ((ex.num).toNat) Fn.zero).params) AD Z ((a8 _<|Au.of_ext [] a0.drew.drew).ld (i:=1) BF) (Ae (e:=51) Z Z Z) ?_
    by_cases b1:(ex.kids.length:Int)≠(p.getD ((ex.num).toNat) Fn.zero).params
    ·exact AT true Z Z (A5 b1) (Ae (e:=51) Z Z Z)<|Ac 1 Z<|Ag Z<|cA Z<|A1<|Al<|Al<|Af [8] Z (.bool false) Z ⟨D8,a0.drew.drew⟩
    refine AT false Z Z (A6 b1) (Ae (e:=51) Z Z Z)<|Ac 1 Z<|Ah Z<|A2<|A0<|bZ [0,0,0,2,0] Z<|Ad 1 Z<|AN (hex.isPtr) Z Aa<|AJ (p:=ve) 0 Bf Z (a1 _<|Au.of_ext [] a0.drew.drew) Aa<|Ai (p:=Ap ve 0) (.inr Z) (zI ex.kind) AD Z ((a1 _<|Au.of_ext [] a0.drew.drew).ld (i:=0) BF) Aa ?_
    by_cases ac:ex.kind=((10:Nat):Int)
    ·refine Am true Z Z (A5 ac) Aa<|Aj<|Ag Z<|bZ [0,0,0,2,0,0] Z<|Ad 1 Z<|AN (hex.isPtr) Z Aa<|AJ (p:=ve) 3 Du Z (a1 _<|Au.of_ext [] a0.drew.drew) Aa<|Ai (p:=Ap ve 3) (.inr Z) (zI ex.count) AD Z ((a1 _<|Au.of_ext [] a0.drew.drew).ld (i:=3) BF) Aa<|Am (decide (ex.count=((0:Nat):Int))) Z Z Z Aa<|Ac 1 Z<|A1<|Al<|Al ?_
     exact Af [8] Z (.bool<|decide (ex.count=((0:Nat):Int))) Z ⟨D8,a0.drew.drew⟩
    refine Am false Z Z (A6 ac) Aa<|Aj<|Ah Z<|A2<|A0<|AO _ [0,0,0,1,0,0,0,0,0,1,0,0,0,0,1,0,0,0] mixed (by kernel_rfl)<|Ad 1 Z<|AN (hex.isPtr) Z Aa<|AJ (p:=ve) 3 Du Z (a1 _<|Au.of_ext [] a0.drew.drew.drew) Aa<|Ai (p:=Ap ve 3) (.inl Z) (zI ex.count) AD Z ((a1 _<|Au.of_ext [] a0.drew.drew.drew).ld (i:=3) BF) Aa<|Az 74 [] [] [zI ex.count,zI ((0:Nat):Int),zI ((8:Nat):Int)] Z Z IA Aa (.bool (decide (((0:Nat):Int)≤ex.count) && decide (ex.count≤((8:Nat):Int)))) (fun wq=>Bw wq _ _ _ a5.rng.count oM oM)<|Ad 1 Z ?_
    cases b5:(decide (((0:Nat):Int)≤ex.count) && decide (ex.count≤((8:Nat):Int)))
    ·exact Ac 12 Z<|A1<|Al<|Af [8] Z (.bool false) Z ⟨D8,a0.drew.drew.drew⟩
    refine Ad 1 Z<|AN (RN.isPtr<|RN.ptr (Av dp) (by decide) Fn.zero a9 sD) Z (Ae (e:=78) Z Z Z)<|AJ (p:=Ay a6 ((ex.num).toNat) 3) 2 BL Z (a8 _<|Au.of_ext [] a0.drew.drew.drew) (Ae (e:=78) Z Z Z)<|Ai (p:=Ap (Ay a6 ((ex.num).toNat) 3) 2) (.inl Z) ap Bd Z ((a8 _<|Au.of_ext [] a0.drew.drew.drew).ld (i:=2) BF) (Ae (e:=78) Z Z Z) ?_
    refine AQ (v:=ap) D1 Z au.rn.isSl (Ae (e:=78) Z Z Z)<|Ad 1 Z<|AN (RN.isPtr<|RN.ptr (Av dp) (by decide) Fn.zero a9 sD) Z (Ae (e:=78) Z Z Z)<|AJ (p:=Ay a6 ((ex.num).toNat) 3) 1 C2 Z (a8 _<|Au.of_ext [] a0.drew.drew.drew) (Ae (e:=78) Z Z Z) ?_
    refine Ai (p:=Ap (Ay a6 ((ex.num).toNat) 3) 1) (.inl Z) (zI<|(p.getD ((ex.num).toNat) Fn.zero).params) AD Z ((a8 _<|Au.of_ext [] a0.drew.drew.drew).ld (i:=1) BF) (Ae (e:=78) Z Z Z)<|Am (decide (((((p.getD ((ex.num).toNat) Fn.zero).outs).length:Nat):Int)=(p.getD ((ex.num).toNat) Fn.zero).params)) Z Z Z (Ae (e:=78) Z Z Z)<|Ac 2 Z<|A1<|Al ?_
    exact Af [8] Z (.bool<|decide (((((p.getD ((ex.num).toNat) Fn.zero).outs).length:Nat):Int)=(p.getD ((ex.num).toNat) Fn.zero).params)) Z ⟨D8,a0.drew.drew.drew⟩
   exact Ac 11 Z<|Ag Z<|cA Z<|A1<|Al<|Al<|Af [8] Z (.bool false) Z ⟨D8,a0.drew.drew⟩
  exact Ag (by first|rfl|exact zW az)<|cA Z<|A1<|Al<|Al<|Af [8] Z (.bool false) Z ⟨D8,a0⟩
 refine Am false Z Z (A6 ay) Aa<|Ad 2 Z<|AN (hex.isPtr) Z (Ae (e:=15) Z Z Z)<|AJ (p:=ve) 0 Bf Z (a1 _<|Au.of_ext [] a0) (Ae (e:=15) Z Z Z)<|Ai (p:=Ap ve 0) (.inr Z) (zI ex.kind) AD Z ((a1 _<|Au.of_ext [] a0).ld (i:=0) BF) (Ae (e:=15) Z Z Z) ?_
 by_cases ad:ex.kind=((11:Nat):Int)
 ·refine Am true Z Z (A5 ad) (Ae (e:=15) Z Z Z)<|Ac 1 Z<|Ag Z<|A0<|bZ [0,0,0,2,0,0,0,0] Z<|Ad 1 Z<|AN (hex.isPtr) Z Aa<|AJ (p:=ve) 1 BE Z (a1 _<|Au.of_ext [] a0) Aa<|Ai (p:=Ap ve 1) (.inr Z) (zI ex.num) AD Z ((a1 _<|Au.of_ext [] a0).ld (i:=1) BF) Aa<|Ad 1 Z<|Bs (funcs-1) Z Z (Da oM oM) Aa<|Az 74 [] [] [zI ex.num,zI ((0:Nat):Int),zI (funcs-1)] Z Z IA Aa (.bool (decide (((0:Nat):Int)≤ex.num) && decide (ex.num≤(funcs-1)))) (fun wq=>Bw wq _ _ _ a5.rng.num oM oM) ?_
  refine Bn (!(decide (((0:Nat):Int)≤ex.num) && decide (ex.num≤(funcs-1)))) Z Z Aa<|Aj ?_
  cases ae:(!(decide (((0:Nat):Int)≤ex.num) && decide (ex.num≤(funcs-1))))
  ·refine Ah (by first|rfl|exact zW ae)<|A2<|A0<|AO _ [0,0,0,1,0,0,0,1,0,0] mixed (by kernel_rfl) ?_
   have hnr:=HB (Do (by assumption):(decide (((0:Nat):Int)≤ex.num) && decide (ex.num≤funcs-1))=true)
   refine Ad 1 Z<|AN (hp.isPtr) Z Aa ?_
   obtain⟨cs16,aw,af⟩:=RN.at (AU _) hp
   obtain⟨a2,rfl,a4⟩:=RPr.of aw
   have ag:=a4.lenle
   unfold maxLen at ag
   refine AJ (p:=vp) 0 Bv Z (af _<|Au.of_ext [] a0.drew) Aa<|Ai (p:=Ap vp 0) (.inl Z) a2 BY Z ((af _<|Au.of_ext [] a0.drew).ld (i:=0) BF) Aa<|Ad 1 Z<|AN (hex.isPtr) Z Aa<|AJ (p:=ve) 1 BE Z (a1 _<|Au.of_ext [] a0.drew) Aa<|Ai (p:=Ap ve 1) (.inl Z) (zI ex.num) AD Z ((a1 _<|Au.of_ext [] a0.drew).ld (i:=1) BF) Aa ?_
   refine AB (v:=a2) ((ex.num).toNat) Gb Cj Z Z a4.isSl oM sD Aa<|Ac 1 Z<|A0<|A0<|AO _ [0,0,0,1,0,0,0,1,0,0,0,0,0,0,0,0,1,0,0,0,0,1,0,0] mixed (by kernel_rfl)<|Ad 1 Z<|AN (hex.isPtr) Z Aa<|AJ (p:=ve) 2 Dc Z (a1 _<|Au.of_ext [] a0.drew.drew) Aa ?_
   refine Ai (p:=Ap ve 2) (.inl Z) (zI ex.pick) AD Z ((a1 _<|Au.of_ext [] a0.drew.drew).ld (i:=2) BF) Aa<|Ad 1 Z<|AN (RN.isPtr<|RN.ptr (Av dp) (by decide) Fn.zero a4 sD) Z Aa ?_
   obtain⟨cs17,ax,a3⟩:=a4.get (Av dp) Fn.zero (k:=(ex.num).toNat) sD
   obtain⟨a7,rfl,aa⟩:=RF.of ax
   have ah:=aa.rn.lenle
   unfold maxLen at ah
   refine AJ (p:=Ay a2 ((ex.num).toNat) 3) 2 BL Z (a3 _<|Au.of_ext [] a0.drew.drew) Aa<|Ai (p:=Ap (Ay a2 ((ex.num).toNat) 3) 2) (.inl Z) a7 Bd Z ((a3 _<|Au.of_ext [] a0.drew.drew).ld (i:=2) BF) Aa<|AQ (v:=a7) D1 Z aa.rn.isSl Aa<|Bs ((((p.getD (ex.num).toNat Fn.zero).outs.length:Nat):Int)-1) Z Z (Da oM oM) Aa<|Az 74 [] [] [zI ex.pick,zI ((0:Nat):Int),zI ((((p.getD (ex.num).toNat Fn.zero).outs.length:Nat):Int)-1)] Z Z IA Aa (.bool (decide (((0:Nat):Int)≤ex.pick) && decide (ex.pick≤((((p.getD (ex.num).toNat Fn.zero).outs.length:Nat):Int)-1)))) (fun wq=>Bw wq _ _ _ a5.rng.pick oM oM) ?_
   refine Bn (!(decide (((0:Nat):Int)≤ex.pick) && decide (ex.pick≤((((p.getD (ex.num).toNat Fn.zero).outs.length:Nat):Int)-1)))) Z Z Aa<|Ad 1 Z ?_
   cases b6:(!(decide (((0:Nat):Int)≤ex.pick) && decide (ex.pick≤((((p.getD (ex.num).toNat Fn.zero).outs.length:Nat):Int)-1))))
   ·refine Ad 1 Z<|AN (hex.isPtr) Z (Ae (e:=51) Z Z Z)<|AJ (p:=ve) 4 B9 Z (a1 _<|Au.of_ext [] a0.drew.drew) (Ae (e:=51) Z Z Z)<|Ai (p:=Ap ve 4) (.inl Z) ab Bd Z ((a1 _<|Au.of_ext [] a0.drew.drew).ld (i:=4) BF) (Ae (e:=51) Z Z Z)<|AQ (v:=ab) D1 Z a5.rn.isSl (Ae (e:=51) Z Z Z)<|Ad 1 Z ?_
    refine AN (RN.isPtr<|RN.ptr (Av dp) (by decide) Fn.zero a4 sD) Z (Ae (e:=51) Z Z Z)<|AJ (p:=Ay a2 ((ex.num).toNat) 3) 1 C2 Z (a3 _<|Au.of_ext [] a0.drew.drew) (Ae (e:=51) Z Z Z)<|Ai (p:=Ap (Ay a2 ((ex.num).toNat) 3) 1) (.inl Z) (zI<|(p.getD ((ex.num).toNat) Fn.zero).params) AD Z ((a3 _<|Au.of_ext [] a0.drew.drew).ld (i:=1) BF) (Ae (e:=51) Z Z Z) ?_
    by_cases ai:(ex.kids.length:Int)≠(p.getD ((ex.num).toNat) Fn.zero).params
    ·exact AT true Z Z (A5 ai) (Ae (e:=51) Z Z Z)<|Ac 1 Z<|Ag Z<|cA Z<|A1<|Al<|Al<|Af [8] Z (.bool false) Z ⟨D8,a0.drew.drew⟩
    refine AT false Z Z (A6 ai) (Ae (e:=51) Z Z Z)<|Ac 1 Z<|Ah Z<|A2<|A0<|bZ [0,0,0,2,0] Z<|Ad 1 Z<|AN (hex.isPtr) Z Aa<|AJ (p:=ve) 0 Bf Z (a1 _<|Au.of_ext [] a0.drew.drew) Aa<|Ai (p:=Ap ve 0) (.inr Z) (zI ex.kind) AD Z ((a1 _<|Au.of_ext [] a0.drew.drew).ld (i:=0) BF) Aa ?_
    by_cases aj:ex.kind=((10:Nat):Int)
    ·refine Am true Z Z (A5 aj) Aa<|Aj<|Ag Z<|bZ [0,0,0,2,0,0] Z<|Ad 1 Z<|AN (hex.isPtr) Z Aa<|AJ (p:=ve) 3 Du Z (a1 _<|Au.of_ext [] a0.drew.drew) Aa<|Ai (p:=Ap ve 3) (.inr Z) (zI ex.count) AD Z ((a1 _<|Au.of_ext [] a0.drew.drew).ld (i:=3) BF) Aa<|Am (decide (ex.count=((0:Nat):Int))) Z Z Z Aa<|Ac 1 Z<|A1<|Al<|Al ?_
     exact Af [8] Z (.bool<|decide (ex.count=((0:Nat):Int))) Z ⟨D8,a0.drew.drew⟩
    refine Am false Z Z (A6 aj) Aa<|Aj<|Ah Z<|A2<|A0<|AO _ [0,0,0,1,0,0,0,0,0,1,0,0,0,0,1,0,0,0] mixed (by kernel_rfl)<|Ad 1 Z<|AN (hex.isPtr) Z Aa<|AJ (p:=ve) 3 Du Z (a1 _<|Au.of_ext [] a0.drew.drew.drew) Aa<|Ai (p:=Ap ve 3) (.inl Z) (zI ex.count) AD Z ((a1 _<|Au.of_ext [] a0.drew.drew.drew).ld (i:=3) BF) Aa<|Az 74 [] [] [zI ex.count,zI ((0:Nat):Int),zI ((8:Nat):Int)] Z Z IA Aa (.bool (decide (((0:Nat):Int)≤ex.count) && decide (ex.count≤((8:Nat):Int)))) (fun wq=>Bw wq _ _ _ a5.rng.count oM oM)<|Ad 1 Z ?_
    cases b7:(decide (((0:Nat):Int)≤ex.count) && decide (ex.count≤((8:Nat):Int)))
    ·exact Ac 12 Z<|A1<|Al<|Af [8] Z (.bool false) Z ⟨D8,a0.drew.drew.drew⟩
    refine Ad 1 Z<|AN (RN.isPtr<|RN.ptr (Av dp) (by decide) Fn.zero a4 sD) Z (Ae (e:=78) Z Z Z)<|AJ (p:=Ay a2 ((ex.num).toNat) 3) 2 BL Z (a3 _<|Au.of_ext [] a0.drew.drew.drew) (Ae (e:=78) Z Z Z)<|Ai (p:=Ap (Ay a2 ((ex.num).toNat) 3) 2) (.inl Z) a7 Bd Z ((a3 _<|Au.of_ext [] a0.drew.drew.drew).ld (i:=2) BF) (Ae (e:=78) Z Z Z) ?_
    refine AQ (v:=a7) D1 Z aa.rn.isSl (Ae (e:=78) Z Z Z)<|Ad 1 Z<|AN (RN.isPtr<|RN.ptr (Av dp) (by decide) Fn.zero a4 sD) Z (Ae (e:=78) Z Z Z)<|AJ (p:=Ay a2 ((ex.num).toNat) 3) 1 C2 Z (a3 _<|Au.of_ext [] a0.drew.drew.drew) (Ae (e:=78) Z Z Z) ?_
    refine Ai (p:=Ap (Ay a2 ((ex.num).toNat) 3) 1) (.inl Z) (zI<|(p.getD ((ex.num).toNat) Fn.zero).params) AD Z ((a3 _<|Au.of_ext [] a0.drew.drew.drew).ld (i:=1) BF) (Ae (e:=78) Z Z Z)<|Am (decide (((((p.getD ((ex.num).toNat) Fn.zero).outs).length:Nat):Int)=(p.getD ((ex.num).toNat) Fn.zero).params)) Z Z Z (Ae (e:=78) Z Z Z)<|Ac 2 Z<|A1<|Al ?_
    exact Af [8] Z (.bool<|decide (((((p.getD ((ex.num).toNat) Fn.zero).outs).length:Nat):Int)=(p.getD ((ex.num).toNat) Fn.zero).params)) Z ⟨D8,a0.drew.drew.drew⟩
   exact Ac 11 Z<|Ag Z<|cA Z<|A1<|Al<|Al<|Af [8] Z (.bool false) Z ⟨D8,a0.drew.drew⟩
  exact Ag (by first|rfl|exact zW ae)<|cA Z<|A1<|Al<|Al<|Af [8] Z (.bool false) Z ⟨D8,a0⟩
 refine Am false Z Z (A6 ad) (Ae (e:=15) Z Z Z)<|Ac 1 Z<|Ah Z<|A2<|A0<|A0<|AO _ [0,0,0,1,0,0,0,0,1,0,0,0,0,0,0,1,0,0,0,0,0,0,1,0,0] mixed (by kernel_rfl)<|Ad 1 Z<|AN (hex.isPtr) Z Aa<|AJ (p:=ve) 0 Bf Z (a1 _<|Au.of_ext [] a0.drew) Aa<|Ai (p:=Ap ve 0) (.inl Z) (zI ex.kind) AD Z ((a1 _<|Au.of_ext [] a0.drew).ld (i:=0) BF) Aa<|Az 198 [] [] [zI ex.kind] Z Z VA Aa (zI<|QL ex.kind) (fun wq=>Lt wq _ a5.rng.kind)<|Ad 1 Z<|AN (hex.isPtr) Z Aa<|AJ (p:=ve) 4 B9 Z (a1 _<|Au.of_ext [] a0.drew) Aa ?_
 refine Ai (p:=Ap ve 4) (.inl Z) ab Bd Z ((a1 _<|Au.of_ext [] a0.drew).ld (i:=4) BF) Aa<|AQ (v:=ab) D1 Z a5.rn.isSl Aa ?_
 by_cases ak:QL ex.kind≠(ex.kids.length:Int)
 ·exact AT true Z Z (A5 ak) Aa<|Ac 14 Z<|Ag Z<|cA Z<|A1<|Al<|Af [8] Z (.bool false) Z ⟨D8,a0.drew⟩
 refine AT false Z Z (A6 ak) Aa<|Ad 2 Z<|AN (hex.isPtr) Z (Ae (e:=101) Z Z Z)<|AJ (p:=ve) 2 Dc Z (a1 _<|Au.of_ext [] a0.drew) (Ae (e:=101) Z Z Z)<|Ai (p:=Ap ve 2) (.inl Z) (zI ex.pick) AD Z ((a1 _<|Au.of_ext [] a0.drew).ld (i:=2) BF) (Ae (e:=101) Z Z Z) ?_
 by_cases al:ex.pick≠((0:Nat):Int)
 ·exact AT true Z Z (A5 al) (Ae (e:=101) Z Z Z)<|Ac 8 Z<|Ag Z<|cA Z<|A1<|Al<|Af [8] Z (.bool false) Z ⟨D8,a0.drew⟩
 refine AT false Z Z (A6 al) (Ae (e:=101) Z Z Z)<|Ad 3 Z<|AN (hex.isPtr) Z (Ae (e:=108) Z Z Z)<|AJ (p:=ve) 3 Du Z (a1 _<|Au.of_ext [] a0.drew) (Ae (e:=108) Z Z Z)<|Ai (p:=Ap ve 3) (.inl Z) (zI ex.count) AD Z ((a1 _<|Au.of_ext [] a0.drew).ld (i:=3) BF) (Ae (e:=108) Z Z Z) ?_
 by_cases am:ex.count≠((0:Nat):Int)
 ·exact AT true Z Z (A5 am) (Ae (e:=108) Z Z Z)<|Ac 1 Z<|Ag Z<|cA Z<|A1<|Al<|Af [8] Z (.bool false) Z ⟨D8,a0.drew⟩
 refine AT false Z Z (A6 am) (Ae (e:=108) Z Z Z)<|Ac 1 Z<|Ah Z<|A2<|A0<|bZ [0,0,0,2] Z<|Ad 1 Z<|AN (hex.isPtr) Z Aa<|AJ (p:=ve) 0 Bf Z (a1 _<|Au.of_ext [] a0.drew) Aa<|Ai (p:=Ap ve 0) (.inr Z) (zI ex.kind) AD Z ((a1 _<|Au.of_ext [] a0.drew).ld (i:=0) BF) Aa<|Aj<|A3<|bZ [0,0] Z ?_
 by_cases an:ex.kind=((1:Nat):Int)
 ·refine Am true Z Z (A5 an) Aa<|Ac 1 Z<|Ag Z<|bZ [0,0,0,2,0,0] Z<|Ad 1 Z<|AN (hex.isPtr) Z Aa<|AJ (p:=ve) 1 BE Z (a1 _<|Au.of_ext [] a0.drew) Aa<|Ai (p:=Ap ve 1) (.inr Z) (zI ex.num) AD Z ((a1 _<|Au.of_ext [] a0.drew).ld (i:=1) BF) Aa<|Az 220 [] [] [zI ex.num] Z Z VB Aa (.bool<|Ia ex.num) (fun wq=>Gq wq _ a5.rng.num)<|Ac 1 Z<|A1<|AC<|Al ?_
  exact Af [8] Z (.bool<|Ia ex.num) Z ⟨D8,a0.drew⟩
 refine Am false Z Z (A6 an) Aa<|Ac 1 Z<|Ah Z<|bZ [0,0] Z ?_
 by_cases ao:ex.kind=((2:Nat):Int)
 ·refine Am true Z Z (A5 ao) Aa<|Ac 1 Z<|Ag Z<|bZ [0,0,0,2,0,0,0,0] Z<|Ad 1 Z<|AN (hex.isPtr) Z Aa<|AJ (p:=ve) 1 BE Z (a1 _<|Au.of_ext [] a0.drew) Aa<|Ai (p:=Ap ve 1) (.inr Z) (zI ex.num) AD Z ((a1 _<|Au.of_ext [] a0.drew).ld (i:=1) BF) Aa<|Ad 1 Z<|Bs (vars-1) Z Z (Da oM oM) Aa<|Az 74 [] [] [zI ex.num,zI ((0:Nat):Int),zI (vars-1)] Z Z IA Aa (.bool (decide (((0:Nat):Int)≤ex.num) && decide (ex.num≤(vars-1)))) (fun wq=>Bw wq _ _ _ a5.rng.num oM oM)<|Ac 1 Z<|A1<|AC<|Al ?_
  exact Af [8] Z (.bool (decide (((0:Nat):Int)≤ex.num) && decide (ex.num≤(vars-1)))) Z ⟨D8,a0.drew⟩
 refine Am false Z Z (A6 ao) Aa<|Ac 1 Z<|Ah Z<|A2<|bZ [0,0,0,2,0,0] Z<|Ad 1 Z<|AN (hex.isPtr) Z Aa<|AJ (p:=ve) 1 BE Z (a1 _<|Au.of_ext [] a0.drew) Aa<|Ai (p:=Ap ve 1) (.inr Z) (zI ex.num) AD Z ((a1 _<|Au.of_ext [] a0.drew).ld (i:=1) BF) Aa<|Am (decide (ex.num=((0:Nat):Int))) Z Z Z Aa<|Ac 1 Z<|A1 ?_
 exact Af [8] Z (.bool<|decide (ex.num=((0:Nat):Int))) Z ⟨D8,a0.drew⟩
theorem Lv {p:Prop}(h:p:=by first|exact AI (Ru (CX (by assumption)))|exact AI (MG (Do (by assumption)) fun j hj=>hall j oM)|exact AI (Rv (k:=k) oM (by first|(rw[if_pos oM])|(rw[if_neg oM])) (CX (by assumption)))):p:=h
theorem P5 {p:Prop}(h:p:=by intro j hj;by_cases e9:j=k;(rw[e9];first|(rw[if_pos oM];exact Do (by assumption))|(rw[if_neg oM];exact Do (by assumption)));exact hall j oM):p:=h
theorem Lw (w:World)(dp:Nat)(vp:Value)(p:List Fn)(dex:Nat)(ve:Value)(ex:Ex)(vars:Int)(funcs:Int)(hp:RN [] (rP (Ki dp)) w.heap vp p)(hex:RN [] (rP (LK dex)) w.heap ve ex)(_hvars:Bx vars)(_hfuncs:Bx funcs)(hs:0≤vars∧vars+(ex.deep:Int)≤2000000000)(hf:0≤funcs∧funcs≤(p.length:Int)) :
  Calls Tryz.prog 272 #[vp,ve,zI vars,zI funcs] w (fun e w'=>e=.returned (.bool (wf p funcs ex vars))∧AF w w'):=by
 induction dex using Nat.strongRecOn generalizing w dp vp p ve ex vars funcs
 rename_i dex ih
 refine Aq [vp,ve,zI vars,zI funcs] 49 Tryz.func272 Z Z sM ?_
 have aa:AF w w:=AF.refl w
 have hdk:=DI ex
 refine cA Z<|A0<|bZ [0,0,0,0,3,0] Z<|Ad 4 Z<|As 287 [] [] [vp,ve,zI vars,zI funcs] Z Z Zn Aa (Lu _ dp vp (p) dex ve (ex) _ _ (hp.ext (B5<|AU dp) aa) (hex.ext (B5<|Aw dex) aa) _hvars _hfuncs oM oM) ?_
 rintro e1 w1 ⟨rfl,ab⟩
 refine⟨_,rfl,ab,?_⟩
 have ac:=ab.size
 have ad:=aa.trans ab
 refine Bn (!(GF p funcs vars ex)) Z Z Aa<|Aj ?_
 cases ag:(!(GF p funcs vars ex))
 ·refine Ah (by first|rfl|exact zW ag)<|A2<|A0<|cA Z<|A3 ?_
  refine B1 (S:=Nat) (fun k=>([(9,zI (k:Int)),(0,vp),(1,ve),(2,zI vars),(3,zI funcs)])) (fun k W=>AF w W∧k≤ex.kids.length∧(∀j,j<k→wf p funcs (ex.kids.getD j Ex.zero) (if ex.kind=9∧j=1 then vars+1 else vars)=true)) (fun k=>ex.kids.length-k) 0 ⟨rfl,rfl,rfl,rfl,rfl,trivial⟩ ⟨ad,sD,(by intro j hj;omega)⟩ ?_
  clear aa ab ac ad
  rintro k ρ3 w3 ⟨a0,ah,hall⟩
  have ap:w.heap.size≤w3.heap.size:=a0.size
  refine A0<|bZ [0,0,0,0,2,0,0] Z<|Ad 2 Z<|AN (hex.isPtr) Z Aa ?_
  obtain⟨cs4,aq,a2⟩:=RN.at (Aw _) hex
  obtain⟨dd4,a1,au,rfl,a3⟩:=RX.of aq
  have ae:=a3.rn.lenle
  unfold maxLen at ae
  refine AJ (p:=ve) 4 B9 Z (a2 _<|Au.of_ext [] a0) Aa<|Ai (p:=Ap ve 4) (.inr Z) a1 Bd Z ((a2 _<|Au.of_ext [] a0).ld (i:=4) (by simp[EX,EY])) Aa<|AQ (v:=a1) D1 Z a3.rn.isSl Aa ?_
  by_cases ai:(k:Int)<(ex.kids.length:Int)
  ·refine AG true Z Z (A5 ai) Aa<|Aj<|Ag Z<|A2<|A0<|A3<|bZ [0,0] Z ?_
   have hkd:=Dh (l:=ex.kids) (k:=k) oM
   refine Ac 2 Z<|A0<|bZ [0,0,0,2,0,0,0,0,0] Z<|Ad 1 Z<|AN (hex.isPtr) Z Aa<|AJ (p:=ve) 0 Bf Z (a2 _<|Au.of_ext [] a0) Aa<|Ai (p:=Ap ve 0) (.inr Z) (zI ex.kind) AD Z ((a2 _<|Au.of_ext [] a0).ld (i:=0) (by simp[EX,EY])) Aa ?_
   by_cases aj:ex.kind=((9:Nat):Int)
   ·refine Am true Z Z (A5 aj) Aa<|Ad 2 Z ?_
    by_cases ak:(k:Int)=((1:Nat):Int)
    ·refine Am true Z Z (A5 ak) (Ae (e:=32) Z Z Z)<|Ac 1 Z<|Ag Z<|Ab _ [0,0,0] Z<|Ad 1 Z<|AP (vars+1) Z Z (Da oM oM) Aa<|Ac 1 Z<|bZ [0,0,0,0,2,0,0,0,0,3,0] Z<|Ad 2 Z<|AN (hex.isPtr) Z Aa<|AJ (p:=ve) 4 B9 Z (a2 _<|Au.of_ext [] a0) Aa<|Ai (p:=Ap ve 4) (.inr Z) a1 Bd Z ((a2 _<|Au.of_ext [] a0).ld (i:=4) (by simp[EX,EY])) Aa<|Ad 1 Z ?_
     refine AB (v:=a1) k D1 Bk Z Z a3.rn.isSl Z sD Aa<|Ad 2 Z ?_
     refine As 272 [] [] [vp,Ay a1 k 5,zI (vars+1),zI funcs] Z Z Qq Aa (ih dd4 oM _ dp vp (p) (Ay a1 k 5) (ex.kids.getD k Ex.zero) _ _ (hp.ext (B5<|AU dp) a0) (RN.ptr (Aw dd4) (by decide) Ex.zero (a3.rn.ext (An<|Aw dd4) a0) sD) oM _hfuncs oM oM) ?_
     rintro e8 w8 ⟨rfl,af⟩
     refine⟨_,rfl,af,?_⟩
     have ar:=af.size
     have al:=a0.trans af
     refine Bn (!(wf p funcs (ex.kids.getD k Ex.zero) (vars+1))) Z Z Aa<|Aj ?_
     cases am:(!(wf p funcs (ex.kids.getD k Ex.zero) (vars+1)))
     ·refine Ah (by first|rfl|exact zW am)<|A2<|Ab _ [0,0,0] Z<|Ad 1 Z<|AP ((k+1:Nat):Int) Z Z (Bl oM sD) Aa<|Ac 1 Z ?_
      exact⟨k+1,_,rfl,zR,⟨al,sD,P5⟩,zD⟩
     exact Ag (by first|rfl|exact zW am)<|cA Z<|A1<|AC<|Al<|Al<|AC<|Al<|Af [8] Z (.bool false) Z ⟨Lv,al⟩
    refine Am false Z Z (A6 ak) (Ae (e:=32) Z Z Z)<|Ac 1 Z<|Ah Z<|A2<|bZ [0,0,0,0,2,0,0,0,0,3,0] Z<|Ad 2 Z<|AN (hex.isPtr) Z Aa<|AJ (p:=ve) 4 B9 Z (a2 _<|Au.of_ext [] a0) Aa<|Ai (p:=Ap ve 4) (.inr Z) a1 Bd Z ((a2 _<|Au.of_ext [] a0).ld (i:=4) (by simp[EX,EY])) Aa<|Ad 1 Z ?_
    refine AB (v:=a1) k D1 Bk Z Z a3.rn.isSl Z sD Aa<|Ad 2 Z ?_
    refine As 272 [] [] [vp,Ay a1 k 5,zI vars,zI funcs] Z Z Qq Aa (ih dd4 oM _ dp vp (p) (Ay a1 k 5) (ex.kids.getD k Ex.zero) _ _ (hp.ext (B5<|AU dp) a0) (RN.ptr (Aw dd4) (by decide) Ex.zero (a3.rn.ext (An<|Aw dd4) a0) sD) _hvars _hfuncs oM oM) ?_
    rintro av aw ⟨rfl,a4⟩
    refine⟨_,rfl,a4,?_⟩
    have an:=a4.size
    have a6:=a0.trans a4
    refine Bn (!(wf p funcs (ex.kids.getD k Ex.zero) vars)) Z Z Aa<|Aj ?_
    cases a7:(!(wf p funcs (ex.kids.getD k Ex.zero) vars))
    ·refine Ah (by first|rfl|exact zW a7)<|A2<|Ab _ [0,0,0] Z<|Ad 1 Z<|AP ((k+1:Nat):Int) Z Z (Bl oM sD) Aa<|Ac 1 Z ?_
     exact⟨k+1,_,rfl,zR,⟨a6,sD,P5⟩,zD⟩
    exact Ag (by first|rfl|exact zW a7)<|cA Z<|A1<|AC<|Al<|Al<|AC<|Al<|Af [8] Z (.bool false) Z ⟨Lv,a6⟩
   refine Am false Z Z (A6 aj) Aa<|Ac 4 Z<|Ah Z<|A2<|bZ [0,0,0,0,2,0,0,0,0,3,0] Z<|Ad 2 Z<|AN (hex.isPtr) Z Aa<|AJ (p:=ve) 4 B9 Z (a2 _<|Au.of_ext [] a0) Aa<|Ai (p:=Ap ve 4) (.inr Z) a1 Bd Z ((a2 _<|Au.of_ext [] a0).ld (i:=4) (by simp[EX,EY])) Aa<|Ad 1 Z ?_
   refine AB (v:=a1) k D1 Bk Z Z a3.rn.isSl Z sD Aa<|Ad 2 Z ?_
   refine As 272 [] [] [vp,Ay a1 k 5,zI vars,zI funcs] Z Z Qq Aa (ih dd4 oM _ dp vp (p) (Ay a1 k 5) (ex.kids.getD k Ex.zero) _ _ (hp.ext (B5<|AU dp) a0) (RN.ptr (Aw dd4) (by decide) Ex.zero (a3.rn.ext (An<|Aw dd4) a0) sD) _hvars _hfuncs oM oM) ?_
   rintro ax ay ⟨rfl,a5⟩
   refine⟨_,rfl,a5,?_⟩
   have ao:=a5.size
   have a8:=a0.trans a5
   refine Bn (!(wf p funcs (ex.kids.getD k Ex.zero) vars)) Z Z Aa<|Aj ?_
   cases a9:(!(wf p funcs (ex.kids.getD k Ex.zero) vars))
   ·refine Ah (by first|rfl|exact zW a9)<|A2<|Ab _ [0,0,0] Z<|Ad 1 Z<|AP ((k+1:Nat):Int) Z Z (Bl oM sD) Aa<|Ac 1 Z ?_
    exact⟨k+1,_,rfl,zR,⟨a8,sD,P5⟩,zD⟩
   exact Ag (by first|rfl|exact zW a9)<|cA Z<|A1<|AC<|Al<|Al<|AC<|Al<|Af [8] Z (.bool false) Z ⟨Lv,a8⟩
  exact AG false Z Z (A6 ai) Aa<|Aj<|Ah Z<|A4<|Ax<|Ax<|At<|cA Z<|A1<|Af [8] Z (.bool true) Z ⟨Lv,a0⟩
 exact Ag (by first|rfl|exact zW ag)<|cA Z<|A1<|Al<|Af [8] Z (.bool false) Z ⟨Lv,ad⟩
theorem Lx (w:World)(vars:Int)(_hvars:Bx vars)  :
  Calls Tryz.prog 270 #[zI vars] w (fun e w'=>e=.returned (.bool (E7 vars 0 412))∧w'=w):=by
 refine Aq [zI vars] 5 Tryz.func270 Z Z sM ?_
 have a0:w=w:=rfl
 exact cA Z<|bZ [0,0,0] Z<|Ad 1 Z<|Az 74 [] [] [zI vars,zI ((0:Nat):Int),zI ((412:Nat):Int)] Z Z IA Aa (.bool (decide (((0:Nat):Int)≤vars) && decide (vars≤((412:Nat):Int)))) (fun wq=>Bw wq _ _ _ _hvars oM oM)<|Ac 1 Z<|A1<|Af [2] Z (.bool (decide (((0:Nat):Int)≤vars) && decide (vars≤((412:Nat):Int)))) Z ⟨rfl,a0⟩
theorem Ly {p:Prop}(h:p:=by first|exact AI (VN (by assumption))|exact AI (Qw ⟨Br.1 (by assumption),HB (by assumption),zO,zO⟩)|exact AI ((by assumption:wf p funcs ex vars=true).symm.trans (Qw ⟨Br.1 (by assumption),HB (by assumption),zO,zO⟩))|exact AI (My fun hh=>Tj (by assumption) hh.1)|exact AI (My fun hh=>Qy (by assumption) hh.2.1)|exact AI (My oM)):p:=h
theorem Lz (w:World)(dp:Nat)(vp:Value)(p:List Fn)(dex:Nat)(ve:Value)(ex:Ex)(vars:Int)(funcs:Int)(hp:RN [] (rP (Ki dp)) w.heap vp p)(hex:RN [] (rP (LK dex)) w.heap ve ex)(_hvars:Bx vars)(_hfuncs:Bx funcs)(hs:ex.size≤1000000000) :
  Calls Tryz.prog 240 #[vp,ve,zI vars,zI funcs] w (fun e w'=>e=.returned (.bool (LO p ex vars funcs))∧AF w w'):=by
 refine Aq [vp,ve,zI vars,zI funcs] 37 Tryz.func240 Z Z sM ?_
 have a1:AF w w:=AF.refl w
 have hlp:=Se (e:=ex) (x:=((400:Nat):Int)) oM
 refine cA Z<|bZ [0,0,0,0,0,0,0,2,0,0,0,0,0,3,0,0,0,0,3,0,0,0,0,0,0,0,3,0,0] Z<|Ad 1 Z<|Az 270 [] [] [zI vars] Z Z Zk Aa (.bool<|E7 vars 0 412) (fun wq=>Lx wq _ _hvars)<|Ad 1 Z ?_
 cases ah:(E7 vars 0 412)
 ·exact Ac 26 Z<|A1<|Af [8] Z (.bool false) Z ⟨Ly,a1⟩
 refine Ad 2 Z<|AN (hp.isPtr) Z (Ae (e:=11) Z Z Z) ?_
 obtain⟨cs3,ae,a8⟩:=RN.at (AU _) hp
 obtain⟨a9,rfl,aa⟩:=RPr.of ae
 have a3:=aa.lenle
 unfold maxLen at a3
 refine AJ (p:=vp) 0 Bv Z (a8 _<|Au.of_ext [] a1) (Ae (e:=11) Z Z Z)<|Ai (p:=Ap vp 0) (.inr Z) a9 BY Z ((a8 _<|Au.of_ext [] a1).ld (i:=0) (by simp[EX,EY])) (Ae (e:=11) Z Z Z)<|AQ (v:=a9) Gb Z aa.isSl (Ae (e:=11) Z Z Z)<|Az 74 [] [] [zI funcs,zI ((0:Nat):Int),zI (p.length:Int)] Z Z IA (Ae (e:=11) Z Z Z) (.bool (decide (((0:Nat):Int)≤funcs) && decide (funcs≤(p.length:Int)))) (fun wq=>Bw wq _ _ _ _hfuncs oM oM)<|Ad 2 Z ?_
 cases ai:(decide (((0:Nat):Int)≤funcs) && decide (funcs≤(p.length:Int)))
 ·exact Ac 17 Z<|A1<|Af [8] Z (.bool false) Z ⟨Ly,a1⟩
 refine Ad 1 Z<|As 239 [] [] [ve,zI ((400:Nat):Int)] Z Z T6 (Ae (e:=20) Z Z Z) (HD _ dex ve (ex) _ (hex.ext (B5<|Aw dex) a1) oM oM oM) ?_
 rintro e6 w6 ⟨rfl,a4⟩
 refine⟨_,rfl,a4,?_⟩
 have af:=a4.size
 have a5:=a1.trans a4
 by_cases ab:((0:Nat):Int)≤I0 ex ((400:Nat):Int)
 ·refine Dv true Z Z (A5 ab) (Ae (e:=20) Z Z Z)<|Ad 3 Z<|As 271 [] [] [ve] Z Z VH (Ae (e:=25) Z Z Z) (Ke _ dex ve (ex) (hex.ext (B5<|Aw dex) a5) oM) ?_
  rintro e8 w8 ⟨rfl,a6⟩
  refine⟨_,rfl,a6,?_⟩
  have ag:=a6.size
  have a2:=a5.trans a6
  by_cases ac:(ex.deep:Int)≤((60:Nat):Int)
  ·refine DQ true Z Z (A5 ac) (Ae (e:=25) Z Z Z)<|Ad 6 Z<|As 272 [] [] [vp,ve,zI vars,zI funcs] Z Z Qq (Ae (e:=30) Z Z Z) (Lw _ dp vp (p) dex ve (ex) _ _ (hp.ext (B5<|AU dp) a2) (hex.ext (B5<|Aw dex) a2) _hvars _hfuncs (by have h1:=Br.1 (by assumption:E7 vars 0 412=true);omega) (by have h2:=HB (by assumption:(decide (((0:Nat):Int)≤funcs) && decide (funcs≤(p.length:Int)))=true);omega)) ?_
   rintro aj ak ⟨rfl,a0⟩
   refine⟨_,rfl,a0,?_⟩
   have ad:=a0.size
   have a7:=a2.trans a0
   exact Ac 2 Z<|A1<|Af [8] Z (.bool<|wf p funcs ex vars) Z ⟨Ly,a7⟩
  exact DQ false Z Z (A6 ac) (Ae (e:=25) Z Z Z)<|Ac 9 Z<|A1<|Af [8] Z (.bool false) Z ⟨Ly,a2⟩
 exact Dv false Z Z (A6 ab) (Ae (e:=20) Z Z Z)<|Ac 14 Z<|A1<|Af [8] Z (.bool false) Z ⟨Ly,a5⟩
theorem XV {s:ByteArray}(h:¬(1≤s.size∧s.size≤12)):false=Kr s:=by
  cases hh:Kr s with
  |false=>rfl
  |true=>unfold Kr at hh;simp only[z7,decide_eq_true_eq]at hh;exact absurd hh.1 h
theorem HE {p:Prop}(h:p:=by first|exact AI (XV (fun hh=>Qy (CX (by assumption)) ⟨zO,zO⟩))|exact AI (OZ (k:=0) oM oM)|exact AI (OZ (k:=k) oM oM)|exact AI (Ti hq oM (by rw[A5 (show 1≤s.size by omega),A5 (show s.size≤12 by omega)];rfl))):p:=h
theorem P6 {p:Prop}(h:p:=by exact DK hq (Qv (by(by_cases h0:k=0;(rw[h0];left;omega);omega)))):p:=h
theorem LX (w:World)(s:ByteArray)  (hl:s.size≤1000000000) :
  Calls Tryz.prog 238 #[.string s] w (fun e w'=>e=.returned (.bool (Kr s))∧w'=w):=by
 refine Aq [.string s] 46 Tryz.func238 Z Z sM ?_
 have a1:w=w:=rfl
 refine cA Z<|A0<|bZ [0,0,0,0,0,0,0,0,0,0,0,0,0,0] Z<|Ad 1 Z<|KI (s:=s) u9 Z Aa<|Az 74 [] [] [zI (s.size:Int),zI ((1:Nat):Int),zI ((12:Nat):Int)] Z Z IA Aa (.bool (decide (((1:Nat):Int)≤(s.size:Int)) && decide ((s.size:Int)≤((12:Nat):Int)))) (fun wq=>Bw wq _ _ _ oM oM oM)<|Bn (!(decide (((1:Nat):Int)≤(s.size:Int)) && decide ((s.size:Int)≤((12:Nat):Int)))) Z Z Aa<|Ad 1 Z ?_
 cases ac:(!(decide (((1:Nat):Int)≤(s.size:Int)) && decide ((s.size:Int)≤((12:Nat):Int))))
 ·refine Ad 1 Z ?_
  have hsz:=HB (Do (by assumption):(decide (((1:Nat):Int)≤(s.size:Int)) && decide ((s.size:Int)≤((12:Nat):Int)))=true)
  refine Db (s:=s) 0 u9 Z Z Z sD (Ae (e:=8) Z Z Z) ?_
  by_cases a5:((Js s 0:Nat):Int)<97
  ·exact AG true Z Z (A5 a5) (Ae (e:=8) Z Z Z)<|Ac 6 Z<|Ag Z<|cA Z<|A1<|Al<|Af [2] Z (.bool false) Z ⟨HE,a1⟩
  refine AG false Z Z (A6 a5) (Ae (e:=8) Z Z Z)<|Ad 3 Z<|Db (s:=s) 0 u9 Z Z Z sD (Ae (e:=13) Z Z Z) ?_
  by_cases a6:122<((Js s 0:Nat):Int)
  ·exact BU true Z Z (A5 a6) (Ae (e:=13) Z Z Z)<|Ac 1 Z<|Ag Z<|cA Z<|A1<|Al<|Af [2] Z (.bool false) Z ⟨HE,a1⟩
  refine BU false Z Z (A6 a6) (Ae (e:=13) Z Z Z)<|Ac 1 Z<|Ah Z<|A2<|A0<|cA Z<|A3<|B1 (S:=Nat) (fun k=>([(3,zI (k:Int)),(0,.string s)])) (fun k W=>W=w∧k≤s.size∧(List.range k).all (UU s)=true) (fun k=>s.size-k) 0 ⟨rfl,rfl,trivial⟩ ⟨a1,sD,(by rfl)⟩ ?_
  clear a1
  rintro k ρ5 w5 ⟨a0,a7,hq⟩
  refine A0<|bZ [0,0,0,0] Z<|Ad 2 Z<|KI (s:=s) u9 Z Aa ?_
  by_cases a8:(k:Int)<(s.size:Int)
  ·refine AG true Z Z (A5 a8) Aa<|Aj<|Ag Z<|A2<|A0<|A3<|bZ [0,0,0,0,0,0,0,0,0,0,0,0,0,0,0,0,0,0,0,0,0,0] Z<|Ad 2 Z<|Db (s:=s) k u9 Z Z Z sD Aa ?_
   by_cases a9:((Js s k:Nat):Int)<97
   ·refine AG true Z Z (A5 a9) Aa<|Ad 9 Z<|Db (s:=s) k u9 Z Z Z sD (Ae (e:=34) Z Z Z) ?_
    by_cases aa:((Js s k:Nat):Int)<48
    ·exact AG true Z Z (A5 aa) (Ae (e:=34) Z Z Z)<|Ac 7 Z<|Ag Z<|cA Z<|A1<|AC<|Al<|Al<|AC<|Al<|Af [2] Z (.bool false) Z ⟨HE,a0⟩
    refine AG false Z Z (A6 aa) (Ae (e:=34) Z Z Z)<|Ad 3 Z<|Db (s:=s) k u9 Z Z Z sD (Ae (e:=39) Z Z Z) ?_
    by_cases ab:57<((Js s k:Nat):Int)
    ·exact BU true Z Z (A5 ab) (Ae (e:=39) Z Z Z)<|Ac 2 Z<|Ag Z<|cA Z<|A1<|AC<|Al<|Al<|AC<|Al<|Af [2] Z (.bool false) Z ⟨HE,a0⟩
    refine BU false Z Z (A6 ab) (Ae (e:=39) Z Z Z)<|Ac 2 Z<|Ah Z<|A2<|Ab _ [0,0,0] Z<|Ad 1 Z<|AP ((k+1:Nat):Int) Z Z (Bl oM sD) Aa<|Ac 1 Z ?_
    exact⟨k+1,_,rfl,⟨rfl,rfl,trivial⟩,⟨a0,sD,P6⟩,zD⟩
   refine AG false Z Z (A6 a9) Aa<|Ad 3 Z<|Db (s:=s) k u9 Z Z Z sD (Ae (e:=28) Z Z Z) ?_
   by_cases a2:122<((Js s k:Nat):Int)
   ·refine BU true Z Z (A5 a2) (Ae (e:=28) Z Z Z)<|Ad 4 Z<|Db (s:=s) k u9 Z Z Z sD (Ae (e:=34) Z Z Z) ?_
    by_cases a3:((Js s k:Nat):Int)<48
    ·exact AG true Z Z (A5 a3) (Ae (e:=34) Z Z Z)<|Ac 7 Z<|Ag Z<|cA Z<|A1<|AC<|Al<|Al<|AC<|Al<|Af [2] Z (.bool false) Z ⟨HE,a0⟩
    refine AG false Z Z (A6 a3) (Ae (e:=34) Z Z Z)<|Ad 3 Z<|Db (s:=s) k u9 Z Z Z sD (Ae (e:=39) Z Z Z) ?_
    by_cases a4:57<((Js s k:Nat):Int)
    ·exact BU true Z Z (A5 a4) (Ae (e:=39) Z Z Z)<|Ac 2 Z<|Ag Z<|cA Z<|A1<|AC<|Al<|Al<|AC<|Al<|Af [2] Z (.bool false) Z ⟨HE,a0⟩
    refine BU false Z Z (A6 a4) (Ae (e:=39) Z Z Z)<|Ac 2 Z<|Ah Z<|A2<|Ab _ [0,0,0] Z<|Ad 1 Z<|AP ((k+1:Nat):Int) Z Z (Bl oM sD) Aa<|Ac 1 Z ?_
    exact⟨k+1,_,rfl,⟨rfl,rfl,trivial⟩,⟨a0,sD,P6⟩,zD⟩
   refine BU false Z Z (A6 a2) (Ae (e:=28) Z Z Z)<|Ac 13 Z<|Ah Z<|A2<|Ab _ [0,0,0] Z<|Ad 1 Z<|AP ((k+1:Nat):Int) Z Z (Bl oM sD) Aa<|Ac 1 Z ?_
   exact⟨k+1,_,rfl,⟨rfl,rfl,trivial⟩,⟨a0,sD,P6⟩,zD⟩
  exact AG false Z Z (A6 a8) Aa<|Aj<|Ah Z<|A4<|Ax<|Ax<|At<|cA Z<|A1<|Af [2] Z (.bool true) Z ⟨HE,a0⟩
 exact Ac 9 Z<|Ag Z<|cA Z<|A1<|Al<|Af [2] Z (.bool false) Z ⟨HE,a1⟩
theorem To {α:Type}{l:List α}{f:α→Bool}{k:Nat}(d:α)(hk:k<l.length)(h:(l.take k).any f=false)(h2:f (l.getD k d)=false):(l.take (k+1)).any f=false:=by
  rw[List.take_succ_eq_append_getElem hk,List.any_append,h]
  have:l.getD k d=l[k]:=by simp[hk]
  rw[this]at h2
  simp[h2]
theorem UJ {α:Type}{l:List α}{f:α→Bool}{k n:Nat}(d:α)(hk:k<n)(hn:n≤l.length)(h:f (l.getD k d)=true):(l.take n).any f=true:=by
  rw[List.any_eq_true]
  have hkl:k<l.length:=by omega
  have e:l.getD k d=l[k]:=by simp[hkl]
  refine⟨l[k],?_,by rw[← e];exact h⟩
  rw[List.mem_take_iff_getElem]
  exact⟨k,zO,rfl⟩
theorem UK {p:List Fn}{a j:Nat}{x:Int}(hx:x=D6 ((p.getD a Fn.zero).outs.take j) ((400:Nat):Int))(h:0≤x)(hj:(p.getD a Fn.zero).outs.length≤j):Ex.sizes (p.getD a Fn.zero).outs≤400:=by
  rw[za hj]at hx
  rcases HR (p.getD a Fn.zero).outs ((400:Nat):Int) (Int.natCast_nonneg _)with h2|h2
  · have:=h2.2;omega
  · have:=h2.1;omega
theorem Tq {p:List Fn}{a j:Nat}(h:D6 ((p.getD a Fn.zero).outs.take j) ((400:Nat):Int)<0):K4 p a=false:=ZA (by
  have h1:=Mk h
  rcases HR (p.getD a Fn.zero).outs ((400:Nat):Int) (Int.natCast_nonneg _)with h2|h2
  · have:=h2.1;have:=h2.2;omega
  · have:=h2.2;omega)
theorem IE {p:Prop}(h:p:=by first|exact AI (Zv (CX (by assumption))).symm|exact AI (Zx (CX (by assumption))).symm|exact AI (Zy (CX (by assumption))).symm|exact AI (Zw (UJ (k:=k) Fn.zero oM oM (by assumption))).symm|exact AI (Tq (j:=j+1) (by rw[hnx,← hx];omega)).symm|exact AI (Zz (j:=j) oM (CX (by assumption))).symm|exact AI (VO (Do (by assumption)) hqa (Do (by assumption)) (Do (by assumption)) hqe oM (UK hx oM oM)).symm):p:=h
theorem Fu {p:Prop}(h:p:=by simp[EX,EY]):p:=h
theorem LA (w:World)(dp:Nat)(vp:Value)(p:List Fn)(a:Nat)(hp:RN [] (rP (Ki dp)) w.heap vp p)(ha:a<p.length)(hpl:p.length≤1000000)(hz:PJ p) :
  Calls Tryz.prog 207 #[vp,zI (a:Int)] w (fun e w'=>e=.returned (.bool (K4 p a))∧AF w w'):=by
 refine Aq [vp,zI (a:Int)] 91 Tryz.func207 Z Z sM ?_
 have a4:AF w w:=AF.refl w
 have hza:=hz a ha
 refine cA Z<|bZ [0,0,0,2,0,0,0] Z<|Ad 1 Z<|AN (hp.isPtr) Z Aa ?_
 obtain⟨cs1,ay,al⟩:=RN.at (AU _) hp
 obtain⟨a0,rfl,a5⟩:=RPr.of ay
 have ab:=a5.lenle
 unfold maxLen at ab
 refine AJ (p:=vp) 0 Bv Z (al _<|Au.of_ext [] a4) Aa<|Ai (p:=Ap vp 0) (.inr Z) a0 BY Z ((al _<|Au.of_ext [] a4).ld (i:=0) Fu) Aa<|Ad 1 Z<|AB (v:=a0) a Gb Cj Z Z a5.isSl Z sD Aa<|Ac 1 Z<|A0<|bZ [0,0,0,2,0,0,0,0,0,0,2,0,0,0,0,0,0,0,2,0,0,0,0] Z<|Ad 1 Z ?_
 refine AN (RN.isPtr<|RN.ptr (Av dp) (by decide) Fn.zero a5 sD) Z Aa ?_
 obtain⟨cs2,az,a3⟩:=a5.get (Av dp) Fn.zero (k:=a) sD
 obtain⟨a6,rfl,a9⟩:=RF.of az
 have ac:=a9.rn.lenle
 unfold maxLen at ac
 refine AJ (p:=Ay a0 a 3) 0 JN Z (a3 _<|Au.of_ext [] a4) Aa<|Ai (p:=Ap (Ay a0 a 3) 0) (.inr Z) (.string<|(p.getD a Fn.zero).name) OT Z ((a3 _<|Au.of_ext [] a4).ld (i:=0) Fu) Aa<|Az 238 [] [] [.string<|(p.getD a Fn.zero).name] Z Z Zd Aa (.bool<|Kr<|(p.getD a Fn.zero).name) (fun wq=>LX wq ((p.getD a Fn.zero).name) oM)<|Bn (!(Kr<|(p.getD a Fn.zero).name)) Z Z Aa<|Ad 1 Z ?_
 cases b1:(!(Kr ((p.getD a Fn.zero).name)))
 ·refine Ad 1 Z<|AN (RN.isPtr<|RN.ptr (Av dp) (by decide) Fn.zero a5 sD) Z (Ae (e:=21) Z Z Z)<|AJ (p:=Ay a0 a 3) 1 C2 Z (a3 _<|Au.of_ext [] a4) (Ae (e:=21) Z Z Z)<|Ai (p:=Ap (Ay a0 a 3) 1) (.inr Z) (zI<|(p.getD a Fn.zero).params) AD Z ((a3 _<|Au.of_ext [] a4).ld (i:=1) Fu) (Ae (e:=21) Z Z Z) ?_
  refine Az 74 [] [] [zI<|(p.getD a Fn.zero).params,zI ((0:Nat):Int),zI ((12:Nat):Int)] Z Z IA (Ae (e:=21) Z Z Z) (.bool (decide (((0:Nat):Int)≤((p.getD a Fn.zero).params)) && decide (((p.getD a Fn.zero).params)≤((12:Nat):Int)))) (fun wq=>Bw wq _ _ _ a9.rng oM oM)<|Bn (!(decide (((0:Nat):Int)≤((p.getD a Fn.zero).params)) && decide (((p.getD a Fn.zero).params)≤((12:Nat):Int)))) Z Z (Ae (e:=21) Z Z Z)<|Ad 2 Z ?_
  cases b2:(!(decide (((0:Nat):Int)≤((p.getD a Fn.zero).params)) && decide (((p.getD a Fn.zero).params)≤((12:Nat):Int))))
  ·refine Ad 1 Z<|AN (RN.isPtr<|RN.ptr (Av dp) (by decide) Fn.zero a5 sD) Z (Ae (e:=29) Z Z Z)<|AJ (p:=Ay a0 a 3) 2 BL Z (a3 _<|Au.of_ext [] a4) (Ae (e:=29) Z Z Z)<|Ai (p:=Ap (Ay a0 a 3) 2) (.inr Z) a6 Bd Z ((a3 _<|Au.of_ext [] a4).ld (i:=2) Fu) (Ae (e:=29) Z Z Z)<|AQ (v:=a6) D1 Z a9.rn.isSl (Ae (e:=29) Z Z Z) ?_
   refine Az 74 [] [] [zI ((((p.getD a Fn.zero).outs).length:Nat):Int),zI ((1:Nat):Int),zI ((12:Nat):Int)] Z Z IA (Ae (e:=29) Z Z Z) (.bool (decide (((1:Nat):Int)≤((((p.getD a Fn.zero).outs).length:Nat):Int)) && decide (((((p.getD a Fn.zero).outs).length:Nat):Int)≤((12:Nat):Int)))) (fun wq=>Bw wq _ _ _ oM oM oM)<|Bn (!(decide (((1:Nat):Int)≤((((p.getD a Fn.zero).outs).length:Nat):Int)) && decide (((((p.getD a Fn.zero).outs).length:Nat):Int)≤((12:Nat):Int)))) Z Z (Ae (e:=29) Z Z Z)<|Ac 1 Z ?_
   cases ar:(!(decide (((1:Nat):Int)≤((((p.getD a Fn.zero).outs).length:Nat):Int)) && decide (((((p.getD a Fn.zero).outs).length:Nat):Int)≤((12:Nat):Int))))
   ·refine Ah (by first|rfl|exact zW ar)<|A2<|A0<|cA Z<|A3 ?_
    refine B1 (S:=Nat) (fun k=>([(6,zI (k:Int)),(0,vp),(1,zI (a:Int)),(5,Ay a0 a 3)])) (fun k W=>AF w W∧k≤a∧(p.take k).any (fun g=>HZ g.name (p.getD a Fn.zero).name)=false) (fun k=>a-k) 0 ⟨rfl,rfl,rfl,rfl,trivial⟩ ⟨a4,sD,(by rfl)⟩ ?_
    clear a4 ab ac
    rintro k ρ9 w9 ⟨a7,au,hq⟩
    have am:w.heap.size≤w9.heap.size:=a7.size
    refine A0<|bZ [0,0,0] Z<|Ad 2 Z ?_
    by_cases ad:(k:Int)<(a:Int)
    ·refine AG true Z Z (A5 ad) Aa<|Aj<|Ag Z<|A2<|A0<|A3<|A0<|AO _ [0,0,0,1,0,0,0,1,0,0,0,1,0] mixed (by kernel_rfl)<|Ad 1 Z<|AN (hp.isPtr) Z Aa<|AJ (p:=vp) 0 Bv Z (al _<|Au.of_ext [] a7.drew) Aa<|Ai (p:=Ap vp 0) (.inl Z) a0 BY Z ((al _<|Au.of_ext [] a7.drew).ld (i:=0) Fu) Aa<|Ad 1 Z ?_
     refine AB (v:=a0) k Gb Cj Z Z a5.isSl Z sD Aa ?_
     obtain⟨cs11,an,ae⟩:=a5.get (Av dp) Fn.zero (k:=k) sD
     obtain⟨b0,rfl,ao⟩:=RF.of an
     have af:=ao.rn.lenle
     unfold maxLen at af
     refine AJ (p:=Ay a0 k 3) 0 JN Z (ae _<|Au.of_ext [] a7.drew) Aa<|Ai (p:=Ap (Ay a0 k 3) 0) (.inl Z) (.string<|(p.getD k Fn.zero).name) OT Z ((ae _<|Au.of_ext [] a7.drew).ld (i:=0) Fu) Aa<|Ad 1 Z<|AN (RN.isPtr<|RN.ptr (Av dp) (by decide) Fn.zero a5 sD) Z Aa<|AJ (p:=Ay a0 a 3) 0 JN Z (a3 _<|Au.of_ext [] a7.drew) Aa ?_
     refine Ai (p:=Ap (Ay a0 a 3) 0) (.inl Z) (.string<|(p.getD a Fn.zero).name) OT Z ((a3 _<|Au.of_ext [] a7.drew).ld (i:=0) Fu) Aa ?_
     cases ag:HZ ((p.getD k Fn.zero).name) ((p.getD a Fn.zero).name)
     ·refine OA false u9 Z Z ag Aa<|Aj<|Ah Z<|A2<|Ab _ [0,0,0] Z<|Ad 1 Z<|AP ((k+1:Nat):Int) Z Z (Bl oM sD) Aa<|Ac 1 Z ?_
      exact⟨k+1,_,rfl,zR,⟨a7.drew,sD,(by exact To Fn.zero oM hq (by assumption))⟩,zD⟩
     exact OA true u9 Z Z ag Aa<|Aj<|Ag Z<|cA Z<|A1<|AC<|Al<|Al<|AC<|Al<|Af [4] Z (.bool false) Z ⟨IE,a7.drew⟩
    refine AG false Z Z (A6 ad) Aa<|Aj<|Ah Z<|A4<|Ax<|Ax<|At<|bZ [0] Z ?_
    have hka:k=a:=by omega
    rw[hka]at hq
    have hqa:=hq
    refine Ac 1 Z<|A0<|cA Z<|A3 ?_
    refine B1 (S:=Nat×Int) (fun⟨j,x⟩=>([(7,zI x),(8,zI (j:Int)),(0,vp),(1,zI (a:Int)),(5,Ay a0 a 3)])) (fun⟨j,x⟩ W=>AF w W∧j≤(p.getD a Fn.zero).outs.length∧x=D6 ((p.getD a Fn.zero).outs.take j) ((400:Nat):Int)∧(0≤x∧x≤400)∧(List.range j).all (fun j=>LO p ((p.getD a Fn.zero).outs.getD j Ex.zero) (p.getD a Fn.zero).params (a:Int))=true) (fun⟨j,x⟩=>(p.getD a Fn.zero).outs.length-j) (0,((400:Nat):Int)) ⟨rfl,rfl,rfl,rfl,rfl,trivial⟩ ⟨a7,sD,(by rw[List.take_zero,D6]),oM,(by rfl)⟩ ?_
    clear a7 am
    rintro⟨j,x⟩ ρ13 b3 ⟨a1,ap,hx,aq,hqe⟩
    have av:w.heap.size≤b3.heap.size:=a1.size
    refine A0<|bZ [0,0,0,0,2,0,0] Z<|Ad 2 Z<|AN (RN.isPtr<|RN.ptr (Av dp) (by decide) Fn.zero a5 sD) Z Aa<|AJ (p:=Ay a0 a 3) 2 BL Z (a3 _<|Au.of_ext [] a1) Aa<|Ai (p:=Ap (Ay a0 a 3) 2) (.inr Z) a6 Bd Z ((a3 _<|Au.of_ext [] a1).ld (i:=2) Fu) Aa<|AQ (v:=a6) D1 Z a9.rn.isSl Aa ?_
    by_cases ah:(j:Int)<((((p.getD a Fn.zero).outs).length:Nat):Int)
    ·refine AG true Z Z (A5 ah) Aa<|Aj<|Ag Z<|A2<|A0<|A3<|bZ [0,0,0,2,0,0,0,3,0] Z ?_
     have hst:=DE (l:=(p.getD a Fn.zero).outs) (k:=j) oM
     have hle:=Dg (p.getD a Fn.zero).outs (j+1)
     have hnx:=Mj (l:=(p.getD a Fn.zero).outs) (k:=j) (x:=((400:Nat):Int)) oM oM
     have hnr:=NS (e:=(p.getD a Fn.zero).outs.getD j Ex.zero) (x:=x) oM
     refine Ad 1 Z<|AN (RN.isPtr<|RN.ptr (Av dp) (by decide) Fn.zero a5 sD) Z Aa<|AJ (p:=Ay a0 a 3) 2 BL Z (a3 _<|Au.of_ext [] a1) Aa<|Ai (p:=Ap (Ay a0 a 3) 2) (.inr Z) a6 Bd Z ((a3 _<|Au.of_ext [] a1).ld (i:=2) Fu) Aa<|Ad 1 Z ?_
     refine AB (v:=a6) j D1 Bk Z Z a9.rn.isSl Z sD Aa<|Ad 1 Z ?_
     refine As 239 [] [] [Ay a6 j 5,zI x] Z Z T6 Aa (HD _ dp (Ay a6 j 5) (((p.getD a Fn.zero).outs).getD j Ex.zero) _ (RN.ptr (Aw dp) (by decide) Ex.zero (a9.rn.ext (An<|Aw dp) a1) sD) oM oM oM) ?_
     rintro b4 b5 ⟨rfl,aa⟩
     refine⟨_,rfl,aa,?_⟩
     have aw:=aa.size
     have a2:=a1.trans aa
     refine Ac 1 Z<|A0<|AO _ [0,0,0,0,0,0,0,1,0,0,0,0,0,1,0,3,0,0] mixed (by kernel_rfl)<|Ad 1 Z ?_
     by_cases ai:I0 (((p.getD a Fn.zero).outs).getD j Ex.zero) x<((0:Nat):Int)
     ·exact AG true Z Z (A5 ai) Aa<|Ac 16 Z<|Ag Z<|cA Z<|A1<|AC<|Al<|Al<|AC<|Al<|Af [4] Z (.bool false) Z ⟨IE,a2.drew⟩
     refine AG false Z Z (A6 ai) Aa<|Ad 3 Z<|AN (RN.isPtr<|RN.ptr (Av dp) (by decide) Fn.zero a5 sD) Z (Ae (e:=75) Z Z Z)<|AJ (p:=Ay a0 a 3) 2 BL Z (a3 _<|Au.of_ext [] a2.drew) (Ae (e:=75) Z Z Z)<|Ai (p:=Ap (Ay a0 a 3) 2) (.inl Z) a6 Bd Z ((a3 _<|Au.of_ext [] a2.drew).ld (i:=2) Fu) (Ae (e:=75) Z Z Z)<|Ad 1 Z ?_
     refine AB (v:=a6) j D1 Bk Z Z a9.rn.isSl Z sD (Ae (e:=75) Z Z Z)<|Ad 1 Z ?_
     refine AN (RN.isPtr<|RN.ptr (Av dp) (by decide) Fn.zero a5 sD) Z (Ae (e:=75) Z Z Z)<|AJ (p:=Ay a0 a 3) 1 C2 Z (a3 _<|Au.of_ext [] a2.drew) (Ae (e:=75) Z Z Z)<|Ai (p:=Ap (Ay a0 a 3) 1) (.inl Z) (zI<|(p.getD a Fn.zero).params) AD Z ((a3 _<|Au.of_ext [] a2.drew).ld (i:=1) Fu) (Ae (e:=75) Z Z Z)<|Ad 1 Z ?_
     refine As 240 [] [] [vp,Ay a6 j 5,zI<|(p.getD a Fn.zero).params,zI (a:Int)] Z Z Ze (Ae (e:=75) Z Z Z) (Lz _ dp vp (p) dp (Ay a6 j 5) (((p.getD a Fn.zero).outs).getD j Ex.zero) _ _ (hp.ext (B5<|AU dp) a2.drew) (RN.ptr (Aw dp) (by decide) Ex.zero (a9.rn.ext (An<|Aw dp) a2.drew) sD) a9.rng oM oM) ?_
     rintro b6 b7 ⟨rfl,a8⟩
     refine⟨_,rfl,a8,?_⟩
     replace a8:=a8.of_drew
     have ax:=a8.size
     have aj:=a2.trans a8
     refine Bn (!(LO p (((p.getD a Fn.zero).outs).getD j Ex.zero) ((p.getD a Fn.zero).params) (a:Int))) Z Z (Ae (e:=75) Z Z Z)<|Ac 1 Z ?_
     cases ak:(!(LO p (((p.getD a Fn.zero).outs).getD j Ex.zero) ((p.getD a Fn.zero).params) (a:Int)))
     ·refine Ah (by first|rfl|exact zW ak)<|A2<|Ab _ [0,0,0] Z<|Ad 1 Z<|AP ((j+1:Nat):Int) Z Z (Bl oM sD) Aa<|Ac 1 Z ?_
      exact⟨(j+1,I0 (((p.getD a Fn.zero).outs).getD j Ex.zero) x),_,rfl,zR,⟨aj,sD,(by rw[hnx,← hx]),oM,(by exact DK hqe (Do (by assumption)))⟩,zD⟩
     exact Ag (by first|rfl|exact zW ak)<|cA Z<|A1<|AC<|Al<|Al<|AC<|Al<|Af [4] Z (.bool false) Z ⟨IE,aj⟩
    exact AG false Z Z (A6 ah) Aa<|Aj<|Ah Z<|A4<|Ax<|Ax<|At<|cA Z<|A1<|Af [4] Z (.bool true) Z ⟨IE,a1⟩
   exact Ag (by first|rfl|exact zW ar)<|cA Z<|A1<|Al<|Af [4] Z (.bool false) Z ⟨IE,a4⟩
  exact Ac 8 Z<|Ag Z<|cA Z<|A1<|Al<|Af [4] Z (.bool false) Z ⟨IE,a4⟩
 exact Ac 16 Z<|Ag Z<|cA Z<|A1<|Al<|Af [4] Z (.bool false) Z ⟨IE,a4⟩
theorem P7 {p:Prop}(h:p:=by first|exact AI (Tk oM)|exact AI (Tl oM oM oM hq)|exact AI (ID (k:=k) oM (CX (by assumption)))):p:=h
theorem Nc (w:World)(dp:Nat)(vp:Value)(p:List Fn)(hp:RN [] (rP (Ki dp)) w.heap vp p)(hz:PJ p) :
  Calls Tryz.prog 138 #[vp] w (fun e w'=>e=.returned (.bool (G7 p))∧AF w w'):=by
 refine Aq [vp] 23 Tryz.func138 Z Z sM ?_
 have a1:AF w w:=AF.refl w
 refine cA Z<|A0<|bZ [0,0,0,2,0,0] Z<|Ad 1 Z<|AN (hp.isPtr) Z Aa ?_
 obtain⟨cs1,ac,a3⟩:=RN.at (AU _) hp
 obtain⟨a4,rfl,a5⟩:=RPr.of ac
 have a2:=a5.lenle
 unfold maxLen at a2
 refine AJ (p:=vp) 0 Bv Z (a3 _<|Au.of_ext [] a1) Aa<|Ai (p:=Ap vp 0) (.inr Z) a4 BY Z ((a3 _<|Au.of_ext [] a1).ld (i:=0) (by simp[EX,EY])) Aa<|AQ (v:=a4) Gb Z a5.isSl Aa ?_
 by_cases a7:((16:Nat):Int)<(p.length:Int)
 ·exact BU true Z Z (A5 a7) Aa<|Aj<|Ag Z<|cA Z<|A1<|Al<|Af [2] Z (.bool false) Z ⟨P7,a1⟩
 refine BU false Z Z (A6 a7) Aa<|Aj<|Ah Z<|A2<|A0<|cA Z<|A3<|B1 (S:=Nat) (fun k=>([(3,zI (k:Int)),(0,vp)])) (fun k W=>AF w W∧k≤p.length∧(List.range k).all (K4 p)=true) (fun k=>p.length-k) 0 ⟨rfl,rfl,trivial⟩ ⟨a1,sD,(by rfl)⟩ ?_
 clear a1 a2
 rintro k ρ3 w3 ⟨a0,a8,hq⟩
 have ad:w.heap.size≤w3.heap.size:=a0.size
 refine A0<|bZ [0,0,0,0,2,0,0] Z<|Ad 2 Z<|AN (hp.isPtr) Z Aa<|AJ (p:=vp) 0 Bv Z (a3 _<|Au.of_ext [] a0) Aa<|Ai (p:=Ap vp 0) (.inr Z) a4 BY Z ((a3 _<|Au.of_ext [] a0).ld (i:=0) (by simp[EX,EY])) Aa<|AQ (v:=a4) Gb Z a5.isSl Aa ?_
 by_cases a9:(k:Int)<(p.length:Int)
 ·refine AG true Z Z (A5 a9) Aa<|Aj<|Ag Z<|A2<|A0<|A3<|bZ [0,0,3,0] Z<|Ad 2 Z<|As 207 [] [] [vp,zI (k:Int)] Z Z Z6 Aa (LA _ dp vp (p) (k) (hp.ext (B5<|AU dp) a0) oM oM hz) ?_
  rintro e5 w5 ⟨rfl,a6⟩
  refine⟨_,rfl,a6,?_⟩
  have ae:=a6.size
  have aa:=a0.trans a6
  refine Bn (!(K4 p k)) Z Z Aa<|Aj ?_
  cases ab:(!(K4 p k))
  ·refine Ah (by first|rfl|exact zW ab)<|A2<|Ab _ [0,0,0] Z<|Ad 1 Z<|AP ((k+1:Nat):Int) Z Z (Bl oM sD) Aa<|Ac 1 Z ?_
   exact⟨k+1,_,rfl,⟨rfl,rfl,trivial⟩,⟨aa,sD,(by exact DK hq (Do (by assumption)))⟩,zD⟩
  exact Ag (by first|rfl|exact zW ab)<|cA Z<|A1<|AC<|Al<|Al<|AC<|Al<|Af [2] Z (.bool false) Z ⟨P7,aa⟩
 exact AG false Z Z (A6 a9) Aa<|Aj<|Ah Z<|A4<|Ax<|Ax<|At<|cA Z<|A1<|Af [2] Z (.bool true) Z ⟨P7,a0⟩
theorem EI (w:World)(x:Int)(K:Nat)(_hx:Bx x)(_hK:K≤1000000000000)(hK:K≤1000000000) :
  Calls Tryz.prog 79 #[zI x,zI (K:Int)] w (fun e w'=>∃v0:Value,e=.returned (v0)∧AF w w'∧Fr (Bh rI 2) w.heap.size w'.heap.size w'.heap v0 (cst K x)):=by
 refine Aq [zI x,zI (K:Int)] 14 Tryz.func79 Z Z sM ?_
 have a5:AF w w:=AF.refl w
 refine cA Z<|bZ [0,3,0] Z<|Ad 1 Z (GA (n:=K) Bt BT Z Z Z sD Aa fun v1 w1 a2 ab a0=>?_)
 have a6:=a2.size
 have a1:=a5.trans a2
 refine Ac 1 Z<|A0<|bZ [0,0] Z<|Ad 1 Z ?_
 by_cases a3:((0:Nat):Int)<(K:Int)
 ·refine BU true Z Z (A5 a3) Aa<|Aj<|Ag Z<|Ab _ [0,0,0,4] Z<|Ad 2 Z<|AB (v:=v1) 0 Bt BT Z Z a0.isSl Z sD Aa ?_
  refine Im (v:=v1) (w:=w1) Hv Z Z _hx a0 sD Aa fun w3 F3 a4 ac a7 a8=>?_
  have a9:AF w w3:=a4.below a1 (fun c hc=>A8 (A7 _) (a7 c hc).1) a1.size
  have aa:=a4.size
  exact Aj<|bZ [0,0] Z<|Ac 2 Z<|A1<|Af [4] Z v1 Z ⟨v1,rfl,a9,(by exact a8.up o1)⟩
 exact BU false Z Z (A6 a3) Aa<|Aj<|Ah Z<|A2<|bZ [0,0] Z<|Ac 2 Z<|A1<|Af [4] Z v1 Z ⟨v1,rfl,a1,(by have h:=a0.up o1;obtain rfl:K=0:=oM;exact h)⟩
theorem P8 (a:List Int)(y:Int):scl a y=Ct a y:=by
  unfold scl Ct
  exact NC (d:=0) (k:=a.length) (fun r hr=>by rw[Ci (d:=0) hr,C4 _ hr]) (by simp) (by simp)
theorem Ck {p:Prop}(h:p:=by first|omega|assumption|(simp only[zb,z9,z4,z6,z5,Eh];omega)|(simp[zb,z9,z4,z6,z5,Eh];done)|(simp[zb,z9,z4,z6,z5,Eh];omega)):p:=h
theorem Ig (w:World)(va:Value)(a:Sr)(vb:Value)(b:Sr)(ha:Rd (B3 rI) w.heap va a)(hb:Rd (B3 rI) w.heap vb b)(hla:a.length≤1000000000000)(hl:a.length≤b.length) :
  Calls Tryz.prog 253 #[va,vb] w (fun e w'=>∃v0:Value,e=.returned (v0)∧AF w w'∧Fr (Bh rI 2) w.heap.size w'.heap.size w'.heap v0 (Ce a b)):=by
 refine Aq [va,vb] 27 Tryz.func253 Z Z sM ?_
 have a8:AF w w:=AF.refl w
 have an:=ha.lenle
 have ao:=hb.lenle
 refine cA Z<|bZ [3,0] Z (CQ (rI) AR Bt BT Aa fun v1 w1 a4 af a9=>?_)
 have a5:=a4.size
 have aa:=a8.trans a4
 refine Ac 1 Z<|A0<|cA Z<|A3 ?_
 refine B1 (S:=Nat×Value) (fun⟨k,vo⟩=>([(5,vo),(6,zI (k:Int)),(0,va),(1,vb)])) (fun⟨k,vo⟩ W=>AF w W∧Fr (Bh rI 2) w.heap.size W.heap.size W.heap vo (CC k fun t=>md (a.getD t 0+b.getD t 0))∧k≤a.length) (fun⟨k,vo⟩=>a.length-k) (0,v1) ⟨rfl,rfl,rfl,rfl,trivial⟩ ⟨aa,(by exact a9.up o1),Ck⟩ ?_
 clear a8 a9 af a4 a5 aa
 rintro⟨k,vo⟩ ρ2 w2 ⟨a2,a1,ab⟩
 have ag:w.heap.size≤w2.heap.size:=a2.size
 refine A0<|bZ [0,0,0,0] Z<|Ad 2 Z<|AQ (v:=va) Bt Z ha.isSl Aa ?_
 by_cases ac:(k:Int)<(a.length:Int)
 ·refine AG true Z Z (A5 ac) Aa<|Aj<|Ag Z<|A2<|A0<|A3<|AO _ [0,0,0,0,1,0,0,0,1,0,3,4,0] mixed (by kernel_rfl)<|Ad 3 Z<|AB (v:=va) k Bt BT Z Z ha.isSl Z Ck Aa ?_
  refine Ai (p:=Ay va k 1) (.inl Z) (zI<|a.getD k 0) AD Z (AZ a2.drew (ha.getI Ck).1) Aa<|Ad 2 Z ?_
  refine AB (v:=vb) k Bt BT Z Z hb.isSl Z Ck Aa ?_
  refine Ai (p:=Ay vb k 1) (.inl Z) (zI<|b.getD k 0) AD Z (AZ a2.drew (hb.getI Ck).1) Aa ?_
  refine Az 50 [] [] [zI<|a.getD k 0,zI<|b.getD k 0] Z Z Uv Aa (zI<|md ((a.getD k 0)+(b.getD k 0))) (fun wq=>FM wq _ _ (ha.getI Ck).2 (hb.getI Ck).2) ?_
  refine BI (u:=zI<|md ((a.getD k 0)+(b.getD k 0))) (B:=w2.heap.size) AR Bt BT Z Z (Ov w2.heap.size w2.heap.size _ _<|ED _) (A7 _) Aa fun v5 w5 a3 al ad=>?_
  replace a3:=a3.of_drew
  have ah:=a3.size
  have a6:=a2.trans a3
  have a0:=a1.ext (o1) a3
  refine FO (v:=vo) (a:=v5) Bt BT Z Z Z a0 a6.size ad.rd1 Ck (by unfold maxLen;first|omega|assumption|(simp[Eh];done)|(simp[Eh];omega)) Aa fun v6 w6 F6 a7 ae ai=>?_
  have aj:AF w w6:=a7.below a6 (fun c hc=>A8 (A7 _) (ae c hc).1) a6.size
  have ak:=a7.size
  have am:=ad.chg (o1) a7 fun c hc=>zH<|ae c hc
  refine Ac 1 Z<|Ab _ [0,0,0] Z<|Ad 1 Z<|AP ((k+1:Nat):Int) Z Z (Bl oM Ck) Aa<|Ac 1 Z ?_
  exact⟨(k+1,v6),_,rfl,zR,⟨aj,(by rw[J7];exact ai.up o1),Ck⟩,zD⟩
 exact AG false Z Z (A6 ac) Aa<|Aj<|Ah Z<|A4<|Ax<|Ax<|At<|bZ [0,0] Z<|Ac 2 Z<|A1<|Af [4] Z vo Z ⟨vo,rfl,a2,(by have h:=a1.up o1;rw[show k=a.length from by omega]at h;exact h)⟩
theorem LY (w:World)(va:Value)(a:Sr)(vb:Value)(b:Sr)(ha:Rd (B3 rI) w.heap va a)(hb:Rd (B3 rI) w.heap vb b)(hla:a.length≤1000000000000)(hlb:b.length≤1000000000000)(hl:a.length≤b.length) :
  Calls Tryz.prog 254 #[va,vb] w (fun e w'=>∃v0:Value,e=.returned (v0)∧AF w w'∧Fr (Bh rI 2) w.heap.size w'.heap.size w'.heap v0 (EP a b)):=by
 refine Aq [va,vb] 9 Tryz.func254 Z Z sM ?_
 have a7:AF w w:=AF.refl w
 have ab:=ha.lenle
 have ac:=hb.lenle
 refine cA Z<|bZ [0,0,3,3,0] Z<|Ad 2 Z<|As 165 [] [] [vb,zI ((1000002:Nat):Int)] Z Z Vw Aa (H0 _ _ _ _ (hb.ext g1 a7) oM hlb) ?_
 rintro e1 w1 ⟨a3,rfl,a4,a0⟩
 refine⟨_,rfl,a4,?_⟩
 have a8:=a4.size
 have a5:=a7.trans a4
 refine As 253 [] [] [va,a3] Z Z VF Aa (Ig _ _ _ _ _ (ha.ext g1 a5) a0.rd1 hla (by unfold scl;simp;omega)) ?_
 rintro e2 w2 ⟨a1,rfl,a6,a2⟩
 refine⟨_,rfl,a6,?_⟩
 have a9:=a6.size
 have aa:=a5.trans a6
 exact Ac 1 Z<|A1<|Af [4] Z a1 Z ⟨a1,rfl,aa,(by rw[← Rx hl,← P8];exact(a2.up o1).low a5.size)⟩
theorem LZ (w:World)(va:Value)(a:Sr)(vb:Value)(b:Sr)(ha:Rd (B3 rI) w.heap va a)(hb:Rd (B3 rI) w.heap vb b)(hla:a.length≤1000000000000)(hl:a.length≤b.length) :
  Calls Tryz.prog 255 #[va,vb] w (fun e w'=>∃v0:Value,e=.returned (v0)∧AF w w'∧Fr (Bh rI 2) w.heap.size w'.heap.size w'.heap v0 (Cc a b)):=by
 refine Aq [va,vb] 39 Tryz.func255 Z Z sM ?_
 have ab:AF w w:=AF.refl w
 have au:=ha.lenle
 have av:=hb.lenle
 refine cA Z<|bZ [3,0] Z (CQ (rI) AR Bt BT Aa fun v1 w1 a5 ak ac=>?_)
 have a6:=a5.size
 have ad:=ab.trans a5
 refine Ac 1 Z<|A0<|cA Z<|A3 ?_
 refine B1 (S:=Nat×Value) (fun⟨k,vo⟩=>([(5,vo),(6,zI (k:Int)),(0,va),(1,vb)])) (fun⟨k,vo⟩ W=>AF w W∧Fr (Bh rI 2) w.heap.size W.heap.size W.heap vo (CC k fun t=>Mf a b t (t+1))∧k≤a.length) (fun⟨k,vo⟩=>a.length-k) (0,v1) ⟨rfl,rfl,rfl,rfl,trivial⟩ ⟨ad,(by exact ac.up o1),Ck⟩ ?_
 clear ab ac ak a5 a6 ad
 rintro⟨k,vo⟩ ρ2 w2 ⟨a4,a0,ae⟩
 have a7:w.heap.size≤w2.heap.size:=a4.size
 refine A0<|bZ [0,0,0,0] Z<|Ad 2 Z<|AQ (v:=va) Bt Z ha.isSl Aa ?_
 by_cases af:(k:Int)<(a.length:Int)
 ·refine AG true Z Z (A5 af) Aa<|Aj<|Ag Z<|A2<|A0<|A3<|cA Z<|A0<|cA Z<|A3 ?_
  refine B1 (S:=Nat×Int) (fun⟨i,s⟩=>([(7,zI s),(8,zI (i:Int)),(0,va),(1,vb),(5,vo),(6,zI (k:Int))])) (fun⟨i,s⟩ W=>AF w W∧Fr (Bh rI 2) w.heap.size W.heap.size W.heap vo (CC k fun t=>Mf a b t (t+1))∧i≤k+1∧s=Mf a b k i∧(0≤s∧s<1000003)) (fun⟨i,s⟩=>k+1-i) (0,((0:Nat):Int)) ⟨rfl,rfl,rfl,rfl,rfl,rfl,trivial⟩ ⟨a4,a0.up o1,Ck,(by rfl),oM⟩ ?_
  clear a0 a4 a7
  rintro⟨i,s⟩ ρ4 w4 ⟨a3,a2,ag,hs,hsr⟩
  have al:w.heap.size≤w4.heap.size:=a3.size
  refine A0<|bZ [0,0,0] Z<|Ad 2 Z ?_
  by_cases ah:(i:Int)≤(k:Int)
  ·refine DQ true Z Z (A5 ah) Aa<|Aj<|Ag Z<|A2<|A0<|A3<|AO _ [0,0,0,0,1,0,0,0,0,0,1,0,0,0] mixed (by kernel_rfl)<|Ad 3 Z<|AB (v:=va) i Bt BT Z Z ha.isSl Z Ck Aa ?_
   refine Ai (p:=Ay va i 1) (.inl Z) (zI<|a.getD i 0) AD Z (AZ a3.drew (ha.getI Ck).1) Aa<|Ad 3 Z<|Bs ((k-i:Nat):Int) Z Z (by rw[Da oM oM];omega) Aa ?_
   refine AB (v:=vb) (k-i) Bt BT Z Z hb.isSl Z Ck Aa ?_
   refine Ai (p:=Ay vb (k-i) 1) (.inl Z) (zI<|b.getD (k-i) 0) AD Z (AZ a3.drew (hb.getI Ck).1) Aa ?_
   refine Az 112 [] [] [zI<|a.getD i 0,zI<|b.getD (k-i) 0] Z Z Lh Aa (zI<|md ((a.getD i 0)*(b.getD (k-i) 0))) (fun wq=>CW wq _ _ (ha.getI Ck).2 (hb.getI Ck).2) ?_
   refine Az 50 [] [] [zI s,zI<|md ((a.getD i 0)*(b.getD (k-i) 0))] Z Z Uv Aa (zI<|md (s+(md ((a.getD i 0)*(b.getD (k-i) 0))))) (fun wq=>FM wq _ _ oM<|ED _)<|Ac 1 Z<|Ab _ [0,0,0] Z<|Ad 1 Z<|AP ((i+1:Nat):Int) Z Z (Bl oM Ck) Aa<|Ac 1 Z ?_
   exact⟨(i+1,md (s+(md ((a.getD i 0)*(b.getD (k-i) 0))))),_,rfl,zR,⟨a3.drew,a2.up o1,Ck,(by rw[FD,hs];rfl),(by exact C1 _)⟩,zD⟩
  refine DQ false Z Z (A6 ah) Aa<|Aj<|Ah Z<|A4<|Ax<|Ax<|At<|Ab _ [0,0,3,4,0] Z<|Ad 2 Z (BI (u:=zI s) (B:=w4.heap.size) AR Bt BT Z Z (Ov w4.heap.size w4.heap.size _ _ oM) (A7 _) Aa fun v8 w8 a8 ar ai=>?_)
  have am:=a8.size
  have a9:=a3.trans a8
  have a1:=a2.ext (o1) a8
  refine FO (v:=vo) (a:=v8) Bt BT Z Z Z a1 a9.size ai.rd1 Ck (by unfold maxLen;first|omega|assumption|(simp[Eh];done)|(simp[Eh];omega)) Aa fun v9 w9 F9 aa aj an=>?_
  have ao:AF w w9:=aa.below a9 (fun c hc=>A8 (A7 _) (aj c hc).1) a9.size
  have ap:=aa.size
  have aq:=ai.chg (o1) aa fun c hc=>zH<|aj c hc
  refine Ac 1 Z<|Ab _ [0,0,0] Z<|Ad 1 Z<|AP ((k+1:Nat):Int) Z Z (Bl oM Ck) Aa<|Ac 1 Z ?_
  exact⟨(k+1,v9),_,rfl,zR,⟨ao,(by rw[J7];have h:=an.up o1;rw[hs,show i=k+1 from by omega]at h;exact h),Ck⟩,zD⟩
 exact AG false Z Z (A6 af) Aa<|Aj<|Ah Z<|A4<|Ax<|Ax<|At<|bZ [0,0] Z<|Ac 2 Z<|A1<|Af [4] Z vo Z ⟨vo,rfl,a4,(by have h:=a0.up o1;rw[show k=a.length from by omega]at h;exact h)⟩
theorem D9 {p:Prop}(h:p:=by first|omega|assumption|(simp only[zb,z9,z4,z6,z5,Dz];omega)|(simp[zb,z9,z4,z6,z5,Dz];done)|(simp[zb,z9,z4,z6,z5,Dz];omega)):p:=h
theorem M0 (w:World)(va:Value)(a:Sr)(vb:Value)(b:Sr)(ha:Rd (B3 rI) w.heap va a)(hb:Rd (B3 rI) w.heap vb b)(hla:a.length≤1000000000000)(hl:a.length≤b.length)(h1:0<b.length)(hqa:B2 a=true) :
  Calls Tryz.prog 256 #[va,vb] w (fun e w'=>∃v0:Value,e=.returned (v0)∧AF w w'∧Fr (Bh rI 2) w.heap.size w'.heap.size w'.heap v0 (BM a b)):=by
 refine Aq [va,vb] 50 Tryz.func256 Z Z sM ?_
 have ag:AF w w:=AF.refl w
 have au:=ha.lenle
 have av:=hb.lenle
 refine cA Z<|bZ [3,0] Z (CQ (rI) AR Bt BT Aa fun v1 w1 aa ao ah=>?_)
 have ab:=aa.size
 have ac:=ag.trans aa
 refine Ac 1 Z<|bZ [0,0,2,0,0] Z<|Ad 1 Z<|AB (v:=vb) 0 Bt BT Z Z hb.isSl Z D9 Aa ?_
 refine Ai (p:=Ay vb 0 1) (.inr Z) (zI<|b.getD 0 0) AD Z (AZ ac (hb.getI D9).1) Aa ?_
 refine Az 163 [] [] [zI<|b.getD 0 0] Z Z YS Aa (zI<|inv<|b.getD 0 0) (fun wq=>LS wq _ (hb.getI D9).2)<|Ac 1 Z<|A0<|cA Z<|A3 ?_
 refine B1 (S:=Nat×Value) (fun⟨k,vo⟩=>([(5,vo),(7,zI (k:Int)),(0,va),(1,vb),(6,zI<|inv<|b.getD 0 0)])) (fun⟨k,vo⟩ W=>AF w W∧Fr (Bh rI 2) w.heap.size W.heap.size W.heap vo (It a b k)∧k≤a.length) (fun⟨k,vo⟩=>a.length-k) (0,v1) ⟨rfl,rfl,rfl,rfl,rfl,trivial⟩ ⟨ac,(by exact ah.up o1),D9⟩ ?_
 clear ag ah ao aa ab ac
 rintro⟨k,vo⟩ ρ3 w3 ⟨a6,a1,ai⟩
 have ad:w.heap.size≤w3.heap.size:=a6.size
 refine A0<|bZ [0,0,0,0] Z<|Ad 2 Z<|AQ (v:=va) Bt Z ha.isSl Aa ?_
 by_cases aj:(k:Int)<(a.length:Int)
 ·refine AG true Z Z (A5 aj) Aa<|Aj<|Ag Z<|A2<|A0<|A3<|bZ [0,0,0,2,0] Z<|Ad 2 Z<|AB (v:=va) k Bt BT Z Z ha.isSl Z D9 Aa ?_
  refine Ai (p:=Ay va k 1) (.inr Z) (zI<|a.getD k 0) AD Z (AZ a6 (ha.getI D9).1) Aa<|Ac 1 Z<|A0<|cA Z<|A3 ?_
  refine B1 (S:=Nat×Int) (fun⟨i,t⟩=>([(8,zI t),(9,zI (i:Int)),(0,va),(1,vb),(5,vo),(6,zI<|inv<|b.getD 0 0),(7,zI (k:Int))])) (fun⟨i,t⟩ W=>AF w W∧Fr (Bh rI 2) w.heap.size W.heap.size W.heap vo (It a b k)∧i≤k∧t=Nm a b (It a b k) k i∧(0≤t∧t<1000003)) (fun⟨i,t⟩=>k-i) (0,a.getD k 0) ⟨rfl,rfl,rfl,rfl,rfl,rfl,rfl,trivial⟩ ⟨a6,a1.up o1,D9,(by rfl),(by exact C6 hqa k)⟩ ?_
  clear a1 a6 ad
  rintro⟨i,t⟩ ρ5 w5 ⟨a9,a0,ak,ht,htr⟩
  have ap:w.heap.size≤w5.heap.size:=a9.size
  refine A0<|bZ [0,0,0] Z<|Ad 2 Z ?_
  by_cases al:(i:Int)<(k:Int)
  ·refine AG true Z Z (A5 al) Aa<|Aj<|Ag Z<|A2<|A0<|A3<|AO _ [0,0,0,0,1,0,0,0,0,0,1,0,0,0] mixed (by kernel_rfl) ?_
   have hmn:=C1 ((It a b k).getD i 0*b.getD (k-i) 0)
   refine Ad 3 Z<|AB (v:=vo) i Bt BT Z Z a0.isSl Z D9 Aa ?_
   refine Ai (p:=Ay vo i 1) (.inl Z) (zI<|(It a b k).getD i 0) AD Z (a0.rd1.getI D9).1 Aa (Ad 3 Z<|Bs ((k-i:Nat):Int) Z Z (by rw[Da oM oM];omega) Aa ?_)
   refine AB (v:=vb) (k-i) Bt BT Z Z hb.isSl Z D9 Aa ?_
   refine Ai (p:=Ay vb (k-i) 1) (.inl Z) (zI<|b.getD (k-i) 0) AD Z (AZ a9.drew (hb.getI D9).1) Aa ?_
   refine Az 112 [] [] [zI<|(It a b k).getD i 0,zI<|b.getD (k-i) 0] Z Z Lh Aa (zI<|md (((It a b k).getD i 0)*(b.getD (k-i) 0))) (fun wq=>CW wq _ _ (a0.rd1.getI D9).2 (hb.getI D9).2) ?_
   refine Az 223 [] [] [zI t,zI<|md (((It a b k).getD i 0)*(b.getD (k-i) 0))] Z Z Z7 Aa (zI<|md (t-(md (((It a b k).getD i 0)*(b.getD (k-i) 0))))) (fun wq=>Kd wq _ _ oM (ED _) oM)<|Ac 1 Z<|Ab _ [0,0,0] Z<|Ad 1 Z<|AP ((i+1:Nat):Int) Z Z (Bl oM D9) Aa<|Ac 1 Z ?_
   exact⟨(i+1,md (t-(md (((It a b k).getD i 0)*(b.getD (k-i) 0))))),_,rfl,zR,⟨a9.drew,a0.up o1,D9,(by rw[MD,ht];rfl),(by exact C1 _)⟩,zD⟩
  refine AG false Z Z (A6 al) Aa<|Aj<|Ah Z<|A4<|Ax<|Ax<|At<|Ab _ [0,0,0,0,3,4,0] Z<|Ad 3 Z<|Az 112 [] [] [zI t,zI<|inv<|b.getD 0 0] Z Z Lh Aa (zI<|md (t*(inv<|b.getD 0 0))) (fun wq=>CW wq _ _ oM<|Ps _) (BI (u:=zI<|md (t*(inv<|b.getD 0 0))) (B:=w5.heap.size) AR Bt BT Z Z (Ov w5.heap.size w5.heap.size _ _<|ED _) (A7 _) Aa fun aw az a3 aq a7=>?_)
  have am:=a3.size
  have a4:=a9.trans a3
  have a2:=a0.ext (o1) a3
  refine FO (v:=vo) (a:=aw) Bt BT Z Z Z a2 a4.size a7.rd1 D9 (by unfold maxLen;first|omega|assumption|(simp[Dz];done)|(simp[Dz];omega)) Aa fun ax ay b0 a5 a8 ae=>?_
  have af:AF w ay:=a5.below a4 (fun c hc=>A8 (A7 _) (a8 c hc).1) a4.size
  have an:=a5.size
  have ar:=a7.chg (o1) a5 fun c hc=>zH<|a8 c hc
  refine Ac 1 Z<|Ab _ [0,0,0] Z<|Ad 1 Z<|AP ((k+1:Nat):Int) Z Z (Bl oM D9) Aa<|Ac 1 Z ?_
  exact⟨(k+1,ax),_,rfl,zR,⟨af,(by have h:=ae.up o1;rw[ht,show i=k from by omega]at h;exact h),D9⟩,zD⟩
 exact AG false Z Z (A6 aj) Aa<|Aj<|Ah Z<|A4<|Ax<|Ax<|At<|bZ [0,0] Z<|Ac 2 Z<|A1<|Af [4] Z vo Z ⟨vo,rfl,a6,(by have h:=a1.up o1;rw[show k=a.length from by omega]at h;exact h)⟩
end
end Go.Proofs.YtbajepcpgncekaaGreat
