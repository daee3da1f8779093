/- Sk, Ve, Vf, Va, Vb, Vg, Vh, Sx, Sv, Sw, Vi, Vj, Vk, Vl: texts of this claim, joined; what the claim does not come to is left out. -/
import Derived.Test.YtbajepcpgncekaaGreatQK2
import Derived.Test.YtbajepcpgncekaaGreatProg
set_option linter.unusedVariables false
set_option linter.unusedSimpArgs false
namespace Go.Proofs.YtbajepcpgncekaaGreat
open Go Go.RowKit
section
set_option maxHeartbeats 4000000
set_option maxRecDepth 100000
attribute [local irreducible] LW
theorem CW (w:World)(va:Value)(a:Sr)(y:Int)(ha:Rd (AX rI) w.heap va a)(_hy:Bt y)(hla:a.length≤1000000000000)(hqa:B2 a=true)(hy:0≤y∧y<1000003) :
  Calls Tryz.prog 187 #[va,zI y] w (fun e w'=>∃v0:Value,e=.returned (v0)∧AG w w'∧Fr (Bi rI 2) w.heap.size w'.heap.size w'.heap v0 (Ci a y)):=by
 refine Ap [va,zI y] 27 Tryz.func187 Z Z sM ?_
 have a4:AG w w:=AG.refl w
 have ah:=ha.lenle
 refine aI Z<|aH [0,0,3,0] Z<|Ad 1 Z<|AO (v:=va) Bj Z ha.isSl Aa (EL (n:=a.length) Bj Bz Z Z Z sD Aa fun v1 w1 a2 aa a5=>?_)
 have a3:=a2.size
 have a6:=a4.trans a2
 refine Ac 1 Z<|A0<|aH [0,0,0] Z<|Ad 1 Z<|AO (v:=va) Bj Z ha.isSl Aa<|Ac 1 Z<|A3 ?_
 refine AW (S:=Nat) (fun k=>([(12,zI (k:Int)),(0,va),(1,zI y),(5,v1),(11,zI (a.length:Int))])) (fun k W=>AG w W∧Fr (Bi rI 2) w.heap.size W.heap.size W.heap v1 (FR k (Ci a y)<|List.replicate a.length 0)∧k≤a.length) (fun k=>a.length-k) 0 ⟨rfl,rfl,rfl,rfl,rfl,trivial⟩ ⟨a6,(by rw[H0];exact a5.up o1),sD⟩ ?_
 clear a4 a5 aa a2 a3 a6
 rintro k ρ2 w2 ⟨a1,a0,a7⟩
 have ab:w.heap.size≤w2.heap.size:=a1.size
 have hml:=Hq k (Ci a y) (List.replicate a.length 0) sM
 rw[z5]at hml
 have hga:=BY hqa k
 refine aH [0] Z ?_
 by_cases a8:(k:Int)<(a.length:Int)
 ·refine AE true Z Z (A5 a8) Aa<|Aj<|A0<|Ag Z<|A2<|A0<|A3<|aH [0,0] Z<|Ac 2 Z<|Ab _ [0,0,0,0,0,2,0,0,0,0,4] Z<|Ad 4 Z<|Az (v:=va) k Bj Bz Z Z ha.isSl Z sD Aa ?_
  refine Ah (p:=Ax va k 1) (.inr Z) (zI<|a.getD k 0) AC Z (Bc a1 (ha.getI sD).1) Aa<|Ad 1 Z<|Fm (wr ((a.getD k 0)*y)) Z Z Z Aa<|DB (md (a.getD k 0*y)) Z Z (by decide) (Nd hga hy) Aa ?_
  refine Az (v:=v1) k Bj Bz Z Z a0.isSl Z sD Aa (Fz (v:=v1) (w:=w2) GH Z Z (E3 _) a0 sD Aa fun w4 F4 a9 ag ac ad=>?_)
  have ae:AG w w4:=a9.below a1 (fun c hc=>A8 (A7 _) (ac c hc).1) a1.size
  have af:=a9.size
  refine Aj<|Ab _ [0,0] Z<|AN ((k+1:Nat):Int) Z Z (Be oM sD) Aa<|Ac 1 Z ?_
  exact⟨k+1,_,rfl,zR,⟨ae,(by unfold Ci;rw[K1 sM oM];exact ad.up o1),sD⟩,zD⟩
 exact AE false Z Z (A6 a8) Aa<|Aj<|A0<|Ai Z<|A4<|Av<|Av<|Aq<|aH [0,0] Z<|Ac 2 Z<|A1<|Af [4] Z v1 Z ⟨v1,rfl,a1,(by have h:=a0.up o1;rwa [IG sM (by simp;omega)]at h)⟩
theorem DS (w:World)(va:Value)(a:Sr)(vb:Value)(b:Sr)(ha:Rd (AX rI) w.heap va a)(hb:Rd (AX rI) w.heap vb b)(hla:a.length≤1000000000000)(hl:a.length≤b.length)(hqa:B2 a=true)(hqb:B2 b=true) :
  Calls Tryz.prog 185 #[va,vb] w (fun e w'=>∃v0:Value,e=.returned (v0)∧AG w w'∧Fr (Bi rI 2) w.heap.size w'.heap.size w'.heap v0 (DF a b)):=by
 refine Ap [va,vb] 30 Tryz.func185 Z Z sM ?_
 have a5:AG w w:=AG.refl w
 have ah:=ha.lenle
 have ai:=hb.lenle
 refine aI Z<|aH [0,0,3,0] Z<|Ad 1 Z<|AO (v:=va) Bj Z ha.isSl Aa (EL (n:=a.length) Bj Bz Z Z Z sD Aa fun v1 w1 a3 aa a6=>?_)
 have a4:=a3.size
 have a7:=a5.trans a3
 refine Ac 1 Z<|A0<|aH [0,0,0] Z<|Ad 1 Z<|AO (v:=va) Bj Z ha.isSl Aa<|Ac 1 Z<|A3 ?_
 refine AW (S:=Nat) (fun k=>([(12,zI (k:Int)),(0,va),(1,vb),(5,v1),(11,zI (a.length:Int))])) (fun k W=>AG w W∧Fr (Bi rI 2) w.heap.size W.heap.size W.heap v1 (FR k (DF a b)<|List.replicate a.length 0)∧k≤a.length) (fun k=>a.length-k) 0 ⟨rfl,rfl,rfl,rfl,rfl,trivial⟩ ⟨a7,(by rw[H0];exact a6.up o1),sD⟩ ?_
 clear a5 a6 aa a3 a4 a7
 rintro k ρ2 w2 ⟨a1,a0,a8⟩
 have ab:w.heap.size≤w2.heap.size:=a1.size
 have hml:=Hq k (DF a b) (List.replicate a.length 0) sM
 rw[z5]at hml
 have hga:=BY hqa k
 have hgb:=BY hqb k
 refine aH [0] Z ?_
 by_cases a9:(k:Int)<(a.length:Int)
 ·refine AE true Z Z (A5 a9) Aa<|Aj<|A0<|Ag Z<|A2<|A0<|A3<|aH [0,0] Z<|Ac 2 Z<|AQ _ [0,0,0,0,0,1,0,0,0,1,0,0,0,4] mixed (by kernel_rfl)<|Ad 4 Z<|Az (v:=va) k Bj Bz Z Z ha.isSl Z sD Aa ?_
  refine Ah (p:=Ax va k 1) (.inl Z) (zI<|a.getD k 0) AC Z (Bc a1.drew (ha.getI sD).1) Aa<|Ad 2 Z ?_
  refine Az (v:=vb) k Bj Bz Z Z hb.isSl Z sD Aa ?_
  refine Ah (p:=Ax vb k 1) (.inl Z) (zI<|b.getD k 0) AC Z (Bc a1.drew (hb.getI sD).1) Aa<|AN (wr ((a.getD k 0)+(b.getD k 0))) Z Z Z Aa<|DB (md (a.getD k 0+b.getD k 0)) Z Z (by decide) (T6 hga hgb) Aa ?_
  refine Az (v:=v1) k Bj Bz Z Z a0.isSl Z sD Aa (Fz (v:=v1) (w:=w2.drew) GH Z Z (E3 _) a0 sD Aa fun w4 F4 a2 ag ac ad=>?_)
  replace a2:=a2.of_drew
  have ae:AG w w4:=a2.below a1 (fun c hc=>A8 (A7 _) (ac c hc).1) a1.size
  have af:=a2.size
  refine Aj<|Ab _ [0,0] Z<|AN ((k+1:Nat):Int) Z Z (Be oM sD) Aa<|Ac 1 Z ?_
  exact⟨k+1,_,rfl,zR,⟨ae,(by unfold DF;rw[K1 sM oM];exact ad.up o1),sD⟩,zD⟩
 exact AE false Z Z (A6 a9) Aa<|Aj<|A0<|Ai Z<|A4<|Av<|Av<|Aq<|aH [0,0] Z<|Ac 2 Z<|A1<|Af [4] Z v1 Z ⟨v1,rfl,a1,(by have h:=a0.up o1;rwa [IG sM (by simp;omega)]at h)⟩
theorem He (w:World)(va:Value)(a:Sr)(vb:Value)(b:Sr)(ha:Rd (AX rI) w.heap va a)(hb:Rd (AX rI) w.heap vb b)(hla:a.length≤1000000000000)(hlb:b.length≤1000000000000)(hl:a.length≤b.length)(hqa:B2 a=true)(hqb:B2 b=true) :
  Calls Tryz.prog 178 #[va,vb] w (fun e w'=>∃v0:Value,e=.returned (v0)∧AG w w'∧Fr (Bi rI 2) w.heap.size w'.heap.size w'.heap v0 (EE a b)):=by
 refine Ap [va,vb] 9 Tryz.func178 Z Z sM ?_
 have a7:AG w w:=AG.refl w
 have ab:=ha.lenle
 have ac:=hb.lenle
 refine aI Z<|aH [0,0,3,3,0] Z<|Ad 2 Z<|Au 187 [] [] [vb,zI ((1000002:Nat):Int)] Z Z Ma Aa (CW _ _ _ _ (hb.ext g1 a7) oM hlb hqb oM) ?_
 rintro e1 w1 ⟨a3,rfl,a4,a0⟩
 refine⟨_,rfl,a4,?_⟩
 have a8:=a4.size
 have a5:=a7.trans a4
 refine Au 185 [] [] [va,a3] Z Z NO Aa (DS _ _ _ _ _ (ha.ext g1 a5) a0.rd1 hla (by simp;omega) hqa (by exact Ep _ _)) ?_
 rintro e2 w2 ⟨a1,rfl,a6,a2⟩
 refine⟨_,rfl,a6,?_⟩
 have a9:=a6.size
 have aa:=a5.trans a6
 exact Ac 1 Z<|A1<|Af [4] Z a1 Z ⟨a1,rfl,aa,(by rw[← QQ hl];exact(a2.up o1).low a5.size)⟩
theorem Db (w:World)(va:Value)(a:Sr)(vb:Value)(b:Sr)(ha:Rd (AX rI) w.heap va a)(hb:Rd (AX rI) w.heap vb b)(hla:a.length≤1000000000000)(hl:a.length≤b.length)(hqa:B2 a=true)(hqb:B2 b=true) :
  Calls Tryz.prog 179 #[va,vb] w (fun e w'=>∃v0:Value,e=.returned (v0)∧AG w w'∧Fr (Bi rI 2) w.heap.size w'.heap.size w'.heap v0 (C5 a b)):=by
 refine Ap [va,vb] 43 Tryz.func179 Z Z sM ?_
 have a8:AG w w:=AG.refl w
 have am:=ha.lenle
 have an:=hb.lenle
 refine aI Z<|aH [0,0,3,0] Z<|Ad 1 Z<|AO (v:=va) Bj Z ha.isSl Aa (EL (n:=a.length) Bj Bz Z Z Z sD Aa fun v1 w1 a5 af a9=>?_)
 have a6:=a5.size
 have aa:=a8.trans a5
 refine Ac 1 Z<|A0<|aH [0,0,0] Z<|Ad 1 Z<|AO (v:=va) Bj Z ha.isSl Aa<|Ac 1 Z<|A3 ?_
 refine AW (S:=Nat) (fun k=>([(13,zI (k:Int)),(0,va),(1,vb),(5,v1),(12,zI (a.length:Int))])) (fun k W=>AG w W∧Fr (Bi rI 2) w.heap.size W.heap.size W.heap v1 (FR k (C5 a b)<|List.replicate a.length 0)∧k≤a.length) (fun k=>a.length-k) 0 ⟨rfl,rfl,rfl,rfl,rfl,trivial⟩ ⟨aa,(by rw[H0];exact a9.up o1),sD⟩ ?_
 clear a8 a9 af a5 a6 aa
 rintro k ρ2 w2 ⟨a3,a1,ab⟩
 have a7:w.heap.size≤w2.heap.size:=a3.size
 have hml:=Hq k (C5 a b) (List.replicate a.length 0) sM
 rw[z5]at hml
 have hga:=BY hqa k
 refine aH [0] Z ?_
 by_cases ac:(k:Int)<(a.length:Int)
 ·refine AE true Z Z (A5 ac) Aa<|Aj<|A0<|Ag Z<|A2<|A0<|A3<|aH [0,0] Z<|Ac 2 Z<|aI Z<|A3 ?_
  refine AW (S:=Nat) (fun i=>([(7,zI (i:Int)),(0,va),(1,vb),(5,v1),(6,zI (k:Int)),(12,zI (a.length:Int)),(13,zI (k:Int))])) (fun i W=>AG w W∧Fr (Bi rI 2) w.heap.size W.heap.size W.heap v1 ((FR k (C5 a b)<|List.replicate a.length 0).set k<|LU a b k i)∧i≤k+1) (fun i=>k+1-i) 0 ⟨rfl,rfl,rfl,rfl,rfl,rfl,rfl,trivial⟩ ⟨a3,(by have h:=a1.up o1;rw[← QR (T:=C5 a b) sM oM]at h;exact h),sD⟩ ?_
  clear a1 a3 a7
  rintro i ρ4 w4 ⟨a2,a0,ad⟩
  have ag:w.heap.size≤w4.heap.size:=a2.size
  have hms:((FR k (C5 a b) (List.replicate a.length 0)).set k (LU a b k i)).length=a.length:=by rw[z6];exact hml
  refine A0<|aH [0,0,0] Z<|Ad 2 Z ?_
  by_cases ae:(i:Int)≤(k:Int)
  ·refine DJ true Z Z (A5 ae) Aa<|Aj<|Ag Z<|A2<|A0<|A3<|AQ _ [0,0,0,0,0,1,0,0,0,1,0,0,0,0,0,1,0,0,0,0,4] mixed (by kernel_rfl)<|Ad 4 Z<|Az (v:=v1) k Bj Bz Z Z a0.isSl Z sD Aa ?_
   refine Ah (p:=Ax v1 k 1) (.inl Z) (zI<|((FR k (C5 a b)<|List.replicate a.length 0).set k<|LU a b k i).getD k 0) AC Z (a0.rd1.getI sD).1 Aa (Ad 2 Z ?_)
   refine Az (v:=va) i Bj Bz Z Z ha.isSl Z sD Aa ?_
   refine Ah (p:=Ax va i 1) (.inl Z) (zI<|a.getD i 0) AC Z (Bc a2.drew (ha.getI sD).1) Aa<|Ad 3 Z<|BB ((k-i:Nat):Int) Z Z (Be oM oM) Aa ?_
   refine Az (v:=vb) (k-i) Bj Bz Z Z hb.isSl Z sD Aa ?_
   refine Ah (p:=Ax vb (k-i) 1) (.inl Z) (zI<|b.getD (k-i) 0) AC Z (Bc a2.drew (hb.getI sD).1) Aa<|Fm (wr ((a.getD i 0)*(b.getD (k-i) 0))) Z Z Z Aa<|AN (wr ((((FR k (C5 a b)<|List.replicate a.length 0).set k<|LU a b k i).getD k 0)+(wr ((a.getD i 0)*(b.getD (k-i) 0))))) Z Z Z Aa ?_
   refine DB (md (LU a b k i+a.getD i 0*b.getD (k-i) 0)) Z Z (by decide) (by rw[Dk _ _ _ _ _ oM,if_pos rfl];exact Vf (P0 _ _ _ _) (BY hqa _) (BY hqb _)) Aa<|Az (v:=v1) k Bj Bz Z Z a0.isSl Z sD Aa ?_
   refine Fz (v:=v1) (w:=w4.drew) GH Z Z (E3 _) a0 sD Aa fun w6 F6 a4 al ah ai=>?_
   replace a4:=a4.of_drew
   have aj:AG w w6:=a4.below a2 (fun c hc=>A8 (A7 _) (ah c hc).1) a2.size
   have ak:=a4.size
   refine Aj<|Ab _ [0,0,0] Z<|Ad 1 Z<|AN ((i+1:Nat):Int) Z Z (Be oM sD) Aa<|Ac 1 Z ?_
   exact⟨i+1,_,rfl,zR,⟨aj,(by have h:=ai.up o1;rw[List.set_set]at h;exact h),sD⟩,zD⟩
  refine DJ false Z Z (A6 ae) Aa<|Aj<|Ai Z<|A4<|Av<|Av<|Aq<|Ab _ [0,0] Z<|AN ((k+1:Nat):Int) Z Z (Be oM sD) Aa<|Ac 1 Z ?_
  exact⟨k+1,_,rfl,zR,⟨a2,(by have h:=a0.up o1;rw[show i=k+1 from by omega]at h;unfold C5;rw[K1 sM oM];exact h),sD⟩,zD⟩
 exact AE false Z Z (A6 ac) Aa<|Aj<|A0<|Ai Z<|A4<|Av<|Av<|Aq<|aH [0,0] Z<|Ac 2 Z<|A1<|Af [4] Z v1 Z ⟨v1,rfl,a3,(by have h:=a1.up o1;rwa [IG sM (by simp;omega)]at h)⟩
theorem Ew (w:World)(va:Value)(a:Sr)(vb:Value)(b:Sr)(ha:Rd (AX rI) w.heap va a)(hb:Rd (AX rI) w.heap vb b)(hla:a.length≤1000000000000)(hl:a.length≤b.length)(h1:0<b.length)(hqa:B2 a=true)(hqb:B2 b=true) :
  Calls Tryz.prog 177 #[va,vb] w (fun e w'=>∃v0:Value,e=.returned (v0)∧AG w w'∧Fr (Bi rI 2) w.heap.size w'.heap.size w'.heap v0 (BP a b)):=by
 refine Ap [va,vb] 53 Tryz.func177 Z Z sM ?_
 have a5:AG w w:=AG.refl w
 have am:=ha.lenle
 have an:=hb.lenle
 refine aI Z<|A0<|AQ _ [0,0,3,0,0,1,0,0,0] mixed (by kernel_rfl)<|Ad 1 Z<|AO (v:=va) Bj Z ha.isSl Aa (EL (n:=a.length) Bj Bz Z Z Z sD Aa fun v1 w1 a2 ae a7=>?_)
 replace a2:=a2.of_drew
 have a6:=a2.size
 have a8:=a5.trans a2
 refine Ad 1 Z<|Az (v:=vb) 0 Bj Bz Z Z hb.isSl Z sD Aa ?_
 refine Ah (p:=Ax vb 0 1) (.inl Z) (zI<|b.getD 0 0) AC Z (Bc a5.drew (hb.getI sD).1) Aa ?_
 refine AA 226 [] [] [zI<|b.getD 0 0] Z Z UG Aa (zI<|inv<|b.getD 0 0) (fun wq=>Hd wq _ (hb.getI sD).2)<|Ac 2 Z<|A0<|aH [0,0,0] Z<|Ad 1 Z<|AO (v:=va) Bj Z ha.isSl Aa<|Ac 1 Z<|A3 ?_
 refine AW (S:=Nat) (fun k=>([(19,zI (k:Int)),(0,va),(1,vb),(5,v1),(6,zI<|inv<|b.getD 0 0),(18,zI (a.length:Int))])) (fun k W=>AG w W∧Fr (Bi rI 2) w.heap.size W.heap.size W.heap v1 (FR k (BP a b)<|List.replicate a.length 0)∧k≤a.length) (fun k=>a.length-k) 0 ⟨rfl,rfl,rfl,rfl,rfl,rfl,trivial⟩ ⟨a8,(by rw[H0];exact a7.up o1),sD⟩ ?_
 clear a5 a7 ae a2 a6 a8
 rintro k ρ3 w3 ⟨a4,a1,a9⟩
 have af:w.heap.size≤w3.heap.size:=a4.size
 have hml:=Hq k (BP a b) (List.replicate a.length 0) sM
 rw[z5]at hml
 have hga:=BY hqa k
 refine aH [0] Z ?_
 by_cases aa:(k:Int)<(a.length:Int)
 ·refine AE true Z Z (A5 aa) Aa<|Aj<|A0<|Ag Z<|A2<|A0<|A3<|aH [0,0] Z<|Ac 2 Z<|aH [0,0,0,2,0] Z<|Ad 2 Z<|Az (v:=va) k Bj Bz Z Z ha.isSl Z sD Aa ?_
  refine Ah (p:=Ax va k 1) (.inr Z) (zI<|a.getD k 0) AC Z (Bc a4 (ha.getI sD).1) Aa<|Ac 1 Z<|A0<|aI Z<|A3 ?_
  refine AW (S:=Nat×Int) (fun⟨i,t⟩=>([(8,zI t),(9,zI (i:Int)),(0,va),(1,vb),(5,v1),(6,zI<|inv<|b.getD 0 0),(7,zI (k:Int)),(18,zI (a.length:Int)),(19,zI (k:Int))])) (fun⟨i,t⟩ W=>AG w W∧Fr (Bi rI 2) w.heap.size w3.heap.size W.heap v1 (FR k (BP a b)<|List.replicate a.length 0)∧i≤k∧t=MX a b (BP a b) k i∧(0≤t∧t<1000003)) (fun⟨i,t⟩=>k-i) (0,a.getD k 0) ⟨rfl,rfl,rfl,rfl,rfl,rfl,rfl,rfl,rfl,trivial⟩ ⟨a4,a1,sD,(by rfl),(by exact BY hqa k)⟩ ?_
  clear a1
  rintro⟨i,t⟩ ρ5 w5 ⟨a3,a0,ab,ht,htr⟩
  have ag:w.heap.size≤w5.heap.size:=a3.size
  refine A0<|aH [0,0,0] Z<|Ad 2 Z ?_
  by_cases ac:(i:Int)<(k:Int)
  ·refine AE true Z Z (A5 ac) Aa<|Aj<|Ag Z<|A2<|A0<|A3<|AQ _ [0,0,0,0,1,0,0,0,0,0,1,0,0,0] mixed (by kernel_rfl)<|Ad 3 Z<|Az (v:=v1) i Bj Bz Z Z a0.isSl Z sD Aa ?_
   refine Ah (p:=Ax v1 i 1) (.inl Z) (zI<|(FR k (BP a b)<|List.replicate a.length 0).getD i 0) AC Z (a0.rd1.getI sD).1 Aa (Ad 3 Z<|BB ((k-i:Nat):Int) Z Z (Be oM oM) Aa ?_)
   refine Az (v:=vb) (k-i) Bj Bz Z Z hb.isSl Z sD Aa ?_
   refine Ah (p:=Ax vb (k-i) 1) (.inl Z) (zI<|b.getD (k-i) 0) AC Z (Bc a3.drew (hb.getI sD).1) Aa<|Fm (wr (((FR k (BP a b)<|List.replicate a.length 0).getD i 0)*(b.getD (k-i) 0))) Z Z Z Aa ?_
   refine AA 191 [] [] [zI t,zI<|wr (((FR k (BP a b)<|List.replicate a.length 0).getD i 0)*(b.getD (k-i) 0))] Z Z Sk Aa (zI<|md (t-(wr (((FR k (BP a b)<|List.replicate a.length 0).getD i 0)*(b.getD (k-i) 0))))) (fun wq=>Gw wq _ _ oM<|NW _)<|Ac 1 Z<|Ab _ [0,0,0] Z<|Ad 1 Z<|AN ((i+1:Nat):Int) Z Z (Be oM sD) Aa<|Ac 1 Z ?_
   exact⟨(i+1,md (t-(wr (((FR k (BP a b) (List.replicate a.length 0)).getD i 0)*(b.getD (k-i) 0))))),_,rfl,zR,⟨a3.drew,a0,sD,(by rw[ht,Ve 0 oM (by simp;omega)];exact QS (Eo a b) hqb),(by exact BU _)⟩,zD⟩
  refine AE false Z Z (A6 ac) Aa<|Aj<|Ai Z<|A4<|Av<|Av<|Aq<|Ab _ [0,0,0,0,0,0,0,4] Z<|Ad 4 Z<|Fm (wr (t*(inv<|b.getD 0 0))) Z Z Z Aa<|DB (md (t*inv (b.getD 0 0))) Z Z (by decide) (Nd htr<|SZ _) Aa<|Az (v:=v1) k Bj Bz Z Z a0.isSl Z sD Aa ?_
  refine Fz (v:=v1) (w:=w5) GH Z Z (E3 _) a0 sD Aa fun w8 F8 ad al ah ai=>?_
  have aj:AG w w8:=ad.below a3 (fun c hc=>A8 (A7 _) (ah c hc).1) a3.size
  have ak:=ad.size
  refine Aj<|Ab _ [0,0] Z<|AN ((k+1:Nat):Int) Z Z (Be oM sD) Aa<|Ac 1 Z ?_
  exact⟨k+1,_,rfl,zR,⟨aj,(by have h:=ai.up o1;rw[ht,show i=k from by omega]at h;rw[← T5 oM sM];exact h),sD⟩,zD⟩
 exact AE false Z Z (A6 aa) Aa<|Aj<|A0<|Ai Z<|A4<|Av<|Av<|Aq<|aH [0,0] Z<|Ac 2 Z<|A1<|Af [4] Z v1 Z ⟨v1,rfl,a4,(by have h:=a1.up o1;rwa [IG sM (by simp;omega)]at h)⟩
theorem HU (w:World)(va:Value)(a:List (Sr))(ha:Rd (AX (AX rI)) w.heap va a)(hla:a.length≤1000000000000)(h1:∀k,k<a.length→0<(a.getD k []).length) :
  Calls Tryz.prog 106 #[va] w (fun e w'=>∃v0:Value,e=.returned (v0)∧AG w w'∧Fr (Bi rI 2) w.heap.size w'.heap.size w'.heap v0 (a.map (fun s=>s.getD 0 0))):=by
 refine Ap [va] 21 Tryz.func106 Z Z sM ?_
 have aa:AG w w:=AG.refl w
 have au:=ha.lenle
 refine aI Z<|aH [3,0] Z (Ch (rI) AK Bj Bz Aa fun v1 w1 a4 ah ab=>?_)
 have a5:=a4.size
 have ac:=aa.trans a4
 refine Ac 1 Z<|A0<|aH [0,0,0] Z<|Ad 1 Z<|AO (v:=va) BH Z ha.isSl Aa<|Ac 1 Z<|A3 ?_
 refine AW (S:=Nat×Value) (fun⟨k,vo⟩=>([(3,vo),(9,zI (k:Int)),(7,va),(8,zI (a.length:Int))])) (fun⟨k,vo⟩ W=>AG w W∧Fr (Bi rI 2) w.heap.size W.heap.size W.heap vo ((a.take k).map fun s=>s.getD 0 0)∧k≤a.length) (fun⟨k,vo⟩=>a.length-k) (0,v1) ⟨rfl,rfl,rfl,rfl,trivial⟩ ⟨ac,ab.up o1,sD⟩ ?_
 clear aa ab ah a4 a5 ac
 rintro⟨k,vo⟩ ρ2 w2 ⟨a2,a1,ad⟩
 have ai:w.heap.size≤w2.heap.size:=a2.size
 refine aH [0] Z ?_
 by_cases ae:(k:Int)<(a.length:Int)
 ·refine AE true Z Z (A5 ae) Aa<|Aj<|A0<|Ag Z<|A2<|A0<|A3<|aH [0,2,0] Z<|Az (v:=va) k BH B9 Z Z ha.isSl Z sD Aa ?_
  obtain⟨a6,aj,a3⟩:=ha.get (k:=k) [] sD
  have ak:=a3.lenle
  refine Ah (p:=Ax va k 1) (.inr Z) a6 Bk Z (Bc a2 aj) Aa<|Ac 1 Z<|Ab _ [0,0,0,2,3,4,0] Z ?_
  have ap:=h1 k oM
  refine Ad 2 Z<|Az (v:=a6) 0 Bj Bz Z Z a3.isSl Z sD Aa ?_
  refine Ah (p:=Ax a6 0 1) (.inr Z) (zI<|(a.getD k []).getD 0 0) AC Z (Bc a2 (a3.getI sD).1) Aa ?_
  refine BI (u:=zI<|(a.getD k []).getD 0 0) (B:=w2.heap.size) AK Bj Bz Z Z (Lh w2.heap.size w2.heap.size _ _ (a3.getI sD).2) (A7 _) Aa fun v5 w5 a7 aq af=>?_
  have al:=a7.size
  have a8:=a2.trans a7
  have a0:=a1.ext (o1) a7
  refine Fy (v:=vo) (a:=v5) Bj Bz Z Z Z a0 a8.size af.rd1 sD (by unfold maxLen;first|omega|assumption|(simp;done)|(simp;omega)) Aa fun v6 w6 F6 a9 ag am=>?_
  have an:AG w w6:=a9.below a8 (fun c hc=>A8 (A7 _) (ag c hc).1) a8.size
  have ao:=a9.size
  have ar:=af.chg (o1) a9 fun c hc=>zH<|ag c hc
  refine Ac 1 Z<|Ab _ [0,0] Z<|AN ((k+1:Nat):Int) Z Z (Be oM sD) Aa<|Ac 1 Z ?_
  exact⟨(k+1,v6),_,rfl,zR,⟨an,(by rw[CS [] oM];exact am.up o1),sD⟩,zD⟩
 exact AE false Z Z (A6 ae) Aa<|Aj<|A0<|Ai Z<|A4<|Av<|Av<|Aq<|aH [0,0] Z<|Ac 2 Z<|A1<|Af [2] Z vo Z ⟨vo,rfl,a2,(by have h:=a1.up o1;rwa [za oM]at h)⟩
def PV (F d:Nat):Prop:=∀(w:World) (S:List Nat) (g:Nat) (vp:Value) (dp o s0:Nat) (c0:Int) (p:List Fn) (ve:Value) (ex:Ex) (vv:Value) (env:List (List Int)) (hS:∀b∈S,b<w.heap.size) (hgS:g∈S) (hB0:BX w.heap g [vp,.int .i64 ((o:Nat):Int),.int .i64 ((s0:Nat):Int),.int .i64 c0]) (hp:RP S dp w.heap vp p) (ho:o≤12) (hs0:s0≤3000) (hc0:0≤c0∧c0≤9) (hex:RX S d w.heap ve ex) (henv:RN S (AX (AX rI)) w.heap vv env) (hqenv:C8 vv)
  (hvp:HE p) (hF:F≤p.length) (hwf:wf p ((F:Nat):Int) ex ((env.length:Nat):Int)=true) (hse:C0 (o+1) env) (hdp:env.length+ex.deep≤1000000),
  Calls Tryz.prog 241 #[.pointer (some ⟨g,0,none⟩),.agg #[.int .i64 ex.kind,.int .i64 ex.num,.int .i64 ex.pick,.int .i64 ex.count,ve],vv] w (fun e w'=>∃(v:Value) (x:List Int) (s1:Nat) (c1:Int),e=.returned v∧As [g] w w'∧BX w'.heap g [vp,.int .i64 ((o:Nat):Int),.int .i64 ((s1:Nat):Int),.int .i64 c1]∧RN S (AX rI) w'.heap v x∧Cb (o+1) x∧s1≤3000∧(0≤c1∧c1≤9)∧AH (go c0 (Cf (o+1) (E4 p (o+1) F) ex env s0)) x s1 c1)
def PA (F d:Nat):Prop:=∀(w:World) (S:List Nat) (g:Nat) (vp:Value) (dp o s0:Nat) (c0:Int) (p:List Fn) (vl:Value) (l:List Ex) (vv:Value) (env:List (List Int)) (hS:∀b∈S,b<w.heap.size) (hgS:g∈S) (hB0:BX w.heap g [vp,.int .i64 ((o:Nat):Int),.int .i64 ((s0:Nat):Int),.int .i64 c0]) (hp:RP S dp w.heap vp p) (ho:o≤12) (hs0:s0≤3000) (hc0:0≤c0∧c0≤9) (hl:RN S (Dw 5 (Lm d)) w.heap vl l) (henv:RN S (AX (AX rI)) w.heap vv env) (hqenv:C8 vv)
  (hvp:HE p) (hF:F≤p.length) (hwf:∀k,k<l.length→wf p ((F:Nat):Int) (l.getD k Ex.zero) ((env.length:Nat):Int)=true) (hse:C0 (o+1) env) (hdp:∀k,k<l.length→env.length+(l.getD k Ex.zero).deep≤1000000) (hll:l.length≤1000000),
  Calls Tryz.prog 210 #[.pointer (some ⟨g,0,none⟩),vl,vv] w (fun e w'=>∃(v:Value) (x:List (List Int)) (s1:Nat) (c1:Int),e=.returned v∧As [g] w w'∧BX w'.heap g [vp,.int .i64 ((o:Nat):Int),.int .i64 ((s1:Nat):Int),.int .i64 c1]∧RN S (AX (AX rI)) w'.heap v x∧(C8 v∧x.length=l.length∧C0 (o+1) x)∧s1≤3000∧(0≤c1∧c1≤9)∧AH (go c0 (D9 (o+1) (E4 p (o+1) F) l env s0)) x s1 c1)
theorem DT (w:World)(v:Value)(n:Nat)(hs:El v n)(hcs:C8 v)  :
  Calls Tryz.prog 274 #[v] w (fun e w'=>e=.returned (DD v)∧w'=w):=by
 refine Ap [v] 9 Tryz.func274 Z Z sM ?_
 have a0:w=w:=rfl
 exact aI Z<|aH [0,0,0,0,0,0,0] Z<|Ad 2 Z<|AO (v:=v) BH Z hs Aa<|Ad 1 Z<|AO (v:=v) BH Z hs Aa<|QC (v:=v) BH B9 Z hs Z Z hcs Aa<|Ac 1 Z<|A1<|Af [2] Z (DD v) Z ⟨rfl,a0⟩
theorem BD (w:World)(S:List Nat)(g:Nat)(vp:Value)(dp o s0:Nat)(c0:Int)(p:List Fn)(n:Int)(hS:∀b∈S,b<w.heap.size)(hgS:g∈S)(hB0:BX w.heap g [vp,zI (o:Int),zI (s0:Int),zI c0])(hp:RP S dp w.heap vp p)(ho:o≤12)(hs0:s0≤3000)(hc0:0≤c0∧c0≤9)(_hn:Bt n)  :
  Calls Tryz.prog 273 #[zP g,zI n] w (fun e w'=>∃v0:Value,e=.returned (v0)∧AG w w'∧Fr (Bi rI 2) w.heap.size w'.heap.size w'.heap v0 (cst (o+1) n)):=by
 refine Ap [zP g,zI n] 16 Tryz.func273 Z Z sM ?_
 have a6:AG w w:=AG.refl w
 have a0:=hp.lenle
 unfold maxLen at a0
 have ad:=hB0.lt
 refine aI Z<|aH [0,0,0,2,0,3,0] Z<|Ad 1 Z<|AT Z Aa<|Ak (p:=zP g) 1 TO Z Z Aa<|Ah (p:=Ao (zP g) 1) (.inr Z) (zI (o:Int)) KU Z (hB0.ldp (i:=1) sM) Aa<|AN ((o+1:Nat):Int) Z Z (Be oM oM) Aa ?_
 refine EL (n:=o+1) Bj Bz Z Z Z sD Aa fun v1 w1 a1 ab a3=>?_
 have a7:=a1.size
 have a4:=a6.trans a1
 refine Ac 1 Z<|aH [0,0,0,4] Z<|Ad 2 Z<|Az (v:=v1) 0 Bj Bz Z Z a3.isSl Z sM Aa (Fz (v:=v1) (w:=w1) GH Z Z _hn a3 sM Aa fun w2 F2 a2 ac a5 a8=>?_)
 have a9:AG w w2:=a2.below a4 (fun c hc=>A8 (A7 _) (a5 c hc).1) a4.size
 have aa:=a2.size
 exact Aj<|aH [0,0] Z<|Ac 2 Z<|A1<|Af [4] Z v1 Z ⟨v1,rfl,a9,a8.up o1⟩
theorem GO (w:World)(S:List Nat)(F:Nat)(g:Nat)(vp:Value)(dp o s0:Nat)(c0:Int)(p:List Fn)(dl:Nat)(vl:Value)(l:List Ex)(vv:Value)(env:List (Sr))(hS:∀b∈S,b<w.heap.size)(hgS:g∈S)(hB0:BX w.heap g [vp,zI (o:Int),zI (s0:Int),zI c0])(hp:RP S dp w.heap vp p)(ho:o≤12)(hs0:s0≤3000)(hc0:0≤c0∧c0≤9)(hl:RN S (Dw 5 (Lm dl)) w.heap vl l)(henv:RN S (AX (AX rI)) w.heap vv env)(hqenv:C8 vv)(hvp:HE p)(hF:F≤p.length)(hwf:∀k,k<l.length→wf p (F:Int) (l.getD k Ex.zero) (env.length:Int)=true)(hse:C0 (o+1) env)(hdp:∀k,k<l.length→env.length+(l.getD k Ex.zero).deep≤1000000)(hll:l.length≤1000000)(IHv:∀d',d'<dl→PV F d') :
  Calls Tryz.prog 210 #[zP g,vl,vv] w (fun e w'=>∃(v:Value) (x:List (Sr)) (s1:Nat) (c1:Int),e=.returned v∧As [g] w w'∧BX w'.heap g [vp,zI (o:Int),zI (s1:Int),zI c1]∧RN S (AX (AX rI)) w'.heap v x∧(C8 v∧x.length=l.length∧C0 (o+1) x)∧s1≤3000∧(0≤c1∧c1≤9)∧AH (go c0 (D9 (o+1) (E4 p (o+1) F) l env s0)) x s1 c1):=by
 refine Ap [zP g,vl,vv] 26 Tryz.func210 Z Z sM ?_
 have b2:As [g] w w:=As.refl [g] w
 have c2:=hp.lenle
 unfold maxLen at c2
 have c3:=hl.lenle
 unfold maxLen at c3
 have c4:=henv.lenL
 unfold maxLen at c4
 have ch:=hB0.lt
 refine aI Z<|aH [3,0] Z (Ch rV Bs BH B9 Aa fun v1 w1 ai bh b3=>?_)
 have am:=ai.size
 have b4:As [g] w w1:=b2.ext ai
 have ag:=hB0.ext ai
 obtain⟨bs,F1,bt⟩:=GR.nil (S:=S) (b3.low (B':=w.heap.size) (A7 _))
 refine Ac 1 Z<|A0<|aH [0,0,0] Z<|Ad 1 Z<|AO (v:=vl) CZ Z hl.isSl Aa<|Ac 1 Z<|A3 ?_
 refine AW (S:=Nat×Value×List (Sr)×Nat×Int) (fun⟨k,vo,xs,s9,c9⟩=>([(7,vo),(13,zI (k:Int)),(0,zP g),(2,vv),(11,vl),(12,zI (l.length:Int))])) (fun⟨k,vo,xs,s9,c9⟩ W=>As [g] w W∧BX W.heap g [vp,zI (o:Int),zI (s9:Int),zI c9]∧k≤l.length∧N7 27 S w.heap.size W.heap vo xs∧xs.length=k∧C0 (o+1) xs∧s9≤3000∧(0≤c9∧c9≤9)∧AH (go c0<|D9 (o+1) (E4 p (o+1) F) (l.take k) env s0) xs s9 c9) (fun⟨k,vo,xs,s9,c9⟩=>l.length-k) (0,v1,([]:List (Sr)),s0,c0) ⟨rfl,rfl,rfl,rfl,rfl,rfl,trivial⟩ ⟨b4,ag,sD,(by exact⟨_,_,by assumption⟩),(by rfl),(by intro j hj;simp at hj),oM,oM,(by exact FX _ _ _ _ _ _)⟩ ?_
 clear b2 b3 bh ai am b4
 rintro⟨k,vo,xs,s9,c9⟩ ρ2 w2 ⟨aj,a0,b5,hbld,hxl,hxs,b6,b7,hrl⟩
 have bi:w.heap.size≤w2.heap.size:=aj.size
 have bu:=a0.lt
 obtain⟨bv,F5,a3⟩:=hbld
 refine aH [0] Z ?_
 by_cases b8:(k:Int)<(l.length:Int)
 ·refine AE true Z Z (A5 b8) Aa<|Aj<|A0<|Ag Z<|A2<|A0<|A3<|aH [0,2,3,4] Z ?_
  have hkl:k<l.length:=by omega
  refine Az (v:=vl) k CZ Bm Z Z hl.isSl Z sD Aa ?_
  obtain⟨cs7,bj,bk⟩:=hl.get (Aw dl) Ex.zero (k:=k) sD
  obtain⟨dd7,ae,bw,rfl,ak⟩:=RX.of bj
  have an:=ak.rn.lenle
  unfold maxLen at an
  refine AL (p:=Ax vl k 5) (.inr Z) [zI<|(l.getD k Ex.zero).kind,zI<|(l.getD k Ex.zero).num,zI<|(l.getD k Ex.zero).pick,zI<|(l.getD k Ex.zero).count,ae] B6 Z (fun c8 ao=>bk c8<|(aj.sub<|AS hgS).ext ao) Z Aa ?_
  have bx:=a0.lt
  refine Bp (z:=.agg #[zI 0,zI 0,zI 0,zI 0,zN]) Ha Aa fun w8 af bz ap=>?_
  have bl:=af.size
  have bm:As [g] w w8:=aj.ext af
  have a4:=a0.ext af
  have bn:=a3.ext af
  replace ap:BX w8.heap w2.heap.size [zI 0,zI 0,zI 0,zI 0,zN]:=ap
  refine Bw (vs:=[zI<|(l.getD k Ex.zero).kind,zI<|(l.getD k Ex.zero).num,zI<|(l.getD k Ex.zero).pick,zI<|(l.getD k Ex.zero).count,ae]) B6 Z Z ak.ones ap Z Z Aa fun c6 a5 bo a6=>?_
  replace a6:BX c6.heap w2.heap.size [zI ((l.getD k Ex.zero).kind),zI ((l.getD k Ex.zero).num),zI ((l.getD k Ex.zero).pick),zI ((l.getD k Ex.zero).count),ae]:=a6
  have a7:As [g] w c6:=bm.fresh a5 (fun _ h=>zE h)
  have b9:=a5.size
  have aq:=a4.chg a5 (zB ·)
  have a2:=a3.ext<|a5.below af (fun _ h=>zE h) af.size
  refine Aj<|Ab _ [0,0,2,0,4,3,4,0] Z<|Ad 2 Z<|AL (p:=zP w2.heap.size) (.inr Z) [zI<|(l.getD k Ex.zero).kind,zI<|(l.getD k Ex.zero).num,zI<|(l.getD k Ex.zero).pick,zI<|(l.getD k Ex.zero).count,ae] B6 Z (fun c8 ao=>LD.of_box<|BX.ext (w:=c6) a6 ao) Z Aa<|Ad 1 Z ?_
  refine AB 241 [] [] [zP g,.agg #[zI<|(l.getD k Ex.zero).kind,zI<|(l.getD k Ex.zero).num,zI<|(l.getD k Ex.zero).pick,zI<|(l.getD k Ex.zero).count,ae],vv] Z Z KT Aa (IHv dd7 oM _ (S++F5) g vp dp (o) (s9) (c9) (p) ae (l.getD k Ex.zero) vv (env) (fun b hb=>(by rcases zi.1 hb with hb|hb;(have:=hS b hb;omega);exact a2.lt b hb:b<c6.heap.size)) (z8 _ hgS) aq ((hp.add (F:=F5) (An<|Ay dp) a2.low).chg (An<|Ay dp)<|a7.sub<|Ln hgS) oM oM oM ⟨ak.rng,(ak.rn.add (F:=F5) (An<|Aw dd7) a2.low).chg (An<|Aw dd7)<|a7.sub<|Ln hgS⟩ ((henv.add (F:=F5) g2 a2.low).chg g2<|a7.sub<|Ln hgS) hqenv hvp oM (by exact hwf k hkl) hse (by exact hdp k hkl)) ?_
  rintro ci c5 ⟨c7,ca,cb,cc,rfl,a8,ar,a9,ah,ba,bb,bc⟩
  refine⟨_,rfl,?_⟩
  have bd:=a8.size
  have au:As [g] w c5:=a7.trans a8
  have av:=a6.chg a8 (zB ·)
  have aw:=a2.run hgS oM a8
  have be:=ah.1
  replace a9:RN (S++F5) (AX rI) c5.heap c7 ca:=a9
  refine BI (u:=c7) (B:=c5.heap.size) Bs BH B9 Z Z (NS c5.heap.size c5.heap.size _<|a9.one1 g1) (A7 _) Aa fun cd ce a1 bp ax=>?_
  have bf:=a1.size
  have ay:As [g] w ce:=au.ext a1
  have aa:=ar.ext a1
  have al:=av.ext a1
  have ab:=aw.ext a1
  have az:=a9.ext g1 a1
  refine E2 (v:=vo) (a:=cd) (u:=c7) BH B9 Z Z Z ab oM ax az sD (by unfold maxLen;first|omega|assumption|(simp;done)|(simp;omega)) Aa ?_
  rintro cf cg G24 ac ad ⟨bq,cj,br⟩
  have bg:=ac.size
  have b0:As [g] w cg:=ay.fresh ac (fun c hc=>ab.low c (ad c hc))
  have b1:=aa.chg ac fun hm=>by have:=ab.low _ (ad _ hm);have:=ab.lt _ (ad _ hm);omega
  refine Ac 1 Z<|Ab _ [0,0] Z<|AN ((k+1:Nat):Int) Z Z (Be oM sD) Aa<|Ac 1 Z ?_
  exact⟨(k+1,cf,xs++[ca],cb,cc),_,rfl,zR,⟨b0,b1,sD,(by exact⟨_,_,by assumption⟩),(by rw[z4,zd,hxl]),(by exact C0.snoc hxs (by assumption)),oM,oM,(by exact FW oM hrl (by assumption))⟩,zD⟩
 exact AE false Z Z (A6 b8) Aa<|Aj<|A0<|Ai Z<|A4<|Av<|Av<|Aq<|aH [0,0] Z<|Ac 2 Z<|A1<|Af [6] Z vo Z ⟨vo,xs,s9,c9,rfl,aj,a0,a3.done hS,(by exact⟨a3.cap,zO,hxs⟩),oM,oM,(by rw[za oM]at hrl;exact hrl)⟩
theorem Sw (F d:Nat)(IH:∀d',d'<d→PV F d'):PA F d:=by
 intro w S g vp dp o s0 c0 p vl l vv env hS hgS hB0 hp ho hs0 hc0 hl henv hqenv hvp hF hwf hse hdp hll
 exact GO w S F g vp dp o s0 c0 p d vl l vv env hS hgS hB0 hp ho hs0 hc0 hl henv hqenv hvp hF hwf hse hdp hll IH
theorem Jt {p:Prop}(h:p:=by first|exact Dm oM|exact Cw oM oM|exact Ec hc00 hs1 oM|exact Ed hc00 hs1 oM|exact Ee hc00 hs1 oM oM ‹AH (go c0 (Cf _ _ (ex.kids.getD 0 _) _ _)) _ _ _› oM (by assumption)|exact Ef hc00 hs1 oM oM ‹AH (go c0 (Cf _ _ (ex.kids.getD 0 _) _ _)) _ _ _› oM (by assumption)|exact Eg hc00 hs1 oM oM ‹AH (go c0 (Cf _ _ (ex.kids.getD 0 _) _ _)) _ _ _› (by assumption)|exact CV hc00 hs1 hkg.1 hkg.2.1 hkg.2.2.1 hkg.2.2.2 hKr oM|exact DN hc00 hs1 oM oM hKr oM (by assumption)|exact DO hc00 hs1 oM oM hKr oM (DP hrl9 oM oM)|exact Ba hc00 hs1 hkg.1 hkg.2.1 hkg.2.2.1 hkg.2.2.2 oM oM hKr oM (by rw[show c66=0 from by omega];exact FC oM)|exact Ba hc00 hs1 hkg.1 hkg.2.1 hkg.2.2.1 hkg.2.2.2 oM oM hKr oM (by rw[show c66=0 from by omega];exact FD oM)|exact Ba hc00 hs1 hkg.1 hkg.2.1 hkg.2.2.1 hkg.2.2.2 oM oM hKr oM (by rw[show c66=0 from by omega];exact FE oM)|exact Ba hc00 hs1 hkg.1 hkg.2.1 hkg.2.2.1 hkg.2.2.2 oM oM hKr oM (by rw[show c66=0 from by omega];exact FF oM)|exact Ba hc00 hs1 hkg.1 hkg.2.1 hkg.2.2.1 hkg.2.2.2 oM oM hKr oM (by rw[show c66=0 from by omega];exact FG oM oM)|exact Ba hc00 hs1 hkg.1 hkg.2.1 hkg.2.2.1 hkg.2.2.2 oM oM hKr oM (Eh oM oM)):p:=h
theorem Ot {p:Prop}(h:p:=by first|exact Dm oM|exact Cw oM oM|exact Ec hc00 hs1 oM|exact Ed hc00 hs1 oM|exact Ee hc00 hs1 oM oM ‹AH (go c0 (Cf _ _ (ex.kids.getD 0 _) _ _)) _ _ _› oM (by assumption)|exact Ef hc00 hs1 oM oM ‹AH (go c0 (Cf _ _ (ex.kids.getD 0 _) _ _)) _ _ _› oM (by assumption)|exact Eg hc00 hs1 oM oM ‹AH (go c0 (Cf _ _ (ex.kids.getD 0 _) _ _)) _ _ _› (by assumption)|exact CV hc00 hs1 hkg.1 hkg.2.1 hkg.2.2.1 hkg.2.2.2 hKr oM|exact DN hc00 hs1 oM oM hKr oM (by assumption)|exact DO hc00 hs1 oM oM hKr oM (DP hrl9 oM oM)|exact Ba hc00 hs1 hkg.1 hkg.2.1 hkg.2.2.1 hkg.2.2.2 oM oM hKr oM (by rw[show c0=0 from by omega];exact FC oM)|exact Ba hc00 hs1 hkg.1 hkg.2.1 hkg.2.2.1 hkg.2.2.2 oM oM hKr oM (by rw[show c0=0 from by omega];exact FD oM)|exact Ba hc00 hs1 hkg.1 hkg.2.1 hkg.2.2.1 hkg.2.2.2 oM oM hKr oM (by rw[show c0=0 from by omega];exact FE oM)|exact Ba hc00 hs1 hkg.1 hkg.2.1 hkg.2.2.1 hkg.2.2.2 oM oM hKr oM (by rw[show c0=0 from by omega];exact FF oM)|exact Ba hc00 hs1 hkg.1 hkg.2.1 hkg.2.2.1 hkg.2.2.2 oM oM hKr oM (by rw[show c0=0 from by omega];exact FG oM oM)|exact Ba hc00 hs1 hkg.1 hkg.2.1 hkg.2.2.1 hkg.2.2.2 oM oM hKr oM (Eh oM oM)):p:=h
theorem Sx {p:Prop}(h:p:=by first|exact Dm oM|exact Cw oM oM|exact Ec hc00 hs1 oM|exact Ed hc00 hs1 oM|exact Ee hc00 hs1 oM oM ‹AH (go c0 (Cf _ _ (ex.kids.getD 0 _) _ _)) _ _ _› oM (by assumption)|exact Ef hc00 hs1 oM oM ‹AH (go c0 (Cf _ _ (ex.kids.getD 0 _) _ _)) _ _ _› oM (by assumption)|exact Eg hc00 hs1 oM oM ‹AH (go c0 (Cf _ _ (ex.kids.getD 0 _) _ _)) _ _ _› (by assumption)|exact CV hc00 hs1 hkg.1 hkg.2.1 hkg.2.2.1 hkg.2.2.2 hKr oM|exact DN hc00 hs1 oM oM hKr oM (by assumption)|exact DO hc00 hs1 oM oM hKr oM (DP hrl9 oM oM)|exact Ba hc00 hs1 hkg.1 hkg.2.1 hkg.2.2.1 hkg.2.2.2 oM oM hKr oM (by rw[show c9=0 from by omega];exact FC oM)|exact Ba hc00 hs1 hkg.1 hkg.2.1 hkg.2.2.1 hkg.2.2.2 oM oM hKr oM (by rw[show c9=0 from by omega];exact FD oM)|exact Ba hc00 hs1 hkg.1 hkg.2.1 hkg.2.2.1 hkg.2.2.2 oM oM hKr oM (by rw[show c9=0 from by omega];exact FE oM)|exact Ba hc00 hs1 hkg.1 hkg.2.1 hkg.2.2.1 hkg.2.2.2 oM oM hKr oM (by rw[show c9=0 from by omega];exact FF oM)|exact Ba hc00 hs1 hkg.1 hkg.2.1 hkg.2.2.1 hkg.2.2.2 oM oM hKr oM (by rw[show c9=0 from by omega];exact FG oM oM)|exact Ba hc00 hs1 hkg.1 hkg.2.1 hkg.2.2.1 hkg.2.2.2 oM oM hKr oM (Eh oM oM)):p:=h
theorem Dc {p:Prop}(h:p:=by first|assumption|exact DM (by decide)|exact DM (Ce.2 oM)|exact hse _ oM|exact hks _ oM|exact FY hK0|exact Kv hK0|exact FZ hK0|exact Kw hK0|exact ET hK0):p:=h
theorem MN {p:Prop}(h:p:=by have:=hK0.1;have:=hK1.1;omega):p:=h
theorem KY {p:Prop}(h:p:=by have:=hK0.1;omega):p:=h
theorem G7 (w:World)(S:List Nat)(F:Nat)(g:Nat)(vp:Value)(dp o s0:Nat)(c0:Int)(p:List Fn)(dex:Nat)(ve:Value)(ex:Ex)(vv:Value)(env:List (Sr))(hS:∀b∈S,b<w.heap.size)(hgS:g∈S)(hB0:BX w.heap g [vp,zI (o:Int),zI (s0:Int),zI c0])(hp:RP S dp w.heap vp p)(ho:o≤12)(hs0:s0≤3000)(hc0:0≤c0∧c0≤9)(hex:RX S dex w.heap ve ex)(henv:RN S (AX (AX rI)) w.heap vv env)(hqenv:C8 vv)(hvp:HE p)(hF:F≤p.length)(hwf:wf p (F:Int) ex (env.length:Int)=true)(hse:C0 (o+1) env)(hdp:env.length+ex.deep≤1000000)(IH1:∀F',F'<F→∀d,PV F' d)(IH2:∀d',d'<dex→PV F d') :
  Calls Tryz.prog 241 #[zP g,(.agg #[(zI ex.kind),(zI ex.num),(zI ex.pick),(zI ex.count),ve]),vv] w (fun e w'=>∃(v:Value) (x:Sr) (s1:Nat) (c1:Int),e=.returned v∧As [g] w w'∧BX w'.heap g [vp,zI (o:Int),zI (s1:Int),zI c1]∧RN S (AX rI) w'.heap v x∧Cb (o+1) x∧s1≤3000∧(0≤c1∧c1≤9)∧AH (go c0 (Cf (o+1) (E4 p (o+1) F) ex env s0)) x s1 c1):=by
 refine Ap [zP g,.agg #[zI ex.kind,zI ex.num,zI ex.pick,zI ex.count,ve],vv] 210 Tryz.func241 Z Z sM ?_
 have jm:As [g] w w:=As.refl [g] w
 have fa:=hp.lenle
 unfold maxLen at fa
 have fb:=hex.rn.lenle
 unfold maxLen at fb
 have fc:=henv.lenL
 unfold maxLen at fc
 have nc:=hB0.lt
 have hdk:=DC ex
 refine aH [3,0] Z ?_
 have mg:=hB0.lt
 refine Bu (cs:=#[zI ex.kind,zI ex.num,zI ex.pick,zI ex.count,ve]) Z Aa fun w1 gw lm gx=>?_
 have i3:=gw.size
 have dn:As [g] w w1:=jm.ext gw
 have ab:=hB0.ext gw
 replace gx:BX w1.heap w.heap.size [zI ex.kind,zI ex.num,zI ex.pick,zI ex.count,ve]:=gx
 refine Ac 1 Z<|A0<|aH [0,0,0,2,0] Z<|Ad 1 Z<|AT Z Aa<|Ak (p:=zP g) 3 Gv Z Z Aa<|Ah (p:=Ao (zP g) 3) (.inr Z) (zI c0) AC Z (ab.ldp (i:=3) sM) Aa ?_
 by_cases jn:c0≠((0:Nat):Int)
 ·refine B3 true Z Z (A5 jn) Aa<|Aj<|Ag Z<|aH [0,3,0] Z<|Ad 1 Z<|Au 273 [] [] [zP g,zI ((0:Nat):Int)] Z Z NP Aa (BD _ S g vp dp (o) (s0) (c0) (p) _ (fun b hb=>(by have:=hS b hb;omega:b<w1.heap.size)) hgS ab (hp.chg (An<|Ay dp)<|dn.sub<|AS hgS) oM oM oM oM) ?_
  rintro e4 w4 ⟨dq,rfl,gy,dr⟩
  refine⟨_,rfl,gy,?_⟩
  have ln:=gy.size
  have lo:As [g] w w4:=dn.ext gy
  have ds:=ab.ext gy
  refine Ac 1 Z<|A1<|Am ?_
  exact Af [6] Z dq Z ⟨dq,cst (o+1) ((0:Nat):Int),s0,c0,rfl,lo,ds,RN.of_fr1 dr fun b hb=>zH<|hS b hb,Dc,oM,oM,Ot⟩
 refine B3 false Z Z (A6 jn) Aa<|Aj<|Ai Z<|A2<|A0<|aH [0,0,0,2,0] Z<|Ad 1 Z<|AT Z Aa<|Ak (p:=zP g) 2 Kn Z Z Aa<|Ah (p:=Ao (zP g) 2) (.inr Z) (zI (s0:Int)) AC Z (ab.ldp (i:=2) sM) Aa ?_
 by_cases jo:(s0:Int)=((3000:Nat):Int)
 ·refine Al true Z Z (A5 jo) Aa<|Aj<|Ag Z<|aH [0,0,0,4] Z<|Ad 1 Z<|AT Z Aa<|Ak (p:=zP g) 3 Gv Z Z Aa (Bl (k:=3) (w:=w1) GH Z Z ⟨rfl,rfl⟩ ab sM Aa fun w6 i4 mh gz=>?_)
  replace gz:BX w6.heap g [vp,zI (o:Int),zI (s0:Int),zI ((7:Nat):Int)]:=gz
  have jp:As [g] w w6:=dn.trans i4
  have lp:=i4.size
  have lq:=gx.chg i4 (zB ·)
  refine Aj<|aH [0,3,0] Z<|Ad 1 Z<|Au 273 [] [] [zP g,zI ((0:Nat):Int)] Z Z NP Aa (BD _ S g vp dp (o) (s0) ((7:Nat):Int) (p) _ (fun b hb=>(by have:=hS b hb;omega:b<w6.heap.size)) hgS gz (hp.chg (An<|Ay dp)<|jp.sub<|AS hgS) oM oM oM oM) ?_
  rintro e8 w8 ⟨dt,rfl,du,dv⟩
  refine⟨_,rfl,du,?_⟩
  have lr:=du.size
  have ls:As [g] w w8:=jp.ext du
  have dw:=gz.ext du
  have jq:=lq.ext du
  refine Ac 1 Z<|A1<|Am ?_
  exact Af [6] Z dt Z ⟨dt,cst (o+1) ((0:Nat):Int),s0,((7:Nat):Int),rfl,ls,dw,RN.of_fr1 dv fun b hb=>zH<|hS b hb,Dc,oM,oM,(by first|exact Dm oM|exact Cw oM oM|exact Ec hc00 hs1 oM|exact Ed hc00 hs1 oM|exact Ee hc00 hs1 oM oM ‹AH (go c0<|Cf _ _ (ex.kids.getD 0 _) _ _) _ _ _› oM (by assumption)|exact Ef hc00 hs1 oM oM ‹AH (go c0<|Cf _ _ (ex.kids.getD 0 _) _ _) _ _ _› oM (by assumption)|exact Eg hc00 hs1 oM oM ‹AH (go c0<|Cf _ _ (ex.kids.getD 0 _) _ _) _ _ _› (by assumption)|exact CV hc00 hs1 hkg.1 hkg.2.1 hkg.2.2.1 hkg.2.2.2 hKr oM|exact DN hc00 hs1 oM oM hKr oM (by assumption)|exact DO hc00 hs1 oM oM hKr oM (DP hrl9 oM oM)|exact Ba hc00 hs1 hkg.1 hkg.2.1 hkg.2.2.1 hkg.2.2.2 oM oM hKr oM (by rw[show((7:Nat):Int)=0 from by omega];exact FC oM)|exact Ba hc00 hs1 hkg.1 hkg.2.1 hkg.2.2.1 hkg.2.2.2 oM oM hKr oM (by rw[show((7:Nat):Int)=0 from by omega];exact FD oM)|exact Ba hc00 hs1 hkg.1 hkg.2.1 hkg.2.2.1 hkg.2.2.2 oM oM hKr oM (by rw[show((7:Nat):Int)=0 from by omega];exact FE oM)|exact Ba hc00 hs1 hkg.1 hkg.2.1 hkg.2.2.1 hkg.2.2.2 oM oM hKr oM (by rw[show((7:Nat):Int)=0 from by omega];exact FF oM)|exact Ba hc00 hs1 hkg.1 hkg.2.1 hkg.2.2.1 hkg.2.2.2 oM oM hKr oM (by rw[show((7:Nat):Int)=0 from by omega];exact FG oM oM)|exact Ba hc00 hs1 hkg.1 hkg.2.1 hkg.2.2.1 hkg.2.2.2 oM oM hKr oM (Eh oM oM))⟩
 refine Al false Z Z (A6 jo) Aa<|Aj<|Ai Z<|A2<|aH [0,0,0,2,0,0,0,4] Z<|Ad 1 Z<|AT Z Aa<|Ak (p:=zP g) 2 Kn Z Z Aa<|Ah (p:=Ao (zP g) 2) (.inr Z) (zI (s0:Int)) AC Z (ab.ldp (i:=2) sM) Aa<|AN ((s0+1:Nat):Int) Z Z (Be oM oM) Aa<|AT Z Aa<|Ak (p:=zP g) 2 Kn Z Z Aa (Bl (k:=2) (w:=w1) GH Z Z ⟨rfl,rfl⟩ ab sM Aa fun w9 i0 lu c2=>?_)
 replace c2:BX w9.heap g [vp,zI (o:Int),zI ((s0+1:Nat):Int),zI c0]:=c2
 have ae:As [g] w w9:=dn.trans i0
 have i5:=i0.size
 have a9:=gx.chg i0 (zB ·)
 refine Aj<|A0<|aH [0,2] Z ?_
 have hc00:c0=0:=by omega
 have hs1:s0+1≤3000:=by omega
 refine Ak (p:=zP w.heap.size) 0 Bg Z Z Aa<|Ah (p:=Ao (zP w.heap.size) 0) (.inr Z) (zI ex.kind) AC Z (a9.ldp (i:=0) sM) Aa<|Aj<|A3<|aH [0,0] Z ?_
 by_cases dx:ex.kind=((1:Nat):Int)
 ·refine Al true Z Z (A5 dx) Aa<|Ac 1 Z<|Ag Z<|aH [0,0,2,3,0] Z ?_
  have hwk:=O4 hwf oM
  refine Ad 1 Z<|Ak (p:=zP w.heap.size) 1 BE Z Z Aa<|Ah (p:=Ao (zP w.heap.size) 1) (.inr Z) (zI ex.num) AC Z (a9.ldp (i:=1) sM) Aa<|Au 273 [] [] [zP g,zI ex.num] Z Z NP Aa (BD _ S g vp dp (o) (s0+1) (c0) (p) _ (fun b hb=>(by have:=hS b hb;omega:b<w9.heap.size)) hgS c2 (hp.chg (An<|Ay dp)<|ae.sub<|AS hgS) oM oM oM hex.rng.num) ?_
  rintro nd fz ⟨c3,rfl,ax,cm⟩
  refine⟨_,rfl,ax,?_⟩
  have jr:=ax.size
  have i6:As [g] w fz:=ae.ext ax
  have cn:=c2.ext ax
  have i1:=a9.ext ax
  refine Ac 1 Z<|A1<|AF<|Am ?_
  exact Af [6] Z c3 Z ⟨c3,cst (o+1) ex.num,s0+1,c0,rfl,i6,cn,RN.of_fr1 cm fun b hb=>zH<|hS b hb,Dc,oM,oM,Ot⟩
 refine Al false Z Z (A6 dx) Aa<|Ac 1 Z<|Ai Z<|aH [0,0] Z ?_
 by_cases dy:ex.kind=((2:Nat):Int)
 ·refine Al true Z Z (A5 dy) Aa<|Ac 1 Z<|Ag Z<|aH [0,0,2,0,2,0] Z ?_
  have hwk:=O5 hwf oM
  refine Ad 1 Z<|Ak (p:=zP w.heap.size) 1 BE Z Z Aa<|Ah (p:=Ao (zP w.heap.size) 1) (.inr Z) (zI ex.num) AC Z (a9.ldp (i:=1) sM) Aa<|Az (v:=vv) ((ex.num).toNat) BH B9 Z Z henv.slL oM sD Aa ?_
  obtain⟨co,i7,dz⟩:=RN.getL (w:=w) g1 [] (k:=(ex.num).toNat) henv sD
  have e0:=dz.lenL
  unfold maxLen at e0
  refine Ah (p:=Ax vv ((ex.num).toNat) 1) (.inr Z) co Bk Z (i7 _<|ae.sub<|AS hgS) Aa<|Ac 1 Z<|A1<|AF<|Am ?_
  exact Af [6] Z co Z ⟨co,env.getD ((ex.num).toNat) [],s0+1,c0,rfl,ae,c2,dz.chg g1<|ae.sub<|AS hgS,Dc,oM,oM,Ot⟩
 refine Al false Z Z (A6 dy) Aa<|Ac 1 Z<|Ai Z<|aH [0,0] Z ?_
 by_cases e1:ex.kind=((8:Nat):Int)
 ·refine Al true Z Z (A5 e1) Aa<|Ac 1 Z<|Ag Z<|A0<|aH [0,0,2,0,2,0,4,0,2,0] Z ?_
  have hwk:=QX hwf oM
  refine Ad 1 Z<|Ak (p:=zP w.heap.size) 4 B8 Z Z Aa<|Ah (p:=Ao (zP w.heap.size) 4) (.inr Z) ve Bf Z (a9.ldp (i:=4) sM) Aa<|Az (v:=ve) 0 CZ Bm Z Z hex.rn.isSl Z sD Aa ?_
  obtain⟨cs16,i8,i9⟩:=hex.rn.get (Aw dex) Ex.zero (k:=0) sD
  obtain⟨dd16,cp,lv,rfl,cq⟩:=RX.of i8
  have e2:=cq.rn.lenle
  unfold maxLen at e2
  refine AL (p:=Ax ve 0 5) (.inr Z) [zI<|(ex.kids.getD 0 Ex.zero).kind,zI<|(ex.kids.getD 0 Ex.zero).num,zI<|(ex.kids.getD 0 Ex.zero).pick,zI<|(ex.kids.getD 0 Ex.zero).count,cp] B6 Z (fun f4 cr=>i9 f4<|(ae.sub<|AS hgS).ext cr) Z Aa<|Ad 1 Z ?_
  refine AB 241 [] [] [zP g,.agg #[zI<|(ex.kids.getD 0 Ex.zero).kind,zI<|(ex.kids.getD 0 Ex.zero).num,zI<|(ex.kids.getD 0 Ex.zero).pick,zI<|(ex.kids.getD 0 Ex.zero).count,cp],vv] Z Z KT Aa (IH2 dd16 oM _ S g vp dp (o) (s0+1) (c0) (p) cp (ex.kids.getD 0 Ex.zero) vv (env) (fun b hb=>(by have:=hS b hb;omega:b<w9.heap.size)) hgS c2 (hp.chg (An<|Ay dp)<|ae.sub<|AS hgS) oM oM oM ⟨cq.rng,cq.rn.chg (An<|Aw dd16)<|ae.sub<|AS hgS⟩ (henv.chg g2<|ae.sub<|AS hgS) hqenv hvp oM (by exact Dz hwf oM oM) hse (zH<|D7 (l:=ex.kids) (k:=0) oM)) ?_
  rintro nf fd ⟨fo,fp,fq,fr,rfl,ct,e3,bn,e5,js,jt,ju⟩
  refine⟨_,rfl,?_⟩
  have jv:=ct.size
  have af:As [g] w fd:=ae.trans ct
  have bo:=a9.chg ct (zB ·)
  have jw:=e5.1
  refine Az (v:=fo) 0 Bj Bz Z Z bn.slL Z sD Aa ?_
  have ia:=RN.getI (w:=fd) (k:=0) bn sD
  refine Ah (p:=Ax fo 0 1) (.inr Z) (zI<|fp.getD 0 0) AC Z (ia.1 _<|As.refl _ _) Aa ?_
  by_cases e6:fp.getD 0 0=((0:Nat):Int)
  ·refine Al true Z Z (A5 e6) Aa<|Aj<|Ag Z<|aH [0,0,2,0,2,0,4,0] Z<|Ad 1 Z<|Ak (p:=zP w.heap.size) 4 B8 Z Z Aa<|Ah (p:=Ao (zP w.heap.size) 4) (.inr Z) ve Bf Z (bo.ldp (i:=4) sM) Aa<|Az (v:=ve) 1 CZ Bm Z Z hex.rn.isSl Z sD Aa ?_
   obtain⟨cs25,ib,ic⟩:=hex.rn.get (Aw dex) Ex.zero (k:=1) sD
   obtain⟨dd25,cu,lw,rfl,cv⟩:=RX.of ib
   have e7:=cv.rn.lenle
   unfold maxLen at e7
   refine AL (p:=Ax ve 1 5) (.inr Z) [zI<|(ex.kids.getD 1 Ex.zero).kind,zI<|(ex.kids.getD 1 Ex.zero).num,zI<|(ex.kids.getD 1 Ex.zero).pick,zI<|(ex.kids.getD 1 Ex.zero).count,cu] B6 Z (fun f4 cr=>ic f4<|(af.sub<|AS hgS).ext cr) Z Aa<|Ad 1 Z ?_
   refine AB 241 [] [] [zP g,.agg #[zI<|(ex.kids.getD 1 Ex.zero).kind,zI<|(ex.kids.getD 1 Ex.zero).num,zI<|(ex.kids.getD 1 Ex.zero).pick,zI<|(ex.kids.getD 1 Ex.zero).count,cu],vv] Z Z KT Aa (IH2 dd25 oM _ S g vp dp (o) (fq) (fr) (p) cu (ex.kids.getD 1 Ex.zero) vv (env) (fun b hb=>(by have:=hS b hb;omega:b<fd.heap.size)) hgS e3 (hp.chg (An<|Ay dp)<|af.sub<|AS hgS) oM oM oM ⟨cv.rng,cv.rn.chg (An<|Aw dd25)<|af.sub<|AS hgS⟩ (henv.chg g2<|af.sub<|AS hgS) hqenv hvp oM (by exact Dz hwf oM oM) hse (zH<|D7 (l:=ex.kids) (k:=1) oM)) ?_
   rintro ng mj ⟨fs,ml,mm,f6,rfl,bp,id,ie,e9,jx,jy,jz⟩
   refine⟨_,rfl,?_⟩
   have k0:=bp.size
   have ig:As [g] w mj:=af.trans bp
   have lx:=bo.chg bp (zB ·)
   have ly:=bn.run g1 hgS bp
   have k1:=e9.1
   refine Ac 1 Z<|A1<|Am<|AF<|Am ?_
   exact Af [6] Z fs Z ⟨fs,ml,mm,f6,rfl,ig,id,ie,Dc,oM,oM,(by first|exact Dm oM|exact Cw oM oM|exact Ec hc00 hs1 oM|exact Ed hc00 hs1 oM|exact Ee hc00 hs1 oM oM ‹AH (go c0<|Cf _ _ (ex.kids.getD 0 _) _ _) _ _ _› oM (by assumption)|exact Ef hc00 hs1 oM oM ‹AH (go c0<|Cf _ _ (ex.kids.getD 0 _) _ _) _ _ _› oM (by assumption)|exact Eg hc00 hs1 oM oM ‹AH (go c0<|Cf _ _ (ex.kids.getD 0 _) _ _) _ _ _› (by assumption)|exact CV hc00 hs1 hkg.1 hkg.2.1 hkg.2.2.1 hkg.2.2.2 hKr oM|exact DN hc00 hs1 oM oM hKr oM (by assumption)|exact DO hc00 hs1 oM oM hKr oM (DP hrl9 oM oM)|exact Ba hc00 hs1 hkg.1 hkg.2.1 hkg.2.2.1 hkg.2.2.2 oM oM hKr oM (by rw[show f6=0 from by omega];exact FC oM)|exact Ba hc00 hs1 hkg.1 hkg.2.1 hkg.2.2.1 hkg.2.2.2 oM oM hKr oM (by rw[show f6=0 from by omega];exact FD oM)|exact Ba hc00 hs1 hkg.1 hkg.2.1 hkg.2.2.1 hkg.2.2.2 oM oM hKr oM (by rw[show f6=0 from by omega];exact FE oM)|exact Ba hc00 hs1 hkg.1 hkg.2.1 hkg.2.2.1 hkg.2.2.2 oM oM hKr oM (by rw[show f6=0 from by omega];exact FF oM)|exact Ba hc00 hs1 hkg.1 hkg.2.1 hkg.2.2.1 hkg.2.2.2 oM oM hKr oM (by rw[show f6=0 from by omega];exact FG oM oM)|exact Ba hc00 hs1 hkg.1 hkg.2.1 hkg.2.2.1 hkg.2.2.2 oM oM hKr oM (Eh oM oM))⟩
  refine Al false Z Z (A6 e6) Aa<|Aj<|Ai Z<|A2<|aH [0,0,2,0,2,0,4,0] Z<|Ad 1 Z<|Ak (p:=zP w.heap.size) 4 B8 Z Z Aa<|Ah (p:=Ao (zP w.heap.size) 4) (.inr Z) ve Bf Z (bo.ldp (i:=4) sM) Aa<|Az (v:=ve) 2 CZ Bm Z Z hex.rn.isSl Z sD Aa ?_
  obtain⟨cs34,ih,ii⟩:=hex.rn.get (Aw dex) Ex.zero (k:=2) sD
  obtain⟨dd34,cw,lz,rfl,cx⟩:=RX.of ih
  have ea:=cx.rn.lenle
  unfold maxLen at ea
  refine AL (p:=Ax ve 2 5) (.inr Z) [zI<|(ex.kids.getD 2 Ex.zero).kind,zI<|(ex.kids.getD 2 Ex.zero).num,zI<|(ex.kids.getD 2 Ex.zero).pick,zI<|(ex.kids.getD 2 Ex.zero).count,cw] B6 Z (fun f4 cr=>ii f4<|(af.sub<|AS hgS).ext cr) Z Aa<|Ad 1 Z ?_
  refine AB 241 [] [] [zP g,.agg #[zI<|(ex.kids.getD 2 Ex.zero).kind,zI<|(ex.kids.getD 2 Ex.zero).num,zI<|(ex.kids.getD 2 Ex.zero).pick,zI<|(ex.kids.getD 2 Ex.zero).count,cw],vv] Z Z KT Aa (IH2 dd34 oM _ S g vp dp (o) (fq) (fr) (p) cw (ex.kids.getD 2 Ex.zero) vv (env) (fun b hb=>(by have:=hS b hb;omega:b<fd.heap.size)) hgS e3 (hp.chg (An<|Ay dp)<|af.sub<|AS hgS) oM oM oM ⟨cx.rng,cx.rn.chg (An<|Aw dd34)<|af.sub<|AS hgS⟩ (henv.chg g2<|af.sub<|AS hgS) hqenv hvp oM (by exact Dz hwf oM oM) hse (zH<|D7 (l:=ex.kids) (k:=2) oM)) ?_
  rintro nh mn ⟨ft,mo,mp,f7,rfl,bq,ij,ik,eb,k2,k3,k4⟩
  refine⟨_,rfl,?_⟩
  have k5:=bq.size
  have il:As [g] w mn:=af.trans bq
  have m0:=bo.chg bq (zB ·)
  have m1:=bn.run g1 hgS bq
  have k6:=eb.1
  refine Ac 1 Z<|A1<|AF<|Am ?_
  exact Af [6] Z ft Z ⟨ft,mo,mp,f7,rfl,il,ij,ik,Dc,oM,oM,(by first|exact Dm oM|exact Cw oM oM|exact Ec hc00 hs1 oM|exact Ed hc00 hs1 oM|exact Ee hc00 hs1 oM oM ‹AH (go c0<|Cf _ _ (ex.kids.getD 0 _) _ _) _ _ _› oM (by assumption)|exact Ef hc00 hs1 oM oM ‹AH (go c0<|Cf _ _ (ex.kids.getD 0 _) _ _) _ _ _› oM (by assumption)|exact Eg hc00 hs1 oM oM ‹AH (go c0<|Cf _ _ (ex.kids.getD 0 _) _ _) _ _ _› (by assumption)|exact CV hc00 hs1 hkg.1 hkg.2.1 hkg.2.2.1 hkg.2.2.2 hKr oM|exact DN hc00 hs1 oM oM hKr oM (by assumption)|exact DO hc00 hs1 oM oM hKr oM (DP hrl9 oM oM)|exact Ba hc00 hs1 hkg.1 hkg.2.1 hkg.2.2.1 hkg.2.2.2 oM oM hKr oM (by rw[show f7=0 from by omega];exact FC oM)|exact Ba hc00 hs1 hkg.1 hkg.2.1 hkg.2.2.1 hkg.2.2.2 oM oM hKr oM (by rw[show f7=0 from by omega];exact FD oM)|exact Ba hc00 hs1 hkg.1 hkg.2.1 hkg.2.2.1 hkg.2.2.2 oM oM hKr oM (by rw[show f7=0 from by omega];exact FE oM)|exact Ba hc00 hs1 hkg.1 hkg.2.1 hkg.2.2.1 hkg.2.2.2 oM oM hKr oM (by rw[show f7=0 from by omega];exact FF oM)|exact Ba hc00 hs1 hkg.1 hkg.2.1 hkg.2.2.1 hkg.2.2.2 oM oM hKr oM (by rw[show f7=0 from by omega];exact FG oM oM)|exact Ba hc00 hs1 hkg.1 hkg.2.1 hkg.2.2.1 hkg.2.2.2 oM oM hKr oM (Eh oM oM))⟩
 refine Al false Z Z (A6 e1) Aa<|Ac 1 Z<|Ai Z<|aH [0,0] Z ?_
 by_cases ec:ex.kind=((9:Nat):Int)
 ·refine Al true Z Z (A5 ec) Aa<|Ac 1 Z<|Ag Z<|A0 ?_
  letI:JR:=QB [g]
  refine Jx.AQ _ [0,0,1,0,1,0,0,0,0,1,0,1,0,3,3,3,3,0] mixed (by kernel_rfl) ?_
  have hwk:=O6 hwf oM
  refine Jx.V0 (zP g) Z Aa<|Jx.Ak (p:=zP w.heap.size) 4 B8 Z Z Aa<|Jx.Z5 (p:=Ao (zP w.heap.size) 4) ve Bf Z (fun wj hj=>(BX.chg (w:=w9.drew) (F:=[g]) a9 hj (zB ·)).ldp (i:=4) sM) Aa<|Jx.Az (v:=ve) 1 CZ Bm Z Z hex.rn.isSl Z sD Aa ?_
  obtain⟨cs44,im,io⟩:=hex.rn.get (Aw dex) Ex.zero (k:=1) sD
  obtain⟨dd44,cy,m2,rfl,cz⟩:=RX.of im
  have ed:=cz.rn.lenle
  unfold maxLen at ed
  refine Jx.Xm (p:=Ax ve 1 5) [zI<|(ex.kids.getD 1 Ex.zero).kind,zI<|(ex.kids.getD 1 Ex.zero).num,zI<|(ex.kids.getD 1 Ex.zero).pick,zI<|(ex.kids.getD 1 Ex.zero).count,cy] B6 Z (fun wj hj=>io wj<|As.trans (ae.drew.sub<|AS hgS)<|As.sub (show As [g] w9.drew wj from hj)<|AS hgS) Z Aa<|Jx.V0 vv Z Aa<|Jx.AA 274 [] [] [vv] Z Z YF Aa (DD vv) (fun wq=>DT wq vv _ henv.slL hqenv)<|Jx.V0 (zP g) Z Aa<|Jx.Ak (p:=zP w.heap.size) 4 B8 Z Z Aa ?_
  refine Jx.Z5 (p:=Ao (zP w.heap.size) 4) ve Bf Z (fun wj hj=>(BX.chg (w:=w9.drew) (F:=[g]) a9 hj (zB ·)).ldp (i:=4) sM) Aa<|Jx.Az (v:=ve) 0 CZ Bm Z Z hex.rn.isSl Z sD Aa ?_
  obtain⟨cs45,ip,iq⟩:=hex.rn.get (Aw dex) Ex.zero (k:=0) sD
  obtain⟨dd45,d0,m3,rfl,d1⟩:=RX.of ip
  have ee:=d1.rn.lenle
  unfold maxLen at ee
  refine Jx.Xm (p:=Ax ve 0 5) [zI<|(ex.kids.getD 0 Ex.zero).kind,zI<|(ex.kids.getD 0 Ex.zero).num,zI<|(ex.kids.getD 0 Ex.zero).pick,zI<|(ex.kids.getD 0 Ex.zero).count,d0] B6 Z (fun wj hj=>iq wj<|As.trans (ae.drew.sub<|AS hgS)<|As.sub (show As [g] w9.drew wj from hj)<|AS hgS) Z Aa<|Jx.V0 vv Z Aa ?_
  refine Jx.Au 241 [] [] [zP g,.agg #[zI<|(ex.kids.getD 0 Ex.zero).kind,zI<|(ex.kids.getD 0 Ex.zero).num,zI<|(ex.kids.getD 0 Ex.zero).pick,zI<|(ex.kids.getD 0 Ex.zero).count,d0],vv] Z Z KT Aa (IH2 dd45 oM _ S g vp dp (o) (s0+1) (c0) (p) d0 (ex.kids.getD 0 Ex.zero) vv (env) (fun b hb=>(by have:=hS b hb;omega:b<w9.heap.size)) hgS c2 (hp.chg (An<|Ay dp)<|ae.drew.sub<|AS hgS) oM oM oM ⟨d1.rng,d1.rn.chg (An<|Aw dd45)<|ae.drew.sub<|AS hgS⟩ (henv.chg g2<|ae.drew.sub<|AS hgS) hqenv hvp oM (by exact Dz hwf oM oM) hse (zH<|D7 (l:=ex.kids) (k:=0) oM)) ?_
  rintro ni fe ⟨fu,mq,mr,ms,rfl,ap,ir,ef,eg,k7,k8,k9⟩
  refine⟨_,rfl,ap,?_⟩
  replace ap:=ap.of_drew
  have ka:=ap.size
  have is:As [g] w fe:=ae.trans ap
  have it:=a9.chg ap (zB ·)
  have kb:=eg.1
  refine Jx.BI (u:=fu) (B:=fe.heap.size) Bs BH B9 Z Z (NS fe.heap.size fe.heap.size _<|ef.one1 g1) (A7 _) Aa fun mt fv ay m4 iu=>?_
  have kc:=ay.size
  have eh:As [g] w fv:=is.ext ay
  have br:=ir.ext ay
  have bs:=it.ext ay
  have ei:=ef.ext g1 ay
  refine Jx.V7 (v:=vv) (a:=mt) (u:=fu) BH B9 Z Z Z (henv.chg g2<|eh.sub<|AS hgS) iu ei (fun b hb=>(by have:=hS b hb;omega:b<fv.heap.size)) sD (by unfold maxLen;first|omega|assumption|(simp;done)|(simp;omega)) Aa fun fw fx az ej ek=>?_
  have kd:=az.size
  have d2:As [g] w fx:=eh.ext az
  have bt:=br.ext az
  have bu:=bs.ext az
  have iv:=ei.ext g1 az
  refine Jx.Au 241 [] [] [zP g,.agg #[zI<|(ex.kids.getD 1 Ex.zero).kind,zI<|(ex.kids.getD 1 Ex.zero).num,zI<|(ex.kids.getD 1 Ex.zero).pick,zI<|(ex.kids.getD 1 Ex.zero).count,cy],fw] Z Z KT Aa (IH2 dd44 oM _ S g vp dp (o) (mr) (ms) (p) cy (ex.kids.getD 1 Ex.zero) fw (env++[mq]) (fun b hb=>(by have:=hS b hb;omega:b<fx.heap.size)) hgS bt (hp.chg (An<|Ay dp)<|d2.sub<|AS hgS) oM oM oM ⟨cz.rng,cz.rn.chg (An<|Aw dd44)<|d2.sub<|AS hgS⟩ ej ek hvp oM (by have h9:=Je hwf oM oM;rw[z4,zd];exact h9) (by exact hse.snoc (by assumption)) (by have:=D7 (l:=ex.kids) (k:=1) oM;rw[z4,zd];omega)) ?_
  rintro nj mu ⟨fg,mv,mw,f8,rfl,aq,iw,ix,el,ke,kf,kg⟩
  refine⟨_,rfl,aq,?_⟩
  have kh:=aq.size
  have iy:As [g] w mu:=d2.trans aq
  have m5:=bu.chg aq (zB ·)
  have m6:=iv.run g1 hgS aq
  have m7:=ej.run g2 hgS aq
  have ki:=el.1
  refine Jx.Qq fg Z Aa<|Jx.Aj<|A1<|AF<|Am ?_
  exact Af [6] Z fg Z ⟨fg,mv,mw,f8,rfl,iy,iw,ix,Dc,oM,oM,(by first|exact Dm oM|exact Cw oM oM|exact Ec hc00 hs1 oM|exact Ed hc00 hs1 oM|exact Ee hc00 hs1 oM oM ‹AH (go c0<|Cf _ _ (ex.kids.getD 0 _) _ _) _ _ _› oM (by assumption)|exact Ef hc00 hs1 oM oM ‹AH (go c0<|Cf _ _ (ex.kids.getD 0 _) _ _) _ _ _› oM (by assumption)|exact Eg hc00 hs1 oM oM ‹AH (go c0<|Cf _ _ (ex.kids.getD 0 _) _ _) _ _ _› (by assumption)|exact CV hc00 hs1 hkg.1 hkg.2.1 hkg.2.2.1 hkg.2.2.2 hKr oM|exact DN hc00 hs1 oM oM hKr oM (by assumption)|exact DO hc00 hs1 oM oM hKr oM (DP hrl9 oM oM)|exact Ba hc00 hs1 hkg.1 hkg.2.1 hkg.2.2.1 hkg.2.2.2 oM oM hKr oM (by rw[show f8=0 from by omega];exact FC oM)|exact Ba hc00 hs1 hkg.1 hkg.2.1 hkg.2.2.1 hkg.2.2.2 oM oM hKr oM (by rw[show f8=0 from by omega];exact FD oM)|exact Ba hc00 hs1 hkg.1 hkg.2.1 hkg.2.2.1 hkg.2.2.2 oM oM hKr oM (by rw[show f8=0 from by omega];exact FE oM)|exact Ba hc00 hs1 hkg.1 hkg.2.1 hkg.2.2.1 hkg.2.2.2 oM oM hKr oM (by rw[show f8=0 from by omega];exact FF oM)|exact Ba hc00 hs1 hkg.1 hkg.2.1 hkg.2.2.1 hkg.2.2.2 oM oM hKr oM (by rw[show f8=0 from by omega];exact FG oM oM)|exact Ba hc00 hs1 hkg.1 hkg.2.1 hkg.2.2.1 hkg.2.2.2 oM oM hKr oM (Eh oM oM))⟩
 refine Al false Z Z (A6 ec) Aa<|Ac 1 Z<|Ai Z<|A2<|aH [0,0,2,0,4,0] Z ?_
 have hkg:ex.kind≠1∧ex.kind≠2∧ex.kind≠8∧ex.kind≠9:=by omega
 have mi:=QY hwf hvp hF
 refine Ad 1 Z<|Ak (p:=zP w.heap.size) 4 B8 Z Z Aa<|Ah (p:=Ao (zP w.heap.size) 4) (.inr Z) ve Bf Z (a9.ldp (i:=4) sM) Aa<|Ad 1 Z ?_
 refine AB 210 [] [] [zP g,ve,vv] Z Z Sm Aa (Sw F dex (fun d9 h9=>IH2 d9 oM) _ S g vp dp (o) (s0+1) (c0) (p) ve (ex.kids) vv (env) (fun b hb=>(by have:=hS b hb;omega:b<w9.heap.size)) hgS c2 (hp.chg (An<|Ay dp)<|ae.sub<|AS hgS) oM oM oM (hex.rn.chg (An<|Aw dex)<|ae.sub<|AS hgS) (henv.chg g2<|ae.sub<|AS hgS) hqenv hvp oM (by intro k hk;exact Dz hwf hk oM) hse (by intro k hk;have:=D7 (l:=ex.kids) (k:=k) hk;omega) oM) ?_
 rintro nk f1 ⟨f0,f2,f3,c66,rfl,bv,aa,a0,ak,kj,kk,em⟩
 refine⟨_,rfl,?_⟩
 have en:=bv.size
 have a2:As [g] w f1:=ae.trans bv
 have a6:=a9.chg bv (zB ·)
 have kl:=ak.2.1
 have km:=ak.2.2
 have kn:=ak.1
 have hK:=ak.2.2
 have hKr:=em
 refine Ac 1 Z<|A0<|aH [0,0,0,2,0] Z<|Ad 1 Z<|AT Z Aa<|Ak (p:=zP g) 3 Gv Z Z Aa<|Ah (p:=Ao (zP g) 3) (.inr Z) (zI c66) AC Z (aa.ldp (i:=3) sM) Aa ?_
 by_cases eo:c66≠((0:Nat):Int)
 ·refine B3 true Z Z (A5 eo) Aa<|Aj<|Ag Z<|aH [0,3,0] Z<|Ad 1 Z<|Au 273 [] [] [zP g,zI ((0:Nat):Int)] Z Z NP Aa (BD _ S g vp dp (o) (f3) (c66) (p) _ (fun b hb=>(by have:=hS b hb;omega:b<f1.heap.size)) hgS aa (hp.chg (An<|Ay dp)<|a2.sub<|AS hgS) oM oM oM oM) ?_
  rintro nl mx ⟨c4,rfl,ar,d3⟩
  refine⟨_,rfl,ar,?_⟩
  have ko:=ar.size
  have iz:As [g] w mx:=a2.ext ar
  have bw:=aa.ext ar
  have i2:=a6.ext ar
  have m8:=a0.ext g2 ar
  refine Ac 1 Z<|A1<|Am ?_
  exact Af [6] Z c4 Z ⟨c4,cst (o+1) ((0:Nat):Int),f3,c66,rfl,iz,bw,RN.of_fr1 d3 fun b hb=>zH<|hS b hb,Dc,oM,oM,Jt⟩
 refine B3 false Z Z (A6 eo) Aa<|Aj<|Ai Z<|A2<|A0<|aH [0,2] Z<|Ak (p:=zP w.heap.size) 0 Bg Z Z Aa<|Ah (p:=Ao (zP w.heap.size) 0) (.inr Z) (zI ex.kind) AC Z (a6.ldp (i:=0) sM) Aa<|Aj<|A3<|aH [0,0] Z ?_
 by_cases ep:ex.kind=((10:Nat):Int)
 ·refine Al true Z Z (A5 ep) Aa<|Ac 1 Z<|Ag Z<|A0<|AQ _ [0,0,0,0,0,1,0,1,0,0,1,0,1,0,1,0,4,0] mixed (by kernel_rfl) ?_
  have hwk:=Ht hwf oM
  refine Ad 2 Z ?_
  have hvo:=hvp.outs (ex.num).toNat oM
  have hvd:=hvp.deep (ex.num).toNat oM (ex.pick).toNat oM
  refine AT Z Aa<|Ak (p:=zP g) 0 PL Z Z Aa<|Ak (p:=Ao (zP g) 0) (b:=g) (o:=0) 0 BC Z Z Aa<|Ah (p:=Ao (Ao (zP g) 0) 0) (.inl Z) vp C2 Z (aa.ldp (i:=0) sM) Aa<|Ak (p:=zP w.heap.size) 1 BE Z Z Aa<|Ah (p:=Ao (zP w.heap.size) 1) (.inl Z) (zI ex.num) AC Z (a6.ldp (i:=1) sM) Aa ?_
  refine Az (v:=vp) ((ex.num).toNat) GI Cy Z Z hp.isSl oM sD Aa ?_
  obtain⟨cs75,j0,eq⟩:=hp.get (Ay dp) Fn.zero (k:=(ex.num).toNat) sD
  obtain⟨d4,rfl,d5⟩:=RF.of j0
  have er:=d5.rn.lenle
  unfold maxLen at er
  refine AI (p:=Ax vp ((ex.num).toNat) 3) 2 BV Z (eq _<|a2.drew.sub<|AS hgS) Aa<|Ah (p:=Ao (Ax vp ((ex.num).toNat) 3) 2) (.inl Z) d4 Bf Z ((eq _<|a2.drew.sub<|AS hgS).ld (i:=2) (by simp[EP,EQ])) Aa<|Ak (p:=zP w.heap.size) 2 D3 Z Z Aa<|Ah (p:=Ao (zP w.heap.size) 2) (.inl Z) (zI ex.pick) AC Z (a6.ldp (i:=2) sM) Aa ?_
  refine Az (v:=d4) ((ex.pick).toNat) CZ Bm Z Z d5.rn.isSl oM sD Aa ?_
  obtain⟨cs76,j1,j2⟩:=d5.rn.get (Aw dp) Ex.zero (k:=(ex.pick).toNat) sD
  obtain⟨dd76,d6,m9,rfl,d7⟩:=RX.of j1
  have es:=d7.rn.lenle
  unfold maxLen at es
  refine AL (p:=Ax d4 ((ex.pick).toNat) 5) (.inl Z) [zI<|(((p.getD ((ex.num).toNat) Fn.zero).outs).getD ((ex.pick).toNat) Ex.zero).kind,zI<|(((p.getD ((ex.num).toNat) Fn.zero).outs).getD ((ex.pick).toNat) Ex.zero).num,zI<|(((p.getD ((ex.num).toNat) Fn.zero).outs).getD ((ex.pick).toNat) Ex.zero).pick,zI<|(((p.getD ((ex.num).toNat) Fn.zero).outs).getD ((ex.pick).toNat) Ex.zero).count,d6] B6 Z (fun f4 cr=>j2 f4<|(a2.drew.sub<|AS hgS).ext cr) Z Aa<|Ad 1 Z ?_
  refine AB 241 [] [] [zP g,.agg #[zI<|(((p.getD ((ex.num).toNat) Fn.zero).outs).getD ((ex.pick).toNat) Ex.zero).kind,zI<|(((p.getD ((ex.num).toNat) Fn.zero).outs).getD ((ex.pick).toNat) Ex.zero).num,zI<|(((p.getD ((ex.num).toNat) Fn.zero).outs).getD ((ex.pick).toNat) Ex.zero).pick,zI<|(((p.getD ((ex.num).toNat) Fn.zero).outs).getD ((ex.pick).toNat) Ex.zero).count,d6],f0] Z Z KT Aa (IH1 (ex.num).toNat oM dd76 _ S g vp dp (o) (f3) (c66) (p) d6 (((p.getD ((ex.num).toNat) Fn.zero).outs).getD ((ex.pick).toNat) Ex.zero) f0 (f2) (fun b hb=>(by have:=hS b hb;omega:b<f1.heap.size)) hgS aa (hp.chg (An<|Ay dp)<|a2.drew.sub<|AS hgS) oM oM oM ⟨d7.rng,d7.rn.chg (An<|Aw dd76)<|a2.drew.sub<|AS hgS⟩ a0 ak.1 hvp oM (by have h9:=hvp.wf (ex.num).toNat oM (ex.pick).toNat oM;rw[show(f2.length:Int)=(p.getD (ex.num).toNat Fn.zero).params from by omega];exact h9) hK oM) ?_
  rintro nm my ⟨fy,mz,n0,f9,rfl,au,j3,j4,et,kp,kq,kr⟩
  refine⟨_,rfl,?_⟩
  replace au:=au.of_drew
  have kt:=au.size
  have j5:As [g] w my:=a2.trans au
  have ma:=a6.chg au (zB ·)
  have mb:=a0.run g2 hgS au
  have ku:=et.1
  refine Ac 1 Z<|A1<|AF<|Am ?_
  exact Af [6] Z fy Z ⟨fy,mz,n0,f9,rfl,j5,j3,j4,Dc,oM,oM,(by first|exact Dm oM|exact Cw oM oM|exact Ec hc00 hs1 oM|exact Ed hc00 hs1 oM|exact Ee hc00 hs1 oM oM ‹AH (go c0<|Cf _ _ (ex.kids.getD 0 _) _ _) _ _ _› oM (by assumption)|exact Ef hc00 hs1 oM oM ‹AH (go c0<|Cf _ _ (ex.kids.getD 0 _) _ _) _ _ _› oM (by assumption)|exact Eg hc00 hs1 oM oM ‹AH (go c0<|Cf _ _ (ex.kids.getD 0 _) _ _) _ _ _› (by assumption)|exact CV hc00 hs1 hkg.1 hkg.2.1 hkg.2.2.1 hkg.2.2.2 hKr oM|exact DN hc00 hs1 oM oM hKr oM (by assumption)|exact DO hc00 hs1 oM oM hKr oM (DP hrl9 oM oM)|exact Ba hc00 hs1 hkg.1 hkg.2.1 hkg.2.2.1 hkg.2.2.2 oM oM hKr oM (by rw[show f9=0 from by omega];exact FC oM)|exact Ba hc00 hs1 hkg.1 hkg.2.1 hkg.2.2.1 hkg.2.2.2 oM oM hKr oM (by rw[show f9=0 from by omega];exact FD oM)|exact Ba hc00 hs1 hkg.1 hkg.2.1 hkg.2.2.1 hkg.2.2.2 oM oM hKr oM (by rw[show f9=0 from by omega];exact FE oM)|exact Ba hc00 hs1 hkg.1 hkg.2.1 hkg.2.2.1 hkg.2.2.2 oM oM hKr oM (by rw[show f9=0 from by omega];exact FF oM)|exact Ba hc00 hs1 hkg.1 hkg.2.1 hkg.2.2.1 hkg.2.2.2 oM oM hKr oM (by rw[show f9=0 from by omega];exact FG oM oM)|exact Ba hc00 hs1 hkg.1 hkg.2.1 hkg.2.2.1 hkg.2.2.2 oM oM hKr oM (Eh oM oM))⟩
 refine Al false Z Z (A6 ep) Aa<|Ac 1 Z<|Ai Z<|aH [0,0] Z ?_
 by_cases eu:ex.kind=((11:Nat):Int)
 ·refine Al true Z Z (A5 eu) Aa<|Ac 1 Z<|Ag Z<|A0<|aH [0] Z ?_
  have hwk:=Ht hwf oM
  have hwl:=Mp hwf oM
  refine Ac 1 Z<|A3 ?_
  refine AW (S:=Nat×Value×List (Sr)×Nat×Int) (fun⟨i,vk,ks,s9,c9⟩=>([(7,vk),(8,zI (i:Int)),(0,zP g),(4,zP w.heap.size)])) (fun⟨i,vk,ks,s9,c9⟩ W=>As [g] w W∧BX W.heap g [vp,zI (o:Int),zI (s9:Int),zI c9]∧BX W.heap w.heap.size [zI ex.kind,zI ex.num,zI ex.pick,zI ex.count,ve]∧i≤(ex.count).toNat∧RN S (AX<|AX rI) W.heap vk ks∧C8 vk∧ks.length=(p.getD (ex.num).toNat Fn.zero).outs.length∧C0 (o+1) ks∧s9≤3000∧(0≤c9∧c9≤9)∧AH (Hr (fun a t=>D9 (o+1) (E4 p (o+1) (ex.num).toNat) (p.getD (ex.num).toNat Fn.zero).outs a t) i f2 f3) ks s9 c9) (fun⟨i,vk,ks,s9,c9⟩=>(ex.count).toNat-i) (0,f0,f2,f3,c66) ⟨rfl,rfl,rfl,rfl,trivial⟩ ⟨a2,aa,a6,oM,(by assumption),(by assumption),oM,(by assumption),oM,oM,(by exact⟨rfl,rfl,zO⟩)⟩ ?_
  clear jm lm gw i3 dn lu i0 ae i5 a9 bv en a2 a6
  rintro⟨i,vk,ks,s9,c9⟩ ρ86 ff ⟨al,a7,a8,j6,hrk,hck,hkl,hks,j7,j8,hrl9⟩
  have kv:w.heap.size≤ff.heap.size:=al.size
  have mc:=a7.lt
  have md:=a8.lt
  refine A0<|aH [0,0,2,0,0,0,0,0,2,0,0] Z<|Ad 1 Z<|Ak (p:=zP w.heap.size) 3 Di Z Z Aa<|Ah (p:=Ao (zP w.heap.size) 3) (.inr Z) (zI ex.count) AC Z (a8.ldp (i:=3) sM) Aa ?_
  by_cases ev:(i:Int)<ex.count
  ·refine AE true Z Z (A5 ev) Aa<|Ad 2 Z<|AT Z (Ae (e:=132) Z Z Z)<|Ak (p:=zP g) 3 Gv Z Z (Ae (e:=132) Z Z Z)<|Ah (p:=Ao (zP g) 3) (.inr Z) (zI c9) AC Z (a7.ldp (i:=3) sM) (Ae (e:=132) Z Z Z) ?_
   by_cases ew:c9=((0:Nat):Int)
   ·refine Al true Z Z (A5 ew) (Ae (e:=132) Z Z Z)<|Ac 1 Z<|Ag Z<|A2<|A0<|A3<|AQ _ [0,0,0,0,0,1,0,1,0,0,1,0,4,0] mixed (by kernel_rfl)<|Ad 2 Z ?_
    have hvo:=hvp.outs (ex.num).toNat oM
    refine AT Z Aa<|Ak (p:=zP g) 0 PL Z Z Aa<|Ak (p:=Ao (zP g) 0) (b:=g) (o:=0) 0 BC Z Z Aa<|Ah (p:=Ao (Ao (zP g) 0) 0) (.inl Z) vp C2 Z (a7.ldp (i:=0) sM) Aa<|Ak (p:=zP w.heap.size) 1 BE Z Z Aa<|Ah (p:=Ao (zP w.heap.size) 1) (.inl Z) (zI ex.num) AC Z (a8.ldp (i:=1) sM) Aa ?_
    refine Az (v:=vp) ((ex.num).toNat) GI Cy Z Z hp.isSl oM sD Aa ?_
    obtain⟨cs91,j9,ey⟩:=hp.get (Ay dp) Fn.zero (k:=(ex.num).toNat) sD
    obtain⟨d8,rfl,ez⟩:=RF.of j9
    have g0:=ez.rn.lenle
    unfold maxLen at g0
    refine AI (p:=Ax vp ((ex.num).toNat) 3) 2 BV Z (ey _<|al.drew.sub<|AS hgS) Aa<|Ah (p:=Ao (Ax vp ((ex.num).toNat) 3) 2) (.inl Z) d8 Bf Z ((ey _<|al.drew.sub<|AS hgS).ld (i:=2) (by simp[EP,EQ])) Aa<|Ad 1 Z ?_
    refine AB 210 [] [] [zP g,d8,vk] Z Z Sm Aa (Sw (ex.num).toNat dp (fun d9 h9=>IH1 (ex.num).toNat oM d9) _ S g vp dp (o) (s9) (c9) (p) d8 ((p.getD ((ex.num).toNat) Fn.zero).outs) vk (ks) (fun b hb=>(by have:=hS b hb;omega:b<ff.heap.size)) hgS a7 (hp.chg (An<|Ay dp)<|al.drew.sub<|AS hgS) oM oM oM (ez.rn.chg (An<|Aw dp)<|al.drew.sub<|AS hgS) hrk hck hvp oM (by intro k hk;have h9:=hvp.wf (ex.num).toNat oM k hk;rw[show(ks.length:Int)=(p.getD (ex.num).toNat Fn.zero).params from by omega];exact h9) hks (by intro k hk;have:=hvp.deep (ex.num).toNat oM k hk;omega) oM) ?_
    rintro nn n1 ⟨n2,n3,n4,n5,rfl,av,ja,me,b0,kw,kx,ky⟩
    refine⟨_,rfl,?_⟩
    replace av:=av.of_drew
    have kz:=av.size
    have jb:As [g] w n1:=al.trans av
    have jc:=a8.chg av (zB ·)
    have mf:=hrk.run g2 hgS av
    have l0:=b0.2.1
    have l1:=b0.2.2
    have l2:=b0.1
    exact Ac 1 Z<|Ab _ [0,0,0] Z<|Ad 1 Z<|AN ((i+1:Nat):Int) Z Z (Be oM oM) Aa<|Ac 1 Z ⟨(i+1,n2,n3,n4,n5),_,rfl,zR,⟨jb,ja,jc,oM,(by assumption),(by assumption),oM,(by assumption),oM,oM,(by exact Ta hrl9 oM (by assumption))⟩,zD⟩
   refine Al false Z Z (A6 ew) (Ae (e:=132) Z Z Z)<|Ac 1 Z<|Ai Z<|A4<|Av<|Av<|Aq<|aH [0,0,2,0,2,0] Z<|Ad 1 Z<|Ak (p:=zP w.heap.size) 2 D3 Z Z Aa<|Ah (p:=Ao (zP w.heap.size) 2) (.inr Z) (zI ex.pick) AC Z (a8.ldp (i:=2) sM) Aa ?_
   refine Az (v:=vk) ((ex.pick).toNat) BH B9 Z Z hrk.slL oM sD Aa ?_
   obtain⟨da,jd,g3⟩:=RN.getL (w:=ff) g1 [] (k:=(ex.pick).toNat) hrk sD
   have g4:=g3.lenL
   unfold maxLen at g4
   refine Ah (p:=Ax vk ((ex.pick).toNat) 1) (.inr Z) da Bk Z (jd _<|As.refl _ _) Aa<|Ac 1 Z<|A1<|AF<|Am ?_
   exact Af [6] Z da Z ⟨da,ks.getD ((ex.pick).toNat) [],s9,c9,rfl,al,a7,g3,Dc,oM,oM,Sx⟩
  refine AE false Z Z (A6 ev) Aa<|Ac 7 Z<|Ai Z<|A4<|Av<|Av<|Aq<|aH [0,0,2,0,2,0] Z<|Ad 1 Z<|Ak (p:=zP w.heap.size) 2 D3 Z Z Aa<|Ah (p:=Ao (zP w.heap.size) 2) (.inr Z) (zI ex.pick) AC Z (a8.ldp (i:=2) sM) Aa ?_
  refine Az (v:=vk) ((ex.pick).toNat) BH B9 Z Z hrk.slL oM sD Aa ?_
  obtain⟨b1,g5,c5⟩:=RN.getL (w:=ff) g1 [] (k:=(ex.pick).toNat) hrk sD
  have db:=c5.lenL
  unfold maxLen at db
  refine Ah (p:=Ax vk ((ex.pick).toNat) 1) (.inr Z) b1 Bk Z (g5 _<|As.refl _ _) Aa<|Ac 1 Z<|A1<|AF<|Am ?_
  exact Af [6] Z b1 Z ⟨b1,ks.getD ((ex.pick).toNat) [],s9,c9,rfl,al,a7,c5,Dc,oM,oM,Sx⟩
 refine Al false Z Z (A6 eu) Aa<|Ac 1 Z<|Ai Z<|aH [0,0] Z ?_
 by_cases c6:ex.kind=((3:Nat):Int)
 ·refine Al true Z Z (A5 c6) Aa<|Ac 1 Z<|Ag Z<|A0<|AQ _ [0,0,1,0,0,1,3,0] mixed (by kernel_rfl) ?_
  have hwk:=Jf hwf oM
  have hK0:=hK 0 oM
  have hK1:=hK 1 oM
  have hK1l:=hK1.1
  refine Ad 1 Z<|Az (v:=f0) 0 BH B9 Z Z a0.slL Z sD Aa ?_
  obtain⟨c7,g6,b2⟩:=RN.getL (w:=f1) g1 [] (k:=0) a0 sD
  have dc:=b2.lenL
  unfold maxLen at dc
  refine Ah (p:=Ax f0 0 1) (.inl Z) c7 Bk Z (g6 _ (As.refl _ _).drew) Aa<|Ad 1 Z<|Az (v:=f0) 1 BH B9 Z Z a0.slL Z sD Aa ?_
  obtain⟨c8,g7,b3⟩:=RN.getL (w:=f1) g1 [] (k:=1) a0 sD
  have dd:=b3.lenL
  unfold maxLen at dd
  refine Ah (p:=Ax f0 1 1) (.inl Z) c8 Bk Z (g7 _ (As.refl _ _).drew) Aa<|Au 185 [] [] [c7,c8] Z Z NO Aa (DS _ _ _ _ _ (b2).rd (b3).rd KY MN hK0.2 hK1.2) ?_
  rintro n6 fh ⟨b4,rfl,a3,ag⟩
  refine⟨_,rfl,a3,?_⟩
  replace a3:=a3.of_drew
  have je:=a3.size
  have g8:As [g] w fh:=a2.ext a3
  have b5:=aa.ext a3
  have g9:=a6.ext a3
  have l3:=a0.ext g2 a3
  have l4:=b2.ext g1 a3
  have l5:=b3.ext g1 a3
  replace ag:=ag.low (B':=f1.heap.size)<|A7 _
  refine Ac 1 Z<|A1<|AF<|Am ?_
  exact Af [6] Z b4 Z ⟨b4,DF (f2.getD 0 [])<|f2.getD 1 [],f3,c66,rfl,g8,b5,RN.of_fr1 ag fun b hb=>zH<|hS b hb,Dc,oM,oM,Jt⟩
 refine Al false Z Z (A6 c6) Aa<|Ac 1 Z<|Ai Z<|aH [0,0] Z ?_
 by_cases ca:ex.kind=((4:Nat):Int)
 ·refine Al true Z Z (A5 ca) Aa<|Ac 1 Z<|Ag Z<|A0<|AQ _ [0,0,1,0,0,1,3,0] mixed (by kernel_rfl) ?_
  have hwk:=Jf hwf oM
  have hK0:=hK 0 oM
  have hK1:=hK 1 oM
  have hK1l:=hK1.1
  refine Ad 1 Z<|Az (v:=f0) 0 BH B9 Z Z a0.slL Z sD Aa ?_
  obtain⟨cb,ga,b6⟩:=RN.getL (w:=f1) g1 [] (k:=0) a0 sD
  have de:=b6.lenL
  unfold maxLen at de
  refine Ah (p:=Ax f0 0 1) (.inl Z) cb Bk Z (ga _ (As.refl _ _).drew) Aa<|Ad 1 Z<|Az (v:=f0) 1 BH B9 Z Z a0.slL Z sD Aa ?_
  obtain⟨cc,gb,b7⟩:=RN.getL (w:=f1) g1 [] (k:=1) a0 sD
  have df:=b7.lenL
  unfold maxLen at df
  refine Ah (p:=Ax f0 1 1) (.inl Z) cc Bk Z (gb _ (As.refl _ _).drew) Aa<|Au 178 [] [] [cb,cc] Z Z UB Aa (He _ _ _ _ _ (b6).rd (b7).rd KY (zH<|hK1.1) MN hK0.2 hK1.2) ?_
  rintro n7 fi ⟨b8,rfl,a4,ah⟩
  refine⟨_,rfl,a4,?_⟩
  replace a4:=a4.of_drew
  have jf:=a4.size
  have gc:As [g] w fi:=a2.ext a4
  have b9:=aa.ext a4
  have gd:=a6.ext a4
  have l6:=a0.ext g2 a4
  have l7:=b6.ext g1 a4
  have l8:=b7.ext g1 a4
  replace ah:=ah.low (B':=f1.heap.size)<|A7 _
  refine Ac 1 Z<|A1<|AF<|Am ?_
  exact Af [6] Z b8 Z ⟨b8,EE (f2.getD 0 [])<|f2.getD 1 [],f3,c66,rfl,gc,b9,RN.of_fr1 ah fun b hb=>zH<|hS b hb,Dc,oM,oM,Jt⟩
 refine Al false Z Z (A6 ca) Aa<|Ac 1 Z<|Ai Z<|aH [0,0] Z ?_
 by_cases cd:ex.kind=((5:Nat):Int)
 ·refine Al true Z Z (A5 cd) Aa<|Ac 1 Z<|Ag Z<|A0<|AQ _ [0,0,1,0,0,1,3,0] mixed (by kernel_rfl) ?_
  have hwk:=Jf hwf oM
  have hK0:=hK 0 oM
  have hK1:=hK 1 oM
  have hK1l:=hK1.1
  refine Ad 1 Z<|Az (v:=f0) 0 BH B9 Z Z a0.slL Z sD Aa ?_
  obtain⟨ce,ge,ba⟩:=RN.getL (w:=f1) g1 [] (k:=0) a0 sD
  have dg:=ba.lenL
  unfold maxLen at dg
  refine Ah (p:=Ax f0 0 1) (.inl Z) ce Bk Z (ge _ (As.refl _ _).drew) Aa<|Ad 1 Z<|Az (v:=f0) 1 BH B9 Z Z a0.slL Z sD Aa ?_
  obtain⟨cf,gf,bb⟩:=RN.getL (w:=f1) g1 [] (k:=1) a0 sD
  have dh:=bb.lenL
  unfold maxLen at dh
  refine Ah (p:=Ax f0 1 1) (.inl Z) cf Bk Z (gf _ (As.refl _ _).drew) Aa<|Au 179 [] [] [ce,cf] Z Z NN Aa (Db _ _ _ _ _ (ba).rd (bb).rd KY MN hK0.2 hK1.2) ?_
  rintro n8 fj ⟨bc,rfl,a5,ai⟩
  refine⟨_,rfl,a5,?_⟩
  replace a5:=a5.of_drew
  have jg:=a5.size
  have gg:As [g] w fj:=a2.ext a5
  have bd:=aa.ext a5
  have gh:=a6.ext a5
  have l9:=a0.ext g2 a5
  have la:=ba.ext g1 a5
  have lb:=bb.ext g1 a5
  replace ai:=ai.low (B':=f1.heap.size)<|A7 _
  refine Ac 1 Z<|A1<|AF<|Am ?_
  exact Af [6] Z bc Z ⟨bc,C5 (f2.getD 0 [])<|f2.getD 1 [],f3,c66,rfl,gg,bd,RN.of_fr1 ai fun b hb=>zH<|hS b hb,Dc,oM,oM,Jt⟩
 refine Al false Z Z (A6 cd) Aa<|Ac 1 Z<|Ai Z<|aH [0,0] Z ?_
 by_cases cg:ex.kind=((7:Nat):Int)
 ·refine Al true Z Z (A5 cg) Aa<|Ac 1 Z<|Ag Z<|aH [0,0,2,3,0] Z ?_
  have hwk:=O7 hwf oM
  have hK0:=hK 0 oM
  refine Ad 1 Z<|Az (v:=f0) 0 BH B9 Z Z a0.slL Z sD Aa ?_
  obtain⟨ch,gi,be⟩:=RN.getL (w:=f1) g1 [] (k:=0) a0 sD
  have di:=be.lenL
  unfold maxLen at di
  refine Ah (p:=Ax f0 0 1) (.inr Z) ch Bk Z (gi _<|As.refl _ _) Aa<|Au 187 [] [] [ch,zI ((1000002:Nat):Int)] Z Z Ma Aa (CW _ _ _ _ (be).rd oM KY hK0.2 oM) ?_
  rintro n9 fk ⟨bf,rfl,ac,bx⟩
  refine⟨_,rfl,ac,?_⟩
  have jh:=ac.size
  have gj:As [g] w fk:=a2.ext ac
  have bg:=aa.ext ac
  have gk:=a6.ext ac
  have lc:=a0.ext g2 ac
  have le:=be.ext g1 ac
  refine Ac 1 Z<|A1<|AF<|Am ?_
  exact Af [6] Z bf Z ⟨bf,Ci (f2.getD 0 []) ((1000002:Nat):Int),f3,c66,rfl,gj,bg,RN.of_fr1 bx fun b hb=>zH<|hS b hb,Dc,oM,oM,Jt⟩
 refine Al false Z Z (A6 cg) Aa<|Ac 1 Z<|Ai Z<|A2<|A0<|aH [0,0,2,0,2,0] Z ?_
 have ji:=Vj hwf ⟨hkg,zO⟩
 have hwk:=Jf hwf<|.inr<|.inr<|.inr ji
 have hK0:=hK 0 oM
 have hK1:=hK 1 oM
 have hK1l:=hK1.1
 refine Ad 1 Z<|Az (v:=f0) 1 BH B9 Z Z a0.slL Z sD Aa ?_
 obtain⟨bh,gl,am⟩:=RN.getL (w:=f1) g1 [] (k:=1) a0 sD
 have dj:=am.lenL
 unfold maxLen at dj
 refine Ah (p:=Ax f0 1 1) (.inr Z) bh Bk Z (gl _<|As.refl _ _) Aa<|Az (v:=bh) 0 Bj Bz Z Z am.slL Z sD Aa ?_
 have gm:=RN.getI (w:=f1) (k:=0) am sD
 refine Ah (p:=Ax bh 0 1) (.inr Z) (zI<|(f2.getD 1 []).getD 0 0) AC Z (gm.1 _<|As.refl _ _) Aa ?_
 by_cases ci:(f2.getD 1 []).getD 0 0=((0:Nat):Int)
 ·refine Al true Z Z (A5 ci) Aa<|Aj<|Ag Z<|aH [0,0,0,4] Z<|Ad 1 Z<|AT Z Aa<|Ak (p:=zP g) 3 Gv Z Z Aa (Bl (k:=3) (w:=f1) GH Z Z ⟨rfl,rfl⟩ aa sM Aa fun f5 an lf ao=>?_)
  replace ao:BX f5.heap g [vp,zI (o:Int),zI (f3:Int),zI ((6:Nat):Int)]:=ao
  have cj:As [g] w f5:=a2.trans an
  have jj:=an.size
  have gn:=a6.chg an (zB ·)
  have gp:=a0.run g2 hgS an
  have gq:=am.run g1 hgS an
  refine Aj<|aH [0,3,0] Z<|Ad 1 Z<|Au 273 [] [] [zP g,zI ((0:Nat):Int)] Z Z NP Aa (BD _ S g vp dp (o) (f3) ((6:Nat):Int) (p) _ (fun b hb=>(by have:=hS b hb;omega:b<f5.heap.size)) hgS ao (hp.chg (An<|Ay dp)<|cj.sub<|AS hgS) oM oM oM oM) ?_
  rintro na fl ⟨bi,rfl,ad,bz⟩
  refine⟨_,rfl,ad,?_⟩
  have jk:=ad.size
  have gr:As [g] w fl:=cj.ext ad
  have aw:=ao.ext ad
  have dm:=gn.ext ad
  have lg:=gp.ext g2 ad
  have lh:=gq.ext g1 ad
  refine Ac 1 Z<|A1<|Am ?_
  exact Af [6] Z bi Z ⟨bi,cst (o+1) ((0:Nat):Int),f3,((6:Nat):Int),rfl,gr,aw,RN.of_fr1 bz fun b hb=>zH<|hS b hb,Dc,oM,oM,(by first|exact Dm oM|exact Cw oM oM|exact Ec hc00 hs1 oM|exact Ed hc00 hs1 oM|exact Ee hc00 hs1 oM oM ‹AH (go c0<|Cf _ _ (ex.kids.getD 0 _) _ _) _ _ _› oM (by assumption)|exact Ef hc00 hs1 oM oM ‹AH (go c0<|Cf _ _ (ex.kids.getD 0 _) _ _) _ _ _› oM (by assumption)|exact Eg hc00 hs1 oM oM ‹AH (go c0<|Cf _ _ (ex.kids.getD 0 _) _ _) _ _ _› (by assumption)|exact CV hc00 hs1 hkg.1 hkg.2.1 hkg.2.2.1 hkg.2.2.2 hKr oM|exact DN hc00 hs1 oM oM hKr oM (by assumption)|exact DO hc00 hs1 oM oM hKr oM (DP hrl9 oM oM)|exact Ba hc00 hs1 hkg.1 hkg.2.1 hkg.2.2.1 hkg.2.2.2 oM oM hKr oM (by rw[show((6:Nat):Int)=0 from by omega];exact FC oM)|exact Ba hc00 hs1 hkg.1 hkg.2.1 hkg.2.2.1 hkg.2.2.2 oM oM hKr oM (by rw[show((6:Nat):Int)=0 from by omega];exact FD oM)|exact Ba hc00 hs1 hkg.1 hkg.2.1 hkg.2.2.1 hkg.2.2.2 oM oM hKr oM (by rw[show((6:Nat):Int)=0 from by omega];exact FE oM)|exact Ba hc00 hs1 hkg.1 hkg.2.1 hkg.2.2.1 hkg.2.2.2 oM oM hKr oM (by rw[show((6:Nat):Int)=0 from by omega];exact FF oM)|exact Ba hc00 hs1 hkg.1 hkg.2.1 hkg.2.2.1 hkg.2.2.2 oM oM hKr oM (by rw[show((6:Nat):Int)=0 from by omega];exact FG oM oM)|exact Ba hc00 hs1 hkg.1 hkg.2.1 hkg.2.2.1 hkg.2.2.2 oM oM hKr oM (Eh oM oM))⟩
 refine Al false Z Z (A6 ci) Aa<|Aj<|Ai Z<|A2<|A0<|AQ _ [0,0,1,0,0,1,3,0] mixed (by kernel_rfl)<|Ad 1 Z<|Az (v:=f0) 0 BH B9 Z Z a0.slL Z sD Aa ?_
 obtain⟨ck,gs,bj⟩:=RN.getL (w:=f1) g1 [] (k:=0) a0 sD
 have dk:=bj.lenL
 unfold maxLen at dk
 refine Ah (p:=Ax f0 0 1) (.inl Z) ck Bk Z (gs _ (As.refl _ _).drew) Aa<|Ad 1 Z<|Az (v:=f0) 1 BH B9 Z Z a0.slL Z sD Aa ?_
 obtain⟨cl,gt,bk⟩:=RN.getL (w:=f1) g1 [] (k:=1) a0 sD
 have dl:=bk.lenL
 unfold maxLen at dl
 refine Ah (p:=Ax f0 1 1) (.inl Z) cl Bk Z (gt _ (As.refl _ _).drew) Aa<|Au 177 [] [] [ck,cl] Z Z Sj Aa (Ew _ _ _ _ _ (bj).rd (bk).rd KY MN (zH<|hK1.1) hK0.2 hK1.2) ?_
 rintro nb fm ⟨bl,rfl,a1,aj⟩
 refine⟨_,rfl,a1,?_⟩
 replace a1:=a1.of_drew
 have jl:=a1.size
 have gu:As [g] w fm:=a2.ext a1
 have bm:=aa.ext a1
 have gv:=a6.ext a1
 have li:=a0.ext g2 a1
 have lj:=am.ext g1 a1
 have lk:=bj.ext g1 a1
 have ll:=bk.ext g1 a1
 replace aj:=aj.low (B':=f1.heap.size)<|A7 _
 refine Ac 1 Z<|A1 ?_
 exact Af [6] Z bl Z ⟨bl,BP (f2.getD 0 [])<|f2.getD 1 [],f3,c66,rfl,gu,bm,RN.of_fr1 aj fun b hb=>zH<|hS b hb,Dc,oM,oM,Jt⟩
theorem TR:∀F d,PV F d:=by
 intro F
 induction F using Nat.strongRecOn with
 |_ F ihF =>
  intro d
  induction d using Nat.strongRecOn with
  |_ d ihd =>
   intro w S g vp dp o s0 c0 p ve ex vv env hS hgS a0 hp ho a1 a2 hex henv hqenv hvp hF hwf hse hdp
   exact G7 w S F g vp dp o s0 c0 p d ve ex vv env hS hgS a0 hp ho a1 a2 hex henv hqenv hvp hF hwf hse hdp ihF ihd
theorem X4 (F d:Nat):PA F d:=Sw F d fun d' _=>TR F d'
theorem FJ (w:World)(dp:Nat)(vp:Value)(p:List Fn)(f:Int)(va:Value)(a:List (Sr))(o:Nat)(hp:RP [] dp w.heap vp p)(_hf:Bt f)(ha:RN [] (AX (AX rI)) w.heap va a)(hqa:C8 va)(hvp:HE p)(hf:0≤f∧f<(p.length:Int))(hl:(a.length:Int)=(p.getD f.toNat Fn.zero).params)(hse:C0 (o+1) a)(ho:o≤12) :
  Calls Tryz.prog 142 #[(.agg #[vp]),zI f,va,zI (o:Int)] w (fun e w'=>∃v0:Value,e=.returned (.tuple #[v0,zI ((Mq p (o+1) f.toNat a:Nat):Int),zI (HR p (o+1) f.toNat a)])∧AG w w'∧Fr (Bi (Bi rI 2) 27) w.heap.size w'.heap.size w'.heap v0 (J6 p (o+1) f.toNat a)∧R2 p (o+1) f.toNat a):=by
 refine Ap [.agg #[vp],zI f,va,zI (o:Int)] 56 Tryz.func142 Z Z sM ?_
 have bq:AG w w:=AG.refl w
 have ch:=hp.lenle
 unfold maxLen at ch
 have ci:=ha.lenL
 unfold maxLen at ci
 refine aH [3,0,0,0] Z (Bu (cs:=#[vp]) Z Aa fun w1 b2 c4 ak=>?_)
 have b3:=b2.size
 have br:=bq.trans b2
 replace ak:BX w1.heap w.heap.size [vp]:=ak
 refine Ac 3 Z<|aH [2,0,0,3,0] Z<|AL (p:=zP w.heap.size) (.inr Z) [vp] CG Z (fun cq c5=>LD.of_box<|BX.ext (w:=w1) ak c5) Z Aa<|Ad 1 Z ?_
 have b4:∀(vp:Value) (cj:Nat) (h2_0:El vp cj) (wq:World),(Instr.build 225 #[(0,.agg #[vp]),(1,zI (o:Int))]).run Tryz.prog wq=.ok (.agg #[vp,zI (o:Int),zI 0,zI 0]) wq:=by intro vp cj h2_0 wq;obtain⟨a2_0,cl,rfl,_⟩:=h2_0;kernel_rfl
 refine C7 (ps:=#[(0,.agg #[vp]),(1,zI (o:Int))]) (.agg #[vp,zI (o:Int),zI 0,zI 0]) (by simp only[zc,zf,zh];rfl) (fun wq=>b4 vp _ hp.isSl wq) Aa ?_
 have cg:=ak.lt
 refine Bu (cs:=#[vp,zI (o:Int),zI 0,zI 0]) Z Aa fun w3 az c7 b5=>?_
 have b6:=az.size
 have ac:=br.trans az
 have ad:=ak.ext az
 replace b5:BX w3.heap w1.heap.size [vp,zI (o:Int),zI 0,zI 0]:=b5
 refine Ac 1 Z<|aH [0,0,2,0,0,0,2,0,4,0] Z ?_
 have cr:=hvp.par f.toNat oM
 have ct:=hvp.outs f.toNat oM
 refine Ad 1 Z<|Ak (p:=zP w.heap.size) 0 BC Z Z Aa<|Ah (p:=Ao (zP w.heap.size) 0) (.inr Z) vp C2 Z (ad.ldp (i:=0) sM) Aa<|Ad 1 Z<|Az (v:=vp) ((f).toNat) GI Cy Z Z hp.isSl oM sD Aa ?_
 obtain⟨cs5,c8,bs⟩:=hp.get (Ay dp) Fn.zero (k:=(f).toNat) sD
 obtain⟨b7,rfl,bt⟩:=RF.of c8
 have al:=bt.rn.lenle
 unfold maxLen at al
 refine AI (p:=Ax vp ((f).toNat) 3) 2 BV Z (bs _<|As.of_ext [] ac) Aa<|Ah (p:=Ao (Ax vp ((f).toNat) 3) 2) (.inr Z) b7 Bf Z ((bs _<|As.of_ext [] ac).ld (i:=2) (by simp[EP,EQ])) Aa<|Ad 1 Z ?_
 refine AB 210 [] [] [zP w1.heap.size,b7,va] Z Z Sm Aa (X4 (f.toNat) dp _ [w1.heap.size] w1.heap.size vp dp (o) (0) (0) (p) b7 ((p.getD ((f).toNat) Fn.zero).outs) va (a) (fun b hb=>(by have:=A9 hb;omega:b<w3.heap.size)) (List.mem_singleton.2 Z) b5 ((hp.add (F:=[w1.heap.size]) (An<|Ay dp) fun b hb=>zH<|A9 hb).ext (An<|Ay dp) ac) oM oM oM ((bt.rn.add (F:=[w1.heap.size]) (An<|Aw dp) fun b hb=>zH<|A9 hb).ext (An<|Aw dp) ac) ((ha.add (F:=[w1.heap.size]) g2 fun b hb=>zH<|A9 hb).ext g2 ac) hqa hvp oM (by intro k hk;have h9:=hvp.wf f.toNat oM k hk;rw[hl];exact h9) hse (by intro k hk;have:=hvp.deep f.toNat oM k hk;omega) oM) ?_
 rintro e6 w6 ⟨v6,x6,s6,c6,rfl,b0,b8,c9,ae,b9,ba,bb⟩
 refine⟨_,rfl,?_⟩
 have ca:=b0.size
 have b1:AG w w6:=b0.below ac (fun b hb=>by have:b=w1.heap.size:=(by simpa using hb);omega) ac.size
 have bu:=ad.chg b0 (zB ·)
 have am:=ae.2.1
 have an:=ae.2.2
 have cb:=ae.1
 have bc:=c9.rt g2
 have hRL:=bb
 have hCB:=ba
 have hEP:=R2.mk' hRL hCB b9 am an
 have hXS:=an
 have hXL:=am
 refine Ac 1 Z<|A0<|aH [0,0,0,2,0] Z<|Ad 1 Z<|AT Z Aa<|Ak (p:=zP w1.heap.size) 3 Gv Z Z Aa<|Ah (p:=Ao (zP w1.heap.size) 3) (.inr Z) (zI c6) AC Z (b8.ldp (i:=3) sM) Aa ?_
 by_cases ao:c6≠((0:Nat):Int)
 ·exact B3 true Z Z (A5 ao) Aa<|Aj<|Ag Z<|A0<|AQ _ [0,0,0,1,0,0,0] mixed (by kernel_rfl)<|Ad 1 Z<|AT Z Aa<|Ak (p:=zP w1.heap.size) 3 Gv Z Z Aa<|Ah (p:=Ao (zP w1.heap.size) 3) (.inl Z) (zI c6) AC Z (b8.ldp (i:=3) sM) Aa<|Ac 3 Z<|A1<|Am<|Af [8,9,10] Z (.tuple #[zN,zI ((0:Nat):Int),zI c6]) Z ⟨zN,(by rw[R1<|I8 hRL oM,JI<|I8 hRL oM] <;> rfl),b1.drew,(by rw[R0<|I8 hRL oM];exact N4 _ _ _),hEP⟩
 refine B3 false Z Z (A6 ao) Aa<|Aj<|Ai Z<|A2<|aH [3,0] Z (Ch (Bi rI 2) o1 BH B9 Aa fun cm cu a2 bd ap=>?_)
 have aq:=a2.size
 have ar:=b1.trans a2
 have af:=bu.ext a2
 have ag:=b8.ext a2
 have be:=bc.ext g2 a2
 refine Ac 1 Z<|A0<|aH [0,0,0] Z<|Ad 1 Z<|AO (v:=v6) BH Z be.slL Aa<|Ac 1 Z<|A3 ?_
 refine AW (S:=Nat×Value) (fun⟨k,vo⟩=>([(13,vo),(41,zI (k:Int)),(11,zP w1.heap.size),(39,v6),(40,zI (x6.length:Int))])) (fun⟨k,vo⟩ W=>AG w W∧Fr (Bi (Bi rI 2) 27) w6.heap.size W.heap.size W.heap vo ((x6).take k)∧BX W.heap w1.heap.size [vp,zI (o:Int),zI (s6:Int),zI c6]∧k≤(x6).length∧RT w6.heap.size (AX<|AX rI) W.heap v6 x6∧w6.heap.size≤W.heap.size∧w1.heap.size<w6.heap.size∧w6.heap.size≤w6.heap.size∧w6.heap.size≤W.heap.size) (fun⟨k,vo⟩=>(x6).length-k) (0,cm) ⟨rfl,rfl,rfl,rfl,rfl,trivial⟩ ⟨ar,ap.up o2,ag,sD,(by assumption),oM,oM,oM,oM⟩ ?_
 clear bq c4 b2 b3 br c7 az b6 ac al b0 bu ap bd a2 aq ar af
 rintro⟨k,vo⟩ ρ18 ck ⟨ah,a8,a0,bf,a9,bv,bw,bx,bz⟩
 have c0:w.heap.size≤ck.heap.size:=ah.size
 have cc:=a0.lt
 refine aH [0] Z ?_
 by_cases au:(k:Int)<(x6.length:Int)
 ·refine AE true Z Z (A5 au) Aa<|Aj<|A0<|Ag Z<|A2<|A0<|A3<|aH [0,2,0] Z ?_
  have hkx:=hXS k oM
  have hkl:=hkx.1
  refine Az (v:=v6) k BH B9 Z Z a9.slL Z sD Aa ?_
  obtain⟨av,bg,ai⟩:=RT.getL g1 [] (k:=k) a9 sD
  have aw:=ai.lenL
  unfold maxLen at aw
  refine Ah (p:=Ax v6 k 1) (.inr Z) av Bk Z bg Aa<|Ac 1 Z<|Ab _ [0,0,3,3,4,0] Z<|Ad 2 Z<|Au 130 [] [] [av] Z Z Y3 Aa (Er _ _ _ ai.rd oM) ?_
  rintro cw cx ⟨ax,rfl,a1,aj⟩
  refine⟨_,rfl,a1,?_⟩
  have c1:=a1.size
  have bh:=ah.trans a1
  have a3:=a8.ext (o2) a1
  have a4:=a0.ext a1
  have bi:=a9.ext g2 a1
  have bj:=ai.ext g1 a1
  refine BI (u:=ax) (B:=ck.heap.size) o1 BH B9 Z Z aj (by first|exact A7 _|omega) Aa fun cn cy a5 cd bk=>?_
  have c2:=a5.size
  have ay:=bh.trans a5
  have a6:=a3.ext (o2) a5
  have a7:=a4.ext a5
  have bl:=bi.ext g2 a5
  have bm:=bj.ext g1 a5
  refine I0 o1 (v:=vo) (a:=cn) BH B9 Z Z Z a6 oM bk oM oM sD (by unfold maxLen;first|omega|assumption|(simp;done)|(simp;omega)) Aa fun co cp cz aa ab bn=>?_
  have bo:AG w cp:=aa.below ay (fun c hc=>A8 b1.size (ab c hc).1) ay.size
  have c3:=aa.size
  have ce:=bl.chg g2 aa fun c hc=>zH<|ab c hc
  have cf:=bm.chg g1 aa fun c hc=>zH<|ab c hc
  have bp:=a7.chg aa fun hm=>zH<|ab _ hm
  refine Ac 1 Z<|Ab _ [0,0] Z<|AN ((k+1:Nat):Int) Z Z (Be oM sD) Aa<|Ac 1 Z ?_
  exact⟨(k+1,co),_,rfl,zR,⟨bo,(by rw[CF [] oM];exact bn.up o2),bp,sD,(by assumption),oM,oM,oM,oM⟩,zD⟩
 refine AE false Z Z (A6 au) Aa<|Aj<|A0<|Ai Z<|A4<|Av<|Av<|Aq<|A0<|AQ _ [0,0,0,0,1,0,0,0] mixed (by kernel_rfl)<|Ad 2 Z<|AT Z Aa<|Ak (p:=zP w1.heap.size) 2 Kn Z Z Aa<|Ah (p:=Ao (zP w1.heap.size) 2) (.inl Z) (zI (s6:Int)) AC Z (a0.ldp (i:=2) sM) Aa<|Ac 3 Z<|A1 ?_
 exact Af [8,9,10] Z (.tuple #[vo,zI (s6:Int),zI ((0:Nat):Int)]) Z ⟨vo,(by rw[QZ<|Kx hRL oM,Nl<|Kx hRL oM] <;> rfl),ah.drew,(by have h:=(a8.up o2).low b1.size;rw[Ky<|Kx hRL oM];rwa [za oM]at h),hEP⟩
theorem GK (w:World)(dex:Nat)(ve:Value)(ex:Ex)(hex:RX [] dex w.heap ve ex)(hs:ex.size≤1000000000) :
  Calls Tryz.prog 206 #[(.agg #[(zI ex.kind),(zI ex.num),(zI ex.pick),(zI ex.count),ve])] w (fun e w'=>e=.returned (zI (ex.size:Int))∧AG w w'):=by
 induction dex using Nat.strongRecOn generalizing w ve ex
 rename_i dex ih
 refine Ap [.agg #[zI ex.kind,zI ex.num,zI ex.pick,zI ex.count,ve]] 19 Tryz.func206 Z Z sM ?_
 have ab:AG w w:=AG.refl w
 have aw:=hex.rn.lenle
 unfold maxLen at aw
 have hsk:=Cn ex
 refine aH [3,0] Z (Bu (cs:=#[zI ex.kind,zI ex.num,zI ex.pick,zI ex.count,ve]) Z Aa fun w1 a2 aj a3=>?_)
 have a4:=a2.size
 have ac:=ab.trans a2
 replace a3:BX w1.heap w.heap.size [zI ex.kind,zI ex.num,zI ex.pick,zI ex.count,ve]:=a3
 refine Ac 1 Z<|aI Z<|A0<|aH [0,2,0,0] Z<|Ak (p:=zP w.heap.size) 4 B8 Z Z Aa<|Ah (p:=Ao (zP w.heap.size) 4) (.inr Z) ve Bf Z (a3.ldp (i:=4) sM) Aa<|AO (v:=ve) CZ Z hex.rn.isSl Aa<|Ac 1 Z<|A3 ?_
 refine AW (S:=Nat×Nat) (fun⟨k,sz⟩=>([(3,zI (sz:Int)),(9,zI (k:Int)),(7,ve),(8,zI (ex.kids.length:Int))])) (fun⟨k,sz⟩ W=>AG w W∧k≤ex.kids.length∧sz=1+Ex.sizes (ex.kids.take k)) (fun⟨k,sz⟩=>ex.kids.length-k) (0,1) ⟨rfl,rfl,rfl,rfl,trivial⟩ ⟨ac,sD,(by rw[List.take_zero,LM])⟩ ?_
 clear ab aj a2 a4 ac
 rintro⟨k,sz⟩ ρ2 w2 ⟨a1,ad,hsz⟩
 have ak:w.heap.size≤w2.heap.size:=a1.size
 refine aH [0] Z ?_
 by_cases ae:(k:Int)<(ex.kids.length:Int)
 ·refine AE true Z Z (A5 ae) Aa<|Aj<|A0<|Ag Z<|A2<|A0<|A3<|aH [0,2,3,4] Z ?_
  have hst:=Dx (l:=ex.kids) (k:=k) oM
  have hle:=D6 ex.kids (k+1)
  have hdt:=Gj (l:=ex.kids) (k:=k) oM
  have hda:=E1<|ex.kids.getD k Ex.zero
  refine Az (v:=ve) k CZ Bm Z Z hex.rn.isSl Z sD Aa ?_
  obtain⟨cs4,al,am⟩:=hex.rn.get (Aw dex) Ex.zero (k:=k) sD
  obtain⟨dd4,a0,ar,rfl,a5⟩:=RX.of al
  have a6:=a5.rn.lenle
  unfold maxLen at a6
  refine AL (p:=Ax ve k 5) (.inr Z) [zI<|(ex.kids.getD k Ex.zero).kind,zI<|(ex.kids.getD k Ex.zero).num,zI<|(ex.kids.getD k Ex.zero).pick,zI<|(ex.kids.getD k Ex.zero).count,a0] B6 Z (fun ax a7=>am ax<|As.of_ext []<|a1.trans a7) Z Aa (Bp (z:=.agg #[zI 0,zI 0,zI 0,zI 0,zN]) Ha Aa fun w5 af au a8=>?_)
  have an:=af.size
  have ag:=a1.trans af
  replace a8:BX w5.heap w2.heap.size [zI 0,zI 0,zI 0,zI 0,zN]:=a8
  refine Bw (vs:=[zI<|(ex.kids.getD k Ex.zero).kind,zI<|(ex.kids.getD k Ex.zero).num,zI<|(ex.kids.getD k Ex.zero).pick,zI<|(ex.kids.getD k Ex.zero).count,a0]) B6 Z Z a5.ones a8 Z Z Aa fun w6 ah av a9=>?_
  replace a9:BX w6.heap w2.heap.size [zI ((ex.kids.getD k Ex.zero).kind),zI ((ex.kids.getD k Ex.zero).num),zI ((ex.kids.getD k Ex.zero).pick),zI ((ex.kids.getD k Ex.zero).count),a0]:=a9
  have ai:AG w w6:=ah.below ag (fun _ h=>zE h) ag.size
  have ao:=ah.size
  refine Aj<|Ab _ [0,2,3,0,0] Z<|Ad 1 Z<|AL (p:=zP w2.heap.size) (.inr Z) [zI<|(ex.kids.getD k Ex.zero).kind,zI<|(ex.kids.getD k Ex.zero).num,zI<|(ex.kids.getD k Ex.zero).pick,zI<|(ex.kids.getD k Ex.zero).count,a0] B6 Z (fun ax a7=>LD.of_box<|BX.ext (w:=w6) a9 a7) Z Aa<|Au 206 [] [] [.agg #[zI<|(ex.kids.getD k Ex.zero).kind,zI<|(ex.kids.getD k Ex.zero).num,zI<|(ex.kids.getD k Ex.zero).pick,zI<|(ex.kids.getD k Ex.zero).count,a0]] Z Z Sl Aa (ih dd4 oM _ a0 (ex.kids.getD k Ex.zero) (a5.ext ai) oM) ?_
  rintro e7 w7 ⟨rfl,aa⟩
  refine⟨_,rfl,aa,?_⟩
  have ap:=aa.size
  have aq:=ai.trans aa
  refine AN ((sz+(ex.kids.getD k Ex.zero).size:Nat):Int) Z Z (Be oM oM) Aa<|Ac 1 Z<|Ab _ [0,0] Z<|AN ((k+1:Nat):Int) Z Z (Be oM sD) Aa<|Ac 1 Z ?_
  exact⟨(k+1,sz+(ex.kids.getD k Ex.zero).size),_,rfl,zR,⟨aq,sD,oM⟩,zD⟩
 exact AE false Z Z (A6 ae) Aa<|Aj<|A0<|Ai Z<|A4<|Av<|Av<|Aq<|aH [0,0] Z<|Ac 2 Z<|A1<|Af [2] Z (zI (sz:Int)) Z ⟨B1 (by rw[hsz,LO oM,hsk]),a1⟩
theorem Ju (w:World)(dex:Nat)(ve:Value)(ex:Ex)(hex:RX [] dex w.heap ve ex)(hs:ex.size≤1000000000) :
  Calls Tryz.prog 236 #[(.agg #[(zI ex.kind),(zI ex.num),(zI ex.pick),(zI ex.count),ve])] w (fun e w'=>e=.returned (zI (ex.deep:Int))∧AG w w'):=by
 induction dex using Nat.strongRecOn generalizing w ve ex
 rename_i dex ih
 refine Ap [.agg #[zI ex.kind,zI ex.num,zI ex.pick,zI ex.count,ve]] 20 Tryz.func236 Z Z sM ?_
 have ab:AG w w:=AG.refl w
 have aw:=hex.rn.lenle
 unfold maxLen at aw
 have hsk:=Cn ex
 have hdk:=DC ex
 refine aH [3,0] Z (Bu (cs:=#[zI ex.kind,zI ex.num,zI ex.pick,zI ex.count,ve]) Z Aa fun w1 a2 aj a3=>?_)
 have a4:=a2.size
 have ac:=ab.trans a2
 replace a3:BX w1.heap w.heap.size [zI ex.kind,zI ex.num,zI ex.pick,zI ex.count,ve]:=a3
 refine Ac 1 Z<|aI Z<|A0<|aH [0,2,0,0] Z<|Ak (p:=zP w.heap.size) 4 B8 Z Z Aa<|Ah (p:=Ao (zP w.heap.size) 4) (.inr Z) ve Bf Z (a3.ldp (i:=4) sM) Aa<|AO (v:=ve) CZ Z hex.rn.isSl Aa<|Ac 1 Z<|A3 ?_
 refine AW (S:=Nat×Nat) (fun⟨k,sz⟩=>([(3,zI (sz:Int)),(9,zI (k:Int)),(7,ve),(8,zI (ex.kids.length:Int))])) (fun⟨k,sz⟩ W=>AG w W∧k≤ex.kids.length∧sz=Ex.deeps (ex.kids.take k)) (fun⟨k,sz⟩=>ex.kids.length-k) (0,0) ⟨rfl,rfl,rfl,rfl,trivial⟩ ⟨ac,sD,(by rw[List.take_zero,LN])⟩ ?_
 clear ab aj a2 a4 ac
 rintro⟨k,sz⟩ ρ2 w2 ⟨a1,ad,hsz⟩
 have ak:w.heap.size≤w2.heap.size:=a1.size
 refine aH [0] Z ?_
 by_cases ae:(k:Int)<(ex.kids.length:Int)
 ·refine AE true Z Z (A5 ae) Aa<|Aj<|A0<|Ag Z<|A2<|A0<|A3<|aH [0,2,3,4] Z ?_
  have hst:=Dx (l:=ex.kids) (k:=k) oM
  have hle:=D6 ex.kids (k+1)
  have hdt:=Gj (l:=ex.kids) (k:=k) oM
  have hda:=E1<|ex.kids.getD k Ex.zero
  refine Az (v:=ve) k CZ Bm Z Z hex.rn.isSl Z sD Aa ?_
  obtain⟨cs4,al,am⟩:=hex.rn.get (Aw dex) Ex.zero (k:=k) sD
  obtain⟨dd4,a0,ar,rfl,a5⟩:=RX.of al
  have a6:=a5.rn.lenle
  unfold maxLen at a6
  refine AL (p:=Ax ve k 5) (.inr Z) [zI<|(ex.kids.getD k Ex.zero).kind,zI<|(ex.kids.getD k Ex.zero).num,zI<|(ex.kids.getD k Ex.zero).pick,zI<|(ex.kids.getD k Ex.zero).count,a0] B6 Z (fun ax a7=>am ax<|As.of_ext []<|a1.trans a7) Z Aa (Bp (z:=.agg #[zI 0,zI 0,zI 0,zI 0,zN]) Ha Aa fun w5 af au a8=>?_)
  have an:=af.size
  have ag:=a1.trans af
  replace a8:BX w5.heap w2.heap.size [zI 0,zI 0,zI 0,zI 0,zN]:=a8
  refine Bw (vs:=[zI<|(ex.kids.getD k Ex.zero).kind,zI<|(ex.kids.getD k Ex.zero).num,zI<|(ex.kids.getD k Ex.zero).pick,zI<|(ex.kids.getD k Ex.zero).count,a0]) B6 Z Z a5.ones a8 Z Z Aa fun w6 ah av a9=>?_
  replace a9:BX w6.heap w2.heap.size [zI ((ex.kids.getD k Ex.zero).kind),zI ((ex.kids.getD k Ex.zero).num),zI ((ex.kids.getD k Ex.zero).pick),zI ((ex.kids.getD k Ex.zero).count),a0]:=a9
  have ai:AG w w6:=ah.below ag (fun _ h=>zE h) ag.size
  have ao:=ah.size
  refine Aj<|Ab _ [0,2,3,0,0] Z<|Ad 1 Z<|AL (p:=zP w2.heap.size) (.inr Z) [zI<|(ex.kids.getD k Ex.zero).kind,zI<|(ex.kids.getD k Ex.zero).num,zI<|(ex.kids.getD k Ex.zero).pick,zI<|(ex.kids.getD k Ex.zero).count,a0] B6 Z (fun ax a7=>LD.of_box<|BX.ext (w:=w6) a9 a7) Z Aa<|Au 236 [] [] [.agg #[zI<|(ex.kids.getD k Ex.zero).kind,zI<|(ex.kids.getD k Ex.zero).num,zI<|(ex.kids.getD k Ex.zero).pick,zI<|(ex.kids.getD k Ex.zero).count,a0]] Z Z UH Aa (ih dd4 oM _ a0 (ex.kids.getD k Ex.zero) (a5.ext ai) oM) ?_
  rintro e7 w7 ⟨rfl,aa⟩
  refine⟨_,rfl,aa,?_⟩
  have ap:=aa.size
  have aq:=ai.trans aa
  refine Xl ((max sz ((ex.kids.getD k Ex.zero).deep):Nat):Int) oM Z Z Aa<|Ac 1 Z<|Ab _ [0,0] Z<|AN ((k+1:Nat):Int) Z Z (Be oM sD) Aa<|Ac 1 Z ?_
  exact⟨(k+1,max sz ((ex.kids.getD k Ex.zero).deep)),_,rfl,zR,⟨aq,sD,oM⟩,zD⟩
 refine AE false Z Z (A6 ae) Aa<|Aj<|A0<|Ai Z<|A4<|Av<|Av<|Aq<|aH [0,0,0] Z ?_
 have h8:=Jb (l:=ex.kids) (k:=k) oM
 have h9:=E1 ex
 exact Ad 1 Z<|AN ((sz+1:Nat):Int) Z Z (Be oM oM) Aa<|Ac 1 Z<|A1<|Af [2] Z (zI ((sz+1:Nat):Int)) Z ⟨B1 (by rw[hsz,Jb oM,hdk]),a1⟩
theorem UQ {b:Bool}(h:(!b)=false):b=true:=by cases b <;> simp_all
theorem YM {b:Bool}(h:(!b)=true):b=false:=by cases b <;> simp_all
theorem X5 {p:List Fn}{funcs vars:Int}{e:Ex}{b:Bool}(h:e.kids.length=0∨b=false)(hb:Gl p funcs vars e=b):Ending.returned (.bool b)=.returned (.bool (wf p funcs e vars)):=by
  rcases h with h|h
  · rw[Mj h,hb]
  · subst h;rw[← QN hb]
theorem BW {p:Prop}(h:p:=by first|exact AJ (Mk hwn fun j hj=>hall j oM)|exact AJ (QO (k:=k) oM (by first|(rw[if_pos oM])|(rw[if_neg oM])) (YM ‹_›))|exact X5 (by first|exact .inr Z|(left;omega)|(left;simp_all <;> omega)) (by(have hp9:=hpl.symm;clear hpl;unfold Gl GS;first|(simp[*];done)|(simp[*];omega)|(simp[*] <;> intros <;> omega)|(simp_all <;> omega)))):p:=h
theorem If {p:Prop}(h:p:=by(have hp9:=hpl.symm;clear hpl;unfold Gl GS;first|(simp[*];done)|(simp[*];omega)|(simp[*] <;> intros <;> omega)|(simp_all <;> omega))):p:=h
theorem Ou {p:Prop}(h:p:=by intro j hj;by_cases e9:j=k;(rw[e9];first|(rw[if_pos oM];exact UQ ‹_›)|(rw[if_neg oM];exact UQ ‹_›));exact hall j oM):p:=h
theorem Sy {p:Prop}(h:p:=by unfold Dy;first|(simp[*];done)|(simp[*];intros;omega)|(simp[*];omega)):p:=h
theorem Ig {p:Prop}(h:p:=by first|exact(A5 oM).symm|exact decide_eq_decide.2 oM):p:=h
theorem Ga (w:World)(dp:Nat)(vp:Value)(p:List Fn)(funcs:Int)(dex:Nat)(ve:Value)(ex:Ex)(vars:Int)(hp:RP [] dp w.heap vp p)(_hfuncs:Bt funcs)(hex:RX [] dex w.heap ve ex)(_hvars:Bt vars)(hs:0≤vars∧vars+(ex.deep:Int)≤2000000000)(hf:0≤funcs∧funcs≤(p.length:Int)) :
  Calls Tryz.prog 237 #[(.agg #[vp,(zI funcs)]),(.agg #[(zI ex.kind),(zI ex.num),(zI ex.pick),(zI ex.count),ve]),zI vars] w (fun e w'=>e=.returned (.bool (wf p funcs ex vars))∧AG w w'):=by
 induction dex using Nat.strongRecOn generalizing w dp vp p funcs ve ex vars
 rename_i dex ih
 refine Ap [.agg #[vp,zI funcs],.agg #[zI ex.kind,zI ex.num,zI ex.pick,zI ex.count,ve],zI vars] 177 Tryz.func237 Z Z sM ?_
 have d2:AG w w:=AG.refl w
 have ec:=hp.lenle
 unfold maxLen at ec
 have ed:=hex.rn.lenle
 unfold maxLen at ed
 have hdk:=DC ex
 refine aH [3,3,0] Z (Bu (cs:=#[vp,zI funcs]) Z Aa fun w1 cq df co=>?_)
 have cr:=cq.size
 have d3:=d2.trans cq
 replace co:BX w1.heap w.heap.size [vp,zI funcs]:=co
 have e5:=co.lt
 refine Bu (cs:=#[zI ex.kind,zI ex.num,zI ex.pick,zI ex.count,ve]) Z Aa fun w2 cp dg bc=>?_
 have ct:=cp.size
 have cu:=d3.trans cp
 have bb:=co.ext cp
 replace bc:BX w2.heap w1.heap.size [zI ex.kind,zI ex.num,zI ex.pick,zI ex.count,ve]:=bc
 refine Ac 1 Z<|aH [0,2,0,0] Z<|Ak (p:=zP w1.heap.size) 4 B8 Z Z Aa<|Ah (p:=Ao (zP w1.heap.size) 4) (.inr Z) ve Bf Z (bc.ldp (i:=4) sM) Aa<|AO (v:=ve) CZ Z hex.rn.isSl Aa<|Ac 1 Z<|A0<|JG (S:=Bool) (fun(pl:Bool)=>([(8,.bool pl),(2,zI vars),(3,zP w.heap.size),(4,zP w1.heap.size),(7,zI (ex.kids.length:Int))])) (fun(pl:Bool) (W:World)=>AG w W∧BX W.heap w.heap.size [vp,zI funcs]∧BX W.heap w1.heap.size [zI ex.kind,zI ex.num,zI ex.pick,zI ex.count,ve]∧pl=Dy ex) ?_ ?_
 ·refine Ab _ [0,2,0,0,0,2,0,0,0] Z<|Ak (p:=zP w1.heap.size) 2 D3 Z Z Aa<|Ah (p:=Ao (zP w1.heap.size) 2) (.inr Z) (zI ex.pick) AC Z (bc.ldp (i:=2) sM) Aa ?_
  by_cases d4:ex.pick=((0:Nat):Int)
  ·exact Al true Z Z (A5 d4) Aa<|Ad 1 Z<|Ak (p:=zP w1.heap.size) 3 Di Z Z (Ae (e:=19) Z Z Z)<|Ah (p:=Ao (zP w1.heap.size) 3) (.inr Z) (zI ex.count) AC Z (bc.ldp (i:=3) sM) (Ae (e:=19) Z Z Z)<|Al (decide (ex.count=((0:Nat):Int))) Z Z Z (Ae (e:=19) Z Z Z)<|Ac 2 Z ⟨decide (ex.count=((0:Nat):Int)),_,rfl,zR,⟨cu,bb,bc,Sy⟩⟩
  exact Al false Z Z (A6 d4) Aa<|Ac 6 Z ⟨false,_,rfl,zR,⟨cu,bb,bc,Sy⟩⟩
 clear d2 df cq cr d3 dg cp ct cu
 rintro pl ρ4 w4 ⟨ag,a4,a1,hpl⟩
 have bf:w.heap.size≤w4.heap.size:=ag.size
 have e6:=a4.lt
 have e7:=a1.lt
 refine A0<|JG (S:=Unit) (fun(u:Unit)=>([(2,zI vars),(3,zP w.heap.size),(4,zP w1.heap.size)])) (fun(u:Unit) (W:World)=>AG w W∧BX W.heap w.heap.size [vp,zI funcs]∧BX W.heap w1.heap.size [zI ex.kind,zI ex.num,zI ex.pick,zI ex.count,ve]∧Gl p funcs vars ex=true) ?_ ?_
 ·refine aH [0,2] Z<|Ak (p:=zP w1.heap.size) 0 Bg Z Z Aa<|Ah (p:=Ao (zP w1.heap.size) 0) (.inr Z) (zI ex.kind) AC Z (a1.ldp (i:=0) sM) Aa<|Aj<|A3<|aH [0,0] Z ?_
  by_cases d5:ex.kind=((1:Nat):Int)
  ·refine Al true Z Z (A5 d5) Aa<|Ac 1 Z<|Ag Z<|aH [0,0,0,0,0,0,0,2,0,0,0] Z<|Ad 2 Z ?_
   cases dh:pl
   ·exact Ac 9 Z<|A1<|AF<|Am<|Af [6] Z (.bool false) Z ⟨BW,ag⟩
   refine Ad 1 Z ?_
   by_cases bg:(ex.kids.length:Int)=((0:Nat):Int)
   ·refine Al true Z Z (A5 bg) (Ae (e:=29) Z Z Z)<|Ad 2 Z<|Ak (p:=zP w1.heap.size) 1 BE Z Z (Ae (e:=33) Z Z Z)<|Ah (p:=Ao (zP w1.heap.size) 1) (.inr Z) (zI ex.num) AC Z (a1.ldp (i:=1) sM) (Ae (e:=33) Z Z Z)<|AA 170 [] [] [zI ex.num] Z Z Si (Ae (e:=33) Z Z Z) (.bool<|HP ex.num) (fun wq=>Ev wq _ hex.rng.num)<|Ac 2 Z<|A1<|AF<|Am ?_
    exact Af [6] Z (.bool<|HP ex.num) Z ⟨BW,ag⟩
   exact Al false Z Z (A6 bg) (Ae (e:=29) Z Z Z)<|Ac 7 Z<|A1<|AF<|Am<|Af [6] Z (.bool false) Z ⟨BW,ag⟩
  refine Al false Z Z (A6 d5) Aa<|Ac 1 Z<|Ai Z<|aH [0,0] Z ?_
  by_cases bh:ex.kind=((2:Nat):Int)
  ·refine Al true Z Z (A5 bh) Aa<|Ac 1 Z<|Ag Z<|aH [0,0,0,0,0,0,0,2,0,0,0,0,0] Z<|Ad 2 Z ?_
   cases di:pl
   ·exact Ac 11 Z<|A1<|AF<|Am<|Af [6] Z (.bool false) Z ⟨BW,ag⟩
   refine Ad 1 Z ?_
   by_cases bi:(ex.kids.length:Int)=((0:Nat):Int)
   ·refine Al true Z Z (A5 bi) (Ae (e:=41) Z Z Z)<|Ad 2 Z<|Ak (p:=zP w1.heap.size) 1 BE Z Z (Ae (e:=45) Z Z Z)<|Ah (p:=Ao (zP w1.heap.size) 1) (.inr Z) (zI ex.num) AC Z (a1.ldp (i:=1) sM) (Ae (e:=45) Z Z Z)<|Ad 1 Z<|BB (vars-1) Z Z (Dp oM oM) (Ae (e:=45) Z Z Z)<|AA 117 [] [] [zI ex.num,zI ((0:Nat):Int),zI (vars-1)] Z Z CT (Ae (e:=45) Z Z Z) (.bool (decide (((0:Nat):Int)≤ex.num) && decide (ex.num≤(vars-1)))) (fun wq=>AV wq _ _ _ hex.rng.num oM oM)<|Ac 2 Z<|A1<|AF ?_
    exact Am<|Af [6] Z (.bool (decide (((0:Nat):Int)≤ex.num) && decide (ex.num≤(vars-1)))) Z ⟨BW,ag⟩
   exact Al false Z Z (A6 bi) (Ae (e:=41) Z Z Z)<|Ac 9 Z<|A1<|AF<|Am<|Af [6] Z (.bool false) Z ⟨BW,ag⟩
  refine Al false Z Z (A6 bh) Aa<|Ac 1 Z<|Ai Z<|A0<|JG (S:=Bool) (fun(b5:Bool)=>([(52,.bool b5),(2,zI vars),(3,zP w.heap.size),(4,zP w1.heap.size),(7,zI (ex.kids.length:Int)),(8,.bool pl),(25,zI ex.kind)])) (fun(b5:Bool) (W:World)=>AG w W∧BX W.heap w.heap.size [vp,zI funcs]∧BX W.heap w1.heap.size [zI ex.kind,zI ex.num,zI ex.pick,zI ex.count,ve]∧b5=decide (ex.kind=3∨ex.kind=4∨ex.kind=5∨ex.kind=6∨ex.kind=9)) ?_ ?_
  ·refine aH [0,0] Z ?_
   by_cases bj:ex.kind=((3:Nat):Int)
   ·exact Al true Z Z (A5 bj) Aa<|Ac 1 Z<|Ag Z<|A2 ⟨true,_,rfl,zR,⟨ag,a4,a1,Ig⟩⟩
   refine Al false Z Z (A6 bj) Aa<|Ac 1 Z<|Ai Z<|aH [0,0] Z ?_
   by_cases bk:ex.kind=((4:Nat):Int)
   ·exact Al true Z Z (A5 bk) Aa<|Ac 1 Z<|Ag Z<|A2 ⟨true,_,rfl,zR,⟨ag,a4,a1,Ig⟩⟩
   refine Al false Z Z (A6 bk) Aa<|Ac 1 Z<|Ai Z<|aH [0,0] Z ?_
   by_cases bl:ex.kind=((5:Nat):Int)
   ·exact Al true Z Z (A5 bl) Aa<|Ac 1 Z<|Ag Z<|A2 ⟨true,_,rfl,zR,⟨ag,a4,a1,Ig⟩⟩
   refine Al false Z Z (A6 bl) Aa<|Ac 1 Z<|Ai Z<|aH [0,0] Z ?_
   by_cases bm:ex.kind=((6:Nat):Int)
   ·exact Al true Z Z (A5 bm) Aa<|Ac 1 Z<|Ag Z<|A2 ⟨true,_,rfl,zR,⟨ag,a4,a1,Ig⟩⟩
   exact Al false Z Z (A6 bm) Aa<|Ac 1 Z<|Ai Z<|Ab _ [0,0] Z<|Al (decide (ex.kind=((9:Nat):Int))) Z Z Z Aa<|Ac 1 Z ⟨decide (ex.kind=((9:Nat):Int)),_,rfl,zR,⟨ag,a4,a1,Ig⟩⟩
  clear a1 a4 ag bf
  rintro b5 ρ17 ef ⟨a2,a3,a0,h5b⟩
  have bn:w.heap.size≤ef.heap.size:=a2.size
  have dj:=a3.lt
  have dk:=a0.lt
  cases bo:b5
  ·refine Ai (by first|rfl|exact zW bo)<|aH [0,0] Z ?_
   have h5n:=of_decide_eq_false (h5b.symm.trans ‹_›)
   clear h5b
   by_cases bp:ex.kind=((7:Nat):Int)
   ·refine Al true Z Z (A5 bp) Aa<|Ac 1 Z<|Ag Z<|aH [0,0,0,0,2,0,0,0,0,0,0] Z<|Ad 1 Z<|Br (!pl) Z Z Aa<|Ad 1 Z ?_
    cases dl:(!pl)
    ·refine Ak (p:=zP w1.heap.size) 1 BE Z Z (Ae (e:=73) Z Z Z)<|Ah (p:=Ao (zP w1.heap.size) 1) (.inr Z) (zI ex.num) AC Z (a0.ldp (i:=1) sM) (Ae (e:=73) Z Z Z) ?_
     by_cases bq:ex.num≠((0:Nat):Int)
     ·exact B3 true Z Z (A5 bq) (Ae (e:=73) Z Z Z)<|Ac 5 Z<|Ag Z<|aI Z<|A1<|AF<|Am<|Af [6] Z (.bool false) Z ⟨BW,a2⟩
     refine B3 false Z Z (A6 bq) (Ae (e:=73) Z Z Z)<|Ad 3 Z ?_
     by_cases br:(ex.kids.length:Int)≠((1:Nat):Int)
     ·exact B3 true Z Z (A5 br) (Ae (e:=78) Z Z Z)<|Ac 1 Z<|Ag Z<|aI Z<|A1<|AF<|Am<|Af [6] Z (.bool false) Z ⟨BW,a2⟩
     exact B3 false Z Z (A6 br) (Ae (e:=78) Z Z Z)<|Ac 1 Z<|Ai Z<|A2 ⟨(),_,rfl,zR,⟨a2,a3,a0,If⟩⟩
    exact Ac 8 Z<|Ag Z<|aI Z<|A1<|AF<|Am<|Af [6] Z (.bool false) Z ⟨BW,a2⟩
   refine Al false Z Z (A6 bp) Aa<|Ac 1 Z<|Ai Z<|aH [0,0] Z ?_
   by_cases bs:ex.kind=((8:Nat):Int)
   ·refine Al true Z Z (A5 bs) Aa<|Ac 1 Z<|Ag Z<|aH [0,0,0,0,2,0,0,0,0,0,0] Z<|Ad 1 Z<|Br (!pl) Z Z Aa<|Ad 1 Z ?_
    cases dm:(!pl)
    ·refine Ak (p:=zP w1.heap.size) 1 BE Z Z (Ae (e:=86) Z Z Z)<|Ah (p:=Ao (zP w1.heap.size) 1) (.inr Z) (zI ex.num) AC Z (a0.ldp (i:=1) sM) (Ae (e:=86) Z Z Z) ?_
     by_cases bt:ex.num≠((0:Nat):Int)
     ·exact B3 true Z Z (A5 bt) (Ae (e:=86) Z Z Z)<|Ac 5 Z<|Ag Z<|aI Z<|A1<|AF<|Am<|Af [6] Z (.bool false) Z ⟨BW,a2⟩
     refine B3 false Z Z (A6 bt) (Ae (e:=86) Z Z Z)<|Ad 3 Z ?_
     by_cases bu:(ex.kids.length:Int)≠((3:Nat):Int)
     ·exact B3 true Z Z (A5 bu) (Ae (e:=91) Z Z Z)<|Ac 1 Z<|Ag Z<|aI Z<|A1<|AF<|Am<|Af [6] Z (.bool false) Z ⟨BW,a2⟩
     exact B3 false Z Z (A6 bu) (Ae (e:=91) Z Z Z)<|Ac 1 Z<|Ai Z<|A2 ⟨(),_,rfl,zR,⟨a2,a3,a0,If⟩⟩
    exact Ac 8 Z<|Ag Z<|aI Z<|A1<|AF<|Am<|Af [6] Z (.bool false) Z ⟨BW,a2⟩
   refine Al false Z Z (A6 bs) Aa<|Ac 1 Z<|Ai Z<|A0<|JG (S:=Bool) (fun(b10:Bool)=>([(95,.bool b10),(2,zI vars),(3,zP w.heap.size),(4,zP w1.heap.size),(7,zI (ex.kids.length:Int))])) (fun(b10:Bool) (W:World)=>AG w W∧BX W.heap w.heap.size [vp,zI funcs]∧BX W.heap w1.heap.size [zI ex.kind,zI ex.num,zI ex.pick,zI ex.count,ve]∧b10=decide (ex.kind=10∨ex.kind=11)) ?_ ?_
   ·refine aH [0,0] Z ?_
    by_cases bv:ex.kind=((10:Nat):Int)
    ·exact Al true Z Z (A5 bv) Aa<|Ac 1 Z<|Ag Z<|A2 ⟨true,_,rfl,zR,⟨a2,a3,a0,Ig⟩⟩
    exact Al false Z Z (A6 bv) Aa<|Ac 1 Z<|Ai Z<|Ab _ [0,0] Z<|Al (decide (ex.kind=((11:Nat):Int))) Z Z Z Aa<|Ac 1 Z ⟨decide (ex.kind=((11:Nat):Int)),_,rfl,zR,⟨a2,a3,a0,Ig⟩⟩
   clear a0 a3 a2 bn
   rintro b10 ρ33 e8 ⟨an,a6,a7,h10b⟩
   have d6:w.heap.size≤e8.heap.size:=an.size
   have dn:=a6.lt
   have dq:=a7.lt
   cases bw:b10
   ·refine Ai (by first|rfl|exact zW bw)<|aH [0] Z ?_
    have h10n:=of_decide_eq_false (h10b.symm.trans ‹_›)
    clear h10b
    exact Ac 1 Z<|A1<|AF<|Am<|Af [6] Z (.bool false) Z ⟨BW,an⟩
   refine Ag (by first|rfl|exact zW bw)<|A0<|aH [0,2,0,2,0,0,0] Z ?_
   have h5k:=of_decide_eq_true (h10b.symm.trans ‹_›)
   clear h10b
   refine Ak (p:=zP w1.heap.size) 1 BE Z Z Aa<|Ah (p:=Ao (zP w1.heap.size) 1) (.inr Z) (zI ex.num) AC Z (a7.ldp (i:=1) sM) Aa<|Ak (p:=zP w.heap.size) 1 TQ Z Z Aa<|Ah (p:=Ao (zP w.heap.size) 1) (.inr Z) (zI funcs) AC Z (a6.ldp (i:=1) sM) Aa<|BB (funcs-1) Z Z (Dp oM oM) Aa<|AA 117 [] [] [zI ex.num,zI ((0:Nat):Int),zI (funcs-1)] Z Z CT Aa (.bool (decide (((0:Nat):Int)≤ex.num) && decide (ex.num≤(funcs-1)))) (fun wq=>AV wq _ _ _ hex.rng.num oM oM) ?_
   refine Br (!(decide (((0:Nat):Int)≤ex.num) && decide (ex.num≤(funcs-1)))) Z Z Aa<|Aj ?_
   cases bx:(!(decide (((0:Nat):Int)≤ex.num) && decide (ex.num≤(funcs-1))))
   ·refine Ai (by first|rfl|exact zW bx)<|A2<|aH [0,0,2,0,2,0,2,3,4] Z ?_
    have hnr:0≤ex.num∧ex.num≤funcs-1:=by have h9:=‹(!(decide (((0:Nat):Int)≤ex.num) && decide (ex.num≤funcs-1)))=false›;simpa using h9
    refine Ak (p:=zP w.heap.size) 0 TP Z Z Aa<|Ak (p:=Ao (zP w.heap.size) 0) (b:=w.heap.size) (o:=0) 0 BC Z Z Aa<|Ah (p:=Ao (Ao (zP w.heap.size) 0) 0) (.inr Z) vp C2 Z (a6.ldp (i:=0) sM) Aa<|Ak (p:=zP w1.heap.size) 1 BE Z Z Aa<|Ah (p:=Ao (zP w1.heap.size) 1) (.inr Z) (zI ex.num) AC Z (a7.ldp (i:=1) sM) Aa ?_
    refine Az (v:=vp) ((ex.num).toNat) GI Cy Z Z hp.isSl oM sD Aa ?_
    obtain⟨cs40,cv,cw⟩:=hp.get (Ay dp) Fn.zero (k:=(ex.num).toNat) sD
    obtain⟨aa,rfl,ao⟩:=RF.of cv
    have bz:=ao.rn.lenle
    unfold maxLen at bz
    refine AL (p:=Ax vp ((ex.num).toNat) 3) (.inr Z) [.string<|(p.getD ((ex.num).toNat) Fn.zero).name,zI<|(p.getD ((ex.num).toNat) Fn.zero).params,aa] KW Z (fun e9 ad=>cw e9<|As.of_ext []<|an.trans ad) Z Aa ?_
    have dr:=a6.lt
    have ds:=a7.lt
    refine Bp (z:=.agg #[.string ByteArray.empty,zI 0,zN]) X1 Aa fun eg ax dt bd=>?_
    have d7:=ax.size
    have c0:=an.trans ax
    have ai:=a6.ext ax
    have aj:=a7.ext ax
    replace bd:BX eg.heap e8.heap.size [.string ByteArray.empty,zI 0,zN]:=bd
    refine Bw (vs:=[.string<|(p.getD ((ex.num).toNat) Fn.zero).name,zI<|(p.getD ((ex.num).toNat) Fn.zero).params,aa]) KW Z Z ao.ones bd Z Z Aa fun ee ay du ac=>?_
    replace ac:BX ee.heap e8.heap.size [.string ((p.getD ((ex.num).toNat) Fn.zero).name),zI ((p.getD ((ex.num).toNat) Fn.zero).params),aa]:=ac
    have a8:AG w ee:=ay.below c0 (fun _ h=>zE h) c0.size
    have d8:=ay.size
    have az:=ai.chg ay (zB ·)
    have a9:=aj.chg ay (zB ·)
    refine Aj<|A0<|aH [0,0,2,0,0,0,2,0,2,0,0,0,0,0] Z<|Ad 1 Z<|Ak (p:=zP e8.heap.size) 1 Ck Z Z Aa<|Ah (p:=Ao (zP e8.heap.size) 1) (.inr Z) (zI<|(p.getD ((ex.num).toNat) Fn.zero).params) AC Z (ac.ldp (i:=1) sM) Aa ?_
    by_cases c1:(ex.kids.length:Int)≠(p.getD ((ex.num).toNat) Fn.zero).params
    ·exact B3 true Z Z (A5 c1) Aa<|Ac 10 Z<|Ag Z<|aI Z<|A1<|Am<|AF<|Am<|Af [6] Z (.bool false) Z ⟨BW,a8⟩
    refine B3 false Z Z (A6 c1) Aa<|Ad 1 Z<|Ak (p:=zP w1.heap.size) 2 D3 Z Z (Ae (e:=116) Z Z Z)<|Ah (p:=Ao (zP w1.heap.size) 2) (.inr Z) (zI ex.pick) AC Z (a9.ldp (i:=2) sM) (Ae (e:=116) Z Z Z)<|Ak (p:=zP e8.heap.size) 2 BV Z Z (Ae (e:=116) Z Z Z)<|Ah (p:=Ao (zP e8.heap.size) 2) (.inr Z) aa Bf Z (ac.ldp (i:=2) sM) (Ae (e:=116) Z Z Z)<|AO (v:=aa) CZ Z ao.rn.isSl (Ae (e:=116) Z Z Z) ?_
    refine BB (((p.getD (ex.num).toNat Fn.zero).outs.length:Int)-1) Z Z (Dp oM oM) (Ae (e:=116) Z Z Z)<|AA 117 [] [] [zI ex.pick,zI ((0:Nat):Int),zI (((p.getD (ex.num).toNat Fn.zero).outs.length:Int)-1)] Z Z CT (Ae (e:=116) Z Z Z) (.bool (decide (((0:Nat):Int)≤ex.pick) && decide (ex.pick≤(((p.getD (ex.num).toNat Fn.zero).outs.length:Int)-1)))) (fun wq=>AV wq _ _ _ hex.rng.pick oM oM)<|Br (!(decide (((0:Nat):Int)≤ex.pick) && decide (ex.pick≤(((p.getD (ex.num).toNat Fn.zero).outs.length:Int)-1)))) Z Z (Ae (e:=116) Z Z Z)<|Ac 1 Z ?_
    cases c2:(!(decide (((0:Nat):Int)≤ex.pick) && decide (ex.pick≤(((p.getD (ex.num).toNat Fn.zero).outs.length:Int)-1))))
    ·refine Ai (by first|rfl|exact zW c2)<|A2<|aH [0,2,0,0,0,2,0,0,0,0,2,0,0,0,2,0,0,2,0,0,0,2,0,0,0,0,0] Z<|Ak (p:=zP w1.heap.size) 0 Bg Z Z Aa<|Ah (p:=Ao (zP w1.heap.size) 0) (.inr Z) (zI ex.kind) AC Z (a9.ldp (i:=0) sM) Aa ?_
     by_cases c3:ex.kind=((10:Nat):Int)
     ·refine Al true Z Z (A5 c3) Aa<|Ad 1 Z<|Ak (p:=zP w1.heap.size) 3 Di Z Z (Ae (e:=129) Z Z Z)<|Ah (p:=Ao (zP w1.heap.size) 3) (.inr Z) (zI ex.count) AC Z (a9.ldp (i:=3) sM) (Ae (e:=129) Z Z Z) ?_
      by_cases c4:ex.count≠((0:Nat):Int)
      ·exact B3 true Z Z (A5 c4) (Ae (e:=129) Z Z Z)<|Ac 20 Z<|Ag Z<|aI Z<|A1<|AF<|Am<|Af [6] Z (.bool false) Z ⟨BW,a8⟩
      refine B3 false Z Z (A6 c4) (Ae (e:=129) Z Z Z)<|Ad 2 Z<|Ak (p:=zP w1.heap.size) 0 Bg Z Z (Ae (e:=134) Z Z Z)<|Ah (p:=Ao (zP w1.heap.size) 0) (.inr Z) (zI ex.kind) AC Z (a9.ldp (i:=0) sM) (Ae (e:=134) Z Z Z) ?_
      by_cases c5:ex.kind=((11:Nat):Int)
      ·refine Al true Z Z (A5 c5) (Ae (e:=134) Z Z Z)<|Ad 1 Z<|Ak (p:=zP e8.heap.size) 2 BV Z Z (Ae (e:=138) Z Z Z)<|Ah (p:=Ao (zP e8.heap.size) 2) (.inr Z) aa Bf Z (ac.ldp (i:=2) sM) (Ae (e:=138) Z Z Z)<|AO (v:=aa) CZ Z ao.rn.isSl (Ae (e:=138) Z Z Z)<|Ak (p:=zP e8.heap.size) 1 Ck Z Z (Ae (e:=138) Z Z Z)<|Ah (p:=Ao (zP e8.heap.size) 1) (.inr Z) (zI<|(p.getD ((ex.num).toNat) Fn.zero).params) AC Z (ac.ldp (i:=1) sM) (Ae (e:=138) Z Z Z) ?_
       by_cases c6:((((p.getD ((ex.num).toNat) Fn.zero).outs).length:Nat):Int)≠(p.getD ((ex.num).toNat) Fn.zero).params
       ·exact B3 true Z Z (A5 c6) (Ae (e:=138) Z Z Z)<|Ac 8 Z<|Ag Z<|aI Z<|A1<|AF<|Am<|Af [6] Z (.bool false) Z ⟨BW,a8⟩
       refine B3 false Z Z (A6 c6) (Ae (e:=138) Z Z Z)<|Ad 1 Z<|Ak (p:=zP w1.heap.size) 3 Di Z Z (Ae (e:=145) Z Z Z)<|Ah (p:=Ao (zP w1.heap.size) 3) (.inr Z) (zI ex.count) AC Z (a9.ldp (i:=3) sM) (Ae (e:=145) Z Z Z)<|AA 117 [] [] [zI ex.count,zI ((0:Nat):Int),zI ((8:Nat):Int)] Z Z CT (Ae (e:=145) Z Z Z) (.bool (decide (((0:Nat):Int)≤ex.count) && decide (ex.count≤((8:Nat):Int)))) (fun wq=>AV wq _ _ _ hex.rng.count oM oM)<|Br (!(decide (((0:Nat):Int)≤ex.count) && decide (ex.count≤((8:Nat):Int)))) Z Z (Ae (e:=145) Z Z Z) ?_
       refine Ac 3 Z ?_
       cases c7:(!(decide (((0:Nat):Int)≤ex.count) && decide (ex.count≤((8:Nat):Int))))
       ·exact Ai (by first|rfl|exact zW c7)<|A2 ⟨(),_,rfl,zR,⟨a8,az,a9,If⟩⟩
       exact Ag (by first|rfl|exact zW c7)<|aI Z<|A1<|AF<|Am<|Af [6] Z (.bool false) Z ⟨BW,a8⟩
      exact Al false Z Z (A6 c5) (Ae (e:=134) Z Z Z)<|Ac 15 Z<|Ai Z<|A2 ⟨(),_,rfl,zR,⟨a8,az,a9,If⟩⟩
     refine Al false Z Z (A6 c3) Aa<|Ad 6 Z<|Ak (p:=zP w1.heap.size) 0 Bg Z Z (Ae (e:=134) Z Z Z)<|Ah (p:=Ao (zP w1.heap.size) 0) (.inr Z) (zI ex.kind) AC Z (a9.ldp (i:=0) sM) (Ae (e:=134) Z Z Z) ?_
     by_cases c8:ex.kind=((11:Nat):Int)
     ·refine Al true Z Z (A5 c8) (Ae (e:=134) Z Z Z)<|Ad 1 Z<|Ak (p:=zP e8.heap.size) 2 BV Z Z (Ae (e:=138) Z Z Z)<|Ah (p:=Ao (zP e8.heap.size) 2) (.inr Z) aa Bf Z (ac.ldp (i:=2) sM) (Ae (e:=138) Z Z Z)<|AO (v:=aa) CZ Z ao.rn.isSl (Ae (e:=138) Z Z Z)<|Ak (p:=zP e8.heap.size) 1 Ck Z Z (Ae (e:=138) Z Z Z)<|Ah (p:=Ao (zP e8.heap.size) 1) (.inr Z) (zI<|(p.getD ((ex.num).toNat) Fn.zero).params) AC Z (ac.ldp (i:=1) sM) (Ae (e:=138) Z Z Z) ?_
      by_cases c9:((((p.getD ((ex.num).toNat) Fn.zero).outs).length:Nat):Int)≠(p.getD ((ex.num).toNat) Fn.zero).params
      ·exact B3 true Z Z (A5 c9) (Ae (e:=138) Z Z Z)<|Ac 8 Z<|Ag Z<|aI Z<|A1<|AF<|Am<|Af [6] Z (.bool false) Z ⟨BW,a8⟩
      refine B3 false Z Z (A6 c9) (Ae (e:=138) Z Z Z)<|Ad 1 Z<|Ak (p:=zP w1.heap.size) 3 Di Z Z (Ae (e:=145) Z Z Z)<|Ah (p:=Ao (zP w1.heap.size) 3) (.inr Z) (zI ex.count) AC Z (a9.ldp (i:=3) sM) (Ae (e:=145) Z Z Z)<|AA 117 [] [] [zI ex.count,zI ((0:Nat):Int),zI ((8:Nat):Int)] Z Z CT (Ae (e:=145) Z Z Z) (.bool (decide (((0:Nat):Int)≤ex.count) && decide (ex.count≤((8:Nat):Int)))) (fun wq=>AV wq _ _ _ hex.rng.count oM oM)<|Br (!(decide (((0:Nat):Int)≤ex.count) && decide (ex.count≤((8:Nat):Int)))) Z Z (Ae (e:=145) Z Z Z) ?_
      refine Ac 3 Z ?_
      cases ca:(!(decide (((0:Nat):Int)≤ex.count) && decide (ex.count≤((8:Nat):Int))))
      ·exact Ai (by first|rfl|exact zW ca)<|A2 ⟨(),_,rfl,zR,⟨a8,az,a9,If⟩⟩
      exact Ag (by first|rfl|exact zW ca)<|aI Z<|A1<|AF<|Am<|Af [6] Z (.bool false) Z ⟨BW,a8⟩
     exact Al false Z Z (A6 c8) (Ae (e:=134) Z Z Z)<|Ac 15 Z<|Ai Z<|A2 ⟨(),_,rfl,zR,⟨a8,az,a9,If⟩⟩
    exact Ag (by first|rfl|exact zW c2)<|aI Z<|A1<|Am<|AF<|Am<|Af [6] Z (.bool false) Z ⟨BW,a8⟩
   exact Ag (by first|rfl|exact zW bx)<|aI Z<|A1<|Am<|AF<|Am<|Af [6] Z (.bool false) Z ⟨BW,an⟩
  refine Ag (by first|rfl|exact zW bo)<|aH [0,0,0,0,2,0,0,0,0,0,0] Z ?_
  have h5k:=of_decide_eq_true (h5b.symm.trans ‹_›)
  clear h5b
  refine Ad 1 Z<|Br (!pl) Z Z Aa<|Ad 1 Z ?_
  cases dv:(!pl)
  ·refine Ak (p:=zP w1.heap.size) 1 BE Z Z (Ae (e:=60) Z Z Z)<|Ah (p:=Ao (zP w1.heap.size) 1) (.inr Z) (zI ex.num) AC Z (a0.ldp (i:=1) sM) (Ae (e:=60) Z Z Z) ?_
   by_cases cb:ex.num≠((0:Nat):Int)
   ·exact B3 true Z Z (A5 cb) (Ae (e:=60) Z Z Z)<|Ac 5 Z<|Ag Z<|aI Z<|A1<|AF<|Am<|Af [6] Z (.bool false) Z ⟨BW,a2⟩
   refine B3 false Z Z (A6 cb) (Ae (e:=60) Z Z Z)<|Ad 3 Z ?_
   by_cases cc:(ex.kids.length:Int)≠((2:Nat):Int)
   ·exact B3 true Z Z (A5 cc) (Ae (e:=65) Z Z Z)<|Ac 1 Z<|Ag Z<|aI Z<|A1<|AF<|Am<|Af [6] Z (.bool false) Z ⟨BW,a2⟩
   exact B3 false Z Z (A6 cc) (Ae (e:=65) Z Z Z)<|Ac 1 Z<|Ai Z<|A2 ⟨(),_,rfl,zR,⟨a2,a3,a0,If⟩⟩
  exact Ac 8 Z<|Ag Z<|aI Z<|A1<|AF<|Am<|Af [6] Z (.bool false) Z ⟨BW,a2⟩
 clear a1 a4 ag bf
 rintro u ρ8 w8 ⟨cx,ap,ah,hwn⟩
 have cy:w.heap.size≤w8.heap.size:=cx.size
 have dw:=ap.lt
 have dx:=ah.lt
 refine A0<|aH [0,2,0,0] Z<|Ak (p:=zP w1.heap.size) 4 B8 Z Z Aa<|Ah (p:=Ao (zP w1.heap.size) 4) (.inr Z) ve Bf Z (ah.ldp (i:=4) sM) Aa<|AO (v:=ve) CZ Z hex.rn.isSl Aa<|Ac 1 Z<|A3 ?_
 refine AW (S:=Nat) (fun k=>([(156,zI (k:Int)),(2,zI vars),(3,zP w.heap.size),(4,zP w1.heap.size),(154,ve),(155,zI (ex.kids.length:Int))])) (fun k W=>AG w W∧BX W.heap w.heap.size [vp,zI funcs]∧BX W.heap w1.heap.size [zI ex.kind,zI ex.num,zI ex.pick,zI ex.count,ve]∧k≤ex.kids.length∧(∀j,j<k→wf p funcs (ex.kids.getD j Ex.zero) (if ex.kind=9∧j=1 then vars+1 else vars)=true)) (fun k=>ex.kids.length-k) 0 ⟨rfl,rfl,rfl,rfl,rfl,rfl,trivial⟩ ⟨cx,ap,ah,sD,(by intro j hj;omega)⟩ ?_
 clear ah ap cx cy
 rintro k ρ65 eb ⟨b0,ae,af,cz,hall⟩
 have d9:w.heap.size≤eb.heap.size:=b0.size
 have dy:=ae.lt
 have dz:=af.lt
 refine aH [0] Z ?_
 by_cases cd:(k:Int)<(ex.kids.length:Int)
 ·refine AE true Z Z (A5 cd) Aa<|Aj<|A0<|Ag Z<|A2<|A0<|A3<|aH [0,0,2,3,0,4] Z ?_
  have hkd:=D7 (l:=ex.kids) (k:=k) oM
  refine Ad 1 Z<|Az (v:=ve) k CZ Bm Z Z hex.rn.isSl Z sD Aa ?_
  obtain⟨cs69,d0,d1⟩:=hex.rn.get (Aw dex) Ex.zero (k:=k) sD
  obtain⟨dd69,a5,e0,rfl,aq⟩:=RX.of d0
  have ce:=aq.rn.lenle
  unfold maxLen at ce
  refine AL (p:=Ax ve k 5) (.inr Z) [zI<|(ex.kids.getD k Ex.zero).kind,zI<|(ex.kids.getD k Ex.zero).num,zI<|(ex.kids.getD k Ex.zero).pick,zI<|(ex.kids.getD k Ex.zero).count,a5] B6 Z (fun e9 ad=>d1 e9<|As.of_ext []<|b0.trans ad) Z Aa ?_
  have e1:=ae.lt
  have e2:=af.lt
  refine Bp (z:=.agg #[zI 0,zI 0,zI 0,zI 0,zN]) Ha Aa fun eh b1 e3 be=>?_
  have da:=b1.size
  have cf:=b0.trans b1
  have ak:=ae.ext b1
  have al:=af.ext b1
  replace be:BX eh.heap eb.heap.size [zI 0,zI 0,zI 0,zI 0,zN]:=be
  refine Ad 1 Z (Bw (vs:=[zI<|(ex.kids.getD k Ex.zero).kind,zI<|(ex.kids.getD k Ex.zero).num,zI<|(ex.kids.getD k Ex.zero).pick,zI<|(ex.kids.getD k Ex.zero).count,a5]) B6 Z Z aq.ones be Z Z Aa fun ea b2 e4 ar=>?_)
  replace ar:BX ea.heap eb.heap.size [zI ((ex.kids.getD k Ex.zero).kind),zI ((ex.kids.getD k Ex.zero).num),zI ((ex.kids.getD k Ex.zero).pick),zI ((ex.kids.getD k Ex.zero).count),a5]:=ar
  have ab:AG w ea:=b2.below cf (fun _ h=>zE h) cf.size
  have db:=b2.size
  have am:=ak.chg b2 (zB ·)
  have b3:=al.chg b2 (zB ·)
  refine Aj<|aH [0,0] Z<|Ac 2 Z<|A0<|aH [0,2,0,0,0,0,0] Z<|Ak (p:=zP w1.heap.size) 0 Bg Z Z Aa<|Ah (p:=Ao (zP w1.heap.size) 0) (.inr Z) (zI ex.kind) AC Z (b3.ldp (i:=0) sM) Aa ?_
  by_cases cg:ex.kind=((9:Nat):Int)
  ·refine Al true Z Z (A5 cg) Aa<|Ad 2 Z ?_
   by_cases ch:(k:Int)=((1:Nat):Int)
   ·refine Al true Z Z (A5 ch) (Ae (e:=165) Z Z Z)<|Ac 1 Z<|Ag Z<|Ab _ [0,0,0] Z<|Ad 1 Z<|AN (vars+1) Z Z (Dp oM oM) Aa<|Ac 1 Z<|aH [2,2,0,3,0] Z<|AL (p:=zP w.heap.size) (.inr Z) [vp,zI funcs] Or Z (fun e9 ad=>LD.of_box<|BX.ext (w:=ea) am ad) Z Aa<|AL (p:=zP eb.heap.size) (.inr Z) [zI<|(ex.kids.getD k Ex.zero).kind,zI<|(ex.kids.getD k Ex.zero).num,zI<|(ex.kids.getD k Ex.zero).pick,zI<|(ex.kids.getD k Ex.zero).count,a5] B6 Z (fun e9 ad=>LD.of_box<|BX.ext (w:=ea) ar ad) Z Aa<|Ad 1 Z ?_
    refine Au 237 [] [] [.agg #[vp,zI funcs],.agg #[zI<|(ex.kids.getD k Ex.zero).kind,zI<|(ex.kids.getD k Ex.zero).num,zI<|(ex.kids.getD k Ex.zero).pick,zI<|(ex.kids.getD k Ex.zero).count,a5],zI (vars+1)] Z Z PG Aa (ih dd69 oM _ dp vp (p) (funcs) a5 (ex.kids.getD k Ex.zero) _ (hp.ext (An<|Ay dp) ab) _hfuncs (aq.ext ab) oM oM oM) ?_
    rintro ei ej ⟨rfl,au⟩
    refine⟨_,rfl,au,?_⟩
    have dc:=au.size
    have ci:=ab.trans au
    have b4:=am.ext au
    have b6:=b3.ext au
    refine Br (!(wf p funcs (ex.kids.getD k Ex.zero) (vars+1))) Z Z Aa<|Aj ?_
    cases cj:(!(wf p funcs (ex.kids.getD k Ex.zero) (vars+1)))
    ·refine Ai (by first|rfl|exact zW cj)<|A2<|Ab _ [0,0] Z<|AN ((k+1:Nat):Int) Z Z (Be oM sD) Aa<|Ac 1 Z ?_
     exact⟨k+1,_,rfl,zR,⟨ci,b4,b6,sD,Ou⟩,zD⟩
    exact Ag (by first|rfl|exact zW cj)<|aI Z<|A1<|AF<|Am<|Am<|AF<|Am<|Af [6] Z (.bool false) Z ⟨BW,ci⟩
   refine Al false Z Z (A6 ch) (Ae (e:=165) Z Z Z)<|Ac 1 Z<|Ai Z<|A2<|aH [2,2,0,3,0] Z<|AL (p:=zP w.heap.size) (.inr Z) [vp,zI funcs] Or Z (fun e9 ad=>LD.of_box<|BX.ext (w:=ea) am ad) Z Aa<|AL (p:=zP eb.heap.size) (.inr Z) [zI<|(ex.kids.getD k Ex.zero).kind,zI<|(ex.kids.getD k Ex.zero).num,zI<|(ex.kids.getD k Ex.zero).pick,zI<|(ex.kids.getD k Ex.zero).count,a5] B6 Z (fun e9 ad=>LD.of_box<|BX.ext (w:=ea) ar ad) Z Aa<|Ad 1 Z ?_
   refine Au 237 [] [] [.agg #[vp,zI funcs],.agg #[zI<|(ex.kids.getD k Ex.zero).kind,zI<|(ex.kids.getD k Ex.zero).num,zI<|(ex.kids.getD k Ex.zero).pick,zI<|(ex.kids.getD k Ex.zero).count,a5],zI vars] Z Z PG Aa (ih dd69 oM _ dp vp (p) (funcs) a5 (ex.kids.getD k Ex.zero) _ (hp.ext (An<|Ay dp) ab) _hfuncs (aq.ext ab) _hvars oM oM) ?_
   rintro ek el ⟨rfl,av⟩
   refine⟨_,rfl,av,?_⟩
   have dd:=av.size
   have ck:=ab.trans av
   have b7:=am.ext av
   have b8:=b3.ext av
   refine Br (!(wf p funcs (ex.kids.getD k Ex.zero) vars)) Z Z Aa<|Aj ?_
   cases cl:(!(wf p funcs (ex.kids.getD k Ex.zero) vars))
   ·refine Ai (by first|rfl|exact zW cl)<|A2<|Ab _ [0,0] Z<|AN ((k+1:Nat):Int) Z Z (Be oM sD) Aa<|Ac 1 Z ?_
    exact⟨k+1,_,rfl,zR,⟨ck,b7,b8,sD,Ou⟩,zD⟩
   exact Ag (by first|rfl|exact zW cl)<|aI Z<|A1<|AF<|Am<|Am<|AF<|Am<|Af [6] Z (.bool false) Z ⟨BW,ck⟩
  refine Al false Z Z (A6 cg) Aa<|Ac 4 Z<|Ai Z<|A2<|aH [2,2,0,3,0] Z<|AL (p:=zP w.heap.size) (.inr Z) [vp,zI funcs] Or Z (fun e9 ad=>LD.of_box<|BX.ext (w:=ea) am ad) Z Aa<|AL (p:=zP eb.heap.size) (.inr Z) [zI<|(ex.kids.getD k Ex.zero).kind,zI<|(ex.kids.getD k Ex.zero).num,zI<|(ex.kids.getD k Ex.zero).pick,zI<|(ex.kids.getD k Ex.zero).count,a5] B6 Z (fun e9 ad=>LD.of_box<|BX.ext (w:=ea) ar ad) Z Aa<|Ad 1 Z ?_
  refine Au 237 [] [] [.agg #[vp,zI funcs],.agg #[zI<|(ex.kids.getD k Ex.zero).kind,zI<|(ex.kids.getD k Ex.zero).num,zI<|(ex.kids.getD k Ex.zero).pick,zI<|(ex.kids.getD k Ex.zero).count,a5],zI vars] Z Z PG Aa (ih dd69 oM _ dp vp (p) (funcs) a5 (ex.kids.getD k Ex.zero) _ (hp.ext (An<|Ay dp) ab) _hfuncs (aq.ext ab) _hvars oM oM) ?_
  rintro em en ⟨rfl,aw⟩
  refine⟨_,rfl,aw,?_⟩
  have de:=aw.size
  have cm:=ab.trans aw
  have b9:=am.ext aw
  have ba:=b3.ext aw
  refine Br (!(wf p funcs (ex.kids.getD k Ex.zero) vars)) Z Z Aa<|Aj ?_
  cases cn:(!(wf p funcs (ex.kids.getD k Ex.zero) vars))
  ·refine Ai (by first|rfl|exact zW cn)<|A2<|Ab _ [0,0] Z<|AN ((k+1:Nat):Int) Z Z (Be oM sD) Aa<|Ac 1 Z ?_
   exact⟨k+1,_,rfl,zR,⟨cm,b9,ba,sD,Ou⟩,zD⟩
  exact Ag (by first|rfl|exact zW cn)<|aI Z<|A1<|AF<|Am<|Am<|AF<|Am<|Af [6] Z (.bool false) Z ⟨BW,cm⟩
 exact AE false Z Z (A6 cd) Aa<|Aj<|A0<|Ai Z<|A4<|Av<|Av<|Aq<|aI Z<|A1<|Af [6] Z (.bool true) Z ⟨BW,b0⟩
theorem Ov {s:ByteArray}{k:Nat}(hk:k<s.size)(h:(J5 s k<97∨122<J5 s k)∧(k=0∨J5 s k<48∨57<J5 s k)):false=Kz s:=by
  have hc:U1 s k=false:=by
    unfold U1
    rcases h with⟨h1|h1,h2|h2|h2⟩ <;> simp <;> omega
  unfold Kz
  rw[Jh hk hc,Bool.and_false]
theorem PN {s:ByteArray}{k:Nat}(h:(97≤J5 s k∧J5 s k≤122)∨(k≠0∧48≤J5 s k∧J5 s k≤57)):U1 s k=true:=by
  unfold U1
  rcases h with h|h <;> simp <;> omega
theorem Sz {s:ByteArray}{k:Nat}{b:Bool}(h:(List.range k).all (U1 s)=true)(hk:k=s.size)(hb:b=(decide (1≤s.size) && decide (s.size≤12))):b=Kz s:=by
  subst hk
  unfold Kz
  rw[h,Bool.and_true,hb]
theorem Hf {p:Prop}(h:p:=by first|exact AJ (Ov (k:=k) oM oM)|exact AJ (Sz hq oM (by first|(rw[A5 (show 1≤s.size by omega),Bool.true_and];exact decide_eq_decide.2 oM)|(rw[A6 (show ¬1≤s.size by omega)];rfl)))):p:=h
theorem Ls (w:World)(s:ByteArray)  (hl:s.size≤1000000000) :
  Calls Tryz.prog 203 #[.string s] w (fun e w'=>e=.returned (.bool (Kz s))∧w'=w):=by
 refine Ap [.string s] 44 Tryz.func203 Z Z sM ?_
 have a3:w=w:=rfl
 refine aI Z<|A0<|aH [0,0,0] Z<|Ad 1 Z<|Kp (s:=s) u9 Z Aa<|Ac 1 Z<|A3 ?_
 refine AW (S:=Nat) (fun k=>([(6,zI (k:Int)),(0,.string s),(5,zI (s.size:Int))])) (fun k W=>W=w∧k≤s.size∧(List.range k).all (U1 s)=true) (fun k=>s.size-k) 0 ⟨rfl,rfl,rfl,trivial⟩ ⟨a3,sD,(by rfl)⟩ ?_
 clear a3
 rintro k ρ1 w1 ⟨a0,a4,hq⟩
 refine aH [0] Z ?_
 by_cases a5:(k:Int)<(s.size:Int)
 ·refine AE true Z Z (A5 a5) Aa<|Aj<|A0<|Ag Z<|A2<|A0<|A3<|aH [0,0] Z<|Ac 2 Z<|aH [0,0,0,0,0,0,0,0,0,0,0,0,0,0,0,0,0,0,0,0,0,0,0,0,0,0] Z<|Ad 2 Z<|D2 (s:=s) k u9 Z Z Z sD Aa ?_
  by_cases a6:((J5 s k:Nat):Int)<97
  ·refine AE true Z Z (A5 a6) Aa<|Ad 8 Z ?_
   by_cases a7:(k:Int)=((0:Nat):Int)
   ·exact Al true Z Z (A5 a7) (Ae (e:=19) Z Z Z)<|Ac 13 Z<|Ag Z<|aI Z<|A1<|AF<|Am<|Am<|AF<|Am<|Af [2] Z (.bool false) Z ⟨Hf,a0⟩
   refine Al false Z Z (A6 a7) (Ae (e:=19) Z Z Z)<|Ad 3 Z<|D2 (s:=s) k u9 Z Z Z sD (Ae (e:=22) Z Z Z) ?_
   by_cases a8:((J5 s k:Nat):Int)<48
   ·exact AE true Z Z (A5 a8) (Ae (e:=22) Z Z Z)<|Ac 8 Z<|Ag Z<|aI Z<|A1<|AF<|Am<|Am<|AF<|Am<|Af [2] Z (.bool false) Z ⟨Hf,a0⟩
   refine AE false Z Z (A6 a8) (Ae (e:=22) Z Z Z)<|Ad 4 Z<|D2 (s:=s) k u9 Z Z Z sD (Ae (e:=28) Z Z Z) ?_
   by_cases a9:57<((J5 s k:Nat):Int)
   ·exact BN true Z Z (A5 a9) (Ae (e:=28) Z Z Z)<|Ac 2 Z<|Ag Z<|aI Z<|A1<|AF<|Am<|Am<|AF<|Am<|Af [2] Z (.bool false) Z ⟨Hf,a0⟩
   refine BN false Z Z (A6 a9) (Ae (e:=28) Z Z Z)<|Ac 2 Z<|Ai Z<|A2<|Ab _ [0,0] Z<|AN ((k+1:Nat):Int) Z Z (Be oM sD) Aa<|Ac 1 Z ?_
   exact⟨k+1,_,rfl,zR,⟨a0,sD,(by exact DE hq (PN oM))⟩,zD⟩
  refine AE false Z Z (A6 a6) Aa<|Ad 3 Z<|D2 (s:=s) k u9 Z Z Z sD (Ae (e:=13) Z Z Z) ?_
  by_cases aa:122<((J5 s k:Nat):Int)
  ·refine BN true Z Z (A5 aa) (Ae (e:=13) Z Z Z)<|Ad 3 Z ?_
   by_cases ab:(k:Int)=((0:Nat):Int)
   ·exact Al true Z Z (A5 ab) (Ae (e:=19) Z Z Z)<|Ac 13 Z<|Ag Z<|aI Z<|A1<|AF<|Am<|Am<|AF<|Am<|Af [2] Z (.bool false) Z ⟨Hf,a0⟩
   refine Al false Z Z (A6 ab) (Ae (e:=19) Z Z Z)<|Ad 3 Z<|D2 (s:=s) k u9 Z Z Z sD (Ae (e:=22) Z Z Z) ?_
   by_cases ac:((J5 s k:Nat):Int)<48
   ·exact AE true Z Z (A5 ac) (Ae (e:=22) Z Z Z)<|Ac 8 Z<|Ag Z<|aI Z<|A1<|AF<|Am<|Am<|AF<|Am<|Af [2] Z (.bool false) Z ⟨Hf,a0⟩
   refine AE false Z Z (A6 ac) (Ae (e:=22) Z Z Z)<|Ad 4 Z<|D2 (s:=s) k u9 Z Z Z sD (Ae (e:=28) Z Z Z) ?_
   by_cases a1:57<((J5 s k:Nat):Int)
   ·exact BN true Z Z (A5 a1) (Ae (e:=28) Z Z Z)<|Ac 2 Z<|Ag Z<|aI Z<|A1<|AF<|Am<|Am<|AF<|Am<|Af [2] Z (.bool false) Z ⟨Hf,a0⟩
   refine BN false Z Z (A6 a1) (Ae (e:=28) Z Z Z)<|Ac 2 Z<|Ai Z<|A2<|Ab _ [0,0] Z<|AN ((k+1:Nat):Int) Z Z (Be oM sD) Aa<|Ac 1 Z ?_
   exact⟨k+1,_,rfl,zR,⟨a0,sD,(by exact DE hq (PN oM))⟩,zD⟩
  refine BN false Z Z (A6 aa) (Ae (e:=13) Z Z Z)<|Ac 17 Z<|Ai Z<|A2<|Ab _ [0,0] Z<|AN ((k+1:Nat):Int) Z Z (Be oM sD) Aa<|Ac 1 Z ?_
  exact⟨k+1,_,rfl,zR,⟨a0,sD,(by exact DE hq (PN oM))⟩,zD⟩
 refine AE false Z Z (A6 a5) Aa<|Aj<|A0<|Ai Z<|A4<|Av<|Av<|Aq<|aH [0,0,0,0,0,0,0,0,0] Z<|Ad 1 Z<|Kp (s:=s) u9 Z Aa ?_
 by_cases a2:((1:Nat):Int)≤(s.size:Int)
 ·exact Fp true Z Z (A5 a2) Aa<|Ad 2 Z<|Kp (s:=s) u9 Z (Ae (e:=39) Z Z Z)<|DJ (decide ((s.size:Int)≤((12:Nat):Int))) Z Z Z (Ae (e:=39) Z Z Z)<|Ac 2 Z<|A1<|Af [2] Z (.bool<|decide ((s.size:Int)≤((12:Nat):Int))) Z ⟨Hf,a0⟩
 exact Fp false Z Z (A6 a2) Aa<|Ac 6 Z<|A1<|Af [2] Z (.bool false) Z ⟨Hf,a0⟩
theorem GP (w:World)(dx:Nat)(vo:Value)(x:Fn)(bf:Nat)(vf:Value)(f:Fn)(hx:RF [] dx w.heap vo x)(hBf:BX w.heap bf [.string f.name,zI f.params,vf])  :
  Calls Tryz.prog 204 #[(.agg #[(.string x.name),(zI x.params),vo]),zP bf] w (fun e w'=>e=.returned (.bool (I6 x.name f.name))∧AG w w'):=by
 refine Ap [.agg #[.string x.name,zI x.params,vo],zP bf] 9 Tryz.func204 Z Z sM ?_
 have a3:AG w w:=AG.refl w
 have a8:=hx.rn.lenle
 unfold maxLen at a8
 refine aH [3,0] Z ?_
 have a6:=hBf.lt
 refine Bu (cs:=#[.string x.name,zI x.params,vo]) Z Aa fun w1 a1 a7 a2=>?_
 have a4:=a1.size
 have a5:=a3.trans a1
 have a0:=hBf.ext a1
 replace a2:BX w1.heap w.heap.size [.string x.name,zI x.params,vo]:=a2
 exact Ac 1 Z<|aH [0,2,0,2,0,0] Z<|Ak (p:=zP w.heap.size) 0 Jr Z Z Aa<|Ah (p:=Ao (zP w.heap.size) 0) (.inr Z) (.string x.name) Om Z (a2.ldp (i:=0) sM) Aa<|Ak (p:=zP bf) 0 Jr Z Z Aa<|Ah (p:=Ao (zP bf) 0) (.inr Z) (.string f.name) Om Z (a0.ldp (i:=0) sM) Aa<|O0 (I6 x.name f.name) u9 Z Z Z Aa<|Ac 1 Z<|A1<|Af [3] Z (.bool<|I6 x.name f.name) Z ⟨rfl,a5⟩
theorem CU (w:World) (da:Nat) (va:Value) (a:List Fn) (q:Nat) (qf qc:List Value) (pr:Fn→Bool) (ha:RP [] da w.heap va a) (hcf_q:((Tryz.prog.funcs[q]?).map fun fn=>(fn.name != "runtime.NumGoroutine") && fn.body.isSome) = some true) (hpr:∀ (d9:Nat) (u:Value) (x:Fn) w1,RF [] d9 w1.heap u x→AG w w1→Calls Tryz.prog q (qf++[Value.agg #[Value.string x.name,Value.int .i64 x.params,u]]++qc).toArray w1 (fun e w2=>e = .returned (.bool (pr x))∧AG w1 w2))  :
  Calls Tryz.prog 201 #[va,.func (.func q) qf.toArray qc.toArray] w (fun e w'=>e = .returned (zI (Ql pr a))∧AG w w'):=by
 refine Ap [va,.func (.func q) qf.toArray qc.toArray] 19 Tryz.func201 Z Z sM ?_
 have a5:AG w w:=AG.refl w
 have ag:=ha.lenle
 unfold maxLen at ag
 refine aI Z<|A0<|aH [0,0,0] Z<|Ad 1 Z<|AO (v:=va) GI Z ha.isSl Aa<|Ac 1 Z<|A3 ?_
 refine AW (S:=Nat) (fun k=>([(8,zI ((k :Nat):Int)),(0,va),(1,.func (.func q) qf.toArray qc.toArray),(7,zI ((a.length :Nat):Int))])) (fun k W=>AG w W∧k≤a.length∧(∀ j,j < k→pr (a.getD j Fn.zero) = false)) (fun k=>a.length - k) 0 ⟨rfl,rfl,rfl,rfl,trivial⟩ ⟨a5,sD,(by intro j hj; omega)⟩ ?_
 clear a5
 rintro k ρ1 w1 ⟨a1,a6,hq⟩
 have aa:w.heap.size≤w1.heap.size:=a1.size
 refine aH [0] Z ?_
 by_cases a7:((k :Nat):Int) < ((a.length :Nat):Int)
 ·
  refine AE true Z Z (A5 a7) Aa<|Aj<|A0<|Ag Z<|A2<|A0<|A3<|aH [0,0] Z<|Ac 2 Z<|aH [0,0,0,0,2,3] Z<|Ad 3 Z<|Az (v:=va) k GI Cy Z Z ha.isSl Z sD Aa ?_
  obtain ⟨cs3,ab,ac⟩:=ha.get (Ay da) Fn.zero (k:=k) sD
  obtain ⟨a8,rfl,a2⟩:=RF.of ab
  have a3:=a2.rn.lenle
  unfold maxLen at a3
  refine AL (p:=Ax va k 3) (.inr Z) [.string<|(a.getD k Fn.zero).name,zI<|(a.getD k Fn.zero).params,a8] KW Z (fun ah ad=>ac ah<|As.of_ext []<|a1.trans ad) Z Aa ?_
  have a0:=hpr da a8 (a.getD k Fn.zero) w1 ⟨a2.rng,a2.rn.ext (An<|Aw da) a1⟩ a1
  refine Au q qf qc _ Z Z hcf_q Aa a0 ?_
  rintro e4 w4 ⟨rfl,a4⟩
  refine ⟨_,rfl,a4,?_⟩
  have ae:=a4.size
  have a9:=a1.trans a4
  cases af:pr (a.getD k Fn.zero)
  ·
   refine Aj<|Ai Z<|A2<|Ab _ [0,0] Z<|AN ((k + 1 :Nat):Int) Z Z (Be oM sD) Aa<|Ac 1 Z ?_
   exact ⟨k + 1,_,rfl,zR,⟨a9,sD,(by exact PM hq (by assumption))⟩,by first | omega | (dsimp only; omega)⟩
  
  exact Aj<|Ag Z<|aH [0,0] Z<|Ac 2 Z<|A1<|AF<|Am<|Am<|AF<|Am<|Af [4] Z (zI ((k :Nat):Int)) Z ⟨B1<|Sv Fn.zero hq oM (by assumption),a9⟩
 
 exact AE false Z Z (A6 a7) Aa<|Aj<|A0<|Ai Z<|A4<|Av<|Av<|Aq<|aI Z<|A1<|Af [4] Z (zI (-1)) Z ⟨B1<|UO Fn.zero hq oM,a1⟩
theorem CK (w:World) (da:Nat) (va:Value) (a:List Fn) (q:Nat) (qf qc:List Value) (pr:Fn→Bool) (ha:RP [] da w.heap va a) (hcf_q:((Tryz.prog.funcs[q]?).map fun fn=>(fn.name != "runtime.NumGoroutine") && fn.body.isSome) = some true) (hpr:∀ (d9:Nat) (u:Value) (x:Fn) w1,RF [] d9 w1.heap u x→AG w w1→Calls Tryz.prog q (qf++[Value.agg #[Value.string x.name,Value.int .i64 x.params,u]]++qc).toArray w1 (fun e w2=>e = .returned (.bool (pr x))∧AG w1 w2))  :
  Calls Tryz.prog 133 #[va,.func (.func q) qf.toArray qc.toArray] w (fun e w'=>e = .returned (.bool (a.any pr))∧AG w w'):=by
 refine Ap [va,.func (.func q) qf.toArray qc.toArray] 9 Tryz.func133 Z Z sM ?_
 have a0:AG w w:=AG.refl w
 have a4:=ha.lenle
 unfold maxLen at a4
 refine aI Z<|aH [0,0,3,0,0] Z<|Ad 2 Z<|Au 201 [] [] [va,.func (.func q) qf.toArray qc.toArray] Z Z Yj Aa (CU _ da va (a) q qf qc pr (ha.ext (An<|Ay da) a0) hcf_q fun d9 u x w1 hx hw=>hpr d9 u x w1 hx<|a0.trans hw) ?_
 rintro e1 w1 ⟨rfl,a1⟩
 refine ⟨_,rfl,a1,?_⟩
 have a2:=a1.size
 have a3:=a0.trans a1
 exact Fp (decide (((0 :Nat):Int)≤Ql pr a)) Z Z Z Aa<|Ac 1 Z<|A1<|Af [4] Z (.bool<|decide (((0 :Nat):Int)≤Ql pr a)) Z ⟨AJ<|UP pr a,a3⟩
theorem KZ (w:World)(vars:Int)(_hvars:Bt vars)  :
  Calls Tryz.prog 235 #[zI vars] w (fun e w'=>e=.returned (.bool (GS vars 0 412))∧w'=w):=by
 refine Ap [zI vars] 5 Tryz.func235 Z Z sM ?_
 have a0:w=w:=rfl
 exact aI Z<|aH [0,0,0] Z<|Ad 1 Z<|AA 117 [] [] [zI vars,zI ((0:Nat):Int),zI ((412:Nat):Int)] Z Z CT Aa (.bool (decide (((0:Nat):Int)≤vars) && decide (vars≤((412:Nat):Int)))) (fun wq=>AV wq _ _ _ _hvars oM oM)<|Ac 1 Z<|A1<|Af [2] Z (.bool (decide (((0:Nat):Int)≤vars) && decide (vars≤((412:Nat):Int)))) Z ⟨rfl,a0⟩
theorem PO {p:List Fn}{e:Ex}{vars funcs:Int}(h:(0≤vars∧vars≤412)∧(0≤funcs∧funcs≤((p.length:Nat):Int))∧e.size≤400∧e.deep≤60):wf p funcs e vars=Lq p e vars funcs:=by
  unfold Lq
  rw[BJ.2 h.1,BJ.2 h.2.1,A5 h.2.2.1,A5 h.2.2.2];rfl
theorem Mc {p:List Fn}{e:Ex}{vars funcs:Int}(h:¬((0≤vars∧vars≤412)∧(0≤funcs∧funcs≤((p.length:Nat):Int))∧e.size≤400∧e.deep≤60)):false=Lq p e vars funcs:=by
  cases hh:Lq p e vars funcs with
  |false=>rfl
  |true =>
    unfold Lq at hh
    simp only[z7,decide_eq_true_eq,BJ]at hh
    exact absurd ⟨hh.1,hh.2.1,hh.2.2.1,hh.2.2.2.1⟩ h
theorem UR {p:List Fn}{e:Ex}{vars funcs:Int}(h:wf p funcs e vars=false):false=Lq p e vars funcs:=by
  unfold Lq;rw[h];simp
theorem SA {x a b:Int}(h:GS x a b=false):¬(a≤x∧x≤b):=fun hh=>by rw[BJ.2 hh]at h;cases h
theorem NR {x a b:Int}(h:(decide (a≤x) && decide (x≤b))=false):¬(a≤x∧x≤b):=SA h
theorem Hg {x a b:Int}(h:(decide (a≤x) && decide (x≤b))=true):a≤x∧x≤b:=BJ.1 h
theorem L1 {p:Prop}(h:p:=by first|exact AJ (UR (by assumption))|exact AJ (PO ⟨BJ.1 (by assumption),Hg (by assumption),zO,zO⟩)|exact AJ ((by assumption:wf p funcs ex vars=true).symm.trans (PO ⟨BJ.1 (by assumption),Hg (by assumption),zO,zO⟩))|exact AJ (Mc fun hh=>SA (by assumption) hh.1)|exact AJ (Mc fun hh=>NR (by assumption) hh.2.1)|exact AJ (Mc oM)):p:=h
theorem Jv (w:World)(dp:Nat)(vp:Value)(p:List Fn)(dex:Nat)(ve:Value)(ex:Ex)(vars:Int)(funcs:Int)(hp:RP [] dp w.heap vp p)(hex:RX [] dex w.heap ve ex)(_hvars:Bt vars)(_hfuncs:Bt funcs)(hs:ex.size≤1000000000) :
  Calls Tryz.prog 205 #[(.agg #[vp]),(.agg #[(zI ex.kind),(zI ex.num),(zI ex.pick),(zI ex.count),ve]),zI vars,zI funcs] w (fun e w'=>e=.returned (.bool (Lq p ex vars funcs))∧AG w w'):=by
 refine Ap [.agg #[vp],.agg #[zI ex.kind,zI ex.num,zI ex.pick,zI ex.count,ve],zI vars,zI funcs] 36 Tryz.func205 Z Z sM ?_
 have am:AG w w:=AG.refl w
 have az:=hp.lenle
 unfold maxLen at az
 have b0:=hex.rn.lenle
 unfold maxLen at b0
 refine aH [3,3,0] Z (Bu (cs:=#[vp]) Z Aa fun w1 ai ar ac=>?_)
 have an:=ai.size
 have ao:=am.trans ai
 replace ac:BX w1.heap w.heap.size [vp]:=ac
 have au:=ac.lt
 refine Bu (cs:=#[zI ex.kind,zI ex.num,zI ex.pick,zI ex.count,ve]) Z Aa fun w2 af av ad=>?_
 have ap:=af.size
 have ae:=ao.trans af
 have a2:=ac.ext af
 replace ad:BX w2.heap w1.heap.size [zI ex.kind,zI ex.num,zI ex.pick,zI ex.count,ve]:=ad
 refine Ac 1 Z<|aH [0,0,0,0,0,2,0,0,0,0,2,3,0,0,0,2,3,0,0,0,2,0,0,2,0,3,0,0] Z<|Ad 1 Z<|AA 235 [] [] [zI vars] Z Z Yu Aa (.bool<|GS vars 0 412) (fun wq=>KZ wq _ _hvars)<|Ad 1 Z ?_
 cases aw:(GS vars 0 412)
 ·exact Ac 25 Z<|A1<|Af [8] Z (.bool false) Z ⟨L1,ae⟩
 refine Ad 1 Z<|Ak (p:=zP w.heap.size) 0 BC Z Z (Ae (e:=11) Z Z Z)<|Ah (p:=Ao (zP w.heap.size) 0) (.inr Z) vp C2 Z (a2.ldp (i:=0) sM) (Ae (e:=11) Z Z Z)<|AO (v:=vp) GI Z hp.isSl (Ae (e:=11) Z Z Z)<|AA 117 [] [] [zI funcs,zI ((0:Nat):Int),zI (p.length:Int)] Z Z CT (Ae (e:=11) Z Z Z) (.bool (decide (((0:Nat):Int)≤funcs) && decide (funcs≤(p.length:Int)))) (fun wq=>AV wq _ _ _ _hfuncs oM oM)<|Ad 2 Z ?_
 cases ax:(decide (((0:Nat):Int)≤funcs) && decide (funcs≤(p.length:Int)))
 ·exact Ac 18 Z<|A1<|Af [8] Z (.bool false) Z ⟨L1,ae⟩
 refine AL (p:=zP w1.heap.size) (.inr Z) [zI ex.kind,zI ex.num,zI ex.pick,zI ex.count,ve] B6 Z (fun b1 a4=>LD.of_box<|BX.ext (w:=w2) ad a4) Z (Ae (e:=18) Z Z Z)<|Au 206 [] [] [.agg #[zI ex.kind,zI ex.num,zI ex.pick,zI ex.count,ve]] Z Z Sl (Ae (e:=18) Z Z Z) (GK _ dex ve (ex) (hex.ext ae) oM) ?_
 rintro e8 w8 ⟨rfl,a8⟩
 refine⟨_,rfl,a8,?_⟩
 have aq:=a8.size
 have ag:=ae.trans a8
 have a9:=a2.ext a8
 have a3:=ad.ext a8
 by_cases aj:(ex.size:Int)≤((400:Nat):Int)
 ·refine DJ true Z Z (A5 aj) (Ae (e:=18) Z Z Z)<|Ad 2 Z<|AL (p:=zP w1.heap.size) (.inr Z) [zI ex.kind,zI ex.num,zI ex.pick,zI ex.count,ve] B6 Z (fun b1 a4=>LD.of_box<|BX.ext (w:=w8) a3 a4) Z (Ae (e:=23) Z Z Z)<|Au 236 [] [] [.agg #[zI ex.kind,zI ex.num,zI ex.pick,zI ex.count,ve]] Z Z UH (Ae (e:=23) Z Z Z) (Ju _ dex ve (ex) (hex.ext ag) oM) ?_
  rintro b4 b2 ⟨rfl,a0⟩
  refine⟨_,rfl,a0,?_⟩
  have ak:=a0.size
  have a1:=ag.trans a0
  have a5:=a9.ext a0
  have a6:=a3.ext a0
  by_cases aa:(ex.deep:Int)≤((60:Nat):Int)
  ·refine DJ true Z Z (A5 aa) (Ae (e:=23) Z Z Z)<|Ad 2 Z<|AL (p:=zP w.heap.size) (.inr Z) [vp] CG Z (fun b1 a4=>LD.of_box<|BX.ext (w:=b2) a5 a4) Z (Ae (e:=28) Z Z Z)<|Ad 1 Z ?_
   have ab:∀(vp:Value) (ay:Nat) (h12_0:El vp ay) (wq:World),(Instr.build 249 #[(0,.agg #[vp]),(1,zI funcs)]).run Tryz.prog wq=.ok (.agg #[vp,zI funcs]) wq:=by intro vp ay h12_0 wq;obtain⟨a12_0,b3,rfl,_⟩:=h12_0;kernel_rfl
   refine C7 (ps:=#[(0,.agg #[vp]),(1,zI funcs)]) (.agg #[vp,zI funcs]) (by simp only[zc,zf,zh];rfl) (fun wq=>ab vp _ hp.isSl wq) (Ae (e:=28) Z Z Z)<|AL (p:=zP w1.heap.size) (.inr Z) [zI ex.kind,zI ex.num,zI ex.pick,zI ex.count,ve] B6 Z (fun b1 a4=>LD.of_box<|BX.ext (w:=b2) a6 a4) Z (Ae (e:=28) Z Z Z)<|Ad 1 Z ?_
   refine Au 237 [] [] [.agg #[vp,zI funcs],.agg #[zI ex.kind,zI ex.num,zI ex.pick,zI ex.count,ve],zI vars] Z Z PG (Ae (e:=28) Z Z Z) (Ga _ dp vp (p) (funcs) dex ve (ex) _ (hp.ext (An<|Ay dp) a1) _hfuncs (hex.ext a1) _hvars (by have h1:=BJ.1 (by assumption:GS vars 0 412=true);omega) (by have h2:=Hg (by assumption:(decide (((0:Nat):Int)≤funcs) && decide (funcs≤(p.length:Int)))=true);omega)) ?_
   rintro b5 b6 ⟨rfl,a7⟩
   refine⟨_,rfl,a7,?_⟩
   have al:=a7.size
   have ah:=a1.trans a7
   exact Ac 2 Z<|A1<|Af [8] Z (.bool<|wf p funcs ex vars) Z ⟨L1,ah⟩
  exact DJ false Z Z (A6 aa) (Ae (e:=23) Z Z Z)<|Ac 10 Z<|A1<|Af [8] Z (.bool false) Z ⟨L1,a1⟩
 exact DJ false Z Z (A6 aj) (Ae (e:=18) Z Z Z)<|Ac 15 Z<|A1<|Af [8] Z (.bool false) Z ⟨L1,ag⟩
theorem SB {p:List Fn}(h:¬p.length≤16):false=Jg p:=by unfold Jg;rw[A6 h];rfl
theorem Ih {p:List Fn}{k:Nat}(hk:k<p.length)(h:JJ p k=false):false=Jg p:=by unfold Jg;rw[Jh hk h,Bool.and_false]
theorem SD {p:List Fn}{k:Nat}(hl:p.length≤16)(hk:p.length≤k)(hk2:k≤p.length)(h:(List.range k).all (JJ p)=true):true=Jg p:=by
  have:k=p.length:=by omega
  subst this;unfold Jg;rw[h,A5 hl];rfl
section
variable {p:List Fn} {k:Nat}
theorem YN (h:Kz (p.getD k Fn.zero).name=false):JJ p k=false:=by unfold JJ;rw[h];rfl
theorem YO (h:(p.take k).any (fun g=>I6 g.name (p.getD k Fn.zero).name)=true):JJ p k=false:=by unfold JJ Q3;rw[h];simp
theorem YP (h:(decide (((0:Nat):Int)≤(p.getD k Fn.zero).params) && decide ((p.getD k Fn.zero).params≤((12:Nat):Int)))=false):JJ p k=false:=by
  have h':GS (p.getD k Fn.zero).params 0 12=false:=h
  unfold JJ;rw[h'];simp
theorem YQ (h:(decide (((1:Nat):Int)≤(((p.getD k Fn.zero).outs.length:Nat):Int)) && decide ((((p.getD k Fn.zero).outs.length:Nat):Int)≤((12:Nat):Int)))=false):JJ p k=false:=by
  have h':GS (((p.getD k Fn.zero).outs.length:Nat):Int) 1 12=false:=h
  unfold JJ;rw[h'];simp
theorem YS {j:Nat}(hj:j<(p.getD k Fn.zero).outs.length)(h:Lq p ((p.getD k Fn.zero).outs.getD j Ex.zero) (p.getD k Fn.zero).params ((k:Nat):Int)=false):JJ p k=false:=by
  unfold JJ
  rw[Jh hj h];simp
theorem YT (h:¬Ex.sizes (p.getD k Fn.zero).outs≤400):JJ p k=false:=by
  unfold JJ;rw[A6 h];simp
theorem US {j:Nat}(h1:Kz (p.getD k Fn.zero).name=true)(h2:(p.take k).any (fun g=>I6 g.name (p.getD k Fn.zero).name)=false)(h3:(decide (((0:Nat):Int)≤(p.getD k Fn.zero).params) && decide ((p.getD k Fn.zero).params≤((12:Nat):Int)))=true)(h4:(decide (((1:Nat):Int)≤(((p.getD k Fn.zero).outs.length:Nat):Int)) && decide ((((p.getD k Fn.zero).outs.length:Nat):Int)≤((12:Nat):Int)))=true)(h5:(List.range j).all (fun j=>Lq p ((p.getD k Fn.zero).outs.getD j Ex.zero) (p.getD k Fn.zero).params ((k:Nat):Int))=true)(hj:j=(p.getD k Fn.zero).outs.length)(h6:Ex.sizes (p.getD k Fn.zero).outs≤400):JJ p k=true:=by
  have h3':GS (p.getD k Fn.zero).params 0 12=true:=h3
  have h4':GS (((p.getD k Fn.zero).outs.length:Nat):Int) 1 12=true:=h4
  subst hj
  unfold JJ Q3
  rw[h1,h2,h3',h4',h5,A5 h6];rfl
end
theorem EZ {b:Bool}(h:(!b)=false):b=true:=by cases b <;> simp_all
theorem GQ {b:Bool}(h:(!b)=true):b=false:=by cases b <;> simp_all
theorem Hh {p:Prop}(h:p:=by first|exact AJ (SB oM)|exact AJ (SD oM oM oM hq)|exact AJ (Ih (k:=k) oM (YN (GQ (by assumption))))|exact AJ (Ih (k:=k) oM (YO (by assumption)))|exact AJ (Ih (k:=k) oM (YP (GQ (by assumption))))|exact AJ (Ih (k:=k) oM (YQ (GQ (by assumption))))|exact AJ (Ih (k:=k) oM (YS (j:=j) oM (GQ (by assumption))))|exact AJ (Ih (k:=k) oM (YT oM))):p:=h
theorem HI (w:World)(dp:Nat)(vp:Value)(p:List Fn)(hp:RP [] dp w.heap vp p)(hz:Qh p) :
  Calls Tryz.prog 137 #[(.agg #[vp])] w (fun e w'=>e=.returned (.bool (Jg p))∧AG w w'):=by
 refine Ap [.agg #[vp]] 65 Tryz.func137 Z Z sM ?_
 have bq:AG w w:=AG.refl w
 have ch:=hp.lenle
 unfold maxLen at ch
 refine aH [3,0] Z (Bu (cs:=#[vp]) Z Aa fun w1 be c0 aw=>?_)
 have bf:=be.size
 have bg:=bq.trans be
 replace aw:BX w1.heap w.heap.size [vp]:=aw
 refine Ac 1 Z<|A0<|aH [0,2,0,0] Z<|Ak (p:=zP w.heap.size) 0 BC Z Z Aa<|Ah (p:=Ao (zP w.heap.size) 0) (.inr Z) vp C2 Z (aw.ldp (i:=0) sM) Aa<|AO (v:=vp) GI Z hp.isSl Aa ?_
 by_cases br:((16:Nat):Int)<(p.length:Int)
 ·exact BN true Z Z (A5 br) Aa<|Aj<|Ag Z<|aI Z<|A1<|Am<|Af [2] Z (.bool false) Z ⟨Hh,bg⟩
 refine BN false Z Z (A6 br) Aa<|Aj<|Ai Z<|A2<|A0<|aH [0,2,0,0] Z<|Ak (p:=zP w.heap.size) 0 BC Z Z Aa<|Ah (p:=Ao (zP w.heap.size) 0) (.inr Z) vp C2 Z (aw.ldp (i:=0) sM) Aa<|AO (v:=vp) GI Z hp.isSl Aa<|Ac 1 Z<|A3 ?_
 refine AW (S:=Nat) (fun k=>([(15,zI (k:Int)),(1,zP w.heap.size),(13,vp),(14,zI (p.length:Int))])) (fun k W=>AG w W∧BX W.heap w.heap.size [vp]∧k≤p.length∧(List.range k).all (JJ p)=true) (fun k=>p.length-k) 0 ⟨rfl,rfl,rfl,rfl,trivial⟩ ⟨bg,aw,sD,(by rfl)⟩ ?_
 clear bq c0 be bf bg
 rintro k ρ3 w3 ⟨ax,a4,bs,hq⟩
 have bh:w.heap.size≤w3.heap.size:=ax.size
 have ce:=a4.lt
 refine aH [0] Z ?_
 by_cases bt:(k:Int)<(p.length:Int)
 ·refine AE true Z Z (A5 bt) Aa<|Aj<|A0<|Ag Z<|A2<|A0<|A3<|aH [0,0,2,3,0,4] Z<|Ad 1 Z<|Az (v:=vp) k GI Cy Z Z hp.isSl Z sD Aa ?_
  obtain⟨cs6,c1,c2⟩:=hp.get (Ay dp) Fn.zero (k:=k) sD
  obtain⟨ab,rfl,ap⟩:=RF.of c1
  have ay:=ap.rn.lenle
  unfold maxLen at ay
  refine AL (p:=Ax vp k 3) (.inr Z) [.string<|(p.getD k Fn.zero).name,zI<|(p.getD k Fn.zero).params,ab] KW Z (fun cg af=>c2 cg<|As.of_ext []<|ax.trans af) Z Aa ?_
  have cf:=a4.lt
  refine Bp (z:=.agg #[.string ByteArray.empty,zI 0,zN]) X1 Aa fun w7 bb c3 bi=>?_
  have bj:=bb.size
  have bk:=ax.trans bb
  have a5:=a4.ext bb
  replace bi:BX w7.heap w3.heap.size [.string ByteArray.empty,zI 0,zN]:=bi
  refine Ad 1 Z (Bw (vs:=[.string<|(p.getD k Fn.zero).name,zI<|(p.getD k Fn.zero).params,ab]) KW Z Z ap.ones bi Z Z Aa fun w9 bc c4 az=>?_)
  replace az:BX w9.heap w3.heap.size [.string ((p.getD k Fn.zero).name),zI ((p.getD k Fn.zero).params),ab]:=az
  have bd:AG w w9:=bc.below bk (fun _ h=>zE h) bk.size
  have bl:=bc.size
  have aq:=a5.chg bc (zB ·)
  refine Aj<|A0<|aH [0,2,0,0,0,0,2,0,0,0,3,0] Z ?_
  have hzk:=hz k oM
  refine Ak (p:=zP w3.heap.size) 0 Jr Z Z Aa<|Ah (p:=Ao (zP w3.heap.size) 0) (.inr Z) (.string<|(p.getD k Fn.zero).name) Om Z (az.ldp (i:=0) sM) Aa<|AA 203 [] [] [.string<|(p.getD k Fn.zero).name] Z Z Yk Aa (.bool<|Kz<|(p.getD k Fn.zero).name) (fun wq=>Ls wq ((p.getD k Fn.zero).name) oM)<|Br (!(Kz<|(p.getD k Fn.zero).name)) Z Z Aa<|Ad 1 Z ?_
  cases c5:(!(Kz ((p.getD k Fn.zero).name)))
  ·refine Ak (p:=zP w.heap.size) 0 BC Z Z (Ae (e:=24) Z Z Z)<|Ah (p:=Ao (zP w.heap.size) 0) (.inr Z) vp C2 Z (aq.ldp (i:=0) sM) (Ae (e:=24) Z Z Z)<|Ad 1 Z<|V8 (v:=vp) (k:=k) GI Cy Z hp.isSl hp.capS Z sD (Ae (e:=24) Z Z Z) ?_
   have b0:=RN.pref (Ay dp) (k:=k) hp sD
   refine Mf [] [zP w3.heap.size] Z Z (Ae (e:=24) Z Z Z)<|Au 133 [] [] [N8 vp k,.func (.func 204) #[] #[zP w3.heap.size]] Z Z Y4 (Ae (e:=24) Z Z Z) (CK _ dp (N8 vp k) (p.take k) 204 [] [zP w3.heap.size] (fun g=>I6 g.name (p.getD k Fn.zero).name) (b0.ext (An<|Ay dp) bd) Yl fun d9 u x w1 hx hw=>GP w1 d9 u x w3.heap.size ab (p.getD k Fn.zero) hx<|az.ext hw) ?_
   rintro cm cn ⟨rfl,a7⟩
   refine⟨_,rfl,a7,?_⟩
   have b1:=a7.size
   have ac:=bd.trans a7
   have a6:=aq.ext a7
   have a0:=az.ext a7
   refine Ac 1 Z ?_
   cases b2:((p.take k).any (fun g=>I6 g.name (p.getD k Fn.zero).name))
   ·refine Ai (by first|rfl|exact zW b2)<|A2<|A0<|aH [0,2,0,0,0,0,2,0,0,0,0] Z<|Ak (p:=zP w3.heap.size) 1 Ck Z Z Aa<|Ah (p:=Ao (zP w3.heap.size) 1) (.inr Z) (zI<|(p.getD k Fn.zero).params) AC Z (a0.ldp (i:=1) sM) Aa<|AA 117 [] [] [zI<|(p.getD k Fn.zero).params,zI ((0:Nat):Int),zI ((12:Nat):Int)] Z Z CT Aa (.bool (decide (((0:Nat):Int)≤((p.getD k Fn.zero).params)) && decide (((p.getD k Fn.zero).params)≤((12:Nat):Int)))) (fun wq=>AV wq _ _ _ ap.rng oM oM) ?_
    refine Br (!(decide (((0:Nat):Int)≤((p.getD k Fn.zero).params)) && decide (((p.getD k Fn.zero).params)≤((12:Nat):Int)))) Z Z Aa<|Ad 1 Z ?_
    cases c6:(!(decide (((0:Nat):Int)≤((p.getD k Fn.zero).params)) && decide (((p.getD k Fn.zero).params)≤((12:Nat):Int))))
    ·refine Ak (p:=zP w3.heap.size) 2 BV Z Z (Ae (e:=36) Z Z Z)<|Ah (p:=Ao (zP w3.heap.size) 2) (.inr Z) ab Bf Z (a0.ldp (i:=2) sM) (Ae (e:=36) Z Z Z)<|AO (v:=ab) CZ Z ap.rn.isSl (Ae (e:=36) Z Z Z)<|AA 117 [] [] [zI ((((p.getD k Fn.zero).outs).length:Nat):Int),zI ((1:Nat):Int),zI ((12:Nat):Int)] Z Z CT (Ae (e:=36) Z Z Z) (.bool (decide (((1:Nat):Int)≤((((p.getD k Fn.zero).outs).length:Nat):Int)) && decide (((((p.getD k Fn.zero).outs).length:Nat):Int)≤((12:Nat):Int)))) (fun wq=>AV wq _ _ _ oM oM oM) ?_
     refine Br (!(decide (((1:Nat):Int)≤((((p.getD k Fn.zero).outs).length:Nat):Int)) && decide (((((p.getD k Fn.zero).outs).length:Nat):Int)≤((12:Nat):Int)))) Z Z (Ae (e:=36) Z Z Z)<|Ac 1 Z ?_
     cases b3:(!(decide (((1:Nat):Int)≤((((p.getD k Fn.zero).outs).length:Nat):Int)) && decide (((((p.getD k Fn.zero).outs).length:Nat):Int)≤((12:Nat):Int))))
     ·refine Ai (by first|rfl|exact zW b3)<|A2<|aI Z<|A0<|aH [0,2,0,0] Z<|Ak (p:=zP w3.heap.size) 2 BV Z Z Aa<|Ah (p:=Ao (zP w3.heap.size) 2) (.inr Z) ab Bf Z (a0.ldp (i:=2) sM) Aa<|AO (v:=ab) CZ Z ap.rn.isSl Aa<|Ac 1 Z<|A3 ?_
      refine AW (S:=Nat×Nat) (fun⟨j,sz⟩=>([(5,zI (sz:Int)),(46,zI (j:Int)),(1,zP w.heap.size),(3,zI (k:Int)),(4,zP w3.heap.size),(13,vp),(14,zI (p.length:Int)),(15,zI (k:Int)),(44,ab),(45,zI ((((p.getD k Fn.zero).outs).length:Nat):Int))])) (fun⟨j,sz⟩ W=>AG w W∧BX W.heap w.heap.size [vp]∧BX W.heap w3.heap.size [.string<|(p.getD k Fn.zero).name,zI<|(p.getD k Fn.zero).params,ab]∧j≤(p.getD k Fn.zero).outs.length∧sz=Ex.sizes ((p.getD k Fn.zero).outs.take j)∧(List.range j).all (fun j=>Lq p ((p.getD k Fn.zero).outs.getD j Ex.zero) (p.getD k Fn.zero).params (k:Int))=true) (fun⟨j,sz⟩=>(p.getD k Fn.zero).outs.length-j) (0,0) ⟨rfl,rfl,rfl,rfl,rfl,rfl,rfl,rfl,rfl,rfl,trivial⟩ ⟨ac,a6,a0,sD,(by rw[List.take_zero,LM]),(by rfl)⟩ ?_
      clear a4 ax bh ay c3 bb bj bk a5 c4 bc bd bl aq a7 b1 ac a6
      rintro⟨j,sz⟩ ρ20 ci ⟨ad,a1,a3,bm,hsz,hqe⟩
      have bu:w.heap.size≤ci.heap.size:=ad.size
      have c7:=a1.lt
      have c8:=a3.lt
      refine aH [0] Z ?_
      by_cases b4:(j:Int)<((((p.getD k Fn.zero).outs).length:Nat):Int)
      ·refine AE true Z Z (A5 b4) Aa<|Aj<|A0<|Ag Z<|A2<|A0<|A3<|aH [0,2,3,4] Z<|Az (v:=ab) j CZ Bm Z Z ap.rn.isSl Z sD Aa ?_
       obtain⟨cs24,bn,bo⟩:=ap.rn.get (Aw dp) Ex.zero (k:=j) sD
       obtain⟨dd24,a2,c9,rfl,ag⟩:=RX.of bn
       have b5:=ag.rn.lenle
       unfold maxLen at b5
       refine AL (p:=Ax ab j 5) (.inr Z) [zI<|(((p.getD k Fn.zero).outs).getD j Ex.zero).kind,zI<|(((p.getD k Fn.zero).outs).getD j Ex.zero).num,zI<|(((p.getD k Fn.zero).outs).getD j Ex.zero).pick,zI<|(((p.getD k Fn.zero).outs).getD j Ex.zero).count,a2] B6 Z (fun cg af=>bo cg<|As.of_ext []<|ad.trans af) Z Aa ?_
       have ca:=a1.lt
       have cb:=a3.lt
       refine Bp (z:=.agg #[zI 0,zI 0,zI 0,zI 0,zN]) Ha Aa fun ck ah cc ar=>?_
       have bv:=ah.size
       have b6:=ad.trans ah
       have a8:=a1.ext ah
       have a9:=a3.ext ah
       replace ar:BX ck.heap ci.heap.size [zI 0,zI 0,zI 0,zI 0,zN]:=ar
       refine Bw (vs:=[zI<|(((p.getD k Fn.zero).outs).getD j Ex.zero).kind,zI<|(((p.getD k Fn.zero).outs).getD j Ex.zero).num,zI<|(((p.getD k Fn.zero).outs).getD j Ex.zero).pick,zI<|(((p.getD k Fn.zero).outs).getD j Ex.zero).count,a2]) B6 Z Z ag.ones ar Z Z Aa fun cj ai cd aj=>?_
       replace aj:BX cj.heap ci.heap.size [zI ((((p.getD k Fn.zero).outs).getD j Ex.zero).kind),zI ((((p.getD k Fn.zero).outs).getD j Ex.zero).num),zI ((((p.getD k Fn.zero).outs).getD j Ex.zero).pick),zI ((((p.getD k Fn.zero).outs).getD j Ex.zero).count),a2]:=aj
       have au:AG w cj:=ai.below b6 (fun _ h=>zE h) b6.size
       have bw:=ai.size
       have b7:=a8.chg ai (zB ·)
       have b8:=a9.chg ai (zB ·)
       refine Aj<|A0<|aH [2,2,0,2,0,3,0] Z ?_
       have hst:=Dx (l:=(p.getD k Fn.zero).outs) (k:=j) oM
       have hle:=D6 (p.getD k Fn.zero).outs (j+1)
       refine AL (p:=zP w.heap.size) (.inr Z) [vp] CG Z (fun cg af=>LD.of_box<|BX.ext (w:=cj) b7 af) Z Aa<|AL (p:=zP ci.heap.size) (.inr Z) [zI<|(((p.getD k Fn.zero).outs).getD j Ex.zero).kind,zI<|(((p.getD k Fn.zero).outs).getD j Ex.zero).num,zI<|(((p.getD k Fn.zero).outs).getD j Ex.zero).pick,zI<|(((p.getD k Fn.zero).outs).getD j Ex.zero).count,a2] B6 Z (fun cg af=>LD.of_box<|BX.ext (w:=cj) aj af) Z Aa<|Ak (p:=zP w3.heap.size) 1 Ck Z Z Aa<|Ah (p:=Ao (zP w3.heap.size) 1) (.inr Z) (zI<|(p.getD k Fn.zero).params) AC Z (b8.ldp (i:=1) sM) Aa<|Ad 1 Z ?_
       refine Au 205 [] [] [.agg #[vp],.agg #[zI<|(((p.getD k Fn.zero).outs).getD j Ex.zero).kind,zI<|(((p.getD k Fn.zero).outs).getD j Ex.zero).num,zI<|(((p.getD k Fn.zero).outs).getD j Ex.zero).pick,zI<|(((p.getD k Fn.zero).outs).getD j Ex.zero).count,a2],zI<|(p.getD k Fn.zero).params,zI (k:Int)] Z Z Ym Aa (Jv _ dp vp (p) dd24 a2 (((p.getD k Fn.zero).outs).getD j Ex.zero) _ _ (hp.ext (An<|Ay dp) au) (ag.ext au) ap.rng oM oM) ?_
       rintro co cl ⟨rfl,aa⟩
       refine⟨_,rfl,aa,?_⟩
       have bx:=aa.size
       have av:=au.trans aa
       have ak:=b7.ext aa
       have al:=b8.ext aa
       have am:=aj.ext aa
       refine Br (!(Lq p (((p.getD k Fn.zero).outs).getD j Ex.zero) ((p.getD k Fn.zero).params) (k:Int))) Z Z Aa<|Aj ?_
       cases b9:(!(Lq p (((p.getD k Fn.zero).outs).getD j Ex.zero) ((p.getD k Fn.zero).params) (k:Int)))
       ·refine Ai (by first|rfl|exact zW b9)<|A2<|Ab _ [0,2,3,0,0] Z<|Ad 1 Z<|AL (p:=zP ci.heap.size) (.inr Z) [zI<|(((p.getD k Fn.zero).outs).getD j Ex.zero).kind,zI<|(((p.getD k Fn.zero).outs).getD j Ex.zero).num,zI<|(((p.getD k Fn.zero).outs).getD j Ex.zero).pick,zI<|(((p.getD k Fn.zero).outs).getD j Ex.zero).count,a2] B6 Z (fun cg af=>LD.of_box<|BX.ext (w:=cl) am af) Z Aa ?_
        refine Au 206 [] [] [.agg #[zI<|(((p.getD k Fn.zero).outs).getD j Ex.zero).kind,zI<|(((p.getD k Fn.zero).outs).getD j Ex.zero).num,zI<|(((p.getD k Fn.zero).outs).getD j Ex.zero).pick,zI<|(((p.getD k Fn.zero).outs).getD j Ex.zero).count,a2]] Z Z Sl Aa (GK _ dd24 a2 (((p.getD k Fn.zero).outs).getD j Ex.zero) (ag.ext av) oM) ?_
        rintro cp cq ⟨rfl,ae⟩
        refine⟨_,rfl,ae,?_⟩
        have bz:=ae.size
        have bp:=av.trans ae
        have an:=ak.ext ae
        have ao:=al.ext ae
        refine AN ((sz+((p.getD k Fn.zero).outs.getD j Ex.zero).size:Nat):Int) Z Z (Be oM oM) Aa<|Ac 1 Z<|Ab _ [0,0] Z<|AN ((j+1:Nat):Int) Z Z (Be oM sD) Aa<|Ac 1 Z ?_
        exact⟨(j+1,sz+((p.getD k Fn.zero).outs.getD j Ex.zero).size),_,rfl,zR,⟨bp,an,ao,sD,oM,(by exact DE hqe (EZ (by assumption)))⟩,zD⟩
       refine Ag (by first|rfl|exact zW b9)<|aI Z<|A1<|Am<|AF<|Am<|Am<|AF<|Am<|AF<|Am<|Am<|AF<|Am ?_
       exact Af [2] Z (.bool false) Z ⟨Hh,av⟩
      refine AE false Z Z (A6 b4) Aa<|Aj<|A0<|Ai Z<|A4<|Av<|Av<|Aq<|aH [0,0] Z ?_
      have hal:=LO (l:=(p.getD k Fn.zero).outs) (k:=j) oM
      refine Ad 1 Z ?_
      by_cases ba:((400:Nat):Int)<(sz:Int)
      ·exact BN true Z Z (A5 ba) Aa<|Aj<|Ag Z<|aI Z<|A1<|AF<|Am<|Am<|AF<|Am<|Af [2] Z (.bool false) Z ⟨Hh,ad⟩
      refine BN false Z Z (A6 ba) Aa<|Aj<|Ai Z<|A2<|Ab _ [0,0] Z<|AN ((k+1:Nat):Int) Z Z (Be oM sD) Aa<|Ac 1 Z ?_
      exact⟨k+1,_,rfl,zR,⟨ad,a1,sD,(by exact DE hq (US (EZ (by assumption)) (by assumption) (EZ (by assumption)) (EZ (by assumption)) hqe oM oM))⟩,zD⟩
     exact Ag (by first|rfl|exact zW b3)<|aI Z<|A1<|Am<|AF<|Am<|Am<|AF<|Am<|Af [2] Z (.bool false) Z ⟨Hh,ac⟩
    exact Ac 6 Z<|Ag Z<|aI Z<|A1<|Am<|AF<|Am<|Am<|AF<|Am<|Af [2] Z (.bool false) Z ⟨Hh,ac⟩
   exact Ag (by first|rfl|exact zW b2)<|aI Z<|A1<|Am<|AF<|Am<|Am<|AF<|Am<|Af [2] Z (.bool false) Z ⟨Hh,ac⟩
  exact Ac 7 Z<|Ag Z<|aI Z<|A1<|Am<|AF<|Am<|Am<|AF<|Am<|Af [2] Z (.bool false) Z ⟨Hh,bd⟩
 exact AE false Z Z (A6 bt) Aa<|Aj<|A0<|Ai Z<|A4<|Av<|Av<|Aq<|aI Z<|A1<|Af [2] Z (.bool true) Z ⟨Hh,ax⟩
theorem UT {p:List Fn}{f:Int}(h:Jg p=false):1=G3 p f:=by unfold G3;rw[h];rfl
theorem UU {p:List Fn}{f:Int}(h:Jg p=true)(h2:¬(0≤f∧f≤((p.length:Nat):Int)-1)):2=G3 p f:=by unfold G3;rw[if_pos h,if_neg h2]
theorem UV {p:List Fn}{f:Int}(h:Jg p=true)(h2:0≤f∧f≤((p.length:Nat):Int)-1):0=G3 p f:=by unfold G3;rw[if_pos h,if_pos h2]
theorem Ox {p:Prop}(h:p:=by first|exact B1 (UT (GQ (by assumption)))|exact B1 (UU (EZ (by assumption)) (NR (GQ (by assumption))))|exact B1 (UV (EZ (by assumption)) (Hg (EZ (by assumption))))):p:=h
theorem HV (w:World)(dp:Nat)(vp:Value)(p:List Fn)(f:Int)(hp:RP [] dp w.heap vp p)(_hf:Bt f)(hz:Qh p) :
  Calls Tryz.prog 100 #[(.agg #[vp]),zI f] w (fun e w'=>e=.returned (zI (G3 p f))∧AG w w'):=by
 refine Ap [.agg #[vp],zI f] 17 Tryz.func100 Z Z sM ?_
 have a8:AG w w:=AG.refl w
 have ad:=hp.lenle
 unfold maxLen at ad
 refine aH [3,0] Z (Bu (cs:=#[vp]) Z Aa fun w1 a4 ac a1=>?_)
 have a9:=a4.size
 have a5:=a8.trans a4
 replace a1:BX w1.heap w.heap.size [vp]:=a1
 refine Ac 1 Z<|A0<|A3<|aH [2,3,0,0] Z<|AL (p:=zP w.heap.size) (.inr Z) [vp] CG Z (fun ae aa=>LD.of_box<|BX.ext (w:=w1) a1 aa) Z Aa<|Au 137 [] [] [.agg #[vp]] Z Z Y5 Aa (HI _ dp vp (p) (hp.ext (An<|Ay dp) a5) hz) ?_
 rintro e2 w2 ⟨rfl,a2⟩
 refine⟨_,rfl,a2,?_⟩
 have ab:=a2.size
 have a3:=a5.trans a2
 have a0:=a1.ext a2
 refine Br (!(Jg p)) Z Z Aa<|Ac 1 Z ?_
 cases a6:(!(Jg p))
 ·refine Ai (by first|rfl|exact zW a6)<|aH [0,0,2,0,0,0,0,0] Z<|Ad 1 Z<|Ak (p:=zP w.heap.size) 0 BC Z Z Aa<|Ah (p:=Ao (zP w.heap.size) 0) (.inr Z) vp C2 Z (a0.ldp (i:=0) sM) Aa<|AO (v:=vp) GI Z hp.isSl Aa<|BB ((p.length:Int)-1) Z Z (Dp oM oM) Aa<|AA 117 [] [] [zI f,zI ((0:Nat):Int),zI ((p.length:Int)-1)] Z Z CT Aa (.bool (decide (((0:Nat):Int)≤f) && decide (f≤((p.length:Int)-1)))) (fun wq=>AV wq _ _ _ _hf oM oM) ?_
  refine Br (!(decide (((0:Nat):Int)≤f) && decide (f≤((p.length:Int)-1)))) Z Z Aa<|Ac 1 Z ?_
  cases a7:(!(decide (((0:Nat):Int)≤f) && decide (f≤((p.length:Int)-1))))
  ·exact Ai (by first|rfl|exact zW a7)<|A2<|aI Z<|A1<|Af [4] Z (zI ((0:Nat):Int)) Z ⟨Ox,a3⟩
  exact Ag (by first|rfl|exact zW a7)<|aI Z<|A1<|AF<|Am<|Af [4] Z (zI ((2:Nat):Int)) Z ⟨Ox,a3⟩
 exact Ag (by first|rfl|exact zW a6)<|aI Z<|A1<|AF<|Am<|Af [4] Z (zI ((1:Nat):Int)) Z ⟨Ox,a3⟩
theorem UW {p:Prop}(h:p:=by first|(rw[A5 (show((3000:Nat):Int)<((cs.length:Nat):Int) by assumption)];rfl)|(rw[A6 (show ¬((3000:Nat):Int)<((cs.length:Nat):Int) by assumption),Bool.false_or])):p:=h
theorem Lt (w:World)(vc:Value)(cs:List UInt8)(vd:Value)(ds:List UInt8)(hcs:Rd (AX rU) w.heap vc cs)(hds:Rd (AX rU) w.heap vd ds)  :
  Calls Tryz.prog 12 #[vc,vd] w (fun e w'=>e=.returned (.bool (decide (((3000:Nat):Int)<(cs.length:Int)) || decide (((3000:Nat):Int)<(ds.length:Int))))∧AG w w'):=by
 refine Ap [vc,vd] 13 Tryz.func12 Z Z sM ?_
 have a0:AG w w:=AG.refl w
 have a2:=hcs.lenle
 have a3:=hds.lenle
 refine aI Z<|aH [0,0,0,0,0,0,0,0,0] Z<|Ad 1 Z<|AO (v:=vc) Qk Z hcs.isSl Aa ?_
 by_cases a1:((3000:Nat):Int)<(cs.length:Int)
 ·exact BN true Z Z (A5 a1) Aa<|Ac 6 Z<|A1<|Af [4] Z (.bool true) Z ⟨AJ UW,a0⟩
 exact BN false Z Z (A6 a1) Aa<|Ad 2 Z<|AO (v:=vd) Qk Z hds.isSl (Ae (e:=8) Z Z Z)<|BN (decide (((3000:Nat):Int)<(ds.length:Int))) Z Z Z (Ae (e:=8) Z Z Z)<|Ac 2 Z<|A1<|Af [4] Z (.bool<|decide (((3000:Nat):Int)<(ds.length:Int))) Z ⟨AJ UW,a0⟩
theorem Lu (w:World)(va:Value)(a:List (Sr))(n:Int)(m:Int)(ha:Rd (AX (AX rI)) w.heap va a)(_hn:Bt n)(_hm:Bt m)  :
  Calls Tryz.prog 21 #[va,zI n,zI m] w (fun e w'=>e=.returned (.bool (decide ((a.length:Int)=n) && a.all (fun r=>decide ((r.length:Int)=m))))∧AG w w'):=by
 refine Ap [va,zI n,zI m] 25 Tryz.func21 Z Z sM ?_
 have a1:AG w w:=AG.refl w
 have ab:=ha.lenle
 refine aI Z<|A0<|aH [0,0,0,0] Z<|Ad 1 Z<|AO (v:=va) BH Z ha.isSl Aa<|Ad 1 Z ?_
 by_cases a2:(a.length:Int)≠n
 ·exact B3 true Z Z (A5 a2) Aa<|Aj<|Ag Z<|aI Z<|A1<|Am<|Af [6] Z (.bool false) Z ⟨AJ (by rw[A6 oM];rfl),a1⟩
 refine B3 false Z Z (A6 a2) Aa<|Aj<|Ai Z<|A2<|A0<|aI Z<|A3 ?_
 refine AW (S:=Nat) (fun k=>([(7,zI (k:Int)),(0,va),(2,zI m)])) (fun k W=>AG w W∧k≤a.length∧((a.take k).all (fun r=>decide ((r.length:Int)=m))=true)) (fun k=>a.length-k) 0 ⟨rfl,rfl,rfl,trivial⟩ ⟨a1,sD,rfl⟩ ?_
 clear a1
 rintro k ρ2 w2 ⟨a0,a3,hq⟩
 have a8:w.heap.size≤w2.heap.size:=a0.size
 refine A0<|aH [0,0,0,0] Z<|Ad 2 Z<|AO (v:=va) BH Z ha.isSl Aa ?_
 by_cases a4:(k:Int)<(a.length:Int)
 ·refine AE true Z Z (A5 a4) Aa<|Aj<|Ag Z<|A2<|A0<|A3<|aH [0,0,0,2,0,0,0] Z<|Ad 2 Z<|Az (v:=va) k BH B9 Z Z ha.isSl Z sD Aa ?_
  obtain⟨a5,a9,a6⟩:=ha.get (k:=k) [] sD
  have aa:=a6.lenle
  refine Ah (p:=Ax va k 1) (.inr Z) a5 Bk Z (Bc a0 a9) Aa<|AO (v:=a5) Bj Z a6.isSl Aa<|Ad 1 Z ?_
  by_cases a7:(((a.getD k []).length:Nat):Int)≠m
  ·exact B3 true Z Z (A5 a7) Aa<|Aj<|Ag Z<|aI Z<|A1<|AF<|Am<|Am<|AF<|Am<|Af [6] Z (.bool false) Z ⟨AJ (by rw[Ng (f:=fun r=>decide ((r.length:Int)=m)) (k:=k) [] oM<|A6 oM,Bool.and_false]),a0⟩
  refine B3 false Z Z (A6 a7) Aa<|Aj<|Ai Z<|A2<|Ab _ [0,0,0] Z<|Ad 1 Z<|AN ((k+1:Nat):Int) Z Z (Be oM sD) Aa<|Ac 1 Z ?_
  exact⟨k+1,_,rfl,zR,⟨a0,sD,(by exact Nf (f:=fun r=>decide ((r.length:Int)=m)) [] hq oM (A5 oM))⟩,zD⟩
 exact AE false Z Z (A6 a4) Aa<|Aj<|Ai Z<|A4<|Av<|Av<|Aq<|aI Z<|A1<|Af [6] Z (.bool true) Z ⟨AJ (by rw[Nh hq oM,A5 oM];rfl),a0⟩
theorem JS (w:World)(va:Value)(a:List (Sr))(k:Nat)(ha:Rd (AX (AX rI)) w.heap va a)(_hk:k≤1000000000000)(hla:a.length≤1000000000000)(h1:∀r,r<a.length→k<(a.getD r []).length) :
  Calls Tryz.prog 23 #[va,zI (k:Int)] w (fun e w'=>∃v0:Value,e=.returned (v0)∧AG w w'∧Fr (Bi rI 2) w.heap.size w'.heap.size w'.heap v0 (a.map (fun r=>r.getD k 0))):=by
 refine Ap [va,zI (k:Int)] 32 Tryz.func23 Z Z sM ?_
 have aa:AG w w:=AG.refl w
 have az:=ha.lenle
 refine aI Z<|aH [3,0] Z (Ch (rI) AK Bj Bz Aa fun v1 w1 a4 ak ab=>?_)
 have a5:=a4.size
 have ac:=aa.trans a4
 refine Ac 1 Z<|A0<|aI Z<|A3 ?_
 refine AW (S:=Nat×Value) (fun⟨j,vo⟩=>([(5,vo),(6,zI (j:Int)),(0,va),(1,zI (k:Int))])) (fun⟨j,vo⟩ W=>AG w W∧Fr (Bi rI 2) w.heap.size W.heap.size W.heap vo ((a.take j).map fun r=>r.getD k 0)∧j≤a.length) (fun⟨j,vo⟩=>a.length-j) (0,v1) ⟨rfl,rfl,rfl,rfl,trivial⟩ ⟨ac,ab.up o1,sD⟩ ?_
 clear aa ab ak a4 a5 ac
 rintro⟨j,vo⟩ ρ2 w2 ⟨a2,a1,ad⟩
 have al:w.heap.size≤w2.heap.size:=a2.size
 refine A0<|aH [0,0,0,0] Z<|Ad 2 Z<|AO (v:=va) BH Z ha.isSl Aa ?_
 by_cases ae:(j:Int)<(a.length:Int)
 ·refine AE true Z Z (A5 ae) Aa<|Aj<|Ag Z<|A2<|A0<|A3<|aH [0,0,0,0,2,0,0] Z ?_
  have aw:=h1 j oM
  refine Ad 3 Z<|Az (v:=va) j BH B9 Z Z ha.isSl Z sD Aa ?_
  obtain⟨af,am,ag⟩:=ha.get (k:=j) [] sD
  have an:=ag.lenle
  refine Ah (p:=Ax va j 1) (.inr Z) af Bk Z (Bc a2 am) Aa<|AO (v:=af) Bj Z ag.isSl Aa ?_
  by_cases ah:(k:Int)<(((a.getD j []).length:Nat):Int)
  ·refine AE true Z Z (A5 ah) Aa<|Aj<|Ag Z<|Ab _ [0,0,0,0,2,0,0,2,3,4,0] Z<|Ad 3 Z<|Az (v:=va) j BH B9 Z Z ha.isSl Z sD Aa ?_
   obtain⟨a6,ao,a3⟩:=ha.get (k:=j) [] sD
   have ap:=a3.lenle
   refine Ah (p:=Ax va j 1) (.inr Z) a6 Bk Z (Bc a2 ao) Aa<|Ad 1 Z<|Az (v:=a6) k Bj Bz Z Z a3.isSl Z sD Aa ?_
   refine Ah (p:=Ax a6 k 1) (.inr Z) (zI<|(a.getD j []).getD k 0) AC Z (Bc a2 (a3.getI sD).1) Aa ?_
   refine BI (u:=zI<|(a.getD j []).getD k 0) (B:=w2.heap.size) AK Bj Bz Z Z (Lh w2.heap.size w2.heap.size _ _ (a3.getI sD).2) (A7 _) Aa fun v7 w7 a7 ax ai=>?_
   have aq:=a7.size
   have a8:=a2.trans a7
   have a0:=a1.ext (o1) a7
   refine Fy (v:=vo) (a:=v7) Bj Bz Z Z Z a0 a8.size ai.rd1 sD (by unfold maxLen;first|omega|assumption|(simp;done)|(simp;omega)) Aa fun v8 w8 F8 a9 aj ar=>?_
   have au:AG w w8:=a9.below a8 (fun c hc=>A8 (A7 _) (aj c hc).1) a8.size
   have av:=a9.size
   have ay:=ai.chg (o1) a9 fun c hc=>zH<|aj c hc
   refine Ac 1 Z<|Ab _ [0,0,0] Z<|Ad 1 Z<|AN ((j+1:Nat):Int) Z Z (Be oM sD) Aa<|Ac 1 Z ?_
   exact⟨(j+1,v8),_,rfl,zR,⟨au,(by rw[CS [] oM];exact ar.up o1),sD⟩,zD⟩
  exact absurd oM ah
 exact AE false Z Z (A6 ae) Aa<|Aj<|Ai Z<|A4<|Av<|Av<|Aq<|aH [0,0] Z<|Ac 2 Z<|A1<|Af [4] Z vo Z ⟨vo,rfl,a2,(by have h:=a1.up o1;rwa [za oM]at h)⟩
theorem MO {p:Prop}(h:p:=by first|omega|exact OQ _):p:=h
theorem Cm {p:Prop}(h:p:=by kernel_rfl):p:=h
theorem Fd (w:World)(g:Nat)(sv:Value)(cs:List UInt8)(n0:Nat)(hs:Ea w.heap g sv cs n0)(al:n0+1≤1000000000000)  :
  Calls Tryz.prog 151 #[zP g] w (fun e w'=>∃(x0:Int) (n1:Nat),e=.returned (zI x0)∧As [g] w w'∧Ea w'.heap g sv cs n1∧(n0≤n1∧n1≤n0+1)∧(0≤x0∧x0≤255)):=by
 refine Ap [zP g] 62 Tryz.func151 Z Z sM ?_
 have a2:As [g] w w:=As.refl [g] w
 have aq:=hs.lt
 obtain⟨sd,hbx,hrs⟩:=hs.parts
 have hl_sv:=(hrs _<|As.refl [g] w).lenle
 refine aI Z<|aI Z<|A0<|A0<|AQ _ [0,0,0,1,0,0,0,1,0,0] mixed Cm<|Ad 1 Z<|AT Z Aa<|DX 1 Cm Z Aa<|Ah (p:=.pointer<|some ⟨g,1,none⟩) (.inl Z) (zI (n0:Int)) KU Z (hbx.ld (k:=1) sM) Aa<|Ad 1 Z<|AT Z Aa<|DX 0 Cm Z Aa<|Ah (p:=zP g) (.inl Z) sv PJ Z (hbx.ld (k:=0) sM) Aa<|AO (v:=sv) Qk Z (hrs _ a2.drew).isSl Aa ?_
 by_cases aa:(n0:Int)<(cs.length:Int)
 ·refine AE true Z Z (A5 aa) Aa<|Aj<|Ag Z<|AQ _ [0,0,0,1,0,0,0,1,0,1,0,0] mixed Cm<|Ad 1 Z<|AT Z Aa<|DX 0 Cm Z Aa<|Ah (p:=zP g) (.inl Z) sv PJ Z (hbx.ld (k:=0) sM) Aa<|Ad 1 Z<|AT Z Aa<|DX 1 Cm Z Aa<|Ah (p:=.pointer<|some ⟨g,1,none⟩) (.inl Z) (zI (n0:Int)) KU Z (hbx.ld (k:=1) sM) Aa ?_
  refine Az (v:=sv) n0 Qk aO Z Z (hrs _ a2.drew.drew).isSl Z sD Aa ?_
  refine Ah (p:=Ax sv n0 1) (.inl Z) (.int .u8 ((cs.getD n0 0).toNat:Int)) ZT Z ((hrs _ a2.drew.drew).getU sD).1 Aa (J9 ((cs.getD n0 0).toNat:Int) u5 u3 Z (w8 _) Aa<|Ac 1 Z<|aH [0,0,0,2,0,0,0,4] Z<|Ad 1 Z<|AT Z Aa<|DX 1 Cm Z Aa<|Ah (p:=.pointer<|some ⟨g,1,none⟩) (.inr Z) (zI (n0:Int)) KU Z (hbx.ld (k:=1) sM) Aa ?_)
  refine AN ((n0+1:Nat):Int) Z Z (Be oM sD) Aa<|AT Z Aa<|DX 1 Cm Z Aa (Bl (w:=w.drew.drew) aN Z Z ⟨rfl,rfl⟩ hbx sM Aa fun w2 a3 am ad=>?_)
  replace a3:=a3.of_drew
  replace a3:=a3.of_drew
  have ae:As [g] w w2:=a2.trans a3
  have a4:BX w2.heap g [sv,zI ((n0+1:Nat):Int),.int .u64 sd]:=ad
  refine Aj<|aH [0,0,0,0,2,0,0,0,0,0,0,0,4] Z<|Ad 2 Z<|AT Z Aa<|DX 2 Cm Z Aa<|Ah (p:=.pointer<|some ⟨g,2,none⟩) (.inr Z) (.int .u64 sd) ME Z (a4.ld (k:=2) sM) Aa<|Fm (IntKind.u64.wrap (sd*6364136223846793005)) Z Z Z Aa<|Ad 1 Z<|J9 (IntKind.u64.wrap ((cs.getD n0 0).toNat:Int)) u3 TJ Z Z Aa<|AN (IntKind.u64.wrap ((IntKind.u64.wrap (sd*6364136223846793005))+(IntKind.u64.wrap ((cs.getD n0 0).toNat:Int)))) Z Z Z Aa<|AN (IntKind.u64.wrap ((IntKind.u64.wrap ((IntKind.u64.wrap (sd*6364136223846793005))+(IntKind.u64.wrap ((cs.getD n0 0).toNat:Int))))+1442695040888963407)) Z Z Z Aa<|AT Z Aa ?_
  refine DX 2 Cm Z Aa (Bl (w:=w2) UN Z Z ⟨rfl,rfl⟩ a4 sM Aa fun w3 af an ag=>?_)
  have a5:As [g] w w3:=ae.trans af
  have a0:BX w3.heap g [sv,zI ((n0+1:Nat):Int),.int .u64 (IntKind.u64.wrap ((IntKind.u64.wrap ((IntKind.u64.wrap (sd*6364136223846793005))+(IntKind.u64.wrap ((cs.getD n0 0).toNat:Int))))+1442695040888963407))]:=ag
  refine Aj<|A0<|A0<|AQ _ [0,0,0,1,0,0,0,1,0,0] mixed Cm<|Ad 1 Z<|AT Z Aa<|DX 1 Cm Z Aa<|Ah (p:=.pointer<|some ⟨g,1,none⟩) (.inl Z) (zI ((n0+1:Nat):Int)) KU Z (a0.ld (k:=1) sM) Aa<|Ad 1 Z<|AT Z Aa<|DX 0 Cm Z Aa<|Ah (p:=zP g) (.inl Z) sv PJ Z (a0.ld (k:=0) sM) Aa<|AO (v:=sv) Qk Z (hrs _ a5.drew).isSl Aa ?_
  by_cases ab:((n0+1:Nat):Int)≤(cs.length:Int)
  ·refine DJ true Z Z (A5 ab) Aa<|Aj<|Ag Z<|aH [0,0] Z<|Ac 2 Z<|A1<|Am ?_
   have a8:=OP<|cs.getD n0 0
   exact Af [2] Z (zI ((cs.getD n0 0).toNat:Int)) Z ⟨((cs.getD n0 0).toNat:Int),n0+1,rfl,a5.drew,hs.close a5.drew a0,⟨zO,zO⟩,MO⟩
  refine DJ false Z Z (A6 ab) Aa<|Aj<|Ai Z<|A2<|aH [0,0,0,2,0,0,0,0] Z<|Ad 1 Z<|AT Z Aa<|DX 2 Cm Z Aa<|Ah (p:=.pointer<|some ⟨g,2,none⟩) (.inr Z) (.int .u64<|IntKind.u64.wrap ((IntKind.u64.wrap ((IntKind.u64.wrap (sd*6364136223846793005))+(IntKind.u64.wrap ((cs.getD n0 0).toNat:Int))))+1442695040888963407)) ME Z (a0.ld (k:=2) sM) Aa<|TW ((IntKind.u64.wrap ((IntKind.u64.wrap ((IntKind.u64.wrap (sd*6364136223846793005))+(IntKind.u64.wrap ((cs.getD n0 0).toNat:Int))))+1442695040888963407)).fdiv (2 ^ (min (40:Int).toNat (IntKind.u64).bits))) Z Z oM Z Aa<|TY Z Z Aa ?_
  refine J9 (I2 .u64 ((IntKind.u64.wrap ((IntKind.u64.wrap ((IntKind.u64.wrap (sd*6364136223846793005))+(IntKind.u64.wrap ((cs.getD n0 0).toNat:Int))))+1442695040888963407)).fdiv (2 ^ (min (40:Int).toNat (IntKind.u64).bits))) 255) TJ u2 Z (Xk _) Aa<|Ac 1 Z<|A1 ?_
  have a8:=OP<|cs.getD n0 0
  exact Af [2] Z (zI<|I2 .u64 ((IntKind.u64.wrap ((IntKind.u64.wrap ((IntKind.u64.wrap (sd*6364136223846793005))+(IntKind.u64.wrap ((cs.getD n0 0).toNat:Int))))+1442695040888963407)).fdiv (2 ^ (min (40:Int).toNat (IntKind.u64).bits))) 255) Z ⟨I2 .u64 ((IntKind.u64.wrap ((IntKind.u64.wrap ((IntKind.u64.wrap (sd*6364136223846793005))+(IntKind.u64.wrap ((cs.getD n0 0).toNat:Int))))+1442695040888963407)).fdiv (2 ^ (min (40:Int).toNat (IntKind.u64).bits))) 255,n0+1,rfl,a5.drew,hs.close a5.drew a0,⟨zO,zO⟩,MO⟩
 refine AE false Z Z (A6 aa) Aa<|Aj<|Ai Z<|A2<|aH [0,0,0,2,0,0,0,4] Z<|Ad 1 Z<|AT Z Aa<|DX 1 Cm Z Aa<|Ah (p:=.pointer<|some ⟨g,1,none⟩) (.inr Z) (zI (n0:Int)) KU Z (hbx.ld (k:=1) sM) Aa<|AN ((n0+1:Nat):Int) Z Z (Be oM sD) Aa<|AT Z Aa ?_
 refine DX 1 Cm Z Aa (Bl (w:=w.drew) aN Z Z ⟨rfl,rfl⟩ hbx sM Aa fun w5 a9 ao ah=>?_)
 replace a9:=a9.of_drew
 have ai:As [g] w w5:=a2.trans a9
 have a6:BX w5.heap g [sv,zI ((n0+1:Nat):Int),.int .u64 sd]:=ah
 refine Aj<|aH [0,0,0,0,2,0,0,0,0,0,0,0,4] Z<|Ad 2 Z<|AT Z Aa<|DX 2 Cm Z Aa<|Ah (p:=.pointer<|some ⟨g,2,none⟩) (.inr Z) (.int .u64 sd) ME Z (a6.ld (k:=2) sM) Aa<|Fm (IntKind.u64.wrap (sd*6364136223846793005)) Z Z Z Aa<|Ad 1 Z<|J9 (IntKind.u64.wrap ((0:Nat):Int)) u3 TJ Z Z Aa<|AN (IntKind.u64.wrap ((IntKind.u64.wrap (sd*6364136223846793005))+(IntKind.u64.wrap ((0:Nat):Int)))) Z Z Z Aa<|AN (IntKind.u64.wrap ((IntKind.u64.wrap ((IntKind.u64.wrap (sd*6364136223846793005))+(IntKind.u64.wrap ((0:Nat):Int))))+1442695040888963407)) Z Z Z Aa<|AT Z Aa<|DX 2 Cm Z Aa ?_
 refine Bl (w:=w5) UN Z Z ⟨rfl,rfl⟩ a6 sM Aa fun w6 aj ap ak=>?_
 have a7:As [g] w w6:=ai.trans aj
 have a1:BX w6.heap g [sv,zI ((n0+1:Nat):Int),.int .u64 (IntKind.u64.wrap ((IntKind.u64.wrap ((IntKind.u64.wrap (sd*6364136223846793005))+(IntKind.u64.wrap ((0:Nat):Int))))+1442695040888963407))]:=ak
 refine Aj<|A0<|A0<|AQ _ [0,0,0,1,0,0,0,1,0,0] mixed Cm<|Ad 1 Z<|AT Z Aa<|DX 1 Cm Z Aa<|Ah (p:=.pointer<|some ⟨g,1,none⟩) (.inl Z) (zI ((n0+1:Nat):Int)) KU Z (a1.ld (k:=1) sM) Aa<|Ad 1 Z<|AT Z Aa<|DX 0 Cm Z Aa<|Ah (p:=zP g) (.inl Z) sv PJ Z (a1.ld (k:=0) sM) Aa<|AO (v:=sv) Qk Z (hrs _ a7.drew).isSl Aa ?_
 by_cases ac:((n0+1:Nat):Int)≤(cs.length:Int)
 ·refine DJ true Z Z (A5 ac) Aa<|Aj<|Ag Z<|aH [0,0] Z<|Ac 2 Z<|A1<|Am ?_
  have a8:=OP<|cs.getD n0 0
  exact Af [2] Z (zI ((0:Nat):Int)) Z ⟨((0:Nat):Int),n0+1,rfl,a7.drew,hs.close a7.drew a1,⟨zO,zO⟩,MO⟩
 refine DJ false Z Z (A6 ac) Aa<|Aj<|Ai Z<|A2<|aH [0,0,0,2,0,0,0,0] Z<|Ad 1 Z<|AT Z Aa<|DX 2 Cm Z Aa<|Ah (p:=.pointer<|some ⟨g,2,none⟩) (.inr Z) (.int .u64<|IntKind.u64.wrap ((IntKind.u64.wrap ((IntKind.u64.wrap (sd*6364136223846793005))+(IntKind.u64.wrap ((0:Nat):Int))))+1442695040888963407)) ME Z (a1.ld (k:=2) sM) Aa<|TW ((IntKind.u64.wrap ((IntKind.u64.wrap ((IntKind.u64.wrap (sd*6364136223846793005))+(IntKind.u64.wrap ((0:Nat):Int))))+1442695040888963407)).fdiv (2 ^ (min (40:Int).toNat (IntKind.u64).bits))) Z Z oM Z Aa<|TY Z Z Aa ?_
 refine J9 (I2 .u64 ((IntKind.u64.wrap ((IntKind.u64.wrap ((IntKind.u64.wrap (sd*6364136223846793005))+(IntKind.u64.wrap ((0:Nat):Int))))+1442695040888963407)).fdiv (2 ^ (min (40:Int).toNat (IntKind.u64).bits))) 255) TJ u2 Z (Xk _) Aa<|Ac 1 Z<|A1 ?_
 have a8:=OP<|cs.getD n0 0
 exact Af [2] Z (zI<|I2 .u64 ((IntKind.u64.wrap ((IntKind.u64.wrap ((IntKind.u64.wrap (sd*6364136223846793005))+(IntKind.u64.wrap ((0:Nat):Int))))+1442695040888963407)).fdiv (2 ^ (min (40:Int).toNat (IntKind.u64).bits))) 255) Z ⟨I2 .u64 ((IntKind.u64.wrap ((IntKind.u64.wrap ((IntKind.u64.wrap (sd*6364136223846793005))+(IntKind.u64.wrap ((0:Nat):Int))))+1442695040888963407)).fdiv (2 ^ (min (40:Int).toNat (IntKind.u64).bits))) 255,n0+1,rfl,a7.drew,hs.close a7.drew a1,⟨zO,zO⟩,MO⟩
theorem SE {p:Prop}(h:p:=by first|omega|exact⟨Int.emod_nonneg _ oM,Int.le_of_lt (Int.lt_of_lt_of_le (Int.emod_lt_of_pos _ oM) oM),fun _=>Int.emod_lt_of_pos _ oM⟩):p:=h
theorem AU (w:World)(g:Nat)(sv:Value)(cs:List UInt8)(n0:Nat)(k:Int)(hs:Ea w.heap g sv cs n0)(ad:n0+2≤1000000000000)(_hk:Bt k)(hk:k≤1000000) :
  Calls Tryz.prog 68 #[zP g,zI k] w (fun e w'=>∃(x0:Int) (n1:Nat),e=.returned (zI x0)∧As [g] w w'∧Ea w'.heap g sv cs n1∧(n0≤n1∧n1≤n0+2)∧(0≤x0∧x0≤1000000∧(1≤k→x0<k))):=by
 refine Ap [zP g,zI k] 20 Tryz.func68 Z Z sM ?_
 have a0:As [g] w w:=As.refl [g] w
 have ai:=hs.lt
 refine aI Z<|A0<|aH [0,0] Z<|Ad 1 Z ?_
 by_cases a1:k≤((1:Nat):Int)
 ·exact DJ true Z Z (A5 a1) Aa<|Aj<|Ag Z<|aI Z<|A1<|Am<|Af [4] Z (zI ((0:Nat):Int)) Z ⟨((0:Nat):Int),n0,rfl,a0,hs,⟨zO,zO⟩,SE⟩
 refine DJ false Z Z (A6 a1) Aa<|Aj<|Ai Z<|A2<|aH [0,4,0] Z<|Ad 1 Z<|AB 151 [] [] [zP g] Z Z Ux Aa (Fd _ g _ _ _ hs oM) ?_
 rintro e2 w2 ⟨ag,n2,rfl,a2,a3,ae,a4⟩
 refine⟨_,rfl,?_⟩
 have a9:=a2.size
 have a5:As [g] w w2:=a0.trans a2
 refine Ac 1 Z<|A0<|aH [0,0] Z<|Ad 1 Z ?_
 by_cases a6:((200:Nat):Int)<k
 ·refine BN true Z Z (A5 a6) Aa<|Aj<|Ag Z<|Ab _ [0,0,0,4,0,0] Z<|Ad 1 Z ?_
  refine Fm (ag*((256:Nat):Int)) Z Z (Dp sD sD) Aa<|Ad 1 Z ?_
  refine AB 151 [] [] [zP g] Z Z Ux Aa (Fd _ g _ _ _ a3 oM) ?_
  rintro e4 w4 ⟨ah,n4,rfl,a7,aa,af,a8⟩
  refine⟨_,rfl,?_⟩
  have ab:=a7.size
  have ac:As [g] w w4:=a5.trans a7
  refine AN ((ag*((256:Nat):Int))+ah) Z Z (Dp sD sD) Aa<|Ac 1 Z<|aH [0,0,0,0] Z ?_
  exact Ad 2 Z<|DB (((ag*((256:Nat):Int))+ah) % k) Z Z oM (Int.tmod_eq_emod_of_nonneg oM) Aa<|Ac 1 Z<|A1<|Af [4] Z (zI (((ag*((256:Nat):Int))+ah) % k)) Z ⟨((ag*((256:Nat):Int))+ah) % k,n4,rfl,ac,aa,⟨zO,zO⟩,SE⟩
 exact BN false Z Z (A6 a6) Aa<|Aj<|Ai Z<|A2<|aH [0,0,0,0] Z<|Ad 2 Z<|DB ((ag) % k) Z Z oM (Int.tmod_eq_emod_of_nonneg oM) Aa<|Ac 1 Z<|A1<|Af [4] Z (zI ((ag) % k)) Z ⟨(ag) % k,n2,rfl,a5,a3,⟨zO,zO⟩,SE⟩
theorem Cv (w:World)(g:Nat)(sv:Value)(cs:List UInt8)(n0:Nat)(k:Int)(hs:Ea w.heap g sv cs n0)(a6:n0+2≤1000000000000)(_hk:Bt k)(hk:k≤1000000) :
  Calls Tryz.prog 122 #[zP g,zI k] w (fun e w'=>∃(x0:Bool) (n1:Nat),e=.returned (.bool x0)∧As [g] w w'∧Ea w'.heap g sv cs n1∧(n0≤n1∧n1≤n0+2)∧True):=by
 refine Ap [zP g,zI k] 9 Tryz.func122 Z Z sM ?_
 have a2:As [g] w w:=As.refl [g] w
 have a9:=hs.lt
 refine aI Z<|aH [0,0,4,0,0] Z<|Ad 2 Z<|AB 68 [] [] [zP g,zI k] Z Z H8 Aa (AU _ g _ _ _ _ hs oM _hk sD) ?_
 rintro e1 w1 ⟨a8,n1,rfl,a0,a3,a7,a1⟩
 refine⟨_,rfl,?_⟩
 have a4:=a0.size
 have a5:As [g] w w1:=a2.trans a0
 exact Al (decide (a8=((0:Nat):Int))) Z Z Z Aa<|Ac 1 Z<|A1<|Af [4] Z (.bool<|decide (a8=((0:Nat):Int))) Z ⟨decide (a8=((0:Nat):Int)),n1,rfl,a5,a3,⟨zO,zO⟩,(by trivial)⟩
theorem FK (w:World)(g:Nat)(sv:Value)(cs:List UInt8)(n0:Nat)(hs:Ea w.heap g sv cs n0)(az:n0+8≤1000000000000)  :
  Calls Tryz.prog 152 #[zP g] w (fun e w'=>∃(x0:Int) (n1:Nat),e=.returned (zI x0)∧As [g] w w'∧Ea w'.heap g sv cs n1∧(n0≤n1∧n1≤n0+8)∧(0≤x0∧x0<1000003)):=by
 refine Ap [zP g] 25 Tryz.func152 Z Z sM ?_
 have ag:As [g] w w:=As.refl [g] w
 have bc:=hs.lt
 refine aI Z<|A0<|aH [0,4] Z<|Ad 1 Z<|AB 68 [] [] [zP g,zI ((6:Nat):Int)] Z Z H8 Aa (AU _ g _ _ _ _ hs oM oM sD) ?_
 rintro e1 w1 ⟨ba,n1,rfl,a2,a0,b0,a3⟩
 refine⟨_,rfl,?_⟩
 have ah:=a2.size
 have a1:As [g] w w1:=ag.trans a2
 refine Aj<|A3<|aH [0,0] Z ?_
 by_cases a4:ba=((0:Nat):Int)
 ·refine Al true Z Z (A5 a4) Aa<|Ac 1 Z<|Ag Z<|aH [0,4,0,0] Z<|Ad 1 Z<|AB 68 [] [] [zP g,zI ((3:Nat):Int)] Z Z H8 Aa (AU _ g _ _ _ _ a0 oM oM sD) ?_
  rintro e3 w3 ⟨b9,n3,rfl,a5,ai,b1,a6⟩
  refine⟨_,rfl,?_⟩
  have aj:=a5.size
  have ak:As [g] w w3:=a1.trans a5
  refine BB (((1000002:Nat):Int)-b9) Z Z (Dp sD sD) Aa<|Ac 1 Z<|A1<|AF<|Am ?_
  exact Af [2] Z (zI (((1000002:Nat):Int)-b9)) Z ⟨((1000002:Nat):Int)-b9,n3,rfl,ak,ai,⟨zO,zO⟩,(by first|omega|exact BU _)⟩
 refine Al false Z Z (A6 a4) Aa<|Ac 1 Z<|Ai Z<|aH [0,0] Z ?_
 by_cases a7:ba=((1:Nat):Int)
 ·refine Al true Z Z (A5 a7) Aa<|Ac 1 Z<|Ag Z<|aH [0,4,0,0,4,0,0,0,4,0,0,0] Z<|Ad 1 Z<|AB 68 [] [] [zP g,zI ((256:Nat):Int)] Z Z H8 Aa (AU _ g _ _ _ _ a0 oM oM sD) ?_
  rintro e5 w5 ⟨b6,n5,rfl,a8,al,b2,a9⟩
  refine⟨_,rfl,?_⟩
  have am:=a8.size
  have an:As [g] w w5:=a1.trans a8
  refine Fm (b6*((65536:Nat):Int)) Z Z (Dp sD sD) Aa<|Ad 1 Z ?_
  refine AB 68 [] [] [zP g,zI ((256:Nat):Int)] Z Z H8 Aa (AU _ g _ _ _ _ al oM oM sD) ?_
  rintro e6 w6 ⟨b7,n6,rfl,aa,ao,b3,ab⟩
  refine⟨_,rfl,?_⟩
  have ap:=aa.size
  have aq:As [g] w w6:=an.trans aa
  refine Fm (b7*((256:Nat):Int)) Z Z (Dp sD sD) Aa ?_
  refine AN ((b6*((65536:Nat):Int))+(b7*((256:Nat):Int))) Z Z (Dp sD sD) Aa<|Ad 1 Z ?_
  refine AB 68 [] [] [zP g,zI ((256:Nat):Int)] Z Z H8 Aa (AU _ g _ _ _ _ ao oM oM sD) ?_
  rintro e7 w7 ⟨b8,n7,rfl,ac,ar,b4,ad⟩
  refine⟨_,rfl,?_⟩
  have au:=ac.size
  have av:As [g] w w7:=aq.trans ac
  refine AN (((b6*((65536:Nat):Int))+(b7*((256:Nat):Int)))+b8) Z Z (Dp sD sD) Aa ?_
  exact DB (md (((b6*((65536:Nat):Int))+(b7*((256:Nat):Int)))+b8)) Z Z (by decide) (Int.tmod_eq_emod_of_nonneg oM) Aa<|Ac 1 Z<|A1<|AF<|Am<|Af [2] Z (zI<|md (((b6*((65536:Nat):Int))+(b7*((256:Nat):Int)))+b8)) Z ⟨md (((b6*((65536:Nat):Int))+(b7*((256:Nat):Int)))+b8),n7,rfl,av,ar,⟨zO,zO⟩,(by first|omega|exact BU _)⟩
 refine Al false Z Z (A6 a7) Aa<|Ac 1 Z<|Ai Z<|A2<|aH [0,4,0] Z<|Ad 1 Z<|AB 68 [] [] [zP g,zI ((7:Nat):Int)] Z Z H8 Aa (AU _ g _ _ _ _ a0 oM oM sD) ?_
 rintro e8 w8 ⟨bb,n8,rfl,ae,aw,b5,af⟩
 refine⟨_,rfl,?_⟩
 have ax:=ae.size
 have ay:As [g] w w8:=a1.trans ae
 exact Ac 1 Z<|A1<|Af [2] Z (zI bb) Z ⟨bb,n8,rfl,ay,aw,⟨zO,zO⟩,(by first|omega|exact BU _)⟩
theorem Fe (w:World)(g:Nat)(sv:Value)(cs:List UInt8)(n0:Nat)(k:Int)(hs:Ea w.heap g sv cs n0)(ax:n0+(8*k.toNat)≤1000000000000)(_hk:Bt k)(hk:k≤1000) :
  Calls Tryz.prog 69 #[zP g,zI k] w (fun e w'=>∃(v0:Value) (x0:Sr) (n1:Nat),e=.returned (v0)∧As [g] w w'∧Ea w'.heap g sv cs n1∧(n0≤n1∧n1≤n0+(8*k.toNat))∧Fr (Bi rI 2) w.heap.size w'.heap.size w'.heap v0 x0∧(x0.length=k.toNat∧B2 x0=true)):=by
 refine Ap [zP g,zI k] 19 Tryz.func69 Z Z sM ?_
 have ac:As [g] w w:=As.refl [g] w
 have b2:=hs.lt
 refine aI Z<|aH [3,0] Z (Ch (rI) AK Bj Bz Aa fun v1 w1 a4 ak ad=>?_)
 have a7:=a4.size
 have ae:As [g] w w1:=ac.ext a4
 have a8:=hs.ext a4
 refine Ac 1 Z<|A0<|aI Z<|A3 ?_
 refine AW (S:=Nat×Value×Sr×Nat) (fun⟨j,vo,xs,m⟩=>([(5,vo),(6,zI (j:Int)),(0,zP g),(1,zI k)])) (fun⟨j,vo,xs,m⟩ W=>As [g] w W∧Fr (Bi rI 2) w.heap.size W.heap.size W.heap vo xs∧Ea W.heap g sv cs m∧j≤k.toNat∧(n0≤m∧m≤n0+8*j)∧(xs.length=j∧B2 xs=true)) (fun⟨j,vo,xs,m⟩=>k.toNat-j) (0,v1,[],n0) ⟨rfl,rfl,rfl,rfl,trivial⟩ ⟨ae,ad.up o1,a8,sD,oM,(by exact⟨rfl,rfl⟩)⟩ ?_
 clear ac ad ak a4 a7 ae
 rintro⟨j,vo,xs,m⟩ ρ2 w2 ⟨a9,a0,a1,af,hm,hxs⟩
 have al:w.heap.size≤w2.heap.size:=a9.size
 refine A0<|aH [0,0,0] Z<|Ad 2 Z ?_
 by_cases ag:(j:Int)<k
 ·refine AE true Z Z (A5 ag) Aa<|Aj<|Ag Z<|A2<|A0<|A3<|Ab _ [0,0,4,3,4,0] Z<|Ad 2 Z<|AB 152 [] [] [zP g] Z Z Sh Aa (FK _ g _ _ _ a1 oM) ?_
  rintro e4 w4 ⟨b1,n4,rfl,aa,am,ay,ah⟩
  refine⟨_,rfl,?_⟩
  have an:=aa.size
  have ao:As [g] w w4:=a9.trans aa
  have ap:=a0.chg (o1) aa fun b hb=>by have:b=g:=(by simpa using hb);omega
  refine BI (u:=zI b1) (B:=w4.heap.size) AK Bj Bz Z Z (Lh w4.heap.size w4.heap.size _ _ oM) (A7 _) Aa fun v6 w6 a5 az ai=>?_
  have aq:=a5.size
  have aj:As [g] w w6:=ao.ext a5
  have a2:=ap.ext (o1) a5
  have a3:=am.ext a5
  refine Fy (v:=vo) (a:=v6) Bj Bz Z Z Z a2 aj.size ai.rd1 sD (by unfold maxLen;first|omega|assumption|(simp;done)|(simp;omega)) Aa fun v7 w7 F7 a6 ab ar=>?_
  have au:As [g] w w7:=aj.fresh a6 (fun c hc=>A8 (A7 _) (ab c hc).1)
  have av:=a6.size
  have aw:=a3.chg a6 fun c hc=>zH<|ab c hc
  have b0:=ai.chg (o1) a6 fun c hc=>zH<|ab c hc
  refine Ac 1 Z<|Ab _ [0,0,0] Z<|Ad 1 Z<|AN ((j+1:Nat):Int) Z Z (Be oM oM) Aa<|Ac 1 Z ?_
  exact⟨(j+1,v7,xs++[b1],n4),_,rfl,zR,⟨au,ar.up o1,aw,sD,oM,(by exact⟨by rw[z4,hxs.1];rfl,by unfold B2 at *;rw[List.all_append,hxs.2];simp only[List.all_cons,List.all_nil,Bool.and_true,Bool.true_and];exact Ce.2 oM⟩)⟩,zD⟩
 exact AE false Z Z (A6 ag) Aa<|Aj<|Ai Z<|A4<|Av<|Av<|Aq<|aH [0,0] Z<|Ac 2 Z<|A1<|Af [4] Z vo Z ⟨vo,xs,m,rfl,a9,a1,⟨zO,zO⟩,a0.up o1,(by exact⟨zO,hxs.2⟩)⟩
theorem X6 (a:Option Addr)(n c:Nat)(w:World):(Instr.build 180 #[(0,.slice a n c)]).run Tryz.prog w=.ok (.agg #[.slice a n c,zI 0,.int .u64 0]) w:=by
  kernel_rfl
theorem YU {v:Value}{n:Nat}(h:El v n)(w:World):(Instr.build 180 #[(0,v)]).run Tryz.prog w=.ok (.agg #[v,zI 0,.int .u64 0]) w:=by
  obtain⟨a,c,rfl,_⟩:=h
  exact X6 a n c w
theorem Hi (w:World)(vc:Value)(cs:List UInt8)(hcs:Rd (AX rU) w.heap vc cs)  :
  Calls Tryz.prog 66 #[vc] w (fun e w'=>∃g:Nat,e=.returned (zP g)∧AG w w'∧Ea w'.heap g vc cs 0∧w.heap.size≤g):=by
 refine Ap [vc] 6 Tryz.func66 Z Z sM ?_
 have a0:AG w w:=AG.refl w
 have a7:=hcs.lenle
 refine aI Z<|aH [0,0,3,0] Z<|Ad 1 Z<|C7 (ps:=#[(0,vc)]) (.agg #[vc,zI 0,.int .u64 0]) (by simp only[zc,zf,zh];rfl) (fun wq=>YU hcs.isSl wq) Aa (Bu Z Aa fun w1 a1 a6 a3=>?_)
 have a4:=a1.size
 have a2:=a0.trans a1
 have a5:=Ea.new hcs a2 a3 a0.size
 exact Ac 1 Z<|A1<|Af [2] Z (zP w.heap.size) Z ⟨w.heap.size,rfl,a2,a5,a0.size⟩
theorem Lv (w:World)(vc:Value)(cs:List UInt8)(k:Int)(hcs:Rd (AX rU) w.heap vc cs)(_hk:Bt k)(hk:k≤1000) :
  Calls Tryz.prog 27 #[vc,zI k] w (fun e w'=>∃v0:Value,∃(x0:Sr),e=.returned (v0)∧AG w w'∧Fr (Bi rI 2) w.heap.size w'.heap.size w'.heap v0 x0∧(x0.length=k.toNat∧B2 x0=true)):=by
 refine Ap [vc,zI k] 9 Tryz.func27 Z Z sM ?_
 have a4:AG w w:=AG.refl w
 have af:=hcs.lenle
 refine aI Z<|aH [0,3,0,4,0] Z<|Ad 1 Z<|Au 66 [] [] [vc] Z Z XV Aa (Hi _ _ _<|hcs.ext D5 a4) ?_
 rintro e1 w1 ⟨gB1,rfl,a2,a7,ab⟩
 refine⟨_,rfl,a2,?_⟩
 have a8:=a2.size
 have a3:=a4.trans a2
 refine Ad 1 Z<|AB 69 [] [] [zP gB1,zI k] Z Z VX Aa (Fe _ gB1 _ _ _ _ a7 oM _hk hk) ?_
 rintro e2 w2 ⟨a0,ae,n2,rfl,a5,ac,ad,a1,a6⟩
 refine⟨_,rfl,?_⟩
 have a9:=a5.size
 have aa:AG w w2:=a5.below a3 (fun b hb=>by have:b=gB1:=(by simpa using hb);omega) a3.size
 exact Ac 1 Z<|A1<|Af [4] Z a0 Z ⟨a0,ae,rfl,aa,(a1.up o1).low a3.size,(by assumption)⟩
theorem Lw (w:World)(a:Int)(b:Int)(_ha:Bt a)(_hb:Bt b)  :
  Calls Tryz.prog 286 #[zI a,zI b] w (fun e w'=>e=.returned (zI (max a b))∧w'=w):=by
 refine Ap [zI a,zI b] 10 Tryz.func286 Z Z sM ?_
 have a0:w=w:=rfl
 refine aI Z<|A0<|aH [0,0,0] Z<|Ad 2 Z ?_
 by_cases a1:b<a
 ·exact BN true Z Z (A5 a1) Aa<|Aj<|Ag Z<|aH [0,0] Z<|Ac 2 Z<|A1<|Am<|Af [4] Z (zI a) Z ⟨B1 oM,a0⟩
 exact BN false Z Z (A6 a1) Aa<|Aj<|Ai Z<|A2<|aH [0,0] Z<|Ac 2 Z<|A1<|Af [4] Z (zI b) Z ⟨B1 oM,a0⟩
theorem SF {p:Prop}(h:p:=by rw[Ts,hx];first|rw[za oM]|exact(M2 oM).symm):p:=h
theorem Hj (w:World)(dex:Nat)(ve:Value)(ex:Ex)(left:Int)(hex:RN [] (rP (Lm dex)) w.heap ve ex)(_hleft:Bt left)(af:0≤left∧left≤100000)(hs:ex.size≤1000000000) :
  Calls Tryz.prog 239 #[ve,zI left] w (fun e w'=>e=.returned (zI (HF ex left))∧AG w w'):=by
 induction dex using Nat.strongRecOn generalizing w ve ex left
 rename_i dex ih
 refine Ap [ve,zI left] 30 Tryz.func239 Z Z sM ?_
 have a6:AG w w:=AG.refl w
 have hsk:=Cn ex
 refine aI Z<|aH [0,0,0] Z<|Ad 1 Z<|BB (left-1) Z Z (Dp oM oM) Aa<|Ac 1 Z<|A0<|aI Z<|A3 ?_
 refine AW (S:=Nat×Int) (fun⟨k,x⟩=>([(1,zI x),(5,zI (k:Int)),(0,ve)])) (fun⟨k,x⟩ W=>AG w W∧k≤ex.kids.length∧x=CY (ex.kids.take k) (left-1)∧(-1≤x∧x≤left)) (fun⟨k,x⟩=>ex.kids.length-k) (0,left-1) ⟨rfl,rfl,rfl,trivial⟩ ⟨a6,sD,(by rw[List.take_zero,CY]),oM⟩ ?_
 clear a6
 rintro⟨k,x⟩ ρ1 w1 ⟨a0,a7,hx,a8⟩
 have ab:w.heap.size≤w1.heap.size:=a0.size
 refine A0<|aH [0,0,0,0,2,0,0,0,0,0,0] Z<|Ad 2 Z<|AM (hex.isPtr) Z Aa ?_
 obtain⟨cs2,ac,a2⟩:=RN.at (Aw _) hex
 obtain⟨dd2,a1,ag,rfl,a3⟩:=RX.of ac
 have a4:=a3.rn.lenle
 unfold maxLen at a4
 refine AI (p:=ve) 4 B8 Z (a2 _<|As.of_ext [] a0) Aa<|Ah (p:=Ao ve 4) (.inr Z) a1 Bf Z ((a2 _<|As.of_ext [] a0).ld (i:=4) (by simp[EP,EQ])) Aa<|AO (v:=a1) CZ Z a3.rn.isSl Aa ?_
 by_cases a9:(k:Int)<(ex.kids.length:Int)
 ·refine AE true Z Z (A5 a9) Aa<|Ad 2 Z ?_
  by_cases aa:((0:Nat):Int)≤x
  ·refine Fp true Z Z (A5 aa) (Ae (e:=15) Z Z Z)<|Ac 1 Z<|Ag Z<|A2<|A0<|A3<|Ab _ [0,0,0,2,0,0,0,3,0] Z ?_
   have hst:=Dx (l:=ex.kids) (k:=k) oM
   have hle:=D6 ex.kids (k+1)
   have hnx:=M1 (l:=ex.kids) (k:=k) (x:=left-1) oM oM
   have hnr:=Nx (e:=ex.kids.getD k Ex.zero) (x:=x) oM
   refine Ad 1 Z<|AM (hex.isPtr) Z Aa<|AI (p:=ve) 4 B8 Z (a2 _<|As.of_ext [] a0) Aa<|Ah (p:=Ao ve 4) (.inr Z) a1 Bf Z ((a2 _<|As.of_ext [] a0).ld (i:=4) (by simp[EP,EQ])) Aa<|Ad 1 Z<|Az (v:=a1) k CZ Bm Z Z a3.rn.isSl Z sD Aa<|Ad 1 Z ?_
   refine Au 239 [] [] [Ax a1 k 5,zI x] Z Z So Aa (ih dd2 oM _ (Ax a1 k 5) (ex.kids.getD k Ex.zero) _ (RN.ptr (Aw dd2) (by decide) Ex.zero (a3.rn.ext (An<|Aw dd2) a0) sD) oM oM oM) ?_
   rintro e5 w5 ⟨rfl,a5⟩
   refine⟨_,rfl,a5,?_⟩
   have ad:=a5.size
   have ae:=a0.trans a5
   refine Ac 1 Z<|Ab _ [0,0,0] Z<|Ad 1 Z<|AN ((k+1:Nat):Int) Z Z (Be oM sD) Aa<|Ac 1 Z ?_
   exact⟨(k+1,HF (ex.kids.getD k Ex.zero) x),_,rfl,zR,⟨ae,sD,(by rw[hnx,hx]),oM⟩,zD⟩
  exact Fp false Z Z (A6 aa) (Ae (e:=15) Z Z Z)<|Ac 1 Z<|Ai Z<|A4<|Av<|Av<|Aq<|aH [0,0] Z<|Ac 2 Z<|A1<|Af [4] Z (zI x) Z ⟨B1 SF,a0⟩
 exact AE false Z Z (A6 a9) Aa<|Ac 4 Z<|Ai Z<|A4<|Av<|Av<|Aq<|aH [0,0] Z<|Ac 2 Z<|A1<|Af [4] Z (zI x) Z ⟨B1 SF,a0⟩
theorem JT (w:World)(dex:Nat)(ve:Value)(ex:Ex)(hex:RN [] (rP (Lm dex)) w.heap ve ex)(hs:ex.size≤1000000000) :
  Calls Tryz.prog 271 #[ve] w (fun e w'=>e=.returned (zI (ex.deep:Int))∧AG w w'):=by
 induction dex using Nat.strongRecOn generalizing w ve ex
 rename_i dex ih
 refine Ap [ve] 25 Tryz.func271 Z Z sM ?_
 have a6:AG w w:=AG.refl w
 have hsk:=Cn ex
 have hdk:=DC ex
 refine aI Z<|aI Z<|A0<|aI Z<|A3 ?_
 refine AW (S:=Nat×Int) (fun⟨k,sz⟩=>([(3,zI sz),(4,zI (k:Int)),(0,ve)])) (fun⟨k,sz⟩ W=>AG w W∧k≤ex.kids.length∧sz=((Ex.deeps (ex.kids.take k):Nat):Int)∧(0≤sz∧sz≤1000000000)) (fun⟨k,sz⟩=>ex.kids.length-k) (0,((0:Nat):Int)) ⟨rfl,rfl,rfl,trivial⟩ ⟨a6,sD,(by rw[List.take_zero,LN] <;> rfl),oM⟩ ?_
 clear a6
 rintro⟨k,sz⟩ ρ1 w1 ⟨a0,a7,hsz,a8⟩
 have aa:w.heap.size≤w1.heap.size:=a0.size
 refine A0<|aH [0,0,0,0,2,0,0] Z<|Ad 2 Z<|AM (hex.isPtr) Z Aa ?_
 obtain⟨cs2,ab,a2⟩:=RN.at (Aw _) hex
 obtain⟨dd2,a1,ae,rfl,a3⟩:=RX.of ab
 have a4:=a3.rn.lenle
 unfold maxLen at a4
 refine AI (p:=ve) 4 B8 Z (a2 _<|As.of_ext [] a0) Aa<|Ah (p:=Ao ve 4) (.inr Z) a1 Bf Z ((a2 _<|As.of_ext [] a0).ld (i:=4) (by simp[EP,EQ])) Aa<|AO (v:=a1) CZ Z a3.rn.isSl Aa ?_
 by_cases a9:(k:Int)<(ex.kids.length:Int)
 ·refine AE true Z Z (A5 a9) Aa<|Aj<|Ag Z<|A2<|A0<|A3<|Ab _ [0,0,0,0,2,0,0,3,0,0] Z ?_
  have hst:=Dx (l:=ex.kids) (k:=k) oM
  have hle:=D6 ex.kids (k+1)
  have hdt:=Gj (l:=ex.kids) (k:=k) oM
  have hda:=E1<|ex.kids.getD k Ex.zero
  have hdz:=I5<|ex.kids.take k
  refine Ad 2 Z<|AM (hex.isPtr) Z Aa<|AI (p:=ve) 4 B8 Z (a2 _<|As.of_ext [] a0) Aa<|Ah (p:=Ao ve 4) (.inr Z) a1 Bf Z ((a2 _<|As.of_ext [] a0).ld (i:=4) (by simp[EP,EQ])) Aa<|Ad 1 Z<|Az (v:=a1) k CZ Bm Z Z a3.rn.isSl Z sD Aa ?_
  refine Au 271 [] [] [Ax a1 k 5] Z Z UL Aa (ih dd2 oM _ (Ax a1 k 5) (ex.kids.getD k Ex.zero) (RN.ptr (Aw dd2) (by decide) Ex.zero (a3.rn.ext (An<|Aw dd2) a0) sD) oM) ?_
  rintro e4 w4 ⟨rfl,a5⟩
  refine⟨_,rfl,a5,?_⟩
  have ac:=a5.size
  have ad:=a0.trans a5
  refine AA 286 [] [] [zI sz,zI (((ex.kids.getD k Ex.zero).deep:Nat):Int)] Z Z YG Aa (zI<|max sz (((ex.kids.getD k Ex.zero).deep:Nat):Int)) (fun wq=>Lw wq _ _ oM (zH<|E1 (ex.kids.getD k Ex.zero)))<|Ac 1 Z<|Ab _ [0,0,0] Z<|Ad 1 Z<|AN ((k+1:Nat):Int) Z Z (Be oM sD) Aa<|Ac 1 Z ?_
  exact⟨(k+1,max sz (((ex.kids.getD k Ex.zero).deep:Nat):Int)),_,rfl,zR,⟨ad,sD,oM,oM⟩,zD⟩
 refine AE false Z Z (A6 a9) Aa<|Aj<|Ai Z<|A4<|Av<|Av<|Aq<|aH [0,0,0] Z ?_
 have h8:=Jb (l:=ex.kids) (k:=k) oM
 have h9:=E1 ex
 exact Ad 1 Z<|AN (sz+1) Z Z (Dp oM oM) Aa<|Ac 1 Z<|A1<|Af [2] Z (zI (sz+1)) Z ⟨B1 oM,a0⟩
theorem FL {p:Prop}(h:p:=by unfold Q9;repeat (first|rfl|(rw[if_pos oM])|(rw[if_neg oM]))):p:=h
theorem L2 (w:World)(kind:Int)(_hkind:Bt kind)  :
  Calls Tryz.prog 198 #[zI kind] w (fun e w'=>e=.returned (zI (Q9 kind))∧w'=w):=by
 refine Ap [zI kind] 17 Tryz.func198 Z Z sM ?_
 have a0:w=w:=rfl
 refine aI Z<|A0<|aI Z<|A3<|A0<|aH [0,0] Z ?_
 by_cases a1:kind=((1:Nat):Int)
 ·exact Al true Z Z (A5 a1) Aa<|Ac 1 Z<|Ag Z<|A2<|Ag Z<|aI Z<|A1<|AF<|Am<|Af [2] Z (zI ((0:Nat):Int)) Z ⟨B1 FL,a0⟩
 refine Al false Z Z (A6 a1) Aa<|Ac 1 Z<|Ai Z<|Ab _ [0,0] Z ?_
 by_cases a2:kind=((2:Nat):Int)
 ·exact Al true Z Z (A5 a2) Aa<|Ac 1 Z<|Ag Z<|aI Z<|A1<|AF<|Am<|Af [2] Z (zI ((0:Nat):Int)) Z ⟨B1 FL,a0⟩
 refine Al false Z Z (A6 a2) Aa<|Ac 1 Z<|Ai Z<|A0<|aH [0,0] Z ?_
 by_cases a3:kind=((3:Nat):Int)
 ·exact Al true Z Z (A5 a3) Aa<|Ac 1 Z<|Ag Z<|A2<|Ag Z<|aI Z<|A1<|AF<|Am<|Af [2] Z (zI ((2:Nat):Int)) Z ⟨B1 FL,a0⟩
 refine Al false Z Z (A6 a3) Aa<|Ac 1 Z<|Ai Z<|aH [0,0] Z ?_
 by_cases a4:kind=((4:Nat):Int)
 ·exact Al true Z Z (A5 a4) Aa<|Ac 1 Z<|Ag Z<|A2<|Ag Z<|aI Z<|A1<|AF<|Am<|Af [2] Z (zI ((2:Nat):Int)) Z ⟨B1 FL,a0⟩
 refine Al false Z Z (A6 a4) Aa<|Ac 1 Z<|Ai Z<|aH [0,0] Z ?_
 by_cases a5:kind=((5:Nat):Int)
 ·exact Al true Z Z (A5 a5) Aa<|Ac 1 Z<|Ag Z<|A2<|Ag Z<|aI Z<|A1<|AF<|Am<|Af [2] Z (zI ((2:Nat):Int)) Z ⟨B1 FL,a0⟩
 refine Al false Z Z (A6 a5) Aa<|Ac 1 Z<|Ai Z<|aH [0,0] Z ?_
 by_cases a6:kind=((6:Nat):Int)
 ·exact Al true Z Z (A5 a6) Aa<|Ac 1 Z<|Ag Z<|A2<|Ag Z<|aI Z<|A1<|AF<|Am<|Af [2] Z (zI ((2:Nat):Int)) Z ⟨B1 FL,a0⟩
 refine Al false Z Z (A6 a6) Aa<|Ac 1 Z<|Ai Z<|Ab _ [0,0] Z ?_
 by_cases a7:kind=((9:Nat):Int)
 ·exact Al true Z Z (A5 a7) Aa<|Ac 1 Z<|Ag Z<|aI Z<|A1<|AF<|Am<|Af [2] Z (zI ((2:Nat):Int)) Z ⟨B1 FL,a0⟩
 refine Al false Z Z (A6 a7) Aa<|Ac 1 Z<|Ai Z<|aH [0,0] Z ?_
 by_cases a8:kind=((7:Nat):Int)
 ·exact Al true Z Z (A5 a8) Aa<|Ac 1 Z<|Ag Z<|aI Z<|A1<|AF<|Am<|Af [2] Z (zI ((1:Nat):Int)) Z ⟨B1 FL,a0⟩
 refine Al false Z Z (A6 a8) Aa<|Ac 1 Z<|Ai Z<|aH [0,0] Z ?_
 by_cases a9:kind=((8:Nat):Int)
 ·exact Al true Z Z (A5 a9) Aa<|Ac 1 Z<|Ag Z<|aI Z<|A1<|AF<|Am<|Af [2] Z (zI ((3:Nat):Int)) Z ⟨B1 FL,a0⟩
 exact Al false Z Z (A6 a9) Aa<|Ac 1 Z<|Ai Z<|A2<|aI Z<|A1<|Af [2] Z (zI (-1)) Z ⟨B1 FL,a0⟩
theorem D0 {p:Prop}(h:p:=by first|exact AJ (VC oM oM oM)|exact AJ (Zp oM oM oM oM)|exact AJ (Zq oM oM oM oM)|exact AJ ((My oM).trans (Zr oM oM oM oM oM oM oM))|exact AJ (by unfold Gl Dy GS;first|(simp[*];done)|(simp[*];omega)|(simp[*] <;> intros <;> omega)|(simp_all;done)|(simp_all <;> omega))):p:=h
theorem BF {p:Prop}(h:p:=by simp[EP,EQ]):p:=h
theorem L3 (w:World)(dp:Nat)(vp:Value)(p:List Fn)(dex:Nat)(ve:Value)(ex:Ex)(vars:Int)(funcs:Int)(hp:RN [] (rP (JY dp)) w.heap vp p)(hex:RN [] (rP (Lm dex)) w.heap ve ex)(_hvars:Bt vars)(_hfuncs:Bt funcs)(hv:0≤vars∧vars≤2000000000)(hf:0≤funcs∧funcs≤(p.length:Int)) :
  Calls Tryz.prog 287 #[vp,ve,zI vars,zI funcs] w (fun e w'=>e=.returned (.bool (Gl p funcs vars ex))∧AG w w'):=by
 refine Ap [vp,ve,zI vars,zI funcs] 140 Tryz.func287 Z Z sM ?_
 have a0:AG w w:=AG.refl w
 refine aI Z<|A0<|aH [0,0,0,2,0,0,0,0,0,2,0,0] Z<|Ad 1 Z<|AM (hex.isPtr) Z Aa ?_
 obtain⟨cs1,b2,a1⟩:=RN.at (Aw _) hex
 obtain⟨dd1,ab,b8,rfl,a5⟩:=RX.of b2
 have aq:=a5.rn.lenle
 unfold maxLen at aq
 refine AI (p:=ve) 0 Bg Z (a1 _<|As.of_ext [] a0) Aa<|Ah (p:=Ao ve 0) (.inr Z) (zI ex.kind) AC Z ((a1 _<|As.of_ext [] a0).ld (i:=0) BF) Aa ?_
 by_cases ay:ex.kind=((10:Nat):Int)
 ·refine Al true Z Z (A5 ay) Aa<|Ac 7 Z<|Ag Z<|A0<|aH [0,0,0,2,0,0,0,0] Z<|Ad 1 Z<|AM (hex.isPtr) Z Aa<|AI (p:=ve) 1 BE Z (a1 _<|As.of_ext [] a0) Aa<|Ah (p:=Ao ve 1) (.inr Z) (zI ex.num) AC Z ((a1 _<|As.of_ext [] a0).ld (i:=1) BF) Aa<|Ad 1 Z<|BB (funcs-1) Z Z (Dp oM oM) Aa<|AA 74 [] [] [zI ex.num,zI ((0:Nat):Int),zI (funcs-1)] Z Z IW Aa (.bool (decide (((0:Nat):Int)≤ex.num) && decide (ex.num≤(funcs-1)))) (fun wq=>Bv wq _ _ _ a5.rng.num oM oM) ?_
  refine Br (!(decide (((0:Nat):Int)≤ex.num) && decide (ex.num≤(funcs-1)))) Z Z Aa<|Aj ?_
  cases az:(!(decide (((0:Nat):Int)≤ex.num) && decide (ex.num≤(funcs-1))))
  ·refine Ai (by first|rfl|exact zW az)<|A2<|A0<|AQ _ [0,0,0,1,0,0,0,1,0,0] mixed (by kernel_rfl) ?_
   have hnr:=Hg (EZ (by assumption):(decide (((0:Nat):Int)≤ex.num) && decide (ex.num≤funcs-1))=true)
   refine Ad 1 Z<|AM (hp.isPtr) Z Aa ?_
   obtain⟨cs5,b3,b0⟩:=RN.at (AR _) hp
   obtain⟨a6,rfl,a9⟩:=RPr.of b3
   have ar:=a9.lenle
   unfold maxLen at ar
   refine AI (p:=vp) 0 BC Z (b0 _<|As.of_ext [] a0.drew) Aa<|Ah (p:=Ao vp 0) (.inl Z) a6 C2 Z ((b0 _<|As.of_ext [] a0.drew).ld (i:=0) BF) Aa<|Ad 1 Z<|AM (hex.isPtr) Z Aa<|AI (p:=ve) 1 BE Z (a1 _<|As.of_ext [] a0.drew) Aa<|Ah (p:=Ao ve 1) (.inl Z) (zI ex.num) AC Z ((a1 _<|As.of_ext [] a0.drew).ld (i:=1) BF) Aa ?_
   refine Az (v:=a6) ((ex.num).toNat) GI Cy Z Z a9.isSl oM sD Aa<|Ac 1 Z<|A0<|A0<|AQ _ [0,0,0,1,0,0,0,1,0,0,0,0,0,0,0,0,1,0,0,0,0,1,0,0] mixed (by kernel_rfl)<|Ad 1 Z<|AM (hex.isPtr) Z Aa<|AI (p:=ve) 2 D3 Z (a1 _<|As.of_ext [] a0.drew.drew) Aa ?_
   refine Ah (p:=Ao ve 2) (.inl Z) (zI ex.pick) AC Z ((a1 _<|As.of_ext [] a0.drew.drew).ld (i:=2) BF) Aa<|Ad 1 Z<|AM (RN.isPtr<|RN.ptr (Ay dp) (by decide) Fn.zero a9 sD) Z Aa ?_
   obtain⟨cs6,b4,a8⟩:=a9.get (Ay dp) Fn.zero (k:=(ex.num).toNat) sD
   obtain⟨ap,rfl,au⟩:=RF.of b4
   have av:=au.rn.lenle
   unfold maxLen at av
   refine AI (p:=Ax a6 ((ex.num).toNat) 3) 2 BV Z (a8 _<|As.of_ext [] a0.drew.drew) Aa<|Ah (p:=Ao (Ax a6 ((ex.num).toNat) 3) 2) (.inl Z) ap Bf Z ((a8 _<|As.of_ext [] a0.drew.drew).ld (i:=2) BF) Aa<|AO (v:=ap) CZ Z au.rn.isSl Aa<|BB ((((p.getD (ex.num).toNat Fn.zero).outs.length:Nat):Int)-1) Z Z (Dp oM oM) Aa<|AA 74 [] [] [zI ex.pick,zI ((0:Nat):Int),zI ((((p.getD (ex.num).toNat Fn.zero).outs.length:Nat):Int)-1)] Z Z IW Aa (.bool (decide (((0:Nat):Int)≤ex.pick) && decide (ex.pick≤((((p.getD (ex.num).toNat Fn.zero).outs.length:Nat):Int)-1)))) (fun wq=>Bv wq _ _ _ a5.rng.pick oM oM) ?_
   refine Br (!(decide (((0:Nat):Int)≤ex.pick) && decide (ex.pick≤((((p.getD (ex.num).toNat Fn.zero).outs.length:Nat):Int)-1)))) Z Z Aa<|Ad 1 Z ?_
   cases b9:(!(decide (((0:Nat):Int)≤ex.pick) && decide (ex.pick≤((((p.getD (ex.num).toNat Fn.zero).outs.length:Nat):Int)-1))))
   ·refine Ad 1 Z<|AM (hex.isPtr) Z (Ae (e:=51) Z Z Z)<|AI (p:=ve) 4 B8 Z (a1 _<|As.of_ext [] a0.drew.drew) (Ae (e:=51) Z Z Z)<|Ah (p:=Ao ve 4) (.inl Z) ab Bf Z ((a1 _<|As.of_ext [] a0.drew.drew).ld (i:=4) BF) (Ae (e:=51) Z Z Z)<|AO (v:=ab) CZ Z a5.rn.isSl (Ae (e:=51) Z Z Z)<|Ad 1 Z ?_
    refine AM (RN.isPtr<|RN.ptr (Ay dp) (by decide) Fn.zero a9 sD) Z (Ae (e:=51) Z Z Z)<|AI (p:=Ax a6 ((ex.num).toNat) 3) 1 Ck Z (a8 _<|As.of_ext [] a0.drew.drew) (Ae (e:=51) Z Z Z)<|Ah (p:=Ao (Ax a6 ((ex.num).toNat) 3) 1) (.inl Z) (zI<|(p.getD ((ex.num).toNat) Fn.zero).params) AC Z ((a8 _<|As.of_ext [] a0.drew.drew).ld (i:=1) BF) (Ae (e:=51) Z Z Z) ?_
    by_cases b1:(ex.kids.length:Int)≠(p.getD ((ex.num).toNat) Fn.zero).params
    ·exact B3 true Z Z (A5 b1) (Ae (e:=51) Z Z Z)<|Ac 1 Z<|Ag Z<|aI Z<|A1<|Am<|Am<|Af [8] Z (.bool false) Z ⟨D0,a0.drew.drew⟩
    refine B3 false Z Z (A6 b1) (Ae (e:=51) Z Z Z)<|Ac 1 Z<|Ai Z<|A2<|A0<|aH [0,0,0,2,0] Z<|Ad 1 Z<|AM (hex.isPtr) Z Aa<|AI (p:=ve) 0 Bg Z (a1 _<|As.of_ext [] a0.drew.drew) Aa<|Ah (p:=Ao ve 0) (.inr Z) (zI ex.kind) AC Z ((a1 _<|As.of_ext [] a0.drew.drew).ld (i:=0) BF) Aa ?_
    by_cases ac:ex.kind=((10:Nat):Int)
    ·refine Al true Z Z (A5 ac) Aa<|Aj<|Ag Z<|aH [0,0,0,2,0,0] Z<|Ad 1 Z<|AM (hex.isPtr) Z Aa<|AI (p:=ve) 3 Di Z (a1 _<|As.of_ext [] a0.drew.drew) Aa<|Ah (p:=Ao ve 3) (.inr Z) (zI ex.count) AC Z ((a1 _<|As.of_ext [] a0.drew.drew).ld (i:=3) BF) Aa<|Al (decide (ex.count=((0:Nat):Int))) Z Z Z Aa<|Ac 1 Z<|A1<|Am<|Am ?_
     exact Af [8] Z (.bool<|decide (ex.count=((0:Nat):Int))) Z ⟨D0,a0.drew.drew⟩
    refine Al false Z Z (A6 ac) Aa<|Aj<|Ai Z<|A2<|A0<|AQ _ [0,0,0,1,0,0,0,0,0,1,0,0,0,0,1,0,0,0] mixed (by kernel_rfl)<|Ad 1 Z<|AM (hex.isPtr) Z Aa<|AI (p:=ve) 3 Di Z (a1 _<|As.of_ext [] a0.drew.drew.drew) Aa<|Ah (p:=Ao ve 3) (.inl Z) (zI ex.count) AC Z ((a1 _<|As.of_ext [] a0.drew.drew.drew).ld (i:=3) BF) Aa<|AA 74 [] [] [zI ex.count,zI ((0:Nat):Int),zI ((8:Nat):Int)] Z Z IW Aa (.bool (decide (((0:Nat):Int)≤ex.count) && decide (ex.count≤((8:Nat):Int)))) (fun wq=>Bv wq _ _ _ a5.rng.count oM oM)<|Ad 1 Z ?_
    cases b5:(decide (((0:Nat):Int)≤ex.count) && decide (ex.count≤((8:Nat):Int)))
    ·exact Ac 12 Z<|A1<|Am<|Af [8] Z (.bool false) Z ⟨D0,a0.drew.drew.drew⟩
    refine Ad 1 Z<|AM (RN.isPtr<|RN.ptr (Ay dp) (by decide) Fn.zero a9 sD) Z (Ae (e:=78) Z Z Z)<|AI (p:=Ax a6 ((ex.num).toNat) 3) 2 BV Z (a8 _<|As.of_ext [] a0.drew.drew.drew) (Ae (e:=78) Z Z Z)<|Ah (p:=Ao (Ax a6 ((ex.num).toNat) 3) 2) (.inl Z) ap Bf Z ((a8 _<|As.of_ext [] a0.drew.drew.drew).ld (i:=2) BF) (Ae (e:=78) Z Z Z) ?_
    refine AO (v:=ap) CZ Z au.rn.isSl (Ae (e:=78) Z Z Z)<|Ad 1 Z<|AM (RN.isPtr<|RN.ptr (Ay dp) (by decide) Fn.zero a9 sD) Z (Ae (e:=78) Z Z Z)<|AI (p:=Ax a6 ((ex.num).toNat) 3) 1 Ck Z (a8 _<|As.of_ext [] a0.drew.drew.drew) (Ae (e:=78) Z Z Z) ?_
    refine Ah (p:=Ao (Ax a6 ((ex.num).toNat) 3) 1) (.inl Z) (zI<|(p.getD ((ex.num).toNat) Fn.zero).params) AC Z ((a8 _<|As.of_ext [] a0.drew.drew.drew).ld (i:=1) BF) (Ae (e:=78) Z Z Z)<|Al (decide (((((p.getD ((ex.num).toNat) Fn.zero).outs).length:Nat):Int)=(p.getD ((ex.num).toNat) Fn.zero).params)) Z Z Z (Ae (e:=78) Z Z Z)<|Ac 2 Z<|A1<|Am ?_
    exact Af [8] Z (.bool<|decide (((((p.getD ((ex.num).toNat) Fn.zero).outs).length:Nat):Int)=(p.getD ((ex.num).toNat) Fn.zero).params)) Z ⟨D0,a0.drew.drew.drew⟩
   exact Ac 11 Z<|Ag Z<|aI Z<|A1<|Am<|Am<|Af [8] Z (.bool false) Z ⟨D0,a0.drew.drew⟩
  exact Ag (by first|rfl|exact zW az)<|aI Z<|A1<|Am<|Am<|Af [8] Z (.bool false) Z ⟨D0,a0⟩
 refine Al false Z Z (A6 ay) Aa<|Ad 2 Z<|AM (hex.isPtr) Z (Ae (e:=15) Z Z Z)<|AI (p:=ve) 0 Bg Z (a1 _<|As.of_ext [] a0) (Ae (e:=15) Z Z Z)<|Ah (p:=Ao ve 0) (.inr Z) (zI ex.kind) AC Z ((a1 _<|As.of_ext [] a0).ld (i:=0) BF) (Ae (e:=15) Z Z Z) ?_
 by_cases ad:ex.kind=((11:Nat):Int)
 ·refine Al true Z Z (A5 ad) (Ae (e:=15) Z Z Z)<|Ac 1 Z<|Ag Z<|A0<|aH [0,0,0,2,0,0,0,0] Z<|Ad 1 Z<|AM (hex.isPtr) Z Aa<|AI (p:=ve) 1 BE Z (a1 _<|As.of_ext [] a0) Aa<|Ah (p:=Ao ve 1) (.inr Z) (zI ex.num) AC Z ((a1 _<|As.of_ext [] a0).ld (i:=1) BF) Aa<|Ad 1 Z<|BB (funcs-1) Z Z (Dp oM oM) Aa<|AA 74 [] [] [zI ex.num,zI ((0:Nat):Int),zI (funcs-1)] Z Z IW Aa (.bool (decide (((0:Nat):Int)≤ex.num) && decide (ex.num≤(funcs-1)))) (fun wq=>Bv wq _ _ _ a5.rng.num oM oM) ?_
  refine Br (!(decide (((0:Nat):Int)≤ex.num) && decide (ex.num≤(funcs-1)))) Z Z Aa<|Aj ?_
  cases ae:(!(decide (((0:Nat):Int)≤ex.num) && decide (ex.num≤(funcs-1))))
  ·refine Ai (by first|rfl|exact zW ae)<|A2<|A0<|AQ _ [0,0,0,1,0,0,0,1,0,0] mixed (by kernel_rfl) ?_
   have hnr:=Hg (EZ (by assumption):(decide (((0:Nat):Int)≤ex.num) && decide (ex.num≤funcs-1))=true)
   refine Ad 1 Z<|AM (hp.isPtr) Z Aa ?_
   obtain⟨cs16,aw,af⟩:=RN.at (AR _) hp
   obtain⟨a2,rfl,a4⟩:=RPr.of aw
   have ag:=a4.lenle
   unfold maxLen at ag
   refine AI (p:=vp) 0 BC Z (af _<|As.of_ext [] a0.drew) Aa<|Ah (p:=Ao vp 0) (.inl Z) a2 C2 Z ((af _<|As.of_ext [] a0.drew).ld (i:=0) BF) Aa<|Ad 1 Z<|AM (hex.isPtr) Z Aa<|AI (p:=ve) 1 BE Z (a1 _<|As.of_ext [] a0.drew) Aa<|Ah (p:=Ao ve 1) (.inl Z) (zI ex.num) AC Z ((a1 _<|As.of_ext [] a0.drew).ld (i:=1) BF) Aa ?_
   refine Az (v:=a2) ((ex.num).toNat) GI Cy Z Z a4.isSl oM sD Aa<|Ac 1 Z<|A0<|A0<|AQ _ [0,0,0,1,0,0,0,1,0,0,0,0,0,0,0,0,1,0,0,0,0,1,0,0] mixed (by kernel_rfl)<|Ad 1 Z<|AM (hex.isPtr) Z Aa<|AI (p:=ve) 2 D3 Z (a1 _<|As.of_ext [] a0.drew.drew) Aa ?_
   refine Ah (p:=Ao ve 2) (.inl Z) (zI ex.pick) AC Z ((a1 _<|As.of_ext [] a0.drew.drew).ld (i:=2) BF) Aa<|Ad 1 Z<|AM (RN.isPtr<|RN.ptr (Ay dp) (by decide) Fn.zero a4 sD) Z Aa ?_
   obtain⟨cs17,ax,a3⟩:=a4.get (Ay dp) Fn.zero (k:=(ex.num).toNat) sD
   obtain⟨a7,rfl,aa⟩:=RF.of ax
   have ah:=aa.rn.lenle
   unfold maxLen at ah
   refine AI (p:=Ax a2 ((ex.num).toNat) 3) 2 BV Z (a3 _<|As.of_ext [] a0.drew.drew) Aa<|Ah (p:=Ao (Ax a2 ((ex.num).toNat) 3) 2) (.inl Z) a7 Bf Z ((a3 _<|As.of_ext [] a0.drew.drew).ld (i:=2) BF) Aa<|AO (v:=a7) CZ Z aa.rn.isSl Aa<|BB ((((p.getD (ex.num).toNat Fn.zero).outs.length:Nat):Int)-1) Z Z (Dp oM oM) Aa<|AA 74 [] [] [zI ex.pick,zI ((0:Nat):Int),zI ((((p.getD (ex.num).toNat Fn.zero).outs.length:Nat):Int)-1)] Z Z IW Aa (.bool (decide (((0:Nat):Int)≤ex.pick) && decide (ex.pick≤((((p.getD (ex.num).toNat Fn.zero).outs.length:Nat):Int)-1)))) (fun wq=>Bv wq _ _ _ a5.rng.pick oM oM) ?_
   refine Br (!(decide (((0:Nat):Int)≤ex.pick) && decide (ex.pick≤((((p.getD (ex.num).toNat Fn.zero).outs.length:Nat):Int)-1)))) Z Z Aa<|Ad 1 Z ?_
   cases b6:(!(decide (((0:Nat):Int)≤ex.pick) && decide (ex.pick≤((((p.getD (ex.num).toNat Fn.zero).outs.length:Nat):Int)-1))))
   ·refine Ad 1 Z<|AM (hex.isPtr) Z (Ae (e:=51) Z Z Z)<|AI (p:=ve) 4 B8 Z (a1 _<|As.of_ext [] a0.drew.drew) (Ae (e:=51) Z Z Z)<|Ah (p:=Ao ve 4) (.inl Z) ab Bf Z ((a1 _<|As.of_ext [] a0.drew.drew).ld (i:=4) BF) (Ae (e:=51) Z Z Z)<|AO (v:=ab) CZ Z a5.rn.isSl (Ae (e:=51) Z Z Z)<|Ad 1 Z ?_
    refine AM (RN.isPtr<|RN.ptr (Ay dp) (by decide) Fn.zero a4 sD) Z (Ae (e:=51) Z Z Z)<|AI (p:=Ax a2 ((ex.num).toNat) 3) 1 Ck Z (a3 _<|As.of_ext [] a0.drew.drew) (Ae (e:=51) Z Z Z)<|Ah (p:=Ao (Ax a2 ((ex.num).toNat) 3) 1) (.inl Z) (zI<|(p.getD ((ex.num).toNat) Fn.zero).params) AC Z ((a3 _<|As.of_ext [] a0.drew.drew).ld (i:=1) BF) (Ae (e:=51) Z Z Z) ?_
    by_cases ai:(ex.kids.length:Int)≠(p.getD ((ex.num).toNat) Fn.zero).params
    ·exact B3 true Z Z (A5 ai) (Ae (e:=51) Z Z Z)<|Ac 1 Z<|Ag Z<|aI Z<|A1<|Am<|Am<|Af [8] Z (.bool false) Z ⟨D0,a0.drew.drew⟩
    refine B3 false Z Z (A6 ai) (Ae (e:=51) Z Z Z)<|Ac 1 Z<|Ai Z<|A2<|A0<|aH [0,0,0,2,0] Z<|Ad 1 Z<|AM (hex.isPtr) Z Aa<|AI (p:=ve) 0 Bg Z (a1 _<|As.of_ext [] a0.drew.drew) Aa<|Ah (p:=Ao ve 0) (.inr Z) (zI ex.kind) AC Z ((a1 _<|As.of_ext [] a0.drew.drew).ld (i:=0) BF) Aa ?_
    by_cases aj:ex.kind=((10:Nat):Int)
    ·refine Al true Z Z (A5 aj) Aa<|Aj<|Ag Z<|aH [0,0,0,2,0,0] Z<|Ad 1 Z<|AM (hex.isPtr) Z Aa<|AI (p:=ve) 3 Di Z (a1 _<|As.of_ext [] a0.drew.drew) Aa<|Ah (p:=Ao ve 3) (.inr Z) (zI ex.count) AC Z ((a1 _<|As.of_ext [] a0.drew.drew).ld (i:=3) BF) Aa<|Al (decide (ex.count=((0:Nat):Int))) Z Z Z Aa<|Ac 1 Z<|A1<|Am<|Am ?_
     exact Af [8] Z (.bool<|decide (ex.count=((0:Nat):Int))) Z ⟨D0,a0.drew.drew⟩
    refine Al false Z Z (A6 aj) Aa<|Aj<|Ai Z<|A2<|A0<|AQ _ [0,0,0,1,0,0,0,0,0,1,0,0,0,0,1,0,0,0] mixed (by kernel_rfl)<|Ad 1 Z<|AM (hex.isPtr) Z Aa<|AI (p:=ve) 3 Di Z (a1 _<|As.of_ext [] a0.drew.drew.drew) Aa<|Ah (p:=Ao ve 3) (.inl Z) (zI ex.count) AC Z ((a1 _<|As.of_ext [] a0.drew.drew.drew).ld (i:=3) BF) Aa<|AA 74 [] [] [zI ex.count,zI ((0:Nat):Int),zI ((8:Nat):Int)] Z Z IW Aa (.bool (decide (((0:Nat):Int)≤ex.count) && decide (ex.count≤((8:Nat):Int)))) (fun wq=>Bv wq _ _ _ a5.rng.count oM oM)<|Ad 1 Z ?_
    cases b7:(decide (((0:Nat):Int)≤ex.count) && decide (ex.count≤((8:Nat):Int)))
    ·exact Ac 12 Z<|A1<|Am<|Af [8] Z (.bool false) Z ⟨D0,a0.drew.drew.drew⟩
    refine Ad 1 Z<|AM (RN.isPtr<|RN.ptr (Ay dp) (by decide) Fn.zero a4 sD) Z (Ae (e:=78) Z Z Z)<|AI (p:=Ax a2 ((ex.num).toNat) 3) 2 BV Z (a3 _<|As.of_ext [] a0.drew.drew.drew) (Ae (e:=78) Z Z Z)<|Ah (p:=Ao (Ax a2 ((ex.num).toNat) 3) 2) (.inl Z) a7 Bf Z ((a3 _<|As.of_ext [] a0.drew.drew.drew).ld (i:=2) BF) (Ae (e:=78) Z Z Z) ?_
    refine AO (v:=a7) CZ Z aa.rn.isSl (Ae (e:=78) Z Z Z)<|Ad 1 Z<|AM (RN.isPtr<|RN.ptr (Ay dp) (by decide) Fn.zero a4 sD) Z (Ae (e:=78) Z Z Z)<|AI (p:=Ax a2 ((ex.num).toNat) 3) 1 Ck Z (a3 _<|As.of_ext [] a0.drew.drew.drew) (Ae (e:=78) Z Z Z) ?_
    refine Ah (p:=Ao (Ax a2 ((ex.num).toNat) 3) 1) (.inl Z) (zI<|(p.getD ((ex.num).toNat) Fn.zero).params) AC Z ((a3 _<|As.of_ext [] a0.drew.drew.drew).ld (i:=1) BF) (Ae (e:=78) Z Z Z)<|Al (decide (((((p.getD ((ex.num).toNat) Fn.zero).outs).length:Nat):Int)=(p.getD ((ex.num).toNat) Fn.zero).params)) Z Z Z (Ae (e:=78) Z Z Z)<|Ac 2 Z<|A1<|Am ?_
    exact Af [8] Z (.bool<|decide (((((p.getD ((ex.num).toNat) Fn.zero).outs).length:Nat):Int)=(p.getD ((ex.num).toNat) Fn.zero).params)) Z ⟨D0,a0.drew.drew.drew⟩
   exact Ac 11 Z<|Ag Z<|aI Z<|A1<|Am<|Am<|Af [8] Z (.bool false) Z ⟨D0,a0.drew.drew⟩
  exact Ag (by first|rfl|exact zW ae)<|aI Z<|A1<|Am<|Am<|Af [8] Z (.bool false) Z ⟨D0,a0⟩
 refine Al false Z Z (A6 ad) (Ae (e:=15) Z Z Z)<|Ac 1 Z<|Ai Z<|A2<|A0<|A0<|AQ _ [0,0,0,1,0,0,0,0,1,0,0,0,0,0,0,1,0,0,0,0,0,0,1,0,0] mixed (by kernel_rfl)<|Ad 1 Z<|AM (hex.isPtr) Z Aa<|AI (p:=ve) 0 Bg Z (a1 _<|As.of_ext [] a0.drew) Aa<|Ah (p:=Ao ve 0) (.inl Z) (zI ex.kind) AC Z ((a1 _<|As.of_ext [] a0.drew).ld (i:=0) BF) Aa<|AA 198 [] [] [zI ex.kind] Z Z UE Aa (zI<|Q9 ex.kind) (fun wq=>L2 wq _ a5.rng.kind)<|Ad 1 Z<|AM (hex.isPtr) Z Aa<|AI (p:=ve) 4 B8 Z (a1 _<|As.of_ext [] a0.drew) Aa ?_
 refine Ah (p:=Ao ve 4) (.inl Z) ab Bf Z ((a1 _<|As.of_ext [] a0.drew).ld (i:=4) BF) Aa<|AO (v:=ab) CZ Z a5.rn.isSl Aa ?_
 by_cases ak:Q9 ex.kind≠(ex.kids.length:Int)
 ·exact B3 true Z Z (A5 ak) Aa<|Ac 14 Z<|Ag Z<|aI Z<|A1<|Am<|Af [8] Z (.bool false) Z ⟨D0,a0.drew⟩
 refine B3 false Z Z (A6 ak) Aa<|Ad 2 Z<|AM (hex.isPtr) Z (Ae (e:=101) Z Z Z)<|AI (p:=ve) 2 D3 Z (a1 _<|As.of_ext [] a0.drew) (Ae (e:=101) Z Z Z)<|Ah (p:=Ao ve 2) (.inl Z) (zI ex.pick) AC Z ((a1 _<|As.of_ext [] a0.drew).ld (i:=2) BF) (Ae (e:=101) Z Z Z) ?_
 by_cases al:ex.pick≠((0:Nat):Int)
 ·exact B3 true Z Z (A5 al) (Ae (e:=101) Z Z Z)<|Ac 8 Z<|Ag Z<|aI Z<|A1<|Am<|Af [8] Z (.bool false) Z ⟨D0,a0.drew⟩
 refine B3 false Z Z (A6 al) (Ae (e:=101) Z Z Z)<|Ad 3 Z<|AM (hex.isPtr) Z (Ae (e:=108) Z Z Z)<|AI (p:=ve) 3 Di Z (a1 _<|As.of_ext [] a0.drew) (Ae (e:=108) Z Z Z)<|Ah (p:=Ao ve 3) (.inl Z) (zI ex.count) AC Z ((a1 _<|As.of_ext [] a0.drew).ld (i:=3) BF) (Ae (e:=108) Z Z Z) ?_
 by_cases am:ex.count≠((0:Nat):Int)
 ·exact B3 true Z Z (A5 am) (Ae (e:=108) Z Z Z)<|Ac 1 Z<|Ag Z<|aI Z<|A1<|Am<|Af [8] Z (.bool false) Z ⟨D0,a0.drew⟩
 refine B3 false Z Z (A6 am) (Ae (e:=108) Z Z Z)<|Ac 1 Z<|Ai Z<|A2<|A0<|aH [0,0,0,2] Z<|Ad 1 Z<|AM (hex.isPtr) Z Aa<|AI (p:=ve) 0 Bg Z (a1 _<|As.of_ext [] a0.drew) Aa<|Ah (p:=Ao ve 0) (.inr Z) (zI ex.kind) AC Z ((a1 _<|As.of_ext [] a0.drew).ld (i:=0) BF) Aa<|Aj<|A3<|aH [0,0] Z ?_
 by_cases an:ex.kind=((1:Nat):Int)
 ·refine Al true Z Z (A5 an) Aa<|Ac 1 Z<|Ag Z<|aH [0,0,0,2,0,0] Z<|Ad 1 Z<|AM (hex.isPtr) Z Aa<|AI (p:=ve) 1 BE Z (a1 _<|As.of_ext [] a0.drew) Aa<|Ah (p:=Ao ve 1) (.inr Z) (zI ex.num) AC Z ((a1 _<|As.of_ext [] a0.drew).ld (i:=1) BF) Aa<|AA 220 [] [] [zI ex.num] Z Z UF Aa (.bool<|HP ex.num) (fun wq=>G6 wq _ a5.rng.num)<|Ac 1 Z<|A1<|AF<|Am ?_
  exact Af [8] Z (.bool<|HP ex.num) Z ⟨D0,a0.drew⟩
 refine Al false Z Z (A6 an) Aa<|Ac 1 Z<|Ai Z<|aH [0,0] Z ?_
 by_cases ao:ex.kind=((2:Nat):Int)
 ·refine Al true Z Z (A5 ao) Aa<|Ac 1 Z<|Ag Z<|aH [0,0,0,2,0,0,0,0] Z<|Ad 1 Z<|AM (hex.isPtr) Z Aa<|AI (p:=ve) 1 BE Z (a1 _<|As.of_ext [] a0.drew) Aa<|Ah (p:=Ao ve 1) (.inr Z) (zI ex.num) AC Z ((a1 _<|As.of_ext [] a0.drew).ld (i:=1) BF) Aa<|Ad 1 Z<|BB (vars-1) Z Z (Dp oM oM) Aa<|AA 74 [] [] [zI ex.num,zI ((0:Nat):Int),zI (vars-1)] Z Z IW Aa (.bool (decide (((0:Nat):Int)≤ex.num) && decide (ex.num≤(vars-1)))) (fun wq=>Bv wq _ _ _ a5.rng.num oM oM)<|Ac 1 Z<|A1<|AF<|Am ?_
  exact Af [8] Z (.bool (decide (((0:Nat):Int)≤ex.num) && decide (ex.num≤(vars-1)))) Z ⟨D0,a0.drew⟩
 refine Al false Z Z (A6 ao) Aa<|Ac 1 Z<|Ai Z<|A2<|aH [0,0,0,2,0,0] Z<|Ad 1 Z<|AM (hex.isPtr) Z Aa<|AI (p:=ve) 1 BE Z (a1 _<|As.of_ext [] a0.drew) Aa<|Ah (p:=Ao ve 1) (.inr Z) (zI ex.num) AC Z ((a1 _<|As.of_ext [] a0.drew).ld (i:=1) BF) Aa<|Al (decide (ex.num=((0:Nat):Int))) Z Z Z Aa<|Ac 1 Z<|A1 ?_
 exact Af [8] Z (.bool<|decide (ex.num=((0:Nat):Int))) Z ⟨D0,a0.drew⟩
theorem L4 {p:Prop}(h:p:=by first|exact AJ (QN (GQ (by assumption)))|exact AJ (Mk (EZ (by assumption)) fun j hj=>hall j oM)|exact AJ (QO (k:=k) oM (by first|(rw[if_pos oM])|(rw[if_neg oM])) (GQ (by assumption)))):p:=h
theorem Oy {p:Prop}(h:p:=by intro j hj;by_cases e9:j=k;(rw[e9];first|(rw[if_pos oM];exact EZ (by assumption))|(rw[if_neg oM];exact EZ (by assumption)));exact hall j oM):p:=h
theorem L5 (w:World)(dp:Nat)(vp:Value)(p:List Fn)(dex:Nat)(ve:Value)(ex:Ex)(vars:Int)(funcs:Int)(hp:RN [] (rP (JY dp)) w.heap vp p)(hex:RN [] (rP (Lm dex)) w.heap ve ex)(_hvars:Bt vars)(_hfuncs:Bt funcs)(hs:0≤vars∧vars+(ex.deep:Int)≤2000000000)(hf:0≤funcs∧funcs≤(p.length:Int)) :
  Calls Tryz.prog 272 #[vp,ve,zI vars,zI funcs] w (fun e w'=>e=.returned (.bool (wf p funcs ex vars))∧AG w w'):=by
 induction dex using Nat.strongRecOn generalizing w dp vp p ve ex vars funcs
 rename_i dex ih
 refine Ap [vp,ve,zI vars,zI funcs] 49 Tryz.func272 Z Z sM ?_
 have aa:AG w w:=AG.refl w
 have hdk:=DC ex
 refine aI Z<|A0<|aH [0,0,0,0,3,0] Z<|Ad 4 Z<|Au 287 [] [] [vp,ve,zI vars,zI funcs] Z Z YH Aa (L3 _ dp vp (p) dex ve (ex) _ _ (hp.ext (B7<|AR dp) aa) (hex.ext (B7<|Aw dex) aa) _hvars _hfuncs oM oM) ?_
 rintro e1 w1 ⟨rfl,ab⟩
 refine⟨_,rfl,ab,?_⟩
 have ac:=ab.size
 have ad:=aa.trans ab
 refine Br (!(Gl p funcs vars ex)) Z Z Aa<|Aj ?_
 cases ag:(!(Gl p funcs vars ex))
 ·refine Ai (by first|rfl|exact zW ag)<|A2<|A0<|aI Z<|A3 ?_
  refine AW (S:=Nat) (fun k=>([(9,zI (k:Int)),(0,vp),(1,ve),(2,zI vars),(3,zI funcs)])) (fun k W=>AG w W∧k≤ex.kids.length∧(∀j,j<k→wf p funcs (ex.kids.getD j Ex.zero) (if ex.kind=9∧j=1 then vars+1 else vars)=true)) (fun k=>ex.kids.length-k) 0 ⟨rfl,rfl,rfl,rfl,rfl,trivial⟩ ⟨ad,sD,(by intro j hj;omega)⟩ ?_
  clear aa ab ac ad
  rintro k ρ3 w3 ⟨a0,ah,hall⟩
  have ap:w.heap.size≤w3.heap.size:=a0.size
  refine A0<|aH [0,0,0,0,2,0,0] Z<|Ad 2 Z<|AM (hex.isPtr) Z Aa ?_
  obtain⟨cs4,aq,a2⟩:=RN.at (Aw _) hex
  obtain⟨dd4,a1,au,rfl,a3⟩:=RX.of aq
  have ae:=a3.rn.lenle
  unfold maxLen at ae
  refine AI (p:=ve) 4 B8 Z (a2 _<|As.of_ext [] a0) Aa<|Ah (p:=Ao ve 4) (.inr Z) a1 Bf Z ((a2 _<|As.of_ext [] a0).ld (i:=4) (by simp[EP,EQ])) Aa<|AO (v:=a1) CZ Z a3.rn.isSl Aa ?_
  by_cases ai:(k:Int)<(ex.kids.length:Int)
  ·refine AE true Z Z (A5 ai) Aa<|Aj<|Ag Z<|A2<|A0<|A3<|aH [0,0] Z ?_
   have hkd:=D7 (l:=ex.kids) (k:=k) oM
   refine Ac 2 Z<|A0<|aH [0,0,0,2,0,0,0,0,0] Z<|Ad 1 Z<|AM (hex.isPtr) Z Aa<|AI (p:=ve) 0 Bg Z (a2 _<|As.of_ext [] a0) Aa<|Ah (p:=Ao ve 0) (.inr Z) (zI ex.kind) AC Z ((a2 _<|As.of_ext [] a0).ld (i:=0) (by simp[EP,EQ])) Aa ?_
   by_cases aj:ex.kind=((9:Nat):Int)
   ·refine Al true Z Z (A5 aj) Aa<|Ad 2 Z ?_
    by_cases ak:(k:Int)=((1:Nat):Int)
    ·refine Al true Z Z (A5 ak) (Ae (e:=32) Z Z Z)<|Ac 1 Z<|Ag Z<|Ab _ [0,0,0] Z<|Ad 1 Z<|AN (vars+1) Z Z (Dp oM oM) Aa<|Ac 1 Z<|aH [0,0,0,0,2,0,0,0,0,3,0] Z<|Ad 2 Z<|AM (hex.isPtr) Z Aa<|AI (p:=ve) 4 B8 Z (a2 _<|As.of_ext [] a0) Aa<|Ah (p:=Ao ve 4) (.inr Z) a1 Bf Z ((a2 _<|As.of_ext [] a0).ld (i:=4) (by simp[EP,EQ])) Aa<|Ad 1 Z ?_
     refine Az (v:=a1) k CZ Bm Z Z a3.rn.isSl Z sD Aa<|Ad 2 Z ?_
     refine Au 272 [] [] [vp,Ax a1 k 5,zI (vars+1),zI funcs] Z Z PI Aa (ih dd4 oM _ dp vp (p) (Ax a1 k 5) (ex.kids.getD k Ex.zero) _ _ (hp.ext (B7<|AR dp) a0) (RN.ptr (Aw dd4) (by decide) Ex.zero (a3.rn.ext (An<|Aw dd4) a0) sD) oM _hfuncs oM oM) ?_
     rintro e8 w8 ⟨rfl,af⟩
     refine⟨_,rfl,af,?_⟩
     have ar:=af.size
     have al:=a0.trans af
     refine Br (!(wf p funcs (ex.kids.getD k Ex.zero) (vars+1))) Z Z Aa<|Aj ?_
     cases am:(!(wf p funcs (ex.kids.getD k Ex.zero) (vars+1)))
     ·refine Ai (by first|rfl|exact zW am)<|A2<|Ab _ [0,0,0] Z<|Ad 1 Z<|AN ((k+1:Nat):Int) Z Z (Be oM sD) Aa<|Ac 1 Z ?_
      exact⟨k+1,_,rfl,zR,⟨al,sD,Oy⟩,zD⟩
     exact Ag (by first|rfl|exact zW am)<|aI Z<|A1<|AF<|Am<|Am<|AF<|Am<|Af [8] Z (.bool false) Z ⟨L4,al⟩
    refine Al false Z Z (A6 ak) (Ae (e:=32) Z Z Z)<|Ac 1 Z<|Ai Z<|A2<|aH [0,0,0,0,2,0,0,0,0,3,0] Z<|Ad 2 Z<|AM (hex.isPtr) Z Aa<|AI (p:=ve) 4 B8 Z (a2 _<|As.of_ext [] a0) Aa<|Ah (p:=Ao ve 4) (.inr Z) a1 Bf Z ((a2 _<|As.of_ext [] a0).ld (i:=4) (by simp[EP,EQ])) Aa<|Ad 1 Z ?_
    refine Az (v:=a1) k CZ Bm Z Z a3.rn.isSl Z sD Aa<|Ad 2 Z ?_
    refine Au 272 [] [] [vp,Ax a1 k 5,zI vars,zI funcs] Z Z PI Aa (ih dd4 oM _ dp vp (p) (Ax a1 k 5) (ex.kids.getD k Ex.zero) _ _ (hp.ext (B7<|AR dp) a0) (RN.ptr (Aw dd4) (by decide) Ex.zero (a3.rn.ext (An<|Aw dd4) a0) sD) _hvars _hfuncs oM oM) ?_
    rintro av aw ⟨rfl,a4⟩
    refine⟨_,rfl,a4,?_⟩
    have an:=a4.size
    have a6:=a0.trans a4
    refine Br (!(wf p funcs (ex.kids.getD k Ex.zero) vars)) Z Z Aa<|Aj ?_
    cases a7:(!(wf p funcs (ex.kids.getD k Ex.zero) vars))
    ·refine Ai (by first|rfl|exact zW a7)<|A2<|Ab _ [0,0,0] Z<|Ad 1 Z<|AN ((k+1:Nat):Int) Z Z (Be oM sD) Aa<|Ac 1 Z ?_
     exact⟨k+1,_,rfl,zR,⟨a6,sD,Oy⟩,zD⟩
    exact Ag (by first|rfl|exact zW a7)<|aI Z<|A1<|AF<|Am<|Am<|AF<|Am<|Af [8] Z (.bool false) Z ⟨L4,a6⟩
   refine Al false Z Z (A6 aj) Aa<|Ac 4 Z<|Ai Z<|A2<|aH [0,0,0,0,2,0,0,0,0,3,0] Z<|Ad 2 Z<|AM (hex.isPtr) Z Aa<|AI (p:=ve) 4 B8 Z (a2 _<|As.of_ext [] a0) Aa<|Ah (p:=Ao ve 4) (.inr Z) a1 Bf Z ((a2 _<|As.of_ext [] a0).ld (i:=4) (by simp[EP,EQ])) Aa<|Ad 1 Z ?_
   refine Az (v:=a1) k CZ Bm Z Z a3.rn.isSl Z sD Aa<|Ad 2 Z ?_
   refine Au 272 [] [] [vp,Ax a1 k 5,zI vars,zI funcs] Z Z PI Aa (ih dd4 oM _ dp vp (p) (Ax a1 k 5) (ex.kids.getD k Ex.zero) _ _ (hp.ext (B7<|AR dp) a0) (RN.ptr (Aw dd4) (by decide) Ex.zero (a3.rn.ext (An<|Aw dd4) a0) sD) _hvars _hfuncs oM oM) ?_
   rintro ax ay ⟨rfl,a5⟩
   refine⟨_,rfl,a5,?_⟩
   have ao:=a5.size
   have a8:=a0.trans a5
   refine Br (!(wf p funcs (ex.kids.getD k Ex.zero) vars)) Z Z Aa<|Aj ?_
   cases a9:(!(wf p funcs (ex.kids.getD k Ex.zero) vars))
   ·refine Ai (by first|rfl|exact zW a9)<|A2<|Ab _ [0,0,0] Z<|Ad 1 Z<|AN ((k+1:Nat):Int) Z Z (Be oM sD) Aa<|Ac 1 Z ?_
    exact⟨k+1,_,rfl,zR,⟨a8,sD,Oy⟩,zD⟩
   exact Ag (by first|rfl|exact zW a9)<|aI Z<|A1<|AF<|Am<|Am<|AF<|Am<|Af [8] Z (.bool false) Z ⟨L4,a8⟩
  exact AE false Z Z (A6 ai) Aa<|Aj<|Ai Z<|A4<|Av<|Av<|Aq<|aI Z<|A1<|Af [8] Z (.bool true) Z ⟨L4,a0⟩
 exact Ag (by first|rfl|exact zW ag)<|aI Z<|A1<|Am<|Af [8] Z (.bool false) Z ⟨L4,ad⟩
theorem L6 (w:World)(vars:Int)(_hvars:Bt vars)  :
  Calls Tryz.prog 270 #[zI vars] w (fun e w'=>e=.returned (.bool (GS vars 0 412))∧w'=w):=by
 refine Ap [zI vars] 5 Tryz.func270 Z Z sM ?_
 have a0:w=w:=rfl
 exact aI Z<|aH [0,0,0] Z<|Ad 1 Z<|AA 74 [] [] [zI vars,zI ((0:Nat):Int),zI ((412:Nat):Int)] Z Z IW Aa (.bool (decide (((0:Nat):Int)≤vars) && decide (vars≤((412:Nat):Int)))) (fun wq=>Bv wq _ _ _ _hvars oM oM)<|Ac 1 Z<|A1<|Af [2] Z (.bool (decide (((0:Nat):Int)≤vars) && decide (vars≤((412:Nat):Int)))) Z ⟨rfl,a0⟩
theorem L7 {p:Prop}(h:p:=by first|exact AJ (UR (by assumption))|exact AJ (PO ⟨BJ.1 (by assumption),Hg (by assumption),zO,zO⟩)|exact AJ ((by assumption:wf p funcs ex vars=true).symm.trans (PO ⟨BJ.1 (by assumption),Hg (by assumption),zO,zO⟩))|exact AJ (Mc fun hh=>SA (by assumption) hh.1)|exact AJ (Mc fun hh=>NR (by assumption) hh.2.1)|exact AJ (Mc oM)):p:=h
theorem L8 (w:World)(dp:Nat)(vp:Value)(p:List Fn)(dex:Nat)(ve:Value)(ex:Ex)(vars:Int)(funcs:Int)(hp:RN [] (rP (JY dp)) w.heap vp p)(hex:RN [] (rP (Lm dex)) w.heap ve ex)(_hvars:Bt vars)(_hfuncs:Bt funcs)(hs:ex.size≤1000000000) :
  Calls Tryz.prog 240 #[vp,ve,zI vars,zI funcs] w (fun e w'=>e=.returned (.bool (Lq p ex vars funcs))∧AG w w'):=by
 refine Ap [vp,ve,zI vars,zI funcs] 37 Tryz.func240 Z Z sM ?_
 have a1:AG w w:=AG.refl w
 have hlp:=Rp (e:=ex) (x:=((400:Nat):Int)) oM
 refine aI Z<|aH [0,0,0,0,0,0,0,2,0,0,0,0,0,3,0,0,0,0,3,0,0,0,0,0,0,0,3,0,0] Z<|Ad 1 Z<|AA 270 [] [] [zI vars] Z Z YE Aa (.bool<|GS vars 0 412) (fun wq=>L6 wq _ _hvars)<|Ad 1 Z ?_
 cases ah:(GS vars 0 412)
 ·exact Ac 26 Z<|A1<|Af [8] Z (.bool false) Z ⟨L7,a1⟩
 refine Ad 2 Z<|AM (hp.isPtr) Z (Ae (e:=11) Z Z Z) ?_
 obtain⟨cs3,ae,a8⟩:=RN.at (AR _) hp
 obtain⟨a9,rfl,aa⟩:=RPr.of ae
 have a3:=aa.lenle
 unfold maxLen at a3
 refine AI (p:=vp) 0 BC Z (a8 _<|As.of_ext [] a1) (Ae (e:=11) Z Z Z)<|Ah (p:=Ao vp 0) (.inr Z) a9 C2 Z ((a8 _<|As.of_ext [] a1).ld (i:=0) (by simp[EP,EQ])) (Ae (e:=11) Z Z Z)<|AO (v:=a9) GI Z aa.isSl (Ae (e:=11) Z Z Z)<|AA 74 [] [] [zI funcs,zI ((0:Nat):Int),zI (p.length:Int)] Z Z IW (Ae (e:=11) Z Z Z) (.bool (decide (((0:Nat):Int)≤funcs) && decide (funcs≤(p.length:Int)))) (fun wq=>Bv wq _ _ _ _hfuncs oM oM)<|Ad 2 Z ?_
 cases ai:(decide (((0:Nat):Int)≤funcs) && decide (funcs≤(p.length:Int)))
 ·exact Ac 17 Z<|A1<|Af [8] Z (.bool false) Z ⟨L7,a1⟩
 refine Ad 1 Z<|Au 239 [] [] [ve,zI ((400:Nat):Int)] Z Z So (Ae (e:=20) Z Z Z) (Hj _ dex ve (ex) _ (hex.ext (B7<|Aw dex) a1) oM oM oM) ?_
 rintro e6 w6 ⟨rfl,a4⟩
 refine⟨_,rfl,a4,?_⟩
 have af:=a4.size
 have a5:=a1.trans a4
 by_cases ab:((0:Nat):Int)≤HF ex ((400:Nat):Int)
 ·refine Fp true Z Z (A5 ab) (Ae (e:=20) Z Z Z)<|Ad 3 Z<|Au 271 [] [] [ve] Z Z UL (Ae (e:=25) Z Z Z) (JT _ dex ve (ex) (hex.ext (B7<|Aw dex) a5) oM) ?_
  rintro e8 w8 ⟨rfl,a6⟩
  refine⟨_,rfl,a6,?_⟩
  have ag:=a6.size
  have a2:=a5.trans a6
  by_cases ac:(ex.deep:Int)≤((60:Nat):Int)
  ·refine DJ true Z Z (A5 ac) (Ae (e:=25) Z Z Z)<|Ad 6 Z<|Au 272 [] [] [vp,ve,zI vars,zI funcs] Z Z PI (Ae (e:=30) Z Z Z) (L5 _ dp vp (p) dex ve (ex) _ _ (hp.ext (B7<|AR dp) a2) (hex.ext (B7<|Aw dex) a2) _hvars _hfuncs (by have h1:=BJ.1 (by assumption:GS vars 0 412=true);omega) (by have h2:=Hg (by assumption:(decide (((0:Nat):Int)≤funcs) && decide (funcs≤(p.length:Int)))=true);omega)) ?_
   rintro aj ak ⟨rfl,a0⟩
   refine⟨_,rfl,a0,?_⟩
   have ad:=a0.size
   have a7:=a2.trans a0
   exact Ac 2 Z<|A1<|Af [8] Z (.bool<|wf p funcs ex vars) Z ⟨L7,a7⟩
  exact DJ false Z Z (A6 ac) (Ae (e:=25) Z Z Z)<|Ac 9 Z<|A1<|Af [8] Z (.bool false) Z ⟨L7,a2⟩
 exact Fp false Z Z (A6 ab) (Ae (e:=20) Z Z Z)<|Ac 14 Z<|A1<|Af [8] Z (.bool false) Z ⟨L7,a5⟩
theorem X7 {s:ByteArray}(h:¬(1≤s.size∧s.size≤12)):false=Kz s:=by
  cases hh:Kz s with
  |false=>rfl
  |true=>unfold Kz at hh;simp only[z7,decide_eq_true_eq]at hh;exact absurd hh.1 h
theorem Hk {p:Prop}(h:p:=by first|exact AJ (X7 (fun hh=>NR (GQ (by assumption)) ⟨zO,zO⟩))|exact AJ (Ov (k:=0) oM oM)|exact AJ (Ov (k:=k) oM oM)|exact AJ (Sz hq oM (by rw[A5 (show 1≤s.size by omega),A5 (show s.size≤12 by omega)];rfl))):p:=h
theorem Oz {p:Prop}(h:p:=by exact DE hq (PN (by(by_cases h0:k=0;(rw[h0];left;omega);omega)))):p:=h
theorem Lx (w:World)(s:ByteArray)  (hl:s.size≤1000000000) :
  Calls Tryz.prog 238 #[.string s] w (fun e w'=>e=.returned (.bool (Kz s))∧w'=w):=by
 refine Ap [.string s] 46 Tryz.func238 Z Z sM ?_
 have a1:w=w:=rfl
 refine aI Z<|A0<|aH [0,0,0,0,0,0,0,0,0,0,0,0,0,0] Z<|Ad 1 Z<|Kp (s:=s) u9 Z Aa<|AA 74 [] [] [zI (s.size:Int),zI ((1:Nat):Int),zI ((12:Nat):Int)] Z Z IW Aa (.bool (decide (((1:Nat):Int)≤(s.size:Int)) && decide ((s.size:Int)≤((12:Nat):Int)))) (fun wq=>Bv wq _ _ _ oM oM oM)<|Br (!(decide (((1:Nat):Int)≤(s.size:Int)) && decide ((s.size:Int)≤((12:Nat):Int)))) Z Z Aa<|Ad 1 Z ?_
 cases ac:(!(decide (((1:Nat):Int)≤(s.size:Int)) && decide ((s.size:Int)≤((12:Nat):Int))))
 ·refine Ad 1 Z ?_
  have hsz:=Hg (EZ (by assumption):(decide (((1:Nat):Int)≤(s.size:Int)) && decide ((s.size:Int)≤((12:Nat):Int)))=true)
  refine D2 (s:=s) 0 u9 Z Z Z sD (Ae (e:=8) Z Z Z) ?_
  by_cases a5:((J5 s 0:Nat):Int)<97
  ·exact AE true Z Z (A5 a5) (Ae (e:=8) Z Z Z)<|Ac 6 Z<|Ag Z<|aI Z<|A1<|Am<|Af [2] Z (.bool false) Z ⟨Hk,a1⟩
  refine AE false Z Z (A6 a5) (Ae (e:=8) Z Z Z)<|Ad 3 Z<|D2 (s:=s) 0 u9 Z Z Z sD (Ae (e:=13) Z Z Z) ?_
  by_cases a6:122<((J5 s 0:Nat):Int)
  ·exact BN true Z Z (A5 a6) (Ae (e:=13) Z Z Z)<|Ac 1 Z<|Ag Z<|aI Z<|A1<|Am<|Af [2] Z (.bool false) Z ⟨Hk,a1⟩
  refine BN false Z Z (A6 a6) (Ae (e:=13) Z Z Z)<|Ac 1 Z<|Ai Z<|A2<|A0<|aI Z<|A3<|AW (S:=Nat) (fun k=>([(3,zI (k:Int)),(0,.string s)])) (fun k W=>W=w∧k≤s.size∧(List.range k).all (U1 s)=true) (fun k=>s.size-k) 0 ⟨rfl,rfl,trivial⟩ ⟨a1,sD,(by rfl)⟩ ?_
  clear a1
  rintro k ρ5 w5 ⟨a0,a7,hq⟩
  refine A0<|aH [0,0,0,0] Z<|Ad 2 Z<|Kp (s:=s) u9 Z Aa ?_
  by_cases a8:(k:Int)<(s.size:Int)
  ·refine AE true Z Z (A5 a8) Aa<|Aj<|Ag Z<|A2<|A0<|A3<|aH [0,0,0,0,0,0,0,0,0,0,0,0,0,0,0,0,0,0,0,0,0,0] Z<|Ad 2 Z<|D2 (s:=s) k u9 Z Z Z sD Aa ?_
   by_cases a9:((J5 s k:Nat):Int)<97
   ·refine AE true Z Z (A5 a9) Aa<|Ad 9 Z<|D2 (s:=s) k u9 Z Z Z sD (Ae (e:=34) Z Z Z) ?_
    by_cases aa:((J5 s k:Nat):Int)<48
    ·exact AE true Z Z (A5 aa) (Ae (e:=34) Z Z Z)<|Ac 7 Z<|Ag Z<|aI Z<|A1<|AF<|Am<|Am<|AF<|Am<|Af [2] Z (.bool false) Z ⟨Hk,a0⟩
    refine AE false Z Z (A6 aa) (Ae (e:=34) Z Z Z)<|Ad 3 Z<|D2 (s:=s) k u9 Z Z Z sD (Ae (e:=39) Z Z Z) ?_
    by_cases ab:57<((J5 s k:Nat):Int)
    ·exact BN true Z Z (A5 ab) (Ae (e:=39) Z Z Z)<|Ac 2 Z<|Ag Z<|aI Z<|A1<|AF<|Am<|Am<|AF<|Am<|Af [2] Z (.bool false) Z ⟨Hk,a0⟩
    refine BN false Z Z (A6 ab) (Ae (e:=39) Z Z Z)<|Ac 2 Z<|Ai Z<|A2<|Ab _ [0,0,0] Z<|Ad 1 Z<|AN ((k+1:Nat):Int) Z Z (Be oM sD) Aa<|Ac 1 Z ?_
    exact⟨k+1,_,rfl,⟨rfl,rfl,trivial⟩,⟨a0,sD,Oz⟩,zD⟩
   refine AE false Z Z (A6 a9) Aa<|Ad 3 Z<|D2 (s:=s) k u9 Z Z Z sD (Ae (e:=28) Z Z Z) ?_
   by_cases a2:122<((J5 s k:Nat):Int)
   ·refine BN true Z Z (A5 a2) (Ae (e:=28) Z Z Z)<|Ad 4 Z<|D2 (s:=s) k u9 Z Z Z sD (Ae (e:=34) Z Z Z) ?_
    by_cases a3:((J5 s k:Nat):Int)<48
    ·exact AE true Z Z (A5 a3) (Ae (e:=34) Z Z Z)<|Ac 7 Z<|Ag Z<|aI Z<|A1<|AF<|Am<|Am<|AF<|Am<|Af [2] Z (.bool false) Z ⟨Hk,a0⟩
    refine AE false Z Z (A6 a3) (Ae (e:=34) Z Z Z)<|Ad 3 Z<|D2 (s:=s) k u9 Z Z Z sD (Ae (e:=39) Z Z Z) ?_
    by_cases a4:57<((J5 s k:Nat):Int)
    ·exact BN true Z Z (A5 a4) (Ae (e:=39) Z Z Z)<|Ac 2 Z<|Ag Z<|aI Z<|A1<|AF<|Am<|Am<|AF<|Am<|Af [2] Z (.bool false) Z ⟨Hk,a0⟩
    refine BN false Z Z (A6 a4) (Ae (e:=39) Z Z Z)<|Ac 2 Z<|Ai Z<|A2<|Ab _ [0,0,0] Z<|Ad 1 Z<|AN ((k+1:Nat):Int) Z Z (Be oM sD) Aa<|Ac 1 Z ?_
    exact⟨k+1,_,rfl,⟨rfl,rfl,trivial⟩,⟨a0,sD,Oz⟩,zD⟩
   refine BN false Z Z (A6 a2) (Ae (e:=28) Z Z Z)<|Ac 13 Z<|Ai Z<|A2<|Ab _ [0,0,0] Z<|Ad 1 Z<|AN ((k+1:Nat):Int) Z Z (Be oM sD) Aa<|Ac 1 Z ?_
   exact⟨k+1,_,rfl,⟨rfl,rfl,trivial⟩,⟨a0,sD,Oz⟩,zD⟩
  exact AE false Z Z (A6 a8) Aa<|Aj<|Ai Z<|A4<|Av<|Av<|Aq<|aI Z<|A1<|Af [2] Z (.bool true) Z ⟨Hk,a0⟩
 exact Ac 9 Z<|Ag Z<|aI Z<|A1<|Am<|Af [2] Z (.bool false) Z ⟨Hk,a1⟩
theorem SG {α:Type}{l:List α}{f:α→Bool}{k:Nat}(d:α)(hk:k<l.length)(h:(l.take k).any f=false)(h2:f (l.getD k d)=false):(l.take (k+1)).any f=false:=by
  rw[List.take_succ_eq_append_getElem hk,List.any_append,h]
  have:l.getD k d=l[k]:=by simp[hk]
  rw[this]at h2
  simp[h2]
theorem TS {α:Type}{l:List α}{f:α→Bool}{k n:Nat}(d:α)(hk:k<n)(hn:n≤l.length)(h:f (l.getD k d)=true):(l.take n).any f=true:=by
  rw[List.any_eq_true]
  have hkl:k<l.length:=by omega
  have e:l.getD k d=l[k]:=by simp[hkl]
  refine⟨l[k],?_,by rw[← e];exact h⟩
  rw[List.mem_take_iff_getElem]
  exact⟨k,zO,rfl⟩
theorem TT {p:List Fn}{a j:Nat}{x:Int}(hx:x=CY ((p.getD a Fn.zero).outs.take j) ((400:Nat):Int))(h:0≤x)(hj:(p.getD a Fn.zero).outs.length≤j):Ex.sizes (p.getD a Fn.zero).outs≤400:=by
  rw[za hj]at hx
  rcases Hx (p.getD a Fn.zero).outs ((400:Nat):Int) (Int.natCast_nonneg _)with h2|h2
  · have:=h2.2;omega
  · have:=h2.1;omega
theorem SH {p:List Fn}{a j:Nat}(h:CY ((p.getD a Fn.zero).outs.take j) ((400:Nat):Int)<0):JJ p a=false:=YT (by
  have h1:=M2 h
  rcases Hx (p.getD a Fn.zero).outs ((400:Nat):Int) (Int.natCast_nonneg _)with h2|h2
  · have:=h2.1;have:=h2.2;omega
  · have:=h2.2;omega)
theorem Ii {p:Prop}(h:p:=by first|exact AJ (YN (GQ (by assumption))).symm|exact AJ (YP (GQ (by assumption))).symm|exact AJ (YQ (GQ (by assumption))).symm|exact AJ (YO (TS (k:=k) Fn.zero oM oM (by assumption))).symm|exact AJ (SH (j:=j+1) (by rw[hnx,← hx];omega)).symm|exact AJ (YS (j:=j) oM (GQ (by assumption))).symm|exact AJ (US (EZ (by assumption)) hqa (EZ (by assumption)) (EZ (by assumption)) hqe oM (TT hx oM oM)).symm):p:=h
theorem Ff {p:Prop}(h:p:=by simp[EP,EQ]):p:=h
theorem L9 (w:World)(dp:Nat)(vp:Value)(p:List Fn)(a:Nat)(hp:RN [] (rP (JY dp)) w.heap vp p)(ha:a<p.length)(hpl:p.length≤1000000)(hz:Qh p) :
  Calls Tryz.prog 207 #[vp,zI (a:Int)] w (fun e w'=>e=.returned (.bool (JJ p a))∧AG w w'):=by
 refine Ap [vp,zI (a:Int)] 91 Tryz.func207 Z Z sM ?_
 have a4:AG w w:=AG.refl w
 have hza:=hz a ha
 refine aI Z<|aH [0,0,0,2,0,0,0] Z<|Ad 1 Z<|AM (hp.isPtr) Z Aa ?_
 obtain⟨cs1,ay,al⟩:=RN.at (AR _) hp
 obtain⟨a0,rfl,a5⟩:=RPr.of ay
 have ab:=a5.lenle
 unfold maxLen at ab
 refine AI (p:=vp) 0 BC Z (al _<|As.of_ext [] a4) Aa<|Ah (p:=Ao vp 0) (.inr Z) a0 C2 Z ((al _<|As.of_ext [] a4).ld (i:=0) Ff) Aa<|Ad 1 Z<|Az (v:=a0) a GI Cy Z Z a5.isSl Z sD Aa<|Ac 1 Z<|A0<|aH [0,0,0,2,0,0,0,0,0,0,2,0,0,0,0,0,0,0,2,0,0,0,0] Z<|Ad 1 Z ?_
 refine AM (RN.isPtr<|RN.ptr (Ay dp) (by decide) Fn.zero a5 sD) Z Aa ?_
 obtain⟨cs2,az,a3⟩:=a5.get (Ay dp) Fn.zero (k:=a) sD
 obtain⟨a6,rfl,a9⟩:=RF.of az
 have ac:=a9.rn.lenle
 unfold maxLen at ac
 refine AI (p:=Ax a0 a 3) 0 Jr Z (a3 _<|As.of_ext [] a4) Aa<|Ah (p:=Ao (Ax a0 a 3) 0) (.inr Z) (.string<|(p.getD a Fn.zero).name) Om Z ((a3 _<|As.of_ext [] a4).ld (i:=0) Ff) Aa<|AA 238 [] [] [.string<|(p.getD a Fn.zero).name] Z Z Yw Aa (.bool<|Kz<|(p.getD a Fn.zero).name) (fun wq=>Lx wq ((p.getD a Fn.zero).name) oM)<|Br (!(Kz<|(p.getD a Fn.zero).name)) Z Z Aa<|Ad 1 Z ?_
 cases b1:(!(Kz ((p.getD a Fn.zero).name)))
 ·refine Ad 1 Z<|AM (RN.isPtr<|RN.ptr (Ay dp) (by decide) Fn.zero a5 sD) Z (Ae (e:=21) Z Z Z)<|AI (p:=Ax a0 a 3) 1 Ck Z (a3 _<|As.of_ext [] a4) (Ae (e:=21) Z Z Z)<|Ah (p:=Ao (Ax a0 a 3) 1) (.inr Z) (zI<|(p.getD a Fn.zero).params) AC Z ((a3 _<|As.of_ext [] a4).ld (i:=1) Ff) (Ae (e:=21) Z Z Z) ?_
  refine AA 74 [] [] [zI<|(p.getD a Fn.zero).params,zI ((0:Nat):Int),zI ((12:Nat):Int)] Z Z IW (Ae (e:=21) Z Z Z) (.bool (decide (((0:Nat):Int)≤((p.getD a Fn.zero).params)) && decide (((p.getD a Fn.zero).params)≤((12:Nat):Int)))) (fun wq=>Bv wq _ _ _ a9.rng oM oM)<|Br (!(decide (((0:Nat):Int)≤((p.getD a Fn.zero).params)) && decide (((p.getD a Fn.zero).params)≤((12:Nat):Int)))) Z Z (Ae (e:=21) Z Z Z)<|Ad 2 Z ?_
  cases b2:(!(decide (((0:Nat):Int)≤((p.getD a Fn.zero).params)) && decide (((p.getD a Fn.zero).params)≤((12:Nat):Int))))
  ·refine Ad 1 Z<|AM (RN.isPtr<|RN.ptr (Ay dp) (by decide) Fn.zero a5 sD) Z (Ae (e:=29) Z Z Z)<|AI (p:=Ax a0 a 3) 2 BV Z (a3 _<|As.of_ext [] a4) (Ae (e:=29) Z Z Z)<|Ah (p:=Ao (Ax a0 a 3) 2) (.inr Z) a6 Bf Z ((a3 _<|As.of_ext [] a4).ld (i:=2) Ff) (Ae (e:=29) Z Z Z)<|AO (v:=a6) CZ Z a9.rn.isSl (Ae (e:=29) Z Z Z) ?_
   refine AA 74 [] [] [zI ((((p.getD a Fn.zero).outs).length:Nat):Int),zI ((1:Nat):Int),zI ((12:Nat):Int)] Z Z IW (Ae (e:=29) Z Z Z) (.bool (decide (((1:Nat):Int)≤((((p.getD a Fn.zero).outs).length:Nat):Int)) && decide (((((p.getD a Fn.zero).outs).length:Nat):Int)≤((12:Nat):Int)))) (fun wq=>Bv wq _ _ _ oM oM oM)<|Br (!(decide (((1:Nat):Int)≤((((p.getD a Fn.zero).outs).length:Nat):Int)) && decide (((((p.getD a Fn.zero).outs).length:Nat):Int)≤((12:Nat):Int)))) Z Z (Ae (e:=29) Z Z Z)<|Ac 1 Z ?_
   cases ar:(!(decide (((1:Nat):Int)≤((((p.getD a Fn.zero).outs).length:Nat):Int)) && decide (((((p.getD a Fn.zero).outs).length:Nat):Int)≤((12:Nat):Int))))
   ·refine Ai (by first|rfl|exact zW ar)<|A2<|A0<|aI Z<|A3 ?_
    refine AW (S:=Nat) (fun k=>([(6,zI (k:Int)),(0,vp),(1,zI (a:Int)),(5,Ax a0 a 3)])) (fun k W=>AG w W∧k≤a∧(p.take k).any (fun g=>I6 g.name (p.getD a Fn.zero).name)=false) (fun k=>a-k) 0 ⟨rfl,rfl,rfl,rfl,trivial⟩ ⟨a4,sD,(by rfl)⟩ ?_
    clear a4 ab ac
    rintro k ρ9 w9 ⟨a7,au,hq⟩
    have am:w.heap.size≤w9.heap.size:=a7.size
    refine A0<|aH [0,0,0] Z<|Ad 2 Z ?_
    by_cases ad:(k:Int)<(a:Int)
    ·refine AE true Z Z (A5 ad) Aa<|Aj<|Ag Z<|A2<|A0<|A3<|A0<|AQ _ [0,0,0,1,0,0,0,1,0,0,0,1,0] mixed (by kernel_rfl)<|Ad 1 Z<|AM (hp.isPtr) Z Aa<|AI (p:=vp) 0 BC Z (al _<|As.of_ext [] a7.drew) Aa<|Ah (p:=Ao vp 0) (.inl Z) a0 C2 Z ((al _<|As.of_ext [] a7.drew).ld (i:=0) Ff) Aa<|Ad 1 Z ?_
     refine Az (v:=a0) k GI Cy Z Z a5.isSl Z sD Aa ?_
     obtain⟨cs11,an,ae⟩:=a5.get (Ay dp) Fn.zero (k:=k) sD
     obtain⟨b0,rfl,ao⟩:=RF.of an
     have af:=ao.rn.lenle
     unfold maxLen at af
     refine AI (p:=Ax a0 k 3) 0 Jr Z (ae _<|As.of_ext [] a7.drew) Aa<|Ah (p:=Ao (Ax a0 k 3) 0) (.inl Z) (.string<|(p.getD k Fn.zero).name) Om Z ((ae _<|As.of_ext [] a7.drew).ld (i:=0) Ff) Aa<|Ad 1 Z<|AM (RN.isPtr<|RN.ptr (Ay dp) (by decide) Fn.zero a5 sD) Z Aa<|AI (p:=Ax a0 a 3) 0 Jr Z (a3 _<|As.of_ext [] a7.drew) Aa ?_
     refine Ah (p:=Ao (Ax a0 a 3) 0) (.inl Z) (.string<|(p.getD a Fn.zero).name) Om Z ((a3 _<|As.of_ext [] a7.drew).ld (i:=0) Ff) Aa ?_
     cases ag:I6 ((p.getD k Fn.zero).name) ((p.getD a Fn.zero).name)
     ·refine O0 false u9 Z Z ag Aa<|Aj<|Ai Z<|A2<|Ab _ [0,0,0] Z<|Ad 1 Z<|AN ((k+1:Nat):Int) Z Z (Be oM sD) Aa<|Ac 1 Z ?_
      exact⟨k+1,_,rfl,zR,⟨a7.drew,sD,(by exact SG Fn.zero oM hq (by assumption))⟩,zD⟩
     exact O0 true u9 Z Z ag Aa<|Aj<|Ag Z<|aI Z<|A1<|AF<|Am<|Am<|AF<|Am<|Af [4] Z (.bool false) Z ⟨Ii,a7.drew⟩
    refine AE false Z Z (A6 ad) Aa<|Aj<|Ai Z<|A4<|Av<|Av<|Aq<|aH [0] Z ?_
    have hka:k=a:=by omega
    rw[hka]at hq
    have hqa:=hq
    refine Ac 1 Z<|A0<|aI Z<|A3 ?_
    refine AW (S:=Nat×Int) (fun⟨j,x⟩=>([(7,zI x),(8,zI (j:Int)),(0,vp),(1,zI (a:Int)),(5,Ax a0 a 3)])) (fun⟨j,x⟩ W=>AG w W∧j≤(p.getD a Fn.zero).outs.length∧x=CY ((p.getD a Fn.zero).outs.take j) ((400:Nat):Int)∧(0≤x∧x≤400)∧(List.range j).all (fun j=>Lq p ((p.getD a Fn.zero).outs.getD j Ex.zero) (p.getD a Fn.zero).params (a:Int))=true) (fun⟨j,x⟩=>(p.getD a Fn.zero).outs.length-j) (0,((400:Nat):Int)) ⟨rfl,rfl,rfl,rfl,rfl,trivial⟩ ⟨a7,sD,(by rw[List.take_zero,CY]),oM,(by rfl)⟩ ?_
    clear a7 am
    rintro⟨j,x⟩ ρ13 b3 ⟨a1,ap,hx,aq,hqe⟩
    have av:w.heap.size≤b3.heap.size:=a1.size
    refine A0<|aH [0,0,0,0,2,0,0] Z<|Ad 2 Z<|AM (RN.isPtr<|RN.ptr (Ay dp) (by decide) Fn.zero a5 sD) Z Aa<|AI (p:=Ax a0 a 3) 2 BV Z (a3 _<|As.of_ext [] a1) Aa<|Ah (p:=Ao (Ax a0 a 3) 2) (.inr Z) a6 Bf Z ((a3 _<|As.of_ext [] a1).ld (i:=2) Ff) Aa<|AO (v:=a6) CZ Z a9.rn.isSl Aa ?_
    by_cases ah:(j:Int)<((((p.getD a Fn.zero).outs).length:Nat):Int)
    ·refine AE true Z Z (A5 ah) Aa<|Aj<|Ag Z<|A2<|A0<|A3<|aH [0,0,0,2,0,0,0,3,0] Z ?_
     have hst:=Dx (l:=(p.getD a Fn.zero).outs) (k:=j) oM
     have hle:=D6 (p.getD a Fn.zero).outs (j+1)
     have hnx:=M1 (l:=(p.getD a Fn.zero).outs) (k:=j) (x:=((400:Nat):Int)) oM oM
     have hnr:=Nx (e:=(p.getD a Fn.zero).outs.getD j Ex.zero) (x:=x) oM
     refine Ad 1 Z<|AM (RN.isPtr<|RN.ptr (Ay dp) (by decide) Fn.zero a5 sD) Z Aa<|AI (p:=Ax a0 a 3) 2 BV Z (a3 _<|As.of_ext [] a1) Aa<|Ah (p:=Ao (Ax a0 a 3) 2) (.inr Z) a6 Bf Z ((a3 _<|As.of_ext [] a1).ld (i:=2) Ff) Aa<|Ad 1 Z ?_
     refine Az (v:=a6) j CZ Bm Z Z a9.rn.isSl Z sD Aa<|Ad 1 Z ?_
     refine Au 239 [] [] [Ax a6 j 5,zI x] Z Z So Aa (Hj _ dp (Ax a6 j 5) (((p.getD a Fn.zero).outs).getD j Ex.zero) _ (RN.ptr (Aw dp) (by decide) Ex.zero (a9.rn.ext (An<|Aw dp) a1) sD) oM oM oM) ?_
     rintro b4 b5 ⟨rfl,aa⟩
     refine⟨_,rfl,aa,?_⟩
     have aw:=aa.size
     have a2:=a1.trans aa
     refine Ac 1 Z<|A0<|AQ _ [0,0,0,0,0,0,0,1,0,0,0,0,0,1,0,3,0,0] mixed (by kernel_rfl)<|Ad 1 Z ?_
     by_cases ai:HF (((p.getD a Fn.zero).outs).getD j Ex.zero) x<((0:Nat):Int)
     ·exact AE true Z Z (A5 ai) Aa<|Ac 16 Z<|Ag Z<|aI Z<|A1<|AF<|Am<|Am<|AF<|Am<|Af [4] Z (.bool false) Z ⟨Ii,a2.drew⟩
     refine AE false Z Z (A6 ai) Aa<|Ad 3 Z<|AM (RN.isPtr<|RN.ptr (Ay dp) (by decide) Fn.zero a5 sD) Z (Ae (e:=75) Z Z Z)<|AI (p:=Ax a0 a 3) 2 BV Z (a3 _<|As.of_ext [] a2.drew) (Ae (e:=75) Z Z Z)<|Ah (p:=Ao (Ax a0 a 3) 2) (.inl Z) a6 Bf Z ((a3 _<|As.of_ext [] a2.drew).ld (i:=2) Ff) (Ae (e:=75) Z Z Z)<|Ad 1 Z ?_
     refine Az (v:=a6) j CZ Bm Z Z a9.rn.isSl Z sD (Ae (e:=75) Z Z Z)<|Ad 1 Z ?_
     refine AM (RN.isPtr<|RN.ptr (Ay dp) (by decide) Fn.zero a5 sD) Z (Ae (e:=75) Z Z Z)<|AI (p:=Ax a0 a 3) 1 Ck Z (a3 _<|As.of_ext [] a2.drew) (Ae (e:=75) Z Z Z)<|Ah (p:=Ao (Ax a0 a 3) 1) (.inl Z) (zI<|(p.getD a Fn.zero).params) AC Z ((a3 _<|As.of_ext [] a2.drew).ld (i:=1) Ff) (Ae (e:=75) Z Z Z)<|Ad 1 Z ?_
     refine Au 240 [] [] [vp,Ax a6 j 5,zI<|(p.getD a Fn.zero).params,zI (a:Int)] Z Z Yx (Ae (e:=75) Z Z Z) (L8 _ dp vp (p) dp (Ax a6 j 5) (((p.getD a Fn.zero).outs).getD j Ex.zero) _ _ (hp.ext (B7<|AR dp) a2.drew) (RN.ptr (Aw dp) (by decide) Ex.zero (a9.rn.ext (An<|Aw dp) a2.drew) sD) a9.rng oM oM) ?_
     rintro b6 b7 ⟨rfl,a8⟩
     refine⟨_,rfl,a8,?_⟩
     replace a8:=a8.of_drew
     have ax:=a8.size
     have aj:=a2.trans a8
     refine Br (!(Lq p (((p.getD a Fn.zero).outs).getD j Ex.zero) ((p.getD a Fn.zero).params) (a:Int))) Z Z (Ae (e:=75) Z Z Z)<|Ac 1 Z ?_
     cases ak:(!(Lq p (((p.getD a Fn.zero).outs).getD j Ex.zero) ((p.getD a Fn.zero).params) (a:Int)))
     ·refine Ai (by first|rfl|exact zW ak)<|A2<|Ab _ [0,0,0] Z<|Ad 1 Z<|AN ((j+1:Nat):Int) Z Z (Be oM sD) Aa<|Ac 1 Z ?_
      exact⟨(j+1,HF (((p.getD a Fn.zero).outs).getD j Ex.zero) x),_,rfl,zR,⟨aj,sD,(by rw[hnx,← hx]),oM,(by exact DE hqe (EZ (by assumption)))⟩,zD⟩
     exact Ag (by first|rfl|exact zW ak)<|aI Z<|A1<|AF<|Am<|Am<|AF<|Am<|Af [4] Z (.bool false) Z ⟨Ii,aj⟩
    exact AE false Z Z (A6 ah) Aa<|Aj<|Ai Z<|A4<|Av<|Av<|Aq<|aI Z<|A1<|Af [4] Z (.bool true) Z ⟨Ii,a1⟩
   exact Ag (by first|rfl|exact zW ar)<|aI Z<|A1<|Am<|Af [4] Z (.bool false) Z ⟨Ii,a4⟩
  exact Ac 8 Z<|Ag Z<|aI Z<|A1<|Am<|Af [4] Z (.bool false) Z ⟨Ii,a4⟩
 exact Ac 16 Z<|Ag Z<|aI Z<|A1<|Am<|Af [4] Z (.bool false) Z ⟨Ii,a4⟩
theorem OA {p:Prop}(h:p:=by first|exact AJ (SB oM)|exact AJ (SD oM oM oM hq)|exact AJ (Ih (k:=k) oM (GQ (by assumption)))):p:=h
theorem MP (w:World)(dp:Nat)(vp:Value)(p:List Fn)(hp:RN [] (rP (JY dp)) w.heap vp p)(hz:Qh p) :
  Calls Tryz.prog 138 #[vp] w (fun e w'=>e=.returned (.bool (Jg p))∧AG w w'):=by
 refine Ap [vp] 23 Tryz.func138 Z Z sM ?_
 have a1:AG w w:=AG.refl w
 refine aI Z<|A0<|aH [0,0,0,2,0,0] Z<|Ad 1 Z<|AM (hp.isPtr) Z Aa ?_
 obtain⟨cs1,ac,a3⟩:=RN.at (AR _) hp
 obtain⟨a4,rfl,a5⟩:=RPr.of ac
 have a2:=a5.lenle
 unfold maxLen at a2
 refine AI (p:=vp) 0 BC Z (a3 _<|As.of_ext [] a1) Aa<|Ah (p:=Ao vp 0) (.inr Z) a4 C2 Z ((a3 _<|As.of_ext [] a1).ld (i:=0) (by simp[EP,EQ])) Aa<|AO (v:=a4) GI Z a5.isSl Aa ?_
 by_cases a7:((16:Nat):Int)<(p.length:Int)
 ·exact BN true Z Z (A5 a7) Aa<|Aj<|Ag Z<|aI Z<|A1<|Am<|Af [2] Z (.bool false) Z ⟨OA,a1⟩
 refine BN false Z Z (A6 a7) Aa<|Aj<|Ai Z<|A2<|A0<|aI Z<|A3<|AW (S:=Nat) (fun k=>([(3,zI (k:Int)),(0,vp)])) (fun k W=>AG w W∧k≤p.length∧(List.range k).all (JJ p)=true) (fun k=>p.length-k) 0 ⟨rfl,rfl,trivial⟩ ⟨a1,sD,(by rfl)⟩ ?_
 clear a1 a2
 rintro k ρ3 w3 ⟨a0,a8,hq⟩
 have ad:w.heap.size≤w3.heap.size:=a0.size
 refine A0<|aH [0,0,0,0,2,0,0] Z<|Ad 2 Z<|AM (hp.isPtr) Z Aa<|AI (p:=vp) 0 BC Z (a3 _<|As.of_ext [] a0) Aa<|Ah (p:=Ao vp 0) (.inr Z) a4 C2 Z ((a3 _<|As.of_ext [] a0).ld (i:=0) (by simp[EP,EQ])) Aa<|AO (v:=a4) GI Z a5.isSl Aa ?_
 by_cases a9:(k:Int)<(p.length:Int)
 ·refine AE true Z Z (A5 a9) Aa<|Aj<|Ag Z<|A2<|A0<|A3<|aH [0,0,3,0] Z<|Ad 2 Z<|Au 207 [] [] [vp,zI (k:Int)] Z Z Yn Aa (L9 _ dp vp (p) (k) (hp.ext (B7<|AR dp) a0) oM oM hz) ?_
  rintro e5 w5 ⟨rfl,a6⟩
  refine⟨_,rfl,a6,?_⟩
  have ae:=a6.size
  have aa:=a0.trans a6
  refine Br (!(JJ p k)) Z Z Aa<|Aj ?_
  cases ab:(!(JJ p k))
  ·refine Ai (by first|rfl|exact zW ab)<|A2<|Ab _ [0,0,0] Z<|Ad 1 Z<|AN ((k+1:Nat):Int) Z Z (Be oM sD) Aa<|Ac 1 Z ?_
   exact⟨k+1,_,rfl,⟨rfl,rfl,trivial⟩,⟨aa,sD,(by exact DE hq (EZ (by assumption)))⟩,zD⟩
  exact Ag (by first|rfl|exact zW ab)<|aI Z<|A1<|AF<|Am<|Am<|AF<|Am<|Af [2] Z (.bool false) Z ⟨OA,aa⟩
 exact AE false Z Z (A6 a9) Aa<|Aj<|Ai Z<|A4<|Av<|Av<|Aq<|aI Z<|A1<|Af [2] Z (.bool true) Z ⟨OA,a0⟩
theorem OB {p:Prop}(h:p:=by first|exact B1 (UT (GQ (by assumption)))|exact B1 (UU (EZ (by assumption)) (NR (GQ (by assumption))))|exact B1 (UV (EZ (by assumption)) (Hg (EZ (by assumption))))):p:=h
theorem JU (w:World)(dp:Nat)(vp:Value)(p:List Fn)(f:Int)(hp:RN [] (rP (JY dp)) w.heap vp p)(_hf:Bt f)(hz:Qh p) :
  Calls Tryz.prog 156 #[vp,zI f] w (fun e w'=>e=.returned (zI (G3 p f))∧AG w w'):=by
 refine Ap [vp,zI f] 17 Tryz.func156 Z Z sM ?_
 have a3:AG w w:=AG.refl w
 refine aI Z<|A0<|aH [0,3,0] Z<|Ad 1 Z<|Au 138 [] [] [vp] Z Z Y6 Aa (MP _ dp vp (p) (hp.ext (B7<|AR dp) a3) hz) ?_
 rintro e1 w1 ⟨rfl,a1⟩
 refine⟨_,rfl,a1,?_⟩
 have a9:=a1.size
 have a0:=a3.trans a1
 refine Br (!(Jg p)) Z Z Aa<|Aj ?_
 cases a4:(!(Jg p))
 ·refine Ai (by first|rfl|exact zW a4)<|A2<|A0<|aH [0,0,0,0,2,0,0,0,0] Z<|Ad 2 Z<|AM (hp.isPtr) Z Aa ?_
  obtain⟨cs3,aa,a5⟩:=RN.at (AR _) hp
  obtain⟨a6,rfl,a7⟩:=RPr.of aa
  have a2:=a7.lenle
  unfold maxLen at a2
  refine AI (p:=vp) 0 BC Z (a5 _<|As.of_ext [] a0) Aa<|Ah (p:=Ao vp 0) (.inr Z) a6 C2 Z ((a5 _<|As.of_ext [] a0).ld (i:=0) (by simp[EP,EQ])) Aa<|AO (v:=a6) GI Z a7.isSl Aa<|BB ((p.length:Int)-1) Z Z (Dp oM oM) Aa<|AA 74 [] [] [zI f,zI ((0:Nat):Int),zI ((p.length:Int)-1)] Z Z IW Aa (.bool (decide (((0:Nat):Int)≤f) && decide (f≤((p.length:Int)-1)))) (fun wq=>Bv wq _ _ _ _hf oM oM)<|Br (!(decide (((0:Nat):Int)≤f) && decide (f≤((p.length:Int)-1)))) Z Z Aa<|Aj ?_
  cases a8:(!(decide (((0:Nat):Int)≤f) && decide (f≤((p.length:Int)-1))))
  ·exact Ai (by first|rfl|exact zW a8)<|A2<|aI Z<|A1<|Af [4] Z (zI ((0:Nat):Int)) Z ⟨OB,a0⟩
  exact Ag (by first|rfl|exact zW a8)<|aI Z<|A1<|Am<|Af [4] Z (zI ((2:Nat):Int)) Z ⟨OB,a0⟩
 exact Ag (by first|rfl|exact zW a4)<|aI Z<|A1<|Am<|Af [4] Z (zI ((1:Nat):Int)) Z ⟨OB,a0⟩
theorem Ey (w:World)(x:Int)(K:Nat)(_hx:Bt x)(_hK:K≤1000000000000)(hK:K≤1000000000) :
  Calls Tryz.prog 79 #[zI x,zI (K:Int)] w (fun e w'=>∃v0:Value,e=.returned (v0)∧AG w w'∧Fr (Bi rI 2) w.heap.size w'.heap.size w'.heap v0 (cst K x)):=by
 refine Ap [zI x,zI (K:Int)] 14 Tryz.func79 Z Z sM ?_
 have a5:AG w w:=AG.refl w
 refine aI Z<|aH [0,3,0] Z<|Ad 1 Z (EL (n:=K) Bj Bz Z Z Z sD Aa fun v1 w1 a2 ab a0=>?_)
 have a6:=a2.size
 have a1:=a5.trans a2
 refine Ac 1 Z<|A0<|aH [0,0] Z<|Ad 1 Z ?_
 by_cases a3:((0:Nat):Int)<(K:Int)
 ·refine BN true Z Z (A5 a3) Aa<|Aj<|Ag Z<|Ab _ [0,0,0,4] Z<|Ad 2 Z<|Az (v:=v1) 0 Bj Bz Z Z a0.isSl Z sD Aa ?_
  refine Fz (v:=v1) (w:=w1) GH Z Z _hx a0 sD Aa fun w3 F3 a4 ac a7 a8=>?_
  have a9:AG w w3:=a4.below a1 (fun c hc=>A8 (A7 _) (a7 c hc).1) a1.size
  have aa:=a4.size
  exact Aj<|aH [0,0] Z<|Ac 2 Z<|A1<|Af [4] Z v1 Z ⟨v1,rfl,a9,(by exact a8.up o1)⟩
 exact BN false Z Z (A6 a3) Aa<|Aj<|Ai Z<|A2<|aH [0,0] Z<|Ac 2 Z<|A1<|Af [4] Z v1 Z ⟨v1,rfl,a1,(by have h:=a0.up o1;obtain rfl:K=0:=oM;exact h)⟩
theorem OC (a:List Int)(y:Int):scl a y=Ci a y:=by
  unfold scl Ci
  exact QM (d:=0) (k:=a.length) (fun r hr=>by rw[BZ (d:=0) hr,C9 _ hr]) (by simp) (by simp)
theorem Cd {p:Prop}(h:p:=by first|omega|assumption|(simp only[zb,z9,z4,z6,z5,Eb];omega)|(simp[zb,z9,z4,z6,z5,Eb];done)|(simp[zb,z9,z4,z6,z5,Eb];omega)):p:=h
theorem HW (w:World)(va:Value)(a:Sr)(vb:Value)(b:Sr)(ha:Rd (AX rI) w.heap va a)(hb:Rd (AX rI) w.heap vb b)(hla:a.length≤1000000000000)(hl:a.length≤b.length) :
  Calls Tryz.prog 253 #[va,vb] w (fun e w'=>∃v0:Value,e=.returned (v0)∧AG w w'∧Fr (Bi rI 2) w.heap.size w'.heap.size w'.heap v0 (DF a b)):=by
 refine Ap [va,vb] 27 Tryz.func253 Z Z sM ?_
 have a8:AG w w:=AG.refl w
 have an:=ha.lenle
 have ao:=hb.lenle
 refine aI Z<|aH [3,0] Z (Ch (rI) AK Bj Bz Aa fun v1 w1 a4 af a9=>?_)
 have a5:=a4.size
 have aa:=a8.trans a4
 refine Ac 1 Z<|A0<|aI Z<|A3 ?_
 refine AW (S:=Nat×Value) (fun⟨k,vo⟩=>([(5,vo),(6,zI (k:Int)),(0,va),(1,vb)])) (fun⟨k,vo⟩ W=>AG w W∧Fr (Bi rI 2) w.heap.size W.heap.size W.heap vo (IF k fun t=>md (a.getD t 0+b.getD t 0))∧k≤a.length) (fun⟨k,vo⟩=>a.length-k) (0,v1) ⟨rfl,rfl,rfl,rfl,trivial⟩ ⟨aa,(by exact a9.up o1),Cd⟩ ?_
 clear a8 a9 af a4 a5 aa
 rintro⟨k,vo⟩ ρ2 w2 ⟨a2,a1,ab⟩
 have ag:w.heap.size≤w2.heap.size:=a2.size
 refine A0<|aH [0,0,0,0] Z<|Ad 2 Z<|AO (v:=va) Bj Z ha.isSl Aa ?_
 by_cases ac:(k:Int)<(a.length:Int)
 ·refine AE true Z Z (A5 ac) Aa<|Aj<|Ag Z<|A2<|A0<|A3<|AQ _ [0,0,0,0,1,0,0,0,1,0,3,4,0] mixed (by kernel_rfl)<|Ad 3 Z<|Az (v:=va) k Bj Bz Z Z ha.isSl Z Cd Aa ?_
  refine Ah (p:=Ax va k 1) (.inl Z) (zI<|a.getD k 0) AC Z (Bc a2.drew (ha.getI Cd).1) Aa<|Ad 2 Z ?_
  refine Az (v:=vb) k Bj Bz Z Z hb.isSl Z Cd Aa ?_
  refine Ah (p:=Ax vb k 1) (.inl Z) (zI<|b.getD k 0) AC Z (Bc a2.drew (hb.getI Cd).1) Aa ?_
  refine AA 50 [] [] [zI<|a.getD k 0,zI<|b.getD k 0] Z Z VW Aa (zI<|md ((a.getD k 0)+(b.getD k 0))) (fun wq=>Hc wq _ _ (ha.getI Cd).2 (hb.getI Cd).2) ?_
  refine BI (u:=zI<|md ((a.getD k 0)+(b.getD k 0))) (B:=w2.heap.size) AK Bj Bz Z Z (Lh w2.heap.size w2.heap.size _ _<|E3 _) (A7 _) Aa fun v5 w5 a3 al ad=>?_
  replace a3:=a3.of_drew
  have ah:=a3.size
  have a6:=a2.trans a3
  have a0:=a1.ext (o1) a3
  refine Fy (v:=vo) (a:=v5) Bj Bz Z Z Z a0 a6.size ad.rd1 Cd (by unfold maxLen;first|omega|assumption|(simp[Eb];done)|(simp[Eb];omega)) Aa fun v6 w6 F6 a7 ae ai=>?_
  have aj:AG w w6:=a7.below a6 (fun c hc=>A8 (A7 _) (ae c hc).1) a6.size
  have ak:=a7.size
  have am:=ad.chg (o1) a7 fun c hc=>zH<|ae c hc
  refine Ac 1 Z<|Ab _ [0,0,0] Z<|Ad 1 Z<|AN ((k+1:Nat):Int) Z Z (Be oM Cd) Aa<|Ac 1 Z ?_
  exact⟨(k+1,v6),_,rfl,zR,⟨aj,(by rw[Ku];exact ai.up o1),Cd⟩,zD⟩
 exact AE false Z Z (A6 ac) Aa<|Aj<|Ai Z<|A4<|Av<|Av<|Aq<|aH [0,0] Z<|Ac 2 Z<|A1<|Af [4] Z vo Z ⟨vo,rfl,a2,(by have h:=a1.up o1;rw[show k=a.length from by omega]at h;exact h)⟩
theorem Ly (w:World)(va:Value)(a:Sr)(vb:Value)(b:Sr)(ha:Rd (AX rI) w.heap va a)(hb:Rd (AX rI) w.heap vb b)(hla:a.length≤1000000000000)(hlb:b.length≤1000000000000)(hl:a.length≤b.length) :
  Calls Tryz.prog 254 #[va,vb] w (fun e w'=>∃v0:Value,e=.returned (v0)∧AG w w'∧Fr (Bi rI 2) w.heap.size w'.heap.size w'.heap v0 (EE a b)):=by
 refine Ap [va,vb] 9 Tryz.func254 Z Z sM ?_
 have a7:AG w w:=AG.refl w
 have ab:=ha.lenle
 have ac:=hb.lenle
 refine aI Z<|aH [0,0,3,3,0] Z<|Ad 2 Z<|Au 165 [] [] [vb,zI ((1000002:Nat):Int)] Z Z Uz Aa (GJ _ _ _ _ (hb.ext g1 a7) oM hlb) ?_
 rintro e1 w1 ⟨a3,rfl,a4,a0⟩
 refine⟨_,rfl,a4,?_⟩
 have a8:=a4.size
 have a5:=a7.trans a4
 refine Au 253 [] [] [va,a3] Z Z UJ Aa (HW _ _ _ _ _ (ha.ext g1 a5) a0.rd1 hla (by unfold scl;simp;omega)) ?_
 rintro e2 w2 ⟨a1,rfl,a6,a2⟩
 refine⟨_,rfl,a6,?_⟩
 have a9:=a6.size
 have aa:=a5.trans a6
 exact Ac 1 Z<|A1<|Af [4] Z a1 Z ⟨a1,rfl,aa,(by rw[← QQ hl,← OC];exact(a2.up o1).low a5.size)⟩
theorem Lz (w:World)(va:Value)(a:Sr)(vb:Value)(b:Sr)(ha:Rd (AX rI) w.heap va a)(hb:Rd (AX rI) w.heap vb b)(hla:a.length≤1000000000000)(hl:a.length≤b.length) :
  Calls Tryz.prog 255 #[va,vb] w (fun e w'=>∃v0:Value,e=.returned (v0)∧AG w w'∧Fr (Bi rI 2) w.heap.size w'.heap.size w'.heap v0 (C5 a b)):=by
 refine Ap [va,vb] 39 Tryz.func255 Z Z sM ?_
 have ab:AG w w:=AG.refl w
 have au:=ha.lenle
 have av:=hb.lenle
 refine aI Z<|aH [3,0] Z (Ch (rI) AK Bj Bz Aa fun v1 w1 a5 ak ac=>?_)
 have a6:=a5.size
 have ad:=ab.trans a5
 refine Ac 1 Z<|A0<|aI Z<|A3 ?_
 refine AW (S:=Nat×Value) (fun⟨k,vo⟩=>([(5,vo),(6,zI (k:Int)),(0,va),(1,vb)])) (fun⟨k,vo⟩ W=>AG w W∧Fr (Bi rI 2) w.heap.size W.heap.size W.heap vo (IF k fun t=>LU a b t (t+1))∧k≤a.length) (fun⟨k,vo⟩=>a.length-k) (0,v1) ⟨rfl,rfl,rfl,rfl,trivial⟩ ⟨ad,(by exact ac.up o1),Cd⟩ ?_
 clear ab ac ak a5 a6 ad
 rintro⟨k,vo⟩ ρ2 w2 ⟨a4,a0,ae⟩
 have a7:w.heap.size≤w2.heap.size:=a4.size
 refine A0<|aH [0,0,0,0] Z<|Ad 2 Z<|AO (v:=va) Bj Z ha.isSl Aa ?_
 by_cases af:(k:Int)<(a.length:Int)
 ·refine AE true Z Z (A5 af) Aa<|Aj<|Ag Z<|A2<|A0<|A3<|aI Z<|A0<|aI Z<|A3 ?_
  refine AW (S:=Nat×Int) (fun⟨i,s⟩=>([(7,zI s),(8,zI (i:Int)),(0,va),(1,vb),(5,vo),(6,zI (k:Int))])) (fun⟨i,s⟩ W=>AG w W∧Fr (Bi rI 2) w.heap.size W.heap.size W.heap vo (IF k fun t=>LU a b t (t+1))∧i≤k+1∧s=LU a b k i∧(0≤s∧s<1000003)) (fun⟨i,s⟩=>k+1-i) (0,((0:Nat):Int)) ⟨rfl,rfl,rfl,rfl,rfl,rfl,trivial⟩ ⟨a4,a0.up o1,Cd,(by rfl),oM⟩ ?_
  clear a0 a4 a7
  rintro⟨i,s⟩ ρ4 w4 ⟨a3,a2,ag,hs,hsr⟩
  have al:w.heap.size≤w4.heap.size:=a3.size
  refine A0<|aH [0,0,0] Z<|Ad 2 Z ?_
  by_cases ah:(i:Int)≤(k:Int)
  ·refine DJ true Z Z (A5 ah) Aa<|Aj<|Ag Z<|A2<|A0<|A3<|AQ _ [0,0,0,0,1,0,0,0,0,0,1,0,0,0] mixed (by kernel_rfl)<|Ad 3 Z<|Az (v:=va) i Bj Bz Z Z ha.isSl Z Cd Aa ?_
   refine Ah (p:=Ax va i 1) (.inl Z) (zI<|a.getD i 0) AC Z (Bc a3.drew (ha.getI Cd).1) Aa<|Ad 3 Z<|BB ((k-i:Nat):Int) Z Z (by rw[Dp oM oM];omega) Aa ?_
   refine Az (v:=vb) (k-i) Bj Bz Z Z hb.isSl Z Cd Aa ?_
   refine Ah (p:=Ax vb (k-i) 1) (.inl Z) (zI<|b.getD (k-i) 0) AC Z (Bc a3.drew (hb.getI Cd).1) Aa ?_
   refine AA 112 [] [] [zI<|a.getD i 0,zI<|b.getD (k-i) 0] Z Z JM Aa (zI<|md ((a.getD i 0)*(b.getD (k-i) 0))) (fun wq=>Ct wq _ _ (ha.getI Cd).2 (hb.getI Cd).2) ?_
   refine AA 50 [] [] [zI s,zI<|md ((a.getD i 0)*(b.getD (k-i) 0))] Z Z VW Aa (zI<|md (s+(md ((a.getD i 0)*(b.getD (k-i) 0))))) (fun wq=>Hc wq _ _ oM<|E3 _)<|Ac 1 Z<|Ab _ [0,0,0] Z<|Ad 1 Z<|AN ((i+1:Nat):Int) Z Z (Be oM Cd) Aa<|Ac 1 Z ?_
   exact⟨(i+1,md (s+(md ((a.getD i 0)*(b.getD (k-i) 0))))),_,rfl,zR,⟨a3.drew,a2.up o1,Cd,(by rw[Ft,hs];rfl),(by exact BU _)⟩,zD⟩
  refine DJ false Z Z (A6 ah) Aa<|Aj<|Ai Z<|A4<|Av<|Av<|Aq<|Ab _ [0,0,3,4,0] Z<|Ad 2 Z (BI (u:=zI s) (B:=w4.heap.size) AK Bj Bz Z Z (Lh w4.heap.size w4.heap.size _ _ oM) (A7 _) Aa fun v8 w8 a8 ar ai=>?_)
  have am:=a8.size
  have a9:=a3.trans a8
  have a1:=a2.ext (o1) a8
  refine Fy (v:=vo) (a:=v8) Bj Bz Z Z Z a1 a9.size ai.rd1 Cd (by unfold maxLen;first|omega|assumption|(simp[Eb];done)|(simp[Eb];omega)) Aa fun v9 w9 F9 aa aj an=>?_
  have ao:AG w w9:=aa.below a9 (fun c hc=>A8 (A7 _) (aj c hc).1) a9.size
  have ap:=aa.size
  have aq:=ai.chg (o1) aa fun c hc=>zH<|aj c hc
  refine Ac 1 Z<|Ab _ [0,0,0] Z<|Ad 1 Z<|AN ((k+1:Nat):Int) Z Z (Be oM Cd) Aa<|Ac 1 Z ?_
  exact⟨(k+1,v9),_,rfl,zR,⟨ao,(by rw[Ku];have h:=an.up o1;rw[hs,show i=k+1 from by omega]at h;exact h),Cd⟩,zD⟩
 exact AE false Z Z (A6 af) Aa<|Aj<|Ai Z<|A4<|Av<|Av<|Aq<|aH [0,0] Z<|Ac 2 Z<|A1<|Af [4] Z vo Z ⟨vo,rfl,a4,(by have h:=a0.up o1;rw[show k=a.length from by omega]at h;exact h)⟩
theorem D1 {p:Prop}(h:p:=by first|omega|assumption|(simp only[zb,z9,z4,z6,z5,Dq];omega)|(simp[zb,z9,z4,z6,z5,Dq];done)|(simp[zb,z9,z4,z6,z5,Dq];omega)):p:=h
theorem LA (w:World)(va:Value)(a:Sr)(vb:Value)(b:Sr)(ha:Rd (AX rI) w.heap va a)(hb:Rd (AX rI) w.heap vb b)(hla:a.length≤1000000000000)(hl:a.length≤b.length)(h1:0<b.length)(hqa:B2 a=true) :
  Calls Tryz.prog 256 #[va,vb] w (fun e w'=>∃v0:Value,e=.returned (v0)∧AG w w'∧Fr (Bi rI 2) w.heap.size w'.heap.size w'.heap v0 (BP a b)):=by
 refine Ap [va,vb] 50 Tryz.func256 Z Z sM ?_
 have ag:AG w w:=AG.refl w
 have au:=ha.lenle
 have av:=hb.lenle
 refine aI Z<|aH [3,0] Z (Ch (rI) AK Bj Bz Aa fun v1 w1 aa ao ah=>?_)
 have ab:=aa.size
 have ac:=ag.trans aa
 refine Ac 1 Z<|aH [0,0,2,0,0] Z<|Ad 1 Z<|Az (v:=vb) 0 Bj Bz Z Z hb.isSl Z D1 Aa ?_
 refine Ah (p:=Ax vb 0 1) (.inr Z) (zI<|b.getD 0 0) AC Z (Bc ac (hb.getI D1).1) Aa ?_
 refine AA 163 [] [] [zI<|b.getD 0 0] Z Z Yb Aa (zI<|inv<|b.getD 0 0) (fun wq=>Lr wq _ (hb.getI D1).2)<|Ac 1 Z<|A0<|aI Z<|A3 ?_
 refine AW (S:=Nat×Value) (fun⟨k,vo⟩=>([(5,vo),(7,zI (k:Int)),(0,va),(1,vb),(6,zI<|inv<|b.getD 0 0)])) (fun⟨k,vo⟩ W=>AG w W∧Fr (Bi rI 2) w.heap.size W.heap.size W.heap vo (I7 a b k)∧k≤a.length) (fun⟨k,vo⟩=>a.length-k) (0,v1) ⟨rfl,rfl,rfl,rfl,rfl,trivial⟩ ⟨ac,(by exact ah.up o1),D1⟩ ?_
 clear ag ah ao aa ab ac
 rintro⟨k,vo⟩ ρ3 w3 ⟨a6,a1,ai⟩
 have ad:w.heap.size≤w3.heap.size:=a6.size
 refine A0<|aH [0,0,0,0] Z<|Ad 2 Z<|AO (v:=va) Bj Z ha.isSl Aa ?_
 by_cases aj:(k:Int)<(a.length:Int)
 ·refine AE true Z Z (A5 aj) Aa<|Aj<|Ag Z<|A2<|A0<|A3<|aH [0,0,0,2,0] Z<|Ad 2 Z<|Az (v:=va) k Bj Bz Z Z ha.isSl Z D1 Aa ?_
  refine Ah (p:=Ax va k 1) (.inr Z) (zI<|a.getD k 0) AC Z (Bc a6 (ha.getI D1).1) Aa<|Ac 1 Z<|A0<|aI Z<|A3 ?_
  refine AW (S:=Nat×Int) (fun⟨i,t⟩=>([(8,zI t),(9,zI (i:Int)),(0,va),(1,vb),(5,vo),(6,zI<|inv<|b.getD 0 0),(7,zI (k:Int))])) (fun⟨i,t⟩ W=>AG w W∧Fr (Bi rI 2) w.heap.size W.heap.size W.heap vo (I7 a b k)∧i≤k∧t=MX a b (I7 a b k) k i∧(0≤t∧t<1000003)) (fun⟨i,t⟩=>k-i) (0,a.getD k 0) ⟨rfl,rfl,rfl,rfl,rfl,rfl,rfl,trivial⟩ ⟨a6,a1.up o1,D1,(by rfl),(by exact BY hqa k)⟩ ?_
  clear a1 a6 ad
  rintro⟨i,t⟩ ρ5 w5 ⟨a9,a0,ak,ht,htr⟩
  have ap:w.heap.size≤w5.heap.size:=a9.size
  refine A0<|aH [0,0,0] Z<|Ad 2 Z ?_
  by_cases al:(i:Int)<(k:Int)
  ·refine AE true Z Z (A5 al) Aa<|Aj<|Ag Z<|A2<|A0<|A3<|AQ _ [0,0,0,0,1,0,0,0,0,0,1,0,0,0] mixed (by kernel_rfl) ?_
   have hmn:=BU ((I7 a b k).getD i 0*b.getD (k-i) 0)
   refine Ad 3 Z<|Az (v:=vo) i Bj Bz Z Z a0.isSl Z D1 Aa ?_
   refine Ah (p:=Ax vo i 1) (.inl Z) (zI<|(I7 a b k).getD i 0) AC Z (a0.rd1.getI D1).1 Aa (Ad 3 Z<|BB ((k-i:Nat):Int) Z Z (by rw[Dp oM oM];omega) Aa ?_)
   refine Az (v:=vb) (k-i) Bj Bz Z Z hb.isSl Z D1 Aa ?_
   refine Ah (p:=Ax vb (k-i) 1) (.inl Z) (zI<|b.getD (k-i) 0) AC Z (Bc a9.drew (hb.getI D1).1) Aa ?_
   refine AA 112 [] [] [zI<|(I7 a b k).getD i 0,zI<|b.getD (k-i) 0] Z Z JM Aa (zI<|md (((I7 a b k).getD i 0)*(b.getD (k-i) 0))) (fun wq=>Ct wq _ _ (a0.rd1.getI D1).2 (hb.getI D1).2) ?_
   refine AA 223 [] [] [zI t,zI<|md (((I7 a b k).getD i 0)*(b.getD (k-i) 0))] Z Z Yp Aa (zI<|md (t-(md (((I7 a b k).getD i 0)*(b.getD (k-i) 0))))) (fun wq=>JQ wq _ _ oM (E3 _) oM)<|Ac 1 Z<|Ab _ [0,0,0] Z<|Ad 1 Z<|AN ((i+1:Nat):Int) Z Z (Be oM D1) Aa<|Ac 1 Z ?_
   exact⟨(i+1,md (t-(md (((I7 a b k).getD i 0)*(b.getD (k-i) 0))))),_,rfl,zR,⟨a9.drew,a0.up o1,D1,(by rw[Mi,ht];rfl),(by exact BU _)⟩,zD⟩
  refine AE false Z Z (A6 al) Aa<|Aj<|Ai Z<|A4<|Av<|Av<|Aq<|Ab _ [0,0,0,0,3,4,0] Z<|Ad 3 Z<|AA 112 [] [] [zI t,zI<|inv<|b.getD 0 0] Z Z JM Aa (zI<|md (t*(inv<|b.getD 0 0))) (fun wq=>Ct wq _ _ oM<|OW _) (BI (u:=zI<|md (t*(inv<|b.getD 0 0))) (B:=w5.heap.size) AK Bj Bz Z Z (Lh w5.heap.size w5.heap.size _ _<|E3 _) (A7 _) Aa fun aw az a3 aq a7=>?_)
  have am:=a3.size
  have a4:=a9.trans a3
  have a2:=a0.ext (o1) a3
  refine Fy (v:=vo) (a:=aw) Bj Bz Z Z Z a2 a4.size a7.rd1 D1 (by unfold maxLen;first|omega|assumption|(simp[Dq];done)|(simp[Dq];omega)) Aa fun ax ay b0 a5 a8 ae=>?_
  have af:AG w ay:=a5.below a4 (fun c hc=>A8 (A7 _) (a8 c hc).1) a4.size
  have an:=a5.size
  have ar:=a7.chg (o1) a5 fun c hc=>zH<|a8 c hc
  refine Ac 1 Z<|Ab _ [0,0,0] Z<|Ad 1 Z<|AN ((k+1:Nat):Int) Z Z (Be oM D1) Aa<|Ac 1 Z ?_
  exact⟨(k+1,ax),_,rfl,zR,⟨af,(by have h:=ae.up o1;rw[ht,show i=k from by omega]at h;exact h),D1⟩,zD⟩
 exact AE false Z Z (A6 aj) Aa<|Aj<|Ai Z<|A4<|Av<|Av<|Aq<|aH [0,0] Z<|Ac 2 Z<|A1<|Af [4] Z vo Z ⟨vo,rfl,a6,(by have h:=a1.up o1;rw[show k=a.length from by omega]at h;exact h)⟩
def SV (F d:Nat):Prop:=∀(w:World) (S:List Nat) (g:Nat) (pp:Value) (dp n s0:Nat) (c0:Int) (p:List Fn) (ve:Value) (ex:Ex) (vv:Value) (env:List (List Int)) (hS:∀b∈S,b<w.heap.size) (hgS:g∈S) (hB0:BX w.heap g [pp,.int .i64 ((n:Nat):Int),.int .i64 ((s0:Nat):Int),.int .i64 c0]) (hp:RN S (rP (JY dp)) w.heap pp p) (hn:1≤n∧n≤13) (hs0:s0≤3000) (hc0:0≤c0∧c0≤9) (hex:RN S (rP (Lm d)) w.heap ve ex) (henv:RN S (AX (AX rI)) w.heap vv env) (hqenv:C8 vv)
  (hvp:HE p) (hF:F≤p.length) (hwf:wf p ((F:Nat):Int) ex ((env.length:Nat):Int)=true) (hse:C0 n env) (hdp:env.length+ex.deep≤1000000),
  Calls Tryz.prog 221 #[.pointer (some ⟨g,0,none⟩),ve,vv] w (fun e w'=>∃(v:Value) (x:List Int) (s1:Nat) (c1:Int),e=.returned v∧As [g] w w'∧BX w'.heap g [pp,.int .i64 ((n:Nat):Int),.int .i64 ((s1:Nat):Int),.int .i64 c1]∧RN S (AX rI) w'.heap v x∧Cb n x∧s1≤3000∧(0≤c1∧c1≤9)∧AH (go c0 (Cf n (E4 p n F) ex env s0)) x s1 c1)
def SC (F d:Nat):Prop:=∀(w:World) (S:List Nat) (g:Nat) (pp:Value) (dp n s0:Nat) (c0:Int) (p:List Fn) (ve:Value) (ex:Ex) (vv:Value) (env:List (List Int)) (hS:∀b∈S,b<w.heap.size) (hgS:g∈S) (hB0:BX w.heap g [pp,.int .i64 ((n:Nat):Int),.int .i64 ((s0:Nat):Int),.int .i64 c0]) (hp:RN S (rP (JY dp)) w.heap pp p) (hn:1≤n∧n≤13) (hs0:s0≤3000) (hc0:0≤c0∧c0≤9) (hex:RN S (rP (Lm d)) w.heap ve ex) (henv:RN S (AX (AX rI)) w.heap vv env) (hqenv:C8 vv)
  (hvp:HE p) (hF:F≤p.length) (hwf:wf p ((F:Nat):Int) ex ((env.length:Nat):Int)=true) (hse:C0 n env) (hdp:env.length+ex.deep≤1000000) (hk:ex.kind=10∨ex.kind=11),
  Calls Tryz.prog 252 #[.pointer (some ⟨g,0,none⟩),ve,vv] w (fun e w'=>∃(v:Value) (x:List Int) (s1:Nat) (c1:Int),e=.returned v∧As [g] w w'∧BX w'.heap g [pp,.int .i64 ((n:Nat):Int),.int .i64 ((s1:Nat):Int),.int .i64 c1]∧RN S (AX rI) w'.heap v x∧Cb n x∧s1≤3000∧(0≤c1∧c1≤9)∧AH (go c0 (JK n (E4 p n F) ex env s0)) x s1 c1)
def SO (F:Nat):Prop:=∀(w:World) (S:List Nat) (g:Nat) (pp:Value) (dp n s0:Nat) (c0:Int) (p:List Fn) (dfx:Nat) (vf:Value) (fx:Fn) (va:Value) (env:List (List Int)) (hS:∀b∈S,b<w.heap.size) (hgS:g∈S) (hB0:BX w.heap g [pp,.int .i64 ((n:Nat):Int),.int .i64 ((s0:Nat):Int),.int .i64 c0]) (hp:RN S (rP (JY dp)) w.heap pp p) (hn:1≤n∧n≤13) (hs0:s0≤3000) (hc0:0≤c0∧c0≤9) (hfx:RN S (rP (TZ dfx)) w.heap vf fx) (henv:RN S (AX (AX rI)) w.heap va env) (hqenv:C8 va)
  (hvp:HE p) (hF:F≤p.length) (hwf:∀k,k<fx.outs.length→wf p ((F:Nat):Int) (fx.outs.getD k Ex.zero) ((env.length:Nat):Int)=true) (hse:C0 n env) (hdp:∀k,k<fx.outs.length→env.length+(fx.outs.getD k Ex.zero).deep≤1000000) (hll:fx.outs.length≤1000000),
  Calls Tryz.prog 158 #[.pointer (some ⟨g,0,none⟩),vf,va] w (fun e w'=>∃(v:Value) (x:List (List Int)) (s1:Nat) (c1:Int),e=.returned v∧As [g] w w'∧BX w'.heap g [pp,.int .i64 ((n:Nat):Int),.int .i64 ((s1:Nat):Int),.int .i64 c1]∧RN S (AX (AX rI)) w'.heap v x∧(C8 v∧x.length=fx.outs.length∧C0 n x)∧s1≤3000∧(0≤c1∧c1≤9)∧AH (go c0 (D9 n (E4 p n F) fx.outs env s0)) x s1 c1)
theorem CQ (w:World)(S:List Nat)(g:Nat)(pp:Value)(dp n s0:Nat)(c0:Int)(p:List Fn)(code:Int)(hS:∀b∈S,b<w.heap.size)(hgS:g∈S)(hB0:BX w.heap g [pp,zI (n:Int),zI (s0:Int),zI c0])(hp:RN S (rP (JY dp)) w.heap pp p)(hn:1≤n∧n≤13)(hs0:s0≤3000)(hc0:0≤c0∧c0≤9)(_hcode:Bt code)(hcd:1≤code∧code≤9) :
  Calls Tryz.prog 250 #[zP g,zI code] w (fun e w'=>∃(v:Value) (x:Sr) (s1:Nat) (c1:Int),e=.returned v∧As [g] w w'∧BX w'.heap g [pp,zI (n:Int),zI (s1:Int),zI c1]∧RN S (AX rI) w'.heap v x∧Cb n x∧s1≤3000∧(0≤c1∧c1≤9)∧(s1=s0∧c1=if c0=0 then code else c0)):=by
 refine Ap [zP g,zI code] 19 Tryz.func250 Z Z sM ?_
 have a9:As [g] w w:=As.refl [g] w
 have aj:=hB0.lt
 refine aI Z<|A0<|aH [0,0,0,2,0] Z<|Ad 1 Z<|AT Z Aa<|Ak (p:=zP g) 3 Gu Z Z Aa<|Ah (p:=Ao (zP g) 3) (.inr Z) (zI c0) AC Z (hB0.ldp (i:=3) sM) Aa ?_
 by_cases aa:c0=((0:Nat):Int)
 ·refine Al true Z Z (A5 aa) Aa<|Aj<|Ag Z<|Ab _ [0,0,0,0,4] Z<|Ad 2 Z<|AT Z Aa<|Ak (p:=zP g) 3 Gu Z Z Aa (Bl (k:=3) (w:=w) GH Z Z ⟨rfl,rfl⟩ hB0 sM Aa fun w2 ab ai a6=>?_)
  replace a6:BX w2.heap g [pp,zI (n:Int),zI (s0:Int),zI code]:=a6
  have ac:As [g] w w2:=a9.trans ab
  have ad:=ab.size
  refine Aj<|aH [0,0,0,2,3,0] Z<|Ad 1 Z<|AT Z Aa<|Ak (p:=zP g) 1 MJ Z Z Aa<|Ah (p:=Ao (zP g) 1) (.inr Z) (zI (n:Int)) KU Z (a6.ldp (i:=1) sM) Aa ?_
  refine Au 79 [] [] [zI ((0:Nat):Int),zI (n:Int)] Z Z VY Aa (Ey _ _ (n) oM sD oM) ?_
  rintro e3 w3 ⟨a0,rfl,a7,a1⟩
  refine⟨_,rfl,a7,?_⟩
  have ae:=a7.size
  have af:As [g] w w3:=ac.ext a7
  have a2:=a6.ext a7
  exact Ac 1 Z<|A1<|Af [4] Z a0 Z ⟨a0,cst n ((0:Nat):Int),s0,code,rfl,af,a2,RN.of_fr1 a1 fun b hb=>zH<|hS b hb,(by exact DM (by decide)),oM,oM,(by exact⟨rfl,by first|(rw[if_pos oM])|(rw[if_neg oM])⟩)⟩
 refine Al false Z Z (A6 aa) Aa<|Aj<|Ai Z<|A2<|aH [0,0,0,2,3,0] Z<|Ad 1 Z<|AT Z Aa<|Ak (p:=zP g) 1 MJ Z Z Aa<|Ah (p:=Ao (zP g) 1) (.inr Z) (zI (n:Int)) KU Z (hB0.ldp (i:=1) sM) Aa ?_
 refine Au 79 [] [] [zI ((0:Nat):Int),zI (n:Int)] Z Z VY Aa (Ey _ _ (n) oM sD oM) ?_
 rintro e4 w4 ⟨a3,rfl,a8,a4⟩
 refine⟨_,rfl,a8,?_⟩
 have ag:=a8.size
 have ah:As [g] w w4:=a9.ext a8
 have a5:=hB0.ext a8
 exact Ac 1 Z<|A1<|Af [4] Z a3 Z ⟨a3,cst n ((0:Nat):Int),s0,c0,rfl,ah,a5,RN.of_fr1 a4 fun b hb=>zH<|hS b hb,(by exact DM (by decide)),oM,oM,(by exact⟨rfl,by first|(rw[if_pos oM])|(rw[if_neg oM])⟩)⟩
theorem SI {p:Prop}(h:p:=by unfold maxLen;first|omega|assumption|(simp only[zb,z9,z4,z6,z5];omega)|(simp[zb,z9,z4,z6,z5];done)|(simp[zb,z9,z4,z6,z5];omega)):p:=h
theorem LB (w:World)(S:List Nat)(vv:Value)(env:List (Sr))(vx:Value)(x:Sr)(hS:∀b∈S,b<w.heap.size)(henv:RN S (AX (AX rI)) w.heap vv env)(hqenv:C8 vv)(hx:RN S (AX rI) w.heap vx x)(hel:env.length≤1000000) :
  Calls Tryz.prog 251 #[vv,vx] w (fun e w'=>∃v,e=.returned v∧AG w w'∧RN S (AX (AX rI)) w'.heap v (env++[x])∧C8 v):=by
 refine Ap [vv,vx] 25 Tryz.func251 Z Z sM ?_
 have ai:AG w w:=AG.refl w
 have b8:=henv.lenL
 unfold maxLen at b8
 have b9:=hx.lenL
 unfold maxLen at b9
 refine aI Z<|aH [3,0] Z (Ch rV Bs BH B9 Aa fun v1 w1 a7 aq aj=>?_)
 have a8:=a7.size
 have ak:=ai.trans a7
 obtain⟨b2,F1,b3⟩:=GR.nil (S:=S) (aj.low (B':=w.heap.size) (A7 _))
 refine Ac 1 Z<|A0<|aI Z<|A3<|AW (S:=Nat×Value) (fun⟨k,vo⟩=>([(5,vo),(6,zI (k:Int)),(0,vv),(1,vx)])) (fun⟨k,vo⟩ W=>AG w W∧k≤env.length∧N7 27 S w.heap.size W.heap vo (env.take k)) (fun⟨k,vo⟩=>env.length-k) (0,v1) ⟨rfl,rfl,rfl,rfl,trivial⟩ ⟨ak,sD,(by exact⟨_,_,by assumption⟩)⟩ ?_
 clear ai aj aq a7 a8 ak
 rintro⟨k,vo⟩ ρ2 w2 ⟨a6,al,hbld⟩
 have ar:w.heap.size≤w2.heap.size:=a6.size
 obtain⟨b4,F4,a3⟩:=hbld
 refine A0<|aH [0,0,0,0] Z<|Ad 2 Z<|AO (v:=vv) BH Z henv.slL Aa ?_
 by_cases am:(k:Int)<(env.length:Int)
 ·refine AE true Z Z (A5 am) Aa<|Aj<|Ag Z<|A2<|A0<|A3<|Ab _ [0,0,0,0,2,3,4,0] Z<|Ad 3 Z<|Az (v:=vv) k BH B9 Z Z henv.slL Z sD Aa ?_
  obtain⟨a9,au,aa⟩:=RN.getL (w:=w) g1 [] (k:=k) henv sD
  have ab:=aa.lenL
  unfold maxLen at ab
  refine Ah (p:=Ax vv k 1) (.inr Z) a9 Bk Z (au _<|As.of_ext S a6) Aa (BI (u:=a9) (B:=w2.heap.size) Bs BH B9 Z Z (NS w2.heap.size w2.heap.size _<|aa.one1 g1) (A7 _) Aa fun v7 w7 ac b5 av=>?_)
  have aw:=ac.size
  have ad:=a6.trans ac
  have ae:=a3.ext ac
  refine E2 (v:=vo) (a:=v7) (u:=a9) BH B9 Z Z Z ae oM av ((aa.add (F:=F4) g1 ae.low).ext g1 ad) sD SI Aa ?_
  rintro v9 w9 G9 an ax ⟨b6,F9,b7⟩
  have ay:=an.size
  have az:AG w w9:=an.below ad (fun c hc=>ae.low c (ax c hc)) ad.size
  refine Ac 1 Z<|Ab _ [0,0,0] Z<|Ad 1 Z<|AN ((k+1:Nat):Int) Z Z (Be oM sD) Aa<|Ac 1 Z ?_
  exact⟨(k+1,v9),_,rfl,zR,⟨az,sD,(by rw[CF [] oM];exact⟨_,_,by assumption⟩)⟩,zD⟩
 refine AE false Z Z (A6 am) Aa<|Aj<|Ai Z<|A4<|Av<|Av<|Aq<|aH [0,0,3,4,0] Z<|Ad 2 Z (BI (u:=vx) (B:=w2.heap.size) Bs BH B9 Z Z (NS w2.heap.size w2.heap.size _<|hx.one1 g1) (A7 _) Aa fun bb bd a0 b0 af=>?_)
 have ao:=a0.size
 have a1:=a6.trans a0
 have a2:=a3.ext a0
 refine E2 (v:=vo) (a:=bb) (u:=vx) BH B9 Z Z Z a2 oM af ((hx.add (F:=F4) g1 a2.low).ext g1 a1) sD SI Aa ?_
 rintro ba bc G12 a4 ag ⟨b1,be,a5⟩
 have ap:=a4.size
 have ah:AG w bc:=a4.below a1 (fun c hc=>a2.low c (ag c hc)) a1.size
 exact Ac 1 Z<|A1<|Af [4] Z ba Z ⟨ba,rfl,ah,(by have h9:=(a5.done hS);rw[za oM]at h9;exact h9),a5.cap⟩
theorem Ij (w:World)(S:List Nat)(F:Nat)(g:Nat)(pp:Value)(dp n s0:Nat)(c0:Int)(p:List Fn)(dfx:Nat)(vf:Value)(fx:Fn)(va:Value)(env:List (Sr))(hS:∀b∈S,b<w.heap.size)(hgS:g∈S)(hB0:BX w.heap g [pp,zI (n:Int),zI (s0:Int),zI c0])(hp:RN S (rP (JY dp)) w.heap pp p)(hn:1≤n∧n≤13)(hs0:s0≤3000)(hc0:0≤c0∧c0≤9)(hfx:RN S (rP (TZ dfx)) w.heap vf fx)(henv:RN S (AX (AX rI)) w.heap va env)(hqenv:C8 va)(hvp:HE p)(hF:F≤p.length)(hwf:∀k,k<fx.outs.length→wf p (F:Int) (fx.outs.getD k Ex.zero) (env.length:Int)=true)(hse:C0 n env)(hdp:∀k,k<fx.outs.length→env.length+(fx.outs.getD k Ex.zero).deep≤1000000)(hll:fx.outs.length≤1000000)(IHv:∀d,SV F d) :
  Calls Tryz.prog 158 #[zP g,vf,va] w (fun e w'=>∃(v:Value) (x:List (Sr)) (s1:Nat) (c1:Int),e=.returned v∧As [g] w w'∧BX w'.heap g [pp,zI (n:Int),zI (s1:Int),zI c1]∧RN S (AX (AX rI)) w'.heap v x∧(C8 v∧x.length=fx.outs.length∧C0 n x)∧s1≤3000∧(0≤c1∧c1≤9)∧AH (go c0 (D9 n (E4 p n F) fx.outs env s0)) x s1 c1):=by
 refine Ap [zP g,vf,va] 32 Tryz.func158 Z Z sM ?_
 have ao:As [g] w w:=As.refl [g] w
 have bg:=henv.lenL
 unfold maxLen at bg
 have bl:=hB0.lt
 refine aI Z<|aH [3,0] Z (Ch rV Bs BH B9 Aa fun v1 w1 aa az ap=>?_)
 have ae:=aa.size
 have aq:As [g] w w1:=ao.ext aa
 have a9:=hB0.ext aa
 obtain⟨bc,F1,bd⟩:=GR.nil (S:=S) (ap.low (B':=w.heap.size) (A7 _))
 refine Ac 1 Z<|A0<|aI Z<|A3 ?_
 refine AW (S:=Nat×Value×List (Sr)×Nat×Int) (fun⟨k,vo,xs,s9,c9⟩=>([(7,vo),(8,zI (k:Int)),(0,zP g),(1,vf),(2,va)])) (fun⟨k,vo,xs,s9,c9⟩ W=>As [g] w W∧BX W.heap g [pp,zI (n:Int),zI (s9:Int),zI c9]∧k≤fx.outs.length∧N7 27 S w.heap.size W.heap vo xs∧xs.length=k∧C0 n xs∧s9≤3000∧(0≤c9∧c9≤9)∧AH (go c0<|D9 n (E4 p n F) (fx.outs.take k) env s0) xs s9 c9) (fun⟨k,vo,xs,s9,c9⟩=>fx.outs.length-k) (0,v1,([]:List (Sr)),s0,c0) ⟨rfl,rfl,rfl,rfl,rfl,trivial⟩ ⟨aq,a9,sD,(by exact⟨_,_,by assumption⟩),(by rfl),(by intro j hj;simp at hj),oM,oM,(by exact FX _ _ _ _ _ _)⟩ ?_
 clear ao ap az aa ae aq
 rintro⟨k,vo,xs,s9,c9⟩ ρ2 w2 ⟨a3,a1,ar,hbld,hxl,hxs,au,av,hrl⟩
 have b0:w.heap.size≤w2.heap.size:=a3.size
 have be:=a1.lt
 obtain⟨bf,F5,a0⟩:=hbld
 refine A0<|aH [0,0,0,0,2,0,0] Z<|Ad 2 Z<|AM (hfx.isPtr) Z Aa ?_
 obtain⟨cs6,b1,ab⟩:=RN.at (Ay _) hfx
 obtain⟨a8,rfl,ac⟩:=RF.of b1
 have af:=ac.rn.lenle
 unfold maxLen at af
 refine AI (p:=vf) 2 BV Z (ab _<|a3.sub<|AS hgS) Aa<|Ah (p:=Ao vf 2) (.inr Z) a8 Bf Z ((ab _<|a3.sub<|AS hgS).ld (i:=2) (by simp[EP,EQ])) Aa<|AO (v:=a8) CZ Z ac.rn.isSl Aa ?_
 by_cases aw:(k:Int)<(fx.outs.length:Int)
 ·refine AE true Z Z (A5 aw) Aa<|Aj<|Ag Z<|A2<|A0<|A3<|Ab _ [0,0,0,0,0,2,0,0,0,4,3,4,0] Z<|Ad 3 Z<|AM (hfx.isPtr) Z Aa<|AI (p:=vf) 2 BV Z (ab _<|a3.sub<|AS hgS) Aa<|Ah (p:=Ao vf 2) (.inr Z) a8 Bf Z ((ab _<|a3.sub<|AS hgS).ld (i:=2) (by simp[EP,EQ])) Aa<|Ad 1 Z ?_
  refine Az (v:=a8) k CZ Bm Z Z ac.rn.isSl Z sD Aa<|Ad 1 Z ?_
  refine AB 221 [] [] [zP g,Ax a8 k 5,va] Z Z H9 Aa (IHv dfx _ (S++F5) g pp dp (n) (s9) (c9) (p) (Ax a8 k 5) (fx.outs.getD k Ex.zero) va (env) (fun b hb=>(by rcases zi.1 hb with hb|hb;(have:=hS b hb;omega);exact a0.lt b hb:b<w2.heap.size)) (z8 _ hgS) a1 ((hp.add (F:=F5) (B7<|AR dp) a0.low).chg (B7<|AR dp)<|a3.sub<|Ln hgS) oM oM oM (RN.ptr (Aw dfx) (by decide) Ex.zero ((ac.rn.add (F:=F5) (An<|Aw dfx) a0.low).chg (An<|Aw dfx)<|a3.sub<|Ln hgS) sD) ((henv.add (F:=F5) g2 a0.low).chg g2<|a3.sub<|Ln hgS) hqenv hvp oM (by exact hwf k oM) hse (by exact hdp k oM)) ?_
  rintro e8 w8 ⟨v8,x8,s8,c8,rfl,ag,b2,ad,ah,b3,b4,b5⟩
  refine⟨_,rfl,?_⟩
  have b6:=ag.size
  have b7:As [g] w w8:=a3.trans ag
  have ai:=a0.run hgS oM ag
  have b8:=ah.1
  replace ad:RN (S++F5) (AX rI) w8.heap v8 x8:=ad
  refine BI (u:=v8) (B:=w8.heap.size) Bs BH B9 Z Z (NS w8.heap.size w8.heap.size _<|ad.one1 g1) (A7 _) Aa fun bh bi a2 b9 aj=>?_
  have ax:=a2.size
  have ak:As [g] w bi:=b7.ext a2
  have a5:=b2.ext a2
  have a4:=ai.ext a2
  have al:=ad.ext g1 a2
  refine E2 (v:=vo) (a:=bh) (u:=v8) BH B9 Z Z Z a4 oM aj al sD (by unfold maxLen;first|omega|assumption|(simp;done)|(simp;omega)) Aa ?_
  rintro bj bk G17 a6 a7 ⟨ba,bm,bb⟩
  have ay:=a6.size
  have am:As [g] w bk:=ak.fresh a6 (fun c hc=>a4.low c (a7 c hc))
  have an:=a5.chg a6 fun hm=>by have:=a4.low _ (a7 _ hm);have:=a4.lt _ (a7 _ hm);omega
  refine Ac 1 Z<|Ab _ [0,0,0] Z<|Ad 1 Z<|AN ((k+1:Nat):Int) Z Z (Be oM sD) Aa<|Ac 1 Z ?_
  exact⟨(k+1,bj,xs++[x8],s8,c8),_,rfl,zR,⟨am,an,sD,(by exact⟨_,_,by assumption⟩),(by rw[z4,zd,hxl]),(by exact C0.snoc hxs (by assumption)),oM,oM,(by exact FW oM hrl (by assumption))⟩,zD⟩
 exact AE false Z Z (A6 aw) Aa<|Aj<|Ai Z<|A4<|Av<|Av<|Aq<|aH [0,0] Z<|Ac 2 Z<|A1<|Af [6] Z vo Z ⟨vo,xs,s9,c9,rfl,a3,a1,a0.done hS,(by exact⟨a0.cap,zO,hxs⟩),oM,oM,(by rw[za oM]at hrl;exact hrl)⟩
theorem SJ (F:Nat)(IH:∀d,SV F d):SO F:=by
 intro w S g pp dp n s0 c0 p dfx vf fx va env hS hgS hB0 hp hn hs0 hc0 hfx henv hqenv hvp hF hwf hse hdp hll
 exact Ij w S F g pp dp n s0 c0 p dfx vf fx va env hS hgS hB0 hp hn hs0 hc0 hfx henv hqenv hvp hF hwf hse hdp hll IH
theorem SK {p:Prop}(h:p:=by first|exact Rr oM oM hKr (by assumption)|exact Rv oM oM hKr (by rw[show(ex.count).toNat=i from by omega];exact hrl9)):p:=h
theorem Gx {p:Prop}(h:p:=by simp[EP,EQ]):p:=h
theorem Ik (w:World)(S:List Nat)(F:Nat)(g:Nat)(pp:Value)(dp n s0:Nat)(c0:Int)(p:List Fn)(dex:Nat)(ve:Value)(ex:Ex)(vv:Value)(env:List (Sr))(hS:∀b∈S,b<w.heap.size)(hgS:g∈S)(hB0:BX w.heap g [pp,zI (n:Int),zI (s0:Int),zI c0])(hp:RN S (rP (JY dp)) w.heap pp p)(hn:1≤n∧n≤13)(hs0:s0≤3000)(hc0:0≤c0∧c0≤9)(hex:RN S (rP (Lm dex)) w.heap ve ex)(henv:RN S (AX (AX rI)) w.heap vv env)(hqenv:C8 vv)(hvp:HE p)(hF:F≤p.length)(hwf:wf p (F:Int) ex (env.length:Int)=true)(hse:C0 n env)(hdp:env.length+ex.deep≤1000000)(hk:ex.kind=10∨ex.kind=11)(IH1:∀F',F'<F→∀d,SV F' d)(IH2:∀d',d'<dex→SV F d') :
  Calls Tryz.prog 252 #[zP g,ve,vv] w (fun e w'=>∃(v:Value) (x:Sr) (s1:Nat) (c1:Int),e=.returned v∧As [g] w w'∧BX w'.heap g [pp,zI (n:Int),zI (s1:Int),zI c1]∧RN S (AX rI) w'.heap v x∧Cb n x∧s1≤3000∧(0≤c1∧c1≤9)∧AH (go c0 (JK n (E4 p n F) ex env s0)) x s1 c1):=by
 refine Ap [zP g,ve,vv] 81 Tryz.func252 Z Z sM ?_
 have bo:As [g] w w:=As.refl [g] w
 have d0:=henv.lenL
 unfold maxLen at d0
 have dh:=hB0.lt
 have hwk:=Ht hwf hk
 have ay:ex.kind≠9:=by omega
 have hkH:=Zd hk
 clear hk
 have hdk:=DC ex
 refine aI Z<|aH [3,0] Z (Ch rV Bs BH B9 Aa fun v1 w1 az cf bp=>?_)
 have b2:=az.size
 have bq:As [g] w w1:=bo.ext az
 have am:=hB0.ext az
 obtain⟨cv,F1,cw⟩:=GR.nil (S:=S) (bp.low (B':=w.heap.size) (A7 _))
 refine Ac 1 Z<|A0<|aI Z<|A3 ?_
 refine AW (S:=Nat×Value×List (Sr)×Nat×Int) (fun⟨k,vo,xs,s9,c9⟩=>([(7,vo),(8,zI (k:Int)),(0,zP g),(1,ve),(2,vv)])) (fun⟨k,vo,xs,s9,c9⟩ W=>As [g] w W∧BX W.heap g [pp,zI (n:Int),zI (s9:Int),zI c9]∧k≤ex.kids.length∧N7 27 S w.heap.size W.heap vo xs∧xs.length=k∧C0 n xs∧s9≤3000∧(0≤c9∧c9≤9)∧AH (go c0<|D9 n (E4 p n F) (ex.kids.take k) env s0) xs s9 c9) (fun⟨k,vo,xs,s9,c9⟩=>ex.kids.length-k) (0,v1,([]:List (Sr)),s0,c0) ⟨rfl,rfl,rfl,rfl,rfl,trivial⟩ ⟨bq,am,sD,(by exact⟨_,_,by assumption⟩),(by rfl),(by intro j hj;simp at hj),oM,oM,(by exact FX _ _ _ _ _ _)⟩ ?_
 clear bo bp cf az b2 bq
 rintro⟨k,vo,xs,s9,c9⟩ ρ2 w2 ⟨a0,a1,br,hbld,hxl,hxs,bs,bt,hrl⟩
 have b3:w.heap.size≤w2.heap.size:=a0.size
 have cx:=a1.lt
 obtain⟨cy,F5,a3⟩:=hbld
 refine A0<|aH [0,0,0,0,2,0,0] Z<|Ad 2 Z<|AM (hex.isPtr) Z Aa ?_
 obtain⟨cs6,cg,a7⟩:=RN.at (Aw _) hex
 obtain⟨dd6,al,cz,rfl,b0⟩:=RX.of cg
 have an:=b0.rn.lenle
 unfold maxLen at an
 refine AI (p:=ve) 4 B8 Z (a7 _<|a0.sub<|AS hgS) Aa<|Ah (p:=Ao ve 4) (.inr Z) al Bf Z ((a7 _<|a0.sub<|AS hgS).ld (i:=4) Gx) Aa<|AO (v:=al) CZ Z b0.rn.isSl Aa ?_
 by_cases bu:(k:Int)<(ex.kids.length:Int)
 ·refine AE true Z Z (A5 bu) Aa<|Aj<|Ag Z<|A2<|A0<|A3<|Ab _ [0,0,0,0,0,2,0,0,0,4,3,4,0] Z ?_
  have hvo:=hvp.outs (ex.num).toNat oM
  have hvr:=hvp.par (ex.num).toNat oM
  have hkd:=D7 (l:=ex.kids) (k:=k) oM
  have hkb:ex.kids.length≤412:=by omega
  refine Ad 3 Z<|AM (hex.isPtr) Z Aa<|AI (p:=ve) 4 B8 Z (a7 _<|a0.sub<|AS hgS) Aa<|Ah (p:=Ao ve 4) (.inr Z) al Bf Z ((a7 _<|a0.sub<|AS hgS).ld (i:=4) Gx) Aa<|Ad 1 Z<|Az (v:=al) k CZ Bm Z Z b0.rn.isSl Z sD Aa<|Ad 1 Z ?_
  refine AB 221 [] [] [zP g,Ax al k 5,vv] Z Z H9 Aa (IH2 dd6 oM _ (S++F5) g pp dp (n) (s9) (c9) (p) (Ax al k 5) (ex.kids.getD k Ex.zero) vv (env) (fun b hb=>(by rcases zi.1 hb with hb|hb;(have:=hS b hb;omega);exact a3.lt b hb:b<w2.heap.size)) (z8 _ hgS) a1 ((hp.add (F:=F5) (B7<|AR dp) a3.low).chg (B7<|AR dp)<|a0.sub<|Ln hgS) oM oM oM (RN.ptr (Aw dd6) (by decide) Ex.zero ((b0.rn.add (F:=F5) (An<|Aw dd6) a3.low).chg (An<|Aw dd6)<|a0.sub<|Ln hgS) sD) ((henv.add (F:=F5) g2 a3.low).chg g2<|a0.sub<|Ln hgS) hqenv hvp oM (by exact Dz hwf oM oM) hse oM) ?_
  rintro e8 w8 ⟨v8,x8,s8,c8,rfl,b4,ch,b1,b5,ci,cj,ck⟩
  refine⟨_,rfl,?_⟩
  have cl:=b4.size
  have cm:As [g] w w8:=a0.trans b4
  have b6:=a3.run hgS oM b4
  have cn:=b5.1
  replace b1:RN (S++F5) (AX rI) w8.heap v8 x8:=b1
  refine BI (u:=v8) (B:=w8.heap.size) Bs BH B9 Z Z (NS w8.heap.size w8.heap.size _<|b1.one1 g1) (A7 _) Aa fun d3 d4 a8 co b7=>?_
  have bv:=a8.size
  have b8:As [g] w d4:=cm.ext a8
  have af:=ch.ext a8
  have ab:=b6.ext a8
  have b9:=b1.ext g1 a8
  refine E2 (v:=vo) (a:=d3) (u:=v8) BH B9 Z Z Z ab oM b7 b9 sD (by unfold maxLen;first|omega|assumption|(simp;done)|(simp;omega)) Aa ?_
  rintro d5 d6 G17 ag ah ⟨cp,di,cq⟩
  have bw:=ag.size
  have ba:As [g] w d6:=b8.fresh ag (fun c hc=>ab.low c (ah c hc))
  have bb:=af.chg ag fun hm=>by have:=ab.low _ (ah _ hm);have:=ab.lt _ (ah _ hm);omega
  refine Ac 1 Z<|Ab _ [0,0,0] Z<|Ad 1 Z<|AN ((k+1:Nat):Int) Z Z (Be oM sD) Aa<|Ac 1 Z ?_
  exact⟨(k+1,d5,xs++[x8],s8,c8),_,rfl,zR,⟨ba,bb,sD,(by exact⟨_,_,by assumption⟩),(by rw[z4,zd,hxl]),(by exact C0.snoc hxs (by assumption)),oM,oM,(by exact FW oM hrl (by assumption))⟩,zD⟩
 refine AE false Z Z (A6 bu) Aa<|Aj<|Ai Z<|A4<|Av<|Av<|Aq<|A0<|AQ _ [0,0,0,1,0,0,1,0,0,0,1,0,0] mixed (by kernel_rfl) ?_
 have ad:=a3.done hS
 have hfn19c:=a3.cap
 have hvo:=hvp.outs (ex.num).toNat oM
 have hvr:=hvp.par (ex.num).toNat oM
 have hxk:xs.length=ex.kids.length:=by omega
 have hKr:AH (go c0 (D9 n (E4 p n F) ex.kids env s0)) xs s9 c9:=by rw[za oM]at hrl;exact hrl
 refine Ad 1 Z<|AT Z Aa<|Ak (p:=zP g) 0 TM Z Z Aa<|Ah (p:=Ao (zP g) 0) (.inl Z) pp UM Z (a1.ldp (i:=0) sM) Aa<|AM (hp.isPtr) Z Aa ?_
 obtain⟨cs20,bc,ao⟩:=RN.at (AR _) hp
 obtain⟨a4,rfl,a9⟩:=RPr.of bc
 have ae:=a9.lenle
 unfold maxLen at ae
 refine AI (p:=pp) 0 BC Z (ao _<|a0.drew.sub<|AS hgS) Aa<|Ah (p:=Ao pp 0) (.inl Z) a4 C2 Z ((ao _<|a0.drew.sub<|AS hgS).ld (i:=0) Gx) Aa<|Ad 1 Z<|AM (hex.isPtr) Z Aa<|AI (p:=ve) 1 BE Z (a7 _<|a0.drew.sub<|AS hgS) Aa<|Ah (p:=Ao ve 1) (.inl Z) (zI ex.num) AC Z ((a7 _<|a0.drew.sub<|AS hgS).ld (i:=1) Gx) Aa ?_
 refine Az (v:=a4) ((ex.num).toNat) GI Cy Z Z a9.isSl oM sD Aa<|Ac 1 Z<|A0<|aH [0,0,0,2,0] Z<|Ad 1 Z<|AM (hex.isPtr) Z Aa<|AI (p:=ve) 0 Bg Z (a7 _<|a0.drew.sub<|AS hgS) Aa<|Ah (p:=Ao ve 0) (.inr Z) (zI ex.kind) AC Z ((a7 _<|a0.drew.sub<|AS hgS).ld (i:=0) Gx) Aa ?_
 by_cases ap:ex.kind=((10:Nat):Int)
 ·refine Al true Z Z (A5 ap) Aa<|Aj<|Ag Z<|A0<|AQ _ [0,0,0,0,1,0,0,0,1,0,0,4,0] mixed (by kernel_rfl)<|Ad 2 Z ?_
  have hvd:=hvp.deep (ex.num).toNat oM (ex.pick).toNat oM
  refine AM (RN.isPtr<|RN.ptr (Ay dp) (by decide) Fn.zero a9 sD) Z Aa ?_
  obtain⟨cs22,bd,aq⟩:=a9.get (Ay dp) Fn.zero (k:=(ex.num).toNat) sD
  obtain⟨ac,rfl,ai⟩:=RF.of bd
  have ar:=ai.rn.lenle
  unfold maxLen at ar
  refine AI (p:=Ax a4 ((ex.num).toNat) 3) 2 BV Z (aq _<|a0.drew.drew.sub<|AS hgS) Aa<|Ah (p:=Ao (Ax a4 ((ex.num).toNat) 3) 2) (.inl Z) ac Bf Z ((aq _<|a0.drew.drew.sub<|AS hgS).ld (i:=2) Gx) Aa<|Ad 1 Z<|AM (hex.isPtr) Z Aa<|AI (p:=ve) 2 D3 Z (a7 _<|a0.drew.drew.sub<|AS hgS) Aa<|Ah (p:=Ao ve 2) (.inl Z) (zI ex.pick) AC Z ((a7 _<|a0.drew.drew.sub<|AS hgS).ld (i:=2) Gx) Aa ?_
  refine Az (v:=ac) ((ex.pick).toNat) CZ Bm Z Z ai.rn.isSl oM sD Aa<|Ad 1 Z ?_
  refine AB 221 [] [] [zP g,Ax ac ((ex.pick).toNat) 5,vo] Z Z H9 Aa (IH1 (ex.num).toNat oM dp _ S g pp dp (n) (s9) (c9) (p) (Ax ac ((ex.pick).toNat) 5) (((p.getD ((ex.num).toNat) Fn.zero).outs).getD ((ex.pick).toNat) Ex.zero) vo (xs) (fun b hb=>(by have:=hS b hb;omega:b<w2.heap.size)) hgS a1 (hp.chg (B7<|AR dp)<|a0.drew.drew.sub<|AS hgS) oM oM oM (RN.ptr (Aw dp) (by decide) Ex.zero (ai.rn.chg (An<|Aw dp)<|a0.drew.drew.sub<|AS hgS) sD) ad hfn19c hvp oM (by have h9:=hvp.wf (ex.num).toNat oM (ex.pick).toNat oM;rw[show(xs.length:Int)=(p.getD (ex.num).toNat Fn.zero).params from by omega];exact h9) hxs oM) ?_
  rintro dj d7 ⟨d2,d8,da,db,rfl,a5,be,bf,au,bx,bz,c2⟩
  refine⟨_,rfl,?_⟩
  replace a5:=a5.of_drew
  replace a5:=a5.of_drew
  have c3:=a5.size
  have bg:As [g] w d7:=a0.trans a5
  have cr:=ad.run g2 hgS a5
  have c4:=au.1
  exact Ac 1 Z<|A1<|Am<|Af [6] Z d2 Z ⟨d2,d8,da,db,rfl,bg,be,bf,(by first|assumption|exact hks _ oM),oM,oM,SK⟩
 refine Al false Z Z (A6 ap) Aa<|Aj<|Ai Z<|A2<|A0<|aH [0] Z ?_
 have bh:ex.kind=11:=by have h9:ex.kind=10∨ex.kind=11:=hkH;omega
 have hwl:=Mp hwf bh
 refine Ac 1 Z<|A3 ?_
 refine AW (S:=Nat×Value×List (Sr)×Nat×Int) (fun⟨i,vk,ks,s8,c8⟩=>([(7,vk),(10,zI (i:Int)),(0,zP g),(1,ve),(9,Ax a4 ((ex.num).toNat) 3)])) (fun⟨i,vk,ks,s8,c8⟩ W=>As [g] w W∧BX W.heap g [pp,zI (n:Int),zI (s8:Int),zI c8]∧i≤(ex.count).toNat∧RN S (AX<|AX rI) W.heap vk ks∧C8 vk∧ks.length=(p.getD (ex.num).toNat Fn.zero).outs.length∧C0 n ks∧s8≤3000∧(0≤c8∧c8≤9)∧AH (go c9<|Hr (fun a t=>D9 n (E4 p n (ex.num).toNat) (p.getD (ex.num).toNat Fn.zero).outs a t) i xs s9) ks s8 c8) (fun⟨i,vk,ks,s8,c8⟩=>(ex.count).toNat-i) (0,vo,xs,s9,c9) ⟨rfl,rfl,rfl,rfl,rfl,trivial⟩ ⟨a0.drew,a1,oM,(by assumption),(by assumption),oM,(by assumption),oM,oM,(by exact Ru Z)⟩ ?_
 clear a1 a0 b3 an ae
 rintro⟨i,vk,ks,s8,c8⟩ ρ31 d1 ⟨a2,a6,bi,hrk,hck,hkl,hks,bj,bk,hrl9⟩
 have c5:w.heap.size≤d1.heap.size:=a2.size
 have cs:=a6.lt
 refine A0<|aH [0,0,0,0,2,0] Z<|Ad 2 Z<|AM (hex.isPtr) Z Aa<|AI (p:=ve) 3 Di Z (a7 _<|a2.sub<|AS hgS) Aa<|Ah (p:=Ao ve 3) (.inr Z) (zI ex.count) AC Z ((a7 _<|a2.sub<|AS hgS).ld (i:=3) Gx) Aa ?_
 by_cases av:(i:Int)<ex.count
 ·refine AE true Z Z (A5 av) Aa<|Aj<|Ag Z<|A2<|A0<|A3<|Ab _ [0,0,0,4,0] Z<|Ad 3 Z ?_
  refine AB 158 [] [] [zP g,Ax a4 ((ex.num).toNat) 3,vk] Z Z Uy Aa (SJ (ex.num).toNat (fun d9=>IH1 (ex.num).toNat oM d9) _ S g pp dp (n) (s8) (c8) (p) dp (Ax a4 ((ex.num).toNat) 3) (p.getD ((ex.num).toNat) Fn.zero) vk (ks) (fun b hb=>(by have:=hS b hb;omega:b<d1.heap.size)) hgS a6 (hp.chg (B7<|AR dp)<|a2.sub<|AS hgS) oM oM oM (RN.ptr (Ay dp) (by decide) Fn.zero (a9.chg (An<|Ay dp)<|a2.sub<|AS hgS) sD) hrk hck hvp oM (by intro k9 ay;have h9:=hvp.wf (ex.num).toNat oM k9 ay;rw[show(ks.length:Int)=(p.getD (ex.num).toNat Fn.zero).params from by omega];exact h9) hks (by intro k9 ay;have:=hvp.deep (ex.num).toNat oM k9 ay;omega) oM) ?_
  rintro dk dc ⟨dd,de,df,dg,rfl,aj,bl,ct,aa,c6,c7,ca⟩
  refine⟨_,rfl,?_⟩
  have cb:=aj.size
  have bm:As [g] w dc:=a2.trans aj
  have cu:=hrk.run g2 hgS aj
  have cc:=aa.2.1
  have cd:=aa.2.2
  have ce:=aa.1
  exact Ac 1 Z<|Ab _ [0,0,0] Z<|Ad 1 Z<|AN ((i+1:Nat):Int) Z Z (Be oM oM) Aa<|Ac 1 Z ⟨(i+1,dd,de,df,dg),_,rfl,zR,⟨bm,bl,oM,(by assumption),(by assumption),oM,(by assumption),oM,oM,(by exact Rt hrl9 (by assumption))⟩,zD⟩
 refine AE false Z Z (A6 av) Aa<|Aj<|Ai Z<|A4<|Av<|Av<|Aq<|aH [0,0,0,0,2,0,2,0] Z<|Ad 2 Z<|AM (hex.isPtr) Z Aa<|AI (p:=ve) 2 D3 Z (a7 _<|a2.sub<|AS hgS) Aa<|Ah (p:=Ao ve 2) (.inr Z) (zI ex.pick) AC Z ((a7 _<|a2.sub<|AS hgS).ld (i:=2) Gx) Aa ?_
 refine Az (v:=vk) ((ex.pick).toNat) BH B9 Z Z hrk.slL oM sD Aa ?_
 obtain⟨ak,bn,aw⟩:=RN.getL (w:=d1) g1 [] (k:=(ex.pick).toNat) hrk sD
 have ax:=aw.lenL
 unfold maxLen at ax
 exact Ah (p:=Ax vk ((ex.pick).toNat) 1) (.inr Z) ak Bk Z (bn _<|As.refl _ _) Aa<|Ac 1 Z<|A1<|Af [6] Z ak Z ⟨ak,ks.getD ((ex.pick).toNat) [],s8,c8,rfl,a2,a6,aw,(by first|assumption|exact hks _ oM),oM,oM,SK⟩
end
end Go.Proofs.YtbajepcpgncekaaGreat
