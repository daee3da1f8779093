/- Vk, Vl, Vn, Vo, Xf, Ya, Yb, Yc, Yd, Ye: texts of this claim, joined; what the claim does not come to is left out. -/
import Derived.Test.YtbajepcpgncekaaGreatQL3
import Derived.Test.YtbajepcpgncekaaGreatProg
set_option linter.unusedVariables false
set_option linter.unusedSimpArgs false
namespace Go.Proofs.YtbajepcpgncekaaGreat
open Go Go.RowKit
section
set_option maxHeartbeats 4000000
set_option maxRecDepth 100000
attribute [local irreducible] LW
theorem Fq (w:World)(x:Int)(K:Nat)(_hx:BG x)(_hK:K≤1000000000000)(hK:K≤1000000000) :
  Calls Tryz.prog 79 #[zI x,zI (K:Int)] w (fun e w'=>∃v0:Value,e=.returned (v0)∧AD w w'∧Fr (BA rI 2) w.heap.size w'.heap.size w'.heap v0 (cst K x)):=by
 refine Au [zI x,zI (K:Int)] 14 Tryz.func79 Z Z sM ?_
 have a5:AD w w:=AD.refl w
 refine fE Z<|fC [0,3,0] Z<|Ad 1 Z (Hc (n:=K) BQ Ck Z Z Z sD Aa fun v1 w1 a2 ab a0=>?_)
 have a6:=a2.size
 have a1:=a5.trans a2
 refine Ac 1 Z<|A0<|fC [0,0] Z<|Ad 1 Z ?_
 by_cases a3:((0:Nat):Int)<(K:Int)
 ·refine Cj true Z Z (A5 a3) Aa<|Ai<|Af Z<|Ab _ [0,0,0,4] Z<|Ad 2 Z<|AE (v:=v1) 0 BQ Ck Z Z a0.isSl Z sD Aa ?_
  refine J1 (v:=v1) (w:=w1) I9 Z Z _hx a0 sD Aa fun w3 F3 a4 ac a7 a8=>?_
  have a9:AD w w3:=a4.below a1 (fun c hc=>A8 (A7 _) (a7 c hc).1) a1.size
  have aa:=a4.size
  exact Ai<|fC [0,0] Z<|Ac 2 Z<|A1<|Ah [4] Z v1 Z ⟨v1,rfl,a9,(by exact a8.up o1)⟩
 exact Cj false Z Z (A6 a3) Aa<|Ai<|Aj Z<|A2<|fC [0,0] Z<|Ac 2 Z<|A1<|Ah [4] Z v1 Z ⟨v1,rfl,a1,(by have h:=a0.up o1;obtain rfl:K=0:=oM;exact h)⟩
theorem Qe (a:List Int)(y:Int):scl a y=CH a y:=by
  unfold scl CH
  exact OH (d:=0) (k:=a.length) (fun r hr=>by rw[BT (d:=0) hr,CE _ hr]) (by simp) (by simp)
theorem CC {p:Prop}(h:p:=by first|omega|assumption|(simp only[zb,z9,z4,z6,z5,EM];omega)|(simp[zb,z9,z4,z6,z5,EM];done)|(simp[zb,z9,z4,z6,z5,EM];omega)):p:=h
theorem IU (w:World)(va:Value)(a:Sr)(vb:Value)(b:Sr)(ha:Rd (Bd rI) w.heap va a)(hb:Rd (Bd rI) w.heap vb b)(hla:a.length≤1000000000000)(hl:a.length≤b.length) :
  Calls Tryz.prog 253 #[va,vb] w (fun e w'=>∃v0:Value,e=.returned (v0)∧AD w w'∧Fr (BA rI 2) w.heap.size w'.heap.size w'.heap v0 (Ee a b)):=by
 refine Au [va,vb] 27 Tryz.func253 Z Z sM ?_
 have a8:AD w w:=AD.refl w
 have an:=ha.lenle
 have ao:=hb.lenle
 refine fE Z<|fC [3,0] Z (Dy (rI) B1 BQ Ck Aa fun v1 w1 a4 af a9=>?_)
 have a5:=a4.size
 have aa:=a8.trans a4
 refine Ac 1 Z<|A0<|fE Z<|A3 ?_
 refine AW (S:=Nat×Value) (fun⟨k,vo⟩=>([(5,vo),(6,zI (k:Int)),(0,va),(1,vb)])) (fun⟨k,vo⟩ W=>AD w W∧Fr (BA rI 2) w.heap.size W.heap.size W.heap vo (EB k fun t=>md (a.getD t 0+b.getD t 0))∧k≤a.length) (fun⟨k,vo⟩=>a.length-k) (0,v1) ⟨rfl,rfl,rfl,rfl,trivial⟩ ⟨aa,(by exact a9.up o1),CC⟩ ?_
 clear a8 a9 af a4 a5 aa
 rintro⟨k,vo⟩ ρ2 w2 ⟨a2,a1,ab⟩
 have ag:w.heap.size≤w2.heap.size:=a2.size
 refine A0<|fC [0,0,0,0] Z<|Ad 2 Z<|AS (v:=va) BQ Z ha.isSl Aa ?_
 by_cases ac:(k:Int)<(a.length:Int)
 ·refine AJ true Z Z (A5 ac) Aa<|Ai<|Af Z<|A2<|A0<|A3<|AQ _ [0,0,0,0,1,0,0,0,1,0,3,4,0] mixed (by kernel_rfl)<|Ad 3 Z<|AE (v:=va) k BQ Ck Z Z ha.isSl Z CC Aa ?_
  refine Ag (p:=AA va k 1) (.inl Z) (zI<|a.getD k 0) AI Z (Bp a2.drew (ha.getI CC).1) Aa<|Ad 2 Z ?_
  refine AE (v:=vb) k BQ Ck Z Z hb.isSl Z CC Aa ?_
  refine Ag (p:=AA vb k 1) (.inl Z) (zI<|b.getD k 0) AI Z (Bp a2.drew (hb.getI CC).1) Aa ?_
  refine AG 50 [] [] [zI<|a.getD k 0,zI<|b.getD k 0] Z Z aZ Aa (zI<|md ((a.getD k 0)+(b.getD k 0))) (fun wq=>KR wq _ _ (ha.getI CC).2 (hb.getI CC).2) ?_
  refine Cd (u:=zI<|md ((a.getD k 0)+(b.getD k 0))) (B:=w2.heap.size) B1 BQ Ck Z Z (Qp w2.heap.size w2.heap.size _ _<|FL _) (A7 _) Aa fun v5 w5 a3 al ad=>?_
  replace a3:=a3.of_drew
  have ah:=a3.size
  have a6:=a2.trans a3
  have a0:=a1.ext (o1) a3
  refine HX (v:=vo) (a:=v5) BQ Ck Z Z Z a0 a6.size ad.rd1 CC (by unfold maxLen;first|omega|assumption|(simp[EM];done)|(simp[EM];omega)) Aa fun v6 w6 F6 a7 ae ai=>?_
  have aj:AD w w6:=a7.below a6 (fun c hc=>A8 (A7 _) (ae c hc).1) a6.size
  have ak:=a7.size
  have am:=ad.chg (o1) a7 fun c hc=>zH<|ae c hc
  refine Ac 1 Z<|Ab _ [0,0,0] Z<|Ad 1 Z<|AR ((k+1:Nat):Int) Z Z (Bl oM CC) Aa<|Ac 1 Z ?_
  exact⟨(k+1,v6),_,rfl,zR,⟨aj,(by rw[Lz];exact ai.up o1),CC⟩,zD⟩
 exact AJ false Z Z (A6 ac) Aa<|Ai<|Aj Z<|A4<|Az<|Az<|Aw<|fC [0,0] Z<|Ac 2 Z<|A1<|Ah [4] Z vo Z ⟨vo,rfl,a2,(by have h:=a1.up o1;rw[show k=a.length from by omega]at h;exact h)⟩
theorem MP (w:World)(va:Value)(a:Sr)(vb:Value)(b:Sr)(ha:Rd (Bd rI) w.heap va a)(hb:Rd (Bd rI) w.heap vb b)(hla:a.length≤1000000000000)(hlb:b.length≤1000000000000)(hl:a.length≤b.length) :
  Calls Tryz.prog 254 #[va,vb] w (fun e w'=>∃v0:Value,e=.returned (v0)∧AD w w'∧Fr (BA rI 2) w.heap.size w'.heap.size w'.heap v0 (FB a b)):=by
 refine Au [va,vb] 9 Tryz.func254 Z Z sM ?_
 have a7:AD w w:=AD.refl w
 have ab:=ha.lenle
 have ac:=hb.lenle
 refine fE Z<|fC [0,0,3,3,0] Z<|Ad 2 Z<|At 165 [] [] [vb,zI ((1000002:Nat):Int)] Z Z XX Aa (HD _ _ _ _ (hb.ext g1 a7) oM hlb) ?_
 rintro e1 w1 ⟨a3,rfl,a4,a0⟩
 refine⟨_,rfl,a4,?_⟩
 have a8:=a4.size
 have a5:=a7.trans a4
 refine At 253 [] [] [va,a3] Z Z Y9 Aa (IU _ _ _ _ _ (ha.ext g1 a5) a0.rd1 hla (by unfold scl;simp;omega)) ?_
 rintro e2 w2 ⟨a1,rfl,a6,a2⟩
 refine⟨_,rfl,a6,?_⟩
 have a9:=a6.size
 have aa:=a5.trans a6
 exact Ac 1 Z<|A1<|Ah [4] Z a1 Z ⟨a1,rfl,aa,(by rw[← ST hl,← Qe];exact(a2.up o1).low a5.size)⟩
theorem MQ (w:World)(va:Value)(a:Sr)(vb:Value)(b:Sr)(ha:Rd (Bd rI) w.heap va a)(hb:Rd (Bd rI) w.heap vb b)(hla:a.length≤1000000000000)(hl:a.length≤b.length) :
  Calls Tryz.prog 255 #[va,vb] w (fun e w'=>∃v0:Value,e=.returned (v0)∧AD w w'∧Fr (BA rI 2) w.heap.size w'.heap.size w'.heap v0 (Ct a b)):=by
 refine Au [va,vb] 39 Tryz.func255 Z Z sM ?_
 have ab:AD w w:=AD.refl w
 have au:=ha.lenle
 have av:=hb.lenle
 refine fE Z<|fC [3,0] Z (Dy (rI) B1 BQ Ck Aa fun v1 w1 a5 ak ac=>?_)
 have a6:=a5.size
 have ad:=ab.trans a5
 refine Ac 1 Z<|A0<|fE Z<|A3 ?_
 refine AW (S:=Nat×Value) (fun⟨k,vo⟩=>([(5,vo),(6,zI (k:Int)),(0,va),(1,vb)])) (fun⟨k,vo⟩ W=>AD w W∧Fr (BA rI 2) w.heap.size W.heap.size W.heap vo (EB k fun t=>N7 a b t (t+1))∧k≤a.length) (fun⟨k,vo⟩=>a.length-k) (0,v1) ⟨rfl,rfl,rfl,rfl,trivial⟩ ⟨ad,(by exact ac.up o1),CC⟩ ?_
 clear ab ac ak a5 a6 ad
 rintro⟨k,vo⟩ ρ2 w2 ⟨a4,a0,ae⟩
 have a7:w.heap.size≤w2.heap.size:=a4.size
 refine A0<|fC [0,0,0,0] Z<|Ad 2 Z<|AS (v:=va) BQ Z ha.isSl Aa ?_
 by_cases af:(k:Int)<(a.length:Int)
 ·refine AJ true Z Z (A5 af) Aa<|Ai<|Af Z<|A2<|A0<|A3<|fE Z<|A0<|fE Z<|A3 ?_
  refine AW (S:=Nat×Int) (fun⟨i,s⟩=>([(7,zI s),(8,zI (i:Int)),(0,va),(1,vb),(5,vo),(6,zI (k:Int))])) (fun⟨i,s⟩ W=>AD w W∧Fr (BA rI 2) w.heap.size W.heap.size W.heap vo (EB k fun t=>N7 a b t (t+1))∧i≤k+1∧s=N7 a b k i∧(0≤s∧s<1000003)) (fun⟨i,s⟩=>k+1-i) (0,((0:Nat):Int)) ⟨rfl,rfl,rfl,rfl,rfl,rfl,trivial⟩ ⟨a4,a0.up o1,CC,(by rfl),oM⟩ ?_
  clear a0 a4 a7
  rintro⟨i,s⟩ ρ4 w4 ⟨a3,a2,ag,hs,hsr⟩
  have al:w.heap.size≤w4.heap.size:=a3.size
  refine A0<|fC [0,0,0] Z<|Ad 2 Z ?_
  by_cases ah:(i:Int)≤(k:Int)
  ·refine Ek true Z Z (A5 ah) Aa<|Ai<|Af Z<|A2<|A0<|A3<|AQ _ [0,0,0,0,1,0,0,0,0,0,1,0,0,0] mixed (by kernel_rfl)<|Ad 3 Z<|AE (v:=va) i BQ Ck Z Z ha.isSl Z CC Aa ?_
   refine Ag (p:=AA va i 1) (.inl Z) (zI<|a.getD i 0) AI Z (Bp a3.drew (ha.getI CC).1) Aa<|Ad 3 Z<|BJ ((k-i:Nat):Int) Z Z (by rw[DH oM oM];omega) Aa ?_
   refine AE (v:=vb) (k-i) BQ Ck Z Z hb.isSl Z CC Aa ?_
   refine Ag (p:=AA vb (k-i) 1) (.inl Z) (zI<|b.getD (k-i) 0) AI Z (Bp a3.drew (hb.getI CC).1) Aa ?_
   refine AG 112 [] [] [zI<|a.getD i 0,zI<|b.getD (k-i) 0] Z Z M8 Aa (zI<|md ((a.getD i 0)*(b.getD (k-i) 0))) (fun wq=>Dc wq _ _ (ha.getI CC).2 (hb.getI CC).2) ?_
   refine AG 50 [] [] [zI s,zI<|md ((a.getD i 0)*(b.getD (k-i) 0))] Z Z aZ Aa (zI<|md (s+(md ((a.getD i 0)*(b.getD (k-i) 0))))) (fun wq=>KR wq _ _ oM<|FL _)<|Ac 1 Z<|Ab _ [0,0,0] Z<|Ad 1 Z<|AR ((i+1:Nat):Int) Z Z (Bl oM CC) Aa<|Ac 1 Z ?_
   exact⟨(i+1,md (s+(md ((a.getD i 0)*(b.getD (k-i) 0))))),_,rfl,zR,⟨a3.drew,a2.up o1,CC,(by rw[Gh,hs];rfl),(by exact Ci _)⟩,zD⟩
  refine Ek false Z Z (A6 ah) Aa<|Ai<|Aj Z<|A4<|Az<|Az<|Aw<|Ab _ [0,0,3,4,0] Z<|Ad 2 Z (Cd (u:=zI s) (B:=w4.heap.size) B1 BQ Ck Z Z (Qp w4.heap.size w4.heap.size _ _ oM) (A7 _) Aa fun v8 w8 a8 ar ai=>?_)
  have am:=a8.size
  have a9:=a3.trans a8
  have a1:=a2.ext (o1) a8
  refine HX (v:=vo) (a:=v8) BQ Ck Z Z Z a1 a9.size ai.rd1 CC (by unfold maxLen;first|omega|assumption|(simp[EM];done)|(simp[EM];omega)) Aa fun v9 w9 F9 aa aj an=>?_
  have ao:AD w w9:=aa.below a9 (fun c hc=>A8 (A7 _) (aj c hc).1) a9.size
  have ap:=aa.size
  have aq:=ai.chg (o1) aa fun c hc=>zH<|aj c hc
  refine Ac 1 Z<|Ab _ [0,0,0] Z<|Ad 1 Z<|AR ((k+1:Nat):Int) Z Z (Bl oM CC) Aa<|Ac 1 Z ?_
  exact⟨(k+1,v9),_,rfl,zR,⟨ao,(by rw[Lz];have h:=an.up o1;rw[hs,show i=k+1 from by omega]at h;exact h),CC⟩,zD⟩
 exact AJ false Z Z (A6 af) Aa<|Ai<|Aj Z<|A4<|Az<|Az<|Aw<|fC [0,0] Z<|Ac 2 Z<|A1<|Ah [4] Z vo Z ⟨vo,rfl,a4,(by have h:=a0.up o1;rw[show k=a.length from by omega]at h;exact h)⟩
theorem Dr {p:Prop}(h:p:=by first|omega|assumption|(simp only[zb,z9,z4,z6,z5,DU];omega)|(simp[zb,z9,z4,z6,z5,DU];done)|(simp[zb,z9,z4,z6,z5,DU];omega)):p:=h
theorem MR (w:World)(va:Value)(a:Sr)(vb:Value)(b:Sr)(ha:Rd (Bd rI) w.heap va a)(hb:Rd (Bd rI) w.heap vb b)(hla:a.length≤1000000000000)(hl:a.length≤b.length)(h1:0<b.length)(hqa:Bb a=true) :
  Calls Tryz.prog 256 #[va,vb] w (fun e w'=>∃v0:Value,e=.returned (v0)∧AD w w'∧Fr (BA rI 2) w.heap.size w'.heap.size w'.heap v0 (C3 a b)):=by
 refine Au [va,vb] 50 Tryz.func256 Z Z sM ?_
 have ag:AD w w:=AD.refl w
 have au:=ha.lenle
 have av:=hb.lenle
 refine fE Z<|fC [3,0] Z (Dy (rI) B1 BQ Ck Aa fun v1 w1 aa ao ah=>?_)
 have ab:=aa.size
 have ac:=ag.trans aa
 refine Ac 1 Z<|fC [0,0,2,0,0] Z<|Ad 1 Z<|AE (v:=vb) 0 BQ Ck Z Z hb.isSl Z Dr Aa ?_
 refine Ag (p:=AA vb 0 1) (.inr Z) (zI<|b.getD 0 0) AI Z (Bp ac (hb.getI Dr).1) Aa ?_
 refine AG 163 [] [] [zI<|b.getD 0 0] Z Z bP Aa (zI<|inv<|b.getD 0 0) (fun wq=>ML wq _ (hb.getI Dr).2)<|Ac 1 Z<|A0<|fE Z<|A3 ?_
 refine AW (S:=Nat×Value) (fun⟨k,vo⟩=>([(5,vo),(7,zI (k:Int)),(0,va),(1,vb),(6,zI<|inv<|b.getD 0 0)])) (fun⟨k,vo⟩ W=>AD w W∧Fr (BA rI 2) w.heap.size W.heap.size W.heap vo (J7 a b k)∧k≤a.length) (fun⟨k,vo⟩=>a.length-k) (0,v1) ⟨rfl,rfl,rfl,rfl,rfl,trivial⟩ ⟨ac,(by exact ah.up o1),Dr⟩ ?_
 clear ag ah ao aa ab ac
 rintro⟨k,vo⟩ ρ3 w3 ⟨a6,a1,ai⟩
 have ad:w.heap.size≤w3.heap.size:=a6.size
 refine A0<|fC [0,0,0,0] Z<|Ad 2 Z<|AS (v:=va) BQ Z ha.isSl Aa ?_
 by_cases aj:(k:Int)<(a.length:Int)
 ·refine AJ true Z Z (A5 aj) Aa<|Ai<|Af Z<|A2<|A0<|A3<|fC [0,0,0,2,0] Z<|Ad 2 Z<|AE (v:=va) k BQ Ck Z Z ha.isSl Z Dr Aa ?_
  refine Ag (p:=AA va k 1) (.inr Z) (zI<|a.getD k 0) AI Z (Bp a6 (ha.getI Dr).1) Aa<|Ac 1 Z<|A0<|fE Z<|A3 ?_
  refine AW (S:=Nat×Int) (fun⟨i,t⟩=>([(8,zI t),(9,zI (i:Int)),(0,va),(1,vb),(5,vo),(6,zI<|inv<|b.getD 0 0),(7,zI (k:Int))])) (fun⟨i,t⟩ W=>AD w W∧Fr (BA rI 2) w.heap.size W.heap.size W.heap vo (J7 a b k)∧i≤k∧t=Ol a b (J7 a b k) k i∧(0≤t∧t<1000003)) (fun⟨i,t⟩=>k-i) (0,a.getD k 0) ⟨rfl,rfl,rfl,rfl,rfl,rfl,rfl,trivial⟩ ⟨a6,a1.up o1,Dr,(by rfl),(by exact Cf hqa k)⟩ ?_
  clear a1 a6 ad
  rintro⟨i,t⟩ ρ5 w5 ⟨a9,a0,ak,ht,htr⟩
  have ap:w.heap.size≤w5.heap.size:=a9.size
  refine A0<|fC [0,0,0] Z<|Ad 2 Z ?_
  by_cases al:(i:Int)<(k:Int)
  ·refine AJ true Z Z (A5 al) Aa<|Ai<|Af Z<|A2<|A0<|A3<|AQ _ [0,0,0,0,1,0,0,0,0,0,1,0,0,0] mixed (by kernel_rfl) ?_
   have hmn:=Ci ((J7 a b k).getD i 0*b.getD (k-i) 0)
   refine Ad 3 Z<|AE (v:=vo) i BQ Ck Z Z a0.isSl Z Dr Aa ?_
   refine Ag (p:=AA vo i 1) (.inl Z) (zI<|(J7 a b k).getD i 0) AI Z (a0.rd1.getI Dr).1 Aa (Ad 3 Z<|BJ ((k-i:Nat):Int) Z Z (by rw[DH oM oM];omega) Aa ?_)
   refine AE (v:=vb) (k-i) BQ Ck Z Z hb.isSl Z Dr Aa ?_
   refine Ag (p:=AA vb (k-i) 1) (.inl Z) (zI<|b.getD (k-i) 0) AI Z (Bp a9.drew (hb.getI Dr).1) Aa ?_
   refine AG 112 [] [] [zI<|(J7 a b k).getD i 0,zI<|b.getD (k-i) 0] Z Z M8 Aa (zI<|md (((J7 a b k).getD i 0)*(b.getD (k-i) 0))) (fun wq=>Dc wq _ _ (a0.rd1.getI Dr).2 (hb.getI Dr).2) ?_
   refine AG 223 [] [] [zI t,zI<|md (((J7 a b k).getD i 0)*(b.getD (k-i) 0))] Z Z cE Aa (zI<|md (t-(md (((J7 a b k).getD i 0)*(b.getD (k-i) 0))))) (fun wq=>KV wq _ _ oM (FL _) oM)<|Ac 1 Z<|Ab _ [0,0,0] Z<|Ad 1 Z<|AR ((i+1:Nat):Int) Z Z (Bl oM Dr) Aa<|Ac 1 Z ?_
   exact⟨(i+1,md (t-(md (((J7 a b k).getD i 0)*(b.getD (k-i) 0))))),_,rfl,zR,⟨a9.drew,a0.up o1,Dr,(by rw[NA,ht];rfl),(by exact Ci _)⟩,zD⟩
  refine AJ false Z Z (A6 al) Aa<|Ai<|Aj Z<|A4<|Az<|Az<|Aw<|Ab _ [0,0,0,0,3,4,0] Z<|Ad 3 Z<|AG 112 [] [] [zI t,zI<|inv<|b.getD 0 0] Z Z M8 Aa (zI<|md (t*(inv<|b.getD 0 0))) (fun wq=>Dc wq _ _ oM<|Qz _) (Cd (u:=zI<|md (t*(inv<|b.getD 0 0))) (B:=w5.heap.size) B1 BQ Ck Z Z (Qp w5.heap.size w5.heap.size _ _<|FL _) (A7 _) Aa fun aw az a3 aq a7=>?_)
  have am:=a3.size
  have a4:=a9.trans a3
  have a2:=a0.ext (o1) a3
  refine HX (v:=vo) (a:=aw) BQ Ck Z Z Z a2 a4.size a7.rd1 Dr (by unfold maxLen;first|omega|assumption|(simp[DU];done)|(simp[DU];omega)) Aa fun ax ay b0 a5 a8 ae=>?_
  have af:AD w ay:=a5.below a4 (fun c hc=>A8 (A7 _) (a8 c hc).1) a4.size
  have an:=a5.size
  have ar:=a7.chg (o1) a5 fun c hc=>zH<|a8 c hc
  refine Ac 1 Z<|Ab _ [0,0,0] Z<|Ad 1 Z<|AR ((k+1:Nat):Int) Z Z (Bl oM Dr) Aa<|Ac 1 Z ?_
  exact⟨(k+1,ax),_,rfl,zR,⟨af,(by have h:=ae.up o1;rw[ht,show i=k from by omega]at h;exact h),Dr⟩,zD⟩
 exact AJ false Z Z (A6 aj) Aa<|Ai<|Aj Z<|A4<|Az<|Az<|Aw<|fC [0,0] Z<|Ac 2 Z<|A1<|Ah [4] Z vo Z ⟨vo,rfl,a6,(by have h:=a1.up o1;rw[show k=a.length from by omega]at h;exact h)⟩
def SV (F d:Nat):Prop:=∀(w:World) (S:List Nat) (g:Nat) (pp:Value) (dp n s0:Nat) (c0:Int) (p:List Fn) (ve:Value) (ex:Ex) (vv:Value) (env:List (List Int)) (hS:∀b∈S,b<w.heap.size) (hgS:g∈S) (hB0:BX w.heap g [pp,.int .i64 ((n:Nat):Int),.int .i64 ((s0:Nat):Int),.int .i64 c0]) (hp:RN S (rP (KS dp)) w.heap pp p) (hn:1≤n∧n≤13) (hs0:s0≤3000) (hc0:0≤c0∧c0≤9) (hex:RN S (rP (L6 d)) w.heap ve ex) (henv:RN S (Bd (Bd rI)) w.heap vv env) (hqenv:Cs vv)
  (hvp:Hz p) (hF:F≤p.length) (hwf:wf p ((F:Nat):Int) ex ((env.length:Nat):Int)=true) (hse:C4 n env) (hdp:env.length+ex.deep≤1000000),
  Calls Tryz.prog 221 #[.pointer (some ⟨g,0,none⟩),ve,vv] w (fun e w'=>∃(v:Value) (x:List Int) (s1:Nat) (c1:Int),e=.returned v∧Ax [g] w w'∧BX w'.heap g [pp,.int .i64 ((n:Nat):Int),.int .i64 ((s1:Nat):Int),.int .i64 c1]∧RN S (Bd rI) w'.heap v x∧Cu n x∧s1≤3000∧(0≤c1∧c1≤9)∧AN (go c0 (Cm n (Df p n F) ex env s0)) x s1 c1)
def SC (F d:Nat):Prop:=∀(w:World) (S:List Nat) (g:Nat) (pp:Value) (dp n s0:Nat) (c0:Int) (p:List Fn) (ve:Value) (ex:Ex) (vv:Value) (env:List (List Int)) (hS:∀b∈S,b<w.heap.size) (hgS:g∈S) (hB0:BX w.heap g [pp,.int .i64 ((n:Nat):Int),.int .i64 ((s0:Nat):Int),.int .i64 c0]) (hp:RN S (rP (KS dp)) w.heap pp p) (hn:1≤n∧n≤13) (hs0:s0≤3000) (hc0:0≤c0∧c0≤9) (hex:RN S (rP (L6 d)) w.heap ve ex) (henv:RN S (Bd (Bd rI)) w.heap vv env) (hqenv:Cs vv)
  (hvp:Hz p) (hF:F≤p.length) (hwf:wf p ((F:Nat):Int) ex ((env.length:Nat):Int)=true) (hse:C4 n env) (hdp:env.length+ex.deep≤1000000) (hk:ex.kind=10∨ex.kind=11),
  Calls Tryz.prog 252 #[.pointer (some ⟨g,0,none⟩),ve,vv] w (fun e w'=>∃(v:Value) (x:List Int) (s1:Nat) (c1:Int),e=.returned v∧Ax [g] w w'∧BX w'.heap g [pp,.int .i64 ((n:Nat):Int),.int .i64 ((s1:Nat):Int),.int .i64 c1]∧RN S (Bd rI) w'.heap v x∧Cu n x∧s1≤3000∧(0≤c1∧c1≤9)∧AN (go c0 (KN n (Df p n F) ex env s0)) x s1 c1)
def SO (F:Nat):Prop:=∀(w:World) (S:List Nat) (g:Nat) (pp:Value) (dp n s0:Nat) (c0:Int) (p:List Fn) (dfx:Nat) (vf:Value) (fx:Fn) (va:Value) (env:List (List Int)) (hS:∀b∈S,b<w.heap.size) (hgS:g∈S) (hB0:BX w.heap g [pp,.int .i64 ((n:Nat):Int),.int .i64 ((s0:Nat):Int),.int .i64 c0]) (hp:RN S (rP (KS dp)) w.heap pp p) (hn:1≤n∧n≤13) (hs0:s0≤3000) (hc0:0≤c0∧c0≤9) (hfx:RN S (rP (V9 dfx)) w.heap vf fx) (henv:RN S (Bd (Bd rI)) w.heap va env) (hqenv:Cs va)
  (hvp:Hz p) (hF:F≤p.length) (hwf:∀k,k<fx.outs.length→wf p ((F:Nat):Int) (fx.outs.getD k Ex.zero) ((env.length:Nat):Int)=true) (hse:C4 n env) (hdp:∀k,k<fx.outs.length→env.length+(fx.outs.getD k Ex.zero).deep≤1000000) (hll:fx.outs.length≤1000000),
  Calls Tryz.prog 158 #[.pointer (some ⟨g,0,none⟩),vf,va] w (fun e w'=>∃(v:Value) (x:List (List Int)) (s1:Nat) (c1:Int),e=.returned v∧Ax [g] w w'∧BX w'.heap g [pp,.int .i64 ((n:Nat):Int),.int .i64 ((s1:Nat):Int),.int .i64 c1]∧RN S (Bd (Bd rI)) w'.heap v x∧(Cs v∧x.length=fx.outs.length∧C4 n x)∧s1≤3000∧(0≤c1∧c1≤9)∧AN (go c0 (CB n (Df p n F) fx.outs env s0)) x s1 c1)
theorem Dd (w:World)(S:List Nat)(g:Nat)(pp:Value)(dp n s0:Nat)(c0:Int)(p:List Fn)(code:Int)(hS:∀b∈S,b<w.heap.size)(hgS:g∈S)(hB0:BX w.heap g [pp,zI (n:Int),zI (s0:Int),zI c0])(hp:RN S (rP (KS dp)) w.heap pp p)(hn:1≤n∧n≤13)(hs0:s0≤3000)(hc0:0≤c0∧c0≤9)(_hcode:BG code)(hcd:1≤code∧code≤9) :
  Calls Tryz.prog 250 #[zP g,zI code] w (fun e w'=>∃(v:Value) (x:Sr) (s1:Nat) (c1:Int),e=.returned v∧Ax [g] w w'∧BX w'.heap g [pp,zI (n:Int),zI (s1:Int),zI c1]∧RN S (Bd rI) w'.heap v x∧Cu n x∧s1≤3000∧(0≤c1∧c1≤9)∧(s1=s0∧c1=if c0=0 then code else c0)):=by
 refine Au [zP g,zI code] 19 Tryz.func250 Z Z sM ?_
 have a9:Ax [g] w w:=Ax.refl [g] w
 have aj:=hB0.lt
 refine fE Z<|A0<|fC [0,0,0,2,0] Z<|Ad 1 Z<|B9 Z Aa<|Al (p:=zP g) 3 Hp Z Z Aa<|Ag (p:=Ap (zP g) 3) (.inr Z) (zI c0) AI Z (hB0.ldp (i:=3) sM) Aa ?_
 by_cases aa:c0=((0:Nat):Int)
 ·refine As true Z Z (A5 aa) Aa<|Ai<|Af Z<|Ab _ [0,0,0,0,4] Z<|Ad 2 Z<|B9 Z Aa<|Al (p:=zP g) 3 Hp Z Z Aa (Bc (k:=3) (w:=w) I9 Z Z ⟨rfl,rfl⟩ hB0 sM Aa fun w2 ab ai a6=>?_)
  replace a6:BX w2.heap g [pp,zI (n:Int),zI (s0:Int),zI code]:=a6
  have ac:Ax [g] w w2:=a9.trans ab
  have ad:=ab.size
  refine Ai<|fC [0,0,0,2,3,0] Z<|Ad 1 Z<|B9 Z Aa<|Al (p:=zP g) 1 O6 Z Z Aa<|Ag (p:=Ap (zP g) 1) (.inr Z) (zI (n:Int)) Mb Z (a6.ldp (i:=1) sM) Aa ?_
  refine At 79 [] [] [zI ((0:Nat):Int),zI (n:Int)] Z Z Zq Aa (Fq _ _ (n) oM sD oM) ?_
  rintro e3 w3 ⟨a0,rfl,a7,a1⟩
  refine⟨_,rfl,a7,?_⟩
  have ae:=a7.size
  have af:Ax [g] w w3:=ac.ext a7
  have a2:=a6.ext a7
  exact Ac 1 Z<|A1<|Ah [4] Z a0 Z ⟨a0,cst n ((0:Nat):Int),s0,code,rfl,af,a2,RN.of_fr1 a1 fun b hb=>zH<|hS b hb,(by exact En (by decide)),oM,oM,(by exact⟨rfl,by first|(rw[if_pos oM])|(rw[if_neg oM])⟩)⟩
 refine As false Z Z (A6 aa) Aa<|Ai<|Aj Z<|A2<|fC [0,0,0,2,3,0] Z<|Ad 1 Z<|B9 Z Aa<|Al (p:=zP g) 1 O6 Z Z Aa<|Ag (p:=Ap (zP g) 1) (.inr Z) (zI (n:Int)) Mb Z (hB0.ldp (i:=1) sM) Aa ?_
 refine At 79 [] [] [zI ((0:Nat):Int),zI (n:Int)] Z Z Zq Aa (Fq _ _ (n) oM sD oM) ?_
 rintro e4 w4 ⟨a3,rfl,a8,a4⟩
 refine⟨_,rfl,a8,?_⟩
 have ag:=a8.size
 have ah:Ax [g] w w4:=a9.ext a8
 have a5:=hB0.ext a8
 exact Ac 1 Z<|A1<|Ah [4] Z a3 Z ⟨a3,cst n ((0:Nat):Int),s0,c0,rfl,ah,a5,RN.of_fr1 a4 fun b hb=>zH<|hS b hb,(by exact En (by decide)),oM,oM,(by exact⟨rfl,by first|(rw[if_pos oM])|(rw[if_neg oM])⟩)⟩
theorem V1 {p:Prop}(h:p:=by unfold maxLen;first|omega|assumption|(simp only[zb,z9,z4,z6,z5];omega)|(simp[zb,z9,z4,z6,z5];done)|(simp[zb,z9,z4,z6,z5];omega)):p:=h
theorem MS (w:World)(S:List Nat)(vv:Value)(env:List (Sr))(vx:Value)(x:Sr)(hS:∀b∈S,b<w.heap.size)(henv:RN S (Bd (Bd rI)) w.heap vv env)(hqenv:Cs vv)(hx:RN S (Bd rI) w.heap vx x)(hel:env.length≤1000000) :
  Calls Tryz.prog 251 #[vv,vx] w (fun e w'=>∃v,e=.returned v∧AD w w'∧RN S (Bd (Bd rI)) w'.heap v (env++[x])∧Cs v):=by
 refine Au [vv,vx] 25 Tryz.func251 Z Z sM ?_
 have ai:AD w w:=AD.refl w
 have b8:=henv.lenL
 unfold maxLen at b8
 have b9:=hx.lenL
 unfold maxLen at b9
 refine fE Z<|fC [3,0] Z (Dy rV BK Cb Bo Aa fun v1 w1 a7 aq aj=>?_)
 have a8:=a7.size
 have ak:=ai.trans a7
 obtain⟨b2,F1,b3⟩:=HY.nil (S:=S) (aj.low (B':=w.heap.size) (A7 _))
 refine Ac 1 Z<|A0<|fE Z<|A3<|AW (S:=Nat×Value) (fun⟨k,vo⟩=>([(5,vo),(6,zI (k:Int)),(0,vv),(1,vx)])) (fun⟨k,vo⟩ W=>AD w W∧k≤env.length∧PB 27 S w.heap.size W.heap vo (env.take k)) (fun⟨k,vo⟩=>env.length-k) (0,v1) ⟨rfl,rfl,rfl,rfl,trivial⟩ ⟨ak,sD,(by exact⟨_,_,by assumption⟩)⟩ ?_
 clear ai aj aq a7 a8 ak
 rintro⟨k,vo⟩ ρ2 w2 ⟨a6,al,hbld⟩
 have ar:w.heap.size≤w2.heap.size:=a6.size
 obtain⟨b4,F4,a3⟩:=hbld
 refine A0<|fC [0,0,0,0] Z<|Ad 2 Z<|AS (v:=vv) Cb Z henv.slL Aa ?_
 by_cases am:(k:Int)<(env.length:Int)
 ·refine AJ true Z Z (A5 am) Aa<|Ai<|Af Z<|A2<|A0<|A3<|Ab _ [0,0,0,0,2,3,4,0] Z<|Ad 3 Z<|AE (v:=vv) k Cb Bo Z Z henv.slL Z sD Aa ?_
  obtain⟨a9,au,aa⟩:=RN.getL (w:=w) g1 [] (k:=k) henv sD
  have ab:=aa.lenL
  unfold maxLen at ab
  refine Ag (p:=AA vv k 1) (.inr Z) a9 Bx Z (au _<|Ax.of_ext S a6) Aa (Cd (u:=a9) (B:=w2.heap.size) BK Cb Bo Z Z (Ps w2.heap.size w2.heap.size _<|aa.one1 g1) (A7 _) Aa fun v7 w7 ac b5 av=>?_)
  have aw:=ac.size
  have ad:=a6.trans ac
  have ae:=a3.ext ac
  refine Fl (v:=vo) (a:=v7) (u:=a9) Cb Bo Z Z Z ae oM av ((aa.add (F:=F4) g1 ae.low).ext g1 ad) sD V1 Aa ?_
  rintro v9 w9 G9 an ax ⟨b6,F9,b7⟩
  have ay:=an.size
  have az:AD w w9:=an.below ad (fun c hc=>ae.low c (ax c hc)) ad.size
  refine Ac 1 Z<|Ab _ [0,0,0] Z<|Ad 1 Z<|AR ((k+1:Nat):Int) Z Z (Bl oM sD) Aa<|Ac 1 Z ?_
  exact⟨(k+1,v9),_,rfl,zR,⟨az,sD,(by rw[Cn [] oM];exact⟨_,_,by assumption⟩)⟩,zD⟩
 refine AJ false Z Z (A6 am) Aa<|Ai<|Aj Z<|A4<|Az<|Az<|Aw<|fC [0,0,3,4,0] Z<|Ad 2 Z (Cd (u:=vx) (B:=w2.heap.size) BK Cb Bo Z Z (Ps w2.heap.size w2.heap.size _<|hx.one1 g1) (A7 _) Aa fun bb bd a0 b0 af=>?_)
 have ao:=a0.size
 have a1:=a6.trans a0
 have a2:=a3.ext a0
 refine Fl (v:=vo) (a:=bb) (u:=vx) Cb Bo Z Z Z a2 oM af ((hx.add (F:=F4) g1 a2.low).ext g1 a1) sD V1 Aa ?_
 rintro ba bc G12 a4 ag ⟨b1,be,a5⟩
 have ap:=a4.size
 have ah:AD w bc:=a4.below a1 (fun c hc=>a2.low c (ag c hc)) a1.size
 exact Ac 1 Z<|A1<|Ah [4] Z ba Z ⟨ba,rfl,ah,(by have h9:=(a5.done hS);rw[za oM]at h9;exact h9),a5.cap⟩
theorem Jn (w:World)(S:List Nat)(F:Nat)(g:Nat)(pp:Value)(dp n s0:Nat)(c0:Int)(p:List Fn)(dfx:Nat)(vf:Value)(fx:Fn)(va:Value)(env:List (Sr))(hS:∀b∈S,b<w.heap.size)(hgS:g∈S)(hB0:BX w.heap g [pp,zI (n:Int),zI (s0:Int),zI c0])(hp:RN S (rP (KS dp)) w.heap pp p)(hn:1≤n∧n≤13)(hs0:s0≤3000)(hc0:0≤c0∧c0≤9)(hfx:RN S (rP (V9 dfx)) w.heap vf fx)(henv:RN S (Bd (Bd rI)) w.heap va env)(hqenv:Cs va)(hvp:Hz p)(hF:F≤p.length)(hwf:∀k,k<fx.outs.length→wf p (F:Int) (fx.outs.getD k Ex.zero) (env.length:Int)=true)(hse:C4 n env)(hdp:∀k,k<fx.outs.length→env.length+(fx.outs.getD k Ex.zero).deep≤1000000)(hll:fx.outs.length≤1000000)(IHv:∀d,SV F d) :
  Calls Tryz.prog 158 #[zP g,vf,va] w (fun e w'=>∃(v:Value) (x:List (Sr)) (s1:Nat) (c1:Int),e=.returned v∧Ax [g] w w'∧BX w'.heap g [pp,zI (n:Int),zI (s1:Int),zI c1]∧RN S (Bd (Bd rI)) w'.heap v x∧(Cs v∧x.length=fx.outs.length∧C4 n x)∧s1≤3000∧(0≤c1∧c1≤9)∧AN (go c0 (CB n (Df p n F) fx.outs env s0)) x s1 c1):=by
 refine Au [zP g,vf,va] 32 Tryz.func158 Z Z sM ?_
 have ao:Ax [g] w w:=Ax.refl [g] w
 have bg:=henv.lenL
 unfold maxLen at bg
 have bl:=hB0.lt
 refine fE Z<|fC [3,0] Z (Dy rV BK Cb Bo Aa fun v1 w1 aa az ap=>?_)
 have ae:=aa.size
 have aq:Ax [g] w w1:=ao.ext aa
 have a9:=hB0.ext aa
 obtain⟨bc,F1,bd⟩:=HY.nil (S:=S) (ap.low (B':=w.heap.size) (A7 _))
 refine Ac 1 Z<|A0<|fE Z<|A3 ?_
 refine AW (S:=Nat×Value×List (Sr)×Nat×Int) (fun⟨k,vo,xs,s9,c9⟩=>([(7,vo),(8,zI (k:Int)),(0,zP g),(1,vf),(2,va)])) (fun⟨k,vo,xs,s9,c9⟩ W=>Ax [g] w W∧BX W.heap g [pp,zI (n:Int),zI (s9:Int),zI c9]∧k≤fx.outs.length∧PB 27 S w.heap.size W.heap vo xs∧xs.length=k∧C4 n xs∧s9≤3000∧(0≤c9∧c9≤9)∧AN (go c0<|CB n (Df p n F) (fx.outs.take k) env s0) xs s9 c9) (fun⟨k,vo,xs,s9,c9⟩=>fx.outs.length-k) (0,v1,([]:List (Sr)),s0,c0) ⟨rfl,rfl,rfl,rfl,rfl,trivial⟩ ⟨aq,a9,sD,(by exact⟨_,_,by assumption⟩),(by rfl),(by intro j hj;simp at hj),oM,oM,(by exact GR _ _ _ _ _ _)⟩ ?_
 clear ao ap az aa ae aq
 rintro⟨k,vo,xs,s9,c9⟩ ρ2 w2 ⟨a3,a1,ar,hbld,hxl,hxs,au,av,hrl⟩
 have b0:w.heap.size≤w2.heap.size:=a3.size
 have be:=a1.lt
 obtain⟨bf,F5,a0⟩:=hbld
 refine A0<|fC [0,0,0,0,2,0,0] Z<|Ad 2 Z<|AK (hfx.isPtr) Z Aa ?_
 obtain⟨cs6,b1,ab⟩:=RN.at (Av _) hfx
 obtain⟨a8,rfl,ac⟩:=RF.of b1
 have af:=ac.rn.lenle
 unfold maxLen at af
 refine AB (p:=vf) 2 Br Z (ab _<|a3.sub<|B6 hgS) Aa<|Ag (p:=Ap vf 2) (.inr Z) a8 B7 Z ((ab _<|a3.sub<|B6 hgS).ld (i:=2) (by simp[DT,E2])) Aa<|AS (v:=a8) Cc Z ac.rn.isSl Aa ?_
 by_cases aw:(k:Int)<(fx.outs.length:Int)
 ·refine AJ true Z Z (A5 aw) Aa<|Ai<|Af Z<|A2<|A0<|A3<|Ab _ [0,0,0,0,0,2,0,0,0,4,3,4,0] Z<|Ad 3 Z<|AK (hfx.isPtr) Z Aa<|AB (p:=vf) 2 Br Z (ab _<|a3.sub<|B6 hgS) Aa<|Ag (p:=Ap vf 2) (.inr Z) a8 B7 Z ((ab _<|a3.sub<|B6 hgS).ld (i:=2) (by simp[DT,E2])) Aa<|Ad 1 Z ?_
  refine AE (v:=a8) k Cc B3 Z Z ac.rn.isSl Z sD Aa<|Ad 1 Z ?_
  refine AH 221 [] [] [zP g,AA a8 k 5,va] Z Z I8 Aa (IHv dfx _ (S++F5) g pp dp (n) (s9) (c9) (p) (AA a8 k 5) (fx.outs.getD k Ex.zero) va (env) (fun b hb=>(by rcases zi.1 hb with hb|hb;(have:=hS b hb;omega);exact a0.lt b hb:b<w2.heap.size)) (z8 _ hgS) a1 ((hp.add (F:=F5) (Bg<|AZ dp) a0.low).chg (Bg<|AZ dp)<|a3.sub<|MD hgS) oM oM oM (RN.ptr (Ay dfx) (by decide) Ex.zero ((ac.rn.add (F:=F5) (An<|Ay dfx) a0.low).chg (An<|Ay dfx)<|a3.sub<|MD hgS) sD) ((henv.add (F:=F5) g2 a0.low).chg g2<|a3.sub<|MD hgS) hqenv hvp oM (by exact hwf k oM) hse (by exact hdp k oM)) ?_
  rintro e8 w8 ⟨v8,x8,s8,c8,rfl,ag,b2,ad,ah,b3,b4,b5⟩
  refine⟨_,rfl,?_⟩
  have b6:=ag.size
  have b7:Ax [g] w w8:=a3.trans ag
  have ai:=a0.run hgS oM ag
  have b8:=ah.1
  replace ad:RN (S++F5) (Bd rI) w8.heap v8 x8:=ad
  refine Cd (u:=v8) (B:=w8.heap.size) BK Cb Bo Z Z (Ps w8.heap.size w8.heap.size _<|ad.one1 g1) (A7 _) Aa fun bh bi a2 b9 aj=>?_
  have ax:=a2.size
  have ak:Ax [g] w bi:=b7.ext a2
  have a5:=b2.ext a2
  have a4:=ai.ext a2
  have al:=ad.ext g1 a2
  refine Fl (v:=vo) (a:=bh) (u:=v8) Cb Bo Z Z Z a4 oM aj al sD (by unfold maxLen;first|omega|assumption|(simp;done)|(simp;omega)) Aa ?_
  rintro bj bk G17 a6 a7 ⟨ba,bm,bb⟩
  have ay:=a6.size
  have am:Ax [g] w bk:=ak.fresh a6 (fun c hc=>a4.low c (a7 c hc))
  have an:=a5.chg a6 fun hm=>by have:=a4.low _ (a7 _ hm);have:=a4.lt _ (a7 _ hm);omega
  refine Ac 1 Z<|Ab _ [0,0,0] Z<|Ad 1 Z<|AR ((k+1:Nat):Int) Z Z (Bl oM sD) Aa<|Ac 1 Z ?_
  exact⟨(k+1,bj,xs++[x8],s8,c8),_,rfl,zR,⟨am,an,sD,(by exact⟨_,_,by assumption⟩),(by rw[z4,zd,hxl]),(by exact C4.snoc hxs (by assumption)),oM,oM,(by exact GQ oM hrl (by assumption))⟩,zD⟩
 exact AJ false Z Z (A6 aw) Aa<|Ai<|Aj Z<|A4<|Az<|Az<|Aw<|fC [0,0] Z<|Ac 2 Z<|A1<|Ah [6] Z vo Z ⟨vo,xs,s9,c9,rfl,a3,a1,a0.done hS,(by exact⟨a0.cap,zO,hxs⟩),oM,oM,(by rw[za oM]at hrl;exact hrl)⟩
theorem V2 (F:Nat)(IH:∀d,SV F d):SO F:=by
 intro w S g pp dp n s0 c0 p dfx vf fx va env hS hgS hB0 hp hn hs0 hc0 hfx henv hqenv hvp hF hwf hse hdp hll
 exact Jn w S F g pp dp n s0 c0 p dfx vf fx va env hS hgS hB0 hp hn hs0 hc0 hfx henv hqenv hvp hF hwf hse hdp hll IH
theorem V3 {p:Prop}(h:p:=by first|exact Tv oM oM hKr (by assumption)|exact Ty oM oM hKr (by rw[show(ex.count).toNat=i from by omega];exact hrl9)):p:=h
theorem Ht {p:Prop}(h:p:=by simp[DT,E2]):p:=h
theorem Jo (w:World)(S:List Nat)(F:Nat)(g:Nat)(pp:Value)(dp n s0:Nat)(c0:Int)(p:List Fn)(dex:Nat)(ve:Value)(ex:Ex)(vv:Value)(env:List (Sr))(hS:∀b∈S,b<w.heap.size)(hgS:g∈S)(hB0:BX w.heap g [pp,zI (n:Int),zI (s0:Int),zI c0])(hp:RN S (rP (KS dp)) w.heap pp p)(hn:1≤n∧n≤13)(hs0:s0≤3000)(hc0:0≤c0∧c0≤9)(hex:RN S (rP (L6 dex)) w.heap ve ex)(henv:RN S (Bd (Bd rI)) w.heap vv env)(hqenv:Cs vv)(hvp:Hz p)(hF:F≤p.length)(hwf:wf p (F:Int) ex (env.length:Int)=true)(hse:C4 n env)(hdp:env.length+ex.deep≤1000000)(hk:ex.kind=10∨ex.kind=11)(IH1:∀F',F'<F→∀d,SV F' d)(IH2:∀d',d'<dex→SV F d') :
  Calls Tryz.prog 252 #[zP g,ve,vv] w (fun e w'=>∃(v:Value) (x:Sr) (s1:Nat) (c1:Int),e=.returned v∧Ax [g] w w'∧BX w'.heap g [pp,zI (n:Int),zI (s1:Int),zI c1]∧RN S (Bd rI) w'.heap v x∧Cu n x∧s1≤3000∧(0≤c1∧c1≤9)∧AN (go c0 (KN n (Df p n F) ex env s0)) x s1 c1):=by
 refine Au [zP g,ve,vv] 81 Tryz.func252 Z Z sM ?_
 have bo:Ax [g] w w:=Ax.refl [g] w
 have d0:=henv.lenL
 unfold maxLen at d0
 have dh:=hB0.lt
 have hwk:=Iq hwf hk
 have ay:ex.kind≠9:=by omega
 have hkH:=eA hk
 clear hk
 have hdk:=E9 ex
 refine fE Z<|fC [3,0] Z (Dy rV BK Cb Bo Aa fun v1 w1 az cf bp=>?_)
 have b2:=az.size
 have bq:Ax [g] w w1:=bo.ext az
 have am:=hB0.ext az
 obtain⟨cv,F1,cw⟩:=HY.nil (S:=S) (bp.low (B':=w.heap.size) (A7 _))
 refine Ac 1 Z<|A0<|fE Z<|A3 ?_
 refine AW (S:=Nat×Value×List (Sr)×Nat×Int) (fun⟨k,vo,xs,s9,c9⟩=>([(7,vo),(8,zI (k:Int)),(0,zP g),(1,ve),(2,vv)])) (fun⟨k,vo,xs,s9,c9⟩ W=>Ax [g] w W∧BX W.heap g [pp,zI (n:Int),zI (s9:Int),zI c9]∧k≤ex.kids.length∧PB 27 S w.heap.size W.heap vo xs∧xs.length=k∧C4 n xs∧s9≤3000∧(0≤c9∧c9≤9)∧AN (go c0<|CB n (Df p n F) (ex.kids.take k) env s0) xs s9 c9) (fun⟨k,vo,xs,s9,c9⟩=>ex.kids.length-k) (0,v1,([]:List (Sr)),s0,c0) ⟨rfl,rfl,rfl,rfl,rfl,trivial⟩ ⟨bq,am,sD,(by exact⟨_,_,by assumption⟩),(by rfl),(by intro j hj;simp at hj),oM,oM,(by exact GR _ _ _ _ _ _)⟩ ?_
 clear bo bp cf az b2 bq
 rintro⟨k,vo,xs,s9,c9⟩ ρ2 w2 ⟨a0,a1,br,hbld,hxl,hxs,bs,bt,hrl⟩
 have b3:w.heap.size≤w2.heap.size:=a0.size
 have cx:=a1.lt
 obtain⟨cy,F5,a3⟩:=hbld
 refine A0<|fC [0,0,0,0,2,0,0] Z<|Ad 2 Z<|AK (hex.isPtr) Z Aa ?_
 obtain⟨cs6,cg,a7⟩:=RN.at (Ay _) hex
 obtain⟨dd6,al,cz,rfl,b0⟩:=RX.of cg
 have an:=b0.rn.lenle
 unfold maxLen at an
 refine AB (p:=ve) 4 AY Z (a7 _<|a0.sub<|B6 hgS) Aa<|Ag (p:=Ap ve 4) (.inr Z) al B7 Z ((a7 _<|a0.sub<|B6 hgS).ld (i:=4) Ht) Aa<|AS (v:=al) Cc Z b0.rn.isSl Aa ?_
 by_cases bu:(k:Int)<(ex.kids.length:Int)
 ·refine AJ true Z Z (A5 bu) Aa<|Ai<|Af Z<|A2<|A0<|A3<|Ab _ [0,0,0,0,0,2,0,0,0,4,3,4,0] Z ?_
  have hvo:=hvp.outs (ex.num).toNat oM
  have hvr:=hvp.par (ex.num).toNat oM
  have hkd:=DB (l:=ex.kids) (k:=k) oM
  have hkb:ex.kids.length≤412:=by omega
  refine Ad 3 Z<|AK (hex.isPtr) Z Aa<|AB (p:=ve) 4 AY Z (a7 _<|a0.sub<|B6 hgS) Aa<|Ag (p:=Ap ve 4) (.inr Z) al B7 Z ((a7 _<|a0.sub<|B6 hgS).ld (i:=4) Ht) Aa<|Ad 1 Z<|AE (v:=al) k Cc B3 Z Z b0.rn.isSl Z sD Aa<|Ad 1 Z ?_
  refine AH 221 [] [] [zP g,AA al k 5,vv] Z Z I8 Aa (IH2 dd6 oM _ (S++F5) g pp dp (n) (s9) (c9) (p) (AA al k 5) (ex.kids.getD k Ex.zero) vv (env) (fun b hb=>(by rcases zi.1 hb with hb|hb;(have:=hS b hb;omega);exact a3.lt b hb:b<w2.heap.size)) (z8 _ hgS) a1 ((hp.add (F:=F5) (Bg<|AZ dp) a3.low).chg (Bg<|AZ dp)<|a0.sub<|MD hgS) oM oM oM (RN.ptr (Ay dd6) (by decide) Ex.zero ((b0.rn.add (F:=F5) (An<|Ay dd6) a3.low).chg (An<|Ay dd6)<|a0.sub<|MD hgS) sD) ((henv.add (F:=F5) g2 a3.low).chg g2<|a0.sub<|MD hgS) hqenv hvp oM (by exact E6 hwf oM oM) hse oM) ?_
  rintro e8 w8 ⟨v8,x8,s8,c8,rfl,b4,ch,b1,b5,ci,cj,ck⟩
  refine⟨_,rfl,?_⟩
  have cl:=b4.size
  have cm:Ax [g] w w8:=a0.trans b4
  have b6:=a3.run hgS oM b4
  have cn:=b5.1
  replace b1:RN (S++F5) (Bd rI) w8.heap v8 x8:=b1
  refine Cd (u:=v8) (B:=w8.heap.size) BK Cb Bo Z Z (Ps w8.heap.size w8.heap.size _<|b1.one1 g1) (A7 _) Aa fun d3 d4 a8 co b7=>?_
  have bv:=a8.size
  have b8:Ax [g] w d4:=cm.ext a8
  have af:=ch.ext a8
  have ab:=b6.ext a8
  have b9:=b1.ext g1 a8
  refine Fl (v:=vo) (a:=d3) (u:=v8) Cb Bo Z Z Z ab oM b7 b9 sD (by unfold maxLen;first|omega|assumption|(simp;done)|(simp;omega)) Aa ?_
  rintro d5 d6 G17 ag ah ⟨cp,di,cq⟩
  have bw:=ag.size
  have ba:Ax [g] w d6:=b8.fresh ag (fun c hc=>ab.low c (ah c hc))
  have bb:=af.chg ag fun hm=>by have:=ab.low _ (ah _ hm);have:=ab.lt _ (ah _ hm);omega
  refine Ac 1 Z<|Ab _ [0,0,0] Z<|Ad 1 Z<|AR ((k+1:Nat):Int) Z Z (Bl oM sD) Aa<|Ac 1 Z ?_
  exact⟨(k+1,d5,xs++[x8],s8,c8),_,rfl,zR,⟨ba,bb,sD,(by exact⟨_,_,by assumption⟩),(by rw[z4,zd,hxl]),(by exact C4.snoc hxs (by assumption)),oM,oM,(by exact GQ oM hrl (by assumption))⟩,zD⟩
 refine AJ false Z Z (A6 bu) Aa<|Ai<|Aj Z<|A4<|Az<|Az<|Aw<|A0<|AQ _ [0,0,0,1,0,0,1,0,0,0,1,0,0] mixed (by kernel_rfl) ?_
 have ad:=a3.done hS
 have hfn19c:=a3.cap
 have hvo:=hvp.outs (ex.num).toNat oM
 have hvr:=hvp.par (ex.num).toNat oM
 have hxk:xs.length=ex.kids.length:=by omega
 have hKr:AN (go c0 (CB n (Df p n F) ex.kids env s0)) xs s9 c9:=by rw[za oM]at hrl;exact hrl
 refine Ad 1 Z<|B9 Z Aa<|Al (p:=zP g) 0 X8 Z Z Aa<|Ag (p:=Ap (zP g) 0) (.inl Z) pp Yc Z (a1.ldp (i:=0) sM) Aa<|AK (hp.isPtr) Z Aa ?_
 obtain⟨cs20,bc,ao⟩:=RN.at (AZ _) hp
 obtain⟨a4,rfl,a9⟩:=RPr.of bc
 have ae:=a9.lenle
 unfold maxLen at ae
 refine AB (p:=pp) 0 B8 Z (ao _<|a0.drew.sub<|B6 hgS) Aa<|Ag (p:=Ap pp 0) (.inl Z) a4 Bt Z ((ao _<|a0.drew.sub<|B6 hgS).ld (i:=0) Ht) Aa<|Ad 1 Z<|AK (hex.isPtr) Z Aa<|AB (p:=ve) 1 BL Z (a7 _<|a0.drew.sub<|B6 hgS) Aa<|Ag (p:=Ap ve 1) (.inl Z) (zI ex.num) AI Z ((a7 _<|a0.drew.sub<|B6 hgS).ld (i:=1) Ht) Aa ?_
 refine AE (v:=a4) ((ex.num).toNat) Du BD Z Z a9.isSl oM sD Aa<|Ac 1 Z<|A0<|fC [0,0,0,2,0] Z<|Ad 1 Z<|AK (hex.isPtr) Z Aa<|AB (p:=ve) 0 Bn Z (a7 _<|a0.drew.sub<|B6 hgS) Aa<|Ag (p:=Ap ve 0) (.inr Z) (zI ex.kind) AI Z ((a7 _<|a0.drew.sub<|B6 hgS).ld (i:=0) Ht) Aa ?_
 by_cases ap:ex.kind=((10:Nat):Int)
 ·refine As true Z Z (A5 ap) Aa<|Ai<|Af Z<|A0<|AQ _ [0,0,0,0,1,0,0,0,1,0,0,4,0] mixed (by kernel_rfl)<|Ad 2 Z ?_
  have hvd:=hvp.deep (ex.num).toNat oM (ex.pick).toNat oM
  refine AK (RN.isPtr<|RN.ptr (Av dp) (by decide) Fn.zero a9 sD) Z Aa ?_
  obtain⟨cs22,bd,aq⟩:=a9.get (Av dp) Fn.zero (k:=(ex.num).toNat) sD
  obtain⟨ac,rfl,ai⟩:=RF.of bd
  have ar:=ai.rn.lenle
  unfold maxLen at ar
  refine AB (p:=AA a4 ((ex.num).toNat) 3) 2 Br Z (aq _<|a0.drew.drew.sub<|B6 hgS) Aa<|Ag (p:=Ap (AA a4 ((ex.num).toNat) 3) 2) (.inl Z) ac B7 Z ((aq _<|a0.drew.drew.sub<|B6 hgS).ld (i:=2) Ht) Aa<|Ad 1 Z<|AK (hex.isPtr) Z Aa<|AB (p:=ve) 2 CN Z (a7 _<|a0.drew.drew.sub<|B6 hgS) Aa<|Ag (p:=Ap ve 2) (.inl Z) (zI ex.pick) AI Z ((a7 _<|a0.drew.drew.sub<|B6 hgS).ld (i:=2) Ht) Aa ?_
  refine AE (v:=ac) ((ex.pick).toNat) Cc B3 Z Z ai.rn.isSl oM sD Aa<|Ad 1 Z ?_
  refine AH 221 [] [] [zP g,AA ac ((ex.pick).toNat) 5,vo] Z Z I8 Aa (IH1 (ex.num).toNat oM dp _ S g pp dp (n) (s9) (c9) (p) (AA ac ((ex.pick).toNat) 5) (((p.getD ((ex.num).toNat) Fn.zero).outs).getD ((ex.pick).toNat) Ex.zero) vo (xs) (fun b hb=>(by have:=hS b hb;omega:b<w2.heap.size)) hgS a1 (hp.chg (Bg<|AZ dp)<|a0.drew.drew.sub<|B6 hgS) oM oM oM (RN.ptr (Ay dp) (by decide) Ex.zero (ai.rn.chg (An<|Ay dp)<|a0.drew.drew.sub<|B6 hgS) sD) ad hfn19c hvp oM (by have h9:=hvp.wf (ex.num).toNat oM (ex.pick).toNat oM;rw[show(xs.length:Int)=(p.getD (ex.num).toNat Fn.zero).params from by omega];exact h9) hxs oM) ?_
  rintro dj d7 ⟨d2,d8,da,db,rfl,a5,be,bf,au,bx,bz,c2⟩
  refine⟨_,rfl,?_⟩
  replace a5:=a5.of_drew
  replace a5:=a5.of_drew
  have c3:=a5.size
  have bg:Ax [g] w d7:=a0.trans a5
  have cr:=ad.run g2 hgS a5
  have c4:=au.1
  exact Ac 1 Z<|A1<|Ao<|Ah [6] Z d2 Z ⟨d2,d8,da,db,rfl,bg,be,bf,(by first|assumption|exact hks _ oM),oM,oM,V3⟩
 refine As false Z Z (A6 ap) Aa<|Ai<|Aj Z<|A2<|A0<|fC [0] Z ?_
 have bh:ex.kind=11:=by have h9:ex.kind=10∨ex.kind=11:=hkH;omega
 have hwl:=NI hwf bh
 refine Ac 1 Z<|A3 ?_
 refine AW (S:=Nat×Value×List (Sr)×Nat×Int) (fun⟨i,vk,ks,s8,c8⟩=>([(7,vk),(10,zI (i:Int)),(0,zP g),(1,ve),(9,AA a4 ((ex.num).toNat) 3)])) (fun⟨i,vk,ks,s8,c8⟩ W=>Ax [g] w W∧BX W.heap g [pp,zI (n:Int),zI (s8:Int),zI c8]∧i≤(ex.count).toNat∧RN S (Bd<|Bd rI) W.heap vk ks∧Cs vk∧ks.length=(p.getD (ex.num).toNat Fn.zero).outs.length∧C4 n ks∧s8≤3000∧(0≤c8∧c8≤9)∧AN (go c9<|GJ (fun a t=>CB n (Df p n (ex.num).toNat) (p.getD (ex.num).toNat Fn.zero).outs a t) i xs s9) ks s8 c8) (fun⟨i,vk,ks,s8,c8⟩=>(ex.count).toNat-i) (0,vo,xs,s9,c9) ⟨rfl,rfl,rfl,rfl,rfl,trivial⟩ ⟨a0.drew,a1,oM,(by assumption),(by assumption),oM,(by assumption),oM,oM,(by exact Tx Z)⟩ ?_
 clear a1 a0 b3 an ae
 rintro⟨i,vk,ks,s8,c8⟩ ρ31 d1 ⟨a2,a6,bi,hrk,hck,hkl,hks,bj,bk,hrl9⟩
 have c5:w.heap.size≤d1.heap.size:=a2.size
 have cs:=a6.lt
 refine A0<|fC [0,0,0,0,2,0] Z<|Ad 2 Z<|AK (hex.isPtr) Z Aa<|AB (p:=ve) 3 CV Z (a7 _<|a2.sub<|B6 hgS) Aa<|Ag (p:=Ap ve 3) (.inr Z) (zI ex.count) AI Z ((a7 _<|a2.sub<|B6 hgS).ld (i:=3) Ht) Aa ?_
 by_cases av:(i:Int)<ex.count
 ·refine AJ true Z Z (A5 av) Aa<|Ai<|Af Z<|A2<|A0<|A3<|Ab _ [0,0,0,4,0] Z<|Ad 3 Z ?_
  refine AH 158 [] [] [zP g,AA a4 ((ex.num).toNat) 3,vk] Z Z XW Aa (V2 (ex.num).toNat (fun d9=>IH1 (ex.num).toNat oM d9) _ S g pp dp (n) (s8) (c8) (p) dp (AA a4 ((ex.num).toNat) 3) (p.getD ((ex.num).toNat) Fn.zero) vk (ks) (fun b hb=>(by have:=hS b hb;omega:b<d1.heap.size)) hgS a6 (hp.chg (Bg<|AZ dp)<|a2.sub<|B6 hgS) oM oM oM (RN.ptr (Av dp) (by decide) Fn.zero (a9.chg (An<|Av dp)<|a2.sub<|B6 hgS) sD) hrk hck hvp oM (by intro k9 ay;have h9:=hvp.wf (ex.num).toNat oM k9 ay;rw[show(ks.length:Int)=(p.getD (ex.num).toNat Fn.zero).params from by omega];exact h9) hks (by intro k9 ay;have:=hvp.deep (ex.num).toNat oM k9 ay;omega) oM) ?_
  rintro dk dc ⟨dd,de,df,dg,rfl,aj,bl,ct,aa,c6,c7,ca⟩
  refine⟨_,rfl,?_⟩
  have cb:=aj.size
  have bm:Ax [g] w dc:=a2.trans aj
  have cu:=hrk.run g2 hgS aj
  have cc:=aa.2.1
  have cd:=aa.2.2
  have ce:=aa.1
  exact Ac 1 Z<|Ab _ [0,0,0] Z<|Ad 1 Z<|AR ((i+1:Nat):Int) Z Z (Bl oM oM) Aa<|Ac 1 Z ⟨(i+1,dd,de,df,dg),_,rfl,zR,⟨bm,bl,oM,(by assumption),(by assumption),oM,(by assumption),oM,oM,(by exact Tw hrl9 (by assumption))⟩,zD⟩
 refine AJ false Z Z (A6 av) Aa<|Ai<|Aj Z<|A4<|Az<|Az<|Aw<|fC [0,0,0,0,2,0,2,0] Z<|Ad 2 Z<|AK (hex.isPtr) Z Aa<|AB (p:=ve) 2 CN Z (a7 _<|a2.sub<|B6 hgS) Aa<|Ag (p:=Ap ve 2) (.inr Z) (zI ex.pick) AI Z ((a7 _<|a2.sub<|B6 hgS).ld (i:=2) Ht) Aa ?_
 refine AE (v:=vk) ((ex.pick).toNat) Cb Bo Z Z hrk.slL oM sD Aa ?_
 obtain⟨ak,bn,aw⟩:=RN.getL (w:=d1) g1 [] (k:=(ex.pick).toNat) hrk sD
 have ax:=aw.lenL
 unfold maxLen at ax
 exact Ag (p:=AA vk ((ex.pick).toNat) 1) (.inr Z) ak Bx Z (bn _<|Ax.refl _ _) Aa<|Ac 1 Z<|A1<|Ah [6] Z ak Z ⟨ak,ks.getD ((ex.pick).toNat) [],s8,c8,rfl,a2,a6,aw,(by first|assumption|exact hks _ oM),oM,oM,V3⟩
theorem V4 (F d:Nat)(IH1:∀F',F'<F→∀d,SV F' d)(IH2:∀d',d'<d→SV F d'):SC F d:=by
 intro w S g pp dp n s0 c0 p ve ex vv env hS hgS a0 hp hn a1 a2 hex henv hqenv hvp hF hwf hse hdp hk
 exact Jo w S F g pp dp n s0 c0 p d ve ex vv env hS hgS a0 hp hn a1 a2 hex henv hqenv hvp hF hwf hse hdp hk IH1 IH2
theorem V5 {p:Prop}(h:p:=by first|exact EQ hc00 hs1 oM oM ‹AN (go c0 (Cm _ _ (ex.kids.getD 0 _) _ _)) _ _ _› oM (by assumption)|exact ER hc00 hs1 oM oM ‹AN (go c0 (Cm _ _ (ex.kids.getD 0 _) _ _)) _ _ _› oM (by assumption)):p:=h
theorem Od {p:Prop}(h:p:=by have:=DB (l:=ex.kids) (k:=0) oM;omega):p:=h
theorem Jp {p:Prop}(h:p:=by exact E6 hwf oM oM):p:=h
theorem Ev {p:Prop}(h:p:=by simp[DT,E2]):p:=h
theorem Jq (w:World)(S:List Nat)(F:Nat)(g:Nat)(pp:Value)(dp n s0:Nat)(c0:Int)(p:List Fn)(dex:Nat)(ve:Value)(ex:Ex)(vv:Value)(env:List (Sr))(hS:∀b∈S,b<w.heap.size)(hgS:g∈S)(b0:BX w.heap g [pp,zI (n:Int),zI (s0:Int),zI c0])(hp:RN S (rP (KS dp)) w.heap pp p)(hn:1≤n∧n≤13)(j2:s0≤3000)(j3:0≤c0∧c0≤9)(hex:RN S (rP (L6 dex)) w.heap ve ex)(henv:RN S (Bd (Bd rI)) w.heap vv env)(hqenv:Cs vv)(hvp:Hz p)(hF:F≤p.length)(hwf:wf p (F:Int) ex (env.length:Int)=true)(hse:C4 n env)(hdp:env.length+ex.deep≤1000000)(IH1:∀F',F'<F→∀d,SV F' d)(IH2:∀d',d'<dex→SV F d') :
  Calls Tryz.prog 221 #[zP g,ve,vv] w (fun e w'=>∃(v:Value) (x:Sr) (s1:Nat) (c1:Int),e=.returned v∧Ax [g] w w'∧BX w'.heap g [pp,zI (n:Int),zI (s1:Int),zI c1]∧RN S (Bd rI) w'.heap v x∧Cu n x∧s1≤3000∧(0≤c1∧c1≤9)∧AN (go c0 (Cm n (Df p n F) ex env s0)) x s1 c1):=by
 refine Au [zP g,ve,vv] 186 Tryz.func221 Z Z sM ?_
 have bk:Ax [g] w w:=Ax.refl [g] w
 have fr:=henv.lenL
 unfold maxLen at fr
 have l1:=b0.lt
 have hdk:=E9 ex
 refine fE Z<|A0<|fC [0,0,0,2,0] Z<|Ad 1 Z<|B9 Z Aa<|Al (p:=zP g) 3 Hp Z Z Aa<|Ag (p:=Ap (zP g) 3) (.inr Z) (zI c0) AI Z (b0.ldp (i:=3) sM) Aa ?_
 by_cases e8:c0≠((0:Nat):Int)
 ·refine AT true Z Z (A5 e8) Aa<|Ai<|Af Z<|fC [0,0,0,0,2,4,0] Z<|Ad 2 Z<|B9 Z Aa<|Al (p:=zP g) 3 Hp Z Z Aa<|Ag (p:=Ap (zP g) 3) (.inr Z) (zI c0) AI Z (b0.ldp (i:=3) sM) Aa<|AH 250 [] [] [zP g,zI c0] Z Z RC Aa (Dd _ S g pp dp (n) (s0) (c0) (p) (c0) (fun b hb=>(by have:=hS b hb;omega:b<w.heap.size)) hgS b0 (hp.chg (Bg<|AZ dp)<|bk.sub<|B6 hgS) oM oM oM oM oM) ?_
  rintro e2 w2 ⟨v2,x2,s2,c2,rfl,e9,i9,ia,d1,ib,ic,bl⟩
  refine⟨_,rfl,?_⟩
  have id:=e9.size
  have ie:Ax [g] w w2:=bk.trans e9
  have ig:=d1.1
  have hfs:=bl.1
  have hff:=bl.2
  exact Ac 1 Z<|A1<|Ao<|Ah [6] Z v2 Z ⟨v2,x2,s2,c2,rfl,ie,i9,ia,(by assumption),oM,oM,(by rw[hff,if_neg oM];exact DR oM)⟩
 refine AT false Z Z (A6 e8) Aa<|Ai<|Aj Z<|A2<|A0<|fC [0,0,0,2,0] Z<|Ad 1 Z<|B9 Z Aa<|Al (p:=zP g) 2 Ls Z Z Aa<|Ag (p:=Ap (zP g) 2) (.inr Z) (zI (s0:Int)) AI Z (b0.ldp (i:=2) sM) Aa ?_
 by_cases ea:(s0:Int)=((3000:Nat):Int)
 ·refine As true Z Z (A5 ea) Aa<|Ai<|Af Z<|fC [0,4,0] Z<|Ad 1 Z<|AH 250 [] [] [zP g,zI ((7:Nat):Int)] Z Z RC Aa (Dd _ S g pp dp (n) (s0) (c0) (p) ((7:Nat):Int) (fun b hb=>(by have:=hS b hb;omega:b<w.heap.size)) hgS b0 (hp.chg (Bg<|AZ dp)<|bk.sub<|B6 hgS) oM oM oM oM oM) ?_
  rintro e7 w7 ⟨v7,x7,s7,c7,rfl,eb,ih,ii,d2,ij,ik,bm⟩
  refine⟨_,rfl,?_⟩
  have il:=eb.size
  have im:Ax [g] w w7:=bk.trans eb
  have io:=d2.1
  have hfs:=bm.1
  have hff:=bm.2
  exact Ac 1 Z<|A1<|Ao<|Ah [6] Z v7 Z ⟨v7,x7,s7,c7,rfl,im,ih,ii,(by assumption),oM,oM,(by rw[hff,if_pos oM];exact CQ oM oM)⟩
 refine As false Z Z (A6 ea) Aa<|Ai<|Aj Z<|A2<|fC [0,0,0,2,0,0,0,4] Z<|Ad 1 Z<|B9 Z Aa<|Al (p:=zP g) 2 Ls Z Z Aa<|Ag (p:=Ap (zP g) 2) (.inr Z) (zI (s0:Int)) AI Z (b0.ldp (i:=2) sM) Aa<|AR ((s0+1:Nat):Int) Z Z (Bl oM oM) Aa<|B9 Z Aa<|Al (p:=zP g) 2 Ls Z Z Aa (Bc (k:=2) (w:=w) I9 Z Z ⟨rfl,rfl⟩ b0 sM Aa fun f1 bn ip a7=>?_)
 replace a7:BX f1.heap g [pp,zI (n:Int),zI ((s0+1:Nat):Int),zI c0]:=a7
 have a0:Ax [g] w f1:=bk.trans bn
 have ec:=bn.size
 refine Ai<|A0<|fC [0,0,0,2] Z ?_
 have hc00:c0=0:=by omega
 have hs1:s0+1≤3000:=by omega
 refine Ad 1 Z<|AK (hex.isPtr) Z Aa ?_
 obtain⟨cs12,d3,a2⟩:=RN.at (Ay _) hex
 obtain⟨dd12,a1,iq,rfl,a3⟩:=RX.of d3
 have bo:=a3.rn.lenle
 unfold maxLen at bo
 refine AB (p:=ve) 0 Bn Z (a2 _<|a0.sub<|B6 hgS) Aa<|Ag (p:=Ap ve 0) (.inr Z) (zI ex.kind) AI Z ((a2 _<|a0.sub<|B6 hgS).ld (i:=0) Ev) Aa<|Ai<|A3<|fC [0,0] Z ?_
 by_cases bp:ex.kind=((1:Nat):Int)
 ·refine As true Z Z (A5 bp) Aa<|Ac 1 Z<|Af Z<|A0<|AQ _ [0,0,0,1,0,0,0,1,3,0] mixed (by kernel_rfl) ?_
  have hwk:=PE hwf oM
  refine Ad 1 Z<|AK (hex.isPtr) Z Aa<|AB (p:=ve) 1 BL Z (a2 _<|a0.drew.sub<|B6 hgS) Aa<|Ag (p:=Ap ve 1) (.inl Z) (zI ex.num) AI Z ((a2 _<|a0.drew.sub<|B6 hgS).ld (i:=1) Ev) Aa<|Ad 1 Z<|B9 Z Aa<|Al (p:=zP g) 1 O6 Z Z Aa<|Ag (p:=Ap (zP g) 1) (.inl Z) (zI (n:Int)) Mb Z (a7.ldp (i:=1) sM) Aa ?_
  refine At 79 [] [] [zI ex.num,zI (n:Int)] Z Z Zq Aa (Fq _ _ (n) a3.rng.num sD oM) ?_
  rintro l2 jw ⟨b1,rfl,ae,aa⟩
  refine⟨_,rfl,ae,?_⟩
  replace ae:=ae.of_drew
  have ed:=ae.size
  have d4:Ax [g] w jw:=a0.ext ae
  have an:=a7.ext ae
  replace aa:=aa.low (B':=f1.heap.size)<|A7 _
  exact Ac 1 Z<|A1<|AL<|Ao<|Ah [6] Z b1 Z ⟨b1,cst n ex.num,s0+1,c0,rfl,d4,an,RN.of_fr1 aa fun b hb=>zH<|hS b hb,(by exact En (CD.2 oM)),oM,oM,(by exact EO hc00 hs1 oM)⟩
 refine As false Z Z (A6 bp) Aa<|Ac 1 Z<|Aj Z<|fC [0,0] Z ?_
 by_cases bq:ex.kind=((2:Nat):Int)
 ·refine As true Z Z (A5 bq) Aa<|Ac 1 Z<|Af Z<|fC [0,0,0,0,2,0,2,0] Z ?_
  have hwk:=PF hwf oM
  refine Ad 2 Z<|AK (hex.isPtr) Z Aa<|AB (p:=ve) 1 BL Z (a2 _<|a0.sub<|B6 hgS) Aa<|Ag (p:=Ap ve 1) (.inr Z) (zI ex.num) AI Z ((a2 _<|a0.sub<|B6 hgS).ld (i:=1) Ev) Aa<|AE (v:=vv) ((ex.num).toNat) Cb Bo Z Z henv.slL oM sD Aa ?_
  obtain⟨ba,d5,br⟩:=RN.getL (w:=w) g1 [] (k:=(ex.num).toNat) henv sD
  have bs:=br.lenL
  unfold maxLen at bs
  exact Ag (p:=AA vv ((ex.num).toNat) 1) (.inr Z) ba Bx Z (d5 _<|a0.sub<|B6 hgS) Aa<|Ac 1 Z<|A1<|AL<|Ao<|Ah [6] Z ba Z ⟨ba,env.getD ((ex.num).toNat) [],s0+1,c0,rfl,a0,a7,br.chg g1<|a0.sub<|B6 hgS,(by exact hse _ oM),oM,oM,(by exact EP hc00 hs1 oM)⟩
 refine As false Z Z (A6 bq) Aa<|Ac 1 Z<|Aj Z<|fC [0,0] Z ?_
 by_cases bt:ex.kind=((7:Nat):Int)
 ·refine As true Z Z (A5 bt) Aa<|Ac 1 Z<|Af Z<|fC [0,0,0,0,2,0,0,4,3,0] Z ?_
  have hwk:=PH hwf oM
  refine Ad 2 Z<|AK (hex.isPtr) Z Aa<|AB (p:=ve) 4 AY Z (a2 _<|a0.sub<|B6 hgS) Aa<|Ag (p:=Ap ve 4) (.inr Z) a1 B7 Z ((a2 _<|a0.sub<|B6 hgS).ld (i:=4) Ev) Aa<|AE (v:=a1) 0 Cc B3 Z Z a3.rn.isSl Z sD Aa<|Ad 1 Z ?_
  refine AH 221 [] [] [zP g,AA a1 0 5,vv] Z Z I8 Aa (IH2 dd12 oM _ S g pp dp (n) (s0+1) (c0) (p) (AA a1 0 5) (ex.kids.getD 0 Ex.zero) vv (env) (fun b hb=>(by have:=hS b hb;omega:b<f1.heap.size)) hgS a7 (hp.chg (Bg<|AZ dp)<|a0.sub<|B6 hgS) oM oM oM (RN.ptr (Ay dd12) (by decide) Ex.zero (a3.rn.chg (An<|Ay dd12)<|a0.sub<|B6 hgS) sD) (henv.chg g2<|a0.sub<|B6 hgS) hqenv hvp oM Jp hse Od) ?_
  rintro l3 jx ⟨jy,jz,k0,k1,rfl,bu,d6,bv,bw,ee,ef,eg⟩
  refine⟨_,rfl,?_⟩
  have eh:=bu.size
  have d7:Ax [g] w jx:=a0.trans bu
  have ei:=bw.1
  refine At 165 [] [] [jy,zI ((1000002:Nat):Int)] Z Z XX Aa (HD _ _ _ _ (bv).rd oM oM) ?_
  rintro l4 k2 ⟨b2,rfl,aj,bb⟩
  refine⟨_,rfl,aj,?_⟩
  have ej:=aj.size
  have d8:Ax [g] w k2:=d7.ext aj
  have ao:=d6.ext aj
  have ir:=bv.ext g1 aj
  exact Ac 1 Z<|A1<|AL<|Ao<|Ah [6] Z b2 Z ⟨b2,scl jz ((1000002:Nat):Int),k0,k1,rfl,d8,ao,RN.of_fr1 bb fun b hb=>zH<|hS b hb,(by rw[Qe];exact LC (by assumption)),oM,oM,(by exact Hj hc00 hs1 oM (Z6 oM ‹AN (go c0<|Cm _ _ (ex.kids.getD 0 _) _ _) _ _ _›) (fun h0=>by rw[h0,Qe];exact Gu oM) (fun _=>rfl))⟩
 refine As false Z Z (A6 bt) Aa<|Ac 1 Z<|Aj Z<|fC [0,0] Z ?_
 by_cases bx:ex.kind=((8:Nat):Int)
 ·refine As true Z Z (A5 bx) Aa<|Ac 1 Z<|Af Z<|A0<|fC [0,0,0,0,2,0,0,4,0,2,0] Z ?_
  have hwk:=T3 hwf oM
  refine Ad 2 Z<|AK (hex.isPtr) Z Aa<|AB (p:=ve) 4 AY Z (a2 _<|a0.sub<|B6 hgS) Aa<|Ag (p:=Ap ve 4) (.inr Z) a1 B7 Z ((a2 _<|a0.sub<|B6 hgS).ld (i:=4) Ev) Aa<|AE (v:=a1) 0 Cc B3 Z Z a3.rn.isSl Z sD Aa<|Ad 1 Z ?_
  refine AH 221 [] [] [zP g,AA a1 0 5,vv] Z Z I8 Aa (IH2 dd12 oM _ S g pp dp (n) (s0+1) (c0) (p) (AA a1 0 5) (ex.kids.getD 0 Ex.zero) vv (env) (fun b hb=>(by have:=hS b hb;omega:b<f1.heap.size)) hgS a7 (hp.chg (Bg<|AZ dp)<|a0.sub<|B6 hgS) oM oM oM (RN.ptr (Ay dd12) (by decide) Ex.zero (a3.rn.chg (An<|Ay dd12)<|a0.sub<|B6 hgS) sD) (henv.chg g2<|a0.sub<|B6 hgS) hqenv hvp oM Jp hse Od) ?_
  rintro l5 fx ⟨jg,jh,ji,jj,rfl,bz,c3,ap,c4,ek,el,en⟩
  refine⟨_,rfl,?_⟩
  have eo:=bz.size
  have a5:Ax [g] w fx:=a0.trans bz
  have ep:=c4.1
  refine AE (v:=jg) 0 BQ Ck Z Z ap.slL Z sD Aa ?_
  have d9:=RN.getI (w:=fx) (k:=0) ap sD
  refine Ag (p:=AA jg 0 1) (.inr Z) (zI<|jh.getD 0 0) AI Z (d9.1 _<|Ax.refl _ _) Aa ?_
  by_cases c5:jh.getD 0 0=((0:Nat):Int)
  ·refine As true Z Z (A5 c5) Aa<|Ai<|Af Z<|fC [0,0,0,0,2,0,0,4,0] Z<|Ad 2 Z<|AK (hex.isPtr) Z Aa<|AB (p:=ve) 4 AY Z (a2 _<|a5.sub<|B6 hgS) Aa<|Ag (p:=Ap ve 4) (.inr Z) a1 B7 Z ((a2 _<|a5.sub<|B6 hgS).ld (i:=4) Ev) Aa<|AE (v:=a1) 1 Cc B3 Z Z a3.rn.isSl Z sD Aa ?_
   refine Ad 1 Z ?_
   refine AH 221 [] [] [zP g,AA a1 1 5,vv] Z Z I8 Aa (IH2 dd12 oM _ S g pp dp (n) (ji) (jj) (p) (AA a1 1 5) (ex.kids.getD 1 Ex.zero) vv (env) (fun b hb=>(by have:=hS b hb;omega:b<fx.heap.size)) hgS c3 (hp.chg (Bg<|AZ dp)<|a5.sub<|B6 hgS) oM oM oM (RN.ptr (Ay dd12) (by decide) Ex.zero (a3.rn.chg (An<|Ay dd12)<|a5.sub<|B6 hgS) sD) (henv.chg g2<|a5.sub<|B6 hgS) hqenv hvp oM Jp hse (zH<|DB (l:=ex.kids) (k:=1) oM)) ?_
   rintro l6 k3 ⟨jk,k4,k5,k6,rfl,bc,da,db,c6,eq,er,es⟩
   refine⟨_,rfl,?_⟩
   have et:=bc.size
   have dc:Ax [g] w k3:=a5.trans bc
   have is:=ap.run g1 hgS bc
   have eu:=c6.1
   exact Ac 1 Z<|A1<|Ao<|AL<|Ao<|Ah [6] Z jk Z ⟨jk,k4,k5,k6,rfl,dc,da,db,(by assumption),oM,oM,V5⟩
  refine As false Z Z (A6 c5) Aa<|Ai<|Aj Z<|A2<|fC [0,0,0,0,2,0,0,4,0] Z<|Ad 2 Z<|AK (hex.isPtr) Z Aa<|AB (p:=ve) 4 AY Z (a2 _<|a5.sub<|B6 hgS) Aa<|Ag (p:=Ap ve 4) (.inr Z) a1 B7 Z ((a2 _<|a5.sub<|B6 hgS).ld (i:=4) Ev) Aa ?_
  refine AE (v:=a1) 2 Cc B3 Z Z a3.rn.isSl Z sD Aa<|Ad 1 Z ?_
  refine AH 221 [] [] [zP g,AA a1 2 5,vv] Z Z I8 Aa (IH2 dd12 oM _ S g pp dp (n) (ji) (jj) (p) (AA a1 2 5) (ex.kids.getD 2 Ex.zero) vv (env) (fun b hb=>(by have:=hS b hb;omega:b<fx.heap.size)) hgS c3 (hp.chg (Bg<|AZ dp)<|a5.sub<|B6 hgS) oM oM oM (RN.ptr (Ay dd12) (by decide) Ex.zero (a3.rn.chg (An<|Ay dd12)<|a5.sub<|B6 hgS) sD) (henv.chg g2<|a5.sub<|B6 hgS) hqenv hvp oM Jp hse (zH<|DB (l:=ex.kids) (k:=2) oM)) ?_
  rintro l7 k7 ⟨jl,k8,k9,ka,rfl,bd,dd,de,c8,ev,ew,ey⟩
  refine⟨_,rfl,?_⟩
  have ez:=bd.size
  have df:Ax [g] w k7:=a5.trans bd
  have it:=ap.run g1 hgS bd
  have g0:=c8.1
  exact Ac 1 Z<|A1<|AL<|Ao<|Ah [6] Z jl Z ⟨jl,k8,k9,ka,rfl,df,dd,de,(by assumption),oM,oM,V5⟩
 refine As false Z Z (A6 bx) Aa<|Ac 1 Z<|Aj Z<|fC [0,0] Z ?_
 by_cases c9:ex.kind=((9:Nat):Int)
 ·refine As true Z Z (A5 c9) Aa<|Ac 1 Z<|Af Z<|fC [0,0,0,0,2,0,0,4,0] Z ?_
  have hwk:=PG hwf oM
  refine Ad 2 Z<|AK (hex.isPtr) Z Aa<|AB (p:=ve) 4 AY Z (a2 _<|a0.sub<|B6 hgS) Aa<|Ag (p:=Ap ve 4) (.inr Z) a1 B7 Z ((a2 _<|a0.sub<|B6 hgS).ld (i:=4) Ev) Aa<|AE (v:=a1) 0 Cc B3 Z Z a3.rn.isSl Z sD Aa<|Ad 1 Z ?_
  refine AH 221 [] [] [zP g,AA a1 0 5,vv] Z Z I8 Aa (IH2 dd12 oM _ S g pp dp (n) (s0+1) (c0) (p) (AA a1 0 5) (ex.kids.getD 0 Ex.zero) vv (env) (fun b hb=>(by have:=hS b hb;omega:b<f1.heap.size)) hgS a7 (hp.chg (Bg<|AZ dp)<|a0.sub<|B6 hgS) oM oM oM (RN.ptr (Ay dd12) (by decide) Ex.zero (a3.rn.chg (An<|Ay dd12)<|a0.sub<|B6 hgS) sD) (henv.chg g2<|a0.sub<|B6 hgS) hqenv hvp oM Jp hse Od) ?_
  rintro l8 jm ⟨jn,jo,kb,kc,rfl,ca,dg,cb,cc,g3,g4,g5⟩
  refine⟨_,rfl,?_⟩
  have g6:=ca.size
  have aq:Ax [g] w jm:=a0.trans ca
  have g7:=cc.1
  refine Ac 1 Z<|A0<|AQ _ [0,0,0,0,1,0,0,0,3,4,0] mixed (by kernel_rfl)<|Ad 2 Z<|AK (hex.isPtr) Z Aa<|AB (p:=ve) 4 AY Z (a2 _<|aq.drew.sub<|B6 hgS) Aa<|Ag (p:=Ap ve 4) (.inl Z) a1 B7 Z ((a2 _<|aq.drew.sub<|B6 hgS).ld (i:=4) Ev) Aa<|AE (v:=a1) 1 Cc B3 Z Z a3.rn.isSl Z sD Aa<|Ad 2 Z ?_
  refine At 251 [] [] [vv,jn] Z Z cM Aa (MS _ S vv (env) jn (jo) (fun b hb=>(by have:=hS b hb;omega:b<jm.heap.size)) (henv.chg g2<|aq.drew.sub<|B6 hgS) hqenv cb oM) ?_
  rintro l9 jp ⟨jq,rfl,ab,cd,ce⟩
  refine⟨_,rfl,ab,?_⟩
  replace ab:=ab.of_drew
  have g8:=ab.size
  have be:Ax [g] w jp:=aq.ext ab
  have ar:=dg.ext ab
  have dh:=cb.ext g1 ab
  refine AH 221 [] [] [zP g,AA a1 1 5,jq] Z Z I8 Aa (IH2 dd12 oM _ S g pp dp (n) (kb) (kc) (p) (AA a1 1 5) (ex.kids.getD 1 Ex.zero) jq (env++[jo]) (fun b hb=>(by have:=hS b hb;omega:b<jp.heap.size)) hgS ar (hp.chg (Bg<|AZ dp)<|be.sub<|B6 hgS) oM oM oM (RN.ptr (Ay dd12) (by decide) Ex.zero (a3.rn.chg (An<|Ay dd12)<|be.sub<|B6 hgS) sD) cd ce hvp oM (by have h9:=Kg hwf oM oM;rw[z4,zd];exact h9) (by exact hse.snoc (by assumption)) (by have:=DB (l:=ex.kids) (k:=1) oM;rw[z4,zd];omega)) ?_
  rintro la kd ⟨jr,ke,kf,kg,rfl,au,di,dj,cf,g9,ga,gb⟩
  refine⟨_,rfl,?_⟩
  have gc:=au.size
  have dk:Ax [g] w kd:=be.trans au
  have iu:=dh.run g1 hgS au
  have iv:=cd.run g2 hgS au
  have gd:=cf.1
  exact Ac 1 Z<|A1<|AL<|Ao<|Ah [6] Z jr Z ⟨jr,ke,kf,kg,rfl,dk,di,dj,(by assumption),oM,oM,(by exact ES hc00 hs1 oM oM ‹AN (go c0<|Cm _ _ (ex.kids.getD 0 _) _ _) _ _ _› (by assumption))⟩
 refine As false Z Z (A6 c9) Aa<|Ac 1 Z<|Aj Z<|A0<|fC [0,0] Z ?_
 by_cases cg:ex.kind=((10:Nat):Int)
 ·refine As true Z Z (A5 cg) Aa<|Ac 1 Z<|Af Z<|A2<|Af Z<|fC [0,0,0,4,0] Z<|Ad 3 Z<|AH 252 [] [] [zP g,ve,vv] Z Z Y8 Aa (V4 F dex IH1 IH2 _ S g pp dp (n) (s0+1) (c0) (p) ve (ex) vv (env) (fun b hb=>(by have:=hS b hb;omega:b<f1.heap.size)) hgS a7 (hp.chg (Bg<|AZ dp)<|a0.sub<|B6 hgS) oM oM oM (hex.chg (Bg<|Ay dex)<|a0.sub<|B6 hgS) (henv.chg g2<|a0.sub<|B6 hgS) hqenv hvp oM hwf hse oM oM) ?_
  rintro lb kh ⟨js,ki,kj,kk,rfl,ch,dl,dm,ci,ge,gf,gg⟩
  refine⟨_,rfl,?_⟩
  have gh:=ch.size
  have dn:Ax [g] w kh:=a0.trans ch
  have gi:=ci.1
  exact Ac 1 Z<|A1<|AL<|Ao<|Ah [6] Z js Z ⟨js,ki,kj,kk,rfl,dn,dl,dm,(by assumption),oM,oM,(by exact Nf hc00 hs1 oM (by assumption))⟩
 refine As false Z Z (A6 cg) Aa<|Ac 1 Z<|Aj Z<|Ab _ [0,0] Z ?_
 by_cases cj:ex.kind=((11:Nat):Int)
 ·refine As true Z Z (A5 cj) Aa<|Ac 1 Z<|Af Z<|fC [0,0,0,4,0] Z<|Ad 3 Z<|AH 252 [] [] [zP g,ve,vv] Z Z Y8 Aa (V4 F dex IH1 IH2 _ S g pp dp (n) (s0+1) (c0) (p) ve (ex) vv (env) (fun b hb=>(by have:=hS b hb;omega:b<f1.heap.size)) hgS a7 (hp.chg (Bg<|AZ dp)<|a0.sub<|B6 hgS) oM oM oM (hex.chg (Bg<|Ay dex)<|a0.sub<|B6 hgS) (henv.chg g2<|a0.sub<|B6 hgS) hqenv hvp oM hwf hse oM oM) ?_
  rintro lc kl ⟨jt,km,ko,kp,rfl,ck,dq,dr,cl,gj,gk,gl⟩
  refine⟨_,rfl,?_⟩
  have gm:=ck.size
  have ds:Ax [g] w kl:=a0.trans ck
  have gn:=cl.1
  exact Ac 1 Z<|A1<|AL<|Ao<|Ah [6] Z jt Z ⟨jt,km,ko,kp,rfl,ds,dq,dr,(by assumption),oM,oM,(by exact Nf hc00 hs1 oM (by assumption))⟩
 refine As false Z Z (A6 cj) Aa<|Ac 1 Z<|Aj Z<|A2<|fC [0,0,0,0,2,0,0,4,0] Z ?_
 have hkk:ex.kind=3∨ex.kind=4∨ex.kind=5∨ex.kind=6:=YO hwf oM
 have j4:ex.kids.length=2:=Kh hwf hkk
 have j5:=DB (l:=ex.kids) (k:=0) oM
 have j6:=DB (l:=ex.kids) (k:=1) oM
 refine Ad 2 Z<|AK (hex.isPtr) Z Aa<|AB (p:=ve) 4 AY Z (a2 _<|a0.sub<|B6 hgS) Aa<|Ag (p:=Ap ve 4) (.inr Z) a1 B7 Z ((a2 _<|a0.sub<|B6 hgS).ld (i:=4) Ev) Aa<|AE (v:=a1) 0 Cc B3 Z Z a3.rn.isSl Z sD Aa<|Ad 1 Z ?_
 refine AH 221 [] [] [zP g,AA a1 0 5,vv] Z Z I8 Aa (IH2 dd12 oM _ S g pp dp (n) (s0+1) (c0) (p) (AA a1 0 5) (ex.kids.getD 0 Ex.zero) vv (env) (fun b hb=>(by have:=hS b hb;omega:b<f1.heap.size)) hgS a7 (hp.chg (Bg<|AZ dp)<|a0.sub<|B6 hgS) oM oM oM (RN.ptr (Ay dd12) (by decide) Ex.zero (a3.rn.chg (An<|Ay dd12)<|a0.sub<|B6 hgS) sD) (henv.chg g2<|a0.sub<|B6 hgS) hqenv hvp oM Jp hse Od) ?_
 rintro lf ju ⟨j8,j9,kq,kr,rfl,cm,dt,du,b3,gp,gq,cn⟩
 refine⟨_,rfl,?_⟩
 have gr:=cm.size
 have af:Ax [g] w ju:=a0.trans cm
 have gs:=b3.1
 have hra:=cn
 have co:=b3
 refine Ac 1 Z<|fC [0,0,0,0,2,0,0,4,0] Z<|Ad 2 Z<|AK (hex.isPtr) Z Aa<|AB (p:=ve) 4 AY Z (a2 _<|af.sub<|B6 hgS) Aa<|Ag (p:=Ap ve 4) (.inr Z) a1 B7 Z ((a2 _<|af.sub<|B6 hgS).ld (i:=4) Ev) Aa<|AE (v:=a1) 1 Cc B3 Z Z a3.rn.isSl Z sD Aa<|Ad 1 Z ?_
 refine AH 221 [] [] [zP g,AA a1 1 5,vv] Z Z I8 Aa (IH2 dd12 oM _ S g pp dp (n) (kq) (kr) (p) (AA a1 1 5) (ex.kids.getD 1 Ex.zero) vv (env) (fun b hb=>(by have:=hS b hb;omega:b<ju.heap.size)) hgS dt (hp.chg (Bg<|AZ dp)<|af.sub<|B6 hgS) oM oM oM (RN.ptr (Ay dd12) (by decide) Ex.zero (a3.rn.chg (An<|Ay dd12)<|af.sub<|B6 hgS) sD) (henv.chg g2<|af.sub<|B6 hgS) hqenv hvp oM Jp hse (zH<|DB (l:=ex.kids) (k:=1) oM)) ?_
 rintro lg ja ⟨f9,f2,fe,f3,rfl,bf,ac,a6,b4,gt,gu,cp⟩
 refine⟨_,rfl,?_⟩
 have gv:=bf.size
 have a4:Ax [g] w ja:=af.trans bf
 have a8:=du.run g1 hgS bf
 have cq:=b4.1
 have hrb:=cp
 have j7:=b4
 have hlb:=cq
 have hzz:f2.getD 0 0=0∨¬f2.getD 0 0=0:=Decidable.em _
 refine Ac 1 Z<|A0<|A3<|fC [0,0,0,2,0,0] Z<|Ad 1 Z<|AK (hex.isPtr) Z Aa<|AB (p:=ve) 0 Bn Z (a2 _<|a4.sub<|B6 hgS) Aa<|Ag (p:=Ap ve 0) (.inr Z) (zI ex.kind) AI Z ((a2 _<|a4.sub<|B6 hgS).ld (i:=0) Ev) Aa ?_
 by_cases cr:ex.kind=((3:Nat):Int)
 ·refine As true Z Z (A5 cr) Aa<|Ac 1 Z<|Af Z<|fC [0,0,3,0] Z<|Ad 2 Z<|At 253 [] [] [j8,f9] Z Z Y9 Aa (IU _ _ _ _ _ (a8).rd (a6).rd oM oM) ?_
  rintro lh ks ⟨b5,rfl,ag,bg⟩
  refine⟨_,rfl,ag,?_⟩
  have gw:=ag.size
  have dv:Ax [g] w ks:=a4.ext ag
  have av:=ac.ext ag
  have iw:=a8.ext g1 ag
  have ix:=a6.ext g1 ag
  exact Ac 1 Z<|A1<|AL<|Ao<|Ah [6] Z b5 Z ⟨b5,Ee j9 f2,fe,f3,rfl,dv,av,RN.of_fr1 bg fun b hb=>zH<|hS b hb,(by exact GS co),oM,oM,(by exact Hj hc00 hs1 oM (Ko oM hra hrb) (fun h0=>by rw[h0];exact Gr oM) (fun _=>rfl))⟩
 refine As false Z Z (A6 cr) Aa<|Ac 1 Z<|Aj Z<|fC [0,0,0,2,0,0] Z<|Ad 1 Z<|AK (hex.isPtr) Z Aa<|AB (p:=ve) 0 Bn Z (a2 _<|a4.sub<|B6 hgS) Aa<|Ag (p:=Ap ve 0) (.inr Z) (zI ex.kind) AI Z ((a2 _<|a4.sub<|B6 hgS).ld (i:=0) Ev) Aa ?_
 by_cases cs:ex.kind=((4:Nat):Int)
 ·refine As true Z Z (A5 cs) Aa<|Ac 1 Z<|Af Z<|fC [0,0,3,0] Z<|Ad 2 Z<|At 254 [] [] [j8,f9] Z Z cN Aa (MP _ _ _ _ _ (a8).rd (a6).rd oM oM oM) ?_
  rintro li kt ⟨b6,rfl,ah,bh⟩
  refine⟨_,rfl,ah,?_⟩
  have gx:=ah.size
  have dw:Ax [g] w kt:=a4.ext ah
  have aw:=ac.ext ah
  have iy:=a8.ext g1 ah
  have iz:=a6.ext g1 ah
  exact Ac 1 Z<|A1<|AL<|Ao<|Ah [6] Z b6 Z ⟨b6,FB j9 f2,fe,f3,rfl,dw,aw,RN.of_fr1 bh fun b hb=>zH<|hS b hb,(by exact LB co),oM,oM,(by exact Hj hc00 hs1 oM (Ko oM hra hrb) (fun h0=>by rw[h0];exact Gs oM) (fun _=>rfl))⟩
 refine As false Z Z (A6 cs) Aa<|Ac 1 Z<|Aj Z<|fC [0,0,0,2,0,0] Z<|Ad 1 Z<|AK (hex.isPtr) Z Aa<|AB (p:=ve) 0 Bn Z (a2 _<|a4.sub<|B6 hgS) Aa<|Ag (p:=Ap ve 0) (.inr Z) (zI ex.kind) AI Z ((a2 _<|a4.sub<|B6 hgS).ld (i:=0) Ev) Aa ?_
 by_cases ct:ex.kind=((5:Nat):Int)
 ·refine As true Z Z (A5 ct) Aa<|Ac 1 Z<|Af Z<|fC [0,0,3,0] Z<|Ad 2 Z<|At 255 [] [] [j8,f9] Z Z cO Aa (MQ _ _ _ _ _ (a8).rd (a6).rd oM oM) ?_
  rintro lj ku ⟨b7,rfl,ai,bi⟩
  refine⟨_,rfl,ai,?_⟩
  have gy:=ai.size
  have dx:Ax [g] w ku:=a4.ext ai
  have ax:=ac.ext ai
  have j0:=a8.ext g1 ai
  have j1:=a6.ext g1 ai
  exact Ac 1 Z<|A1<|AL<|Ao<|Ah [6] Z b7 Z ⟨b7,Ct j9 f2,fe,f3,rfl,dx,ax,RN.of_fr1 bi fun b hb=>zH<|hS b hb,(by exact GT co),oM,oM,(by exact Hj hc00 hs1 oM (Ko oM hra hrb) (fun h0=>by rw[h0];exact Gt oM) (fun _=>rfl))⟩
 refine As false Z Z (A6 ct) Aa<|Ac 1 Z<|Aj Z<|fC [0,0,0,2,0,0,0,0,2,0,0,0] Z<|Ad 1 Z<|B9 Z Aa<|Al (p:=zP g) 3 Hp Z Z Aa<|Ag (p:=Ap (zP g) 3) (.inr Z) (zI f3) AI Z (ac.ldp (i:=3) sM) Aa ?_
 by_cases cu:f3≠((0:Nat):Int)
 ·refine AT true Z Z (A5 cu) Aa<|Ac 7 Z<|Af Z<|fC [0,4,0] Z<|Ad 1 Z<|AH 250 [] [] [zP g,zI ((6:Nat):Int)] Z Z RC Aa (Dd _ S g pp dp (n) (fe) (f3) (p) ((6:Nat):Int) (fun b hb=>(by have:=hS b hb;omega:b<ja.heap.size)) hgS ac (hp.chg (Bg<|AZ dp)<|a4.sub<|B6 hgS) oM oM oM oM oM) ?_
  rintro lk kv ⟨jv,kw,kx,ky,rfl,ay,dy,dz,cv,gz,i0,b8⟩
  refine⟨_,rfl,?_⟩
  have i1:=ay.size
  have e0:Ax [g] w kv:=a4.trans ay
  have i2:=a8.run g1 hgS ay
  have i3:=a6.run g1 hgS ay
  have i4:=cv.1
  have hfs:=b8.1
  have hff:=b8.2
  exact Ac 1 Z<|A1<|AL<|Ao<|Ah [6] Z jv Z ⟨jv,kw,kx,ky,rfl,e0,dy,dz,(by assumption),oM,oM,(by rw[hfs];exact Hj hc00 hs1 oM (Ko oM hra hrb) (fun h0=>absurd h0 oM) (fun h0=>by rw[hff,if_neg h0]))⟩
 refine AT false Z Z (A6 cu) Aa<|Ad 2 Z<|AE (v:=f9) 0 BQ Ck Z Z a6.slL Z (by rw[hlb];omega) (Ae (e:=175) Z Z Z) ?_
 have cw:=RN.getI (w:=ja) (k:=0) a6 (by rw[hlb];omega)
 refine Ag (p:=AA f9 0 1) (.inr Z) (zI<|f2.getD 0 0) AI Z (cw.1 _<|Ax.refl _ _) (Ae (e:=175) Z Z Z) ?_
 by_cases b9:f2.getD 0 0=((0:Nat):Int)
 ·refine As true Z Z (A5 b9) (Ae (e:=175) Z Z Z)<|Ac 2 Z<|Af Z<|fC [0,4,0] Z<|Ad 1 Z<|AH 250 [] [] [zP g,zI ((6:Nat):Int)] Z Z RC Aa (Dd _ S g pp dp (n) (fe) (f3) (p) ((6:Nat):Int) (fun b hb=>(by have:=hS b hb;omega:b<ja.heap.size)) hgS ac (hp.chg (Bg<|AZ dp)<|a4.sub<|B6 hgS) oM oM oM oM oM) ?_
  rintro kz jb ⟨fs,jc,jd,je,rfl,ad,cx,cy,bj,e1,e3,ak⟩
  refine⟨_,rfl,?_⟩
  have e4:=ad.size
  have cz:Ax [g] w jb:=a4.trans ad
  have i5:=a8.run g1 hgS ad
  have i6:=a6.run g1 hgS ad
  have e5:=bj.1
  have hfs:=ak.1
  have hff:=ak.2
  exact Ac 1 Z<|A1<|AL<|Ao<|Ah [6] Z fs Z ⟨fs,jc,jd,je,rfl,cz,cx,cy,(by assumption),oM,oM,(by rw[hfs];exact Hj hc00 hs1 oM (Ko oM hra hrb) (fun h0=>by rw[hff,if_pos h0];exact ET (xs:=[_,_]) oM (hzz.resolve_right oM)) (fun h0=>by rw[hff,if_neg h0]))⟩
 refine As false Z Z (A6 b9) (Ae (e:=175) Z Z Z)<|Ac 2 Z<|Aj Z<|A2<|fC [0,0,3,0] Z<|Ad 2 Z<|At 256 [] [] [j8,f9] Z Z cP Aa (MR _ _ _ _ _ (a8).rd (a6).rd oM oM oM co.2) ?_
 rintro l0 jf ⟨al,rfl,a9,az⟩
 refine⟨_,rfl,a9,?_⟩
 have e6:=a9.size
 have d0:Ax [g] w jf:=a4.ext a9
 have am:=ac.ext a9
 have i7:=a8.ext g1 a9
 have i8:=a6.ext g1 a9
 exact Ac 1 Z<|A1<|Ah [6] Z al Z ⟨al,C3 j9 f2,fe,f3,rfl,d0,am,RN.of_fr1 az fun b hb=>zH<|hS b hb,(by exact FO co),oM,oM,(by exact Hj hc00 hs1 oM (Ko oM hra hrb) (fun h0=>by rw[h0];exact Gv (xs:=[_,_]) oM (hzz.resolve_left oM)) (fun _=>rfl))⟩
theorem Xh:∀F d,SV F d:=by
  intro F
  induction F using Nat.strongRecOn with
  |_ F ihF =>
    intro d
    induction d using Nat.strongRecOn with
    |_ d ihd =>
      intro w S g pp dp n s0 c0 p ve ex vv env hS hgS hB0 hp hn hs0 hc0 hex henv hqenv hvp hF hwf hse hdp
      exact Jq w S F g pp dp n s0 c0 p d ve ex vv env hS hgS hB0 hp hn hs0 hc0 hex henv hqenv hvp hF hwf hse hdp ihF ihd
theorem ZA (F:Nat):SO F:=V2 F fun d=>Xh F d
theorem Ym {p:Prop}(h:p:=by unfold maxLen;first|omega|assumption|(simp only[zb,z9,z4,z6,z5];omega)|(simp[zb,z9,z4,z6,z5];done)|(simp[zb,z9,z4,z6,z5];omega)):p:=h
theorem Mq (w:World)(dp:Nat)(vp:Value)(p:List Fn)(f:Int)(va:Value)(a:Sr)(hp:RN [] (rP (KS dp)) w.heap vp p)(_hf:BG f)(ha:Rd (Bd rI) w.heap va a)(hvp:Hz p)(hf:0≤f∧f<(p.length:Int))(hl:(a.length:Int)=(p.getD f.toNat Fn.zero).params)(hna:Bb a=true) :
  Calls Tryz.prog 75 #[vp,zI f,va] w (fun e w'=>∃v0:Value,e=.returned (.tuple #[v0,zI ((J8 p 1 f.toNat (BB a):Nat):Int),zI (FS p f.toNat a)])∧AD w w'∧Fr (BA rI 2) w.heap.size w'.heap.size w'.heap v0 (Lh p f.toNat a)∧TA p f.toNat a∧J8 p 1 f.toNat (BB a)≤3000):=by
 refine Au [vp,zI f,va] 73 Tryz.func75 Z Z sM ?_
 have cb:AD w w:=AD.refl w
 have dh:=ha.lenle
 have dt:=hvp.par f.toNat oM
 have du:=hvp.outs f.toNat oM
 refine fC [0,0,0] Z<|Ac 3 Z<|fC [0,0,3,0] Z<|Ad 1 Z ?_
 have bm:∀(vp:Value) (ap:∃b o,vp=.pointer (some ⟨b,o,none⟩)) (wq:World),(Instr.build 187 #[(0,vp),(1,zI ((1:Nat):Int))]).run Tryz.prog wq=.ok (.agg #[vp,zI ((1:Nat):Int),zI 0,zI 0]) wq:=by intro vp ap wq;obtain⟨b0,o0,rfl⟩:=ap;kernel_rfl
 refine Bh (ps:=#[(0,vp),(1,zI ((1:Nat):Int))]) (.agg #[vp,zI ((1:Nat):Int),zI 0,zI 0]) (by simp only[zc,zf,zh];rfl) (fun wq=>bm vp hp.isPtr wq) Aa (Bv (cs:=#[vp,zI ((1:Nat):Int),zI 0,zI 0]) Z Aa fun w2 bn ct bo=>?_)
 have bp:=bn.size
 have bq:=cb.trans bn
 replace bo:BX w2.heap w.heap.size [vp,zI ((1:Nat):Int),zI 0,zI 0]:=bo
 refine Ac 1 Z<|fC [3,0] Z (Dy (BA rI 2) o1 Cb Bo Aa fun v3 w3 bj cu cc=>?_)
 have br:=bj.size
 have cd:=bq.trans bj
 have b3:=bo.ext bj
 refine Ac 1 Z<|A0<|fE Z<|A3 ?_
 refine AW (S:=Nat×Value) (fun⟨k,vo⟩=>([(10,vo),(11,zI (k:Int)),(0,vp),(1,zI f),(2,va),(9,zP w.heap.size)])) (fun⟨k,vo⟩ W=>AD w W∧Fr (BA (BA rI 2) 27) w2.heap.size W.heap.size W.heap vo ((a.take k).map fun x=>[x])∧BX W.heap w.heap.size [vp,zI ((1:Nat):Int),zI 0,zI 0]∧k≤a.length∧w.heap.size<w2.heap.size∧w2.heap.size≤W.heap.size) (fun⟨k,vo⟩=>a.length-k) (0,v3) ⟨rfl,rfl,rfl,rfl,rfl,rfl,trivial⟩ ⟨cd,cc.up o2,b3,sD,oM,oM⟩ ?_
 clear cb ct bn cc cu bj br cd
 rintro⟨k,vo⟩ ρ5 w5 ⟨ag,a0,a2,ce,cv,cw⟩
 have bs:w.heap.size≤w5.heap.size:=ag.size
 have d9:=a2.lt
 refine A0<|fC [0,0,0,0] Z<|Ad 2 Z<|AS (v:=va) BQ Z ha.isSl Aa ?_
 by_cases cf:(k:Int)<(a.length:Int)
 ·refine AJ true Z Z (A5 cf) Aa<|Ai<|Af Z<|A2<|A0<|A3<|Ab _ [0,0,0,0,2,3,3,4,0] Z<|Ad 3 Z<|AE (v:=va) k BQ Ck Z Z ha.isSl Z sD Aa ?_
  refine Ag (p:=AA va k 1) (.inr Z) (zI<|a.getD k 0) AI Z (Bp ag (ha.getI sD).1) Aa ?_
  refine Cd (u:=zI<|a.getD k 0) (B:=w5.heap.size) B1 BQ Ck Z Z (Qp w5.heap.size w5.heap.size _ _ (ha.getI sD).2) (A7 _) Aa fun v9 w9 bk da cx=>?_
  have cy:=bk.size
  have cz:=ag.trans bk
  have ah:=a0.ext (o2) bk
  have ai:=a2.ext bk
  refine Cd (u:=v9) (B:=w5.heap.size) o1 Cb Bo Z Z cx (by first|exact A7 _|omega) Aa fun dj dv aj d0 bt=>?_
  have cg:=aj.size
  have b4:=cz.trans aj
  have aa:=ah.ext (o2) aj
  have ab:=ai.ext aj
  refine Kc o1 (v:=vo) (a:=dj) Cb Bo Z Z Z aa oM bt oM oM sD Ym Aa fun dk dm dw aw b5 bu=>?_
  have bv:AD w dm:=aw.below b4 (fun c hc=>A8 bq.size (b5 c hc).1) b4.size
  have ch:=aw.size
  have bw:=ab.chg aw fun hm=>zH<|b5 _ hm
  refine Ac 1 Z<|Ab _ [0,0,0] Z<|Ad 1 Z<|AR ((k+1:Nat):Int) Z Z (Bl oM sD) Aa<|Ac 1 Z ?_
  exact⟨(k+1,dk),_,rfl,zR,⟨bv,(by rw[HZ 0 oM];exact bu.up o2),bw,sD,oM,oM⟩,zD⟩
 refine AJ false Z Z (A6 cf) Aa<|Ai<|Aj Z<|A4<|Az<|Az<|Aw<|fC [0,0,0,0,2,0,0,0,4,0] Z ?_
 have henv:(a.take k).map (fun x=>[x])=BB a:=by rw[za oM];rfl
 have hle:((a.take k).map (fun x=>[x])).length=a.length:=by rw[henv];unfold BB;rw[zg]
 refine Ad 2 Z<|AK (hp.isPtr) Z Aa ?_
 obtain⟨cs13,bx,b6⟩:=RN.at (AZ _) hp
 obtain⟨ak,rfl,ax⟩:=RPr.of bx
 have aq:=ax.lenle
 unfold maxLen at aq
 refine AB (p:=vp) 0 B8 Z (b6 _<|Ax.of_ext [] ag) Aa<|Ag (p:=Ap vp 0) (.inr Z) ak Bt Z ((b6 _<|Ax.of_ext [] ag).ld (i:=0) (by simp[DT,E2])) Aa<|Ad 1 Z<|AE (v:=ak) ((f).toNat) Du BD Z Z ax.isSl oM sD Aa<|Ad 1 Z ?_
 refine AH 158 [] [] [zP w.heap.size,AA ak ((f).toNat) 3,vo] Z Z XW Aa (ZA f.toNat _ [w.heap.size] w.heap.size vp dp (1) (0) (0) (p) dp (AA ak ((f).toNat) 3) (p.getD ((f).toNat) Fn.zero) vo ((a.take k).map fun x=>[x]) (fun b hb=>(by have:=A9 hb;omega:b<w5.heap.size)) (List.mem_singleton.2 Z) a2 ((hp.add (F:=[w.heap.size]) (Bg<|AZ dp) fun b hb=>zH<|A9 hb).ext (Bg<|AZ dp) ag) oM oM oM (RN.ptr (Av dp) (by decide) Fn.zero ((ax.add (F:=[w.heap.size]) (An<|Av dp) fun b hb=>zH<|A9 hb).ext (An<|Av dp) ag) sD) (RN.of_fr2 a0 fun b hb=>zH<|A9 hb) a0.cap hvp oM (by intro k9 bz;have h9:=hvp.wf f.toNat oM k9 bz;rw[hle];rw[hl];exact h9) (by rw[henv];exact C1 hna) (by intro k9 bz;have:=hvp.deep f.toNat oM k9 bz;omega) oM) ?_
 rintro dx db ⟨dd,dc,dg,de,rfl,al,ay,c0,ac,b7,b8,b9⟩
 refine⟨_,rfl,?_⟩
 have ci:=al.size
 have ad:AD w db:=al.below ag (fun b hb=>by have:b=w.heap.size:=(by simpa using hb);omega) ag.size
 have az:=a0.chg (o2) al fun _ h=>zA h
 have ar:=ac.2.1
 have au:=ac.2.2
 have cj:=ac.1
 have av:=c0.rt g2
 have hRL:=b9
 rw[henv]at hRL
 have hCB:=b8
 have hEP:=Va.mk' hRL hCB b7 ar au
 have hNP:=TA.mk' hEP
 have hST:=hEP.steps
 have hXS:=au
 have hXL:=ar
 refine Ac 1 Z<|A0<|fC [0,0,0,2,0] Z<|Ad 1 Z<|B9 Z Aa<|Al (p:=zP w.heap.size) 3 Hp Z Z Aa<|Ag (p:=Ap (zP w.heap.size) 3) (.inr Z) (zI de) AI Z (ay.ldp (i:=3) sM) Aa ?_
 by_cases ba:de≠((0:Nat):Int)
 ·refine AT true Z Z (A5 ba) Aa<|Ai<|Af Z<|A0<|AQ _ [3,0,0,0,1,0,0,0] mixed (by kernel_rfl) (Dy (rI) B1 BQ Ck Aa fun di dy a4 d1 c1=>?_)
  replace a4:=a4.of_drew
  have ck:=a4.size
  have c2:=ad.trans a4
  have bl:=az.ext (o2) a4
  have d2:=av.ext g2 a4
  exact Ad 1 Z<|B9 Z Aa<|Al (p:=zP w.heap.size) 3 Hp Z Z Aa<|Ag (p:=Ap (zP w.heap.size) 3) (.inl Z) (zI de) AI Z (ay.ldp (i:=3) sM) Aa<|Ac 3 Z<|A1<|Ao<|Ah [6,7,8] Z (.tuple #[di,zI ((0:Nat):Int),zI de]) Z ⟨di,(by rw[QO<|J9 hRL oM,show FS p f.toNat a=_ from FP (J9 hRL oM)] <;> rfl),c2,(by rw[hNP.non (by rw[show FS p f.toNat a=_ from FP (J9 hRL oM)];omega)];exact(c1.up o1).low ad.size),hNP,hST⟩
 refine AT false Z Z (A6 ba) Aa<|Ai<|Aj Z<|A2<|fC [3,0] Z (Dy (rI) B1 BQ Ck Aa fun dn dz a5 c3 bb=>?_)
 have bc:=a5.size
 have bd:=ad.trans a5
 have am:=az.ext (o2) a5
 have an:=ay.ext a5
 have d3:=av.ext g2 a5
 refine Ac 1 Z<|A0<|fE Z<|A3 ?_
 refine AW (S:=Nat×Value) (fun⟨k,vo⟩=>([(13,vo),(14,zI (k:Int)),(9,zP w.heap.size),(12,dd)])) (fun⟨k,vo⟩ W=>AD w W∧Fr (BA rI 2) db.heap.size W.heap.size W.heap vo (((dc).take k).map fun s=>s.getD 0 0)∧BX W.heap w.heap.size [vp,zI ((1:Nat):Int),zI (dg:Int),zI de]∧k≤(dc).length∧RT db.heap.size (Bd<|Bd rI) W.heap dd dc∧db.heap.size≤W.heap.size∧w.heap.size<db.heap.size∧db.heap.size≤db.heap.size∧db.heap.size≤W.heap.size) (fun⟨k,vo⟩=>(dc).length-k) (0,dn) ⟨rfl,rfl,rfl,rfl,trivial⟩ ⟨bd,bb.up o1,an,sD,(by assumption),oM,oM,oM,oM⟩ ?_
 clear bp bq a2 a0 ag bs aq al az bb c3 a5 bc bd am
 rintro⟨k,vo⟩ ρ28 df ⟨b1,ae,a1,c4,a3,cl,cm,cn,co⟩
 have cp:w.heap.size≤df.heap.size:=b1.size
 have d4:=a1.lt
 refine A0<|fC [0,0,0,0] Z<|Ad 2 Z<|AS (v:=dd) Cb Z a3.slL Aa ?_
 by_cases be:(k:Int)<(dc.length:Int)
 ·refine AJ true Z Z (A5 be) Aa<|Ai<|Af Z<|A2<|A0<|A3<|Ab _ [0,0,0,0,2,0,2,3,4,0] Z ?_
  have hkx:=hXS k oM
  have hkl:=hkx.1
  refine Ad 3 Z<|AE (v:=dd) k Cb Bo Z Z a3.slL Z sD Aa ?_
  obtain⟨b2,c5,ao⟩:=RT.getL g1 [] (k:=k) a3 sD
  have bf:=ao.lenL
  unfold maxLen at bf
  refine Ag (p:=AA dd k 1) (.inr Z) b2 Bx Z c5 Aa<|AE (v:=b2) 0 BQ Ck Z Z ao.slL Z sD Aa ?_
  have bg:=RT.getI (k:=0) ao sD
  refine Ag (p:=AA b2 0 1) (.inr Z) (zI<|(dc.getD k []).getD 0 0) AI Z bg.1 Aa (Cd (u:=zI<|(dc.getD k []).getD 0 0) (B:=df.heap.size) B1 BQ Ck Z Z (Qp df.heap.size df.heap.size _ _ bg.2) (A7 _) Aa fun dq e0 a6 d5 bh=>?_)
  have cq:=a6.size
  have bi:=b1.trans a6
  have a7:=ae.ext (o1) a6
  have a8:=a1.ext a6
  have c6:=a3.ext g2 a6
  have c7:=ao.ext g1 a6
  refine HX (v:=vo) (a:=dq) BQ Ck Z Z Z a7 oM bh.rd1 sD Ym Aa fun dr ds e1 a9 af c8=>?_
  have c9:AD w ds:=a9.below bi (fun c hc=>A8 ad.size (af c hc).1) bi.size
  have cr:=a9.size
  have d6:=c6.chg g2 a9 fun c hc=>zH<|af c hc
  have d7:=c7.chg g1 a9 fun c hc=>zH<|af c hc
  have ca:=a8.chg a9 fun hm=>zH<|af _ hm
  have d8:=bh.chg (o1) a9 fun c hc=>zH<|af c hc
  refine Ac 1 Z<|Ab _ [0,0,0] Z<|Ad 1 Z<|AR ((k+1:Nat):Int) Z Z (Bl oM sD) Aa<|Ac 1 Z ?_
  exact⟨(k+1,dr),_,rfl,zR,⟨c9,(by rw[HZ [] oM];exact c8.up o1),ca,sD,(by assumption),oM,oM,oM,oM⟩,zD⟩
 refine AJ false Z Z (A6 be) Aa<|Ai<|Aj Z<|A4<|Az<|Az<|Aw<|A0<|AQ _ [0,0,0,0,1,0,0,0] mixed (by kernel_rfl)<|Ad 2 Z<|B9 Z Aa<|Al (p:=zP w.heap.size) 2 Ls Z Z Aa<|Ag (p:=Ap (zP w.heap.size) 2) (.inl Z) (zI (dg:Int)) AI Z (a1.ldp (i:=2) sM) Aa<|Ac 3 Z<|A1 ?_
 exact Ah [6,7,8] Z (.tuple #[vo,zI (dg:Int),zI ((0:Nat):Int)]) Z ⟨vo,(by rw[QN<|LE hRL oM,show FS p f.toNat a=_ from KL (LE hRL oM)] <;> rfl),b1.drew,(by have h:=(ae.up o1).low ad.size;unfold Lh;rw[GU<|LE hRL oM];rwa [za oM]at h),hNP,hST⟩
theorem fu {p:List Fn}{f:Int}(h:(decide (((0:Nat):Int)≤f) && decide (f≤((p.length:Nat):Int)-1))=false):Ng p f=false:=by
  have h':Ey f 0 (((p.length:Nat):Int)-1)=false:=h
  unfold Ng;rw[h',Bool.false_and]
theorem dI {p:List Fn}{f:Int}(h:(decide (((0:Nat):Int)≤f) && decide (f≤((p.length:Nat):Int)-1))=true){b:Bool}(hb:b=(decide (1≤(p.getD f.toNat Fn.zero).params) && decide ((((p.getD f.toNat Fn.zero).outs.length:Nat):Int)=(p.getD f.toNat Fn.zero).params))):Ng p f=b:=by
  have h':Ey f 0 (((p.length:Nat):Int)-1)=true:=h
  unfold Ng;rw[h',hb,Bool.true_and]
theorem Qf {p:Prop}(h:p:=by first|exact AP (fu (Bz (by assumption))).symm|exact AP (dI (By (by assumption)) (by rw[A5 (show 1≤(p.getD f.toNat Fn.zero).params by omega),Bool.true_and])).symm|exact AP (dI (By (by assumption)) (by rw[A6 (show ¬1≤(p.getD f.toNat Fn.zero).params by omega),Bool.false_and])).symm):p:=h
theorem Jr {p:Prop}(h:p:=by simp[DT,E2]):p:=h
theorem KY (w:World)(dp:Nat)(vp:Value)(p:List Fn)(f:Int)(hp:RN [] (rP (KS dp)) w.heap vp p)(_hf:BG f)(hz:LF p) :
  Calls Tryz.prog 139 #[vp,zI f] w (fun e w'=>e=.returned (.bool (Ng p f))∧AD w w'):=by
 refine Au [vp,zI f] 43 Tryz.func139 Z Z sM ?_
 have a0:AD w w:=AD.refl w
 refine fE Z<|A0<|fC [0,0,0,0,2,0,0,0,0] Z<|Ad 2 Z<|AK (hp.isPtr) Z Aa ?_
 obtain⟨cs1,ab,a2⟩:=RN.at (AZ _) hp
 obtain⟨a1,rfl,a3⟩:=RPr.of ab
 have a5:=a3.lenle
 unfold maxLen at a5
 refine AB (p:=vp) 0 B8 Z (a2 _<|Ax.of_ext [] a0) Aa<|Ag (p:=Ap vp 0) (.inr Z) a1 Bt Z ((a2 _<|Ax.of_ext [] a0).ld (i:=0) Jr) Aa<|AS (v:=a1) Du Z a3.isSl Aa<|BJ ((p.length:Int)-1) Z Z (DH oM oM) Aa<|AG 74 [] [] [zI f,zI ((0:Nat):Int),zI ((p.length:Int)-1)] Z Z II Aa (.bool (decide (((0:Nat):Int)≤f) && decide (f≤((p.length:Int)-1)))) (fun wq=>BC wq _ _ _ _hf oM oM)<|Bq (!(decide (((0:Nat):Int)≤f) && decide (f≤((p.length:Int)-1)))) Z Z Aa<|Ai ?_
 cases a7:(!(decide (((0:Nat):Int)≤f) && decide (f≤((p.length:Int)-1))))
 ·refine Aj (by first|rfl|exact zW a7)<|A2<|A0<|AQ _ [0,0,0,1,0,0,0,1,0,0,0,0,0,1,0,0,0,1,0,0,0,0,1,0,0,0,1,0,0,0] mixed (by kernel_rfl) ?_
  have ad:=HF (By (by assumption):(decide (((0:Nat):Int)≤f) && decide (f≤(p.length:Int)-1))=true)
  refine Ad 1 Z<|AK (hp.isPtr) Z Aa<|AB (p:=vp) 0 B8 Z (a2 _<|Ax.of_ext [] a0.drew) Aa<|Ag (p:=Ap vp 0) (.inl Z) a1 Bt Z ((a2 _<|Ax.of_ext [] a0.drew).ld (i:=0) Jr) Aa<|Ad 1 Z<|AE (v:=a1) ((f).toNat) Du BD Z Z a3.isSl oM sD Aa ?_
  obtain⟨cs4,ac,a4⟩:=a3.get (Av dp) Fn.zero (k:=(f).toNat) sD
  obtain⟨a8,rfl,a9⟩:=RF.of ac
  have a6:=a9.rn.lenle
  unfold maxLen at a6
  refine AB (p:=AA a1 ((f).toNat) 3) 1 BI Z (a4 _<|Ax.of_ext [] a0.drew) Aa<|Ag (p:=Ap (AA a1 ((f).toNat) 3) 1) (.inl Z) (zI<|(p.getD ((f).toNat) Fn.zero).params) AI Z ((a4 _<|Ax.of_ext [] a0.drew).ld (i:=1) Jr) Aa ?_
  by_cases aa:((1:Nat):Int)≤(p.getD ((f).toNat) Fn.zero).params
  ·refine DN true Z Z (A5 aa) Aa<|Ad 2 Z<|AK (hp.isPtr) Z (Ae (e:=23) Z Z Z)<|AB (p:=vp) 0 B8 Z (a2 _<|Ax.of_ext [] a0.drew) (Ae (e:=23) Z Z Z)<|Ag (p:=Ap vp 0) (.inl Z) a1 Bt Z ((a2 _<|Ax.of_ext [] a0.drew).ld (i:=0) Jr) (Ae (e:=23) Z Z Z)<|Ad 1 Z ?_
   refine AE (v:=a1) ((f).toNat) Du BD Z Z a3.isSl oM sD (Ae (e:=23) Z Z Z)<|AB (p:=AA a1 ((f).toNat) 3) 2 Br Z (a4 _<|Ax.of_ext [] a0.drew) (Ae (e:=23) Z Z Z)<|Ag (p:=Ap (AA a1 ((f).toNat) 3) 2) (.inl Z) a8 B7 Z ((a4 _<|Ax.of_ext [] a0.drew).ld (i:=2) Jr) (Ae (e:=23) Z Z Z)<|AS (v:=a8) Cc Z a9.rn.isSl (Ae (e:=23) Z Z Z)<|Ad 1 Z ?_
   refine AK (hp.isPtr) Z (Ae (e:=23) Z Z Z)<|AB (p:=vp) 0 B8 Z (a2 _<|Ax.of_ext [] a0.drew) (Ae (e:=23) Z Z Z)<|Ag (p:=Ap vp 0) (.inl Z) a1 Bt Z ((a2 _<|Ax.of_ext [] a0.drew).ld (i:=0) Jr) (Ae (e:=23) Z Z Z)<|Ad 1 Z<|AE (v:=a1) ((f).toNat) Du BD Z Z a3.isSl oM sD (Ae (e:=23) Z Z Z) ?_
   refine AB (p:=AA a1 ((f).toNat) 3) 1 BI Z (a4 _<|Ax.of_ext [] a0.drew) (Ae (e:=23) Z Z Z)<|Ag (p:=Ap (AA a1 ((f).toNat) 3) 1) (.inl Z) (zI<|(p.getD ((f).toNat) Fn.zero).params) AI Z ((a4 _<|Ax.of_ext [] a0.drew).ld (i:=1) Jr) (Ae (e:=23) Z Z Z)<|As (decide (((((p.getD ((f).toNat) Fn.zero).outs).length:Nat):Int)=(p.getD ((f).toNat) Fn.zero).params)) Z Z Z (Ae (e:=23) Z Z Z)<|Ac 2 Z<|A1 ?_
   exact Ah [4] Z (.bool<|decide (((((p.getD ((f).toNat) Fn.zero).outs).length:Nat):Int)=(p.getD ((f).toNat) Fn.zero).params)) Z ⟨Qf,a0.drew⟩
  exact DN false Z Z (A6 aa) Aa<|Ac 21 Z<|A1<|Ah [4] Z (.bool false) Z ⟨Qf,a0.drew⟩
 exact Af (by first|rfl|exact zW a7)<|fE Z<|A1<|Ao<|Ah [4] Z (.bool false) Z ⟨Qf,a0⟩
theorem dJ {p:List Fn}{f:Int}{a:Sr}(h:Gx p f=0)(h2:((a.length:Nat):Int)≠(p.getD f.toNat Fn.zero).params):2=IF p f a:=TV h (by rw[A6 h2];rfl)
theorem dK {p:List Fn}{f:Int}{a:Sr}(h:Gx p f=0)(h2:Bb a=false):2=IF p f a:=TV h (by rw[h2,Bool.and_false])
theorem dL {p:List Fn}{f:Int}{a:Sr}(h:Gx p f=0)(h1:((a.length:Nat):Int)=(p.getD f.toNat Fn.zero).params)(h2:Bb a=true):0=IF p f a:=VN h (by rw[h2,A5 h1];rfl)
theorem fv {b:Bool}(h:(!b)=true):b=false:=by simpa using h
theorem fw {b:Bool}(h:(!b)=false):b=true:=by simpa using h
theorem RQ {p:Prop}(h:p:=by first|exact TU oM|exact dJ oM oM|exact dK oM (fv (by assumption))|exact(by omega:_=Gx p f).trans (TU oM)|exact(show Gx p f=0 by omega).trans (dL oM oM (fw (by assumption)))):p:=h
theorem Mr (w:World)(dp:Nat)(vp:Value)(p:List Fn)(f:Int)(va:Value)(a:Sr)(hp:RN [] (rP (KS dp)) w.heap vp p)(_hf:BG f)(ha:Rd (Bd rI) w.heap va a)(hz:LF p) :
  Calls Tryz.prog 99 #[vp,zI f,va] w (fun e w'=>e=.returned (zI (IF p f a))∧AD w w'):=by
 refine Au [vp,zI f,va] 32 Tryz.func99 Z Z sM ?_
 have a7:AD w w:=AD.refl w
 have al:=ha.lenle
 refine fE Z<|fC [0,0,3,0] Z<|Ad 2 Z<|At 156 [] [] [vp,zI f] Z Z bN Aa (KX _ dp vp (p) _ (hp.ext (Bg<|AZ dp) a7) _hf hz) ?_
 rintro e1 w1 ⟨rfl,a2⟩
 refine⟨_,rfl,a2,?_⟩
 have ae:=a2.size
 have a0:=a7.trans a2
 refine Ac 1 Z<|A0<|fC [0,0,0,0,0,0,0,0,2,0,0,0,2,0,0,0,3,0,0,0] Z<|Ad 1 Z ?_
 by_cases a8:Gx p f=((0:Nat):Int)
 ·refine As true Z Z (A5 a8) Aa<|Ad 2 Z<|AS (v:=va) BQ Z ha.isSl (Ae (e:=13) Z Z Z)<|Ad 1 Z<|AK (hp.isPtr) Z (Ae (e:=13) Z Z Z) ?_
  have aj:=OV (p:=p) (f:=f) oM
  obtain⟨cs3,af,a9⟩:=RN.at (AZ _) hp
  obtain⟨a1,rfl,a3⟩:=RPr.of af
  have a4:=a3.lenle
  unfold maxLen at a4
  refine AB (p:=vp) 0 B8 Z (a9 _<|Ax.of_ext [] a0) (Ae (e:=13) Z Z Z)<|Ag (p:=Ap vp 0) (.inr Z) a1 Bt Z ((a9 _<|Ax.of_ext [] a0).ld (i:=0) (by simp[DT,E2])) (Ae (e:=13) Z Z Z)<|Ad 1 Z<|AE (v:=a1) ((f).toNat) Du BD Z Z a3.isSl oM sD (Ae (e:=13) Z Z Z) ?_
  obtain⟨cs4,ag,aa⟩:=a3.get (Av dp) Fn.zero (k:=(f).toNat) sD
  obtain⟨ak,rfl,ah⟩:=RF.of ag
  have a5:=ah.rn.lenle
  unfold maxLen at a5
  refine AB (p:=AA a1 ((f).toNat) 3) 1 BI Z (aa _<|Ax.of_ext [] a0) (Ae (e:=13) Z Z Z)<|Ag (p:=Ap (AA a1 ((f).toNat) 3) 1) (.inr Z) (zI<|(p.getD ((f).toNat) Fn.zero).params) AI Z ((aa _<|Ax.of_ext [] a0).ld (i:=1) (by simp[DT,E2])) (Ae (e:=13) Z Z Z) ?_
  by_cases ab:(a.length:Int)≠(p.getD ((f).toNat) Fn.zero).params
  ·exact AT true Z Z (A5 ab) (Ae (e:=13) Z Z Z)<|Ac 6 Z<|Af Z<|Ab _ [0] Z<|Ac 1 Z<|fC [0,0] Z<|Ac 2 Z<|A1<|Ah [6] Z (zI ((2:Nat):Int)) Z ⟨Bf RQ,a0⟩
  refine AT false Z Z (A6 ab) (Ae (e:=13) Z Z Z)<|Ad 2 Z<|At 157 [] [] [va] Z Z bO (Ae (e:=25) Z Z Z) (K4 _ _ _<|ha.ext g1 a0) ?_
  rintro e6 w6 ⟨rfl,a6⟩
  refine⟨_,rfl,a6,?_⟩
  have ai:=a6.size
  have ac:=a0.trans a6
  refine Bq (!(Bb a)) Z Z (Ae (e:=25) Z Z Z)<|Ac 2 Z ?_
  cases ad:(!(Bb a))
  ·exact Aj (by first|rfl|exact zW ad)<|A2<|fC [0,0] Z<|Ac 2 Z<|A1<|Ah [6] Z (zI<|Gx p f) Z ⟨Bf RQ,ac⟩
  exact Af (by first|rfl|exact zW ad)<|Ab _ [0] Z<|Ac 1 Z<|fC [0,0] Z<|Ac 2 Z<|A1<|Ah [6] Z (zI ((2:Nat):Int)) Z ⟨Bf RQ,ac⟩
 exact As false Z Z (A6 a8) Aa<|Ac 18 Z<|Aj Z<|A2<|fC [0,0] Z<|Ac 2 Z<|A1<|Ah [6] Z (zI<|Gx p f) Z ⟨Bf RQ,a0⟩
theorem KZ (w:World)(dp:Nat)(vp:Value)(p:List Fn)(f:Int)(va:Value)(a:Sr)(hp:RP [] dp w.heap vp p)(_hf:BG f)(ha:Rd (Bd rI) w.heap va a)(hz:LF p) :
  Calls Tryz.prog 28 #[(.agg #[vp]),zI f,va] w (fun e w'=>∃v0:Value,e=.returned (.tuple #[v0,zI ((Si p f a:Nat):Int),zI (Sa p f a)])∧AD w w'∧Fr (BA rI 2) w.heap.size w'.heap.size w'.heap v0 (ZF p f a)):=by
 refine Au [.agg #[vp],zI f,va] 23 Tryz.func28 Z Z sM ?_
 have ae:AD w w:=AD.refl w
 have ao:=hp.lenle
 unfold maxLen at ao
 have ap:=ha.lenle
 refine fC [3,0,0,0] Z (Bv (cs:=#[vp]) Z Aa fun w1 a9 am a5=>?_)
 have af:=a9.size
 have a7:=ae.trans a9
 replace a5:BX w1.heap w.heap.size [vp]:=a5
 refine Ac 3 Z<|A0<|fC [0,0,3,0] Z<|Ad 2 Z<|At 99 [] [] [zP w.heap.size,zI f,va] Z Z fh Aa (Mr _ dp (zP w.heap.size) (p) _ _ _ (RN.box a5 (RP.mk'<|hp.ext (An<|Av dp) a7) sM) _hf (ha.ext g1 a7) hz) ?_
 rintro e2 w2 ⟨rfl,a6⟩
 refine⟨_,rfl,a6,?_⟩
 have ag:=a6.size
 have a2:=a7.trans a6
 have a3:=a5.ext a6
 refine Ac 1 Z<|fC [0,0] Z<|Ad 1 Z ?_
 by_cases aa:IF p f a≠((0:Nat):Int)
 ·refine AT true Z Z (A5 aa) Aa<|Ai<|Af Z<|fC [3,0,0,0,0] Z (Dy (rI) B1 BQ Ck Aa fun v4 w4 ab an ah=>?_)
  have ai:=ab.size
  have aj:=a2.trans ab
  exact Ac 4 Z<|A1<|Ao<|Ah [6,7,8] Z (.tuple #[v4,zI ((0:Nat):Int),zI<|IF p f a]) Z ⟨v4,(by rw[Xu oM,Xt oM] <;> rfl),aj,(by rw[R4 oM];exact(ah.up o1).low a2.size)⟩
 refine AT false Z Z (A6 aa) Aa<|Ai<|Aj Z<|A2<|fC [0,0,3,0,0,0,0,0,0] Z<|Ad 2 Z ?_
 have har:IF p f a=0:=by omega
 have a1:=TT har
 have aq:=CM a1.1
 have ar:=aq.par f.toNat oM
 have hal:=a1.2.2.1
 refine At 75 [] [] [zP w.heap.size,zI f,va] Z Z fg Aa (Mq _ dp (zP w.heap.size) (p) _ _ _ (RN.box a3 (RP.mk'<|hp.ext (An<|Av dp) a2) sM) _hf (ha.ext g1 a2) aq oM oM a1.2.2.2) ?_
 rintro e5 w5 ⟨a0,rfl,a8,a4,ac,ad⟩
 refine⟨_,rfl,a8,?_⟩
 have ak:=a8.size
 have al:=a2.trans a8
 exact AO (vs:=[a0,zI ((J8 p 1 f.toNat (BB a):Nat):Int),zI<|FS p f.toNat a]) a0 Z Z Aa<|AO (vs:=[a0,zI ((J8 p 1 f.toNat (BB a):Nat):Int),zI<|FS p f.toNat a]) (zI ((J8 p 1 f.toNat (BB a):Nat):Int)) Z Z Aa<|AO (vs:=[a0,zI ((J8 p 1 f.toNat (BB a):Nat):Int),zI<|FS p f.toNat a]) (zI<|FS p f.toNat a) Z Z Aa<|Ac 3 Z<|A1<|Ah [6,7,8] Z (.tuple #[a0,zI ((J8 p 1 f.toNat (BB a):Nat):Int),zI<|FS p f.toNat a]) Z ⟨a0,(by rw[TW har,R5 har]),al,(by rw[KO har];exact(a4.up o1).low a2.size)⟩
theorem dM {p:List Fn}{n f:Nat}{a:List Sr}(h:H7 p n f a≠0):J8 p n f a=0:=by
  unfold H7 at h;unfold J8;cases hh:ev p n f a with
  |ok x s=>rw[hh]at h;exact absurd Z h
  |err c=>rfl
theorem Ms {p:Prop}(h:p:=by first|(rw[Xu oM,Xt oM,← hcd] <;> rfl)|(rw[TW har,R5 har,dM oM] <;> rfl)|(rw[TW har,R5 har,show FS p f.toNat a=0 from by show H7 p (0+1) f.toNat (BB a)=0;omega] <;> rfl)):p:=h
theorem Pq {p:Prop}(h:p:=by first|(rw[R4 oM];exact Gf _ _ _)|(rw[KO har];unfold Lh;rw[hEP.non oM];exact Gf _ _ _)|(rw[KO har];exact Gf _ _ _)):p:=h
theorem L1 (w:World)(dp:Nat)(vp:Value)(p:List Fn)(f:Int)(va:Value)(a:Sr)(hp:RP [] dp w.heap vp p)(_hf:BG f)(ha:Rd (Bd rI) w.heap va a)(hz:LF p) :
  Calls Tryz.prog 54 #[(.agg #[vp]),zI f,va] w (fun e w'=>∃v0:Value,e=.returned (.tuple #[v0,zI ((Si p f a:Nat):Int),zI (Sa p f a)])∧AD w w'∧Fr (BA rI 2) w.heap.size w'.heap.size w'.heap v0 (ZF p f a)):=by
 refine Au [.agg #[vp],zI f,va] 46 Tryz.func54 Z Z sM ?_
 have bg:AD w w:=AD.refl w
 have br:=hp.lenle
 unfold maxLen at br
 have bs:=ha.lenle
 refine fC [3,0,0,0] Z (Bv (cs:=#[vp]) Z Aa fun w1 b3 bn au=>?_)
 have bh:=b3.size
 have b4:=bg.trans b3
 replace au:BX w1.heap w.heap.size [vp]:=au
 refine Ac 3 Z<|fC [2,0,3,0] Z<|AF (p:=zP w.heap.size) (.inr Z) [vp] Ba Z (fun bt ai=>LD.of_box<|BX.ext (w:=w1) au ai) Z Aa<|Ad 1 Z<|At 100 [] [] [.agg #[vp],zI f] Z Z Uv Aa (GE _ dp vp (p) _ (hp.ext (An<|Av dp) b4) _hf hz) ?_
 rintro e2 w2 ⟨rfl,av⟩
 refine⟨_,rfl,av,?_⟩
 have bi:=av.size
 have ad:=b4.trans av
 have a6:=au.ext av
 refine Ac 1 Z<|A0<|fC [0,0,0,0,0,2,0,0,0,2,3,0,0] Z<|Ad 1 Z ?_
 by_cases b5:Gx p f=((0:Nat):Int)
 ·refine As true Z Z (A5 b5) Aa<|Ad 2 Z ?_
  have bo:=OV (p:=p) (f:=f) oM
  refine Al (p:=zP w.heap.size) 0 B8 Z Z (Ae (e:=17) Z Z Z)<|Ag (p:=Ap (zP w.heap.size) 0) (.inr Z) vp Bt Z (a6.ldp (i:=0) sM) (Ae (e:=17) Z Z Z)<|Ad 1 Z<|AE (v:=vp) ((f).toNat) Du BD Z Z hp.isSl oM sD (Ae (e:=17) Z Z Z) ?_
  obtain⟨cs4,bj,b6⟩:=hp.get (Av dp) Fn.zero (k:=(f).toNat) sD
  obtain⟨bp,rfl,b7⟩:=RF.of bj
  have ay:=b7.rn.lenle
  unfold maxLen at ay
  refine AB (p:=AA vp ((f).toNat) 3) 1 BI Z (b6 _<|Ax.of_ext [] ad) (Ae (e:=17) Z Z Z)<|Ag (p:=Ap (AA vp ((f).toNat) 3) 1) (.inr Z) (zI<|(p.getD ((f).toNat) Fn.zero).params) AI Z ((b6 _<|Ax.of_ext [] ad).ld (i:=1) (by simp[DT,E2])) (Ae (e:=17) Z Z Z)<|At 86 [] [] [va,zI<|(p.getD ((f).toNat) Fn.zero).params] Z Z Uu (Ae (e:=17) Z Z Z) (CO _ _ _ _ (ha.ext g1 ad) b7.rng) ?_
  rintro e5 w5 ⟨rfl,aw⟩
  refine⟨_,rfl,aw,?_⟩
  have bk:=aw.size
  have ax:=ad.trans aw
  have aj:=a6.ext aw
  refine Bq (!(decide ((a.length:Int)=((p.getD ((f).toNat) Fn.zero).params)) && Bb a)) Z Z (Ae (e:=17) Z Z Z)<|Ac 1 Z ?_
  cases b8:(!(decide ((a.length:Int)=((p.getD ((f).toNat) Fn.zero).params)) && Bb a))
  ·refine Aj (by first|rfl|exact zW b8)<|A2<|A0<|fC [0,0] Z<|Ad 1 Z ?_
   have hcd:Gx p f=IF p f a:=by first|exact TU oM|exact TV oM (Bz (by assumption))|exact(show Gx p f=0 by omega).trans (VN oM (By (by assumption)))
   by_cases b9:Gx p f≠((0:Nat):Int)
   ·exact AT true Z Z (A5 b9) Aa<|Ai<|Af Z<|fC [0,0,0,0] Z<|Ac 4 Z<|A1<|Ao<|Ah [6,7,8] Z (.tuple #[zN,zI ((0:Nat):Int),zI<|Gx p f]) Z ⟨zN,Ms,ax,Pq⟩
   refine AT false Z Z (A6 b9) Aa<|Ai<|Aj Z<|A2<|A0<|AQ _ [1,0,0,3,3,0,0,0,0,0,0,0] mixed (by kernel_rfl) ?_
   have har:IF p f a=0:=by omega
   have a0:=TT har
   have bq:=CM a0.1
   have bu:=bq.par f.toNat oM
   have hal:=a0.2.2.1
   refine AF (p:=zP w.heap.size) (.inl Z) [vp] Ba Z (fun bt ai=>LD.of_box<|BX.ext (w:=w5.drew) aj ai) Z Aa<|Ad 2 Z<|At 89 [] [] [va] Z Z Zr Aa (FZ _ _ _ (ha.ext g1 ax.drew) oM) ?_
   rintro e8 w8 ⟨ak,rfl,al,a5⟩
   refine⟨_,rfl,al,?_⟩
   replace al:=al.of_drew
   have bl:=al.size
   have ba:=ax.trans al
   replace a5:=a5.low (B':=w5.heap.size)<|A7 _
   refine At 142 [] [] [.agg #[vp],zI f,ak,zI ((0:Nat):Int)] Z Z UA Aa (CT _ dp vp (p) _ ak (BB a) (0) (hp.ext (An<|Av dp) ba) _hf (RN.of_fr2 a5 fun b hb=>by cases hb) a5.cap bq oM (by rw[Em];exact a0.2.2.1) (by exact C1 a0.2.2.2) oM) ?_
   rintro e9 w9 ⟨a7,rfl,az,am,bb⟩
   refine⟨_,rfl,az,?_⟩
   have bm:=az.size
   have an:=ba.trans az
   refine Ad 1 Z<|AO (vs:=[a7,zI ((J8 p (0+1) f.toNat (BB a):Nat):Int),zI<|H7 p (0+1) f.toNat<|BB a]) a7 Z Z Aa<|AO (vs:=[a7,zI ((J8 p (0+1) f.toNat (BB a):Nat):Int),zI<|H7 p (0+1) f.toNat<|BB a]) (zI ((J8 p (0+1) f.toNat (BB a):Nat):Int)) Z Z Aa<|AO (vs:=[a7,zI ((J8 p (0+1) f.toNat (BB a):Nat):Int),zI<|H7 p (0+1) f.toNat<|BB a]) (zI<|H7 p (0+1) f.toNat<|BB a) Z Z Aa<|Ac 3 Z<|A0<|fC [0,0] Z<|Ad 1 Z ?_
   have hEP:=‹Va p (0+1) f.toNat (BB a)›
   by_cases ao:H7 p (0+1) f.toNat (BB a)≠((0:Nat):Int)
   ·exact AT true Z Z (A5 ao) Aa<|Ai<|Af Z<|fC [0,0,0,0] Z<|Ac 4 Z<|A1<|Ao<|Ah [6,7,8] Z (.tuple #[zN,zI ((0:Nat):Int),zI<|H7 p (0+1) f.toNat<|BB a]) Z ⟨zN,Ms,an,Pq⟩
   refine AT false Z Z (A6 ao) Aa<|Ai<|Aj Z<|A2<|fC [0,3,0,0,0,0] Z<|Ad 1 Z ?_
   have hev:=hEP.len oM
   have hvo:=bq.outs f.toNat oM
   refine At 106 [] [] [a7] Z Z Rw Aa (EV _ _ _ am.rd2 oM (by intro k hk;have:=(hEP.ser k hk).1;omega)) ?_
   rintro bv bw ⟨aa,rfl,ae,a3⟩
   refine⟨_,rfl,ae,?_⟩
   have bc:=ae.size
   have b0:=an.trans ae
   exact Ac 4 Z<|A1<|Ah [6,7,8] Z (.tuple #[aa,zI ((J8 p (0+1) f.toNat (BB a):Nat):Int),zI ((0:Nat):Int)]) Z ⟨aa,Ms,b0,(by first|(rw[R4 oM];exact(a3.up o1).low an.size)|(rw[KO har];unfold Lh;rw[hEP.non oM];exact(a3.up o1).low an.size)|(rw[KO har];exact(a3.up o1).low an.size))⟩
  refine Af (by first|rfl|exact zW b8)<|Ab _ [0] Z<|Ac 1 Z<|A0<|fC [0,0] Z<|Ad 1 Z ?_
  have hcd:((2:Nat):Int)=IF p f a:=by first|exact TU oM|exact TV oM (Bz (by assumption))|exact(show Gx p f=0 by omega).trans (VN oM (By (by assumption)))
  exact AT true Z Z (by decide) Aa<|Ai<|Af Z<|fC [0,0,0,0] Z<|Ac 4 Z<|A1<|Ao<|Ah [6,7,8] Z (.tuple #[zN,zI ((0:Nat):Int),zI ((2:Nat):Int)]) Z ⟨zN,Ms,ax,Pq⟩
 refine As false Z Z (A6 b5) Aa<|Ac 11 Z<|Aj Z<|A2<|A0<|fC [0,0] Z<|Ad 1 Z ?_
 have hcd:Gx p f=IF p f a:=by first|exact TU oM|exact TV oM (Bz (by assumption))|exact(show Gx p f=0 by omega).trans (VN oM (By (by assumption)))
 by_cases ap:Gx p f≠((0:Nat):Int)
 ·exact AT true Z Z (A5 ap) Aa<|Ai<|Af Z<|fC [0,0,0,0] Z<|Ac 4 Z<|A1<|Ao<|Ah [6,7,8] Z (.tuple #[zN,zI ((0:Nat):Int),zI<|Gx p f]) Z ⟨zN,Ms,ad,Pq⟩
 refine AT false Z Z (A6 ap) Aa<|Ai<|Aj Z<|A2<|A0<|AQ _ [1,0,0,3,3,0,0,0,0,0,0,0] mixed (by kernel_rfl) ?_
 have har:IF p f a=0:=by omega
 have a0:=TT har
 have bq:=CM a0.1
 have bu:=bq.par f.toNat oM
 have hal:=a0.2.2.1
 refine AF (p:=zP w.heap.size) (.inl Z) [vp] Ba Z (fun bt ai=>LD.of_box<|BX.ext (w:=w2.drew) a6 ai) Z Aa<|Ad 2 Z<|At 89 [] [] [va] Z Z Zr Aa (FZ _ _ _ (ha.ext g1 ad.drew) oM) ?_
 rintro bx bz ⟨ab,rfl,a8,a1⟩
 refine⟨_,rfl,a8,?_⟩
 replace a8:=a8.of_drew
 have bd:=a8.size
 have aq:=ad.trans a8
 replace a1:=a1.low (B':=w2.heap.size)<|A7 _
 refine At 142 [] [] [.agg #[vp],zI f,ab,zI ((0:Nat):Int)] Z Z UA Aa (CT _ dp vp (p) _ ab (BB a) (0) (hp.ext (An<|Av dp) aq) _hf (RN.of_fr2 a1 fun b hb=>by cases hb) a1.cap bq oM (by rw[Em];exact a0.2.2.1) (by exact C1 a0.2.2.2) oM) ?_
 rintro c0 c1 ⟨a2,rfl,af,ag,b1⟩
 refine⟨_,rfl,af,?_⟩
 have be:=af.size
 have a9:=aq.trans af
 refine Ad 1 Z<|AO (vs:=[a2,zI ((J8 p (0+1) f.toNat (BB a):Nat):Int),zI<|H7 p (0+1) f.toNat<|BB a]) a2 Z Z Aa<|AO (vs:=[a2,zI ((J8 p (0+1) f.toNat (BB a):Nat):Int),zI<|H7 p (0+1) f.toNat<|BB a]) (zI ((J8 p (0+1) f.toNat (BB a):Nat):Int)) Z Z Aa<|AO (vs:=[a2,zI ((J8 p (0+1) f.toNat (BB a):Nat):Int),zI<|H7 p (0+1) f.toNat<|BB a]) (zI<|H7 p (0+1) f.toNat<|BB a) Z Z Aa<|Ac 3 Z<|A0<|fC [0,0] Z<|Ad 1 Z ?_
 have hEP:=‹Va p (0+1) f.toNat (BB a)›
 by_cases ar:H7 p (0+1) f.toNat (BB a)≠((0:Nat):Int)
 ·exact AT true Z Z (A5 ar) Aa<|Ai<|Af Z<|fC [0,0,0,0] Z<|Ac 4 Z<|A1<|Ao<|Ah [6,7,8] Z (.tuple #[zN,zI ((0:Nat):Int),zI<|H7 p (0+1) f.toNat<|BB a]) Z ⟨zN,Ms,a9,Pq⟩
 refine AT false Z Z (A6 ar) Aa<|Ai<|Aj Z<|A2<|fC [0,3,0,0,0,0] Z<|Ad 1 Z ?_
 have hev:=hEP.len oM
 have hvo:=bq.outs f.toNat oM
 refine At 106 [] [] [a2] Z Z Rw Aa (EV _ _ _ ag.rd2 oM (by intro k hk;have:=(hEP.ser k hk).1;omega)) ?_
 rintro c2 c3 ⟨ac,rfl,ah,a4⟩
 refine⟨_,rfl,ah,?_⟩
 have bf:=ah.size
 have b2:=a9.trans ah
 exact Ac 4 Z<|A1<|Ah [6,7,8] Z (.tuple #[ac,zI ((J8 p (0+1) f.toNat (BB a):Nat):Int),zI ((0:Nat):Int)]) Z ⟨ac,Ms,b2,(by first|(rw[R4 oM];exact(a4.up o1).low a9.size)|(rw[KO har];unfold Lh;rw[hEP.non oM];exact(a4.up o1).low a9.size)|(rw[KO har];exact(a4.up o1).low a9.size))⟩
theorem Qg {p:Prop}(h:p:=by simp only[z9,zb];unfold maxLen;omega):p:=h
theorem Qh {p:Prop}(h:p:=by simp only[z9,zb];omega):p:=h
theorem Kx {p:Prop}(h:p:=by rw[Hi];omega):p:=h
theorem CX (w:World)(S:List Nat)(g:Nat)(vp:Value)(ip:Int)(s0:Nat)(c0:Int)(T:Tp)(c:AM)(v:Int)(hS:∀b∈S,b<w.heap.size)(hgS:g∈S)(hR0:Sh 69 208 2 S g w.heap vp ip T s0 c0)(_hip:BG ip)(hln:T.code.length≤4000∧T.vals.length≤4000)(hc:Td c)(_hv:BG v)  :
  Calls Tryz.prog 101 #[zP g,(.agg #[(zI c.op),(zI c.a),(zI c.b),(zI c.num)]),zI v] w (fun e w'=>∃S':List Nat,e=.returned (zI (T.vals.length:Int))∧G7 S S' w w'∧Sh 69 208 2 S' g w'.heap vp ip (T.put c v) s0 c0):=by
 refine Au [zP g,.agg #[zI c.op,zI c.a,zI c.b,zI c.num],zI v] 35 Tryz.func101 Z Z sM ?_
 have dr:Ax S w w:=Ax.refl S w
 obtain⟨rc0,rg0,rv0,bt,d5⟩:=hR0
 have gd:=bt.lt
 have hG0:G7 S S w w:=G7.refl hS
 have hml:=CI.len d5
 refine fC [3,0] Z ?_
 have eo:=bt.lt
 refine Bv (cs:=#[zI c.op,zI c.a,zI c.b,zI c.num]) Z Aa fun w1 ay ep bu=>?_
 have ds:w.heap.size≤w1.heap.size:=ay.size
 have d6:Ax S w w1:=dr.ext ay
 have a7:=bt.ext ay
 have dt:=CI.ext d5 ay
 have d7:=hG0.ext ay
 replace bu:BX w1.heap w.heap.size [zI c.op,zI c.a,zI c.b,zI c.num]:=bu
 refine Ac 1 Z<|A0 ?_
 obtain⟨Fc,Fg,Fv,hOc,hOg,hOv,hdj,hgn,hSc,hSg,hSv⟩:=id dt
 letI:JR:=Sg (Fc++Fv)
 refine Jx.ZS _ [0,0,0,0,0,0,1,1,3,3,0,0,0,1,0,3,3,0,0,0,4,0,0,4] [0,1,2,3,4,5,6,7,10,11,12,13,14] 8 9 [15,16,17,18,19,20,21,22,23] 15 [9,16,17,18,19,20,21,22,23] 15 [8,9,16,17,18,19,20,21,22,23] [_,_,_,_,_,_,_,_,_,_,_,_,_] [0,0,0,0,0,0,1,1,0,0,0,1,0] _ _ [_,_,_,_,_,_,_,_,_] [3,3,0,0,0,4,0,0,4] _ [_,_,_,_,_,_,_,_,_] [3,3,0,0,0,4,0,0,4] _ [_,_,_,_,_,_,_,_,_,_] [3,3,3,0,0,0,4,0,0,4] mixed (by kernel_rfl) ⟨rfl,rfl,⟨rfl,rfl,⟨rfl,rfl,⟨rfl,rfl,⟨rfl,rfl,⟨rfl,rfl,⟨rfl,rfl,⟨rfl,rfl,⟨rfl,rfl,⟨rfl,rfl,⟨rfl,rfl,⟨rfl,rfl,⟨rfl,rfl,trivial⟩⟩⟩⟩⟩⟩⟩⟩⟩⟩⟩⟩⟩ ⟨rfl,rfl,trivial⟩ ⟨rfl,rfl,⟨rfl,rfl,⟨rfl,rfl,⟨rfl,rfl,⟨rfl,rfl,⟨rfl,rfl,⟨rfl,rfl,⟨rfl,rfl,⟨rfl,rfl,⟨rfl,rfl,trivial⟩⟩⟩⟩⟩⟩⟩⟩⟩⟩ ⟨rfl,rfl,⟨rfl,rfl,⟨rfl,rfl,⟨rfl,rfl,⟨rfl,rfl,⟨rfl,rfl,⟨rfl,rfl,⟨rfl,rfl,⟨rfl,rfl,⟨rfl,rfl,trivial⟩⟩⟩⟩⟩⟩⟩⟩⟩⟩ ⟨rfl,rfl,⟨rfl,rfl,⟨rfl,rfl,⟨rfl,rfl,⟨rfl,rfl,⟨rfl,rfl,⟨rfl,rfl,⟨rfl,rfl,⟨rfl,rfl,⟨rfl,rfl,⟨rfl,rfl,trivial⟩⟩⟩⟩⟩⟩⟩⟩⟩⟩⟩ ?_
 refine Jx.Yt (zP g) Z Aa<|Jx.Yt (zP g) Z Aa<|Jx.Yt (zP g) Z Aa<|Jx.j1<|B9 Z Aa<|Ai ?_
 refine Jx.Al (p:=zP g) 1 Gl Z Z Aa<|Jx.Al (p:=Ap (zP g) 1) (b:=g) (o:=1) 1 FV Z Z Aa<|Jx.dT (p:=Ap (Ap (zP g) 1) 1) rc0 KQ Z (fun wj hj=>(BX.chg (w:=w1.drew) (F:=Fc++Fv) a7 hj fun hm=>(zi.1 hm).elim hgn.1 hgn.2.2).ldp (i:=2) sM) Aa<|Jx.ZL (p:=zP w.heap.size) [zI c.op,zI c.a,zI c.b,zI c.num] FW Z (fun wj hj=>LD.of_box<|BX.chg (w:=w1.drew) (F:=Fc++Fv) bu hj fun hm=>(zi.1 hm).elim (fun h9=>zH<|hS _ (hSc _ h9)) fun h9=>zH<|hS _ (hSv _ h9)) Z Aa<|Jx.Yt (zP g) Z Aa ?_
 refine Jx.j1<|B9 Z Aa<|Ai ?_
 refine Jx.Al (p:=zP g) 5 DZ Z Z Aa<|Jx.dT (p:=Ap (zP g) 5) rv0 Bx Z (fun wj hj=>(BX.chg (w:=w1.drew) (F:=Fc++Fv) a7 hj fun hm=>(zi.1 hm).elim hgn.1 hgn.2.2).ldp (i:=5) sM) Aa<|Jx.Yt (zI v) Z Aa<|Jx.Ai ⟨?_,?_⟩
 ·refine Jx.eM<|Cw (cs:=[zI c.op,zI c.a,zI c.b,zI c.num]) (y:=c) (B:=w1.heap.size) Be PY K2 Z (by decide) Z (Te (U:=w1.heap.size) hc) (A7 _) Aa ?_
  intro v4 w4 ao eq d8
  refine Ai ?_
  have du:w1.heap.size≤w4.heap.size:=ao.size
  have az:=Ow.ext (w:=w1.drew) (Ak Be) hOc ao
  have b0:=Ow.ext (w:=w1.drew) (Bm B1) hOv ao
  have b1:=Ow.ext (w:=w1.drew) (Ak Bj) hOg ao
  have d9:=BX.ext (w:=w1.drew) a7 ao
  have da:Ax S w w4:=d6.drew.ext ao
  have db:=d7.drew.ext ao
  refine Jx.Ai ⟨?_,?_⟩
  ·refine Jx.fI<|NL (v:=rc0) (a:=v4) Be PY K2 Z (by decide) Z Z az d8 oM (Nat.zero_le _) (Nat.zero_le _) oM (by unfold maxLen;omega) Aa ?_
   intro v5 w5 F5 ap dv b2
   refine Ai ⟨Ax.sub ap fun b hb=>z8 _ hb,?_⟩
   have dw:w4.heap.size≤w5.heap.size:=ap.size
   have bv:=b0.keep (Bm B1) ap fun b hb hm=>hdj.2.1 b hb hm
   have bw:=b1.keep (Ak Bj) ap fun b hb hm=>hdj.1 b hb hm
   have dx:=BX.chg d9 ap hgn.1
   have dy:Ax S w w5:=da.trans (ap.sub hSc)
   have dz:=db.more ap hSc
   refine Jx.eM<|Cd (u:=zI v) (B:=w5.heap.size) B1 BQ Ck Z Z (Qp w5.heap.size w5.heap.size _ _ _hv) (A7 _) Aa ?_
   intro v6 w6 aq er e0
   refine Ai ?_
   have e1:w5.heap.size≤w6.heap.size:=aq.size
   have bx:=Ow.ext (w:=w5) (Ak Be) dv aq
   have bz:=Ow.ext (w:=w5) (Bm B1) bv aq
   have c1:=Ow.ext (w:=w5) (Ak Bj) bw aq
   have e2:=BX.ext (w:=w5) dx aq
   have e3:Ax S w w6:=dy.ext aq
   have e4:=dz.ext aq
   refine Jx.fI<|LK (v:=rv0) (a:=v6) BQ Ck Z Z Z bz e0.rd1 (Nat.zero_le _) Qh Qg Aa ?_
   intro v7 w7 F7 ar dc br
   refine Ai ⟨Ax.sub ar fun b hb=>z1 _ hb,?_⟩
   have e5:w6.heap.size≤w7.heap.size:=ar.size
   have au:=bx.keep (Ak Be) ar fun b hb hm=>by rcases b2 b hm with h9|h9|h9;exact hdj.2.1 b h9 hb;(have:=hOv.high b hb;omega);(have:=hOv.high b hb;omega)
   have c2:=c1.keep (Ak Bj) ar fun b hb hm=>hdj.2.2 b hm hb
   have e6:=BX.chg e2 ar hgn.2.2
   have dd:Ax S w w7:=e3.trans (ar.sub hSv)
   have es:=e4.more ar hSv
   refine Jx.Vr Z ?_
   have av:CI 69 208 2 (F5++(F7++S)) g w7.heap v5 rg0 v7 (T.put c v):=⟨F5,Fg,F7,au.up oM,c2.up oM,dc,⟨fun b hb hm=>by rcases b2 b hb with h9|h9|h9;exact hdj.1 b h9 hm;(have:=hOg.high b hm;omega);(have:=hOg.high b hm;omega),fun b hb hm=>by rcases br b hm with h8|h8;(rcases b2 b hb with h9|h9|h9;exact hdj.2.1 b h9 h8;(have:=hOv.high b h8;omega);(have:=hOv.high b h8;omega));(have:=au.high b hb;omega),fun b hm hb=>by rcases br b hb with h8|h8;exact hdj.2.2 b hm h8;(have:=hOg.high b hm;omega)⟩,⟨fun hm=>by rcases b2 g hm with h9|h9|h9;exact hgn.1 h9;omega;omega,hgn.2.1,fun hm=>by rcases br g hm with h9|h9;exact hgn.2.2 h9;omega⟩,fun b hb=>z8 _ hb,fun b hb=>z1 _ (z1 _ (hSg b hb)),fun b hb=>z1 _ (z8 _ hb)⟩
   have c3:G7 S (F5++(F7++S)) w w7:=⟨fun b hb=>z1 _ (z1 _ hb),fun b hb=>by rcases zi.1 hb with hb|hb;(rcases b2 b hb with h9|h9|h9;exact .inl (hSc b h9);(right;omega);(right;omega));rcases zi.1 hb with hb|hb;(rcases br b hb with h9|h9;exact .inl (hSv b h9);(right;omega));exact .inl hb,fun b hb=>by rcases zi.1 hb with hb|hb;(have:=au.high b hb;omega);rcases zi.1 hb with hb|hb;(exact dc.high b hb);(have:=hS b hb;omega),dd⟩
   refine B9 Z Aa<|Al (p:=zP g) 1 Gl Z Z Aa<|Al (p:=Ap (zP g) 1) (b:=g) (o:=1) 1 FV Z Z Aa (Bc (k:=2) (w:=w7) Zs Z Z (AV av.slc) e6 sM Aa fun w9 bs et c4=>?_)
   replace c4:BX w9.heap g [vp,zI ip,v5,rg0,zN,rv0,zI (s0:Int),zI c0]:=c4
   have e7:Ax S w w9:=dd.trans (bs.sub (B6 hgS))
   have e8:=CI.chg av bs
   have e9:=c3.set hgS bs
   have ea:w7.heap.size≤w9.heap.size:=bs.size
   refine B9 Z Aa<|Al (p:=zP g) 5 DZ Z Z Aa (Bc (k:=5) (w:=w9) Sf Z Z (AV av.slv) c4 sM Aa fun f3 ae eb af=>?_)
   replace af:BX f3.heap g [vp,zI ip,v5,rg0,zN,v7,zI (s0:Int),zI c0]:=af
   have ec:Ax S w f3:=e7.trans (ae.sub (B6 hgS))
   have b3:=CI.chg e8 ae
   have c5:=e9.set hgS ae
   have de:w9.heap.size≤f3.heap.size:=ae.size
   exact Ai<|fC [0,0,0,2,0,0,0] Z<|Ad 1 Z<|B9 Z Aa<|Al (p:=zP g) 5 DZ Z Z Aa<|Ag (p:=Ap (zP g) 5) (.inr Z) v7 Bx Z (af.ldp (i:=5) sM) Aa<|AS (v:=v7) BQ Z (CI.slv b3) Aa<|BJ (T.vals.length:Int) Z Z (Bl Kx Kx) Aa<|Ac 1 Z<|A1<|Ah [6] Z (zI (T.vals.length:Int)) Z ⟨_,(by rfl),c5,⟨_,_,_,af,b3⟩⟩
  refine Jx.eM<|Cd (u:=zI v) (B:=w4.heap.size) B1 BQ Ck Z Z (Qp w4.heap.size w4.heap.size _ _ _hv) (A7 _) Aa ?_
  intro ga f9 a0 ed c6
  refine Ai ?_
  have df:w4.heap.size≤f9.heap.size:=a0.size
  have b4:=Ow.ext (w:=w4) (Ak Be) az a0
  have b5:=Ow.ext (w:=w4) (Bm B1) b0 a0
  have b6:=Ow.ext (w:=w4) (Ak Bj) b1 a0
  have c7:=d8.ext (Ak Be) a0
  have c8:=BX.ext (w:=w4) d9 a0
  have c9:Ax S w f9:=da.ext a0
  have ca:=db.ext a0
  refine Jx.fI<|NL (v:=rc0) (a:=v4) Be PY K2 Z (by decide) Z Z b4 c7 oM (Nat.zero_le _) (Nat.zero_le _) oM (by unfold maxLen;omega) Aa ?_
  intro fe fr fs a1 cb a8
  refine Ai ⟨Ax.sub a1 fun b hb=>z8 _ hb,?_⟩
  have dg:f9.heap.size≤fr.heap.size:=a1.size
  have b7:=b5.keep (Bm B1) a1 fun b hb hm=>hdj.2.1 b hb hm
  have b8:=b6.keep (Ak Bj) a1 fun b hb hm=>hdj.1 b hb hm
  have cc:=c6.chg (o1) a1 fun b hb=>zH<|hOc.high b hb
  have cd:=BX.chg c8 a1 hgn.1
  have ce:Ax S w fr:=c9.trans (a1.sub hSc)
  have cf:=ca.more a1 hSc
  refine Jx.fI<|LK (v:=rv0) (a:=ga) BQ Ck Z Z Z b7 cc.rd1 (Nat.zero_le _) Qh Qg Aa ?_
  intro f1 ew fx a4 b9 ag
  refine Ai ⟨Ax.sub a4 fun b hb=>z1 _ hb,?_⟩
  have dh:fr.heap.size≤ew.heap.size:=a4.size
  have a9:=cb.keep (Ak Be) a4 fun b hb hm=>by rcases a8 b hm with h9|h9|h9;exact hdj.2.1 b h9 hb;(have:=hOv.high b hb;omega);(have:=hOv.high b hb;omega)
  have ba:=b8.keep (Ak Bj) a4 fun b hb hm=>hdj.2.2 b hm hb
  have cg:=BX.chg cd a4 hgn.2.2
  have bb:Ax S w ew:=ce.trans (a4.sub hSv)
  have ee:=cf.more a4 hSv
  refine Jx.Vr Z ?_
  have aa:CI 69 208 2 (fs++(fx++S)) g ew.heap fe rg0 f1 (T.put c v):=⟨fs,Fg,fx,a9.up oM,ba.up oM,b9,⟨fun b hb hm=>by rcases a8 b hb with h9|h9|h9;exact hdj.1 b h9 hm;(have:=hOg.high b hm;omega);(have:=hOg.high b hm;omega),fun b hb hm=>by rcases ag b hm with h8|h8;(rcases a8 b hb with h9|h9|h9;exact hdj.2.1 b h9 h8;(have:=hOv.high b h8;omega);(have:=hOv.high b h8;omega));(have:=a9.high b hb;omega),fun b hm hb=>by rcases ag b hb with h8|h8;exact hdj.2.2 b hm h8;(have:=hOg.high b hm;omega)⟩,⟨fun hm=>by rcases a8 g hm with h9|h9|h9;exact hgn.1 h9;omega;omega,hgn.2.1,fun hm=>by rcases ag g hm with h9|h9;exact hgn.2.2 h9;omega⟩,fun b hb=>z8 _ hb,fun b hb=>z1 _ (z1 _ (hSg b hb)),fun b hb=>z1 _ (z8 _ hb)⟩
  have bc:G7 S (fs++(fx++S)) w ew:=⟨fun b hb=>z1 _ (z1 _ hb),fun b hb=>by rcases zi.1 hb with hb|hb;(rcases a8 b hb with h9|h9|h9;exact .inl (hSc b h9);(right;omega);(right;omega));rcases zi.1 hb with hb|hb;(rcases ag b hb with h9|h9;exact .inl (hSv b h9);(right;omega));exact .inl hb,fun b hb=>by rcases zi.1 hb with hb|hb;(have:=a9.high b hb;omega);rcases zi.1 hb with hb|hb;(exact b9.high b hb);(have:=hS b hb;omega),bb⟩
  refine B9 Z Aa<|Al (p:=zP g) 1 Gl Z Z Aa<|Al (p:=Ap (zP g) 1) (b:=g) (o:=1) 1 FV Z Z Aa (Bc (k:=2) (w:=ew) Zs Z Z (AV aa.slc) cg sM Aa fun ey ah ef aw=>?_)
  replace aw:BX ey.heap g [vp,zI ip,fe,rg0,zN,rv0,zI (s0:Int),zI c0]:=aw
  have ch:Ax S w ey:=bb.trans (ah.sub (B6 hgS))
  have ci:=CI.chg aa ah
  have cj:=bc.set hgS ah
  have di:ew.heap.size≤ey.heap.size:=ah.size
  refine B9 Z Aa<|Al (p:=zP g) 5 DZ Z Z Aa (Bc (k:=5) (w:=ey) Sf Z Z (AV aa.slv) aw sM Aa fun g0 ai eg aj=>?_)
  replace aj:BX g0.heap g [vp,zI ip,fe,rg0,zN,f1,zI (s0:Int),zI c0]:=aj
  have eh:Ax S w g0:=ch.trans (ai.sub (B6 hgS))
  have bd:=CI.chg ci ai
  have ck:=cj.set hgS ai
  have dj:ey.heap.size≤g0.heap.size:=ai.size
  exact Ai<|fC [0,0,0,2,0,0,0] Z<|Ad 1 Z<|B9 Z Aa<|Al (p:=zP g) 5 DZ Z Z Aa<|Ag (p:=Ap (zP g) 5) (.inr Z) f1 Bx Z (aj.ldp (i:=5) sM) Aa<|AS (v:=f1) BQ Z (CI.slv bd) Aa<|BJ (T.vals.length:Int) Z Z (Bl Kx Kx) Aa<|Ac 1 Z<|A1<|Ah [6] Z (zI (T.vals.length:Int)) Z ⟨_,(by rfl),ck,⟨_,_,_,aj,bd⟩⟩
 refine Jx.eM<|Cd (u:=zI v) (B:=w1.heap.size) B1 BQ Ck Z Z (Qp w1.heap.size w1.heap.size _ _ _hv) (A7 _) Aa ?_
 intro gb eu a5 ei cl
 refine Ai ?_
 have dk:w1.heap.size≤eu.heap.size:=a5.size
 have be:=Ow.ext (w:=w1.drew) (Ak Be) hOc a5
 have bf:=Ow.ext (w:=w1.drew) (Bm B1) hOv a5
 have bg:=Ow.ext (w:=w1.drew) (Ak Bj) hOg a5
 have cm:=BX.ext (w:=w1.drew) a7 a5
 have cn:Ax S w eu:=d6.drew.ext a5
 have co:=d7.drew.ext a5
 refine Jx.eM<|Cw (cs:=[zI c.op,zI c.a,zI c.b,zI c.num]) (y:=c) (B:=eu.heap.size) Be PY K2 Z (by decide) Z (Te (U:=eu.heap.size) hc) (A7 _) Aa ?_
 intro gc g4 a2 ej cp
 refine Ai ?_
 have dl:eu.heap.size≤g4.heap.size:=a2.size
 have bh:=Ow.ext (w:=eu) (Ak Be) be a2
 have bi:=Ow.ext (w:=eu) (Bm B1) bf a2
 have bj:=Ow.ext (w:=eu) (Ak Bj) bg a2
 have cq:=cl.ext (o1) a2
 have cr:=BX.ext (w:=eu) cm a2
 have ct:Ax S w g4:=cn.ext a2
 have cu:=co.ext a2
 refine Jx.fI<|NL (v:=rc0) (a:=gc) Be PY K2 Z (by decide) Z Z bh cp oM (Nat.zero_le _) (Nat.zero_le _) oM (by unfold maxLen;omega) Aa ?_
 intro g5 g6 g7 a3 cv ab
 refine Ai ⟨Ax.sub a3 fun b hb=>z8 _ hb,?_⟩
 have dm:g4.heap.size≤g6.heap.size:=a3.size
 have bk:=bi.keep (Bm B1) a3 fun b hb hm=>hdj.2.1 b hb hm
 have bl:=bj.keep (Ak Bj) a3 fun b hb hm=>hdj.1 b hb hm
 have cw:=cq.chg (o1) a3 fun b hb=>zH<|hOc.high b hb
 have cx:=BX.chg cr a3 hgn.1
 have cy:Ax S w g6:=ct.trans (a3.sub hSc)
 have cz:=cu.more a3 hSc
 refine Jx.fI<|LK (v:=rv0) (a:=gb) BQ Ck Z Z Z bk cw.rd1 (Nat.zero_le _) Qh Qg Aa ?_
 intro f2 ex g8 a6 bm ak
 refine Ai ⟨Ax.sub a6 fun b hb=>z1 _ hb,?_⟩
 have dn:g6.heap.size≤ex.heap.size:=a6.size
 have ac:=cv.keep (Ak Be) a6 fun b hb hm=>by rcases ab b hm with h9|h9|h9;exact hdj.2.1 b h9 hb;(have:=hOv.high b hb;omega);(have:=hOv.high b hb;omega)
 have bn:=bl.keep (Ak Bj) a6 fun b hb hm=>hdj.2.2 b hm hb
 have d0:=BX.chg cx a6 hgn.2.2
 have bo:Ax S w ex:=cy.trans (a6.sub hSv)
 have ek:=cz.more a6 hSv
 refine Jx.Vr Z ?_
 have ad:CI 69 208 2 (g7++(g8++S)) g ex.heap g5 rg0 f2 (T.put c v):=⟨g7,Fg,g8,ac.up oM,bn.up oM,bm,⟨fun b hb hm=>by rcases ab b hb with h9|h9|h9;exact hdj.1 b h9 hm;(have:=hOg.high b hm;omega);(have:=hOg.high b hm;omega),fun b hb hm=>by rcases ak b hm with h8|h8;(rcases ab b hb with h9|h9|h9;exact hdj.2.1 b h9 h8;(have:=hOv.high b h8;omega);(have:=hOv.high b h8;omega));(have:=ac.high b hb;omega),fun b hm hb=>by rcases ak b hb with h8|h8;exact hdj.2.2 b hm h8;(have:=hOg.high b hm;omega)⟩,⟨fun hm=>by rcases ab g hm with h9|h9|h9;exact hgn.1 h9;omega;omega,hgn.2.1,fun hm=>by rcases ak g hm with h9|h9;exact hgn.2.2 h9;omega⟩,fun b hb=>z8 _ hb,fun b hb=>z1 _ (z1 _ (hSg b hb)),fun b hb=>z1 _ (z8 _ hb)⟩
 have bp:G7 S (g7++(g8++S)) w ex:=⟨fun b hb=>z1 _ (z1 _ hb),fun b hb=>by rcases zi.1 hb with hb|hb;(rcases ab b hb with h9|h9|h9;exact .inl (hSc b h9);(right;omega);(right;omega));rcases zi.1 hb with hb|hb;(rcases ak b hb with h9|h9;exact .inl (hSv b h9);(right;omega));exact .inl hb,fun b hb=>by rcases zi.1 hb with hb|hb;(have:=ac.high b hb;omega);rcases zi.1 hb with hb|hb;(exact bm.high b hb);(have:=hS b hb;omega),bo⟩
 refine B9 Z Aa<|Al (p:=zP g) 1 Gl Z Z Aa<|Al (p:=Ap (zP g) 1) (b:=g) (o:=1) 1 FV Z Z Aa (Bc (k:=2) (w:=ex) Zs Z Z (AV ad.slc) d0 sM Aa fun ez al el ax=>?_)
 replace ax:BX ez.heap g [vp,zI ip,g5,rg0,zN,rv0,zI (s0:Int),zI c0]:=ax
 have d1:Ax S w ez:=bo.trans (al.sub (B6 hgS))
 have d2:=CI.chg ad al
 have d3:=bp.set hgS al
 have dp:ex.heap.size≤ez.heap.size:=al.size
 refine B9 Z Aa<|Al (p:=zP g) 5 DZ Z Z Aa (Bc (k:=5) (w:=ez) Sf Z Z (AV ad.slv) ax sM Aa fun g9 am em an=>?_)
 replace an:BX g9.heap g [vp,zI ip,g5,rg0,zN,f2,zI (s0:Int),zI c0]:=an
 have en:Ax S w g9:=d1.trans (am.sub (B6 hgS))
 have bq:=CI.chg d2 am
 have d4:=d3.set hgS am
 have dq:ez.heap.size≤g9.heap.size:=am.size
 exact Ai<|fC [0,0,0,2,0,0,0] Z<|Ad 1 Z<|B9 Z Aa<|Al (p:=zP g) 5 DZ Z Z Aa<|Ag (p:=Ap (zP g) 5) (.inr Z) f2 Bx Z (an.ldp (i:=5) sM) Aa<|AS (v:=f2) BQ Z (CI.slv bq) Aa<|BJ (T.vals.length:Int) Z Z (Bl Kx Kx) Aa<|Ac 1 Z<|A1<|Ah [6] Z (zI (T.vals.length:Int)) Z ⟨_,(by rfl),d4,⟨_,_,_,an,bq⟩⟩
def dN (F d:Nat):Prop:=∀(w:World) (S:List Nat) (g:Nat) (vp:Value) (dp:Nat) (ip:Int) (s0:Nat) (c0:Int) (p:List Fn) (T:Tp) (ve:Value) (ex:Ex) (vv:Value) (env:List Int) (hS:∀b∈S,b<w.heap.size) (hgS:g∈S) (hR0:Sh 69 208 2 S g w.heap vp ip T s0 c0) (hp:RP S dp w.heap vp p) (_hip:BG ip) (hs0:s0≤3000) (hc0:0≤c0∧c0≤9) (hbd:Kl T s0) (hex:RX S d w.heap ve ex) (henv:RN S (Bd rI) w.heap vv env) (hqenv:Cs vv)
  (hvp:Hz p) (hF:F≤p.length) (hwf:wf p ((F:Nat):Int) ex ((env.length:Nat):Int)=true) (hdp:env.length+ex.deep≤1000000) (hen:c0=0→Km T env),
  Calls Tryz.prog 181 #[.pointer (some ⟨g,0,none⟩),.agg #[.int .i64 ex.kind,.int .i64 ex.num,.int .i64 ex.pick,.int .i64 ex.count,ve],vv] w (fun e w'=>∃(r:Int) (S':List Nat) (T':Tp) (s1:Nat) (c1:Int),e=.returned (.int .i64 r)∧G7 S S' w w'∧Sh 69 208 2 S' g w'.heap vp ip T' s1 c1∧Xq T T' s0 s1 c1∧(c1=0→0≤r∧r<((T'.vals.length:Nat):Int))∧(BG r)∧AN (go c0 (HA (KU p F) ex env s0 T)) (r,T') s1 c1)
def fL (F d:Nat):Prop:=∀(w:World) (S:List Nat) (g:Nat) (vp:Value) (dp:Nat) (ip:Int) (s0:Nat) (c0:Int) (p:List Fn) (T:Tp) (vl:Value) (l:List Ex) (vv:Value) (env:List Int) (hS:∀b∈S,b<w.heap.size) (hgS:g∈S) (hR0:Sh 69 208 2 S g w.heap vp ip T s0 c0) (hp:RP S dp w.heap vp p) (_hip:BG ip) (hs0:s0≤3000) (hc0:0≤c0∧c0≤9) (hbd:Kl T s0) (hl:RN S (E1 5 (L6 d)) w.heap vl l) (henv:RN S (Bd rI) w.heap vv env) (hqenv:Cs vv)
  (hvp:Hz p) (hF:F≤p.length) (hwf:∀k,k<l.length→wf p ((F:Nat):Int) (l.getD k Ex.zero) ((env.length:Nat):Int)=true) (hdp:∀k,k<l.length→env.length+(l.getD k Ex.zero).deep≤1000000) (hll:l.length≤1000000) (hen:c0=0→Km T env),
  Calls Tryz.prog 102 #[.pointer (some ⟨g,0,none⟩),vl,vv] w (fun e w'=>∃(v:Value) (xs:List Int) (S':List Nat) (T':Tp) (s1:Nat) (c1:Int),e=.returned v∧G7 S S' w w'∧Sh 69 208 2 S' g w'.heap vp ip T' s1 c1∧Xq T T' s0 s1 c1∧S6 S' w.heap.size (Bd rI) w'.heap v xs∧Cs v∧xs.length=l.length∧(c1=0→Km T' xs)∧AN (go c0 (Is (KU p F) l env s0 T)) (xs,T') s1 c1)
theorem IM (w:World)(S:List Nat)(F:Nat)(g:Nat)(vp:Value)(dp:Nat)(ip:Int)(s0:Nat)(c0:Int)(p:List Fn)(T:Tp)(dl:Nat)(vl:Value)(l:List Ex)(vv:Value)(env:Sr)(hS:∀b∈S,b<w.heap.size)(hgS:g∈S)(hR0:Sh 69 208 2 S g w.heap vp ip T s0 c0)(hp:RP S dp w.heap vp p)(_hip:BG ip)(hs0:s0≤3000)(hc0:0≤c0∧c0≤9)(hbd:Kl T s0)(hl:RN S (E1 5 (L6 dl)) w.heap vl l)(henv:RN S (Bd rI) w.heap vv env)(hqenv:Cs vv)(hvp:Hz p)(hF:F≤p.length)(hwf:∀k,k<l.length→wf p (F:Int) (l.getD k Ex.zero) (env.length:Int)=true)(hdp:∀k,k<l.length→env.length+(l.getD k Ex.zero).deep≤1000000)(hll:l.length≤1000000)(hen:c0=0→Km T env)(IHv:∀d',d'<dl→dN F d') :
  Calls Tryz.prog 102 #[zP g,vl,vv] w (fun e w'=>∃(v:Value) (xs:Sr) (S':List Nat) (T':Tp) (s1:Nat) (c1:Int),e=.returned v∧G7 S S' w w'∧Sh 69 208 2 S' g w'.heap vp ip T' s1 c1∧Xq T T' s0 s1 c1∧S6 S' w.heap.size (Bd rI) w'.heap v xs∧Cs v∧xs.length=l.length∧(c1=0→Km T' xs)∧AN (go c0 (Is (KU p F) l env s0 T)) (xs,T') s1 c1):=by
 refine Au [zP g,vl,vv] 26 Tryz.func102 Z Z sM ?_
 have bd:Ax S w w:=Ax.refl S w
 have ce:=hp.lenle
 unfold maxLen at ce
 have cf:=hl.lenle
 unfold maxLen at cf
 have cg:=henv.lenL
 unfold maxLen at cg
 obtain⟨rc0,rg0,rv0,be,bf⟩:=hR0
 have cu:=be.lt
 have hG0:G7 S S w w:=G7.refl hS
 refine fE Z<|fC [3,0] Z (Dy (rI) B1 BQ Ck Aa fun v1 w1 ab bs bg=>?_)
 have ao:w.heap.size≤w1.heap.size:=ab.size
 have bh:Ax S w w1:=bd.ext ab
 have ae:=be.ext ab
 have bi:=CI.ext bf ab
 have bj:=hG0.ext ab
 refine Ac 1 Z<|A0<|fC [0,0,0] Z<|Ad 1 Z<|AS (v:=vl) Cc Z hl.isSl Aa<|Ac 1 Z<|A3 ?_
 obtain⟨Fo0,af⟩:=Ow.of_fr bg (A7 _)
 have ap:∀b∈Fo0,b∉S:=fun b hb hm=>by have:=af.low b hb;have:=hS b hm;omega
 have hMs:=bi
 have hGs:=bj
 refine AW (S:=Nat×Value×Sr×List Nat×List Nat×Tp×Nat×Int×Value×Value×Value) (fun⟨k,vo,xs,Fo,S9,T9,s9,c9,ch,vg9,vv9⟩=>([(7,vo),(13,zI (k:Int)),(0,zP g),(2,vv),(11,vl),(12,zI (l.length:Int))])) (fun⟨k,vo,xs,Fo,S9,T9,s9,c9,ch,vg9,vv9⟩ W=>Ax S w W∧BX W.heap g [vp,zI ip,ch,vg9,zN,vv9,zI (s9:Int),zI c9]∧k≤l.length∧G7 S S9 w W∧CI 69 208 2 S9 g W.heap ch vg9 vv9 T9∧Xq T T9 s0 s9 c9∧Ow (BA rI 2) w.heap.size W.heap.size W.heap vo xs Fo∧(∀b∈Fo,b∉S9)∧xs.length=k∧(c9=0→c0=0)∧(c9=0→Km T9 xs)∧AN (go c0<|Is (KU p F) (l.take k) env s0 T) (xs,T9) s9 c9) (fun⟨k,vo,xs,Fo,S9,T9,s9,c9,ch,vg9,vv9⟩=>l.length-k) (0,v1,[],Fo0,S,T,s0,c0,rc0,rg0,rv0) ⟨rfl,rfl,rfl,rfl,rfl,rfl,trivial⟩ ⟨bh,ae,sD,hGs,hMs,(by exact⟨hbd,zO⟩),af,ap,(by rfl),(by exact fun h=>h),(by exact fun _=>Km.nil _),(by exact Ti _ _ _ _ _ _)⟩ ?_
 clear bd bf hG0 bg bs ab ao bh bi bj
 rintro⟨k,vo,xs,Fo,S9,T9,s9,c9,ch,vg9,vv9⟩ ρ3 w3 ⟨aq,a3,bk,hGl,hMl,hPl,hOl,hdl,hxl,hzl,hxb,hrl⟩
 have bt:w.heap.size≤w3.heap.size:=aq.size
 have c7:=a3.lt
 have hnl:=hPl.num
 have hbl:=hPl.bnd
 refine fC [0] Z ?_
 by_cases bl:(k:Int)<(l.length:Int)
 ·refine AJ true Z Z (A5 bl) Aa<|Ai<|A0<|Af Z<|A2<|A0<|A3<|fC [0,2,3,4] Z ?_
  have hkl:k<l.length:=by omega
  refine AE (v:=vl) k Cc B3 Z Z hl.isSl Z sD Aa ?_
  obtain⟨cs6,bu,bv⟩:=hl.get (Ay dl) Ex.zero (k:=k) sD
  obtain⟨dd6,ac,c8,rfl,am⟩:=RX.of bu
  have ar:=am.rn.lenle
  unfold maxLen at ar
  refine AF (p:=AA vl k 5) (.inr Z) [zI<|(l.getD k Ex.zero).kind,zI<|(l.getD k Ex.zero).num,zI<|(l.getD k Ex.zero).pick,zI<|(l.getD k Ex.zero).count,ac] AX Z (fun cl au=>bv cl<|aq.ext au) Z Aa ?_
  have ca:=a3.lt
  refine AU (z:=.agg #[zI 0,zI 0,zI 0,zI 0,zN]) Ec Aa fun w7 ad cb av=>?_
  have bw:w3.heap.size≤w7.heap.size:=ad.size
  have bx:Ax S w w7:=aq.ext ad
  have a7:=a3.ext ad
  have bz:=CI.ext hMl ad
  have c2:=hGl.ext ad
  have hO10k:=hOl.ext (Bm B1) ad
  replace av:BX w7.heap w3.heap.size [zI 0,zI 0,zI 0,zI 0,zN]:=av
  refine B2 (vs:=[zI<|(l.getD k Ex.zero).kind,zI<|(l.getD k Ex.zero).num,zI<|(l.getD k Ex.zero).pick,zI<|(l.getD k Ex.zero).count,ac]) AX Z Z am.ones av Z Z Aa fun cc a4 c3 a8=>?_
  replace a8:BX cc.heap w3.heap.size [zI ((l.getD k Ex.zero).kind),zI ((l.getD k Ex.zero).num),zI ((l.getD k Ex.zero).pick),zI ((l.getD k Ex.zero).count),ac]:=a8
  have a9:Ax S w cc:=bx.fresh a4 (fun _ h=>zE h)
  have aw:=CI.chgO bz a4 fun b hb hm=>by rw[A9 hb]at hm;exact(zH<|hGl.lt _ hm)
  have a1:=c2.fresh a4 fun _ h=>zE h
  have bm:w7.heap.size≤cc.heap.size:=a4.size
  have ax:=a7.chg a4 (zB ·)
  have ag:=hO10k.keep (Bm B1) a4 fun b hb hm=>by have:=A9 hb;have:=hO10k.low _ hm;have:=hO10k.high _ hm;omega
  refine Ai<|Ab _ [0,0,2,0,4,3,4,0] Z<|Ad 2 Z<|AF (p:=zP w3.heap.size) (.inr Z) [zI<|(l.getD k Ex.zero).kind,zI<|(l.getD k Ex.zero).num,zI<|(l.getD k Ex.zero).pick,zI<|(l.getD k Ex.zero).count,ac] AX Z (fun cl au=>LD.of_box<|BX.ext (w:=cc) a8 au) Z Aa<|Ad 1 Z ?_
  refine AH 181 [] [] [zP g,.agg #[zI<|(l.getD k Ex.zero).kind,zI<|(l.getD k Ex.zero).num,zI<|(l.getD k Ex.zero).pick,zI<|(l.getD k Ex.zero).count,ac],vv] Z Z M9 Aa (IHv dd6 oM _ S9 g vp dp ip (s9) (c9) p (T9) ac (l.getD k Ex.zero) vv (env) (fun b hb=>(a1.lt b hb:b<cc.heap.size)) (a1.sub _ hgS) ⟨_,_,_,ax,aw⟩ (RN.stp (An<|Av dp) hp a9 a1.new) _hip oM oM hbl ⟨am.rng,RN.stp (An<|Ay dd6) am.rn a9 a1.new⟩ (RN.stp g1 henv a9 a1.new) hqenv hvp oM (by exact hwf k hkl) (by exact hdp k hkl) (by intro h9;exact(hen<|hzl h9).mono oM)) ?_
  rintro cw cd ⟨cm,ci,cn,co,cp,rfl,a0,⟨cj,vg18,vv18,ay,az⟩,ah,ai,aj,ak⟩
  refine⟨_,rfl,?_⟩
  have bn:cc.heap.size≤cd.heap.size:=a0.chg.size
  have b0:Ax S w cd:=a9.stp a0.chg a1.new
  have b1:=ag.keep (Bm B1) a0.chg fun b hb hm=>hdl b hm hb
  have a5:∀b∈Fo,b∉ci:=fun b hb hm=>(a0.new b hm).elim (hdl b hb) (fun h9=>zH<|ag.high b hb)
  have b2:=a8.chg a0.chg fun hm=>(zH<|hGl.lt _ hm)
  have b3:w3.heap.size∉ci:=fun hm=>(a0.new _ hm).elim (fun hm=>(zH<|hGl.lt _ hm)) (fun h9=>by omega)
  have b4:=a1.trans a0
  have bo:=ah.bnd
  have bp:=ah.num
  have hcz:=fun h9=>ZU ak h9
  have hrv:=ai
  refine (Cd (u:=zI cm) (B:=cd.heap.size) B1 BQ Ck Z Z (Qp cd.heap.size cd.heap.size _ _ aj) (A7 _) Aa ?_)
  intro cs ck a2 c4 b5
  have bq:cd.heap.size≤ck.heap.size:=a2.size
  have b6:Ax S w ck:=b0.ext a2
  have aa:=ay.ext a2
  have an:=b2.ext a2
  have b7:=CI.ext az a2
  have al:=b4.ext a2
  have hO29k:=b1.ext (Bm B1) a2
  refine LK (v:=vo) (a:=cs) BQ Ck Z Z Z hO29k b5.rd1 oM sD (by unfold maxLen;first|omega|assumption|(simp;done)|(simp;omega)) Aa fun ct cq cr a6 c5 b8=>?_
  have br:ck.heap.size≤cq.heap.size:=a6.size
  have b9:Ax S w cq:=b6.fresh a6 (fun c hc=>zH<|hO29k.low c hc)
  have c6:∀b∈cr,b∉ci:=fun b hb hm=>(b8 b hb).elim (fun h9=>a5 b h9 hm) (fun h9=>zH<|al.lt b hm)
  have ba:=CI.chgO b7 a6 a5
  have bb:=al.fresh a6 fun c hc=>zH<|hO29k.low c hc
  have bc:=aa.chg a6 fun hm=>zH<|hO29k.low _ hm
  refine Ac 1 Z<|Ab _ [0,0] Z<|AR ((k+1:Nat):Int) Z Z (Bl oM oM) Aa<|Ac 1 Z ?_
  have hMe:=ba
  have hGe:=bb
  have hPe:Xq T cn s0 co cp:=⟨by assumption,zO⟩
  exact⟨(k+1,ct,xs++[cm],cr,ci,cn,co,cp,cj,vg18,vv18),_,rfl,zR,⟨b9,bc,sD,hGe,hMe,hPe,(by assumption),(by assumption),(by rw[z4,zd,hxl]),(by exact fun h9=>hzl (hcz h9)),(by exact fun h9=>Km.snoc ((hxb (hcz h9)).mono oM) (hrv h9)),(by exact VC oM hrl (by assumption))⟩,zD⟩
 exact AJ false Z Z (A6 bl) Aa<|Ai<|A0<|Aj Z<|A4<|Az<|Az<|Aw<|fC [0,0] Z<|Ac 2 Z<|A1<|Ah [6] Z vo Z ⟨vo,xs,_,T9,s9,c9,rfl,hGl,⟨_,_,_,a3,hMl⟩,⟨hbl,oM⟩,S6.of_ow hOl hdl,hOl.fr.cap,oM,hxb,(by rw[za oM]at hrl;exact hrl)⟩
theorem Fs (w:World)(v:Value)(n:Nat)(hs:Fx v n)(hcs:Cs v)  :
  Calls Tryz.prog 228 #[v] w (fun e w'=>e=.returned (Ea v)∧w'=w):=by
 refine Au [v] 9 Tryz.func228 Z Z sM ?_
 have a0:w=w:=rfl
 exact fE Z<|fC [0,0,0,0,0,0,0] Z<|Ad 2 Z<|AS (v:=v) BQ Z hs Aa<|Ad 1 Z<|AS (v:=v) BQ Z hs Aa<|SA (v:=v) BQ Ck Z hs Z Z hcs Aa<|Ac 1 Z<|A1<|Ah [2] Z (Ea v) Z ⟨rfl,a0⟩
theorem Ky {p:Prop}(h:p:=by first|rw[(Tj (k:=c_op) (a:=a) (b:=b) oM).1,(Tj (k:=c_op) (a:=a) (b:=b) oM).2] <;> rfl|rw[(Tk (k:=c_op) (a:=a) (b:=b) oM).1,(Tk (k:=c_op) (a:=a) (b:=b) oM).2] <;> rfl|rw[(Tl (k:=c_op) (a:=a) (b:=b) oM).1,(Tl (k:=c_op) (a:=a) (b:=b) oM).2] <;> rfl|rw[(Tm (k:=c_op) (a:=a) (b:=b) oM).1,(Tm (k:=c_op) (a:=a) (b:=b) oM).2] <;> rfl|rw[(QU (k:=c_op) (a:=a) (b:=b) oM oM).1,(QU (k:=c_op) (a:=a) (b:=b) oM oM).2] <;> rfl|rw[(Tn (k:=c_op) (a:=a) (b:=b) oM oM).1,(Tn (k:=c_op) (a:=a) (b:=b) oM oM).2] <;> rfl):p:=h
theorem HI (w:World)(c_op c_a c_b c_n:Int)(a:Int)(b:Int)(_hc_op:BG c_op)(_hc_a:BG c_a)(_hc_b:BG c_b)(_hc_n:BG c_n)(_ha:BG a)(_hb:BG b)(hop:3≤c_op∧c_op≤7) :
  Calls Tryz.prog 258 #[(.agg #[(zI c_op),(zI c_a),(zI c_b),(zI c_n)]),zI a,zI b] w (fun e w'=>e=.returned (.tuple #[zI (if Ez c_op b then 0 else HN c_op a b),.bool (!decide (Ez c_op b))])∧AD w w'):=by
 refine Au [.agg #[zI c_op,zI c_a,zI c_b,zI c_n],zI a,zI b] 35 Tryz.func258 Z Z sM ?_
 have a8:AD w w:=AD.refl w
 refine fC [3,0,0] Z (Bv (cs:=#[zI c_op,zI c_a,zI c_b,zI c_n]) Z Aa fun w1 a3 aa a2=>?_)
 have a9:=a3.size
 have a0:=a8.trans a3
 replace a2:BX w1.heap w.heap.size [zI c_op,zI c_a,zI c_b,zI c_n]:=a2
 refine Ac 2 Z<|A0<|fC [0,2] Z<|Al (p:=zP w.heap.size) 0 Me Z Z Aa<|Ag (p:=Ap (zP w.heap.size) 0) (.inr Z) (zI c_op) AI Z (a2.ldp (i:=0) sM) Aa<|Ai<|A3<|fC [0,0] Z ?_
 by_cases a4:c_op=((3:Nat):Int)
 ·refine As true Z Z (A5 a4) Aa<|Ac 1 Z<|Af Z<|fC [0,0,0,0,0] Z<|Ad 2 Z<|AG 230 [] [] [zI a,zI b] Z Z UH Aa (zI<|md (a+b)) (fun wq=>Ib wq _ _ _ha _hb)<|Ac 2 Z<|A1<|AL<|Ao ?_
  exact Ah [6,7] Z (.tuple #[zI<|md (a+b),.bool true]) Z ⟨Ky,a0⟩
 refine As false Z Z (A6 a4) Aa<|Ac 1 Z<|Aj Z<|fC [0,0] Z ?_
 by_cases a5:c_op=((4:Nat):Int)
 ·refine As true Z Z (A5 a5) Aa<|Ac 1 Z<|Af Z<|fC [0,0,0,0,0] Z<|Ad 2 Z<|AG 191 [] [] [zI a,zI b] Z Z UE Aa (zI<|md (a-b)) (fun wq=>Hr wq _ _ _ha _hb)<|Ac 2 Z<|A1<|AL<|Ao ?_
  exact Ah [6,7] Z (.tuple #[zI<|md (a-b),.bool true]) Z ⟨Ky,a0⟩
 refine As false Z Z (A6 a5) Aa<|Ac 1 Z<|Aj Z<|fC [0,0] Z ?_
 by_cases a6:c_op=((5:Nat):Int)
 ·refine As true Z Z (A5 a6) Aa<|Ac 1 Z<|Af Z<|fC [0,0,0,0,0] Z<|Ad 2 Z<|AG 190 [] [] [zI a,zI b] Z Z Y0 Aa (zI<|md (a*b)) (fun wq=>K3 wq _ _ _ha _hb)<|Ac 2 Z<|A1<|AL<|Ao ?_
  exact Ah [6,7] Z (.tuple #[zI<|md (a*b),.bool true]) Z ⟨Ky,a0⟩
 refine As false Z Z (A6 a6) Aa<|Ac 1 Z<|Aj Z<|fC [0,0] Z ?_
 by_cases a7:c_op=((7:Nat):Int)
 ·refine As true Z Z (A5 a7) Aa<|Ac 1 Z<|Af Z<|fC [0,0,0,0] Z<|Ad 1 Z<|AG 191 [] [] [zI ((0:Nat):Int),zI a] Z Z UE Aa (zI<|md (((0:Nat):Int)-a)) (fun wq=>Hr wq _ _ oM _ha)<|Ac 2 Z<|A1<|AL<|Ao ?_
  exact Ah [6,7] Z (.tuple #[zI<|md (((0:Nat):Int)-a),.bool true]) Z ⟨Ky,a0⟩
 refine As false Z Z (A6 a7) Aa<|Ac 1 Z<|Aj Z<|A2<|A0<|fC [0,0] Z<|Ad 1 Z ?_
 by_cases a1:b=((0:Nat):Int)
 ·refine As true Z Z (A5 a1) Aa<|Ai<|Af Z<|fC [0,0] Z<|Ac 2 Z<|A1<|Ao ?_
  exact Ah [6,7] Z (.tuple #[zI ((0:Nat):Int),.bool false]) Z ⟨Ky,a0⟩
 refine As false Z Z (A6 a1) Aa<|Ai<|Aj Z<|A2<|fC [0,0,0,0,0,0] Z<|Ad 2 Z<|AG 226 [] [] [zI b] Z Z Y6 Aa (zI<|inv b) (fun wq=>Ic wq _ _hb)<|AG 190 [] [] [zI a,zI<|inv b] Z Z Y0 Aa (zI<|md (a*(inv b))) (fun wq=>K3 wq _ _ _ha<|Qz _)<|Ac 2 Z<|A1 ?_
 exact Ah [6,7] Z (.tuple #[zI<|md (a*(inv b)),.bool true]) Z ⟨Ky,a0⟩
theorem Oe {p:Prop}(h:p:=by first|exact VE hc00 oM (ZV (by assumption))|exact VF hc00 oM (eN (by assumption))|exact VG hc00 oM|exact absurd (ZV (Q:=Ez op _) (by assumption)) (Xp oM)):p:=h
theorem Of {p:Prop}(h:p:=by first|(intro h9;exact absurd h9 oM)|(intro h9;omega)):p:=h
theorem Og {p:Prop}(h:p:=by first|exact hbd.up oM|exact hbd.put _ hvr):p:=h
theorem Ew {p:Prop}(h:p:=by have:=hG0.lt _ hm;omega):p:=h
theorem Gc (w:World)(S:List Nat)(g:Nat)(vp:Value)(dp:Nat)(ip:Int)(s0:Nat)(c0:Int)(p:List Fn)(T:Tp)(op:Int)(vk:Value)(ks:Sr)(hS:∀b∈S,b<w.heap.size)(hgS:g∈S)(hR0:Sh 69 208 2 S g w.heap vp ip T s0 c0)(hp:RP S dp w.heap vp p)(_hip:BG ip)(hs0:s0≤3000)(hc0:0≤c0∧c0≤9)(hbd:Kl T s0)(_hop:BG op)(hks:RN S (Bd rI) w.heap vk ks)(hqks:Cs vk)(hop:3≤op∧op≤7)(hkl:1≤ks.length∧(op≠7→2≤ks.length))(hen:Km T ks)(hc00:c0=0) :
  Calls Tryz.prog 229 #[zP g,zI op,vk] w (fun e w'=>∃(r:Int) (S':List Nat) (T':Tp) (c1:Int),e=.returned (zI r)∧G7 S S' w w'∧Sh 69 208 2 S' g w'.heap vp ip T' s0 c1∧Kl T' (s0+1)∧((0≤c1∧c1≤9)∧T.vals.length≤T'.vals.length∧T'.vals.length≤T.vals.length+1∧T'.grd.length=T.grd.length)∧(c1=0→0≤r∧r<(T'.vals.length:Int))∧(BG r)∧AN (go c0 (Tf op ks s0 T)) (r,T') s0 c1):=by
 refine Au [zP g,zI op,vk] 51 Tryz.func229 Z Z sM ?_
 have bi:Ax S w w:=Ax.refl S w
 have cd:=hp.lenle
 unfold maxLen at cd
 have cg:=hks.lenL
 unfold maxLen at cg
 obtain⟨rc0,rg0,rv0,b0,bv⟩:=hR0
 have cx:=b0.lt
 have hG0:G7 S S w w:=G7.refl hS
 have ch:=hen 0 oM
 have hbn:=hbd.ln hs0
 refine fE Z<|fC [0,0,0,2,0,3,4] Z<|Ad 2 Z<|AE (v:=vk) 0 BQ Ck Z Z hks.slL Z sD Aa ?_
 have am:=RN.getI (w:=w) (k:=0) hks sD
 refine Ag (p:=AA vk 0 1) (.inr Z) (zI<|ks.getD 0 0) AI Z (am.1 _ bi) Aa ?_
 have b1:∀(wq:World),(Instr.build 69 #[(0,zI op),(1,zI (ks.getD 0 0))]).run Tryz.prog wq=.ok (.agg #[zI op,zI (ks.getD 0 0),zI 0,zI 0]) wq:=by intro wq;kernel_rfl
 refine Bh (ps:=#[(0,zI op),(1,zI<|ks.getD 0 0)]) (.agg #[zI op,zI<|ks.getD 0 0,zI 0,zI 0]) (by simp only[zc,zf,zh];rfl) (fun wq=>b1  wq) Aa ?_
 have ci:=b0.lt
 refine AU (z:=.agg #[zI 0,zI 0,zI 0,zI 0]) UL Aa fun w3 an cj b2=>?_
 have bw:w.heap.size≤w3.heap.size:=an.size
 have bx:Ax S w w3:=bi.ext an
 have ao:=b0.ext an
 have bz:=CI.ext bv an
 have c2:=hG0.ext an
 replace b2:BX w3.heap w.heap.size [zI 0,zI 0,zI 0,zI 0]:=b2
 refine B2 (vs:=[zI op,zI<|ks.getD 0 0,zI (0:Int),zI (0:Int)]) FW Z Z (by intro u hu;simp only[ze,z2,or_false]at hu;rcases hu with rfl|rfl|rfl|rfl <;> first|exact⟨rfl,rfl⟩) b2 Z Z Aa fun w6 ap ck ag=>?_
 replace ag:BX w6.heap w.heap.size [zI op,zI (ks.getD 0 0),zI (0:Int),zI (0:Int)]:=ag
 have b3:Ax S w w6:=bx.fresh ap (fun _ h=>zE h)
 have af:=CI.chgO bz ap fun b hb hm=>by rw[A9 hb]at hm;exact Ew
 have bj:=c2.fresh ap fun _ h=>zE h
 have c3:w3.heap.size≤w6.heap.size:=ap.size
 have az:=ao.chg ap (zB ·)
 refine Ai<|A0<|fC [0,0] Z<|Ad 1 Z ?_
 by_cases aq:op≠((7:Nat):Int)
 ·refine AT true Z Z (A5 aq) Aa<|Ai<|Af Z<|Ab _ [0,0,2,0,4] Z ?_
  have cl:=hen 1 oM
  refine Ad 1 Z<|AE (v:=vk) 1 BQ Ck Z Z hks.slL Z sD Aa ?_
  have ah:=RN.getI (w:=w) (k:=1) hks sD
  refine Ag (p:=AA vk 1 1) (.inr Z) (zI<|ks.getD 1 0) AI Z (ah.1 _ b3) Aa<|Al (p:=zP w.heap.size) 2 CS Z Z Aa (Bc (k:=2) (w:=w6) I9 Z Z ⟨rfl,rfl⟩ ag sM Aa fun cm a9 c4 a8=>?_)
  replace a8:BX cm.heap w.heap.size [zI op,zI (ks.getD 0 0),zI (ks.getD 1 0),zI (0:Int)]:=a8
  have b4:Ax S w cm:=b3.fresh a9 (fun _ h=>zE h)
  have a3:=CI.chgO af a9 fun b hb hm=>by rw[A9 hb]at hm;exact Ew
  have b5:=bj.fresh a9 fun _ h=>zE h
  have bk:w6.heap.size≤cm.heap.size:=a9.size
  have ai:=az.chg a9 (zB ·)
  refine Ai<|A0<|AQ _ [1,0,0,0,1,0,1,0,1,0,0,0,1,0,1,0,1,3,0,0,0,0,0] mixed (by kernel_rfl)<|AF (p:=zP w.heap.size) (.inl Z) [zI op,zI<|ks.getD 0 0,zI<|ks.getD 1 0,zI (0:Int)] FW Z (fun cn aj=>LD.of_box<|BX.ext (w:=cm.drew) a8 aj) Z Aa<|Ad 1 Z<|B9 Z Aa<|Al (p:=zP g) 5 DZ Z Z Aa<|Ag (p:=Ap (zP g) 5) (.inl Z) rv0 Bx Z (ai.ldp (i:=5) sM) Aa<|Al (p:=zP w.heap.size) 1 D3 Z Z Aa ?_
  refine Ag (p:=Ap (zP w.heap.size) 1) (.inl Z) (zI<|ks.getD 0 0) AI Z (a8.ldp (i:=1) sM) Aa<|AE (v:=rv0) ((ks.getD 0 0).toNat) BQ Ck Z Z (CI.slv a3) oM oM Aa (Ag (p:=AA rv0 ((ks.getD 0 0).toNat) 1) (.inl Z) (zI<|T.vals.getD ((ks.getD 0 0).toNat) 0) AI Z ((CI.rdv a3).getI oM).1 Aa (Ad 1 Z<|B9 Z Aa<|Al (p:=zP g) 5 DZ Z Z Aa<|Ag (p:=Ap (zP g) 5) (.inl Z) rv0 Bx Z (ai.ldp (i:=5) sM) Aa<|Al (p:=zP w.heap.size) 2 CS Z Z Aa ?_))
  refine Ag (p:=Ap (zP w.heap.size) 2) (.inl Z) (zI<|ks.getD 1 0) AI Z (a8.ldp (i:=2) sM) Aa<|AE (v:=rv0) ((ks.getD 1 0).toNat) BQ Ck Z Z (CI.slv a3) oM oM Aa (Ag (p:=AA rv0 ((ks.getD 1 0).toNat) 1) (.inl Z) (zI<|T.vals.getD ((ks.getD 1 0).toNat) 0) AI Z ((CI.rdv a3).getI oM).1 Aa (At 258 [] [] [.agg #[zI op,zI<|ks.getD 0 0,zI<|ks.getD 1 0,zI (0:Int)],zI<|T.vals.getD ((ks.getD 0 0).toNat) 0,zI<|T.vals.getD ((ks.getD 1 0).toNat) 0] Z Z Ya Aa (HI _ (op) (ks.getD 0 0) (ks.getD 1 0) (0:Int) _ _ _hop am.2 ah.2 oM ((CI.rdv a3).getI oM).2 ((CI.rdv a3).getI oM).2 oM) ?_))
  rintro cy c7 ⟨rfl,a0⟩
  refine⟨_,rfl,a0,?_⟩
  replace a0:=a0.of_drew
  have bl:cm.heap.size≤c7.heap.size:=a0.size
  have ar:Ax S w c7:=b4.ext a0
  have a7:=ai.ext a0
  have a2:=a8.ext a0
  have c5:=(CI.rdv a3).ext g1 a0
  have au:=CI.ext a3 a0
  have aa:=b5.ext a0
  refine Ad 1 Z<|AO (vs:=[zI (if Ez op (T.vals.getD ((ks.getD 1 0).toNat) 0)then 0 else HN op (T.vals.getD ((ks.getD 0 0).toNat) 0) (T.vals.getD ((ks.getD 1 0).toNat) 0)),.bool (!decide (Ez op<|T.vals.getD ((ks.getD 1 0).toNat) 0))]) (zI (if Ez op (T.vals.getD ((ks.getD 1 0).toNat) 0)then 0 else HN op (T.vals.getD ((ks.getD 0 0).toNat) 0) (T.vals.getD ((ks.getD 1 0).toNat) 0))) Z Z Aa<|AO (vs:=[zI (if Ez op (T.vals.getD ((ks.getD 1 0).toNat) 0)then 0 else HN op (T.vals.getD ((ks.getD 0 0).toNat) 0) (T.vals.getD ((ks.getD 1 0).toNat) 0)),.bool (!decide (Ez op<|T.vals.getD ((ks.getD 1 0).toNat) 0))]) (.bool (!decide (Ez op<|T.vals.getD ((ks.getD 1 0).toNat) 0))) Z Z Aa<|Ac 2 Z<|A0<|fC [0,0] Z ?_
  have hvr:0≤(if Ez op (T.vals.getD ((ks.getD 1 0).toNat) 0)then 0 else HN op (T.vals.getD ((ks.getD 0 0).toNat) 0) (T.vals.getD ((ks.getD 1 0).toNat) 0))∧(if Ez op (T.vals.getD ((ks.getD 1 0).toNat) 0)then 0 else HN op (T.vals.getD ((ks.getD 0 0).toNat) 0) (T.vals.getD ((ks.getD 1 0).toNat) 0))<1000003:=QW _ _ _
  refine Ad 1 Z<|Bq (!(!decide (Ez op<|T.vals.getD ((ks.getD 1 0).toNat) 0))) Z Z Aa<|Ai ?_
  cases av:(!(!decide (Ez op (T.vals.getD ((ks.getD 1 0).toNat) 0))))
  ·refine Aj (by first|rfl|exact zW av)<|A2<|fC [0,2,0,4,0] Z<|Ad 1 Z<|AF (p:=zP w.heap.size) (.inr Z) [zI op,zI<|ks.getD 0 0,zI<|ks.getD 1 0,zI (0:Int)] FW Z (fun cn aj=>LD.of_box<|BX.ext (w:=c7) a2 aj) Z Aa<|Ad 1 Z ?_
   refine AH 101 [] [] [zP g,.agg #[zI op,zI<|ks.getD 0 0,zI<|ks.getD 1 0,zI (0:Int)],zI (if Ez op (T.vals.getD ((ks.getD 1 0).toNat) 0)then 0 else HN op (T.vals.getD ((ks.getD 0 0).toNat) 0) (T.vals.getD ((ks.getD 1 0).toNat) 0))] Z Z Rv Aa (CX _ S g vp ip (s0) (c0) (T) (⟨op,ks.getD 0 0,ks.getD 1 0,(0:Int)⟩:AM) (if Ez op (T.vals.getD ((ks.getD 1 0).toNat) 0)then 0 else HN op (T.vals.getD ((ks.getD 0 0).toNat) 0) (T.vals.getD ((ks.getD 1 0).toNat) 0)) (fun b hb=>(aa.lt b hb:b<c7.heap.size)) (aa.sub _ hgS) ⟨_,_,_,a7,au⟩ _hip (by exact hbd.ln hs0) ⟨_hop,am.2,ah.2,(show BG (0:Int)from by omega)⟩ (by have:=NN op (T.vals.getD ((ks.getD 0 0).toNat) 0) (T.vals.getD ((ks.getD 1 0).toNat) 0);split <;> omega)) ?_
   rintro cz cq ⟨cs,rfl,a4,ct,vg20,vv20,b6,b7⟩
   refine⟨_,rfl,?_⟩
   have bm:c7.heap.size≤cq.heap.size:=a4.chg.size
   have c6:Ax S w cq:=ar.stp a4.chg aa.new
   have b8:w.heap.size∉cs:=fun hm=>(a4.new _ hm).elim (fun hm=>Ew) (fun h9=>by omega)
   have b9:=aa.trans a4
   have bn:(T.put (⟨op,ks.getD 0 0,ks.getD 1 0,(0:Int)⟩:AM) (if Ez op (T.vals.getD ((ks.getD 1 0).toNat) 0)then 0 else HN op (T.vals.getD ((ks.getD 0 0).toNat) 0) (T.vals.getD ((ks.getD 1 0).toNat) 0))).vals.length=T.vals.length+1:=Hi _ _ _
   have bo:(T.put (⟨op,ks.getD 0 0,ks.getD 1 0,(0:Int)⟩:AM) (if Ez op (T.vals.getD ((ks.getD 1 0).toNat) 0)then 0 else HN op (T.vals.getD ((ks.getD 0 0).toNat) 0) (T.vals.getD ((ks.getD 1 0).toNat) 0))).grd.length=T.grd.length:=rfl
   exact Ac 1 Z<|A1<|Ah [6] Z (zI (T.vals.length:Int)) Z ⟨(T.vals.length:Int),_,T.put (⟨op,ks.getD 0 0,ks.getD 1 0,(0:Int)⟩:AM) (if Ez op (T.vals.getD ((ks.getD 1 0).toNat) 0)then 0 else HN op (T.vals.getD ((ks.getD 0 0).toNat) 0) (T.vals.getD ((ks.getD 1 0).toNat) 0)),c0,rfl,b9,⟨_,_,_,b6,b7⟩,Og,oM,Of,oM,Oe⟩
  refine Af (by first|rfl|exact zW av)<|fC [0,0,0,4] Z<|Ad 1 Z<|B9 Z Aa<|Al (p:=zP g) 7 FE Z Z Aa (Bc (k:=7) (w:=c7) I9 Z Z ⟨rfl,rfl⟩ a7 sM Aa fun co ab c8 ak=>?_)
  replace ak:BX co.heap g [vp,zI ip,rc0,rg0,zN,rv0,zI (s0:Int),zI ((6:Nat):Int)]:=ak
  have c9:Ax S w co:=ar.trans (ab.sub (B6 hgS))
  have ba:=CI.chg au ab
  have bb:=aa.set hgS ab
  have bp:c7.heap.size≤co.heap.size:=ab.size
  exact Ai<|fE Z<|A1<|Ao<|Ah [6] Z (zI ((0:Nat):Int)) Z ⟨((0:Nat):Int),_,T,((6:Nat):Int),rfl,bb,⟨_,_,_,ak,ba⟩,Og,oM,Of,oM,Oe⟩
 refine AT false Z Z (A6 aq) Aa<|Ai<|Aj Z<|A2<|A0<|AQ _ [1,0,0,0,1,0,1,0,1,0,0,0,1,0,1,0,1,3,0,0,0,0,0] mixed (by kernel_rfl)<|AF (p:=zP w.heap.size) (.inl Z) [zI op,zI<|ks.getD 0 0,zI (0:Int),zI (0:Int)] FW Z (fun cn aj=>LD.of_box<|BX.ext (w:=w6.drew) ag aj) Z Aa<|Ad 1 Z<|B9 Z Aa<|Al (p:=zP g) 5 DZ Z Z Aa<|Ag (p:=Ap (zP g) 5) (.inl Z) rv0 Bx Z (az.ldp (i:=5) sM) Aa<|Al (p:=zP w.heap.size) 1 D3 Z Z Aa ?_
 refine Ag (p:=Ap (zP w.heap.size) 1) (.inl Z) (zI<|ks.getD 0 0) AI Z (ag.ldp (i:=1) sM) Aa<|AE (v:=rv0) ((ks.getD 0 0).toNat) BQ Ck Z Z (CI.slv af) oM oM Aa (Ag (p:=AA rv0 ((ks.getD 0 0).toNat) 1) (.inl Z) (zI<|T.vals.getD ((ks.getD 0 0).toNat) 0) AI Z ((CI.rdv af).getI oM).1 Aa (Ad 1 Z<|B9 Z Aa<|Al (p:=zP g) 5 DZ Z Z Aa<|Ag (p:=Ap (zP g) 5) (.inl Z) rv0 Bx Z (az.ldp (i:=5) sM) Aa<|Al (p:=zP w.heap.size) 2 CS Z Z Aa ?_))
 refine Ag (p:=Ap (zP w.heap.size) 2) (.inl Z) (zI (0:Int)) AI Z (ag.ldp (i:=2) sM) Aa<|AE (v:=rv0) ((0:Int).toNat) BQ Ck Z Z (CI.slv af) oM oM Aa (Ag (p:=AA rv0 ((0:Int).toNat) 1) (.inl Z) (zI<|T.vals.getD ((0:Int).toNat) 0) AI Z ((CI.rdv af).getI oM).1 Aa (At 258 [] [] [.agg #[zI op,zI<|ks.getD 0 0,zI (0:Int),zI (0:Int)],zI<|T.vals.getD ((ks.getD 0 0).toNat) 0,zI<|T.vals.getD ((0:Int).toNat) 0] Z Z Ya Aa (HI _ (op) (ks.getD 0 0) (0:Int) (0:Int) _ _ _hop am.2 oM oM ((CI.rdv af).getI oM).2 ((CI.rdv af).getI oM).2 oM) ?_))
 rintro d0 ca ⟨rfl,a1⟩
 refine⟨_,rfl,a1,?_⟩
 replace a1:=a1.of_drew
 have bq:w6.heap.size≤ca.heap.size:=a1.size
 have aw:Ax S w ca:=b3.ext a1
 have ac:=az.ext a1
 have a6:=ag.ext a1
 have cb:=(CI.rdv af).ext g1 a1
 have ax:=CI.ext af a1
 have ad:=bj.ext a1
 refine Ad 1 Z<|AO (vs:=[zI (if Ez op (T.vals.getD ((0:Int).toNat) 0)then 0 else HN op (T.vals.getD ((ks.getD 0 0).toNat) 0) (T.vals.getD ((0:Int).toNat) 0)),.bool (!decide (Ez op<|T.vals.getD ((0:Int).toNat) 0))]) (zI (if Ez op (T.vals.getD ((0:Int).toNat) 0)then 0 else HN op (T.vals.getD ((ks.getD 0 0).toNat) 0) (T.vals.getD ((0:Int).toNat) 0))) Z Z Aa<|AO (vs:=[zI (if Ez op (T.vals.getD ((0:Int).toNat) 0)then 0 else HN op (T.vals.getD ((ks.getD 0 0).toNat) 0) (T.vals.getD ((0:Int).toNat) 0)),.bool (!decide (Ez op<|T.vals.getD ((0:Int).toNat) 0))]) (.bool (!decide (Ez op<|T.vals.getD ((0:Int).toNat) 0))) Z Z Aa<|Ac 2 Z<|A0<|fC [0,0] Z ?_
 have hvr:0≤(if Ez op (T.vals.getD ((0:Int).toNat) 0)then 0 else HN op (T.vals.getD ((ks.getD 0 0).toNat) 0) (T.vals.getD ((0:Int).toNat) 0))∧(if Ez op (T.vals.getD ((0:Int).toNat) 0)then 0 else HN op (T.vals.getD ((ks.getD 0 0).toNat) 0) (T.vals.getD ((0:Int).toNat) 0))<1000003:=QW _ _ _
 refine Ad 1 Z<|Bq (!(!decide (Ez op<|T.vals.getD ((0:Int).toNat) 0))) Z Z Aa<|Ai ?_
 cases ay:(!(!decide (Ez op (T.vals.getD ((0:Int).toNat) 0))))
 ·refine Aj (by first|rfl|exact zW ay)<|A2<|fC [0,2,0,4,0] Z<|Ad 1 Z<|AF (p:=zP w.heap.size) (.inr Z) [zI op,zI<|ks.getD 0 0,zI (0:Int),zI (0:Int)] FW Z (fun cn aj=>LD.of_box<|BX.ext (w:=ca) a6 aj) Z Aa<|Ad 1 Z ?_
  refine AH 101 [] [] [zP g,.agg #[zI op,zI<|ks.getD 0 0,zI (0:Int),zI (0:Int)],zI (if Ez op (T.vals.getD ((0:Int).toNat) 0)then 0 else HN op (T.vals.getD ((ks.getD 0 0).toNat) 0) (T.vals.getD ((0:Int).toNat) 0))] Z Z Rv Aa (CX _ S g vp ip (s0) (c0) (T) (⟨op,ks.getD 0 0,(0:Int),(0:Int)⟩:AM) (if Ez op (T.vals.getD ((0:Int).toNat) 0)then 0 else HN op (T.vals.getD ((ks.getD 0 0).toNat) 0) (T.vals.getD ((0:Int).toNat) 0)) (fun b hb=>(ad.lt b hb:b<ca.heap.size)) (ad.sub _ hgS) ⟨_,_,_,ac,ax⟩ _hip (by exact hbd.ln hs0) ⟨_hop,am.2,(show BG (0:Int)from by omega),(show BG (0:Int)from by omega)⟩ (by have:=NN op (T.vals.getD ((ks.getD 0 0).toNat) 0) (T.vals.getD ((0:Int).toNat) 0);split <;> omega)) ?_
  rintro d1 cr ⟨cu,rfl,a5,cw,vg36,vv36,bc,bd⟩
  refine⟨_,rfl,?_⟩
  have br:ca.heap.size≤cr.heap.size:=a5.chg.size
  have cc:Ax S w cr:=aw.stp a5.chg ad.new
  have be:w.heap.size∉cu:=fun hm=>(a5.new _ hm).elim (fun hm=>Ew) (fun h9=>by omega)
  have bf:=ad.trans a5
  have bs:(T.put (⟨op,ks.getD 0 0,(0:Int),(0:Int)⟩:AM) (if Ez op (T.vals.getD ((0:Int).toNat) 0)then 0 else HN op (T.vals.getD ((ks.getD 0 0).toNat) 0) (T.vals.getD ((0:Int).toNat) 0))).vals.length=T.vals.length+1:=Hi _ _ _
  have bt:(T.put (⟨op,ks.getD 0 0,(0:Int),(0:Int)⟩:AM) (if Ez op (T.vals.getD ((0:Int).toNat) 0)then 0 else HN op (T.vals.getD ((ks.getD 0 0).toNat) 0) (T.vals.getD ((0:Int).toNat) 0))).grd.length=T.grd.length:=rfl
  exact Ac 1 Z<|A1<|Ah [6] Z (zI (T.vals.length:Int)) Z ⟨(T.vals.length:Int),_,T.put (⟨op,ks.getD 0 0,(0:Int),(0:Int)⟩:AM) (if Ez op (T.vals.getD ((0:Int).toNat) 0)then 0 else HN op (T.vals.getD ((ks.getD 0 0).toNat) 0) (T.vals.getD ((0:Int).toNat) 0)),c0,rfl,bf,⟨_,_,_,bc,bd⟩,Og,oM,Of,oM,Oe⟩
 refine Af (by first|rfl|exact zW ay)<|fC [0,0,0,4] Z<|Ad 1 Z<|B9 Z Aa<|Al (p:=zP g) 7 FE Z Z Aa (Bc (k:=7) (w:=ca) I9 Z Z ⟨rfl,rfl⟩ ac sM Aa fun cp ae ce al=>?_)
 replace al:BX cp.heap g [vp,zI ip,rc0,rg0,zN,rv0,zI (s0:Int),zI ((6:Nat):Int)]:=al
 have cf:Ax S w cp:=aw.trans (ae.sub (B6 hgS))
 have bg:=CI.chg ax ae
 have bh:=ad.set hgS ae
 have bu:ca.heap.size≤cp.heap.size:=ae.size
 exact Ai<|fE Z<|A1<|Ao<|Ah [6] Z (zI ((0:Nat):Int)) Z ⟨((0:Nat):Int),_,T,((6:Nat):Int),rfl,bh,⟨_,_,_,al,bg⟩,Og,oM,Of,oM,Oe⟩
theorem Qi (F d:Nat)(IH:∀d',d'<d→dN F d'):fL F d:=by
 intro w S g vp dp ip s0 c0 p T vl l vv env hS hgS hR0 hp hip hs0 hc0 hbd hl henv hqenv hvp hF hwf hdp hll hen
 exact IM w S F g vp dp ip s0 c0 p T d vl l vv env hS hgS hR0 hp hip hs0 hc0 hbd hl henv hqenv hvp hF hwf hdp hll hen IH
theorem EH {p:Prop}(h:p:=by first|exact Vz oM|exact S5 oM oM|exact YY hc00 hs1 oM|exact YZ hc00 hs1 oM|exact Z0 hc00 hs1 oM oM hL1 oM|exact Z1 hc00 hs1 oM oM hL1 oM (by assumption) hL2|exact Z2 hc00 hs1 oM oM hL1 oM (by assumption) hL2|exact Z3 hc00 hs1 oM oM hL1 hL2|exact Th hc00 hs1 hkg.1 hkg.2.1 hkg.2.2.1 hkg.2.2.2 hKr oM|exact VA hc00 hs1 oM oM hKr oM hL2|exact VB hc00 hs1 oM oM hKr oM (VD hrl9 oM oM)|exact ZT hc00 hs1 hkg.1 hkg.2.1 hkg.2.2.1 hkg.2.2.2 oM oM hKr oM hL2):p:=h
theorem EI {p:Prop}(h:p:=by first|(intro h9;exact absurd h9 oM)|assumption|(intro h9;omega)|(intro h9;have:=hkb9 h9;omega)):p:=h
theorem Hu {p:Prop}(h:p:=by first|assumption|exact hbd.up oM|exact Kl.guard (by assumption) _ _ oM):p:=h
theorem EJ {p:Prop}(h:p:=by first|assumption|exact hbd.put _ oM|exact Kl.dn (by assumption) oM oM):p:=h
theorem IN (w:World)(S:List Nat)(F:Nat)(g:Nat)(vp:Value)(dp:Nat)(ip:Int)(s0:Nat)(c0:Int)(p:List Fn)(T:Tp)(dex:Nat)(ve:Value)(ex:Ex)(vv:Value)(env:Sr)(hS:∀b∈S,b<w.heap.size)(hgS:g∈S)(hR0:Sh 69 208 2 S g w.heap vp ip T s0 c0)(hp:RP S dp w.heap vp p)(_hip:BG ip)(hs0:s0≤3000)(hc0:0≤c0∧c0≤9)(hbd:Kl T s0)(hex:RX S dex w.heap ve ex)(henv:RN S (Bd rI) w.heap vv env)(hqenv:Cs vv)(hvp:Hz p)(hF:F≤p.length)(hwf:wf p (F:Int) ex (env.length:Int)=true)(hdp:env.length+ex.deep≤1000000)(hen:c0=0→Km T env)(IH1:∀F',F'<F→∀d,dN F' d)(IH2:∀d',d'<dex→dN F d') :
  Calls Tryz.prog 181 #[zP g,(.agg #[(zI ex.kind),(zI ex.num),(zI ex.pick),(zI ex.count),ve]),vv] w (fun e w'=>∃(r:Int) (S':List Nat) (T':Tp) (s1:Nat) (c1:Int),e=.returned (zI r)∧G7 S S' w w'∧Sh 69 208 2 S' g w'.heap vp ip T' s1 c1∧Xq T T' s0 s1 c1∧(c1=0→0≤r∧r<(T'.vals.length:Int))∧(BG r)∧AN (go c0 (HA (KU p F) ex env s0 T)) (r,T') s1 c1):=by
 refine Au [zP g,.agg #[zI ex.kind,zI ex.num,zI ex.pick,zI ex.count,ve],vv] 190 Tryz.func181 Z Z sM ?_
 have j4:Ax S w w:=Ax.refl S w
 have lf:=hp.lenle
 unfold maxLen at lf
 have lg:=hex.rn.lenle
 unfold maxLen at lg
 have lh:=henv.lenL
 unfold maxLen at lh
 obtain⟨rc0,rg0,rv0,g9,j5⟩:=hR0
 have nj:=g9.lt
 have hG0:G7 S S w w:=G7.refl hS
 have hdk:=E9 ex
 refine fC [3,0] Z ?_
 have ky:=g9.lt
 refine Bv (cs:=#[zI ex.kind,zI ex.num,zI ex.pick,zI ex.count,ve]) Z Aa fun w1 d3 ka g0=>?_
 have ga:w.heap.size≤w1.heap.size:=d3.size
 have gb:Ax S w w1:=j4.ext d3
 have ai:=g9.ext d3
 have g2:=CI.ext j5 d3
 have g3:=hG0.ext d3
 replace g0:BX w1.heap w.heap.size [zI ex.kind,zI ex.num,zI ex.pick,zI ex.count,ve]:=g0
 refine Ac 1 Z<|A0<|fC [0,0,0,2,0] Z<|Ad 1 Z<|B9 Z Aa<|Al (p:=zP g) 7 FE Z Z Aa<|Ag (p:=Ap (zP g) 7) (.inr Z) (zI c0) AI Z (ai.ldp (i:=7) sM) Aa ?_
 by_cases j6:c0≠((0:Nat):Int)
 ·refine AT true Z Z (A5 j6) Aa<|Ai<|Af Z<|fE Z<|A1<|Ao ?_
  exact Ah [6] Z (zI ((0:Nat):Int)) Z ⟨((0:Nat):Int),_,T,s0,c0,rfl,g3,⟨_,_,_,ai,g2⟩,⟨EJ,oM⟩,EI,oM,EH⟩
 refine AT false Z Z (A6 j6) Aa<|Ai<|Aj Z<|A2<|A0<|fC [0,0,0,2,0] Z<|Ad 1 Z<|B9 Z Aa<|Al (p:=zP g) 6 O4 Z Z Aa<|Ag (p:=Ap (zP g) 6) (.inr Z) (zI (s0:Int)) AI Z (ai.ldp (i:=6) sM) Aa ?_
 by_cases j7:(s0:Int)=((3000:Nat):Int)
 ·refine As true Z Z (A5 j7) Aa<|Ai<|Af Z<|fC [0,0,0,4] Z<|Ad 1 Z<|B9 Z Aa<|Al (p:=zP g) 7 FE Z Z Aa (Bc (k:=7) (w:=w1) I9 Z Z ⟨rfl,rfl⟩ ai sM Aa fun w6 d4 kz gc=>?_)
  replace gc:BX w6.heap g [vp,zI ip,rc0,rg0,zN,rv0,zI (s0:Int),zI ((7:Nat):Int)]:=gc
  have l0:Ax S w w6:=gb.trans (d4.sub (B6 hgS))
  have kb:=CI.chg g2 d4
  have kc:=g3.set hgS d4
  have kd:w1.heap.size≤w6.heap.size:=d4.size
  have ke:=g0.chg d4 (zB ·)
  refine Ai<|fE Z<|A1<|Ao ?_
  exact Ah [6] Z (zI ((0:Nat):Int)) Z ⟨((0:Nat):Int),_,T,s0,((7:Nat):Int),rfl,kc,⟨_,_,_,gc,kb⟩,⟨EJ,oM⟩,EI,oM,EH⟩
 refine As false Z Z (A6 j7) Aa<|Ai<|Aj Z<|A2<|fC [0,0,0,2,0,0,0,4] Z<|Ad 1 Z<|B9 Z Aa<|Al (p:=zP g) 6 O4 Z Z Aa<|Ag (p:=Ap (zP g) 6) (.inr Z) (zI (s0:Int)) AI Z (ai.ldp (i:=6) sM) Aa<|AR ((s0+1:Nat):Int) Z Z (Bl oM oM) Aa<|B9 Z Aa<|Al (p:=zP g) 6 O4 Z Z Aa (Bc (k:=6) (w:=w1) I9 Z Z ⟨rfl,rfl⟩ ai sM Aa fun f9 b0 gd aw=>?_)
 replace aw:BX f9.heap g [vp,zI ip,rc0,rg0,zN,rv0,zI ((s0+1:Nat):Int),zI c0]:=aw
 have a4:Ax S w f9:=gb.trans (b0.sub (B6 hgS))
 have b1:=CI.chg g2 b0
 have a0:=g3.set hgS b0
 have d5:w1.heap.size≤f9.heap.size:=b0.size
 have ac:=g0.chg b0 (zB ·)
 refine Ai<|A0<|fC [0,2] Z ?_
 have hc00:c0=0:=by omega
 have hs1:s0+1≤3000:=by omega
 have ax:=hen hc00
 have kf:=hbd.up (s':=s0+1) oM
 have hbn:=hbd.2
 refine Al (p:=zP w.heap.size) 0 Bn Z Z Aa<|Ag (p:=Ap (zP w.heap.size) 0) (.inr Z) (zI ex.kind) AI Z (ac.ldp (i:=0) sM) Aa<|Ai<|A3<|fC [0,0] Z ?_
 by_cases d6:ex.kind=((1:Nat):Int)
 ·refine As true Z Z (A5 d6) Aa<|Ac 1 Z<|Af Z<|fC [0,0,2,0,0,2,4,0] Z ?_
  have hwk:=PE hwf oM
  refine Ad 1 Z<|Al (p:=zP w.heap.size) 1 BL Z Z Aa<|Ag (p:=Ap (zP w.heap.size) 1) (.inr Z) (zI ex.num) AI Z (ac.ldp (i:=1) sM) Aa ?_
  have d7:∀(wq:World),(Instr.build 69 #[(0,zI ((2:Nat):Int)),(3,zI ex.num)]).run Tryz.prog wq=.ok (.agg #[zI ((2:Nat):Int),zI 0,zI 0,zI ex.num]) wq:=by intro wq;kernel_rfl
  refine Bh (ps:=#[(0,zI ((2:Nat):Int)),(3,zI ex.num)]) (.agg #[zI ((2:Nat):Int),zI 0,zI 0,zI ex.num]) (by simp only[zc,zf,zh];rfl) (fun wq=>d7  wq) Aa<|Al (p:=zP w.heap.size) 1 BL Z Z Aa<|Ag (p:=Ap (zP w.heap.size) 1) (.inr Z) (zI ex.num) AI Z (ac.ldp (i:=1) sM) Aa ?_
  refine AH 101 [] [] [zP g,.agg #[zI ((2:Nat):Int),zI (0:Int),zI (0:Int),zI ex.num],zI ex.num] Z Z Rv Aa (CX _ S g vp ip (s0+1) (c0) (T) (⟨((2:Nat):Int),(0:Int),(0:Int),ex.num⟩:AM) (ex.num) (fun b hb=>(a0.lt b hb:b<f9.heap.size)) (a0.sub _ hgS) ⟨_,_,_,aw,b1⟩ _hip (by exact Kl.ln (by assumption) oM) ⟨(show BG ((2:Nat):Int)from by omega),(show BG (0:Int)from by omega),(show BG (0:Int)from by omega),hex.rng.num⟩ hex.rng.num) ?_
  rintro nk mc ⟨mr,rfl,an,ms,vg18,vv18,ge,gf⟩
  refine⟨_,rfl,?_⟩
  have j8:f9.heap.size≤mc.heap.size:=an.chg.size
  have kg:Ax S w mc:=a4.stp an.chg a0.new
  have kh:=ac.chg an.chg fun hm=>Ew
  have gg:w.heap.size∉mr:=fun hm=>(an.new _ hm).elim (fun hm=>Ew) (fun h9=>by omega)
  have gh:=a0.trans an
  have j9:(T.put (⟨((2:Nat):Int),(0:Int),(0:Int),ex.num⟩:AM) (ex.num)).vals.length=T.vals.length+1:=Hi _ _ _
  have ja:(T.put (⟨((2:Nat):Int),(0:Int),(0:Int),ex.num⟩:AM) (ex.num)).grd.length=T.grd.length:=rfl
  refine Ac 1 Z<|A1<|AL<|Ao ?_
  exact Ah [6] Z (zI (T.vals.length:Int)) Z ⟨(T.vals.length:Int),_,T.put (⟨((2:Nat):Int),(0:Int),(0:Int),ex.num⟩:AM)<|ex.num,s0+1,c0,rfl,gh,⟨_,_,_,ge,gf⟩,⟨EJ,oM⟩,EI,oM,EH⟩
 refine As false Z Z (A6 d6) Aa<|Ac 1 Z<|Aj Z<|fC [0,0] Z ?_
 by_cases d8:ex.kind=((2:Nat):Int)
 ·refine As true Z Z (A5 d8) Aa<|Ac 1 Z<|Af Z<|fC [0,0,2,0,2,0] Z ?_
  have hwk:=PF hwf oM
  have hRv:=ax ex.num.toNat oM
  refine Ad 1 Z<|Al (p:=zP w.heap.size) 1 BL Z Z Aa<|Ag (p:=Ap (zP w.heap.size) 1) (.inr Z) (zI ex.num) AI Z (ac.ldp (i:=1) sM) Aa<|AE (v:=vv) ((ex.num).toNat) BQ Ck Z Z henv.slL oM oM Aa ?_
  have da:=RN.getI (w:=w) (k:=(ex.num).toNat) henv oM
  refine Ag (p:=AA vv ((ex.num).toNat) 1) (.inr Z) (zI<|env.getD ((ex.num).toNat) 0) AI Z (da.1 _ a4) Aa<|Ac 1 Z<|A1<|AL<|Ao ?_
  exact Ah [6] Z (zI<|env.getD ((ex.num).toNat) 0) Z ⟨env.getD ((ex.num).toNat) 0,_,T,s0+1,c0,rfl,a0,⟨_,_,_,aw,b1⟩,⟨EJ,oM⟩,EI,da.2,EH⟩
 refine As false Z Z (A6 d8) Aa<|Ac 1 Z<|Aj Z<|fC [0,0] Z ?_
 by_cases db:ex.kind=((8:Nat):Int)
 ·refine As true Z Z (A5 db) Aa<|Ac 1 Z<|Af Z<|fC [0,0,2,0,2,0,4,0] Z ?_
  have hwk:=T3 hwf oM
  refine Ad 1 Z<|Al (p:=zP w.heap.size) 4 AY Z Z Aa<|Ag (p:=Ap (zP w.heap.size) 4) (.inr Z) ve B7 Z (ac.ldp (i:=4) sM) Aa<|AE (v:=ve) 0 Cc B3 Z Z hex.rn.isSl Z sD Aa ?_
  obtain⟨cs28,gi,gj⟩:=hex.rn.get (Ay dex) Ex.zero (k:=0) sD
  obtain⟨dd28,cc,ki,rfl,cd⟩:=RX.of gi
  have dc:=cd.rn.lenle
  unfold maxLen at dc
  refine AF (p:=AA ve 0 5) (.inr Z) [zI<|(ex.kids.getD 0 Ex.zero).kind,zI<|(ex.kids.getD 0 Ex.zero).num,zI<|(ex.kids.getD 0 Ex.zero).pick,zI<|(ex.kids.getD 0 Ex.zero).count,cc] AX Z (fun l7 ce=>gj l7<|a4.ext ce) Z Aa<|Ad 1 Z ?_
  refine AH 181 [] [] [zP g,.agg #[zI<|(ex.kids.getD 0 Ex.zero).kind,zI<|(ex.kids.getD 0 Ex.zero).num,zI<|(ex.kids.getD 0 Ex.zero).pick,zI<|(ex.kids.getD 0 Ex.zero).count,cc],vv] Z Z M9 Aa (IH2 dd28 oM _ S g vp dp ip (s0+1) (c0) p (T) cc (ex.kids.getD 0 Ex.zero) vv (env) (fun b hb=>(a0.lt b hb:b<f9.heap.size)) (a0.sub _ hgS) ⟨_,_,_,aw,b1⟩ (RN.stp (An<|Av dp) hp a4 a0.new) _hip oM oM Hu ⟨cd.rng,RN.stp (An<|Ay dd28) cd.rn a4 a0.new⟩ (RN.stp g1 henv a4 a0.new) hqenv hvp oM (by exact E6 hwf oM oM) (zH<|DB (l:=ex.kids) (k:=0) oM) (by exact fun _=>ax)) ?_
  rintro nl l6 ⟨f1,m2,f2,ly,lb,rfl,ao,⟨li,vg29,vv29,b4,b5⟩,dd,de,df,dg⟩
  refine⟨_,rfl,?_⟩
  have jb:f9.heap.size≤l6.heap.size:=ao.chg.size
  have dh:Ax S w l6:=a4.stp ao.chg a0.new
  have di:=ac.chg ao.chg fun hm=>Ew
  have b6:w.heap.size∉m2:=fun hm=>(ao.new _ hm).elim (fun hm=>Ew) (fun h9=>by omega)
  have bi:=a0.trans ao
  have jc:=dd.bnd
  have jd:=dd.num
  have gk:=de
  have hL1:=dg
  refine Ac 1 Z<|A0<|fC [0,0,0,2,0] Z<|Ad 1 Z<|B9 Z Aa<|Al (p:=zP g) 7 FE Z Z Aa<|Ag (p:=Ap (zP g) 7) (.inr Z) (zI lb) AI Z (b4.ldp (i:=7) sM) Aa ?_
  by_cases dj:lb≠((0:Nat):Int)
  ·refine AT true Z Z (A5 dj) Aa<|Ai<|Af Z<|fE Z<|A1<|Ao<|AL<|Ao ?_
   exact Ah [6] Z (zI ((0:Nat):Int)) Z ⟨((0:Nat):Int),_,f2,ly,lb,rfl,bi,⟨_,_,_,b4,b5⟩,⟨EJ,oM⟩,EI,oM,EH⟩
  refine AT false Z Z (A6 dj) Aa<|Ai<|Aj Z<|A2<|fC [0,0,0,2,0,0,2,0,0] Z ?_
  have hR1c:=gk oM
  refine Ad 1 Z<|B9 Z Aa<|Al (p:=zP g) 5 DZ Z Z Aa<|Ag (p:=Ap (zP g) 5) (.inr Z) vv29 Bx Z (b4.ldp (i:=5) sM) Aa<|Ad 1 Z<|AE (v:=vv29) ((f1).toNat) BQ Ck Z Z (CI.slv b5) oM oM Aa (Ag (p:=AA vv29 ((f1).toNat) 1) (.inr Z) (zI<|f2.vals.getD ((f1).toNat) 0) AI Z ((CI.rdv b5).getI oM).1 Aa (As (decide (f2.vals.getD ((f1).toNat) 0=((0:Nat):Int))) Z Z Z Aa<|Ac 1 Z<|A0 ?_))
  obtain⟨Fc38,Fg38,Fv38,b7,dk,b8,ap,az,dl,bt,dm⟩:=id b5
  refine Ab _ [0,0,0,0,0,2,0,0,0,3,4,0,0,0,4] Z<|Ad 2 Z<|B9 Z Aa<|Al (p:=zP g) 1 Gl Z Z Aa<|Al (p:=Ap (zP g) 1) (b:=g) (o:=1) 2 O3 Z Z Aa<|Ag (p:=Ap (Ap (zP g) 1) 2) (.inr Z) vg29 UJ Z (b4.ldp (i:=3) sM) Aa<|Ad 2 Z ?_
  have dn:∀(wq:World),(Instr.build 208 #[(0,zI f1),(1,.bool (decide (f2.vals.getD ((f1).toNat) 0=((0:Nat):Int))))]).run Tryz.prog wq=.ok (.agg #[zI f1,.bool (decide (f2.vals.getD ((f1).toNat) 0=((0:Nat):Int)))]) wq:=by intro wq;kernel_rfl
  refine Bh (ps:=#[(0,zI f1),(1,.bool<|decide (f2.vals.getD ((f1).toNat) 0=((0:Nat):Int)))]) (.agg #[zI f1,.bool<|decide (f2.vals.getD ((f1).toNat) 0=((0:Nat):Int))]) (by simp only[zc,zf,zh];rfl) (fun wq=>dn  wq) Aa (Cw (cs:=[zI f1,.bool<|decide (f2.vals.getD ((f1).toNat) 0=((0:Nat):Int))]) (y:=(⟨f1,decide (f2.vals.getD ((f1).toNat) 0=((0:Nat):Int))⟩:Jb)) (B:=l6.heap.size) Bj cW PZ Z (by decide) Z (YX (x:=(⟨f1,decide (f2.vals.getD ((f1).toNat) 0=((0:Nat):Int))⟩:Jb)) (B:=l6.heap.size) (U:=l6.heap.size) df) (A7 _) Aa fun mt m3 a7 kj gl=>?_)
  have je:l6.heap.size≤m3.heap.size:=a7.size
  have kk:Ax S w m3:=dh.ext a7
  have bj:=b4.ext a7
  have g4:=di.ext a7
  have kl:=(CI.rdv b5).ext g1 a7
  have gm:=bi.ext a7
  have hOc38x:=b7.ext (Ak Be) a7
  have hOg38x:=dk.ext (Ak Bj) a7
  have hOv38x:=b8.ext (Bm B1) a7
  refine NL (v:=vg29) (a:=mt) Bj cW PZ Z (by decide) Z Z hOg38x gl (A7 _) (Nat.zero_le _) (Nat.zero_le _) oM (by unfold maxLen;omega) Aa fun me l8 mf b9 dq bk=>?_
  have dr:m3.heap.size≤l8.heap.size:=b9.size
  obtain⟨lj,bu⟩:∃l:List Nat,l=mf++m2:=⟨_,rfl⟩
  have aq:G7 m2 lj l6 l8:=by rw[bu];exact⟨fun b hb=>z1 _ hb,fun b hb=>by rcases zi.1 hb with hb|hb;(rcases bk b hb with h9|h9|h9;exact .inl (bt b h9);(have:=a7.size;omega);(have:=a7.size;omega));exact .inl hb,fun b hb=>by rcases zi.1 hb with hb|hb;exact dq.high b hb;(have:=gm.lt b hb;omega),(Ax.of_ext _ a7).trans (b9.sub bt)⟩
  have ds:CI 69 208 2 lj g l8.heap li me vv29 (f2.guard (f1) (decide (f2.vals.getD ((f1).toNat) 0=((0:Nat):Int)))):=⟨Fc38,mf,Fv38,(hOc38x.up a7.size).chgS (Ak Be) b9 (fun b hb hm=>ap.1 b hm hb),dq,(hOv38x.up a7.size).chgS (Bm B1) b9 (fun b hb hm=>ap.2.2 b hb hm),⟨fun b hb hm=>by rcases bk b hm with h9|h9|h9;exact ap.1 b hb h9;(have:=b7.high b hb;omega);(have:=b7.high b hb;have:=a7.size;omega),ap.2.1,fun b hm hb=>by rcases bk b hm with h9|h9|h9;exact ap.2.2 b h9 hb;(have:=b8.high b hb;omega);(have:=b8.high b hb;have:=a7.size;omega)⟩,⟨az.1,fun hm=>by rcases bk g hm with h9|h9|h9;exact az.2.1 h9;omega;omega,az.2.2⟩,by rw[bu];exact⟨fun b hb=>z1 _ (dl b hb),fun b hb=>z8 _ hb,fun b hb=>z1 _ (dm b hb)⟩⟩
  have gn:=bj.chg b9 az.2.1
  have dr:l6.heap.size≤l8.heap.size:=aq.chg.size
  have gp:Ax S w l8:=dh.stp aq.chg bi.new
  have gq:=di.chg aq.chg fun hm=>b6 hm
  have al:w.heap.size∉lj:=fun hm=>(aq.new _ hm).elim (fun hm=>b6 hm) (fun h9=>by omega)
  have gr:=bi.trans aq
  have jf:(f2.guard (f1) (decide (f2.vals.getD ((f1).toNat) 0=((0:Nat):Int)))).vals.length=f2.vals.length:=rfl
  have jg:(f2.guard (f1) (decide (f2.vals.getD ((f1).toNat) 0=((0:Nat):Int)))).grd.length=f2.grd.length+1:=OS _ _ _
  refine B9 Z Aa<|Al (p:=zP g) 1 Gl Z Z Aa<|Al (p:=Ap (zP g) 1) (b:=g) (o:=1) 2 O3 Z Z Aa (Bc (k:=3) (w:=l8) fk Z Z (AV ds.slg) gn sM Aa fun l9 ba km bl=>?_)
  replace bl:BX l9.heap g [vp,zI ip,li,me,zN,vv29,zI (ly:Int),zI lb]:=bl
  have ah:Ax S w l9:=gp.trans (ba.sub (B6 hgS))
  have dt:=CI.chg ds ba
  have aa:=gr.set hgS ba
  have jh:l8.heap.size≤l9.heap.size:=ba.size
  have bm:=gq.chg ba (zB ·)
  refine Ai<|A0<|fC [0] Z<|Ac 1 Z ?_
  cases bn:(decide (f2.vals.getD ((f1).toNat) 0=((0:Nat):Int)))
  ·have ji:=of_decide_eq_false bn
   refine Aj (by first|rfl|exact zW bn)<|A2<|fC [0,0,2,0,2,0,4,0] Z<|Ad 1 Z<|Al (p:=zP w.heap.size) 4 AY Z Z Aa<|Ag (p:=Ap (zP w.heap.size) 4) (.inr Z) ve B7 Z (bm.ldp (i:=4) sM) Aa<|AE (v:=ve) 2 Cc B3 Z Z hex.rn.isSl Z sD Aa ?_
   obtain⟨cs60,gs,gt⟩:=hex.rn.get (Ay dex) Ex.zero (k:=2) sD
   obtain⟨dd60,cf,kn,rfl,cg⟩:=RX.of gs
   have du:=cg.rn.lenle
   unfold maxLen at du
   refine AF (p:=AA ve 2 5) (.inr Z) [zI<|(ex.kids.getD 2 Ex.zero).kind,zI<|(ex.kids.getD 2 Ex.zero).num,zI<|(ex.kids.getD 2 Ex.zero).pick,zI<|(ex.kids.getD 2 Ex.zero).count,cf] AX Z (fun l7 ce=>gt l7<|ah.ext ce) Z Aa<|Ad 1 Z ?_
   refine AH 181 [] [] [zP g,.agg #[zI<|(ex.kids.getD 2 Ex.zero).kind,zI<|(ex.kids.getD 2 Ex.zero).num,zI<|(ex.kids.getD 2 Ex.zero).pick,zI<|(ex.kids.getD 2 Ex.zero).count,cf],vv] Z Z M9 Aa (IH2 dd60 oM _ lj g vp dp ip (ly) (lb) p (f2.guard (f1)<|decide (f2.vals.getD ((f1).toNat) 0=((0:Nat):Int))) cf (ex.kids.getD 2 Ex.zero) vv (env) (fun b hb=>(aa.lt b hb:b<l9.heap.size)) (aa.sub _ hgS) ⟨_,_,_,bl,dt⟩ (RN.stp (An<|Av dp) hp ah aa.new) _hip oM oM Hu ⟨cg.rng,RN.stp (An<|Ay dd60) cg.rn ah aa.new⟩ (RN.stp g1 henv ah aa.new) hqenv hvp oM (by exact E6 hwf oM oM) (zH<|DB (l:=ex.kids) (k:=2) oM) (by exact fun _=>ax.mono (by simp only[OR];omega))) ?_
   rintro nm mg ⟨mh,mu,mv,mw,mx,rfl,ar,⟨my,vg61,vv61,gu,gv⟩,dv,dw,dx,dy⟩
   refine⟨_,rfl,?_⟩
   have jj:l9.heap.size≤mg.heap.size:=ar.chg.size
   have ko:Ax S w mg:=ah.stp ar.chg aa.new
   have kp:=bm.chg ar.chg fun hm=>al hm
   have gw:w.heap.size∉mu:=fun hm=>(ar.new _ hm).elim (fun hm=>al hm) (fun h9=>by omega)
   have gx:=aa.trans ar
   have jk:=dv.bnd
   have jl:=dv.num
   have hRv:=dw
   have hL2:=dy
   refine Ac 1 Z<|A1<|AL<|Ao ?_
   exact Ah [6] Z (zI mh) Z ⟨mh,_,mv,mw,mx,rfl,gx,⟨_,_,_,gu,gv⟩,⟨EJ,oM⟩,EI,dx,EH⟩
  have jm:=of_decide_eq_true bn
  refine Af (by first|rfl|exact zW bn)<|fC [0,0,2,0,2,0,4,0] Z<|Ad 1 Z<|Al (p:=zP w.heap.size) 4 AY Z Z Aa<|Ag (p:=Ap (zP w.heap.size) 4) (.inr Z) ve B7 Z (bm.ldp (i:=4) sM) Aa<|AE (v:=ve) 1 Cc B3 Z Z hex.rn.isSl Z sD Aa ?_
  obtain⟨cs72,gy,gz⟩:=hex.rn.get (Ay dex) Ex.zero (k:=1) sD
  obtain⟨dd72,ch,kq,rfl,ci⟩:=RX.of gy
  have dz:=ci.rn.lenle
  unfold maxLen at dz
  refine AF (p:=AA ve 1 5) (.inr Z) [zI<|(ex.kids.getD 1 Ex.zero).kind,zI<|(ex.kids.getD 1 Ex.zero).num,zI<|(ex.kids.getD 1 Ex.zero).pick,zI<|(ex.kids.getD 1 Ex.zero).count,ch] AX Z (fun l7 ce=>gz l7<|ah.ext ce) Z Aa<|Ad 1 Z ?_
  refine AH 181 [] [] [zP g,.agg #[zI<|(ex.kids.getD 1 Ex.zero).kind,zI<|(ex.kids.getD 1 Ex.zero).num,zI<|(ex.kids.getD 1 Ex.zero).pick,zI<|(ex.kids.getD 1 Ex.zero).count,ch],vv] Z Z M9 Aa (IH2 dd72 oM _ lj g vp dp ip (ly) (lb) p (f2.guard (f1)<|decide (f2.vals.getD ((f1).toNat) 0=((0:Nat):Int))) ch (ex.kids.getD 1 Ex.zero) vv (env) (fun b hb=>(aa.lt b hb:b<l9.heap.size)) (aa.sub _ hgS) ⟨_,_,_,bl,dt⟩ (RN.stp (An<|Av dp) hp ah aa.new) _hip oM oM Hu ⟨ci.rng,RN.stp (An<|Ay dd72) ci.rn ah aa.new⟩ (RN.stp g1 henv ah aa.new) hqenv hvp oM (by exact E6 hwf oM oM) (zH<|DB (l:=ex.kids) (k:=1) oM) (by exact fun _=>ax.mono (by simp only[OR];omega))) ?_
  rintro nn mi ⟨mj,mz,n0,n1,n2,rfl,au,⟨n3,vg73,vv73,i0,i1⟩,e0,e1,e2,e3⟩
  refine⟨_,rfl,?_⟩
  have jn:l9.heap.size≤mi.heap.size:=au.chg.size
  have kr:Ax S w mi:=ah.stp au.chg aa.new
  have kt:=bm.chg au.chg fun hm=>al hm
  have i2:w.heap.size∉mz:=fun hm=>(au.new _ hm).elim (fun hm=>al hm) (fun h9=>by omega)
  have i3:=aa.trans au
  have jo:=e0.bnd
  have jp:=e0.num
  have hRv:=e1
  have hL2:=e3
  refine Ac 1 Z<|A1<|Ao<|AL<|Ao ?_
  exact Ah [6] Z (zI mj) Z ⟨mj,_,n0,n1,n2,rfl,i3,⟨_,_,_,i0,i1⟩,⟨EJ,oM⟩,EI,e2,EH⟩
 refine As false Z Z (A6 db) Aa<|Ac 1 Z<|Aj Z<|fC [0,0] Z ?_
 by_cases e4:ex.kind=((9:Nat):Int)
 ·refine As true Z Z (A5 e4) Aa<|Ac 1 Z<|Af Z<|A0 ?_
  letI:JR:=Sg S
  refine Jx.AQ _ [0,0,1,0,1,0,0,0,0,1,0,1,0,3,3,3,4,0] mixed (by kernel_rfl) ?_
  have hwk:=PG hwf oM
  refine Jx.Yt (zP g) Z Aa<|Jx.Al (p:=zP w.heap.size) 4 AY Z Z Aa<|Jx.dT (p:=Ap (zP w.heap.size) 4) ve B7 Z (fun wj hj=>(BX.chg (w:=f9.drew) (F:=S) ac hj fun hm=>zH<|hS _ hm).ldp (i:=4) sM) Aa<|Jx.AE (v:=ve) 1 Cc B3 Z Z hex.rn.isSl Z sD Aa ?_
  obtain⟨cs84,i4,i5⟩:=hex.rn.get (Ay dex) Ex.zero (k:=1) sD
  obtain⟨dd84,cj,ku,rfl,ck⟩:=RX.of i4
  have e5:=ck.rn.lenle
  unfold maxLen at e5
  refine Jx.ZL (p:=AA ve 1 5) [zI<|(ex.kids.getD 1 Ex.zero).kind,zI<|(ex.kids.getD 1 Ex.zero).num,zI<|(ex.kids.getD 1 Ex.zero).pick,zI<|(ex.kids.getD 1 Ex.zero).count,cj] AX Z (fun wj hj=>i5 wj<|Ax.trans a4.drew (show Ax S f9.drew wj from hj)) Z Aa<|Jx.Yt vv Z Aa<|Jx.AG 228 [] [] [vv] Z Z cH Aa (Ea vv) (fun wq=>Fs wq vv _ henv.slL hqenv)<|Jx.Yt (zP g) Z Aa<|Jx.Al (p:=zP w.heap.size) 4 AY Z Z Aa<|Jx.dT (p:=Ap (zP w.heap.size) 4) ve B7 Z (fun wj hj=>(BX.chg (w:=f9.drew) (F:=S) ac hj fun hm=>zH<|hS _ hm).ldp (i:=4) sM) Aa ?_
  refine Jx.AE (v:=ve) 0 Cc B3 Z Z hex.rn.isSl Z sD Aa ?_
  obtain⟨cs85,i6,i7⟩:=hex.rn.get (Ay dex) Ex.zero (k:=0) sD
  obtain⟨dd85,cl,kv,rfl,cm⟩:=RX.of i6
  have e6:=cm.rn.lenle
  unfold maxLen at e6
  refine Jx.ZL (p:=AA ve 0 5) [zI<|(ex.kids.getD 0 Ex.zero).kind,zI<|(ex.kids.getD 0 Ex.zero).num,zI<|(ex.kids.getD 0 Ex.zero).pick,zI<|(ex.kids.getD 0 Ex.zero).count,cl] AX Z (fun wj hj=>i7 wj<|Ax.trans a4.drew (show Ax S f9.drew wj from hj)) Z Aa<|Jx.Yt vv Z Aa ?_
  refine Jx.At 181 [] [] [zP g,.agg #[zI<|(ex.kids.getD 0 Ex.zero).kind,zI<|(ex.kids.getD 0 Ex.zero).num,zI<|(ex.kids.getD 0 Ex.zero).pick,zI<|(ex.kids.getD 0 Ex.zero).count,cl],vv] Z Z M9 Aa (IH2 dd85 oM _ S g vp dp ip (s0+1) (c0) p (T) cl (ex.kids.getD 0 Ex.zero) vv (env) (fun b hb=>(a0.drew.lt b hb:b<f9.heap.size)) (a0.drew.sub _ hgS) ⟨_,_,_,aw,b1⟩ (RN.stp (An<|Av dp) hp a4.drew a0.drew.new) _hip oM oM Hu ⟨cm.rng,RN.stp (An<|Ay dd85) cm.rn a4.drew a0.drew.new⟩ (RN.stp g1 henv a4.drew a0.drew.new) hqenv hvp oM (by exact E6 hwf oM oM) (zH<|DB (l:=ex.kids) (k:=0) oM) (by exact fun _=>ax)) ?_
  rintro no lc ⟨lz,ml,n4,n5,n6,rfl,ad,⟨n7,vg86,vv86,i8,i9⟩,e7,e8,e9,ea⟩
  refine⟨_,rfl,ad.chg,?_⟩
  replace ad:=ad.of_drew
  have jq:f9.heap.size≤lc.heap.size:=ad.chg.size
  have ia:Ax S w lc:=a4.stp ad.chg a0.new
  have ib:=ac.chg ad.chg fun hm=>Ew
  have bb:w.heap.size∉ml:=fun hm=>(ad.new _ hm).elim (fun hm=>Ew) (fun h9=>by omega)
  have ic:=a0.trans ad
  have jr:=e7.bnd
  have js:=e7.num
  have gk:=e8
  have hL1:=ea
  refine Jx.eM<|Cd (u:=zI lz) (B:=lc.heap.size) BK BQ Ck Z Z (Ps lc.heap.size lc.heap.size _ ⟨rfl,rfl⟩) (A7 _) Aa ?_
  intro n8 m0 b2 kw ie
  refine Ai ?_
  have jt:lc.heap.size≤m0.heap.size:=b2.size
  have eb:Ax S w m0:=ia.ext b2
  have bo:=i8.ext b2
  have bp:=ib.ext b2
  have ig:=CI.ext i9 b2
  have cn:=ic.ext b2
  refine Jx.fI<|Vy (v:=vv) (a:=n8) (u:=zI<|lz) (r:=lz) BQ Ck Z Z Z (RN.stp g1 henv eb cn.new) ie ⟨[],⟨rfl,rfl,e9⟩,fun b hb=>by cases hb⟩ (fun b hb=>(cn.lt b hb:b<m0.heap.size)) oM (by unfold maxLen;omega) Aa ?_
  intro mm m1 ay ec ed
  refine Ai ⟨JR.ext ay,?_⟩
  have ju:m0.heap.size≤m1.heap.size:=ay.size
  have co:Ax S w m1:=eb.ext ay
  have bq:=bo.ext ay
  have br:=bp.ext ay
  have ih:=CI.ext ig ay
  have b3:=cn.ext ay
  refine Jx.Vr Z ?_
  refine AH 181 [] [] [zP g,.agg #[zI<|(ex.kids.getD 1 Ex.zero).kind,zI<|(ex.kids.getD 1 Ex.zero).num,zI<|(ex.kids.getD 1 Ex.zero).pick,zI<|(ex.kids.getD 1 Ex.zero).count,cj],mm] Z Z M9 Aa (IH2 dd84 oM _ ml g vp dp ip (n5) (n6) p (n4) cj (ex.kids.getD 1 Ex.zero) mm (env++[lz]) (fun b hb=>(b3.lt b hb:b<m1.heap.size)) (b3.sub _ hgS) ⟨_,_,_,bq,ih⟩ (RN.stp (An<|Av dp) hp co b3.new) _hip oM oM Hu ⟨ck.rng,RN.stp (An<|Ay dd84) ck.rn co b3.new⟩ ec ed hvp oM (by have h9:=Kg hwf oM oM;rw[z4,zd];exact h9) (by have:=DB (l:=ex.kids) (k:=1) oM;rw[z4,zd];omega) (by exact fun h9=>Km.snoc (ax.mono oM)<|gk h9)) ?_
  rintro np mn ⟨mo,n9,na,nb,nc,rfl,af,⟨nd,vg99,vv99,ii,ij⟩,ee,ef,eg,eh⟩
  refine⟨_,rfl,?_⟩
  have jv:m1.heap.size≤mn.heap.size:=af.chg.size
  have kx:Ax S w mn:=co.stp af.chg b3.new
  have jw:=br.chg af.chg fun hm=>bb hm
  have g5:w.heap.size∉n9:=fun hm=>(af.new _ hm).elim (fun hm=>bb hm) (fun h9=>by omega)
  have jx:=RN.stp g1 ec af.chg af.new
  have ik:=b3.trans af
  have jy:=ee.bnd
  have jz:=ee.num
  have hRv:=ef
  have hL2:=eh
  refine Ac 1 Z<|A1<|AL<|Ao ?_
  exact Ah [6] Z (zI mo) Z ⟨mo,_,na,nb,nc,rfl,ik,⟨_,_,_,ii,ij⟩,⟨EJ,oM⟩,EI,eg,EH⟩
 refine As false Z Z (A6 e4) Aa<|Ac 1 Z<|Aj Z<|A2<|fC [0,0,2,0,4,0] Z ?_
 have hkg:ex.kind≠1∧ex.kind≠2∧ex.kind≠8∧ex.kind≠9:=by omega
 have l1:=T4 hwf hvp hF
 refine Ad 1 Z<|Al (p:=zP w.heap.size) 4 AY Z Z Aa<|Ag (p:=Ap (zP w.heap.size) 4) (.inr Z) ve B7 Z (ac.ldp (i:=4) sM) Aa<|Ad 1 Z ?_
 refine AH 102 [] [] [zP g,ve,vv] Z Z Uw Aa (Qi F dex (fun d9 h9=>IH2 d9 oM) _ S g vp dp ip (s0+1) (c0) p (T) ve (ex.kids) vv (env) (fun b hb=>(a0.lt b hb:b<f9.heap.size)) (a0.sub _ hgS) ⟨_,_,_,aw,b1⟩ (RN.stp (An<|Av dp) hp a4 a0.new) _hip oM oM Hu (RN.stp (An<|Ay dex) hex.rn a4 a0.new) (RN.stp g1 henv a4 a0.new) hqenv hvp oM (by intro k hk;exact E6 hwf hk oM) (by intro k hk;have:=DB (l:=ex.kids) (k:=k) hk;omega) oM (by exact fun _=>ax)) ?_
 rintro nf fe ⟨fx,f3,l3,l4,fr,fs,rfl,ag,⟨lk,vg109,vv109,aj,av⟩,bv,ei,bc,cp,cq,cr⟩
 refine⟨_,rfl,?_⟩
 have ct:f9.heap.size≤fe.heap.size:=ag.chg.size
 have a8:Ax S w fe:=a4.stp ag.chg a0.new
 have ae:=ac.chg ag.chg fun hm=>Ew
 have ab:w.heap.size∉l3:=fun hm=>(ag.new _ hm).elim (fun hm=>Ew) (fun h9=>by omega)
 have a1:=a0.trans ag
 have il:=bv.bnd
 have im:=bv.num
 have hKr:=cr
 have hKb:=cq
 have hKl:=cp
 have am:=ei.rn
 refine Ac 1 Z<|A0<|fC [0,0,0,2,0] Z<|Ad 1 Z<|B9 Z Aa<|Al (p:=zP g) 7 FE Z Z Aa<|Ag (p:=Ap (zP g) 7) (.inr Z) (zI fs) AI Z (aj.ldp (i:=7) sM) Aa ?_
 by_cases bw:fs≠((0:Nat):Int)
 ·refine AT true Z Z (A5 bw) Aa<|Ai<|Af Z<|fE Z<|A1<|Ao ?_
  exact Ah [6] Z (zI ((0:Nat):Int)) Z ⟨((0:Nat):Int),_,l4,fr,fs,rfl,a1,⟨_,_,_,aj,av⟩,⟨EJ,oM⟩,EI,oM,EH⟩
 refine AT false Z Z (A6 bw) Aa<|Ai<|Aj Z<|A2<|A0<|fC [0,2] Z<|Al (p:=zP w.heap.size) 0 Bn Z Z Aa<|Ag (p:=Ap (zP w.heap.size) 0) (.inr Z) (zI ex.kind) AI Z (ae.ldp (i:=0) sM) Aa<|Ai<|A3<|fC [0,0] Z ?_
 by_cases bx:ex.kind=((10:Nat):Int)
 ·refine As true Z Z (A5 bx) Aa<|Ac 1 Z<|Af Z<|A0<|AQ _ [0,0,0,0,0,1,0,1,0,0,1,0,1,0,1,0,4,0] mixed (by kernel_rfl) ?_
  have hwk:=Iq hwf oM
  refine Ad 2 Z ?_
  have hvo:=hvp.outs (ex.num).toNat oM
  have hvd:=hvp.deep (ex.num).toNat oM (ex.pick).toNat oM
  refine B9 Z Aa<|Al (p:=zP g) 0 RH Z Z Aa<|Al (p:=Ap (zP g) 0) (b:=g) (o:=0) 0 B8 Z Z Aa<|Ag (p:=Ap (Ap (zP g) 0) 0) (.inl Z) vp Bt Z (aj.ldp (i:=0) sM) Aa<|Al (p:=zP w.heap.size) 1 BL Z Z Aa<|Ag (p:=Ap (zP w.heap.size) 1) (.inl Z) (zI ex.num) AI Z (ae.ldp (i:=1) sM) Aa ?_
  refine AE (v:=vp) ((ex.num).toNat) Du BD Z Z hp.isSl oM sD Aa ?_
  obtain⟨cs118,ej,bz⟩:=hp.get (Av dp) Fn.zero (k:=(ex.num).toNat) sD
  obtain⟨bd,rfl,be⟩:=RF.of ej
  have cu:=be.rn.lenle
  unfold maxLen at cu
  refine AB (p:=AA vp ((ex.num).toNat) 3) 2 Br Z (bz _ a8.drew) Aa<|Ag (p:=Ap (AA vp ((ex.num).toNat) 3) 2) (.inl Z) bd B7 Z ((bz _ a8.drew).ld (i:=2) (by simp[DT,E2])) Aa<|Al (p:=zP w.heap.size) 2 CN Z Z Aa<|Ag (p:=Ap (zP w.heap.size) 2) (.inl Z) (zI ex.pick) AI Z (ae.ldp (i:=2) sM) Aa ?_
  refine AE (v:=bd) ((ex.pick).toNat) Cc B3 Z Z be.rn.isSl oM sD Aa ?_
  obtain⟨cs119,ek,el⟩:=be.rn.get (Ay dp) Ex.zero (k:=(ex.pick).toNat) sD
  obtain⟨dd119,bf,k0,rfl,bg⟩:=RX.of ek
  have cv:=bg.rn.lenle
  unfold maxLen at cv
  refine AF (p:=AA bd ((ex.pick).toNat) 5) (.inl Z) [zI<|(((p.getD ((ex.num).toNat) Fn.zero).outs).getD ((ex.pick).toNat) Ex.zero).kind,zI<|(((p.getD ((ex.num).toNat) Fn.zero).outs).getD ((ex.pick).toNat) Ex.zero).num,zI<|(((p.getD ((ex.num).toNat) Fn.zero).outs).getD ((ex.pick).toNat) Ex.zero).pick,zI<|(((p.getD ((ex.num).toNat) Fn.zero).outs).getD ((ex.pick).toNat) Ex.zero).count,bf] AX Z (fun l7 ce=>el l7<|a8.drew.ext ce) Z Aa<|Ad 1 Z ?_
  refine AH 181 [] [] [zP g,.agg #[zI<|(((p.getD ((ex.num).toNat) Fn.zero).outs).getD ((ex.pick).toNat) Ex.zero).kind,zI<|(((p.getD ((ex.num).toNat) Fn.zero).outs).getD ((ex.pick).toNat) Ex.zero).num,zI<|(((p.getD ((ex.num).toNat) Fn.zero).outs).getD ((ex.pick).toNat) Ex.zero).pick,zI<|(((p.getD ((ex.num).toNat) Fn.zero).outs).getD ((ex.pick).toNat) Ex.zero).count,bf],fx] Z Z M9 Aa (IH1 (ex.num).toNat oM dd119 _ l3 g vp dp ip (fr) (fs) p (l4) bf (((p.getD ((ex.num).toNat) Fn.zero).outs).getD ((ex.pick).toNat) Ex.zero) fx (f3) (fun b hb=>(a1.drew.lt b hb:b<fe.heap.size)) (a1.drew.sub _ hgS) ⟨_,_,_,aj,av⟩ (RN.stp (An<|Av dp) hp a8.drew a1.drew.new) _hip oM oM Hu ⟨bg.rng,RN.stp (An<|Ay dd119) bg.rn a8.drew a1.drew.new⟩ am bc hvp oM (by have h9:=hvp.wf (ex.num).toNat oM (ex.pick).toNat oM;rw[show(f3.length:Int)=(p.getD (ex.num).toNat Fn.zero).params from by omega];exact h9) oM hKb) ?_
  rintro ng ll ⟨lm,m4,m5,m6,m7,rfl,a2,⟨mp,vg120,vv120,em,en⟩,c2,cw,cx,cy⟩
  refine⟨_,rfl,?_⟩
  replace a2:=a2.of_drew
  have io:fe.heap.size≤ll.heap.size:=a2.chg.size
  have k1:Ax S w ll:=a8.stp a2.chg a1.new
  have k2:=ae.chg a2.chg fun hm=>ab hm
  have g6:w.heap.size∉m4:=fun hm=>(a2.new _ hm).elim (fun hm=>ab hm) (fun h9=>by omega)
  have k3:=RN.stp g1 am a2.chg a2.new
  have eo:=a1.trans a2
  have iq:=c2.bnd
  have ir:=c2.num
  have hRv:=cw
  have hL2:=cy
  refine Ac 1 Z<|A1<|AL<|Ao ?_
  exact Ah [6] Z (zI lm) Z ⟨lm,_,m5,m6,m7,rfl,eo,⟨_,_,_,em,en⟩,⟨EJ,oM⟩,EI,cx,EH⟩
 refine As false Z Z (A6 bx) Aa<|Ac 1 Z<|Aj Z<|fC [0,0] Z ?_
 by_cases c3:ex.kind=((11:Nat):Int)
 ·refine As true Z Z (A5 c3) Aa<|Ac 1 Z<|Af Z<|A0<|fC [0] Z ?_
  have hwk:=Iq hwf oM
  have hwl:=NI hwf oM
  refine Ac 1 Z<|A3 ?_
  have hMs:=av
  have hGs:=a1
  have hns:w.heap.size∉l3:=fun hm=>ab hm
  refine AW (S:=Nat×Value×Sr×List Nat×Tp×Nat×Int×Value×Value×Value) (fun⟨i,vk,ks,S9,T9,s9,c9,lo,vg9,vv9⟩=>([(9,vk),(10,zI (i:Int)),(0,zP g),(4,zP w.heap.size)])) (fun⟨i,vk,ks,S9,T9,s9,c9,lo,vg9,vv9⟩ W=>Ax S w W∧BX W.heap g [vp,zI ip,lo,vg9,zN,vv9,zI (s9:Int),zI c9]∧BX W.heap w.heap.size [zI ex.kind,zI ex.num,zI ex.pick,zI ex.count,ve]∧i≤(ex.count).toNat∧w.heap.size∉S9∧G7 S S9 w W∧CI 69 208 2 S9 g W.heap lo vg9 vv9 T9∧Xq T T9 s0 s9 c9∧RN S9 (Bd rI) W.heap vk ks∧Cs vk∧ks.length=(p.getD (ex.num).toNat Fn.zero).outs.length∧(c9=0→Km T9 ks)∧AN (Jc (fun a t U=>Is (KU p (ex.num).toNat) (p.getD (ex.num).toNat Fn.zero).outs a t U) i f3 fr l4) (ks,T9) s9 c9) (fun⟨i,vk,ks,S9,T9,s9,c9,lo,vg9,vv9⟩=>(ex.count).toNat-i) (0,fx,f3,l3,l4,fr,fs,lk,vg109,vv109) ⟨rfl,rfl,rfl,rfl,trivial⟩ ⟨a8,aj,ae,oM,hns,hGs,hMs,(by exact⟨by assumption,zO⟩),(by assumption),(by assumption),oM,hKb,(by exact⟨rfl,rfl,zO⟩)⟩ ?_
  clear j4 j5 hG0 ka d3 ga gb g2 g3 gd b0 a4 b1 a0 d5 ac av ct a8 ae a1
  rintro⟨i,vk,ks,S9,T9,s9,c9,lo,vg9,vv9⟩ ρ131 l5 ⟨ak,a5,a6,g7,hnb,hGl,hMl,hPl,hrk,hck,hkl,hkb,hrl9⟩
  have is:w.heap.size≤l5.heap.size:=ak.size
  have k4:=a5.lt
  have k5:=a6.lt
  have hnl:=hPl.num
  have hbl:=hPl.bnd
  refine A0<|fC [0,0,2,0,0,0,0,0,2,0,0] Z<|Ad 1 Z<|Al (p:=zP w.heap.size) 3 CV Z Z Aa<|Ag (p:=Ap (zP w.heap.size) 3) (.inr Z) (zI ex.count) AI Z (a6.ldp (i:=3) sM) Aa ?_
  by_cases c4:(i:Int)<ex.count
  ·refine AJ true Z Z (A5 c4) Aa<|Ad 2 Z<|B9 Z (Ae (e:=156) Z Z Z)<|Al (p:=zP g) 7 FE Z Z (Ae (e:=156) Z Z Z)<|Ag (p:=Ap (zP g) 7) (.inr Z) (zI c9) AI Z (a5.ldp (i:=7) sM) (Ae (e:=156) Z Z Z) ?_
   by_cases c5:c9=((0:Nat):Int)
   ·refine As true Z Z (A5 c5) (Ae (e:=156) Z Z Z)<|Ac 1 Z<|Af Z<|A2<|A0<|A3<|AQ _ [0,0,0,0,0,1,0,1,0,0,1,0,4,0] mixed (by kernel_rfl)<|Ad 2 Z ?_
    have hvo:=hvp.outs (ex.num).toNat oM
    refine B9 Z Aa<|Al (p:=zP g) 0 RH Z Z Aa<|Al (p:=Ap (zP g) 0) (b:=g) (o:=0) 0 B8 Z Z Aa<|Ag (p:=Ap (Ap (zP g) 0) 0) (.inl Z) vp Bt Z (a5.ldp (i:=0) sM) Aa<|Al (p:=zP w.heap.size) 1 BL Z Z Aa<|Ag (p:=Ap (zP w.heap.size) 1) (.inl Z) (zI ex.num) AI Z (a6.ldp (i:=1) sM) Aa ?_
    refine AE (v:=vp) ((ex.num).toNat) Du BD Z Z hp.isSl oM sD Aa ?_
    obtain⟨cs136,ep,c6⟩:=hp.get (Av dp) Fn.zero (k:=(ex.num).toNat) sD
    obtain⟨bh,rfl,c7⟩:=RF.of ep
    have cz:=c7.rn.lenle
    unfold maxLen at cz
    refine AB (p:=AA vp ((ex.num).toNat) 3) 2 Br Z (c6 _ ak.drew) Aa<|Ag (p:=Ap (AA vp ((ex.num).toNat) 3) 2) (.inl Z) bh B7 Z ((c6 _ ak.drew).ld (i:=2) (by simp[DT,E2])) Aa<|Ad 1 Z ?_
    refine AH 102 [] [] [zP g,bh,vk] Z Z Uw Aa (Qi (ex.num).toNat dp (fun d9 h9=>IH1 (ex.num).toNat oM d9) _ S9 g vp dp ip (s9) (c9) p (T9) bh ((p.getD ((ex.num).toNat) Fn.zero).outs) vk (ks) (fun b hb=>(hGl.drew.lt b hb:b<l5.heap.size)) (hGl.drew.sub _ hgS) ⟨_,_,_,a5,hMl⟩ (RN.stp (An<|Av dp) hp ak.drew hGl.drew.new) _hip oM oM Hu (RN.stp (An<|Ay dp) c7.rn ak.drew hGl.drew.new) hrk hck hvp oM (by intro k hk;have h9:=hvp.wf (ex.num).toNat oM k hk;rw[show(ks.length:Int)=(p.getD (ex.num).toNat Fn.zero).params from by omega];exact h9) (by intro k hk;have:=hvp.deep (ex.num).toNat oM k hk;omega) oM hkb) ?_
    rintro nh lp ⟨m8,lq,la,lr,ls,lu,rfl,a3,⟨lv,vg137,vv137,eq,er⟩,c8,es,it,iu,iv,iw⟩
    refine⟨_,rfl,?_⟩
    replace a3:=a3.of_drew
    have ix:l5.heap.size≤lp.heap.size:=a3.chg.size
    have et:Ax S w lp:=ak.stp a3.chg hGl.new
    have eu:=a6.chg a3.chg fun hm=>hnb hm
    have bs:w.heap.size∉la:=fun hm=>(a3.new _ hm).elim (fun hm=>hnb hm) (fun h9=>by omega)
    have k6:=RN.stp g1 hrk a3.chg a3.new
    have ev:=hGl.trans a3
    have iy:=c8.bnd
    have iz:=c8.num
    have j0:=es.rn
    refine Ac 1 Z<|Ab _ [0,0,0] Z<|Ad 1 Z<|AR ((i+1:Nat):Int) Z Z (Bl oM oM) Aa<|Ac 1 Z ?_
    have hMe:=er
    have hGe:=ev
    have hPe:Xq T lr s0 ls lu:=⟨by assumption,zO⟩
    have hne:w.heap.size∉la:=fun hm=>bs hm
    exact⟨(i+1,m8,lq,la,lr,ls,lu,lv,vg137,vv137),_,rfl,zR,⟨et,eq,eu,oM,hne,hGe,hMe,hPe,(by assumption),(by assumption),oM,(by assumption),(by exact Z4 hrl9 oM (by assumption))⟩,zD⟩
   refine As false Z Z (A6 c5) (Ae (e:=156) Z Z Z)<|Ac 1 Z<|Aj Z<|A4<|Az<|Az<|Aw<|fC [0,0,2,0,2,0] Z ?_
   have hkb9:=fun h9:c9=0=>hkb h9 (ex.pick).toNat oM
   refine Ad 1 Z<|Al (p:=zP w.heap.size) 2 CN Z Z Aa<|Ag (p:=Ap (zP w.heap.size) 2) (.inr Z) (zI ex.pick) AI Z (a6.ldp (i:=2) sM) Aa<|AE (v:=vk) ((ex.pick).toNat) BQ Ck Z Z hrk.slL oM oM Aa ?_
   have ca:=RN.getI (w:=l5) (k:=(ex.pick).toNat) hrk oM
   refine Ag (p:=AA vk ((ex.pick).toNat) 1) (.inr Z) (zI<|ks.getD ((ex.pick).toNat) 0) AI Z (ca.1 _<|Ax.refl _ _) Aa<|Ac 1 Z<|A1<|AL<|Ao ?_
   exact Ah [6] Z (zI<|ks.getD ((ex.pick).toNat) 0) Z ⟨ks.getD ((ex.pick).toNat) 0,_,T9,s9,c9,rfl,hGl,⟨_,_,_,a5,hMl⟩,⟨EJ,oM⟩,EI,ca.2,EH⟩
  refine AJ false Z Z (A6 c4) Aa<|Ac 7 Z<|Aj Z<|A4<|Az<|Az<|Aw<|fC [0,0,2,0,2,0] Z ?_
  have hkb9:=fun h9:c9=0=>hkb h9 (ex.pick).toNat oM
  refine Ad 1 Z<|Al (p:=zP w.heap.size) 2 CN Z Z Aa<|Ag (p:=Ap (zP w.heap.size) 2) (.inr Z) (zI ex.pick) AI Z (a6.ldp (i:=2) sM) Aa<|AE (v:=vk) ((ex.pick).toNat) BQ Ck Z Z hrk.slL oM oM Aa ?_
  have cb:=RN.getI (w:=l5) (k:=(ex.pick).toNat) hrk oM
  refine Ag (p:=AA vk ((ex.pick).toNat) 1) (.inr Z) (zI<|ks.getD ((ex.pick).toNat) 0) AI Z (cb.1 _<|Ax.refl _ _) Aa<|Ac 1 Z<|A1<|AL<|Ao ?_
  exact Ah [6] Z (zI<|ks.getD ((ex.pick).toNat) 0) Z ⟨ks.getD ((ex.pick).toNat) 0,_,T9,s9,c9,rfl,hGl,⟨_,_,_,a5,hMl⟩,⟨EJ,oM⟩,EI,cb.2,EH⟩
 refine As false Z Z (A6 c3) Aa<|Ac 1 Z<|Aj Z<|A2<|fC [0,0,2,0,0,0,4,0] Z ?_
 have hkb9:=hKb oM
 have l2:3≤ex.kind∧ex.kind≤7:=by have:=(D9 (CU hwf)).1;omega
 have hkl:1≤ex.kids.length∧(ex.kind≠7→2≤ex.kids.length):=by by_cases h7:ex.kind=7;(have:=PH hwf h7;omega);(have:=Kh hwf oM;omega)
 refine Ad 1 Z<|Al (p:=zP w.heap.size) 0 Bn Z Z Aa<|Ag (p:=Ap (zP w.heap.size) 0) (.inr Z) (zI ex.kind) AI Z (ae.ldp (i:=0) sM) Aa<|BJ (ex.kind-((3:Nat):Int)) Z Z (DH oM oM) Aa<|AR ex.kind Z Z (dZ oM oM oM) Aa<|Ad 1 Z ?_
 refine AH 229 [] [] [zP g,zI ex.kind,fx] Z Z cI Aa (Gc _ l3 g vp dp ip (fr) (fs) p (l4) (ex.kind) fx (f3) (fun b hb=>(a1.lt b hb:b<fe.heap.size)) (a1.sub _ hgS) ⟨_,_,_,aj,av⟩ (RN.stp (An<|Av dp) hp a8 a1.new) _hip oM oM Hu oM am bc oM oM hkb9 oM) ?_
 rintro ni lw ⟨lx,m9,ma,mb,rfl,a9,⟨mq,vg148,vv148,ew,ey⟩,j1,j2,d0,d1,d2⟩
 refine⟨_,rfl,?_⟩
 have j3:fe.heap.size≤lw.heap.size:=a9.chg.size
 have k7:Ax S w lw:=a8.stp a9.chg a1.new
 have k8:=ae.chg a9.chg fun hm=>ab hm
 have g8:w.heap.size∉m9:=fun hm=>(a9.new _ hm).elim (fun hm=>ab hm) (fun h9=>by omega)
 have k9:=RN.stp g1 am a9.chg a9.new
 have ez:=a1.trans a9
 have hRv:=d0
 have hL2:=d2
 refine Ac 1 Z<|A1 ?_
 exact Ah [6] Z (zI lx) Z ⟨lx,_,ma,fr,mb,rfl,ez,⟨_,_,_,ew,ey⟩,⟨EJ,oM⟩,EI,d1,EH⟩
theorem ZB:∀F d,dN F d:=by
 intro F
 induction F using Nat.strongRecOn with
 |_ F ihF =>
  intro d
  induction d using Nat.strongRecOn with
  |_ d ihd =>
   intro w S g vp dp ip s0 c0 p T ve ex vv env hS hgS a0 hp hip a1 a2 hbd hex henv hqenv hvp hF hwf hdp hen
   exact IN w S F g vp dp ip s0 c0 p T d ve ex vv env hS hgS a0 hp hip a1 a2 hbd hex henv hqenv hvp hF hwf hdp hen ihF ihd
theorem ZC (F d:Nat):fL F d:=Qi F d fun d' _=>ZB F d'
theorem RR {p:Prop}(h:p:=by have h9:=hm;rw[hSd]at h9;have:=A9 h9;omega):p:=h
theorem V6 {p:Prop}(h:p:=by simp only[zc,zf,zh];rfl):p:=h
theorem IV (w:World)(dp:Nat)(vp:Value)(p:List Fn)(f:Int)(va:Value)(a:Sr)(hp:RP [] dp w.heap vp p)(_hf:BG f)(ha:RN [] (Bd rI) w.heap va a)(hok:Ef p=true)(hz:LF p)(hf:0≤f∧f<(p.length:Int))(hl:(a.length:Int)=(p.getD f.toNat Fn.zero).params)(hna:Bb a=true) :
  Calls Tryz.prog 29 #[(.agg #[vp]),zI f,va] w (fun e w'=>∃(i0:Int) (vc vg vo:Value) (xs:Sr) (T':Tp) (s1:Nat) (c1:Int),e=.returned (.tuple #[.agg #[zI i0,vc,vg,vo],zI c1])∧AD w w'∧AN (NP p f.toNat a) (xs,T') s1 c1∧(0≤c1∧c1≤9)∧(∀u∈[vc,vg,vo],u.cells=#[u]∧u.oneCell'=true)∧BG i0∧(c1=0→i0=(p.getD f.toNat Fn.zero).params∧Kl T' s1∧s1≤3000∧xs.length=(p.getD f.toNat Fn.zero).outs.length∧Km T' xs∧RG w.heap.size (E1 4 ON) w'.heap vc T'.code∧RG w.heap.size (E1 2 OO) w'.heap vg T'.grd∧RG w.heap.size (Bd rI) w'.heap vo xs)):=by
 refine Au [.agg #[vp],zI f,va] 87 Tryz.func29 Z Z sM ?_
 have dq:AD w w:=AD.refl w
 have g0:=hp.lenle
 unfold maxLen at g0
 have g4:=ha.lenL
 unfold maxLen at g4
 have g5:=CM hok
 have gq:=g5.par f.toNat oM
 have gr:=g5.outs f.toNat oM
 have hi:Gx p f=0:=by unfold Gx;rw[if_pos hok,if_pos oM]
 refine fC [3,3,0] Z (Bv (cs:=#[vp]) Z Aa fun w1 cj e8 cf=>?_)
 have ck:=cj.size
 have dr:=dq.trans cj
 replace cf:BX w1.heap w.heap.size [vp]:=cf
 have ey:=cf.lt
 refine AU (z:=.agg #[zI 0,zN,zN,zN]) Zt Aa fun w2 cg e9 cl=>?_
 have cm:=cg.size
 have cn:=dr.trans cg
 have aq:=cf.ext cg
 replace cl:BX w2.heap w1.heap.size [zI 0,zN,zN,zN]:=cl
 refine Ac 1 Z<|fC [2,0,3,0] Z<|AF (p:=zP w.heap.size) (.inr Z) [vp] Ba Z (fun gf ba=>LD.of_box<|BX.ext (w:=w2) aq ba) Z Aa<|Ad 1 Z<|At 100 [] [] [.agg #[vp],zI f] Z Z Uv Aa (GE _ dp vp (p) _ (hp.ext (An<|Av dp) cn) _hf hz) ?_
 rintro e4 w4 ⟨rfl,b8⟩
 refine⟨_,rfl,b8,?_⟩
 have co:=b8.size
 have bb:=cn.trans b8
 have ar:=aq.ext b8
 have bc:=cl.ext b8
 refine Ac 1 Z<|A0<|fC [0,0,0,0,0,2,0,0,0,2,3,0,0] Z<|Ad 1 Z ?_
 have ea:Gx p f=((0:Nat):Int):=hi
 refine As true Z Z (A5 ea) Aa<|Ad 2 Z<|Al (p:=zP w.heap.size) 0 B8 Z Z (Ae (e:=18) Z Z Z)<|Ag (p:=Ap (zP w.heap.size) 0) (.inr Z) vp Bt Z (ar.ldp (i:=0) sM) (Ae (e:=18) Z Z Z)<|Ad 1 Z<|AE (v:=vp) ((f).toNat) Du BD Z Z hp.isSl oM sD (Ae (e:=18) Z Z Z) ?_
 obtain⟨cs6,eb,ch⟩:=hp.get (Av dp) Fn.zero (k:=(f).toNat) sD
 obtain⟨ez,rfl,ds⟩:=RF.of eb
 have bd:=ds.rn.lenle
 unfold maxLen at bd
 refine AB (p:=AA vp ((f).toNat) 3) 1 BI Z (ch _<|Ax.of_ext [] bb) (Ae (e:=18) Z Z Z)<|Ag (p:=Ap (AA vp ((f).toNat) 3) 1) (.inr Z) (zI<|(p.getD ((f).toNat) Fn.zero).params) AI Z ((ch _<|Ax.of_ext [] bb).ld (i:=1) (by simp[DT,E2])) (Ae (e:=18) Z Z Z)<|At 86 [] [] [va,zI<|(p.getD ((f).toNat) Fn.zero).params] Z Z Uu (Ae (e:=18) Z Z Z) (CO _ _ _ _ (ha.ext g1 bb).rd ds.rng) ?_
 rintro e7 w7 ⟨rfl,b9⟩
 refine⟨_,rfl,b9,?_⟩
 have cp:=b9.size
 have ci:=bb.trans b9
 have ae:=ar.ext b9
 have au:=bc.ext b9
 rw[show(decide ((a.length:Int)=((p.getD ((f).toNat) Fn.zero).params)) && Bb a)=true from(by rw[A5 oM,hna];rfl)]
 refine Bq false Z Z (Ae (e:=18) Z Z Z)<|Ac 1 Z<|Aj Z<|A2<|A0<|fC [0,0] Z<|Ad 1 Z ?_
 have ec:¬(Gx p f≠((0:Nat):Int)):=(fun h9=>h9 hi)
 refine AT false Z Z (A6 ec) Aa<|Ai<|Aj Z<|A2<|A0<|AQ _ [1,0,1,0,0,0,1,0,0,3,0] mixed (by kernel_rfl)<|AF (p:=zP w.heap.size) (.inl Z) [vp] Ba Z (fun gf ba=>LD.of_box<|BX.ext (w:=w7.drew) ae ba) Z Aa<|Al (p:=zP w.heap.size) 0 B8 Z Z Aa<|Ag (p:=Ap (zP w.heap.size) 0) (.inl Z) vp Bt Z (ae.ldp (i:=0) sM) Aa<|Ad 1 Z ?_
 refine AE (v:=vp) ((f).toNat) Du BD Z Z hp.isSl oM sD Aa<|AB (p:=AA vp ((f).toNat) 3) 1 BI Z (ch _<|Ax.of_ext [] ci.drew) Aa<|Ag (p:=Ap (AA vp ((f).toNat) 3) 1) (.inl Z) (zI<|(p.getD ((f).toNat) Fn.zero).params) AI Z ((ch _<|Ax.of_ext [] ci.drew).ld (i:=1) (by simp[DT,E2])) Aa ?_
 have cq:∀(wq:World),(Instr.build 55 #[(0,zI ((p.getD ((f).toNat) Fn.zero).params))]).run Tryz.prog wq=.ok (.agg #[zI ((p.getD ((f).toNat) Fn.zero).params),zN,zN,zN]) wq:=by intro wq;kernel_rfl
 refine Bh (ps:=#[(0,zI<|(p.getD ((f).toNat) Fn.zero).params)]) (.agg #[zI<|(p.getD ((f).toNat) Fn.zero).params,zN,zN,zN]) V6 (fun wq=>cq  wq) Aa ?_
 have be:∀(vp:Value) (f3:Nat) (h10_0:Fx vp f3) (wq:World),(Instr.build 129 #[(0,.agg #[vp]),(1,.agg #[zI ((p.getD ((f).toNat) Fn.zero).params),zN,zN,zN])]).run Tryz.prog wq=.ok (.agg #[vp,zI ((p.getD ((f).toNat) Fn.zero).params),zN,zN,zN,zN,zI 0,zI 0]) wq:=by intro vp f3 h10_0 wq;obtain⟨a10_0,gg,rfl,_⟩:=h10_0;kernel_rfl
 refine Bh (ps:=#[(0,.agg #[vp]),(1,.agg #[zI<|(p.getD ((f).toNat) Fn.zero).params,zN,zN,zN])]) (.agg #[vp,zI<|(p.getD ((f).toNat) Fn.zero).params,zN,zN,zN,zN,zI 0,zI 0]) V6 (fun wq=>be vp _ hp.isSl wq) Aa ?_
 have ed:=ae.lt
 have ee:=au.lt
 refine Bv (cs:=#[vp,zI<|(p.getD ((f).toNat) Fn.zero).params,zN,zN,zN,zN,zI 0,zI 0]) Z Aa fun f1 a9 cr ak=>?_
 replace a9:=a9.of_drew
 have bf:=a9.size
 have bg:=ci.trans a9
 have av:=ae.ext a9
 have aw:=au.ext a9
 replace ak:BX f1.heap w7.drew.heap.size [vp,zI ((p.getD ((f).toNat) Fn.zero).params),zN,zN,zN,zN,zI 0,zI 0]:=ak
 refine Ac 1 Z<|fC [3,0] Z ?_
 obtain⟨S,hSd⟩:∃S:List Nat,S=[w7.heap.size]:=⟨_,rfl⟩
 have hgS:w7.heap.size∈S:=by rw[hSd];exact List.mem_singleton.2 Z
 have hlr:w7.heap.size<f1.heap.size:=BX.lt ak
 have hMb:CI 69 208 2 S w7.heap.size f1.heap zN zN zN (JQ a 0):=CI.nil
 have hGb:G7 S S w f1:=⟨fun _ h=>h,fun b hb=>.inl hb,fun b hb=>by rw[hSd]at hb;have:=A9 hb;omega,Ax.of_ext S bg⟩
 have hEb:Ax S w f1:=hGb.chg
 have hSn:∀b∈S,w.heap.size≤b:=fun b hb=>by rw[hSd]at hb;have:=A9 hb;omega
 have hBb:BX f1.heap w7.heap.size [vp,zI ((p.getD f.toNat Fn.zero).params),zN,zN,zN,zN,zI ((0:Nat):Int),zI ((0:Nat):Int)]:=ak
 have ax:RN S (E1 3 (V9 dp)) w.heap vp p:=by rw[hSd];exact RN.add (An (Av dp)) hp (fun b hb=>zH<|A9 hb)
 have ay:RN S (Bd rI) w.heap va a:=by rw[hSd];exact RN.add g1 ha (fun b hb=>zH<|A9 hb)
 refine Dy (rI) B1 BQ Ck Aa fun gk gh a4 ct bh=>?_
 have bi:f1.heap.size≤gh.heap.size:=a4.size
 have bj:Ax S w gh:=hEb.ext a4
 have az:=av.ext a4
 have b0:=aw.ext a4
 have b1:=hBb.ext a4
 have bk:=CI.ext hMb a4
 have bl:=hGb.ext a4
 refine Ac 1 Z<|A0<|fC [0,0,0] Z<|Ad 1 Z<|AS (v:=va) BQ Z ay.slL Aa<|Ac 1 Z<|A3 ?_
 have hBO:w.heap.size≤f1.heap.size∧w7.heap.size<f1.heap.size:=by omega
 have bm:w.heap.size∉S:=fun hm=>RR
 have bn:w1.heap.size∉S:=fun hm=>RR
 obtain⟨Fo0,bo⟩:=Ow.of_fr bh (A7 _)
 have cu:∀b∈Fo0,b∉S:=fun b hb hm=>by have:=bo.low b hb;have:=hGb.lt b hm;omega
 have hMs:=bk
 have hGs:=bl
 have hnswheaps:w.heap.size∉S:=fun hm=>RR
 have hnsw1heap:w1.heap.size∉S:=fun hm=>RR
 refine AW (S:=Nat×Value×Sr×List Nat×List Nat×Value×Value×Value) (fun⟨k,vo,xs,Fo,S9,g6,vg9,vv9⟩=>([(10,vo),(46,zI (k:Int)),(1,zI f),(3,zP w.heap.size),(6,zP w1.heap.size),(9,zP w7.heap.size),(44,va),(45,zI (a.length:Int))])) (fun⟨k,vo,xs,Fo,S9,g6,vg9,vv9⟩ W=>Ax S w W∧BX W.heap w.heap.size [vp]∧BX W.heap w1.heap.size [zI 0,zN,zN,zN]∧BX W.heap w7.heap.size [vp,zI (p.getD f.toNat Fn.zero).params,g6,vg9,zN,vv9,zI ((0:Nat):Int),zI ((0:Nat):Int)]∧k≤a.length∧f1.heap.size≤W.heap.size∧G7 S S9 w W∧CI 69 208 2 S9 w7.heap.size W.heap g6 vg9 vv9 (JQ a k)∧Ow (BA rI 2) f1.heap.size W.heap.size W.heap vo xs Fo∧(∀b∈Fo,b∉S9)∧xs=HB k∧w.heap.size∉S9∧w1.heap.size∉S9) (fun⟨k,vo,xs,Fo,S9,g6,vg9,vv9⟩=>a.length-k) (0,gk,[],Fo0,S,zN,zN,zN) ⟨rfl,rfl,rfl,rfl,rfl,rfl,rfl,rfl,trivial⟩ ⟨bj,az,b0,b1,oM,oM,hGs,hMs,bo,cu,(by rfl),bm,bn⟩ ?_
 clear dq e8 cj ck dr e9 cg cm cn b8 co bb bd b9 cp ci cr a9 bf bg bh ct a4 bi bj bk bl
 rintro⟨k,vo,xs,Fo,S9,g6,vg9,vv9⟩ ρ21 g7 ⟨a5,a3,aa,ab,cv,hbw,hGl,hMl,hOl,hdl,hxe,af,ag⟩
 have dt:w.heap.size≤g7.heap.size:=a5.size
 have ef:=a3.lt
 have eg:=aa.lt
 have eh:=ab.lt
 refine fC [0] Z ?_
 by_cases bp:(k:Int)<(a.length:Int)
 ·refine AJ true Z Z (A5 bp) Aa<|Ai<|A0<|Af Z<|A2<|A0<|A3<|fC [0,0,2,0,0] Z ?_
  have hak:=Cf hna k
  have hvk:=Kn a k
  have hxk:xs.length=k:=by rw[hxe,GV]
  refine Ad 1 Z<|AE (v:=va) k BQ Ck Z Z ay.slL Z sD Aa ?_
  have bq:=RN.getI (w:=w) (k:=k) ay sD
  refine Ag (p:=AA va k 1) (.inr Z) (zI<|a.getD k 0) AI Z (bq.1 _ a5) Aa<|Ac 2 Z<|Ab _ [0,0,0,0,0,4,3,4,0] Z<|Ad 3 Z ?_
  have br:∀(wq:World),(Instr.build 69 #[(0,zI ((1:Nat):Int)),(3,zI (k:Int))]).run Tryz.prog wq=.ok (.agg #[zI ((1:Nat):Int),zI 0,zI 0,zI (k:Int)]) wq:=by intro wq;kernel_rfl
  refine Bh (ps:=#[(0,zI ((1:Nat):Int)),(3,zI (k:Int))]) (.agg #[zI ((1:Nat):Int),zI 0,zI 0,zI (k:Int)]) V6 (fun wq=>br  wq) Aa<|Ad 1 Z ?_
  refine AH 101 [] [] [zP w7.heap.size,.agg #[zI ((1:Nat):Int),zI (0:Int),zI (0:Int),zI (k:Int)],zI<|a.getD k 0] Z Z Rv Aa (CX _ S9 w7.heap.size vp ((p.getD f.toNat Fn.zero).params) (0) ((0:Nat):Int) (JQ a k) (⟨((1:Nat):Int),(0:Int),(0:Int),(k:Int)⟩:AM) (a.getD k 0) (fun b hb=>(hGl.lt b hb:b<g7.heap.size)) (hGl.sub _ hgS) ⟨_,_,_,ab,hMl⟩ oM (by rw[NO,Kn];omega) ⟨(show BG ((1:Nat):Int)from by omega),(show BG (0:Int)from by omega),(show BG (0:Int)from by omega),(show BG (k:Int)from by omega)⟩ bq.2) ?_
  rintro gs fx ⟨f9,rfl,a0,gb,vg28,vv28,cw,cx⟩
  refine⟨_,rfl,?_⟩
  have du:g7.heap.size≤fx.heap.size:=a0.chg.size
  have cy:Ax S w fx:=a5.stp a0.chg hGl.new
  have cz:=a3.chg a0.chg fun hm=>af hm
  have b2:w.heap.size∉f9:=fun hm=>(a0.new _ hm).elim (fun hm=>af hm) (fun h9=>by omega)
  have d0:=aa.chg a0.chg fun hm=>ag hm
  have b3:w1.heap.size∉f9:=fun hm=>(a0.new _ hm).elim (fun hm=>ag hm) (fun h9=>by omega)
  have d1:=hOl.keep (Bm B1) a0.chg fun b hb hm=>hdl b hm hb
  have ai:∀b∈Fo,b∉f9:=fun b hb hm=>(a0.new b hm).elim (hdl b hb) (fun h9=>zH<|hOl.high b hb)
  have d2:=hGl.trans a0
  have dv:((JQ a k).put (⟨((1:Nat):Int),(0:Int),(0:Int),(k:Int)⟩:AM) (a.getD k 0)).vals.length=(JQ a k).vals.length+1:=Hi _ _ _
  have dw:((JQ a k).put (⟨((1:Nat):Int),(0:Int),(0:Int),(k:Int)⟩:AM) (a.getD k 0)).grd.length=(JQ a k).grd.length:=rfl
  refine (Cd (u:=zI (((JQ a k).vals.length:Nat):Int)) (B:=fx.heap.size) B1 BQ Ck Z Z (Qp fx.heap.size fx.heap.size _ _ oM) (A7 _) Aa ?_)
  intro gl gc a6 ei d3
  have dx:fx.heap.size≤gc.heap.size:=a6.size
  have d4:Ax S w gc:=cy.ext a6
  have al:=cz.ext a6
  have am:=d0.ext a6
  have an:=cw.ext a6
  have d5:=CI.ext cx a6
  have bs:=d2.ext a6
  have hO38k:=d1.ext (Bm B1) a6
  refine LK (v:=vo) (a:=gl) BQ Ck Z Z Z hO38k d3.rd1 oM sD (by unfold maxLen;first|omega|assumption|(simp;done)|(simp;omega)) Aa fun gm gi gj ac ej d6=>?_
  have dy:gc.heap.size≤gi.heap.size:=ac.size
  have d7:Ax S w gi:=d4.fresh ac (fun c hc=>zH<|hO38k.low c hc)
  have ek:∀b∈gj,b∉f9:=fun b hb hm=>(d6 b hb).elim (fun h9=>ai b h9 hm) (fun h9=>zH<|bs.lt b hm)
  have d8:=CI.chgO d5 ac ai
  have d9:=bs.fresh ac fun c hc=>zH<|hO38k.low c hc
  have da:=al.chg ac fun hm=>zH<|hO38k.low _ hm
  have db:=am.chg ac fun hm=>zH<|hO38k.low _ hm
  have dc:=an.chg ac fun hm=>zH<|hO38k.low _ hm
  refine Ac 1 Z<|Ab _ [0,0] Z<|AR ((k+1:Nat):Int) Z Z (Bl oM oM) Aa<|Ac 1 Z ?_
  have hMe:=d8
  have hGe:=d9
  have bt:w.heap.size∉f9:=fun hm=>b2 hm
  have bu:w1.heap.size∉f9:=fun hm=>b3 hm
  exact⟨(k+1,gm,xs++[(((JQ a k).vals.length:Nat):Int)],gj,f9,gb,vg28,vv28),_,rfl,zR,⟨d7,da,db,dc,oM,oM,hGe,hMe,(by assumption),(by assumption),(by rw[hxe,Kn];exact(PQ k).symm),bt,bu⟩,zD⟩
 refine AJ false Z Z (A6 bp) Aa<|Ai<|A0<|Aj Z<|A4<|Az<|Az<|Aw<|fC [0,0,0,2,0,0,0,2,0,4,0,0,0,4] Z ?_
 have hkl:k=a.length:=by omega
 refine Ad 2 Z<|Al (p:=zP w.heap.size) 0 B8 Z Z Aa<|Ag (p:=Ap (zP w.heap.size) 0) (.inr Z) vp Bt Z (a3.ldp (i:=0) sM) Aa<|Ad 1 Z<|AE (v:=vp) ((f).toNat) Du BD Z Z ax.isSl oM sD Aa ?_
 obtain⟨cs46,dd,bv⟩:=ax.get (Av dp) Fn.zero (k:=(f).toNat) sD
 obtain⟨b4,rfl,bw⟩:=RF.of dd
 have bx:=bw.rn.lenle
 unfold maxLen at bx
 refine AB (p:=AA vp ((f).toNat) 3) 2 Br Z (bv _ a5) Aa<|Ag (p:=Ap (AA vp ((f).toNat) 3) 2) (.inr Z) b4 B7 Z ((bv _ a5).ld (i:=2) (by simp[DT,E2])) Aa<|Ad 1 Z ?_
 refine AH 102 [] [] [zP w7.heap.size,b4,vo] Z Z Uw Aa (ZC f.toNat dp _ S9 w7.heap.size vp dp ((p.getD f.toNat Fn.zero).params) (0) ((0:Nat):Int) p (JQ a k) b4 ((p.getD ((f).toNat) Fn.zero).outs) vo (xs) (fun b hb=>(hGl.lt b hb:b<g7.heap.size)) (hGl.sub _ hgS) ⟨_,_,_,ab,hMl⟩ (RN.stp (An<|Av dp) ax a5 hGl.new) oM oM oM (by rw[hkl];exact ZW hna oM) (RN.stp (An<|Ay dp) bw.rn a5 hGl.new) (RN.of_ow hOl hdl) hOl.fr.cap g5 oM (by intro j hj;have h9:=g5.wf f.toNat oM j hj;rw[hxe,GV,hkl,hl];exact h9) (by intro j hj;have h9:=g5.deep f.toNat oM j hj;rw[hxe,GV];omega) oM (by exact fun _=>by rw[hxe];exact ZX a k)) ?_
 rintro gt g9 ⟨g8,gn,ga,gu,gp,fe,rfl,a1,⟨f2,vg47,vv47,de,df⟩,bz,c0,dz,c2,c3,c4⟩
 refine⟨_,rfl,?_⟩
 have e0:g7.heap.size≤g9.heap.size:=a1.chg.size
 have dg:Ax S w g9:=a5.stp a1.chg hGl.new
 have dh:=a3.chg a1.chg fun hm=>af hm
 have di:w.heap.size∉ga:=fun hm=>(a1.new _ hm).elim (fun hm=>af hm) (fun h9=>by omega)
 have dj:=aa.chg a1.chg fun hm=>ag hm
 have aj:w1.heap.size∉ga:=fun hm=>(a1.new _ hm).elim (fun hm=>ag hm) (fun h9=>by omega)
 have b5:=hOl.keep (Bm B1) a1.chg fun b hb hm=>hdl b hm hb
 have dk:∀b∈Fo,b∉ga:=fun b hb hm=>(a1.new b hm).elim (hdl b hb) (fun h9=>zH<|hOl.high b hb)
 have c5:=hGl.trans a1
 have e1:=bz.bnd
 have e2:=bz.num
 have hKr:=c4
 have hKb:=c3
 have hKl:=c2
 rw[hxe,hkl]at hKr
 replace hKr:=AN.go0 hKr
 have c6:=c0.rn
 refine B9 Z Aa<|Al (p:=zP w7.heap.size) 1 Gl Z Z Aa<|Al (p:=Ap (zP w7.heap.size) 1) (b:=w7.heap.size) (o:=1) 3 Md Z Z Aa (Bc (k:=4) (w:=g9) Sf Z Z (AV c6.slL) de sM Aa fun fs a7 el ad=>?_)
 replace ad:BX fs.heap w7.heap.size [vp,zI ((p.getD f.toNat Fn.zero).params),f2,vg47,g8,vv47,zI (gp:Int),zI fe]:=ad
 have c7:Ax S w fs:=dg.trans (a7.sub (B6 hgS))
 have ao:=CI.chg df a7
 have c8:=c5.set hgS a7
 have e3:g9.heap.size≤fs.heap.size:=a7.size
 have c9:=dh.chg a7 (zB ·)
 have ca:=dj.chg a7 (zB ·)
 have ah:=b5.keep (Bm B1) a7 fun b hb hm=>by have:=A9 hb;have:=b5.low _ hm;have:=b5.high _ hm;omega
 have hF63l:=c0.upd g1 a7 fun b hb=>by rw[A9 hb];exact .inl (c5.sub _ hgS)
 have dl:=hF63l.rn
 refine Ai<|A0<|fC [0,0,0,2,0] Z<|Ad 1 Z<|B9 Z Aa<|Al (p:=zP w7.heap.size) 7 FE Z Z Aa<|Ag (p:=Ap (zP w7.heap.size) 7) (.inr Z) (zI fe) AI Z (ad.ldp (i:=7) sM) Aa ?_
 by_cases cb:fe≠((0:Nat):Int)
 ·refine AT true Z Z (A5 cb) Aa<|Ai<|Af Z<|A0 ?_
  letI:JR:=Sg [w1.heap.size]
  refine Jx.AQ _ [0,0,0,0,1,3,0] mixed (by kernel_rfl)<|Jx.j1 ?_
  have cc:∀(wq:World),(Instr.build 55 #[]).run Tryz.prog wq=.ok (.agg #[zI 0,zN,zN,zN]) wq:=by intro wq;kernel_rfl
  refine Bh (ps:=#[]) (.agg #[zI 0,zN,zN,zN]) (by simp only[zc,zf,zh]) (fun wq=>cc  wq) Aa<|Ai<|Jx.Yt (zP w7.heap.size) Z Aa<|Jx.j1<|B9 Z Aa<|Ai<|Jx.Al (p:=zP w7.heap.size) 7 FE Z Z Aa<|Jx.dT (p:=Ap (zP w7.heap.size) 7) (zI fe) AI Z (fun wj hj=>(BX.chg (w:=fs.drew) (F:=[w1.heap.size]) ad hj (zB ·)).ldp (i:=7) sM) Aa<|Jx.fI ?_
  refine B2 (vs:=[zI (0:Int),zN,zN,zN]) Fh Z Z (by intro u hu;simp only[ze,z2,or_false]at hu;rcases hu with rfl|rfl|rfl|rfl <;> first|exact⟨rfl,rfl⟩) ca Z Z Aa fun gd a2 em b6=>?_
  replace a2:=a2.of_drew
  replace b6:BX gd.heap w1.heap.size [zI (0:Int),zN,zN,zN]:=b6
  have en:Ax S w gd:=c7.fresh a2 (fun _ h=>zE h)
  have eo:=CI.chgO ao a2 fun b hb hm=>by rw[A9 hb]at hm;exact aj hm
  have dm:=c8.fresh a2 fun _ h=>zE h
  have e5:fs.heap.size≤gd.heap.size:=a2.size
  have ep:=c9.chg a2 (zB ·)
  have eq:=ad.chg a2 (zB ·)
  have er:=ah.keep (Bm B1) a2 fun b hb hm=>by have:=A9 hb;have:=ah.low _ hm;have:=ah.high _ hm;omega
  have hF73l:=hF63l.upd g1 a2 fun b hb=>by rw[A9 hb];(right;omega)
  have es:=hF73l.rn
  refine Ai ⟨Ax.drewL a2,?_⟩
  exact Jx.Ss (zI fe) Z Aa<|Jx.Ai<|A1<|Ao<|BV (t0:=7) (ts:=[]) (cs:=[zI (0:Int),zN,zN,zN]) [zI fe] Z Fh Z b6 Z Z ⟨_,_,_,_,_,_,_,_,rfl,Ax.toExt dm.chg hSn,hKr,oM,(by intro u hu;simp only[ze,z2,or_false]at hu;rcases hu with rfl|rfl|rfl <;> exact⟨rfl,rfl⟩),(by show BG _;unfold BG;omega),(fun h9=>absurd h9 oM)⟩
 refine AT false Z Z (A6 cb) Aa<|Ai<|Aj Z<|A2<|fC [0,0,0,2,4,0] Z<|Ad 1 Z<|B9 Z Aa<|Al (p:=zP w7.heap.size) 1 Gl Z Z Aa<|AF (p:=Ap (zP w7.heap.size) 1) (.inr Z) [zI<|(p.getD f.toNat Fn.zero).params,f2,vg47,g8] Fh Z (fun gf ba=>LD.part (BX.ext (w:=fs) ad ba) (by show(5:Nat)≤8;decide) (by intro i hi;match i,hi with|0,_=>rfl|1,_=>rfl|2,_=>rfl|3,_=>rfl)) Z Aa ?_
 refine B2 (vs:=[zI<|(p.getD f.toNat Fn.zero).params,f2,vg47,g8]) Fh Z Z (by intro u hu;simp only[ze,z2,or_false]at hu;rcases hu with rfl|rfl|rfl|rfl <;> first|exact⟨rfl,rfl⟩|exact AV (CI.slc ao)|exact AV (CI.slg ao)|exact AV dl.slL) ca Z Z Aa fun ge a8 et b7=>?_
 replace b7:BX ge.heap w1.heap.size [zI ((p.getD f.toNat Fn.zero).params),f2,vg47,g8]:=b7
 have eu:Ax S w ge:=c7.fresh a8 (fun _ h=>zE h)
 have ap:=CI.chgO ao a8 fun b hb hm=>by rw[A9 hb]at hm;exact aj hm
 have cd:=c8.fresh a8 fun _ h=>zE h
 have e6:fs.heap.size≤ge.heap.size:=a8.size
 have ev:=c9.chg a8 (zB ·)
 have ew:=ad.chg a8 (zB ·)
 have ex:=ah.keep (Bm B1) a8 fun b hb hm=>by have:=A9 hb;have:=ah.low _ hm;have:=ah.high _ hm;omega
 have hF81l:=hF63l.upd g1 a8 fun b hb=>by rw[A9 hb];(right;omega)
 have dn:=hF81l.rn
 refine Ac 1 Z<|A1 ?_
 have ce:∀b∈ga,w.heap.size≤b:=fun b hb=>(cd.new b hb).elim (hSn b) id
 exact BV (t0:=7) (ts:=[]) (cs:=[zI<|(p.getD f.toNat Fn.zero).params,f2,vg47,g8]) [zI ((0:Nat):Int)] Z Fh Z b7 Z Z ⟨_,_,_,_,_,_,_,_,rfl,Ax.toExt cd.chg hSn,(by have h9:=hKr;rwa [show fe=((0:Nat):Int)from by omega]at h9),oM,(by intro u hu;simp only[ze,z2,or_false]at hu;rcases hu with rfl|rfl|rfl;exact AV (CI.slc ap);exact AV (CI.slg ap);exact RN.one1 g1 dn),(by show BG _;unfold BG;omega),(fun _=>⟨rfl,by assumption,zO,hKl,hKb oM,(CI.readsG ap ce).1,(CI.readsG ap ce).2,S6.rg hF81l oM⟩)⟩
theorem H4 (w:World)(n:Int)(vo:Nat)(ord:Int)(_hn:BG n)(hcord:HV w.heap (zP vo)=some (zI ord))(_hord:BG ord)(ho:0≤ord∧ord≤12) :
  Calls Tryz.prog 186 #[zI n,zP vo] w (fun e w'=>∃v0:Value,e=.returned (v0)∧AD w w'∧Fr (BA rI 2) w.heap.size w'.heap.size w'.heap v0 (cst (ord.toNat+1) n)):=by
 refine Au [zI n,zP vo] 12 Tryz.func186 Z Z sM ?_
 have a0:AD w w:=AD.refl w
 refine fE Z<|fC [2,0,3,0] Z<|Ag (.inr Z) (zI ord) Mb Z (Bp a0 hcord) Aa<|AR ((ord.toNat+1:Nat):Int) Z Z (Bl oM oM) Aa (Hc (n:=ord.toNat+1) BQ Ck Z Z Z sD Aa fun v1 w1 a1 aa a2=>?_)
 have a5:=a1.size
 have a3:=a0.trans a1
 refine Ac 1 Z<|fC [0,0,0,4] Z<|Ad 2 Z<|AE (v:=v1) 0 BQ Ck Z Z a2.isSl Z sM Aa (J1 (v:=v1) (w:=w1) I9 Z Z _hn a2 sM Aa fun w2 F2 a4 ab a6 a7=>?_)
 have a8:AD w w2:=a4.below a3 (fun c hc=>A8 (A7 _) (a6 c hc).1) a3.size
 have a9:w1.heap.size≤w2.heap.size:=a4.size
 exact Ai<|fC [0,0] Z<|Ac 2 Z<|A1<|Ah [3] Z v1 Z ⟨v1,rfl,a8,a7.up o1⟩
theorem Js {p:Prop}(h:p:=by first|(rw[DM oM,NT oM];exact⟨_,_,by assumption⟩)|(rw[DM oM,LV oM];exact⟨_,_,by assumption⟩)|(rw[DM oM,LX oM];exact⟨_,_,by assumption⟩)|(rw[DM oM,LY oM];exact⟨_,_,by assumption⟩)|(rw[DM oM,LZ oM];exact⟨_,_,by assumption⟩)|(rw[DM oM,M0 oM];exact⟨_,_,by assumption⟩)|(rw[DM oM,M1 oM];exact⟨_,_,by assumption⟩)):p:=h
theorem Jt {p:Prop}(h:p:=by unfold maxLen;first|omega|assumption|(simp only[zb,z9,z4,z6,z5];omega)|(simp[zb,z9,z4,z6,z5];done)|(simp[zb,z9,z4,z6,z5];omega)):p:=h
theorem Ju {p:Prop}(h:p:=by first|exact VQ hzk oM|exact VR hzk oM):p:=h
theorem Jv {p:Prop}(h:p:=by exact VP hR hsA (hform k hkl) hkl):p:=h
theorem HR (w:World)(ipT:Int)(vtc vtg vtx:Value)(T:Tp)(oT:Sr)(va:Value)(A:List (Sr))(ord:Int)(_hipT:BG ipT)(htcT:RN [] (E1 4 ON) w.heap vtc T.code)(htgT:RN [] (E1 2 OO) w.heap vtg T.grd)(htoT:RN [] (Bd rI) w.heap vtx oT)(hA:RN [] (Bd (Bd rI)) w.heap va A)(hqA:Cs va)(_hord:BG ord)(ho:0≤ord∧ord≤12)(hsA:C4 (ord.toNat+1) A)(hform:∀k,k<T.code.length→Fi A.length k (T.code.getD k AM.zero))(hlt:T.code.length≤4000) :
  Calls Tryz.prog 109 #[(.agg #[(zI ipT),vtc,vtg,vtx]),va,zI ord] w (fun e w'=>∃(v0:Value) (c1:Int),e=.returned (.tuple #[v0,zI c1])∧AD w w'∧aJ (ord.toNat+1) A T.code c1∧(c1=0→RN [] (Bd (Bd rI)) w'.heap v0 (Bi (ord.toNat+1) A T.code)∧Cs v0)):=by
 refine Au [.agg #[zI ipT,vtc,vtg,vtx],va,zI ord] 109 Tryz.func109 Z Z sM ?_
 have gp:AD w w:=AD.refl w
 have hl_vtx:=htoT.lenL
 unfold maxLen at hl_vtx
 have f2:=hA.lenL
 unfold maxLen at f2
 have hS:∀b∈([]:List Nat),b<w.heap.size:=fun b hb=>by cases hb
 refine fC [3,3,0,0] Z (Bv (cs:=#[zI ipT,vtc,vtg,vtx]) Z Aa fun w1 dx im dt=>?_)
 have dy:=dx.size
 have gq:=gp.trans dx
 replace dt:BX w1.heap w.heap.size [zI ipT,vtc,vtg,vtx]:=dt
 have jr:=dt.lt
 refine Zg (u:=zI ord) Z Z Aa fun w2 du io dv=>?_
 have dz:=du.size
 have gr:=gq.trans du
 have bg:=dt.ext du
 replace dv:BX w2.heap w1.heap.size [zI ord]:=dv
 refine Ac 2 Z<|fC [3,0] Z ?_
 obtain⟨BO,hBO⟩:∃b:Nat,b=w2.heap.size:=⟨_,rfl⟩
 have hwB:w.heap.size≤BO:=by omega
 have js:w.heap.size<BO:=by have:=BX.lt bg;omega
 have jt:w1.heap.size<BO:=by have:=BX.lt dv;omega
 refine Dy rV BK Cb Bo Aa fun v4 w4 ch ip e0=>?_
 have e1:=ch.size
 have gs:=gr.trans ch
 have ci:=bg.ext ch
 have cj:=dv.ext ch
 obtain⟨ju,F4,jv⟩:=HY.nil (S:=[]) (by rw[← hBO]at e0;exact e0)
 refine Ac 1 Z<|fC [0,0] Z<|Nw [] [zP w1.heap.size] Z Z Aa<|Ac 1 Z<|A0<|fC [0,2,0,0] Z<|Al (p:=zP w.heap.size) 1 FV Z Z Aa<|Ag (p:=Ap (zP w.heap.size) 1) (.inr Z) vtc KQ Z (ci.ldp (i:=1) sM) Aa<|AS (v:=vtc) PY Z htcT.isSl Aa<|Ac 1 Z<|A3 ?_
 refine AW (S:=Nat×Value) (fun⟨k,vo⟩=>([(8,vo),(18,zI (k:Int)),(1,va),(9,.func (.func 186) #[] #[zP w1.heap.size]),(16,vtc),(17,zI (T.code.length:Int))])) (fun⟨k,vo⟩ W=>AD w W∧BX W.heap w1.heap.size [zI ord]∧k≤T.code.length∧w.heap.size≤BO∧BO≤W.heap.size∧PB 27 [] BO W.heap vo (Bi (ord.toNat+1) A<|T.code.take k)∧LU (ord.toNat+1) A T.code k∧C4 (ord.toNat+1) (Bi (ord.toNat+1) A<|T.code.take k)) (fun⟨k,vo⟩=>T.code.length-k) (0,v4) ⟨rfl,rfl,rfl,rfl,rfl,rfl,trivial⟩ ⟨gs,cj,oM,oM,oM,(by exact⟨_,_,by assumption⟩),Zh,(by intro j hj;simp at hj)⟩ ?_
 clear gp im dx dy gq io du dz gr e0 ip ch e1 gs
 rintro⟨k,vo⟩ ρ7 w7 ⟨dw,au,gt,gu,gv,hbld,hzk,hR⟩
 have iq:w.heap.size≤w7.heap.size:=dw.size
 have hRl:(Bi (ord.toNat+1) A (T.code.take k)).length=k:=by rw[C7,List.length_take];omega
 have jw:=au.lt
 obtain⟨jx,F9,av⟩:=hbld
 have hFl:∀b∈F9,b<w7.heap.size:=av.lt
 refine fC [0] Z ?_
 by_cases ck:(k:Int)<(T.code.length:Int)
 ·refine AJ true Z Z (A5 ck) Aa<|Ai<|A0<|Af Z<|A2<|A0<|A3<|fC [0,2,3,4] Z ?_
  have hkl:k<T.code.length:=by omega
  refine AE (v:=vtc) k PY K2 Z Z htcT.isSl Z sD Aa ?_
  obtain⟨cs11,e2,e3⟩:=htcT.get Be AM.zero (k:=k) sD
  obtain⟨rfl,e4⟩:=NU e2
  refine AF (p:=AA vtc k 4) (.inr Z) [zI<|(T.code.getD k AM.zero).op,zI<|(T.code.getD k AM.zero).a,zI<|(T.code.getD k AM.zero).b,zI<|(T.code.getD k AM.zero).num] FW Z (fun k6 ir=>e3 k6<|Ax.of_ext []<|dw.trans ir) Z Aa ?_
  have is:=au.lt
  refine AU (z:=.agg #[zI 0,zI 0,zI 0,zI 0]) UL Aa fun jy ai it bn=>?_
  have gw:=ai.size
  have cl:=dw.trans ai
  have aw:=au.ext ai
  have iu:=av.ext ai
  replace bn:BX jy.heap w7.heap.size [zI 0,zI 0,zI 0,zI 0]:=bn
  refine B2 (vs:=[zI<|(T.code.getD k AM.zero).op,zI<|(T.code.getD k AM.zero).a,zI<|(T.code.getD k AM.zero).b,zI<|(T.code.getD k AM.zero).num]) FW Z Z (by intro u hu;simp only[ze,z2,or_false]at hu;rcases hu with rfl|rfl|rfl|rfl <;> first|exact⟨rfl,rfl⟩) bn Z Z Aa fun f3 ay iv az=>?_
  replace az:BX f3.heap w7.heap.size [zI ((T.code.getD k AM.zero).op),zI ((T.code.getD k AM.zero).a),zI ((T.code.getD k AM.zero).b),zI ((T.code.getD k AM.zero).num)]:=az
  have e5:AD w f3:=ay.below cl (fun _ h=>zE h) cl.size
  have gx:jy.heap.size≤f3.heap.size:=ay.size
  have cm:=aw.chg ay (zB ·)
  have e6:=av.ext<|ay.below ai (fun _ h=>zE h) ai.size
  refine Ai<|fC [0,0,2,3,0] Z<|Ad 1 Z<|Al (p:=zP w7.heap.size) 3 FX Z Z Aa<|Ag (p:=Ap (zP w7.heap.size) 3) (.inr Z) (zI<|(T.code.getD k AM.zero).num) AI Z (az.ldp (i:=3) sM) Aa<|At 186 [] [zP w1.heap.size] [zI<|(T.code.getD k AM.zero).num,zP w1.heap.size] Z Z bT Aa (H4 _ _ (w1.heap.size) (ord) e4.2.2.2 (cm.ld (k:=0) sM) _hord oM) ?_
  rintro kt f1 ⟨bh,rfl,aj,ad⟩
  refine⟨_,rfl,aj,?_⟩
  have gy:=aj.size
  have a8:=e5.trans aj
  have a2:=cm.ext aj
  have a0:=az.ext aj
  have a1:=e6.ext aj
  refine Ac 1 Z<|A0<|fC [0,2] Z<|Al (p:=zP w7.heap.size) 0 Me Z Z Aa<|Ag (p:=Ap (zP w7.heap.size) 0) (.inr Z) (zI<|(T.code.getD k AM.zero).op) AI Z (a0.ldp (i:=0) sM) Aa<|Ai<|A3<|fC [0,0] Z ?_
  by_cases cn:(T.code.getD k AM.zero).op=((1:Nat):Int)
  ·refine As true Z Z (A5 cn) Aa<|Ac 1 Z<|Af Z<|Ab _ [0,0,2,0,2,0] Z ?_
   have hio:=(hform k hkl).i1 oM
   refine Ad 1 Z<|Al (p:=zP w7.heap.size) 3 FX Z Z Aa<|Ag (p:=Ap (zP w7.heap.size) 3) (.inr Z) (zI<|(T.code.getD k AM.zero).num) AI Z (a0.ldp (i:=3) sM) Aa<|AE (v:=va) (((T.code.getD k AM.zero).num).toNat) Cb Bo Z Z hA.slL oM sD Aa ?_
   obtain⟨bo,e7,bp⟩:=RN.getL (w:=w) g1 [] (k:=((T.code.getD k AM.zero).num).toNat) hA sD
   have co:=bp.lenL
   unfold maxLen at co
   refine Ag (p:=AA va (((T.code.getD k AM.zero).num).toNat) 1) (.inr Z) bo Bx Z (e7 _<|Ax.of_ext [] a8) Aa<|Ac 1 Z<|Ab _ [0,0,3,4,0] Z<|Ad 2 Z (Cd (u:=bo) (B:=f1.heap.size) BK Cb Bo Z Z (Ps f1.heap.size f1.heap.size _<|bp.one1 g1) (A7 _) Aa fun k7 k8 b0 iw e8=>?_)
   have gz:=b0.size
   have bq:=a8.trans b0
   have b1:=a2.ext b0
   have b2:=a1.ext b0
   refine Fl (v:=vo) (a:=k7) (u:=bo) Cb Bo Z Z Z b2 oM e8 (RN.stp g1 bp (Ax.of_ext [] bq) fun b hb=>.inr (zH<|b2.low b (by simpa using hb))) sD Jt Aa ?_
   rintro k9 jz G24 br cp ⟨ix,ku,iy⟩
   have i0:k8.heap.size≤jz.heap.size:=br.size
   have e9:AD w jz:=br.below bq (fun c hc=>A8 hwB (b2.low c (cp c hc))) bq.size
   have ea:=b1.chg br fun hm=>zH<|b2.low _ (cp _ hm)
   refine Ac 1 Z<|Ab _ [0,0] Z<|AR ((k+1:Nat):Int) Z Z (Bl oM sD) Aa<|Ac 1 Z ?_
   exact⟨(k+1,k9),_,rfl,zR,⟨e9,ea,oM,oM,oM,Js,Ju,Jv⟩,zD⟩
  refine As false Z Z (A6 cn) Aa<|Ac 1 Z<|Aj Z<|fC [0,0] Z ?_
  by_cases cq:(T.code.getD k AM.zero).op=((3:Nat):Int)
  ·refine As true Z Z (A5 cq) Aa<|Ac 1 Z<|Af Z<|AQ _ [0,0,1,0,1,0,0,1,0,1,3,0] mixed (by kernel_rfl) ?_
   have hio:=(hform k hkl).i2 oM
   have hra:=hR (T.code.getD k AM.zero).a.toNat oM
   have hrb:=hR (T.code.getD k AM.zero).b.toNat oM
   have b3:=hra.1
   have bs:=hrb.1
   refine Ad 1 Z<|Al (p:=zP w7.heap.size) 1 D3 Z Z Aa<|Ag (p:=Ap (zP w7.heap.size) 1) (.inl Z) (zI<|(T.code.getD k AM.zero).a) AI Z (a0.ldp (i:=1) sM) Aa<|AE (v:=vo) (((T.code.getD k AM.zero).a).toNat) Cb Bo Z Z (a1.done fun b hb=>absurd hb z2).slL oM sD Aa ?_
   obtain⟨cr,eb,bt⟩:=RN.getL (w:=f1) g1 [] (k:=((T.code.getD k AM.zero).a).toNat) (a1.done (fun b hb=>absurd hb z2)) sD
   have ct:=bt.lenL
   unfold maxLen at ct
   refine Ag (p:=AA vo (((T.code.getD k AM.zero).a).toNat) 1) (.inl Z) cr Bx Z (eb _ (Ax.refl _ _).drew) Aa<|Ad 1 Z<|Al (p:=zP w7.heap.size) 2 CS Z Z Aa<|Ag (p:=Ap (zP w7.heap.size) 2) (.inl Z) (zI<|(T.code.getD k AM.zero).b) AI Z (a0.ldp (i:=2) sM) Aa ?_
   refine AE (v:=vo) (((T.code.getD k AM.zero).b).toNat) Cb Bo Z Z (a1.done fun b hb=>absurd hb z2).slL oM sD Aa ?_
   obtain⟨cu,ec,bu⟩:=RN.getL (w:=f1) g1 [] (k:=((T.code.getD k AM.zero).b).toNat) (a1.done (fun b hb=>absurd hb z2)) sD
   have cv:=bu.lenL
   unfold maxLen at cv
   refine Ag (p:=AA vo (((T.code.getD k AM.zero).b).toNat) 1) (.inl Z) cu Bx Z (ec _ (Ax.refl _ _).drew) Aa<|At 185 [] [] [cr,cu] Z Z Pk Aa (Et _ _ _ _ _ (bt).rd (bu).rd oM oM hra.2 hrb.2) ?_
   rintro kv f9 ⟨bi,rfl,a9,a3⟩
   refine⟨_,rfl,a9,?_⟩
   replace a9:=a9.of_drew
   have i3:=a9.size
   have ed:=a8.trans a9
   have b4:=a2.ext a9
   have ee:=a1.ext a9
   have ef:=bt.ext g1 a9
   have eg:=bu.ext g1 a9
   replace a3:=a3.low (B':=f1.heap.size)<|A7 _
   refine Ac 1 Z<|Ab _ [0,0,3,4,0] Z<|Ad 2 Z (Cd (u:=bi) (B:=f9.heap.size) BK Cb Bo Z Z (Ps f9.heap.size f9.heap.size _<|⟨(Cp a3.isSl).1,(Cp a3.isSl).2⟩) (A7 _) Aa fun ka kb ae iz eh=>?_)
   have i4:=ae.size
   have cw:=ed.trans ae
   have b5:=b4.ext ae
   have ak:=a3.ext (o1) ae
   have bv:=ee.ext ae
   have j0:=ef.ext g1 ae
   have j1:=eg.ext g1 ae
   refine Fl (v:=vo) (a:=ka) (u:=bi) Cb Bo Z Z Z bv oM eh (RN.of_fr1 ak fun b hb=>zH<|hFl b (by simpa using hb)) sD Jt Aa ?_
   rintro kc k0 G37 bw cx ⟨j2,kw,j3⟩
   have i5:kb.heap.size≤k0.heap.size:=bw.size
   have ei:AD w k0:=bw.below cw (fun c hc=>A8 hwB (bv.low c (cx c hc))) cw.size
   have ej:=b5.chg bw fun hm=>zH<|bv.low _ (cx _ hm)
   refine Ac 1 Z<|Ab _ [0,0] Z<|AR ((k+1:Nat):Int) Z Z (Bl oM sD) Aa<|Ac 1 Z ?_
   exact⟨(k+1,kc),_,rfl,zR,⟨ei,ej,oM,oM,oM,Js,Ju,Jv⟩,zD⟩
  refine As false Z Z (A6 cq) Aa<|Ac 1 Z<|Aj Z<|fC [0,0] Z ?_
  by_cases cy:(T.code.getD k AM.zero).op=((4:Nat):Int)
  ·refine As true Z Z (A5 cy) Aa<|Ac 1 Z<|Af Z<|AQ _ [0,0,1,0,1,0,0,1,0,1,3,0] mixed (by kernel_rfl) ?_
   have hio:=(hform k hkl).i2 oM
   have hra:=hR (T.code.getD k AM.zero).a.toNat oM
   have hrb:=hR (T.code.getD k AM.zero).b.toNat oM
   have b3:=hra.1
   have bs:=hrb.1
   refine Ad 1 Z<|Al (p:=zP w7.heap.size) 1 D3 Z Z Aa<|Ag (p:=Ap (zP w7.heap.size) 1) (.inl Z) (zI<|(T.code.getD k AM.zero).a) AI Z (a0.ldp (i:=1) sM) Aa<|AE (v:=vo) (((T.code.getD k AM.zero).a).toNat) Cb Bo Z Z (a1.done fun b hb=>absurd hb z2).slL oM sD Aa ?_
   obtain⟨cz,ek,bx⟩:=RN.getL (w:=f1) g1 [] (k:=((T.code.getD k AM.zero).a).toNat) (a1.done (fun b hb=>absurd hb z2)) sD
   have d0:=bx.lenL
   unfold maxLen at d0
   refine Ag (p:=AA vo (((T.code.getD k AM.zero).a).toNat) 1) (.inl Z) cz Bx Z (ek _ (Ax.refl _ _).drew) Aa<|Ad 1 Z<|Al (p:=zP w7.heap.size) 2 CS Z Z Aa<|Ag (p:=Ap (zP w7.heap.size) 2) (.inl Z) (zI<|(T.code.getD k AM.zero).b) AI Z (a0.ldp (i:=2) sM) Aa ?_
   refine AE (v:=vo) (((T.code.getD k AM.zero).b).toNat) Cb Bo Z Z (a1.done fun b hb=>absurd hb z2).slL oM sD Aa ?_
   obtain⟨d1,el,bz⟩:=RN.getL (w:=f1) g1 [] (k:=((T.code.getD k AM.zero).b).toNat) (a1.done (fun b hb=>absurd hb z2)) sD
   have d2:=bz.lenL
   unfold maxLen at d2
   refine Ag (p:=AA vo (((T.code.getD k AM.zero).b).toNat) 1) (.inl Z) d1 Bx Z (el _ (Ax.refl _ _).drew) Aa<|At 178 [] [] [cz,d1] Z Z XZ Aa (If _ _ _ _ _ (bx).rd (bz).rd oM oM oM hra.2 hrb.2) ?_
   rintro kx fe ⟨bj,rfl,aa,a4⟩
   refine⟨_,rfl,aa,?_⟩
   replace aa:=aa.of_drew
   have i6:=aa.size
   have em:=a8.trans aa
   have b6:=a2.ext aa
   have en:=a1.ext aa
   have eo:=bx.ext g1 aa
   have ep:=bz.ext g1 aa
   replace a4:=a4.low (B':=f1.heap.size)<|A7 _
   refine Ac 1 Z<|Ab _ [0,0,3,4,0] Z<|Ad 2 Z (Cd (u:=bj) (B:=fe.heap.size) BK Cb Bo Z Z (Ps fe.heap.size fe.heap.size _<|⟨(Cp a4.isSl).1,(Cp a4.isSl).2⟩) (A7 _) Aa fun kd ke af j4 eq=>?_)
   have i8:=af.size
   have d3:=em.trans af
   have b7:=b6.ext af
   have al:=a4.ext (o1) af
   have c0:=en.ext af
   have j5:=eo.ext g1 af
   have j6:=ep.ext g1 af
   refine Fl (v:=vo) (a:=kd) (u:=bj) Cb Bo Z Z Z c0 oM eq (RN.of_fr1 al fun b hb=>zH<|hFl b (by simpa using hb)) sD Jt Aa ?_
   rintro kf k1 G50 c2 d4 ⟨j7,ky,j8⟩
   have i9:ke.heap.size≤k1.heap.size:=c2.size
   have er:AD w k1:=c2.below d3 (fun c hc=>A8 hwB (c0.low c (d4 c hc))) d3.size
   have es:=b7.chg c2 fun hm=>zH<|c0.low _ (d4 _ hm)
   refine Ac 1 Z<|Ab _ [0,0] Z<|AR ((k+1:Nat):Int) Z Z (Bl oM sD) Aa<|Ac 1 Z ?_
   exact⟨(k+1,kf),_,rfl,zR,⟨er,es,oM,oM,oM,Js,Ju,Jv⟩,zD⟩
  refine As false Z Z (A6 cy) Aa<|Ac 1 Z<|Aj Z<|fC [0,0] Z ?_
  by_cases d5:(T.code.getD k AM.zero).op=((5:Nat):Int)
  ·refine As true Z Z (A5 d5) Aa<|Ac 1 Z<|Af Z<|AQ _ [0,0,1,0,1,0,0,1,0,1,3,0] mixed (by kernel_rfl) ?_
   have hio:=(hform k hkl).i2 oM
   have hra:=hR (T.code.getD k AM.zero).a.toNat oM
   have hrb:=hR (T.code.getD k AM.zero).b.toNat oM
   have b3:=hra.1
   have bs:=hrb.1
   refine Ad 1 Z<|Al (p:=zP w7.heap.size) 1 D3 Z Z Aa<|Ag (p:=Ap (zP w7.heap.size) 1) (.inl Z) (zI<|(T.code.getD k AM.zero).a) AI Z (a0.ldp (i:=1) sM) Aa<|AE (v:=vo) (((T.code.getD k AM.zero).a).toNat) Cb Bo Z Z (a1.done fun b hb=>absurd hb z2).slL oM sD Aa ?_
   obtain⟨d6,et,c3⟩:=RN.getL (w:=f1) g1 [] (k:=((T.code.getD k AM.zero).a).toNat) (a1.done (fun b hb=>absurd hb z2)) sD
   have d7:=c3.lenL
   unfold maxLen at d7
   refine Ag (p:=AA vo (((T.code.getD k AM.zero).a).toNat) 1) (.inl Z) d6 Bx Z (et _ (Ax.refl _ _).drew) Aa<|Ad 1 Z<|Al (p:=zP w7.heap.size) 2 CS Z Z Aa<|Ag (p:=Ap (zP w7.heap.size) 2) (.inl Z) (zI<|(T.code.getD k AM.zero).b) AI Z (a0.ldp (i:=2) sM) Aa ?_
   refine AE (v:=vo) (((T.code.getD k AM.zero).b).toNat) Cb Bo Z Z (a1.done fun b hb=>absurd hb z2).slL oM sD Aa ?_
   obtain⟨d8,eu,c4⟩:=RN.getL (w:=f1) g1 [] (k:=((T.code.getD k AM.zero).b).toNat) (a1.done (fun b hb=>absurd hb z2)) sD
   have d9:=c4.lenL
   unfold maxLen at d9
   refine Ag (p:=AA vo (((T.code.getD k AM.zero).b).toNat) 1) (.inl Z) d8 Bx Z (eu _ (Ax.refl _ _).drew) Aa<|At 179 [] [] [d6,d8] Z Z Pj Aa (DF _ _ _ _ _ (c3).rd (c4).rd oM oM hra.2 hrb.2) ?_
   rintro kz fr ⟨bk,rfl,ab,a5⟩
   refine⟨_,rfl,ab,?_⟩
   replace ab:=ab.of_drew
   have ia:=ab.size
   have ev:=a8.trans ab
   have b8:=a2.ext ab
   have ew:=a1.ext ab
   have ex:=c3.ext g1 ab
   have ey:=c4.ext g1 ab
   replace a5:=a5.low (B':=f1.heap.size)<|A7 _
   refine Ac 1 Z<|Ab _ [0,0,3,4,0] Z<|Ad 2 Z (Cd (u:=bk) (B:=fr.heap.size) BK Cb Bo Z Z (Ps fr.heap.size fr.heap.size _<|⟨(Cp a5.isSl).1,(Cp a5.isSl).2⟩) (A7 _) Aa fun kg kh ag j9 ez=>?_)
   have ib:=ag.size
   have da:=ev.trans ag
   have b9:=b8.ext ag
   have am:=a5.ext (o1) ag
   have c5:=ew.ext ag
   have ja:=ex.ext g1 ag
   have jb:=ey.ext g1 ag
   refine Fl (v:=vo) (a:=kg) (u:=bk) Cb Bo Z Z Z c5 oM ez (RN.of_fr1 am fun b hb=>zH<|hFl b (by simpa using hb)) sD Jt Aa ?_
   rintro ki k2 G63 c6 db ⟨jc,l0,jd⟩
   have ic:kh.heap.size≤k2.heap.size:=c6.size
   have g0:AD w k2:=c6.below da (fun c hc=>A8 hwB (c5.low c (db c hc))) da.size
   have g2:=b9.chg c6 fun hm=>zH<|c5.low _ (db _ hm)
   refine Ac 1 Z<|Ab _ [0,0] Z<|AR ((k+1:Nat):Int) Z Z (Bl oM sD) Aa<|Ac 1 Z ?_
   exact⟨(k+1,ki),_,rfl,zR,⟨g0,g2,oM,oM,oM,Js,Ju,Jv⟩,zD⟩
  refine As false Z Z (A6 d5) Aa<|Ac 1 Z<|Aj Z<|fC [0,0] Z ?_
  by_cases dc:(T.code.getD k AM.zero).op=((7:Nat):Int)
  ·refine As true Z Z (A5 dc) Aa<|Ac 1 Z<|Af Z<|Ab _ [0,0,2,0,2,3,0] Z ?_
   have hio:=(hform k hkl).i7 oM
   have hra:=hR (T.code.getD k AM.zero).a.toNat oM
   have b3:=hra.1
   refine Ad 1 Z<|Al (p:=zP w7.heap.size) 1 D3 Z Z Aa<|Ag (p:=Ap (zP w7.heap.size) 1) (.inr Z) (zI<|(T.code.getD k AM.zero).a) AI Z (a0.ldp (i:=1) sM) Aa<|AE (v:=vo) (((T.code.getD k AM.zero).a).toNat) Cb Bo Z Z (a1.done fun b hb=>absurd hb z2).slL oM sD Aa ?_
   obtain⟨dd,g3,c7⟩:=RN.getL (w:=f1) g1 [] (k:=((T.code.getD k AM.zero).a).toNat) (a1.done (fun b hb=>absurd hb z2)) sD
   have de:=c7.lenL
   unfold maxLen at de
   refine Ag (p:=AA vo (((T.code.getD k AM.zero).a).toNat) 1) (.inr Z) dd Bx Z (g3 _<|Ax.refl _ _) Aa<|At 187 [] [] [dd,zI ((1000002:Nat):Int)] Z Z Ns Aa (Dm _ _ _ _ (c7).rd oM oM hra.2 oM) ?_
   rintro l1 fs ⟨bl,rfl,an,ah⟩
   refine⟨_,rfl,an,?_⟩
   have id:=an.size
   have g4:=a8.trans an
   have ba:=a2.ext an
   have g5:=a1.ext an
   have g6:=c7.ext g1 an
   refine Ac 1 Z<|Ab _ [0,0,3,4,0] Z<|Ad 2 Z (Cd (u:=bl) (B:=fs.heap.size) BK Cb Bo Z Z (Ps fs.heap.size fs.heap.size _<|⟨(Cp ah.isSl).1,(Cp ah.isSl).2⟩) (A7 _) Aa fun kj kk ao je g7=>?_)
   have ie:=ao.size
   have df:=g4.trans ao
   have bb:=ba.ext ao
   have ap:=ah.ext (o1) ao
   have c8:=g5.ext ao
   have jf:=g6.ext g1 ao
   refine Fl (v:=vo) (a:=kj) (u:=bl) Cb Bo Z Z Z c8 oM g7 (RN.of_fr1 ap fun b hb=>zH<|hFl b (by simpa using hb)) sD Jt Aa ?_
   rintro kl k3 G73 c9 dg ⟨jg,l2,jh⟩
   have ig:kk.heap.size≤k3.heap.size:=c9.size
   have g8:AD w k3:=c9.below df (fun c hc=>A8 hwB (c8.low c (dg c hc))) df.size
   have g9:=bb.chg c9 fun hm=>zH<|c8.low _ (dg _ hm)
   refine Ac 1 Z<|Ab _ [0,0] Z<|AR ((k+1:Nat):Int) Z Z (Bl oM sD) Aa<|Ac 1 Z ?_
   exact⟨(k+1,kl),_,rfl,zR,⟨g8,g9,oM,oM,oM,Js,Ju,Jv⟩,zD⟩
  refine As false Z Z (A6 dc) Aa<|Ac 1 Z<|Aj Z<|fC [0,0] Z ?_
  by_cases dh:(T.code.getD k AM.zero).op=((6:Nat):Int)
  ·refine As true Z Z (A5 dh) Aa<|Ac 1 Z<|Af Z<|A0<|fC [0,0,2,0,2,0,2,0] Z ?_
   have hio:=(hform k hkl).i2 oM
   have hra:=hR (T.code.getD k AM.zero).a.toNat oM
   have hrb:=hR (T.code.getD k AM.zero).b.toNat oM
   have b3:=hra.1
   have bs:=hrb.1
   refine Ad 1 Z<|Al (p:=zP w7.heap.size) 2 CS Z Z Aa<|Ag (p:=Ap (zP w7.heap.size) 2) (.inr Z) (zI<|(T.code.getD k AM.zero).b) AI Z (a0.ldp (i:=2) sM) Aa<|AE (v:=vo) (((T.code.getD k AM.zero).b).toNat) Cb Bo Z Z (a1.done fun b hb=>absurd hb z2).slL oM sD Aa ?_
   obtain⟨ca,ga,bc⟩:=RN.getL (w:=f1) g1 [] (k:=((T.code.getD k AM.zero).b).toNat) (a1.done (fun b hb=>absurd hb z2)) sD
   have di:=bc.lenL
   unfold maxLen at di
   refine Ag (p:=AA vo (((T.code.getD k AM.zero).b).toNat) 1) (.inr Z) ca Bx Z (ga _<|Ax.refl _ _) Aa<|AE (v:=ca) 0 BQ Ck Z Z bc.slL Z sD Aa ?_
   have gb:=RN.getI (w:=f1) (k:=0) bc sD
   refine Ag (p:=AA ca 0 1) (.inr Z) (zI<|((Bi (ord.toNat+1) A<|T.code.take k).getD (((T.code.getD k AM.zero).b).toNat) []).getD 0 0) AI Z (gb.1 _<|Ax.refl _ _) Aa ?_
   by_cases dj:((Bi (ord.toNat+1) A (T.code.take k)).getD (((T.code.getD k AM.zero).b).toNat) []).getD 0 0=((0:Nat):Int)
   ·exact As true Z Z (A5 dj) Aa<|Ai<|Af Z<|fC [0,0] Z<|Ac 2 Z<|A1<|Ao<|AL<|Ao<|AL<|Ao<|Ao<|AL<|Ao<|Ah [6,7] Z (.tuple #[zN,zI ((6:Nat):Int)]) Z ⟨_,_,rfl,a8,.inr ⟨rfl,Uc oM oM oM⟩,(fun h9=>absurd h9 oM)⟩
   refine As false Z Z (A6 dj) Aa<|Ai<|Aj Z<|A2<|AQ _ [0,0,1,0,1,0,0,1,0,1,3,0] mixed (by kernel_rfl)<|Ad 1 Z<|Al (p:=zP w7.heap.size) 1 D3 Z Z Aa<|Ag (p:=Ap (zP w7.heap.size) 1) (.inl Z) (zI<|(T.code.getD k AM.zero).a) AI Z (a0.ldp (i:=1) sM) Aa ?_
   refine AE (v:=vo) (((T.code.getD k AM.zero).a).toNat) Cb Bo Z Z (a1.done fun b hb=>absurd hb z2).slL oM sD Aa ?_
   obtain⟨dk,gc,cb⟩:=RN.getL (w:=f1) g1 [] (k:=((T.code.getD k AM.zero).a).toNat) (a1.done (fun b hb=>absurd hb z2)) sD
   have dl:=cb.lenL
   unfold maxLen at dl
   refine Ag (p:=AA vo (((T.code.getD k AM.zero).a).toNat) 1) (.inl Z) dk Bx Z (gc _ (Ax.refl _ _).drew) Aa<|Ad 1 Z<|Al (p:=zP w7.heap.size) 2 CS Z Z Aa<|Ag (p:=Ap (zP w7.heap.size) 2) (.inl Z) (zI<|(T.code.getD k AM.zero).b) AI Z (a0.ldp (i:=2) sM) Aa ?_
   refine AE (v:=vo) (((T.code.getD k AM.zero).b).toNat) Cb Bo Z Z (a1.done fun b hb=>absurd hb z2).slL oM sD Aa ?_
   obtain⟨dm,gd,cc⟩:=RN.getL (w:=f1) g1 [] (k:=((T.code.getD k AM.zero).b).toNat) (a1.done (fun b hb=>absurd hb z2)) sD
   have dn:=cc.lenL
   unfold maxLen at dn
   refine Ag (p:=AA vo (((T.code.getD k AM.zero).b).toNat) 1) (.inl Z) dm Bx Z (gd _ (Ax.refl _ _).drew) Aa<|At 177 [] [] [dk,dm] Z Z UD Aa (Fp _ _ _ _ _ (cb).rd (cc).rd oM oM oM hra.2 hrb.2) ?_
   rintro l3 fx ⟨bm,rfl,a7,a6⟩
   refine⟨_,rfl,a7,?_⟩
   replace a7:=a7.of_drew
   have ih:=a7.size
   have ge:=a8.trans a7
   have bd:=a2.ext a7
   have gf:=a1.ext a7
   have gg:=bc.ext g1 a7
   have gh:=cb.ext g1 a7
   have gi:=cc.ext g1 a7
   replace a6:=a6.low (B':=f1.heap.size)<|A7 _
   refine Ac 1 Z<|Ab _ [0,0,3,4,0] Z<|Ad 2 Z (Cd (u:=bm) (B:=fx.heap.size) BK Cb Bo Z Z (Ps fx.heap.size fx.heap.size _<|⟨(Cp a6.isSl).1,(Cp a6.isSl).2⟩) (A7 _) Aa fun km ko ac ji gj=>?_)
   have ii:=ac.size
   have dp:=ge.trans ac
   have be:=bd.ext ac
   have aq:=a6.ext (o1) ac
   have cd:=gf.ext ac
   have jj:=gg.ext g1 ac
   have jk:=gh.ext g1 ac
   have jl:=gi.ext g1 ac
   refine Fl (v:=vo) (a:=km) (u:=bm) Cb Bo Z Z Z cd oM gj (RN.of_fr1 aq fun b hb=>zH<|hFl b (by simpa using hb)) sD Jt Aa ?_
   rintro kp k4 G91 ce dq ⟨jm,l4,jn⟩
   have ij:ko.heap.size≤k4.heap.size:=ce.size
   have gk:AD w k4:=ce.below dp (fun c hc=>A8 hwB (cd.low c (dq c hc))) dp.size
   have gl:=be.chg ce fun hm=>zH<|cd.low _ (dq _ hm)
   refine Ac 1 Z<|Ab _ [0,0] Z<|AR ((k+1:Nat):Int) Z Z (Bl oM sD) Aa<|Ac 1 Z ?_
   exact⟨(k+1,kp),_,rfl,zR,⟨gk,gl,oM,oM,oM,Js,Ju,Jv⟩,zD⟩
  refine As false Z Z (A6 dh) Aa<|Ac 1 Z<|Aj Z<|A2<|Ab _ [0,0,3,4,0] Z<|Ad 2 Z (Cd (u:=bh) (B:=f1.heap.size) BK Cb Bo Z Z (Ps f1.heap.size f1.heap.size _<|⟨(Cp ad.isSl).1,(Cp ad.isSl).2⟩) (A7 _) Aa fun kq kr ax jo gm=>?_)
  have ik:=ax.size
  have dr:=a8.trans ax
  have bf:=a2.ext ax
  have ar:=ad.ext (o1) ax
  have cf:=a1.ext ax
  refine Fl (v:=vo) (a:=kq) (u:=bh) Cb Bo Z Z Z cf oM gm (RN.of_fr1 ar fun b hb=>zH<|hFl b (by simpa using hb)) sD Jt Aa ?_
  rintro ks k5 G95 cg ds ⟨jp,l5,jq⟩
  have il:kr.heap.size≤k5.heap.size:=cg.size
  have gn:AD w k5:=cg.below dr (fun c hc=>A8 hwB (cf.low c (ds c hc))) dr.size
  have go:=bf.chg cg fun hm=>zH<|cf.low _ (ds _ hm)
  refine Ac 1 Z<|Ab _ [0,0] Z<|AR ((k+1:Nat):Int) Z Z (Bl oM sD) Aa<|Ac 1 Z ?_
  exact⟨(k+1,ks),_,rfl,zR,⟨gn,go,oM,oM,oM,Js,Ju,Jv⟩,zD⟩
 exact AJ false Z Z (A6 ck) Aa<|Ai<|A0<|Aj Z<|A4<|Az<|Az<|Aw<|fC [0,0,0] Z<|Ac 3 Z<|A1<|Ah [6,7] Z (.tuple #[vo,zI ((0:Nat):Int)]) Z ⟨_,_,rfl,dw,.inl ⟨rfl,(by have h9:=hzk;rwa [show k=T.code.length from by omega]at h9)⟩,(fun _=>⟨(by have h9:=av.done (fun b hb=>absurd hb z2);rwa [za oM]at h9),av.cap⟩)⟩
theorem Bs (w:World)(r:Int)(vs:Value)(s:Sr)(S:List Nat)(vo:Nat)(vov:Value)(xs:List (Sr))(usxs:List Value)(Fxs:List Nat)(BO:Nat)(_hr:BG r)(hs:Rd (Bd rI) w.heap vs s)(hcxs:HV w.heap (zP vo)=some vov)(hbxs:HY 27 S BO w.heap vov xs usxs Fxs)(hSB:∀b∈S,b<BO)(a9:∀b∈S,b<w.heap.size)(hr:0≤r∧r<(xs.length:Int))(hxl:(xs.getD r.toNat []).length≤s.length∧s.length≤13)(hxn:Bb (xs.getD r.toNat [])=true)(hsn:Bb s=true) :
  Calls Tryz.prog 231 #[zI r,vs,zP vo] w (fun e w'=>e=.returned (.tuple #[])∧Ax Fxs w w'∧∃us',HY 27 S BO w'.heap vov (FC xs r s) us' Fxs):=by
 refine Au [zI r,vs,zP vo] 14 Tryz.func231 Z Z sM ?_
 have a2:AD w w:=AD.refl w
 have ad:=hs.lenle
 have hFl:∀b∈Fxs,b<w.heap.size:=hbxs.lt
 refine AQ _ [1,0,1,0,0,1,0,3,0,4] mixed (by kernel_rfl)<|Ag (.inl Z) vov Mc Z (Bp a2.drew hcxs) Aa<|Ad 1 Z<|Ag (.inl Z) vov Mc Z (Bp a2.drew hcxs) Aa<|Ad 1 Z<|AE (v:=vov) ((r).toNat) Cb Bo Z Z (hbxs.done hSB).none.slL oM sD Aa ?_
 obtain⟨a7,aa,a4⟩:=hbxs.getF (k:=(r).toNat) sD
 have a5:=a4.lenL
 unfold maxLen at a5
 refine Ag (p:=AA vov ((r).toNat) 1) (.inl Z) a7 Bx Z aa Aa<|Ad 1 Z<|At 185 [] [] [a7,vs] Z Z Pk Aa (Et _ _ _ _ _ a4.rd (hs.ext g1 a2.drew) oM oM hxn hsn) ?_
 rintro e2 w2 ⟨a6,rfl,a1,a0⟩
 refine⟨_,rfl,a1,?_⟩
 replace a1:=a1.of_drew
 have ab:=a1.size
 have ac:=a2.trans a1
 have a8:=hbxs.ext a1
 replace a0:=a0.low (B':=w.heap.size)<|A7 _
 refine AE (v:=vov) ((r).toNat) Cb Bo Z Z (a8.done hSB).none.slL oM sD Aa ?_
 refine Ud (v:=vov) (u:=a6) (w:=w2) Sf Z Z a8 (RN.of_fr1 a0 fun b hb=>by rcases zi.1 hb with hb|hb;(have:=a9 b hb;omega);(have:=hFl b hb;omega)) sD Aa fun w5 a3 ah ae=>?_
 have af:w2.heap.size≤w5.heap.size:=a3.size
 have ag:Ax Fxs w w5:=(Ax.of_ext _ ac).trans a3
 exact Ai<|Sn [] Z (.tuple #[]) Z ⟨rfl,ag,_,ae⟩
theorem Kz {p:Prop}(h:p:=by first|(rw[show(kk-1+1).toNat=kk.toNat from by omega];exact GZ hadj oM (P8 oM))|(rw[show(kk-1+1).toNat=kk.toNat from by omega];exact GZ hadj oM (P9 oM))|(rw[show(kk-1+1).toNat=kk.toNat from by omega];exact GZ hadj oM (Pa oM))|(rw[show(kk-1+1).toNat=kk.toNat from by omega];exact GZ hadj oM (Pb oM))|(rw[show(kk-1+1).toNat=kk.toNat from by omega];exact GZ hadj oM (Pc oM))|(rw[show(kk-1+1).toNat=kk.toNat from by omega];exact GZ hadj oM (Pd oM))):p:=h
theorem KA {p:Prop}(h:p:=by(try rw[show((1000002:Nat):Int)=1000002 from rfl]);first|(rw[← P8 (k:=kk.toNat) (R:=R) oM];exact Hl hxs oM (hform _ hkn))|(rw[← P9 (k:=kk.toNat) (R:=R) oM];exact Hl hxs oM (hform _ hkn))|(rw[← Pa (k:=kk.toNat) (R:=R) oM];exact Hl hxs oM (hform _ hkn))|(rw[← Pb (k:=kk.toNat) (R:=R) oM];exact Hl hxs oM (hform _ hkn))|(rw[← Pc (k:=kk.toNat) (R:=R) oM];exact Hl hxs oM (hform _ hkn))|exact hxs):p:=h
theorem G3 {p:Prop}(h:p:=by first|exact hro.2|exact hRa.2|exact hRb.2|exact hRk.2|exact Fd _ _|exact FM _ _|exact Fb _ _):p:=h
theorem Hv {p:Prop}(h:p:=by refine⟨?_,?_⟩ <;> first|omega|(simp only[GP,GN,El,GO];omega)):p:=h
theorem Hw {p:Prop}(h:p:=by first|exact hro.2|exact Fd _ _|exact FM _ _|exact Fb _ _):p:=h
theorem G4 {p:Prop}(h:p:=by first|omega|(simp only[GP,GN,El,GO];omega)):p:=h
theorem KB {p:Prop}(h:p:=by first|exact hxl|(simp only[C2];exact hxl)):p:=h
theorem Ik (w:World)(m:Nat)(ni:Nat)(S:List Nat)(ipT:Int)(vtc vtg vtx:Value)(T:Tp)(oT:Sr)(vr:Value)(R:List (Sr))(vw:Value)(ws:Sr)(c1:∀b∈S,b<w.heap.size)(_hipT:BG ipT)(htcT:RN [] (E1 4 ON) w.heap vtc T.code)(htgT:RN [] (E1 2 OO) w.heap vtg T.grd)(htoT:RN [] (Bd rI) w.heap vtx oT)(hR:RN [] (Bd (Bd rI)) w.heap vr R)(hqR:Cs vr)(hws:Rd (Bd rI) w.heap vw ws)(hm:1≤m∧m≤13)(hsR:C4 m R)(hlR:R.length=T.code.length)(hlt:T.code.length≤4000)(hlo:oT.length≤ws.length∧ws.length≤1000000)(ho:∀k,k<oT.length→0≤oT.getD k 0∧oT.getD k 0<(T.code.length:Int))(hnw:Bb ws=true)(hform:∀k,k<T.code.length→Fi ni k (T.code.getD k AM.zero)) :
  Calls Tryz.prog 184 #[(.agg #[(zI ipT),vtc,vtg,vtx]),vr,vw] w (fun e w'=>∃v0:Value,e=.returned v0∧AD w w'∧RN S (Bd (Bd rI)) w'.heap v0 (JW T.code R oT ws)∧Cs v0):=by
 refine Au [.agg #[zI ipT,vtc,vtg,vtx],vr,vw] 159 Tryz.func184 Z Z sM ?_
 have jn:AD w w:=AD.refl w
 have hl_vtx:=htoT.lenL
 unfold maxLen at hl_vtx
 have fe:=hR.lenL
 unfold maxLen at fe
 have m6:=hws.lenle
 refine fC [3,0] Z (Bv (cs:=#[zI ipT,vtc,vtg,vtx]) Z Aa fun w1 gx ks gy=>?_)
 have gz:=gx.size
 have jo:=jn.trans gx
 replace gy:BX w1.heap w.heap.size [zI ipT,vtc,vtg,vtx]:=gy
 refine Ac 1 Z<|fC [3,3,4] Z (Dy (BA rI 2) o1 Cb Bo Aa fun v2 w2 gu kt jp=>?_)
 have i0:=gu.size
 have jq:=jo.trans gu
 have cu:=gy.ext gu
 have lu:=cu.lt
 refine AU (z:=zN) (by kernel_rfl) Aa fun w3 dx ku i1=>?_
 have i3:=dx.size
 have i4:=jq.trans dx
 have dy:=cu.ext dx
 have c2:=jp.ext (o2) dx
 replace i1:BX w3.heap w2.heap.size [zN]:=i1
 refine Bc (k:=0) (w:=w3) cV Z Z (AV c2.isSl) i1 sM Aa fun w5 dz kv gv=>?_
 replace gv:BX w5.heap w2.heap.size [v2]:=gv
 have jr:AD w w5:=dz.below i4 (fun _ h=>zE h) i4.size
 have i5:w3.heap.size≤w5.heap.size:=dz.size
 have js:=dy.chg dz (zB ·)
 have jt:=c2.chg (o2) dz fun _ h=>zA h
 refine Ai<|A0<|fC [0,0,0] Z<|Ad 1 Z<|AS (v:=vr) Cb Z hR.slL Aa<|Ac 1 Z<|A3 ?_
 have hLBa:w.heap.size<w1.heap.size:=by omega
 have hLBb:w1.heap.size≤w2.heap.size:=by omega
 have hLBc:=Nat.le_of_lt hLBa
 obtain⟨Fo8,e0⟩:=Ow.of_fr (T:=w2.heap.size) jt (A7 _)
 have kw:w2.heap.size∉Fo8:=fun hm=>zH<|e0.high _ hm
 have kx:=e0.up (T':=w5.heap.size) oM
 have ky:w2.heap.size<w5.heap.size:=BX.lt gv
 refine AW (S:=Nat×Value×List Nat) (fun⟨k,vo,Fo⟩=>([(20,zI (k:Int)),(1,vr),(2,vw),(3,zP w.heap.size),(7,zP w2.heap.size),(18,vr),(19,zI (R.length:Int))])) (fun⟨k,vo,Fo⟩ W=>AD w W∧BX W.heap w.heap.size [zI ipT,vtc,vtg,vtx]∧BX W.heap w2.heap.size [vo]∧k≤R.length∧Ow (BA (BA rI 2) 27) w1.heap.size W.heap.size W.heap vo (JV<|R.take k) Fo∧w2.heap.size∉Fo) (fun⟨k,vo,Fo⟩=>R.length-k) (0,v2,Fo8) ⟨rfl,rfl,rfl,rfl,rfl,rfl,rfl,trivial⟩ ⟨jr,js,gv,oM,(by assumption),(by assumption)⟩ ?_
 clear jn ks gx gz jo jp kt gu i0 jq ku dx i3 i4 c2 kv dz jr i5 js jt
 rintro⟨k,vo,Fo⟩ ρ9 w9 ⟨e1,ax,ap,ju,hOl,hgF⟩
 have i6:w.heap.size≤w9.heap.size:=e1.size
 have kz:=ax.lt
 have l0:=ap.lt
 have mu:w2.heap.size<w9.heap.size:=BX.lt ap
 refine fC [0] Z ?_
 by_cases e2:(k:Int)<(R.length:Int)
 ·refine AJ true Z Z (A5 e2) Aa<|Ai<|A0<|Af Z<|A2<|A0<|A3<|fC [0,2,0] Z<|AE (v:=vr) k Cb Bo Z Z hR.slL Z sD Aa ?_
  obtain⟨e3,i8,e4⟩:=RN.getL (w:=w) g1 [] (k:=k) hR sD
  have e5:=e4.lenL
  unfold maxLen at e5
  refine Ag (p:=AA vr k 1) (.inr Z) e3 Bx Z (i8 _<|Ax.of_ext [] e1) Aa<|Ac 1 Z<|AQ _ [1,0,0,3,3,4,4] mixed (by kernel_rfl) ?_
  have hrk:=hsR k oM
  have l1:=hrk.1
  refine Ag (p:=zP w2.heap.size) (.inl Z) vo Mc Z (ap.ld (k:=0) sM) Aa<|Ad 1 Z<|AS (v:=e3) BQ Z e4.slL Aa (Hc (n:=(R.getD k []).length) BQ Ck Z Z Z sD Aa fun mc mv b5 l2 i9=>?_)
  replace b5:=b5.of_drew
  have jv:=b5.size
  have ia:=e1.trans b5
  have c3:=ax.ext b5
  have c4:=ap.ext b5
  have ib:=hOl.ext o2 b5
  refine Cd (u:=mc) (B:=w9.heap.size) o1 Cb Bo Z Z i9 (by first|exact A7 _|omega) Aa fun me mf c5 l3 ic=>?_
  have jw:=c5.size
  have e6:=ia.trans c5
  have c6:=c3.ext c5
  have c7:=c4.ext c5
  have df:=ib.ext o2 c5
  refine Yx o1 (v:=vo) (a:=me) Cb Bo Z Z Z df ic oM oM oM sD (by unfold maxLen;first|omega|assumption|(simp;done)|(simp;omega)) Aa fun m7 lw m8 ck e7 id=>?_
  have jx:mf.heap.size≤lw.heap.size:=ck.size
  have e8:AD w lw:=ck.below e6 (fun c hc=>A8 hLBc (df.low c (zj hc))) e6.size
  have ie:=c6.chg ck fun hm=>zH<|df.low _ (zj hm)
  have ig:=c7.chg ck fun hm=>hgF<|zj hm
  have hF25d:w2.heap.size∉m8:=fun hm=>(id _ hm).elim hgF (fun h9=>by omega)
  refine Bc (k:=0) (w:=lw) cV Z Z (AV e7.slO) ig sM Aa fun lx cl l4 dg=>?_
  replace dg:BX lx.heap w2.heap.size [m7]:=dg
  have ih:AD w lx:=cl.below e8 (fun _ h=>zE h) e8.size
  have jy:lw.heap.size≤lx.heap.size:=cl.size
  have ii:=ie.chg cl (zB ·)
  have ij:=e7.keep o2 cl fun b hb hm=>by rw[A9 hb]at hm;exact hF25d hm
  refine Ai<|Ab _ [0,0] Z<|AR ((k+1:Nat):Int) Z Z (Bl oM sD) Aa<|Ac 1 Z ?_
  have hOe:=(ij).up (T':=lx.heap.size) oM
  rw[Ue oM]at hOe
  exact⟨(k+1,m7,m8),_,rfl,zR,⟨ih,ii,dg,oM,hOe,(by assumption)⟩,zD⟩
 refine AJ false Z Z (A6 e2) Aa<|Ai<|A0<|Aj Z<|A4<|Az<|Az<|Aw<|A0<|fC [0,2,0,0] Z<|Al (p:=zP w.heap.size) 3 Md Z Z Aa<|Ag (p:=Ap (zP w.heap.size) 3) (.inr Z) vtx Bx Z (ax.ldp (i:=3) sM) Aa<|AS (v:=vtx) BQ Z htoT.slL Aa<|Ac 1 Z<|A3 ?_
 refine AW (S:=Nat) (fun i=>([(34,zI (i:Int)),(1,vr),(2,vw),(3,zP w.heap.size),(7,zP w2.heap.size),(32,vtx),(33,zI (oT.length:Int))])) (fun i W=>AD w W∧BX W.heap w.heap.size [zI ipT,vtc,vtg,vtx]∧BX W.heap w2.heap.size [vo]∧i≤oT.length∧Ow (BA (BA rI 2) 27) w1.heap.size W.heap.size W.heap vo (MC oT ws i<|JV R) Fo) (fun i=>oT.length-i) 0 ⟨rfl,rfl,rfl,rfl,rfl,rfl,rfl,trivial⟩ ⟨e1,ax,ap,oM,(by have h9:=hOl;rw[za oM]at h9;exact h9)⟩ ?_
 clear ap ax e1 i6
 rintro i ρ30 fr ⟨b6,aj,a5,ik,ay⟩
 have e9:w.heap.size≤fr.heap.size:=b6.size
 have hwl:(MC oT ws i (JV R)).length=T.code.length:=by rw[Er,Da];exact hlR
 have l5:=aj.lt
 have l6:=a5.lt
 have l7:w2.heap.size<fr.heap.size:=BX.lt a5
 refine fC [0] Z ?_
 by_cases ea:(i:Int)<(oT.length:Int)
 ·refine AJ true Z Z (A5 ea) Aa<|Ai<|A0<|Af Z<|A2<|A0<|A3<|fC [0,0,2,0,0] Z<|Ad 1 Z<|AE (v:=vtx) i BQ Ck Z Z htoT.slL Z sD Aa ?_
  have il:=RN.getI (w:=w) (k:=i) htoT sD
  refine Ag (p:=AA vtx i 1) (.inr Z) (zI<|oT.getD i 0) AI Z (il.1 _<|Ax.of_ext [] b6) Aa<|Ac 2 Z<|AQ _ [1,0,0,1,1,0,0,1,0,1,0,0,0,1,0,0,4] mixed (by kernel_rfl) ?_
  have hor:=ho i oM
  have hrw:=IA (m:=m) (ws:=ws) (Hk hsR) (fun q hq=>by have:=ho q hq;rw[Da];omega) i oM (oT.getD i 0).toNat oM
  have l8:=hrw.1
  refine Ag (p:=zP w2.heap.size) (.inl Z) vo Mc Z (a5.ld (k:=0) sM) Aa<|Ad 1 Z<|AE (v:=vo) ((oT.getD i 0).toNat) Cb Bo Z Z ay.slO oM sD Aa ?_
  obtain⟨dh,eb,ec⟩:=ay.rowO (k:=(oT.getD i 0).toNat) sD
  have ed:=(RN.of ec).lenL
  unfold maxLen at ed
  refine Ag (p:=AA vo ((oT.getD i 0).toNat) 1) (.inl Z) dh Bx Z eb Aa<|Ag (p:=zP w2.heap.size) (.inl Z) vo Mc Z (a5.ld (k:=0) sM) Aa<|Ad 1 Z<|AE (v:=vo) ((oT.getD i 0).toNat) Cb Bo Z Z ay.slO oM sD Aa ?_
  obtain⟨di,im,dj⟩:=ay.rowO (k:=(oT.getD i 0).toNat) sD
  have ee:=(RN.of dj).lenL
  unfold maxLen at ee
  refine Ag (p:=AA vo ((oT.getD i 0).toNat) 1) (.inl Z) di Bx Z im Aa<|AE (v:=di) 0 BQ Ck Z Z (RN.of dj).slL Z sD Aa ?_
  have ef:=RN.getI (w:=fr) (k:=0) (RN.of dj) sD
  refine Ag (p:=AA di 0 1) (.inl Z) (zI<|((MC oT ws i<|JV R).getD ((oT.getD i 0).toNat) []).getD 0 0) AI Z (ef.1 _ (Ax.refl _ _).drew) Aa<|Ad 2 Z<|AE (v:=vw) i BQ Ck Z Z hws.isSl Z sD Aa ?_
  refine Ag (p:=AA vw i 1) (.inl Z) (zI<|ws.getD i 0) AI Z (Bp b6.drew (hws.getI sD).1) Aa ?_
  refine AG 230 [] [] [zI<|((MC oT ws i<|JV R).getD ((oT.getD i 0).toNat) []).getD 0 0,zI<|ws.getD i 0] Z Z UH Aa (zI<|md ((((MC oT ws i<|JV R).getD ((oT.getD i 0).toNat) []).getD 0 0)+(ws.getD i 0))) (fun wq=>Ib wq _ _ ef.2 (hws.getI sD).2) ?_
  refine AE (v:=dh) 0 BQ Ck Z Z (RN.of ec).slL Z sD Aa ?_
  refine VT (v:=vo) (u:=dh) (w:=fr.drew) I9 Z Z (FL _) ay sD eb sD Aa fun ly G39 bj l9 dk io=>?_
  replace bj:=bj.of_drew
  have jz:fr.heap.size≤ly.heap.size:=bj.size
  have ip:AD w ly:=bj.below b6 (fun c hc=>A8 hLBc (ay.low c (dk c hc))) b6.size
  have iq:=aj.chg bj fun hm=>zH<|ay.low _ (dk _ hm)
  have ir:=a5.chg bj fun hm=>hgF<|dk _ hm
  refine Ai<|Ab _ [0,0] Z<|AR ((i+1:Nat):Int) Z Z (Bl oM sD) Aa<|Ac 1 Z ?_
  have hOe:=(io).up (T':=ly.heap.size) oM
  exact⟨i+1,_,rfl,zR,⟨ip,iq,ir,oM,hOe⟩,zD⟩
 refine AJ false Z Z (A6 ea) Aa<|Ai<|A0<|Aj Z<|A4<|Az<|Az<|Aw<|A0<|fC [0,2,0,0,0] Z ?_
 have hOw:=ay
 rw[show i=oT.length from by omega]at hOw
 obtain⟨la,F0,is,k0⟩:=HY.ofOw (S:=S) hOw (fun b hb=>zH<|c1 b hb)
 have cm:w2.heap.size∉F0:=fun hm=>hgF (k0 _ hm)
 obtain⟨BO,hBO⟩:∃b:Nat,b=w1.heap.size:=⟨_,rfl⟩
 rw[← hBO]at is
 have hwB:w.heap.size≤BO:=by omega
 have hSB:∀b∈S,b<BO:=fun b hb=>zH<|c1 b hb
 obtain⟨B0,gw⟩:∃l:List Sr,l=MC oT ws oT.length (JV R):=⟨_,rfl⟩
 rw[← gw]at is
 have lb:C4 m B0:=by rw[gw];exact IA (Hk hsR) (fun q hq=>by have:=ho q hq;rw[Da];omega) _ (A7 _)
 have lc:B0.length=T.code.length:=by rw[gw,Er,Da];exact hlR
 refine Al (p:=zP w.heap.size) 1 FV Z Z Aa<|Ag (p:=Ap (zP w.heap.size) 1) (.inr Z) vtc KQ Z (aj.ldp (i:=1) sM) Aa<|AS (v:=vtc) PY Z htcT.isSl Aa ?_
 refine BJ ((T.code.length:Int)-((1:Nat):Int)) Z Z (DH sD sD) Aa<|Ac 1 Z<|A3 ?_
 refine AW (S:=Int×List Sr×List Value) (fun⟨kk,xs,us⟩=>([(12,zI kk),(1,vr),(3,zP w.heap.size),(7,zP w2.heap.size)])) (fun⟨kk,xs,us⟩ W=>AD w W∧BX W.heap w.heap.size [zI ipT,vtc,vtg,vtx]∧BX W.heap w2.heap.size [vo]∧(-1≤kk∧kk<(T.code.length:Int))∧HY 27 S BO W.heap vo xs us F0∧C4 m xs∧xs.length=T.code.length∧Sj T.code R (kk+1).toNat xs=Sj T.code R T.code.length B0) (fun⟨kk,xs,us⟩=>(kk+1).toNat) ((T.code.length:Int)-1,B0,la) ⟨rfl,rfl,rfl,rfl,trivial⟩ ⟨b6,aj,a5,oM,is,lb,lc,(by rw[show((T.code.length:Int)-1+1).toNat=T.code.length from by omega])⟩ ?_
 clear a5 aj b6 e9 k0
 rintro⟨kk,xs,us⟩ ρ42 f1 ⟨cn,au,a8,it,hbl,hxs,hxl,hadj⟩
 have k1:w.heap.size≤f1.heap.size:=cn.size
 have le:=au.lt
 have lf:=a8.lt
 have hFl:∀b∈F0,b<f1.heap.size:=hbl.lt
 have lg:=BX.lt a8
 refine A0<|fC [0,0] Z<|Ad 1 Z ?_
 by_cases eg:((0:Nat):Int)≤kk
 ·refine DN true Z Z (A5 eg) Aa<|Ai<|Af Z<|A2<|A0<|A3<|A0 ?_
  letI:JR:=Sg [f1.drew.heap.size]
  refine Jx.AQ _ [0,1,0,0,1,1,0,0,1,3,3,0] mixed (by kernel_rfl) ?_
  have ba:∀wj,Ax [f1.drew.heap.size] f1.drew wj→AD f1.drew wj:=fun wj hj=>Ax.toExt hj (fun b hb=>Nat.le_of_eq (A9 hb).symm)
  have hkn:kk.toNat<T.code.length:=by omega
  have hro:=hxs kk.toNat oM
  have lh:=hro.1
  have hRk:=hsR kk.toNat oM
  have li:=hRk.1
  refine Jx.Al (p:=zP w.heap.size) 1 FV Z Z Aa<|Jx.dT (p:=Ap (zP w.heap.size) 1) vtc KQ Z (fun wj hj=>(BX.ext (w:=f1.drew) au<|ba wj hj).ldp (i:=1) sM) Aa<|Jx.Yt (zI kk) Z Aa<|Jx.AE (v:=vtc) ((kk).toNat) PY K2 Z Z htcT.isSl oM sD Aa ?_
  obtain⟨cs49,iu,iv⟩:=htcT.get Be AM.zero (k:=(kk).toNat) sD
  obtain⟨rfl,av⟩:=NU iu
  refine Jx.ZL (p:=AA vtc ((kk).toNat) 4) [zI<|(T.code.getD ((kk).toNat) AM.zero).op,zI<|(T.code.getD ((kk).toNat) AM.zero).a,zI<|(T.code.getD ((kk).toNat) AM.zero).b,zI<|(T.code.getD ((kk).toNat) AM.zero).num] FW Z (fun wj hj=>iv wj<|Ax.of_ext []<|cn.drew.trans<|ba wj hj) Z Aa<|Jx.dT (p:=zP w2.heap.size) vo Mc Z (fun wj hj=>(BX.ext (w:=f1.drew) a8<|ba wj hj).ldp (i:=0) sM) Aa<|Jx.Yt (zI kk) Z Aa ?_
  refine Jx.AE (v:=vo) ((kk).toNat) Cb Bo Z Z (hbl.done hSB).none.slL oM sD Aa ?_
  obtain⟨a9,iw,dl⟩:=hbl.getF (k:=(kk).toNat) sD
  have eh:=dl.lenL
  unfold maxLen at eh
  refine Jx.dT (p:=AA vo ((kk).toNat) 1) a9 Bx Z (fun wj hj=>Bp (w:=f1.drew) (ba wj hj) iw) Aa ?_
  have lj:=au.lt
  have lk:=a8.lt
  have k2:f1.drew.heap.size=f1.heap.size:=rfl
  refine Jx.eM<|AU (z:=.agg #[zI 0,zI 0,zI 0,zI 0]) UL Aa ?_
  intro m9 ac ll dm
  refine Ai ?_
  replace ac:=ac.of_drew
  have k3:=ac.size
  have ei:=cn.trans ac
  have bk:=au.ext ac
  have bl:=a8.ext ac
  have lm:=hbl.ext ac
  have ln:=dl.ext g1 ac
  replace dm:BX m9.heap f1.drew.heap.size [zI 0,zI 0,zI 0,zI 0]:=dm
  refine Jx.fI (B2 (vs:=[zI<|(T.code.getD ((kk).toNat) AM.zero).op,zI<|(T.code.getD ((kk).toNat) AM.zero).a,zI<|(T.code.getD ((kk).toNat) AM.zero).b,zI<|(T.code.getD ((kk).toNat) AM.zero).num]) FW Z Z (by intro u hu;simp only[ze,z2,or_false]at hu;rcases hu with rfl|rfl|rfl|rfl <;> first|exact⟨rfl,rfl⟩) dm Z Z Aa fun f2 b7 lo a6=>?_)
  replace a6:BX f2.heap f1.drew.heap.size [zI ((T.code.getD ((kk).toNat) AM.zero).op),zI ((T.code.getD ((kk).toNat) AM.zero).a),zI ((T.code.getD ((kk).toNat) AM.zero).b),zI ((T.code.getD ((kk).toNat) AM.zero).num)]:=a6
  have ad:AD w f2:=b7.below ei (fun _ h=>zE h) ei.size
  have k4:m9.heap.size≤f2.heap.size:=b7.size
  have bm:=bk.chg b7 (zB ·)
  have az:=bl.chg b7 (zB ·)
  have ae:=hbl.ext<|b7.below ac (fun _ h=>zE h) ac.size
  have an:=dl.ext g1<|b7.below ac (fun _ h=>zE h) ac.size
  refine Ai ⟨b7,?_⟩
  refine Jx.Ss a9 Z Aa<|Jx.Ai<|fC [0,0] Z<|Nw [] [zP w2.heap.size] Z Z Aa<|Ac 1 Z<|fC [0,2] Z<|Al (p:=zP f1.drew.heap.size) 0 Me Z Z Aa<|Ag (p:=Ap (zP f1.drew.heap.size) 0) (.inr Z) (zI<|(T.code.getD ((kk).toNat) AM.zero).op) AI Z (a6.ldp (i:=0) sM) Aa<|Ai<|A3<|fC [0,0] Z ?_
  by_cases ej:(T.code.getD ((kk).toNat) AM.zero).op=((3:Nat):Int)
  ·refine As true Z Z (A5 ej) Aa<|Ac 1 Z<|Af Z<|fC [0,0,2,0,4] Z ?_
   have hio:=(hform kk.toNat hkn).i2 oM
   have hra:=hxs (T.code.getD kk.toNat AM.zero).a.toNat oM
   have co:=hra.1
   have hRa:=hsR (T.code.getD kk.toNat AM.zero).a.toNat oM
   have hRb:=hsR (T.code.getD kk.toNat AM.zero).b.toNat oM
   have dn:=hRa.1
   have dp:=hRb.1
   refine Ad 1 Z<|Al (p:=zP f1.drew.heap.size) 1 D3 Z Z Aa<|Ag (p:=Ap (zP f1.drew.heap.size) 1) (.inr Z) (zI<|(T.code.getD ((kk).toNat) AM.zero).a) AI Z (a6.ldp (i:=1) sM) Aa<|Ad 1 Z ?_
   refine AH 231 [] [zP w2.heap.size] [zI<|(T.code.getD ((kk).toNat) AM.zero).a,a9,zP w2.heap.size] Z Z JZ Aa (Bs _ ((T.code.getD ((kk).toNat) AM.zero).a) a9 (xs.getD ((kk).toNat) []) S w2.heap.size vo (xs) _ _ BO av.2.1 an.rd (az.ld (k:=0) sM) ae hSB (fun b hb=>zH<|c1 b hb) oM Hv hra.2 Hw) ?_
   rintro mw lz ⟨rfl,bn,lp,cp⟩
   refine⟨_,rfl,?_⟩
   have k5:f2.heap.size≤lz.heap.size:=bn.size
   have ek:AD w lz:=bn.below ad (fun c hc=>A8 hwB (ae.low c hc)) ad.size
   have ix:=bm.chg bn fun hm=>by have:=ae.low _ hm;have:=hFl _ hm;omega
   have el:=az.chg bn fun hm=>cm hm
   have em:=a6.chg bn fun hm=>by have:=ae.low _ hm;have:=hFl _ hm;omega
   have en:=an.chg g1<|bn.sub fun b hb=>z1 _ hb
   have dq:C4 m (FC xs (T.code.getD kk.toNat AM.zero).a (xs.getD kk.toNat [])):=Db hxs oM
   have iy:(FC xs (T.code.getD kk.toNat AM.zero).a (xs.getD kk.toNat [])).length=T.code.length:=by rw[C2];exact hxl
   have hrb:=dq (T.code.getD kk.toNat AM.zero).b.toNat oM
   have dr:=hrb.1
   refine Ai<|Ab _ [0,0,2,0,4] Z<|Ad 1 Z<|Al (p:=zP f1.drew.heap.size) 2 CS Z Z Aa<|Ag (p:=Ap (zP f1.drew.heap.size) 2) (.inr Z) (zI<|(T.code.getD ((kk).toNat) AM.zero).b) AI Z (em.ldp (i:=2) sM) Aa<|Ad 1 Z ?_
   refine AH 231 [] [zP w2.heap.size] [zI<|(T.code.getD ((kk).toNat) AM.zero).b,a9,zP w2.heap.size] Z Z JZ Aa (Bs _ ((T.code.getD ((kk).toNat) AM.zero).b) a9 (xs.getD ((kk).toNat) []) S w2.heap.size vo (FC xs ((T.code.getD ((kk).toNat) AM.zero).a)<|xs.getD ((kk).toNat) []) _ _ BO av.2.2.1 en.rd (el.ld (k:=0) sM) cp hSB (fun b hb=>zH<|c1 b hb) oM Hv hrb.2 Hw) ?_
   rintro mx ma ⟨rfl,bo,iz,j0⟩
   refine⟨_,rfl,?_⟩
   have k6:lz.heap.size≤ma.heap.size:=bo.size
   have j1:AD w ma:=bo.below ek (fun c hc=>A8 hwB (cp.low c hc)) ek.size
   have j2:=ix.chg bo fun hm=>by have:=cp.low _ hm;have:=hFl _ hm;omega
   have j3:=el.chg bo fun hm=>cm hm
   have lq:=em.chg bo fun hm=>by have:=cp.low _ hm;have:=hFl _ hm;omega
   have lr:=en.chg g1<|bo.sub fun b hb=>z1 _ hb
   refine Ai<|Ab _ [0,0,0] Z<|Ad 1 Z<|BJ (kk-((1:Nat):Int)) Z Z (DH sD sD) Aa<|Ac 1 Z ?_
   have hbe:=j0
   exact⟨(kk-1,FC (FC xs ((T.code.getD ((kk).toNat) AM.zero).a) (xs.getD ((kk).toNat) [])) ((T.code.getD ((kk).toNat) AM.zero).b) (xs.getD ((kk).toNat) []),iz),_,rfl,zR,⟨j1,j2,j3,oM,hbe,KA,KB,Kz⟩,zD⟩
  refine As false Z Z (A6 ej) Aa<|Ac 1 Z<|Aj Z<|fC [0,0] Z ?_
  by_cases eo:(T.code.getD ((kk).toNat) AM.zero).op=((4:Nat):Int)
  ·refine As true Z Z (A5 eo) Aa<|Ac 1 Z<|Af Z<|fC [0,0,2,0,4] Z ?_
   have hio:=(hform kk.toNat hkn).i2 oM
   have hra:=hxs (T.code.getD kk.toNat AM.zero).a.toNat oM
   have co:=hra.1
   have hRa:=hsR (T.code.getD kk.toNat AM.zero).a.toNat oM
   have hRb:=hsR (T.code.getD kk.toNat AM.zero).b.toNat oM
   have dn:=hRa.1
   have dp:=hRb.1
   refine Ad 1 Z<|Al (p:=zP f1.drew.heap.size) 1 D3 Z Z Aa<|Ag (p:=Ap (zP f1.drew.heap.size) 1) (.inr Z) (zI<|(T.code.getD ((kk).toNat) AM.zero).a) AI Z (a6.ldp (i:=1) sM) Aa<|Ad 1 Z ?_
   refine AH 231 [] [zP w2.heap.size] [zI<|(T.code.getD ((kk).toNat) AM.zero).a,a9,zP w2.heap.size] Z Z JZ Aa (Bs _ ((T.code.getD ((kk).toNat) AM.zero).a) a9 (xs.getD ((kk).toNat) []) S w2.heap.size vo (xs) _ _ BO av.2.1 an.rd (az.ld (k:=0) sM) ae hSB (fun b hb=>zH<|c1 b hb) oM Hv hra.2 Hw) ?_
   rintro my m0 ⟨rfl,bp,ls,j4⟩
   refine⟨_,rfl,?_⟩
   have k7:f2.heap.size≤m0.heap.size:=bp.size
   have j5:AD w m0:=bp.below ad (fun c hc=>A8 hwB (ae.low c hc)) ad.size
   have j6:=bm.chg bp fun hm=>by have:=ae.low _ hm;have:=hFl _ hm;omega
   have j7:=az.chg bp fun hm=>cm hm
   have ep:=a6.chg bp fun hm=>by have:=ae.low _ hm;have:=hFl _ hm;omega
   have eq:=an.chg g1<|bp.sub fun b hb=>z1 _ hb
   have dq:C4 m (FC xs (T.code.getD kk.toNat AM.zero).a (xs.getD kk.toNat [])):=Db hxs oM
   have iy:(FC xs (T.code.getD kk.toNat AM.zero).a (xs.getD kk.toNat [])).length=T.code.length:=by rw[C2];exact hxl
   have hrb:=dq (T.code.getD kk.toNat AM.zero).b.toNat oM
   have dr:=hrb.1
   refine Ai<|AQ _ [0,0,1,0,3,4] mixed (by kernel_rfl)<|Ad 1 Z<|Al (p:=zP f1.drew.heap.size) 2 CS Z Z Aa<|Ag (p:=Ap (zP f1.drew.heap.size) 2) (.inl Z) (zI<|(T.code.getD ((kk).toNat) AM.zero).b) AI Z (ep.ldp (i:=2) sM) Aa<|Ad 1 Z<|At 187 [] [] [a9,zI ((1000002:Nat):Int)] Z Z Ns Aa (Dm _ _ _ _ eq.rd oM G4 G3 oM) ?_
   rintro mz mg ⟨cv,rfl,ao,aw⟩
   refine⟨_,rfl,ao,?_⟩
   replace ao:=ao.of_drew
   have k8:=ao.size
   have er:=j5.trans ao
   have cq:=j6.ext ao
   have bb:=j7.ext ao
   have cr:=ep.ext ao
   have ct:=j4.ext ao
   have j8:=eq.ext g1 ao
   replace aw:=aw.low (B':=m0.heap.size)<|A7 _
   refine AH 231 [] [zP w2.heap.size] [zI<|(T.code.getD ((kk).toNat) AM.zero).b,cv,zP w2.heap.size] Z Z JZ Aa (Bs _ ((T.code.getD ((kk).toNat) AM.zero).b) cv (CH (xs.getD ((kk).toNat) []) ((1000002:Nat):Int)) S w2.heap.size vo (FC xs ((T.code.getD ((kk).toNat) AM.zero).a)<|xs.getD ((kk).toNat) []) _ _ BO av.2.2.1 aw.rd1 (bb.ld (k:=0) sM) ct hSB (fun b hb=>zH<|c1 b hb) oM Hv hrb.2 Hw) ?_
   rintro n0 mb ⟨rfl,b8,j9,ja⟩
   refine⟨_,rfl,?_⟩
   have k9:mg.heap.size≤mb.heap.size:=b8.size
   have jb:AD w mb:=b8.below er (fun c hc=>A8 hwB (ct.low c hc)) er.size
   have es:=cq.chg b8 fun hm=>by have:=ct.low _ hm;have:=hFl _ hm;omega
   have et:=bb.chg b8 fun hm=>cm hm
   have ka:=cr.chg b8 fun hm=>by have:=ct.low _ hm;have:=hFl _ hm;omega
   have kb:=j8.chg g1<|b8.sub fun b hb=>z1 _ hb
   have kc:=aw.chg (o1) b8 fun c hc=>zH<|hFl c hc
   refine Ai<|Ab _ [0,0,0] Z<|Ad 1 Z<|BJ (kk-((1:Nat):Int)) Z Z (DH sD sD) Aa<|Ac 1 Z ?_
   have hbe:=ja
   exact⟨(kk-1,FC (FC xs ((T.code.getD ((kk).toNat) AM.zero).a) (xs.getD ((kk).toNat) [])) ((T.code.getD ((kk).toNat) AM.zero).b) (CH (xs.getD ((kk).toNat) []) ((1000002:Nat):Int)),j9),_,rfl,zR,⟨jb,es,et,oM,hbe,KA,KB,Kz⟩,zD⟩
  refine As false Z Z (A6 eo) Aa<|Ac 1 Z<|Aj Z<|fC [0,0] Z ?_
  by_cases cw:(T.code.getD ((kk).toNat) AM.zero).op=((5:Nat):Int)
  ·refine As true Z Z (A5 cw) Aa<|Ac 1 Z<|Af Z<|A0<|AQ _ [0,0,1,0,0,0,1,0,1,3,4] mixed (by kernel_rfl) ?_
   have hio:=(hform kk.toNat hkn).i2 oM
   have hra:=hxs (T.code.getD kk.toNat AM.zero).a.toNat oM
   have co:=hra.1
   have hRa:=hsR (T.code.getD kk.toNat AM.zero).a.toNat oM
   have hRb:=hsR (T.code.getD kk.toNat AM.zero).b.toNat oM
   have dn:=hRa.1
   have dp:=hRb.1
   refine Ad 1 Z<|Al (p:=zP f1.drew.heap.size) 1 D3 Z Z Aa<|Ag (p:=Ap (zP f1.drew.heap.size) 1) (.inl Z) (zI<|(T.code.getD ((kk).toNat) AM.zero).a) AI Z (a6.ldp (i:=1) sM) Aa<|Ad 2 Z<|Al (p:=zP f1.drew.heap.size) 2 CS Z Z Aa<|Ag (p:=Ap (zP f1.drew.heap.size) 2) (.inl Z) (zI<|(T.code.getD ((kk).toNat) AM.zero).b) AI Z (a6.ldp (i:=2) sM) Aa ?_
   refine AE (v:=vr) (((T.code.getD ((kk).toNat) AM.zero).b).toNat) Cb Bo Z Z hR.slL oM sD Aa ?_
   obtain⟨cx,eu,cy⟩:=RN.getL (w:=w) g1 [] (k:=((T.code.getD ((kk).toNat) AM.zero).b).toNat) hR sD
   have ds:=cy.lenL
   unfold maxLen at ds
   refine Ag (p:=AA vr (((T.code.getD ((kk).toNat) AM.zero).b).toNat) 1) (.inl Z) cx Bx Z (eu _<|Ax.of_ext [] ad.drew) Aa<|At 179 [] [] [a9,cx] Z Z Pj Aa (DF _ _ _ _ _ an.rd (cy.ext g1 ad.drew).rd G4 G4 G3 G3) ?_
   rintro mh m1 ⟨c8,rfl,a2,af⟩
   refine⟨_,rfl,a2,?_⟩
   replace a2:=a2.of_drew
   have jc:=a2.size
   have cz:=ad.trans a2
   have c9:=bm.ext a2
   have b0:=az.ext a2
   have ca:=a6.ext a2
   have bc:=ae.ext a2
   have ev:=an.ext g1 a2
   replace af:=af.low (B':=f2.heap.size)<|A7 _
   refine AH 231 [] [zP w2.heap.size] [zI<|(T.code.getD ((kk).toNat) AM.zero).a,c8,zP w2.heap.size] Z Z JZ Aa (Bs _ ((T.code.getD ((kk).toNat) AM.zero).a) c8 (Ct (xs.getD ((kk).toNat) [])<|R.getD (((T.code.getD ((kk).toNat) AM.zero).b).toNat) []) S w2.heap.size vo (xs) _ _ BO av.2.1 af.rd1 (b0.ld (k:=0) sM) bc hSB (fun b hb=>zH<|c1 b hb) oM Hv hra.2 Hw) ?_
   rintro mi f3 ⟨rfl,ak,kd,ew⟩
   refine⟨_,rfl,?_⟩
   have jd:m1.heap.size≤f3.heap.size:=ak.size
   have cb:AD w f3:=ak.below cz (fun c hc=>A8 hwB (bc.low c hc)) cz.size
   have ex:=c9.chg ak fun hm=>by have:=bc.low _ hm;have:=hFl _ hm;omega
   have ey:=b0.chg ak fun hm=>cm hm
   have cc:=ca.chg ak fun hm=>by have:=bc.low _ hm;have:=hFl _ hm;omega
   have d0:=ev.chg g1<|ak.sub fun b hb=>z1 _ hb
   have ez:=af.chg (o1) ak fun c hc=>zH<|hFl c hc
   have dq:C4 m (FC xs (T.code.getD kk.toNat AM.zero).a (Ct (xs.getD kk.toNat []) (R.getD (T.code.getD kk.toNat AM.zero).b.toNat []))):=Db hxs oM
   have iy:(FC xs (T.code.getD kk.toNat AM.zero).a (Ct (xs.getD kk.toNat []) (R.getD (T.code.getD kk.toNat AM.zero).b.toNat []))).length=T.code.length:=by rw[C2];exact hxl
   have hrb:=dq (T.code.getD kk.toNat AM.zero).b.toNat oM
   have dr:=hrb.1
   refine Ai<|AQ _ [0,0,1,0,0,0,1,0,1,3,4] mixed (by kernel_rfl)<|Ad 1 Z<|Al (p:=zP f1.drew.heap.size) 2 CS Z Z Aa<|Ag (p:=Ap (zP f1.drew.heap.size) 2) (.inl Z) (zI<|(T.code.getD ((kk).toNat) AM.zero).b) AI Z (cc.ldp (i:=2) sM) Aa<|Ad 2 Z<|Al (p:=zP f1.drew.heap.size) 1 D3 Z Z Aa<|Ag (p:=Ap (zP f1.drew.heap.size) 1) (.inl Z) (zI<|(T.code.getD ((kk).toNat) AM.zero).a) AI Z (cc.ldp (i:=1) sM) Aa ?_
   refine AE (v:=vr) (((T.code.getD ((kk).toNat) AM.zero).a).toNat) Cb Bo Z Z hR.slL oM sD Aa ?_
   obtain⟨d1,g0,d2⟩:=RN.getL (w:=w) g1 [] (k:=((T.code.getD ((kk).toNat) AM.zero).a).toNat) hR sD
   have dt:=d2.lenL
   unfold maxLen at dt
   refine Ag (p:=AA vr (((T.code.getD ((kk).toNat) AM.zero).a).toNat) 1) (.inl Z) d1 Bx Z (g0 _<|Ax.of_ext [] cb.drew) Aa<|At 179 [] [] [a9,d1] Z Z Pj Aa (DF _ _ _ _ _ d0.rd (d2.ext g1 cb.drew).rd G4 G4 G3 G3) ?_
   rintro mj m2 ⟨cd,rfl,a0,ag⟩
   refine⟨_,rfl,a0,?_⟩
   replace a0:=a0.of_drew
   have je:=a0.size
   have d3:=cb.trans a0
   have bq:=ex.ext a0
   have aq:=ey.ext a0
   have br:=cc.ext a0
   have bs:=ez.ext (o1) a0
   have bd:=ew.ext a0
   have g2:=d0.ext g1 a0
   replace ag:=ag.low (B':=f3.heap.size)<|A7 _
   refine AH 231 [] [zP w2.heap.size] [zI<|(T.code.getD ((kk).toNat) AM.zero).b,cd,zP w2.heap.size] Z Z JZ Aa (Bs _ ((T.code.getD ((kk).toNat) AM.zero).b) cd (Ct (xs.getD ((kk).toNat) [])<|R.getD (((T.code.getD ((kk).toNat) AM.zero).a).toNat) []) S w2.heap.size vo (FC xs ((T.code.getD ((kk).toNat) AM.zero).a)<|Ct (xs.getD ((kk).toNat) [])<|R.getD (((T.code.getD ((kk).toNat) AM.zero).b).toNat) []) _ _ BO av.2.2.1 ag.rd1 (aq.ld (k:=0) sM) bd hSB (fun b hb=>zH<|c1 b hb) oM Hv hrb.2 Hw) ?_
   rintro ml fs ⟨rfl,aa,g3,g4⟩
   refine⟨_,rfl,?_⟩
   have jf:m2.heap.size≤fs.heap.size:=aa.size
   have g5:AD w fs:=aa.below d3 (fun c hc=>A8 hwB (bd.low c hc)) d3.size
   have g6:=bq.chg aa fun hm=>by have:=bd.low _ hm;have:=hFl _ hm;omega
   have g7:=aq.chg aa fun hm=>cm hm
   have ke:=br.chg aa fun hm=>by have:=bd.low _ hm;have:=hFl _ hm;omega
   have kf:=g2.chg g1<|aa.sub fun b hb=>z1 _ hb
   have kg:=bs.chg (o1) aa fun c hc=>zH<|hFl c hc
   have kh:=ag.chg (o1) aa fun c hc=>zH<|hFl c hc
   refine Ai<|Ab _ [0,0,0] Z<|Ad 1 Z<|BJ (kk-((1:Nat):Int)) Z Z (DH sD sD) Aa<|Ac 1 Z ?_
   have hbe:=g4
   exact⟨(kk-1,FC (FC xs ((T.code.getD ((kk).toNat) AM.zero).a) (Ct (xs.getD ((kk).toNat) []) (R.getD (((T.code.getD ((kk).toNat) AM.zero).b).toNat) []))) ((T.code.getD ((kk).toNat) AM.zero).b) (Ct (xs.getD ((kk).toNat) []) (R.getD (((T.code.getD ((kk).toNat) AM.zero).a).toNat) [])),g3),_,rfl,zR,⟨g5,g6,g7,oM,hbe,KA,KB,Kz⟩,zD⟩
  refine As false Z Z (A6 cw) Aa<|Ac 1 Z<|Aj Z<|fC [0,0] Z ?_
  by_cases d4:(T.code.getD ((kk).toNat) AM.zero).op=((6:Nat):Int)
  ·refine As true Z Z (A5 d4) Aa<|Ac 1 Z<|Af Z<|fC [0,0,0,2,0,2,3,0] Z ?_
   have hio:=(hform kk.toNat hkn).i2 oM
   have hra:=hxs (T.code.getD kk.toNat AM.zero).a.toNat oM
   have co:=hra.1
   have hRa:=hsR (T.code.getD kk.toNat AM.zero).a.toNat oM
   have hRb:=hsR (T.code.getD kk.toNat AM.zero).b.toNat oM
   have dn:=hRa.1
   have dp:=hRb.1
   refine Ad 2 Z<|Al (p:=zP f1.drew.heap.size) 2 CS Z Z Aa<|Ag (p:=Ap (zP f1.drew.heap.size) 2) (.inr Z) (zI<|(T.code.getD ((kk).toNat) AM.zero).b) AI Z (a6.ldp (i:=2) sM) Aa<|AE (v:=vr) (((T.code.getD ((kk).toNat) AM.zero).b).toNat) Cb Bo Z Z hR.slL oM sD Aa ?_
   obtain⟨d5,g8,d6⟩:=RN.getL (w:=w) g1 [] (k:=((T.code.getD ((kk).toNat) AM.zero).b).toNat) hR sD
   have du:=d6.lenL
   unfold maxLen at du
   refine Ag (p:=AA vr (((T.code.getD ((kk).toNat) AM.zero).b).toNat) 1) (.inr Z) d5 Bx Z (g8 _<|Ax.of_ext [] ad) Aa<|At 177 [] [] [a9,d5] Z Z UD Aa (Fp _ _ _ _ _ an.rd (d6.ext g1 ad).rd G4 G4 oM G3 G3) ?_
   rintro mm m3 ⟨b9,rfl,ab,be⟩
   refine⟨_,rfl,ab,?_⟩
   have jg:=ab.size
   have d7:=ad.trans ab
   have ce:=bm.ext ab
   have b1:=az.ext ab
   have b2:=a6.ext ab
   have bf:=ae.ext ab
   have g9:=an.ext g1 ab
   refine Ac 1 Z<|fC [0,0,2,0,4] Z<|Ad 1 Z<|Al (p:=zP f1.drew.heap.size) 1 D3 Z Z Aa<|Ag (p:=Ap (zP f1.drew.heap.size) 1) (.inr Z) (zI<|(T.code.getD ((kk).toNat) AM.zero).a) AI Z (b2.ldp (i:=1) sM) Aa<|Ad 1 Z ?_
   refine AH 231 [] [zP w2.heap.size] [zI<|(T.code.getD ((kk).toNat) AM.zero).a,b9,zP w2.heap.size] Z Z JZ Aa (Bs _ ((T.code.getD ((kk).toNat) AM.zero).a) b9 (C3 (xs.getD ((kk).toNat) [])<|R.getD (((T.code.getD ((kk).toNat) AM.zero).b).toNat) []) S w2.heap.size vo (xs) _ _ BO av.2.1 be.rd1 (b1.ld (k:=0) sM) bf hSB (fun b hb=>zH<|c1 b hb) oM Hv hra.2 Hw) ?_
   rintro mn f9 ⟨rfl,al,ki,ga⟩
   refine⟨_,rfl,?_⟩
   have jh:m3.heap.size≤f9.heap.size:=al.size
   have cf:AD w f9:=al.below d7 (fun c hc=>A8 hwB (bf.low c hc)) d7.size
   have gb:=ce.chg al fun hm=>by have:=bf.low _ hm;have:=hFl _ hm;omega
   have gc:=b1.chg al fun hm=>cm hm
   have d8:=b2.chg al fun hm=>by have:=bf.low _ hm;have:=hFl _ hm;omega
   have gd:=g9.chg g1<|al.sub fun b hb=>z1 _ hb
   have d9:=be.chg (o1) al fun c hc=>zH<|hFl c hc
   have dq:C4 m (FC xs (T.code.getD kk.toNat AM.zero).a (C3 (xs.getD kk.toNat []) (R.getD (T.code.getD kk.toNat AM.zero).b.toNat []))):=Db hxs oM
   have iy:(FC xs (T.code.getD kk.toNat AM.zero).a (C3 (xs.getD kk.toNat []) (R.getD (T.code.getD kk.toNat AM.zero).b.toNat []))).length=T.code.length:=by rw[C2];exact hxl
   have hrb:=dq (T.code.getD kk.toNat AM.zero).b.toNat oM
   have dr:=hrb.1
   refine Ai<|AQ _ [0,0,1,0,0,0,0,1,3,3,4] mixed (by kernel_rfl)<|Ad 1 Z<|Al (p:=zP f1.drew.heap.size) 2 CS Z Z Aa<|Ag (p:=Ap (zP f1.drew.heap.size) 2) (.inl Z) (zI<|(T.code.getD ((kk).toNat) AM.zero).b) AI Z (d8.ldp (i:=2) sM) Aa<|Ad 3 Z ?_
   refine AE (v:=vr) ((kk).toNat) Cb Bo Z Z hR.slL oM sD Aa ?_
   obtain⟨da,ge,db⟩:=RN.getL (w:=w) g1 [] (k:=(kk).toNat) hR sD
   have dv:=db.lenL
   unfold maxLen at dv
   refine Ag (p:=AA vr ((kk).toNat) 1) (.inl Z) da Bx Z (ge _<|Ax.of_ext [] cf.drew) Aa<|At 179 [] [] [b9,da] Z Z Pj Aa (DF _ _ _ _ _ d9.rd1 (db.ext g1 cf.drew).rd G4 G4 G3 G3) ?_
   rintro mo mp ⟨dw,rfl,a1,ah⟩
   refine⟨_,rfl,a1,?_⟩
   replace a1:=a1.of_drew
   have ji:=a1.size
   have gf:=cf.trans a1
   have bt:=gb.ext a1
   have bu:=gc.ext a1
   have bv:=d8.ext a1
   have bw:=d9.ext (o1) a1
   have gg:=ga.ext a1
   have gh:=gd.ext g1 a1
   replace ah:=ah.low (B':=f9.heap.size)<|A7 _
   refine At 187 [] [] [dw,zI ((1000002:Nat):Int)] Z Z Ns Aa (Dm _ _ _ _ ah.rd1 oM G4 G3 oM) ?_
   rintro mq m4 ⟨cg,rfl,a3,bg⟩
   refine⟨_,rfl,a3,?_⟩
   have jj:=a3.size
   have dc:=gf.trans a3
   have bx:=bt.ext a3
   have ar:=bu.ext a3
   have bz:=bv.ext a3
   have c0:=bw.ext (o1) a3
   have b3:=ah.ext (o1) a3
   have bh:=gg.ext a3
   have gi:=gh.ext g1 a3
   refine AH 231 [] [zP w2.heap.size] [zI<|(T.code.getD ((kk).toNat) AM.zero).b,cg,zP w2.heap.size] Z Z JZ Aa (Bs _ ((T.code.getD ((kk).toNat) AM.zero).b) cg (CH (Ct (C3 (xs.getD ((kk).toNat) [])<|R.getD (((T.code.getD ((kk).toNat) AM.zero).b).toNat) [])<|R.getD ((kk).toNat) []) ((1000002:Nat):Int)) S w2.heap.size vo (FC xs ((T.code.getD ((kk).toNat) AM.zero).a)<|C3 (xs.getD ((kk).toNat) [])<|R.getD (((T.code.getD ((kk).toNat) AM.zero).b).toNat) []) _ _ BO av.2.2.1 bg.rd1 (ar.ld (k:=0) sM) bh hSB (fun b hb=>zH<|c1 b hb) oM Hv hrb.2 Hw) ?_
   rintro mr fx ⟨rfl,a7,gj,gk⟩
   refine⟨_,rfl,?_⟩
   have jk:m4.heap.size≤fx.heap.size:=a7.size
   have gl:AD w fx:=a7.below dc (fun c hc=>A8 hwB (bh.low c hc)) dc.size
   have gm:=bx.chg a7 fun hm=>by have:=bh.low _ hm;have:=hFl _ hm;omega
   have gn:=ar.chg a7 fun hm=>cm hm
   have kj:=bz.chg a7 fun hm=>by have:=bh.low _ hm;have:=hFl _ hm;omega
   have kl:=gi.chg g1<|a7.sub fun b hb=>z1 _ hb
   have km:=c0.chg (o1) a7 fun c hc=>zH<|hFl c hc
   have kn:=b3.chg (o1) a7 fun c hc=>zH<|hFl c hc
   have ko:=bg.chg (o1) a7 fun c hc=>zH<|hFl c hc
   refine Ai<|Ab _ [0,0,0] Z<|Ad 1 Z<|BJ (kk-((1:Nat):Int)) Z Z (DH sD sD) Aa<|Ac 1 Z ?_
   have hbe:=gk
   exact⟨(kk-1,FC (FC xs ((T.code.getD ((kk).toNat) AM.zero).a) (C3 (xs.getD ((kk).toNat) []) (R.getD (((T.code.getD ((kk).toNat) AM.zero).b).toNat) []))) ((T.code.getD ((kk).toNat) AM.zero).b) (CH (Ct (C3 (xs.getD ((kk).toNat) []) (R.getD (((T.code.getD ((kk).toNat) AM.zero).b).toNat) [])) (R.getD ((kk).toNat) [])) ((1000002:Nat):Int)),gj),_,rfl,zR,⟨gl,gm,gn,oM,hbe,KA,KB,Kz⟩,zD⟩
  refine As false Z Z (A6 d4) Aa<|Ac 1 Z<|Aj Z<|fC [0,0] Z ?_
  by_cases dd:(T.code.getD ((kk).toNat) AM.zero).op=((7:Nat):Int)
  ·refine As true Z Z (A5 dd) Aa<|Ac 1 Z<|Af Z<|AQ _ [0,0,1,0,3,4] mixed (by kernel_rfl) ?_
   have hio:=(hform kk.toNat hkn).i7 oM
   have hra:=hxs (T.code.getD kk.toNat AM.zero).a.toNat oM
   have co:=hra.1
   refine Ad 1 Z<|Al (p:=zP f1.drew.heap.size) 1 D3 Z Z Aa<|Ag (p:=Ap (zP f1.drew.heap.size) 1) (.inl Z) (zI<|(T.code.getD ((kk).toNat) AM.zero).a) AI Z (a6.ldp (i:=1) sM) Aa<|Ad 1 Z<|At 187 [] [] [a9,zI ((1000002:Nat):Int)] Z Z Ns Aa (Dm _ _ _ _ an.rd oM G4 G3 oM) ?_
   rintro ms m5 ⟨ch,rfl,a4,ai⟩
   refine⟨_,rfl,a4,?_⟩
   replace a4:=a4.of_drew
   have jl:=a4.size
   have de:=ad.trans a4
   have ci:=bm.ext a4
   have b4:=az.ext a4
   have cj:=a6.ext a4
   have bi:=ae.ext a4
   have go:=an.ext g1 a4
   replace ai:=ai.low (B':=f2.heap.size)<|A7 _
   refine AH 231 [] [zP w2.heap.size] [zI<|(T.code.getD ((kk).toNat) AM.zero).a,ch,zP w2.heap.size] Z Z JZ Aa (Bs _ ((T.code.getD ((kk).toNat) AM.zero).a) ch (CH (xs.getD ((kk).toNat) []) ((1000002:Nat):Int)) S w2.heap.size vo (xs) _ _ BO av.2.1 ai.rd1 (b4.ld (k:=0) sM) bi hSB (fun b hb=>zH<|c1 b hb) oM Hv hra.2 Hw) ?_
   rintro mt lv ⟨rfl,am,gp,gq⟩
   refine⟨_,rfl,?_⟩
   have jm:m5.heap.size≤lv.heap.size:=am.size
   have gr:AD w lv:=am.below de (fun c hc=>A8 hwB (bi.low c hc)) de.size
   have gs:=ci.chg am fun hm=>by have:=bi.low _ hm;have:=hFl _ hm;omega
   have gt:=b4.chg am fun hm=>cm hm
   have kp:=cj.chg am fun hm=>by have:=bi.low _ hm;have:=hFl _ hm;omega
   have kq:=go.chg g1<|am.sub fun b hb=>z1 _ hb
   have kr:=ai.chg (o1) am fun c hc=>zH<|hFl c hc
   refine Ai<|Ab _ [0,0,0] Z<|Ad 1 Z<|BJ (kk-((1:Nat):Int)) Z Z (DH sD sD) Aa<|Ac 1 Z ?_
   have hbe:=gq
   exact⟨(kk-1,FC xs ((T.code.getD ((kk).toNat) AM.zero).a) (CH (xs.getD ((kk).toNat) []) ((1000002:Nat):Int)),gp),_,rfl,zR,⟨gr,gs,gt,oM,hbe,KA,KB,Kz⟩,zD⟩
  refine As false Z Z (A6 dd) Aa<|Ac 1 Z<|Aj Z<|A2<|Ab _ [0,0,0] Z<|Ad 1 Z ?_
  refine BJ (kk-((1:Nat):Int)) Z Z (DH sD sD) Aa<|Ac 1 Z ?_
  have hbe:=ae
  exact⟨(kk-1,xs,us),_,rfl,zR,⟨ad,bm,az,oM,hbe,KA,KB,Kz⟩,zD⟩
 refine DN false Z Z (A6 eg) Aa<|Ai<|Aj Z<|A4<|Az<|Az<|Aw<|fC [2,0] Z<|Ag (p:=zP w2.heap.size) (.inr Z) vo Mc Z (a8.ld (k:=0) sM) Aa<|Ac 1 Z<|A1 ?_
 have hfin:xs=JW T.code R oT ws:=by have h9:=hadj;rw[show(kk+1).toNat=0 from by omega,gw]at h9;exact h9
 exact Ah [6] Z vo Z ⟨_,rfl,cn,(by rw[← hfin];exact(hbl.done hSB)),hbl.cap⟩
theorem Il (w:World)(m:Nat)(ni:Nat)(S:List Nat)(ipT:Int)(vtc vtg vtx:Value)(T:Tp)(oT:Sr)(vl:Value)(L:List (Sr))(b5:∀b∈S,b<w.heap.size)(_hipT:BG ipT)(htcT:RN [] (E1 4 ON) w.heap vtc T.code)(htgT:RN [] (E1 2 OO) w.heap vtg T.grd)(htoT:RN [] (Bd rI) w.heap vtx oT)(hL:RN [] (Bd (Bd rI)) w.heap vl L)(hqL:Cs vl)(hm:1≤m∧m≤13)(hni:ipT=(ni:Int)∧ni≤1000)(hsL:C4 m L)(hlL:L.length=T.code.length∧0<L.length)(hlt:T.code.length≤4000)(hform:∀k,k<T.code.length→Fi ni k (T.code.getD k AM.zero)) :
  Calls Tryz.prog 107 #[(.agg #[(zI ipT),vtc,vtg,vtx]),vl] w (fun e w'=>∃v0:Value,e=.returned v0∧AD w w'∧RN S (Bd (Bd rI)) w'.heap v0 (VU ni m T.code L)∧Cs v0):=by
 refine Au [.agg #[zI ipT,vtc,vtg,vtx],vl] 54 Tryz.func107 Z Z sM ?_
 have bt:AD w w:=AD.refl w
 have hl_vtx:=htoT.lenL
 unfold maxLen at hl_vtx
 have cz:=hL.lenL
 unfold maxLen at cz
 have bu:=hsL 0 oM
 have c9:=bu.1
 refine fC [3,0] Z (Bv (cs:=#[zI ipT,vtc,vtg,vtx]) Z Aa fun w1 b6 ca b7=>?_)
 have b8:=b6.size
 have b9:=bt.trans b6
 replace b7:BX w1.heap w.heap.size [zI ipT,vtc,vtg,vtx]:=b7
 refine Ac 1 Z<|fC [3,0,0] Z (Dy (BA rI 2) o1 Cb Bo Aa fun v2 w2 b2 cb bv=>?_)
 have ba:=b2.size
 have bb:=b9.trans b2
 have ai:=b7.ext b2
 refine Ac 2 Z<|A0<|fC [0,0,0] Z<|Ad 1 Z<|AS (v:=vl) Cb Z hL.slL Aa ?_
 have cc:((0:Nat):Int)<(L.length:Int):=oM
 refine Cj true Z Z (A5 cc) Aa<|Ai<|Af Z<|Ab _ [0,0,2,0,0] Z<|Ad 1 Z<|AE (v:=vl) 0 Cb Bo Z Z hL.slL Z sD Aa ?_
 obtain⟨bw,cd,bx⟩:=RN.getL (w:=w) g1 [] (k:=0) hL sD
 have ao:=bx.lenL
 unfold maxLen at ao
 refine Ag (p:=AA vl 0 1) (.inr Z) bw Bx Z (cd _<|Ax.of_ext [] bb) Aa<|AS (v:=bw) BQ Z bx.slL Aa<|Ac 1 Z<|A0<|fC [0,2,0] Z<|Al (p:=zP w.heap.size) 0 O2 Z Z Aa<|Ag (p:=Ap (zP w.heap.size) 0) (.inr Z) (zI ipT) AI Z (ai.ldp (i:=0) sM) Aa<|Ac 1 Z<|A3 ?_
 refine AW (S:=Nat×Value) (fun⟨k,vo⟩=>([(5,vo),(19,zI (k:Int)),(1,vl),(2,zP w.heap.size),(6,zI (((L.getD 0 []).length:Nat):Int)),(18,zI ipT)])) (fun⟨k,vo⟩ W=>AD w W∧Fr (BA (BA rI 2) 27) w1.heap.size W.heap.size W.heap vo (List.replicate k<|List.replicate m 0)∧BX W.heap w.heap.size [zI ipT,vtc,vtg,vtx]∧k≤ni∧w.heap.size<w1.heap.size∧w1.heap.size≤W.heap.size) (fun⟨k,vo⟩=>ni-k) (0,v2) ⟨rfl,rfl,rfl,rfl,rfl,rfl,trivial⟩ ⟨bb,bv.up o2,ai,oM,oM,oM⟩ ?_
 clear bt bu ca b6 bv cb b2 ba bb ao
 rintro⟨k,vo⟩ ρ6 w6 ⟨b3,a4,a2,bz,ce,cf⟩
 have bc:w.heap.size≤w6.heap.size:=b3.size
 have cx:=a2.lt
 refine fC [0] Z ?_
 by_cases c0:(k:Int)<ipT
 ·refine AJ true Z Z (A5 c0) Aa<|Ai<|A0<|Af Z<|A2<|A0<|A3<|Ab _ [0,0,3,3,4,0] Z<|Ad 2 Z (Hc (n:=(L.getD 0 []).length) BQ Ck Z Z Z sD Aa fun d5 da ab cg bd=>?_)
  have c1:=ab.size
  have be:=b3.trans ab
  have a5:=a4.ext (o2) ab
  have a6:=a2.ext ab
  refine Cd (u:=d5) (B:=w6.heap.size) o1 Cb Bo Z Z bd (by first|exact A7 _|omega) Aa fun d6 d7 ac ch bf=>?_
  have c2:=ac.size
  have ap:=be.trans ac
  have a7:=a5.ext (o2) ac
  have a8:=a6.ext ac
  refine Kc o1 (v:=vo) (a:=d6) Cb Bo Z Z Z a7 oM bf oM oM sD (by unfold maxLen;first|omega|assumption|(simp;done)|(simp;omega)) Aa fun d8 d1 db ak aq bg=>?_
  have bh:AD w d1:=ak.below ap (fun c hc=>A8 b9.size (aq c hc).1) ap.size
  have c3:d7.heap.size≤d1.heap.size:=ak.size
  have bi:=a8.chg ak fun hm=>zH<|aq _ hm
  exact Ac 1 Z<|Ab _ [0,0] Z<|AR ((k+1:Nat):Int) Z Z (Bl oM oM) Aa<|Ac 1 Z ⟨(k+1,d8),_,rfl,zR,⟨bh,(by have h:=bg.up o2;rw[c9,← List.replicate_succ']at h;exact h),bi,oM,oM,oM⟩,zD⟩
 refine AJ false Z Z (A6 c0) Aa<|Ai<|A0<|Aj Z<|A4<|Az<|Az<|Aw<|A0<|fC [0,2,0,0] Z ?_
 have hOw:=a4
 rw[show k=ni from by omega]at hOw
 obtain⟨ci,F0,bj,cj⟩:=HY.ofFr (S:=S) hOw (fun b hb=>zH<|b5 b hb)
 obtain⟨BO,hBO⟩:∃b:Nat,b=w1.heap.size:=⟨_,rfl⟩
 rw[← hBO]at bj
 have hwB:w.heap.size≤BO:=by omega
 have hSB:∀b∈S,b<BO:=fun b hb=>zH<|b5 b hb
 obtain⟨B0,b4⟩:∃l:List Sr,l=(List.replicate ni (List.replicate m 0)):=⟨_,rfl⟩
 rw[← b4]at bj
 have ck:C4 m B0:=by rw[b4];exact JX m ni
 have bk:B0.length=ni:=by rw[b4,z5]
 refine Al (p:=zP w.heap.size) 1 FV Z Z Aa<|Ag (p:=Ap (zP w.heap.size) 1) (.inr Z) vtc KQ Z (a2.ldp (i:=1) sM) Aa<|AS (v:=vtc) PY Z htcT.isSl Aa<|Ac 1 Z<|A3<|AW (S:=Nat×List Value) (fun⟨j,us⟩=>([(30,zI (j:Int)),(1,vl),(5,vo),(28,vtc),(29,zI (T.code.length:Int))])) (fun⟨j,us⟩ W=>AD w W∧j≤T.code.length∧HY 27 S BO W.heap vo (Sb T.code L j B0) us F0) (fun⟨j,us⟩=>T.code.length-j) (0,ci) ⟨rfl,rfl,rfl,rfl,rfl,trivial⟩ ⟨b3,oM,bj⟩ ?_
 clear b8 b9 a2 a4 b3 bc cj
 rintro⟨j,us⟩ ρ14 cy ⟨ad,bl,hbl⟩
 have c4:w.heap.size≤cy.heap.size:=ad.size
 have hFl:∀b∈F0,b<cy.heap.size:=hbl.lt
 refine fC [0] Z ?_
 by_cases ar:(j:Int)<(T.code.length:Int)
 ·refine AJ true Z Z (A5 ar) Aa<|Ai<|A0<|Af Z<|A2<|A0<|A3<|fC [0,0,2,3,0,4] Z ?_
  have hjk:j<T.code.length:=by omega
  refine Ad 1 Z<|AE (v:=vtc) j PY K2 Z Z htcT.isSl Z sD Aa ?_
  obtain⟨cs16,bm,bn⟩:=htcT.get Be AM.zero (k:=j) sD
  obtain⟨rfl,cl⟩:=NU bm
  refine AF (p:=AA vtc j 4) (.inr Z) [zI<|(T.code.getD j AM.zero).op,zI<|(T.code.getD j AM.zero).a,zI<|(T.code.getD j AM.zero).b,zI<|(T.code.getD j AM.zero).num] FW Z (fun d9 cm=>bn d9<|Ax.of_ext []<|ad.trans cm) Z Aa (AU (z:=.agg #[zI 0,zI 0,zI 0,zI 0]) UL Aa fun d2 a9 cn al=>?_)
  have c5:=a9.size
  have au:=ad.trans a9
  have co:=hbl.ext a9
  replace al:BX d2.heap cy.heap.size [zI 0,zI 0,zI 0,zI 0]:=al
  refine Ad 1 Z (B2 (vs:=[zI<|(T.code.getD j AM.zero).op,zI<|(T.code.getD j AM.zero).a,zI<|(T.code.getD j AM.zero).b,zI<|(T.code.getD j AM.zero).num]) FW Z Z (by intro u hu;simp only[ze,z2,or_false]at hu;rcases hu with rfl|rfl|rfl|rfl <;> first|exact⟨rfl,rfl⟩) al Z Z Aa fun d0 am cp a3=>?_)
  replace a3:BX d0.heap cy.heap.size [zI ((T.code.getD j AM.zero).op),zI ((T.code.getD j AM.zero).a),zI ((T.code.getD j AM.zero).b),zI ((T.code.getD j AM.zero).num)]:=a3
  have ae:AD w d0:=am.below au (fun _ h=>zE h) au.size
  have c6:d2.heap.size≤d0.heap.size:=am.size
  have af:=hbl.ext<|am.below a9 (fun _ h=>zE h) a9.size
  refine Ai<|fC [0,2,0] Z<|Al (p:=zP cy.heap.size) 0 Me Z Z Aa<|Ag (p:=Ap (zP cy.heap.size) 0) (.inr Z) (zI<|(T.code.getD j AM.zero).op) AI Z (a3.ldp (i:=0) sM) Aa ?_
  by_cases av:(T.code.getD j AM.zero).op=((1:Nat):Int)
  ·refine As true Z Z (A5 av) Aa<|Ai<|Af Z<|AQ _ [0,0,1,0,0,1,0,1,0,0,0,1,3,0,4] mixed (by kernel_rfl) ?_
   have hio:=(hform j hjk).i1 oM
   have hra:=Lq (cs:=T.code) (L:=L) (B:=B0) (fun q hq=>by rw[bk];exact hform q hq) ck j oM (T.code.getD j AM.zero).num.toNat (by rw[IB,bk];omega)
   have cq:=hra.1
   have hLj:=hsL j oM
   have cr:=hLj.1
   have hbn:(Sb T.code L j B0).length=ni:=by rw[IB,bk]
   refine Ad 1 Z<|Al (p:=zP cy.heap.size) 3 FX Z Z Aa<|Ag (p:=Ap (zP cy.heap.size) 3) (.inl Z) (zI<|(T.code.getD j AM.zero).num) AI Z (a3.ldp (i:=3) sM) Aa<|Ad 1 Z<|Al (p:=zP cy.heap.size) 3 FX Z Z Aa<|Ag (p:=Ap (zP cy.heap.size) 3) (.inl Z) (zI<|(T.code.getD j AM.zero).num) AI Z (a3.ldp (i:=3) sM) Aa ?_
   refine AE (v:=vo) (((T.code.getD j AM.zero).num).toNat) Cb Bo Z Z (af.done hSB).none.slL oM sD Aa ?_
   obtain⟨aw,bo,an⟩:=af.getF (k:=((T.code.getD j AM.zero).num).toNat) sD
   have ax:=an.lenL
   unfold maxLen at ax
   refine Ag (p:=AA vo (((T.code.getD j AM.zero).num).toNat) 1) (.inl Z) aw Bx Z bo Aa<|Ad 2 Z<|AE (v:=vl) j Cb Bo Z Z hL.slL Z sD Aa ?_
   obtain⟨ay,bp,az⟩:=RN.getL (w:=w) g1 [] (k:=j) hL sD
   have b0:=az.lenL
   unfold maxLen at b0
   refine Ag (p:=AA vl j 1) (.inl Z) ay Bx Z (bp _<|Ax.of_ext [] ae.drew) Aa<|At 185 [] [] [aw,ay] Z Z Pk Aa (Et _ _ _ _ _ an.rd (az.ext g1 ae.drew).rd oM oM hra.2 hLj.2) ?_
   rintro dc d3 ⟨aj,rfl,a1,a0⟩
   refine⟨_,rfl,a1,?_⟩
   replace a1:=a1.of_drew
   have c7:=a1.size
   have b1:=ae.trans a1
   have ag:=a3.ext a1
   have ah:=af.ext a1
   have bq:=an.ext g1 a1
   replace a0:=a0.low (B':=d0.heap.size)<|A7 _
   refine AE (v:=vo) (((T.code.getD j AM.zero).num).toNat) Cb Bo Z Z (ah.done hSB).none.slL oM sD Aa ?_
   refine Ud (v:=vo) (u:=aj) (w:=d3) Sf Z Z ah (RN.of_fr1 a0 fun b hb=>by rcases zi.1 hb with hb|hb;(have:=b5 b hb;omega);(have:=hFl b hb;omega)) sD Aa fun d4 aa ct br=>?_
   have c8:d3.heap.size≤d4.heap.size:=aa.size
   have bs:AD w d4:=aa.below b1 (fun c hc=>A8 hwB (ah.low c hc)) b1.size
   have cu:=ag.chg aa fun hm=>by have:=ah.low _ hm;have:=hFl _ hm;omega
   have cv:=bq.chg g1<|aa.sub fun b hb=>z1 _ hb
   have cw:=a0.chg (o1) aa fun c hc=>zH<|hFl c hc
   refine Ai<|Ab _ [0,0] Z<|AR ((j+1:Nat):Int) Z Z (Bl oM sD) Aa<|Ac 1 Z ?_
   have hbe:=br
   exact⟨(j+1,us.set (((T.code.getD j AM.zero).num).toNat) aj),_,rfl,zR,⟨bs,oM,(by first|(rw[M2 oM];exact hbe)|(rw[M3 oM];exact hbe))⟩,zD⟩
  refine As false Z Z (A6 av) Aa<|Ai<|Aj Z<|A2<|Ab _ [0,0] Z<|AR ((j+1:Nat):Int) Z Z (Bl oM sD) Aa<|Ac 1 Z ?_
  have hbe:=af
  exact⟨(j+1,us),_,rfl,zR,⟨ae,oM,(by first|(rw[M2 oM];exact hbe)|(rw[M3 oM];exact hbe))⟩,zD⟩
 exact AJ false Z Z (A6 ar) Aa<|Ai<|A0<|Aj Z<|A4<|Az<|Az<|Aw<|fC [0,0] Z<|Ac 2 Z<|A1<|Ah [4] Z vo Z ⟨_,rfl,ad,(by have h9:=(hbl.done hSB);rw[show j=T.code.length from by omega,b4]at h9;exact h9),hbl.cap⟩
end
end Go.Proofs.YtbajepcpgncekaaGreat
