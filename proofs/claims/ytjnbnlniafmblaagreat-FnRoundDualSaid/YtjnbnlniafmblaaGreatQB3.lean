/- Sa, Sb, Sv, Sf, Sw, Sk, Ve, Vf, Va, Vb, Vg, Vh, Vm, Vi, Vj, Vk: texts of this claim, joined; what the claim does not come to is left out. -/
import Derived.Test.YtjnbnlniafmblaaGreatQB2
import Derived.Test.YtjnbnlniafmblaaGreatProg
set_option linter.unusedVariables false
set_option linter.unusedSimpArgs false
namespace Go.Proofs.YtjnbnlniafmblaaGreat
open Go Go.RowKit
section
set_option maxHeartbeats 4000000
set_option maxRecDepth 100000
attribute [local irreducible] LW
theorem Ba (w:World)(n:Int)(low:Int)(high:Int)(_hn:Bn n)(_hlow:Bn low)(_hhigh:Bn high)  :
  Calls Tryz.prog 66 #[zI n,zI low,zI high] w (fun e w'=>e=.returned (.bool (decide (low≤n) && decide (n≤high)))∧w'=w):=by
 refine Aq [zI n,zI low,zI high] 15 Tryz.func66 Z Z sM ?_
 have a0:w=w:=rfl
 refine gL Z<|gK [0,0,0,0,0,0,0,0,0] Z<|Ad 2 Z ?_
 by_cases a1:low≤n
 ·exact De true Z Z (A5 a1) Aa<|Ad 3 Z<|En (decide (n≤high)) Z Z Z (Ae (e:=10) Z Z Z)<|Ac 2 Z<|A1<|Ah [6] Z (.bool<|decide (n≤high)) Z ⟨AO (by simp[*]),a0⟩
 exact De false Z Z (A6 a1) Aa<|Ac 6 Z<|A1<|Ah [6] Z (.bool false) Z ⟨AO (by simp[*]),a0⟩
theorem B9 (w:World)(n:Int)(low:Int)(high:Int)(_hn:Bn n)(_hlow:Bn low)(_hhigh:Bn high)  :
  Calls Tryz.prog 94 #[zI n,zI low,zI high] w (fun e w'=>e=.returned (.bool (decide (low≤n) && decide (n≤high)))∧w'=w):=by
 refine Aq [zI n,zI low,zI high] 15 Tryz.func94 Z Z sM ?_
 have a0:w=w:=rfl
 refine gL Z<|gK [0,0,0,0,0,0,0,0,0] Z<|Ad 2 Z ?_
 by_cases a1:low≤n
 ·exact De true Z Z (A5 a1) Aa<|Ad 3 Z<|En (decide (n≤high)) Z Z Z (Ae (e:=10) Z Z Z)<|Ac 2 Z<|A1<|Ah [6] Z (.bool<|decide (n≤high)) Z ⟨AO (by simp[*]),a0⟩
 exact De false Z Z (A6 a1) Aa<|Ac 6 Z<|A1<|Ah [6] Z (.bool false) Z ⟨AO (by simp[*]),a0⟩
theorem D9 (w:World)(n:Int)(_hn:Bn n)  :
  Calls Tryz.prog 214 #[zI n] w (fun e w'=>e=.returned (zI (md n))∧w'=w):=by
 refine Aq [zI n] 7 Tryz.func214 Z Z sM ?_
 have a0:w=w:=rfl
 exact gL Z<|gK [0,0,0,0,0] Z<|Ad 1 Z<|Em (n.tmod 1000003) Z Z (by decide) Z Aa<|AQ (wr ((n.tmod 1000003)+((1000003:Nat):Int))) Z Z Z Aa<|Em ((wr ((n.tmod 1000003)+((1000003:Nat):Int))).tmod 1000003) Z Z (by decide) Z Aa<|Ac 1 Z<|A1<|Ah [2] Z (zI<|(wr ((n.tmod 1000003)+((1000003:Nat):Int))).tmod 1000003) Z ⟨B5<|YW n,a0⟩
theorem Is (w:World)(a:Int)(b:Int)(_ha:Bn a)(_hb:Bn b)  :
  Calls Tryz.prog 176 #[zI a,zI b] w (fun e w'=>e=.returned (zI (md (a+b)))∧w'=w):=by
 refine Aq [zI a,zI b] 11 Tryz.func176 Z Z sM ?_
 have a0:w=w:=rfl
 exact gL Z<|gK [0,0,0,0,0,0,0] Z<|Ad 1 Z<|AB 214 [] [] [zI a] Z Z O0 Aa (zI<|md a) (fun wq=>D9 wq _ _ha)<|Ad 1 Z<|AB 214 [] [] [zI b] Z Z O0 Aa (zI<|md b) (fun wq=>D9 wq _ _hb)<|AQ (wr ((md a)+(md b))) Z Z Z Aa<|Em ((wr ((md a)+(md b))).tmod 1000003) Z Z (by decide) Z Aa<|Ac 1 Z<|A1<|Ah [4] Z (zI<|(wr ((md a)+(md b))).tmod 1000003) Z ⟨B5<|QR a b,a0⟩
theorem KE (w:World)(a:Int)(b:Int)(_ha:Bn a)(_hb:Bn b)  :
  Calls Tryz.prog 237 #[zI a,zI b] w (fun e w'=>e=.returned (zI (md (a*b)))∧w'=w):=by
 refine Aq [zI a,zI b] 11 Tryz.func237 Z Z sM ?_
 have a0:w=w:=rfl
 exact gL Z<|gK [0,0,0,0,0,0,0] Z<|Ad 1 Z<|AB 214 [] [] [zI a] Z Z O0 Aa (zI<|md a) (fun wq=>D9 wq _ _ha)<|Ad 1 Z<|AB 214 [] [] [zI b] Z Z O0 Aa (zI<|md b) (fun wq=>D9 wq _ _hb)<|GE (wr ((md a)*(md b))) Z Z Z Aa<|Em ((wr ((md a)*(md b))).tmod 1000003) Z Z (by decide) Z Aa<|Ac 1 Z<|A1<|Ah [4] Z (zI<|(wr ((md a)*(md b))).tmod 1000003) Z ⟨B5<|P6 a b,a0⟩
theorem HQ (w:World)(a:Int)(b:Int)(_ha:Bn a)(_hb:Bn b)  :
  Calls Tryz.prog 213 #[zI a,zI b] w (fun e w'=>e=.returned (zI (md (a-b)))∧w'=w):=by
 refine Aq [zI a,zI b] 10 Tryz.func213 Z Z sM ?_
 have a0:w=w:=rfl
 exact gL Z<|gK [0,0,0,0,0,0] Z<|Ad 2 Z<|AB 214 [] [] [zI b] Z Z O0 Aa (zI<|md b) (fun wq=>D9 wq _ _hb)<|Bk (wr (((1000003:Nat):Int)-(md b))) Z Z Z Aa<|AB 176 [] [] [zI a,zI<|wr (((1000003:Nat):Int)-(md b))] Z Z UJ Aa (zI<|md (a+(wr (((1000003:Nat):Int)-(md b))))) (fun wq=>Is wq _ _ _ha<|O4 _)<|Ac 1 Z<|A1<|Ah [4] Z (zI<|md (a+(wr (((1000003:Nat):Int)-(md b))))) Z ⟨B5<|T6 a b,a0⟩
theorem ZG (n:Int)(h:n.tmod 1000003<((0:Nat):Int)):wr (n.tmod 1000003+((1000003:Nat):Int))=md n:=by
  have h1:=Cj n;have h2:=Gd n;have h3:=Cj (-n);have h4:=Gd (-n)
  rw[tm n]at h ⊢
  split at h
  · omega
  · rename_i h0
    rw[if_neg h0,GH zO (by omega)]
    have e1:md (-(md (-n))+((1000003:Nat):Int))=md (-(md (-n))):=T5 _
    rw[KQ,Int.neg_neg,QP zO (by omega)]at e1
    exact e1
theorem ZH (n:Int)(h:¬n.tmod 1000003<((0:Nat):Int)):n.tmod 1000003=md n:=by
  have h1:=Cj n;have h2:=Gd n;have h3:=Cj (-n);have h4:=Gd (-n)
  rw[tm n]at h ⊢
  split
  · rfl
  · rename_i h0
    rw[if_neg h0]at h
    have e0:md (-n)=0:=by omega
    have e1:=KQ (-n)
    rw[e0,Int.neg_neg]at e1
    rw[e0,← e1]
    rfl
theorem UT {p:Prop}(h:p:=by first|exact B5 (ZG n (by assumption))|exact B5 (ZH n (by assumption))):p:=h
theorem CG (w:World)(n:Int)(_hn:Bn n)  :
  Calls Tryz.prog 124 #[zI n] w (fun e w'=>e=.returned (zI (md n))∧w'=w):=by
 refine Aq [zI n] 11 Tryz.func124 Z Z sM ?_
 have a0:w=w:=rfl
 refine gL Z<|gK [0,0,0] Z<|Ad 1 Z<|Em (n.tmod 1000003) Z Z (by decide) Z Aa<|Ac 1 Z<|A0<|gK [0,0] Z<|Ad 1 Z ?_
 by_cases a1:n.tmod 1000003<((0:Nat):Int)
 ·exact AI true Z Z (A5 a1) Aa<|Aj<|Ag Z<|Ab _ [0,0,0] Z<|Ad 1 Z<|AQ (wr ((n.tmod 1000003)+((1000003:Nat):Int))) Z Z Z Aa<|Ac 1 Z<|gK [0,0] Z<|Ac 2 Z<|A1<|Ah [2] Z (zI<|wr ((n.tmod 1000003)+((1000003:Nat):Int))) Z ⟨UT,a0⟩
 exact AI false Z Z (A6 a1) Aa<|Aj<|Ai Z<|A2<|gK [0,0] Z<|Ac 2 Z<|A1<|Ah [2] Z (zI<|n.tmod 1000003) Z ⟨UT,a0⟩
theorem FE (w:World)(a:Int)(b:Int)(_ha:Bn a)(_hb:Bn b)  :
  Calls Tryz.prog 64 #[zI a,zI b] w (fun e w'=>e=.returned (zI (md (a+b)))∧w'=w):=by
 refine Aq [zI a,zI b] 11 Tryz.func64 Z Z sM ?_
 have a0:w=w:=rfl
 exact gL Z<|gK [0,0,0,0,0,0,0] Z<|Ad 1 Z<|AB 124 [] [] [zI a] Z Z MJ Aa (zI<|md a) (fun wq=>CG wq _ _ha)<|Ad 1 Z<|AB 124 [] [] [zI b] Z Z MJ Aa (zI<|md b) (fun wq=>CG wq _ _hb)<|AQ (wr ((md a)+(md b))) Z Z Z Aa<|Em ((wr ((md a)+(md b))).tmod 1000003) Z Z (by decide) Z Aa<|Ac 1 Z<|A1<|Ah [4] Z (zI<|(wr ((md a)+(md b))).tmod 1000003) Z ⟨B5<|QR a b,a0⟩
theorem Cm (w:World)(a:Int)(b:Int)(_ha:Bn a)(_hb:Bn b)  :
  Calls Tryz.prog 63 #[zI a,zI b] w (fun e w'=>e=.returned (zI (md (a*b)))∧w'=w):=by
 refine Aq [zI a,zI b] 11 Tryz.func63 Z Z sM ?_
 have a0:w=w:=rfl
 exact gL Z<|gK [0,0,0,0,0,0,0] Z<|Ad 1 Z<|AB 124 [] [] [zI a] Z Z MJ Aa (zI<|md a) (fun wq=>CG wq _ _ha)<|Ad 1 Z<|AB 124 [] [] [zI b] Z Z MJ Aa (zI<|md b) (fun wq=>CG wq _ _hb)<|GE (wr ((md a)*(md b))) Z Z Z Aa<|Em ((wr ((md a)*(md b))).tmod 1000003) Z Z (by decide) Z Aa<|Ac 1 Z<|A1<|Ah [4] Z (zI<|(wr ((md a)*(md b))).tmod 1000003) Z ⟨B5<|P6 a b,a0⟩
theorem Nk (w:World)(a:Int)(_ha:Bn a)(hneg:0≤a) :
  Calls Tryz.prog 245 #[zI a] w (fun e w'=>e=.returned (zI (md (-a)))∧w'=w):=by
 refine Aq [zI a] 6 Tryz.func245 Z Z sM ?_
 have a0:w=w:=rfl
 exact gL Z<|gK [0,0,0,0] Z<|Ad 1 Z<|ZU (wr (-a)) Z Z Aa<|AB 124 [] [] [zI<|wr (-a)] Z Z MJ Aa (zI<|md<|wr (-a)) (fun wq=>CG wq _<|O4 _)<|Ac 1 Z<|A1<|Ah [2] Z (zI<|md<|wr (-a)) Z ⟨B5 (by rw[GH oM oM]),a0⟩
theorem HY (w:World)(a:Int)(b:Int)(_ha:Bn a)(_hb:Bn b)(hs:-9223372036854775808≤a-b∧a-b≤9223372036854775807) :
  Calls Tryz.prog 236 #[zI a,zI b] w (fun e w'=>e=.returned (zI (md (a-b)))∧w'=w):=by
 refine Aq [zI a,zI b] 9 Tryz.func236 Z Z sM ?_
 have a0:w=w:=rfl
 exact gL Z<|gK [0,0,0,0,0] Z<|Ad 2 Z<|Bk (wr (a-b)) Z Z Z Aa<|AB 124 [] [] [zI<|wr (a-b)] Z Z MJ Aa (zI<|md<|wr (a-b)) (fun wq=>CG wq _<|O4 _)<|Ac 1 Z<|A1<|Ah [4] Z (zI<|md<|wr (a-b)) Z ⟨B5 (by rw[GH hs.1 hs.2]),a0⟩
theorem OA {p:Prop}(h:p:=by exact⟨zO,by first|exact YZ hI.2 oM (by assumption)|exact Vy hI.2 oM (by assumption)⟩):p:=h
theorem OB (w:World)(a:Int)(n:Int)(_ha:Bn a)(_hn:Bn n)  :
  Calls Tryz.prog 254 #[zI a,zI n] w (fun e w'=>e=.returned (zI (pw a n))∧w'=w):=by
 refine Aq [zI a,zI n] 25 Tryz.func254 Z Z sM ?_
 have a0:w=w:=rfl
 refine gL Z<|A0<|gK [0,0] Z<|Ad 1 Z ?_
 by_cases a2:n<((0:Nat):Int)
 ·exact AI true Z Z (A5 a2) Aa<|Aj<|Ag Z<|gL Z<|A1<|Ao<|Ah [4] Z (zI ((0:Nat):Int)) Z ⟨B5<|Tc (by assumption),a0⟩
 refine AI false Z Z (A6 a2) Aa<|Aj<|Ai Z<|A2<|gL Z<|gK [0,0,0] Z<|Ad 1 Z<|AB 124 [] [] [zI a] Z Z MJ Aa (zI<|md a) (fun wq=>CG wq _ _ha)<|Ac 1 Z<|A0<|A3 ?_
 refine AU (S:=Int×Int×Int) (fun⟨m,x,b⟩=>([(1,zI m),(5,zI x),(6,zI b)])) (fun⟨m,x,b⟩ W=>W=w∧(0≤m∧md (x*b ^ m.toNat)=md (a ^ n.toNat))∧m≤9223372036854775807∧(0≤x∧x<1000003)∧(0≤b∧b<1000003)) (fun⟨m,x,b⟩=>m.toNat) (n,((1:Nat):Int),md a) ⟨rfl,rfl,rfl,trivial⟩ ⟨a0,(by exact⟨zO,P7 a n.toNat⟩),oM,oM,(by exact Ck _)⟩ ?_
 clear a0
 rintro⟨m,x,b⟩ ρ3 w3 ⟨a1,hI,hm,hx,hb⟩
 refine A0<|gK [0,0] Z<|Ad 1 Z ?_
 by_cases a3:((0:Nat):Int)<m
 ·refine C2 true Z Z (A5 a3) Aa<|Aj<|Ag Z<|A2<|A3<|A0<|gK [0,0,0] Z<|Ad 1 Z<|Em (m % 2) Z Z (by decide) (gO hI.1) Aa ?_
  by_cases a4:m % 2=((1:Nat):Int)
  ·refine Al true Z Z (A5 a4) Aa<|Aj<|Ag Z<|Ab _ [0,0,0,0] Z<|Ad 2 Z<|AB 63 [] [] [zI x,zI b] Z Z Nj Aa (zI<|md (x*b)) (fun wq=>Cm wq _ _ oM oM)<|Ac 1 Z<|gK [0,0,0,0] Z<|Ad 2 Z<|AB 63 [] [] [zI b,zI b] Z Z Nj Aa (zI<|md (b*b)) (fun wq=>Cm wq _ _ oM oM)<|Ac 1 Z<|Ab _ [0,0,0] Z<|Ad 1 Z<|QI (m / 2) Z Z (by decide) (eP hI.1 hm) Aa<|Ac 1 Z ?_
   exact⟨(m / 2,md (x*b),md (b*b)),_,rfl,zR,⟨a1,OA,oM,(by first|exact hx|exact Ck _),(by exact Ck _)⟩,zD⟩
  exact Al false Z Z (A6 a4) Aa<|Aj<|Ai Z<|A2<|gK [0,0,0,0] Z<|Ad 2 Z<|AB 63 [] [] [zI b,zI b] Z Z Nj Aa (zI<|md (b*b)) (fun wq=>Cm wq _ _ oM oM)<|Ac 1 Z<|Ab _ [0,0,0] Z<|Ad 1 Z<|QI (m / 2) Z Z (by decide) (eP hI.1 hm) Aa<|Ac 1 Z ⟨(m / 2,x,md (b*b)),_,rfl,zR,⟨a1,OA,oM,(by first|exact hx|exact Ck _),(by exact Ck _)⟩,zD⟩
 exact C2 false Z Z (A6 a3) Aa<|Aj<|Ai Z<|A4<|AA<|AA<|Av<|gK [0,0] Z<|Ac 2 Z<|A1<|Ah [4] Z (zI x) Z ⟨B5<|T7 hI.2 hI.1 (by assumption) (by assumption) hx,a1⟩
theorem OC (w:World)(a:Int)(n:Int)(_ha:Bn a)(_hn:Bn n)  :
  Calls Tryz.prog 238 #[zI a,zI n] w (fun e w'=>e=.returned (zI (pw a n))∧w'=w):=by
 refine Aq [zI a,zI n] 27 Tryz.func238 Z Z sM ?_
 have a0:w=w:=rfl
 refine gL Z<|A0<|gK [0,0] Z<|Ad 1 Z ?_
 by_cases a2:n<((0:Nat):Int)
 ·exact AI true Z Z (A5 a2) Aa<|Aj<|Ag Z<|gL Z<|A1<|Ao<|Ah [4] Z (zI ((0:Nat):Int)) Z ⟨B5<|Tc (by assumption),a0⟩
 refine AI false Z Z (A6 a2) Aa<|Aj<|Ai Z<|A2<|gL Z<|A0<|gK [0,0,0] Z<|Ad 1 Z<|AB 214 [] [] [zI a] Z Z O0 Aa (zI<|md a) (fun wq=>D9 wq _ _ha)<|Ac 1 Z<|A3 ?_
 refine AU (S:=Int×Int×Int) (fun⟨m,x,b⟩=>([(1,zI m),(5,zI x),(6,zI b)])) (fun⟨m,x,b⟩ W=>W=w∧(0≤m∧md (x*b ^ m.toNat)=md (a ^ n.toNat))∧m≤9223372036854775807∧(0≤x∧x<1000003)∧(0≤b∧b<1000003)) (fun⟨m,x,b⟩=>m.toNat) (n,((1:Nat):Int),md a) ⟨rfl,rfl,rfl,trivial⟩ ⟨a0,(by exact⟨zO,P7 a n.toNat⟩),oM,oM,(by exact Ck _)⟩ ?_
 clear a0
 rintro⟨m,x,b⟩ ρ3 w3 ⟨a1,hI,hm,hx,hb⟩
 refine A0<|gK [0,0] Z<|Ad 1 Z ?_
 by_cases a3:((0:Nat):Int)<m
 ·refine C2 true Z Z (A5 a3) Aa<|Aj<|Ag Z<|A2<|A0<|A3<|A0<|gK [0,0,0] Z<|Ad 1 Z<|Em (m % 2) Z Z (by decide) (gO hI.1) Aa ?_
  by_cases a4:m % 2=((1:Nat):Int)
  ·refine Al true Z Z (A5 a4) Aa<|Aj<|Ag Z<|Ab _ [0,0,0,0,0] Z<|Ad 2 Z<|GE (wr (x*b)) Z Z Z Aa<|Em (md (x*b)) Z Z (by decide) (P8 hx hb) Aa<|Ac 1 Z<|Ab _ [0,0,0,0,0] Z<|Ad 2 Z<|GE (wr (b*b)) Z Z Z Aa<|Em (md (b*b)) Z Z (by decide) (P8 hb hb) Aa<|Ac 1 Z<|Ab _ [0,0,0] Z<|Ad 1 Z<|QI (m / 2) Z Z (by decide) (eP hI.1 hm) Aa<|Ac 1 Z ?_
   exact⟨(m / 2,md (x*b),md (b*b)),_,rfl,zR,⟨a1,OA,oM,(by first|exact hx|exact Ck _),(by exact Ck _)⟩,zD⟩
  exact Al false Z Z (A6 a4) Aa<|Aj<|Ai Z<|A2<|Ab _ [0,0,0,0,0] Z<|Ad 2 Z<|GE (wr (b*b)) Z Z Z Aa<|Em (md (b*b)) Z Z (by decide) (P8 hb hb) Aa<|Ac 1 Z<|Ab _ [0,0,0] Z<|Ad 1 Z<|QI (m / 2) Z Z (by decide) (eP hI.1 hm) Aa<|Ac 1 Z ⟨(m / 2,x,md (b*b)),_,rfl,zR,⟨a1,OA,oM,(by first|exact hx|exact Ck _),(by exact Ck _)⟩,zD⟩
 exact C2 false Z Z (A6 a3) Aa<|Aj<|Ai Z<|A4<|AA<|AA<|Av<|gK [0,0] Z<|Ac 2 Z<|A1<|Ah [4] Z (zI x) Z ⟨B5<|T7 hI.2 hI.1 (by assumption) (by assumption) hx,a1⟩
theorem Ja (w:World)(a:Int)(_ha:Bn a)  :
  Calls Tryz.prog 235 #[zI a] w (fun e w'=>e=.returned (zI (inv a))∧w'=w):=by
 refine Aq [zI a] 5 Tryz.func235 Z Z sM ?_
 have a0:w=w:=rfl
 exact gL Z<|gK [0,0,0] Z<|Ad 1 Z<|AB 254 [] [] [zI a,zI ((1000001:Nat):Int)] Z Z dO Aa (zI<|pw a ((1000001:Nat):Int)) (fun wq=>OB wq _ _ _ha oM)<|Ac 1 Z<|A1<|Ah [2] Z (zI<|pw a ((1000001:Nat):Int)) Z ⟨rfl,a0⟩
theorem It (w:World)(a:Int)(_ha:Bn a)  :
  Calls Tryz.prog 212 #[zI a] w (fun e w'=>e=.returned (zI (inv a))∧w'=w):=by
 refine Aq [zI a] 5 Tryz.func212 Z Z sM ?_
 have a0:w=w:=rfl
 exact gL Z<|gK [0,0,0] Z<|Ad 1 Z<|AB 238 [] [] [zI a,zI ((1000001:Nat):Int)] Z Z dG Aa (zI<|pw a ((1000001:Nat):Int)) (fun wq=>OC wq _ _ _ha oM)<|Ac 1 Z<|A1<|Ah [2] Z (zI<|pw a ((1000001:Nat):Int)) Z ⟨rfl,a0⟩
theorem FK (w:World)(n:Int)(_hn:Bn n)  :
  Calls Tryz.prog 117 #[zI n] w (fun e w'=>e=.returned (.bool (IL n))∧w'=w):=by
 refine Aq [zI n] 5 Tryz.func117 Z Z sM ?_
 have a0:w=w:=rfl
 exact gL Z<|gK [0,0,0] Z<|Ad 1 Z<|AB 66 [] [] [zI n,zI ((0:Nat):Int),zI ((1000002:Nat):Int)] Z Z FC Aa (.bool (decide (((0:Nat):Int)≤n) && decide (n≤((1000002:Nat):Int)))) (fun wq=>Ba wq _ _ _ _hn oM oM)<|Ac 1 Z<|A1<|Ah [2] Z (.bool (decide (((0:Nat):Int)≤n) && decide (n≤((1000002:Nat):Int)))) Z ⟨AO (by unfold IL;rfl),a0⟩
theorem EW (w:World)(n:Int)(_hn:Bn n)  :
  Calls Tryz.prog 166 #[zI n] w (fun e w'=>e=.returned (.bool (IL n))∧w'=w):=by
 refine Aq [zI n] 5 Tryz.func166 Z Z sM ?_
 have a0:w=w:=rfl
 exact gL Z<|gK [0,0,0] Z<|Ad 1 Z<|AB 94 [] [] [zI n,zI ((0:Nat):Int),zI ((1000002:Nat):Int)] Z Z ED Aa (.bool (decide (((0:Nat):Int)≤n) && decide (n≤((1000002:Nat):Int)))) (fun wq=>B9 wq _ _ _ _hn oM oM)<|Ac 1 Z<|A1<|Ah [2] Z (.bool (decide (((0:Nat):Int)≤n) && decide (n≤((1000002:Nat):Int)))) Z ⟨AO (by unfold IL;rfl),a0⟩
theorem IY (w:World)(n:Int)(_hn:Bn n)  :
  Calls Tryz.prog 116 #[zI n] w (fun e w'=>e=.returned (.bool (!IL n))∧AH w w'):=by
 refine Aq [zI n] 6 Tryz.func116 Z Z sM ?_
 have a0:AH w w:=AH.refl w
 exact gL Z<|gK [0,0,0,0] Z<|Ad 1 Z<|AB 117 [] [] [zI n] Z Z UF Aa (.bool<|IL n) (fun wq=>FK wq _ _hn)<|Bo (!(IL n)) Z Z Aa<|Ac 1 Z<|A1<|Ah [2] Z (.bool (!(IL n))) Z ⟨rfl,a0⟩
def SH {α:Type}(p:α→Bool)(l:List α):Int:=if l.any p then((l.findIdx p:Nat):Int)else -1
theorem UU {α:Type}{p:α→Bool}{l:List α}{k:Nat}(d:α)(h:∀j,j<k→p (l.getD j d)=false)(hk:k<l.length)(hp:p (l.getD k d)=true):((k:Nat):Int)=SH p l:=by
  have e:∀j,(hj:j<l.length)→l.getD j d=l[j]:=fun j hj=>by simp[hj]
  have h1:l.any p=true:=List.any_eq_true.2 ⟨l[k],List.getElem_mem hk,by rw[← e k hk];exact hp⟩
  have h2:l.findIdx p=k:=by
    rw[List.findIdx_eq hk]
    refine⟨by rw[← e k hk];exact hp,fun j hj=>?_⟩
    have:=h j hj
    rw[e j (by omega)]at this
    exact this
  unfold SH;rw[if_pos h1,h2]
theorem YB {α:Type}{p:α→Bool}{l:List α}{k:Nat}(d:α)(h:∀j,j<k→p (l.getD j d)=false)(hk:l.length≤k):(-1:Int)=SH p l:=by
  have h1:l.any p=false:=by
    rw[List.any_eq_false]
    intro x hx
    obtain⟨j,hj,rfl⟩:=List.getElem_of_mem hx
    have:=h j zO
    have e:l.getD j d=l[j]:=by simp[hj]
    rw[e]at this
    simp[this]
  unfold SH;rw[h1];rfl
theorem YC {α:Type}(p:α→Bool)(l:List α):decide (((0:Nat):Int)≤SH p l)=l.any p:=by
  unfold SH
  split
  · rename_i h;rw[h];exact A5 zO
  · rename_i h;rw[Bool.not_eq_true]at h;rw[h];exact A6 zO
theorem RZ {α:Type}{p:α→Bool}{l:List α}{k:Nat}{d:α}(h:∀j,j<k→p (l.getD j d)=false)(hp:p (l.getD k d)=false):∀j,j<k+1→p (l.getD j d)=false:=by
  intro j hj
  by_cases e:j=k
  · subst e;exact hp
  · exact h j zO
theorem Ek (w:World) (va:Value) (a:Sr) (q:Nat) (qf qc:List Value) (p:Int→Bool) (ha:Rd (B4 rI) w.heap va a) (hcf_q:((Tryz.prog.funcs[q]?).map fun fn=>(fn.name != "runtime.NumGoroutine") && fn.body.isSome) = some true) (hp:∀ (x:Int),Bn x→∀ w1,AH w w1→Calls Tryz.prog q (qf++[Value.int .i64 x]++qc).toArray w1 (fun e w2=>e = .returned (.bool (p x))∧AH w1 w2))  :
  Calls Tryz.prog 168 #[va,.func (.func q) qf.toArray qc.toArray] w (fun e w'=>e = .returned (zI (SH p a))∧AH w w'):=by
 refine Aq [va,.func (.func q) qf.toArray qc.toArray] 19 Tryz.func168 Z Z sM ?_
 have a3:AH w w:=AH.refl w
 have aa:=ha.lenle
 refine gL Z<|A0<|gK [0,0,0] Z<|Ad 1 Z<|AR (v:=va) Bt Z ha.isSl Aa<|Ac 1 Z<|A3 ?_
 refine AU (S:=Nat) (fun k=>([(8,zI ((k :Nat):Int)),(0,va),(1,.func (.func q) qf.toArray qc.toArray),(7,zI ((a.length :Nat):Int))])) (fun k W=>AH w W∧k≤a.length∧(∀ j,j < k→p (a.getD j 0) = false)) (fun k=>a.length - k) 0 ⟨rfl,rfl,rfl,rfl,trivial⟩ ⟨a3,sD,(by intro j hj; omega)⟩ ?_
 clear a3
 rintro k ρ1 w1 ⟨a1,a4,hq⟩
 have a7:w.heap.size≤w1.heap.size:=a1.size
 refine gK [0] Z ?_
 by_cases a5:((k :Nat):Int) < ((a.length :Nat):Int)
 ·
  refine AI true Z Z (A5 a5) Aa<|Aj<|A0<|Ag Z<|A2<|A0<|A3<|gK [0,0] Z<|Ac 2 Z<|gK [0,0,0,0,2,3] Z<|Ad 3 Z<|Aw (v:=va) k Bt BG Z Z ha.isSl Z sD Aa ?_
  refine Af (p:=Ay va k 1) (.inr Z) (zI<|a.getD k 0) AC Z (Bd a1 (ha.getI sD).1) Aa ?_
  have a0:=hp (a.getD k 0) (ha.getI sD).2 _ a1
  refine Ap q qf qc _ Z Z hcf_q Aa a0 ?_
  rintro e3 w3 ⟨rfl,a2⟩
  refine ⟨_,rfl,a2,?_⟩
  have a8:=a2.size
  have a6:=a1.trans a2
  cases a9:p (a.getD k 0)
  ·
   refine Aj<|Ai Z<|A2<|Ab _ [0,0] Z<|AQ ((k + 1 :Nat):Int) Z Z (Bi oM sD) Aa<|Ac 1 Z ?_
   exact ⟨k + 1,_,rfl,zR,⟨a6,sD,(by exact RZ hq (by assumption))⟩,by first | omega | (dsimp only; omega)⟩
  exact Aj<|Ag Z<|gK [0,0] Z<|Ac 2 Z<|A1<|AG<|Ao<|Ao<|AG<|Ao<|Ah [4] Z (zI ((k :Nat):Int)) Z ⟨B5<|UU 0 hq oM (by assumption),a6⟩
 exact AI false Z Z (A6 a5) Aa<|Aj<|A0<|Ai Z<|A4<|AA<|AA<|Av<|gL Z<|A1<|Ah [4] Z (zI (-1)) Z ⟨B5<|YB 0 hq oM,a1⟩
theorem CA (w:World) (va:Value) (a:Sr) (q:Nat) (qf qc:List Value) (p:Int→Bool) (ha:Rd (B4 rI) w.heap va a) (hcf_q:((Tryz.prog.funcs[q]?).map fun fn=>(fn.name != "runtime.NumGoroutine") && fn.body.isSome) = some true) (hp:∀ (x:Int),Bn x→∀ w1,AH w w1→Calls Tryz.prog q (qf++[Value.int .i64 x]++qc).toArray w1 (fun e w2=>e = .returned (.bool (p x))∧AH w1 w2))  :
  Calls Tryz.prog 115 #[va,.func (.func q) qf.toArray qc.toArray] w (fun e w'=>e = .returned (.bool (a.any p))∧AH w w'):=by
 refine Aq [va,.func (.func q) qf.toArray qc.toArray] 9 Tryz.func115 Z Z sM ?_
 have a0:AH w w:=AH.refl w
 have a4:=ha.lenle
 refine gL Z<|gK [0,0,3,0,0] Z<|Ad 2 Z<|Ap 168 [] [] [va,.func (.func q) qf.toArray qc.toArray] Z Z cQ Aa (Ek _ _ _ q qf qc p (ha.ext g1 a0) hcf_q fun x hx w1 hw=>hp x hx w1<|a0.trans hw) ?_
 rintro e1 w1 ⟨rfl,a1⟩
 refine ⟨_,rfl,a1,?_⟩
 have a2:=a1.size
 have a3:=a0.trans a1
 exact De (decide (((0 :Nat):Int)≤SH p a)) Z Z Z Aa<|Ac 1 Z<|A1<|Ah [4] Z (.bool<|decide (((0 :Nat):Int)≤SH p a)) Z ⟨AO<|YC p a,a3⟩
theorem BV (w:World)(va:Value)(a:Sr)(ha:Rd (B4 rI) w.heap va a)(hla:a.length≤1000000000000) :
  Calls Tryz.prog 79 #[va] w (fun e w'=>∃v0:Value,e=.returned (v0)∧AH w w'∧Fr (Bp rI 2) w.heap.size w'.heap.size w'.heap v0 a):=by
 refine Aq [va] 8 Tryz.func79 Z Z sM ?_
 have a1:AH w w:=AH.refl w
 have ac:=ha.lenle
 refine gL Z<|A0<|gK [0,0] Z<|Ad 1 Z ?_
 cases a2:PY va
 ·refine SR (v:=va) false Bt Z Z ha.isSl a2 Aa<|Aj<|Ai Z<|A2<|gK [3,0,4,0] Z (Cn (rI) AJ Bt BG Aa fun v2 w2 a3 ab a5=>?_)
  have a6:=a3.size
  have a0:=a1.trans a3
  refine Ad 1 Z (GP (v:=v2) (a:=va) Bt BG Z Z Z a5 a0.size (ha.ext g1 a0) sD (by unfold maxLen;first|omega|assumption|(simp;done)|(simp;omega)) Aa fun v3 w3 F3 a4 a7 a8=>?_)
  have a9:AH w w3:=a4.below a0 (fun c hc=>A8 (A7 _) (a7 c hc).1) a0.size
  have aa:=a4.size
  exact Ac 1 Z<|A1<|Ah [2] Z v3 Z ⟨v3,rfl,a9,a8.up o1⟩
 refine SR (v:=va) true Bt Z Z ha.isSl a2 Aa<|Aj<|Ag Z<|gL Z<|A1<|Ao ?_
 have hnil:a=[]:=ha.nil_of (by assumption)
 subst hnil
 exact Ah [2] Z zN Z ⟨zN,rfl,a1,GF _ _ _⟩
theorem Ct (w:World)(va:Value)(a:Sr)(count:Int)(ha:Rd (B4 rI) w.heap va a)(_hcount:Bn count)  :
  Calls Tryz.prog 57 #[va,zI count] w (fun e w'=>e=.returned (.bool (decide ((a.length:Int)=count) && AX a))∧AH w w'):=by
 refine Aq [va,zI count] 14 Tryz.func57 Z Z sM ?_
 have a0:AH w w:=AH.refl w
 have a5:=ha.lenle
 refine gL Z<|gK [0,0,0,0,0,0,3,0,0,0] Z<|Ad 1 Z<|AR (v:=va) Bt Z ha.isSl Aa<|Ad 1 Z ?_
 by_cases a2:(a.length:Int)=count
 ·refine Al true Z Z (A5 a2) Aa<|Ad 2 Z<|Ap 115 [] [] [va,.func (.func 116) #[] #[]] Z Z Yj (Ae (e:=9) Z Z Z) (CA _ _ _ 116 [] [] (fun x=>!IL x) (ha.ext g1 a0) bU fun x hx w1 hw=>IY w1 x hx) ?_
  rintro e2 w2 ⟨rfl,a1⟩
  refine⟨_,rfl,a1,?_⟩
  have a3:=a1.size
  have a4:=a0.trans a1
  exact Bo (!(a.any fun x=>!IL x)) Z Z (Ae (e:=9) Z Z Z)<|Ac 2 Z<|A1<|Ah [4] Z (.bool (!(a.any fun x=>!IL x))) Z ⟨AO (by first|(rw[QT];simp[*];done)|simp[*]),a4⟩
 exact Al false Z Z (A6 a2) Aa<|Ac 6 Z<|A1<|Ah [4] Z (.bool false) Z ⟨AO (by first|(rw[QT];simp[*];done)|simp[*]),a0⟩
theorem CV (w:World)(va:Value)(a:Sr)(ha:Rd (B4 rI) w.heap va a)  :
  Calls Tryz.prog 113 #[va] w (fun e w'=>e=.returned (.bool (AX a))∧AH w w'):=by
 refine Aq [va] 16 Tryz.func113 Z Z sM ?_
 have a1:AH w w:=AH.refl w
 have a6:=ha.lenle
 refine gL Z<|A0<|gL Z<|A3<|AU (S:=Nat) (fun k=>([(3,zI (k:Int)),(0,va)])) (fun k W=>AH w W∧k≤a.length∧((a.take k).all IL=true)) (fun k=>a.length-k) 0 ⟨rfl,rfl,trivial⟩ ⟨a1,sD,(by exact Td _ _)⟩ ?_
 clear a1
 rintro k ρ1 w1 ⟨a0,a2,hq⟩
 have a5:w.heap.size≤w1.heap.size:=a0.size
 refine A0<|gK [0,0,0,0] Z<|Ad 2 Z<|AR (v:=va) Bt Z ha.isSl Aa ?_
 by_cases a3:(k:Int)<(a.length:Int)
 ·refine AI true Z Z (A5 a3) Aa<|Aj<|Ag Z<|A2<|A0<|A3<|gK [0,0,0,2,0,0] Z<|Ad 2 Z<|Aw (v:=va) k Bt BG Z Z ha.isSl Z sD Aa ?_
  refine Af (p:=Ay va k 1) (.inr Z) (zI<|a.getD k 0) AC Z (Bd a0 (ha.getI sD).1) Aa ?_
  refine AB 166 [] [] [zI<|a.getD k 0] Z Z UH Aa (.bool<|IL<|a.getD k 0) (fun wq=>EW wq _ (ha.getI sD).2)<|Bo (!(IL<|a.getD k 0)) Z Z Aa<|Aj ?_
  cases a4:(!(IL (a.getD k 0)))
  ·refine Ai (by first|rfl|exact zW a4)<|A2<|Ab _ [0,0,0] Z<|Ad 1 Z<|AQ ((k+1:Nat):Int) Z Z (Bi oM sD) Aa<|Ac 1 Z ?_
   exact⟨k+1,_,rfl,⟨rfl,rfl,trivial⟩,⟨a0,sD,(by exact P9 0 hq oM (by simpa using ‹(!IL (a.getD k 0))=false›))⟩,zD⟩
  exact Ag (by first|rfl|exact zW a4)<|gL Z<|A1<|AG<|Ao<|Ao<|AG<|Ao<|Ah [2] Z (.bool false) Z ⟨AO (Pa (k:=k) 0 oM (by simpa using ‹(!IL (a.getD k 0))=true›)).symm,a0⟩
 exact AI false Z Z (A6 a3) Aa<|Aj<|Ai Z<|A4<|AA<|AA<|Av<|gL Z<|A1<|Ah [2] Z (.bool true) Z ⟨AO (Pb hq oM).symm,a0⟩
theorem BY (w:World)(va:Value)(a:Sr)(ha:Rd (B4 rI) w.heap va a)(hla:a.length≤1000000000000) :
  Calls Tryz.prog 83 #[va] w (fun e w'=>∃v0:Value,e=.returned (v0)∧AH w w'∧Fr (Bp rI 2) w.heap.size w'.heap.size w'.heap v0 a):=by
 refine Aq [va] 6 Tryz.func83 Z Z sM ?_
 have a3:AH w w:=AH.refl w
 have ab:=ha.lenle
 refine gL Z<|gK [3,0,4,0] Z (Cn (rI) AJ Bt BG Aa fun v1 w1 a1 aa a4=>?_)
 have a5:=a1.size
 have a0:=a3.trans a1
 refine Ad 1 Z (GP (v:=v1) (a:=va) Bt BG Z Z Z a4 a0.size (ha.ext g1 a0) sD (by unfold maxLen;first|omega|assumption|(simp;done)|(simp;omega)) Aa fun v2 w2 F2 a2 a6 a7=>?_)
 have a8:AH w w2:=a2.below a0 (fun c hc=>A8 (A7 _) (a6 c hc).1) a0.size
 have a9:=a2.size
 exact Ac 1 Z<|A1<|Ah [2] Z v2 Z ⟨v2,rfl,a8,a7.up o1⟩
theorem OD {p:Prop}(h:p:=by first|omega|exact QN _):p:=h
theorem CP {p:Prop}(h:p:=by kernel_rfl):p:=h
theorem Gm (w:World)(g:Nat)(sv:Value)(cs:List UInt8)(n0:Nat)(hs:FG w.heap g sv cs n0)(al:n0+1≤1000000000000)  :
  Calls Tryz.prog 132 #[zP g] w (fun e w'=>∃(x0:Int) (n1:Nat),e=.returned (zI x0)∧At [g] w w'∧FG w'.heap g sv cs n1∧(n0≤n1∧n1≤n0+1)∧(0≤x0∧x0≤255)):=by
 refine Aq [zP g] 62 Tryz.func132 Z Z sM ?_
 have a2:At [g] w w:=At.refl [g] w
 have aq:=hs.lt
 obtain⟨sd,hbx,hrs⟩:=hs.parts
 have hl_sv:=(hrs _<|At.refl [g] w).lenle
 refine gL Z<|gL Z<|A0<|A0<|AM _ [0,0,0,1,0,0,0,1,0,0] mixed CP<|Ad 1 Z<|AV Z Aa<|EL 1 CP Z Aa<|Af (p:=.pointer<|some ⟨g,1,none⟩) (.inl Z) (zI (n0:Int)) MM Z (hbx.ld (k:=1) sM) Aa<|Ad 1 Z<|AV Z Aa<|EL 0 CP Z Aa<|Af (p:=zP g) (.inl Z) sv RU Z (hbx.ld (k:=0) sM) Aa<|AR (v:=sv) UQ Z (hrs _ a2.drew).isSl Aa ?_
 by_cases aa:(n0:Int)<(cs.length:Int)
 ·refine AI true Z Z (A5 aa) Aa<|Aj<|Ag Z<|AM _ [0,0,0,1,0,0,0,1,0,1,0,0] mixed CP<|Ad 1 Z<|AV Z Aa<|EL 0 CP Z Aa<|Af (p:=zP g) (.inl Z) sv RU Z (hbx.ld (k:=0) sM) Aa<|Ad 1 Z<|AV Z Aa<|EL 1 CP Z Aa<|Af (p:=.pointer<|some ⟨g,1,none⟩) (.inl Z) (zI (n0:Int)) MM Z (hbx.ld (k:=1) sM) Aa ?_
  refine Aw (v:=sv) n0 UQ gS Z Z (hrs _ a2.drew.drew).isSl Z sD Aa ?_
  refine Af (p:=Ay sv n0 1) (.inl Z) (.int .u8 ((cs.getD n0 0).toNat:Int)) fU Z ((hrs _ a2.drew.drew).getU sD).1 Aa (KO ((cs.getD n0 0).toNat:Int) u5 u3 Z (w8 _) Aa<|Ac 1 Z<|gK [0,0,0,2,0,0,0,4] Z<|Ad 1 Z<|AV Z Aa<|EL 1 CP Z Aa<|Af (p:=.pointer<|some ⟨g,1,none⟩) (.inr Z) (zI (n0:Int)) MM Z (hbx.ld (k:=1) sM) Aa ?_)
  refine AQ ((n0+1:Nat):Int) Z Z (Bi oM sD) Aa<|AV Z Aa<|EL 1 CP Z Aa (Bm (w:=w.drew.drew) gR Z Z ⟨rfl,rfl⟩ hbx sM Aa fun w2 a3 am ad=>?_)
  replace a3:=a3.of_drew
  replace a3:=a3.of_drew
  have ae:At [g] w w2:=a2.trans a3
  have a4:BX w2.heap g [sv,zI ((n0+1:Nat):Int),.int .u64 sd]:=ad
  refine Aj<|gK [0,0,0,0,2,0,0,0,0,0,0,0,4] Z<|Ad 2 Z<|AV Z Aa<|EL 2 CP Z Aa<|Af (p:=.pointer<|some ⟨g,2,none⟩) (.inr Z) (.int .u64 sd) Ov Z (a4.ld (k:=2) sM) Aa<|GE (IntKind.u64.wrap (sd*6364136223846793005)) Z Z Z Aa<|Ad 1 Z<|KO (IntKind.u64.wrap ((cs.getD n0 0).toNat:Int)) u3 Xq Z Z Aa<|AQ (IntKind.u64.wrap ((IntKind.u64.wrap (sd*6364136223846793005))+(IntKind.u64.wrap ((cs.getD n0 0).toNat:Int)))) Z Z Z Aa<|AQ (IntKind.u64.wrap ((IntKind.u64.wrap ((IntKind.u64.wrap (sd*6364136223846793005))+(IntKind.u64.wrap ((cs.getD n0 0).toNat:Int))))+1442695040888963407)) Z Z Z Aa<|AV Z Aa ?_
  refine EL 2 CP Z Aa (Bm (w:=w2) Yz Z Z ⟨rfl,rfl⟩ a4 sM Aa fun w3 af an ag=>?_)
  have a5:At [g] w w3:=ae.trans af
  have a0:BX w3.heap g [sv,zI ((n0+1:Nat):Int),.int .u64 (IntKind.u64.wrap ((IntKind.u64.wrap ((IntKind.u64.wrap (sd*6364136223846793005))+(IntKind.u64.wrap ((cs.getD n0 0).toNat:Int))))+1442695040888963407))]:=ag
  refine Aj<|A0<|A0<|AM _ [0,0,0,1,0,0,0,1,0,0] mixed CP<|Ad 1 Z<|AV Z Aa<|EL 1 CP Z Aa<|Af (p:=.pointer<|some ⟨g,1,none⟩) (.inl Z) (zI ((n0+1:Nat):Int)) MM Z (a0.ld (k:=1) sM) Aa<|Ad 1 Z<|AV Z Aa<|EL 0 CP Z Aa<|Af (p:=zP g) (.inl Z) sv RU Z (a0.ld (k:=0) sM) Aa<|AR (v:=sv) UQ Z (hrs _ a5.drew).isSl Aa ?_
  by_cases ab:((n0+1:Nat):Int)≤(cs.length:Int)
  ·refine En true Z Z (A5 ab) Aa<|Aj<|Ag Z<|gK [0,0] Z<|Ac 2 Z<|A1<|Ao ?_
   have a8:=QM<|cs.getD n0 0
   exact Ah [2] Z (zI ((cs.getD n0 0).toNat:Int)) Z ⟨((cs.getD n0 0).toNat:Int),n0+1,rfl,a5.drew,hs.close a5.drew a0,⟨zO,zO⟩,OD⟩
  refine En false Z Z (A6 ab) Aa<|Aj<|Ai Z<|A2<|gK [0,0,0,2,0,0,0,0] Z<|Ad 1 Z<|AV Z Aa<|EL 2 CP Z Aa<|Af (p:=.pointer<|some ⟨g,2,none⟩) (.inr Z) (.int .u64<|IntKind.u64.wrap ((IntKind.u64.wrap ((IntKind.u64.wrap (sd*6364136223846793005))+(IntKind.u64.wrap ((cs.getD n0 0).toNat:Int))))+1442695040888963407)) Ov Z (a0.ld (k:=2) sM) Aa<|XG ((IntKind.u64.wrap ((IntKind.u64.wrap ((IntKind.u64.wrap (sd*6364136223846793005))+(IntKind.u64.wrap ((cs.getD n0 0).toNat:Int))))+1442695040888963407)).fdiv (2 ^ (min (40:Int).toNat (IntKind.u64).bits))) Z Z oM Z Aa<|XI Z Z Aa ?_
  refine KO (Jf .u64 ((IntKind.u64.wrap ((IntKind.u64.wrap ((IntKind.u64.wrap (sd*6364136223846793005))+(IntKind.u64.wrap ((cs.getD n0 0).toNat:Int))))+1442695040888963407)).fdiv (2 ^ (min (40:Int).toNat (IntKind.u64).bits))) 255) Xq u2 Z (ZX _) Aa<|Ac 1 Z<|A1 ?_
  have a8:=QM<|cs.getD n0 0
  exact Ah [2] Z (zI<|Jf .u64 ((IntKind.u64.wrap ((IntKind.u64.wrap ((IntKind.u64.wrap (sd*6364136223846793005))+(IntKind.u64.wrap ((cs.getD n0 0).toNat:Int))))+1442695040888963407)).fdiv (2 ^ (min (40:Int).toNat (IntKind.u64).bits))) 255) Z ⟨Jf .u64 ((IntKind.u64.wrap ((IntKind.u64.wrap ((IntKind.u64.wrap (sd*6364136223846793005))+(IntKind.u64.wrap ((cs.getD n0 0).toNat:Int))))+1442695040888963407)).fdiv (2 ^ (min (40:Int).toNat (IntKind.u64).bits))) 255,n0+1,rfl,a5.drew,hs.close a5.drew a0,⟨zO,zO⟩,OD⟩
 refine AI false Z Z (A6 aa) Aa<|Aj<|Ai Z<|A2<|gK [0,0,0,2,0,0,0,4] Z<|Ad 1 Z<|AV Z Aa<|EL 1 CP Z Aa<|Af (p:=.pointer<|some ⟨g,1,none⟩) (.inr Z) (zI (n0:Int)) MM Z (hbx.ld (k:=1) sM) Aa<|AQ ((n0+1:Nat):Int) Z Z (Bi oM sD) Aa<|AV Z Aa ?_
 refine EL 1 CP Z Aa (Bm (w:=w.drew) gR Z Z ⟨rfl,rfl⟩ hbx sM Aa fun w5 a9 ao ah=>?_)
 replace a9:=a9.of_drew
 have ai:At [g] w w5:=a2.trans a9
 have a6:BX w5.heap g [sv,zI ((n0+1:Nat):Int),.int .u64 sd]:=ah
 refine Aj<|gK [0,0,0,0,2,0,0,0,0,0,0,0,4] Z<|Ad 2 Z<|AV Z Aa<|EL 2 CP Z Aa<|Af (p:=.pointer<|some ⟨g,2,none⟩) (.inr Z) (.int .u64 sd) Ov Z (a6.ld (k:=2) sM) Aa<|GE (IntKind.u64.wrap (sd*6364136223846793005)) Z Z Z Aa<|Ad 1 Z<|KO (IntKind.u64.wrap ((0:Nat):Int)) u3 Xq Z Z Aa<|AQ (IntKind.u64.wrap ((IntKind.u64.wrap (sd*6364136223846793005))+(IntKind.u64.wrap ((0:Nat):Int)))) Z Z Z Aa<|AQ (IntKind.u64.wrap ((IntKind.u64.wrap ((IntKind.u64.wrap (sd*6364136223846793005))+(IntKind.u64.wrap ((0:Nat):Int))))+1442695040888963407)) Z Z Z Aa<|AV Z Aa<|EL 2 CP Z Aa ?_
 refine Bm (w:=w5) Yz Z Z ⟨rfl,rfl⟩ a6 sM Aa fun w6 aj ap ak=>?_
 have a7:At [g] w w6:=ai.trans aj
 have a1:BX w6.heap g [sv,zI ((n0+1:Nat):Int),.int .u64 (IntKind.u64.wrap ((IntKind.u64.wrap ((IntKind.u64.wrap (sd*6364136223846793005))+(IntKind.u64.wrap ((0:Nat):Int))))+1442695040888963407))]:=ak
 refine Aj<|A0<|A0<|AM _ [0,0,0,1,0,0,0,1,0,0] mixed CP<|Ad 1 Z<|AV Z Aa<|EL 1 CP Z Aa<|Af (p:=.pointer<|some ⟨g,1,none⟩) (.inl Z) (zI ((n0+1:Nat):Int)) MM Z (a1.ld (k:=1) sM) Aa<|Ad 1 Z<|AV Z Aa<|EL 0 CP Z Aa<|Af (p:=zP g) (.inl Z) sv RU Z (a1.ld (k:=0) sM) Aa<|AR (v:=sv) UQ Z (hrs _ a7.drew).isSl Aa ?_
 by_cases ac:((n0+1:Nat):Int)≤(cs.length:Int)
 ·refine En true Z Z (A5 ac) Aa<|Aj<|Ag Z<|gK [0,0] Z<|Ac 2 Z<|A1<|Ao ?_
  have a8:=QM<|cs.getD n0 0
  exact Ah [2] Z (zI ((0:Nat):Int)) Z ⟨((0:Nat):Int),n0+1,rfl,a7.drew,hs.close a7.drew a1,⟨zO,zO⟩,OD⟩
 refine En false Z Z (A6 ac) Aa<|Aj<|Ai Z<|A2<|gK [0,0,0,2,0,0,0,0] Z<|Ad 1 Z<|AV Z Aa<|EL 2 CP Z Aa<|Af (p:=.pointer<|some ⟨g,2,none⟩) (.inr Z) (.int .u64<|IntKind.u64.wrap ((IntKind.u64.wrap ((IntKind.u64.wrap (sd*6364136223846793005))+(IntKind.u64.wrap ((0:Nat):Int))))+1442695040888963407)) Ov Z (a1.ld (k:=2) sM) Aa<|XG ((IntKind.u64.wrap ((IntKind.u64.wrap ((IntKind.u64.wrap (sd*6364136223846793005))+(IntKind.u64.wrap ((0:Nat):Int))))+1442695040888963407)).fdiv (2 ^ (min (40:Int).toNat (IntKind.u64).bits))) Z Z oM Z Aa<|XI Z Z Aa ?_
 refine KO (Jf .u64 ((IntKind.u64.wrap ((IntKind.u64.wrap ((IntKind.u64.wrap (sd*6364136223846793005))+(IntKind.u64.wrap ((0:Nat):Int))))+1442695040888963407)).fdiv (2 ^ (min (40:Int).toNat (IntKind.u64).bits))) 255) Xq u2 Z (ZX _) Aa<|Ac 1 Z<|A1 ?_
 have a8:=QM<|cs.getD n0 0
 exact Ah [2] Z (zI<|Jf .u64 ((IntKind.u64.wrap ((IntKind.u64.wrap ((IntKind.u64.wrap (sd*6364136223846793005))+(IntKind.u64.wrap ((0:Nat):Int))))+1442695040888963407)).fdiv (2 ^ (min (40:Int).toNat (IntKind.u64).bits))) 255) Z ⟨Jf .u64 ((IntKind.u64.wrap ((IntKind.u64.wrap ((IntKind.u64.wrap (sd*6364136223846793005))+(IntKind.u64.wrap ((0:Nat):Int))))+1442695040888963407)).fdiv (2 ^ (min (40:Int).toNat (IntKind.u64).bits))) 255,n0+1,rfl,a7.drew,hs.close a7.drew a1,⟨zO,zO⟩,OD⟩
theorem UV {p:Prop}(h:p:=by first|omega|exact⟨Int.emod_nonneg _ oM,Int.le_of_lt (Int.lt_of_lt_of_le (Int.emod_lt_of_pos _ oM) oM),fun _=>Int.emod_lt_of_pos _ oM⟩):p:=h
theorem B8 (w:World)(g:Nat)(sv:Value)(cs:List UInt8)(n0:Nat)(k:Int)(hs:FG w.heap g sv cs n0)(ad:n0+2≤1000000000000)(_hk:Bn k)(hk:k≤1000000) :
  Calls Tryz.prog 72 #[zP g,zI k] w (fun e w'=>∃(x0:Int) (n1:Nat),e=.returned (zI x0)∧At [g] w w'∧FG w'.heap g sv cs n1∧(n0≤n1∧n1≤n0+2)∧(0≤x0∧x0≤1000000∧(1≤k→x0<k))):=by
 refine Aq [zP g,zI k] 20 Tryz.func72 Z Z sM ?_
 have a0:At [g] w w:=At.refl [g] w
 have ai:=hs.lt
 refine gL Z<|A0<|gK [0,0] Z<|Ad 1 Z ?_
 by_cases a1:k≤((1:Nat):Int)
 ·exact En true Z Z (A5 a1) Aa<|Aj<|Ag Z<|gL Z<|A1<|Ao<|Ah [4] Z (zI ((0:Nat):Int)) Z ⟨((0:Nat):Int),n0,rfl,a0,hs,⟨zO,zO⟩,UV⟩
 refine En false Z Z (A6 a1) Aa<|Aj<|Ai Z<|A2<|gK [0,4,0] Z<|Ad 1 Z<|AD 132 [] [] [zP g] Z Z Yk Aa (Gm _ g _ _ _ hs oM) ?_
 rintro e2 w2 ⟨ag,n2,rfl,a2,a3,ae,a4⟩
 refine⟨_,rfl,?_⟩
 have a9:=a2.size
 have a5:At [g] w w2:=a0.trans a2
 refine Ac 1 Z<|A0<|gK [0,0] Z<|Ad 1 Z ?_
 by_cases a6:((200:Nat):Int)<k
 ·refine C2 true Z Z (A5 a6) Aa<|Aj<|Ag Z<|Ab _ [0,0,0,4,0,0] Z<|Ad 1 Z ?_
  refine GE (ag*((256:Nat):Int)) Z Z (CM sD sD) Aa<|Ad 1 Z ?_
  refine AD 132 [] [] [zP g] Z Z Yk Aa (Gm _ g _ _ _ a3 oM) ?_
  rintro e4 w4 ⟨ah,n4,rfl,a7,aa,af,a8⟩
  refine⟨_,rfl,?_⟩
  have ab:=a7.size
  have ac:At [g] w w4:=a5.trans a7
  refine AQ ((ag*((256:Nat):Int))+ah) Z Z (CM sD sD) Aa<|Ac 1 Z<|gK [0,0,0,0] Z ?_
  exact Ad 2 Z<|Em (((ag*((256:Nat):Int))+ah) % k) Z Z oM (Int.tmod_eq_emod_of_nonneg oM) Aa<|Ac 1 Z<|A1<|Ah [4] Z (zI (((ag*((256:Nat):Int))+ah) % k)) Z ⟨((ag*((256:Nat):Int))+ah) % k,n4,rfl,ac,aa,⟨zO,zO⟩,UV⟩
 exact C2 false Z Z (A6 a6) Aa<|Aj<|Ai Z<|A2<|gK [0,0,0,0] Z<|Ad 2 Z<|Em ((ag) % k) Z Z oM (Int.tmod_eq_emod_of_nonneg oM) Aa<|Ac 1 Z<|A1<|Ah [4] Z (zI ((ag) % k)) Z ⟨(ag) % k,n2,rfl,a5,a3,⟨zO,zO⟩,UV⟩
theorem Cu (w:World)(g:Nat)(sv:Value)(cs:List UInt8)(n0:Nat)(k:Int)(hs:FG w.heap g sv cs n0)(a6:n0+2≤1000000000000)(_hk:Bn k)(hk:k≤1000000) :
  Calls Tryz.prog 73 #[zP g,zI k] w (fun e w'=>∃(x0:Bool) (n1:Nat),e=.returned (.bool x0)∧At [g] w w'∧FG w'.heap g sv cs n1∧(n0≤n1∧n1≤n0+2)∧True):=by
 refine Aq [zP g,zI k] 9 Tryz.func73 Z Z sM ?_
 have a2:At [g] w w:=At.refl [g] w
 have a9:=hs.lt
 refine gL Z<|gK [0,0,4,0,0] Z<|Ad 2 Z<|AD 72 [] [] [zP g,zI k] Z Z I5 Aa (B8 _ g _ _ _ _ hs oM _hk sD) ?_
 rintro e1 w1 ⟨a8,n1,rfl,a0,a3,a7,a1⟩
 refine⟨_,rfl,?_⟩
 have a4:=a0.size
 have a5:At [g] w w1:=a2.trans a0
 exact Al (decide (a8=((0:Nat):Int))) Z Z Z Aa<|Ac 1 Z<|A1<|Ah [4] Z (.bool<|decide (a8=((0:Nat):Int))) Z ⟨decide (a8=((0:Nat):Int)),n1,rfl,a5,a3,⟨zO,zO⟩,(by trivial)⟩
theorem H3 (w:World)(g:Nat)(sv:Value)(cs:List UInt8)(n0:Nat)(hs:FG w.heap g sv cs n0)(az:n0+8≤1000000000000)  :
  Calls Tryz.prog 111 #[zP g] w (fun e w'=>∃(x0:Int) (n1:Nat),e=.returned (zI x0)∧At [g] w w'∧FG w'.heap g sv cs n1∧(n0≤n1∧n1≤n0+8)∧(0≤x0∧x0<1000003)):=by
 refine Aq [zP g] 25 Tryz.func111 Z Z sM ?_
 have ag:At [g] w w:=At.refl [g] w
 have bc:=hs.lt
 refine gL Z<|A0<|gK [0,4] Z<|Ad 1 Z<|AD 72 [] [] [zP g,zI ((6:Nat):Int)] Z Z I5 Aa (B8 _ g _ _ _ _ hs oM oM sD) ?_
 rintro e1 w1 ⟨ba,n1,rfl,a2,a0,b0,a3⟩
 refine⟨_,rfl,?_⟩
 have ah:=a2.size
 have a1:At [g] w w1:=ag.trans a2
 refine Aj<|A3<|gK [0,0] Z ?_
 by_cases a4:ba=((0:Nat):Int)
 ·refine Al true Z Z (A5 a4) Aa<|Ac 1 Z<|Ag Z<|gK [0,4,0,0] Z<|Ad 1 Z<|AD 72 [] [] [zP g,zI ((3:Nat):Int)] Z Z I5 Aa (B8 _ g _ _ _ _ a0 oM oM sD) ?_
  rintro e3 w3 ⟨b9,n3,rfl,a5,ai,b1,a6⟩
  refine⟨_,rfl,?_⟩
  have aj:=a5.size
  have ak:At [g] w w3:=a1.trans a5
  refine Bk (((1000002:Nat):Int)-b9) Z Z (CM sD sD) Aa<|Ac 1 Z<|A1<|AG<|Ao ?_
  exact Ah [2] Z (zI (((1000002:Nat):Int)-b9)) Z ⟨((1000002:Nat):Int)-b9,n3,rfl,ak,ai,⟨zO,zO⟩,(by first|omega|exact Ck _)⟩
 refine Al false Z Z (A6 a4) Aa<|Ac 1 Z<|Ai Z<|gK [0,0] Z ?_
 by_cases a7:ba=((1:Nat):Int)
 ·refine Al true Z Z (A5 a7) Aa<|Ac 1 Z<|Ag Z<|gK [0,4,0,0,4,0,0,0,4,0,0,0] Z<|Ad 1 Z<|AD 72 [] [] [zP g,zI ((256:Nat):Int)] Z Z I5 Aa (B8 _ g _ _ _ _ a0 oM oM sD) ?_
  rintro e5 w5 ⟨b6,n5,rfl,a8,al,b2,a9⟩
  refine⟨_,rfl,?_⟩
  have am:=a8.size
  have an:At [g] w w5:=a1.trans a8
  refine GE (b6*((65536:Nat):Int)) Z Z (CM sD sD) Aa<|Ad 1 Z ?_
  refine AD 72 [] [] [zP g,zI ((256:Nat):Int)] Z Z I5 Aa (B8 _ g _ _ _ _ al oM oM sD) ?_
  rintro e6 w6 ⟨b7,n6,rfl,aa,ao,b3,ab⟩
  refine⟨_,rfl,?_⟩
  have ap:=aa.size
  have aq:At [g] w w6:=an.trans aa
  refine GE (b7*((256:Nat):Int)) Z Z (CM sD sD) Aa ?_
  refine AQ ((b6*((65536:Nat):Int))+(b7*((256:Nat):Int))) Z Z (CM sD sD) Aa<|Ad 1 Z ?_
  refine AD 72 [] [] [zP g,zI ((256:Nat):Int)] Z Z I5 Aa (B8 _ g _ _ _ _ ao oM oM sD) ?_
  rintro e7 w7 ⟨b8,n7,rfl,ac,ar,b4,ad⟩
  refine⟨_,rfl,?_⟩
  have au:=ac.size
  have av:At [g] w w7:=aq.trans ac
  refine AQ (((b6*((65536:Nat):Int))+(b7*((256:Nat):Int)))+b8) Z Z (CM sD sD) Aa ?_
  exact Em (md (((b6*((65536:Nat):Int))+(b7*((256:Nat):Int)))+b8)) Z Z (by decide) (Int.tmod_eq_emod_of_nonneg oM) Aa<|Ac 1 Z<|A1<|AG<|Ao<|Ah [2] Z (zI<|md (((b6*((65536:Nat):Int))+(b7*((256:Nat):Int)))+b8)) Z ⟨md (((b6*((65536:Nat):Int))+(b7*((256:Nat):Int)))+b8),n7,rfl,av,ar,⟨zO,zO⟩,(by first|omega|exact Ck _)⟩
 refine Al false Z Z (A6 a7) Aa<|Ac 1 Z<|Ai Z<|A2<|gK [0,4,0] Z<|Ad 1 Z<|AD 72 [] [] [zP g,zI ((7:Nat):Int)] Z Z I5 Aa (B8 _ g _ _ _ _ a0 oM oM sD) ?_
 rintro e8 w8 ⟨bb,n8,rfl,ae,aw,b5,af⟩
 refine⟨_,rfl,?_⟩
 have ax:=ae.size
 have ay:At [g] w w8:=a1.trans ae
 exact Ac 1 Z<|A1<|Ah [2] Z (zI bb) Z ⟨bb,n8,rfl,ay,aw,⟨zO,zO⟩,(by first|omega|exact Ck _)⟩
theorem Gn (w:World)(g:Nat)(sv:Value)(cs:List UInt8)(n0:Nat)(k:Int)(hs:FG w.heap g sv cs n0)(ax:n0+(8*k.toNat)≤1000000000000)(_hk:Bn k)(hk:k≤1000) :
  Calls Tryz.prog 53 #[zP g,zI k] w (fun e w'=>∃(v0:Value) (x0:Sr) (n1:Nat),e=.returned (v0)∧At [g] w w'∧FG w'.heap g sv cs n1∧(n0≤n1∧n1≤n0+(8*k.toNat))∧Fr (Bp rI 2) w.heap.size w'.heap.size w'.heap v0 x0∧(x0.length=k.toNat∧AX x0=true)):=by
 refine Aq [zP g,zI k] 19 Tryz.func53 Z Z sM ?_
 have ac:At [g] w w:=At.refl [g] w
 have b2:=hs.lt
 refine gL Z<|gK [3,0] Z (Cn (rI) AJ Bt BG Aa fun v1 w1 a4 ak ad=>?_)
 have a7:=a4.size
 have ae:At [g] w w1:=ac.ext a4
 have a8:=hs.ext a4
 refine Ac 1 Z<|A0<|gL Z<|A3 ?_
 refine AU (S:=Nat×Value×Sr×Nat) (fun⟨j,vo,xs,m⟩=>([(5,vo),(6,zI (j:Int)),(0,zP g),(1,zI k)])) (fun⟨j,vo,xs,m⟩ W=>At [g] w W∧Fr (Bp rI 2) w.heap.size W.heap.size W.heap vo xs∧FG W.heap g sv cs m∧j≤k.toNat∧(n0≤m∧m≤n0+8*j)∧(xs.length=j∧AX xs=true)) (fun⟨j,vo,xs,m⟩=>k.toNat-j) (0,v1,[],n0) ⟨rfl,rfl,rfl,rfl,trivial⟩ ⟨ae,ad.up o1,a8,sD,oM,(by exact⟨rfl,rfl⟩)⟩ ?_
 clear ac ad ak a4 a7 ae
 rintro⟨j,vo,xs,m⟩ ρ2 w2 ⟨a9,a0,a1,af,hm,hxs⟩
 have al:w.heap.size≤w2.heap.size:=a9.size
 refine A0<|gK [0,0,0] Z<|Ad 2 Z ?_
 by_cases ag:(j:Int)<k
 ·refine AI true Z Z (A5 ag) Aa<|Aj<|Ag Z<|A2<|A0<|A3<|Ab _ [0,0,4,3,4,0] Z<|Ad 2 Z<|AD 111 [] [] [zP g] Z Z UE Aa (H3 _ g _ _ _ a1 oM) ?_
  rintro e4 w4 ⟨b1,n4,rfl,aa,am,ay,ah⟩
  refine⟨_,rfl,?_⟩
  have an:=aa.size
  have ao:At [g] w w4:=a9.trans aa
  have ap:=a0.chg (o1) aa fun b hb=>by have:b=g:=(by simpa using hb);omega
  refine BA (u:=zI b1) (B:=w4.heap.size) AJ Bt BG Z Z (Nb w4.heap.size w4.heap.size _ _ oM) (A7 _) Aa fun v6 w6 a5 az ai=>?_
  have aq:=a5.size
  have aj:At [g] w w6:=ao.ext a5
  have a2:=ap.ext (o1) a5
  have a3:=am.ext a5
  refine GP (v:=vo) (a:=v6) Bt BG Z Z Z a2 aj.size ai.rd1 sD (by unfold maxLen;first|omega|assumption|(simp;done)|(simp;omega)) Aa fun v7 w7 F7 a6 ab ar=>?_
  have au:At [g] w w7:=aj.fresh a6 (fun c hc=>A8 (A7 _) (ab c hc).1)
  have av:=a6.size
  have aw:=a3.chg a6 fun c hc=>zH<|ab c hc
  have b0:=ai.chg (o1) a6 fun c hc=>zH<|ab c hc
  refine Ac 1 Z<|Ab _ [0,0,0] Z<|Ad 1 Z<|AQ ((j+1:Nat):Int) Z Z (Bi oM oM) Aa<|Ac 1 Z ?_
  exact⟨(j+1,v7,xs++[b1],n4),_,rfl,zR,⟨au,ar.up o1,aw,sD,oM,(by exact⟨by rw[z4,hxs.1];rfl,by unfold AX at *;rw[List.all_append,hxs.2];simp only[List.all_cons,List.all_nil,Bool.and_true,Bool.true_and];exact CI.2 oM⟩)⟩,zD⟩
 exact AI false Z Z (A6 ag) Aa<|Aj<|Ai Z<|A4<|AA<|AA<|Av<|gK [0,0] Z<|Ac 2 Z<|A1<|Ah [4] Z vo Z ⟨vo,xs,m,rfl,a9,a1,⟨zO,zO⟩,a0.up o1,(by exact⟨zO,hxs.2⟩)⟩
theorem FL (w:World)(va:Value)(a:Sr)(y:Int)(ha:Rd (B4 rI) w.heap va a)(_hy:Bn y)(hla:a.length≤1000000000000) :
  Calls Tryz.prog 204 #[va,zI y] w (fun e w'=>∃v0:Value,e=.returned (v0)∧AH w w'∧Fr (Bp rI 2) w.heap.size w'.heap.size w'.heap v0 (scl a y)):=by
 refine Aq [va,zI y] 24 Tryz.func204 Z Z sM ?_
 have a8:AH w w:=AH.refl w
 have an:=ha.lenle
 refine gL Z<|gK [3,0] Z (Cn (rI) AJ Bt BG Aa fun v1 w1 a3 af a9=>?_)
 have a4:=a3.size
 have aa:=a8.trans a3
 refine Ac 1 Z<|A0<|gL Z<|A3 ?_
 refine AU (S:=Nat×Value) (fun⟨k,vo⟩=>([(5,vo),(6,zI (k:Int)),(0,va),(1,zI y)])) (fun⟨k,vo⟩ W=>AH w W∧Fr (Bp rI 2) w.heap.size W.heap.size W.heap vo ((a.take k).map fun x=>md (x*y))∧k≤a.length) (fun⟨k,vo⟩=>a.length-k) (0,v1) ⟨rfl,rfl,rfl,rfl,trivial⟩ ⟨aa,a9.up o1,sD⟩ ?_
 clear a8 a9 af a3 a4 aa
 rintro⟨k,vo⟩ ρ2 w2 ⟨a2,a1,ab⟩
 have ag:w.heap.size≤w2.heap.size:=a2.size
 refine A0<|gK [0,0,0,0] Z<|Ad 2 Z<|AR (v:=va) Bt Z ha.isSl Aa ?_
 by_cases ac:(k:Int)<(a.length:Int)
 ·refine AI true Z Z (A5 ac) Aa<|Aj<|Ag Z<|A2<|A0<|A3<|Ab _ [0,0,0,0,2,0,0,3,4,0] Z<|Ad 3 Z<|Aw (v:=va) k Bt BG Z Z ha.isSl Z sD Aa ?_
  refine Af (p:=Ay va k 1) (.inr Z) (zI<|a.getD k 0) AC Z (Bd a2 (ha.getI sD).1) Aa<|Ad 1 Z ?_
  refine AB 63 [] [] [zI<|a.getD k 0,zI y] Z Z Nj Aa (zI<|md ((a.getD k 0)*y)) (fun wq=>Cm wq _ _ (ha.getI sD).2 _hy) (BA (u:=zI<|md ((a.getD k 0)*y)) (B:=w2.heap.size) AJ Bt BG Z Z (Nb w2.heap.size w2.heap.size _ _<|Eo _) (A7 _) Aa fun v5 w5 a5 al ad=>?_)
  have ah:=a5.size
  have a6:=a2.trans a5
  have a0:=a1.ext (o1) a5
  refine GP (v:=vo) (a:=v5) Bt BG Z Z Z a0 a6.size ad.rd1 sD (by unfold maxLen;first|omega|assumption|(simp;done)|(simp;omega)) Aa fun v6 w6 F6 a7 ae ai=>?_
  have aj:AH w w6:=a7.below a6 (fun c hc=>A8 (A7 _) (ae c hc).1) a6.size
  have ak:=a7.size
  have am:=ad.chg (o1) a7 fun c hc=>zH<|ae c hc
  refine Ac 1 Z<|Ab _ [0,0,0] Z<|Ad 1 Z<|AQ ((k+1:Nat):Int) Z Z (Bi oM sD) Aa<|Ac 1 Z ?_
  exact⟨(k+1,v6),_,rfl,zR,⟨aj,(by rw[Hc 0 oM];exact ai.up o1),sD⟩,zD⟩
 exact AI false Z Z (A6 ac) Aa<|Aj<|Ai Z<|A4<|AA<|AA<|Av<|gK [0,0] Z<|Ac 2 Z<|A1<|Ah [4] Z vo Z ⟨vo,rfl,a2,(by have h:=a1.up o1;rwa [za oM]at h)⟩
theorem ZI (a:Option Addr)(n c:Nat)(w:World):(Instr.build 161 #[(0,.slice a n c)]).run Tryz.prog w=.ok (.agg #[.slice a n c,zI 0,.int .u64 0]) w:=by
  kernel_rfl
theorem dU {v:Value}{n:Nat}(h:FU v n)(w:World):(Instr.build 161 #[(0,v)]).run Tryz.prog w=.ok (.agg #[v,zI 0,.int .u64 0]) w:=by
  obtain⟨a,c,rfl,_⟩:=h
  exact ZI a n c w
theorem Gp (w:World)(vc:Value)(cs:List UInt8)(hcs:Rd (B4 rU) w.heap vc cs)  :
  Calls Tryz.prog 50 #[vc] w (fun e w'=>∃g:Nat,e=.returned (zP g)∧AH w w'∧FG w'.heap g vc cs 0∧w.heap.size≤g):=by
 refine Aq [vc] 6 Tryz.func50 Z Z sM ?_
 have a0:AH w w:=AH.refl w
 have a7:=hcs.lenle
 refine gL Z<|gK [0,0,3,0] Z<|Ad 1 Z<|BQ (ps:=#[(0,vc)]) (.agg #[vc,zI 0,.int .u64 0]) (by simp only[zc,zf,zh];rfl) (fun wq=>dU hcs.isSl wq) Aa (By Z Aa fun w1 a1 a6 a3=>?_)
 have a4:=a1.size
 have a2:=a0.trans a1
 have a5:=FG.new hcs a2 a3 a0.size
 exact Ac 1 Z<|A1<|Ah [2] Z (zP w.heap.size) Z ⟨w.heap.size,rfl,a2,a5,a0.size⟩
theorem Ds (w:World)(va:Value)(a:Sr)(y:Int)(ha:Rd (B4 rI) w.heap va a)(_hy:Bn y)(hla:a.length≤1000000000000)(hqa:AX a=true)(hy:0≤y∧y<1000003) :
  Calls Tryz.prog 174 #[va,zI y] w (fun e w'=>∃v0:Value,e=.returned (v0)∧AH w w'∧Fr (Bp rI 2) w.heap.size w'.heap.size w'.heap v0 (CL a y)):=by
 refine Aq [va,zI y] 27 Tryz.func174 Z Z sM ?_
 have a4:AH w w:=AH.refl w
 have ah:=ha.lenle
 refine gL Z<|gK [0,0,3,0] Z<|Ad 1 Z<|AR (v:=va) Bt Z ha.isSl Aa (Ga (n:=a.length) Bt BG Z Z Z sD Aa fun v1 w1 a2 aa a5=>?_)
 have a3:=a2.size
 have a6:=a4.trans a2
 refine Ac 1 Z<|A0<|gK [0,0,0] Z<|Ad 1 Z<|AR (v:=va) Bt Z ha.isSl Aa<|Ac 1 Z<|A3 ?_
 refine AU (S:=Nat) (fun k=>([(12,zI (k:Int)),(0,va),(1,zI y),(5,v1),(11,zI (a.length:Int))])) (fun k W=>AH w W∧Fr (Bp rI 2) w.heap.size W.heap.size W.heap v1 (Ia k (CL a y)<|List.replicate a.length 0)∧k≤a.length) (fun k=>a.length-k) 0 ⟨rfl,rfl,rfl,rfl,rfl,trivial⟩ ⟨a6,(by rw[Kc];exact a5.up o1),sD⟩ ?_
 clear a4 a5 aa a2 a3 a6
 rintro k ρ2 w2 ⟨a1,a0,a7⟩
 have ab:w.heap.size≤w2.heap.size:=a1.size
 have hml:=Kd k (CL a y) (List.replicate a.length 0) sM
 rw[z5]at hml
 have hga:=BW hqa k
 refine gK [0] Z ?_
 by_cases a8:(k:Int)<(a.length:Int)
 ·refine AI true Z Z (A5 a8) Aa<|Aj<|A0<|Ag Z<|A2<|A0<|A3<|gK [0,0] Z<|Ac 2 Z<|Ab _ [0,0,0,0,0,2,0,0,0,0,4] Z<|Ad 4 Z<|Aw (v:=va) k Bt BG Z Z ha.isSl Z sD Aa ?_
  refine Af (p:=Ay va k 1) (.inr Z) (zI<|a.getD k 0) AC Z (Bd a1 (ha.getI sD).1) Aa<|Ad 1 Z<|GE (wr ((a.getD k 0)*y)) Z Z Z Aa<|Em (md (a.getD k 0*y)) Z Z (by decide) (P8 hga hy) Aa ?_
  refine Aw (v:=v1) k Bt BG Z Z a0.isSl Z sD Aa (GQ (v:=v1) (w:=w2) HL Z Z (Eo _) a0 sD Aa fun w4 F4 a9 ag ac ad=>?_)
  have ae:AH w w4:=a9.below a1 (fun c hc=>A8 (A7 _) (ac c hc).1) a1.size
  have af:=a9.size
  refine Aj<|Ab _ [0,0] Z<|AQ ((k+1:Nat):Int) Z Z (Bi oM sD) Aa<|Ac 1 Z ?_
  exact⟨k+1,_,rfl,zR,⟨ae,(by unfold CL;rw[Oa sM oM];exact ad.up o1),sD⟩,zD⟩
 exact AI false Z Z (A6 a8) Aa<|Aj<|A0<|Ai Z<|A4<|AA<|AA<|Av<|gK [0,0] Z<|Ac 2 Z<|A1<|Ah [4] Z v1 Z ⟨v1,rfl,a1,(by have h:=a0.up o1;rwa [LK sM (by simp;omega)]at h)⟩
theorem EF (w:World)(va:Value)(a:Sr)(vb:Value)(b:Sr)(ha:Rd (B4 rI) w.heap va a)(hb:Rd (B4 rI) w.heap vb b)(hla:a.length≤1000000000000)(hl:a.length≤b.length)(hqa:AX a=true)(hqb:AX b=true) :
  Calls Tryz.prog 123 #[va,vb] w (fun e w'=>∃v0:Value,e=.returned (v0)∧AH w w'∧Fr (Bp rI 2) w.heap.size w'.heap.size w'.heap v0 (Cq a b)):=by
 refine Aq [va,vb] 30 Tryz.func123 Z Z sM ?_
 have a5:AH w w:=AH.refl w
 have ah:=ha.lenle
 have ai:=hb.lenle
 refine gL Z<|gK [0,0,3,0] Z<|Ad 1 Z<|AR (v:=va) Bt Z ha.isSl Aa (Ga (n:=a.length) Bt BG Z Z Z sD Aa fun v1 w1 a3 aa a6=>?_)
 have a4:=a3.size
 have a7:=a5.trans a3
 refine Ac 1 Z<|A0<|gK [0,0,0] Z<|Ad 1 Z<|AR (v:=va) Bt Z ha.isSl Aa<|Ac 1 Z<|A3 ?_
 refine AU (S:=Nat) (fun k=>([(12,zI (k:Int)),(0,va),(1,vb),(5,v1),(11,zI (a.length:Int))])) (fun k W=>AH w W∧Fr (Bp rI 2) w.heap.size W.heap.size W.heap v1 (Ia k (Cq a b)<|List.replicate a.length 0)∧k≤a.length) (fun k=>a.length-k) 0 ⟨rfl,rfl,rfl,rfl,rfl,trivial⟩ ⟨a7,(by rw[Kc];exact a6.up o1),sD⟩ ?_
 clear a5 a6 aa a3 a4 a7
 rintro k ρ2 w2 ⟨a1,a0,a8⟩
 have ab:w.heap.size≤w2.heap.size:=a1.size
 have hml:=Kd k (Cq a b) (List.replicate a.length 0) sM
 rw[z5]at hml
 have hga:=BW hqa k
 have hgb:=BW hqb k
 refine gK [0] Z ?_
 by_cases a9:(k:Int)<(a.length:Int)
 ·refine AI true Z Z (A5 a9) Aa<|Aj<|A0<|Ag Z<|A2<|A0<|A3<|gK [0,0] Z<|Ac 2 Z<|AM _ [0,0,0,0,0,1,0,0,0,1,0,0,0,4] mixed (by kernel_rfl)<|Ad 4 Z<|Aw (v:=va) k Bt BG Z Z ha.isSl Z sD Aa ?_
  refine Af (p:=Ay va k 1) (.inl Z) (zI<|a.getD k 0) AC Z (Bd a1.drew (ha.getI sD).1) Aa<|Ad 2 Z ?_
  refine Aw (v:=vb) k Bt BG Z Z hb.isSl Z sD Aa ?_
  refine Af (p:=Ay vb k 1) (.inl Z) (zI<|b.getD k 0) AC Z (Bd a1.drew (hb.getI sD).1) Aa<|AQ (wr ((a.getD k 0)+(b.getD k 0))) Z Z Z Aa<|Em (md (a.getD k 0+b.getD k 0)) Z Z (by decide) (VE hga hgb) Aa ?_
  refine Aw (v:=v1) k Bt BG Z Z a0.isSl Z sD Aa (GQ (v:=v1) (w:=w2.drew) HL Z Z (Eo _) a0 sD Aa fun w4 F4 a2 ag ac ad=>?_)
  replace a2:=a2.of_drew
  have ae:AH w w4:=a2.below a1 (fun c hc=>A8 (A7 _) (ac c hc).1) a1.size
  have af:=a2.size
  refine Aj<|Ab _ [0,0] Z<|AQ ((k+1:Nat):Int) Z Z (Bi oM sD) Aa<|Ac 1 Z ?_
  exact⟨k+1,_,rfl,zR,⟨ae,(by unfold Cq;rw[Oa sM oM];exact ad.up o1),sD⟩,zD⟩
 exact AI false Z Z (A6 a9) Aa<|Aj<|A0<|Ai Z<|A4<|AA<|AA<|Av<|gK [0,0] Z<|Ac 2 Z<|A1<|Ah [4] Z v1 Z ⟨v1,rfl,a1,(by have h:=a0.up o1;rwa [LK sM (by simp;omega)]at h)⟩
theorem Iu (w:World)(va:Value)(a:Sr)(vb:Value)(b:Sr)(ha:Rd (B4 rI) w.heap va a)(hb:Rd (B4 rI) w.heap vb b)(hla:a.length≤1000000000000)(hlb:b.length≤1000000000000)(hl:a.length≤b.length)(hqa:AX a=true)(hqb:AX b=true) :
  Calls Tryz.prog 172 #[va,vb] w (fun e w'=>∃v0:Value,e=.returned (v0)∧AH w w'∧Fr (Bp rI 2) w.heap.size w'.heap.size w'.heap v0 (EK a b)):=by
 refine Aq [va,vb] 9 Tryz.func172 Z Z sM ?_
 have a7:AH w w:=AH.refl w
 have ab:=ha.lenle
 have ac:=hb.lenle
 refine gL Z<|gK [0,0,3,3,0] Z<|Ad 2 Z<|Ap 174 [] [] [vb,zI ((1000002:Nat):Int)] Z Z NZ Aa (Ds _ _ _ _ (hb.ext g1 a7) oM hlb hqb oM) ?_
 rintro e1 w1 ⟨a3,rfl,a4,a0⟩
 refine⟨_,rfl,a4,?_⟩
 have a8:=a4.size
 have a5:=a7.trans a4
 refine Ap 123 [] [] [va,a3] Z Z PF Aa (EF _ _ _ _ _ (ha.ext g1 a5) a0.rd1 hla (by simp;omega) hqa (by exact Fy _ _)) ?_
 rintro e2 w2 ⟨a1,rfl,a6,a2⟩
 refine⟨_,rfl,a6,?_⟩
 have a9:=a6.size
 have aa:=a5.trans a6
 exact Ac 1 Z<|A1<|Ah [4] Z a1 Z ⟨a1,rfl,aa,(by rw[← Q3 hl];exact(a2.up o1).low a5.size)⟩
theorem DL (w:World)(va:Value)(a:Sr)(vb:Value)(b:Sr)(ha:Rd (B4 rI) w.heap va a)(hb:Rd (B4 rI) w.heap vb b)(hla:a.length≤1000000000000)(hl:a.length≤b.length)(hqa:AX a=true)(hqb:AX b=true) :
  Calls Tryz.prog 173 #[va,vb] w (fun e w'=>∃v0:Value,e=.returned (v0)∧AH w w'∧Fr (Bp rI 2) w.heap.size w'.heap.size w'.heap v0 (Ce a b)):=by
 refine Aq [va,vb] 43 Tryz.func173 Z Z sM ?_
 have a8:AH w w:=AH.refl w
 have am:=ha.lenle
 have an:=hb.lenle
 refine gL Z<|gK [0,0,3,0] Z<|Ad 1 Z<|AR (v:=va) Bt Z ha.isSl Aa (Ga (n:=a.length) Bt BG Z Z Z sD Aa fun v1 w1 a5 af a9=>?_)
 have a6:=a5.size
 have aa:=a8.trans a5
 refine Ac 1 Z<|A0<|gK [0,0,0] Z<|Ad 1 Z<|AR (v:=va) Bt Z ha.isSl Aa<|Ac 1 Z<|A3 ?_
 refine AU (S:=Nat) (fun k=>([(13,zI (k:Int)),(0,va),(1,vb),(5,v1),(12,zI (a.length:Int))])) (fun k W=>AH w W∧Fr (Bp rI 2) w.heap.size W.heap.size W.heap v1 (Ia k (Ce a b)<|List.replicate a.length 0)∧k≤a.length) (fun k=>a.length-k) 0 ⟨rfl,rfl,rfl,rfl,rfl,trivial⟩ ⟨aa,(by rw[Kc];exact a9.up o1),sD⟩ ?_
 clear a8 a9 af a5 a6 aa
 rintro k ρ2 w2 ⟨a3,a1,ab⟩
 have a7:w.heap.size≤w2.heap.size:=a3.size
 have hml:=Kd k (Ce a b) (List.replicate a.length 0) sM
 rw[z5]at hml
 have hga:=BW hqa k
 refine gK [0] Z ?_
 by_cases ac:(k:Int)<(a.length:Int)
 ·refine AI true Z Z (A5 ac) Aa<|Aj<|A0<|Ag Z<|A2<|A0<|A3<|gK [0,0] Z<|Ac 2 Z<|gL Z<|A3 ?_
  refine AU (S:=Nat) (fun i=>([(7,zI (i:Int)),(0,va),(1,vb),(5,v1),(6,zI (k:Int)),(12,zI (a.length:Int)),(13,zI (k:Int))])) (fun i W=>AH w W∧Fr (Bp rI 2) w.heap.size W.heap.size W.heap v1 ((Ia k (Ce a b)<|List.replicate a.length 0).set k<|ND a b k i)∧i≤k+1) (fun i=>k+1-i) 0 ⟨rfl,rfl,rfl,rfl,rfl,rfl,rfl,trivial⟩ ⟨a3,(by have h:=a1.up o1;rw[← Tj (T:=Ce a b) sM oM]at h;exact h),sD⟩ ?_
  clear a1 a3 a7
  rintro i ρ4 w4 ⟨a2,a0,ad⟩
  have ag:w.heap.size≤w4.heap.size:=a2.size
  have hms:((Ia k (Ce a b) (List.replicate a.length 0)).set k (ND a b k i)).length=a.length:=by rw[z6];exact hml
  refine A0<|gK [0,0,0] Z<|Ad 2 Z ?_
  by_cases ae:(i:Int)≤(k:Int)
  ·refine En true Z Z (A5 ae) Aa<|Aj<|Ag Z<|A2<|A0<|A3<|AM _ [0,0,0,0,0,1,0,0,0,1,0,0,0,0,0,1,0,0,0,0,4] mixed (by kernel_rfl)<|Ad 4 Z<|Aw (v:=v1) k Bt BG Z Z a0.isSl Z sD Aa ?_
   refine Af (p:=Ay v1 k 1) (.inl Z) (zI<|((Ia k (Ce a b)<|List.replicate a.length 0).set k<|ND a b k i).getD k 0) AC Z (a0.rd1.getI sD).1 Aa (Ad 2 Z ?_)
   refine Aw (v:=va) i Bt BG Z Z ha.isSl Z sD Aa ?_
   refine Af (p:=Ay va i 1) (.inl Z) (zI<|a.getD i 0) AC Z (Bd a2.drew (ha.getI sD).1) Aa<|Ad 3 Z<|Bk ((k-i:Nat):Int) Z Z (Bi oM oM) Aa ?_
   refine Aw (v:=vb) (k-i) Bt BG Z Z hb.isSl Z sD Aa ?_
   refine Af (p:=Ay vb (k-i) 1) (.inl Z) (zI<|b.getD (k-i) 0) AC Z (Bd a2.drew (hb.getI sD).1) Aa<|GE (wr ((a.getD i 0)*(b.getD (k-i) 0))) Z Z Z Aa<|AQ (wr ((((Ia k (Ce a b)<|List.replicate a.length 0).set k<|ND a b k i).getD k 0)+(wr ((a.getD i 0)*(b.getD (k-i) 0))))) Z Z Z Aa ?_
   refine Em (md (ND a b k i+a.getD i 0*b.getD (k-i) 0)) Z Z (by decide) (by rw[DW _ _ _ _ _ oM,if_pos rfl];exact Z2 (QV _ _ _ _) (BW hqa _) (BW hqb _)) Aa<|Aw (v:=v1) k Bt BG Z Z a0.isSl Z sD Aa ?_
   refine GQ (v:=v1) (w:=w4.drew) HL Z Z (Eo _) a0 sD Aa fun w6 F6 a4 al ah ai=>?_
   replace a4:=a4.of_drew
   have aj:AH w w6:=a4.below a2 (fun c hc=>A8 (A7 _) (ah c hc).1) a2.size
   have ak:=a4.size
   refine Aj<|Ab _ [0,0,0] Z<|Ad 1 Z<|AQ ((i+1:Nat):Int) Z Z (Bi oM sD) Aa<|Ac 1 Z ?_
   exact⟨i+1,_,rfl,zR,⟨aj,(by have h:=ai.up o1;rw[List.set_set]at h;exact h),sD⟩,zD⟩
  refine En false Z Z (A6 ae) Aa<|Aj<|Ai Z<|A4<|AA<|AA<|Av<|Ab _ [0,0] Z<|AQ ((k+1:Nat):Int) Z Z (Bi oM sD) Aa<|Ac 1 Z ?_
  exact⟨k+1,_,rfl,zR,⟨a2,(by have h:=a0.up o1;rw[show i=k+1 from by omega]at h;unfold Ce;rw[Oa sM oM];exact h),sD⟩,zD⟩
 exact AI false Z Z (A6 ac) Aa<|Aj<|A0<|Ai Z<|A4<|AA<|AA<|Av<|gK [0,0] Z<|Ac 2 Z<|A1<|Ah [4] Z v1 Z ⟨v1,rfl,a3,(by have h:=a1.up o1;rwa [LK sM (by simp;omega)]at h)⟩
theorem FM (w:World)(va:Value)(a:Sr)(vb:Value)(b:Sr)(ha:Rd (B4 rI) w.heap va a)(hb:Rd (B4 rI) w.heap vb b)(hla:a.length≤1000000000000)(hl:a.length≤b.length)(h1:0<b.length)(hqa:AX a=true)(hqb:AX b=true) :
  Calls Tryz.prog 175 #[va,vb] w (fun e w'=>∃v0:Value,e=.returned (v0)∧AH w w'∧Fr (Bp rI 2) w.heap.size w'.heap.size w'.heap v0 (BT a b)):=by
 refine Aq [va,vb] 53 Tryz.func175 Z Z sM ?_
 have a5:AH w w:=AH.refl w
 have am:=ha.lenle
 have an:=hb.lenle
 refine gL Z<|A0<|AM _ [0,0,3,0,0,1,0,0,0] mixed (by kernel_rfl)<|Ad 1 Z<|AR (v:=va) Bt Z ha.isSl Aa (Ga (n:=a.length) Bt BG Z Z Z sD Aa fun v1 w1 a2 ae a7=>?_)
 replace a2:=a2.of_drew
 have a6:=a2.size
 have a8:=a5.trans a2
 refine Ad 1 Z<|Aw (v:=vb) 0 Bt BG Z Z hb.isSl Z sD Aa ?_
 refine Af (p:=Ay vb 0 1) (.inl Z) (zI<|b.getD 0 0) AC Z (Bd a5.drew (hb.getI sD).1) Aa ?_
 refine AB 212 [] [] [zI<|b.getD 0 0] Z Z Ys Aa (zI<|inv<|b.getD 0 0) (fun wq=>It wq _ (hb.getI sD).2)<|Ac 2 Z<|A0<|gK [0,0,0] Z<|Ad 1 Z<|AR (v:=va) Bt Z ha.isSl Aa<|Ac 1 Z<|A3 ?_
 refine AU (S:=Nat) (fun k=>([(19,zI (k:Int)),(0,va),(1,vb),(5,v1),(6,zI<|inv<|b.getD 0 0),(18,zI (a.length:Int))])) (fun k W=>AH w W∧Fr (Bp rI 2) w.heap.size W.heap.size W.heap v1 (Ia k (BT a b)<|List.replicate a.length 0)∧k≤a.length) (fun k=>a.length-k) 0 ⟨rfl,rfl,rfl,rfl,rfl,rfl,trivial⟩ ⟨a8,(by rw[Kc];exact a7.up o1),sD⟩ ?_
 clear a5 a7 ae a2 a6 a8
 rintro k ρ3 w3 ⟨a4,a1,a9⟩
 have af:w.heap.size≤w3.heap.size:=a4.size
 have hml:=Kd k (BT a b) (List.replicate a.length 0) sM
 rw[z5]at hml
 have hga:=BW hqa k
 refine gK [0] Z ?_
 by_cases aa:(k:Int)<(a.length:Int)
 ·refine AI true Z Z (A5 aa) Aa<|Aj<|A0<|Ag Z<|A2<|A0<|A3<|gK [0,0] Z<|Ac 2 Z<|gK [0,0,0,2,0] Z<|Ad 2 Z<|Aw (v:=va) k Bt BG Z Z ha.isSl Z sD Aa ?_
  refine Af (p:=Ay va k 1) (.inr Z) (zI<|a.getD k 0) AC Z (Bd a4 (ha.getI sD).1) Aa<|Ac 1 Z<|A0<|gL Z<|A3 ?_
  refine AU (S:=Nat×Int) (fun⟨i,t⟩=>([(8,zI t),(9,zI (i:Int)),(0,va),(1,vb),(5,v1),(6,zI<|inv<|b.getD 0 0),(7,zI (k:Int)),(18,zI (a.length:Int)),(19,zI (k:Int))])) (fun⟨i,t⟩ W=>AH w W∧Fr (Bp rI 2) w.heap.size w3.heap.size W.heap v1 (Ia k (BT a b)<|List.replicate a.length 0)∧i≤k∧t=OT a b (BT a b) k i∧(0≤t∧t<1000003)) (fun⟨i,t⟩=>k-i) (0,a.getD k 0) ⟨rfl,rfl,rfl,rfl,rfl,rfl,rfl,rfl,rfl,trivial⟩ ⟨a4,a1,sD,(by rfl),(by exact BW hqa k)⟩ ?_
  clear a1
  rintro⟨i,t⟩ ρ5 w5 ⟨a3,a0,ab,ht,htr⟩
  have ag:w.heap.size≤w5.heap.size:=a3.size
  refine A0<|gK [0,0,0] Z<|Ad 2 Z ?_
  by_cases ac:(i:Int)<(k:Int)
  ·refine AI true Z Z (A5 ac) Aa<|Aj<|Ag Z<|A2<|A0<|A3<|AM _ [0,0,0,0,1,0,0,0,0,0,1,0,0,0] mixed (by kernel_rfl)<|Ad 3 Z<|Aw (v:=v1) i Bt BG Z Z a0.isSl Z sD Aa ?_
   refine Af (p:=Ay v1 i 1) (.inl Z) (zI<|(Ia k (BT a b)<|List.replicate a.length 0).getD i 0) AC Z (a0.rd1.getI sD).1 Aa (Ad 3 Z<|Bk ((k-i:Nat):Int) Z Z (Bi oM oM) Aa ?_)
   refine Aw (v:=vb) (k-i) Bt BG Z Z hb.isSl Z sD Aa ?_
   refine Af (p:=Ay vb (k-i) 1) (.inl Z) (zI<|b.getD (k-i) 0) AC Z (Bd a3.drew (hb.getI sD).1) Aa<|GE (wr (((Ia k (BT a b)<|List.replicate a.length 0).getD i 0)*(b.getD (k-i) 0))) Z Z Z Aa ?_
   refine AB 213 [] [] [zI t,zI<|wr (((Ia k (BT a b)<|List.replicate a.length 0).getD i 0)*(b.getD (k-i) 0))] Z Z UO Aa (zI<|md (t-(wr (((Ia k (BT a b)<|List.replicate a.length 0).getD i 0)*(b.getD (k-i) 0))))) (fun wq=>HQ wq _ _ oM<|O4 _)<|Ac 1 Z<|Ab _ [0,0,0] Z<|Ad 1 Z<|AQ ((i+1:Nat):Int) Z Z (Bi oM sD) Aa<|Ac 1 Z ?_
   exact⟨(i+1,md (t-(wr (((Ia k (BT a b) (List.replicate a.length 0)).getD i 0)*(b.getD (k-i) 0))))),_,rfl,zR,⟨a3.drew,a0,sD,(by rw[ht,Z1 0 oM (by simp;omega)];exact Tl (Fw a b) hqb),(by exact Ck _)⟩,zD⟩
  refine AI false Z Z (A6 ac) Aa<|Aj<|Ai Z<|A4<|AA<|AA<|Av<|Ab _ [0,0,0,0,0,0,0,4] Z<|Ad 4 Z<|GE (wr (t*(inv<|b.getD 0 0))) Z Z Z Aa<|Em (md (t*inv (b.getD 0 0))) Z Z (by decide) (P8 htr<|Vx _) Aa<|Aw (v:=v1) k Bt BG Z Z a0.isSl Z sD Aa ?_
  refine GQ (v:=v1) (w:=w5) HL Z Z (Eo _) a0 sD Aa fun w8 F8 ad al ah ai=>?_
  have aj:AH w w8:=ad.below a3 (fun c hc=>A8 (A7 _) (ah c hc).1) a3.size
  have ak:=ad.size
  refine Aj<|Ab _ [0,0] Z<|AQ ((k+1:Nat):Int) Z Z (Bi oM sD) Aa<|Ac 1 Z ?_
  exact⟨k+1,_,rfl,zR,⟨aj,(by have h:=ai.up o1;rw[ht,show i=k from by omega]at h;rw[← VD oM sM];exact h),sD⟩,zD⟩
 exact AI false Z Z (A6 aa) Aa<|Aj<|A0<|Ai Z<|A4<|AA<|AA<|Av<|gK [0,0] Z<|Ac 2 Z<|A1<|Ah [4] Z v1 Z ⟨v1,rfl,a4,(by have h:=a1.up o1;rwa [LK sM (by simp;omega)]at h)⟩
theorem MP (w:World)(va:Value)(a:Sr)(ha:Rd (B4 rI) w.heap va a)(hla:a.length≤1000000000000) :
  Calls Tryz.prog 130 #[va] w (fun e w'=>∃v0:Value,e=.returned (v0)∧AH w w'∧Fr (Bp (Bp rI 2) 27) w.heap.size w'.heap.size w'.heap v0 (Cw a)):=by
 refine Aq [va] 20 Tryz.func130 Z Z sM ?_
 have a9:AH w w:=AH.refl w
 have au:=ha.lenle
 refine gL Z<|gK [3,0] Z (Cn (Bp rI 2) o1 Bx AT Aa fun v1 w1 a4 af aa=>?_)
 have a5:=a4.size
 have ab:=a9.trans a4
 refine Ac 1 Z<|A0<|gK [0,0,0] Z<|Ad 1 Z<|AR (v:=va) Bt Z ha.isSl Aa<|Ac 1 Z<|A3 ?_
 refine AU (S:=Nat×Value) (fun⟨k,vo⟩=>([(3,vo),(9,zI (k:Int)),(7,va),(8,zI (a.length:Int))])) (fun⟨k,vo⟩ W=>AH w W∧Fr (Bp (Bp rI 2) 27) w.heap.size W.heap.size W.heap vo ((a.take k).map fun x=>[x])∧k≤a.length) (fun⟨k,vo⟩=>a.length-k) (0,v1) ⟨rfl,rfl,rfl,rfl,trivial⟩ ⟨ab,aa.up o2,sD⟩ ?_
 clear a9 aa af a4 a5 ab
 rintro⟨k,vo⟩ ρ2 w2 ⟨a3,a2,ac⟩
 have ag:w.heap.size≤w2.heap.size:=a3.size
 refine gK [0] Z ?_
 by_cases ad:(k:Int)<(a.length:Int)
 ·refine AI true Z Z (A5 ad) Aa<|Aj<|A0<|Ag Z<|A2<|A0<|A3<|gK [0,2,0] Z<|Aw (v:=va) k Bt BG Z Z ha.isSl Z sD Aa ?_
  refine Af (p:=Ay va k 1) (.inr Z) (zI<|a.getD k 0) AC Z (Bd a3 (ha.getI sD).1) Aa<|Ac 1 Z<|Ab _ [0,0,3,3,4,0] Z<|Ad 2 Z ?_
  refine BA (u:=zI<|a.getD k 0) (B:=w2.heap.size) AJ Bt BG Z Z (Nb w2.heap.size w2.heap.size _ _ (ha.getI sD).2) (A7 _) Aa fun v4 w4 a6 aq ah=>?_
  have ai:=a6.size
  have aj:=a3.trans a6
  have a0:=a2.ext (o2) a6
  refine BA (u:=v4) (B:=w2.heap.size) o1 Bx AT Z Z ah (by first|exact A7 _|omega) Aa fun v5 w5 a7 ar ak=>?_
  have al:=a7.size
  have a8:=aj.trans a7
  have a1:=a0.ext (o2) a7
  refine Gb o1 (v:=vo) (a:=v5) Bx AT Z Z Z a1 a8.size ak oM a3.size sD (by unfold maxLen;first|omega|assumption|(simp;done)|(simp;omega)) Aa fun v6 w6 F6 ae am an=>?_
  have ao:AH w w6:=ae.below a8 (fun c hc=>A8 (A7 _) (am c hc).1) a8.size
  have ap:=ae.size
  refine Ac 1 Z<|Ab _ [0,0] Z<|AQ ((k+1:Nat):Int) Z Z (Bi oM sD) Aa<|Ac 1 Z ?_
  exact⟨(k+1,v6),_,rfl,zR,⟨ao,(by rw[Hc 0 oM];exact an.up o2),sD⟩,zD⟩
 exact AI false Z Z (A6 ad) Aa<|Aj<|A0<|Ai Z<|A4<|AA<|AA<|Av<|gK [0,0] Z<|Ac 2 Z<|A1<|Ah [2] Z vo Z ⟨vo,rfl,a3,(by have h:=a2.up o2;rwa [za oM]at h)⟩
theorem H4 (w:World)(va:Value)(a:List (Sr))(ha:Rd (B4 (B4 rI)) w.heap va a)(hla:a.length≤1000000000000)(h1:∀k,k<a.length→0<(a.getD k []).length) :
  Calls Tryz.prog 61 #[va] w (fun e w'=>∃v0:Value,e=.returned (v0)∧AH w w'∧Fr (Bp rI 2) w.heap.size w'.heap.size w'.heap v0 (a.map (fun s=>s.getD 0 0))):=by
 refine Aq [va] 21 Tryz.func61 Z Z sM ?_
 have aa:AH w w:=AH.refl w
 have au:=ha.lenle
 refine gL Z<|gK [3,0] Z (Cn (rI) AJ Bt BG Aa fun v1 w1 a4 ah ab=>?_)
 have a5:=a4.size
 have ac:=aa.trans a4
 refine Ac 1 Z<|A0<|gK [0,0,0] Z<|Ad 1 Z<|AR (v:=va) Bx Z ha.isSl Aa<|Ac 1 Z<|A3 ?_
 refine AU (S:=Nat×Value) (fun⟨k,vo⟩=>([(3,vo),(9,zI (k:Int)),(7,va),(8,zI (a.length:Int))])) (fun⟨k,vo⟩ W=>AH w W∧Fr (Bp rI 2) w.heap.size W.heap.size W.heap vo ((a.take k).map fun s=>s.getD 0 0)∧k≤a.length) (fun⟨k,vo⟩=>a.length-k) (0,v1) ⟨rfl,rfl,rfl,rfl,trivial⟩ ⟨ac,ab.up o1,sD⟩ ?_
 clear aa ab ah a4 a5 ac
 rintro⟨k,vo⟩ ρ2 w2 ⟨a2,a1,ad⟩
 have ai:w.heap.size≤w2.heap.size:=a2.size
 refine gK [0] Z ?_
 by_cases ae:(k:Int)<(a.length:Int)
 ·refine AI true Z Z (A5 ae) Aa<|Aj<|A0<|Ag Z<|A2<|A0<|A3<|gK [0,2,0] Z<|Aw (v:=va) k Bx AT Z Z ha.isSl Z sD Aa ?_
  obtain⟨a6,aj,a3⟩:=ha.get (k:=k) [] sD
  have ak:=a3.lenle
  refine Af (p:=Ay va k 1) (.inr Z) a6 B6 Z (Bd a2 aj) Aa<|Ac 1 Z<|Ab _ [0,0,0,2,3,4,0] Z ?_
  have ap:=h1 k oM
  refine Ad 2 Z<|Aw (v:=a6) 0 Bt BG Z Z a3.isSl Z sD Aa ?_
  refine Af (p:=Ay a6 0 1) (.inr Z) (zI<|(a.getD k []).getD 0 0) AC Z (Bd a2 (a3.getI sD).1) Aa ?_
  refine BA (u:=zI<|(a.getD k []).getD 0 0) (B:=w2.heap.size) AJ Bt BG Z Z (Nb w2.heap.size w2.heap.size _ _ (a3.getI sD).2) (A7 _) Aa fun v5 w5 a7 aq af=>?_
  have al:=a7.size
  have a8:=a2.trans a7
  have a0:=a1.ext (o1) a7
  refine GP (v:=vo) (a:=v5) Bt BG Z Z Z a0 a8.size af.rd1 sD (by unfold maxLen;first|omega|assumption|(simp;done)|(simp;omega)) Aa fun v6 w6 F6 a9 ag am=>?_
  have an:AH w w6:=a9.below a8 (fun c hc=>A8 (A7 _) (ag c hc).1) a8.size
  have ao:=a9.size
  have ar:=af.chg (o1) a9 fun c hc=>zH<|ag c hc
  refine Ac 1 Z<|Ab _ [0,0] Z<|AQ ((k+1:Nat):Int) Z Z (Bi oM sD) Aa<|Ac 1 Z ?_
  exact⟨(k+1,v6),_,rfl,zR,⟨an,(by rw[Hc [] oM];exact am.up o1),sD⟩,zD⟩
 exact AI false Z Z (A6 ae) Aa<|Aj<|A0<|Ai Z<|A4<|AA<|AA<|Av<|gK [0,0] Z<|Ac 2 Z<|A1<|Ah [2] Z vo Z ⟨vo,rfl,a2,(by have h:=a1.up o1;rwa [za oM]at h)⟩
def PV (F d:Nat):Prop:=∀(w:World) (S:List Nat) (g:Nat) (vp:Value) (dp o s0:Nat) (c0:Int) (p:List Fn) (ve:Value) (ex:Ex) (vv:Value) (env:List (List Int)) (hS:∀b∈S,b<w.heap.size) (hgS:g∈S) (hB0:BX w.heap g [vp,.int .i64 ((o:Nat):Int),.int .i64 ((s0:Nat):Int),.int .i64 c0]) (hp:RP S dp w.heap vp p) (ho:o≤12) (hs0:s0≤3000) (hc0:0≤c0∧c0≤9) (hex:RX S d w.heap ve ex) (henv:RN S (B4 (B4 rI)) w.heap vv env) (hqenv:C3 vv)
  (hvp:FQ p) (hF:F≤p.length) (hwf:wf p ((F:Nat):Int) ex ((env.length:Nat):Int)=true) (hse:BZ (o+1) env) (hdp:env.length+ex.deep≤1000000),
  Calls Tryz.prog 234 #[.pointer (some ⟨g,0,none⟩),.agg #[.int .i64 ex.kind,.int .i64 ex.num,.int .i64 ex.pick,.int .i64 ex.count,ve],vv] w (fun e w'=>∃(v:Value) (x:List Int) (s1:Nat) (c1:Int),e=.returned v∧At [g] w w'∧BX w'.heap g [vp,.int .i64 ((o:Nat):Int),.int .i64 ((s1:Nat):Int),.int .i64 c1]∧RN S (B4 rI) w'.heap v x∧Cv (o+1) x∧s1≤3000∧(0≤c1∧c1≤9)∧AL (go c0 (CJ (o+1) (EO p (o+1) F) ex env s0)) x s1 c1)
def PA (F d:Nat):Prop:=∀(w:World) (S:List Nat) (g:Nat) (vp:Value) (dp o s0:Nat) (c0:Int) (p:List Fn) (vl:Value) (l:List Ex) (vv:Value) (env:List (List Int)) (hS:∀b∈S,b<w.heap.size) (hgS:g∈S) (hB0:BX w.heap g [vp,.int .i64 ((o:Nat):Int),.int .i64 ((s0:Nat):Int),.int .i64 c0]) (hp:RP S dp w.heap vp p) (ho:o≤12) (hs0:s0≤3000) (hc0:0≤c0∧c0≤9) (hl:RN S (D5 5 (LH d)) w.heap vl l) (henv:RN S (B4 (B4 rI)) w.heap vv env) (hqenv:C3 vv)
  (hvp:FQ p) (hF:F≤p.length) (hwf:∀k,k<l.length→wf p ((F:Nat):Int) (l.getD k Ex.zero) ((env.length:Nat):Int)=true) (hse:BZ (o+1) env) (hdp:∀k,k<l.length→env.length+(l.getD k Ex.zero).deep≤1000000) (hll:l.length≤1000000),
  Calls Tryz.prog 201 #[.pointer (some ⟨g,0,none⟩),vl,vv] w (fun e w'=>∃(v:Value) (x:List (List Int)) (s1:Nat) (c1:Int),e=.returned v∧At [g] w w'∧BX w'.heap g [vp,.int .i64 ((o:Nat):Int),.int .i64 ((s1:Nat):Int),.int .i64 c1]∧RN S (B4 (B4 rI)) w'.heap v x∧(C3 v∧x.length=l.length∧BZ (o+1) x)∧s1≤3000∧(0≤c1∧c1≤9)∧AL (go c0 (DC (o+1) (EO p (o+1) F) l env s0)) x s1 c1)
theorem EG (w:World)(v:Value)(n:Nat)(hs:FU v n)(hcs:C3 v)  :
  Calls Tryz.prog 253 #[v] w (fun e w'=>e=.returned (Eg v)∧w'=w):=by
 refine Aq [v] 9 Tryz.func253 Z Z sM ?_
 have a0:w=w:=rfl
 exact gL Z<|gK [0,0,0,0,0,0,0] Z<|Ad 2 Z<|AR (v:=v) Bx Z hs Aa<|Ad 1 Z<|AR (v:=v) Bx Z hs Aa<|SX (v:=v) Bx AT Z hs Z Z hcs Aa<|Ac 1 Z<|A1<|Ah [2] Z (Eg v) Z ⟨rfl,a0⟩
theorem BM (w:World)(S:List Nat)(g:Nat)(vp:Value)(dp o s0:Nat)(c0:Int)(p:List Fn)(n:Int)(hS:∀b∈S,b<w.heap.size)(hgS:g∈S)(hB0:BX w.heap g [vp,zI (o:Int),zI (s0:Int),zI c0])(hp:RP S dp w.heap vp p)(ho:o≤12)(hs0:s0≤3000)(hc0:0≤c0∧c0≤9)(_hn:Bn n)  :
  Calls Tryz.prog 252 #[zP g,zI n] w (fun e w'=>∃v0:Value,e=.returned (v0)∧AH w w'∧Fr (Bp rI 2) w.heap.size w'.heap.size w'.heap v0 (cst (o+1) n)):=by
 refine Aq [zP g,zI n] 16 Tryz.func252 Z Z sM ?_
 have a6:AH w w:=AH.refl w
 have a0:=hp.lenle
 unfold maxLen at a0
 have ad:=hB0.lt
 refine gL Z<|gK [0,0,0,2,0,3,0] Z<|Ad 1 Z<|AV Z Aa<|Ak (p:=zP g) 1 Xz Z Z Aa<|Af (p:=An (zP g) 1) (.inr Z) (zI (o:Int)) MM Z (hB0.ldp (i:=1) sM) Aa<|AQ ((o+1:Nat):Int) Z Z (Bi oM oM) Aa ?_
 refine Ga (n:=o+1) Bt BG Z Z Z sD Aa fun v1 w1 a1 ab a3=>?_
 have a7:=a1.size
 have a4:=a6.trans a1
 refine Ac 1 Z<|gK [0,0,0,4] Z<|Ad 2 Z<|Aw (v:=v1) 0 Bt BG Z Z a3.isSl Z sM Aa (GQ (v:=v1) (w:=w1) HL Z Z _hn a3 sM Aa fun w2 F2 a2 ac a5 a8=>?_)
 have a9:AH w w2:=a2.below a4 (fun c hc=>A8 (A7 _) (a5 c hc).1) a4.size
 have aa:=a2.size
 exact Aj<|gK [0,0] Z<|Ac 2 Z<|A1<|Ah [4] Z v1 Z ⟨v1,rfl,a9,a8.up o1⟩
theorem I7 (w:World)(S:List Nat)(F:Nat)(g:Nat)(vp:Value)(dp o s0:Nat)(c0:Int)(p:List Fn)(dl:Nat)(vl:Value)(l:List Ex)(vv:Value)(env:List (Sr))(hS:∀b∈S,b<w.heap.size)(hgS:g∈S)(hB0:BX w.heap g [vp,zI (o:Int),zI (s0:Int),zI c0])(hp:RP S dp w.heap vp p)(ho:o≤12)(hs0:s0≤3000)(hc0:0≤c0∧c0≤9)(hl:RN S (D5 5 (LH dl)) w.heap vl l)(henv:RN S (B4 (B4 rI)) w.heap vv env)(hqenv:C3 vv)(hvp:FQ p)(hF:F≤p.length)(hwf:∀k,k<l.length→wf p (F:Int) (l.getD k Ex.zero) (env.length:Int)=true)(hse:BZ (o+1) env)(hdp:∀k,k<l.length→env.length+(l.getD k Ex.zero).deep≤1000000)(hll:l.length≤1000000)(IHv:∀d',d'<dl→PV F d') :
  Calls Tryz.prog 201 #[zP g,vl,vv] w (fun e w'=>∃(v:Value) (x:List (Sr)) (s1:Nat) (c1:Int),e=.returned v∧At [g] w w'∧BX w'.heap g [vp,zI (o:Int),zI (s1:Int),zI c1]∧RN S (B4 (B4 rI)) w'.heap v x∧(C3 v∧x.length=l.length∧BZ (o+1) x)∧s1≤3000∧(0≤c1∧c1≤9)∧AL (go c0 (DC (o+1) (EO p (o+1) F) l env s0)) x s1 c1):=by
 refine Aq [zP g,vl,vv] 26 Tryz.func201 Z Z sM ?_
 have b2:At [g] w w:=At.refl [g] w
 have c2:=hp.lenle
 unfold maxLen at c2
 have c3:=hl.lenle
 unfold maxLen at c3
 have c4:=henv.lenL
 unfold maxLen at c4
 have ch:=hB0.lt
 refine gL Z<|gK [3,0] Z (Cn rV Bv Bx AT Aa fun v1 w1 ai bh b3=>?_)
 have am:=ai.size
 have b4:At [g] w w1:=b2.ext ai
 have ag:=hB0.ext ai
 obtain⟨bs,F1,bt⟩:=Hy.nil (S:=S) (b3.low (B':=w.heap.size) (A7 _))
 refine Ac 1 Z<|A0<|gK [0,0,0] Z<|Ad 1 Z<|AR (v:=vl) CR Z hl.isSl Aa<|Ac 1 Z<|A3 ?_
 refine AU (S:=Nat×Value×List (Sr)×Nat×Int) (fun⟨k,vo,xs,s9,c9⟩=>([(7,vo),(13,zI (k:Int)),(0,zP g),(2,vv),(11,vl),(12,zI (l.length:Int))])) (fun⟨k,vo,xs,s9,c9⟩ W=>At [g] w W∧BX W.heap g [vp,zI (o:Int),zI (s9:Int),zI c9]∧k≤l.length∧P3 27 S w.heap.size W.heap vo xs∧xs.length=k∧BZ (o+1) xs∧s9≤3000∧(0≤c9∧c9≤9)∧AL (go c0<|DC (o+1) (EO p (o+1) F) (l.take k) env s0) xs s9 c9) (fun⟨k,vo,xs,s9,c9⟩=>l.length-k) (0,v1,([]:List (Sr)),s0,c0) ⟨rfl,rfl,rfl,rfl,rfl,rfl,trivial⟩ ⟨b4,ag,sD,(by exact⟨_,_,by assumption⟩),(by rfl),(by intro j hj;simp at hj),oM,oM,(by exact He _ _ _ _ _ _)⟩ ?_
 clear b2 b3 bh ai am b4
 rintro⟨k,vo,xs,s9,c9⟩ ρ2 w2 ⟨aj,a0,b5,hbld,hxl,hxs,b6,b7,hrl⟩
 have bi:w.heap.size≤w2.heap.size:=aj.size
 have bu:=a0.lt
 obtain⟨bv,F5,a3⟩:=hbld
 refine gK [0] Z ?_
 by_cases b8:(k:Int)<(l.length:Int)
 ·refine AI true Z Z (A5 b8) Aa<|Aj<|A0<|Ag Z<|A2<|A0<|A3<|gK [0,2,3,4] Z ?_
  have hkl:k<l.length:=by omega
  refine Aw (v:=vl) k CR Bj Z Z hl.isSl Z sD Aa ?_
  obtain⟨cs7,bj,bk⟩:=hl.get (Ax dl) Ex.zero (k:=k) sD
  obtain⟨dd7,ae,bw,rfl,ak⟩:=RX.of bj
  have an:=ak.rn.lenle
  unfold maxLen at an
  refine AK (p:=Ay vl k 5) (.inr Z) [zI<|(l.getD k Ex.zero).kind,zI<|(l.getD k Ex.zero).num,zI<|(l.getD k Ex.zero).pick,zI<|(l.getD k Ex.zero).count,ae] Bh Z (fun c8 ao=>bk c8<|(aj.sub<|B7 hgS).ext ao) Z Aa ?_
  have bx:=a0.lt
  refine Bs (z:=.agg #[zI 0,zI 0,zI 0,zI 0,zN]) Ir Aa fun w8 af bz ap=>?_
  have bl:=af.size
  have bm:At [g] w w8:=aj.ext af
  have a4:=a0.ext af
  have bn:=a3.ext af
  replace ap:BX w8.heap w2.heap.size [zI 0,zI 0,zI 0,zI 0,zN]:=ap
  refine BE (vs:=[zI<|(l.getD k Ex.zero).kind,zI<|(l.getD k Ex.zero).num,zI<|(l.getD k Ex.zero).pick,zI<|(l.getD k Ex.zero).count,ae]) Bh Z Z ak.ones ap Z Z Aa fun c6 a5 bo a6=>?_
  replace a6:BX c6.heap w2.heap.size [zI ((l.getD k Ex.zero).kind),zI ((l.getD k Ex.zero).num),zI ((l.getD k Ex.zero).pick),zI ((l.getD k Ex.zero).count),ae]:=a6
  have a7:At [g] w c6:=bm.fresh a5 (fun _ h=>zE h)
  have b9:=a5.size
  have aq:=a4.chg a5 (zB ·)
  have a2:=a3.ext<|a5.below af (fun _ h=>zE h) af.size
  refine Aj<|Ab _ [0,0,2,0,4,3,4,0] Z<|Ad 2 Z<|AK (p:=zP w2.heap.size) (.inr Z) [zI<|(l.getD k Ex.zero).kind,zI<|(l.getD k Ex.zero).num,zI<|(l.getD k Ex.zero).pick,zI<|(l.getD k Ex.zero).count,ae] Bh Z (fun c8 ao=>LD.of_box<|BX.ext (w:=c6) a6 ao) Z Aa<|Ad 1 Z ?_
  refine AD 234 [] [] [zP g,.agg #[zI<|(l.getD k Ex.zero).kind,zI<|(l.getD k Ex.zero).num,zI<|(l.getD k Ex.zero).pick,zI<|(l.getD k Ex.zero).count,ae],vv] Z Z ML Aa (IHv dd7 oM _ (S++F5) g vp dp (o) (s9) (c9) (p) ae (l.getD k Ex.zero) vv (env) (fun b hb=>(by rcases zi.1 hb with hb|hb;(have:=hS b hb;omega);exact a2.lt b hb:b<c6.heap.size)) (z8 _ hgS) aq ((hp.add (F:=F5) (Am<|Az dp) a2.low).chg (Am<|Az dp)<|a7.sub<|Nc hgS) oM oM oM ⟨ak.rng,(ak.rn.add (F:=F5) (Am<|Ax dd7) a2.low).chg (Am<|Ax dd7)<|a7.sub<|Nc hgS⟩ ((henv.add (F:=F5) g2 a2.low).chg g2<|a7.sub<|Nc hgS) hqenv hvp oM (by exact hwf k hkl) hse (by exact hdp k hkl)) ?_
  rintro ci c5 ⟨c7,ca,cb,cc,rfl,a8,ar,a9,ah,ba,bb,bc⟩
  refine⟨_,rfl,?_⟩
  have bd:=a8.size
  have au:At [g] w c5:=a7.trans a8
  have av:=a6.chg a8 (zB ·)
  have aw:=a2.run hgS oM a8
  have be:=ah.1
  replace a9:RN (S++F5) (B4 rI) c5.heap c7 ca:=a9
  refine BA (u:=c7) (B:=c5.heap.size) Bv Bx AT Z Z (Md c5.heap.size c5.heap.size _<|a9.one1 g1) (A7 _) Aa fun cd ce a1 bp ax=>?_
  have bf:=a1.size
  have ay:At [g] w ce:=au.ext a1
  have aa:=ar.ext a1
  have al:=av.ext a1
  have ab:=aw.ext a1
  have az:=a9.ext g1 a1
  refine Dh (v:=vo) (a:=cd) (u:=c7) Bx AT Z Z Z ab oM ax az sD (by unfold maxLen;first|omega|assumption|(simp;done)|(simp;omega)) Aa ?_
  rintro cf cg G24 ac ad ⟨bq,cj,br⟩
  have bg:=ac.size
  have b0:At [g] w cg:=ay.fresh ac (fun c hc=>ab.low c (ad c hc))
  have b1:=aa.chg ac fun hm=>by have:=ab.low _ (ad _ hm);have:=ab.lt _ (ad _ hm);omega
  refine Ac 1 Z<|Ab _ [0,0] Z<|AQ ((k+1:Nat):Int) Z Z (Bi oM sD) Aa<|Ac 1 Z ?_
  exact⟨(k+1,cf,xs++[ca],cb,cc),_,rfl,zR,⟨b0,b1,sD,(by exact⟨_,_,by assumption⟩),(by rw[z4,zd,hxl]),(by exact BZ.snoc hxs (by assumption)),oM,oM,(by exact Hd oM hrl (by assumption))⟩,zD⟩
 exact AI false Z Z (A6 b8) Aa<|Aj<|A0<|Ai Z<|A4<|AA<|AA<|Av<|gK [0,0] Z<|Ac 2 Z<|A1<|Ah [6] Z vo Z ⟨vo,xs,s9,c9,rfl,aj,a0,a3.done hS,(by exact⟨a3.cap,zO,hxs⟩),oM,oM,(by rw[za oM]at hrl;exact hrl)⟩
theorem UW (F d:Nat)(IH:∀d',d'<d→PV F d'):PA F d:=by
 intro w S g vp dp o s0 c0 p vl l vv env hS hgS hB0 hp ho hs0 hc0 hl henv hqenv hvp hF hwf hse hdp hll
 exact I7 w S F g vp dp o s0 c0 p d vl l vv env hS hgS hB0 hp ho hs0 hc0 hl henv hqenv hvp hF hwf hse hdp hll IH
theorem L4 {p:Prop}(h:p:=by first|exact DX oM|exact CW oM oM|exact Fh hc00 hs1 oM|exact Fi hc00 hs1 oM|exact Fj hc00 hs1 oM oM ‹AL (go c0 (CJ _ _ (ex.kids.getD 0 _) _ _)) _ _ _› oM (by assumption)|exact Fk hc00 hs1 oM oM ‹AL (go c0 (CJ _ _ (ex.kids.getD 0 _) _ _)) _ _ _› oM (by assumption)|exact Fl hc00 hs1 oM oM ‹AL (go c0 (CJ _ _ (ex.kids.getD 0 _) _ _)) _ _ _› (by assumption)|exact Dr hc00 hs1 hkg.1 hkg.2.1 hkg.2.2.1 hkg.2.2.2 hKr oM|exact Eu hc00 hs1 oM oM hKr oM (by assumption)|exact Ev hc00 hs1 oM oM hKr oM (Ew hrl9 oM oM)|exact Bl hc00 hs1 hkg.1 hkg.2.1 hkg.2.2.1 hkg.2.2.2 oM oM hKr oM (by rw[show c66=0 from by omega];exact GS oM)|exact Bl hc00 hs1 hkg.1 hkg.2.1 hkg.2.2.1 hkg.2.2.2 oM oM hKr oM (by rw[show c66=0 from by omega];exact GT oM)|exact Bl hc00 hs1 hkg.1 hkg.2.1 hkg.2.2.1 hkg.2.2.2 oM oM hKr oM (by rw[show c66=0 from by omega];exact GU oM)|exact Bl hc00 hs1 hkg.1 hkg.2.1 hkg.2.2.1 hkg.2.2.2 oM oM hKr oM (by rw[show c66=0 from by omega];exact GV oM)|exact Bl hc00 hs1 hkg.1 hkg.2.1 hkg.2.2.1 hkg.2.2.2 oM oM hKr oM (by rw[show c66=0 from by omega];exact GW oM oM)|exact Bl hc00 hs1 hkg.1 hkg.2.1 hkg.2.2.1 hkg.2.2.2 oM oM hKr oM (Fm oM oM)):p:=h
theorem Qq {p:Prop}(h:p:=by first|exact DX oM|exact CW oM oM|exact Fh hc00 hs1 oM|exact Fi hc00 hs1 oM|exact Fj hc00 hs1 oM oM ‹AL (go c0 (CJ _ _ (ex.kids.getD 0 _) _ _)) _ _ _› oM (by assumption)|exact Fk hc00 hs1 oM oM ‹AL (go c0 (CJ _ _ (ex.kids.getD 0 _) _ _)) _ _ _› oM (by assumption)|exact Fl hc00 hs1 oM oM ‹AL (go c0 (CJ _ _ (ex.kids.getD 0 _) _ _)) _ _ _› (by assumption)|exact Dr hc00 hs1 hkg.1 hkg.2.1 hkg.2.2.1 hkg.2.2.2 hKr oM|exact Eu hc00 hs1 oM oM hKr oM (by assumption)|exact Ev hc00 hs1 oM oM hKr oM (Ew hrl9 oM oM)|exact Bl hc00 hs1 hkg.1 hkg.2.1 hkg.2.2.1 hkg.2.2.2 oM oM hKr oM (by rw[show c0=0 from by omega];exact GS oM)|exact Bl hc00 hs1 hkg.1 hkg.2.1 hkg.2.2.1 hkg.2.2.2 oM oM hKr oM (by rw[show c0=0 from by omega];exact GT oM)|exact Bl hc00 hs1 hkg.1 hkg.2.1 hkg.2.2.1 hkg.2.2.2 oM oM hKr oM (by rw[show c0=0 from by omega];exact GU oM)|exact Bl hc00 hs1 hkg.1 hkg.2.1 hkg.2.2.1 hkg.2.2.2 oM oM hKr oM (by rw[show c0=0 from by omega];exact GV oM)|exact Bl hc00 hs1 hkg.1 hkg.2.1 hkg.2.2.1 hkg.2.2.2 oM oM hKr oM (by rw[show c0=0 from by omega];exact GW oM oM)|exact Bl hc00 hs1 hkg.1 hkg.2.1 hkg.2.2.1 hkg.2.2.2 oM oM hKr oM (Fm oM oM)):p:=h
theorem UX {p:Prop}(h:p:=by first|exact DX oM|exact CW oM oM|exact Fh hc00 hs1 oM|exact Fi hc00 hs1 oM|exact Fj hc00 hs1 oM oM ‹AL (go c0 (CJ _ _ (ex.kids.getD 0 _) _ _)) _ _ _› oM (by assumption)|exact Fk hc00 hs1 oM oM ‹AL (go c0 (CJ _ _ (ex.kids.getD 0 _) _ _)) _ _ _› oM (by assumption)|exact Fl hc00 hs1 oM oM ‹AL (go c0 (CJ _ _ (ex.kids.getD 0 _) _ _)) _ _ _› (by assumption)|exact Dr hc00 hs1 hkg.1 hkg.2.1 hkg.2.2.1 hkg.2.2.2 hKr oM|exact Eu hc00 hs1 oM oM hKr oM (by assumption)|exact Ev hc00 hs1 oM oM hKr oM (Ew hrl9 oM oM)|exact Bl hc00 hs1 hkg.1 hkg.2.1 hkg.2.2.1 hkg.2.2.2 oM oM hKr oM (by rw[show c9=0 from by omega];exact GS oM)|exact Bl hc00 hs1 hkg.1 hkg.2.1 hkg.2.2.1 hkg.2.2.2 oM oM hKr oM (by rw[show c9=0 from by omega];exact GT oM)|exact Bl hc00 hs1 hkg.1 hkg.2.1 hkg.2.2.1 hkg.2.2.2 oM oM hKr oM (by rw[show c9=0 from by omega];exact GU oM)|exact Bl hc00 hs1 hkg.1 hkg.2.1 hkg.2.2.1 hkg.2.2.2 oM oM hKr oM (by rw[show c9=0 from by omega];exact GV oM)|exact Bl hc00 hs1 hkg.1 hkg.2.1 hkg.2.2.1 hkg.2.2.2 oM oM hKr oM (by rw[show c9=0 from by omega];exact GW oM oM)|exact Bl hc00 hs1 hkg.1 hkg.2.1 hkg.2.2.1 hkg.2.2.2 oM oM hKr oM (Fm oM oM)):p:=h
theorem DM {p:Prop}(h:p:=by first|assumption|exact Et (by decide)|exact Et (CI.2 oM)|exact hse _ oM|exact hks _ oM|exact Hf hK0|exact Mk hK0|exact Hg hK0|exact Ml hK0|exact Gi hK0):p:=h
theorem OE {p:Prop}(h:p:=by have:=hK0.1;have:=hK1.1;omega):p:=h
theorem MQ {p:Prop}(h:p:=by have:=hK0.1;omega):p:=h
theorem Hn (w:World)(S:List Nat)(F:Nat)(g:Nat)(vp:Value)(dp o s0:Nat)(c0:Int)(p:List Fn)(dex:Nat)(ve:Value)(ex:Ex)(vv:Value)(env:List (Sr))(hS:∀b∈S,b<w.heap.size)(hgS:g∈S)(hB0:BX w.heap g [vp,zI (o:Int),zI (s0:Int),zI c0])(hp:RP S dp w.heap vp p)(ho:o≤12)(hs0:s0≤3000)(hc0:0≤c0∧c0≤9)(hex:RX S dex w.heap ve ex)(henv:RN S (B4 (B4 rI)) w.heap vv env)(hqenv:C3 vv)(hvp:FQ p)(hF:F≤p.length)(hwf:wf p (F:Int) ex (env.length:Int)=true)(hse:BZ (o+1) env)(hdp:env.length+ex.deep≤1000000)(IH1:∀F',F'<F→∀d,PV F' d)(IH2:∀d',d'<dex→PV F d') :
  Calls Tryz.prog 234 #[zP g,(.agg #[(zI ex.kind),(zI ex.num),(zI ex.pick),(zI ex.count),ve]),vv] w (fun e w'=>∃(v:Value) (x:Sr) (s1:Nat) (c1:Int),e=.returned v∧At [g] w w'∧BX w'.heap g [vp,zI (o:Int),zI (s1:Int),zI c1]∧RN S (B4 rI) w'.heap v x∧Cv (o+1) x∧s1≤3000∧(0≤c1∧c1≤9)∧AL (go c0 (CJ (o+1) (EO p (o+1) F) ex env s0)) x s1 c1):=by
 refine Aq [zP g,.agg #[zI ex.kind,zI ex.num,zI ex.pick,zI ex.count,ve],vv] 210 Tryz.func234 Z Z sM ?_
 have jm:At [g] w w:=At.refl [g] w
 have mm:=hp.lenle
 unfold maxLen at mm
 have mn:=hex.rn.lenle
 unfold maxLen at mn
 have mo:=henv.lenL
 unfold maxLen at mo
 have o8:=hB0.lt
 have hdk:=Dq ex
 refine gK [3,0] Z ?_
 have mg:=hB0.lt
 refine By (cs:=#[zI ex.kind,zI ex.num,zI ex.pick,zI ex.count,ve]) Z Aa fun w1 gw lm gx=>?_
 have i3:=gw.size
 have dn:At [g] w w1:=jm.ext gw
 have ab:=hB0.ext gw
 replace gx:BX w1.heap w.heap.size [zI ex.kind,zI ex.num,zI ex.pick,zI ex.count,ve]:=gx
 refine Ac 1 Z<|A0<|gK [0,0,0,2,0] Z<|Ad 1 Z<|AV Z Aa<|Ak (p:=zP g) 3 HP Z Z Aa<|Af (p:=An (zP g) 3) (.inr Z) (zI c0) AC Z (ab.ldp (i:=3) sM) Aa ?_
 by_cases jn:c0≠((0:Nat):Int)
 ·refine B2 true Z Z (A5 jn) Aa<|Aj<|Ag Z<|gK [0,3,0] Z<|Ad 1 Z<|Ap 252 [] [] [zP g,zI ((0:Nat):Int)] Z Z PJ Aa (BM _ S g vp dp (o) (s0) (c0) (p) _ (fun b hb=>(by have:=hS b hb;omega:b<w1.heap.size)) hgS ab (hp.chg (Am<|Az dp)<|dn.sub<|B7 hgS) oM oM oM oM) ?_
  rintro e4 w4 ⟨dq,rfl,gy,dr⟩
  refine⟨_,rfl,gy,?_⟩
  have ln:=gy.size
  have lo:At [g] w w4:=dn.ext gy
  have ds:=ab.ext gy
  refine Ac 1 Z<|A1<|Ao ?_
  exact Ah [6] Z dq Z ⟨dq,cst (o+1) ((0:Nat):Int),s0,c0,rfl,lo,ds,RN.of_fr1 dr fun b hb=>zH<|hS b hb,DM,oM,oM,Qq⟩
 refine B2 false Z Z (A6 jn) Aa<|Aj<|Ai Z<|A2<|A0<|gK [0,0,0,2,0] Z<|Ad 1 Z<|AV Z Aa<|Ak (p:=zP g) 2 M8 Z Z Aa<|Af (p:=An (zP g) 2) (.inr Z) (zI (s0:Int)) AC Z (ab.ldp (i:=2) sM) Aa ?_
 by_cases jo:(s0:Int)=((3000:Nat):Int)
 ·refine Al true Z Z (A5 jo) Aa<|Aj<|Ag Z<|gK [0,0,0,4] Z<|Ad 1 Z<|AV Z Aa<|Ak (p:=zP g) 3 HP Z Z Aa (Bm (k:=3) (w:=w1) HL Z Z ⟨rfl,rfl⟩ ab sM Aa fun w6 i4 mh gz=>?_)
  replace gz:BX w6.heap g [vp,zI (o:Int),zI (s0:Int),zI ((7:Nat):Int)]:=gz
  have jp:At [g] w w6:=dn.trans i4
  have lp:=i4.size
  have lq:=gx.chg i4 (zB ·)
  refine Aj<|gK [0,3,0] Z<|Ad 1 Z<|Ap 252 [] [] [zP g,zI ((0:Nat):Int)] Z Z PJ Aa (BM _ S g vp dp (o) (s0) ((7:Nat):Int) (p) _ (fun b hb=>(by have:=hS b hb;omega:b<w6.heap.size)) hgS gz (hp.chg (Am<|Az dp)<|jp.sub<|B7 hgS) oM oM oM oM) ?_
  rintro e8 w8 ⟨dt,rfl,du,dv⟩
  refine⟨_,rfl,du,?_⟩
  have lr:=du.size
  have ls:At [g] w w8:=jp.ext du
  have dw:=gz.ext du
  have jq:=lq.ext du
  refine Ac 1 Z<|A1<|Ao ?_
  exact Ah [6] Z dt Z ⟨dt,cst (o+1) ((0:Nat):Int),s0,((7:Nat):Int),rfl,ls,dw,RN.of_fr1 dv fun b hb=>zH<|hS b hb,DM,oM,oM,(by first|exact DX oM|exact CW oM oM|exact Fh hc00 hs1 oM|exact Fi hc00 hs1 oM|exact Fj hc00 hs1 oM oM ‹AL (go c0<|CJ _ _ (ex.kids.getD 0 _) _ _) _ _ _› oM (by assumption)|exact Fk hc00 hs1 oM oM ‹AL (go c0<|CJ _ _ (ex.kids.getD 0 _) _ _) _ _ _› oM (by assumption)|exact Fl hc00 hs1 oM oM ‹AL (go c0<|CJ _ _ (ex.kids.getD 0 _) _ _) _ _ _› (by assumption)|exact Dr hc00 hs1 hkg.1 hkg.2.1 hkg.2.2.1 hkg.2.2.2 hKr oM|exact Eu hc00 hs1 oM oM hKr oM (by assumption)|exact Ev hc00 hs1 oM oM hKr oM (Ew hrl9 oM oM)|exact Bl hc00 hs1 hkg.1 hkg.2.1 hkg.2.2.1 hkg.2.2.2 oM oM hKr oM (by rw[show((7:Nat):Int)=0 from by omega];exact GS oM)|exact Bl hc00 hs1 hkg.1 hkg.2.1 hkg.2.2.1 hkg.2.2.2 oM oM hKr oM (by rw[show((7:Nat):Int)=0 from by omega];exact GT oM)|exact Bl hc00 hs1 hkg.1 hkg.2.1 hkg.2.2.1 hkg.2.2.2 oM oM hKr oM (by rw[show((7:Nat):Int)=0 from by omega];exact GU oM)|exact Bl hc00 hs1 hkg.1 hkg.2.1 hkg.2.2.1 hkg.2.2.2 oM oM hKr oM (by rw[show((7:Nat):Int)=0 from by omega];exact GV oM)|exact Bl hc00 hs1 hkg.1 hkg.2.1 hkg.2.2.1 hkg.2.2.2 oM oM hKr oM (by rw[show((7:Nat):Int)=0 from by omega];exact GW oM oM)|exact Bl hc00 hs1 hkg.1 hkg.2.1 hkg.2.2.1 hkg.2.2.2 oM oM hKr oM (Fm oM oM))⟩
 refine Al false Z Z (A6 jo) Aa<|Aj<|Ai Z<|A2<|gK [0,0,0,2,0,0,0,4] Z<|Ad 1 Z<|AV Z Aa<|Ak (p:=zP g) 2 M8 Z Z Aa<|Af (p:=An (zP g) 2) (.inr Z) (zI (s0:Int)) AC Z (ab.ldp (i:=2) sM) Aa<|AQ ((s0+1:Nat):Int) Z Z (Bi oM oM) Aa<|AV Z Aa<|Ak (p:=zP g) 2 M8 Z Z Aa (Bm (k:=2) (w:=w1) HL Z Z ⟨rfl,rfl⟩ ab sM Aa fun w9 i0 lu c2=>?_)
 replace c2:BX w9.heap g [vp,zI (o:Int),zI ((s0+1:Nat):Int),zI c0]:=c2
 have ae:At [g] w w9:=dn.trans i0
 have i5:=i0.size
 have a9:=gx.chg i0 (zB ·)
 refine Aj<|A0<|gK [0,2] Z ?_
 have hc00:c0=0:=by omega
 have hs1:s0+1≤3000:=by omega
 refine Ak (p:=zP w.heap.size) 0 Br Z Z Aa<|Af (p:=An (zP w.heap.size) 0) (.inr Z) (zI ex.kind) AC Z (a9.ldp (i:=0) sM) Aa<|Aj<|A3<|gK [0,0] Z ?_
 by_cases dx:ex.kind=((1:Nat):Int)
 ·refine Al true Z Z (A5 dx) Aa<|Ac 1 Z<|Ag Z<|gK [0,0,2,3,0] Z ?_
  have hwk:=Mh hwf oM
  refine Ad 1 Z<|Ak (p:=zP w.heap.size) 1 BF Z Z Aa<|Af (p:=An (zP w.heap.size) 1) (.inr Z) (zI ex.num) AC Z (a9.ldp (i:=1) sM) Aa<|Ap 252 [] [] [zP g,zI ex.num] Z Z PJ Aa (BM _ S g vp dp (o) (s0+1) (c0) (p) _ (fun b hb=>(by have:=hS b hb;omega:b<w9.heap.size)) hgS c2 (hp.chg (Am<|Az dp)<|ae.sub<|B7 hgS) oM oM oM hex.rng.num) ?_
  rintro o9 na ⟨c3,rfl,ax,cm⟩
  refine⟨_,rfl,ax,?_⟩
  have jr:=ax.size
  have i6:At [g] w na:=ae.ext ax
  have cn:=c2.ext ax
  have i1:=a9.ext ax
  refine Ac 1 Z<|A1<|AG<|Ao ?_
  exact Ah [6] Z c3 Z ⟨c3,cst (o+1) ex.num,s0+1,c0,rfl,i6,cn,RN.of_fr1 cm fun b hb=>zH<|hS b hb,DM,oM,oM,Qq⟩
 refine Al false Z Z (A6 dx) Aa<|Ac 1 Z<|Ai Z<|gK [0,0] Z ?_
 by_cases dy:ex.kind=((2:Nat):Int)
 ·refine Al true Z Z (A5 dy) Aa<|Ac 1 Z<|Ag Z<|gK [0,0,2,0,2,0] Z ?_
  have hwk:=Mi hwf oM
  refine Ad 1 Z<|Ak (p:=zP w.heap.size) 1 BF Z Z Aa<|Af (p:=An (zP w.heap.size) 1) (.inr Z) (zI ex.num) AC Z (a9.ldp (i:=1) sM) Aa<|Aw (v:=vv) ((ex.num).toNat) Bx AT Z Z henv.slL oM sD Aa ?_
  obtain⟨co,i7,dz⟩:=RN.getL (w:=w) g1 [] (k:=(ex.num).toNat) henv sD
  have e0:=dz.lenL
  unfold maxLen at e0
  refine Af (p:=Ay vv ((ex.num).toNat) 1) (.inr Z) co B6 Z (i7 _<|ae.sub<|B7 hgS) Aa<|Ac 1 Z<|A1<|AG<|Ao ?_
  exact Ah [6] Z co Z ⟨co,env.getD ((ex.num).toNat) [],s0+1,c0,rfl,ae,c2,dz.chg g1<|ae.sub<|B7 hgS,DM,oM,oM,Qq⟩
 refine Al false Z Z (A6 dy) Aa<|Ac 1 Z<|Ai Z<|gK [0,0] Z ?_
 by_cases e1:ex.kind=((8:Nat):Int)
 ·refine Al true Z Z (A5 e1) Aa<|Ac 1 Z<|Ag Z<|A0<|gK [0,0,2,0,2,0,4,0,2,0] Z ?_
  have hwk:=Pe hwf oM
  refine Ad 1 Z<|Ak (p:=zP w.heap.size) 4 Bc Z Z Aa<|Af (p:=An (zP w.heap.size) 4) (.inr Z) ve Bf Z (a9.ldp (i:=4) sM) Aa<|Aw (v:=ve) 0 CR Bj Z Z hex.rn.isSl Z sD Aa ?_
  obtain⟨cs16,i8,i9⟩:=hex.rn.get (Ax dex) Ex.zero (k:=0) sD
  obtain⟨dd16,cp,lv,rfl,cq⟩:=RX.of i8
  have e2:=cq.rn.lenle
  unfold maxLen at e2
  refine AK (p:=Ay ve 0 5) (.inr Z) [zI<|(ex.kids.getD 0 Ex.zero).kind,zI<|(ex.kids.getD 0 Ex.zero).num,zI<|(ex.kids.getD 0 Ex.zero).pick,zI<|(ex.kids.getD 0 Ex.zero).count,cp] Bh Z (fun fe cr=>i9 fe<|(ae.sub<|B7 hgS).ext cr) Z Aa<|Ad 1 Z ?_
  refine AD 234 [] [] [zP g,.agg #[zI<|(ex.kids.getD 0 Ex.zero).kind,zI<|(ex.kids.getD 0 Ex.zero).num,zI<|(ex.kids.getD 0 Ex.zero).pick,zI<|(ex.kids.getD 0 Ex.zero).count,cp],vv] Z Z ML Aa (IH2 dd16 oM _ S g vp dp (o) (s0+1) (c0) (p) cp (ex.kids.getD 0 Ex.zero) vv (env) (fun b hb=>(by have:=hS b hb;omega:b<w9.heap.size)) hgS c2 (hp.chg (Am<|Az dp)<|ae.sub<|B7 hgS) oM oM oM ⟨cq.rng,cq.rn.chg (Am<|Ax dd16)<|ae.sub<|B7 hgS⟩ (henv.chg g2<|ae.sub<|B7 hgS) hqenv hvp oM (by exact C1 hwf oM oM) hse (zH<|CS (l:=ex.kids) (k:=0) oM)) ?_
  rintro oa mp ⟨mz,n0,n1,n2,rfl,ct,e3,bn,e5,js,jt,ju⟩
  refine⟨_,rfl,?_⟩
  have jv:=ct.size
  have af:At [g] w mp:=ae.trans ct
  have bo:=a9.chg ct (zB ·)
  have jw:=e5.1
  refine Aw (v:=mz) 0 Bt BG Z Z bn.slL Z sD Aa ?_
  have ia:=RN.getI (w:=mp) (k:=0) bn sD
  refine Af (p:=Ay mz 0 1) (.inr Z) (zI<|n0.getD 0 0) AC Z (ia.1 _<|At.refl _ _) Aa ?_
  by_cases e6:n0.getD 0 0=((0:Nat):Int)
  ·refine Al true Z Z (A5 e6) Aa<|Aj<|Ag Z<|gK [0,0,2,0,2,0,4,0] Z<|Ad 1 Z<|Ak (p:=zP w.heap.size) 4 Bc Z Z Aa<|Af (p:=An (zP w.heap.size) 4) (.inr Z) ve Bf Z (bo.ldp (i:=4) sM) Aa<|Aw (v:=ve) 1 CR Bj Z Z hex.rn.isSl Z sD Aa ?_
   obtain⟨cs25,ib,ic⟩:=hex.rn.get (Ax dex) Ex.zero (k:=1) sD
   obtain⟨dd25,cu,lw,rfl,cv⟩:=RX.of ib
   have e7:=cv.rn.lenle
   unfold maxLen at e7
   refine AK (p:=Ay ve 1 5) (.inr Z) [zI<|(ex.kids.getD 1 Ex.zero).kind,zI<|(ex.kids.getD 1 Ex.zero).num,zI<|(ex.kids.getD 1 Ex.zero).pick,zI<|(ex.kids.getD 1 Ex.zero).count,cu] Bh Z (fun fe cr=>ic fe<|(af.sub<|B7 hgS).ext cr) Z Aa<|Ad 1 Z ?_
   refine AD 234 [] [] [zP g,.agg #[zI<|(ex.kids.getD 1 Ex.zero).kind,zI<|(ex.kids.getD 1 Ex.zero).num,zI<|(ex.kids.getD 1 Ex.zero).pick,zI<|(ex.kids.getD 1 Ex.zero).count,cu],vv] Z Z ML Aa (IH2 dd25 oM _ S g vp dp (o) (n1) (n2) (p) cu (ex.kids.getD 1 Ex.zero) vv (env) (fun b hb=>(by have:=hS b hb;omega:b<mp.heap.size)) hgS e3 (hp.chg (Am<|Az dp)<|af.sub<|B7 hgS) oM oM oM ⟨cv.rng,cv.rn.chg (Am<|Ax dd25)<|af.sub<|B7 hgS⟩ (henv.chg g2<|af.sub<|B7 hgS) hqenv hvp oM (by exact C1 hwf oM oM) hse (zH<|CS (l:=ex.kids) (k:=1) oM)) ?_
   rintro ob nb ⟨n3,nc,nd,fs,rfl,bp,id,ie,e9,jx,jy,jz⟩
   refine⟨_,rfl,?_⟩
   have k0:=bp.size
   have ig:At [g] w nb:=af.trans bp
   have lx:=bo.chg bp (zB ·)
   have ly:=bn.run g1 hgS bp
   have k1:=e9.1
   refine Ac 1 Z<|A1<|Ao<|AG<|Ao ?_
   exact Ah [6] Z n3 Z ⟨n3,nc,nd,fs,rfl,ig,id,ie,DM,oM,oM,(by first|exact DX oM|exact CW oM oM|exact Fh hc00 hs1 oM|exact Fi hc00 hs1 oM|exact Fj hc00 hs1 oM oM ‹AL (go c0<|CJ _ _ (ex.kids.getD 0 _) _ _) _ _ _› oM (by assumption)|exact Fk hc00 hs1 oM oM ‹AL (go c0<|CJ _ _ (ex.kids.getD 0 _) _ _) _ _ _› oM (by assumption)|exact Fl hc00 hs1 oM oM ‹AL (go c0<|CJ _ _ (ex.kids.getD 0 _) _ _) _ _ _› (by assumption)|exact Dr hc00 hs1 hkg.1 hkg.2.1 hkg.2.2.1 hkg.2.2.2 hKr oM|exact Eu hc00 hs1 oM oM hKr oM (by assumption)|exact Ev hc00 hs1 oM oM hKr oM (Ew hrl9 oM oM)|exact Bl hc00 hs1 hkg.1 hkg.2.1 hkg.2.2.1 hkg.2.2.2 oM oM hKr oM (by rw[show fs=0 from by omega];exact GS oM)|exact Bl hc00 hs1 hkg.1 hkg.2.1 hkg.2.2.1 hkg.2.2.2 oM oM hKr oM (by rw[show fs=0 from by omega];exact GT oM)|exact Bl hc00 hs1 hkg.1 hkg.2.1 hkg.2.2.1 hkg.2.2.2 oM oM hKr oM (by rw[show fs=0 from by omega];exact GU oM)|exact Bl hc00 hs1 hkg.1 hkg.2.1 hkg.2.2.1 hkg.2.2.2 oM oM hKr oM (by rw[show fs=0 from by omega];exact GV oM)|exact Bl hc00 hs1 hkg.1 hkg.2.1 hkg.2.2.1 hkg.2.2.2 oM oM hKr oM (by rw[show fs=0 from by omega];exact GW oM oM)|exact Bl hc00 hs1 hkg.1 hkg.2.1 hkg.2.2.1 hkg.2.2.2 oM oM hKr oM (Fm oM oM))⟩
  refine Al false Z Z (A6 e6) Aa<|Aj<|Ai Z<|A2<|gK [0,0,2,0,2,0,4,0] Z<|Ad 1 Z<|Ak (p:=zP w.heap.size) 4 Bc Z Z Aa<|Af (p:=An (zP w.heap.size) 4) (.inr Z) ve Bf Z (bo.ldp (i:=4) sM) Aa<|Aw (v:=ve) 2 CR Bj Z Z hex.rn.isSl Z sD Aa ?_
  obtain⟨cs34,ih,ii⟩:=hex.rn.get (Ax dex) Ex.zero (k:=2) sD
  obtain⟨dd34,cw,lz,rfl,cx⟩:=RX.of ih
  have ea:=cx.rn.lenle
  unfold maxLen at ea
  refine AK (p:=Ay ve 2 5) (.inr Z) [zI<|(ex.kids.getD 2 Ex.zero).kind,zI<|(ex.kids.getD 2 Ex.zero).num,zI<|(ex.kids.getD 2 Ex.zero).pick,zI<|(ex.kids.getD 2 Ex.zero).count,cw] Bh Z (fun fe cr=>ii fe<|(af.sub<|B7 hgS).ext cr) Z Aa<|Ad 1 Z ?_
  refine AD 234 [] [] [zP g,.agg #[zI<|(ex.kids.getD 2 Ex.zero).kind,zI<|(ex.kids.getD 2 Ex.zero).num,zI<|(ex.kids.getD 2 Ex.zero).pick,zI<|(ex.kids.getD 2 Ex.zero).count,cw],vv] Z Z ML Aa (IH2 dd34 oM _ S g vp dp (o) (n1) (n2) (p) cw (ex.kids.getD 2 Ex.zero) vv (env) (fun b hb=>(by have:=hS b hb;omega:b<mp.heap.size)) hgS e3 (hp.chg (Am<|Az dp)<|af.sub<|B7 hgS) oM oM oM ⟨cx.rng,cx.rn.chg (Am<|Ax dd34)<|af.sub<|B7 hgS⟩ (henv.chg g2<|af.sub<|B7 hgS) hqenv hvp oM (by exact C1 hwf oM oM) hse (zH<|CS (l:=ex.kids) (k:=2) oM)) ?_
  rintro oc nf ⟨n4,ng,nh,fx,rfl,bq,ij,ik,eb,k2,k3,k4⟩
  refine⟨_,rfl,?_⟩
  have k5:=bq.size
  have il:At [g] w nf:=af.trans bq
  have m0:=bo.chg bq (zB ·)
  have m1:=bn.run g1 hgS bq
  have k6:=eb.1
  refine Ac 1 Z<|A1<|AG<|Ao ?_
  exact Ah [6] Z n4 Z ⟨n4,ng,nh,fx,rfl,il,ij,ik,DM,oM,oM,(by first|exact DX oM|exact CW oM oM|exact Fh hc00 hs1 oM|exact Fi hc00 hs1 oM|exact Fj hc00 hs1 oM oM ‹AL (go c0<|CJ _ _ (ex.kids.getD 0 _) _ _) _ _ _› oM (by assumption)|exact Fk hc00 hs1 oM oM ‹AL (go c0<|CJ _ _ (ex.kids.getD 0 _) _ _) _ _ _› oM (by assumption)|exact Fl hc00 hs1 oM oM ‹AL (go c0<|CJ _ _ (ex.kids.getD 0 _) _ _) _ _ _› (by assumption)|exact Dr hc00 hs1 hkg.1 hkg.2.1 hkg.2.2.1 hkg.2.2.2 hKr oM|exact Eu hc00 hs1 oM oM hKr oM (by assumption)|exact Ev hc00 hs1 oM oM hKr oM (Ew hrl9 oM oM)|exact Bl hc00 hs1 hkg.1 hkg.2.1 hkg.2.2.1 hkg.2.2.2 oM oM hKr oM (by rw[show fx=0 from by omega];exact GS oM)|exact Bl hc00 hs1 hkg.1 hkg.2.1 hkg.2.2.1 hkg.2.2.2 oM oM hKr oM (by rw[show fx=0 from by omega];exact GT oM)|exact Bl hc00 hs1 hkg.1 hkg.2.1 hkg.2.2.1 hkg.2.2.2 oM oM hKr oM (by rw[show fx=0 from by omega];exact GU oM)|exact Bl hc00 hs1 hkg.1 hkg.2.1 hkg.2.2.1 hkg.2.2.2 oM oM hKr oM (by rw[show fx=0 from by omega];exact GV oM)|exact Bl hc00 hs1 hkg.1 hkg.2.1 hkg.2.2.1 hkg.2.2.2 oM oM hKr oM (by rw[show fx=0 from by omega];exact GW oM oM)|exact Bl hc00 hs1 hkg.1 hkg.2.1 hkg.2.2.1 hkg.2.2.2 oM oM hKr oM (Fm oM oM))⟩
 refine Al false Z Z (A6 e1) Aa<|Ac 1 Z<|Ai Z<|gK [0,0] Z ?_
 by_cases ec:ex.kind=((9:Nat):Int)
 ·refine Al true Z Z (A5 ec) Aa<|Ac 1 Z<|Ag Z<|A0 ?_
  letI:JR:=SA [g]
  refine Jx.AM _ [0,0,1,0,1,0,0,0,0,1,0,1,0,3,3,3,3,0] mixed (by kernel_rfl) ?_
  have hwk:=Mj hwf oM
  refine Jx.YM (zP g) Z Aa<|Jx.Ak (p:=zP w.heap.size) 4 Bc Z Z Aa<|Jx.eO (p:=An (zP w.heap.size) 4) ve Bf Z (fun wj hj=>(BX.chg (w:=w9.drew) (F:=[g]) a9 hj (zB ·)).ldp (i:=4) sM) Aa<|Jx.Aw (v:=ve) 1 CR Bj Z Z hex.rn.isSl Z sD Aa ?_
  obtain⟨cs44,im,io⟩:=hex.rn.get (Ax dex) Ex.zero (k:=1) sD
  obtain⟨dd44,cy,m2,rfl,cz⟩:=RX.of im
  have ed:=cz.rn.lenle
  unfold maxLen at ed
  refine Jx.ZZ (p:=Ay ve 1 5) [zI<|(ex.kids.getD 1 Ex.zero).kind,zI<|(ex.kids.getD 1 Ex.zero).num,zI<|(ex.kids.getD 1 Ex.zero).pick,zI<|(ex.kids.getD 1 Ex.zero).count,cy] Bh Z (fun wj hj=>io wj<|At.trans (ae.drew.sub<|B7 hgS)<|At.sub (show At [g] w9.drew wj from hj)<|B7 hgS) Z Aa<|Jx.YM vv Z Aa<|Jx.AB 253 [] [] [vv] Z Z dN Aa (Eg vv) (fun wq=>EG wq vv _ henv.slL hqenv)<|Jx.YM (zP g) Z Aa<|Jx.Ak (p:=zP w.heap.size) 4 Bc Z Z Aa ?_
  refine Jx.eO (p:=An (zP w.heap.size) 4) ve Bf Z (fun wj hj=>(BX.chg (w:=w9.drew) (F:=[g]) a9 hj (zB ·)).ldp (i:=4) sM) Aa<|Jx.Aw (v:=ve) 0 CR Bj Z Z hex.rn.isSl Z sD Aa ?_
  obtain⟨cs45,ip,iq⟩:=hex.rn.get (Ax dex) Ex.zero (k:=0) sD
  obtain⟨dd45,d0,m3,rfl,d1⟩:=RX.of ip
  have ee:=d1.rn.lenle
  unfold maxLen at ee
  refine Jx.ZZ (p:=Ay ve 0 5) [zI<|(ex.kids.getD 0 Ex.zero).kind,zI<|(ex.kids.getD 0 Ex.zero).num,zI<|(ex.kids.getD 0 Ex.zero).pick,zI<|(ex.kids.getD 0 Ex.zero).count,d0] Bh Z (fun wj hj=>iq wj<|At.trans (ae.drew.sub<|B7 hgS)<|At.sub (show At [g] w9.drew wj from hj)<|B7 hgS) Z Aa<|Jx.YM vv Z Aa ?_
  refine Jx.Ap 234 [] [] [zP g,.agg #[zI<|(ex.kids.getD 0 Ex.zero).kind,zI<|(ex.kids.getD 0 Ex.zero).num,zI<|(ex.kids.getD 0 Ex.zero).pick,zI<|(ex.kids.getD 0 Ex.zero).count,d0],vv] Z Z ML Aa (IH2 dd45 oM _ S g vp dp (o) (s0+1) (c0) (p) d0 (ex.kids.getD 0 Ex.zero) vv (env) (fun b hb=>(by have:=hS b hb;omega:b<w9.heap.size)) hgS c2 (hp.chg (Am<|Az dp)<|ae.drew.sub<|B7 hgS) oM oM oM ⟨d1.rng,d1.rn.chg (Am<|Ax dd45)<|ae.drew.sub<|B7 hgS⟩ (henv.chg g2<|ae.drew.sub<|B7 hgS) hqenv hvp oM (by exact C1 hwf oM oM) hse (zH<|CS (l:=ex.kids) (k:=0) oM)) ?_
  rintro od mq ⟨n5,ni,nj,nk,rfl,ap,ir,ef,eg,k7,k8,k9⟩
  refine⟨_,rfl,ap,?_⟩
  replace ap:=ap.of_drew
  have ka:=ap.size
  have is:At [g] w mq:=ae.trans ap
  have it:=a9.chg ap (zB ·)
  have kb:=eg.1
  refine Jx.BA (u:=n5) (B:=mq.heap.size) Bv Bx AT Z Z (Md mq.heap.size mq.heap.size _<|ef.one1 g1) (A7 _) Aa fun nl n6 ay m4 iu=>?_
  have kc:=ay.size
  have eh:At [g] w n6:=is.ext ay
  have br:=ir.ext ay
  have bs:=it.ext ay
  have ei:=ef.ext g1 ay
  refine Jx.YS (v:=vv) (a:=nl) (u:=n5) Bx AT Z Z Z (henv.chg g2<|eh.sub<|B7 hgS) iu ei (fun b hb=>(by have:=hS b hb;omega:b<n6.heap.size)) sD (by unfold maxLen;first|omega|assumption|(simp;done)|(simp;omega)) Aa fun n7 n8 az ej ek=>?_
  have kd:=az.size
  have d2:At [g] w n8:=eh.ext az
  have bt:=br.ext az
  have bu:=bs.ext az
  have iv:=ei.ext g1 az
  refine Jx.Ap 234 [] [] [zP g,.agg #[zI<|(ex.kids.getD 1 Ex.zero).kind,zI<|(ex.kids.getD 1 Ex.zero).num,zI<|(ex.kids.getD 1 Ex.zero).pick,zI<|(ex.kids.getD 1 Ex.zero).count,cy],n7] Z Z ML Aa (IH2 dd44 oM _ S g vp dp (o) (nj) (nk) (p) cy (ex.kids.getD 1 Ex.zero) n7 (env++[ni]) (fun b hb=>(by have:=hS b hb;omega:b<n8.heap.size)) hgS bt (hp.chg (Am<|Az dp)<|d2.sub<|B7 hgS) oM oM oM ⟨cz.rng,cz.rn.chg (Am<|Ax dd44)<|d2.sub<|B7 hgS⟩ ej ek hvp oM (by have h9:=HC hwf oM oM;rw[z4,zd];exact h9) (by exact hse.snoc (by assumption)) (by have:=CS (l:=ex.kids) (k:=1) oM;rw[z4,zd];omega)) ?_
  rintro oe nm ⟨ms,nn,no,mj,rfl,aq,iw,ix,el,ke,kf,kg⟩
  refine⟨_,rfl,aq,?_⟩
  have kh:=aq.size
  have iy:At [g] w nm:=d2.trans aq
  have m5:=bu.chg aq (zB ·)
  have m6:=iv.run g1 hgS aq
  have m7:=ej.run g2 hgS aq
  have ki:=el.1
  refine Jx.SN ms Z Aa<|Jx.Aj<|A1<|AG<|Ao ?_
  exact Ah [6] Z ms Z ⟨ms,nn,no,mj,rfl,iy,iw,ix,DM,oM,oM,(by first|exact DX oM|exact CW oM oM|exact Fh hc00 hs1 oM|exact Fi hc00 hs1 oM|exact Fj hc00 hs1 oM oM ‹AL (go c0<|CJ _ _ (ex.kids.getD 0 _) _ _) _ _ _› oM (by assumption)|exact Fk hc00 hs1 oM oM ‹AL (go c0<|CJ _ _ (ex.kids.getD 0 _) _ _) _ _ _› oM (by assumption)|exact Fl hc00 hs1 oM oM ‹AL (go c0<|CJ _ _ (ex.kids.getD 0 _) _ _) _ _ _› (by assumption)|exact Dr hc00 hs1 hkg.1 hkg.2.1 hkg.2.2.1 hkg.2.2.2 hKr oM|exact Eu hc00 hs1 oM oM hKr oM (by assumption)|exact Ev hc00 hs1 oM oM hKr oM (Ew hrl9 oM oM)|exact Bl hc00 hs1 hkg.1 hkg.2.1 hkg.2.2.1 hkg.2.2.2 oM oM hKr oM (by rw[show mj=0 from by omega];exact GS oM)|exact Bl hc00 hs1 hkg.1 hkg.2.1 hkg.2.2.1 hkg.2.2.2 oM oM hKr oM (by rw[show mj=0 from by omega];exact GT oM)|exact Bl hc00 hs1 hkg.1 hkg.2.1 hkg.2.2.1 hkg.2.2.2 oM oM hKr oM (by rw[show mj=0 from by omega];exact GU oM)|exact Bl hc00 hs1 hkg.1 hkg.2.1 hkg.2.2.1 hkg.2.2.2 oM oM hKr oM (by rw[show mj=0 from by omega];exact GV oM)|exact Bl hc00 hs1 hkg.1 hkg.2.1 hkg.2.2.1 hkg.2.2.2 oM oM hKr oM (by rw[show mj=0 from by omega];exact GW oM oM)|exact Bl hc00 hs1 hkg.1 hkg.2.1 hkg.2.2.1 hkg.2.2.2 oM oM hKr oM (Fm oM oM))⟩
 refine Al false Z Z (A6 ec) Aa<|Ac 1 Z<|Ai Z<|A2<|gK [0,0,2,0,4,0] Z ?_
 have hkg:ex.kind≠1∧ex.kind≠2∧ex.kind≠8∧ex.kind≠9:=by omega
 have mi:=Oi hwf hvp hF
 refine Ad 1 Z<|Ak (p:=zP w.heap.size) 4 Bc Z Z Aa<|Af (p:=An (zP w.heap.size) 4) (.inr Z) ve Bf Z (a9.ldp (i:=4) sM) Aa<|Ad 1 Z ?_
 refine AD 201 [] [] [zP g,ve,vv] Z Z UL Aa (UW F dex (fun d9 h9=>IH2 d9 oM) _ S g vp dp (o) (s0+1) (c0) (p) ve (ex.kids) vv (env) (fun b hb=>(by have:=hS b hb;omega:b<w9.heap.size)) hgS c2 (hp.chg (Am<|Az dp)<|ae.sub<|B7 hgS) oM oM oM (hex.rn.chg (Am<|Ax dex)<|ae.sub<|B7 hgS) (henv.chg g2<|ae.sub<|B7 hgS) hqenv hvp oM (by intro k hk;exact C1 hwf hk oM) hse (by intro k hk;have:=CS (l:=ex.kids) (k:=k) hk;omega) oM) ?_
 rintro og f2 ⟨f1,f3,f4,c66,rfl,bv,aa,a0,ak,kj,kk,em⟩
 refine⟨_,rfl,?_⟩
 have en:=bv.size
 have a2:At [g] w f2:=ae.trans bv
 have a6:=a9.chg bv (zB ·)
 have kl:=ak.2.1
 have km:=ak.2.2
 have kn:=ak.1
 have hK:=ak.2.2
 have hKr:=em
 refine Ac 1 Z<|A0<|gK [0,0,0,2,0] Z<|Ad 1 Z<|AV Z Aa<|Ak (p:=zP g) 3 HP Z Z Aa<|Af (p:=An (zP g) 3) (.inr Z) (zI c66) AC Z (aa.ldp (i:=3) sM) Aa ?_
 by_cases eo:c66≠((0:Nat):Int)
 ·refine B2 true Z Z (A5 eo) Aa<|Aj<|Ag Z<|gK [0,3,0] Z<|Ad 1 Z<|Ap 252 [] [] [zP g,zI ((0:Nat):Int)] Z Z PJ Aa (BM _ S g vp dp (o) (f4) (c66) (p) _ (fun b hb=>(by have:=hS b hb;omega:b<f2.heap.size)) hgS aa (hp.chg (Am<|Az dp)<|a2.sub<|B7 hgS) oM oM oM oM) ?_
  rintro oh np ⟨c4,rfl,ar,d3⟩
  refine⟨_,rfl,ar,?_⟩
  have ko:=ar.size
  have iz:At [g] w np:=a2.ext ar
  have bw:=aa.ext ar
  have i2:=a6.ext ar
  have m8:=a0.ext g2 ar
  refine Ac 1 Z<|A1<|Ao ?_
  exact Ah [6] Z c4 Z ⟨c4,cst (o+1) ((0:Nat):Int),f4,c66,rfl,iz,bw,RN.of_fr1 d3 fun b hb=>zH<|hS b hb,DM,oM,oM,L4⟩
 refine B2 false Z Z (A6 eo) Aa<|Aj<|Ai Z<|A2<|A0<|gK [0,2] Z<|Ak (p:=zP w.heap.size) 0 Br Z Z Aa<|Af (p:=An (zP w.heap.size) 0) (.inr Z) (zI ex.kind) AC Z (a6.ldp (i:=0) sM) Aa<|Aj<|A3<|gK [0,0] Z ?_
 by_cases ep:ex.kind=((10:Nat):Int)
 ·refine Al true Z Z (A5 ep) Aa<|Ac 1 Z<|Ag Z<|A0<|AM _ [0,0,0,0,0,1,0,1,0,0,1,0,1,0,1,0,4,0] mixed (by kernel_rfl) ?_
  have hwk:=FY hwf oM
  refine Ad 2 Z ?_
  have hvo:=hvp.outs (ex.num).toNat oM
  have hvd:=hvp.deep (ex.num).toNat oM (ex.pick).toNat oM
  refine AV Z Aa<|Ak (p:=zP g) 0 RY Z Z Aa<|Ak (p:=An (zP g) 0) (b:=g) (o:=0) 0 BB Z Z Aa<|Af (p:=An (An (zP g) 0) 0) (.inl Z) vp C4 Z (aa.ldp (i:=0) sM) Aa<|Ak (p:=zP w.heap.size) 1 BF Z Z Aa<|Af (p:=An (zP w.heap.size) 1) (.inl Z) (zI ex.num) AC Z (a6.ldp (i:=1) sM) Aa ?_
  refine Aw (v:=vp) ((ex.num).toNat) Gx Co Z Z hp.isSl oM sD Aa ?_
  obtain⟨cs75,j0,eq⟩:=hp.get (Az dp) Fn.zero (k:=(ex.num).toNat) sD
  obtain⟨d4,rfl,d5⟩:=RF.of j0
  have er:=d5.rn.lenle
  unfold maxLen at er
  refine AE (p:=Ay vp ((ex.num).toNat) 3) 2 BU Z (eq _<|a2.drew.sub<|B7 hgS) Aa<|Af (p:=An (Ay vp ((ex.num).toNat) 3) 2) (.inl Z) d4 Bf Z ((eq _<|a2.drew.sub<|B7 hgS).ld (i:=2) (by simp[DR,DV])) Aa<|Ak (p:=zP w.heap.size) 2 D1 Z Z Aa<|Af (p:=An (zP w.heap.size) 2) (.inl Z) (zI ex.pick) AC Z (a6.ldp (i:=2) sM) Aa ?_
  refine Aw (v:=d4) ((ex.pick).toNat) CR Bj Z Z d5.rn.isSl oM sD Aa ?_
  obtain⟨cs76,j1,j2⟩:=d5.rn.get (Ax dp) Ex.zero (k:=(ex.pick).toNat) sD
  obtain⟨dd76,d6,m9,rfl,d7⟩:=RX.of j1
  have es:=d7.rn.lenle
  unfold maxLen at es
  refine AK (p:=Ay d4 ((ex.pick).toNat) 5) (.inl Z) [zI<|(((p.getD ((ex.num).toNat) Fn.zero).outs).getD ((ex.pick).toNat) Ex.zero).kind,zI<|(((p.getD ((ex.num).toNat) Fn.zero).outs).getD ((ex.pick).toNat) Ex.zero).num,zI<|(((p.getD ((ex.num).toNat) Fn.zero).outs).getD ((ex.pick).toNat) Ex.zero).pick,zI<|(((p.getD ((ex.num).toNat) Fn.zero).outs).getD ((ex.pick).toNat) Ex.zero).count,d6] Bh Z (fun fe cr=>j2 fe<|(a2.drew.sub<|B7 hgS).ext cr) Z Aa<|Ad 1 Z ?_
  refine AD 234 [] [] [zP g,.agg #[zI<|(((p.getD ((ex.num).toNat) Fn.zero).outs).getD ((ex.pick).toNat) Ex.zero).kind,zI<|(((p.getD ((ex.num).toNat) Fn.zero).outs).getD ((ex.pick).toNat) Ex.zero).num,zI<|(((p.getD ((ex.num).toNat) Fn.zero).outs).getD ((ex.pick).toNat) Ex.zero).pick,zI<|(((p.getD ((ex.num).toNat) Fn.zero).outs).getD ((ex.pick).toNat) Ex.zero).count,d6],f1] Z Z ML Aa (IH1 (ex.num).toNat oM dd76 _ S g vp dp (o) (f4) (c66) (p) d6 (((p.getD ((ex.num).toNat) Fn.zero).outs).getD ((ex.pick).toNat) Ex.zero) f1 (f3) (fun b hb=>(by have:=hS b hb;omega:b<f2.heap.size)) hgS aa (hp.chg (Am<|Az dp)<|a2.drew.sub<|B7 hgS) oM oM oM ⟨d7.rng,d7.rn.chg (Am<|Ax dd76)<|a2.drew.sub<|B7 hgS⟩ a0 ak.1 hvp oM (by have h9:=hvp.wf (ex.num).toNat oM (ex.pick).toNat oM;rw[show(f3.length:Int)=(p.getD (ex.num).toNat Fn.zero).params from by omega];exact h9) hK oM) ?_
  rintro oi nq ⟨n9,nr,ns,ml,rfl,au,j3,j4,et,kp,kq,kr⟩
  refine⟨_,rfl,?_⟩
  replace au:=au.of_drew
  have kt:=au.size
  have j5:At [g] w nq:=a2.trans au
  have ma:=a6.chg au (zB ·)
  have mb:=a0.run g2 hgS au
  have ku:=et.1
  refine Ac 1 Z<|A1<|AG<|Ao ?_
  exact Ah [6] Z n9 Z ⟨n9,nr,ns,ml,rfl,j5,j3,j4,DM,oM,oM,(by first|exact DX oM|exact CW oM oM|exact Fh hc00 hs1 oM|exact Fi hc00 hs1 oM|exact Fj hc00 hs1 oM oM ‹AL (go c0<|CJ _ _ (ex.kids.getD 0 _) _ _) _ _ _› oM (by assumption)|exact Fk hc00 hs1 oM oM ‹AL (go c0<|CJ _ _ (ex.kids.getD 0 _) _ _) _ _ _› oM (by assumption)|exact Fl hc00 hs1 oM oM ‹AL (go c0<|CJ _ _ (ex.kids.getD 0 _) _ _) _ _ _› (by assumption)|exact Dr hc00 hs1 hkg.1 hkg.2.1 hkg.2.2.1 hkg.2.2.2 hKr oM|exact Eu hc00 hs1 oM oM hKr oM (by assumption)|exact Ev hc00 hs1 oM oM hKr oM (Ew hrl9 oM oM)|exact Bl hc00 hs1 hkg.1 hkg.2.1 hkg.2.2.1 hkg.2.2.2 oM oM hKr oM (by rw[show ml=0 from by omega];exact GS oM)|exact Bl hc00 hs1 hkg.1 hkg.2.1 hkg.2.2.1 hkg.2.2.2 oM oM hKr oM (by rw[show ml=0 from by omega];exact GT oM)|exact Bl hc00 hs1 hkg.1 hkg.2.1 hkg.2.2.1 hkg.2.2.2 oM oM hKr oM (by rw[show ml=0 from by omega];exact GU oM)|exact Bl hc00 hs1 hkg.1 hkg.2.1 hkg.2.2.1 hkg.2.2.2 oM oM hKr oM (by rw[show ml=0 from by omega];exact GV oM)|exact Bl hc00 hs1 hkg.1 hkg.2.1 hkg.2.2.1 hkg.2.2.2 oM oM hKr oM (by rw[show ml=0 from by omega];exact GW oM oM)|exact Bl hc00 hs1 hkg.1 hkg.2.1 hkg.2.2.1 hkg.2.2.2 oM oM hKr oM (Fm oM oM))⟩
 refine Al false Z Z (A6 ep) Aa<|Ac 1 Z<|Ai Z<|gK [0,0] Z ?_
 by_cases eu:ex.kind=((11:Nat):Int)
 ·refine Al true Z Z (A5 eu) Aa<|Ac 1 Z<|Ag Z<|A0<|gK [0] Z ?_
  have hwk:=FY hwf oM
  have hwl:=Kg hwf oM
  refine Ac 1 Z<|A3 ?_
  refine AU (S:=Nat×Value×List (Sr)×Nat×Int) (fun⟨i,vk,ks,s9,c9⟩=>([(7,vk),(8,zI (i:Int)),(0,zP g),(4,zP w.heap.size)])) (fun⟨i,vk,ks,s9,c9⟩ W=>At [g] w W∧BX W.heap g [vp,zI (o:Int),zI (s9:Int),zI c9]∧BX W.heap w.heap.size [zI ex.kind,zI ex.num,zI ex.pick,zI ex.count,ve]∧i≤(ex.count).toNat∧RN S (B4<|B4 rI) W.heap vk ks∧C3 vk∧ks.length=(p.getD (ex.num).toNat Fn.zero).outs.length∧BZ (o+1) ks∧s9≤3000∧(0≤c9∧c9≤9)∧AL (IM (fun a t=>DC (o+1) (EO p (o+1) (ex.num).toNat) (p.getD (ex.num).toNat Fn.zero).outs a t) i f3 f4) ks s9 c9) (fun⟨i,vk,ks,s9,c9⟩=>(ex.count).toNat-i) (0,f1,f3,f4,c66) ⟨rfl,rfl,rfl,rfl,trivial⟩ ⟨a2,aa,a6,oM,(by assumption),(by assumption),oM,(by assumption),oM,oM,(by exact⟨rfl,rfl,zO⟩)⟩ ?_
  clear jm lm gw i3 dn lu i0 ae i5 a9 bv en a2 a6
  rintro⟨i,vk,ks,s9,c9⟩ ρ86 mr ⟨al,a7,a8,j6,hrk,hck,hkl,hks,j7,j8,hrl9⟩
  have kv:w.heap.size≤mr.heap.size:=al.size
  have mc:=a7.lt
  have md:=a8.lt
  refine A0<|gK [0,0,2,0,0,0,0,0,2,0,0] Z<|Ad 1 Z<|Ak (p:=zP w.heap.size) 3 Dz Z Z Aa<|Af (p:=An (zP w.heap.size) 3) (.inr Z) (zI ex.count) AC Z (a8.ldp (i:=3) sM) Aa ?_
  by_cases ev:(i:Int)<ex.count
  ·refine AI true Z Z (A5 ev) Aa<|Ad 2 Z<|AV Z (Ae (e:=132) Z Z Z)<|Ak (p:=zP g) 3 HP Z Z (Ae (e:=132) Z Z Z)<|Af (p:=An (zP g) 3) (.inr Z) (zI c9) AC Z (a7.ldp (i:=3) sM) (Ae (e:=132) Z Z Z) ?_
   by_cases ew:c9=((0:Nat):Int)
   ·refine Al true Z Z (A5 ew) (Ae (e:=132) Z Z Z)<|Ac 1 Z<|Ag Z<|A2<|A0<|A3<|AM _ [0,0,0,0,0,1,0,1,0,0,1,0,4,0] mixed (by kernel_rfl)<|Ad 2 Z ?_
    have hvo:=hvp.outs (ex.num).toNat oM
    refine AV Z Aa<|Ak (p:=zP g) 0 RY Z Z Aa<|Ak (p:=An (zP g) 0) (b:=g) (o:=0) 0 BB Z Z Aa<|Af (p:=An (An (zP g) 0) 0) (.inl Z) vp C4 Z (a7.ldp (i:=0) sM) Aa<|Ak (p:=zP w.heap.size) 1 BF Z Z Aa<|Af (p:=An (zP w.heap.size) 1) (.inl Z) (zI ex.num) AC Z (a8.ldp (i:=1) sM) Aa ?_
    refine Aw (v:=vp) ((ex.num).toNat) Gx Co Z Z hp.isSl oM sD Aa ?_
    obtain⟨cs91,j9,ey⟩:=hp.get (Az dp) Fn.zero (k:=(ex.num).toNat) sD
    obtain⟨d8,rfl,ez⟩:=RF.of j9
    have g0:=ez.rn.lenle
    unfold maxLen at g0
    refine AE (p:=Ay vp ((ex.num).toNat) 3) 2 BU Z (ey _<|al.drew.sub<|B7 hgS) Aa<|Af (p:=An (Ay vp ((ex.num).toNat) 3) 2) (.inl Z) d8 Bf Z ((ey _<|al.drew.sub<|B7 hgS).ld (i:=2) (by simp[DR,DV])) Aa<|Ad 1 Z ?_
    refine AD 201 [] [] [zP g,d8,vk] Z Z UL Aa (UW (ex.num).toNat dp (fun d9 h9=>IH1 (ex.num).toNat oM d9) _ S g vp dp (o) (s9) (c9) (p) d8 ((p.getD ((ex.num).toNat) Fn.zero).outs) vk (ks) (fun b hb=>(by have:=hS b hb;omega:b<mr.heap.size)) hgS a7 (hp.chg (Am<|Az dp)<|al.drew.sub<|B7 hgS) oM oM oM (ez.rn.chg (Am<|Ax dp)<|al.drew.sub<|B7 hgS) hrk hck hvp oM (by intro k hk;have h9:=hvp.wf (ex.num).toNat oM k hk;rw[show(ks.length:Int)=(p.getD (ex.num).toNat Fn.zero).params from by omega];exact h9) hks (by intro k hk;have:=hvp.deep (ex.num).toNat oM k hk;omega) oM) ?_
    rintro oj nt ⟨nu,nv,nx,ny,rfl,av,ja,me,b0,kw,kx,ky⟩
    refine⟨_,rfl,?_⟩
    replace av:=av.of_drew
    have kz:=av.size
    have jb:At [g] w nt:=al.trans av
    have jc:=a8.chg av (zB ·)
    have mf:=hrk.run g2 hgS av
    have l0:=b0.2.1
    have l1:=b0.2.2
    have l2:=b0.1
    exact Ac 1 Z<|Ab _ [0,0,0] Z<|Ad 1 Z<|AQ ((i+1:Nat):Int) Z Z (Bi oM oM) Aa<|Ac 1 Z ⟨(i+1,nu,nv,nx,ny),_,rfl,zR,⟨jb,ja,jc,oM,(by assumption),(by assumption),oM,(by assumption),oM,oM,(by exact VH hrl9 oM (by assumption))⟩,zD⟩
   refine Al false Z Z (A6 ew) (Ae (e:=132) Z Z Z)<|Ac 1 Z<|Ai Z<|A4<|AA<|AA<|Av<|gK [0,0,2,0,2,0] Z<|Ad 1 Z<|Ak (p:=zP w.heap.size) 2 D1 Z Z Aa<|Af (p:=An (zP w.heap.size) 2) (.inr Z) (zI ex.pick) AC Z (a8.ldp (i:=2) sM) Aa ?_
   refine Aw (v:=vk) ((ex.pick).toNat) Bx AT Z Z hrk.slL oM sD Aa ?_
   obtain⟨da,jd,g3⟩:=RN.getL (w:=mr) g1 [] (k:=(ex.pick).toNat) hrk sD
   have g4:=g3.lenL
   unfold maxLen at g4
   refine Af (p:=Ay vk ((ex.pick).toNat) 1) (.inr Z) da B6 Z (jd _<|At.refl _ _) Aa<|Ac 1 Z<|A1<|AG<|Ao ?_
   exact Ah [6] Z da Z ⟨da,ks.getD ((ex.pick).toNat) [],s9,c9,rfl,al,a7,g3,DM,oM,oM,UX⟩
  refine AI false Z Z (A6 ev) Aa<|Ac 7 Z<|Ai Z<|A4<|AA<|AA<|Av<|gK [0,0,2,0,2,0] Z<|Ad 1 Z<|Ak (p:=zP w.heap.size) 2 D1 Z Z Aa<|Af (p:=An (zP w.heap.size) 2) (.inr Z) (zI ex.pick) AC Z (a8.ldp (i:=2) sM) Aa ?_
  refine Aw (v:=vk) ((ex.pick).toNat) Bx AT Z Z hrk.slL oM sD Aa ?_
  obtain⟨b1,g5,c5⟩:=RN.getL (w:=mr) g1 [] (k:=(ex.pick).toNat) hrk sD
  have db:=c5.lenL
  unfold maxLen at db
  refine Af (p:=Ay vk ((ex.pick).toNat) 1) (.inr Z) b1 B6 Z (g5 _<|At.refl _ _) Aa<|Ac 1 Z<|A1<|AG<|Ao ?_
  exact Ah [6] Z b1 Z ⟨b1,ks.getD ((ex.pick).toNat) [],s9,c9,rfl,al,a7,c5,DM,oM,oM,UX⟩
 refine Al false Z Z (A6 eu) Aa<|Ac 1 Z<|Ai Z<|gK [0,0] Z ?_
 by_cases c6:ex.kind=((3:Nat):Int)
 ·refine Al true Z Z (A5 c6) Aa<|Ac 1 Z<|Ag Z<|A0<|AM _ [0,0,1,0,0,1,3,0] mixed (by kernel_rfl) ?_
  have hwk:=Jm hwf oM
  have hK0:=hK 0 oM
  have hK1:=hK 1 oM
  have hK1l:=hK1.1
  refine Ad 1 Z<|Aw (v:=f1) 0 Bx AT Z Z a0.slL Z sD Aa ?_
  obtain⟨c7,g6,b2⟩:=RN.getL (w:=f2) g1 [] (k:=0) a0 sD
  have dc:=b2.lenL
  unfold maxLen at dc
  refine Af (p:=Ay f1 0 1) (.inl Z) c7 B6 Z (g6 _ (At.refl _ _).drew) Aa<|Ad 1 Z<|Aw (v:=f1) 1 Bx AT Z Z a0.slL Z sD Aa ?_
  obtain⟨c8,g7,b3⟩:=RN.getL (w:=f2) g1 [] (k:=1) a0 sD
  have dd:=b3.lenL
  unfold maxLen at dd
  refine Af (p:=Ay f1 1 1) (.inl Z) c8 B6 Z (g7 _ (At.refl _ _).drew) Aa<|Ap 123 [] [] [c7,c8] Z Z PF Aa (EF _ _ _ _ _ (b2).rd (b3).rd MQ OE hK0.2 hK1.2) ?_
  rintro nz mt ⟨b4,rfl,a3,ag⟩
  refine⟨_,rfl,a3,?_⟩
  replace a3:=a3.of_drew
  have je:=a3.size
  have g8:At [g] w mt:=a2.ext a3
  have b5:=aa.ext a3
  have g9:=a6.ext a3
  have l3:=a0.ext g2 a3
  have l4:=b2.ext g1 a3
  have l5:=b3.ext g1 a3
  replace ag:=ag.low (B':=f2.heap.size)<|A7 _
  refine Ac 1 Z<|A1<|AG<|Ao ?_
  exact Ah [6] Z b4 Z ⟨b4,Cq (f3.getD 0 [])<|f3.getD 1 [],f4,c66,rfl,g8,b5,RN.of_fr1 ag fun b hb=>zH<|hS b hb,DM,oM,oM,L4⟩
 refine Al false Z Z (A6 c6) Aa<|Ac 1 Z<|Ai Z<|gK [0,0] Z ?_
 by_cases ca:ex.kind=((4:Nat):Int)
 ·refine Al true Z Z (A5 ca) Aa<|Ac 1 Z<|Ag Z<|A0<|AM _ [0,0,1,0,0,1,3,0] mixed (by kernel_rfl) ?_
  have hwk:=Jm hwf oM
  have hK0:=hK 0 oM
  have hK1:=hK 1 oM
  have hK1l:=hK1.1
  refine Ad 1 Z<|Aw (v:=f1) 0 Bx AT Z Z a0.slL Z sD Aa ?_
  obtain⟨cb,ga,b6⟩:=RN.getL (w:=f2) g1 [] (k:=0) a0 sD
  have de:=b6.lenL
  unfold maxLen at de
  refine Af (p:=Ay f1 0 1) (.inl Z) cb B6 Z (ga _ (At.refl _ _).drew) Aa<|Ad 1 Z<|Aw (v:=f1) 1 Bx AT Z Z a0.slL Z sD Aa ?_
  obtain⟨cc,gb,b7⟩:=RN.getL (w:=f2) g1 [] (k:=1) a0 sD
  have df:=b7.lenL
  unfold maxLen at df
  refine Af (p:=Ay f1 1 1) (.inl Z) cc B6 Z (gb _ (At.refl _ _).drew) Aa<|Ap 172 [] [] [cb,cc] Z Z Yn Aa (Iu _ _ _ _ _ (b6).rd (b7).rd MQ (zH<|hK1.1) OE hK0.2 hK1.2) ?_
  rintro o0 mu ⟨b8,rfl,a4,ah⟩
  refine⟨_,rfl,a4,?_⟩
  replace a4:=a4.of_drew
  have jf:=a4.size
  have gc:At [g] w mu:=a2.ext a4
  have b9:=aa.ext a4
  have gd:=a6.ext a4
  have l6:=a0.ext g2 a4
  have l7:=b6.ext g1 a4
  have l8:=b7.ext g1 a4
  replace ah:=ah.low (B':=f2.heap.size)<|A7 _
  refine Ac 1 Z<|A1<|AG<|Ao ?_
  exact Ah [6] Z b8 Z ⟨b8,EK (f3.getD 0 [])<|f3.getD 1 [],f4,c66,rfl,gc,b9,RN.of_fr1 ah fun b hb=>zH<|hS b hb,DM,oM,oM,L4⟩
 refine Al false Z Z (A6 ca) Aa<|Ac 1 Z<|Ai Z<|gK [0,0] Z ?_
 by_cases cd:ex.kind=((5:Nat):Int)
 ·refine Al true Z Z (A5 cd) Aa<|Ac 1 Z<|Ag Z<|A0<|AM _ [0,0,1,0,0,1,3,0] mixed (by kernel_rfl) ?_
  have hwk:=Jm hwf oM
  have hK0:=hK 0 oM
  have hK1:=hK 1 oM
  have hK1l:=hK1.1
  refine Ad 1 Z<|Aw (v:=f1) 0 Bx AT Z Z a0.slL Z sD Aa ?_
  obtain⟨ce,ge,ba⟩:=RN.getL (w:=f2) g1 [] (k:=0) a0 sD
  have dg:=ba.lenL
  unfold maxLen at dg
  refine Af (p:=Ay f1 0 1) (.inl Z) ce B6 Z (ge _ (At.refl _ _).drew) Aa<|Ad 1 Z<|Aw (v:=f1) 1 Bx AT Z Z a0.slL Z sD Aa ?_
  obtain⟨cf,gf,bb⟩:=RN.getL (w:=f2) g1 [] (k:=1) a0 sD
  have dh:=bb.lenL
  unfold maxLen at dh
  refine Af (p:=Ay f1 1 1) (.inl Z) cf B6 Z (gf _ (At.refl _ _).drew) Aa<|Ap 173 [] [] [ce,cf] Z Z PG Aa (DL _ _ _ _ _ (ba).rd (bb).rd MQ OE hK0.2 hK1.2) ?_
  rintro o4 mv ⟨bc,rfl,a5,ai⟩
  refine⟨_,rfl,a5,?_⟩
  replace a5:=a5.of_drew
  have jg:=a5.size
  have gg:At [g] w mv:=a2.ext a5
  have bd:=aa.ext a5
  have gh:=a6.ext a5
  have l9:=a0.ext g2 a5
  have la:=ba.ext g1 a5
  have lb:=bb.ext g1 a5
  replace ai:=ai.low (B':=f2.heap.size)<|A7 _
  refine Ac 1 Z<|A1<|AG<|Ao ?_
  exact Ah [6] Z bc Z ⟨bc,Ce (f3.getD 0 [])<|f3.getD 1 [],f4,c66,rfl,gg,bd,RN.of_fr1 ai fun b hb=>zH<|hS b hb,DM,oM,oM,L4⟩
 refine Al false Z Z (A6 cd) Aa<|Ac 1 Z<|Ai Z<|gK [0,0] Z ?_
 by_cases cg:ex.kind=((7:Nat):Int)
 ·refine Al true Z Z (A5 cg) Aa<|Ac 1 Z<|Ag Z<|gK [0,0,2,3,0] Z ?_
  have hwk:=Oh hwf oM
  have hK0:=hK 0 oM
  refine Ad 1 Z<|Aw (v:=f1) 0 Bx AT Z Z a0.slL Z sD Aa ?_
  obtain⟨ch,gi,be⟩:=RN.getL (w:=f2) g1 [] (k:=0) a0 sD
  have di:=be.lenL
  unfold maxLen at di
  refine Af (p:=Ay f1 0 1) (.inr Z) ch B6 Z (gi _<|At.refl _ _) Aa<|Ap 174 [] [] [ch,zI ((1000002:Nat):Int)] Z Z NZ Aa (Ds _ _ _ _ (be).rd oM MQ hK0.2 oM) ?_
  rintro o5 mw ⟨bf,rfl,ac,bx⟩
  refine⟨_,rfl,ac,?_⟩
  have jh:=ac.size
  have gj:At [g] w mw:=a2.ext ac
  have bg:=aa.ext ac
  have gk:=a6.ext ac
  have lc:=a0.ext g2 ac
  have le:=be.ext g1 ac
  refine Ac 1 Z<|A1<|AG<|Ao ?_
  exact Ah [6] Z bf Z ⟨bf,CL (f3.getD 0 []) ((1000002:Nat):Int),f4,c66,rfl,gj,bg,RN.of_fr1 bx fun b hb=>zH<|hS b hb,DM,oM,oM,L4⟩
 refine Al false Z Z (A6 cg) Aa<|Ac 1 Z<|Ai Z<|A2<|A0<|gK [0,0,2,0,2,0] Z ?_
 have ji:=Z6 hwf ⟨hkg,zO⟩
 have hwk:=Jm hwf<|.inr<|.inr<|.inr ji
 have hK0:=hK 0 oM
 have hK1:=hK 1 oM
 have hK1l:=hK1.1
 refine Ad 1 Z<|Aw (v:=f1) 1 Bx AT Z Z a0.slL Z sD Aa ?_
 obtain⟨bh,gl,am⟩:=RN.getL (w:=f2) g1 [] (k:=1) a0 sD
 have dj:=am.lenL
 unfold maxLen at dj
 refine Af (p:=Ay f1 1 1) (.inr Z) bh B6 Z (gl _<|At.refl _ _) Aa<|Aw (v:=bh) 0 Bt BG Z Z am.slL Z sD Aa ?_
 have gm:=RN.getI (w:=f2) (k:=0) am sD
 refine Af (p:=Ay bh 0 1) (.inr Z) (zI<|(f3.getD 1 []).getD 0 0) AC Z (gm.1 _<|At.refl _ _) Aa ?_
 by_cases ci:(f3.getD 1 []).getD 0 0=((0:Nat):Int)
 ·refine Al true Z Z (A5 ci) Aa<|Aj<|Ag Z<|gK [0,0,0,4] Z<|Ad 1 Z<|AV Z Aa<|Ak (p:=zP g) 3 HP Z Z Aa (Bm (k:=3) (w:=f2) HL Z Z ⟨rfl,rfl⟩ aa sM Aa fun fr an lf ao=>?_)
  replace ao:BX fr.heap g [vp,zI (o:Int),zI (f4:Int),zI ((6:Nat):Int)]:=ao
  have cj:At [g] w fr:=a2.trans an
  have jj:=an.size
  have gn:=a6.chg an (zB ·)
  have gp:=a0.run g2 hgS an
  have gq:=am.run g1 hgS an
  refine Aj<|gK [0,3,0] Z<|Ad 1 Z<|Ap 252 [] [] [zP g,zI ((0:Nat):Int)] Z Z PJ Aa (BM _ S g vp dp (o) (f4) ((6:Nat):Int) (p) _ (fun b hb=>(by have:=hS b hb;omega:b<fr.heap.size)) hgS ao (hp.chg (Am<|Az dp)<|cj.sub<|B7 hgS) oM oM oM oM) ?_
  rintro o6 mx ⟨bi,rfl,ad,bz⟩
  refine⟨_,rfl,ad,?_⟩
  have jk:=ad.size
  have gr:At [g] w mx:=cj.ext ad
  have aw:=ao.ext ad
  have dm:=gn.ext ad
  have lg:=gp.ext g2 ad
  have lh:=gq.ext g1 ad
  refine Ac 1 Z<|A1<|Ao ?_
  exact Ah [6] Z bi Z ⟨bi,cst (o+1) ((0:Nat):Int),f4,((6:Nat):Int),rfl,gr,aw,RN.of_fr1 bz fun b hb=>zH<|hS b hb,DM,oM,oM,(by first|exact DX oM|exact CW oM oM|exact Fh hc00 hs1 oM|exact Fi hc00 hs1 oM|exact Fj hc00 hs1 oM oM ‹AL (go c0<|CJ _ _ (ex.kids.getD 0 _) _ _) _ _ _› oM (by assumption)|exact Fk hc00 hs1 oM oM ‹AL (go c0<|CJ _ _ (ex.kids.getD 0 _) _ _) _ _ _› oM (by assumption)|exact Fl hc00 hs1 oM oM ‹AL (go c0<|CJ _ _ (ex.kids.getD 0 _) _ _) _ _ _› (by assumption)|exact Dr hc00 hs1 hkg.1 hkg.2.1 hkg.2.2.1 hkg.2.2.2 hKr oM|exact Eu hc00 hs1 oM oM hKr oM (by assumption)|exact Ev hc00 hs1 oM oM hKr oM (Ew hrl9 oM oM)|exact Bl hc00 hs1 hkg.1 hkg.2.1 hkg.2.2.1 hkg.2.2.2 oM oM hKr oM (by rw[show((6:Nat):Int)=0 from by omega];exact GS oM)|exact Bl hc00 hs1 hkg.1 hkg.2.1 hkg.2.2.1 hkg.2.2.2 oM oM hKr oM (by rw[show((6:Nat):Int)=0 from by omega];exact GT oM)|exact Bl hc00 hs1 hkg.1 hkg.2.1 hkg.2.2.1 hkg.2.2.2 oM oM hKr oM (by rw[show((6:Nat):Int)=0 from by omega];exact GU oM)|exact Bl hc00 hs1 hkg.1 hkg.2.1 hkg.2.2.1 hkg.2.2.2 oM oM hKr oM (by rw[show((6:Nat):Int)=0 from by omega];exact GV oM)|exact Bl hc00 hs1 hkg.1 hkg.2.1 hkg.2.2.1 hkg.2.2.2 oM oM hKr oM (by rw[show((6:Nat):Int)=0 from by omega];exact GW oM oM)|exact Bl hc00 hs1 hkg.1 hkg.2.1 hkg.2.2.1 hkg.2.2.2 oM oM hKr oM (Fm oM oM))⟩
 refine Al false Z Z (A6 ci) Aa<|Aj<|Ai Z<|A2<|A0<|AM _ [0,0,1,0,0,1,3,0] mixed (by kernel_rfl)<|Ad 1 Z<|Aw (v:=f1) 0 Bx AT Z Z a0.slL Z sD Aa ?_
 obtain⟨ck,gs,bj⟩:=RN.getL (w:=f2) g1 [] (k:=0) a0 sD
 have dk:=bj.lenL
 unfold maxLen at dk
 refine Af (p:=Ay f1 0 1) (.inl Z) ck B6 Z (gs _ (At.refl _ _).drew) Aa<|Ad 1 Z<|Aw (v:=f1) 1 Bx AT Z Z a0.slL Z sD Aa ?_
 obtain⟨cl,gt,bk⟩:=RN.getL (w:=f2) g1 [] (k:=1) a0 sD
 have dl:=bk.lenL
 unfold maxLen at dl
 refine Af (p:=Ay f1 1 1) (.inl Z) cl B6 Z (gt _ (At.refl _ _).drew) Aa<|Ap 175 [] [] [ck,cl] Z Z UI Aa (FM _ _ _ _ _ (bj).rd (bk).rd MQ OE (zH<|hK1.1) hK0.2 hK1.2) ?_
 rintro o7 my ⟨bl,rfl,a1,aj⟩
 refine⟨_,rfl,a1,?_⟩
 replace a1:=a1.of_drew
 have jl:=a1.size
 have gu:At [g] w my:=a2.ext a1
 have bm:=aa.ext a1
 have gv:=a6.ext a1
 have li:=a0.ext g2 a1
 have lj:=am.ext g1 a1
 have lk:=bj.ext g1 a1
 have ll:=bk.ext g1 a1
 replace aj:=aj.low (B':=f2.heap.size)<|A7 _
 refine Ac 1 Z<|A1 ?_
 exact Ah [6] Z bl Z ⟨bl,BT (f3.getD 0 [])<|f3.getD 1 [],f4,c66,rfl,gu,bm,RN.of_fr1 aj fun b hb=>zH<|hS b hb,DM,oM,oM,L4⟩
theorem XA:∀F d,PV F d:=by
 intro F
 induction F using Nat.strongRecOn with
 |_ F ihF =>
  intro d
  induction d using Nat.strongRecOn with
  |_ d ihd =>
   intro w S g vp dp o s0 c0 p ve ex vv env hS hgS a0 hp ho a1 a2 hex henv hqenv hvp hF hwf hse hdp
   exact Hn w S F g vp dp o s0 c0 p d ve ex vv env hS hgS a0 hp ho a1 a2 hex henv hqenv hvp hF hwf hse hdp ihF ihd
theorem ZJ (F d:Nat):PA F d:=UW F d fun d' _=>XA F d'
theorem E0 (w:World)(dp:Nat)(vp:Value)(p:List Fn)(f:Int)(va:Value)(a:List (Sr))(o:Nat)(hp:RP [] dp w.heap vp p)(_hf:Bn f)(ha:RN [] (B4 (B4 rI)) w.heap va a)(hqa:C3 va)(hvp:FQ p)(hf:0≤f∧f<(p.length:Int))(hl:(a.length:Int)=(p.getD f.toNat Fn.zero).params)(hse:BZ (o+1) a)(ho:o≤12) :
  Calls Tryz.prog 163 #[(.agg #[vp]),zI f,va,zI (o:Int)] w (fun e w'=>∃v0:Value,e=.returned (.tuple #[v0,zI ((NG p (o+1) f.toNat a:Nat):Int),zI (HD p (o+1) f.toNat a)])∧AH w w'∧Fr (Bp (Bp rI 2) 27) w.heap.size w'.heap.size w'.heap v0 (Ib p (o+1) f.toNat a)∧SD p (o+1) f.toNat a):=by
 refine Aq [.agg #[vp],zI f,va,zI (o:Int)] 56 Tryz.func163 Z Z sM ?_
 have bq:AH w w:=AH.refl w
 have ch:=hp.lenle
 unfold maxLen at ch
 have ci:=ha.lenL
 unfold maxLen at ci
 refine gK [3,0,0,0] Z (By (cs:=#[vp]) Z Aa fun w1 b2 c4 ak=>?_)
 have b3:=b2.size
 have br:=bq.trans b2
 replace ak:BX w1.heap w.heap.size [vp]:=ak
 refine Ac 3 Z<|gK [2,0,0,3,0] Z<|AK (p:=zP w.heap.size) (.inr Z) [vp] Cf Z (fun cq c5=>LD.of_box<|BX.ext (w:=w1) ak c5) Z Aa<|Ad 1 Z ?_
 have b4:∀(vp:Value) (cj:Nat) (h2_0:FU vp cj) (wq:World),(Instr.build 259 #[(0,.agg #[vp]),(1,zI (o:Int))]).run Tryz.prog wq=.ok (.agg #[vp,zI (o:Int),zI 0,zI 0]) wq:=by intro vp cj h2_0 wq;obtain⟨a2_0,cl,rfl,_⟩:=h2_0;kernel_rfl
 refine BQ (ps:=#[(0,.agg #[vp]),(1,zI (o:Int))]) (.agg #[vp,zI (o:Int),zI 0,zI 0]) (by simp only[zc,zf,zh];rfl) (fun wq=>b4 vp _ hp.isSl wq) Aa ?_
 have cg:=ak.lt
 refine By (cs:=#[vp,zI (o:Int),zI 0,zI 0]) Z Aa fun w3 az c7 b5=>?_
 have b6:=az.size
 have ac:=br.trans az
 have ad:=ak.ext az
 replace b5:BX w3.heap w1.heap.size [vp,zI (o:Int),zI 0,zI 0]:=b5
 refine Ac 1 Z<|gK [0,0,2,0,0,0,2,0,4,0] Z ?_
 have cr:=hvp.par f.toNat oM
 have ct:=hvp.outs f.toNat oM
 refine Ad 1 Z<|Ak (p:=zP w.heap.size) 0 BB Z Z Aa<|Af (p:=An (zP w.heap.size) 0) (.inr Z) vp C4 Z (ad.ldp (i:=0) sM) Aa<|Ad 1 Z<|Aw (v:=vp) ((f).toNat) Gx Co Z Z hp.isSl oM sD Aa ?_
 obtain⟨cs5,c8,bs⟩:=hp.get (Az dp) Fn.zero (k:=(f).toNat) sD
 obtain⟨b7,rfl,bt⟩:=RF.of c8
 have al:=bt.rn.lenle
 unfold maxLen at al
 refine AE (p:=Ay vp ((f).toNat) 3) 2 BU Z (bs _<|At.of_ext [] ac) Aa<|Af (p:=An (Ay vp ((f).toNat) 3) 2) (.inr Z) b7 Bf Z ((bs _<|At.of_ext [] ac).ld (i:=2) (by simp[DR,DV])) Aa<|Ad 1 Z ?_
 refine AD 201 [] [] [zP w1.heap.size,b7,va] Z Z UL Aa (ZJ (f.toNat) dp _ [w1.heap.size] w1.heap.size vp dp (o) (0) (0) (p) b7 ((p.getD ((f).toNat) Fn.zero).outs) va (a) (fun b hb=>(by have:=A9 hb;omega:b<w3.heap.size)) (List.mem_singleton.2 Z) b5 ((hp.add (F:=[w1.heap.size]) (Am<|Az dp) fun b hb=>zH<|A9 hb).ext (Am<|Az dp) ac) oM oM oM ((bt.rn.add (F:=[w1.heap.size]) (Am<|Ax dp) fun b hb=>zH<|A9 hb).ext (Am<|Ax dp) ac) ((ha.add (F:=[w1.heap.size]) g2 fun b hb=>zH<|A9 hb).ext g2 ac) hqa hvp oM (by intro k hk;have h9:=hvp.wf f.toNat oM k hk;rw[hl];exact h9) hse (by intro k hk;have:=hvp.deep f.toNat oM k hk;omega) oM) ?_
 rintro e6 w6 ⟨v6,x6,s6,c6,rfl,b0,b8,c9,ae,b9,ba,bb⟩
 refine⟨_,rfl,?_⟩
 have ca:=b0.size
 have b1:AH w w6:=b0.below ac (fun b hb=>by have:b=w1.heap.size:=(by simpa using hb);omega) ac.size
 have bu:=ad.chg b0 (zB ·)
 have am:=ae.2.1
 have an:=ae.2.2
 have cb:=ae.1
 have bc:=c9.rt g2
 have hRL:=bb
 have hCB:=ba
 have hEP:=SD.mk' hRL hCB b9 am an
 have hXS:=an
 have hXL:=am
 refine Ac 1 Z<|A0<|gK [0,0,0,2,0] Z<|Ad 1 Z<|AV Z Aa<|Ak (p:=zP w1.heap.size) 3 HP Z Z Aa<|Af (p:=An (zP w1.heap.size) 3) (.inr Z) (zI c6) AC Z (b8.ldp (i:=3) sM) Aa ?_
 by_cases ao:c6≠((0:Nat):Int)
 ·exact B2 true Z Z (A5 ao) Aa<|Aj<|Ag Z<|A0<|AM _ [0,0,0,1,0,0,0] mixed (by kernel_rfl)<|Ad 1 Z<|AV Z Aa<|Ak (p:=zP w1.heap.size) 3 HP Z Z Aa<|Af (p:=An (zP w1.heap.size) 3) (.inl Z) (zI c6) AC Z (b8.ldp (i:=3) sM) Aa<|Ac 3 Z<|A1<|Ao<|Ah [8,9,10] Z (.tuple #[zN,zI ((0:Nat):Int),zI c6]) Z ⟨zN,(by rw[R5<|Jn hRL oM,Il<|Jn hRL oM] <;> rfl),b1.drew,(by rw[Pf<|Jn hRL oM];exact GF _ _ _),hEP⟩
 refine B2 false Z Z (A6 ao) Aa<|Aj<|Ai Z<|A2<|gK [3,0] Z (Cn (Bp rI 2) o1 Bx AT Aa fun cm cu a2 bd ap=>?_)
 have aq:=a2.size
 have ar:=b1.trans a2
 have af:=bu.ext a2
 have ag:=b8.ext a2
 have be:=bc.ext g2 a2
 refine Ac 1 Z<|A0<|gK [0,0,0] Z<|Ad 1 Z<|AR (v:=v6) Bx Z be.slL Aa<|Ac 1 Z<|A3 ?_
 refine AU (S:=Nat×Value) (fun⟨k,vo⟩=>([(13,vo),(41,zI (k:Int)),(11,zP w1.heap.size),(39,v6),(40,zI (x6.length:Int))])) (fun⟨k,vo⟩ W=>AH w W∧Fr (Bp (Bp rI 2) 27) w6.heap.size W.heap.size W.heap vo ((x6).take k)∧BX W.heap w1.heap.size [vp,zI (o:Int),zI (s6:Int),zI c6]∧k≤(x6).length∧RT w6.heap.size (B4<|B4 rI) W.heap v6 x6∧w6.heap.size≤W.heap.size∧w1.heap.size<w6.heap.size∧w6.heap.size≤w6.heap.size∧w6.heap.size≤W.heap.size) (fun⟨k,vo⟩=>(x6).length-k) (0,cm) ⟨rfl,rfl,rfl,rfl,rfl,trivial⟩ ⟨ar,ap.up o2,ag,sD,(by assumption),oM,oM,oM,oM⟩ ?_
 clear bq c4 b2 b3 br c7 az b6 ac al b0 bu ap bd a2 aq ar af
 rintro⟨k,vo⟩ ρ18 ck ⟨ah,a8,a0,bf,a9,bv,bw,bx,bz⟩
 have c0:w.heap.size≤ck.heap.size:=ah.size
 have cc:=a0.lt
 refine gK [0] Z ?_
 by_cases au:(k:Int)<(x6.length:Int)
 ·refine AI true Z Z (A5 au) Aa<|Aj<|A0<|Ag Z<|A2<|A0<|A3<|gK [0,2,0] Z ?_
  have hkx:=hXS k oM
  have hkl:=hkx.1
  refine Aw (v:=v6) k Bx AT Z Z a9.slL Z sD Aa ?_
  obtain⟨av,bg,ai⟩:=RT.getL g1 [] (k:=k) a9 sD
  have aw:=ai.lenL
  unfold maxLen at aw
  refine Af (p:=Ay v6 k 1) (.inr Z) av B6 Z bg Aa<|Ac 1 Z<|Ab _ [0,0,3,3,4,0] Z<|Ad 2 Z<|Ap 79 [] [] [av] Z Z Xn Aa (BV _ _ _ ai.rd oM) ?_
  rintro cw cx ⟨ax,rfl,a1,aj⟩
  refine⟨_,rfl,a1,?_⟩
  have c1:=a1.size
  have bh:=ah.trans a1
  have a3:=a8.ext (o2) a1
  have a4:=a0.ext a1
  have bi:=a9.ext g2 a1
  have bj:=ai.ext g1 a1
  refine BA (u:=ax) (B:=ck.heap.size) o1 Bx AT Z Z aj (by first|exact A7 _|omega) Aa fun cn cy a5 cd bk=>?_
  have c2:=a5.size
  have ay:=bh.trans a5
  have a6:=a3.ext (o2) a5
  have a7:=a4.ext a5
  have bl:=bi.ext g2 a5
  have bm:=bj.ext g1 a5
  refine Gb o1 (v:=vo) (a:=cn) Bx AT Z Z Z a6 oM bk oM oM sD (by unfold maxLen;first|omega|assumption|(simp;done)|(simp;omega)) Aa fun co cp cz aa ab bn=>?_
  have bo:AH w cp:=aa.below ay (fun c hc=>A8 b1.size (ab c hc).1) ay.size
  have c3:=aa.size
  have ce:=bl.chg g2 aa fun c hc=>zH<|ab c hc
  have cf:=bm.chg g1 aa fun c hc=>zH<|ab c hc
  have bp:=a7.chg aa fun hm=>zH<|ab _ hm
  refine Ac 1 Z<|Ab _ [0,0] Z<|AQ ((k+1:Nat):Int) Z Z (Bi oM sD) Aa<|Ac 1 Z ?_
  exact⟨(k+1,co),_,rfl,zR,⟨bo,(by rw[D6 [] oM];exact bn.up o2),bp,sD,(by assumption),oM,oM,oM,oM⟩,zD⟩
 refine AI false Z Z (A6 au) Aa<|Aj<|A0<|Ai Z<|A4<|AA<|AA<|Av<|A0<|AM _ [0,0,0,0,1,0,0,0] mixed (by kernel_rfl)<|Ad 2 Z<|AV Z Aa<|Ak (p:=zP w1.heap.size) 2 M8 Z Z Aa<|Af (p:=An (zP w1.heap.size) 2) (.inl Z) (zI (s6:Int)) AC Z (a0.ldp (i:=2) sM) Aa<|Ac 3 Z<|A1 ?_
 exact Ah [8,9,10] Z (.tuple #[vo,zI (s6:Int),zI ((0:Nat):Int)]) Z ⟨vo,(by rw[R4<|Mm hRL oM,Mn<|Mm hRL oM] <;> rfl),ah.drew,(by have h:=(a8.up o2).low b1.size;rw[Kh<|Mm hRL oM];rwa [za oM]at h),hEP⟩
theorem HZ (w:World)(dex:Nat)(ve:Value)(ex:Ex)(hex:RX [] dex w.heap ve ex)(hs:ex.size≤1000000000) :
  Calls Tryz.prog 157 #[(.agg #[(zI ex.kind),(zI ex.num),(zI ex.pick),(zI ex.count),ve])] w (fun e w'=>e=.returned (zI (ex.size:Int))∧AH w w'):=by
 induction dex using Nat.strongRecOn generalizing w ve ex
 rename_i dex ih
 refine Aq [.agg #[zI ex.kind,zI ex.num,zI ex.pick,zI ex.count,ve]] 19 Tryz.func157 Z Z sM ?_
 have ab:AH w w:=AH.refl w
 have aw:=hex.rn.lenle
 unfold maxLen at aw
 have hsk:=Cs ex
 refine gK [3,0] Z (By (cs:=#[zI ex.kind,zI ex.num,zI ex.pick,zI ex.count,ve]) Z Aa fun w1 a2 aj a3=>?_)
 have a4:=a2.size
 have ac:=ab.trans a2
 replace a3:BX w1.heap w.heap.size [zI ex.kind,zI ex.num,zI ex.pick,zI ex.count,ve]:=a3
 refine Ac 1 Z<|gL Z<|A0<|gK [0,2,0,0] Z<|Ak (p:=zP w.heap.size) 4 Bc Z Z Aa<|Af (p:=An (zP w.heap.size) 4) (.inr Z) ve Bf Z (a3.ldp (i:=4) sM) Aa<|AR (v:=ve) CR Z hex.rn.isSl Aa<|Ac 1 Z<|A3 ?_
 refine AU (S:=Nat×Nat) (fun⟨k,sz⟩=>([(3,zI (sz:Int)),(9,zI (k:Int)),(7,ve),(8,zI (ex.kids.length:Int))])) (fun⟨k,sz⟩ W=>AH w W∧k≤ex.kids.length∧sz=1+Ex.sizes (ex.kids.take k)) (fun⟨k,sz⟩=>ex.kids.length-k) (0,1) ⟨rfl,rfl,rfl,rfl,trivial⟩ ⟨ac,sD,(by rw[List.take_zero,Nw])⟩ ?_
 clear ab aj a2 a4 ac
 rintro⟨k,sz⟩ ρ2 w2 ⟨a1,ad,hsz⟩
 have ak:w.heap.size≤w2.heap.size:=a1.size
 refine gK [0] Z ?_
 by_cases ae:(k:Int)<(ex.kids.length:Int)
 ·refine AI true Z Z (A5 ae) Aa<|Aj<|A0<|Ag Z<|A2<|A0<|A3<|gK [0,2,3,4] Z ?_
  have hst:=E9 (l:=ex.kids) (k:=k) oM
  have hle:=DE ex.kids (k+1)
  have hdt:=Hx (l:=ex.kids) (k:=k) oM
  have hda:=ER<|ex.kids.getD k Ex.zero
  refine Aw (v:=ve) k CR Bj Z Z hex.rn.isSl Z sD Aa ?_
  obtain⟨cs4,al,am⟩:=hex.rn.get (Ax dex) Ex.zero (k:=k) sD
  obtain⟨dd4,a0,ar,rfl,a5⟩:=RX.of al
  have a6:=a5.rn.lenle
  unfold maxLen at a6
  refine AK (p:=Ay ve k 5) (.inr Z) [zI<|(ex.kids.getD k Ex.zero).kind,zI<|(ex.kids.getD k Ex.zero).num,zI<|(ex.kids.getD k Ex.zero).pick,zI<|(ex.kids.getD k Ex.zero).count,a0] Bh Z (fun ax a7=>am ax<|At.of_ext []<|a1.trans a7) Z Aa (Bs (z:=.agg #[zI 0,zI 0,zI 0,zI 0,zN]) Ir Aa fun w5 af au a8=>?_)
  have an:=af.size
  have ag:=a1.trans af
  replace a8:BX w5.heap w2.heap.size [zI 0,zI 0,zI 0,zI 0,zN]:=a8
  refine BE (vs:=[zI<|(ex.kids.getD k Ex.zero).kind,zI<|(ex.kids.getD k Ex.zero).num,zI<|(ex.kids.getD k Ex.zero).pick,zI<|(ex.kids.getD k Ex.zero).count,a0]) Bh Z Z a5.ones a8 Z Z Aa fun w6 ah av a9=>?_
  replace a9:BX w6.heap w2.heap.size [zI ((ex.kids.getD k Ex.zero).kind),zI ((ex.kids.getD k Ex.zero).num),zI ((ex.kids.getD k Ex.zero).pick),zI ((ex.kids.getD k Ex.zero).count),a0]:=a9
  have ai:AH w w6:=ah.below ag (fun _ h=>zE h) ag.size
  have ao:=ah.size
  refine Aj<|Ab _ [0,2,3,0,0] Z<|Ad 1 Z<|AK (p:=zP w2.heap.size) (.inr Z) [zI<|(ex.kids.getD k Ex.zero).kind,zI<|(ex.kids.getD k Ex.zero).num,zI<|(ex.kids.getD k Ex.zero).pick,zI<|(ex.kids.getD k Ex.zero).count,a0] Bh Z (fun ax a7=>LD.of_box<|BX.ext (w:=w6) a9 a7) Z Aa<|Ap 157 [] [] [.agg #[zI<|(ex.kids.getD k Ex.zero).kind,zI<|(ex.kids.getD k Ex.zero).num,zI<|(ex.kids.getD k Ex.zero).pick,zI<|(ex.kids.getD k Ex.zero).count,a0]] Z Z UG Aa (ih dd4 oM _ a0 (ex.kids.getD k Ex.zero) (a5.ext ai) oM) ?_
  rintro e7 w7 ⟨rfl,aa⟩
  refine⟨_,rfl,aa,?_⟩
  have ap:=aa.size
  have aq:=ai.trans aa
  refine AQ ((sz+(ex.kids.getD k Ex.zero).size:Nat):Int) Z Z (Bi oM oM) Aa<|Ac 1 Z<|Ab _ [0,0] Z<|AQ ((k+1:Nat):Int) Z Z (Bi oM sD) Aa<|Ac 1 Z ?_
  exact⟨(k+1,sz+(ex.kids.getD k Ex.zero).size),_,rfl,zR,⟨aq,sD,oM⟩,zD⟩
 exact AI false Z Z (A6 ae) Aa<|Aj<|A0<|Ai Z<|A4<|AA<|AA<|Av<|gK [0,0] Z<|Ac 2 Z<|A1<|Ah [2] Z (zI (sz:Int)) Z ⟨B5 (by rw[hsz,Ny oM,hsk]),a1⟩
theorem L5 (w:World)(dex:Nat)(ve:Value)(ex:Ex)(hex:RX [] dex w.heap ve ex)(hs:ex.size≤1000000000) :
  Calls Tryz.prog 194 #[(.agg #[(zI ex.kind),(zI ex.num),(zI ex.pick),(zI ex.count),ve])] w (fun e w'=>e=.returned (zI (ex.deep:Int))∧AH w w'):=by
 induction dex using Nat.strongRecOn generalizing w ve ex
 rename_i dex ih
 refine Aq [.agg #[zI ex.kind,zI ex.num,zI ex.pick,zI ex.count,ve]] 20 Tryz.func194 Z Z sM ?_
 have ab:AH w w:=AH.refl w
 have aw:=hex.rn.lenle
 unfold maxLen at aw
 have hsk:=Cs ex
 have hdk:=Dq ex
 refine gK [3,0] Z (By (cs:=#[zI ex.kind,zI ex.num,zI ex.pick,zI ex.count,ve]) Z Aa fun w1 a2 aj a3=>?_)
 have a4:=a2.size
 have ac:=ab.trans a2
 replace a3:BX w1.heap w.heap.size [zI ex.kind,zI ex.num,zI ex.pick,zI ex.count,ve]:=a3
 refine Ac 1 Z<|gL Z<|A0<|gK [0,2,0,0] Z<|Ak (p:=zP w.heap.size) 4 Bc Z Z Aa<|Af (p:=An (zP w.heap.size) 4) (.inr Z) ve Bf Z (a3.ldp (i:=4) sM) Aa<|AR (v:=ve) CR Z hex.rn.isSl Aa<|Ac 1 Z<|A3 ?_
 refine AU (S:=Nat×Nat) (fun⟨k,sz⟩=>([(3,zI (sz:Int)),(9,zI (k:Int)),(7,ve),(8,zI (ex.kids.length:Int))])) (fun⟨k,sz⟩ W=>AH w W∧k≤ex.kids.length∧sz=Ex.deeps (ex.kids.take k)) (fun⟨k,sz⟩=>ex.kids.length-k) (0,0) ⟨rfl,rfl,rfl,rfl,trivial⟩ ⟨ac,sD,(by rw[List.take_zero,Nx])⟩ ?_
 clear ab aj a2 a4 ac
 rintro⟨k,sz⟩ ρ2 w2 ⟨a1,ad,hsz⟩
 have ak:w.heap.size≤w2.heap.size:=a1.size
 refine gK [0] Z ?_
 by_cases ae:(k:Int)<(ex.kids.length:Int)
 ·refine AI true Z Z (A5 ae) Aa<|Aj<|A0<|Ag Z<|A2<|A0<|A3<|gK [0,2,3,4] Z ?_
  have hst:=E9 (l:=ex.kids) (k:=k) oM
  have hle:=DE ex.kids (k+1)
  have hdt:=Hx (l:=ex.kids) (k:=k) oM
  have hda:=ER<|ex.kids.getD k Ex.zero
  refine Aw (v:=ve) k CR Bj Z Z hex.rn.isSl Z sD Aa ?_
  obtain⟨cs4,al,am⟩:=hex.rn.get (Ax dex) Ex.zero (k:=k) sD
  obtain⟨dd4,a0,ar,rfl,a5⟩:=RX.of al
  have a6:=a5.rn.lenle
  unfold maxLen at a6
  refine AK (p:=Ay ve k 5) (.inr Z) [zI<|(ex.kids.getD k Ex.zero).kind,zI<|(ex.kids.getD k Ex.zero).num,zI<|(ex.kids.getD k Ex.zero).pick,zI<|(ex.kids.getD k Ex.zero).count,a0] Bh Z (fun ax a7=>am ax<|At.of_ext []<|a1.trans a7) Z Aa (Bs (z:=.agg #[zI 0,zI 0,zI 0,zI 0,zN]) Ir Aa fun w5 af au a8=>?_)
  have an:=af.size
  have ag:=a1.trans af
  replace a8:BX w5.heap w2.heap.size [zI 0,zI 0,zI 0,zI 0,zN]:=a8
  refine BE (vs:=[zI<|(ex.kids.getD k Ex.zero).kind,zI<|(ex.kids.getD k Ex.zero).num,zI<|(ex.kids.getD k Ex.zero).pick,zI<|(ex.kids.getD k Ex.zero).count,a0]) Bh Z Z a5.ones a8 Z Z Aa fun w6 ah av a9=>?_
  replace a9:BX w6.heap w2.heap.size [zI ((ex.kids.getD k Ex.zero).kind),zI ((ex.kids.getD k Ex.zero).num),zI ((ex.kids.getD k Ex.zero).pick),zI ((ex.kids.getD k Ex.zero).count),a0]:=a9
  have ai:AH w w6:=ah.below ag (fun _ h=>zE h) ag.size
  have ao:=ah.size
  refine Aj<|Ab _ [0,2,3,0,0] Z<|Ad 1 Z<|AK (p:=zP w2.heap.size) (.inr Z) [zI<|(ex.kids.getD k Ex.zero).kind,zI<|(ex.kids.getD k Ex.zero).num,zI<|(ex.kids.getD k Ex.zero).pick,zI<|(ex.kids.getD k Ex.zero).count,a0] Bh Z (fun ax a7=>LD.of_box<|BX.ext (w:=w6) a9 a7) Z Aa<|Ap 194 [] [] [.agg #[zI<|(ex.kids.getD k Ex.zero).kind,zI<|(ex.kids.getD k Ex.zero).num,zI<|(ex.kids.getD k Ex.zero).pick,zI<|(ex.kids.getD k Ex.zero).count,a0]] Z Z Yp Aa (ih dd4 oM _ a0 (ex.kids.getD k Ex.zero) (a5.ext ai) oM) ?_
  rintro e7 w7 ⟨rfl,aa⟩
  refine⟨_,rfl,aa,?_⟩
  have ap:=aa.size
  have aq:=ai.trans aa
  refine ZY ((max sz ((ex.kids.getD k Ex.zero).deep):Nat):Int) oM Z Z Aa<|Ac 1 Z<|Ab _ [0,0] Z<|AQ ((k+1:Nat):Int) Z Z (Bi oM sD) Aa<|Ac 1 Z ?_
  exact⟨(k+1,max sz ((ex.kids.getD k Ex.zero).deep)),_,rfl,zR,⟨aq,sD,oM⟩,zD⟩
 refine AI false Z Z (A6 ae) Aa<|Aj<|A0<|Ai Z<|A4<|AA<|AA<|Av<|gK [0,0,0] Z ?_
 have h8:=KP (l:=ex.kids) (k:=k) oM
 have h9:=ER ex
 exact Ad 1 Z<|AQ ((sz+1:Nat):Int) Z Z (Bi oM oM) Aa<|Ac 1 Z<|A1<|Ah [2] Z (zI ((sz+1:Nat):Int)) Z ⟨B5 (by rw[hsz,KP oM,hdk]),a1⟩
theorem YD {b:Bool}(h:(!b)=false):b=true:=by cases b <;> simp_all
theorem dV {b:Bool}(h:(!b)=true):b=false:=by cases b <;> simp_all
theorem ZK {p:List Fn}{funcs vars:Int}{e:Ex}{b:Bool}(h:e.kids.length=0∨b=false)(hb:HA p funcs vars e=b):Ending.returned (.bool b)=.returned (.bool (wf p funcs e vars)):=by
  rcases h with h|h
  · rw[Ob h,hb]
  · subst h;rw[← Tg hb]
theorem Ch {p:Prop}(h:p:=by first|exact AO (Oc hwn fun j hj=>hall j oM)|exact AO (Th (k:=k) oM (by first|(rw[if_pos oM])|(rw[if_neg oM])) (dV ‹_›))|exact ZK (by first|exact .inr Z|(left;omega)|(left;simp_all <;> omega)) (by(have hp9:=hpl.symm;clear hpl;unfold HA Ff;first|(simp[*];done)|(simp[*];omega)|(simp[*] <;> intros <;> omega)|(simp_all <;> omega)))):p:=h
theorem Jt {p:Prop}(h:p:=by(have hp9:=hpl.symm;clear hpl;unfold HA Ff;first|(simp[*];done)|(simp[*];omega)|(simp[*] <;> intros <;> omega)|(simp_all <;> omega))):p:=h
theorem Qr {p:Prop}(h:p:=by intro j hj;by_cases e9:j=k;(rw[e9];first|(rw[if_pos oM];exact YD ‹_›)|(rw[if_neg oM];exact YD ‹_›));exact hall j oM):p:=h
theorem UY {p:Prop}(h:p:=by unfold Ea;first|(simp[*];done)|(simp[*];intros;omega)|(simp[*];omega)):p:=h
theorem Ju {p:Prop}(h:p:=by first|exact(A5 oM).symm|exact decide_eq_decide.2 oM):p:=h
theorem Ho (w:World)(dp:Nat)(vp:Value)(p:List Fn)(funcs:Int)(dex:Nat)(ve:Value)(ex:Ex)(vars:Int)(hp:RP [] dp w.heap vp p)(_hfuncs:Bn funcs)(hex:RX [] dex w.heap ve ex)(_hvars:Bn vars)(hs:0≤vars∧vars+(ex.deep:Int)≤2000000000)(hf:0≤funcs∧funcs≤(p.length:Int)) :
  Calls Tryz.prog 195 #[(.agg #[vp,(zI funcs)]),(.agg #[(zI ex.kind),(zI ex.num),(zI ex.pick),(zI ex.count),ve]),zI vars] w (fun e w'=>e=.returned (.bool (wf p funcs ex vars))∧AH w w'):=by
 induction dex using Nat.strongRecOn generalizing w dp vp p funcs ve ex vars
 rename_i dex ih
 refine Aq [.agg #[vp,zI funcs],.agg #[zI ex.kind,zI ex.num,zI ex.pick,zI ex.count,ve],zI vars] 177 Tryz.func195 Z Z sM ?_
 have d2:AH w w:=AH.refl w
 have ec:=hp.lenle
 unfold maxLen at ec
 have ed:=hex.rn.lenle
 unfold maxLen at ed
 have hdk:=Dq ex
 refine gK [3,3,0] Z (By (cs:=#[vp,zI funcs]) Z Aa fun w1 cq df co=>?_)
 have cr:=cq.size
 have d3:=d2.trans cq
 replace co:BX w1.heap w.heap.size [vp,zI funcs]:=co
 have e5:=co.lt
 refine By (cs:=#[zI ex.kind,zI ex.num,zI ex.pick,zI ex.count,ve]) Z Aa fun w2 cp dg bc=>?_
 have ct:=cp.size
 have cu:=d3.trans cp
 have bb:=co.ext cp
 replace bc:BX w2.heap w1.heap.size [zI ex.kind,zI ex.num,zI ex.pick,zI ex.count,ve]:=bc
 refine Ac 1 Z<|gK [0,2,0,0] Z<|Ak (p:=zP w1.heap.size) 4 Bc Z Z Aa<|Af (p:=An (zP w1.heap.size) 4) (.inr Z) ve Bf Z (bc.ldp (i:=4) sM) Aa<|AR (v:=ve) CR Z hex.rn.isSl Aa<|Ac 1 Z<|A0<|Ll (S:=Bool) (fun(pl:Bool)=>([(8,.bool pl),(2,zI vars),(3,zP w.heap.size),(4,zP w1.heap.size),(7,zI (ex.kids.length:Int))])) (fun(pl:Bool) (W:World)=>AH w W∧BX W.heap w.heap.size [vp,zI funcs]∧BX W.heap w1.heap.size [zI ex.kind,zI ex.num,zI ex.pick,zI ex.count,ve]∧pl=Ea ex) ?_ ?_
 ·refine Ab _ [0,2,0,0,0,2,0,0,0] Z<|Ak (p:=zP w1.heap.size) 2 D1 Z Z Aa<|Af (p:=An (zP w1.heap.size) 2) (.inr Z) (zI ex.pick) AC Z (bc.ldp (i:=2) sM) Aa ?_
  by_cases d4:ex.pick=((0:Nat):Int)
  ·exact Al true Z Z (A5 d4) Aa<|Ad 1 Z<|Ak (p:=zP w1.heap.size) 3 Dz Z Z (Ae (e:=19) Z Z Z)<|Af (p:=An (zP w1.heap.size) 3) (.inr Z) (zI ex.count) AC Z (bc.ldp (i:=3) sM) (Ae (e:=19) Z Z Z)<|Al (decide (ex.count=((0:Nat):Int))) Z Z Z (Ae (e:=19) Z Z Z)<|Ac 2 Z ⟨decide (ex.count=((0:Nat):Int)),_,rfl,zR,⟨cu,bb,bc,UY⟩⟩
  exact Al false Z Z (A6 d4) Aa<|Ac 6 Z ⟨false,_,rfl,zR,⟨cu,bb,bc,UY⟩⟩
 clear d2 df cq cr d3 dg cp ct cu
 rintro pl ρ4 w4 ⟨ag,a4,a1,hpl⟩
 have bf:w.heap.size≤w4.heap.size:=ag.size
 have e6:=a4.lt
 have e7:=a1.lt
 refine A0<|Ll (S:=Unit) (fun(u:Unit)=>([(2,zI vars),(3,zP w.heap.size),(4,zP w1.heap.size)])) (fun(u:Unit) (W:World)=>AH w W∧BX W.heap w.heap.size [vp,zI funcs]∧BX W.heap w1.heap.size [zI ex.kind,zI ex.num,zI ex.pick,zI ex.count,ve]∧HA p funcs vars ex=true) ?_ ?_
 ·refine gK [0,2] Z<|Ak (p:=zP w1.heap.size) 0 Br Z Z Aa<|Af (p:=An (zP w1.heap.size) 0) (.inr Z) (zI ex.kind) AC Z (a1.ldp (i:=0) sM) Aa<|Aj<|A3<|gK [0,0] Z ?_
  by_cases d5:ex.kind=((1:Nat):Int)
  ·refine Al true Z Z (A5 d5) Aa<|Ac 1 Z<|Ag Z<|gK [0,0,0,0,0,0,0,2,0,0,0] Z<|Ad 2 Z ?_
   cases dh:pl
   ·exact Ac 9 Z<|A1<|AG<|Ao<|Ah [6] Z (.bool false) Z ⟨Ch,ag⟩
   refine Ad 1 Z ?_
   by_cases bg:(ex.kids.length:Int)=((0:Nat):Int)
   ·refine Al true Z Z (A5 bg) (Ae (e:=29) Z Z Z)<|Ad 2 Z<|Ak (p:=zP w1.heap.size) 1 BF Z Z (Ae (e:=33) Z Z Z)<|Af (p:=An (zP w1.heap.size) 1) (.inr Z) (zI ex.num) AC Z (a1.ldp (i:=1) sM) (Ae (e:=33) Z Z Z)<|AB 117 [] [] [zI ex.num] Z Z UF (Ae (e:=33) Z Z Z) (.bool<|IL ex.num) (fun wq=>FK wq _ hex.rng.num)<|Ac 2 Z<|A1<|AG<|Ao ?_
    exact Ah [6] Z (.bool<|IL ex.num) Z ⟨Ch,ag⟩
   exact Al false Z Z (A6 bg) (Ae (e:=29) Z Z Z)<|Ac 7 Z<|A1<|AG<|Ao<|Ah [6] Z (.bool false) Z ⟨Ch,ag⟩
  refine Al false Z Z (A6 d5) Aa<|Ac 1 Z<|Ai Z<|gK [0,0] Z ?_
  by_cases bh:ex.kind=((2:Nat):Int)
  ·refine Al true Z Z (A5 bh) Aa<|Ac 1 Z<|Ag Z<|gK [0,0,0,0,0,0,0,2,0,0,0,0,0] Z<|Ad 2 Z ?_
   cases di:pl
   ·exact Ac 11 Z<|A1<|AG<|Ao<|Ah [6] Z (.bool false) Z ⟨Ch,ag⟩
   refine Ad 1 Z ?_
   by_cases bi:(ex.kids.length:Int)=((0:Nat):Int)
   ·refine Al true Z Z (A5 bi) (Ae (e:=41) Z Z Z)<|Ad 2 Z<|Ak (p:=zP w1.heap.size) 1 BF Z Z (Ae (e:=45) Z Z Z)<|Af (p:=An (zP w1.heap.size) 1) (.inr Z) (zI ex.num) AC Z (a1.ldp (i:=1) sM) (Ae (e:=45) Z Z Z)<|Ad 1 Z<|Bk (vars-1) Z Z (CM oM oM) (Ae (e:=45) Z Z Z)<|AB 66 [] [] [zI ex.num,zI ((0:Nat):Int),zI (vars-1)] Z Z FC (Ae (e:=45) Z Z Z) (.bool (decide (((0:Nat):Int)≤ex.num) && decide (ex.num≤(vars-1)))) (fun wq=>Ba wq _ _ _ hex.rng.num oM oM)<|Ac 2 Z<|A1<|AG ?_
    exact Ao<|Ah [6] Z (.bool (decide (((0:Nat):Int)≤ex.num) && decide (ex.num≤(vars-1)))) Z ⟨Ch,ag⟩
   exact Al false Z Z (A6 bi) (Ae (e:=41) Z Z Z)<|Ac 9 Z<|A1<|AG<|Ao<|Ah [6] Z (.bool false) Z ⟨Ch,ag⟩
  refine Al false Z Z (A6 bh) Aa<|Ac 1 Z<|Ai Z<|A0<|Ll (S:=Bool) (fun(b5:Bool)=>([(52,.bool b5),(2,zI vars),(3,zP w.heap.size),(4,zP w1.heap.size),(7,zI (ex.kids.length:Int)),(8,.bool pl),(25,zI ex.kind)])) (fun(b5:Bool) (W:World)=>AH w W∧BX W.heap w.heap.size [vp,zI funcs]∧BX W.heap w1.heap.size [zI ex.kind,zI ex.num,zI ex.pick,zI ex.count,ve]∧b5=decide (ex.kind=3∨ex.kind=4∨ex.kind=5∨ex.kind=6∨ex.kind=9)) ?_ ?_
  ·refine gK [0,0] Z ?_
   by_cases bj:ex.kind=((3:Nat):Int)
   ·exact Al true Z Z (A5 bj) Aa<|Ac 1 Z<|Ag Z<|A2 ⟨true,_,rfl,zR,⟨ag,a4,a1,Ju⟩⟩
   refine Al false Z Z (A6 bj) Aa<|Ac 1 Z<|Ai Z<|gK [0,0] Z ?_
   by_cases bk:ex.kind=((4:Nat):Int)
   ·exact Al true Z Z (A5 bk) Aa<|Ac 1 Z<|Ag Z<|A2 ⟨true,_,rfl,zR,⟨ag,a4,a1,Ju⟩⟩
   refine Al false Z Z (A6 bk) Aa<|Ac 1 Z<|Ai Z<|gK [0,0] Z ?_
   by_cases bl:ex.kind=((5:Nat):Int)
   ·exact Al true Z Z (A5 bl) Aa<|Ac 1 Z<|Ag Z<|A2 ⟨true,_,rfl,zR,⟨ag,a4,a1,Ju⟩⟩
   refine Al false Z Z (A6 bl) Aa<|Ac 1 Z<|Ai Z<|gK [0,0] Z ?_
   by_cases bm:ex.kind=((6:Nat):Int)
   ·exact Al true Z Z (A5 bm) Aa<|Ac 1 Z<|Ag Z<|A2 ⟨true,_,rfl,zR,⟨ag,a4,a1,Ju⟩⟩
   exact Al false Z Z (A6 bm) Aa<|Ac 1 Z<|Ai Z<|Ab _ [0,0] Z<|Al (decide (ex.kind=((9:Nat):Int))) Z Z Z Aa<|Ac 1 Z ⟨decide (ex.kind=((9:Nat):Int)),_,rfl,zR,⟨ag,a4,a1,Ju⟩⟩
  clear a1 a4 ag bf
  rintro b5 ρ17 ef ⟨a2,a3,a0,h5b⟩
  have bn:w.heap.size≤ef.heap.size:=a2.size
  have dj:=a3.lt
  have dk:=a0.lt
  cases bo:b5
  ·refine Ai (by first|rfl|exact zW bo)<|gK [0,0] Z ?_
   have h5n:=of_decide_eq_false (h5b.symm.trans ‹_›)
   clear h5b
   by_cases bp:ex.kind=((7:Nat):Int)
   ·refine Al true Z Z (A5 bp) Aa<|Ac 1 Z<|Ag Z<|gK [0,0,0,0,2,0,0,0,0,0,0] Z<|Ad 1 Z<|Bo (!pl) Z Z Aa<|Ad 1 Z ?_
    cases dl:(!pl)
    ·refine Ak (p:=zP w1.heap.size) 1 BF Z Z (Ae (e:=73) Z Z Z)<|Af (p:=An (zP w1.heap.size) 1) (.inr Z) (zI ex.num) AC Z (a0.ldp (i:=1) sM) (Ae (e:=73) Z Z Z) ?_
     by_cases bq:ex.num≠((0:Nat):Int)
     ·exact B2 true Z Z (A5 bq) (Ae (e:=73) Z Z Z)<|Ac 5 Z<|Ag Z<|gL Z<|A1<|AG<|Ao<|Ah [6] Z (.bool false) Z ⟨Ch,a2⟩
     refine B2 false Z Z (A6 bq) (Ae (e:=73) Z Z Z)<|Ad 3 Z ?_
     by_cases br:(ex.kids.length:Int)≠((1:Nat):Int)
     ·exact B2 true Z Z (A5 br) (Ae (e:=78) Z Z Z)<|Ac 1 Z<|Ag Z<|gL Z<|A1<|AG<|Ao<|Ah [6] Z (.bool false) Z ⟨Ch,a2⟩
     exact B2 false Z Z (A6 br) (Ae (e:=78) Z Z Z)<|Ac 1 Z<|Ai Z<|A2 ⟨(),_,rfl,zR,⟨a2,a3,a0,Jt⟩⟩
    exact Ac 8 Z<|Ag Z<|gL Z<|A1<|AG<|Ao<|Ah [6] Z (.bool false) Z ⟨Ch,a2⟩
   refine Al false Z Z (A6 bp) Aa<|Ac 1 Z<|Ai Z<|gK [0,0] Z ?_
   by_cases bs:ex.kind=((8:Nat):Int)
   ·refine Al true Z Z (A5 bs) Aa<|Ac 1 Z<|Ag Z<|gK [0,0,0,0,2,0,0,0,0,0,0] Z<|Ad 1 Z<|Bo (!pl) Z Z Aa<|Ad 1 Z ?_
    cases dm:(!pl)
    ·refine Ak (p:=zP w1.heap.size) 1 BF Z Z (Ae (e:=86) Z Z Z)<|Af (p:=An (zP w1.heap.size) 1) (.inr Z) (zI ex.num) AC Z (a0.ldp (i:=1) sM) (Ae (e:=86) Z Z Z) ?_
     by_cases bt:ex.num≠((0:Nat):Int)
     ·exact B2 true Z Z (A5 bt) (Ae (e:=86) Z Z Z)<|Ac 5 Z<|Ag Z<|gL Z<|A1<|AG<|Ao<|Ah [6] Z (.bool false) Z ⟨Ch,a2⟩
     refine B2 false Z Z (A6 bt) (Ae (e:=86) Z Z Z)<|Ad 3 Z ?_
     by_cases bu:(ex.kids.length:Int)≠((3:Nat):Int)
     ·exact B2 true Z Z (A5 bu) (Ae (e:=91) Z Z Z)<|Ac 1 Z<|Ag Z<|gL Z<|A1<|AG<|Ao<|Ah [6] Z (.bool false) Z ⟨Ch,a2⟩
     exact B2 false Z Z (A6 bu) (Ae (e:=91) Z Z Z)<|Ac 1 Z<|Ai Z<|A2 ⟨(),_,rfl,zR,⟨a2,a3,a0,Jt⟩⟩
    exact Ac 8 Z<|Ag Z<|gL Z<|A1<|AG<|Ao<|Ah [6] Z (.bool false) Z ⟨Ch,a2⟩
   refine Al false Z Z (A6 bs) Aa<|Ac 1 Z<|Ai Z<|A0<|Ll (S:=Bool) (fun(b10:Bool)=>([(95,.bool b10),(2,zI vars),(3,zP w.heap.size),(4,zP w1.heap.size),(7,zI (ex.kids.length:Int))])) (fun(b10:Bool) (W:World)=>AH w W∧BX W.heap w.heap.size [vp,zI funcs]∧BX W.heap w1.heap.size [zI ex.kind,zI ex.num,zI ex.pick,zI ex.count,ve]∧b10=decide (ex.kind=10∨ex.kind=11)) ?_ ?_
   ·refine gK [0,0] Z ?_
    by_cases bv:ex.kind=((10:Nat):Int)
    ·exact Al true Z Z (A5 bv) Aa<|Ac 1 Z<|Ag Z<|A2 ⟨true,_,rfl,zR,⟨a2,a3,a0,Ju⟩⟩
    exact Al false Z Z (A6 bv) Aa<|Ac 1 Z<|Ai Z<|Ab _ [0,0] Z<|Al (decide (ex.kind=((11:Nat):Int))) Z Z Z Aa<|Ac 1 Z ⟨decide (ex.kind=((11:Nat):Int)),_,rfl,zR,⟨a2,a3,a0,Ju⟩⟩
   clear a0 a3 a2 bn
   rintro b10 ρ33 e8 ⟨an,a6,a7,h10b⟩
   have d6:w.heap.size≤e8.heap.size:=an.size
   have dn:=a6.lt
   have dq:=a7.lt
   cases bw:b10
   ·refine Ai (by first|rfl|exact zW bw)<|gK [0] Z ?_
    have h10n:=of_decide_eq_false (h10b.symm.trans ‹_›)
    clear h10b
    exact Ac 1 Z<|A1<|AG<|Ao<|Ah [6] Z (.bool false) Z ⟨Ch,an⟩
   refine Ag (by first|rfl|exact zW bw)<|A0<|gK [0,2,0,2,0,0,0] Z ?_
   have h5k:=of_decide_eq_true (h10b.symm.trans ‹_›)
   clear h10b
   refine Ak (p:=zP w1.heap.size) 1 BF Z Z Aa<|Af (p:=An (zP w1.heap.size) 1) (.inr Z) (zI ex.num) AC Z (a7.ldp (i:=1) sM) Aa<|Ak (p:=zP w.heap.size) 1 Xy Z Z Aa<|Af (p:=An (zP w.heap.size) 1) (.inr Z) (zI funcs) AC Z (a6.ldp (i:=1) sM) Aa<|Bk (funcs-1) Z Z (CM oM oM) Aa<|AB 66 [] [] [zI ex.num,zI ((0:Nat):Int),zI (funcs-1)] Z Z FC Aa (.bool (decide (((0:Nat):Int)≤ex.num) && decide (ex.num≤(funcs-1)))) (fun wq=>Ba wq _ _ _ hex.rng.num oM oM) ?_
   refine Bo (!(decide (((0:Nat):Int)≤ex.num) && decide (ex.num≤(funcs-1)))) Z Z Aa<|Aj ?_
   cases bx:(!(decide (((0:Nat):Int)≤ex.num) && decide (ex.num≤(funcs-1))))
   ·refine Ai (by first|rfl|exact zW bx)<|A2<|gK [0,0,2,0,2,0,2,3,4] Z ?_
    have hnr:0≤ex.num∧ex.num≤funcs-1:=by have h9:=‹(!(decide (((0:Nat):Int)≤ex.num) && decide (ex.num≤funcs-1)))=false›;simpa using h9
    refine Ak (p:=zP w.heap.size) 0 Xx Z Z Aa<|Ak (p:=An (zP w.heap.size) 0) (b:=w.heap.size) (o:=0) 0 BB Z Z Aa<|Af (p:=An (An (zP w.heap.size) 0) 0) (.inr Z) vp C4 Z (a6.ldp (i:=0) sM) Aa<|Ak (p:=zP w1.heap.size) 1 BF Z Z Aa<|Af (p:=An (zP w1.heap.size) 1) (.inr Z) (zI ex.num) AC Z (a7.ldp (i:=1) sM) Aa ?_
    refine Aw (v:=vp) ((ex.num).toNat) Gx Co Z Z hp.isSl oM sD Aa ?_
    obtain⟨cs40,cv,cw⟩:=hp.get (Az dp) Fn.zero (k:=(ex.num).toNat) sD
    obtain⟨aa,rfl,ao⟩:=RF.of cv
    have bz:=ao.rn.lenle
    unfold maxLen at bz
    refine AK (p:=Ay vp ((ex.num).toNat) 3) (.inr Z) [.string<|(p.getD ((ex.num).toNat) Fn.zero).name,zI<|(p.getD ((ex.num).toNat) Fn.zero).params,aa] KD Z (fun e9 ad=>cw e9<|At.of_ext []<|an.trans ad) Z Aa ?_
    have dr:=a6.lt
    have ds:=a7.lt
    refine Bs (z:=.agg #[.string ByteArray.empty,zI 0,zN]) Xr Aa fun eg ax dt bd=>?_
    have d7:=ax.size
    have c0:=an.trans ax
    have ai:=a6.ext ax
    have aj:=a7.ext ax
    replace bd:BX eg.heap e8.heap.size [.string ByteArray.empty,zI 0,zN]:=bd
    refine BE (vs:=[.string<|(p.getD ((ex.num).toNat) Fn.zero).name,zI<|(p.getD ((ex.num).toNat) Fn.zero).params,aa]) KD Z Z ao.ones bd Z Z Aa fun ee ay du ac=>?_
    replace ac:BX ee.heap e8.heap.size [.string ((p.getD ((ex.num).toNat) Fn.zero).name),zI ((p.getD ((ex.num).toNat) Fn.zero).params),aa]:=ac
    have a8:AH w ee:=ay.below c0 (fun _ h=>zE h) c0.size
    have d8:=ay.size
    have az:=ai.chg ay (zB ·)
    have a9:=aj.chg ay (zB ·)
    refine Aj<|A0<|gK [0,0,2,0,0,0,2,0,2,0,0,0,0,0] Z<|Ad 1 Z<|Ak (p:=zP e8.heap.size) 1 C9 Z Z Aa<|Af (p:=An (zP e8.heap.size) 1) (.inr Z) (zI<|(p.getD ((ex.num).toNat) Fn.zero).params) AC Z (ac.ldp (i:=1) sM) Aa ?_
    by_cases c1:(ex.kids.length:Int)≠(p.getD ((ex.num).toNat) Fn.zero).params
    ·exact B2 true Z Z (A5 c1) Aa<|Ac 10 Z<|Ag Z<|gL Z<|A1<|Ao<|AG<|Ao<|Ah [6] Z (.bool false) Z ⟨Ch,a8⟩
    refine B2 false Z Z (A6 c1) Aa<|Ad 1 Z<|Ak (p:=zP w1.heap.size) 2 D1 Z Z (Ae (e:=116) Z Z Z)<|Af (p:=An (zP w1.heap.size) 2) (.inr Z) (zI ex.pick) AC Z (a9.ldp (i:=2) sM) (Ae (e:=116) Z Z Z)<|Ak (p:=zP e8.heap.size) 2 BU Z Z (Ae (e:=116) Z Z Z)<|Af (p:=An (zP e8.heap.size) 2) (.inr Z) aa Bf Z (ac.ldp (i:=2) sM) (Ae (e:=116) Z Z Z)<|AR (v:=aa) CR Z ao.rn.isSl (Ae (e:=116) Z Z Z) ?_
    refine Bk (((p.getD (ex.num).toNat Fn.zero).outs.length:Int)-1) Z Z (CM oM oM) (Ae (e:=116) Z Z Z)<|AB 66 [] [] [zI ex.pick,zI ((0:Nat):Int),zI (((p.getD (ex.num).toNat Fn.zero).outs.length:Int)-1)] Z Z FC (Ae (e:=116) Z Z Z) (.bool (decide (((0:Nat):Int)≤ex.pick) && decide (ex.pick≤(((p.getD (ex.num).toNat Fn.zero).outs.length:Int)-1)))) (fun wq=>Ba wq _ _ _ hex.rng.pick oM oM)<|Bo (!(decide (((0:Nat):Int)≤ex.pick) && decide (ex.pick≤(((p.getD (ex.num).toNat Fn.zero).outs.length:Int)-1)))) Z Z (Ae (e:=116) Z Z Z)<|Ac 1 Z ?_
    cases c2:(!(decide (((0:Nat):Int)≤ex.pick) && decide (ex.pick≤(((p.getD (ex.num).toNat Fn.zero).outs.length:Int)-1))))
    ·refine Ai (by first|rfl|exact zW c2)<|A2<|gK [0,2,0,0,0,2,0,0,0,0,2,0,0,0,2,0,0,2,0,0,0,2,0,0,0,0,0] Z<|Ak (p:=zP w1.heap.size) 0 Br Z Z Aa<|Af (p:=An (zP w1.heap.size) 0) (.inr Z) (zI ex.kind) AC Z (a9.ldp (i:=0) sM) Aa ?_
     by_cases c3:ex.kind=((10:Nat):Int)
     ·refine Al true Z Z (A5 c3) Aa<|Ad 1 Z<|Ak (p:=zP w1.heap.size) 3 Dz Z Z (Ae (e:=129) Z Z Z)<|Af (p:=An (zP w1.heap.size) 3) (.inr Z) (zI ex.count) AC Z (a9.ldp (i:=3) sM) (Ae (e:=129) Z Z Z) ?_
      by_cases c4:ex.count≠((0:Nat):Int)
      ·exact B2 true Z Z (A5 c4) (Ae (e:=129) Z Z Z)<|Ac 20 Z<|Ag Z<|gL Z<|A1<|AG<|Ao<|Ah [6] Z (.bool false) Z ⟨Ch,a8⟩
      refine B2 false Z Z (A6 c4) (Ae (e:=129) Z Z Z)<|Ad 2 Z<|Ak (p:=zP w1.heap.size) 0 Br Z Z (Ae (e:=134) Z Z Z)<|Af (p:=An (zP w1.heap.size) 0) (.inr Z) (zI ex.kind) AC Z (a9.ldp (i:=0) sM) (Ae (e:=134) Z Z Z) ?_
      by_cases c5:ex.kind=((11:Nat):Int)
      ·refine Al true Z Z (A5 c5) (Ae (e:=134) Z Z Z)<|Ad 1 Z<|Ak (p:=zP e8.heap.size) 2 BU Z Z (Ae (e:=138) Z Z Z)<|Af (p:=An (zP e8.heap.size) 2) (.inr Z) aa Bf Z (ac.ldp (i:=2) sM) (Ae (e:=138) Z Z Z)<|AR (v:=aa) CR Z ao.rn.isSl (Ae (e:=138) Z Z Z)<|Ak (p:=zP e8.heap.size) 1 C9 Z Z (Ae (e:=138) Z Z Z)<|Af (p:=An (zP e8.heap.size) 1) (.inr Z) (zI<|(p.getD ((ex.num).toNat) Fn.zero).params) AC Z (ac.ldp (i:=1) sM) (Ae (e:=138) Z Z Z) ?_
       by_cases c6:((((p.getD ((ex.num).toNat) Fn.zero).outs).length:Nat):Int)≠(p.getD ((ex.num).toNat) Fn.zero).params
       ·exact B2 true Z Z (A5 c6) (Ae (e:=138) Z Z Z)<|Ac 8 Z<|Ag Z<|gL Z<|A1<|AG<|Ao<|Ah [6] Z (.bool false) Z ⟨Ch,a8⟩
       refine B2 false Z Z (A6 c6) (Ae (e:=138) Z Z Z)<|Ad 1 Z<|Ak (p:=zP w1.heap.size) 3 Dz Z Z (Ae (e:=145) Z Z Z)<|Af (p:=An (zP w1.heap.size) 3) (.inr Z) (zI ex.count) AC Z (a9.ldp (i:=3) sM) (Ae (e:=145) Z Z Z)<|AB 66 [] [] [zI ex.count,zI ((0:Nat):Int),zI ((8:Nat):Int)] Z Z FC (Ae (e:=145) Z Z Z) (.bool (decide (((0:Nat):Int)≤ex.count) && decide (ex.count≤((8:Nat):Int)))) (fun wq=>Ba wq _ _ _ hex.rng.count oM oM)<|Bo (!(decide (((0:Nat):Int)≤ex.count) && decide (ex.count≤((8:Nat):Int)))) Z Z (Ae (e:=145) Z Z Z) ?_
       refine Ac 3 Z ?_
       cases c7:(!(decide (((0:Nat):Int)≤ex.count) && decide (ex.count≤((8:Nat):Int))))
       ·exact Ai (by first|rfl|exact zW c7)<|A2 ⟨(),_,rfl,zR,⟨a8,az,a9,Jt⟩⟩
       exact Ag (by first|rfl|exact zW c7)<|gL Z<|A1<|AG<|Ao<|Ah [6] Z (.bool false) Z ⟨Ch,a8⟩
      exact Al false Z Z (A6 c5) (Ae (e:=134) Z Z Z)<|Ac 15 Z<|Ai Z<|A2 ⟨(),_,rfl,zR,⟨a8,az,a9,Jt⟩⟩
     refine Al false Z Z (A6 c3) Aa<|Ad 6 Z<|Ak (p:=zP w1.heap.size) 0 Br Z Z (Ae (e:=134) Z Z Z)<|Af (p:=An (zP w1.heap.size) 0) (.inr Z) (zI ex.kind) AC Z (a9.ldp (i:=0) sM) (Ae (e:=134) Z Z Z) ?_
     by_cases c8:ex.kind=((11:Nat):Int)
     ·refine Al true Z Z (A5 c8) (Ae (e:=134) Z Z Z)<|Ad 1 Z<|Ak (p:=zP e8.heap.size) 2 BU Z Z (Ae (e:=138) Z Z Z)<|Af (p:=An (zP e8.heap.size) 2) (.inr Z) aa Bf Z (ac.ldp (i:=2) sM) (Ae (e:=138) Z Z Z)<|AR (v:=aa) CR Z ao.rn.isSl (Ae (e:=138) Z Z Z)<|Ak (p:=zP e8.heap.size) 1 C9 Z Z (Ae (e:=138) Z Z Z)<|Af (p:=An (zP e8.heap.size) 1) (.inr Z) (zI<|(p.getD ((ex.num).toNat) Fn.zero).params) AC Z (ac.ldp (i:=1) sM) (Ae (e:=138) Z Z Z) ?_
      by_cases c9:((((p.getD ((ex.num).toNat) Fn.zero).outs).length:Nat):Int)≠(p.getD ((ex.num).toNat) Fn.zero).params
      ·exact B2 true Z Z (A5 c9) (Ae (e:=138) Z Z Z)<|Ac 8 Z<|Ag Z<|gL Z<|A1<|AG<|Ao<|Ah [6] Z (.bool false) Z ⟨Ch,a8⟩
      refine B2 false Z Z (A6 c9) (Ae (e:=138) Z Z Z)<|Ad 1 Z<|Ak (p:=zP w1.heap.size) 3 Dz Z Z (Ae (e:=145) Z Z Z)<|Af (p:=An (zP w1.heap.size) 3) (.inr Z) (zI ex.count) AC Z (a9.ldp (i:=3) sM) (Ae (e:=145) Z Z Z)<|AB 66 [] [] [zI ex.count,zI ((0:Nat):Int),zI ((8:Nat):Int)] Z Z FC (Ae (e:=145) Z Z Z) (.bool (decide (((0:Nat):Int)≤ex.count) && decide (ex.count≤((8:Nat):Int)))) (fun wq=>Ba wq _ _ _ hex.rng.count oM oM)<|Bo (!(decide (((0:Nat):Int)≤ex.count) && decide (ex.count≤((8:Nat):Int)))) Z Z (Ae (e:=145) Z Z Z) ?_
      refine Ac 3 Z ?_
      cases ca:(!(decide (((0:Nat):Int)≤ex.count) && decide (ex.count≤((8:Nat):Int))))
      ·exact Ai (by first|rfl|exact zW ca)<|A2 ⟨(),_,rfl,zR,⟨a8,az,a9,Jt⟩⟩
      exact Ag (by first|rfl|exact zW ca)<|gL Z<|A1<|AG<|Ao<|Ah [6] Z (.bool false) Z ⟨Ch,a8⟩
     exact Al false Z Z (A6 c8) (Ae (e:=134) Z Z Z)<|Ac 15 Z<|Ai Z<|A2 ⟨(),_,rfl,zR,⟨a8,az,a9,Jt⟩⟩
    exact Ag (by first|rfl|exact zW c2)<|gL Z<|A1<|Ao<|AG<|Ao<|Ah [6] Z (.bool false) Z ⟨Ch,a8⟩
   exact Ag (by first|rfl|exact zW bx)<|gL Z<|A1<|Ao<|AG<|Ao<|Ah [6] Z (.bool false) Z ⟨Ch,an⟩
  refine Ag (by first|rfl|exact zW bo)<|gK [0,0,0,0,2,0,0,0,0,0,0] Z ?_
  have h5k:=of_decide_eq_true (h5b.symm.trans ‹_›)
  clear h5b
  refine Ad 1 Z<|Bo (!pl) Z Z Aa<|Ad 1 Z ?_
  cases dv:(!pl)
  ·refine Ak (p:=zP w1.heap.size) 1 BF Z Z (Ae (e:=60) Z Z Z)<|Af (p:=An (zP w1.heap.size) 1) (.inr Z) (zI ex.num) AC Z (a0.ldp (i:=1) sM) (Ae (e:=60) Z Z Z) ?_
   by_cases cb:ex.num≠((0:Nat):Int)
   ·exact B2 true Z Z (A5 cb) (Ae (e:=60) Z Z Z)<|Ac 5 Z<|Ag Z<|gL Z<|A1<|AG<|Ao<|Ah [6] Z (.bool false) Z ⟨Ch,a2⟩
   refine B2 false Z Z (A6 cb) (Ae (e:=60) Z Z Z)<|Ad 3 Z ?_
   by_cases cc:(ex.kids.length:Int)≠((2:Nat):Int)
   ·exact B2 true Z Z (A5 cc) (Ae (e:=65) Z Z Z)<|Ac 1 Z<|Ag Z<|gL Z<|A1<|AG<|Ao<|Ah [6] Z (.bool false) Z ⟨Ch,a2⟩
   exact B2 false Z Z (A6 cc) (Ae (e:=65) Z Z Z)<|Ac 1 Z<|Ai Z<|A2 ⟨(),_,rfl,zR,⟨a2,a3,a0,Jt⟩⟩
  exact Ac 8 Z<|Ag Z<|gL Z<|A1<|AG<|Ao<|Ah [6] Z (.bool false) Z ⟨Ch,a2⟩
 clear a1 a4 ag bf
 rintro u ρ8 w8 ⟨cx,ap,ah,hwn⟩
 have cy:w.heap.size≤w8.heap.size:=cx.size
 have dw:=ap.lt
 have dx:=ah.lt
 refine A0<|gK [0,2,0,0] Z<|Ak (p:=zP w1.heap.size) 4 Bc Z Z Aa<|Af (p:=An (zP w1.heap.size) 4) (.inr Z) ve Bf Z (ah.ldp (i:=4) sM) Aa<|AR (v:=ve) CR Z hex.rn.isSl Aa<|Ac 1 Z<|A3 ?_
 refine AU (S:=Nat) (fun k=>([(156,zI (k:Int)),(2,zI vars),(3,zP w.heap.size),(4,zP w1.heap.size),(154,ve),(155,zI (ex.kids.length:Int))])) (fun k W=>AH w W∧BX W.heap w.heap.size [vp,zI funcs]∧BX W.heap w1.heap.size [zI ex.kind,zI ex.num,zI ex.pick,zI ex.count,ve]∧k≤ex.kids.length∧(∀j,j<k→wf p funcs (ex.kids.getD j Ex.zero) (if ex.kind=9∧j=1 then vars+1 else vars)=true)) (fun k=>ex.kids.length-k) 0 ⟨rfl,rfl,rfl,rfl,rfl,rfl,trivial⟩ ⟨cx,ap,ah,sD,(by intro j hj;omega)⟩ ?_
 clear ah ap cx cy
 rintro k ρ65 eb ⟨b0,ae,af,cz,hall⟩
 have d9:w.heap.size≤eb.heap.size:=b0.size
 have dy:=ae.lt
 have dz:=af.lt
 refine gK [0] Z ?_
 by_cases cd:(k:Int)<(ex.kids.length:Int)
 ·refine AI true Z Z (A5 cd) Aa<|Aj<|A0<|Ag Z<|A2<|A0<|A3<|gK [0,0,2,3,0,4] Z ?_
  have hkd:=CS (l:=ex.kids) (k:=k) oM
  refine Ad 1 Z<|Aw (v:=ve) k CR Bj Z Z hex.rn.isSl Z sD Aa ?_
  obtain⟨cs69,d0,d1⟩:=hex.rn.get (Ax dex) Ex.zero (k:=k) sD
  obtain⟨dd69,a5,e0,rfl,aq⟩:=RX.of d0
  have ce:=aq.rn.lenle
  unfold maxLen at ce
  refine AK (p:=Ay ve k 5) (.inr Z) [zI<|(ex.kids.getD k Ex.zero).kind,zI<|(ex.kids.getD k Ex.zero).num,zI<|(ex.kids.getD k Ex.zero).pick,zI<|(ex.kids.getD k Ex.zero).count,a5] Bh Z (fun e9 ad=>d1 e9<|At.of_ext []<|b0.trans ad) Z Aa ?_
  have e1:=ae.lt
  have e2:=af.lt
  refine Bs (z:=.agg #[zI 0,zI 0,zI 0,zI 0,zN]) Ir Aa fun eh b1 e3 be=>?_
  have da:=b1.size
  have cf:=b0.trans b1
  have ak:=ae.ext b1
  have al:=af.ext b1
  replace be:BX eh.heap eb.heap.size [zI 0,zI 0,zI 0,zI 0,zN]:=be
  refine Ad 1 Z (BE (vs:=[zI<|(ex.kids.getD k Ex.zero).kind,zI<|(ex.kids.getD k Ex.zero).num,zI<|(ex.kids.getD k Ex.zero).pick,zI<|(ex.kids.getD k Ex.zero).count,a5]) Bh Z Z aq.ones be Z Z Aa fun ea b2 e4 ar=>?_)
  replace ar:BX ea.heap eb.heap.size [zI ((ex.kids.getD k Ex.zero).kind),zI ((ex.kids.getD k Ex.zero).num),zI ((ex.kids.getD k Ex.zero).pick),zI ((ex.kids.getD k Ex.zero).count),a5]:=ar
  have ab:AH w ea:=b2.below cf (fun _ h=>zE h) cf.size
  have db:=b2.size
  have am:=ak.chg b2 (zB ·)
  have b3:=al.chg b2 (zB ·)
  refine Aj<|gK [0,0] Z<|Ac 2 Z<|A0<|gK [0,2,0,0,0,0,0] Z<|Ak (p:=zP w1.heap.size) 0 Br Z Z Aa<|Af (p:=An (zP w1.heap.size) 0) (.inr Z) (zI ex.kind) AC Z (b3.ldp (i:=0) sM) Aa ?_
  by_cases cg:ex.kind=((9:Nat):Int)
  ·refine Al true Z Z (A5 cg) Aa<|Ad 2 Z ?_
   by_cases ch:(k:Int)=((1:Nat):Int)
   ·refine Al true Z Z (A5 ch) (Ae (e:=165) Z Z Z)<|Ac 1 Z<|Ag Z<|Ab _ [0,0,0] Z<|Ad 1 Z<|AQ (vars+1) Z Z (CM oM oM) Aa<|Ac 1 Z<|gK [2,2,0,3,0] Z<|AK (p:=zP w.heap.size) (.inr Z) [vp,zI funcs] Qp Z (fun e9 ad=>LD.of_box<|BX.ext (w:=ea) am ad) Z Aa<|AK (p:=zP eb.heap.size) (.inr Z) [zI<|(ex.kids.getD k Ex.zero).kind,zI<|(ex.kids.getD k Ex.zero).num,zI<|(ex.kids.getD k Ex.zero).pick,zI<|(ex.kids.getD k Ex.zero).count,a5] Bh Z (fun e9 ad=>LD.of_box<|BX.ext (w:=ea) ar ad) Z Aa<|Ad 1 Z ?_
    refine Ap 195 [] [] [.agg #[vp,zI funcs],.agg #[zI<|(ex.kids.getD k Ex.zero).kind,zI<|(ex.kids.getD k Ex.zero).num,zI<|(ex.kids.getD k Ex.zero).pick,zI<|(ex.kids.getD k Ex.zero).count,a5],zI (vars+1)] Z Z RQ Aa (ih dd69 oM _ dp vp (p) (funcs) a5 (ex.kids.getD k Ex.zero) _ (hp.ext (Am<|Az dp) ab) _hfuncs (aq.ext ab) oM oM oM) ?_
    rintro ei ej ⟨rfl,au⟩
    refine⟨_,rfl,au,?_⟩
    have dc:=au.size
    have ci:=ab.trans au
    have b4:=am.ext au
    have b6:=b3.ext au
    refine Bo (!(wf p funcs (ex.kids.getD k Ex.zero) (vars+1))) Z Z Aa<|Aj ?_
    cases cj:(!(wf p funcs (ex.kids.getD k Ex.zero) (vars+1)))
    ·refine Ai (by first|rfl|exact zW cj)<|A2<|Ab _ [0,0] Z<|AQ ((k+1:Nat):Int) Z Z (Bi oM sD) Aa<|Ac 1 Z ?_
     exact⟨k+1,_,rfl,zR,⟨ci,b4,b6,sD,Qr⟩,zD⟩
    exact Ag (by first|rfl|exact zW cj)<|gL Z<|A1<|AG<|Ao<|Ao<|AG<|Ao<|Ah [6] Z (.bool false) Z ⟨Ch,ci⟩
   refine Al false Z Z (A6 ch) (Ae (e:=165) Z Z Z)<|Ac 1 Z<|Ai Z<|A2<|gK [2,2,0,3,0] Z<|AK (p:=zP w.heap.size) (.inr Z) [vp,zI funcs] Qp Z (fun e9 ad=>LD.of_box<|BX.ext (w:=ea) am ad) Z Aa<|AK (p:=zP eb.heap.size) (.inr Z) [zI<|(ex.kids.getD k Ex.zero).kind,zI<|(ex.kids.getD k Ex.zero).num,zI<|(ex.kids.getD k Ex.zero).pick,zI<|(ex.kids.getD k Ex.zero).count,a5] Bh Z (fun e9 ad=>LD.of_box<|BX.ext (w:=ea) ar ad) Z Aa<|Ad 1 Z ?_
   refine Ap 195 [] [] [.agg #[vp,zI funcs],.agg #[zI<|(ex.kids.getD k Ex.zero).kind,zI<|(ex.kids.getD k Ex.zero).num,zI<|(ex.kids.getD k Ex.zero).pick,zI<|(ex.kids.getD k Ex.zero).count,a5],zI vars] Z Z RQ Aa (ih dd69 oM _ dp vp (p) (funcs) a5 (ex.kids.getD k Ex.zero) _ (hp.ext (Am<|Az dp) ab) _hfuncs (aq.ext ab) _hvars oM oM) ?_
   rintro ek el ⟨rfl,av⟩
   refine⟨_,rfl,av,?_⟩
   have dd:=av.size
   have ck:=ab.trans av
   have b7:=am.ext av
   have b8:=b3.ext av
   refine Bo (!(wf p funcs (ex.kids.getD k Ex.zero) vars)) Z Z Aa<|Aj ?_
   cases cl:(!(wf p funcs (ex.kids.getD k Ex.zero) vars))
   ·refine Ai (by first|rfl|exact zW cl)<|A2<|Ab _ [0,0] Z<|AQ ((k+1:Nat):Int) Z Z (Bi oM sD) Aa<|Ac 1 Z ?_
    exact⟨k+1,_,rfl,zR,⟨ck,b7,b8,sD,Qr⟩,zD⟩
   exact Ag (by first|rfl|exact zW cl)<|gL Z<|A1<|AG<|Ao<|Ao<|AG<|Ao<|Ah [6] Z (.bool false) Z ⟨Ch,ck⟩
  refine Al false Z Z (A6 cg) Aa<|Ac 4 Z<|Ai Z<|A2<|gK [2,2,0,3,0] Z<|AK (p:=zP w.heap.size) (.inr Z) [vp,zI funcs] Qp Z (fun e9 ad=>LD.of_box<|BX.ext (w:=ea) am ad) Z Aa<|AK (p:=zP eb.heap.size) (.inr Z) [zI<|(ex.kids.getD k Ex.zero).kind,zI<|(ex.kids.getD k Ex.zero).num,zI<|(ex.kids.getD k Ex.zero).pick,zI<|(ex.kids.getD k Ex.zero).count,a5] Bh Z (fun e9 ad=>LD.of_box<|BX.ext (w:=ea) ar ad) Z Aa<|Ad 1 Z ?_
  refine Ap 195 [] [] [.agg #[vp,zI funcs],.agg #[zI<|(ex.kids.getD k Ex.zero).kind,zI<|(ex.kids.getD k Ex.zero).num,zI<|(ex.kids.getD k Ex.zero).pick,zI<|(ex.kids.getD k Ex.zero).count,a5],zI vars] Z Z RQ Aa (ih dd69 oM _ dp vp (p) (funcs) a5 (ex.kids.getD k Ex.zero) _ (hp.ext (Am<|Az dp) ab) _hfuncs (aq.ext ab) _hvars oM oM) ?_
  rintro em en ⟨rfl,aw⟩
  refine⟨_,rfl,aw,?_⟩
  have de:=aw.size
  have cm:=ab.trans aw
  have b9:=am.ext aw
  have ba:=b3.ext aw
  refine Bo (!(wf p funcs (ex.kids.getD k Ex.zero) vars)) Z Z Aa<|Aj ?_
  cases cn:(!(wf p funcs (ex.kids.getD k Ex.zero) vars))
  ·refine Ai (by first|rfl|exact zW cn)<|A2<|Ab _ [0,0] Z<|AQ ((k+1:Nat):Int) Z Z (Bi oM sD) Aa<|Ac 1 Z ?_
   exact⟨k+1,_,rfl,zR,⟨cm,b9,ba,sD,Qr⟩,zD⟩
  exact Ag (by first|rfl|exact zW cn)<|gL Z<|A1<|AG<|Ao<|Ao<|AG<|Ao<|Ah [6] Z (.bool false) Z ⟨Ch,cm⟩
 exact AI false Z Z (A6 cd) Aa<|Aj<|A0<|Ai Z<|A4<|AA<|AA<|Av<|gL Z<|A1<|Ah [6] Z (.bool true) Z ⟨Ch,b0⟩
theorem Qs {s:ByteArray}{k:Nat}(hk:k<s.size)(h:(KL s k<97∨122<KL s k)∧(k=0∨KL s k<48∨57<KL s k)):false=LR s:=by
  have hc:XK s k=false:=by
    unfold XK
    rcases h with⟨h1|h1,h2|h2|h2⟩ <;> simp <;> omega
  unfold LR
  rw[KR hk hc,Bool.and_false]
theorem S0 {s:ByteArray}{k:Nat}(h:(97≤KL s k∧KL s k≤122)∨(k≠0∧48≤KL s k∧KL s k≤57)):XK s k=true:=by
  unfold XK
  rcases h with h|h <;> simp <;> omega
theorem UZ {s:ByteArray}{k:Nat}{b:Bool}(h:(List.range k).all (XK s)=true)(hk:k=s.size)(hb:b=(decide (1≤s.size) && decide (s.size≤12))):b=LR s:=by
  subst hk
  unfold LR
  rw[h,Bool.and_true,hb]
theorem Iv {p:Prop}(h:p:=by first|exact AO (Qs (k:=k) oM oM)|exact AO (UZ hq oM (by first|(rw[A5 (show 1≤s.size by omega),Bool.true_and];exact decide_eq_decide.2 oM)|(rw[A6 (show ¬1≤s.size by omega)];rfl)))):p:=h
theorem Nl (w:World)(s:ByteArray)  (hl:s.size≤1000000000) :
  Calls Tryz.prog 153 #[.string s] w (fun e w'=>e=.returned (.bool (LR s))∧w'=w):=by
 refine Aq [.string s] 44 Tryz.func153 Z Z sM ?_
 have a3:w=w:=rfl
 refine gL Z<|A0<|gK [0,0,0] Z<|Ad 1 Z<|Ma (s:=s) u9 Z Aa<|Ac 1 Z<|A3 ?_
 refine AU (S:=Nat) (fun k=>([(6,zI (k:Int)),(0,.string s),(5,zI (s.size:Int))])) (fun k W=>W=w∧k≤s.size∧(List.range k).all (XK s)=true) (fun k=>s.size-k) 0 ⟨rfl,rfl,rfl,trivial⟩ ⟨a3,sD,(by rfl)⟩ ?_
 clear a3
 rintro k ρ1 w1 ⟨a0,a4,hq⟩
 refine gK [0] Z ?_
 by_cases a5:(k:Int)<(s.size:Int)
 ·refine AI true Z Z (A5 a5) Aa<|Aj<|A0<|Ag Z<|A2<|A0<|A3<|gK [0,0] Z<|Ac 2 Z<|gK [0,0,0,0,0,0,0,0,0,0,0,0,0,0,0,0,0,0,0,0,0,0,0,0,0,0] Z<|Ad 2 Z<|Dx (s:=s) k u9 Z Z Z sD Aa ?_
  by_cases a6:((KL s k:Nat):Int)<97
  ·refine AI true Z Z (A5 a6) Aa<|Ad 8 Z ?_
   by_cases a7:(k:Int)=((0:Nat):Int)
   ·exact Al true Z Z (A5 a7) (Ae (e:=19) Z Z Z)<|Ac 13 Z<|Ag Z<|gL Z<|A1<|AG<|Ao<|Ao<|AG<|Ao<|Ah [2] Z (.bool false) Z ⟨Iv,a0⟩
   refine Al false Z Z (A6 a7) (Ae (e:=19) Z Z Z)<|Ad 3 Z<|Dx (s:=s) k u9 Z Z Z sD (Ae (e:=22) Z Z Z) ?_
   by_cases a8:((KL s k:Nat):Int)<48
   ·exact AI true Z Z (A5 a8) (Ae (e:=22) Z Z Z)<|Ac 8 Z<|Ag Z<|gL Z<|A1<|AG<|Ao<|Ao<|AG<|Ao<|Ah [2] Z (.bool false) Z ⟨Iv,a0⟩
   refine AI false Z Z (A6 a8) (Ae (e:=22) Z Z Z)<|Ad 4 Z<|Dx (s:=s) k u9 Z Z Z sD (Ae (e:=28) Z Z Z) ?_
   by_cases a9:57<((KL s k:Nat):Int)
   ·exact C2 true Z Z (A5 a9) (Ae (e:=28) Z Z Z)<|Ac 2 Z<|Ag Z<|gL Z<|A1<|AG<|Ao<|Ao<|AG<|Ao<|Ah [2] Z (.bool false) Z ⟨Iv,a0⟩
   refine C2 false Z Z (A6 a9) (Ae (e:=28) Z Z Z)<|Ac 2 Z<|Ai Z<|A2<|Ab _ [0,0] Z<|AQ ((k+1:Nat):Int) Z Z (Bi oM sD) Aa<|Ac 1 Z ?_
   exact⟨k+1,_,rfl,zR,⟨a0,sD,(by exact Eh hq (S0 oM))⟩,zD⟩
  refine AI false Z Z (A6 a6) Aa<|Ad 3 Z<|Dx (s:=s) k u9 Z Z Z sD (Ae (e:=13) Z Z Z) ?_
  by_cases aa:122<((KL s k:Nat):Int)
  ·refine C2 true Z Z (A5 aa) (Ae (e:=13) Z Z Z)<|Ad 3 Z ?_
   by_cases ab:(k:Int)=((0:Nat):Int)
   ·exact Al true Z Z (A5 ab) (Ae (e:=19) Z Z Z)<|Ac 13 Z<|Ag Z<|gL Z<|A1<|AG<|Ao<|Ao<|AG<|Ao<|Ah [2] Z (.bool false) Z ⟨Iv,a0⟩
   refine Al false Z Z (A6 ab) (Ae (e:=19) Z Z Z)<|Ad 3 Z<|Dx (s:=s) k u9 Z Z Z sD (Ae (e:=22) Z Z Z) ?_
   by_cases ac:((KL s k:Nat):Int)<48
   ·exact AI true Z Z (A5 ac) (Ae (e:=22) Z Z Z)<|Ac 8 Z<|Ag Z<|gL Z<|A1<|AG<|Ao<|Ao<|AG<|Ao<|Ah [2] Z (.bool false) Z ⟨Iv,a0⟩
   refine AI false Z Z (A6 ac) (Ae (e:=22) Z Z Z)<|Ad 4 Z<|Dx (s:=s) k u9 Z Z Z sD (Ae (e:=28) Z Z Z) ?_
   by_cases a1:57<((KL s k:Nat):Int)
   ·exact C2 true Z Z (A5 a1) (Ae (e:=28) Z Z Z)<|Ac 2 Z<|Ag Z<|gL Z<|A1<|AG<|Ao<|Ao<|AG<|Ao<|Ah [2] Z (.bool false) Z ⟨Iv,a0⟩
   refine C2 false Z Z (A6 a1) (Ae (e:=28) Z Z Z)<|Ac 2 Z<|Ai Z<|A2<|Ab _ [0,0] Z<|AQ ((k+1:Nat):Int) Z Z (Bi oM sD) Aa<|Ac 1 Z ?_
   exact⟨k+1,_,rfl,zR,⟨a0,sD,(by exact Eh hq (S0 oM))⟩,zD⟩
  refine C2 false Z Z (A6 aa) (Ae (e:=13) Z Z Z)<|Ac 17 Z<|Ai Z<|A2<|Ab _ [0,0] Z<|AQ ((k+1:Nat):Int) Z Z (Bi oM sD) Aa<|Ac 1 Z ?_
  exact⟨k+1,_,rfl,zR,⟨a0,sD,(by exact Eh hq (S0 oM))⟩,zD⟩
 refine AI false Z Z (A6 a5) Aa<|Aj<|A0<|Ai Z<|A4<|AA<|AA<|Av<|gK [0,0,0,0,0,0,0,0,0] Z<|Ad 1 Z<|Ma (s:=s) u9 Z Aa ?_
 by_cases a2:((1:Nat):Int)≤(s.size:Int)
 ·exact De true Z Z (A5 a2) Aa<|Ad 2 Z<|Ma (s:=s) u9 Z (Ae (e:=39) Z Z Z)<|En (decide ((s.size:Int)≤((12:Nat):Int))) Z Z Z (Ae (e:=39) Z Z Z)<|Ac 2 Z<|A1<|Ah [2] Z (.bool<|decide ((s.size:Int)≤((12:Nat):Int))) Z ⟨Iv,a0⟩
 exact De false Z Z (A6 a2) Aa<|Ac 6 Z<|A1<|Ah [2] Z (.bool false) Z ⟨Iv,a0⟩
theorem I8 (w:World)(dx:Nat)(vo:Value)(x:Fn)(bf:Nat)(vf:Value)(f:Fn)(hx:RF [] dx w.heap vo x)(hBf:BX w.heap bf [.string f.name,zI f.params,vf])  :
  Calls Tryz.prog 155 #[(.agg #[(.string x.name),(zI x.params),vo]),zP bf] w (fun e w'=>e=.returned (.bool (IV x.name f.name))∧AH w w'):=by
 refine Aq [.agg #[.string x.name,zI x.params,vo],zP bf] 9 Tryz.func155 Z Z sM ?_
 have a3:AH w w:=AH.refl w
 have a8:=hx.rn.lenle
 unfold maxLen at a8
 refine gK [3,0] Z ?_
 have a6:=hBf.lt
 refine By (cs:=#[.string x.name,zI x.params,vo]) Z Aa fun w1 a1 a7 a2=>?_
 have a4:=a1.size
 have a5:=a3.trans a1
 have a0:=hBf.ext a1
 replace a2:BX w1.heap w.heap.size [.string x.name,zI x.params,vo]:=a2
 exact Ac 1 Z<|gK [0,2,0,2,0,0] Z<|Ak (p:=zP w.heap.size) 0 L2 Z Z Aa<|Af (p:=An (zP w.heap.size) 0) (.inr Z) (.string x.name) Qn Z (a2.ldp (i:=0) sM) Aa<|Ak (p:=zP bf) 0 L2 Z Z Aa<|Af (p:=An (zP bf) 0) (.inr Z) (.string f.name) Qn Z (a0.ldp (i:=0) sM) Aa<|Q0 (IV x.name f.name) u9 Z Z Z Aa<|Ac 1 Z<|A1<|Ah [3] Z (.bool<|IV x.name f.name) Z ⟨rfl,a5⟩
theorem Do (w:World) (da:Nat) (va:Value) (a:List Fn) (q:Nat) (qf qc:List Value) (pr:Fn→Bool) (ha:RP [] da w.heap va a) (hcf_q:((Tryz.prog.funcs[q]?).map fun fn=>(fn.name != "runtime.NumGoroutine") && fn.body.isSome) = some true) (hpr:∀ (d9:Nat) (u:Value) (x:Fn) w1,RF [] d9 w1.heap u x→AH w w1→Calls Tryz.prog q (qf++[Value.agg #[Value.string x.name,Value.int .i64 x.params,u]]++qc).toArray w1 (fun e w2=>e = .returned (.bool (pr x))∧AH w1 w2))  :
  Calls Tryz.prog 192 #[va,.func (.func q) qf.toArray qc.toArray] w (fun e w'=>e = .returned (zI (SH pr a))∧AH w w'):=by
 refine Aq [va,.func (.func q) qf.toArray qc.toArray] 19 Tryz.func192 Z Z sM ?_
 have a5:AH w w:=AH.refl w
 have ag:=ha.lenle
 unfold maxLen at ag
 refine gL Z<|A0<|gK [0,0,0] Z<|Ad 1 Z<|AR (v:=va) Gx Z ha.isSl Aa<|Ac 1 Z<|A3 ?_
 refine AU (S:=Nat) (fun k=>([(8,zI ((k :Nat):Int)),(0,va),(1,.func (.func q) qf.toArray qc.toArray),(7,zI ((a.length :Nat):Int))])) (fun k W=>AH w W∧k≤a.length∧(∀ j,j < k→pr (a.getD j Fn.zero) = false)) (fun k=>a.length - k) 0 ⟨rfl,rfl,rfl,rfl,trivial⟩ ⟨a5,sD,(by intro j hj; omega)⟩ ?_
 clear a5
 rintro k ρ1 w1 ⟨a1,a6,hq⟩
 have aa:w.heap.size≤w1.heap.size:=a1.size
 refine gK [0] Z ?_
 by_cases a7:((k :Nat):Int) < ((a.length :Nat):Int)
 ·
  refine AI true Z Z (A5 a7) Aa<|Aj<|A0<|Ag Z<|A2<|A0<|A3<|gK [0,0] Z<|Ac 2 Z<|gK [0,0,0,0,2,3] Z<|Ad 3 Z<|Aw (v:=va) k Gx Co Z Z ha.isSl Z sD Aa ?_
  obtain ⟨cs3,ab,ac⟩:=ha.get (Az da) Fn.zero (k:=k) sD
  obtain ⟨a8,rfl,a2⟩:=RF.of ab
  have a3:=a2.rn.lenle
  unfold maxLen at a3
  refine AK (p:=Ay va k 3) (.inr Z) [.string<|(a.getD k Fn.zero).name,zI<|(a.getD k Fn.zero).params,a8] KD Z (fun ah ad=>ac ah<|At.of_ext []<|a1.trans ad) Z Aa ?_
  have a0:=hpr da a8 (a.getD k Fn.zero) w1 ⟨a2.rng,a2.rn.ext (Am<|Ax da) a1⟩ a1
  refine Ap q qf qc _ Z Z hcf_q Aa a0 ?_
  rintro e4 w4 ⟨rfl,a4⟩
  refine ⟨_,rfl,a4,?_⟩
  have ae:=a4.size
  have a9:=a1.trans a4
  cases af:pr (a.getD k Fn.zero)
  ·
   refine Aj<|Ai Z<|A2<|Ab _ [0,0] Z<|AQ ((k + 1 :Nat):Int) Z Z (Bi oM sD) Aa<|Ac 1 Z ?_
   exact ⟨k + 1,_,rfl,zR,⟨a9,sD,(by exact RZ hq (by assumption))⟩,by first | omega | (dsimp only; omega)⟩
  exact Aj<|Ag Z<|gK [0,0] Z<|Ac 2 Z<|A1<|AG<|Ao<|Ao<|AG<|Ao<|Ah [4] Z (zI ((k :Nat):Int)) Z ⟨B5<|UU Fn.zero hq oM (by assumption),a9⟩
 exact AI false Z Z (A6 a7) Aa<|Aj<|A0<|Ai Z<|A4<|AA<|AA<|Av<|gL Z<|A1<|Ah [4] Z (zI (-1)) Z ⟨B5<|YB Fn.zero hq oM,a1⟩
theorem Da (w:World) (da:Nat) (va:Value) (a:List Fn) (q:Nat) (qf qc:List Value) (pr:Fn→Bool) (ha:RP [] da w.heap va a) (hcf_q:((Tryz.prog.funcs[q]?).map fun fn=>(fn.name != "runtime.NumGoroutine") && fn.body.isSome) = some true) (hpr:∀ (d9:Nat) (u:Value) (x:Fn) w1,RF [] d9 w1.heap u x→AH w w1→Calls Tryz.prog q (qf++[Value.agg #[Value.string x.name,Value.int .i64 x.params,u]]++qc).toArray w1 (fun e w2=>e = .returned (.bool (pr x))∧AH w1 w2))  :
  Calls Tryz.prog 154 #[va,.func (.func q) qf.toArray qc.toArray] w (fun e w'=>e = .returned (.bool (a.any pr))∧AH w w'):=by
 refine Aq [va,.func (.func q) qf.toArray qc.toArray] 9 Tryz.func154 Z Z sM ?_
 have a0:AH w w:=AH.refl w
 have a4:=ha.lenle
 unfold maxLen at a4
 refine gL Z<|gK [0,0,3,0,0] Z<|Ad 2 Z<|Ap 192 [] [] [va,.func (.func q) qf.toArray qc.toArray] Z Z dA Aa (Do _ da va (a) q qf qc pr (ha.ext (Am<|Az da) a0) hcf_q fun d9 u x w1 hx hw=>hpr d9 u x w1 hx<|a0.trans hw) ?_
 rintro e1 w1 ⟨rfl,a1⟩
 refine ⟨_,rfl,a1,?_⟩
 have a2:=a1.size
 have a3:=a0.trans a1
 exact De (decide (((0 :Nat):Int)≤SH pr a)) Z Z Z Aa<|Ac 1 Z<|A1<|Ah [4] Z (.bool<|decide (((0 :Nat):Int)≤SH pr a)) Z ⟨AO<|YC pr a,a3⟩
theorem MR (w:World)(vars:Int)(_hvars:Bn vars)  :
  Calls Tryz.prog 193 #[zI vars] w (fun e w'=>e=.returned (.bool (Ff vars 0 412))∧w'=w):=by
 refine Aq [zI vars] 5 Tryz.func193 Z Z sM ?_
 have a0:w=w:=rfl
 exact gL Z<|gK [0,0,0] Z<|Ad 1 Z<|AB 66 [] [] [zI vars,zI ((0:Nat):Int),zI ((412:Nat):Int)] Z Z FC Aa (.bool (decide (((0:Nat):Int)≤vars) && decide (vars≤((412:Nat):Int)))) (fun wq=>Ba wq _ _ _ _hvars oM oM)<|Ac 1 Z<|A1<|Ah [2] Z (.bool (decide (((0:Nat):Int)≤vars) && decide (vars≤((412:Nat):Int)))) Z ⟨rfl,a0⟩
theorem S3 {p:List Fn}{e:Ex}{vars funcs:Int}(h:(0≤vars∧vars≤412)∧(0≤funcs∧funcs≤((p.length:Nat):Int))∧e.size≤400∧e.deep≤60):wf p funcs e vars=Ng p e vars funcs:=by
  unfold Ng
  rw[BH.2 h.1,BH.2 h.2.1,A5 h.2.2.1,A5 h.2.2.2];rfl
theorem O1 {p:List Fn}{e:Ex}{vars funcs:Int}(h:¬((0≤vars∧vars≤412)∧(0≤funcs∧funcs≤((p.length:Nat):Int))∧e.size≤400∧e.deep≤60)):false=Ng p e vars funcs:=by
  cases hh:Ng p e vars funcs with
  |false=>rfl
  |true =>
    unfold Ng at hh
    simp only[z7,decide_eq_true_eq,BH]at hh
    exact absurd ⟨hh.1,hh.2.1,hh.2.2.1,hh.2.2.2.1⟩ h
theorem YE {p:List Fn}{e:Ex}{vars funcs:Int}(h:wf p funcs e vars=false):false=Ng p e vars funcs:=by
  unfold Ng;rw[h];simp
theorem V0 {x a b:Int}(h:Ff x a b=false):¬(a≤x∧x≤b):=fun hh=>by rw[BH.2 hh]at h;cases h
theorem S5 {x a b:Int}(h:(decide (a≤x) && decide (x≤b))=false):¬(a≤x∧x≤b):=V0 h
theorem Iw {x a b:Int}(h:(decide (a≤x) && decide (x≤b))=true):a≤x∧x≤b:=BH.1 h
theorem MS {p:Prop}(h:p:=by first|exact AO (YE (by assumption))|exact AO (S3 ⟨BH.1 (by assumption),Iw (by assumption),zO,zO⟩)|exact AO ((by assumption:wf p funcs ex vars=true).symm.trans (S3 ⟨BH.1 (by assumption),Iw (by assumption),zO,zO⟩))|exact AO (O1 fun hh=>V0 (by assumption) hh.1)|exact AO (O1 fun hh=>S5 (by assumption) hh.2.1)|exact AO (O1 oM)):p:=h
theorem L6 (w:World)(dp:Nat)(vp:Value)(p:List Fn)(dex:Nat)(ve:Value)(ex:Ex)(vars:Int)(funcs:Int)(hp:RP [] dp w.heap vp p)(hex:RX [] dex w.heap ve ex)(_hvars:Bn vars)(_hfuncs:Bn funcs)(hs:ex.size≤1000000000) :
  Calls Tryz.prog 156 #[(.agg #[vp]),(.agg #[(zI ex.kind),(zI ex.num),(zI ex.pick),(zI ex.count),ve]),zI vars,zI funcs] w (fun e w'=>e=.returned (.bool (Ng p ex vars funcs))∧AH w w'):=by
 refine Aq [.agg #[vp],.agg #[zI ex.kind,zI ex.num,zI ex.pick,zI ex.count,ve],zI vars,zI funcs] 36 Tryz.func156 Z Z sM ?_
 have am:AH w w:=AH.refl w
 have az:=hp.lenle
 unfold maxLen at az
 have b0:=hex.rn.lenle
 unfold maxLen at b0
 refine gK [3,3,0] Z (By (cs:=#[vp]) Z Aa fun w1 ai ar ac=>?_)
 have an:=ai.size
 have ao:=am.trans ai
 replace ac:BX w1.heap w.heap.size [vp]:=ac
 have au:=ac.lt
 refine By (cs:=#[zI ex.kind,zI ex.num,zI ex.pick,zI ex.count,ve]) Z Aa fun w2 af av ad=>?_
 have ap:=af.size
 have ae:=ao.trans af
 have a2:=ac.ext af
 replace ad:BX w2.heap w1.heap.size [zI ex.kind,zI ex.num,zI ex.pick,zI ex.count,ve]:=ad
 refine Ac 1 Z<|gK [0,0,0,0,0,2,0,0,0,0,2,3,0,0,0,2,3,0,0,0,2,0,0,2,0,3,0,0] Z<|Ad 1 Z<|AB 193 [] [] [zI vars] Z Z dB Aa (.bool<|Ff vars 0 412) (fun wq=>MR wq _ _hvars)<|Ad 1 Z ?_
 cases aw:(Ff vars 0 412)
 ·exact Ac 25 Z<|A1<|Ah [8] Z (.bool false) Z ⟨MS,ae⟩
 refine Ad 1 Z<|Ak (p:=zP w.heap.size) 0 BB Z Z (Ae (e:=11) Z Z Z)<|Af (p:=An (zP w.heap.size) 0) (.inr Z) vp C4 Z (a2.ldp (i:=0) sM) (Ae (e:=11) Z Z Z)<|AR (v:=vp) Gx Z hp.isSl (Ae (e:=11) Z Z Z)<|AB 66 [] [] [zI funcs,zI ((0:Nat):Int),zI (p.length:Int)] Z Z FC (Ae (e:=11) Z Z Z) (.bool (decide (((0:Nat):Int)≤funcs) && decide (funcs≤(p.length:Int)))) (fun wq=>Ba wq _ _ _ _hfuncs oM oM)<|Ad 2 Z ?_
 cases ax:(decide (((0:Nat):Int)≤funcs) && decide (funcs≤(p.length:Int)))
 ·exact Ac 18 Z<|A1<|Ah [8] Z (.bool false) Z ⟨MS,ae⟩
 refine AK (p:=zP w1.heap.size) (.inr Z) [zI ex.kind,zI ex.num,zI ex.pick,zI ex.count,ve] Bh Z (fun b1 a4=>LD.of_box<|BX.ext (w:=w2) ad a4) Z (Ae (e:=18) Z Z Z)<|Ap 157 [] [] [.agg #[zI ex.kind,zI ex.num,zI ex.pick,zI ex.count,ve]] Z Z UG (Ae (e:=18) Z Z Z) (HZ _ dex ve (ex) (hex.ext ae) oM) ?_
 rintro e8 w8 ⟨rfl,a8⟩
 refine⟨_,rfl,a8,?_⟩
 have aq:=a8.size
 have ag:=ae.trans a8
 have a9:=a2.ext a8
 have a3:=ad.ext a8
 by_cases aj:(ex.size:Int)≤((400:Nat):Int)
 ·refine En true Z Z (A5 aj) (Ae (e:=18) Z Z Z)<|Ad 2 Z<|AK (p:=zP w1.heap.size) (.inr Z) [zI ex.kind,zI ex.num,zI ex.pick,zI ex.count,ve] Bh Z (fun b1 a4=>LD.of_box<|BX.ext (w:=w8) a3 a4) Z (Ae (e:=23) Z Z Z)<|Ap 194 [] [] [.agg #[zI ex.kind,zI ex.num,zI ex.pick,zI ex.count,ve]] Z Z Yp (Ae (e:=23) Z Z Z) (L5 _ dex ve (ex) (hex.ext ag) oM) ?_
  rintro b4 b2 ⟨rfl,a0⟩
  refine⟨_,rfl,a0,?_⟩
  have ak:=a0.size
  have a1:=ag.trans a0
  have a5:=a9.ext a0
  have a6:=a3.ext a0
  by_cases aa:(ex.deep:Int)≤((60:Nat):Int)
  ·refine En true Z Z (A5 aa) (Ae (e:=23) Z Z Z)<|Ad 2 Z<|AK (p:=zP w.heap.size) (.inr Z) [vp] Cf Z (fun b1 a4=>LD.of_box<|BX.ext (w:=b2) a5 a4) Z (Ae (e:=28) Z Z Z)<|Ad 1 Z ?_
   have ab:∀(vp:Value) (ay:Nat) (h12_0:FU vp ay) (wq:World),(Instr.build 248 #[(0,.agg #[vp]),(1,zI funcs)]).run Tryz.prog wq=.ok (.agg #[vp,zI funcs]) wq:=by intro vp ay h12_0 wq;obtain⟨a12_0,b3,rfl,_⟩:=h12_0;kernel_rfl
   refine BQ (ps:=#[(0,.agg #[vp]),(1,zI funcs)]) (.agg #[vp,zI funcs]) (by simp only[zc,zf,zh];rfl) (fun wq=>ab vp _ hp.isSl wq) (Ae (e:=28) Z Z Z)<|AK (p:=zP w1.heap.size) (.inr Z) [zI ex.kind,zI ex.num,zI ex.pick,zI ex.count,ve] Bh Z (fun b1 a4=>LD.of_box<|BX.ext (w:=b2) a6 a4) Z (Ae (e:=28) Z Z Z)<|Ad 1 Z ?_
   refine Ap 195 [] [] [.agg #[vp,zI funcs],.agg #[zI ex.kind,zI ex.num,zI ex.pick,zI ex.count,ve],zI vars] Z Z RQ (Ae (e:=28) Z Z Z) (Ho _ dp vp (p) (funcs) dex ve (ex) _ (hp.ext (Am<|Az dp) a1) _hfuncs (hex.ext a1) _hvars (by have h1:=BH.1 (by assumption:Ff vars 0 412=true);omega) (by have h2:=Iw (by assumption:(decide (((0:Nat):Int)≤funcs) && decide (funcs≤(p.length:Int)))=true);omega)) ?_
   rintro b5 b6 ⟨rfl,a7⟩
   refine⟨_,rfl,a7,?_⟩
   have al:=a7.size
   have ah:=a1.trans a7
   exact Ac 2 Z<|A1<|Ah [8] Z (.bool<|wf p funcs ex vars) Z ⟨MS,ah⟩
  exact En false Z Z (A6 aa) (Ae (e:=23) Z Z Z)<|Ac 10 Z<|A1<|Ah [8] Z (.bool false) Z ⟨MS,a1⟩
 exact En false Z Z (A6 aj) (Ae (e:=18) Z Z Z)<|Ac 15 Z<|A1<|Ah [8] Z (.bool false) Z ⟨MS,ag⟩
theorem V1 {p:List Fn}(h:¬p.length≤16):false=GJ p:=by unfold GJ;rw[A6 h];rfl
theorem Jv {p:List Fn}{k:Nat}(hk:k<p.length)(h:Ln p k=false):false=GJ p:=by unfold GJ;rw[KR hk h,Bool.and_false]
theorem V2 {p:List Fn}{k:Nat}(hl:p.length≤16)(hk:p.length≤k)(hk2:k≤p.length)(h:(List.range k).all (Ln p)=true):true=GJ p:=by
  have:k=p.length:=by omega
  subst this;unfold GJ;rw[h,A5 hl];rfl
section
variable {p:List Fn} {k:Nat}
theorem dW (h:LR (p.getD k Fn.zero).name=false):Ln p k=false:=by unfold Ln;rw[h];rfl
theorem dX (h:(p.take k).any (fun g=>IV g.name (p.getD k Fn.zero).name)=true):Ln p k=false:=by unfold Ln Sk;rw[h];simp
theorem dY (h:(decide (((0:Nat):Int)≤(p.getD k Fn.zero).params) && decide ((p.getD k Fn.zero).params≤((12:Nat):Int)))=false):Ln p k=false:=by
  have h':Ff (p.getD k Fn.zero).params 0 12=false:=h
  unfold Ln;rw[h'];simp
theorem dZ (h:(decide (((1:Nat):Int)≤(((p.getD k Fn.zero).outs.length:Nat):Int)) && decide ((((p.getD k Fn.zero).outs.length:Nat):Int)≤((12:Nat):Int)))=false):Ln p k=false:=by
  have h':Ff (((p.getD k Fn.zero).outs.length:Nat):Int) 1 12=false:=h
  unfold Ln;rw[h'];simp
theorem eA {j:Nat}(hj:j<(p.getD k Fn.zero).outs.length)(h:Ng p ((p.getD k Fn.zero).outs.getD j Ex.zero) (p.getD k Fn.zero).params ((k:Nat):Int)=false):Ln p k=false:=by
  unfold Ln
  rw[KR hj h];simp
theorem eB (h:¬Ex.sizes (p.getD k Fn.zero).outs≤400):Ln p k=false:=by
  unfold Ln;rw[A6 h];simp
theorem YF {j:Nat}(h1:LR (p.getD k Fn.zero).name=true)(h2:(p.take k).any (fun g=>IV g.name (p.getD k Fn.zero).name)=false)(h3:(decide (((0:Nat):Int)≤(p.getD k Fn.zero).params) && decide ((p.getD k Fn.zero).params≤((12:Nat):Int)))=true)(h4:(decide (((1:Nat):Int)≤(((p.getD k Fn.zero).outs.length:Nat):Int)) && decide ((((p.getD k Fn.zero).outs.length:Nat):Int)≤((12:Nat):Int)))=true)(h5:(List.range j).all (fun j=>Ng p ((p.getD k Fn.zero).outs.getD j Ex.zero) (p.getD k Fn.zero).params ((k:Nat):Int))=true)(hj:j=(p.getD k Fn.zero).outs.length)(h6:Ex.sizes (p.getD k Fn.zero).outs≤400):Ln p k=true:=by
  have h3':Ff (p.getD k Fn.zero).params 0 12=true:=h3
  have h4':Ff (((p.getD k Fn.zero).outs.length:Nat):Int) 1 12=true:=h4
  subst hj
  unfold Ln Sk
  rw[h1,h2,h3',h4',h5,A5 h6];rfl
end
theorem Dp {b:Bool}(h:(!b)=false):b=true:=by cases b <;> simp_all
theorem Db {b:Bool}(h:(!b)=true):b=false:=by cases b <;> simp_all
theorem Ix {p:Prop}(h:p:=by first|exact AO (V1 oM)|exact AO (V2 oM oM oM hq)|exact AO (Jv (k:=k) oM (dW (Db (by assumption))))|exact AO (Jv (k:=k) oM (dX (by assumption)))|exact AO (Jv (k:=k) oM (dY (Db (by assumption))))|exact AO (Jv (k:=k) oM (dZ (Db (by assumption))))|exact AO (Jv (k:=k) oM (eA (j:=j) oM (Db (by assumption))))|exact AO (Jv (k:=k) oM (eB oM))):p:=h
theorem FS (w:World)(dp:Nat)(vp:Value)(p:List Fn)(hp:RP [] dp w.heap vp p)(hz:PO p) :
  Calls Tryz.prog 100 #[(.agg #[vp])] w (fun e w'=>e=.returned (.bool (GJ p))∧AH w w'):=by
 refine Aq [.agg #[vp]] 65 Tryz.func100 Z Z sM ?_
 have bq:AH w w:=AH.refl w
 have ch:=hp.lenle
 unfold maxLen at ch
 refine gK [3,0] Z (By (cs:=#[vp]) Z Aa fun w1 be c0 aw=>?_)
 have bf:=be.size
 have bg:=bq.trans be
 replace aw:BX w1.heap w.heap.size [vp]:=aw
 refine Ac 1 Z<|A0<|gK [0,2,0,0] Z<|Ak (p:=zP w.heap.size) 0 BB Z Z Aa<|Af (p:=An (zP w.heap.size) 0) (.inr Z) vp C4 Z (aw.ldp (i:=0) sM) Aa<|AR (v:=vp) Gx Z hp.isSl Aa ?_
 by_cases br:((16:Nat):Int)<(p.length:Int)
 ·exact C2 true Z Z (A5 br) Aa<|Aj<|Ag Z<|gL Z<|A1<|Ao<|Ah [2] Z (.bool false) Z ⟨Ix,bg⟩
 refine C2 false Z Z (A6 br) Aa<|Aj<|Ai Z<|A2<|A0<|gK [0,2,0,0] Z<|Ak (p:=zP w.heap.size) 0 BB Z Z Aa<|Af (p:=An (zP w.heap.size) 0) (.inr Z) vp C4 Z (aw.ldp (i:=0) sM) Aa<|AR (v:=vp) Gx Z hp.isSl Aa<|Ac 1 Z<|A3 ?_
 refine AU (S:=Nat) (fun k=>([(15,zI (k:Int)),(1,zP w.heap.size),(13,vp),(14,zI (p.length:Int))])) (fun k W=>AH w W∧BX W.heap w.heap.size [vp]∧k≤p.length∧(List.range k).all (Ln p)=true) (fun k=>p.length-k) 0 ⟨rfl,rfl,rfl,rfl,trivial⟩ ⟨bg,aw,sD,(by rfl)⟩ ?_
 clear bq c0 be bf bg
 rintro k ρ3 w3 ⟨ax,a4,bs,hq⟩
 have bh:w.heap.size≤w3.heap.size:=ax.size
 have ce:=a4.lt
 refine gK [0] Z ?_
 by_cases bt:(k:Int)<(p.length:Int)
 ·refine AI true Z Z (A5 bt) Aa<|Aj<|A0<|Ag Z<|A2<|A0<|A3<|gK [0,0,2,3,0,4] Z<|Ad 1 Z<|Aw (v:=vp) k Gx Co Z Z hp.isSl Z sD Aa ?_
  obtain⟨cs6,c1,c2⟩:=hp.get (Az dp) Fn.zero (k:=k) sD
  obtain⟨ab,rfl,ap⟩:=RF.of c1
  have ay:=ap.rn.lenle
  unfold maxLen at ay
  refine AK (p:=Ay vp k 3) (.inr Z) [.string<|(p.getD k Fn.zero).name,zI<|(p.getD k Fn.zero).params,ab] KD Z (fun cg af=>c2 cg<|At.of_ext []<|ax.trans af) Z Aa ?_
  have cf:=a4.lt
  refine Bs (z:=.agg #[.string ByteArray.empty,zI 0,zN]) Xr Aa fun w7 bb c3 bi=>?_
  have bj:=bb.size
  have bk:=ax.trans bb
  have a5:=a4.ext bb
  replace bi:BX w7.heap w3.heap.size [.string ByteArray.empty,zI 0,zN]:=bi
  refine Ad 1 Z (BE (vs:=[.string<|(p.getD k Fn.zero).name,zI<|(p.getD k Fn.zero).params,ab]) KD Z Z ap.ones bi Z Z Aa fun w9 bc c4 az=>?_)
  replace az:BX w9.heap w3.heap.size [.string ((p.getD k Fn.zero).name),zI ((p.getD k Fn.zero).params),ab]:=az
  have bd:AH w w9:=bc.below bk (fun _ h=>zE h) bk.size
  have bl:=bc.size
  have aq:=a5.chg bc (zB ·)
  refine Aj<|A0<|gK [0,2,0,0,0,0,2,0,0,0,3,0] Z ?_
  have hzk:=hz k oM
  refine Ak (p:=zP w3.heap.size) 0 L2 Z Z Aa<|Af (p:=An (zP w3.heap.size) 0) (.inr Z) (.string<|(p.getD k Fn.zero).name) Qn Z (az.ldp (i:=0) sM) Aa<|AB 153 [] [] [.string<|(p.getD k Fn.zero).name] Z Z cM Aa (.bool<|LR<|(p.getD k Fn.zero).name) (fun wq=>Nl wq ((p.getD k Fn.zero).name) oM)<|Bo (!(LR<|(p.getD k Fn.zero).name)) Z Z Aa<|Ad 1 Z ?_
  cases c5:(!(LR ((p.getD k Fn.zero).name)))
  ·refine Ak (p:=zP w.heap.size) 0 BB Z Z (Ae (e:=24) Z Z Z)<|Af (p:=An (zP w.heap.size) 0) (.inr Z) vp C4 Z (aq.ldp (i:=0) sM) (Ae (e:=24) Z Z Z)<|Ad 1 Z<|YT (v:=vp) (k:=k) Gx Co Z hp.isSl hp.capS Z sD (Ae (e:=24) Z Z Z) ?_
   have b0:=RN.pref (Az dp) (k:=k) hp sD
   refine O5 [] [zP w3.heap.size] Z Z (Ae (e:=24) Z Z Z)<|Ap 154 [] [] [P4 vp k,.func (.func 155) #[] #[zP w3.heap.size]] Z Z cN (Ae (e:=24) Z Z Z) (Da _ dp (P4 vp k) (p.take k) 155 [] [zP w3.heap.size] (fun g=>IV g.name (p.getD k Fn.zero).name) (b0.ext (Am<|Az dp) bd) cO fun d9 u x w1 hx hw=>I8 w1 d9 u x w3.heap.size ab (p.getD k Fn.zero) hx<|az.ext hw) ?_
   rintro cm cn ⟨rfl,a7⟩
   refine⟨_,rfl,a7,?_⟩
   have b1:=a7.size
   have ac:=bd.trans a7
   have a6:=aq.ext a7
   have a0:=az.ext a7
   refine Ac 1 Z ?_
   cases b2:((p.take k).any (fun g=>IV g.name (p.getD k Fn.zero).name))
   ·refine Ai (by first|rfl|exact zW b2)<|A2<|A0<|gK [0,2,0,0,0,0,2,0,0,0,0] Z<|Ak (p:=zP w3.heap.size) 1 C9 Z Z Aa<|Af (p:=An (zP w3.heap.size) 1) (.inr Z) (zI<|(p.getD k Fn.zero).params) AC Z (a0.ldp (i:=1) sM) Aa<|AB 66 [] [] [zI<|(p.getD k Fn.zero).params,zI ((0:Nat):Int),zI ((12:Nat):Int)] Z Z FC Aa (.bool (decide (((0:Nat):Int)≤((p.getD k Fn.zero).params)) && decide (((p.getD k Fn.zero).params)≤((12:Nat):Int)))) (fun wq=>Ba wq _ _ _ ap.rng oM oM) ?_
    refine Bo (!(decide (((0:Nat):Int)≤((p.getD k Fn.zero).params)) && decide (((p.getD k Fn.zero).params)≤((12:Nat):Int)))) Z Z Aa<|Ad 1 Z ?_
    cases c6:(!(decide (((0:Nat):Int)≤((p.getD k Fn.zero).params)) && decide (((p.getD k Fn.zero).params)≤((12:Nat):Int))))
    ·refine Ak (p:=zP w3.heap.size) 2 BU Z Z (Ae (e:=36) Z Z Z)<|Af (p:=An (zP w3.heap.size) 2) (.inr Z) ab Bf Z (a0.ldp (i:=2) sM) (Ae (e:=36) Z Z Z)<|AR (v:=ab) CR Z ap.rn.isSl (Ae (e:=36) Z Z Z)<|AB 66 [] [] [zI ((((p.getD k Fn.zero).outs).length:Nat):Int),zI ((1:Nat):Int),zI ((12:Nat):Int)] Z Z FC (Ae (e:=36) Z Z Z) (.bool (decide (((1:Nat):Int)≤((((p.getD k Fn.zero).outs).length:Nat):Int)) && decide (((((p.getD k Fn.zero).outs).length:Nat):Int)≤((12:Nat):Int)))) (fun wq=>Ba wq _ _ _ oM oM oM) ?_
     refine Bo (!(decide (((1:Nat):Int)≤((((p.getD k Fn.zero).outs).length:Nat):Int)) && decide (((((p.getD k Fn.zero).outs).length:Nat):Int)≤((12:Nat):Int)))) Z Z (Ae (e:=36) Z Z Z)<|Ac 1 Z ?_
     cases b3:(!(decide (((1:Nat):Int)≤((((p.getD k Fn.zero).outs).length:Nat):Int)) && decide (((((p.getD k Fn.zero).outs).length:Nat):Int)≤((12:Nat):Int))))
     ·refine Ai (by first|rfl|exact zW b3)<|A2<|gL Z<|A0<|gK [0,2,0,0] Z<|Ak (p:=zP w3.heap.size) 2 BU Z Z Aa<|Af (p:=An (zP w3.heap.size) 2) (.inr Z) ab Bf Z (a0.ldp (i:=2) sM) Aa<|AR (v:=ab) CR Z ap.rn.isSl Aa<|Ac 1 Z<|A3 ?_
      refine AU (S:=Nat×Nat) (fun⟨j,sz⟩=>([(5,zI (sz:Int)),(46,zI (j:Int)),(1,zP w.heap.size),(3,zI (k:Int)),(4,zP w3.heap.size),(13,vp),(14,zI (p.length:Int)),(15,zI (k:Int)),(44,ab),(45,zI ((((p.getD k Fn.zero).outs).length:Nat):Int))])) (fun⟨j,sz⟩ W=>AH w W∧BX W.heap w.heap.size [vp]∧BX W.heap w3.heap.size [.string<|(p.getD k Fn.zero).name,zI<|(p.getD k Fn.zero).params,ab]∧j≤(p.getD k Fn.zero).outs.length∧sz=Ex.sizes ((p.getD k Fn.zero).outs.take j)∧(List.range j).all (fun j=>Ng p ((p.getD k Fn.zero).outs.getD j Ex.zero) (p.getD k Fn.zero).params (k:Int))=true) (fun⟨j,sz⟩=>(p.getD k Fn.zero).outs.length-j) (0,0) ⟨rfl,rfl,rfl,rfl,rfl,rfl,rfl,rfl,rfl,rfl,trivial⟩ ⟨ac,a6,a0,sD,(by rw[List.take_zero,Nw]),(by rfl)⟩ ?_
      clear a4 ax bh ay c3 bb bj bk a5 c4 bc bd bl aq a7 b1 ac a6
      rintro⟨j,sz⟩ ρ20 ci ⟨ad,a1,a3,bm,hsz,hqe⟩
      have bu:w.heap.size≤ci.heap.size:=ad.size
      have c7:=a1.lt
      have c8:=a3.lt
      refine gK [0] Z ?_
      by_cases b4:(j:Int)<((((p.getD k Fn.zero).outs).length:Nat):Int)
      ·refine AI true Z Z (A5 b4) Aa<|Aj<|A0<|Ag Z<|A2<|A0<|A3<|gK [0,2,3,4] Z<|Aw (v:=ab) j CR Bj Z Z ap.rn.isSl Z sD Aa ?_
       obtain⟨cs24,bn,bo⟩:=ap.rn.get (Ax dp) Ex.zero (k:=j) sD
       obtain⟨dd24,a2,c9,rfl,ag⟩:=RX.of bn
       have b5:=ag.rn.lenle
       unfold maxLen at b5
       refine AK (p:=Ay ab j 5) (.inr Z) [zI<|(((p.getD k Fn.zero).outs).getD j Ex.zero).kind,zI<|(((p.getD k Fn.zero).outs).getD j Ex.zero).num,zI<|(((p.getD k Fn.zero).outs).getD j Ex.zero).pick,zI<|(((p.getD k Fn.zero).outs).getD j Ex.zero).count,a2] Bh Z (fun cg af=>bo cg<|At.of_ext []<|ad.trans af) Z Aa ?_
       have ca:=a1.lt
       have cb:=a3.lt
       refine Bs (z:=.agg #[zI 0,zI 0,zI 0,zI 0,zN]) Ir Aa fun ck ah cc ar=>?_
       have bv:=ah.size
       have b6:=ad.trans ah
       have a8:=a1.ext ah
       have a9:=a3.ext ah
       replace ar:BX ck.heap ci.heap.size [zI 0,zI 0,zI 0,zI 0,zN]:=ar
       refine BE (vs:=[zI<|(((p.getD k Fn.zero).outs).getD j Ex.zero).kind,zI<|(((p.getD k Fn.zero).outs).getD j Ex.zero).num,zI<|(((p.getD k Fn.zero).outs).getD j Ex.zero).pick,zI<|(((p.getD k Fn.zero).outs).getD j Ex.zero).count,a2]) Bh Z Z ag.ones ar Z Z Aa fun cj ai cd aj=>?_
       replace aj:BX cj.heap ci.heap.size [zI ((((p.getD k Fn.zero).outs).getD j Ex.zero).kind),zI ((((p.getD k Fn.zero).outs).getD j Ex.zero).num),zI ((((p.getD k Fn.zero).outs).getD j Ex.zero).pick),zI ((((p.getD k Fn.zero).outs).getD j Ex.zero).count),a2]:=aj
       have au:AH w cj:=ai.below b6 (fun _ h=>zE h) b6.size
       have bw:=ai.size
       have b7:=a8.chg ai (zB ·)
       have b8:=a9.chg ai (zB ·)
       refine Aj<|A0<|gK [2,2,0,2,0,3,0] Z ?_
       have hst:=E9 (l:=(p.getD k Fn.zero).outs) (k:=j) oM
       have hle:=DE (p.getD k Fn.zero).outs (j+1)
       refine AK (p:=zP w.heap.size) (.inr Z) [vp] Cf Z (fun cg af=>LD.of_box<|BX.ext (w:=cj) b7 af) Z Aa<|AK (p:=zP ci.heap.size) (.inr Z) [zI<|(((p.getD k Fn.zero).outs).getD j Ex.zero).kind,zI<|(((p.getD k Fn.zero).outs).getD j Ex.zero).num,zI<|(((p.getD k Fn.zero).outs).getD j Ex.zero).pick,zI<|(((p.getD k Fn.zero).outs).getD j Ex.zero).count,a2] Bh Z (fun cg af=>LD.of_box<|BX.ext (w:=cj) aj af) Z Aa<|Ak (p:=zP w3.heap.size) 1 C9 Z Z Aa<|Af (p:=An (zP w3.heap.size) 1) (.inr Z) (zI<|(p.getD k Fn.zero).params) AC Z (b8.ldp (i:=1) sM) Aa<|Ad 1 Z ?_
       refine Ap 156 [] [] [.agg #[vp],.agg #[zI<|(((p.getD k Fn.zero).outs).getD j Ex.zero).kind,zI<|(((p.getD k Fn.zero).outs).getD j Ex.zero).num,zI<|(((p.getD k Fn.zero).outs).getD j Ex.zero).pick,zI<|(((p.getD k Fn.zero).outs).getD j Ex.zero).count,a2],zI<|(p.getD k Fn.zero).params,zI (k:Int)] Z Z cP Aa (L6 _ dp vp (p) dd24 a2 (((p.getD k Fn.zero).outs).getD j Ex.zero) _ _ (hp.ext (Am<|Az dp) au) (ag.ext au) ap.rng oM oM) ?_
       rintro co cl ⟨rfl,aa⟩
       refine⟨_,rfl,aa,?_⟩
       have bx:=aa.size
       have av:=au.trans aa
       have ak:=b7.ext aa
       have al:=b8.ext aa
       have am:=aj.ext aa
       refine Bo (!(Ng p (((p.getD k Fn.zero).outs).getD j Ex.zero) ((p.getD k Fn.zero).params) (k:Int))) Z Z Aa<|Aj ?_
       cases b9:(!(Ng p (((p.getD k Fn.zero).outs).getD j Ex.zero) ((p.getD k Fn.zero).params) (k:Int)))
       ·refine Ai (by first|rfl|exact zW b9)<|A2<|Ab _ [0,2,3,0,0] Z<|Ad 1 Z<|AK (p:=zP ci.heap.size) (.inr Z) [zI<|(((p.getD k Fn.zero).outs).getD j Ex.zero).kind,zI<|(((p.getD k Fn.zero).outs).getD j Ex.zero).num,zI<|(((p.getD k Fn.zero).outs).getD j Ex.zero).pick,zI<|(((p.getD k Fn.zero).outs).getD j Ex.zero).count,a2] Bh Z (fun cg af=>LD.of_box<|BX.ext (w:=cl) am af) Z Aa ?_
        refine Ap 157 [] [] [.agg #[zI<|(((p.getD k Fn.zero).outs).getD j Ex.zero).kind,zI<|(((p.getD k Fn.zero).outs).getD j Ex.zero).num,zI<|(((p.getD k Fn.zero).outs).getD j Ex.zero).pick,zI<|(((p.getD k Fn.zero).outs).getD j Ex.zero).count,a2]] Z Z UG Aa (HZ _ dd24 a2 (((p.getD k Fn.zero).outs).getD j Ex.zero) (ag.ext av) oM) ?_
        rintro cp cq ⟨rfl,ae⟩
        refine⟨_,rfl,ae,?_⟩
        have bz:=ae.size
        have bp:=av.trans ae
        have an:=ak.ext ae
        have ao:=al.ext ae
        refine AQ ((sz+((p.getD k Fn.zero).outs.getD j Ex.zero).size:Nat):Int) Z Z (Bi oM oM) Aa<|Ac 1 Z<|Ab _ [0,0] Z<|AQ ((j+1:Nat):Int) Z Z (Bi oM sD) Aa<|Ac 1 Z ?_
        exact⟨(j+1,sz+((p.getD k Fn.zero).outs.getD j Ex.zero).size),_,rfl,zR,⟨bp,an,ao,sD,oM,(by exact Eh hqe (Dp (by assumption)))⟩,zD⟩
       refine Ag (by first|rfl|exact zW b9)<|gL Z<|A1<|Ao<|AG<|Ao<|Ao<|AG<|Ao<|AG<|Ao<|Ao<|AG<|Ao ?_
       exact Ah [2] Z (.bool false) Z ⟨Ix,av⟩
      refine AI false Z Z (A6 b4) Aa<|Aj<|A0<|Ai Z<|A4<|AA<|AA<|Av<|gK [0,0] Z ?_
      have hal:=Ny (l:=(p.getD k Fn.zero).outs) (k:=j) oM
      refine Ad 1 Z ?_
      by_cases ba:((400:Nat):Int)<(sz:Int)
      ·exact C2 true Z Z (A5 ba) Aa<|Aj<|Ag Z<|gL Z<|A1<|AG<|Ao<|Ao<|AG<|Ao<|Ah [2] Z (.bool false) Z ⟨Ix,ad⟩
      refine C2 false Z Z (A6 ba) Aa<|Aj<|Ai Z<|A2<|Ab _ [0,0] Z<|AQ ((k+1:Nat):Int) Z Z (Bi oM sD) Aa<|Ac 1 Z ?_
      exact⟨k+1,_,rfl,zR,⟨ad,a1,sD,(by exact Eh hq (YF (Dp (by assumption)) (by assumption) (Dp (by assumption)) (Dp (by assumption)) hqe oM oM))⟩,zD⟩
     exact Ag (by first|rfl|exact zW b3)<|gL Z<|A1<|Ao<|AG<|Ao<|Ao<|AG<|Ao<|Ah [2] Z (.bool false) Z ⟨Ix,ac⟩
    exact Ac 6 Z<|Ag Z<|gL Z<|A1<|Ao<|AG<|Ao<|Ao<|AG<|Ao<|Ah [2] Z (.bool false) Z ⟨Ix,ac⟩
   exact Ag (by first|rfl|exact zW b2)<|gL Z<|A1<|Ao<|AG<|Ao<|Ao<|AG<|Ao<|Ah [2] Z (.bool false) Z ⟨Ix,ac⟩
  exact Ac 7 Z<|Ag Z<|gL Z<|A1<|Ao<|AG<|Ao<|Ao<|AG<|Ao<|Ah [2] Z (.bool false) Z ⟨Ix,bd⟩
 exact AI false Z Z (A6 bt) Aa<|Aj<|A0<|Ai Z<|A4<|AA<|AA<|Av<|gL Z<|A1<|Ah [2] Z (.bool true) Z ⟨Ix,ax⟩
theorem eC {p:List Fn}{f:Int}(h:GJ p=false):1=Kl p f:=by unfold Kl;rw[h];rfl
theorem eD {p:List Fn}{f:Int}(h:GJ p=true)(h2:¬(0≤f∧f≤((p.length:Nat):Int)-1)):2=Kl p f:=by unfold Kl;rw[if_pos h,if_neg h2]
theorem eE {p:List Fn}{f:Int}(h:GJ p=true)(h2:0≤f∧f≤((p.length:Nat):Int)-1):0=Kl p f:=by unfold Kl;rw[if_pos h,if_pos h2]
theorem V3 {p:Prop}(h:p:=by first|exact B5 (eC (Db (by assumption)))|exact B5 (eD (Dp (by assumption)) (S5 (Db (by assumption))))|exact B5 (eE (Dp (by assumption)) (Iw (Dp (by assumption))))):p:=h
theorem H5 (w:World)(dp:Nat)(vp:Value)(p:List Fn)(f:Int)(hp:RP [] dp w.heap vp p)(_hf:Bn f)(hz:PO p) :
  Calls Tryz.prog 56 #[(.agg #[vp]),zI f] w (fun e w'=>e=.returned (zI (Kl p f))∧AH w w'):=by
 refine Aq [.agg #[vp],zI f] 17 Tryz.func56 Z Z sM ?_
 have a8:AH w w:=AH.refl w
 have ad:=hp.lenle
 unfold maxLen at ad
 refine gK [3,0] Z (By (cs:=#[vp]) Z Aa fun w1 a4 ac a1=>?_)
 have a9:=a4.size
 have a5:=a8.trans a4
 replace a1:BX w1.heap w.heap.size [vp]:=a1
 refine Ac 1 Z<|A0<|A3<|gK [2,3,0,0] Z<|AK (p:=zP w.heap.size) (.inr Z) [vp] Cf Z (fun ae aa=>LD.of_box<|BX.ext (w:=w1) a1 aa) Z Aa<|Ap 100 [] [] [.agg #[vp]] Z Z Yh Aa (FS _ dp vp (p) (hp.ext (Am<|Az dp) a5) hz) ?_
 rintro e2 w2 ⟨rfl,a2⟩
 refine⟨_,rfl,a2,?_⟩
 have ab:=a2.size
 have a3:=a5.trans a2
 have a0:=a1.ext a2
 refine Bo (!(GJ p)) Z Z Aa<|Ac 1 Z ?_
 cases a6:(!(GJ p))
 ·refine Ai (by first|rfl|exact zW a6)<|gK [0,0,2,0,0,0,0,0] Z<|Ad 1 Z<|Ak (p:=zP w.heap.size) 0 BB Z Z Aa<|Af (p:=An (zP w.heap.size) 0) (.inr Z) vp C4 Z (a0.ldp (i:=0) sM) Aa<|AR (v:=vp) Gx Z hp.isSl Aa<|Bk ((p.length:Int)-1) Z Z (CM oM oM) Aa<|AB 66 [] [] [zI f,zI ((0:Nat):Int),zI ((p.length:Int)-1)] Z Z FC Aa (.bool (decide (((0:Nat):Int)≤f) && decide (f≤((p.length:Int)-1)))) (fun wq=>Ba wq _ _ _ _hf oM oM) ?_
  refine Bo (!(decide (((0:Nat):Int)≤f) && decide (f≤((p.length:Int)-1)))) Z Z Aa<|Ac 1 Z ?_
  cases a7:(!(decide (((0:Nat):Int)≤f) && decide (f≤((p.length:Int)-1))))
  ·exact Ai (by first|rfl|exact zW a7)<|A2<|gL Z<|A1<|Ah [4] Z (zI ((0:Nat):Int)) Z ⟨V3,a3⟩
  exact Ag (by first|rfl|exact zW a7)<|gL Z<|A1<|AG<|Ao<|Ah [4] Z (zI ((2:Nat):Int)) Z ⟨V3,a3⟩
 exact Ag (by first|rfl|exact zW a6)<|gL Z<|A1<|AG<|Ao<|Ah [4] Z (zI ((1:Nat):Int)) Z ⟨V3,a3⟩
theorem fW {p:List Fn}{f:Int}(h:Kl p f≠0):Re p f=false:=by
  unfold Kl at h
  unfold Re
  by_cases h1:GJ p=true
  · rw[if_pos h1]at h
    cases h2:NN p f with
    |false=>rw[Bool.and_false]
    |true=>rw[if_pos (IP.1 h2).1]at h;exact absurd Z h
  · rw[show GJ p=false from by simpa using h1];rfl
theorem eF {p:List Fn}{f:Int}(h:Kl p f=0){b:Bool}(hb:b=(decide (1≤(p.getD f.toNat Fn.zero).params) && decide ((((p.getD f.toNat Fn.zero).outs.length:Nat):Int)=(p.getD f.toNat Fn.zero).params))):Re p f=b:=by
  obtain⟨h1,h2⟩:=Rc h
  unfold Re NN
  rw[h1,show Ff f 0 (((p.length:Nat):Int)-1)=true from BH.2 ⟨h2.1,zO⟩,hb,Bool.true_and,Bool.true_and]
theorem Qt {p:Prop}(h:p:=by first|exact AO (fW oM).symm|exact AO (eF oM (by rw[A5 (show 1≤(p.getD f.toNat Fn.zero).params by omega),Bool.true_and])).symm|exact AO (eF oM (by rw[A6 (show ¬1≤(p.getD f.toNat Fn.zero).params by omega),Bool.false_and])).symm):p:=h
theorem KF (w:World)(dp:Nat)(vp:Value)(p:List Fn)(f:Int)(hp:RP [] dp w.heap vp p)(_hf:Bn f)(hz:PO p) :
  Calls Tryz.prog 136 #[(.agg #[vp]),zI f] w (fun e w'=>e=.returned (.bool (Re p f))∧AH w w'):=by
 refine Aq [.agg #[vp],zI f] 34 Tryz.func136 Z Z sM ?_
 have ac:AH w w:=AH.refl w
 have aj:=hp.lenle
 unfold maxLen at aj
 refine gK [3,0] Z (By (cs:=#[vp]) Z Aa fun w1 a6 ah a4=>?_)
 have ad:=a6.size
 have a7:=ac.trans a6
 replace a4:BX w1.heap w.heap.size [vp]:=a4
 refine Ac 1 Z<|A0<|AM _ [1,0,3,0,0,0,2,0,0,0,2,0,0,0,0,2,0,0,0,2,0,0,2,0,0,0,2,0,0,0] mixed (by kernel_rfl)<|AK (p:=zP w.heap.size) (.inl Z) [vp] Cf Z (fun ak ae=>LD.of_box<|BX.ext (w:=w1.drew) a4 ae) Z Aa<|Ad 1 Z<|Ap 56 [] [] [.agg #[vp],zI f] Z Z ZD Aa (H5 _ dp vp (p) _ (hp.ext (Am<|Az dp) a7.drew) _hf hz) ?_
 rintro e2 w2 ⟨rfl,a2⟩
 refine⟨_,rfl,a2,?_⟩
 replace a2:=a2.of_drew
 have af:=a2.size
 have a1:=a7.trans a2
 have a0:=a4.ext a2
 by_cases a8:Kl p f=((0:Nat):Int)
 ·refine Al true Z Z (A5 a8) Aa<|Ad 1 Z ?_
  have ai:=Rc (p:=p) (f:=f) oM
  refine Ak (p:=zP w.heap.size) 0 BB Z Z (Ae (e:=9) Z Z Z)<|Af (p:=An (zP w.heap.size) 0) (.inr Z) vp C4 Z (a0.ldp (i:=0) sM) (Ae (e:=9) Z Z Z)<|Ad 1 Z<|Aw (v:=vp) ((f).toNat) Gx Co Z Z hp.isSl oM sD (Ae (e:=9) Z Z Z) ?_
  obtain⟨cs4,ag,a3⟩:=hp.get (Az dp) Fn.zero (k:=(f).toNat) sD
  obtain⟨a9,rfl,aa⟩:=RF.of ag
  have a5:=aa.rn.lenle
  unfold maxLen at a5
  refine AE (p:=Ay vp ((f).toNat) 3) 1 C9 Z (a3 _<|At.of_ext [] a1) (Ae (e:=9) Z Z Z)<|Af (p:=An (Ay vp ((f).toNat) 3) 1) (.inr Z) (zI<|(p.getD ((f).toNat) Fn.zero).params) AC Z ((a3 _<|At.of_ext [] a1).ld (i:=1) (by simp[DR,DV])) (Ae (e:=9) Z Z Z) ?_
  by_cases ab:((1:Nat):Int)≤(p.getD ((f).toNat) Fn.zero).params
  ·refine De true Z Z (A5 ab) (Ae (e:=9) Z Z Z)<|Ad 2 Z<|Ak (p:=zP w.heap.size) 0 BB Z Z (Ae (e:=18) Z Z Z)<|Af (p:=An (zP w.heap.size) 0) (.inr Z) vp C4 Z (a0.ldp (i:=0) sM) (Ae (e:=18) Z Z Z)<|Ad 1 Z ?_
   refine Aw (v:=vp) ((f).toNat) Gx Co Z Z hp.isSl oM sD (Ae (e:=18) Z Z Z)<|AE (p:=Ay vp ((f).toNat) 3) 2 BU Z (a3 _<|At.of_ext [] a1) (Ae (e:=18) Z Z Z)<|Af (p:=An (Ay vp ((f).toNat) 3) 2) (.inr Z) a9 Bf Z ((a3 _<|At.of_ext [] a1).ld (i:=2) (by simp[DR,DV])) (Ae (e:=18) Z Z Z)<|AR (v:=a9) CR Z aa.rn.isSl (Ae (e:=18) Z Z Z) ?_
   refine Ak (p:=zP w.heap.size) 0 BB Z Z (Ae (e:=18) Z Z Z)<|Af (p:=An (zP w.heap.size) 0) (.inr Z) vp C4 Z (a0.ldp (i:=0) sM) (Ae (e:=18) Z Z Z)<|Ad 1 Z<|Aw (v:=vp) ((f).toNat) Gx Co Z Z hp.isSl oM sD (Ae (e:=18) Z Z Z) ?_
   refine AE (p:=Ay vp ((f).toNat) 3) 1 C9 Z (a3 _<|At.of_ext [] a1) (Ae (e:=18) Z Z Z)<|Af (p:=An (Ay vp ((f).toNat) 3) 1) (.inr Z) (zI<|(p.getD ((f).toNat) Fn.zero).params) AC Z ((a3 _<|At.of_ext [] a1).ld (i:=1) (by simp[DR,DV])) (Ae (e:=18) Z Z Z)<|Al (decide (((((p.getD ((f).toNat) Fn.zero).outs).length:Nat):Int)=(p.getD ((f).toNat) Fn.zero).params)) Z Z Z (Ae (e:=18) Z Z Z)<|Ac 2 Z<|A1 ?_
   exact Ah [4] Z (.bool<|decide (((((p.getD ((f).toNat) Fn.zero).outs).length:Nat):Int)=(p.getD ((f).toNat) Fn.zero).params)) Z ⟨Qt,a1⟩
  exact De false Z Z (A6 ab) (Ae (e:=9) Z Z Z)<|Ac 18 Z<|A1<|Ah [4] Z (.bool false) Z ⟨Qt,a1⟩
 exact Al false Z Z (A6 a8) Aa<|Ac 26 Z<|A1<|Ah [4] Z (.bool false) Z ⟨Qt,a1⟩
theorem fX {p:List Fn}{f:Int}{l:List Sr}(h:GJ p=false):1=G0 p f l:=by unfold G0;rw[h];rfl
theorem fY {p:List Fn}{f:Int}{l:List Sr}(h:GJ p=true)(h2:Re p f=false):2=G0 p f l:=by
  unfold Re at h2;rw[h,Bool.true_and]at h2
  unfold G0;rw[if_pos h,h2];rfl
theorem fZ {p:List Fn}{f:Int}{l:List Sr}{k:Nat}(h:Re p f=true)(hk:k<l.length)(hb:(decide ((((l.getD k []).length:Nat):Int)=(p.getD f.toNat Fn.zero).params) && AX (l.getD k []))=false):2=G0 p f l:=by
  unfold Re at h;rw[z7]at h
  unfold G0;rw[if_pos h.1,if_pos h.2,Pa (f:=(fun s=>decide (((s.length:Nat):Int)=(p.getD f.toNat Fn.zero).params) && AX s)) [] hk hb];rfl
theorem gA {p:List Fn}{f:Int}{l:List Sr}{k:Nat}(h:Re p f=true)(hl:(l.take k).all (fun s=>decide (((s.length:Nat):Int)=(p.getD f.toNat Fn.zero).params) && AX s)=true)(hk:l.length≤k):0=G0 p f l:=by
  unfold Re at h;rw[z7]at h
  unfold G0;rw[if_pos h.1,if_pos h.2,Pb hl hk];rfl
theorem Sa {p:Prop}(h:p:=by first|exact B5 (fX (Db (by assumption)))|exact B5 (fY (Dp (by assumption)) (Db (by assumption)))|exact B5 (fZ (k:=k) hrn oM (Db (by assumption)))|exact B5 (gA hrn hq oM)):p:=h
theorem Hp (w:World)(dp:Nat)(vp:Value)(p:List Fn)(f:Int)(vl:Value)(l:List (Sr))(hp:RP [] dp w.heap vp p)(_hf:Bn f)(hl:RN [] (B4 (B4 rI)) w.heap vl l)(hql:C3 vl)(hz:PO p) :
  Calls Tryz.prog 76 #[(.agg #[vp]),zI f,vl] w (fun e w'=>e=.returned (zI (G0 p f l))∧AH w w'):=by
 refine Aq [.agg #[vp],zI f,vl] 34 Tryz.func76 Z Z sM ?_
 have ao:AH w w:=AH.refl w
 have b3:=hp.lenle
 unfold maxLen at b3
 have b4:=hl.lenL
 unfold maxLen at b4
 refine gK [3,0] Z (By (cs:=#[vp]) Z Aa fun w1 af ay ad=>?_)
 have ag:=af.size
 have ah:=ao.trans af
 replace ad:BX w1.heap w.heap.size [vp]:=ad
 refine Ac 1 Z<|A0<|A3<|gK [2,3,0,0] Z<|AK (p:=zP w.heap.size) (.inr Z) [vp] Cf Z (fun b5 ai=>LD.of_box<|BX.ext (w:=w1) ad ai) Z Aa<|Ap 100 [] [] [.agg #[vp]] Z Z Yh Aa (FS _ dp vp (p) (hp.ext (Am<|Az dp) ah) hz) ?_
 rintro e2 w2 ⟨rfl,a5⟩
 refine⟨_,rfl,a5,?_⟩
 have aj:=a5.size
 have ae:=ah.trans a5
 have a3:=ad.ext a5
 refine Bo (!(GJ p)) Z Z Aa<|Ac 1 Z ?_
 cases ap:(!(GJ p))
 ·refine Ai (by first|rfl|exact zW ap)<|gK [2,0,3,0,0] Z<|AK (p:=zP w.heap.size) (.inr Z) [vp] Cf Z (fun b5 ai=>LD.of_box<|BX.ext (w:=w2) a3 ai) Z Aa<|Ad 1 Z<|Ap 136 [] [] [.agg #[vp],zI f] Z Z cF Aa (KF _ dp vp (p) _ (hp.ext (Am<|Az dp) ae) _hf hz) ?_
  rintro e4 w4 ⟨rfl,a6⟩
  refine⟨_,rfl,a6,?_⟩
  have ak:=a6.size
  have al:=ae.trans a6
  have a7:=a3.ext a6
  refine Bo (!(Re p f)) Z Z Aa<|Ac 1 Z ?_
  cases aq:(!(Re p f))
  ·refine Ai (by first|rfl|exact zW aq)<|A2<|A0<|gK [0,0,0] Z ?_
   have hrn:Re p f=true:=Dp (by assumption)
   have hrf:=IP.1 (z7 .. ▸ hrn:GJ p=true∧NN p f=true).2
   refine Ad 1 Z<|AR (v:=vl) Bx Z hl.slL Aa<|Ac 1 Z<|A3 ?_
   refine AU (S:=Nat) (fun k=>([(20,zI (k:Int)),(1,zI f),(3,zP w.heap.size),(18,vl),(19,zI (l.length:Int))])) (fun k W=>AH w W∧BX W.heap w.heap.size [vp]∧k≤l.length∧(l.take k).all (fun s=>decide ((s.length:Int)=(p.getD f.toNat Fn.zero).params) && AX s)=true) (fun k=>l.length-k) 0 ⟨rfl,rfl,rfl,rfl,rfl,trivial⟩ ⟨al,a7,sD,rfl⟩ ?_
   clear ao ay af ag ah a5 aj ae a6 ak al
   rintro k ρ6 w6 ⟨a4,a0,ar,hq⟩
   have az:w.heap.size≤w6.heap.size:=a4.size
   have b2:=a0.lt
   refine gK [0] Z ?_
   by_cases au:(k:Int)<(l.length:Int)
   ·refine AI true Z Z (A5 au) Aa<|Aj<|A0<|Ag Z<|A2<|A0<|A3<|gK [0,2,0] Z<|Aw (v:=vl) k Bx AT Z Z hl.slL Z sD Aa ?_
    obtain⟨av,b0,aw⟩:=RN.getL (w:=w) g1 [] (k:=k) hl sD
    have am:=aw.lenL
    unfold maxLen at am
    refine Af (p:=Ay vl k 1) (.inr Z) av B6 Z (b0 _<|At.of_ext [] a4) Aa<|Ac 1 Z<|gK [0,0,2,0,0,0,2,3,0] Z<|Ad 1 Z<|Ak (p:=zP w.heap.size) 0 BB Z Z Aa<|Af (p:=An (zP w.heap.size) 0) (.inr Z) vp C4 Z (a0.ldp (i:=0) sM) Aa<|Ad 1 Z ?_
    refine Aw (v:=vp) ((f).toNat) Gx Co Z Z hp.isSl oM sD Aa ?_
    obtain⟨cs10,an,a8⟩:=hp.get (Az dp) Fn.zero (k:=(f).toNat) sD
    obtain⟨b1,rfl,a9⟩:=RF.of an
    have aa:=a9.rn.lenle
    unfold maxLen at aa
    refine AE (p:=Ay vp ((f).toNat) 3) 1 C9 Z (a8 _<|At.of_ext [] a4) Aa<|Af (p:=An (Ay vp ((f).toNat) 3) 1) (.inr Z) (zI<|(p.getD ((f).toNat) Fn.zero).params) AC Z ((a8 _<|At.of_ext [] a4).ld (i:=1) (by simp[DR,DV])) Aa<|Ap 57 [] [] [av,zI<|(p.getD ((f).toNat) Fn.zero).params] Z Z Sw Aa (Ct _ _ _ _ (aw.ext g1 a4).rd a9.rng) ?_
    rintro b6 b7 ⟨rfl,a2⟩
    refine⟨_,rfl,a2,?_⟩
    have ax:=a2.size
    have ab:=a4.trans a2
    have a1:=a0.ext a2
    refine Bo (!(decide ((((l.getD k []).length:Nat):Int)=((p.getD ((f).toNat) Fn.zero).params)) && AX (l.getD k []))) Z Z Aa<|Aj ?_
    cases ac:(!(decide ((((l.getD k []).length:Nat):Int)=((p.getD ((f).toNat) Fn.zero).params)) && AX (l.getD k [])))
    ·refine Ai (by first|rfl|exact zW ac)<|A2<|Ab _ [0,0] Z<|AQ ((k+1:Nat):Int) Z Z (Bi oM sD) Aa<|Ac 1 Z ?_
     exact⟨k+1,_,rfl,zR,⟨ab,a1,sD,(by exact P9 (f:=fun s=>decide ((s.length:Int)=(p.getD f.toNat Fn.zero).params) && AX s) [] hq oM (Dp (by assumption)))⟩,zD⟩
    exact Ag (by first|rfl|exact zW ac)<|gL Z<|A1<|AG<|Ao<|Ao<|AG<|Ao<|Ah [6] Z (zI ((2:Nat):Int)) Z ⟨Sa,ab⟩
   exact AI false Z Z (A6 au) Aa<|Aj<|A0<|Ai Z<|A4<|AA<|AA<|Av<|gL Z<|A1<|Ah [6] Z (zI ((0:Nat):Int)) Z ⟨Sa,a4⟩
  exact Ag (by first|rfl|exact zW aq)<|gL Z<|A1<|AG<|Ao<|Ah [6] Z (zI ((2:Nat):Int)) Z ⟨Sa,al⟩
 exact Ag (by first|rfl|exact zW ap)<|gL Z<|A1<|AG<|Ao<|Ah [6] Z (zI ((1:Nat):Int)) Z ⟨Sa,ae⟩
theorem I0 (w:World)(n:Int)(_hn:Bn n)  :
  Calls Tryz.prog 77 #[zI n] w (fun e w'=>e=.returned (.bool (Ff n 0 40))∧AH w w'):=by
 refine Aq [zI n] 5 Tryz.func77 Z Z sM ?_
 have a0:AH w w:=AH.refl w
 exact gL Z<|gK [0,0,0] Z<|Ad 1 Z<|AB 66 [] [] [zI n,zI ((0:Nat):Int),zI ((40:Nat):Int)] Z Z FC Aa (.bool (decide (((0:Nat):Int)≤n) && decide (n≤((40:Nat):Int)))) (fun wq=>Ba wq _ _ _ _hn oM oM)<|Ac 1 Z<|A1<|Ah [2] Z (.bool (decide (((0:Nat):Int)≤n) && decide (n≤((40:Nat):Int)))) Z ⟨rfl,a0⟩
theorem IZ (w:World)(dp:Nat)(vp:Value)(p:List Fn)(f:Int)(va:Value)(a:Sr)(hp:RP [] dp w.heap vp p)(_hf:Bn f)(ha:Rd (B4 rI) w.heap va a)(hvp:FQ p)(hf:0≤f∧f<(p.length:Int))(hl:(a.length:Int)=(p.getD f.toNat Fn.zero).params)(hna:AX a=true) :
  Calls Tryz.prog 105 #[(.agg #[vp]),zI f,va] w (fun e w'=>∃v0:Value,e=.returned (.tuple #[v0,zI (GL p f.toNat a)])∧AH w w'∧Fr (Bp rI 2) w.heap.size w'.heap.size w'.heap v0 (PS p f.toNat a)∧SF p f.toNat a):=by
 refine Aq [.agg #[vp],zI f,va] 25 Tryz.func105 Z Z sM ?_
 have ag:AH w w:=AH.refl w
 have ap:=hp.lenle
 unfold maxLen at ap
 have aq:=ha.lenle
 have hpar:=hvp.par f.toNat oM
 have hsl:(Cw a).length=a.length:=by unfold Cw;rw[zg]
 refine gK [3,0,0] Z (By (cs:=#[vp]) Z Aa fun w1 ab ao a7=>?_)
 have ah:=ab.size
 have ac:=ag.trans ab
 replace a7:BX w1.heap w.heap.size [vp]:=a7
 refine Ac 2 Z<|A0<|AM _ [1,0,0,3,3,0,0,0,0,0,0,0] mixed (by kernel_rfl)<|AK (p:=zP w.heap.size) (.inl Z) [vp] Cf Z (fun ar ai=>LD.of_box<|BX.ext (w:=w1.drew) a7 ai) Z Aa<|Ad 2 Z<|Ap 130 [] [] [va] Z Z cC Aa (MP _ _ _ (ha.ext g1 ac.drew) oM) ?_
 rintro e2 w2 ⟨a2,rfl,a3,a0⟩
 refine⟨_,rfl,a3,?_⟩
 replace a3:=a3.of_drew
 have aj:=a3.size
 have ad:=ac.trans a3
 replace a0:=a0.low (B':=w1.heap.size)<|A7 _
 refine Ap 163 [] [] [.agg #[vp],zI f,a2,zI ((0:Nat):Int)] Z Z Ym Aa (E0 _ dp vp (p) _ a2 (Cw a) (0) (hp.ext (Am<|Az dp) ad) _hf (RN.of_fr2 a0 fun b hb=>by cases hb) a0.cap hvp oM oM (by exact CF hna) oM) ?_
 rintro e3 w3 ⟨a1,rfl,a8,a4,ae⟩
 refine⟨_,rfl,a8,?_⟩
 have ak:=a8.size
 have a9:=ad.trans a8
 refine Ad 1 Z<|AP (vs:=[a1,zI ((NG p (0+1) f.toNat (Cw a):Nat):Int),zI<|HD p (0+1) f.toNat<|Cw a]) a1 Z Z Aa<|AP (vs:=[a1,zI ((NG p (0+1) f.toNat (Cw a):Nat):Int),zI<|HD p (0+1) f.toNat<|Cw a]) (zI ((NG p (0+1) f.toNat (Cw a):Nat):Int)) Z Z Aa<|AP (vs:=[a1,zI ((NG p (0+1) f.toNat (Cw a):Nat):Int),zI<|HD p (0+1) f.toNat<|Cw a]) (zI<|HD p (0+1) f.toNat<|Cw a) Z Z Aa<|Ac 3 Z<|A0<|gK [0,0] Z ?_
 have hEV:=‹SD p (0+1) f.toNat (Cw a)›
 have hec:0≤GL p f.toNat a∧GL p f.toNat a≤9:=hEV.code
 have hes:=hEV.ser
 have hel:=hEV.len
 have hne:GL p f.toNat a=HD p (0+1) f.toNat (Cw a):=rfl
 have au:=hvp.outs f.toNat oM
 refine Ad 1 Z ?_
 by_cases af:HD p (0+1) f.toNat (Cw a)≠((0:Nat):Int)
 ·exact B2 true Z Z (A5 af) Aa<|Aj<|Ag Z<|gK [0,0,0] Z<|Ac 3 Z<|A1<|Ao<|Ah [6,7] Z (.tuple #[zN,zI<|HD p (0+1) f.toNat<|Cw a]) Z ⟨zN,rfl,a9,(by rw[(SF.mk' hEV).non oM];exact GF _ _ _),SF.mk' hEV⟩
 refine B2 false Z Z (A6 af) Aa<|Aj<|Ai Z<|A2<|gK [0,3,0,0] Z<|Ad 1 Z<|Ap 61 [] [] [a1] Z Z ZF Aa (H4 _ _ _ a4.rd2 oM (by intro k9 al;have:=(hes k9 al).1;omega)) ?_
 rintro e5 w5 ⟨a5,rfl,aa,a6⟩
 refine⟨_,rfl,aa,?_⟩
 have am:=aa.size
 have an:=a9.trans aa
 exact Ac 2 Z<|A1<|Ah [6,7] Z (.tuple #[a5,zI ((0:Nat):Int)]) Z ⟨a5,(by rw[show GL p f.toNat a=0 from by omega];rfl),an,(a6.up o1).low a9.size,SF.mk' hEV⟩
theorem CK (w:World)(dp:Nat)(vp:Value)(p:List Fn)(f:Int)(va:Value)(a:Sr)(n:Int)(hp:RP [] dp w.heap vp p)(_hf:Bn f)(ha:Rd (B4 rI) w.heap va a)(_hn:Bn n)(hvp:FQ p)(hf:0≤f∧f<(p.length:Int))(hl:(a.length:Int)=(p.getD f.toNat Fn.zero).params)(hna:AX a=true)(hn:0≤n∧n≤40)(hou:((p.getD f.toNat Fn.zero).outs.length:Int)=(p.getD f.toNat Fn.zero).params) :
  Calls Tryz.prog 78 #[(.agg #[vp]),zI f,va,zI n] w (fun e w'=>∃v0:Value,e=.returned (.tuple #[v0,zI (EP p f.toNat a n.toNat)])∧AH w w'∧Fr (Bp (Bp rI 2) 27) w.heap.size w'.heap.size w'.heap v0 (XQ p f.toNat a n.toNat)∧Qh p f.toNat a n.toNat):=by
 refine Aq [.agg #[vp],zI f,va,zI n] 40 Tryz.func78 Z Z sM ?_
 have b2:AH w w:=AH.refl w
 have bo:=hp.lenle
 unfold maxLen at bo
 have bp:=ha.lenle
 have hpar:=hvp.par f.toNat oM
 refine gK [3,0,0] Z (By (cs:=#[vp]) Z Aa fun w1 ao be ap=>?_)
 have bf:=ao.size
 have al:=b2.trans ao
 replace ap:BX w1.heap w.heap.size [vp]:=ap
 refine Ac 2 Z<|gK [0,3,3,0] Z<|Ad 1 Z<|Ap 79 [] [] [va] Z Z Xn Aa (BV _ _ _ (ha.ext g1 al) oM) ?_
 rintro e2 w2 ⟨aq,rfl,ad,aa⟩
 refine⟨_,rfl,ad,?_⟩
 have ar:=ad.size
 have b3:=al.trans ad
 have ae:=ap.ext ad
 refine BA (u:=aq) (B:=w1.heap.size) o1 Bx AT Z Z aa (by first|exact A7 _|omega) Aa fun v3 w3 am bg b4=>?_
 have au:=am.size
 have b5:=b3.trans am
 have af:=ae.ext am
 refine Ac 1 Z<|A0<|gK [0,0] Z<|Ac 2 Z<|A3 ?_
 refine AU (S:=Nat×Value) (fun⟨k,vo⟩=>([(10,vo),(18,zI (k:Int)),(1,zI f),(4,zP w.heap.size),(17,zI n)])) (fun⟨k,vo⟩ W=>AH w W∧Fr (Bp (Bp rI 2) 27) w1.heap.size W.heap.size W.heap vo (CD (k+1)<|Cr p f.toNat a)∧BX W.heap w.heap.size [vp]∧k≤n.toNat∧EP p f.toNat a k=0∧((Cr p f.toNat a k).length:Int)=(p.getD f.toNat Fn.zero).params∧AX (Cr p f.toNat a k)=true∧(∀j,j≤k→(Cr p f.toNat a j).length=a.length)∧w.heap.size<w1.heap.size∧w1.heap.size≤W.heap.size) (fun⟨k,vo⟩=>n.toNat-k) (0,v3) ⟨rfl,rfl,rfl,rfl,rfl,trivial⟩ ⟨b5,b4.up o2,af,sD,(by rfl),hl,hna,(by intro j hj;rw[show j=0 from by omega];rfl),oM,oM⟩ ?_
 clear b2 be ao aa ad ar b3 b4 bg am au b5
 rintro⟨k,vo⟩ ρ5 w5 ⟨an,a2,a5,b6,hrk,hrl,hrn,hrj,bh,bi⟩
 have bj:w.heap.size≤w5.heap.size:=an.size
 have hti:=C8 (f:=Cr p f.toNat a) (n:=k+1) (k:=k) [] oM
 have htl:(CD (k+1) (Cr p f.toNat a)).length=k+1:=by simp[CD]
 have bn:=a5.lt
 refine gK [0] Z ?_
 by_cases b7:(k:Int)<n
 ·refine AI true Z Z (A5 b7) Aa<|Aj<|A0<|Ag Z<|A2<|A0<|A3<|gK [0,0] Z<|Ac 2 Z<|A0<|AM _ [1,0,0,0,0,1,3,0,0,0,0,0] mixed (by kernel_rfl)<|AK (p:=zP w.heap.size) (.inl Z) [vp] Cf Z (fun bt bk=>LD.of_box<|BX.ext (w:=w5.drew) a5 bk) Z Aa<|Ad 3 Z ?_
  refine Aw (v:=vo) k Bx AT Z Z a2.isSl Z sD Aa ?_
  obtain⟨b8,b9,av⟩:=a2.rd2.get (k:=k) [] sD
  have bl:=av.lenle
  refine Af (p:=Ay vo k 1) (.inl Z) b8 B6 Z b9 Aa<|Ap 105 [] [] [.agg #[vp],zI f,b8] Z Z bT Aa (IZ _ dp vp (p) _ _ _ (hp.ext (Am<|Az dp) an.drew) _hf av hvp oM (by rw[hti];exact hrl) (by rw[hti];exact hrn)) ?_
  rintro bu bv ⟨a3,rfl,a0,a1,aw⟩
  refine⟨_,rfl,a0,?_⟩
  replace a0:=a0.of_drew
  have ba:=a0.size
  have ag:=an.trans a0
  have a6:=a2.ext (o2) a0
  have a7:=a5.ext a0
  have ab:=av.ext g1 a0
  have ah:=Bd a0 b9
  replace a1:=a1.low (B':=w5.heap.size)<|A7 _
  refine Ad 1 Z<|AP (vs:=[a3,zI<|GL p f.toNat<|(CD (k+1)<|Cr p f.toNat a).getD k []]) a3 Z Z Aa<|AP (vs:=[a3,zI<|GL p f.toNat<|(CD (k+1)<|Cr p f.toNat a).getD k []]) (zI<|GL p f.toNat<|(CD (k+1)<|Cr p f.toNat a).getD k []) Z Z Aa<|Ac 2 Z<|A0<|gK [0,0] Z ?_
  have hNX:=‹SF p f.toNat ((CD (k+1)<|Cr p f.toNat a).getD k [])›
  rw[hti]at hNX
  have hnc:=hNX.code
  have hcd:GL p f.toNat ((CD (k+1) (Cr p f.toNat a)).getD k [])=GL p f.toNat (Cr p f.toNat a k):=by rw[hti]
  refine Ad 1 Z ?_
  by_cases ai:GL p f.toNat ((CD (k+1) (Cr p f.toNat a)).getD k [])≠((0:Nat):Int)
  ·refine B2 true Z Z (A5 ai) Aa<|Aj<|Ag Z<|gK [0,0,0] Z<|Ac 3 Z<|A1<|Ao<|AG<|Ao<|Ao<|AG<|Ao ?_
   have hfc:EP p f.toNat a n.toNat=GL p f.toNat (Cr p f.toNat a k):=by rw[Km (k:=k+1) (by rw[FA hrk];omega) oM,FA hrk]
   exact Ah [8,9] Z (.tuple #[zN,zI<|GL p f.toNat<|(CD (k+1)<|Cr p f.toNat a).getD k []]) Z ⟨zN,(by rw[hfc,hti]),ag,(by rw[Rf (by rw[hfc];omega)];exact GF _ _ _),Qh.err hfc oM hnc⟩
  refine B2 false Z Z (A6 ai) Aa<|Aj<|Ai Z<|A2<|Ab _ [0,0,3,4,0] Z<|Ad 2 Z (BA (u:=a3) (B:=w5.heap.size) o1 Bx AT Z Z a1 (by first|exact A7 _|omega) Aa fun bq bw a4 bm ax=>?_)
  have bb:=a4.size
  have aj:=ag.trans a4
  have a8:=a6.ext (o2) a4
  have a9:=a7.ext a4
  have ay:=ab.ext g1 a4
  have bc:=Bd a4 ah
  refine Gb o1 (v:=vo) (a:=bq) Bx AT Z Z Z a8 oM ax oM oM sD (by unfold maxLen;first|omega|assumption|(simp;done)|(simp;omega)) Aa fun br bs bx ac ak az=>?_
  have b0:AH w bs:=ac.below aj (fun c hc=>A8 al.size (ak c hc).1) aj.size
  have bd:=ac.size
  have b1:=a9.chg ac fun hm=>zH<|ak _ hm
  refine Ac 1 Z<|Ab _ [0,0] Z<|AQ ((k+1:Nat):Int) Z Z (Bi oM oM) Aa<|Ac 1 Z ?_
  exact⟨(k+1,br),_,rfl,zR,⟨b0,(by have h:=az.up o2;rw[hti]at h;rw[Kb];exact h),b1,sD,(by rw[FA hrk];omega),(by have:=hNX.len oM;show(((PS p f.toNat (Cr p f.toNat a k)).length:Nat):Int)=_;omega),hNX.num,(by intro j hj;by_cases e9:j≤k;(exact hrj j e9);(rw[show j=k+1 from by omega];have:=hNX.len oM;show(PS p f.toNat (Cr p f.toNat a k)).length=_;omega)),oM,oM⟩,zD⟩
 refine AI false Z Z (A6 b7) Aa<|Aj<|A0<|Ai Z<|A4<|AA<|AA<|Av<|gK [0,0,0] Z<|Ac 3 Z<|A1 ?_
 have hke:k=n.toNat:=by omega
 exact Ah [8,9] Z (.tuple #[vo,zI ((0:Nat):Int)]) Z ⟨vo,(by rw[← hke,hrk];rfl),an,(by have h:=(a2.up o2).low al.size;rw[← hke,Lq hrk];exact h),Qh.ok (by rw[← hke];exact hrk) (by rw[← hke];exact hrj)⟩
theorem Qu {p:List Fn}{f n:Int}{a:Sr}(h:G0 p f [a]≠0):Mz p f a n=G0 p f [a]:=if_neg h
theorem Qv {p:List Fn}{f n:Int}{a:Sr}(h:G0 p f [a]=0)(h2:Ff n 0 40=false):Mz p f a n=2:=by unfold Mz;rw[if_pos h,h2];rfl
theorem eG {p:List Fn}{f n:Int}{a:Sr}(h:G0 p f [a]=0)(h2:Ff n 0 40=true):Mz p f a n=0:=by unfold Mz;rw[if_pos h,h2];rfl
theorem XB {p:List Fn}{f n:Int}{a:Sr}(h:Mz p f a n≠0):(0≤TU p f a n∧TU p f a n≤9)∧((Zo p f a n).length≤41∧∀k,((Zo p f a n).getD k []).length≤a.length):=by
  have:=LV p f a n
  rw[TV h,MB h]
  exact⟨zO,by simp,fun k=>by simp⟩
theorem PK {p:Prop}(h:p:=by first|(rw[Po hg0];exact⟨by have:=‹Qh p f.toNat a n.toNat›.len;omega,‹Qh p f.toNat a n.toNat›.rows⟩)|exact(XB (by rw[Qu oM];omega)).2|exact(XB (by rw[Qv oM (Db (by assumption))];omega)).2):p:=h
theorem V4 {p:Prop}(h:p:=by first|(rw[Po hg0];exact GF _ _ _)|(rw[MB (by rw[Qu oM];omega)];exact GF _ _ _)|(rw[MB (by rw[Qv oM (Db (by assumption))];omega)];exact GF _ _ _)):p:=h
theorem PL {p:Prop}(h:p:=by first|rw[TW hg0]|rw[TV (by rw[Qu oM];omega),Qu oM]|(rw[TV (by rw[Qv oM (Db (by assumption))];omega),Qv oM (Db (by assumption))];rfl)):p:=h
theorem PM {p:Prop}(h:p:=by first|(rw[TW hg0];exact ‹Qh p f.toNat a n.toNat›.code)|exact(XB (by rw[Qu oM];omega)).1|exact(XB (by rw[Qv oM (Db (by assumption))];omega)).1):p:=h
theorem Jw (w:World)(dp:Nat)(vp:Value)(p:List Fn)(f:Int)(va:Value)(a:Sr)(n:Int)(hp:RP [] dp w.heap vp p)(_hf:Bn f)(ha:Rd (B4 rI) w.heap va a)(_hn:Bn n)(hz:PO p) :
  Calls Tryz.prog 27 #[(.agg #[vp]),zI f,va,zI n] w (fun e w'=>∃v0:Value,e=.returned (.tuple #[v0,zI (TU p f a n)])∧AH w w'∧Fr (Bp (Bp rI 2) 27) w.heap.size w'.heap.size w'.heap v0 (Zo p f a n)∧(0≤TU p f a n∧TU p f a n≤9)∧((Zo p f a n).length≤41∧∀k,((Zo p f a n).getD k []).length≤a.length)):=by
 refine Aq [.agg #[vp],zI f,va,zI n] 33 Tryz.func27 Z Z sM ?_
 have au:AH w w:=AH.refl w
 have b4:=hp.lenle
 unfold maxLen at b4
 have b5:=ha.lenle
 refine gK [3,0,0] Z (By (cs:=#[vp]) Z Aa fun w1 ak b2 ac=>?_)
 have av:=ak.size
 have aw:=au.trans ak
 replace ac:BX w1.heap w.heap.size [vp]:=ac
 refine Ac 2 Z<|gK [2,0,0,3,3,0] Z<|AK (p:=zP w.heap.size) (.inr Z) [vp] Cf Z (fun b6 a8=>LD.of_box<|BX.ext (w:=w1) ac a8) Z Aa<|Ad 2 Z (BA (u:=va) (B:=w1.heap.size) Bv Bx AT Z Z (Md w1.heap.size w1.heap.size _<|(RN.of ha).one1 g1) (A7 _) Aa fun v2 w2 af b3 al=>?_)
 have ax:=af.size
 have ag:=aw.trans af
 have a9:=ac.ext af
 refine Ap 76 [] [] [.agg #[vp],zI f,v2] Z Z bQ Aa (Hp _ dp vp (p) _ v2 ([a]) (hp.ext (Am<|Az dp) ag) _hf (RN.ofOne al ((RN.of ha).ext g1 ag) fun b hb=>by cases hb) (VY al) hz) ?_
 rintro e3 w3 ⟨rfl,ad⟩
 refine⟨_,rfl,ad,?_⟩
 have ay:=ad.size
 have a4:=ag.trans ad
 have a5:=a9.ext ad
 refine Ac 1 Z<|A0<|gK [0,0,0,0,3,0,0] Z ?_
 have hcr:=LU p f [a]
 refine Ad 1 Z ?_
 by_cases am:G0 p f ([a])=((0:Nat):Int)
 ·refine Al true Z Z (A5 am) Aa<|Ad 2 Z<|Ap 77 [] [] [zI n] Z Z bR (Ae (e:=18) Z Z Z) (I0 _ _ _hn) ?_
  rintro e5 w5 ⟨rfl,ae⟩
  refine⟨_,rfl,ae,?_⟩
  have az:=ae.size
  have a6:=a4.trans ae
  have aa:=a5.ext ae
  refine Bo (!(Ff n 0 40)) Z Z (Ae (e:=18) Z Z Z)<|Ac 1 Z ?_
  cases an:(!(Ff n 0 40))
  ·refine Ai (by first|rfl|exact zW an)<|A2<|A0<|gK [0,0] Z ?_
   have hdr:=LV p f a n
   refine Ad 1 Z ?_
   by_cases ao:G0 p f ([a])≠((0:Nat):Int)
   ·refine B2 true Z Z (A5 ao) Aa<|Aj<|Ag Z<|gK [0,0,0] Z<|Ac 3 Z<|A1<|Ao ?_
    exact Ah [8,9] Z (.tuple #[zN,zI<|G0 p f<|[a]]) Z ⟨zN,PL,a6,V4,PM,PK⟩
   refine B2 false Z Z (A6 ao) Aa<|Aj<|Ai Z<|A2<|gK [2,0,0,0,3,0,0,0,0] Z ?_
   have hg0:Mz p f a n=0:=by first|exact eG oM (Dp (by assumption))|(exfalso;omega)
   have ab:=XP hg0
   have hvp:=FZ ab.1
   refine AK (p:=zP w.heap.size) (.inr Z) [vp] Cf Z (fun b6 a8=>LD.of_box<|BX.ext (w:=w5) aa a8) Z Aa<|Ad 3 Z<|Ap 78 [] [] [.agg #[vp],zI f,va,zI n] Z Z Xm Aa (CK _ dp vp (p) _ _ _ _ (hp.ext (Am<|Az dp) a6) _hf (ha.ext g1 a6) _hn hvp oM oM ab.2.2.2.2.1 oM oM) ?_
   rintro e8 w8 ⟨a2,rfl,ah,a3,ap⟩
   refine⟨_,rfl,ah,?_⟩
   have b0:=ah.size
   have b1:=a6.trans ah
   refine AP (vs:=[a2,zI<|EP p f.toNat a n.toNat]) a2 Z Z Aa<|AP (vs:=[a2,zI<|EP p f.toNat a n.toNat]) (zI<|EP p f.toNat a n.toNat) Z Z Aa<|Ac 2 Z<|A1 ?_
   exact Ah [8,9] Z (.tuple #[a2,zI<|EP p f.toNat a n.toNat]) Z ⟨a2,PL,b1,(by first|(rw[Po hg0];exact(a3.up o2).low a6.size)|(rw[MB (by rw[Qu oM];omega)];exact(a3.up o2).low a6.size)|(rw[MB (by rw[Qv oM<|Db (by assumption)];omega)];exact(a3.up o2).low a6.size)),PM,PK⟩
  refine Ag (by first|rfl|exact zW an)<|Ab _ [0] Z<|Ac 1 Z<|A0<|gK [0,0] Z ?_
  have hdr:=LV p f a n
  refine Ad 1 Z<|B2 true Z Z (by decide) Aa<|Aj<|Ag Z<|gK [0,0,0] Z<|Ac 3 Z<|A1<|Ao ?_
  exact Ah [8,9] Z (.tuple #[zN,zI ((2:Nat):Int)]) Z ⟨zN,PL,a6,V4,PM,PK⟩
 refine Al false Z Z (A6 am) Aa<|Ac 5 Z<|Ai Z<|A2<|A0<|gK [0,0] Z ?_
 have hdr:=LV p f a n
 refine Ad 1 Z ?_
 by_cases aq:G0 p f ([a])≠((0:Nat):Int)
 ·refine B2 true Z Z (A5 aq) Aa<|Aj<|Ag Z<|gK [0,0,0] Z<|Ac 3 Z<|A1<|Ao ?_
  exact Ah [8,9] Z (.tuple #[zN,zI<|G0 p f<|[a]]) Z ⟨zN,PL,a4,V4,PM,PK⟩
 refine B2 false Z Z (A6 aq) Aa<|Aj<|Ai Z<|A2<|gK [2,0,0,0,3,0,0,0,0] Z ?_
 have hg0:Mz p f a n=0:=by first|exact eG oM (Dp (by assumption))|(exfalso;omega)
 have ab:=XP hg0
 have hvp:=FZ ab.1
 refine AK (p:=zP w.heap.size) (.inr Z) [vp] Cf Z (fun b6 a8=>LD.of_box<|BX.ext (w:=w3) a5 a8) Z Aa<|Ad 3 Z<|Ap 78 [] [] [.agg #[vp],zI f,va,zI n] Z Z Xm Aa (CK _ dp vp (p) _ _ _ _ (hp.ext (Am<|Az dp) a4) _hf (ha.ext g1 a4) _hn hvp oM oM ab.2.2.2.2.1 oM oM) ?_
 rintro b7 b8 ⟨a0,rfl,a7,a1,ai⟩
 refine⟨_,rfl,a7,?_⟩
 have ar:=a7.size
 have aj:=a4.trans a7
 refine AP (vs:=[a0,zI<|EP p f.toNat a n.toNat]) a0 Z Z Aa<|AP (vs:=[a0,zI<|EP p f.toNat a n.toNat]) (zI<|EP p f.toNat a n.toNat) Z Z Aa<|Ac 2 Z<|A1 ?_
 exact Ah [8,9] Z (.tuple #[a0,zI<|EP p f.toNat a n.toNat]) Z ⟨a0,PL,aj,(by first|(rw[Po hg0];exact(a1.up o2).low a4.size)|(rw[MB (by rw[Qu oM];omega)];exact(a1.up o2).low a4.size)|(rw[MB (by rw[Qv oM<|Db (by assumption)];omega)];exact(a1.up o2).low a4.size)),PM,PK⟩
theorem Nm (w:World)(a:Int)(b:Int)(_ha:Bn a)(_hb:Bn b)  :
  Calls Tryz.prog 250 #[zI a,zI b] w (fun e w'=>e=.returned (zI (max a b))∧w'=w):=by
 refine Aq [zI a,zI b] 10 Tryz.func250 Z Z sM ?_
 have a0:w=w:=rfl
 refine gL Z<|A0<|gK [0,0,0] Z<|Ad 2 Z ?_
 by_cases a1:b<a
 ·exact C2 true Z Z (A5 a1) Aa<|Aj<|Ag Z<|gK [0,0] Z<|Ac 2 Z<|A1<|Ao<|Ah [4] Z (zI a) Z ⟨B5 oM,a0⟩
 exact C2 false Z Z (A6 a1) Aa<|Aj<|Ai Z<|A2<|gK [0,0] Z<|Ac 2 Z<|A1<|Ah [4] Z (zI b) Z ⟨B5 oM,a0⟩
theorem V5 {p:Prop}(h:p:=by rw[VZ,hx];first|rw[za oM]|exact(NL oM).symm):p:=h
theorem Iy (w:World)(dex:Nat)(ve:Value)(ex:Ex)(left:Int)(hex:RN [] (rP (LH dex)) w.heap ve ex)(_hleft:Bn left)(af:0≤left∧left≤100000)(hs:ex.size≤1000000000) :
  Calls Tryz.prog 190 #[ve,zI left] w (fun e w'=>e=.returned (zI (IW ex left))∧AH w w'):=by
 induction dex using Nat.strongRecOn generalizing w ve ex left
 rename_i dex ih
 refine Aq [ve,zI left] 30 Tryz.func190 Z Z sM ?_
 have a6:AH w w:=AH.refl w
 have hsk:=Cs ex
 refine gL Z<|gK [0,0,0] Z<|Ad 1 Z<|Bk (left-1) Z Z (CM oM oM) Aa<|Ac 1 Z<|A0<|gL Z<|A3 ?_
 refine AU (S:=Nat×Int) (fun⟨k,x⟩=>([(1,zI x),(5,zI (k:Int)),(0,ve)])) (fun⟨k,x⟩ W=>AH w W∧k≤ex.kids.length∧x=Du (ex.kids.take k) (left-1)∧(-1≤x∧x≤left)) (fun⟨k,x⟩=>ex.kids.length-k) (0,left-1) ⟨rfl,rfl,rfl,trivial⟩ ⟨a6,sD,(by rw[List.take_zero,Du]),oM⟩ ?_
 clear a6
 rintro⟨k,x⟩ ρ1 w1 ⟨a0,a7,hx,a8⟩
 have ab:w.heap.size≤w1.heap.size:=a0.size
 refine A0<|gK [0,0,0,0,2,0,0,0,0,0,0] Z<|Ad 2 Z<|AF (hex.isPtr) Z Aa ?_
 obtain⟨cs2,ac,a2⟩:=RN.at (Ax _) hex
 obtain⟨dd2,a1,ag,rfl,a3⟩:=RX.of ac
 have a4:=a3.rn.lenle
 unfold maxLen at a4
 refine AE (p:=ve) 4 Bc Z (a2 _<|At.of_ext [] a0) Aa<|Af (p:=An ve 4) (.inr Z) a1 Bf Z ((a2 _<|At.of_ext [] a0).ld (i:=4) (by simp[DR,DV])) Aa<|AR (v:=a1) CR Z a3.rn.isSl Aa ?_
 by_cases a9:(k:Int)<(ex.kids.length:Int)
 ·refine AI true Z Z (A5 a9) Aa<|Ad 2 Z ?_
  by_cases aa:((0:Nat):Int)≤x
  ·refine De true Z Z (A5 aa) (Ae (e:=15) Z Z Z)<|Ac 1 Z<|Ag Z<|A2<|A0<|A3<|Ab _ [0,0,0,2,0,0,0,3,0] Z ?_
   have hst:=E9 (l:=ex.kids) (k:=k) oM
   have hle:=DE ex.kids (k+1)
   have hnx:=NK (l:=ex.kids) (k:=k) (x:=left-1) oM oM
   have hnr:=Pn (e:=ex.kids.getD k Ex.zero) (x:=x) oM
   refine Ad 1 Z<|AF (hex.isPtr) Z Aa<|AE (p:=ve) 4 Bc Z (a2 _<|At.of_ext [] a0) Aa<|Af (p:=An ve 4) (.inr Z) a1 Bf Z ((a2 _<|At.of_ext [] a0).ld (i:=4) (by simp[DR,DV])) Aa<|Ad 1 Z<|Aw (v:=a1) k CR Bj Z Z a3.rn.isSl Z sD Aa<|Ad 1 Z ?_
   refine Ap 190 [] [] [Ay a1 k 5,zI x] Z Z UK Aa (ih dd2 oM _ (Ay a1 k 5) (ex.kids.getD k Ex.zero) _ (RN.ptr (Ax dd2) (by decide) Ex.zero (a3.rn.ext (Am<|Ax dd2) a0) sD) oM oM oM) ?_
   rintro e5 w5 ⟨rfl,a5⟩
   refine⟨_,rfl,a5,?_⟩
   have ad:=a5.size
   have ae:=a0.trans a5
   refine Ac 1 Z<|Ab _ [0,0,0] Z<|Ad 1 Z<|AQ ((k+1:Nat):Int) Z Z (Bi oM sD) Aa<|Ac 1 Z ?_
   exact⟨(k+1,IW (ex.kids.getD k Ex.zero) x),_,rfl,zR,⟨ae,sD,(by rw[hnx,hx]),oM⟩,zD⟩
  exact De false Z Z (A6 aa) (Ae (e:=15) Z Z Z)<|Ac 1 Z<|Ai Z<|A4<|AA<|AA<|Av<|gK [0,0] Z<|Ac 2 Z<|A1<|Ah [4] Z (zI x) Z ⟨B5 V5,a0⟩
 exact AI false Z Z (A6 a9) Aa<|Ac 4 Z<|Ai Z<|A4<|AA<|AA<|Av<|gK [0,0] Z<|Ac 2 Z<|A1<|Ah [4] Z (zI x) Z ⟨B5 V5,a0⟩
theorem Ly (w:World)(dex:Nat)(ve:Value)(ex:Ex)(hex:RN [] (rP (LH dex)) w.heap ve ex)(hs:ex.size≤1000000000) :
  Calls Tryz.prog 232 #[ve] w (fun e w'=>e=.returned (zI (ex.deep:Int))∧AH w w'):=by
 induction dex using Nat.strongRecOn generalizing w ve ex
 rename_i dex ih
 refine Aq [ve] 25 Tryz.func232 Z Z sM ?_
 have a6:AH w w:=AH.refl w
 have hsk:=Cs ex
 have hdk:=Dq ex
 refine gL Z<|gL Z<|A0<|gL Z<|A3 ?_
 refine AU (S:=Nat×Int) (fun⟨k,sz⟩=>([(3,zI sz),(4,zI (k:Int)),(0,ve)])) (fun⟨k,sz⟩ W=>AH w W∧k≤ex.kids.length∧sz=((Ex.deeps (ex.kids.take k):Nat):Int)∧(0≤sz∧sz≤1000000000)) (fun⟨k,sz⟩=>ex.kids.length-k) (0,((0:Nat):Int)) ⟨rfl,rfl,rfl,trivial⟩ ⟨a6,sD,(by rw[List.take_zero,Nx] <;> rfl),oM⟩ ?_
 clear a6
 rintro⟨k,sz⟩ ρ1 w1 ⟨a0,a7,hsz,a8⟩
 have aa:w.heap.size≤w1.heap.size:=a0.size
 refine A0<|gK [0,0,0,0,2,0,0] Z<|Ad 2 Z<|AF (hex.isPtr) Z Aa ?_
 obtain⟨cs2,ab,a2⟩:=RN.at (Ax _) hex
 obtain⟨dd2,a1,ae,rfl,a3⟩:=RX.of ab
 have a4:=a3.rn.lenle
 unfold maxLen at a4
 refine AE (p:=ve) 4 Bc Z (a2 _<|At.of_ext [] a0) Aa<|Af (p:=An ve 4) (.inr Z) a1 Bf Z ((a2 _<|At.of_ext [] a0).ld (i:=4) (by simp[DR,DV])) Aa<|AR (v:=a1) CR Z a3.rn.isSl Aa ?_
 by_cases a9:(k:Int)<(ex.kids.length:Int)
 ·refine AI true Z Z (A5 a9) Aa<|Aj<|Ag Z<|A2<|A0<|A3<|Ab _ [0,0,0,0,2,0,0,3,0,0] Z ?_
  have hst:=E9 (l:=ex.kids) (k:=k) oM
  have hle:=DE ex.kids (k+1)
  have hdt:=Hx (l:=ex.kids) (k:=k) oM
  have hda:=ER<|ex.kids.getD k Ex.zero
  have hdz:=Ji<|ex.kids.take k
  refine Ad 2 Z<|AF (hex.isPtr) Z Aa<|AE (p:=ve) 4 Bc Z (a2 _<|At.of_ext [] a0) Aa<|Af (p:=An ve 4) (.inr Z) a1 Bf Z ((a2 _<|At.of_ext [] a0).ld (i:=4) (by simp[DR,DV])) Aa<|Ad 1 Z<|Aw (v:=a1) k CR Bj Z Z a3.rn.isSl Z sD Aa ?_
  refine Ap 232 [] [] [Ay a1 k 5] Z Z Yt Aa (ih dd2 oM _ (Ay a1 k 5) (ex.kids.getD k Ex.zero) (RN.ptr (Ax dd2) (by decide) Ex.zero (a3.rn.ext (Am<|Ax dd2) a0) sD) oM) ?_
  rintro e4 w4 ⟨rfl,a5⟩
  refine⟨_,rfl,a5,?_⟩
  have ac:=a5.size
  have ad:=a0.trans a5
  refine AB 250 [] [] [zI sz,zI (((ex.kids.getD k Ex.zero).deep:Nat):Int)] Z Z dL Aa (zI<|max sz (((ex.kids.getD k Ex.zero).deep:Nat):Int)) (fun wq=>Nm wq _ _ oM (zH<|ER (ex.kids.getD k Ex.zero)))<|Ac 1 Z<|Ab _ [0,0,0] Z<|Ad 1 Z<|AQ ((k+1:Nat):Int) Z Z (Bi oM sD) Aa<|Ac 1 Z ?_
  exact⟨(k+1,max sz (((ex.kids.getD k Ex.zero).deep:Nat):Int)),_,rfl,zR,⟨ad,sD,oM,oM⟩,zD⟩
 refine AI false Z Z (A6 a9) Aa<|Aj<|Ai Z<|A4<|AA<|AA<|Av<|gK [0,0,0] Z ?_
 have h8:=KP (l:=ex.kids) (k:=k) oM
 have h9:=ER ex
 exact Ad 1 Z<|AQ (sz+1) Z Z (CM oM oM) Aa<|Ac 1 Z<|A1<|Ah [2] Z (zI (sz+1)) Z ⟨B5 oM,a0⟩
theorem H6 {p:Prop}(h:p:=by unfold So;repeat (first|rfl|(rw[if_pos oM])|(rw[if_neg oM]))):p:=h
theorem MT (w:World)(kind:Int)(_hkind:Bn kind)  :
  Calls Tryz.prog 135 #[zI kind] w (fun e w'=>e=.returned (zI (So kind))∧w'=w):=by
 refine Aq [zI kind] 17 Tryz.func135 Z Z sM ?_
 have a0:w=w:=rfl
 refine gL Z<|A0<|gL Z<|A3<|A0<|gK [0,0] Z ?_
 by_cases a1:kind=((1:Nat):Int)
 ·exact Al true Z Z (A5 a1) Aa<|Ac 1 Z<|Ag Z<|A2<|Ag Z<|gL Z<|A1<|AG<|Ao<|Ah [2] Z (zI ((0:Nat):Int)) Z ⟨B5 H6,a0⟩
 refine Al false Z Z (A6 a1) Aa<|Ac 1 Z<|Ai Z<|Ab _ [0,0] Z ?_
 by_cases a2:kind=((2:Nat):Int)
 ·exact Al true Z Z (A5 a2) Aa<|Ac 1 Z<|Ag Z<|gL Z<|A1<|AG<|Ao<|Ah [2] Z (zI ((0:Nat):Int)) Z ⟨B5 H6,a0⟩
 refine Al false Z Z (A6 a2) Aa<|Ac 1 Z<|Ai Z<|A0<|gK [0,0] Z ?_
 by_cases a3:kind=((3:Nat):Int)
 ·exact Al true Z Z (A5 a3) Aa<|Ac 1 Z<|Ag Z<|A2<|Ag Z<|gL Z<|A1<|AG<|Ao<|Ah [2] Z (zI ((2:Nat):Int)) Z ⟨B5 H6,a0⟩
 refine Al false Z Z (A6 a3) Aa<|Ac 1 Z<|Ai Z<|gK [0,0] Z ?_
 by_cases a4:kind=((4:Nat):Int)
 ·exact Al true Z Z (A5 a4) Aa<|Ac 1 Z<|Ag Z<|A2<|Ag Z<|gL Z<|A1<|AG<|Ao<|Ah [2] Z (zI ((2:Nat):Int)) Z ⟨B5 H6,a0⟩
 refine Al false Z Z (A6 a4) Aa<|Ac 1 Z<|Ai Z<|gK [0,0] Z ?_
 by_cases a5:kind=((5:Nat):Int)
 ·exact Al true Z Z (A5 a5) Aa<|Ac 1 Z<|Ag Z<|A2<|Ag Z<|gL Z<|A1<|AG<|Ao<|Ah [2] Z (zI ((2:Nat):Int)) Z ⟨B5 H6,a0⟩
 refine Al false Z Z (A6 a5) Aa<|Ac 1 Z<|Ai Z<|gK [0,0] Z ?_
 by_cases a6:kind=((6:Nat):Int)
 ·exact Al true Z Z (A5 a6) Aa<|Ac 1 Z<|Ag Z<|A2<|Ag Z<|gL Z<|A1<|AG<|Ao<|Ah [2] Z (zI ((2:Nat):Int)) Z ⟨B5 H6,a0⟩
 refine Al false Z Z (A6 a6) Aa<|Ac 1 Z<|Ai Z<|Ab _ [0,0] Z ?_
 by_cases a7:kind=((9:Nat):Int)
 ·exact Al true Z Z (A5 a7) Aa<|Ac 1 Z<|Ag Z<|gL Z<|A1<|AG<|Ao<|Ah [2] Z (zI ((2:Nat):Int)) Z ⟨B5 H6,a0⟩
 refine Al false Z Z (A6 a7) Aa<|Ac 1 Z<|Ai Z<|gK [0,0] Z ?_
 by_cases a8:kind=((7:Nat):Int)
 ·exact Al true Z Z (A5 a8) Aa<|Ac 1 Z<|Ag Z<|gL Z<|A1<|AG<|Ao<|Ah [2] Z (zI ((1:Nat):Int)) Z ⟨B5 H6,a0⟩
 refine Al false Z Z (A6 a8) Aa<|Ac 1 Z<|Ai Z<|gK [0,0] Z ?_
 by_cases a9:kind=((8:Nat):Int)
 ·exact Al true Z Z (A5 a9) Aa<|Ac 1 Z<|Ag Z<|gL Z<|A1<|AG<|Ao<|Ah [2] Z (zI ((3:Nat):Int)) Z ⟨B5 H6,a0⟩
 exact Al false Z Z (A6 a9) Aa<|Ac 1 Z<|Ai Z<|A2<|gL Z<|A1<|Ah [2] Z (zI (-1)) Z ⟨B5 H6,a0⟩
theorem Dv {p:Prop}(h:p:=by first|exact AO (Zm oM oM oM)|exact AO (fc oM oM oM oM)|exact AO (fd oM oM oM oM)|exact AO ((Ol oM).trans (ff oM oM oM oM oM oM oM))|exact AO (by unfold HA Ea Ff;first|(simp[*];done)|(simp[*];omega)|(simp[*] <;> intros <;> omega)|(simp_all;done)|(simp_all <;> omega))):p:=h
theorem BR {p:Prop}(h:p:=by simp[DR,DV]):p:=h
theorem MU (w:World)(dp:Nat)(vp:Value)(p:List Fn)(dex:Nat)(ve:Value)(ex:Ex)(vars:Int)(funcs:Int)(hp:RN [] (rP (Jj dp)) w.heap vp p)(hex:RN [] (rP (LH dex)) w.heap ve ex)(_hvars:Bn vars)(_hfuncs:Bn funcs)(hv:0≤vars∧vars≤2000000000)(hf:0≤funcs∧funcs≤(p.length:Int)) :
  Calls Tryz.prog 251 #[vp,ve,zI vars,zI funcs] w (fun e w'=>e=.returned (.bool (HA p funcs vars ex))∧AH w w'):=by
 refine Aq [vp,ve,zI vars,zI funcs] 140 Tryz.func251 Z Z sM ?_
 have a0:AH w w:=AH.refl w
 refine gL Z<|A0<|gK [0,0,0,2,0,0,0,0,0,2,0,0] Z<|Ad 1 Z<|AF (hex.isPtr) Z Aa ?_
 obtain⟨cs1,b2,a1⟩:=RN.at (Ax _) hex
 obtain⟨dd1,ab,b8,rfl,a5⟩:=RX.of b2
 have aq:=a5.rn.lenle
 unfold maxLen at aq
 refine AE (p:=ve) 0 Br Z (a1 _<|At.of_ext [] a0) Aa<|Af (p:=An ve 0) (.inr Z) (zI ex.kind) AC Z ((a1 _<|At.of_ext [] a0).ld (i:=0) BR) Aa ?_
 by_cases ay:ex.kind=((10:Nat):Int)
 ·refine Al true Z Z (A5 ay) Aa<|Ac 7 Z<|Ag Z<|A0<|gK [0,0,0,2,0,0,0,0] Z<|Ad 1 Z<|AF (hex.isPtr) Z Aa<|AE (p:=ve) 1 BF Z (a1 _<|At.of_ext [] a0) Aa<|Af (p:=An ve 1) (.inr Z) (zI ex.num) AC Z ((a1 _<|At.of_ext [] a0).ld (i:=1) BR) Aa<|Ad 1 Z<|Bk (funcs-1) Z Z (CM oM oM) Aa<|AB 94 [] [] [zI ex.num,zI ((0:Nat):Int),zI (funcs-1)] Z Z ED Aa (.bool (decide (((0:Nat):Int)≤ex.num) && decide (ex.num≤(funcs-1)))) (fun wq=>B9 wq _ _ _ a5.rng.num oM oM) ?_
  refine Bo (!(decide (((0:Nat):Int)≤ex.num) && decide (ex.num≤(funcs-1)))) Z Z Aa<|Aj ?_
  cases az:(!(decide (((0:Nat):Int)≤ex.num) && decide (ex.num≤(funcs-1))))
  ·refine Ai (by first|rfl|exact zW az)<|A2<|A0<|AM _ [0,0,0,1,0,0,0,1,0,0] mixed (by kernel_rfl) ?_
   have hnr:=Iw (Dp (by assumption):(decide (((0:Nat):Int)≤ex.num) && decide (ex.num≤funcs-1))=true)
   refine Ad 1 Z<|AF (hp.isPtr) Z Aa ?_
   obtain⟨cs5,b3,b0⟩:=RN.at (AN _) hp
   obtain⟨a6,rfl,a9⟩:=RPr.of b3
   have ar:=a9.lenle
   unfold maxLen at ar
   refine AE (p:=vp) 0 BB Z (b0 _<|At.of_ext [] a0.drew) Aa<|Af (p:=An vp 0) (.inl Z) a6 C4 Z ((b0 _<|At.of_ext [] a0.drew).ld (i:=0) BR) Aa<|Ad 1 Z<|AF (hex.isPtr) Z Aa<|AE (p:=ve) 1 BF Z (a1 _<|At.of_ext [] a0.drew) Aa<|Af (p:=An ve 1) (.inl Z) (zI ex.num) AC Z ((a1 _<|At.of_ext [] a0.drew).ld (i:=1) BR) Aa ?_
   refine Aw (v:=a6) ((ex.num).toNat) Gx Co Z Z a9.isSl oM sD Aa<|Ac 1 Z<|A0<|A0<|AM _ [0,0,0,1,0,0,0,1,0,0,0,0,0,0,0,0,1,0,0,0,0,1,0,0] mixed (by kernel_rfl)<|Ad 1 Z<|AF (hex.isPtr) Z Aa<|AE (p:=ve) 2 D1 Z (a1 _<|At.of_ext [] a0.drew.drew) Aa ?_
   refine Af (p:=An ve 2) (.inl Z) (zI ex.pick) AC Z ((a1 _<|At.of_ext [] a0.drew.drew).ld (i:=2) BR) Aa<|Ad 1 Z<|AF (RN.isPtr<|RN.ptr (Az dp) (by decide) Fn.zero a9 sD) Z Aa ?_
   obtain⟨cs6,b4,a8⟩:=a9.get (Az dp) Fn.zero (k:=(ex.num).toNat) sD
   obtain⟨ap,rfl,au⟩:=RF.of b4
   have av:=au.rn.lenle
   unfold maxLen at av
   refine AE (p:=Ay a6 ((ex.num).toNat) 3) 2 BU Z (a8 _<|At.of_ext [] a0.drew.drew) Aa<|Af (p:=An (Ay a6 ((ex.num).toNat) 3) 2) (.inl Z) ap Bf Z ((a8 _<|At.of_ext [] a0.drew.drew).ld (i:=2) BR) Aa<|AR (v:=ap) CR Z au.rn.isSl Aa<|Bk ((((p.getD (ex.num).toNat Fn.zero).outs.length:Nat):Int)-1) Z Z (CM oM oM) Aa<|AB 94 [] [] [zI ex.pick,zI ((0:Nat):Int),zI ((((p.getD (ex.num).toNat Fn.zero).outs.length:Nat):Int)-1)] Z Z ED Aa (.bool (decide (((0:Nat):Int)≤ex.pick) && decide (ex.pick≤((((p.getD (ex.num).toNat Fn.zero).outs.length:Nat):Int)-1)))) (fun wq=>B9 wq _ _ _ a5.rng.pick oM oM) ?_
   refine Bo (!(decide (((0:Nat):Int)≤ex.pick) && decide (ex.pick≤((((p.getD (ex.num).toNat Fn.zero).outs.length:Nat):Int)-1)))) Z Z Aa<|Ad 1 Z ?_
   cases b9:(!(decide (((0:Nat):Int)≤ex.pick) && decide (ex.pick≤((((p.getD (ex.num).toNat Fn.zero).outs.length:Nat):Int)-1))))
   ·refine Ad 1 Z<|AF (hex.isPtr) Z (Ae (e:=51) Z Z Z)<|AE (p:=ve) 4 Bc Z (a1 _<|At.of_ext [] a0.drew.drew) (Ae (e:=51) Z Z Z)<|Af (p:=An ve 4) (.inl Z) ab Bf Z ((a1 _<|At.of_ext [] a0.drew.drew).ld (i:=4) BR) (Ae (e:=51) Z Z Z)<|AR (v:=ab) CR Z a5.rn.isSl (Ae (e:=51) Z Z Z)<|Ad 1 Z ?_
    refine AF (RN.isPtr<|RN.ptr (Az dp) (by decide) Fn.zero a9 sD) Z (Ae (e:=51) Z Z Z)<|AE (p:=Ay a6 ((ex.num).toNat) 3) 1 C9 Z (a8 _<|At.of_ext [] a0.drew.drew) (Ae (e:=51) Z Z Z)<|Af (p:=An (Ay a6 ((ex.num).toNat) 3) 1) (.inl Z) (zI<|(p.getD ((ex.num).toNat) Fn.zero).params) AC Z ((a8 _<|At.of_ext [] a0.drew.drew).ld (i:=1) BR) (Ae (e:=51) Z Z Z) ?_
    by_cases b1:(ex.kids.length:Int)≠(p.getD ((ex.num).toNat) Fn.zero).params
    ·exact B2 true Z Z (A5 b1) (Ae (e:=51) Z Z Z)<|Ac 1 Z<|Ag Z<|gL Z<|A1<|Ao<|Ao<|Ah [8] Z (.bool false) Z ⟨Dv,a0.drew.drew⟩
    refine B2 false Z Z (A6 b1) (Ae (e:=51) Z Z Z)<|Ac 1 Z<|Ai Z<|A2<|A0<|gK [0,0,0,2,0] Z<|Ad 1 Z<|AF (hex.isPtr) Z Aa<|AE (p:=ve) 0 Br Z (a1 _<|At.of_ext [] a0.drew.drew) Aa<|Af (p:=An ve 0) (.inr Z) (zI ex.kind) AC Z ((a1 _<|At.of_ext [] a0.drew.drew).ld (i:=0) BR) Aa ?_
    by_cases ac:ex.kind=((10:Nat):Int)
    ·refine Al true Z Z (A5 ac) Aa<|Aj<|Ag Z<|gK [0,0,0,2,0,0] Z<|Ad 1 Z<|AF (hex.isPtr) Z Aa<|AE (p:=ve) 3 Dz Z (a1 _<|At.of_ext [] a0.drew.drew) Aa<|Af (p:=An ve 3) (.inr Z) (zI ex.count) AC Z ((a1 _<|At.of_ext [] a0.drew.drew).ld (i:=3) BR) Aa<|Al (decide (ex.count=((0:Nat):Int))) Z Z Z Aa<|Ac 1 Z<|A1<|Ao<|Ao ?_
     exact Ah [8] Z (.bool<|decide (ex.count=((0:Nat):Int))) Z ⟨Dv,a0.drew.drew⟩
    refine Al false Z Z (A6 ac) Aa<|Aj<|Ai Z<|A2<|A0<|AM _ [0,0,0,1,0,0,0,0,0,1,0,0,0,0,1,0,0,0] mixed (by kernel_rfl)<|Ad 1 Z<|AF (hex.isPtr) Z Aa<|AE (p:=ve) 3 Dz Z (a1 _<|At.of_ext [] a0.drew.drew.drew) Aa<|Af (p:=An ve 3) (.inl Z) (zI ex.count) AC Z ((a1 _<|At.of_ext [] a0.drew.drew.drew).ld (i:=3) BR) Aa<|AB 94 [] [] [zI ex.count,zI ((0:Nat):Int),zI ((8:Nat):Int)] Z Z ED Aa (.bool (decide (((0:Nat):Int)≤ex.count) && decide (ex.count≤((8:Nat):Int)))) (fun wq=>B9 wq _ _ _ a5.rng.count oM oM)<|Ad 1 Z ?_
    cases b5:(decide (((0:Nat):Int)≤ex.count) && decide (ex.count≤((8:Nat):Int)))
    ·exact Ac 12 Z<|A1<|Ao<|Ah [8] Z (.bool false) Z ⟨Dv,a0.drew.drew.drew⟩
    refine Ad 1 Z<|AF (RN.isPtr<|RN.ptr (Az dp) (by decide) Fn.zero a9 sD) Z (Ae (e:=78) Z Z Z)<|AE (p:=Ay a6 ((ex.num).toNat) 3) 2 BU Z (a8 _<|At.of_ext [] a0.drew.drew.drew) (Ae (e:=78) Z Z Z)<|Af (p:=An (Ay a6 ((ex.num).toNat) 3) 2) (.inl Z) ap Bf Z ((a8 _<|At.of_ext [] a0.drew.drew.drew).ld (i:=2) BR) (Ae (e:=78) Z Z Z) ?_
    refine AR (v:=ap) CR Z au.rn.isSl (Ae (e:=78) Z Z Z)<|Ad 1 Z<|AF (RN.isPtr<|RN.ptr (Az dp) (by decide) Fn.zero a9 sD) Z (Ae (e:=78) Z Z Z)<|AE (p:=Ay a6 ((ex.num).toNat) 3) 1 C9 Z (a8 _<|At.of_ext [] a0.drew.drew.drew) (Ae (e:=78) Z Z Z) ?_
    refine Af (p:=An (Ay a6 ((ex.num).toNat) 3) 1) (.inl Z) (zI<|(p.getD ((ex.num).toNat) Fn.zero).params) AC Z ((a8 _<|At.of_ext [] a0.drew.drew.drew).ld (i:=1) BR) (Ae (e:=78) Z Z Z)<|Al (decide (((((p.getD ((ex.num).toNat) Fn.zero).outs).length:Nat):Int)=(p.getD ((ex.num).toNat) Fn.zero).params)) Z Z Z (Ae (e:=78) Z Z Z)<|Ac 2 Z<|A1<|Ao ?_
    exact Ah [8] Z (.bool<|decide (((((p.getD ((ex.num).toNat) Fn.zero).outs).length:Nat):Int)=(p.getD ((ex.num).toNat) Fn.zero).params)) Z ⟨Dv,a0.drew.drew.drew⟩
   exact Ac 11 Z<|Ag Z<|gL Z<|A1<|Ao<|Ao<|Ah [8] Z (.bool false) Z ⟨Dv,a0.drew.drew⟩
  exact Ag (by first|rfl|exact zW az)<|gL Z<|A1<|Ao<|Ao<|Ah [8] Z (.bool false) Z ⟨Dv,a0⟩
 refine Al false Z Z (A6 ay) Aa<|Ad 2 Z<|AF (hex.isPtr) Z (Ae (e:=15) Z Z Z)<|AE (p:=ve) 0 Br Z (a1 _<|At.of_ext [] a0) (Ae (e:=15) Z Z Z)<|Af (p:=An ve 0) (.inr Z) (zI ex.kind) AC Z ((a1 _<|At.of_ext [] a0).ld (i:=0) BR) (Ae (e:=15) Z Z Z) ?_
 by_cases ad:ex.kind=((11:Nat):Int)
 ·refine Al true Z Z (A5 ad) (Ae (e:=15) Z Z Z)<|Ac 1 Z<|Ag Z<|A0<|gK [0,0,0,2,0,0,0,0] Z<|Ad 1 Z<|AF (hex.isPtr) Z Aa<|AE (p:=ve) 1 BF Z (a1 _<|At.of_ext [] a0) Aa<|Af (p:=An ve 1) (.inr Z) (zI ex.num) AC Z ((a1 _<|At.of_ext [] a0).ld (i:=1) BR) Aa<|Ad 1 Z<|Bk (funcs-1) Z Z (CM oM oM) Aa<|AB 94 [] [] [zI ex.num,zI ((0:Nat):Int),zI (funcs-1)] Z Z ED Aa (.bool (decide (((0:Nat):Int)≤ex.num) && decide (ex.num≤(funcs-1)))) (fun wq=>B9 wq _ _ _ a5.rng.num oM oM) ?_
  refine Bo (!(decide (((0:Nat):Int)≤ex.num) && decide (ex.num≤(funcs-1)))) Z Z Aa<|Aj ?_
  cases ae:(!(decide (((0:Nat):Int)≤ex.num) && decide (ex.num≤(funcs-1))))
  ·refine Ai (by first|rfl|exact zW ae)<|A2<|A0<|AM _ [0,0,0,1,0,0,0,1,0,0] mixed (by kernel_rfl) ?_
   have hnr:=Iw (Dp (by assumption):(decide (((0:Nat):Int)≤ex.num) && decide (ex.num≤funcs-1))=true)
   refine Ad 1 Z<|AF (hp.isPtr) Z Aa ?_
   obtain⟨cs16,aw,af⟩:=RN.at (AN _) hp
   obtain⟨a2,rfl,a4⟩:=RPr.of aw
   have ag:=a4.lenle
   unfold maxLen at ag
   refine AE (p:=vp) 0 BB Z (af _<|At.of_ext [] a0.drew) Aa<|Af (p:=An vp 0) (.inl Z) a2 C4 Z ((af _<|At.of_ext [] a0.drew).ld (i:=0) BR) Aa<|Ad 1 Z<|AF (hex.isPtr) Z Aa<|AE (p:=ve) 1 BF Z (a1 _<|At.of_ext [] a0.drew) Aa<|Af (p:=An ve 1) (.inl Z) (zI ex.num) AC Z ((a1 _<|At.of_ext [] a0.drew).ld (i:=1) BR) Aa ?_
   refine Aw (v:=a2) ((ex.num).toNat) Gx Co Z Z a4.isSl oM sD Aa<|Ac 1 Z<|A0<|A0<|AM _ [0,0,0,1,0,0,0,1,0,0,0,0,0,0,0,0,1,0,0,0,0,1,0,0] mixed (by kernel_rfl)<|Ad 1 Z<|AF (hex.isPtr) Z Aa<|AE (p:=ve) 2 D1 Z (a1 _<|At.of_ext [] a0.drew.drew) Aa ?_
   refine Af (p:=An ve 2) (.inl Z) (zI ex.pick) AC Z ((a1 _<|At.of_ext [] a0.drew.drew).ld (i:=2) BR) Aa<|Ad 1 Z<|AF (RN.isPtr<|RN.ptr (Az dp) (by decide) Fn.zero a4 sD) Z Aa ?_
   obtain⟨cs17,ax,a3⟩:=a4.get (Az dp) Fn.zero (k:=(ex.num).toNat) sD
   obtain⟨a7,rfl,aa⟩:=RF.of ax
   have ah:=aa.rn.lenle
   unfold maxLen at ah
   refine AE (p:=Ay a2 ((ex.num).toNat) 3) 2 BU Z (a3 _<|At.of_ext [] a0.drew.drew) Aa<|Af (p:=An (Ay a2 ((ex.num).toNat) 3) 2) (.inl Z) a7 Bf Z ((a3 _<|At.of_ext [] a0.drew.drew).ld (i:=2) BR) Aa<|AR (v:=a7) CR Z aa.rn.isSl Aa<|Bk ((((p.getD (ex.num).toNat Fn.zero).outs.length:Nat):Int)-1) Z Z (CM oM oM) Aa<|AB 94 [] [] [zI ex.pick,zI ((0:Nat):Int),zI ((((p.getD (ex.num).toNat Fn.zero).outs.length:Nat):Int)-1)] Z Z ED Aa (.bool (decide (((0:Nat):Int)≤ex.pick) && decide (ex.pick≤((((p.getD (ex.num).toNat Fn.zero).outs.length:Nat):Int)-1)))) (fun wq=>B9 wq _ _ _ a5.rng.pick oM oM) ?_
   refine Bo (!(decide (((0:Nat):Int)≤ex.pick) && decide (ex.pick≤((((p.getD (ex.num).toNat Fn.zero).outs.length:Nat):Int)-1)))) Z Z Aa<|Ad 1 Z ?_
   cases b6:(!(decide (((0:Nat):Int)≤ex.pick) && decide (ex.pick≤((((p.getD (ex.num).toNat Fn.zero).outs.length:Nat):Int)-1))))
   ·refine Ad 1 Z<|AF (hex.isPtr) Z (Ae (e:=51) Z Z Z)<|AE (p:=ve) 4 Bc Z (a1 _<|At.of_ext [] a0.drew.drew) (Ae (e:=51) Z Z Z)<|Af (p:=An ve 4) (.inl Z) ab Bf Z ((a1 _<|At.of_ext [] a0.drew.drew).ld (i:=4) BR) (Ae (e:=51) Z Z Z)<|AR (v:=ab) CR Z a5.rn.isSl (Ae (e:=51) Z Z Z)<|Ad 1 Z ?_
    refine AF (RN.isPtr<|RN.ptr (Az dp) (by decide) Fn.zero a4 sD) Z (Ae (e:=51) Z Z Z)<|AE (p:=Ay a2 ((ex.num).toNat) 3) 1 C9 Z (a3 _<|At.of_ext [] a0.drew.drew) (Ae (e:=51) Z Z Z)<|Af (p:=An (Ay a2 ((ex.num).toNat) 3) 1) (.inl Z) (zI<|(p.getD ((ex.num).toNat) Fn.zero).params) AC Z ((a3 _<|At.of_ext [] a0.drew.drew).ld (i:=1) BR) (Ae (e:=51) Z Z Z) ?_
    by_cases ai:(ex.kids.length:Int)≠(p.getD ((ex.num).toNat) Fn.zero).params
    ·exact B2 true Z Z (A5 ai) (Ae (e:=51) Z Z Z)<|Ac 1 Z<|Ag Z<|gL Z<|A1<|Ao<|Ao<|Ah [8] Z (.bool false) Z ⟨Dv,a0.drew.drew⟩
    refine B2 false Z Z (A6 ai) (Ae (e:=51) Z Z Z)<|Ac 1 Z<|Ai Z<|A2<|A0<|gK [0,0,0,2,0] Z<|Ad 1 Z<|AF (hex.isPtr) Z Aa<|AE (p:=ve) 0 Br Z (a1 _<|At.of_ext [] a0.drew.drew) Aa<|Af (p:=An ve 0) (.inr Z) (zI ex.kind) AC Z ((a1 _<|At.of_ext [] a0.drew.drew).ld (i:=0) BR) Aa ?_
    by_cases aj:ex.kind=((10:Nat):Int)
    ·refine Al true Z Z (A5 aj) Aa<|Aj<|Ag Z<|gK [0,0,0,2,0,0] Z<|Ad 1 Z<|AF (hex.isPtr) Z Aa<|AE (p:=ve) 3 Dz Z (a1 _<|At.of_ext [] a0.drew.drew) Aa<|Af (p:=An ve 3) (.inr Z) (zI ex.count) AC Z ((a1 _<|At.of_ext [] a0.drew.drew).ld (i:=3) BR) Aa<|Al (decide (ex.count=((0:Nat):Int))) Z Z Z Aa<|Ac 1 Z<|A1<|Ao<|Ao ?_
     exact Ah [8] Z (.bool<|decide (ex.count=((0:Nat):Int))) Z ⟨Dv,a0.drew.drew⟩
    refine Al false Z Z (A6 aj) Aa<|Aj<|Ai Z<|A2<|A0<|AM _ [0,0,0,1,0,0,0,0,0,1,0,0,0,0,1,0,0,0] mixed (by kernel_rfl)<|Ad 1 Z<|AF (hex.isPtr) Z Aa<|AE (p:=ve) 3 Dz Z (a1 _<|At.of_ext [] a0.drew.drew.drew) Aa<|Af (p:=An ve 3) (.inl Z) (zI ex.count) AC Z ((a1 _<|At.of_ext [] a0.drew.drew.drew).ld (i:=3) BR) Aa<|AB 94 [] [] [zI ex.count,zI ((0:Nat):Int),zI ((8:Nat):Int)] Z Z ED Aa (.bool (decide (((0:Nat):Int)≤ex.count) && decide (ex.count≤((8:Nat):Int)))) (fun wq=>B9 wq _ _ _ a5.rng.count oM oM)<|Ad 1 Z ?_
    cases b7:(decide (((0:Nat):Int)≤ex.count) && decide (ex.count≤((8:Nat):Int)))
    ·exact Ac 12 Z<|A1<|Ao<|Ah [8] Z (.bool false) Z ⟨Dv,a0.drew.drew.drew⟩
    refine Ad 1 Z<|AF (RN.isPtr<|RN.ptr (Az dp) (by decide) Fn.zero a4 sD) Z (Ae (e:=78) Z Z Z)<|AE (p:=Ay a2 ((ex.num).toNat) 3) 2 BU Z (a3 _<|At.of_ext [] a0.drew.drew.drew) (Ae (e:=78) Z Z Z)<|Af (p:=An (Ay a2 ((ex.num).toNat) 3) 2) (.inl Z) a7 Bf Z ((a3 _<|At.of_ext [] a0.drew.drew.drew).ld (i:=2) BR) (Ae (e:=78) Z Z Z) ?_
    refine AR (v:=a7) CR Z aa.rn.isSl (Ae (e:=78) Z Z Z)<|Ad 1 Z<|AF (RN.isPtr<|RN.ptr (Az dp) (by decide) Fn.zero a4 sD) Z (Ae (e:=78) Z Z Z)<|AE (p:=Ay a2 ((ex.num).toNat) 3) 1 C9 Z (a3 _<|At.of_ext [] a0.drew.drew.drew) (Ae (e:=78) Z Z Z) ?_
    refine Af (p:=An (Ay a2 ((ex.num).toNat) 3) 1) (.inl Z) (zI<|(p.getD ((ex.num).toNat) Fn.zero).params) AC Z ((a3 _<|At.of_ext [] a0.drew.drew.drew).ld (i:=1) BR) (Ae (e:=78) Z Z Z)<|Al (decide (((((p.getD ((ex.num).toNat) Fn.zero).outs).length:Nat):Int)=(p.getD ((ex.num).toNat) Fn.zero).params)) Z Z Z (Ae (e:=78) Z Z Z)<|Ac 2 Z<|A1<|Ao ?_
    exact Ah [8] Z (.bool<|decide (((((p.getD ((ex.num).toNat) Fn.zero).outs).length:Nat):Int)=(p.getD ((ex.num).toNat) Fn.zero).params)) Z ⟨Dv,a0.drew.drew.drew⟩
   exact Ac 11 Z<|Ag Z<|gL Z<|A1<|Ao<|Ao<|Ah [8] Z (.bool false) Z ⟨Dv,a0.drew.drew⟩
  exact Ag (by first|rfl|exact zW ae)<|gL Z<|A1<|Ao<|Ao<|Ah [8] Z (.bool false) Z ⟨Dv,a0⟩
 refine Al false Z Z (A6 ad) (Ae (e:=15) Z Z Z)<|Ac 1 Z<|Ai Z<|A2<|A0<|A0<|AM _ [0,0,0,1,0,0,0,0,1,0,0,0,0,0,0,1,0,0,0,0,0,0,1,0,0] mixed (by kernel_rfl)<|Ad 1 Z<|AF (hex.isPtr) Z Aa<|AE (p:=ve) 0 Br Z (a1 _<|At.of_ext [] a0.drew) Aa<|Af (p:=An ve 0) (.inl Z) (zI ex.kind) AC Z ((a1 _<|At.of_ext [] a0.drew).ld (i:=0) BR) Aa<|AB 135 [] [] [zI ex.kind] Z Z Yl Aa (zI<|So ex.kind) (fun wq=>MT wq _ a5.rng.kind)<|Ad 1 Z<|AF (hex.isPtr) Z Aa<|AE (p:=ve) 4 Bc Z (a1 _<|At.of_ext [] a0.drew) Aa ?_
 refine Af (p:=An ve 4) (.inl Z) ab Bf Z ((a1 _<|At.of_ext [] a0.drew).ld (i:=4) BR) Aa<|AR (v:=ab) CR Z a5.rn.isSl Aa ?_
 by_cases ak:So ex.kind≠(ex.kids.length:Int)
 ·exact B2 true Z Z (A5 ak) Aa<|Ac 14 Z<|Ag Z<|gL Z<|A1<|Ao<|Ah [8] Z (.bool false) Z ⟨Dv,a0.drew⟩
 refine B2 false Z Z (A6 ak) Aa<|Ad 2 Z<|AF (hex.isPtr) Z (Ae (e:=101) Z Z Z)<|AE (p:=ve) 2 D1 Z (a1 _<|At.of_ext [] a0.drew) (Ae (e:=101) Z Z Z)<|Af (p:=An ve 2) (.inl Z) (zI ex.pick) AC Z ((a1 _<|At.of_ext [] a0.drew).ld (i:=2) BR) (Ae (e:=101) Z Z Z) ?_
 by_cases al:ex.pick≠((0:Nat):Int)
 ·exact B2 true Z Z (A5 al) (Ae (e:=101) Z Z Z)<|Ac 8 Z<|Ag Z<|gL Z<|A1<|Ao<|Ah [8] Z (.bool false) Z ⟨Dv,a0.drew⟩
 refine B2 false Z Z (A6 al) (Ae (e:=101) Z Z Z)<|Ad 3 Z<|AF (hex.isPtr) Z (Ae (e:=108) Z Z Z)<|AE (p:=ve) 3 Dz Z (a1 _<|At.of_ext [] a0.drew) (Ae (e:=108) Z Z Z)<|Af (p:=An ve 3) (.inl Z) (zI ex.count) AC Z ((a1 _<|At.of_ext [] a0.drew).ld (i:=3) BR) (Ae (e:=108) Z Z Z) ?_
 by_cases am:ex.count≠((0:Nat):Int)
 ·exact B2 true Z Z (A5 am) (Ae (e:=108) Z Z Z)<|Ac 1 Z<|Ag Z<|gL Z<|A1<|Ao<|Ah [8] Z (.bool false) Z ⟨Dv,a0.drew⟩
 refine B2 false Z Z (A6 am) (Ae (e:=108) Z Z Z)<|Ac 1 Z<|Ai Z<|A2<|A0<|gK [0,0,0,2] Z<|Ad 1 Z<|AF (hex.isPtr) Z Aa<|AE (p:=ve) 0 Br Z (a1 _<|At.of_ext [] a0.drew) Aa<|Af (p:=An ve 0) (.inr Z) (zI ex.kind) AC Z ((a1 _<|At.of_ext [] a0.drew).ld (i:=0) BR) Aa<|Aj<|A3<|gK [0,0] Z ?_
 by_cases an:ex.kind=((1:Nat):Int)
 ·refine Al true Z Z (A5 an) Aa<|Ac 1 Z<|Ag Z<|gK [0,0,0,2,0,0] Z<|Ad 1 Z<|AF (hex.isPtr) Z Aa<|AE (p:=ve) 1 BF Z (a1 _<|At.of_ext [] a0.drew) Aa<|Af (p:=An ve 1) (.inr Z) (zI ex.num) AC Z ((a1 _<|At.of_ext [] a0.drew).ld (i:=1) BR) Aa<|AB 166 [] [] [zI ex.num] Z Z UH Aa (.bool<|IL ex.num) (fun wq=>EW wq _ a5.rng.num)<|Ac 1 Z<|A1<|AG<|Ao ?_
  exact Ah [8] Z (.bool<|IL ex.num) Z ⟨Dv,a0.drew⟩
 refine Al false Z Z (A6 an) Aa<|Ac 1 Z<|Ai Z<|gK [0,0] Z ?_
 by_cases ao:ex.kind=((2:Nat):Int)
 ·refine Al true Z Z (A5 ao) Aa<|Ac 1 Z<|Ag Z<|gK [0,0,0,2,0,0,0,0] Z<|Ad 1 Z<|AF (hex.isPtr) Z Aa<|AE (p:=ve) 1 BF Z (a1 _<|At.of_ext [] a0.drew) Aa<|Af (p:=An ve 1) (.inr Z) (zI ex.num) AC Z ((a1 _<|At.of_ext [] a0.drew).ld (i:=1) BR) Aa<|Ad 1 Z<|Bk (vars-1) Z Z (CM oM oM) Aa<|AB 94 [] [] [zI ex.num,zI ((0:Nat):Int),zI (vars-1)] Z Z ED Aa (.bool (decide (((0:Nat):Int)≤ex.num) && decide (ex.num≤(vars-1)))) (fun wq=>B9 wq _ _ _ a5.rng.num oM oM)<|Ac 1 Z<|A1<|AG<|Ao ?_
  exact Ah [8] Z (.bool (decide (((0:Nat):Int)≤ex.num) && decide (ex.num≤(vars-1)))) Z ⟨Dv,a0.drew⟩
 refine Al false Z Z (A6 ao) Aa<|Ac 1 Z<|Ai Z<|A2<|gK [0,0,0,2,0,0] Z<|Ad 1 Z<|AF (hex.isPtr) Z Aa<|AE (p:=ve) 1 BF Z (a1 _<|At.of_ext [] a0.drew) Aa<|Af (p:=An ve 1) (.inr Z) (zI ex.num) AC Z ((a1 _<|At.of_ext [] a0.drew).ld (i:=1) BR) Aa<|Al (decide (ex.num=((0:Nat):Int))) Z Z Z Aa<|Ac 1 Z<|A1 ?_
 exact Ah [8] Z (.bool<|decide (ex.num=((0:Nat):Int))) Z ⟨Dv,a0.drew⟩
theorem MV {p:Prop}(h:p:=by first|exact AO (Tg (Db (by assumption)))|exact AO (Oc (Dp (by assumption)) fun j hj=>hall j oM)|exact AO (Th (k:=k) oM (by first|(rw[if_pos oM])|(rw[if_neg oM])) (Db (by assumption)))):p:=h
theorem Qw {p:Prop}(h:p:=by intro j hj;by_cases e9:j=k;(rw[e9];first|(rw[if_pos oM];exact Dp (by assumption))|(rw[if_neg oM];exact Dp (by assumption)));exact hall j oM):p:=h
theorem MW (w:World)(dp:Nat)(vp:Value)(p:List Fn)(dex:Nat)(ve:Value)(ex:Ex)(vars:Int)(funcs:Int)(hp:RN [] (rP (Jj dp)) w.heap vp p)(hex:RN [] (rP (LH dex)) w.heap ve ex)(_hvars:Bn vars)(_hfuncs:Bn funcs)(hs:0≤vars∧vars+(ex.deep:Int)≤2000000000)(hf:0≤funcs∧funcs≤(p.length:Int)) :
  Calls Tryz.prog 233 #[vp,ve,zI vars,zI funcs] w (fun e w'=>e=.returned (.bool (wf p funcs ex vars))∧AH w w'):=by
 induction dex using Nat.strongRecOn generalizing w dp vp p ve ex vars funcs
 rename_i dex ih
 refine Aq [vp,ve,zI vars,zI funcs] 49 Tryz.func233 Z Z sM ?_
 have aa:AH w w:=AH.refl w
 have hdk:=Dq ex
 refine gL Z<|A0<|gK [0,0,0,0,3,0] Z<|Ad 4 Z<|Ap 251 [] [] [vp,ve,zI vars,zI funcs] Z Z dM Aa (MU _ dp vp (p) dex ve (ex) _ _ (hp.ext (AS<|AN dp) aa) (hex.ext (AS<|Ax dex) aa) _hvars _hfuncs oM oM) ?_
 rintro e1 w1 ⟨rfl,ab⟩
 refine⟨_,rfl,ab,?_⟩
 have ac:=ab.size
 have ad:=aa.trans ab
 refine Bo (!(HA p funcs vars ex)) Z Z Aa<|Aj ?_
 cases ag:(!(HA p funcs vars ex))
 ·refine Ai (by first|rfl|exact zW ag)<|A2<|A0<|gL Z<|A3 ?_
  refine AU (S:=Nat) (fun k=>([(9,zI (k:Int)),(0,vp),(1,ve),(2,zI vars),(3,zI funcs)])) (fun k W=>AH w W∧k≤ex.kids.length∧(∀j,j<k→wf p funcs (ex.kids.getD j Ex.zero) (if ex.kind=9∧j=1 then vars+1 else vars)=true)) (fun k=>ex.kids.length-k) 0 ⟨rfl,rfl,rfl,rfl,rfl,trivial⟩ ⟨ad,sD,(by intro j hj;omega)⟩ ?_
  clear aa ab ac ad
  rintro k ρ3 w3 ⟨a0,ah,hall⟩
  have ap:w.heap.size≤w3.heap.size:=a0.size
  refine A0<|gK [0,0,0,0,2,0,0] Z<|Ad 2 Z<|AF (hex.isPtr) Z Aa ?_
  obtain⟨cs4,aq,a2⟩:=RN.at (Ax _) hex
  obtain⟨dd4,a1,au,rfl,a3⟩:=RX.of aq
  have ae:=a3.rn.lenle
  unfold maxLen at ae
  refine AE (p:=ve) 4 Bc Z (a2 _<|At.of_ext [] a0) Aa<|Af (p:=An ve 4) (.inr Z) a1 Bf Z ((a2 _<|At.of_ext [] a0).ld (i:=4) (by simp[DR,DV])) Aa<|AR (v:=a1) CR Z a3.rn.isSl Aa ?_
  by_cases ai:(k:Int)<(ex.kids.length:Int)
  ·refine AI true Z Z (A5 ai) Aa<|Aj<|Ag Z<|A2<|A0<|A3<|gK [0,0] Z ?_
   have hkd:=CS (l:=ex.kids) (k:=k) oM
   refine Ac 2 Z<|A0<|gK [0,0,0,2,0,0,0,0,0] Z<|Ad 1 Z<|AF (hex.isPtr) Z Aa<|AE (p:=ve) 0 Br Z (a2 _<|At.of_ext [] a0) Aa<|Af (p:=An ve 0) (.inr Z) (zI ex.kind) AC Z ((a2 _<|At.of_ext [] a0).ld (i:=0) (by simp[DR,DV])) Aa ?_
   by_cases aj:ex.kind=((9:Nat):Int)
   ·refine Al true Z Z (A5 aj) Aa<|Ad 2 Z ?_
    by_cases ak:(k:Int)=((1:Nat):Int)
    ·refine Al true Z Z (A5 ak) (Ae (e:=32) Z Z Z)<|Ac 1 Z<|Ag Z<|Ab _ [0,0,0] Z<|Ad 1 Z<|AQ (vars+1) Z Z (CM oM oM) Aa<|Ac 1 Z<|gK [0,0,0,0,2,0,0,0,0,3,0] Z<|Ad 2 Z<|AF (hex.isPtr) Z Aa<|AE (p:=ve) 4 Bc Z (a2 _<|At.of_ext [] a0) Aa<|Af (p:=An ve 4) (.inr Z) a1 Bf Z ((a2 _<|At.of_ext [] a0).ld (i:=4) (by simp[DR,DV])) Aa<|Ad 1 Z ?_
     refine Aw (v:=a1) k CR Bj Z Z a3.rn.isSl Z sD Aa<|Ad 2 Z ?_
     refine Ap 233 [] [] [vp,Ay a1 k 5,zI (vars+1),zI funcs] Z Z RS Aa (ih dd4 oM _ dp vp (p) (Ay a1 k 5) (ex.kids.getD k Ex.zero) _ _ (hp.ext (AS<|AN dp) a0) (RN.ptr (Ax dd4) (by decide) Ex.zero (a3.rn.ext (Am<|Ax dd4) a0) sD) oM _hfuncs oM oM) ?_
     rintro e8 w8 ⟨rfl,af⟩
     refine⟨_,rfl,af,?_⟩
     have ar:=af.size
     have al:=a0.trans af
     refine Bo (!(wf p funcs (ex.kids.getD k Ex.zero) (vars+1))) Z Z Aa<|Aj ?_
     cases am:(!(wf p funcs (ex.kids.getD k Ex.zero) (vars+1)))
     ·refine Ai (by first|rfl|exact zW am)<|A2<|Ab _ [0,0,0] Z<|Ad 1 Z<|AQ ((k+1:Nat):Int) Z Z (Bi oM sD) Aa<|Ac 1 Z ?_
      exact⟨k+1,_,rfl,zR,⟨al,sD,Qw⟩,zD⟩
     exact Ag (by first|rfl|exact zW am)<|gL Z<|A1<|AG<|Ao<|Ao<|AG<|Ao<|Ah [8] Z (.bool false) Z ⟨MV,al⟩
    refine Al false Z Z (A6 ak) (Ae (e:=32) Z Z Z)<|Ac 1 Z<|Ai Z<|A2<|gK [0,0,0,0,2,0,0,0,0,3,0] Z<|Ad 2 Z<|AF (hex.isPtr) Z Aa<|AE (p:=ve) 4 Bc Z (a2 _<|At.of_ext [] a0) Aa<|Af (p:=An ve 4) (.inr Z) a1 Bf Z ((a2 _<|At.of_ext [] a0).ld (i:=4) (by simp[DR,DV])) Aa<|Ad 1 Z ?_
    refine Aw (v:=a1) k CR Bj Z Z a3.rn.isSl Z sD Aa<|Ad 2 Z ?_
    refine Ap 233 [] [] [vp,Ay a1 k 5,zI vars,zI funcs] Z Z RS Aa (ih dd4 oM _ dp vp (p) (Ay a1 k 5) (ex.kids.getD k Ex.zero) _ _ (hp.ext (AS<|AN dp) a0) (RN.ptr (Ax dd4) (by decide) Ex.zero (a3.rn.ext (Am<|Ax dd4) a0) sD) _hvars _hfuncs oM oM) ?_
    rintro av aw ⟨rfl,a4⟩
    refine⟨_,rfl,a4,?_⟩
    have an:=a4.size
    have a6:=a0.trans a4
    refine Bo (!(wf p funcs (ex.kids.getD k Ex.zero) vars)) Z Z Aa<|Aj ?_
    cases a7:(!(wf p funcs (ex.kids.getD k Ex.zero) vars))
    ·refine Ai (by first|rfl|exact zW a7)<|A2<|Ab _ [0,0,0] Z<|Ad 1 Z<|AQ ((k+1:Nat):Int) Z Z (Bi oM sD) Aa<|Ac 1 Z ?_
     exact⟨k+1,_,rfl,zR,⟨a6,sD,Qw⟩,zD⟩
    exact Ag (by first|rfl|exact zW a7)<|gL Z<|A1<|AG<|Ao<|Ao<|AG<|Ao<|Ah [8] Z (.bool false) Z ⟨MV,a6⟩
   refine Al false Z Z (A6 aj) Aa<|Ac 4 Z<|Ai Z<|A2<|gK [0,0,0,0,2,0,0,0,0,3,0] Z<|Ad 2 Z<|AF (hex.isPtr) Z Aa<|AE (p:=ve) 4 Bc Z (a2 _<|At.of_ext [] a0) Aa<|Af (p:=An ve 4) (.inr Z) a1 Bf Z ((a2 _<|At.of_ext [] a0).ld (i:=4) (by simp[DR,DV])) Aa<|Ad 1 Z ?_
   refine Aw (v:=a1) k CR Bj Z Z a3.rn.isSl Z sD Aa<|Ad 2 Z ?_
   refine Ap 233 [] [] [vp,Ay a1 k 5,zI vars,zI funcs] Z Z RS Aa (ih dd4 oM _ dp vp (p) (Ay a1 k 5) (ex.kids.getD k Ex.zero) _ _ (hp.ext (AS<|AN dp) a0) (RN.ptr (Ax dd4) (by decide) Ex.zero (a3.rn.ext (Am<|Ax dd4) a0) sD) _hvars _hfuncs oM oM) ?_
   rintro ax ay ⟨rfl,a5⟩
   refine⟨_,rfl,a5,?_⟩
   have ao:=a5.size
   have a8:=a0.trans a5
   refine Bo (!(wf p funcs (ex.kids.getD k Ex.zero) vars)) Z Z Aa<|Aj ?_
   cases a9:(!(wf p funcs (ex.kids.getD k Ex.zero) vars))
   ·refine Ai (by first|rfl|exact zW a9)<|A2<|Ab _ [0,0,0] Z<|Ad 1 Z<|AQ ((k+1:Nat):Int) Z Z (Bi oM sD) Aa<|Ac 1 Z ?_
    exact⟨k+1,_,rfl,zR,⟨a8,sD,Qw⟩,zD⟩
   exact Ag (by first|rfl|exact zW a9)<|gL Z<|A1<|AG<|Ao<|Ao<|AG<|Ao<|Ah [8] Z (.bool false) Z ⟨MV,a8⟩
  exact AI false Z Z (A6 ai) Aa<|Aj<|Ai Z<|A4<|AA<|AA<|Av<|gL Z<|A1<|Ah [8] Z (.bool true) Z ⟨MV,a0⟩
 exact Ag (by first|rfl|exact zW ag)<|gL Z<|A1<|Ao<|Ah [8] Z (.bool false) Z ⟨MV,ad⟩
theorem MX (w:World)(vars:Int)(_hvars:Bn vars)  :
  Calls Tryz.prog 231 #[zI vars] w (fun e w'=>e=.returned (.bool (Ff vars 0 412))∧w'=w):=by
 refine Aq [zI vars] 5 Tryz.func231 Z Z sM ?_
 have a0:w=w:=rfl
 exact gL Z<|gK [0,0,0] Z<|Ad 1 Z<|AB 94 [] [] [zI vars,zI ((0:Nat):Int),zI ((412:Nat):Int)] Z Z ED Aa (.bool (decide (((0:Nat):Int)≤vars) && decide (vars≤((412:Nat):Int)))) (fun wq=>B9 wq _ _ _ _hvars oM oM)<|Ac 1 Z<|A1<|Ah [2] Z (.bool (decide (((0:Nat):Int)≤vars) && decide (vars≤((412:Nat):Int)))) Z ⟨rfl,a0⟩
theorem MY {p:Prop}(h:p:=by first|exact AO (YE (by assumption))|exact AO (S3 ⟨BH.1 (by assumption),Iw (by assumption),zO,zO⟩)|exact AO ((by assumption:wf p funcs ex vars=true).symm.trans (S3 ⟨BH.1 (by assumption),Iw (by assumption),zO,zO⟩))|exact AO (O1 fun hh=>V0 (by assumption) hh.1)|exact AO (O1 fun hh=>S5 (by assumption) hh.2.1)|exact AO (O1 oM)):p:=h
theorem MZ (w:World)(dp:Nat)(vp:Value)(p:List Fn)(dex:Nat)(ve:Value)(ex:Ex)(vars:Int)(funcs:Int)(hp:RN [] (rP (Jj dp)) w.heap vp p)(hex:RN [] (rP (LH dex)) w.heap ve ex)(_hvars:Bn vars)(_hfuncs:Bn funcs)(hs:ex.size≤1000000000) :
  Calls Tryz.prog 191 #[vp,ve,zI vars,zI funcs] w (fun e w'=>e=.returned (.bool (Ng p ex vars funcs))∧AH w w'):=by
 refine Aq [vp,ve,zI vars,zI funcs] 37 Tryz.func191 Z Z sM ?_
 have a1:AH w w:=AH.refl w
 have hlp:=TO (e:=ex) (x:=((400:Nat):Int)) oM
 refine gL Z<|gK [0,0,0,0,0,0,0,2,0,0,0,0,0,3,0,0,0,0,3,0,0,0,0,0,0,0,3,0,0] Z<|Ad 1 Z<|AB 231 [] [] [zI vars] Z Z dF Aa (.bool<|Ff vars 0 412) (fun wq=>MX wq _ _hvars)<|Ad 1 Z ?_
 cases ah:(Ff vars 0 412)
 ·exact Ac 26 Z<|A1<|Ah [8] Z (.bool false) Z ⟨MY,a1⟩
 refine Ad 2 Z<|AF (hp.isPtr) Z (Ae (e:=11) Z Z Z) ?_
 obtain⟨cs3,ae,a8⟩:=RN.at (AN _) hp
 obtain⟨a9,rfl,aa⟩:=RPr.of ae
 have a3:=aa.lenle
 unfold maxLen at a3
 refine AE (p:=vp) 0 BB Z (a8 _<|At.of_ext [] a1) (Ae (e:=11) Z Z Z)<|Af (p:=An vp 0) (.inr Z) a9 C4 Z ((a8 _<|At.of_ext [] a1).ld (i:=0) (by simp[DR,DV])) (Ae (e:=11) Z Z Z)<|AR (v:=a9) Gx Z aa.isSl (Ae (e:=11) Z Z Z)<|AB 94 [] [] [zI funcs,zI ((0:Nat):Int),zI (p.length:Int)] Z Z ED (Ae (e:=11) Z Z Z) (.bool (decide (((0:Nat):Int)≤funcs) && decide (funcs≤(p.length:Int)))) (fun wq=>B9 wq _ _ _ _hfuncs oM oM)<|Ad 2 Z ?_
 cases ai:(decide (((0:Nat):Int)≤funcs) && decide (funcs≤(p.length:Int)))
 ·exact Ac 17 Z<|A1<|Ah [8] Z (.bool false) Z ⟨MY,a1⟩
 refine Ad 1 Z<|Ap 190 [] [] [ve,zI ((400:Nat):Int)] Z Z UK (Ae (e:=20) Z Z Z) (Iy _ dex ve (ex) _ (hex.ext (AS<|Ax dex) a1) oM oM oM) ?_
 rintro e6 w6 ⟨rfl,a4⟩
 refine⟨_,rfl,a4,?_⟩
 have af:=a4.size
 have a5:=a1.trans a4
 by_cases ab:((0:Nat):Int)≤IW ex ((400:Nat):Int)
 ·refine De true Z Z (A5 ab) (Ae (e:=20) Z Z Z)<|Ad 3 Z<|Ap 232 [] [] [ve] Z Z Yt (Ae (e:=25) Z Z Z) (Ly _ dex ve (ex) (hex.ext (AS<|Ax dex) a5) oM) ?_
  rintro e8 w8 ⟨rfl,a6⟩
  refine⟨_,rfl,a6,?_⟩
  have ag:=a6.size
  have a2:=a5.trans a6
  by_cases ac:(ex.deep:Int)≤((60:Nat):Int)
  ·refine En true Z Z (A5 ac) (Ae (e:=25) Z Z Z)<|Ad 6 Z<|Ap 233 [] [] [vp,ve,zI vars,zI funcs] Z Z RS (Ae (e:=30) Z Z Z) (MW _ dp vp (p) dex ve (ex) _ _ (hp.ext (AS<|AN dp) a2) (hex.ext (AS<|Ax dex) a2) _hvars _hfuncs (by have h1:=BH.1 (by assumption:Ff vars 0 412=true);omega) (by have h2:=Iw (by assumption:(decide (((0:Nat):Int)≤funcs) && decide (funcs≤(p.length:Int)))=true);omega)) ?_
   rintro aj ak ⟨rfl,a0⟩
   refine⟨_,rfl,a0,?_⟩
   have ad:=a0.size
   have a7:=a2.trans a0
   exact Ac 2 Z<|A1<|Ah [8] Z (.bool<|wf p funcs ex vars) Z ⟨MY,a7⟩
  exact En false Z Z (A6 ac) (Ae (e:=25) Z Z Z)<|Ac 9 Z<|A1<|Ah [8] Z (.bool false) Z ⟨MY,a2⟩
 exact De false Z Z (A6 ab) (Ae (e:=20) Z Z Z)<|Ac 14 Z<|A1<|Ah [8] Z (.bool false) Z ⟨MY,a5⟩
theorem ZL {s:ByteArray}(h:¬(1≤s.size∧s.size≤12)):false=LR s:=by
  cases hh:LR s with
  |false=>rfl
  |true=>unfold LR at hh;simp only[z7,decide_eq_true_eq]at hh;exact absurd hh.1 h
theorem Iz {p:Prop}(h:p:=by first|exact AO (ZL (fun hh=>S5 (Db (by assumption)) ⟨zO,zO⟩))|exact AO (Qs (k:=0) oM oM)|exact AO (Qs (k:=k) oM oM)|exact AO (UZ hq oM (by rw[A5 (show 1≤s.size by omega),A5 (show s.size≤12 by omega)];rfl))):p:=h
theorem Qy {p:Prop}(h:p:=by exact Eh hq (S0 (by(by_cases h0:k=0;(rw[h0];left;omega);omega)))):p:=h
theorem Nn (w:World)(s:ByteArray)  (hl:s.size≤1000000000) :
  Calls Tryz.prog 189 #[.string s] w (fun e w'=>e=.returned (.bool (LR s))∧w'=w):=by
 refine Aq [.string s] 46 Tryz.func189 Z Z sM ?_
 have a1:w=w:=rfl
 refine gL Z<|A0<|gK [0,0,0,0,0,0,0,0,0,0,0,0,0,0] Z<|Ad 1 Z<|Ma (s:=s) u9 Z Aa<|AB 94 [] [] [zI (s.size:Int),zI ((1:Nat):Int),zI ((12:Nat):Int)] Z Z ED Aa (.bool (decide (((1:Nat):Int)≤(s.size:Int)) && decide ((s.size:Int)≤((12:Nat):Int)))) (fun wq=>B9 wq _ _ _ oM oM oM)<|Bo (!(decide (((1:Nat):Int)≤(s.size:Int)) && decide ((s.size:Int)≤((12:Nat):Int)))) Z Z Aa<|Ad 1 Z ?_
 cases ac:(!(decide (((1:Nat):Int)≤(s.size:Int)) && decide ((s.size:Int)≤((12:Nat):Int))))
 ·refine Ad 1 Z ?_
  have hsz:=Iw (Dp (by assumption):(decide (((1:Nat):Int)≤(s.size:Int)) && decide ((s.size:Int)≤((12:Nat):Int)))=true)
  refine Dx (s:=s) 0 u9 Z Z Z sD (Ae (e:=8) Z Z Z) ?_
  by_cases a5:((KL s 0:Nat):Int)<97
  ·exact AI true Z Z (A5 a5) (Ae (e:=8) Z Z Z)<|Ac 6 Z<|Ag Z<|gL Z<|A1<|Ao<|Ah [2] Z (.bool false) Z ⟨Iz,a1⟩
  refine AI false Z Z (A6 a5) (Ae (e:=8) Z Z Z)<|Ad 3 Z<|Dx (s:=s) 0 u9 Z Z Z sD (Ae (e:=13) Z Z Z) ?_
  by_cases a6:122<((KL s 0:Nat):Int)
  ·exact C2 true Z Z (A5 a6) (Ae (e:=13) Z Z Z)<|Ac 1 Z<|Ag Z<|gL Z<|A1<|Ao<|Ah [2] Z (.bool false) Z ⟨Iz,a1⟩
  refine C2 false Z Z (A6 a6) (Ae (e:=13) Z Z Z)<|Ac 1 Z<|Ai Z<|A2<|A0<|gL Z<|A3<|AU (S:=Nat) (fun k=>([(3,zI (k:Int)),(0,.string s)])) (fun k W=>W=w∧k≤s.size∧(List.range k).all (XK s)=true) (fun k=>s.size-k) 0 ⟨rfl,rfl,trivial⟩ ⟨a1,sD,(by rfl)⟩ ?_
  clear a1
  rintro k ρ5 w5 ⟨a0,a7,hq⟩
  refine A0<|gK [0,0,0,0] Z<|Ad 2 Z<|Ma (s:=s) u9 Z Aa ?_
  by_cases a8:(k:Int)<(s.size:Int)
  ·refine AI true Z Z (A5 a8) Aa<|Aj<|Ag Z<|A2<|A0<|A3<|gK [0,0,0,0,0,0,0,0,0,0,0,0,0,0,0,0,0,0,0,0,0,0] Z<|Ad 2 Z<|Dx (s:=s) k u9 Z Z Z sD Aa ?_
   by_cases a9:((KL s k:Nat):Int)<97
   ·refine AI true Z Z (A5 a9) Aa<|Ad 9 Z<|Dx (s:=s) k u9 Z Z Z sD (Ae (e:=34) Z Z Z) ?_
    by_cases aa:((KL s k:Nat):Int)<48
    ·exact AI true Z Z (A5 aa) (Ae (e:=34) Z Z Z)<|Ac 7 Z<|Ag Z<|gL Z<|A1<|AG<|Ao<|Ao<|AG<|Ao<|Ah [2] Z (.bool false) Z ⟨Iz,a0⟩
    refine AI false Z Z (A6 aa) (Ae (e:=34) Z Z Z)<|Ad 3 Z<|Dx (s:=s) k u9 Z Z Z sD (Ae (e:=39) Z Z Z) ?_
    by_cases ab:57<((KL s k:Nat):Int)
    ·exact C2 true Z Z (A5 ab) (Ae (e:=39) Z Z Z)<|Ac 2 Z<|Ag Z<|gL Z<|A1<|AG<|Ao<|Ao<|AG<|Ao<|Ah [2] Z (.bool false) Z ⟨Iz,a0⟩
    refine C2 false Z Z (A6 ab) (Ae (e:=39) Z Z Z)<|Ac 2 Z<|Ai Z<|A2<|Ab _ [0,0,0] Z<|Ad 1 Z<|AQ ((k+1:Nat):Int) Z Z (Bi oM sD) Aa<|Ac 1 Z ?_
    exact⟨k+1,_,rfl,⟨rfl,rfl,trivial⟩,⟨a0,sD,Qy⟩,zD⟩
   refine AI false Z Z (A6 a9) Aa<|Ad 3 Z<|Dx (s:=s) k u9 Z Z Z sD (Ae (e:=28) Z Z Z) ?_
   by_cases a2:122<((KL s k:Nat):Int)
   ·refine C2 true Z Z (A5 a2) (Ae (e:=28) Z Z Z)<|Ad 4 Z<|Dx (s:=s) k u9 Z Z Z sD (Ae (e:=34) Z Z Z) ?_
    by_cases a3:((KL s k:Nat):Int)<48
    ·exact AI true Z Z (A5 a3) (Ae (e:=34) Z Z Z)<|Ac 7 Z<|Ag Z<|gL Z<|A1<|AG<|Ao<|Ao<|AG<|Ao<|Ah [2] Z (.bool false) Z ⟨Iz,a0⟩
    refine AI false Z Z (A6 a3) (Ae (e:=34) Z Z Z)<|Ad 3 Z<|Dx (s:=s) k u9 Z Z Z sD (Ae (e:=39) Z Z Z) ?_
    by_cases a4:57<((KL s k:Nat):Int)
    ·exact C2 true Z Z (A5 a4) (Ae (e:=39) Z Z Z)<|Ac 2 Z<|Ag Z<|gL Z<|A1<|AG<|Ao<|Ao<|AG<|Ao<|Ah [2] Z (.bool false) Z ⟨Iz,a0⟩
    refine C2 false Z Z (A6 a4) (Ae (e:=39) Z Z Z)<|Ac 2 Z<|Ai Z<|A2<|Ab _ [0,0,0] Z<|Ad 1 Z<|AQ ((k+1:Nat):Int) Z Z (Bi oM sD) Aa<|Ac 1 Z ?_
    exact⟨k+1,_,rfl,⟨rfl,rfl,trivial⟩,⟨a0,sD,Qy⟩,zD⟩
   refine C2 false Z Z (A6 a2) (Ae (e:=28) Z Z Z)<|Ac 13 Z<|Ai Z<|A2<|Ab _ [0,0,0] Z<|Ad 1 Z<|AQ ((k+1:Nat):Int) Z Z (Bi oM sD) Aa<|Ac 1 Z ?_
   exact⟨k+1,_,rfl,⟨rfl,rfl,trivial⟩,⟨a0,sD,Qy⟩,zD⟩
  exact AI false Z Z (A6 a8) Aa<|Aj<|Ai Z<|A4<|AA<|AA<|Av<|gL Z<|A1<|Ah [2] Z (.bool true) Z ⟨Iz,a0⟩
 exact Ac 9 Z<|Ag Z<|gL Z<|A1<|Ao<|Ah [2] Z (.bool false) Z ⟨Iz,a1⟩
theorem V6 {α:Type}{l:List α}{f:α→Bool}{k:Nat}(d:α)(hk:k<l.length)(h:(l.take k).any f=false)(h2:f (l.getD k d)=false):(l.take (k+1)).any f=false:=by
  rw[List.take_succ_eq_append_getElem hk,List.any_append,h]
  have:l.getD k d=l[k]:=by simp[hk]
  rw[this]at h2
  simp[h2]
theorem XC {α:Type}{l:List α}{f:α→Bool}{k n:Nat}(d:α)(hk:k<n)(hn:n≤l.length)(h:f (l.getD k d)=true):(l.take n).any f=true:=by
  rw[List.any_eq_true]
  have hkl:k<l.length:=by omega
  have e:l.getD k d=l[k]:=by simp[hkl]
  refine⟨l[k],?_,by rw[← e];exact h⟩
  rw[List.mem_take_iff_getElem]
  exact⟨k,zO,rfl⟩
theorem XD {p:List Fn}{a j:Nat}{x:Int}(hx:x=Du ((p.getD a Fn.zero).outs.take j) ((400:Nat):Int))(h:0≤x)(hj:(p.getD a Fn.zero).outs.length≤j):Ex.sizes (p.getD a Fn.zero).outs≤400:=by
  rw[za hj]at hx
  rcases IO (p.getD a Fn.zero).outs ((400:Nat):Int) (Int.natCast_nonneg _)with h2|h2
  · have:=h2.2;omega
  · have:=h2.1;omega
theorem V7 {p:List Fn}{a j:Nat}(h:Du ((p.getD a Fn.zero).outs.take j) ((400:Nat):Int)<0):Ln p a=false:=eB (by
  have h1:=NL h
  rcases IO (p.getD a Fn.zero).outs ((400:Nat):Int) (Int.natCast_nonneg _)with h2|h2
  · have:=h2.1;have:=h2.2;omega
  · have:=h2.2;omega)
theorem Jy {p:Prop}(h:p:=by first|exact AO (dW (Db (by assumption))).symm|exact AO (dY (Db (by assumption))).symm|exact AO (dZ (Db (by assumption))).symm|exact AO (dX (XC (k:=k) Fn.zero oM oM (by assumption))).symm|exact AO (V7 (j:=j+1) (by rw[hnx,← hx];omega)).symm|exact AO (eA (j:=j) oM (Db (by assumption))).symm|exact AO (YF (Dp (by assumption)) hqa (Dp (by assumption)) (Dp (by assumption)) hqe oM (XD hx oM oM)).symm):p:=h
theorem Gq {p:Prop}(h:p:=by simp[DR,DV]):p:=h
theorem N0 (w:World)(dp:Nat)(vp:Value)(p:List Fn)(a:Nat)(hp:RN [] (rP (Jj dp)) w.heap vp p)(ha:a<p.length)(hpl:p.length≤1000000)(hz:PO p) :
  Calls Tryz.prog 147 #[vp,zI (a:Int)] w (fun e w'=>e=.returned (.bool (Ln p a))∧AH w w'):=by
 refine Aq [vp,zI (a:Int)] 91 Tryz.func147 Z Z sM ?_
 have a4:AH w w:=AH.refl w
 have hza:=hz a ha
 refine gL Z<|gK [0,0,0,2,0,0,0] Z<|Ad 1 Z<|AF (hp.isPtr) Z Aa ?_
 obtain⟨cs1,ay,al⟩:=RN.at (AN _) hp
 obtain⟨a0,rfl,a5⟩:=RPr.of ay
 have ab:=a5.lenle
 unfold maxLen at ab
 refine AE (p:=vp) 0 BB Z (al _<|At.of_ext [] a4) Aa<|Af (p:=An vp 0) (.inr Z) a0 C4 Z ((al _<|At.of_ext [] a4).ld (i:=0) Gq) Aa<|Ad 1 Z<|Aw (v:=a0) a Gx Co Z Z a5.isSl Z sD Aa<|Ac 1 Z<|A0<|gK [0,0,0,2,0,0,0,0,0,0,2,0,0,0,0,0,0,0,2,0,0,0,0] Z<|Ad 1 Z ?_
 refine AF (RN.isPtr<|RN.ptr (Az dp) (by decide) Fn.zero a5 sD) Z Aa ?_
 obtain⟨cs2,az,a3⟩:=a5.get (Az dp) Fn.zero (k:=a) sD
 obtain⟨a6,rfl,a9⟩:=RF.of az
 have ac:=a9.rn.lenle
 unfold maxLen at ac
 refine AE (p:=Ay a0 a 3) 0 L2 Z (a3 _<|At.of_ext [] a4) Aa<|Af (p:=An (Ay a0 a 3) 0) (.inr Z) (.string<|(p.getD a Fn.zero).name) Qn Z ((a3 _<|At.of_ext [] a4).ld (i:=0) Gq) Aa<|AB 189 [] [] [.string<|(p.getD a Fn.zero).name] Z Z cY Aa (.bool<|LR<|(p.getD a Fn.zero).name) (fun wq=>Nn wq ((p.getD a Fn.zero).name) oM)<|Bo (!(LR<|(p.getD a Fn.zero).name)) Z Z Aa<|Ad 1 Z ?_
 cases b1:(!(LR ((p.getD a Fn.zero).name)))
 ·refine Ad 1 Z<|AF (RN.isPtr<|RN.ptr (Az dp) (by decide) Fn.zero a5 sD) Z (Ae (e:=21) Z Z Z)<|AE (p:=Ay a0 a 3) 1 C9 Z (a3 _<|At.of_ext [] a4) (Ae (e:=21) Z Z Z)<|Af (p:=An (Ay a0 a 3) 1) (.inr Z) (zI<|(p.getD a Fn.zero).params) AC Z ((a3 _<|At.of_ext [] a4).ld (i:=1) Gq) (Ae (e:=21) Z Z Z) ?_
  refine AB 94 [] [] [zI<|(p.getD a Fn.zero).params,zI ((0:Nat):Int),zI ((12:Nat):Int)] Z Z ED (Ae (e:=21) Z Z Z) (.bool (decide (((0:Nat):Int)≤((p.getD a Fn.zero).params)) && decide (((p.getD a Fn.zero).params)≤((12:Nat):Int)))) (fun wq=>B9 wq _ _ _ a9.rng oM oM)<|Bo (!(decide (((0:Nat):Int)≤((p.getD a Fn.zero).params)) && decide (((p.getD a Fn.zero).params)≤((12:Nat):Int)))) Z Z (Ae (e:=21) Z Z Z)<|Ad 2 Z ?_
  cases b2:(!(decide (((0:Nat):Int)≤((p.getD a Fn.zero).params)) && decide (((p.getD a Fn.zero).params)≤((12:Nat):Int))))
  ·refine Ad 1 Z<|AF (RN.isPtr<|RN.ptr (Az dp) (by decide) Fn.zero a5 sD) Z (Ae (e:=29) Z Z Z)<|AE (p:=Ay a0 a 3) 2 BU Z (a3 _<|At.of_ext [] a4) (Ae (e:=29) Z Z Z)<|Af (p:=An (Ay a0 a 3) 2) (.inr Z) a6 Bf Z ((a3 _<|At.of_ext [] a4).ld (i:=2) Gq) (Ae (e:=29) Z Z Z)<|AR (v:=a6) CR Z a9.rn.isSl (Ae (e:=29) Z Z Z) ?_
   refine AB 94 [] [] [zI ((((p.getD a Fn.zero).outs).length:Nat):Int),zI ((1:Nat):Int),zI ((12:Nat):Int)] Z Z ED (Ae (e:=29) Z Z Z) (.bool (decide (((1:Nat):Int)≤((((p.getD a Fn.zero).outs).length:Nat):Int)) && decide (((((p.getD a Fn.zero).outs).length:Nat):Int)≤((12:Nat):Int)))) (fun wq=>B9 wq _ _ _ oM oM oM)<|Bo (!(decide (((1:Nat):Int)≤((((p.getD a Fn.zero).outs).length:Nat):Int)) && decide (((((p.getD a Fn.zero).outs).length:Nat):Int)≤((12:Nat):Int)))) Z Z (Ae (e:=29) Z Z Z)<|Ac 1 Z ?_
   cases ar:(!(decide (((1:Nat):Int)≤((((p.getD a Fn.zero).outs).length:Nat):Int)) && decide (((((p.getD a Fn.zero).outs).length:Nat):Int)≤((12:Nat):Int))))
   ·refine Ai (by first|rfl|exact zW ar)<|A2<|A0<|gL Z<|A3 ?_
    refine AU (S:=Nat) (fun k=>([(6,zI (k:Int)),(0,vp),(1,zI (a:Int)),(5,Ay a0 a 3)])) (fun k W=>AH w W∧k≤a∧(p.take k).any (fun g=>IV g.name (p.getD a Fn.zero).name)=false) (fun k=>a-k) 0 ⟨rfl,rfl,rfl,rfl,trivial⟩ ⟨a4,sD,(by rfl)⟩ ?_
    clear a4 ab ac
    rintro k ρ9 w9 ⟨a7,au,hq⟩
    have am:w.heap.size≤w9.heap.size:=a7.size
    refine A0<|gK [0,0,0] Z<|Ad 2 Z ?_
    by_cases ad:(k:Int)<(a:Int)
    ·refine AI true Z Z (A5 ad) Aa<|Aj<|Ag Z<|A2<|A0<|A3<|A0<|AM _ [0,0,0,1,0,0,0,1,0,0,0,1,0] mixed (by kernel_rfl)<|Ad 1 Z<|AF (hp.isPtr) Z Aa<|AE (p:=vp) 0 BB Z (al _<|At.of_ext [] a7.drew) Aa<|Af (p:=An vp 0) (.inl Z) a0 C4 Z ((al _<|At.of_ext [] a7.drew).ld (i:=0) Gq) Aa<|Ad 1 Z ?_
     refine Aw (v:=a0) k Gx Co Z Z a5.isSl Z sD Aa ?_
     obtain⟨cs11,an,ae⟩:=a5.get (Az dp) Fn.zero (k:=k) sD
     obtain⟨b0,rfl,ao⟩:=RF.of an
     have af:=ao.rn.lenle
     unfold maxLen at af
     refine AE (p:=Ay a0 k 3) 0 L2 Z (ae _<|At.of_ext [] a7.drew) Aa<|Af (p:=An (Ay a0 k 3) 0) (.inl Z) (.string<|(p.getD k Fn.zero).name) Qn Z ((ae _<|At.of_ext [] a7.drew).ld (i:=0) Gq) Aa<|Ad 1 Z<|AF (RN.isPtr<|RN.ptr (Az dp) (by decide) Fn.zero a5 sD) Z Aa<|AE (p:=Ay a0 a 3) 0 L2 Z (a3 _<|At.of_ext [] a7.drew) Aa ?_
     refine Af (p:=An (Ay a0 a 3) 0) (.inl Z) (.string<|(p.getD a Fn.zero).name) Qn Z ((a3 _<|At.of_ext [] a7.drew).ld (i:=0) Gq) Aa ?_
     cases ag:IV ((p.getD k Fn.zero).name) ((p.getD a Fn.zero).name)
     ·refine Q0 false u9 Z Z ag Aa<|Aj<|Ai Z<|A2<|Ab _ [0,0,0] Z<|Ad 1 Z<|AQ ((k+1:Nat):Int) Z Z (Bi oM sD) Aa<|Ac 1 Z ?_
      exact⟨k+1,_,rfl,zR,⟨a7.drew,sD,(by exact V6 Fn.zero oM hq (by assumption))⟩,zD⟩
     exact Q0 true u9 Z Z ag Aa<|Aj<|Ag Z<|gL Z<|A1<|AG<|Ao<|Ao<|AG<|Ao<|Ah [4] Z (.bool false) Z ⟨Jy,a7.drew⟩
    refine AI false Z Z (A6 ad) Aa<|Aj<|Ai Z<|A4<|AA<|AA<|Av<|gK [0] Z ?_
    have hka:k=a:=by omega
    rw[hka]at hq
    have hqa:=hq
    refine Ac 1 Z<|A0<|gL Z<|A3 ?_
    refine AU (S:=Nat×Int) (fun⟨j,x⟩=>([(7,zI x),(8,zI (j:Int)),(0,vp),(1,zI (a:Int)),(5,Ay a0 a 3)])) (fun⟨j,x⟩ W=>AH w W∧j≤(p.getD a Fn.zero).outs.length∧x=Du ((p.getD a Fn.zero).outs.take j) ((400:Nat):Int)∧(0≤x∧x≤400)∧(List.range j).all (fun j=>Ng p ((p.getD a Fn.zero).outs.getD j Ex.zero) (p.getD a Fn.zero).params (a:Int))=true) (fun⟨j,x⟩=>(p.getD a Fn.zero).outs.length-j) (0,((400:Nat):Int)) ⟨rfl,rfl,rfl,rfl,rfl,trivial⟩ ⟨a7,sD,(by rw[List.take_zero,Du]),oM,(by rfl)⟩ ?_
    clear a7 am
    rintro⟨j,x⟩ ρ13 b3 ⟨a1,ap,hx,aq,hqe⟩
    have av:w.heap.size≤b3.heap.size:=a1.size
    refine A0<|gK [0,0,0,0,2,0,0] Z<|Ad 2 Z<|AF (RN.isPtr<|RN.ptr (Az dp) (by decide) Fn.zero a5 sD) Z Aa<|AE (p:=Ay a0 a 3) 2 BU Z (a3 _<|At.of_ext [] a1) Aa<|Af (p:=An (Ay a0 a 3) 2) (.inr Z) a6 Bf Z ((a3 _<|At.of_ext [] a1).ld (i:=2) Gq) Aa<|AR (v:=a6) CR Z a9.rn.isSl Aa ?_
    by_cases ah:(j:Int)<((((p.getD a Fn.zero).outs).length:Nat):Int)
    ·refine AI true Z Z (A5 ah) Aa<|Aj<|Ag Z<|A2<|A0<|A3<|gK [0,0,0,2,0,0,0,3,0] Z ?_
     have hst:=E9 (l:=(p.getD a Fn.zero).outs) (k:=j) oM
     have hle:=DE (p.getD a Fn.zero).outs (j+1)
     have hnx:=NK (l:=(p.getD a Fn.zero).outs) (k:=j) (x:=((400:Nat):Int)) oM oM
     have hnr:=Pn (e:=(p.getD a Fn.zero).outs.getD j Ex.zero) (x:=x) oM
     refine Ad 1 Z<|AF (RN.isPtr<|RN.ptr (Az dp) (by decide) Fn.zero a5 sD) Z Aa<|AE (p:=Ay a0 a 3) 2 BU Z (a3 _<|At.of_ext [] a1) Aa<|Af (p:=An (Ay a0 a 3) 2) (.inr Z) a6 Bf Z ((a3 _<|At.of_ext [] a1).ld (i:=2) Gq) Aa<|Ad 1 Z ?_
     refine Aw (v:=a6) j CR Bj Z Z a9.rn.isSl Z sD Aa<|Ad 1 Z ?_
     refine Ap 190 [] [] [Ay a6 j 5,zI x] Z Z UK Aa (Iy _ dp (Ay a6 j 5) (((p.getD a Fn.zero).outs).getD j Ex.zero) _ (RN.ptr (Ax dp) (by decide) Ex.zero (a9.rn.ext (Am<|Ax dp) a1) sD) oM oM oM) ?_
     rintro b4 b5 ⟨rfl,aa⟩
     refine⟨_,rfl,aa,?_⟩
     have aw:=aa.size
     have a2:=a1.trans aa
     refine Ac 1 Z<|A0<|AM _ [0,0,0,0,0,0,0,1,0,0,0,0,0,1,0,3,0,0] mixed (by kernel_rfl)<|Ad 1 Z ?_
     by_cases ai:IW (((p.getD a Fn.zero).outs).getD j Ex.zero) x<((0:Nat):Int)
     ·exact AI true Z Z (A5 ai) Aa<|Ac 16 Z<|Ag Z<|gL Z<|A1<|AG<|Ao<|Ao<|AG<|Ao<|Ah [4] Z (.bool false) Z ⟨Jy,a2.drew⟩
     refine AI false Z Z (A6 ai) Aa<|Ad 3 Z<|AF (RN.isPtr<|RN.ptr (Az dp) (by decide) Fn.zero a5 sD) Z (Ae (e:=75) Z Z Z)<|AE (p:=Ay a0 a 3) 2 BU Z (a3 _<|At.of_ext [] a2.drew) (Ae (e:=75) Z Z Z)<|Af (p:=An (Ay a0 a 3) 2) (.inl Z) a6 Bf Z ((a3 _<|At.of_ext [] a2.drew).ld (i:=2) Gq) (Ae (e:=75) Z Z Z)<|Ad 1 Z ?_
     refine Aw (v:=a6) j CR Bj Z Z a9.rn.isSl Z sD (Ae (e:=75) Z Z Z)<|Ad 1 Z ?_
     refine AF (RN.isPtr<|RN.ptr (Az dp) (by decide) Fn.zero a5 sD) Z (Ae (e:=75) Z Z Z)<|AE (p:=Ay a0 a 3) 1 C9 Z (a3 _<|At.of_ext [] a2.drew) (Ae (e:=75) Z Z Z)<|Af (p:=An (Ay a0 a 3) 1) (.inl Z) (zI<|(p.getD a Fn.zero).params) AC Z ((a3 _<|At.of_ext [] a2.drew).ld (i:=1) Gq) (Ae (e:=75) Z Z Z)<|Ad 1 Z ?_
     refine Ap 191 [] [] [vp,Ay a6 j 5,zI<|(p.getD a Fn.zero).params,zI (a:Int)] Z Z cZ (Ae (e:=75) Z Z Z) (MZ _ dp vp (p) dp (Ay a6 j 5) (((p.getD a Fn.zero).outs).getD j Ex.zero) _ _ (hp.ext (AS<|AN dp) a2.drew) (RN.ptr (Ax dp) (by decide) Ex.zero (a9.rn.ext (Am<|Ax dp) a2.drew) sD) a9.rng oM oM) ?_
     rintro b6 b7 ⟨rfl,a8⟩
     refine⟨_,rfl,a8,?_⟩
     replace a8:=a8.of_drew
     have ax:=a8.size
     have aj:=a2.trans a8
     refine Bo (!(Ng p (((p.getD a Fn.zero).outs).getD j Ex.zero) ((p.getD a Fn.zero).params) (a:Int))) Z Z (Ae (e:=75) Z Z Z)<|Ac 1 Z ?_
     cases ak:(!(Ng p (((p.getD a Fn.zero).outs).getD j Ex.zero) ((p.getD a Fn.zero).params) (a:Int)))
     ·refine Ai (by first|rfl|exact zW ak)<|A2<|Ab _ [0,0,0] Z<|Ad 1 Z<|AQ ((j+1:Nat):Int) Z Z (Bi oM sD) Aa<|Ac 1 Z ?_
      exact⟨(j+1,IW (((p.getD a Fn.zero).outs).getD j Ex.zero) x),_,rfl,zR,⟨aj,sD,(by rw[hnx,← hx]),oM,(by exact Eh hqe (Dp (by assumption)))⟩,zD⟩
     exact Ag (by first|rfl|exact zW ak)<|gL Z<|A1<|AG<|Ao<|Ao<|AG<|Ao<|Ah [4] Z (.bool false) Z ⟨Jy,aj⟩
    exact AI false Z Z (A6 ah) Aa<|Aj<|Ai Z<|A4<|AA<|AA<|Av<|gL Z<|A1<|Ah [4] Z (.bool true) Z ⟨Jy,a1⟩
   exact Ag (by first|rfl|exact zW ar)<|gL Z<|A1<|Ao<|Ah [4] Z (.bool false) Z ⟨Jy,a4⟩
  exact Ac 8 Z<|Ag Z<|gL Z<|A1<|Ao<|Ah [4] Z (.bool false) Z ⟨Jy,a4⟩
 exact Ac 16 Z<|Ag Z<|gL Z<|A1<|Ao<|Ah [4] Z (.bool false) Z ⟨Jy,a4⟩
theorem V8 {p:Prop}(h:p:=by first|exact AO (V1 oM)|exact AO (V2 oM oM oM hq)|exact AO (Jv (k:=k) oM (Db (by assumption)))):p:=h
theorem OF (w:World)(dp:Nat)(vp:Value)(p:List Fn)(hp:RN [] (rP (Jj dp)) w.heap vp p)(hz:PO p) :
  Calls Tryz.prog 91 #[vp] w (fun e w'=>e=.returned (.bool (GJ p))∧AH w w'):=by
 refine Aq [vp] 23 Tryz.func91 Z Z sM ?_
 have a1:AH w w:=AH.refl w
 refine gL Z<|A0<|gK [0,0,0,2,0,0] Z<|Ad 1 Z<|AF (hp.isPtr) Z Aa ?_
 obtain⟨cs1,ac,a3⟩:=RN.at (AN _) hp
 obtain⟨a4,rfl,a5⟩:=RPr.of ac
 have a2:=a5.lenle
 unfold maxLen at a2
 refine AE (p:=vp) 0 BB Z (a3 _<|At.of_ext [] a1) Aa<|Af (p:=An vp 0) (.inr Z) a4 C4 Z ((a3 _<|At.of_ext [] a1).ld (i:=0) (by simp[DR,DV])) Aa<|AR (v:=a4) Gx Z a5.isSl Aa ?_
 by_cases a7:((16:Nat):Int)<(p.length:Int)
 ·exact C2 true Z Z (A5 a7) Aa<|Aj<|Ag Z<|gL Z<|A1<|Ao<|Ah [2] Z (.bool false) Z ⟨V8,a1⟩
 refine C2 false Z Z (A6 a7) Aa<|Aj<|Ai Z<|A2<|A0<|gL Z<|A3<|AU (S:=Nat) (fun k=>([(3,zI (k:Int)),(0,vp)])) (fun k W=>AH w W∧k≤p.length∧(List.range k).all (Ln p)=true) (fun k=>p.length-k) 0 ⟨rfl,rfl,trivial⟩ ⟨a1,sD,(by rfl)⟩ ?_
 clear a1 a2
 rintro k ρ3 w3 ⟨a0,a8,hq⟩
 have ad:w.heap.size≤w3.heap.size:=a0.size
 refine A0<|gK [0,0,0,0,2,0,0] Z<|Ad 2 Z<|AF (hp.isPtr) Z Aa<|AE (p:=vp) 0 BB Z (a3 _<|At.of_ext [] a0) Aa<|Af (p:=An vp 0) (.inr Z) a4 C4 Z ((a3 _<|At.of_ext [] a0).ld (i:=0) (by simp[DR,DV])) Aa<|AR (v:=a4) Gx Z a5.isSl Aa ?_
 by_cases a9:(k:Int)<(p.length:Int)
 ·refine AI true Z Z (A5 a9) Aa<|Aj<|Ag Z<|A2<|A0<|A3<|gK [0,0,3,0] Z<|Ad 2 Z<|Ap 147 [] [] [vp,zI (k:Int)] Z Z cL Aa (N0 _ dp vp (p) (k) (hp.ext (AS<|AN dp) a0) oM oM hz) ?_
  rintro e5 w5 ⟨rfl,a6⟩
  refine⟨_,rfl,a6,?_⟩
  have ae:=a6.size
  have aa:=a0.trans a6
  refine Bo (!(Ln p k)) Z Z Aa<|Aj ?_
  cases ab:(!(Ln p k))
  ·refine Ai (by first|rfl|exact zW ab)<|A2<|Ab _ [0,0,0] Z<|Ad 1 Z<|AQ ((k+1:Nat):Int) Z Z (Bi oM sD) Aa<|Ac 1 Z ?_
   exact⟨k+1,_,rfl,⟨rfl,rfl,trivial⟩,⟨aa,sD,(by exact Eh hq (Dp (by assumption)))⟩,zD⟩
  exact Ag (by first|rfl|exact zW ab)<|gL Z<|A1<|AG<|Ao<|Ao<|AG<|Ao<|Ah [2] Z (.bool false) Z ⟨V8,aa⟩
 exact AI false Z Z (A6 a9) Aa<|Aj<|Ai Z<|A4<|AA<|AA<|Av<|gL Z<|A1<|Ah [2] Z (.bool true) Z ⟨V8,a0⟩
theorem Cx (w:World)(x:Int)(K:Nat)(_hx:Bn x)(_hK:K≤1000000000000)(hK:K≤1000000000) :
  Calls Tryz.prog 203 #[zI x,zI (K:Int)] w (fun e w'=>∃v0:Value,e=.returned (v0)∧AH w w'∧Fr (Bp rI 2) w.heap.size w'.heap.size w'.heap v0 (cst K x)):=by
 refine Aq [zI x,zI (K:Int)] 14 Tryz.func203 Z Z sM ?_
 have a5:AH w w:=AH.refl w
 refine gL Z<|gK [0,3,0] Z<|Ad 1 Z (Ga (n:=K) Bt BG Z Z Z sD Aa fun v1 w1 a2 ab a0=>?_)
 have a6:=a2.size
 have a1:=a5.trans a2
 refine Ac 1 Z<|A0<|gK [0,0] Z<|Ad 1 Z ?_
 by_cases a3:((0:Nat):Int)<(K:Int)
 ·refine C2 true Z Z (A5 a3) Aa<|Aj<|Ag Z<|Ab _ [0,0,0,4] Z<|Ad 2 Z<|Aw (v:=v1) 0 Bt BG Z Z a0.isSl Z sD Aa ?_
  refine GQ (v:=v1) (w:=w1) HL Z Z _hx a0 sD Aa fun w3 F3 a4 ac a7 a8=>?_
  have a9:AH w w3:=a4.below a1 (fun c hc=>A8 (A7 _) (a7 c hc).1) a1.size
  have aa:=a4.size
  exact Aj<|gK [0,0] Z<|Ac 2 Z<|A1<|Ah [4] Z v1 Z ⟨v1,rfl,a9,(by exact a8.up o1)⟩
 exact C2 false Z Z (A6 a3) Aa<|Aj<|Ai Z<|A2<|gK [0,0] Z<|Ac 2 Z<|A1<|Ah [4] Z v1 Z ⟨v1,rfl,a1,(by have h:=a0.up o1;obtain rfl:K=0:=oM;exact h)⟩
theorem OG (a:List Int)(y:Int):scl a y=CL a y:=by
  unfold scl CL
  exact Mg (d:=0) (k:=a.length) (fun r hr=>by rw[Ci (d:=0) hr,C8 _ hr]) (by simp) (by simp)
theorem CH {p:Prop}(h:p:=by first|omega|assumption|(simp only[zb,z9,z4,z6,z5,Fe];omega)|(simp[zb,z9,z4,z6,z5,Fe];done)|(simp[zb,z9,z4,z6,z5,Fe];omega)):p:=h
theorem C6 (w:World)(va:Value)(a:Sr)(vb:Value)(b:Sr)(ha:Rd (B4 rI) w.heap va a)(hb:Rd (B4 rI) w.heap vb b)(hla:a.length≤1000000000000)(hl:a.length≤b.length) :
  Calls Tryz.prog 207 #[va,vb] w (fun e w'=>∃v0:Value,e=.returned (v0)∧AH w w'∧Fr (Bp rI 2) w.heap.size w'.heap.size w'.heap v0 (Cq a b)):=by
 refine Aq [va,vb] 27 Tryz.func207 Z Z sM ?_
 have a8:AH w w:=AH.refl w
 have an:=ha.lenle
 have ao:=hb.lenle
 refine gL Z<|gK [3,0] Z (Cn (rI) AJ Bt BG Aa fun v1 w1 a4 af a9=>?_)
 have a5:=a4.size
 have aa:=a8.trans a4
 refine Ac 1 Z<|A0<|gL Z<|A3 ?_
 refine AU (S:=Nat×Value) (fun⟨k,vo⟩=>([(5,vo),(6,zI (k:Int)),(0,va),(1,vb)])) (fun⟨k,vo⟩ W=>AH w W∧Fr (Bp rI 2) w.heap.size W.heap.size W.heap vo (CD k fun t=>md (a.getD t 0+b.getD t 0))∧k≤a.length) (fun⟨k,vo⟩=>a.length-k) (0,v1) ⟨rfl,rfl,rfl,rfl,trivial⟩ ⟨aa,(by exact a9.up o1),CH⟩ ?_
 clear a8 a9 af a4 a5 aa
 rintro⟨k,vo⟩ ρ2 w2 ⟨a2,a1,ab⟩
 have ag:w.heap.size≤w2.heap.size:=a2.size
 refine A0<|gK [0,0,0,0] Z<|Ad 2 Z<|AR (v:=va) Bt Z ha.isSl Aa ?_
 by_cases ac:(k:Int)<(a.length:Int)
 ·refine AI true Z Z (A5 ac) Aa<|Aj<|Ag Z<|A2<|A0<|A3<|AM _ [0,0,0,0,1,0,0,0,1,0,3,4,0] mixed (by kernel_rfl)<|Ad 3 Z<|Aw (v:=va) k Bt BG Z Z ha.isSl Z CH Aa ?_
  refine Af (p:=Ay va k 1) (.inl Z) (zI<|a.getD k 0) AC Z (Bd a2.drew (ha.getI CH).1) Aa<|Ad 2 Z ?_
  refine Aw (v:=vb) k Bt BG Z Z hb.isSl Z CH Aa ?_
  refine Af (p:=Ay vb k 1) (.inl Z) (zI<|b.getD k 0) AC Z (Bd a2.drew (hb.getI CH).1) Aa ?_
  refine AB 64 [] [] [zI<|a.getD k 0,zI<|b.getD k 0] Z Z UD Aa (zI<|md ((a.getD k 0)+(b.getD k 0))) (fun wq=>FE wq _ _ (ha.getI CH).2 (hb.getI CH).2) ?_
  refine BA (u:=zI<|md ((a.getD k 0)+(b.getD k 0))) (B:=w2.heap.size) AJ Bt BG Z Z (Nb w2.heap.size w2.heap.size _ _<|Eo _) (A7 _) Aa fun v5 w5 a3 al ad=>?_
  replace a3:=a3.of_drew
  have ah:=a3.size
  have a6:=a2.trans a3
  have a0:=a1.ext (o1) a3
  refine GP (v:=vo) (a:=v5) Bt BG Z Z Z a0 a6.size ad.rd1 CH (by unfold maxLen;first|omega|assumption|(simp[Fe];done)|(simp[Fe];omega)) Aa fun v6 w6 F6 a7 ae ai=>?_
  have aj:AH w w6:=a7.below a6 (fun c hc=>A8 (A7 _) (ae c hc).1) a6.size
  have ak:=a7.size
  have am:=ad.chg (o1) a7 fun c hc=>zH<|ae c hc
  refine Ac 1 Z<|Ab _ [0,0,0] Z<|Ad 1 Z<|AQ ((k+1:Nat):Int) Z Z (Bi oM CH) Aa<|Ac 1 Z ?_
  exact⟨(k+1,v6),_,rfl,zR,⟨aj,(by rw[Kb];exact ai.up o1),CH⟩,zD⟩
 exact AI false Z Z (A6 ac) Aa<|Aj<|Ai Z<|A4<|AA<|AA<|Av<|gK [0,0] Z<|Ac 2 Z<|A1<|Ah [4] Z vo Z ⟨vo,rfl,a2,(by have h:=a1.up o1;rw[show k=a.length from by omega]at h;exact h)⟩
theorem E1 (w:World)(va:Value)(a:Sr)(vb:Value)(b:Sr)(ha:Rd (B4 rI) w.heap va a)(hb:Rd (B4 rI) w.heap vb b)(hla:a.length≤1000000000000)(hlb:b.length≤1000000000000)(hl:a.length≤b.length) :
  Calls Tryz.prog 208 #[va,vb] w (fun e w'=>∃v0:Value,e=.returned (v0)∧AH w w'∧Fr (Bp rI 2) w.heap.size w'.heap.size w'.heap v0 (EK a b)):=by
 refine Aq [va,vb] 9 Tryz.func208 Z Z sM ?_
 have a7:AH w w:=AH.refl w
 have ab:=ha.lenle
 have ac:=hb.lenle
 refine gL Z<|gK [0,0,3,3,0] Z<|Ad 2 Z<|Ap 204 [] [] [vb,zI ((1000002:Nat):Int)] Z Z UM Aa (FL _ _ _ _ (hb.ext g1 a7) oM hlb) ?_
 rintro e1 w1 ⟨a3,rfl,a4,a0⟩
 refine⟨_,rfl,a4,?_⟩
 have a8:=a4.size
 have a5:=a7.trans a4
 refine Ap 207 [] [] [va,a3] Z Z J8 Aa (C6 _ _ _ _ _ (ha.ext g1 a5) a0.rd1 hla (by unfold scl;simp;omega)) ?_
 rintro e2 w2 ⟨a1,rfl,a6,a2⟩
 refine⟨_,rfl,a6,?_⟩
 have a9:=a6.size
 have aa:=a5.trans a6
 exact Ac 1 Z<|A1<|Ah [4] Z a1 Z ⟨a1,rfl,aa,(by rw[← Q3 hl,← OG];exact(a2.up o1).low a5.size)⟩
theorem E2 (w:World)(va:Value)(a:Sr)(vb:Value)(b:Sr)(ha:Rd (B4 rI) w.heap va a)(hb:Rd (B4 rI) w.heap vb b)(hla:a.length≤1000000000000)(hl:a.length≤b.length) :
  Calls Tryz.prog 209 #[va,vb] w (fun e w'=>∃v0:Value,e=.returned (v0)∧AH w w'∧Fr (Bp rI 2) w.heap.size w'.heap.size w'.heap v0 (Ce a b)):=by
 refine Aq [va,vb] 39 Tryz.func209 Z Z sM ?_
 have ab:AH w w:=AH.refl w
 have au:=ha.lenle
 have av:=hb.lenle
 refine gL Z<|gK [3,0] Z (Cn (rI) AJ Bt BG Aa fun v1 w1 a5 ak ac=>?_)
 have a6:=a5.size
 have ad:=ab.trans a5
 refine Ac 1 Z<|A0<|gL Z<|A3 ?_
 refine AU (S:=Nat×Value) (fun⟨k,vo⟩=>([(5,vo),(6,zI (k:Int)),(0,va),(1,vb)])) (fun⟨k,vo⟩ W=>AH w W∧Fr (Bp rI 2) w.heap.size W.heap.size W.heap vo (CD k fun t=>ND a b t (t+1))∧k≤a.length) (fun⟨k,vo⟩=>a.length-k) (0,v1) ⟨rfl,rfl,rfl,rfl,trivial⟩ ⟨ad,(by exact ac.up o1),CH⟩ ?_
 clear ab ac ak a5 a6 ad
 rintro⟨k,vo⟩ ρ2 w2 ⟨a4,a0,ae⟩
 have a7:w.heap.size≤w2.heap.size:=a4.size
 refine A0<|gK [0,0,0,0] Z<|Ad 2 Z<|AR (v:=va) Bt Z ha.isSl Aa ?_
 by_cases af:(k:Int)<(a.length:Int)
 ·refine AI true Z Z (A5 af) Aa<|Aj<|Ag Z<|A2<|A0<|A3<|gL Z<|A0<|gL Z<|A3 ?_
  refine AU (S:=Nat×Int) (fun⟨i,s⟩=>([(7,zI s),(8,zI (i:Int)),(0,va),(1,vb),(5,vo),(6,zI (k:Int))])) (fun⟨i,s⟩ W=>AH w W∧Fr (Bp rI 2) w.heap.size W.heap.size W.heap vo (CD k fun t=>ND a b t (t+1))∧i≤k+1∧s=ND a b k i∧(0≤s∧s<1000003)) (fun⟨i,s⟩=>k+1-i) (0,((0:Nat):Int)) ⟨rfl,rfl,rfl,rfl,rfl,rfl,trivial⟩ ⟨a4,a0.up o1,CH,(by rfl),oM⟩ ?_
  clear a0 a4 a7
  rintro⟨i,s⟩ ρ4 w4 ⟨a3,a2,ag,hs,hsr⟩
  have al:w.heap.size≤w4.heap.size:=a3.size
  refine A0<|gK [0,0,0] Z<|Ad 2 Z ?_
  by_cases ah:(i:Int)≤(k:Int)
  ·refine En true Z Z (A5 ah) Aa<|Aj<|Ag Z<|A2<|A0<|A3<|AM _ [0,0,0,0,1,0,0,0,0,0,1,0,0,0] mixed (by kernel_rfl)<|Ad 3 Z<|Aw (v:=va) i Bt BG Z Z ha.isSl Z CH Aa ?_
   refine Af (p:=Ay va i 1) (.inl Z) (zI<|a.getD i 0) AC Z (Bd a3.drew (ha.getI CH).1) Aa<|Ad 3 Z<|Bk ((k-i:Nat):Int) Z Z (by rw[CM oM oM];omega) Aa ?_
   refine Aw (v:=vb) (k-i) Bt BG Z Z hb.isSl Z CH Aa ?_
   refine Af (p:=Ay vb (k-i) 1) (.inl Z) (zI<|b.getD (k-i) 0) AC Z (Bd a3.drew (hb.getI CH).1) Aa ?_
   refine AB 63 [] [] [zI<|a.getD i 0,zI<|b.getD (k-i) 0] Z Z Nj Aa (zI<|md ((a.getD i 0)*(b.getD (k-i) 0))) (fun wq=>Cm wq _ _ (ha.getI CH).2 (hb.getI CH).2) ?_
   refine AB 64 [] [] [zI s,zI<|md ((a.getD i 0)*(b.getD (k-i) 0))] Z Z UD Aa (zI<|md (s+(md ((a.getD i 0)*(b.getD (k-i) 0))))) (fun wq=>FE wq _ _ oM<|Eo _)<|Ac 1 Z<|Ab _ [0,0,0] Z<|Ad 1 Z<|AQ ((i+1:Nat):Int) Z Z (Bi oM CH) Aa<|Ac 1 Z ?_
   exact⟨(i+1,md (s+(md ((a.getD i 0)*(b.getD (k-i) 0))))),_,rfl,zR,⟨a3.drew,a2.up o1,CH,(by rw[GG,hs];rfl),(by exact Ck _)⟩,zD⟩
  refine En false Z Z (A6 ah) Aa<|Aj<|Ai Z<|A4<|AA<|AA<|Av<|Ab _ [0,0,3,4,0] Z<|Ad 2 Z (BA (u:=zI s) (B:=w4.heap.size) AJ Bt BG Z Z (Nb w4.heap.size w4.heap.size _ _ oM) (A7 _) Aa fun v8 w8 a8 ar ai=>?_)
  have am:=a8.size
  have a9:=a3.trans a8
  have a1:=a2.ext (o1) a8
  refine GP (v:=vo) (a:=v8) Bt BG Z Z Z a1 a9.size ai.rd1 CH (by unfold maxLen;first|omega|assumption|(simp[Fe];done)|(simp[Fe];omega)) Aa fun v9 w9 F9 aa aj an=>?_
  have ao:AH w w9:=aa.below a9 (fun c hc=>A8 (A7 _) (aj c hc).1) a9.size
  have ap:=aa.size
  have aq:=ai.chg (o1) aa fun c hc=>zH<|aj c hc
  refine Ac 1 Z<|Ab _ [0,0,0] Z<|Ad 1 Z<|AQ ((k+1:Nat):Int) Z Z (Bi oM CH) Aa<|Ac 1 Z ?_
  exact⟨(k+1,v9),_,rfl,zR,⟨ao,(by rw[Kb];have h:=an.up o1;rw[hs,show i=k+1 from by omega]at h;exact h),CH⟩,zD⟩
 exact AI false Z Z (A6 af) Aa<|Aj<|Ai Z<|A4<|AA<|AA<|Av<|gK [0,0] Z<|Ac 2 Z<|A1<|Ah [4] Z vo Z ⟨vo,rfl,a4,(by have h:=a0.up o1;rw[show k=a.length from by omega]at h;exact h)⟩
theorem Dw {p:Prop}(h:p:=by first|omega|assumption|(simp only[zb,z9,z4,z6,z5,E3];omega)|(simp[zb,z9,z4,z6,z5,E3];done)|(simp[zb,z9,z4,z6,z5,E3];omega)):p:=h
theorem H7 (w:World)(va:Value)(a:Sr)(vb:Value)(b:Sr)(ha:Rd (B4 rI) w.heap va a)(hb:Rd (B4 rI) w.heap vb b)(hla:a.length≤1000000000000)(hl:a.length≤b.length)(h1:0<b.length)(hqa:AX a=true) :
  Calls Tryz.prog 210 #[va,vb] w (fun e w'=>∃v0:Value,e=.returned (v0)∧AH w w'∧Fr (Bp rI 2) w.heap.size w'.heap.size w'.heap v0 (BT a b)):=by
 refine Aq [va,vb] 50 Tryz.func210 Z Z sM ?_
 have ag:AH w w:=AH.refl w
 have au:=ha.lenle
 have av:=hb.lenle
 refine gL Z<|gK [3,0] Z (Cn (rI) AJ Bt BG Aa fun v1 w1 aa ao ah=>?_)
 have ab:=aa.size
 have ac:=ag.trans aa
 refine Ac 1 Z<|gK [0,0,2,0,0] Z<|Ad 1 Z<|Aw (v:=vb) 0 Bt BG Z Z hb.isSl Z Dw Aa ?_
 refine Af (p:=Ay vb 0 1) (.inr Z) (zI<|b.getD 0 0) AC Z (Bd ac (hb.getI Dw).1) Aa ?_
 refine AB 235 [] [] [zI<|b.getD 0 0] Z Z Yu Aa (zI<|inv<|b.getD 0 0) (fun wq=>Ja wq _ (hb.getI Dw).2)<|Ac 1 Z<|A0<|gL Z<|A3 ?_
 refine AU (S:=Nat×Value) (fun⟨k,vo⟩=>([(5,vo),(7,zI (k:Int)),(0,va),(1,vb),(6,zI<|inv<|b.getD 0 0)])) (fun⟨k,vo⟩ W=>AH w W∧Fr (Bp rI 2) w.heap.size W.heap.size W.heap vo (Jl a b k)∧k≤a.length) (fun⟨k,vo⟩=>a.length-k) (0,v1) ⟨rfl,rfl,rfl,rfl,rfl,trivial⟩ ⟨ac,(by exact ah.up o1),Dw⟩ ?_
 clear ag ah ao aa ab ac
 rintro⟨k,vo⟩ ρ3 w3 ⟨a6,a1,ai⟩
 have ad:w.heap.size≤w3.heap.size:=a6.size
 refine A0<|gK [0,0,0,0] Z<|Ad 2 Z<|AR (v:=va) Bt Z ha.isSl Aa ?_
 by_cases aj:(k:Int)<(a.length:Int)
 ·refine AI true Z Z (A5 aj) Aa<|Aj<|Ag Z<|A2<|A0<|A3<|gK [0,0,0,2,0] Z<|Ad 2 Z<|Aw (v:=va) k Bt BG Z Z ha.isSl Z Dw Aa ?_
  refine Af (p:=Ay va k 1) (.inr Z) (zI<|a.getD k 0) AC Z (Bd a6 (ha.getI Dw).1) Aa<|Ac 1 Z<|A0<|gL Z<|A3 ?_
  refine AU (S:=Nat×Int) (fun⟨i,t⟩=>([(8,zI t),(9,zI (i:Int)),(0,va),(1,vb),(5,vo),(6,zI<|inv<|b.getD 0 0),(7,zI (k:Int))])) (fun⟨i,t⟩ W=>AH w W∧Fr (Bp rI 2) w.heap.size W.heap.size W.heap vo (Jl a b k)∧i≤k∧t=OT a b (Jl a b k) k i∧(0≤t∧t<1000003)) (fun⟨i,t⟩=>k-i) (0,a.getD k 0) ⟨rfl,rfl,rfl,rfl,rfl,rfl,rfl,trivial⟩ ⟨a6,a1.up o1,Dw,(by rfl),(by exact BW hqa k)⟩ ?_
  clear a1 a6 ad
  rintro⟨i,t⟩ ρ5 w5 ⟨a9,a0,ak,ht,htr⟩
  have ap:w.heap.size≤w5.heap.size:=a9.size
  refine A0<|gK [0,0,0] Z<|Ad 2 Z ?_
  by_cases al:(i:Int)<(k:Int)
  ·refine AI true Z Z (A5 al) Aa<|Aj<|Ag Z<|A2<|A0<|A3<|AM _ [0,0,0,0,1,0,0,0,0,0,1,0,0,0] mixed (by kernel_rfl) ?_
   have hmn:=Ck ((Jl a b k).getD i 0*b.getD (k-i) 0)
   refine Ad 3 Z<|Aw (v:=vo) i Bt BG Z Z a0.isSl Z Dw Aa ?_
   refine Af (p:=Ay vo i 1) (.inl Z) (zI<|(Jl a b k).getD i 0) AC Z (a0.rd1.getI Dw).1 Aa (Ad 3 Z<|Bk ((k-i:Nat):Int) Z Z (by rw[CM oM oM];omega) Aa ?_)
   refine Aw (v:=vb) (k-i) Bt BG Z Z hb.isSl Z Dw Aa ?_
   refine Af (p:=Ay vb (k-i) 1) (.inl Z) (zI<|b.getD (k-i) 0) AC Z (Bd a9.drew (hb.getI Dw).1) Aa ?_
   refine AB 63 [] [] [zI<|(Jl a b k).getD i 0,zI<|b.getD (k-i) 0] Z Z Nj Aa (zI<|md (((Jl a b k).getD i 0)*(b.getD (k-i) 0))) (fun wq=>Cm wq _ _ (a0.rd1.getI Dw).2 (hb.getI Dw).2) ?_
   refine AB 236 [] [] [zI t,zI<|md (((Jl a b k).getD i 0)*(b.getD (k-i) 0))] Z Z Yw Aa (zI<|md (t-(md (((Jl a b k).getD i 0)*(b.getD (k-i) 0))))) (fun wq=>HY wq _ _ oM (Eo _) oM)<|Ac 1 Z<|Ab _ [0,0,0] Z<|Ad 1 Z<|AQ ((i+1:Nat):Int) Z Z (Bi oM Dw) Aa<|Ac 1 Z ?_
   exact⟨(i+1,md (t-(md (((Jl a b k).getD i 0)*(b.getD (k-i) 0))))),_,rfl,zR,⟨a9.drew,a0.up o1,Dw,(by rw[O8,ht];rfl),(by exact Ck _)⟩,zD⟩
  refine AI false Z Z (A6 al) Aa<|Aj<|Ai Z<|A4<|AA<|AA<|Av<|Ab _ [0,0,0,0,3,4,0] Z<|Ad 3 Z<|AB 63 [] [] [zI t,zI<|inv<|b.getD 0 0] Z Z Nj Aa (zI<|md (t*(inv<|b.getD 0 0))) (fun wq=>Cm wq _ _ oM<|O9 _) (BA (u:=zI<|md (t*(inv<|b.getD 0 0))) (B:=w5.heap.size) AJ Bt BG Z Z (Nb w5.heap.size w5.heap.size _ _<|Eo _) (A7 _) Aa fun aw az a3 aq a7=>?_)
  have am:=a3.size
  have a4:=a9.trans a3
  have a2:=a0.ext (o1) a3
  refine GP (v:=vo) (a:=aw) Bt BG Z Z Z a2 a4.size a7.rd1 Dw (by unfold maxLen;first|omega|assumption|(simp[E3];done)|(simp[E3];omega)) Aa fun ax ay b0 a5 a8 ae=>?_
  have af:AH w ay:=a5.below a4 (fun c hc=>A8 (A7 _) (a8 c hc).1) a4.size
  have an:=a5.size
  have ar:=a7.chg (o1) a5 fun c hc=>zH<|a8 c hc
  refine Ac 1 Z<|Ab _ [0,0,0] Z<|Ad 1 Z<|AQ ((k+1:Nat):Int) Z Z (Bi oM Dw) Aa<|Ac 1 Z ?_
  exact⟨(k+1,ax),_,rfl,zR,⟨af,(by have h:=ae.up o1;rw[ht,show i=k from by omega]at h;exact h),Dw⟩,zD⟩
 exact AI false Z Z (A6 aj) Aa<|Aj<|Ai Z<|A4<|AA<|AA<|Av<|gK [0,0] Z<|Ac 2 Z<|A1<|Ah [4] Z vo Z ⟨vo,rfl,a6,(by have h:=a1.up o1;rw[show k=a.length from by omega]at h;exact h)⟩
end
end Go.Proofs.YtjnbnlniafmblaaGreat
