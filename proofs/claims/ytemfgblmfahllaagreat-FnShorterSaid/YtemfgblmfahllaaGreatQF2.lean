/- Nc, Nd, Ne, Gd, Ge, Gu, Gv, Gw, Gx, Nf, Ng, Nh, Ni, Nl, Gf, Gg, Gk, Gh, Gl, Gm, Gr, Gq, Gp, Gs, Gy, Gz, Ha, Hb, Hd, Hf, Hg, Hh, Hi, Hj, Hn, Hv, Je, Jk, Jf, Jg, Jl, Jm, Jh, Ji, Jn, Jo, Ig, Jt, Jp, Jy: texts of this claim, joined; what the claim does not come to is left out. -/
import Derived.Test.YtemfgblmfahllaaGreatQF1
import Derived.Test.YtemfgblmfahllaaGreatProg
import Derived.WideKeyEntry
import Derived.Maps.OwnSet
set_option linter.unusedVariables false
set_option linter.unusedSimpArgs false
namespace Go.Proofs.YtemfgblmfahllaaGreat
open Go Go.RowKit
section
structure Od (p:List Fn):Prop where
 par:∀k,k<p.length→0≤(p.getD k Fn.zero).params∧(p.getD k Fn.zero).params≤12
 outs:∀k,k<p.length→1≤(p.getD k Fn.zero).outs.length∧(p.getD k Fn.zero).outs.length≤12
 deep:∀k,k<p.length→∀j,j<(p.getD k Fn.zero).outs.length→((p.getD k Fn.zero).outs.getD j Ex.zero).deep≤60
 wf:∀k,k<p.length→∀j,j<(p.getD k Fn.zero).outs.length→wf p ((k:Nat):Int) ((p.getD k Fn.zero).outs.getD j Ex.zero) (p.getD k Fn.zero).params=true
theorem C6 {x a b:Int}:HB x a b=true↔a≤x∧x≤b:=by unfold HB;simp
theorem E2 {p:List Fn}{F vars:Int}{e:Ex}(h:H5 p F vars e=true) :
  (e.kind=1∨e.kind=2∨e.kind=3∨e.kind=4∨e.kind=5∨e.kind=6∨e.kind=7∨e.kind=8∨e.kind=9∨e.kind=10∨e.kind=11) ∧
  (e.kind=2→0≤e.num∧e.num≤vars-1)∧(e.kind=3∨e.kind=4∨e.kind=5∨e.kind=6∨e.kind=9→e.kids.length=2)∧(e.kind=7→e.kids.length=1)∧(e.kind=8→e.kids.length=3) ∧
  (e.kind=10∨e.kind=11→0≤e.num∧e.num≤F-1∧(e.kids.length:Int)=(p.getD e.num.toNat Fn.zero).params∧0≤e.pick∧e.pick≤((p.getD e.num.toNat Fn.zero).outs.length:Int)-1) ∧
  (e.kind=11→((p.getD e.num.toNat Fn.zero).outs.length:Int)=(p.getD e.num.toNat Fn.zero).params∧0≤e.count∧e.count≤8)∧(e.kind=1→0≤e.num∧e.num<1000003):=by
 unfold H5 at h
 split at h
 ·simp only[z7,decide_eq_true_eq,Cz]at h;omega
 ·split at h
  ·simp only[z7,decide_eq_true_eq,C6]at h;omega
  ·split at h
   ·simp only[z7,decide_eq_true_eq]at h;omega
   ·split at h
    ·simp only[z7,decide_eq_true_eq]at h;omega
    ·split at h
     ·simp only[z7,decide_eq_true_eq]at h;omega
     ·split at h
      ·simp only[z7,decide_eq_true_eq,C6]at h
       obtain⟨h1,h2,h3,h4⟩:=h
       split at h4
       ·simp only[decide_eq_true_eq]at h4;omega
       ·simp only[z7,decide_eq_true_eq,C6]at h4;omega
      ·cases h
theorem DM {p:List Fn}{F vars:Int}{e:Ex}(h:wf p F e vars=true):H5 p F vars e=true:=by
 rw[MN,z7]at h;exact h.1
theorem X7 {p:List Fn}{F vars:Int}{e:Ex}(h:wf p F e vars=true){j:Nat}(hj:j<e.kids.length):wf p F (e.kids.getD j Ex.zero) (if e.kind=9∧j=1 then vars+1 else vars)=true:=by
 rw[MN,z7]at h
 have:=(KM p F _ vars e.kids 0).1 h.2 j hj
 rw[Nat.zero_add]at this
 simpa only[decide_eq_true_eq]using this
theorem HL {p:List Fn}{F vars:Int}{e:Ex}(h:wf p F e vars=true){j:Nat}(hj:j<e.kids.length)(hn:¬(e.kind=9∧j=1)):wf p F (e.kids.getD j Ex.zero) vars=true:=by
 have:=X7 h hj
 rwa [if_neg hn]at this
theorem Py {p:List Fn}{F vars:Int}{e:Ex}(h:wf p F e vars=true)(hj:1<e.kids.length)(hk:e.kind=9):wf p F (e.kids.getD 1 Ex.zero) (vars+1)=true:=by
 have:=X7 h hj
 rwa [if_pos ⟨hk,rfl⟩]at this
section
variable {p:List Fn} {F:Nat} {vars:Int} {e:Ex}
theorem SU (h:wf p ((F:Nat):Int) e vars=true)(hk:e.kind=1):0≤e.num∧e.num<1000003:=(E2 (DM h)).2.2.2.2.2.2.2 hk
theorem SW (h:wf p ((F:Nat):Int) e vars=true)(hk:e.kind=2):0≤e.num∧e.num≤vars-1:=(E2 (DM h)).2.1 hk
theorem X8 (h:wf p ((F:Nat):Int) e vars=true)(hk:e.kind=8):e.kids.length=3:=(E2 (DM h)).2.2.2.2.1 hk
theorem SX (h:wf p ((F:Nat):Int) e vars=true)(hk:e.kind=9):e.kids.length=2:=(E2 (DM h)).2.2.1 zO
theorem SY (h:wf p ((F:Nat):Int) e vars=true)(hk:e.kind=7):e.kids.length=1:=(E2 (DM h)).2.2.2.1 hk
theorem SZ (h:wf p ((F:Nat):Int) e vars=true)(hk:e.kind=3∨e.kind=4∨e.kind=5∨e.kind=6):e.kids.length=2:=(E2 (DM h)).2.2.1 zO
theorem KQ (h:wf p ((F:Nat):Int) e vars=true)(hk:e.kind=10∨e.kind=11):(0≤e.num∧e.num≤((F:Nat):Int)-1)∧(e.kids.length:Int)=(p.getD e.num.toNat Fn.zero).params∧(0≤e.pick∧e.pick≤((p.getD e.num.toNat Fn.zero).outs.length:Int)-1):=by
 have:=(E2 (DM h)).2.2.2.2.2.1 hk
 exact⟨⟨this.1,this.2.1⟩,this.2.2.1,this.2.2.2⟩
theorem QN (h:wf p ((F:Nat):Int) e vars=true)(hk:e.kind=11):((p.getD e.num.toNat Fn.zero).outs.length:Int)=(p.getD e.num.toNat Fn.zero).params∧(0≤e.count∧e.count≤8):=(E2 (DM h)).2.2.2.2.2.2.1 hk
theorem Yu (h:wf p ((F:Nat):Int) e vars=true)(hk:(e.kind≠1∧e.kind≠2∧e.kind≠7∧e.kind≠8)∧(e.kind≠9∧e.kind≠10∧e.kind≠11)):e.kind=3∨e.kind=4∨e.kind=5∨e.kind=6:=by
 have:=(E2 (DM h)).1
 omega
theorem Yw (h:wf p ((F:Nat):Int) e vars=true)(hv:Od p)(hF:F≤p.length):e.kids.length≤12:=by
 have hq:=E2<|DM h
 by_cases h10:e.kind=10∨e.kind=11
 ·have h1:=KQ h h10
  have:=hv.par e.num.toNat zO
  omega
 ·have h1:=hq.1;have h2:=hq.2.2.1;have h3:=hq.2.2.2.1;have h4:=hq.2.2.2.2.1
  by_cases hl:e.kind=1∨e.kind=2
  ·have h5:=DM h
   unfold H5 at h5
   rcases hl with hl|hl
   ·rw[if_pos hl]at h5;simp only[z7,decide_eq_true_eq]at h5;omega
   ·rw[if_neg zO,if_pos hl]at h5;simp only[z7,decide_eq_true_eq]at h5;omega
  ·omega
end
section
variable {n:Nat} {C:Ca} {e:Ex} {env:List Sr} {s s1 s2:Nat} {c c1 c2:Int} {x y:Sr} {xs ys:List Sr}
theorem T0 (hc:c≠0){r:Rs Sr}:AY (go c r) x s c:=AY.mk_err (DF hc r) hc
theorem Pz (hc:c=0)(hs:s=3000):AY (go c (Gh n C e env s)) x s1 7:=by
 subst hc;rw[CW,HK,if_pos (by omega)];exact AY.mk_err rfl (by decide)
theorem UV (hc:c=0)(hs:s+1≤3000)(hk:e.kind=1):AY (go c (Gh n C e env s)) (Fj n e.num) (s+1) c:=by
 subst hc;rw[CW,HK,if_neg zO,if_pos hk];exact AY.mk_ok rfl
theorem UW (hc:c=0)(hs:s+1≤3000)(hk:e.kind=2):AY (go c (Gh n C e env s)) (env.getD e.num.toNat []) (s+1) c:=by
 subst hc;rw[CW,HK,if_neg zO,if_neg zO,if_pos hk];exact AY.mk_ok rfl
theorem UX (hc:c=0)(hs:s+1≤3000)(hk:e.kind=8)(hl:e.kids.length=3)(h1:AY (go c (Gh n C (e.kids.getD 0 Ex.zero) env (s+1))) x s1 c1)(hx:x.getD 0 0=0)
  (h2:AY (go c1 (Gh n C (e.kids.getD 1 Ex.zero) env s1)) y s2 c2):AY (go c (Gh n C e env s)) y s2 c2:=by
 subst hc
 rw[CW,HK,if_neg zO,if_neg zO,if_neg zO,if_pos hk,Gi _ _ _ _ _ _ (by omega)]
 rw[CW]at h1
 by_cases h0:c1=0
 ·subst h0;rw[h1.bindO,if_pos hx,Gi _ _ _ _ _ _ (by omega)];exact h2
 ·rw[h1.bindE h0];rw[DF h0]at h2;exact h2
theorem UY (hc:c=0)(hs:s+1≤3000)(hk:e.kind=8)(hl:e.kids.length=3)(h1:AY (go c (Gh n C (e.kids.getD 0 Ex.zero) env (s+1))) x s1 c1)(hx:¬x.getD 0 0=0)
  (h2:AY (go c1 (Gh n C (e.kids.getD 2 Ex.zero) env s1)) y s2 c2):AY (go c (Gh n C e env s)) y s2 c2:=by
 subst hc
 rw[CW,HK,if_neg zO,if_neg zO,if_neg zO,if_pos hk,Gi _ _ _ _ _ _ (by omega)]
 rw[CW]at h1
 by_cases h0:c1=0
 ·subst h0;rw[h1.bindO,if_neg hx,Gi _ _ _ _ _ _ (by omega)];exact h2
 ·rw[h1.bindE h0];rw[DF h0]at h2;exact h2
theorem UZ (hc:c=0)(hs:s+1≤3000)(hk:e.kind=9)(hl:e.kids.length=2)(h1:AY (go c (Gh n C (e.kids.getD 0 Ex.zero) env (s+1))) x s1 c1)
  (h2:AY (go c1 (Gh n C (e.kids.getD 1 Ex.zero) (env++[x]) s1)) y s2 c2):AY (go c (Gh n C e env s)) y s2 c2:=by
 subst hc
 rw[CW,HK,if_neg zO,if_neg zO,if_neg zO,if_neg zO,if_pos hk,Gi _ _ _ _ _ _ (by omega)]
 rw[CW]at h1
 by_cases h0:c1=0
 ·subst h0;rw[h1.bindO,Gi _ _ _ _ _ _ (by omega)];exact h2
 ·rw[h1.bindE h0];rw[DF h0]at h2;exact h2
theorem Lg (hs : s + 1 ≤ 3000) (h1 : e.kind ≠ 1) (h2 : e.kind ≠ 2) (h8 : e.kind ≠ 8) (h9 : e.kind ≠ 9) : Gh n C e env s = (G5 n C e.kids env (s + 1)).bind fun xs t =>
      if e.kind = 10 then C.one e.num.toNat e.pick.toNat xs t
      else if e.kind = 11 then (Sb (C.all e.num.toNat) e.count.toNat xs t).bind fun ys u=>.ok (ys.getD e.pick.toNat []) u
      else Pm e.kind xs t:=by
  rw [HK,if_neg zO,if_neg h1,if_neg h2,if_neg h8,if_neg h9]
theorem RS (hc:c=0)(hs:s+1≤3000)(h1:e.kind≠1)(h2:e.kind≠2)(h8:e.kind≠8)(h9:e.kind≠9)(hr:AY (go c (G5 n C e.kids env (s+1))) xs s1 c1)(hc1:c1≠0):AY (go c (Gh n C e env s)) x s2 c1:=by
 subst hc
 rw[CW]at hr ⊢
 rw[Lg hs h1 h2 h8 h9,hr.bindE hc1];exact AY.mk_err rfl hc1
theorem Yx (hc:c=0)(hs:s+1≤3000)(h1:e.kind≠1)(h2:e.kind≠2)(h8:e.kind≠8)(h9:e.kind≠9)(h10:e.kind≠10)(h11:e.kind≠11)(hr:AY (go c (G5 n C e.kids env (s+1))) xs s1 c1)(hc1:c1=0)
  (h:AY (Pm e.kind xs s1) y s2 c2):AY (go c (Gh n C e env s)) y s2 c2:=by
 subst hc;subst hc1
 rw[CW]at hr ⊢
 rw[Lg hs h1 h2 h8 h9,hr.bindO,if_neg h10,if_neg h11];exact h
theorem Yy {k:Int}(hk:k=3):AY (Pm k xs s) (EU (xs.getD 0 []) (xs.getD 1 [])) s 0:=by subst hk;exact AY.mk_ok rfl
theorem Yz {k:Int}(hk:k=4):AY (Pm k xs s) (GA (xs.getD 0 []) (xs.getD 1 [])) s 0:=by subst hk;exact AY.mk_ok rfl
theorem YB {k:Int}(hk:k=5):AY (Pm k xs s) (CF (xs.getD 0 []) (xs.getD 1 [])) s 0:=by subst hk;exact AY.mk_ok rfl
theorem YC {k:Int}(hk:k=7):AY (Pm k xs s) (D8 (xs.getD 0 []) 1000002) s 0:=by subst hk;exact AY.mk_ok rfl
theorem V0 {k:Int}(hk:k=6)(hz:(xs.getD 1 []).getD 0 0=0):AY (Pm k xs s) x s1 6:=by
 subst hk
 have:Pm 6 xs s=.err 6:=by
  show(if (xs.getD 1 []).getD 0 0=0 then _ else _)=_
  rw[if_pos hz]
 exact AY.mk_err this (by decide)
theorem YD {k:Int}(hk:k=6)(hz:¬(xs.getD 1 []).getD 0 0=0):AY (Pm k xs s) (Cq (xs.getD 0 []) (xs.getD 1 [])) s 0:=by
 subst hk
 have:Pm 6 xs s=.ok (Cq (xs.getD 0 []) (xs.getD 1 [])) s:=by
  show(if (xs.getD 1 []).getD 0 0=0 then _ else _)=_
  rw[if_neg hz]
 exact AY.mk_ok this
theorem HM {l:List Ex}{k:Nat}(hk:k<l.length)(h:AY (go c (G5 n C (l.take k) env s)) xs s1 c1)(h2:AY (go c1 (Gh n C (l.getD k Ex.zero) env s1)) x s2 c2) :
  AY (go c (G5 n C (l.take (k+1)) env s)) (xs++[x]) s2 c2:=by
 by_cases hc:c=0
 ·subst hc
  rw[CW]at h ⊢
  rw[ST hk]
  by_cases h0:c1=0
  ·subst h0
   rw[CW]at h2
   rw[h.bindO]
   by_cases h3:c2=0
   ·subst h3;rw[h2.bindO];exact AY.mk_ok rfl
   ·rw[h2.bindE h3];exact AY.mk_err rfl h3
  ·rw[h.bindE h0];rw[DF h0]at h2;exact AY.mk_err (by rw[h2.1]) (by rw[h2.1];exact h2.2)
 ·rw[DF hc]at h ⊢
  have hc1:c1≠0:=by rw[h.1];exact hc
  rw[DF hc1]at h2
  exact AY.mk_err (by rw[h2.1,h.1]) (by rw[h2.1];exact hc1)
end
theorem Ia (n:Nat)(C:Ca)(l:List Ex)(env:List Sr)(s:Nat)(c:Int):AY (go c (G5 n C (l.take 0) env s)) [] s c:=by
 rw[List.take_zero,G5]
 by_cases h:c=0
 ·subst h;exact AY.mk_ok rfl
 ·exact AY.mk_err (DF h _) h
theorem EW {n:Nat}{a b:Sr}(ha:C9 n a):C9 n (EU a b):=⟨by unfold EU;rw[EM];exact ha.1,Oy _ _⟩
theorem Lh {n:Nat}{a b:Sr}(ha:C9 n a):C9 n (GA a b):=⟨by rw[Ox];exact ha.1,Oz _ _⟩
theorem EX {n:Nat}{a b:Sr}(ha:C9 n a):C9 n (CF a b):=⟨by unfold CF;rw[EM];exact ha.1,Jq _ _⟩
theorem FL {n:Nat}{a b:Sr}(ha:C9 n a):C9 n (Cq a b):=⟨by rw[Gz];exact ha.1,HF _ _⟩
theorem Li {n:Nat}{a:Sr}{y:Int}(ha:C9 n a):C9 n (D8 a y):=⟨by unfold D8;rw[EM];exact ha.1,HG _ _⟩
end
section
def UD (p:List Fn)(n f:Nat)(a:List Sr):List Sr:=match ev p n f a with
 |.ok xs _=>xs
 |.err _=>[]
def QO (p:List Fn)(n f:Nat)(a:List Sr):Nat:=match ev p n f a with
 |.ok _ s=>s
 |.err _=>0
def T3 (p:List Fn)(n f:Nat)(a:List Sr):Int:=match ev p n f a with
 |.ok _ _=>0
 |.err c=>c
section
variable {p:List Fn} {n f s:Nat} {a x:List Sr} {c:Int}
theorem QP (h:AY (go 0 (G5 n (Iy p n f) (p.getD f Fn.zero).outs a 0)) x s c)(hc:c=0):ev p n f a=.ok x s:=by subst hc;exact h.ok
theorem Np (h:AY (go 0 (G5 n (Iy p n f) (p.getD f Fn.zero).outs a 0)) x s c)(hc:c≠0):ev p n f a=.err c:=h.err hc
theorem QQ (h:ev p n f a=.ok x s):UD p n f a=x:=by unfold UD;rw[h]
theorem X9 (h:ev p n f a=.ok x s):QO p n f a=s:=by unfold QO;rw[h]
theorem QR (h:ev p n f a=.ok x s):T3 p n f a=0:=by unfold T3;rw[h]
theorem Xa (h:ev p n f a=.err c):UD p n f a=[]:=by unfold UD;rw[h]
theorem Xb (h:ev p n f a=.err c):QO p n f a=0:=by unfold QO;rw[h]
theorem OF (h:ev p n f a=.err c):T3 p n f a=c:=by unfold T3;rw[h]
end
structure eE (p:List Fn)(n f:Nat)(a:List Sr):Prop where
 code:0≤T3 p n f a∧T3 p n f a≤9
 steps:QO p n f a≤3000
 len:T3 p n f a=0→(UD p n f a).length=(p.getD f Fn.zero).outs.length
 ser:CG n (UD p n f a)
 non:T3 p n f a≠0→UD p n f a=[]
theorem eE.mk' {p:List Fn}{n f s:Nat}{a x:List Sr}{c:Int}(h:AY (go 0 (G5 n (Iy p n f) (p.getD f Fn.zero).outs a 0)) x s c)(hc:0≤c∧c≤9)(hs:s≤3000)(hl:x.length=(p.getD f Fn.zero).outs.length)(hx:CG n x):eE p n f a:=by
 by_cases h0:c=0
 ·have e:=QP h h0
  exact⟨by rw[QR e];omega,by rw[X9 e];exact hs,fun _=>by rw[QQ e];exact hl,by rw[QQ e];exact hx,fun hh=>absurd (QR e) hh⟩
 ·have e:=Np h h0
  exact⟨by rw[OF e];exact hc,by rw[Xb e];omega,fun hh=>absurd (by rw[← hh,OF e]) h0,by rw[Xa e];intro k hk;simp at hk,fun _=>Xa e⟩
end
def Xc (s:ByteArray)(i:Nat):Bool:=(decide (97≤JO s i) && decide (JO s i≤122)) || (decide (i≠0) && (decide (48≤JO s i) && decide (JO s i≤57)))
def Lj (s:ByteArray):Bool:=(decide (1≤s.size) && decide (s.size≤12)) && (List.range s.size).all (Xc s)
def Mk (p:List Fn)(e:Ex)(vars funcs:Int):Bool :=
 HB vars 0 412 && (HB funcs 0 ((p.length:Nat):Int) && (decide (e.size≤400) && (decide (e.deep≤60) && wf p funcs e vars)))
def RU (p:List Fn)(k:Nat):Bool:=!((p.take k).any fun g=>IQ g.name (p.getD k Fn.zero).name)
def Kn (p:List Fn)(k:Nat):Bool :=
 (Lj (p.getD k Fn.zero).name && RU p k) && ((HB (p.getD k Fn.zero).params 0 12 && HB (((p.getD k Fn.zero).outs.length:Nat):Int) 1 12) &&
  ((List.range (p.getD k Fn.zero).outs.length).all (fun j=>Mk p ((p.getD k Fn.zero).outs.getD j Ex.zero) (p.getD k Fn.zero).params ((k:Nat):Int)) && decide (Ex.sizes (p.getD k Fn.zero).outs≤400)))
def Kw (p:List Fn):Bool:=decide (p.length≤16) && (List.range p.length).all (Kn p)
def V1 (p:List Fn):Prop:=∀k,k<p.length→Ex.sizes (p.getD k Fn.zero).outs≤2000000∧(p.getD k Fn.zero).outs.length≤2000000∧(p.getD k Fn.zero).name.size≤2000000
theorem Eg {f:Nat→Bool}{k:Nat}(h:(List.range k).all f=true)(hk:f k=true):(List.range (k+1)).all f=true:=by
 rw[List.range_succ,List.all_append,h];simp[hk]
theorem JX {f:Nat→Bool}{k n:Nat}(hk:k<n)(h:f k=false):(List.range n).all f=false:=by
 rw[List.all_eq_false]
 exact⟨k,List.mem_range.2 hk,by simp[h]⟩
theorem QS {f:Nat→Bool}{k n:Nat}(h:(List.range n).all f=true)(hk:k<n):f k=true:=zm.1 h k (List.mem_range.2 hk)
theorem YE {p:List Fn}(h:Kw p=true){k:Nat}(hk:k<p.length):Kn p k=true:=by
 unfold Kw at h
 rw[z7]at h
 exact QS h.2 hk
theorem Nq {p:List Fn}(h:Kw p=true):Od p:=by
 have h1:∀k,k<p.length→(0≤(p.getD k Fn.zero).params∧(p.getD k Fn.zero).params≤12)∧(1≤(p.getD k Fn.zero).outs.length∧(p.getD k Fn.zero).outs.length≤12) ∧
   ∀j,j<(p.getD k Fn.zero).outs.length→Mk p ((p.getD k Fn.zero).outs.getD j Ex.zero) (p.getD k Fn.zero).params ((k:Nat):Int)=true:=by
  intro k hk
  have:=YE h hk
  unfold Kn at this
  simp only[z7,C6]at this
  exact⟨this.2.1.1,zO,fun j hj=>QS this.2.2.1 hj⟩
 have h2:∀k,k<p.length→∀j,j<(p.getD k Fn.zero).outs.length→((p.getD k Fn.zero).outs.getD j Ex.zero).deep≤60∧wf p ((k:Nat):Int) ((p.getD k Fn.zero).outs.getD j Ex.zero) (p.getD k Fn.zero).params=true:=by
  intro k hk j hj
  have:=(h1 k hk).2.2 j hj
  unfold Mk at this
  simp only[z7,decide_eq_true_eq]at this
  exact⟨this.2.2.2.1,this.2.2.2.2⟩
 exact⟨fun k hk=>(h1 k hk).1,fun k hk=>(h1 k hk).2.1,fun k hk j hj=>(h2 k hk j hj).1,fun k hk j hj=>(h2 k hk j hj).2⟩
section
mutual
def ZM:Ex→Bool
 |.mk k _ _ _ l=>(decide (k≠6) && decide (k≠8)) && Pn l
def Pn:List Ex→Bool
 |[]=>true
 |e::l=>ZM e && Pn l
end
theorem PA (k n q c:Int)(l:List Ex):ZM (.mk k n q c l)=((decide (k≠6) && decide (k≠8)) && Pn l):=by rw[ZM]
theorem OG (l:List Ex)(e:Ex):Pn (l++[e])=(Pn l && ZM e):=by
 induction l with
 |nil=>rw[zl,Pn,Pn];simp[Pn]
 |cons a l ih=>rw[List.cons_append,Pn,Pn,ih,Bool.and_assoc]
def MQ:Nat→Int
 |0=>1
 |d+1=>1+4*MQ d
def Ib:Nat→Nat
 |0=>30
 |d+1=>50+4*Ib d
def YF:Nat→Int→Int
 |0,_=>0
 |n+1,k=>YF n k+k
def RV:Nat→Nat→Nat
 |0,_=>0
 |n+1,k=>RV n k+k
theorem Ic:∀d,1≤MQ d
 |0=>by decide
 |d+1=>by have:=Ic d;show 1≤1+4*MQ d;omega
theorem Xd {d:Nat}(h:1≤d):MQ d=1+4*MQ (d-1):=by
 obtain⟨d,rfl⟩:∃k,d=k+1:=⟨d-1,zO⟩
 rfl
theorem ZY {d:Nat}(h:1≤d):Ib d=50+4*Ib (d-1):=by
 obtain⟨d,rfl⟩:∃k,d=k+1:=⟨d-1,zO⟩
 rfl
theorem PB:∀d,30≤Ib d
 |0=>by decide
 |d+1=>by show 30≤50+4*Ib d;omega
theorem OH {i:Nat}{k:Int}(hk:0≤k)(hi:i≤4):0≤YF i k∧YF i k≤4*k:=by
 rcases i with _|_|_|_|_|i
 all_goals first|(exfalso;omega)|(simp only[YF];omega)
theorem MR {i k:Nat}(hi:i≤4):RV i k≤4*k:=by
 rcases i with _|_|_|_|_|i
 all_goals first|(exfalso;omega)|(simp only[RV];omega)
structure QT (p:List Fn)(funcs vars:Int)(pl:Bool)(d:Nat)(l0 l1:Int)(ex:Ex):Prop where
 wf:wf p funcs ex vars=true
 sz:(ex.size:Int)+4*max l1 1≤1+4*max l0 1
 dp:ex.deep≤d+1
 pl:pl=true→ZM ex=true
 lo:l0-MQ d≤l1∧l1≤l0-1
structure PC (p:List Fn)(vars:Int)(ex:Ex):Prop where
 wf:∀funcs,wf p funcs ex vars=true
 sz:ex.size=1
 dp:ex.deep=1
 pl:ZM ex=true
structure ZZ (p:List Fn):Prop where
 len:p.length≤1000
 par:∀k,k<p.length→0≤(p.getD k Fn.zero).params∧(p.getD k Fn.zero).params≤4
 outs:∀k,k<p.length→1≤(p.getD k Fn.zero).outs.length∧(p.getD k Fn.zero).outs.length≤12
theorem PC.num {p:List Fn}{vars n:Int}(h:0≤n∧n<1000003):PC p vars (.mk 1 n 0 0 []) :=
 ⟨fun funcs=>by
  rw[Nj rfl];unfold H5 Eb
  simp[Ex.kind,Ex.pick,Ex.count,Ex.kids,Ex.num,Cz];omega,by rw[Ex.size,Ex.sizes],by rw[Ex.deep,Ex.deeps],by rw[PA];rfl⟩
theorem PC.var {p:List Fn}{vars n:Int}(h:0≤n∧n<vars):PC p vars (.mk 2 n 0 0 []) :=
 ⟨fun funcs=>by
  rw[Nj rfl];unfold H5 Eb
  simp[Ex.kind,Ex.pick,Ex.count,Ex.kids,Ex.num,C6];omega,by rw[Ex.size,Ex.sizes],by rw[Ex.deep,Ex.deeps],by rw[PA];rfl⟩
theorem PC.ok {p:List Fn}{vars funcs l0:Int}{ex:Ex}{pl:Bool}(h:PC p vars ex)(d:Nat):QT p funcs vars pl d l0 (l0-1) ex:=by
 have:=Ic d
 exact⟨h.wf funcs,by rw[h.sz];omega,by rw[h.dp];omega,fun _=>h.pl,zO⟩
def kn (k:Int):Int:=if k=1∨k=2 then 0 else if k=3∨k=4∨k=5∨k=6∨k=9 then 2 else if k=7 then 1 else if k=8 then 3 else -1
structure QU (p:List Fn)(funcs vars:Int)(pl:Bool)(k:Int)(d:Nat)(l0 l1:Int)(xs:List Ex)(i:Nat):Prop where
 len:xs.length=i
 wf:∀j,j<i→wf p funcs (xs.getD j Ex.zero) (if k=9∧j=1 then vars+1 else vars)=true
 sz:(Ex.sizes xs:Int)+4*max l1 1≤i+4*max l0 1
 dp:Ex.deeps xs≤d
 pl:pl=true→Pn xs=true
 lo:l0-YF i (MQ (d-1))≤l1∧l1≤l0
theorem QU.nil (p:List Fn)(funcs vars:Int)(pl:Bool)(k:Int)(d:Nat)(l0:Int):QU p funcs vars pl k d l0 l0 [] 0 :=
 ⟨rfl,fun j hj=>by omega,by rw[Ex.sizes];omega,by rw[Ex.deeps];omega,fun _=>by rw[Pn],by show l0-0≤l0∧l0≤l0;omega⟩
theorem QU.snoc {p:List Fn}{funcs vars own:Int}{pl:Bool}{k:Int}{d:Nat}{l0 l1 l2:Int}{xs:List Ex}{i:Nat}{x:Ex}(h:QU p funcs vars pl k d l0 l1 xs i)(hd:1≤d)
  (ho:own=if k=9∧i=1 then vars+1 else vars) (hx:QT p funcs own pl (d-1) l1 l2 x):QU p funcs vars pl k d l0 l2 (xs++[x]) (i+1):=by
 have hlen:=h.len
 refine⟨by simp[hlen],fun j hj=>?_,?_,?_,fun hp=>?_,?_⟩
 ·by_cases e:j=i
  ·subst e
   rw[← hlen,IP rfl,hlen,← ho];exact hx.wf
  ·rw[Ik (by omega)];exact h.wf j zO
 ·have h1:=h.sz;have h2:=hx.sz
  rw[IM];omega
 ·have h1:=h.dp;have h2:=hx.dp
  rw[IN];omega
 ·rw[OG,h.pl hp,hx.pl hp];rfl
 ·have h1:=h.lo;have h2:=hx.lo
  have h3:YF (i+1) (MQ (d-1))=YF i (MQ (d-1))+MQ (d-1):=rfl
  omega
theorem QU.node {p:List Fn}{funcs vars:Int}{pl:Bool}{k num pick cnt:Int}{d i:Nat}{l0 l1:Int}{xs:List Ex}(h:QU p funcs vars pl k d (l0-1) l1 xs i)(hd:1≤d)(hi:i≤4)(hl:2≤l0)
  (hp:pl=true→k≠6∧k≠8) (hw:H5 p funcs vars (.mk k num pick cnt xs)=true):QT p funcs vars pl d l0 l1 (.mk k num pick cnt xs):=by
 have hn:=Xd hd
 have ht:=OH (k:=MQ (d-1)) (by have:=Ic (d-1);omega) hi
 have h1:=h.lo;have h2:=h.sz
 refine⟨(Nk hw fun j hj=>?_).symm,?_,?_,fun hq=>?_,zO⟩
 ·exact h.wf j (by rw[← h.len];exact hj)
 ·rw[Ex.size];omega
 ·rw[Ex.deep];have:=h.dp;omega
 ·rw[PA,h.pl hq,A7 (hp hq).1,A7 (hp hq).2];rfl
theorem YG {p:List Fn}{funcs vars k:Int}{xs:List Ex}(hk:k=3∨k=4∨k=5∨k=6∨k=7∨k=8∨k=9)(hl:((xs.length:Nat):Int)=kn k):H5 p funcs vars (.mk k 0 0 0 xs)=true:=by
 have h2:k=3∨k=4∨k=5∨k=6∨k=9→xs.length=2:=fun h=>by
  have:kn k=2:=by unfold kn;rw[if_neg zO,if_pos (by omega)]
  omega
 have h1:k=7→xs.length=1:=fun h=>by
  have:kn k=1:=by unfold kn;rw[if_neg zO,if_neg zO,if_pos h]
  omega
 have h3:k=8→xs.length=3:=fun h=>by
  have:kn k=3:=by unfold kn;rw[if_neg zO,if_neg zO,if_neg zO,if_pos h]
  omega
 unfold H5 Eb
 rcases hk with rfl|rfl|rfl|rfl|rfl|rfl|rfl
 ·simp[Ex.kind,Ex.pick,Ex.count,Ex.kids,Ex.num,h2]
 ·simp[Ex.kind,Ex.pick,Ex.count,Ex.kids,Ex.num,h2]
 ·simp[Ex.kind,Ex.pick,Ex.count,Ex.kids,Ex.num,h2]
 ·simp[Ex.kind,Ex.pick,Ex.count,Ex.kids,Ex.num,h2]
 ·simp[Ex.kind,Ex.pick,Ex.count,Ex.kids,Ex.num,h1]
 ·simp[Ex.kind,Ex.pick,Ex.count,Ex.kids,Ex.num,h3]
 ·simp[Ex.kind,Ex.pick,Ex.count,Ex.kids,Ex.num,h2]
theorem YH {p:List Fn}{funcs vars k num pick cnt:Int}{xs:List Ex}(hk:(k=10∧cnt=0)∨(k=11∧((p.getD num.toNat Fn.zero).outs.length:Int)=(p.getD num.toNat Fn.zero).params∧0≤cnt∧cnt≤8))
  (hn:0≤num∧num<funcs) (hl:((xs.length:Nat):Int)=(p.getD num.toNat Fn.zero).params) (hq:0≤pick∧pick<((p.getD num.toNat Fn.zero).outs.length:Int)):H5 p funcs vars (.mk k num pick cnt xs)=true:=by
 have h1:HB num 0 (funcs-1)=true:=C6.2 zO
 have h2:HB pick 0 (((p.getD num.toNat Fn.zero).outs.length:Int)-1)=true:=C6.2 zO
 have h6:decide ((xs.length:Int)=(p.getD num.toNat Fn.zero).params)=true:=A7 hl
 unfold H5
 rcases hk with⟨rfl,rfl⟩|⟨rfl,h3,h4⟩
 ·show(HB num 0 (funcs-1) && (decide ((xs.length:Int)=(p.getD num.toNat Fn.zero).params) && (HB pick 0 (((p.getD num.toNat Fn.zero).outs.length:Int)-1) && decide ((0:Int)=0))))=true
  rw[h1,h2,h6];rfl
 ·have h5:HB cnt 0 8=true:=C6.2 h4
  show(HB num 0 (funcs-1) && (decide ((xs.length:Int)=(p.getD num.toNat Fn.zero).params) && (HB pick 0 (((p.getD num.toNat Fn.zero).outs.length:Int)-1) && (decide (((p.getD num.toNat Fn.zero).outs.length:Int)=(p.getD num.toNat Fn.zero).params) && HB cnt 0 8))))=true
  rw[h1,h2,h5,h6,A7 h3];rfl
theorem Lk {a b c k:Int}{l:List Ex}(h1:-9223372036854775808≤a∧a≤9223372036854775807)(h2:-9223372036854775808≤b∧b≤9223372036854775807)(h3:-9223372036854775808≤c∧c≤9223372036854775807)(h4:-9223372036854775808≤k∧k≤9223372036854775807):UC (.mk a b c k l):=⟨h1,h2,h3,h4⟩
theorem DY {a b c:Nat}(h:c∈[a,b]):c=a∨c=b:=by simpa using h
theorem Gj {a b:Nat}:∀x∈[a],x∈[a,b]:=fun x hx=>by rw[Ab hx];exact z0 ..
theorem YI {a b:Nat}:∀x∈[b],x∈[a,b]:=fun x hx=>by rw[Ab hx];exact z3 _ (z0 ..)
theorem AB.new2 {F:List Nat}{g g':Nat}{a b c:World}(h:AB F a b)(k:AB [g,g'] b c)(hg:g∈F)(hg':a.heap.size≤g'):AB F a c :=
 ⟨k.os.trans h.os,k.tape.trans h.tape,k.output.trans h.output,Aa h.size k.size,fun i hi hm=>(k.block i (Nat.lt_of_lt_of_le hi h.size) fun hq=>by
  rcases DY hq with rfl|rfl
  ·exact hm hg
  ·omega).trans (h.block i hi hm)⟩
theorem RN.of_frF2 {e e':TypeId}{d B U:Nat}{H:Array Obj}{v:Value}{S:List Nat}{xs:List Fn}(h:Fr (DB 3 (Sv e d) e') B U H v xs)(hS:∀b∈S,b<B∨U≤b):RP S d H v xs:=by
 obtain⟨F,h,_,hF⟩:=h
 exact⟨F,(h.rd (B4 e d)).imp fun h=>Sw e h,fun b hb hm=>by have:=hF b hb;have:=hS b hm;omega⟩
theorem RQ.mk1 {e:TypeId}{d B U:Nat}{H:Array Obj}{v:Value}{x:Ex}(hd:1≤d)(hr:UC x)(h:Fr (DB 5 (Qs e (d-1)) e) B U H v x.kids):RQ (Qs e d) B U H (Ge x v) x:=by
 obtain⟨d,rfl⟩:∃k,d=k+1:=⟨d-1,zO⟩
 obtain⟨G,h1,h2,h3⟩:=h
 exact⟨G,⟨v,rfl,hr,h1⟩,h2,h3⟩
theorem RQ.mkF {e:TypeId}{d B U:Nat}{H:Array Obj}{v:Value}{x:Fn}(hr:Bd x.params)(h:Fr (DB 5 (Qs e d) e) B U H v x.outs):RQ (Sv e d) B U H (Gf x v) x:=by
 obtain⟨G,h1,h2,h3⟩:=h
 exact⟨G,⟨v,rfl,hr,h1⟩,h2,h3⟩
theorem eP {k:Int}(h:k=1∨k=2):kn k=0:=by unfold kn;rw[if_pos h]
theorem eQ {k:Int}(h:k=3∨k=4∨k=5∨k=6∨k=9):kn k=2:=by unfold kn;rw[if_neg zO,if_pos h]
theorem eR {k:Int}(h:k=7):kn k=1:=by unfold kn;rw[if_neg zO,if_neg zO,if_pos h]
theorem eS {k:Int}(h:k=8):kn k=3:=by unfold kn;rw[if_neg zO,if_neg zO,if_neg zO,if_pos h]
theorem eT {k:Int}(h1:¬k=1)(h2:¬k=2)(h3:¬k=3)(h4:¬k=4)(h5:¬k=5)(h6:¬k=6)(h7:¬k=7)(h8:¬k=8)(h9:¬k=9):kn k = -1:=by unfold kn;rw[if_neg zO,if_neg zO,if_neg zO,if_neg (by omega)]
theorem eU {k:Int}(h:k=3∨k=4∨k=5∨k=6∨k=7∨k=8∨k=9):1≤kn k∧kn k≤3:=by
 rcases h with rfl|rfl|rfl|rfl|rfl|rfl|rfl <;> decide
theorem T4 {d:Nat}(h:d≤8):MQ d≤100000:=by
 have:∀k:Fin 9,MQ k.val≤100000:=by decide
 exact this ⟨d,zO⟩
theorem PC.okc {p:List Fn}{vars funcs l0:Int}{ex:Ex}{pl:Bool}(h:PC p vars ex)(d:Nat):QT p funcs vars pl d (l0+1) l0 ex:=by
 have h:=h.ok (funcs:=funcs) (pl:=pl) (l0:=l0+1) d
 rwa [show l0+1-1=l0 from by omega]at h
theorem QT.up1 {p:List Fn}{vars funcs l0 l1:Int}{ex:Ex}{pl:Bool}{d:Nat}(h:QT p funcs vars pl d (l0-1+1) l1 ex):QT p funcs vars pl d l0 l1 ex:=by rwa [show l0-1+1=l0 from by omega]at h
theorem QU.node1 {p:List Fn}{funcs vars:Int}{pl:Bool}{k num pick cnt:Int}{d i:Nat}{l0 l1:Int}{xs:List Ex}(h:QU p funcs vars pl k d l0 l1 xs i)(hd:1≤d)(hi:i≤4)(hl:1≤l0)
  (hp:pl=true→k≠6∧k≠8) (hw:H5 p funcs vars (.mk k num pick cnt xs)=true):QT p funcs vars pl d (l0+1) l1 (.mk k num pick cnt xs) :=
 QU.node (by rwa [show l0+1-1=l0 from by omega]) hd hi zO hp hw
namespace Jx
variable [J:JR] {P:Program} {ops:Array Oper} {w0:World} {Q:Act→World→Prop}
theorem j1 {o:Oper}{os:List Oper}{ks:List Nat}{a:Act}{w:World}(h:_root_.Go.Proofs.YtemfgblmfahllaaGreat.LW P ops w0 (fun a w=>LW P ops w0 Q os ks a w) [o] [0] a w):LW P ops w0 Q (o::os) (0::ks) a w:=by
 simp only[_root_.Go.Proofs.YtemfgblmfahllaaGreat.LW]at h
 simp only[LW]
 split
 ·rename_i hw
  rw[if_pos hw]at h
  unfold _root_.Go.Proofs.YtemfgblmfahllaaGreat.BT at h
  unfold BT
  rw[if_pos (by decide)]at h
  rw[if_pos (by decide)]
  obtain⟨v,h1,h2⟩:=h
  exact⟨v,fun w' _=>h1 w' trivial,h2⟩
 ·rename_i hw
  rw[if_neg hw]at h
  exact h
theorem V2:∀ {os:List Oper}{ks:List Nat}{a:Act}{w:World}(_:ks.all (fun k=>k == 0 || k == 3 || k == 4)=true)(_:_root_.Go.Proofs.YtemfgblmfahllaaGreat.LW P ops w0 Q os ks a w),LW P ops w0 Q os ks a w
 |[],_,_,_,_,h=>h
 |_::_,[],_,_,_,h=>h.elim
 |o::os,k::ks,a,w,hk,h=>by
  simp only[List.all_cons,z7]at hk
  simp only[_root_.Go.Proofs.YtemfgblmfahllaaGreat.LW]at h
  simp only[LW]
  split
  ·rename_i hw
   rw[if_pos hw]at h
   unfold _root_.Go.Proofs.YtemfgblmfahllaaGreat.BT at h
   unfold BT
   split at h
   ·rename_i h2
    rw[if_pos h2]
    have:k=0:=by
     have:=hk.1
     simp only[Bool.or_eq_true,beq_iff_eq]at this
     omega
    subst this
    obtain⟨v,h1,h3⟩:=h
    exact⟨v,fun w' _=>h1 w' trivial,V2 hk.2 h3⟩
   ·rename_i h2
    rw[if_neg h2]
    split at h
    ·rename_i h3
     rw[if_pos h3]
     exact Oper.wp_mono (fun a w hh=>⟨J.ext hh.1,V2 hk.2 hh.2⟩) h
    ·rename_i h3
     rw[if_neg h3]
     exact Oper.wp_mono (fun a w hh=>V2 hk.2 hh) h
  ·rename_i hw
   rw[if_neg hw]at h
   exact V2 hk.2 h
end Jx
end
section
theorem T5 {α:Type}{l:List α}{k:Nat}{d:α}(h:k<l.length):l.getD k d∈l:=by
 rw[List.getD_eq_getElem?_getD,List.getElem?_eq_getElem h,Option.getD_some];exact List.getElem_mem h
theorem YJ {a:Int}(h:-9223372036854775808≤a∧a≤9223372036854775807):Bd a:=h
def Js (n:Nat):ByteArray:=⟨#[UInt8.ofNat (48+n)]⟩
def Nr:List ByteArray:=[⟨#[102]⟩,⟨#[103]⟩,⟨#[115,116,101,112]⟩,⟨#[104,50]⟩,⟨#[99]⟩]
theorem YK {n:Int}(h0:0≤n)(h1:n<10):(⟨#[UInt8.ofNat (IntKind.u8.wrap (((48:Nat):Int)+n)).toNat]⟩:ByteArray)=Js n.toNat:=by
 obtain⟨k,rfl⟩:∃k:Nat,n=k:=⟨n.toNat,zO⟩
 have:∀k:Fin 10,(⟨#[UInt8.ofNat (IntKind.u8.wrap (((48:Nat):Int)+((k.val:Nat):Int))).toNat]⟩:ByteArray)=Js k.val:=by decide +kernel
 exact this ⟨k,zO⟩
theorem T6 (n:Nat):(Js n).size=1:=rfl
theorem RW:∀s∈Nr,s.size≤4:=by decide +kernel
theorem V3:∀s∈Nr,∀i:Fin 10,Lj (s++Js i.val)=true:=by decide +kernel
theorem V4:∀s∈Nr,∀t∈Nr,∀i j:Fin 10,i.val≠j.val→IQ (s++Js i.val) (t++Js j.val)=false:=by decide +kernel
section str
variable {P:Program} {ops:Array Oper} {w0:World} {Q:Act→World→Prop} {os:List Oper} {ks:List Nat} {N:Nat} {ρ:Nat→Value} {w:World}
 {d:Nat} {ty:TypeId} {pos:String} {aft:Array Edge} {g:Option (Nat×Bool)} {t e:TypeId}
theorem V5 {st dt:TypeId}{x:Operand}{v:Value}{n:Int}{B U:Nat}(hs:P.underlying st=some (.slice e))(he:P.underlying e=some (.int .u8))(hd:P.underlying dt=some .string)(hx:Br N ρ x=v)(hv:Fr (BD rV e) B U w.heap v [.int .u8 n])
  (hu:Up ops N ρ ⟨some d,.convert st dt x,ty,pos,aft,g⟩) (h:LW P ops w0 Q os ks (mk N (CI ρ d (.string ⟨#[UInt8.ofNat n.toNat]⟩))) w) :
  LW P ops w0 Q (⟨some d,.convert st dt x,ty,pos,aft,g⟩::os) (2::ks) (mk N ρ) w:=by
 obtain⟨F,hv,_,_⟩:=hv
 rcases hv with⟨_,hc,_⟩|⟨us,b,cap,cur,F',hels,rfl,hg,q1,q2,q3,q4,rfl⟩
 ·cases hc
 ·obtain⟨rfl,rfl⟩:=H2 hels
  refine Cr (by decide) rfl hu _ (fun w' hcl=>?_) h
  have hcl:AD w w':=hcl
  have hcb:w'.heap[b]? = w.heap[b]?:=hcl.heap (getElem?_lt hg)
  have hlc:=run_loadCells_list (P:=P) w' ⟨b,0,none⟩ [.int .u8 n] (fun j u hj=>by
   rw[IL,Ci]
   simp only[Cn,hcb,hg]
   have hj0:j=0:=by have:=(List.getElem?_eq_some_iff.1 hj).1;simpa using this
   subst hj0
   have e1:cur.toList[0]? = some (.int .u8 n):=by
    have:(cur.toList.take 1)[0]? = some (.int .u8 n):=by rw[show cur.toList.take 1=[.int .u8 n]from q4];rfl
    rwa [List.getElem?_take,if_pos (by decide)]at this
   have e2:u=.int .u8 n:=by simpa using hj.symm
   rw[e2]
   simpa using e1)
  have hb:=run_bytesToString (P:=P) w' ⟨b,0,none⟩ 1 cap [n] (by simpa using hlc)
  have hr:=run_convert_bytes_string (P:=P) w' st dt e (some ⟨b,0,none⟩) 1 cap hs he hd
  simp only[execOp,hx,zd,Sem.run_bind,hr,hb,Result.andThen_ok,Sem.run_pure]
  rfl
theorem V6 {b:Nat}{z u0 u1 u2 u3:Value}(ht:P.underlying t=some (.slice e))(hi:TI P e 1 z b)(h0:u0.cells=#[u0])(h1:u1.cells=#[u1])(h2:u2.cells=#[u2])(h3:u3.cells=#[u3])(hz:z.cells=#[z]) :
  (Instr.buildSlice t 4 #[(0,u0),(1,u1),(2,u2),(3,u3)]).run P w=.ok (.slice (some ⟨w.heap.size,0,none⟩) 4 4) (w.alloc (.cells #[u0,u1,u2,u3] e)):=by
 obtain⟨i,q1,q2,q3,q4⟩:=hi.get
 simp[Instr.buildSlice,run_underlying ht,sizeOf,typeInfo,zeroValue,q1,q2,q3,Instr.fill,newRow,h0,h1,h2,h3,hz,Jk,List.range_succ]
theorem YL {α:Type}{E:Bs α}(hE:BZ E){ys:List α}{b:Nat}{z u0 u1 u2 u3:Value}{x0 x1 x2 x3:Operand}(ht:P.underlying t=some (.slice e))(hi:TI P e 1 z b)(hz:z.cells=#[z])
  (hx0:Br N ρ x0=u0) (hx1:Br N ρ x1=u1) (hx2:Br N ρ x2=u2) (hx3:Br N ρ x3=u3) (hl:ys.length=4) (hels:els E w.heap [u0,u1,u2,u3] ys [])
  (hu:Up ops N ρ ⟨some d,.buildSlice t 4 #[(0,x0),(1,x1),(2,x2),(3,x3)],ty,pos,aft,g⟩)
  (h:∀v w1,AD w w1→w1.heap.size=w.heap.size+1→Fr (BD E e) w.heap.size w1.heap.size w1.heap v ys→LW P ops w0 Q os ks (mk N (CI ρ d v)) w1) :
  LW P ops w0 Q (⟨some d,.buildSlice t 4 #[(0,x0),(1,x1),(2,x2),(3,x3)],ty,pos,aft,g⟩::os) (3::ks) (mk N ρ) w:=by
 have hc:=hels.cells1 hE
 have hr:=V6 (P:=P) (w:=w) ht hi (hc u0 (by simp)).1 (hc u1 (by simp)).1 (hc u2 (by simp)).1 (hc u3 (by simp)).1 hz
 have hrun:(execOp (Br N ρ) ⟨some d,.buildSlice t 4 #[(0,x0),(1,x1),(2,x2),(3,x3)],ty,pos,aft,g⟩).run P w=.ok (.value (.slice (some ⟨w.heap.size,0,none⟩) 4 4)) (w.alloc (.cells #[u0,u1,u2,u3] e)):=by
  simp only[execOp,zc,zf,zh,Sem.run_bind,hx0,hx1,hx2,hx3,hr,Result.andThen_ok,Sem.run_pure]
 refine Ji rfl hu _ _ hrun (BA _ _)<|h _ _ (BA _ _) (by simp) ?_
 have hn:=FZ (e:=e) (w:=w) hE (us:=[u0,u1,u2,u3]) (xs:=ys) (F:=[]) (cur:=#[u0,u1,u2,u3]) hels (by simp[maxLen]) (by rw[hl];rfl) (by rw[hl];simp)
 rw[hl]at hn
 refine⟨_,hn,?_,fun c hc=>?_⟩
 ·rw[List.nodup_cons]
  exact⟨fun hm=>(by cases hm),zk⟩
 ·rcases ze.1 hc with rfl|hc
  ·exact⟨A9 _,by simp⟩
  ·cases hc
end str
theorem aA {H:Array Obj}{u0 u1 u2 u3:Value}(h0:u0.cells=#[u0]∧u0.oneCell'=true)(h1:u1.cells=#[u1]∧u1.oneCell'=true)(h2:u2.cells=#[u2]∧u2.oneCell'=true)(h3:u3.cells=#[u3]∧u3.oneCell'=true):els rV H [u0,u1,u2,u3] [u0,u1,u2,u3] [] :=
 L8 fun u hu=>by
  simp only[ze,z2,or_false]at hu
  rcases hu with rfl|rfl|rfl|rfl <;> assumption
theorem V7 {p q:List Fn}{F v:Int}{e:Ex}(hF:F≤((p.length:Nat):Int)):H5 (p++q) F v e=H5 p F v e:=by
 by_cases h:HB e.num 0 (F-1)=true
 ·have h1:=C6.1 h
  have h2:(p++q).getD e.num.toNat Fn.zero=p.getD e.num.toNat Fn.zero:=Ik zO
  unfold H5
  rw[h2]
 ·unfold H5
  simp only[Bool.not_eq_true]at h
  simp[h]
mutual
theorem PD {p q:List Fn}{F:Int}(hF:F≤((p.length:Nat):Int)):∀(e:Ex)(v:Int),wf (p++q) F e v=wf p F e v
 |.mk k n c d l,v=>by rw[wf,wf,V7 hF,QV hF l]
theorem QV {p q:List Fn}{F:Int}(hF:F≤((p.length:Nat):Int)):∀(l:List Ex)(b:Bool)(i:Nat)(v:Int),QB (p++q) F b i l v=QB p F b i l v
 |[],_,_,_=>by rw[QB,QB]
 |e::l,b,i,v=>by rw[QB,QB,PD hF e,QV hF l]
end
structure Me (p:List Fn)(pl:Bool):Prop where
 len:p.length≤12
 par:∀k,k<p.length→1≤(p.getD k Fn.zero).params∧(p.getD k Fn.zero).params≤3
 outs:∀k,k<p.length→1≤(p.getD k Fn.zero).outs.length∧(p.getD k Fn.zero).outs.length≤3
 wf:∀k,k<p.length→∀j,j<(p.getD k Fn.zero).outs.length→wf p ((k:Nat):Int) ((p.getD k Fn.zero).outs.getD j Ex.zero) (p.getD k Fn.zero).params=true
 dp:∀k,k<p.length→Ex.deeps (p.getD k Fn.zero).outs≤6
 sz:∀k,k<p.length→Ex.sizes (p.getD k Fn.zero).outs≤400
 pl:pl=true→∀k,k<p.length→Pn (p.getD k Fn.zero).outs=true
 nm:∀k,k<p.length→Lj (p.getD k Fn.zero).name=true
 nw:∀k,k<p.length→RU p k=true
theorem Me.nil (pl:Bool):Me [] pl:=by
 constructor
 ·simp
 all_goals first|(intro _ k hk;simp at hk)|(intro k hk;simp at hk)
theorem Me.gpr {p:List Fn}{pl:Bool}(h:Me p pl):ZZ p :=
 ⟨by have:=h.len;omega,fun k hk=>by have:=h.par k hk;omega,fun k hk=>by have:=h.outs k hk;omega⟩
theorem Me.snoc {p:List Fn}{pl:Bool}{f:Fn}(h:Me p pl)(hl:p.length≤11)(hp:1≤f.params∧f.params≤3)(ho:1≤f.outs.length∧f.outs.length≤3)
  (hw:∀j,j<f.outs.length→Go.Proofs.YtemfgblmfahllaaGreat.wf p ((p.length:Nat):Int) (f.outs.getD j Ex.zero) f.params=true) (hd:Ex.deeps f.outs≤6) (hs:Ex.sizes f.outs≤400) (hpl:pl=true→Pn f.outs=true)
  (hn:Lj f.name=true) (hnw:∀k,k<p.length→IQ (p.getD k Fn.zero).name f.name=false):Me (p++[f]) pl:=by
 have e:∀k,k<(p++[f]).length→(k<p.length∧(p++[f]).getD k Fn.zero=p.getD k Fn.zero)∨(k=p.length∧(p++[f]).getD k Fn.zero=f):=fun k hk=>by
  rw[z4,zd]at hk
  by_cases h:k<p.length
  ·exact .inl ⟨h,Ik h⟩
  ·exact .inr ⟨zO,IP zO⟩
 refine⟨by rw[z4,zd];omega,?_,?_,?_,?_,?_,?_,?_,?_⟩
 ·intro k hk;rcases e k hk with⟨h1,h2⟩|⟨h1,h2⟩ <;> rw[h2]
  ·exact h.par k h1
  ·exact hp
 ·intro k hk;rcases e k hk with⟨h1,h2⟩|⟨h1,h2⟩ <;> rw[h2]
  ·exact h.outs k h1
  ·exact ho
 ·intro k hk;rcases e k hk with⟨h1,h2⟩|⟨h1,h2⟩ <;> rw[h2]
  ·intro j hj;rw[PD (by omega)];exact h.wf k h1 j hj
  ·intro j hj;subst h1;rw[PD (by omega)];exact hw j hj
 ·intro k hk;rcases e k hk with⟨h1,h2⟩|⟨h1,h2⟩ <;> rw[h2]
  ·exact h.dp k h1
  ·exact hd
 ·intro k hk;rcases e k hk with⟨h1,h2⟩|⟨h1,h2⟩ <;> rw[h2]
  ·exact h.sz k h1
  ·exact hs
 ·intro hq k hk;rcases e k hk with⟨h1,h2⟩|⟨h1,h2⟩ <;> rw[h2]
  ·exact h.pl hq k h1
  ·exact hpl hq
 ·intro k hk;rcases e k hk with⟨h1,h2⟩|⟨h1,h2⟩ <;> rw[h2]
  ·exact h.nm k h1
  ·exact hn
 ·intro k hk
  rcases e k hk with⟨h1,h2⟩|⟨h1,h2⟩
  ·have:=h.nw k h1
   unfold RU at this ⊢
   rwa [h2,List.take_append_of_le_length (by omega)]
  ·unfold RU
   rw[h2,h1,List.take_left]
   simp only[Bool.not_eq_true',List.any_eq_false]
   intro g hg
   obtain⟨i,hi,rfl⟩:=List.mem_iff_getElem.1 hg
   have:=hnw i hi
   rw[List.getD_eq_getElem?_getD,List.getElem?_eq_getElem hi,Option.getD_some]at this
   simp[this]
theorem Me.ok {p:List Fn}{pl:Bool}(h:Me p pl):Kw p=true:=by
 unfold Kw
 rw[z7]
 refine⟨A7 (by have:=h.len;omega),zm.2 fun k hk=>?_⟩
 rw[List.mem_range]at hk
 have h1:=h.par k hk;have h2:=h.outs k hk;have h3:=h.sz k hk;have h4:=h.dp k hk
 unfold Kn
 rw[h.nm k hk,h.nw k hk,C6.2 zO,C6.2 zO,A7 h3]
 simp only[Bool.true_and,Bool.and_true]
 refine zm.2 fun j hj=>?_
 rw[List.mem_range]at hj
 have h5:=Ok hj;have h6:=ET hj
 unfold Mk
 rw[C6.2 zO,C6.2 zO,A7 zO,A7 zO,h.wf k hk j hj]
 rfl
structure T7 (p:List Fn)(vars:Int)(pl:Bool)(xs:List Ex)(i:Nat):Prop where
 len:xs.length=i
 wf:∀j,j<i→wf p ((p.length:Nat):Int) (xs.getD j Ex.zero) vars=true
 dp:Ex.deeps xs≤6
 sz:Ex.sizes xs≤i*117
 pl:pl=true→Pn xs=true
theorem T7.nil (p:List Fn)(vars:Int)(pl:Bool):T7 p vars pl [] 0:=⟨rfl,fun j hj=>by omega,by rw[Ex.deeps];omega,by rw[Ex.sizes];omega,fun _=>by rw[Pn]⟩
theorem T7.snoc {p:List Fn}{funcs vars:Int}{pl:Bool}{xs:List Ex}{i d:Nat}{l0 l1:Int}{x:Ex}(h:T7 p vars pl xs i)(hf:funcs=((p.length:Nat):Int))(hd:d≤5)(hl:l0≤30)(hx:QT p funcs vars pl d l0 l1 x):T7 p vars pl (xs++[x]) (i+1):=by
 have hlen:=h.len
 subst hf
 refine⟨by simp[hlen],fun j hj=>?_,?_,?_,fun hp=>?_⟩
 ·by_cases e:j=i
  ·subst e
   rw[IP hlen.symm];exact hx.wf
  ·rw[Ik (by omega)];exact h.wf j zO
 ·have h1:=h.dp;have h2:=hx.dp
  rw[IN];omega
 ·have h1:=h.sz;have h2:=hx.sz
  rw[IM];omega
 ·rw[OG,h.pl hp,hx.pl hp];rfl
def Dn (p:List Fn):Prop:=∀k,k<p.length→∃s∈Nr,(p.getD k Fn.zero).name=s++Js k
theorem Dn.nil:Dn []:=fun k hk=>by simp at hk
theorem Dn.snoc {p:List Fn}{f:Fn}{s:ByteArray}(h:Dn p)(hs:s∈Nr)(hf:f.name=s++Js p.length):Dn (p++[f]):=fun k hk=>by
 rw[z4,zd]at hk
 by_cases e:k<p.length
 ·rw[Ik e];exact h k e
 ·rw[IP zO,show k=p.length from by omega];exact⟨s,hs,hf⟩
theorem T7.fn {p:List Fn}{pl:Bool}{f:Fn}{s:ByteArray}{i:Nat}(h:Me p pl)(hd:Dn p)(hl:p.length≤9)(hp:1≤f.params∧f.params≤3)(hi:1≤i∧i≤3)(ho:T7 p f.params pl f.outs i)
  (hs:s∈Nr) (hf:f.name=s++Js p.length):Me (p++[f]) pl∧Dn (p++[f]) :=
 ⟨h.snoc zO hp (by rw[ho.len];exact hi) (fun j hj=>ho.wf j (by rw[← ho.len];exact hj)) ho.dp (by have:=ho.sz;omega) ho.pl (by rw[hf];exact V3 s hs ⟨p.length,zO⟩) (fun k hk=>by
  obtain⟨t,ht,e⟩:=hd k hk
  rw[e,hf]
  exact V4 t ht s hs ⟨k,zO⟩ ⟨p.length,zO⟩ (by show k≠p.length;omega)),hd.snoc hs hf⟩
theorem T8 {x:ByteArray}(h:Value.string x∈[Value.string ⟨#[102]⟩,.string ⟨#[103]⟩,.string ⟨#[115,116,101,112]⟩,.string ⟨#[104,50]⟩]):x∈Nr:=by
 simp only[ze,z2,or_false,Value.string.injEq]at h
 rcases h with h|h|h|h <;> subst h <;> simp[Nr]
theorem eW:Ib 5=47770:=by decide
theorem eX:MQ 5=1365:=by decide
theorem Me.npl {p:List Fn}{pl:Bool}(h:Me p pl):Me p false:=⟨h.len,h.par,h.outs,h.wf,h.dp,h.sz,fun h=>absurd h (by decide),h.nm,h.nw⟩
section res
variable {P:Program} {N:Nat} {ρ:Nat→Value} {w:World}
theorem Ta:∀(l:List Nat),(((l.map ResultVar.tmp).mapM (m:=Sem) fun
  |.tmp t=>pure ((mk N ρ).tmps.getD t undef)
  |.cell a t=>do loadVar t (← asAddr ((mk N ρ).tmps.getD a undef)))).run P w=.ok (l.map fun t=>Br N ρ (.tmp t)) w:=by
 intro l
 induction l with
 |nil=>rfl
 |cons t l ih =>
  simp only[zf,List.mapM_cons,Sem.run_bind,Sem.run_pure,Result.andThen_ok,KF]at ih ⊢
  rw[ih]
  rfl
theorem GD {fn:Func}{R:Ending→World→Prop}{k s b t0:Nat}{ts:List Nat}{ty:TypeId}{cs:List Value}(vs:List Value)(hr:fn.results=(ResultVar.cell k ty::((t0::ts).map ResultVar.tmp)).toArray)(ha:ER P ty s=true)(hv:Br N ρ (.tmp k)=.pointer (some ⟨b,0,none⟩))(hb:BX w.heap b cs)(hl:cs.length=s)
  (hvs:((t0::ts).map fun t=>Br N ρ (.tmp t))=vs) (h:R (.returned (.tuple (.agg cs.toArray::vs).toArray)) w):bodyPost P fn R .ret (mk N ρ) w:=by
 subst hvs
 refine⟨rfl,_,?_,h⟩
 have hld:=Jn (P:=P) ha (LD.of_box hb) hl
 have hg:(mk N ρ).tmps.getD k undef=.pointer (some ⟨b,0,none⟩):=by rw[KF,hv]
 have hi:(asAddr (.pointer (some ⟨b,0,none⟩))).run P w=.ok ⟨b,0,none⟩ w:=rfl
 have key:=Ta (P:=P) (N:=N) (ρ:=ρ) (w:=w) (t0::ts)
 unfold results
 rw[hr]
 simp only[List.mapM_toArray,Sem.run_bind,Sem.run_map]
 have hfull:(((ResultVar.cell k ty::((t0::ts).map ResultVar.tmp)).mapM (m:=Sem) fun
  |.tmp t=>pure ((mk N ρ).tmps.getD t undef)
  |.cell a t=>do loadVar t (← asAddr ((mk N ρ).tmps.getD a undef)))).run P w=.ok (.agg cs.toArray::((t0::ts).map fun t=>Br N ρ (.tmp t))) w:=by
  rw[List.mapM_cons]
  simp only[Sem.run_bind,Sem.run_pure,hg,hi,hld,Result.andThen_ok]
  rw[key]
  rfl
 refine (congrArg (fun r=>(Result.andThen (Result.andThen r fun a w'=>Result.ok a.toArray w') fun a w'=>Result.ok (if h:a.size=1 then a[0]else Value.tuple a) w')) hfull).trans ?_
 simp only[Result.andThen_ok]
 rfl
end res
end
section
set_option linter.unusedSectionVars false
namespace Jx
section
variable [J:JR] {P:Program} {ops:Array Oper} {md:Region.Mode} {kd bs:Nat→Nat} {w0:World} {Q:Act→World→Prop}
theorem KR {Q':Act→World→Prop}(h:∀a w,Q a w→Q' a w):∀(l:List Nat)(a:Act)(w:World),LI P ops kd w0 Q l a w→LI P ops kd w0 Q' l a w
 |[],a,w,hh=>h a w hh
 |i::l,a,w,hh=>by
  simp only[LI]at hh ⊢
  cases hoi:ops[i]? with
  |none=>rw[hoi]at hh;exact hh.elim
  |some o =>
   rw[hoi]at hh
   simp only at hh ⊢
   split
   ·rename_i hw
    rw[if_pos hw]at hh
    exact hh.mono fun a w=>KR h l a w
   ·rename_i hw
    rw[if_neg hw]at hh
    exact KR h l _ _ hh
theorem Ll (s:List Nat):∀(l:List Nat)(a:Act)(w:World),LI P ops kd w0 (LI P ops kd w0 Q s) l a w→LI P ops kd w0 Q (l++s) a w
 |[],a,w,hh=>hh
 |i::l,a,w,hh=>by
  simp only[LI,List.cons_append]at hh ⊢
  cases hoi:ops[i]? with
  |none=>rw[hoi]at hh;exact hh.elim
  |some o =>
   rw[hoi]at hh
   simp only at hh ⊢
   split
   ·rename_i hw
    rw[if_pos hw]at hh
    exact hh.mono fun a w=>Ll s l a w
   ·rename_i hw
    rw[if_neg hw]at hh
    exact Ll s l _ _ hh
theorem DK {Q':Act→World→Prop}(hQ:∀a w,Q a w→Q' a w):∀(l:List Nat)(os:List Oper)(ks:List Nat)(a:Act)(w:World),Mt ops kd l os ks→LW P ops w0 Q os ks a w→LI P ops kd w0 Q' l a w
 |[],[],_,a,w,_,h=>by simpa [LI]using hQ a w (by simpa [LW]using h)
 |x::l,o::os,k::ks,a,w,⟨h0,hk,hM⟩,h=>by
  have hr:∀a w,LW P ops w0 Q os ks a w→LI P ops kd w0 Q' l a w:=fun a w hh=>DK hQ l os ks a w hM hh
  simp only[LI,h0,LW]at h ⊢
  split
  ·rename_i hw
   rw[if_pos hw]at h
   rw[hk]
   exact h.mono hr
  ·rename_i hw
   rw[if_neg hw]at h
   exact hr _ _ h
 |[],_::_,_,_,_,h,_=>h.elim
 |_::_,[],_,_,_,h,_=>h.elim
 |_::_,_::_,[],_,_,h,_=>h.elim
structure PE (ops:Array Oper)(kd bs:Nat→Nat)(w0:World)(L0 S:List Nat)(n:Nat)(l:List Nat)(listed:Array Bool)(w:World):Prop where
 sub:l.Sublist L0
 len:l.length+S.length=n
 mem:∀i,i∈l++S↔listed.getD i true=false
 sz:listed.size=ops.size
 clo:IJ bs listed
 inv:JQ kd w0 w (l++S)
 nd:(l++S).Nodup
variable {L0:List Nat}
theorem V8 {l:List Nat}(hp:l.Pairwise (fun x y=>4≤kd x→kd y≠1)):II kd l:=by
 intro l1 i l2 hl hk j hj
 subst hl
 exact List.rel_of_pairwise_cons (List.pairwise_append.1 hp).2.1 hj hk
theorem Lm (hsel:∀(j:Nat)(o:Oper) cs b,ops[j]? = some o→o.op≠.select cs b)(hS:Kj md ops bs)
  (hlex:∀j oj,ops[j]? = some oj→∀e∈oj.after,Region.binds md e=true→e.on<j) {s:List Nat} (hp:(L0++s).Pairwise (CR md ops kd bs)) (h14:(L0++s).Pairwise (fun x y=>4≤kd x→kd y≠1))
  (n:Nat) (l:List Nat) (listed:Array Bool) (a:Act) (w:World) (hC:PE ops kd bs w0 L0 s n l listed w) (h:LI P ops kd w0 (LI P ops kd w0 Q s) l a w):wpAny P md ops (NQ Q) n listed a w :=
 Ef hsel hS hlex n (l++s) listed a w (by rw[z4];exact hC.len) (hp.sublist (List.Sublist.append_right hC.sub s)) hC.nd hC.sz hC.mem hC.clo
  (V8 (h14.sublist (List.Sublist.append_right hC.sub s))) hC.inv (Ll s l a w h)
theorem JY (hsel:∀ (j:Nat) (o:Oper) cs b,ops[j]? = some o→o.op≠.select cs b) (hS:Kj md ops bs)
  (hlex:∀ j oj,ops[j]? = some oj→∀ e∈oj.after,Region.binds md e = true→e.on < j)
  {h1 h2:Nat} {S1 S2:List Nat} {Q1 Q2:Act→World→Prop} (hperm:(h1 :: S1).Perm (h2 :: S2)) (hk1:kd h1 = 3) (hk2:kd h2 = 3)
  (hl:∀ x∈L0,kd x≤2) (hL:L0.Pairwise (CR md ops kd bs)) (hf1:∀ x∈L0,CR md ops kd bs x h1) (hf2:∀ x∈L0,CR md ops kd bs x h2)
  (hz:∀ z∈S1,z = h2∨(bs z).testBit h1 = true∨(bs z).testBit h2 = true)
  (hord:(L0++h1 :: S1).Pairwise (fun x y=>∀ ox,ops[x]? = some ox→∀ e∈ox.after,Region.binds md e = true→e.on≠y))
  (rec1:∀ n l listed a w,PE ops kd bs w0 L0 S1 n l listed w→LI P ops kd w0 Q1 l a w→wpAny P md ops (NQ Q) n listed a w)
  (rec2:∀ n l listed a w,PE ops kd bs w0 L0 S2 n l listed w→LI P ops kd w0 Q2 l a w→wpAny P md ops (NQ Q) n listed a w) :
  ∀ (n:Nat) (l:List Nat) (listed:Array Bool) (a:Act) (w:World),PE ops kd bs w0 L0 (h1 :: S1) n l listed w→LI P ops kd w0 (fun a w=>LI P ops kd w0 Q1 [h1] a w∧LI P ops kd w0 Q2 [h2] a w) l a w→wpAny P md ops (NQ Q) n listed a w
 | 0,l,listed,a,w,hC,h=>by have:=hC.len; simp at this
 | n + 1,l,listed,a,w,hC,h=>by
  have hm2:∀ i,i∈l++h1 :: S1↔i∈l++h2 :: S2:=fun i=>by
   simp only [zi]; rw [hperm.mem_iff]
  have hun_of:∀ i∈l++h1 :: S1,listed.getD i true = false:=fun i hi=>(hC.mem i).1 hi
  -- a place that makes memory is taken
  have heavy:∀ (x:Nat) (T:List Nat) (Qx:Act→World→Prop),kd x = 3→(h1 :: S1).Perm (x :: T)→(∀ y∈L0,CR md ops kd bs y x)→LI P ops kd w0 Qx (l++[x]) a w →
    (∀ l' a' w' listed',PE ops kd bs w0 L0 T n l' listed' w'→LI P ops kd w0 Qx l' a' w'→wpAny P md ops (NQ Q) n listed' a' w') →
    ∀ (ox:Oper),ops[x]? = some ox→(∀ e∈ox.after,Region.binds md e = true→listed.getD e.on false = true)→wpOp P ops (NQ Q) x (wpAny P md ops (NQ Q) n (listed.setIfInBounds x true)) a w:=by
   intro x T Qx hkx hpx hfx hLx hrec ox hox hall
   have hbits:=DW hS hC.clo hox hall
   have hxm:x∈l++h1 :: S1:=z1 _ (hpx.mem_iff.2 (z0 ..))
   have hxu:=hun_of x hxm
   have hfree:=D4 (kd:=kd) (l1:=l) hox (fun y hy=>(hfx y<|hC.sub.subset hy).1) (fun y hy=>hun_of y<|z8 _ hy) hbits
   have hsz:=CB hxu
   have hnd2:(l++x :: T).Nodup:=(List.Perm.append_left l hpx).nodup_iff.1 hC.nd
   have hxl:x∉l++T:=by
    have h1:=List.nodup_append.1 hnd2
    intro hmem
    rcases zi.1 hmem with hh | hh
    ·exact h1.2.2 x hh x (z0 ..) rfl
    ·exact (List.nodup_cons.1 h1.2.1).1 hh
   have hmT:∀ i,i∈l++x :: T↔listed.getD i true = false:=fun i=>by
    rw [← hC.mem i]; simp only [zi]; rw [hpx.mem_iff]
   have hcond:∀ w',(AD w w')→PE ops kd bs w0 L0 T n l (listed.setIfInBounds x true) w':=fun w' hE =>
    ⟨hC.sub,by have:=hC.len; have:=hpx.length_eq; simp at *; omega,EE hmT hxl hsz,by simpa using hC.sz,E8 hC.clo hbits,
     fun ⟨j,hj,hkj⟩=>(hC.inv ⟨j,by
      rcases zi.1 hj with hh | hh
      ·exact z8 _ hh
      ·exact z1 _ (hpx.mem_iff.2 (z3 _ hh)),hkj⟩).trans hE,
     hnd2.sublist (List.Sublist.append_left (List.sublist_cons_self _ _) _)⟩
   obtain ⟨g1,g2⟩:=Ix (Q:=Qx) hsel hox zO l [] a w hfree (by simpa using hLx)
   unfold wpOp
   rw [hox]
   by_cases hw:Region.wanted ox (yielded ops a.tmps) = true
   ·simp only [hw,if_true]
    exact .inl<|Oper.wp_mono (fun a' w' hK=>hrec l a' w' _ (hcond w'<|hK.1 hkx) (by simpa using hK.2))<|GT<|g1 hw
   ·simp only [hw,Bool.false_eq_true,if_false]
    exact hrec l _ w _ (hcond w<|AD.refl w) (by simpa using g2 (by simpa using hw))
  refine ⟨fun h0=>?_,fun i hi=>?_⟩
  ·exfalso
   have hready:∀ (x:Nat) (t:List Nat),l++h1 :: S1 = x :: t→False:=fun x t ht=>by
    have hs:(x :: t).Pairwise (fun x y=>∀ ox,ops[x]? = some ox→∀ e∈ox.after,Region.binds md e = true→e.on≠y):=ht ▸ hord.sublist (List.Sublist.append_right hC.sub _)
    have:=GU (md:=md) (i:=x) (l:=t) hC.sz (fun y=>ht ▸ hC.mem y) hlex (fun y hy ox hox=>(List.pairwise_cons.1 hs).1 y hy ox hox)
    rw [h0] at this
    cases this
   cases l with
   | nil=>exact hready _ _ rfl
   | cons x l=>exact hready x (l++h1 :: S1) rfl
  ·obtain ⟨hun,oi,hoi,hall⟩:=mem_ready.1 hi
   have hmem:=(hC.mem i).2 hun
   have hbits:=DW hS hC.clo hoi hall
   by_cases hil:i∈l
   ·obtain ⟨l1,l2,rfl⟩:=List.append_of_mem hil
    have hpi:∀ x∈l1,CR md ops kd bs x i:=fun x hx=>(List.pairwise_append.1 (hL.sublist hC.sub)).2.2 x hx i (z0 ..)
    have hfree:=D4 (kd:=kd) (l1:=l1) hoi (fun x hx=>(hpi x hx).1) (fun x hx=>hun_of x (by simp [hx])) hbits
    have hk:kd i≤2:=hl i (hC.sub.subset (by simp))
    have hsub0:(l1++l2).Sublist (l1++i :: l2):=List.Sublist.append_left (List.sublist_cons_self _ _) _
    have hnd1:(l1++i :: (l2++h1 :: S1)).Nodup:=by have:=hC.nd; rwa [List.append_assoc,List.cons_append] at this
    have hnot:i∉l1++(l2++h1 :: S1):=by
     have h1:=List.nodup_append.1 hnd1
     intro hmem
     rcases zi.1 hmem with hh | hh
     ·exact h1.2.2 i hh i (z0 ..) rfl
     ·exact (List.nodup_cons.1 h1.2.1).1 hh
    have hm1:∀ x,x∈l1++i :: (l2++h1 :: S1)↔listed.getD x true = false:=fun x=>by
     have:=hC.mem x; rwa [List.append_assoc,List.cons_append] at this
    have hcond:PE ops kd bs w0 L0 (h1 :: S1) n (l1++l2) (listed.setIfInBounds i true) w :=
     ⟨hsub0.trans hC.sub,by have:=hC.len; simp at *; omega,fun x=>by rw [List.append_assoc]; exact EE hm1 hnot (CB hun) x,by simpa using hC.sz,E8 hC.clo hbits,
      fun ⟨j,hj,hkj⟩=>hC.inv ⟨j,by
       rcases zi.1 hj with hh | hh
       ·exact z8 _<|hsub0.subset hh
       ·exact z1 _ hh,hkj⟩,
      hC.nd.sublist (List.Sublist.append_right hsub0 _)⟩
    obtain ⟨v,hv,hL'⟩:=Ho hsel hoi hk l1 l2 a w hfree (fun h1=>hC.inv ⟨i,by simp,h1⟩) h
    unfold wpOp
    rw [hoi]
    have rec_:=fun a' hh=>JY hsel hS hlex hperm hk1 hk2 hl hL hf1 hf2 hz hord rec1 rec2 n (l1++l2) (listed.setIfInBounds i true) a' w hcond hh
    rcases hv with ⟨hw,hy⟩ | ⟨hw,rfl⟩
    ·simp only [hw,if_true]
     exact .inl<|HC (hy w (Cl.self fun h1=>hC.inv ⟨i,by simp,h1⟩))<|rec_ _ hL'
    ·simp only [hw,Bool.false_eq_true,if_false]
     exact rec_ _ hL'
   ·have hiS:i∈h1 :: S1:=(zi.1 hmem).resolve_left hil
    have h12:i = h1∨i = h2:=by
     rcases ze.1 hiS with hh | hh
     ·exact .inl hh
     ·rcases hz i hh with hh | hh | hh
      ·exact .inr hh
      ·have q1:=hbits h1 hh
       have q2:=D6<|hun_of h1 (by simp)
       rw [q1] at q2; cases q2
      ·have q1:=hbits h2 hh
       have q2:=D6<|hun_of h2 ((hm2 h2).2 (by simp))
       rw [q1] at q2; cases q2
    rcases h12 with rfl | rfl
    ·exact heavy i S1 Q1 hk1 (List.Perm.refl _) hf1 (Ll [i] l a w<|KR (fun _ _ hh=>hh.1) l a w h) (fun l' a' w' li hc hh=>rec1 n l' li a' w' hc hh) oi hoi hall
    ·exact heavy i S2 Q2 hk2 hperm hf2 (Ll [i] l a w<|KR (fun _ _ hh=>hh.2) l a w h) (fun l' a' w' li hc hh=>rec2 n l' li a' w' hc hh) oi hoi hall
theorem Ns (x:Nat)(l:List Nat)(a:Act)(w:World)(hh:LI P ops kd w0 Q (x::l) a w):LI P ops kd w0 (LI P ops kd w0 Q l) [x] a w:=by
 simp only[LI]at hh ⊢
 cases hoi:ops[x]? with
 |none=>rw[hoi]at hh;exact hh.elim
 |some o =>
  rw[hoi]at hh
  simp only at hh ⊢
  split
  ·rename_i hw
   rw[if_pos hw]at hh
   exact hh.mono fun a w h=>h
  ·rename_i hw
   rw[if_neg hw]at hh
   exact hh
end
def QW (ops:Array Oper)(x y:Nat):Bool:=match ops[x]? with|some ox=>ox.after.all fun e=>!Region.binds .any e || e.on != y|none=>true
def aB (os:List Oper)(ks:List Nat)(L0:List Nat)(h1 g1:Nat)(r1:List Nat)(g2:Nat)(r2:List Nat)(h2:Nat)(r3:List Nat):Bool :=
  let ops:=os.toArray
  let b:=(Region.before ops).toList
  Region.noSelect ops &&
  (os.zipIdx.all fun(o,j) =>
    (o.after.all fun e=>!Region.binds .any e || decide (e.on<j)) &&
    (let m:=o.after.foldl (fun s e=>if Region.binds .any e then s ||| 2 ^ e.on ||| b.getD e.on 0 else s) 0
     (b.getD j 0 == m))) &&
  (decide (ks.getD h1 0=3) && (decide (ks.getD h2 0=3) && (decide (ks.getD g1 0=3) && decide (ks.getD g2 0=3)))) &&
  (L0.all fun x=>decide (ks.getD x 0≤2)) &&
  Oc (Gv ops ks b) L0 &&
  (L0.all fun x=>Gv ops ks b x h1 && (Gv ops ks b x h2 && (Gv ops ks b x g1 && Gv ops ks b x g2))) &&
  ((h1::g1::r1).isPerm (h2::r3) && (g1::r1).isPerm (g2::r2)) &&
  ((g1::r1).all fun z=>decide (z=h2) || ((b.getD z 0).testBit h1 || (b.getD z 0).testBit h2)) &&
  (r1.all fun z=>decide (z=g2) || ((b.getD z 0).testBit g1 || (b.getD z 0).testBit g2)) &&
  (Oc (QW ops) (L0++h1::g1::r1)) &&
  (Oc (Gv ops ks b) (L0++r1) && (Oc (Gv ops ks b) (L0++r2) && Oc (Gv ops ks b) (L0++r3))) &&
  (Oc (fun x y=>!(decide (4≤ks.getD x 0)) || ks.getD y 0 != 1) (L0++r1) && (Oc (fun x y=>!(decide (4≤ks.getD x 0)) || ks.getD y 0 != 1) (L0++r2) && Oc (fun x y=>!(decide (4≤ks.getD x 0)) || ks.getD y 0 != 1) (L0++r3))) &&
  (decide ((L0++h1::g1::r1).length=os.length) && (decide (L0++h1::g1::r1).Nodup && ((L0++h1::g1::r1).all (fun x=>decide (x<os.length)) && (List.range os.length).all fun x=>(L0++h1::g1::r1).contains x)))
section
variable [J:JR] {P:Program}
theorem aC {id:Nat}{Q:Exit→Act→World→Prop}{a:Act}{w:World}(os:List Oper)(ks:List Nat)(L0:List Nat)(h1 g1:Nat)(r1:List Nat)(g2:Nat)(r2:List Nat)(h2:Nat)(r3:List Nat)
  (oL:List Oper) (kL:List Nat) (oh1 og1:Oper) (o1:List Oper) (k1:List Nat) (og2:Oper) (o2:List Oper) (k2:List Nat) (oh2:Oper) (o3:List Oper) (k3:List Nat) (hm:P.follows .mixedOrders=true) (hB:aB os ks L0 h1 g1 r1 g2 r2 h2 r3=true)
  (hML:Mt os.toArray (fun i=>ks.getD i 0) L0 oL kL) (hMh:Mt os.toArray (fun i=>ks.getD i 0) [h1] [oh1] [3]) (hM1:Mt os.toArray (fun i=>ks.getD i 0) (g1::r1) (og1::o1) (3::k1)) (hM2:Mt os.toArray (fun i=>ks.getD i 0) (g2::r2) (og2::o2) (3::k2)) (hM3:Mt os.toArray (fun i=>ks.getD i 0) (h2::r3) (oh2::o3) (3::k3))
  (h:LW P os.toArray w.drew (fun a' w'=>LW P os.toArray w.drew (fun a'' w''=>LW P os.toArray w.drew (fun a w=>Q .normal a w) (og1::o1) (3::k1) a'' w''∧LW P os.toArray w.drew (fun a w=>Q .normal a w) (og2::o2) (3::k2) a'' w'') [oh1] [3] a' w' ∧
   LW P os.toArray w.drew (fun a w=>Q .normal a w) (oh2::o3) (3::k3) a' w') oL kL a w.drew):(Code.region id os.toArray true).wp P Q a w:=by
 refine wp_region_any hm ?_
 simp only[aB,z7,decide_eq_true_eq]at hB
 obtain⟨⟨⟨⟨⟨⟨⟨⟨⟨⟨⟨⟨hsel,hpl⟩,hk1,hk2,hk3,hk4⟩,hl⟩,hpL⟩,hpx⟩,hpe1,hpe2⟩,hz1⟩,hz2⟩,hord⟩,hb1,hb2,hb3⟩,hn1,hn2,hn3⟩,hln,hnd,hlt,hct⟩:=hB
 have hz:∀ {j:Nat} {o:Oper},os.toArray[j]? = some o→(o,j)∈os.zipIdx:=by
  intro j o ho
  rw[List.mem_zipIdx_iff_getElem?]
  simpa using ho
 have hall:∀j oj,os.toArray[j]? = some oj→_:=fun j oj hj=>zm.1 hpl _ (hz hj)
 have hlex:∀j oj,os.toArray[j]? = some oj→∀e∈oj.after,Region.binds .any e=true→e.on<j:=by
  intro j oj hj e he hb
  have h1:=(z7 _ _ ▸ hall j oj hj:_∧_).1
  have h2:=(Array.all_eq_true_iff_forall_mem.1 h1) e he
  simpa [hb]using h2
 have hS:Kj .any os.toArray (fun j=>(Region.before os.toArray).toList.getD j 0):=by
  intro j oj hj i hb
  have h3:=(z7 _ _ ▸ hall j oj hj:_∧_).2
  have h5:(Region.before os.toArray).toList.getD j 0=oj.after.foldl (fun s e=>if Region.binds .any e then s ||| 2 ^ e.on ||| (Region.before os.toArray).toList.getD e.on 0 else s) 0:=by simpa using h3
  dsimp only at hb
  rw[h5,← Array.foldl_toList]at hb
  rcases FE _ _ _ _ hb with hb|⟨e,he,hbb,hh⟩
  ·simp at hb
  ·exact⟨e,Array.mem_toList_iff.1 he,hbb,hh⟩
 have hmem:∀x,x∈L0++h1::g1::r1↔x<os.length:=fun x=>by
  constructor
  ·intro hx;exact of_decide_eq_true (zm.1 hlt x hx)
  ·intro hx
   have:=zm.1 hct x (List.mem_range.2 hx)
   simpa using this
 have hse:=Region.noSelect_spec hsel
 have P2:∀ {l:List Nat},Oc (Gv os.toArray ks (Region.before os.toArray).toList) l=true→l.Pairwise (CR .any os.toArray (fun i=>ks.getD i 0) (fun j=>(Region.before os.toArray).toList.getD j 0)):=fun h=>FF (fun x y hh=>E9 hh) h
 have N2:∀ {l:List Nat},Oc (fun x y=>!(decide (4≤ks.getD x 0)) || ks.getD y 0 != 1) l=true→l.Pairwise (fun x y=>4≤ks.getD x 0→ks.getD y 0≠1):=fun h=>FF (fun x y hxy h4=>by
  rcases Bool.or_eq_true_iff.1 hxy with hh|hh
  ·simp only[Bool.not_eq_true',decide_eq_false_iff_not]at hh;exact absurd h4 hh
  ·simpa using hh) h
 have hL2:∀x∈L0,ks.getD x 0≤2:=fun x hx=>of_decide_eq_true (zm.1 hl x hx)
 have hx4:∀x∈L0,_:=fun x hx=>zm.1 hpx x hx
 simp only[z7]at hx4
 have hordP:(L0++h1::g1::r1).Pairwise (fun x y=>∀ox,os.toArray[x]? = some ox→∀e∈ox.after,Region.binds .any e=true→e.on≠y):=FF (fun x y hh ox hox e he hb=>by
  unfold QW at hh
  rw[hox]at hh
  have:=(Array.all_eq_true_iff_forall_mem.1 hh) e he
  simpa [hb]using this) hord
 have hord2:(L0++g1::r1).Pairwise (fun x y=>∀ox,os.toArray[x]? = some ox→∀e∈ox.after,Region.binds .any e=true→e.on≠y):=hordP.sublist (List.Sublist.append_left (List.sublist_cons_self _ _) _)
 have zz1:∀z∈g1::r1,z=h2∨((Region.before os.toArray).toList.getD z 0).testBit h1=true∨((Region.before os.toArray).toList.getD z 0).testBit h2=true:=fun z hz=>by
  have:=zm.1 hz1 z hz
  simpa only[Bool.or_eq_true,decide_eq_true_eq]using this
 have zz2:∀z∈r1,z=g2∨((Region.before os.toArray).toList.getD z 0).testBit g1=true∨((Region.before os.toArray).toList.getD z 0).testBit g2=true:=fun z hz=>by
  have:=zm.1 hz2 z hz
  simpa only[Bool.or_eq_true,decide_eq_true_eq]using this
 have base1:=Lm (P:=P) (w0:=w.drew) (Q:=fun a w=>Q .normal a w) hse hS hlex (P2 hb1)<|N2 hn1
 have base2:=Lm (P:=P) (w0:=w.drew) (Q:=fun a w=>Q .normal a w) hse hS hlex (P2 hb2)<|N2 hn2
 have base3:=Lm (P:=P) (w0:=w.drew) (Q:=fun a w=>Q .normal a w) hse hS hlex (P2 hb3)<|N2 hn3
 have inner:=JY (P:=P) (w0:=w.drew) (Q:=fun a w=>Q .normal a w) hse hS hlex (h1:=g1) (h2:=g2) (S1:=r1) (S2:=r2) (List.isPerm_iff.1 hpe2) hk3 hk4 hL2 (P2 hpL) (fun x hx=>E9 (hx4 x hx).2.2.1) (fun x hx=>E9 (hx4 x hx).2.2.2) zz2 hord2 base1 base2
 have outer:=JY (P:=P) (w0:=w.drew) (Q:=fun a w=>Q .normal a w) hse hS hlex (h1:=h1) (h2:=h2) (S1:=g1::r1) (S2:=r3) (List.isPerm_iff.1 hpe1) hk1 hk2 hL2 (P2 hpL) (fun x hx=>E9 (hx4 x hx).1) (fun x hx=>E9 (hx4 x hx).2.1) zz1 hordP inner base3
 have key:=outer os.length L0 (Array.replicate os.length false) a w.drew ⟨List.Sublist.refl _,by rw[← hln,z4],fun x=>?_,by simp,?_,fun _=>AD.refl _,hnd⟩ ?_
 ·have:=GV _ _ _ _ key
  simpa using this
 ·rw[hmem]
  constructor
  ·intro hx;simp[hx]
  ·intro hh
   rcases Nat.lt_or_ge x os.length with h'|h'
   ·exact h'
   ·simp[Array.getElem?_eq_none (show(Array.replicate os.length false).size≤x by simpa using h')]at hh
 ·intro i hi
  rcases Nat.lt_or_ge i os.length with h'|h'
  ·simp[h']at hi
  ·simp[Array.getElem?_eq_none (show(Array.replicate os.length false).size≤i by simpa using h')]at hi
 ·refine DK (fun a w hh=>⟨?_,?_⟩) _ _ _ _ _ hML h
  ·exact DK (fun a w hh=>⟨Ns _ _ _ _<|DK (fun _ _ h=>h) _ _ _ _ _ hM1 hh.1,Ns _ _ _ _<|DK (fun _ _ h=>h) _ _ _ _ _ hM2 hh.2⟩) _ _ _ _ _ hMh hh.1
  ·exact Ns _ _ _ _<|DK (fun _ _ h=>h) _ _ _ _ _ hM3 hh.2
theorem fV {ops:Array Oper}{w0:World}{Q:Act→World→Prop}{o:Oper}{os:List Oper}{ks:List Nat}{a:Act}{w:World}(h:_root_.Go.Proofs.YtemfgblmfahllaaGreat.LW P ops w0 (fun a' w'=>AD w w'∧LW P ops w0 Q os ks a' w') [o] [4] a w):LW P ops w0 Q (o::os) (3::ks) a w:=by
 simp only[_root_.Go.Proofs.YtemfgblmfahllaaGreat.LW]at h
 simp only[LW]
 split
 ·rename_i hw
  rw[if_pos hw]at h
  unfold _root_.Go.Proofs.YtemfgblmfahllaaGreat.BT at h
  unfold BT
  rw[if_neg (by decide),if_neg (by decide)]at h
  rw[if_neg (by decide),if_pos rfl]
  exact h
 ·rename_i hw
  rw[if_neg hw]at h
  exact h.2
theorem eY {ops:Array Oper}{w0:World}{Q:Act→World→Prop}{o:Oper}{os:List Oper}{ks:List Nat}{a:Act}{w:World}(h:_root_.Go.Proofs.YtemfgblmfahllaaGreat.LW P ops w0 (fun a' w'=>LW P ops w0 Q os ks a' w') [o] [3] a w):LW P ops w0 Q (o::os) (3::ks) a w:=by
 simp only[_root_.Go.Proofs.YtemfgblmfahllaaGreat.LW]at h
 simp only[LW]
 split
 ·rename_i hw
  rw[if_pos hw]at h
  unfold _root_.Go.Proofs.YtemfgblmfahllaaGreat.BT at h
  unfold BT
  rw[if_neg (by decide),if_pos rfl]at h
  rw[if_neg (by decide),if_pos rfl]
  exact Oper.wp_mono (fun a w hh=>⟨J.ext hh.1,hh.2⟩) h
 ·rename_i hw
  rw[if_neg hw]at h
  exact h
end
end Jx
end
section
structure Am where
 op:Int
 a:Int
 b:Int
 num:Int
def Am.zero:Am:=⟨0,0,0,0⟩
structure Bt where
 reg:Int
 z:Bool
def Bt.zero:Bt:=⟨0,false⟩
structure Tp where
 code:List Am
 grd:List Bt
 vals:List Int
def Mf (x:Am):List Value:=[.int .i64 x.op,.int .i64 x.a,.int .i64 x.b,.int .i64 x.num]
def QX (x:Bt):List Value:=[.int .i64 x.reg,.bool x.z]
def GE (x:Am):Prop:=Bd x.op∧Bd x.a∧Bd x.b∧Bd x.num
def Gs:Cb Am:=fun _ cs x F=>cs=Mf x∧GE x∧F=[]
def FV:Cb Bt:=fun _ cs x F=>cs=QX x∧Bd x.reg∧F=[]
theorem Ap:CJ 4 Gs where
 len:=fun h=>by rw[h.1];rfl
 one:=fun h u hu=>by
  rw[h.1]at hu
  simp only[Mf,ze,z2,or_false]at hu
  rcases hu with rfl|rfl|rfl|rfl <;> exact⟨rfl,rfl⟩
 lt:=fun h b hb=>by rw[h.2.2]at hb;cases hb
 stable:=fun h _=>h
theorem As:CJ 2 FV where
 len:=fun h=>by rw[h.1];rfl
 one:=fun h u hu=>by
  rw[h.1]at hu
  simp only[QX,ze,z2,or_false]at hu
  rcases hu with rfl|rfl <;> exact⟨rfl,rfl⟩
 lt:=fun h b hb=>by rw[h.2.2]at hb;cases hb
 stable:=fun h _=>h
theorem DP {B U:Nat}{H:Array Obj}{x:Am}(h:GE x):RQ Gs B U H (Mf x) x:=⟨[],⟨rfl,h,rfl⟩,zk,fun b hb=>by cases hb⟩
theorem PF {B U:Nat}{H:Array Obj}{x:Bt}(h:Bd x.reg):RQ FV B U H (QX x) x:=⟨[],⟨rfl,h,rfl⟩,zk,fun b hb=>by cases hb⟩
section ops
variable {P:Program} {ops:Array Oper} {w0:World} {Q:Act→World→Prop} {os:List Oper} {ks:List Nat} {N:Nat} {ρ:Nat→Value} {w:World}
 {d:Nat} {ty:TypeId} {pos:String} {aft:Array Edge} {g:Option (Nat×Bool)} {t e:TypeId} {z:Value} {b s:Nat}
theorem Nt {α:Type}{E:Cb α}(hE:CJ s E){x y:Operand}{v a:Value}{xs:List α}{y0:α}{B T B' U':Nat}{F:List Nat}(ht:P.underlying t=some (.slice e))(hi:TI P e s z b)(hz:z.cells.size=s)(hs:0<s)(hx:Br N ρ x=v)(hy:Br N ρ y=a)(hv:Ow (DB s E e) B T w.heap v xs F)
  (ha:Fr (DB s E e) B' U' w.heap a [y0]) (hT:T≤B') (hB:B≤B') (hBw:B≤w.heap.size) (hbytes:(xs.length+1)*b≤140737488355328) (hmx:xs.length+1≤maxLen) (hu:Up ops N ρ ⟨some d,.call ⟨.builtin .append,#[x,y],#[t,t]⟩,ty,pos,aft,g⟩)
  (h:∀v1 w1 F1,AB F w w1→Ow (DB s E e) B w1.heap.size w1.heap v1 (xs++[y0]) F1→(∀c∈F1,c∈F∨(B'≤c∧c<U')∨w.heap.size≤c)→LW P ops w0 Q os ks (mk N (CI ρ d v1)) w1) :
  LW P ops w0 Q (⟨some d,.call ⟨.builtin .append,#[x,y],#[t,t]⟩,ty,pos,aft,g⟩::os) (4::ks) (mk N ρ) w:=by
 obtain⟨v1,w1,F0,r1,⟨F1,r2,r3,r4⟩,r5,r6⟩:=L9 (P:=P) (ty:=ty) hE ht hi hz hs (S:=fun b=>b∈F) (T:=fun b=>B'≤b∧b<U') ⟨F,hv.own,hv.nodup,fun _ h=>h⟩ ha (fun b h1 h2=>by have:=hv.high b h1;omega) hbytes hmx
 have hh:∀c∈F1,c∈F∨(B'≤c∧c<U')∨w.heap.size≤c:=fun c hc=>by
  rcases r4 c hc with h|h|h
  ·exact .inl h
  ·exact .inr<|.inl h
  ·exact .inr<|.inr<|Nat.le_of_eq h.symm
 exact Ku rfl hu v1 w1 (by simp only[execOp,resolve,invoke,builtin,zc,zf,zh,Sem.run_bind,Sem.run_pure,Result.andThen_ok,hx,hy,r1])
  (h v1 w1 F1 (r5.sub r6) ⟨r2,r3,fun c hc=>by
   rcases hh c hc with h|h|h
   ·exact hv.low c h
   ·omega
   ·omega,fun c hc=>(An hE).lt r2 c hc⟩ hh)
theorem Ln {x y:Operand}{v a:Value}{xs ys:List Int}{B T:Nat}{F:List Nat}(ht:P.underlying t=some (.slice e))(hi:TI P e 1 z b)(hz:z.cells=#[z])(hx:Br N ρ x=v)(hy:Br N ρ y=a)(hv:Ow (BD rI e) B T w.heap v xs F)
  (ha:Rd (Bl rI) w.heap a ys) (hB:B≤w.heap.size) (hbytes:(xs.length+ys.length)*b≤140737488355328) (hmx:xs.length+ys.length≤maxLen) (hu:Up ops N ρ ⟨some d,.call ⟨.builtin .append,#[x,y],#[t,t]⟩,ty,pos,aft,g⟩)
  (h:∀v1 w1 F1,AB F w w1→Ow (BD rI e) B w1.heap.size w1.heap v1 (xs++ys) F1→(∀c∈F1,c∈F∨w.heap.size≤c)→LW P ops w0 Q os ks (mk N (CI ρ d v1)) w1) :
  LW P ops w0 Q (⟨some d,.call ⟨.builtin .append,#[x,y],#[t,t]⟩,ty,pos,aft,g⟩::os) (4::ks) (mk N ρ) w:=by
 obtain⟨G,g1⟩:=ha
 have hG:G.drop 1=[]:=by
  rcases g1 with⟨_,_,_,_,rfl⟩|⟨us,g,off,cap,cur,e',fr,G',hels,_,_,_,_,rfl⟩
  ·rfl
  ·exact GZ hels
 obtain⟨v',w',F',r1,r2,r3,r4,r5⟩:=I7 (P:=P) (ty:=ty) AN ht hi hz hv.own hv.nodup g1 rfl hbytes hmx (fun c hc=>by rw[hG]at hc;cases hc) (by rw[hG];exact zk)
 have hh:∀c∈F',c∈F∨w.heap.size≤c:=fun c hc=>by
  rcases r4 c hc with h|h|h
  ·exact .inl h
  ·rw[hG]at h;cases h
  ·exact .inr<|Nat.le_of_eq h.symm
 exact Ku rfl hu v' w' (by simp only[execOp,resolve,invoke,builtin,zc,zf,zh,Sem.run_bind,Sem.run_pure,Result.andThen_ok,hx,hy,r1])
  (h v' w' F' (r5.sub fun c hc=>zj hc) ⟨r2,r3,fun c hc=>by
   rcases hh c hc with h|h
   ·exact hv.low c h
   ·omega,fun c hc=>(Bc AN).lt r2 c hc⟩ hh)
theorem V9 {x y:Operand} {v a u:Value} {xs:List Int} {r:Int} {S:List Nat} {B' U':Nat} (ht:P.underlying t = some (.slice e)) (hi:TI P e 1 z b) (hz:z.cells = #[z]) (hx:Br N ρ x = Jm v) (hy:Br N ρ y = a)
  (hv:RN S (Bl rI) w.heap v xs) (ha:Fr (BD rV e) B' U' w.heap a [u]) (hr:RN S rI w.heap u r) (hS:∀ c∈S,c < w.heap.size) (hbytes:(xs.length + 1) * b≤140737488355328) (hmx:xs.length + 1≤maxLen)
  (hu:Up ops N ρ ⟨some d,.call ⟨.builtin .append,#[x,y],#[t,t]⟩,ty,pos,aft,g⟩)
  (h:∀ v1 w1,AD w w1→RN S (Bl rI) w1.heap v1 (xs++[r])→Dm v1→LW P ops w0 Q os ks (mk N (CI ρ d v1)) w1) :
  LW P ops w0 Q (⟨some d,.call ⟨.builtin .append,#[x,y],#[t,t]⟩,ty,pos,aft,g⟩ :: os) (4 :: ks) (mk N ρ) w:=by
 obtain ⟨G,g1',g2',g3'⟩:=ha
 obtain ⟨K,k1,k2⟩:=hv
 obtain ⟨R,r1,r2⟩:=hr
 obtain ⟨i,h1,h2,h3,h4⟩:=hi.get
 subst h4
 have hone:=AN.one r1
 rcases g1' with ⟨_,hc,_⟩ | ⟨asq,ga,capa,cura,Fa,helsa,hav,hga,qa1,qa2,qa3,qa4,rfl⟩
 ·cases hc
 ·obtain ⟨hq,hFa⟩:=H2 helsa
  subst hq
  subst hav
  have hnews:∀ j q,[u][j]? = some q→w.cell? ((⟨ga,0,none⟩:Addr).add j) = some q:=by
   intro j q hj
   rw [IL,Ci]
   simp only [Cn,hga]
   rw [← qa4,List.getElem?_take] at hj
   split at hj
   ·simpa using hj
   ·cases hj
  have made:∀ (w1:World) (ous:List Value) (K0:List Nat) (rest:Nat),w1.heap = w.heap→w1.os = w.os→w1.tape = w.tape→w1.output = w.output→els rI w.heap ous xs K0→(∀ c∈K0,c∈K)→xs.length + 1 + rest≤maxLen →
    AD w (w1.alloc (.cells (ous.toArray++[u].toArray++Builtin.zeroCells z.cells rest) e))∧RN S (Bl rI) (w1.alloc (.cells (ous.toArray++[u].toArray++Builtin.zeroCells z.cells rest) e)).heap (.slice (some ⟨w.heap.size,0,none⟩) (xs.length + 1) (xs.length + 1 + rest)) (xs++[r]):=by
   intro w1 ous K0 rest hh ho htp hop hou hsub hmax
   have hE:AD w (w1.alloc (.cells (ous.toArray++[u].toArray++Builtin.zeroCells z.cells rest) e)):=by
    refine ⟨ho,htp,hop,?_,fun k hk=>?_⟩
    ·show w.heap.size≤(w1.heap.push _).size
     rw [hh]; simp
    ·have:=Below.heap_alloc w1 (.cells (ous.toArray++[u].toArray++Builtin.zeroCells z.cells rest) e) k (by rw [hh]; exact hk)
     rw [this,hh]
   refine ⟨hE,w.heap.size :: (K0++R),.inr ⟨ous++[u],w.heap.size,0,xs.length + 1 + rest,(ous.toArray++[u].toArray++Builtin.zeroCells z.cells rest),e,(0,0),K0++R,?_,by simp,?_,?_,by simp; omega,rfl⟩,?_⟩
   ·refine els.stable AN (hou.append (show els rI w.heap [u] [r] R from ⟨R,[],by simp,r1,rfl⟩)) fun c hc=>hE.heap ?_
    exact (hou.append (show els rI w.heap [u] [r] R from ⟨R,[],by simp,r1,rfl⟩)).lt AN c hc
   ·have:=heap_alloc_new w1 (.cells (ous.toArray++[u].toArray++Builtin.zeroCells z.cells rest) e)
    rw [hh] at this; exact this
   ·have hl:=hou.length
    simp only [Array.toList_append,List.drop_zero]
    rw [show (xs++[r]).length = (ous++[u]).length from by simp [hl]]
    exact List.take_left
   ·intro c hc hm
    rcases ze.1 hc with rfl | hc
    ·have:=hS _ hm; omega
    ·rcases zi.1 hc with hc | hc
     ·exact k2 c (hsub c hc) hm
     ·exact r2 c hc hm
  have hone1:[u].length = [u].length * i.size:=by rw [h3,Nat.mul_one]
  rcases k1 with ⟨a0,cap0,rfl,rfl,rfl⟩ | ⟨ous,gv,off,cap,cur,e',fr,K',hels,rfl,hg,hw,_,rfl⟩
  ·-- nothing so far
   cases a0 with
   | none =>
    have hrr:=run_append_nil (P:=P) w t ty e i z ht h1 h2 ⟨ga,0,none⟩ 1 capa [u] hone1 hnews (by decide) (by decide) (by simp at hbytes; omega)
    have hge:=grownCap_ge w 1 0 e
    have hgm:=grownCap_le_maxLen w 1 0 e (by simpa using hmx)
    obtain ⟨q1,q2⟩:=made w.drew [] [] (grownCap w 1 0 e - 1) rfl rfl rfl rfl rfl (fun c hc=>by cases hc) (by simp; omega)
    refine Ku rfl hu _ _ (by simp only [execOp,resolve,invoke,builtin,zc,zf,zh,Sem.run_bind,Sem.run_pure,Result.andThen_ok,hx,hy,Jm]; rw [show [u].length = 1 from rfl,hrr]; rfl)<|h _ _ ?_ ?_ ?_
    ·simpa using q1
    ·have ea:(([]:List Int).length + 1 + (grownCap w 1 0 e - 1)) = grownCap w 1 0 e:=by simp; omega
     rw [ea] at q2
     simpa using q2
    ·exact hge
   | some a1 =>
    have hrr:=run_append_grow (P:=P) w t ty e i z ht h1 h2 a1 0 0 [] (by rw [h3]; rfl) (by intro j q hj; cases hj) ⟨ga,0,none⟩ 1 capa [u] hone1 hnews zO (by decide)<|growslice_fits zO (by simpa using hbytes)
    have hge:=grownCap_ge w (0 + 1) 0 e
    have hgm:=grownCap_le_maxLen w (0 + 1) 0 e (by simpa using hmx)
    obtain ⟨q1,q2⟩:=made w.drew [] [] (grownCap w (0 + 1) 0 e - (0 + 1)) rfl rfl rfl rfl rfl (fun c hc=>by cases hc) (by show 0 + 1 + (grownCap w (0 + 1) 0 e - (0 + 1))≤maxLen; omega)
    refine Ku rfl hu _ _ (by simp only [execOp,resolve,invoke,builtin,zc,zf,zh,Sem.run_bind,Sem.run_pure,Result.andThen_ok,hx,hy,Jm]; rw [show [u].length = 1 from rfl,hrr]; rfl)<|h _ _ q1 ?_ ?_
    rotate_left
    ·exact hge
    have ea:(([]:List Int).length + 1 + (grownCap w (0 + 1) 0 e - (0 + 1))) = grownCap w (0 + 1) 0 e:=by show 0 + 1 + (grownCap w (0 + 1) 0 e - (0 + 1)) = _; omega
    rw [ea] at q2
    simpa using q2
  ·have holds:∀ j q,ous[j]? = some q→w.cell? ((⟨gv,off,none⟩:Addr).add j) = some q:=by
    intro j q hj
    rw [IL,Ci]
    simp only [Cn,hg]
    rw [← hw,List.getElem?_take] at hj
    split at hj
    ·rw [List.getElem?_drop] at hj; simpa using hj
    ·cases hj
   have hrr:=run_append_grow (P:=P) w t ty e i z ht h1 h2 ⟨gv,off,none⟩ xs.length xs.length ous (by rw [h3,hels.length]; omega) holds ⟨ga,0,none⟩ 1 capa [u] hone1 hnews zO (by simp only [maxLen] at hmx; omega)<|growslice_fits zO hbytes
   have hge:=grownCap_ge w (xs.length + 1) xs.length e
   have hgm:=grownCap_le_maxLen w (xs.length + 1) xs.length e hmx
   obtain ⟨q1,q2⟩:=made w.drew ous K' (grownCap w (xs.length + 1) xs.length e - (xs.length + 1)) rfl rfl rfl rfl hels (fun c hc=>z3 _ hc) zO
   refine Ku rfl hu _ _ (by simp only [execOp,resolve,invoke,builtin,zc,zf,zh,Sem.run_bind,Sem.run_pure,Result.andThen_ok,hx,hy,Jm]; rw [show [u].length = 1 from rfl,hrr]; rfl)<|h _ _ q1 ?_ ?_
   rotate_left
   ·exact hge
   have ea:(xs.length + 1 + (grownCap w (xs.length + 1) xs.length e - (xs.length + 1))) = grownCap w (xs.length + 1) xs.length e:=by omega
   rw [ea] at q2
   exact q2
end ops
def CL (t1 t2 t3:TypeId)(S:List Nat)(g:Nat)(H:Array Obj)(vc vg vv:Value)(T:Tp):Prop :=
 ∃Fc Fg Fv,Ow (DB 4 Gs t1) 0 H.size H vc T.code Fc∧Ow (DB 2 FV t2) 0 H.size H vg T.grd Fg∧Ow (BD rI t3) 0 H.size H vv T.vals Fv ∧
  ((∀b∈Fc,b∉Fg)∧(∀b∈Fc,b∉Fv)∧(∀b∈Fg,b∉Fv))∧(g∉Fc∧g∉Fg∧g∉Fv)∧(∀b∈Fc,b∈S)∧(∀b∈Fg,b∈S)∧(∀b∈Fv,b∈S)
section rcm
variable {t1 t2 t3:TypeId} {S S':List Nat} {g:Nat} {w w':World} {vc vg vv:Value} {T:Tp}
theorem Ow.chgS {α:Type}{E:Bs α}(hE:BZ E){B:Nat}{v:Value}{x:α}{F G:List Nat}(h:Ow E B w.heap.size w.heap v x F)(c:AB G w w')(hG:∀b∈G,b∉F):Ow E B w'.heap.size w'.heap v x F:=(h.keep hE c hG).up c.size
theorem CL.ext (h:CL t1 t2 t3 S g w.heap vc vg vv T)(k:AD w w'):CL t1 t2 t3 S g w'.heap vc vg vv T:=by
 obtain⟨Fc,Fg,Fv,h1,h2,h3,h4⟩:=h
 exact⟨Fc,Fg,Fv,(h1.ext (An Ap) k).up k.size,(h2.ext (An As) k).up k.size,(h3.ext (Bc AN) k).up k.size,h4⟩
theorem CL.chg (h:CL t1 t2 t3 S g w.heap vc vg vv T)(k:AB [g] w w'):CL t1 t2 t3 S g w'.heap vc vg vv T:=by
 obtain⟨Fc,Fg,Fv,h1,h2,h3,h4,h5,h6⟩:=h
 exact⟨Fc,Fg,Fv,h1.chgS (An Ap) k fun b hb hm=>by rw[Ab hb]at hm;exact h5.1 hm,h2.chgS (An As) k fun b hb hm=>by rw[Ab hb]at hm;exact h5.2.1 hm,
  h3.chgS (Bc AN) k fun b hb hm=>by rw[Ab hb]at hm;exact h5.2.2 hm,h4,h5,h6⟩
theorem CL.chgO {F:List Nat}(h:CL t1 t2 t3 S g w.heap vc vg vv T)(k:AB F w w')(hF:∀b∈F,b∉S):CL t1 t2 t3 S g w'.heap vc vg vv T:=by
 obtain⟨Fc,Fg,Fv,h1,h2,h3,h4,h5,h6⟩:=h
 exact⟨Fc,Fg,Fv,h1.chgS (An Ap) k fun b hb hm=>hF b hb (h6.1 b hm),h2.chgS (An As) k fun b hb hm=>hF b hb (h6.2.1 b hm),
  h3.chgS (Bc AN) k fun b hb hm=>hF b hb (h6.2.2 b hm),h4,h5,h6⟩
theorem CL.rdv (h:CL t1 t2 t3 S g w.heap vc vg vv T):Rd (Bl rI) w.heap vv T.vals:=by
 obtain⟨Fc,Fg,Fv,h1,h2,h3,_⟩:=h
 exact h3.fr.rd1
theorem CL.slv (h:CL t1 t2 t3 S g w.heap vc vg vv T):Fu vv T.vals.length:=by
 obtain⟨Fc,Fg,Fv,h1,h2,h3,_⟩:=h
 exact h3.fr.isSl
theorem CL.slc (h:CL t1 t2 t3 S g w.heap vc vg vv T):Fu vc T.code.length:=by
 obtain⟨Fc,Fg,Fv,h1,h2,h3,_⟩:=h
 exact h1.own.isSl
theorem CL.slg (h:CL t1 t2 t3 S g w.heap vc vg vv T):Fu vg T.grd.length:=by
 obtain⟨Fc,Fg,Fv,h1,h2,h3,_⟩:=h
 exact h2.own.isSl
end rcm
def Sc (t1 t2 t3:TypeId)(S:List Nat)(g:Nat)(H:Array Obj)(vp:Value)(ip:Int)(T:Tp)(s:Nat)(c:Int):Prop :=
 ∃vc vg vv,BX H g [vp,.int .i64 ip,vc,vg,.slice none 0 0,vv,.int .i64 ((s:Nat):Int),.int .i64 c]∧CL t1 t2 t3 S g H vc vg vv T
theorem RN.stp {α:Type}{E:Bs α}(hE:BZ E){S S':List Nat}{w w':World}{v:Value}{x:α}(h:RN S E w.heap v x)(c:AB S w w')(hs:∀b∈S',b∈S∨w.heap.size≤b):RN S' E w'.heap v x:=by
 obtain⟨F,h1,h2⟩:=h
 refine⟨F,hE.stable h1 fun b hb=>c.block b (hE.lt h1 b hb) (h2 b hb),fun b hb hm=>?_⟩
 rcases hs b hm with hh|hh
 ·exact h2 b hb hh
 ·have:=hE.lt h1 b hb;omega
theorem AB.stp {S S':List Nat}{a b c:World}(h:AB S a b)(k:AB S' b c)(hs:∀x∈S',x∈S∨a.heap.size≤x):AB S a c :=
 ⟨k.os.trans h.os,k.tape.trans h.tape,k.output.trans h.output,Aa h.size k.size,fun i hi hm=>(k.block i (Nat.lt_of_lt_of_le hi h.size) fun hh=>by
  rcases hs i hh with h9|h9
  ·exact hm h9
  ·omega).trans (h.block i hi hm)⟩
theorem PG {S S' S'':List Nat}{n m:Nat}(h:∀b∈S',b∈S∨n≤b)(k:∀b∈S'',b∈S'∨m≤b)(hn:n≤m):∀b∈S'',b∈S∨n≤b:=fun b hb=>by
 rcases k b hb with hh|hh
 ·exact h b hh
 ·exact .inr zO
end
section
def Tp.put (T:Tp)(c:Am)(v:Int):Tp:=⟨T.code++[c],T.grd,T.vals++[v]⟩
def Tp.guard (T:Tp)(r:Int)(z:Bool):Tp:=⟨T.code,T.grd++[⟨r,z⟩],T.vals⟩
def Tp.at (T:Tp)(r:Int):Int:=T.vals.getD r.toNat 0
abbrev RI:=Int×Tp
abbrev RL:=List Int×Tp
structure Cg where
 one:Nat→Nat→List Int→Nat→Tp→Rs RI
 all:Nat→List Int→Nat→Tp→Rs RL
def IR (f:List Int→Nat→Tp→Rs RL):Nat→List Int→Nat→Tp→Rs RL
 |0,a,s,T=>.ok (a,T) s
 |k+1,a,s,T=>(IR f k a s T).bind fun x t=>f x.1 t x.2
def CX (k x y:Int):Int:=if k=3 then md (x+y)else if k=4 then md (x-y)else if k=5 then md (x*y)else if k=7 then md (0-x)else md (x*inv y)
def JZ (k:Int)(xs:List Int):Am:=⟨k,xs.getD 0 0,if k=7 then 0 else xs.getD 1 0,0⟩
def Tb (k:Int)(xs:List Int)(t:Nat)(T:Tp):Rs RI :=
 if k≠3∧k≠4∧k≠5∧k≠7∧T.at (JZ k xs).b=0 then .err 6
 else .ok (((T.vals.length:Nat):Int),T.put (JZ k xs) (CX k (T.at (JZ k xs).a) (T.at (JZ k xs).b))) t
mutual
def Hr (C:Cg):Ex→List Int→Nat→Tp→Rs RI
 |.mk k num pick cnt l,env,s,T =>
  if 3000≤s then .err 7
  else if k=1 then .ok (((T.vals.length:Nat):Int),T.put ⟨2,0,0,num⟩ num) (s+1)
  else if k=2 then .ok (env.getD num.toNat 0,T) (s+1)
  else if k=8 then(PH C l 0 env (s+1) T).bind fun x t=>if x.2.at x.1=0 then PH C l 1 env t (x.2.guard x.1 true)else PH C l 2 env t (x.2.guard x.1 false)
  else if k=9 then(PH C l 0 env (s+1) T).bind fun x t=>PH C l 1 (env++[x.1]) t x.2
  else(Id C l env (s+1) T).bind fun xs t =>
   if k=10 then C.one num.toNat pick.toNat xs.1 t xs.2
   else if k=11 then(IR (C.all num.toNat) cnt.toNat xs.1 t xs.2).bind fun ys u=>.ok (ys.1.getD pick.toNat 0,ys.2) u
   else Tb k xs.1 t xs.2
def PH (C:Cg):List Ex→Nat→List Int→Nat→Tp→Rs RI
 |[],_,_,_,_=>.err 0
 |e::_,0,env,s,T=>Hr C e env s T
 |_::l,j+1,env,s,T=>PH C l j env s T
def Id (C:Cg):List Ex→List Int→Nat→Tp→Rs RL
 |[],_,s,T=>.ok ([],T) s
 |e::l,env,s,T=>(Hr C e env s T).bind fun x t=>(Id C l env t x.2).bind fun xs u=>.ok (x.1::xs.1,xs.2) u
end
theorem FM (C:Cg)(env:List Int)(s:Nat)(T:Tp):∀(l:List Ex)(j:Nat),j<l.length→PH C l j env s T=Hr C (l.getD j Ex.zero) env s T
 |[],j,h=>by simp at h
 |e::l,0,_=>by rw[PH];rfl
 |e::l,j+1,h=>by rw[PH,FM C env s T l j (by simpa using h)];simp
theorem OI (C:Cg)(env:List Int)(e:Ex):∀(l:List Ex)(s:Nat)(T:Tp),Id C (l++[e]) env s T=(Id C l env s T).bind fun xs t=>(Hr C e env t xs.2).bind fun x u=>.ok (xs.1++[x.1],x.2) u
 |[],s,T=>by
  rw[zl,Id,Id]
  simp only[Rs.bind_ok]
  cases Hr C e env s T <;> simp only[Rs.bind_ok,Rs.bind_err,Id] <;> rfl
 |a::l,s,T=>by
  rw[List.cons_append,Id,Id]
  cases Hr C a env s T with
  |err c=>rfl
  |ok x t =>
   simp only[Rs.bind_ok]
   rw[OI C env e l t]
   simp only[Rs.bind_assoc]
   cases Id C l env t x.2 with
   |err c=>rfl
   |ok xs u =>
    simp only[Rs.bind_ok]
    cases Hr C e env u xs.2 <;> rfl
theorem Tc {C:Cg}{env:List Int}{s:Nat}{T:Tp}{l:List Ex}{k:Nat}(hk:k<l.length):Id C (l.take (k+1)) env s T=(Id C (l.take k) env s T).bind fun xs t=>(Hr C (l.getD k Ex.zero) env t xs.2).bind fun x u=>.ok (xs.1++[x.1],x.2) u:=by
 rw[List.take_succ_eq_append_getElem hk,OI]
 simp[hk]
theorem H6 (C:Cg)(e:Ex)(env:List Int)(s:Nat)(T:Tp):Hr C e env s T =
  if 3000≤s then .err 7
  else if e.kind=1 then .ok (((T.vals.length:Nat):Int),T.put ⟨2,0,0,e.num⟩ e.num) (s+1)
  else if e.kind=2 then .ok (env.getD e.num.toNat 0,T) (s+1)
  else if e.kind=8 then(PH C e.kids 0 env (s+1) T).bind fun x t=>if x.2.at x.1=0 then PH C e.kids 1 env t (x.2.guard x.1 true)else PH C e.kids 2 env t (x.2.guard x.1 false)
  else if e.kind=9 then(PH C e.kids 0 env (s+1) T).bind fun x t=>PH C e.kids 1 (env++[x.1]) t x.2
  else(Id C e.kids env (s+1) T).bind fun xs t =>
   if e.kind=10 then C.one e.num.toNat e.pick.toNat xs.1 t xs.2
   else if e.kind=11 then(IR (C.all e.num.toNat) e.count.toNat xs.1 t xs.2).bind fun ys u=>.ok (ys.1.getD e.pick.toNat 0,ys.2) u
   else Tb e.kind xs.1 t xs.2:=by cases e;rw[Hr];rfl
def Kx (p:List Fn):Nat→Cg
 |0=>⟨fun _ _ _ _ _=>.err 0,fun _ _ _ _=>.err 0⟩
 |k+1=>⟨fun f j a s T=>if f=k then Hr (Kx p k) ((p.getD k Fn.zero).outs.getD j Ex.zero) a s T else(Kx p k).one f j a s T,
   fun f a s T=>if f=k then Id (Kx p k) (p.getD k Fn.zero).outs a s T else(Kx p k).all f a s T⟩
theorem QY {p:List Fn}{f j:Nat}{a:List Int}{s:Nat}{T:Tp}:∀ {F:Nat},f<F→(Kx p F).one f j a s T=Hr (Kx p f) ((p.getD f Fn.zero).outs.getD j Ex.zero) a s T
 |0,h=>by omega
 |F+1,h=>by
  show(if f=F then _ else _)=_
  split
  ·rename_i e;rw[e]
  ·exact QY zO
theorem Nu {p:List Fn}{f:Nat}{a:List Int}{s:Nat}{T:Tp}:∀ {F:Nat},f<F→(Kx p F).all f a s T=Id (Kx p f) (p.getD f Fn.zero).outs a s T
 |0,h=>by omega
 |F+1,h=>by
  show(if f=F then _ else _)=_
  split
  ·rename_i e;rw[e]
  ·exact Nu zO
section
variable {C:Cg} {e:Ex} {env:List Int} {s s1 s2:Nat} {c c1 c2:Int} {T T1 T2:Tp} {x y:Int} {xs ys:List Int}
theorem Va {α:Type}{r:Rs α}{x:α}(hc:c≠0):AY (go c r) x s c:=AY.mk_err (DF hc r) hc
theorem RY {x:RI}(hc:c=0)(hs:s=3000):AY (go c (Hr C e env s T)) x s1 7:=by
 subst hc;rw[CW,H6,if_pos (by omega)];exact AY.mk_err rfl (by decide)
theorem YM (hc:c=0)(hs:s+1≤3000)(hk:e.kind=1):AY (go c (Hr C e env s T)) (((T.vals.length:Nat):Int),T.put ⟨2,0,0,e.num⟩ e.num) (s+1) c:=by
 subst hc;rw[CW,H6,if_neg zO,if_pos hk];exact AY.mk_ok rfl
theorem YN (hc:c=0)(hs:s+1≤3000)(hk:e.kind=2):AY (go c (Hr C e env s T)) (env.getD e.num.toNat 0,T) (s+1) c:=by
 subst hc;rw[CW,H6,if_neg zO,if_neg zO,if_pos hk];exact AY.mk_ok rfl
theorem YO {z:RI}(hc:c=0)(hs:s+1≤3000)(hk:e.kind=8)(hl:e.kids.length=3)(h1:AY (go c (Hr C (e.kids.getD 0 Ex.zero) env (s+1) T)) (x,T1) s1 c1)(hc1:c1≠0):AY (go c (Hr C e env s T)) z s2 c1:=by
 subst hc
 rw[CW]at h1
 rw[CW,H6,if_neg zO,if_neg zO,if_neg zO,if_pos hk,FM _ _ _ _ _ _ zO,h1.bindE hc1]
 exact AY.mk_err rfl hc1
theorem YP (hc:c=0)(hs:s+1≤3000)(hk:e.kind=8)(hl:e.kids.length=3)(h1:AY (go c (Hr C (e.kids.getD 0 Ex.zero) env (s+1) T)) (x,T1) s1 c1)(hc1:c1=0)(hx:T1.at x=0)
  (h2:AY (go c1 (Hr C (e.kids.getD 1 Ex.zero) env s1 (T1.guard x (decide (T1.at x=0))))) (y,T2) s2 c2):AY (go c (Hr C e env s T)) (y,T2) s2 c2:=by
 subst hc;subst hc1
 rw[CW]at h1 h2
 rw[CW,H6,if_neg zO,if_neg zO,if_neg zO,if_pos hk,FM _ _ _ _ _ _ zO,h1.bindO]
 dsimp only
 rw[A7 hx]at h2
 rw[if_pos hx,FM _ _ _ _ _ _ (by omega)];exact h2
theorem YQ (hc:c=0)(hs:s+1≤3000)(hk:e.kind=8)(hl:e.kids.length=3)(h1:AY (go c (Hr C (e.kids.getD 0 Ex.zero) env (s+1) T)) (x,T1) s1 c1)(hc1:c1=0)(hx:¬T1.at x=0)
  (h2:AY (go c1 (Hr C (e.kids.getD 2 Ex.zero) env s1 (T1.guard x (decide (T1.at x=0))))) (y,T2) s2 c2):AY (go c (Hr C e env s T)) (y,T2) s2 c2:=by
 subst hc;subst hc1
 rw[CW]at h1 h2
 rw[CW,H6,if_neg zO,if_neg zO,if_neg zO,if_pos hk,FM _ _ _ _ _ _ zO,h1.bindO]
 dsimp only
 rw[A8 hx]at h2
 rw[if_neg hx,FM _ _ _ _ _ _ (by omega)];exact h2
theorem YS (hc:c=0)(hs:s+1≤3000)(hk:e.kind=9)(hl:e.kids.length=2)(h1:AY (go c (Hr C (e.kids.getD 0 Ex.zero) env (s+1) T)) (x,T1) s1 c1)
  (h2:AY (go c1 (Hr C (e.kids.getD 1 Ex.zero) (env++[x]) s1 T1)) (y,T2) s2 c2):AY (go c (Hr C e env s T)) (y,T2) s2 c2:=by
 subst hc
 rw[CW,H6,if_neg zO,if_neg zO,if_neg zO,if_neg zO,if_pos hk,FM _ _ _ _ _ _ (by omega)]
 rw[CW]at h1
 by_cases h0:c1=0
 ·subst h0;rw[h1.bindO,FM _ _ _ _ _ _ (by omega)];exact h2
 ·rw[h1.bindE h0];rw[DF h0]at h2;exact h2
theorem Jt (hs:s+1≤3000)(h1:e.kind≠1)(h2:e.kind≠2)(h8:e.kind≠8)(h9:e.kind≠9):Hr C e env s T=(Id C e.kids env (s+1) T).bind fun xs t =>
  if e.kind=10 then C.one e.num.toNat e.pick.toNat xs.1 t xs.2
   else if e.kind=11 then(IR (C.all e.num.toNat) e.count.toNat xs.1 t xs.2).bind fun ys u=>.ok (ys.1.getD e.pick.toNat 0,ys.2) u
   else Tb e.kind xs.1 t xs.2:=by
 rw[H6,if_neg zO,if_neg h1,if_neg h2,if_neg h8,if_neg h9]
theorem Td {z:RI}(hc:c=0)(hs:s+1≤3000)(h1:e.kind≠1)(h2:e.kind≠2)(h8:e.kind≠8)(h9:e.kind≠9)(hr:AY (go c (Id C e.kids env (s+1) T)) (xs,T1) s1 c1)(hc1:c1≠0):AY (go c (Hr C e env s T)) z s2 c1:=by
 subst hc
 rw[CW]at hr ⊢
 rw[Jt hs h1 h2 h8 h9,hr.bindE hc1];exact AY.mk_err rfl hc1
theorem Vb {p:List Fn}{F:Nat}(hc:c=0)(hs:s+1≤3000)(hk:e.kind=10)(hF:e.num.toNat<F)(hr:AY (go c (Id (Kx p F) e.kids env (s+1) T)) (xs,T1) s1 c1)(hc1:c1=0)
  (h2:AY (go c1 (Hr (Kx p e.num.toNat) ((p.getD e.num.toNat Fn.zero).outs.getD e.pick.toNat Ex.zero) xs s1 T1)) (y,T2) s2 c2):AY (go c (Hr (Kx p F) e env s T)) (y,T2) s2 c2:=by
 subst hc;subst hc1
 rw[CW]at hr h2 ⊢
 rw[Jt hs zO zO zO zO,hr.bindO,if_pos hk,QY hF];exact h2
theorem Vc {p:List Fn}{F:Nat}(hc:c=0)(hs:s+1≤3000)(hk:e.kind=11)(hF:e.num.toNat<F)(hr:AY (go c (Id (Kx p F) e.kids env (s+1) T)) (xs,T1) s1 c1)(hc1:c1=0)
  (h2:AY (IR (fun a t U=>Id (Kx p e.num.toNat) (p.getD e.num.toNat Fn.zero).outs a t U) e.count.toNat xs s1 T1) (ys,T2) s2 c2):AY (go c (Hr (Kx p F) e env s T)) (ys.getD e.pick.toNat 0,T2) s2 c2:=by
 subst hc;subst hc1
 rw[CW]at hr ⊢
 rw[Jt hs zO zO zO zO,hr.bindO,if_neg zO,if_pos hk]
 have hl:(Kx p F).all e.num.toNat=fun a t U=>Id (Kx p e.num.toNat) (p.getD e.num.toNat Fn.zero).outs a t U:=funext fun a=>funext fun t=>funext fun U=>Nu hF
 rw[hl]
 by_cases h0:c2=0
 ·subst h0;rw[h2.bindO];exact AY.mk_ok rfl
 ·rw[h2.bindE h0];exact AY.mk_err rfl h0
theorem aE {z:RI}(hc:c=0)(hs:s+1≤3000)(h1:e.kind≠1)(h2:e.kind≠2)(h8:e.kind≠8)(h9:e.kind≠9)(h10:e.kind≠10)(h11:e.kind≠11)(hr:AY (go c (Id C e.kids env (s+1) T)) (xs,T1) s1 c1)(hc1:c1=0)
  (h:AY (go c1 (Tb e.kind xs s1 T1)) z s2 c2):AY (go c (Hr C e env s T)) z s2 c2:=by
 subst hc;subst hc1
 rw[CW]at hr h ⊢
 rw[Jt hs h1 h2 h8 h9,hr.bindO,if_neg h10,if_neg h11];exact h
theorem Te (C:Cg)(l:List Ex)(env:List Int)(s:Nat)(T:Tp)(c:Int):AY (go c (Id C (l.take 0) env s T)) ([],T) s c:=by
 rw[List.take_zero,Id]
 by_cases h:c=0
 ·subst h;exact AY.mk_ok rfl
 ·exact AY.mk_err (DF h _) h
theorem Vd {l:List Ex}{k:Nat}(hk:k<l.length)(h:AY (go c (Id C (l.take k) env s T)) (xs,T1) s1 c1)(h2:AY (go c1 (Hr C (l.getD k Ex.zero) env s1 T1)) (x,T2) s2 c2) :
  AY (go c (Id C (l.take (k+1)) env s T)) (xs++[x],T2) s2 c2:=by
 by_cases hc:c=0
 ·subst hc
  rw[CW]at h ⊢
  rw[Tc hk]
  by_cases h0:c1=0
  ·subst h0
   rw[CW]at h2
   rw[h.bindO]
   by_cases h9:c2=0
   ·subst h9;rw[h2.bindO];exact AY.mk_ok rfl
   ·rw[h2.bindE h9];exact AY.mk_err rfl h9
  ·rw[h.bindE h0]
   rw[DF h0]at h2
   have:=h2.1
   exact AY.mk_err (by rw[this]) (this ▸ h0)
 ·rw[DF hc]at h ⊢
  have h3:=h.1
  subst h3
  rw[DF hc]at h2
  exact AY.mk_err (by rw[h2.1]) (h2.1 ▸ hc)
theorem YT {f:List Int→Nat→Tp→Rs RL}{k:Nat}(h:AY (IR f k xs s T) (ys,T1) s1 c1)(hc:c1=0){zsq:RL}(h2:AY (go c1 (f ys s1 T1)) zsq s2 c2):AY (IR f (k+1) xs s T) zsq s2 c2:=by
 subst hc
 show AY ((IR f k xs s T).bind _) _ _ _
 rw[h.bindO];rw[CW]at h2;exact h2
theorem OJ {f:List Int→Nat→Tp→Rs RL}{d:Int}:∀ {m k:Nat},IR f k xs s T=.err d→k≤m→IR f m xs s T=.err d
 |0,k,h,hk=>by
  have:k=0:=by omega
  subst this;exact h
 |m+1,k,h,hk=>by
  by_cases e:k=m+1
  ·subst e;exact h
  ·show(IR f m xs s T).bind _=_
   rw[OJ h (by omega)];rfl
theorem Ve {f:List Int→Nat→Tp→Rs RL}{k m:Nat}{zsq:RL}(h:AY (IR f k xs s T) zsq s1 c1)(hk:k≤m)(hs:k=m∨c1≠0):AY (IR f m xs s T) zsq s1 c1:=by
 by_cases hc:c1=0
 ·rcases hs with rfl|hh
  ·exact h
  ·exact absurd hc hh
 ·exact AY.mk_err (OJ (h.err hc) hk) hc
end
def K1 (T:Tp)(s:Nat):Prop:=T.code.length=T.vals.length∧T.vals.length≤12+s∧T.grd.length≤s∧Bj T.vals=true
theorem K1.put {T:Tp}{s:Nat}(h:K1 T s)(c:Am){v:Int}(hv:0≤v∧v<1000003):K1 (T.put c v) (s+1):=by
 obtain⟨h1,h2,h3,h4⟩:=h
 unfold Tp.put
 refine⟨by simp[h1],by simp;omega,by simp;omega,?_⟩
 unfold Bj at h4 ⊢
 rw[List.all_append,h4]
 simp[Cz.2 hv]
theorem K1.guard {T:Tp}{s:Nat}(h:K1 T s)(r:Int)(z:Bool)(hg:T.grd.length+1≤s):K1 (T.guard r z) s:=by
 obtain⟨h1,h2,h3,h4⟩:=h
 exact⟨h1,h2,by show(T.grd++[_]).length≤s;simp;omega,h4⟩
theorem K1.up {T:Tp}{s s':Nat}(h:K1 T s)(hs:s≤s'):K1 T s':=⟨h.1,by have:=h.2.1;omega,by have:=h.2.2.1;omega,h.2.2.2⟩
theorem K1.dn {T:Tp}{s s':Nat}(h:K1 T s)(hv:T.vals.length≤12+s')(hg:T.grd.length≤s'):K1 T s':=⟨h.1,hv,hg,h.2.2.2⟩
theorem K1.ln {T:Tp}{s:Nat}(h:K1 T s)(hs:s≤3000):T.code.length≤4000∧T.vals.length≤4000:=by have:=h.1;have:=h.2.1;omega
abbrev Cm (k b:Int):Prop:=k≠3∧k≠4∧k≠5∧k≠7∧b=0
section
variable {k a b:Int}
theorem Tf (h:k=3):(if Cm k b then 0 else CX k a b)=md (a+b)∧(!decide (Cm k b))=true:=by subst h;exact⟨rfl,rfl⟩
theorem Tg (h:k=4):(if Cm k b then 0 else CX k a b)=md (a-b)∧(!decide (Cm k b))=true:=by subst h;exact⟨rfl,rfl⟩
theorem Th (h:k=5):(if Cm k b then 0 else CX k a b)=md (a*b)∧(!decide (Cm k b))=true:=by subst h;exact⟨rfl,rfl⟩
theorem Ti (h:k=7):(if Cm k b then 0 else CX k a b)=md (0-a)∧(!decide (Cm k b))=true:=by subst h;exact⟨rfl,rfl⟩
theorem QZ (h:k≠3∧k≠4∧k≠5∧k≠7)(hb:b=0):(if Cm k b then 0 else CX k a b)=0∧(!decide (Cm k b))=false:=by
 have hz:Cm k b:=⟨h.1,h.2.1,h.2.2.1,h.2.2.2,hb⟩
 rw[if_pos hz,A7 hz];exact⟨rfl,rfl⟩
theorem Tj (h:k≠3∧k≠4∧k≠5∧k≠7)(hb:b≠0):(if Cm k b then 0 else CX k a b)=md (a*inv b)∧(!decide (Cm k b))=true:=by
 have hz:¬Cm k b:=fun h9=>hb h9.2.2.2.2
 rw[if_neg hz,A8 hz]
 refine⟨?_,rfl⟩
 unfold CX
 rw[if_neg h.1,if_neg h.2.1,if_neg h.2.2.1,if_neg h.2.2.2]
theorem KS (k a b:Int):0≤CX k a b∧CX k a b<1000003:=by unfold CX;split <;> (try split) <;> (try split) <;> (try split) <;> exact Cd _
end
theorem IS {k:Int}{xs:List Int}{T:Tp}{t:Nat}(h:¬Cm k (T.at (JZ k xs).b)):Tb k xs t T=.ok (((T.vals.length:Nat):Int),T.put (JZ k xs) (CX k (T.at (JZ k xs).a) (T.at (JZ k xs).b))) t:=if_neg h
theorem R0 {k:Int}{xs:List Int}{T:Tp}{t:Nat}(h:Cm k (T.at (JZ k xs).b)):Tb k xs t T=.err 6:=if_pos h
theorem aF {α:Type}{r:Rs α}{x:α}{s:Nat}{c c1:Int}(h:AY (go c r) x s c1)(h1:c1=0):c=0:=by
 by_cases hc:c=0
 ·exact hc
 ·rw[DF hc]at h
  have:=h.1
  omega
theorem R1 (k a b:Int):0≤(if Cm k b then 0 else CX k a b)∧(if Cm k b then 0 else CX k a b)<1000003:=by
 have:=KS k a b
 split <;> omega
theorem aG {Q:Prop} [Decidable Q] (h:(!(!decide Q))=true):Q:=by simpa using h
theorem eZ {Q:Prop} [Decidable Q] (h:(!(!decide Q))=false):¬Q:=by simpa using h
theorem H7 {k:Int}{xs:List Int}(h:k≠7):JZ k xs=⟨k,xs.getD 0 0,xs.getD 1 0,0⟩:=by unfold JZ;rw[if_neg h]
theorem Tk {k:Int}{xs:List Int}(h:k=7):JZ k xs=⟨k,xs.getD 0 0,0,0⟩:=by unfold JZ;rw[if_pos h]
theorem Vf {k c:Int}{xs:List Int}{T:Tp}{s s2:Nat}{z:RI}(hc:c=0)(h7:k≠7)(hz:Cm k (T.vals.getD (xs.getD 1 0).toNat 0)):AY (go c (Tb k xs s T)) z s2 6:=by
 subst hc
 rw[CW,R0 (by rw[H7 h7];exact hz)];exact AY.mk_err rfl (by decide)
theorem Vg {k c:Int}{xs:List Int}{T:Tp}{s:Nat}(hc:c=0)(h7:k≠7)(hz:¬Cm k (T.vals.getD (xs.getD 1 0).toNat 0)) :
  AY (go c (Tb k xs s T)) (((T.vals.length:Nat):Int),T.put ⟨k,xs.getD 0 0,xs.getD 1 0,0⟩ (if Cm k (T.vals.getD (xs.getD 1 0).toNat 0)then 0 else CX k (T.vals.getD (xs.getD 0 0).toNat 0) (T.vals.getD (xs.getD 1 0).toNat 0))) s c:=by
 subst hc
 rw[CW,IS (by rw[H7 h7];exact hz),H7 h7,if_neg hz];exact AY.mk_ok rfl
theorem Vh {k c:Int}{xs:List Int}{T:Tp}{s:Nat}{b:Int}(hc:c=0)(h7:k=7) :
  AY (go c (Tb k xs s T)) (((T.vals.length:Nat):Int),T.put ⟨k,xs.getD 0 0,0,0⟩ (if Cm k b then 0 else CX k (T.vals.getD (xs.getD 0 0).toNat 0) b)) s c:=by
 subst hc
 subst h7
 rw[CW,IS (fun h=>h.2.2.2.1 rfl),Tk rfl,if_neg (fun h:Cm 7 b=>h.2.2.2.1 rfl)];exact AY.mk_ok rfl
theorem Xe {k b:Int}(h:k=7):¬Cm k b:=fun h9=>h9.2.2.2.1 h
def IT (T:Tp)(env:List Int):Prop:=∀k,k<env.length→0≤env.getD k 0∧env.getD k 0<((T.vals.length:Nat):Int)
theorem IT.mono {T T':Tp}{env:List Int}(h:IT T env)(hl:T.vals.length≤T'.vals.length):IT T' env:=fun k hk=>by have:=h k hk;omega
theorem IT.snoc {T:Tp}{env:List Int}{r:Int}(h:IT T env)(hr:0≤r∧r<((T.vals.length:Nat):Int)):IT T (env++[r]):=fun k hk=>by
 rw[z4,zd]at hk
 rw[ZR]
 split
 ·exact hr
 ·exact h k zO
theorem IT.nil (T:Tp):IT T []:=fun k hk=>absurd hk (Nat.not_lt_zero k)
theorem E4 {Q:Nat→Prop}:∀b∈([]:List Nat),Q b:=fun b hb=>(by cases hb)
theorem AB.drewL {F:List Nat}{a b:World}(h:AB F a b):AB F a.drew b:=⟨h.os,h.tape,h.output,h.size,h.block⟩
def RZ {α:Type}(S:List Nat)(B:Nat)(E:Bs α)(H:Array Obj)(v:Value)(x:α):Prop:=∃F,E H v x F∧∀b∈F,b∉S∧B≤b
theorem RZ.rn {α:Type}{S:List Nat}{B:Nat}{E:Bs α}{H:Array Obj}{v:Value}{x:α}(h:RZ S B E H v x):RN S E H v x:=by
 obtain⟨F,h1,h2⟩:=h
 exact⟨F,h1,fun b hb=>(h2 b hb).1⟩
theorem RZ.upd {α:Type}{S F:List Nat}{B:Nat}{E:Bs α}(hE:BZ E){w w':World}{v:Value}{x:α}(h:RZ S B E w.heap v x)(c:AB F w w')(hF:∀b∈F,b∈S∨b<B):RZ S B E w'.heap v x:=by
 obtain⟨G,h1,h2⟩:=h
 refine⟨G,hE.stable h1 fun b hb=>c.block b (hE.lt h1 b hb) fun hm=>?_,h2⟩
 rcases hF b hm with hh|hh
 ·exact (h2 b hb).1 hh
 ·have:=(h2 b hb).2;omega
theorem RZ.of_ow {e:TypeId}{B T:Nat}{H:Array Obj}{v:Value}{xs:List Int}{F S:List Nat}(h:Ow (BD rI e) B T H v xs F)(hS:∀b∈F,b∉S):RZ S B (Bl rI) H v xs:=⟨F,h.own.rd id,fun b hb=>⟨hS b hb,h.low b hb⟩⟩
structure FW (S S':List Nat)(w w':World):Prop where
 sub:∀b∈S,b∈S'
 new:∀b∈S',b∈S∨w.heap.size≤b
 lt:∀b∈S',b<w'.heap.size
 chg:AB S w w'
section
variable {S S' S'':List Nat} {w w' w'':World} {g:Nat}
theorem FW.refl (h:∀b∈S,b<w.heap.size):FW S S w w:=⟨fun _ h=>h,fun _ h=>.inl h,h,AB.refl S w⟩
theorem FW.trans (h:FW S S' w w')(k:FW S' S'' w' w''):FW S S'' w w'' :=
 ⟨fun b hb=>k.sub b (h.sub b hb),PG h.new k.new h.chg.size,k.lt,h.chg.stp k.chg h.new⟩
theorem FW.ext (h:FW S S' w w')(k:AD w' w''):FW S S' w w'':=⟨h.sub,h.new,fun b hb=>Nat.lt_of_lt_of_le (h.lt b hb) k.size,h.chg.ext k⟩
theorem FW.drew (h:FW S S' w w'):FW S S' w w'.drew:=⟨h.sub,h.new,h.lt,h.chg.drew⟩
theorem FW.of_drew (h:FW S S' w.drew w'):FW S S' w w':=⟨h.sub,h.new,h.lt,h.chg.of_drew⟩
theorem FW.set (h:FW S S' w w')(hg:g∈S)(k:AB [g] w' w''):FW S S' w w'':=⟨h.sub,h.new,fun b hb=>Nat.lt_of_lt_of_le (h.lt b hb) k.size,h.chg.trans (k.sub (Bo hg))⟩
theorem FW.more {F:List Nat}(h:FW S S' w w')(k:AB F w' w'')(hF:∀b∈F,b∈S):FW S S' w w'':=⟨h.sub,h.new,fun b hb=>Nat.lt_of_lt_of_le (h.lt b hb) k.size,h.chg.trans (k.sub hF)⟩
theorem FW.fresh {F:List Nat}(h:FW S S' w w')(k:AB F w' w'')(hF:∀b∈F,w.heap.size≤b):FW S S' w w'':=⟨h.sub,h.new,fun b hb=>Nat.lt_of_lt_of_le (h.lt b hb) k.size,h.chg.fresh k hF⟩
end
structure Xf (T T':Tp)(s0 s1:Nat)(c1:Int):Prop where
 bnd:K1 T' s1
 num:s1≤3000∧(0≤c1∧c1≤9)∧T.vals.length≤T'.vals.length∧T'.vals.length+s0≤T.vals.length+s1∧T'.grd.length+s0≤T.grd.length+s1
@[simp] theorem H8 (T:Tp)(c:Am)(v:Int):(T.put c v).vals.length=T.vals.length+1:=by simp[Tp.put]
@[simp] theorem PI (T:Tp)(c:Am)(v:Int):(T.put c v).code.length=T.code.length+1:=by simp[Tp.put]
@[simp] theorem Tl (T:Tp)(c:Am)(v:Int):(T.put c v).grd=T.grd:=rfl
@[simp] theorem OK (T:Tp)(r:Int)(z:Bool):(T.guard r z).vals=T.vals:=rfl
@[simp] theorem OL (T:Tp)(r:Int)(z:Bool):(T.guard r z).grd.length=T.grd.length+1:=by simp[Tp.guard]
theorem RN.of_ow {e:TypeId}{B T:Nat}{H:Array Obj}{v:Value}{xs:List Int}{F S:List Nat}(h:Ow (BD rI e) B T H v xs F)(hS:∀b∈F,b∉S):RN S (Bl rI) H v xs:=⟨F,h.own.rd id,hS⟩
theorem CL.len {t1 t2 t3:TypeId}{S:List Nat}{g:Nat}{H:Array Obj}{vc vg vv:Value}{T:Tp}(h:CL t1 t2 t3 S g H vc vg vv T):T.code.length≤maxLen∧T.grd.length≤maxLen∧T.vals.length≤maxLen:=by
 obtain⟨Fc,Fg,Fv,h1,h2,h3,_⟩:=h
 exact⟨h1.own.lenle,h2.own.lenle,h3.own.lenle⟩
end
section
def Ju (a:List Int):Nat→Tp
 |0=>⟨[],[],[]⟩
 |k+1=>(Ju a k).put ⟨1,0,0,((k:Nat):Int)⟩ (a.getD k 0)
def Hs (k:Nat):List Int:=(List.range k).map fun i=>((i:Nat):Int)
@[simp] theorem GF (k:Nat):(Hs k).length=k:=by simp[Hs]
theorem PJ (k:Nat):Hs (k+1)=Hs k++[((k:Nat):Int)]:=by simp[Hs,List.range_succ]
theorem OM {k j:Nat}(h:j<k):(Hs k).getD j 0=((j:Nat):Int):=by
 unfold Hs
 rw[CC (d:=0) (by simpa using h)]
 simp[h]
@[simp] theorem K2 (a:List Int):∀k,(Ju a k).vals.length=k
 |0=>rfl
 |k+1=>by show((Ju a k).put _ _).vals.length=_;rw[H8,K2 a k]
@[simp] theorem Nv (a:List Int):∀k,(Ju a k).code.length=k
 |0=>rfl
 |k+1=>by show((Ju a k).put _ _).code.length=_;rw[PI,Nv a k]
theorem Tm (a:List Int):∀k,(Ju a k).grd=[]
 |0=>rfl
 |k+1=>by show((Ju a k).put _ _).grd=_;rw[Tl,Tm a k]
theorem ON (a:List Int):∀k,k≤a.length→(Ju a k).vals=a.take k
 |0,_=>rfl
 |k+1,h=>by
  show(Ju a k).vals++[a.getD k 0]=_
  rw[ON a k zO,CA 0 (by omega)]
theorem aH {a:List Int}(hn:Bj a=true)(h:a.length≤12):K1 (Ju a a.length) 0:=by
 refine⟨by simp,by simp;omega,by rw[Tm];simp,?_⟩
 rw[ON a _ (A9 _),List.take_length];exact hn
theorem aI (a:List Int)(k:Nat):IT (Ju a k) (Hs k):=fun j hj=>by
 rw[GF]at hj
 rw[OM hj,K2];omega
def S0 (p:List Fn)(f:Nat)(a:List Int):Rs RL:=Id (Kx p f) (p.getD f Fn.zero).outs (Hs a.length) 0 (Ju a a.length)
section rcm
variable {t1 t2 t3:TypeId} {S:List Nat} {g:Nat} {w w':World} {vc vg vv:Value} {T:Tp}
theorem CL.nil:CL t1 t2 t3 S g w.heap (.slice none 0 0) (.slice none 0 0) (.slice none 0 0) ⟨[],[],[]⟩ :=
 ⟨[],[],[],⟨.inl ⟨rfl,rfl,rfl⟩,zk,E4,E4⟩,⟨.inl ⟨rfl,rfl,rfl⟩,zk,E4,E4⟩,⟨.inl ⟨rfl,rfl,rfl⟩,zk,E4,E4⟩,
  ⟨E4,E4,E4⟩,⟨z2,z2,z2⟩,E4,E4,E4⟩
theorem AB.toExt {F:List Nat}(h:AB F w w')(hF:∀b∈F,w.heap.size≤b):AD w w':=⟨h.os,h.tape,h.output,h.size,fun k hk=>h.block k hk fun hm=>by have:=hF k hm;omega⟩
end rcm
def RG {α:Type}(T:Nat)(E:Bs α)(H:Array Obj)(v:Value)(x:α):Prop:=∃F,E H v x F∧∀b∈F,T≤b
theorem RZ.rg {α:Type}{S:List Nat}{B T:Nat}{E:Bs α}{H:Array Obj}{v:Value}{x:α}(h:RZ S B E H v x)(hT:T≤B):RG T E H v x:=by
 obtain⟨F,h1,h2⟩:=h
 exact⟨F,h1,fun b hb=>Aa hT (h2 b hb).2⟩
theorem RG.rnG {α:Type}{T g:Nat}{E:Bs α}{w:World}{v:Value}{x:α}(hE:BZ E)(h:RG T E w.heap v x)(hg:g<T∨w.heap.size≤g):RN [g] E w.heap v x:=by
 obtain⟨F,h1,h2⟩:=h
 refine⟨F,h1,fun b hb hm=>?_⟩
 rw[Ab hm]at hb
 have:=h2 g hb
 have:=hE.lt h1 g hb
 omega
theorem CL.readsG {t1 t2 t3:TypeId}{S:List Nat}{g n:Nat}{w:World}{vc vg vv:Value}{T:Tp}(h:CL t1 t2 t3 S g w.heap vc vg vv T)(hS:∀b∈S,n≤b):RG n (CK 4 Gs) w.heap vc T.code∧RG n (CK 2 FV) w.heap vg T.grd:=by
 obtain⟨Fc,Fg,Fv,h1,h2,h3,h4,h5,h6,h7,h8⟩:=h
 exact⟨⟨Fc,h1.own.rd Ap,fun b hb=>hS b (h6 b hb)⟩,⟨Fg,h2.own.rd As,fun b hb=>hS b (h7 b hb)⟩⟩
theorem AY.go0 {α:Type}{r:Rs α}{x:α}{s:Nat}{c:Int}(h:AY (go ((0:Nat):Int) r) x s c):AY r x s c:=h
theorem LD.part {H:Array Obj}{g k:Nat}{cs ds:List Value}(h:BX H g cs)(hl:k+ds.length≤cs.length)(hd:∀i,i<ds.length→ds.getD i undef=cs.getD (k+i) undef):LD H (.pointer (some ⟨g,k,none⟩)) ds:=by
 obtain⟨e,h⟩:=h
 refine⟨g,k,rfl,fun i hi=>?_⟩
 simp only[Cn,h]
 rw[hd i hi]
 simp[show k+i<cs.length by omega]
end
def Jv (p:List Fn)(f:Int):Int:=if Kw p=true then(if 0≤f∧f≤((p.length:Nat):Int)-1 then 0 else 2)else 1
theorem Xg {p:List Fn}{f:Int}(h:Jv p f=0):Kw p=true∧0≤f∧f<((p.length:Nat):Int):=by
 unfold Jv at h
 split at h
 ·split at h
  ·rename_i h1 h2;exact⟨h1,h2.1,zO⟩
  ·omega
 ·omega
theorem RN.ofOne {S:List Nat}{e:TypeId}{B U:Nat}{H:Array Obj}{v u:Value}{r:List Int}(h:Fr (BD rV e) B U H v [u])(hr:RN S (Bl rI) H u r)(hS:∀b∈S,b<B):RN S (Bl (Bl rI)) H v [r]:=by
 obtain⟨F,h1,h2,h3⟩:=h
 obtain⟨G,g1',g2'⟩:=hr
 rcases h1 with⟨_,hc,_⟩|⟨us,g,cap,cur,F',hels,rfl,hg,q1,q2,q3,q4,rfl⟩
 ·cases hc
 ·obtain⟨rfl,rfl⟩:=H2 hels
  refine⟨g::(G++[]),.inr ⟨[u],g,0,cap,cur,e,(0,0),G++[],⟨G,[],rfl,g1',rfl⟩,rfl,hg,by simpa using q4,by simp[maxLen],rfl⟩,fun b hb hm=>?_⟩
  rcases ze.1 hb with rfl|hb
  ·have:=(h3 b (z0 ..)).1;have:=hS b hm;omega
  ·rw[List.append_nil]at hb;exact g2' b hb hm
theorem Vi {e:TypeId}{B U:Nat}{H:Array Obj}{v u:Value}(h:Fr (BD rV e) B U H v [u]):Dm v:=h.cap
theorem YU {n k:Nat}{s:Sr}(h:C9 n s)(hk:k<n):Hq (s.getD k 0)=true:=by
 have hk':k<s.length:=by rw[h.1];exact hk
 have:=h.2
 unfold Bj at this
 have h2:=zm.1 this s[k]<|List.getElem_mem hk'
 rwa [show s.getD k 0=s[k]from by simp[hk']]
section
mutual
def Il:Ex→Int→Int
 |.mk _ _ _ _ l,x=>Dp l (x-1)
def Dp:List Ex→Int→Int
 |[],x=>x
 |e::l,x=>if 0≤x then Dp l (Il e x)else x
end
theorem Vj (e:Ex)(x:Int):Il e x=Dp e.kids (x-1):=by cases e;rw[Il];rfl
theorem Lp {l:List Ex}{x:Int}(h:x<0):Dp l x=x:=by
 cases l with
 |nil=>rw[Dp]
 |cons e l=>rw[Dp,if_neg (by omega)]
mutual
theorem Lq:∀(e:Ex)(x:Int),0≤x→(Il e x=x-(e.size:Int)∧(e.size:Int)≤x)∨(Il e x = -1∧x<(e.size:Int))
 |.mk k n q c l,x,h=>by
  rw[Il,Ex.size]
  by_cases h0:x=0
  ·subst h0
   right
   rw[Lp (by omega)]
   refine⟨zO,zO⟩
  ·rcases Ie l (x-1) (by omega)with h1|h1
   ·left;omega
   ·right;omega
theorem Ie:∀(l:List Ex)(x:Int),0≤x→(Dp l x=x-(Ex.sizes l:Int)∧(Ex.sizes l:Int)≤x)∨(Dp l x = -1∧x<(Ex.sizes l:Int))
 |[],x,h=>by rw[Dp,Ex.sizes];left;omega
 |e::l,x,h=>by
  rw[Dp,if_pos h,Ex.sizes]
  rcases Lq e x h with h1|h1
  ·rw[h1.1]
   rcases Ie l (x-(e.size:Int)) (by omega)with h2|h2
   ·left;omega
   ·right;omega
  ·rw[h1.1,Lp (by omega)]
   right;omega
end
theorem MS (e:Ex):∀(l:List Ex)(x:Int),Dp (l++[e]) x=if 0≤Dp l x then Il e (Dp l x)else Dp l x
 |[],x=>by
  rw[zl,Dp,Dp]
  split
  ·rw[Dp]
  ·rfl
 |a::l,x=>by
  rw[List.cons_append,Dp,Dp]
  by_cases h:0≤x
  ·rw[if_pos h,if_pos h,MS e l]
  ·rw[if_neg h,if_neg h,if_neg h]
theorem MT {l:List Ex}{k:Nat}(hk:k<l.length){x:Int}(h:0≤Dp (l.take k) x):Dp (l.take (k+1)) x=Il (l.getD k Ex.zero) (Dp (l.take k) x):=by
 rw[List.take_succ_eq_append_getElem hk,MS,if_pos h]
 simp[hk]
theorem OO:∀(l r:List Ex)(x:Int),Dp l x<0→Dp (l++r) x=Dp l x
 |[],r,x,h=>by rw[Dp]at h ⊢;rw[zl,Lp h]
 |a::l,r,x,h=>by
  rw[Dp]at h ⊢
  rw[List.cons_append,Dp]
  split
  ·rename_i h0;rw[if_pos h0]at h;exact OO l r _ h
  ·rfl
theorem MU {l:List Ex}{k:Nat}{x:Int}(h:Dp (l.take k) x<0):Dp l x=Dp (l.take k) x:=by
 have:=OO (l.take k) (l.drop k) x h
 rwa [List.take_append_drop]at this
theorem OP {e:Ex}{x:Int}(h:0≤x):-1≤Il e x∧Il e x≤x:=by
 rcases Lq e x h with h1|h1 <;> omega
theorem Tn {e:Ex}{x:Int}(h:0≤x):0≤Il e x↔(e.size:Int)≤x:=by
 rcases Lq e x h with h1|h1 <;> omega
def S3 (k:Int):Int:=if k=1∨k=2 then 0 else if k=3∨k=4∨k=5∨k=6∨k=9 then 2 else if k=7 then 1 else if k=8 then 3 else -1
theorem Nw {p q:Prop} [Decidable p] [Decidable q] (h:p↔q):decide p=decide q:=decide_eq_decide.2 h
section
variable {p:List Fn} {F vars:Int} {e:Ex}
theorem S4 (h:H5 p F vars e=true)(h10:e.kind≠10)(h11:e.kind≠11):e.pick=0∧e.count=0∧S3 e.kind=((e.kids.length:Nat):Int)∧(e.kind≠1→e.kind≠2→e.num=0):=by
 unfold H5 Eb at h
 unfold S3
 split at h
 ·rename_i h1
  simp only[z7,decide_eq_true_eq]at h
  rw[if_pos (by omega)]
  exact⟨h.1.1,h.1.2,zO,fun hh=>absurd h1 hh⟩
 ·split at h
  ·rename_i h1
   simp only[z7,decide_eq_true_eq]at h
   rw[if_pos (by omega)]
   exact⟨h.1.1,h.1.2,zO,fun _ hh=>absurd h1 hh⟩
  ·split at h
   ·simp only[z7,decide_eq_true_eq]at h
    rw[if_neg zO,if_pos (by omega)]
    exact⟨h.1.1,h.1.2,zO,fun _ _=>h.2.1⟩
   ·split at h
    ·simp only[z7,decide_eq_true_eq]at h
     rw[if_neg zO,if_neg zO,if_pos (by omega)]
     exact⟨h.1.1,h.1.2,zO,fun _ _=>h.2.1⟩
    ·split at h
     ·simp only[z7,decide_eq_true_eq]at h
      rw[if_neg zO,if_neg zO,if_neg zO,if_pos (by omega)]
      exact⟨h.1.1,h.1.2,zO,fun _ _=>h.2.1⟩
     ·split at h
      ·omega
      ·cases h
theorem YV (h10:e.kind≠10)(h11:e.kind≠11)(h:S3 e.kind≠((e.kids.length:Nat):Int)∨e.pick≠0∨e.count≠0):false=H5 p F vars e:=by
 cases hw:H5 p F vars e with
 |false=>rfl
 |true =>
  have:=S4 hw h10 h11
  omega
theorem f0 (hk:S3 e.kind=((e.kids.length:Nat):Int))(h1:e.kind=1)(hp:e.pick=0)(hc:e.count=0):Hq e.num=H5 p F vars e:=by
 have hl:e.kids.length=0:=by unfold S3 at hk;rw[if_pos (by omega)]at hk;omega
 unfold H5 Eb
 rw[if_pos h1,A7 hp,A7 hc,A7 hl];rfl
theorem f4 (hk:S3 e.kind=((e.kids.length:Nat):Int))(h1:e.kind=2)(hp:e.pick=0)(hc:e.count=0):(decide (((0:Nat):Int)≤e.num) && decide (e.num≤vars-1))=H5 p F vars e:=by
 have hl:e.kids.length=0:=by unfold S3 at hk;rw[if_pos (by omega)]at hk;omega
 unfold H5 Eb HB
 rw[if_neg zO,if_pos h1,A7 hp,A7 hc,A7 hl];rfl
theorem f5 (hk:S3 e.kind=((e.kids.length:Nat):Int))(h1:e.kind≠1)(h2:e.kind≠2)(h10:e.kind≠10)(h11:e.kind≠11)(hp:e.pick=0)(hc:e.count=0):decide (e.num=0)=H5 p F vars e:=by
 unfold S3 at hk
 unfold H5 Eb
 rw[if_neg h1,if_neg h2,A7 hp,A7 hc]
 rw[if_neg (by omega)]at hk
 split at hk
 ·rename_i h3
  rw[if_pos h3,A7 (show e.kids.length=2 by omega)];simp
 ·rename_i h3
  rw[if_neg h3]
  split at hk
  ·rename_i h4
   rw[if_pos h4,A7 (show e.kids.length=1 by omega)];simp
  ·rename_i h4
   rw[if_neg h4]
   split at hk
   ·rename_i h5
    rw[if_pos h5,A7 (show e.kids.length=3 by omega)];simp
   ·omega
end
end
section
def Ko (n:Nat)(C:Ca)(e:Ex)(env:List Sr)(s:Nat):Rs Sr:=(G5 n C e.kids env s).bind fun xs t =>
 if e.kind=10 then C.one e.num.toNat e.pick.toNat xs t else(Sb (C.all e.num.toNat) e.count.toNat xs t).bind fun ys u=>.ok (ys.getD e.pick.toNat []) u
section
variable {n:Nat} {C:Ca} {e:Ex} {env:List Sr} {s s1 s2:Nat} {c c1 c2:Int} {x y:Sr} {xs ys:List Sr}
theorem MV (hc:c=0)(hs:s+1≤3000)(hk:e.kind=10∨e.kind=11)(h:AY (go c (Ko n C e env (s+1))) y s2 c2):AY (go c (Gh n C e env s)) y s2 c2:=by
 subst hc
 rw[CW]at h ⊢
 rw[Lg hs zO zO zO (by omega)]
 unfold Ko at h
 cases hv:G5 n C e.kids env (s+1)with
 |err d=>rw[hv]at h;exact h
 |ok zsq t =>
  rw[hv]at h
  rw[Rs.bind_ok]at h ⊢
  by_cases h10:e.kind=10
  ·rw[if_pos h10]at h ⊢;exact h
  ·rw[if_neg h10]at h;rw[if_neg h10,if_pos (by omega)];exact h
theorem To {α:Type}{r:Rs α}{v:α}(h:AY (go c r) v s1 c1)(hc:c≠0):c1=c:=by
 rw[DF hc]at h;exact h.1
theorem YW (hl:e.kids.length=1)(h:AY (go c (Gh n C (e.kids.getD 0 Ex.zero) env s)) x s1 c1):AY (go c (G5 n C e.kids env s)) [x] s1 c1:=by
 have h1:=HM (l:=e.kids) (k:=0) zO (Ia n C e.kids env s c) h
 rwa [za (by omega)]at h1
theorem K3 (hl:e.kids.length=2)(h:AY (go c (Gh n C (e.kids.getD 0 Ex.zero) env s)) x s1 c1)(h2:AY (go c1 (Gh n C (e.kids.getD 1 Ex.zero) env s1)) y s2 c2):AY (go c (G5 n C e.kids env s)) [x,y] s2 c2:=by
 have h1:=HM (l:=e.kids) (k:=0) zO (Ia n C e.kids env s c) h
 have h3:=HM (l:=e.kids) (k:=1) zO h1 h2
 rwa [za (by omega)]at h3
theorem H9 (hc:c=0)(hs:s+1≤3000)(hk:e.kind=3∨e.kind=4∨e.kind=5∨e.kind=6∨e.kind=7)(hr:AY (go c (G5 n C e.kids env (s+1))) xs s1 c1)
  (h:c1=0→AY (Pm e.kind xs s1) y s1 c2) (h0:c1≠0→c2=c1):AY (go c (Gh n C e env s)) y s1 c2:=by
 by_cases hc1:c1=0
 ·exact Yx hc hs zO zO zO zO zO zO hr hc1<|h hc1
 ·rw[h0 hc1];exact RS hc hs zO zO zO zO hr hc1
theorem Tq {p:List Fn}{F:Nat}(hk:e.kind=10)(hF:e.num.toNat<F)(hr:AY (go c (G5 n (Iy p n F) e.kids env s)) xs s1 c1)
  (h2:AY (go c1 (Gh n (Iy p n e.num.toNat) ((p.getD e.num.toNat Fn.zero).outs.getD e.pick.toNat Ex.zero) xs s1)) y s2 c2):AY (go c (Ko n (Iy p n F) e env s)) y s2 c2:=by
 by_cases hc:c=0
 ·subst hc
  rw[CW]at hr ⊢
  unfold Ko
  by_cases hc1:c1=0
  ·subst hc1;rw[hr.bindO,if_pos hk,QL hF];rw[CW]at h2;exact h2
  ·rw[hr.bindE hc1];rw[DF hc1]at h2;exact h2
 ·have e1:=To hr hc
  subst e1
  rw[DF hc]at h2 ⊢;exact h2
theorem Tr {f:List Sr→Nat→Rs (List Sr)}{k:Nat}(h:AY (go c (Sb f k xs s)) ys s1 c1){zsq:List Sr}(h2:AY (go c1 (f ys s1)) zsq s2 c2):AY (go c (Sb f (k+1) xs s)) zsq s2 c2:=by
 by_cases hc:c=0
 ·subst hc
  rw[CW]at h ⊢
  show AY ((Sb f k xs s).bind f) _ _ _
  by_cases hc1:c1=0
  ·subst hc1;rw[h.bindO];rw[CW]at h2;exact h2
  ·rw[h.bindE hc1];rw[DF hc1]at h2;exact h2
 ·have e1:=To h hc
  subst e1
  rw[DF hc]at h2 ⊢;exact h2
theorem Ts {f:List Sr→Nat→Rs (List Sr)}(hc:0=0):AY (go c (Sb f 0 xs s)) xs s c:=by
 by_cases h:c=0
 ·subst h;exact⟨rfl,rfl,rfl⟩
 ·exact AY.mk_err (DF h _) h
theorem Tt {p:List Fn}{F:Nat}(hk:e.kind≠10)(hF:e.num.toNat<F)(hr:AY (go c (G5 n (Iy p n F) e.kids env s)) xs s1 c1)
  (h2:AY (go c1 (Sb (fun a t=>G5 n (Iy p n e.num.toNat) (p.getD e.num.toNat Fn.zero).outs a t) e.count.toNat xs s1)) ys s2 c2):AY (go c (Ko n (Iy p n F) e env s)) (ys.getD e.pick.toNat []) s2 c2:=by
 have hl:(Iy p n F).all e.num.toNat=fun a t=>G5 n (Iy p n e.num.toNat) (p.getD e.num.toNat Fn.zero).outs a t:=funext fun a=>funext fun t=>No hF
 by_cases hc:c=0
 ·subst hc
  rw[CW]at hr ⊢
  unfold Ko
  by_cases hc1:c1=0
  ·subst hc1
   rw[hr.bindO,if_neg hk,hl]
   rw[CW]at h2
   by_cases h0:c2=0
   ·subst h0;rw[h2.bindO];exact AY.mk_ok rfl
   ·rw[h2.bindE h0];exact AY.mk_err rfl h0
  ·rw[hr.bindE hc1]
   rw[DF hc1]at h2
   exact AY.mk_err (by rw[h2.1]) (by rw[h2.1];exact hc1)
 ·have e1:=To hr hc
  subst e1
  rw[DF hc]at h2 ⊢
  exact AY.mk_err (by rw[h2.1]) (by rw[h2.1];exact hc)
end
end
section
def Po (p:List Fn)(f:Nat)(s:Sr):Int:=T3 p 1 f (Cu s)
def Vk (p:List Fn)(f:Nat)(s:Sr):Sr:=(UD p 1 f (Cu s)).map fun s=>s.getD 0 0
theorem Dh {a:Sr}(h:Bj a=true):CG 1 (Cu a):=by
 intro k hk
 unfold Cu at hk ⊢
 rw[zg]at hk
 rw[List.getD_eq_getElem?_getD,List.getElem?_map,List.getElem?_eq_getElem hk]
 refine⟨rfl,?_⟩
 unfold Bj at h ⊢
 have:=zm.1 h _ (List.getElem_mem hk)
 simpa using this
theorem PK {x:List Sr}{n:Nat}(h:CG (n+1) x):Bj (x.map fun s=>s.getD 0 0)=true:=by
 unfold Bj
 rw[zm]
 intro y hy
 obtain⟨s,hs,rfl⟩:=List.mem_map.1 hy
 obtain⟨k,hk,rfl⟩:=List.mem_iff_getElem.1 hs
 have h2:=h k hk
 rw[Jr hk]at h2
 exact YU h2 zO
section
variable {p:List Fn} {f:Nat} {a s:Sr} {k n:Nat}
structure eG (p:List Fn)(f:Nat)(s:Sr):Prop where
 code:0≤Po p f s∧Po p f s≤9
 len:Po p f s=0→(Vk p f s).length=(p.getD f Fn.zero).outs.length
 num:Bj (Vk p f s)=true
 non:Po p f s≠0→Vk p f s=[]
theorem eG.mk' (h:eE p 1 f (Cu s)):eG p f s :=
 ⟨h.code,fun h0=>by unfold Vk;rw[zg];exact h.len h0,PK h.ser,fun h0=>by unfold Vk;rw[h.non h0];rfl⟩
end
end
section
theorem f6 {a b:Sr}(hl:a.length=b.length)(h:∀j,j<a.length→a.getD j 0=b.getD j 0):a=b :=
 List.ext_getElem hl fun j h1 h2=>by have:=h j h1;rwa [Jr h1,Jr h2]at this
theorem f7 {y z:List Sr}(hl:y.length=z.length)(h:∀j,j<y.length→y.getD j []=z.getD j []):y=z :=
 List.ext_getElem hl fun j h1 h2=>by have:=h j h1;rwa [Jr h1,Jr h2]at this
section
variable {p:List Fn} {f o:Nat} {a:List Int}
theorem Tu (s:Sr)(k:Nat)(x:Int)(j:Nat):(s.set k x).getD j 0=if j=k∧k<s.length then x else s.getD j 0:=by
 simp only[List.getD_eq_getElem?_getD,List.getElem?_set]
 by_cases e:k=j
 ·subst e
  by_cases h:k<s.length
  ·simp[h]
  ·simp[h,List.getElem?_eq_none (Nat.le_of_not_lt h)]
 ·rw[if_neg e,if_neg (by omega)]
end
end
theorem Tv {s:ByteArray}(h:Lj s=true):s.size≤12:=by
 unfold Lj at h
 simp only[z7,decide_eq_true_eq]at h
 exact h.1.2
theorem Me.szp {p:List Fn}{pl:Bool}(h:Me p pl):V1 p:=fun k hk=>⟨by have:=h.sz k hk;omega,by have:=h.outs k hk;omega,by have:=Tv (h.nm k hk);omega⟩
section
def JP (p:List Fn)(f:Int)(a:Sr):Int:=if Jv p f=0 then(if (decide (((a.length:Nat):Int)=(p.getD f.toNat Fn.zero).params) && Bj a)=true then 0 else 2)else Jv p f
def UE (p:List Fn)(f:Int)(a:Sr):Int:=if JP p f a=0 then Po p f.toNat a else JP p f a
def f8 (p:List Fn)(f:Int)(a:Sr):Sr:=if JP p f a=0 then Vk p f.toNat a else []
def YX (p:List Fn)(f:Int)(a:Sr):Nat:=if JP p f a=0 then QO p 1 f.toNat (Cu a)else 0
section
variable {p:List Fn} {f:Int} {a:Sr}
theorem aJ (h:JP p f a=0):Kw p=true∧(0≤f∧f<((p.length:Nat):Int))∧((a.length:Nat):Int)=(p.getD f.toNat Fn.zero).params∧Bj a=true:=by
 unfold JP at h
 split at h
 ·rename_i h1
  split at h
  ·rename_i h2
   rw[z7,decide_eq_true_eq]at h2
   obtain⟨q1,q2,q3⟩:=Xg h1
   exact⟨q1,⟨q2,q3⟩,h2.1,h2.2⟩
  ·omega
 ·rename_i h1;exact absurd h h1
theorem aK (h:Jv p f≠0):Jv p f=JP p f a:=by unfold JP;rw[if_neg h]
theorem aL (h:Jv p f=0)(h2:(decide (((a.length:Nat):Int)=(p.getD f.toNat Fn.zero).params) && Bj a)=false):2=JP p f a:=by unfold JP;rw[if_pos h,h2];rfl
theorem f9 (h:Jv p f=0)(h2:(decide (((a.length:Nat):Int)=(p.getD f.toNat Fn.zero).params) && Bj a)=true):0=JP p f a:=by unfold JP;rw[if_pos h,h2];rfl
theorem aM (h:JP p f a≠0):UE p f a=JP p f a:=if_neg h
theorem aN (h:JP p f a≠0):f8 p f a=[]:=if_neg h
theorem aO (h:JP p f a≠0):YX p f a=0:=if_neg h
theorem Xh (h:JP p f a=0):UE p f a=Po p f.toNat a:=if_pos h
theorem aP (h:JP p f a=0):f8 p f a=Vk p f.toNat a:=if_pos h
theorem aQ (h:JP p f a=0):YX p f a=QO p 1 f.toNat (Cu a):=if_pos h
end
end
theorem Xi {a b:Sr}{k:Nat}(h:k<a.length):(EU a b).getD k 0=md (a.getD k 0+b.getD k 0):=DL 0 h
theorem aR {a b:Sr}{k:Nat}(h:k<a.length):(GA a b).getD k 0=md (a.getD k 0-b.getD k 0):=DL 0 h
theorem Xj {a:Sr}{y:Int}{k:Nat}(h:k<a.length):(D8 a y).getD k 0=md (a.getD k 0*y):=DL 0 h
theorem Lr {a b:Sr}(h:0<a.length):(CF a b).getD 0 0=md (0+a.getD 0 0*b.getD 0 0):=DL 0 h
theorem OQ {a b:Sr}(h:0<a.length):(Cq a b).getD 0 0=md (a.getD 0 0*inv (b.getD 0 0)):=KN h
theorem R2 {n:Nat}{c:Int}(h:0<n):(Fj n c).getD 0 0=c:=by
 obtain⟨n,rfl⟩:∃k,n=k+1:=⟨n-1,zO⟩
 unfold Fj;rw[List.replicate_succ];rfl
section
section ops
variable {P:Program} {ops:Array Oper} {w0:World} {Q:Act→World→Prop} {os:List Oper} {ks:List Nat} {N:Nat} {ρ:Nat→Value} {w:World}
 {d:Nat} {ty:TypeId} {pos:String} {aft:Array Edge} {g:Option (Nat×Bool)} {t e:TypeId} {z:Value} {b s:Nat} {α:Type} {E:Cb α}
theorem Ls (hE:CJ s E)(ht:P.underlying t=some (.slice e))(hi:TI P e s z b)(hu:Up ops N ρ ⟨some d,.buildSlice t 0 #[],ty,pos,aft,g⟩)
  (h:∀v w1,AD w w1→w1.heap.size=w.heap.size+1→Fr (DB s E e) w.heap.size w1.heap.size w1.heap v ([]:List α)→LW P ops w0 Q os ks (mk N (CI ρ d v)) w1) :
  LW P ops w0 Q (⟨some d,.buildSlice t 0 #[],ty,pos,aft,g⟩::os) (3::ks) (mk N ρ) w:=by
 have hr:=Ql (P:=P) (w:=w) ht hi
 have hrun:(execOp (Br N ρ) ⟨some d,.buildSlice t 0 #[],ty,pos,aft,g⟩).run P w=.ok (.value (.slice (some ⟨w.heap.size,0,none⟩) 0 0)) (w.alloc (.cells #[] e)):=by
  simp only[execOp,zc,zh,Sem.run_bind,hr,Result.andThen_ok,Sem.run_pure]
 refine Ji rfl hu _ _ hrun (BA _ _)<|h _ _ (BA _ _) (by simp) ?_
 have hn:=Ng (e:=e) (w:=w) hE (css:=[]) (xs:=([]:List α)) (F:=[]) (cur:=#[]) (cap:=0) rfl (by simp) (by simp[maxLen]) (by simp) (by simp)
 refine⟨_,hn,by simp,fun c hc=>?_⟩
 have hlt:=(An hE).lt hn c hc
 refine⟨?_,hlt⟩
 rcases ze.1 hc with rfl|hc
 ·exact A9 _
 ·cases hc
end ops
structure aS (p:List Fn)(f pk:Int)(a b:List Int):Prop where
 dr:Me p false
 dn:Dn p
 len:1≤p.length∧p.length≤3
 fe:f=((p.length:Nat):Int)-1
 pk:0≤pk∧pk<(((p.getD f.toNat Fn.zero).outs.length:Nat):Int)
 la:((a.length:Nat):Int)=(p.getD f.toNat Fn.zero).params∧Bj a=true
 lb:((b.length:Nat):Int)=(p.getD f.toNat Fn.zero).params∧Bj b=true
theorem aT {p:List Fn}{f:Int}{a:Sr}(h:Kw p=true)(hf:0≤f∧f<((p.length:Nat):Int))(hl:((a.length:Nat):Int)=(p.getD f.toNat Fn.zero).params)(hn:Bj a=true):JP p f a=0:=by
 unfold JP Jv
 rw[if_pos h,if_pos (by omega)]
 rw[if_pos]
 rw[z7,decide_eq_true_eq];exact⟨hl,hn⟩
end
def Eh (a d:List Int)(n:Nat):List Sr:=KJ a.length fun i=>(Fj n (a.getD i 0)).set 1 (d.getD i 0)
@[simp] theorem CE (a d:List Int)(n:Nat):(Eh a d n).length=a.length:=by simp[Eh]
theorem Nx {a d:List Int}{n k:Nat}(h:k<a.length):(Eh a d n).getD k []=(Fj n (a.getD k 0)).set 1 (d.getD k 0):=DL [] h
theorem Fy {a d:List Int}{n:Nat}(ha:Bj a=true)(hd:Bj d=true):CG n (Eh a d n):=fun k hk=>by
 rw[CE]at hk
 rw[Nx hk]
 refine⟨by rw[z6,QM],?_⟩
 have h1:=Fx (n:=n)<|Cz.2<|Co ha k
 unfold Bj
 rw[zm]
 intro y hy
 rcases List.mem_or_eq_of_mem_set hy with hy|rfl
 ·have:=h1.2;unfold Bj at this;exact zm.1 this y hy
 ·exact Cz.2<|Co hd k
def Vl (n:Nat)(ps:List Int):Nat→List Int
 |0=>List.replicate n 0
 |j+1=>(Vl n ps j).set (ps.getD j 0).toNat (md ((Vl n ps j).getD (ps.getD j 0).toNat 0+1))
theorem OR (n:Nat)(ps:List Int):∀j,Bj (Vl n ps j)=true
 |0=>GB n
 |j+1=>by
  have h:=OR n ps j
  unfold Bj at h ⊢
  rw[zm]at h ⊢
  intro y hy
  rcases List.mem_or_eq_of_mem_set hy with hy|rfl
  ·exact h y hy
  ·exact Cz.2<|Cd _
def eV (n k:Nat):List Int:=Vl n [((k:Nat):Int)] 1
theorem Kp (n j:Nat):(List.replicate n (0:Int)).getD j 0=0:=by
 rw[List.getD_eq_getElem?_getD,List.getElem?_replicate];split <;> rfl
theorem YY {n k j:Nat}(hk:k<n):(eV n k).getD j 0=if k=j then 1 else 0:=by
 show((List.replicate n (0:Int)).set (((k:Nat):Int)).toNat (md ((List.replicate n (0:Int)).getD (((k:Nat):Int)).toNat 0+1))).getD j 0=_
 rw[Int.toNat_natCast,Tu,z5,Kp,Kp]
 by_cases e:k=j
 ·subst e;rw[if_pos ⟨rfl,hk⟩,if_pos rfl];rfl
 ·rw[if_neg zO,if_neg e]
theorem Ny (n k:Nat):Bj (eV n k)=true:=OR _ _ _
theorem Xk {a d:List Int}{i:Nat}(h:i<a.length):((Eh a d 2).getD i []).getD 0 0=a.getD i 0:=by rw[Nx h];rfl
theorem Xl {a d:List Int}{i:Nat}(h:i<a.length):((Eh a d 2).getD i []).getD 1 0=d.getD i 0:=by rw[Nx h];rfl
theorem YZ {n k:Nat}{c:Int}(h:0<n):(Fj n c).getD k 0=if k=0 then c else 0:=by
 by_cases e:k=0
 ·subst e;rw[if_pos rfl,R2 h]
 ·unfold Fj
  rw[if_neg e,Tu,if_neg zO,Kp]
theorem Z0 {N:Nat}{a b:Sr}(ha:C9 N a):EN N (Dw (EU a b)) (fun k=>Dw a k+Dw b k):=fun k hk=>by
 show md ((EU a b).getD k 0)=_
 rw[Xi (by rw[ha.1];exact hk),ES];rfl
theorem fa {N:Nat}{a:Sr}{y:Int}(ha:C9 N a):EN N (Dw (D8 a y)) (fun k=>y*Dw a k):=fun k hk=>by
 show md ((D8 a y).getD k 0)=_
 rw[Xj (by rw[ha.1];exact hk),ES,Int.mul_comm];rfl
theorem EN.add {N:Nat}{f f' g g':Nat→Int}(hf:EN N f f')(hg:EN N g g'):EN N (fun k=>f k+g k) (fun k=>f' k+g' k):=fun k hk=>by rw[← H4,hf k hk,hg k hk,H4]
section
section str
variable {P:Program} {ops:Array Oper} {w0:World} {Q:Act→World→Prop} {os:List Oper} {ks:List Nat} {N:Nat} {ρ:Nat→Value} {w:World}
 {d:Nat} {ty:TypeId} {pos:String} {aft:Array Edge} {g:Option (Nat×Bool)} {t e:TypeId}
theorem Tw {α:Type}{E:Bs α}(hE:BZ E){ys:List α}{b:Nat}{z u0 u1:Value}{x0 x1:Operand}(ht:P.underlying t=some (.slice e))(hi:TI P e 1 z b)(hz:z.cells=#[z])
  (hx0:Br N ρ x0=u0) (hx1:Br N ρ x1=u1) (hl:ys.length=2) (hels:els E w.heap [u0,u1] ys [])
  (hu:Up ops N ρ ⟨some d,.buildSlice t 2 #[(0,x0),(1,x1)],ty,pos,aft,g⟩)
  (h:∀v w1,AD w w1→w1.heap.size=w.heap.size+1→Fr (BD E e) w.heap.size w1.heap.size w1.heap v ys→LW P ops w0 Q os ks (mk N (CI ρ d v)) w1) :
  LW P ops w0 Q (⟨some d,.buildSlice t 2 #[(0,x0),(1,x1)],ty,pos,aft,g⟩::os) (3::ks) (mk N ρ) w:=by
 have hc:=hels.cells1 hE
 have hr:=UJ (P:=P) (w:=w) ht hi (hc u0 (by simp)).1 (hc u1 (by simp)).1 hz
 have hrun:(execOp (Br N ρ) ⟨some d,.buildSlice t 2 #[(0,x0),(1,x1)],ty,pos,aft,g⟩).run P w=.ok (.value (.slice (some ⟨w.heap.size,0,none⟩) 2 2)) (w.alloc (.cells #[u0,u1] e)):=by
  simp only[execOp,zc,zf,zh,Sem.run_bind,hx0,hx1,hr,Result.andThen_ok,Sem.run_pure]
 refine Ji rfl hu _ _ hrun (BA _ _)<|h _ _ (BA _ _) (by simp) ?_
 have hn:=FZ (e:=e) (w:=w) hE (us:=[u0,u1]) (xs:=ys) (F:=[]) (cur:=#[u0,u1]) hels (by simp[maxLen]) (by rw[hl];rfl) (by rw[hl];simp)
 rw[hl]at hn
 refine⟨_,hn,?_,fun c hc=>?_⟩
 ·rw[List.nodup_cons]
  exact⟨fun hm=>(by cases hm),zk⟩
 ·rcases ze.1 hc with rfl|hc
  ·exact⟨A9 _,by simp⟩
  ·cases hc
theorem Z1 {x:Operand}{u:Value}(hx:Br N ρ x=u)(hc:u.cells=#[u])(hu:Up ops N ρ ⟨some d,.box t x,ty,pos,aft,g⟩)
  (h:∀w1,AD w w1→w1.heap.size=w.heap.size+1→BX w1.heap w.heap.size [u]→LW P ops w0 Q os ks (mk N (CI ρ d (.pointer (some ⟨w.heap.size,0,none⟩)))) w1) :
  LW P ops w0 Q (⟨some d,.box t x,ty,pos,aft,g⟩::os) (3::ks) (mk N ρ) w:=by
 have hrun:(execOp (Br N ρ) ⟨some d,.box t x,ty,pos,aft,g⟩).run P w=.ok (.value (.pointer (some ⟨w.heap.size,0,none⟩))) (w.alloc (.cells #[u] t)):=by
  simp[execOp,Instr.box,newVar,newRow,hx,hc]
 refine Ji rfl hu _ _ hrun (BA _ _)<|h _ (BA _ _) (by simp) ⟨t,?_⟩
 have:=heap_alloc_new w (.cells #[u] t)
 simpa using this
end str
theorem Xm {H:Array Obj}{a b:Int}(h0:-9223372036854775808≤a∧a≤9223372036854775807)(h1:-9223372036854775808≤b∧b≤9223372036854775807):els rI H [.int .i64 a,.int .i64 b] [a,b] [] :=
 ⟨[],[],rfl,⟨rfl,rfl,h0⟩,[],[],rfl,⟨rfl,rfl,h1⟩,rfl⟩
end
def dl (i:Nat)(j:Nat):Int:=if i=j then 1 else 0
structure PL (m:Nat)(a:List Int)(X:List Sr):Prop where
 len:X.length=a.length
 ser:∀i,i<a.length→C9 m (X.getD i [])
 at0:∀i,i<a.length→(X.getD i []).getD 0 0=a.getD i 0
section
theorem OS {α:Type}{P:List α→Prop}(h0:P [])(h1:∀l c,P l→P (l++[c]))(l:List α):P l:=by
 have h:∀l:List α,P l.reverse:=fun l=>by
  induction l with
  |nil=>exact h0
  |cons c l ih=>rw[List.reverse_cons];exact h1 _ _ ih
 have:=h l.reverse
 rwa [List.reverse_reverse]at this
def DZ (m:Nat)(A R:List Sr)(c:Am):Sr :=
 if c.op=1 then A.getD c.num.toNat []else if c.op=3 then EU (R.getD c.a.toNat []) (R.getD c.b.toNat [])else if c.op=4 then GA (R.getD c.a.toNat []) (R.getD c.b.toNat [])
 else if c.op=5 then CF (R.getD c.a.toNat []) (R.getD c.b.toNat [])else if c.op=7 then D8 (R.getD c.a.toNat []) 1000002
 else if c.op=6 then Cq (R.getD c.a.toNat []) (R.getD c.b.toNat [])else Fj m c.num
def AZ (m:Nat)(A:List Sr)(cs:List Am):List Sr:=cs.foldl (fun R c=>R++[DZ m A R c]) []
section
variable {m:Nat} {A:List Sr}
theorem GG (cs:List Am)(c:Am):AZ m A (cs++[c])=AZ m A cs++[DZ m A (AZ m A cs) c]:=by unfold AZ;rw[List.foldl_append];rfl
@[simp] theorem Bp (cs:List Am):(AZ m A cs).length=cs.length:=by
 induction cs using OS with
 |h0=>rfl
 |h1 l c ih=>rw[GG,z4,ih,z4];rfl
theorem Lt (cs l:List Am){k:Nat}(hk:k<cs.length):(AZ m A (cs++l)).getD k []=(AZ m A cs).getD k []:=by
 induction l using OS with
 |h0=>rw[List.append_nil]
 |h1 l c ih=>rw[← List.append_assoc,GG,Ik (by rw[Bp,z4];omega),ih]
theorem MW (cs:List Am)(c:Am):(AZ m A (cs++[c])).getD cs.length []=DZ m A (AZ m A cs) c:=by rw[GG,IP (by rw[Bp])]
end
def C3 (ni k:Nat)(c:Am):Prop :=
 (c.op=1∧c.a=0∧c.b=0∧0≤c.num∧c.num<((ni:Nat):Int))∨(c.op=2∧c.a=0∧c.b=0∧0≤c.num∧c.num<1000003) ∨
 ((c.op=3∨c.op=4∨c.op=5∨c.op=6)∧(0≤c.a∧c.a<((k:Nat):Int))∧(0≤c.b∧c.b<((k:Nat):Int))∧c.num=0)∨(c.op=7∧(0≤c.a∧c.a<((k:Nat):Int))∧c.b=0∧c.num=0)
theorem C3.bin {ni k:Nat}{op a b:Int}(h:op=3∨op=4∨op=5∨op=6)(ha:0≤a∧a<((k:Nat):Int))(hb:0≤b∧b<((k:Nat):Int)):C3 ni k ⟨op,a,b,0⟩:=.inr (.inr (.inl ⟨h,ha,hb,rfl⟩))
theorem C3.neg {ni k:Nat}{a:Int}(ha:0≤a∧a<((k:Nat):Int)):C3 ni k ⟨7,a,0,0⟩:=.inr (.inr (.inr ⟨rfl,ha,rfl,rfl⟩))
structure D5 (m:Nat)(A:List Sr)(T:Tp):Prop where
 cl:T.code.length=T.vals.length
 ser:∀k,k<T.code.length→C9 m ((AZ m A T.code).getD k [])∧((AZ m A T.code).getD k []).getD 0 0=T.vals.getD k 0
 form:∀k,k<T.code.length→C3 A.length k (T.code.getD k Am.zero)
 dv:∀k,k<T.code.length→(T.code.getD k Am.zero).op=6→T.at (T.code.getD k Am.zero).b≠0
 gd:∀k,k<T.grd.length→(0≤(T.grd.getD k Bt.zero).reg∧(T.grd.getD k Bt.zero).reg<((T.vals.length:Nat):Int))∧(T.grd.getD k Bt.zero).z=decide (T.at (T.grd.getD k Bt.zero).reg=0)
def TE (T T':Tp):Prop:=(∃l,T'.code=T.code++l)∧∃l,T'.vals=T.vals++l
theorem TE.refl (T:Tp):TE T T:=⟨⟨[],by simp⟩,[],by simp⟩
theorem TE.trans {T T' T'':Tp}(h:TE T T')(k:TE T' T''):TE T T'':=by
 obtain⟨⟨l,h1⟩,l2,h2⟩:=h
 obtain⟨⟨l3,h3⟩,l4,h4⟩:=k
 exact⟨⟨l++l3,by rw[h3,h1,List.append_assoc]⟩,l2++l4,by rw[h4,h2,List.append_assoc]⟩
theorem TE.put (T:Tp)(c:Am)(v:Int):TE T (T.put c v):=⟨⟨[c],rfl⟩,[v],rfl⟩
theorem TE.guard (T:Tp)(r:Int)(z:Bool):TE T (T.guard r z):=⟨⟨[],by simp[Tp.guard]⟩,[],by simp[Tp.guard]⟩
section
variable {m:Nat} {A:List Sr} {T T':Tp}
theorem TE.reg (h:TE T T'){k:Nat}(hk:k<T.code.length):(AZ m A T'.code).getD k []=(AZ m A T.code).getD k []:=by
 obtain⟨⟨l,h1⟩,_⟩:=h
 rw[h1,Lt _ _ hk]
theorem TE.at (h:TE T T'){r:Int}(hr:0≤r∧r<((T.vals.length:Nat):Int)):T'.at r=T.at r:=by
 obtain⟨_,l,h1⟩:=h
 unfold Tp.at
 rw[h1,Ik (by omega)]
theorem TE.len (h:TE T T'):T.code.length≤T'.code.length∧T.vals.length≤T'.vals.length:=by
 obtain⟨⟨l,h1⟩,l2,h2⟩:=h
 rw[h1,h2,z4,z4];omega
def Oe (m:Nat)(A:List Sr)(T:Tp)(r:Int)(z:Sr):Prop:=(0≤r∧r<((T.vals.length:Nat):Int))∧z=(AZ m A T.code).getD r.toNat []
def MX (m:Nat)(A:List Sr)(n:Nat)(T:Tp)(rs:List Int)(zsq:List Sr):Prop:=rs.length=n∧zsq.length=n∧∀i,i<n→Oe m A T (rs.getD i 0) (zsq.getD i [])
theorem Oe.mono {r:Int}{z:Sr}(hc:T.code.length=T.vals.length)(h:Oe m A T r z)(k:TE T T'):Oe m A T' r z:=by
 have:=k.len
 exact⟨by have:=h.1;omega,by rw[k.reg (by have:=h.1;omega)];exact h.2⟩
theorem MX.mono {n:Nat}{rs:List Int}{zsq:List Sr}(hc:T.code.length=T.vals.length)(h:MX m A n T rs zsq)(k:TE T T'):MX m A n T' rs zsq:=⟨h.1,h.2.1,fun i hi=>(h.2.2 i hi).mono hc k⟩
theorem MX.snoc {n:Nat}{rs:List Int}{zsq:List Sr}{r:Int}{z:Sr}(h:MX m A n T rs zsq)(h1:Oe m A T r z):MX m A (n+1) T (rs++[r]) (zsq++[z]):=by
 refine⟨by simp[h.1],by simp[h.2.1],fun i hi=>?_⟩
 by_cases e:i=n
 ·rw[IP (by rw[h.1];exact e),IP (by rw[h.2.1];exact e)];exact h1
 ·rw[Ik (by rw[h.1];omega),Ik (by rw[h.2.1];omega)];exact h.2.2 i zO
theorem Oe.at (hI:D5 m A T){r:Int}{z:Sr}(h:Oe m A T r z):C9 m z∧z.getD 0 0=T.at r:=by
 have:=hI.ser r.toNat (by rw[hI.cl];have:=h.1;omega)
 rw[h.2];exact this
def If {α β:Type}(m:Nat)(A:List Sr)(T:Tp)(R:Tp→α→β→Prop)(r:Rs (α×Tp))(rz:Rs β):Prop:=match r with
 |.ok x t=>∃z,rz=.ok z t∧D5 m A x.2∧TE T x.2∧R x.2 x.1 z
 |.err c=>rz=.err c
theorem If.bind {α β α' β':Type}{R:Tp→α→β→Prop}{R':Tp→α'→β'→Prop}{r:Rs (α×Tp)}{rz:Rs β}{g:α×Tp→Nat→Rs (α'×Tp)}{gz:β→Nat→Rs β'}(h:If m A T R r rz)
  (hg:∀x T' z t,D5 m A T'→TE T T'→R T' x z→If m A T' R' (g (x,T') t) (gz z t)):If m A T R' (r.bind g) (rz.bind gz):=by
 cases r with
 |err c=>have h9:rz=.err c:=h;subst h9;exact rfl
 |ok x t =>
  obtain⟨z,h1,h2,h3,h4⟩:=h
  subst h1
  have h5:=hg x.1 x.2 z t h2 h3 h4
  rw[Rs.bind_ok,Rs.bind_ok]
  cases hr:g x t with
  |err c=>rw[hr]at h5;exact h5
  |ok y u =>
   rw[hr]at h5
   obtain⟨v,q1,q2,q3,q4⟩:=h5
   exact⟨v,q1,q2,h3.trans q3,q4⟩
theorem If.ret {α β:Type}{R:Tp→α→β→Prop}{x:α}{z:β}{t:Nat}(hI:D5 m A T')(hE:TE T T')(h:R T' x z):If m A T R (.ok (x,T') t) (.ok z t):=⟨z,rfl,hI,hE,h⟩
theorem D5.put (h:D5 m A T){c:Am}{v:Int}(hs:C9 m (DZ m A (AZ m A T.code) c))(hv:(DZ m A (AZ m A T.code) c).getD 0 0=v)(hf:C3 A.length T.code.length c)(hd:c.op=6→T.at c.b≠0):D5 m A (T.put c v):=by
 have hE:=TE.put T c v
 have hcl:=h.cl
 have key:∀k,k<(T.put c v).code.length→k<T.code.length∨k=T.code.length:=fun k hk=>by rw[PI]at hk;omega
 have cg:∀k,k<T.code.length→(T.put c v).code.getD k Am.zero=T.code.getD k Am.zero:=fun k hk=>Ik hk
 have cn:(T.put c v).code.getD T.code.length Am.zero=c:=IP rfl
 refine⟨by rw[PI,H8,hcl],fun k hk=>?_,fun k hk=>?_,fun k hk h6=>?_,fun k hk=>?_⟩
 ·rcases key k hk with hk|rfl
  ·rw[hE.reg hk,show(T.put c v).vals.getD k 0=T.vals.getD k 0 from Ik (by omega)];exact h.ser k hk
  ·rw[show(AZ m A (T.put c v).code).getD T.code.length []=_ from MW _ _,show(T.put c v).vals.getD T.code.length 0=v from IP hcl];exact⟨hs,hv⟩
 ·rcases key k hk with hk|rfl
  ·rw[cg k hk];exact h.form k hk
  ·rw[cn];exact hf
 ·rcases key k hk with hk|rfl
  ·rw[cg k hk]at h6 ⊢
   have:=h.form k hk
   unfold C3 at this
   rw[hE.at (by omega)];exact h.dv k hk h6
  ·rw[cn]at h6 ⊢
   unfold C3 at hf
   rw[hE.at (by omega)];exact hd h6
 ·have:=h.gd k hk
  rw[Tl]at hk ⊢
  refine⟨by rw[H8];omega,?_⟩
  rw[hE.at this.1];exact this.2
theorem D5.guard (h:D5 m A T){r:Int}(hr:0≤r∧r<((T.vals.length:Nat):Int)):D5 m A (T.guard r (decide (T.at r=0))):=by
 refine⟨h.cl,h.ser,h.form,h.dv,fun k hk=>?_⟩
 rw[OL]at hk
 by_cases e:k<T.grd.length
 ·rw[show(T.guard r (decide (T.at r=0))).grd.getD k Bt.zero=T.grd.getD k Bt.zero from Ik e];exact h.gd k e
 ·rw[show(T.guard r (decide (T.at r=0))).grd.getD k Bt.zero=⟨r,decide (T.at r=0)⟩from IP (by omega)];exact⟨hr,rfl⟩
theorem If.put {R:Tp→Int→Sr→Prop}{c:Am}{v:Int}{z:Sr}{t:Nat}(h:D5 m A T)(hz:DZ m A (AZ m A T.code) c=z)(hs:C9 m z)(hv:z.getD 0 0=v)(hf:C3 A.length T.code.length c)(hd:c.op=6→T.at c.b≠0)
  (hR:∀T' r z,Oe m A T' r z→R T' r z):If m A T R (.ok (((T.vals.length:Nat):Int),T.put c v) t) (.ok z t):=by
 subst hz
 refine If.ret (h.put hs hv hf hd) (TE.put T c v)<|hR _ _ _ ⟨by rw[H8];omega,?_⟩
 rw[Int.toNat_natCast,← h.cl];exact(MW _ _).symm
theorem aU (hm:1≤m)(h:D5 m A T){k:Int}{n t:Nat}{rs:List Int}{zsq:List Sr}(hr:MX m A n T rs zsq)(hk:3≤k∧k≤7)(h1:k=7→1≤n)(h2:k≠7→2≤n):If m A T (Oe m A) (Tb k rs t T) (Pm k zsq t):=by
 have hn1:1≤n:=by by_cases e:k=7;exact h1 e;have:=h2 e;omega
 have ha:=hr.2.2 0 zO
 have hA:=ha.at h
 have hal:=hA.1.1
 have hac:=ha.1
 have hcl:=h.cl
 have fin:∀T' r z,Oe m A T' r z→Oe m A T' r z:=fun _ _ _ h=>h
 by_cases k7:k=7
 ·subst k7
  rw[IS (Xe rfl),Tk rfl]
  refine If.put h ?_ ⟨(Lf _ _).trans hal,HG _ _⟩ ?_ (C3.neg zO) (fun h6=>absurd (show(7:Int)=6 from h6) (by decide)) fin
  ·rw[ha.2];rfl
  ·rw[Xj zO,hA.2]
   show md (T.at (rs.getD 0 0)*1000002)=md (0-T.at (rs.getD 0 0))
   unfold md;omega
 have hb:=hr.2.2 1<|h2 k7
 have hB:=hb.at h
 have hbl:=hB.1.1
 have hbc:=hb.1
 by_cases k3:k=3
 ·subst k3
  rw[IS (fun h=>h.1 rfl),H7 (by decide)]
  refine If.put h ?_ ⟨(Le _ _).trans hal,Oy _ _⟩ ?_ (C3.bin (.inl rfl) zO zO) (fun h6=>absurd (show(3:Int)=6 from h6) (by decide)) fin
  ·rw[ha.2,hb.2];rfl
  ·rw[Xi zO,hA.2,hB.2];rfl
 by_cases k4:k=4
 ·subst k4
  rw[IS (fun h=>h.2.1 rfl),H7 (by decide)]
  refine If.put h ?_ ⟨(Ox _ _).trans hal,Oz _ _⟩ ?_ (C3.bin (.inr<|.inl rfl) zO zO) (fun h6=>absurd (show(4:Int)=6 from h6) (by decide)) fin
  ·rw[ha.2,hb.2];rfl
  ·rw[aR zO,hA.2,hB.2];rfl
 by_cases k5:k=5
 ·subst k5
  rw[IS (fun h=>h.2.2.1 rfl),H7 (by decide)]
  refine If.put h ?_ ⟨(Lc _ _).trans hal,Jq _ _⟩ ?_ (C3.bin (.inr<|.inr<|.inl rfl) zO zO) (fun h6=>absurd (show(5:Int)=6 from h6) (by decide)) fin
  ·rw[ha.2,hb.2];rfl
  ·rw[Lr zO,hA.2,hB.2,Int.zero_add];rfl
 have k6:k=6:=by omega
 subst k6
 by_cases hz:T.at (rs.getD 1 0)=0
 ·rw[R0 (by rw[H7 (by decide)];exact⟨by decide,by decide,by decide,by decide,hz⟩)]
  show Pm 6 zsq t=.err 6
  show(if (zsq.getD 1 []).getD 0 0=0 then _ else _)=_
  rw[if_pos (by rw[hB.2];exact hz)]
 ·rw[IS (by rw[H7 (by decide)];exact fun h9=>hz h9.2.2.2.2),H7 (by decide)]
  have e:Pm 6 zsq t=.ok (Cq (zsq.getD 0 []) (zsq.getD 1 [])) t:=by
   show(if (zsq.getD 1 []).getD 0 0=0 then _ else _)=_
   rw[if_neg (by rw[hB.2];exact hz)]
  rw[e]
  refine If.put h ?_ ⟨(Gz _ _).trans hal,HF _ _⟩ ?_ (C3.bin (.inr<|.inr<|.inr rfl) zO zO) (fun _=>hz) fin
  ·rw[ha.2,hb.2];rfl
  ·rw[OQ zO,hA.2,hB.2];rfl
end
structure fb (m:Nat)(A:List Sr)(p:List Fn)(F:Nat)(G:Cg)(C:Ca):Prop where
 one:∀f j n T rs zsq t,f<F→j<(p.getD f Fn.zero).outs.length→D5 m A T→MX m A n T rs zsq→((n:Nat):Int)=(p.getD f Fn.zero).params→If m A T (Oe m A) (G.one f j rs t T) (C.one f j zsq t)
 all:∀f n T rs zsq t,f<F→D5 m A T→MX m A n T rs zsq→((n:Nat):Int)=(p.getD f Fn.zero).params→If m A T (MX m A (p.getD f Fn.zero).outs.length) (G.all f rs t T) (C.all f zsq t)
section
variable {m:Nat} {A:List Sr} {p:List Fn}
theorem Tx {G:Cg}{C:Ca}{env:List Int}{ez:List Sr}{n:Nat}:∀(l:List Ex),(∀e∈l,∀s T,D5 m A T→MX m A n T env ez→If m A T (Oe m A) (Hr G e env s T) (Gh m C e ez s))→∀s T,D5 m A T→MX m A n T env ez→If m A T (MX m A l.length) (Id G l env s T) (G5 m C l ez s)
 |[],_,s,T,hI,he=>by
  rw[Id,G5]
  exact If.ret hI (TE.refl T) ⟨rfl,rfl,fun i hi=>absurd hi<|Nat.not_lt_zero i⟩
 |e::l,h,s,T,hI,he=>by
  rw[Id,G5]
  refine (h e (by simp) s T hI he).bind fun x T1 z t h1 h2 h3=>?_
  refine (Tx l (fun e' he'=>h e' (by simp[he'])) t T1 h1<|he.mono hI.cl h2).bind fun xs T2 zsq u q1 q2 q3=>?_
  refine If.ret q1 (TE.refl T2) ⟨by simp[q3.1],by simp[q3.2.1],fun i hi=>?_⟩
  cases i with
  |zero=>exact h3.mono h1.cl q2
  |succ i=>exact q3.2.2 i (by simpa using hi)
theorem Ty {F f:Nat}{G:Cg}{C:Ca}(hC:fb m A p F G C)(hf:f<F)(ho:(((p.getD f Fn.zero).outs.length:Nat):Int)=(p.getD f Fn.zero).params):∀(c:Nat)(rs:List Int)(zsq:List Sr)(t:Nat)(T:Tp),D5 m A T→MX m A (p.getD f Fn.zero).outs.length T rs zsq →
  If m A T (MX m A (p.getD f Fn.zero).outs.length) (IR (G.all f) c rs t T) (Sb (C.all f) c zsq t)
 |0,rs,zsq,t,T,hI,h=>If.ret hI (TE.refl T) h
 |c+1,rs,zsq,t,T,hI,h=>(Ty hC hf ho c rs zsq t T hI h).bind fun x T1 z u h1 h2 h3=>hC.all f _ T1 x z u hf h1 h3 ho
theorem Tz (hm:1≤m){F:Nat}{G:Cg}{C:Ca}(hC:fb m A p F G C):∀(z:Nat)(e:Ex),e.size≤z→∀(n:Nat)(env:List Int)(ez:List Sr)(s:Nat)(T:Tp),wf p ((F:Nat):Int) e ((n:Nat):Int)=true→D5 m A T→MX m A n T env ez →
  If m A T (Oe m A) (Hr G e env s T) (Gh m C e ez s)
 |0,e,h,_,_,_,_,_,_,_,_=>by have:=FC e;omega
 |z+1,e,h,n,env,ez,s,T,hw,hI,he=>by
  obtain⟨w1,w2,w3,w4,w5,w6,w7,w8⟩:=E2 (DM hw)
  have hz:∀j,j<e.kids.length→(e.kids.getD j Ex.zero).size≤z:=fun j hj=>by
   have:=FC e;have:=Ok hj;omega
  have hk:∀j,j<e.kids.length→¬(e.kind=9∧j=1)→∀t T',D5 m A T'→MX m A n T' env ez→If m A T' (Oe m A) (PH G e.kids j env t T') (Px m C e.kids j ez t):=fun j hj hn t T' h1 h2=>by
   rw[FM _ _ _ _ _ _ hj,Gi _ _ _ _ _ _ hj]
   exact Tz hm hC z _ (hz j hj) n env ez t T' (HL hw hj hn) h1 h2
  rw[H6,HK]
  by_cases hs3:3000≤s
  ·rw[if_pos hs3,if_pos hs3];exact rfl
  rw[if_neg hs3,if_neg hs3]
  by_cases k1:e.kind=1
  ·rw[if_pos k1,if_pos k1]
   have:=w8 k1
   exact If.put hI rfl (Fx<|Cz.2 this) (R2 hm) (.inr<|.inl ⟨rfl,rfl,rfl,this⟩) (fun h6=>absurd (show(2:Int)=6 from h6) (by decide)) fun _ _ _ h=>h
  rw[if_neg k1,if_neg k1]
  by_cases k2:e.kind=2
  ·rw[if_pos k2,if_pos k2]
   exact If.ret hI (TE.refl T)<|he.2.2 _ (by have:=w2 k2;omega)
  rw[if_neg k2,if_neg k2]
  by_cases k8:e.kind=8
  ·rw[if_pos k8,if_pos k8]
   have h3:=w5 k8
   refine (hk 0 zO zO (s+1) T hI he).bind fun x T1 y t h1 h2 hx=>?_
   have hq:=(hx.at h1).2
   have he1:=he.mono hI.cl h2
   dsimp only
   have fin:∀ {r:Rs RI} {rz:Rs Sr} {b:Bool},If m A (T1.guard x b) (Oe m A) r rz→If m A T1 (Oe m A) r rz:=fun {r rz b} hh=>by
    cases r with
    |err c=>exact hh
    |ok v u=>obtain⟨q,a1,a2,a3,a4⟩:=hh;exact⟨q,a1,a2,(TE.guard T1 x b).trans a3,a4⟩
   have hg:=h1.guard hx.1
   by_cases h0:T1.at x=0
   ·rw[if_pos h0,if_pos (by rw[hq];exact h0)]
    rw[A7 h0]at hg
    exact fin<|hk 1 zO zO t _ hg<|he1.mono h1.cl<|TE.guard T1 x true
   ·rw[if_neg h0,if_neg (by rw[hq];exact h0)]
    rw[A8 h0]at hg
    exact fin<|hk 2 zO zO t _ hg<|he1.mono h1.cl<|TE.guard T1 x false
  rw[if_neg k8,if_neg k8]
  by_cases k9:e.kind=9
  ·rw[if_pos k9,if_pos k9]
   have h3:=w3 zO
   refine (hk 0 zO zO (s+1) T hI he).bind fun x T1 y t h1 h2 hx=>?_
   dsimp only
   rw[FM _ _ _ _ _ _ (show 1<e.kids.length by omega),Gi _ _ _ _ _ _ (show 1<e.kids.length by omega)]
   refine Tz hm hC z _ (hz 1 zO) (n+1) (env++[x]) (ez++[y]) t T1 ?_ h1<|(he.mono hI.cl h2).snoc hx
   have:=Py hw zO k9
   rw[Int.natCast_add];exact this
  rw[if_neg k9,if_neg k9]
  have hc:=Tx (G:=G) (C:=C) (env:=env) (ez:=ez) (n:=n) e.kids (fun x hx t T' h1 h2=>by
   obtain⟨j,hj,rfl⟩:=List.mem_iff_getElem.1 hx
   have:=hk j hj zO t T' h1 h2
   rw[FM _ _ _ _ _ _ hj,Gi _ _ _ _ _ _ hj,Jr hj]at this
   exact this) (s+1) T hI he
  refine hc.bind fun xs T1 zsq t h1 h2 hx=>?_
  dsimp only
  by_cases k10:e.kind=10
  ·rw[if_pos k10,if_pos k10]
   have h6:=w6<|.inl k10
   exact hC.one _ _ _ T1 xs zsq t zO zO h1 hx (by exact h6.2.2.1)
  rw[if_neg k10,if_neg k10]
  by_cases k11:e.kind=11
  ·rw[if_pos k11,if_pos k11]
   have h6:=w6 (.inr k11);have h7:=w7 k11
   have hl:e.kids.length=(p.getD e.num.toNat Fn.zero).outs.length:=by omega
   rw[hl]at hx
   refine (Ty hC (f:=e.num.toNat) zO h7.1 e.count.toNat xs zsq t T1 h1 hx).bind fun ys T2 ws u q1 q2 q3=>?_
   exact If.ret q1 (TE.refl T2)<|q3.2.2 _ zO
  rw[if_neg k11,if_neg k11]
  exact aU hm h1 hx zO (fun h7=>by rw[w4 h7];decide) fun h7=>by rw[w3 (by omega)];decide
theorem Xn (hm:1≤m)(hv:Od p):∀F,F≤p.length→fb m A p F (Kx p F) (Iy p m F)
 |0,_=>⟨fun f j n T rs zsq t h=>by omega,fun f n T rs zsq t h=>by omega⟩
 |F+1,hF=>by
  have ih:=Xn hm hv F zO
  have hO:∀j n T rs zsq t,j<(p.getD F Fn.zero).outs.length→D5 m A T→MX m A n T rs zsq→((n:Nat):Int)=(p.getD F Fn.zero).params→If m A T (Oe m A) (Hr (Kx p F) ((p.getD F Fn.zero).outs.getD j Ex.zero) rs t T) (Gh m (Iy p m F) ((p.getD F Fn.zero).outs.getD j Ex.zero) zsq t):=fun j n T rs zsq t h2 h1 h3 h4 =>
   Tz hm ih _ _ (A9 _) n rs zsq t T (by rw[h4];exact hv.wf F zO j h2) h1 h3
  refine⟨fun f j n T rs zsq t h1 h2 h0 h3 h4=>?_,fun f n T rs zsq t h1 h0 h3 h4=>?_⟩
  ·show If m A T _ (if f=F then _ else _) (if f=F then _ else _)
   by_cases e:f=F
   ·subst e;rw[if_pos rfl,if_pos rfl];exact hO j n T rs zsq t h2 h0 h3 h4
   ·rw[if_neg e,if_neg e];exact ih.one f j n T rs zsq t zO h2 h0 h3 h4
  ·show If m A T _ (if f=F then _ else _) (if f=F then _ else _)
   by_cases e:f=F
   ·subst e;rw[if_pos rfl,if_pos rfl]
    refine Tx (n:=n) _ (fun e he s T' h5 h6=>?_) t T h0 h3
    obtain⟨j,hj,rfl⟩:=List.mem_iff_getElem.1 he
    have:=hO j n T' rs zsq s hj h5 h6 h4
    rwa [Jr hj]at this
   ·rw[if_neg e,if_neg e];exact ih.all f n T rs zsq t zO h0 h3 h4
theorem Xo {a:List Int}(hn:Bj a=true)(hA:PL m a A):∀k,k≤a.length→D5 m A (Ju a k)
 |0,_=>⟨rfl,fun k hk=>absurd hk (Nat.not_lt_zero k),fun k hk=>absurd hk (Nat.not_lt_zero k),fun k hk=>absurd hk (Nat.not_lt_zero k),fun k hk=>absurd hk (Nat.not_lt_zero k)⟩
 |k+1,h=>by
  have e:DZ m A (AZ m A (Ju a k).code) ⟨1,0,0,((k:Nat):Int)⟩=A.getD k []:=by
   show A.getD (((k:Nat):Int)).toNat []=_
   rw[Int.toNat_natCast]
  refine (Xo hn hA k zO).put ?_ ?_ (.inl ⟨rfl,rfl,rfl,Int.natCast_nonneg k,by rw[hA.len];exact Int.ofNat_lt.2 h⟩) fun h6=>absurd (show(1:Int)=6 from h6) (by decide)
  ·rw[e];exact hA.ser k h
  ·rw[e];exact hA.at0 k h
theorem aV {a:List Int}(hA:PL m a A):MX m A a.length (Ju a a.length) (Hs a.length) A:=by
 have hr:∀k,k≤a.length→∀j,j<k→(AZ m A (Ju a k).code).getD j []=A.getD j []:=fun k=>by
  induction k with
  |zero=>exact fun _ j hj=>absurd hj (Nat.not_lt_zero j)
  |succ k ih =>
   intro hk j hj
   show(AZ m A ((Ju a k).code++[_])).getD j []=_
   rw[GG]
   by_cases e:j=k
   ·rw[IP (by rw[Bp,Nv];exact e),e]
    show A.getD (((k:Nat):Int)).toNat []=_
    rw[Int.toNat_natCast]
   ·rw[Ik (by rw[Bp,Nv];omega)];exact ih zO j zO
 refine⟨GF _,hA.len,fun i hi=>?_⟩
 rw[OM hi]
 exact⟨by rw[K2];omega,by rw[Int.toNat_natCast,hr _ (A9 _) i hi]⟩
theorem TA {a:List Int}{f:Nat}(hm:1≤m)(hv:Od p)(hf:f<p.length)(hn:Bj a=true)(hA:PL m a A)(hl:((a.length:Nat):Int)=(p.getD f Fn.zero).params) :
  If m A (Ju a a.length) (MX m A (p.getD f Fn.zero).outs.length) (S0 p f a) (ev p m f A):=by
 have h:=(Xn (A:=A) hm hv (f+1) zO).all f a.length (Ju a a.length) (Hs a.length) A 0 zO (Xo hn hA _<|A9 _) (aV hA) hl
 rw[Nu (show f<f+1 by omega),No (show f<f+1 by omega)]at h
 exact h
theorem OT {a:List Int}{f:Nat}(hm:1≤m)(hv:Od p)(hf:f<p.length)(hn:Bj a=true)(hA:PL m a A)(hl:((a.length:Nat):Int)=(p.getD f Fn.zero).params){xs:List Int}{T:Tp}{s:Nat}{c:Int}(h:AY (S0 p f a) (xs,T) s c):T3 p m f A=c:=by
 have hT:=TA hm hv hf hn hA hl
 cases hr:S0 p f a with
 |err d =>
  rw[hr]at h hT
  have h9:ev p m f A=.err d:=hT
  rw[OF h9];exact h.1.symm
 |ok x t =>
  rw[hr]at h hT
  obtain⟨z,h1,_⟩:=hT
  rw[QR h1];exact h.2.2.symm
theorem TB {a:List Int}{f:Nat}(hm:1≤m)(hv:Od p)(hf:f<p.length)(hn:Bj a=true)(hA:PL m a A)(hl:((a.length:Nat):Int)=(p.getD f Fn.zero).params){xs:List Int}{T:Tp}{s:Nat}{c:Int}(h:AY (S0 p f a) (xs,T) s c)(hc:c=0) :
  D5 m A T∧UD p m f A=xs.map fun r=>(AZ m A T.code).getD r.toNat []:=by
 have hT:=TA hm hv hf hn hA hl
 subst hc
 have hr:=h.ok
 rw[hr]at hT
 obtain⟨z,h1,h2,h3,h4⟩:=hT
 refine⟨h2,?_⟩
 rw[QQ h1]
 refine f7 (by rw[h4.2.1,zg,h4.1]) fun i hi=>?_
 rw[h4.2.1]at hi
 rw[CC (d:=0) (by rw[h4.1];exact hi)]
 exact (h4.2.2 i hi).2
end
end
section
def EY (m:Nat)(A:List Sr)(cs:List Am)(k:Nat):Prop:=∀j,j<k→(cs.getD j Am.zero).op=6→((AZ m A (cs.take j)).getD (cs.getD j Am.zero).b.toNat []).getD 0 0≠0
section
variable {m k:Nat} {A R:List Sr} {cs:List Am} {c:Am}
theorem DN (hk:k<cs.length):AZ m A (cs.take (k+1))=AZ m A (cs.take k)++[DZ m A (AZ m A (cs.take k)) (cs.getD k Am.zero)]:=by
 rw[CA Am.zero hk,GG]
theorem En (h:c.op=1):DZ m A R c=A.getD c.num.toNat []:=if_pos h
theorem EZ (h:c.op=3):DZ m A R c=EU (R.getD c.a.toNat []) (R.getD c.b.toNat []):=by unfold DZ;rw[if_neg zO,if_pos h]
theorem GH (h:c.op=4):DZ m A R c=GA (R.getD c.a.toNat []) (R.getD c.b.toNat []):=by unfold DZ;rw[if_neg zO,if_neg zO,if_pos h]
theorem Fb (h:c.op=5):DZ m A R c=CF (R.getD c.a.toNat []) (R.getD c.b.toNat []):=by unfold DZ;rw[if_neg zO,if_neg zO,if_neg zO,if_pos h]
theorem Di (h:c.op=7):DZ m A R c=D8 (R.getD c.a.toNat []) 1000002:=by unfold DZ;rw[if_neg zO,if_neg zO,if_neg zO,if_neg zO,if_pos h]
theorem GI (h:c.op=6):DZ m A R c=Cq (R.getD c.a.toNat []) (R.getD c.b.toNat []):=by unfold DZ;rw[if_neg zO,if_neg zO,if_neg zO,if_neg zO,if_neg zO,if_pos h]
theorem CY (h:c.op≠1∧c.op≠3∧c.op≠4∧c.op≠5∧c.op≠7∧c.op≠6):DZ m A R c=Fj m c.num:=by
 unfold DZ;rw[if_neg h.1,if_neg h.2.1,if_neg h.2.2.1,if_neg h.2.2.2.1,if_neg h.2.2.2.2.1,if_neg h.2.2.2.2.2]
theorem TC (hA:CG m A)(hR:CG m R)(hl:R.length=k)(h:C3 A.length k c):C9 m (DZ m A R c):=by
 have hg:∀x:Int,0≤x→x<((k:Nat):Int)→C9 m (R.getD x.toNat []):=fun x h0 h1=>hR _ zO
 rcases h with⟨h1,_,_,h2,h3⟩|⟨h1,_,_,h2,h3⟩|⟨h1,h2,h3,_⟩|⟨h1,h2,_⟩
 ·rw[En h1];exact hA _ zO
 ·rw[CY (by omega)];exact Fx (Cz.2 ⟨h2,h3⟩)
 ·have ha:=hg c.a h2.1 h2.2
  rcases h1 with h1|h1|h1|h1
  ·rw[EZ h1];exact EW ha
  ·rw[GH h1];exact Lh ha
  ·rw[Fb h1];exact EX ha
  ·rw[GI h1];exact FL ha
 ·rw[Di h1];exact Li (hg c.a h2.1 h2.2)
theorem R3 (h:CG m (AZ m A (cs.take k)))(hA:CG m A)(hf:C3 A.length k (cs.getD k Am.zero))(hk:k<cs.length):CG m (AZ m A (cs.take (k+1))):=by
 rw[DN hk]
 exact CG.snoc h<|TC hA h (by rw[Bp,List.length_take];omega) hf
theorem Z2:EY m A cs 0:=fun j hj=>absurd hj (Nat.not_lt_zero j)
theorem Vm (h:EY m A cs k)(hk:(cs.getD k Am.zero).op≠6):EY m A cs (k+1):=fun j hj h6=>by
 by_cases e:j=k
 ·subst e;exact absurd h6 hk
 ·exact h j zO h6
theorem Vn (h:EY m A cs k)(hk:((AZ m A (cs.take k)).getD (cs.getD k Am.zero).b.toNat []).getD 0 0≠0):EY m A cs (k+1):=fun j hj h6=>by
 by_cases e:j=k
 ·subst e;exact hk
 ·exact h j zO h6
theorem TD {n:Nat}(hk:k<n)(h6:(cs.getD k Am.zero).op=6)(hz:((AZ m A (cs.take k)).getD (cs.getD k Am.zero).b.toNat []).getD 0 0=0):¬EY m A cs n:=fun h=>h k hk h6 hz
end
theorem D5.nz {m:Nat}{A:List Sr}{T:Tp}(h:D5 m A T):EY m A T.code T.code.length:=fun j hj h6=>by
 have hf:=h.form j hj
 have hd:=h.dv j hj h6
 unfold C3 at hf
 have hb:(T.code.getD j Am.zero).b.toNat<j:=by omega
 have hs:=(h.ser (T.code.getD j Am.zero).b.toNat zO).2
 have e:(AZ m A (T.code.take j)).getD (T.code.getD j Am.zero).b.toNat []=(AZ m A T.code).getD (T.code.getD j Am.zero).b.toNat []:=by
  have h9:=Lt (m:=m) (A:=A) (T.code.take j) (T.code.drop j) (k:=(T.code.getD j Am.zero).b.toNat) (by rw[List.length_take];omega)
  rw[List.take_append_drop]at h9
  exact h9.symm
 rw[e,hs]
 exact hd
section io
variable {ni k:Nat} {c:Am}
theorem C3.i1 (h:C3 ni k c)(h1:c.op=1):(0≤c.num∧c.num<((ni:Nat):Int)):=by unfold C3 at h;omega
theorem C3.i2 (h:C3 ni k c)(h1:3≤c.op∧c.op≤6):(0≤c.a∧c.a<((k:Nat):Int))∧(0≤c.b∧c.b<((k:Nat):Int)):=by unfold C3 at h;omega
theorem C3.i7 (h:C3 ni k c)(h1:c.op=7):(0≤c.a∧c.a<((k:Nat):Int)):=by unfold C3 at h;omega
theorem C3.i0 (h:C3 ni k c):1≤c.op∧c.op≤7:=by unfold C3 at h;omega
end io
theorem DG {S:List Nat}{H:Array Obj}{cs:List Value}{x:Am}(h:RN S Gs H cs x):cs=Mf x∧GE x:=by
 obtain⟨F,h,_⟩:=h
 exact⟨h.1,h.2.1⟩
theorem HN {S:List Nat}{H:Array Obj}{cs:List Value}{x:Bt}(h:RN S FV H cs x):cs=QX x∧Bd x.reg:=by
 obtain⟨F,h,_⟩:=h
 exact⟨h.1,h.2.1⟩
def PM (m:Nat)(A:List Sr)(cs:List Am)(c:Int):Prop:=(c=0∧EY m A cs cs.length)∨(c=6∧¬EY m A cs cs.length)
end
section
def Fz (B:List Sr)(r:Int)(s:Sr):List Sr:=B.set r.toNat (EU (B.getD r.toNat []) s)
def MY (cs:List Am)(R:List Sr)(k:Nat)(B:List Sr):List Sr :=
 if (cs.getD k Am.zero).op=3 then Fz (Fz B (cs.getD k Am.zero).a (B.getD k [])) (cs.getD k Am.zero).b (B.getD k [])
 else if (cs.getD k Am.zero).op=4 then Fz (Fz B (cs.getD k Am.zero).a (B.getD k [])) (cs.getD k Am.zero).b (D8 (B.getD k []) 1000002)
 else if (cs.getD k Am.zero).op=5 then Fz (Fz B (cs.getD k Am.zero).a (CF (B.getD k []) (R.getD (cs.getD k Am.zero).b.toNat []))) (cs.getD k Am.zero).b (CF (B.getD k []) (R.getD (cs.getD k Am.zero).a.toNat []))
 else if (cs.getD k Am.zero).op=6 then Fz (Fz B (cs.getD k Am.zero).a (Cq (B.getD k []) (R.getD (cs.getD k Am.zero).b.toNat []))) (cs.getD k Am.zero).b (D8 (CF (Cq (B.getD k []) (R.getD (cs.getD k Am.zero).b.toNat [])) (R.getD k [])) 1000002)
 else if (cs.getD k Am.zero).op=7 then Fz B (cs.getD k Am.zero).a (D8 (B.getD k []) 1000002)else B
def Sd (cs:List Am)(R:List Sr):Nat→List Sr→List Sr
 |0,B=>B
 |k+1,B=>Sd cs R k (MY cs R k B)
def Mg (os:List Int)(ws:List Int):Nat→List Sr→List Sr
 |0,B=>B
 |k+1,B=>(Mg os ws k B).set (os.getD k 0).toNat (((Mg os ws k B).getD (os.getD k 0).toNat []).set 0 (md (((Mg os ws k B).getD (os.getD k 0).toNat []).getD 0 0+ws.getD k 0)))
def Jw (R:List Sr):List Sr:=R.map fun s=>List.replicate s.length 0
def Jy (cs:List Am)(R:List Sr)(os ws:List Int):List Sr:=Sd cs R cs.length (Mg os ws os.length (Jw R))
section
variable {m:Nat} {cs:List Am} {R B:List Sr} {os ws:List Int}
theorem Ha (h:CG m R):CG m (Jw R):=fun k hk=>by
 have hk':k<R.length:=by unfold Jw at hk;simpa using hk
 have e:(Jw R).getD k []=List.replicate (R.getD k []).length 0:=by unfold Jw;simp[List.getD_eq_getElem?_getD,List.getElem?_map,hk']
 rw[e]
 exact⟨by rw[z5];exact(h k hk').1,GB _⟩
@[simp] theorem D9:(Jw R).length=R.length:=by simp[Jw]
@[simp] theorem Eo (k:Nat):(Mg os ws k B).length=B.length:=by
 induction k with
 |zero=>rfl
 |succ k ih=>show((Mg os ws k B).set _ _).length=_;rw[z6,ih]
theorem CG.set {k:Nat}{s:Sr}(h:CG m B)(hs:C9 m s):CG m (B.set k s):=fun j hj=>by
 rw[z6]at hj
 by_cases e:j=k
 ·rw[e,DX _ _ _ _ _ zO,if_pos rfl];exact hs
 ·rw[show(B.set k s).getD j []=B.getD j []from by rw[List.getD_eq_getElem?_getD,List.getElem?_set_ne (fun h=>e h.symm),← List.getD_eq_getElem?_getD]];exact h j hj
theorem K4 {s:Sr}{y:Int}(h:Bj s=true)(hy:0≤y∧y<1000003):Bj (s.set 0 y)=true:=by
 cases s with
 |nil=>rfl
 |cons x s =>
  rw[List.set_cons_zero]
  unfold Bj at h ⊢
  rw[List.all_cons]at h ⊢
  have:=Bool.and_eq_true_iff.1 h
  rw[this.2,Bool.and_true]
  exact Cz.2 hy
theorem Ig (h:CG m B)(ho:∀k,k<os.length→(os.getD k 0).toNat<B.length):∀k,k≤os.length→CG m (Mg os ws k B)
 |0,_=>h
 |k+1,hk=>by
  have ih:=Ig h ho k zO
  have h9:=ih (os.getD k 0).toNat (by rw[Eo];exact ho k zO)
  exact ih.set ⟨by rw[z6];exact h9.1,K4 h9.2<|Cd _⟩
@[simp] theorem C7 {r:Int}{s:Sr}:(Fz B r s).length=B.length:=by unfold Fz;rw[z6]
theorem Da {r:Int}{s:Sr}(h:CG m B)(hr:r.toNat<B.length):CG m (Fz B r s):=h.set (EW (h _ hr))
theorem KT (k:Nat):(MY cs R k B).length=B.length:=by
 unfold MY
 split
 ·rw[C7,C7]
 ·split
  ·rw[C7,C7]
  ·split
   ·rw[C7,C7]
   ·split
    ·rw[C7,C7]
    ·split
     ·rw[C7]
     ·rfl
theorem Hb {ni k:Nat}(h:CG m B)(hk:k≤B.length)(hf:C3 ni k (cs.getD k Am.zero)):CG m (MY cs R k B):=by
 have h2:=fun h9=>hf.i2 h9
 have h7:=fun h9=>hf.i7 h9
 unfold MY
 split
 ·have:=h2 (by omega);exact Da (Da h zO) (by rw[C7];omega)
 ·split
  ·have:=h2 (by omega);exact Da (Da h zO) (by rw[C7];omega)
  ·split
   ·have:=h2 (by omega);exact Da (Da h zO) (by rw[C7];omega)
   ·split
    ·have:=h2 (by omega);exact Da (Da h zO) (by rw[C7];omega)
    ·split
     ·have:=h7 (by omega);exact Da h zO
     ·exact h
theorem R4:∀(n:Nat)(B:List Sr),(Sd cs R n B).length=B.length
 |0,_=>rfl
 |n+1,B=>by show(Sd cs R n _).length=_;rw[R4 n,KT]
theorem R5 {ni:Nat}(hf:∀k,k<cs.length→C3 ni k (cs.getD k Am.zero)):∀(n:Nat)(B:List Sr),n≤cs.length→n≤B.length→CG m B→CG m (Sd cs R n B)
 |0,_,_,_,h=>h
 |n+1,B,hn,hb,h=>R5 hf n _ zO (by rw[KT];omega) (Hb h zO (hf n zO))
theorem OU {k:Nat}(h:(cs.getD k Am.zero).op=3):MY cs R k B=Fz (Fz B (cs.getD k Am.zero).a (B.getD k [])) (cs.getD k Am.zero).b (B.getD k []):=if_pos h
theorem OV {k:Nat}(h:(cs.getD k Am.zero).op=4):MY cs R k B=Fz (Fz B (cs.getD k Am.zero).a (B.getD k [])) (cs.getD k Am.zero).b (D8 (B.getD k []) 1000002):=by unfold MY;rw[if_neg zO,if_pos h]
theorem OW {k:Nat}(h:(cs.getD k Am.zero).op=5):MY cs R k B=Fz (Fz B (cs.getD k Am.zero).a (CF (B.getD k []) (R.getD (cs.getD k Am.zero).b.toNat []))) (cs.getD k Am.zero).b (CF (B.getD k []) (R.getD (cs.getD k Am.zero).a.toNat [])):=by unfold MY;rw[if_neg zO,if_neg zO,if_pos h]
theorem OX {k:Nat}(h:(cs.getD k Am.zero).op=6):MY cs R k B=Fz (Fz B (cs.getD k Am.zero).a (Cq (B.getD k []) (R.getD (cs.getD k Am.zero).b.toNat []))) (cs.getD k Am.zero).b (D8 (CF (Cq (B.getD k []) (R.getD (cs.getD k Am.zero).b.toNat [])) (R.getD k [])) 1000002):=by
 unfold MY;rw[if_neg zO,if_neg zO,if_neg zO,if_pos h]
theorem OY {k:Nat}(h:(cs.getD k Am.zero).op=7):MY cs R k B=Fz B (cs.getD k Am.zero).a (D8 (B.getD k []) 1000002):=by unfold MY;rw[if_neg zO,if_neg zO,if_neg zO,if_neg zO,if_pos h]
theorem OZ {k:Nat}(h:(cs.getD k Am.zero).op<3∨7<(cs.getD k Am.zero).op):MY cs R k B=B:=by unfold MY;rw[if_neg zO,if_neg zO,if_neg zO,if_neg zO,if_neg (by omega)]
theorem GJ {n k:Nat}{D B':List Sr}(h:Sd cs R n B=D)(hn:n=k+1)(hi:MY cs R k B=B'):Sd cs R k B'=D:=by
 subst hn
 rw[← hi];exact h
end
theorem Nz {e:TypeId}{H:Array Obj}{v:Value}{us:List Value}{F:List Nat}(h:BD rV e H v us F)(hl:0<us.length):∃g cap,F=[g]∧v=.slice (some ⟨g,0,none⟩) us.length cap∧∀k,k<us.length→Hp H (AE v k 1)=some (us.getD k undef):=by
 rcases h with⟨_,rfl,_⟩|⟨vs,g,cap,cur,F',hels,rfl,hg,r1,r2,r3,r4,rfl⟩
 ·simp at hl
 ·obtain⟨rfl,rfl⟩:=H2 hels
  refine⟨g,cap,rfl,rfl,fun k hk=>?_⟩
  have hu:vs[k]? = some (vs.getD k undef):=by simp[List.getD_eq_getElem?_getD,hk]
  rw[GW]
  simp only[Hp,Cn,hg,Nat.zero_add]
  rw[← r4,List.getElem?_take,if_pos hk]at hu
  rw[r4]at hu
  simpa using hu
section
variable {e:TypeId} {B:Nat} {w w':World} {v:Value} {xs:List (List Int)} {us:List Value} {F:List Nat}
theorem I8.getF {S:List Nat}{H:Array Obj}(h:I8 e S B H v xs us F){k:Nat}(hk:k<xs.length):∃u,Hp H (AE v k 1)=some u∧RN (S++F) (Bl rI) H u (xs.getD k []):=by
 obtain⟨g,cap,_,_,h3⟩:=Nz h.own (by rw[h.len];omega)
 exact⟨_,h3 k (by rw[h.len];exact hk),h.els k hk⟩
theorem I8.ofFr {S:List Nat}{e1:TypeId}{U:Nat}{H:Array Obj}(h:Fr (BD (BD rI e1) e) B U H v xs)(hS:∀b∈S,b<B):∃us F,I8 e S B H v xs us F∧∀b∈F,b<U:=by
 obtain⟨F,h1,h2,h3⟩:=h
 rcases h1 with⟨rfl,rfl,rfl⟩|⟨us,g,cap,cur,F',hels,rfl,hg,r1,r2,r3,r4,rfl⟩
 ·exact⟨[],[],⟨.inl ⟨rfl,rfl,rfl⟩,zk,(fun b hb=>absurd hb z2),rfl,(fun k hk=>absurd hk (Nat.not_lt_zero k))⟩,(fun b hb=>absurd hb z2)⟩
 ·have hl:=hels.length
  have hn:=List.nodup_cons.1 h2
  refine⟨us,[g],⟨.inr ⟨us,g,cap,cur,[],L8 (hels.cells1 o1),by rw[hl],hg,zO,r2,r3,by rw[hl];exact r4,rfl⟩,by simp,fun b hb=>?_,hl,fun k hk=>?_⟩,fun b hb=>?_⟩
  ·have:=h3 b (by rw[Ab hb];exact z0 ..);omega
  ·obtain⟨u,G,hu,q1,q2,q3,_⟩:=hels.at_ (k:=k) [] hk hn.2
   have e1:us.getD k undef=u:=by simp[List.getD_eq_getElem?_getD,hu]
   rw[e1]
   exact⟨G,q1.rd id,fun b hb hm=>by
    have hb':=q3 b hb
    rcases zi.1 hm with hm|hm
    ·have h8:=hS b hm
     have h9:=(h3 b<|z3 _ hb').1
     omega
    ·rw[Ab hm]at hb'
     exact hn.1 hb'⟩
  ·exact (h3 b (by rw[Ab hb];exact z0 ..)).2
end
section ops
variable {P:Program} {ops:Array Oper} {w0:World} {Q:Act→World→Prop} {os:List Oper} {ks:List Nat} {N:Nat} {ρ:Nat→Value} {w:World}
 {d:Nat} {ty:TypeId} {pos:String} {aft:Array Edge} {g:Option (Nat×Bool)} {t e:TypeId} {z:Value} {b:Nat}
theorem TF {S:List Nat}{st:TypeId}{x y:Operand}{v u:Value}{xs:List (List Int)}{r:List Int}{us:List Value}{F:List Nat}{B j:Nat}(hst:(P.info? st).map (·.size)=some 1)(hx:Br N ρ x=AE v j 1)(hy:Br N ρ y=u)
  (hv:I8 e S B w.heap v xs us F) (hr:RN (S++F) (Bl rI) w.heap u r) (hj:j<xs.length) (hu:Up ops N ρ ⟨none,.store st x y,ty,pos,aft,g⟩)
  (h:∀w1,AB F w w1→w1.heap.size=w.heap.size→I8 e S B w1.heap v (xs.set j r) (us.set j u) F→LW P ops w0 Q os ks (mk N ρ) w1) :
  LW P ops w0 Q (⟨none,.store st x y,ty,pos,aft,g⟩::os) (4::ks) (mk N ρ) w:=by
 obtain⟨g0,cap,hF,hvv,_⟩:=Nz hv.own (by rw[hv.len];omega)
 have hone:=hr.one1 g1
 obtain⟨w1,F',q1,q2,q3,q4,q5,q6⟩:=KG (P:=P) BY hst hv.own hv.nd (by rw[hv.len];exact hj) (u:=u) (y:=u) (G:=[]) ⟨rfl,rfl,hone.1,hone.2⟩ zk (fun b hb=>by cases hb)
 obtain⟨g2,cap2,hF2,hvv2,_⟩:=Nz q2 (by rw[z6,hv.len];omega)
 have hg:g2=g0:=by
  rw[hvv]at hvv2
  injection hvv2 with h1 _ _
  injection h1 with h1
  injection h1 with h1 _ _
  exact h1.symm
 have hFF:F'=F:=by rw[hF2,hF,hg]
 subst hFF
 have hc:AB F' w w1:=q5.sub fun x hx=>zj hx
 refine Oi rfl hu w1 (GY hx hy q1)<|h w1 hc q6 ⟨q2,hv.nd,hv.low,by rw[z6,z6];exact hv.len,fun k hk=>?_⟩
 rw[z6]at hk
 have hku:k<us.length:=by rw[hv.len];exact hk
 rw[DX _ _ _ _ _ (by rw[hv.len];exact hj),DX _ _ _ _ _ hj]
 have hcS:AB (S++F') w w1:=hc.sub fun b hb=>z1 _ hb
 by_cases ek:k=j
 ·rw[if_pos ek,if_pos ek];exact hr.chg g1 hcS
 ·rw[if_neg ek,if_neg ek]
  exact (hv.els k hk).chg g1 hcS
theorem Vo {st e':TypeId}{x y:Operand}{v u:Value}{n:Int}{xs:List (List Int)}{B T r j:Nat}{F:List Nat}(hst:(P.info? st).map (·.size)=some 1)(hx:Br N ρ x=AE u j 1)(hy:Br N ρ y=.int .i64 n)(hn:-9223372036854775808≤n∧n≤9223372036854775807)
  (hv:Ow (BD (BD rI e) e') B T w.heap v xs F) (hr:r<xs.length) (hl:Hp w.heap (AE v r 1)=some u) (hj:j<(xs.getD r []).length) (hu:Up ops N ρ ⟨none,.store st x y,ty,pos,aft,g⟩)
  (h:∀w1 G,AB G w w1→w1.heap.size=w.heap.size→(∀c∈G,c∈F)→Ow (BD (BD rI e) e') B T w1.heap v (xs.set r ((xs.getD r []).set j n)) F→LW P ops w0 Q os ks (mk N ρ) w1) :
  LW P ops w0 Q (⟨none,.store st x y,ty,pos,aft,g⟩::os) (4::ks) (mk N ρ) w:=by
 obtain⟨hown,hnd,hlow,hhigh⟩:=hv
 rcases hown with⟨_,rfl,_⟩|⟨us,g0,cap,cur,F',hels,rfl,hg,r1,r2,r3,r4,rfl⟩
 ·simp at hr
 ·have hc:=List.nodup_cons.1 hnd
  obtain⟨u',G,q0,q1,q2,q3,q4⟩:=hels.at_ (k:=r) [] hr hc.2
  have hlen:=hels.length
  have hu':u'=u:=by
   rw[GW]at hl
   simp only[Hp,Cn,hg,Nat.zero_add]at hl
   rw[← r4,List.getElem?_take,if_pos hr]at q0
   have:some u'=some u:=by rw[← q0,← hl];simp
   exact Option.some.inj this
  subst hu'
  obtain⟨w1,p1,p2,p3,p4⟩:=Sp (P:=P) hst q1 q2 hj hn
  have hgG:g0∉G:=fun hm=>hc.1 (q3 g0 hm)
  refine Oi rfl hu w1 (GY hx hy p1)<|h w1 G p3 p4 (fun c hm=>z3 _<|q3 c hm) ⟨.inr ⟨us,g0,cap,cur,F',?_,by rw[z6],?_,by rw[z6];exact r1,r2,r3,by rw[z6];exact r4,rfl⟩,hnd,hlow,hhigh⟩
  ·exact q4 (fun hE hC=>o1.stable hE fun b hb=>p3.block b (o1.lt hE b hb) (hC b hb).2) p2
  ·have hlt:g0<w.heap.size:=(Array.getElem?_eq_some_iff.1 hg).1
   rw[p3.block g0 hlt hgG];exact hg
end ops
section
variable {e1 e:TypeId} {B T:Nat} {w:World} {v:Value} {xs:List (List Int)} {F:List Nat}
theorem Ow.rowO (h:Ow (BD (BD rI e1) e) B T w.heap v xs F){k:Nat}(hk:k<xs.length):∃u,Hp w.heap (AE v k 1)=some u∧Rd (Bl rI) w.heap u (xs.getD k []):=by
 obtain⟨u,G,q0,q1,_⟩:=h.fr.row o1 [] hk
 exact⟨u,q0,G,q1.rd id⟩
theorem Ow.slO {H:Array Obj}(h:Ow (BD (BD rI e1) e) B T H v xs F):Fu v xs.length:=(BD.rd id h.own:Bl (BD rI e1) H v xs F).isSl
theorem I8.ofOw {S:List Nat}(h:Ow (BD (BD rI e1) e) B T w.heap v xs F)(hS:∀b∈S,b<B):∃us F',I8 e S B w.heap v xs us F'∧∀b∈F',b∈F:=by
 obtain⟨h1,h2,h3,h4⟩:=h
 rcases h1 with⟨rfl,rfl,rfl⟩|⟨us,g,cap,cur,F',hels,rfl,hg,r1,r2,r3,r4,rfl⟩
 ·exact⟨[],[],⟨.inl ⟨rfl,rfl,rfl⟩,zk,(fun b hb=>absurd hb z2),rfl,(fun k hk=>absurd hk (Nat.not_lt_zero k))⟩,(fun b hb=>absurd hb z2)⟩
 ·have hl:=hels.length
  have hn:=List.nodup_cons.1 h2
  refine⟨us,[g],⟨.inr ⟨us,g,cap,cur,[],L8 (hels.cells1 o1),by rw[hl],hg,zO,r2,r3,by rw[hl];exact r4,rfl⟩,by simp,fun b hb=>?_,hl,fun k hk=>?_⟩,fun b hb=>?_⟩
  ·exact h3 b (by rw[Ab hb];exact z0 ..)
  ·obtain⟨u,G,hu,q1,q2,q3,_⟩:=hels.at_ (k:=k) [] hk hn.2
   have e1:us.getD k undef=u:=by simp[List.getD_eq_getElem?_getD,hu]
   rw[e1]
   exact⟨G,q1.rd id,fun b hb hm=>by
    have hb':=q3 b hb
    rcases zi.1 hm with hm|hm
    ·have h8:=hS b hm
     have h9:=h3 b<|z3 _ hb'
     omega
    ·rw[Ab hm]at hb'
     exact hn.1 hb'⟩
  ·rw[Ab hb];exact z0 ..
end
theorem TG {R:List Sr}{k:Nat}(hk:k<R.length):Jw (R.take k)++[List.replicate (R.getD k []).length 0]=Jw (R.take (k+1)):=by
 unfold Jw
 rw[CA [] hk,List.map_append];rfl
end
section
def S5 (cs:List Am)(L:List Sr):Nat→List Sr→List Sr
 |0,B=>B
 |k+1,B=>if (cs.getD k Am.zero).op=1 then Fz (S5 cs L k B) (cs.getD k Am.zero).num (L.getD k [])else S5 cs L k B
def Vp (ni m:Nat)(cs:List Am)(L:List Sr):List Sr:=S5 cs L cs.length (List.replicate ni (List.replicate m 0))
section
variable {m ni:Nat} {cs:List Am} {L B:List Sr}
theorem Lu {k:Nat}(h:(cs.getD k Am.zero).op=1):S5 cs L (k+1) B=Fz (S5 cs L k B) (cs.getD k Am.zero).num (L.getD k []):=if_pos h
theorem Lv {k:Nat}(h:(cs.getD k Am.zero).op≠1):S5 cs L (k+1) B=S5 cs L k B:=if_neg h
@[simp] theorem Ih (k:Nat):(S5 cs L k B).length=B.length:=by
 induction k with
 |zero=>rfl
 |succ k ih =>
  by_cases h:(cs.getD k Am.zero).op=1
  ·rw[Lu h,C7,ih]
  ·rw[Lv h,ih]
theorem Jz (m ni:Nat):CG m (List.replicate ni (List.replicate m 0)):=fun k hk=>by
 rw[z5]at hk
 have e:(List.replicate ni (List.replicate m (0:Int))).getD k []=List.replicate m 0:=by simp[List.getD_eq_getElem?_getD,hk]
 rw[e]
 exact⟨z5,GB _⟩
theorem KU (hf:∀k,k<cs.length→C3 B.length k (cs.getD k Am.zero))(h:CG m B):∀k,k≤cs.length→CG m (S5 cs L k B)
 |0,_=>h
 |k+1,hk=>by
  have ih:=KU hf h k zO
  by_cases h1:(cs.getD k Am.zero).op=1
  ·rw[Lu h1]
   have:=(hf k zO).i1 h1
   exact Da ih (by rw[Ih];omega)
  ·rw[Lv h1];exact ih
theorem R6 (hf:∀k,k<cs.length→C3 ni k (cs.getD k Am.zero)):CG m (Vp ni m cs L):=KU (fun k hk=>by rw[z5];exact hf k hk) (Jz m ni) _ (A9 _)
@[simp] theorem R7:(Vp ni m cs L).length=ni:=by unfold Vp;rw[Ih,z5]
end
end
section
def CH (A:List Sr):List Int:=A.map fun s=>s.getD 0 0
section
variable {m:Nat} {A:List Sr} {T:Tp} {xs:List Int}
@[simp] theorem CN:(CH A).length=A.length:=by simp[CH]
theorem S6 (h:CG m A):PL m (CH A) A:=⟨CN.symm,fun i hi=>h i (by rw[CN]at hi;exact hi),fun i hi=>by
 rw[CN]at hi
 unfold CH
 rw[CC (d:=[]) hi]⟩
theorem D5.regs (h:D5 m A T):CG m (AZ m A T.code):=fun k hk=>(h.ser k (by rw[Bp]at hk;exact hk)).1
theorem D5.outs (h:D5 m A T)(hE:IT T xs):∀k,k<xs.length→0≤xs.getD k 0∧xs.getD k 0<((T.code.length:Nat):Int):=fun k hk=>by have:=hE k hk;have:=h.cl;omega
theorem D5.adj (h:D5 m A T)(hE:IT T xs){ws:List Int}:CG m (Jy T.code (Go.Proofs.YtemfgblmfahllaaGreat.AZ m A T.code) xs ws):=by
 have ho:=h.outs hE
 refine R5 (ni:=A.length) h.form _ _ (A9 _) (by rw[Eo,D9,Bp];exact A9 _)<|Ig (Ha h.regs) (fun q hq=>?_) _<|A9 _
 have:=ho q hq
 rw[D9,Bp];omega
theorem TH {cs:List Am}{R:List Sr}{os ws:List Int}:(Jy cs R os ws).length=R.length:=by unfold Jy;rw[R4,Eo,D9]
end
end
section
theorem C9.ext {m:Nat}{a b:Sr}(ha:C9 m a)(hb:C9 m b)(h:∀k,k<m→a.getD k 0=b.getD k 0):a=b:=by
 refine List.ext_getElem (by rw[ha.1,hb.1]) fun k h1 h2=>?_
 have:=h k (by rw[← ha.1];exact h1)
 simpa [List.getD_eq_getElem?_getD,h1,h2]using this
section
variable {m:Nat} {a b c:Sr}
theorem NA (ha:C9 m a){k:Nat}(hk:k<m):(CF a b).getD k 0=md (cv (fun i=>a.getD i 0) (fun i=>b.getD i 0) k):=QJ (by rw[ha.1];exact hk)
theorem Hc (ha:C9 m a){k:Nat}(hk:k<m):(EU a b).getD k 0=md (a.getD k 0+b.getD k 0):=by unfold EU;exact DL _ (by rw[ha.1];exact hk)
theorem NB (ha:C9 m a){k:Nat}(hk:k<m):(GA a b).getD k 0=md (a.getD k 0-b.getD k 0):=by unfold GA;exact DL _ (by rw[ha.1];exact hk)
theorem JA (ha:C9 m a){y:Int}{k:Nat}(hk:k<m):(D8 a y).getD k 0=md (a.getD k 0*y):=by unfold D8;exact DL _ (by rw[ha.1];exact hk)
end
end
section
theorem fc {f:Nat→Int}:∀ {n:Nat},(∀i,i<n→f i=0)→sm n f=0
 |0,_=>rfl
 |n+1,h=>by unfold sm;rw[fc (n:=n) fun i hi=>h i zO,h n (by omega)];rfl
section
variable {N N':Nat} {f f' g g':Nat→Int} {a b:Sr}
theorem EN.mono (h:EN N f g)(hN:N'≤N):EN N' f g:=fun k hk=>h k zO
theorem EN.neg (hf:EN N f f'):EN N (fun k=>- f k) (fun k=>- f' k):=fun k hk=>by rw[← JW,hf k hk,JW]
theorem EN.eq (h:∀k,k<N→f k=g k):EN N f g:=fun k hk=>by rw[h k hk]
theorem TJ (ha:C9 N a):EN N (Dw (D8 a 1000002)) (fun k=>- Dw a k):=EN.trans (fa (y:=1000002) ha) fun k _=>by
 show md (1000002*Dw a k)=md (- Dw a k)
 unfold md;omega
def Lo (r:Nat)(f:Nat→Int):Prop:=EN r f Kv
theorem Lo.mono {r r':Nat}(h:Lo r f)(hr:r'≤r):Lo r' f:=EN.mono h hr
theorem Lo.of {r:Nat}(h:EN r f g)(hg:Lo r g):Lo r f:=EN.trans h hg
theorem Lo.add {r:Nat}(h:Lo r f)(hg:Lo r g):Lo r fun k=>f k+g k:=(EN.add h hg).trans fun k _=>rfl
theorem Lo.sub {r:Nat}(h:Lo r f)(hg:Lo r g):Lo r fun k=>f k-g k:=(EN.sub h hg).trans fun k _=>rfl
theorem Lo.neg {r:Nat}(h:Lo r f):Lo r fun k=>- f k:=fun k hk=>by
 have:=h k hk
 show md (- f k)=md 0
 rw[← JW,this];rfl
theorem Lo.cvl {r:Nat}(h:Lo r f)(g:Nat→Int):Lo r (cv f g):=(EN.cv h (EN.rfl' g)).trans fun k _=>by rw[G4];rfl
theorem Lo.cvr {r:Nat}(g:Nat→Int)(h:Lo r f):Lo r (cv g f):=fun k hk=>by rw[Dv];exact h.cvl g k hk
theorem Lo.cv2 {r s:Nat}(h:Lo r f)(hg:Lo s g):Lo (r+s) (cv f g):=fun k hk=>by
 rw[Km]
 have e:md (sm (k+1) fun i=>f i*g (k-i))=md (sm (k+1) fun _=>0):=OB fun i hi=>by
  by_cases h1:i<r
  ·rw[← Do,h i h1]
   show md (md 0*_)=_
   rw[G3,Int.zero_mul]
  ·rw[← Do,hg (k-i) (by omega)]
   show md (_*md 0)=_
   rw[I9,Int.mul_zero]
 rw[e,fc fun _ _=>rfl];rfl
theorem JB (f g g':Nat→Int)(k:Nat):cv f (fun i=>g i-g' i) k=cv f g k-cv f g' k:=by rw[Dv,QK,Dv g,Dv g']
theorem R8 (f g:Nat→Int)(k:Nat):cv f (fun i=>- g i) k = - cv f g k:=by
 have e:(fun i=>- g i)=fun i=>(-1)*g i:=funext fun i=>by omega
 rw[e,OA];omega
theorem NC (f g:Nat→Int)(k:Nat):cv (fun i=>- f i) g k = - cv f g k:=by rw[Dv,R8,Dv]
theorem Lo.div {r:Nat}(hd:∃e:Int,md (g 0*e)=1)(h:Lo r (cv f g)):Lo r f:=Pw hd (h.trans fun k _=>by rw[G4];rfl)
end
section
variable {N m n:Nat} {B:List Sr} {v v':Nat→Nat→Int}
theorem PN {f g:Nat→Int}{i:Nat}:∀ {n:Nat},i<n→(∀j,j<n→j≠i→f j=g j)→sm n f=sm n g+(f i-g i)
 |0,h,_=>absurd h (Nat.not_lt_zero i)
 |n+1,hi,h=>by
  show sm n f+f n=sm n g+g n+_
  by_cases e:i=n
  ·subst e
   rw[EV fun j hj=>h j zO (by omega)];omega
  ·rw[PN (n:=n) zO fun j hj he=>h j zO he,h n zO (fun h=>e h.symm)];omega
theorem aW {i:Nat}(hi:i<n)(h:∀j,j<n→j≠i→v j=v' j)(t:Nat):GR n v B t=GR n v' B t+(cv (Dw (B.getD i [])) (v i) t-cv (Dw (B.getD i [])) (v' i) t):=by
 unfold GR
 exact PN (f:=fun j=>cv (Dw (B.getD j [])) (v j) t) (g:=fun j=>cv (Dw (B.getD j [])) (v' j) t) hi fun j hj he=>by rw[h j hj he]
theorem R9 {i:Nat}{s:Sr}{d:Nat→Int}(hi:i<n)(hb:i<B.length)(h:EN N (Dw s) fun t=>Dw (B.getD i []) t+d t):EN N (GR n v (B.set i s)) fun t=>GR n v B t+cv d (v i) t:=fun t ht=>by
 have e:GR n v (B.set i s) t=GR n v B t+(cv (Dw s) (v i) t-cv (Dw (B.getD i [])) (v i) t):=by
  unfold GR
  have:=PN (f:=fun j=>cv (Dw ((B.set i s).getD j [])) (v j) t) (g:=fun j=>cv (Dw (B.getD j [])) (v j) t) hi fun j hj he=>by rw[DX _ _ _ _ _ hb,if_neg he]
  rw[this,DX _ _ _ _ _ hb,if_pos rfl]
 have h2:md (cv (Dw s) (v i) t)=md (cv (Dw (B.getD i [])) (v i) t+cv d (v i) t):=by
  rw[EN.cv h (EN.rfl' (v i)) t ht,KO]
 show md _=md (GR n v B t+cv d (v i) t)
 rw[e,← G0,← Gg,h2,Gg,G0]
 congr 1;omega
theorem KV {r:Int}{s:Sr}(hB:CG m B)(hN:N≤m)(hr:r.toNat<n)(hb:r.toNat<B.length):EN N (GR n v (Fz B r s)) fun t=>GR n v B t+cv (Dw s) (v r.toNat) t :=
 R9 hr hb (EN.mono (Z0 (hB _ hb)) hN)
theorem P0 (h:∀j,j<n→∀t,Dw (B.getD j []) t=0)(t:Nat):GR n v B t=0:=by
 unfold GR
 refine fc fun j hj=>?_
 rw[show Dw (B.getD j [])=Kv from funext fun t=>h j hj t,G4]
end
structure aX (N:Nat)(cs:List Am)(R:List Sr)(z D:Nat→Nat→Int):Prop where
 t1:∀k,k<cs.length→(cs.getD k Am.zero).op=1→EN N (D k) (z (cs.getD k Am.zero).num.toNat)
 t2:∀k,k<cs.length→(cs.getD k Am.zero).op=2→EN N (D k) Kv
 t3:∀k,k<cs.length→(cs.getD k Am.zero).op=3→EN N (D k) fun t=>D (cs.getD k Am.zero).a.toNat t+D (cs.getD k Am.zero).b.toNat t
 t4:∀k,k<cs.length→(cs.getD k Am.zero).op=4→EN N (D k) fun t=>D (cs.getD k Am.zero).a.toNat t-D (cs.getD k Am.zero).b.toNat t
 t5:∀k,k<cs.length→(cs.getD k Am.zero).op=5→EN N (D k) fun t=>cv (Dw (R.getD (cs.getD k Am.zero).b.toNat [])) (D (cs.getD k Am.zero).a.toNat) t+cv (Dw (R.getD (cs.getD k Am.zero).a.toNat [])) (D (cs.getD k Am.zero).b.toNat) t
 t6:∀k,k<cs.length→(cs.getD k Am.zero).op=6→EN N (cv (Dw (R.getD (cs.getD k Am.zero).b.toNat [])) (D k)) fun t=>D (cs.getD k Am.zero).a.toNat t-cv (Dw (R.getD k [])) (D (cs.getD k Am.zero).b.toNat) t
 t7:∀k,k<cs.length→(cs.getD k Am.zero).op=7→EN N (D k) fun t=>- D (cs.getD k Am.zero).a.toNat t
def Fd (cs:List Am)(D:Nat→Nat→Int)(n k:Nat):Nat→Int:=if k<n∨(cs.getD k Am.zero).op=1 then D k else Kv
section
variable {N m ni:Nat} {cs:List Am} {R B:List Sr} {z D:Nat→Nat→Int} {os ws:List Int}
theorem Hd {n k:Nat}(h:k<n):Fd cs D n k=D k:=if_pos (.inl h)
theorem TK {n k:Nat}(h:(cs.getD k Am.zero).op=1):Fd cs D n k=D k:=if_pos (.inr h)
theorem Xp {n k:Nat}(h:n≤k)(h1:(cs.getD k Am.zero).op≠1):Fd cs D n k=Kv:=if_neg zO
theorem aY (hT:aX N cs R z D)(hN:N≤m)(hR:CG m R)(hRl:R.length=cs.length)(hB:CG m B)(hl:B.length=cs.length){k:Nat}(hk:k<cs.length)(hf:C3 ni k (cs.getD k Am.zero))
  (hd:(cs.getD k Am.zero).op=6→(R.getD (cs.getD k Am.zero).b.toNat []).getD 0 0≠0) :
  EN N (GR cs.length (Fd cs D k) (MY cs R k B)) (GR cs.length (Fd cs D (k+1)) B):=by
 have hBk:=hB k zO
 by_cases h1:(cs.getD k Am.zero).op=1
 ·rw[OZ (by omega)]
  have e:GR cs.length (Fd cs D k) B=GR cs.length (Fd cs D (k+1)) B:=funext fun t=>by
   unfold GR
   refine EV fun j hj=>?_
   by_cases e:j=k
   ·subst e;rw[TK h1,TK h1]
   ·by_cases e2:j<k
    ·rw[Hd e2,Hd (by omega)]
    ·unfold Fd
     by_cases e3:(cs.getD j Am.zero).op=1
     ·rw[if_pos (.inr e3),if_pos (.inr e3)]
     ·rw[if_neg zO,if_neg (by omega)]
  rw[e];exact EN.rfl' _
 have hup:GR cs.length (Fd cs D (k+1)) B=fun t=>GR cs.length (Fd cs D k) B t+cv (Dw (B.getD k [])) (D k) t:=funext fun t=>by
  rw[aW (v:=Fd cs D (k+1)) (v':=Fd cs D k) hk (fun j hj he=>?_) t,Hd (Nat.lt_succ_self k),Xp (A9 k) h1,Dv _ Kv,G4]
  ·omega
  ·by_cases e2:j<k
   ·rw[Hd e2,Hd (by omega)]
   ·unfold Fd
    by_cases e3:(cs.getD j Am.zero).op=1
    ·rw[if_pos (.inr e3),if_pos (.inr e3)]
    ·rw[if_neg zO,if_neg (by omega)]
 rw[hup]
 have two:∀ {ra rb:Int} {sa sb:Sr},ra.toNat<k→rb.toNat<k→EN N (fun t=>cv (Dw sa) (D ra.toNat) t+cv (Dw sb) (D rb.toNat) t) (cv (Dw (B.getD k [])) (D k)) →
   EN N (GR cs.length (Fd cs D k) (Fz (Fz B ra sa) rb sb)) fun t=>GR cs.length (Fd cs D k) B t+cv (Dw (B.getD k [])) (D k) t:=fun {ra rb sa sb} ha hb h=>by
  have q1:=KV (v:=Fd cs D k) (s:=sa) (n:=cs.length) hB hN (r:=ra) zO zO
  have q2:=KV (v:=Fd cs D k) (s:=sb) (n:=cs.length) (Da (s:=sa) hB (r:=ra) zO) hN (r:=rb) zO (by rw[C7];omega)
  rw[Hd ha]at q1
  rw[Hd hb]at q2
  refine q2.trans<|EN.trans (EN.add q1<|EN.rfl' _) ?_
  refine EN.trans (EN.eq fun t _=>?_)<|EN.add (EN.rfl'<|GR cs.length (Fd cs D k) B) h
  exact Int.add_assoc _ _ _
 have b2:=fun h=>hf.i2 h
 have b7:=fun h=>hf.i7 h
 by_cases h3:(cs.getD k Am.zero).op=3
 ·rw[OU h3]
  have:=b2 zO
  refine two zO zO ?_
  refine EN.trans (EN.eq fun t _=>?_)<|EN.cv (EN.rfl' _) (hT.t3 k hk h3).symm
  rw[KP]
 by_cases h4:(cs.getD k Am.zero).op=4
 ·rw[OV h4]
  have:=b2 zO
  refine two zO zO ?_
  refine EN.trans (EN.add (EN.rfl' _)<|EN.cv (EN.mono (TJ hBk) hN)<|EN.rfl' _) ?_
  refine EN.trans (EN.eq fun t _=>?_)<|EN.cv (EN.rfl' _) (hT.t4 k hk h4).symm
  rw[JB,NC];omega
 by_cases h5:(cs.getD k Am.zero).op=5
 ·rw[OW h5]
  have:=b2 zO
  refine two zO zO ?_
  refine EN.trans (EN.add (EN.cv (EN.mono (SR hBk) hN)<|EN.rfl' _)<|EN.cv (EN.mono (SR hBk) hN)<|EN.rfl' _) ?_
  refine EN.trans (EN.eq fun t _=>?_)<|EN.cv (EN.rfl' _) (hT.t5 k hk h5).symm
  rw[KP,HJ,HJ]
 by_cases h6:(cs.getD k Am.zero).op=6
 ·rw[OX h6]
  have:=b2 zO
  have hRb:=hR (cs.getD k Am.zero).b.toNat zO
  refine two zO zO ?_
  have hq:=Yt hBk hRb<|hd h6
  refine EN.trans (EN.add (EN.rfl' _)<|EN.cv (EN.mono (EN.trans (TJ<|EX<|FL hBk)<|EN.neg<|SR<|FL hBk) hN)<|EN.rfl' _) ?_
  refine EN.trans ?_<|EN.cv (EN.mono hq hN)<|EN.rfl' _
  refine EN.trans ?_<|EN.trans (EN.cv (EN.rfl'<|Dw<|Cq (B.getD k [])<|R.getD (cs.getD k Am.zero).b.toNat []) (hT.t6 k hk h6).symm) (EN.eq fun t _=>(HJ _ _ _ t).symm)
  refine EN.eq fun t _=>?_
  rw[NC,JB,HJ];omega
 by_cases h7:(cs.getD k Am.zero).op=7
 ·rw[OY h7]
  have:=b7 h7
  have q1:=KV (v:=Fd cs D k) (s:=D8 (B.getD k []) 1000002) (n:=cs.length) hB hN (r:=(cs.getD k Am.zero).a) zO zO
  rw[Hd (by omega)]at q1
  refine q1.trans<|EN.add (EN.rfl' _) ?_
  refine EN.trans (EN.cv (EN.mono (TJ hBk) hN)<|EN.rfl' _)<|EN.trans (EN.eq fun t _=>?_)<|EN.cv (EN.rfl' _) (hT.t7 k hk h7).symm
  rw[R8,NC]
 have h2:(cs.getD k Am.zero).op=2:=by unfold C3 at hf;omega
 rw[OZ (by omega)]
 refine EN.trans (EN.eq fun t _=>?_)<|EN.add (EN.rfl' _)<|EN.cv (EN.rfl' _) (hT.t2 k hk h2).symm
 rw[Dv,G4,Int.add_zero]
theorem Xq (hT:aX N cs R z D)(hN:N≤m)(hR:CG m R)(hRl:R.length=cs.length)(hf:∀k,k<cs.length→C3 ni k (cs.getD k Am.zero))
  (hd:∀k,k<cs.length→(cs.getD k Am.zero).op=6→(R.getD (cs.getD k Am.zero).b.toNat []).getD 0 0≠0) :
  ∀(n:Nat) (B:List Sr),n≤cs.length→CG m B→B.length=cs.length→EN N (GR cs.length (Fd cs D 0) (Sd cs R n B)) (GR cs.length (Fd cs D n) B)
 |0,B,_,_,_=>EN.rfl' _
 |n+1,B,hn,hB,hl=>by
  show EN N (GR cs.length (Fd cs D 0) (Sd cs R n (MY cs R n B))) _
  exact (Xq hT hN hR hRl hf hd n _ zO (Hb hB zO<|hf n zO) (by rw[KT,hl])).trans<|aY hT hN hR hRl hB hl zO (hf n zO)<|hd n zO
theorem Ra {L B0:List Sr}(hT:aX N cs R z D)(hN:N≤m)(hB:CG m B0)(hl:B0.length=ni)(hf:∀k,k<cs.length→C3 ni k (cs.getD k Am.zero)) :
  ∀n,n≤cs.length→EN N (GR ni z (S5 cs L n B0)) fun t=>GR ni z B0 t+sm n fun k=>cv (Dw (L.getD k [])) (Fd cs D 0 k) t
 |0,_=>fun t _=>by show _=md (_+0);rw[Int.add_zero];rfl
 |n+1,hn=>by
  have ih:=Ra (L:=L) hT hN hB hl hf n zO
  by_cases h1:(cs.getD n Am.zero).op=1
  ·rw[Lu h1]
   have hi:=(hf n zO).i1 h1
   refine (KV (KU (fun k hk=>by rw[hl];exact hf k hk) hB n zO) hN zO (by rw[Ih];omega)).trans ?_
   refine (EN.add ih<|EN.cv (EN.rfl' _) (hT.t1 n zO h1).symm).trans (EN.eq fun t _=>?_)
   show _=GR ni z B0 t+(sm n _+cv (Dw (L.getD n [])) (Fd cs D 0 n) t)
   rw[TK h1,Int.add_assoc]
  ·rw[Lv h1]
   refine ih.trans (EN.eq fun t _=>?_)
   show _=GR ni z B0 t+(sm n _+cv (Dw (L.getD n [])) (Fd cs D 0 n) t)
   rw[Xp (Nat.zero_le n) h1,Dv _ Kv,G4,Int.add_zero]
theorem TL {m:Nat}(t:Nat):Dw (List.replicate m 0) t=0:=Kp m t
theorem Xr (hB:CG m B)(hm:1≤m){n:Nat}(hn:n≤B.length):∀k,k≤os.length→(∀i,i<os.length→(os.getD i 0).toNat<n) →
  EN N (GR n D (Mg os ws k B)) fun t=>GR n D B t+sm k fun i=>ws.getD i 0*D (os.getD i 0).toNat t
 |0,_,_=>fun t _=>by show _=md (_+0);rw[Int.add_zero];rfl
 |k+1,hk,ho=>by
  have ih:=Xr hB hm hn k zO ho
  have h9:=ho k zO
  have hs:=Ig (ws:=ws) hB (fun i hi=>by have:=ho i hi;omega) k zO (os.getD k 0).toNat (by rw[Eo];omega)
  refine (R9 (B:=Mg os ws k B) (s:=((Mg os ws k B).getD (os.getD k 0).toNat []).set 0<|md (((Mg os ws k B).getD (os.getD k 0).toNat []).getD 0 0+ws.getD k 0)) (d:=fun t=>ws.getD k 0*OC t) h9 (by rw[Eo];omega) fun t _=>?_).trans ?_
  ·unfold Dw
   rw[DX _ _ _ _ _ (by rw[hs.1];omega)]
   unfold OC
   by_cases e:t=0
   ·subst e
    show _=md (_+ws.getD k 0*(if (0:Nat)=0 then 1 else 0))
    rw[if_pos rfl,if_pos rfl,ES,Int.mul_one]
   ·show _=md (_+ws.getD k 0*(if t=0 then 1 else 0))
    rw[if_neg e,if_neg e,Int.mul_zero,Int.add_zero]
  ·refine (EN.add ih<|EN.rfl' _).trans (EN.eq fun t _=>?_)
   show _=_+(sm k _+_)
   rw[HI,SQ,Int.add_assoc]
theorem Vq (hT:aX N cs R z D)(hN:N≤m)(hm:1≤m)(hR:CG m R)(hRl:R.length=cs.length)(hf:∀k,k<cs.length→C3 ni k (cs.getD k Am.zero))
  (hd:∀k,k<cs.length→(cs.getD k Am.zero).op=6→(R.getD (cs.getD k Am.zero).b.toNat []).getD 0 0≠0) (ho:∀i,i<os.length→(os.getD i 0).toNat<cs.length) :
  EN N (GR ni z (Vp ni m cs (Jy cs R os ws))) fun t=>sm os.length fun i=>ws.getD i 0*D (os.getD i 0).toNat t:=by
 have h1:=Ra (L:=Jy cs R os ws) (B0:=List.replicate ni<|List.replicate m 0) hT hN (Jz m ni) z5 hf cs.length<|A9 _
 have hw:CG m (Mg os ws os.length (Jw R)):=Ig (Ha hR) (fun q hq=>by rw[D9,hRl];exact ho q hq) _ (A9 _)
 have h2:=Xq hT hN hR hRl hf hd cs.length (Mg os ws os.length<|Jw R) (A9 _) hw (by rw[Eo,D9,hRl])
 have h3:=Xr (N:=N) (D:=D) (os:=os) (ws:=ws) (Ha hR) hm (n:=cs.length) (by rw[D9,hRl];exact A9 _) os.length (A9 _) ho
 have e1:∀t,GR ni z (List.replicate ni (List.replicate m 0)) t=0:=P0 fun j hj t=>by
  rw[show(List.replicate ni (List.replicate m (0:Int))).getD j []=List.replicate m 0 from by simp[List.getD_eq_getElem?_getD,hj]];exact TL t
 have e2:∀t,GR cs.length D (Jw R) t=0:=P0 fun j hj t=>by
  rw[show(Jw R).getD j []=List.replicate (R.getD j []).length 0 from by unfold Jw;rw[CC (d:=[]) (by omega)]];exact TL t
 have e3:GR cs.length (Fd cs D cs.length) (Mg os ws os.length (Jw R))=GR cs.length D (Mg os ws os.length (Jw R)):=funext fun t=>by
  unfold GR
  exact EV fun j hj=>by rw[Hd hj]
 rw[e3]at h2
 refine h1.trans<|EN.trans (EN.eq fun t _=>?_)<|EN.trans h2<|h3.trans (EN.eq fun t _=>?_)
 ·rw[e1,Int.zero_add];rfl
 ·rw[e2,Int.zero_add]
end
end
section
def CT (A A':List Sr)(j:Nat):Nat→Int:=fun t=>Dw (A'.getD j []) t-Dw (A.getD j []) t
section
variable {m r N k j:Nat} {A A':List Sr} {T:Tp} {cs:List Am}
theorem Ce (hk:k≤cs.length)(hj:j<k):(AZ m A (cs.take k)).getD j []=(AZ m A cs).getD j []:=by
 have:=Lt (m:=m) (A:=A) (cs.take k) (cs.drop k) (k:=j) (by rw[List.length_take];omega)
 rw[List.take_append_drop]at this
 exact this.symm
theorem DQ (hk:k<cs.length):(AZ m A cs).getD k []=DZ m A (AZ m A (cs.take k)) (cs.getD k Am.zero):=by
 rw[← Ce (show k+1≤cs.length from hk) (Nat.lt_succ_self k),DN hk,IP (by rw[Bp,List.length_take];omega)]
theorem D5.r1 (h:D5 m A T)(hk:k<T.code.length)(h1:(T.code.getD k Am.zero).op=1):(Go.Proofs.YtemfgblmfahllaaGreat.AZ m A T.code).getD k []=A.getD (T.code.getD k Am.zero).num.toNat []:=by rw[DQ hk,En h1]
theorem D5.r2 (h:D5 m A T)(hk:k<T.code.length)(h1:(T.code.getD k Am.zero).op=2):(Go.Proofs.YtemfgblmfahllaaGreat.AZ m A T.code).getD k []=Fj m (T.code.getD k Am.zero).num:=by rw[DQ hk,CY (by omega)]
theorem D5.r3 (h:D5 m A T)(hk:k<T.code.length)(h1:(T.code.getD k Am.zero).op=3):(Go.Proofs.YtemfgblmfahllaaGreat.AZ m A T.code).getD k []=EU ((Go.Proofs.YtemfgblmfahllaaGreat.AZ m A T.code).getD (T.code.getD k Am.zero).a.toNat []) ((Go.Proofs.YtemfgblmfahllaaGreat.AZ m A T.code).getD (T.code.getD k Am.zero).b.toNat []):=by
 have:=(h.form k hk).i2 zO
 rw[DQ hk,EZ h1,Ce zO zO,Ce zO (by omega)]
theorem D5.r4 (h:D5 m A T)(hk:k<T.code.length)(h1:(T.code.getD k Am.zero).op=4):(Go.Proofs.YtemfgblmfahllaaGreat.AZ m A T.code).getD k []=GA ((Go.Proofs.YtemfgblmfahllaaGreat.AZ m A T.code).getD (T.code.getD k Am.zero).a.toNat []) ((Go.Proofs.YtemfgblmfahllaaGreat.AZ m A T.code).getD (T.code.getD k Am.zero).b.toNat []):=by
 have:=(h.form k hk).i2 zO
 rw[DQ hk,GH h1,Ce zO zO,Ce zO (by omega)]
theorem D5.r5 (h:D5 m A T)(hk:k<T.code.length)(h1:(T.code.getD k Am.zero).op=5):(Go.Proofs.YtemfgblmfahllaaGreat.AZ m A T.code).getD k []=CF ((Go.Proofs.YtemfgblmfahllaaGreat.AZ m A T.code).getD (T.code.getD k Am.zero).a.toNat []) ((Go.Proofs.YtemfgblmfahllaaGreat.AZ m A T.code).getD (T.code.getD k Am.zero).b.toNat []):=by
 have:=(h.form k hk).i2 zO
 rw[DQ hk,Fb h1,Ce zO zO,Ce zO (by omega)]
theorem D5.r6 (h:D5 m A T)(hk:k<T.code.length)(h1:(T.code.getD k Am.zero).op=6):(Go.Proofs.YtemfgblmfahllaaGreat.AZ m A T.code).getD k []=Cq ((Go.Proofs.YtemfgblmfahllaaGreat.AZ m A T.code).getD (T.code.getD k Am.zero).a.toNat []) ((Go.Proofs.YtemfgblmfahllaaGreat.AZ m A T.code).getD (T.code.getD k Am.zero).b.toNat []):=by
 have:=(h.form k hk).i2 zO
 rw[DQ hk,GI h1,Ce zO zO,Ce zO (by omega)]
theorem D5.r7 (h:D5 m A T)(hk:k<T.code.length)(h1:(T.code.getD k Am.zero).op=7):(Go.Proofs.YtemfgblmfahllaaGreat.AZ m A T.code).getD k []=D8 ((Go.Proofs.YtemfgblmfahllaaGreat.AZ m A T.code).getD (T.code.getD k Am.zero).a.toNat []) 1000002:=by
 have:=(h.form k hk).i7 h1
 rw[DQ hk,Di h1,Ce zO (by omega)]
theorem D5.rz (h:D5 m A T)(hk:k<T.code.length)(h1:(T.code.getD k Am.zero).op=6):((Go.Proofs.YtemfgblmfahllaaGreat.AZ m A T.code).getD (T.code.getD k Am.zero).b.toNat []).getD 0 0≠0:=by
 have:=(h.form k hk).i2 zO
 rw[(h.ser (T.code.getD k Am.zero).b.toNat zO).2]
 exact h.dv k hk h1
theorem TM (f g:Nat→Int):f=fun t=>g t+(f t-g t):=funext fun t=>by omega
theorem TN (v w v' w':Nat→Int)(t:Nat):cv v' w' t-cv v w t=cv w (fun t=>v' t-v t) t+cv v (fun t=>w' t-w t) t+cv (fun t=>v' t-v t) (fun t=>w' t-w t) t:=by
 rw[QK,JB,JB,JB,Dv w,Dv w];omega
theorem Xs (h:D5 m A T)(h':D5 m A' T)(hk:k<T.code.length)(h1:(T.code.getD k Am.zero).op=1):CT (AZ m A T.code) (AZ m A' T.code) k=CT A A' (T.code.getD k Am.zero).num.toNat:=by
 unfold CT;rw[h.r1 hk h1,h'.r1 hk h1]
theorem Xt (h:D5 m A T)(h':D5 m A' T)(hk:k<T.code.length)(h1:(T.code.getD k Am.zero).op=2):EN N (CT (AZ m A T.code) (AZ m A' T.code) k) Kv:=EN.eq fun t _=>by
 unfold CT;rw[h.r2 hk h1,h'.r2 hk h1,Int.sub_self];rfl
theorem Xu (h:D5 m A T)(h':D5 m A' T)(hk:k<T.code.length)(h1:(T.code.getD k Am.zero).op=3) :
  EN m (CT (AZ m A T.code) (AZ m A' T.code) k) fun t=>CT (AZ m A T.code) (AZ m A' T.code) (T.code.getD k Am.zero).a.toNat t+CT (AZ m A T.code) (AZ m A' T.code) (T.code.getD k Am.zero).b.toNat t:=by
 have hb:=(h.form k hk).i2 zO
 unfold CT;rw[h.r3 hk h1,h'.r3 hk h1]
 exact (EN.sub (Z0 (h'.ser _ zO).1) (Z0 (h.ser _ zO).1)).trans (EN.eq fun t _=>by omega)
theorem Xv (h:D5 m A T)(h':D5 m A' T)(hk:k<T.code.length)(h1:(T.code.getD k Am.zero).op=4) :
  EN m (CT (AZ m A T.code) (AZ m A' T.code) k) fun t=>CT (AZ m A T.code) (AZ m A' T.code) (T.code.getD k Am.zero).a.toNat t-CT (AZ m A T.code) (AZ m A' T.code) (T.code.getD k Am.zero).b.toNat t:=by
 have hb:=(h.form k hk).i2 zO
 unfold CT;rw[h.r4 hk h1,h'.r4 hk h1]
 exact (EN.sub (ZX (h'.ser _ zO).1) (ZX (h.ser _ zO).1)).trans (EN.eq fun t _=>by omega)
theorem Xw (h:D5 m A T)(h':D5 m A' T)(hk:k<T.code.length)(h1:(T.code.getD k Am.zero).op=7) :
  EN m (CT (AZ m A T.code) (AZ m A' T.code) k) fun t=>- CT (AZ m A T.code) (AZ m A' T.code) (T.code.getD k Am.zero).a.toNat t:=by
 have hb:=(h.form k hk).i7 h1
 unfold CT;rw[h.r7 hk h1,h'.r7 hk h1]
 exact (EN.sub (TJ (h'.ser _ zO).1) (TJ (h.ser _ zO).1)).trans (EN.eq fun t _=>by omega)
theorem Xx (h:D5 m A T)(h':D5 m A' T)(hk:k<T.code.length)(h1:(T.code.getD k Am.zero).op=5) :
  EN m (CT (AZ m A T.code) (AZ m A' T.code) k) fun t=>cv (Dw ((AZ m A T.code).getD (T.code.getD k Am.zero).b.toNat [])) (CT (AZ m A T.code) (AZ m A' T.code) (T.code.getD k Am.zero).a.toNat) t
   + cv (Dw ((AZ m A T.code).getD (T.code.getD k Am.zero).a.toNat [])) (CT (AZ m A T.code) (AZ m A' T.code) (T.code.getD k Am.zero).b.toNat) t
   + cv (CT (AZ m A T.code) (AZ m A' T.code) (T.code.getD k Am.zero).a.toNat) (CT (AZ m A T.code) (AZ m A' T.code) (T.code.getD k Am.zero).b.toNat) t:=by
 have hb:=(h.form k hk).i2 zO
 unfold CT;rw[h.r5 hk h1,h'.r5 hk h1]
 exact (EN.sub (SR (h'.ser _ zO).1) (SR (h.ser _ zO).1)).trans (EN.eq fun t _=>TN _ _ _ _ t)
theorem Xy (h:D5 m A T)(h':D5 m A' T)(hk:k<T.code.length)(h1:(T.code.getD k Am.zero).op=6) :
  EN m (CT (AZ m A T.code) (AZ m A' T.code) (T.code.getD k Am.zero).a.toNat) fun t=>cv (Dw ((AZ m A T.code).getD (T.code.getD k Am.zero).b.toNat [])) (CT (AZ m A T.code) (AZ m A' T.code) k) t
   + cv (Dw ((AZ m A T.code).getD k [])) (CT (AZ m A T.code) (AZ m A' T.code) (T.code.getD k Am.zero).b.toNat) t
   + cv (CT (AZ m A T.code) (AZ m A' T.code) k) (CT (AZ m A T.code) (AZ m A' T.code) (T.code.getD k Am.zero).b.toNat) t:=by
 have hb:=(h.form k hk).i2 zO
 have q:=Yt (h.ser (T.code.getD k Am.zero).a.toNat zO).1 (h.ser (T.code.getD k Am.zero).b.toNat zO).1 (h.rz hk h1)
 have q':=Yt (h'.ser (T.code.getD k Am.zero).a.toNat zO).1 (h'.ser (T.code.getD k Am.zero).b.toNat zO).1 (h'.rz hk h1)
 rw[← h.r6 hk h1]at q
 rw[← h'.r6 hk h1]at q'
 exact (EN.sub q'.symm q.symm).trans (EN.eq fun t _=>TN _ _ _ _ t)
theorem TO (h:D5 m A T)(h':D5 m A' T)(hr:r≤m)(hz:∀j,j<A.length→Lo r (CT A A' j)):∀n k,k<n→k<T.code.length→Lo r (CT (AZ m A T.code) (AZ m A' T.code) k)
 |0,k,hk,_=>absurd hk (Nat.not_lt_zero k)
 |n+1,k,hn,hk=>by
  have ih:=TO h h' hr hz n
  have hf:=h.form k hk
  have b2:=fun h=>hf.i2 h
  have b7:=fun h=>hf.i7 h
  by_cases h1:(T.code.getD k Am.zero).op=1
  ·rw[Xs h h' hk h1];have:=hf.i1 h1;exact hz _ zO
  by_cases h2:(T.code.getD k Am.zero).op=2
  ·exact Xt h h' hk h2
  by_cases h3:(T.code.getD k Am.zero).op=3
  ·have:=b2 zO
   exact Lo.of (EN.mono (Xu h h' hk h3) hr)<|(ih _ zO zO).add<|ih _ zO zO
  by_cases h4:(T.code.getD k Am.zero).op=4
  ·have:=b2 zO
   exact Lo.of (EN.mono (Xv h h' hk h4) hr)<|(ih _ zO zO).sub<|ih _ zO zO
  by_cases h5:(T.code.getD k Am.zero).op=5
  ·have:=b2 zO
   exact Lo.of (EN.mono (Xx h h' hk h5) hr)<|((Lo.cvr _<|ih _ zO zO).add<|Lo.cvr _<|ih _ zO zO).add<|(ih _ zO zO).cvl _
  by_cases h6:(T.code.getD k Am.zero).op=6
  ·have:=b2 zO
   have ha:=ih (T.code.getD k Am.zero).a.toNat zO zO
   have hb:=ih (T.code.getD k Am.zero).b.toNat zO zO
   have e:=EN.mono (Xy h h' hk h6) hr
   refine Lo.div (g:=Dw<|(AZ m A' T.code).getD (T.code.getD k Am.zero).b.toNat []) (UU (h'.ser (T.code.getD k Am.zero).b.toNat zO).1 (h'.rz hk h6)) ?_
   refine Lo.of (g:=fun t=>CT (AZ m A T.code) (AZ m A' T.code) (T.code.getD k Am.zero).a.toNat t-cv (Dw<|(AZ m A T.code).getD k []) (CT (AZ m A T.code) (AZ m A' T.code) (T.code.getD k Am.zero).b.toNat) t) ?_<|ha.sub<|hb.cvr _
   refine EN.trans (EN.eq fun t _=>?_)<|EN.sub e.symm<|EN.rfl' _
   rw[TM (Dw ((AZ m A' T.code).getD (T.code.getD k Am.zero).b.toNat [])) (Dw ((AZ m A T.code).getD (T.code.getD k Am.zero).b.toNat [])),KP,Dv _ (Dw ((AZ m A T.code).getD (T.code.getD k Am.zero).b.toNat []))]
   show _+cv _ (CT _ _ _) t=_
   omega
  have h7:(T.code.getD k Am.zero).op=7:=by unfold C3 at hf;omega
  have:=b7 h7
  exact Lo.of (EN.mono (Xw h h' hk h7) hr) (ih _ zO zO).neg
theorem Vr (h:D5 m A T)(h':D5 m A' T)(hr:r≤m)(hz:∀j,j<A.length→Lo r (CT A A' j))(hN:N≤m)(h2:N≤r+r):aX N T.code (AZ m A T.code) (CT A A') (CT (AZ m A T.code) (AZ m A' T.code)):=by
 have lo:=fun k (hk:k<T.code.length)=>TO h h' hr hz (k+1) k (Nat.lt_succ_self k) hk
 refine⟨fun k hk h1=>by rw[Xs h h' hk h1];exact EN.rfl' _,fun k hk h1=>Xt h h' hk h1,fun k hk h1=>EN.mono (Xu h h' hk h1) hN,fun k hk h1=>EN.mono (Xv h h' hk h1) hN,fun k hk h1=>?_,fun k hk h1=>?_,fun k hk h1=>EN.mono (Xw h h' hk h1) hN⟩
 ·have:=(h.form k hk).i2 zO
  refine (EN.mono (Xx h h' hk h1) hN).trans ?_
  refine (EN.add (EN.rfl' _)<|Lo.mono (Lo.cv2 (lo _ zO)<|lo _ zO) h2).trans (EN.eq fun t _=>?_)
  exact Int.add_zero _
 ·have:=(h.form k hk).i2 zO
  refine (EN.sub (EN.mono (Xy h h' hk h1) hN) (EN.rfl' _) |>.trans ?_).symm
  refine (EN.sub (EN.add (EN.rfl' _)<|Lo.mono (Lo.cv2 (lo k hk)<|lo _ zO) h2)<|EN.rfl' _).trans (EN.eq fun t _=>?_)
  show _+_+(0:Int)-_=_
  omega
end
end
section
section
variable {m n r N k:Nat}
theorem Z3 {u:Nat→Nat→Int}{row:List Sr}(h:∀j,j<n→Lo k (u j)):md (GR n u row k)=md (sm n fun j=>Dw (row.getD j []) 0*u j k):=by
 unfold GR
 refine OB fun j hj=>?_
 cases k with
 |zero=>rfl
 |succ k =>
  show md (Dw (row.getD j []) 0*u j (k+1)+cv (fun i=>Dw (row.getD j []) (i+1)) (u j) k)=_
  have:=Lo.cvr (fun i=>Dw (row.getD j []) (i+1)) (h j hj) k (Nat.lt_succ_self k)
  rw[← G0,this]
  show md (_+md 0)=_
  rw[G0,Int.add_zero]
variable {a:List Int} {J0:List (List Int)} {G:List Sr→List Sr} {J:List Sr→List (List Sr)} {y y' yS g:List Sr}
theorem ff (hy:CG m y)(hy':CG m y')(hm:1≤m)(h:CH y=CH y'){j:Nat}(hj:j<y.length):Lo 1 (CT y y' j):=fun k hk=>by
 have e:k=0:=by omega
 subst e
 have hl:y'.length=y.length:=by rw[← CN (A:=y'),← h,CN]
 have h1:(CH y).getD j 0=(CH y').getD j 0:=by rw[h]
 unfold CH at h1
 rw[CC (d:=[]) hj,CC (d:=[]) (by omega)]at h1
 show md ((y'.getD j []).getD 0 0-(y.getD j []).getD 0 0)=_
 rw[h1,Int.sub_self];rfl
end
end
section
structure HH (m m':Nat)(B B':List Sr):Prop where
 s:CG m B
 s':CG m' B'
 l:B.length=B'.length
 h:∀k,(B.getD k []).getD 0 0=(B'.getD k []).getD 0 0
section
variable {m m' ni k i:Nat} {B B' R R':List Sr} {s s':Sr} {cs:List Am} {r:Int} {os ws:List Int}
theorem Rb (l:List Sr)(i:Nat)(x:Sr)(j:Nat):(l.set i x).getD j []=if j=i∧i<l.length then x else l.getD j []:=by
 by_cases h:i<l.length
 ·rw[DX _ _ _ _ _ h]
  by_cases e:j=i
  ·rw[if_pos e,if_pos ⟨e,h⟩]
  ·rw[if_neg e,if_neg fun h=>e h.1]
 ·rw[List.set_eq_of_length_le zO,if_neg fun h9=>h h9.2]
theorem HH.set (h:HH m m' B B')(hs:C9 m s)(hs':C9 m' s')(e:s.getD 0 0=s'.getD 0 0):HH m m' (B.set i s) (B'.set i s'):=by
 refine⟨h.s.set hs,h.s'.set hs',by rw[z6,z6,h.l],fun k=>?_⟩
 rw[Rb,Rb,h.l]
 split
 ·exact e
 ·exact h.h k
theorem HH.adP (hm:1≤m)(hm':1≤m')(h:HH m m' B B')(hr:r.toNat<B.length)(e:s.getD 0 0=s'.getD 0 0):HH m m' (Fz B r s) (Go.Proofs.YtemfgblmfahllaaGreat.Fz B' r s'):=by
 have h1:=h.s r.toNat hr
 have h2:=h.s' r.toNat (by rw[← h.l];exact hr)
 refine h.set (EW h1) (EW h2) ?_
 rw[Hc h1 zO,Hc h2 zO,h.h,e]
theorem HH.adI (hm:1≤m)(hm':1≤m')(h:HH m m' B B')(hR:HH m m' R R')(hk:k<B.length)(hf:C3 ni k (cs.getD k Am.zero)):HH m m' (MY cs R k B) (Go.Proofs.YtemfgblmfahllaaGreat.MY cs R' k B'):=by
 have b2:=fun h=>hf.i2 h
 have b7:=fun h=>hf.i7 h
 have h1:=h.s k hk
 have h2:=h.s' k (by rw[← h.l];exact hk)
 have hp:∀q,(CF (B.getD k []) (R.getD q [])).getD 0 0=(CF (B'.getD k []) (R'.getD q [])).getD 0 0:=fun q=>by
  rw[Lr (by rw[h1.1];omega),Lr (by rw[h2.1];omega),h.h,hR.h]
 have hq:∀q,(Cq (B.getD k []) (R.getD q [])).getD 0 0=(Cq (B'.getD k []) (R'.getD q [])).getD 0 0:=fun q=>by
  rw[OQ (by rw[h1.1];omega),OQ (by rw[h2.1];omega),h.h,hR.h]
 have hn:∀ {s s':Sr},C9 m s→C9 m' s'→s.getD 0 0=s'.getD 0 0→(D8 s 1000002).getD 0 0=(D8 s' 1000002).getD 0 0:=fun hs hs' e=>by
  rw[JA hs zO,JA hs' zO,e]
 by_cases h3:(cs.getD k Am.zero).op=3
 ·rw[OU h3,OU h3]
  have:=b2 zO
  exact (h.adP hm hm' zO<|h.h k).adP hm hm' (by rw[C7];omega)<|h.h k
 by_cases h4:(cs.getD k Am.zero).op=4
 ·rw[OV h4,OV h4]
  have:=b2 zO
  exact (h.adP hm hm' zO<|h.h k).adP hm hm' (by rw[C7];omega)<|hn h1 h2<|h.h k
 by_cases h5:(cs.getD k Am.zero).op=5
 ·rw[OW h5,OW h5]
  have:=b2 zO
  exact (h.adP hm hm' zO<|hp _).adP hm hm' (by rw[C7];omega)<|hp _
 by_cases h6:(cs.getD k Am.zero).op=6
 ·rw[OX h6,OX h6]
  have:=b2 zO
  refine (h.adP hm hm' zO<|hq _).adP hm hm' (by rw[C7];omega)<|hn (EX<|FL h1) (EX<|FL h2) ?_
  rw[Lr (by rw[Gz,h1.1];omega),Lr (by rw[Gz,h2.1];omega),hq,hR.h]
 by_cases h7:(cs.getD k Am.zero).op=7
 ·rw[OY h7,OY h7]
  have:=b7 h7
  exact h.adP hm hm' zO<|hn h1 h2<|h.h k
 have:(cs.getD k Am.zero).op<3∨7<(cs.getD k Am.zero).op:=by omega
 rw[OZ this,OZ this];exact h
theorem HH.adA (hm:1≤m)(hm':1≤m')(hR:HH m m' R R')(hf:∀k,k<cs.length→C3 ni k (cs.getD k Am.zero)):∀(n:Nat)(B B':List Sr),n≤cs.length→n≤B.length→HH m m' B B'→HH m m' (Sd cs R n B) (Go.Proofs.YtemfgblmfahllaaGreat.Sd cs R' n B')
 |0,_,_,_,_,h=>h
 |n+1,B,B',hn,hb,h=>HH.adA hm hm' hR hf n _ _ zO (by rw[KT];omega) (h.adI hm hm' hR zO (hf n zO))
theorem HH.wgt (hm:1≤m)(hm':1≤m')(h:HH m m' B B')(ho:∀k,k<os.length→(os.getD k 0).toNat<B.length):∀k,k≤os.length→HH m m' (Mg os ws k B) (Go.Proofs.YtemfgblmfahllaaGreat.Mg os ws k B')
 |0,_=>h
 |k+1,hk=>by
  have ih:=HH.wgt hm hm' h ho k zO
  have h1:=ih.s (os.getD k 0).toNat (by rw[Eo];exact ho k zO)
  have h2:=ih.s' (os.getD k 0).toNat (by rw[Eo,← h.l];exact ho k zO)
  refine ih.set ⟨by rw[z6];exact h1.1,K4 h1.2<|Cd _⟩ ⟨by rw[z6];exact h2.1,K4 h2.2<|Cd _⟩ ?_
  rw[DX _ _ _ _ _ (by rw[h1.1];omega),DX _ _ _ _ _ (by rw[h2.1];omega),if_pos rfl,if_pos rfl,ih.h]
theorem Xz (k:Nat):((Jw R).getD k []).getD 0 0=0:=by
 by_cases h:k<R.length
 ·rw[show(Jw R).getD k []=List.replicate (R.getD k []).length 0 from by unfold Jw;rw[CC (d:=[]) h]];exact Kp _ 0
 ·rw[show(Jw R).getD k []=[]from by rw[List.getD_eq_getElem?_getD,List.getElem?_eq_none (by rw[D9];omega)];rfl];rfl
theorem HH.zrs (h:HH m m' R R'):HH m m' (Jw R) (Go.Proofs.YtemfgblmfahllaaGreat.Jw R'):=⟨Ha h.s,Ha h.s',by rw[D9,D9,h.l],fun k=>by rw[Xz,Xz]⟩
theorem HH.byN {L L':List Sr}(hm:1≤m)(hm':1≤m')(hL:HH m m' L L')(h:HH m m' B B')(hf:∀k,k<cs.length→C3 B.length k (cs.getD k Am.zero)):∀k,k≤cs.length→HH m m' (S5 cs L k B) (Go.Proofs.YtemfgblmfahllaaGreat.S5 cs L' k B')
 |0,_=>h
 |k+1,hk=>by
  have ih:=HH.byN hm hm' hL h hf k zO
  by_cases h1:(cs.getD k Am.zero).op=1
  ·rw[Lu h1,Lu h1]
   have:=(hf k zO).i1 h1
   exact ih.adP hm hm' (by rw[Ih];omega)<|hL.h k
  ·rw[Lv h1,Lv h1];exact ih
theorem HH.rep (m m' ni:Nat):HH m m' (List.replicate ni (List.replicate m 0)) (List.replicate ni (List.replicate m' 0)):=by
 refine⟨Jz _ _,Jz _ _,by simp,fun k=>?_⟩
 by_cases h:k<ni
 ·rw[show(List.replicate ni (List.replicate m (0:Int))).getD k []=List.replicate m 0 from by simp[List.getD_eq_getElem?_getD,h],show(List.replicate ni (List.replicate m' (0:Int))).getD k []=List.replicate m' 0 from by simp[List.getD_eq_getElem?_getD,h],Kp,Kp]
 ·rw[show(List.replicate ni (List.replicate m (0:Int))).getD k []=[]from by simp[List.getD_eq_getElem?_getD,h],show(List.replicate ni (List.replicate m' (0:Int))).getD k []=[]from by simp[List.getD_eq_getElem?_getD,h]]
end
section
variable {p:List Fn} {f m r N i j s:Nat} {a:List Int} {A A':List Sr} {xs:List Int} {T:Tp}
structure Vs (p:List Fn)(f:Nat)(a:List Int)(xs:List Int)(T:Tp):Prop where
 v:Od p
 lt:f<p.length
 l:((a.length:Nat):Int)=(p.getD f Fn.zero).params
 n:Bj a=true
 r:∃s,AY (S0 p f a) (xs,T) s 0
theorem KW (hA:CG m A)(h:CH A=a):PL m a A:=by rw[← h];exact S6 hA
theorem Vs.tp (h:Vs p f a xs T)(hm:1≤m)(hA:CG m A)(hf:CH A=a):D5 m A T∧(UD p m f A=xs.map fun r=>(AZ m A T.code).getD r.toNat [])∧T3 p m f A=0:=by
 obtain⟨s,hs⟩:=h.r
 have h1:=TB hm h.v h.lt h.n (KW hA hf) h.l hs rfl
 exact⟨h1.1,h1.2,OT hm h.v h.lt h.n (KW hA hf) h.l hs⟩
theorem Lw (a:List Int):CH (Cu a)=a:=by
 unfold CH Cu
 rw[List.map_map]
 exact List.map_id'' (fun _=>rfl) a
theorem Vs.en (h:Vs p f a xs T):xs.length=(p.getD f Fn.zero).outs.length∧IT T xs:=by
 obtain⟨s,hs⟩:=h.r
 have hT:=TA (A9 1) h.v h.lt h.n (KW (Dh h.n)<|Lw a) h.l
 rw[hs.ok]at hT
 obtain⟨z,h1,h2,h3,h4⟩:=hT
 exact⟨h4.1,fun k hk=>(h4.2.2 k (by rw[h4.1]at hk;exact hk)).1⟩
theorem KX (a d:List Int):CH (Eh a d 2)=a:=by
 refine List.ext_getElem (by simp) fun k h1 h2=>?_
 rw[← Jr (d:=(0:Int)) h1,← Jr (d:=(0:Int)) h2]
 unfold CH
 rw[CC (d:=[]) (by rw[CE];exact h2),Xk h2]
end
end
section
def Lx (m:Nat)(T:Tp)(xs ws:List Int)(A:List Sr):List Sr:=Vp A.length m T.code (Jy T.code (AZ m A T.code) xs ws)
section
variable {p:List Fn} {f m m' i:Nat} {a d:List Int} {A A':List Sr} {xs ws:List Int} {T:Tp}
@[simp] theorem Ii:(Lx m T xs ws A).length=A.length:=R7
theorem TP (hm:1≤m)(hm':1≤m')(h:D5 m A T)(h':D5 m' A' T)(hl:A.length=A'.length)(hE:IT T xs)(ws:List Int):HH m m' (Lx m T xs ws A) (Lx m' T xs ws A'):=by
 have hR:HH m m' (AZ m A T.code) (AZ m' A' T.code):=⟨h.regs,h'.regs,by rw[Bp,Bp],fun k=>by
  by_cases hk:k<T.code.length
  ·rw[(h.ser k hk).2,(h'.ser k hk).2]
  ·rw[show(AZ m A T.code).getD k []=[]from by rw[List.getD_eq_getElem?_getD,List.getElem?_eq_none (by rw[Bp];omega)];rfl,show(AZ m' A' T.code).getD k []=[]from by rw[List.getD_eq_getElem?_getD,List.getElem?_eq_none (by rw[Bp];omega)];rfl]⟩
 have hx:=h.outs hE
 unfold Lx Vp
 rw[← hl]
 refine HH.byN hm hm' ?_ (HH.rep m m' _) (fun k hk=>by rw[z5];exact h.form k hk) _<|A9 _
 unfold Jy
 refine HH.adA hm hm' hR h.form _ _ _ (A9 _) (by rw[Eo,D9,Bp];exact A9 _)<|hR.zrs.wgt hm hm' (fun q hq=>?_) _<|A9 _
 rw[D9,Bp]
 have:=hx q hq
 omega
end
end
section
structure ND (ni:Nat)(T:Tp)(o:List Int):Prop where
 nb:ni≤12
 cl:T.code.length≤3200
 gl:T.grd.length≤3200
 form:∀k,k<T.code.length→C3 ni k (T.code.getD k Am.zero)
 gd:∀k,k<T.grd.length→0≤(T.grd.getD k Bt.zero).reg∧(T.grd.getD k Bt.zero).reg<((T.code.length:Nat):Int)
 ol:1≤o.length∧o.length≤12
 out:∀k,k<o.length→0≤o.getD k 0∧o.getD k 0<((T.code.length:Nat):Int)
theorem ND.pos {ni:Nat}{T:Tp}{o:List Int}(h:ND ni T o):0<T.code.length:=by
 have:=h.out 0 (by have:=h.ol;omega)
 omega
theorem ND.any {ni:Nat}{T:Tp}{o:List Int}(h:ND ni T o):(o.any fun x=>!(decide (0≤x) && decide (x≤((T.code.length:Nat):Int)-1)))=false:=by
 rw[List.any_eq_false]
 intro x hx
 obtain⟨j,hj,rfl⟩:=List.mem_iff_getElem.1 hx
 have h9:=h.out j hj
 rw[List.getD_eq_getElem?_getD,List.getElem?_eq_getElem hj,Option.getD_some]at h9
 rw[A7 h9.1,A7 (show o[j]≤((T.code.length:Nat):Int)-1 by omega)]
 decide
structure Iz (a:List Int)(T:Tp)(o:List Int):Prop where
 k:ND a.length T o
 n:Bj a=true
 e:IT T o
 i:∀d,Bj d=true→D5 2 (Eh a d 2) T
section
variable {p:List Fn} {f:Nat} {a d xs ws:List Int} {T:Tp} {s:Nat}
theorem Vs.tpr (h:Vs p f a xs T)(hB:K1 T s)(hs:s≤3000):Iz a T xs:=by
 have hi:∀d,Bj d=true→D5 2 (Eh a d 2) T:=fun d hd=>(h.tp (m:=2) (by decide) (Fy h.n hd) (KX _ _)).1
 have h0:=hi _<|GB a.length
 obtain⟨b1,b2,b3,b4⟩:=hB
 have hp:=h.v.par f h.lt
 have ho:=h.v.outs f h.lt
 have hl:=h.l
 have he:=h.en
 refine⟨⟨zO,zO,zO,fun k hk=>?_,fun k hk=>?_,by rw[he.1];exact ho,h0.outs he.2⟩,h.n,he.2,hi⟩
 ·have:=h0.form k hk
  rwa [CE]at this
 ·have:=(h0.gd k hk).1
  omega
theorem Vt {k:Nat}(hk:k<a.length):(Eh a d 2).getD k []=[a.getD k 0,d.getD k 0]:=by rw[Nx hk];rfl
theorem Iz.reg (h:Iz a T xs)(hd:Bj d=true):CG 2 (AZ 2 (Eh a d 2) T.code):=(h.i d hd).regs
theorem Iz.adj (h:Iz a T xs)(hd:Bj d=true):CG 2 (Jy T.code (AZ 2 (Eh a d 2) T.code) xs ws):=(h.i d hd).adj h.e
theorem Iz.nz (h:Iz a T xs)(hd:Bj d=true):EY 2 (Eh a d 2) T.code T.code.length:=(h.i d hd).nz
end
section ops
variable {P:Program} {ops:Array Oper} {w0:World} {Q:Act→World→Prop} {os:List Oper} {ks:List Nat} {N:Nat} {ρ:Nat→Value} {w:World}
 {d:Nat} {ty:TypeId} {pos:String} {aft:Array Edge} {g:Option (Nat×Bool)} {t e:TypeId} {z:Value} {b:Nat}
theorem Vu {y0 y1:Operand}{u0 u1:Value}{x0 x1:List Int}(ht:P.underlying t=some (.slice e))(hi:TI P e 1 z b)(hz:z.cells=#[z])
  (h0:Br N ρ y0=u0) (h1:Br N ρ y1=u1) (r0:RN [] (Bl rI) w.heap u0 x0) (r1:RN [] (Bl rI) w.heap u1 x1)
  (hu:Up ops N ρ ⟨some d,.buildSlice t 2 #[(0,y0),(1,y1)],ty,pos,aft,g⟩)
  (h:∀v w1,AD w w1→w1.heap.size=w.heap.size+1→RN [] (Bl (Bl rI)) w1.heap v [x0,x1]→Dm v→LW P ops w0 Q os ks (mk N (CI ρ d v)) w1) :
  LW P ops w0 Q (⟨some d,.buildSlice t 2 #[(0,y0),(1,y1)],ty,pos,aft,g⟩::os) (3::ks) (mk N ρ) w:=by
 have c0:=r0.one1 g1
 have c1:=r1.one1 g1
 refine Tw (ys:=[u0,u1]) BY ht hi hz h0 h1 rfl (L8 fun u hu=>?_) hu fun v w1 hE hs hF=>?_
 ·simp only[ze,z2,or_false]at hu
  rcases hu with rfl|rfl
  ·exact c0
  ·exact c1
 ·have hcap:=hF.cap
  obtain⟨F,f1,f2,f3⟩:=hF
  have hB:I8 e [] w.heap.size w1.heap v [x0,x1] [u0,u1] F:=by
   refine⟨f1,f2,fun b hb=>(f3 b hb).1,rfl,fun k hk=>?_⟩
   have key:∀ {v0:Value} {x:List Int},RN [] (Bl rI) w.heap v0 x→RN ([]++F) (Bl rI) w1.heap v0 x:=by
    rintro v0 x ⟨K,k1,k2⟩
    have hlt:=g1.lt k1
    exact⟨K,g1.stable k1 fun c hc=>hE.heap (hlt c hc),fun c hc hm=>by have:=hlt c hc;have:=f3 c (by simpa using hm);omega⟩
   match k with
   |0=>exact key r0
   |1=>exact key r1
   |k+2=>simp at hk;omega
  exact h v w1 hE hs (hB.done fun b hb=>absurd hb z2) hcap
end ops
end
section
open Classical in
noncomputable def DC (d:List Int)(cs:List Am):Int:=if EY 1 (Cu d) cs cs.length then 0 else 6
theorem NE {d:List Int}{cs:List Am}{c:Int}(h:PM 1 (Cu d) cs c):c=DC d cs:=by
 unfold DC
 rcases h with⟨h1,h2⟩|⟨h1,h2⟩
 ·rw[if_pos h2,h1]
 ·rw[if_neg h2,h1]
noncomputable def Ly (d:List Int)(cs:List Am):List Int:=if DC d cs=0 then CH (AZ 1 (Cu d) cs)else []
theorem Lz {d:List Int}{cs:List Am}(h:DC d cs=0):Ly d cs=CH (AZ 1 (Cu d) cs):=if_pos h
theorem XA {d:List Int}{cs:List Am}(h:DC d cs≠0):Ly d cs=[]:=if_neg h
theorem GK {m:Nat}{A:List Sr}{cs:List Am}(hA:CG m A)(hf:∀k,k<cs.length→C3 A.length k (cs.getD k Am.zero)):∀k,k≤cs.length→CG m (AZ m A (cs.take k))
 |0,_=>by intro j hj;simp[AZ]at hj
 |k+1,hk=>R3 (GK hA hf k zO) hA (hf k zO) zO
theorem MZ {m:Nat}{A:List Sr}{cs:List Am}(hA:CG m A)(hf:∀k,k<cs.length→C3 A.length k (cs.getD k Am.zero)):CG m (AZ m A cs):=by
 have:=GK hA hf cs.length (A9 _)
 rwa [List.take_length]at this
def aZ (L:List Int)(ps:List Int):List Int:=ps.map fun k=>L.getD k.toNat 0
noncomputable def UF (d:List Int)(cs:List Am)(o:List Int):List Int:=if DC d cs=0 then aZ (Ly d cs) o else []
theorem P3 {d:List Int}{cs:List Am}{o:List Int}(h:DC d cs=0):UF d cs o=aZ (Ly d cs) o:=if_pos h
theorem XB {d:List Int}{cs:List Am}{o:List Int}(h:DC d cs≠0):UF d cs o=[]:=if_neg h
theorem Rc {d:List Int}{cs:List Am}(h:DC d cs=0):(Ly d cs).length=cs.length:=by rw[Lz h];unfold CH;rw[zg,Bp]
end
section
section
variable {m:Nat} {a d:List Int} {A:List Sr} {xs xs' ws:List Int} {T T':Tp}
theorem bA (hn:Bj a=true)(t0:D5 2 (Eh a (List.replicate a.length 0) 2) T)(t1:D5 2 (Eh a d 2) T)(tm:D5 m A T)(hE:IT T xs)(hm:1≤m)(hf:CH A=a)(hnd:Bj d=true) :
  md (sm a.length fun k=>((Lx m T xs ws A).getD k []).getD 0 0*d.getD k 0)=md (sm xs.length fun i=>ws.getD i 0*CT (AZ 2 (Eh a (List.replicate a.length 0) 2) T.code) (AZ 2 (Eh a d 2) T.code) (xs.getD i 0).toNat 1):=by
 have hn0:Bj (List.replicate a.length 0)=true:=GB _
 have s0:CG 2 (Eh a (List.replicate a.length 0) 2):=Fy hn hn0
 have s1:CG 2 (Eh a d 2):=Fy hn hnd
 have hl:A.length=a.length:=by rw[← hf,CN]
 have hh:=TP hm (by decide:1≤2) tm t0 (by rw[CE,hl]) hE ws
 have ho:∀q,q<a.length→Lo 1 (CT (Eh a (List.replicate a.length 0) 2) (Eh a d 2) q):=fun q hq=>ff s0 s1 (by decide) (by rw[KX,KX]) (by rw[CE];exact hq)
 have hx:=t0.outs hE
 have ht:=Vq (m:=2) (ni:=a.length) (os:=xs) (ws:=ws) (Vr (r:=1) (N:=2) t0 t1 (by decide) (fun q hq=>ho q (by rw[CE]at hq;exact hq)) (by decide) (by decide)) (by decide) (by decide) t0.regs (Bp _) (fun k hk=>by have:=t0.form k hk;rw[CE]at this;exact this) (fun k hk h6=>t0.rz hk h6) (fun q hq=>by have:=hx q hq;omega) 1 (by decide)
 rw[Z3 (k:=1) ho]at ht
 have e0:(Lx 2 T xs ws (Eh a (List.replicate a.length 0) 2))=Vp a.length 2 T.code (Jy T.code (AZ 2 (Eh a (List.replicate a.length 0) 2) T.code) xs ws):=by unfold Lx;rw[CE]
 rw[← e0]at ht
 have e1:(sm a.length fun q=>Dw ((Lx 2 T xs ws (Eh a (List.replicate a.length 0) 2)).getD q []) 0*CT (Eh a (List.replicate a.length 0) 2) (Eh a d 2) q 1)=sm a.length fun k=>((Lx m T xs ws A).getD k []).getD 0 0*d.getD k 0:=EV fun q hq=>by
  unfold CT
  rw[show Dw ((Eh a d 2).getD q []) 1=_ from Xl hq,show Dw ((Eh a (List.replicate a.length 0) 2).getD q []) 1=_ from Xl hq,Kp,Int.sub_zero,hh.h q];rfl
 rw[e1]at ht
 exact ht
theorem bB (hn:Bj a=true)(hT:∀d,Bj d=true→D5 2 (Eh a d 2) T∧D5 2 (Eh a d 2) T')(tm:D5 m A T)(tm':D5 m A T')(hE:IT T xs)(hE':IT T' xs')(hl:xs.length=xs'.length)(hm:1≤m)(hf:CH A=a)
  (hv:∀d,Bj d=true→∀i,i<xs.length→(AZ 2 (Eh a d 2) T.code).getD (xs.getD i 0).toNat []=(AZ 2 (Eh a d 2) T'.code).getD (xs'.getD i 0).toNat []):CH (Lx m T xs ws A)=CH (Lx m T' xs' ws A):=by
 have hla:A.length=a.length:=by rw[← hf,CN]
 have hn0:Bj (List.replicate a.length 0)=true:=GB _
 refine f6 (by rw[CN,CN,Ii,Ii]) fun k hk=>?_
 rw[CN,Ii,hla]at hk
 have key:∀T xs,D5 m A T→D5 2 (Eh a (List.replicate a.length 0) 2) T→D5 2 (Eh a (eV a.length k) 2) T→IT T xs→(CH (Lx m T xs ws A)).getD k 0=md (sm xs.length fun i=>ws.getD i 0*CT (AZ 2 (Eh a (List.replicate a.length 0) 2) T.code) (AZ 2 (Eh a (eV a.length k) 2) T.code) (xs.getD i 0).toNat 1):=by
  intro T xs t t0 t1 hE
  rw[← bA hn t0 t1 t hE hm hf (Ny a.length k)]
  have e:(sm a.length fun q=>((Lx m T xs ws A).getD q []).getD 0 0*(eV a.length k).getD q 0)=sm a.length fun q=>if k=q then((Lx m T xs ws A).getD q []).getD 0 0 else 0:=EV fun q _=>by
   rw[YY hk]
   split
   ·rw[Int.mul_one]
   ·rw[Int.mul_zero]
  rw[e,OD k (fun q=>((Lx m T xs ws A).getD q []).getD 0 0),if_pos hk]
  unfold CH
  rw[CC (d:=[]) (by rw[Ii,hla];exact hk)]
  have:=Co ((show CG m (Lx m T xs ws A)from R6 t.form) k (by rw[Ii,hla];exact hk)).2 0
  exact (Qt this.1 this.2).symm
 rw[key T xs tm (hT _ hn0).1 (hT _ (Ny _ _)).1 hE,key T' xs' tm' (hT _ hn0).2 (hT _ (Ny _ _)).2 hE',hl]
 refine congrArg md (EV fun i hi=>?_)
 unfold CT
 rw[hv _ hn0 i zO,hv _ (Ny _ _) i (by omega)]
end
end
section
theorem oB {e:TypeId}:BZ (BD rB e):=Bc Nc
theorem Rd.getB {H:Array Obj}{v:Value}{xs:List Bool}{k:Nat}(h:Rd (Bl rB) H v xs)(hk:k<xs.length):Hp H (AE v k 1)=some (.bool (xs.getD k false)):=by
 obtain⟨u,h1,F,h2,_⟩:=Rd.get false h hk
 rw[h1,h2]
theorem Fr.rdB {e:TypeId}{B U:Nat}{H:Array Obj}{v:Value}{xs:List Bool}(h:Fr (BD rB e) B U H v xs):Rd (Bl rB) H v xs:=h.rd id
theorem Fr.getB {e:TypeId}{B U:Nat}{H:Array Obj}{v:Value}{xs:List Bool}{k:Nat}(h:Fr (BD rB e) B U H v xs)(hk:k<xs.length):Hp H (AE v k 1)=some (.bool (xs.getD k false)):=h.rdB.getB hk
section ops
variable {P:Program} {ops:Array Oper} {w0:World} {Q:Act→World→Prop} {os:List Oper} {ks:List Nat} {N:Nat} {ρ:Nat→Value} {w:World}
 {d:Nat} {ty:TypeId} {pos:String} {aft:Array Edge} {g:Option (Nat×Bool)} {t e:TypeId} {z:Value} {b:Nat}
theorem Vv {x y:Operand}{n:Nat}{c:Int}(ht:P.underlying t=some (.slice e))(hi:TI P e 1 (.bool false) 1)(hx:Br N ρ x=.int .i64 c)(hy:Br N ρ y=.int .i64 c)(hc:c=(n:Int))(hn:n≤35184372088832)
  (hu:Up ops N ρ ⟨some d,.makeSlice t x y,ty,pos,aft,g⟩)
  (h:∀v w1,AD w w1→w1.heap.size=w.heap.size+1→Fr (BD rB e) w.heap.size w1.heap.size w1.heap v (List.replicate n false)→LW P ops w0 Q os ks (mk N (CI ρ d v)) w1) :
  LW P ops w0 Q (⟨some d,.makeSlice t x y,ty,pos,aft,g⟩::os) (3::ks) (mk N ρ) w:=by
 subst hc
 obtain⟨i,h1,h2,h3,h4⟩:=hi.get
 have hr:=run_make (P:=P) w t e i _ ht h1 h2 .i64 .i64 n n zO zO (by rw[h4];omega) zO
 have hrun:(execOp (Br N ρ) ⟨some d,.makeSlice t x y,ty,pos,aft,g⟩).run P w=.ok (.value (.slice (some ⟨w.heap.size,0,none⟩) n n)) (w.alloc (.cells (madeCells (Value.bool false).cells ((n:Int).toNat*i.size)) e)):=by
  simp only[execOp,Sem.run_bind,hx,hy,hr,Result.andThen_ok,Sem.run_pure,Int.toNat_natCast]
 refine Ji rfl hu _ _ hrun (BA _ _)<|h _ _ (BA _ _) (by simp) ?_
 have hels:∀n,els rB w.heap (List.replicate n (.bool false)) (List.replicate n false) []:=by
  intro n
  induction n with
  |zero=>rfl
  |succ n ih=>exact⟨[],[],rfl,⟨rfl,rfl⟩,ih⟩
 have hmc:(madeCells (Value.bool false).cells ((n:Int).toNat*i.size)).toList=List.replicate n (.bool false):=by
  rw[h3]
  simp only[Int.toNat_natCast,Nat.mul_one,madeCells,Value.cells]
  apply List.ext_getElem
  ·simp
  ·intro j q1 q2
   simp[Nat.mod_one]
 have hcs:(madeCells (Value.bool false).cells ((n:Int).toNat*i.size)).size=n:=by rw[size_madeCells,h3];simp
 have hn':=FZ (e:=e) (w:=w) Nc (us:=List.replicate n (.bool false)) (xs:=List.replicate n false) (F:=[]) (cur:=madeCells (Value.bool false).cells ((n:Int).toNat*i.size)) (hels n) (by rw[hcs];simp only[maxLen];omega)
  (by rw[hmc,z5];exact za (by simp)) (by rw[hcs];simp)
 rw[hcs]at hn'
 simp only[z5]at hn'
 refine⟨_,by simpa using hn',by simp,fun c hc=>?_⟩
 simp at hc
 subst hc
 simp
theorem PO {st:TypeId}{x y:Operand}{v:Value}{n:Bool}{xs:List Bool}{B U j:Nat}(hst:(P.info? st).map (·.size)=some 1)(hx:Br N ρ x=AE v j 1)(hy:Br N ρ y=.bool n)
  (hv:Fr (BD rB e) B U w.heap v xs) (hj:j<xs.length) (hu:Up ops N ρ ⟨none,.store st x y,ty,pos,aft,g⟩)
  (h:∀w1 F,AB F w w1→w1.heap.size=w.heap.size→(∀c∈F,B≤c∧c<U)→Fr (BD rB e) B U w1.heap v (xs.set j n)→LW P ops w0 Q os ks (mk N ρ) w1) :
  LW P ops w0 Q (⟨none,.store st x y,ty,pos,aft,g⟩::os) (4::ks) (mk N ρ) w:=by
 obtain⟨F,h1,h2,h3⟩:=hv
 obtain⟨w1,F',p1,p2,p3,p4,p5,p6⟩:=KG (P:=P) Nc hst h1 h2 hj (u:=.bool n) (y:=n) (G:=[]) ⟨rfl,rfl⟩ zk (fun b hb=>by cases hb)
 have hrun:(execOp (Br N ρ) ⟨none,.store st x y,ty,pos,aft,g⟩).run P w=.ok .skip w1:=by
  simp only[execOp,hx,hy,Sem.run_bind,p1,Result.andThen_ok,Sem.run_pure]
 exact Oi rfl hu _ hrun<|h _ _ p5 p6 (fun c hc=>h3 c<|zj hc) ⟨F',p2,p3,fun c hc=>(p4 c hc).elim (fun hh=>h3 c hh) fun hh=>by cases hh⟩
end ops
end
section
def By (c:Am):List Int:=if 3≤c.op∧c.op≤6 then [c.a,c.b]else if c.op=7 then [c.a]else []
section
variable {e:TypeId} {B U:Nat} {H:Array Obj} {v:Value} {c:Am} {l:List Int}
theorem PP (h:(decide (((3:Nat):Int)≤c.op) && decide (c.op≤((6:Nat):Int)))=true)(hf:Fr (BD rI e) B U H v [c.a,c.b]):Fr (BD rI e) B U H v (By c):=by
 simp only[z7,decide_eq_true_eq]at h
 unfold By;rw[if_pos (by omega)];exact hf
theorem PQ (h:(decide (((3:Nat):Int)≤c.op) && decide (c.op≤((6:Nat):Int)))=false)(h7:c.op=((7:Nat):Int))(hf:Fr (BD rI e) B U H v [c.a]):Fr (BD rI e) B U H v (By c):=by
 unfold By;rw[if_neg zO,if_pos (by omega)];exact hf
theorem PR (h:(decide (((3:Nat):Int)≤c.op) && decide (c.op≤((6:Nat):Int)))=false)(h7:¬c.op=((7:Nat):Int))(hf:Fr (BD rI e) B U H v []):Fr (BD rI e) B U H v (By c):=by
 simp only[Bool.and_eq_false_iff,decide_eq_false_iff_not]at h
 unfold By;rw[if_neg zO,if_neg (by omega)];exact hf
end
def Mh (k:Nat)(l:List Bool)(rs:List Int):List Bool:=rs.foldl (fun l r=>l.set r.toNat (l.getD r.toNat false || l.getD k false)) l
def NF (n:Nat)(rs:List Int):List Bool:=rs.foldl (fun l r=>l.set r.toNat true) (List.replicate n false)
def Mi (cs:List Am)(l:List Bool):Nat→List Bool
 |0=>l
 |j+1=>Mh (cs.length-1-j) (Mi cs l j) (By (cs.getD (cs.length-1-j) Am.zero))
def Ml (cs:List Am)(rs:List Int):List Bool:=Mi cs (NF cs.length rs) cs.length
theorem NG (k:Nat):∀(rs:List Int)(l:List Bool),(Mh k l rs).length=l.length
 |[],l=>rfl
 |r::rs,l=>by
  show(Mh k (l.set r.toNat _) rs).length=_
  rw[NG k rs];simp
theorem He (n:Nat)(rs:List Int):(NF n rs).length=n:=by
 have:∀(rs:List Int) (l:List Bool),(rs.foldl (fun l r=>l.set r.toNat true) l).length=l.length:=by
  intro rs
  induction rs with
  |nil=>intro l;rfl
  |cons r rs ih=>intro l;rw[List.foldl_cons,ih];simp
 unfold NF;rw[this];simp
theorem JC (cs:List Am)(l:List Bool):∀j,(Mi cs l j).length=l.length
 |0=>rfl
 |j+1=>by unfold Mi;rw[NG,JC cs l j]
theorem LA {α β:Type}(f:β→α→β)(b:β){l:List α}{k:Nat}(d:α)(h:k<l.length):(l.take (k+1)).foldl f b=f ((l.take k).foldl f b) (l.getD k d):=by
 rw[CA d h,List.foldl_append];rfl
theorem TQ {n k:Nat}{rs:List Int}(h:k<rs.length):NF n (rs.take (k+1))=(NF n (rs.take k)).set (rs.getD k 0).toNat true:=LA _ _ 0 h
theorem P4 {k i:Nat}{l:List Bool}{rs:List Int}(h:i<rs.length):Mh k l (rs.take (i+1))=(Mh k l (rs.take i)).set (rs.getD i 0).toNat ((Mh k l (rs.take i)).getD (rs.getD i 0).toNat false || (Mh k l (rs.take i)).getD k false):=LA _ _ 0 h
theorem LB {k i:Nat}{l:List Bool}{rs:List Int}(h:i<rs.length)(hb:(Mh k l (rs.take i)).getD (rs.getD i 0).toNat false=false):Mh k l (rs.take (i+1))=(Mh k l (rs.take i)).set (rs.getD i 0).toNat ((Mh k l (rs.take i)).getD k false):=by rw[P4 h,hb,Bool.false_or]
theorem LC {k i:Nat}{l:List Bool}{rs:List Int}(h:i<rs.length)(hb:(Mh k l (rs.take i)).getD (rs.getD i 0).toNat false=true):Mh k l (rs.take (i+1))=(Mh k l (rs.take i)).set (rs.getD i 0).toNat true:=by rw[P4 h,hb,Bool.true_or]
theorem P5 (c:Am):(By c).length≤2:=by unfold By;split <;> (try split) <;> simp
theorem NH {n k:Nat}{c:Am}(h:C3 n k c):∀i,i<(By c).length→0≤(By c).getD i 0∧(By c).getD i 0<((k:Nat):Int):=by
 intro i hi
 unfold C3 at h
 unfold By at hi ⊢
 split at hi
 ·rename_i h1
  rw[if_pos h1]
  match i,hi with
  |0,_=>show 0≤c.a∧c.a<_;omega
  |1,_=>show 0≤c.b∧c.b<_;omega
 ·rename_i h1
  rw[if_neg h1]
  split at hi
  ·rename_i h2
   rw[if_pos h2]
   match i,hi with
   |0,_=>show 0≤c.a∧c.a<_;omega
  ·simp at hi
end
section
section
variable {m:Nat} {A R:List Sr} {c:Am} {x y:Int}
theorem GL {k:Nat}(hm:1≤m):(Fj m x).getD k 0=if k=0 then x else 0:=by
 rw[YZ hm]
theorem bC (x:Int)(hm:1≤m):(Fj m x).getD 0 0=x:=by rw[GL hm,if_pos rfl]
theorem Z4 (m:Nat)(x:Int){q:Nat}(h:1≤q):(Fj m x).getD q 0=0:=by
 by_cases hm:1≤m
 ·rw[GL hm,if_neg (by omega)]
 ·have:m=0:=by omega
  subst this;rfl
theorem Z5 (hm:1≤m):Dw (Fj m x)=fun i=>x*OC i:=funext fun i=>by
 show(Fj m x).getD i 0=_
 rw[GL hm];unfold OC;split <;> simp
theorem Gk (x:Int):Hq (md x)=true:=Cz.2 (Cd x)
theorem Vw (k x y:Int):Hq (CX k x y)=true:=by
 unfold CX
 split
 ·exact Gk _
 split
 ·exact Gk _
 split
 ·exact Gk _
 split
 ·exact Gk _
 ·exact Gk _
theorem P6 (hm:1≤m)(h3:3≤c.op∧c.op≤7)(hx:Hq x=true)(hy:Hq y=true)(ha:R.getD c.a.toNat []=Fj m x)(hb:c.op≠7→R.getD c.b.toNat []=Fj m y)(hz:¬Cm c.op y):DZ m A R c=Fj m (CX c.op x y):=by
 have sx:C9 m (Fj m x):=Fx hx
 have sy:C9 m (Fj m y):=Fx hy
 have so:∀z,Hq z=true→C9 m (Fj m z):=fun z hz=>Fx hz
 have h0:md 0=0:=rfl
 by_cases q3:c.op=3
 ·rw[EZ q3,ha,hb (by omega)]
  unfold CX;rw[if_pos q3]
  refine C9.ext (EW sx) (so _<|Gk _) fun k hk=>?_
  rw[Hc sx hk,GL hm,GL hm,GL hm]
  split
  ·rfl
  ·exact h0
 by_cases q4:c.op=4
 ·rw[GH q4,ha,hb (by omega)]
  unfold CX;rw[if_neg q3,if_pos q4]
  refine C9.ext (Lh sx) (so _<|Gk _) fun k hk=>?_
  rw[NB sx hk,GL hm,GL hm,GL hm]
  split
  ·rfl
  ·exact h0
 by_cases q5:c.op=5
 ·rw[Fb q5,ha,hb (by omega)]
  unfold CX;rw[if_neg q3,if_neg q4,if_pos q5]
  refine C9.ext (EX sx) (so _<|Gk _) fun k hk=>?_
  rw[NA sx hk]
  show md (cv (Dw (Fj m x)) (Dw (Fj m y)) k)=_
  rw[Z5 hm,HI,SQ,show Dw (Fj m y) k=(Fj m y).getD k 0 from rfl,GL hm,GL hm]
  split
  ·rfl
  ·rw[Int.mul_zero];exact h0
 by_cases q7:c.op=7
 ·rw[Di q7,ha]
  unfold CX;rw[if_neg q3,if_neg q4,if_neg q5,if_pos q7]
  refine C9.ext (Li sx) (so _<|Gk _) fun k hk=>?_
  rw[JA sx hk,GL hm,GL hm]
  split
  ·show x*1000002 % 1000003=(0-x) % 1000003
   omega
  ·rw[Int.zero_mul];exact h0
 ·have q6:c.op=6:=by omega
  have hyz:y≠0:=fun e=>hz (by unfold Cm;omega)
  have hyn:=Cz.1 hy
  rw[GI q6,ha,hb (by omega)]
  have hd:CX c.op x y=md (x*inv y):=by unfold CX;rw[if_neg q3,if_neg q4,if_neg q5,if_neg q7]
  rw[hd]
  have hq:=FL (b:=Fj m y) sx
  have hv:∀k,k<m→(Cq (Fj m x) (Fj m y)).getD k 0=(Fj m (md (x*inv y))).getD k 0:=by
   intro k
   induction k using Nat.strongRecOn with
   |_ k ih =>
    intro hk
    rw[KN (by rw[sx.1];exact hk),bC y hm]
    by_cases hk0:k=0
    ·subst hk0
     show md ((Fj m x).getD 0 0*inv y)=_
     rw[bC x hm,bC _ hm]
    ·have hz:∀i,1≤i→i≤k→Pl (Fj m x) (Fj m y) (Cq (Fj m x) (Fj m y)) k i=0:=by
      intro i
      induction i with
      |zero=>intro h;omega
      |succ i ih2 =>
       intro _ hi
       show md (Pl _ _ _ k i-(Cq (Fj m x) (Fj m y)).getD i 0*(Fj m y).getD (k-i) 0)=0
       rw[Z4 m y (q:=k-i) zO,Int.mul_zero,Int.sub_zero]
       by_cases hi0:i=0
       ·subst hi0
        show md ((Fj m x).getD k 0)=0
        rw[Z4 m x (by omega)];rfl
       ·rw[ih2 zO (by omega)];rfl
     rw[hz k zO (A9 _),Int.zero_mul,Z4 m _ (by omega)];rfl
  exact C9.ext hq (so _<|Gk _) hv
end
def Kq (F:List Am)(c:Am):Am :=
 if (3≤c.op∧(F.getD c.a.toNat Am.zero).op=2∧(c.op=7∨(F.getD c.b.toNat Am.zero).op=2))∧¬Cm c.op (F.getD c.b.toNat Am.zero).num then⟨2,0,0,CX c.op (F.getD c.a.toNat Am.zero).num (F.getD c.b.toNat Am.zero).num⟩else c
def BH (cs:List Am):List Am:=cs.foldl (fun F c=>F++[Kq F c]) []
section
variable {m ni k:Nat} {A:List Sr} {cs:List Am}
theorem TR (cs:List Am)(c:Am):BH (cs++[c])=BH cs++[Kq (BH cs) c]:=by unfold BH;rw[List.foldl_append];rfl
theorem DH (hk:k<cs.length):BH (cs.take (k+1))=BH (cs.take k)++[Kq (BH (cs.take k)) (cs.getD k Am.zero)]:=by rw[CA Am.zero hk,TR]
theorem Cx:∀k,k≤cs.length→(BH (cs.take k)).length=k
 |0,_=>rfl
 |k+1,h=>by rw[DH zO,z4,Cx k zO,zd]
theorem EO:(BH cs).length=cs.length:=by have:=Cx (cs:=cs) cs.length (A9 _);rwa [za (A9 _)]at this
theorem NI:∀ n,k≤n→n≤cs.length→(BH (cs.take n)).take k = BH (cs.take k)
  | 0, h, _ => by have : k = 0 := by omega
                  subst this; rfl
  | n + 1,h,hn=>by
    by_cases e:k = n + 1
    · subst e; exact za (by rw [Cx _ hn]; exact A9 _)
    · rw [DH zO,List.take_append_of_le_length (by rw [Cx _ (by omega)]; omega)]
      exact NI n zO zO
theorem TS (hk:k<cs.length):(BH cs).getD k Am.zero=Kq (BH (cs.take k)) (cs.getD k Am.zero):=by
 have h:=NI (k:=k+1) cs.length hk<|A9 _
 rw[za (A9 _),DH hk]at h
 have h2:((BH cs).take (k+1)).getD k Am.zero=(BH cs).getD k Am.zero:=by
  rw[List.getD_eq_getElem?_getD,List.getElem?_take,if_pos (Nat.lt_succ_self k),← List.getD_eq_getElem?_getD]
 rw[← h2,h]
 rw[List.getD_eq_getElem?_getD,List.getElem?_append_right (by rw[Cx _ (by omega)];exact A9 _),Cx _ zO,Nat.sub_self];rfl
theorem Vx {j:Nat}(hj:j<k)(hk:k≤cs.length):(BH (cs.take k)).getD j Am.zero=(BH cs).getD j Am.zero:=by
 have h:=NI (k:=k) cs.length hk<|A9 _
 rw[za (A9 _)]at h
 rw[← h,List.getD_eq_getElem?_getD,List.getElem?_take,if_pos hj,← List.getD_eq_getElem?_getD]
theorem N0 {F F':List Am}{c:Am}(h:C3 ni k c)(hF:∀j,j<k→F.getD j Am.zero=F'.getD j Am.zero):Kq F c=Kq F' c:=by
 unfold Kq
 by_cases q2:3≤c.op∧c.op≤6
 ·have:=h.i2 q2
  rw[hF c.a.toNat zO,hF c.b.toNat (by omega)]
 ·by_cases q7:c.op=7
  ·have:=h.i7 q7
   have hb:c.b=0:=by unfold C3 at h;omega
   rw[hF c.a.toNat zO,hF c.b.toNat (by omega)]
  ·have:=h.i0
   rw[if_neg zO,if_neg (by omega)]
theorem NJ (hf:∀k,k<cs.length→C3 ni k (cs.getD k Am.zero))(hk:k<cs.length):(BH cs).getD k Am.zero=Kq (BH cs) (cs.getD k Am.zero):=by
 rw[TS hk];exact N0 (hf k hk) fun j hj=>Vx hj zO
theorem Z6 {F:List Am}{c:Am}(h:C3 ni k c):C3 ni k (Kq F c):=by
 unfold Kq
 split
 ·have:=Cz.1 (Vw c.op (F.getD c.a.toNat Am.zero).num (F.getD c.b.toNat Am.zero).num)
  exact .inr<|.inl ⟨rfl,rfl,rfl,this.1,this.2⟩
 ·exact h
theorem NK (hf:∀k,k<cs.length→C3 ni k (cs.getD k Am.zero)):∀k,k<(BH cs).length→C3 ni k ((BH cs).getD k Am.zero):=fun k hk=>by
 rw[EO]at hk
 rw[TS hk];exact Z6 (hf k hk)
def Z7 (cs:List Am):Prop:=∀k,k<cs.length→Kq cs (cs.getD k Am.zero)=cs.getD k Am.zero
theorem Vy {F:List Am}{v:Int}:Kq F ⟨2,0,0,v⟩=⟨2,0,0,v⟩:=if_neg fun h=>absurd h.1.1 (show ¬(3:Int)≤2 by decide)
theorem Z8 (hf:∀k,k<cs.length→C3 ni k (cs.getD k Am.zero)):Z7 (BH cs):=fun k hk=>by
 rw[EO]at hk
 rw[NJ hf hk]
 generalize cs.getD k Am.zero=c
 by_cases h:(3≤c.op∧((BH cs).getD c.a.toNat Am.zero).op=2∧(c.op=7∨((BH cs).getD c.b.toNat Am.zero).op=2))∧¬Cm c.op ((BH cs).getD c.b.toNat Am.zero).num
 ·have e:Kq (BH cs) c=⟨2,0,0,CX c.op ((BH cs).getD c.a.toNat Am.zero).num ((BH cs).getD c.b.toNat Am.zero).num⟩:=if_pos h
  rw[e];exact Vy
 ·have e:Kq (BH cs) c=c:=if_neg h
  rw[e,e]
theorem Z9 (hf:∀k,k<cs.length→C3 ni k (cs.getD k Am.zero))(h:Z7 cs):BH cs=cs:=by
 have:∀k,k≤cs.length→BH (cs.take k)=cs.take k:=by
  intro k
  induction k with
  |zero=>intro _;rfl
  |succ k ih =>
   intro hk
   rw[DH hk,ih zO,CA Am.zero hk]
   congr 2
   refine Eq.trans (N0 (hf k hk) fun j hj=>?_)<|h k hk
   rw[List.getD_eq_getElem?_getD,List.getElem?_take,if_pos hj,← List.getD_eq_getElem?_getD]
 have h2:=this cs.length<|A9 _
 rwa [za (A9 _)]at h2
theorem Re (hm:1≤m)(hf:∀k,k<cs.length→C3 ni k (cs.getD k Am.zero)):∀k,k<cs.length→(AZ m A (BH cs)).getD k []=(AZ m A cs).getD k []:=by
 intro k
 induction k using Nat.strongRecOn with
 |_ k ih =>
  intro hk
  have hkf:k<(BH cs).length:=by rw[EO];exact hk
  rw[DQ hkf,DQ hk,NJ hf hk]
  have hin:=hf k hk
  have hold:∀j,j<k→(AZ m A ((BH cs).take k)).getD j []=(AZ m A (cs.take k)).getD j []:=fun j hj=>by
   rw[Ce zO hj,Ce zO hj];exact ih j hj zO
  have hnum:∀j,j<k→((BH cs).getD j Am.zero).op=2→(AZ m A (cs.take k)).getD j []=Fj m ((BH cs).getD j Am.zero).num:=fun j hj h2=>by
   rw[← hold j hj,Ce zO hj,DQ (by rw[EO];omega)]
   exact CY zO
  have hnn:∀j,j<k→((BH cs).getD j Am.zero).op=2→Hq ((BH cs).getD j Am.zero).num=true:=fun j hj h2=>by
   have:=NK hf j (by rw[EO];omega)
   unfold C3 at this
   exact Cz.2 zO
  generalize hc:cs.getD k Am.zero=c at hin
  by_cases h:(3≤c.op∧((BH cs).getD c.a.toNat Am.zero).op=2∧(c.op=7∨((BH cs).getD c.b.toNat Am.zero).op=2))∧¬Cm c.op ((BH cs).getD c.b.toNat Am.zero).num
  ·have e:Kq (BH cs) c=⟨2,0,0,CX c.op ((BH cs).getD c.a.toNat Am.zero).num ((BH cs).getD c.b.toNat Am.zero).num⟩:=if_pos h
   rw[e]
   obtain⟨⟨h1,h2,h3⟩,h4⟩:=h
   have hle:=hin.i0
   have ha:0≤c.a∧c.a<((k:Nat):Int):=by unfold C3 at hin;omega
   have hb:0≤c.b∧c.b<((k:Nat):Int):=by unfold C3 at hin;omega
   rw[show DZ m A (AZ m A ((BH cs).take k)) ⟨2,0,0,CX c.op ((BH cs).getD c.a.toNat Am.zero).num ((BH cs).getD c.b.toNat Am.zero).num⟩=Fj m (CX c.op ((BH cs).getD c.a.toNat Am.zero).num ((BH cs).getD c.b.toNat Am.zero).num)from CY (show(2:Int)≠1∧(2:Int)≠3∧(2:Int)≠4∧(2:Int)≠5∧(2:Int)≠7∧(2:Int)≠6 by decide)]
   symm
   by_cases q7:c.op=7
   ·have ey:∀y,CX c.op ((BH cs).getD c.a.toNat Am.zero).num ((BH cs).getD c.b.toNat Am.zero).num=CX c.op ((BH cs).getD c.a.toNat Am.zero).num y:=fun y=>by
     unfold CX;rw[if_neg zO,if_neg zO,if_neg zO,if_pos q7,if_neg zO,if_neg zO,if_neg zO,if_pos q7]
    rw[ey 1]
    exact P6 hm ⟨h1,hle.2⟩ (hnn _ zO h2) (show Hq 1=true by decide) (hnum _ zO h2) (fun h=>absurd q7 h) fun h=>by unfold Cm at h;omega
   ·have h3':((BH cs).getD c.b.toNat Am.zero).op=2:=by omega
    exact P6 hm ⟨h1,hle.2⟩ (hnn _ zO h2) (hnn _ zO h3') (hnum _ zO h2) (fun _=>hnum _ zO h3') h4
  ·have e:Kq (BH cs) c=c:=if_neg h
   rw[e]
   have h0:=hin.i0
   by_cases q1:c.op=1
   ·rw[En q1,En q1]
   by_cases q2:3≤c.op∧c.op≤6
   ·have hab:=hin.i2 q2
    have ea:=hold c.a.toNat zO
    have eb:=hold c.b.toNat zO
    unfold DZ;rw[ea,eb]
   by_cases q7:c.op=7
   ·have ha:=hin.i7 q7
    rw[Di q7,Di q7,hold c.a.toNat (by omega)]
   ·rw[CY zO,CY (by omega)]
theorem bE (hm:1≤m)(hf:∀k,k<cs.length→C3 ni k (cs.getD k Am.zero))(hz:EY m A cs cs.length):EY m A (BH cs) (BH cs).length:=fun k hk h6=>by
 rw[EO]at hk
 have hb:=(NK hf k (by rw[EO];exact hk)).i2 zO
 have hc:(BH cs).getD k Am.zero=cs.getD k Am.zero:=by
  rw[NJ hf hk]at h6 ⊢
  unfold Kq at h6 ⊢
  split
  ·rename_i h;rw[if_pos h]at h6;exact absurd h6 (show ¬(2:Int)=6 by decide)
  ·rfl
 rw[hc]at h6 hb ⊢
 have:=hz k hk h6
 rw[Ce zO (by omega)]at this
 rw[Ce (by rw[EO];omega) zO,Re hm hf _ (by omega)]
 exact this
end
end
section
theorem K5 {α:Type}(d:α){l l':List α}{k:Nat}(h:k<l.length):(l++l').getD k d=l.getD k d:=by
 rw[List.getD_eq_getElem?_getD,List.getElem?_append_left h,← List.getD_eq_getElem?_getD]
theorem K6 {α:Type}(d x:α){l:List α}{k:Nat}(h:k=l.length):(l++[x]).getD k d=x:=by
 subst h;rw[List.getD_eq_getElem?_getD,List.getElem?_append_right (A9 _),Nat.sub_self];rfl
theorem Mm {α:Type}(d:α){l:List α}{k:Nat}(h:k<l.length):l.getD k d∈l:=by
 rw[show l.getD k d=l[k]from by simp[h]];exact List.getElem_mem h
theorem NL {α:Type}(d:α){l:List α}{x:α}(h:x∈l):∃k,k<l.length∧l.getD k d=x:=by
 obtain⟨k,hk,e⟩:=List.mem_iff_getElem.1 h
 exact⟨k,hk,by rw[← e];simp[hk]⟩
def AV (to:List Int)(c:Am):Am:=⟨c.op,if 3≤c.op then to.getD c.a.toNat 0 else c.a,if 3≤c.op∧c.op≤6 then to.getD c.b.toNat 0 else c.b,c.num⟩
def G6 (c:Am):Am:=if (c.op=3∨c.op=5)∧c.b<c.a then⟨c.op,c.b,c.a,c.num⟩else c
inductive Of:List Am→List Am→List Int→Prop
 |nil:Of [] [] []
 |old {cs F:List Am} {to:List Int} {c:Am} {j:Int} (h:Of cs F to) (h0:0≤j∧j<((F.length:Nat):Int)) (hj:F.getD j.toNat Am.zero=G6 (AV to c)):Of (cs++[c]) F (to++[j])
 |new {cs F:List Am} {to:List Int} {c:Am} (h:Of cs F to) (hn:G6 (AV to c)∉F):Of (cs++[c]) (F++[G6 (AV to c)]) (to++[((F.length:Nat):Int)])
section
variable {m ni k n:Nat} {A:List Sr} {cs F:List Am} {to to':List Int} {c:Am}
theorem Ep:(AV to c).op=c.op:=rfl
theorem JD:(AV to c).num=c.num:=rfl
theorem PS:(G6 c).op=c.op:=by unfold G6;split <;> rfl
theorem Vz:(G6 c).num=c.num:=by unfold G6;split <;> rfl
theorem Za:((G6 c).a=c.a∧(G6 c).b=c.b)∨((c.op=3∨c.op=5)∧(G6 c).a=c.b∧(G6 c).b=c.a):=by
 unfold G6;split
 ·rename_i h;exact .inr ⟨h.1,rfl,rfl⟩
 ·exact .inl ⟨rfl,rfl⟩
theorem Zb:G6 (G6 c)=G6 c:=by
 by_cases h:(c.op=3∨c.op=5)∧c.b<c.a
 ·have e:G6 c=⟨c.op,c.b,c.a,c.num⟩:=if_pos h
  rw[e];exact if_neg fun h2=>by have:c.a<c.b:=h2.2;omega
 ·have e:G6 c=c:=if_neg h
  rw[e,e]
theorem DI (h:3≤c.op):(AV to c).a=to.getD c.a.toNat 0:=if_pos h
theorem FN (h:3≤c.op∧c.op≤6):(AV to c).b=to.getD c.b.toNat 0:=if_pos h
theorem Zc (h:C3 ni k c)(ht:∀j,j<k→0≤to.getD j 0∧to.getD j 0<((n:Nat):Int)):C3 ni n (AV to c):=by
 rcases h with⟨q,ha,hb,hn⟩|⟨q,ha,hb,hn⟩|⟨q,ha,hb,hn⟩|⟨q,ha,hb,hn⟩
 ·exact .inl ⟨q,(if_neg zO).trans ha,(if_neg zO).trans hb,hn⟩
 ·exact .inr<|.inl ⟨q,(if_neg zO).trans ha,(if_neg zO).trans hb,hn⟩
 ·have ha':=ht c.a.toNat zO
  have hb':=ht c.b.toNat zO
  exact .inr<|.inr<|.inl ⟨q,by rw[DI (by omega)];exact ha',by rw[FN (by omega)];exact hb',hn⟩
 ·have ha':=ht c.a.toNat zO
  exact .inr<|.inr<|.inr ⟨q,by rw[DI (by omega)];exact ha',(if_neg zO).trans hb,hn⟩
theorem Zd (h:C3 ni k c):C3 ni k (G6 c):=by
 by_cases q:(c.op=3∨c.op=5)∧c.b<c.a
 ·rw[show G6 c=⟨c.op,c.b,c.a,c.num⟩from if_pos q]
  rcases h with h|h|h|h
  ·exact absurd h.1 zO
  ·exact absurd h.1 zO
  ·exact .inr<|.inr<|.inl ⟨h.1,h.2.2.1,h.2.1,h.2.2.2⟩
  ·exact absurd h.1 zO
 ·rw[show G6 c=c from if_neg q];exact h
theorem VA (h:C3 ni k (G6 c)):C3 ni k c:=by
 by_cases q:(c.op=3∨c.op=5)∧c.b<c.a
 ·rw[show G6 c=⟨c.op,c.b,c.a,c.num⟩from if_pos q]at h
  rcases h with h|h|h|h
  ·have e:c.op=1:=h.1
   exact absurd e zO
  ·have e:c.op=2:=h.1
   exact absurd e zO
  ·exact .inr<|.inr<|.inl ⟨h.1,h.2.2.1,h.2.1,h.2.2.2⟩
  ·have e:c.op=7:=h.1
   exact absurd e zO
 ·rw[show G6 c=c from if_neg q]at h;exact h
theorem Ij (h:C3 ni k c)(ht:∀j,j<k→to.getD j 0=to'.getD j 0):AV to c=AV to' c:=by
 unfold AV
 by_cases q2:3≤c.op∧c.op≤6
 ·have hb:=h.i2 q2
  rw[ht c.a.toNat zO,ht c.b.toNat (by omega)]
 by_cases q7:c.op=7
 ·have ha:=h.i7 q7
  rw[ht c.a.toNat zO,if_neg q2,if_neg q2]
 ·have:=h.i0
  rw[if_neg (show ¬3≤c.op by omega),if_neg (show ¬3≤c.op by omega),if_neg q2,if_neg q2]
structure VB (ni:Nat)(cs F:List Am)(to:List Int):Prop where
 tl:to.length=cs.length
 le:F.length≤cs.length
 rng:∀k,k<cs.length→0≤to.getD k 0∧to.getD k 0<((F.length:Nat):Int)
 val:∀k,k<cs.length→F.getD (to.getD k 0).toNat Am.zero=G6 (AV to (cs.getD k Am.zero))
 form:∀k,k<F.length→C3 ni k (F.getD k Am.zero)
 dst:F.Nodup
 sur:∀j,j<F.length→∃k,k<cs.length∧to.getD k 0=((j:Nat):Int)
 low:∀k,k<cs.length→to.getD k 0≤((k:Nat):Int)
theorem Of.kn (h:Of cs F to):(∀k,k<cs.length→C3 ni k (cs.getD k Am.zero))→VB ni cs F to:=by
 induction h with
 |nil=>intro _;exact⟨rfl,A9 _,fun k hk=>absurd hk (Nat.not_lt_zero k),fun k hk=>absurd hk (Nat.not_lt_zero k),fun k hk=>absurd hk (Nat.not_lt_zero k),zk,fun k hk=>absurd hk (Nat.not_lt_zero k),fun k hk=>absurd hk (Nat.not_lt_zero k)⟩
 |@old cs F to c j h h0 hj ih =>
  intro hf
  have hf':∀k,k<cs.length→C3 ni k (cs.getD k Am.zero):=fun k hk=>by have:=hf k (by rw[z4];omega);rwa [K5 _ hk]at this
  have hc:C3 ni cs.length c:=by have:=hf cs.length (by simp);rwa [K6 _ _ rfl]at this
  have K:=ih hf'
  have hl:(cs++[c]).length=cs.length+1:=by simp
  have hto:∀k,k<cs.length→(to++[j]).getD k 0=to.getD k 0:=fun k hk=>K5 _ (by rw[K.tl];exact hk)
  have htl:(to++[j]).getD cs.length 0=j:=K6 _ _ K.tl.symm
  have hmv:∀k,k≤cs.length→AV to ((cs++[c]).getD k Am.zero)=AV (to++[j]) ((cs++[c]).getD k Am.zero):=fun k hk=>Ij (hf k (by rw[hl];omega)) fun i hi=>(hto i zO).symm
  refine⟨by simp[K.tl],by rw[hl];have:=K.le;omega,fun k hk=>?_,fun k hk=>?_,K.form,K.dst,fun i hi=>?_,fun k hk=>?_⟩
  ·rw[hl]at hk
   by_cases e:k=cs.length
   ·subst e;rw[htl];exact h0
   ·rw[hto k (by omega)];exact K.rng k zO
  ·rw[hl]at hk
   rw[← hmv k (by omega)]
   by_cases e:k=cs.length
   ·subst e;rw[htl,K6 _ _ rfl];exact hj
   ·rw[hto k zO,K5 _ (by omega)];exact K.val k zO
  ·obtain⟨k,hk,e⟩:=K.sur i hi
   exact⟨k,by rw[hl];omega,by rw[hto k hk];exact e⟩
  ·rw[hl]at hk
   by_cases e:k=cs.length
   ·subst e;rw[htl];have:=K.le;omega
   ·rw[hto k (by omega)];exact K.low k zO
 |@new cs F to c h hn ih =>
  intro hf
  have hf':∀k,k<cs.length→C3 ni k (cs.getD k Am.zero):=fun k hk=>by have:=hf k (by rw[z4];omega);rwa [K5 _ hk]at this
  have hc:C3 ni cs.length c:=by have:=hf cs.length (by simp);rwa [K6 _ _ rfl]at this
  have K:=ih hf'
  have hl:(cs++[c]).length=cs.length+1:=by simp
  have hlF:(F++[G6 (AV to c)]).length=F.length+1:=by simp
  have hto:∀k,k<cs.length→(to++[((F.length:Nat):Int)]).getD k 0=to.getD k 0:=fun k hk=>K5 _ (by rw[K.tl];exact hk)
  have htl:(to++[((F.length:Nat):Int)]).getD cs.length 0=((F.length:Nat):Int):=K6 _ _ K.tl.symm
  have hmv:∀k,k≤cs.length→AV to ((cs++[c]).getD k Am.zero)=AV (to++[((F.length:Nat):Int)]) ((cs++[c]).getD k Am.zero):=fun k hk=>Ij (hf k (by rw[hl];omega)) fun i hi=>(hto i zO).symm
  refine⟨by simp[K.tl],by rw[hl,hlF];have:=K.le;omega,fun k hk=>?_,fun k hk=>?_,fun k hk=>?_,?_,fun i hi=>?_,fun k hk=>?_⟩
  ·rw[hl]at hk
   rw[hlF]
   by_cases e:k=cs.length
   ·subst e;rw[htl];omega
   ·rw[hto k (by omega)];have:=K.rng k (by omega);omega
  ·rw[hl]at hk
   rw[← hmv k (by omega)]
   by_cases e:k=cs.length
   ·subst e;rw[htl,K6 _ _ rfl,K6 _ _ (by omega)]
   ·rw[hto k zO,K5 _ (show k<cs.length by omega),K5 _ (by have:=K.rng k (by omega);omega)];exact K.val k zO
  ·rw[hlF]at hk
   by_cases e:k=F.length
   ·subst e;rw[K6 _ _ rfl];exact Zd (Zc hc fun j hj=>K.rng j hj)
   ·rw[K5 _ (by omega)];exact K.form k zO
  ·exact List.nodup_append.2 ⟨K.dst,by simp,fun a ha b hb e=>hn (by rw[List.mem_singleton]at hb;rw[← hb,← e];exact ha)⟩
  ·rw[hlF]at hi
   by_cases e:i=F.length
   ·subst e;exact⟨cs.length,by rw[hl];omega,htl⟩
   ·obtain⟨k,hk,e'⟩:=K.sur i zO
    exact⟨k,by rw[hl];omega,by rw[hto k hk];exact e'⟩
  ·rw[hl]at hk
   by_cases e:k=cs.length
   ·subst e;rw[htl];have:=K.le;omega
   ·rw[hto k (by omega)];exact K.low k zO
theorem PT {a b:Sr}(ha:C9 m a)(hb:C9 m b):EU a b=EU b a:=C9.ext (EW ha) (EW hb) fun k hk=>by rw[Hc ha hk,Hc hb hk,Int.add_comm]
theorem PU {a b:Sr}(ha:C9 m a)(hb:C9 m b):CF a b=CF b a:=C9.ext (EX ha) (EX hb) fun k hk=>by rw[NA ha hk,NA hb hk,Dv]
theorem VC {R R':List Sr}(h:C3 ni k c)(hR:∀j,j<k→(to.getD j 0).toNat<R'.length→R'.getD (to.getD j 0).toNat []=R.getD j [])(hb:∀j,j<k→(∃r∈By c,r.toNat=j)→(to.getD j 0).toNat<R'.length):DZ m A R' (AV to c)=DZ m A R c:=by
 by_cases q1:c.op=1
 ·rw[En q1,En (show(AV to c).op=1 from q1)];rfl
 by_cases q2:3≤c.op∧c.op≤6
 ·have hab:=h.i2 q2
  have ho:By c=[c.a,c.b]:=by unfold By;rw[if_pos q2]
  have ea:=hR c.a.toNat zO<|hb _ zO ⟨c.a,by rw[ho];simp,rfl⟩
  have eb:=hR c.b.toNat zO<|hb _ zO ⟨c.b,by rw[ho];simp,rfl⟩
  unfold DZ
  rw[Ep,DI q2.1,FN q2,ea,eb,JD]
 by_cases q7:c.op=7
 ·have ha:=h.i7 q7
  have ho:By c=[c.a]:=by unfold By;rw[if_neg q2,if_pos q7]
  rw[Di q7,Di (show(AV to c).op=7 from q7),DI zO,hR c.a.toNat zO (hb _ zO ⟨c.a,by rw[ho];simp,rfl⟩)]
 ·have:=h.i0
  rw[CY (c:=c) zO,CY (show(AV to c).op≠1∧(AV to c).op≠3∧(AV to c).op≠4∧(AV to c).op≠5∧(AV to c).op≠7∧(AV to c).op≠6 by rw[Ep];omega)];rfl
theorem VD {R:List Sr}(hR:CG m R)(h:C3 ni k c)(hk:k≤R.length):DZ m A R (G6 c)=DZ m A R c:=by
 unfold G6
 split
 ·rename_i q
  have hab:=h.i2 zO
  have sa:=hR c.a.toNat zO
  have sb:=hR c.b.toNat zO
  rcases q.1 with q3|q5
  ·rw[EZ q3,EZ (show(⟨c.op,c.b,c.a,c.num⟩:Am).op=3 from q3)];exact PT sb sa
  ·rw[Fb q5,Fb (show(⟨c.op,c.b,c.a,c.num⟩:Am).op=5 from q5)];exact PU sb sa
 ·rfl
theorem VB.run (h:VB ni cs F to)(hA:CG m A)(hl:A.length=ni)(hf:∀k,k<cs.length→C3 ni k (cs.getD k Am.zero)):∀k,k<cs.length→(AZ m A F).getD (to.getD k 0).toNat []=(AZ m A cs).getD k []:=by
 subst hl
 intro k
 induction k using Nat.strongRecOn with
 |_ k ih =>
  intro hk
  have hr:=h.rng k hk
  have hj:(to.getD k 0).toNat<F.length:=by omega
  have hjk:=h.low k hk
  rw[DQ hj,DQ hk,h.val k hk]
  have hv:=h.val k hk
  have hin:=h.form _ hj
  rw[hv]at hin
  have hlen:(AZ m A (F.take (to.getD k 0).toNat)).length=(to.getD k 0).toNat:=by rw[Bp,List.length_take];omega
  have hsr:=GK hA h.form (to.getD k 0).toNat zO
  have hc:=hf k hk
  have hmv:C3 A.length (to.getD k 0).toNat (AV to (cs.getD k Am.zero)):=VA hin
  rw[VD hsr hmv (by rw[hlen];exact A9 _)]
  refine VC hc (fun j hj2 hlt=>?_) fun j hj2 hop=>?_
  ·rw[hlen]at hlt
   rw[Ce zO hlt,Ce zO hj2]
   exact ih j hj2 zO
  ·rw[hlen]
   obtain⟨r,hr1,rfl⟩:=hop
   unfold By at hr1
   split at hr1
   ·rename_i q2
    have hab:=hmv.i2 q2
    rw[DI zO,FN q2]at hab
    rcases ze.1 hr1 with rfl|hr1
    ·omega
    ·rw[Ab hr1];omega
   ·split at hr1
    ·rename_i q7
     have ha:=hmv.i7 q7
     rw[DI (by omega)]at ha
     rw[Ab hr1];omega
    ·cases hr1
theorem VB.z (h:VB ni cs F to)(hA:CG m A)(hl:A.length=ni)(hf:∀k,k<cs.length→C3 ni k (cs.getD k Am.zero))(hz:EY m A cs cs.length):EY m A F F.length:=fun j hj h6=>by
 obtain⟨k,hk,e⟩:=h.sur j hj
 have hv:=h.val k hk
 rw[e,Int.toNat_natCast]at hv
 have hb:=(h.form j hj).i2 zO
 have hop:(cs.getD k Am.zero).op=6:=by rw[hv,PS,Ep]at h6;exact h6
 have hc:=(hf k hk).i2 zO
 have hbb:(F.getD j Am.zero).b=to.getD (cs.getD k Am.zero).b.toNat 0:=by
  rw[hv]
  unfold G6
  rw[if_neg (by rw[Ep];omega)]
  exact FN zO
 have:=hz k hk hop
 rw[Ce zO (by omega)]at this
 rw[Ce zO zO,hbb,h.run hA hl hf _ (by omega)]
 exact this
def bF (cs:List Am):Prop:=cs.Nodup∧∀k,k<cs.length→G6 (cs.getD k Am.zero)=cs.getD k Am.zero
theorem VB.no (h:VB ni cs F to):bF F:=⟨h.dst,fun j hj=>by
 obtain⟨k,hk,e⟩:=h.sur j hj
 have hv:=h.val k hk
 rw[e,Int.toNat_natCast]at hv
 rw[hv,Zb]⟩
def Og (n:Nat):List Int:=(List.range n).map fun k=>((k:Nat):Int)
@[simp] theorem JE (n:Nat):(Og n).length=n:=by simp[Og]
theorem K7 {n k:Nat}(h:k<n):(Og n).getD k 0=((k:Nat):Int):=by
 unfold Og
 rw[CC (d:=0) (by simpa using h)]
 rw[List.getD_eq_getElem?_getD,List.getElem?_range h];rfl
theorem Er (n:Nat):Og (n+1)=Og n++[((n:Nat):Int)]:=by unfold Og;rw[List.range_succ,List.map_append];rfl
theorem PV (h:C3 ni k c)(hn:k≤n):AV (Og n) c=c:=by
 have e:∀x:Int,0≤x∧x<((k:Nat):Int)→(Og n).getD x.toNat 0=x:=fun x hx=>by rw[K7 (by omega)];omega
 unfold AV
 by_cases q2:3≤c.op∧c.op≤6
 ·have hb:=h.i2 q2
  rw[if_pos q2.1,if_pos q2,e _ hb.1,e _ hb.2]
 by_cases q7:c.op=7
 ·have ha:=h.i7 q7
  rw[if_pos zO,if_neg q2,e _ ha]
 ·have:=h.i0
  rw[if_neg zO,if_neg q2]
theorem Of.id (h:Of cs F to):(∀k,k<cs.length→C3 ni k (cs.getD k Am.zero))→bF cs→F=cs∧to=Og cs.length:=by
 induction h with
 |nil=>intro _ _;exact⟨rfl,rfl⟩
 |@old cs F to c j h h0 hj ih =>
  intro hf hs
  have hf':∀k,k<cs.length→C3 ni k (cs.getD k Am.zero):=fun k hk=>by have:=hf k (by rw[z4];omega);rwa [K5 _ hk]at this
  have hc:C3 ni cs.length c:=by have:=hf cs.length (by simp);rwa [K6 _ _ rfl]at this
  have hd:=List.nodup_append.1 hs.1
  obtain⟨e1,e2⟩:=ih hf' ⟨hd.1,fun k hk=>by have:=hs.2 k (by rw[z4];omega);rwa [K5 _ hk]at this⟩
  have hsc:G6 c=c:=by have:=hs.2 cs.length (by simp);rwa [K6 _ _ rfl]at this
  subst e1;subst e2
  rw[PV hc (A9 _),hsc]at hj
  exact absurd rfl<|hd.2.2 c (by rw[← hj];exact Mm _ zO) c (by simp)
 |@new cs F to c h hn ih =>
  intro hf hs
  have hf':∀k,k<cs.length→C3 ni k (cs.getD k Am.zero):=fun k hk=>by have:=hf k (by rw[z4];omega);rwa [K5 _ hk]at this
  have hc:C3 ni cs.length c:=by have:=hf cs.length (by simp);rwa [K6 _ _ rfl]at this
  have hd:=List.nodup_append.1 hs.1
  obtain⟨e1,e2⟩:=ih hf' ⟨hd.1,fun k hk=>by have:=hs.2 k (by rw[z4];omega);rwa [K5 _ hk]at this⟩
  have hsc:G6 c=c:=by have:=hs.2 cs.length (by simp);rwa [K6 _ _ rfl]at this
  subst e1;subst e2
  rw[PV hc (A9 _),hsc]
  exact⟨rfl,by rw[z4,zd,Er]⟩
theorem VB.fd (h:VB ni cs F to)(hf:∀k,k<cs.length→C3 ni k (cs.getD k Am.zero))(hn:Z7 cs):Z7 F:=fun j hj=>by
 obtain⟨k,hk,e⟩:=h.sur j hj
 have hv:=h.val k hk
 rw[e,Int.toNat_natCast]at hv
 have hin:=h.form j hj
 have hc:=hf k hk
 have h0:=hn k hk
 have hopk:∀i,i<cs.length→(F.getD (to.getD i 0).toNat Am.zero).op=(cs.getD i Am.zero).op∧(F.getD (to.getD i 0).toNat Am.zero).num=(cs.getD i Am.zero).num:=fun i hi=>by
  rw[h.val i hi,PS,Vz];exact⟨rfl,rfl⟩
 unfold Kq
 refine if_neg fun hh=>?_
 obtain⟨⟨h1,h2,h3⟩,h4⟩:=hh
 have hop:(F.getD j Am.zero).op=(cs.getD k Am.zero).op:=by rw[hv,PS];rfl
 have contra:∀hh:(3≤(cs.getD k Am.zero).op∧(cs.getD (cs.getD k Am.zero).a.toNat Am.zero).op=2∧((cs.getD k Am.zero).op=7∨(cs.getD (cs.getD k Am.zero).b.toNat Am.zero).op=2))∧¬Cm (cs.getD k Am.zero).op (cs.getD (cs.getD k Am.zero).b.toNat Am.zero).num,False:=fun hh=>by
  unfold Kq at h0
  rw[if_pos hh]at h0
  have:=congrArg Am.op h0
  have h2':(2:Int)=(cs.getD k Am.zero).op:=this
  omega
 rw[hop]at h1 h3 h4
 have h07:=hc.i0
 by_cases q7:(cs.getD k Am.zero).op=7
 ·have ha:=hc.i7 q7
  have ea:(F.getD j Am.zero).a=to.getD (cs.getD k Am.zero).a.toNat 0:=by
   rw[hv];unfold G6;rw[if_neg (by rw[Ep];omega)];exact DI h1
  rw[ea,(hopk _ zO).1]at h2
  exact contra ⟨⟨h1,h2,.inl q7⟩,fun hz=>by unfold Cm at hz;omega⟩
 ·have q2:3≤(cs.getD k Am.zero).op∧(cs.getD k Am.zero).op≤6:=by omega
  have hab:=hc.i2 q2
  have h3':(F.getD (F.getD j Am.zero).b.toNat Am.zero).op=2:=by omega
  have ha':=hopk (cs.getD k Am.zero).a.toNat zO
  have hb':=hopk (cs.getD k Am.zero).b.toNat zO
  rcases Za (c:=AV to (cs.getD k Am.zero))with⟨e1,e2⟩|⟨e0,e1,e2⟩
  ·rw[← hv,DI q2.1]at e1
   rw[← hv,FN q2]at e2
   rw[e1,ha'.1]at h2
   rw[e2,hb'.1]at h3'
   rw[e2,hb'.2]at h4
   exact contra ⟨⟨h1,h2,.inr h3'⟩,h4⟩
  ·rw[← hv,FN q2]at e1
   rw[← hv,DI q2.1]at e2
   rw[e1,hb'.1]at h2
   rw[e2,ha'.1]at h3'
   rw[Ep]at e0
   exact contra ⟨⟨h1,h3',.inr h2⟩,fun hz=>by unfold Cm at hz;omega⟩
end
end
section
theorem eH {l:List Int}{i:Nat}(h:i<l.length):l.getD i 0=l[i]:=by simp[h]
theorem IU (l:List Bool)(i m:Nat)(b:Bool)(hi:i<l.length):(l.set i b).getD m false=if i=m then b else l.getD m false:=by
 rw[List.getD_eq_getElem?_getD,List.getElem?_set]
 by_cases e:i=m
 ·subst e;rw[if_pos rfl,if_pos rfl];simp[hi]
 ·rw[if_neg e,if_neg e,List.getD_eq_getElem?_getD]
theorem Rf {k:Nat}:∀(rs:List Int)(l:List Bool),(∀i,i<rs.length→(rs.getD i 0).toNat<l.length∧(rs.getD i 0).toNat≠k)→∀m,(Mh k l rs).getD m false=(l.getD m false || (l.getD k false && rs.any fun r=>decide (r.toNat=m)))
 |[],l,_,m=>by simp[Mh]
 |r::rs,l,h,m=>by
  have h0:=h 0 (by simp)
  have h0':r.toNat<l.length∧r.toNat≠k:=h0
  have e1:(l.set r.toNat (l.getD r.toNat false || l.getD k false)).getD k false=l.getD k false:=by rw[IU _ _ _ _ h0'.1,if_neg h0'.2]
  show(Mh k (l.set r.toNat (l.getD r.toNat false || l.getD k false)) rs).getD m false=_
  rw[Rf rs _ (fun i hi=>by
   have:=h (i+1) (by simpa using hi)
   rw[z6];simpa using this) m,e1,IU _ _ _ _ h0'.1]
  rw[List.any_cons]
  by_cases e:r.toNat=m
  ·subst e
   rw[if_pos rfl]
   cases l.getD r.toNat false <;> cases l.getD k false <;> simp
  ·rw[if_neg e,A8 e,Bool.false_or]
variable {cs:List Am} {l:List Bool}
theorem JF (hl:l.length=cs.length)(hf:∀k,k<cs.length→∀i,i<(By (cs.getD k Am.zero)).length→0≤(By (cs.getD k Am.zero)).getD i 0∧(By (cs.getD k Am.zero)).getD i 0<((k:Nat):Int)){j:Nat}(hj:j<cs.length)(m:Nat) :
  (Mi cs l (j+1)).getD m false=((Mi cs l j).getD m false || ((Mi cs l j).getD (cs.length-1-j) false && (By (cs.getD (cs.length-1-j) Am.zero)).any fun r=>decide (r.toNat=m))):=by
 show(Mh _ _ _).getD m false=_
 refine Rf _ _ (fun i hi=>?_) m
 have:=hf (cs.length-1-j) zO i hi
 rw[JC]
 omega
theorem JG (hl:l.length=cs.length)(hf:∀k,k<cs.length→∀i,i<(By (cs.getD k Am.zero)).length→0≤(By (cs.getD k Am.zero)).getD i 0∧(By (cs.getD k Am.zero)).getD i 0<((k:Nat):Int)){j m:Nat}(h:(Mi cs l j).getD m false=true):∀d,j+d≤cs.length→(Mi cs l (j+d)).getD m false=true
 |0,_=>h
 |d+1,hd=>by
  have ih:=JG hl hf h d zO
  rw[show j+(d+1)=(j+d)+1 from rfl,JF hl hf zO,ih,Bool.true_or]
theorem P7 (hl:l.length=cs.length)(hf:∀k,k<cs.length→∀i,i<(By (cs.getD k Am.zero)).length→0≤(By (cs.getD k Am.zero)).getD i 0∧(By (cs.getD k Am.zero)).getD i 0<((k:Nat):Int)){j m:Nat}(hm:cs.length≤m+1+j):∀d,j+d≤cs.length→(Mi cs l (j+d)).getD m false=(Mi cs l j).getD m false
 |0,_=>rfl
 |d+1,hd=>by
  have ih:=P7 hl hf hm d zO
  rw[show j+(d+1)=(j+d)+1 from rfl,JF hl hf zO,ih]
  have:(By (cs.getD (cs.length-1-(j+d)) Am.zero)).any (fun r=>decide (r.toNat=m))=false:=by
   rw[List.any_eq_false]
   intro r hr
   obtain⟨i,hi,rfl⟩:=List.mem_iff_getElem.1 hr
   have:=hf (cs.length-1-(j+d)) zO i hi
   rw[eH hi]at this
   simp only[decide_eq_true_eq]
   omega
  rw[this,Bool.and_false,Bool.or_false]
theorem PW (hl:l.length=cs.length)(hf:∀k,k<cs.length→∀i,i<(By (cs.getD k Am.zero)).length→0≤(By (cs.getD k Am.zero)).getD i 0∧(By (cs.getD k Am.zero)).getD i 0<((k:Nat):Int)){k i:Nat}(hk:k<cs.length)(h:(Mi cs l cs.length).getD k false=true)(hi:i<(By (cs.getD k Am.zero)).length) :
  (Mi cs l cs.length).getD ((By (cs.getD k Am.zero)).getD i 0).toNat false=true:=by
 have hb:=P7 (l:=l) hl hf (j:=cs.length-1-k) (m:=k) zO (k+1) zO
 rw[show cs.length-1-k+(k+1)=cs.length from by omega,h]at hb
 have hs:=JF (l:=l) hl hf (j:=cs.length-1-k) zO ((By<|cs.getD k Am.zero).getD i 0).toNat
 rw[show cs.length-1-(cs.length-1-k)=k from by omega,← hb,Bool.true_and]at hs
 have ha:(By (cs.getD k Am.zero)).any (fun r=>decide (r.toNat=((By (cs.getD k Am.zero)).getD i 0).toNat))=true:=by
  rw[List.any_eq_true]
  exact⟨(By (cs.getD k Am.zero)).getD i 0,by rw[eH hi];exact List.getElem_mem hi,by simp⟩
 rw[ha,Bool.or_true]at hs
 have:=JG hl hf hs k zO
 rwa [show cs.length-1-k+1+k=cs.length from by omega]at this
theorem Fe (rs:List Int):(Ml cs rs).length=cs.length:=by unfold Ml;rw[JC,He]
end
section
section
variable {cs:List Am} {o:List Int} {ni:Nat}
theorem NM (hf:∀k,k<cs.length→C3 ni k (cs.getD k Am.zero)):∀k,k<cs.length→∀i,i<(By (cs.getD k Am.zero)).length→0≤(By (cs.getD k Am.zero)).getD i 0∧(By (cs.getD k Am.zero)).getD i 0<((k:Nat):Int):=fun k hk=>NH (hf k hk)
end
end
section
def DR (cs:List Am)(mk:List Bool):Nat→List Am×List Int
 |0=>([],List.replicate cs.length 0)
 |k+1=>if mk.getD k false=true then((DR cs mk k).1++[AV ((DR cs mk k).2.set k (((DR cs mk k).1.length:Nat):Int)) (cs.getD k Am.zero)],(DR cs mk k).2.set k (((DR cs mk k).1.length:Nat):Int))else DR cs mk k
section
variable {m ni k n i:Nat} {A:List Sr} {cs F:List Am} {to to':List Int} {c:Am} {mk:List Bool} {rs:List Int}
theorem N1 (h:mk.getD k false=true):DR cs mk (k+1)=((DR cs mk k).1++[AV ((DR cs mk k).2.set k (((DR cs mk k).1.length:Nat):Int)) (cs.getD k Am.zero)],(DR cs mk k).2.set k (((DR cs mk k).1.length:Nat):Int)):=if_pos h
theorem XC (h:¬mk.getD k false=true):DR cs mk (k+1)=DR cs mk k:=if_neg h
theorem K8 (l:List Int)(i m:Nat)(x:Int)(hi:i<l.length):(l.set i x).getD m 0=if i=m then x else l.getD m 0:=by
 rw[List.getD_eq_getElem?_getD,List.getElem?_set]
 by_cases e:i=m
 ·subst e;rw[if_pos rfl,if_pos rfl];simp[hi]
 ·rw[if_neg e,if_neg e,List.getD_eq_getElem?_getD]
theorem VE:By (AV to c)=(By c).map fun r=>to.getD r.toNat 0:=by
 unfold By
 rw[Ep]
 split
 ·rename_i q;rw[DI q.1,FN q];rfl
 ·split
  ·rename_i q;rw[DI (by omega)];rfl
  ·rfl
theorem Hf (h:C3 ni k c):∀r∈By c,0≤r∧r<((k:Nat):Int):=fun r hr=>by
 obtain⟨i,hi,rfl⟩:=List.mem_iff_getElem.1 hr
 have:=NH h i hi
 rwa [eH hi]at this
theorem VF (h:C3 ni k c)(ht:∀r∈By c,0≤to.getD r.toNat 0∧to.getD r.toNat 0<((n:Nat):Int)):C3 ni n (AV to c):=by
 rcases h with⟨q,ha,hb,hn⟩|⟨q,ha,hb,hn⟩|⟨q,ha,hb,hn⟩|⟨q,ha,hb,hn⟩
 ·exact .inl ⟨q,(if_neg zO).trans ha,(if_neg zO).trans hb,hn⟩
 ·exact .inr<|.inl ⟨q,(if_neg zO).trans ha,(if_neg zO).trans hb,hn⟩
 ·have ho:By c=[c.a,c.b]:=by unfold By;rw[if_pos (by omega)]
  have ha':=ht c.a (by rw[ho];simp)
  have hb':=ht c.b (by rw[ho];simp)
  exact .inr<|.inr<|.inl ⟨q,by rw[DI (by omega)];exact ha',by rw[FN (by omega)];exact hb',hn⟩
 ·have ho:By c=[c.a]:=by unfold By;rw[if_neg zO,if_pos q]
  have ha':=ht c.a (by rw[ho];simp)
  exact .inr<|.inr<|.inr ⟨q,by rw[DI (by omega)];exact ha',(if_neg zO).trans hb,hn⟩
structure PX (cs:List Am)(mk:List Bool)(i:Nat)(F:List Am)(to:List Int):Prop where
 tl:to.length=cs.length
 le:F.length≤i
 rng:∀k,k<i→mk.getD k false=true→0≤to.getD k 0∧to.getD k 0<((F.length:Nat):Int)
 val:∀k,k<i→mk.getD k false=true→F.getD (to.getD k 0).toNat Am.zero=AV to (cs.getD k Am.zero)
 sur:∀j,j<F.length→∃k,k<i∧mk.getD k false=true∧to.getD k 0=((j:Nat):Int)
 mono:∀k k',k<k'→k'<i→mk.getD k false=true→mk.getD k' false=true→to.getD k 0<to.getD k' 0
theorem HO (hf:∀k,k<cs.length→C3 ni k (cs.getD k Am.zero)):∀i,i≤cs.length→PX cs mk i (DR cs mk i).1 (DR cs mk i).2
 |0,_=>⟨by show(List.replicate _ _).length=_;simp,A9 _,fun k hk=>absurd hk (Nat.not_lt_zero k),fun k hk=>absurd hk (Nat.not_lt_zero k),fun k hk=>absurd hk (Nat.not_lt_zero k),fun k k' _ hk=>absurd hk (Nat.not_lt_zero k')⟩
 |i+1,hi=>by
  have K:=HO hf i zO
  by_cases h:mk.getD i false=true
  ·rw[N1 h]
   generalize (DR cs mk i).1=F at K
   generalize (DR cs mk i).2=to at K
   have hto:∀k,k≠i→(to.set i ((F.length:Nat):Int)).getD k 0=to.getD k 0:=fun k hk=>by rw[K8 _ _ _ _ (by rw[K.tl];omega),if_neg (fun e=>hk e.symm)]
   have hti:(to.set i ((F.length:Nat):Int)).getD i 0=((F.length:Nat):Int):=by rw[K8 _ _ _ _ (by rw[K.tl];omega),if_pos rfl]
   have hlF:(F++[AV (to.set i ((F.length:Nat):Int)) (cs.getD i Am.zero)]).length=F.length+1:=by simp
   refine⟨by rw[z6];exact K.tl,by rw[hlF];have:=K.le;omega,fun k hk hm=>?_,fun k hk hm=>?_,fun j hj=>?_,fun k k' h1 h2 h3 h4=>?_⟩
   ·rw[hlF]
    by_cases e:k=i
    ·subst e;rw[hti];omega
    ·rw[hto k e];have:=K.rng k zO hm;omega
   ·by_cases e:k=i
    ·subst e;rw[hti,K6 _ _ (by omega)]
    ·rw[hto k e,K5 _ (by have:=K.rng k zO hm;omega),K.val k zO hm]
     exact Ij (hf k zO) fun j hj=>(hto j zO).symm
   ·rw[hlF]at hj
    by_cases e:j=F.length
    ·subst e;exact⟨i,Nat.lt_succ_self i,h,hti⟩
    ·obtain⟨k,hk,hm,e'⟩:=K.sur j zO
     exact⟨k,zO,hm,by rw[hto k (by omega)];exact e'⟩
   ·by_cases e:k'=i
    ·subst e;rw[hti,hto k (by omega)];exact(K.rng k h1 h3).2
    ·rw[hto k zO,hto k' e];exact K.mono k k' h1 zO h3 h4
  ·rw[XC h]
   have ne:∀k,mk.getD k false=true→k≠i:=fun k hm e=>h (by rw[← e];exact hm)
   refine⟨K.tl,by have:=K.le;omega,fun k hk hm=>K.rng k (by have:=ne k hm;omega) hm,fun k hk hm=>K.val k (by have:=ne k hm;omega) hm,fun j hj=>?_,fun k k' h1 h2 h3 h4=>K.mono k k' h1 (by have:=ne k' h4;omega) h3 h4⟩
   obtain⟨k,hk,hm⟩:=K.sur j hj
   exact⟨k,zO,hm⟩
theorem PX.inj (h:PX cs mk i F to){k k':Nat}(hk:k<i)(hk':k'<i)(h1:mk.getD k false=true)(h2:mk.getD k' false=true)(e:to.getD k 0=to.getD k' 0):k=k':=by
 rcases Nat.lt_trichotomy k k' with q|q|q
 ·have:=h.mono k k' q hk' h1 h2;omega
 ·exact q
 ·have:=h.mono k' k q hk h2 h1;omega
def Ze (cs:List Am)(mk:List Bool):Prop:=∀k,k<cs.length→mk.getD k false=true→∀r∈By (cs.getD k Am.zero),mk.getD r.toNat false=true
theorem PX.form (h:PX cs mk cs.length F to)(hc:Ze cs mk)(hf:∀k,k<cs.length→C3 ni k (cs.getD k Am.zero)):∀j,j<F.length→C3 ni j (F.getD j Am.zero):=fun j hj=>by
 obtain⟨k,hk,hm,e⟩:=h.sur j hj
 have hv:=h.val k hk hm
 rw[e,Int.toNat_natCast]at hv
 rw[hv]
 refine VF (hf k hk) fun r hr=>?_
 have hl:=Hf (hf k hk) r hr
 have hmr:=hc k hk hm r hr
 have h1:=h.rng r.toNat zO hmr
 have h2:=h.mono r.toNat k zO hk hmr hm
 omega
theorem PX.run (h:PX cs mk cs.length F to)(hc:Ze cs mk)(hf:∀k,k<cs.length→C3 ni k (cs.getD k Am.zero)):∀k,k<cs.length→mk.getD k false=true→(AZ m A F).getD (to.getD k 0).toNat []=(AZ m A cs).getD k []:=by
 intro k
 induction k using Nat.strongRecOn with
 |_ k ih =>
  intro hk hm
  have hr:=h.rng k hk hm
  have hj:(to.getD k 0).toNat<F.length:=by omega
  rw[DQ hj,DQ hk,h.val k hk hm]
  have hlen:(AZ m A (F.take (to.getD k 0).toNat)).length=(to.getD k 0).toNat:=by rw[Bp,List.length_take];omega
  have hop:∀r∈By (cs.getD k Am.zero),(AZ m A (F.take (to.getD k 0).toNat)).getD (to.getD r.toNat 0).toNat []=(AZ m A (cs.take k)).getD r.toNat []:=fun r hr=>by
   have hl:=Hf (hf k hk) r hr
   have hmr:=hc k hk hm r hr
   have h1:=h.rng r.toNat zO hmr
   have h2:=h.mono r.toNat k zO hk hmr hm
   rw[Ce zO zO,Ce zO (by omega)]
   exact ih r.toNat zO zO hmr
  generalize cs.getD k Am.zero=c at hop
  by_cases q1:c.op=1
  ·rw[En q1,En (show(AV to c).op=1 from q1)];rfl
  by_cases q2:3≤c.op∧c.op≤6
  ·have ho:By c=[c.a,c.b]:=by unfold By;rw[if_pos q2]
   rw[ho]at hop
   unfold DZ
   rw[Ep,DI q2.1,FN q2,hop c.a (by simp),hop c.b (by simp),JD]
  by_cases q7:c.op=7
  ·have ho:By c=[c.a]:=by unfold By;rw[if_neg q2,if_pos q7]
   rw[ho]at hop
   rw[Di q7,Di (show(AV to c).op=7 from q7),DI zO,hop c.a (by simp)]
  ·rw[CY (c:=c) zO,CY (show(AV to c).op≠1∧(AV to c).op≠3∧(AV to c).op≠4∧(AV to c).op≠5∧(AV to c).op≠7∧(AV to c).op≠6 by rw[Ep];omega)];rfl
theorem PX.z (h:PX cs mk cs.length F to)(hc:Ze cs mk)(hf:∀k,k<cs.length→C3 ni k (cs.getD k Am.zero))(hz:EY m A cs cs.length):EY m A F F.length:=fun j hj h6=>by
 obtain⟨k,hk,hm,e⟩:=h.sur j hj
 have hv:=h.val k hk hm
 rw[e,Int.toNat_natCast]at hv
 have hb:=(h.form hc hf j hj).i2 zO
 have hop:(cs.getD k Am.zero).op=6:=by rw[hv]at h6;exact h6
 have hcc:=(hf k hk).i2 zO
 have hbb:(F.getD j Am.zero).b=to.getD (cs.getD k Am.zero).b.toNat 0:=by rw[hv];exact FN zO
 have:=hz k hk hop
 rw[Ce zO (by omega)]at this
 rw[Ce zO zO,hbb,h.run hc hf _ zO (hc k hk hm _ (by unfold By;rw[if_pos (by omega)];simp))]
 exact this
theorem PX.fd (h:PX cs mk cs.length F to)(hc:Ze cs mk)(hf:∀k,k<cs.length→C3 ni k (cs.getD k Am.zero))(hn:Z7 cs):Z7 F:=fun j hj=>by
 obtain⟨k,hk,hm,e⟩:=h.sur j hj
 have hv:=h.val k hk hm
 rw[e,Int.toNat_natCast]at hv
 have h0:=hn k hk
 have hcc:=hf k hk
 have hcm:=hc k hk hm
 have hl:=Hf hcc
 have hopk:∀i,i<cs.length→mk.getD i false=true→(F.getD (to.getD i 0).toNat Am.zero).op=(cs.getD i Am.zero).op∧(F.getD (to.getD i 0).toNat Am.zero).num=(cs.getD i Am.zero).num:=fun i hi hm=>by
  rw[h.val i hi hm];exact⟨rfl,rfl⟩
 rw[hv]
 generalize cs.getD k Am.zero=c at hv h0 hcc hcm hl
 have contra:∀hh:(3≤c.op∧(cs.getD c.a.toNat Am.zero).op=2∧(c.op=7∨(cs.getD c.b.toNat Am.zero).op=2))∧¬Cm c.op (cs.getD c.b.toNat Am.zero).num,False:=fun hh=>by
  unfold Kq at h0
  rw[if_pos hh]at h0
  have h2':(2:Int)=c.op:=congrArg Am.op h0
  omega
 unfold Kq
 refine if_neg fun hh=>?_
 obtain⟨⟨h1,h2,h3⟩,h4⟩:=hh
 rw[Ep]at h1 h3 h4
 rw[DI h1]at h2
 have h07:=hcc.i0
 by_cases q7:c.op=7
 ·have ho:By c=[c.a]:=by unfold By;rw[if_neg zO,if_pos q7]
  rw[ho]at hcm hl
  rw[(hopk _ (by have:=hl c.a (by simp);omega) (hcm c.a (by simp))).1]at h2
  exact contra ⟨⟨h1,h2,.inl q7⟩,fun hz=>by unfold Cm at hz;omega⟩
 ·have q2:3≤c.op∧c.op≤6:=by omega
  have ho:By c=[c.a,c.b]:=by unfold By;rw[if_pos q2]
  rw[ho]at hcm hl
  have ha':=hopk c.a.toNat (by have:=hl c.a (by simp);omega) (hcm c.a (by simp))
  have hb':=hopk c.b.toNat (by have:=hl c.b (by simp);omega) (hcm c.b (by simp))
  rw[FN q2]at h3 h4
  rw[ha'.1]at h2
  rw[hb'.1]at h3
  rw[hb'.2]at h4
  exact contra ⟨⟨h1,h2,h3⟩,h4⟩
theorem LE {α:Type}(d:α){l:List α}:l.Nodup↔∀i j,i<l.length→j<l.length→l.getD i d=l.getD j d→i=j:=by
 have e:∀i,(hi:i<l.length)→l.getD i d=l[i]:=fun i hi=>by simp[hi]
 constructor
 ·intro h i j hi hj he
  rw[e i hi,e j hj]at he
  have h:=List.pairwise_iff_getElem.1 h
  rcases Nat.lt_trichotomy i j with q|q|q
  ·exact absurd he<|h i j hi hj q
  ·exact q
  ·exact absurd he.symm<|h j i hj hi q
 ·intro h
  refine List.pairwise_iff_getElem.2 fun i j hi hj hlt he=>?_
  have:=h i j hi hj (by rw[e i hi,e j hj];exact he)
  omega
theorem PX.sh (h:PX cs mk cs.length F to)(hc:Ze cs mk)(hf:∀k,k<cs.length→C3 ni k (cs.getD k Am.zero))(hn:bF cs):bF F:=by
 have hinj:∀k k',k<cs.length→k'<cs.length→mk.getD k false=true→mk.getD k' false=true→AV to (cs.getD k Am.zero)=AV to (cs.getD k' Am.zero)→k=k':=by
  intro k k' hk hk' hm hm' he
  refine (LE Am.zero).1 hn.1 k k' hk hk' ?_
  have c1:=hf k hk
  have c2:=hf k' hk'
  have m1:=hc k hk hm
  have m2:=hc k' hk' hm'
  have l1:=Hf c1
  have l2:=Hf c2
  generalize cs.getD k Am.zero=c at he c1 m1 l1
  generalize cs.getD k' Am.zero=c' at he c2 m2 l2
  have e1:c.op=c'.op:=show(AV to c).op=(AV to c').op from congrArg Am.op he
  have e2:c.num=c'.num:=show(AV to c).num=(AV to c').num from congrArg Am.num he
  have eq:∀r r',r∈By c→r'∈By c'→to.getD r.toNat 0=to.getD r'.toNat 0→r=r':=fun r r' hr hr' h3=>by
   have a1:=l1 r hr
   have a2:=l2 r' hr'
   have:=h.inj zO zO (m1 r hr) (m2 r' hr') h3
   omega
  have e3:c.a=c'.a∧c.b=c'.b:=by
   by_cases q2:3≤c.op∧c.op≤6
   ·have q2':3≤c'.op∧c'.op≤6:=by omega
    have ho:By c=[c.a,c.b]:=by unfold By;rw[if_pos q2]
    have ho':By c'=[c'.a,c'.b]:=by unfold By;rw[if_pos q2']
    have ea:=congrArg Am.a he
    have eb:=congrArg Am.b he
    rw[DI q2.1,DI q2'.1]at ea
    rw[FN q2,FN q2']at eb
    exact⟨eq _ _ (by rw[ho];simp) (by rw[ho'];simp) ea,eq _ _ (by rw[ho];simp) (by rw[ho'];simp) eb⟩
   by_cases q7:c.op=7
   ·have q7':c'.op=7:=by omega
    have ho:By c=[c.a]:=by unfold By;rw[if_neg q2,if_pos q7]
    have ho':By c'=[c'.a]:=by unfold By;rw[if_neg zO,if_pos q7']
    have ea:=congrArg Am.a he
    rw[DI zO,DI (by omega)]at ea
    refine⟨eq _ _ (by rw[ho];simp) (by rw[ho'];simp) ea,?_⟩
    unfold C3 at c1 c2;omega
   ·unfold C3 at c1 c2;omega
  cases c;cases c'
  simp only at e1 e2 e3
  rw[e1,e2,e3.1,e3.2]
 refine⟨(LE Am.zero).2 fun i j hi hj he=>?_,fun j hj=>?_⟩
 ·obtain⟨k,hk,hm,e⟩:=h.sur i hi
  obtain⟨k',hk',hm',e'⟩:=h.sur j hj
  have hv:=h.val k hk hm
  have hv':=h.val k' hk' hm'
  rw[e,Int.toNat_natCast]at hv
  rw[e',Int.toNat_natCast]at hv'
  rw[hv,hv']at he
  have:=hinj k k' hk hk' hm hm' he
  subst this
  omega
 ·obtain⟨k,hk,hm,e⟩:=h.sur j hj
  have hv:=h.val k hk hm
  rw[e,Int.toNat_natCast]at hv
  have hs:=hn.2 k hk
  have c1:=hf k hk
  have m1:=hc k hk hm
  have l1:=Hf c1
  rw[hv]
  generalize cs.getD k Am.zero=c at hs c1 m1 l1
  unfold G6
  refine if_neg fun q=>?_
  rw[Ep]at q
  have q2:3≤c.op∧c.op≤6:=by omega
  have ho:By c=[c.a,c.b]:=by unfold By;rw[if_pos q2]
  rw[ho]at m1 l1
  rw[DI q2.1,FN q2]at q
  have la:=l1 c.a (by simp)
  have lb:=l1 c.b (by simp)
  have hab:c.a≤c.b:=Int.not_lt.1 fun hlt=>by
   unfold G6 at hs
   rw[if_pos ⟨q.1,hlt⟩]at hs
   have:c.b=c.a:=congrArg Am.a hs
   omega
  by_cases ee:c.a=c.b
  ·rw[ee]at q;omega
  ·have:=h.mono c.a.toNat c.b.toNat zO zO (m1 c.a (by simp)) (m1 c.b (by simp));omega
theorem Rg:∀ {rs:List Int},(∀r∈rs,r.toNat<n)→∀m,(NF n rs).getD m false=(rs.any fun r=>decide (r.toNat=m)):=by
 have:∀(rs:List Int) (l:List Bool),(∀r∈rs,r.toNat<l.length)→∀m,(rs.foldl (fun l r=>l.set r.toNat true) l).getD m false=(l.getD m false || rs.any fun r=>decide (r.toNat=m)):=by
  intro rs
  induction rs with
  |nil=>intro l _ m;simp
  |cons r rs ih =>
   intro l hl m
   rw[List.foldl_cons,ih _ (fun q hq=>by rw[z6];exact hl q (by simp[hq])),IU _ _ _ _ (hl r (by simp)),List.any_cons]
   by_cases e:r.toNat=m
   ·rw[if_pos e,A7 e];simp
   ·rw[if_neg e,A8 e,Bool.false_or]
 intro rs h m
 unfold NF
 rw[this rs _ (fun r hr=>by rw[z5];exact h r hr)]
 rw[show(List.replicate n false).getD m false=false from by rw[List.getD_eq_getElem?_getD,List.getElem?_replicate];split <;> rfl,Bool.false_or]
theorem K9 (hf:∀k,k<cs.length→C3 ni k (cs.getD k Am.zero))(hr:∀r∈rs,0≤r∧r<((cs.length:Nat):Int)):∀r∈rs,(Ml cs rs).getD r.toNat false=true:=fun r h=>by
 have h0:(Mi cs (NF cs.length rs) 0).getD r.toNat false=true:=by
  show(NF cs.length rs).getD r.toNat false=true
  rw[Rg (fun q hq=>by have:=hr q hq;omega),List.any_eq_true]
  exact⟨r,h,by simp⟩
 have:=JG (He _ _) (NM hf) h0 cs.length zO
 rwa [Nat.zero_add]at this
theorem NN (hf:∀k,k<cs.length→C3 ni k (cs.getD k Am.zero)):Ze cs (Ml cs rs):=fun k hk hm r hr=>by
 obtain⟨q,hq,rfl⟩:=List.mem_iff_getElem.1 hr
 have:=PW (cs:=cs) (l:=NF cs.length rs) (He _ _) (NM hf) hk hm hq
 rwa [eH hq]at this
theorem Rh (hf:∀k,k<cs.length→C3 ni k (cs.getD k Am.zero)){l:List Bool}(hl:l.length=cs.length){m:Nat}:∀j,j≤cs.length→(Mi cs l j).getD m false=true→l.getD m false=true∨∃k,k<cs.length∧(Mi cs l cs.length).getD k false=true∧∃r∈By (cs.getD k Am.zero),r.toNat=m
 |0,_,h=>.inl h
 |j+1,hj,h=>by
  rw[JF hl (NM hf) (by omega)]at h
  rw[Bool.or_eq_true,z7,List.any_eq_true]at h
  rcases h with h|⟨h1,r,h2,h3⟩
  ·exact Rh hf hl j zO h
  ·have:=JG hl (NM hf) h1 (cs.length-j) zO
   rw[show j+(cs.length-j)=cs.length from by omega]at this
   exact .inr ⟨cs.length-1-j,zO,this,r,h2,by simpa using h3⟩
theorem PX.all (h:PX cs (Ml cs rs) cs.length F to)(hf:∀k,k<cs.length→C3 ni k (cs.getD k Am.zero))(hr:∀r∈rs,0≤r∧r<((cs.length:Nat):Int)):∀j,j<F.length→(Ml F (rs.map fun r=>to.getD r.toNat 0)).getD j false=true:=by
 have hc:=NN (rs:=rs) hf
 have hF:=h.form hc hf
 have hr':∀r∈(rs.map fun r=>to.getD r.toNat 0),0≤r∧r<((F.length:Nat):Int):=fun r hrm=>by
  obtain⟨q,hq,rfl⟩:=List.mem_map.1 hrm
  have:=hr q hq
  exact h.rng q.toNat zO<|K9 hf hr q hq
 have key:∀n k,cs.length-k≤n→k<cs.length→(Ml cs rs).getD k false=true→(Ml F (rs.map fun r=>to.getD r.toNat 0)).getD (to.getD k 0).toNat false=true:=by
  intro n
  induction n with
  |zero=>intro k h1 h2;omega
  |succ n ih =>
   intro k h1 hk hm
   rcases Rh hf (He _ _) cs.length (A9 _) hm with h0|⟨k2,hk2,hm2,r,hrr,e⟩
   ·rw[Rg (fun q hq=>by have:=hr q hq;omega),List.any_eq_true]at h0
    obtain⟨r,h1,h2⟩:=h0
    have h2:r.toNat=k:=by simpa using h2
    rw[← h2]
    exact K9 hF hr' _<|List.mem_map.2 ⟨r,h1,rfl⟩
   ·have hl:=Hf (hf k2 hk2) r hrr
    have i1:=ih k2 zO hk2 hm2
    have hcF:=NN (rs:=rs.map fun r=>to.getD r.toNat 0) hF
    refine hcF (to.getD k2 0).toNat (by have:=h.rng k2 hk2 hm2;omega) i1 (to.getD k 0) ?_
    rw[h.val k2 hk2 hm2,VE]
    exact List.mem_map.2 ⟨r,hrr,by rw[e]⟩
 intro j hj
 obtain⟨k,hk,hm,e⟩:=h.sur j hj
 have:=key _ k (A9 _) hk hm
 rwa [e,Int.toNat_natCast]at this
theorem TT (hf:∀k,k<cs.length→C3 ni k (cs.getD k Am.zero))(ha:∀k,k<cs.length→mk.getD k false=true):∀i,i≤cs.length→(DR cs mk i).1=cs.take i∧∀k,k<i→(DR cs mk i).2.getD k 0=((k:Nat):Int)
 |0,_=>⟨rfl,fun k hk=>absurd hk (Nat.not_lt_zero k)⟩
 |i+1,hi=>by
  obtain⟨e1,e2⟩:=TT hf ha i zO
  have K:=HO (mk:=mk) hf i zO
  rw[N1 (ha i zO)]
  have hl:(DR cs mk i).1.length=i:=by rw[e1,List.length_take];omega
  have h2:∀k,k<i+1→((DR cs mk i).2.set i (((DR cs mk i).1.length:Nat):Int)).getD k 0=((k:Nat):Int):=fun k hk=>by
   rw[K8 _ _ _ _ (by rw[K.tl];omega)]
   by_cases e:i=k
   ·rw[if_pos e,hl,e]
   ·rw[if_neg e];exact e2 k zO
  refine⟨?_,h2⟩
  show(DR cs mk i).1++[_]=_
  rw[CA Am.zero zO,e1]
  congr 2
  rw[← e1]
  refine Eq.trans (Ij (hf i zO) fun j hj=>?_)<|PV (hf i zO)<|A9 i
  rw[h2 j zO,K7 hj]
end
end
section
def G7 (to:List Int)(g:Bt):Bt:=⟨to.getD g.reg.toNat 0,g.z⟩
def HP (to:List Int)(r:Int):Int:=to.getD r.toNat 0
inductive Mn:List Bt→List Bt→Prop
 |nil:Mn [] []
 |old {gs out:List Bt} {g:Bt} (h:Mn gs out) (hm:g∈out):Mn (gs++[g]) out
 |new {gs out:List Bt} {g:Bt} (h:Mn gs out) (hm:g∉out):Mn (gs++[g]) (out++[g])
section
variable {m ni k n i:Nat} {A:List Sr} {cs cs' F:List Am} {to to' os os':List Int} {gs gs' out:List Bt}
theorem Mn.mem (h:Mn gs out):∀g,g∈out↔g∈gs:=by
 induction h with
 |nil=>exact fun g=>Iff.rfl
 |@old gs out g0 h hm ih =>
  intro g
  rw[ih g,zi,List.mem_singleton]
  exact⟨.inl,fun h=>h.elim id fun e=>by rw[e];exact(ih g0).1 hm⟩
 |@new gs out g0 h hm ih =>
  intro g
  rw[zi,zi,ih g]
theorem Mn.nd (h:Mn gs out):out.Nodup:=by
 induction h with
 |nil=>exact zk
 |old h hm ih=>exact ih
 |@new gs out g0 h hm ih=>exact List.nodup_append.2 ⟨ih,by simp,fun a ha b hb e=>hm (by rw[List.mem_singleton]at hb;rw[← hb,← e];exact ha)⟩
theorem Mn.le (h:Mn gs out):out.length≤gs.length:=by
 induction h with
 |nil=>exact A9 _
 |old h hm ih=>rw[z4];omega
 |new h hm ih=>rw[z4,z4,zd];omega
theorem Mn.id (h:Mn gs out):gs.Nodup→out=gs:=by
 induction h with
 |nil=>exact fun _=>rfl
 |@old gs out g0 h hm ih =>
  intro hn
  have:=List.nodup_append.1 hn
  rw[ih this.1]at hm
  exact absurd rfl<|this.2.2 g0 hm g0 (by simp)
 |new h hm ih =>
  intro hn
  rw[ih (List.nodup_append.1 hn).1]
def Dq (F:List Am)(gs:List Bt)(os:List Int):List Bool:=Ml F (os++gs.map (·.reg))
def NO (cs:List Am)(gs:List Bt)(os:List Int)(cs':List Am)(gs':List Bt)(os':List Int):Prop :=
 ∃F to g1,Of (BH cs) F to∧Mn (gs.map (G7 to)) g1∧cs'=(DR F (Dq F g1 (os.map (HP to))) F.length).1∧gs'=g1.map (G7 (DR F (Dq F g1 (os.map (HP to))) F.length).2)∧os'=(os.map (HP to)).map (HP (DR F (Dq F g1 (os.map (HP to))) F.length).2)
def eI (cs:List Am)(gs:List Bt):Prop:=∀g∈gs,0≤g.reg∧g.reg<((cs.length:Nat):Int)
def eJ (cs:List Am)(os:List Int):Prop:=∀r∈os,0≤r∧r<((cs.length:Nat):Int)
structure S7 (ni:Nat)(cs:List Am)(gs:List Bt)(os:List Int)(cs':List Am)(gs':List Bt)(os':List Int) (τ:Nat→Int):Prop where
 cl:cs'.length≤cs.length
 gl:gs'.length≤gs.length
 form:∀k,k<cs'.length→C3 ni k (cs'.getD k Am.zero)
 oe:os'=os.map fun r=>τ r.toNat
 ge:∀g,g∈gs'↔∃h∈gs,g=⟨τ h.reg.toNat,h.z⟩
 ob:eJ cs' os'
 gb:eI cs' gs'
 run:∀m A,CG m A→1≤m→A.length=ni→(∀r∈os,(AZ m A cs').getD (τ r.toNat).toNat []=(AZ m A cs).getD r.toNat [])∧∀g∈gs,(AZ m A cs').getD (τ g.reg.toNat).toNat []=(AZ m A cs).getD g.reg.toNat []
 z:∀m A,CG m A→1≤m→A.length=ni→EY m A cs cs.length→EY m A cs' cs'.length
 fd:Z7 cs'
 sh:bF cs'
 gn:gs'.Nodup
 al:∀k,k<cs'.length→(Dq cs' gs' os').getD k false=true
theorem S8 {α β:Type}{f:α→β}{l:List α}(h:l.Nodup)(hi:∀x∈l,∀y∈l,f x=f y→x=y):(l.map f).Nodup:=by
 induction l with
 |nil=>exact zk
 |cons x l ih =>
  rw[zf,List.nodup_cons]
  rw[List.nodup_cons]at h
  refine⟨fun hm=>?_,ih h.2 fun y hy z hz=>hi y (by simp[hy]) z (by simp[hz])⟩
  obtain⟨y,hy,e⟩:=List.mem_map.1 hm
  have:=hi y (by simp[hy]) x (by simp) e
  exact h.1 (by rw[← this];exact hy)
theorem NO.kn (h:NO cs gs os cs' gs' os')(hf:∀k,k<cs.length→C3 ni k (cs.getD k Am.zero))(hg:eI cs gs)(ho:eJ cs os):∃τ,S7 ni cs gs os cs' gs' os' τ:=by
 obtain⟨F,to,g1,h1,h2,e1,e2,e3⟩:=h
 have hf1:=NK hf
 have hl1:(BH cs).length=cs.length:=EO
 have K:=h1.kn hf1
 have hm:∀r∈os.map (HP to)++g1.map (·.reg),0≤r∧r<((F.length:Nat):Int):=by
  intro r hr
  rcases zi.1 hr with hr|hr
  ·obtain⟨q,hq,rfl⟩:=List.mem_map.1 hr
   have:=ho q hq
   exact K.rng q.toNat zO
  ·obtain⟨q,hq,rfl⟩:=List.mem_map.1 hr
   obtain⟨g,hg1,rfl⟩:=List.mem_map.1 ((h2.mem q).1 hq)
   have:=hg g hg1
   exact K.rng g.reg.toNat zO
 have L:=HO (mk:=Dq F g1<|os.map<|HP to) K.form F.length<|A9 _
 rw[← e1]at L
 generalize hto2:(DR F (Dq F g1 (os.map (HP to))) F.length).2=to2 at e2 e3 L
 have hc:Ze F (Dq F g1 (os.map (HP to))):=NN K.form
 have hin:=K9 K.form hm
 have hio:∀r∈os,0≤to.getD r.toNat 0∧(to.getD r.toNat 0).toNat<F.length∧(Dq F g1 (os.map (HP to))).getD (to.getD r.toNat 0).toNat false=true:=fun r hr=>by
  have:=ho r hr
  have h3:=K.rng r.toNat zO
  exact⟨h3.1,zO,hin _ (z8 _ (List.mem_map.2 ⟨r,hr,rfl⟩))⟩
 have hig1:∀g∈g1,0≤g.reg∧g.reg.toNat<F.length∧(Dq F g1 (os.map (HP to))).getD g.reg.toNat false=true:=fun g hg'=>by
  have h3:=hm g.reg<|z1 _<|List.mem_map.2 ⟨g,hg',rfl⟩
  exact⟨h3.1,zO,hin _ (z1 _ (List.mem_map.2 ⟨g,hg',rfl⟩))⟩
 have hig:∀g∈gs,(to.getD g.reg.toNat 0).toNat<F.length∧(Dq F g1 (os.map (HP to))).getD (to.getD g.reg.toNat 0).toNat false=true:=fun g hg'=>by
  have:=hig1 (G7 to g) ((h2.mem _).2 (List.mem_map.2 ⟨g,hg',rfl⟩))
  exact this.2
 have hform:=L.form hc K.form
 refine⟨fun k=>to2.getD (to.getD k 0).toNat 0,by have:=L.le;have:=K.le;omega,?_,hform,?_,?_,?_,?_,?_,?_,?_,?_,?_,?_⟩
 ·rw[e2,zg];have:=h2.le;rwa [zg]at this
 ·rw[e3,List.map_map];rfl
 ·intro g
  rw[e2,List.mem_map]
  constructor
  ·rintro⟨q,hq,rfl⟩
   obtain⟨p,hp,rfl⟩:=List.mem_map.1 ((h2.mem q).1 hq)
   exact⟨p,hp,rfl⟩
  ·rintro⟨p,hp,rfl⟩
   exact⟨G7 to p,(h2.mem _).2 (List.mem_map.2 ⟨p,hp,rfl⟩),rfl⟩
 ·intro r hr
  rw[e3,List.map_map]at hr
  obtain⟨q,hq,rfl⟩:=List.mem_map.1 hr
  have:=hio q hq
  exact L.rng _ this.2.1 this.2.2
 ·intro g hg'
  rw[e2]at hg'
  obtain⟨q,hq,rfl⟩:=List.mem_map.1 hg'
  have:=hig1 q hq
  exact L.rng _ this.2.1 this.2.2
 ·intro m A hA hm1 hl
  have hfr:=fun k hk=>Re (A:=A) hm1 hf k hk
  constructor
  ·intro r hr
   have h3:=hio r hr
   have h4:=ho r hr
   rw[L.run hc K.form _ h3.2.1 h3.2.2,K.run hA hl hf1 _ zO,hfr _ (by omega)]
  ·intro g hg'
   have h3:=hig g hg'
   have h4:=hg g hg'
   rw[L.run hc K.form _ h3.1 h3.2,K.run hA hl hf1 _ zO,hfr _ (by omega)]
 ·intro m A hA hm1 hl hz
  exact L.z hc K.form<|K.z hA hl hf1<|bE hm1 hf hz
 ·exact L.fd hc K.form<|K.fd hf1<|Z8 hf
 ·exact L.sh hc K.form K.no
 ·rw[e2]
  refine S8 h2.nd fun x hx y hy e=>?_
  have hx':=hig1 x hx
  have hy':=hig1 y hy
  have ez:x.z=y.z:=show(G7 to2 x).z=(G7 to2 y).z from congrArg Bt.z e
  have er:=L.inj hx'.2.1 hy'.2.1 hx'.2.2 hy'.2.2<|congrArg Bt.reg e
  have er':x.reg=y.reg:=by omega
  cases x;cases y
  simp only at er' ez
  rw[er',ez]
 ·intro k hk
  have:=L.all K.form hm k hk
  unfold Dq
  rw[e2,e3]
  rw[List.map_append]at this
  have q1:((os.map (HP to)).map fun r=>to2.getD r.toNat 0)=(os.map (HP to)).map (HP to2):=rfl
  have q2:((g1.map (·.reg)).map fun r=>to2.getD r.toNat 0)=(g1.map (G7 to2)).map (·.reg):=by rw[List.map_map,List.map_map];rfl
  rwa [q1,q2]at this
theorem NO.idem {cs'':List Am}{gs'':List Bt}{os'':List Int} {τ:Nat→Int}(K:S7 ni cs gs os cs' gs' os' τ)(h:NO cs' gs' os' cs'' gs'' os''):cs''=cs'∧gs''=gs'∧os''=os':=by
 obtain⟨F,to,g1,h1,h2,e1,e2,e3⟩:=h
 rw[Z9 K.form K.fd]at h1
 obtain⟨eF,eto⟩:=h1.id K.form K.sh
 subst eF;subst eto
 have iG:∀to:List Int,(∀k,k<F.length→to.getD k 0=((k:Nat):Int))→∀gs:List Bt,eI F gs→gs.map (G7 to)=gs:=fun to ht gs hb=>by
  refine Eq.trans (List.map_congr_left fun g hg=>?_)<|List.map_id gs
  have:=hb g hg
  show(⟨to.getD g.reg.toNat 0,g.z⟩:Bt)=g
  rw[ht _ (by omega)]
  cases g
  simp only at this ⊢
  congr 1
  omega
 have iO:∀to:List Int,(∀k,k<F.length→to.getD k 0=((k:Nat):Int))→∀os:List Int,eJ F os→os.map (HP to)=os:=fun to ht os hb=>by
  refine Eq.trans (List.map_congr_left fun r hr=>?_)<|List.map_id os
  have:=hb r hr
  show to.getD r.toNat 0=r
  rw[ht _ (by omega)]
  omega
 have hid:∀k,k<F.length→(Og F.length).getD k 0=((k:Nat):Int):=fun k hk=>K7 hk
 rw[iG _ hid _ K.gb]at h2
 have eg:=h2.id K.gn
 subst eg
 rw[iO _ hid _ K.ob]at e1 e2 e3
 obtain⟨t1,t2⟩:=TT (mk:=Dq F g1 os') K.form K.al F.length (A9 _)
 rw[za (A9 _)]at t1
 exact⟨by rw[e1,t1],by rw[e2,iG _ t2 _ K.gb],by rw[e3,iO _ t2 _ K.ob]⟩
end
end
section
section
variable {H:Array Obj} {w w':World} {g st:Nat} {xs:List Int} {F:List Nat}
theorem bG {a:Int}(h:Bd a):(Lit.int .i64 a).wf=true:=by
 unfold Bd at h
 simp only[Lit.wf,z7,decide_eq_true_eq]
 exact⟨by show(-2 ^ 63:Int)≤a;omega,by show a≤(2 ^ 63-1:Int);omega⟩
variable {P:Program} {t k e:TypeId} {z val:Value} {a:Int}
theorem VG {es:Array MapEntry}{clock:Nat}(hb:w.heap[g]? = some (.map es clock))(o:Obj):AB [g] w (ChangeMaps.setBlock w g o) :=
 ⟨rfl,rfl,rfl,by simp[ChangeMaps.setBlock],fun k _ hk=>ChangeMaps.heap_setBlock_other hb o (by simpa using hk)⟩
end
end
section
section
variable {cs:List Am} {ad l a u ws xs os:List Int} {L B:List Sr} {k n ni m i:Nat} {T:Tp} {r x:Int}
theorem HQ (k:Nat)(hk:k<B.length):(CH B).getD k 0=(B.getD k []).getD 0 0:=by unfold CH;rw[CC (d:=[]) hk]
theorem VH {d:List Int}{cs:List Am}{o:List Int}(h:DC d cs=0):(UF d cs o).length=o.length:=by rw[P3 h];simp[aZ]
theorem Vs.rgX0 {p:List Fn}{f:Nat}(h:Vs p f a xs T):DC a T.code=0:=if_pos (h.tp (m:=1) (A9 1) (Dh h.n) (Lw a)).1.nz
end
end
section
section
variable {m m' ni k:Nat} {A A':List Sr} {cs cs':List Am} {gs gs':List Bt} {a d xs os os' ws:List Int} {T:Tp} {τ:Nat→Int}
theorem Ri (hm:1≤m)(hm':1≤m')(hA:CG m A)(hA':CG m' A')(hl:A.length=A'.length)(hh:∀k,(A.getD k []).getD 0 0=(A'.getD k []).getD 0 0)(hf:∀k,k<cs.length→C3 A.length k (cs.getD k Am.zero)):∀k,k<cs.length→((AZ m A cs).getD k []).getD 0 0=((AZ m' A' cs).getD k []).getD 0 0:=by
 intro k
 induction k using Nat.strongRecOn with
 |_ k ih =>
  intro hk
  rw[DQ hk,DQ hk]
  have hc:=hf k hk
  have s1:=GK hA hf k zO
  have s2:=GK (m:=m') (A:=A') hA' (fun k hk=>by rw[← hl];exact hf k hk) k zO
  have l1:(AZ m A (cs.take k)).length=k:=by rw[Bp,List.length_take];omega
  have l2:(AZ m' A' (cs.take k)).length=k:=by rw[Bp,List.length_take];omega
  have hj:∀j,j<k→((AZ m A (cs.take k)).getD j []).getD 0 0=((AZ m' A' (cs.take k)).getD j []).getD 0 0:=fun j hj=>by
   rw[Ce zO hj,Ce zO hj];exact ih j hj zO
  have b2:=fun h=>hc.i2 h
  have b7:=fun h=>hc.i7 h
  generalize cs.getD k Am.zero=c at hc b2 b7
  generalize AZ m A (cs.take k)=R at s1 l1 hj
  generalize AZ m' A' (cs.take k)=R' at s2 l2 hj
  by_cases q1:c.op=1
  ·rw[En q1,En q1];exact hh _
  by_cases q3:c.op=3
  ·have:=b2 zO
   rw[EZ q3,EZ q3,Hc (s1 _ zO) zO,Hc (s2 _ zO) zO,hj _ zO,hj _ (by omega)]
  by_cases q4:c.op=4
  ·have:=b2 zO
   rw[GH q4,GH q4,NB (s1 _ zO) zO,NB (s2 _ zO) zO,hj _ zO,hj _ (by omega)]
  by_cases q5:c.op=5
  ·have:=b2 zO
   rw[Fb q5,Fb q5,Lr (by rw[(s1 _ zO).1];omega),Lr (by rw[(s2 _ zO).1];omega),hj _ zO,hj _ (by omega)]
  by_cases q6:c.op=6
  ·have:=b2 zO
   rw[GI q6,GI q6,OQ (by rw[(s1 _ zO).1];omega),OQ (by rw[(s2 _ zO).1];omega),hj _ zO,hj _ (by omega)]
  by_cases q7:c.op=7
  ·have:=b7 q7
   rw[Di q7,Di q7,JA (s1 _ zO) zO,JA (s2 _ zO) zO,hj _ (by omega)]
  ·rw[CY zO,CY zO,bC _ hm,bC _ hm']
theorem VI (hm:1≤m)(hm':1≤m')(hA:CG m A)(hA':CG m' A')(hl:A.length=A'.length)(hh:∀k,(A.getD k []).getD 0 0=(A'.getD k []).getD 0 0)(hf:∀k,k<cs.length→C3 A.length k (cs.getD k Am.zero))(hz:EY m A cs cs.length):EY m' A' cs cs.length:=fun j hj h6=>by
 have hb:=(hf j hj).i2 zO
 have:=hz j hj h6
 rw[Ce zO (by omega)]at this
 rw[Ce zO zO,← Ri hm hm' hA hA' hl hh hf _ (by omega)]
 exact this
theorem XD (d e:List Int)(k:Nat):((Cu d).getD k []).getD 0 0=((Eh d e 2).getD k []).getD 0 0:=by
 by_cases hk:k<d.length
 ·rw[Xk hk]
  unfold Cu
  rw[CC (d:=0) hk];rfl
 ·have h1:(Cu d).getD k []=[]:=by rw[List.getD_eq_getElem?_getD,List.getElem?_eq_none (by rw[DE];omega)];rfl
  have h2:(Eh d e 2).getD k []=[]:=by rw[List.getD_eq_getElem?_getD,List.getElem?_eq_none (by rw[CE];omega)];rfl
  rw[h1,h2]
def ZN (d:List Int)(T:Tp):Tp:=⟨T.code,[],CH (AZ 1 (Cu d) T.code)⟩
theorem NP (hd:Bj d=true)(hf:∀k,k<cs.length→C3 d.length k (cs.getD k Am.zero)){e:List Int}(he:Bj e=true)(hk:k<cs.length):((AZ 2 (Eh d e 2) cs).getD k []).getD 0 0=(CH (AZ 1 (Cu d) cs)).getD k 0:=by
 rw[HQ k (by rw[Bp];exact hk)]
 exact (Ri (A9 1) (by decide) (Dh hd) (Fy hd he) (by rw[DE,CE]) (XD d e) (fun k hk=>by rw[DE];exact hf k hk) k hk).symm
theorem XE {gs:List Bt}(hd:Bj d=true)(hf:∀k,k<cs.length→C3 d.length k (cs.getD k Am.zero))(hz:EY 1 (Cu d) cs cs.length)
  (hg:∀e,Bj e=true→∀g∈gs,(0≤g.reg∧g.reg<((cs.length:Nat):Int))∧g.z=decide (((AZ 2 (Eh d e 2) cs).getD g.reg.toNat []).getD 0 0=0)):∀e,Bj e=true→D5 2 (Eh d e 2) ⟨cs,gs,CH (AZ 1 (Cu d) cs)⟩:=fun e he=>by
 have hs:=MZ (m:=2) (A:=Eh d e 2) (Fy hd he) (cs:=cs) fun k hk=>by rw[CE];exact hf k hk
 have hl:(CH (AZ 1 (Cu d) cs)).length=cs.length:=by rw[CN,Bp]
 have hz2:=VI (A9 1) (by decide) (Dh hd) (Fy hd he) (by rw[DE,CE]) (XD d e) (fun k hk=>by rw[DE];exact hf k hk) hz
 refine⟨hl.symm,fun k (hk:k<cs.length)=>⟨hs k (by rw[Bp];exact hk),NP hd hf he hk⟩,fun k (hk:k<cs.length)=>by rw[CE];exact hf k hk,fun k (hk:k<cs.length) h6=>?_,fun k (hk:k<gs.length)=>?_⟩
 ·have h6:(cs.getD k Am.zero).op=6:=h6
  have hb:=(hf k hk).i2 zO
  have:=hz2 k hk h6
  rw[Ce zO zO,NP hd hf he (by omega)]at this
  exact this
 ·have h:=hg e he (gs.getD k Bt.zero) (by rw[show gs.getD k Bt.zero=gs[k]from by simp[hk]];exact List.getElem_mem hk)
  refine⟨by show _∧_<(((CH (AZ 1 (Cu d) cs)).length:Nat):Int);rw[hl];exact h.1,?_⟩
  show(gs.getD k Bt.zero).z=decide ((CH (AZ 1 (Cu d) cs)).getD (gs.getD k Bt.zero).reg.toNat 0=0)
  rw[← NP hd hf he (by omega)]
  exact h.2
theorem Iz.at (h:Iz a T xs)(hd:Bj d=true)(hl:d.length=a.length)(hx:DC d T.code=0):Iz d (ZN d T) xs:=by
 have hz:EY 1 (Cu d) T.code T.code.length:=by
  unfold DC at hx
  split at hx
  ·assumption
  ·cases hx
 have hK:=h.k
 refine⟨⟨by rw[hl];exact hK.nb,hK.cl,Nat.zero_le _,by rw[hl];exact hK.form,fun k hk=>absurd hk (Nat.not_lt_zero k),hK.ol,hK.out⟩,hd,fun k hk=>?_,XE hd (by rw[hl];exact hK.form) hz fun e he g hg=>by cases hg⟩
 show 0≤_∧_<(((CH (AZ 1 (Cu d) T.code)).length:Nat):Int)
 rw[CN,Bp]
 exact hK.out k hk
def Hw (a:List Int)(cs:List Am)(gs:List Bt):Tp:=⟨cs,gs,CH (AZ 1 (Cu a) cs)⟩
theorem fW (h:Iz a T xs):eJ T.code xs:=fun r hr=>by
 obtain⟨k,hk,rfl⟩:=NL 0 hr
 exact h.k.out k hk
theorem eK (h:Iz a T xs):eI T.code T.grd:=fun g hg=>by
 obtain⟨k,hk,rfl⟩:=NL Bt.zero hg
 exact h.k.gd k hk
theorem Iz.opt (h:Iz a T xs)(hx:DC a T.code=0)(K:S7 a.length T.code T.grd xs cs' gs' os' τ):Iz a (Hw a cs' gs') os':=by
 have hz:EY 1 (Cu a) T.code T.code.length:=by
  unfold DC at hx
  split at hx
  ·assumption
  ·cases hx
 have hK:=h.k
 have hlo:os'.length=xs.length:=by rw[K.oe,zg]
 refine⟨⟨hK.nb,Aa K.cl hK.cl,Aa K.gl hK.gl,K.form,fun k (hk:k<gs'.length)=>K.gb _ (Mm _ hk),by rw[hlo];exact hK.ol,fun k hk=>K.ob _ (Mm _ hk)⟩,h.n,fun k hk=>?_,XE h.n K.form (K.z 1 (Cu a) (Dh h.n) (A9 1) (DE a) hz) fun e he g hg=>⟨K.gb g hg,?_⟩⟩
 ·show 0≤_∧_<(((CH (AZ 1 (Cu a) cs')).length:Nat):Int)
  rw[CN,Bp]
  exact K.ob _<|Mm _ hk
 ·obtain⟨g0,hg0,rfl⟩:=(K.ge g).1 hg
  have hr:=(K.run 2 (Eh a e 2) (Fy h.n he) (by decide) (by rw[CE])).2 g0 hg0
  show g0.z=decide ((List.getD (List.getD (AZ 2 (Eh a e 2) cs') (τ g0.reg.toNat).toNat []) 0 0)=0)
  rw[hr]
  obtain⟨j,hj,rfl⟩:=NL Bt.zero hg0
  have hT:=h.i e he
  have h2:=(hT.gd j hj).2
  have h3:=h.k.gd j hj
  rw[(hT.ser _ zO).2]
  exact h2
theorem KY (hd:Bj d=true)(hl:d.length=a.length)(h:Iz a T xs)(K:S7 a.length T.code T.grd xs cs' gs' os' τ)(h0:DC d T.code=0):DC d cs'=0∧UF d cs' os'=UF d T.code xs:=by
 have hz:EY 1 (Cu d) T.code T.code.length:=by
  unfold DC at h0
  split at h0
  ·assumption
  ·cases h0
 have hz':=K.z 1 (Cu d) (Dh hd) (A9 1) (by rw[DE,hl]) hz
 have h1:DC d cs'=0:=if_pos hz'
 refine⟨h1,?_⟩
 rw[P3 h0,P3 h1,Lz h0,Lz h1,K.oe]
 unfold aZ
 rw[List.map_map]
 refine List.map_congr_left fun r hr=>?_
 have hb:=fW h r hr
 have hb':=K.ob (τ r.toNat) (by rw[K.oe];exact List.mem_map.2 ⟨r,hr,rfl⟩)
 have hrun:=(K.run 1 (Cu d) (Dh hd) (A9 1) (by rw[DE,hl])).1 r hr
 show(CH (AZ 1 (Cu d) cs')).getD (τ r.toNat).toNat 0=_
 rw[HQ _ (by rw[Bp];omega),HQ _ (by rw[Bp];omega),hrun]
theorem Zf (d:List Int)(cs:List Am):DC d cs=0∨DC d cs=6:=by unfold DC;split <;> simp
def Rj (R:List Int)(gs:List Bt):Bool:=!(gs.any fun g=>decide (R.getD g.reg.toNat 0=0) != g.z)
theorem Zg (hd:Bj d=true)(hl:d.length=a.length)(h:Iz a T xs)(K:S7 a.length T.code T.grd xs cs' gs' os' τ)(h0:DC d T.code=0):Rj (Ly d cs') gs'=Rj (Ly d T.code) T.grd:=by
 have h1:=(KY hd hl h K h0).1
 rw[Lz h0,Lz h1]
 have key:∀g∈T.grd,(CH (AZ 1 (Cu d) cs')).getD (τ g.reg.toNat).toNat 0=(CH (AZ 1 (Cu d) T.code)).getD g.reg.toNat 0:=fun g hg=>by
  have hb:=eK h g hg
  have hb':=K.gb ⟨τ g.reg.toNat,g.z⟩ ((K.ge _).2 ⟨g,hg,rfl⟩)
  have hb':0≤τ g.reg.toNat∧τ g.reg.toNat<((cs'.length:Nat):Int):=hb'
  rw[HQ _ (by rw[Bp];omega),HQ _ (by rw[Bp];omega),(K.run 1 (Cu d) (Dh hd) (A9 1) (by rw[DE,hl])).2 g hg]
 unfold Rj
 congr 1
 rw[Bool.eq_iff_iff,List.any_eq_true,List.any_eq_true]
 constructor
 ·rintro⟨g,hg,h2⟩
  obtain⟨g0,hg0,rfl⟩:=(K.ge g).1 hg
  refine⟨g0,hg0,?_⟩
  rw[← key g0 hg0];exact h2
 ·rintro⟨g0,hg0,h2⟩
  refine⟨_,(K.ge _).2 ⟨g0,hg0,rfl⟩,?_⟩
  show(decide ((CH (AZ 1 (Cu d) cs')).getD (τ g0.reg.toNat).toNat 0=0) != g0.z)=true
  rw[key g0 hg0];exact h2
theorem Zh (hd:Bj d=true)(hl:d.length=a.length)(h:Iz a T xs)(K:S7 a.length T.code T.grd xs cs' gs' os' τ)(h0:DC d T.code=0)(h':Iz a (Hw a cs' gs') os'):CH (Lx 2 T xs ws (Eh d d 2))=CH (Lx 2 (Hw a cs' gs') os' ws (Eh d d 2)):=by
 have h1:=(KY hd hl h K h0).1
 have t:=h.at hd hl h0
 have t':=h'.at hd hl h1
 refine bB (T:=ZN d T) (T':=ZN d<|Hw a cs' gs') hd (fun e he=>⟨t.i e he,t'.i e he⟩) (t.i d hd) (t'.i d hd) t.e t'.e (by rw[K.oe,zg]) (by decide) (KX _ _) fun e he i hi=>?_
 have hr:=(K.run 2 (Eh d e 2) (Fy hd he) (by decide) (by rw[CE,hl])).1 (xs.getD i 0) (Mm _ hi)
 show List.getD (AZ 2 (Eh d e 2) T.code) _ []=List.getD (AZ 2 (Eh d e 2) cs') _ []
 rw[K.oe,CC (d:=0) hi]
 exact hr.symm
end
end
section
section
variable {ni:Nat} {T:Tp} {o to:List Int} {F:List Am} {g1:List Bt}
theorem ND.fd (h:ND ni T o):ND ni ⟨BH T.code,T.grd,[]⟩ o:=by
 have hl:(BH T.code).length=T.code.length:=EO
 refine⟨h.nb,by show(BH T.code).length≤_;rw[hl];exact h.cl,h.gl,NK h.form,fun k hk=>?_,h.ol,fun k hk=>?_⟩
 ·show _∧_<(((BH T.code).length:Nat):Int)
  rw[hl];exact h.gd k hk
 ·show _∧_<(((BH T.code).length:Nat):Int)
  rw[hl];exact h.out k hk
theorem ND.sh (h:ND ni T o)(hs:Of T.code F to)(hd:Mn (T.grd.map (G7 to)) g1):ND ni ⟨F,g1,[]⟩ (o.map (HP to)):=by
 have K:=hs.kn h.form
 have hgl:=hd.le
 rw[zg]at hgl
 have h1:=h.cl
 have h2:=h.gl
 have h3:=h.ol
 have h4:=K.le
 refine⟨h.nb,by show F.length≤_;omega,by show g1.length≤_;omega,K.form,fun k (hk:k<g1.length)=>?_,by rw[zg];exact h3,fun k hk=>?_⟩
 ·have hm:=(hd.mem _).1 (Mm Bt.zero hk)
  obtain⟨g,hg,e⟩:=List.mem_map.1 hm
  obtain⟨j,hj,e2⟩:=NL Bt.zero hg
  have:=h.gd j hj
  show 0≤(g1.getD k Bt.zero).reg∧(g1.getD k Bt.zero).reg<((F.length:Nat):Int)
  rw[← e,← e2]
  exact K.rng _ zO
 ·rw[zg]at hk
  rw[CC (d:=0) hk]
  have:=h.out k hk
  exact K.rng _ zO
theorem VJ {cs:List Am}{gs:List Bt}{os:List Int}(hs:Of (BH cs) F to)(hd:Mn (gs.map (G7 to)) g1):NO cs gs os (DR F (Dq F g1 (os.map (HP to))) F.length).1 (g1.map (G7 (DR F (Dq F g1 (os.map (HP to))) F.length).2)) ((os.map (HP to)).map (HP (DR F (Dq F g1 (os.map (HP to))) F.length).2)):=⟨F,to,g1,hs,hd,rfl,rfl,rfl⟩
end
end
end Go.Proofs.YtemfgblmfahllaaGreat
