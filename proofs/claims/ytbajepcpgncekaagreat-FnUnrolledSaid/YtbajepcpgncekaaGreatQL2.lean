/- Nc, Nd, Ne, Gd, Ge, Gu, Gv, Gw, Gx, Nf, Ng, Nh, Ni, Nj, Nk, Nl, Gf, Gg, Gj, Gk, Gh, Gl, Gm, Gr, Gq, Gp, Gs, Gy, Gz, Ha, Hb, Hd, Hf, Hg, Hh, Hi, Hj, Hl, Hm, Hn, Hr, Hv, Hx, Hz: texts of this claim, joined; what the claim does not come to is left out. -/
import Derived.Test.YtbajepcpgncekaaGreatQL1
import Derived.Test.YtbajepcpgncekaaGreatProg
set_option linter.unusedVariables false
set_option linter.unusedSimpArgs false
namespace Go.Proofs.YtbajepcpgncekaaGreat
open Go Go.RowKit
section
structure Hz (p:List Fn):Prop where
 par:∀k,k<p.length→0≤(p.getD k Fn.zero).params∧(p.getD k Fn.zero).params≤12
 outs:∀k,k<p.length→1≤(p.getD k Fn.zero).outs.length∧(p.getD k Fn.zero).outs.length≤12
 deep:∀k,k<p.length→∀j,j<(p.getD k Fn.zero).outs.length→((p.getD k Fn.zero).outs.getD j Ex.zero).deep≤60
 wf:∀k,k<p.length→∀j,j<(p.getD k Fn.zero).outs.length→wf p ((k:Nat):Int) ((p.getD k Fn.zero).outs.getD j Ex.zero) (p.getD k Fn.zero).params=true
theorem BH {x a b:Int}:Ey x a b=true↔a≤x∧x≤b:=by unfold Ey;simp
theorem D9 {p:List Fn}{F vars:Int}{e:Ex}(h:Hf p F vars e=true) :
  (e.kind=1∨e.kind=2∨e.kind=3∨e.kind=4∨e.kind=5∨e.kind=6∨e.kind=7∨e.kind=8∨e.kind=9∨e.kind=10∨e.kind=11) ∧
  (e.kind=2→0≤e.num∧e.num≤vars-1)∧(e.kind=3∨e.kind=4∨e.kind=5∨e.kind=6∨e.kind=9→e.kids.length=2)∧(e.kind=7→e.kids.length=1)∧(e.kind=8→e.kids.length=3) ∧
  (e.kind=10∨e.kind=11→0≤e.num∧e.num≤F-1∧(e.kids.length:Int)=(p.getD e.num.toNat Fn.zero).params∧0≤e.pick∧e.pick≤((p.getD e.num.toNat Fn.zero).outs.length:Int)-1) ∧
  (e.kind=11→((p.getD e.num.toNat Fn.zero).outs.length:Int)=(p.getD e.num.toNat Fn.zero).params∧0≤e.count∧e.count≤8)∧(e.kind=1→0≤e.num∧e.num<1000003):=by
 unfold Hf at h
 split at h
 ·simp only[z7,decide_eq_true_eq,CD]at h;omega
 ·split at h
  ·simp only[z7,decide_eq_true_eq,BH]at h;omega
  ·split at h
   ·simp only[z7,decide_eq_true_eq]at h;omega
   ·split at h
    ·simp only[z7,decide_eq_true_eq]at h;omega
    ·split at h
     ·simp only[z7,decide_eq_true_eq]at h;omega
     ·split at h
      ·simp only[z7,decide_eq_true_eq,BH]at h
       obtain⟨h1,h2,h3,h4⟩:=h
       split at h4
       ·simp only[decide_eq_true_eq]at h4;omega
       ·simp only[z7,decide_eq_true_eq,BH]at h4;omega
      ·cases h
theorem CU {p:List Fn}{F vars:Int}{e:Ex}(h:wf p F e vars=true):Hf p F vars e=true:=by
 rw[N5,z7]at h;exact h.1
theorem Xl {p:List Fn}{F vars:Int}{e:Ex}(h:wf p F e vars=true){j:Nat}(hj:j<e.kids.length):wf p F (e.kids.getD j Ex.zero) (if e.kind=9∧j=1 then vars+1 else vars)=true:=by
 rw[N5,z7]at h
 have:=(La p F _ vars e.kids 0).1 h.2 j hj
 rw[Nat.zero_add]at this
 simpa only[decide_eq_true_eq]using this
theorem E6 {p:List Fn}{F vars:Int}{e:Ex}(h:wf p F e vars=true){j:Nat}(hj:j<e.kids.length)(hn:¬(e.kind=9∧j=1)):wf p F (e.kids.getD j Ex.zero) vars=true:=by
 have:=Xl h hj
 rwa [if_neg hn]at this
theorem Kg {p:List Fn}{F vars:Int}{e:Ex}(h:wf p F e vars=true)(hj:1<e.kids.length)(hk:e.kind=9):wf p F (e.kids.getD 1 Ex.zero) (vars+1)=true:=by
 have:=Xl h hj
 rwa [if_pos ⟨hk,rfl⟩]at this
section
variable {p:List Fn} {F:Nat} {vars:Int} {e:Ex}
theorem PE (h:wf p ((F:Nat):Int) e vars=true)(hk:e.kind=1):0≤e.num∧e.num<1000003:=(D9 (CU h)).2.2.2.2.2.2.2 hk
theorem PF (h:wf p ((F:Nat):Int) e vars=true)(hk:e.kind=2):0≤e.num∧e.num≤vars-1:=(D9 (CU h)).2.1 hk
theorem T3 (h:wf p ((F:Nat):Int) e vars=true)(hk:e.kind=8):e.kids.length=3:=(D9 (CU h)).2.2.2.2.1 hk
theorem PG (h:wf p ((F:Nat):Int) e vars=true)(hk:e.kind=9):e.kids.length=2:=(D9 (CU h)).2.2.1 zO
theorem PH (h:wf p ((F:Nat):Int) e vars=true)(hk:e.kind=7):e.kids.length=1:=(D9 (CU h)).2.2.2.1 hk
theorem Kh (h:wf p ((F:Nat):Int) e vars=true)(hk:e.kind=3∨e.kind=4∨e.kind=5∨e.kind=6):e.kids.length=2:=(D9 (CU h)).2.2.1 zO
theorem Iq (h:wf p ((F:Nat):Int) e vars=true)(hk:e.kind=10∨e.kind=11):(0≤e.num∧e.num≤((F:Nat):Int)-1)∧(e.kids.length:Int)=(p.getD e.num.toNat Fn.zero).params∧(0≤e.pick∧e.pick≤((p.getD e.num.toNat Fn.zero).outs.length:Int)-1):=by
 have:=(D9 (CU h)).2.2.2.2.2.1 hk
 exact⟨⟨this.1,this.2.1⟩,this.2.2.1,this.2.2.2⟩
theorem NI (h:wf p ((F:Nat):Int) e vars=true)(hk:e.kind=11):((p.getD e.num.toNat Fn.zero).outs.length:Int)=(p.getD e.num.toNat Fn.zero).params∧(0≤e.count∧e.count≤8):=(D9 (CU h)).2.2.2.2.2.2.1 hk
theorem YN (h:wf p ((F:Nat):Int) e vars=true)(hk:(e.kind≠1∧e.kind≠2∧e.kind≠8∧e.kind≠9)∧(e.kind≠10∧e.kind≠11∧e.kind≠3∧e.kind≠4∧e.kind≠5∧e.kind≠7)):e.kind=6:=by
 have:=(D9 (CU h)).1
 omega
theorem YO (h:wf p ((F:Nat):Int) e vars=true)(hk:(e.kind≠1∧e.kind≠2∧e.kind≠7∧e.kind≠8)∧(e.kind≠9∧e.kind≠10∧e.kind≠11)):e.kind=3∨e.kind=4∨e.kind=5∨e.kind=6:=by
 have:=(D9 (CU h)).1
 omega
theorem T4 (h:wf p ((F:Nat):Int) e vars=true)(hv:Hz p)(hF:F≤p.length):e.kids.length≤12:=by
 have hq:=D9<|CU h
 by_cases h10:e.kind=10∨e.kind=11
 ·have h1:=Iq h h10
  have:=hv.par e.num.toNat zO
  omega
 ·have h1:=hq.1;have h2:=hq.2.2.1;have h3:=hq.2.2.2.1;have h4:=hq.2.2.2.2.1
  by_cases hl:e.kind=1∨e.kind=2
  ·have h5:=CU h
   unfold Hf at h5
   rcases hl with hl|hl
   ·rw[if_pos hl]at h5;simp only[z7,decide_eq_true_eq]at h5;omega
   ·rw[if_neg zO,if_pos hl]at h5;simp only[z7,decide_eq_true_eq]at h5;omega
  ·omega
end
section
variable {n:Nat} {C:Ca} {e:Ex} {env:List Sr} {s s1 s2:Nat} {c c1 c2:Int} {x y:Sr} {xs ys:List Sr}
theorem DR (hc:c≠0){r:Rs Sr}:AN (go c r) x s c:=AN.mk_err (DE hc r) hc
theorem CQ (hc:c=0)(hs:s=3000):AN (go c (Cm n C e env s)) x s1 7:=by
 subst hc;rw[CL,E5,if_pos (by omega)];exact AN.mk_err rfl (by decide)
theorem EO (hc:c=0)(hs:s+1≤3000)(hk:e.kind=1):AN (go c (Cm n C e env s)) (cst n e.num) (s+1) c:=by
 subst hc;rw[CL,E5,if_neg zO,if_pos hk];exact AN.mk_ok rfl
theorem EP (hc:c=0)(hs:s+1≤3000)(hk:e.kind=2):AN (go c (Cm n C e env s)) (env.getD e.num.toNat []) (s+1) c:=by
 subst hc;rw[CL,E5,if_neg zO,if_neg zO,if_pos hk];exact AN.mk_ok rfl
theorem EQ (hc:c=0)(hs:s+1≤3000)(hk:e.kind=8)(hl:e.kids.length=3)(h1:AN (go c (Cm n C (e.kids.getD 0 Ex.zero) env (s+1))) x s1 c1)(hx:x.getD 0 0=0)
  (h2:AN (go c1 (Cm n C (e.kids.getD 1 Ex.zero) env s1)) y s2 c2):AN (go c (Cm n C e env s)) y s2 c2:=by
 subst hc
 rw[CL,E5,if_neg zO,if_neg zO,if_neg zO,if_pos hk,DP _ _ _ _ _ _ (by omega)]
 rw[CL]at h1
 by_cases h0:c1=0
 ·subst h0;rw[h1.bindO,if_pos hx,DP _ _ _ _ _ _ (by omega)];exact h2
 ·rw[h1.bindE h0];rw[DE h0]at h2;exact h2
theorem ER (hc:c=0)(hs:s+1≤3000)(hk:e.kind=8)(hl:e.kids.length=3)(h1:AN (go c (Cm n C (e.kids.getD 0 Ex.zero) env (s+1))) x s1 c1)(hx:¬x.getD 0 0=0)
  (h2:AN (go c1 (Cm n C (e.kids.getD 2 Ex.zero) env s1)) y s2 c2):AN (go c (Cm n C e env s)) y s2 c2:=by
 subst hc
 rw[CL,E5,if_neg zO,if_neg zO,if_neg zO,if_pos hk,DP _ _ _ _ _ _ (by omega)]
 rw[CL]at h1
 by_cases h0:c1=0
 ·subst h0;rw[h1.bindO,if_neg hx,DP _ _ _ _ _ _ (by omega)];exact h2
 ·rw[h1.bindE h0];rw[DE h0]at h2;exact h2
theorem ES (hc:c=0)(hs:s+1≤3000)(hk:e.kind=9)(hl:e.kids.length=2)(h1:AN (go c (Cm n C (e.kids.getD 0 Ex.zero) env (s+1))) x s1 c1)
  (h2:AN (go c1 (Cm n C (e.kids.getD 1 Ex.zero) (env++[x]) s1)) y s2 c2):AN (go c (Cm n C e env s)) y s2 c2:=by
 subst hc
 rw[CL,E5,if_neg zO,if_neg zO,if_neg zO,if_neg zO,if_pos hk,DP _ _ _ _ _ _ (by omega)]
 rw[CL]at h1
 by_cases h0:c1=0
 ·subst h0;rw[h1.bindO,DP _ _ _ _ _ _ (by omega)];exact h2
 ·rw[h1.bindE h0];rw[DE h0]at h2;exact h2
theorem I5 (hs : s + 1 ≤ 3000) (h1 : e.kind ≠ 1) (h2 : e.kind ≠ 2) (h8 : e.kind ≠ 8) (h9 : e.kind ≠ 9) : Cm n C e env s = (CB n C e.kids env (s + 1)).bind fun xs t =>
      if e.kind = 10 then C.one e.num.toNat e.pick.toNat xs t
      else if e.kind = 11 then (GJ (C.all e.num.toNat) e.count.toNat xs t).bind fun ys u=>.ok (ys.getD e.pick.toNat []) u
      else KJ e.kind xs t:=by
  rw [E5,if_neg zO,if_neg h1,if_neg h2,if_neg h8,if_neg h9]
theorem Dk (hc:c=0)(hs:s+1≤3000)(h1:e.kind≠1)(h2:e.kind≠2)(h8:e.kind≠8)(h9:e.kind≠9)(hr:AN (go c (CB n C e.kids env (s+1))) xs s1 c1)(hc1:c1≠0):AN (go c (Cm n C e env s)) x s2 c1:=by
 subst hc
 rw[CL]at hr ⊢
 rw[I5 hs h1 h2 h8 h9,hr.bindE hc1];exact AN.mk_err rfl hc1
theorem Eo {p:List Fn}{F:Nat}(hc:c=0)(hs:s+1≤3000)(hk:e.kind=10)(hF:e.num.toNat<F)(hr:AN (go c (CB n (Df p n F) e.kids env (s+1))) xs s1 c1)(hc1:c1=0)
  (h2:AN (go c1 (Cm n (Df p n e.num.toNat) ((p.getD e.num.toNat Fn.zero).outs.getD e.pick.toNat Ex.zero) xs s1)) y s2 c2):AN (go c (Cm n (Df p n F) e env s)) y s2 c2:=by
 subst hc;subst hc1
 rw[CL]at hr h2 ⊢
 rw[I5 hs zO zO zO zO,hr.bindO,if_pos hk,NH hF];exact h2
theorem Ep {p:List Fn}{F:Nat}(hc:c=0)(hs:s+1≤3000)(hk:e.kind=11)(hF:e.num.toNat<F)(hr:AN (go c (CB n (Df p n F) e.kids env (s+1))) xs s1 c1)(hc1:c1=0)
  (h2:AN (GJ (fun a t=>CB n (Df p n e.num.toNat) (p.getD e.num.toNat Fn.zero).outs a t) e.count.toNat xs s1) ys s2 c2):AN (go c (Cm n (Df p n F) e env s)) (ys.getD e.pick.toNat []) s2 c2:=by
 subst hc;subst hc1
 rw[CL]at hr ⊢
 rw[I5 hs zO zO zO zO,hr.bindO,if_neg zO,if_pos hk]
 have hl:(Df p n F).all e.num.toNat=fun a t=>CB n (Df p n e.num.toNat) (p.getD e.num.toNat Fn.zero).outs a t:=funext fun a=>funext fun t=>Gj hF
 rw[hl]
 by_cases h0:c2=0
 ·subst h0;rw[h2.bindO];exact AN.mk_ok rfl
 ·rw[h2.bindE h0];exact AN.mk_err rfl h0
theorem Bk (hc:c=0)(hs:s+1≤3000)(h1:e.kind≠1)(h2:e.kind≠2)(h8:e.kind≠8)(h9:e.kind≠9)(h10:e.kind≠10)(h11:e.kind≠11)(hr:AN (go c (CB n C e.kids env (s+1))) xs s1 c1)(hc1:c1=0)
  (h:AN (KJ e.kind xs s1) y s2 c2):AN (go c (Cm n C e env s)) y s2 c2:=by
 subst hc;subst hc1
 rw[CL]at hr ⊢
 rw[I5 hs h1 h2 h8 h9,hr.bindO,if_neg h10,if_neg h11];exact h
theorem Gr {k:Int}(hk:k=3):AN (KJ k xs s) (Ee (xs.getD 0 []) (xs.getD 1 [])) s 0:=by subst hk;exact AN.mk_ok rfl
theorem Gs {k:Int}(hk:k=4):AN (KJ k xs s) (FB (xs.getD 0 []) (xs.getD 1 [])) s 0:=by subst hk;exact AN.mk_ok rfl
theorem Gt {k:Int}(hk:k=5):AN (KJ k xs s) (Ct (xs.getD 0 []) (xs.getD 1 [])) s 0:=by subst hk;exact AN.mk_ok rfl
theorem Gu {k:Int}(hk:k=7):AN (KJ k xs s) (CH (xs.getD 0 []) 1000002) s 0:=by subst hk;exact AN.mk_ok rfl
theorem ET {k:Int}(hk:k=6)(hz:(xs.getD 1 []).getD 0 0=0):AN (KJ k xs s) x s1 6:=by
 subst hk
 have:KJ 6 xs s=.err 6:=by
  show(if (xs.getD 1 []).getD 0 0=0 then _ else _)=_
  rw[if_pos hz]
 exact AN.mk_err this (by decide)
theorem Gv {k:Int}(hk:k=6)(hz:¬(xs.getD 1 []).getD 0 0=0):AN (KJ k xs s) (C3 (xs.getD 0 []) (xs.getD 1 [])) s 0:=by
 subst hk
 have:KJ 6 xs s=.ok (C3 (xs.getD 0 []) (xs.getD 1 [])) s:=by
  show(if (xs.getD 1 []).getD 0 0=0 then _ else _)=_
  rw[if_neg hz]
 exact AN.mk_ok this
theorem GQ {l:List Ex}{k:Nat}(hk:k<l.length)(h:AN (go c (CB n C (l.take k) env s)) xs s1 c1)(h2:AN (go c1 (Cm n C (l.getD k Ex.zero) env s1)) x s2 c2) :
  AN (go c (CB n C (l.take (k+1)) env s)) (xs++[x]) s2 c2:=by
 by_cases hc:c=0
 ·subst hc
  rw[CL]at h ⊢
  rw[T0 hk]
  by_cases h0:c1=0
  ·subst h0
   rw[CL]at h2
   rw[h.bindO]
   by_cases h3:c2=0
   ·subst h3;rw[h2.bindO];exact AN.mk_ok rfl
   ·rw[h2.bindE h3];exact AN.mk_err rfl h3
  ·rw[h.bindE h0];rw[DE h0]at h2;exact AN.mk_err (by rw[h2.1]) (by rw[h2.1];exact h2.2)
 ·rw[DE hc]at h ⊢
  have hc1:c1≠0:=by rw[h.1];exact hc
  rw[DE hc1]at h2
  exact AN.mk_err (by rw[h2.1,h.1]) (by rw[h2.1];exact hc1)
theorem Vq {f:List Sr→Nat→Rs (List Sr)}{k:Nat}(h:AN (GJ f k xs s) ys s1 c1)(hc:c1=0){zs:List Sr}(h2:AN (go c1 (f ys s1)) zs s2 c2):AN (GJ f (k+1) xs s) zs s2 c2:=by
 subst hc
 show AN ((GJ f k xs s).bind f) _ _ _
 rw[h.bindO];rw[CL]at h2;exact h2
theorem QM {f:List Sr→Nat→Rs (List Sr)} {d:Int}:∀ {m k:Nat},GJ f k xs s = .err d→k≤m→GJ f m xs s = .err d
  | 0, k, h, hk => by have : k = 0 := by omega
                      subst this; exact h
  | m + 1,k,h,hk=>by
    by_cases e:k = m + 1
    · subst e; exact h
    · show (GJ f m xs s).bind f = _
      rw [QM h (by omega)]; rfl
theorem Eq {f:List Sr→Nat→Rs (List Sr)}{k m:Nat}(h:AN (GJ f k xs s) ys s1 c1)(hk:k≤m)(hs:k=m∨c1≠0):AN (GJ f m xs s) ys s1 c1:=by
 by_cases hc:c1=0
 ·rcases hs with rfl|hh
  ·exact h
  ·exact absurd hc hh
 ·exact AN.mk_err (QM (h.err hc) hk) hc
end
theorem GR (n:Nat)(C:Ca)(l:List Ex)(env:List Sr)(s:Nat)(c:Int):AN (go c (CB n C (l.take 0) env s)) [] s c:=by
 rw[List.take_zero,CB]
 by_cases h:c=0
 ·subst h;exact AN.mk_ok rfl
 ·exact AN.mk_err (DE h _) h
theorem GS {n:Nat}{a b:Sr}(ha:Cu n a):Cu n (Ee a b):=⟨by unfold Ee;rw[EM];exact ha.1,I1 _ _⟩
theorem LB {n:Nat}{a b:Sr}(ha:Cu n a):Cu n (FB a b):=⟨by rw[I0];exact ha.1,I2 _ _⟩
theorem GT {n:Nat}{a b:Sr}(ha:Cu n a):Cu n (Ct a b):=⟨by unfold Ct;rw[EM];exact ha.1,FM _ _⟩
theorem FO {n:Nat}{a b:Sr}(ha:Cu n a):Cu n (C3 a b):=⟨by rw[El];exact ha.1,Fb _ _⟩
theorem LC {n:Nat}{a:Sr}{y:Int}(ha:Cu n a):Cu n (CH a y):=⟨by unfold CH;rw[EM];exact ha.1,Fd _ _⟩
end
section
def KK (p:List Fn)(n f:Nat)(a:List Sr):List Sr:=match ev p n f a with
 |.ok xs _=>xs
 |.err _=>[]
def J8 (p:List Fn)(n f:Nat)(a:List Sr):Nat:=match ev p n f a with
 |.ok _ s=>s
 |.err _=>0
def H7 (p:List Fn)(n f:Nat)(a:List Sr):Int:=match ev p n f a with
 |.ok _ _=>0
 |.err c=>c
section
variable {p:List Fn} {n f s:Nat} {a x:List Sr} {c:Int}
theorem LE (h:AN (go 0 (CB n (Df p n f) (p.getD f Fn.zero).outs a 0)) x s c)(hc:c=0):ev p n f a=.ok x s:=by subst hc;exact h.ok
theorem J9 (h:AN (go 0 (CB n (Df p n f) (p.getD f Fn.zero).outs a 0)) x s c)(hc:c≠0):ev p n f a=.err c:=h.err hc
theorem GU (h:ev p n f a=.ok x s):KK p n f a=x:=by unfold KK;rw[h]
theorem QN (h:ev p n f a=.ok x s):J8 p n f a=s:=by unfold J8;rw[h]
theorem KL (h:ev p n f a=.ok x s):H7 p n f a=0:=by unfold H7;rw[h]
theorem OK (h:ev p n f a=.err c):KK p n f a=[]:=by unfold KK;rw[h]
theorem QO (h:ev p n f a=.err c):J8 p n f a=0:=by unfold J8;rw[h]
theorem FP (h:ev p n f a=.err c):H7 p n f a=c:=by unfold H7;rw[h]
end
structure Va (p:List Fn)(n f:Nat)(a:List Sr):Prop where
 code:0≤H7 p n f a∧H7 p n f a≤9
 steps:J8 p n f a≤3000
 len:H7 p n f a=0→(KK p n f a).length=(p.getD f Fn.zero).outs.length
 ser:C4 n (KK p n f a)
 non:H7 p n f a≠0→KK p n f a=[]
theorem Va.mk' {p:List Fn}{n f s:Nat}{a x:List Sr}{c:Int}(h:AN (go 0 (CB n (Df p n f) (p.getD f Fn.zero).outs a 0)) x s c)(hc:0≤c∧c≤9)(hs:s≤3000)(hl:x.length=(p.getD f Fn.zero).outs.length)(hx:C4 n x):Va p n f a:=by
 by_cases h0:c=0
 ·have e:=LE h h0
  exact⟨by rw[KL e];omega,by rw[QN e];exact hs,fun _=>by rw[GU e];exact hl,by rw[GU e];exact hx,fun hh=>absurd (KL e) hh⟩
 ·have e:=J9 h h0
  exact⟨by rw[FP e];exact hc,by rw[QO e];omega,fun hh=>absurd (by rw[← hh,FP e]) h0,by rw[OK e];intro k hk;simp at hk,fun _=>OK e⟩
end
def Xm (s:ByteArray)(i:Nat):Bool:=(decide (97≤K8 s i) && decide (K8 s i≤122)) || (decide (i≠0) && (decide (48≤K8 s i) && decide (K8 s i≤57)))
def Le (s:ByteArray):Bool:=(decide (1≤s.size) && decide (s.size≤12)) && (List.range s.size).all (Xm s)
def MF (p:List Fn)(e:Ex)(vars funcs:Int):Bool :=
 Ey vars 0 412 && (Ey funcs 0 ((p.length:Nat):Int) && (decide (e.size≤400) && (decide (e.deep≤60) && wf p funcs e vars)))
def S0 (p:List Fn)(k:Nat):Bool:=!((p.take k).any fun g=>DA g.name (p.getD k Fn.zero).name)
def KM (p:List Fn)(k:Nat):Bool :=
 (Le (p.getD k Fn.zero).name && S0 p k) && ((Ey (p.getD k Fn.zero).params 0 12 && Ey (((p.getD k Fn.zero).outs.length:Nat):Int) 1 12) &&
  ((List.range (p.getD k Fn.zero).outs.length).all (fun j=>MF p ((p.getD k Fn.zero).outs.getD j Ex.zero) (p.getD k Fn.zero).params ((k:Nat):Int)) && decide (Ex.sizes (p.getD k Fn.zero).outs≤400)))
def Ef (p:List Fn):Bool:=decide (p.length≤16) && (List.range p.length).all (KM p)
def LF (p:List Fn):Prop:=∀k,k<p.length→Ex.sizes (p.getD k Fn.zero).outs≤2000000∧(p.getD k Fn.zero).outs.length≤2000000∧(p.getD k Fn.zero).name.size≤2000000
theorem Eb {f:Nat→Bool}{k:Nat}(h:(List.range k).all f=true)(hk:f k=true):(List.range (k+1)).all f=true:=by
 rw[List.range_succ,List.all_append,h];simp[hk]
theorem Ki {f:Nat→Bool}{k n:Nat}(hk:k<n)(h:f k=false):(List.range n).all f=false:=by
 rw[List.all_eq_false]
 exact⟨k,List.mem_range.2 hk,by simp[h]⟩
theorem QP {f:Nat→Bool}{k n:Nat}(h:(List.range n).all f=true)(hk:k<n):f k=true:=zm.1 h k (List.mem_range.2 hk)
theorem YP {p:List Fn}(h:Ef p=true){k:Nat}(hk:k<p.length):KM p k=true:=by
 unfold Ef at h
 rw[z7]at h
 exact QP h.2 hk
theorem CM {p:List Fn}(h:Ef p=true):Hz p:=by
 have h1:∀k,k<p.length→(0≤(p.getD k Fn.zero).params∧(p.getD k Fn.zero).params≤12)∧(1≤(p.getD k Fn.zero).outs.length∧(p.getD k Fn.zero).outs.length≤12) ∧
   ∀j,j<(p.getD k Fn.zero).outs.length→MF p ((p.getD k Fn.zero).outs.getD j Ex.zero) (p.getD k Fn.zero).params ((k:Nat):Int)=true:=by
  intro k hk
  have:=YP h hk
  unfold KM at this
  simp only[z7,BH]at this
  exact⟨this.2.1.1,zO,fun j hj=>QP this.2.2.1 hj⟩
 have h2:∀k,k<p.length→∀j,j<(p.getD k Fn.zero).outs.length→((p.getD k Fn.zero).outs.getD j Ex.zero).deep≤60∧wf p ((k:Nat):Int) ((p.getD k Fn.zero).outs.getD j Ex.zero) (p.getD k Fn.zero).params=true:=by
  intro k hk j hj
  have:=(h1 k hk).2.2 j hj
  unfold MF at this
  simp only[z7,decide_eq_true_eq]at this
  exact⟨this.2.2.2.1,this.2.2.2.2⟩
 exact⟨fun k hk=>(h1 k hk).1,fun k hk=>(h1 k hk).2.1,fun k hk j hj=>(h2 k hk j hj).1,fun k hk j hj=>(h2 k hk j hj).2⟩
theorem NJ {p:List Fn}(h:Ef p=true):p.length≤16:=by
 unfold Ef at h;simp only[z7,decide_eq_true_eq]at h;exact h.1
section
mutual
def ZE:Ex→Bool
 |.mk k _ _ _ l=>(decide (k≠6) && decide (k≠8)) && Pt l
def Pt:List Ex→Bool
 |[]=>true
 |e::l=>ZE e && Pt l
end
theorem PI (k n q c:Int)(l:List Ex):ZE (.mk k n q c l)=((decide (k≠6) && decide (k≠8)) && Pt l):=by rw[ZE]
theorem OL (l:List Ex)(e:Ex):Pt (l++[e])=(Pt l && ZE e):=by
 induction l with
 |nil=>rw[zl,Pt,Pt];simp[Pt]
 |cons a l ih=>rw[List.cons_append,Pt,Pt,ih,Bool.and_assoc]
def MG:Nat→Int
 |0=>1
 |d+1=>1+4*MG d
def I6:Nat→Nat
 |0=>30
 |d+1=>50+4*I6 d
def YQ:Nat→Int→Int
 |0,_=>0
 |n+1,k=>YQ n k+k
def S3:Nat→Nat→Nat
 |0,_=>0
 |n+1,k=>S3 n k+k
theorem Ir:∀d,1≤MG d
 |0=>by decide
 |d+1=>by have:=Ir d;show 1≤1+4*MG d;omega
theorem Xn {d:Nat}(h:1≤d):MG d=1+4*MG (d-1):=by
 obtain⟨d,rfl⟩:∃k,d=k+1:=⟨d-1,zO⟩
 rfl
theorem ZP {d:Nat}(h:1≤d):I6 d=50+4*I6 (d-1):=by
 obtain⟨d,rfl⟩:∃k,d=k+1:=⟨d-1,zO⟩
 rfl
theorem PJ:∀d,30≤I6 d
 |0=>by decide
 |d+1=>by show 30≤50+4*I6 d;omega
theorem OM {i:Nat}{k:Int}(hk:0≤k)(hi:i≤4):0≤YQ i k∧YQ i k≤4*k:=by
 rcases i with _|_|_|_|_|i
 all_goals first|(exfalso;omega)|(simp only[YQ];omega)
theorem Na {i k:Nat}(hi:i≤4):S3 i k≤4*k:=by
 rcases i with _|_|_|_|_|i
 all_goals first|(exfalso;omega)|(simp only[S3];omega)
structure Om (p:List Fn)(funcs vars:Int)(pl:Bool)(d:Nat)(l0 l1:Int)(ex:Ex):Prop where
 wf:wf p funcs ex vars=true
 sz:(ex.size:Int)+4*max l1 1≤1+4*max l0 1
 dp:ex.deep≤d+1
 pl:pl=true→ZE ex=true
 lo:l0-MG d≤l1∧l1≤l0-1
structure PK (p:List Fn)(vars:Int)(ex:Ex):Prop where
 wf:∀funcs,wf p funcs ex vars=true
 sz:ex.size=1
 dp:ex.deep=1
 pl:ZE ex=true
structure ZQ (p:List Fn):Prop where
 len:p.length≤1000
 par:∀k,k<p.length→0≤(p.getD k Fn.zero).params∧(p.getD k Fn.zero).params≤4
 outs:∀k,k<p.length→1≤(p.getD k Fn.zero).outs.length∧(p.getD k Fn.zero).outs.length≤12
theorem PK.num {p:List Fn}{vars n:Int}(h:0≤n∧n<1000003):PK p vars (.mk 1 n 0 0 []) :=
 ⟨fun funcs=>by
  rw[NC rfl];unfold Hf E4
  simp[Ex.kind,Ex.pick,Ex.count,Ex.kids,Ex.num,CD];omega,by rw[Ex.size,Ex.sizes],by rw[Ex.deep,Ex.deeps],by rw[PI];rfl⟩
theorem PK.var {p:List Fn}{vars n:Int}(h:0≤n∧n<vars):PK p vars (.mk 2 n 0 0 []) :=
 ⟨fun funcs=>by
  rw[NC rfl];unfold Hf E4
  simp[Ex.kind,Ex.pick,Ex.count,Ex.kids,Ex.num,BH];omega,by rw[Ex.size,Ex.sizes],by rw[Ex.deep,Ex.deeps],by rw[PI];rfl⟩
theorem PK.ok {p:List Fn}{vars funcs l0:Int}{ex:Ex}{pl:Bool}(h:PK p vars ex)(d:Nat):Om p funcs vars pl d l0 (l0-1) ex:=by
 have:=Ir d
 exact⟨h.wf funcs,by rw[h.sz];omega,by rw[h.dp];omega,fun _=>h.pl,zO⟩
def kn (k:Int):Int:=if k=1∨k=2 then 0 else if k=3∨k=4∨k=5∨k=6∨k=9 then 2 else if k=7 then 1 else if k=8 then 3 else -1
structure QQ (p:List Fn)(funcs vars:Int)(pl:Bool)(k:Int)(d:Nat)(l0 l1:Int)(xs:List Ex)(i:Nat):Prop where
 len:xs.length=i
 wf:∀j,j<i→wf p funcs (xs.getD j Ex.zero) (if k=9∧j=1 then vars+1 else vars)=true
 sz:(Ex.sizes xs:Int)+4*max l1 1≤i+4*max l0 1
 dp:Ex.deeps xs≤d
 pl:pl=true→Pt xs=true
 lo:l0-YQ i (MG (d-1))≤l1∧l1≤l0
theorem QQ.nil (p:List Fn)(funcs vars:Int)(pl:Bool)(k:Int)(d:Nat)(l0:Int):QQ p funcs vars pl k d l0 l0 [] 0 :=
 ⟨rfl,fun j hj=>by omega,by rw[Ex.sizes];omega,by rw[Ex.deeps];omega,fun _=>by rw[Pt],by show l0-0≤l0∧l0≤l0;omega⟩
theorem QQ.snoc {p:List Fn}{funcs vars own:Int}{pl:Bool}{k:Int}{d:Nat}{l0 l1 l2:Int}{xs:List Ex}{i:Nat}{x:Ex}(h:QQ p funcs vars pl k d l0 l1 xs i)(hd:1≤d)
  (ho:own=if k=9∧i=1 then vars+1 else vars) (hx:Om p funcs own pl (d-1) l1 l2 x):QQ p funcs vars pl k d l0 l2 (xs++[x]) (i+1):=by
 have hlen:=h.len
 refine⟨by simp[hlen],fun j hj=>?_,?_,?_,fun hp=>?_,?_⟩
 ·by_cases e:j=i
  ·subst e
   rw[← hlen,Gp rfl,hlen,← ho];exact hx.wf
  ·rw[Gn (by omega)];exact h.wf j zO
 ·have h1:=h.sz;have h2:=hx.sz
  rw[J4];omega
 ·have h1:=h.dp;have h2:=hx.dp
  rw[J5];omega
 ·rw[OL,h.pl hp,hx.pl hp];rfl
 ·have h1:=h.lo;have h2:=hx.lo
  have h3:YQ (i+1) (MG (d-1))=YQ i (MG (d-1))+MG (d-1):=rfl
  omega
theorem QQ.node {p:List Fn}{funcs vars:Int}{pl:Bool}{k num pick cnt:Int}{d i:Nat}{l0 l1:Int}{xs:List Ex}(h:QQ p funcs vars pl k d (l0-1) l1 xs i)(hd:1≤d)(hi:i≤4)(hl:2≤l0)
  (hp:pl=true→k≠6∧k≠8) (hw:Hf p funcs vars (.mk k num pick cnt xs)=true):Om p funcs vars pl d l0 l1 (.mk k num pick cnt xs):=by
 have hn:=Xn hd
 have ht:=OM (k:=MG (d-1)) (by have:=Ir (d-1);omega) hi
 have h1:=h.lo;have h2:=h.sz
 refine⟨(ND hw fun j hj=>?_).symm,?_,?_,fun hq=>?_,zO⟩
 ·exact h.wf j (by rw[← h.len];exact hj)
 ·rw[Ex.size];omega
 ·rw[Ex.deep];have:=h.dp;omega
 ·rw[PI,h.pl hq,A5 (hp hq).1,A5 (hp hq).2];rfl
theorem YS {p:List Fn}{funcs vars k:Int}{xs:List Ex}(hk:k=3∨k=4∨k=5∨k=6∨k=7∨k=8∨k=9)(hl:((xs.length:Nat):Int)=kn k):Hf p funcs vars (.mk k 0 0 0 xs)=true:=by
 have h2:k=3∨k=4∨k=5∨k=6∨k=9→xs.length=2:=fun h=>by
  have:kn k=2:=by unfold kn;rw[if_neg zO,if_pos (by omega)]
  omega
 have h1:k=7→xs.length=1:=fun h=>by
  have:kn k=1:=by unfold kn;rw[if_neg zO,if_neg zO,if_pos h]
  omega
 have h3:k=8→xs.length=3:=fun h=>by
  have:kn k=3:=by unfold kn;rw[if_neg zO,if_neg zO,if_neg zO,if_pos h]
  omega
 unfold Hf E4
 rcases hk with rfl|rfl|rfl|rfl|rfl|rfl|rfl
 ·simp[Ex.kind,Ex.pick,Ex.count,Ex.kids,Ex.num,h2]
 ·simp[Ex.kind,Ex.pick,Ex.count,Ex.kids,Ex.num,h2]
 ·simp[Ex.kind,Ex.pick,Ex.count,Ex.kids,Ex.num,h2]
 ·simp[Ex.kind,Ex.pick,Ex.count,Ex.kids,Ex.num,h2]
 ·simp[Ex.kind,Ex.pick,Ex.count,Ex.kids,Ex.num,h1]
 ·simp[Ex.kind,Ex.pick,Ex.count,Ex.kids,Ex.num,h3]
 ·simp[Ex.kind,Ex.pick,Ex.count,Ex.kids,Ex.num,h2]
theorem YT {p:List Fn}{funcs vars k num pick cnt:Int}{xs:List Ex}(hk:(k=10∧cnt=0)∨(k=11∧((p.getD num.toNat Fn.zero).outs.length:Int)=(p.getD num.toNat Fn.zero).params∧0≤cnt∧cnt≤8))
  (hn:0≤num∧num<funcs) (hl:((xs.length:Nat):Int)=(p.getD num.toNat Fn.zero).params) (hq:0≤pick∧pick<((p.getD num.toNat Fn.zero).outs.length:Int)):Hf p funcs vars (.mk k num pick cnt xs)=true:=by
 have h1:Ey num 0 (funcs-1)=true:=BH.2 zO
 have h2:Ey pick 0 (((p.getD num.toNat Fn.zero).outs.length:Int)-1)=true:=BH.2 zO
 have h6:decide ((xs.length:Int)=(p.getD num.toNat Fn.zero).params)=true:=A5 hl
 unfold Hf
 rcases hk with⟨rfl,rfl⟩|⟨rfl,h3,h4⟩
 ·show(Ey num 0 (funcs-1) && (decide ((xs.length:Int)=(p.getD num.toNat Fn.zero).params) && (Ey pick 0 (((p.getD num.toNat Fn.zero).outs.length:Int)-1) && decide ((0:Int)=0))))=true
  rw[h1,h2,h6];rfl
 ·have h5:Ey cnt 0 8=true:=BH.2 h4
  show(Ey num 0 (funcs-1) && (decide ((xs.length:Int)=(p.getD num.toNat Fn.zero).params) && (Ey pick 0 (((p.getD num.toNat Fn.zero).outs.length:Int)-1) && (decide (((p.getD num.toNat Fn.zero).outs.length:Int)=(p.getD num.toNat Fn.zero).params) && Ey cnt 0 8))))=true
  rw[h1,h2,h5,h6,A5 h3];rfl
theorem FQ {a b c k:Int}{l:List Ex}(h1:-9223372036854775808≤a∧a≤9223372036854775807)(h2:-9223372036854775808≤b∧b≤9223372036854775807)(h3:-9223372036854775808≤c∧c≤9223372036854775807)(h4:-9223372036854775808≤k∧k≤9223372036854775807):Qu (.mk a b c k l):=⟨h1,h2,h3,h4⟩
theorem CR {a b c:Nat}(h:c∈[a,b]):c=a∨c=b:=by simpa using h
theorem Gw {a b:Nat}:∀x∈[a],x∈[a,b]:=fun x hx=>by rw[A9 hx];exact z0 ..
theorem YU {a b:Nat}:∀x∈[b],x∈[a,b]:=fun x hx=>by rw[A9 hx];exact z3 _ (z0 ..)
theorem Ax.new2 {F:List Nat}{g g':Nat}{a b c:World}(h:Ax F a b)(k:Ax [g,g'] b c)(hg:g∈F)(hg':a.heap.size≤g'):Ax F a c :=
 ⟨k.os.trans h.os,k.tape.trans h.tape,k.output.trans h.output,A8 h.size k.size,fun i hi hm=>(k.block i (Nat.lt_of_lt_of_le hi h.size) fun hq=>by
  rcases CR hq with rfl|rfl
  ·exact hm hg
  ·omega).trans (h.block i hi hm)⟩
theorem RN.of_frF2 {e e':TypeId}{d B U:Nat}{H:Array Obj}{v:Value}{S:List Nat}{xs:List Fn}(h:Fr (CA 3 (KH e d) e') B U H v xs)(hS:∀b∈S,b<B∨U≤b):RP S d H v xs:=by
 obtain⟨F,h,_,hF⟩:=h
 exact⟨F,(h.rd (Am e d)).imp fun h=>SE e h,fun b hb hm=>by have:=hF b hb;have:=hS b hm;omega⟩
theorem Gg.mk1 {e:TypeId}{d B U:Nat}{H:Array Obj}{v:Value}{x:Ex}(hd:1≤d)(hr:Qu x)(h:Fr (CA 5 (Ga e (d-1)) e) B U H v x.kids):Gg (Ga e d) B U H (DT x v) x:=by
 obtain⟨d,rfl⟩:∃k,d=k+1:=⟨d-1,zO⟩
 obtain⟨G,h1,h2,h3⟩:=h
 exact⟨G,⟨v,rfl,hr,h1⟩,h2,h3⟩
theorem Gg.mkF {e:TypeId}{d B U:Nat}{H:Array Obj}{v:Value}{x:Fn}(hr:BG x.params)(h:Fr (CA 5 (Ga e d) e) B U H v x.outs):Gg (KH e d) B U H (E2 x v) x:=by
 obtain⟨G,h1,h2,h3⟩:=h
 exact⟨G,⟨v,rfl,hr,h1⟩,h2,h3⟩
theorem eC {k:Int}(h:k=1∨k=2):kn k=0:=by unfold kn;rw[if_pos h]
theorem eD {k:Int}(h:k=3∨k=4∨k=5∨k=6∨k=9):kn k=2:=by unfold kn;rw[if_neg zO,if_pos h]
theorem eE {k:Int}(h:k=7):kn k=1:=by unfold kn;rw[if_neg zO,if_neg zO,if_pos h]
theorem eF {k:Int}(h:k=8):kn k=3:=by unfold kn;rw[if_neg zO,if_neg zO,if_neg zO,if_pos h]
theorem eG {k:Int}(h1:¬k=1)(h2:¬k=2)(h3:¬k=3)(h4:¬k=4)(h5:¬k=5)(h6:¬k=6)(h7:¬k=7)(h8:¬k=8)(h9:¬k=9):kn k = -1:=by unfold kn;rw[if_neg zO,if_neg zO,if_neg zO,if_neg (by omega)]
theorem eH {k:Int}(h:k=3∨k=4∨k=5∨k=6∨k=7∨k=8∨k=9):1≤kn k∧kn k≤3:=by
 rcases h with rfl|rfl|rfl|rfl|rfl|rfl|rfl <;> decide
theorem T5 {d:Nat}(h:d≤8):MG d≤100000:=by
 have:∀k:Fin 9,MG k.val≤100000:=by decide
 exact this ⟨d,zO⟩
theorem PK.okc {p:List Fn}{vars funcs l0:Int}{ex:Ex}{pl:Bool}(h:PK p vars ex)(d:Nat):Om p funcs vars pl d (l0+1) l0 ex:=by
 have h:=h.ok (funcs:=funcs) (pl:=pl) (l0:=l0+1) d
 rwa [show l0+1-1=l0 from by omega]at h
theorem Om.up1 {p:List Fn}{vars funcs l0 l1:Int}{ex:Ex}{pl:Bool}{d:Nat}(h:Om p funcs vars pl d (l0-1+1) l1 ex):Om p funcs vars pl d l0 l1 ex:=by rwa [show l0-1+1=l0 from by omega]at h
theorem QQ.node1 {p:List Fn}{funcs vars:Int}{pl:Bool}{k num pick cnt:Int}{d i:Nat}{l0 l1:Int}{xs:List Ex}(h:QQ p funcs vars pl k d l0 l1 xs i)(hd:1≤d)(hi:i≤4)(hl:1≤l0)
  (hp:pl=true→k≠6∧k≠8) (hw:Hf p funcs vars (.mk k num pick cnt xs)=true):Om p funcs vars pl d (l0+1) l1 (.mk k num pick cnt xs) :=
 QQ.node (by rwa [show l0+1-1=l0 from by omega]) hd hi zO hp hw
namespace Jx
variable [J:JR] {P:Program} {ops:Array Oper} {w0:World} {Q:Act→World→Prop}
theorem j1 {o:Oper}{os:List Oper}{ks:List Nat}{a:Act}{w:World}(h:_root_.Go.Proofs.YtbajepcpgncekaaGreat.LW P ops w0 (fun a w=>LW P ops w0 Q os ks a w) [o] [0] a w):LW P ops w0 Q (o::os) (0::ks) a w:=by
 simp only[_root_.Go.Proofs.YtbajepcpgncekaaGreat.LW]at h
 simp only[LW]
 split
 ·rename_i hw
  rw[if_pos hw]at h
  unfold _root_.Go.Proofs.YtbajepcpgncekaaGreat.BN at h
  unfold BN
  rw[if_pos (by decide)]at h
  rw[if_pos (by decide)]
  obtain⟨v,h1,h2⟩:=h
  exact⟨v,fun w' _=>h1 w' trivial,h2⟩
 ·rename_i hw
  rw[if_neg hw]at h
  exact h
theorem Vr:∀ {os:List Oper}{ks:List Nat}{a:Act}{w:World}(_:ks.all (fun k=>k == 0 || k == 3 || k == 4)=true)(_:_root_.Go.Proofs.YtbajepcpgncekaaGreat.LW P ops w0 Q os ks a w),LW P ops w0 Q os ks a w
 |[],_,_,_,_,h=>h
 |_::_,[],_,_,_,h=>h.elim
 |o::os,k::ks,a,w,hk,h=>by
  simp only[List.all_cons,z7]at hk
  simp only[_root_.Go.Proofs.YtbajepcpgncekaaGreat.LW]at h
  simp only[LW]
  split
  ·rename_i hw
   rw[if_pos hw]at h
   unfold _root_.Go.Proofs.YtbajepcpgncekaaGreat.BN at h
   unfold BN
   split at h
   ·rename_i h2
    rw[if_pos h2]
    have:k=0:=by
     have:=hk.1
     simp only[Bool.or_eq_true,beq_iff_eq]at this
     omega
    subst this
    obtain⟨v,h1,h3⟩:=h
    exact⟨v,fun w' _=>h1 w' trivial,Vr hk.2 h3⟩
   ·rename_i h2
    rw[if_neg h2]
    split at h
    ·rename_i h3
     rw[if_pos h3]
     exact Oper.wp_mono (fun a w hh=>⟨J.ext hh.1,Vr hk.2 hh.2⟩) h
    ·rename_i h3
     rw[if_neg h3]
     exact Oper.wp_mono (fun a w hh=>Vr hk.2 hh) h
  ·rename_i hw
   rw[if_neg hw]at h
   exact Vr hk.2 h
end Jx
end
section
theorem T6 {α:Type}{l:List α}{k:Nat}{d:α}(h:k<l.length):l.getD k d∈l:=by
 rw[List.getD_eq_getElem?_getD,List.getElem?_eq_getElem h,Option.getD_some];exact List.getElem_mem h
theorem Ja {a:Int}(h:-9223372036854775808≤a∧a≤9223372036854775807):BG a:=h
def JC (n:Nat):ByteArray:=⟨#[UInt8.ofNat (48+n)]⟩
def MH:List ByteArray:=[⟨#[102]⟩,⟨#[103]⟩,⟨#[115,116,101,112]⟩,⟨#[104,50]⟩,⟨#[99]⟩]
theorem YV {n:Int}(h0:0≤n)(h1:n<10):(⟨#[UInt8.ofNat (IntKind.u8.wrap (((48:Nat):Int)+n)).toNat]⟩:ByteArray)=JC n.toNat:=by
 obtain⟨k,rfl⟩:∃k:Nat,n=k:=⟨n.toNat,zO⟩
 have:∀k:Fin 10,(⟨#[UInt8.ofNat (IntKind.u8.wrap (((48:Nat):Int)+((k.val:Nat):Int))).toNat]⟩:ByteArray)=JC k.val:=by decide +kernel
 exact this ⟨k,zO⟩
theorem T7 (n:Nat):(JC n).size=1:=rfl
theorem S4:∀s∈MH,s.size≤4:=by decide +kernel
theorem Vs:∀s∈MH,∀i:Fin 10,Le (s++JC i.val)=true:=by decide +kernel
theorem Vt:∀s∈MH,∀t∈MH,∀i j:Fin 10,i.val≠j.val→DA (s++JC i.val) (t++JC j.val)=false:=by decide +kernel
section str
variable {P:Program} {ops:Array Oper} {w0:World} {Q:Act→World→Prop} {os:List Oper} {ks:List Nat} {N:Nat} {ρ:Nat→Value} {w:World}
 {d:Nat} {ty:TypeId} {pos:String} {aft:Array Edge} {g:Option (Nat×Bool)} {t e:TypeId}
theorem Vu {st dt:TypeId}{x:Operand}{v:Value}{n:Int}{B U:Nat}(hs:P.underlying st=some (.slice e))(he:P.underlying e=some (.int .u8))(hd:P.underlying dt=some .string)(hx:Bw N ρ x=v)(hv:Fr (BA rV e) B U w.heap v [.int .u8 n])
  (hu:Up ops N ρ ⟨some d,.convert st dt x,ty,pos,aft,g⟩) (h:LW P ops w0 Q os ks (mk N (CP ρ d (.string ⟨#[UInt8.ofNat n.toNat]⟩))) w) :
  LW P ops w0 Q (⟨some d,.convert st dt x,ty,pos,aft,g⟩::os) (2::ks) (mk N ρ) w:=by
 obtain⟨F,hv,_,_⟩:=hv
 rcases hv with⟨_,hc,_⟩|⟨us,b,cap,cur,F',hels,rfl,hg,q1,q2,q3,q4,rfl⟩
 ·cases hc
 ·obtain⟨rfl,rfl⟩:=Fy hels
  refine CG (by decide) rfl hu _ (fun w' hcl=>?_) h
  have hcl:AD w w':=hcl
  have hcb:w'.heap[b]? = w.heap[b]?:=hcl.heap (getElem?_lt hg)
  have hlc:=run_loadCells_list (P:=P) w' ⟨b,0,none⟩ [.int .u8 n] (fun j u hj=>by
   rw[FJ,BP]
   simp only[C5,hcb,hg]
   have hj0:j=0:=by have:=(List.getElem?_eq_some_iff.1 hj).1;simpa using this
   subst hj0
   have e1:cur.toList[0]? = some (.int .u8 n):=by
    have:(cur.toList.take 1)[0]? = some (.int .u8 n):=by rw[show cur.toList.take 1=[.int .u8 n]from q4];rfl
    rwa [List.getElem?_take,if_pos (by decide)]at this
   have e2:u=.int .u8 n:=by simpa using hj.symm
   rw[e2]
   simpa using e1)
  have hb:=run_bytesToString (P:=P) w' ⟨b,0,none⟩ 1 cap [n] (by simpa using hlc)
  have hr:=run_convert_bytes_string (P:=P) w' st dt e (some ⟨b,0,none⟩) 1 cap hs he hd
  simp only[execOp,hx,zd,Sem.run_bind,hr,hb,Result.andThen_ok,Sem.run_pure]
  rfl
theorem Vv {b:Nat}{z u0 u1 u2 u3:Value}(ht:P.underlying t=some (.slice e))(hi:TI P e 1 z b)(h0:u0.cells=#[u0])(h1:u1.cells=#[u1])(h2:u2.cells=#[u2])(h3:u3.cells=#[u3])(hz:z.cells=#[z]) :
  (Instr.buildSlice t 4 #[(0,u0),(1,u1),(2,u2),(3,u3)]).run P w=.ok (.slice (some ⟨w.heap.size,0,none⟩) 4 4) (w.alloc (.cells #[u0,u1,u2,u3] e)):=by
 obtain⟨i,q1,q2,q3,q4⟩:=hi.get
 simp[Instr.buildSlice,run_underlying ht,sizeOf,typeInfo,zeroValue,q1,q2,q3,Instr.fill,newRow,h0,h1,h2,h3,hz,JI,List.range_succ]
theorem T8 {α:Type}{E:Bu α}(hE:C9 E){ys:List α}{b:Nat}{z u0 u1 u2 u3:Value}{x0 x1 x2 x3:Operand}(ht:P.underlying t=some (.slice e))(hi:TI P e 1 z b)(hz:z.cells=#[z])
  (hx0:Bw N ρ x0=u0) (hx1:Bw N ρ x1=u1) (hx2:Bw N ρ x2=u2) (hx3:Bw N ρ x3=u3) (hl:ys.length=4) (hels:els E w.heap [u0,u1,u2,u3] ys [])
  (hu:Up ops N ρ ⟨some d,.buildSlice t 4 #[(0,x0),(1,x1),(2,x2),(3,x3)],ty,pos,aft,g⟩)
  (h:∀v w1,AD w w1→w1.heap.size=w.heap.size+1→Fr (BA E e) w.heap.size w1.heap.size w1.heap v ys→LW P ops w0 Q os ks (mk N (CP ρ d v)) w1) :
  LW P ops w0 Q (⟨some d,.buildSlice t 4 #[(0,x0),(1,x1),(2,x2),(3,x3)],ty,pos,aft,g⟩::os) (3::ks) (mk N ρ) w:=by
 have hc:=hels.cells1 hE
 have hr:=Vv (P:=P) (w:=w) ht hi (hc u0 (by simp)).1 (hc u1 (by simp)).1 (hc u2 (by simp)).1 (hc u3 (by simp)).1 hz
 have hrun:(execOp (Bw N ρ) ⟨some d,.buildSlice t 4 #[(0,x0),(1,x1),(2,x2),(3,x3)],ty,pos,aft,g⟩).run P w=.ok (.value (.slice (some ⟨w.heap.size,0,none⟩) 4 4)) (w.alloc (.cells #[u0,u1,u2,u3] e)):=by
  simp only[execOp,zc,zf,zh,Sem.run_bind,hx0,hx1,hx2,hx3,hr,Result.andThen_ok,Sem.run_pure]
 refine IY rfl hu _ _ hrun (BF _ _)<|h _ _ (BF _ _) (by simp) ?_
 have hn:=Hb (e:=e) (w:=w) hE (us:=[u0,u1,u2,u3]) (xs:=ys) (F:=[]) (cur:=#[u0,u1,u2,u3]) hels (by simp[maxLen]) (by rw[hl];rfl) (by rw[hl];simp)
 rw[hl]at hn
 refine⟨_,hn,?_,fun c hc=>?_⟩
 ·rw[List.nodup_cons]
  exact⟨fun hm=>(by cases hm),zk⟩
 ·rcases ze.1 hc with rfl|hc
  ·exact⟨A7 _,by simp⟩
  ·cases hc
end str
theorem Xo {H:Array Obj}{u0 u1 u2 u3:Value}(h0:u0.cells=#[u0]∧u0.oneCell'=true)(h1:u1.cells=#[u1]∧u1.oneCell'=true)(h2:u2.cells=#[u2]∧u2.oneCell'=true)(h3:u3.cells=#[u3]∧u3.oneCell'=true):els rV H [u0,u1,u2,u3] [u0,u1,u2,u3] [] :=
 Lx fun u hu=>by
  simp only[ze,z2,or_false]at hu
  rcases hu with rfl|rfl|rfl|rfl <;> assumption
theorem Vw {p q:List Fn}{F v:Int}{e:Ex}(hF:F≤((p.length:Nat):Int)):Hf (p++q) F v e=Hf p F v e:=by
 by_cases h:Ey e.num 0 (F-1)=true
 ·have h1:=BH.1 h
  have h2:(p++q).getD e.num.toNat Fn.zero=p.getD e.num.toNat Fn.zero:=Gn zO
  unfold Hf
  rw[h2]
 ·unfold Hf
  simp only[Bool.not_eq_true]at h
  simp[h]
mutual
theorem PL {p q:List Fn}{F:Int}(hF:F≤((p.length:Nat):Int)):∀(e:Ex)(v:Int),wf (p++q) F e v=wf p F e v
 |.mk k n c d l,v=>by rw[wf,wf,Vw hF,QR hF l]
theorem QR {p q:List Fn}{F:Int}(hF:F≤((p.length:Nat):Int)):∀(l:List Ex)(b:Bool)(i:Nat)(v:Int),QC (p++q) F b i l v=QC p F b i l v
 |[],_,_,_=>by rw[QC,QC]
 |e::l,b,i,v=>by rw[QC,QC,PL hF e,QR hF l]
end
structure LG (p:List Fn)(pl:Bool):Prop where
 len:p.length≤12
 par:∀k,k<p.length→1≤(p.getD k Fn.zero).params∧(p.getD k Fn.zero).params≤3
 outs:∀k,k<p.length→1≤(p.getD k Fn.zero).outs.length∧(p.getD k Fn.zero).outs.length≤3
 wf:∀k,k<p.length→∀j,j<(p.getD k Fn.zero).outs.length→wf p ((k:Nat):Int) ((p.getD k Fn.zero).outs.getD j Ex.zero) (p.getD k Fn.zero).params=true
 dp:∀k,k<p.length→Ex.deeps (p.getD k Fn.zero).outs≤6
 sz:∀k,k<p.length→Ex.sizes (p.getD k Fn.zero).outs≤400
 pl:pl=true→∀k,k<p.length→Pt (p.getD k Fn.zero).outs=true
 nm:∀k,k<p.length→Le (p.getD k Fn.zero).name=true
 nw:∀k,k<p.length→S0 p k=true
theorem LG.nil (pl:Bool):LG [] pl:=by
 constructor
 ·simp
 all_goals first|(intro _ k hk;simp at hk)|(intro k hk;simp at hk)
theorem LG.gpr {p:List Fn}{pl:Bool}(h:LG p pl):ZQ p :=
 ⟨by have:=h.len;omega,fun k hk=>by have:=h.par k hk;omega,fun k hk=>by have:=h.outs k hk;omega⟩
theorem LG.snoc {p:List Fn}{pl:Bool}{f:Fn}(h:LG p pl)(hl:p.length≤11)(hp:1≤f.params∧f.params≤3)(ho:1≤f.outs.length∧f.outs.length≤3)
  (hw:∀j,j<f.outs.length→Go.Proofs.YtbajepcpgncekaaGreat.wf p ((p.length:Nat):Int) (f.outs.getD j Ex.zero) f.params=true) (hd:Ex.deeps f.outs≤6) (hs:Ex.sizes f.outs≤400) (hpl:pl=true→Pt f.outs=true)
  (hn:Le f.name=true) (hnw:∀k,k<p.length→DA (p.getD k Fn.zero).name f.name=false):LG (p++[f]) pl:=by
 have e:∀k,k<(p++[f]).length→(k<p.length∧(p++[f]).getD k Fn.zero=p.getD k Fn.zero)∨(k=p.length∧(p++[f]).getD k Fn.zero=f):=fun k hk=>by
  rw[z4,zd]at hk
  by_cases h:k<p.length
  ·exact .inl ⟨h,Gn h⟩
  ·exact .inr ⟨zO,Gp zO⟩
 refine⟨by rw[z4,zd];omega,?_,?_,?_,?_,?_,?_,?_,?_⟩
 ·intro k hk;rcases e k hk with⟨h1,h2⟩|⟨h1,h2⟩ <;> rw[h2]
  ·exact h.par k h1
  ·exact hp
 ·intro k hk;rcases e k hk with⟨h1,h2⟩|⟨h1,h2⟩ <;> rw[h2]
  ·exact h.outs k h1
  ·exact ho
 ·intro k hk;rcases e k hk with⟨h1,h2⟩|⟨h1,h2⟩ <;> rw[h2]
  ·intro j hj;rw[PL (by omega)];exact h.wf k h1 j hj
  ·intro j hj;subst h1;rw[PL (by omega)];exact hw j hj
 ·intro k hk;rcases e k hk with⟨h1,h2⟩|⟨h1,h2⟩ <;> rw[h2]
  ·exact h.dp k h1
  ·exact hd
 ·intro k hk;rcases e k hk with⟨h1,h2⟩|⟨h1,h2⟩ <;> rw[h2]
  ·exact h.sz k h1
  ·exact hs
 ·intro hq k hk;rcases e k hk with⟨h1,h2⟩|⟨h1,h2⟩ <;> rw[h2]
  ·exact h.pl hq k h1
  ·exact hpl hq
 ·intro k hk;rcases e k hk with⟨h1,h2⟩|⟨h1,h2⟩ <;> rw[h2]
  ·exact h.nm k h1
  ·exact hn
 ·intro k hk
  rcases e k hk with⟨h1,h2⟩|⟨h1,h2⟩
  ·have:=h.nw k h1
   unfold S0 at this ⊢
   rwa [h2,List.take_append_of_le_length (by omega)]
  ·unfold S0
   rw[h2,h1,List.take_left]
   simp only[Bool.not_eq_true',List.any_eq_false]
   intro g hg
   obtain⟨i,hi,rfl⟩:=List.mem_iff_getElem.1 hg
   have:=hnw i hi
   rw[List.getD_eq_getElem?_getD,List.getElem?_eq_getElem hi,Option.getD_some]at this
   simp[this]
theorem LG.ok {p:List Fn}{pl:Bool}(h:LG p pl):Ef p=true:=by
 unfold Ef
 rw[z7]
 refine⟨A5 (by have:=h.len;omega),zm.2 fun k hk=>?_⟩
 rw[List.mem_range]at hk
 have h1:=h.par k hk;have h2:=h.outs k hk;have h3:=h.sz k hk;have h4:=h.dp k hk
 unfold KM
 rw[h.nm k hk,h.nw k hk,BH.2 zO,BH.2 zO,A5 h3]
 simp only[Bool.true_and,Bool.and_true]
 refine zm.2 fun j hj=>?_
 rw[List.mem_range]at hj
 have h5:=EY hj;have h6:=DB hj
 unfold MF
 rw[BH.2 zO,BH.2 zO,A5 zO,A5 zO,h.wf k hk j hj]
 rfl
structure Pu (p:List Fn)(vars:Int)(pl:Bool)(xs:List Ex)(i:Nat):Prop where
 len:xs.length=i
 wf:∀j,j<i→wf p ((p.length:Nat):Int) (xs.getD j Ex.zero) vars=true
 dp:Ex.deeps xs≤6
 sz:Ex.sizes xs≤i*117
 pl:pl=true→Pt xs=true
theorem Pu.nil (p:List Fn)(vars:Int)(pl:Bool):Pu p vars pl [] 0:=⟨rfl,fun j hj=>by omega,by rw[Ex.deeps];omega,by rw[Ex.sizes];omega,fun _=>by rw[Pt]⟩
theorem Pu.snoc {p:List Fn}{funcs vars:Int}{pl:Bool}{xs:List Ex}{i d:Nat}{l0 l1:Int}{x:Ex}(h:Pu p vars pl xs i)(hf:funcs=((p.length:Nat):Int))(hd:d≤5)(hl:l0≤30)(hx:Om p funcs vars pl d l0 l1 x):Pu p vars pl (xs++[x]) (i+1):=by
 have hlen:=h.len
 subst hf
 refine⟨by simp[hlen],fun j hj=>?_,?_,?_,fun hp=>?_⟩
 ·by_cases e:j=i
  ·subst e
   rw[Gp hlen.symm];exact hx.wf
  ·rw[Gn (by omega)];exact h.wf j zO
 ·have h1:=h.dp;have h2:=hx.dp
  rw[J5];omega
 ·have h1:=h.sz;have h2:=hx.sz
  rw[J4];omega
 ·rw[OL,h.pl hp,hx.pl hp];rfl
def Dn (p:List Fn):Prop:=∀k,k<p.length→∃s∈MH,(p.getD k Fn.zero).name=s++JC k
theorem Dn.nil:Dn []:=fun k hk=>by simp at hk
theorem Dn.snoc {p:List Fn}{f:Fn}{s:ByteArray}(h:Dn p)(hs:s∈MH)(hf:f.name=s++JC p.length):Dn (p++[f]):=fun k hk=>by
 rw[z4,zd]at hk
 by_cases e:k<p.length
 ·rw[Gn e];exact h k e
 ·rw[Gp zO,show k=p.length from by omega];exact⟨s,hs,hf⟩
theorem Pu.fn {p:List Fn}{pl:Bool}{f:Fn}{s:ByteArray}{i:Nat}(h:LG p pl)(hd:Dn p)(hl:p.length≤9)(hp:1≤f.params∧f.params≤3)(hi:1≤i∧i≤3)(ho:Pu p f.params pl f.outs i)
  (hs:s∈MH) (hf:f.name=s++JC p.length):LG (p++[f]) pl∧Dn (p++[f]) :=
 ⟨h.snoc zO hp (by rw[ho.len];exact hi) (fun j hj=>ho.wf j (by rw[← ho.len];exact hj)) ho.dp (by have:=ho.sz;omega) ho.pl (by rw[hf];exact Vs s hs ⟨p.length,zO⟩) (fun k hk=>by
  obtain⟨t,ht,e⟩:=hd k hk
  rw[e,hf]
  exact Vt t ht s hs ⟨k,zO⟩ ⟨p.length,zO⟩ (by show k≠p.length;omega)),hd.snoc hs hf⟩
theorem Ta {x:ByteArray}(h:Value.string x∈[Value.string ⟨#[102]⟩,.string ⟨#[103]⟩,.string ⟨#[115,116,101,112]⟩,.string ⟨#[104,50]⟩]):x∈MH:=by
 simp only[ze,z2,or_false,Value.string.injEq]at h
 rcases h with h|h|h|h <;> subst h <;> simp[MH]
theorem eI:I6 5=47770:=by decide
theorem eJ:MG 5=1365:=by decide
theorem eK:I6 4=11930:=by decide
theorem eL:MG 4=341:=by decide
theorem Tb (e:TypeId):∀ {d:Nat}{H:Array Obj}{cs:List Value}{x:Ex}{F:List Nat},Ga e d H cs x F→Ga e (d+1) H cs x F
 |0,_,_,_,_,h=>h.elim
 |d+1,_,_,_,_,⟨v,h1,h2,h3⟩=>⟨v,h1,h2,h3.imp fun h=>Tb e h⟩
theorem YW (e:TypeId){d:Nat}{H:Array Obj}{cs:List Value}{x:Ex}{F:List Nat}(h:Ga e d H cs x F):∀ {d':Nat},d≤d'→Ga e d' H cs x F:=by
 intro d' hd
 induction hd with
 |refl=>exact h
 |step _ ih=>exact Tb e ih
theorem Gg.le {e:TypeId}{d d' B U:Nat}{H:Array Obj}{cs:List Value}{x:Ex}(h:Gg (Ga e d) B U H cs x)(hd:d≤d'):Gg (Ga e d') B U H cs x:=by
 obtain⟨G,h1,h2,h3⟩:=h
 exact⟨G,YW e h1 hd,h2,h3⟩
theorem Om.npl {p:List Fn}{funcs vars l0 l1:Int}{ex:Ex}{pl:Bool}{d:Nat}(h:Om p funcs vars pl d l0 l1 ex):Om p funcs vars false d l0 l1 ex:=⟨h.wf,h.sz,h.dp,fun h=>absurd h (by decide),h.lo⟩
theorem LG.npl {p:List Fn}{pl:Bool}(h:LG p pl):LG p false:=⟨h.len,h.par,h.outs,h.wf,h.dp,h.sz,fun h=>absurd h (by decide),h.nm,h.nw⟩
section res
variable {P:Program} {N:Nat} {ρ:Nat→Value} {w:World}
theorem Tc:∀(l:List Nat),(((l.map ResultVar.tmp).mapM (m:=Sem) fun
  |.tmp t=>pure ((mk N ρ).tmps.getD t undef)
  |.cell a t=>do loadVar t (← asAddr ((mk N ρ).tmps.getD a undef)))).run P w=.ok (l.map fun t=>Bw N ρ (.tmp t)) w:=by
 intro l
 induction l with
 |nil=>rfl
 |cons t l ih =>
  simp only[zf,List.mapM_cons,Sem.run_bind,Sem.run_pure,Result.andThen_ok,L5]at ih ⊢
  rw[ih]
  rfl
theorem BV {fn:Func}{R:Ending→World→Prop}{k s b t0:Nat}{ts:List Nat}{ty:TypeId}{cs:List Value}(vs:List Value)(hr:fn.results=(ResultVar.cell k ty::((t0::ts).map ResultVar.tmp)).toArray)(ha:EX P ty s=true)(hv:Bw N ρ (.tmp k)=.pointer (some ⟨b,0,none⟩))(hb:BX w.heap b cs)(hl:cs.length=s)
  (hvs:((t0::ts).map fun t=>Bw N ρ (.tmp t))=vs) (h:R (.returned (.tuple (.agg cs.toArray::vs).toArray)) w):bodyPost P fn R .ret (mk N ρ) w:=by
 subst hvs
 refine⟨rfl,_,?_,h⟩
 have hld:=JK (P:=P) ha (LD.of_box hb) hl
 have hg:(mk N ρ).tmps.getD k undef=.pointer (some ⟨b,0,none⟩):=by rw[L5,hv]
 have hi:(asAddr (.pointer (some ⟨b,0,none⟩))).run P w=.ok ⟨b,0,none⟩ w:=rfl
 have key:=Tc (P:=P) (N:=N) (ρ:=ρ) (w:=w) (t0::ts)
 unfold results
 rw[hr]
 simp only[List.mapM_toArray,Sem.run_bind,Sem.run_map]
 have hfull:(((ResultVar.cell k ty::((t0::ts).map ResultVar.tmp)).mapM (m:=Sem) fun
  |.tmp t=>pure ((mk N ρ).tmps.getD t undef)
  |.cell a t=>do loadVar t (← asAddr ((mk N ρ).tmps.getD a undef)))).run P w=.ok (.agg cs.toArray::((t0::ts).map fun t=>Bw N ρ (.tmp t))) w:=by
  rw[List.mapM_cons]
  simp only[Sem.run_bind,Sem.run_pure,hg,hi,hld,Result.andThen_ok]
  rw[key]
  rfl
 refine (congrArg (fun r=>(Result.andThen (Result.andThen r fun a w'=>Result.ok a.toArray w') fun a w'=>Result.ok (if h:a.size=1 then a[0]else Value.tuple a) w')) hfull).trans ?_
 simp only[Result.andThen_ok]
 rfl
end res
end
section
set_option linter.unusedSectionVars false
namespace Jx
section
variable [J:JR] {P:Program} {ops:Array Oper} {md:Region.Mode} {kd bs:Nat→Nat} {w0:World} {Q:Act→World→Prop}
theorem Lf {Q':Act→World→Prop}(h:∀a w,Q a w→Q' a w):∀(l:List Nat)(a:Act)(w:World),LI P ops kd w0 Q l a w→LI P ops kd w0 Q' l a w
 |[],a,w,hh=>h a w hh
 |i::l,a,w,hh=>by
  simp only[LI]at hh ⊢
  cases hoi:ops[i]? with
  |none=>rw[hoi]at hh;exact hh.elim
  |some o =>
   rw[hoi]at hh
   simp only at hh ⊢
   split
   ·rename_i hw
    rw[if_pos hw]at hh
    exact hh.mono fun a w=>Lf h l a w
   ·rename_i hw
    rw[if_neg hw]at hh
    exact Lf h l _ _ hh
theorem LH (s:List Nat):∀(l:List Nat)(a:Act)(w:World),LI P ops kd w0 (LI P ops kd w0 Q s) l a w→LI P ops kd w0 Q (l++s) a w
 |[],a,w,hh=>hh
 |i::l,a,w,hh=>by
  simp only[LI,List.cons_append]at hh ⊢
  cases hoi:ops[i]? with
  |none=>rw[hoi]at hh;exact hh.elim
  |some o =>
   rw[hoi]at hh
   simp only at hh ⊢
   split
   ·rename_i hw
    rw[if_pos hw]at hh
    exact hh.mono fun a w=>LH s l a w
   ·rename_i hw
    rw[if_neg hw]at hh
    exact LH s l _ _ hh
theorem E8 {Q':Act→World→Prop}(hQ:∀a w,Q a w→Q' a w):∀(l:List Nat)(os:List Oper)(ks:List Nat)(a:Act)(w:World),Mt ops kd l os ks→LW P ops w0 Q os ks a w→LI P ops kd w0 Q' l a w
 |[],[],_,a,w,_,h=>by simpa [LI]using hQ a w (by simpa [LW]using h)
 |x::l,o::os,k::ks,a,w,⟨h0,hk,hM⟩,h=>by
  have hr:∀a w,LW P ops w0 Q os ks a w→LI P ops kd w0 Q' l a w:=fun a w hh=>E8 hQ l os ks a w hM hh
  simp only[LI,h0,LW]at h ⊢
  split
  ·rename_i hw
   rw[if_pos hw]at h
   rw[hk]
   exact h.mono hr
  ·rename_i hw
   rw[if_neg hw]at h
   exact hr _ _ h
 |[],_::_,_,_,_,h,_=>h.elim
 |_::_,[],_,_,_,h,_=>h.elim
 |_::_,_::_,[],_,_,h,_=>h.elim
structure PM (ops:Array Oper)(kd bs:Nat→Nat)(w0:World)(L0 S:List Nat)(n:Nat)(l:List Nat)(listed:Array Bool)(w:World):Prop where
 sub:l.Sublist L0
 len:l.length+S.length=n
 mem:∀i,i∈l++S↔listed.getD i true=false
 sz:listed.size=ops.size
 clo:K9 bs listed
 inv:Or kd w0 w (l++S)
 nd:(l++S).Nodup
variable {L0:List Nat}
theorem Vx {l:List Nat}(hp:l.Pairwise (fun x y=>4≤kd x→kd y≠1)):Ot kd l:=by
 intro l1 i l2 hl hk j hj
 subst hl
 exact List.rel_of_pairwise_cons (List.pairwise_append.1 hp).2.1 hj hk
theorem LJ (hsel:∀(j:Nat)(o:Oper) cs b,ops[j]? = some o→o.op≠.select cs b)(hS:MU md ops bs)
  (hlex:∀j oj,ops[j]? = some oj→∀e∈oj.after,Region.binds md e=true→e.on<j) {s:List Nat} (hp:(L0++s).Pairwise (EC md ops kd bs)) (h14:(L0++s).Pairwise (fun x y=>4≤kd x→kd y≠1))
  (n:Nat) (l:List Nat) (listed:Array Bool) (a:Act) (w:World) (hC:PM ops kd bs w0 L0 s n l listed w) (h:LI P ops kd w0 (LI P ops kd w0 Q s) l a w):wpAny P md ops (NQ Q) n listed a w :=
 FF hsel hS hlex n (l++s) listed a w (by rw[z4];exact hC.len) (hp.sublist (List.Sublist.append_right hC.sub s)) hC.nd hC.sz hC.mem hC.clo
  (Vx (h14.sublist (List.Sublist.append_right hC.sub s))) hC.inv (LH s l a w h)
theorem Kj (hsel:∀ (j:Nat) (o:Oper) cs b,ops[j]? = some o→o.op≠.select cs b) (hS:MU md ops bs)
  (hlex:∀ j oj,ops[j]? = some oj→∀ e∈oj.after,Region.binds md e = true→e.on < j)
  {h1 h2:Nat} {S1 S2:List Nat} {Q1 Q2:Act→World→Prop} (hperm:(h1 :: S1).Perm (h2 :: S2)) (hk1:kd h1 = 3) (hk2:kd h2 = 3)
  (hl:∀ x∈L0,kd x≤2) (hL:L0.Pairwise (EC md ops kd bs)) (hf1:∀ x∈L0,EC md ops kd bs x h1) (hf2:∀ x∈L0,EC md ops kd bs x h2)
  (hz:∀ z∈S1,z = h2∨(bs z).testBit h1 = true∨(bs z).testBit h2 = true)
  (hord:(L0++h1 :: S1).Pairwise (fun x y=>∀ ox,ops[x]? = some ox→∀ e∈ox.after,Region.binds md e = true→e.on≠y))
  (rec1:∀ n l listed a w,PM ops kd bs w0 L0 S1 n l listed w→LI P ops kd w0 Q1 l a w→wpAny P md ops (NQ Q) n listed a w)
  (rec2:∀ n l listed a w,PM ops kd bs w0 L0 S2 n l listed w→LI P ops kd w0 Q2 l a w→wpAny P md ops (NQ Q) n listed a w) :
  ∀ (n:Nat) (l:List Nat) (listed:Array Bool) (a:Act) (w:World),PM ops kd bs w0 L0 (h1 :: S1) n l listed w→LI P ops kd w0 (fun a w=>LI P ops kd w0 Q1 [h1] a w∧LI P ops kd w0 Q2 [h2] a w) l a w→wpAny P md ops (NQ Q) n listed a w
 | 0,l,listed,a,w,hC,h=>by have:=hC.len; simp at this
 | n + 1,l,listed,a,w,hC,h=>by
  have hm2:∀ i,i∈l++h1 :: S1↔i∈l++h2 :: S2:=fun i=>by
   simp only [zi]; rw [hperm.mem_iff]
  have hun_of:∀ i∈l++h1 :: S1,listed.getD i true = false:=fun i hi=>(hC.mem i).1 hi
  -- a place that makes memory is taken
  have heavy:∀ (x:Nat) (T:List Nat) (Qx:Act→World→Prop),kd x = 3→(h1 :: S1).Perm (x :: T)→(∀ y∈L0,EC md ops kd bs y x)→LI P ops kd w0 Qx (l++[x]) a w →
    (∀ l' a' w' listed',PM ops kd bs w0 L0 T n l' listed' w'→LI P ops kd w0 Qx l' a' w'→wpAny P md ops (NQ Q) n listed' a' w') →
    ∀ (ox:Oper),ops[x]? = some ox→(∀ e∈ox.after,Region.binds md e = true→listed.getD e.on false = true)→wpOp P ops (NQ Q) x (wpAny P md ops (NQ Q) n (listed.setIfInBounds x true)) a w:=by
   intro x T Qx hkx hpx hfx hLx hrec ox hox hall
   have hbits:=EL hS hC.clo hox hall
   have hxm:x∈l++h1 :: S1:=z1 _ (hpx.mem_iff.2 (z0 ..))
   have hxu:=hun_of x hxm
   have hfree:=Gd (kd:=kd) (l1:=l) hox (fun y hy=>(hfx y<|hC.sub.subset hy).1) (fun y hy=>hun_of y<|z8 _ hy) hbits
   have hsz:=CZ hxu
   have hnd2:(l++x :: T).Nodup:=(List.Perm.append_left l hpx).nodup_iff.1 hC.nd
   have hxl:x∉l++T:=by
    have h1:=List.nodup_append.1 hnd2
    intro hmem
    rcases zi.1 hmem with hh | hh
    ·exact h1.2.2 x hh x (z0 ..) rfl
    ·exact (List.nodup_cons.1 h1.2.1).1 hh
   have hmT:∀ i,i∈l++x :: T↔listed.getD i true = false:=fun i=>by
    rw [← hC.mem i]; simp only [zi]; rw [hpx.mem_iff]
   have hcond:∀ w',(AD w w')→PM ops kd bs w0 L0 T n l (listed.setIfInBounds x true) w':=fun w' hE =>
    ⟨hC.sub,by have:=hC.len; have:=hpx.length_eq; simp at *; omega,Ip hmT hxl hsz,by simpa using hC.sz,H8 hC.clo hbits,
     fun ⟨j,hj,hkj⟩=>(hC.inv ⟨j,by
      rcases zi.1 hj with hh | hh
      ·exact z8 _ hh
      ·exact z1 _ (hpx.mem_iff.2 (z3 _ hh)),hkj⟩).trans hE,
     hnd2.sublist (List.Sublist.append_left (List.sublist_cons_self _ _) _)⟩
   obtain ⟨g1,g2⟩:=KE (Q:=Qx) hsel hox zO l [] a w hfree (by simpa using hLx)
   unfold wpOp
   rw [hox]
   by_cases hw:Region.wanted ox (yielded ops a.tmps) = true
   ·simp only [hw,if_true]
    exact .inl<|Oper.wp_mono (fun a' w' hK=>hrec l a' w' _ (hcond w'<|hK.1 hkx) (by simpa using hK.2))<|JE<|g1 hw
   ·simp only [hw,Bool.false_eq_true,if_false]
    exact hrec l _ w _ (hcond w<|AD.refl w) (by simpa using g2 (by simpa using hw))
  refine ⟨fun h0=>?_,fun i hi=>?_⟩
  ·exfalso
   have hready:∀ (x:Nat) (t:List Nat),l++h1 :: S1 = x :: t→False:=fun x t ht=>by
    have hs:(x :: t).Pairwise (fun x y=>∀ ox,ops[x]? = some ox→∀ e∈ox.after,Region.binds md e = true→e.on≠y):=ht ▸ hord.sublist (List.Sublist.append_right hC.sub _)
    have:=IW (md:=md) (i:=x) (l:=t) hC.sz (fun y=>ht ▸ hC.mem y) hlex (fun y hy ox hox=>(List.pairwise_cons.1 hs).1 y hy ox hox)
    rw [h0] at this
    cases this
   cases l with
   | nil=>exact hready _ _ rfl
   | cons x l=>exact hready x (l++h1 :: S1) rfl
  ·obtain ⟨hun,oi,hoi,hall⟩:=mem_ready.1 hi
   have hmem:=(hC.mem i).2 hun
   have hbits:=EL hS hC.clo hoi hall
   by_cases hil:i∈l
   ·obtain ⟨l1,l2,rfl⟩:=List.append_of_mem hil
    have hpi:∀ x∈l1,EC md ops kd bs x i:=fun x hx=>(List.pairwise_append.1 (hL.sublist hC.sub)).2.2 x hx i (z0 ..)
    have hfree:=Gd (kd:=kd) (l1:=l1) hoi (fun x hx=>(hpi x hx).1) (fun x hx=>hun_of x (by simp [hx])) hbits
    have hk:kd i≤2:=hl i (hC.sub.subset (by simp))
    have hsub0:(l1++l2).Sublist (l1++i :: l2):=List.Sublist.append_left (List.sublist_cons_self _ _) _
    have hnd1:(l1++i :: (l2++h1 :: S1)).Nodup:=by have:=hC.nd; rwa [List.append_assoc,List.cons_append] at this
    have hnot:i∉l1++(l2++h1 :: S1):=by
     have h1:=List.nodup_append.1 hnd1
     intro hmem
     rcases zi.1 hmem with hh | hh
     ·exact h1.2.2 i hh i (z0 ..) rfl
     ·exact (List.nodup_cons.1 h1.2.1).1 hh
    have hm1:∀ x,x∈l1++i :: (l2++h1 :: S1)↔listed.getD x true = false:=fun x=>by
     have:=hC.mem x; rwa [List.append_assoc,List.cons_append] at this
    have hcond:PM ops kd bs w0 L0 (h1 :: S1) n (l1++l2) (listed.setIfInBounds i true) w :=
     ⟨hsub0.trans hC.sub,by have:=hC.len; simp at *; omega,fun x=>by rw [List.append_assoc]; exact Ip hm1 hnot (CZ hun) x,by simpa using hC.sz,H8 hC.clo hbits,
      fun ⟨j,hj,hkj⟩=>hC.inv ⟨j,by
       rcases zi.1 hj with hh | hh
       ·exact z8 _<|hsub0.subset hh
       ·exact z1 _ hh,hkj⟩,
      hC.nd.sublist (List.Sublist.append_right hsub0 _)⟩
    obtain ⟨v,hv,hL'⟩:=IR hsel hoi hk l1 l2 a w hfree (fun h1=>hC.inv ⟨i,by simp,h1⟩) h
    unfold wpOp
    rw [hoi]
    have rec_:=fun a' hh=>Kj hsel hS hlex hperm hk1 hk2 hl hL hf1 hf2 hz hord rec1 rec2 n (l1++l2) (listed.setIfInBounds i true) a' w hcond hh
    rcases hv with ⟨hw,hy⟩ | ⟨hw,rfl⟩
    ·simp only [hw,if_true]
     exact .inl<|JF (hy w (Cl.self fun h1=>hC.inv ⟨i,by simp,h1⟩))<|rec_ _ hL'
    ·simp only [hw,Bool.false_eq_true,if_false]
     exact rec_ _ hL'
   ·have hiS:i∈h1 :: S1:=(zi.1 hmem).resolve_left hil
    have h12:i = h1∨i = h2:=by
     rcases ze.1 hiS with hh | hh
     ·exact .inl hh
     ·rcases hz i hh with hh | hh | hh
      ·exact .inr hh
      ·have q1:=hbits h1 hh
       have q2:=E0<|hun_of h1 (by simp)
       rw [q1] at q2; cases q2
      ·have q1:=hbits h2 hh
       have q2:=E0<|hun_of h2 ((hm2 h2).2 (by simp))
       rw [q1] at q2; cases q2
    rcases h12 with rfl | rfl
    ·exact heavy i S1 Q1 hk1 (List.Perm.refl _) hf1 (LH [i] l a w<|Lf (fun _ _ hh=>hh.1) l a w h) (fun l' a' w' li hc hh=>rec1 n l' li a' w' hc hh) oi hoi hall
    ·exact heavy i S2 Q2 hk2 hperm hf2 (LH [i] l a w<|Lf (fun _ _ hh=>hh.2) l a w h) (fun l' a' w' li hc hh=>rec2 n l' li a' w' hc hh) oi hoi hall
theorem NK (x:Nat)(l:List Nat)(a:Act)(w:World)(hh:LI P ops kd w0 Q (x::l) a w):LI P ops kd w0 (LI P ops kd w0 Q l) [x] a w:=by
 simp only[LI]at hh ⊢
 cases hoi:ops[x]? with
 |none=>rw[hoi]at hh;exact hh.elim
 |some o =>
  rw[hoi]at hh
  simp only at hh ⊢
  split
  ·rename_i hw
   rw[if_pos hw]at hh
   exact hh.mono fun a w h=>h
  ·rename_i hw
   rw[if_neg hw]at hh
   exact hh
end
def QS (ops:Array Oper)(x y:Nat):Bool:=match ops[x]? with|some ox=>ox.after.all fun e=>!Region.binds .any e || e.on != y|none=>true
def ZR (os:List Oper)(ks:List Nat)(L0:List Nat)(h1 g1:Nat)(r1:List Nat)(g2:Nat)(r2:List Nat)(h2:Nat)(r3:List Nat):Bool :=
  let ops:=os.toArray
  let b:=(Region.before ops).toList
  Region.noSelect ops &&
  (os.zipIdx.all fun(o,j) =>
    (o.after.all fun e=>!Region.binds .any e || decide (e.on<j)) &&
    (let m:=o.after.foldl (fun s e=>if Region.binds .any e then s ||| 2 ^ e.on ||| b.getD e.on 0 else s) 0
     (b.getD j 0 == m))) &&
  (decide (ks.getD h1 0=3) && (decide (ks.getD h2 0=3) && (decide (ks.getD g1 0=3) && decide (ks.getD g2 0=3)))) &&
  (L0.all fun x=>decide (ks.getD x 0≤2)) &&
  RS (HU ops ks b) L0 &&
  (L0.all fun x=>HU ops ks b x h1 && (HU ops ks b x h2 && (HU ops ks b x g1 && HU ops ks b x g2))) &&
  ((h1::g1::r1).isPerm (h2::r3) && (g1::r1).isPerm (g2::r2)) &&
  ((g1::r1).all fun z=>decide (z=h2) || ((b.getD z 0).testBit h1 || (b.getD z 0).testBit h2)) &&
  (r1.all fun z=>decide (z=g2) || ((b.getD z 0).testBit g1 || (b.getD z 0).testBit g2)) &&
  (RS (QS ops) (L0++h1::g1::r1)) &&
  (RS (HU ops ks b) (L0++r1) && (RS (HU ops ks b) (L0++r2) && RS (HU ops ks b) (L0++r3))) &&
  (RS (fun x y=>!(decide (4≤ks.getD x 0)) || ks.getD y 0 != 1) (L0++r1) && (RS (fun x y=>!(decide (4≤ks.getD x 0)) || ks.getD y 0 != 1) (L0++r2) && RS (fun x y=>!(decide (4≤ks.getD x 0)) || ks.getD y 0 != 1) (L0++r3))) &&
  (decide ((L0++h1::g1::r1).length=os.length) && (decide (L0++h1::g1::r1).Nodup && ((L0++h1::g1::r1).all (fun x=>decide (x<os.length)) && (List.range os.length).all fun x=>(L0++h1::g1::r1).contains x)))
section
variable [J:JR] {P:Program}
theorem ZS {id:Nat}{Q:Exit→Act→World→Prop}{a:Act}{w:World}(os:List Oper)(ks:List Nat)(L0:List Nat)(h1 g1:Nat)(r1:List Nat)(g2:Nat)(r2:List Nat)(h2:Nat)(r3:List Nat)
  (oL:List Oper) (kL:List Nat) (oh1 og1:Oper) (o1:List Oper) (k1:List Nat) (og2:Oper) (o2:List Oper) (k2:List Nat) (oh2:Oper) (o3:List Oper) (k3:List Nat) (hm:P.follows .mixedOrders=true) (hB:ZR os ks L0 h1 g1 r1 g2 r2 h2 r3=true)
  (hML:Mt os.toArray (fun i=>ks.getD i 0) L0 oL kL) (hMh:Mt os.toArray (fun i=>ks.getD i 0) [h1] [oh1] [3]) (hM1:Mt os.toArray (fun i=>ks.getD i 0) (g1::r1) (og1::o1) (3::k1)) (hM2:Mt os.toArray (fun i=>ks.getD i 0) (g2::r2) (og2::o2) (3::k2)) (hM3:Mt os.toArray (fun i=>ks.getD i 0) (h2::r3) (oh2::o3) (3::k3))
  (h:LW P os.toArray w.drew (fun a' w'=>LW P os.toArray w.drew (fun a'' w''=>LW P os.toArray w.drew (fun a w=>Q .normal a w) (og1::o1) (3::k1) a'' w''∧LW P os.toArray w.drew (fun a w=>Q .normal a w) (og2::o2) (3::k2) a'' w'') [oh1] [3] a' w' ∧
   LW P os.toArray w.drew (fun a w=>Q .normal a w) (oh2::o3) (3::k3) a' w') oL kL a w.drew):(Code.region id os.toArray true).wp P Q a w:=by
 refine wp_region_any hm ?_
 simp only[ZR,z7,decide_eq_true_eq]at hB
 obtain⟨⟨⟨⟨⟨⟨⟨⟨⟨⟨⟨⟨hsel,hpl⟩,hk1,hk2,hk3,hk4⟩,hl⟩,hpL⟩,hpx⟩,hpe1,hpe2⟩,hz1⟩,hz2⟩,hord⟩,hb1,hb2,hb3⟩,hn1,hn2,hn3⟩,hln,hnd,hlt,hct⟩:=hB
 have hz:∀ {j:Nat} {o:Oper},os.toArray[j]? = some o→(o,j)∈os.zipIdx:=by
  intro j o ho
  rw[List.mem_zipIdx_iff_getElem?]
  simpa using ho
 have hall:∀j oj,os.toArray[j]? = some oj→_:=fun j oj hj=>zm.1 hpl _ (hz hj)
 have hlex:∀j oj,os.toArray[j]? = some oj→∀e∈oj.after,Region.binds .any e=true→e.on<j:=by
  intro j oj hj e he hb
  have h1:=(z7 _ _ ▸ hall j oj hj:_∧_).1
  have h2:=(Array.all_eq_true_iff_forall_mem.1 h1) e he
  simpa [hb]using h2
 have hS:MU .any os.toArray (fun j=>(Region.before os.toArray).toList.getD j 0):=by
  intro j oj hj i hb
  have h3:=(z7 _ _ ▸ hall j oj hj:_∧_).2
  have h5:(Region.before os.toArray).toList.getD j 0=oj.after.foldl (fun s e=>if Region.binds .any e then s ||| 2 ^ e.on ||| (Region.before os.toArray).toList.getD e.on 0 else s) 0:=by simpa using h3
  dsimp only at hb
  rw[h5,← Array.foldl_toList]at hb
  rcases H9 _ _ _ _ hb with hb|⟨e,he,hbb,hh⟩
  ·simp at hb
  ·exact⟨e,Array.mem_toList_iff.1 he,hbb,hh⟩
 have hmem:∀x,x∈L0++h1::g1::r1↔x<os.length:=fun x=>by
  constructor
  ·intro hx;exact of_decide_eq_true (zm.1 hlt x hx)
  ·intro hx
   have:=zm.1 hct x (List.mem_range.2 hx)
   simpa using this
 have hse:=Region.noSelect_spec hsel
 have P2:∀ {l:List Nat},RS (HU os.toArray ks (Region.before os.toArray).toList) l=true→l.Pairwise (EC .any os.toArray (fun i=>ks.getD i 0) (fun j=>(Region.before os.toArray).toList.getD j 0)):=fun h=>JH (fun x y hh=>FH hh) h
 have N2:∀ {l:List Nat},RS (fun x y=>!(decide (4≤ks.getD x 0)) || ks.getD y 0 != 1) l=true→l.Pairwise (fun x y=>4≤ks.getD x 0→ks.getD y 0≠1):=fun h=>JH (fun x y hxy h4=>by
  rcases Bool.or_eq_true_iff.1 hxy with hh|hh
  ·simp only[Bool.not_eq_true',decide_eq_false_iff_not]at hh;exact absurd h4 hh
  ·simpa using hh) h
 have hL2:∀x∈L0,ks.getD x 0≤2:=fun x hx=>of_decide_eq_true (zm.1 hl x hx)
 have hx4:∀x∈L0,_:=fun x hx=>zm.1 hpx x hx
 simp only[z7]at hx4
 have hordP:(L0++h1::g1::r1).Pairwise (fun x y=>∀ox,os.toArray[x]? = some ox→∀e∈ox.after,Region.binds .any e=true→e.on≠y):=JH (fun x y hh ox hox e he hb=>by
  unfold QS at hh
  rw[hox]at hh
  have:=(Array.all_eq_true_iff_forall_mem.1 hh) e he
  simpa [hb]using this) hord
 have hord2:(L0++g1::r1).Pairwise (fun x y=>∀ox,os.toArray[x]? = some ox→∀e∈ox.after,Region.binds .any e=true→e.on≠y):=hordP.sublist (List.Sublist.append_left (List.sublist_cons_self _ _) _)
 have zz1:∀z∈g1::r1,z=h2∨((Region.before os.toArray).toList.getD z 0).testBit h1=true∨((Region.before os.toArray).toList.getD z 0).testBit h2=true:=fun z hz=>by
  have:=zm.1 hz1 z hz
  simpa only[Bool.or_eq_true,decide_eq_true_eq]using this
 have zz2:∀z∈r1,z=g2∨((Region.before os.toArray).toList.getD z 0).testBit g1=true∨((Region.before os.toArray).toList.getD z 0).testBit g2=true:=fun z hz=>by
  have:=zm.1 hz2 z hz
  simpa only[Bool.or_eq_true,decide_eq_true_eq]using this
 have base1:=LJ (P:=P) (w0:=w.drew) (Q:=fun a w=>Q .normal a w) hse hS hlex (P2 hb1)<|N2 hn1
 have base2:=LJ (P:=P) (w0:=w.drew) (Q:=fun a w=>Q .normal a w) hse hS hlex (P2 hb2)<|N2 hn2
 have base3:=LJ (P:=P) (w0:=w.drew) (Q:=fun a w=>Q .normal a w) hse hS hlex (P2 hb3)<|N2 hn3
 have inner:=Kj (P:=P) (w0:=w.drew) (Q:=fun a w=>Q .normal a w) hse hS hlex (h1:=g1) (h2:=g2) (S1:=r1) (S2:=r2) (List.isPerm_iff.1 hpe2) hk3 hk4 hL2 (P2 hpL) (fun x hx=>FH (hx4 x hx).2.2.1) (fun x hx=>FH (hx4 x hx).2.2.2) zz2 hord2 base1 base2
 have outer:=Kj (P:=P) (w0:=w.drew) (Q:=fun a w=>Q .normal a w) hse hS hlex (h1:=h1) (h2:=h2) (S1:=g1::r1) (S2:=r3) (List.isPerm_iff.1 hpe1) hk1 hk2 hL2 (P2 hpL) (fun x hx=>FH (hx4 x hx).1) (fun x hx=>FH (hx4 x hx).2.1) zz1 hordP inner base3
 have key:=outer os.length L0 (Array.replicate os.length false) a w.drew ⟨List.Sublist.refl _,by rw[← hln,z4],fun x=>?_,by simp,?_,fun _=>AD.refl _,hnd⟩ ?_
 ·have:=IX _ _ _ _ key
  simpa using this
 ·rw[hmem]
  constructor
  ·intro hx;simp[hx]
  ·intro hh
   rcases Nat.lt_or_ge x os.length with h'|h'
   ·exact h'
   ·simp[Array.getElem?_eq_none (show(Array.replicate os.length false).size≤x by simpa using h')]at hh
 ·intro i hi
  rcases Nat.lt_or_ge i os.length with h'|h'
  ·simp[h']at hi
  ·simp[Array.getElem?_eq_none (show(Array.replicate os.length false).size≤i by simpa using h')]at hi
 ·refine E8 (fun a w hh=>⟨?_,?_⟩) _ _ _ _ _ hML h
  ·exact E8 (fun a w hh=>⟨NK _ _ _ _<|E8 (fun _ _ h=>h) _ _ _ _ _ hM1 hh.1,NK _ _ _ _<|E8 (fun _ _ h=>h) _ _ _ _ _ hM2 hh.2⟩) _ _ _ _ _ hMh hh.1
  ·exact NK _ _ _ _<|E8 (fun _ _ h=>h) _ _ _ _ _ hM3 hh.2
theorem fI {ops:Array Oper}{w0:World}{Q:Act→World→Prop}{o:Oper}{os:List Oper}{ks:List Nat}{a:Act}{w:World}(h:_root_.Go.Proofs.YtbajepcpgncekaaGreat.LW P ops w0 (fun a' w'=>AD w w'∧LW P ops w0 Q os ks a' w') [o] [4] a w):LW P ops w0 Q (o::os) (3::ks) a w:=by
 simp only[_root_.Go.Proofs.YtbajepcpgncekaaGreat.LW]at h
 simp only[LW]
 split
 ·rename_i hw
  rw[if_pos hw]at h
  unfold _root_.Go.Proofs.YtbajepcpgncekaaGreat.BN at h
  unfold BN
  rw[if_neg (by decide),if_neg (by decide)]at h
  rw[if_neg (by decide),if_pos rfl]
  exact h
 ·rename_i hw
  rw[if_neg hw]at h
  exact h.2
theorem eM {ops:Array Oper}{w0:World}{Q:Act→World→Prop}{o:Oper}{os:List Oper}{ks:List Nat}{a:Act}{w:World}(h:_root_.Go.Proofs.YtbajepcpgncekaaGreat.LW P ops w0 (fun a' w'=>LW P ops w0 Q os ks a' w') [o] [3] a w):LW P ops w0 Q (o::os) (3::ks) a w:=by
 simp only[_root_.Go.Proofs.YtbajepcpgncekaaGreat.LW]at h
 simp only[LW]
 split
 ·rename_i hw
  rw[if_pos hw]at h
  unfold _root_.Go.Proofs.YtbajepcpgncekaaGreat.BN at h
  unfold BN
  rw[if_neg (by decide),if_pos rfl]at h
  rw[if_neg (by decide),if_pos rfl]
  exact Oper.wp_mono (fun a w hh=>⟨J.ext hh.1,hh.2⟩) h
 ·rename_i hw
  rw[if_neg hw]at h
  exact h
end
end Jx
end
section
structure AM where
 op:Int
 a:Int
 b:Int
 num:Int
def AM.zero:AM:=⟨0,0,0,0⟩
structure Jb where
 reg:Int
 z:Bool
def Jb.zero:Jb:=⟨0,false⟩
structure Tp where
 code:List AM
 grd:List Jb
 vals:List Int
def dV (x:AM):List Value:=[.int .i64 x.op,.int .i64 x.a,.int .i64 x.b,.int .i64 x.num]
def dW (x:Jb):List Value:=[.int .i64 x.reg,.bool x.z]
def Td (x:AM):Prop:=BG x.op∧BG x.a∧BG x.b∧BG x.num
def ON:BZ AM:=fun _ cs x F=>cs=dV x∧Td x∧F=[]
def OO:BZ Jb:=fun _ cs x F=>cs=dW x∧BG x.reg∧F=[]
theorem Be:Cx 4 ON where
 len:=fun h=>by rw[h.1];rfl
 one:=fun h u hu=>by
  rw[h.1]at hu
  simp only[dV,ze,z2,or_false]at hu
  rcases hu with rfl|rfl|rfl|rfl <;> exact⟨rfl,rfl⟩
 lt:=fun h b hb=>by rw[h.2.2]at hb;cases hb
 stable:=fun h _=>h
theorem Bj:Cx 2 OO where
 len:=fun h=>by rw[h.1];rfl
 one:=fun h u hu=>by
  rw[h.1]at hu
  simp only[dW,ze,z2,or_false]at hu
  rcases hu with rfl|rfl <;> exact⟨rfl,rfl⟩
 lt:=fun h b hb=>by rw[h.2.2]at hb;cases hb
 stable:=fun h _=>h
theorem Te {B U:Nat}{H:Array Obj}{x:AM}(h:Td x):Gg ON B U H (dV x) x:=⟨[],⟨rfl,h,rfl⟩,zk,fun b hb=>by cases hb⟩
theorem YX {B U:Nat}{H:Array Obj}{x:Jb}(h:BG x.reg):Gg OO B U H (dW x) x:=⟨[],⟨rfl,h,rfl⟩,zk,fun b hb=>by cases hb⟩
section ops
variable {P:Program} {ops:Array Oper} {w0:World} {Q:Act→World→Prop} {os:List Oper} {ks:List Nat} {N:Nat} {ρ:Nat→Value} {w:World}
 {d:Nat} {ty:TypeId} {pos:String} {aft:Array Edge} {g:Option (Nat×Bool)} {t e:TypeId} {z:Value} {b s:Nat}
theorem NL {α:Type}{E:BZ α}(hE:Cx s E){x y:Operand}{v a:Value}{xs:List α}{y0:α}{B T B' U':Nat}{F:List Nat}(ht:P.underlying t=some (.slice e))(hi:TI P e s z b)(hz:z.cells.size=s)(hs:0<s)(hx:Bw N ρ x=v)(hy:Bw N ρ y=a)(hv:Ow (CA s E e) B T w.heap v xs F)
  (ha:Fr (CA s E e) B' U' w.heap a [y0]) (hT:T≤B') (hB:B≤B') (hBw:B≤w.heap.size) (hbytes:(xs.length+1)*b≤140737488355328) (hmx:xs.length+1≤maxLen) (hu:Up ops N ρ ⟨some d,.call ⟨.builtin .append,#[x,y],#[t,t]⟩,ty,pos,aft,g⟩)
  (h:∀v1 w1 F1,Ax F w w1→Ow (CA s E e) B w1.heap.size w1.heap v1 (xs++[y0]) F1→(∀c∈F1,c∈F∨(B'≤c∧c<U')∨w.heap.size≤c)→LW P ops w0 Q os ks (mk N (CP ρ d v1)) w1) :
  LW P ops w0 Q (⟨some d,.call ⟨.builtin .append,#[x,y],#[t,t]⟩,ty,pos,aft,g⟩::os) (4::ks) (mk N ρ) w:=by
 obtain⟨v1,w1,F0,r1,⟨F1,r2,r3,r4⟩,r5,r6⟩:=JL (P:=P) (ty:=ty) hE ht hi hz hs (S:=fun b=>b∈F) (T:=fun b=>B'≤b∧b<U') ⟨F,hv.own,hv.nodup,fun _ h=>h⟩ ha (fun b h1 h2=>by have:=hv.high b h1;omega) hbytes hmx
 have hh:∀c∈F1,c∈F∨(B'≤c∧c<U')∨w.heap.size≤c:=fun c hc=>by
  rcases r4 c hc with h|h|h
  ·exact .inl h
  ·exact .inr<|.inl h
  ·exact .inr<|.inr<|Nat.le_of_eq h.symm
 exact IZ rfl hu v1 w1 (by simp only[execOp,resolve,invoke,builtin,zc,zf,zh,Sem.run_bind,Sem.run_pure,Result.andThen_ok,hx,hy,r1])
  (h v1 w1 F1 (r5.sub r6) ⟨r2,r3,fun c hc=>by
   rcases hh c hc with h|h|h
   ·exact hv.low c h
   ·omega
   ·omega,fun c hc=>(Ak hE).lt r2 c hc⟩ hh)
theorem LK {x y:Operand}{v a:Value}{xs ys:List Int}{B T:Nat}{F:List Nat}(ht:P.underlying t=some (.slice e))(hi:TI P e 1 z b)(hz:z.cells=#[z])(hx:Bw N ρ x=v)(hy:Bw N ρ y=a)(hv:Ow (BA rI e) B T w.heap v xs F)
  (ha:Rd (Bd rI) w.heap a ys) (hB:B≤w.heap.size) (hbytes:(xs.length+ys.length)*b≤140737488355328) (hmx:xs.length+ys.length≤maxLen) (hu:Up ops N ρ ⟨some d,.call ⟨.builtin .append,#[x,y],#[t,t]⟩,ty,pos,aft,g⟩)
  (h:∀v1 w1 F1,Ax F w w1→Ow (BA rI e) B w1.heap.size w1.heap v1 (xs++ys) F1→(∀c∈F1,c∈F∨w.heap.size≤c)→LW P ops w0 Q os ks (mk N (CP ρ d v1)) w1) :
  LW P ops w0 Q (⟨some d,.call ⟨.builtin .append,#[x,y],#[t,t]⟩,ty,pos,aft,g⟩::os) (4::ks) (mk N ρ) w:=by
 obtain⟨G,g1⟩:=ha
 have hG:G.drop 1=[]:=by
  rcases g1 with⟨_,_,_,_,rfl⟩|⟨us,g,off,cap,cur,e',fr,G',hels,_,_,_,_,rfl⟩
  ·rfl
  ·exact J2 hels
 obtain⟨v',w',F',r1,r2,r3,r4,r5⟩:=JJ (P:=P) (ty:=ty) B1 ht hi hz hv.own hv.nodup g1 rfl hbytes hmx (fun c hc=>by rw[hG]at hc;cases hc) (by rw[hG];exact zk)
 have hh:∀c∈F',c∈F∨w.heap.size≤c:=fun c hc=>by
  rcases r4 c hc with h|h|h
  ·exact .inl h
  ·rw[hG]at h;cases h
  ·exact .inr<|Nat.le_of_eq h.symm
 exact IZ rfl hu v' w' (by simp only[execOp,resolve,invoke,builtin,zc,zf,zh,Sem.run_bind,Sem.run_pure,Result.andThen_ok,hx,hy,r1])
  (h v' w' F' (r5.sub fun c hc=>zj hc) ⟨r2,r3,fun c hc=>by
   rcases hh c hc with h|h
   ·exact hv.low c h
   ·omega,fun c hc=>(Bm B1).lt r2 c hc⟩ hh)
theorem Vy {x y:Operand} {v a u:Value} {xs:List Int} {r:Int} {S:List Nat} {B' U':Nat} (ht:P.underlying t = some (.slice e)) (hi:TI P e 1 z b) (hz:z.cells = #[z]) (hx:Bw N ρ x = Ea v) (hy:Bw N ρ y = a)
  (hv:RN S (Bd rI) w.heap v xs) (ha:Fr (BA rV e) B' U' w.heap a [u]) (hr:RN S rI w.heap u r) (hS:∀ c∈S,c < w.heap.size) (hbytes:(xs.length + 1) * b≤140737488355328) (hmx:xs.length + 1≤maxLen)
  (hu:Up ops N ρ ⟨some d,.call ⟨.builtin .append,#[x,y],#[t,t]⟩,ty,pos,aft,g⟩)
  (h:∀ v1 w1,AD w w1→RN S (Bd rI) w1.heap v1 (xs++[r])→Cs v1→LW P ops w0 Q os ks (mk N (CP ρ d v1)) w1) :
  LW P ops w0 Q (⟨some d,.call ⟨.builtin .append,#[x,y],#[t,t]⟩,ty,pos,aft,g⟩ :: os) (4 :: ks) (mk N ρ) w:=by
 obtain ⟨G,g1',g2',g3'⟩:=ha
 obtain ⟨K,k1,k2⟩:=hv
 obtain ⟨R,r1,r2⟩:=hr
 obtain ⟨i,h1,h2,h3,h4⟩:=hi.get
 subst h4
 have hone:=B1.one r1
 rcases g1' with ⟨_,hc,_⟩ | ⟨asq,ga,capa,cura,Fa,helsa,hav,hga,qa1,qa2,qa3,qa4,rfl⟩
 ·cases hc
 ·obtain ⟨hq,hFa⟩:=Fy helsa
  subst hq
  subst hav
  have hnews:∀ j q,[u][j]? = some q→w.cell? ((⟨ga,0,none⟩:Addr).add j) = some q:=by
   intro j q hj
   rw [FJ,BP]
   simp only [C5,hga]
   rw [← qa4,List.getElem?_take] at hj
   split at hj
   ·simpa using hj
   ·cases hj
  have made:∀ (w1:World) (ous:List Value) (K0:List Nat) (rest:Nat),w1.heap = w.heap→w1.os = w.os→w1.tape = w.tape→w1.output = w.output→els rI w.heap ous xs K0→(∀ c∈K0,c∈K)→xs.length + 1 + rest≤maxLen →
    AD w (w1.alloc (.cells (ous.toArray++[u].toArray++Builtin.zeroCells z.cells rest) e))∧RN S (Bd rI) (w1.alloc (.cells (ous.toArray++[u].toArray++Builtin.zeroCells z.cells rest) e)).heap (.slice (some ⟨w.heap.size,0,none⟩) (xs.length + 1) (xs.length + 1 + rest)) (xs++[r]):=by
   intro w1 ous K0 rest hh ho htp hop hou hsub hmax
   have hE:AD w (w1.alloc (.cells (ous.toArray++[u].toArray++Builtin.zeroCells z.cells rest) e)):=by
    refine ⟨ho,htp,hop,?_,fun k hk=>?_⟩
    ·show w.heap.size≤(w1.heap.push _).size
     rw [hh]; simp
    ·have:=Below.heap_alloc w1 (.cells (ous.toArray++[u].toArray++Builtin.zeroCells z.cells rest) e) k (by rw [hh]; exact hk)
     rw [this,hh]
   refine ⟨hE,w.heap.size :: (K0++R),.inr ⟨ous++[u],w.heap.size,0,xs.length + 1 + rest,(ous.toArray++[u].toArray++Builtin.zeroCells z.cells rest),e,(0,0),K0++R,?_,by simp,?_,?_,by simp; omega,rfl⟩,?_⟩
   ·refine els.stable B1 (hou.append (show els rI w.heap [u] [r] R from ⟨R,[],by simp,r1,rfl⟩)) fun c hc=>hE.heap ?_
    exact (hou.append (show els rI w.heap [u] [r] R from ⟨R,[],by simp,r1,rfl⟩)).lt B1 c hc
   ·have:=heap_alloc_new w1 (.cells (ous.toArray++[u].toArray++Builtin.zeroCells z.cells rest) e)
    rw [hh] at this; exact this
   ·have hl:=hou.length
    simp only [Array.toList_append,List.drop_zero]
    rw [show (xs++[r]).length = (ous++[u]).length from by simp [hl]]
    exact List.take_left
   ·intro c hc hm
    rcases ze.1 hc with rfl | hc
    ·have:=hS _ hm; omega
    ·rcases zi.1 hc with hc | hc
     ·exact k2 c (hsub c hc) hm
     ·exact r2 c hc hm
  have hone1:[u].length = [u].length * i.size:=by rw [h3,Nat.mul_one]
  rcases k1 with ⟨a0,cap0,rfl,rfl,rfl⟩ | ⟨ous,gv,off,cap,cur,e',fr,K',hels,rfl,hg,hw,_,rfl⟩
  ·-- nothing so far
   cases a0 with
   | none =>
    have hrr:=run_append_nil (P:=P) w t ty e i z ht h1 h2 ⟨ga,0,none⟩ 1 capa [u] hone1 hnews (by decide) (by decide) (by simp at hbytes; omega)
    have hge:=grownCap_ge w 1 0 e
    have hgm:=grownCap_le_maxLen w 1 0 e (by simpa using hmx)
    obtain ⟨q1,q2⟩:=made w.drew [] [] (grownCap w 1 0 e - 1) rfl rfl rfl rfl rfl (fun c hc=>by cases hc) (by simp; omega)
    refine IZ rfl hu _ _ (by simp only [execOp,resolve,invoke,builtin,zc,zf,zh,Sem.run_bind,Sem.run_pure,Result.andThen_ok,hx,hy,Ea]; rw [show [u].length = 1 from rfl,hrr]; rfl)<|h _ _ ?_ ?_ ?_
    ·simpa using q1
    ·have ea:(([]:List Int).length + 1 + (grownCap w 1 0 e - 1)) = grownCap w 1 0 e:=by simp; omega
     rw [ea] at q2
     simpa using q2
    ·exact hge
   | some a1 =>
    have hrr:=run_append_grow (P:=P) w t ty e i z ht h1 h2 a1 0 0 [] (by rw [h3]; rfl) (by intro j q hj; cases hj) ⟨ga,0,none⟩ 1 capa [u] hone1 hnews zO (by decide)<|growslice_fits zO (by simpa using hbytes)
    have hge:=grownCap_ge w (0 + 1) 0 e
    have hgm:=grownCap_le_maxLen w (0 + 1) 0 e (by simpa using hmx)
    obtain ⟨q1,q2⟩:=made w.drew [] [] (grownCap w (0 + 1) 0 e - (0 + 1)) rfl rfl rfl rfl rfl (fun c hc=>by cases hc) (by show 0 + 1 + (grownCap w (0 + 1) 0 e - (0 + 1))≤maxLen; omega)
    refine IZ rfl hu _ _ (by simp only [execOp,resolve,invoke,builtin,zc,zf,zh,Sem.run_bind,Sem.run_pure,Result.andThen_ok,hx,hy,Ea]; rw [show [u].length = 1 from rfl,hrr]; rfl)<|h _ _ q1 ?_ ?_
    rotate_left
    ·exact hge
    have ea:(([]:List Int).length + 1 + (grownCap w (0 + 1) 0 e - (0 + 1))) = grownCap w (0 + 1) 0 e:=by show 0 + 1 + (grownCap w (0 + 1) 0 e - (0 + 1)) = _; omega
    rw [ea] at q2
    simpa using q2
  ·have holds:∀ j q,ous[j]? = some q→w.cell? ((⟨gv,off,none⟩:Addr).add j) = some q:=by
    intro j q hj
    rw [FJ,BP]
    simp only [C5,hg]
    rw [← hw,List.getElem?_take] at hj
    split at hj
    ·rw [List.getElem?_drop] at hj; simpa using hj
    ·cases hj
   have hrr:=run_append_grow (P:=P) w t ty e i z ht h1 h2 ⟨gv,off,none⟩ xs.length xs.length ous (by rw [h3,hels.length]; omega) holds ⟨ga,0,none⟩ 1 capa [u] hone1 hnews zO (by simp only [maxLen] at hmx; omega)<|growslice_fits zO hbytes
   have hge:=grownCap_ge w (xs.length + 1) xs.length e
   have hgm:=grownCap_le_maxLen w (xs.length + 1) xs.length e hmx
   obtain ⟨q1,q2⟩:=made w.drew ous K' (grownCap w (xs.length + 1) xs.length e - (xs.length + 1)) rfl rfl rfl rfl hels (fun c hc=>z3 _ hc) zO
   refine IZ rfl hu _ _ (by simp only [execOp,resolve,invoke,builtin,zc,zf,zh,Sem.run_bind,Sem.run_pure,Result.andThen_ok,hx,hy,Ea]; rw [show [u].length = 1 from rfl,hrr]; rfl)<|h _ _ q1 ?_ ?_
   rotate_left
   ·exact hge
   have ea:(xs.length + 1 + (grownCap w (xs.length + 1) xs.length e - (xs.length + 1))) = grownCap w (xs.length + 1) xs.length e:=by omega
   rw [ea] at q2
   exact q2
end ops
def CI (t1 t2 t3:TypeId)(S:List Nat)(g:Nat)(H:Array Obj)(vc vg vv:Value)(T:Tp):Prop :=
 ∃Fc Fg Fv,Ow (CA 4 ON t1) 0 H.size H vc T.code Fc∧Ow (CA 2 OO t2) 0 H.size H vg T.grd Fg∧Ow (BA rI t3) 0 H.size H vv T.vals Fv ∧
  ((∀b∈Fc,b∉Fg)∧(∀b∈Fc,b∉Fv)∧(∀b∈Fg,b∉Fv))∧(g∉Fc∧g∉Fg∧g∉Fv)∧(∀b∈Fc,b∈S)∧(∀b∈Fg,b∈S)∧(∀b∈Fv,b∈S)
section rcm
variable {t1 t2 t3:TypeId} {S S':List Nat} {g:Nat} {w w':World} {vc vg vv:Value} {T:Tp}
theorem Ow.chgS {α:Type}{E:Bu α}(hE:C9 E){B:Nat}{v:Value}{x:α}{F G:List Nat}(h:Ow E B w.heap.size w.heap v x F)(c:Ax G w w')(hG:∀b∈G,b∉F):Ow E B w'.heap.size w'.heap v x F:=(h.keep hE c hG).up c.size
theorem CI.ext (h:CI t1 t2 t3 S g w.heap vc vg vv T)(k:AD w w'):CI t1 t2 t3 S g w'.heap vc vg vv T:=by
 obtain⟨Fc,Fg,Fv,h1,h2,h3,h4⟩:=h
 exact⟨Fc,Fg,Fv,(h1.ext (Ak Be) k).up k.size,(h2.ext (Ak Bj) k).up k.size,(h3.ext (Bm B1) k).up k.size,h4⟩
theorem CI.chg (h:CI t1 t2 t3 S g w.heap vc vg vv T)(k:Ax [g] w w'):CI t1 t2 t3 S g w'.heap vc vg vv T:=by
 obtain⟨Fc,Fg,Fv,h1,h2,h3,h4,h5,h6⟩:=h
 exact⟨Fc,Fg,Fv,h1.chgS (Ak Be) k fun b hb hm=>by rw[A9 hb]at hm;exact h5.1 hm,h2.chgS (Ak Bj) k fun b hb hm=>by rw[A9 hb]at hm;exact h5.2.1 hm,
  h3.chgS (Bm B1) k fun b hb hm=>by rw[A9 hb]at hm;exact h5.2.2 hm,h4,h5,h6⟩
theorem CI.chgO {F:List Nat}(h:CI t1 t2 t3 S g w.heap vc vg vv T)(k:Ax F w w')(hF:∀b∈F,b∉S):CI t1 t2 t3 S g w'.heap vc vg vv T:=by
 obtain⟨Fc,Fg,Fv,h1,h2,h3,h4,h5,h6⟩:=h
 exact⟨Fc,Fg,Fv,h1.chgS (Ak Be) k fun b hb hm=>hF b hb (h6.1 b hm),h2.chgS (Ak Bj) k fun b hb hm=>hF b hb (h6.2.1 b hm),
  h3.chgS (Bm B1) k fun b hb hm=>hF b hb (h6.2.2 b hm),h4,h5,h6⟩
theorem CI.rdv (h:CI t1 t2 t3 S g w.heap vc vg vv T):Rd (Bd rI) w.heap vv T.vals:=by
 obtain⟨Fc,Fg,Fv,h1,h2,h3,_⟩:=h
 exact h3.fr.rd1
theorem CI.slv (h:CI t1 t2 t3 S g w.heap vc vg vv T):Fx vv T.vals.length:=by
 obtain⟨Fc,Fg,Fv,h1,h2,h3,_⟩:=h
 exact h3.fr.isSl
theorem CI.slc (h:CI t1 t2 t3 S g w.heap vc vg vv T):Fx vc T.code.length:=by
 obtain⟨Fc,Fg,Fv,h1,h2,h3,_⟩:=h
 exact h1.own.isSl
theorem CI.slg (h:CI t1 t2 t3 S g w.heap vc vg vv T):Fx vg T.grd.length:=by
 obtain⟨Fc,Fg,Fv,h1,h2,h3,_⟩:=h
 exact h2.own.isSl
end rcm
def Sh (t1 t2 t3:TypeId)(S:List Nat)(g:Nat)(H:Array Obj)(vp:Value)(ip:Int)(T:Tp)(s:Nat)(c:Int):Prop :=
 ∃vc vg vv,BX H g [vp,.int .i64 ip,vc,vg,.slice none 0 0,vv,.int .i64 ((s:Nat):Int),.int .i64 c]∧CI t1 t2 t3 S g H vc vg vv T
theorem RN.stp {α:Type}{E:Bu α}(hE:C9 E){S S':List Nat}{w w':World}{v:Value}{x:α}(h:RN S E w.heap v x)(c:Ax S w w')(hs:∀b∈S',b∈S∨w.heap.size≤b):RN S' E w'.heap v x:=by
 obtain⟨F,h1,h2⟩:=h
 refine⟨F,hE.stable h1 fun b hb=>c.block b (hE.lt h1 b hb) (h2 b hb),fun b hb hm=>?_⟩
 rcases hs b hm with hh|hh
 ·exact h2 b hb hh
 ·have:=hE.lt h1 b hb;omega
theorem Ax.stp {S S':List Nat}{a b c:World}(h:Ax S a b)(k:Ax S' b c)(hs:∀x∈S',x∈S∨a.heap.size≤x):Ax S a c :=
 ⟨k.os.trans h.os,k.tape.trans h.tape,k.output.trans h.output,A8 h.size k.size,fun i hi hm=>(k.block i (Nat.lt_of_lt_of_le hi h.size) fun hh=>by
  rcases hs i hh with h9|h9
  ·exact hm h9
  ·omega).trans (h.block i hi hm)⟩
theorem PN {S S' S'':List Nat}{n m:Nat}(h:∀b∈S',b∈S∨n≤b)(k:∀b∈S'',b∈S'∨m≤b)(hn:n≤m):∀b∈S'',b∈S∨n≤b:=fun b hb=>by
 rcases k b hb with hh|hh
 ·exact h b hh
 ·exact .inr zO
end
section
def Tp.put (T:Tp)(c:AM)(v:Int):Tp:=⟨T.code++[c],T.grd,T.vals++[v]⟩
def Tp.guard (T:Tp)(r:Int)(z:Bool):Tp:=⟨T.code,T.grd++[⟨r,z⟩],T.vals⟩
def Tp.at (T:Tp)(r:Int):Int:=T.vals.getD r.toNat 0
abbrev RI:=Int×Tp
abbrev RL:=List Int×Tp
structure Cg where
 one:Nat→Nat→List Int→Nat→Tp→Rs RI
 all:Nat→List Int→Nat→Tp→Rs RL
def Jc (f:List Int→Nat→Tp→Rs RL):Nat→List Int→Nat→Tp→Rs RL
 |0,a,s,T=>.ok (a,T) s
 |k+1,a,s,T=>(Jc f k a s T).bind fun x t=>f x.1 t x.2
def HN (k x y:Int):Int:=if k=3 then md (x+y)else if k=4 then md (x-y)else if k=5 then md (x*y)else if k=7 then md (0-x)else md (x*inv y)
def Kk (k:Int)(xs:List Int):AM:=⟨k,xs.getD 0 0,if k=7 then 0 else xs.getD 1 0,0⟩
def Tf (k:Int)(xs:List Int)(t:Nat)(T:Tp):Rs RI :=
 if k≠3∧k≠4∧k≠5∧k≠7∧T.at (Kk k xs).b=0 then .err 6
 else .ok (((T.vals.length:Nat):Int),T.put (Kk k xs) (HN k (T.at (Kk k xs).a) (T.at (Kk k xs).b))) t
mutual
def HA (C:Cg):Ex→List Int→Nat→Tp→Rs RI
 |.mk k num pick cnt l,env,s,T =>
  if 3000≤s then .err 7
  else if k=1 then .ok (((T.vals.length:Nat):Int),T.put ⟨2,0,0,num⟩ num) (s+1)
  else if k=2 then .ok (env.getD num.toNat 0,T) (s+1)
  else if k=8 then(PO C l 0 env (s+1) T).bind fun x t=>if x.2.at x.1=0 then PO C l 1 env t (x.2.guard x.1 true)else PO C l 2 env t (x.2.guard x.1 false)
  else if k=9 then(PO C l 0 env (s+1) T).bind fun x t=>PO C l 1 (env++[x.1]) t x.2
  else(Is C l env (s+1) T).bind fun xs t =>
   if k=10 then C.one num.toNat pick.toNat xs.1 t xs.2
   else if k=11 then(Jc (C.all num.toNat) cnt.toNat xs.1 t xs.2).bind fun ys u=>.ok (ys.1.getD pick.toNat 0,ys.2) u
   else Tf k xs.1 t xs.2
def PO (C:Cg):List Ex→Nat→List Int→Nat→Tp→Rs RI
 |[],_,_,_,_=>.err 0
 |e::_,0,env,s,T=>HA C e env s T
 |_::l,j+1,env,s,T=>PO C l j env s T
def Is (C:Cg):List Ex→List Int→Nat→Tp→Rs RL
 |[],_,s,T=>.ok ([],T) s
 |e::l,env,s,T=>(HA C e env s T).bind fun x t=>(Is C l env t x.2).bind fun xs u=>.ok (x.1::xs.1,xs.2) u
end
theorem FR (C:Cg)(env:List Int)(s:Nat)(T:Tp):∀(l:List Ex)(j:Nat),j<l.length→PO C l j env s T=HA C (l.getD j Ex.zero) env s T
 |[],j,h=>by simp at h
 |e::l,0,_=>by rw[PO];rfl
 |e::l,j+1,h=>by rw[PO,FR C env s T l j (by simpa using h)];simp
theorem OP (C:Cg)(env:List Int)(e:Ex):∀(l:List Ex)(s:Nat)(T:Tp),Is C (l++[e]) env s T=(Is C l env s T).bind fun xs t=>(HA C e env t xs.2).bind fun x u=>.ok (xs.1++[x.1],x.2) u
 |[],s,T=>by
  rw[zl,Is,Is]
  simp only[Rs.bind_ok]
  cases HA C e env s T <;> simp only[Rs.bind_ok,Rs.bind_err,Is] <;> rfl
 |a::l,s,T=>by
  rw[List.cons_append,Is,Is]
  cases HA C a env s T with
  |err c=>rfl
  |ok x t =>
   simp only[Rs.bind_ok]
   rw[OP C env e l t]
   simp only[Rs.bind_assoc]
   cases Is C l env t x.2 with
   |err c=>rfl
   |ok xs u =>
    simp only[Rs.bind_ok]
    cases HA C e env u xs.2 <;> rfl
theorem Tg {C:Cg}{env:List Int}{s:Nat}{T:Tp}{l:List Ex}{k:Nat}(hk:k<l.length):Is C (l.take (k+1)) env s T=(Is C (l.take k) env s T).bind fun xs t=>(HA C (l.getD k Ex.zero) env t xs.2).bind fun x u=>.ok (xs.1++[x.1],x.2) u:=by
 rw[List.take_succ_eq_append_getElem hk,OP]
 simp[hk]
theorem Hg (C:Cg)(e:Ex)(env:List Int)(s:Nat)(T:Tp):HA C e env s T =
  if 3000≤s then .err 7
  else if e.kind=1 then .ok (((T.vals.length:Nat):Int),T.put ⟨2,0,0,e.num⟩ e.num) (s+1)
  else if e.kind=2 then .ok (env.getD e.num.toNat 0,T) (s+1)
  else if e.kind=8 then(PO C e.kids 0 env (s+1) T).bind fun x t=>if x.2.at x.1=0 then PO C e.kids 1 env t (x.2.guard x.1 true)else PO C e.kids 2 env t (x.2.guard x.1 false)
  else if e.kind=9 then(PO C e.kids 0 env (s+1) T).bind fun x t=>PO C e.kids 1 (env++[x.1]) t x.2
  else(Is C e.kids env (s+1) T).bind fun xs t =>
   if e.kind=10 then C.one e.num.toNat e.pick.toNat xs.1 t xs.2
   else if e.kind=11 then(Jc (C.all e.num.toNat) e.count.toNat xs.1 t xs.2).bind fun ys u=>.ok (ys.1.getD e.pick.toNat 0,ys.2) u
   else Tf e.kind xs.1 t xs.2:=by cases e;rw[HA];rfl
def KU (p:List Fn):Nat→Cg
 |0=>⟨fun _ _ _ _ _=>.err 0,fun _ _ _ _=>.err 0⟩
 |k+1=>⟨fun f j a s T=>if f=k then HA (KU p k) ((p.getD k Fn.zero).outs.getD j Ex.zero) a s T else(KU p k).one f j a s T,
   fun f a s T=>if f=k then Is (KU p k) (p.getD k Fn.zero).outs a s T else(KU p k).all f a s T⟩
theorem QT {p:List Fn}{f j:Nat}{a:List Int}{s:Nat}{T:Tp}:∀ {F:Nat},f<F→(KU p F).one f j a s T=HA (KU p f) ((p.getD f Fn.zero).outs.getD j Ex.zero) a s T
 |0,h=>by omega
 |F+1,h=>by
  show(if f=F then _ else _)=_
  split
  ·rename_i e;rw[e]
  ·exact QT zO
theorem NM {p:List Fn}{f:Nat}{a:List Int}{s:Nat}{T:Tp}:∀ {F:Nat},f<F→(KU p F).all f a s T=Is (KU p f) (p.getD f Fn.zero).outs a s T
 |0,h=>by omega
 |F+1,h=>by
  show(if f=F then _ else _)=_
  split
  ·rename_i e;rw[e]
  ·exact NM zO
section
variable {C:Cg} {e:Ex} {env:List Int} {s s1 s2:Nat} {c c1 c2:Int} {T T1 T2:Tp} {x y:Int} {xs ys:List Int}
theorem Vz {α:Type}{r:Rs α}{x:α}(hc:c≠0):AN (go c r) x s c:=AN.mk_err (DE hc r) hc
theorem S5 {x:RI}(hc:c=0)(hs:s=3000):AN (go c (HA C e env s T)) x s1 7:=by
 subst hc;rw[CL,Hg,if_pos (by omega)];exact AN.mk_err rfl (by decide)
theorem YY (hc:c=0)(hs:s+1≤3000)(hk:e.kind=1):AN (go c (HA C e env s T)) (((T.vals.length:Nat):Int),T.put ⟨2,0,0,e.num⟩ e.num) (s+1) c:=by
 subst hc;rw[CL,Hg,if_neg zO,if_pos hk];exact AN.mk_ok rfl
theorem YZ (hc:c=0)(hs:s+1≤3000)(hk:e.kind=2):AN (go c (HA C e env s T)) (env.getD e.num.toNat 0,T) (s+1) c:=by
 subst hc;rw[CL,Hg,if_neg zO,if_neg zO,if_pos hk];exact AN.mk_ok rfl
theorem Z0 {z:RI}(hc:c=0)(hs:s+1≤3000)(hk:e.kind=8)(hl:e.kids.length=3)(h1:AN (go c (HA C (e.kids.getD 0 Ex.zero) env (s+1) T)) (x,T1) s1 c1)(hc1:c1≠0):AN (go c (HA C e env s T)) z s2 c1:=by
 subst hc
 rw[CL]at h1
 rw[CL,Hg,if_neg zO,if_neg zO,if_neg zO,if_pos hk,FR _ _ _ _ _ _ zO,h1.bindE hc1]
 exact AN.mk_err rfl hc1
theorem Z1 (hc:c=0)(hs:s+1≤3000)(hk:e.kind=8)(hl:e.kids.length=3)(h1:AN (go c (HA C (e.kids.getD 0 Ex.zero) env (s+1) T)) (x,T1) s1 c1)(hc1:c1=0)(hx:T1.at x=0)
  (h2:AN (go c1 (HA C (e.kids.getD 1 Ex.zero) env s1 (T1.guard x (decide (T1.at x=0))))) (y,T2) s2 c2):AN (go c (HA C e env s T)) (y,T2) s2 c2:=by
 subst hc;subst hc1
 rw[CL]at h1 h2
 rw[CL,Hg,if_neg zO,if_neg zO,if_neg zO,if_pos hk,FR _ _ _ _ _ _ zO,h1.bindO]
 dsimp only
 rw[A5 hx]at h2
 rw[if_pos hx,FR _ _ _ _ _ _ (by omega)];exact h2
theorem Z2 (hc:c=0)(hs:s+1≤3000)(hk:e.kind=8)(hl:e.kids.length=3)(h1:AN (go c (HA C (e.kids.getD 0 Ex.zero) env (s+1) T)) (x,T1) s1 c1)(hc1:c1=0)(hx:¬T1.at x=0)
  (h2:AN (go c1 (HA C (e.kids.getD 2 Ex.zero) env s1 (T1.guard x (decide (T1.at x=0))))) (y,T2) s2 c2):AN (go c (HA C e env s T)) (y,T2) s2 c2:=by
 subst hc;subst hc1
 rw[CL]at h1 h2
 rw[CL,Hg,if_neg zO,if_neg zO,if_neg zO,if_pos hk,FR _ _ _ _ _ _ zO,h1.bindO]
 dsimp only
 rw[A6 hx]at h2
 rw[if_neg hx,FR _ _ _ _ _ _ (by omega)];exact h2
theorem Z3 (hc:c=0)(hs:s+1≤3000)(hk:e.kind=9)(hl:e.kids.length=2)(h1:AN (go c (HA C (e.kids.getD 0 Ex.zero) env (s+1) T)) (x,T1) s1 c1)
  (h2:AN (go c1 (HA C (e.kids.getD 1 Ex.zero) (env++[x]) s1 T1)) (y,T2) s2 c2):AN (go c (HA C e env s T)) (y,T2) s2 c2:=by
 subst hc
 rw[CL,Hg,if_neg zO,if_neg zO,if_neg zO,if_neg zO,if_pos hk,FR _ _ _ _ _ _ (by omega)]
 rw[CL]at h1
 by_cases h0:c1=0
 ·subst h0;rw[h1.bindO,FR _ _ _ _ _ _ (by omega)];exact h2
 ·rw[h1.bindE h0];rw[DE h0]at h2;exact h2
theorem JP (hs:s+1≤3000)(h1:e.kind≠1)(h2:e.kind≠2)(h8:e.kind≠8)(h9:e.kind≠9):HA C e env s T=(Is C e.kids env (s+1) T).bind fun xs t =>
  if e.kind=10 then C.one e.num.toNat e.pick.toNat xs.1 t xs.2
   else if e.kind=11 then(Jc (C.all e.num.toNat) e.count.toNat xs.1 t xs.2).bind fun ys u=>.ok (ys.1.getD e.pick.toNat 0,ys.2) u
   else Tf e.kind xs.1 t xs.2:=by
 rw[Hg,if_neg zO,if_neg h1,if_neg h2,if_neg h8,if_neg h9]
theorem Th {z:RI}(hc:c=0)(hs:s+1≤3000)(h1:e.kind≠1)(h2:e.kind≠2)(h8:e.kind≠8)(h9:e.kind≠9)(hr:AN (go c (Is C e.kids env (s+1) T)) (xs,T1) s1 c1)(hc1:c1≠0):AN (go c (HA C e env s T)) z s2 c1:=by
 subst hc
 rw[CL]at hr ⊢
 rw[JP hs h1 h2 h8 h9,hr.bindE hc1];exact AN.mk_err rfl hc1
theorem VA {p:List Fn}{F:Nat}(hc:c=0)(hs:s+1≤3000)(hk:e.kind=10)(hF:e.num.toNat<F)(hr:AN (go c (Is (KU p F) e.kids env (s+1) T)) (xs,T1) s1 c1)(hc1:c1=0)
  (h2:AN (go c1 (HA (KU p e.num.toNat) ((p.getD e.num.toNat Fn.zero).outs.getD e.pick.toNat Ex.zero) xs s1 T1)) (y,T2) s2 c2):AN (go c (HA (KU p F) e env s T)) (y,T2) s2 c2:=by
 subst hc;subst hc1
 rw[CL]at hr h2 ⊢
 rw[JP hs zO zO zO zO,hr.bindO,if_pos hk,QT hF];exact h2
theorem VB {p:List Fn}{F:Nat}(hc:c=0)(hs:s+1≤3000)(hk:e.kind=11)(hF:e.num.toNat<F)(hr:AN (go c (Is (KU p F) e.kids env (s+1) T)) (xs,T1) s1 c1)(hc1:c1=0)
  (h2:AN (Jc (fun a t U=>Is (KU p e.num.toNat) (p.getD e.num.toNat Fn.zero).outs a t U) e.count.toNat xs s1 T1) (ys,T2) s2 c2):AN (go c (HA (KU p F) e env s T)) (ys.getD e.pick.toNat 0,T2) s2 c2:=by
 subst hc;subst hc1
 rw[CL]at hr ⊢
 rw[JP hs zO zO zO zO,hr.bindO,if_neg zO,if_pos hk]
 have hl:(KU p F).all e.num.toNat=fun a t U=>Is (KU p e.num.toNat) (p.getD e.num.toNat Fn.zero).outs a t U:=funext fun a=>funext fun t=>funext fun U=>NM hF
 rw[hl]
 by_cases h0:c2=0
 ·subst h0;rw[h2.bindO];exact AN.mk_ok rfl
 ·rw[h2.bindE h0];exact AN.mk_err rfl h0
theorem ZT {z:RI}(hc:c=0)(hs:s+1≤3000)(h1:e.kind≠1)(h2:e.kind≠2)(h8:e.kind≠8)(h9:e.kind≠9)(h10:e.kind≠10)(h11:e.kind≠11)(hr:AN (go c (Is C e.kids env (s+1) T)) (xs,T1) s1 c1)(hc1:c1=0)
  (h:AN (go c1 (Tf e.kind xs s1 T1)) z s2 c2):AN (go c (HA C e env s T)) z s2 c2:=by
 subst hc;subst hc1
 rw[CL]at hr h ⊢
 rw[JP hs h1 h2 h8 h9,hr.bindO,if_neg h10,if_neg h11];exact h
theorem Ti (C:Cg)(l:List Ex)(env:List Int)(s:Nat)(T:Tp)(c:Int):AN (go c (Is C (l.take 0) env s T)) ([],T) s c:=by
 rw[List.take_zero,Is]
 by_cases h:c=0
 ·subst h;exact AN.mk_ok rfl
 ·exact AN.mk_err (DE h _) h
theorem VC {l:List Ex}{k:Nat}(hk:k<l.length)(h:AN (go c (Is C (l.take k) env s T)) (xs,T1) s1 c1)(h2:AN (go c1 (HA C (l.getD k Ex.zero) env s1 T1)) (x,T2) s2 c2) :
  AN (go c (Is C (l.take (k+1)) env s T)) (xs++[x],T2) s2 c2:=by
 by_cases hc:c=0
 ·subst hc
  rw[CL]at h ⊢
  rw[Tg hk]
  by_cases h0:c1=0
  ·subst h0
   rw[CL]at h2
   rw[h.bindO]
   by_cases h9:c2=0
   ·subst h9;rw[h2.bindO];exact AN.mk_ok rfl
   ·rw[h2.bindE h9];exact AN.mk_err rfl h9
  ·rw[h.bindE h0]
   rw[DE h0]at h2
   have:=h2.1
   exact AN.mk_err (by rw[this]) (this ▸ h0)
 ·rw[DE hc]at h ⊢
  have h3:=h.1
  subst h3
  rw[DE hc]at h2
  exact AN.mk_err (by rw[h2.1]) (h2.1 ▸ hc)
theorem Z4 {f:List Int→Nat→Tp→Rs RL}{k:Nat}(h:AN (Jc f k xs s T) (ys,T1) s1 c1)(hc:c1=0){zs:RL}(h2:AN (go c1 (f ys s1 T1)) zs s2 c2):AN (Jc f (k+1) xs s T) zs s2 c2:=by
 subst hc
 show AN ((Jc f k xs s T).bind _) _ _ _
 rw[h.bindO];rw[CL]at h2;exact h2
theorem OQ {f:List Int→Nat→Tp→Rs RL}{d:Int}:∀ {m k:Nat},Jc f k xs s T=.err d→k≤m→Jc f m xs s T=.err d
 |0,k,h,hk=>by
  have:k=0:=by omega
  subst this;exact h
 |m+1,k,h,hk=>by
  by_cases e:k=m+1
  ·subst e;exact h
  ·show(Jc f m xs s T).bind _=_
   rw[OQ h (by omega)];rfl
theorem VD {f:List Int→Nat→Tp→Rs RL}{k m:Nat}{zs:RL}(h:AN (Jc f k xs s T) zs s1 c1)(hk:k≤m)(hs:k=m∨c1≠0):AN (Jc f m xs s T) zs s1 c1:=by
 by_cases hc:c1=0
 ·rcases hs with rfl|hh
  ·exact h
  ·exact absurd hc hh
 ·exact AN.mk_err (OQ (h.err hc) hk) hc
end
def Kl (T:Tp)(s:Nat):Prop:=T.code.length=T.vals.length∧T.vals.length≤12+s∧T.grd.length≤s∧Bb T.vals=true
theorem Kl.put {T:Tp}{s:Nat}(h:Kl T s)(c:AM){v:Int}(hv:0≤v∧v<1000003):Kl (T.put c v) (s+1):=by
 obtain⟨h1,h2,h3,h4⟩:=h
 unfold Tp.put
 refine⟨by simp[h1],by simp;omega,by simp;omega,?_⟩
 unfold Bb at h4 ⊢
 rw[List.all_append,h4]
 simp[CD.2 hv]
theorem Kl.guard {T:Tp}{s:Nat}(h:Kl T s)(r:Int)(z:Bool)(hg:T.grd.length+1≤s):Kl (T.guard r z) s:=by
 obtain⟨h1,h2,h3,h4⟩:=h
 exact⟨h1,h2,by show(T.grd++[_]).length≤s;simp;omega,h4⟩
theorem Kl.up {T:Tp}{s s':Nat}(h:Kl T s)(hs:s≤s'):Kl T s':=⟨h.1,by have:=h.2.1;omega,by have:=h.2.2.1;omega,h.2.2.2⟩
theorem Kl.dn {T:Tp}{s s':Nat}(h:Kl T s)(hv:T.vals.length≤12+s')(hg:T.grd.length≤s'):Kl T s':=⟨h.1,hv,hg,h.2.2.2⟩
theorem Kl.ln {T:Tp}{s:Nat}(h:Kl T s)(hs:s≤3000):T.code.length≤4000∧T.vals.length≤4000:=by have:=h.1;have:=h.2.1;omega
abbrev Ez (k b:Int):Prop:=k≠3∧k≠4∧k≠5∧k≠7∧b=0
section
variable {k a b:Int}
theorem Tj (h:k=3):(if Ez k b then 0 else HN k a b)=md (a+b)∧(!decide (Ez k b))=true:=by subst h;exact⟨rfl,rfl⟩
theorem Tk (h:k=4):(if Ez k b then 0 else HN k a b)=md (a-b)∧(!decide (Ez k b))=true:=by subst h;exact⟨rfl,rfl⟩
theorem Tl (h:k=5):(if Ez k b then 0 else HN k a b)=md (a*b)∧(!decide (Ez k b))=true:=by subst h;exact⟨rfl,rfl⟩
theorem Tm (h:k=7):(if Ez k b then 0 else HN k a b)=md (0-a)∧(!decide (Ez k b))=true:=by subst h;exact⟨rfl,rfl⟩
theorem QU (h:k≠3∧k≠4∧k≠5∧k≠7)(hb:b=0):(if Ez k b then 0 else HN k a b)=0∧(!decide (Ez k b))=false:=by
 have hz:Ez k b:=⟨h.1,h.2.1,h.2.2.1,h.2.2.2,hb⟩
 rw[if_pos hz,A5 hz];exact⟨rfl,rfl⟩
theorem Tn (h:k≠3∧k≠4∧k≠5∧k≠7)(hb:b≠0):(if Ez k b then 0 else HN k a b)=md (a*inv b)∧(!decide (Ez k b))=true:=by
 have hz:¬Ez k b:=fun h9=>hb h9.2.2.2.2
 rw[if_neg hz,A6 hz]
 refine⟨?_,rfl⟩
 unfold HN
 rw[if_neg h.1,if_neg h.2.1,if_neg h.2.2.1,if_neg h.2.2.2]
theorem NN (k a b:Int):0≤HN k a b∧HN k a b<1000003:=by unfold HN;split <;> (try split) <;> (try split) <;> (try split) <;> exact Ci _
end
theorem Jd {k:Int}{xs:List Int}{T:Tp}{t:Nat}(h:¬Ez k (T.at (Kk k xs).b)):Tf k xs t T=.ok (((T.vals.length:Nat):Int),T.put (Kk k xs) (HN k (T.at (Kk k xs).a) (T.at (Kk k xs).b))) t:=if_neg h
theorem QV {k:Int}{xs:List Int}{T:Tp}{t:Nat}(h:Ez k (T.at (Kk k xs).b)):Tf k xs t T=.err 6:=if_pos h
theorem ZU {α:Type}{r:Rs α}{x:α}{s:Nat}{c c1:Int}(h:AN (go c r) x s c1)(h1:c1=0):c=0:=by
 by_cases hc:c=0
 ·exact hc
 ·rw[DE hc]at h
  have:=h.1
  omega
theorem QW (k a b:Int):0≤(if Ez k b then 0 else HN k a b)∧(if Ez k b then 0 else HN k a b)<1000003:=by
 have:=NN k a b
 split <;> omega
theorem ZV {Q:Prop} [Decidable Q] (h:(!(!decide Q))=true):Q:=by simpa using h
theorem eN {Q:Prop} [Decidable Q] (h:(!(!decide Q))=false):¬Q:=by simpa using h
theorem Hh {k:Int}{xs:List Int}(h:k≠7):Kk k xs=⟨k,xs.getD 0 0,xs.getD 1 0,0⟩:=by unfold Kk;rw[if_neg h]
theorem To {k:Int}{xs:List Int}(h:k=7):Kk k xs=⟨k,xs.getD 0 0,0,0⟩:=by unfold Kk;rw[if_pos h]
theorem VE {k c:Int}{xs:List Int}{T:Tp}{s s2:Nat}{z:RI}(hc:c=0)(h7:k≠7)(hz:Ez k (T.vals.getD (xs.getD 1 0).toNat 0)):AN (go c (Tf k xs s T)) z s2 6:=by
 subst hc
 rw[CL,QV (by rw[Hh h7];exact hz)];exact AN.mk_err rfl (by decide)
theorem VF {k c:Int}{xs:List Int}{T:Tp}{s:Nat}(hc:c=0)(h7:k≠7)(hz:¬Ez k (T.vals.getD (xs.getD 1 0).toNat 0)) :
  AN (go c (Tf k xs s T)) (((T.vals.length:Nat):Int),T.put ⟨k,xs.getD 0 0,xs.getD 1 0,0⟩ (if Ez k (T.vals.getD (xs.getD 1 0).toNat 0)then 0 else HN k (T.vals.getD (xs.getD 0 0).toNat 0) (T.vals.getD (xs.getD 1 0).toNat 0))) s c:=by
 subst hc
 rw[CL,Jd (by rw[Hh h7];exact hz),Hh h7,if_neg hz];exact AN.mk_ok rfl
theorem VG {k c:Int}{xs:List Int}{T:Tp}{s:Nat}{b:Int}(hc:c=0)(h7:k=7) :
  AN (go c (Tf k xs s T)) (((T.vals.length:Nat):Int),T.put ⟨k,xs.getD 0 0,0,0⟩ (if Ez k b then 0 else HN k (T.vals.getD (xs.getD 0 0).toNat 0) b)) s c:=by
 subst hc
 subst h7
 rw[CL,Jd (fun h=>h.2.2.2.1 rfl),To rfl,if_neg (fun h:Ez 7 b=>h.2.2.2.1 rfl)];exact AN.mk_ok rfl
theorem Xp {k b:Int}(h:k=7):¬Ez k b:=fun h9=>h9.2.2.2.1 h
def Km (T:Tp)(env:List Int):Prop:=∀k,k<env.length→0≤env.getD k 0∧env.getD k 0<((T.vals.length:Nat):Int)
theorem Km.mono {T T':Tp}{env:List Int}(h:Km T env)(hl:T.vals.length≤T'.vals.length):Km T' env:=fun k hk=>by have:=h k hk;omega
theorem Km.snoc {T:Tp}{env:List Int}{r:Int}(h:Km T env)(hr:0≤r∧r<((T.vals.length:Nat):Int)):Km T (env++[r]):=fun k hk=>by
 rw[z4,zd]at hk
 rw[ZI]
 split
 ·exact hr
 ·exact h k zO
theorem Km.nil (T:Tp):Km T []:=fun k hk=>absurd hk (Nat.not_lt_zero k)
theorem DV {Q:Nat→Prop}:∀b∈([]:List Nat),Q b:=fun b hb=>(by cases hb)
theorem Ax.drewL {F:List Nat}{a b:World}(h:Ax F a b):Ax F a.drew b:=⟨h.os,h.tape,h.output,h.size,h.block⟩
def S6 {α:Type}(S:List Nat)(B:Nat)(E:Bu α)(H:Array Obj)(v:Value)(x:α):Prop:=∃F,E H v x F∧∀b∈F,b∉S∧B≤b
theorem S6.rn {α:Type}{S:List Nat}{B:Nat}{E:Bu α}{H:Array Obj}{v:Value}{x:α}(h:S6 S B E H v x):RN S E H v x:=by
 obtain⟨F,h1,h2⟩:=h
 exact⟨F,h1,fun b hb=>(h2 b hb).1⟩
theorem S6.upd {α:Type}{S F:List Nat}{B:Nat}{E:Bu α}(hE:C9 E){w w':World}{v:Value}{x:α}(h:S6 S B E w.heap v x)(c:Ax F w w')(hF:∀b∈F,b∈S∨b<B):S6 S B E w'.heap v x:=by
 obtain⟨G,h1,h2⟩:=h
 refine⟨G,hE.stable h1 fun b hb=>c.block b (hE.lt h1 b hb) fun hm=>?_,h2⟩
 rcases hF b hm with hh|hh
 ·exact (h2 b hb).1 hh
 ·have:=(h2 b hb).2;omega
theorem S6.of_ow {e:TypeId}{B T:Nat}{H:Array Obj}{v:Value}{xs:List Int}{F S:List Nat}(h:Ow (BA rI e) B T H v xs F)(hS:∀b∈F,b∉S):S6 S B (Bd rI) H v xs:=⟨F,h.own.rd id,fun b hb=>⟨hS b hb,h.low b hb⟩⟩
structure G7 (S S':List Nat)(w w':World):Prop where
 sub:∀b∈S,b∈S'
 new:∀b∈S',b∈S∨w.heap.size≤b
 lt:∀b∈S',b<w'.heap.size
 chg:Ax S w w'
section
variable {S S' S'':List Nat} {w w' w'':World} {g:Nat}
theorem G7.refl (h:∀b∈S,b<w.heap.size):G7 S S w w:=⟨fun _ h=>h,fun _ h=>.inl h,h,Ax.refl S w⟩
theorem G7.trans (h:G7 S S' w w')(k:G7 S' S'' w' w''):G7 S S'' w w'' :=
 ⟨fun b hb=>k.sub b (h.sub b hb),PN h.new k.new h.chg.size,k.lt,h.chg.stp k.chg h.new⟩
theorem G7.ext (h:G7 S S' w w')(k:AD w' w''):G7 S S' w w'':=⟨h.sub,h.new,fun b hb=>Nat.lt_of_lt_of_le (h.lt b hb) k.size,h.chg.ext k⟩
theorem G7.drew (h:G7 S S' w w'):G7 S S' w w'.drew:=⟨h.sub,h.new,h.lt,h.chg.drew⟩
theorem G7.of_drew (h:G7 S S' w.drew w'):G7 S S' w w':=⟨h.sub,h.new,h.lt,h.chg.of_drew⟩
theorem G7.set (h:G7 S S' w w')(hg:g∈S)(k:Ax [g] w' w''):G7 S S' w w'':=⟨h.sub,h.new,fun b hb=>Nat.lt_of_lt_of_le (h.lt b hb) k.size,h.chg.trans (k.sub (B6 hg))⟩
theorem G7.more {F:List Nat}(h:G7 S S' w w')(k:Ax F w' w'')(hF:∀b∈F,b∈S):G7 S S' w w'':=⟨h.sub,h.new,fun b hb=>Nat.lt_of_lt_of_le (h.lt b hb) k.size,h.chg.trans (k.sub hF)⟩
theorem G7.fresh {F:List Nat}(h:G7 S S' w w')(k:Ax F w' w'')(hF:∀b∈F,w.heap.size≤b):G7 S S' w w'':=⟨h.sub,h.new,fun b hb=>Nat.lt_of_lt_of_le (h.lt b hb) k.size,h.chg.fresh k hF⟩
end
structure Xq (T T':Tp)(s0 s1:Nat)(c1:Int):Prop where
 bnd:Kl T' s1
 num:s1≤3000∧(0≤c1∧c1≤9)∧T.vals.length≤T'.vals.length∧T'.vals.length+s0≤T.vals.length+s1∧T'.grd.length+s0≤T.grd.length+s1
@[simp] theorem Hi (T:Tp)(c:AM)(v:Int):(T.put c v).vals.length=T.vals.length+1:=by simp[Tp.put]
@[simp] theorem PP (T:Tp)(c:AM)(v:Int):(T.put c v).code.length=T.code.length+1:=by simp[Tp.put]
@[simp] theorem Tq (T:Tp)(c:AM)(v:Int):(T.put c v).grd=T.grd:=rfl
@[simp] theorem OR (T:Tp)(r:Int)(z:Bool):(T.guard r z).vals=T.vals:=rfl
@[simp] theorem OS (T:Tp)(r:Int)(z:Bool):(T.guard r z).grd.length=T.grd.length+1:=by simp[Tp.guard]
theorem RN.of_ow {e:TypeId}{B T:Nat}{H:Array Obj}{v:Value}{xs:List Int}{F S:List Nat}(h:Ow (BA rI e) B T H v xs F)(hS:∀b∈F,b∉S):RN S (Bd rI) H v xs:=⟨F,h.own.rd id,hS⟩
theorem CI.len {t1 t2 t3:TypeId}{S:List Nat}{g:Nat}{H:Array Obj}{vc vg vv:Value}{T:Tp}(h:CI t1 t2 t3 S g H vc vg vv T):T.code.length≤maxLen∧T.grd.length≤maxLen∧T.vals.length≤maxLen:=by
 obtain⟨Fc,Fg,Fv,h1,h2,h3,_⟩:=h
 exact⟨h1.own.lenle,h2.own.lenle,h3.own.lenle⟩
end
section
def JQ (a:List Int):Nat→Tp
 |0=>⟨[],[],[]⟩
 |k+1=>(JQ a k).put ⟨1,0,0,((k:Nat):Int)⟩ (a.getD k 0)
def HB (k:Nat):List Int:=(List.range k).map fun i=>((i:Nat):Int)
@[simp] theorem GV (k:Nat):(HB k).length=k:=by simp[HB]
theorem PQ (k:Nat):HB (k+1)=HB k++[((k:Nat):Int)]:=by simp[HB,List.range_succ]
theorem OT {k j:Nat}(h:j<k):(HB k).getD j 0=((j:Nat):Int):=by
 unfold HB
 rw[BT (d:=0) (by simpa using h)]
 simp[h]
@[simp] theorem Kn (a:List Int):∀k,(JQ a k).vals.length=k
 |0=>rfl
 |k+1=>by show((JQ a k).put _ _).vals.length=_;rw[Hi,Kn a k]
@[simp] theorem NO (a:List Int):∀k,(JQ a k).code.length=k
 |0=>rfl
 |k+1=>by show((JQ a k).put _ _).code.length=_;rw[PP,NO a k]
theorem Tr (a:List Int):∀k,(JQ a k).grd=[]
 |0=>rfl
 |k+1=>by show((JQ a k).put _ _).grd=_;rw[Tq,Tr a k]
theorem OU (a:List Int):∀k,k≤a.length→(JQ a k).vals=a.take k
 |0,_=>rfl
 |k+1,h=>by
  show(JQ a k).vals++[a.getD k 0]=_
  rw[OU a k zO,Cn 0 (by omega)]
theorem ZW {a:List Int}(hn:Bb a=true)(h:a.length≤12):Kl (JQ a a.length) 0:=by
 refine⟨by simp,by simp;omega,by rw[Tr];simp,?_⟩
 rw[OU a _ (A7 _),List.take_length];exact hn
theorem ZX (a:List Int)(k:Nat):Km (JQ a k) (HB k):=fun j hj=>by
 rw[GV]at hj
 rw[OT hj,Kn];omega
def NP (p:List Fn)(f:Nat)(a:List Int):Rs RL:=Is (KU p f) (p.getD f Fn.zero).outs (HB a.length) 0 (JQ a a.length)
section rcm
variable {t1 t2 t3:TypeId} {S:List Nat} {g:Nat} {w w':World} {vc vg vv:Value} {T:Tp}
theorem CI.nil:CI t1 t2 t3 S g w.heap (.slice none 0 0) (.slice none 0 0) (.slice none 0 0) ⟨[],[],[]⟩ :=
 ⟨[],[],[],⟨.inl ⟨rfl,rfl,rfl⟩,zk,DV,DV⟩,⟨.inl ⟨rfl,rfl,rfl⟩,zk,DV,DV⟩,⟨.inl ⟨rfl,rfl,rfl⟩,zk,DV,DV⟩,
  ⟨DV,DV,DV⟩,⟨z2,z2,z2⟩,DV,DV,DV⟩
theorem Ax.toExt {F:List Nat}(h:Ax F w w')(hF:∀b∈F,w.heap.size≤b):AD w w':=⟨h.os,h.tape,h.output,h.size,fun k hk=>h.block k hk fun hm=>by have:=hF k hm;omega⟩
end rcm
def RG {α:Type}(T:Nat)(E:Bu α)(H:Array Obj)(v:Value)(x:α):Prop:=∃F,E H v x F∧∀b∈F,T≤b
theorem S6.rg {α:Type}{S:List Nat}{B T:Nat}{E:Bu α}{H:Array Obj}{v:Value}{x:α}(h:S6 S B E H v x)(hT:T≤B):RG T E H v x:=by
 obtain⟨F,h1,h2⟩:=h
 exact⟨F,h1,fun b hb=>A8 hT (h2 b hb).2⟩
theorem RG.rnG {α:Type}{T g:Nat}{E:Bu α}{w:World}{v:Value}{x:α}(hE:C9 E)(h:RG T E w.heap v x)(hg:g<T∨w.heap.size≤g):RN [g] E w.heap v x:=by
 obtain⟨F,h1,h2⟩:=h
 refine⟨F,h1,fun b hb hm=>?_⟩
 rw[A9 hm]at hb
 have:=h2 g hb
 have:=hE.lt h1 g hb
 omega
theorem CI.readsG {t1 t2 t3:TypeId}{S:List Nat}{g n:Nat}{w:World}{vc vg vv:Value}{T:Tp}(h:CI t1 t2 t3 S g w.heap vc vg vv T)(hS:∀b∈S,n≤b):RG n (E1 4 ON) w.heap vc T.code∧RG n (E1 2 OO) w.heap vg T.grd:=by
 obtain⟨Fc,Fg,Fv,h1,h2,h3,h4,h5,h6,h7,h8⟩:=h
 exact⟨⟨Fc,h1.own.rd Be,fun b hb=>hS b (h6 b hb)⟩,⟨Fg,h2.own.rd Bj,fun b hb=>hS b (h7 b hb)⟩⟩
theorem AN.go0 {α:Type}{r:Rs α}{x:α}{s:Nat}{c:Int}(h:AN (go ((0:Nat):Int) r) x s c):AN r x s c:=h
theorem LD.part {H:Array Obj}{g k:Nat}{cs ds:List Value}(h:BX H g cs)(hl:k+ds.length≤cs.length)(hd:∀i,i<ds.length→ds.getD i undef=cs.getD (k+i) undef):LD H (.pointer (some ⟨g,k,none⟩)) ds:=by
 obtain⟨e,h⟩:=h
 refine⟨g,k,rfl,fun i hi=>?_⟩
 simp only[C5,h]
 rw[hd i hi]
 simp[show k+i<cs.length by omega]
end
def Gx (p:List Fn)(f:Int):Int:=if Ef p=true then(if 0≤f∧f≤((p.length:Nat):Int)-1 then 0 else 2)else 1
theorem OV {p:List Fn}{f:Int}(h:Gx p f=0):Ef p=true∧0≤f∧f<((p.length:Nat):Int):=by
 unfold Gx at h
 split at h
 ·split at h
  ·rename_i h1 h2;exact⟨h1,h2.1,zO⟩
  ·omega
 ·omega
theorem RN.ofOne {S:List Nat}{e:TypeId}{B U:Nat}{H:Array Obj}{v u:Value}{r:List Int}(h:Fr (BA rV e) B U H v [u])(hr:RN S (Bd rI) H u r)(hS:∀b∈S,b<B):RN S (Bd (Bd rI)) H v [r]:=by
 obtain⟨F,h1,h2,h3⟩:=h
 obtain⟨G,g1',g2'⟩:=hr
 rcases h1 with⟨_,hc,_⟩|⟨us,g,cap,cur,F',hels,rfl,hg,q1,q2,q3,q4,rfl⟩
 ·cases hc
 ·obtain⟨rfl,rfl⟩:=Fy hels
  refine⟨g::(G++[]),.inr ⟨[u],g,0,cap,cur,e,(0,0),G++[],⟨G,[],rfl,g1',rfl⟩,rfl,hg,by simpa using q4,by simp[maxLen],rfl⟩,fun b hb hm=>?_⟩
  rcases ze.1 hb with rfl|hb
  ·have:=(h3 b (z0 ..)).1;have:=hS b hm;omega
  ·rw[List.append_nil]at hb;exact g2' b hb hm
theorem VH {e:TypeId}{B U:Nat}{H:Array Obj}{v u:Value}(h:Fr (BA rV e) B U H v [u]):Cs v:=h.cap
theorem Ts {n k:Nat}{s:Sr}(h:Cu n s)(hk:k<n):IS (s.getD k 0)=true:=by
 have hk':k<s.length:=by rw[h.1];exact hk
 have:=h.2
 unfold Bb at this
 have h2:=zm.1 this s[k]<|List.getElem_mem hk'
 rwa [show s.getD k 0=s[k]from by simp[hk']]
section
mutual
def IE:Ex→Int→Int
 |.mk _ _ _ _ l,x=>Dp l (x-1)
def Dp:List Ex→Int→Int
 |[],x=>x
 |e::l,x=>if 0≤x then Dp l (IE e x)else x
end
theorem VI (e:Ex)(x:Int):IE e x=Dp e.kids (x-1):=by cases e;rw[IE];rfl
theorem LL {l:List Ex}{x:Int}(h:x<0):Dp l x=x:=by
 cases l with
 |nil=>rw[Dp]
 |cons e l=>rw[Dp,if_neg (by omega)]
mutual
theorem LM:∀(e:Ex)(x:Int),0≤x→(IE e x=x-(e.size:Int)∧(e.size:Int)≤x)∨(IE e x = -1∧x<(e.size:Int))
 |.mk k n q c l,x,h=>by
  rw[IE,Ex.size]
  by_cases h0:x=0
  ·subst h0
   right
   rw[LL (by omega)]
   refine⟨zO,zO⟩
  ·rcases It l (x-1) (by omega)with h1|h1
   ·left;omega
   ·right;omega
theorem It:∀(l:List Ex)(x:Int),0≤x→(Dp l x=x-(Ex.sizes l:Int)∧(Ex.sizes l:Int)≤x)∨(Dp l x = -1∧x<(Ex.sizes l:Int))
 |[],x,h=>by rw[Dp,Ex.sizes];left;omega
 |e::l,x,h=>by
  rw[Dp,if_pos h,Ex.sizes]
  rcases LM e x h with h1|h1
  ·rw[h1.1]
   rcases It l (x-(e.size:Int)) (by omega)with h2|h2
   ·left;omega
   ·right;omega
  ·rw[h1.1,LL (by omega)]
   right;omega
end
theorem Nb (e:Ex):∀(l:List Ex)(x:Int),Dp (l++[e]) x=if 0≤Dp l x then IE e (Dp l x)else Dp l x
 |[],x=>by
  rw[zl,Dp,Dp]
  split
  ·rw[Dp]
  ·rfl
 |a::l,x=>by
  rw[List.cons_append,Dp,Dp]
  by_cases h:0≤x
  ·rw[if_pos h,if_pos h,Nb e l]
  ·rw[if_neg h,if_neg h,if_neg h]
theorem Nc {l:List Ex}{k:Nat}(hk:k<l.length){x:Int}(h:0≤Dp (l.take k) x):Dp (l.take (k+1)) x=IE (l.getD k Ex.zero) (Dp (l.take k) x):=by
 rw[List.take_succ_eq_append_getElem hk,Nb,if_pos h]
 simp[hk]
theorem OW:∀(l r:List Ex)(x:Int),Dp l x<0→Dp (l++r) x=Dp l x
 |[],r,x,h=>by rw[Dp]at h ⊢;rw[zl,LL h]
 |a::l,r,x,h=>by
  rw[Dp]at h ⊢
  rw[List.cons_append,Dp]
  split
  ·rename_i h0;rw[if_pos h0]at h;exact OW l r _ h
  ·rfl
theorem Nd {l:List Ex}{k:Nat}{x:Int}(h:Dp (l.take k) x<0):Dp l x=Dp (l.take k) x:=by
 have:=OW (l.take k) (l.drop k) x h
 rwa [List.take_append_drop]at this
theorem OX {e:Ex}{x:Int}(h:0≤x):-1≤IE e x∧IE e x≤x:=by
 rcases LM e x h with h1|h1 <;> omega
theorem Tt {e:Ex}{x:Int}(h:0≤x):0≤IE e x↔(e.size:Int)≤x:=by
 rcases LM e x h with h1|h1 <;> omega
def S7 (k:Int):Int:=if k=1∨k=2 then 0 else if k=3∨k=4∨k=5∨k=6∨k=9 then 2 else if k=7 then 1 else if k=8 then 3 else -1
theorem NR {p q:Prop} [Decidable p] [Decidable q] (h:p↔q):decide p=decide q:=decide_eq_decide.2 h
section
variable {p:List Fn} {F vars:Int} {e:Ex}
theorem S8 (h:Hf p F vars e=true)(h10:e.kind≠10)(h11:e.kind≠11):e.pick=0∧e.count=0∧S7 e.kind=((e.kids.length:Nat):Int)∧(e.kind≠1→e.kind≠2→e.num=0):=by
 unfold Hf E4 at h
 unfold S7
 split at h
 ·rename_i h1
  simp only[z7,decide_eq_true_eq]at h
  rw[if_pos (by omega)]
  exact⟨h.1.1,h.1.2,zO,fun hh=>absurd h1 hh⟩
 ·split at h
  ·rename_i h1
   simp only[z7,decide_eq_true_eq]at h
   rw[if_pos (by omega)]
   exact⟨h.1.1,h.1.2,zO,fun _ hh=>absurd h1 hh⟩
  ·split at h
   ·simp only[z7,decide_eq_true_eq]at h
    rw[if_neg zO,if_pos (by omega)]
    exact⟨h.1.1,h.1.2,zO,fun _ _=>h.2.1⟩
   ·split at h
    ·simp only[z7,decide_eq_true_eq]at h
     rw[if_neg zO,if_neg zO,if_pos (by omega)]
     exact⟨h.1.1,h.1.2,zO,fun _ _=>h.2.1⟩
    ·split at h
     ·simp only[z7,decide_eq_true_eq]at h
      rw[if_neg zO,if_neg zO,if_neg zO,if_pos (by omega)]
      exact⟨h.1.1,h.1.2,zO,fun _ _=>h.2.1⟩
     ·split at h
      ·omega
      ·cases h
theorem Z5 (h10:e.kind≠10)(h11:e.kind≠11)(h:S7 e.kind≠((e.kids.length:Nat):Int)∨e.pick≠0∨e.count≠0):false=Hf p F vars e:=by
 cases hw:Hf p F vars e with
 |false=>rfl
 |true =>
  have:=S8 hw h10 h11
  omega
theorem eO (hk:S7 e.kind=((e.kids.length:Nat):Int))(h1:e.kind=1)(hp:e.pick=0)(hc:e.count=0):IS e.num=Hf p F vars e:=by
 have hl:e.kids.length=0:=by unfold S7 at hk;rw[if_pos (by omega)]at hk;omega
 unfold Hf E4
 rw[if_pos h1,A5 hp,A5 hc,A5 hl];rfl
theorem eP (hk:S7 e.kind=((e.kids.length:Nat):Int))(h1:e.kind=2)(hp:e.pick=0)(hc:e.count=0):(decide (((0:Nat):Int)≤e.num) && decide (e.num≤vars-1))=Hf p F vars e:=by
 have hl:e.kids.length=0:=by unfold S7 at hk;rw[if_pos (by omega)]at hk;omega
 unfold Hf E4 Ey
 rw[if_neg zO,if_pos h1,A5 hp,A5 hc,A5 hl];rfl
theorem eQ (hk:S7 e.kind=((e.kids.length:Nat):Int))(h1:e.kind≠1)(h2:e.kind≠2)(h10:e.kind≠10)(h11:e.kind≠11)(hp:e.pick=0)(hc:e.count=0):decide (e.num=0)=Hf p F vars e:=by
 unfold S7 at hk
 unfold Hf E4
 rw[if_neg h1,if_neg h2,A5 hp,A5 hc]
 rw[if_neg (by omega)]at hk
 split at hk
 ·rename_i h3
  rw[if_pos h3,A5 (show e.kids.length=2 by omega)];simp
 ·rename_i h3
  rw[if_neg h3]
  split at hk
  ·rename_i h4
   rw[if_pos h4,A5 (show e.kids.length=1 by omega)];simp
  ·rename_i h4
   rw[if_neg h4]
   split at hk
   ·rename_i h5
    rw[if_pos h5,A5 (show e.kids.length=3 by omega)];simp
   ·omega
end
end
section
def KN (n:Nat)(C:Ca)(e:Ex)(env:List Sr)(s:Nat):Rs Sr:=(CB n C e.kids env s).bind fun xs t =>
 if e.kind=10 then C.one e.num.toNat e.pick.toNat xs t else(GJ (C.all e.num.toNat) e.count.toNat xs t).bind fun ys u=>.ok (ys.getD e.pick.toNat []) u
section
variable {n:Nat} {C:Ca} {e:Ex} {env:List Sr} {s s1 s2:Nat} {c c1 c2:Int} {x y:Sr} {xs ys:List Sr}
theorem Nf (hc:c=0)(hs:s+1≤3000)(hk:e.kind=10∨e.kind=11)(h:AN (go c (KN n C e env (s+1))) y s2 c2):AN (go c (Cm n C e env s)) y s2 c2:=by
 subst hc
 rw[CL]at h ⊢
 rw[I5 hs zO zO zO (by omega)]
 unfold KN at h
 cases hv:CB n C e.kids env (s+1)with
 |err d=>rw[hv]at h;exact h
 |ok zs t =>
  rw[hv]at h
  rw[Rs.bind_ok]at h ⊢
  by_cases h10:e.kind=10
  ·rw[if_pos h10]at h ⊢;exact h
  ·rw[if_neg h10]at h;rw[if_neg h10,if_pos (by omega)];exact h
theorem Tu {α:Type}{r:Rs α}{v:α}(h:AN (go c r) v s1 c1)(hc:c≠0):c1=c:=by
 rw[DE hc]at h;exact h.1
theorem Z6 (hl:e.kids.length=1)(h:AN (go c (Cm n C (e.kids.getD 0 Ex.zero) env s)) x s1 c1):AN (go c (CB n C e.kids env s)) [x] s1 c1:=by
 have h1:=GQ (l:=e.kids) (k:=0) zO (GR n C e.kids env s c) h
 rwa [za (by omega)]at h1
theorem Ko (hl:e.kids.length=2)(h:AN (go c (Cm n C (e.kids.getD 0 Ex.zero) env s)) x s1 c1)(h2:AN (go c1 (Cm n C (e.kids.getD 1 Ex.zero) env s1)) y s2 c2):AN (go c (CB n C e.kids env s)) [x,y] s2 c2:=by
 have h1:=GQ (l:=e.kids) (k:=0) zO (GR n C e.kids env s c) h
 have h3:=GQ (l:=e.kids) (k:=1) zO h1 h2
 rwa [za (by omega)]at h3
theorem Hj (hc:c=0)(hs:s+1≤3000)(hk:e.kind=3∨e.kind=4∨e.kind=5∨e.kind=6∨e.kind=7)(hr:AN (go c (CB n C e.kids env (s+1))) xs s1 c1)
  (h:c1=0→AN (KJ e.kind xs s1) y s1 c2) (h0:c1≠0→c2=c1):AN (go c (Cm n C e env s)) y s1 c2:=by
 by_cases hc1:c1=0
 ·exact Bk hc hs zO zO zO zO zO zO hr hc1<|h hc1
 ·rw[h0 hc1];exact Dk hc hs zO zO zO zO hr hc1
theorem Tv {p:List Fn}{F:Nat}(hk:e.kind=10)(hF:e.num.toNat<F)(hr:AN (go c (CB n (Df p n F) e.kids env s)) xs s1 c1)
  (h2:AN (go c1 (Cm n (Df p n e.num.toNat) ((p.getD e.num.toNat Fn.zero).outs.getD e.pick.toNat Ex.zero) xs s1)) y s2 c2):AN (go c (KN n (Df p n F) e env s)) y s2 c2:=by
 by_cases hc:c=0
 ·subst hc
  rw[CL]at hr ⊢
  unfold KN
  by_cases hc1:c1=0
  ·subst hc1;rw[hr.bindO,if_pos hk,NH hF];rw[CL]at h2;exact h2
  ·rw[hr.bindE hc1];rw[DE hc1]at h2;exact h2
 ·have e1:=Tu hr hc
  subst e1
  rw[DE hc]at h2 ⊢;exact h2
theorem Tw {f:List Sr→Nat→Rs (List Sr)}{k:Nat}(h:AN (go c (GJ f k xs s)) ys s1 c1){zs:List Sr}(h2:AN (go c1 (f ys s1)) zs s2 c2):AN (go c (GJ f (k+1) xs s)) zs s2 c2:=by
 by_cases hc:c=0
 ·subst hc
  rw[CL]at h ⊢
  show AN ((GJ f k xs s).bind f) _ _ _
  by_cases hc1:c1=0
  ·subst hc1;rw[h.bindO];rw[CL]at h2;exact h2
  ·rw[h.bindE hc1];rw[DE hc1]at h2;exact h2
 ·have e1:=Tu h hc
  subst e1
  rw[DE hc]at h2 ⊢;exact h2
theorem Tx {f:List Sr→Nat→Rs (List Sr)}(hc:0=0):AN (go c (GJ f 0 xs s)) xs s c:=by
 by_cases h:c=0
 ·subst h;exact⟨rfl,rfl,rfl⟩
 ·exact AN.mk_err (DE h _) h
theorem Ty {p:List Fn}{F:Nat}(hk:e.kind≠10)(hF:e.num.toNat<F)(hr:AN (go c (CB n (Df p n F) e.kids env s)) xs s1 c1)
  (h2:AN (go c1 (GJ (fun a t=>CB n (Df p n e.num.toNat) (p.getD e.num.toNat Fn.zero).outs a t) e.count.toNat xs s1)) ys s2 c2):AN (go c (KN n (Df p n F) e env s)) (ys.getD e.pick.toNat []) s2 c2:=by
 have hl:(Df p n F).all e.num.toNat=fun a t=>CB n (Df p n e.num.toNat) (p.getD e.num.toNat Fn.zero).outs a t:=funext fun a=>funext fun t=>Gj hF
 by_cases hc:c=0
 ·subst hc
  rw[CL]at hr ⊢
  unfold KN
  by_cases hc1:c1=0
  ·subst hc1
   rw[hr.bindO,if_neg hk,hl]
   rw[CL]at h2
   by_cases h0:c2=0
   ·subst h0;rw[h2.bindO];exact AN.mk_ok rfl
   ·rw[h2.bindE h0];exact AN.mk_err rfl h0
  ·rw[hr.bindE hc1]
   rw[DE hc1]at h2
   exact AN.mk_err (by rw[h2.1]) (by rw[h2.1];exact hc1)
 ·have e1:=Tu hr hc
  subst e1
  rw[DE hc]at h2 ⊢
  exact AN.mk_err (by rw[h2.1]) (by rw[h2.1];exact hc)
end
end
section
def Ng (p:List Fn)(f:Int):Bool:=Ey f 0 (((p.length:Nat):Int)-1) && (decide (1≤(p.getD f.toNat Fn.zero).params) && decide ((((p.getD f.toNat Fn.zero).outs.length:Nat):Int)=(p.getD f.toNat Fn.zero).params))
def QX (p:List Fn)(f:Int):Bool:=Ef p && Ng p f
def DO (p:List Fn)(f:Int)(l:List Sr):Int :=
 if Ef p=true then(if Ng p f=true then(if l.all (fun s=>decide (((s.length:Nat):Int)=(p.getD f.toNat Fn.zero).params) && Bb s)=true then 0 else 2)else 2)else 1
def LN (p:List Fn)(f:Int)(a:Sr)(n:Int):Int:=if DO p f [a]=0 then(if Ey n 0 40=true then 0 else 2)else DO p f [a]
theorem Iu (p:List Fn)(f:Int)(l:List Sr):0≤DO p f l∧DO p f l≤2:=by
 unfold DO;split <;> (try split) <;> (try split) <;> omega
theorem Lg (p:List Fn)(f:Int)(a:Sr)(n:Int):0≤LN p f a n∧LN p f a n≤2:=by
 have:=Iu p f [a]
 unfold LN;split <;> (try split) <;> omega
theorem Gk {p:List Fn}{f:Int}:Ng p f=true↔(0≤f∧f≤((p.length:Nat):Int)-1)∧1≤(p.getD f.toNat Fn.zero).params∧(((p.getD f.toNat Fn.zero).outs.length:Nat):Int)=(p.getD f.toNat Fn.zero).params:=by
 unfold Ng;rw[z7,z7,BH,decide_eq_true_eq,decide_eq_true_eq]
theorem Xr {p:List Fn}{f:Int}{a:Sr}{n:Int}(h:LN p f a n=0):Ef p=true∧(0≤f∧f<((p.length:Nat):Int))∧(1≤(p.getD f.toNat Fn.zero).params∧(((p.getD f.toNat Fn.zero).outs.length:Nat):Int)=(p.getD f.toNat Fn.zero).params)∧((a.length:Nat):Int)=(p.getD f.toNat Fn.zero).params∧Bb a=true∧(0≤n∧n≤40):=by
 unfold LN at h
 split at h
 ·rename_i h1
  split at h
  ·rename_i h2
   unfold DO at h1
   split at h1
   ·rename_i h3
    split at h1
    ·rename_i h4
     split at h1
     ·rename_i h5
      rw[BH]at h2
      rw[Gk]at h4
      simp only[List.all_cons,List.all_nil,Bool.and_true,z7,decide_eq_true_eq]at h5
      exact⟨h3,⟨h4.1.1,zO⟩,⟨h4.2.1,h4.2.2⟩,h5.1,h5.2,h2⟩
     ·omega
    ·omega
   ·omega
  ·omega
 ·rename_i h1;exact absurd h h1
def FS (p:List Fn)(f:Nat)(s:Sr):Int:=H7 p 1 f (BB s)
def Lh (p:List Fn)(f:Nat)(s:Sr):Sr:=(KK p 1 f (BB s)).map fun s=>s.getD 0 0
def DJ (p:List Fn)(f:Nat)(a:Sr):Nat→Sr
 |0=>a
 |k+1=>Lh p f (DJ p f a k)
def G8 (p:List Fn)(f:Nat)(a:Sr):Nat→Int
 |0=>0
 |k+1=>if G8 p f a k=0 then FS p f (DJ p f a k)else G8 p f a k
def Z7 (p:List Fn)(f:Nat)(a:Sr)(n:Nat):List Sr:=if G8 p f a n=0 then EB (n+1) (DJ p f a)else []
theorem C1 {a:Sr}(h:Bb a=true):C4 1 (BB a):=by
 intro k hk
 unfold BB at hk ⊢
 rw[zg]at hk
 rw[List.getD_eq_getElem?_getD,List.getElem?_map,List.getElem?_eq_getElem hk]
 refine⟨rfl,?_⟩
 unfold Bb at h ⊢
 have:=zm.1 h _ (List.getElem_mem hk)
 simpa using this
theorem LO {x:List Sr}{n:Nat}(h:C4 (n+1) x):Bb (x.map fun s=>s.getD 0 0)=true:=by
 unfold Bb
 rw[zm]
 intro y hy
 obtain⟨s,hs,rfl⟩:=List.mem_map.1 hy
 obtain⟨k,hk,rfl⟩:=List.mem_iff_getElem.1 hs
 have h2:=h k hk
 rw[FN hk]at h2
 exact Ts h2 zO
section
variable {p:List Fn} {f:Nat} {a s:Sr} {k n:Nat}
theorem GW (h:G8 p f a k=0):G8 p f a (k+1)=FS p f (DJ p f a k):=if_pos h
theorem LP (h:G8 p f a k≠0):∀ {n:Nat},k≤n→G8 p f a n = G8 p f a k
  | 0, hk => by have : k = 0 := by omega
                subst this; rfl
  | n + 1,hk=>by
    by_cases e:k = n + 1
    · subst e; rfl
    · have ih:=LP h (n:=n) zO
      show (if G8 p f a n = 0 then _ else _) = _
      rw [if_neg (by rw [ih]; exact h)]; exact ih
theorem Tz (h:G8 p f a n≠0):Z7 p f a n=[]:=if_neg h
theorem Nh (h:G8 p f a n=0):Z7 p f a n=EB (n+1) (DJ p f a):=if_pos h
structure TA (p:List Fn)(f:Nat)(s:Sr):Prop where
 code:0≤FS p f s∧FS p f s≤9
 len:FS p f s=0→(Lh p f s).length=(p.getD f Fn.zero).outs.length
 num:Bb (Lh p f s)=true
 non:FS p f s≠0→Lh p f s=[]
theorem TA.mk' (h:Va p 1 f (BB s)):TA p f s :=
 ⟨h.code,fun h0=>by unfold Lh;rw[zg];exact h.len h0,LO h.ser,fun h0=>by unfold Lh;rw[h.non h0];rfl⟩
structure TB (p:List Fn)(f:Nat)(a:Sr)(n:Nat):Prop where
 code:0≤G8 p f a n∧G8 p f a n≤9
 len:(Z7 p f a n).length≤n+1
 rows:∀k,((Z7 p f a n).getD k []).length≤a.length
theorem TB.err {c:Int}(h:G8 p f a n=c)(h0:c≠0)(hc:0≤c∧c≤9):TB p f a n:=⟨zO,by rw[Tz (by omega)];simp,fun k=>by rw[Tz (by omega)];simp⟩
theorem TB.ok (h:G8 p f a n=0)(hr:∀k,k≤n→(DJ p f a k).length=a.length):TB p f a n:=⟨zO,by rw[Nh h];simp[EB],fun k=>by
 rw[Nh h]
 by_cases hk:k<n+1
 ·rw[CE _ hk,hr k (by omega)];exact A7 _
 ·rw[List.getD_eq_getElem?_getD,List.getElem?_eq_none (by simp[EB];omega)];simp⟩
end
def Z8 (p:List Fn)(f:Int)(a:Sr)(n:Int):List Sr:=if LN p f a n=0 then Z7 p f.toNat a n.toNat else []
def TC (p:List Fn)(f:Int)(a:Sr)(n:Int):Int:=if LN p f a n=0 then G8 p f.toNat a n.toNat else LN p f a n
section
variable {p:List Fn} {f n:Int} {a:Sr}
theorem LQ (h:LN p f a n≠0):Z8 p f a n=[]:=if_neg h
theorem TD (h:LN p f a n≠0):TC p f a n=LN p f a n:=if_neg h
theorem OY (h:LN p f a n=0):Z8 p f a n=Z7 p f.toNat a n.toNat:=if_pos h
theorem TF (h:LN p f a n=0):TC p f a n=G8 p f.toNat a n.toNat:=if_pos h
end
end
theorem JS:∀(l:List Ex)(k:Nat),Ex.sizes (l.take k)+(l.length-k)≤Ex.sizes l
 |[],k=>by simp[Ex.sizes]
 |e::l,0=>by
  have h:=JS l 0
  have:=C0 e
  rw[List.take_zero]at h ⊢
  rw[Ex.sizes]at h ⊢
  rw[z9,Ex.sizes];omega
 |e::l,k+1=>by
  have h:=JS l k
  rw[List.take_succ_cons,Ex.sizes,Ex.sizes,z9];omega
section
def Rs.map {α β:Type}(f:α→β)(r:Rs α):Rs β:=match r with
 |.ok x s=>.ok (f x) s
 |.err c=>.err c
abbrev Dw (m:Nat)(x:Sr):Sr:=x.take m
theorem DW {m k:Nat}(x:Sr)(h:k<m):(Dw m x).getD k 0=x.getD k 0:=by
 simp only[Dw,List.getD_eq_getElem?_getD,List.getElem?_take,if_pos h]
theorem Li {m:Nat}(l:Nat)(f g:Nat→Int)(h:∀k,k<m→f k=g k):EB (min m l) f=Dw m (EB l g):=by
 unfold EB Dw
 rw[← List.map_take,List.take_range]
 exact List.map_congr_left fun k hk=>h k (by have:=List.mem_range.1 hk;omega)
section
variable {m:Nat} (a b:Sr)
theorem JT:(Dw m a).length=min m a.length:=List.length_take ..
theorem TG:Ee (Dw m a) (Dw m b)=Dw m (Ee a b):=by
 unfold Ee;rw[JT]
 exact Li _ _ _ fun k hk=>by rw[DW a hk,DW b hk]
theorem TH:FB (Dw m a) (Dw m b)=Dw m (FB a b):=by
 unfold FB;rw[JT]
 exact Li _ _ _ fun k hk=>by rw[DW a hk,DW b hk]
theorem TJ (y:Int):CH (Dw m a) y=Dw m (CH a y):=by
 unfold CH;rw[JT]
 exact Li _ _ _ fun k hk=>by rw[DW a hk]
theorem QY {k:Nat}(hk:k<m):∀i,i≤k+1→N7 (Dw m a) (Dw m b) k i=N7 a b k i
 |0,_=>rfl
 |i+1,h=>by
  show md (N7 (Dw m a) (Dw m b) k i+(Dw m a).getD i 0*(Dw m b).getD (k-i) 0)=md (N7 a b k i+a.getD i 0*b.getD (k-i) 0)
  rw[QY hk i zO,DW a zO,DW b (by omega)]
theorem TK:Ct (Dw m a) (Dw m b)=Dw m (Ct a b):=by
 unfold Ct;rw[JT]
 exact Li _ _ _ fun k hk=>QY a b hk (k+1)<|A7 _
theorem QZ (o:Sr){k:Nat}(hk:k<m):∀i,i≤k→Ol (Dw m a) (Dw m b) o k i=Ol a b o k i
 |0,_=>DW a hk
 |i+1,h=>by
  show md (Ol (Dw m a) (Dw m b) o k i-o.getD i 0*(Dw m b).getD (k-i) 0)=md (Ol a b o k i-o.getD i 0*b.getD (k-i) 0)
  rw[QZ o hk i zO,DW b (by omega)]
theorem R0 (hm:1≤m):∀k,k≤m→J7 (Dw m a) (Dw m b) k=J7 a b k
 |0,_=>rfl
 |k+1,h=>by
  rw[J7,J7,R0 hm k zO,QZ a b _ zO k (A7 _),DW b (by omega)]
theorem OZ:∀ (k j:Nat),j≤k→(J7 a b k).take j = J7 a b j
  | 0, j, h => by have : j = 0 := by omega
                  subst this; rfl
  | k + 1,j,h=>by
    by_cases e:j = k + 1
    · subst e; rw [za (by rw [DU]; exact A7 _)]
    · rw [J7,List.take_append_of_le_length (by rw [DU]; omega)]; exact OZ k j zO
theorem TL (hm:1≤m):C3 (Dw m a) (Dw m b)=Dw m (C3 a b):=by
 unfold C3;rw[JT,R0 a b hm _ (by omega)]
 show _=(J7 a b a.length).take m
 by_cases h:m≤a.length
 ·rw[OZ a b _ _ h,Nat.min_eq_left h]
 ·rw[za (by rw[DU];omega),Nat.min_eq_right (by omega)]
end
theorem VJ {m n:Nat}(x:Int)(h:m≤n):cst m x=Dw m (cst n x):=by
 unfold cst Dw
 rw[List.take_set,List.take_replicate,Nat.min_eq_left h]
theorem Lj {m:Nat}(env:List Sr)(k:Nat):(env.map (Dw m)).getD k []=Dw m (env.getD k []):=by
 simp only[List.getD_eq_getElem?_getD,List.getElem?_map]
 cases env[k]? <;> simp[Dw]
structure eR (m:Nat)(C C':Ca):Prop where
 one:∀f j xs t,C'.one f j (xs.map (Dw m)) t=(C.one f j xs t).map (Dw m)
 all:∀f xs t,C'.all f (xs.map (Dw m)) t=(C.all f xs t).map (List.map (Dw m))
theorem VK {m:Nat}(hm:1≤m)(k:Int)(xs:List Sr)(t:Nat):KJ k (xs.map (Dw m)) t=(KJ k xs t).map (Dw m):=by
 unfold KJ
 rw[Lj,Lj]
 split
 ·rw[TG];rfl
 ·split
  ·rw[TH];rfl
  ·split
   ·rw[TK];rfl
   ·split
    ·rw[TJ];rfl
    ·rw[DW _ (by omega)]
     split
     ·rfl
     ·rw[TL _ _ hm];rfl
section
variable {m n:Nat} {C C':Ca}
theorem R1 (hC:eR m C C')(f:Nat):∀(k:Nat)(xs:List Sr)(t:Nat),GJ (C'.all f) k (xs.map (Dw m)) t=(GJ (C.all f) k xs t).map (List.map (Dw m))
 |0,xs,t=>rfl
 |k+1,xs,t=>by
  rw[GJ,GJ,R1 hC f k xs t]
  cases GJ (C.all f) k xs t with
  |err c=>rfl
  |ok ys u=>exact hC.all f ys u
theorem Lk:∀(l:List Ex),(∀e∈l,∀env s,Cm m C' e (env.map (Dw m)) s=(Cm n C e env s).map (Dw m))→∀env s,CB m C' l (env.map (Dw m)) s=(CB n C l env s).map (List.map (Dw m))
 |[],_,env,s=>by rw[CB,CB];rfl
 |e::l,h,env,s=>by
  rw[CB,CB,h e (z0 ..)]
  cases Cm n C e env s with
  |err c=>rfl
  |ok x t =>
   show(CB m C' l (env.map (Dw m)) t).bind _=_
   rw[Lk l (fun e he=>h e (z3 _ he)) env t]
   simp only[Rs.bind_ok]
   cases CB n C l env t <;> rfl
theorem Iv:∀(l:List Ex)(j:Nat),(∀e∈l,∀env s,Cm m C' e (env.map (Dw m)) s=(Cm n C e env s).map (Dw m))→∀env s,Gb m C' l j (env.map (Dw m)) s=(Gb n C l j env s).map (Dw m)
 |[],j,_,env,s=>by rw[Gb,Gb];rfl
 |e::l,0,h,env,s=>by rw[Gb,Gb];exact h e (z0 ..) env s
 |e::l,j+1,h,env,s=>by rw[Gb,Gb];exact Iv l j (fun e he=>h e (z3 _ he)) env s
theorem Kp:∀ {l:List Ex}{e:Ex},e∈l→e.size≤Ex.sizes l
 |[],_,h=>by cases h
 |a::l,e,h=>by
  rw[Ex.sizes]
  rcases ze.1 h with rfl|h
  ·omega
  ·have:=Kp h;omega
theorem Ll (hm:1≤m)(hmn:m≤n)(hC:eR m C C'):∀(z:Nat)(e:Ex),e.size≤z→∀env s,Cm m C' e (env.map (Dw m)) s=(Cm n C e env s).map (Dw m)
 |0,e,h,_,_=>by have:=C0 e;omega
 |z+1,e,h,env,s=>by
  have hk:∀x∈e.kids,∀env s,Cm m C' x (env.map (Dw m)) s=(Cm n C x env s).map (Dw m):=fun x hx=>Ll hm hmn hC z x (by have:=C0 e;have:=Kp hx;omega)
  rw[E5,E5]
  split
  ·rfl
  ·split
   ·rw[VJ _ hmn];rfl
   ·split
    ·rw[Lj];rfl
    ·split
     ·rw[Iv _ 0 hk]
      cases Gb n C e.kids 0 env (s+1)with
      |err c=>rfl
      |ok x t =>
       show(if (Dw m x).getD 0 0=0 then _ else _)=((if x.getD 0 0=0 then _ else _:Rs Sr)).map (Dw m)
       rw[DW _ (by omega)]
       split
       ·exact Iv _ 1 hk env t
       ·exact Iv _ 2 hk env t
     ·split
      ·rw[Iv _ 0 hk]
       cases Gb n C e.kids 0 env (s+1)with
       |err c=>rfl
       |ok x t =>
        show Gb m C' e.kids 1 (env.map (Dw m)++[Dw m x]) t=(Gb n C e.kids 1 (env++[x]) t).map (Dw m)
        rw[← Iv _ 1 hk,List.map_append];rfl
      ·rw[Lk _ hk]
       cases CB n C e.kids env (s+1)with
       |err c=>rfl
       |ok xs t =>
        show(if e.kind=10 then _ else _)=((if e.kind=10 then _ else _:Rs Sr)).map (Dw m)
        split
        ·exact hC.one _ _ _ _
        ·split
         ·rw[R1 hC]
          cases GJ (C.all e.num.toNat) e.count.toNat xs t with
          |err c=>rfl
          |ok ys u=>show Rs.ok _ _=Rs.ok _ _;rw[Lj]
         ·exact VK hm _ _ _
theorem R2 (p:List Fn)(hm:1≤m)(hmn:m≤n):∀F,eR m (Df p n F) (Df p m F)
 |0=>⟨fun _ _ _ _=>rfl,fun _ _ _=>rfl⟩
 |F+1=>by
  have ih:=R2 p hm hmn F
  refine⟨fun f j xs t=>?_,fun f xs t=>?_⟩
  ·show(if f=F then _ else _)=((if f=F then _ else _:Rs Sr)).map (Dw m)
   split
   ·exact Ll hm hmn ih _ _ (A7 _) _ _
   ·exact ih.one f j xs t
  ·show(if f=F then _ else _)=((if f=F then _ else _:Rs (List Sr))).map (List.map (Dw m))
   split
   ·exact Lk _ (fun e _=>Ll hm hmn ih _ e<|A7 _) _ _
   ·exact ih.all f xs t
end
theorem TM (p:List Fn){m n:Nat}(hm:1≤m)(hmn:m≤n)(f:Nat)(a:List Sr):ev p m f (a.map (Dw m))=(ev p n f a).map (List.map (Dw m)) :=
 Lk _ (fun e _=>Ll hm hmn (R2 p hm hmn f) _ e (A7 _)) _ _
theorem VL (p:List Fn){m n:Nat}(hm:1≤m)(hmn:m≤n)(f:Nat)(a:List Sr):KK p m f (a.map (Dw m))=(KK p n f a).map (Dw m):=by
 unfold KK;rw[TM p hm hmn]
 cases ev p n f a <;> rfl
theorem VM (p:List Fn){m n:Nat}(hm:1≤m)(hmn:m≤n)(f:Nat)(a:List Sr):H7 p m f (a.map (Dw m))=H7 p n f a:=by
 unfold H7;rw[TM p hm hmn]
 cases ev p n f a <;> rfl
end
section
def Z9 (n:Nat)(r:Rs Sr):Prop:=match r with
 |.ok x s=>Cu n x∧s≤3000
 |.err c=>c=6∨c=7
def dX (n m:Nat)(r:Rs (List Sr)):Prop:=match r with
 |.ok xs s=>xs.length=m∧C4 n xs∧s≤3000
 |.err c=>c=6∨c=7
structure eS (p:List Fn)(n F:Nat)(C:Ca):Prop where
 one:∀f j xs t,f<F→j<(p.getD f Fn.zero).outs.length→C4 n xs→((xs.length:Nat):Int)=(p.getD f Fn.zero).params→t≤3000→Z9 n (C.one f j xs t)
 all:∀f xs t,f<F→C4 n xs→((xs.length:Nat):Int)=(p.getD f Fn.zero).params→t≤3000→dX n (p.getD f Fn.zero).outs.length (C.all f xs t)
theorem C4.nil (n:Nat):C4 n []:=fun k hk=>by simp at hk
theorem C4.cons {n:Nat}{x:Sr}{xs:List Sr}(hx:Cu n x)(h:C4 n xs):C4 n (x::xs):=by
 intro k hk
 cases k with
 |zero=>exact hx
 |succ k=>exact h k (by simpa using hk)
theorem TN {n:Nat}{C:Ca}{env:List Sr}:∀(l:List Ex),(∀e∈l,∀s,s≤3000→Z9 n (Cm n C e env s))→∀s,s≤3000→dX n l.length (CB n C l env s)
 |[],_,s,hs=>by rw[CB];exact⟨rfl,C4.nil n,hs⟩
 |e::l,h,s,hs=>by
  rw[CB]
  have h1:=h e (z0 ..) s hs
  cases h2:Cm n C e env s with
  |err c=>rw[h2]at h1;exact h1
  |ok x t =>
   rw[h2]at h1
   have h3:=TN l (fun e he=>h e<|z3 _ he) t h1.2
   rw[Rs.bind_ok]
   cases h4:CB n C l env t with
   |err c=>rw[h4]at h3;exact h3
   |ok xs u=>rw[h4]at h3;exact⟨by simp[h3.1],C4.cons h1.1 h3.2.1,h3.2.2⟩
theorem Xs {p:List Fn}{n F f:Nat}{C:Ca}(hC:eS p n F C)(hf:f<F)(ho:(((p.getD f Fn.zero).outs.length:Nat):Int)=(p.getD f Fn.zero).params):∀(k:Nat)(xs:List Sr)(t:Nat),C4 n xs→xs.length=(p.getD f Fn.zero).outs.length→t≤3000→dX n (p.getD f Fn.zero).outs.length (GJ (C.all f) k xs t)
 |0,xs,t,h1,h2,h3=>⟨h2,h1,h3⟩
 |k+1,xs,t,h1,h2,h3=>by
  have h:=Xs hC hf ho k xs t h1 h2 h3
  rw[GJ]
  cases h4:GJ (C.all f) k xs t with
  |err c=>rw[h4]at h;exact h
  |ok ys u=>rw[h4]at h;rw[Rs.bind_ok];exact hC.all f ys u hf h.2.1 (by rw[h.1];exact ho) h.2.2
theorem ZY {n:Nat}{k:Int}{xs:List Sr}{t:Nat}(hx:C4 n xs)(h0:0<xs.length)(ht:t≤3000):Z9 n (KJ k xs t):=by
 have h1:=(hx 0 h0).1
 unfold KJ
 split
 ·exact⟨⟨by rw[GO];exact h1,I1 _ _⟩,ht⟩
 ·split
  ·exact⟨⟨by rw[I0];exact h1,I2 _ _⟩,ht⟩
  ·split
   ·exact⟨⟨by rw[GN];exact h1,FM _ _⟩,ht⟩
   ·split
    ·exact⟨⟨by rw[GP];exact h1,Fd _ _⟩,ht⟩
    ·split
     ·exact .inl rfl
     ·exact⟨⟨by rw[El];exact h1,Fb _ _⟩,ht⟩
theorem TO {p:List Fn}{n F:Nat}{C:Ca}(hC:eS p n F C):∀(z:Nat)(e:Ex),e.size≤z→∀(env:List Sr)(s:Nat),wf p ((F:Nat):Int) e ((env.length:Nat):Int)=true→C4 n env→s≤3000→Z9 n (Cm n C e env s)
 |0,e,h,_,_,_,_,_=>by have:=C0 e;omega
 |z+1,e,h,env,s,hw,he,hs=>by
  obtain⟨w1,w2,w3,w4,w5,w6,w7,w8⟩:=D9 (CU hw)
  have hz:∀j,j<e.kids.length→(e.kids.getD j Ex.zero).size≤z:=fun j hj=>by
   have h2:e.kids.getD j Ex.zero∈e.kids:=by rw[FN hj];exact List.getElem_mem hj
   have:=C0 e;have:=Kp h2;omega
  have hk:∀j,j<e.kids.length→¬(e.kind=9∧j=1)→∀t,t≤3000→Z9 n (Gb n C e.kids j env t):=fun j hj hn t ht=>by
   rw[DP _ _ _ _ _ _ hj]
   exact TO hC z _ (hz j hj) env t (E6 hw hj hn) he ht
  rw[E5]
  split
  ·exact .inr rfl
  ·rename_i hs3
   split
   ·rename_i h1;exact⟨En (CD.2 (w8 h1)),zO⟩
   ·split
    ·rename_i h1 h2;exact⟨he _ (by have:=w2 h2;omega),zO⟩
    ·split
     ·rename_i h1 h2 h8
      have h3:=w5 h8
      have hc:=hk 0 zO zO (s+1) zO
      cases h4:Gb n C e.kids 0 env (s+1)with
      |err c=>rw[h4]at hc;exact hc
      |ok x t =>
       rw[h4]at hc;rw[Rs.bind_ok]
       split
       ·exact hk 1 zO zO t hc.2
       ·exact hk 2 zO zO t hc.2
     ·split
      ·rename_i h1 h2 h8 h9
       have h3:=w3 zO
       have hc:=hk 0 zO zO (s+1) zO
       cases h4:Gb n C e.kids 0 env (s+1)with
       |err c=>rw[h4]at hc;exact hc
       |ok x t =>
        rw[h4]at hc;rw[Rs.bind_ok,DP _ _ _ _ _ _ (show 1<e.kids.length by omega)]
        refine TO hC z _ (hz 1 zO) (env++[x]) t ?_ (he.snoc hc.1) hc.2
        have:=Kg hw zO h9
        rw[z4,zd];exact this
      ·rename_i h1 h2 h8 h9
       have hc:=TN (n:=n) (C:=C) (env:=env) e.kids (fun x hx t ht=>by
        obtain⟨j,hj,rfl⟩:=List.mem_iff_getElem.1 hx
        have:=hk j hj zO t ht
        rwa [DP _ _ _ _ _ _ hj,FN hj]at this) (s+1) zO
       cases h4:CB n C e.kids env (s+1)with
       |err c=>rw[h4]at hc;exact hc
       |ok xs t =>
        rw[h4]at hc;rw[Rs.bind_ok]
        obtain⟨c1,c2,c3⟩:=hc
        split
        ·rename_i h10
         have h6:=w6<|.inl h10
         exact hC.one _ _ xs t zO zO c2 (by rw[c1];exact h6.2.2.1) c3
        ·split
         ·rename_i h11
          have h6:=w6 (.inr h11);have h7:=w7 h11
          have hl:=Xs hC (f:=e.num.toNat) zO h7.1 e.count.toNat xs t c2 zO c3
          cases h5:GJ (C.all e.num.toNat) e.count.toNat xs t with
          |err c=>rw[h5]at hl;exact hl
          |ok ys u=>rw[h5]at hl;exact⟨hl.2.1 _ (by rw[hl.1];omega),hl.2.2⟩
         ·refine ZY c2 ?_ c3
          rw[c1]
          by_cases h7:e.kind=7
          ·rw[w4 h7];decide
          ·rw[w3 (by omega)];decide
theorem TP {p:List Fn}(hv:Hz p)(n:Nat):∀F,F≤p.length→eS p n F (Df p n F)
 |0,_=>⟨fun f j xs t h=>by omega,fun f xs t h=>by omega⟩
 |F+1,hF=>by
  have ih:=TP hv n F zO
  have hO:∀j xs t,j<(p.getD F Fn.zero).outs.length→C4 n xs→((xs.length:Nat):Int)=(p.getD F Fn.zero).params→t≤3000→Z9 n (Cm n (Df p n F) ((p.getD F Fn.zero).outs.getD j Ex.zero) xs t):=fun j xs t h2 h3 h4 h5 =>
   TO ih _ _ (A7 _) xs t (by rw[h4];exact hv.wf F zO j h2) h3 h5
  refine⟨fun f j xs t h1 h2 h3 h4 h5=>?_,fun f xs t h1 h3 h4 h5=>?_⟩
  ·show Z9 n (if f=F then _ else _)
   split
   ·rename_i e;subst e;exact hO j xs t h2 h3 h4 h5
   ·exact ih.one f j xs t zO h2 h3 h4 h5
  ·show dX n _ (if f=F then _ else _)
   split
   ·rename_i e;subst e
    refine TN _ (fun e he s hs=>?_) t h5
    obtain⟨j,hj,rfl⟩:=List.mem_iff_getElem.1 he
    have:=hO j xs s hj h3 h4 hs
    rwa [FN hj]at this
   ·exact ih.all f xs t zO h3 h4 h5
theorem ZZ {p:List Fn}(hv:Hz p){n f:Nat}{a:List Sr}(hf:f<p.length)(ha:C4 n a)(hl:((a.length:Nat):Int)=(p.getD f Fn.zero).params):Va p n f a:=by
 have h:=(TP hv n (f+1) zO).all f a 0 zO ha hl zO
 rw[Gj (by omega)]at h
 have e:ev p n f a=CB n (Df p n f) (p.getD f Fn.zero).outs a 0:=rfl
 rw[← e]at h
 cases h2:ev p n f a with
 |err c =>
  rw[h2]at h;have h:c=6∨c=7:=h
  exact⟨by rw[FP h2];omega,by rw[QO h2];omega,fun hh=>by rw[FP h2]at hh;omega,by rw[OK h2];exact C4.nil n,fun _=>OK h2⟩
 |ok xs s =>
  rw[h2]at h;have h:xs.length=_∧C4 n xs∧s≤3000:=h
  exact⟨by rw[KL h2];omega,by rw[QN h2];exact h.2.2,fun _=>by rw[GU h2];exact h.1,by rw[GU h2];exact h.2.1,fun hh=>absurd (KL h2) hh⟩
theorem Za {a b:Sr}(hl:a.length=b.length)(h:∀j,j<a.length→a.getD j 0=b.getD j 0):a=b :=
 List.ext_getElem hl fun j h1 h2=>by have:=h j h1;rwa [FN h1,FN h2]at this
theorem TQ {y z:List Sr}(hl:y.length=z.length)(h:∀j,j<y.length→y.getD j []=z.getD j []):y=z :=
 List.ext_getElem hl fun j h1 h2=>by have:=h j h1;rwa [FN h1,FN h2]at this
section
variable {p:List Fn} {f o:Nat} {a:List Int}
theorem Zb (s:Sr)(k:Nat)(x:Int)(j:Nat):(s.set k x).getD j 0=if j=k∧k<s.length then x else s.getD j 0:=by
 simp only[List.getD_eq_getElem?_getD,List.getElem?_set]
 by_cases e:k=j
 ·subst e
  by_cases h:k<s.length
  ·simp[h]
  ·simp[h,List.getElem?_eq_none (Nat.le_of_not_lt h)]
 ·rw[if_neg e,if_neg (by omega)]
end
end
theorem TR {s:ByteArray}(h:Le s=true):s.size≤12:=by
 unfold Le at h
 simp only[z7,decide_eq_true_eq]at h
 exact h.1.2
theorem LG.szp {p:List Fn}{pl:Bool}(h:LG p pl):LF p:=fun k hk=>⟨by have:=h.sz k hk;omega,by have:=h.outs k hk;omega,by have:=TR (h.nm k hk);omega⟩
section
def On {α:Type}(f:Nat→Rs α)(r:Rs α)(d:Nat):Prop:=∀s,s≤3000→f s=if s+d≤3000 then(match r with|.ok x _=>.ok x (s+d)|.err c=>.err c)else .err 7
def BM {α:Type}(f:Nat→Rs α):Prop:=∃r d,On f r d
theorem On.bind_err {α β:Type}{f:Nat→Rs α}{c:Int}{d:Nat}(h:On f (.err c) d)(g:α→Nat→Rs β):On (fun s=>(f s).bind g) (.err c) d:=by
 intro s hs
 show(f s).bind g=_
 rw[h s hs]
 split <;> rfl
theorem On.bind_ok {α β:Type}{f:Nat→Rs α}{x:α}{t d:Nat}(h:On f (.ok x t) d){g:α→Nat→Rs β}{r:Rs β}{e:Nat}(hg:On (g x) r e):On (fun s=>(f s).bind g) r (d+e):=by
 intro s hs
 show(f s).bind g=_
 rw[h s hs]
 by_cases h1:s+d≤3000
 ·rw[if_pos h1]
  show g x (s+d)=_
  rw[hg (s+d) h1]
  by_cases h2:s+d+e≤3000
  ·rw[if_pos h2,if_pos zO,show s+d+e=s+(d+e)from by omega]
  ·rw[if_neg h2,if_neg (by omega)]
 ·rw[if_neg h1,if_neg (by omega)];rfl
theorem BM.bind {α β:Type}{f:Nat→Rs α}(h:BM f){g:α→Nat→Rs β}(hg:∀x,BM (g x)):BM (fun s=>(f s).bind g):=by
 obtain⟨r,d,h⟩:=h
 cases r with
 |err c=>exact⟨_,_,h.bind_err g⟩
 |ok x t =>
  obtain⟨r',e,h'⟩:=hg x
  exact⟨_,_,h.bind_ok h'⟩
theorem On.one {α:Type}{f:Nat→Rs α}{r:Rs α}{d:Nat}(h:On f r d):On (fun s=>if 3000≤s then .err 7 else f (s+1)) r (1+d):=by
 intro s hs
 show(if 3000≤s then _ else _)=_
 by_cases h1:3000≤s
 ·rw[if_pos h1,if_neg (by omega)]
 ·rw[if_neg h1,h (s+1) (by omega)]
  by_cases h2:s+1+d≤3000
  ·rw[if_pos h2,if_pos zO,show s+1+d=s+(1+d)from by omega]
  ·rw[if_neg h2,if_neg (by omega)]
theorem BM.one {α:Type}{f:Nat→Rs α}(h:BM f):BM (fun s=>if 3000≤s then .err 7 else f (s+1)):=by
 obtain⟨r,d,h⟩:=h
 exact⟨_,_,h.one⟩
theorem On.ret {α:Type}(x:α):On (fun s=>Rs.ok x s) (.ok x 0) 0:=fun s hs=>by rw[if_pos (by omega)];rfl
theorem BM.ret {α:Type}(x:α):BM (fun s=>Rs.ok x s):=⟨_,_,On.ret x⟩
theorem BM.fail {α:Type}(c:Int):BM (fun _=>(Rs.err c:Rs α)):=⟨.err c,0,fun s hs=>by rw[if_pos (by omega)]⟩
theorem BM.lop {f:List Sr→Nat→Rs (List Sr)}(hf:∀a,BM (f a)):∀(k:Nat)(a:List Sr),BM (GJ f k a)
 |0,a=>BM.ret a
 |k+1,a=>(BM.lop hf k a).bind hf
theorem BM.opV (k:Int)(xs:List Sr):BM (KJ k xs):=by
 unfold Go.Proofs.YtbajepcpgncekaaGreat.KJ
 by_cases h3:k=3
 ·simp only[h3,if_true];exact BM.ret _
 ·by_cases h4:k=4
  ·simp only[h4];exact BM.ret _
  ·by_cases h5:k=5
   ·simp only[h5];exact BM.ret _
   ·by_cases h7:k=7
    ·simp only[h7];exact BM.ret _
    ·simp only[if_neg h3,if_neg h4,if_neg h5,if_neg h7]
     by_cases h:(xs.getD 1 []).getD 0 0=0
     ·simp only[h,if_true];exact BM.fail 6
     ·simp only[if_neg h];exact BM.ret _
def TS (n:Nat) (C:Ca) (e:Ex) (env:List Sr) (t:Nat):Rs Sr :=
  if e.kind = 1 then Rs.ok (cst n e.num) t
        else if e.kind = 2 then .ok (env.getD e.num.toNat []) t
        else if e.kind = 8 then (Gb n C e.kids 0 env t).bind fun x t=>if x.getD 0 0 = 0 then Gb n C e.kids 1 env t else Gb n C e.kids 2 env t
        else if e.kind = 9 then (Gb n C e.kids 0 env t).bind fun x t=>Gb n C e.kids 1 (env++[x]) t
        else (CB n C e.kids env t).bind fun xs t =>
          if e.kind = 10 then C.one e.num.toNat e.pick.toNat xs t
          else if e.kind = 11 then (GJ (C.all e.num.toNat) e.count.toNat xs t).bind fun ys u=>.ok (ys.getD e.pick.toNat []) u
          else KJ e.kind xs t
section
variable {n:Nat} {C:Ca}
theorem Iw {env:List Sr}:∀(l:List Ex),(∀e∈l,BM (Cm n C e env))→BM (CB n C l env)
 |[],_=>by
  have:CB n C [] env=fun s=>Rs.ok [] s:=funext fun s=>by rw[CB]
  rw[this];exact BM.ret _
 |e::l,h=>by
  have:CB n C (e::l) env=fun s=>(Cm n C e env s).bind fun x t=>(CB n C l env t).bind fun xs u=>.ok (x::xs) u:=funext fun s=>by rw[CB]
  rw[this]
  exact (h e (z0 ..)).bind fun x=>(Iw l fun e he=>h e<|z3 _ he).bind fun xs=>BM.ret _
theorem FG {env:List Sr}:∀(l:List Ex)(j:Nat),(∀e∈l,BM (Cm n C e env))→BM (Gb n C l j env)
 |[],j,_=>by
  have:Gb n C [] j env=fun s=>Rs.err 0:=funext fun s=>by rw[Gb]
  rw[this];exact BM.fail 0
 |e::l,0,h=>by
  have:Gb n C (e::l) 0 env=Cm n C e env:=funext fun s=>by rw[Gb]
  rw[this];exact h e (z0 ..)
 |e::l,j+1,h=>by
  have:Gb n C (e::l) (j+1) env=Gb n C l j env:=funext fun s=>by rw[Gb]
  rw[this];exact FG l j fun e he=>h e (z3 _ he)
theorem Kq (h1:∀f j a,BM (C.one f j a))(h2:∀f a,BM (C.all f a)):∀(z:Nat)(e:Ex),e.size≤z→∀env,BM (Cm n C e env):=by
 intro z
 induction z with
 |zero=>intro e he;have:=C0 e;omega
 |succ z ih =>
  intro e he env
  have hk:∀env,∀x∈e.kids,BM (Cm n C x env):=fun env x hx=>by
   obtain⟨k,hk,rfl⟩:=List.mem_iff_getElem.1 hx
   have h3:=EY (l:=e.kids) (k:=k) hk
   have h4:=C0 e
   rw[List.getD_eq_getElem?_getD,List.getElem?_eq_getElem hk,Option.getD_some]at h3
   exact ih _ zO env
  have hE:Cm n C e env=fun s=>if 3000≤s then .err 7 else TS n C e env (s+1):=funext fun s=>E5 n C e env s
  rw[hE]
  refine BM.one (f:=TS n C e env) ?_
  unfold TS
  by_cases k1:e.kind=1
  ·simp only[if_pos k1];exact BM.ret _
  simp only[if_neg k1]
  by_cases k2:e.kind=2
  ·simp only[if_pos k2];exact BM.ret _
  simp only[if_neg k2]
  by_cases k8:e.kind=8
  ·simp only[if_pos k8]
   refine (FG _ _<|hk env).bind fun x=>?_
   by_cases hx:x.getD 0 0=0
   ·simp only[if_pos hx];exact FG _ _ (hk env)
   ·simp only[if_neg hx];exact FG _ _ (hk env)
  simp only[if_neg k8]
  by_cases k9:e.kind=9
  ·simp only[if_pos k9]
   exact (FG _ _<|hk env).bind fun x=>FG _ _<|hk _
  simp only[if_neg k9]
  refine (Iw _<|hk env).bind fun xs=>?_
  by_cases k10:e.kind=10
  ·simp only[if_pos k10];exact h1 _ _ _
  simp only[if_neg k10]
  by_cases k11:e.kind=11
  ·simp only[if_pos k11]
   exact (BM.lop (h2 _) _ _).bind fun ys=>BM.ret _
  simp only[if_neg k11]
  exact BM.opV _ _
end
theorem Kr (p:List Fn)(n:Nat):∀F,(∀f j a,BM ((Df p n F).one f j a))∧∀f a,BM ((Df p n F).all f a)
 |0=>⟨fun _ _ _=>BM.fail 0,fun _ _=>BM.fail 0⟩
 |F+1=>by
  obtain⟨h1,h2⟩:=Kr p n F
  refine⟨fun f j a=>?_,fun f a=>?_⟩
  ·show BM (fun s=>if f=F then _ else _)
   by_cases e:f=F
   ·simp only[if_pos e];exact Kq h1 h2 _ _ (A7 _) _
   ·simp only[if_neg e];exact h1 f j a
  ·show BM (fun s=>if f=F then _ else _)
   by_cases e:f=F
   ·simp only[if_pos e];exact Iw _ fun x hx=>Kq h1 h2 _ _ (A7 _) _
   ·simp only[if_neg e];exact h2 f a
theorem PR (p:List Fn)(n F:Nat)(e:Ex)(env:List Sr):BM (Cm n (Df p n F) e env):=Kq (Kr p n F).1 (Kr p n F).2 _ _ (A7 _) _
theorem R3 (p r:List Fn)(n:Nat):∀F,F≤p.length→Df (p++r) n F=Df p n F
 |0,_=>rfl
 |F+1,h=>by
  have h1:=R3 p r n F zO
  have h2:(p++r).getD F Fn.zero=p.getD F Fn.zero:=Gn zO
  show(⟨_,_⟩:Ca)=⟨_,_⟩
  rw[h1,h2]
def E7 (i:Nat):Nat→List Ex
 |0=>[]
 |r+1=>.mk 2 ((i:Nat):Int) 0 0 []::E7 (i+1) r
theorem FT:∀(r i:Nat),(E7 i r).length=r
 |0,_=>rfl
 |r+1,i=>by show(E7 (i+1) r).length+1=_;rw[FT r]
theorem Ix:∀(r i:Nat),E7 i (r+1)=E7 i r++[.mk 2 ((i+r:Nat):Int) 0 0 []]
 |0,i=>rfl
 |r+1,i=>by
  show _::E7 (i+1) (r+1)=_::E7 (i+1) r++_
  rw[Ix r (i+1),show i+1+r=i+(r+1)from by omega];rfl
theorem P0 {n:Nat}{C:Ca}{env:List Sr}:∀(r i:Nat),i+r≤env.length→On (CB n C (E7 i r) env) (.ok ((env.drop i).take r) 0) r
 |0,i,h=>by
  intro s hs
  show CB n C [] env s=_
  rw[CB,if_pos (by omega)];rfl
 |r+1,i,h=>by
  have hv:Cm n C (.mk 2 ((i:Nat):Int) 0 0 []) env=fun s=>if 3000≤s then .err 7 else(fun t=>Rs.ok (env.getD i []) t) (s+1):=funext fun s=>by
   rw[E5]
   show(if 3000≤s then _ else _)=_
   simp[Ex.kind,Ex.num]
  have he:CB n C (E7 i (r+1)) env=fun s=>(Cm n C (.mk 2 ((i:Nat):Int) 0 0 []) env s).bind fun x t=>(CB n C (E7 (i+1) r) env t).bind fun xs u=>.ok (x::xs) u:=funext fun s=>by
   show CB n C (_::E7 (i+1) r) env s=_
   rw[CB]
  rw[he,hv]
  have h1:=On.one (f:=fun t=>Rs.ok (env.getD i []) t)<|On.ret<|env.getD i []
  have h2:=P0 (n:=n) (C:=C) (env:=env) r (i+1) zO
  have h3:=h1.bind_ok (g:=fun x t=>(CB n C (E7 (i+1) r) env t).bind fun xs u=>.ok (x::xs) u)<|h2.bind_ok (g:=fun xs u=>.ok (env.getD i []::xs) u)<|On.ret _
  have e1:(env.drop i).take (r+1)=env.getD i []::(env.drop (i+1)).take r:=by
   rw[List.drop_eq_getElem_cons zO,List.take_succ_cons,List.getD_eq_getElem?_getD,List.getElem?_eq_getElem zO,Option.getD_some]
  rw[e1]
  intro s hs
  rw[h3 s hs,show 1+0+(r+0)=r+1 from by omega]
theorem Zc {p r:List Fn}{n f F:Nat}{env:List Sr}(hf:f<F)(hp:f<p.length):(Df (p++r) n F).all f env=CB n (Df p n f) (p.getD f Fn.zero).outs env:=funext fun s=>by
 rw[Gj hf,R3 p r n f zO,Gn hp]
def IF (p:List Fn)(f:Int)(a:Sr):Int:=if Gx p f=0 then(if (decide (((a.length:Nat):Int)=(p.getD f.toNat Fn.zero).params) && Bb a)=true then 0 else 2)else Gx p f
def Sa (p:List Fn)(f:Int)(a:Sr):Int:=if IF p f a=0 then FS p f.toNat a else IF p f a
def ZF (p:List Fn)(f:Int)(a:Sr):Sr:=if IF p f a=0 then Lh p f.toNat a else []
def Si (p:List Fn)(f:Int)(a:Sr):Nat:=if IF p f a=0 then J8 p 1 f.toNat (BB a)else 0
section
variable {p:List Fn} {f:Int} {a:Sr}
theorem TT (h:IF p f a=0):Ef p=true∧(0≤f∧f<((p.length:Nat):Int))∧((a.length:Nat):Int)=(p.getD f.toNat Fn.zero).params∧Bb a=true:=by
 unfold IF at h
 split at h
 ·rename_i h1
  split at h
  ·rename_i h2
   rw[z7,decide_eq_true_eq]at h2
   obtain⟨q1,q2,q3⟩:=OV h1
   exact⟨q1,⟨q2,q3⟩,h2.1,h2.2⟩
  ·omega
 ·rename_i h1;exact absurd h h1
theorem TU (h:Gx p f≠0):Gx p f=IF p f a:=by unfold IF;rw[if_neg h]
theorem TV (h:Gx p f=0)(h2:(decide (((a.length:Nat):Int)=(p.getD f.toNat Fn.zero).params) && Bb a)=false):2=IF p f a:=by unfold IF;rw[if_pos h,h2];rfl
theorem VN (h:Gx p f=0)(h2:(decide (((a.length:Nat):Int)=(p.getD f.toNat Fn.zero).params) && Bb a)=true):0=IF p f a:=by unfold IF;rw[if_pos h,h2];rfl
theorem Xt (h:IF p f a≠0):Sa p f a=IF p f a:=if_neg h
theorem R4 (h:IF p f a≠0):ZF p f a=[]:=if_neg h
theorem Xu (h:IF p f a≠0):Si p f a=0:=if_neg h
theorem R5 (h:IF p f a=0):Sa p f a=FS p f.toNat a:=if_pos h
theorem KO (h:IF p f a=0):ZF p f a=Lh p f.toNat a:=if_pos h
theorem TW (h:IF p f a=0):Si p f a=J8 p 1 f.toNat (BB a):=if_pos h
end
end
section
def Iy {α:Type}(K:Nat)(R:(Nat→α)→α→Prop)(r:Nat→Rs α)(rz:Rs α):Prop:=match rz with
 |.ok z t=>∃x,(∀k,k<K→r k=.ok (x k) t)∧R x z
 |.err c=>∀k,k<K→r k=.err c
theorem Iy.congr {α:Type}{K:Nat}{R:(Nat→α)→α→Prop}{r r':Nat→Rs α}{rz:Rs α}(h:Iy K R r rz)(e:∀k,k<K→r' k=r k):Iy K R r' rz:=by
 cases rz with
 |ok z t=>obtain⟨x,h1,h2⟩:=h;exact⟨x,fun k hk=>(e k hk).trans (h1 k hk),h2⟩
 |err c=>exact fun k hk=>(e k hk).trans (h k hk)
theorem Iy.bind {α β:Type}{K:Nat}{R:(Nat→α)→α→Prop}{R':(Nat→β)→β→Prop}{r:Nat→Rs α}{rz:Rs α}{g:Nat→α→Nat→Rs β}{gz:α→Nat→Rs β}(h:Iy K R r rz)
  (hg:∀x z t,R x z→Iy K R' (fun k=>g k (x k) t) (gz z t)):Iy K R' (fun k=>(r k).bind (g k)) (rz.bind gz):=by
 cases rz with
 |ok z t =>
  obtain⟨x,h1,h2⟩:=h
  exact(hg x z t h2).congr fun k hk=>by rw[h1 k hk];rfl
 |err c=>exact fun k hk=>by show(r k).bind _=_;rw[h k hk];rfl
theorem Iy.ret {α:Type}{K:Nat}{R:(Nat→α)→α→Prop}{x:Nat→α}{z:α}{t:Nat}(h:R x z):Iy K R (fun k=>.ok (x k) t) (.ok z t):=⟨x,fun _ _=>rfl,h⟩
theorem Iy.fail {α:Type}{K:Nat}{R:(Nat→α)→α→Prop}{c:Int}:Iy K R (fun _=>.err c) (.err c):=fun _ _=>rfl
structure aA (K:Nat)(n:Nat→Nat)(nz:Nat)(R:(Nat→Sr)→Sr→Prop):Prop where
 zero:∀x z,R x z→∀k,k<K→((x k).getD 0 0=0↔z.getD 0 0=0)
 cst:∀c,IS c=true→R (fun k=>cst (n k) c) (Go.Proofs.YtbajepcpgncekaaGreat.cst nz c)
 add:∀x z y w,R x z→R y w→R (fun k=>Ee (x k) (y k)) (Ee z w)
 red:∀x z y w,R x z→R y w→R (fun k=>FB (x k) (y k)) (FB z w)
 pro:∀x z y w,R x z→R y w→R (fun k=>Ct (x k) (y k)) (Ct z w)
 scl:∀x z,R x z→R (fun k=>CH (x k) 1000002) (CH z 1000002)
 quo:∀x z y w,R x z→R y w→w.getD 0 0≠0→R (fun k=>C3 (x k) (y k)) (C3 z w)
def Lm (K:Nat)(R:(Nat→Sr)→Sr→Prop)(m:Nat)(xs:Nat→List Sr)(zs:List Sr):Prop:=zs.length=m∧(∀k,k<K→(xs k).length=m)∧∀i,i<m→∃x,(∀k,k<K→(xs k).getD i []=x k)∧R x (zs.getD i [])
section
variable {K:Nat} {n:Nat→Nat} {nz:Nat} {R:(Nat→Sr)→Sr→Prop} {p:List Fn}
theorem Lm.nil:Lm K R 0 (fun _=>[]) []:=⟨rfl,fun _ _=>rfl,fun i hi=>by omega⟩
theorem Lm.cons {m:Nat}{x:Nat→Sr}{z:Sr}{xs:Nat→List Sr}{zs:List Sr}(h1:R x z)(h:Lm K R m xs zs):Lm K R (m+1) (fun k=>x k::xs k) (z::zs):=by
 refine⟨by rw[z9,h.1],fun k hk=>by rw[z9,h.2.1 k hk],fun i hi=>?_⟩
 cases i with
 |zero=>exact⟨x,fun _ _=>rfl,h1⟩
 |succ i =>
  obtain⟨y,h3,h4⟩:=h.2.2 i zO
  exact⟨y,fun k hk=>by simpa using h3 k hk,by simpa using h4⟩
theorem Lm.snoc {m:Nat}{x:Nat→Sr}{z:Sr}{xs:Nat→List Sr}{zs:List Sr}(h:Lm K R m xs zs)(h1:R x z):Lm K R (m+1) (fun k=>xs k++[x k]) (zs++[z]):=by
 refine⟨by simp[h.1],fun k hk=>by simp[h.2.1 k hk],fun i hi=>?_⟩
 by_cases e:i=m
 ·exact⟨x,fun k hk=>Gp (by rw[h.2.1 k hk];exact e),by rw[Gp (by rw[h.1];exact e)];exact h1⟩
 ·obtain⟨y,h3,h4⟩:=h.2.2 i zO
  exact⟨y,fun k hk=>by rw[Gn (by rw[h.2.1 k hk];omega)];exact h3 k hk,by rw[Gn (by rw[h.1];omega)];exact h4⟩
structure eT (K:Nat)(R:(Nat→Sr)→Sr→Prop)(p:List Fn)(F:Nat)(C:Nat→Ca)(Cz:Ca):Prop where
 one:∀f j m xs zs t,f<F→j<(p.getD f Fn.zero).outs.length→Lm K R m xs zs→((m:Nat):Int)=(p.getD f Fn.zero).params→Iy K R (fun k=>(C k).one f j (xs k) t) (Cz.one f j zs t)
 all:∀f m xs zs t,f<F→Lm K R m xs zs→((m:Nat):Int)=(p.getD f Fn.zero).params→Iy K (Lm K R (p.getD f Fn.zero).outs.length) (fun k=>(C k).all f (xs k) t) (Cz.all f zs t)
theorem TX {C:Nat→Ca}{Cz:Ca}{env:Nat→List Sr}{ez:List Sr}:∀(l:List Ex),(∀e∈l,∀s,Iy K R (fun k=>Cm (n k) (C k) e (env k) s) (Cm nz Cz e ez s))→∀s,Iy K (Lm K R l.length) (fun k=>CB (n k) (C k) l (env k) s) (CB nz Cz l ez s)
 |[],_,s=>by
  simp only[CB]
  exact Iy.ret Lm.nil
 |e::l,h,s=>by
  simp only[CB]
  exact (h e (z0 ..) s).bind fun x z t hx=>(TX l (fun e he=>h e<|z3 _ he) t).bind fun xs zs u hxs=>Iy.ret<|hxs.cons hx
theorem Xv {F f:Nat}{C:Nat→Ca}{Cz:Ca}(hC:eT K R p F C Cz)(hf:f<F)(ho:(((p.getD f Fn.zero).outs.length:Nat):Int)=(p.getD f Fn.zero).params):∀(c:Nat)(xs:Nat→List Sr)(zs:List Sr)(t:Nat),Lm K R (p.getD f Fn.zero).outs.length xs zs →
  Iy K (Lm K R (p.getD f Fn.zero).outs.length) (fun k=>GJ ((C k).all f) c (xs k) t) (GJ (Cz.all f) c zs t)
 |0,xs,zs,t,h=>Iy.ret h
 |c+1,xs,zs,t,h=>(Xv hC hf ho c xs zs t h).bind fun ys ws u hy=>hC.all f _ ys ws u hf hy ho
theorem Lm.at {m i:Nat}{xs:Nat→List Sr}{zs:List Sr}{t:Nat}(h:Lm K R m xs zs)(hi:i<m):Iy K R (fun k=>.ok ((xs k).getD i []) t) (.ok (zs.getD i []) t):=by
 obtain⟨x,h1,h2⟩:=h.2.2 i hi
 exact(Iy.ret h2).congr fun k hk=>by rw[h1 k hk]
theorem Lm.two {m t t':Nat}{xs:Nat→List Sr}{zs:List Sr}{o:Sr→Sr→Sr}(h:Lm K R m xs zs)(hm:2≤m)(ho:∀x z y w,R x z→R y w→R (fun k=>o (x k) (y k)) (o z w)) :
  Iy K R (fun k=>.ok (o ((xs k).getD 0 []) ((xs k).getD 1 [])) t) (.ok (o (zs.getD 0 []) (zs.getD 1 [])) t):=by
 obtain⟨x,h1,h2⟩:=h.2.2 0 zO
 obtain⟨y,h3,h4⟩:=h.2.2 1 zO
 exact(Iy.ret (ho x _ y _ h2 h4)).congr fun k hk=>by rw[h1 k hk,h3 k hk]
theorem aB (hR:aA K n nz R){kd:Int}{m t:Nat}{xs:Nat→List Sr}{zs:List Sr}(h:Lm K R m xs zs)(h1:kd=7→1≤m)(h2:kd≠7→2≤m):Iy K R (fun k=>KJ kd (xs k) t) (KJ kd zs t):=by
 unfold KJ
 by_cases k3:kd=3
 ·simp only[if_pos k3];exact h.two (t':=0) (h2 zO) hR.add
 simp only[if_neg k3]
 by_cases k4:kd=4
 ·simp only[if_pos k4];exact h.two (t':=0) (h2 zO) hR.red
 simp only[if_neg k4]
 by_cases k5:kd=5
 ·simp only[if_pos k5];exact h.two (t':=0) (h2 zO) hR.pro
 simp only[if_neg k5]
 by_cases k7:kd=7
 ·simp only[if_pos k7]
  obtain⟨x,q1,q2⟩:=h.2.2 0 (h1 k7)
  exact(Iy.ret (hR.scl x _ q2)).congr fun k hk=>by rw[q1 k hk]
 simp only[if_neg k7]
 obtain⟨x,q1,q2⟩:=h.2.2 0 (by have:=h2 k7;omega)
 obtain⟨y,q3,q4⟩:=h.2.2 1 (by have:=h2 k7;omega)
 have hz:=hR.zero y _ q4
 by_cases h0:(zs.getD 1 []).getD 0 0=0
 ·simp only[if_pos h0]
  exact fun k hk=>by
   show(if List.getD ((xs k).getD 1 []) 0 0=0 then _ else _)=_
   rw[q3 k hk,if_pos ((hz k hk).2 h0)]
 ·simp only[if_neg h0]
  exact(Iy.ret (hR.quo x _ y _ q2 q4 h0)).congr fun k hk=>by rw[q3 k hk,q1 k hk,if_neg fun h=>h0 ((hz k hk).1 h)]
theorem TY (hR:aA K n nz R){F:Nat}{C:Nat→Ca}{Cz:Ca}(hC:eT K R p F C Cz):∀(z:Nat)(e:Ex),e.size≤z→∀(m:Nat)(env:Nat→List Sr)(ez:List Sr)(s:Nat),wf p ((F:Nat):Int) e ((m:Nat):Int)=true→Lm K R m env ez→Iy K R (fun k=>Cm (n k) (C k) e (env k) s) (Cm nz Cz e ez s)
 |0,e,h,_,_,_,_,_,_=>by have:=C0 e;omega
 |z+1,e,h,m,env,ez,s,hw,he=>by
  obtain⟨w1,w2,w3,w4,w5,w6,w7,w8⟩:=D9 (CU hw)
  have hz:∀j,j<e.kids.length→(e.kids.getD j Ex.zero).size≤z:=fun j hj=>by
   have:=C0 e;have:=EY hj;omega
  have hk:∀j,j<e.kids.length→¬(e.kind=9∧j=1)→∀t,Iy K R (fun k=>Gb (n k) (C k) e.kids j (env k) t) (Gb nz Cz e.kids j ez t):=fun j hj hn t=>by
   simp only[DP _ _ _ _ _ _ hj]
   exact TY hR hC z _ (hz j hj) m env ez t (E6 hw hj hn) he
  simp only[E5]
  by_cases hs3:3000≤s
  ·simp only[if_pos hs3];exact Iy.fail
  simp only[if_neg hs3]
  by_cases k1:e.kind=1
  ·simp only[if_pos k1];exact Iy.ret (hR.cst _ (CD.2 (w8 k1)))
  simp only[if_neg k1]
  by_cases k2:e.kind=2
  ·simp only[if_pos k2];exact he.at (by have:=w2 k2;omega)
  simp only[if_neg k2]
  by_cases k8:e.kind=8
  ·simp only[if_pos k8]
   have h3:=w5 k8
   refine (hk 0 zO zO (s+1)).bind fun x y t hx=>?_
   have hq:=hR.zero x y hx
   by_cases h0:y.getD 0 0=0
   ·simp only[if_pos h0]
    exact(hk 1 zO zO t).congr fun k hk=>by rw[if_pos ((hq k hk).2 h0)]
   ·simp only[if_neg h0]
    exact(hk 2 zO zO t).congr fun k hk=>by rw[if_neg fun h=>h0 ((hq k hk).1 h)]
  simp only[if_neg k8]
  by_cases k9:e.kind=9
  ·simp only[if_pos k9]
   have h3:=w3 zO
   refine (hk 0 zO zO (s+1)).bind fun x y t hx=>?_
   simp only[DP _ _ _ _ _ _ (show 1<e.kids.length by omega)]
   refine TY hR hC z _ (hz 1 zO) (m+1) (fun k=>env k++[x k]) (ez++[y]) t ?_<|he.snoc hx
   have:=Kg hw zO k9
   rw[Int.natCast_add];exact this
  simp only[if_neg k9]
  have hc:=TX (n:=n) (C:=C) (nz:=nz) (Cz:=Cz) (env:=env) (ez:=ez) e.kids (fun x hx t=>by
   obtain⟨j,hj,rfl⟩:=List.mem_iff_getElem.1 hx
   have:=hk j hj zO t
   simp only[DP _ _ _ _ _ _ hj,FN hj]at this
   exact this) (s+1)
  refine hc.bind fun xs zs t hx=>?_
  by_cases k10:e.kind=10
  ·simp only[if_pos k10]
   have h6:=w6<|.inl k10
   exact hC.one _ _ _ xs zs t zO zO hx (by exact h6.2.2.1)
  simp only[if_neg k10]
  by_cases k11:e.kind=11
  ·simp only[if_pos k11]
   have h6:=w6 (.inr k11);have h7:=w7 k11
   have hl:e.kids.length=(p.getD e.num.toNat Fn.zero).outs.length:=by omega
   rw[hl]at hx
   exact (Xv hC (f:=e.num.toNat) zO h7.1 e.count.toNat xs zs t hx).bind fun ys ws u hy=>hy.at zO
  simp only[if_neg k11]
  exact aB hR hx (fun h7=>by rw[w4 h7];decide) fun h7=>by rw[w3 (by omega)];decide
theorem Xw (hR:aA K n nz R)(hv:Hz p):∀F,F≤p.length→eT K R p F (fun k=>Df p (n k) F) (Df p nz F)
 |0,_=>⟨fun f j m xs zs t h=>by omega,fun f m xs zs t h=>by omega⟩
 |F+1,hF=>by
  have ih:=Xw hR hv F zO
  have hO:∀j m xs zs t,j<(p.getD F Fn.zero).outs.length→Lm K R m xs zs→((m:Nat):Int)=(p.getD F Fn.zero).params→Iy K R (fun k=>Cm (n k) (Df p (n k) F) ((p.getD F Fn.zero).outs.getD j Ex.zero) (xs k) t) (Cm nz (Df p nz F) ((p.getD F Fn.zero).outs.getD j Ex.zero) zs t):=fun j m xs zs t h2 h3 h4 =>
   TY hR ih _ _ (A7 _) m xs zs t (by rw[h4];exact hv.wf F zO j h2) h3
  refine⟨fun f j m xs zs t h1 h2 h3 h4=>?_,fun f m xs zs t h1 h3 h4=>?_⟩
  ·show Iy K R (fun k=>if f=F then _ else _) (if f=F then _ else _)
   by_cases e:f=F
   ·subst e;simp only[if_true];exact hO j m xs zs t h2 h3 h4
   ·simp only[if_neg e];exact ih.one f j m xs zs t zO h2 h3 h4
  ·show Iy K _ (fun k=>if f=F then _ else _) (if f=F then _ else _)
   by_cases e:f=F
   ·subst e;simp only[if_true]
    refine TX _ (fun e he s=>?_) t
    obtain⟨j,hj,rfl⟩:=List.mem_iff_getElem.1 he
    have:=hO j m xs zs s hj h3 h4
    rwa [FN hj]at this
   ·simp only[if_neg e];exact ih.all f m xs zs t zO h3 h4
theorem eU (hR:aA K n nz R)(hv:Hz p){f m:Nat}{a:Nat→List Sr}{az:List Sr}(hf:f<p.length)(ha:Lm K R m a az)(hl:((m:Nat):Int)=(p.getD f Fn.zero).params) :
  Iy K (Lm K R (p.getD f Fn.zero).outs.length) (fun k=>ev p (n k) f (a k)) (ev p nz f az):=by
 have h:=(Xw hR hv (f+1) zO).all f m a az 0 zO ha hl
 simp only[Gj (show f<f+1 by omega)]at h
 exact h
end
end
def Pv (f:Nat→Int):Nat→Int
 |0=>0
 |k+1=>Pv f k+f k
theorem Ln {f g:Nat→Int}:∀K,(∀k,k<K→md (f k)=md (g k))→md (Pv f K)=md (Pv g K)
 |0,_=>rfl
 |K+1,h=>by
  show md (Pv f K+f K)=md (Pv g K+g K)
  rw[← EE,Ln K (fun k hk=>h k zO),h K zO,EE]
theorem R6 (A B:Int)(f g:Nat→Int):∀K,Pv (fun k=>A*f k+B*g k) K=A*Pv f K+B*Pv g K
 |0=>by show(0:Int)=A*0+B*0;simp
 |K+1=>by
  show Pv _ K+(A*f K+B*g K)=A*(Pv f K+f K)+B*(Pv g K+g K)
  rw[R6 A B f g K,Int.mul_add,Int.mul_add];omega
structure Rl (K:Nat)(c:Nat→Int)(x:Nat→Sr)(z:Sr):Prop where
 sz:Cu 2 z
 sx:∀k,k<K→Cu 2 (x k)
 v:∀k,k<K→(x k).getD 0 0=z.getD 0 0
 d:z.getD 1 0=md (Pv (fun k=>c k*(x k).getD 1 0) K)
theorem Rl.op {K:Nat}{c:Nat→Int}{xa xb out:Nat→Sr}{za zb oz:Sr}{A B:Int}(ha:Rl K c xa za)(hb:Rl K c xb zb)(hz:Cu 2 oz)(hx:∀k,k<K→Cu 2 (out k))(hv:∀k,k<K→(out k).getD 0 0=oz.getD 0 0)
  (h1:oz.getD 1 0=md (A*za.getD 1 0+B*zb.getD 1 0)) (h2:∀k,k<K→(out k).getD 1 0=md (A*(xa k).getD 1 0+B*(xb k).getD 1 0)):Rl K c out oz:=by
 refine⟨hz,hx,hv,?_⟩
 rw[h1,ha.d,hb.d,← EE,FA,FA,EE,← R6]
 refine Ln K fun k hk=>?_
 rw[h2 k hk,FA]
 congr 1
 rw[Int.mul_add,Int.mul_left_comm,Int.mul_left_comm B]
theorem Ni {a b:Sr}{k:Nat}(h:k<a.length):(Ee a b).getD k 0=md (a.getD k 0+b.getD k 0):=CE 0 h
theorem P1 {a b:Sr}{k:Nat}(h:k<a.length):(FB a b).getD k 0=md (a.getD k 0-b.getD k 0):=CE 0 h
theorem Nj {a:Sr}{y:Int}{k:Nat}(h:k<a.length):(CH a y).getD k 0=md (a.getD k 0*y):=CE 0 h
theorem LR {a b:Sr}(h:0<a.length):(Ct a b).getD 0 0=md (0+a.getD 0 0*b.getD 0 0):=CE 0 h
theorem Xx {a b:Sr}(h:1<a.length):(Ct a b).getD 1 0=md (md (0+a.getD 0 0*b.getD 1 0)+a.getD 1 0*b.getD 0 0):=CE 0 h
theorem P3 {a b:Sr}(h:0<a.length):(C3 a b).getD 0 0=md (a.getD 0 0*inv (b.getD 0 0)):=Lb h
theorem Xy {a b:Sr}(h:1<a.length):(C3 a b).getD 1 0=md (md (a.getD 1 0-(C3 a b).getD 0 0*b.getD 1 0)*inv (b.getD 0 0)):=Lb h
theorem VO {n:Nat}{c:Int}(h:0<n):(cst n c).getD 0 0=c:=by
 obtain⟨n,rfl⟩:∃k,n=k+1:=⟨n-1,zO⟩
 unfold cst;rw[List.replicate_succ];rfl
theorem Xz (c:Int):(cst 2 c).getD 1 0=0:=rfl
theorem Rl.all (K:Nat)(c:Nat→Int):aA K (fun _=>2) 2 (Rl K c) where
 zero:=fun x z h k hk=>by rw[h.v k hk]
 cst:=fun a ha=>⟨En ha,fun _ _=>En ha,fun _ _=>rfl,by
  have:∀K,Pv (fun k=>c k*(Go.Proofs.YtbajepcpgncekaaGreat.cst 2 a).getD 1 0) K=0:=fun K=>by
   induction K with
   |zero=>rfl
   |succ K ih=>show Pv _ K+c K*(Go.Proofs.YtbajepcpgncekaaGreat.cst 2 a).getD 1 0=0;rw[ih,Xz];simp
  rw[this,Xz];rfl⟩
 add:=fun x z y w hx hy=>Rl.op (A:=1) (B:=1) hx hy ⟨by rw[GO];exact hx.sz.1,I1 _ _⟩ (fun k hk=>⟨by rw[GO];exact(hx.sx k hk).1,I1 _ _⟩)
  (fun k hk=>by rw[Ni (by rw[(hx.sx k hk).1];decide),Ni (by rw[hx.sz.1];decide),hx.v k hk,hy.v k hk]) (by rw[Ni (by rw[hx.sz.1];decide),Int.one_mul,Int.one_mul]) (fun k hk=>by rw[Ni (by rw[(hx.sx k hk).1];decide),Int.one_mul,Int.one_mul])
 red:=fun x z y w hx hy=>Rl.op (A:=1) (B:=-1) hx hy ⟨by rw[I0];exact hx.sz.1,I2 _ _⟩ (fun k hk=>⟨by rw[I0];exact(hx.sx k hk).1,I2 _ _⟩)
  (fun k hk=>by rw[P1 (by rw[(hx.sx k hk).1];decide),P1 (by rw[hx.sz.1];decide),hx.v k hk,hy.v k hk]) (by rw[P1 (by rw[hx.sz.1];decide)];congr 1;omega) (fun k hk=>by rw[P1 (by rw[(hx.sx k hk).1];decide)];congr 1;omega)
 pro:=fun x z y w hx hy=>Rl.op (A:=w.getD 0 0) (B:=z.getD 0 0) hx hy ⟨by rw[GN];exact hx.sz.1,FM _ _⟩ (fun k hk=>⟨by rw[GN];exact(hx.sx k hk).1,FM _ _⟩)
  (fun k hk=>by rw[LR (by rw[(hx.sx k hk).1];decide),LR (by rw[hx.sz.1];decide),hx.v k hk,hy.v k hk])
  (by rw[Xx (by rw[hx.sz.1];decide),Nz,Int.zero_add,Int.add_comm,Int.mul_comm (z.getD 1 0)])
  (fun k hk=>by rw[Xx (by rw[(hx.sx k hk).1];decide),Nz,Int.zero_add,Int.add_comm,Int.mul_comm ((x k).getD 1 0),hx.v k hk,hy.v k hk])
 scl:=fun x z hx=>Rl.op (A:=1000002) (B:=0) hx hx ⟨by rw[GP];exact hx.sz.1,Fd _ _⟩ (fun k hk=>⟨by rw[GP];exact(hx.sx k hk).1,Fd _ _⟩)
  (fun k hk=>by rw[Nj (by rw[(hx.sx k hk).1];decide),Nj (by rw[hx.sz.1];decide),hx.v k hk]) (by rw[Nj (by rw[hx.sz.1];decide)];congr 1;omega) (fun k hk=>by rw[Nj (by rw[(hx.sx k hk).1];decide)];congr 1;omega)
 quo:=fun x z y w hx hy h0=>by
  have hq:∀k,k<K→(C3 (x k) (y k)).getD 0 0=(C3 z w).getD 0 0:=fun k hk=>by rw[P3 (by rw[(hx.sx k hk).1];decide),P3 (by rw[hx.sz.1];decide),hx.v k hk,hy.v k hk]
  have hf:∀a q b i:Int,md (md (a-q*b)*i)=md (i*a+(-(q*i))*b):=fun a q b i=>by
   rw[Fz];congr 1
   rw[Int.sub_mul,Int.neg_mul,Int.mul_comm a i,Int.mul_assoc,Int.mul_assoc,Int.mul_comm b i];omega
  exact Rl.op (A:=inv (w.getD 0 0)) (B:=-((C3 z w).getD 0 0*inv (w.getD 0 0))) hx hy ⟨by rw[El];exact hx.sz.1,Fb _ _⟩ (fun k hk=>⟨by rw[El];exact(hx.sx k hk).1,Fb _ _⟩) hq
   (by rw[Xy (by rw[hx.sz.1];decide),hf]) (fun k hk=>by rw[Xy (by rw[(hx.sx k hk).1];decide),hf,hq k hk,hy.v k hk])
section
section ops
variable {P:Program} {ops:Array Oper} {w0:World} {Q:Act→World→Prop} {os:List Oper} {ks:List Nat} {N:Nat} {ρ:Nat→Value} {w:World}
 {d:Nat} {ty:TypeId} {pos:String} {aft:Array Edge} {g:Option (Nat×Bool)} {t e:TypeId} {z:Value} {b s:Nat} {α:Type} {E:BZ α}
theorem TZ (hE:Cx s E){x:Operand}{cs:List Value}{y:α}{B U:Nat}(ht:P.underlying t=some (.slice e))(hi:TI P e s z b)(hz:z.cells.size=s)(hs:0<s∧s≤1000)(hx:Bw N ρ x=.agg cs.toArray)(hy:Gg E B U w.heap cs y)
  (hu:Up ops N ρ ⟨some d,.buildSlice t 1 #[(0,x)],ty,pos,aft,g⟩)
  (h:∀v w1,AD w w1→w1.heap.size=w.heap.size+1→Ny (CA s E e) (fun b=>(B≤b∧b<U)∨b=w.heap.size) w1.heap v [y]→LW P ops w0 Q os ks (mk N (CP ρ d v)) w1) :
  LW P ops w0 Q (⟨some d,.buildSlice t 1 #[(0,x)],ty,pos,aft,g⟩::os) (3::ks) (mk N ρ) w:=by
 obtain⟨F,h1,h2,h3⟩:=hy
 have hl:=hE.len h1
 have hr:=Qv (P:=P) (w:=w) ht hi hs.1 hs.2 hz hl
 have hrun:(execOp (Bw N ρ) ⟨some d,.buildSlice t 1 #[(0,x)],ty,pos,aft,g⟩).run P w=.ok (.value (.slice (some ⟨w.heap.size,0,none⟩) 1 1)) (w.alloc (.cells cs.toArray e)):=by
  simp only[execOp,zc,zf,zh,Sem.run_bind,hx,hr,Result.andThen_ok,Sem.run_pure]
 refine IY rfl hu _ _ hrun (BF _ _)<|h _ _ (BF _ _) (by simp) ?_
 have hn:=Nx (e:=e) (w:=w) hE (css:=[cs]) (xs:=[y]) (F:=F++[]) (cur:=cs.toArray) (cap:=1) ⟨F,[],rfl,h1,rfl⟩ (by simp) (by simp[maxLen]) (by simp[hl]) (by simp[← hl])
 refine⟨_,hn,?_,fun c hc=>?_⟩
 ·rw[List.append_nil,List.nodup_cons]
  exact⟨fun hm=>by have:=hE.lt h1 _ hm;omega,h2⟩
 ·rcases ze.1 hc with rfl|hc
  ·exact .inr rfl
  ·exact .inl<|h3 c (by simpa using hc)
theorem U0 (hE:Cx s E){x y:Operand}{v a:Value}{xs:List α}{y0:α}{B U:Nat}{T:Nat→Prop}(ht:P.underlying t=some (.slice e))(hi:TI P e s z b)(hz:z.cells.size=s)(hs:0<s)(hx:Bw N ρ x=v)(hy:Bw N ρ y=a)(hv:Fr (CA s E e) B U w.heap v xs)
  (ha:Ny (CA s E e) T w.heap a [y0]) (hT:∀b,(B≤b∧b<U)→T b→False) (hbytes:(xs.length+1)*b≤140737488355328) (hmx:xs.length+1≤maxLen) (hu:Up ops N ρ ⟨some d,.call ⟨.builtin .append,#[x,y],#[t,t]⟩,ty,pos,aft,g⟩)
  (h:∀v1 w1 F,Ax F w w1→(∀c∈F,B≤c∧c<U)→Ny (CA s E e) (fun b=>(B≤b∧b<U)∨T b∨b=w.heap.size) w1.heap v1 (xs++[y0])→LW P ops w0 Q os ks (mk N (CP ρ d v1)) w1) :
  LW P ops w0 Q (⟨some d,.call ⟨.builtin .append,#[x,y],#[t,t]⟩,ty,pos,aft,g⟩::os) (4::ks) (mk N ρ) w:=by
 obtain⟨v1,w1,F,r1,r2,r3,r4⟩:=JL (P:=P) (ty:=ty) hE ht hi hz hs (S:=fun b=>B≤b∧b<U) (T:=T) hv ha hT hbytes hmx
 exact IZ rfl hu v1 w1 (by simp only[execOp,resolve,invoke,builtin,zc,zf,zh,Sem.run_bind,Sem.run_pure,Result.andThen_ok,hx,hy,r1])<|h v1 w1 F r3 r4 r2
end ops
theorem R7:∀(r i:Nat),Ex.sizes (E7 i r)=r
 |0,_=>by show Ex.sizes []=0;rw[Ex.sizes]
 |r+1,i=>by
  show Ex.sizes (_::E7 (i+1) r)=_
  rw[Ex.sizes,R7 r,Ex.size,Ex.sizes];omega
theorem aC {p:List Fn}{f:Int}{a:Sr}(h:Ef p=true)(hf:0≤f∧f<((p.length:Nat):Int))(hl:((a.length:Nat):Int)=(p.getD f.toNat Fn.zero).params)(hn:Bb a=true):IF p f a=0:=by
 unfold IF Gx
 rw[if_pos h,if_pos (by omega)]
 rw[if_pos]
 rw[z7,decide_eq_true_eq];exact⟨hl,hn⟩
theorem JU {p:List Fn}(hv:Hz p){n f:Nat}{a:List Sr}(hf:f<p.length)(ha:C4 n a)(hl:((a.length:Nat):Int)=(p.getD f Fn.zero).params) :
  (∃x s,ev p n f a=.ok x s∧x.length=(p.getD f Fn.zero).outs.length∧C4 n x)∨ev p n f a=.err 6∨ev p n f a=.err 7:=by
 have h:=(TP hv n (f+1) zO).all f a 0 zO ha hl zO
 rw[Gj (by omega)]at h
 have e:ev p n f a=CB n (Df p n f) (p.getD f Fn.zero).outs a 0:=rfl
 rw[← e]at h
 cases h2:ev p n f a with
 |err c =>
  rw[h2]at h;have h:c=6∨c=7:=h
  rcases h with rfl|rfl
  ·exact .inr<|.inl rfl
  ·exact .inr<|.inr rfl
 |ok xs s =>
  rw[h2]at h;have h:xs.length=_∧C4 n xs∧s≤3000:=h
  exact .inl ⟨xs,s,rfl,h.1,h.2.1⟩
theorem P4 {x:List Sr}(h:C4 1 x):BB (x.map fun s=>s.getD 0 0)=x:=by
 unfold BB
 rw[List.map_map]
 refine TQ (by rw[zg]) fun i hi=>?_
 rw[zg]at hi
 have h1:=(h i hi).1
 rw[BT (d:=[]) hi]
 show [(x.getD i []).getD 0 0]=x.getD i []
 match hx:x.getD i []with
 |[]=>rw[hx]at h1;simp at h1
 |[y]=>rfl
 |_::_::_=>rw[hx]at h1;simp at h1
end
def Fe (a d:List Int)(n:Nat):List Sr:=EB a.length fun i=>(cst n (a.getD i 0)).set 1 (d.getD i 0)
@[simp] theorem C6 (a d:List Int)(n:Nat):(Fe a d n).length=a.length:=by simp[Fe]
theorem Je {a d:List Int}{n k:Nat}(h:k<a.length):(Fe a d n).getD k []=(cst n (a.getD k 0)).set 1 (d.getD k 0):=CE [] h
theorem DK {a d:List Int}{n:Nat}(ha:Bb a=true)(hd:Bb d=true):C4 n (Fe a d n):=fun k hk=>by
 rw[C6]at hk
 rw[Je hk]
 refine⟨by rw[z6,QL],?_⟩
 have h1:=En (n:=n)<|CD.2<|Cf ha k
 unfold Bb
 rw[zm]
 intro y hy
 rcases List.mem_or_eq_of_mem_set hy with hy|rfl
 ·have:=h1.2;unfold Bb at this;exact zm.1 this y hy
 ·exact CD.2<|Cf hd k
def NS (p:List Fn)(f:Nat)(a d:List Int):List Sr:=KK p 2 f (Fe a d 2)
def aE (p:List Fn)(f:Nat)(a d:List Int):Int:=H7 p 2 f (Fe a d 2)
def U1 (n:Nat)(ps:List Int):Nat→List Int
 |0=>List.replicate n 0
 |j+1=>(U1 n ps j).set (ps.getD j 0).toNat (md ((U1 n ps j).getD (ps.getD j 0).toNat 0+1))
theorem P5 (n:Nat)(ps:List Int):∀j,(U1 n ps j).length=n
 |0=>z5 ..
 |j+1=>by show(List.set _ _ _).length=n;rw[z6,P5 n ps j]
theorem P6 (n:Nat)(ps:List Int):∀j,Bb (U1 n ps j)=true
 |0=>I4 n
 |j+1=>by
  have h:=P6 n ps j
  unfold Bb at h ⊢
  rw[zm]at h ⊢
  intro y hy
  rcases List.mem_or_eq_of_mem_set hy with hy|rfl
  ·exact h y hy
  ·exact CD.2<|Ci _
theorem U2 (a d:List Int):(Fe a d 2).map (Dw 1)=BB a:=by
 refine TQ (by rw[zg,C6];unfold BB;rw[zg]) fun k hk=>?_
 rw[zg,C6]at hk
 rw[BT (d:=[]) (by rw[C6];exact hk),Je hk]
 unfold BB
 rw[BT (d:=0) hk]
 rfl
theorem aF (p:List Fn)(f:Nat)(a d:List Int):aE p f a d=FS p f a:=by
 unfold aE FS
 rw[← VM p (A7 1) (show 1≤2 by decide),U2]
theorem eW (p:List Fn)(f:Nat)(a d:List Int):(NS p f a d).map (fun s=>s.getD 0 0)=Lh p f a:=by
 unfold NS Lh
 rw[← U2 a d,VL p (A7 1) (show 1≤2 by decide),List.map_map]
 refine List.map_congr_left fun s hs=>?_
 show _=(s.take 1).getD 0 0
 cases s <;> rfl
def eV (n k:Nat):List Int:=U1 n [((k:Nat):Int)] 1
theorem KP (n j:Nat):(List.replicate n (0:Int)).getD j 0=0:=by
 rw[List.getD_eq_getElem?_getD,List.getElem?_replicate];split <;> rfl
theorem U3 {n k j:Nat}(hk:k<n):(eV n k).getD j 0=if k=j then 1 else 0:=by
 show((List.replicate n (0:Int)).set (((k:Nat):Int)).toNat (md ((List.replicate n (0:Int)).getD (((k:Nat):Int)).toNat 0+1))).getD j 0=_
 rw[Int.toNat_natCast,Zb,z5,KP,KP]
 by_cases e:k=j
 ·subst e;rw[if_pos ⟨rfl,hk⟩,if_pos rfl];rfl
 ·rw[if_neg zO,if_neg e]
theorem U4 (n k:Nat):Bb (eV n k)=true:=P6 _ _ _
@[simp] theorem Zd (n k:Nat):(eV n k).length=n:=P5 _ _ _
def PS (a b:List Int)(k:Nat):Int:=md (sm k fun j=>a.getD j 0*b.getD j 0)
theorem U5 {a d:List Int}{i:Nat}(h:i<a.length):((Fe a d 2).getD i []).getD 0 0=a.getD i 0:=by rw[Je h];rfl
theorem R8 {a d:List Int}{i:Nat}(h:i<a.length):((Fe a d 2).getD i []).getD 1 0=d.getD i 0:=by rw[Je h];rfl
theorem Ze {p:List Fn}(hv:Hz p){n f:Nat}{a:List Sr}(hf:f<p.length)(ha:C4 n a)(hl:((a.length:Nat):Int)=(p.getD f Fn.zero).params)(h0:H7 p n f a=0):∃x t,ev p n f a=.ok x t∧x.length=(p.getD f Fn.zero).outs.length∧C4 n x:=by
 rcases JU hv hf ha hl with⟨x,s,h1,h2,h3⟩|h1|h1
 ·exact⟨x,s,h1,h2,h3⟩
 ·rw[FP h1]at h0;omega
 ·rw[FP h1]at h0;omega
theorem U6 {p:List Fn}{f:Nat}{a d:List Int}{K:Nat}{D:Nat→List Int}{c:Nat→Int}(hv:Hz p)(hf:f<p.length)(hl:((a.length:Nat):Int)=(p.getD f Fn.zero).params)(hna:Bb a=true)(hnd:Bb d=true)
  (hD:∀k,k<K→Bb (D k)=true) (hc:∀i,i<a.length→d.getD i 0=md (Pv (fun k=>c k*(D k).getD i 0) K)) (h0:FS p f a=0) {r:Nat} (hr:r<(p.getD f Fn.zero).outs.length) :
  ((NS p f a d).getD r []).getD 1 0=md (Pv (fun k=>c k*((NS p f a (D k)).getD r []).getD 1 0) K):=by
 have h:=eU (Rl.all K c) hv (m:=a.length) (a:=fun k=>Fe a (D k) 2) (az:=Fe a d 2) hf
  ⟨C6 _ _ _,fun k _=>C6 _ _ _,fun i hi=>⟨fun k=>(Fe a (D k) 2).getD i [],fun _ _=>rfl,
   ⟨DK hna hnd i (by rw[C6];exact hi),fun k hk=>DK hna (hD k hk) i (by rw[C6];exact hi),fun k _=>by rw[U5 hi,U5 hi],by
    rw[R8 hi,hc i hi]
    refine Ln K fun k _=>?_
    rw[R8 hi]⟩⟩⟩ hl
 have hdc:H7 p 2 f (Fe a d 2)=0:=(aF p f a d).trans h0
 obtain⟨z,t,he,_,_⟩:=Ze hv hf (DK (n:=2) hna hnd) (by rw[C6];exact hl) hdc
 rw[he]at h
 obtain⟨x,h1,h2⟩:=h
 obtain⟨y,h3,h4⟩:=h2.2.2 r hr
 unfold NS
 rw[GU he,h4.d]
 refine Ln K fun k hk=>?_
 rw[← h3 k hk,GU (h1 k hk)]
structure fR (p:List Fn)(f:Nat)(a:List Int):Prop where
 v:Hz p
 lt:f<p.length
 l:((a.length:Nat):Int)=(p.getD f Fn.zero).params
 n:Bb a=true
 z:FS p f a=0
theorem Zf {N:Nat}{a b:Sr}(ha:Cu N a):EN N (DD (Ee a b)) (fun k=>DD a k+DD b k):=fun k hk=>by
 show md ((Ee a b).getD k 0)=_
 rw[Ni (by rw[ha.1];exact hk),EZ];rfl
theorem eX {N:Nat}{a:Sr}{y:Int}(ha:Cu N a):EN N (DD (CH a y)) (fun k=>y*DD a k):=fun k hk=>by
 show md ((CH a y).getD k 0)=_
 rw[Nj (by rw[ha.1];exact hk),EZ,Int.mul_comm];rfl
theorem EN.add {N:Nat}{f f' g g':Nat→Int}(hf:EN N f f')(hg:EN N g g'):EN N (fun k=>f k+g k) (fun k=>f' k+g' k):=fun k hk=>by rw[← EE,hf k hk,hg k hk,EE]
section
section str
variable {P:Program} {ops:Array Oper} {w0:World} {Q:Act→World→Prop} {os:List Oper} {ks:List Nat} {N:Nat} {ρ:Nat→Value} {w:World}
 {d:Nat} {ty:TypeId} {pos:String} {aft:Array Edge} {g:Option (Nat×Bool)} {t e:TypeId}
theorem XA {α:Type}{E:Bu α}(hE:C9 E){ys:List α}{b:Nat}{z u0 u1:Value}{x0 x1:Operand}(ht:P.underlying t=some (.slice e))(hi:TI P e 1 z b)(hz:z.cells=#[z])
  (hx0:Bw N ρ x0=u0) (hx1:Bw N ρ x1=u1) (hl:ys.length=2) (hels:els E w.heap [u0,u1] ys [])
  (hu:Up ops N ρ ⟨some d,.buildSlice t 2 #[(0,x0),(1,x1)],ty,pos,aft,g⟩)
  (h:∀v w1,AD w w1→w1.heap.size=w.heap.size+1→Fr (BA E e) w.heap.size w1.heap.size w1.heap v ys→LW P ops w0 Q os ks (mk N (CP ρ d v)) w1) :
  LW P ops w0 Q (⟨some d,.buildSlice t 2 #[(0,x0),(1,x1)],ty,pos,aft,g⟩::os) (3::ks) (mk N ρ) w:=by
 have hc:=hels.cells1 hE
 have hr:=Ve (P:=P) (w:=w) ht hi (hc u0 (by simp)).1 (hc u1 (by simp)).1 hz
 have hrun:(execOp (Bw N ρ) ⟨some d,.buildSlice t 2 #[(0,x0),(1,x1)],ty,pos,aft,g⟩).run P w=.ok (.value (.slice (some ⟨w.heap.size,0,none⟩) 2 2)) (w.alloc (.cells #[u0,u1] e)):=by
  simp only[execOp,zc,zf,zh,Sem.run_bind,hx0,hx1,hr,Result.andThen_ok,Sem.run_pure]
 refine IY rfl hu _ _ hrun (BF _ _)<|h _ _ (BF _ _) (by simp) ?_
 have hn:=Hb (e:=e) (w:=w) hE (us:=[u0,u1]) (xs:=ys) (F:=[]) (cur:=#[u0,u1]) hels (by simp[maxLen]) (by rw[hl];rfl) (by rw[hl];simp)
 rw[hl]at hn
 refine⟨_,hn,?_,fun c hc=>?_⟩
 ·rw[List.nodup_cons]
  exact⟨fun hm=>(by cases hm),zk⟩
 ·rcases ze.1 hc with rfl|hc
  ·exact⟨A7 _,by simp⟩
  ·cases hc
theorem Zg {x:Operand}{u:Value}(hx:Bw N ρ x=u)(hc:u.cells=#[u])(hu:Up ops N ρ ⟨some d,.box t x,ty,pos,aft,g⟩)
  (h:∀w1,AD w w1→w1.heap.size=w.heap.size+1→BX w1.heap w.heap.size [u]→LW P ops w0 Q os ks (mk N (CP ρ d (.pointer (some ⟨w.heap.size,0,none⟩)))) w1) :
  LW P ops w0 Q (⟨some d,.box t x,ty,pos,aft,g⟩::os) (3::ks) (mk N ρ) w:=by
 have hrun:(execOp (Bw N ρ) ⟨some d,.box t x,ty,pos,aft,g⟩).run P w=.ok (.value (.pointer (some ⟨w.heap.size,0,none⟩))) (w.alloc (.cells #[u] t)):=by
  simp[execOp,Instr.box,newVar,newRow,hx,hc]
 refine IY rfl hu _ _ hrun (BF _ _)<|h _ (BF _ _) (by simp) ⟨t,?_⟩
 have:=heap_alloc_new w (.cells #[u] t)
 simpa using this
end str
theorem aG {H:Array Obj}{a b:Int}(h0:-9223372036854775808≤a∧a≤9223372036854775807)(h1:-9223372036854775808≤b∧b≤9223372036854775807):els rI H [.int .i64 a,.int .i64 b] [a,b] [] :=
 ⟨[],[],rfl,⟨rfl,rfl,h0⟩,[],[],rfl,⟨rfl,rfl,h1⟩,rfl⟩
end
def dl (i:Nat)(j:Nat):Int:=if i=j then 1 else 0
structure PT (m:Nat)(a:List Int)(X:List Sr):Prop where
 len:X.length=a.length
 ser:∀i,i<a.length→Cu m (X.getD i [])
 at0:∀i,i<a.length→(X.getD i []).getD 0 0=a.getD i 0
section
theorem P7 {α:Type}{P:List α→Prop}(h0:P [])(h1:∀l c,P l→P (l++[c]))(l:List α):P l:=by
 have h:∀l:List α,P l.reverse:=fun l=>by
  induction l with
  |nil=>exact h0
  |cons c l ih=>rw[List.reverse_cons];exact h1 _ _ ih
 have:=h l.reverse
 rwa [List.reverse_reverse]at this
def FU (m:Nat)(A R:List Sr)(c:AM):Sr :=
 if c.op=1 then A.getD c.num.toNat []else if c.op=3 then Ee (R.getD c.a.toNat []) (R.getD c.b.toNat [])else if c.op=4 then FB (R.getD c.a.toNat []) (R.getD c.b.toNat [])
 else if c.op=5 then Ct (R.getD c.a.toNat []) (R.getD c.b.toNat [])else if c.op=7 then CH (R.getD c.a.toNat []) 1000002
 else if c.op=6 then C3 (R.getD c.a.toNat []) (R.getD c.b.toNat [])else cst m c.num
def Bi (m:Nat)(A:List Sr)(cs:List AM):List Sr:=cs.foldl (fun R c=>R++[FU m A R c]) []
section
variable {m:Nat} {A:List Sr}
theorem GY (cs:List AM)(c:AM):Bi m A (cs++[c])=Bi m A cs++[FU m A (Bi m A cs) c]:=by unfold Bi;rw[List.foldl_append];rfl
@[simp] theorem C7 (cs:List AM):(Bi m A cs).length=cs.length:=by
 induction cs using P7 with
 |h0=>rfl
 |h1 l c ih=>rw[GY,z4,ih,z4];rfl
theorem LS (cs l:List AM){k:Nat}(hk:k<cs.length):(Bi m A (cs++l)).getD k []=(Bi m A cs).getD k []:=by
 induction l using P7 with
 |h0=>rw[List.append_nil]
 |h1 l c ih=>rw[← List.append_assoc,GY,Gn (by rw[C7,z4];omega),ih]
theorem Nk (cs:List AM)(c:AM):(Bi m A (cs++[c])).getD cs.length []=FU m A (Bi m A cs) c:=by rw[GY,Gp (by rw[C7])]
end
def Fi (ni k:Nat)(c:AM):Prop :=
 (c.op=1∧c.a=0∧c.b=0∧0≤c.num∧c.num<((ni:Nat):Int))∨(c.op=2∧c.a=0∧c.b=0∧0≤c.num∧c.num<1000003) ∨
 ((c.op=3∨c.op=4∨c.op=5∨c.op=6)∧(0≤c.a∧c.a<((k:Nat):Int))∧(0≤c.b∧c.b<((k:Nat):Int))∧c.num=0)∨(c.op=7∧(0≤c.a∧c.a<((k:Nat):Int))∧c.b=0∧c.num=0)
theorem Fi.bin {ni k:Nat}{op a b:Int}(h:op=3∨op=4∨op=5∨op=6)(ha:0≤a∧a<((k:Nat):Int))(hb:0≤b∧b<((k:Nat):Int)):Fi ni k ⟨op,a,b,0⟩:=.inr (.inr (.inl ⟨h,ha,hb,rfl⟩))
theorem Fi.neg {ni k:Nat}{a:Int}(ha:0≤a∧a<((k:Nat):Int)):Fi ni k ⟨7,a,0,0⟩:=.inr (.inr (.inr ⟨rfl,ha,rfl,rfl⟩))
structure DL (m:Nat)(A:List Sr)(T:Tp):Prop where
 cl:T.code.length=T.vals.length
 ser:∀k,k<T.code.length→Cu m ((Bi m A T.code).getD k [])∧((Bi m A T.code).getD k []).getD 0 0=T.vals.getD k 0
 form:∀k,k<T.code.length→Fi A.length k (T.code.getD k AM.zero)
 dv:∀k,k<T.code.length→(T.code.getD k AM.zero).op=6→T.at (T.code.getD k AM.zero).b≠0
 gd:∀k,k<T.grd.length→(0≤(T.grd.getD k Jb.zero).reg∧(T.grd.getD k Jb.zero).reg<((T.vals.length:Nat):Int))∧(T.grd.getD k Jb.zero).z=decide (T.at (T.grd.getD k Jb.zero).reg=0)
def TE (T T':Tp):Prop:=(∃l,T'.code=T.code++l)∧∃l,T'.vals=T.vals++l
theorem TE.refl (T:Tp):TE T T:=⟨⟨[],by simp⟩,[],by simp⟩
theorem TE.trans {T T' T'':Tp}(h:TE T T')(k:TE T' T''):TE T T'':=by
 obtain⟨⟨l,h1⟩,l2,h2⟩:=h
 obtain⟨⟨l3,h3⟩,l4,h4⟩:=k
 exact⟨⟨l++l3,by rw[h3,h1,List.append_assoc]⟩,l2++l4,by rw[h4,h2,List.append_assoc]⟩
theorem TE.put (T:Tp)(c:AM)(v:Int):TE T (T.put c v):=⟨⟨[c],rfl⟩,[v],rfl⟩
theorem TE.guard (T:Tp)(r:Int)(z:Bool):TE T (T.guard r z):=⟨⟨[],by simp[Tp.guard]⟩,[],by simp[Tp.guard]⟩
section
variable {m:Nat} {A:List Sr} {T T':Tp}
theorem TE.reg (h:TE T T'){k:Nat}(hk:k<T.code.length):(Bi m A T'.code).getD k []=(Bi m A T.code).getD k []:=by
 obtain⟨⟨l,h1⟩,_⟩:=h
 rw[h1,LS _ _ hk]
theorem TE.at (h:TE T T'){r:Int}(hr:0≤r∧r<((T.vals.length:Nat):Int)):T'.at r=T.at r:=by
 obtain⟨_,l,h1⟩:=h
 unfold Tp.at
 rw[h1,Gn (by omega)]
theorem TE.len (h:TE T T'):T.code.length≤T'.code.length∧T.vals.length≤T'.vals.length:=by
 obtain⟨⟨l,h1⟩,l2,h2⟩:=h
 rw[h1,h2,z4,z4];omega
def Oo (m:Nat)(A:List Sr)(T:Tp)(r:Int)(z:Sr):Prop:=(0≤r∧r<((T.vals.length:Nat):Int))∧z=(Bi m A T.code).getD r.toNat []
def Nl (m:Nat)(A:List Sr)(n:Nat)(T:Tp)(rs:List Int)(zs:List Sr):Prop:=rs.length=n∧zs.length=n∧∀i,i<n→Oo m A T (rs.getD i 0) (zs.getD i [])
theorem Oo.mono {r:Int}{z:Sr}(hc:T.code.length=T.vals.length)(h:Oo m A T r z)(k:TE T T'):Oo m A T' r z:=by
 have:=k.len
 exact⟨by have:=h.1;omega,by rw[k.reg (by have:=h.1;omega)];exact h.2⟩
theorem Nl.mono {n:Nat}{rs:List Int}{zs:List Sr}(hc:T.code.length=T.vals.length)(h:Nl m A n T rs zs)(k:TE T T'):Nl m A n T' rs zs:=⟨h.1,h.2.1,fun i hi=>(h.2.2 i hi).mono hc k⟩
theorem Nl.snoc {n:Nat}{rs:List Int}{zs:List Sr}{r:Int}{z:Sr}(h:Nl m A n T rs zs)(h1:Oo m A T r z):Nl m A (n+1) T (rs++[r]) (zs++[z]):=by
 refine⟨by simp[h.1],by simp[h.2.1],fun i hi=>?_⟩
 by_cases e:i=n
 ·rw[Gp (by rw[h.1];exact e),Gp (by rw[h.2.1];exact e)];exact h1
 ·rw[Gn (by rw[h.1];omega),Gn (by rw[h.2.1];omega)];exact h.2.2 i zO
theorem Oo.at (hI:DL m A T){r:Int}{z:Sr}(h:Oo m A T r z):Cu m z∧z.getD 0 0=T.at r:=by
 have:=hI.ser r.toNat (by rw[hI.cl];have:=h.1;omega)
 rw[h.2];exact this
def Iz {α β:Type}(m:Nat)(A:List Sr)(T:Tp)(R:Tp→α→β→Prop)(r:Rs (α×Tp))(rz:Rs β):Prop:=match r with
 |.ok x t=>∃z,rz=.ok z t∧DL m A x.2∧TE T x.2∧R x.2 x.1 z
 |.err c=>rz=.err c
theorem Iz.bind {α β α' β':Type}{R:Tp→α→β→Prop}{R':Tp→α'→β'→Prop}{r:Rs (α×Tp)}{rz:Rs β}{g:α×Tp→Nat→Rs (α'×Tp)}{gz:β→Nat→Rs β'}(h:Iz m A T R r rz)
  (hg:∀x T' z t,DL m A T'→TE T T'→R T' x z→Iz m A T' R' (g (x,T') t) (gz z t)):Iz m A T R' (r.bind g) (rz.bind gz):=by
 cases r with
 |err c=>have h9:rz=.err c:=h;subst h9;exact rfl
 |ok x t =>
  obtain⟨z,h1,h2,h3,h4⟩:=h
  subst h1
  have h5:=hg x.1 x.2 z t h2 h3 h4
  rw[Rs.bind_ok,Rs.bind_ok]
  cases hr:g x t with
  |err c=>rw[hr]at h5;exact h5
  |ok y u =>
   rw[hr]at h5
   obtain⟨v,q1,q2,q3,q4⟩:=h5
   exact⟨v,q1,q2,h3.trans q3,q4⟩
theorem Iz.ret {α β:Type}{R:Tp→α→β→Prop}{x:α}{z:β}{t:Nat}(hI:DL m A T')(hE:TE T T')(h:R T' x z):Iz m A T R (.ok (x,T') t) (.ok z t):=⟨z,rfl,hI,hE,h⟩
theorem DL.put (h:DL m A T){c:AM}{v:Int}(hs:Cu m (FU m A (Bi m A T.code) c))(hv:(FU m A (Bi m A T.code) c).getD 0 0=v)(hf:Fi A.length T.code.length c)(hd:c.op=6→T.at c.b≠0):DL m A (T.put c v):=by
 have hE:=TE.put T c v
 have hcl:=h.cl
 have key:∀k,k<(T.put c v).code.length→k<T.code.length∨k=T.code.length:=fun k hk=>by rw[PP]at hk;omega
 have cg:∀k,k<T.code.length→(T.put c v).code.getD k AM.zero=T.code.getD k AM.zero:=fun k hk=>Gn hk
 have cn:(T.put c v).code.getD T.code.length AM.zero=c:=Gp rfl
 refine⟨by rw[PP,Hi,hcl],fun k hk=>?_,fun k hk=>?_,fun k hk h6=>?_,fun k hk=>?_⟩
 ·rcases key k hk with hk|rfl
  ·rw[hE.reg hk,show(T.put c v).vals.getD k 0=T.vals.getD k 0 from Gn (by omega)];exact h.ser k hk
  ·rw[show(Bi m A (T.put c v).code).getD T.code.length []=_ from Nk _ _,show(T.put c v).vals.getD T.code.length 0=v from Gp hcl];exact⟨hs,hv⟩
 ·rcases key k hk with hk|rfl
  ·rw[cg k hk];exact h.form k hk
  ·rw[cn];exact hf
 ·rcases key k hk with hk|rfl
  ·rw[cg k hk]at h6 ⊢
   have:=h.form k hk
   unfold Fi at this
   rw[hE.at (by omega)];exact h.dv k hk h6
  ·rw[cn]at h6 ⊢
   unfold Fi at hf
   rw[hE.at (by omega)];exact hd h6
 ·have:=h.gd k hk
  rw[Tq]at hk ⊢
  refine⟨by rw[Hi];omega,?_⟩
  rw[hE.at this.1];exact this.2
theorem DL.guard (h:DL m A T){r:Int}(hr:0≤r∧r<((T.vals.length:Nat):Int)):DL m A (T.guard r (decide (T.at r=0))):=by
 refine⟨h.cl,h.ser,h.form,h.dv,fun k hk=>?_⟩
 rw[OS]at hk
 by_cases e:k<T.grd.length
 ·rw[show(T.guard r (decide (T.at r=0))).grd.getD k Jb.zero=T.grd.getD k Jb.zero from Gn e];exact h.gd k e
 ·rw[show(T.guard r (decide (T.at r=0))).grd.getD k Jb.zero=⟨r,decide (T.at r=0)⟩from Gp (by omega)];exact⟨hr,rfl⟩
theorem Iz.put {R:Tp→Int→Sr→Prop}{c:AM}{v:Int}{z:Sr}{t:Nat}(h:DL m A T)(hz:FU m A (Bi m A T.code) c=z)(hs:Cu m z)(hv:z.getD 0 0=v)(hf:Fi A.length T.code.length c)(hd:c.op=6→T.at c.b≠0)
  (hR:∀T' r z,Oo m A T' r z→R T' r z):Iz m A T R (.ok (((T.vals.length:Nat):Int),T.put c v) t) (.ok z t):=by
 subst hz
 refine Iz.ret (h.put hs hv hf hd) (TE.put T c v)<|hR _ _ _ ⟨by rw[Hi];omega,?_⟩
 rw[Int.toNat_natCast,← h.cl];exact(Nk _ _).symm
theorem aH (hm:1≤m)(h:DL m A T){k:Int}{n t:Nat}{rs:List Int}{zs:List Sr}(hr:Nl m A n T rs zs)(hk:3≤k∧k≤7)(h1:k=7→1≤n)(h2:k≠7→2≤n):Iz m A T (Oo m A) (Tf k rs t T) (KJ k zs t):=by
 have hn1:1≤n:=by by_cases e:k=7;exact h1 e;have:=h2 e;omega
 have ha:=hr.2.2 0 zO
 have hA:=ha.at h
 have hal:=hA.1.1
 have hac:=ha.1
 have hcl:=h.cl
 have fin:∀T' r z,Oo m A T' r z→Oo m A T' r z:=fun _ _ _ h=>h
 by_cases k7:k=7
 ·subst k7
  rw[Jd (Xp rfl),To rfl]
  refine Iz.put h ?_ ⟨(GP _ _).trans hal,Fd _ _⟩ ?_ (Fi.neg zO) (fun h6=>absurd (show(7:Int)=6 from h6) (by decide)) fin
  ·rw[ha.2];rfl
  ·rw[Nj zO,hA.2]
   show md (T.at (rs.getD 0 0)*1000002)=md (0-T.at (rs.getD 0 0))
   unfold md;omega
 have hb:=hr.2.2 1<|h2 k7
 have hB:=hb.at h
 have hbl:=hB.1.1
 have hbc:=hb.1
 by_cases k3:k=3
 ·subst k3
  rw[Jd (fun h=>h.1 rfl),Hh (by decide)]
  refine Iz.put h ?_ ⟨(GO _ _).trans hal,I1 _ _⟩ ?_ (Fi.bin (.inl rfl) zO zO) (fun h6=>absurd (show(3:Int)=6 from h6) (by decide)) fin
  ·rw[ha.2,hb.2];rfl
  ·rw[Ni zO,hA.2,hB.2];rfl
 by_cases k4:k=4
 ·subst k4
  rw[Jd (fun h=>h.2.1 rfl),Hh (by decide)]
  refine Iz.put h ?_ ⟨(I0 _ _).trans hal,I2 _ _⟩ ?_ (Fi.bin (.inr<|.inl rfl) zO zO) (fun h6=>absurd (show(4:Int)=6 from h6) (by decide)) fin
  ·rw[ha.2,hb.2];rfl
  ·rw[P1 zO,hA.2,hB.2];rfl
 by_cases k5:k=5
 ·subst k5
  rw[Jd (fun h=>h.2.2.1 rfl),Hh (by decide)]
  refine Iz.put h ?_ ⟨(GN _ _).trans hal,FM _ _⟩ ?_ (Fi.bin (.inr<|.inr<|.inl rfl) zO zO) (fun h6=>absurd (show(5:Int)=6 from h6) (by decide)) fin
  ·rw[ha.2,hb.2];rfl
  ·rw[LR zO,hA.2,hB.2,Int.zero_add];rfl
 have k6:k=6:=by omega
 subst k6
 by_cases hz:T.at (rs.getD 1 0)=0
 ·rw[QV (by rw[Hh (by decide)];exact⟨by decide,by decide,by decide,by decide,hz⟩)]
  show KJ 6 zs t=.err 6
  show(if (zs.getD 1 []).getD 0 0=0 then _ else _)=_
  rw[if_pos (by rw[hB.2];exact hz)]
 ·rw[Jd (by rw[Hh (by decide)];exact fun h9=>hz h9.2.2.2.2),Hh (by decide)]
  have e:KJ 6 zs t=.ok (C3 (zs.getD 0 []) (zs.getD 1 [])) t:=by
   show(if (zs.getD 1 []).getD 0 0=0 then _ else _)=_
   rw[if_neg (by rw[hB.2];exact hz)]
  rw[e]
  refine Iz.put h ?_ ⟨(El _ _).trans hal,Fb _ _⟩ ?_ (Fi.bin (.inr<|.inr<|.inr rfl) zO zO) (fun _=>hz) fin
  ·rw[ha.2,hb.2];rfl
  ·rw[P3 zO,hA.2,hB.2];rfl
end
structure eY (m:Nat)(A:List Sr)(p:List Fn)(F:Nat)(G:Cg)(C:Ca):Prop where
 one:∀f j n T rs zs t,f<F→j<(p.getD f Fn.zero).outs.length→DL m A T→Nl m A n T rs zs→((n:Nat):Int)=(p.getD f Fn.zero).params→Iz m A T (Oo m A) (G.one f j rs t T) (C.one f j zs t)
 all:∀f n T rs zs t,f<F→DL m A T→Nl m A n T rs zs→((n:Nat):Int)=(p.getD f Fn.zero).params→Iz m A T (Nl m A (p.getD f Fn.zero).outs.length) (G.all f rs t T) (C.all f zs t)
section
variable {m:Nat} {A:List Sr} {p:List Fn}
theorem U7 {G:Cg}{C:Ca}{env:List Int}{ez:List Sr}{n:Nat}:∀(l:List Ex),(∀e∈l,∀s T,DL m A T→Nl m A n T env ez→Iz m A T (Oo m A) (HA G e env s T) (Cm m C e ez s))→∀s T,DL m A T→Nl m A n T env ez→Iz m A T (Nl m A l.length) (Is G l env s T) (CB m C l ez s)
 |[],_,s,T,hI,he=>by
  rw[Is,CB]
  exact Iz.ret hI (TE.refl T) ⟨rfl,rfl,fun i hi=>absurd hi<|Nat.not_lt_zero i⟩
 |e::l,h,s,T,hI,he=>by
  rw[Is,CB]
  refine (h e (by simp) s T hI he).bind fun x T1 z t h1 h2 h3=>?_
  refine (U7 l (fun e' he'=>h e' (by simp[he'])) t T1 h1<|he.mono hI.cl h2).bind fun xs T2 zs u q1 q2 q3=>?_
  refine Iz.ret q1 (TE.refl T2) ⟨by simp[q3.1],by simp[q3.2.1],fun i hi=>?_⟩
  cases i with
  |zero=>exact h3.mono h1.cl q2
  |succ i=>exact q3.2.2 i (by simpa using hi)
theorem U8 {F f:Nat}{G:Cg}{C:Ca}(hC:eY m A p F G C)(hf:f<F)(ho:(((p.getD f Fn.zero).outs.length:Nat):Int)=(p.getD f Fn.zero).params):∀(c:Nat)(rs:List Int)(zs:List Sr)(t:Nat)(T:Tp),DL m A T→Nl m A (p.getD f Fn.zero).outs.length T rs zs →
  Iz m A T (Nl m A (p.getD f Fn.zero).outs.length) (Jc (G.all f) c rs t T) (GJ (C.all f) c zs t)
 |0,rs,zs,t,T,hI,h=>Iz.ret hI (TE.refl T) h
 |c+1,rs,zs,t,T,hI,h=>(U8 hC hf ho c rs zs t T hI h).bind fun x T1 z u h1 h2 h3=>hC.all f _ T1 x z u hf h1 h3 ho
theorem U9 (hm:1≤m){F:Nat}{G:Cg}{C:Ca}(hC:eY m A p F G C):∀(z:Nat)(e:Ex),e.size≤z→∀(n:Nat)(env:List Int)(ez:List Sr)(s:Nat)(T:Tp),wf p ((F:Nat):Int) e ((n:Nat):Int)=true→DL m A T→Nl m A n T env ez →
  Iz m A T (Oo m A) (HA G e env s T) (Cm m C e ez s)
 |0,e,h,_,_,_,_,_,_,_,_=>by have:=C0 e;omega
 |z+1,e,h,n,env,ez,s,T,hw,hI,he=>by
  obtain⟨w1,w2,w3,w4,w5,w6,w7,w8⟩:=D9 (CU hw)
  have hz:∀j,j<e.kids.length→(e.kids.getD j Ex.zero).size≤z:=fun j hj=>by
   have:=C0 e;have:=EY hj;omega
  have hk:∀j,j<e.kids.length→¬(e.kind=9∧j=1)→∀t T',DL m A T'→Nl m A n T' env ez→Iz m A T' (Oo m A) (PO G e.kids j env t T') (Gb m C e.kids j ez t):=fun j hj hn t T' h1 h2=>by
   rw[FR _ _ _ _ _ _ hj,DP _ _ _ _ _ _ hj]
   exact U9 hm hC z _ (hz j hj) n env ez t T' (E6 hw hj hn) h1 h2
  rw[Hg,E5]
  by_cases hs3:3000≤s
  ·rw[if_pos hs3,if_pos hs3];exact rfl
  rw[if_neg hs3,if_neg hs3]
  by_cases k1:e.kind=1
  ·rw[if_pos k1,if_pos k1]
   have:=w8 k1
   exact Iz.put hI rfl (En<|CD.2 this) (VO hm) (.inr<|.inl ⟨rfl,rfl,rfl,this⟩) (fun h6=>absurd (show(2:Int)=6 from h6) (by decide)) fun _ _ _ h=>h
  rw[if_neg k1,if_neg k1]
  by_cases k2:e.kind=2
  ·rw[if_pos k2,if_pos k2]
   exact Iz.ret hI (TE.refl T)<|he.2.2 _ (by have:=w2 k2;omega)
  rw[if_neg k2,if_neg k2]
  by_cases k8:e.kind=8
  ·rw[if_pos k8,if_pos k8]
   have h3:=w5 k8
   refine (hk 0 zO zO (s+1) T hI he).bind fun x T1 y t h1 h2 hx=>?_
   have hq:=(hx.at h1).2
   have he1:=he.mono hI.cl h2
   dsimp only
   have fin:∀ {r:Rs RI} {rz:Rs Sr} {b:Bool},Iz m A (T1.guard x b) (Oo m A) r rz→Iz m A T1 (Oo m A) r rz:=fun {r rz b} hh=>by
    cases r with
    |err c=>exact hh
    |ok v u=>obtain⟨q,a1,a2,a3,a4⟩:=hh;exact⟨q,a1,a2,(TE.guard T1 x b).trans a3,a4⟩
   have hg:=h1.guard hx.1
   by_cases h0:T1.at x=0
   ·rw[if_pos h0,if_pos (by rw[hq];exact h0)]
    rw[A5 h0]at hg
    exact fin<|hk 1 zO zO t _ hg<|he1.mono h1.cl<|TE.guard T1 x true
   ·rw[if_neg h0,if_neg (by rw[hq];exact h0)]
    rw[A6 h0]at hg
    exact fin<|hk 2 zO zO t _ hg<|he1.mono h1.cl<|TE.guard T1 x false
  rw[if_neg k8,if_neg k8]
  by_cases k9:e.kind=9
  ·rw[if_pos k9,if_pos k9]
   have h3:=w3 zO
   refine (hk 0 zO zO (s+1) T hI he).bind fun x T1 y t h1 h2 hx=>?_
   dsimp only
   rw[FR _ _ _ _ _ _ (show 1<e.kids.length by omega),DP _ _ _ _ _ _ (show 1<e.kids.length by omega)]
   refine U9 hm hC z _ (hz 1 zO) (n+1) (env++[x]) (ez++[y]) t T1 ?_ h1<|(he.mono hI.cl h2).snoc hx
   have:=Kg hw zO k9
   rw[Int.natCast_add];exact this
  rw[if_neg k9,if_neg k9]
  have hc:=U7 (G:=G) (C:=C) (env:=env) (ez:=ez) (n:=n) e.kids (fun x hx t T' h1 h2=>by
   obtain⟨j,hj,rfl⟩:=List.mem_iff_getElem.1 hx
   have:=hk j hj zO t T' h1 h2
   rw[FR _ _ _ _ _ _ hj,DP _ _ _ _ _ _ hj,FN hj]at this
   exact this) (s+1) T hI he
  refine hc.bind fun xs T1 zs t h1 h2 hx=>?_
  dsimp only
  by_cases k10:e.kind=10
  ·rw[if_pos k10,if_pos k10]
   have h6:=w6<|.inl k10
   exact hC.one _ _ _ T1 xs zs t zO zO h1 hx (by exact h6.2.2.1)
  rw[if_neg k10,if_neg k10]
  by_cases k11:e.kind=11
  ·rw[if_pos k11,if_pos k11]
   have h6:=w6 (.inr k11);have h7:=w7 k11
   have hl:e.kids.length=(p.getD e.num.toNat Fn.zero).outs.length:=by omega
   rw[hl]at hx
   refine (U8 hC (f:=e.num.toNat) zO h7.1 e.count.toNat xs zs t T1 h1 hx).bind fun ys T2 ws u q1 q2 q3=>?_
   exact Iz.ret q1 (TE.refl T2)<|q3.2.2 _ zO
  rw[if_neg k11,if_neg k11]
  exact aH hm h1 hx zO (fun h7=>by rw[w4 h7];decide) fun h7=>by rw[w3 (by omega)];decide
theorem XB (hm:1≤m)(hv:Hz p):∀F,F≤p.length→eY m A p F (KU p F) (Df p m F)
 |0,_=>⟨fun f j n T rs zs t h=>by omega,fun f n T rs zs t h=>by omega⟩
 |F+1,hF=>by
  have ih:=XB hm hv F zO
  have hO:∀j n T rs zs t,j<(p.getD F Fn.zero).outs.length→DL m A T→Nl m A n T rs zs→((n:Nat):Int)=(p.getD F Fn.zero).params→Iz m A T (Oo m A) (HA (KU p F) ((p.getD F Fn.zero).outs.getD j Ex.zero) rs t T) (Cm m (Df p m F) ((p.getD F Fn.zero).outs.getD j Ex.zero) zs t):=fun j n T rs zs t h2 h1 h3 h4 =>
   U9 hm ih _ _ (A7 _) n rs zs t T (by rw[h4];exact hv.wf F zO j h2) h1 h3
  refine⟨fun f j n T rs zs t h1 h2 h0 h3 h4=>?_,fun f n T rs zs t h1 h0 h3 h4=>?_⟩
  ·show Iz m A T _ (if f=F then _ else _) (if f=F then _ else _)
   by_cases e:f=F
   ·subst e;rw[if_pos rfl,if_pos rfl];exact hO j n T rs zs t h2 h0 h3 h4
   ·rw[if_neg e,if_neg e];exact ih.one f j n T rs zs t zO h2 h0 h3 h4
  ·show Iz m A T _ (if f=F then _ else _) (if f=F then _ else _)
   by_cases e:f=F
   ·subst e;rw[if_pos rfl,if_pos rfl]
    refine U7 (n:=n) _ (fun e he s T' h5 h6=>?_) t T h0 h3
    obtain⟨j,hj,rfl⟩:=List.mem_iff_getElem.1 he
    have:=hO j n T' rs zs s hj h5 h6 h4
    rwa [FN hj]at this
   ·rw[if_neg e,if_neg e];exact ih.all f n T rs zs t zO h0 h3 h4
theorem XC {a:List Int}(hn:Bb a=true)(hA:PT m a A):∀k,k≤a.length→DL m A (JQ a k)
 |0,_=>⟨rfl,fun k hk=>absurd hk (Nat.not_lt_zero k),fun k hk=>absurd hk (Nat.not_lt_zero k),fun k hk=>absurd hk (Nat.not_lt_zero k),fun k hk=>absurd hk (Nat.not_lt_zero k)⟩
 |k+1,h=>by
  have e:FU m A (Bi m A (JQ a k).code) ⟨1,0,0,((k:Nat):Int)⟩=A.getD k []:=by
   show A.getD (((k:Nat):Int)).toNat []=_
   rw[Int.toNat_natCast]
  refine (XC hn hA k zO).put ?_ ?_ (.inl ⟨rfl,rfl,rfl,Int.natCast_nonneg k,by rw[hA.len];exact Int.ofNat_lt.2 h⟩) fun h6=>absurd (show(1:Int)=6 from h6) (by decide)
  ·rw[e];exact hA.ser k h
  ·rw[e];exact hA.at0 k h
theorem aI {a:List Int}(hA:PT m a A):Nl m A a.length (JQ a a.length) (HB a.length) A:=by
 have hr:∀k,k≤a.length→∀j,j<k→(Bi m A (JQ a k).code).getD j []=A.getD j []:=fun k=>by
  induction k with
  |zero=>exact fun _ j hj=>absurd hj (Nat.not_lt_zero j)
  |succ k ih =>
   intro hk j hj
   show(Bi m A ((JQ a k).code++[_])).getD j []=_
   rw[GY]
   by_cases e:j=k
   ·rw[Gp (by rw[C7,NO];exact e),e]
    show A.getD (((k:Nat):Int)).toNat []=_
    rw[Int.toNat_natCast]
   ·rw[Gn (by rw[C7,NO];omega)];exact ih zO j zO
 refine⟨GV _,hA.len,fun i hi=>?_⟩
 rw[OT hi]
 exact⟨by rw[Kn];omega,by rw[Int.toNat_natCast,hr _ (A7 _) i hi]⟩
theorem R9 {a:List Int}{f:Nat}(hm:1≤m)(hv:Hz p)(hf:f<p.length)(hn:Bb a=true)(hA:PT m a A)(hl:((a.length:Nat):Int)=(p.getD f Fn.zero).params) :
  Iz m A (JQ a a.length) (Nl m A (p.getD f Fn.zero).outs.length) (NP p f a) (ev p m f A):=by
 have h:=(XB (A:=A) hm hv (f+1) zO).all f a.length (JQ a a.length) (HB a.length) A 0 zO (XC hn hA _<|A7 _) (aI hA) hl
 rw[NM (show f<f+1 by omega),Gj (show f<f+1 by omega)]at h
 exact h
theorem LT {a:List Int}{f:Nat}(hm:1≤m)(hv:Hz p)(hf:f<p.length)(hn:Bb a=true)(hA:PT m a A)(hl:((a.length:Nat):Int)=(p.getD f Fn.zero).params){xs:List Int}{T:Tp}{s:Nat}{c:Int}(h:AN (NP p f a) (xs,T) s c):H7 p m f A=c:=by
 have hT:=R9 hm hv hf hn hA hl
 cases hr:NP p f a with
 |err d =>
  rw[hr]at h hT
  have h9:ev p m f A=.err d:=hT
  rw[FP h9];exact h.1.symm
 |ok x t =>
  rw[hr]at h hT
  obtain⟨z,h1,_⟩:=hT
  rw[KL h1];exact h.2.2.symm
theorem Ua {a:List Int}{f:Nat}(hm:1≤m)(hv:Hz p)(hf:f<p.length)(hn:Bb a=true)(hA:PT m a A)(hl:((a.length:Nat):Int)=(p.getD f Fn.zero).params){xs:List Int}{T:Tp}{s:Nat}{c:Int}(h:AN (NP p f a) (xs,T) s c)(hc:c=0) :
  DL m A T∧KK p m f A=xs.map fun r=>(Bi m A T.code).getD r.toNat []:=by
 have hT:=R9 hm hv hf hn hA hl
 subst hc
 have hr:=h.ok
 rw[hr]at hT
 obtain⟨z,h1,h2,h3,h4⟩:=hT
 refine⟨h2,?_⟩
 rw[GU h1]
 refine TQ (by rw[h4.2.1,zg,h4.1]) fun i hi=>?_
 rw[h4.2.1]at hi
 rw[BT (d:=0) (by rw[h4.1];exact hi)]
 exact (h4.2.2 i hi).2
end
end
section
def LU (m:Nat)(A:List Sr)(cs:List AM)(k:Nat):Prop:=∀j,j<k→(cs.getD j AM.zero).op=6→((Bi m A (cs.take j)).getD (cs.getD j AM.zero).b.toNat []).getD 0 0≠0
section
variable {m k:Nat} {A R:List Sr} {cs:List AM} {c:AM}
theorem DM (hk:k<cs.length):Bi m A (cs.take (k+1))=Bi m A (cs.take k)++[FU m A (Bi m A (cs.take k)) (cs.getD k AM.zero)]:=by
 rw[Cn AM.zero hk,GY]
theorem NT (h:c.op=1):FU m A R c=A.getD c.num.toNat []:=if_pos h
theorem LV (h:c.op=3):FU m A R c=Ee (R.getD c.a.toNat []) (R.getD c.b.toNat []):=by unfold FU;rw[if_neg zO,if_pos h]
theorem LX (h:c.op=4):FU m A R c=FB (R.getD c.a.toNat []) (R.getD c.b.toNat []):=by unfold FU;rw[if_neg zO,if_neg zO,if_pos h]
theorem LY (h:c.op=5):FU m A R c=Ct (R.getD c.a.toNat []) (R.getD c.b.toNat []):=by unfold FU;rw[if_neg zO,if_neg zO,if_neg zO,if_pos h]
theorem LZ (h:c.op=7):FU m A R c=CH (R.getD c.a.toNat []) 1000002:=by unfold FU;rw[if_neg zO,if_neg zO,if_neg zO,if_neg zO,if_pos h]
theorem M0 (h:c.op=6):FU m A R c=C3 (R.getD c.a.toNat []) (R.getD c.b.toNat []):=by unfold FU;rw[if_neg zO,if_neg zO,if_neg zO,if_neg zO,if_neg zO,if_pos h]
theorem M1 (h:c.op≠1∧c.op≠3∧c.op≠4∧c.op≠5∧c.op≠7∧c.op≠6):FU m A R c=cst m c.num:=by
 unfold FU;rw[if_neg h.1,if_neg h.2.1,if_neg h.2.2.1,if_neg h.2.2.2.1,if_neg h.2.2.2.2.1,if_neg h.2.2.2.2.2]
theorem Ub (hA:C4 m A)(hR:C4 m R)(hl:R.length=k)(h:Fi A.length k c):Cu m (FU m A R c):=by
 have hg:∀x:Int,0≤x→x<((k:Nat):Int)→Cu m (R.getD x.toNat []):=fun x h0 h1=>hR _ zO
 rcases h with⟨h1,_,_,h2,h3⟩|⟨h1,_,_,h2,h3⟩|⟨h1,h2,h3,_⟩|⟨h1,h2,_⟩
 ·rw[NT h1];exact hA _ zO
 ·rw[M1 (by omega)];exact En (CD.2 ⟨h2,h3⟩)
 ·have ha:=hg c.a h2.1 h2.2
  rcases h1 with h1|h1|h1|h1
  ·rw[LV h1];exact GS ha
  ·rw[LX h1];exact LB ha
  ·rw[LY h1];exact GT ha
  ·rw[M0 h1];exact FO ha
 ·rw[LZ h1];exact LC (hg c.a h2.1 h2.2)
theorem VP (h:C4 m (Bi m A (cs.take k)))(hA:C4 m A)(hf:Fi A.length k (cs.getD k AM.zero))(hk:k<cs.length):C4 m (Bi m A (cs.take (k+1))):=by
 rw[DM hk]
 exact C4.snoc h<|Ub hA h (by rw[C7,List.length_take];omega) hf
theorem Zh:LU m A cs 0:=fun j hj=>absurd hj (Nat.not_lt_zero j)
theorem VQ (h:LU m A cs k)(hk:(cs.getD k AM.zero).op≠6):LU m A cs (k+1):=fun j hj h6=>by
 by_cases e:j=k
 ·subst e;exact absurd h6 hk
 ·exact h j zO h6
theorem VR (h:LU m A cs k)(hk:((Bi m A (cs.take k)).getD (cs.getD k AM.zero).b.toNat []).getD 0 0≠0):LU m A cs (k+1):=fun j hj h6=>by
 by_cases e:j=k
 ·subst e;exact hk
 ·exact h j zO h6
theorem Uc {n:Nat}(hk:k<n)(h6:(cs.getD k AM.zero).op=6)(hz:((Bi m A (cs.take k)).getD (cs.getD k AM.zero).b.toNat []).getD 0 0=0):¬LU m A cs n:=fun h=>h k hk h6 hz
end
theorem DL.nz {m:Nat}{A:List Sr}{T:Tp}(h:DL m A T):LU m A T.code T.code.length:=fun j hj h6=>by
 have hf:=h.form j hj
 have hd:=h.dv j hj h6
 unfold Fi at hf
 have hb:(T.code.getD j AM.zero).b.toNat<j:=by omega
 have hs:=(h.ser (T.code.getD j AM.zero).b.toNat zO).2
 have e:(Bi m A (T.code.take j)).getD (T.code.getD j AM.zero).b.toNat []=(Bi m A T.code).getD (T.code.getD j AM.zero).b.toNat []:=by
  have h9:=LS (m:=m) (A:=A) (T.code.take j) (T.code.drop j) (k:=(T.code.getD j AM.zero).b.toNat) (by rw[List.length_take];omega)
  rw[List.take_append_drop]at h9
  exact h9.symm
 rw[e,hs]
 exact hd
section io
variable {ni k:Nat} {c:AM}
theorem Fi.i1 (h:Fi ni k c)(h1:c.op=1):(0≤c.num∧c.num<((ni:Nat):Int)):=by unfold Fi at h;omega
theorem Fi.i2 (h:Fi ni k c)(h1:3≤c.op∧c.op≤6):(0≤c.a∧c.a<((k:Nat):Int))∧(0≤c.b∧c.b<((k:Nat):Int)):=by unfold Fi at h;omega
theorem Fi.i7 (h:Fi ni k c)(h1:c.op=7):(0≤c.a∧c.a<((k:Nat):Int)):=by unfold Fi at h;omega
end io
theorem NU {S:List Nat}{H:Array Obj}{cs:List Value}{x:AM}(h:RN S ON H cs x):cs=dV x∧Td x:=by
 obtain⟨F,h,_⟩:=h
 exact⟨h.1,h.2.1⟩
theorem Zi {S:List Nat}{H:Array Obj}{cs:List Value}{x:Jb}(h:RN S OO H cs x):cs=dW x∧BG x.reg:=by
 obtain⟨F,h,_⟩:=h
 exact⟨h.1,h.2.1⟩
def aJ (m:Nat)(A:List Sr)(cs:List AM)(c:Int):Prop:=(c=0∧LU m A cs cs.length)∨(c=6∧¬LU m A cs cs.length)
theorem VS {S:List Nat}{H:Array Obj}:RN S (Bd (Bd rI)) H (.slice none 0 0) []:=⟨[],.inl ⟨none,0,rfl,rfl,rfl⟩,fun b hb=>by cases hb⟩
end
section
def FC (B:List Sr)(r:Int)(s:Sr):List Sr:=B.set r.toNat (Ee (B.getD r.toNat []) s)
def Nm (cs:List AM)(R:List Sr)(k:Nat)(B:List Sr):List Sr :=
 if (cs.getD k AM.zero).op=3 then FC (FC B (cs.getD k AM.zero).a (B.getD k [])) (cs.getD k AM.zero).b (B.getD k [])
 else if (cs.getD k AM.zero).op=4 then FC (FC B (cs.getD k AM.zero).a (B.getD k [])) (cs.getD k AM.zero).b (CH (B.getD k []) 1000002)
 else if (cs.getD k AM.zero).op=5 then FC (FC B (cs.getD k AM.zero).a (Ct (B.getD k []) (R.getD (cs.getD k AM.zero).b.toNat []))) (cs.getD k AM.zero).b (Ct (B.getD k []) (R.getD (cs.getD k AM.zero).a.toNat []))
 else if (cs.getD k AM.zero).op=6 then FC (FC B (cs.getD k AM.zero).a (C3 (B.getD k []) (R.getD (cs.getD k AM.zero).b.toNat []))) (cs.getD k AM.zero).b (CH (Ct (C3 (B.getD k []) (R.getD (cs.getD k AM.zero).b.toNat [])) (R.getD k [])) 1000002)
 else if (cs.getD k AM.zero).op=7 then FC B (cs.getD k AM.zero).a (CH (B.getD k []) 1000002)else B
def Sj (cs:List AM)(R:List Sr):Nat→List Sr→List Sr
 |0,B=>B
 |k+1,B=>Sj cs R k (Nm cs R k B)
def MC (os:List Int)(ws:List Int):Nat→List Sr→List Sr
 |0,B=>B
 |k+1,B=>(MC os ws k B).set (os.getD k 0).toNat (((MC os ws k B).getD (os.getD k 0).toNat []).set 0 (md (((MC os ws k B).getD (os.getD k 0).toNat []).getD 0 0+ws.getD k 0)))
def JV (R:List Sr):List Sr:=R.map fun s=>List.replicate s.length 0
def JW (cs:List AM)(R:List Sr)(os ws:List Int):List Sr:=Sj cs R cs.length (MC os ws os.length (JV R))
section
variable {m:Nat} {cs:List AM} {R B:List Sr} {os ws:List Int}
theorem Hk (h:C4 m R):C4 m (JV R):=fun k hk=>by
 have hk':k<R.length:=by unfold JV at hk;simpa using hk
 have e:(JV R).getD k []=List.replicate (R.getD k []).length 0:=by unfold JV;simp[List.getD_eq_getElem?_getD,List.getElem?_map,hk']
 rw[e]
 exact⟨by rw[z5];exact(h k hk').1,I4 _⟩
@[simp] theorem Da:(JV R).length=R.length:=by simp[JV]
@[simp] theorem Er (k:Nat):(MC os ws k B).length=B.length:=by
 induction k with
 |zero=>rfl
 |succ k ih=>show((MC os ws k B).set _ _).length=_;rw[z6,ih]
theorem C4.set {k:Nat}{s:Sr}(h:C4 m B)(hs:Cu m s):C4 m (B.set k s):=fun j hj=>by
 rw[z6]at hj
 by_cases e:j=k
 ·rw[e,DQ _ _ _ _ _ zO,if_pos rfl];exact hs
 ·rw[show(B.set k s).getD j []=B.getD j []from by rw[List.getD_eq_getElem?_getD,List.getElem?_set_ne (fun h=>e h.symm),← List.getD_eq_getElem?_getD]];exact h j hj
theorem Ks {s:Sr}{y:Int}(h:Bb s=true)(hy:0≤y∧y<1000003):Bb (s.set 0 y)=true:=by
 cases s with
 |nil=>rfl
 |cons x s =>
  rw[List.set_cons_zero]
  unfold Bb at h ⊢
  rw[List.all_cons]at h ⊢
  have:=Bool.and_eq_true_iff.1 h
  rw[this.2,Bool.and_true]
  exact CD.2 hy
theorem IA (h:C4 m B)(ho:∀k,k<os.length→(os.getD k 0).toNat<B.length):∀k,k≤os.length→C4 m (MC os ws k B)
 |0,_=>h
 |k+1,hk=>by
  have ih:=IA h ho k zO
  have h9:=ih (os.getD k 0).toNat (by rw[Er];exact ho k zO)
  exact ih.set ⟨by rw[z6];exact h9.1,Ks h9.2<|Ci _⟩
@[simp] theorem C2 {r:Int}{s:Sr}:(FC B r s).length=B.length:=by unfold FC;rw[z6]
theorem Db {r:Int}{s:Sr}(h:C4 m B)(hr:r.toNat<B.length):C4 m (FC B r s):=h.set (GS (h _ hr))
theorem Lp (k:Nat):(Nm cs R k B).length=B.length:=by
 unfold Nm
 split
 ·rw[C2,C2]
 ·split
  ·rw[C2,C2]
  ·split
   ·rw[C2,C2]
   ·split
    ·rw[C2,C2]
    ·split
     ·rw[C2]
     ·rfl
theorem Hl {ni k:Nat}(h:C4 m B)(hk:k≤B.length)(hf:Fi ni k (cs.getD k AM.zero)):C4 m (Nm cs R k B):=by
 have h2:=fun h9=>hf.i2 h9
 have h7:=fun h9=>hf.i7 h9
 unfold Nm
 split
 ·have:=h2 (by omega);exact Db (Db h zO) (by rw[C2];omega)
 ·split
  ·have:=h2 (by omega);exact Db (Db h zO) (by rw[C2];omega)
  ·split
   ·have:=h2 (by omega);exact Db (Db h zO) (by rw[C2];omega)
   ·split
    ·have:=h2 (by omega);exact Db (Db h zO) (by rw[C2];omega)
    ·split
     ·have:=h7 (by omega);exact Db h zO
     ·exact h
theorem Ra:∀(n:Nat)(B:List Sr),(Sj cs R n B).length=B.length
 |0,_=>rfl
 |n+1,B=>by show(Sj cs R n _).length=_;rw[Ra n,Lp]
theorem Rb {ni:Nat}(hf:∀k,k<cs.length→Fi ni k (cs.getD k AM.zero)):∀(n:Nat)(B:List Sr),n≤cs.length→n≤B.length→C4 m B→C4 m (Sj cs R n B)
 |0,_,_,_,h=>h
 |n+1,B,hn,hb,h=>Rb hf n _ zO (by rw[Lp];omega) (Hl h zO (hf n zO))
theorem P8 {k:Nat}(h:(cs.getD k AM.zero).op=3):Nm cs R k B=FC (FC B (cs.getD k AM.zero).a (B.getD k [])) (cs.getD k AM.zero).b (B.getD k []):=if_pos h
theorem P9 {k:Nat}(h:(cs.getD k AM.zero).op=4):Nm cs R k B=FC (FC B (cs.getD k AM.zero).a (B.getD k [])) (cs.getD k AM.zero).b (CH (B.getD k []) 1000002):=by unfold Nm;rw[if_neg zO,if_pos h]
theorem Pa {k:Nat}(h:(cs.getD k AM.zero).op=5):Nm cs R k B=FC (FC B (cs.getD k AM.zero).a (Ct (B.getD k []) (R.getD (cs.getD k AM.zero).b.toNat []))) (cs.getD k AM.zero).b (Ct (B.getD k []) (R.getD (cs.getD k AM.zero).a.toNat [])):=by unfold Nm;rw[if_neg zO,if_neg zO,if_pos h]
theorem Pb {k:Nat}(h:(cs.getD k AM.zero).op=6):Nm cs R k B=FC (FC B (cs.getD k AM.zero).a (C3 (B.getD k []) (R.getD (cs.getD k AM.zero).b.toNat []))) (cs.getD k AM.zero).b (CH (Ct (C3 (B.getD k []) (R.getD (cs.getD k AM.zero).b.toNat [])) (R.getD k [])) 1000002):=by
 unfold Nm;rw[if_neg zO,if_neg zO,if_neg zO,if_pos h]
theorem Pc {k:Nat}(h:(cs.getD k AM.zero).op=7):Nm cs R k B=FC B (cs.getD k AM.zero).a (CH (B.getD k []) 1000002):=by unfold Nm;rw[if_neg zO,if_neg zO,if_neg zO,if_neg zO,if_pos h]
theorem Pd {k:Nat}(h:(cs.getD k AM.zero).op<3∨7<(cs.getD k AM.zero).op):Nm cs R k B=B:=by unfold Nm;rw[if_neg zO,if_neg zO,if_neg zO,if_neg zO,if_neg (by omega)]
theorem GZ {n k:Nat}{D B':List Sr}(h:Sj cs R n B=D)(hn:n=k+1)(hi:Nm cs R k B=B'):Sj cs R k B'=D:=by
 subst hn
 rw[← hi];exact h
end
theorem NV {e:TypeId}{H:Array Obj}{v:Value}{us:List Value}{F:List Nat}(h:BA rV e H v us F)(hl:0<us.length):∃g cap,F=[g]∧v=.slice (some ⟨g,0,none⟩) us.length cap∧∀k,k<us.length→HV H (AA v k 1)=some (us.getD k undef):=by
 rcases h with⟨_,rfl,_⟩|⟨vs,g,cap,cur,F',hels,rfl,hg,r1,r2,r3,r4,rfl⟩
 ·simp at hl
 ·obtain⟨rfl,rfl⟩:=Fy hels
  refine⟨g,cap,rfl,rfl,fun k hk=>?_⟩
  have hu:vs[k]? = some (vs.getD k undef):=by simp[List.getD_eq_getElem?_getD,hk]
  rw[Ha]
  simp only[HV,C5,hg,Nat.zero_add]
  rw[← r4,List.getElem?_take,if_pos hk]at hu
  rw[r4]at hu
  simpa using hu
section
variable {e:TypeId} {B:Nat} {w w':World} {v:Value} {xs:List (List Int)} {us:List Value} {F:List Nat}
theorem HY.getF {S:List Nat}{H:Array Obj}(h:HY e S B H v xs us F){k:Nat}(hk:k<xs.length):∃u,HV H (AA v k 1)=some u∧RN (S++F) (Bd rI) H u (xs.getD k []):=by
 obtain⟨g,cap,_,_,h3⟩:=NV h.own (by rw[h.len];omega)
 exact⟨_,h3 k (by rw[h.len];exact hk),h.els k hk⟩
theorem HY.ofFr {S:List Nat}{e1:TypeId}{U:Nat}{H:Array Obj}(h:Fr (BA (BA rI e1) e) B U H v xs)(hS:∀b∈S,b<B):∃us F,HY e S B H v xs us F∧∀b∈F,b<U:=by
 obtain⟨F,h1,h2,h3⟩:=h
 rcases h1 with⟨rfl,rfl,rfl⟩|⟨us,g,cap,cur,F',hels,rfl,hg,r1,r2,r3,r4,rfl⟩
 ·exact⟨[],[],⟨.inl ⟨rfl,rfl,rfl⟩,zk,(fun b hb=>absurd hb z2),rfl,(fun k hk=>absurd hk (Nat.not_lt_zero k))⟩,(fun b hb=>absurd hb z2)⟩
 ·have hl:=hels.length
  have hn:=List.nodup_cons.1 h2
  refine⟨us,[g],⟨.inr ⟨us,g,cap,cur,[],Lx (hels.cells1 o1),by rw[hl],hg,zO,r2,r3,by rw[hl];exact r4,rfl⟩,by simp,fun b hb=>?_,hl,fun k hk=>?_⟩,fun b hb=>?_⟩
  ·have:=h3 b (by rw[A9 hb];exact z0 ..);omega
  ·obtain⟨u,G,hu,q1,q2,q3,_⟩:=hels.at_ (k:=k) [] hk hn.2
   have e1:us.getD k undef=u:=by simp[List.getD_eq_getElem?_getD,hu]
   rw[e1]
   exact⟨G,q1.rd id,fun b hb hm=>by
    have hb':=q3 b hb
    rcases zi.1 hm with hm|hm
    ·have h8:=hS b hm
     have h9:=(h3 b<|z3 _ hb').1
     omega
    ·rw[A9 hm]at hb'
     exact hn.1 hb'⟩
  ·exact (h3 b (by rw[A9 hb];exact z0 ..)).2
end
section ops
variable {P:Program} {ops:Array Oper} {w0:World} {Q:Act→World→Prop} {os:List Oper} {ks:List Nat} {N:Nat} {ρ:Nat→Value} {w:World}
 {d:Nat} {ty:TypeId} {pos:String} {aft:Array Edge} {g:Option (Nat×Bool)} {t e:TypeId} {z:Value} {b:Nat}
theorem Ud {S:List Nat}{st:TypeId}{x y:Operand}{v u:Value}{xs:List (List Int)}{r:List Int}{us:List Value}{F:List Nat}{B j:Nat}(hst:(P.info? st).map (·.size)=some 1)(hx:Bw N ρ x=AA v j 1)(hy:Bw N ρ y=u)
  (hv:HY e S B w.heap v xs us F) (hr:RN (S++F) (Bd rI) w.heap u r) (hj:j<xs.length) (hu:Up ops N ρ ⟨none,.store st x y,ty,pos,aft,g⟩)
  (h:∀w1,Ax F w w1→w1.heap.size=w.heap.size→HY e S B w1.heap v (xs.set j r) (us.set j u) F→LW P ops w0 Q os ks (mk N ρ) w1) :
  LW P ops w0 Q (⟨none,.store st x y,ty,pos,aft,g⟩::os) (4::ks) (mk N ρ) w:=by
 obtain⟨g0,cap,hF,hvv,_⟩:=NV hv.own (by rw[hv.len];omega)
 have hone:=hr.one1 g1
 obtain⟨w1,F',q1,q2,q3,q4,q5,q6⟩:=Qr (P:=P) BK hst hv.own hv.nd (by rw[hv.len];exact hj) (u:=u) (y:=u) (G:=[]) ⟨rfl,rfl,hone.1,hone.2⟩ zk (fun b hb=>by cases hb)
 obtain⟨g2,cap2,hF2,hvv2,_⟩:=NV q2 (by rw[z6,hv.len];omega)
 have hg:g2=g0:=by
  rw[hvv]at hvv2
  injection hvv2 with h1 _ _
  injection h1 with h1
  injection h1 with h1 _ _
  exact h1.symm
 have hFF:F'=F:=by rw[hF2,hF,hg]
 subst hFF
 have hc:Ax F' w w1:=q5.sub fun x hx=>zj hx
 refine Sp rfl hu w1 (Hd hx hy q1)<|h w1 hc q6 ⟨q2,hv.nd,hv.low,by rw[z6,z6];exact hv.len,fun k hk=>?_⟩
 rw[z6]at hk
 have hku:k<us.length:=by rw[hv.len];exact hk
 rw[DQ _ _ _ _ _ (by rw[hv.len];exact hj),DQ _ _ _ _ _ hj]
 have hcS:Ax (S++F') w w1:=hc.sub fun b hb=>z1 _ hb
 by_cases ek:k=j
 ·rw[if_pos ek,if_pos ek];exact hr.chg g1 hcS
 ·rw[if_neg ek,if_neg ek]
  exact (hv.els k hk).chg g1 hcS
theorem VT {st e':TypeId}{x y:Operand}{v u:Value}{n:Int}{xs:List (List Int)}{B T r j:Nat}{F:List Nat}(hst:(P.info? st).map (·.size)=some 1)(hx:Bw N ρ x=AA u j 1)(hy:Bw N ρ y=.int .i64 n)(hn:-9223372036854775808≤n∧n≤9223372036854775807)
  (hv:Ow (BA (BA rI e) e') B T w.heap v xs F) (hr:r<xs.length) (hl:HV w.heap (AA v r 1)=some u) (hj:j<(xs.getD r []).length) (hu:Up ops N ρ ⟨none,.store st x y,ty,pos,aft,g⟩)
  (h:∀w1 G,Ax G w w1→w1.heap.size=w.heap.size→(∀c∈G,c∈F)→Ow (BA (BA rI e) e') B T w1.heap v (xs.set r ((xs.getD r []).set j n)) F→LW P ops w0 Q os ks (mk N ρ) w1) :
  LW P ops w0 Q (⟨none,.store st x y,ty,pos,aft,g⟩::os) (4::ks) (mk N ρ) w:=by
 obtain⟨hown,hnd,hlow,hhigh⟩:=hv
 rcases hown with⟨_,rfl,_⟩|⟨us,g0,cap,cur,F',hels,rfl,hg,r1,r2,r3,r4,rfl⟩
 ·simp at hr
 ·have hc:=List.nodup_cons.1 hnd
  obtain⟨u',G,q0,q1,q2,q3,q4⟩:=hels.at_ (k:=r) [] hr hc.2
  have hlen:=hels.length
  have hu':u'=u:=by
   rw[Ha]at hl
   simp only[HV,C5,hg,Nat.zero_add]at hl
   rw[← r4,List.getElem?_take,if_pos hr]at q0
   have:some u'=some u:=by rw[← q0,← hl];simp
   exact Option.some.inj this
  subst hu'
  obtain⟨w1,p1,p2,p3,p4⟩:=Sw (P:=P) hst q1 q2 hj hn
  have hgG:g0∉G:=fun hm=>hc.1 (q3 g0 hm)
  refine Sp rfl hu w1 (Hd hx hy p1)<|h w1 G p3 p4 (fun c hm=>z3 _<|q3 c hm) ⟨.inr ⟨us,g0,cap,cur,F',?_,by rw[z6],?_,by rw[z6];exact r1,r2,r3,by rw[z6];exact r4,rfl⟩,hnd,hlow,hhigh⟩
  ·exact q4 (fun hE hC=>o1.stable hE fun b hb=>p3.block b (o1.lt hE b hb) (hC b hb).2) p2
  ·have hlt:g0<w.heap.size:=(Array.getElem?_eq_some_iff.1 hg).1
   rw[p3.block g0 hlt hgG];exact hg
end ops
section
variable {e1 e:TypeId} {B T:Nat} {w:World} {v:Value} {xs:List (List Int)} {F:List Nat}
theorem Ow.rowO (h:Ow (BA (BA rI e1) e) B T w.heap v xs F){k:Nat}(hk:k<xs.length):∃u,HV w.heap (AA v k 1)=some u∧Rd (Bd rI) w.heap u (xs.getD k []):=by
 obtain⟨u,G,q0,q1,_⟩:=h.fr.row o1 [] hk
 exact⟨u,q0,G,q1.rd id⟩
theorem Ow.slO {H:Array Obj}(h:Ow (BA (BA rI e1) e) B T H v xs F):Fx v xs.length:=(BA.rd id h.own:Bd (BA rI e1) H v xs F).isSl
theorem HY.ofOw {S:List Nat}(h:Ow (BA (BA rI e1) e) B T w.heap v xs F)(hS:∀b∈S,b<B):∃us F',HY e S B w.heap v xs us F'∧∀b∈F',b∈F:=by
 obtain⟨h1,h2,h3,h4⟩:=h
 rcases h1 with⟨rfl,rfl,rfl⟩|⟨us,g,cap,cur,F',hels,rfl,hg,r1,r2,r3,r4,rfl⟩
 ·exact⟨[],[],⟨.inl ⟨rfl,rfl,rfl⟩,zk,(fun b hb=>absurd hb z2),rfl,(fun k hk=>absurd hk (Nat.not_lt_zero k))⟩,(fun b hb=>absurd hb z2)⟩
 ·have hl:=hels.length
  have hn:=List.nodup_cons.1 h2
  refine⟨us,[g],⟨.inr ⟨us,g,cap,cur,[],Lx (hels.cells1 o1),by rw[hl],hg,zO,r2,r3,by rw[hl];exact r4,rfl⟩,by simp,fun b hb=>?_,hl,fun k hk=>?_⟩,fun b hb=>?_⟩
  ·exact h3 b (by rw[A9 hb];exact z0 ..)
  ·obtain⟨u,G,hu,q1,q2,q3,_⟩:=hels.at_ (k:=k) [] hk hn.2
   have e1:us.getD k undef=u:=by simp[List.getD_eq_getElem?_getD,hu]
   rw[e1]
   exact⟨G,q1.rd id,fun b hb hm=>by
    have hb':=q3 b hb
    rcases zi.1 hm with hm|hm
    ·have h8:=hS b hm
     have h9:=h3 b<|z3 _ hb'
     omega
    ·rw[A9 hm]at hb'
     exact hn.1 hb'⟩
  ·rw[A9 hb];exact z0 ..
end
theorem Ue {R:List Sr}{k:Nat}(hk:k<R.length):JV (R.take k)++[List.replicate (R.getD k []).length 0]=JV (R.take (k+1)):=by
 unfold JV
 rw[Cn [] hk,List.map_append];rfl
end
section
def Sb (cs:List AM)(L:List Sr):Nat→List Sr→List Sr
 |0,B=>B
 |k+1,B=>if (cs.getD k AM.zero).op=1 then FC (Sb cs L k B) (cs.getD k AM.zero).num (L.getD k [])else Sb cs L k B
def VU (ni m:Nat)(cs:List AM)(L:List Sr):List Sr:=Sb cs L cs.length (List.replicate ni (List.replicate m 0))
section
variable {m ni:Nat} {cs:List AM} {L B:List Sr}
theorem M2 {k:Nat}(h:(cs.getD k AM.zero).op=1):Sb cs L (k+1) B=FC (Sb cs L k B) (cs.getD k AM.zero).num (L.getD k []):=if_pos h
theorem M3 {k:Nat}(h:(cs.getD k AM.zero).op≠1):Sb cs L (k+1) B=Sb cs L k B:=if_neg h
@[simp] theorem IB (k:Nat):(Sb cs L k B).length=B.length:=by
 induction k with
 |zero=>rfl
 |succ k ih =>
  by_cases h:(cs.getD k AM.zero).op=1
  ·rw[M2 h,C2,ih]
  ·rw[M3 h,ih]
theorem JX (m ni:Nat):C4 m (List.replicate ni (List.replicate m 0)):=fun k hk=>by
 rw[z5]at hk
 have e:(List.replicate ni (List.replicate m (0:Int))).getD k []=List.replicate m 0:=by simp[List.getD_eq_getElem?_getD,hk]
 rw[e]
 exact⟨z5,I4 _⟩
theorem Lq (hf:∀k,k<cs.length→Fi B.length k (cs.getD k AM.zero))(h:C4 m B):∀k,k≤cs.length→C4 m (Sb cs L k B)
 |0,_=>h
 |k+1,hk=>by
  have ih:=Lq hf h k zO
  by_cases h1:(cs.getD k AM.zero).op=1
  ·rw[M2 h1]
   have:=(hf k zO).i1 h1
   exact Db ih (by rw[IB];omega)
  ·rw[M3 h1];exact ih
theorem Rc (hf:∀k,k<cs.length→Fi ni k (cs.getD k AM.zero)):C4 m (VU ni m cs L):=Lq (fun k hk=>by rw[z5];exact hf k hk) (JX m ni) _ (A7 _)
@[simp] theorem Re:(VU ni m cs L).length=ni:=by unfold VU;rw[IB,z5]
end
end
section
def Eg (A:List Sr):List Int:=A.map fun s=>s.getD 0 0
section
variable {m:Nat} {A:List Sr} {T:Tp} {xs:List Int}
@[simp] theorem Dg:(Eg A).length=A.length:=by simp[Eg]
theorem Sc (h:C4 m A):PT m (Eg A) A:=⟨Dg.symm,fun i hi=>h i (by rw[Dg]at hi;exact hi),fun i hi=>by
 rw[Dg]at hi
 unfold Eg
 rw[BT (d:=[]) hi]⟩
theorem DL.regs (h:DL m A T):C4 m (Bi m A T.code):=fun k hk=>(h.ser k (by rw[C7]at hk;exact hk)).1
theorem DL.outs (h:DL m A T)(hE:Km T xs):∀k,k<xs.length→0≤xs.getD k 0∧xs.getD k 0<((T.code.length:Nat):Int):=fun k hk=>by have:=hE k hk;have:=h.cl;omega
theorem DL.adj (h:DL m A T)(hE:Km T xs){ws:List Int}:C4 m (JW T.code (Go.Proofs.YtbajepcpgncekaaGreat.Bi m A T.code) xs ws):=by
 have ho:=h.outs hE
 refine Rb (ni:=A.length) h.form _ _ (A7 _) (by rw[Er,Da,C7];exact A7 _)<|IA (Hk h.regs) (fun q hq=>?_) _<|A7 _
 have:=ho q hq
 rw[Da,C7];omega
theorem Uf {cs:List AM}{R:List Sr}{os ws:List Int}:(JW cs R os ws).length=R.length:=by unfold JW;rw[Ra,Er,Da]
end
end
section
section
variable {m:Nat} {a b c:Sr}
theorem Rf (ha:Cu m a){k:Nat}(hk:k<m):(Ee a b).getD k 0=md (a.getD k 0+b.getD k 0):=by unfold Ee;exact CE _ (by rw[ha.1];exact hk)
theorem Rg (ha:Cu m a){y:Int}{k:Nat}(hk:k<m):(CH a y).getD k 0=md (a.getD k 0*y):=by unfold CH;exact CE _ (by rw[ha.1];exact hk)
end
end
section
theorem eZ {f:Nat→Int}:∀ {n:Nat},(∀i,i<n→f i=0)→sm n f=0
 |0,_=>rfl
 |n+1,h=>by unfold sm;rw[eZ (n:=n) fun i hi=>h i zO,h n (by omega)];rfl
section
variable {N N':Nat} {f f' g g':Nat→Int} {a b:Sr}
theorem EN.mono (h:EN N f g)(hN:N'≤N):EN N' f g:=fun k hk=>h k zO
theorem EN.neg (hf:EN N f f'):EN N (fun k=>- f k) (fun k=>- f' k):=fun k hk=>by rw[← Kf,hf k hk,Kf]
theorem EN.eq (h:∀k,k<N→f k=g k):EN N f g:=fun k hk=>by rw[h k hk]
theorem Ug (ha:Cu N a):EN N (DD (CH a 1000002)) (fun k=>- DD a k):=EN.trans (eX (y:=1000002) ha) fun k _=>by
 show md (1000002*DD a k)=md (- DD a k)
 unfold md;omega
def Lo (r:Nat)(f:Nat→Int):Prop:=EN r f KT
theorem Lo.mono {r r':Nat}(h:Lo r f)(hr:r'≤r):Lo r' f:=EN.mono h hr
theorem Lo.of {r:Nat}(h:EN r f g)(hg:Lo r g):Lo r f:=EN.trans h hg
theorem Lo.add {r:Nat}(h:Lo r f)(hg:Lo r g):Lo r fun k=>f k+g k:=(EN.add h hg).trans fun k _=>rfl
theorem Lo.sub {r:Nat}(h:Lo r f)(hg:Lo r g):Lo r fun k=>f k-g k:=(EN.sub h hg).trans fun k _=>rfl
theorem Lo.neg {r:Nat}(h:Lo r f):Lo r fun k=>- f k:=fun k hk=>by
 have:=h k hk
 show md (- f k)=md 0
 rw[← Kf,this];rfl
theorem Lo.cvl {r:Nat}(h:Lo r f)(g:Nat→Int):Lo r (cv f g):=(EN.cv h (EN.rfl' g)).trans fun k _=>by rw[Gi];rfl
theorem Lo.cvr {r:Nat}(g:Nat→Int)(h:Lo r f):Lo r (cv g f):=fun k hk=>by rw[DI];exact h.cvl g k hk
theorem Lo.cv2 {r s:Nat}(h:Lo r f)(hg:Lo s g):Lo (r+s) (cv f g):=fun k hk=>by
 rw[KI]
 have e:md (sm (k+1) fun i=>f i*g (k-i))=md (sm (k+1) fun _=>0):=N9 fun i hi=>by
  by_cases h1:i<r
  ·rw[← Do,h i h1]
   show md (md 0*_)=_
   rw[Fz,Int.zero_mul]
  ·rw[← Do,hg (k-i) (by omega)]
   show md (_*md 0)=_
   rw[FA,Int.mul_zero]
 rw[e,eZ fun _ _=>rfl];rfl
theorem JY (f g g':Nat→Int)(k:Nat):cv f (fun i=>g i-g' i) k=cv f g k-cv f g' k:=by rw[DI,QK,DI g,DI g']
theorem Rh (f g:Nat→Int)(k:Nat):cv f (fun i=>- g i) k = - cv f g k:=by
 have e:(fun i=>- g i)=fun i=>(-1)*g i:=funext fun i=>by omega
 rw[e,OI];omega
theorem NW (f g:Nat→Int)(k:Nat):cv (fun i=>- f i) g k = - cv f g k:=by rw[DI,Rh,DI]
theorem Lo.div {r:Nat}(hd:∃e:Int,md (g 0*e)=1)(h:Lo r (cv f g)):Lo r f:=PD hd (h.trans fun k _=>by rw[Gi];rfl)
end
section
variable {N m n:Nat} {B:List Sr} {v v':Nat→Nat→Int}
theorem PU {f g:Nat→Int}{i:Nat}:∀ {n:Nat},i<n→(∀j,j<n→j≠i→f j=g j)→sm n f=sm n g+(f i-g i)
 |0,h,_=>absurd h (Nat.not_lt_zero i)
 |n+1,hi,h=>by
  show sm n f+f n=sm n g+g n+_
  by_cases e:i=n
  ·subst e
   rw[DC fun j hj=>h j zO (by omega)];omega
  ·rw[PU (n:=n) zO fun j hj he=>h j zO he,h n zO (fun h=>e h.symm)];omega
theorem aK {i:Nat}(hi:i<n)(h:∀j,j<n→j≠i→v j=v' j)(t:Nat):H6 n v B t=H6 n v' B t+(cv (DD (B.getD i [])) (v i) t-cv (DD (B.getD i [])) (v' i) t):=by
 unfold H6
 exact PU (f:=fun j=>cv (DD (B.getD j [])) (v j) t) (g:=fun j=>cv (DD (B.getD j [])) (v' j) t) hi fun j hj he=>by rw[h j hj he]
theorem Ri {i:Nat}{s:Sr}{d:Nat→Int}(hi:i<n)(hb:i<B.length)(h:EN N (DD s) fun t=>DD (B.getD i []) t+d t):EN N (H6 n v (B.set i s)) fun t=>H6 n v B t+cv d (v i) t:=fun t ht=>by
 have e:H6 n v (B.set i s) t=H6 n v B t+(cv (DD s) (v i) t-cv (DD (B.getD i [])) (v i) t):=by
  unfold H6
  have:=PU (f:=fun j=>cv (DD ((B.set i s).getD j [])) (v j) t) (g:=fun j=>cv (DD (B.getD j [])) (v j) t) hi fun j hj he=>by rw[DQ _ _ _ _ _ hb,if_neg he]
  rw[this,DQ _ _ _ _ _ hb,if_pos rfl]
 have h2:md (cv (DD s) (v i) t)=md (cv (DD (B.getD i [])) (v i) t+cv d (v i) t):=by
  rw[EN.cv h (EN.rfl' (v i)) t ht,Lc]
 show md _=md (H6 n v B t+cv d (v i) t)
 rw[e,← Gh,← Gq,h2,Gq,Gh]
 congr 1;omega
theorem Lr {r:Int}{s:Sr}(hB:C4 m B)(hN:N≤m)(hr:r.toNat<n)(hb:r.toNat<B.length):EN N (H6 n v (FC B r s)) fun t=>H6 n v B t+cv (DD s) (v r.toNat) t :=
 Ri hr hb (EN.mono (Zf (hB _ hb)) hN)
theorem Pe (h:∀j,j<n→∀t,DD (B.getD j []) t=0)(t:Nat):H6 n v B t=0:=by
 unfold H6
 refine eZ fun j hj=>?_
 rw[show DD (B.getD j [])=KT from funext fun t=>h j hj t,Gi]
end
structure aL (N:Nat)(cs:List AM)(R:List Sr)(z D:Nat→Nat→Int):Prop where
 t1:∀k,k<cs.length→(cs.getD k AM.zero).op=1→EN N (D k) (z (cs.getD k AM.zero).num.toNat)
 t2:∀k,k<cs.length→(cs.getD k AM.zero).op=2→EN N (D k) KT
 t3:∀k,k<cs.length→(cs.getD k AM.zero).op=3→EN N (D k) fun t=>D (cs.getD k AM.zero).a.toNat t+D (cs.getD k AM.zero).b.toNat t
 t4:∀k,k<cs.length→(cs.getD k AM.zero).op=4→EN N (D k) fun t=>D (cs.getD k AM.zero).a.toNat t-D (cs.getD k AM.zero).b.toNat t
 t5:∀k,k<cs.length→(cs.getD k AM.zero).op=5→EN N (D k) fun t=>cv (DD (R.getD (cs.getD k AM.zero).b.toNat [])) (D (cs.getD k AM.zero).a.toNat) t+cv (DD (R.getD (cs.getD k AM.zero).a.toNat [])) (D (cs.getD k AM.zero).b.toNat) t
 t6:∀k,k<cs.length→(cs.getD k AM.zero).op=6→EN N (cv (DD (R.getD (cs.getD k AM.zero).b.toNat [])) (D k)) fun t=>D (cs.getD k AM.zero).a.toNat t-cv (DD (R.getD k [])) (D (cs.getD k AM.zero).b.toNat) t
 t7:∀k,k<cs.length→(cs.getD k AM.zero).op=7→EN N (D k) fun t=>- D (cs.getD k AM.zero).a.toNat t
def Ff (cs:List AM)(D:Nat→Nat→Int)(n k:Nat):Nat→Int:=if k<n∨(cs.getD k AM.zero).op=1 then D k else KT
section
variable {N m ni:Nat} {cs:List AM} {R B:List Sr} {z D:Nat→Nat→Int} {os ws:List Int}
theorem Hm {n k:Nat}(h:k<n):Ff cs D n k=D k:=if_pos (.inl h)
theorem Uh {n k:Nat}(h:(cs.getD k AM.zero).op=1):Ff cs D n k=D k:=if_pos (.inr h)
theorem XD {n k:Nat}(h:n≤k)(h1:(cs.getD k AM.zero).op≠1):Ff cs D n k=KT:=if_neg zO
theorem aM (hT:aL N cs R z D)(hN:N≤m)(hR:C4 m R)(hRl:R.length=cs.length)(hB:C4 m B)(hl:B.length=cs.length){k:Nat}(hk:k<cs.length)(hf:Fi ni k (cs.getD k AM.zero))
  (hd:(cs.getD k AM.zero).op=6→(R.getD (cs.getD k AM.zero).b.toNat []).getD 0 0≠0) :
  EN N (H6 cs.length (Ff cs D k) (Nm cs R k B)) (H6 cs.length (Ff cs D (k+1)) B):=by
 have hBk:=hB k zO
 by_cases h1:(cs.getD k AM.zero).op=1
 ·rw[Pd (by omega)]
  have e:H6 cs.length (Ff cs D k) B=H6 cs.length (Ff cs D (k+1)) B:=funext fun t=>by
   unfold H6
   refine DC fun j hj=>?_
   by_cases e:j=k
   ·subst e;rw[Uh h1,Uh h1]
   ·by_cases e2:j<k
    ·rw[Hm e2,Hm (by omega)]
    ·unfold Ff
     by_cases e3:(cs.getD j AM.zero).op=1
     ·rw[if_pos (.inr e3),if_pos (.inr e3)]
     ·rw[if_neg zO,if_neg (by omega)]
  rw[e];exact EN.rfl' _
 have hup:H6 cs.length (Ff cs D (k+1)) B=fun t=>H6 cs.length (Ff cs D k) B t+cv (DD (B.getD k [])) (D k) t:=funext fun t=>by
  rw[aK (v:=Ff cs D (k+1)) (v':=Ff cs D k) hk (fun j hj he=>?_) t,Hm (Nat.lt_succ_self k),XD (A7 k) h1,DI _ KT,Gi]
  ·omega
  ·by_cases e2:j<k
   ·rw[Hm e2,Hm (by omega)]
   ·unfold Ff
    by_cases e3:(cs.getD j AM.zero).op=1
    ·rw[if_pos (.inr e3),if_pos (.inr e3)]
    ·rw[if_neg zO,if_neg (by omega)]
 rw[hup]
 have two:∀ {ra rb:Int} {sa sb:Sr},ra.toNat<k→rb.toNat<k→EN N (fun t=>cv (DD sa) (D ra.toNat) t+cv (DD sb) (D rb.toNat) t) (cv (DD (B.getD k [])) (D k)) →
   EN N (H6 cs.length (Ff cs D k) (FC (FC B ra sa) rb sb)) fun t=>H6 cs.length (Ff cs D k) B t+cv (DD (B.getD k [])) (D k) t:=fun {ra rb sa sb} ha hb h=>by
  have q1:=Lr (v:=Ff cs D k) (s:=sa) (n:=cs.length) hB hN (r:=ra) zO zO
  have q2:=Lr (v:=Ff cs D k) (s:=sb) (n:=cs.length) (Db (s:=sa) hB (r:=ra) zO) hN (r:=rb) zO (by rw[C2];omega)
  rw[Hm ha]at q1
  rw[Hm hb]at q2
  refine q2.trans<|EN.trans (EN.add q1<|EN.rfl' _) ?_
  refine EN.trans (EN.eq fun t _=>?_)<|EN.add (EN.rfl'<|H6 cs.length (Ff cs D k) B) h
  exact Int.add_assoc _ _ _
 have b2:=fun h=>hf.i2 h
 have b7:=fun h=>hf.i7 h
 by_cases h3:(cs.getD k AM.zero).op=3
 ·rw[P8 h3]
  have:=b2 zO
  refine two zO zO ?_
  refine EN.trans (EN.eq fun t _=>?_)<|EN.cv (EN.rfl' _) (hT.t3 k hk h3).symm
  rw[Ld]
 by_cases h4:(cs.getD k AM.zero).op=4
 ·rw[P9 h4]
  have:=b2 zO
  refine two zO zO ?_
  refine EN.trans (EN.add (EN.rfl' _)<|EN.cv (EN.mono (Ug hBk) hN)<|EN.rfl' _) ?_
  refine EN.trans (EN.eq fun t _=>?_)<|EN.cv (EN.rfl' _) (hT.t4 k hk h4).symm
  rw[JY,NW];omega
 by_cases h5:(cs.getD k AM.zero).op=5
 ·rw[Pa h5]
  have:=b2 zO
  refine two zO zO ?_
  refine EN.trans (EN.add (EN.cv (EN.mono (SY hBk) hN)<|EN.rfl' _)<|EN.cv (EN.mono (SY hBk) hN)<|EN.rfl' _) ?_
  refine EN.trans (EN.eq fun t _=>?_)<|EN.cv (EN.rfl' _) (hT.t5 k hk h5).symm
  rw[Ld,I3,I3]
 by_cases h6:(cs.getD k AM.zero).op=6
 ·rw[Pb h6]
  have:=b2 zO
  have hRb:=hR (cs.getD k AM.zero).b.toNat zO
  refine two zO zO ?_
  have hq:=YM hBk hRb<|hd h6
  refine EN.trans (EN.add (EN.rfl' _)<|EN.cv (EN.mono (EN.trans (Ug<|GT<|FO hBk)<|EN.neg<|SY<|FO hBk) hN)<|EN.rfl' _) ?_
  refine EN.trans ?_<|EN.cv (EN.mono hq hN)<|EN.rfl' _
  refine EN.trans ?_<|EN.trans (EN.cv (EN.rfl'<|DD<|C3 (B.getD k [])<|R.getD (cs.getD k AM.zero).b.toNat []) (hT.t6 k hk h6).symm) (EN.eq fun t _=>(I3 _ _ _ t).symm)
  refine EN.eq fun t _=>?_
  rw[NW,JY,I3];omega
 by_cases h7:(cs.getD k AM.zero).op=7
 ·rw[Pc h7]
  have:=b7 h7
  have q1:=Lr (v:=Ff cs D k) (s:=CH (B.getD k []) 1000002) (n:=cs.length) hB hN (r:=(cs.getD k AM.zero).a) zO zO
  rw[Hm (by omega)]at q1
  refine q1.trans<|EN.add (EN.rfl' _) ?_
  refine EN.trans (EN.cv (EN.mono (Ug hBk) hN)<|EN.rfl' _)<|EN.trans (EN.eq fun t _=>?_)<|EN.cv (EN.rfl' _) (hT.t7 k hk h7).symm
  rw[Rh,NW]
 have h2:(cs.getD k AM.zero).op=2:=by unfold Fi at hf;omega
 rw[Pd (by omega)]
 refine EN.trans (EN.eq fun t _=>?_)<|EN.add (EN.rfl' _)<|EN.cv (EN.rfl' _) (hT.t2 k hk h2).symm
 rw[DI,Gi,Int.add_zero]
theorem XE (hT:aL N cs R z D)(hN:N≤m)(hR:C4 m R)(hRl:R.length=cs.length)(hf:∀k,k<cs.length→Fi ni k (cs.getD k AM.zero))
  (hd:∀k,k<cs.length→(cs.getD k AM.zero).op=6→(R.getD (cs.getD k AM.zero).b.toNat []).getD 0 0≠0) :
  ∀(n:Nat) (B:List Sr),n≤cs.length→C4 m B→B.length=cs.length→EN N (H6 cs.length (Ff cs D 0) (Sj cs R n B)) (H6 cs.length (Ff cs D n) B)
 |0,B,_,_,_=>EN.rfl' _
 |n+1,B,hn,hB,hl=>by
  show EN N (H6 cs.length (Ff cs D 0) (Sj cs R n (Nm cs R n B))) _
  exact (XE hT hN hR hRl hf hd n _ zO (Hl hB zO<|hf n zO) (by rw[Lp,hl])).trans<|aM hT hN hR hRl hB hl zO (hf n zO)<|hd n zO
theorem Rj {L B0:List Sr}(hT:aL N cs R z D)(hN:N≤m)(hB:C4 m B0)(hl:B0.length=ni)(hf:∀k,k<cs.length→Fi ni k (cs.getD k AM.zero)) :
  ∀n,n≤cs.length→EN N (H6 ni z (Sb cs L n B0)) fun t=>H6 ni z B0 t+sm n fun k=>cv (DD (L.getD k [])) (Ff cs D 0 k) t
 |0,_=>fun t _=>by show _=md (_+0);rw[Int.add_zero];rfl
 |n+1,hn=>by
  have ih:=Rj (L:=L) hT hN hB hl hf n zO
  by_cases h1:(cs.getD n AM.zero).op=1
  ·rw[M2 h1]
   have hi:=(hf n zO).i1 h1
   refine (Lr (Lq (fun k hk=>by rw[hl];exact hf k hk) hB n zO) hN zO (by rw[IB];omega)).trans ?_
   refine (EN.add ih<|EN.cv (EN.rfl' _) (hT.t1 n zO h1).symm).trans (EN.eq fun t _=>?_)
   show _=H6 ni z B0 t+(sm n _+cv (DD (L.getD n [])) (Ff cs D 0 n) t)
   rw[Uh h1,Int.add_assoc]
  ·rw[M3 h1]
   refine ih.trans (EN.eq fun t _=>?_)
   show _=H6 ni z B0 t+(sm n _+cv (DD (L.getD n [])) (Ff cs D 0 n) t)
   rw[XD (Nat.zero_le n) h1,DI _ KT,Gi,Int.add_zero]
theorem Ui {m:Nat}(t:Nat):DD (List.replicate m 0) t=0:=KP m t
theorem XF (hB:C4 m B)(hm:1≤m){n:Nat}(hn:n≤B.length):∀k,k≤os.length→(∀i,i<os.length→(os.getD i 0).toNat<n) →
  EN N (H6 n D (MC os ws k B)) fun t=>H6 n D B t+sm k fun i=>ws.getD i 0*D (os.getD i 0).toNat t
 |0,_,_=>fun t _=>by show _=md (_+0);rw[Int.add_zero];rfl
 |k+1,hk,ho=>by
  have ih:=XF hB hm hn k zO ho
  have h9:=ho k zO
  have hs:=IA (ws:=ws) hB (fun i hi=>by have:=ho i hi;omega) k zO (os.getD k 0).toNat (by rw[Er];omega)
  refine (Ri (B:=MC os ws k B) (s:=((MC os ws k B).getD (os.getD k 0).toNat []).set 0<|md (((MC os ws k B).getD (os.getD k 0).toNat []).getD 0 0+ws.getD k 0)) (d:=fun t=>ws.getD k 0*RZ t) h9 (by rw[Er];omega) fun t _=>?_).trans ?_
  ·unfold DD
   rw[DQ _ _ _ _ _ (by rw[hs.1];omega)]
   unfold RZ
   by_cases e:t=0
   ·subst e
    show _=md (_+ws.getD k 0*(if (0:Nat)=0 then 1 else 0))
    rw[if_pos rfl,if_pos rfl,EZ,Int.mul_one]
   ·show _=md (_+ws.getD k 0*(if t=0 then 1 else 0))
    rw[if_neg e,if_neg e,Int.mul_zero,Int.add_zero]
  ·refine (EN.add ih<|EN.rfl' _).trans (EN.eq fun t _=>?_)
   show _=_+(sm k _+_)
   rw[JO,YL,Int.add_assoc]
theorem VV (hT:aL N cs R z D)(hN:N≤m)(hm:1≤m)(hR:C4 m R)(hRl:R.length=cs.length)(hf:∀k,k<cs.length→Fi ni k (cs.getD k AM.zero))
  (hd:∀k,k<cs.length→(cs.getD k AM.zero).op=6→(R.getD (cs.getD k AM.zero).b.toNat []).getD 0 0≠0) (ho:∀i,i<os.length→(os.getD i 0).toNat<cs.length) :
  EN N (H6 ni z (VU ni m cs (JW cs R os ws))) fun t=>sm os.length fun i=>ws.getD i 0*D (os.getD i 0).toNat t:=by
 have h1:=Rj (L:=JW cs R os ws) (B0:=List.replicate ni<|List.replicate m 0) hT hN (JX m ni) z5 hf cs.length<|A7 _
 have hw:C4 m (MC os ws os.length (JV R)):=IA (Hk hR) (fun q hq=>by rw[Da,hRl];exact ho q hq) _ (A7 _)
 have h2:=XE hT hN hR hRl hf hd cs.length (MC os ws os.length<|JV R) (A7 _) hw (by rw[Er,Da,hRl])
 have h3:=XF (N:=N) (D:=D) (os:=os) (ws:=ws) (Hk hR) hm (n:=cs.length) (by rw[Da,hRl];exact A7 _) os.length (A7 _) ho
 have e1:∀t,H6 ni z (List.replicate ni (List.replicate m 0)) t=0:=Pe fun j hj t=>by
  rw[show(List.replicate ni (List.replicate m (0:Int))).getD j []=List.replicate m 0 from by simp[List.getD_eq_getElem?_getD,hj]];exact Ui t
 have e2:∀t,H6 cs.length D (JV R) t=0:=Pe fun j hj t=>by
  rw[show(JV R).getD j []=List.replicate (R.getD j []).length 0 from by unfold JV;rw[BT (d:=[]) (by omega)]];exact Ui t
 have e3:H6 cs.length (Ff cs D cs.length) (MC os ws os.length (JV R))=H6 cs.length D (MC os ws os.length (JV R)):=funext fun t=>by
  unfold H6
  exact DC fun j hj=>by rw[Hm hj]
 rw[e3]at h2
 refine h1.trans<|EN.trans (EN.eq fun t _=>?_)<|EN.trans h2<|h3.trans (EN.eq fun t _=>?_)
 ·rw[e1,Int.zero_add];rfl
 ·rw[e2,Int.zero_add]
end
end
section
def D6 (A A':List Sr)(j:Nat):Nat→Int:=fun t=>DD (A'.getD j []) t-DD (A.getD j []) t
section
variable {m r N k j:Nat} {A A':List Sr} {T:Tp} {cs:List AM}
theorem Gy (hk:k≤cs.length)(hj:j<k):(Bi m A (cs.take k)).getD j []=(Bi m A cs).getD j []:=by
 have:=LS (m:=m) (A:=A) (cs.take k) (cs.drop k) (k:=j) (by rw[List.length_take];omega)
 rw[List.take_append_drop]at this
 exact this.symm
theorem Jf (hk:k<cs.length):(Bi m A cs).getD k []=FU m A (Bi m A (cs.take k)) (cs.getD k AM.zero):=by
 rw[← Gy (show k+1≤cs.length from hk) (Nat.lt_succ_self k),DM hk,Gp (by rw[C7,List.length_take];omega)]
theorem DL.r1 (h:DL m A T)(hk:k<T.code.length)(h1:(T.code.getD k AM.zero).op=1):(Go.Proofs.YtbajepcpgncekaaGreat.Bi m A T.code).getD k []=A.getD (T.code.getD k AM.zero).num.toNat []:=by rw[Jf hk,NT h1]
theorem DL.r2 (h:DL m A T)(hk:k<T.code.length)(h1:(T.code.getD k AM.zero).op=2):(Go.Proofs.YtbajepcpgncekaaGreat.Bi m A T.code).getD k []=cst m (T.code.getD k AM.zero).num:=by rw[Jf hk,M1 (by omega)]
theorem DL.r3 (h:DL m A T)(hk:k<T.code.length)(h1:(T.code.getD k AM.zero).op=3):(Go.Proofs.YtbajepcpgncekaaGreat.Bi m A T.code).getD k []=Ee ((Go.Proofs.YtbajepcpgncekaaGreat.Bi m A T.code).getD (T.code.getD k AM.zero).a.toNat []) ((Go.Proofs.YtbajepcpgncekaaGreat.Bi m A T.code).getD (T.code.getD k AM.zero).b.toNat []):=by
 have:=(h.form k hk).i2 zO
 rw[Jf hk,LV h1,Gy zO zO,Gy zO (by omega)]
theorem DL.r4 (h:DL m A T)(hk:k<T.code.length)(h1:(T.code.getD k AM.zero).op=4):(Go.Proofs.YtbajepcpgncekaaGreat.Bi m A T.code).getD k []=FB ((Go.Proofs.YtbajepcpgncekaaGreat.Bi m A T.code).getD (T.code.getD k AM.zero).a.toNat []) ((Go.Proofs.YtbajepcpgncekaaGreat.Bi m A T.code).getD (T.code.getD k AM.zero).b.toNat []):=by
 have:=(h.form k hk).i2 zO
 rw[Jf hk,LX h1,Gy zO zO,Gy zO (by omega)]
theorem DL.r5 (h:DL m A T)(hk:k<T.code.length)(h1:(T.code.getD k AM.zero).op=5):(Go.Proofs.YtbajepcpgncekaaGreat.Bi m A T.code).getD k []=Ct ((Go.Proofs.YtbajepcpgncekaaGreat.Bi m A T.code).getD (T.code.getD k AM.zero).a.toNat []) ((Go.Proofs.YtbajepcpgncekaaGreat.Bi m A T.code).getD (T.code.getD k AM.zero).b.toNat []):=by
 have:=(h.form k hk).i2 zO
 rw[Jf hk,LY h1,Gy zO zO,Gy zO (by omega)]
theorem DL.r6 (h:DL m A T)(hk:k<T.code.length)(h1:(T.code.getD k AM.zero).op=6):(Go.Proofs.YtbajepcpgncekaaGreat.Bi m A T.code).getD k []=C3 ((Go.Proofs.YtbajepcpgncekaaGreat.Bi m A T.code).getD (T.code.getD k AM.zero).a.toNat []) ((Go.Proofs.YtbajepcpgncekaaGreat.Bi m A T.code).getD (T.code.getD k AM.zero).b.toNat []):=by
 have:=(h.form k hk).i2 zO
 rw[Jf hk,M0 h1,Gy zO zO,Gy zO (by omega)]
theorem DL.r7 (h:DL m A T)(hk:k<T.code.length)(h1:(T.code.getD k AM.zero).op=7):(Go.Proofs.YtbajepcpgncekaaGreat.Bi m A T.code).getD k []=CH ((Go.Proofs.YtbajepcpgncekaaGreat.Bi m A T.code).getD (T.code.getD k AM.zero).a.toNat []) 1000002:=by
 have:=(h.form k hk).i7 h1
 rw[Jf hk,LZ h1,Gy zO (by omega)]
theorem DL.rz (h:DL m A T)(hk:k<T.code.length)(h1:(T.code.getD k AM.zero).op=6):((Go.Proofs.YtbajepcpgncekaaGreat.Bi m A T.code).getD (T.code.getD k AM.zero).b.toNat []).getD 0 0≠0:=by
 have:=(h.form k hk).i2 zO
 rw[(h.ser (T.code.getD k AM.zero).b.toNat zO).2]
 exact h.dv k hk h1
theorem Uj (f g:Nat→Int):f=fun t=>g t+(f t-g t):=funext fun t=>by omega
theorem Uk (v w v' w':Nat→Int)(t:Nat):cv v' w' t-cv v w t=cv w (fun t=>v' t-v t) t+cv v (fun t=>w' t-w t) t+cv (fun t=>v' t-v t) (fun t=>w' t-w t) t:=by
 rw[QK,JY,JY,JY,DI w,DI w];omega
theorem XG (h:DL m A T)(h':DL m A' T)(hk:k<T.code.length)(h1:(T.code.getD k AM.zero).op=1):D6 (Bi m A T.code) (Bi m A' T.code) k=D6 A A' (T.code.getD k AM.zero).num.toNat:=by
 unfold D6;rw[h.r1 hk h1,h'.r1 hk h1]
theorem XH (h:DL m A T)(h':DL m A' T)(hk:k<T.code.length)(h1:(T.code.getD k AM.zero).op=2):EN N (D6 (Bi m A T.code) (Bi m A' T.code) k) KT:=EN.eq fun t _=>by
 unfold D6;rw[h.r2 hk h1,h'.r2 hk h1,Int.sub_self];rfl
theorem XI (h:DL m A T)(h':DL m A' T)(hk:k<T.code.length)(h1:(T.code.getD k AM.zero).op=3) :
  EN m (D6 (Bi m A T.code) (Bi m A' T.code) k) fun t=>D6 (Bi m A T.code) (Bi m A' T.code) (T.code.getD k AM.zero).a.toNat t+D6 (Bi m A T.code) (Bi m A' T.code) (T.code.getD k AM.zero).b.toNat t:=by
 have hb:=(h.form k hk).i2 zO
 unfold D6;rw[h.r3 hk h1,h'.r3 hk h1]
 exact (EN.sub (Zf (h'.ser _ zO).1) (Zf (h.ser _ zO).1)).trans (EN.eq fun t _=>by omega)
theorem XJ (h:DL m A T)(h':DL m A' T)(hk:k<T.code.length)(h1:(T.code.getD k AM.zero).op=4) :
  EN m (D6 (Bi m A T.code) (Bi m A' T.code) k) fun t=>D6 (Bi m A T.code) (Bi m A' T.code) (T.code.getD k AM.zero).a.toNat t-D6 (Bi m A T.code) (Bi m A' T.code) (T.code.getD k AM.zero).b.toNat t:=by
 have hb:=(h.form k hk).i2 zO
 unfold D6;rw[h.r4 hk h1,h'.r4 hk h1]
 exact (EN.sub (ZO (h'.ser _ zO).1) (ZO (h.ser _ zO).1)).trans (EN.eq fun t _=>by omega)
theorem XK (h:DL m A T)(h':DL m A' T)(hk:k<T.code.length)(h1:(T.code.getD k AM.zero).op=7) :
  EN m (D6 (Bi m A T.code) (Bi m A' T.code) k) fun t=>- D6 (Bi m A T.code) (Bi m A' T.code) (T.code.getD k AM.zero).a.toNat t:=by
 have hb:=(h.form k hk).i7 h1
 unfold D6;rw[h.r7 hk h1,h'.r7 hk h1]
 exact (EN.sub (Ug (h'.ser _ zO).1) (Ug (h.ser _ zO).1)).trans (EN.eq fun t _=>by omega)
theorem XL (h:DL m A T)(h':DL m A' T)(hk:k<T.code.length)(h1:(T.code.getD k AM.zero).op=5) :
  EN m (D6 (Bi m A T.code) (Bi m A' T.code) k) fun t=>cv (DD ((Bi m A T.code).getD (T.code.getD k AM.zero).b.toNat [])) (D6 (Bi m A T.code) (Bi m A' T.code) (T.code.getD k AM.zero).a.toNat) t
   + cv (DD ((Bi m A T.code).getD (T.code.getD k AM.zero).a.toNat [])) (D6 (Bi m A T.code) (Bi m A' T.code) (T.code.getD k AM.zero).b.toNat) t
   + cv (D6 (Bi m A T.code) (Bi m A' T.code) (T.code.getD k AM.zero).a.toNat) (D6 (Bi m A T.code) (Bi m A' T.code) (T.code.getD k AM.zero).b.toNat) t:=by
 have hb:=(h.form k hk).i2 zO
 unfold D6;rw[h.r5 hk h1,h'.r5 hk h1]
 exact (EN.sub (SY (h'.ser _ zO).1) (SY (h.ser _ zO).1)).trans (EN.eq fun t _=>Uk _ _ _ _ t)
theorem XM (h:DL m A T)(h':DL m A' T)(hk:k<T.code.length)(h1:(T.code.getD k AM.zero).op=6) :
  EN m (D6 (Bi m A T.code) (Bi m A' T.code) (T.code.getD k AM.zero).a.toNat) fun t=>cv (DD ((Bi m A T.code).getD (T.code.getD k AM.zero).b.toNat [])) (D6 (Bi m A T.code) (Bi m A' T.code) k) t
   + cv (DD ((Bi m A T.code).getD k [])) (D6 (Bi m A T.code) (Bi m A' T.code) (T.code.getD k AM.zero).b.toNat) t
   + cv (D6 (Bi m A T.code) (Bi m A' T.code) k) (D6 (Bi m A T.code) (Bi m A' T.code) (T.code.getD k AM.zero).b.toNat) t:=by
 have hb:=(h.form k hk).i2 zO
 have q:=YM (h.ser (T.code.getD k AM.zero).a.toNat zO).1 (h.ser (T.code.getD k AM.zero).b.toNat zO).1 (h.rz hk h1)
 have q':=YM (h'.ser (T.code.getD k AM.zero).a.toNat zO).1 (h'.ser (T.code.getD k AM.zero).b.toNat zO).1 (h'.rz hk h1)
 rw[← h.r6 hk h1]at q
 rw[← h'.r6 hk h1]at q'
 exact (EN.sub q'.symm q.symm).trans (EN.eq fun t _=>Uk _ _ _ _ t)
theorem Ul (h:DL m A T)(h':DL m A' T)(hr:r≤m)(hz:∀j,j<A.length→Lo r (D6 A A' j)):∀n k,k<n→k<T.code.length→Lo r (D6 (Bi m A T.code) (Bi m A' T.code) k)
 |0,k,hk,_=>absurd hk (Nat.not_lt_zero k)
 |n+1,k,hn,hk=>by
  have ih:=Ul h h' hr hz n
  have hf:=h.form k hk
  have b2:=fun h=>hf.i2 h
  have b7:=fun h=>hf.i7 h
  by_cases h1:(T.code.getD k AM.zero).op=1
  ·rw[XG h h' hk h1];have:=hf.i1 h1;exact hz _ zO
  by_cases h2:(T.code.getD k AM.zero).op=2
  ·exact XH h h' hk h2
  by_cases h3:(T.code.getD k AM.zero).op=3
  ·have:=b2 zO
   exact Lo.of (EN.mono (XI h h' hk h3) hr)<|(ih _ zO zO).add<|ih _ zO zO
  by_cases h4:(T.code.getD k AM.zero).op=4
  ·have:=b2 zO
   exact Lo.of (EN.mono (XJ h h' hk h4) hr)<|(ih _ zO zO).sub<|ih _ zO zO
  by_cases h5:(T.code.getD k AM.zero).op=5
  ·have:=b2 zO
   exact Lo.of (EN.mono (XL h h' hk h5) hr)<|((Lo.cvr _<|ih _ zO zO).add<|Lo.cvr _<|ih _ zO zO).add<|(ih _ zO zO).cvl _
  by_cases h6:(T.code.getD k AM.zero).op=6
  ·have:=b2 zO
   have ha:=ih (T.code.getD k AM.zero).a.toNat zO zO
   have hb:=ih (T.code.getD k AM.zero).b.toNat zO zO
   have e:=EN.mono (XM h h' hk h6) hr
   refine Lo.div (g:=DD<|(Bi m A' T.code).getD (T.code.getD k AM.zero).b.toNat []) (Vp (h'.ser (T.code.getD k AM.zero).b.toNat zO).1 (h'.rz hk h6)) ?_
   refine Lo.of (g:=fun t=>D6 (Bi m A T.code) (Bi m A' T.code) (T.code.getD k AM.zero).a.toNat t-cv (DD<|(Bi m A T.code).getD k []) (D6 (Bi m A T.code) (Bi m A' T.code) (T.code.getD k AM.zero).b.toNat) t) ?_<|ha.sub<|hb.cvr _
   refine EN.trans (EN.eq fun t _=>?_)<|EN.sub e.symm<|EN.rfl' _
   rw[Uj (DD ((Bi m A' T.code).getD (T.code.getD k AM.zero).b.toNat [])) (DD ((Bi m A T.code).getD (T.code.getD k AM.zero).b.toNat [])),Ld,DI _ (DD ((Bi m A T.code).getD (T.code.getD k AM.zero).b.toNat []))]
   show _+cv _ (D6 _ _ _) t=_
   omega
  have h7:(T.code.getD k AM.zero).op=7:=by unfold Fi at hf;omega
  have:=b7 h7
  exact Lo.of (EN.mono (XK h h' hk h7) hr) (ih _ zO zO).neg
theorem VW (h:DL m A T)(h':DL m A' T)(hr:r≤m)(hz:∀j,j<A.length→Lo r (D6 A A' j))(hN:N≤m)(h2:N≤r+r):aL N T.code (Bi m A T.code) (D6 A A') (D6 (Bi m A T.code) (Bi m A' T.code)):=by
 have lo:=fun k (hk:k<T.code.length)=>Ul h h' hr hz (k+1) k (Nat.lt_succ_self k) hk
 refine⟨fun k hk h1=>by rw[XG h h' hk h1];exact EN.rfl' _,fun k hk h1=>XH h h' hk h1,fun k hk h1=>EN.mono (XI h h' hk h1) hN,fun k hk h1=>EN.mono (XJ h h' hk h1) hN,fun k hk h1=>?_,fun k hk h1=>?_,fun k hk h1=>EN.mono (XK h h' hk h1) hN⟩
 ·have:=(h.form k hk).i2 zO
  refine (EN.mono (XL h h' hk h1) hN).trans ?_
  refine (EN.add (EN.rfl' _)<|Lo.mono (Lo.cv2 (lo _ zO)<|lo _ zO) h2).trans (EN.eq fun t _=>?_)
  exact Int.add_zero _
 ·have:=(h.form k hk).i2 zO
  refine (EN.sub (EN.mono (XM h h' hk h1) hN) (EN.rfl' _) |>.trans ?_).symm
  refine (EN.sub (EN.add (EN.rfl' _)<|Lo.mono (Lo.cv2 (lo k hk)<|lo _ zO) h2)<|EN.rfl' _).trans (EN.eq fun t _=>?_)
  show _+_+(0:Int)-_=_
  omega
end
end
section
section
variable {m n r N k:Nat}
theorem Zj {u:Nat→Nat→Int}{row:List Sr}(h:∀j,j<n→Lo k (u j)):md (H6 n u row k)=md (sm n fun j=>DD (row.getD j []) 0*u j k):=by
 unfold H6
 refine N9 fun j hj=>?_
 cases k with
 |zero=>rfl
 |succ k =>
  show md (DD (row.getD j []) 0*u j (k+1)+cv (fun i=>DD (row.getD j []) (i+1)) (u j) k)=_
  have:=Lo.cvr (fun i=>DD (row.getD j []) (i+1)) (h j hj) k (Nat.lt_succ_self k)
  rw[← Gh,this]
  show md (_+md 0)=_
  rw[Gh,Int.add_zero]
variable {a:List Int} {J0:List (List Int)} {G:List Sr→List Sr} {J:List Sr→List (List Sr)} {y y' yS g:List Sr}
theorem f0 (hy:C4 m y)(hy':C4 m y')(hm:1≤m)(h:Eg y=Eg y'){j:Nat}(hj:j<y.length):Lo 1 (D6 y y' j):=fun k hk=>by
 have e:k=0:=by omega
 subst e
 have hl:y'.length=y.length:=by rw[← Dg (A:=y'),← h,Dg]
 have h1:(Eg y).getD j 0=(Eg y').getD j 0:=by rw[h]
 unfold Eg at h1
 rw[BT (d:=[]) hj,BT (d:=[]) (by omega)]at h1
 show md ((y'.getD j []).getD 0 0-(y.getD j []).getD 0 0)=_
 rw[h1,Int.sub_self];rfl
end
end
section
structure HH (m m':Nat)(B B':List Sr):Prop where
 s:C4 m B
 s':C4 m' B'
 l:B.length=B'.length
 h:∀k,(B.getD k []).getD 0 0=(B'.getD k []).getD 0 0
section
variable {m m' ni k i:Nat} {B B' R R':List Sr} {s s':Sr} {cs:List AM} {r:Int} {os ws:List Int}
theorem Rk (l:List Sr)(i:Nat)(x:Sr)(j:Nat):(l.set i x).getD j []=if j=i∧i<l.length then x else l.getD j []:=by
 by_cases h:i<l.length
 ·rw[DQ _ _ _ _ _ h]
  by_cases e:j=i
  ·rw[if_pos e,if_pos ⟨e,h⟩]
  ·rw[if_neg e,if_neg fun h=>e h.1]
 ·rw[List.set_eq_of_length_le zO,if_neg fun h9=>h h9.2]
theorem HH.set (h:HH m m' B B')(hs:Cu m s)(hs':Cu m' s')(e:s.getD 0 0=s'.getD 0 0):HH m m' (B.set i s) (B'.set i s'):=by
 refine⟨h.s.set hs,h.s'.set hs',by rw[z6,z6,h.l],fun k=>?_⟩
 rw[Rk,Rk,h.l]
 split
 ·exact e
 ·exact h.h k
theorem HH.adP (hm:1≤m)(hm':1≤m')(h:HH m m' B B')(hr:r.toNat<B.length)(e:s.getD 0 0=s'.getD 0 0):HH m m' (FC B r s) (Go.Proofs.YtbajepcpgncekaaGreat.FC B' r s'):=by
 have h1:=h.s r.toNat hr
 have h2:=h.s' r.toNat (by rw[← h.l];exact hr)
 refine h.set (GS h1) (GS h2) ?_
 rw[Rf h1 zO,Rf h2 zO,h.h,e]
theorem HH.adI (hm:1≤m)(hm':1≤m')(h:HH m m' B B')(hR:HH m m' R R')(hk:k<B.length)(hf:Fi ni k (cs.getD k AM.zero)):HH m m' (Nm cs R k B) (Go.Proofs.YtbajepcpgncekaaGreat.Nm cs R' k B'):=by
 have b2:=fun h=>hf.i2 h
 have b7:=fun h=>hf.i7 h
 have h1:=h.s k hk
 have h2:=h.s' k (by rw[← h.l];exact hk)
 have hp:∀q,(Ct (B.getD k []) (R.getD q [])).getD 0 0=(Ct (B'.getD k []) (R'.getD q [])).getD 0 0:=fun q=>by
  rw[LR (by rw[h1.1];omega),LR (by rw[h2.1];omega),h.h,hR.h]
 have hq:∀q,(C3 (B.getD k []) (R.getD q [])).getD 0 0=(C3 (B'.getD k []) (R'.getD q [])).getD 0 0:=fun q=>by
  rw[P3 (by rw[h1.1];omega),P3 (by rw[h2.1];omega),h.h,hR.h]
 have hn:∀ {s s':Sr},Cu m s→Cu m' s'→s.getD 0 0=s'.getD 0 0→(CH s 1000002).getD 0 0=(CH s' 1000002).getD 0 0:=fun hs hs' e=>by
  rw[Rg hs zO,Rg hs' zO,e]
 by_cases h3:(cs.getD k AM.zero).op=3
 ·rw[P8 h3,P8 h3]
  have:=b2 zO
  exact (h.adP hm hm' zO<|h.h k).adP hm hm' (by rw[C2];omega)<|h.h k
 by_cases h4:(cs.getD k AM.zero).op=4
 ·rw[P9 h4,P9 h4]
  have:=b2 zO
  exact (h.adP hm hm' zO<|h.h k).adP hm hm' (by rw[C2];omega)<|hn h1 h2<|h.h k
 by_cases h5:(cs.getD k AM.zero).op=5
 ·rw[Pa h5,Pa h5]
  have:=b2 zO
  exact (h.adP hm hm' zO<|hp _).adP hm hm' (by rw[C2];omega)<|hp _
 by_cases h6:(cs.getD k AM.zero).op=6
 ·rw[Pb h6,Pb h6]
  have:=b2 zO
  refine (h.adP hm hm' zO<|hq _).adP hm hm' (by rw[C2];omega)<|hn (GT<|FO h1) (GT<|FO h2) ?_
  rw[LR (by rw[El,h1.1];omega),LR (by rw[El,h2.1];omega),hq,hR.h]
 by_cases h7:(cs.getD k AM.zero).op=7
 ·rw[Pc h7,Pc h7]
  have:=b7 h7
  exact h.adP hm hm' zO<|hn h1 h2<|h.h k
 have:(cs.getD k AM.zero).op<3∨7<(cs.getD k AM.zero).op:=by omega
 rw[Pd this,Pd this];exact h
theorem HH.adA (hm:1≤m)(hm':1≤m')(hR:HH m m' R R')(hf:∀k,k<cs.length→Fi ni k (cs.getD k AM.zero)):∀(n:Nat)(B B':List Sr),n≤cs.length→n≤B.length→HH m m' B B'→HH m m' (Sj cs R n B) (Go.Proofs.YtbajepcpgncekaaGreat.Sj cs R' n B')
 |0,_,_,_,_,h=>h
 |n+1,B,B',hn,hb,h=>HH.adA hm hm' hR hf n _ _ zO (by rw[Lp];omega) (h.adI hm hm' hR zO (hf n zO))
theorem HH.wgt (hm:1≤m)(hm':1≤m')(h:HH m m' B B')(ho:∀k,k<os.length→(os.getD k 0).toNat<B.length):∀k,k≤os.length→HH m m' (MC os ws k B) (Go.Proofs.YtbajepcpgncekaaGreat.MC os ws k B')
 |0,_=>h
 |k+1,hk=>by
  have ih:=HH.wgt hm hm' h ho k zO
  have h1:=ih.s (os.getD k 0).toNat (by rw[Er];exact ho k zO)
  have h2:=ih.s' (os.getD k 0).toNat (by rw[Er,← h.l];exact ho k zO)
  refine ih.set ⟨by rw[z6];exact h1.1,Ks h1.2<|Ci _⟩ ⟨by rw[z6];exact h2.1,Ks h2.2<|Ci _⟩ ?_
  rw[DQ _ _ _ _ _ (by rw[h1.1];omega),DQ _ _ _ _ _ (by rw[h2.1];omega),if_pos rfl,if_pos rfl,ih.h]
theorem XN (k:Nat):((JV R).getD k []).getD 0 0=0:=by
 by_cases h:k<R.length
 ·rw[show(JV R).getD k []=List.replicate (R.getD k []).length 0 from by unfold JV;rw[BT (d:=[]) h]];exact KP _ 0
 ·rw[show(JV R).getD k []=[]from by rw[List.getD_eq_getElem?_getD,List.getElem?_eq_none (by rw[Da];omega)];rfl];rfl
theorem HH.zrs (h:HH m m' R R'):HH m m' (JV R) (Go.Proofs.YtbajepcpgncekaaGreat.JV R'):=⟨Hk h.s,Hk h.s',by rw[Da,Da,h.l],fun k=>by rw[XN,XN]⟩
theorem HH.byN {L L':List Sr}(hm:1≤m)(hm':1≤m')(hL:HH m m' L L')(h:HH m m' B B')(hf:∀k,k<cs.length→Fi B.length k (cs.getD k AM.zero)):∀k,k≤cs.length→HH m m' (Sb cs L k B) (Go.Proofs.YtbajepcpgncekaaGreat.Sb cs L' k B')
 |0,_=>h
 |k+1,hk=>by
  have ih:=HH.byN hm hm' hL h hf k zO
  by_cases h1:(cs.getD k AM.zero).op=1
  ·rw[M2 h1,M2 h1]
   have:=(hf k zO).i1 h1
   exact ih.adP hm hm' (by rw[IB];omega)<|hL.h k
  ·rw[M3 h1,M3 h1];exact ih
theorem HH.rep (m m' ni:Nat):HH m m' (List.replicate ni (List.replicate m 0)) (List.replicate ni (List.replicate m' 0)):=by
 refine⟨JX _ _,JX _ _,by simp,fun k=>?_⟩
 by_cases h:k<ni
 ·rw[show(List.replicate ni (List.replicate m (0:Int))).getD k []=List.replicate m 0 from by simp[List.getD_eq_getElem?_getD,h],show(List.replicate ni (List.replicate m' (0:Int))).getD k []=List.replicate m' 0 from by simp[List.getD_eq_getElem?_getD,h],KP,KP]
 ·rw[show(List.replicate ni (List.replicate m (0:Int))).getD k []=[]from by simp[List.getD_eq_getElem?_getD,h],show(List.replicate ni (List.replicate m' (0:Int))).getD k []=[]from by simp[List.getD_eq_getElem?_getD,h]]
end
section
variable {p:List Fn} {f m r N i j s:Nat} {a:List Int} {A A':List Sr} {xs:List Int} {T:Tp}
structure Jg (p:List Fn)(f:Nat)(a:List Int)(xs:List Int)(T:Tp):Prop where
 v:Hz p
 lt:f<p.length
 l:((a.length:Nat):Int)=(p.getD f Fn.zero).params
 n:Bb a=true
 r:∃s,AN (NP p f a) (xs,T) s 0
theorem IC (hA:C4 m A)(h:Eg A=a):PT m a A:=by rw[← h];exact Sc hA
theorem Jg.tp (h:Jg p f a xs T)(hm:1≤m)(hA:C4 m A)(hf:Eg A=a):DL m A T∧(KK p m f A=xs.map fun r=>(Bi m A T.code).getD r.toNat [])∧H7 p m f A=0:=by
 obtain⟨s,hs⟩:=h.r
 have h1:=Ua hm h.v h.lt h.n (IC hA hf) h.l hs rfl
 exact⟨h1.1,h1.2,LT hm h.v h.lt h.n (IC hA hf) h.l hs⟩
theorem Dh (a:List Int):Eg (BB a)=a:=by
 unfold Eg BB
 rw[List.map_map]
 exact List.map_id'' (fun _=>rfl) a
theorem Jg.en (h:Jg p f a xs T):xs.length=(p.getD f Fn.zero).outs.length∧Km T xs:=by
 obtain⟨s,hs⟩:=h.r
 have hT:=R9 (A7 1) h.v h.lt h.n (IC (C1 h.n)<|Dh a) h.l
 rw[hs.ok]at hT
 obtain⟨z,h1,h2,h3,h4⟩:=hT
 exact⟨h4.1,fun k hk=>(h4.2.2 k (by rw[h4.1]at hk;exact hk)).1⟩
theorem Jg.at (h:Jg p f a xs T):fR p f a:=⟨h.v,h.lt,h.l,h.n,(h.tp (A7 1) (C1 h.n) (Dh a)).2.2⟩
theorem Jg.vals (h:Jg p f a xs T)(hm:1≤m)(hA:C4 m A)(hf:Eg A=a)(hi:i<xs.length):(KK p m f A).getD i []=(Bi m A T.code).getD (xs.getD i 0).toNat []:=by
 rw[(h.tp hm hA hf).2.1,BT (d:=0) hi]
theorem Jg.ser (h:Jg p f a xs T)(hm:1≤m)(hA:C4 m A)(hf:Eg A=a):(KK p m f A).length=xs.length∧C4 m (KK p m f A):=by
 have hl:(KK p m f A).length=xs.length:=by rw[(h.tp hm hA hf).2.1,zg]
 refine⟨hl,fun k hk=>?_⟩
 rw[h.vals hm hA hf (by omega)]
 have:=(h.tp hm hA hf).1.outs h.en.2 k zO
 exact ((h.tp hm hA hf).1.ser _ zO).1
theorem DX (a d:List Int):Eg (Fe a d 2)=a:=by
 refine List.ext_getElem (by simp) fun k h1 h2=>?_
 rw[← FN (d:=(0:Int)) h1,← FN (d:=(0:Int)) h2]
 unfold Eg
 rw[BT (d:=[]) (by rw[C6];exact h2),U5 h2]
end
end
def VX (p:List Fn)(f:Nat)(a:List Int):RL:=match NP p f a with
 |.ok x _=>x
 |.err _=>([],⟨[],[],[]⟩)
theorem VY {p:List Fn}{f:Nat}{a:List Int}{x:RL}{s:Nat}(h:AN (NP p f a) x s 0):VX p f a=x:=by unfold VX;rw[h.ok]
section
section
variable {p:List Fn} {f k o i m q:Nat} {a d:List Int} {y Y:List Sr} {xs:List Int} {T:Tp} {nx:Nat→List Sr→List Int}
theorem Zk (hv:Hz p)(hf:f<p.length)(hl:((a.length:Nat):Int)=(p.getD f Fn.zero).params)(hn:Bb a=true)(h0:FS p f a=0):∃xs T,Jg p f a xs T:=by
 cases hr:NP p f a with
 |ok x s=>exact⟨x.1,x.2,hv,hf,hl,hn,s,by rw[hr];exact AN.mk_ok rfl⟩
 |err c =>
  have hT:=R9 (A7 1) hv hf hn (IC (C1 hn)<|Dh a) hl
  rw[hr]at hT
  have h9:ev p 1 f (BB a)=.err c:=hT
  have h8:FS p f a=c:=FP h9
  rcases JU hv hf (C1 hn) (by unfold BB;rw[zg];exact hl)with⟨z,t,h1,_⟩|h1|h1
  ·rw[h1]at h9;cases h9
  ·rw[h1]at h9;cases h9;omega
  ·rw[h1]at h9;cases h9;omega
end
end
section
def MI (m:Nat)(T:Tp)(xs ws:List Int)(A:List Sr):List Sr:=VU A.length m T.code (JW T.code (Bi m A T.code) xs ws)
section
variable {p:List Fn} {f m m' i:Nat} {a d:List Int} {A A':List Sr} {xs ws:List Int} {T:Tp}
@[simp] theorem FD:(MI m T xs ws A).length=A.length:=Re
theorem Pf (hm:1≤m)(hm':1≤m')(h:DL m A T)(h':DL m' A' T)(hl:A.length=A'.length)(hE:Km T xs)(ws:List Int):HH m m' (MI m T xs ws A) (MI m' T xs ws A'):=by
 have hR:HH m m' (Bi m A T.code) (Bi m' A' T.code):=⟨h.regs,h'.regs,by rw[C7,C7],fun k=>by
  by_cases hk:k<T.code.length
  ·rw[(h.ser k hk).2,(h'.ser k hk).2]
  ·rw[show(Bi m A T.code).getD k []=[]from by rw[List.getD_eq_getElem?_getD,List.getElem?_eq_none (by rw[C7];omega)];rfl,show(Bi m' A' T.code).getD k []=[]from by rw[List.getD_eq_getElem?_getD,List.getElem?_eq_none (by rw[C7];omega)];rfl]⟩
 have hx:=h.outs hE
 unfold MI VU
 rw[← hl]
 refine HH.byN hm hm' ?_ (HH.rep m m' _) (fun k hk=>by rw[z5];exact h.form k hk) _<|A7 _
 unfold JW
 refine HH.adA hm hm' hR h.form _ _ _ (A7 _) (by rw[Er,Da,C7];exact A7 _)<|hR.zrs.wgt hm hm' (fun q hq=>?_) _<|A7 _
 rw[Da,C7]
 have:=hx q hq
 omega
theorem Jg.bk_ser (h:Jg p f a xs T)(hm:1≤m)(hA:C4 m A)(hf:Eg A=a)(ws:List Int):C4 m (MI m T xs ws A):=by
 unfold MI
 exact Rc (h.tp hm hA hf).1.form
theorem Jg.rev (h:Jg p f a xs T)(hm:1≤m)(hA:C4 m A)(hf:Eg A=a)(hnd:Bb d=true) :
  md (sm a.length fun k=>((MI m T xs ws A).getD k []).getD 0 0*d.getD k 0)=md (sm xs.length fun i=>ws.getD i 0*((NS p f a d).getD i []).getD 1 0):=by
 have hn0:Bb (List.replicate a.length 0)=true:=I4 _
 have s0:C4 2 (Fe a (List.replicate a.length 0) 2):=DK h.n hn0
 have s1:C4 2 (Fe a d 2):=DK h.n hnd
 have hl:A.length=a.length:=by rw[← hf,Dg]
 have t0:=h.tp (m:=2) (by decide) s0<|DX _ _
 have t1:=h.tp (m:=2) (by decide) s1<|DX _ _
 have hh:=Pf hm (by decide:1≤2) (h.tp hm hA hf).1 t0.1 (by rw[C6,hl]) h.en.2 ws
 have ho:∀q,q<a.length→Lo 1 (D6 (Fe a (List.replicate a.length 0) 2) (Fe a d 2) q):=fun q hq=>f0 s0 s1 (by decide) (by rw[DX,DX]) (by rw[C6];exact hq)
 have hx:=t0.1.outs h.en.2
 have ht:=VV (m:=2) (ni:=a.length) (os:=xs) (ws:=ws) (VW (r:=1) (N:=2) t0.1 t1.1 (by decide) (fun q hq=>ho q (by rw[C6]at hq;exact hq)) (by decide) (by decide)) (by decide) (by decide) t0.1.regs (C7 _) (fun k hk=>by have:=t0.1.form k hk;rw[C6]at this;exact this) (fun k hk h6=>t0.1.rz hk h6) (fun q hq=>by have:=hx q hq;omega) 1 (by decide)
 rw[Zj (k:=1) ho]at ht
 have e0:(MI 2 T xs ws (Fe a (List.replicate a.length 0) 2))=VU a.length 2 T.code (JW T.code (Bi 2 (Fe a (List.replicate a.length 0) 2) T.code) xs ws):=by unfold MI;rw[C6]
 rw[← e0]at ht
 have e1:(sm a.length fun q=>DD ((MI 2 T xs ws (Fe a (List.replicate a.length 0) 2)).getD q []) 0*D6 (Fe a (List.replicate a.length 0) 2) (Fe a d 2) q 1)=sm a.length fun k=>((MI m T xs ws A).getD k []).getD 0 0*d.getD k 0:=DC fun q hq=>by
  unfold D6
  rw[show DD ((Fe a d 2).getD q []) 1=_ from R8 hq,show DD ((Fe a (List.replicate a.length 0) 2).getD q []) 1=_ from R8 hq,KP,Int.sub_zero,hh.h q];rfl
 rw[e1]at ht
 rw[ht]
 have hat:=h.at
 refine N9 fun i hi=>?_
 have hz:=U6 (K:=0) (d:=List.replicate a.length 0) (D:=fun _=>[]) (c:=fun _=>0) h.v h.lt h.l h.n hn0 (fun k hk=>absurd hk<|Nat.not_lt_zero k) (fun i hi=>by rw[KP];rfl) hat.z (r:=i) (by rw[← h.en.1];exact hi)
 have hz':((KK p 2 f (Fe a (List.replicate a.length 0) 2)).getD i []).getD 1 0=0:=hz
 unfold D6
 rw[← h.vals (by decide) s0 (DX _ _) hi,← h.vals (by decide) s1 (DX _ _) hi]
 rw[show DD ((KK p 2 f (Fe a (List.replicate a.length 0) 2)).getD i []) 1=0 from hz',Int.sub_zero];rfl
theorem Jg.rev_col (h:Jg p f a xs T)(hm:1≤m)(hA:C4 m A)(hf:Eg A=a){k:Nat}(hk:k<a.length) :
  ((MI m T xs ws A).getD k []).getD 0 0=md (sm xs.length fun i=>ws.getD i 0*((NS p f a (eV a.length k)).getD i []).getD 1 0):=by
 have hl:A.length=a.length:=by rw[← hf,Dg]
 rw[← h.rev hm hA hf (U4 a.length k)]
 have e:(sm a.length fun q=>((MI m T xs ws A).getD q []).getD 0 0*(eV a.length k).getD q 0)=sm a.length fun q=>if k=q then((MI m T xs ws A).getD q []).getD 0 0 else 0:=DC fun q _=>by
  rw[U3 hk]
  split
  ·rw[Int.mul_one]
  ·rw[Int.mul_zero]
 rw[e,LA k (fun q=>((MI m T xs ws A).getD q []).getD 0 0),if_pos hk]
 have:=Cf ((h.bk_ser hm hA hf ws) k (by rw[FD,hl];exact hk)).2 0
 exact (OA this.1 this.2).symm
end
end
section
def Sd:List ByteArray:=[⟨#[114]⟩,⟨#[108,111,111,112]⟩]
theorem Zl:∀t∈Sd,Le t=true:=by decide +kernel
theorem Zm:∀s∈MH,∀t∈Sd,∀i:Fin 10,DA (s++JC i.val) t=false:=by decide +kernel
theorem Pu.rnd {p:List Fn}{pl:Bool}{f:Fn}{i:Nat}(h:LG p pl)(hd:Dn p)(hl:p.length≤9)(hp:1≤f.params∧f.params≤3)(hi:1≤i∧i≤3)(ho:Pu p f.params pl f.outs i)
  (hf:f.name∈Sd):LG (p++[f]) pl :=
 h.snoc zO hp (by rw[ho.len];exact hi) (fun j hj=>ho.wf j (by rw[← ho.len];exact hj)) ho.dp (by have:=ho.sz;omega) ho.pl (Zl _ hf) (fun k hk=>by
  obtain⟨t,ht,e⟩:=hd k hk
  rw[e]
  exact Zm t ht _ hf ⟨k,zO⟩)
theorem VZ {x:ByteArray}(h:Value.string x∈[Value.string ⟨#[114]⟩,.string ⟨#[114]⟩,.string ⟨#[114]⟩,.string ⟨#[108,111,111,112]⟩]):x∈Sd:=by
 simp only[ze,z2,or_false,Value.string.injEq]at h
 unfold Sd
 rcases h with rfl|rfl|rfl|rfl <;> simp
structure X0 (p:List Fn)(f:Int)(a b:List Int):Prop where
 dr:LG p false
 len:1≤p.length∧p.length≤12
 fe:f=((p.length:Nat):Int)-1
 sq:(((p.getD f.toNat Fn.zero).outs.length:Nat):Int)=(p.getD f.toNat Fn.zero).params
 par:1≤(p.getD f.toNat Fn.zero).params∧(p.getD f.toNat Fn.zero).params≤3
 la:((a.length:Nat):Int)=(p.getD f.toNat Fn.zero).params∧Bb a=true
 lb:((b.length:Nat):Int)=(p.getD f.toNat Fn.zero).params∧Bb b=true
theorem X0.mk' {p:List Fn}{g:Fn}{f:Int}{i:Nat}{a b:List Int}(h:LG p false)(hd:Dn p)(hl:p.length≤9)(hp:1≤g.params∧g.params≤3)(ho:Pu p g.params false g.outs i)(hi:((i:Nat):Int)=g.params)(hn:g.name∈Sd)
  (hf:f=((p.length:Nat):Int)) (hla:((a.length:Nat):Int)=g.params∧Bb a=true) (hlb:((b.length:Nat):Int)=g.params∧Bb b=true):X0 (p++[g]) f a b:=by
 have h1:=ho.rnd h hd hl hp zO hn
 have e:(p++[g]).getD f.toNat Fn.zero=g:=Gp zO
 refine⟨h1,by rw[z4,zd];omega,by rw[z4,zd];omega,?_,?_,?_,?_⟩
 ·rw[e,ho.len];exact hi
 ·rw[e];exact hp
 ·rw[e];exact hla
 ·rw[e];exact hlb
def Vb (p:List Fn)(f:Nat)(s ws:List Int):List Int:=Eg (MI 1 (VX p f s).2 (VX p f s).1 ws (BB s))
def Oq (p:List Fn)(f:Nat)(a:List Int):Nat→List Int→List Int
 |0,ws=>ws
 |n+1,ws=>Oq p f a n (Vb p f (DJ p f a n) ws)
def Pg (p:List Fn)(f:Nat)(a d:List Int):Nat→List Int
 |0=>d
 |n+1=>(NS p f (DJ p f a n) (Pg p f a d n)).map fun s=>s.getD 1 0
structure NX (p:List Fn)(f:Nat)(a:List Int)(n:Nat):Prop where
 v:Hz p
 lt:f<p.length
 sq:(((p.getD f Fn.zero).outs.length:Nat):Int)=(p.getD f Fn.zero).params
 l:((a.length:Nat):Int)=(p.getD f Fn.zero).params
 na:Bb a=true
 k:G8 p f a n=0
section
variable {p:List Fn} {f n k m:Nat} {a s ws us d xs:List Int} {T:Tp} {A:List Sr}
theorem NY (h:G8 p f a n=0)(hk:k≤n):G8 p f a k=0:=by
 by_cases h0:G8 p f a k=0
 ·exact h0
 ·rw[LP h0 hk]at h;exact h
theorem NX.low (h:NX p f a n)(hk:k≤n):NX p f a k:=⟨h.v,h.lt,h.sq,h.l,h.na,NY h.k hk⟩
theorem aN (hv:Hz p)(hf:f<p.length)(hl:((s.length:Nat):Int)=(p.getD f Fn.zero).params)(hn:Bb s=true):TA p f s:=TA.mk' (ZZ hv hf (C1 hn) (by unfold BB;rw[zg];exact hl))
theorem NX.st:∀ {n:Nat},NX p f a n→(DJ p f a n).length=a.length∧Bb (DJ p f a n)=true
 |0,h=>⟨rfl,h.na⟩
 |n+1,h=>by
  have h0:=h.low<|Nat.le_succ n
  have ih:=h0.st
  have hN:=aN h.v h.lt (s:=DJ p f a n) (by rw[ih.1];exact h.l) ih.2
  have hz:FS p f (DJ p f a n)=0:=by rw[← GW h0.k];exact h.k
  have:=hN.len hz
  have:=h.sq;have:=h.l
  exact⟨by show(Lh p f (DJ p f a n)).length=_;omega,hN.num⟩
theorem NX.nx (h:NX p f a n)(hk:k<n):FS p f (DJ p f a k)=0:=by rw[← GW (NY h.k (Nat.le_of_lt hk))];exact NY h.k hk
theorem NX.rc (h:NX p f a n)(hk:k<n):∃xs T,Jg p f (DJ p f a k) xs T:=by
 have h1:=(h.low<|Nat.le_of_lt hk).st
 exact Zk h.v h.lt (by rw[h1.1];exact h.l) h1.2<|h.nx hk
theorem Jg.bkR (h:Jg p f s xs T)(hm:1≤m)(hA:C4 m A)(hf:Eg A=s):Eg (MI m T xs ws A)=Go.Proofs.YtbajepcpgncekaaGreat.Vb p f s ws:=by
 obtain⟨q,hq⟩:=h.r
 have hl:A.length=s.length:=by rw[← hf,Dg]
 have hh:=Pf hm (A7 1) (h.tp hm hA hf).1 (h.tp (A7 1) (C1 h.n)<|Dh s).1 (by rw[Em,hl]) h.en.2 ws
 unfold Go.Proofs.YtbajepcpgncekaaGreat.Vb
 rw[VY hq]
 refine Za (by rw[Dg,Dg,FD,FD,Em,hl]) fun j hj=>?_
 rw[Dg,FD]at hj
 unfold Eg
 rw[BT (d:=[]) (by rw[FD];exact hj),BT (d:=[]) (by rw[FD,Em];omega)]
 exact hh.h j
theorem ID:(Vb p f s ws).length=s.length:=by unfold Vb;rw[Dg,FD,Em]
theorem Jg.bkR_num (h:Jg p f s xs T):Bb (Go.Proofs.YtbajepcpgncekaaGreat.Vb p f s ws)=true:=by
 rw[← h.bkR (A7 1) (C1 h.n) (Dh s)]
 exact LO (n:=0)<|h.bk_ser (A7 1) (C1 h.n) (Dh s) ws
theorem Jg.bkR_dot (h:Jg p f s xs T)(hd:Bb d=true) :
  md (sm s.length fun k=>(Go.Proofs.YtbajepcpgncekaaGreat.Vb p f s ws).getD k 0*d.getD k 0)=md (sm xs.length fun i=>ws.getD i 0*((NS p f s d).getD i []).getD 1 0):=by
 rw[← h.rev (ws:=ws) (A7 1) (C1 h.n) (Dh s) hd]
 refine congrArg md (DC fun k hk=>?_)
 rw[← h.bkR (A7 1) (C1 h.n) (Dh s)]
 unfold Eg
 rw[BT (d:=[]) (by rw[FD,Em];exact hk)]
theorem Jg.bkR_at (h:Jg p f s xs T)(hk:k<s.length) :
  (Go.Proofs.YtbajepcpgncekaaGreat.Vb p f s ws).getD k 0=md (sm xs.length fun i=>ws.getD i 0*((NS p f s (eV s.length k)).getD i []).getD 1 0):=by
 rw[← h.rev_col (ws:=ws) (A7 1) (C1 h.n) (Dh s) hk,← h.bkR (A7 1) (C1 h.n) (Dh s)]
 unfold Eg
 rw[BT (d:=[]) (by rw[FD,Em];exact hk)]
theorem Rm:∀ {n:Nat}{ws:List Int},NX p f a n→ws.length=a.length→(Oq p f a n ws).length=a.length
 |0,_,_,h=>h
 |n+1,ws,hc,h=>Rm (n:=n) (ws:=Vb p f (DJ p f a n) ws) (hc.low (Nat.le_succ n)) (by rw[ID];exact(hc.low (Nat.le_succ n)).st.1)
theorem Rn:∀ {n:Nat}{ws:List Int},NX p f a n→Bb ws=true→Bb (Oq p f a n ws)=true
 |0,_,_,h=>h
 |n+1,ws,hc,h=>by
  obtain⟨xs,T,hr⟩:=hc.rc (Nat.lt_succ_self n)
  exact Rn (n:=n) (ws:=Vb p f (DJ p f a n) ws) (hc.low<|Nat.le_succ n) hr.bkR_num
theorem NX.nwd:∀ {n:Nat},NX p f a n→d.length=a.length→Bb d=true→(Pg p f a d n).length=a.length∧Bb (Pg p f a d n)=true
 |0,_,h1,h2=>⟨h1,h2⟩
 |n+1,hc,h1,h2=>by
  have h0:=hc.low<|Nat.le_succ n
  have hs:=h0.st
  have ih:=h0.nwd h1 h2
  obtain⟨xs,T,hr⟩:=hc.rc (Nat.lt_succ_self n)
  have hse:=hr.ser (m:=2) (by decide) (DK hr.n ih.2)<|DX _ _
  have hx:xs.length=(p.getD f Fn.zero).outs.length:=hr.en.1
  refine⟨?_,?_⟩
  ·show((NS p f (DJ p f a n) (Pg p f a d n)).map _).length=_
   rw[zg]
   have:=hse.1;have:=hc.sq;have:=hc.l
   show(KK p 2 f (Fe (DJ p f a n) (Pg p f a d n) 2)).length=_
   omega
  ·show Bb ((NS p f (DJ p f a n) (Pg p f a d n)).map _)=true
   unfold Bb
   rw[zm]
   intro y hy
   obtain⟨z,hz,rfl⟩:=List.mem_map.1 hy
   obtain⟨i,hi,rfl⟩:=List.mem_iff_getElem.1 hz
   have h9:Cu 2 ((NS p f (DJ p f a n) (Pg p f a d n)).getD i []):=hse.2 i hi
   rw[FN hi]at h9
   exact Ts h9 zO
theorem Ph:∀ {n:Nat}{ws:List Int},NX p f a n→ws.length=a.length→d.length=a.length→Bb d=true→PS ws (Pg p f a d n) a.length=PS (Oq p f a n ws) d a.length
 |0,_,_,_,_,_=>rfl
 |n+1,ws,hc,hw,h1,h2=>by
  have h0:=hc.low<|Nat.le_succ n
  have hs:=h0.st
  obtain⟨xs,T,hr⟩:=hc.rc (Nat.lt_succ_self n)
  have hx:xs.length=(p.getD f Fn.zero).outs.length:=hr.en.1
  have hxa:xs.length=a.length:=by have:=hc.sq;have:=hc.l;omega
  have hnd:=h0.nwd h1 h2
  show _=PS (Oq p f a n (Vb p f (DJ p f a n) ws)) d a.length
  rw[← Ph (n:=n) h0 (by rw[ID];exact hs.1) h1 h2]
  unfold PS
  have h9:=hr.bkR_dot (ws:=ws) hnd.2
  rw[hs.1]at h9
  rw[h9,hxa]
  refine congrArg md (DC fun i hi=>?_)
  have hl:(NS p f (DJ p f a n) (Pg p f a d n)).length=a.length:=by
   have:=(hr.ser (m:=2) (by decide) (DK hr.n hnd.2) (DX (DJ p f a n) (Pg p f a d n))).1
   show(KK p 2 f (Fe (DJ p f a n) (Pg p f a d n) 2)).length=_
   omega
  show ws.getD i 0*((NS p f (DJ p f a n) (Pg p f a d n)).map fun s=>s.getD 1 0).getD i 0=_
  rw[BT (d:=[]) (by omega)]
end
end
section
structure aO (ni:Nat)(T:Tp)(o:List Int):Prop where
 nb:ni≤12
 cl:T.code.length≤3200
 gl:T.grd.length≤3200
 form:∀k,k<T.code.length→Fi ni k (T.code.getD k AM.zero)
 gd:∀k,k<T.grd.length→0≤(T.grd.getD k Jb.zero).reg∧(T.grd.getD k Jb.zero).reg<((T.code.length:Nat):Int)
 ol:1≤o.length∧o.length≤12
 out:∀k,k<o.length→0≤o.getD k 0∧o.getD k 0<((T.code.length:Nat):Int)
theorem aO.pos {ni:Nat}{T:Tp}{o:List Int}(h:aO ni T o):0<T.code.length:=by
 have:=h.out 0 (by have:=h.ol;omega)
 omega
theorem aO.any {ni:Nat}{T:Tp}{o:List Int}(h:aO ni T o):(o.any fun x=>!(decide (0≤x) && decide (x≤((T.code.length:Nat):Int)-1)))=false:=by
 rw[List.any_eq_false]
 intro x hx
 obtain⟨j,hj,rfl⟩:=List.mem_iff_getElem.1 hx
 have h9:=h.out j hj
 rw[List.getD_eq_getElem?_getD,List.getElem?_eq_getElem hj,Option.getD_some]at h9
 rw[A5 h9.1,A5 (show o[j]≤((T.code.length:Nat):Int)-1 by omega)]
 decide
structure Sk (a:List Int)(T:Tp)(o:List Int):Prop where
 k:aO a.length T o
 n:Bb a=true
 e:Km T o
 i:∀d,Bb d=true→DL 2 (Fe a d 2) T
section
variable {p:List Fn} {f:Nat} {a d xs ws:List Int} {T:Tp} {s:Nat}
theorem Jg.tpr (h:Jg p f a xs T)(hB:Kl T s)(hs:s≤3000):Sk a T xs:=by
 have hi:∀d,Bb d=true→DL 2 (Fe a d 2) T:=fun d hd=>(h.tp (m:=2) (by decide) (DK h.n hd) (DX _ _)).1
 have h0:=hi _<|I4 a.length
 obtain⟨b1,b2,b3,b4⟩:=hB
 have hp:=h.v.par f h.lt
 have ho:=h.v.outs f h.lt
 have hl:=h.l
 have he:=h.en
 refine⟨⟨zO,zO,zO,fun k hk=>?_,fun k hk=>?_,by rw[he.1];exact ho,h0.outs he.2⟩,h.n,he.2,hi⟩
 ·have:=h0.form k hk
  rwa [C6]at this
 ·have:=(h0.gd k hk).1
  omega
theorem X1 {k:Nat}(hk:k<a.length):(Fe a d 2).getD k []=[a.getD k 0,d.getD k 0]:=by rw[Je hk];rfl
theorem Sk.reg (h:Sk a T xs)(hd:Bb d=true):C4 2 (Bi 2 (Fe a d 2) T.code):=(h.i d hd).regs
theorem Sk.adj (h:Sk a T xs)(hd:Bb d=true):C4 2 (JW T.code (Bi 2 (Fe a d 2) T.code) xs ws):=(h.i d hd).adj h.e
theorem Sk.nz (h:Sk a T xs)(hd:Bb d=true):LU 2 (Fe a d 2) T.code T.code.length:=(h.i d hd).nz
end
section ops
variable {P:Program} {ops:Array Oper} {w0:World} {Q:Act→World→Prop} {os:List Oper} {ks:List Nat} {N:Nat} {ρ:Nat→Value} {w:World}
 {d:Nat} {ty:TypeId} {pos:String} {aft:Array Edge} {g:Option (Nat×Bool)} {t e:TypeId} {z:Value} {b:Nat}
theorem Ro {y0 y1:Operand}{u0 u1:Value}{x0 x1:List Int}(ht:P.underlying t=some (.slice e))(hi:TI P e 1 z b)(hz:z.cells=#[z])
  (h0:Bw N ρ y0=u0) (h1:Bw N ρ y1=u1) (r0:RN [] (Bd rI) w.heap u0 x0) (r1:RN [] (Bd rI) w.heap u1 x1)
  (hu:Up ops N ρ ⟨some d,.buildSlice t 2 #[(0,y0),(1,y1)],ty,pos,aft,g⟩)
  (h:∀v w1,AD w w1→w1.heap.size=w.heap.size+1→RN [] (Bd (Bd rI)) w1.heap v [x0,x1]→Cs v→LW P ops w0 Q os ks (mk N (CP ρ d v)) w1) :
  LW P ops w0 Q (⟨some d,.buildSlice t 2 #[(0,y0),(1,y1)],ty,pos,aft,g⟩::os) (3::ks) (mk N ρ) w:=by
 have c0:=r0.one1 g1
 have c1:=r1.one1 g1
 refine XA (ys:=[u0,u1]) BK ht hi hz h0 h1 rfl (Lx fun u hu=>?_) hu fun v w1 hE hs hF=>?_
 ·simp only[ze,z2,or_false]at hu
  rcases hu with rfl|rfl
  ·exact c0
  ·exact c1
 ·have hcap:=hF.cap
  obtain⟨F,f1,f2,f3⟩:=hF
  have hB:HY e [] w.heap.size w1.heap v [x0,x1] [u0,u1] F:=by
   refine⟨f1,f2,fun b hb=>(f3 b hb).1,rfl,fun k hk=>?_⟩
   have key:∀ {v0:Value} {x:List Int},RN [] (Bd rI) w.heap v0 x→RN ([]++F) (Bd rI) w1.heap v0 x:=by
    rintro v0 x ⟨K,k1,k2⟩
    have hlt:=g1.lt k1
    exact⟨K,g1.stable k1 fun c hc=>hE.heap (hlt c hc),fun c hc hm=>by have:=hlt c hc;have:=f3 c (by simpa using hm);omega⟩
   match k with
   |0=>exact key r0
   |1=>exact key r1
   |k+2=>simp at hk;omega
  exact h v w1 hE hs (hB.done fun b hb=>absurd hb z2) hcap
end ops
end
section
def IG (p:List Fn)(f:Int)(a ws:List Int)(n:Int):Int:=if DO p f [a,ws]=0 then(if Ey n 0 40=true then 0 else 2)else DO p f [a,ws]
def Jh (p:List Fn)(f:Int)(a ws:List Int)(n:Int):Int:=if IG p f a ws n=0 then G8 p f.toNat a n.toNat else IG p f a ws n
def Zn (p:List Fn)(f:Int)(a ws:List Int)(n:Int):List Int:=if Jh p f a ws n=0 then Oq p f.toNat a n.toNat ws else []
section
variable {p:List Fn} {f n:Int} {a ws:List Int}
theorem M4:0≤IG p f a ws n∧IG p f a ws n≤2:=by
 have:=Iu p f [a,ws]
 unfold IG;split <;> (try split) <;> omega
theorem Gz (h:DO p f [a,ws]≠0):IG p f a ws n=DO p f [a,ws]:=if_neg h
theorem GA (h:DO p f [a,ws]=0)(h2:Ey n 0 40=false):IG p f a ws n=2:=by unfold IG;rw[if_pos h,h2];rfl
theorem PW (h:DO p f [a,ws]=0)(h2:Ey n 0 40=true):IG p f a ws n=0:=by unfold IG;rw[if_pos h,h2];rfl
theorem GB (h:IG p f a ws n≠0):Jh p f a ws n=IG p f a ws n:=if_neg h
theorem I7 (h:IG p f a ws n=0):Jh p f a ws n=G8 p f.toNat a n.toNat:=if_pos h
theorem Hn (h:Jh p f a ws n≠0):Zn p f a ws n=[]:=if_neg h
theorem NZ (h:Jh p f a ws n=0):Zn p f a ws n=Oq p f.toNat a n.toNat ws:=if_pos h
theorem XO (h:DO p f [a,ws]=0):Ef p=true∧(0≤f∧f<((p.length:Nat):Int))∧(1≤(p.getD f.toNat Fn.zero).params∧(((p.getD f.toNat Fn.zero).outs.length:Nat):Int)=(p.getD f.toNat Fn.zero).params) ∧
  (((a.length:Nat):Int)=(p.getD f.toNat Fn.zero).params∧Bb a=true)∧(((ws.length:Nat):Int)=(p.getD f.toNat Fn.zero).params∧Bb ws=true):=by
 unfold DO at h
 split at h
 ·rename_i h3
  split at h
  ·rename_i h4
   split at h
   ·rename_i h5
    rw[Gk]at h4
    simp only[List.all_cons,List.all_nil,Bool.and_true,z7,decide_eq_true_eq]at h5
    exact⟨h3,⟨h4.1.1,zO⟩,⟨h4.2.1,h4.2.2⟩,⟨h5.1.1,h5.1.2⟩,⟨h5.2.1,h5.2.2⟩⟩
   ·omega
  ·omega
 ·omega
theorem aP (h1:Ef p=true)(h2:0≤f∧f<((p.length:Nat):Int))(h3:1≤(p.getD f.toNat Fn.zero).params∧(((p.getD f.toNat Fn.zero).outs.length:Nat):Int)=(p.getD f.toNat Fn.zero).params)
  (h4:((a.length:Nat):Int)=(p.getD f.toNat Fn.zero).params∧Bb a=true) (h5:((ws.length:Nat):Int)=(p.getD f.toNat Fn.zero).params∧Bb ws=true):DO p f [a,ws]=0∧DO p f [a]=0:=by
 have hr:Ng p f=true:=Gk.2 ⟨⟨h2.1,zO⟩,h3.1,h3.2⟩
 unfold DO
 rw[if_pos h1,if_pos h1,if_pos hr,if_pos hr]
 exact⟨if_pos (by rw[List.all_cons,List.all_cons,List.all_nil,A5 h4.1,A5 h5.1,h4.2,h5.2];rfl),if_pos (by rw[List.all_cons,List.all_nil,A5 h4.1,h4.2];rfl)⟩
theorem Um (h:IG p f a ws n=0):DO p f [a,ws]=0∧(0≤n∧n≤40):=by
 by_cases h1:DO p f [a,ws]=0
 ·cases h2:Ey n 0 40 with
  |true=>exact⟨h1,BH.1 h2⟩
  |false=>rw[GA h1 h2]at h;omega
 ·rw[Gz h1]at h;exact absurd h h1
theorem aQ (h1:DO p f [a]=0)(hn:0≤n∧n≤40):LN p f a n=0:=by unfold LN;rw[if_pos h1,BH.2 hn];rfl
end
end
section
def Cy (f m cnt:Nat)(i:Nat):Nat→List Ex
 |0=>[]
 |r+1=>.mk 11 ((f:Nat):Int) ((i:Nat):Int) ((cnt:Nat):Int) (E7 0 m)::Cy f m cnt (i+1) r
theorem Dl (f m cnt:Nat):∀(r i:Nat),(Cy f m cnt i r).length=r
 |0,_=>rfl
 |r+1,i=>by show(Cy f m cnt (i+1) r).length+1=_;rw[Dl f m cnt r]
theorem Ho (f m cnt:Nat):∀(r i:Nat),Cy f m cnt i (r+1)=Cy f m cnt i r++[.mk 11 ((f:Nat):Int) ((i+r:Nat):Int) ((cnt:Nat):Int) (E7 0 m)]
 |0,i=>rfl
 |r+1,i=>by
  show _::Cy f m cnt (i+1) (r+1)=_::Cy f m cnt (i+1) r++_
  rw[Ho f m cnt r (i+1),show i+1+r=i+(r+1)from by omega];rfl
def M5 (p:List Fn)(n f:Nat)(a:List Sr):Nat→List Sr
 |0=>a
 |k+1=>KK p n f (M5 p n f a k)
theorem Un {α:Type}{f:Nat→Rs α}(h:BM f){y:α}{t u:Nat}(ht:t≤3000)(he:f t=.ok y u):u≤3000∧∃d,f 0=.ok y d:=by
 obtain⟨r,d,h⟩:=h
 have h1:=h t ht
 rw[he]at h1
 by_cases hd:t+d≤3000
 ·rw[if_pos hd]at h1
  cases r with
  |err c=>cases h1
  |ok x v =>
   simp only[Rs.ok.injEq]at h1
   obtain⟨rfl,rfl⟩:=h1
   refine⟨hd,d,?_⟩
   have h0:=h 0 zO
   rw[if_pos zO,Nat.zero_add]at h0
   exact h0
 ·rw[if_neg hd]at h1;cases h1
section
variable {p z:List Fn} {n f F m cnt:Nat} {a:List Sr}
theorem Rp (hf:f<F)(hp:f<p.length):∀(k:Nat){t:Nat}{ys:List Sr}{u:Nat},t≤3000→GJ ((Df (p++z) n F).all f) k a t=.ok ys u→u≤3000∧ys=M5 p n f a k∧∀j,j<k→∃s,ev p n f (M5 p n f a j)=.ok (M5 p n f a (j+1)) s
 |0,t,ys,u,ht,h=>by
  have h:Rs.ok a t=.ok ys u:=h
  simp only[Rs.ok.injEq]at h
  obtain⟨rfl,rfl⟩:=h
  exact⟨ht,rfl,fun j hj=>by omega⟩
 |k+1,t,ys,u,ht,h=>by
  have h:(GJ ((Df (p++z) n F).all f) k a t).bind ((Df (p++z) n F).all f)=.ok ys u:=h
  cases h1:GJ ((Df (p++z) n F).all f) k a t with
  |err c=>rw[h1]at h;cases h
  |ok zs v =>
   rw[h1,Rs.bind_ok]at h
   obtain⟨h2,h3,h4⟩:=Rp hf hp k ht h1
   rw[Zc hf hp]at h
   obtain⟨h5,d,h6⟩:=Un (Iw _ fun e _=>PR p n f e _) h2 h
   have h7:ev p n f zs=.ok ys d:=h6
   subst h3
   have h8:M5 p n f a (k+1)=ys:=GU h7
   refine⟨h5,h8.symm,fun j hj=>?_⟩
   by_cases e:j=k
   ·subst e;exact⟨d,by rw[h8];exact h7⟩
   ·exact h4 j zO
theorem Se (hf:f<F)(hp:f<p.length)(hm:a.length=m){i t u:Nat}{x:Sr}(h:Cm n (Df (p++z) n F) (.mk 11 ((f:Nat):Int) ((i:Nat):Int) ((cnt:Nat):Int) (E7 0 m)) a t=.ok x u) :
  u≤3000∧x=(M5 p n f a cnt).getD i []∧∀j,j<cnt→∃s,ev p n f (M5 p n f a j)=.ok (M5 p n f a (j+1)) s:=by
 rw[E5]at h
 by_cases h0:3000≤t
 ·rw[if_pos h0]at h;cases h
 rw[if_neg h0]at h
 have h:(CB n (Df (p++z) n F) (E7 0 m) a (t+1)).bind (fun xs t=>(GJ ((Df (p++z) n F).all f) cnt xs t).bind fun ys u=>.ok (ys.getD i []) u)=.ok x u:=by simpa [Ex.kind,Ex.num,Ex.pick,Ex.count,Ex.kids]using h
 have hv:=P0 (n:=n) (C:=Df (p++z) n F) (env:=a) m 0 zO (t+1) zO
 rw[List.drop_zero,za (by omega)]at hv
 rw[hv]at h
 by_cases h1:t+1+m≤3000
 ·rw[if_pos h1]at h
  have h:(GJ ((Df (p++z) n F).all f) cnt a (t+1+m)).bind (fun ys u=>.ok (ys.getD i []) u)=.ok x u:=h
  cases h2:GJ ((Df (p++z) n F).all f) cnt a (t+1+m)with
  |err c=>rw[h2]at h;cases h
  |ok ys v =>
   rw[h2,Rs.bind_ok]at h
   simp only[Rs.ok.injEq]at h
   obtain⟨rfl,rfl⟩:=h
   obtain⟨q1,q2,q3⟩:=Rp hf hp cnt h1 h2
   exact⟨q1,by rw[q2],q3⟩
 ·rw[if_neg h1]at h;cases h
theorem Nn (hf:f<F)(hp:f<p.length)(hm:a.length=m):∀(r i:Nat){t:Nat}{xs:List Sr}{u:Nat},t≤3000→CB n (Df (p++z) n F) (Cy f m cnt i r) a t=.ok xs u →
  xs.length=r∧(∀j,j<r→xs.getD j []=(M5 p n f a cnt).getD (i+j) [])∧(0<r→∀j,j<cnt→∃s,ev p n f (M5 p n f a j)=.ok (M5 p n f a (j+1)) s)
 |0,i,t,xs,u,ht,h=>by
  have h:CB n (Df (p++z) n F) [] a t=.ok xs u:=h
  rw[CB]at h
  simp only[Rs.ok.injEq]at h
  obtain⟨rfl,rfl⟩:=h
  exact⟨rfl,fun j hj=>by omega,fun hh=>by omega⟩
 |r+1,i,t,xs,u,ht,h=>by
  have h:CB n (Df (p++z) n F) (_::Cy f m cnt (i+1) r) a t=.ok xs u:=h
  rw[CB]at h
  cases h1:Cm n (Df (p++z) n F) (.mk 11 ((f:Nat):Int) ((i:Nat):Int) ((cnt:Nat):Int) (E7 0 m)) a t with
  |err c=>rw[h1]at h;cases h
  |ok x v =>
   rw[h1,Rs.bind_ok]at h
   obtain⟨q1,q2,q3⟩:=Se hf hp hm h1
   cases h2:CB n (Df (p++z) n F) (Cy f m cnt (i+1) r) a v with
   |err c=>rw[h2]at h;cases h
   |ok ys w =>
    rw[h2,Rs.bind_ok]at h
    simp only[Rs.ok.injEq]at h
    obtain⟨rfl,rfl⟩:=h
    obtain⟨k1,k2,k3⟩:=Nn hf hp hm r (i+1) q1 h2
    refine⟨by rw[z9,k1],fun j hj=>?_,fun _=>q3⟩
    cases j with
    |zero=>exact q2
    |succ j =>
     show ys.getD j []=_
     rw[k2 j zO,show i+1+j=i+(j+1)from by omega]
theorem Uo {g:Fn}{r s:Nat}{xs:List Sr}(hf:f<p.length)(hm:a.length=m)(hg:g.outs=Cy f m cnt 0 r)(hr:0<r)(h:ev (p++[g]) n p.length a=.ok xs s) :
  xs.length=r∧(∀j,j<r→xs.getD j []=(M5 p n f a cnt).getD j [])∧∀j,j<cnt→∃s,ev p n f (M5 p n f a j)=.ok (M5 p n f a (j+1)) s:=by
 unfold ev at h
 rw[Gp rfl,hg]at h
 obtain⟨h1,h2,h3⟩:=Nn hf hf hm r 0 zO h
 exact⟨h1,fun j hj=>by rw[h2 j hj,Nat.zero_add],h3 hr⟩
end
def dY (p:List Fn)(f n:Int):Fn:=⟨⟨#[108,111,111,112]⟩,(p.getD f.toNat Fn.zero).params,Cy f.toNat (p.getD f.toNat Fn.zero).params.toNat n.toNat 0 (p.getD f.toNat Fn.zero).outs.length⟩
def DY (p:List Fn)(f n:Int):List Fn:=p++[dY p f n]
def MJ (p:List Fn)(f n:Int):Int:=if DO p f []=0 then(if Ey n 0 8=true then 0 else 2)else DO p f []
def M6 (p:List Fn):Bool:=p.any fun g=>DA g.name ⟨#[108,111,111,112]⟩
def H0 (p:List Fn)(f n:Int):Int:=if MJ p f n=0 then(if M6 p=true then 4 else if Ef (DY p f n)=true then 0 else 3)else MJ p f n
def ZG (p:List Fn)(f n:Int):List Fn:=if H0 p f n=0 then DY p f n else []
section
variable {p:List Fn} {f n:Int}
theorem X2:0≤MJ p f n∧MJ p f n≤2:=by
 have:=Iu p f []
 unfold MJ;split <;> (try split) <;> omega
theorem Uq (h:DO p f []≠0):MJ p f n=DO p f []:=if_neg h
theorem Ur (h:DO p f []=0)(h2:Ey n 0 8=false):MJ p f n=2:=by unfold MJ;rw[if_pos h,h2];rfl
theorem Us (h:DO p f []=0)(h2:Ey n 0 8=true):MJ p f n=0:=by unfold MJ;rw[if_pos h,h2];rfl
theorem Ut (h:MJ p f n≠0):H0 p f n=MJ p f n:=if_neg h
theorem Ft (h:MJ p f n=0)(h2:M6 p=true):H0 p f n=4:=by unfold H0;rw[if_pos h,if_pos h2]
theorem Di (h:MJ p f n=0)(h2:M6 p=false)(h3:Ef (DY p f n)=false):H0 p f n=3:=by unfold H0;rw[if_pos h,h2,h3];rfl
theorem Dt (h:MJ p f n=0)(h2:M6 p=false)(h3:Ef (DY p f n)=true):H0 p f n=0:=by unfold H0;rw[if_pos h,h2,h3];rfl
theorem Rq:0≤H0 p f n∧H0 p f n≤4:=by
 have:=X2 (p:=p) (f:=f) (n:=n)
 unfold H0;split <;> (try split) <;> (try split) <;> omega
theorem aR (h:H0 p f n≠0):ZG p f n=[]:=if_neg h
theorem Rr (h:H0 p f n=0):ZG p f n=DY p f n:=if_pos h
theorem Rt (h:DO p f []=0):Ef p=true∧Ng p f=true:=by
 unfold DO at h
 split at h
 ·rename_i h3
  split at h
  ·rename_i h4;exact⟨h3,h4⟩
  ·omega
 ·omega
theorem No (h:Ef p=false):DO p f []=1:=by unfold DO;rw[h];rfl
theorem HC (h:Ef p=true)(h2:Ng p f=false):DO p f []=2:=by unfold DO;rw[if_pos h,h2];rfl
theorem Es (h:Ef p=true)(h2:Ng p f=true):DO p f []=0:=by unfold DO;rw[if_pos h,if_pos h2];rfl
theorem Ru (h:MJ p f n=0):Ef p=true∧Ng p f=true∧(0≤n∧n≤8):=by
 by_cases h1:DO p f []=0
 ·cases h2:Ey n 0 8 with
  |true=>exact⟨(Rt h1).1,(Rt h1).2,BH.1 h2⟩
  |false=>rw[Ur h1 h2]at h;omega
 ·rw[Uq h1]at h;exact absurd h h1
theorem aS (h:H0 p f n=0):MJ p f n=0∧M6 p=false∧Ef (DY p f n)=true:=by
 by_cases h1:MJ p f n=0
 ·cases h2:M6 p with
  |true=>rw[Ft h1 h2]at h;omega
  |false =>
   cases h3:Ef (DY p f n)with
   |true=>exact⟨h1,rfl,rfl⟩
   |false=>rw[Di h1 h2 h3]at h;omega
 ·rw[Ut h1]at h;exact absurd h h1
theorem D0 (h:DO p f []≠0):H0 p f n=DO p f []:=by rw[Ut (by rw[Uq h];exact h),Uq h]
theorem D1 (h:DO p f []=0)(h2:Ey n 0 8=false):H0 p f n=2:=by rw[Ut (by rw[Ur h h2];omega),Ur h h2]
theorem Pi (f m cnt:Nat):∀(r i:Nat),Ex.sizes (Cy f m cnt i r)=r*(1+m)
 |0,_=>by show Ex.sizes []=_;rw[Ex.sizes];simp
 |r+1,i=>by
  show Ex.sizes (_::Cy f m cnt (i+1) r)=_
  rw[Ex.sizes,Pi f m cnt r,Ex.size,R7,Nat.succ_mul];omega
theorem LF.lp (hz:LF p)(hv:Hz p)(hf:0≤f∧f<((p.length:Nat):Int)):LF (DY p f n):=by
 intro k hk
 unfold DY at hk ⊢
 rw[z4,zd]at hk
 by_cases h:k<p.length
 ·rw[Gn h];exact hz k h
 ·rw[Gp (by omega)]
  have h1:=hv.par f.toNat zO
  have h2:=hv.outs f.toNat zO
  refine⟨?_,?_,?_⟩
  ·show Ex.sizes (Cy _ _ _ _ _)≤_
   rw[Pi]
   have:=Nat.mul_le_mul h2.2 (show 1+(p.getD f.toNat Fn.zero).params.toNat≤13 by omega)
   omega
  ·show(Cy _ _ _ _ _).length≤_
   rw[Dl];omega
  ·show(⟨#[108,111,111,112]⟩:ByteArray).size≤_
   decide
theorem Kt {k:Nat}(hk:k<p.length)(h:DA (p.getD k Fn.zero).name ⟨#[108,111,111,112]⟩=true):M6 p=true:=by
 unfold M6
 rw[List.any_eq_true]
 refine⟨p.getD k Fn.zero,?_,h⟩
 rw[List.getD_eq_getElem?_getD,List.getElem?_eq_getElem hk]
 exact List.getElem_mem hk
theorem Zo (h:∀k,k<p.length→DA (p.getD k Fn.zero).name ⟨#[108,111,111,112]⟩=false):M6 p=false:=by
 unfold M6
 rw[List.any_eq_false]
 intro g hg
 obtain⟨k,hk,rfl⟩:=List.mem_iff_getElem.1 hg
 have:=h k hk
 rw[List.getD_eq_getElem?_getD,List.getElem?_eq_getElem hk,Option.getD_some]at this
 rw[this];decide
theorem O0:(DY p f n).length=p.length+1:=by unfold DY;rw[z4,zd]
theorem M7:(DY p f n).getD p.length Fn.zero=dY p f n:=Gp rfl
end
section
variable {p:List Fn} {f n k m:Nat} {a d ws xs:List Int} {T:Tp}
theorem aT (hv:Hz p)(hf:f<p.length)(hl:((a.length:Nat):Int)=(p.getD f Fn.zero).params)(hn:Bb a=true)(hq:(((p.getD f Fn.zero).outs.length:Nat):Int)=(p.getD f Fn.zero).params)
  (h:∀j,j<n→∃s,ev p 1 f (M5 p 1 f (BB a) j)=.ok (M5 p 1 f (BB a) (j+1)) s):∀k,k≤n→NX p f a k∧M5 p 1 f (BB a) k=BB (DJ p f a k)
 |0,_=>⟨⟨hv,hf,hq,hl,hn,rfl⟩,rfl⟩
 |k+1,hk=>by
  obtain⟨h1,h2⟩:=aT hv hf hl hn hq h k zO
  obtain⟨s,h3⟩:=h k zO
  rw[h2]at h3
  have h4:FS p f (DJ p f a k)=0:=KL h3
  have h5:KK p 1 f (BB (DJ p f a k))=M5 p 1 f (BB a) (k+1):=GU h3
  refine⟨⟨hv,hf,hq,hl,hn,by rw[GW h1.k];exact h4⟩,?_⟩
  have h6:=(ZZ hv hf (C1 h1.st.2) (by unfold BB;rw[zg,h1.st.1];exact hl)).ser
  rw[← h5]
  show _=BB (Lh p f (DJ p f a k))
  unfold Lh
  exact (P4 h6).symm
theorem aU {x:List Sr}(h:C4 2 x):Fe (x.map fun s=>s.getD 0 0) (x.map fun s=>s.getD 1 0) 2=x:=by
 refine TQ (by rw[C6,zg]) fun i hi=>?_
 rw[C6,zg]at hi
 have h1:=(h i hi).1
 rw[Je (by rw[zg];exact hi),BT (d:=[]) hi,BT (d:=[]) hi]
 match hx:x.getD i []with
 |[]=>rw[hx]at h1;simp at h1
 |[y]=>rw[hx]at h1;simp at h1
 |[y,w]=>rfl
 |_::_::_::_=>rw[hx]at h1;simp at h1
theorem aV (hd:d.length=a.length)(hn:Bb d=true):∀ {k:Nat},NX p f a k→M5 p 2 f (Fe a d 2) k=Fe (DJ p f a k) (Pg p f a d k) 2
 |0,_=>rfl
 |k+1,hc=>by
  have h0:=hc.low<|Nat.le_succ k
  have ih:=aV hd hn h0
  have hnd:=h0.nwd hd hn
  obtain⟨xs,T,hr⟩:=hc.rc (Nat.lt_succ_self k)
  have hs:=(hr.ser (m:=2) (by decide) (DK hr.n hnd.2)<|DX _ _).2
  show KK p 2 f (M5 p 2 f (Fe a d 2) k)=Fe (Lh p f (DJ p f a k)) ((NS p f (DJ p f a k) (Pg p f a d k)).map fun s=>s.getD 1 0) 2
  rw[ih,← eW p f (DJ p f a k) (Pg p f a d k)]
  exact (aU hs).symm
end
section
variable {p:List Fn} {f c:Int} {a d ws xs:List Int} {T:Tp}
structure X3 (p:List Fn)(f c:Int)(a:List Int):Prop where
 ok:Ef p=true
 okx:Ef (DY p f c)=true
 fr:0≤f∧f<((p.length:Nat):Int)
 sq:(((p.getD f.toNat Fn.zero).outs.length:Nat):Int)=(p.getD f.toNat Fn.zero).params
 par:1≤(p.getD f.toNat Fn.zero).params
 la:((a.length:Nat):Int)=(p.getD f.toNat Fn.zero).params
 na:Bb a=true
 z:FS (DY p f c) p.length a=0
theorem X3.inv (h:X3 p f c a){n:Nat}{A:List Sr}(hA:A.length=a.length){xs:List Sr}{s:Nat}(he:ev (DY p f c) n p.length A=.ok xs s) :
  xs.length=a.length∧(∀j,j<a.length→xs.getD j []=(M5 p n f.toNat A c.toNat).getD j [])∧∀j,j<c.toNat→∃s,ev p n f.toNat (M5 p n f.toNat A j)=.ok (M5 p n f.toNat A (j+1)) s:=by
 have h1:=h.la;have h2:=h.sq;have h3:=h.par;have h4:=h.fr
 have e:(p.getD f.toNat Fn.zero).outs.length=a.length:=by omega
 have:=Uo (g:=dY p f c) (f:=f.toNat) (m:=(p.getD f.toNat Fn.zero).params.toNat) (cnt:=c.toNat) (r:=(p.getD f.toNat Fn.zero).outs.length) zO zO rfl zO he
 rw[e]at this;exact this
theorem X3.ch (h:X3 p f c a):NX p f.toNat a c.toNat∧Lh (DY p f c) p.length a=DJ p f.toNat a c.toNat:=by
 have hz:=h.z
 have h4:=h.fr
 cases he:ev (DY p f c) 1 p.length (BB a)with
 |err x =>
  have hv:=CM h.okx
  rcases JU hv (n:=1) (f:=p.length) (a:=BB a) (by rw[O0];omega) (C1 h.na) (by rw[M7];unfold BB;rw[zg];exact h.la)with⟨_,_,q,_⟩|q|q <;> rw[he]at q
  ·cases q
  ·unfold FS at hz;rw[FP he]at hz;cases q;omega
  ·unfold FS at hz;rw[FP he]at hz;cases q;omega
 |ok xs s =>
  obtain⟨h1,h2,h3⟩:=h.inv (by rw[Em]) he
  obtain⟨h5,h6⟩:=aT (CM h.ok) zO h.la h.na h.sq h3 c.toNat (A7 _)
  refine⟨h5,?_⟩
  have hs:=h5.st
  unfold Lh
  rw[GU he]
  refine Za (by rw[zg,h1,hs.1]) fun j hj=>?_
  rw[zg]at hj
  rw[BT (d:=[]) hj,h2 j zO,h6]
  unfold BB
  rw[BT (d:=0) (by omega)];rfl
theorem X3.dr (h:X3 p f c a)(hd:d.length=a.length)(hn:Bb d=true):NS (DY p f c) p.length a d=Fe (DJ p f.toNat a c.toNat) (Pg p f.toNat a d c.toNat) 2:=by
 have hz:aE (DY p f c) p.length a d=0:=by rw[aF];exact h.z
 have hc:=h.ch.1
 have hs:=hc.st
 have hv:=CM h.okx
 rcases JU hv (n:=2) (f:=p.length) (a:=Fe a d 2) (by rw[O0];omega) (DK h.na hn) (by rw[M7,C6];exact h.la)with⟨xs,s,q,_⟩|q|q
 ·obtain⟨h1,h2,_⟩:=h.inv (by rw[C6]) q
  unfold NS
  rw[GU q]
  refine TQ (by rw[h1,C6,hs.1]) fun j hj=>?_
  rw[h2 j zO,aV hd hn hc]
 ·unfold aE at hz;rw[FP q]at hz;omega
 ·unfold aE at hz;rw[FP q]at hz;omega
theorem X3.back (h:X3 p f c a)(hw:ws.length=a.length)(hwn:Bb ws=true)(hr:Jg (DY p f c) p.length a xs T):Vb (DY p f c) p.length a ws=Oq p f.toNat a c.toNat ws:=by
 obtain⟨hc,_⟩:=h.ch
 have hs:=hc.st
 refine Za (by rw[ID,Rm hc hw]) fun k hk=>?_
 rw[ID]at hk
 have hd:(eV a.length k).length=a.length:=Zd _ _
 have hn:Bb (eV a.length k)=true:=U4 _ _
 rw[hr.bkR_at hk]
 have hx:xs.length=a.length:=by
  have h1:xs.length=((DY p f c).getD p.length Fn.zero).outs.length:=hr.en.1
  rw[M7]at h1
  have h2:(dY p f c).outs.length=(p.getD f.toNat Fn.zero).outs.length:=Dl ..
  have:=h.sq;have:=h.la;omega
 have h1:=Ph (ws:=ws) hc hw hd hn
 have hnd:=hc.nwd hd hn
 have e1:md (sm xs.length fun i=>ws.getD i 0*((NS (DY p f c) p.length a (eV a.length k)).getD i []).getD 1 0)=PS ws (Pg p f.toNat a (eV a.length k) c.toNat) a.length:=by
  unfold PS
  rw[hx]
  refine congrArg md (DC fun i hi=>?_)
  rw[h.dr hd hn,Je (by rw[hs.1];exact hi)]
  rfl
 rw[e1,h1]
 unfold PS
 have e:(sm a.length fun q=>(Oq p f.toNat a c.toNat ws).getD q 0*(eV a.length k).getD q 0)=sm a.length fun q=>if k=q then(Oq p f.toNat a c.toNat ws).getD q 0 else 0:=DC fun q _=>by
  rw[U3 hk]
  split
  ·rw[Int.mul_one]
  ·rw[Int.mul_zero]
 rw[e,LA k (fun q=>(Oq p f.toNat a c.toNat ws).getD q 0),if_pos hk]
 have:=Cf (Rn hc hwn) k
 exact OA this.1 this.2
end
end
end Go.Proofs.YtbajepcpgncekaaGreat
