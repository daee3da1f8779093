/- Nc, Nd, Ne, Gd, Ge, Gu, Gv, Gw, Gx, Nf, Ng, Nh, Ni, Nk, Nl, Gf, Gg, Gj, Gk, Gh, Gl, Gm, Gr, Go, Gq, Gp, Gs, Gy, Gz, Ha, Hb, Hd, Hg, Hh, Hj, Hn, Ho, Hp, Hv, Hw, T: texts of this claim, joined; what the claim does not come to is left out. -/
import Derived.Test.YtbajepcpgncekaaGreatQI1
import Derived.Test.YtbajepcpgncekaaGreatProg
set_option linter.unusedVariables false
set_option linter.unusedSimpArgs false
namespace Go.Proofs.YtbajepcpgncekaaGreat
open Go Go.RowKit
section
structure HW (p:List Fn):Prop where
 par:∀k,k<p.length→0≤(p.getD k Fn.zero).params∧(p.getD k Fn.zero).params≤12
 outs:∀k,k<p.length→1≤(p.getD k Fn.zero).outs.length∧(p.getD k Fn.zero).outs.length≤12
 deep:∀k,k<p.length→∀j,j<(p.getD k Fn.zero).outs.length→((p.getD k Fn.zero).outs.getD j Ex.zero).deep≤60
 wf:∀k,k<p.length→∀j,j<(p.getD k Fn.zero).outs.length→wf p ((k:Nat):Int) ((p.getD k Fn.zero).outs.getD j Ex.zero) (p.getD k Fn.zero).params=true
theorem BL {x a b:Int}:H5 x a b=true↔a≤x∧x≤b:=by unfold H5;simp
theorem CY {p:List Fn}{F vars:Int}{e:Ex}(h:Gw p F vars e=true) :
  (e.kind=1∨e.kind=2∨e.kind=3∨e.kind=4∨e.kind=5∨e.kind=6∨e.kind=7∨e.kind=8∨e.kind=9∨e.kind=10∨e.kind=11) ∧
  (e.kind=2→0≤e.num∧e.num≤vars-1)∧(e.kind=3∨e.kind=4∨e.kind=5∨e.kind=6∨e.kind=9→e.kids.length=2)∧(e.kind=7→e.kids.length=1)∧(e.kind=8→e.kids.length=3) ∧
  (e.kind=10∨e.kind=11→0≤e.num∧e.num≤F-1∧(e.kids.length:Int)=(p.getD e.num.toNat Fn.zero).params∧0≤e.pick∧e.pick≤((p.getD e.num.toNat Fn.zero).outs.length:Int)-1) ∧
  (e.kind=11→((p.getD e.num.toNat Fn.zero).outs.length:Int)=(p.getD e.num.toNat Fn.zero).params∧0≤e.count∧e.count≤8)∧(e.kind=1→0≤e.num∧e.num<1000003):=by
 unfold Gw at h
 split at h
 ·simp only[Bool.and_eq_true,decide_eq_true_eq,BR]at h;omega
 ·split at h
  ·simp only[Bool.and_eq_true,decide_eq_true_eq,BL]at h;omega
  ·split at h
   ·simp only[Bool.and_eq_true,decide_eq_true_eq]at h;omega
   ·split at h
    ·simp only[Bool.and_eq_true,decide_eq_true_eq]at h;omega
    ·split at h
     ·simp only[Bool.and_eq_true,decide_eq_true_eq]at h;omega
     ·split at h
      ·simp only[Bool.and_eq_true,decide_eq_true_eq,BL]at h
       obtain⟨h1,h2,h3,h4⟩:=h
       split at h4
       ·simp only[decide_eq_true_eq]at h4;omega
       ·simp only[Bool.and_eq_true,decide_eq_true_eq,BL]at h4;omega
      ·cases h
theorem CJ {p:List Fn}{F vars:Int}{e:Ex}(h:wf p F e vars=true):Gw p F vars e=true:=by
 rw[Mh,Bool.and_eq_true]at h;exact h.1
theorem V0 {p:List Fn}{F vars:Int}{e:Ex}(h:wf p F e vars=true){j:Nat}(hj:j<e.kids.length):wf p F (e.kids.getD j Ex.zero) (if e.kind=9∧j=1 then vars+1 else vars)=true:=by
 rw[Mh,Bool.and_eq_true]at h
 have:=(Ko p F _ vars e.kids 0).1 h.2 j hj
 rw[Nat.zero_add]at this
 simpa only[decide_eq_true_eq]using this
theorem DN {p:List Fn}{F vars:Int}{e:Ex}(h:wf p F e vars=true){j:Nat}(hj:j<e.kids.length)(hn:¬(e.kind=9∧j=1)):wf p F (e.kids.getD j Ex.zero) vars=true:=by
 have:=V0 h hj
 rwa [if_neg hn]at this
theorem JC {p:List Fn}{F vars:Int}{e:Ex}(h:wf p F e vars=true)(hj:1<e.kids.length)(hk:e.kind=9):wf p F (e.kids.getD 1 Ex.zero) (vars+1)=true:=by
 have:=V0 h hj
 rwa [if_pos ⟨hk,rfl⟩]at this
section
variable {p:List Fn} {F:Nat} {vars:Int} {e:Ex}
theorem Ov (h:wf p ((F:Nat):Int) e vars=true)(hk:e.kind=1):0≤e.num∧e.num<1000003:=(CY (CJ h)).2.2.2.2.2.2.2 hk
theorem Ox (h:wf p ((F:Nat):Int) e vars=true)(hk:e.kind=2):0≤e.num∧e.num≤vars-1:=(CY (CJ h)).2.1 hk
theorem RA (h:wf p ((F:Nat):Int) e vars=true)(hk:e.kind=8):e.kids.length=3:=(CY (CJ h)).2.2.2.2.1 hk
theorem Oy (h:wf p ((F:Nat):Int) e vars=true)(hk:e.kind=9):e.kids.length=2:=(CY (CJ h)).2.2.1 zO
theorem Oz (h:wf p ((F:Nat):Int) e vars=true)(hk:e.kind=7):e.kids.length=1:=(CY (CJ h)).2.2.2.1 hk
theorem JD (h:wf p ((F:Nat):Int) e vars=true)(hk:e.kind=3∨e.kind=4∨e.kind=5∨e.kind=6):e.kids.length=2:=(CY (CJ h)).2.2.1 zO
theorem HJ (h:wf p ((F:Nat):Int) e vars=true)(hk:e.kind=10∨e.kind=11):(0≤e.num∧e.num≤((F:Nat):Int)-1)∧(e.kids.length:Int)=(p.getD e.num.toNat Fn.zero).params∧(0≤e.pick∧e.pick≤((p.getD e.num.toNat Fn.zero).outs.length:Int)-1):=by
 have:=(CY (CJ h)).2.2.2.2.2.1 hk
 exact⟨⟨this.1,this.2.1⟩,this.2.2.1,this.2.2.2⟩
theorem MH (h:wf p ((F:Nat):Int) e vars=true)(hk:e.kind=11):((p.getD e.num.toNat Fn.zero).outs.length:Int)=(p.getD e.num.toNat Fn.zero).params∧(0≤e.count∧e.count≤8):=(CY (CJ h)).2.2.2.2.2.2.1 hk
theorem Xe (h:wf p ((F:Nat):Int) e vars=true)(hk:(e.kind≠1∧e.kind≠2∧e.kind≠8∧e.kind≠9)∧(e.kind≠10∧e.kind≠11∧e.kind≠3∧e.kind≠4∧e.kind≠5∧e.kind≠7)):e.kind=6:=by
 have:=(CY (CJ h)).1
 omega
theorem Xf (h:wf p ((F:Nat):Int) e vars=true)(hk:(e.kind≠1∧e.kind≠2∧e.kind≠7∧e.kind≠8)∧(e.kind≠9∧e.kind≠10∧e.kind≠11)):e.kind=3∨e.kind=4∨e.kind=5∨e.kind=6:=by
 have:=(CY (CJ h)).1
 omega
theorem RB (h:wf p ((F:Nat):Int) e vars=true)(hv:HW p)(hF:F≤p.length):e.kids.length≤12:=by
 have hq:=CY<|CJ h
 by_cases h10:e.kind=10∨e.kind=11
 ·have h1:=HJ h h10
  have:=hv.par e.num.toNat zO
  omega
 ·have h1:=hq.1;have h2:=hq.2.2.1;have h3:=hq.2.2.2.1;have h4:=hq.2.2.2.2.1
  by_cases hl:e.kind=1∨e.kind=2
  ·have h5:=CJ h
   unfold Gw at h5
   rcases hl with hl|hl
   ·rw[if_pos hl]at h5;simp only[Bool.and_eq_true,decide_eq_true_eq]at h5;omega
   ·rw[if_neg zO,if_pos hl]at h5;simp only[Bool.and_eq_true,decide_eq_true_eq]at h5;omega
  ·omega
end
section
variable {n:Nat} {C:Ca} {e:Ex} {env:List Sr} {s s1 s2:Nat} {c c1 c2:Int} {x y:Sr} {xs ys:List Sr}
theorem DB (hc:c≠0){r:Rs Sr}:AH (go c r) x s c:=AH.mk_err (Dk hc r) hc
theorem CF (hc:c=0)(hs:s=3000):AH (go c (Cn n C e env s)) x s1 7:=by
 subst hc;rw[Cy,EK,if_pos (by omega)];exact AH.mk_err rfl (by decide)
theorem En (hc:c=0)(hs:s+1≤3000)(hk:e.kind=1):AH (go c (Cn n C e env s)) (cst n e.num) (s+1) c:=by
 subst hc;rw[Cy,EK,if_neg zO,if_pos hk];exact AH.mk_ok rfl
theorem Eo (hc:c=0)(hs:s+1≤3000)(hk:e.kind=2):AH (go c (Cn n C e env s)) (env.getD e.num.toNat []) (s+1) c:=by
 subst hc;rw[Cy,EK,if_neg zO,if_neg zO,if_pos hk];exact AH.mk_ok rfl
theorem Ep (hc:c=0)(hs:s+1≤3000)(hk:e.kind=8)(hl:e.kids.length=3)(h1:AH (go c (Cn n C (e.kids.getD 0 Ex.zero) env (s+1))) x s1 c1)(hx:x.getD 0 0=0)
  (h2:AH (go c1 (Cn n C (e.kids.getD 1 Ex.zero) env s1)) y s2 c2):AH (go c (Cn n C e env s)) y s2 c2:=by
 subst hc
 rw[Cy,EK,if_neg zO,if_neg zO,if_neg zO,if_pos hk,Du _ _ _ _ _ _ (by omega)]
 rw[Cy]at h1
 by_cases h0:c1=0
 ·subst h0;rw[h1.bindO,if_pos hx,Du _ _ _ _ _ _ (by omega)];exact h2
 ·rw[h1.bindE h0];rw[Dk h0]at h2;exact h2
theorem Er (hc:c=0)(hs:s+1≤3000)(hk:e.kind=8)(hl:e.kids.length=3)(h1:AH (go c (Cn n C (e.kids.getD 0 Ex.zero) env (s+1))) x s1 c1)(hx:¬x.getD 0 0=0)
  (h2:AH (go c1 (Cn n C (e.kids.getD 2 Ex.zero) env s1)) y s2 c2):AH (go c (Cn n C e env s)) y s2 c2:=by
 subst hc
 rw[Cy,EK,if_neg zO,if_neg zO,if_neg zO,if_pos hk,Du _ _ _ _ _ _ (by omega)]
 rw[Cy]at h1
 by_cases h0:c1=0
 ·subst h0;rw[h1.bindO,if_neg hx,Du _ _ _ _ _ _ (by omega)];exact h2
 ·rw[h1.bindE h0];rw[Dk h0]at h2;exact h2
theorem Es (hc:c=0)(hs:s+1≤3000)(hk:e.kind=9)(hl:e.kids.length=2)(h1:AH (go c (Cn n C (e.kids.getD 0 Ex.zero) env (s+1))) x s1 c1)
  (h2:AH (go c1 (Cn n C (e.kids.getD 1 Ex.zero) (env++[x]) s1)) y s2 c2):AH (go c (Cn n C e env s)) y s2 c2:=by
 subst hc
 rw[Cy,EK,if_neg zO,if_neg zO,if_neg zO,if_neg zO,if_pos hk,Du _ _ _ _ _ _ (by omega)]
 rw[Cy]at h1
 by_cases h0:c1=0
 ·subst h0;rw[h1.bindO,Du _ _ _ _ _ _ (by omega)];exact h2
 ·rw[h1.bindE h0];rw[Dk h0]at h2;exact h2
theorem Hf (hs : s + 1 ≤ 3000) (h1 : e.kind ≠ 1) (h2 : e.kind ≠ 2) (h8 : e.kind ≠ 8) (h9 : e.kind ≠ 9) : Cn n C e env s = (Dj n C e.kids env (s + 1)).bind fun xs t =>
      if e.kind = 10 then C.one e.num.toNat e.pick.toNat xs t
      else if e.kind = 11 then (HH (C.all e.num.toNat) e.count.toNat xs t).bind fun ys u=>.ok (ys.getD e.pick.toNat []) u
      else Ks e.kind xs t:=by
  rw [EK,if_neg zO,if_neg h1,if_neg h2,if_neg h8,if_neg h9]
theorem D4 (hc:c=0)(hs:s+1≤3000)(h1:e.kind≠1)(h2:e.kind≠2)(h8:e.kind≠8)(h9:e.kind≠9)(hr:AH (go c (Dj n C e.kids env (s+1))) xs s1 c1)(hc1:c1≠0):AH (go c (Cn n C e env s)) x s2 c1:=by
 subst hc
 rw[Cy]at hr ⊢
 rw[Hf hs h1 h2 h8 h9,hr.bindE hc1];exact AH.mk_err rfl hc1
theorem E0 {p:List Fn}{F:Nat}(hc:c=0)(hs:s+1≤3000)(hk:e.kind=10)(hF:e.num.toNat<F)(hr:AH (go c (Dj n (Ee p n F) e.kids env (s+1))) xs s1 c1)(hc1:c1=0)
  (h2:AH (go c1 (Cn n (Ee p n e.num.toNat) ((p.getD e.num.toNat Fn.zero).outs.getD e.pick.toNat Ex.zero) xs s1)) y s2 c2):AH (go c (Cn n (Ee p n F) e env s)) y s2 c2:=by
 subst hc;subst hc1
 rw[Cy]at hr h2 ⊢
 rw[Hf hs zO zO zO zO,hr.bindO,if_pos hk,MG hF];exact h2
theorem E1 {p:List Fn}{F:Nat}(hc:c=0)(hs:s+1≤3000)(hk:e.kind=11)(hF:e.num.toNat<F)(hr:AH (go c (Dj n (Ee p n F) e.kids env (s+1))) xs s1 c1)(hc1:c1=0)
  (h2:AH (HH (fun a t=>Dj n (Ee p n e.num.toNat) (p.getD e.num.toNat Fn.zero).outs a t) e.count.toNat xs s1) ys s2 c2):AH (go c (Cn n (Ee p n F) e env s)) (ys.getD e.pick.toNat []) s2 c2:=by
 subst hc;subst hc1
 rw[Cy]at hr ⊢
 rw[Hf hs zO zO zO zO,hr.bindO,if_neg zO,if_pos hk]
 have hl:(Ee p n F).all e.num.toNat=fun a t=>Dj n (Ee p n e.num.toNat) (p.getD e.num.toNat Fn.zero).outs a t:=funext fun a=>funext fun t=>HI hF
 rw[hl]
 by_cases h0:c2=0
 ·subst h0;rw[h2.bindO];exact AH.mk_ok rfl
 ·rw[h2.bindE h0];exact AH.mk_err rfl h0
theorem Bb (hc:c=0)(hs:s+1≤3000)(h1:e.kind≠1)(h2:e.kind≠2)(h8:e.kind≠8)(h9:e.kind≠9)(h10:e.kind≠10)(h11:e.kind≠11)(hr:AH (go c (Dj n C e.kids env (s+1))) xs s1 c1)(hc1:c1=0)
  (h:AH (Ks e.kind xs s1) y s2 c2):AH (go c (Cn n C e env s)) y s2 c2:=by
 subst hc;subst hc1
 rw[Cy]at hr ⊢
 rw[Hf hs h1 h2 h8 h9,hr.bindO,if_neg h10,if_neg h11];exact h
theorem FR {k:Int}(hk:k=3):AH (Ks k xs s) (Dy (xs.getD 0 []) (xs.getD 1 [])) s 0:=by subst hk;exact AH.mk_ok rfl
theorem FS {k:Int}(hk:k=4):AH (Ks k xs s) (EU (xs.getD 0 []) (xs.getD 1 [])) s 0:=by subst hk;exact AH.mk_ok rfl
theorem FT {k:Int}(hk:k=5):AH (Ks k xs s) (Cb (xs.getD 0 []) (xs.getD 1 [])) s 0:=by subst hk;exact AH.mk_ok rfl
theorem FU {k:Int}(hk:k=7):AH (Ks k xs s) (CQ (xs.getD 0 []) 1000002) s 0:=by subst hk;exact AH.mk_ok rfl
theorem Et {k:Int}(hk:k=6)(hz:(xs.getD 1 []).getD 0 0=0):AH (Ks k xs s) x s1 6:=by
 subst hk
 have:Ks 6 xs s=.err 6:=by
  show(if (xs.getD 1 []).getD 0 0=0 then _ else _)=_
  rw[if_pos hz]
 exact AH.mk_err this (by decide)
theorem FV {k:Int}(hk:k=6)(hz:¬(xs.getD 1 []).getD 0 0=0):AH (Ks k xs s) (Bs (xs.getD 0 []) (xs.getD 1 [])) s 0:=by
 subst hk
 have:Ks 6 xs s=.ok (Bs (xs.getD 0 []) (xs.getD 1 [])) s:=by
  show(if (xs.getD 1 []).getD 0 0=0 then _ else _)=_
  rw[if_neg hz]
 exact AH.mk_ok this
theorem Gd {l:List Ex}{k:Nat}(hk:k<l.length)(h:AH (go c (Dj n C (l.take k) env s)) xs s1 c1)(h2:AH (go c1 (Cn n C (l.getD k Ex.zero) env s1)) x s2 c2) :
  AH (go c (Dj n C (l.take (k+1)) env s)) (xs++[x]) s2 c2:=by
 by_cases hc:c=0
 ·subst hc
  rw[Cy]at h ⊢
  rw[Rz hk]
  by_cases h0:c1=0
  ·subst h0
   rw[Cy]at h2
   rw[h.bindO]
   by_cases h3:c2=0
   ·subst h3;rw[h2.bindO];exact AH.mk_ok rfl
   ·rw[h2.bindE h3];exact AH.mk_err rfl h3
  ·rw[h.bindE h0];rw[Dk h0]at h2;exact AH.mk_err (by rw[h2.1]) (by rw[h2.1];exact h2.2)
 ·rw[Dk hc]at h ⊢
  have hc1:c1≠0:=by rw[h.1];exact hc
  rw[Dk hc1]at h2
  exact AH.mk_err (by rw[h2.1,h.1]) (by rw[h2.1];exact hc1)
theorem TU {f:List Sr→Nat→Rs (List Sr)}{k:Nat}(h:AH (HH f k xs s) ys s1 c1)(hc:c1=0){zs:List Sr}(h2:AH (go c1 (f ys s1)) zs s2 c2):AH (HH f (k+1) xs s) zs s2 c2:=by
 subst hc
 show AH ((HH f k xs s).bind f) _ _ _
 rw[h.bindO];rw[Cy]at h2;exact h2
theorem Pw {f:List Sr→Nat→Rs (List Sr)} {d:Int}:∀ {m k:Nat},HH f k xs s = .err d→k≤m→HH f m xs s = .err d
  | 0, k, h, hk => by have : k = 0 := by omega
                      subst this; exact h
  | m + 1,k,h,hk=>by
    by_cases e:k = m + 1
    · subst e; exact h
    · show (HH f m xs s).bind f = _
      rw [Pw h (by omega)]; rfl
theorem E2 {f:List Sr→Nat→Rs (List Sr)}{k m:Nat}(h:AH (HH f k xs s) ys s1 c1)(hk:k≤m)(hs:k=m∨c1≠0):AH (HH f m xs s) ys s1 c1:=by
 by_cases hc:c1=0
 ·rcases hs with rfl|hh
  ·exact h
  ·exact absurd hc hh
 ·exact AH.mk_err (Pw (h.err hc) hk) hc
end
theorem Ge (n:Nat)(C:Ca)(l:List Ex)(env:List Sr)(s:Nat)(c:Int):AH (go c (Dj n C (l.take 0) env s)) [] s c:=by
 rw[List.take_zero,Dj]
 by_cases h:c=0
 ·subst h;exact AH.mk_ok rfl
 ·exact AH.mk_err (Dk h _) h
theorem J5 {n:Nat}{a b:Sr}(ha:Cj n a):Cj n (Dy a b):=⟨by unfold Dy;rw[Em];exact ha.1,Fq _ _⟩
theorem KO {n:Nat}{a b:Sr}(ha:Cj n a):Cj n (EU a b):=⟨by rw[Fp];exact ha.1,Fs _ _⟩
theorem J6 {n:Nat}{a b:Sr}(ha:Cj n a):Cj n (Cb a b):=⟨by unfold Cb;rw[Em];exact ha.1,DW _ _⟩
theorem Hg {n:Nat}{a b:Sr}(ha:Cj n a):Cj n (Bs a b):=⟨by rw[DX];exact ha.1,Dx _ _⟩
theorem KP {n:Nat}{a:Sr}{y:Int}(ha:Cj n a):Cj n (CQ a y):=⟨by unfold CQ;rw[Em];exact ha.1,DA _ _⟩
end
section
def JE (p:List Fn)(n f:Nat)(a:List Sr):List Sr:=match ev p n f a with
 |.ok xs _=>xs
 |.err _=>[]
def MI (p:List Fn)(n f:Nat)(a:List Sr):Nat:=match ev p n f a with
 |.ok _ s=>s
 |.err _=>0
def Js (p:List Fn)(n f:Nat)(a:List Sr):Int:=match ev p n f a with
 |.ok _ _=>0
 |.err c=>c
section
variable {p:List Fn} {n f s:Nat} {a x:List Sr} {c:Int}
theorem KQ (h:AH (go 0 (Dj n (Ee p n f) (p.getD f Fn.zero).outs a 0)) x s c)(hc:c=0):ev p n f a=.ok x s:=by subst hc;exact h.ok
theorem Ir (h:AH (go 0 (Dj n (Ee p n f) (p.getD f Fn.zero).outs a 0)) x s c)(hc:c≠0):ev p n f a=.err c:=h.err hc
theorem KR (h:ev p n f a=.ok x s):JE p n f a=x:=by unfold JE;rw[h]
theorem RC (h:ev p n f a=.ok x s):MI p n f a=s:=by unfold MI;rw[h]
theorem NL (h:ev p n f a=.ok x s):Js p n f a=0:=by unfold Js;rw[h]
theorem RD (h:ev p n f a=.err c):JE p n f a=[]:=by unfold JE;rw[h]
theorem RE (h:ev p n f a=.err c):MI p n f a=0:=by unfold MI;rw[h]
theorem K6 (h:ev p n f a=.err c):Js p n f a=c:=by unfold Js;rw[h]
end
structure TV (p:List Fn)(n f:Nat)(a:List Sr):Prop where
 code:0≤Js p n f a∧Js p n f a≤9
 steps:MI p n f a≤3000
 len:Js p n f a=0→(JE p n f a).length=(p.getD f Fn.zero).outs.length
 ser:C7 n (JE p n f a)
 non:Js p n f a≠0→JE p n f a=[]
theorem TV.mk' {p:List Fn}{n f s:Nat}{a x:List Sr}{c:Int}(h:AH (go 0 (Dj n (Ee p n f) (p.getD f Fn.zero).outs a 0)) x s c)(hc:0≤c∧c≤9)(hs:s≤3000)(hl:x.length=(p.getD f Fn.zero).outs.length)(hx:C7 n x):TV p n f a:=by
 by_cases h0:c=0
 ·have e:=KQ h h0
  exact⟨by rw[NL e];omega,by rw[RC e];exact hs,fun _=>by rw[KR e];exact hl,by rw[KR e];exact hx,fun hh=>absurd (NL e) hh⟩
 ·have e:=Ir h h0
  exact⟨by rw[K6 e];exact hc,by rw[RE e];omega,fun hh=>absurd (by rw[← hh,K6 e]) h0,by rw[RD e];intro k hk;simp at hk,fun _=>RD e⟩
end
def V1 (s:ByteArray)(i:Nat):Bool:=(decide (97≤Jr s i) && decide (Jr s i≤122)) || (decide (i≠0) && (decide (48≤Jr s i) && decide (Jr s i≤57)))
def KS (s:ByteArray):Bool:=(decide (1≤s.size) && decide (s.size≤12)) && (List.range s.size).all (V1 s)
def LS (p:List Fn)(e:Ex)(vars funcs:Int):Bool :=
 H5 vars 0 412 && (H5 funcs 0 ((p.length:Nat):Int) && (decide (e.size≤400) && (decide (e.deep≤60) && wf p funcs e vars)))
def Qv (p:List Fn)(k:Nat):Bool:=!((p.take k).any fun g=>Io g.name (p.getD k Fn.zero).name)
def K7 (p:List Fn)(k:Nat):Bool :=
 (KS (p.getD k Fn.zero).name && Qv p k) && ((H5 (p.getD k Fn.zero).params 0 12 && H5 (((p.getD k Fn.zero).outs.length:Nat):Int) 1 12) &&
  ((List.range (p.getD k Fn.zero).outs.length).all (fun j=>LS p ((p.getD k Fn.zero).outs.getD j Ex.zero) (p.getD k Fn.zero).params ((k:Nat):Int)) && decide (Ex.sizes (p.getD k Fn.zero).outs≤400)))
def JF (p:List Fn):Bool:=decide (p.length≤16) && (List.range p.length).all (K7 p)
def QL (p:List Fn):Prop:=∀k,k<p.length→Ex.sizes (p.getD k Fn.zero).outs≤2000000∧(p.getD k Fn.zero).outs.length≤2000000∧(p.getD k Fn.zero).name.size≤2000000
theorem DR {f:Nat→Bool}{k:Nat}(h:(List.range k).all f=true)(hk:f k=true):(List.range (k+1)).all f=true:=by
 rw[List.range_succ,List.all_append,h];simp[hk]
theorem JG {f:Nat→Bool}{k n:Nat}(hk:k<n)(h:f k=false):(List.range n).all f=false:=by
 rw[List.all_eq_false]
 exact⟨k,List.mem_range.2 hk,by simp[h]⟩
theorem Px {f:Nat→Bool}{k n:Nat}(h:(List.range n).all f=true)(hk:k<n):f k=true:=List.all_eq_true.1 h k (List.mem_range.2 hk)
theorem Xg {p:List Fn}(h:JF p=true){k:Nat}(hk:k<p.length):K7 p k=true:=by
 unfold JF at h
 rw[Bool.and_eq_true]at h
 exact Px h.2 hk
theorem J7 {p:List Fn}(h:JF p=true):HW p:=by
 have h1:∀k,k<p.length→(0≤(p.getD k Fn.zero).params∧(p.getD k Fn.zero).params≤12)∧(1≤(p.getD k Fn.zero).outs.length∧(p.getD k Fn.zero).outs.length≤12) ∧
   ∀j,j<(p.getD k Fn.zero).outs.length→LS p ((p.getD k Fn.zero).outs.getD j Ex.zero) (p.getD k Fn.zero).params ((k:Nat):Int)=true:=by
  intro k hk
  have:=Xg h hk
  unfold K7 at this
  simp only[Bool.and_eq_true,BL]at this
  exact⟨this.2.1.1,zO,fun j hj=>Px this.2.2.1 hj⟩
 have h2:∀k,k<p.length→∀j,j<(p.getD k Fn.zero).outs.length→((p.getD k Fn.zero).outs.getD j Ex.zero).deep≤60∧wf p ((k:Nat):Int) ((p.getD k Fn.zero).outs.getD j Ex.zero) (p.getD k Fn.zero).params=true:=by
  intro k hk j hj
  have:=(h1 k hk).2.2 j hj
  unfold LS at this
  simp only[Bool.and_eq_true,decide_eq_true_eq]at this
  exact⟨this.2.2.2.1,this.2.2.2.2⟩
 exact⟨fun k hk=>(h1 k hk).1,fun k hk=>(h1 k hk).2.1,fun k hk j hj=>(h2 k hk j hj).1,fun k hk j hj=>(h2 k hk j hj).2⟩
section
mutual
def Y2:Ex→Bool
 |.mk k _ _ _ l=>(decide (k≠6) && decide (k≠8)) && Oh l
def Oh:List Ex→Bool
 |[]=>true
 |e::l=>Y2 e && Oh l
end
theorem OA (k n q c:Int)(l:List Ex):Y2 (.mk k n q c l)=((decide (k≠6) && decide (k≠8)) && Oh l):=by rw[Y2]
theorem NM (l:List Ex)(e:Ex):Oh (l++[e])=(Oh l && Y2 e):=by
 induction l with
 |nil=>rw[List.nil_append,Oh,Oh];simp[Oh]
 |cons a l ih=>rw[List.cons_append,Oh,Oh,ih,Bool.and_assoc]
def Ml:Nat→Int
 |0=>1
 |d+1=>1+4*Ml d
def HK:Nat→Nat
 |0=>30
 |d+1=>50+4*HK d
def Xh:Nat→Int→Int
 |0,_=>0
 |n+1,k=>Xh n k+k
def Qw:Nat→Nat→Nat
 |0,_=>0
 |n+1,k=>Qw n k+k
theorem HL:∀d,1≤Ml d
 |0=>by decide
 |d+1=>by have:=HL d;show 1≤1+4*Ml d;omega
theorem V2 {d:Nat}(h:1≤d):Ml d=1+4*Ml (d-1):=by
 obtain⟨d,rfl⟩:∃k,d=k+1:=⟨d-1,zO⟩
 rfl
theorem Yc {d:Nat}(h:1≤d):HK d=50+4*HK (d-1):=by
 obtain⟨d,rfl⟩:∃k,d=k+1:=⟨d-1,zO⟩
 rfl
theorem OB:∀d,30≤HK d
 |0=>by decide
 |d+1=>by show 30≤50+4*HK d;omega
theorem NN {i:Nat}{k:Int}(hk:0≤k)(hi:i≤4):0≤Xh i k∧Xh i k≤4*k:=by
 rcases i with _|_|_|_|_|i
 all_goals first|(exfalso;omega)|(simp only[Xh];omega)
theorem Mm {i k:Nat}(hi:i≤4):Qw i k≤4*k:=by
 rcases i with _|_|_|_|_|i
 all_goals first|(exfalso;omega)|(simp only[Qw];omega)
structure Py (p:List Fn)(funcs vars:Int)(pl:Bool)(d:Nat)(l0 l1:Int)(ex:Ex):Prop where
 wf:wf p funcs ex vars=true
 sz:(ex.size:Int)+4*max l1 1≤1+4*max l0 1
 dp:ex.deep≤d+1
 pl:pl=true→Y2 ex=true
 lo:l0-Ml d≤l1∧l1≤l0-1
structure OC (p:List Fn)(vars:Int)(ex:Ex):Prop where
 wf:∀funcs,wf p funcs ex vars=true
 sz:ex.size=1
 dp:ex.deep=1
 pl:Y2 ex=true
structure Yd (p:List Fn):Prop where
 len:p.length≤1000
 par:∀k,k<p.length→0≤(p.getD k Fn.zero).params∧(p.getD k Fn.zero).params≤4
 outs:∀k,k<p.length→1≤(p.getD k Fn.zero).outs.length∧(p.getD k Fn.zero).outs.length≤12
theorem OC.num {p:List Fn}{vars n:Int}(h:0≤n∧n<1000003):OC p vars (.mk 1 n 0 0 []) :=
 ⟨fun funcs=>by
  rw[MB rfl];unfold Gw DM
  simp[Ex.kind,Ex.pick,Ex.count,Ex.kids,Ex.num,BR];omega,by rw[Ex.size,Ex.sizes],by rw[Ex.deep,Ex.deeps],by rw[OA];rfl⟩
theorem OC.var {p:List Fn}{vars n:Int}(h:0≤n∧n<vars):OC p vars (.mk 2 n 0 0 []) :=
 ⟨fun funcs=>by
  rw[MB rfl];unfold Gw DM
  simp[Ex.kind,Ex.pick,Ex.count,Ex.kids,Ex.num,BL];omega,by rw[Ex.size,Ex.sizes],by rw[Ex.deep,Ex.deeps],by rw[OA];rfl⟩
theorem OC.ok {p:List Fn}{vars funcs l0:Int}{ex:Ex}{pl:Bool}(h:OC p vars ex)(d:Nat):Py p funcs vars pl d l0 (l0-1) ex:=by
 have:=HL d
 exact⟨h.wf funcs,by rw[h.sz];omega,by rw[h.dp];omega,fun _=>h.pl,zO⟩
def kn (k:Int):Int:=if k=1∨k=2 then 0 else if k=3∨k=4∨k=5∨k=6∨k=9 then 2 else if k=7 then 1 else if k=8 then 3 else -1
structure Pz (p:List Fn)(funcs vars:Int)(pl:Bool)(k:Int)(d:Nat)(l0 l1:Int)(xs:List Ex)(i:Nat):Prop where
 len:xs.length=i
 wf:∀j,j<i→wf p funcs (xs.getD j Ex.zero) (if k=9∧j=1 then vars+1 else vars)=true
 sz:(Ex.sizes xs:Int)+4*max l1 1≤i+4*max l0 1
 dp:Ex.deeps xs≤d
 pl:pl=true→Oh xs=true
 lo:l0-Xh i (Ml (d-1))≤l1∧l1≤l0
theorem Pz.nil (p:List Fn)(funcs vars:Int)(pl:Bool)(k:Int)(d:Nat)(l0:Int):Pz p funcs vars pl k d l0 l0 [] 0 :=
 ⟨rfl,fun j hj=>by omega,by rw[Ex.sizes];omega,by rw[Ex.deeps];omega,fun _=>by rw[Oh],by show l0-0≤l0∧l0≤l0;omega⟩
theorem Pz.snoc {p:List Fn}{funcs vars own:Int}{pl:Bool}{k:Int}{d:Nat}{l0 l1 l2:Int}{xs:List Ex}{i:Nat}{x:Ex}(h:Pz p funcs vars pl k d l0 l1 xs i)(hd:1≤d)
  (ho:own=if k=9∧i=1 then vars+1 else vars) (hx:Py p funcs own pl (d-1) l1 l2 x):Pz p funcs vars pl k d l0 l2 (xs++[x]) (i+1):=by
 have hlen:=h.len
 refine⟨by simp[hlen],fun j hj=>?_,?_,?_,fun hp=>?_,?_⟩
 ·by_cases e:j=i
  ·subst e
   rw[← hlen,H9 rfl,hlen,← ho];exact hx.wf
  ·rw[GY (by omega)];exact h.wf j zO
 ·have h1:=h.sz;have h2:=hx.sz
  rw[Il];omega
 ·have h1:=h.dp;have h2:=hx.dp
  rw[Im];omega
 ·rw[NM,h.pl hp,hx.pl hp];rfl
 ·have h1:=h.lo;have h2:=hx.lo
  have h3:Xh (i+1) (Ml (d-1))=Xh i (Ml (d-1))+Ml (d-1):=rfl
  omega
theorem Pz.node {p:List Fn}{funcs vars:Int}{pl:Bool}{k num pick cnt:Int}{d i:Nat}{l0 l1:Int}{xs:List Ex}(h:Pz p funcs vars pl k d (l0-1) l1 xs i)(hd:1≤d)(hi:i≤4)(hl:2≤l0)
  (hp:pl=true→k≠6∧k≠8) (hw:Gw p funcs vars (.mk k num pick cnt xs)=true):Py p funcs vars pl d l0 l1 (.mk k num pick cnt xs):=by
 have hn:=V2 hd
 have ht:=NN (k:=Ml (d-1)) (by have:=HL (d-1);omega) hi
 have h1:=h.lo;have h2:=h.sz
 refine⟨(MC hw fun j hj=>?_).symm,?_,?_,fun hq=>?_,zO⟩
 ·exact h.wf j (by rw[← h.len];exact hj)
 ·rw[Ex.size];omega
 ·rw[Ex.deep];have:=h.dp;omega
 ·rw[OA,h.pl hq,A5 (hp hq).1,A5 (hp hq).2];rfl
theorem Xi {p:List Fn}{funcs vars k:Int}{xs:List Ex}(hk:k=3∨k=4∨k=5∨k=6∨k=7∨k=8∨k=9)(hl:((xs.length:Nat):Int)=kn k):Gw p funcs vars (.mk k 0 0 0 xs)=true:=by
 have h2:k=3∨k=4∨k=5∨k=6∨k=9→xs.length=2:=fun h=>by
  have:kn k=2:=by unfold kn;rw[if_neg zO,if_pos (by omega)]
  omega
 have h1:k=7→xs.length=1:=fun h=>by
  have:kn k=1:=by unfold kn;rw[if_neg zO,if_neg zO,if_pos h]
  omega
 have h3:k=8→xs.length=3:=fun h=>by
  have:kn k=3:=by unfold kn;rw[if_neg zO,if_neg zO,if_neg zO,if_pos h]
  omega
 unfold Gw DM
 rcases hk with rfl|rfl|rfl|rfl|rfl|rfl|rfl
 ·simp[Ex.kind,Ex.pick,Ex.count,Ex.kids,Ex.num,h2]
 ·simp[Ex.kind,Ex.pick,Ex.count,Ex.kids,Ex.num,h2]
 ·simp[Ex.kind,Ex.pick,Ex.count,Ex.kids,Ex.num,h2]
 ·simp[Ex.kind,Ex.pick,Ex.count,Ex.kids,Ex.num,h2]
 ·simp[Ex.kind,Ex.pick,Ex.count,Ex.kids,Ex.num,h1]
 ·simp[Ex.kind,Ex.pick,Ex.count,Ex.kids,Ex.num,h3]
 ·simp[Ex.kind,Ex.pick,Ex.count,Ex.kids,Ex.num,h2]
theorem Xj {p:List Fn}{funcs vars k num pick cnt:Int}{xs:List Ex}(hk:(k=10∧cnt=0)∨(k=11∧((p.getD num.toNat Fn.zero).outs.length:Int)=(p.getD num.toNat Fn.zero).params∧0≤cnt∧cnt≤8))
  (hn:0≤num∧num<funcs) (hl:((xs.length:Nat):Int)=(p.getD num.toNat Fn.zero).params) (hq:0≤pick∧pick<((p.getD num.toNat Fn.zero).outs.length:Int)):Gw p funcs vars (.mk k num pick cnt xs)=true:=by
 have h1:H5 num 0 (funcs-1)=true:=BL.2 zO
 have h2:H5 pick 0 (((p.getD num.toNat Fn.zero).outs.length:Int)-1)=true:=BL.2 zO
 have h6:decide ((xs.length:Int)=(p.getD num.toNat Fn.zero).params)=true:=A5 hl
 unfold Gw
 rcases hk with⟨rfl,rfl⟩|⟨rfl,h3,h4⟩
 ·show(H5 num 0 (funcs-1) && (decide ((xs.length:Int)=(p.getD num.toNat Fn.zero).params) && (H5 pick 0 (((p.getD num.toNat Fn.zero).outs.length:Int)-1) && decide ((0:Int)=0))))=true
  rw[h1,h2,h6];rfl
 ·have h5:H5 cnt 0 8=true:=BL.2 h4
  show(H5 num 0 (funcs-1) && (decide ((xs.length:Int)=(p.getD num.toNat Fn.zero).params) && (H5 pick 0 (((p.getD num.toNat Fn.zero).outs.length:Int)-1) && (decide (((p.getD num.toNat Fn.zero).outs.length:Int)=(p.getD num.toNat Fn.zero).params) && H5 cnt 0 8))))=true
  rw[h1,h2,h5,h6,A5 h3];rfl
theorem KT {a b c k:Int}{l:List Ex}(h1:-9223372036854775808≤a∧a≤9223372036854775807)(h2:-9223372036854775808≤b∧b≤9223372036854775807)(h3:-9223372036854775808≤c∧c≤9223372036854775807)(h4:-9223372036854775808≤k∧k≤9223372036854775807):TA (.mk a b c k l):=⟨h1,h2,h3,h4⟩
theorem DC {a b c:Nat}(h:c∈[a,b]):c=a∨c=b:=by simpa using h
theorem FW {a b:Nat}:∀x∈[a],x∈[a,b]:=fun x hx=>by rw[A9 hx];exact List.mem_cons_self ..
theorem Xk {a b:Nat}:∀x∈[b],x∈[a,b]:=fun x hx=>by rw[A9 hx];exact List.mem_cons_of_mem _ (List.mem_cons_self ..)
theorem At.new2 {F:List Nat}{g g':Nat}{a b c:World}(h:At F a b)(k:At [g,g'] b c)(hg:g∈F)(hg':a.heap.size≤g'):At F a c :=
 ⟨k.os.trans h.os,k.tape.trans h.tape,k.output.trans h.output,A8 h.size k.size,fun i hi hm=>(k.block i (Nat.lt_of_lt_of_le hi h.size) fun hq=>by
  rcases DC hq with rfl|rfl
  ·exact hm hg
  ·omega).trans (h.block i hi hm)⟩
theorem RN.of_frF2 {e e':TypeId}{d B U:Nat}{H:Array Obj}{v:Value}{S:List Nat}{xs:List Fn}(h:Fr (Fe 3 (QK e d) e') B U H v xs)(hS:∀b∈S,b<B∨U≤b):RP S d H v xs:=by
 obtain⟨F,h,_,hF⟩:=h
 exact⟨F,(h.rd (AW e d)).imp fun h=>R7 e h,fun b hb hm=>by have:=hF b hb;have:=hS b hm;omega⟩
theorem Qs.mk1 {e:TypeId}{d B U:Nat}{H:Array Obj}{v:Value}{x:Ex}(hd:1≤d)(hr:TA x)(h:Fr (Fe 5 (Ph e (d-1)) e) B U H v x.kids):Qs (Ph e d) B U H (Fb x v) x:=by
 obtain⟨d,rfl⟩:∃k,d=k+1:=⟨d-1,zO⟩
 obtain⟨G,h1,h2,h3⟩:=h
 exact⟨G,⟨v,rfl,hr,h1⟩,h2,h3⟩
theorem Qs.mkF {e:TypeId}{d B U:Nat}{H:Array Obj}{v:Value}{x:Fn}(hr:Bw x.params)(h:Fr (Fe 5 (Ph e d) e) B U H v x.outs):Qs (QK e d) B U H (Fd x v) x:=by
 obtain⟨G,h1,h2,h3⟩:=h
 exact⟨G,⟨v,rfl,hr,h1⟩,h2,h3⟩
theorem aQ {k:Int}(h:k=1∨k=2):kn k=0:=by unfold kn;rw[if_pos h]
theorem aR {k:Int}(h:k=3∨k=4∨k=5∨k=6∨k=9):kn k=2:=by unfold kn;rw[if_neg zO,if_pos h]
theorem aS {k:Int}(h:k=7):kn k=1:=by unfold kn;rw[if_neg zO,if_neg zO,if_pos h]
theorem aT {k:Int}(h:k=8):kn k=3:=by unfold kn;rw[if_neg zO,if_neg zO,if_neg zO,if_pos h]
theorem aU {k:Int}(h1:¬k=1)(h2:¬k=2)(h3:¬k=3)(h4:¬k=4)(h5:¬k=5)(h6:¬k=6)(h7:¬k=7)(h8:¬k=8)(h9:¬k=9):kn k = -1:=by unfold kn;rw[if_neg zO,if_neg zO,if_neg zO,if_neg (by omega)]
theorem aV {k:Int}(h:k=3∨k=4∨k=5∨k=6∨k=7∨k=8∨k=9):1≤kn k∧kn k≤3:=by
 rcases h with rfl|rfl|rfl|rfl|rfl|rfl|rfl <;> decide
theorem RH {d:Nat}(h:d≤8):Ml d≤100000:=by
 have:∀k:Fin 9,Ml k.val≤100000:=by decide
 exact this ⟨d,zO⟩
theorem OC.okc {p:List Fn}{vars funcs l0:Int}{ex:Ex}{pl:Bool}(h:OC p vars ex)(d:Nat):Py p funcs vars pl d (l0+1) l0 ex:=by
 have h:=h.ok (funcs:=funcs) (pl:=pl) (l0:=l0+1) d
 rwa [show l0+1-1=l0 from by omega]at h
theorem Py.up1 {p:List Fn}{vars funcs l0 l1:Int}{ex:Ex}{pl:Bool}{d:Nat}(h:Py p funcs vars pl d (l0-1+1) l1 ex):Py p funcs vars pl d l0 l1 ex:=by rwa [show l0-1+1=l0 from by omega]at h
theorem Pz.node1 {p:List Fn}{funcs vars:Int}{pl:Bool}{k num pick cnt:Int}{d i:Nat}{l0 l1:Int}{xs:List Ex}(h:Pz p funcs vars pl k d l0 l1 xs i)(hd:1≤d)(hi:i≤4)(hl:1≤l0)
  (hp:pl=true→k≠6∧k≠8) (hw:Gw p funcs vars (.mk k num pick cnt xs)=true):Py p funcs vars pl d (l0+1) l1 (.mk k num pick cnt xs) :=
 Pz.node (by rwa [show l0+1-1=l0 from by omega]) hd hi zO hp hw
namespace Jx
variable [J:JR] {P:Program} {ops:Array Oper} {w0:World} {Q:Act→World→Prop}
theorem j1 {o:Oper}{os:List Oper}{ks:List Nat}{a:Act}{w:World}(h:_root_.Go.Proofs.YtbajepcpgncekaaGreat.LW P ops w0 (fun a w=>LW P ops w0 Q os ks a w) [o] [0] a w):LW P ops w0 Q (o::os) (0::ks) a w:=by
 simp only[_root_.Go.Proofs.YtbajepcpgncekaaGreat.LW]at h
 simp only[LW]
 split
 ·rename_i hw
  rw[if_pos hw]at h
  unfold _root_.Go.Proofs.YtbajepcpgncekaaGreat.BB at h
  unfold BB
  rw[if_pos (by decide)]at h
  rw[if_pos (by decide)]
  obtain⟨v,h1,h2⟩:=h
  exact⟨v,fun w' _=>h1 w' trivial,h2⟩
 ·rename_i hw
  rw[if_neg hw]at h
  exact h
theorem TW:∀ {os:List Oper}{ks:List Nat}{a:Act}{w:World}(_:ks.all (fun k=>k == 0 || k == 3 || k == 4)=true)(_:_root_.Go.Proofs.YtbajepcpgncekaaGreat.LW P ops w0 Q os ks a w),LW P ops w0 Q os ks a w
 |[],_,_,_,_,h=>h
 |_::_,[],_,_,_,h=>h.elim
 |o::os,k::ks,a,w,hk,h=>by
  simp only[List.all_cons,Bool.and_eq_true]at hk
  simp only[_root_.Go.Proofs.YtbajepcpgncekaaGreat.LW]at h
  simp only[LW]
  split
  ·rename_i hw
   rw[if_pos hw]at h
   unfold _root_.Go.Proofs.YtbajepcpgncekaaGreat.BB at h
   unfold BB
   split at h
   ·rename_i h2
    rw[if_pos h2]
    have:k=0:=by
     have:=hk.1
     simp only[Bool.or_eq_true,beq_iff_eq]at this
     omega
    subst this
    obtain⟨v,h1,h3⟩:=h
    exact⟨v,fun w' _=>h1 w' trivial,TW hk.2 h3⟩
   ·rename_i h2
    rw[if_neg h2]
    split at h
    ·rename_i h3
     rw[if_pos h3]
     exact Oper.wp_mono (fun a w hh=>⟨J.ext hh.1,TW hk.2 hh.2⟩) h
    ·rename_i h3
     rw[if_neg h3]
     exact Oper.wp_mono (fun a w hh=>TW hk.2 hh) h
  ·rename_i hw
   rw[if_neg hw]at h
   exact TW hk.2 h
end Jx
end
section
theorem KU {α:Type}{l:List α}{k:Nat}{d:α}(h:k<l.length):l.getD k d∈l:=by
 rw[List.getD_eq_getElem?_getD,List.getElem?_eq_getElem h,Option.getD_some];exact List.getElem_mem h
theorem Xl {a:Int}(h:-9223372036854775808≤a∧a≤9223372036854775807):Bw a:=h
def J8 (n:Nat):ByteArray:=⟨#[UInt8.ofNat (48+n)]⟩
def MJ:List ByteArray:=[⟨#[102]⟩,⟨#[103]⟩,⟨#[115,116,101,112]⟩,⟨#[104,50]⟩,⟨#[99]⟩]
theorem Xm {n:Int}(h0:0≤n)(h1:n<10):(⟨#[UInt8.ofNat (IntKind.u8.wrap (((48:Nat):Int)+n)).toNat]⟩:ByteArray)=J8 n.toNat:=by
 obtain⟨k,rfl⟩:∃k:Nat,n=k:=⟨n.toNat,zO⟩
 have:∀k:Fin 10,(⟨#[UInt8.ofNat (IntKind.u8.wrap (((48:Nat):Int)+((k.val:Nat):Int))).toNat]⟩:ByteArray)=J8 k.val:=by decide +kernel
 exact this ⟨k,zO⟩
theorem RJ (n:Nat):(J8 n).size=1:=rfl
theorem Qy:∀s∈MJ,s.size≤4:=by decide +kernel
theorem TX:∀s∈MJ,∀i:Fin 10,KS (s++J8 i.val)=true:=by decide +kernel
theorem TY:∀s∈MJ,∀t∈MJ,∀i j:Fin 10,i.val≠j.val→Io (s++J8 i.val) (t++J8 j.val)=false:=by decide +kernel
section str
variable {P:Program} {ops:Array Oper} {w0:World} {Q:Act→World→Prop} {os:List Oper} {ks:List Nat} {N:Nat} {ρ:Nat→Value} {w:World}
 {d:Nat} {ty:TypeId} {pos:String} {aft:Array Edge} {g:Option (Nat×Bool)} {t e:TypeId}
theorem TZ {st dt:TypeId}{x:Operand}{v:Value}{n:Int}{B U:Nat}(hs:P.underlying st=some (.slice e))(he:P.underlying e=some (.int .u8))(hd:P.underlying dt=some .string)(hx:Bq N ρ x=v)(hv:Fr (Bt rV e) B U w.heap v [.int .u8 n])
  (hu:Up ops N ρ ⟨some d,.convert st dt x,ty,pos,aft,g⟩) (h:LW P ops w0 Q os ks (mk N (CN ρ d (.string ⟨#[UInt8.ofNat n.toNat]⟩))) w) :
  LW P ops w0 Q (⟨some d,.convert st dt x,ty,pos,aft,g⟩::os) (2::ks) (mk N ρ) w:=by
 obtain⟨F,hv,_,_⟩:=hv
 rcases hv with⟨_,hc,_⟩|⟨us,b,cap,cur,F',hels,rfl,hg,q1,q2,q3,q4,rfl⟩
 ·cases hc
 ·obtain⟨rfl,rfl⟩:=FL hels
  refine Cv (by decide) rfl hu _ (fun w' hcl=>?_) h
  have hcl:AG w w':=hcl
  have hcb:w'.heap[b]? = w.heap[b]?:=hcl.heap (getElem?_lt hg)
  have hlc:=run_loadCells_list (P:=P) w' ⟨b,0,none⟩ [.int .u8 n] (fun j u hj=>by
   rw[Fk,BF]
   simp only[BQ,hcb,hg]
   have hj0:j=0:=by have:=(List.getElem?_eq_some_iff.1 hj).1;simpa using this
   subst hj0
   have e1:cur.toList[0]? = some (.int .u8 n):=by
    have:(cur.toList.take 1)[0]? = some (.int .u8 n):=by rw[show cur.toList.take 1=[.int .u8 n]from q4];rfl
    rwa [List.getElem?_take,if_pos (by decide)]at this
   have e2:u=.int .u8 n:=by simpa using hj.symm
   rw[e2]
   simpa using e1)
  have hb:=run_bytesToString (P:=P) w' ⟨b,0,none⟩ 1 cap [n] (by simpa using hlc)
  have hr:=run_convert_bytes_string (P:=P) w' st dt e (some ⟨b,0,none⟩) 1 cap hs he hd
  simp only[execOp,hx,List.length_singleton,Sem.run_bind,hr,hb,Result.andThen_ok,Sem.run_pure]
  rfl
theorem U0 {b:Nat}{z u0 u1 u2 u3:Value}(ht:P.underlying t=some (.slice e))(hi:TI P e 1 z b)(h0:u0.cells=#[u0])(h1:u1.cells=#[u1])(h2:u2.cells=#[u2])(h3:u3.cells=#[u3])(hz:z.cells=#[z]) :
  (Instr.buildSlice t 4 #[(0,u0),(1,u1),(2,u2),(3,u3)]).run P w=.ok (.slice (some ⟨w.heap.size,0,none⟩) 4 4) (w.alloc (.cells #[u0,u1,u2,u3] e)):=by
 obtain⟨i,q1,q2,q3,q4⟩:=hi.get
 simp[Instr.buildSlice,run_underlying ht,sizeOf,typeInfo,zeroValue,q1,q2,q3,Instr.fill,newRow,h0,h1,h2,h3,hz,IU,List.range_succ]
theorem Xn {α:Type}{E:Bo α}(hE:BZ E){ys:List α}{b:Nat}{z u0 u1 u2 u3:Value}{x0 x1 x2 x3:Operand}(ht:P.underlying t=some (.slice e))(hi:TI P e 1 z b)(hz:z.cells=#[z])
  (hx0:Bq N ρ x0=u0) (hx1:Bq N ρ x1=u1) (hx2:Bq N ρ x2=u2) (hx3:Bq N ρ x3=u3) (hl:ys.length=4) (hels:els E w.heap [u0,u1,u2,u3] ys [])
  (hu:Up ops N ρ ⟨some d,.buildSlice t 4 #[(0,x0),(1,x1),(2,x2),(3,x3)],ty,pos,aft,g⟩)
  (h:∀v w1,AG w w1→w1.heap.size=w.heap.size+1→Fr (Bt E e) w.heap.size w1.heap.size w1.heap v ys→LW P ops w0 Q os ks (mk N (CN ρ d v)) w1) :
  LW P ops w0 Q (⟨some d,.buildSlice t 4 #[(0,x0),(1,x1),(2,x2),(3,x3)],ty,pos,aft,g⟩::os) (3::ks) (mk N ρ) w:=by
 have hc:=hels.cells1 hE
 have hr:=U0 (P:=P) (w:=w) ht hi (hc u0 (by simp)).1 (hc u1 (by simp)).1 (hc u2 (by simp)).1 (hc u3 (by simp)).1 hz
 have hrun:(execOp (Bq N ρ) ⟨some d,.buildSlice t 4 #[(0,x0),(1,x1),(2,x2),(3,x3)],ty,pos,aft,g⟩).run P w=.ok (.value (.slice (some ⟨w.heap.size,0,none⟩) 4 4)) (w.alloc (.cells #[u0,u1,u2,u3] e)):=by
  simp only[execOp,List.map_toArray,List.map_cons,List.map_nil,Sem.run_bind,hx0,hx1,hx2,hx3,hr,Result.andThen_ok,Sem.run_pure]
 refine IT rfl hu _ _ hrun (BD _ _)<|h _ _ (BD _ _) (by simp) ?_
 have hn:=Gr (e:=e) (w:=w) hE (us:=[u0,u1,u2,u3]) (xs:=ys) (F:=[]) (cur:=#[u0,u1,u2,u3]) hels (by simp[maxLen]) (by rw[hl];rfl) (by rw[hl];simp)
 rw[hl]at hn
 refine⟨_,hn,?_,fun c hc=>?_⟩
 ·rw[List.nodup_cons]
  exact⟨fun hm=>(by cases hm),List.nodup_nil⟩
 ·rcases List.mem_cons.1 hc with rfl|hc
  ·exact⟨A7 _,by simp⟩
  ·cases hc
end str
theorem Ye {H:Array Obj}{u0 u1 u2 u3:Value}(h0:u0.cells=#[u0]∧u0.oneCell'=true)(h1:u1.cells=#[u1]∧u1.oneCell'=true)(h2:u2.cells=#[u2]∧u2.oneCell'=true)(h3:u3.cells=#[u3]∧u3.oneCell'=true):els rV H [u0,u1,u2,u3] [u0,u1,u2,u3] [] :=
 KL fun u hu=>by
  simp only[List.mem_cons,List.not_mem_nil,or_false]at hu
  rcases hu with rfl|rfl|rfl|rfl <;> assumption
theorem U1 {p q:List Fn}{F v:Int}{e:Ex}(hF:F≤((p.length:Nat):Int)):Gw (p++q) F v e=Gw p F v e:=by
 by_cases h:H5 e.num 0 (F-1)=true
 ·have h1:=BL.1 h
  have h2:(p++q).getD e.num.toNat Fn.zero=p.getD e.num.toNat Fn.zero:=GY zO
  unfold Gw
  rw[h2]
 ·unfold Gw
  simp only[Bool.not_eq_true]at h
  simp[h]
mutual
theorem OD {p q:List Fn}{F:Int}(hF:F≤((p.length:Nat):Int)):∀(e:Ex)(v:Int),wf (p++q) F e v=wf p F e v
 |.mk k n c d l,v=>by rw[wf,wf,U1 hF,PB hF l]
theorem PB {p q:List Fn}{F:Int}(hF:F≤((p.length:Nat):Int)):∀(l:List Ex)(b:Bool)(i:Nat)(v:Int),Pn (p++q) F b i l v=Pn p F b i l v
 |[],_,_,_=>by rw[Pn,Pn]
 |e::l,b,i,v=>by rw[Pn,Pn,OD hF e,PB hF l]
end
structure LL (p:List Fn)(pl:Bool):Prop where
 len:p.length≤12
 par:∀k,k<p.length→1≤(p.getD k Fn.zero).params∧(p.getD k Fn.zero).params≤3
 outs:∀k,k<p.length→1≤(p.getD k Fn.zero).outs.length∧(p.getD k Fn.zero).outs.length≤3
 wf:∀k,k<p.length→∀j,j<(p.getD k Fn.zero).outs.length→wf p ((k:Nat):Int) ((p.getD k Fn.zero).outs.getD j Ex.zero) (p.getD k Fn.zero).params=true
 dp:∀k,k<p.length→Ex.deeps (p.getD k Fn.zero).outs≤6
 sz:∀k,k<p.length→Ex.sizes (p.getD k Fn.zero).outs≤400
 pl:pl=true→∀k,k<p.length→Oh (p.getD k Fn.zero).outs=true
 nm:∀k,k<p.length→KS (p.getD k Fn.zero).name=true
 nw:∀k,k<p.length→Qv p k=true
theorem LL.nil (pl:Bool):LL [] pl:=by
 constructor
 ·simp
 all_goals first|(intro _ k hk;simp at hk)|(intro k hk;simp at hk)
theorem LL.gpr {p:List Fn}{pl:Bool}(h:LL p pl):Yd p :=
 ⟨by have:=h.len;omega,fun k hk=>by have:=h.par k hk;omega,fun k hk=>by have:=h.outs k hk;omega⟩
theorem LL.snoc {p:List Fn}{pl:Bool}{f:Fn}(h:LL p pl)(hl:p.length≤11)(hp:1≤f.params∧f.params≤3)(ho:1≤f.outs.length∧f.outs.length≤3)
  (hw:∀j,j<f.outs.length→Go.Proofs.YtbajepcpgncekaaGreat.wf p ((p.length:Nat):Int) (f.outs.getD j Ex.zero) f.params=true) (hd:Ex.deeps f.outs≤6) (hs:Ex.sizes f.outs≤400) (hpl:pl=true→Oh f.outs=true)
  (hn:KS f.name=true) (hnw:∀k,k<p.length→Io (p.getD k Fn.zero).name f.name=false):LL (p++[f]) pl:=by
 have e:∀k,k<(p++[f]).length→(k<p.length∧(p++[f]).getD k Fn.zero=p.getD k Fn.zero)∨(k=p.length∧(p++[f]).getD k Fn.zero=f):=fun k hk=>by
  rw[List.length_append,List.length_singleton]at hk
  by_cases h:k<p.length
  ·exact .inl ⟨h,GY h⟩
  ·exact .inr ⟨zO,H9 zO⟩
 refine⟨by rw[List.length_append,List.length_singleton];omega,?_,?_,?_,?_,?_,?_,?_,?_⟩
 ·intro k hk;rcases e k hk with⟨h1,h2⟩|⟨h1,h2⟩ <;> rw[h2]
  ·exact h.par k h1
  ·exact hp
 ·intro k hk;rcases e k hk with⟨h1,h2⟩|⟨h1,h2⟩ <;> rw[h2]
  ·exact h.outs k h1
  ·exact ho
 ·intro k hk;rcases e k hk with⟨h1,h2⟩|⟨h1,h2⟩ <;> rw[h2]
  ·intro j hj;rw[OD (by omega)];exact h.wf k h1 j hj
  ·intro j hj;subst h1;rw[OD (by omega)];exact hw j hj
 ·intro k hk;rcases e k hk with⟨h1,h2⟩|⟨h1,h2⟩ <;> rw[h2]
  ·exact h.dp k h1
  ·exact hd
 ·intro k hk;rcases e k hk with⟨h1,h2⟩|⟨h1,h2⟩ <;> rw[h2]
  ·exact h.sz k h1
  ·exact hs
 ·intro hq k hk;rcases e k hk with⟨h1,h2⟩|⟨h1,h2⟩ <;> rw[h2]
  ·exact h.pl hq k h1
  ·exact hpl hq
 ·intro k hk;rcases e k hk with⟨h1,h2⟩|⟨h1,h2⟩ <;> rw[h2]
  ·exact h.nm k h1
  ·exact hn
 ·intro k hk
  rcases e k hk with⟨h1,h2⟩|⟨h1,h2⟩
  ·have:=h.nw k h1
   unfold Qv at this ⊢
   rwa [h2,List.take_append_of_le_length (by omega)]
  ·unfold Qv
   rw[h2,h1,List.take_left]
   simp only[Bool.not_eq_true',List.any_eq_false]
   intro g hg
   obtain⟨i,hi,rfl⟩:=List.mem_iff_getElem.1 hg
   have:=hnw i hi
   rw[List.getD_eq_getElem?_getD,List.getElem?_eq_getElem hi,Option.getD_some]at this
   simp[this]
theorem LL.ok {p:List Fn}{pl:Bool}(h:LL p pl):JF p=true:=by
 unfold JF
 rw[Bool.and_eq_true]
 refine⟨A5 (by have:=h.len;omega),List.all_eq_true.2 fun k hk=>?_⟩
 rw[List.mem_range]at hk
 have h1:=h.par k hk;have h2:=h.outs k hk;have h3:=h.sz k hk;have h4:=h.dp k hk
 unfold K7
 rw[h.nm k hk,h.nw k hk,BL.2 zO,BL.2 zO,A5 h3]
 simp only[Bool.true_and,Bool.and_true]
 refine List.all_eq_true.2 fun j hj=>?_
 rw[List.mem_range]at hj
 have h5:=KM hj;have h6:=Di hj
 unfold LS
 rw[BL.2 zO,BL.2 zO,A5 zO,A5 zO,h.wf k hk j hj]
 rfl
structure RK (p:List Fn)(vars:Int)(pl:Bool)(xs:List Ex)(i:Nat):Prop where
 len:xs.length=i
 wf:∀j,j<i→wf p ((p.length:Nat):Int) (xs.getD j Ex.zero) vars=true
 dp:Ex.deeps xs≤6
 sz:Ex.sizes xs≤i*117
 pl:pl=true→Oh xs=true
theorem RK.nil (p:List Fn)(vars:Int)(pl:Bool):RK p vars pl [] 0:=⟨rfl,fun j hj=>by omega,by rw[Ex.deeps];omega,by rw[Ex.sizes];omega,fun _=>by rw[Oh]⟩
theorem RK.snoc {p:List Fn}{funcs vars:Int}{pl:Bool}{xs:List Ex}{i d:Nat}{l0 l1:Int}{x:Ex}(h:RK p vars pl xs i)(hf:funcs=((p.length:Nat):Int))(hd:d≤5)(hl:l0≤30)(hx:Py p funcs vars pl d l0 l1 x):RK p vars pl (xs++[x]) (i+1):=by
 have hlen:=h.len
 subst hf
 refine⟨by simp[hlen],fun j hj=>?_,?_,?_,fun hp=>?_⟩
 ·by_cases e:j=i
  ·subst e
   rw[H9 hlen.symm];exact hx.wf
  ·rw[GY (by omega)];exact h.wf j zO
 ·have h1:=h.dp;have h2:=hx.dp
  rw[Im];omega
 ·have h1:=h.sz;have h2:=hx.sz
  rw[Il];omega
 ·rw[NM,h.pl hp,hx.pl hp];rfl
def Dn (p:List Fn):Prop:=∀k,k<p.length→∃s∈MJ,(p.getD k Fn.zero).name=s++J8 k
theorem Dn.nil:Dn []:=fun k hk=>by simp at hk
theorem Dn.snoc {p:List Fn}{f:Fn}{s:ByteArray}(h:Dn p)(hs:s∈MJ)(hf:f.name=s++J8 p.length):Dn (p++[f]):=fun k hk=>by
 rw[List.length_append,List.length_singleton]at hk
 by_cases e:k<p.length
 ·rw[GY e];exact h k e
 ·rw[H9 zO,show k=p.length from by omega];exact⟨s,hs,hf⟩
theorem RK.fn {p:List Fn}{pl:Bool}{f:Fn}{s:ByteArray}{i:Nat}(h:LL p pl)(hd:Dn p)(hl:p.length≤9)(hp:1≤f.params∧f.params≤3)(hi:1≤i∧i≤3)(ho:RK p f.params pl f.outs i)
  (hs:s∈MJ) (hf:f.name=s++J8 p.length):LL (p++[f]) pl∧Dn (p++[f]) :=
 ⟨h.snoc zO hp (by rw[ho.len];exact hi) (fun j hj=>ho.wf j (by rw[← ho.len];exact hj)) ho.dp (by have:=ho.sz;omega) ho.pl (by rw[hf];exact TX s hs ⟨p.length,zO⟩) (fun k hk=>by
  obtain⟨t,ht,e⟩:=hd k hk
  rw[e,hf]
  exact TY t ht s hs ⟨k,zO⟩ ⟨p.length,zO⟩ (by show k≠p.length;omega)),hd.snoc hs hf⟩
theorem RM {x:ByteArray}(h:Value.string x∈[Value.string ⟨#[102]⟩,.string ⟨#[103]⟩,.string ⟨#[115,116,101,112]⟩,.string ⟨#[104,50]⟩]):x∈MJ:=by
 simp only[List.mem_cons,List.not_mem_nil,or_false,Value.string.injEq]at h
 rcases h with h|h|h|h <;> subst h <;> simp[MJ]
theorem aW:HK 5=47770:=by decide
theorem aX:Ml 5=1365:=by decide
theorem LL.npl {p:List Fn}{pl:Bool}(h:LL p pl):LL p false:=⟨h.len,h.par,h.outs,h.wf,h.dp,h.sz,fun h=>absurd h (by decide),h.nm,h.nw⟩
section res
variable {P:Program} {N:Nat} {ρ:Nat→Value} {w:World}
theorem RO:∀(l:List Nat),(((l.map ResultVar.tmp).mapM (m:=Sem) fun
  |.tmp t=>pure ((mk N ρ).tmps.getD t undef)
  |.cell a t=>do loadVar t (← asAddr ((mk N ρ).tmps.getD a undef)))).run P w=.ok (l.map fun t=>Bq N ρ (.tmp t)) w:=by
 intro l
 induction l with
 |nil=>rfl
 |cons t l ih =>
  simp only[List.map_cons,List.mapM_cons,Sem.run_bind,Sem.run_pure,Result.andThen_ok,Kl]at ih ⊢
  rw[ih]
  rfl
theorem JH {fn:Func}{R:Ending→World→Prop}{k s b t0:Nat}{ts:List Nat}{ty:TypeId}{cs:List Value}(vs:List Value)(hr:fn.results=(ResultVar.cell k ty::((t0::ts).map ResultVar.tmp)).toArray)(ha:EA P ty s=true)(hv:Bq N ρ (.tmp k)=.pointer (some ⟨b,0,none⟩))(hb:BX w.heap b cs)(hl:cs.length=s)
  (hvs:((t0::ts).map fun t=>Bq N ρ (.tmp t))=vs) (h:R (.returned (.tuple (.agg cs.toArray::vs).toArray)) w):bodyPost P fn R .ret (mk N ρ) w:=by
 subst hvs
 refine⟨rfl,_,?_,h⟩
 have hld:=IW (P:=P) ha (LD.of_box hb) hl
 have hg:(mk N ρ).tmps.getD k undef=.pointer (some ⟨b,0,none⟩):=by rw[Kl,hv]
 have hi:(asAddr (.pointer (some ⟨b,0,none⟩))).run P w=.ok ⟨b,0,none⟩ w:=rfl
 have key:=RO (P:=P) (N:=N) (ρ:=ρ) (w:=w) (t0::ts)
 unfold results
 rw[hr]
 simp only[List.mapM_toArray,Sem.run_bind,Sem.run_map]
 have hfull:(((ResultVar.cell k ty::((t0::ts).map ResultVar.tmp)).mapM (m:=Sem) fun
  |.tmp t=>pure ((mk N ρ).tmps.getD t undef)
  |.cell a t=>do loadVar t (← asAddr ((mk N ρ).tmps.getD a undef)))).run P w=.ok (.agg cs.toArray::((t0::ts).map fun t=>Bq N ρ (.tmp t))) w:=by
  rw[List.mapM_cons]
  simp only[Sem.run_bind,Sem.run_pure,hg,hi,hld,Result.andThen_ok]
  rw[key]
  rfl
 refine (congrArg (fun r=>(Result.andThen (Result.andThen r fun a w'=>Result.ok a.toArray w') fun a w'=>Result.ok (if h:a.size=1 then a[0]else Value.tuple a) w')) hfull).trans ?_
 simp only[Result.andThen_ok]
 rfl
end res
end
section
set_option linter.unusedSectionVars false
namespace Jx
section
variable [J:JR] {P:Program} {ops:Array Oper} {md:Region.Mode} {kd bs:Nat→Nat} {w0:World} {Q:Act→World→Prop}
theorem Ku {Q':Act→World→Prop}(h:∀a w,Q a w→Q' a w):∀(l:List Nat)(a:Act)(w:World),LI P ops kd w0 Q l a w→LI P ops kd w0 Q' l a w
 |[],a,w,hh=>h a w hh
 |i::l,a,w,hh=>by
  simp only[LI]at hh ⊢
  cases hoi:ops[i]? with
  |none=>rw[hoi]at hh;exact hh.elim
  |some o =>
   rw[hoi]at hh
   simp only at hh ⊢
   split
   ·rename_i hw
    rw[if_pos hw]at hh
    exact hh.mono fun a w=>Ku h l a w
   ·rename_i hw
    rw[if_neg hw]at hh
    exact Ku h l _ _ hh
theorem KV (s:List Nat):∀(l:List Nat)(a:Act)(w:World),LI P ops kd w0 (LI P ops kd w0 Q s) l a w→LI P ops kd w0 Q (l++s) a w
 |[],a,w,hh=>hh
 |i::l,a,w,hh=>by
  simp only[LI,List.cons_append]at hh ⊢
  cases hoi:ops[i]? with
  |none=>rw[hoi]at hh;exact hh.elim
  |some o =>
   rw[hoi]at hh
   simp only at hh ⊢
   split
   ·rename_i hw
    rw[if_pos hw]at hh
    exact hh.mono fun a w=>KV s l a w
   ·rename_i hw
    rw[if_neg hw]at hh
    exact KV s l _ _ hh
theorem DO {Q':Act→World→Prop}(hQ:∀a w,Q a w→Q' a w):∀(l:List Nat)(os:List Oper)(ks:List Nat)(a:Act)(w:World),Mt ops kd l os ks→LW P ops w0 Q os ks a w→LI P ops kd w0 Q' l a w
 |[],[],_,a,w,_,h=>by simpa [LI]using hQ a w (by simpa [LW]using h)
 |x::l,o::os,k::ks,a,w,⟨h0,hk,hM⟩,h=>by
  have hr:∀a w,LW P ops w0 Q os ks a w→LI P ops kd w0 Q' l a w:=fun a w hh=>DO hQ l os ks a w hM hh
  simp only[LI,h0,LW]at h ⊢
  split
  ·rename_i hw
   rw[if_pos hw]at h
   rw[hk]
   exact h.mono hr
  ·rename_i hw
   rw[if_neg hw]at h
   exact hr _ _ h
 |[],_::_,_,_,_,h,_=>h.elim
 |_::_,[],_,_,_,h,_=>h.elim
 |_::_,_::_,[],_,_,h,_=>h.elim
structure OE (ops:Array Oper)(kd bs:Nat→Nat)(w0:World)(L0 S:List Nat)(n:Nat)(l:List Nat)(listed:Array Bool)(w:World):Prop where
 sub:l.Sublist L0
 len:l.length+S.length=n
 mem:∀i,i∈l++S↔listed.getD i true=false
 sz:listed.size=ops.size
 clo:Ju bs listed
 inv:Nw kd w0 w (l++S)
 nd:(l++S).Nodup
variable {L0:List Nat}
theorem U2 {l:List Nat}(hp:l.Pairwise (fun x y=>4≤kd x→kd y≠1)):Nx kd l:=by
 intro l1 i l2 hl hk j hj
 subst hl
 exact List.rel_of_pairwise_cons (List.pairwise_append.1 hp).2.1 hj hk
theorem KW (hsel:∀(j:Nat)(o:Oper) cs b,ops[j]? = some o→o.op≠.select cs b)(hS:M7 md ops bs)
  (hlex:∀j oj,ops[j]? = some oj→∀e∈oj.after,Region.binds md e=true→e.on<j) {s:List Nat} (hp:(L0++s).Pairwise (Eb md ops kd bs)) (h14:(L0++s).Pairwise (fun x y=>4≤kd x→kd y≠1))
  (n:Nat) (l:List Nat) (listed:Array Bool) (a:Act) (w:World) (hC:OE ops kd bs w0 L0 s n l listed w) (h:LI P ops kd w0 (LI P ops kd w0 Q s) l a w):wpAny P md ops (NQ Q) n listed a w :=
 EZ hsel hS hlex n (l++s) listed a w (by rw[List.length_append];exact hC.len) (hp.sublist (List.Sublist.append_right hC.sub s)) hC.nd hC.sz hC.mem hC.clo
  (U2 (h14.sublist (List.Sublist.append_right hC.sub s))) hC.inv (KV s l a w h)
theorem JI (hsel:∀ (j:Nat) (o:Oper) cs b,ops[j]? = some o→o.op≠.select cs b) (hS:M7 md ops bs)
  (hlex:∀ j oj,ops[j]? = some oj→∀ e∈oj.after,Region.binds md e = true→e.on < j)
  {h1 h2:Nat} {S1 S2:List Nat} {Q1 Q2:Act→World→Prop} (hperm:(h1 :: S1).Perm (h2 :: S2)) (hk1:kd h1 = 3) (hk2:kd h2 = 3)
  (hl:∀ x∈L0,kd x≤2) (hL:L0.Pairwise (Eb md ops kd bs)) (hf1:∀ x∈L0,Eb md ops kd bs x h1) (hf2:∀ x∈L0,Eb md ops kd bs x h2)
  (hz:∀ z∈S1,z = h2∨(bs z).testBit h1 = true∨(bs z).testBit h2 = true)
  (hord:(L0++h1 :: S1).Pairwise (fun x y=>∀ ox,ops[x]? = some ox→∀ e∈ox.after,Region.binds md e = true→e.on≠y))
  (rec1:∀ n l listed a w,OE ops kd bs w0 L0 S1 n l listed w→LI P ops kd w0 Q1 l a w→wpAny P md ops (NQ Q) n listed a w)
  (rec2:∀ n l listed a w,OE ops kd bs w0 L0 S2 n l listed w→LI P ops kd w0 Q2 l a w→wpAny P md ops (NQ Q) n listed a w) :
  ∀ (n:Nat) (l:List Nat) (listed:Array Bool) (a:Act) (w:World),OE ops kd bs w0 L0 (h1 :: S1) n l listed w→LI P ops kd w0 (fun a w=>LI P ops kd w0 Q1 [h1] a w∧LI P ops kd w0 Q2 [h2] a w) l a w→wpAny P md ops (NQ Q) n listed a w
 | 0,l,listed,a,w,hC,h=>by have:=hC.len; simp at this
 | n + 1,l,listed,a,w,hC,h=>by
  have hm2:∀ i,i∈l++h1 :: S1↔i∈l++h2 :: S2:=fun i=>by
   simp only [List.mem_append]; rw [hperm.mem_iff]
  have hun_of:∀ i∈l++h1 :: S1,listed.getD i true = false:=fun i hi=>(hC.mem i).1 hi
  -- a place that makes memory is taken
  have heavy:∀ (x:Nat) (T:List Nat) (Qx:Act→World→Prop),kd x = 3→(h1 :: S1).Perm (x :: T)→(∀ y∈L0,Eb md ops kd bs y x)→LI P ops kd w0 Qx (l++[x]) a w →
    (∀ l' a' w' listed',OE ops kd bs w0 L0 T n l' listed' w'→LI P ops kd w0 Qx l' a' w'→wpAny P md ops (NQ Q) n listed' a' w') →
    ∀ (ox:Oper),ops[x]? = some ox→(∀ e∈ox.after,Region.binds md e = true→listed.getD e.on false = true)→wpOp P ops (NQ Q) x (wpAny P md ops (NQ Q) n (listed.setIfInBounds x true)) a w:=by
   intro x T Qx hkx hpx hfx hLx hrec ox hox hall
   have hbits:=Ek hS hC.clo hox hall
   have hxm:x∈l++h1 :: S1:=List.mem_append_right _ (hpx.mem_iff.2 (List.mem_cons_self ..))
   have hxu:=hun_of x hxm
   have hfree:=FJ (kd:=kd) (l1:=l) hox (fun y hy=>(hfx y<|hC.sub.subset hy).1) (fun y hy=>hun_of y<|List.mem_append_left _ hy) hbits
   have hsz:=CM hxu
   have hnd2:(l++x :: T).Nodup:=(List.Perm.append_left l hpx).nodup_iff.1 hC.nd
   have hxl:x∉l++T:=by
    have h1:=List.nodup_append.1 hnd2
    intro hmem
    rcases List.mem_append.1 hmem with hh | hh
    ·exact h1.2.2 x hh x (List.mem_cons_self ..) rfl
    ·exact (List.nodup_cons.1 h1.2.1).1 hh
   have hmT:∀ i,i∈l++x :: T↔listed.getD i true = false:=fun i=>by
    rw [← hC.mem i]; simp only [List.mem_append]; rw [hpx.mem_iff]
   have hcond:∀ w',(AG w w')→OE ops kd bs w0 L0 T n l (listed.setIfInBounds x true) w':=fun w' hE =>
    ⟨hC.sub,by have:=hC.len; have:=hpx.length_eq; simp at *; omega,HF hmT hxl hsz,by simpa using hC.sz,Gn hC.clo hbits,
     fun ⟨j,hj,hkj⟩=>(hC.inv ⟨j,by
      rcases List.mem_append.1 hj with hh | hh
      ·exact List.mem_append_left _ hh
      ·exact List.mem_append_right _ (hpx.mem_iff.2 (List.mem_cons_of_mem _ hh)),hkj⟩).trans hE,
     hnd2.sublist (List.Sublist.append_left (List.sublist_cons_self _ _) _)⟩
   obtain ⟨g1,g2⟩:=K2 (Q:=Qx) hsel hox zO l [] a w hfree (by simpa using hLx)
   unfold wpOp
   rw [hox]
   by_cases hw:Region.wanted ox (yielded ops a.tmps) = true
   ·simp only [hw,if_true]
    exact .inl<|Oper.wp_mono (fun a' w' hK=>hrec l a' w' _ (hcond w'<|hK.1 hkx) (by simpa using hK.2))<|IP<|g1 hw
   ·simp only [hw,Bool.false_eq_true,if_false]
    exact hrec l _ w _ (hcond w<|AG.refl w) (by simpa using g2 (by simpa using hw))
  refine ⟨fun h0=>?_,fun i hi=>?_⟩
  ·exfalso
   have hready:∀ (x:Nat) (t:List Nat),l++h1 :: S1 = x :: t→False:=fun x t ht=>by
    have hs:(x :: t).Pairwise (fun x y=>∀ ox,ops[x]? = some ox→∀ e∈ox.after,Region.binds md e = true→e.on≠y):=ht ▸ hord.sublist (List.Sublist.append_right hC.sub _)
    have:=Ih (md:=md) (i:=x) (l:=t) hC.sz (fun y=>ht ▸ hC.mem y) hlex (fun y hy ox hox=>(List.pairwise_cons.1 hs).1 y hy ox hox)
    rw [h0] at this
    cases this
   cases l with
   | nil=>exact hready _ _ rfl
   | cons x l=>exact hready x (l++h1 :: S1) rfl
  ·obtain ⟨hun,oi,hoi,hall⟩:=mem_ready.1 hi
   have hmem:=(hC.mem i).2 hun
   have hbits:=Ek hS hC.clo hoi hall
   by_cases hil:i∈l
   ·obtain ⟨l1,l2,rfl⟩:=List.append_of_mem hil
    have hpi:∀ x∈l1,Eb md ops kd bs x i:=fun x hx=>(List.pairwise_append.1 (hL.sublist hC.sub)).2.2 x hx i (List.mem_cons_self ..)
    have hfree:=FJ (kd:=kd) (l1:=l1) hoi (fun x hx=>(hpi x hx).1) (fun x hx=>hun_of x (by simp [hx])) hbits
    have hk:kd i≤2:=hl i (hC.sub.subset (by simp))
    have hsub0:(l1++l2).Sublist (l1++i :: l2):=List.Sublist.append_left (List.sublist_cons_self _ _) _
    have hnd1:(l1++i :: (l2++h1 :: S1)).Nodup:=by have:=hC.nd; rwa [List.append_assoc,List.cons_append] at this
    have hnot:i∉l1++(l2++h1 :: S1):=by
     have h1:=List.nodup_append.1 hnd1
     intro hmem
     rcases List.mem_append.1 hmem with hh | hh
     ·exact h1.2.2 i hh i (List.mem_cons_self ..) rfl
     ·exact (List.nodup_cons.1 h1.2.1).1 hh
    have hm1:∀ x,x∈l1++i :: (l2++h1 :: S1)↔listed.getD x true = false:=fun x=>by
     have:=hC.mem x; rwa [List.append_assoc,List.cons_append] at this
    have hcond:OE ops kd bs w0 L0 (h1 :: S1) n (l1++l2) (listed.setIfInBounds i true) w :=
     ⟨hsub0.trans hC.sub,by have:=hC.len; simp at *; omega,fun x=>by rw [List.append_assoc]; exact HF hm1 hnot (CM hun) x,by simpa using hC.sz,Gn hC.clo hbits,
      fun ⟨j,hj,hkj⟩=>hC.inv ⟨j,by
       rcases List.mem_append.1 hj with hh | hh
       ·exact List.mem_append_left _<|hsub0.subset hh
       ·exact List.mem_append_right _ hh,hkj⟩,
      hC.nd.sublist (List.Sublist.append_right hsub0 _)⟩
    obtain ⟨v,hv,hL'⟩:=I7 hsel hoi hk l1 l2 a w hfree (fun h1=>hC.inv ⟨i,by simp,h1⟩) h
    unfold wpOp
    rw [hoi]
    have rec_:=fun a' hh=>JI hsel hS hlex hperm hk1 hk2 hl hL hf1 hf2 hz hord rec1 rec2 n (l1++l2) (listed.setIfInBounds i true) a' w hcond hh
    rcases hv with ⟨hw,hy⟩ | ⟨hw,rfl⟩
    ·simp only [hw,if_true]
     exact .inl<|IQ (hy w (Cl.self fun h1=>hC.inv ⟨i,by simp,h1⟩))<|rec_ _ hL'
    ·simp only [hw,Bool.false_eq_true,if_false]
     exact rec_ _ hL'
   ·have hiS:i∈h1 :: S1:=(List.mem_append.1 hmem).resolve_left hil
    have h12:i = h1∨i = h2:=by
     rcases List.mem_cons.1 hiS with hh | hh
     ·exact .inl hh
     ·rcases hz i hh with hh | hh | hh
      ·exact .inr hh
      ·have q1:=hbits h1 hh
       have q2:=DJ<|hun_of h1 (by simp)
       rw [q1] at q2; cases q2
      ·have q1:=hbits h2 hh
       have q2:=DJ<|hun_of h2 ((hm2 h2).2 (by simp))
       rw [q1] at q2; cases q2
    rcases h12 with rfl | rfl
    ·exact heavy i S1 Q1 hk1 (List.Perm.refl _) hf1 (KV [i] l a w<|Ku (fun _ _ hh=>hh.1) l a w h) (fun l' a' w' li hc hh=>rec1 n l' li a' w' hc hh) oi hoi hall
    ·exact heavy i S2 Q2 hk2 hperm hf2 (KV [i] l a w<|Ku (fun _ _ hh=>hh.2) l a w h) (fun l' a' w' li hc hh=>rec2 n l' li a' w' hc hh) oi hoi hall
theorem MK (x:Nat)(l:List Nat)(a:Act)(w:World)(hh:LI P ops kd w0 Q (x::l) a w):LI P ops kd w0 (LI P ops kd w0 Q l) [x] a w:=by
 simp only[LI]at hh ⊢
 cases hoi:ops[x]? with
 |none=>rw[hoi]at hh;exact hh.elim
 |some o =>
  rw[hoi]at hh
  simp only at hh ⊢
  split
  ·rename_i hw
   rw[if_pos hw]at hh
   exact hh.mono fun a w h=>h
  ·rename_i hw
   rw[if_neg hw]at hh
   exact hh
end
def PC (ops:Array Oper)(x y:Nat):Bool:=match ops[x]? with|some ox=>ox.after.all fun e=>!Region.binds .any e || e.on != y|none=>true
def Yf (os:List Oper)(ks:List Nat)(L0:List Nat)(h1 g1:Nat)(r1:List Nat)(g2:Nat)(r2:List Nat)(h2:Nat)(r3:List Nat):Bool :=
  let ops:=os.toArray
  let b:=(Region.before ops).toList
  Region.noSelect ops &&
  (os.zipIdx.all fun(o,j) =>
    (o.after.all fun e=>!Region.binds .any e || decide (e.on<j)) &&
    (let m:=o.after.foldl (fun s e=>if Region.binds .any e then s ||| 2 ^ e.on ||| b.getD e.on 0 else s) 0
     (b.getD j 0 == m))) &&
  (decide (ks.getD h1 0=3) && (decide (ks.getD h2 0=3) && (decide (ks.getD g1 0=3) && decide (ks.getD g2 0=3)))) &&
  (L0.all fun x=>decide (ks.getD x 0≤2)) &&
  Qp (H7 ops ks b) L0 &&
  (L0.all fun x=>H7 ops ks b x h1 && (H7 ops ks b x h2 && (H7 ops ks b x g1 && H7 ops ks b x g2))) &&
  ((h1::g1::r1).isPerm (h2::r3) && (g1::r1).isPerm (g2::r2)) &&
  ((g1::r1).all fun z=>decide (z=h2) || ((b.getD z 0).testBit h1 || (b.getD z 0).testBit h2)) &&
  (r1.all fun z=>decide (z=g2) || ((b.getD z 0).testBit g1 || (b.getD z 0).testBit g2)) &&
  (Qp (PC ops) (L0++h1::g1::r1)) &&
  (Qp (H7 ops ks b) (L0++r1) && (Qp (H7 ops ks b) (L0++r2) && Qp (H7 ops ks b) (L0++r3))) &&
  (Qp (fun x y=>!(decide (4≤ks.getD x 0)) || ks.getD y 0 != 1) (L0++r1) && (Qp (fun x y=>!(decide (4≤ks.getD x 0)) || ks.getD y 0 != 1) (L0++r2) && Qp (fun x y=>!(decide (4≤ks.getD x 0)) || ks.getD y 0 != 1) (L0++r3))) &&
  (decide ((L0++h1::g1::r1).length=os.length) && (decide (L0++h1::g1::r1).Nodup && ((L0++h1::g1::r1).all (fun x=>decide (x<os.length)) && (List.range os.length).all fun x=>(L0++h1::g1::r1).contains x)))
section
variable [J:JR] {P:Program}
theorem Yg {id:Nat}{Q:Exit→Act→World→Prop}{a:Act}{w:World}(os:List Oper)(ks:List Nat)(L0:List Nat)(h1 g1:Nat)(r1:List Nat)(g2:Nat)(r2:List Nat)(h2:Nat)(r3:List Nat)
  (oL:List Oper) (kL:List Nat) (oh1 og1:Oper) (o1:List Oper) (k1:List Nat) (og2:Oper) (o2:List Oper) (k2:List Nat) (oh2:Oper) (o3:List Oper) (k3:List Nat) (hm:P.follows .mixedOrders=true) (hB:Yf os ks L0 h1 g1 r1 g2 r2 h2 r3=true)
  (hML:Mt os.toArray (fun i=>ks.getD i 0) L0 oL kL) (hMh:Mt os.toArray (fun i=>ks.getD i 0) [h1] [oh1] [3]) (hM1:Mt os.toArray (fun i=>ks.getD i 0) (g1::r1) (og1::o1) (3::k1)) (hM2:Mt os.toArray (fun i=>ks.getD i 0) (g2::r2) (og2::o2) (3::k2)) (hM3:Mt os.toArray (fun i=>ks.getD i 0) (h2::r3) (oh2::o3) (3::k3))
  (h:LW P os.toArray w.drew (fun a' w'=>LW P os.toArray w.drew (fun a'' w''=>LW P os.toArray w.drew (fun a w=>Q .normal a w) (og1::o1) (3::k1) a'' w''∧LW P os.toArray w.drew (fun a w=>Q .normal a w) (og2::o2) (3::k2) a'' w'') [oh1] [3] a' w' ∧
   LW P os.toArray w.drew (fun a w=>Q .normal a w) (oh2::o3) (3::k3) a' w') oL kL a w.drew):(Code.region id os.toArray true).wp P Q a w:=by
 refine wp_region_any hm ?_
 simp only[Yf,Bool.and_eq_true,decide_eq_true_eq]at hB
 obtain⟨⟨⟨⟨⟨⟨⟨⟨⟨⟨⟨⟨hsel,hpl⟩,hk1,hk2,hk3,hk4⟩,hl⟩,hpL⟩,hpx⟩,hpe1,hpe2⟩,hz1⟩,hz2⟩,hord⟩,hb1,hb2,hb3⟩,hn1,hn2,hn3⟩,hln,hnd,hlt,hct⟩:=hB
 have hz:∀ {j:Nat} {o:Oper},os.toArray[j]? = some o→(o,j)∈os.zipIdx:=by
  intro j o ho
  rw[List.mem_zipIdx_iff_getElem?]
  simpa using ho
 have hall:∀j oj,os.toArray[j]? = some oj→_:=fun j oj hj=>List.all_eq_true.1 hpl _ (hz hj)
 have hlex:∀j oj,os.toArray[j]? = some oj→∀e∈oj.after,Region.binds .any e=true→e.on<j:=by
  intro j oj hj e he hb
  have h1:=(Bool.and_eq_true _ _ ▸ hall j oj hj:_∧_).1
  have h2:=(Array.all_eq_true_iff_forall_mem.1 h1) e he
  simpa [hb]using h2
 have hS:M7 .any os.toArray (fun j=>(Region.before os.toArray).toList.getD j 0):=by
  intro j oj hj i hb
  have h3:=(Bool.and_eq_true _ _ ▸ hall j oj hj:_∧_).2
  have h5:(Region.before os.toArray).toList.getD j 0=oj.after.foldl (fun s e=>if Region.binds .any e then s ||| 2 ^ e.on ||| (Region.before os.toArray).toList.getD e.on 0 else s) 0:=by simpa using h3
  dsimp only at hb
  rw[h5,← Array.foldl_toList]at hb
  rcases Gp _ _ _ _ hb with hb|⟨e,he,hbb,hh⟩
  ·simp at hb
  ·exact⟨e,Array.mem_toList_iff.1 he,hbb,hh⟩
 have hmem:∀x,x∈L0++h1::g1::r1↔x<os.length:=fun x=>by
  constructor
  ·intro hx;exact of_decide_eq_true (List.all_eq_true.1 hlt x hx)
  ·intro hx
   have:=List.all_eq_true.1 hct x (List.mem_range.2 hx)
   simpa using this
 have hse:=Region.noSelect_spec hsel
 have P2:∀ {l:List Nat},Qp (H7 os.toArray ks (Region.before os.toArray).toList) l=true→l.Pairwise (Eb .any os.toArray (fun i=>ks.getD i 0) (fun j=>(Region.before os.toArray).toList.getD j 0)):=fun h=>IS (fun x y hh=>Ff hh) h
 have N2:∀ {l:List Nat},Qp (fun x y=>!(decide (4≤ks.getD x 0)) || ks.getD y 0 != 1) l=true→l.Pairwise (fun x y=>4≤ks.getD x 0→ks.getD y 0≠1):=fun h=>IS (fun x y hxy h4=>by
  rcases Bool.or_eq_true_iff.1 hxy with hh|hh
  ·simp only[Bool.not_eq_true',decide_eq_false_iff_not]at hh;exact absurd h4 hh
  ·simpa using hh) h
 have hL2:∀x∈L0,ks.getD x 0≤2:=fun x hx=>of_decide_eq_true (List.all_eq_true.1 hl x hx)
 have hx4:∀x∈L0,_:=fun x hx=>List.all_eq_true.1 hpx x hx
 simp only[Bool.and_eq_true]at hx4
 have hordP:(L0++h1::g1::r1).Pairwise (fun x y=>∀ox,os.toArray[x]? = some ox→∀e∈ox.after,Region.binds .any e=true→e.on≠y):=IS (fun x y hh ox hox e he hb=>by
  unfold PC at hh
  rw[hox]at hh
  have:=(Array.all_eq_true_iff_forall_mem.1 hh) e he
  simpa [hb]using this) hord
 have hord2:(L0++g1::r1).Pairwise (fun x y=>∀ox,os.toArray[x]? = some ox→∀e∈ox.after,Region.binds .any e=true→e.on≠y):=hordP.sublist (List.Sublist.append_left (List.sublist_cons_self _ _) _)
 have zz1:∀z∈g1::r1,z=h2∨((Region.before os.toArray).toList.getD z 0).testBit h1=true∨((Region.before os.toArray).toList.getD z 0).testBit h2=true:=fun z hz=>by
  have:=List.all_eq_true.1 hz1 z hz
  simpa only[Bool.or_eq_true,decide_eq_true_eq]using this
 have zz2:∀z∈r1,z=g2∨((Region.before os.toArray).toList.getD z 0).testBit g1=true∨((Region.before os.toArray).toList.getD z 0).testBit g2=true:=fun z hz=>by
  have:=List.all_eq_true.1 hz2 z hz
  simpa only[Bool.or_eq_true,decide_eq_true_eq]using this
 have base1:=KW (P:=P) (w0:=w.drew) (Q:=fun a w=>Q .normal a w) hse hS hlex (P2 hb1)<|N2 hn1
 have base2:=KW (P:=P) (w0:=w.drew) (Q:=fun a w=>Q .normal a w) hse hS hlex (P2 hb2)<|N2 hn2
 have base3:=KW (P:=P) (w0:=w.drew) (Q:=fun a w=>Q .normal a w) hse hS hlex (P2 hb3)<|N2 hn3
 have inner:=JI (P:=P) (w0:=w.drew) (Q:=fun a w=>Q .normal a w) hse hS hlex (h1:=g1) (h2:=g2) (S1:=r1) (S2:=r2) (List.isPerm_iff.1 hpe2) hk3 hk4 hL2 (P2 hpL) (fun x hx=>Ff (hx4 x hx).2.2.1) (fun x hx=>Ff (hx4 x hx).2.2.2) zz2 hord2 base1 base2
 have outer:=JI (P:=P) (w0:=w.drew) (Q:=fun a w=>Q .normal a w) hse hS hlex (h1:=h1) (h2:=h2) (S1:=g1::r1) (S2:=r3) (List.isPerm_iff.1 hpe1) hk1 hk2 hL2 (P2 hpL) (fun x hx=>Ff (hx4 x hx).1) (fun x hx=>Ff (hx4 x hx).2.1) zz1 hordP inner base3
 have key:=outer os.length L0 (Array.replicate os.length false) a w.drew ⟨List.Sublist.refl _,by rw[← hln,List.length_append],fun x=>?_,by simp,?_,fun _=>AG.refl _,hnd⟩ ?_
 ·have:=Ii _ _ _ _ key
  simpa using this
 ·rw[hmem]
  constructor
  ·intro hx;simp[hx]
  ·intro hh
   rcases Nat.lt_or_ge x os.length with h'|h'
   ·exact h'
   ·simp[Array.getElem?_eq_none (show(Array.replicate os.length false).size≤x by simpa using h')]at hh
 ·intro i hi
  rcases Nat.lt_or_ge i os.length with h'|h'
  ·simp[h']at hi
  ·simp[Array.getElem?_eq_none (show(Array.replicate os.length false).size≤i by simpa using h')]at hi
 ·refine DO (fun a w hh=>⟨?_,?_⟩) _ _ _ _ _ hML h
  ·exact DO (fun a w hh=>⟨MK _ _ _ _<|DO (fun _ _ h=>h) _ _ _ _ _ hM1 hh.1,MK _ _ _ _<|DO (fun _ _ h=>h) _ _ _ _ _ hM2 hh.2⟩) _ _ _ _ _ hMh hh.1
  ·exact MK _ _ _ _<|DO (fun _ _ h=>h) _ _ _ _ _ hM3 hh.2
theorem cU {ops:Array Oper}{w0:World}{Q:Act→World→Prop}{o:Oper}{os:List Oper}{ks:List Nat}{a:Act}{w:World}(h:_root_.Go.Proofs.YtbajepcpgncekaaGreat.LW P ops w0 (fun a' w'=>AG w w'∧LW P ops w0 Q os ks a' w') [o] [4] a w):LW P ops w0 Q (o::os) (3::ks) a w:=by
 simp only[_root_.Go.Proofs.YtbajepcpgncekaaGreat.LW]at h
 simp only[LW]
 split
 ·rename_i hw
  rw[if_pos hw]at h
  unfold _root_.Go.Proofs.YtbajepcpgncekaaGreat.BB at h
  unfold BB
  rw[if_neg (by decide),if_neg (by decide)]at h
  rw[if_neg (by decide),if_pos rfl]
  exact h
 ·rename_i hw
  rw[if_neg hw]at h
  exact h.2
theorem aY {ops:Array Oper}{w0:World}{Q:Act→World→Prop}{o:Oper}{os:List Oper}{ks:List Nat}{a:Act}{w:World}(h:_root_.Go.Proofs.YtbajepcpgncekaaGreat.LW P ops w0 (fun a' w'=>LW P ops w0 Q os ks a' w') [o] [3] a w):LW P ops w0 Q (o::os) (3::ks) a w:=by
 simp only[_root_.Go.Proofs.YtbajepcpgncekaaGreat.LW]at h
 simp only[LW]
 split
 ·rename_i hw
  rw[if_pos hw]at h
  unfold _root_.Go.Proofs.YtbajepcpgncekaaGreat.BB at h
  unfold BB
  rw[if_neg (by decide),if_pos rfl]at h
  rw[if_neg (by decide),if_pos rfl]
  exact Oper.wp_mono (fun a w hh=>⟨J.ext hh.1,hh.2⟩) h
 ·rename_i hw
  rw[if_neg hw]at h
  exact h
end
end Jx
end
section
structure AD where
 op:Int
 a:Int
 b:Int
 num:Int
def AD.zero:AD:=⟨0,0,0,0⟩
structure Is where
 reg:Int
 z:Bool
def Is.zero:Is:=⟨0,false⟩
structure Tp where
 code:List AD
 grd:List Is
 vals:List Int
def aK (x:AD):List Value:=[.int .i64 x.op,.int .i64 x.a,.int .i64 x.b,.int .i64 x.num]
def aL (x:Is):List Value:=[.int .i64 x.reg,.bool x.z]
def RQ (x:AD):Prop:=Bw x.op∧Bw x.a∧Bw x.b∧Bw x.num
def Oi:BV AD:=fun _ cs x F=>cs=aK x∧RQ x∧F=[]
def Oj:BV Is:=fun _ cs x F=>cs=aL x∧Bw x.reg∧F=[]
theorem B5:Cw 4 Oi where
 len:=fun h=>by rw[h.1];rfl
 one:=fun h u hu=>by
  rw[h.1]at hu
  simp only[aK,List.mem_cons,List.not_mem_nil,or_false]at hu
  rcases hu with rfl|rfl|rfl|rfl <;> exact⟨rfl,rfl⟩
 lt:=fun h b hb=>by rw[h.2.2]at hb;cases hb
 stable:=fun h _=>h
theorem Bd:Cw 2 Oj where
 len:=fun h=>by rw[h.1];rfl
 one:=fun h u hu=>by
  rw[h.1]at hu
  simp only[aL,List.mem_cons,List.not_mem_nil,or_false]at hu
  rcases hu with rfl|rfl <;> exact⟨rfl,rfl⟩
 lt:=fun h b hb=>by rw[h.2.2]at hb;cases hb
 stable:=fun h _=>h
theorem RR {B U:Nat}{H:Array Obj}{x:AD}(h:RQ x):Qs Oi B U H (aK x) x:=⟨[],⟨rfl,h,rfl⟩,List.nodup_nil,fun b hb=>by cases hb⟩
theorem Xo {B U:Nat}{H:Array Obj}{x:Is}(h:Bw x.reg):Qs Oj B U H (aL x) x:=⟨[],⟨rfl,h,rfl⟩,List.nodup_nil,fun b hb=>by cases hb⟩
section ops
variable {P:Program} {ops:Array Oper} {w0:World} {Q:Act→World→Prop} {os:List Oper} {ks:List Nat} {N:Nat} {ρ:Nat→Value} {w:World}
 {d:Nat} {ty:TypeId} {pos:String} {aft:Array Edge} {g:Option (Nat×Bool)} {t e:TypeId} {z:Value} {b s:Nat}
theorem ML {α:Type}{E:BV α}(hE:Cw s E){x y:Operand}{v a:Value}{xs:List α}{y0:α}{B T B' U':Nat}{F:List Nat}(ht:P.underlying t=some (.slice e))(hi:TI P e s z b)(hz:z.cells.size=s)(hs:0<s)(hx:Bq N ρ x=v)(hy:Bq N ρ y=a)(hv:Ow (Fe s E e) B T w.heap v xs F)
  (ha:Fr (Fe s E e) B' U' w.heap a [y0]) (hT:T≤B') (hB:B≤B') (hBw:B≤w.heap.size) (hbytes:(xs.length+1)*b≤140737488355328) (hmx:xs.length+1≤maxLen) (hu:Up ops N ρ ⟨some d,.call ⟨.builtin .append,#[x,y],#[t,t]⟩,ty,pos,aft,g⟩)
  (h:∀v1 w1 F1,At F w w1→Ow (Fe s E e) B w1.heap.size w1.heap v1 (xs++[y0]) F1→(∀c∈F1,c∈F∨(B'≤c∧c<U')∨w.heap.size≤c)→LW P ops w0 Q os ks (mk N (CN ρ d v1)) w1) :
  LW P ops w0 Q (⟨some d,.call ⟨.builtin .append,#[x,y],#[t,t]⟩,ty,pos,aft,g⟩::os) (4::ks) (mk N ρ) w:=by
 obtain⟨v1,w1,F0,r1,⟨F1,r2,r3,r4⟩,r5,r6⟩:=ND (P:=P) (ty:=ty) hE ht hi hz hs (S:=fun b=>b∈F) (T:=fun b=>B'≤b∧b<U') ⟨F,hv.own,hv.nodup,fun _ h=>h⟩ ha (fun b h1 h2=>by have:=hv.high b h1;omega) hbytes hmx
 have hh:∀c∈F1,c∈F∨(B'≤c∧c<U')∨w.heap.size≤c:=fun c hc=>by
  rcases r4 c hc with h|h|h
  ·exact .inl h
  ·exact .inr<|.inl h
  ·exact .inr<|.inr<|Nat.le_of_eq h.symm
 exact Jw rfl hu v1 w1 (by simp only[execOp,resolve,invoke,builtin,List.map_toArray,List.map_cons,List.map_nil,Sem.run_bind,Sem.run_pure,Result.andThen_ok,hx,hy,r1])
  (h v1 w1 F1 (r5.sub r6) ⟨r2,r3,fun c hc=>by
   rcases hh c hc with h|h|h
   ·exact hv.low c h
   ·omega
   ·omega,fun c hc=>(As hE).lt r2 c hc⟩ hh)
theorem KX {x y:Operand}{v a:Value}{xs ys:List Int}{B T:Nat}{F:List Nat}(ht:P.underlying t=some (.slice e))(hi:TI P e 1 z b)(hz:z.cells=#[z])(hx:Bq N ρ x=v)(hy:Bq N ρ y=a)(hv:Ow (Bt rI e) B T w.heap v xs F)
  (ha:Rd (B2 rI) w.heap a ys) (hB:B≤w.heap.size) (hbytes:(xs.length+ys.length)*b≤140737488355328) (hmx:xs.length+ys.length≤maxLen) (hu:Up ops N ρ ⟨some d,.call ⟨.builtin .append,#[x,y],#[t,t]⟩,ty,pos,aft,g⟩)
  (h:∀v1 w1 F1,At F w w1→Ow (Bt rI e) B w1.heap.size w1.heap v1 (xs++ys) F1→(∀c∈F1,c∈F∨w.heap.size≤c)→LW P ops w0 Q os ks (mk N (CN ρ d v1)) w1) :
  LW P ops w0 Q (⟨some d,.call ⟨.builtin .append,#[x,y],#[t,t]⟩,ty,pos,aft,g⟩::os) (4::ks) (mk N ρ) w:=by
 obtain⟨G,g1⟩:=ha
 have hG:G.drop 1=[]:=by
  rcases g1 with⟨_,_,_,_,rfl⟩|⟨us,g,off,cap,cur,e',fr,G',hels,_,_,_,_,rfl⟩
  ·rfl
  ·exact Ik hels
 obtain⟨v',w',F',r1,r2,r3,r4,r5⟩:=IV (P:=P) (ty:=ty) AK ht hi hz hv.own hv.nodup g1 rfl hbytes hmx (fun c hc=>by rw[hG]at hc;cases hc) (by rw[hG];exact List.nodup_nil)
 have hh:∀c∈F',c∈F∨w.heap.size≤c:=fun c hc=>by
  rcases r4 c hc with h|h|h
  ·exact .inl h
  ·rw[hG]at h;cases h
  ·exact .inr<|Nat.le_of_eq h.symm
 exact Jw rfl hu v' w' (by simp only[execOp,resolve,invoke,builtin,List.map_toArray,List.map_cons,List.map_nil,Sem.run_bind,Sem.run_pure,Result.andThen_ok,hx,hy,r1])
  (h v' w' F' (r5.sub fun c hc=>List.mem_of_mem_take hc) ⟨r2,r3,fun c hc=>by
   rcases hh c hc with h|h
   ·exact hv.low c h
   ·omega,fun c hc=>(Bc AK).lt r2 c hc⟩ hh)
theorem U3 {x y:Operand} {v a u:Value} {xs:List Int} {r:Int} {S:List Nat} {B' U':Nat} (ht:P.underlying t = some (.slice e)) (hi:TI P e 1 z b) (hz:z.cells = #[z]) (hx:Bq N ρ x = DQ v) (hy:Bq N ρ y = a)
  (hv:RN S (B2 rI) w.heap v xs) (ha:Fr (Bt rV e) B' U' w.heap a [u]) (hr:RN S rI w.heap u r) (hS:∀ c∈S,c < w.heap.size) (hbytes:(xs.length + 1) * b≤140737488355328) (hmx:xs.length + 1≤maxLen)
  (hu:Up ops N ρ ⟨some d,.call ⟨.builtin .append,#[x,y],#[t,t]⟩,ty,pos,aft,g⟩)
  (h:∀ v1 w1,AG w w1→RN S (B2 rI) w1.heap v1 (xs++[r])→Ci v1→LW P ops w0 Q os ks (mk N (CN ρ d v1)) w1) :
  LW P ops w0 Q (⟨some d,.call ⟨.builtin .append,#[x,y],#[t,t]⟩,ty,pos,aft,g⟩ :: os) (4 :: ks) (mk N ρ) w:=by
 obtain ⟨G,g1',g2',g3'⟩:=ha
 obtain ⟨K,k1,k2⟩:=hv
 obtain ⟨R,r1,r2⟩:=hr
 obtain ⟨i,h1,h2,h3,h4⟩:=hi.get
 subst h4
 have hone:=AK.one r1
 rcases g1' with ⟨_,hc,_⟩ | ⟨asq,ga,capa,cura,Fa,helsa,hav,hga,qa1,qa2,qa3,qa4,rfl⟩
 ·cases hc
 ·obtain ⟨hq,hFa⟩:=FL helsa
  subst hq
  subst hav
  have hnews:∀ j q,[u][j]? = some q→w.cell? ((⟨ga,0,none⟩:Addr).add j) = some q:=by
   intro j q hj
   rw [Fk,BF]
   simp only [BQ,hga]
   rw [← qa4,List.getElem?_take] at hj
   split at hj
   ·simpa using hj
   ·cases hj
  have made:∀ (w1:World) (ous:List Value) (K0:List Nat) (rest:Nat),w1.heap = w.heap→w1.os = w.os→w1.tape = w.tape→w1.output = w.output→els rI w.heap ous xs K0→(∀ c∈K0,c∈K)→xs.length + 1 + rest≤maxLen →
    AG w (w1.alloc (.cells (ous.toArray++[u].toArray++Builtin.zeroCells z.cells rest) e))∧RN S (B2 rI) (w1.alloc (.cells (ous.toArray++[u].toArray++Builtin.zeroCells z.cells rest) e)).heap (.slice (some ⟨w.heap.size,0,none⟩) (xs.length + 1) (xs.length + 1 + rest)) (xs++[r]):=by
   intro w1 ous K0 rest hh ho htp hop hou hsub hmax
   have hE:AG w (w1.alloc (.cells (ous.toArray++[u].toArray++Builtin.zeroCells z.cells rest) e)):=by
    refine ⟨ho,htp,hop,?_,fun k hk=>?_⟩
    ·show w.heap.size≤(w1.heap.push _).size
     rw [hh]; simp
    ·have:=Below.heap_alloc w1 (.cells (ous.toArray++[u].toArray++Builtin.zeroCells z.cells rest) e) k (by rw [hh]; exact hk)
     rw [this,hh]
   refine ⟨hE,w.heap.size :: (K0++R),.inr ⟨ous++[u],w.heap.size,0,xs.length + 1 + rest,(ous.toArray++[u].toArray++Builtin.zeroCells z.cells rest),e,(0,0),K0++R,?_,by simp,?_,?_,by simp; omega,rfl⟩,?_⟩
   ·refine els.stable AK (hou.append (show els rI w.heap [u] [r] R from ⟨R,[],by simp,r1,rfl⟩)) fun c hc=>hE.heap ?_
    exact (hou.append (show els rI w.heap [u] [r] R from ⟨R,[],by simp,r1,rfl⟩)).lt AK c hc
   ·have:=heap_alloc_new w1 (.cells (ous.toArray++[u].toArray++Builtin.zeroCells z.cells rest) e)
    rw [hh] at this; exact this
   ·have hl:=hou.length
    simp only [Array.toList_append,List.drop_zero]
    rw [show (xs++[r]).length = (ous++[u]).length from by simp [hl]]
    exact List.take_left
   ·intro c hc hm
    rcases List.mem_cons.1 hc with rfl | hc
    ·have:=hS _ hm; omega
    ·rcases List.mem_append.1 hc with hc | hc
     ·exact k2 c (hsub c hc) hm
     ·exact r2 c hc hm
  have hone1:[u].length = [u].length * i.size:=by rw [h3,Nat.mul_one]
  rcases k1 with ⟨a0,cap0,rfl,rfl,rfl⟩ | ⟨ous,gv,off,cap,cur,e',fr,K',hels,rfl,hg,hw,_,rfl⟩
  ·-- nothing so far
   cases a0 with
   | none =>
    have hrr:=run_append_nil (P:=P) w t ty e i z ht h1 h2 ⟨ga,0,none⟩ 1 capa [u] hone1 hnews (by decide) (by decide) (by simp at hbytes; omega)
    have hge:=grownCap_ge w 1 0 e
    have hgm:=grownCap_le_maxLen w 1 0 e (by simpa using hmx)
    obtain ⟨q1,q2⟩:=made w.drew [] [] (grownCap w 1 0 e - 1) rfl rfl rfl rfl rfl (fun c hc=>by cases hc) (by simp; omega)
    refine Jw rfl hu _ _ (by simp only [execOp,resolve,invoke,builtin,List.map_toArray,List.map_cons,List.map_nil,Sem.run_bind,Sem.run_pure,Result.andThen_ok,hx,hy,DQ]; rw [show [u].length = 1 from rfl,hrr]; rfl)<|h _ _ ?_ ?_ ?_
    ·simpa using q1
    ·have ea:(([]:List Int).length + 1 + (grownCap w 1 0 e - 1)) = grownCap w 1 0 e:=by simp; omega
     rw [ea] at q2
     simpa using q2
    ·exact hge
   | some a1 =>
    have hrr:=run_append_grow (P:=P) w t ty e i z ht h1 h2 a1 0 0 [] (by rw [h3]; rfl) (by intro j q hj; cases hj) ⟨ga,0,none⟩ 1 capa [u] hone1 hnews zO (by decide)<|growslice_fits zO (by simpa using hbytes)
    have hge:=grownCap_ge w (0 + 1) 0 e
    have hgm:=grownCap_le_maxLen w (0 + 1) 0 e (by simpa using hmx)
    obtain ⟨q1,q2⟩:=made w.drew [] [] (grownCap w (0 + 1) 0 e - (0 + 1)) rfl rfl rfl rfl rfl (fun c hc=>by cases hc) (by show 0 + 1 + (grownCap w (0 + 1) 0 e - (0 + 1))≤maxLen; omega)
    refine Jw rfl hu _ _ (by simp only [execOp,resolve,invoke,builtin,List.map_toArray,List.map_cons,List.map_nil,Sem.run_bind,Sem.run_pure,Result.andThen_ok,hx,hy,DQ]; rw [show [u].length = 1 from rfl,hrr]; rfl)<|h _ _ q1 ?_ ?_
    rotate_left
    ·exact hge
    have ea:(([]:List Int).length + 1 + (grownCap w (0 + 1) 0 e - (0 + 1))) = grownCap w (0 + 1) 0 e:=by show 0 + 1 + (grownCap w (0 + 1) 0 e - (0 + 1)) = _; omega
    rw [ea] at q2
    simpa using q2
  ·have holds:∀ j q,ous[j]? = some q→w.cell? ((⟨gv,off,none⟩:Addr).add j) = some q:=by
    intro j q hj
    rw [Fk,BF]
    simp only [BQ,hg]
    rw [← hw,List.getElem?_take] at hj
    split at hj
    ·rw [List.getElem?_drop] at hj; simpa using hj
    ·cases hj
   have hrr:=run_append_grow (P:=P) w t ty e i z ht h1 h2 ⟨gv,off,none⟩ xs.length xs.length ous (by rw [h3,hels.length]; omega) holds ⟨ga,0,none⟩ 1 capa [u] hone1 hnews zO (by simp only [maxLen] at hmx; omega)<|growslice_fits zO hbytes
   have hge:=grownCap_ge w (xs.length + 1) xs.length e
   have hgm:=grownCap_le_maxLen w (xs.length + 1) xs.length e hmx
   obtain ⟨q1,q2⟩:=made w.drew ous K' (grownCap w (xs.length + 1) xs.length e - (xs.length + 1)) rfl rfl rfl rfl hels (fun c hc=>List.mem_cons_of_mem _ hc) zO
   refine Jw rfl hu _ _ (by simp only [execOp,resolve,invoke,builtin,List.map_toArray,List.map_cons,List.map_nil,Sem.run_bind,Sem.run_pure,Result.andThen_ok,hx,hy,DQ]; rw [show [u].length = 1 from rfl,hrr]; rfl)<|h _ _ q1 ?_ ?_
   rotate_left
   ·exact hge
   have ea:(xs.length + 1 + (grownCap w (xs.length + 1) xs.length e - (xs.length + 1))) = grownCap w (xs.length + 1) xs.length e:=by omega
   rw [ea] at q2
   exact q2
end ops
def Cp (t1 t2 t3:TypeId)(S:List Nat)(g:Nat)(H:Array Obj)(vc vg vv:Value)(T:Tp):Prop :=
 ∃Fc Fg Fv,Ow (Fe 4 Oi t1) 0 H.size H vc T.code Fc∧Ow (Fe 2 Oj t2) 0 H.size H vg T.grd Fg∧Ow (Bt rI t3) 0 H.size H vv T.vals Fv ∧
  ((∀b∈Fc,b∉Fg)∧(∀b∈Fc,b∉Fv)∧(∀b∈Fg,b∉Fv))∧(g∉Fc∧g∉Fg∧g∉Fv)∧(∀b∈Fc,b∈S)∧(∀b∈Fg,b∈S)∧(∀b∈Fv,b∈S)
section rcm
variable {t1 t2 t3:TypeId} {S S':List Nat} {g:Nat} {w w':World} {vc vg vv:Value} {T:Tp}
theorem Ow.chgS {α:Type}{E:Bo α}(hE:BZ E){B:Nat}{v:Value}{x:α}{F G:List Nat}(h:Ow E B w.heap.size w.heap v x F)(c:At G w w')(hG:∀b∈G,b∉F):Ow E B w'.heap.size w'.heap v x F:=(h.keep hE c hG).up c.size
theorem Cp.ext (h:Cp t1 t2 t3 S g w.heap vc vg vv T)(k:AG w w'):Cp t1 t2 t3 S g w'.heap vc vg vv T:=by
 obtain⟨Fc,Fg,Fv,h1,h2,h3,h4⟩:=h
 exact⟨Fc,Fg,Fv,(h1.ext (As B5) k).up k.size,(h2.ext (As Bd) k).up k.size,(h3.ext (Bc AK) k).up k.size,h4⟩
theorem Cp.chg (h:Cp t1 t2 t3 S g w.heap vc vg vv T)(k:At [g] w w'):Cp t1 t2 t3 S g w'.heap vc vg vv T:=by
 obtain⟨Fc,Fg,Fv,h1,h2,h3,h4,h5,h6⟩:=h
 exact⟨Fc,Fg,Fv,h1.chgS (As B5) k fun b hb hm=>by rw[A9 hb]at hm;exact h5.1 hm,h2.chgS (As Bd) k fun b hb hm=>by rw[A9 hb]at hm;exact h5.2.1 hm,
  h3.chgS (Bc AK) k fun b hb hm=>by rw[A9 hb]at hm;exact h5.2.2 hm,h4,h5,h6⟩
theorem Cp.chgO {F:List Nat}(h:Cp t1 t2 t3 S g w.heap vc vg vv T)(k:At F w w')(hF:∀b∈F,b∉S):Cp t1 t2 t3 S g w'.heap vc vg vv T:=by
 obtain⟨Fc,Fg,Fv,h1,h2,h3,h4,h5,h6⟩:=h
 exact⟨Fc,Fg,Fv,h1.chgS (As B5) k fun b hb hm=>hF b hb (h6.1 b hm),h2.chgS (As Bd) k fun b hb hm=>hF b hb (h6.2.1 b hm),
  h3.chgS (Bc AK) k fun b hb hm=>hF b hb (h6.2.2 b hm),h4,h5,h6⟩
theorem Cp.rdv (h:Cp t1 t2 t3 S g w.heap vc vg vv T):Rd (B2 rI) w.heap vv T.vals:=by
 obtain⟨Fc,Fg,Fv,h1,h2,h3,_⟩:=h
 exact h3.fr.rd1
theorem Cp.slv (h:Cp t1 t2 t3 S g w.heap vc vg vv T):ET vv T.vals.length:=by
 obtain⟨Fc,Fg,Fv,h1,h2,h3,_⟩:=h
 exact h3.fr.isSl
theorem Cp.slc (h:Cp t1 t2 t3 S g w.heap vc vg vv T):ET vc T.code.length:=by
 obtain⟨Fc,Fg,Fv,h1,h2,h3,_⟩:=h
 exact h1.own.isSl
theorem Cp.slg (h:Cp t1 t2 t3 S g w.heap vc vg vv T):ET vg T.grd.length:=by
 obtain⟨Fc,Fg,Fv,h1,h2,h3,_⟩:=h
 exact h2.own.isSl
end rcm
def QM (t1 t2 t3:TypeId)(S:List Nat)(g:Nat)(H:Array Obj)(vp:Value)(ip:Int)(T:Tp)(s:Nat)(c:Int):Prop :=
 ∃vc vg vv,BX H g [vp,.int .i64 ip,vc,vg,.slice none 0 0,vv,.int .i64 ((s:Nat):Int),.int .i64 c]∧Cp t1 t2 t3 S g H vc vg vv T
theorem RN.stp {α:Type}{E:Bo α}(hE:BZ E){S S':List Nat}{w w':World}{v:Value}{x:α}(h:RN S E w.heap v x)(c:At S w w')(hs:∀b∈S',b∈S∨w.heap.size≤b):RN S' E w'.heap v x:=by
 obtain⟨F,h1,h2⟩:=h
 refine⟨F,hE.stable h1 fun b hb=>c.block b (hE.lt h1 b hb) (h2 b hb),fun b hb hm=>?_⟩
 rcases hs b hm with hh|hh
 ·exact h2 b hb hh
 ·have:=hE.lt h1 b hb;omega
theorem At.stp {S S':List Nat}{a b c:World}(h:At S a b)(k:At S' b c)(hs:∀x∈S',x∈S∨a.heap.size≤x):At S a c :=
 ⟨k.os.trans h.os,k.tape.trans h.tape,k.output.trans h.output,A8 h.size k.size,fun i hi hm=>(k.block i (Nat.lt_of_lt_of_le hi h.size) fun hh=>by
  rcases hs i hh with h9|h9
  ·exact hm h9
  ·omega).trans (h.block i hi hm)⟩
theorem OF {S S' S'':List Nat}{n m:Nat}(h:∀b∈S',b∈S∨n≤b)(k:∀b∈S'',b∈S'∨m≤b)(hn:n≤m):∀b∈S'',b∈S∨n≤b:=fun b hb=>by
 rcases k b hb with hh|hh
 ·exact h b hh
 ·exact .inr zO
end
section
def Tp.put (T:Tp)(c:AD)(v:Int):Tp:=⟨T.code++[c],T.grd,T.vals++[v]⟩
def Tp.guard (T:Tp)(r:Int)(z:Bool):Tp:=⟨T.code,T.grd++[⟨r,z⟩],T.vals⟩
def Tp.at (T:Tp)(r:Int):Int:=T.vals.getD r.toNat 0
abbrev RI:=Int×Tp
abbrev RL:=List Int×Tp
structure Cg where
 one:Nat→Nat→List Int→Nat→Tp→Rs RI
 all:Nat→List Int→Nat→Tp→Rs RL
def It (f:List Int→Nat→Tp→Rs RL):Nat→List Int→Nat→Tp→Rs RL
 |0,a,s,T=>.ok (a,T) s
 |k+1,a,s,T=>(It f k a s T).bind fun x t=>f x.1 t x.2
def GZ (k x y:Int):Int:=if k=3 then md (x+y)else if k=4 then md (x-y)else if k=5 then md (x*y)else if k=7 then md (0-x)else md (x*inv y)
def JJ (k:Int)(xs:List Int):AD:=⟨k,xs.getD 0 0,if k=7 then 0 else xs.getD 1 0,0⟩
def RS (k:Int)(xs:List Int)(t:Nat)(T:Tp):Rs RI :=
 if k≠3∧k≠4∧k≠5∧k≠7∧T.at (JJ k xs).b=0 then .err 6
 else .ok (((T.vals.length:Nat):Int),T.put (JJ k xs) (GZ k (T.at (JJ k xs).a) (T.at (JJ k xs).b))) t
mutual
def GQ (C:Cg):Ex→List Int→Nat→Tp→Rs RI
 |.mk k num pick cnt l,env,s,T =>
  if 3000≤s then .err 7
  else if k=1 then .ok (((T.vals.length:Nat):Int),T.put ⟨2,0,0,num⟩ num) (s+1)
  else if k=2 then .ok (env.getD num.toNat 0,T) (s+1)
  else if k=8 then(OG C l 0 env (s+1) T).bind fun x t=>if x.2.at x.1=0 then OG C l 1 env t (x.2.guard x.1 true)else OG C l 2 env t (x.2.guard x.1 false)
  else if k=9 then(OG C l 0 env (s+1) T).bind fun x t=>OG C l 1 (env++[x.1]) t x.2
  else(HM C l env (s+1) T).bind fun xs t =>
   if k=10 then C.one num.toNat pick.toNat xs.1 t xs.2
   else if k=11 then(It (C.all num.toNat) cnt.toNat xs.1 t xs.2).bind fun ys u=>.ok (ys.1.getD pick.toNat 0,ys.2) u
   else RS k xs.1 t xs.2
def OG (C:Cg):List Ex→Nat→List Int→Nat→Tp→Rs RI
 |[],_,_,_,_=>.err 0
 |e::_,0,env,s,T=>GQ C e env s T
 |_::l,j+1,env,s,T=>OG C l j env s T
def HM (C:Cg):List Ex→List Int→Nat→Tp→Rs RL
 |[],_,s,T=>.ok ([],T) s
 |e::l,env,s,T=>(GQ C e env s T).bind fun x t=>(HM C l env t x.2).bind fun xs u=>.ok (x.1::xs.1,xs.2) u
end
theorem Ft (C:Cg)(env:List Int)(s:Nat)(T:Tp):∀(l:List Ex)(j:Nat),j<l.length→OG C l j env s T=GQ C (l.getD j Ex.zero) env s T
 |[],j,h=>by simp at h
 |e::l,0,_=>by rw[OG];rfl
 |e::l,j+1,h=>by rw[OG,Ft C env s T l j (by simpa using h)];simp
theorem NO (C:Cg)(env:List Int)(e:Ex):∀(l:List Ex)(s:Nat)(T:Tp),HM C (l++[e]) env s T=(HM C l env s T).bind fun xs t=>(GQ C e env t xs.2).bind fun x u=>.ok (xs.1++[x.1],x.2) u
 |[],s,T=>by
  rw[List.nil_append,HM,HM]
  simp only[Rs.bind_ok]
  cases GQ C e env s T <;> simp only[Rs.bind_ok,Rs.bind_err,HM] <;> rfl
 |a::l,s,T=>by
  rw[List.cons_append,HM,HM]
  cases GQ C a env s T with
  |err c=>rfl
  |ok x t =>
   simp only[Rs.bind_ok]
   rw[NO C env e l t]
   simp only[Rs.bind_assoc]
   cases HM C l env t x.2 with
   |err c=>rfl
   |ok xs u =>
    simp only[Rs.bind_ok]
    cases GQ C e env u xs.2 <;> rfl
theorem RU {C:Cg}{env:List Int}{s:Nat}{T:Tp}{l:List Ex}{k:Nat}(hk:k<l.length):HM C (l.take (k+1)) env s T=(HM C (l.take k) env s T).bind fun xs t=>(GQ C (l.getD k Ex.zero) env t xs.2).bind fun x u=>.ok (xs.1++[x.1],x.2) u:=by
 rw[List.take_succ_eq_append_getElem hk,NO]
 simp[hk]
theorem Gx (C:Cg)(e:Ex)(env:List Int)(s:Nat)(T:Tp):GQ C e env s T =
  if 3000≤s then .err 7
  else if e.kind=1 then .ok (((T.vals.length:Nat):Int),T.put ⟨2,0,0,e.num⟩ e.num) (s+1)
  else if e.kind=2 then .ok (env.getD e.num.toNat 0,T) (s+1)
  else if e.kind=8 then(OG C e.kids 0 env (s+1) T).bind fun x t=>if x.2.at x.1=0 then OG C e.kids 1 env t (x.2.guard x.1 true)else OG C e.kids 2 env t (x.2.guard x.1 false)
  else if e.kind=9 then(OG C e.kids 0 env (s+1) T).bind fun x t=>OG C e.kids 1 (env++[x.1]) t x.2
  else(HM C e.kids env (s+1) T).bind fun xs t =>
   if e.kind=10 then C.one e.num.toNat e.pick.toNat xs.1 t xs.2
   else if e.kind=11 then(It (C.all e.num.toNat) e.count.toNat xs.1 t xs.2).bind fun ys u=>.ok (ys.1.getD e.pick.toNat 0,ys.2) u
   else RS e.kind xs.1 t xs.2:=by cases e;rw[GQ];rfl
def Kd (p:List Fn):Nat→Cg
 |0=>⟨fun _ _ _ _ _=>.err 0,fun _ _ _ _=>.err 0⟩
 |k+1=>⟨fun f j a s T=>if f=k then GQ (Kd p k) ((p.getD k Fn.zero).outs.getD j Ex.zero) a s T else(Kd p k).one f j a s T,
   fun f a s T=>if f=k then HM (Kd p k) (p.getD k Fn.zero).outs a s T else(Kd p k).all f a s T⟩
theorem PD {p:List Fn}{f j:Nat}{a:List Int}{s:Nat}{T:Tp}:∀ {F:Nat},f<F→(Kd p F).one f j a s T=GQ (Kd p f) ((p.getD f Fn.zero).outs.getD j Ex.zero) a s T
 |0,h=>by omega
 |F+1,h=>by
  show(if f=F then _ else _)=_
  split
  ·rename_i e;rw[e]
  ·exact PD zO
theorem MM {p:List Fn}{f:Nat}{a:List Int}{s:Nat}{T:Tp}:∀ {F:Nat},f<F→(Kd p F).all f a s T=HM (Kd p f) (p.getD f Fn.zero).outs a s T
 |0,h=>by omega
 |F+1,h=>by
  show(if f=F then _ else _)=_
  split
  ·rename_i e;rw[e]
  ·exact MM zO
section
variable {C:Cg} {e:Ex} {env:List Int} {s s1 s2:Nat} {c c1 c2:Int} {T T1 T2:Tp} {x y:Int} {xs ys:List Int}
theorem U4 {α:Type}{r:Rs α}{x:α}(hc:c≠0):AH (go c r) x s c:=AH.mk_err (Dk hc r) hc
theorem Qz {x:RI}(hc:c=0)(hs:s=3000):AH (go c (GQ C e env s T)) x s1 7:=by
 subst hc;rw[Cy,Gx,if_pos (by omega)];exact AH.mk_err rfl (by decide)
theorem Xp (hc:c=0)(hs:s+1≤3000)(hk:e.kind=1):AH (go c (GQ C e env s T)) (((T.vals.length:Nat):Int),T.put ⟨2,0,0,e.num⟩ e.num) (s+1) c:=by
 subst hc;rw[Cy,Gx,if_neg zO,if_pos hk];exact AH.mk_ok rfl
theorem Xq (hc:c=0)(hs:s+1≤3000)(hk:e.kind=2):AH (go c (GQ C e env s T)) (env.getD e.num.toNat 0,T) (s+1) c:=by
 subst hc;rw[Cy,Gx,if_neg zO,if_neg zO,if_pos hk];exact AH.mk_ok rfl
theorem Xr {z:RI}(hc:c=0)(hs:s+1≤3000)(hk:e.kind=8)(hl:e.kids.length=3)(h1:AH (go c (GQ C (e.kids.getD 0 Ex.zero) env (s+1) T)) (x,T1) s1 c1)(hc1:c1≠0):AH (go c (GQ C e env s T)) z s2 c1:=by
 subst hc
 rw[Cy]at h1
 rw[Cy,Gx,if_neg zO,if_neg zO,if_neg zO,if_pos hk,Ft _ _ _ _ _ _ zO,h1.bindE hc1]
 exact AH.mk_err rfl hc1
theorem Xs (hc:c=0)(hs:s+1≤3000)(hk:e.kind=8)(hl:e.kids.length=3)(h1:AH (go c (GQ C (e.kids.getD 0 Ex.zero) env (s+1) T)) (x,T1) s1 c1)(hc1:c1=0)(hx:T1.at x=0)
  (h2:AH (go c1 (GQ C (e.kids.getD 1 Ex.zero) env s1 (T1.guard x (decide (T1.at x=0))))) (y,T2) s2 c2):AH (go c (GQ C e env s T)) (y,T2) s2 c2:=by
 subst hc;subst hc1
 rw[Cy]at h1 h2
 rw[Cy,Gx,if_neg zO,if_neg zO,if_neg zO,if_pos hk,Ft _ _ _ _ _ _ zO,h1.bindO]
 dsimp only
 rw[A5 hx]at h2
 rw[if_pos hx,Ft _ _ _ _ _ _ (by omega)];exact h2
theorem Xt (hc:c=0)(hs:s+1≤3000)(hk:e.kind=8)(hl:e.kids.length=3)(h1:AH (go c (GQ C (e.kids.getD 0 Ex.zero) env (s+1) T)) (x,T1) s1 c1)(hc1:c1=0)(hx:¬T1.at x=0)
  (h2:AH (go c1 (GQ C (e.kids.getD 2 Ex.zero) env s1 (T1.guard x (decide (T1.at x=0))))) (y,T2) s2 c2):AH (go c (GQ C e env s T)) (y,T2) s2 c2:=by
 subst hc;subst hc1
 rw[Cy]at h1 h2
 rw[Cy,Gx,if_neg zO,if_neg zO,if_neg zO,if_pos hk,Ft _ _ _ _ _ _ zO,h1.bindO]
 dsimp only
 rw[A6 hx]at h2
 rw[if_neg hx,Ft _ _ _ _ _ _ (by omega)];exact h2
theorem Xu (hc:c=0)(hs:s+1≤3000)(hk:e.kind=9)(hl:e.kids.length=2)(h1:AH (go c (GQ C (e.kids.getD 0 Ex.zero) env (s+1) T)) (x,T1) s1 c1)
  (h2:AH (go c1 (GQ C (e.kids.getD 1 Ex.zero) (env++[x]) s1 T1)) (y,T2) s2 c2):AH (go c (GQ C e env s T)) (y,T2) s2 c2:=by
 subst hc
 rw[Cy,Gx,if_neg zO,if_neg zO,if_neg zO,if_neg zO,if_pos hk,Ft _ _ _ _ _ _ (by omega)]
 rw[Cy]at h1
 by_cases h0:c1=0
 ·subst h0;rw[h1.bindO,Ft _ _ _ _ _ _ (by omega)];exact h2
 ·rw[h1.bindE h0];rw[Dk h0]at h2;exact h2
theorem J9 (hs:s+1≤3000)(h1:e.kind≠1)(h2:e.kind≠2)(h8:e.kind≠8)(h9:e.kind≠9):GQ C e env s T=(HM C e.kids env (s+1) T).bind fun xs t =>
  if e.kind=10 then C.one e.num.toNat e.pick.toNat xs.1 t xs.2
   else if e.kind=11 then(It (C.all e.num.toNat) e.count.toNat xs.1 t xs.2).bind fun ys u=>.ok (ys.1.getD e.pick.toNat 0,ys.2) u
   else RS e.kind xs.1 t xs.2:=by
 rw[Gx,if_neg zO,if_neg h1,if_neg h2,if_neg h8,if_neg h9]
theorem RV {z:RI}(hc:c=0)(hs:s+1≤3000)(h1:e.kind≠1)(h2:e.kind≠2)(h8:e.kind≠8)(h9:e.kind≠9)(hr:AH (go c (HM C e.kids env (s+1) T)) (xs,T1) s1 c1)(hc1:c1≠0):AH (go c (GQ C e env s T)) z s2 c1:=by
 subst hc
 rw[Cy]at hr ⊢
 rw[J9 hs h1 h2 h8 h9,hr.bindE hc1];exact AH.mk_err rfl hc1
theorem U5 {p:List Fn}{F:Nat}(hc:c=0)(hs:s+1≤3000)(hk:e.kind=10)(hF:e.num.toNat<F)(hr:AH (go c (HM (Kd p F) e.kids env (s+1) T)) (xs,T1) s1 c1)(hc1:c1=0)
  (h2:AH (go c1 (GQ (Kd p e.num.toNat) ((p.getD e.num.toNat Fn.zero).outs.getD e.pick.toNat Ex.zero) xs s1 T1)) (y,T2) s2 c2):AH (go c (GQ (Kd p F) e env s T)) (y,T2) s2 c2:=by
 subst hc;subst hc1
 rw[Cy]at hr h2 ⊢
 rw[J9 hs zO zO zO zO,hr.bindO,if_pos hk,PD hF];exact h2
theorem U6 {p:List Fn}{F:Nat}(hc:c=0)(hs:s+1≤3000)(hk:e.kind=11)(hF:e.num.toNat<F)(hr:AH (go c (HM (Kd p F) e.kids env (s+1) T)) (xs,T1) s1 c1)(hc1:c1=0)
  (h2:AH (It (fun a t U=>HM (Kd p e.num.toNat) (p.getD e.num.toNat Fn.zero).outs a t U) e.count.toNat xs s1 T1) (ys,T2) s2 c2):AH (go c (GQ (Kd p F) e env s T)) (ys.getD e.pick.toNat 0,T2) s2 c2:=by
 subst hc;subst hc1
 rw[Cy]at hr ⊢
 rw[J9 hs zO zO zO zO,hr.bindO,if_neg zO,if_pos hk]
 have hl:(Kd p F).all e.num.toNat=fun a t U=>HM (Kd p e.num.toNat) (p.getD e.num.toNat Fn.zero).outs a t U:=funext fun a=>funext fun t=>funext fun U=>MM hF
 rw[hl]
 by_cases h0:c2=0
 ·subst h0;rw[h2.bindO];exact AH.mk_ok rfl
 ·rw[h2.bindE h0];exact AH.mk_err rfl h0
theorem Yh {z:RI}(hc:c=0)(hs:s+1≤3000)(h1:e.kind≠1)(h2:e.kind≠2)(h8:e.kind≠8)(h9:e.kind≠9)(h10:e.kind≠10)(h11:e.kind≠11)(hr:AH (go c (HM C e.kids env (s+1) T)) (xs,T1) s1 c1)(hc1:c1=0)
  (h:AH (go c1 (RS e.kind xs s1 T1)) z s2 c2):AH (go c (GQ C e env s T)) z s2 c2:=by
 subst hc;subst hc1
 rw[Cy]at hr h ⊢
 rw[J9 hs h1 h2 h8 h9,hr.bindO,if_neg h10,if_neg h11];exact h
theorem RW (C:Cg)(l:List Ex)(env:List Int)(s:Nat)(T:Tp)(c:Int):AH (go c (HM C (l.take 0) env s T)) ([],T) s c:=by
 rw[List.take_zero,HM]
 by_cases h:c=0
 ·subst h;exact AH.mk_ok rfl
 ·exact AH.mk_err (Dk h _) h
theorem U7 {l:List Ex}{k:Nat}(hk:k<l.length)(h:AH (go c (HM C (l.take k) env s T)) (xs,T1) s1 c1)(h2:AH (go c1 (GQ C (l.getD k Ex.zero) env s1 T1)) (x,T2) s2 c2) :
  AH (go c (HM C (l.take (k+1)) env s T)) (xs++[x],T2) s2 c2:=by
 by_cases hc:c=0
 ·subst hc
  rw[Cy]at h ⊢
  rw[RU hk]
  by_cases h0:c1=0
  ·subst h0
   rw[Cy]at h2
   rw[h.bindO]
   by_cases h9:c2=0
   ·subst h9;rw[h2.bindO];exact AH.mk_ok rfl
   ·rw[h2.bindE h9];exact AH.mk_err rfl h9
  ·rw[h.bindE h0]
   rw[Dk h0]at h2
   have:=h2.1
   exact AH.mk_err (by rw[this]) (this ▸ h0)
 ·rw[Dk hc]at h ⊢
  have h3:=h.1
  subst h3
  rw[Dk hc]at h2
  exact AH.mk_err (by rw[h2.1]) (h2.1 ▸ hc)
theorem Xv {f:List Int→Nat→Tp→Rs RL}{k:Nat}(h:AH (It f k xs s T) (ys,T1) s1 c1)(hc:c1=0){zs:RL}(h2:AH (go c1 (f ys s1 T1)) zs s2 c2):AH (It f (k+1) xs s T) zs s2 c2:=by
 subst hc
 show AH ((It f k xs s T).bind _) _ _ _
 rw[h.bindO];rw[Cy]at h2;exact h2
theorem NP {f:List Int→Nat→Tp→Rs RL}{d:Int}:∀ {m k:Nat},It f k xs s T=.err d→k≤m→It f m xs s T=.err d
 |0,k,h,hk=>by
  have:k=0:=by omega
  subst this;exact h
 |m+1,k,h,hk=>by
  by_cases e:k=m+1
  ·subst e;exact h
  ·show(It f m xs s T).bind _=_
   rw[NP h (by omega)];rfl
theorem U8 {f:List Int→Nat→Tp→Rs RL}{k m:Nat}{zs:RL}(h:AH (It f k xs s T) zs s1 c1)(hk:k≤m)(hs:k=m∨c1≠0):AH (It f m xs s T) zs s1 c1:=by
 by_cases hc:c1=0
 ·rcases hs with rfl|hh
  ·exact h
  ·exact absurd hc hh
 ·exact AH.mk_err (NP (h.err hc) hk) hc
end
def JK (T:Tp)(s:Nat):Prop:=T.code.length=T.vals.length∧T.vals.length≤12+s∧T.grd.length≤s∧AV T.vals=true
theorem JK.put {T:Tp}{s:Nat}(h:JK T s)(c:AD){v:Int}(hv:0≤v∧v<1000003):JK (T.put c v) (s+1):=by
 obtain⟨h1,h2,h3,h4⟩:=h
 unfold Tp.put
 refine⟨by simp[h1],by simp;omega,by simp;omega,?_⟩
 unfold AV at h4 ⊢
 rw[List.all_append,h4]
 simp[BR.2 hv]
theorem JK.guard {T:Tp}{s:Nat}(h:JK T s)(r:Int)(z:Bool)(hg:T.grd.length+1≤s):JK (T.guard r z) s:=by
 obtain⟨h1,h2,h3,h4⟩:=h
 exact⟨h1,h2,by show(T.grd++[_]).length≤s;simp;omega,h4⟩
theorem JK.up {T:Tp}{s s':Nat}(h:JK T s)(hs:s≤s'):JK T s':=⟨h.1,by have:=h.2.1;omega,by have:=h.2.2.1;omega,h.2.2.2⟩
theorem JK.dn {T:Tp}{s s':Nat}(h:JK T s)(hv:T.vals.length≤12+s')(hg:T.grd.length≤s'):JK T s':=⟨h.1,hv,hg,h.2.2.2⟩
theorem JK.ln {T:Tp}{s:Nat}(h:JK T s)(hs:s≤3000):T.code.length≤4000∧T.vals.length≤4000:=by have:=h.1;have:=h.2.1;omega
abbrev E8 (k b:Int):Prop:=k≠3∧k≠4∧k≠5∧k≠7∧b=0
section
variable {k a b:Int}
theorem RY (h:k=3):(if E8 k b then 0 else GZ k a b)=md (a+b)∧(!decide (E8 k b))=true:=by subst h;exact⟨rfl,rfl⟩
theorem RZ (h:k=4):(if E8 k b then 0 else GZ k a b)=md (a-b)∧(!decide (E8 k b))=true:=by subst h;exact⟨rfl,rfl⟩
theorem S0 (h:k=5):(if E8 k b then 0 else GZ k a b)=md (a*b)∧(!decide (E8 k b))=true:=by subst h;exact⟨rfl,rfl⟩
theorem S3 (h:k=7):(if E8 k b then 0 else GZ k a b)=md (0-a)∧(!decide (E8 k b))=true:=by subst h;exact⟨rfl,rfl⟩
theorem PE (h:k≠3∧k≠4∧k≠5∧k≠7)(hb:b=0):(if E8 k b then 0 else GZ k a b)=0∧(!decide (E8 k b))=false:=by
 have hz:E8 k b:=⟨h.1,h.2.1,h.2.2.1,h.2.2.2,hb⟩
 rw[if_pos hz,A5 hz];exact⟨rfl,rfl⟩
theorem S4 (h:k≠3∧k≠4∧k≠5∧k≠7)(hb:b≠0):(if E8 k b then 0 else GZ k a b)=md (a*inv b)∧(!decide (E8 k b))=true:=by
 have hz:¬E8 k b:=fun h9=>hb h9.2.2.2.2
 rw[if_neg hz,A6 hz]
 refine⟨?_,rfl⟩
 unfold GZ
 rw[if_neg h.1,if_neg h.2.1,if_neg h.2.2.1,if_neg h.2.2.2]
theorem MN (k a b:Int):0≤GZ k a b∧GZ k a b<1000003:=by unfold GZ;split <;> (try split) <;> (try split) <;> (try split) <;> exact BM _
end
theorem Iu {k:Int}{xs:List Int}{T:Tp}{t:Nat}(h:¬E8 k (T.at (JJ k xs).b)):RS k xs t T=.ok (((T.vals.length:Nat):Int),T.put (JJ k xs) (GZ k (T.at (JJ k xs).a) (T.at (JJ k xs).b))) t:=if_neg h
theorem PF {k:Int}{xs:List Int}{T:Tp}{t:Nat}(h:E8 k (T.at (JJ k xs).b)):RS k xs t T=.err 6:=if_pos h
theorem Yi {α:Type}{r:Rs α}{x:α}{s:Nat}{c c1:Int}(h:AH (go c r) x s c1)(h1:c1=0):c=0:=by
 by_cases hc:c=0
 ·exact hc
 ·rw[Dk hc]at h
  have:=h.1
  omega
theorem PG (k a b:Int):0≤(if E8 k b then 0 else GZ k a b)∧(if E8 k b then 0 else GZ k a b)<1000003:=by
 have:=MN k a b
 split <;> omega
theorem Yj {Q:Prop} [Decidable Q] (h:(!(!decide Q))=true):Q:=by simpa using h
theorem aZ {Q:Prop} [Decidable Q] (h:(!(!decide Q))=false):¬Q:=by simpa using h
theorem Gy {k:Int}{xs:List Int}(h:k≠7):JJ k xs=⟨k,xs.getD 0 0,xs.getD 1 0,0⟩:=by unfold JJ;rw[if_neg h]
theorem S5 {k:Int}{xs:List Int}(h:k=7):JJ k xs=⟨k,xs.getD 0 0,0,0⟩:=by unfold JJ;rw[if_pos h]
theorem U9 {k c:Int}{xs:List Int}{T:Tp}{s s2:Nat}{z:RI}(hc:c=0)(h7:k≠7)(hz:E8 k (T.vals.getD (xs.getD 1 0).toNat 0)):AH (go c (RS k xs s T)) z s2 6:=by
 subst hc
 rw[Cy,PF (by rw[Gy h7];exact hz)];exact AH.mk_err rfl (by decide)
theorem Ua {k c:Int}{xs:List Int}{T:Tp}{s:Nat}(hc:c=0)(h7:k≠7)(hz:¬E8 k (T.vals.getD (xs.getD 1 0).toNat 0)) :
  AH (go c (RS k xs s T)) (((T.vals.length:Nat):Int),T.put ⟨k,xs.getD 0 0,xs.getD 1 0,0⟩ (if E8 k (T.vals.getD (xs.getD 1 0).toNat 0)then 0 else GZ k (T.vals.getD (xs.getD 0 0).toNat 0) (T.vals.getD (xs.getD 1 0).toNat 0))) s c:=by
 subst hc
 rw[Cy,Iu (by rw[Gy h7];exact hz),Gy h7,if_neg hz];exact AH.mk_ok rfl
theorem Ub {k c:Int}{xs:List Int}{T:Tp}{s:Nat}{b:Int}(hc:c=0)(h7:k=7) :
  AH (go c (RS k xs s T)) (((T.vals.length:Nat):Int),T.put ⟨k,xs.getD 0 0,0,0⟩ (if E8 k b then 0 else GZ k (T.vals.getD (xs.getD 0 0).toNat 0) b)) s c:=by
 subst hc
 subst h7
 rw[Cy,Iu (fun h=>h.2.2.2.1 rfl),S5 rfl,if_neg (fun h:E8 7 b=>h.2.2.2.1 rfl)];exact AH.mk_ok rfl
theorem V3 {k b:Int}(h:k=7):¬E8 k b:=fun h9=>h9.2.2.2.1 h
def K8 (T:Tp)(env:List Int):Prop:=∀k,k<env.length→0≤env.getD k 0∧env.getD k 0<((T.vals.length:Nat):Int)
theorem K8.mono {T T':Tp}{env:List Int}(h:K8 T env)(hl:T.vals.length≤T'.vals.length):K8 T' env:=fun k hk=>by have:=h k hk;omega
theorem K8.snoc {T:Tp}{env:List Int}{r:Int}(h:K8 T env)(hr:0≤r∧r<((T.vals.length:Nat):Int)):K8 T (env++[r]):=fun k hk=>by
 rw[List.length_append,List.length_singleton]at hk
 rw[Y6]
 split
 ·exact hr
 ·exact h k zO
theorem K8.nil (T:Tp):K8 T []:=fun k hk=>absurd hk (Nat.not_lt_zero k)
theorem DF {Q:Nat→Prop}:∀b∈([]:List Nat),Q b:=fun b hb=>(by cases hb)
theorem At.drewL {F:List Nat}{a b:World}(h:At F a b):At F a.drew b:=⟨h.os,h.tape,h.output,h.size,h.block⟩
def QA {α:Type}(S:List Nat)(B:Nat)(E:Bo α)(H:Array Obj)(v:Value)(x:α):Prop:=∃F,E H v x F∧∀b∈F,b∉S∧B≤b
theorem QA.rn {α:Type}{S:List Nat}{B:Nat}{E:Bo α}{H:Array Obj}{v:Value}{x:α}(h:QA S B E H v x):RN S E H v x:=by
 obtain⟨F,h1,h2⟩:=h
 exact⟨F,h1,fun b hb=>(h2 b hb).1⟩
theorem QA.upd {α:Type}{S F:List Nat}{B:Nat}{E:Bo α}(hE:BZ E){w w':World}{v:Value}{x:α}(h:QA S B E w.heap v x)(c:At F w w')(hF:∀b∈F,b∈S∨b<B):QA S B E w'.heap v x:=by
 obtain⟨G,h1,h2⟩:=h
 refine⟨G,hE.stable h1 fun b hb=>c.block b (hE.lt h1 b hb) fun hm=>?_,h2⟩
 rcases hF b hm with hh|hh
 ·exact (h2 b hb).1 hh
 ·have:=(h2 b hb).2;omega
theorem QA.of_ow {e:TypeId}{B T:Nat}{H:Array Obj}{v:Value}{xs:List Int}{F S:List Nat}(h:Ow (Bt rI e) B T H v xs F)(hS:∀b∈F,b∉S):QA S B (B2 rI) H v xs:=⟨F,h.own.rd id,fun b hb=>⟨hS b hb,h.low b hb⟩⟩
structure FH (S S':List Nat)(w w':World):Prop where
 sub:∀b∈S,b∈S'
 new:∀b∈S',b∈S∨w.heap.size≤b
 lt:∀b∈S',b<w'.heap.size
 chg:At S w w'
section
variable {S S' S'':List Nat} {w w' w'':World} {g:Nat}
theorem FH.refl (h:∀b∈S,b<w.heap.size):FH S S w w:=⟨fun _ h=>h,fun _ h=>.inl h,h,At.refl S w⟩
theorem FH.trans (h:FH S S' w w')(k:FH S' S'' w' w''):FH S S'' w w'' :=
 ⟨fun b hb=>k.sub b (h.sub b hb),OF h.new k.new h.chg.size,k.lt,h.chg.stp k.chg h.new⟩
theorem FH.ext (h:FH S S' w w')(k:AG w' w''):FH S S' w w'':=⟨h.sub,h.new,fun b hb=>Nat.lt_of_lt_of_le (h.lt b hb) k.size,h.chg.ext k⟩
theorem FH.drew (h:FH S S' w w'):FH S S' w w'.drew:=⟨h.sub,h.new,h.lt,h.chg.drew⟩
theorem FH.of_drew (h:FH S S' w.drew w'):FH S S' w w':=⟨h.sub,h.new,h.lt,h.chg.of_drew⟩
theorem FH.set (h:FH S S' w w')(hg:g∈S)(k:At [g] w' w''):FH S S' w w'':=⟨h.sub,h.new,fun b hb=>Nat.lt_of_lt_of_le (h.lt b hb) k.size,h.chg.trans (k.sub (AT hg))⟩
theorem FH.more {F:List Nat}(h:FH S S' w w')(k:At F w' w'')(hF:∀b∈F,b∈S):FH S S' w w'':=⟨h.sub,h.new,fun b hb=>Nat.lt_of_lt_of_le (h.lt b hb) k.size,h.chg.trans (k.sub hF)⟩
theorem FH.fresh {F:List Nat}(h:FH S S' w w')(k:At F w' w'')(hF:∀b∈F,w.heap.size≤b):FH S S' w w'':=⟨h.sub,h.new,fun b hb=>Nat.lt_of_lt_of_le (h.lt b hb) k.size,h.chg.fresh k hF⟩
end
structure V4 (T T':Tp)(s0 s1:Nat)(c1:Int):Prop where
 bnd:JK T' s1
 num:s1≤3000∧(0≤c1∧c1≤9)∧T.vals.length≤T'.vals.length∧T'.vals.length+s0≤T.vals.length+s1∧T'.grd.length+s0≤T.grd.length+s1
@[simp] theorem Gz (T:Tp)(c:AD)(v:Int):(T.put c v).vals.length=T.vals.length+1:=by simp[Tp.put]
@[simp] theorem OH (T:Tp)(c:AD)(v:Int):(T.put c v).code.length=T.code.length+1:=by simp[Tp.put]
@[simp] theorem S6 (T:Tp)(c:AD)(v:Int):(T.put c v).grd=T.grd:=rfl
@[simp] theorem NR (T:Tp)(r:Int)(z:Bool):(T.guard r z).vals=T.vals:=rfl
@[simp] theorem NS (T:Tp)(r:Int)(z:Bool):(T.guard r z).grd.length=T.grd.length+1:=by simp[Tp.guard]
theorem RN.of_ow {e:TypeId}{B T:Nat}{H:Array Obj}{v:Value}{xs:List Int}{F S:List Nat}(h:Ow (Bt rI e) B T H v xs F)(hS:∀b∈F,b∉S):RN S (B2 rI) H v xs:=⟨F,h.own.rd id,hS⟩
theorem Cp.len {t1 t2 t3:TypeId}{S:List Nat}{g:Nat}{H:Array Obj}{vc vg vv:Value}{T:Tp}(h:Cp t1 t2 t3 S g H vc vg vv T):T.code.length≤maxLen∧T.grd.length≤maxLen∧T.vals.length≤maxLen:=by
 obtain⟨Fc,Fg,Fv,h1,h2,h3,_⟩:=h
 exact⟨h1.own.lenle,h2.own.lenle,h3.own.lenle⟩
end
section
def Ja (a:List Int):Nat→Tp
 |0=>⟨[],[],[]⟩
 |k+1=>(Ja a k).put ⟨1,0,0,((k:Nat):Int)⟩ (a.getD k 0)
def GR (k:Nat):List Int:=(List.range k).map fun i=>((i:Nat):Int)
@[simp] theorem Gf (k:Nat):(GR k).length=k:=by simp[GR]
theorem OI (k:Nat):GR (k+1)=GR k++[((k:Nat):Int)]:=by simp[GR,List.range_succ]
theorem NT {k j:Nat}(h:j<k):(GR k).getD j 0=((j:Nat):Int):=by
 unfold GR
 rw[BS (d:=0) (by simpa using h)]
 simp[h]
@[simp] theorem JL (a:List Int):∀k,(Ja a k).vals.length=k
 |0=>rfl
 |k+1=>by show((Ja a k).put _ _).vals.length=_;rw[Gz,JL a k]
@[simp] theorem MO (a:List Int):∀k,(Ja a k).code.length=k
 |0=>rfl
 |k+1=>by show((Ja a k).put _ _).code.length=_;rw[OH,MO a k]
theorem S7 (a:List Int):∀k,(Ja a k).grd=[]
 |0=>rfl
 |k+1=>by show((Ja a k).put _ _).grd=_;rw[S6,S7 a k]
theorem NU (a:List Int):∀k,k≤a.length→(Ja a k).vals=a.take k
 |0,_=>rfl
 |k+1,h=>by
  show(Ja a k).vals++[a.getD k 0]=_
  rw[NU a k zO,CP 0 (by omega)]
theorem Yk {a:List Int}(hn:AV a=true)(h:a.length≤12):JK (Ja a a.length) 0:=by
 refine⟨by simp,by simp;omega,by rw[S7];simp,?_⟩
 rw[NU a _ (A7 _),List.take_length];exact hn
theorem Yl (a:List Int)(k:Nat):K8 (Ja a k) (GR k):=fun j hj=>by
 rw[Gf]at hj
 rw[NT hj,JL];omega
def QB (p:List Fn)(f:Nat)(a:List Int):Rs RL:=HM (Kd p f) (p.getD f Fn.zero).outs (GR a.length) 0 (Ja a a.length)
section rcm
variable {t1 t2 t3:TypeId} {S:List Nat} {g:Nat} {w w':World} {vc vg vv:Value} {T:Tp}
theorem Cp.nil:Cp t1 t2 t3 S g w.heap (.slice none 0 0) (.slice none 0 0) (.slice none 0 0) ⟨[],[],[]⟩ :=
 ⟨[],[],[],⟨.inl ⟨rfl,rfl,rfl⟩,List.nodup_nil,DF,DF⟩,⟨.inl ⟨rfl,rfl,rfl⟩,List.nodup_nil,DF,DF⟩,⟨.inl ⟨rfl,rfl,rfl⟩,List.nodup_nil,DF,DF⟩,
  ⟨DF,DF,DF⟩,⟨List.not_mem_nil,List.not_mem_nil,List.not_mem_nil⟩,DF,DF,DF⟩
theorem At.toExt {F:List Nat}(h:At F w w')(hF:∀b∈F,w.heap.size≤b):AG w w':=⟨h.os,h.tape,h.output,h.size,fun k hk=>h.block k hk fun hm=>by have:=hF k hm;omega⟩
end rcm
def RG {α:Type}(T:Nat)(E:Bo α)(H:Array Obj)(v:Value)(x:α):Prop:=∃F,E H v x F∧∀b∈F,T≤b
theorem QA.rg {α:Type}{S:List Nat}{B T:Nat}{E:Bo α}{H:Array Obj}{v:Value}{x:α}(h:QA S B E H v x)(hT:T≤B):RG T E H v x:=by
 obtain⟨F,h1,h2⟩:=h
 exact⟨F,h1,fun b hb=>A8 hT (h2 b hb).2⟩
theorem RG.rnG {α:Type}{T g:Nat}{E:Bo α}{w:World}{v:Value}{x:α}(hE:BZ E)(h:RG T E w.heap v x)(hg:g<T∨w.heap.size≤g):RN [g] E w.heap v x:=by
 obtain⟨F,h1,h2⟩:=h
 refine⟨F,h1,fun b hb hm=>?_⟩
 rw[A9 hm]at hb
 have:=h2 g hb
 have:=hE.lt h1 g hb
 omega
theorem Cp.readsG {t1 t2 t3:TypeId}{S:List Nat}{g n:Nat}{w:World}{vc vg vv:Value}{T:Tp}(h:Cp t1 t2 t3 S g w.heap vc vg vv T)(hS:∀b∈S,n≤b):RG n (DS 4 Oi) w.heap vc T.code∧RG n (DS 2 Oj) w.heap vg T.grd:=by
 obtain⟨Fc,Fg,Fv,h1,h2,h3,h4,h5,h6,h7,h8⟩:=h
 exact⟨⟨Fc,h1.own.rd B5,fun b hb=>hS b (h6 b hb)⟩,⟨Fg,h2.own.rd Bd,fun b hb=>hS b (h7 b hb)⟩⟩
theorem AH.go0 {α:Type}{r:Rs α}{x:α}{s:Nat}{c:Int}(h:AH (go ((0:Nat):Int) r) x s c):AH r x s c:=h
theorem LD.part {H:Array Obj}{g k:Nat}{cs ds:List Value}(h:BX H g cs)(hl:k+ds.length≤cs.length)(hd:∀i,i<ds.length→ds.getD i undef=cs.getD (k+i) undef):LD H (.pointer (some ⟨g,k,none⟩)) ds:=by
 obtain⟨e,h⟩:=h
 refine⟨g,k,rfl,fun i hi=>?_⟩
 simp only[BQ,h]
 rw[hd i hi]
 simp[show k+i<cs.length by omega]
end
def Gg (p:List Fn)(f:Int):Int:=if JF p=true then(if 0≤f∧f≤((p.length:Nat):Int)-1 then 0 else 2)else 1
theorem PH {p:List Fn}{f:Int}(h:Gg p f=0):JF p=true∧0≤f∧f<((p.length:Nat):Int):=by
 unfold Gg at h
 split at h
 ·split at h
  ·rename_i h1 h2;exact⟨h1,h2.1,zO⟩
  ·omega
 ·omega
theorem Xw {n k:Nat}{s:Sr}(h:Cj n s)(hk:k<n):I8 (s.getD k 0)=true:=by
 have hk':k<s.length:=by rw[h.1];exact hk
 have:=h.2
 unfold AV at this
 have h2:=List.all_eq_true.1 this s[k]<|List.getElem_mem hk'
 rwa [show s.getD k 0=s[k]from by simp[hk']]
section
mutual
def HX:Ex→Int→Int
 |.mk _ _ _ _ l,x=>D9 l (x-1)
def D9:List Ex→Int→Int
 |[],x=>x
 |e::l,x=>if 0≤x then D9 l (HX e x)else x
end
theorem Uc (e:Ex)(x:Int):HX e x=D9 e.kids (x-1):=by cases e;rw[HX];rfl
theorem KY {l:List Ex}{x:Int}(h:x<0):D9 l x=x:=by
 cases l with
 |nil=>rw[D9]
 |cons e l=>rw[D9,if_neg (by omega)]
mutual
theorem KZ:∀(e:Ex)(x:Int),0≤x→(HX e x=x-(e.size:Int)∧(e.size:Int)≤x)∨(HX e x = -1∧x<(e.size:Int))
 |.mk k n q c l,x,h=>by
  rw[HX,Ex.size]
  by_cases h0:x=0
  ·subst h0
   right
   rw[KY (by omega)]
   refine⟨zO,zO⟩
  ·rcases HN l (x-1) (by omega)with h1|h1
   ·left;omega
   ·right;omega
theorem HN:∀(l:List Ex)(x:Int),0≤x→(D9 l x=x-(Ex.sizes l:Int)∧(Ex.sizes l:Int)≤x)∨(D9 l x = -1∧x<(Ex.sizes l:Int))
 |[],x,h=>by rw[D9,Ex.sizes];left;omega
 |e::l,x,h=>by
  rw[D9,if_pos h,Ex.sizes]
  rcases KZ e x h with h1|h1
  ·rw[h1.1]
   rcases HN l (x-(e.size:Int)) (by omega)with h2|h2
   ·left;omega
   ·right;omega
  ·rw[h1.1,KY (by omega)]
   right;omega
end
theorem Mn (e:Ex):∀(l:List Ex)(x:Int),D9 (l++[e]) x=if 0≤D9 l x then HX e (D9 l x)else D9 l x
 |[],x=>by
  rw[List.nil_append,D9,D9]
  split
  ·rw[D9]
  ·rfl
 |a::l,x=>by
  rw[List.cons_append,D9,D9]
  by_cases h:0≤x
  ·rw[if_pos h,if_pos h,Mn e l]
  ·rw[if_neg h,if_neg h,if_neg h]
theorem Mo {l:List Ex}{k:Nat}(hk:k<l.length){x:Int}(h:0≤D9 (l.take k) x):D9 (l.take (k+1)) x=HX (l.getD k Ex.zero) (D9 (l.take k) x):=by
 rw[List.take_succ_eq_append_getElem hk,Mn,if_pos h]
 simp[hk]
theorem NV:∀(l r:List Ex)(x:Int),D9 l x<0→D9 (l++r) x=D9 l x
 |[],r,x,h=>by rw[D9]at h ⊢;rw[List.nil_append,KY h]
 |a::l,r,x,h=>by
  rw[D9]at h ⊢
  rw[List.cons_append,D9]
  split
  ·rename_i h0;rw[if_pos h0]at h;exact NV l r _ h
  ·rfl
theorem Mp {l:List Ex}{k:Nat}{x:Int}(h:D9 (l.take k) x<0):D9 l x=D9 (l.take k) x:=by
 have:=NV (l.take k) (l.drop k) x h
 rwa [List.take_append_drop]at this
theorem NW {e:Ex}{x:Int}(h:0≤x):-1≤HX e x∧HX e x≤x:=by
 rcases KZ e x h with h1|h1 <;> omega
theorem S8 {e:Ex}{x:Int}(h:0≤x):0≤HX e x↔(e.size:Int)≤x:=by
 rcases KZ e x h with h1|h1 <;> omega
def QC (k:Int):Int:=if k=1∨k=2 then 0 else if k=3∨k=4∨k=5∨k=6∨k=9 then 2 else if k=7 then 1 else if k=8 then 3 else -1
theorem MP {p q:Prop} [Decidable p] [Decidable q] (h:p↔q):decide p=decide q:=decide_eq_decide.2 h
section
variable {p:List Fn} {F vars:Int} {e:Ex}
theorem QD (h:Gw p F vars e=true)(h10:e.kind≠10)(h11:e.kind≠11):e.pick=0∧e.count=0∧QC e.kind=((e.kids.length:Nat):Int)∧(e.kind≠1→e.kind≠2→e.num=0):=by
 unfold Gw DM at h
 unfold QC
 split at h
 ·rename_i h1
  simp only[Bool.and_eq_true,decide_eq_true_eq]at h
  rw[if_pos (by omega)]
  exact⟨h.1.1,h.1.2,zO,fun hh=>absurd h1 hh⟩
 ·split at h
  ·rename_i h1
   simp only[Bool.and_eq_true,decide_eq_true_eq]at h
   rw[if_pos (by omega)]
   exact⟨h.1.1,h.1.2,zO,fun _ hh=>absurd h1 hh⟩
  ·split at h
   ·simp only[Bool.and_eq_true,decide_eq_true_eq]at h
    rw[if_neg zO,if_pos (by omega)]
    exact⟨h.1.1,h.1.2,zO,fun _ _=>h.2.1⟩
   ·split at h
    ·simp only[Bool.and_eq_true,decide_eq_true_eq]at h
     rw[if_neg zO,if_neg zO,if_pos (by omega)]
     exact⟨h.1.1,h.1.2,zO,fun _ _=>h.2.1⟩
    ·split at h
     ·simp only[Bool.and_eq_true,decide_eq_true_eq]at h
      rw[if_neg zO,if_neg zO,if_neg zO,if_pos (by omega)]
      exact⟨h.1.1,h.1.2,zO,fun _ _=>h.2.1⟩
     ·split at h
      ·omega
      ·cases h
theorem Xx (h10:e.kind≠10)(h11:e.kind≠11)(h:QC e.kind≠((e.kids.length:Nat):Int)∨e.pick≠0∨e.count≠0):false=Gw p F vars e:=by
 cases hw:Gw p F vars e with
 |false=>rfl
 |true =>
  have:=QD hw h10 h11
  omega
theorem bA (hk:QC e.kind=((e.kids.length:Nat):Int))(h1:e.kind=1)(hp:e.pick=0)(hc:e.count=0):I8 e.num=Gw p F vars e:=by
 have hl:e.kids.length=0:=by unfold QC at hk;rw[if_pos (by omega)]at hk;omega
 unfold Gw DM
 rw[if_pos h1,A5 hp,A5 hc,A5 hl];rfl
theorem bB (hk:QC e.kind=((e.kids.length:Nat):Int))(h1:e.kind=2)(hp:e.pick=0)(hc:e.count=0):(decide (((0:Nat):Int)≤e.num) && decide (e.num≤vars-1))=Gw p F vars e:=by
 have hl:e.kids.length=0:=by unfold QC at hk;rw[if_pos (by omega)]at hk;omega
 unfold Gw DM H5
 rw[if_neg zO,if_pos h1,A5 hp,A5 hc,A5 hl];rfl
theorem bC (hk:QC e.kind=((e.kids.length:Nat):Int))(h1:e.kind≠1)(h2:e.kind≠2)(h10:e.kind≠10)(h11:e.kind≠11)(hp:e.pick=0)(hc:e.count=0):decide (e.num=0)=Gw p F vars e:=by
 unfold QC at hk
 unfold Gw DM
 rw[if_neg h1,if_neg h2,A5 hp,A5 hc]
 rw[if_neg (by omega)]at hk
 split at hk
 ·rename_i h3
  rw[if_pos h3,A5 (show e.kids.length=2 by omega)];simp
 ·rename_i h3
  rw[if_neg h3]
  split at hk
  ·rename_i h4
   rw[if_pos h4,A5 (show e.kids.length=1 by omega)];simp
  ·rename_i h4
   rw[if_neg h4]
   split at hk
   ·rename_i h5
    rw[if_pos h5,A5 (show e.kids.length=3 by omega)];simp
   ·omega
end
end
section
def K9 (n:Nat)(C:Ca)(e:Ex)(env:List Sr)(s:Nat):Rs Sr:=(Dj n C e.kids env s).bind fun xs t =>
 if e.kind=10 then C.one e.num.toNat e.pick.toNat xs t else(HH (C.all e.num.toNat) e.count.toNat xs t).bind fun ys u=>.ok (ys.getD e.pick.toNat []) u
section
variable {n:Nat} {C:Ca} {e:Ex} {env:List Sr} {s s1 s2:Nat} {c c1 c2:Int} {x y:Sr} {xs ys:List Sr}
theorem Mq (hc:c=0)(hs:s+1≤3000)(hk:e.kind=10∨e.kind=11)(h:AH (go c (K9 n C e env (s+1))) y s2 c2):AH (go c (Cn n C e env s)) y s2 c2:=by
 subst hc
 rw[Cy]at h ⊢
 rw[Hf hs zO zO zO (by omega)]
 unfold K9 at h
 cases hv:Dj n C e.kids env (s+1)with
 |err d=>rw[hv]at h;exact h
 |ok zs t =>
  rw[hv]at h
  rw[Rs.bind_ok]at h ⊢
  by_cases h10:e.kind=10
  ·rw[if_pos h10]at h ⊢;exact h
  ·rw[if_neg h10]at h;rw[if_neg h10,if_pos (by omega)];exact h
theorem Sa {α:Type}{r:Rs α}{v:α}(h:AH (go c r) v s1 c1)(hc:c≠0):c1=c:=by
 rw[Dk hc]at h;exact h.1
theorem Xy (hl:e.kids.length=1)(h:AH (go c (Cn n C (e.kids.getD 0 Ex.zero) env s)) x s1 c1):AH (go c (Dj n C e.kids env s)) [x] s1 c1:=by
 have h1:=Gd (l:=e.kids) (k:=0) zO (Ge n C e.kids env s c) h
 rwa [List.take_of_length_le (by omega)]at h1
theorem JM (hl:e.kids.length=2)(h:AH (go c (Cn n C (e.kids.getD 0 Ex.zero) env s)) x s1 c1)(h2:AH (go c1 (Cn n C (e.kids.getD 1 Ex.zero) env s1)) y s2 c2):AH (go c (Dj n C e.kids env s)) [x,y] s2 c2:=by
 have h1:=Gd (l:=e.kids) (k:=0) zO (Ge n C e.kids env s c) h
 have h3:=Gd (l:=e.kids) (k:=1) zO h1 h2
 rwa [List.take_of_length_le (by omega)]at h3
theorem GA (hc:c=0)(hs:s+1≤3000)(hk:e.kind=3∨e.kind=4∨e.kind=5∨e.kind=6∨e.kind=7)(hr:AH (go c (Dj n C e.kids env (s+1))) xs s1 c1)
  (h:c1=0→AH (Ks e.kind xs s1) y s1 c2) (h0:c1≠0→c2=c1):AH (go c (Cn n C e env s)) y s1 c2:=by
 by_cases hc1:c1=0
 ·exact Bb hc hs zO zO zO zO zO zO hr hc1<|h hc1
 ·rw[h0 hc1];exact D4 hc hs zO zO zO zO hr hc1
theorem Sb {p:List Fn}{F:Nat}(hk:e.kind=10)(hF:e.num.toNat<F)(hr:AH (go c (Dj n (Ee p n F) e.kids env s)) xs s1 c1)
  (h2:AH (go c1 (Cn n (Ee p n e.num.toNat) ((p.getD e.num.toNat Fn.zero).outs.getD e.pick.toNat Ex.zero) xs s1)) y s2 c2):AH (go c (K9 n (Ee p n F) e env s)) y s2 c2:=by
 by_cases hc:c=0
 ·subst hc
  rw[Cy]at hr ⊢
  unfold K9
  by_cases hc1:c1=0
  ·subst hc1;rw[hr.bindO,if_pos hk,MG hF];rw[Cy]at h2;exact h2
  ·rw[hr.bindE hc1];rw[Dk hc1]at h2;exact h2
 ·have e1:=Sa hr hc
  subst e1
  rw[Dk hc]at h2 ⊢;exact h2
theorem Sc {f:List Sr→Nat→Rs (List Sr)}{k:Nat}(h:AH (go c (HH f k xs s)) ys s1 c1){zs:List Sr}(h2:AH (go c1 (f ys s1)) zs s2 c2):AH (go c (HH f (k+1) xs s)) zs s2 c2:=by
 by_cases hc:c=0
 ·subst hc
  rw[Cy]at h ⊢
  show AH ((HH f k xs s).bind f) _ _ _
  by_cases hc1:c1=0
  ·subst hc1;rw[h.bindO];rw[Cy]at h2;exact h2
  ·rw[h.bindE hc1];rw[Dk hc1]at h2;exact h2
 ·have e1:=Sa h hc
  subst e1
  rw[Dk hc]at h2 ⊢;exact h2
theorem Sd {f:List Sr→Nat→Rs (List Sr)}(hc:0=0):AH (go c (HH f 0 xs s)) xs s c:=by
 by_cases h:c=0
 ·subst h;exact⟨rfl,rfl,rfl⟩
 ·exact AH.mk_err (Dk h _) h
theorem Se {p:List Fn}{F:Nat}(hk:e.kind≠10)(hF:e.num.toNat<F)(hr:AH (go c (Dj n (Ee p n F) e.kids env s)) xs s1 c1)
  (h2:AH (go c1 (HH (fun a t=>Dj n (Ee p n e.num.toNat) (p.getD e.num.toNat Fn.zero).outs a t) e.count.toNat xs s1)) ys s2 c2):AH (go c (K9 n (Ee p n F) e env s)) (ys.getD e.pick.toNat []) s2 c2:=by
 have hl:(Ee p n F).all e.num.toNat=fun a t=>Dj n (Ee p n e.num.toNat) (p.getD e.num.toNat Fn.zero).outs a t:=funext fun a=>funext fun t=>HI hF
 by_cases hc:c=0
 ·subst hc
  rw[Cy]at hr ⊢
  unfold K9
  by_cases hc1:c1=0
  ·subst hc1
   rw[hr.bindO,if_neg hk,hl]
   rw[Cy]at h2
   by_cases h0:c2=0
   ·subst h0;rw[h2.bindO];exact AH.mk_ok rfl
   ·rw[h2.bindE h0];exact AH.mk_err rfl h0
  ·rw[hr.bindE hc1]
   rw[Dk hc1]at h2
   exact AH.mk_err (by rw[h2.1]) (by rw[h2.1];exact hc1)
 ·have e1:=Sa hr hc
  subst e1
  rw[Dk hc]at h2 ⊢
  exact AH.mk_err (by rw[h2.1]) (by rw[h2.1];exact hc)
end
end
section
def Ea (p:List Fn)(f:Nat)(s:Sr):Int:=Js p 1 f (DY s)
def Ud (p:List Fn)(f:Nat)(s:Sr):Sr:=(JE p 1 f (DY s)).map fun s=>s.getD 0 0
theorem ED {a:Sr}(h:AV a=true):C7 1 (DY a):=by
 intro k hk
 unfold DY at hk ⊢
 rw[List.length_map]at hk
 rw[List.getD_eq_getElem?_getD,List.getElem?_map,List.getElem?_eq_getElem hk]
 refine⟨rfl,?_⟩
 unfold AV at h ⊢
 have:=List.all_eq_true.1 h _ (List.getElem_mem hk)
 simpa using this
theorem OJ {x:List Sr}{n:Nat}(h:C7 (n+1) x):AV (x.map fun s=>s.getD 0 0)=true:=by
 unfold AV
 rw[List.all_eq_true]
 intro y hy
 obtain⟨s,hs,rfl⟩:=List.mem_map.1 hy
 obtain⟨k,hk,rfl⟩:=List.mem_iff_getElem.1 hs
 have h2:=h k hk
 rw[DZ hk]at h2
 exact Xw h2 zO
section
variable {p:List Fn} {f:Nat} {a s:Sr} {k n:Nat}
structure aM (p:List Fn)(f:Nat)(s:Sr):Prop where
 code:0≤Ea p f s∧Ea p f s≤9
 len:Ea p f s=0→(Ud p f s).length=(p.getD f Fn.zero).outs.length
 num:AV (Ud p f s)=true
 non:Ea p f s≠0→Ud p f s=[]
theorem aM.mk' (h:TV p 1 f (DY s)):aM p f s :=
 ⟨h.code,fun h0=>by unfold Ud;rw[List.length_map];exact h.len h0,OJ h.ser,fun h0=>by unfold Ud;rw[h.non h0];rfl⟩
end
end
section
def Rs.map {α β:Type}(f:α→β)(r:Rs α):Rs β:=match r with
 |.ok x s=>.ok (f x) s
 |.err c=>.err c
abbrev C4 (m:Nat)(x:Sr):Sr:=x.take m
theorem CZ {m k:Nat}(x:Sr)(h:k<m):(C4 m x).getD k 0=x.getD k 0:=by
 simp only[C4,List.getD_eq_getElem?_getD,List.getElem?_take,if_pos h]
theorem Kv {m:Nat}(l:Nat)(f g:Nat→Int)(h:∀k,k<m→f k=g k):Ip (min m l) f=C4 m (Ip l g):=by
 unfold Ip C4
 rw[← List.map_take,List.take_range]
 exact List.map_congr_left fun k hk=>h k (by have:=List.mem_range.1 hk;omega)
section
variable {m:Nat} (a b:Sr)
theorem Jb:(C4 m a).length=min m a.length:=List.length_take ..
theorem L1:Dy (C4 m a) (C4 m b)=C4 m (Dy a b):=by
 unfold Dy;rw[Jb]
 exact Kv _ _ _ fun k hk=>by rw[CZ a hk,CZ b hk]
theorem NX:EU (C4 m a) (C4 m b)=C4 m (EU a b):=by
 unfold EU;rw[Jb]
 exact Kv _ _ _ fun k hk=>by rw[CZ a hk,CZ b hk]
theorem Hh (y:Int):CQ (C4 m a) y=C4 m (CQ a y):=by
 unfold CQ;rw[Jb]
 exact Kv _ _ _ fun k hk=>by rw[CZ a hk]
theorem PI {k:Nat}(hk:k<m):∀i,i≤k+1→Mj (C4 m a) (C4 m b) k i=Mj a b k i
 |0,_=>rfl
 |i+1,h=>by
  show md (Mj (C4 m a) (C4 m b) k i+(C4 m a).getD i 0*(C4 m b).getD (k-i) 0)=md (Mj a b k i+a.getD i 0*b.getD (k-i) 0)
  rw[PI hk i zO,CZ a zO,CZ b (by omega)]
theorem Hi:Cb (C4 m a) (C4 m b)=C4 m (Cb a b):=by
 unfold Cb;rw[Jb]
 exact Kv _ _ _ fun k hk=>PI a b hk (k+1)<|A7 _
theorem PJ (o:Sr){k:Nat}(hk:k<m):∀i,i≤k→Nt (C4 m a) (C4 m b) o k i=Nt a b o k i
 |0,_=>CZ a hk
 |i+1,h=>by
  show md (Nt (C4 m a) (C4 m b) o k i-o.getD i 0*(C4 m b).getD (k-i) 0)=md (Nt a b o k i-o.getD i 0*b.getD (k-i) 0)
  rw[PJ o hk i zO,CZ b (by omega)]
theorem PK (hm:1≤m):∀k,k≤m→Iq (C4 m a) (C4 m b) k=Iq a b k
 |0,_=>rfl
 |k+1,h=>by
  rw[Iq,Iq,PK hm k zO,PJ a b _ zO k (A7 _),CZ b (by omega)]
theorem NY:∀ (k j:Nat),j≤k→(Iq a b k).take j = Iq a b j
  | 0, j, h => by have : j = 0 := by omega
                  subst this; rfl
  | k + 1,j,h=>by
    by_cases e:j = k + 1
    · subst e; rw [List.take_of_length_le (by rw [DD]; exact A7 _)]
    · rw [Iq,List.take_append_of_le_length (by rw [DD]; omega)]; exact NY k j zO
theorem L2 (hm:1≤m):Bs (C4 m a) (C4 m b)=C4 m (Bs a b):=by
 unfold Bs;rw[Jb,PK a b hm _ (by omega)]
 show _=(Iq a b a.length).take m
 by_cases h:m≤a.length
 ·rw[NY a b _ _ h,Nat.min_eq_left h]
 ·rw[List.take_of_length_le (by rw[DD];omega),Nat.min_eq_right (by omega)]
end
theorem PL {m n:Nat}(x:Int)(h:m≤n):cst m x=C4 m (cst n x):=by
 unfold cst C4
 rw[List.take_set,List.take_replicate,Nat.min_eq_left h]
theorem C5 {m:Nat}(env:List Sr)(k:Nat):(env.map (C4 m)).getD k []=C4 m (env.getD k []):=by
 simp only[List.getD_eq_getElem?_getD,List.getElem?_map]
 cases env[k]? <;> simp[C4]
structure bE (m:Nat)(C C':Ca):Prop where
 one:∀f j xs t,C'.one f j (xs.map (C4 m)) t=(C.one f j xs t).map (C4 m)
 all:∀f xs t,C'.all f (xs.map (C4 m)) t=(C.all f xs t).map (List.map (C4 m))
theorem Ue {m:Nat}(hm:1≤m)(k:Int)(xs:List Sr)(t:Nat):Ks k (xs.map (C4 m)) t=(Ks k xs t).map (C4 m):=by
 unfold Ks
 rw[C5,C5]
 split
 ·rw[L1];rfl
 ·split
  ·rw[NX];rfl
  ·split
   ·rw[Hi];rfl
   ·split
    ·rw[Hh];rfl
    ·rw[CZ _ (by omega)]
     split
     ·rfl
     ·rw[L2 _ _ hm];rfl
section
variable {m n:Nat} {C C':Ca}
theorem PM (hC:bE m C C')(f:Nat):∀(k:Nat)(xs:List Sr)(t:Nat),HH (C'.all f) k (xs.map (C4 m)) t=(HH (C.all f) k xs t).map (List.map (C4 m))
 |0,xs,t=>rfl
 |k+1,xs,t=>by
  rw[HH,HH,PM hC f k xs t]
  cases HH (C.all f) k xs t with
  |err c=>rfl
  |ok ys u=>exact hC.all f ys u
theorem Kw:∀(l:List Ex),(∀e∈l,∀env s,Cn m C' e (env.map (C4 m)) s=(Cn n C e env s).map (C4 m))→∀env s,Dj m C' l (env.map (C4 m)) s=(Dj n C l env s).map (List.map (C4 m))
 |[],_,env,s=>by rw[Dj,Dj];rfl
 |e::l,h,env,s=>by
  rw[Dj,Dj,h e (List.mem_cons_self ..)]
  cases Cn n C e env s with
  |err c=>rfl
  |ok x t =>
   show(Dj m C' l (env.map (C4 m)) t).bind _=_
   rw[Kw l (fun e he=>h e (List.mem_cons_of_mem _ he)) env t]
   simp only[Rs.bind_ok]
   cases Dj n C l env t <;> rfl
theorem HO:∀(l:List Ex)(j:Nat),(∀e∈l,∀env s,Cn m C' e (env.map (C4 m)) s=(Cn n C e env s).map (C4 m))→∀env s,I9 m C' l j (env.map (C4 m)) s=(I9 n C l j env s).map (C4 m)
 |[],j,_,env,s=>by rw[I9,I9];rfl
 |e::l,0,h,env,s=>by rw[I9,I9];exact h e (List.mem_cons_self ..) env s
 |e::l,j+1,h,env,s=>by rw[I9,I9];exact HO l j (fun e he=>h e (List.mem_cons_of_mem _ he)) env s
theorem JN:∀ {l:List Ex}{e:Ex},e∈l→e.size≤Ex.sizes l
 |[],_,h=>by cases h
 |a::l,e,h=>by
  rw[Ex.sizes]
  rcases List.mem_cons.1 h with rfl|h
  ·omega
  ·have:=JN h;omega
theorem Kx (hm:1≤m)(hmn:m≤n)(hC:bE m C C'):∀(z:Nat)(e:Ex),e.size≤z→∀env s,Cn m C' e (env.map (C4 m)) s=(Cn n C e env s).map (C4 m)
 |0,e,h,_,_=>by have:=Ct e;omega
 |z+1,e,h,env,s=>by
  have hk:∀x∈e.kids,∀env s,Cn m C' x (env.map (C4 m)) s=(Cn n C x env s).map (C4 m):=fun x hx=>Kx hm hmn hC z x (by have:=Ct e;have:=JN hx;omega)
  rw[EK,EK]
  split
  ·rfl
  ·split
   ·rw[PL _ hmn];rfl
   ·split
    ·rw[C5];rfl
    ·split
     ·rw[HO _ 0 hk]
      cases I9 n C e.kids 0 env (s+1)with
      |err c=>rfl
      |ok x t =>
       show(if (C4 m x).getD 0 0=0 then _ else _)=((if x.getD 0 0=0 then _ else _:Rs Sr)).map (C4 m)
       rw[CZ _ (by omega)]
       split
       ·exact HO _ 1 hk env t
       ·exact HO _ 2 hk env t
     ·split
      ·rw[HO _ 0 hk]
       cases I9 n C e.kids 0 env (s+1)with
       |err c=>rfl
       |ok x t =>
        show I9 m C' e.kids 1 (env.map (C4 m)++[C4 m x]) t=(I9 n C e.kids 1 (env++[x]) t).map (C4 m)
        rw[← HO _ 1 hk,List.map_append];rfl
      ·rw[Kw _ hk]
       cases Dj n C e.kids env (s+1)with
       |err c=>rfl
       |ok xs t =>
        show(if e.kind=10 then _ else _)=((if e.kind=10 then _ else _:Rs Sr)).map (C4 m)
        split
        ·exact hC.one _ _ _ _
        ·split
         ·rw[PM hC]
          cases HH (C.all e.num.toNat) e.count.toNat xs t with
          |err c=>rfl
          |ok ys u=>show Rs.ok _ _=Rs.ok _ _;rw[C5]
         ·exact Ue hm _ _ _
theorem PN (p:List Fn)(hm:1≤m)(hmn:m≤n):∀F,bE m (Ee p n F) (Ee p m F)
 |0=>⟨fun _ _ _ _=>rfl,fun _ _ _=>rfl⟩
 |F+1=>by
  have ih:=PN p hm hmn F
  refine⟨fun f j xs t=>?_,fun f xs t=>?_⟩
  ·show(if f=F then _ else _)=((if f=F then _ else _:Rs Sr)).map (C4 m)
   split
   ·exact Kx hm hmn ih _ _ (A7 _) _ _
   ·exact ih.one f j xs t
  ·show(if f=F then _ else _)=((if f=F then _ else _:Rs (List Sr))).map (List.map (C4 m))
   split
   ·exact Kw _ (fun e _=>Kx hm hmn ih _ e<|A7 _) _ _
   ·exact ih.all f xs t
end
theorem Sf (p:List Fn){m n:Nat}(hm:1≤m)(hmn:m≤n)(f:Nat)(a:List Sr):ev p m f (a.map (C4 m))=(ev p n f a).map (List.map (C4 m)) :=
 Kw _ (fun e _=>Kx hm hmn (PN p hm hmn f) _ e (A7 _)) _ _
theorem Uf (p:List Fn){m n:Nat}(hm:1≤m)(hmn:m≤n)(f:Nat)(a:List Sr):JE p m f (a.map (C4 m))=(JE p n f a).map (C4 m):=by
 unfold JE;rw[Sf p hm hmn]
 cases ev p n f a <;> rfl
theorem Ug (p:List Fn){m n:Nat}(hm:1≤m)(hmn:m≤n)(f:Nat)(a:List Sr):Js p m f (a.map (C4 m))=Js p n f a:=by
 unfold Js;rw[Sf p hm hmn]
 cases ev p n f a <;> rfl
end
section
def Xz (n:Nat)(r:Rs Sr):Prop:=match r with
 |.ok x s=>Cj n x∧s≤3000
 |.err c=>c=6∨c=7
def aN (n m:Nat)(r:Rs (List Sr)):Prop:=match r with
 |.ok xs s=>xs.length=m∧C7 n xs∧s≤3000
 |.err c=>c=6∨c=7
structure bF (p:List Fn)(n F:Nat)(C:Ca):Prop where
 one:∀f j xs t,f<F→j<(p.getD f Fn.zero).outs.length→C7 n xs→((xs.length:Nat):Int)=(p.getD f Fn.zero).params→t≤3000→Xz n (C.one f j xs t)
 all:∀f xs t,f<F→C7 n xs→((xs.length:Nat):Int)=(p.getD f Fn.zero).params→t≤3000→aN n (p.getD f Fn.zero).outs.length (C.all f xs t)
theorem C7.nil (n:Nat):C7 n []:=fun k hk=>by simp at hk
theorem C7.cons {n:Nat}{x:Sr}{xs:List Sr}(hx:Cj n x)(h:C7 n xs):C7 n (x::xs):=by
 intro k hk
 cases k with
 |zero=>exact hx
 |succ k=>exact h k (by simpa using hk)
theorem Sg {n:Nat}{C:Ca}{env:List Sr}:∀(l:List Ex),(∀e∈l,∀s,s≤3000→Xz n (Cn n C e env s))→∀s,s≤3000→aN n l.length (Dj n C l env s)
 |[],_,s,hs=>by rw[Dj];exact⟨rfl,C7.nil n,hs⟩
 |e::l,h,s,hs=>by
  rw[Dj]
  have h1:=h e (List.mem_cons_self ..) s hs
  cases h2:Cn n C e env s with
  |err c=>rw[h2]at h1;exact h1
  |ok x t =>
   rw[h2]at h1
   have h3:=Sg l (fun e he=>h e<|List.mem_cons_of_mem _ he) t h1.2
   rw[Rs.bind_ok]
   cases h4:Dj n C l env t with
   |err c=>rw[h4]at h3;exact h3
   |ok xs u=>rw[h4]at h3;exact⟨by simp[h3.1],C7.cons h1.1 h3.2.1,h3.2.2⟩
theorem V5 {p:List Fn}{n F f:Nat}{C:Ca}(hC:bF p n F C)(hf:f<F)(ho:(((p.getD f Fn.zero).outs.length:Nat):Int)=(p.getD f Fn.zero).params):∀(k:Nat)(xs:List Sr)(t:Nat),C7 n xs→xs.length=(p.getD f Fn.zero).outs.length→t≤3000→aN n (p.getD f Fn.zero).outs.length (HH (C.all f) k xs t)
 |0,xs,t,h1,h2,h3=>⟨h2,h1,h3⟩
 |k+1,xs,t,h1,h2,h3=>by
  have h:=V5 hC hf ho k xs t h1 h2 h3
  rw[HH]
  cases h4:HH (C.all f) k xs t with
  |err c=>rw[h4]at h;exact h
  |ok ys u=>rw[h4]at h;rw[Rs.bind_ok];exact hC.all f ys u hf h.2.1 (by rw[h.1];exact ho) h.2.2
theorem Ym {n:Nat}{k:Int}{xs:List Sr}{t:Nat}(hx:C7 n xs)(h0:0<xs.length)(ht:t≤3000):Xz n (Ks k xs t):=by
 have h1:=(hx 0 h0).1
 unfold Ks
 split
 ·exact⟨⟨by rw[Dz];exact h1,Fq _ _⟩,ht⟩
 ·split
  ·exact⟨⟨by rw[Fp];exact h1,Fs _ _⟩,ht⟩
  ·split
   ·exact⟨⟨by rw[EB];exact h1,DW _ _⟩,ht⟩
   ·split
    ·exact⟨⟨by rw[EC];exact h1,DA _ _⟩,ht⟩
    ·split
     ·exact .inl rfl
     ·exact⟨⟨by rw[DX];exact h1,Dx _ _⟩,ht⟩
theorem Sh {p:List Fn}{n F:Nat}{C:Ca}(hC:bF p n F C):∀(z:Nat)(e:Ex),e.size≤z→∀(env:List Sr)(s:Nat),wf p ((F:Nat):Int) e ((env.length:Nat):Int)=true→C7 n env→s≤3000→Xz n (Cn n C e env s)
 |0,e,h,_,_,_,_,_=>by have:=Ct e;omega
 |z+1,e,h,env,s,hw,he,hs=>by
  obtain⟨w1,w2,w3,w4,w5,w6,w7,w8⟩:=CY (CJ hw)
  have hz:∀j,j<e.kids.length→(e.kids.getD j Ex.zero).size≤z:=fun j hj=>by
   have h2:e.kids.getD j Ex.zero∈e.kids:=by rw[DZ hj];exact List.getElem_mem hj
   have:=Ct e;have:=JN h2;omega
  have hk:∀j,j<e.kids.length→¬(e.kind=9∧j=1)→∀t,t≤3000→Xz n (I9 n C e.kids j env t):=fun j hj hn t ht=>by
   rw[Du _ _ _ _ _ _ hj]
   exact Sh hC z _ (hz j hj) env t (DN hw hj hn) he ht
  rw[EK]
  split
  ·exact .inr rfl
  ·rename_i hs3
   split
   ·rename_i h1;exact⟨Dr (BR.2 (w8 h1)),zO⟩
   ·split
    ·rename_i h1 h2;exact⟨he _ (by have:=w2 h2;omega),zO⟩
    ·split
     ·rename_i h1 h2 h8
      have h3:=w5 h8
      have hc:=hk 0 zO zO (s+1) zO
      cases h4:I9 n C e.kids 0 env (s+1)with
      |err c=>rw[h4]at hc;exact hc
      |ok x t =>
       rw[h4]at hc;rw[Rs.bind_ok]
       split
       ·exact hk 1 zO zO t hc.2
       ·exact hk 2 zO zO t hc.2
     ·split
      ·rename_i h1 h2 h8 h9
       have h3:=w3 zO
       have hc:=hk 0 zO zO (s+1) zO
       cases h4:I9 n C e.kids 0 env (s+1)with
       |err c=>rw[h4]at hc;exact hc
       |ok x t =>
        rw[h4]at hc;rw[Rs.bind_ok,Du _ _ _ _ _ _ (show 1<e.kids.length by omega)]
        refine Sh hC z _ (hz 1 zO) (env++[x]) t ?_ (he.snoc hc.1) hc.2
        have:=JC hw zO h9
        rw[List.length_append,List.length_singleton];exact this
      ·rename_i h1 h2 h8 h9
       have hc:=Sg (n:=n) (C:=C) (env:=env) e.kids (fun x hx t ht=>by
        obtain⟨j,hj,rfl⟩:=List.mem_iff_getElem.1 hx
        have:=hk j hj zO t ht
        rwa [Du _ _ _ _ _ _ hj,DZ hj]at this) (s+1) zO
       cases h4:Dj n C e.kids env (s+1)with
       |err c=>rw[h4]at hc;exact hc
       |ok xs t =>
        rw[h4]at hc;rw[Rs.bind_ok]
        obtain⟨c1,c2,c3⟩:=hc
        split
        ·rename_i h10
         have h6:=w6<|.inl h10
         exact hC.one _ _ xs t zO zO c2 (by rw[c1];exact h6.2.2.1) c3
        ·split
         ·rename_i h11
          have h6:=w6 (.inr h11);have h7:=w7 h11
          have hl:=V5 hC (f:=e.num.toNat) zO h7.1 e.count.toNat xs t c2 zO c3
          cases h5:HH (C.all e.num.toNat) e.count.toNat xs t with
          |err c=>rw[h5]at hl;exact hl
          |ok ys u=>rw[h5]at hl;exact⟨hl.2.1 _ (by rw[hl.1];omega),hl.2.2⟩
         ·refine Ym c2 ?_ c3
          rw[c1]
          by_cases h7:e.kind=7
          ·rw[w4 h7];decide
          ·rw[w3 (by omega)];decide
theorem V6 {p:List Fn}(hv:HW p)(n:Nat):∀F,F≤p.length→bF p n F (Ee p n F)
 |0,_=>⟨fun f j xs t h=>by omega,fun f xs t h=>by omega⟩
 |F+1,hF=>by
  have ih:=V6 hv n F zO
  have hO:∀j xs t,j<(p.getD F Fn.zero).outs.length→C7 n xs→((xs.length:Nat):Int)=(p.getD F Fn.zero).params→t≤3000→Xz n (Cn n (Ee p n F) ((p.getD F Fn.zero).outs.getD j Ex.zero) xs t):=fun j xs t h2 h3 h4 h5 =>
   Sh ih _ _ (A7 _) xs t (by rw[h4];exact hv.wf F zO j h2) h3 h5
  refine⟨fun f j xs t h1 h2 h3 h4 h5=>?_,fun f xs t h1 h3 h4 h5=>?_⟩
  ·show Xz n (if f=F then _ else _)
   split
   ·rename_i e;subst e;exact hO j xs t h2 h3 h4 h5
   ·exact ih.one f j xs t zO h2 h3 h4 h5
  ·show aN n _ (if f=F then _ else _)
   split
   ·rename_i e;subst e
    refine Sg _ (fun e he s hs=>?_) t h5
    obtain⟨j,hj,rfl⟩:=List.mem_iff_getElem.1 he
    have:=hO j xs s hj h3 h4 hs
    rwa [DZ hj]at this
   ·exact ih.all f xs t zO h3 h4 h5
theorem XA {a b:Sr}(hl:a.length=b.length)(h:∀j,j<a.length→a.getD j 0=b.getD j 0):a=b :=
 List.ext_getElem hl fun j h1 h2=>by have:=h j h1;rwa [DZ h1,DZ h2]at this
theorem Uh {y z:List Sr}(hl:y.length=z.length)(h:∀j,j<y.length→y.getD j []=z.getD j []):y=z :=
 List.ext_getElem hl fun j h1 h2=>by have:=h j h1;rwa [DZ h1,DZ h2]at this
section
variable {p:List Fn} {f o:Nat} {a:List Int}
theorem Si (s:Sr)(k:Nat)(x:Int)(j:Nat):(s.set k x).getD j 0=if j=k∧k<s.length then x else s.getD j 0:=by
 simp only[List.getD_eq_getElem?_getD,List.getElem?_set]
 by_cases e:k=j
 ·subst e
  by_cases h:k<s.length
  ·simp[h]
  ·simp[h,List.getElem?_eq_none (Nat.le_of_not_lt h)]
 ·rw[if_neg e,if_neg (by omega)]
end
end
theorem Sj {s:ByteArray}(h:KS s=true):s.size≤12:=by
 unfold KS at h
 simp only[Bool.and_eq_true,decide_eq_true_eq]at h
 exact h.1.2
theorem LL.szp {p:List Fn}{pl:Bool}(h:LL p pl):QL p:=fun k hk=>⟨by have:=h.sz k hk;omega,by have:=h.outs k hk;omega,by have:=Sj (h.nm k hk);omega⟩
section
def Jt (p:List Fn)(f:Int)(a:Sr):Int:=if Gg p f=0 then(if (decide (((a.length:Nat):Int)=(p.getD f.toNat Fn.zero).params) && AV a)=true then 0 else 2)else Gg p f
def Ui (p:List Fn)(f:Int)(a:Sr):Int:=if Jt p f a=0 then Ea p f.toNat a else Jt p f a
def bG (p:List Fn)(f:Int)(a:Sr):Sr:=if Jt p f a=0 then Ud p f.toNat a else []
def XB (p:List Fn)(f:Int)(a:Sr):Nat:=if Jt p f a=0 then MI p 1 f.toNat (DY a)else 0
section
variable {p:List Fn} {f:Int} {a:Sr}
theorem Yn (h:Jt p f a=0):JF p=true∧(0≤f∧f<((p.length:Nat):Int))∧((a.length:Nat):Int)=(p.getD f.toNat Fn.zero).params∧AV a=true:=by
 unfold Jt at h
 split at h
 ·rename_i h1
  split at h
  ·rename_i h2
   rw[Bool.and_eq_true,decide_eq_true_eq]at h2
   obtain⟨q1,q2,q3⟩:=PH h1
   exact⟨q1,⟨q2,q3⟩,h2.1,h2.2⟩
  ·omega
 ·rename_i h1;exact absurd h h1
theorem Yo (h:Gg p f≠0):Gg p f=Jt p f a:=by unfold Jt;rw[if_neg h]
theorem Yp (h:Gg p f=0)(h2:(decide (((a.length:Nat):Int)=(p.getD f.toNat Fn.zero).params) && AV a)=false):2=Jt p f a:=by unfold Jt;rw[if_pos h,h2];rfl
theorem bH (h:Gg p f=0)(h2:(decide (((a.length:Nat):Int)=(p.getD f.toNat Fn.zero).params) && AV a)=true):0=Jt p f a:=by unfold Jt;rw[if_pos h,h2];rfl
theorem Yq (h:Jt p f a≠0):Ui p f a=Jt p f a:=if_neg h
theorem Yr (h:Jt p f a≠0):bG p f a=[]:=if_neg h
theorem Ys (h:Jt p f a≠0):XB p f a=0:=if_neg h
theorem V7 (h:Jt p f a=0):Ui p f a=Ea p f.toNat a:=if_pos h
theorem Yt (h:Jt p f a=0):bG p f a=Ud p f.toNat a:=if_pos h
theorem Yu (h:Jt p f a=0):XB p f a=MI p 1 f.toNat (DY a):=if_pos h
end
end
section
def HP {α:Type}(K:Nat)(R:(Nat→α)→α→Prop)(r:Nat→Rs α)(rz:Rs α):Prop:=match rz with
 |.ok z t=>∃x,(∀k,k<K→r k=.ok (x k) t)∧R x z
 |.err c=>∀k,k<K→r k=.err c
theorem HP.congr {α:Type}{K:Nat}{R:(Nat→α)→α→Prop}{r r':Nat→Rs α}{rz:Rs α}(h:HP K R r rz)(e:∀k,k<K→r' k=r k):HP K R r' rz:=by
 cases rz with
 |ok z t=>obtain⟨x,h1,h2⟩:=h;exact⟨x,fun k hk=>(e k hk).trans (h1 k hk),h2⟩
 |err c=>exact fun k hk=>(e k hk).trans (h k hk)
theorem HP.bind {α β:Type}{K:Nat}{R:(Nat→α)→α→Prop}{R':(Nat→β)→β→Prop}{r:Nat→Rs α}{rz:Rs α}{g:Nat→α→Nat→Rs β}{gz:α→Nat→Rs β}(h:HP K R r rz)
  (hg:∀x z t,R x z→HP K R' (fun k=>g k (x k) t) (gz z t)):HP K R' (fun k=>(r k).bind (g k)) (rz.bind gz):=by
 cases rz with
 |ok z t =>
  obtain⟨x,h1,h2⟩:=h
  exact(hg x z t h2).congr fun k hk=>by rw[h1 k hk];rfl
 |err c=>exact fun k hk=>by show(r k).bind _=_;rw[h k hk];rfl
theorem HP.ret {α:Type}{K:Nat}{R:(Nat→α)→α→Prop}{x:Nat→α}{z:α}{t:Nat}(h:R x z):HP K R (fun k=>.ok (x k) t) (.ok z t):=⟨x,fun _ _=>rfl,h⟩
theorem HP.fail {α:Type}{K:Nat}{R:(Nat→α)→α→Prop}{c:Int}:HP K R (fun _=>.err c) (.err c):=fun _ _=>rfl
structure Y3 (K:Nat)(n:Nat→Nat)(nz:Nat)(R:(Nat→Sr)→Sr→Prop):Prop where
 zero:∀x z,R x z→∀k,k<K→((x k).getD 0 0=0↔z.getD 0 0=0)
 cst:∀c,I8 c=true→R (fun k=>cst (n k) c) (Go.Proofs.YtbajepcpgncekaaGreat.cst nz c)
 add:∀x z y w,R x z→R y w→R (fun k=>Dy (x k) (y k)) (Dy z w)
 red:∀x z y w,R x z→R y w→R (fun k=>EU (x k) (y k)) (EU z w)
 pro:∀x z y w,R x z→R y w→R (fun k=>Cb (x k) (y k)) (Cb z w)
 scl:∀x z,R x z→R (fun k=>CQ (x k) 1000002) (CQ z 1000002)
 quo:∀x z y w,R x z→R y w→w.getD 0 0≠0→R (fun k=>Bs (x k) (y k)) (Bs z w)
def Ky (K:Nat)(R:(Nat→Sr)→Sr→Prop)(m:Nat)(xs:Nat→List Sr)(zs:List Sr):Prop:=zs.length=m∧(∀k,k<K→(xs k).length=m)∧∀i,i<m→∃x,(∀k,k<K→(xs k).getD i []=x k)∧R x (zs.getD i [])
section
variable {K:Nat} {n:Nat→Nat} {nz:Nat} {R:(Nat→Sr)→Sr→Prop} {p:List Fn}
theorem Ky.nil:Ky K R 0 (fun _=>[]) []:=⟨rfl,fun _ _=>rfl,fun i hi=>by omega⟩
theorem Ky.cons {m:Nat}{x:Nat→Sr}{z:Sr}{xs:Nat→List Sr}{zs:List Sr}(h1:R x z)(h:Ky K R m xs zs):Ky K R (m+1) (fun k=>x k::xs k) (z::zs):=by
 refine⟨by rw[List.length_cons,h.1],fun k hk=>by rw[List.length_cons,h.2.1 k hk],fun i hi=>?_⟩
 cases i with
 |zero=>exact⟨x,fun _ _=>rfl,h1⟩
 |succ i =>
  obtain⟨y,h3,h4⟩:=h.2.2 i zO
  exact⟨y,fun k hk=>by simpa using h3 k hk,by simpa using h4⟩
theorem Ky.snoc {m:Nat}{x:Nat→Sr}{z:Sr}{xs:Nat→List Sr}{zs:List Sr}(h:Ky K R m xs zs)(h1:R x z):Ky K R (m+1) (fun k=>xs k++[x k]) (zs++[z]):=by
 refine⟨by simp[h.1],fun k hk=>by simp[h.2.1 k hk],fun i hi=>?_⟩
 by_cases e:i=m
 ·exact⟨x,fun k hk=>H9 (by rw[h.2.1 k hk];exact e),by rw[H9 (by rw[h.1];exact e)];exact h1⟩
 ·obtain⟨y,h3,h4⟩:=h.2.2 i zO
  exact⟨y,fun k hk=>by rw[GY (by rw[h.2.1 k hk];omega)];exact h3 k hk,by rw[GY (by rw[h.1];omega)];exact h4⟩
structure bI (K:Nat)(R:(Nat→Sr)→Sr→Prop)(p:List Fn)(F:Nat)(C:Nat→Ca)(Cz:Ca):Prop where
 one:∀f j m xs zs t,f<F→j<(p.getD f Fn.zero).outs.length→Ky K R m xs zs→((m:Nat):Int)=(p.getD f Fn.zero).params→HP K R (fun k=>(C k).one f j (xs k) t) (Cz.one f j zs t)
 all:∀f m xs zs t,f<F→Ky K R m xs zs→((m:Nat):Int)=(p.getD f Fn.zero).params→HP K (Ky K R (p.getD f Fn.zero).outs.length) (fun k=>(C k).all f (xs k) t) (Cz.all f zs t)
theorem Sk {C:Nat→Ca}{Cz:Ca}{env:Nat→List Sr}{ez:List Sr}:∀(l:List Ex),(∀e∈l,∀s,HP K R (fun k=>Cn (n k) (C k) e (env k) s) (Cn nz Cz e ez s))→∀s,HP K (Ky K R l.length) (fun k=>Dj (n k) (C k) l (env k) s) (Dj nz Cz l ez s)
 |[],_,s=>by
  simp only[Dj]
  exact HP.ret Ky.nil
 |e::l,h,s=>by
  simp only[Dj]
  exact (h e (List.mem_cons_self ..) s).bind fun x z t hx=>(Sk l (fun e he=>h e<|List.mem_cons_of_mem _ he) t).bind fun xs zs u hxs=>HP.ret<|hxs.cons hx
theorem V8 {F f:Nat}{C:Nat→Ca}{Cz:Ca}(hC:bI K R p F C Cz)(hf:f<F)(ho:(((p.getD f Fn.zero).outs.length:Nat):Int)=(p.getD f Fn.zero).params):∀(c:Nat)(xs:Nat→List Sr)(zs:List Sr)(t:Nat),Ky K R (p.getD f Fn.zero).outs.length xs zs →
  HP K (Ky K R (p.getD f Fn.zero).outs.length) (fun k=>HH ((C k).all f) c (xs k) t) (HH (Cz.all f) c zs t)
 |0,xs,zs,t,h=>HP.ret h
 |c+1,xs,zs,t,h=>(V8 hC hf ho c xs zs t h).bind fun ys ws u hy=>hC.all f _ ys ws u hf hy ho
theorem Ky.at {m i:Nat}{xs:Nat→List Sr}{zs:List Sr}{t:Nat}(h:Ky K R m xs zs)(hi:i<m):HP K R (fun k=>.ok ((xs k).getD i []) t) (.ok (zs.getD i []) t):=by
 obtain⟨x,h1,h2⟩:=h.2.2 i hi
 exact(HP.ret h2).congr fun k hk=>by rw[h1 k hk]
theorem Ky.two {m t t':Nat}{xs:Nat→List Sr}{zs:List Sr}{o:Sr→Sr→Sr}(h:Ky K R m xs zs)(hm:2≤m)(ho:∀x z y w,R x z→R y w→R (fun k=>o (x k) (y k)) (o z w)) :
  HP K R (fun k=>.ok (o ((xs k).getD 0 []) ((xs k).getD 1 [])) t) (.ok (o (zs.getD 0 []) (zs.getD 1 [])) t):=by
 obtain⟨x,h1,h2⟩:=h.2.2 0 zO
 obtain⟨y,h3,h4⟩:=h.2.2 1 zO
 exact(HP.ret (ho x _ y _ h2 h4)).congr fun k hk=>by rw[h1 k hk,h3 k hk]
theorem Yw (hR:Y3 K n nz R){kd:Int}{m t:Nat}{xs:Nat→List Sr}{zs:List Sr}(h:Ky K R m xs zs)(h1:kd=7→1≤m)(h2:kd≠7→2≤m):HP K R (fun k=>Ks kd (xs k) t) (Ks kd zs t):=by
 unfold Ks
 by_cases k3:kd=3
 ·simp only[if_pos k3];exact h.two (t':=0) (h2 zO) hR.add
 simp only[if_neg k3]
 by_cases k4:kd=4
 ·simp only[if_pos k4];exact h.two (t':=0) (h2 zO) hR.red
 simp only[if_neg k4]
 by_cases k5:kd=5
 ·simp only[if_pos k5];exact h.two (t':=0) (h2 zO) hR.pro
 simp only[if_neg k5]
 by_cases k7:kd=7
 ·simp only[if_pos k7]
  obtain⟨x,q1,q2⟩:=h.2.2 0 (h1 k7)
  exact(HP.ret (hR.scl x _ q2)).congr fun k hk=>by rw[q1 k hk]
 simp only[if_neg k7]
 obtain⟨x,q1,q2⟩:=h.2.2 0 (by have:=h2 k7;omega)
 obtain⟨y,q3,q4⟩:=h.2.2 1 (by have:=h2 k7;omega)
 have hz:=hR.zero y _ q4
 by_cases h0:(zs.getD 1 []).getD 0 0=0
 ·simp only[if_pos h0]
  exact fun k hk=>by
   show(if List.getD ((xs k).getD 1 []) 0 0=0 then _ else _)=_
   rw[q3 k hk,if_pos ((hz k hk).2 h0)]
 ·simp only[if_neg h0]
  exact(HP.ret (hR.quo x _ y _ q2 q4 h0)).congr fun k hk=>by rw[q3 k hk,q1 k hk,if_neg fun h=>h0 ((hz k hk).1 h)]
theorem Sl (hR:Y3 K n nz R){F:Nat}{C:Nat→Ca}{Cz:Ca}(hC:bI K R p F C Cz):∀(z:Nat)(e:Ex),e.size≤z→∀(m:Nat)(env:Nat→List Sr)(ez:List Sr)(s:Nat),wf p ((F:Nat):Int) e ((m:Nat):Int)=true→Ky K R m env ez→HP K R (fun k=>Cn (n k) (C k) e (env k) s) (Cn nz Cz e ez s)
 |0,e,h,_,_,_,_,_,_=>by have:=Ct e;omega
 |z+1,e,h,m,env,ez,s,hw,he=>by
  obtain⟨w1,w2,w3,w4,w5,w6,w7,w8⟩:=CY (CJ hw)
  have hz:∀j,j<e.kids.length→(e.kids.getD j Ex.zero).size≤z:=fun j hj=>by
   have:=Ct e;have:=KM hj;omega
  have hk:∀j,j<e.kids.length→¬(e.kind=9∧j=1)→∀t,HP K R (fun k=>I9 (n k) (C k) e.kids j (env k) t) (I9 nz Cz e.kids j ez t):=fun j hj hn t=>by
   simp only[Du _ _ _ _ _ _ hj]
   exact Sl hR hC z _ (hz j hj) m env ez t (DN hw hj hn) he
  simp only[EK]
  by_cases hs3:3000≤s
  ·simp only[if_pos hs3];exact HP.fail
  simp only[if_neg hs3]
  by_cases k1:e.kind=1
  ·simp only[if_pos k1];exact HP.ret (hR.cst _ (BR.2 (w8 k1)))
  simp only[if_neg k1]
  by_cases k2:e.kind=2
  ·simp only[if_pos k2];exact he.at (by have:=w2 k2;omega)
  simp only[if_neg k2]
  by_cases k8:e.kind=8
  ·simp only[if_pos k8]
   have h3:=w5 k8
   refine (hk 0 zO zO (s+1)).bind fun x y t hx=>?_
   have hq:=hR.zero x y hx
   by_cases h0:y.getD 0 0=0
   ·simp only[if_pos h0]
    exact(hk 1 zO zO t).congr fun k hk=>by rw[if_pos ((hq k hk).2 h0)]
   ·simp only[if_neg h0]
    exact(hk 2 zO zO t).congr fun k hk=>by rw[if_neg fun h=>h0 ((hq k hk).1 h)]
  simp only[if_neg k8]
  by_cases k9:e.kind=9
  ·simp only[if_pos k9]
   have h3:=w3 zO
   refine (hk 0 zO zO (s+1)).bind fun x y t hx=>?_
   simp only[Du _ _ _ _ _ _ (show 1<e.kids.length by omega)]
   refine Sl hR hC z _ (hz 1 zO) (m+1) (fun k=>env k++[x k]) (ez++[y]) t ?_<|he.snoc hx
   have:=JC hw zO k9
   rw[Int.natCast_add];exact this
  simp only[if_neg k9]
  have hc:=Sk (n:=n) (C:=C) (nz:=nz) (Cz:=Cz) (env:=env) (ez:=ez) e.kids (fun x hx t=>by
   obtain⟨j,hj,rfl⟩:=List.mem_iff_getElem.1 hx
   have:=hk j hj zO t
   simp only[Du _ _ _ _ _ _ hj,DZ hj]at this
   exact this) (s+1)
  refine hc.bind fun xs zs t hx=>?_
  by_cases k10:e.kind=10
  ·simp only[if_pos k10]
   have h6:=w6<|.inl k10
   exact hC.one _ _ _ xs zs t zO zO hx (by exact h6.2.2.1)
  simp only[if_neg k10]
  by_cases k11:e.kind=11
  ·simp only[if_pos k11]
   have h6:=w6 (.inr k11);have h7:=w7 k11
   have hl:e.kids.length=(p.getD e.num.toNat Fn.zero).outs.length:=by omega
   rw[hl]at hx
   exact (V8 hC (f:=e.num.toNat) zO h7.1 e.count.toNat xs zs t hx).bind fun ys ws u hy=>hy.at zO
  simp only[if_neg k11]
  exact Yw hR hx (fun h7=>by rw[w4 h7];decide) fun h7=>by rw[w3 (by omega)];decide
theorem V9 (hR:Y3 K n nz R)(hv:HW p):∀F,F≤p.length→bI K R p F (fun k=>Ee p (n k) F) (Ee p nz F)
 |0,_=>⟨fun f j m xs zs t h=>by omega,fun f m xs zs t h=>by omega⟩
 |F+1,hF=>by
  have ih:=V9 hR hv F zO
  have hO:∀j m xs zs t,j<(p.getD F Fn.zero).outs.length→Ky K R m xs zs→((m:Nat):Int)=(p.getD F Fn.zero).params→HP K R (fun k=>Cn (n k) (Ee p (n k) F) ((p.getD F Fn.zero).outs.getD j Ex.zero) (xs k) t) (Cn nz (Ee p nz F) ((p.getD F Fn.zero).outs.getD j Ex.zero) zs t):=fun j m xs zs t h2 h3 h4 =>
   Sl hR ih _ _ (A7 _) m xs zs t (by rw[h4];exact hv.wf F zO j h2) h3
  refine⟨fun f j m xs zs t h1 h2 h3 h4=>?_,fun f m xs zs t h1 h3 h4=>?_⟩
  ·show HP K R (fun k=>if f=F then _ else _) (if f=F then _ else _)
   by_cases e:f=F
   ·subst e;simp only[if_true];exact hO j m xs zs t h2 h3 h4
   ·simp only[if_neg e];exact ih.one f j m xs zs t zO h2 h3 h4
  ·show HP K _ (fun k=>if f=F then _ else _) (if f=F then _ else _)
   by_cases e:f=F
   ·subst e;simp only[if_true]
    refine Sk _ (fun e he s=>?_) t
    obtain⟨j,hj,rfl⟩:=List.mem_iff_getElem.1 he
    have:=hO j m xs zs s hj h3 h4
    rwa [DZ hj]at this
   ·simp only[if_neg e];exact ih.all f m xs zs t zO h3 h4
theorem Yx (hR:Y3 K n nz R)(hv:HW p){f m:Nat}{a:Nat→List Sr}{az:List Sr}(hf:f<p.length)(ha:Ky K R m a az)(hl:((m:Nat):Int)=(p.getD f Fn.zero).params) :
  HP K (Ky K R (p.getD f Fn.zero).outs.length) (fun k=>ev p (n k) f (a k)) (ev p nz f az):=by
 have h:=(V9 hR hv (f+1) zO).all f m a az 0 zO ha hl
 simp only[HI (show f<f+1 by omega)]at h
 exact h
end
end
theorem GS {a b:Sr}{k:Nat}(h:k<a.length):(Dy a b).getD k 0=md (a.getD k 0+b.getD k 0):=C3 0 h
theorem Ia {a b:Sr}{k:Nat}(h:k<a.length):(EU a b).getD k 0=md (a.getD k 0-b.getD k 0):=C3 0 h
theorem Hj {a:Sr}{y:Int}{k:Nat}(h:k<a.length):(CQ a y).getD k 0=md (a.getD k 0*y):=C3 0 h
theorem NZ {a b:Sr}(h:0<a.length):(Cb a b).getD 0 0=md (0+a.getD 0 0*b.getD 0 0):=C3 0 h
theorem Va {a b:Sr}(h:1<a.length):(Cb a b).getD 1 0=md (md (0+a.getD 0 0*b.getD 1 0)+a.getD 1 0*b.getD 0 0):=C3 0 h
theorem O0 {a b:Sr}(h:0<a.length):(Bs a b).getD 0 0=md (a.getD 0 0*inv (b.getD 0 0)):=HG h
theorem Vb {a b:Sr}(h:1<a.length):(Bs a b).getD 1 0=md (md (a.getD 1 0-(Bs a b).getD 0 0*b.getD 1 0)*inv (b.getD 0 0)):=HG h
theorem Uj {n:Nat}{c:Int}(h:0<n):(cst n c).getD 0 0=c:=by
 obtain⟨n,rfl⟩:∃k,n=k+1:=⟨n-1,zO⟩
 unfold cst;rw[List.replicate_succ];rfl
structure Yy (p:List Fn)(f pk:Int)(a b:List Int):Prop where
 dr:LL p false
 dn:Dn p
 len:1≤p.length∧p.length≤3
 fe:f=((p.length:Nat):Int)-1
 pk:0≤pk∧pk<(((p.getD f.toNat Fn.zero).outs.length:Nat):Int)
 la:((a.length:Nat):Int)=(p.getD f.toNat Fn.zero).params∧AV a=true
 lb:((b.length:Nat):Int)=(p.getD f.toNat Fn.zero).params∧AV b=true
theorem Yz {p:List Fn}{f:Int}{a:Sr}(h:JF p=true)(hf:0≤f∧f<((p.length:Nat):Int))(hl:((a.length:Nat):Int)=(p.getD f.toNat Fn.zero).params)(hn:AV a=true):Jt p f a=0:=by
 unfold Jt Gg
 rw[if_pos h,if_pos (by omega)]
 rw[if_pos]
 rw[Bool.and_eq_true,decide_eq_true_eq];exact⟨hl,hn⟩
theorem Sm {p:List Fn}(hv:HW p){n f:Nat}{a:List Sr}(hf:f<p.length)(ha:C7 n a)(hl:((a.length:Nat):Int)=(p.getD f Fn.zero).params) :
  (∃x s,ev p n f a=.ok x s∧x.length=(p.getD f Fn.zero).outs.length∧C7 n x)∨ev p n f a=.err 6∨ev p n f a=.err 7:=by
 have h:=(V6 hv n (f+1) zO).all f a 0 zO ha hl zO
 rw[HI (by omega)]at h
 have e:ev p n f a=Dj n (Ee p n f) (p.getD f Fn.zero).outs a 0:=rfl
 rw[← e]at h
 cases h2:ev p n f a with
 |err c =>
  rw[h2]at h;have h:c=6∨c=7:=h
  rcases h with rfl|rfl
  ·exact .inr<|.inl rfl
  ·exact .inr<|.inr rfl
 |ok xs s =>
  rw[h2]at h;have h:xs.length=_∧C7 n xs∧s≤3000:=h
  exact .inl ⟨xs,s,rfl,h.1,h.2.1⟩
def Df (a d:List Int)(n:Nat):List Sr:=Ip a.length fun i=>(cst n (a.getD i 0)).set 1 (d.getD i 0)
@[simp] theorem CA (a d:List Int)(n:Nat):(Df a d n).length=a.length:=by simp[Df]
theorem Fu {a d:List Int}{n k:Nat}(h:k<a.length):(Df a d n).getD k []=(cst n (a.getD k 0)).set 1 (d.getD k 0):=C3 [] h
theorem Kz {a d:List Int}{n:Nat}(ha:AV a=true)(hd:AV d=true):C7 n (Df a d n):=fun k hk=>by
 rw[CA]at hk
 rw[Fu hk]
 refine⟨by rw[List.length_set,Kt],?_⟩
 have h1:=Dr (n:=n)<|BR.2<|Bu ha k
 unfold AV
 rw[List.all_eq_true]
 intro y hy
 rcases List.mem_or_eq_of_mem_set hy with hy|rfl
 ·have:=h1.2;unfold AV at this;exact List.all_eq_true.1 this y hy
 ·exact BR.2<|Bu hd k
def Nu (p:List Fn)(f:Int)(a d:Sr):Int:=if Gg p f=0 then(if ((decide (((a.length:Nat):Int)=(p.getD f.toNat Fn.zero).params) && AV a) && (decide (((d.length:Nat):Int)=(p.getD f.toNat Fn.zero).params) && AV d))=true then 0 else 2)else Gg p f
theorem Vc {p:List Fn}{f:Int}{a d:Sr}(h:Nu p f a d=0):JF p=true∧(0≤f∧f<((p.length:Nat):Int))∧(((a.length:Nat):Int)=(p.getD f.toNat Fn.zero).params∧AV a=true)∧((d.length:Nat):Int)=(p.getD f.toNat Fn.zero).params∧AV d=true:=by
 unfold Nu at h
 split at h
 ·rename_i h1
  split at h
  ·rename_i h2
   simp only[Bool.and_eq_true,decide_eq_true_eq]at h2
   obtain⟨q1,q2,q3⟩:=PH h1
   exact⟨q1,⟨q2,q3⟩,h2.1,h2.2⟩
  ·omega
 ·rename_i h1;exact absurd h h1
theorem Uk {H:Array Obj}:Rd (B2 rI) H (.slice none 0 0) []:=⟨[],.inl ⟨none,0,rfl,rfl,rfl⟩⟩
def Bm (n:Nat)(ps:List Int):Nat→List Int
 |0=>List.replicate n 0
 |j+1=>(Bm n ps j).set (ps.getD j 0).toNat (md ((Bm n ps j).getD (ps.getD j 0).toNat 0+1))
theorem Hk (n:Nat)(ps:List Int):∀j,(Bm n ps j).length=n
 |0=>List.length_replicate ..
 |j+1=>by show(List.set _ _ _).length=n;rw[List.length_set,Hk n ps j]
theorem E3 (n:Nat)(ps:List Int):∀j,AV (Bm n ps j)=true
 |0=>Gc n
 |j+1=>by
  have h:=E3 n ps j
  unfold AV at h ⊢
  rw[List.all_eq_true]at h ⊢
  intro y hy
  rcases List.mem_or_eq_of_mem_set hy with hy|rfl
  ·exact h y hy
  ·exact BR.2<|BM _
def eV (n k:Nat):List Int:=Bm n [((k:Nat):Int)] 1
theorem Ib (n j:Nat):(List.replicate n (0:Int)).getD j 0=0:=by
 rw[List.getD_eq_getElem?_getD,List.getElem?_replicate];split <;> rfl
theorem L3 {n k j:Nat}(hk:k<n):(eV n k).getD j 0=if k=j then 1 else 0:=by
 show((List.replicate n (0:Int)).set (((k:Nat):Int)).toNat (md ((List.replicate n (0:Int)).getD (((k:Nat):Int)).toNat 0+1))).getD j 0=_
 rw[Int.toNat_natCast,Si,List.length_replicate,Ib,Ib]
 by_cases e:k=j
 ·subst e;rw[if_pos ⟨rfl,hk⟩,if_pos rfl];rfl
 ·rw[if_neg zO,if_neg e]
theorem Sn (n k:Nat):AV (eV n k)=true:=E3 _ _ _
def JO (a b:List Int)(k:Nat):Int:=md (sm k fun j=>a.getD j 0*b.getD j 0)
theorem QE (a b:List Int)(k:Nat):md (JO a b k+md (a.getD k 0*b.getD k 0))=JO a b (k+1):=by
 unfold JO
 rw[CO];rfl
theorem YB {a d:List Int}{i:Nat}(h:i<a.length):((Df a d 2).getD i []).getD 0 0=a.getD i 0:=by rw[Fu h];rfl
theorem So {p:List Fn}(hv:HW p){n f:Nat}{a:List Sr}(hf:f<p.length)(ha:C7 n a)(hl:((a.length:Nat):Int)=(p.getD f Fn.zero).params)(h0:Js p n f a=0):∃x t,ev p n f a=.ok x t∧x.length=(p.getD f Fn.zero).outs.length∧C7 n x:=by
 rcases Sm hv hf ha hl with⟨x,s,h1,h2,h3⟩|h1|h1
 ·exact⟨x,s,h1,h2,h3⟩
 ·rw[K6 h1]at h0;omega
 ·rw[K6 h1]at h0;omega
structure YC (p:List Fn)(f:Nat)(a:List Int):Prop where
 v:HW p
 lt:f<p.length
 l:((a.length:Nat):Int)=(p.getD f Fn.zero).params
 n:AV a=true
 z:Ea p f a=0
theorem XC {N:Nat}{a b:Sr}(ha:Cj N a):EN N (DE (Dy a b)) (fun k=>DE a k+DE b k):=fun k hk=>by
 show md ((Dy a b).getD k 0)=_
 rw[GS (by rw[ha.1];exact hk),Cx];rfl
theorem bJ {N:Nat}{a:Sr}{y:Int}(ha:Cj N a):EN N (DE (CQ a y)) (fun k=>y*DE a k):=fun k hk=>by
 show md ((CQ a y).getD k 0)=_
 rw[Hj (by rw[ha.1];exact hk),Cx,Int.mul_comm];rfl
theorem EN.add {N:Nat}{f f' g g':Nat→Int}(hf:EN N f f')(hg:EN N g g'):EN N (fun k=>f k+g k) (fun k=>f' k+g' k):=fun k hk=>by rw[← CO,hf k hk,hg k hk,CO]
def Hl (n:Nat)(c:Nat→Int)(d:List Int):Int:=sm n fun i=>c i*d.getD i 0
def HY (n:Nat)(b:Nat→Nat→Int)(d:List Int):Int:=sm n fun i=>sm n fun k=>b i k*(d.getD i 0*d.getD k 0)
theorem MQ (n:Nat)(A B:Int)(c c':Nat→Int)(d:List Int):Hl n (fun i=>A*c i+B*c' i) d=A*Hl n c d+B*Hl n c' d:=by
 unfold Hl
 rw[← Co,← Co,← D8]
 exact AZ fun i _=>by rw[Int.add_mul,Int.mul_assoc,Int.mul_assoc]
theorem HQ (c:Int)(f:Nat→Int)(n:Nat):sm n f*c=sm n fun i=>f i*c:=by
 rw[Int.mul_comm,← Co]
 exact AZ fun i _=>Int.mul_comm _ _
theorem KA (n:Nat)(c c':Nat→Int)(d:List Int):Hl n c d*Hl n c' d=HY n (fun i k=>c i*c' k) d:=by
 unfold Hl HY
 rw[HQ]
 refine AZ fun i _=>?_
 rw[← Co]
 refine AZ fun k _=>?_
 rw[Int.mul_assoc,Int.mul_assoc,Int.mul_left_comm (d.getD i 0)]
theorem HR (n:Nat)(b b':Nat→Nat→Int)(d:List Int):HY n (fun i k=>b i k+b' i k) d=HY n b d+HY n b' d:=by
 unfold HY
 rw[← D8]
 refine AZ fun i _=>?_
 rw[← D8]
 exact AZ fun k _=>Int.add_mul _ _ _
theorem DG (n:Nat)(A:Int)(b:Nat→Nat→Int)(d:List Int):HY n (fun i k=>A*b i k) d=A*HY n b d:=by
 unfold HY
 rw[← Co]
 refine AZ fun i _=>?_
 rw[← Co]
 exact AZ fun k _=>Int.mul_assoc _ _ _
structure Q2 (n K:Nat)(D:Nat→List Int)(x:Nat→Sr)(z:Sr):Prop where
 sx:∀k,k<K→Cj 3 (x k)
 sz:Cj 1 z
 v:∀k,k<K→(x k).getD 0 0=z.getD 0 0
 q:∃c b,∀k,k<K→(x k).getD 1 0=md (Hl n c (D k))∧(x k).getD 2 0=md (HY n b (D k))
theorem Vd {a b:Sr}(h:2<a.length):(Cb a b).getD 2 0=md (a.getD 0 0*b.getD 2 0+a.getD 1 0*b.getD 1 0+a.getD 2 0*b.getD 0 0):=by
 rw[show(Cb a b).getD 2 0=_ from C3 0 h]
 show md (md (md (0+a.getD 0 0*b.getD 2 0)+a.getD 1 0*b.getD 1 0)+a.getD 2 0*b.getD 0 0)=_
 generalize a.getD 0 0*b.getD 2 0=x
 generalize a.getD 1 0*b.getD 1 0=y
 generalize a.getD 2 0*b.getD 0 0=z
 unfold md;omega
theorem Ve {a b:Sr}(h:2<a.length):(Bs a b).getD 2 0=md ((a.getD 2 0-(Bs a b).getD 0 0*b.getD 2 0-(Bs a b).getD 1 0*b.getD 1 0)*inv (b.getD 0 0)):=by
 rw[HG h]
 show md (md (md (a.getD 2 0-(Bs a b).getD 0 0*b.getD 2 0)-(Bs a b).getD 1 0*b.getD 1 0)*inv (b.getD 0 0))=_
 rw[Cm,← C8,Mz,C8]
theorem Q2.op {n K:Nat}{D:Nat→List Int}{xa xb out:Nat→Sr}{za zb oz:Sr}{A B E F:Int}(ha:Q2 n K D xa za)(hb:Q2 n K D xb zb)(hz:Cj 1 oz)(hx:∀k,k<K→Cj 3 (out k))(hv:∀k,k<K→(out k).getD 0 0=oz.getD 0 0)
  (h1:∀k,k<K→(out k).getD 1 0=md (A*(xa k).getD 1 0+B*(xb k).getD 1 0))
  (h2:∀k,k<K→(out k).getD 2 0=md ((A*(xa k).getD 2 0+B*(xb k).getD 2 0)+(E*((xa k).getD 1 0*(xb k).getD 1 0)+F*((xb k).getD 1 0*(xb k).getD 1 0)))):Q2 n K D out oz:=by
 obtain⟨ca,ba,qa⟩:=ha.q
 obtain⟨cb,bb,qb⟩:=hb.q
 refine⟨hx,hz,hv,fun i=>A*ca i+B*cb i,fun i k=>(A*ba i k+B*bb i k)+(E*(ca i*cb k)+F*(cb i*cb k)),fun k hk=>⟨?_,?_⟩⟩
 ·rw[h1 k hk,(qa k hk).1,(qb k hk).1,MQ,← CO,BY,BY,CO]
 ·rw[h2 k hk,(qa k hk).1,(qb k hk).1,(qa k hk).2,(qb k hk).2,HR,HR,HR,DG,DG,DG,DG,← KA,← KA]
  have e:∀x y u v p q:Int,md (A*md x+B*md y+(E*(md u*md v)+F*(md p*md q)))=md (A*x+B*y+(E*(u*v)+F*(p*q))):=fun x y u v p q=>by
   rw[← CO,← CO (A*md x),← CO (E*_),BY A,BY B,← BY E,← BY F,C8,C8,BY E,BY F,CO (A*x),CO (E*_),CO]
  exact e _ _ _ _ _ _
theorem Vf (c:Int):(cst 3 c).getD 1 0=0∧(cst 3 c).getD 2 0=0:=⟨rfl,rfl⟩
theorem Q2.all (n K:Nat)(D:Nat→List Int):Y3 K (fun _=>3) 1 (Q2 n K D) where
 zero:=fun x z h k hk=>by rw[h.v k hk]
 cst:=fun a ha=>⟨fun _ _=>Dr ha,Dr ha,fun _ _=>rfl,fun _=>0,fun _ _=>0,fun k _=>by
  have e1:Hl n (fun _=>0) (D k)=0:=by
   unfold Hl;refine(AZ (g:=fun _=>0*0) fun i _=>by rw[Int.zero_mul,Int.zero_mul]).trans ?_
   rw[Co,Int.zero_mul]
  have e2:HY n (fun _ _=>0) (D k)=0:=by
   have:=DG n 0 (fun _ _=>0) (D k)
   simpa using this
  rw[e1,e2]
  exact⟨(Vf a).1,(Vf a).2⟩⟩
 add:=fun x z y w hx hy=>Q2.op (A:=1) (B:=1) (E:=0) (F:=0) hx hy ⟨by rw[Dz];exact hx.sz.1,Fq _ _⟩ (fun k hk=>⟨by rw[Dz];exact(hx.sx k hk).1,Fq _ _⟩)
  (fun k hk=>by rw[GS (by rw[(hx.sx k hk).1];decide),GS (by rw[hx.sz.1];decide),hx.v k hk,hy.v k hk]) (fun k hk=>by rw[GS (by rw[(hx.sx k hk).1];decide),Int.one_mul,Int.one_mul])
  (fun k hk=>by rw[GS (by rw[(hx.sx k hk).1];decide),Int.one_mul,Int.one_mul,Int.zero_mul,Int.zero_mul,Int.add_zero,Int.add_zero])
 red:=fun x z y w hx hy=>Q2.op (A:=1) (B:=-1) (E:=0) (F:=0) hx hy ⟨by rw[Fp];exact hx.sz.1,Fs _ _⟩ (fun k hk=>⟨by rw[Fp];exact(hx.sx k hk).1,Fs _ _⟩)
  (fun k hk=>by rw[Ia (by rw[(hx.sx k hk).1];decide),Ia (by rw[hx.sz.1];decide),hx.v k hk,hy.v k hk]) (fun k hk=>by rw[Ia (by rw[(hx.sx k hk).1];decide)];congr 1;omega)
  (fun k hk=>by rw[Ia (by rw[(hx.sx k hk).1];decide),Int.zero_mul,Int.zero_mul];congr 1;omega)
 pro:=fun x z y w hx hy=>Q2.op (A:=w.getD 0 0) (B:=z.getD 0 0) (E:=1) (F:=0) hx hy ⟨by rw[EB];exact hx.sz.1,DW _ _⟩ (fun k hk=>⟨by rw[EB];exact(hx.sx k hk).1,DW _ _⟩)
  (fun k hk=>by rw[NZ (by rw[(hx.sx k hk).1];decide),NZ (by rw[hx.sz.1];decide),hx.v k hk,hy.v k hk])
  (fun k hk=>by rw[Va (by rw[(hx.sx k hk).1];decide),IX,Int.zero_add,Int.add_comm,Int.mul_comm ((x k).getD 1 0),hx.v k hk,hy.v k hk])
  (fun k hk=>by rw[Vd (by rw[(hx.sx k hk).1];decide),hx.v k hk,hy.v k hk,Int.one_mul,Int.zero_mul,Int.mul_comm ((x k).getD 2 0)];congr 1;omega)
 scl:=fun x z hx=>Q2.op (A:=1000002) (B:=0) (E:=0) (F:=0) hx hx ⟨by rw[EC];exact hx.sz.1,DA _ _⟩ (fun k hk=>⟨by rw[EC];exact(hx.sx k hk).1,DA _ _⟩)
  (fun k hk=>by rw[Hj (by rw[(hx.sx k hk).1];decide),Hj (by rw[hx.sz.1];decide),hx.v k hk]) (fun k hk=>by rw[Hj (by rw[(hx.sx k hk).1];decide)];congr 1;omega)
  (fun k hk=>by rw[Hj (by rw[(hx.sx k hk).1];decide),Int.zero_mul,Int.zero_mul];congr 1;omega)
 quo:=fun x z y w hx hy h0=>by
  have hq:∀k,k<K→(Bs (x k) (y k)).getD 0 0=(Bs z w).getD 0 0:=fun k hk=>by rw[O0 (by rw[(hx.sx k hk).1];decide),O0 (by rw[hx.sz.1];decide),hx.v k hk,hy.v k hk]
  have hf:∀a q b i:Int,md (md (a-q*b)*i)=md (i*a+(-(q*i))*b):=fun a q b i=>by
   rw[Cm];congr 1
   rw[Int.sub_mul,Int.neg_mul,Int.mul_comm a i,Int.mul_assoc,Int.mul_assoc,Int.mul_comm b i];omega
  have h1:∀k,k<K→(Bs (x k) (y k)).getD 1 0=md (inv (w.getD 0 0)*(x k).getD 1 0+(-((Bs z w).getD 0 0*inv (w.getD 0 0)))*(y k).getD 1 0):=fun k hk=>by rw[Vb (by rw[(hx.sx k hk).1];decide),hf,hq k hk,hy.v k hk]
  refine Q2.op (A:=inv<|w.getD 0 0) (B:=-((Bs z w).getD 0 0*inv (w.getD 0 0))) (E:=-(inv (w.getD 0 0)*inv (w.getD 0 0))) (F:=(Bs z w).getD 0 0*inv (w.getD 0 0)*inv (w.getD 0 0)) hx hy ⟨by rw[DX];exact hx.sz.1,Dx _ _⟩ (fun k hk=>⟨by rw[DX];exact(hx.sx k hk).1,Dx _ _⟩) hq h1 fun k hk=>?_
  rw[Ve (by rw[(hx.sx k hk).1];decide),h1 k hk,hq k hk,hy.v k hk]
  generalize inv (w.getD 0 0)=i
  generalize (Bs z w).getD 0 0=q
  generalize (x k).getD 2 0=a2
  generalize (x k).getD 1 0=a1
  generalize (y k).getD 2 0=b2
  generalize (y k).getD 1 0=b1
  have e:∀s t u:Int,md ((s-md t*u)*i)=md ((s-t*u)*i):=fun s t u=>by
   rw[← Cm,← IY,Cm t,IY,Cm]
  rw[e]
  congr 1
  simp only[Int.sub_mul,Int.add_mul,Int.mul_sub,Int.mul_add,Int.neg_mul,Int.mul_neg,Int.mul_assoc,Int.mul_comm,Int.mul_left_comm]
  omega
section
section str
variable {P:Program} {ops:Array Oper} {w0:World} {Q:Act→World→Prop} {os:List Oper} {ks:List Nat} {N:Nat} {ρ:Nat→Value} {w:World}
 {d:Nat} {ty:TypeId} {pos:String} {aft:Array Edge} {g:Option (Nat×Bool)} {t e:TypeId}
theorem Sp {α:Type}{E:Bo α}(hE:BZ E){ys:List α}{b:Nat}{z u0 u1:Value}{x0 x1:Operand}(ht:P.underlying t=some (.slice e))(hi:TI P e 1 z b)(hz:z.cells=#[z])
  (hx0:Bq N ρ x0=u0) (hx1:Bq N ρ x1=u1) (hl:ys.length=2) (hels:els E w.heap [u0,u1] ys [])
  (hu:Up ops N ρ ⟨some d,.buildSlice t 2 #[(0,x0),(1,x1)],ty,pos,aft,g⟩)
  (h:∀v w1,AG w w1→w1.heap.size=w.heap.size+1→Fr (Bt E e) w.heap.size w1.heap.size w1.heap v ys→LW P ops w0 Q os ks (mk N (CN ρ d v)) w1) :
  LW P ops w0 Q (⟨some d,.buildSlice t 2 #[(0,x0),(1,x1)],ty,pos,aft,g⟩::os) (3::ks) (mk N ρ) w:=by
 have hc:=hels.cells1 hE
 have hr:=TF (P:=P) (w:=w) ht hi (hc u0 (by simp)).1 (hc u1 (by simp)).1 hz
 have hrun:(execOp (Bq N ρ) ⟨some d,.buildSlice t 2 #[(0,x0),(1,x1)],ty,pos,aft,g⟩).run P w=.ok (.value (.slice (some ⟨w.heap.size,0,none⟩) 2 2)) (w.alloc (.cells #[u0,u1] e)):=by
  simp only[execOp,List.map_toArray,List.map_cons,List.map_nil,Sem.run_bind,hx0,hx1,hr,Result.andThen_ok,Sem.run_pure]
 refine IT rfl hu _ _ hrun (BD _ _)<|h _ _ (BD _ _) (by simp) ?_
 have hn:=Gr (e:=e) (w:=w) hE (us:=[u0,u1]) (xs:=ys) (F:=[]) (cur:=#[u0,u1]) hels (by simp[maxLen]) (by rw[hl];rfl) (by rw[hl];simp)
 rw[hl]at hn
 refine⟨_,hn,?_,fun c hc=>?_⟩
 ·rw[List.nodup_cons]
  exact⟨fun hm=>(by cases hm),List.nodup_nil⟩
 ·rcases List.mem_cons.1 hc with rfl|hc
  ·exact⟨A7 _,by simp⟩
  ·cases hc
theorem MR {x:Operand}{u:Value}(hx:Bq N ρ x=u)(hc:u.cells=#[u])(hu:Up ops N ρ ⟨some d,.box t x,ty,pos,aft,g⟩)
  (h:∀w1,AG w w1→w1.heap.size=w.heap.size+1→BX w1.heap w.heap.size [u]→LW P ops w0 Q os ks (mk N (CN ρ d (.pointer (some ⟨w.heap.size,0,none⟩)))) w1) :
  LW P ops w0 Q (⟨some d,.box t x,ty,pos,aft,g⟩::os) (3::ks) (mk N ρ) w:=by
 have hrun:(execOp (Bq N ρ) ⟨some d,.box t x,ty,pos,aft,g⟩).run P w=.ok (.value (.pointer (some ⟨w.heap.size,0,none⟩))) (w.alloc (.cells #[u] t)):=by
  simp[execOp,Instr.box,newVar,newRow,hx,hc]
 refine IT rfl hu _ _ hrun (BD _ _)<|h _ (BD _ _) (by simp) ⟨t,?_⟩
 have:=heap_alloc_new w (.cells #[u] t)
 simpa using this
end str
theorem Vg {H:Array Obj}{a b:Int}(h0:-9223372036854775808≤a∧a≤9223372036854775807)(h1:-9223372036854775808≤b∧b≤9223372036854775807):els rI H [.int .i64 a,.int .i64 b] [a,b] [] :=
 ⟨[],[],rfl,⟨rfl,rfl,h0⟩,[],[],rfl,⟨rfl,rfl,h1⟩,rfl⟩
end
def Dl (p:List Fn)(f pk:Nat)(a d:List Int)(o:Nat):Int:=((JE p (o+1) f (Df a d (o+1))).getD pk []).getD o 0
theorem Ul (a d:List Int)(o:Nat):(Df a d (o+1)).map (C4 1)=DY a:=by
 refine Uh (by rw[List.length_map,CA];unfold DY;rw[List.length_map]) fun k hk=>?_
 rw[List.length_map,CA]at hk
 rw[BS (d:=[]) (by rw[CA];exact hk),Fu hk]
 unfold DY
 rw[BS (d:=0) hk]
 cases o <;> rfl
theorem bK (p:List Fn)(f:Nat)(a d:List Int)(o:Nat):Js p (o+1) f (Df a d (o+1))=Ea p f a:=by
 unfold Ea
 rw[← Ug p (A7 1) (show 1≤o+1 by omega),Ul]
theorem XD {p:List Fn}{f pk:Nat}{a d:List Int}{o:Nat}(h:TV p (o+1) f (Df a d (o+1))):0≤Dl p f pk a d o∧Dl p f pk a d o<1000003:=by
 unfold Dl
 by_cases hk:pk<(JE p (o+1) f (Df a d (o+1))).length
 ·exact Bu (h.ser pk hk).2 o
 ·have:(JE p (o+1) f (Df a d (o+1))).getD pk []=[]:=by
   rw[List.getD_eq_getElem?_getD,List.getElem?_eq_none (by omega)];rfl
  rw[this]
  show(0:Int)≤0∧(0:Int)<1000003
  omega
def XE (ps:List Int)(j:Nat):Nat→Int
 |0=>0
 |i+1=>XE ps j i+if (ps.getD i 0).toNat=j then 1 else 0
theorem L4 {n:Nat}{ps:List Int}{j:Nat}:∀m,(∀i,i<m→0≤ps.getD i 0∧ps.getD i 0<((n:Nat):Int))→(Bm n ps m).getD j 0=md (XE ps j m)
 |0,_=>by show(List.replicate n (0:Int)).getD j 0=_;rw[Ib];rfl
 |m+1,h=>by
  have ih:=fun j=>L4 (n:=n) (ps:=ps) (j:=j) m fun i hi=>h i zO
  have hm:=h m zO
  show((Bm n ps m).set (ps.getD m 0).toNat (md ((Bm n ps m).getD (ps.getD m 0).toNat 0+1))).getD j 0=md (XE ps j m+_)
  rw[Si,Hk,ih]
  by_cases e:(ps.getD m 0).toNat=j
  ·rw[if_pos ⟨e.symm,zO⟩,if_pos e,e,IX]
  ·rw[if_neg zO,if_neg e,ih,Int.add_zero]
def MS (n:Nat)(b:Nat→Nat→Int)(u v:Nat→Int):Int:=sm n fun i=>sm n fun k=>b i k*(u i*v k)
theorem O1 (n:Nat)(b:Nat→Nat→Int)(u u' v:Nat→Int):MS n b (fun i=>u i+u' i) v=MS n b u v+MS n b u' v:=by
 unfold MS
 rw[← D8]
 refine AZ fun i _=>?_
 rw[← D8]
 exact AZ fun k _=>by rw[Int.add_mul,Int.mul_add]
theorem Jc (n:Nat)(b:Nat→Nat→Int)(u v v':Nat→Int):MS n b u (fun i=>v i+v' i)=MS n b u v+MS n b u v':=by
 unfold MS
 rw[← D8]
 refine AZ fun i _=>?_
 rw[← D8]
 exact AZ fun k _=>by rw[Int.mul_add,Int.mul_add]
def dl (i:Nat)(j:Nat):Int:=if i=j then 1 else 0
theorem PO {n i:Nat}(g:Nat→Int)(hi:i<n):(sm n fun j=>dl i j*g j)=g i:=by
 have:(sm n fun j=>dl i j*g j)=sm n fun j=>if i=j then g j else 0:=AZ fun j _=>by
  unfold dl;by_cases e:i=j
  ·rw[if_pos e,if_pos e,Int.one_mul]
  ·rw[if_neg e,if_neg e,Int.zero_mul]
 rw[this,He,if_pos hi]
theorem YD {n i:Nat}(b:Nat→Nat→Int)(v:Nat→Int)(hi:i<n):MS n b (dl i) v=sm n fun k=>b i k*v k:=by
 unfold MS
 have:(sm n fun j=>sm n fun k=>b j k*(dl i j*v k))=sm n fun j=>dl i j*(sm n fun k=>b j k*v k):=AZ fun j _=>by
  rw[← Co];exact AZ fun k _=>by rw[Int.mul_left_comm]
 rw[this,PO (fun j=>sm n fun k=>b j k*v k) hi]
theorem Ic {n i k:Nat}(b:Nat→Nat→Int)(hi:i<n)(hk:k<n):MS n b (dl i) (dl k)=b i k:=by
 rw[YD b _ hi]
 have:(sm n fun j=>b i j*dl k j)=sm n fun j=>dl k j*b i j:=AZ fun j _=>Int.mul_comm _ _
 rw[this,PO (fun j=>b i j) hk]
theorem MT {n:Nat}{b:Nat→Nat→Int}{u u' v v':Nat→Int}(hu:∀i,i<n→md (u i)=md (u' i))(hv:∀i,i<n→md (v i)=md (v' i)):md (MS n b u v)=md (MS n b u' v'):=by
 unfold MS
 refine Ga fun i hi=>Ga fun k hk=>?_
 rw[← BY,← C8 (u i),hu i hi,hv k hk,C8,BY]
theorem PP (n:Nat)(b:Nat→Nat→Int)(d:List Int):HY n b d=MS n b (fun i=>d.getD i 0) (fun i=>d.getD i 0):=rfl
theorem Um {p:List Fn}{f pk:Nat}{a:List Int}(h:YC p f a)(hpk:pk<(p.getD f Fn.zero).outs.length)(L:List (List Int))(hL:∀d∈L,AV d=true) :
  ∃b,∀d∈L,Dl p f pk a d 2=md (HY a.length b d):=by
 have hR:=Yx (Q2.all a.length L.length fun k=>L.getD k []) h.v (m:=a.length) (a:=fun k=>Df a (L.getD k []) 3) (az:=DY a) h.lt
  ⟨Gb a,fun k _=>CA _ _ _,fun i hi=>⟨fun k=>(Df a (L.getD k []) 3).getD i [],fun _ _=>rfl,by
   have hs:(DY a).getD i []=[a.getD i 0]:=by unfold DY;rw[BS (d:=0) hi]
   refine⟨fun k hk=>Kz h.n (hL _ (KU hk)) i (by rw[CA];exact hi),ED h.n i (by rw[Gb];exact hi),fun k _=>by rw[Fu hi,hs];rfl,fun j=>if i=j then 1 else 0,fun _ _=>0,fun k hk=>⟨?_,?_⟩⟩
   ·have e1:Hl a.length (fun j=>if i=j then 1 else 0) (L.getD k [])=(L.getD k []).getD i 0:=by
     have:=PO (n:=a.length) (fun j=>(L.getD k []).getD j 0) hi
     exact this
    rw[Fu hi,e1]
    have:=Bu (hL _ (KU (d:=[]) hk)) i
    exact (K5 this.1 this.2).symm
   ·have e2:HY a.length (fun _ _=>0) (L.getD k [])=0:=by
     have:=DG a.length 0 (fun _ _=>0) (L.getD k [])
     simpa using this
    rw[Fu hi,e2];rfl⟩⟩ h.l
 obtain⟨z,t,he,_,_⟩:=So h.v h.lt (ED h.n) (by rw[Gb];exact h.l) h.z
 rw[he]at hR
 obtain⟨x,h1,h2⟩:=hR
 obtain⟨y,h3,h4⟩:=h2.2.2 pk hpk
 obtain⟨c,b,hq⟩:=h4.q
 refine⟨b,fun d hd=>?_⟩
 obtain⟨k,hk,rfl⟩:=List.mem_iff_getElem.1 hd
 have e:L.getD k []=L[k]:=DZ hk
 have:=(hq k hk).2
 rw[← h3 k hk,e]at this
 have hx:ev p 3 f (Df a (L.getD k []) 3)=Rs.ok (x k) t:=h1 k hk
 rw[e]at hx
 unfold Dl
 rw[KR hx]
 exact this
def L5 (p:List Fn)(f pk:Nat)(a:List Int)(i k:Nat):Int:=if i=k then md (2*Dl p f pk a (Bm a.length [((i:Nat):Int)] 1) 2)else md (Dl p f pk a (Bm a.length [((i:Nat):Int),((k:Nat):Int)] 2) 2-(Dl p f pk a (Bm a.length [((i:Nat):Int)] 1) 2+Dl p f pk a (Bm a.length [((k:Nat):Int)] 1) 2))
def PQ (p:List Fn)(f pk:Nat)(a:List Int)(i k:Nat):List Int:=Ip k (L5 p f pk a i)
def O2 (p:List Fn)(f pk:Nat)(a:List Int)(i:Nat):List (List Int):=Ip i fun i=>PQ p f pk a i a.length
theorem Sq {p:List Fn}{f pk:Nat}{a:List Int}{i k:Nat}(h:((i:Nat):Int)=((k:Nat):Int)):PQ p f pk a i k++[md (((2:Nat):Int)*Dl p f pk a (Bm a.length [((i:Nat):Int)] 1) 2)]=PQ p f pk a i (k+1):=by
 have e:md (((2:Nat):Int)*Dl p f pk a (Bm a.length [((i:Nat):Int)] 1) 2)=L5 p f pk a i k:=by unfold L5;rw[if_pos (by omega)];rfl
 rw[e];exact(Hc k (L5 p f pk a i)).symm
theorem Ss {p:List Fn}{f pk:Nat}{a:List Int}{i k:Nat}(h:¬((i:Nat):Int)=((k:Nat):Int)):PQ p f pk a i k++[md (Dl p f pk a (Bm a.length [((i:Nat):Int),((k:Nat):Int)] 2) 2-(Dl p f pk a (Bm a.length [((i:Nat):Int)] 1) 2+Dl p f pk a (Bm a.length [((k:Nat):Int)] 1) 2))]=PQ p f pk a i (k+1):=by
 have e:md (Dl p f pk a (Bm a.length [((i:Nat):Int),((k:Nat):Int)] 2) 2-(Dl p f pk a (Bm a.length [((i:Nat):Int)] 1) 2+Dl p f pk a (Bm a.length [((k:Nat):Int)] 1) 2))=L5 p f pk a i k:=by unfold L5;rw[if_neg (by omega)]
 rw[e];exact(Hc k (L5 p f pk a i)).symm
theorem St (p:List Fn)(f pk:Nat)(a:List Int)(i:Nat):O2 p f pk a i++[PQ p f pk a i a.length]=O2 p f pk a (i+1):=(Hc i fun i=>PQ p f pk a i a.length).symm
@[simp] theorem Jd (p:List Fn)(f pk:Nat)(a:List Int)(i k:Nat):(PQ p f pk a i k).length=k:=by simp[PQ]
@[simp] theorem Eu (p:List Fn)(f pk:Nat)(a:List Int)(i:Nat):(O2 p f pk a i).length=i:=by simp[O2]
theorem Un (p:List Fn)(f pk:Nat)(a:List Int)(i k:Nat):0≤L5 p f pk a i k∧L5 p f pk a i k<1000003:=by unfold L5;split <;> exact BM _
theorem OK {p:List Fn}{f pk:Nat}{a:List Int}{i n:Nat}(h:i<n):(O2 p f pk a n).getD i []=PQ p f pk a i a.length:=C3 [] h
theorem Uo (p:List Fn)(f pk:Nat)(a:List Int)(i k:Nat):AV (PQ p f pk a i k)=true:=J1 fun _ _=>Un _ _ _ _ _ _
@[reducible] def XF (S i:Nat):Prop:=HV .i64 ((((S:Nat):Int)).fdiv (2 ^ (min (((i:Nat):Int):Int).toNat (IntKind.i64).bits))) ((1:Nat):Int)=((1:Nat):Int)
def QF (ps:List Int)(S:Nat):Nat→List Int
 |0=>[]
 |i+1=>if XF S i then QF ps S i++[ps.getD i 0]else QF ps S i
theorem PR {ps:List Int}{S i:Nat}(h:XF S i):QF ps S (i+1)=QF ps S i++[ps.getD i 0]:=if_pos h
theorem PS {ps:List Int}{S i:Nat}(h:¬XF S i):QF ps S (i+1)=QF ps S i:=if_neg h
def Y4 (p:List Fn)(f pk:Nat)(a ps:List Int)(S:Nat):Int:=Dl p f pk a (Bm a.length (QF ps S ps.length) (QF ps S ps.length).length) ps.length
def Uq (p:List Fn)(f pk:Nat)(a ps:List Int)(S:Nat):Int:=if (((ps.length:Nat):Int)-(((QF ps S ps.length).length:Nat):Int)).tmod 2=1 then md (0-Y4 p f pk a ps S)else Y4 p f pk a ps S
def bL (p:List Fn)(f pk:Nat)(a ps:List Int):Nat→Int
 |0=>0
 |S+1=>md (bL p f pk a ps S+Uq p f pk a ps S)
theorem XG (p:List Fn)(f pk:Nat)(a:List Int)(x y:Int):bL p f pk a [x,y] 4=md (Dl p f pk a (Bm a.length [] 0) 2-Dl p f pk a (Bm a.length [x] 1) 2-Dl p f pk a (Bm a.length [y] 1) 2+Dl p f pk a (Bm a.length [x,y] 2) 2):=by
 have b0:QF [x,y] 0 2=[]:=by rw[PS (by decide +kernel),PS (by decide +kernel)];rfl
 have b1:QF [x,y] 1 2=[x]:=by rw[PS (by decide +kernel),PR (by decide +kernel)];rfl
 have b2:QF [x,y] 2 2=[y]:=by rw[PR (by decide +kernel),PS (by decide +kernel)];rfl
 have b3:QF [x,y] 3 2=[x,y]:=by rw[PR (by decide +kernel),PR (by decide +kernel)];rfl
 have t0:Uq p f pk a [x,y] 0=Dl p f pk a (Bm a.length [] 0) 2:=by unfold Uq Y4;rw[show [x,y].length=2 from rfl,b0,if_neg (by simp only[List.length_cons,List.length_nil];decide)];rfl
 have t1:Uq p f pk a [x,y] 1=md (0-Dl p f pk a (Bm a.length [x] 1) 2):=by unfold Uq Y4;rw[show [x,y].length=2 from rfl,b1,if_pos (by simp only[List.length_cons,List.length_nil];decide)];rfl
 have t2:Uq p f pk a [x,y] 2=md (0-Dl p f pk a (Bm a.length [y] 1) 2):=by unfold Uq Y4;rw[show [x,y].length=2 from rfl,b2,if_pos (by simp only[List.length_cons,List.length_nil];decide)];rfl
 have t3:Uq p f pk a [x,y] 3=Dl p f pk a (Bm a.length [x,y] 2) 2:=by unfold Uq Y4;rw[show [x,y].length=2 from rfl,b3,if_neg (by simp only[List.length_cons,List.length_nil];decide)];rfl
 show md (md (md (md (0+_)+_)+_)+_)=_
 rw[t0,t1,t2,t3]
 generalize Dl p f pk a (Bm a.length [] 0) 2=c0
 generalize Dl p f pk a (Bm a.length [x] 1) 2=c1
 generalize Dl p f pk a (Bm a.length [y] 1) 2=c2
 generalize Dl p f pk a (Bm a.length [x,y] 2) 2=c3
 unfold md;omega
theorem KB (f:Nat→Nat→Int)(m:Nat):∀n,(sm n fun i=>sm m fun j=>f i j)=sm m fun j=>sm n fun i=>f i j
 |0=>by
  have h:(sm m fun j=>sm 0 fun i=>f i j)=sm m fun j=>0*0:=AZ fun j _=>rfl
  rw[h,Co,Int.zero_mul];rfl
 |n+1=>by
  show(sm n fun i=>sm m fun j=>f i j)+(sm m fun j=>f n j)=_
  rw[KB f m n,← D8]
  exact AZ fun j _=>rfl
structure bM (p:List Fn)(f pk:Nat)(a d:List Int):Prop where
 sym:∀i k,i<a.length→k<a.length→L5 p f pk a i k=L5 p f pk a k i
 along:md (sm a.length fun i=>md (sm a.length fun k=>L5 p f pk a i k*d.getD k 0)*d.getD i 0)=md (2*Dl p f pk a d 2)
 mix:∀i k,i<a.length→k<a.length→bL p f pk a [((i:Nat):Int),((k:Nat):Int)] 4=L5 p f pk a i k
theorem Ur {p:List Fn}{f pk:Nat}{a d:List Int}(h:YC p f a)(hpk:pk<(p.getD f Fn.zero).outs.length)(hd:AV d=true):bM p f pk a d:=by
 obtain⟨b,hb⟩:=Um h hpk (d::Bm a.length [] 0::(((List.range a.length).map fun i=>Bm a.length [((i:Nat):Int)] 1)++(List.range a.length).flatMap fun i=>(List.range a.length).map fun k=>Bm a.length [((i:Nat):Int),((k:Nat):Int)] 2)) (fun x hx=>by
  simp only[List.mem_cons,List.mem_append,List.mem_map,List.mem_flatMap,List.mem_range]at hx
  rcases hx with rfl|rfl|⟨i,_,rfl⟩|⟨i,_,k,_,rfl⟩
  ·exact hd
  all_goals exact E3 _ _ _)
 have h0:Dl p f pk a (Bm a.length [] 0) 2=0:=by
  rw[hb _ (by simp)]
  have:∀i,(Bm a.length [] 0).getD i 0=0:=fun i=>Ib _ _
  unfold HY
  have e:(sm a.length fun i=>sm a.length fun k=>b i k*((Bm a.length [] 0).getD i 0*(Bm a.length [] 0).getD k 0))=sm a.length fun i=>0*0:=AZ fun i _=>by
   rw[show(sm a.length fun k=>b i k*((Bm a.length [] 0).getD i 0*(Bm a.length [] 0).getD k 0))=sm a.length fun k=>0*0 from AZ fun k _=>by rw[this i,this k];simp,Co,Int.zero_mul];rfl
  rw[e,Co,Int.zero_mul];rfl
 have h1:∀i,i<a.length→Dl p f pk a (Bm a.length [((i:Nat):Int)] 1) 2=md (b i i):=fun i hi=>by
  rw[hb _ (by simp only[List.mem_cons,List.mem_append,List.mem_map,List.mem_range];exact .inr (.inr (.inl ⟨i,hi,rfl⟩))),PP,← Ic b hi hi]
  refine MT (fun j _=>?_) (fun j _=>?_) <;>
  ·rw[show(Bm a.length [((i:Nat):Int)] 1).getD j 0=if i=j then 1 else 0 from L3 hi];rfl
 have h2:∀i k,i<a.length→k<a.length→Dl p f pk a (Bm a.length [((i:Nat):Int),((k:Nat):Int)] 2) 2=md (b i i+b i k+b k i+b k k):=fun i k hi hk=>by
  rw[hb _ (by simp only[List.mem_cons,List.mem_append,List.mem_map,List.mem_flatMap,List.mem_range];exact .inr (.inr (.inr ⟨i,hi,k,hk,rfl⟩))),PP]
  have e:md (MS a.length b (fun j=>(Bm a.length [((i:Nat):Int),((k:Nat):Int)] 2).getD j 0) (fun j=>(Bm a.length [((i:Nat):Int),((k:Nat):Int)] 2).getD j 0))=md (MS a.length b (fun j=>dl i j+dl k j) (fun j=>dl i j+dl k j)):=by
   have hg:∀j,md ((Bm a.length [((i:Nat):Int),((k:Nat):Int)] 2).getD j 0)=md (dl i j+dl k j):=fun j=>by
    rw[L4 2 (fun q hq=>by
     match q,hq with
     |0,_=>exact⟨Int.natCast_nonneg i,by show((i:Nat):Int)<_;omega⟩
     |1,_=>exact⟨Int.natCast_nonneg k,by show((k:Nat):Int)<_;omega⟩),Cx]
    show md (0+_+_)=_
    simp only[List.getD_cons_zero,List.getD_cons_succ,Int.toNat_natCast,Int.zero_add];rfl
   exact MT (fun j _=>hg j) fun j _=>hg j
  rw[e,O1,Jc,Jc,Ic b hi hi,Ic b hi hk,Ic b hk hi,Ic b hk hk]
  congr 1;omega
 have hv:∀i k,i<a.length→k<a.length→L5 p f pk a i k=md (b i k+b k i):=fun i k hi hk=>by
  unfold L5
  by_cases e:i=k
  ·subst e
   rw[if_pos rfl,h1 i hi,BY];congr 1;omega
  ·rw[if_neg e,h2 i k hi hk,h1 i hi,h1 k hk]
   generalize b i i=x
   generalize b k k=y
   unfold md;omega
 refine⟨fun i k hi hk=>by rw[hv i k hi hk,hv k i hk hi,Int.add_comm],?_,fun i k hi hk=>?_⟩
 ·have e1:∀i,i<a.length→md (md (sm a.length fun k=>L5 p f pk a i k*d.getD k 0)*d.getD i 0)=md ((sm a.length fun k=>b i k*(d.getD i 0*d.getD k 0))+sm a.length fun k=>b k i*(d.getD k 0*d.getD i 0)):=fun i hi=>by
   rw[Cm,← D8,HQ]
   refine Ga fun k hk=>?_
   rw[hv i k hi hk,Int.mul_assoc,Cm,Int.add_mul,Int.mul_comm (d.getD k 0)]
  rw[Ga (g:=fun i=>(sm a.length fun k=>b i k*(d.getD i 0*d.getD k 0))+sm a.length fun k=>b k i*(d.getD k 0*d.getD i 0)) e1,D8,hb d (by simp),BY]
  have e2:(sm a.length fun i=>sm a.length fun k=>b k i*(d.getD k 0*d.getD i 0))=HY a.length b d:=by
   unfold HY
   exact KB (fun i k=>b k i*(d.getD k 0*d.getD i 0)) _ _
  rw[e2]
  congr 1
  show HY a.length b d+HY a.length b d=_
  omega
 ·rw[XG,h0,h1 i hi,h1 k hk,h2 i k hi hk,hv i k hi hk]
  generalize b i i=x
  generalize b k k=y
  unfold md;omega
structure OL (m:Nat)(a:List Int)(X:List Sr):Prop where
 len:X.length=a.length
 ser:∀i,i<a.length→Cj m (X.getD i [])
 at0:∀i,i<a.length→(X.getD i []).getD 0 0=a.getD i 0
section
theorem L6 {α:Type}{P:List α→Prop}(h0:P [])(h1:∀l c,P l→P (l++[c]))(l:List α):P l:=by
 have h:∀l:List α,P l.reverse:=fun l=>by
  induction l with
  |nil=>exact h0
  |cons c l ih=>rw[List.reverse_cons];exact h1 _ _ ih
 have:=h l.reverse
 rwa [List.reverse_reverse]at this
def EE (m:Nat)(A R:List Sr)(c:AD):Sr :=
 if c.op=1 then A.getD c.num.toNat []else if c.op=3 then Dy (R.getD c.a.toNat []) (R.getD c.b.toNat [])else if c.op=4 then EU (R.getD c.a.toNat []) (R.getD c.b.toNat [])
 else if c.op=5 then Cb (R.getD c.a.toNat []) (R.getD c.b.toNat [])else if c.op=7 then CQ (R.getD c.a.toNat []) 1000002
 else if c.op=6 then Bs (R.getD c.a.toNat []) (R.getD c.b.toNat [])else cst m c.num
def B9 (m:Nat)(A:List Sr)(cs:List AD):List Sr:=cs.foldl (fun R c=>R++[EE m A R c]) []
section
variable {m:Nat} {A:List Sr}
theorem Ef (cs:List AD)(c:AD):B9 m A (cs++[c])=B9 m A cs++[EE m A (B9 m A cs) c]:=by unfold B9;rw[List.foldl_append];rfl
@[simp] theorem CR (cs:List AD):(B9 m A cs).length=cs.length:=by
 induction cs using L6 with
 |h0=>rfl
 |h1 l c ih=>rw[Ef,List.length_append,ih,List.length_append];rfl
theorem L7 (cs l:List AD){k:Nat}(hk:k<cs.length):(B9 m A (cs++l)).getD k []=(B9 m A cs).getD k []:=by
 induction l using L6 with
 |h0=>rw[List.append_nil]
 |h1 l c ih=>rw[← List.append_assoc,Ef,GY (by rw[CR,List.length_append];omega),ih]
theorem Mr (cs:List AD)(c:AD):(B9 m A (cs++[c])).getD cs.length []=EE m A (B9 m A cs) c:=by rw[Ef,H9 (by rw[CR])]
end
def EV (ni k:Nat)(c:AD):Prop :=
 (c.op=1∧c.a=0∧c.b=0∧0≤c.num∧c.num<((ni:Nat):Int))∨(c.op=2∧c.a=0∧c.b=0∧0≤c.num∧c.num<1000003) ∨
 ((c.op=3∨c.op=4∨c.op=5∨c.op=6)∧(0≤c.a∧c.a<((k:Nat):Int))∧(0≤c.b∧c.b<((k:Nat):Int))∧c.num=0)∨(c.op=7∧(0≤c.a∧c.a<((k:Nat):Int))∧c.b=0∧c.num=0)
theorem EV.bin {ni k:Nat}{op a b:Int}(h:op=3∨op=4∨op=5∨op=6)(ha:0≤a∧a<((k:Nat):Int))(hb:0≤b∧b<((k:Nat):Int)):EV ni k ⟨op,a,b,0⟩:=.inr (.inr (.inl ⟨h,ha,hb,rfl⟩))
theorem EV.neg {ni k:Nat}{a:Int}(ha:0≤a∧a<((k:Nat):Int)):EV ni k ⟨7,a,0,0⟩:=.inr (.inr (.inr ⟨rfl,ha,rfl,rfl⟩))
structure Dv (m:Nat)(A:List Sr)(T:Tp):Prop where
 cl:T.code.length=T.vals.length
 ser:∀k,k<T.code.length→Cj m ((B9 m A T.code).getD k [])∧((B9 m A T.code).getD k []).getD 0 0=T.vals.getD k 0
 form:∀k,k<T.code.length→EV A.length k (T.code.getD k AD.zero)
 dv:∀k,k<T.code.length→(T.code.getD k AD.zero).op=6→T.at (T.code.getD k AD.zero).b≠0
 gd:∀k,k<T.grd.length→(0≤(T.grd.getD k Is.zero).reg∧(T.grd.getD k Is.zero).reg<((T.vals.length:Nat):Int))∧(T.grd.getD k Is.zero).z=decide (T.at (T.grd.getD k Is.zero).reg=0)
def TE (T T':Tp):Prop:=(∃l,T'.code=T.code++l)∧∃l,T'.vals=T.vals++l
theorem TE.refl (T:Tp):TE T T:=⟨⟨[],by simp⟩,[],by simp⟩
theorem TE.trans {T T' T'':Tp}(h:TE T T')(k:TE T' T''):TE T T'':=by
 obtain⟨⟨l,h1⟩,l2,h2⟩:=h
 obtain⟨⟨l3,h3⟩,l4,h4⟩:=k
 exact⟨⟨l++l3,by rw[h3,h1,List.append_assoc]⟩,l2++l4,by rw[h4,h2,List.append_assoc]⟩
theorem TE.put (T:Tp)(c:AD)(v:Int):TE T (T.put c v):=⟨⟨[c],rfl⟩,[v],rfl⟩
theorem TE.guard (T:Tp)(r:Int)(z:Bool):TE T (T.guard r z):=⟨⟨[],by simp[Tp.guard]⟩,[],by simp[Tp.guard]⟩
section
variable {m:Nat} {A:List Sr} {T T':Tp}
theorem TE.reg (h:TE T T'){k:Nat}(hk:k<T.code.length):(B9 m A T'.code).getD k []=(B9 m A T.code).getD k []:=by
 obtain⟨⟨l,h1⟩,_⟩:=h
 rw[h1,L7 _ _ hk]
theorem TE.at (h:TE T T'){r:Int}(hr:0≤r∧r<((T.vals.length:Nat):Int)):T'.at r=T.at r:=by
 obtain⟨_,l,h1⟩:=h
 unfold Tp.at
 rw[h1,GY (by omega)]
theorem TE.len (h:TE T T'):T.code.length≤T'.code.length∧T.vals.length≤T'.vals.length:=by
 obtain⟨⟨l,h1⟩,l2,h2⟩:=h
 rw[h1,h2,List.length_append,List.length_append];omega
def Nv (m:Nat)(A:List Sr)(T:Tp)(r:Int)(z:Sr):Prop:=(0≤r∧r<((T.vals.length:Nat):Int))∧z=(B9 m A T.code).getD r.toNat []
def Ms (m:Nat)(A:List Sr)(n:Nat)(T:Tp)(rs:List Int)(zs:List Sr):Prop:=rs.length=n∧zs.length=n∧∀i,i<n→Nv m A T (rs.getD i 0) (zs.getD i [])
theorem Nv.mono {r:Int}{z:Sr}(hc:T.code.length=T.vals.length)(h:Nv m A T r z)(k:TE T T'):Nv m A T' r z:=by
 have:=k.len
 exact⟨by have:=h.1;omega,by rw[k.reg (by have:=h.1;omega)];exact h.2⟩
theorem Ms.mono {n:Nat}{rs:List Int}{zs:List Sr}(hc:T.code.length=T.vals.length)(h:Ms m A n T rs zs)(k:TE T T'):Ms m A n T' rs zs:=⟨h.1,h.2.1,fun i hi=>(h.2.2 i hi).mono hc k⟩
theorem Ms.snoc {n:Nat}{rs:List Int}{zs:List Sr}{r:Int}{z:Sr}(h:Ms m A n T rs zs)(h1:Nv m A T r z):Ms m A (n+1) T (rs++[r]) (zs++[z]):=by
 refine⟨by simp[h.1],by simp[h.2.1],fun i hi=>?_⟩
 by_cases e:i=n
 ·rw[H9 (by rw[h.1];exact e),H9 (by rw[h.2.1];exact e)];exact h1
 ·rw[GY (by rw[h.1];omega),GY (by rw[h.2.1];omega)];exact h.2.2 i zO
theorem Nv.at (hI:Dv m A T){r:Int}{z:Sr}(h:Nv m A T r z):Cj m z∧z.getD 0 0=T.at r:=by
 have:=hI.ser r.toNat (by rw[hI.cl];have:=h.1;omega)
 rw[h.2];exact this
def HS {α β:Type}(m:Nat)(A:List Sr)(T:Tp)(R:Tp→α→β→Prop)(r:Rs (α×Tp))(rz:Rs β):Prop:=match r with
 |.ok x t=>∃z,rz=.ok z t∧Dv m A x.2∧TE T x.2∧R x.2 x.1 z
 |.err c=>rz=.err c
theorem HS.bind {α β α' β':Type}{R:Tp→α→β→Prop}{R':Tp→α'→β'→Prop}{r:Rs (α×Tp)}{rz:Rs β}{g:α×Tp→Nat→Rs (α'×Tp)}{gz:β→Nat→Rs β'}(h:HS m A T R r rz)
  (hg:∀x T' z t,Dv m A T'→TE T T'→R T' x z→HS m A T' R' (g (x,T') t) (gz z t)):HS m A T R' (r.bind g) (rz.bind gz):=by
 cases r with
 |err c=>have h9:rz=.err c:=h;subst h9;exact rfl
 |ok x t =>
  obtain⟨z,h1,h2,h3,h4⟩:=h
  subst h1
  have h5:=hg x.1 x.2 z t h2 h3 h4
  rw[Rs.bind_ok,Rs.bind_ok]
  cases hr:g x t with
  |err c=>rw[hr]at h5;exact h5
  |ok y u =>
   rw[hr]at h5
   obtain⟨v,q1,q2,q3,q4⟩:=h5
   exact⟨v,q1,q2,h3.trans q3,q4⟩
theorem HS.ret {α β:Type}{R:Tp→α→β→Prop}{x:α}{z:β}{t:Nat}(hI:Dv m A T')(hE:TE T T')(h:R T' x z):HS m A T R (.ok (x,T') t) (.ok z t):=⟨z,rfl,hI,hE,h⟩
theorem Dv.put (h:Dv m A T){c:AD}{v:Int}(hs:Cj m (EE m A (B9 m A T.code) c))(hv:(EE m A (B9 m A T.code) c).getD 0 0=v)(hf:EV A.length T.code.length c)(hd:c.op=6→T.at c.b≠0):Dv m A (T.put c v):=by
 have hE:=TE.put T c v
 have hcl:=h.cl
 have key:∀k,k<(T.put c v).code.length→k<T.code.length∨k=T.code.length:=fun k hk=>by rw[OH]at hk;omega
 have cg:∀k,k<T.code.length→(T.put c v).code.getD k AD.zero=T.code.getD k AD.zero:=fun k hk=>GY hk
 have cn:(T.put c v).code.getD T.code.length AD.zero=c:=H9 rfl
 refine⟨by rw[OH,Gz,hcl],fun k hk=>?_,fun k hk=>?_,fun k hk h6=>?_,fun k hk=>?_⟩
 ·rcases key k hk with hk|rfl
  ·rw[hE.reg hk,show(T.put c v).vals.getD k 0=T.vals.getD k 0 from GY (by omega)];exact h.ser k hk
  ·rw[show(B9 m A (T.put c v).code).getD T.code.length []=_ from Mr _ _,show(T.put c v).vals.getD T.code.length 0=v from H9 hcl];exact⟨hs,hv⟩
 ·rcases key k hk with hk|rfl
  ·rw[cg k hk];exact h.form k hk
  ·rw[cn];exact hf
 ·rcases key k hk with hk|rfl
  ·rw[cg k hk]at h6 ⊢
   have:=h.form k hk
   unfold EV at this
   rw[hE.at (by omega)];exact h.dv k hk h6
  ·rw[cn]at h6 ⊢
   unfold EV at hf
   rw[hE.at (by omega)];exact hd h6
 ·have:=h.gd k hk
  rw[S6]at hk ⊢
  refine⟨by rw[Gz];omega,?_⟩
  rw[hE.at this.1];exact this.2
theorem Dv.guard (h:Dv m A T){r:Int}(hr:0≤r∧r<((T.vals.length:Nat):Int)):Dv m A (T.guard r (decide (T.at r=0))):=by
 refine⟨h.cl,h.ser,h.form,h.dv,fun k hk=>?_⟩
 rw[NS]at hk
 by_cases e:k<T.grd.length
 ·rw[show(T.guard r (decide (T.at r=0))).grd.getD k Is.zero=T.grd.getD k Is.zero from GY e];exact h.gd k e
 ·rw[show(T.guard r (decide (T.at r=0))).grd.getD k Is.zero=⟨r,decide (T.at r=0)⟩from H9 (by omega)];exact⟨hr,rfl⟩
theorem HS.put {R:Tp→Int→Sr→Prop}{c:AD}{v:Int}{z:Sr}{t:Nat}(h:Dv m A T)(hz:EE m A (B9 m A T.code) c=z)(hs:Cj m z)(hv:z.getD 0 0=v)(hf:EV A.length T.code.length c)(hd:c.op=6→T.at c.b≠0)
  (hR:∀T' r z,Nv m A T' r z→R T' r z):HS m A T R (.ok (((T.vals.length:Nat):Int),T.put c v) t) (.ok z t):=by
 subst hz
 refine HS.ret (h.put hs hv hf hd) (TE.put T c v)<|hR _ _ _ ⟨by rw[Gz];omega,?_⟩
 rw[Int.toNat_natCast,← h.cl];exact(Mr _ _).symm
theorem YE (hm:1≤m)(h:Dv m A T){k:Int}{n t:Nat}{rs:List Int}{zs:List Sr}(hr:Ms m A n T rs zs)(hk:3≤k∧k≤7)(h1:k=7→1≤n)(h2:k≠7→2≤n):HS m A T (Nv m A) (RS k rs t T) (Ks k zs t):=by
 have hn1:1≤n:=by by_cases e:k=7;exact h1 e;have:=h2 e;omega
 have ha:=hr.2.2 0 zO
 have hA:=ha.at h
 have hal:=hA.1.1
 have hac:=ha.1
 have hcl:=h.cl
 have fin:∀T' r z,Nv m A T' r z→Nv m A T' r z:=fun _ _ _ h=>h
 by_cases k7:k=7
 ·subst k7
  rw[Iu (V3 rfl),S5 rfl]
  refine HS.put h ?_ ⟨(EC _ _).trans hal,DA _ _⟩ ?_ (EV.neg zO) (fun h6=>absurd (show(7:Int)=6 from h6) (by decide)) fin
  ·rw[ha.2];rfl
  ·rw[Hj zO,hA.2]
   show md (T.at (rs.getD 0 0)*1000002)=md (0-T.at (rs.getD 0 0))
   unfold md;omega
 have hb:=hr.2.2 1<|h2 k7
 have hB:=hb.at h
 have hbl:=hB.1.1
 have hbc:=hb.1
 by_cases k3:k=3
 ·subst k3
  rw[Iu (fun h=>h.1 rfl),Gy (by decide)]
  refine HS.put h ?_ ⟨(Dz _ _).trans hal,Fq _ _⟩ ?_ (EV.bin (.inl rfl) zO zO) (fun h6=>absurd (show(3:Int)=6 from h6) (by decide)) fin
  ·rw[ha.2,hb.2];rfl
  ·rw[GS zO,hA.2,hB.2];rfl
 by_cases k4:k=4
 ·subst k4
  rw[Iu (fun h=>h.2.1 rfl),Gy (by decide)]
  refine HS.put h ?_ ⟨(Fp _ _).trans hal,Fs _ _⟩ ?_ (EV.bin (.inr<|.inl rfl) zO zO) (fun h6=>absurd (show(4:Int)=6 from h6) (by decide)) fin
  ·rw[ha.2,hb.2];rfl
  ·rw[Ia zO,hA.2,hB.2];rfl
 by_cases k5:k=5
 ·subst k5
  rw[Iu (fun h=>h.2.2.1 rfl),Gy (by decide)]
  refine HS.put h ?_ ⟨(EB _ _).trans hal,DW _ _⟩ ?_ (EV.bin (.inr<|.inr<|.inl rfl) zO zO) (fun h6=>absurd (show(5:Int)=6 from h6) (by decide)) fin
  ·rw[ha.2,hb.2];rfl
  ·rw[NZ zO,hA.2,hB.2,Int.zero_add];rfl
 have k6:k=6:=by omega
 subst k6
 by_cases hz:T.at (rs.getD 1 0)=0
 ·rw[PF (by rw[Gy (by decide)];exact⟨by decide,by decide,by decide,by decide,hz⟩)]
  show Ks 6 zs t=.err 6
  show(if (zs.getD 1 []).getD 0 0=0 then _ else _)=_
  rw[if_pos (by rw[hB.2];exact hz)]
 ·rw[Iu (by rw[Gy (by decide)];exact fun h9=>hz h9.2.2.2.2),Gy (by decide)]
  have e:Ks 6 zs t=.ok (Bs (zs.getD 0 []) (zs.getD 1 [])) t:=by
   show(if (zs.getD 1 []).getD 0 0=0 then _ else _)=_
   rw[if_neg (by rw[hB.2];exact hz)]
  rw[e]
  refine HS.put h ?_ ⟨(DX _ _).trans hal,Dx _ _⟩ ?_ (EV.bin (.inr<|.inr<|.inr rfl) zO zO) (fun _=>hz) fin
  ·rw[ha.2,hb.2];rfl
  ·rw[O0 zO,hA.2,hB.2];rfl
end
structure bN (m:Nat)(A:List Sr)(p:List Fn)(F:Nat)(G:Cg)(C:Ca):Prop where
 one:∀f j n T rs zs t,f<F→j<(p.getD f Fn.zero).outs.length→Dv m A T→Ms m A n T rs zs→((n:Nat):Int)=(p.getD f Fn.zero).params→HS m A T (Nv m A) (G.one f j rs t T) (C.one f j zs t)
 all:∀f n T rs zs t,f<F→Dv m A T→Ms m A n T rs zs→((n:Nat):Int)=(p.getD f Fn.zero).params→HS m A T (Ms m A (p.getD f Fn.zero).outs.length) (G.all f rs t T) (C.all f zs t)
section
variable {m:Nat} {A:List Sr} {p:List Fn}
theorem Su {G:Cg}{C:Ca}{env:List Int}{ez:List Sr}{n:Nat}:∀(l:List Ex),(∀e∈l,∀s T,Dv m A T→Ms m A n T env ez→HS m A T (Nv m A) (GQ G e env s T) (Cn m C e ez s))→∀s T,Dv m A T→Ms m A n T env ez→HS m A T (Ms m A l.length) (HM G l env s T) (Dj m C l ez s)
 |[],_,s,T,hI,he=>by
  rw[HM,Dj]
  exact HS.ret hI (TE.refl T) ⟨rfl,rfl,fun i hi=>absurd hi<|Nat.not_lt_zero i⟩
 |e::l,h,s,T,hI,he=>by
  rw[HM,Dj]
  refine (h e (by simp) s T hI he).bind fun x T1 z t h1 h2 h3=>?_
  refine (Su l (fun e' he'=>h e' (by simp[he'])) t T1 h1<|he.mono hI.cl h2).bind fun xs T2 zs u q1 q2 q3=>?_
  refine HS.ret q1 (TE.refl T2) ⟨by simp[q3.1],by simp[q3.2.1],fun i hi=>?_⟩
  cases i with
  |zero=>exact h3.mono h1.cl q2
  |succ i=>exact q3.2.2 i (by simpa using hi)
theorem Sv {F f:Nat}{G:Cg}{C:Ca}(hC:bN m A p F G C)(hf:f<F)(ho:(((p.getD f Fn.zero).outs.length:Nat):Int)=(p.getD f Fn.zero).params):∀(c:Nat)(rs:List Int)(zs:List Sr)(t:Nat)(T:Tp),Dv m A T→Ms m A (p.getD f Fn.zero).outs.length T rs zs →
  HS m A T (Ms m A (p.getD f Fn.zero).outs.length) (It (G.all f) c rs t T) (HH (C.all f) c zs t)
 |0,rs,zs,t,T,hI,h=>HS.ret hI (TE.refl T) h
 |c+1,rs,zs,t,T,hI,h=>(Sv hC hf ho c rs zs t T hI h).bind fun x T1 z u h1 h2 h3=>hC.all f _ T1 x z u hf h1 h3 ho
theorem Sw (hm:1≤m){F:Nat}{G:Cg}{C:Ca}(hC:bN m A p F G C):∀(z:Nat)(e:Ex),e.size≤z→∀(n:Nat)(env:List Int)(ez:List Sr)(s:Nat)(T:Tp),wf p ((F:Nat):Int) e ((n:Nat):Int)=true→Dv m A T→Ms m A n T env ez →
  HS m A T (Nv m A) (GQ G e env s T) (Cn m C e ez s)
 |0,e,h,_,_,_,_,_,_,_,_=>by have:=Ct e;omega
 |z+1,e,h,n,env,ez,s,T,hw,hI,he=>by
  obtain⟨w1,w2,w3,w4,w5,w6,w7,w8⟩:=CY (CJ hw)
  have hz:∀j,j<e.kids.length→(e.kids.getD j Ex.zero).size≤z:=fun j hj=>by
   have:=Ct e;have:=KM hj;omega
  have hk:∀j,j<e.kids.length→¬(e.kind=9∧j=1)→∀t T',Dv m A T'→Ms m A n T' env ez→HS m A T' (Nv m A) (OG G e.kids j env t T') (I9 m C e.kids j ez t):=fun j hj hn t T' h1 h2=>by
   rw[Ft _ _ _ _ _ _ hj,Du _ _ _ _ _ _ hj]
   exact Sw hm hC z _ (hz j hj) n env ez t T' (DN hw hj hn) h1 h2
  rw[Gx,EK]
  by_cases hs3:3000≤s
  ·rw[if_pos hs3,if_pos hs3];exact rfl
  rw[if_neg hs3,if_neg hs3]
  by_cases k1:e.kind=1
  ·rw[if_pos k1,if_pos k1]
   have:=w8 k1
   exact HS.put hI rfl (Dr<|BR.2 this) (Uj hm) (.inr<|.inl ⟨rfl,rfl,rfl,this⟩) (fun h6=>absurd (show(2:Int)=6 from h6) (by decide)) fun _ _ _ h=>h
  rw[if_neg k1,if_neg k1]
  by_cases k2:e.kind=2
  ·rw[if_pos k2,if_pos k2]
   exact HS.ret hI (TE.refl T)<|he.2.2 _ (by have:=w2 k2;omega)
  rw[if_neg k2,if_neg k2]
  by_cases k8:e.kind=8
  ·rw[if_pos k8,if_pos k8]
   have h3:=w5 k8
   refine (hk 0 zO zO (s+1) T hI he).bind fun x T1 y t h1 h2 hx=>?_
   have hq:=(hx.at h1).2
   have he1:=he.mono hI.cl h2
   dsimp only
   have fin:∀ {r:Rs RI} {rz:Rs Sr} {b:Bool},HS m A (T1.guard x b) (Nv m A) r rz→HS m A T1 (Nv m A) r rz:=fun {r rz b} hh=>by
    cases r with
    |err c=>exact hh
    |ok v u=>obtain⟨q,a1,a2,a3,a4⟩:=hh;exact⟨q,a1,a2,(TE.guard T1 x b).trans a3,a4⟩
   have hg:=h1.guard hx.1
   by_cases h0:T1.at x=0
   ·rw[if_pos h0,if_pos (by rw[hq];exact h0)]
    rw[A5 h0]at hg
    exact fin<|hk 1 zO zO t _ hg<|he1.mono h1.cl<|TE.guard T1 x true
   ·rw[if_neg h0,if_neg (by rw[hq];exact h0)]
    rw[A6 h0]at hg
    exact fin<|hk 2 zO zO t _ hg<|he1.mono h1.cl<|TE.guard T1 x false
  rw[if_neg k8,if_neg k8]
  by_cases k9:e.kind=9
  ·rw[if_pos k9,if_pos k9]
   have h3:=w3 zO
   refine (hk 0 zO zO (s+1) T hI he).bind fun x T1 y t h1 h2 hx=>?_
   dsimp only
   rw[Ft _ _ _ _ _ _ (show 1<e.kids.length by omega),Du _ _ _ _ _ _ (show 1<e.kids.length by omega)]
   refine Sw hm hC z _ (hz 1 zO) (n+1) (env++[x]) (ez++[y]) t T1 ?_ h1<|(he.mono hI.cl h2).snoc hx
   have:=JC hw zO k9
   rw[Int.natCast_add];exact this
  rw[if_neg k9,if_neg k9]
  have hc:=Su (G:=G) (C:=C) (env:=env) (ez:=ez) (n:=n) e.kids (fun x hx t T' h1 h2=>by
   obtain⟨j,hj,rfl⟩:=List.mem_iff_getElem.1 hx
   have:=hk j hj zO t T' h1 h2
   rw[Ft _ _ _ _ _ _ hj,Du _ _ _ _ _ _ hj,DZ hj]at this
   exact this) (s+1) T hI he
  refine hc.bind fun xs T1 zs t h1 h2 hx=>?_
  dsimp only
  by_cases k10:e.kind=10
  ·rw[if_pos k10,if_pos k10]
   have h6:=w6<|.inl k10
   exact hC.one _ _ _ T1 xs zs t zO zO h1 hx (by exact h6.2.2.1)
  rw[if_neg k10,if_neg k10]
  by_cases k11:e.kind=11
  ·rw[if_pos k11,if_pos k11]
   have h6:=w6 (.inr k11);have h7:=w7 k11
   have hl:e.kids.length=(p.getD e.num.toNat Fn.zero).outs.length:=by omega
   rw[hl]at hx
   refine (Sv hC (f:=e.num.toNat) zO h7.1 e.count.toNat xs zs t T1 h1 hx).bind fun ys T2 ws u q1 q2 q3=>?_
   exact HS.ret q1 (TE.refl T2)<|q3.2.2 _ zO
  rw[if_neg k11,if_neg k11]
  exact YE hm h1 hx zO (fun h7=>by rw[w4 h7];decide) fun h7=>by rw[w3 (by omega)];decide
theorem Vh (hm:1≤m)(hv:HW p):∀F,F≤p.length→bN m A p F (Kd p F) (Ee p m F)
 |0,_=>⟨fun f j n T rs zs t h=>by omega,fun f n T rs zs t h=>by omega⟩
 |F+1,hF=>by
  have ih:=Vh hm hv F zO
  have hO:∀j n T rs zs t,j<(p.getD F Fn.zero).outs.length→Dv m A T→Ms m A n T rs zs→((n:Nat):Int)=(p.getD F Fn.zero).params→HS m A T (Nv m A) (GQ (Kd p F) ((p.getD F Fn.zero).outs.getD j Ex.zero) rs t T) (Cn m (Ee p m F) ((p.getD F Fn.zero).outs.getD j Ex.zero) zs t):=fun j n T rs zs t h2 h1 h3 h4 =>
   Sw hm ih _ _ (A7 _) n rs zs t T (by rw[h4];exact hv.wf F zO j h2) h1 h3
  refine⟨fun f j n T rs zs t h1 h2 h0 h3 h4=>?_,fun f n T rs zs t h1 h0 h3 h4=>?_⟩
  ·show HS m A T _ (if f=F then _ else _) (if f=F then _ else _)
   by_cases e:f=F
   ·subst e;rw[if_pos rfl,if_pos rfl];exact hO j n T rs zs t h2 h0 h3 h4
   ·rw[if_neg e,if_neg e];exact ih.one f j n T rs zs t zO h2 h0 h3 h4
  ·show HS m A T _ (if f=F then _ else _) (if f=F then _ else _)
   by_cases e:f=F
   ·subst e;rw[if_pos rfl,if_pos rfl]
    refine Su (n:=n) _ (fun e he s T' h5 h6=>?_) t T h0 h3
    obtain⟨j,hj,rfl⟩:=List.mem_iff_getElem.1 he
    have:=hO j n T' rs zs s hj h5 h6 h4
    rwa [DZ hj]at this
   ·rw[if_neg e,if_neg e];exact ih.all f n T rs zs t zO h0 h3 h4
theorem Vi {a:List Int}(hn:AV a=true)(hA:OL m a A):∀k,k≤a.length→Dv m A (Ja a k)
 |0,_=>⟨rfl,fun k hk=>absurd hk (Nat.not_lt_zero k),fun k hk=>absurd hk (Nat.not_lt_zero k),fun k hk=>absurd hk (Nat.not_lt_zero k),fun k hk=>absurd hk (Nat.not_lt_zero k)⟩
 |k+1,h=>by
  have e:EE m A (B9 m A (Ja a k).code) ⟨1,0,0,((k:Nat):Int)⟩=A.getD k []:=by
   show A.getD (((k:Nat):Int)).toNat []=_
   rw[Int.toNat_natCast]
  refine (Vi hn hA k zO).put ?_ ?_ (.inl ⟨rfl,rfl,rfl,Int.natCast_nonneg k,by rw[hA.len];exact Int.ofNat_lt.2 h⟩) fun h6=>absurd (show(1:Int)=6 from h6) (by decide)
  ·rw[e];exact hA.ser k h
  ·rw[e];exact hA.at0 k h
theorem YF {a:List Int}(hA:OL m a A):Ms m A a.length (Ja a a.length) (GR a.length) A:=by
 have hr:∀k,k≤a.length→∀j,j<k→(B9 m A (Ja a k).code).getD j []=A.getD j []:=fun k=>by
  induction k with
  |zero=>exact fun _ j hj=>absurd hj (Nat.not_lt_zero j)
  |succ k ih =>
   intro hk j hj
   show(B9 m A ((Ja a k).code++[_])).getD j []=_
   rw[Ef]
   by_cases e:j=k
   ·rw[H9 (by rw[CR,MO];exact e),e]
    show A.getD (((k:Nat):Int)).toNat []=_
    rw[Int.toNat_natCast]
   ·rw[GY (by rw[CR,MO];omega)];exact ih zO j zO
 refine⟨Gf _,hA.len,fun i hi=>?_⟩
 rw[NT hi]
 exact⟨by rw[JL];omega,by rw[Int.toNat_natCast,hr _ (A7 _) i hi]⟩
theorem Sx {a:List Int}{f:Nat}(hm:1≤m)(hv:HW p)(hf:f<p.length)(hn:AV a=true)(hA:OL m a A)(hl:((a.length:Nat):Int)=(p.getD f Fn.zero).params) :
  HS m A (Ja a a.length) (Ms m A (p.getD f Fn.zero).outs.length) (QB p f a) (ev p m f A):=by
 have h:=(Vh (A:=A) hm hv (f+1) zO).all f a.length (Ja a a.length) (GR a.length) A 0 zO (Vi hn hA _<|A7 _) (YF hA) hl
 rw[MM (show f<f+1 by omega),HI (show f<f+1 by omega)]at h
 exact h
theorem O3 {a:List Int}{f:Nat}(hm:1≤m)(hv:HW p)(hf:f<p.length)(hn:AV a=true)(hA:OL m a A)(hl:((a.length:Nat):Int)=(p.getD f Fn.zero).params){xs:List Int}{T:Tp}{s:Nat}{c:Int}(h:AH (QB p f a) (xs,T) s c):Js p m f A=c:=by
 have hT:=Sx hm hv hf hn hA hl
 cases hr:QB p f a with
 |err d =>
  rw[hr]at h hT
  have h9:ev p m f A=.err d:=hT
  rw[K6 h9];exact h.1.symm
 |ok x t =>
  rw[hr]at h hT
  obtain⟨z,h1,_⟩:=hT
  rw[NL h1];exact h.2.2.symm
theorem Sy {a:List Int}{f:Nat}(hm:1≤m)(hv:HW p)(hf:f<p.length)(hn:AV a=true)(hA:OL m a A)(hl:((a.length:Nat):Int)=(p.getD f Fn.zero).params){xs:List Int}{T:Tp}{s:Nat}{c:Int}(h:AH (QB p f a) (xs,T) s c)(hc:c=0) :
  Dv m A T∧JE p m f A=xs.map fun r=>(B9 m A T.code).getD r.toNat []:=by
 have hT:=Sx hm hv hf hn hA hl
 subst hc
 have hr:=h.ok
 rw[hr]at hT
 obtain⟨z,h1,h2,h3,h4⟩:=hT
 refine⟨h2,?_⟩
 rw[KR h1]
 refine Uh (by rw[h4.2.1,List.length_map,h4.1]) fun i hi=>?_
 rw[h4.2.1]at hi
 rw[BS (d:=0) (by rw[h4.1];exact hi)]
 exact (h4.2.2 i hi).2
end
end
section
def L8 (m:Nat)(A:List Sr)(cs:List AD)(k:Nat):Prop:=∀j,j<k→(cs.getD j AD.zero).op=6→((B9 m A (cs.take j)).getD (cs.getD j AD.zero).b.toNat []).getD 0 0≠0
section
variable {m k:Nat} {A R:List Sr} {cs:List AD} {c:AD}
theorem Ds (hk:k<cs.length):B9 m A (cs.take (k+1))=B9 m A (cs.take k)++[EE m A (B9 m A (cs.take k)) (cs.getD k AD.zero)]:=by
 rw[CP AD.zero hk,Ef]
theorem MU (h:c.op=1):EE m A R c=A.getD c.num.toNat []:=if_pos h
theorem L9 (h:c.op=3):EE m A R c=Dy (R.getD c.a.toNat []) (R.getD c.b.toNat []):=by unfold EE;rw[if_neg zO,if_pos h]
theorem La (h:c.op=4):EE m A R c=EU (R.getD c.a.toNat []) (R.getD c.b.toNat []):=by unfold EE;rw[if_neg zO,if_neg zO,if_pos h]
theorem Lb (h:c.op=5):EE m A R c=Cb (R.getD c.a.toNat []) (R.getD c.b.toNat []):=by unfold EE;rw[if_neg zO,if_neg zO,if_neg zO,if_pos h]
theorem Lc (h:c.op=7):EE m A R c=CQ (R.getD c.a.toNat []) 1000002:=by unfold EE;rw[if_neg zO,if_neg zO,if_neg zO,if_neg zO,if_pos h]
theorem Ld (h:c.op=6):EE m A R c=Bs (R.getD c.a.toNat []) (R.getD c.b.toNat []):=by unfold EE;rw[if_neg zO,if_neg zO,if_neg zO,if_neg zO,if_neg zO,if_pos h]
theorem Le (h:c.op≠1∧c.op≠3∧c.op≠4∧c.op≠5∧c.op≠7∧c.op≠6):EE m A R c=cst m c.num:=by
 unfold EE;rw[if_neg h.1,if_neg h.2.1,if_neg h.2.2.1,if_neg h.2.2.2.1,if_neg h.2.2.2.2.1,if_neg h.2.2.2.2.2]
theorem Sz (hA:C7 m A)(hR:C7 m R)(hl:R.length=k)(h:EV A.length k c):Cj m (EE m A R c):=by
 have hg:∀x:Int,0≤x→x<((k:Nat):Int)→Cj m (R.getD x.toNat []):=fun x h0 h1=>hR _ zO
 rcases h with⟨h1,_,_,h2,h3⟩|⟨h1,_,_,h2,h3⟩|⟨h1,h2,h3,_⟩|⟨h1,h2,_⟩
 ·rw[MU h1];exact hA _ zO
 ·rw[Le (by omega)];exact Dr (BR.2 ⟨h2,h3⟩)
 ·have ha:=hg c.a h2.1 h2.2
  rcases h1 with h1|h1|h1|h1
  ·rw[L9 h1];exact J5 ha
  ·rw[La h1];exact KO ha
  ·rw[Lb h1];exact J6 ha
  ·rw[Ld h1];exact Hg ha
 ·rw[Lc h1];exact KP (hg c.a h2.1 h2.2)
theorem Us (h:C7 m (B9 m A (cs.take k)))(hA:C7 m A)(hf:EV A.length k (cs.getD k AD.zero))(hk:k<cs.length):C7 m (B9 m A (cs.take (k+1))):=by
 rw[Ds hk]
 exact C7.snoc h<|Sz hA h (by rw[CR,List.length_take];omega) hf
theorem XH:L8 m A cs 0:=fun j hj=>absurd hj (Nat.not_lt_zero j)
theorem Ut (h:L8 m A cs k)(hk:(cs.getD k AD.zero).op≠6):L8 m A cs (k+1):=fun j hj h6=>by
 by_cases e:j=k
 ·subst e;exact absurd h6 hk
 ·exact h j zO h6
theorem Uu (h:L8 m A cs k)(hk:((B9 m A (cs.take k)).getD (cs.getD k AD.zero).b.toNat []).getD 0 0≠0):L8 m A cs (k+1):=fun j hj h6=>by
 by_cases e:j=k
 ·subst e;exact hk
 ·exact h j zO h6
theorem SA {n:Nat}(hk:k<n)(h6:(cs.getD k AD.zero).op=6)(hz:((B9 m A (cs.take k)).getD (cs.getD k AD.zero).b.toNat []).getD 0 0=0):¬L8 m A cs n:=fun h=>h k hk h6 hz
end
theorem Dv.nz {m:Nat}{A:List Sr}{T:Tp}(h:Dv m A T):L8 m A T.code T.code.length:=fun j hj h6=>by
 have hf:=h.form j hj
 have hd:=h.dv j hj h6
 unfold EV at hf
 have hb:(T.code.getD j AD.zero).b.toNat<j:=by omega
 have hs:=(h.ser (T.code.getD j AD.zero).b.toNat zO).2
 have e:(B9 m A (T.code.take j)).getD (T.code.getD j AD.zero).b.toNat []=(B9 m A T.code).getD (T.code.getD j AD.zero).b.toNat []:=by
  have h9:=L7 (m:=m) (A:=A) (T.code.take j) (T.code.drop j) (k:=(T.code.getD j AD.zero).b.toNat) (by rw[List.length_take];omega)
  rw[List.take_append_drop]at h9
  exact h9.symm
 rw[e,hs]
 exact hd
section io
variable {ni k:Nat} {c:AD}
theorem EV.i1 (h:EV ni k c)(h1:c.op=1):(0≤c.num∧c.num<((ni:Nat):Int)):=by unfold EV at h;omega
theorem EV.i2 (h:EV ni k c)(h1:3≤c.op∧c.op≤6):(0≤c.a∧c.a<((k:Nat):Int))∧(0≤c.b∧c.b<((k:Nat):Int)):=by unfold EV at h;omega
theorem EV.i7 (h:EV ni k c)(h1:c.op=7):(0≤c.a∧c.a<((k:Nat):Int)):=by unfold EV at h;omega
end io
theorem MV {S:List Nat}{H:Array Obj}{cs:List Value}{x:AD}(h:RN S Oi H cs x):cs=aK x∧RQ x:=by
 obtain⟨F,h,_⟩:=h
 exact⟨h.1,h.2.1⟩
theorem XI {S:List Nat}{H:Array Obj}{cs:List Value}{x:Is}(h:RN S Oj H cs x):cs=aL x∧Bw x.reg:=by
 obtain⟨F,h,_⟩:=h
 exact⟨h.1,h.2.1⟩
def YG (m:Nat)(A:List Sr)(cs:List AD)(c:Int):Prop:=(c=0∧L8 m A cs cs.length)∨(c=6∧¬L8 m A cs cs.length)
end
section
def EL (B:List Sr)(r:Int)(s:Sr):List Sr:=B.set r.toNat (Dy (B.getD r.toNat []) s)
def LM (cs:List AD)(R:List Sr)(k:Nat)(B:List Sr):List Sr :=
 if (cs.getD k AD.zero).op=3 then EL (EL B (cs.getD k AD.zero).a (B.getD k [])) (cs.getD k AD.zero).b (B.getD k [])
 else if (cs.getD k AD.zero).op=4 then EL (EL B (cs.getD k AD.zero).a (B.getD k [])) (cs.getD k AD.zero).b (CQ (B.getD k []) 1000002)
 else if (cs.getD k AD.zero).op=5 then EL (EL B (cs.getD k AD.zero).a (Cb (B.getD k []) (R.getD (cs.getD k AD.zero).b.toNat []))) (cs.getD k AD.zero).b (Cb (B.getD k []) (R.getD (cs.getD k AD.zero).a.toNat []))
 else if (cs.getD k AD.zero).op=6 then EL (EL B (cs.getD k AD.zero).a (Bs (B.getD k []) (R.getD (cs.getD k AD.zero).b.toNat []))) (cs.getD k AD.zero).b (CQ (Cb (Bs (B.getD k []) (R.getD (cs.getD k AD.zero).b.toNat [])) (R.getD k [])) 1000002)
 else if (cs.getD k AD.zero).op=7 then EL B (cs.getD k AD.zero).a (CQ (B.getD k []) 1000002)else B
def PT (cs:List AD)(R:List Sr):Nat→List Sr→List Sr
 |0,B=>B
 |k+1,B=>PT cs R k (LM cs R k B)
def Ke (os:List Int)(ws:List Int):Nat→List Sr→List Sr
 |0,B=>B
 |k+1,B=>(Ke os ws k B).set (os.getD k 0).toNat (((Ke os ws k B).getD (os.getD k 0).toNat []).set 0 (md (((Ke os ws k B).getD (os.getD k 0).toNat []).getD 0 0+ws.getD k 0)))
def JP (R:List Sr):List Sr:=R.map fun s=>List.replicate s.length 0
def Je (cs:List AD)(R:List Sr)(os ws:List Int):List Sr:=PT cs R cs.length (Ke os ws os.length (JP R))
section
variable {m:Nat} {cs:List AD} {R B:List Sr} {os ws:List Int}
theorem Jf (h:C7 m R):C7 m (JP R):=fun k hk=>by
 have hk':k<R.length:=by unfold JP at hk;simpa using hk
 have e:(JP R).getD k []=List.replicate (R.getD k []).length 0:=by unfold JP;simp[List.getD_eq_getElem?_getD,List.getElem?_map,hk']
 rw[e]
 exact⟨by rw[List.length_replicate];exact(h k hk').1,Gc _⟩
@[simp] theorem Ev:(JP R).length=R.length:=by simp[JP]
@[simp] theorem FN (k:Nat):(Ke os ws k B).length=B.length:=by
 induction k with
 |zero=>rfl
 |succ k ih=>show((Ke os ws k B).set _ _).length=_;rw[List.length_set,ih]
theorem C7.set {k:Nat}{s:Sr}(h:C7 m B)(hs:Cj m s):C7 m (B.set k s):=fun j hj=>by
 rw[List.length_set]at hj
 by_cases e:j=k
 ·rw[e,Fm _ _ _ _ _ zO,if_pos rfl];exact hs
 ·rw[show(B.set k s).getD j []=B.getD j []from by rw[List.getD_eq_getElem?_getD,List.getElem?_set_ne (fun h=>e h.symm),← List.getD_eq_getElem?_getD]];exact h j hj
theorem QG {s:Sr}{y:Int}(h:AV s=true)(hy:0≤y∧y<1000003):AV (s.set 0 y)=true:=by
 cases s with
 |nil=>rfl
 |cons x s =>
  rw[List.set_cons_zero]
  unfold AV at h ⊢
  rw[List.all_cons]at h ⊢
  have:=Bool.and_eq_true_iff.1 h
  rw[this.2,Bool.and_true]
  exact BR.2 hy
theorem HT (h:C7 m B)(ho:∀k,k<os.length→(os.getD k 0).toNat<B.length):∀k,k≤os.length→C7 m (Ke os ws k B)
 |0,_=>h
 |k+1,hk=>by
  have ih:=HT h ho k zO
  have h9:=ih (os.getD k 0).toNat (by rw[FN];exact ho k zO)
  exact ih.set ⟨by rw[List.length_set];exact h9.1,QG h9.2<|BM _⟩
@[simp] theorem Cc {r:Int}{s:Sr}:(EL B r s).length=B.length:=by unfold EL;rw[List.length_set]
theorem D0 {r:Int}{s:Sr}(h:C7 m B)(hr:r.toNat<B.length):C7 m (EL B r s):=h.set (J5 (h _ hr))
theorem MW (k:Nat):(LM cs R k B).length=B.length:=by
 unfold LM
 split
 ·rw[Cc,Cc]
 ·split
  ·rw[Cc,Cc]
  ·split
   ·rw[Cc,Cc]
   ·split
    ·rw[Cc,Cc]
    ·split
     ·rw[Cc]
     ·rfl
theorem GB {ni k:Nat}(h:C7 m B)(hk:k≤B.length)(hf:EV ni k (cs.getD k AD.zero)):C7 m (LM cs R k B):=by
 have h2:=fun h9=>hf.i2 h9
 have h7:=fun h9=>hf.i7 h9
 unfold LM
 split
 ·have:=h2 (by omega);exact D0 (D0 h zO) (by rw[Cc];omega)
 ·split
  ·have:=h2 (by omega);exact D0 (D0 h zO) (by rw[Cc];omega)
  ·split
   ·have:=h2 (by omega);exact D0 (D0 h zO) (by rw[Cc];omega)
   ·split
    ·have:=h2 (by omega);exact D0 (D0 h zO) (by rw[Cc];omega)
    ·split
     ·have:=h7 (by omega);exact D0 h zO
     ·exact h
theorem PU:∀(n:Nat)(B:List Sr),(PT cs R n B).length=B.length
 |0,_=>rfl
 |n+1,B=>by show(PT cs R n _).length=_;rw[PU n,MW]
theorem PW {ni:Nat}(hf:∀k,k<cs.length→EV ni k (cs.getD k AD.zero)):∀(n:Nat)(B:List Sr),n≤cs.length→n≤B.length→C7 m B→C7 m (PT cs R n B)
 |0,_,_,_,h=>h
 |n+1,B,hn,hb,h=>PW hf n _ zO (by rw[MW];omega) (GB h zO (hf n zO))
theorem O4 {k:Nat}(h:(cs.getD k AD.zero).op=3):LM cs R k B=EL (EL B (cs.getD k AD.zero).a (B.getD k [])) (cs.getD k AD.zero).b (B.getD k []):=if_pos h
theorem O5 {k:Nat}(h:(cs.getD k AD.zero).op=4):LM cs R k B=EL (EL B (cs.getD k AD.zero).a (B.getD k [])) (cs.getD k AD.zero).b (CQ (B.getD k []) 1000002):=by unfold LM;rw[if_neg zO,if_pos h]
theorem O6 {k:Nat}(h:(cs.getD k AD.zero).op=5):LM cs R k B=EL (EL B (cs.getD k AD.zero).a (Cb (B.getD k []) (R.getD (cs.getD k AD.zero).b.toNat []))) (cs.getD k AD.zero).b (Cb (B.getD k []) (R.getD (cs.getD k AD.zero).a.toNat [])):=by unfold LM;rw[if_neg zO,if_neg zO,if_pos h]
theorem O7 {k:Nat}(h:(cs.getD k AD.zero).op=6):LM cs R k B=EL (EL B (cs.getD k AD.zero).a (Bs (B.getD k []) (R.getD (cs.getD k AD.zero).b.toNat []))) (cs.getD k AD.zero).b (CQ (Cb (Bs (B.getD k []) (R.getD (cs.getD k AD.zero).b.toNat [])) (R.getD k [])) 1000002):=by
 unfold LM;rw[if_neg zO,if_neg zO,if_neg zO,if_pos h]
theorem O8 {k:Nat}(h:(cs.getD k AD.zero).op=7):LM cs R k B=EL B (cs.getD k AD.zero).a (CQ (B.getD k []) 1000002):=by unfold LM;rw[if_neg zO,if_neg zO,if_neg zO,if_neg zO,if_pos h]
theorem O9 {k:Nat}(h:(cs.getD k AD.zero).op<3∨7<(cs.getD k AD.zero).op):LM cs R k B=B:=by unfold LM;rw[if_neg zO,if_neg zO,if_neg zO,if_neg zO,if_neg (by omega)]
theorem Gh {n k:Nat}{D B':List Sr}(h:PT cs R n B=D)(hn:n=k+1)(hi:LM cs R k B=B'):PT cs R k B'=D:=by
 subst hn
 rw[← hi];exact h
end
theorem MX {e:TypeId}{H:Array Obj}{v:Value}{us:List Value}{F:List Nat}(h:Bt rV e H v us F)(hl:0<us.length):∃g cap,F=[g]∧v=.slice (some ⟨g,0,none⟩) us.length cap∧∀k,k<us.length→GP H (Ay v k 1)=some (us.getD k undef):=by
 rcases h with⟨_,rfl,_⟩|⟨vs,g,cap,cur,F',hels,rfl,hg,r1,r2,r3,r4,rfl⟩
 ·simp at hl
 ·obtain⟨rfl,rfl⟩:=FL hels
  refine⟨g,cap,rfl,rfl,fun k hk=>?_⟩
  have hu:vs[k]? = some (vs.getD k undef):=by simp[List.getD_eq_getElem?_getD,hk]
  rw[Gq]
  simp only[GP,BQ,hg,Nat.zero_add]
  rw[← r4,List.getElem?_take,if_pos hk]at hu
  rw[r4]at hu
  simpa using hu
section
variable {e:TypeId} {B:Nat} {w w':World} {v:Value} {xs:List (List Int)} {us:List Value} {F:List Nat}
theorem Ha.getF {S:List Nat}{H:Array Obj}(h:Ha e S B H v xs us F){k:Nat}(hk:k<xs.length):∃u,GP H (Ay v k 1)=some u∧RN (S++F) (B2 rI) H u (xs.getD k []):=by
 obtain⟨g,cap,_,_,h3⟩:=MX h.own (by rw[h.len];omega)
 exact⟨_,h3 k (by rw[h.len];exact hk),h.els k hk⟩
theorem Ha.ofFr {S:List Nat}{e1:TypeId}{U:Nat}{H:Array Obj}(h:Fr (Bt (Bt rI e1) e) B U H v xs)(hS:∀b∈S,b<B):∃us F,Ha e S B H v xs us F∧∀b∈F,b<U:=by
 obtain⟨F,h1,h2,h3⟩:=h
 rcases h1 with⟨rfl,rfl,rfl⟩|⟨us,g,cap,cur,F',hels,rfl,hg,r1,r2,r3,r4,rfl⟩
 ·exact⟨[],[],⟨.inl ⟨rfl,rfl,rfl⟩,List.nodup_nil,(fun b hb=>absurd hb List.not_mem_nil),rfl,(fun k hk=>absurd hk (Nat.not_lt_zero k))⟩,(fun b hb=>absurd hb List.not_mem_nil)⟩
 ·have hl:=hels.length
  have hn:=List.nodup_cons.1 h2
  refine⟨us,[g],⟨.inr ⟨us,g,cap,cur,[],KL (hels.cells1 o1),by rw[hl],hg,zO,r2,r3,by rw[hl];exact r4,rfl⟩,by simp,fun b hb=>?_,hl,fun k hk=>?_⟩,fun b hb=>?_⟩
  ·have:=h3 b (by rw[A9 hb];exact List.mem_cons_self ..);omega
  ·obtain⟨u,G,hu,q1,q2,q3,_⟩:=hels.at_ (k:=k) [] hk hn.2
   have e1:us.getD k undef=u:=by simp[List.getD_eq_getElem?_getD,hu]
   rw[e1]
   exact⟨G,q1.rd id,fun b hb hm=>by
    have hb':=q3 b hb
    rcases List.mem_append.1 hm with hm|hm
    ·have h8:=hS b hm
     have h9:=(h3 b<|List.mem_cons_of_mem _ hb').1
     omega
    ·rw[A9 hm]at hb'
     exact hn.1 hb'⟩
  ·exact (h3 b (by rw[A9 hb];exact List.mem_cons_self ..)).2
end
section ops
variable {P:Program} {ops:Array Oper} {w0:World} {Q:Act→World→Prop} {os:List Oper} {ks:List Nat} {N:Nat} {ρ:Nat→Value} {w:World}
 {d:Nat} {ty:TypeId} {pos:String} {aft:Array Edge} {g:Option (Nat×Bool)} {t e:TypeId} {z:Value} {b:Nat}
theorem SB {S:List Nat}{st:TypeId}{x y:Operand}{v u:Value}{xs:List (List Int)}{r:List Int}{us:List Value}{F:List Nat}{B j:Nat}(hst:(P.info? st).map (·.size)=some 1)(hx:Bq N ρ x=Ay v j 1)(hy:Bq N ρ y=u)
  (hv:Ha e S B w.heap v xs us F) (hr:RN (S++F) (B2 rI) w.heap u r) (hj:j<xs.length) (hu:Up ops N ρ ⟨none,.store st x y,ty,pos,aft,g⟩)
  (h:∀w1,At F w w1→w1.heap.size=w.heap.size→Ha e S B w1.heap v (xs.set j r) (us.set j u) F→LW P ops w0 Q os ks (mk N ρ) w1) :
  LW P ops w0 Q (⟨none,.store st x y,ty,pos,aft,g⟩::os) (4::ks) (mk N ρ) w:=by
 obtain⟨g0,cap,hF,hvv,_⟩:=MX hv.own (by rw[hv.len];omega)
 have hone:=hr.one1 g1
 obtain⟨w1,F',q1,q2,q3,q4,q5,q6⟩:=Pe (P:=P) BE hst hv.own hv.nd (by rw[hv.len];exact hj) (u:=u) (y:=u) (G:=[]) ⟨rfl,rfl,hone.1,hone.2⟩ List.nodup_nil (fun b hb=>by cases hb)
 obtain⟨g2,cap2,hF2,hvv2,_⟩:=MX q2 (by rw[List.length_set,hv.len];omega)
 have hg:g2=g0:=by
  rw[hvv]at hvv2
  injection hvv2 with h1 _ _
  injection h1 with h1
  injection h1 with h1 _ _
  exact h1.symm
 have hFF:F'=F:=by rw[hF2,hF,hg]
 subst hFF
 have hc:At F' w w1:=q5.sub fun x hx=>List.mem_of_mem_take hx
 refine QU rfl hu w1 (Gs hx hy q1)<|h w1 hc q6 ⟨q2,hv.nd,hv.low,by rw[List.length_set,List.length_set];exact hv.len,fun k hk=>?_⟩
 rw[List.length_set]at hk
 have hku:k<us.length:=by rw[hv.len];exact hk
 rw[Fm _ _ _ _ _ (by rw[hv.len];exact hj),Fm _ _ _ _ _ hj]
 have hcS:At (S++F') w w1:=hc.sub fun b hb=>List.mem_append_right _ hb
 by_cases ek:k=j
 ·rw[if_pos ek,if_pos ek];exact hr.chg g1 hcS
 ·rw[if_neg ek,if_neg ek]
  exact (hv.els k hk).chg g1 hcS
theorem Uv {st e':TypeId}{x y:Operand}{v u:Value}{n:Int}{xs:List (List Int)}{B T r j:Nat}{F:List Nat}(hst:(P.info? st).map (·.size)=some 1)(hx:Bq N ρ x=Ay u j 1)(hy:Bq N ρ y=.int .i64 n)(hn:-9223372036854775808≤n∧n≤9223372036854775807)
  (hv:Ow (Bt (Bt rI e) e') B T w.heap v xs F) (hr:r<xs.length) (hl:GP w.heap (Ay v r 1)=some u) (hj:j<(xs.getD r []).length) (hu:Up ops N ρ ⟨none,.store st x y,ty,pos,aft,g⟩)
  (h:∀w1 G,At G w w1→w1.heap.size=w.heap.size→(∀c∈G,c∈F)→Ow (Bt (Bt rI e) e') B T w1.heap v (xs.set r ((xs.getD r []).set j n)) F→LW P ops w0 Q os ks (mk N ρ) w1) :
  LW P ops w0 Q (⟨none,.store st x y,ty,pos,aft,g⟩::os) (4::ks) (mk N ρ) w:=by
 obtain⟨hown,hnd,hlow,hhigh⟩:=hv
 rcases hown with⟨_,rfl,_⟩|⟨us,g0,cap,cur,F',hels,rfl,hg,r1,r2,r3,r4,rfl⟩
 ·simp at hr
 ·have hc:=List.nodup_cons.1 hnd
  obtain⟨u',G,q0,q1,q2,q3,q4⟩:=hels.at_ (k:=r) [] hr hc.2
  have hlen:=hels.length
  have hu':u'=u:=by
   rw[Gq]at hl
   simp only[GP,BQ,hg,Nat.zero_add]at hl
   rw[← r4,List.getElem?_take,if_pos hr]at q0
   have:some u'=some u:=by rw[← q0,← hl];simp
   exact Option.some.inj this
  subst hu'
  obtain⟨w1,p1,p2,p3,p4⟩:=R0 (P:=P) hst q1 q2 hj hn
  have hgG:g0∉G:=fun hm=>hc.1 (q3 g0 hm)
  refine QU rfl hu w1 (Gs hx hy p1)<|h w1 G p3 p4 (fun c hm=>List.mem_cons_of_mem _<|q3 c hm) ⟨.inr ⟨us,g0,cap,cur,F',?_,by rw[List.length_set],?_,by rw[List.length_set];exact r1,r2,r3,by rw[List.length_set];exact r4,rfl⟩,hnd,hlow,hhigh⟩
  ·exact q4 (fun hE hC=>o1.stable hE fun b hb=>p3.block b (o1.lt hE b hb) (hC b hb).2) p2
  ·have hlt:g0<w.heap.size:=(Array.getElem?_eq_some_iff.1 hg).1
   rw[p3.block g0 hlt hgG];exact hg
end ops
section
variable {e1 e:TypeId} {B T:Nat} {w:World} {v:Value} {xs:List (List Int)} {F:List Nat}
theorem Ow.rowO (h:Ow (Bt (Bt rI e1) e) B T w.heap v xs F){k:Nat}(hk:k<xs.length):∃u,GP w.heap (Ay v k 1)=some u∧Rd (B2 rI) w.heap u (xs.getD k []):=by
 obtain⟨u,G,q0,q1,_⟩:=h.fr.row o1 [] hk
 exact⟨u,q0,G,q1.rd id⟩
theorem Ow.slO {H:Array Obj}(h:Ow (Bt (Bt rI e1) e) B T H v xs F):ET v xs.length:=(Bt.rd id h.own:B2 (Bt rI e1) H v xs F).isSl
theorem Ha.ofOw {S:List Nat}(h:Ow (Bt (Bt rI e1) e) B T w.heap v xs F)(hS:∀b∈S,b<B):∃us F',Ha e S B w.heap v xs us F'∧∀b∈F',b∈F:=by
 obtain⟨h1,h2,h3,h4⟩:=h
 rcases h1 with⟨rfl,rfl,rfl⟩|⟨us,g,cap,cur,F',hels,rfl,hg,r1,r2,r3,r4,rfl⟩
 ·exact⟨[],[],⟨.inl ⟨rfl,rfl,rfl⟩,List.nodup_nil,(fun b hb=>absurd hb List.not_mem_nil),rfl,(fun k hk=>absurd hk (Nat.not_lt_zero k))⟩,(fun b hb=>absurd hb List.not_mem_nil)⟩
 ·have hl:=hels.length
  have hn:=List.nodup_cons.1 h2
  refine⟨us,[g],⟨.inr ⟨us,g,cap,cur,[],KL (hels.cells1 o1),by rw[hl],hg,zO,r2,r3,by rw[hl];exact r4,rfl⟩,by simp,fun b hb=>?_,hl,fun k hk=>?_⟩,fun b hb=>?_⟩
  ·exact h3 b (by rw[A9 hb];exact List.mem_cons_self ..)
  ·obtain⟨u,G,hu,q1,q2,q3,_⟩:=hels.at_ (k:=k) [] hk hn.2
   have e1:us.getD k undef=u:=by simp[List.getD_eq_getElem?_getD,hu]
   rw[e1]
   exact⟨G,q1.rd id,fun b hb hm=>by
    have hb':=q3 b hb
    rcases List.mem_append.1 hm with hm|hm
    ·have h8:=hS b hm
     have h9:=h3 b<|List.mem_cons_of_mem _ hb'
     omega
    ·rw[A9 hm]at hb'
     exact hn.1 hb'⟩
  ·rw[A9 hb];exact List.mem_cons_self ..
end
theorem SD {R:List Sr}{k:Nat}(hk:k<R.length):JP (R.take k)++[List.replicate (R.getD k []).length 0]=JP (R.take (k+1)):=by
 unfold JP
 rw[CP [] hk,List.map_append];rfl
end
section
def PX (cs:List AD)(L:List Sr):Nat→List Sr→List Sr
 |0,B=>B
 |k+1,B=>if (cs.getD k AD.zero).op=1 then EL (PX cs L k B) (cs.getD k AD.zero).num (L.getD k [])else PX cs L k B
def Uw (ni m:Nat)(cs:List AD)(L:List Sr):List Sr:=PX cs L cs.length (List.replicate ni (List.replicate m 0))
section
variable {m ni:Nat} {cs:List AD} {L B:List Sr}
theorem Lf {k:Nat}(h:(cs.getD k AD.zero).op=1):PX cs L (k+1) B=EL (PX cs L k B) (cs.getD k AD.zero).num (L.getD k []):=if_pos h
theorem Lg {k:Nat}(h:(cs.getD k AD.zero).op≠1):PX cs L (k+1) B=PX cs L k B:=if_neg h
@[simp] theorem Jg (k:Nat):(PX cs L k B).length=B.length:=by
 induction k with
 |zero=>rfl
 |succ k ih =>
  by_cases h:(cs.getD k AD.zero).op=1
  ·rw[Lf h,Cc,ih]
  ·rw[Lg h,ih]
theorem MY (m ni:Nat):C7 m (List.replicate ni (List.replicate m 0)):=fun k hk=>by
 rw[List.length_replicate]at hk
 have e:(List.replicate ni (List.replicate m (0:Int))).getD k []=List.replicate m 0:=by simp[List.getD_eq_getElem?_getD,hk]
 rw[e]
 exact⟨List.length_replicate,Gc _⟩
theorem KC (hf:∀k,k<cs.length→EV B.length k (cs.getD k AD.zero))(h:C7 m B):∀k,k≤cs.length→C7 m (PX cs L k B)
 |0,_=>h
 |k+1,hk=>by
  have ih:=KC hf h k zO
  by_cases h1:(cs.getD k AD.zero).op=1
  ·rw[Lf h1]
   have:=(hf k zO).i1 h1
   exact D0 ih (by rw[Jg];omega)
  ·rw[Lg h1];exact ih
theorem PY (hf:∀k,k<cs.length→EV ni k (cs.getD k AD.zero)):C7 m (Uw ni m cs L):=KC (fun k hk=>by rw[List.length_replicate];exact hf k hk) (MY m ni) _ (A7 _)
@[simp] theorem PZ:(Uw ni m cs L).length=ni:=by unfold Uw;rw[Jg,List.length_replicate]
end
end
section
def Jh (A:List Sr):List Int:=A.map fun s=>s.getD 0 0
section
variable {m:Nat} {A:List Sr} {T:Tp} {xs:List Int}
@[simp] theorem Lh:(Jh A).length=A.length:=by simp[Jh]
theorem QH (h:C7 m A):OL m (Jh A) A:=⟨Lh.symm,fun i hi=>h i (by rw[Lh]at hi;exact hi),fun i hi=>by
 rw[Lh]at hi
 unfold Jh
 rw[BS (d:=[]) hi]⟩
theorem Dv.regs (h:Dv m A T):C7 m (B9 m A T.code):=fun k hk=>(h.ser k (by rw[CR]at hk;exact hk)).1
theorem Dv.outs (h:Dv m A T)(hE:K8 T xs):∀k,k<xs.length→0≤xs.getD k 0∧xs.getD k 0<((T.code.length:Nat):Int):=fun k hk=>by have:=hE k hk;have:=h.cl;omega
theorem Dv.adj (h:Dv m A T)(hE:K8 T xs){ws:List Int}:C7 m (Je T.code (Go.Proofs.YtbajepcpgncekaaGreat.B9 m A T.code) xs ws):=by
 have ho:=h.outs hE
 refine PW (ni:=A.length) h.form _ _ (A7 _) (by rw[FN,Ev,CR];exact A7 _)<|HT (Jf h.regs) (fun q hq=>?_) _<|A7 _
 have:=ho q hq
 rw[Ev,CR];omega
theorem SE {cs:List AD}{R:List Sr}{os ws:List Int}:(Je cs R os ws).length=R.length:=by unfold Je;rw[PU,FN,Ev]
end
end
section
theorem bO {f:Nat→Int}:∀ {n:Nat},(∀i,i<n→f i=0)→sm n f=0
 |0,_=>rfl
 |n+1,h=>by unfold sm;rw[bO (n:=n) fun i hi=>h i zO,h n (by omega)];rfl
section
variable {N N':Nat} {f f' g g':Nat→Int} {a b:Sr}
theorem EN.mono (h:EN N f g)(hN:N'≤N):EN N' f g:=fun k hk=>h k zO
theorem EN.neg (hf:EN N f f'):EN N (fun k=>- f k) (fun k=>- f' k):=fun k hk=>by rw[← JB,hf k hk,JB]
theorem EN.eq (h:∀k,k<N→f k=g k):EN N f g:=fun k hk=>by rw[h k hk]
theorem SF (ha:Cj N a):EN N (DE (CQ a 1000002)) (fun k=>- DE a k):=EN.trans (bJ (y:=1000002) ha) fun k _=>by
 show md (1000002*DE a k)=md (- DE a k)
 unfold md;omega
def Lo (r:Nat)(f:Nat→Int):Prop:=EN r f Kc
theorem Lo.mono {r r':Nat}(h:Lo r f)(hr:r'≤r):Lo r' f:=EN.mono h hr
theorem Lo.of {r:Nat}(h:EN r f g)(hg:Lo r g):Lo r f:=EN.trans h hg
theorem Lo.add {r:Nat}(h:Lo r f)(hg:Lo r g):Lo r fun k=>f k+g k:=(EN.add h hg).trans fun k _=>rfl
theorem Lo.sub {r:Nat}(h:Lo r f)(hg:Lo r g):Lo r fun k=>f k-g k:=(EN.sub h hg).trans fun k _=>rfl
theorem Lo.neg {r:Nat}(h:Lo r f):Lo r fun k=>- f k:=fun k hk=>by
 have:=h k hk
 show md (- f k)=md 0
 rw[← JB,this];rfl
theorem Lo.cvl {r:Nat}(h:Lo r f)(g:Nat→Int):Lo r (cv f g):=(EN.cv h (EN.rfl' g)).trans fun k _=>by rw[FM];rfl
theorem Lo.cvr {r:Nat}(g:Nat→Int)(h:Lo r f):Lo r (cv g f):=fun k hk=>by rw[Dq];exact h.cvl g k hk
theorem Lo.cv2 {r s:Nat}(h:Lo r f)(hg:Lo s g):Lo (r+s) (cv f g):=fun k hk=>by
 rw[J4]
 have e:md (sm (k+1) fun i=>f i*g (k-i))=md (sm (k+1) fun _=>0):=Ga fun i hi=>by
  by_cases h1:i<r
  ·rw[← C8,h i h1]
   show md (md 0*_)=_
   rw[Cm,Int.zero_mul]
  ·rw[← C8,hg (k-i) (by omega)]
   show md (_*md 0)=_
   rw[BY,Int.mul_zero]
 rw[e,bO fun _ _=>rfl];rfl
theorem Ji (f g g':Nat→Int)(k:Nat):cv f (fun i=>g i-g' i) k=cv f g k-cv f g' k:=by rw[Dq,Pv,Dq g,Dq g']
theorem Q0 (f g:Nat→Int)(k:Nat):cv f (fun i=>- g i) k = - cv f g k:=by
 have e:(fun i=>- g i)=fun i=>(-1)*g i:=funext fun i=>by omega
 rw[e,NJ];omega
theorem MZ (f g:Nat→Int)(k:Nat):cv (fun i=>- f i) g k = - cv f g k:=by rw[Dq,Q0,Dq]
theorem Lo.div {r:Nat}(hd:∃e:Int,md (g 0*e)=1)(h:Lo r (cv f g)):Lo r f:=Ou hd (h.trans fun k _=>by rw[FM];rfl)
end
section
variable {N m n:Nat} {B:List Sr} {v v':Nat→Nat→Int}
theorem OM {f g:Nat→Int}{i:Nat}:∀ {n:Nat},i<n→(∀j,j<n→j≠i→f j=g j)→sm n f=sm n g+(f i-g i)
 |0,h,_=>absurd h (Nat.not_lt_zero i)
 |n+1,hi,h=>by
  show sm n f+f n=sm n g+g n+_
  by_cases e:i=n
  ·subst e
   rw[AZ fun j hj=>h j zO (by omega)];omega
  ·rw[OM (n:=n) zO fun j hj he=>h j zO he,h n zO (fun h=>e h.symm)];omega
theorem YH {i:Nat}(hi:i<n)(h:∀j,j<n→j≠i→v j=v' j)(t:Nat):Gm n v B t=Gm n v' B t+(cv (DE (B.getD i [])) (v i) t-cv (DE (B.getD i [])) (v' i) t):=by
 unfold Gm
 exact OM (f:=fun j=>cv (DE (B.getD j [])) (v j) t) (g:=fun j=>cv (DE (B.getD j [])) (v' j) t) hi fun j hj he=>by rw[h j hj he]
theorem Q3 {i:Nat}{s:Sr}{d:Nat→Int}(hi:i<n)(hb:i<B.length)(h:EN N (DE s) fun t=>DE (B.getD i []) t+d t):EN N (Gm n v (B.set i s)) fun t=>Gm n v B t+cv d (v i) t:=fun t ht=>by
 have e:Gm n v (B.set i s) t=Gm n v B t+(cv (DE s) (v i) t-cv (DE (B.getD i [])) (v i) t):=by
  unfold Gm
  have:=OM (f:=fun j=>cv (DE ((B.set i s).getD j [])) (v j) t) (g:=fun j=>cv (DE (B.getD j [])) (v j) t) hi fun j hj he=>by rw[Fm _ _ _ _ _ hb,if_neg he]
  rw[this,Fm _ _ _ _ _ hb,if_pos rfl]
 have h2:md (cv (DE s) (v i) t)=md (cv (DE (B.getD i [])) (v i) t+cv d (v i) t):=by
  rw[EN.cv h (EN.rfl' (v i)) t ht,Kq]
 show md _=md (Gm n v B t+cv d (v i) t)
 rw[e,← Gv,← Ed,h2,Ed,Gv]
 congr 1;omega
theorem KD {r:Int}{s:Sr}(hB:C7 m B)(hN:N≤m)(hr:r.toNat<n)(hb:r.toNat<B.length):EN N (Gm n v (EL B r s)) fun t=>Gm n v B t+cv (DE s) (v r.toNat) t :=
 Q3 hr hb (EN.mono (XC (hB _ hb)) hN)
theorem Oa (h:∀j,j<n→∀t,DE (B.getD j []) t=0)(t:Nat):Gm n v B t=0:=by
 unfold Gm
 refine bO fun j hj=>?_
 rw[show DE (B.getD j [])=Kc from funext fun t=>h j hj t,FM]
end
structure YI (N:Nat)(cs:List AD)(R:List Sr)(z D:Nat→Nat→Int):Prop where
 t1:∀k,k<cs.length→(cs.getD k AD.zero).op=1→EN N (D k) (z (cs.getD k AD.zero).num.toNat)
 t2:∀k,k<cs.length→(cs.getD k AD.zero).op=2→EN N (D k) Kc
 t3:∀k,k<cs.length→(cs.getD k AD.zero).op=3→EN N (D k) fun t=>D (cs.getD k AD.zero).a.toNat t+D (cs.getD k AD.zero).b.toNat t
 t4:∀k,k<cs.length→(cs.getD k AD.zero).op=4→EN N (D k) fun t=>D (cs.getD k AD.zero).a.toNat t-D (cs.getD k AD.zero).b.toNat t
 t5:∀k,k<cs.length→(cs.getD k AD.zero).op=5→EN N (D k) fun t=>cv (DE (R.getD (cs.getD k AD.zero).b.toNat [])) (D (cs.getD k AD.zero).a.toNat) t+cv (DE (R.getD (cs.getD k AD.zero).a.toNat [])) (D (cs.getD k AD.zero).b.toNat) t
 t6:∀k,k<cs.length→(cs.getD k AD.zero).op=6→EN N (cv (DE (R.getD (cs.getD k AD.zero).b.toNat [])) (D k)) fun t=>D (cs.getD k AD.zero).a.toNat t-cv (DE (R.getD k [])) (D (cs.getD k AD.zero).b.toNat) t
 t7:∀k,k<cs.length→(cs.getD k AD.zero).op=7→EN N (D k) fun t=>- D (cs.getD k AD.zero).a.toNat t
def EF (cs:List AD)(D:Nat→Nat→Int)(n k:Nat):Nat→Int:=if k<n∨(cs.getD k AD.zero).op=1 then D k else Kc
section
variable {N m ni:Nat} {cs:List AD} {R B:List Sr} {z D:Nat→Nat→Int} {os ws:List Int}
theorem GD {n k:Nat}(h:k<n):EF cs D n k=D k:=if_pos (.inl h)
theorem SG {n k:Nat}(h:(cs.getD k AD.zero).op=1):EF cs D n k=D k:=if_pos (.inr h)
theorem Vj {n k:Nat}(h:n≤k)(h1:(cs.getD k AD.zero).op≠1):EF cs D n k=Kc:=if_neg zO
theorem YJ (hT:YI N cs R z D)(hN:N≤m)(hR:C7 m R)(hRl:R.length=cs.length)(hB:C7 m B)(hl:B.length=cs.length){k:Nat}(hk:k<cs.length)(hf:EV ni k (cs.getD k AD.zero))
  (hd:(cs.getD k AD.zero).op=6→(R.getD (cs.getD k AD.zero).b.toNat []).getD 0 0≠0) :
  EN N (Gm cs.length (EF cs D k) (LM cs R k B)) (Gm cs.length (EF cs D (k+1)) B):=by
 have hBk:=hB k zO
 by_cases h1:(cs.getD k AD.zero).op=1
 ·rw[O9 (by omega)]
  have e:Gm cs.length (EF cs D k) B=Gm cs.length (EF cs D (k+1)) B:=funext fun t=>by
   unfold Gm
   refine AZ fun j hj=>?_
   by_cases e:j=k
   ·subst e;rw[SG h1,SG h1]
   ·by_cases e2:j<k
    ·rw[GD e2,GD (by omega)]
    ·unfold EF
     by_cases e3:(cs.getD j AD.zero).op=1
     ·rw[if_pos (.inr e3),if_pos (.inr e3)]
     ·rw[if_neg zO,if_neg (by omega)]
  rw[e];exact EN.rfl' _
 have hup:Gm cs.length (EF cs D (k+1)) B=fun t=>Gm cs.length (EF cs D k) B t+cv (DE (B.getD k [])) (D k) t:=funext fun t=>by
  rw[YH (v:=EF cs D (k+1)) (v':=EF cs D k) hk (fun j hj he=>?_) t,GD (Nat.lt_succ_self k),Vj (A7 k) h1,Dq _ Kc,FM]
  ·omega
  ·by_cases e2:j<k
   ·rw[GD e2,GD (by omega)]
   ·unfold EF
    by_cases e3:(cs.getD j AD.zero).op=1
    ·rw[if_pos (.inr e3),if_pos (.inr e3)]
    ·rw[if_neg zO,if_neg (by omega)]
 rw[hup]
 have two:∀ {ra rb:Int} {sa sb:Sr},ra.toNat<k→rb.toNat<k→EN N (fun t=>cv (DE sa) (D ra.toNat) t+cv (DE sb) (D rb.toNat) t) (cv (DE (B.getD k [])) (D k)) →
   EN N (Gm cs.length (EF cs D k) (EL (EL B ra sa) rb sb)) fun t=>Gm cs.length (EF cs D k) B t+cv (DE (B.getD k [])) (D k) t:=fun {ra rb sa sb} ha hb h=>by
  have q1:=KD (v:=EF cs D k) (s:=sa) (n:=cs.length) hB hN (r:=ra) zO zO
  have q2:=KD (v:=EF cs D k) (s:=sb) (n:=cs.length) (D0 (s:=sa) hB (r:=ra) zO) hN (r:=rb) zO (by rw[Cc];omega)
  rw[GD ha]at q1
  rw[GD hb]at q2
  refine q2.trans<|EN.trans (EN.add q1<|EN.rfl' _) ?_
  refine EN.trans (EN.eq fun t _=>?_)<|EN.add (EN.rfl'<|Gm cs.length (EF cs D k) B) h
  exact Int.add_assoc _ _ _
 have b2:=fun h=>hf.i2 h
 have b7:=fun h=>hf.i7 h
 by_cases h3:(cs.getD k AD.zero).op=3
 ·rw[O4 h3]
  have:=b2 zO
  refine two zO zO ?_
  refine EN.trans (EN.eq fun t _=>?_)<|EN.cv (EN.rfl' _) (hT.t3 k hk h3).symm
  rw[Kr]
 by_cases h4:(cs.getD k AD.zero).op=4
 ·rw[O5 h4]
  have:=b2 zO
  refine two zO zO ?_
  refine EN.trans (EN.add (EN.rfl' _)<|EN.cv (EN.mono (SF hBk) hN)<|EN.rfl' _) ?_
  refine EN.trans (EN.eq fun t _=>?_)<|EN.cv (EN.rfl' _) (hT.t4 k hk h4).symm
  rw[Ji,MZ];omega
 by_cases h5:(cs.getD k AD.zero).op=5
 ·rw[O6 h5]
  have:=b2 zO
  refine two zO zO ?_
  refine EN.trans (EN.add (EN.cv (EN.mono (Rx hBk) hN)<|EN.rfl' _)<|EN.cv (EN.mono (Rx hBk) hN)<|EN.rfl' _) ?_
  refine EN.trans (EN.eq fun t _=>?_)<|EN.cv (EN.rfl' _) (hT.t5 k hk h5).symm
  rw[Kr,Hd,Hd]
 by_cases h6:(cs.getD k AD.zero).op=6
 ·rw[O7 h6]
  have:=b2 zO
  have hRb:=hR (cs.getD k AD.zero).b.toNat zO
  refine two zO zO ?_
  have hq:=Xd hBk hRb<|hd h6
  refine EN.trans (EN.add (EN.rfl' _)<|EN.cv (EN.mono (EN.trans (SF<|J6<|Hg hBk)<|EN.neg<|Rx<|Hg hBk) hN)<|EN.rfl' _) ?_
  refine EN.trans ?_<|EN.cv (EN.mono hq hN)<|EN.rfl' _
  refine EN.trans ?_<|EN.trans (EN.cv (EN.rfl'<|DE<|Bs (B.getD k [])<|R.getD (cs.getD k AD.zero).b.toNat []) (hT.t6 k hk h6).symm) (EN.eq fun t _=>(Hd _ _ _ t).symm)
  refine EN.eq fun t _=>?_
  rw[MZ,Ji,Hd];omega
 by_cases h7:(cs.getD k AD.zero).op=7
 ·rw[O8 h7]
  have:=b7 h7
  have q1:=KD (v:=EF cs D k) (s:=CQ (B.getD k []) 1000002) (n:=cs.length) hB hN (r:=(cs.getD k AD.zero).a) zO zO
  rw[GD (by omega)]at q1
  refine q1.trans<|EN.add (EN.rfl' _) ?_
  refine EN.trans (EN.cv (EN.mono (SF hBk) hN)<|EN.rfl' _)<|EN.trans (EN.eq fun t _=>?_)<|EN.cv (EN.rfl' _) (hT.t7 k hk h7).symm
  rw[Q0,MZ]
 have h2:(cs.getD k AD.zero).op=2:=by unfold EV at hf;omega
 rw[O9 (by omega)]
 refine EN.trans (EN.eq fun t _=>?_)<|EN.add (EN.rfl' _)<|EN.cv (EN.rfl' _) (hT.t2 k hk h2).symm
 rw[Dq,FM,Int.add_zero]
theorem Vk (hT:YI N cs R z D)(hN:N≤m)(hR:C7 m R)(hRl:R.length=cs.length)(hf:∀k,k<cs.length→EV ni k (cs.getD k AD.zero))
  (hd:∀k,k<cs.length→(cs.getD k AD.zero).op=6→(R.getD (cs.getD k AD.zero).b.toNat []).getD 0 0≠0) :
  ∀(n:Nat) (B:List Sr),n≤cs.length→C7 m B→B.length=cs.length→EN N (Gm cs.length (EF cs D 0) (PT cs R n B)) (Gm cs.length (EF cs D n) B)
 |0,B,_,_,_=>EN.rfl' _
 |n+1,B,hn,hB,hl=>by
  show EN N (Gm cs.length (EF cs D 0) (PT cs R n (LM cs R n B))) _
  exact (Vk hT hN hR hRl hf hd n _ zO (GB hB zO<|hf n zO) (by rw[MW,hl])).trans<|YJ hT hN hR hRl hB hl zO (hf n zO)<|hd n zO
theorem Q4 {L B0:List Sr}(hT:YI N cs R z D)(hN:N≤m)(hB:C7 m B0)(hl:B0.length=ni)(hf:∀k,k<cs.length→EV ni k (cs.getD k AD.zero)) :
  ∀n,n≤cs.length→EN N (Gm ni z (PX cs L n B0)) fun t=>Gm ni z B0 t+sm n fun k=>cv (DE (L.getD k [])) (EF cs D 0 k) t
 |0,_=>fun t _=>by show _=md (_+0);rw[Int.add_zero];rfl
 |n+1,hn=>by
  have ih:=Q4 (L:=L) hT hN hB hl hf n zO
  by_cases h1:(cs.getD n AD.zero).op=1
  ·rw[Lf h1]
   have hi:=(hf n zO).i1 h1
   refine (KD (KC (fun k hk=>by rw[hl];exact hf k hk) hB n zO) hN zO (by rw[Jg];omega)).trans ?_
   refine (EN.add ih<|EN.cv (EN.rfl' _) (hT.t1 n zO h1).symm).trans (EN.eq fun t _=>?_)
   show _=Gm ni z B0 t+(sm n _+cv (DE (L.getD n [])) (EF cs D 0 n) t)
   rw[SG h1,Int.add_assoc]
  ·rw[Lg h1]
   refine ih.trans (EN.eq fun t _=>?_)
   show _=Gm ni z B0 t+(sm n _+cv (DE (L.getD n [])) (EF cs D 0 n) t)
   rw[Vj (Nat.zero_le n) h1,Dq _ Kc,FM,Int.add_zero]
theorem SH {m:Nat}(t:Nat):DE (List.replicate m 0) t=0:=Ib m t
theorem Vl (hB:C7 m B)(hm:1≤m){n:Nat}(hn:n≤B.length):∀k,k≤os.length→(∀i,i<os.length→(os.getD i 0).toNat<n) →
  EN N (Gm n D (Ke os ws k B)) fun t=>Gm n D B t+sm k fun i=>ws.getD i 0*D (os.getD i 0).toNat t
 |0,_,_=>fun t _=>by show _=md (_+0);rw[Int.add_zero];rfl
 |k+1,hk,ho=>by
  have ih:=Vl hB hm hn k zO ho
  have h9:=ho k zO
  have hs:=HT (ws:=ws) hB (fun i hi=>by have:=ho i hi;omega) k zO (os.getD k 0).toNat (by rw[FN];omega)
  refine (Q3 (B:=Ke os ws k B) (s:=((Ke os ws k B).getD (os.getD k 0).toNat []).set 0<|md (((Ke os ws k B).getD (os.getD k 0).toNat []).getD 0 0+ws.getD k 0)) (d:=fun t=>ws.getD k 0*Qu t) h9 (by rw[FN];omega) fun t _=>?_).trans ?_
  ·unfold DE
   rw[Fm _ _ _ _ _ (by rw[hs.1];omega)]
   unfold Qu
   by_cases e:t=0
   ·subst e
    show _=md (_+ws.getD k 0*(if (0:Nat)=0 then 1 else 0))
    rw[if_pos rfl,if_pos rfl,Cx,Int.mul_one]
   ·show _=md (_+ws.getD k 0*(if t=0 then 1 else 0))
    rw[if_neg e,if_neg e,Int.mul_zero,Int.add_zero]
  ·refine (EN.add ih<|EN.rfl' _).trans (EN.eq fun t _=>?_)
   show _=_+(sm k _+_)
   rw[J3,Xc,Int.add_assoc]
theorem Ux (hT:YI N cs R z D)(hN:N≤m)(hm:1≤m)(hR:C7 m R)(hRl:R.length=cs.length)(hf:∀k,k<cs.length→EV ni k (cs.getD k AD.zero))
  (hd:∀k,k<cs.length→(cs.getD k AD.zero).op=6→(R.getD (cs.getD k AD.zero).b.toNat []).getD 0 0≠0) (ho:∀i,i<os.length→(os.getD i 0).toNat<cs.length) :
  EN N (Gm ni z (Uw ni m cs (Je cs R os ws))) fun t=>sm os.length fun i=>ws.getD i 0*D (os.getD i 0).toNat t:=by
 have h1:=Q4 (L:=Je cs R os ws) (B0:=List.replicate ni<|List.replicate m 0) hT hN (MY m ni) List.length_replicate hf cs.length<|A7 _
 have hw:C7 m (Ke os ws os.length (JP R)):=HT (Jf hR) (fun q hq=>by rw[Ev,hRl];exact ho q hq) _ (A7 _)
 have h2:=Vk hT hN hR hRl hf hd cs.length (Ke os ws os.length<|JP R) (A7 _) hw (by rw[FN,Ev,hRl])
 have h3:=Vl (N:=N) (D:=D) (os:=os) (ws:=ws) (Jf hR) hm (n:=cs.length) (by rw[Ev,hRl];exact A7 _) os.length (A7 _) ho
 have e1:∀t,Gm ni z (List.replicate ni (List.replicate m 0)) t=0:=Oa fun j hj t=>by
  rw[show(List.replicate ni (List.replicate m (0:Int))).getD j []=List.replicate m 0 from by simp[List.getD_eq_getElem?_getD,hj]];exact SH t
 have e2:∀t,Gm cs.length D (JP R) t=0:=Oa fun j hj t=>by
  rw[show(JP R).getD j []=List.replicate (R.getD j []).length 0 from by unfold JP;rw[BS (d:=[]) (by omega)]];exact SH t
 have e3:Gm cs.length (EF cs D cs.length) (Ke os ws os.length (JP R))=Gm cs.length D (Ke os ws os.length (JP R)):=funext fun t=>by
  unfold Gm
  exact AZ fun j hj=>by rw[GD hj]
 rw[e3]at h2
 refine h1.trans<|EN.trans (EN.eq fun t _=>?_)<|EN.trans h2<|h3.trans (EN.eq fun t _=>?_)
 ·rw[e1,Int.zero_add];rfl
 ·rw[e2,Int.zero_add]
end
end
section
def CB (A A':List Sr)(j:Nat):Nat→Int:=fun t=>DE (A'.getD j []) t-DE (A.getD j []) t
section
variable {m r N k j:Nat} {A A':List Sr} {T:Tp} {cs:List AD}
theorem FX (hk:k≤cs.length)(hj:j<k):(B9 m A (cs.take k)).getD j []=(B9 m A cs).getD j []:=by
 have:=L7 (m:=m) (A:=A) (cs.take k) (cs.drop k) (k:=j) (by rw[List.length_take];omega)
 rw[List.take_append_drop]at this
 exact this.symm
theorem Iv (hk:k<cs.length):(B9 m A cs).getD k []=EE m A (B9 m A (cs.take k)) (cs.getD k AD.zero):=by
 rw[← FX (show k+1≤cs.length from hk) (Nat.lt_succ_self k),Ds hk,H9 (by rw[CR,List.length_take];omega)]
theorem Dv.r1 (h:Dv m A T)(hk:k<T.code.length)(h1:(T.code.getD k AD.zero).op=1):(Go.Proofs.YtbajepcpgncekaaGreat.B9 m A T.code).getD k []=A.getD (T.code.getD k AD.zero).num.toNat []:=by rw[Iv hk,MU h1]
theorem Dv.r2 (h:Dv m A T)(hk:k<T.code.length)(h1:(T.code.getD k AD.zero).op=2):(Go.Proofs.YtbajepcpgncekaaGreat.B9 m A T.code).getD k []=cst m (T.code.getD k AD.zero).num:=by rw[Iv hk,Le (by omega)]
theorem Dv.r3 (h:Dv m A T)(hk:k<T.code.length)(h1:(T.code.getD k AD.zero).op=3):(Go.Proofs.YtbajepcpgncekaaGreat.B9 m A T.code).getD k []=Dy ((Go.Proofs.YtbajepcpgncekaaGreat.B9 m A T.code).getD (T.code.getD k AD.zero).a.toNat []) ((Go.Proofs.YtbajepcpgncekaaGreat.B9 m A T.code).getD (T.code.getD k AD.zero).b.toNat []):=by
 have:=(h.form k hk).i2 zO
 rw[Iv hk,L9 h1,FX zO zO,FX zO (by omega)]
theorem Dv.r4 (h:Dv m A T)(hk:k<T.code.length)(h1:(T.code.getD k AD.zero).op=4):(Go.Proofs.YtbajepcpgncekaaGreat.B9 m A T.code).getD k []=EU ((Go.Proofs.YtbajepcpgncekaaGreat.B9 m A T.code).getD (T.code.getD k AD.zero).a.toNat []) ((Go.Proofs.YtbajepcpgncekaaGreat.B9 m A T.code).getD (T.code.getD k AD.zero).b.toNat []):=by
 have:=(h.form k hk).i2 zO
 rw[Iv hk,La h1,FX zO zO,FX zO (by omega)]
theorem Dv.r5 (h:Dv m A T)(hk:k<T.code.length)(h1:(T.code.getD k AD.zero).op=5):(Go.Proofs.YtbajepcpgncekaaGreat.B9 m A T.code).getD k []=Cb ((Go.Proofs.YtbajepcpgncekaaGreat.B9 m A T.code).getD (T.code.getD k AD.zero).a.toNat []) ((Go.Proofs.YtbajepcpgncekaaGreat.B9 m A T.code).getD (T.code.getD k AD.zero).b.toNat []):=by
 have:=(h.form k hk).i2 zO
 rw[Iv hk,Lb h1,FX zO zO,FX zO (by omega)]
theorem Dv.r6 (h:Dv m A T)(hk:k<T.code.length)(h1:(T.code.getD k AD.zero).op=6):(Go.Proofs.YtbajepcpgncekaaGreat.B9 m A T.code).getD k []=Bs ((Go.Proofs.YtbajepcpgncekaaGreat.B9 m A T.code).getD (T.code.getD k AD.zero).a.toNat []) ((Go.Proofs.YtbajepcpgncekaaGreat.B9 m A T.code).getD (T.code.getD k AD.zero).b.toNat []):=by
 have:=(h.form k hk).i2 zO
 rw[Iv hk,Ld h1,FX zO zO,FX zO (by omega)]
theorem Dv.r7 (h:Dv m A T)(hk:k<T.code.length)(h1:(T.code.getD k AD.zero).op=7):(Go.Proofs.YtbajepcpgncekaaGreat.B9 m A T.code).getD k []=CQ ((Go.Proofs.YtbajepcpgncekaaGreat.B9 m A T.code).getD (T.code.getD k AD.zero).a.toNat []) 1000002:=by
 have:=(h.form k hk).i7 h1
 rw[Iv hk,Lc h1,FX zO (by omega)]
theorem Dv.rz (h:Dv m A T)(hk:k<T.code.length)(h1:(T.code.getD k AD.zero).op=6):((Go.Proofs.YtbajepcpgncekaaGreat.B9 m A T.code).getD (T.code.getD k AD.zero).b.toNat []).getD 0 0≠0:=by
 have:=(h.form k hk).i2 zO
 rw[(h.ser (T.code.getD k AD.zero).b.toNat zO).2]
 exact h.dv k hk h1
theorem SI (f g:Nat→Int):f=fun t=>g t+(f t-g t):=funext fun t=>by omega
theorem SJ (v w v' w':Nat→Int)(t:Nat):cv v' w' t-cv v w t=cv w (fun t=>v' t-v t) t+cv v (fun t=>w' t-w t) t+cv (fun t=>v' t-v t) (fun t=>w' t-w t) t:=by
 rw[Pv,Ji,Ji,Ji,Dq w,Dq w];omega
theorem Vm (h:Dv m A T)(h':Dv m A' T)(hk:k<T.code.length)(h1:(T.code.getD k AD.zero).op=1):CB (B9 m A T.code) (B9 m A' T.code) k=CB A A' (T.code.getD k AD.zero).num.toNat:=by
 unfold CB;rw[h.r1 hk h1,h'.r1 hk h1]
theorem Vn (h:Dv m A T)(h':Dv m A' T)(hk:k<T.code.length)(h1:(T.code.getD k AD.zero).op=2):EN N (CB (B9 m A T.code) (B9 m A' T.code) k) Kc:=EN.eq fun t _=>by
 unfold CB;rw[h.r2 hk h1,h'.r2 hk h1,Int.sub_self];rfl
theorem Vo (h:Dv m A T)(h':Dv m A' T)(hk:k<T.code.length)(h1:(T.code.getD k AD.zero).op=3) :
  EN m (CB (B9 m A T.code) (B9 m A' T.code) k) fun t=>CB (B9 m A T.code) (B9 m A' T.code) (T.code.getD k AD.zero).a.toNat t+CB (B9 m A T.code) (B9 m A' T.code) (T.code.getD k AD.zero).b.toNat t:=by
 have hb:=(h.form k hk).i2 zO
 unfold CB;rw[h.r3 hk h1,h'.r3 hk h1]
 exact (EN.sub (XC (h'.ser _ zO).1) (XC (h.ser _ zO).1)).trans (EN.eq fun t _=>by omega)
theorem Vp (h:Dv m A T)(h':Dv m A' T)(hk:k<T.code.length)(h1:(T.code.getD k AD.zero).op=4) :
  EN m (CB (B9 m A T.code) (B9 m A' T.code) k) fun t=>CB (B9 m A T.code) (B9 m A' T.code) (T.code.getD k AD.zero).a.toNat t-CB (B9 m A T.code) (B9 m A' T.code) (T.code.getD k AD.zero).b.toNat t:=by
 have hb:=(h.form k hk).i2 zO
 unfold CB;rw[h.r4 hk h1,h'.r4 hk h1]
 exact (EN.sub (Yb (h'.ser _ zO).1) (Yb (h.ser _ zO).1)).trans (EN.eq fun t _=>by omega)
theorem Vq (h:Dv m A T)(h':Dv m A' T)(hk:k<T.code.length)(h1:(T.code.getD k AD.zero).op=7) :
  EN m (CB (B9 m A T.code) (B9 m A' T.code) k) fun t=>- CB (B9 m A T.code) (B9 m A' T.code) (T.code.getD k AD.zero).a.toNat t:=by
 have hb:=(h.form k hk).i7 h1
 unfold CB;rw[h.r7 hk h1,h'.r7 hk h1]
 exact (EN.sub (SF (h'.ser _ zO).1) (SF (h.ser _ zO).1)).trans (EN.eq fun t _=>by omega)
theorem Vr (h:Dv m A T)(h':Dv m A' T)(hk:k<T.code.length)(h1:(T.code.getD k AD.zero).op=5) :
  EN m (CB (B9 m A T.code) (B9 m A' T.code) k) fun t=>cv (DE ((B9 m A T.code).getD (T.code.getD k AD.zero).b.toNat [])) (CB (B9 m A T.code) (B9 m A' T.code) (T.code.getD k AD.zero).a.toNat) t
   + cv (DE ((B9 m A T.code).getD (T.code.getD k AD.zero).a.toNat [])) (CB (B9 m A T.code) (B9 m A' T.code) (T.code.getD k AD.zero).b.toNat) t
   + cv (CB (B9 m A T.code) (B9 m A' T.code) (T.code.getD k AD.zero).a.toNat) (CB (B9 m A T.code) (B9 m A' T.code) (T.code.getD k AD.zero).b.toNat) t:=by
 have hb:=(h.form k hk).i2 zO
 unfold CB;rw[h.r5 hk h1,h'.r5 hk h1]
 exact (EN.sub (Rx (h'.ser _ zO).1) (Rx (h.ser _ zO).1)).trans (EN.eq fun t _=>SJ _ _ _ _ t)
theorem Vs (h:Dv m A T)(h':Dv m A' T)(hk:k<T.code.length)(h1:(T.code.getD k AD.zero).op=6) :
  EN m (CB (B9 m A T.code) (B9 m A' T.code) (T.code.getD k AD.zero).a.toNat) fun t=>cv (DE ((B9 m A T.code).getD (T.code.getD k AD.zero).b.toNat [])) (CB (B9 m A T.code) (B9 m A' T.code) k) t
   + cv (DE ((B9 m A T.code).getD k [])) (CB (B9 m A T.code) (B9 m A' T.code) (T.code.getD k AD.zero).b.toNat) t
   + cv (CB (B9 m A T.code) (B9 m A' T.code) k) (CB (B9 m A T.code) (B9 m A' T.code) (T.code.getD k AD.zero).b.toNat) t:=by
 have hb:=(h.form k hk).i2 zO
 have q:=Xd (h.ser (T.code.getD k AD.zero).a.toNat zO).1 (h.ser (T.code.getD k AD.zero).b.toNat zO).1 (h.rz hk h1)
 have q':=Xd (h'.ser (T.code.getD k AD.zero).a.toNat zO).1 (h'.ser (T.code.getD k AD.zero).b.toNat zO).1 (h'.rz hk h1)
 rw[← h.r6 hk h1]at q
 rw[← h'.r6 hk h1]at q'
 exact (EN.sub q'.symm q.symm).trans (EN.eq fun t _=>SJ _ _ _ _ t)
theorem SK (h:Dv m A T)(h':Dv m A' T)(hr:r≤m)(hz:∀j,j<A.length→Lo r (CB A A' j)):∀n k,k<n→k<T.code.length→Lo r (CB (B9 m A T.code) (B9 m A' T.code) k)
 |0,k,hk,_=>absurd hk (Nat.not_lt_zero k)
 |n+1,k,hn,hk=>by
  have ih:=SK h h' hr hz n
  have hf:=h.form k hk
  have b2:=fun h=>hf.i2 h
  have b7:=fun h=>hf.i7 h
  by_cases h1:(T.code.getD k AD.zero).op=1
  ·rw[Vm h h' hk h1];have:=hf.i1 h1;exact hz _ zO
  by_cases h2:(T.code.getD k AD.zero).op=2
  ·exact Vn h h' hk h2
  by_cases h3:(T.code.getD k AD.zero).op=3
  ·have:=b2 zO
   exact Lo.of (EN.mono (Vo h h' hk h3) hr)<|(ih _ zO zO).add<|ih _ zO zO
  by_cases h4:(T.code.getD k AD.zero).op=4
  ·have:=b2 zO
   exact Lo.of (EN.mono (Vp h h' hk h4) hr)<|(ih _ zO zO).sub<|ih _ zO zO
  by_cases h5:(T.code.getD k AD.zero).op=5
  ·have:=b2 zO
   exact Lo.of (EN.mono (Vr h h' hk h5) hr)<|((Lo.cvr _<|ih _ zO zO).add<|Lo.cvr _<|ih _ zO zO).add<|(ih _ zO zO).cvl _
  by_cases h6:(T.code.getD k AD.zero).op=6
  ·have:=b2 zO
   have ha:=ih (T.code.getD k AD.zero).a.toNat zO zO
   have hb:=ih (T.code.getD k AD.zero).b.toNat zO zO
   have e:=EN.mono (Vs h h' hk h6) hr
   refine Lo.div (g:=DE<|(B9 m A' T.code).getD (T.code.getD k AD.zero).b.toNat []) (TT (h'.ser (T.code.getD k AD.zero).b.toNat zO).1 (h'.rz hk h6)) ?_
   refine Lo.of (g:=fun t=>CB (B9 m A T.code) (B9 m A' T.code) (T.code.getD k AD.zero).a.toNat t-cv (DE<|(B9 m A T.code).getD k []) (CB (B9 m A T.code) (B9 m A' T.code) (T.code.getD k AD.zero).b.toNat) t) ?_<|ha.sub<|hb.cvr _
   refine EN.trans (EN.eq fun t _=>?_)<|EN.sub e.symm<|EN.rfl' _
   rw[SI (DE ((B9 m A' T.code).getD (T.code.getD k AD.zero).b.toNat [])) (DE ((B9 m A T.code).getD (T.code.getD k AD.zero).b.toNat [])),Kr,Dq _ (DE ((B9 m A T.code).getD (T.code.getD k AD.zero).b.toNat []))]
   show _+cv _ (CB _ _ _) t=_
   omega
  have h7:(T.code.getD k AD.zero).op=7:=by unfold EV at hf;omega
  have:=b7 h7
  exact Lo.of (EN.mono (Vq h h' hk h7) hr) (ih _ zO zO).neg
theorem Uy (h:Dv m A T)(h':Dv m A' T)(hr:r≤m)(hz:∀j,j<A.length→Lo r (CB A A' j))(hN:N≤m)(h2:N≤r+r):YI N T.code (B9 m A T.code) (CB A A') (CB (B9 m A T.code) (B9 m A' T.code)):=by
 have lo:=fun k (hk:k<T.code.length)=>SK h h' hr hz (k+1) k (Nat.lt_succ_self k) hk
 refine⟨fun k hk h1=>by rw[Vm h h' hk h1];exact EN.rfl' _,fun k hk h1=>Vn h h' hk h1,fun k hk h1=>EN.mono (Vo h h' hk h1) hN,fun k hk h1=>EN.mono (Vp h h' hk h1) hN,fun k hk h1=>?_,fun k hk h1=>?_,fun k hk h1=>EN.mono (Vq h h' hk h1) hN⟩
 ·have:=(h.form k hk).i2 zO
  refine (EN.mono (Vr h h' hk h1) hN).trans ?_
  refine (EN.add (EN.rfl' _)<|Lo.mono (Lo.cv2 (lo _ zO)<|lo _ zO) h2).trans (EN.eq fun t _=>?_)
  exact Int.add_zero _
 ·have:=(h.form k hk).i2 zO
  refine (EN.sub (EN.mono (Vs h h' hk h1) hN) (EN.rfl' _) |>.trans ?_).symm
  refine (EN.sub (EN.add (EN.rfl' _)<|Lo.mono (Lo.cv2 (lo k hk)<|lo _ zO) h2)<|EN.rfl' _).trans (EN.eq fun t _=>?_)
  show _+_+(0:Int)-_=_
  omega
end
end
section
section
variable {p:List Fn} {f m r N i j s:Nat} {a:List Int} {A A':List Sr} {xs:List Int} {T:Tp}
structure N0 (p:List Fn)(f:Nat)(a:List Int)(xs:List Int)(T:Tp):Prop where
 v:HW p
 lt:f<p.length
 l:((a.length:Nat):Int)=(p.getD f Fn.zero).params
 n:AV a=true
 r:∃s,AH (QB p f a) (xs,T) s 0
theorem KE (hA:C7 m A)(h:Jh A=a):OL m a A:=by rw[← h];exact QH hA
theorem N0.tp (h:N0 p f a xs T)(hm:1≤m)(hA:C7 m A)(hf:Jh A=a):Dv m A T∧(JE p m f A=xs.map fun r=>(B9 m A T.code).getD r.toNat [])∧Js p m f A=0:=by
 obtain⟨s,hs⟩:=h.r
 have h1:=Sy hm h.v h.lt h.n (KE hA hf) h.l hs rfl
 exact⟨h1.1,h1.2,O3 hm h.v h.lt h.n (KE hA hf) h.l hs⟩
theorem Li (a:List Int):Jh (DY a)=a:=by
 unfold Jh DY
 rw[List.map_map]
 exact List.map_id'' (fun _=>rfl) a
theorem N0.en (h:N0 p f a xs T):xs.length=(p.getD f Fn.zero).outs.length∧K8 T xs:=by
 obtain⟨s,hs⟩:=h.r
 have hT:=Sx (A7 1) h.v h.lt h.n (KE (ED h.n)<|Li a) h.l
 rw[hs.ok]at hT
 obtain⟨z,h1,h2,h3,h4⟩:=hT
 exact⟨h4.1,fun k hk=>(h4.2.2 k (by rw[h4.1]at hk;exact hk)).1⟩
theorem N0.at (h:N0 p f a xs T):YC p f a:=⟨h.v,h.lt,h.l,h.n,(h.tp (A7 1) (ED h.n) (Li a)).2.2⟩
theorem N0.vals (h:N0 p f a xs T)(hm:1≤m)(hA:C7 m A)(hf:Jh A=a)(hi:i<xs.length):(JE p m f A).getD i []=(B9 m A T.code).getD (xs.getD i 0).toNat []:=by
 rw[(h.tp hm hA hf).2.1,BS (d:=0) hi]
theorem Uz (a d:List Int):Jh (Df a d 2)=a:=by
 refine List.ext_getElem (by simp) fun k h1 h2=>?_
 rw[← DZ (d:=(0:Int)) h1,← DZ (d:=(0:Int)) h2]
 unfold Jh
 rw[BS (d:=[]) (by rw[CA];exact h2),YB h2]
end
end
section
def Iw (m:Nat)(T:Tp)(xs ws:List Int)(A:List Sr):List Sr:=Uw A.length m T.code (Je T.code (B9 m A T.code) xs ws)
section
variable {p:List Fn} {f m m' i:Nat} {a d:List Int} {A A':List Sr} {xs ws:List Int} {T:Tp}
@[simp] theorem GE:(Iw m T xs ws A).length=A.length:=PZ
theorem N0.bk_ser (h:N0 p f a xs T)(hm:1≤m)(hA:C7 m A)(hf:Jh A=a)(ws:List Int):C7 m (Iw m T xs ws A):=by
 unfold Iw
 exact PY (h.tp hm hA hf).1.form
end
end
section
def Cq (x y:Int):Prop:=md x=md y
theorem Cq.r (x:Int):Cq x x:=rfl
theorem Cq.a {x y x' y':Int}(h:Cq x x')(k:Cq y y'):Cq (x+y) (x'+y'):=by unfold Cq at *;rw[← CO,h,k,CO]
theorem Cq.s {x y x' y':Int}(h:Cq x x')(k:Cq y y'):Cq (x-y) (x'-y'):=by unfold Cq at *;rw[← Ed,h,k,Ed]
theorem Cq.m {x y x' y':Int}(h:Cq x x')(k:Cq y y'):Cq (x*y) (x'*y'):=by unfold Cq at *;rw[← C8,h,k,C8]
theorem Cq.trans {x y z:Int}(h:Cq x y)(k:Cq y z):Cq x z:=Eq.trans h k
theorem Cq.of {x y:Int}(h:x=md y):Cq x y:=by unfold Cq;rw[h,Cx]
def N1 (n:Nat)(b:Nat→Nat→Int)(u v:List Int):Int:=sm n fun i=>sm n fun k=>b i k*(u.getD i 0*v.getD k 0+v.getD i 0*u.getD k 0)
theorem N3 (n:Nat)(b b':Nat→Nat→Int)(u v:List Int):N1 n (fun i k=>b i k+b' i k) u v=N1 n b u v+N1 n b' u v:=by
 unfold N1
 rw[← D8]
 refine AZ fun i _=>?_
 rw[← D8]
 exact AZ fun k _=>Int.add_mul _ _ _
theorem HU (n:Nat)(A:Int)(b:Nat→Nat→Int)(u v:List Int):N1 n (fun i k=>A*b i k) u v=A*N1 n b u v:=by
 unfold N1
 rw[← Co]
 refine AZ fun i _=>?_
 rw[← Co]
 exact AZ fun k _=>Int.mul_assoc _ _ _
theorem SL (n:Nat)(c c':Nat→Int)(u v:List Int):N1 n (fun i k=>c i*c' k) u v=Hl n c u*Hl n c' v+Hl n c v*Hl n c' u:=by
 unfold N1 Hl
 rw[HQ,HQ,← D8]
 refine AZ fun i _=>?_
 rw[← Co,← Co,← D8]
 refine AZ fun k _=>?_
 simp only[Int.mul_add,Int.mul_assoc,Int.mul_comm,Int.mul_left_comm]
structure P4 (n K:Nat)(D:Nat→List Int×List Int)(x:Nat→Sr)(z:Sr):Prop where
 sx:∀k,k<K→Cj 4 (x k)
 sz:Cj 1 z
 v:∀k,k<K→(x k).getD 0 0=z.getD 0 0
 q:∃(c:Nat→Int) (b:Nat→Nat→Int) (T:List Int→Int),∀k,k<K→(x k).getD 1 0=md (Hl n c (D k).1)∧(x k).getD 2 0=md (Hl n c (D k).2+HY n b (D k).1)∧(x k).getD 3 0=md (T (D k).1+N1 n b (D k).1 (D k).2)
theorem YK {a b:Sr}(h:3<a.length):(Cb a b).getD 3 0=md (a.getD 0 0*b.getD 3 0+a.getD 1 0*b.getD 2 0+a.getD 2 0*b.getD 1 0+a.getD 3 0*b.getD 0 0):=by
 rw[show(Cb a b).getD 3 0=_ from C3 0 h]
 show md (md (md (md (0+a.getD 0 0*b.getD 3 0)+a.getD 1 0*b.getD 2 0)+a.getD 2 0*b.getD 1 0)+a.getD 3 0*b.getD 0 0)=_
 generalize a.getD 0 0*b.getD 3 0=x
 generalize a.getD 1 0*b.getD 2 0=y
 generalize a.getD 2 0*b.getD 1 0=z
 generalize a.getD 3 0*b.getD 0 0=u
 unfold md;omega
theorem YL {a b:Sr}(h:3<a.length):(Bs a b).getD 3 0=md ((a.getD 3 0-(Bs a b).getD 0 0*b.getD 3 0-(Bs a b).getD 1 0*b.getD 2 0-(Bs a b).getD 2 0*b.getD 1 0)*inv (b.getD 0 0)):=by
 rw[HG h]
 show md (md (md (md (a.getD 3 0-(Bs a b).getD 0 0*b.getD 3 0)-(Bs a b).getD 1 0*b.getD 2 0)-(Bs a b).getD 2 0*b.getD 1 0)*inv (b.getD 0 0))=_
 exact ((((Cq.of rfl).s<|Cq.r _).trans (((Cq.of rfl).s<|Cq.r _).s<|Cq.r _) |> fun h=>(Cq.of rfl:Cq (md _) _).trans h).m (Cq.r _):Cq _ _)
section
variable {n K:Nat} {D:Nat→List Int × List Int} {xa xb out:Nat→Sr} {za zb oz:Sr}
theorem P4.op {A B E F G H:Int}(ha:P4 n K D xa za)(hb:P4 n K D xb zb)(hz:Cj 1 oz)(hx:∀k,k<K→Cj 4 (out k))(hv:∀k,k<K→(out k).getD 0 0=oz.getD 0 0)
  (h1:∀k,k<K→Cq ((out k).getD 1 0) (A*(xa k).getD 1 0+B*(xb k).getD 1 0))
  (h2:∀k,k<K→Cq ((out k).getD 2 0) ((A*(xa k).getD 2 0+B*(xb k).getD 2 0)+(E*((xa k).getD 1 0*(xb k).getD 1 0)+F*((xb k).getD 1 0*(xb k).getD 1 0))))
  (h3:∀k,k<K→Cq ((out k).getD 3 0) ((A*(xa k).getD 3 0+B*(xb k).getD 3 0)+(E*((xa k).getD 1 0*(xb k).getD 2 0+(xa k).getD 2 0*(xb k).getD 1 0)+F*((xb k).getD 1 0*(xb k).getD 2 0+(xb k).getD 2 0*(xb k).getD 1 0))
   + (G*((xa k).getD 1 0*((xb k).getD 1 0*(xb k).getD 1 0))+H*((xb k).getD 1 0*((xb k).getD 1 0*(xb k).getD 1 0))))):P4 n K D out oz:=by
 obtain⟨ca,ba,Ta,qa⟩:=ha.q
 obtain⟨cb,bb,Tb,qb⟩:=hb.q
 have num:∀k,k<K→∀j y,Cq ((out k).getD j 0) y→(out k).getD j 0=md y:=fun k hk j y h=>by
  have:=Bu (hx k hk).2 j
  rw[← h];exact(K5 this.1 this.2).symm
 refine⟨hx,hz,hv,fun i=>A*ca i+B*cb i,fun i k=>(A*ba i k+B*bb i k)+(E*(ca i*cb k)+F*(cb i*cb k)),
  fun u=>(A*Ta u+B*Tb u)+(E*(Hl n ca u*HY n bb u+HY n ba u*Hl n cb u)+F*(Hl n cb u*HY n bb u+HY n bb u*Hl n cb u))+(G*(Hl n ca u*(Hl n cb u*Hl n cb u))+H*(Hl n cb u*(Hl n cb u*Hl n cb u))),fun k hk=>?_⟩
 obtain⟨a1,a2,a3⟩:=qa k hk
 obtain⟨b1,b2,b3⟩:=qb k hk
 have a1:=Cq.of a1
 have a2:=Cq.of a2
 have a3:=Cq.of a3
 have b1:=Cq.of b1
 have b2:=Cq.of b2
 have b3:=Cq.of b3
 refine⟨num k hk 1 _ ?_,num k hk 2 _ ?_,num k hk 3 _ ?_⟩
 ·rw[MQ]
  exact (h1 k hk).trans<|((Cq.r A).m a1).a<|(Cq.r B).m b1
 ·refine (h2 k hk).trans<|((((Cq.r A).m a2).a<|(Cq.r B).m b2).a<|((Cq.r E).m<|a1.m b1).a<|(Cq.r F).m<|b1.m b1).trans ?_
  unfold Cq;congr 1
  rw[MQ,HR,HR,HR,DG,DG,DG,DG,← KA,← KA]
  simp only[Int.mul_add];omega
 ·refine (h3 k hk).trans<|(((((Cq.r A).m a3).a<|(Cq.r B).m b3).a<|((Cq.r E).m<|(a1.m b2).a<|a2.m b1).a<|(Cq.r F).m<|(b1.m b2).a<|b2.m b1).a<|((Cq.r G).m<|a1.m<|b1.m b1).a<|(Cq.r H).m<|b1.m<|b1.m b1).trans ?_
  unfold Cq;congr 1
  rw[N3,N3,N3,HU,HU,HU,HU,SL,SL]
  simp only[Int.mul_add,Int.add_mul];omega
theorem SM (c:Int):(cst 4 c).getD 1 0=0∧(cst 4 c).getD 2 0=0∧(cst 4 c).getD 3 0=0:=⟨rfl,rfl,rfl⟩
theorem P4.all (n K:Nat)(D:Nat→List Int×List Int):Y3 K (fun _=>4) 1 (P4 n K D) where
 zero:=fun x z h k hk=>by rw[h.v k hk]
 cst:=fun a ha=>⟨fun _ _=>Dr ha,Dr ha,fun _ _=>rfl,fun _=>0,fun _ _=>0,fun _=>0,fun k _=>by
  have e1:∀u,Hl n (fun _=>0) u=0:=fun u=>by
   unfold Hl;refine(AZ (g:=fun _=>0*0) fun i _=>by rw[Int.zero_mul,Int.zero_mul]).trans ?_
   rw[Co,Int.zero_mul]
  have e2:HY n (fun _ _=>0) (D k).1=0:=by
   have:=DG n 0 (fun _ _=>0) (D k).1
   simpa using this
  have e3:N1 n (fun _ _=>0) (D k).1 (D k).2=0:=by
   have:=HU n 0 (fun _ _=>0) (D k).1 (D k).2
   simpa using this
  rw[e1,e1,e2,e3]
  exact⟨(SM a).1,(SM a).2.1,(SM a).2.2⟩⟩
 add:=fun x z y w hx hy=>P4.op (A:=1) (B:=1) (E:=0) (F:=0) (G:=0) (H:=0) hx hy ⟨by rw[Dz];exact hx.sz.1,Fq _ _⟩ (fun k hk=>⟨by rw[Dz];exact(hx.sx k hk).1,Fq _ _⟩)
  (fun k hk=>by rw[GS (by rw[(hx.sx k hk).1];decide),GS (by rw[hx.sz.1];decide),hx.v k hk,hy.v k hk]) (fun k hk=>by rw[GS (by rw[(hx.sx k hk).1];decide)];unfold Cq;rw[Cx];congr 1;omega)
  (fun k hk=>by rw[GS (by rw[(hx.sx k hk).1];decide)];unfold Cq;rw[Cx];congr 1;omega) (fun k hk=>by rw[GS (by rw[(hx.sx k hk).1];decide)];unfold Cq;rw[Cx];congr 1;omega)
 red:=fun x z y w hx hy=>P4.op (A:=1) (B:=-1) (E:=0) (F:=0) (G:=0) (H:=0) hx hy ⟨by rw[Fp];exact hx.sz.1,Fs _ _⟩ (fun k hk=>⟨by rw[Fp];exact(hx.sx k hk).1,Fs _ _⟩)
  (fun k hk=>by rw[Ia (by rw[(hx.sx k hk).1];decide),Ia (by rw[hx.sz.1];decide),hx.v k hk,hy.v k hk]) (fun k hk=>by rw[Ia (by rw[(hx.sx k hk).1];decide)];unfold Cq;rw[Cx];congr 1;omega)
  (fun k hk=>by rw[Ia (by rw[(hx.sx k hk).1];decide)];unfold Cq;rw[Cx];congr 1;omega) (fun k hk=>by rw[Ia (by rw[(hx.sx k hk).1];decide)];unfold Cq;rw[Cx];congr 1;omega)
 pro:=fun x z y w hx hy=>P4.op (A:=w.getD 0 0) (B:=z.getD 0 0) (E:=1) (F:=0) (G:=0) (H:=0) hx hy ⟨by rw[EB];exact hx.sz.1,DW _ _⟩ (fun k hk=>⟨by rw[EB];exact(hx.sx k hk).1,DW _ _⟩)
  (fun k hk=>by rw[NZ (by rw[(hx.sx k hk).1];decide),NZ (by rw[hx.sz.1];decide),hx.v k hk,hy.v k hk])
  (fun k hk=>by rw[Va (by rw[(hx.sx k hk).1];decide),hx.v k hk,hy.v k hk];refine(Cq.of rfl).trans (((Cq.of rfl).a (Cq.r _)).trans ?_);unfold Cq;rw[Int.mul_comm ((x k).getD 1 0)];congr 1;omega)
  (fun k hk=>by rw[Vd (by rw[(hx.sx k hk).1];decide),hx.v k hk,hy.v k hk];refine(Cq.of rfl).trans ?_;unfold Cq;rw[Int.mul_comm ((x k).getD 2 0)];congr 1;omega)
  (fun k hk=>by rw[YK (by rw[(hx.sx k hk).1];decide),hx.v k hk,hy.v k hk];refine(Cq.of rfl).trans ?_;unfold Cq;rw[Int.mul_comm ((x k).getD 3 0)];congr 1;omega)
 scl:=fun x z hx=>P4.op (A:=1000002) (B:=0) (E:=0) (F:=0) (G:=0) (H:=0) hx hx ⟨by rw[EC];exact hx.sz.1,DA _ _⟩ (fun k hk=>⟨by rw[EC];exact(hx.sx k hk).1,DA _ _⟩)
  (fun k hk=>by rw[Hj (by rw[(hx.sx k hk).1];decide),Hj (by rw[hx.sz.1];decide),hx.v k hk]) (fun k hk=>by rw[Hj (by rw[(hx.sx k hk).1];decide)];unfold Cq;rw[Cx];congr 1;omega)
  (fun k hk=>by rw[Hj (by rw[(hx.sx k hk).1];decide)];unfold Cq;rw[Cx];congr 1;omega) (fun k hk=>by rw[Hj (by rw[(hx.sx k hk).1];decide)];unfold Cq;rw[Cx];congr 1;omega)
 quo:=fun x z y w hx hy h0=>by
  have hq:∀k,k<K→(Bs (x k) (y k)).getD 0 0=(Bs z w).getD 0 0:=fun k hk=>by rw[O0 (by rw[(hx.sx k hk).1];decide),O0 (by rw[hx.sz.1];decide),hx.v k hk,hy.v k hk]
  have k1:∀k,k<K→Cq ((Bs (x k) (y k)).getD 1 0) (((x k).getD 1 0-(Bs z w).getD 0 0*(y k).getD 1 0)*inv (w.getD 0 0)):=fun k hk=>by
   rw[Vb (by rw[(hx.sx k hk).1];decide),hq k hk,hy.v k hk]
   exact (Cq.of rfl).trans<|(Cq.of rfl).m<|Cq.r _
  have k2:∀k,k<K→Cq ((Bs (x k) (y k)).getD 2 0) (((x k).getD 2 0-(Bs z w).getD 0 0*(y k).getD 2 0-(((x k).getD 1 0-(Bs z w).getD 0 0*(y k).getD 1 0)*inv (w.getD 0 0))*(y k).getD 1 0)*inv (w.getD 0 0)):=fun k hk=>by
   have:=k1 k hk
   rw[Ve (by rw[(hx.sx k hk).1];decide),hq k hk,hy.v k hk]
   exact (Cq.of rfl).trans<|((Cq.r _).s<|this.m<|Cq.r _).m<|Cq.r _
  refine P4.op (A:=inv<|w.getD 0 0) (B:=-((Bs z w).getD 0 0*inv (w.getD 0 0))) (E:=-(inv (w.getD 0 0)*inv (w.getD 0 0))) (F:=(Bs z w).getD 0 0*inv (w.getD 0 0)*inv (w.getD 0 0))
   (G:=inv (w.getD 0 0)*(inv (w.getD 0 0)*inv (w.getD 0 0))) (H:=-((Bs z w).getD 0 0*inv (w.getD 0 0)*(inv (w.getD 0 0)*inv (w.getD 0 0)))) hx hy ⟨by rw[DX];exact hx.sz.1,Dx _ _⟩ (fun k hk=>⟨by rw[DX];exact(hx.sx k hk).1,Dx _ _⟩) hq (fun k hk=>(k1 k hk).trans ?_) (fun k hk=>(k2 k hk).trans ?_) fun k hk=>?_
  ·generalize inv (w.getD 0 0)=i
   generalize (Bs z w).getD 0 0=q
   unfold Cq;congr 1
   simp only[Int.sub_mul,Int.add_mul,Int.mul_sub,Int.mul_add,Int.neg_mul,Int.mul_neg,Int.mul_assoc,Int.mul_comm,Int.mul_left_comm]
   omega
  ·generalize inv (w.getD 0 0)=i
   generalize (Bs z w).getD 0 0=q
   unfold Cq;congr 1
   simp only[Int.sub_mul,Int.add_mul,Int.mul_sub,Int.mul_add,Int.neg_mul,Int.mul_neg,Int.mul_assoc,Int.mul_comm,Int.mul_left_comm]
   omega
  ·rw[YL (by rw[(hx.sx k hk).1];decide),hq k hk,hy.v k hk]
   refine (Cq.of rfl).trans<|((((Cq.r _).s<|(k1 k hk).m<|Cq.r _).s<|(k2 k hk).m<|Cq.r _).m<|Cq.r _).trans ?_
   generalize inv (w.getD 0 0)=i
   generalize (Bs z w).getD 0 0=q
   generalize (x k).getD 3 0=a3
   generalize (x k).getD 2 0=a2
   generalize (x k).getD 1 0=a1
   generalize (y k).getD 3 0=b3
   generalize (y k).getD 2 0=b2
   generalize (y k).getD 1 0=b1
   unfold Cq;congr 1
   simp only[Int.sub_mul,Int.add_mul,Int.mul_sub,Int.mul_add,Int.neg_mul,Int.mul_neg,Int.mul_assoc,Int.mul_comm,Int.mul_left_comm]
   omega
end
end
section
section
variable {q m:Nat} {cs:List AD} {R B L:List Sr} {A:List Sr} {s:Sr} {r:Int} {os ws xs:List Int} {T:Tp}
theorem SN (s:Sr)(x:Int):C4 q (s.set 0 x)=(C4 q s).set 0 x:=by unfold C4;rw[List.take_set]
theorem Ew:EL (B.map (C4 q)) r (C4 q s)=(EL B r s).map (C4 q):=by
 unfold EL
 rw[C5,L1,List.map_set]
theorem UA (hq:1≤q)(k:Nat):LM cs (R.map (C4 q)) k (B.map (C4 q))=(LM cs R k B).map (C4 q):=by
 by_cases h3:(cs.getD k AD.zero).op=3
 ·rw[O4 h3,O4 h3,C5,Ew,Ew]
 by_cases h4:(cs.getD k AD.zero).op=4
 ·rw[O5 h4,O5 h4,C5,Ew,Hh,Ew]
 by_cases h5:(cs.getD k AD.zero).op=5
 ·rw[O6 h5,O6 h5,C5,C5,C5,Hi,Ew,Hi,Ew]
 by_cases h6:(cs.getD k AD.zero).op=6
 ·rw[O7 h6,O7 h6,C5,C5,C5,L2 _ _ hq,Ew,Hi,Hh,Ew]
 by_cases h7:(cs.getD k AD.zero).op=7
 ·rw[O8 h7,O8 h7,C5,Hh,Ew]
 have:(cs.getD k AD.zero).op<3∨7<(cs.getD k AD.zero).op:=by omega
 rw[O9 this,O9 this]
theorem Q5 (hq:1≤q):∀(n:Nat)(B:List Sr),PT cs (R.map (C4 q)) n (B.map (C4 q))=(PT cs R n B).map (C4 q)
 |0,_=>rfl
 |n+1,B=>by
  show PT cs (R.map (C4 q)) n (LM cs (R.map (C4 q)) n (B.map (C4 q)))=_
  rw[UA hq,Q5 hq n];rfl
theorem Q6 (hq:1≤q):∀k,Ke os ws k (B.map (C4 q))=(Ke os ws k B).map (C4 q)
 |0=>rfl
 |k+1=>by
  show(Ke os ws k (B.map (C4 q))).set _ _=((Ke os ws k B).set _ _).map _
  rw[Q6 hq k,C5,List.map_set,SN,CZ _ (by omega)]
theorem UB:JP (R.map (C4 q))=(JP R).map (C4 q):=by
 unfold JP
 rw[List.map_map,List.map_map]
 refine List.map_congr_left fun s _=>?_
 show List.replicate (C4 q s).length 0=C4 q (List.replicate s.length 0)
 unfold C4
 rw[List.take_replicate,List.length_take]
theorem N4:∀k,PX cs (L.map (C4 q)) k (B.map (C4 q))=(PX cs L k B).map (C4 q)
 |0=>rfl
 |k+1=>by
  by_cases h1:(cs.getD k AD.zero).op=1
  ·rw[Lf h1,Lf h1,N4 k,C5,Ew]
  ·rw[Lg h1,Lg h1,N4 k]
theorem SP (hq:1≤q)(hm:q≤m)(c:AD):EE q (A.map (C4 q)) (R.map (C4 q)) c=C4 q (EE m A R c):=by
 unfold EE
 rw[C5,C5,C5,L1,NX,Hi,Hh,L2 _ _ hq,PL _ hm]
 split
 ·rfl
 ·split
  ·rfl
  ·split
   ·rfl
   ·split
    ·rfl
    ·split
     ·rfl
     ·split <;> rfl
theorem SQ (hq:1≤q)(hm:q≤m)(cs:List AD):B9 q (A.map (C4 q)) cs=(B9 m A cs).map (C4 q):=by
 induction cs using L6 with
 |h0=>rfl
 |h1 l c ih=>rw[Ef,Ef,ih,SP hq hm,List.map_append];rfl
theorem UC (hq:1≤q)(hm:q≤m):Iw q T xs ws (A.map (C4 q))=(Iw m T xs ws A).map (C4 q):=by
 unfold Iw Uw Je
 rw[SQ hq hm,UB,Q6 hq,Q5 hq,List.length_map]
 have e:List.replicate A.length (List.replicate q (0:Int))=(List.replicate A.length (List.replicate m 0)).map (C4 q):=by
  rw[List.map_replicate];unfold C4;rw[List.take_replicate,Nat.min_eq_left hm]
 rw[e,N4]
end
def Hm (a u v:List Int):List Sr:=Ip a.length fun i=>[a.getD i 0,u.getD i 0,v.getD i 0,0]
section
variable {p:List Fn} {f k:Nat} {a u v d:List Int} {xs ws:List Int} {T:Tp}
@[simp] theorem DH:(Hm a u v).length=a.length:=by simp[Hm]
theorem Hn {i:Nat}(hi:i<a.length):(Hm a u v).getD i []=[a.getD i 0,u.getD i 0,v.getD i 0,0]:=C3 [] hi
theorem N5 (ha:AV a=true)(hu:AV u=true)(hv:AV v=true):C7 4 (Hm a u v):=fun i hi=>by
 rw[DH]at hi
 rw[Hn hi]
 refine⟨rfl,?_⟩
 unfold AV
 simp only[List.all_cons,List.all_nil,Bool.and_true,Bool.and_eq_true]
 exact⟨BR.2 (Bu ha i),BR.2 (Bu hu i),BR.2 (Bu hv i),BR.2 ⟨by decide,by decide⟩⟩
theorem Jj:Jh (Hm a u v)=a:=by
 refine List.ext_getElem (by simp) fun i h1 h2=>?_
 rw[← DZ (d:=(0:Int)) h1,← DZ (d:=(0:Int)) h2]
 unfold Jh
 rw[BS (d:=[]) (by rw[DH];exact h2),Hn h2];rfl
theorem UD {q:Nat}(h2:2≤q)(h3:q≤3):(Hm a d (List.replicate a.length 0)).map (C4 q)=Df a d q:=by
 refine Uh (by simp) fun i hi=>?_
 rw[List.length_map,DH]at hi
 rw[BS (d:=[]) (by rw[DH];exact hi),Hn hi,Fu hi,Ib]
 match q,h2,h3 with
 |2,_,_=>rfl
 |3,_,_=>rfl
theorem SR:(Hm a u v).map (C4 2)=Df a u 2:=by
 refine Uh (by simp) fun i hi=>?_
 rw[List.length_map,DH]at hi
 rw[BS (d:=[]) (by rw[DH];exact hi),Hn hi,Fu hi];rfl
theorem UE (h:YC p f a){pk:Nat}(hpk:pk<(p.getD f Fn.zero).outs.length)(L:List (List Int×List Int))(hL:∀d∈L,AV d.1=true∧AV d.2=true) :
  ∃(c:Nat→Int) (b:Nat→Nat→Int) (T:List Int→Int),∀d∈L,((JE p 4 f (Hm a d.1 d.2)).getD pk []).getD 2 0=md (Hl a.length c d.2+HY a.length b d.1)∧((JE p 4 f (Hm a d.1 d.2)).getD pk []).getD 3 0=md (T d.1+N1 a.length b d.1 d.2):=by
 have hg:∀k,k<L.length→AV (L.getD k ([],[])).1=true∧AV (L.getD k ([],[])).2=true:=fun k hk=>hL _ (KU hk)
 have hR:=Yx (P4.all a.length L.length fun k=>L.getD k ([],[])) h.v (m:=a.length) (a:=fun k=>Hm a (L.getD k ([],[])).1 (L.getD k ([],[])).2) (az:=DY a) h.lt
  ⟨Gb a,fun k _=>DH,fun i hi=>⟨fun k=>(Hm a (L.getD k ([],[])).1 (L.getD k ([],[])).2).getD i [],fun _ _=>rfl,by
   have hs:(DY a).getD i []=[a.getD i 0]:=by unfold DY;rw[BS (d:=0) hi]
   refine⟨fun k hk=>N5 h.n (hg k hk).1 (hg k hk).2 i (by rw[DH];exact hi),ED h.n i (by rw[Gb];exact hi),fun k _=>by rw[Hn hi,hs];rfl,fun j=>if i=j then 1 else 0,fun _ _=>0,fun _=>0,fun k hk=>?_⟩
   have e1:∀u:List Int,Hl a.length (fun j=>if i=j then 1 else 0) u=u.getD i 0:=fun u=>PO (n:=a.length) (fun j=>u.getD j 0) hi
   have e2:∀u:List Int,HY a.length (fun _ _=>0) u=0:=fun u=>by
    have:=DG a.length 0 (fun _ _=>0) u
    simpa using this
   have e3:∀u v:List Int,N1 a.length (fun _ _=>0) u v=0:=fun u v=>by
    have:=HU a.length 0 (fun _ _=>0) u v
    simpa using this
   rw[Hn hi,e1,e1,e2,e3]
   have n1:=Bu (hg k hk).1 i
   have n2:=Bu (hg k hk).2 i
   exact⟨(K5 n1.1 n1.2).symm,by rw[Int.add_zero];exact(K5 n2.1 n2.2).symm,rfl⟩⟩⟩ h.l
 obtain⟨z,t,he,_,_⟩:=So h.v h.lt (ED h.n) (by rw[Gb];exact h.l) h.z
 rw[he]at hR
 obtain⟨x,h1,h2⟩:=hR
 obtain⟨y,h3,h4⟩:=h2.2.2 pk hpk
 obtain⟨c,b,T,hq⟩:=h4.q
 refine⟨c,b,T,fun d hd=>?_⟩
 obtain⟨k,hk,rfl⟩:=List.mem_iff_getElem.1 hd
 have e:=hq k hk
 rw[DZ hk]at e
 have hev:ev p 4 f (Hm a (L.getD k ([],[])).1 (L.getD k ([],[])).2)=.ok (x k) t:=h1 k hk
 rw[DZ hk]at hev
 rw[KR hev,h3 k hk]
 exact⟨e.2.1,e.2.2⟩
theorem YM {pk:Nat}{b:Nat→Nat→Int}(hb1:∀i,i<a.length→Dl p f pk a (Bm a.length [((i:Nat):Int)] 1) 2=md (HY a.length b (Bm a.length [((i:Nat):Int)] 1)))
  (hb2:∀i k,i<a.length→k<a.length→Dl p f pk a (Bm a.length [((i:Nat):Int),((k:Nat):Int)] 2) 2=md (HY a.length b (Bm a.length [((i:Nat):Int),((k:Nat):Int)] 2))) {i k:Nat} (hi:i<a.length) (hk:k<a.length) :
  L5 p f pk a i k=md (b i k+b k i):=by
 have h1:∀i,i<a.length→Dl p f pk a (Bm a.length [((i:Nat):Int)] 1) 2=md (b i i):=fun i hi=>by
  rw[hb1 i hi,PP,← Ic b hi hi]
  refine MT (fun j _=>?_) (fun j _=>?_) <;>
  ·rw[show(Bm a.length [((i:Nat):Int)] 1).getD j 0=if i=j then 1 else 0 from L3 hi];rfl
 have h2:Dl p f pk a (Bm a.length [((i:Nat):Int),((k:Nat):Int)] 2) 2=md (b i i+b i k+b k i+b k k):=by
  rw[hb2 i k hi hk,PP]
  have e:md (MS a.length b (fun j=>(Bm a.length [((i:Nat):Int),((k:Nat):Int)] 2).getD j 0) (fun j=>(Bm a.length [((i:Nat):Int),((k:Nat):Int)] 2).getD j 0))=md (MS a.length b (fun j=>dl i j+dl k j) (fun j=>dl i j+dl k j)):=by
   have hg:∀j,md ((Bm a.length [((i:Nat):Int),((k:Nat):Int)] 2).getD j 0)=md (dl i j+dl k j):=fun j=>by
    rw[L4 2 (fun q hq=>by
     match q,hq with
     |0,_=>exact⟨Int.natCast_nonneg i,by show((i:Nat):Int)<_;omega⟩
     |1,_=>exact⟨Int.natCast_nonneg k,by show((k:Nat):Int)<_;omega⟩),Cx]
    show md (0+_+_)=_
    simp only[List.getD_cons_zero,List.getD_cons_succ,Int.toNat_natCast,Int.zero_add];rfl
   exact MT (fun j _=>hg j) fun j _=>hg j
  rw[e,O1,Jc,Jc,Ic b hi hi,Ic b hi hk,Ic b hk hi,Ic b hk hk]
  congr 1;omega
 unfold L5
 by_cases e:i=k
 ·subst e
  rw[if_pos rfl,h1 i hi,BY];congr 1;omega
 ·rw[if_neg e,h2,h1 i hi,h1 k hk]
  generalize b i i=x
  generalize b k k=y
  unfold md;omega
theorem YN {n k:Nat}(b:Nat→Nat→Int)(u:List Int)(hk:k<n):N1 n b u (eV n k)=sm n fun j=>(b k j+b j k)*u.getD j 0:=by
 unfold N1
 have e:∀i,(sm n fun j=>b i j*(u.getD i 0*(eV n k).getD j 0+(eV n k).getD i 0*u.getD j 0))=b i k*u.getD i 0+(if k=i then(sm n fun j=>b i j*u.getD j 0)else 0):=fun i=>by
  have e1:(sm n fun j=>b i j*(u.getD i 0*(eV n k).getD j 0+(eV n k).getD i 0*u.getD j 0))=(sm n fun j=>if k=j then b i j*u.getD i 0 else 0)+sm n fun j=>(if k=i then 1 else 0)*(b i j*u.getD j 0):=by
   rw[← D8]
   refine AZ fun j _=>?_
   rw[L3 hk,L3 hk]
   split <;> split <;> simp only[Int.mul_one,Int.mul_zero,Int.one_mul,Int.zero_mul,Int.add_zero,Int.zero_add,Int.mul_add]
  rw[e1,He k (fun j=>b i j*u.getD i 0),if_pos hk,Co]
  split
  ·rw[Int.one_mul]
  ·rw[Int.zero_mul]
 rw[AZ fun i _=>e i,D8,He k (fun i=>sm n fun j=>b i j*u.getD j 0),if_pos hk,← D8]
 exact AZ fun j _=>by rw[Int.add_mul];omega
theorem YO {n:Nat}(b:Nat→Nat→Int)(u:List Int):N1 n b u (List.replicate n 0)=0:=by
 unfold N1
 rw[show(sm n fun i=>sm n fun k=>b i k*(u.getD i 0*(List.replicate n 0).getD k 0+(List.replicate n 0).getD i 0*u.getD k 0))=sm n fun i=>0*0 from AZ fun i _=>by
  rw[show(sm n fun k=>b i k*(u.getD i 0*(List.replicate n 0).getD k 0+(List.replicate n 0).getD i 0*u.getD k 0))=sm n fun k=>0*0 from AZ fun k _=>by rw[Ib,Ib,Int.mul_zero,Int.zero_mul,Int.add_zero,Int.mul_zero];rfl,Co,Int.zero_mul];rfl,Co,Int.zero_mul]
theorem XJ (h:YC p f a){pk:Nat}(hpk:pk<(p.getD f Fn.zero).outs.length)(hd:AV d=true)(hk:k<a.length) :
  md (((JE p 4 f (Hm a d (eV a.length k))).getD pk []).getD 3 0-((JE p 4 f (Hm a d (List.replicate a.length 0))).getD pk []).getD 3 0)=md (sm a.length fun j=>L5 p f pk a k j*d.getD j 0):=by
 have z0:AV (List.replicate a.length 0)=true:=Gc _
 obtain⟨c,b,T,hq⟩:=UE h hpk ((d,eV a.length k)::(d,List.replicate a.length 0)::(((List.range a.length).map fun i=>(Bm a.length [((i:Nat):Int)] 1,List.replicate a.length 0))++(List.range a.length).flatMap fun i=>(List.range a.length).map fun k=>(Bm a.length [((i:Nat):Int),((k:Nat):Int)] 2,List.replicate a.length 0))) (fun x hx=>by
  simp only[List.mem_cons,List.mem_append,List.mem_map,List.mem_flatMap,List.mem_range]at hx
  rcases hx with rfl|rfl|⟨i,_,rfl⟩|⟨i,_,k,_,rfl⟩
  ·exact⟨hd,Sn _ _⟩
  ·exact⟨hd,z0⟩
  all_goals exact⟨E3 _ _ _,z0⟩)
 have cf:∀u,AV u=true→((JE p 4 f (Hm a u (List.replicate a.length 0))).getD pk []).getD 2 0=md (Hl a.length c (List.replicate a.length 0)+HY a.length b u)→Dl p f pk a u 2=md (HY a.length b u):=fun u hu e=>by
  unfold Dl
  show((JE p 3 f (Df a u 3)).getD pk []).getD 2 0=_
  have e0:Hl a.length c (List.replicate a.length 0)=0:=by
   unfold Hl
   rw[show(sm a.length fun i=>c i*(List.replicate a.length 0).getD i 0)=sm a.length fun i=>0*0 from AZ fun i _=>by rw[Ib,Int.mul_zero];rfl,Co,Int.zero_mul]
  rw[← UD (by decide) (by decide),Uf p (by decide) (show 3≤4 by decide),C5,CZ _ (by decide),e,e0,Int.zero_add]
 have hb1:∀i,i<a.length→Dl p f pk a (Bm a.length [((i:Nat):Int)] 1) 2=md (HY a.length b (Bm a.length [((i:Nat):Int)] 1)):=fun i hi=>cf _ (E3 _ _ _) (hq (Bm a.length [((i:Nat):Int)] 1,List.replicate a.length 0) (by
  simp only[List.mem_cons,List.mem_append,List.mem_map,List.mem_range];exact .inr (.inr (.inl ⟨i,hi,rfl⟩)))).1
 have hb2:∀i k,i<a.length→k<a.length→Dl p f pk a (Bm a.length [((i:Nat):Int),((k:Nat):Int)] 2) 2=md (HY a.length b (Bm a.length [((i:Nat):Int),((k:Nat):Int)] 2)):=fun i k hi hk=>cf _ (E3 _ _ _) (hq (Bm a.length [((i:Nat):Int),((k:Nat):Int)] 2,List.replicate a.length 0) (by
  simp only[List.mem_cons,List.mem_append,List.mem_map,List.mem_flatMap,List.mem_range];exact .inr (.inr (.inr ⟨i,hi,k,hk,rfl⟩)))).1
 have q1:=(hq (d,eV a.length k) (by simp)).2
 have q2:=(hq (d,List.replicate a.length 0) (by simp)).2
 dsimp only at q1 q2
 rw[YO,Int.add_zero]at q2
 rw[q1,q2,Ed,show T d+N1 a.length b d (eV a.length k)-T d=N1 a.length b d (eV a.length k)from by omega,YN b d hk]
 refine Ga fun j hj=>?_
 rw[YM hb1 hb2 hk hj,Cm]
theorem N0.tap_hes (h:N0 p f a xs T)(hnd:AV d=true)(hk:k<a.length) :
  ((Iw 2 T xs ws (Df a d 2)).getD k []).getD 1 0=md (sm xs.length fun i=>ws.getD i 0*md (sm a.length fun j=>L5 p f i a k j*d.getD j 0)):=by
 have z0:AV (List.replicate a.length 0)=true:=Gc _
 have s0:C7 4 (Hm a d (List.replicate a.length 0)):=N5 h.n hnd z0
 have s1:C7 4 (Hm a d (eV a.length k)):=N5 h.n hnd (Sn _ _)
 have t0:=h.tp (m:=4) (by decide) s0 Jj
 have t1:=h.tp (m:=4) (by decide) s1 Jj
 have hx:=t0.1.outs h.en.2
 have dz:∀q,q<a.length→∀t,CB (Hm a d (List.replicate a.length 0)) (Hm a d (eV a.length k)) q t=if t=2 then(eV a.length k).getD q 0 else 0:=fun q hq t=>by
  show((Hm a d (eV a.length k)).getD q []).getD t 0-((Hm a d (List.replicate a.length 0)).getD q []).getD t 0=_
  rw[Hn hq,Hn hq,Ib]
  match t with
  |0=>exact Int.sub_self _
  |1=>exact Int.sub_self _
  |2=>exact Int.sub_zero _
  |3=>exact Int.sub_self _
  |t+4=>exact Int.sub_self _
 have ho:∀q,q<a.length→Lo 2 (CB (Hm a d (List.replicate a.length 0)) (Hm a d (eV a.length k)) q):=fun q hq t ht=>by rw[dz q hq,if_neg (by omega)];rfl
 have ht:=Ux (m:=4) (ni:=a.length) (os:=xs) (ws:=ws) (Uy (r:=2) (N:=4) t0.1 t1.1 (by decide) (fun q hq=>ho q (by rw[DH]at hq;exact hq)) (by decide) (by decide)) (by decide) (by decide) t0.1.regs (CR _) (fun k hk=>by have:=t0.1.form k hk;rw[DH]at this;exact this) (fun k hk h6=>t0.1.rz hk h6) (fun q hq=>by have:=hx q hq;omega) 3 (by decide)
 have e0:(Iw 4 T xs ws (Hm a d (List.replicate a.length 0)))=Uw a.length 4 T.code (Je T.code (B9 4 (Hm a d (List.replicate a.length 0)) T.code) xs ws):=by unfold Iw;rw[DH]
 rw[← e0]at ht
 have hB:=h.bk_ser (m:=4) (by decide) s0 Jj ws k (by rw[GE,DH];exact hk)
 have e1:Gm a.length (CB (Hm a d (List.replicate a.length 0)) (Hm a d (eV a.length k))) (Iw 4 T xs ws (Hm a d (List.replicate a.length 0))) 3=((Iw 4 T xs ws (Hm a d (List.replicate a.length 0))).getD k []).getD 1 0:=by
  unfold Gm
  have:∀q,q<a.length→cv (DE ((Iw 4 T xs ws (Hm a d (List.replicate a.length 0))).getD q [])) (CB (Hm a d (List.replicate a.length 0)) (Hm a d (eV a.length k)) q) 3=if k=q then((Iw 4 T xs ws (Hm a d (List.replicate a.length 0))).getD q []).getD 1 0 else 0:=fun q hq=>by
   rw[J4]
   show((((0+_*CB _ _ q 3)+_*CB _ _ q 2)+_*CB _ _ q 1)+_*CB _ _ q 0)=_
   rw[dz q hq,dz q hq,dz q hq,dz q hq,if_neg (by decide),if_pos rfl,if_neg (by decide),if_neg (by decide),L3 hk]
   split
   ·simp only[Int.mul_zero,Int.mul_one,Int.add_zero,Int.zero_add];rfl
   ·simp only[Int.mul_zero,Int.add_zero]
  rw[AZ this,He k (fun q=>((Iw 4 T xs ws (Hm a d (List.replicate a.length 0))).getD q []).getD 1 0),if_pos hk]
 rw[e1]at ht
 have n1:=Bu hB.2 1
 have hc:((Iw 2 T xs ws (Df a d 2)).getD k []).getD 1 0=((Iw 4 T xs ws (Hm a d (List.replicate a.length 0))).getD k []).getD 1 0:=by
  rw[← SR (a:=a) (u:=d) (v:=List.replicate a.length 0),UC (by decide) (by decide:2≤4),C5,CZ _ (by decide)]
 rw[hc,← K5 n1.1 n1.2,ht]
 refine Ga fun i hi=>?_
 have hp:=XJ h.at (pk:=i) (by rw[← h.en.1];exact hi) hnd hk
 rw[← hp,BY]
 congr 2
 unfold CB
 rw[← h.vals (by decide) s0 Jj hi,← h.vals (by decide) s1 Jj hi];rfl
end
end
section
structure YP (ni:Nat)(T:Tp)(o:List Int):Prop where
 nb:ni≤12
 cl:T.code.length≤3200
 gl:T.grd.length≤3200
 form:∀k,k<T.code.length→EV ni k (T.code.getD k AD.zero)
 gd:∀k,k<T.grd.length→0≤(T.grd.getD k Is.zero).reg∧(T.grd.getD k Is.zero).reg<((T.code.length:Nat):Int)
 ol:1≤o.length∧o.length≤12
 out:∀k,k<o.length→0≤o.getD k 0∧o.getD k 0<((T.code.length:Nat):Int)
theorem YP.pos {ni:Nat}{T:Tp}{o:List Int}(h:YP ni T o):0<T.code.length:=by
 have:=h.out 0 (by have:=h.ol;omega)
 omega
theorem YP.any {ni:Nat}{T:Tp}{o:List Int}(h:YP ni T o):(o.any fun x=>!(decide (0≤x) && decide (x≤((T.code.length:Nat):Int)-1)))=false:=by
 rw[List.any_eq_false]
 intro x hx
 obtain⟨j,hj,rfl⟩:=List.mem_iff_getElem.1 hx
 have h9:=h.out j hj
 rw[List.getD_eq_getElem?_getD,List.getElem?_eq_getElem hj,Option.getD_some]at h9
 rw[A5 h9.1,A5 (show o[j]≤((T.code.length:Nat):Int)-1 by omega)]
 decide
structure QN (a:List Int)(T:Tp)(o:List Int):Prop where
 k:YP a.length T o
 n:AV a=true
 e:K8 T o
 i:∀d,AV d=true→Dv 2 (Df a d 2) T
section
variable {p:List Fn} {f:Nat} {a d xs ws:List Int} {T:Tp} {s:Nat}
theorem N0.tpr (h:N0 p f a xs T)(hB:JK T s)(hs:s≤3000):QN a T xs:=by
 have hi:∀d,AV d=true→Dv 2 (Df a d 2) T:=fun d hd=>(h.tp (m:=2) (by decide) (Kz h.n hd) (Uz _ _)).1
 have h0:=hi _<|Gc a.length
 obtain⟨b1,b2,b3,b4⟩:=hB
 have hp:=h.v.par f h.lt
 have ho:=h.v.outs f h.lt
 have hl:=h.l
 have he:=h.en
 refine⟨⟨zO,zO,zO,fun k hk=>?_,fun k hk=>?_,by rw[he.1];exact ho,h0.outs he.2⟩,h.n,he.2,hi⟩
 ·have:=h0.form k hk
  rwa [CA]at this
 ·have:=(h0.gd k hk).1
  omega
theorem UF {k:Nat}(hk:k<a.length):(Df a d 2).getD k []=[a.getD k 0,d.getD k 0]:=by rw[Fu hk];rfl
def H0 (A:List Sr):List Int:=A.map fun s=>s.getD 1 0
@[simp] theorem Jk {A:List Sr}:(H0 A).length=A.length:=List.length_map ..
theorem QN.reg (h:QN a T xs)(hd:AV d=true):C7 2 (B9 2 (Df a d 2) T.code):=(h.i d hd).regs
theorem QN.adj (h:QN a T xs)(hd:AV d=true):C7 2 (Je T.code (B9 2 (Df a d 2) T.code) xs ws):=(h.i d hd).adj h.e
theorem QN.nz (h:QN a T xs)(hd:AV d=true):L8 2 (Df a d 2) T.code T.code.length:=(h.i d hd).nz
theorem UG {l:List Sr}(h:C7 2 l){k:Nat}(hk:k<l.length):(l.getD k []).length=2:=(h k hk).1
end
section ops
variable {P:Program} {ops:Array Oper} {w0:World} {Q:Act→World→Prop} {os:List Oper} {ks:List Nat} {N:Nat} {ρ:Nat→Value} {w:World}
 {d:Nat} {ty:TypeId} {pos:String} {aft:Array Edge} {g:Option (Nat×Bool)} {t e:TypeId} {z:Value} {b:Nat}
theorem UH {y0 y1:Operand}{u0 u1:Value}{x0 x1:List Int}(ht:P.underlying t=some (.slice e))(hi:TI P e 1 z b)(hz:z.cells=#[z])
  (h0:Bq N ρ y0=u0) (h1:Bq N ρ y1=u1) (r0:RN [] (B2 rI) w.heap u0 x0) (r1:RN [] (B2 rI) w.heap u1 x1)
  (hu:Up ops N ρ ⟨some d,.buildSlice t 2 #[(0,y0),(1,y1)],ty,pos,aft,g⟩)
  (h:∀v w1,AG w w1→w1.heap.size=w.heap.size+1→RN [] (B2 (B2 rI)) w1.heap v [x0,x1]→Ci v→LW P ops w0 Q os ks (mk N (CN ρ d v)) w1) :
  LW P ops w0 Q (⟨some d,.buildSlice t 2 #[(0,y0),(1,y1)],ty,pos,aft,g⟩::os) (3::ks) (mk N ρ) w:=by
 have c0:=r0.one1 g1
 have c1:=r1.one1 g1
 refine Sp (ys:=[u0,u1]) BE ht hi hz h0 h1 rfl (KL fun u hu=>?_) hu fun v w1 hE hs hF=>?_
 ·simp only[List.mem_cons,List.not_mem_nil,or_false]at hu
  rcases hu with rfl|rfl
  ·exact c0
  ·exact c1
 ·have hcap:=hF.cap
  obtain⟨F,f1,f2,f3⟩:=hF
  have hB:Ha e [] w.heap.size w1.heap v [x0,x1] [u0,u1] F:=by
   refine⟨f1,f2,fun b hb=>(f3 b hb).1,rfl,fun k hk=>?_⟩
   have key:∀ {v0:Value} {x:List Int},RN [] (B2 rI) w.heap v0 x→RN ([]++F) (B2 rI) w1.heap v0 x:=by
    rintro v0 x ⟨K,k1,k2⟩
    have hlt:=g1.lt k1
    exact⟨K,g1.stable k1 fun c hc=>hE.heap (hlt c hc),fun c hc hm=>by have:=hlt c hc;have:=f3 c (by simpa using hm);omega⟩
   match k with
   |0=>exact key r0
   |1=>exact key r1
   |k+2=>simp at hk;omega
  exact h v w1 hE hs (hB.done fun b hb=>absurd hb List.not_mem_nil) hcap
end ops
end
section
theorem Q7 (a b:List Int):∀k,NI a b k=md (sm k fun j=>a.getD j 0*b.getD j 0)
 |0=>rfl
 |k+1=>by
  show md (NI a b k+_)=md (_+_)
  rw[Q7 a b k,IX]
theorem XK (a b:List Int):J2 a b=JO a b a.length:=Q7 a b _
section
variable {p:List Fn} {f i k:Nat} {a d e xs ws:List Int} {T:Tp}
def QO (p:List Fn)(f:Nat)(a d ws:List Int)(n:Nat):List Int:=Ip a.length fun k=>md (sm n fun i=>ws.getD i 0*J2 (PQ p f i a k a.length) d)
@[simp] theorem EW {n:Nat}:(QO p f a d ws n).length=a.length:=by simp[QO]
theorem YQ:scl a 0=QO p f a d ws 0:=XA (by rw[Kp,EW]) fun k hk=>by
 rw[Kp]at hk
 rw[show(QO p f a d ws 0).getD k 0=_ from C3 0 hk]
 unfold scl
 rw[BS (d:=0) hk,Int.mul_zero];rfl
theorem SS {n:Nat}:Dy (QO p f a d ws n) (scl ((O2 p f n a a.length).map fun r:List Int=>J2 r d) (ws.getD n 0))=QO p f a d ws (n+1):=XA (by rw[Dz,EW,EW]) fun k hk=>by
 rw[Dz,EW]at hk
 rw[GS (by rw[EW];exact hk),show(QO p f a d ws n).getD k 0=_ from C3 0 hk,show(QO p f a d ws (n+1)).getD k 0=_ from C3 0 hk]
 unfold scl
 rw[BS (d:=0) (by rw[List.length_map,Eu];exact hk),BS (d:=[]) (by rw[Eu];exact hk),OK hk]
 show _=md (_+_)
 rw[IX,Gv,Int.mul_comm]
theorem N0.th_end (h:N0 p f a xs T)(hd:AV d=true):QO p f a d ws xs.length=H0 (Iw 2 T xs ws (Df a d 2)):=by
 refine XA (by rw[EW,Jk,GE,CA]) fun k hk=>?_
 rw[EW]at hk
 rw[show(QO p f a d ws xs.length).getD k 0=_ from C3 0 hk]
 unfold H0
 rw[BS (d:=[]) (by rw[GE,CA];exact hk),h.tap_hes hd hk]
 refine congrArg md (AZ fun i hi=>?_)
 rw[XK,Jd]
 unfold JO
 congr 2
 exact AZ fun j hj=>by rw[show(PQ p f i a k a.length).getD j 0=_ from C3 0 hj]
theorem N0.th_sym (h:N0 p f a xs T)(hd:AV d=true)(he:AV e=true)(n m:Nat)(hn:n=a.length)(hm:m=a.length) :
  JO (H0 (Iw 2 T xs ws (Df a d 2))) e n=JO (H0 (Iw 2 T xs ws (Df a e 2))) d m:=by
 subst hn;subst hm
 have key:∀x y:List Int,AV x=true→JO (H0 (Iw 2 T xs ws (Df a x 2))) y a.length=md (sm xs.length fun i=>ws.getD i 0*sm a.length fun k=>sm a.length fun j=>L5 p f i a k j*x.getD j 0*y.getD k 0):=fun x y hx=>by
  unfold JO
  have e1:md (sm a.length fun k=>(H0 (Iw 2 T xs ws (Df a x 2))).getD k 0*y.getD k 0)=md (sm a.length fun k=>sm xs.length fun i=>ws.getD i 0*sm a.length fun j=>L5 p f i a k j*x.getD j 0*y.getD k 0):=Ga fun k hk=>by
   unfold H0
   rw[BS (d:=[]) (by rw[GE,CA];exact hk),h.tap_hes hx hk,Cm,HQ]
   refine Ga fun i hi=>?_
   rw[Int.mul_assoc,← BY (ws.getD i 0),Cm,BY,HQ]
  rw[e1,KB]
  congr 1
  exact AZ fun i hi=>Co _ _ _
 rw[key d e hd,key e d he]
 refine Ga fun i hi=>?_
 have hs:=(Ur h.at (pk:=i) (by rw[← h.en.1];exact hi) hd).sym
 rw[KB]
 congr 2
 exact AZ fun j hj=>AZ fun k hk=>by
  rw[hs k j hk hj,Int.mul_assoc,Int.mul_assoc,Int.mul_comm (d.getD j 0)]
end
end
theorem mixed:Tryz.prog.follows .mixedOrders=true:=by kernel_rfl
abbrev BP (k:Nat):Prop:=((Tryz.prog.funcs[k]?).map fun fn=>(fn.name != "runtime.NumGoroutine") && fn.body.isSome) = some true
theorem BT {k:Nat} (h:((Tryz.prog.funcs[k]?).map fun fn=>(fn.name != "runtime.NumGoroutine") && fn.body.isSome) = some true):BP k:=h
theorem bP:BP 12:=BT (by kernel_rfl)
theorem bQ:BP 22:=BT (by kernel_rfl)
theorem bR:BP 26:=BT (by kernel_rfl)
theorem YS:BP 27:=BT (by kernel_rfl)
theorem bS:BP 28:=BT (by kernel_rfl)
theorem bT:BP 29:=BT (by kernel_rfl)
theorem YT:BP 33:=BT (by kernel_rfl)
theorem XL:BP 34:=BT (by kernel_rfl)
theorem YU:BP 35:=BT (by kernel_rfl)
theorem bU:BP 36:=BT (by kernel_rfl)
theorem bV:BP 37:=BT (by kernel_rfl)
theorem UI:BP 50:=BT (by kernel_rfl)
theorem YV:BP 66:=BT (by kernel_rfl)
theorem bW:BP 67:=BT (by kernel_rfl)
theorem Ho:BP 68:=BT (by kernel_rfl)
theorem XM:BP 69:=BT (by kernel_rfl)
theorem Jl:BP 74:=BT (by kernel_rfl)
theorem bX:BP 75:=BT (by kernel_rfl)
theorem XN:BP 79:=BT (by kernel_rfl)
theorem ST:BP 86:=BT (by kernel_rfl)
theorem bY:BP 97:=BT (by kernel_rfl)
theorem bZ:BP 98:=BT (by kernel_rfl)
theorem cA:BP 99:=BT (by kernel_rfl)
theorem Vt:BP 100:=BT (by kernel_rfl)
theorem Q8:BP 101:=BT (by kernel_rfl)
theorem SU:BP 102:=BT (by kernel_rfl)
theorem YW:BP 103:=BT (by kernel_rfl)
theorem YX:BP 105:=BT (by kernel_rfl)
theorem YY:BP 107:=BT (by kernel_rfl)
theorem YZ:BP 108:=BT (by kernel_rfl)
theorem Z0:BP 109:=BT (by kernel_rfl)
theorem Z1:BP 110:=BT (by kernel_rfl)
theorem Jm:BP 112:=BT (by kernel_rfl)
theorem Z2:BP 113:=BT (by kernel_rfl)
theorem Z3:BP 114:=BT (by kernel_rfl)
theorem Z4:BP 115:=BT (by kernel_rfl)
theorem Z5:BP 116:=BT (by kernel_rfl)
theorem CW:BP 117:=BT (by kernel_rfl)
theorem Ob:BP 122:=BT (by kernel_rfl)
theorem Z6:BP 123:=BT (by kernel_rfl)
theorem Oc:BP 124:=BT (by kernel_rfl)
theorem Z7:BP 130:=BT (by kernel_rfl)
theorem Mu:BP 132:=BT (by kernel_rfl)
theorem Z8:BP 133:=BT (by kernel_rfl)
theorem Z9:BP 137:=BT (by kernel_rfl)
theorem Za:BP 138:=BT (by kernel_rfl)
theorem Zb:BP 142:=BT (by kernel_rfl)
theorem Zc:BP 150:=BT (by kernel_rfl)
theorem Vu:BP 151:=BT (by kernel_rfl)
theorem SW:BP 152:=BT (by kernel_rfl)
theorem Zd:BP 156:=BT (by kernel_rfl)
theorem Ze:BP 157:=BT (by kernel_rfl)
theorem Vv:BP 158:=BT (by kernel_rfl)
theorem Zf:BP 163:=BT (by kernel_rfl)
theorem Vw:BP 165:=BT (by kernel_rfl)
theorem Vx:BP 168:=BT (by kernel_rfl)
theorem Zg:BP 169:=BT (by kernel_rfl)
theorem SX:BP 170:=BT (by kernel_rfl)
theorem SY:BP 177:=BT (by kernel_rfl)
theorem Vy:BP 178:=BT (by kernel_rfl)
theorem Od:BP 179:=BT (by kernel_rfl)
theorem Lj:BP 181:=BT (by kernel_rfl)
theorem Vz:BP 182:=BT (by kernel_rfl)
theorem Zh:BP 183:=BT (by kernel_rfl)
theorem Zi:BP 184:=BT (by kernel_rfl)
theorem Oe:BP 185:=BT (by kernel_rfl)
theorem Zj:BP 186:=BT (by kernel_rfl)
theorem Mv:BP 187:=BT (by kernel_rfl)
theorem VA:BP 188:=BT (by kernel_rfl)
theorem Q9:BP 189:=BT (by kernel_rfl)
theorem SZ:BP 190:=BT (by kernel_rfl)
theorem Qa:BP 191:=BT (by kernel_rfl)
theorem Zk:BP 192:=BT (by kernel_rfl)
theorem Zl:BP 193:=BT (by kernel_rfl)
theorem Qb:BP 196:=BT (by kernel_rfl)
theorem Zm:BP 197:=BT (by kernel_rfl)
theorem VB:BP 198:=BT (by kernel_rfl)
theorem Zn:BP 201:=BT (by kernel_rfl)
theorem Zo:BP 203:=BT (by kernel_rfl)
theorem Zp:BP 204:=BT (by kernel_rfl)
theorem Zq:BP 205:=BT (by kernel_rfl)
theorem T0:BP 206:=BT (by kernel_rfl)
theorem Zr:BP 207:=BT (by kernel_rfl)
theorem T3:BP 210:=BT (by kernel_rfl)
theorem Zs:BP 214:=BT (by kernel_rfl)
theorem VC:BP 220:=BT (by kernel_rfl)
theorem Hp:BP 221:=BT (by kernel_rfl)
theorem Zt:BP 223:=BT (by kernel_rfl)
theorem Zu:BP 224:=BT (by kernel_rfl)
theorem Zv:BP 225:=BT (by kernel_rfl)
theorem VD:BP 226:=BT (by kernel_rfl)
theorem Zw:BP 228:=BT (by kernel_rfl)
theorem Zx:BP 229:=BT (by kernel_rfl)
theorem T4:BP 230:=BT (by kernel_rfl)
theorem Jn:BP 231:=BT (by kernel_rfl)
theorem Mw:BP 232:=BT (by kernel_rfl)
theorem Zy:BP 235:=BT (by kernel_rfl)
theorem VE:BP 236:=BT (by kernel_rfl)
theorem Qc:BP 237:=BT (by kernel_rfl)
theorem Zz:BP 238:=BT (by kernel_rfl)
theorem T5:BP 239:=BT (by kernel_rfl)
theorem ZA:BP 240:=BT (by kernel_rfl)
theorem Lk:BP 241:=BT (by kernel_rfl)
theorem Qd:BP 250:=BT (by kernel_rfl)
theorem ZB:BP 251:=BT (by kernel_rfl)
theorem VF:BP 252:=BT (by kernel_rfl)
theorem VG:BP 253:=BT (by kernel_rfl)
theorem ZC:BP 254:=BT (by kernel_rfl)
theorem ZD:BP 255:=BT (by kernel_rfl)
theorem ZE:BP 256:=BT (by kernel_rfl)
theorem ZF:BP 257:=BT (by kernel_rfl)
theorem VH:BP 258:=BT (by kernel_rfl)
theorem ZG:BP 270:=BT (by kernel_rfl)
theorem VI:BP 271:=BT (by kernel_rfl)
theorem Qe:BP 272:=BT (by kernel_rfl)
theorem Of:BP 273:=BT (by kernel_rfl)
theorem ZH:BP 274:=BT (by kernel_rfl)
theorem ZI:BP 286:=BT (by kernel_rfl)
theorem ZJ:BP 287:=BT (by kernel_rfl)
theorem AC:Cd Tryz.prog 2:=by unfold Cd;kernel_rfl
theorem Ll:Cd Tryz.prog 3:=by unfold Cd;kernel_rfl
theorem cB:Cd Tryz.prog 4:=by unfold Cd;kernel_rfl
theorem cC:Cd Tryz.prog 5:=by unfold Cd;kernel_rfl
theorem ON:Cd Tryz.prog 9:=by unfold Cd;kernel_rfl
theorem Qf:Cd Tryz.prog 22:=by unfold Cd;kernel_rfl
theorem C9:Cd Tryz.prog 24:=by unfold Cd;kernel_rfl
theorem Bk:Cd Tryz.prog 27:=by unfold Cd;kernel_rfl
theorem Lm:Cd Tryz.prog 30:=by unfold Cd;kernel_rfl
theorem Be:Cd Tryz.prog 47:=by unfold Cd;kernel_rfl
theorem Ka:Cd Tryz.prog 52:=by unfold Cd;kernel_rfl
theorem T6:Cd Tryz.prog 53:=by unfold Cd;kernel_rfl
theorem Id:Cd Tryz.prog 91:=by unfold Cd;kernel_rfl
theorem VJ:Cd Tryz.prog 97:=by unfold Cd;kernel_rfl
theorem N6:Cd Tryz.prog 178:=by unfold Cd;kernel_rfl
theorem GT:(Tryz.prog.info? 2).map (·.size)=some 1:=by kernel_rfl
theorem cV:(Tryz.prog.info? 3).map (·.size)=some 1:=by kernel_rfl
theorem cD:(Tryz.prog.info? 24).map (·.size)=some 1:=by kernel_rfl
theorem QI:(Tryz.prog.info? 27).map (·.size)=some 1:=by kernel_rfl
theorem ZK:(Tryz.prog.info? 30).map (·.size)=some 1:=by kernel_rfl
theorem T7:(Tryz.prog.info? 47).map (·.size)=some 1:=by kernel_rfl
theorem XO:(Tryz.prog.info? 52).map (·.size)=some 1:=by kernel_rfl
theorem cE:(Tryz.prog.info? 53).map (·.size)=some 1:=by kernel_rfl
theorem VK:(Tryz.prog.info? 178).map (·.size)=some 1:=by kernel_rfl
theorem BH:TI Tryz.prog 2 1 (.int .i64 0) 8:=by unfold TI;kernel_rfl
theorem cW:TI Tryz.prog 5 1 (.int .u8 0) 1:=by unfold TI;kernel_rfl
theorem cX:TI Tryz.prog 9 1 (.string ByteArray.empty) 16:=by unfold TI;kernel_rfl
theorem Bf:TI Tryz.prog 27 1 (.slice none 0 0) 24:=by unfold TI;kernel_rfl
theorem u2:Tryz.prog.underlying 2=some (.int .i64):=by kernel_rfl
theorem u3:Tryz.prog.underlying 3=some (.int .i64):=by kernel_rfl
theorem u4:Tryz.prog.underlying 4=some (.bool):=by kernel_rfl
theorem u5:Tryz.prog.underlying 5=some (.int .u8):=by kernel_rfl
theorem u9:Tryz.prog.underlying 9=some (.string):=by kernel_rfl
theorem QP:Tryz.prog.underlying 22=some (.slice 5):=by kernel_rfl
theorem GF:Tryz.prog.underlying 24=some (.slice 49):=by kernel_rfl
theorem Bj:Tryz.prog.underlying 27=some (.slice 2):=by kernel_rfl
theorem C0:Tryz.prog.underlying 30=some (.slice 27):=by kernel_rfl
theorem D5:Tryz.prog.underlying 47=some (.slice 153):=by kernel_rfl
theorem OO:Tryz.prog.underlying 52=some (.slice 69):=by kernel_rfl
theorem ZL:Tryz.prog.underlying 53=some (.slice 208):=by kernel_rfl
theorem XP:Tryz.prog.underlying 148=some (.slice 9):=by kernel_rfl
theorem UJ:Tryz.prog.underlying 178=some (.int .u64):=by kernel_rfl
theorem CI:EA Tryz.prog 26 1=true:=by kernel_rfl
theorem QJ:(Tryz.prog.info? 26).map (·.zero)=some (some (.agg #[.slice none 0 0])):=by kernel_rfl
theorem BA:G4 Tryz.prog 26 0 0=true:=by kernel_rfl
theorem Ln:EA Tryz.prog 49 3=true:=by kernel_rfl
theorem XQ:(Tryz.prog.info? 49).map (·.zero)=some (some (.agg #[.string ByteArray.empty,.int .i64 0,.slice none 0 0])):=by kernel_rfl
theorem CC:TI Tryz.prog 49 3 (.agg #[.string ByteArray.empty,.int .i64 0,.slice none 0 0]) 48:=by unfold TI;kernel_rfl
theorem JQ:G4 Tryz.prog 49 0 0=true:=by kernel_rfl
theorem Cr:G4 Tryz.prog 49 1 1=true:=by kernel_rfl
theorem BU:G4 Tryz.prog 49 2 2=true:=by kernel_rfl
theorem ER:EA Tryz.prog 55 4=true:=by kernel_rfl
theorem ZM:(Tryz.prog.info? 55).map (·.zero)=some (some (.agg #[.int .i64 0,.slice none 0 0,.slice none 0 0,.slice none 0 0])):=by kernel_rfl
theorem N7:G4 Tryz.prog 55 0 0=true:=by kernel_rfl
theorem Fw:G4 Tryz.prog 55 1 1=true:=by kernel_rfl
theorem N8:G4 Tryz.prog 55 2 2=true:=by kernel_rfl
theorem Lp:G4 Tryz.prog 55 3 3=true:=by kernel_rfl
theorem Fx:EA Tryz.prog 69 4=true:=by kernel_rfl
theorem T8:(Tryz.prog.info? 69).map (·.zero)=some (some (.agg #[.int .i64 0,.int .i64 0,.int .i64 0,.int .i64 0])):=by kernel_rfl
theorem Jo:TI Tryz.prog 69 4 (.agg #[.int .i64 0,.int .i64 0,.int .i64 0,.int .i64 0]) 32:=by unfold TI;kernel_rfl
theorem Lq:G4 Tryz.prog 69 0 0=true:=by kernel_rfl
theorem CS:G4 Tryz.prog 69 1 1=true:=by kernel_rfl
theorem CG:G4 Tryz.prog 69 2 2=true:=by kernel_rfl
theorem Fy:G4 Tryz.prog 69 3 3=true:=by kernel_rfl
theorem Qg:G4 Tryz.prog 129 0 0=true:=by kernel_rfl
theorem FO:G4 Tryz.prog 129 1 1=true:=by kernel_rfl
theorem DI:G4 Tryz.prog 129 2 5=true:=by kernel_rfl
theorem N9:G4 Tryz.prog 129 3 6=true:=by kernel_rfl
theorem EX:G4 Tryz.prog 129 4 7=true:=by kernel_rfl
theorem Ey:G4 Tryz.prog 151 0 0=true:=by kernel_rfl
theorem UK:G4 Tryz.prog 151 1 1=true:=by kernel_rfl
theorem Na:G4 Tryz.prog 151 2 2=true:=by kernel_rfl
theorem UL:G4 Tryz.prog 151 3 3=true:=by kernel_rfl
theorem B6:EA Tryz.prog 153 5=true:=by kernel_rfl
theorem Hq:(Tryz.prog.info? 153).map (·.zero)=some (some (.agg #[.int .i64 0,.int .i64 0,.int .i64 0,.int .i64 0,.slice none 0 0])):=by kernel_rfl
theorem Bn:TI Tryz.prog 153 5 (.agg #[.int .i64 0,.int .i64 0,.int .i64 0,.int .i64 0,.slice none 0 0]) 56:=by unfold TI;kernel_rfl
theorem Bh:G4 Tryz.prog 153 0 0=true:=by kernel_rfl
theorem BI:G4 Tryz.prog 153 1 1=true:=by kernel_rfl
theorem Dd:G4 Tryz.prog 153 2 2=true:=by kernel_rfl
theorem Dt:G4 Tryz.prog 153 3 3=true:=by kernel_rfl
theorem Ba:G4 Tryz.prog 153 4 4=true:=by kernel_rfl
theorem UM:G4 Tryz.prog 187 0 0=true:=by kernel_rfl
theorem Nb:G4 Tryz.prog 187 1 1=true:=by kernel_rfl
theorem KF:G4 Tryz.prog 187 2 2=true:=by kernel_rfl
theorem GG:G4 Tryz.prog 187 3 3=true:=by kernel_rfl
theorem Tc:EA Tryz.prog 208 2=true:=by kernel_rfl
theorem ZN:(Tryz.prog.info? 208).map (·.zero)=some (some (.agg #[.int .i64 0,.bool false])):=by kernel_rfl
theorem OP:TI Tryz.prog 208 2 (.agg #[.int .i64 0,.bool false]) 16:=by unfold TI;kernel_rfl
theorem UN:G4 Tryz.prog 208 0 0=true:=by kernel_rfl
theorem Qh:G4 Tryz.prog 225 0 0=true:=by kernel_rfl
theorem UO:G4 Tryz.prog 225 1 1=true:=by kernel_rfl
theorem KG:G4 Tryz.prog 225 2 2=true:=by kernel_rfl
theorem GH:G4 Tryz.prog 225 3 3=true:=by kernel_rfl
theorem OQ:EA Tryz.prog 249 2=true:=by kernel_rfl
theorem UP:G4 Tryz.prog 249 0 0=true:=by kernel_rfl
theorem UQ:G4 Tryz.prog 249 1 1=true:=by kernel_rfl
end Go.Proofs.YtbajepcpgncekaaGreat
